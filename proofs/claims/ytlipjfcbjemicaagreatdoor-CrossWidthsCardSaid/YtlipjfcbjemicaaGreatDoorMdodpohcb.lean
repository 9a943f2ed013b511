/- Texts that go together: SCodeW DfI SBitW DfA InfGx DfB SDefl DfC DfJ DfD DfK DfL DfM DfN. -/
import Derived.Test.YtlipjfcbjemicaaGreatDoorRows
import Derived.Test.YtlipjfcbjemicaaGreatDoorMigpkhdkb
set_option linter.defProp false
set_option linter.unusedSimpArgs false
set_option linter.unusedVariables false
set_option maxRecDepth 20000
open Go.Proofs.Tryz
open Go.Proofs.Tryz renaming prog->ah
open Option renaming some->ax,none->aw
open Bool renaming true->av,false->au
open Go renaming Value->aq,World->ao
open Decidable renaming decide->ai
namespace Go.Proofs.YtlipjfcbjemicaaGreatDoor
variable{A S:Nat->Prop}{K:VWP}{M N:Eng.Mem}{PK PK2:PKT}{Sy cl l near:List Nat}{T1 U:TypeId}{W w w0:ao}{a way:Int}{b cap fb i j jm m t tb:Nat}{cb:Array Bool}{cs:List aq}{k':IntKind}{ps:List Pc}{pv v v' va:aq}{r:List Cn}{xo yo:Operand}{t0 t1 t2 t3:aq}{k0:Eng.KT}
section
open Eng
def nH(t0 t1 t2 t8 w)(N1:JT)(K:KT):=nz f302 175 [N1] [nh 15 [8]] [] (zg [0,1,2,8] [t0,t1,t2,t8]) w K
def qD(t0 t1 t2 w)(K:KT):=nz f302 1 [] [(15,[8],λs v j w f=>nH (s 0) (s 1) (s 2) (vg v 0) w (f 0) K)] [] (zg [0,1,2] [t0,t1,t2]) w K
theorem yE:qD t0 t1 t2 w k0->Calls ah 302 #[t0,t1,t2] w k0:=cz [] [(7,[8])] func302
def mS(t0 t1 w)(K:KT):=nz f329 1 [] [] [] (zg [0,1] [t0,t1]) w K
theorem oA:mS t0 t1 w k0->Calls ah 329 #[t0,t1] w k0:=cw func329
def vH(t9 t85 t86 t87 w)(a:JT)(K:KT):=nz f298 45055 [a] [nh 57 [87]] [] (zg [9,85,86,87] [t9,t85,t86,t87]) w K
def uT(t6 t9 t10 t72 t73 w)(a:JT)(K:KT):=nz f298 22527 [a] [nh 49 [10,73],(57,[87],λs v j w f=>vH (s 9) (s 85) (s 86) (vg v 0) w (f 0) K)] [] (zg [6,9,10,72,73] [t6,t9,t10,t72,t73]) w K
def vI(t1 t6 t9 w)(K:KT):=nz f298 511 [] [(49,[10,73],λs v j w f=>uT (s 6) (s 9) (vg v 0) (s 72) (vg v 1) w (f 0) K)] [] (zg [1,6,9] [t1,t6,t9]) w K
def uG(t6 t24 w)(N1:JT)(K:KT):=nz f298 1967 [N1] [nh 15 [6,24]] [] (zg [6,24] [t6,t24]) w K
def uX(t0 t1 t6 t22 t23 t24 w)(N1:JT)(K:KT):=nz f298 175 [N1] [nh 15 [6,24],(26,[6],λs v j w f=>uG (vg v 0) (s 24) w (f 0) K),(38,[],λs v j w f=>vI (s 1) (s 6) (s 9) w K)] [(18,8)] (zg [0,1,6,22,23,24] [t0,t1,t6,t22,t23,t24]) w K
def AZ(t0 t1 w)(K:KT):=nz f298 1 [] [(15,[6,24],λs v j w f=>uX (s 0) (s 1) (vg v 0) (s 22) (s 23) (vg v 1) w (f 0) K)] [] (zg [0,1] [t0,t1]) w K
theorem DM:AZ t0 t1 w k0->Calls ah 298 #[t0,t1] w k0:=cz [(13,[6]),(19,[])] [(7,[6,24]),(24,[10,73]),(28,[87])] func298
def pV(t0 t1 w)(K:KT):=nz f330 1 [] [] [] (zg [0,1] [t0,t1]) w K
theorem wL:pV t0 t1 w k0->Calls ah 330 #[t0,t1] w k0:=cw func330
def Dt(t0 t1 w)(K:KT):=nz f327 1 [] [] [] (zg [0,1] [t0,t1]) w K
theorem E7:Dt t0 t1 w k0->Calls ah 327 #[t0,t1] w k0:=cw func327
def yA(t0 w)(K:KT):=nz f345 1 [] [] [] (zg [0] [t0]) w K
theorem Cg:yA t0 w k0->Calls ah 345 #[t0] w k0:=cw func345
def AH(b c a w)(N1:JT)(K:KT):=
 bnx .add 3 a (iN 1) w K λd w=>lnx 341 b w K λe w=>bnx .lss 3 d e w K λf w=>IfX f (QuietX w (λD=>QDo ah D (mIA 341 b a) λg=>QDo ah D (aH 342 g) λh=>QDo ah D (mNil h) λi=>QDo ah D (mFA 344 i 0) λj=>QDo ah D (aH 3 j) λk=>QDo ah D (mBin .add 3 a (iN 1)) λl=>QDo ah D (mIA 341 b l) λm=>QDo ah D (aH 342 m) λn=>QDo ah D (mNil n) λo=>QDo ah D (mFA 344 o 0) λp=>QDo ah D (aH 3 p) λq=>QDo ah D (mBin .add 3 k q) λr=>QDo ah D (mIA 341 b a) λs=>QDo ah D (aH 342 s) λt=>QDo ah D (mBin .add 3 a (iN 1)) λu=>QDo ah D (mIA 341 b u) λv=>QDo ah D (aH 342 v) λx=>QDo ah D (aS 344 #[(0,r),(2,t),(3,x)]) λy=>
 ∀w,D w ->
 DoX ah (mBox 344 y) w (ay 9 (pk K)) λz w=>DoX ah (bN 341 1 #[(0,z)]) w (ay 9 (pk K)) λA w=>DoX ah (mB .append #[341,341] 341 #[au,au] #[c,A]) w (ay 9 (pk K)) λB w=>bnx .add 3 a (iN 2) w K λC w=>N1 [B,C] w)) (K (.returned c) w)
def Em(t0 w)(K:KT):=nz f328 1 [] [(7,[3,4],λs v j w f=>AH (s 0) (vg v 0) (vg v 1) w (f 0) K)] [] (zg [0] [t0]) w K
theorem G4:Em t0 w k0->Calls ah 328 #[t0] w k0:=cz [] [(3,[3,4])] func328
def fA(t0 t1 t2 w)(K:KT):=nz f344 1 [] [] [] (zg [0,1,2] [t0,t1,t2]) w K
theorem jG:fA t0 t1 t2 w k0->Calls ah 344 #[t0,t1,t2] w k0:=cw func344
def eO(t0 t1 t2 w)(K:KT):=nz f352 1 [] [] [(1,8)] (zg [0,1,2] [t0,t1,t2]) w K
theorem iK:eO t0 t1 t2 w k0->Calls ah 352 #[t0,t1,t2] w k0:=cw func352
end
section
open Eng Go.RowKit
def cnC (w s:Nat)(a b:aq):List Value:=[.int .i64 (w:Int),.int .i64 (s:Int),a,b]
abbrev cnE (c w s:Nat)(a b:aq):Ent:=.cells c (cnC w s a b) 344
theorem TC:fOff ah 344 0=ax 0:=krx
theorem YD:fOff ah 344 1=ax 1:=krx
theorem SS:fOff ah 344 2=ax 2:=krx
theorem agH:fOff ah 344 3=ax 3:=krx
def CnAt (A:Nat->Prop)(w:ao):aq->Cn->Prop
|v,.leaf wt s=>∃b,v=.pointer (ax ⟨b,0,aw⟩)∧A b∧(cnE b wt s (.pointer aw) (.pointer aw)).is w
|v,.node x y=>∃b va a,v=.pointer (ax ⟨b,0,aw⟩)∧A b∧(cnE b (x.wt+y.wt) 0 va a).is w∧CnAt A w va x∧CnAt A w a y
theorem Po (h:M.le N){T:TypeId}(a:M.A b)(k:(Ent.cells b cs T).is M.w):(Ent.cells b cs T).is N.w:=by
 show N.w.heap[b]?=_;rw[h.has b a];exact k
theorem CnAt.le {M N:Mem}(h:M.le N):∀{c:Cn} {v:aq},CnAt M.A M.w v c->CnAt N.A N.w v c
|.leaf wt s,v,⟨b,d,a,e⟩=>⟨b,d,h.A b a,Po h a e⟩
|.node x y,v,⟨b,va,f,d,a,e,g,i⟩=>⟨b,va,f,d,h.A b a,Po h a e,CnAt.le h g,CnAt.le h i⟩
theorem jK (a:M.has W){T:TypeId}(c:M.A b)(k:(Ent.cells b cs T).is M.w):(Ent.cells b cs T).is W:=by
 show W.heap[b]?=_;rw[a b c];exact k
theorem CnAt.ptr {c:Cn}(h:CnAt A w v c):∃b,v=.pointer (ax ⟨b,0,aw⟩)∧A b:=by
 cases c with
|leaf wt s=>obtain⟨b,a,d,_⟩:=h;exact⟨b,a,d⟩
|node x y=>obtain⟨b,_,_,a,d,_⟩:=h;exact⟨b,a,d⟩
theorem CnAt.wt {M:Mem}{v:aq}{c:Cn}(h:CnAt M.A M.w v c):∃b s va a,v=.pointer (ax ⟨b,0,aw⟩)∧M.A b∧(cnE b c.wt s va a).is M.w:=by
 cases c with
|leaf wt s=>obtain⟨b,d,e,f⟩:=h;exact⟨b,s,_,_,d,e,f⟩
|node x y=>obtain⟨b,va,a,d,e,f,_⟩:=h;exact⟨b,0,va,a,d,e,f⟩
def okM (M:Mem)(x:Pc):Prop:=CnAt M.A M.w x.1 x.2
theorem My (a b:Nat)(w:ao):Ret ah 353 #[.int .i64 (a:Int),.int .i64 (b:Int)] w (λv w'=>v=.int .i64 (cmpI a b)∧w=w'):=by
 refine aZ λK c=>Ah ?_;unfold sR nz;refine c_eq (I4 a w) (c_eq (I4 b w) ?_);unfold cmpI at c;simp only[rs];by_cases d:a < b
 ·simp only[show ai ((a:Int) < (b:Int))=av from alM om,i_t];rw[alH d] at c;exact c _ _ ⟨rfl,rfl⟩
 ·simp only[show ai ((a:Int) < (b:Int))=au from alJ om,i_f];rw[alG d] at c;by_cases e:b < a
  ·simp only[show ai ((b:Int) < (a:Int))=av from alM om,i_t];rw[alH e] at c;exact c _ _ ⟨rfl,rfl⟩
  ·simp only[show ai ((b:Int) < (a:Int))=au from alJ om,i_f];rw[alG e] at c;exact c _ _ ⟨rfl,rfl⟩
theorem HO {c:Cn}(a:M.has W)(h:CnAt M.A M.w v c):Ret ah 345 #[v] W (λr w'=>r=.int .i64 (c.wt:Int)∧W=w'):=by
 refine aZ λK d=>Cg ?_;unfold yA nz;obtain⟨b,s,va,e,rfl,f,g⟩:=h.wt;rw[bG,aO TC];refine aD (aB aU (aI (T:=344) (cs:=cnC c.wt s va e) (jK a f g) (i:=0) rfl)) |>.mpr ?_;exact d _ _ ⟨rfl,rfl⟩
theorem Co:cO ah 345=true:=krx
theorem KY:cO ah 352=true:=krx
theorem aiB:eD ah 359=true:=krx
def wtF:Value:=.func (.func 345) #[] #[]
abbrev fcE (b:Nat):Ent:=.cells b [wtF] 359
theorem Wm {x y:Pc}(b:M.has W)(e:M.A fb)(f:(fcE fb).is M.w)(g:okM M x)(j:okM M y) :
  Ret ah 352 #[x.1,y.1,.pointer (ax ⟨fb,0,aw⟩)] W (λv w'=>v=.int .i64 (cmpI (pw x) (pw y))∧Below W.heap.size W w'):=by
 refine aZ λK k=>iK ?_;unfold eO nz;have d:∀{W:ao},M.has W->(aH 359 (.pointer (ax ⟨fb,0,aw⟩))).run ah W=.ok (.value wtF) W:=λb=>aB aiB (aI (T:=359) (cs:=[wtF]) (jK b e f) (i:=0) rfl);have c:=Own.start W;refine dK (λV=>Own W V []) c.drew ?_;have a:∀{V:ao},Own W V []->M.has V:=λh=>Mem.L5 b h.below;refine q_at _ (λV h=>d (a h)) ?_;refine WL Co (.int .i64 (pw x:Int)) (λV h=>(HO (a h) g).mono λv w' r=>⟨r.1,by rw[<-r.2];exact h⟩) ?_;refine q_at _ (λV h=>d (a h)) ?_;refine WL Co (.int .i64 (pw y:Int)) (λV h=>(HO (a h) j).mono λv w' r=>⟨r.1,by rw[<-r.2];exact h⟩) ?_;refine lO (.int .i64 (cmpI (pw x) (pw y))) (λV h=>(My (pw x) (pw y) V).mono λv w' r=>⟨r.1,by rw[<-r.2];exact h⟩) ?_;intro V l;exact k _ _ ⟨rfl,l.done⟩
theorem aeX (c:M.A fb)(d:(fcE fb).is M.w):CmpOk M (.func (.func 352) #[] #[.pointer (ax ⟨fb,0,aw⟩)]) (okM M) where
 ptr:=λx a=>by
  obtain⟨b,e,_⟩:=CnAt.ptr a;rw[e];exact⟨rfl,rfl⟩
 run:=⟨_,_,_,rfl,KY,λW x y f a g=>Wm f c d a g⟩
theorem JG:elB ah 342 1 8=true:=krx
theorem afZ:eD ah 341=true:=krx
section
variable {w:ao}{PK:PKT}{K:VWP}{S:Nat->Prop}{w0:ao}{L T:List Ent}
theorem UR (h:∀x∈ps,okM M x):∀u∈pcW ps,u.oneCell'=true:=by
 intro u hu;obtain⟨x,a,rfl⟩:=amM.1 hu;obtain⟨b,c,_⟩:=CnAt.ptr (h x a);rw[c];rfl
theorem Ol (a b:List Pc):pcW (a++b)=pcW a++pcW b:=by simp[pcW]
theorem YM (o:OwnS S w0 w L)(p:0 < m)(t:m<=1000000000)
  (k:∀b c w',m<=c->OwnS S w0 w' (.urow 342 1 (.slice (ax ⟨b,0,aw⟩) 0 c) 0 []::L)->K (.slice (ax ⟨b,0,aw⟩) m c) w') :
  DoX ah (mB .append #[341,3] 341 cb #[.slice aw 0 0,.int .i64 (m:Int)]) w PK K:=by
 obtain⟨i,z,hi,q,r,f,n⟩:=jR JG;have a:(Builtin.firstCells i.size 0 (.slice aw 0 0)).run ah w.drew=.ok ([]:List aq).toArray w.drew:=by
  simp[Builtin.firstCells]
 have g:=grownCap_ge w (0+m) 0 342;have hle:=grownCap_le_maxLen w (0+m) 0 342 (by simp only[maxLen];omega);have s:=Lib.run_append_grow_zeros (P:=ah) w 341 3 341 342 i z .i64 .i64 aoE anG hi q aw 0 0 [] a m p om om om (by
   rw[f];omega) (by rw[f];exact growslice_fits om om)
 have h:∀x,(Builtin.zeroCells z.cells x).toList.length=x*1:=by intro x;simp[Builtin.zeroCells,n]
 obtain⟨d,j⟩:∃d,d=(Builtin.zeroCells z.cells m).toList++(Builtin.zeroCells z.cells (grownCap w (0+m) 0 342 - (0+m))).toList:=⟨_,rfl⟩;have hlen:d.length=grownCap w (0+m) 0 342:=by
  rw[j,alI,h,h];omega
 have key:=(o.drew).alloc d 342;have e:d.toArray=([]:List aq).toArray++Builtin.zeroCells z.cells m++Builtin.zeroCells z.cells (grownCap w (0+m) 0 342 - (0+m)):=by
  rw[j];simp
 have l:(mB .append #[341,3] 341 cb #[.slice aw 0 0,.int .i64 (m:Int)]).run ah w=.ok (.value (.slice (ax ⟨w.heap.size,0,aw⟩) (0+m) (grownCap w (0+m) 0 342))) (w.drew.alloc (.cells d.toArray 342)):=by
  rw[e];simp[mB,builtin,s]
 have hu:=key.toU 1 0 (grownCap w (0+m) 0 342) om om (by simp only[maxLen] at hle;exact hle);rw[aoO,apL] at hu;rw[alU] at l hu g;exact rS l (k _ _ _ g hu)
theorem aeK:(Tryz.prog.info? 341).map (·.size)=ax 1:=krx
theorem adD (d:OwnS S w0 w L)(g:0 < m)(h:m<=1000000000)(k:∀v W,OwnS S w0 W (.urow 342 1 v 0 []::L)->K v W):CallX ah 360 #[.slice aw 0 0,.int .i64 (m:Int)] w PK K:=by
 refine fG (eF (k0:=RetK λv W=>OwnS S w0 W (.urow 342 1 v 0 []::L)) ?_) (λe W ⟨v,he,d⟩=>by subst he;exact k v W d);unfold cH nz;refine join λJ i=>?_;simp only[rs,show ai ((m:Int) < 0)=au from alJ om,i_f];refine i _ _ λ_=>?_;unfold cE nz;refine join λl f=>?_;rw[PG aoE,bQ aoE];simp only[rs];have j:IntKind.i64.wrap (((0:Nat):Int) - ((0:Nat):Int))=0:=aA om om;rw[j];rw[aA om om];simp only[show ai ((0:Int) < (m:Int) - 0)=av from alM om,i_t];rw[PG aoE,Int.sub_zero];have es:∀{PK:PKT} {K:VWP},DoX ah (eG 341 (.slice aw 0 0) aw (ax (.int .i64 ((0:Nat):Int))) aw) w PK K=K (.slice aw 0 0) w:=aD krx;rw[es];refine YM d g h λb c w2 n d=>?_;rw[bQ aoE];refine aD (jM aoE DP om om) |>.mpr ?_;refine f _ _ λ_=>?_;simp only[cB,gd,nz];have e:subA (ax ⟨b,0,aw⟩) 0 c 1=ax ⟨b,0,aw⟩:=EZ (a:=⟨b,0,aw⟩);rw[e];exact retK d
theorem Wx {g:Nat}{h:aq}{a c:List Pc}(hm:T[jm]?=ax (.mem M))(d:OwnS S w0 w (.cells g [va,h] 341::T))(I:SlA M.A M.w va 1 a.length (pcW a))(L:SlA M.A M.w h 1 c.length (pcW c))
  (B:∀x∈a,okM M x) (C:∀x∈c,okM M x) (Q:0 < a.length) (j:a.length<=100000000) (q:c.length<=100000000)
  (k:∀v W,OwnS S w0 W (pcE v (a++c)::.cells g [va,h] 341::T)->K v W) :
  CallX ah 350 #[.slice (ax ⟨g,0,aw⟩) 2 2] w PK K:=by
 refine fG (eA (k0:=RetK λv W=>OwnS S w0 W (pcE v (a++c)::.cells g [va,h] 341::T)) ?_) (λe W ⟨v,he,d⟩=>by subst he;exact k v W d);unfold cD nz;rw[bQ auC];have D:∀{W:ao} {e:Ent},OwnS S w0 W (e::T)->M.has W:=λd=>d.hasM (jm+1) (by rw[amS];exact hm);have E:∀{W:ao} {e e':Ent},OwnS S w0 W (e::e'::T)->M.has W:=λd=>d.hasM (jm+2) (by rw[amS,amS];exact hm);have r:∀{i:Nat} (W:ao),i < 2->(mIA 373 (.slice (ax ⟨g,0,aw⟩) 2 2) (.int .i64 (i:Int))).run ah W=.ok (.value (.pointer (ax ⟨g,i,aw⟩))) W:=λ{i} W hi=>by
  have:=dY (P:=ah) (T:=373) (b:=g) (off:=0) (cap:=2) (n:=2) (k:=.i64) (i:=(i:Int)) (w:=W) auC aeK om om
  rwa [alQ,amI,alU] at this
 have s:∀{i:Nat} {W:ao},i < 2->M.has W->Sl W ([va,h].getD i undef) 1 ([a,c].getD i []).length (pcW ([a,c].getD i [])):=λ{i W} hi F=>by
  rcases (by omega:i=0∨i=1) with rfl|rfl
  ·exact I.now F
  ·exact L.now F
 have t:∀{i:Nat},i < 2->[va,h][i]?=ax ([va,h].getD i undef):=λ{i} hi=>by
  rcases (by omega:i=0∨i=1) with rfl|rfl<;>rfl
 refine loop (λvs W=>∃i sz:Nat,vs=[.int .i64 (sz:Int),.int .i64 (i:Int)]∧i<=2∧sz=(([a,c].take i).flatten).length∧OwnS S w0 W (.cells g [va,h] 341::T)) (λvs _=>2 - n1 vs) ⟨0,0,rfl,om,rfl,d⟩ ?_;clear d;rintro vs N ⟨i,sz,rfl,hi,l,d⟩ _;simp only[bS,gd,rs,nz];by_cases y:(i:Int) < ((2:Nat):Int)
 ·simp only[y,alK,i_t];have f:i < 2:=om
  refine join λJ O=>?_;refine aD (r N f) |>.mpr (aD (aB afZ (d.cell 0 rfl i (t f))) |>.mpr ?_);rw[bE aoE (s f (D d))];have hle:([a,c].getD i []).length<=100000000:=by
   rcases (by omega:i=0∨i=1) with rfl|rfl
   ·exact j
   ·exact q
  have G:sz<=100000000:=by
   rw[l];rcases (by omega:i=0∨i=1) with rfl|rfl
   ·simp
   ·simpa using j
  have o:sz+([a,c].getD i []).length=(([a,c].take (i+1)).flatten).length:=by
   rw[l];rcases (by omega:i=0∨i=1) with rfl|rfl<;>simp
  simp only[rs];rw[aA om om];simp only[show ai ((sz:Int)+((([a,c].getD i []).length:Nat):Int) < 0)=au from alJ om,i_f];refine O _ _ λ_=>?_;simp only[bW,gd,rs,nz];rw[aA om om];exact aY ⟨i+1,sz+([a,c].getD i []).length,by congr 2,om,o,d⟩ (by simp[n1,RowKit.intOf];omega)
 ·simp only[y,alL,i_f];have p:i=2:=om
  subst p;have l:sz=a.length+c.length:=by rw[l];simp
  refine adD d om om λv0 w2 d=>?_;rw[bQ auC];refine loop (λvs W=>∃(i:Nat) (v:aq),vs=[v,.int .i64 (i:Int)]∧i<=2∧OwnS S w0 W (pcE v (([a,c].take i).flatten)::.cells g [va,h] 341::T)) (λvs _=>2 - n1 vs) ⟨0,v0,rfl,om,d⟩ ?_;clear d;rintro vs w3 ⟨i,v,rfl,hi,d⟩ _;simp only[bV,gd,rs,nz];by_cases m:(i:Int) < ((2:Nat):Int)
  ·simp only[m,alK,i_t];have f:i < 2:=om
   refine aD (r w3 f) |>.mpr (aD (aB afZ (d.cell 1 rfl i (t f))) |>.mpr ?_);have hle:([a,c].getD i []).length<=100000000:=by
    rcases (by omega:i=0∨i=1) with rfl|rfl
    ·exact j
    ·exact q
   have H:(([a,c].take i).flatten).length<=100000000:=by
    rcases (by omega:i=0∨i=1) with rfl|rfl
    ·simp
    ·simpa using j
   have z:∀u∈pcW ([a,c].getD i []),u.oneCell'=true:=by
    rcases (by omega:i=0∨i=1) with rfl|rfl
    ·exact UR B
    ·exact UR C
   have o:([a,c].take (i+1)).flatten=([a,c].take i).flatten++[a,c].getD i []:=by
    rcases (by omega:i=0∨i=1) with rfl|rfl<;>simp
   refine bR 0 aoE JG dc d rfl (s f (E d)) z om om λv' R d=>?_
   try simp only[rs]
   rw[aA om om];refine aY ⟨i+1,v',by congr 2,om,?_⟩ (by simp[n1,RowKit.intOf];omega);rw[o];unfold pcE;rw[Ol,alI];exact d
  ·simp only[m,alL,i_f];have p:i=2:=om
   subst p;have e:([a,c].take 2).flatten=a++c:=sm
   rw[e] at d;exact retK d
end
theorem okM.le {M N:Mem}(h:M.le N){x:Pc}(k:okM M x):okM N x:=CnAt.le h k
theorem GJ (c d:List Pc)(va e:aq)(M:Mem)(w:ao)(y:M.has w)(B:SlA M.A M.w va 1 c.length (pcW c))(C:SlA M.A M.w e 1 d.length (pcW d))(j:∀x∈c,okM M x)(k:∀x∈d,okM M x)(D:0 < c.length)(E:c.length<=10000000)(F:d.length<=10000000)
  (o:va.oneCell'=av) (p:e.oneCell'=av) :
  RetM ah 327 #[va,e] M w (λr N=>∃f:List Pc,f.Perm (c++d)∧Srt.srt pw f∧(∀x∈f,okM N x)∧r.oneCell'=av∧SlA N.A N.w r 1 f.length (pcW f)):=by
 refine bB y λK G=>E7 ?_;unfold Dt nz;have a:OwnS M.A w w [.mem M]:=OwnS.memS y;refine⟨jG ?_⟩;unfold fA nz;refine bA (λb=>.pointer (ax ⟨b,0,aw⟩)) [wtF] 359 (λ_=>by kernel_rfl) a λfb Q a=>?_;have q:=a.at_ 0 rfl;obtain⟨N1,g1,s,l,a⟩:=OwnS.freeze (L:=[.mem M]) a 0 rfl;have t:N1.A fb:=l fb rfl;have m:(fcE fb).is N1.w:=by rw[s];exact q
 have H:∀W:ao,(bN 373 2 #[(0,va),(1,e)]).run ah W=.ok (.value (.slice (ax ⟨W.heap.size,0,aw⟩) 2 2)) (W.alloc (.cells [va,e].toArray 341)):=λW=>by
  cases va<;>first|(cases o;done)|(cases e<;>first|(cases p;done)|kernel_rfl)
 refine bA (λb=>.slice (ax ⟨b,0,aw⟩) 2 2) [va,e] 341 H a λz w2 a=>?_;refine Wx (jm:=0) rfl a (B.le g1) (C.le g1) (λx i=>(j x i).le g1) (λx i=>(k x i).le g1) D om om λv w3 a=>?_;have n:∀x∈c++d,okM N1 x:=λx i=>by
  rcases amK.1 i with h|h
  ·exact (j x h).le g1
  ·exact (k x h).le g1
 have hlen:(c++d).length=c.length+d.length:=alI;obtain⟨g,cap,rfl⟩:=mO (a.at_ 0 rfl) om;rw[pY];refine YU (jm:=1) (aeX t m) rfl om rfl a n λI f hp J a=>?_;have O:=hp.length_eq;have a:OwnS M.A w I (.urow 342 1 (.slice (ax ⟨g,0,aw⟩) (c++d).length cap) f.length (pcW f)::[.cells z [va,e] 341,.mem N1]):=a;obtain⟨P,g2,u,a⟩:=OwnS.bJ (L:=[.cells z [va,e] 341,.mem N1]) a 1 rfl;exact G _ _ P _ 1 a rfl (g1.trans g2) ⟨f,hp,J,λx i=>(n x (hp.mem_iff.1 i)).le g2,rfl,u⟩
theorem pcAt (a:SlA M.A M.w v 1 ps.length (pcW ps))(hi:i < ps.length) :
  ∃p,(∀W,(mIA 341 v (.int .i64 (i:Int))).run ah W=.ok (.value (.pointer (ax p))) W)∧∀W,M.has W->(aH 342 (.pointer (ax p))).run ah W=.ok (.value ps[i].1) W:=by
 obtain⟨b,off,cap,rfl,_⟩:=bX a.1 om;refine⟨⟨b,off+i,aw⟩,λW=>?_,λW e=>?_⟩
 ·have:=dY (P:=ah) (T:=341) (b:=b) (off:=off) (cap:=cap) (n:=ps.length) (k:=.i64) (i:=(i:Int)) (w:=W) aoE DP om om;rw[alQ,amI] at this;exact this
 ·obtain⟨g,c,d,he,f⟩:=bX (a.now e) om;cases he;refine aB L9 (f i _ ?_);rw[RX hi,alO,alT hi];rfl
theorem Ry (ps:List Pc)(v:aq)(M:Mem)(w:ao)(m:M.has w)(G:SlA M.A M.w v 1 ps.length (pcW ps))(n:∀x∈ps,okM M x)(hl:ps.length<=1000000)(o:∀x∈ps,pw x<=1000000000000000) :
  RetM ah 328 #[v] M w (λr N=>∃c:List Pc,c.map (·.2)=Cn.bF (ps.map (·.2))∧(∀x∈c,okM N x)∧r.oneCell'=av∧SlA N.A N.w r 1 c.length (pcW c)):=by
 refine bB m λK hK=>G4 ?_;unfold Em nz;have a:OwnS M.A w w [.mem M]:=OwnS.memS m;have a:OwnS M.A w w [.urow 342 1 nilS 0 [],.mem M]:=OwnS.nilU (L:=[.mem M]) a _ _;refine loop (λvs W=>∃(i:Nat) (v':aq) (c:List Pc) (N:Mem),vs=[v',.int .i64 (i:Int)]∧i<=ps.length+1∧M.le N∧c.length=i / 2∧i % 2=0∧c.map (·.2)++Cn.bF ((ps.drop i).map (·.2))=Cn.bF (ps.map (·.2))∧(∀x∈c,okM N x)∧OwnS M.A w W [pcE v' c,.mem N]) (λvs _=>ps.length+2 - n1 vs) ⟨0,nilS,[],M,rfl,om,M.le_refl,rfl,rfl,rfl,(λx J=>by cases J),a⟩ ?_;clear a;rintro vs w1 ⟨i,v',c,N,rfl,hi,hle,b7,b8,O,p,a⟩ _;simp only[AH,gd,rs,iN,bnx,lnx];rw[aA om om,bE aoE (G.now (Mem.K4 hle (a.hasM 1 rfl)))];simp only[rs];by_cases q:(i:Int)+1 < (ps.length:Int)
 ·simp only[q,alK,i_t];have b9:i+1 < ps.length:=om
  have c0:=λ{j:Nat} (hj:j < ps.length)=>pcAt G hj;have d:∀{V:ao},OwnS M.A w V [pcE v' c,.mem N]->M.has V:=λh=>Mem.K4 hle (h.hasM 1 rfl);obtain⟨p0,s,e⟩:=pcAt G (i:=i) om;obtain⟨p1,z,f⟩:=pcAt G (i:=i+1) om;have g:=n _ (alX (show i < ps.length by omega));have k:=n _ (alX (show i+1 < ps.length by omega));have B:=o _ (alX (show i < ps.length by omega));have C:=o _ (alX (show i+1 < ps.length by omega));have l:ps.drop i=ps[i]::ps[i+1]::ps.drop (i+2):=by
   rw[anB (show i < ps.length by omega),anB (show i+1 < ps.length by omega)]
  generalize ps[i]=x at e g B l;generalize ps[i+1]=y at f k C l;have D:=g.le hle;have E:=k.le hle;obtain⟨H,s0,P,Q,R,S,U⟩:=CnAt.wt g;obtain⟨I,s1,X,Y,Z,a1,a6⟩:=CnAt.wt k;have l0:∀{V:ao},M.has V->(aH 3 (.pointer (ax ⟨H,0+0,aw⟩))).run ah V=.ok (.value (.int .i64 (x.2.wt:Int))) V:=λm=>aB aU (aI (T:=344) (cs:=cnC x.2.wt s0 P Q) (jK m S U) (i:=0) rfl);have l1:∀{V:ao},M.has V->(aH 3 (.pointer (ax ⟨I,0+0,aw⟩))).run ah V=.ok (.value (.int .i64 (y.2.wt:Int))) V:=λm=>aB aU (aI (T:=344) (cs:=cnC y.2.wt s1 X Y) (jK m a1 a6) (i:=0) rfl);refine dK (λV=>OwnS M.A w V [pcE v' c,.mem N]) a.drew ?_;refine q_do _ s (q_at _ (λV h=>e V (d h)) ?_);rw[R];refine q_do _ (λ_=>dL) (q_do _ (λ_=>bC TC) (q_at _ (λV h=>l0 (d h)) ?_));refine oY ?_;rw[aA om om,show (i:Int)+1=((i+1:Nat):Int) by omega];refine q_do _ z (q_at _ (λV h=>f V (d h)) ?_);rw[Z];refine q_do _ (λ_=>dL) (q_do _ (λ_=>bC TC) (q_at _ (λV h=>l1 (d h)) ?_));have b5:x.2.wt<=1000000000000000:=B;have b6:y.2.wt<=1000000000000000:=C;refine oY ?_;rw[aA om om,show (x.2.wt:Int)+(y.2.wt:Int)=((x.2.wt+y.2.wt:Nat):Int) by omega];refine q_do _ s (q_at _ (λV h=>e V (d h)) ?_);refine oY ?_;rw[aA om om,show (i:Int)+1=((i+1:Nat):Int) by omega];refine q_do _ z (q_at _ (λV h=>f V (d h)) ?_);rw[R,Z];refine q_do (.agg (cnC (x.2.wt+y.2.wt) 0 (.pointer (ax ⟨H,0,aw⟩)) (.pointer (ax ⟨I,0,aw⟩))).toArray) (λ_=>by kernel_rfl) ?_;intro w2 a;refine bA (λb=>.pointer (ax ⟨b,0,aw⟩)) (cnC (x.2.wt+y.2.wt) 0 (.pointer (ax ⟨H,0,aw⟩)) (.pointer (ax ⟨I,0,aw⟩))) 344 (λ_=>by kernel_rfl) a λnb w3 a=>?_;have a7:=a.at_ 0 rfl;obtain⟨N1,g1,a8,F,a⟩:=OwnS.freeze (L:=[pcE v' c,.mem N]) a 1 rfl;have hz:okM N1 (.pointer (ax ⟨nb,0,aw⟩),.node x.2 y.2):=by
   refine⟨nb,.pointer (ax ⟨H,0,aw⟩),.pointer (ax ⟨I,0,aw⟩),rfl,F nb rfl,by rw[a8];exact a7,?_,?_⟩
   ·have:=D.le g1;unfold okM at this;rw[R] at this;exact this
   ·have:=E.le g1;unfold okM at this;rw[Z] at this;exact this
  have a:OwnS M.A w w3 [pcE v' c,.mem N1]:=a;refine bA (λb=>.slice (ax ⟨b,0,aw⟩) 1 1) [.pointer (ax ⟨nb,0,aw⟩)] 342 (λ_=>by kernel_rfl) a λsb w4 a=>?_;refine bR 1 aoE JG dc a rfl (oD (a.at_ 0 rfl) dc rfl) (λu hu=>by rw[amH.1 hu];rfl) om om λv2 w5 a=>?_
  try simp only[rs]
  rw[aA om om];have a:OwnS M.A w w5 [pcE v2 (c++[(.pointer (ax ⟨nb,0,aw⟩),.node x.2 y.2)]),.mem N1]:=by
   unfold pcE;rw[Ol,alI];exact a.tail
  refine aY ⟨i+2,v2,_,N1,rfl,om,hle.trans g1,by rw[alI,anO];omega,om,?_,λu hu=>?_,a⟩ (by simp[n1,RowKit.intOf];omega)
  ·rw[<-O,l,amW,alS];rfl
  ·rcases amK.1 hu with h|h
   ·exact (p u h).le g1
   ·rw[amH.1 h];exact hz
 ·simp only[q,alL,i_f];have b2:=cQ (a.at_ 0 rfl);have b3:Cn.bF ((ps.drop i).map (·.2))=[]:=by
   have hd:(ps.drop i).length<=1:=by rw[alW];omega
   rcases hp:ps.drop i with _|⟨x,_|⟨y,t⟩⟩
   ·rfl
   ·rfl
   ·rw[hp] at hd;simp at hd
  rw[b3,amE] at O;obtain⟨N2,g2,b4,a⟩:=OwnS.bJ (L:=[.mem N]) a 0 rfl;exact hK _ _ N2 _ 0 a rfl (hle.trans g2) ⟨c,O,λx J=>(p x J).le g2,b2,b4⟩
end
section
open Eng
def K8(w)(K:KT):=nz f287 1 [] [] [] (zg [] []) w K
theorem K7:K8 w k0->Calls ah 287 #[] w k0:=cw func287
def pO(t0 t1 t2 w)(K:KT):=nz f341 3 [] [] [(2,22)] (zg [0,1,2] [t0,t1,t2]) w K
def vA(t0 t1 t2 w)(K:KT):=nz f341 1 [] [(4,[],λs v j w f=>pO (s 0) (s 1) (s 2) w K)] [] (zg [0,1,2] [t0,t1,t2]) w K
theorem BC:vA t0 t1 t2 w k0->Calls ah 341 #[t0,t1,t2] w k0:=cz [(2,[])] [] func341
def qQ(w)(K:KT):=nz f317 31 [] [] [] (zg [] []) w K
def qO(t0 t1 t3 t9 t38 w)(N1:JT)(K:KT):=nz f317 1899 [N1] [nh 9 [38]] [] (zg [0,1,3,9,38] [t0,t1,t3,t9,t38]) w K
def qA(t0 t1 t2 t3 t37 t38 w)(N1:JT)(K:KT):=nz f317 43 [N1] [nh 9 [38],(16,[9],λs v j w f=>qO (s 0) (s 1) (s 3) (vg v 0) (s 38) w (f 0) K),(24,[],λs v j w f=>qQ w K)] [] (zg [0,1,2,3,37,38] [t0,t1,t2,t3,t37,t38]) w K
def uS(t0 t1 t2 t3 w)(K:KT):=nz f317 1 [] [(9,[38],λs v j w f=>qA (s 0) (s 1) (s 2) (s 3) (s 37) (vg v 0) w (f 0) K)] [] (zg [0,1,2,3] [t0,t1,t2,t3]) w K
theorem Bh:uS t0 t1 t2 t3 w k0->Calls ah 317 #[t0,t1,t2,t3] w k0:=cz [(8,[9]),(12,[])] [(4,[38])] func317
def uU(t0 t1 t2 w)(K:KT):=nz f288 1 [] [] [] (zg [0,1,2] [t0,t1,t2]) w K
theorem BD:uU t0 t1 t2 w k0->Calls ah 288 #[t0,t1,t2] w k0:=cw func288
def qE(t0 w)(K:KT):=nz f289 1 [] [] [] (zg [0] [t0]) w K
theorem wV:qE t0 w k0->Calls ah 289 #[t0] w k0:=cw func289
def qG(t0 t1 w)(K:KT):=nz f290 7 [] [] [] (zg [0,1] [t0,t1]) w K
def uD(t0 t1 w)(K:KT):=nz f290 1 [] [(6,[],λs v j w f=>qG (s 0) (s 1) w K)] [] (zg [0,1] [t0,t1]) w K
theorem Bv:uD t0 t1 w k0->Calls ah 290 #[t0,t1] w k0:=cz [(3,[])] [] func290
def rQ(t0 w)(K:KT):=nz f291 1 [] [] [] (zg [0] [t0]) w K
theorem Ag:rQ t0 w k0->Calls ah 291 #[t0] w k0:=cw func291
def jE(t0 w)(K:KT):=nz f318 1 [] [] [] (zg [0] [t0]) w K
theorem oF:jE t0 w k0->Calls ah 318 #[t0] w k0:=cw func318
end
section
open Eng Go.RowKit
theorem yg:∀(t:List Nat) (x:Nat),t.length < 8->bo (t++[x]) 0=bo t 0+x*2 ^ t.length
|[],x,_=>by simp[bo]
|[a],x,_=>by simp[bo];omega
|[a,b],x,_=>by simp[bo];omega
|[a,b,c],x,_=>by simp[bo];omega
|[a,b,c,d],x,_=>by simp[bo];omega
|[a,b,c,d,e],x,_=>by simp[bo];omega
|[a,b,c,d,e,f],x,_=>by simp[bo];omega
|[a,b,c,d,e,f,g],x,_=>by simp[bo];omega
|_::_::_::_::_::_::_::_::_,_,h=>by simp at h;omega
theorem yh:∀(t:List Nat),bn t->t.length < 8->bo t 0 < 2 ^ t.length
|[],_,_=>by simp[bo]
|[a],h,_=>by have:=h a sm;simp[bo];omega
|[a,b],h,_=>by have:=h a sm;have:=h b sm;simp[bo];omega
|[a,b,c],h,_=>by have:=h a sm;have:=h b sm;have:=h c sm;simp[bo];omega
|[a,b,c,d],h,_=>by have:=h a sm;have:=h b sm;have:=h c sm;have:=h d sm;simp[bo];omega
|[a,b,c,d,e],h,_=>by have:=h a sm;have:=h b sm;have:=h c sm;have:=h d sm;have:=h e sm;simp[bo];omega
|[a,b,c,d,e,f],h,_=>by have:=h a sm;have:=h b sm;have:=h c sm;have:=h d sm;have:=h e sm;have:=h f sm;simp[bo];omega
|[a,b,c,d,e,f,g],h,_=>by have:=h a sm;have:=h b sm;have:=h c sm;have:=h d sm;have:=h e sm;have:=h f sm;have:=h g sm;simp[bo];omega
|_::_::_::_::_::_::_::_::_,_,h=>by simp at h;omega
theorem xh (h:bn l){x:Nat}(p:x < 2):∃P c,c < 2 ^ (l.length % 8)∧(if l.length % 8=0 then az l++[0] else az l)=P++[UInt8.ofNat c]∧az (l++[x])=P++[UInt8.ofNat (c+x*2 ^ (l.length % 8))]:=by
 have f:l=l.take (8*(l.length / 8))++l.drop (8*(l.length / 8)):=(amX ..).symm;have e:(l.take (8*(l.length / 8))).length=8*(l.length / 8):=by rw[alR];omega
 have j:(l.drop (8*(l.length / 8))).length=l.length % 8:=by rw[alW];omega
 have d:bn (l.drop (8*(l.length / 8))):=λb o=>h b (apI o);generalize l.take (8*(l.length / 8))=a at f e;generalize l.drop (8*(l.length / 8))=t at f j d;generalize l.length / 8=k at e;rw[<-j,f,alS,lz e,lz e];have m:t.length < 8:=om
 have g:=yh t d m;have n:az (t++[x])=[UInt8.ofNat (bo t 0+x*2 ^ t.length)]:=by
  rw[<-yg t x m];unfold az;rw[alI,anO,show (t.length+1+7) / 8=1 by omega];rfl
 by_cases i:t.length=0
 ·have:t=[]:=apB.1 i;subst this;refine⟨az a,0,dc,?_,?_⟩
  ·rw[alH i];simp[az]
  ·rw[n];simp[bo]
 ·refine⟨az a,bo t 0,g,?_,by rw[n]⟩;rw[alG i]
  congr 1
  unfold az;rw[show (t.length+7) / 8=1 by omega];rfl
theorem vz (l:List Nat):(az l).length<=l.length:=by rw[kz];omega
def wrC (way:Int)(n:Nat)(v:aq):List Value:=[.int .i64 way,.int .i64 ((n % 8:Nat):Int),v]
abbrev wrE (b:Nat)(way:Int)(n:Nat)(v:aq):Ent:=.cells b (wrC way n v) 326
abbrev Wr (b:Nat)(way:Int)(l:List Nat)(v:aq)(T:List Ent):List Ent:=wrE b way l.length v::outR v (az l)::T
theorem XP:fOff ah 326 0=ax 0:=krx
theorem Sc:fOff ah 326 1=ax 2:=krx
section
variable {W:ao}{b n:Nat}{way:Int}{v:aq}
theorem aaJ (h:(wrE b way n v).is W):(aH 3 (.pointer (ax ⟨b,0,aw⟩))).run ah W=.ok (.value (.int .i64 way)) W:=aB aU (aI (T:=326) (cs:=wrC way n v) h (i:=0) rfl)
theorem aaX (h:(wrE b way n v).is W):(aH 3 (.pointer (ax ⟨b,0+1,aw⟩))).run ah W=.ok (.value (.int .i64 ((n % 8:Nat):Int))) W:=aB aU (aI (T:=326) (cs:=wrC way n v) h (i:=1) rfl)
theorem Tj (h:(wrE b way n v).is W):(aH 53 (.pointer (ax ⟨b,0+2,aw⟩))).run ah W=.ok (.value v) W:=aB NH (aI (T:=326) (cs:=wrC way n v) h (i:=2) rfl)
theorem RC (h:(wrE b way n v).is W):Ret ah 349 #[.pointer (ax ⟨b,0,aw⟩),.int .i64 1] W (λv w'=>v=.int .i64 ((n % 8:Nat):Int)∧Below W.heap.size W w'):=by
 refine aZ λK a=>nY ?_;unfold mX nz;simp only[rs,alK,bG];rw[sN];refine aD (aaX h) |>.mpr ?_;exact a _ _ ⟨rfl,(Own.start W).done⟩
theorem QE (h:(wrE b way n v).is W)(hw:way=0∨way=1):Ret ah 340 #[.pointer (ax ⟨b,0,aw⟩),.int .i64 1] W (λv w'=>v=.bool au∧Below W.heap.size W w'):=by
 refine aZ λK a=>nR ?_;unfold mP nz;have r:=aaJ h;rw[bG,Jh];refine aD r |>.mpr ?_;rcases hw with rfl|rfl
 ·simp only[rs,ne_eq,not_true,alL,g_un];exact a _ _ ⟨rfl,(Own.start W).done⟩
 ·simp only[rs,show ai ((1:Int)≠0)=av by decide,bG];rw[Jh];refine aD r |>.mpr ?_;simp only[rs,ne_eq,not_true,alL];exact a _ _ ⟨rfl,(Own.start W).done⟩
end
theorem aaG:∀a:Fin 256,∀k:Fin 8,a.val < 2 ^ k.val->bOr .u8 (a.val:Int) ((2 ^ k.val:Nat):Int)=((a.val+2 ^ k.val:Nat):Int):=by decide +kernel
theorem ahZ:∀a:Fin 256,bOr .u8 (a.val:Int) 0=(a.val:Int):=by decide +kernel
theorem or8 {c x k:Nat}(a:k < 8)(b:c < 2 ^ k)(d:x < 2):bOr .u8 (c:Int) ((x*2 ^ k:Nat):Int)=((c+x*2 ^ k:Nat):Int):=by
 have hp:2 ^ k<=2 ^ 7:=anN dc om;have e:(2:Nat) ^ 7=128:=rfl;rcases (by omega:x=0∨x=1) with rfl|rfl
 ·rw[aoO];exact ahZ ⟨c,om⟩
 ·rw[aqV];exact aaG ⟨c,om⟩ ⟨k,a⟩ b
theorem JM :DoX ah (mEq .eql 284 xo yo (.pointer (ax ⟨b,0,aw⟩)) (.pointer aw)) w PK K=K (.bool au) w:=aD krx
theorem ZZ :DoX ah (mEq .neq 284 xo yo (.pointer (ax ⟨b,0,aw⟩)) (.pointer aw)) w PK K=K (.bool av) w:=aD krx
section
variable {w:ao}{PK:PKT}{K:VWP}{S:Nat->Prop}{w0:ao}{L T:List Ent}
theorem Hk {off:Nat}:DoX ah (mFA 326 (.pointer (ax ⟨b,off,aw⟩)) 0) w PK K=K (.pointer (ax ⟨b,off,aw⟩)) w:=aO XP
theorem MB {off:Nat}:DoX ah (mFA 326 (.pointer (ax ⟨b,off,aw⟩)) 1) w PK K=K (.pointer (ax ⟨b,off+2,aw⟩)) w:=aO Sc
theorem wr_v (a:OwnS S w0 w L)(j:Nat){n:Nat}(hi:L[j]?=ax (wrE b way n v)):DoX ah (aH 53 (.pointer (ax ⟨b,0+2,aw⟩))) w PK K=K v w:=aJ NH (a.cell j hi 2 rfl)
theorem wr_u (a:OwnS S w0 w L)(j:Nat){n:Nat}(hi:L[j]?=ax (wrE b way n v)):DoX ah (aH 3 (.pointer (ax ⟨b,0+1,aw⟩))) w PK K=K (.int .i64 ((n % 8:Nat):Int)) w:=aJ aU (a.cell j hi 1 rfl)
theorem Sf (a:OwnS S w0 w T)(k:∀b W,OwnS S w0 W (Wr b 0 [] nilS T)->K (.pointer (ax ⟨b,0,aw⟩)) W):CallX ah 287 #[] w PK K:=by
 refine fG (K7 (k0:=RetK λv W=>∃b,v=.pointer (ax ⟨b,0,aw⟩)∧OwnS S w0 W (Wr b 0 [] nilS T)) ?_) (λe W ⟨v,he,b,c,a⟩=>by subst he;subst c;exact k b W a);unfold K8 nz;have e:∀W:ao,(aS 326 #[]).run ah W=.ok (.value (.agg (wrC 0 0 nilS).toArray)) W:=λW=>by kernel_rfl
 refine aD (e w) |>.mpr ?_;have a:=a.nilU 5 1;refine bA (λb=>.pointer (ax ⟨b,0,aw⟩)) (wrC 0 0 nilS) 326 (λ_=>by kernel_rfl) a λb d a=>?_;exact retK ⟨b,rfl,a⟩
theorem acL {x:Nat}(a:OwnS S w0 w (Wr b way l v T))(q:bn l)(y:x < 2)(V:l.length<=100000000000)
  (k:∀v' W,OwnS S w0 W (Wr b way (l++[x]) v' T)->K (.tuple #[]) W):CallX ah 341 #[.pointer (ax ⟨b,0,aw⟩),.int .i64 (x:Int),.int .i64 1] w PK K:=by
 refine fG (BC (k0:=RetK λv W=>v=.tuple #[]∧∃v',OwnS S w0 W (Wr b way (l++[x]) v' T)) ?_) (λe W ⟨v,he,F,v',a⟩=>by subst he;subst F;exact k v' W a);unfold vA nz;obtain⟨P,c,G,f,z⟩:=xh q y;have H:=vz l;have I:2 ^ (l.length % 8)<=2 ^ 7:=anN dc om;have X:(2:Nat) ^ 7=128:=rfl;have L:x*2 ^ (l.length % 8)<=128:=by
  have:x*2 ^ (l.length % 8)<=1*2 ^ (l.length % 8):=anC _ om;omega
 have M:P.length<=100000000000:=by
  have:=congrArg List.length f;rw[alI,anO] at this;have Y:(if l.length % 8=0 then az l++[0] else az l).length<=(az l).length+1:=by
   split
   ·simp
   ·omega
  omega
 refine join λJ N=>?_;have fin:∀(W:ao) (v':aq),OwnS S w0 W (wrE b way l.length v'::outR v' (P++[UInt8.ofNat c])::T)->J [] W:=by
  intro W v' a;refine N _ _ λ_=>?_;unfold pO nz;have hlen:(P++[UInt8.ofNat c]).length=P.length+1:=sm
  obtain⟨g,cap,rfl⟩:=mO (a.at_ 1 rfl) om;rw[hlen] at a;refine dK (λW=>OwnS S w0 W (wrE b way l.length (.slice (ax ⟨g,0,aw⟩) (P.length+1) cap)::outR (.slice (ax ⟨g,0,aw⟩) (P.length+1) cap) (P++[UInt8.ofNat c])::T)) a.drew ?_;refine q_do _ (λ_=>dL) (q_do _ (λ_=>bC Sc) (q_at _ (λW h=>Tj (h.at_ 0 rfl)) ?_));refine q_do _ (λ_=>dL) (q_do _ (λ_=>bC Sc) (q_at _ (λW h=>Tj (h.at_ 0 rfl)) ?_));refine q_do _ (λ_=>JA amJ) (q_do _ (λ_=>rB) ?_);rw[aA om om,show ((P.length+1:Nat):Int) - 1=(P.length:Int) by omega];have j:∀W:ao,(mIA 53 (.slice (ax ⟨g,0,aw⟩) (P.length+1) cap) (.int .i64 (P.length:Int))).run ah W=.ok (.value (.pointer (ax ⟨g,P.length,aw⟩))) W:=λW=>by
   have:=dY (P:=ah) (T:=53) (b:=g) (off:=0) (cap:=cap) (n:=P.length+1) (k:=.i64) (i:=(P.length:Int)) (w:=W) amJ (show _=ax 1 by kernel_rfl) om om
   rwa [alQ,amI,alU] at this
  refine q_do _ j ?_;have d:(aP (P++[UInt8.ofNat c]))[P.length]?=ax (.int .u8 (c:Int)):=by
   rw[jC om,atW (alP _)];simp only[aoH,asL,apR];rw[anD om]
  refine q_at (.int .u8 (c:Int)) (λW h=>?_) ?_
  ·have A:=wT (h.at_ 1 rfl);rw[hlen] at A;obtain⟨Z,B,C,e,O⟩:=bX A om
   injection e with p e2 e3
   injection p with p
   have D:=congrArg Addr.block p;have m:=congrArg Addr.off p;dsimp only at D m;subst D;subst m;have:=O P.length _ d;rw[alU] at this;exact aB nU8l this
  refine q_do _ (λ_=>dL) (q_do _ (λ_=>bC XP) ?_);refine lO (.int .i64 ((l.length % 8:Nat):Int)) (λW h=>(RC (h.at_ 0 rfl)).mono λv w' r=>⟨r.1,h.grow r.2⟩) ?_;refine q_do _ (λ_=>Y2 om) ?_;rw[show min ((l.length % 8:Nat):Int).toNat IntKind.i64.bits=l.length % 8 by show min ((l.length % 8:Nat):Int).toNat 64=l.length % 8;omega];rw[show ((x:Nat):Int)*2 ^ (l.length % 8)=((x*2 ^ (l.length % 8):Nat):Int) by push_cast;rfl,aA om om];refine q_do _ (λW=>cU8 om) ?_;have Q:(((UInt8.ofNat (x*2 ^ (l.length % 8))).toNat:Nat):Int)=((x*2 ^ (l.length % 8):Nat):Int):=by rw[apR,anD om]
  try rw[Q]
  refine q_do _ (λ_=>r_or) ?_;rw[or8 (aoT _ dc) G y];refine q_do _ j ?_;intro W2 a;refine zP (sz:=1) (new:=[.int .u8 ((c+x*2 ^ (l.length % 8):Nat):Int)]) 1 a (by show ax (outR _ _)=ax _;unfold outR;rw[hlen]) rfl krx (λu hu=>by rw[amH.1 hu];rfl) sm λR a=>?_;have o:(aP (P++[UInt8.ofNat c])).take P.length++[.int .u8 ((c+x*2 ^ (l.length % 8):Nat):Int)]++(aP (P++[UInt8.ofNat c])).drop (P.length+[(.int .u8 ((c+x*2 ^ (l.length % 8):Nat):Int):aq)].length)=aP (az (l++[x])):=by
   rw[z];unfold aP;rw[amW,amW,anM sm,arM sm,amE]
   congr 1
   simp only[anE,apS,apR];rw[anD (show c+x*2 ^ (l.length % 8) < 2 ^ 8 by omega)]
  have a:OwnS S w0 R (wrE b way l.length (.slice (ax ⟨g,0,aw⟩) (P.length+1) cap)::outR (.slice (ax ⟨g,0,aw⟩) (P.length+1) cap) (az (l++[x]))::T):=by
   unfold outR;rw[<-o,z,alI,anO];exact a
  rw[bG,Hk,sN,wr_u a 0 rfl];simp only[rs];rw[aA om om,JY dc]
  try rw[bG]
  rw[Hk,sN];have U:(((l.length % 8:Nat):Int)+1).tmod 8=(((l.length+1) % 8:Nat):Int):=by
   rw[atV om];omega
  rw[U];refine aK 0 a rfl krx rfl (by show 0+1 < 3;omega) λW4 a=>?_;refine retK ⟨rfl,.slice (ax ⟨g,0,aw⟩) (P.length+1) cap,?_⟩;unfold Wr wrE;rw[alI,anO];exact a
 rw[bG,Hk,sN,wr_u a 0 rfl];simp only[rs];by_cases E:((l.length % 8:Nat):Int)=0
 ·simp only[E,alK,i_t];rw[alH om] at f
  try rw[bG]
  rw[MB,wr_v a 0 rfl];refine U6 0 a λb8 w8 a=>?_;refine bR 2 amJ elU8 dc a rfl (oD (a.at_ 0 rfl) dc rfl) eW om om λv' w9 a=>?_;have s:v'.oneCell'=true:=cQ (a.at_ 2 rfl)
  try rw[bG]
  rw[MB];refine aK 1 a rfl krx s (by show 0+2 < 3;omega) λt a=>?_;refine fin t v' ?_;rw[<-f,pK];exact a.tail
 ·simp only[E,alL,i_f];rw[alG om] at f;refine fin w v ?_;rw[<-f];exact a
theorem IS (v n:Nat):bf v (n+1)=bf v n++[v / 2 ^ n % 2]:=by
 unfold bf;rw[aqT,amW];rfl
theorem acZ {a:Nat}(h:a < 2 ^ 62):bAnd .i64 (a:Int) 1=((a % 2:Nat):Int):=by
 have b:(2:Nat) ^ 62=4611686018427387904:=rfl;unfold bAnd;show IntKind.wrap .i64 (((BitVec.ofInt 64 (a:Int) &&& BitVec.ofInt 64 ((1:Nat):Int)).toNat:Nat):Int)=_;rw[BitVec.ofInt_natCast,BitVec.ofInt_natCast,BitVec.toNat_and,BitVec.toNat_ofNat,BitVec.toNat_ofNat,anD om,anD om,Nat.and_one_is_mod];exact aA om om
theorem nA {x n:Nat}(a:OwnS S w0 w (Wr b way l v T))(g:bn l)(hw:way=0∨way=1)(q:n<=24)(y:x < 2 ^ n)(z:l.length<=10000000000)
  (k:∀way' v' W,(way'=0∨way'=1)->OwnS S w0 W (Wr b way' (l++bf x n) v' T)->K (.int .i64 0) W):CallX ah 288 #[.pointer (ax ⟨b,0,aw⟩),.int .i64 (x:Int),.int .i64 (n:Int)] w PK K:=by
 refine fG (BD (k0:=RetK λv W=>v=.int .i64 0∧∃way' v',(way'=0∨way'=1)∧OwnS S w0 W (Wr b way' (l++bf x n) v' T)) ?_) (λe W ⟨v,he,h,way',v',c,a⟩=>by subst he;subst h;exact k way' v' W c a);unfold uU nz;have r:2 ^ n<=2 ^ 24:=anN dc q;have s:(2:Nat) ^ 24=16777216:=rfl;refine fG (Bh (k0:=RetK λv W=>v=.int .i64 0∧∃way' v',(way'=0∨way'=1)∧OwnS S w0 W (Wr b way' (l++bf x n) v' T)) ?_) (λe W ⟨v,he,h,way',v',c,a⟩=>by
  subst he;subst h;exact⟨_,rfl,rfl,way',v',c,a⟩)
 unfold uS nz;rw[JM];have d:IntKind.i64.wrap ((1:Int)*2 ^ min ((n:Nat):Int).toNat IntKind.i64.bits)=((2 ^ n:Nat):Int):=by
  rw[show min ((n:Nat):Int).toNat IntKind.i64.bits=n by show min ((n:Nat):Int).toNat 64=n;omega,Int.one_mul,show (2:Int) ^ n=((2 ^ n:Nat):Int) by push_cast;rfl];exact aA om om
 simp only[rs,show ai ((n:Int) < 0)=au from alJ om,show ai ((24:Int) < (n:Int))=au from alJ om,show ai ((x:Int) < 0)=au from alJ om];rw[Fc om,d];simp only[rs,show ai (((2 ^ n:Nat):Int)<=(x:Int))=au from alJ om]
 try rw[bG]
 rw[Hk];refine aM a (R:=λv=>v=.bool au) (QE (a.at_ 0 rfl) hw) ?_;rintro _ w2 rfl a;simp only[rs];refine loop (λvs W=>∃(i:Nat) (v':aq),vs=[.int .i64 i]∧i<=n∧OwnS S w0 W (Wr b way (l++bf x i) v' T)) (λvs _=>n - n0 vs) ⟨0,v,rfl,om,by show OwnS S w0 w2 (Wr b way (l++[]) v T);rw[amE];exact a⟩ ?_;clear a;rintro vs t ⟨i,v',rfl,hi,a⟩ _;simp only[qA,gd,rs,nz];by_cases f:(i:Int) < (n:Int)
 ·simp only[f,alK,i_t];refine join λJ j=>?_;simp only[show ai ((1:Int)=2)=au from rfl,i_f,rs];refine j _ _ λ_=>?_;simp only[qO,gd,nz];rw[Hr om,show min ((i:Nat):Int).toNat IntKind.i64.bits=i by show min ((i:Nat):Int).toNat 64=i;omega,QN,T3];have u:x / 2 ^ i<=x:=aqM _ _;rw[acZ om];refine acL a (br g (dr _ _)) (aoT _ dc) (by rw[alI,bp];omega) λv2 o a=>?_;rw[alS,<-IS] at a;simp only[rs];rw[aA om om];exact aY ⟨i+1,v2,rfl,om,a⟩ (by simp[n0,RowKit.intOf];omega)
 ·simp only[f,alL,i_f];have m:i=n:=om
  subst m;refine join λJ j=>?_;have fin:∀W way',(way'=0∨way'=1)->OwnS S w0 W (Wr b way' (l++bf x i) v' T)->J [] W:=by
   intro W way' c a;refine j _ _ λ_=>?_;simp only[qQ,nz];exact retK ⟨rfl,way',v',c,a⟩
  by_cases p:(0:Int) < (i:Int)
  ·simp only[p,alK,i_t,rs,bG];rw[Hk,Jh];refine aK 0 a rfl krx rfl (by show 0 < 3;omega) λo a=>?_;exact fin o 1 (.inr rfl) a
  ·simp only[p,alL,i_f,rs];exact fin t way hw a
theorem Qa (a:OwnS S w0 w (Wr b way l v T))
  (k:∀W,OwnS S w0 W (Wr b 0 (fk l) v T)->K (.tuple #[]) W):CallX ah 289 #[.pointer (ax ⟨b,0,aw⟩)] w PK K:=by
 refine fG (wV (k0:=RetK λu W=>u=.tuple #[]∧OwnS S w0 W (Wr b 0 (fk l) v T)) ?_) (λe W ⟨u,he,c,a⟩=>by subst he;subst c;exact k W a);unfold qE nz;rw[ZZ,i_t];have d:∀{PK:PKT} {K:VWP},DoX ah (aS 315 #[]) w PK K=K (.agg #[.int .i64 0,.int .i64 0]) w:=aD krx;rw[d,bG,Hk];refine xH 0 a rfl (new:=[.int .i64 0,.int .i64 0]) szSd dc (by show 0+2<=3;omega) λw2 a=>?_;refine retK ⟨rfl,?_⟩;have e:wrC 0 (fk l).length v=[.int .i64 0,.int .i64 0,v]:=by
  unfold wrC;rw[nn,Nat.mul_mod_right];rfl
 unfold Wr wrE;rw[e,uo];exact a
theorem IT {k:Nat}(h:l.length=8*k)(s:List UInt8):az (l++fj s)=az l++s:=by
 have:=nm [] s;rw[amE] at this;rw[lz h,this];show _++(s++[])=_;rw[amE]
theorem acY {s:List UInt8}(a:OwnS S w0 w (Wr b way l v T))(d:l.length=8*j)(m:j<=1000000000)(n:s.length<=1000000000)
  (k:∀v' W,OwnS S w0 W (Wr b way (l++fj s) v' T)->K (.tuple #[]) W):CallX ah 290 #[.pointer (ax ⟨b,0,aw⟩),.string ⟨s.toArray⟩] w PK K:=by
 refine fG (Bv (k0:=RetK λu W=>u=.tuple #[]∧∃v',OwnS S w0 W (Wr b way (l++fj s) v' T)) ?_) (λe W ⟨u,he,f,v',a⟩=>by subst he;subst f;exact k v' W a);unfold uD nz;rw[JM,i_f];have g:(az l).length=j:=by rw[kz];omega
 refine join λJ h=>?_;rw[bG,Hk,sN,wr_u a 0 rfl,show l.length % 8=0 by omega];simp only[rs,show ai ((0:Int) < ((0:Nat):Int))=au from rfl,i_f];refine h _ _ λ_=>?_;unfold qG nz;rw[bG,MB,wr_v a 0 rfl];refine IF 1 amJ alV elU8 anQ z8U a rfl om λv' o a=>?_;have c:v'.oneCell'=true:=cQ (a.at_ 1 rfl)
 try rw[bG]
 rw[MB];refine aK 0 a rfl krx c (by show 0+2 < 3;omega) λi a=>?_;refine retK ⟨rfl,v',?_⟩;unfold Wr wrE;rw[IT d,pK];have e:wrC way (l++fj s).length v'=[.int .i64 way,.int .i64 ((l.length % 8:Nat):Int),v']:=by
  unfold wrC;rw[alI,qe];congr 3;omega
 rw[e];exact a
theorem adP {off n c:Nat}:DoX ah (mEq .eql 53 xo yo (.slice (ax ⟨b,off,aw⟩) n c) (.slice aw 0 0)) w PK K=K (.bool au) w:=aD krx
theorem aiX (a:OwnS S w0 w L)(k:∀v w',OwnS S w0 w' (.urow 5 1 v 0 []::L)->K v w'):DoX ah (bN 53 0 #[]) w PK K:=
 bA (λb=>.slice (ax ⟨b,0,aw⟩) 0 0) [] 5 (λ_=>by kernel_rfl) a λb c a=>k _ _ (a.toU 1 0 0 sm om om)
theorem Nd (a:OwnS S w0 w (Wr b way l v T))(h:0 < l.length)(i:l.length<=10000000000)
  (k:∀W,OwnS S w0 W T->K (.string ⟨(az l).toArray⟩) W):CallX ah 291 #[.pointer (ax ⟨b,0,aw⟩)] w PK K:=by
 refine fG (Ag (k0:=RetK λu W=>u=.string ⟨(az l).toArray⟩∧OwnS S w0 W T) ?_) (λe W ⟨u,he,c,a⟩=>by subst he;subst c;exact k W a);unfold rQ nz;have d:=vz l;obtain⟨g,cap,rfl⟩:=mO (a.at_ 1 rfl) (by rw[kz];omega);rw[JM,i_f,bG,MB,wr_v a 0 rfl];refine fG (oF (k0:=RetK λu W=>OwnS S w0 W (outR u (az l)::T)) ?_) (λe W ⟨u,he,a⟩=>?_)
 ·unfold jE nz;rw[adP,i_f];refine aiX a λv0 j a=>?_;refine bR 0 amJ elU8 dc a rfl (wT (a.at_ 2 rfl)) eW om om λv' f a=>?_;rw[alU,amZ] at a;have a:OwnS S w0 f ([outR v' (az l)]++([wrE b way l.length (.slice (ax ⟨g,0,aw⟩) (az l).length cap),outR (.slice (ax ⟨g,0,aw⟩) (az l).length cap) (az l)]++T)):=a;exact retK a.front.tail.tail
 ·subst he;refine aD (Mn amJ anQ alV (wT (a.at_ 0 rfl))) |>.mpr ?_;exact retK ⟨rfl,a.tail⟩
end
end
section
open Eng Go.RowKit
def TbW (A:Nat->Prop)(w:ao)(b:Nat)(lens:List Nat):Prop:=∃a c o,A b∧(tbE b a c (cnt lens) (fstW lens) o).is w∧SlA A w o 1 (bg lens 15).length (aV (bg lens 15))∧SlA A w a 1 lens.length (aV lens)∧SlA A w c 1 lens.length (aV (il lens))
theorem xB (lens:List Nat)(v:aq)(M:Mem)(w:ao)(m:∀l∈lens,l<=15)(g:lens.length<=100000)(P:0 < lens.length)(z:M.has w)(y:SlA M.A M.w v 1 lens.length (aV lens)) :
  RetM ah 295 #[v] M w (λr N=>if bh lens≠0 then r=.tuple #[.pointer aw,.int .i64 (bh lens)] else ∃b,r=.tuple #[.pointer (ax ⟨b,0,aw⟩),.int .i64 0]∧TbW N.A N.w b lens):=by
 refine bB z λK G=>BX ?_;unfold D8 nz;have a:OwnS M.A w w [.mem M]:=OwnS.memS z;refine bH a 0 rfl (Jz lens v M w m g z y) ?_;rintro _ N1 Q g1 ⟨cv,rfl,n,j⟩ a;simp only[ex,eS];by_cases o:bh lens=0
 case neg=>
  simp only[o,ne_eq,apF,alK,i_t];exact G _ _ N1 _ 0 a rfl g1 (by rw[alH o])
 have j:=j o;simp only[o,ne_eq,not_true,alL,i_f];refine bH a 0 rfl (I9 lens v N1 Q g P (a.hasM 0 rfl) (y.le g1)) λd e w2 g2 k a=>?_;refine aM a (R:=λr=>r=nsV (cnt lens)) (RetM.told (tQ lens v e w2 m g (a.hasM 0 rfl) (y.le (g1.trans g2)))) ?_;rintro _ w3 rfl a;rw[m_tb k.one n];refine abP k.one n a λb S a=>?_;rw[bG,Qz,tb_n a 0 rfl];refine aM a (R:=λr=>r=nsV (fstW lens)) (RetM.told (DV lens e S g (a.hasM 1 rfl))) ?_;rintro _ w5 rfl a;rw[bG,T9];refine Va 0 a rfl λT a=>?_;have p:=y.le (g1.trans g2);have a:OwnS M.A w T [.urow 3 1 nilS 0 [],tbE b d cv (cnt lens) (fstW lens) nilS,.mem e]:=OwnS.nilU (L:=[tbE b d cv (cnt lens) (fstW lens) nilS,.mem e]) a _ _;refine loop (λvs W=>∃(l:Nat) (ov:aq),vs=[.int .i64 ((l+1:Nat):Int)]∧l<=15∧OwnS M.A w W [.urow 3 1 ov (bg lens l).length (aV (bg lens l)),tbE b d cv (cnt lens) (fstW lens) ov,.mem e]) (λvs _=>16 - n0 vs) ⟨0,nilS,rfl,om,a⟩ ?_;clear a;rintro vs U ⟨l,ov,rfl,q,a⟩ _;simp only[xG,gd,rs,nz];by_cases s:((l+1:Nat):Int)<=15
 ·simp only[s,alK,i_t];rw[bE amF (p.now (a.hasM 2 rfl))];have V:=ph lens l;have H:l*lens.length<=15*100000:=aoR q g;refine loop (λvs W=>∃(i:Nat) (ov:aq),vs=[.int .i64 i]∧i<=lens.length∧OwnS M.A w W [.urow 3 1 ov (bg lens l++cj lens (l+1) i).length (aV (bg lens l++cj lens (l+1) i)),tbE b d cv (cnt lens) (fstW lens) ov,.mem e]) (λvs _=>lens.length - n0 vs) ⟨0,ov,rfl,om,by
   rw[show cj lens (l+1) 0=[] from rfl,amE];exact a⟩ ?_
  clear a;rintro vs I ⟨i,ov,rfl,hi,a⟩ _;simp only[wK,gd,rs,nz];by_cases f:(i:Int) < (lens.length:Int)
  ·have t:i < lens.length:=om
   simp only[f,alK,i_t];refine join λJ X=>?_;obtain⟨b2,off,Y,Z⟩:=mY (p.now (a.hasM 2 rfl)) t;have B:lens.getD i 0=lens[i]:=by rw[alO,alT t];rfl
   refine aD (Y I) |>.mpr (aD (aB aU Z) |>.mpr ?_);have a1:=pg lens (l+1) i;have c:cj lens (l+1) (i+1)=cj lens (l+1) i++(if lens[i]=l+1 then [i] else []):=by
    unfold cj;rw[aqT,asW]
    congr 1
    rw[<-B];by_cases h:lens.getD i 0=l+1
    ·rw[alH h];exact List.filter_cons_of_pos (alM h)
    ·rw[alG h];exact List.filter_cons_of_neg (by rw[alJ h];decide)
   have fin:∀(W:ao) (ov:aq),OwnS M.A w W [.urow 3 1 ov (bg lens l++cj lens (l+1) (i+1)).length (aV (bg lens l++cj lens (l+1) (i+1))),tbE b d cv (cnt lens) (fstW lens) ov,.mem e]->J [] W:=by
    intro W ov a;refine X _ _ λ_=>?_;simp only[wR,gd,rs,nz];rw[aA om om];exact aY ⟨i+1,ov,rfl,om,a⟩ (by simp[n0,RowKit.intOf];omega)
   simp only[rs];by_cases he:lens[i]=l+1
   ·rw[alH he] at c;simp only[show ai (((lens[i]:Nat):Int)=((l+1:Nat):Int))=av from alM om,i_t,rs,bG];rw[K1,PQ a 1 rfl];refine tV (i:Int) a λb3 w9 a=>?_;refine oK 1 a rfl (a.sl 0 rfl 1 1 1 rfl) rX (by rw[alI];omega) λv' a6 a=>?_
    try simp only[rs,bG]
    rw[K1];refine TD 2 (cQ (a.at_ 1 rfl)) a rfl λC a=>?_;refine fin C v' ?_;have e1:aV (bg lens l++cj lens (l+1) (i+1))=aV (bg lens l++cj lens (l+1) i)++Nt [(i:Int)]:=by
     rw[c,<-alS,mK];rfl
    have e2:(bg lens l++cj lens (l+1) (i+1)).length=(bg lens l++cj lens (l+1) i).length+1:=by
     rw[c,<-alS,alI];rfl
    rw[e1,e2];exact a.tail
   ·rw[alG he,amE] at c;simp only[show ai (((lens[i]:Nat):Int)=((l+1:Nat):Int))=au from alJ om,i_f];refine fin I ov ?_;rw[c];exact a
  ·simp only[f,alL,i_f];have D:i=lens.length:=om
   subst D;rw[aA om om];exact aY ⟨l+1,ov,rfl,om,a⟩ (by simp[n0,RowKit.intOf];omega)
 ·have g:l=15:=om
  subst g;simp only[s,alL,i_f];obtain⟨O,g3,u,a⟩:=OwnS.bJ (L:=[tbE b d cv (cnt lens) (fstW lens) ov,.mem e]) a 1 rfl;have a:OwnS M.A w U [tbE b d cv (cnt lens) (fstW lens) ov,.mem O]:=a;have E:=a.at_ 0 rfl;obtain⟨N4,g4,F,x,a⟩:=OwnS.freeze (L:=[.mem O]) a 0 rfl;refine G _ _ N4 _ 0 a rfl (g1.trans (g2.trans (g3.trans g4))) ?_;rw[alG (by simp[o])];exact⟨b,rfl,d,cv,ov,x b rfl,by rw[F];exact E,u.le g4,k.le (g3.trans g4),j.le (g2.trans (g3.trans g4))⟩
end
section
open Eng Go.RowKit
theorem I0 {v n k:Nat}(h:k < n):(ig v n).take (k+1)=(ig v n).take k++[v / 2 ^ (n - 1 - k) % 2]:=by
 rw[amO (by rw[sy];exact h)]
 congr 2
 simp[ig]
section
variable {w:ao}{PK:PKT}{K:VWP}{S:Nat->Prop}{w0:ao}{L T:List Ent}
theorem B7 {lens:List Nat}(a:OwnS S w0 w (Wr b way l v T))(hm:T[jm]?=ax (.mem M))(V:TbW M.A M.w tb lens)(X:bh lens=0)(m:∀l∈lens,l<=15)(hi:0 < lens.getD i 0)
  (x:bn l) (hw:way=0∨way=1) (hl:l.length<=1000000000) (k:∀way' v' W,(way'=0∨way'=1)->OwnS S w0 W (Wr b way' (l++dh lens i) v' T)->K (.int .i64 0) W) :
  CallX ah 302 #[.pointer (ax ⟨tb,0,aw⟩),.pointer (ax ⟨b,0,aw⟩),.int .i64 (i:Int)] w PK K:=by
 refine fG (yE (k0:=RetK λv W=>v=.int .i64 0∧∃way' v',(way'=0∨way'=1)∧OwnS S w0 W (Wr b way' (l++dh lens i) v' T)) ?_) (λe W ⟨v,he,Y,way',v',y,a⟩=>by subst he;subst Y;exact k way' v' W y a);unfold qD nz;obtain⟨z,B,I,J,o,L,g,C⟩:=V;have c:i < lens.length:=by
  rcases amL i lens.length with h|h
  ·exact h
  ·rw[alO,anY h] at hi;exact absurd hi (aqG _)
 have j:lens.getD i 0=lens[i]:=by rw[alO,alT c];rfl
 have p:lens[i]<=15:=m _ (alX c);have D:=tq (ti (tj X)) m hi;rw[j] at hi D;have N:2 ^ lens[i]<=2 ^ 15:=anN dc p;have Z:(2:Nat) ^ 15=32768:=rfl;have d:∀{W:ao} {way:Int} {l:List Nat} {v:aq},OwnS S w0 W (Wr b way l v T)->M.has W:=λa=>a.hasM (jm+2) (by rw[amS,amS];exact hm);have hlen:=g.1.1;have q:∀{W:ao},M.has W->(aH 123 (.pointer (ax ⟨tb,0,aw⟩))).run ah W=.ok (.value z) W:=λE=>aB EH (aI (T:=337) (cs:=tbC z B (cnt lens) (fstW lens) I) (VS J o E) (i:=0) rfl);have F:∀{W:ao},M.has W->(aH 123 (.pointer (ax ⟨tb,0+1,aw⟩))).run ah W=.ok (.value B) W:=λE=>aB EH (aI (T:=337) (cs:=tbC z B (cnt lens) (fstW lens) I) (VS J o E) (i:=1) rfl);rw[Vf];simp only[rs];rw[JM];simp only[rs,show ai ((i:Int) < 0)=au from alJ om,bG];rw[aO X5];refine aD (q (d a)) |>.mpr ?_;rw[bE amF (g.now (d a))];simp only[rs,show ai ((lens.length:Int)<=(i:Int))=au from alJ om,bG];rw[aO X5];refine aD (q (d a)) |>.mpr ?_;obtain⟨b2,off,O,P⟩:=mY (g.now (d a)) c;refine aD (O w) |>.mpr (aD (aB aU P) |>.mpr ?_);simp only[rs,show ai (((lens[i]:Nat):Int)=0)=au from alJ om,i_f];rw[aA om om];have r:dh lens i=ig (cg lens i) lens[i]:=by unfold dh;rw[j]
 refine loop (λvs W=>∃(k:Nat) (way':Int) (v':aq),vs=[.int .i64 ((lens[i]:Int) - 1 - k)]∧k<=lens[i]∧(way'=0∨way'=1)∧OwnS S w0 W (Wr b way' (l++(dh lens i).take k) v' T)) (λvs _=>((RowKit.intOf (vs.getD 0 undef))+1).toNat) ⟨0,way,v,sm,om,hw,by rw[apL,amE];exact a⟩ ?_;clear a hw O P;rintro vs w4 ⟨k,way',v',rfl,hk,hw,a⟩ _;simp only[nH,gd,rs,nz];by_cases s:(0:Int)<=(lens[i]:Int) - 1 - k
 ·simp only[s,alK,i_t,bG];rw[aO agK];refine aD (F (d a)) |>.mpr ?_;have f:=C.now (d a);rw[show lens.length=(il lens).length by rw[iu]] at f;obtain⟨b3,Q,r3,R⟩:=mY f (i:=i) (by rw[iu];exact c);have G:(il lens)[i]'(by rw[iu];exact c)=cg lens i:=by
   have:=ri c;rw[alT (by rw[iu];exact c)] at this;exact aoJ this
  rw[G] at R;refine aD (r3 w4) |>.mpr (aD (aB aU R) |>.mpr ?_);have t:(lens[i]:Int) - 1 - k=((lens[i] - 1 - k:Nat):Int):=om
  rw[Hr om,t,show min ((lens[i] - 1 - k:Nat):Int).toNat IntKind.i64.bits=lens[i] - 1 - k by show min ((lens[i] - 1 - k:Nat):Int).toNat 64=_;omega,QN,T3];have a1:cg lens i / 2 ^ (lens[i] - 1 - k)<=cg lens i:=aqM _ _;rw[acZ om];have U:cg lens i / 2 ^ (lens[i] - 1 - k) % 2 < 2:=aoT _ dc;refine nA (n:=1) a (br x (λb hb=>ko _ _ b (anT hb))) hw om om (by rw[alI,alR];omega) λu v2 w5 H a=>?_;have e1:bf (cg lens i / 2 ^ (lens[i] - 1 - k) % 2) 1=[cg lens i / 2 ^ (lens[i] - 1 - k) % 2]:=by
   show [cg lens i / 2 ^ (lens[i] - 1 - k) % 2 / 2 ^ 0 % 2]=_;rw[Nat.pow_zero,Nat.div_one,Nat.mod_mod]
  rw[e1,alS,r,<-I0 om,<-r] at a;simp only[rs,show ai ((0:Int)≠0)=au from rfl,i_f];rw[aA om om];exact aY ⟨k+1,u,v2,by congr 2<;>omega,om,H,a⟩ (by simp[RowKit.intOf]<;>omega)
 ·simp only[s,alL,i_f];have t:k=lens[i]:=om
  rw[amP (by rw[ez,j];omega)] at a;exact retK ⟨rfl,way',v',hw,a⟩
end
end
section
open Eng
def sM(t0 t1 t2 t3 t9 w)(N1:JT)(K:KT):=nz f319 19 [N1] [nh 5 [9]] [(2,16)] (zg [0,1,2,3,9] [t0,t1,t2,t3,t9]) w K
def yD(t0 t1 t2 t3 w)(K:KT):=nz f319 1 [] [(5,[9],λs v j w f=>sM (s 0) (s 1) (s 2) (s 3) (vg v 0) w (f 0) K)] [] (zg [0,1,2,3] [t0,t1,t2,t3]) w K
theorem CR:yD t0 t1 t2 t3 w k0->Calls ah 319 #[t0,t1,t2,t3] w k0:=cz [] [(2,[9])] func319
def lX(d c e a w)(N1:JT)(K:KT):=
 bnx .lss 3 a e w K λb w=>etx b a w λf w=>gtx b (mBin .add 3 f (iN 3)) w K λg w=>etx b c w λh w=>gtx b (mB .len #[9] 3 #[au] #[h]) w K λi w=>gtx b (mBin .leq 3 g i) w K λj w=>dx (kH b j (.bool au)) w K λk w=>IfX k (HeldX w (λS2 w=>HDo ah (λ_=>True) (mBin .add 3 a (iN 3)) λl=>HDo ah (λ_=>True) (eG 9 c (ax a) (ax l) aw) λm=>HDo ah (λ_=>True) (mBin .add 3 a (iN 3)) λn=>HDo ah (λ_=>True) (eG 9 c (ax a) (ax n) aw) λo=>HDo ah S2 (Tv 289 d o au) λp=>DoX ah (bN 123 1 #[(0,a)]) w (ay 14 (pk K)) λq w=>S2 w∧(DoX ah (mB .append #[123,123] 123 #[au,au] #[p,q]) w (ay 14 (pk K)) λr w=>(DoX ah (UW 289 d m r) w (ay 14 (pk K)) λ_ w=>(bnx .add 3 a (iN 1) w K λs w=>N1 [s] w))))) (K (.returned (.tuple #[])) w)
def nZ(t0 t1 t2 t3 w)(K:KT):=nz f293 1 [] [(3,[8],λs v j w f=>lX (s 0) (s 1) (s 3) (vg v 0) w (f 0) K)] [] (zg [0,1,2,3] [t0,t1,t2,t3]) w K
theorem vV:nZ t0 t1 t2 t3 w k0->Calls ah 293 #[t0,t1,t2,t3] w k0:=cz [] [(1,[8])] func293
def jB(t10 w)(N1:JT)(K:KT):=nz f292 1887 [N1] [nh 15 [10]] [] (zg [10] [t10]) w K
def fF(t1 t2 t6 t7 t8 t9 t10 w)(N1:JT)(K:KT):=nz f292 351 [N1] [nh 15 [10],(16,[],λs v j w f=>jB (s 10) w (f 0) K)] [] (zg [1,2,6,7,8,9,10] [t1,t2,t6,t7,t8,t9,t10]) w K
def kJ(t0 t1 t2 w)(K:KT):=nz f292 1 [] [(15,[10],λs v j w f=>fF (s 1) (s 2) (s 6) (s 7) (s 8) (s 9) (vg v 0) w (f 0) K)] [] (zg [0,1,2] [t0,t1,t2]) w K
theorem qW:kJ t0 t1 t2 w k0->Calls ah 292 #[t0,t1,t2] w k0:=cz [(8,[])] [(7,[10])] func292
def rJ(t0 t3 t4 t5 t6 t7 w)(N1:JT)(K:KT):=nz f266 4015 [N1] [nh 13 [3,5]] [] (zg [0,3,4,5,6,7] [t0,t3,t4,t5,t6,t7]) w K
def rL(t0 t3 t4 t5 w)(N1:JT)(K:KT):=nz f266 175 [N1] [nh 13 [3,5],(22,[],λs v j w f=>rJ (s 0) (s 3) (s 4) (s 5) (s 6) (s 7) w (f 0) K)] [] (zg [0,3,4,5] [t0,t3,t4,t5]) w K
def zH(t0 w)(K:KT):=nz f266 1 [] [(13,[3,5],λs v j w f=>rL (s 0) (vg v 0) (s 4) (vg v 1) w (f 0) K)] [] (zg [0] [t0]) w K
theorem Ct:zH t0 w k0->Calls ah 266 #[t0] w k0:=cz [(11,[])] [(6,[3,5])] func266
def uF(t0 t2 t6 t8 w)(N1:JT)(K:KT):=nz f343 87 [N1] [nh 11 [0,6,8]] [(8,14)] (zg [0,2,6,8] [t0,t2,t6,t8]) w K
def AE(t0 t1 t2 w)(K:KT):=nz f343 1 [] [(11,[0,6,8],λs v j w f=>uF (vg v 0) (s 2) (vg v 1) (vg v 2) w (f 0) K)] [] (zg [0,1,2] [t0,t1,t2]) w K
theorem DD:AE t0 t1 t2 w k0->Calls ah 343 #[t0,t1,t2] w k0:=cz [] [(5,[0,6,8])] func343
def A4(t0 w)(K:KT):=nz f325 1 [] [] [] (zg [0] [t0]) w K
theorem Dy:A4 t0 w k0->Calls ah 325 #[t0] w k0:=cw func325
def A2(t0 w)(K:KT):=nz f326 1 [] [] [] (zg [0] [t0]) w K
theorem DE:A2 t0 w k0->Calls ah 326 #[t0] w k0:=cw func326
def pZ(t0 t3 t4 t5 w)(N1:JT)(K:KT):=nz f265 123 [N1] [nh 5 [0]] [] (zg [0,3,4,5] [t0,t3,t4,t5]) w K
def pP(t0 t3 w)(N1:JT)(K:KT):=nz f265 11 [N1] [nh 5 [0],(12,[5],λs v j w f=>pZ (s 0) (s 3) (s 4) (vg v 0) w (f 0) K)] [] (zg [0,3] [t0,t3]) w K
def uM(t0 w)(K:KT):=nz f265 1 [] [(5,[0],λs v j w f=>pP (vg v 0) (s 3) w (f 0) K)] [] (zg [0] [t0]) w K
theorem BA:uM t0 w k0->Calls ah 265 #[t0] w k0:=cz [(6,[5])] [(2,[0])] func265
def kN(t14 w)(N1:JT)(K:KT):=nz f296 245 [N1] [nh 5 [14]] [] (zg [14] [t14]) w K
def kQ(t1 t3 t12 t13 t14 w)(N1:JT)(K:KT):=nz f296 21 [N1] [nh 5 [14],(24,[],λs v j w f=>kN (s 14) w (f 0) K)] [] (zg [1,3,12,13,14] [t1,t3,t12,t13,t14]) w K
def nB(t0 t1 t2 w)(K:KT):=nz f296 1 [] [(5,[14],λs v j w f=>kQ (s 1) (s 3) (s 12) (s 13) (vg v 0) w (f 0) K)] [] (zg [0,1,2] [t0,t1,t2]) w K
theorem tU:nB t0 t1 t2 w k0->Calls ah 296 #[t0,t1,t2] w k0:=cz [(12,[])] [(2,[14])] func296
def wJ(t0 w)(K:KT):=nz f267 1 [] [] [] (zg [0] [t0]) w K
theorem Dg:wJ t0 w k0->Calls ah 267 #[t0] w k0:=cw func267
def oL(t20 w)(N1:JT)(K:KT):=nz f297 983 [N1] [nh 9 [20]] [] (zg [20] [t20]) w K
def oM(t2 t3 t18 t19 t20 w)(N1:JT)(K:KT):=nz f297 87 [N1] [nh 9 [20],(24,[],λs v j w f=>oL (s 20) w (f 0) K)] [] (zg [2,3,18,19,20] [t2,t3,t18,t19,t20]) w K
def eJ(a b c w)(K:KT):=
 iax 123 b (iN 256) w K λd w=>stx 3 d (iN 1) w K λ_ w=>lnx 269 a w K λe w=>LoopX [(iN 0)] w (λf w N1=>∀_:Sg,oM b c a e (f.getD 0 undef) w N1 K)
def rM(a w)(K:KT):=
 DrawX w (λw=>(dx (Hg 123 (iN 286) (iN 286)) w K λb w=>(dx (Hg 123 (iN 30) (iN 30)) w K λc w=>eJ a b c w K)∧(dx (Hg 123 (iN 30) (iN 30)) w K λd w=>eJ a b d w K))∧(dx (Hg 123 (iN 30) (iN 30)) w K λe w=>dx (Hg 123 (iN 286) (iN 286)) w K λf w=>eJ a f e w K))
theorem Ae:rM t0 w k0->Calls ah 297 #[t0] w k0:=cz [(12,[])] [(4,[20])] func297
def zC(t0 t1 t5 w)(N1:JT)(K:KT):=nz f299 19 [N1] [nh 5 [5]] [] (zg [0,1,5] [t0,t1,t5]) w K
def CJ(t0 t1 w)(K:KT):=nz f299 1 [] [(5,[5],λs v j w f=>zC (s 0) (s 1) (vg v 0) w (f 0) K)] [] (zg [0,1] [t0,t1]) w K
theorem FN:CJ t0 t1 w k0->Calls ah 299 #[t0,t1] w k0:=cz [] [(2,[5])] func299
def eE(t3 t4 t5 w)(N1:JT)(K:KT):=nz f300 1003 [N1] [nh 7 [3,4]] [] (zg [3,4,5] [t3,t4,t5]) w K
def sK(t0 t3 t4 t5 w)(N1 a:JT)(K:KT):=nz f300 619 [N1,a] [nh 7 [3,4],nh 11 [5],(34,[3,5],λs v j w f=>eE (vg v 0) (s 4) (vg v 1) w (f 0) K)] [(5,19)] (zg [0,3,4,5] [t0,t3,t4,t5]) w K
def sO(t0 t3 t4 w)(N1:JT)(K:KT):=nz f300 43 [N1] [nh 7 [3,4],(11,[5],λs v j w f=>sK (s 0) (s 3) (s 4) (vg v 0) w (f 1) (f 0) K)] [] (zg [0,3,4] [t0,t3,t4]) w K
def wU(t0 w)(K:KT):=nz f300 1 [] [(7,[3,4],λs v j w f=>sO (s 0) (vg v 0) (vg v 1) w (f 0) K)] [] (zg [0] [t0]) w K
theorem Dv:wU t0 w k0->Calls ah 300 #[t0] w k0:=cz [(17,[3,5])] [(3,[3,4]),(5,[5])] func300
def vQ(w)(K:KT):=nz f301 1 [] [] [] (zg [] []) w K
theorem BB:vQ w k0->Calls ah 301 #[] w k0:=cw func301
def xZ(t0 t9 t16 t21 t132 t133 t134 w)(a:JT)(K:KT):=nz f268 92274687 [a] [nh 73 [134]] [] (zg [0,9,16,21,132,133,134] [t0,t9,t16,t21,t132,t133,t134]) w K
def oP(t0 t9 t10 t16 t21 t122 t123 t124 w)(a:JT)(K:KT):=nz f268 46137343 [a] [nh 63 [124],(73,[134],λs v j w f=>xZ (s 0) (s 9) (s 16) (s 21) (s 132) (s 133) (vg v 0) w (f 0) K)] [] (zg [0,9,10,16,21,122,123,124] [t0,t9,t10,t16,t21,t122,t123,t124]) w K
def yZ(t0 t5 t7 t9 t10 t14 t16 t18 t88 t89 w)(a:JT)(K:KT):=nz f268 180223 [a] [nh 39 [18,89],(63,[124],λs v j w f=>oP (s 0) (s 9) (s 10) (s 16) (s 21) (s 122) (s 123) (vg v 0) w (f 0) K)] [] (zg [0,5,7,9,10,14,16,18,88,89] [t0,t5,t7,t9,t10,t14,t16,t18,t88,t89]) w K
def xL(t0 t5 t7 t9 t10 t11 t64 t65 t66 w)(N1:JT)(K:KT):=nz f268 11263 [N1] [nh 23 [66],(39,[18,89],λs v j w f=>yZ (s 0) (s 5) (s 7) (s 9) (s 10) (s 14) (s 16) (vg v 0) (s 88) (vg v 1) w (f 0) K)] [] (zg [0,5,7,9,10,11,64,65,66] [t0,t5,t7,t9,t10,t11,t64,t65,t66]) w K
def Dr(t0 w)(K:KT):=nz f268 1 [] [(23,[66],λs v j w f=>xL (s 0) (s 5) (s 7) (s 9) (s 10) (s 11) (s 64) (s 65) (vg v 0) w (f 0) K)] [] (zg [0] [t0]) w K
theorem E5:Dr t0 w k0->Calls ah 268 #[t0] w k0:=cz [] [(11,[66]),(19,[18,89]),(31,[124]),(36,[134])] func268
def xN(t6 w)(K:KT):=nz f235 255 [] [] [] (zg [6] [t6]) w K
def yX(t1 t6 t7 w)(K:KT):=nz f235 127 [] [(32,[6],λs v j w f=>xN (vg v 0) w K)] [] (zg [1,6,7] [t1,t6,t7]) w K
def CU(t0 t1 w)(K:KT):=nz f235 1 [] [(24,[6],λs v j w f=>yX (s 1) (vg v 0) (s 7) w K)] [] (zg [0,1] [t0,t1]) w K
theorem E8:CU t0 t1 w k0->Calls ah 235 #[t0,t1] w k0:=cz [(12,[6]),(16,[6])] [] func235
end
section
open Eng Go.RowKit
def ptC (x:bj):List Value:=[.int .u8 (x.1.toNat:Int),.int .i64 (x.2.1:Int),.int .i64 (x.2.2:Int)]
def ptV (x:bj):Value:=.agg (ptC x).toArray
abbrev ptE (b:Nat)(x:bj):Ent:=.cells b (ptC x) 291
theorem Zs (x:bj):(ptC x).length=3:=rfl
theorem SP {x:bj}:∀u∈ptC x,u.oneCell'=true:=by
 intro u hu;simp only[ptC,alN,anA,or_false] at hu;rcases hu with rfl|rfl|rfl<;>rfl
theorem ZI:aggN ah 291=ax 3:=krx
theorem szPt:(Tryz.prog.info? 291).map (·.size)=ax 3:=krx
theorem Tp:fOff ah 291 0=ax 0:=krx
theorem Er:fOff ah 291 1=ax 1:=krx
theorem X8:fOff ah 291 2=ax 2:=krx
theorem ptAt {l:List bj}(a:SlA M.A M.w v 3 l.length (l.flatMap ptC))(hi:i < l.length) :
  ∃p,(∀W,(mIA 269 v (.int .i64 (i:Int))).run ah W=.ok (.value (.pointer (ax p))) W)∧∀W,M.has W->(aH 291 (.pointer (ax p))).run ah W=.ok (.value (ptV l[i])) W:=by
 obtain⟨b,off,cap,rfl,_⟩:=bX a.1 om;refine⟨⟨b,off+i*3,aw⟩,λW=>?_,λW e=>?_⟩
 ·have:=dY (P:=ah) (T:=269) (b:=b) (off:=off) (cap:=cap) (n:=l.length) (k:=.i64) (i:=(i:Int)) (w:=W) atF szPt om om;rw[alQ] at this;exact this
 ·obtain⟨h,c,d,he,f⟩:=bX (a.now e) om;cases he;refine aW (AtV.agg ZI (cs:=ptC l[i]) rfl λj u g=>?_);rw[anX];exact f _ _ (Eng.pI Zs hi g)
theorem WQ {n k:Nat}(b:k<=30)(d:n<=1000000000):bAnd .i64 (n:Int) ((2 ^ k - 1:Nat):Int)=((n % 2 ^ k:Nat):Int):=by
 have hp:2 ^ k<=2 ^ 30:=anN dc b;have c:(2:Nat) ^ 30=1073741824:=rfl;have hm:n % 2 ^ k<=n:=Nat.mod_le _ _;unfold bAnd;show IntKind.wrap .i64 (((BitVec.ofInt 64 (n:Int) &&& BitVec.ofInt 64 ((2 ^ k - 1:Nat):Int)).toNat:Nat):Int)=_;rw[BitVec.ofInt_natCast,BitVec.ofInt_natCast,BitVec.toNat_and,BitVec.toNat_ofNat,BitVec.toNat_ofNat,anD om,anD (a:=2 ^ k - 1) om,Nat.and_two_pow_sub_one_eq_mod];exact aA om om
theorem Xo {a k:Nat}(b:k<=40)(h:a*2 ^ k<=4611686018427387904):IntKind.i64.wrap ((a:Int)*2 ^ min ((k:Nat):Int).toNat IntKind.i64.bits)=((a*2 ^ k:Nat):Int):=by
 rw[show min ((k:Nat):Int).toNat IntKind.i64.bits=k by show min ((k:Nat):Int).toNat 64=k;omega,show (a:Int)*2 ^ k=((a*2 ^ k:Nat):Int) by push_cast;rfl];exact aA om om
def sdT (r:Nat×Nat×Nat):Value:=.tuple #[.int .i64 (r.1:Int),.int .i64 (r.2.1:Int),.int .i64 (r.2.2:Int)]
theorem OI (n b group:Nat)(w:ao)(F:n<=40000)(G:b<=8)(t:1<=group∧group<=4):Ret ah 343 #[.int .i64 (n:Int),.int .i64 (b:Int),.int .i64 (group:Int)] w (λv w'=>v=sdT (jb n b group)∧Below w.heap.size w w'):=by
 refine aZ λK o=>DD ?_;unfold AE nz;generalize e:jb n b group=R at o;unfold jb at e;simp only[rs];by_cases h:(n:Int) < (b:Int)
 ·simp only[h,alK,i_t];rw[alH om] at e;subst e;exact o _ _ ⟨rfl,(Own.start w).done⟩
 simp only[h,alL,i_f];rw[alG om] at e;rw[aA om om];have u:(2:Nat) ^ (1+20)=2097152:=rfl;refine loop (λvs W=>∃(m d bits f:Nat),vs=[.int .i64 (m:Int),.int .i64 (d:Int),.int .i64 (bits:Int)]∧m<=40000∧bits+f=21∧d<=8+4*bits∧m < group*2 ^ (bits+f)∧ku group f m d bits=R∧Own w W []) (λvs _=>n0 vs) ⟨n - b,b,1,20,by congr 2;omega,om,rfl,om,om,e,Own.start w⟩ ?_;rintro vs H ⟨m,d,bits,f,rfl,hm,A,B,p,c,l⟩ _;simp only[uF,gd,nz];have C:2 ^ bits<=2 ^ 21:=anN dc om;have D:(2:Nat) ^ 21=2097152:=rfl;have r:=asJ bits;have E:group*2 ^ bits<=4*2097152:=aoR t.2 om;have x:1*1<=group*2 ^ bits:=aoR t.1 r;rw[Fc om,Xo om om];simp only[rs];by_cases y:((group*2 ^ bits:Nat):Int)<=(m:Int)
 ·simp only[y,alK,i_t];obtain⟨f,rfl⟩:∃g,f=g+1:=⟨f - 1,by
   rcases anU f with z|z
   ·subst z;rw[anF] at p;omega
   ·omega⟩
  unfold ku at c;rw[alH om] at c;rw[Fc om,Xo om om];simp only[rs];rw[aA om om,aA om om,aA om om];rw[show (m:Int) - ((group*2 ^ bits:Nat):Int)=((m - group*2 ^ bits:Nat):Int) by omega];refine aY ⟨m - group*2 ^ bits,d+group,bits+1,f,rfl,om,om,om,?_,c,l⟩ (by show ((m - group*2 ^ bits:Nat):Int).toNat < ((m:Nat):Int).toNat;omega);rw[show bits+1+f=bits+(f+1) by omega];omega
 ·simp only[y,alL,i_f];have i:(d+m / 2 ^ bits,m % 2 ^ bits,bits)=R:=by
   cases f with
  |zero=>exact c
  |succ f=>
    unfold ku at c;rw[alG om] at c;exact c
  have s:m / 2 ^ bits<=m:=aqM _ _;have j:=Xo (a:=1) (k:=bits) om om;refine dK (λW=>Own w W []) l.drew ?_;refine q_do _ (λ_=>VB om) ?_;rw[show min ((bits:Nat):Int).toNat IntKind.i64.bits=bits by show min ((bits:Nat):Int).toNat 64=bits;omega,QN];generalize m / 2 ^ bits=q at s i ⊢;refine oY ?_;rw[aA om om];refine q_do _ (λ_=>Y2 om) ?_;rw[show ((1:Int))=((1:Nat):Int) from rfl,j,aqV];refine q_do _ (λ_=>rB) ?_;rw[aA om om,show ((2 ^ bits:Nat):Int) - ((1:Nat):Int)=((2 ^ bits - 1:Nat):Int) by omega];refine q_do _ (λ_=>ZC) ?_;rw[WQ om om];intro W l;refine o _ _ ⟨?_,l.done⟩;rw[<-i];rfl
theorem Mz (n:Nat)(w:ao)(c:3<=n)(h:n<=258):Ret ah 325 #[.int .i64 (n:Int)] w (λv w'=>v=.tuple #[.int .i64 ((bu n).1:Int),.int .i64 ((bu n).2.1:Int),.int .i64 ((bu n).2.2:Int),.int .i64 0]∧Below w.heap.size w w'):=by
 refine aZ λK a=>Dy ?_;unfold A4 nz;obtain⟨s1,s2,_⟩:=ly c h;unfold bu at a s1 s2;simp only[rs,show ai ((n:Int) < 3)=au from alJ om,show ai ((258:Int) < (n:Int))=au from alJ om,i_f];by_cases b:(n:Int)=258
 ·simp only[b,alK,i_t];rw[alH om] at a;exact a _ _ ⟨rfl,(Own.start w).done⟩
 ·simp only[b,alL,i_f];rw[alG om] at a s1 s2;rw[aA om om,show (n:Int) - 3=((n - 3:Nat):Int) by omega];refine aM (Own.start w) (R:=λv=>v=sdT (jb (n - 3) 8 4)) (OI (n - 3) 8 4 w om om om) ?_;rintro _ w2 rfl d;unfold sdT;simp only[ex,rs];rw[aA om om];exact a _ _ ⟨sm,d.done⟩
theorem LB (n:Nat)(w:ao)(c:1<=n)(h:n<=32768):Ret ah 326 #[.int .i64 (n:Int)] w (λv w'=>v=.tuple #[.int .i64 ((di n).1:Int),.int .i64 ((di n).2.1:Int),.int .i64 ((di n).2.2:Int),.int .i64 0]∧Below w.heap.size w w'):=by
 refine aZ λK a=>DE ?_;unfold A2 nz;simp only[rs,show ai ((n:Int) < 1)=au from alJ om,show ai ((32768:Int) < (n:Int))=au from alJ om,i_f];rw[aA om om,show (n:Int) - 1=((n - 1:Nat):Int) by omega];refine aM (Own.start w) (R:=λv=>v=sdT (jb (n - 1) 4 2)) (OI (n - 1) 4 2 w om om om) ?_;rintro _ w2 rfl b;unfold sdT;simp only[ex,rs];exact a _ _ ⟨rfl,b.done⟩
theorem yi (last n:Nat)(l:List Nat)(s:List UInt8){k:Nat}(a:l.length=8*k):fk (l++bf last 1++bf 0 2)++bf n 16++bf (65535 - n) 16++fj s=l++jt last n s:=by
 unfold jt fk;rw[show (8 - (l++bf last 1++bf 0 2).length % 8) % 8=5 by simp only[alI,bp];omega];simp only[alS]
theorem GB {T2:TypeId}{k:IntKind}{b:Int}:DoX ah (mB .min #[T1,T2] U cb #[.int k a,.int k' b]) w PK K=K (.int k (min a b)) w:=aD (by
 have e:(if b < a then b else a)=min a b:=by split<;>omega
 simp[mB,builtin,Builtin.min_,Builtin.min2,e])
section
variable {w:ao}{PK:PKT}{K:VWP}{S:Nat->Prop}{w0:ao}{L T:List Ent}
theorem R7 {s:List UInt8}(a:OwnS S w0 w T)(hs:s.length<=1048576)(k:∀W,OwnS S w0 W T->K (.string ⟨(az (fu s)).toArray⟩) W):CallX ah 265 #[.string ⟨s.toArray⟩] w PK K:=by
 refine fG (BA (k0:=RetK λu W=>u=.string ⟨(az (fu s)).toArray⟩∧OwnS S w0 W T) ?_) (λe W ⟨u,he,hv,a⟩=>by subst he;subst hv;exact k W a);unfold uM nz;refine Sf a λb w1 a=>?_;unfold fu;generalize hf:s.length / 65535+1=f;have F:s.length < f*65535:=om
 have G:f<=20:=om
 generalize hR:ib f s=R;refine loop (λvs W=>∃(t:List UInt8) (l:List Nat) (j g:Nat) (way:Int) (v:aq),vs=[.string ⟨t.toArray⟩]∧t.length<=1048576∧t.length < g*65535∧g<=20∧l.length=8*j∧j+t.length+5*g<=1048776∧bn l∧l++ib g t=R∧(way=0∨way=1)∧OwnS S w0 W (Wr b way l v T)) (λvs _=>yM (vs.getD 0 undef)) ⟨s,[],0,f,0,nilS,rfl,hs,F,G,rfl,om,(λb hb=>by cases hb),by rw[<-hR];rfl,.inl rfl,a⟩ ?_;clear a;rintro vs w2 ⟨t,l,j,g,way,v,rfl,ht,a8,hg,H,b0,r,i,hw,a⟩ _;simp only[pP,gd,nz];rw[iJ alV,GB];obtain⟨g,rfl⟩:∃q,g=q+1:=⟨g - 1,om⟩;unfold ib at i;have hn:min (t.length:Int) 65535=((min t.length 65535:Nat):Int):=om
 rw[hn];refine join λJ hJ=>?_;rw[iJ alV];simp only[rs];have go:∀last:Nat,last < 2->(last=1↔t.length<=65535)->J [.int .i64 (last:Int)] w2:=by
  intro last I m;refine hJ _ _ λ_=>?_;simp only[pZ,gd,nz];generalize b1:min t.length 65535=n;have X:n<=65535:=om
  have b2:n<=t.length:=om
  have b3:l.length<=10000000:=om
  refine nA (n:=1) a r hw om om om λY v1 w3 L a=>?_;have o:=br r (dr last 1);refine nA (x:=0) (n:=2) a o L om dc (by rw[alI,bp];omega) λZ v2 w4 b4 a=>?_;have A:=br o (dr 0 2);refine Qa a λw5 a=>?_;have c:=uq A;have M:(fk (l++bf last 1++bf 0 2)).length=8*(j+1):=by
   rw[nn];simp only[alI,bp];omega
  generalize B:fk (l++bf last 1++bf 0 2)=N at a c M;refine nA (x:=n) (n:=16) a c (.inl rfl) om om om λa1 v4 w6 O a=>?_;have p:=br c (dr n 16);simp only[rs];rw[aA om om,show (65535:Int) - (n:Int)=((65535 - n:Nat):Int) by omega];refine nA (x:=65535 - n) (n:=16) a p O om om (by rw[alI,bp];omega) λa6 v5 w7 b5 a=>?_;have a7:=br p (dr (65535 - n) 16);have C:(N++bf n 16++bf (65535 - n) 16).length=8*(j+5):=by
   simp only[alI,bp];omega
  have P:fk (N++bf n 16++bf (65535 - n) 16)=N++bf n 16++bf (65535 - n) 16:=by
   unfold fk;rw[C,show (8 - 8*(j+5) % 8) % 8=0 by omega];exact amE _
  refine Qa a λw8 a=>?_;rw[P] at a;rw[afH alV om om,alQ];have D:(t.take n).length=n:=by rw[alR];omega
  refine acY (j:=j+5) a C om om λv6 w9 a=>?_;rw[PB alV om om,alQ];have d:=yi last n l (t.take n) H;rw[B] at d;rw[d] at a;have E:=br r (qf last n (t.take n));have Q:(l++jt last n (t.take n)).length=8*(j+5+n):=by rw[alI,ju,D];omega
  try simp only[rs]
  by_cases y:t.length<=65535
  ·have U:=m.2 y;subst U;simp only[show ai (((1:Nat):Int)=1)=av from rfl,i_t];rw[alH y] at i;have z:n=t.length:=om
   rw[z,anI,i] at a;refine Nd a (by rw[<-i,alI,ju];omega) (by rw[<-i,alI,ju];omega) λW a=>?_;exact⟨_,rfl,rfl,a⟩
  ·have V:last=0:=by
    have:¬last=1:=λe=>y (m.1 e);omega
   subst V;simp only[show ai (((0:Nat):Int)=1)=au from rfl,i_f];rw[alG y] at i;have z:n=65535:=om
   subst z;rw[<-alS] at i;have ld:(t.drop 65535).length=t.length - 65535:=alW;exact aY ⟨t.drop 65535,_,j+5+65535,g,0,v6,rfl,om,om,om,Q,om,E,i,.inl rfl,a⟩ (by
    show yM (.string ⟨(t.drop 65535).toArray⟩) < yM (.string ⟨t.toArray⟩);rw[sF,sF];omega)
 by_cases y:t.length<=65535
 ·simp only[show ai (((min t.length 65535:Nat):Int)=(t.length:Int))=av from alM om,i_t];exact go 1 dc ⟨λ_=>y,λ_=>rfl⟩
 ·simp only[show ai (((min t.length 65535:Nat):Int)=(t.length:Int))=au from alJ om,i_f];exact go 0 dc ⟨(λh=>by cases h),λh=>absurd h y⟩
end
end
section
open Eng Go.RowKit
theorem Cn.LY:∀l:List Cn,Cn.sum Cn.wt (Cn.bF l)<=Cn.sum Cn.wt l
|[]=>alP _
|[a]=>amN _
|a::b::l=>by
  have c:=Cn.LY l;show Cn.sum Cn.wt (.node a b::Cn.bF l)<=_;rw[Cn.sum_cons,Cn.sum_cons,Cn.sum_cons];show a.wt+b.wt+_<=_;omega
theorem Cn.Row.agP {L:List Cn}(h:Cn.Row L t r):Cn.sum Cn.wt r<=(t+1)*Cn.sum Cn.wt L:=by
 induction h with
|zero _ hp=>
  rw[Cn.KE hp];omega
|@succ t q r a _ hp b=>
  have:=Cn.LY q;rw[Cn.KE hp,Cn.Gl,anS];omega
def nv (counts:List Nat)(i:Nat):List Nat:=(List.range i).filter λs=>ai (0 < counts.getD s 0)
def kh (counts:List Nat)(i:Nat):List Cn:=(nv counts i).map λs=>.leaf (counts.getD s 0) s
theorem wc (counts:List Nat):kh counts counts.length=kg counts:=rfl
theorem we (counts:List Nat)(i:Nat):kh counts (i+1)=kh counts i++(if 0 < counts.getD i 0 then [.leaf (counts.getD i 0) i] else []):=by
 unfold kh nv;rw[aqT,asW,amW]
 congr 1
 by_cases h:0 < counts.getD i 0
 ·rw[alH h,aqZ,alH (alM h)];rfl
 ·rw[alG h,aqZ,alG (λk=>h (alZ k))];rfl
theorem J0 (counts:List Nat)(i:Nat):(kh counts i).length<=i:=by
 unfold kh nv;rw[amT];have:=asU (λs=>ai (0 < counts.getD s 0)) (List.range i)
 rwa [asV] at this
theorem wg {counts:List Nat}(h:∀c∈counts,c<=2147483647):∀i,Cn.sum Cn.wt (kh counts i)<=i*2147483647
|0=>by simp[kh,nv,Cn.sum]
|i+1=>by
  have a:=wg h i;rw[we,Cn.Gl,anS];have b:counts.getD i 0<=2147483647:=iq h dc i;have e:Cn.sum Cn.wt (if 0 < counts.getD i 0 then [.leaf (counts.getD i 0) i] else [])<=counts.getD i 0:=by
   split
   ·simp[Cn.sum,Cn.wt]
   ·simp[Cn.sum]
  omega
theorem zR (l:List Nat)(i n:Nat):(aV l).set i (.int .i64 (n:Int))=aV (l.set i n):=by unfold aV;rw[arQ]
theorem DB (h:i < l.length):(aV l)[i]?=ax (.int .i64 ((l.getD i 0:Nat):Int)):=by
 unfold aV;rw[apP,alO,alT h];rfl
theorem MC:(Tryz.prog.info? 3).map (·.size)=ax 1:=krx
theorem TV {g n:Nat}(hi:i < n)(W:ao):(mIA 123 (.slice (ax ⟨g,0,aw⟩) n cap) (.int .i64 (i:Int))).run ah W=.ok (.value (.pointer (ax ⟨g,i,aw⟩))) W:=by
 have:=dY (P:=ah) (T:=123) (b:=g) (off:=0) (cap:=cap) (n:=n) (k:=.i64) (i:=(i:Int)) (w:=W) amF MC om om
 rwa [alQ,amI,alU] at this
abbrev lnE (a g n:Nat):Ent:=.cells a [.slice (ax ⟨g,0,aw⟩) n n] 123
abbrev lrE (g:Nat)(out:List Nat):Ent:=.cells g (aV out) 3
def afD (a:Nat):Value:=.func (.func 330) #[] #[.pointer (ax ⟨a,0,aw⟩)]
theorem Ij:cO ah 330=true:=krx
section
variable {w:ao}{PK:PKT}{K:VWP}{S:Nat->Prop}{w0:ao}{L T:List Ent}
theorem Zk :DoX ah (mEq .eql 342 xo yo (.pointer (ax ⟨b,0,aw⟩)) (.pointer aw)) w PK K=K (.bool au) w:=aD krx
theorem VQ :DoX ah (mEq .eql 342 xo yo (.pointer aw) (.pointer aw)) w PK K=K (.bool av) w:=aD krx
theorem agI {b g s:Nat}{out:List Nat}(a:OwnS S w0 w (lnE b g out.length::lrE g out::T))(c:s < out.length)(f:out.getD s 0<=1000000000)
  (k:∀W,OwnS S w0 W (lnE b g out.length::lrE g (out.set s (out.getD s 0+1))::T)->K (.tuple #[]) W):DoX ah (fX (afD b) #[.int .i64 (s:Int)]) w PK K:=by
 refine Iq Ij ?_;show CallX ah 330 #[.int .i64 (s:Int),.pointer (ax ⟨b,0,aw⟩)] w PK K;refine fG (wL (k0:=RetK λv W=>v=.tuple #[]∧OwnS S w0 W (lnE b g out.length::lrE g (out.set s (out.getD s 0+1))::T)) ?_) (λe W ⟨v,he,d,a⟩=>by subst he;subst d;exact k W a);unfold pV nz;rw[aJ EH (a.cell 0 rfl 0 rfl)];refine aD (TV c w) |>.mpr ?_;rw[aJ aU (a.cell 1 rfl s (DB c))];simp only[rs];rw[aA om om,show ((out.getD s 0:Nat):Int)+1=((out.getD s 0+1:Nat):Int) by omega];refine aD (TV c w) |>.mpr ?_;refine aK 1 a rfl krx rfl (by rw[eP];exact c) λw2 a=>?_;rw[zR] at a;exact retK ⟨rfl,a⟩
theorem Ud {o g jm:Nat}{M:Mem}(hm:T[jm]?=ax (.mem M)):∀(c:Cn) {v:aq} {w:ao} {PK:PKT} {K:VWP} {out:List Nat},OwnS S w0 w (lnE o g out.length::lrE g out::T)->CnAt M.A M.w v c ->
  (∀s,0 < c.cnt s->s < out.length)->(∀s,out.getD s 0+c.cnt s<=1000000000) ->
  (∀W a,a.length=out.length->(∀s,a.getD s 0=out.getD s 0+c.cnt s)->OwnS S w0 W (lnE o g a.length::lrE g a::T)->K (.tuple #[]) W) ->
  CallX ah 329 #[v,afD o] w PK K
|.leaf wt s,v,w,PK,K,out,d,l,j,C,k=>by
  refine fG (oA (k0:=RetK λv W=>v=.tuple #[]∧∃a,a.length=out.length∧(∀t,a.getD t 0=out.getD t 0+(Cn.leaf wt s).cnt t)∧OwnS S w0 W (lnE o g a.length::lrE g a::T)) ?_) (λe W ⟨v,he,l,a,D,E,d⟩=>by subst he;subst l;exact k W a D E d);unfold mS nz;obtain⟨b,rfl,p,q⟩:=l;have n:M.has w:=d.hasM (jm+2) (by rw[amS,amS];exact hm);rw[bG,aO SS];refine aD (aB L9 (aI (T:=344) (cs:=cnC wt s (.pointer aw) (.pointer aw)) (jK n p q) (i:=2) rfl)) |>.mpr ?_;rw[VQ,i_t,bG,aO YD];refine aD (aB aU (aI (T:=344) (cs:=cnC wt s (.pointer aw) (.pointer aw)) (jK n p q) (i:=1) rfl)) |>.mpr ?_;have J:s < out.length:=j s (by simp[Cn.cnt]);have O:=C s;refine agI d J om λW d=>?_;refine retK ⟨rfl,out.set s (out.getD s 0+1),anZ,λt=>?_,by rw[anZ];exact d⟩;rw[alO];by_cases h:s=t
  ·subst h;rw[aoS J];simp[Cn.cnt]
  ·rw[aqO h,<-alO];simp[Cn.cnt,h]
|.node x y,v,w,PK,K,out,d,l,j,C,k=>by
  refine fG (oA (k0:=RetK λv W=>v=.tuple #[]∧∃a,a.length=out.length∧(∀t,a.getD t 0=out.getD t 0+(Cn.node x y).cnt t)∧OwnS S w0 W (lnE o g a.length::lrE g a::T)) ?_) (λe W ⟨v,he,l,a,D,E,d⟩=>by subst he;subst l;exact k W a D E d);unfold mS nz;obtain⟨b,va,F,rfl,p,q,L,P⟩:=l;have m:∀{W:ao} {e e':Ent},OwnS S w0 W (e::e'::T)->M.has W:=λd=>d.hasM (jm+2) (by rw[amS,amS];exact hm);obtain⟨R,Q,_⟩:=CnAt.ptr L;have r:∀{W:ao},M.has W->(aH 342 (.pointer (ax ⟨b,0+2,aw⟩))).run ah W=.ok (.value va) W:=λn=>aB L9 (aI (T:=344) (cs:=cnC (x.wt+y.wt) 0 va F) (jK n p q) (i:=2) rfl);have G:∀{W:ao},M.has W->(aH 342 (.pointer (ax ⟨b,0+3,aw⟩))).run ah W=.ok (.value F) W:=λn=>aB L9 (aI (T:=344) (cs:=cnC (x.wt+y.wt) 0 va F) (jK n p q) (i:=3) rfl);have f:∀t,(Cn.node x y).cnt t=x.cnt t+y.cnt t:=λt=>rfl;rw[bG,aO SS];refine aD (r (m d)) |>.mpr ?_;rw[Q,Zk,i_f]
  try rw[bG]
  rw[aO SS];refine aD (r (m d)) |>.mpr ?_;refine Ud hm x d L (λs h=>j s (by rw[f];omega)) (λs=>by have:=C s;rw[f] at this;omega) λU N u z d=>?_
  try rw[bG]
  rw[aO agH];refine aD (G (m d)) |>.mpr ?_;refine Ud hm y d P (λs h=>by rw[u];exact j s (by rw[f];omega)) (λs=>by have:=C s;rw[f] at this;rw[z];omega) λV B H I d=>?_;exact retK ⟨rfl,B,by rw[H,u],λt=>by rw[I,z,f];omega,d⟩
end
theorem GS (h:(pcE v ps).is w):DoX ah (mB .len #[341] 3 #[au] #[v]) w PK K=K (.int .i64 (ps.length:Int)) w:=bE aoE (Sl.urow h)
theorem Yb {d b:Nat}{out:List Nat}{R:List Ent}(a:OwnS S w0 w (lnE d b out.length::lrE b out::R))(e:R[j]?=ax (Ent.mem N))(k:out.length<=1000000) :
  ∃c:Mem,N.le c∧SlA c.A c.w (.slice (ax ⟨b,0,aw⟩) out.length out.length) 1 out.length (aV out)∧∃(f:List Ent) (h:Nat),OwnS S w0 w f∧f[h]?=ax (Ent.mem c):=by
 have a:OwnS S w0 w ([lnE d b out.length]++([lrE b out]++R)):=a;have a:OwnS S w0 w (.cells b (aV out) 3::(lnE d b out.length::R)):=a.front;have a:=a.toU 1 out.length out.length (by rw[eP,amI]) (alP _) om;rw[amI,amP (by rw[eP];exact alP _)] at a;obtain⟨c,g,i,a⟩:=OwnS.bJ a (j+1) (by rw[amS];exact e);refine⟨c,g,i,_,j+1,a,?_⟩;rw[aoS (by
  have:=(alY.1 e).1;simp only[amC];omega)]
theorem Bu {l:List Cn}(h:ps.map (·.2)=l):ps.length=l.length:=by rw[<-h,amT]
theorem Cn.Xx {L:List Cn}(hL:Cn.Lv L Sy)(h:Cn.Row L t r){n:Nat}(a:∀s∈Sy,s < n):∀x∈r,∀s,0 < x.cnt s->s < n:=by
 intro x b s c;by_cases hm:s∈Sy
 ·exact a s hm
 ·have:=h.none hL hm x b;omega
theorem ra (h:Srt.srt pw ps):Cn.sorted (ps.map (·.2)):=by
 unfold Cn.sorted;rw[List.pairwise_map];exact h
theorem yO (counts:List Nat)(most:Nat)(v:aq)(M:Mem)(w:ao)(hM:M.has w)(hs:SlA M.A M.w v 1 counts.length (aV counts))(hl:counts.length<=288)(l7:0 < counts.length)(hc:∀c∈counts,c<=2147483647)(hm:1<=most)(h6:most<=15)(hu:(da counts).length<=2 ^ most) :
  RetM ah 298 #[v,.int .i64 (most:Int)] M w (λr N=>∃lens r',r=.tuple #[r',.int .i64 0]∧Df.LK counts lens most∧r'.oneCell'=av∧SlA N.A N.w r' 1 lens.length (aV lens)):=by
 refine bB hM λK hK=>DM ?_;unfold AZ nz;have d:OwnS M.A w w [.mem M]:=OwnS.memS hM;rw[bE amF (hs.now hM)];simp only[rs,show ai ((288:Int) < (counts.length:Int))=au from alJ om,show ai ((most:Int) < 1)=au from alJ om,show ai ((15:Int) < (most:Int))=au from alJ om,i_f];rw[bE amF (hs.now hM)];have d:OwnS M.A w w [.urow 342 1 nilS 0 [],.mem M]:=OwnS.nilU (L:=[.mem M]) d _ _;refine loop (λvs W=>∃(i:Nat) (v':aq) (o:List Pc) (N:Mem),vs=[v',.int .i64 (i:Int)]∧i<=counts.length∧M.le N∧o.map (·.2)=kh counts i∧(∀x∈o,okM N x)∧OwnS M.A w W [pcE v' o,.mem N]) (λvs _=>counts.length - n1 vs) ⟨0,nilS,[],M,rfl,om,M.le_refl,rfl,(λx z=>by cases z),d⟩ ?_;clear d;rintro vs w1 ⟨i,v',o,N,rfl,hi,hle,O,P,d⟩ _;simp only[uX,gd,rs,nz];have l8:=Bu O;have l9:=J0 counts i;by_cases c0:(i:Int) < (counts.length:Int)
 ·simp only[c0,alK,i_t];have a7:i < counts.length:=om
  refine join λJ hJ=>?_;obtain⟨b2,off,r1,r2⟩:=mY (hs.now (Mem.K4 hle (d.hasM 1 rfl))) a7;refine aD (r1 w1) |>.mpr (aD (aB aU r2) |>.mpr ?_);have h7:=hc _ (alX a7);have h8:counts.getD i 0=counts[i]:=by rw[alO,alT a7];rfl
  have l:=we counts i;rw[h8] at l;generalize counts[i]=ci at h7 l;simp only[rs,show ai ((ci:Int) < 0)=au from alJ om,show ai ((2147483647:Int) < (ci:Int))=au from alJ om,i_f];have fin:∀(W:ao) (v2:aq) (F:List Pc) (I:Mem),N.le I->F.map (·.2)=kh counts (i+1)->(∀x∈F,okM I x)->OwnS M.A w W [pcE v2 F,.mem I]->J [v2] W:=by
   intro W v2 F I g U Q d;refine hJ _ _ λ_=>?_;simp only[uG,gd,rs,nz];rw[aA om om];exact aY ⟨i+1,v2,F,I,rfl,om,hle.trans g,U,Q,d⟩ (by simp[n1,RowKit.intOf];omega)
  by_cases h0:0 < ci
  ·simp only[show ai ((0:Int) < (ci:Int))=av from alM om,i_t];rw[alH h0] at l;have mb:∀{PK:PKT} {K:VWP},DoX ah (aS 344 #[(0,.int .i64 (ci:Int)),(1,.int .i64 (i:Int))]) w1 PK K=K (.agg (cnC ci i (.pointer aw) (.pointer aw)).toArray) w1:=aD krx;rw[mb];refine bA (λb=>.pointer (ax ⟨b,0,aw⟩)) (cnC ci i (.pointer aw) (.pointer aw)) 344 (λ_=>by kernel_rfl) d λnb w3 d=>?_;have h9:=d.at_ 0 rfl;obtain⟨N1,g1,j0,c4,d⟩:=OwnS.freeze (L:=[pcE v' o,.mem N]) d 1 rfl;have hz:okM N1 (.pointer (ax ⟨nb,0,aw⟩),.leaf ci i):=⟨nb,rfl,c4 nb rfl,by rw[j0];exact h9⟩;have d:OwnS M.A w w3 [pcE v' o,.mem N1]:=d;refine bA (λb=>.slice (ax ⟨b,0,aw⟩) 1 1) [.pointer (ax ⟨nb,0,aw⟩)] 342 (λ_=>by kernel_rfl) d λsb w4 d=>?_;refine bR 1 aoE JG dc d rfl (oD (d.at_ 0 rfl) dc rfl) (λu hu=>by rw[amH.1 hu];rfl) om om λv2 w5 d=>?_;have d:OwnS M.A w w5 [pcE v2 (o++[(.pointer (ax ⟨nb,0,aw⟩),.leaf ci i)]),.mem N1]:=by
    unfold pcE;rw[Ol,alI];exact d.tail
   refine fin w5 v2 _ N1 g1 (by rw[amW,O,l];rfl) (λu hu=>?_) d;rcases amK.1 hu with h|h
   ·exact (P u h).le g1
   ·rw[amH.1 h];exact hz
  ·simp only[show ai ((0:Int) < (ci:Int))=au from alJ om,i_f];rw[alG h0,amE] at l;exact fin w1 v' o N N.le_refl (by rw[O,l]) P d
 ·simp only[c0,alL,i_f];have j1:i=counts.length:=om
  subst j1;rw[wc] at O;have B:=vm counts;have c5:o.length=(da counts).length:=by rw[Bu O,B.len]
  have m0:2 ^ most<=2 ^ 15:=anN dc h6;have m1:(2:Nat) ^ 15=32768:=rfl;rw[GS (d.at_ 0 rfl),Fc om];have t:=Xo (a:=1) (k:=most) om om;rw[aqV] at t;have t:IntKind.i64.wrap ((1:Int)*2 ^ min ((most:Nat):Int).toNat IntKind.i64.bits)=((2 ^ most:Nat):Int):=t;rw[t];simp only[rs,show ai (((2 ^ most:Nat):Int) < (o.length:Int))=au from alJ om,i_f];rw[bE amF (hs.now (Mem.K4 hle (d.hasM 1 rfl)))];refine wX om d λq w2 d=>?_;refine bA (λb=>.pointer (ax ⟨b,0,aw⟩)) [.slice aw 0 0] 123 (λ_=>by kernel_rfl) d λX w3 d=>?_;refine aK 0 d rfl krx rfl (by show 0 < 1;omega) λw4 d=>?_;have j3:aV (List.replicate counts.length 0)=List.replicate counts.length (.int .i64 0):=by simp[aV]
  have d:OwnS M.A w w4 (lnE X q (List.replicate counts.length 0).length::lrE q (List.replicate counts.length 0)::[pcE v' o,.mem N]):=by
   unfold lrE;rw[j3,amY];exact d
  refine join λJ3 j4=>?_;rw[GS (d.at_ 2 rfl)];simp only[rs];have fin:∀(W:ao) (out:List Nat),out.length=counts.length->(o.length < 2->Df.LK counts out most)->(2<=o.length->out=List.replicate counts.length 0)->OwnS M.A w W (lnE X q out.length::lrE q out::[pcE v' o,.mem N])->J3 [] W:=by
   intro W out R U Q d;refine j4 _ _ λ_=>?_;unfold vI nz;rw[GS (d.at_ 2 rfl)];simp only[rs];by_cases j5:o.length < 2
   ·simp only[show ai ((o.length:Int) < 2)=av from alM om,i_t];rw[aJ EH (d.cell 0 rfl 0 rfl)];obtain⟨I,g2,C,L2,j2,a8,b0⟩:=Yb (j:=1) d rfl om;exact hK _ _ I L2 j2 a8 b0 (hle.trans g2) ⟨out,_,rfl,U j5,rfl,C⟩
   ·simp only[show ai ((o.length:Int) < 2)=au from alJ om,i_f];have Q:=Q om;subst Q;have j6:=cQ (d.at_ 2 rfl);have d:OwnS M.A w W ([lnE X q (List.replicate counts.length 0).length,lrE q (List.replicate counts.length 0)]++([pcE v' o]++[.mem N])):=d;obtain⟨I,g2,j7,d⟩:=OwnS.bJ (L:=[lnE X q (List.replicate counts.length 0).length,lrE q (List.replicate counts.length 0)]++[.mem N]) d.front 2 rfl;have d:OwnS M.A w W [lnE X q (List.replicate counts.length 0).length,lrE q (List.replicate counts.length 0),.mem I]:=d;refine bH d 2 rfl (GJ o [] v' nilS I W (d.hasM 2 rfl) j7 (SlA.nil _ _ _ _) (λx z=>(P x z).le g2) (λx z=>by cases z) om om sm j6 rfl) ?_;rintro lv N3 w5 g3 ⟨ls,b1,j8,c6,c7,G⟩ d;rw[amE] at b1;have c8:(ls.map (·.2)).Perm (kg counts):=by rw[<-O];exact b1.map _
    have m2:ls.length=(da counts).length:=by rw[b1.length_eq,c5]
    have S:=B.len;have m3:(da counts).length<=288:=by
     have:=asU (λs=>ai (0 < counts.getD s 0)) (List.range counts.length);rw[asV] at this;have e:(da counts).length<=counts.length:=this;omega
    rw[aA om om];refine loop (λvs V=>∃(k:Nat) (rv:aq) (rs:List Pc) (N':Mem),vs=[rv,.int .i64 (k:Int)]∧k<=most - 1∧N3.le N'∧Cn.Row (kg counts) k (rs.map (·.2))∧(∀x∈rs,okM N' x)∧rv.oneCell'=av∧SlA N'.A N'.w rv 1 rs.length (pcW rs)∧OwnS M.A w V [lnE X q (List.replicate counts.length 0).length,lrE q (List.replicate counts.length 0),.mem N']) (λvs _=>most - n1 vs) ⟨0,lv,ls,N3,rfl,om,N3.le_refl,.zero (ra j8) c8,c6,c7,G,d⟩ ?_;clear d;rintro vs w6 ⟨k,rv,rws,N4,rfl,hk,g4,f,c9,m4,y,d⟩ _;simp only[uT,gd,rs,nz];have j9:=f.lt om;rw[amT,S] at j9;by_cases Y:(k:Int) < (most:Int) - 1
    ·simp only[Y,alK,i_t];have l4:=f.agP;have e0:=wg hc counts.length;rw[wc] at e0;have m5:(k+1)*Cn.sum Cn.wt (kg counts)<=15*(288*2147483647):=aoR om (aoM e0 (aoR hl (alP _)));have k0:∀x∈rws,pw x<=1000000000000000:=λx z=>by
      have U:x.2.wt<=Cn.sum Cn.wt (rws.map (·.2)):=Cn.Nr (amM.2 ⟨x,z,rfl⟩);show x.2.wt<=_;omega
     refine bH d 2 rfl (Ry rws rv N4 w6 (d.hasM 2 rfl) y c9 om k0) ?_;rintro pv N5 w7 g5 ⟨qq,e3,e4,e5,e6⟩ d;have l5:qq.length<=1000000:=by
      rw[Bu e3,Cn.CK,amT];omega
     refine bH d 2 rfl (GJ ls qq lv pv N5 w7 (d.hasM 2 rfl) (G.le (g4.trans g5)) e6 (λx z=>(c6 x z).le (g4.trans g5)) e4 om om om c7 e5) ?_;rintro k1 N6 w8 g6 ⟨k2,k3,k4,e7,k5,b3⟩ d
     try simp only[rs]
     rw[aA om om];refine aY ⟨k+1,k1,k2,N6,rfl,om,g4.trans (g5.trans g6),.succ f (ra k4) ?_,e7,k5,b3,d⟩ (by simp[n1,RowKit.intOf];omega);have:=k3.map (·.2);rw[amW,e3] at this;exact this.trans (c8.append_right _)
    ·simp only[Y,alL,i_f];have b4:k=most - 1:=om
     obtain⟨c1,c2,c3⟩:=f.code B om (by rw[b4,show most - 1+1=most by omega,S];exact hu);rw[amT,S] at c1;rw[S] at c2 c3;rw[bE aoE ((G.le g4).now (d.hasM 2 rfl))];simp only[rs];rw[aA (n:=(2:Int)*(ls.length:Int)) om om,aA om om,show (2:Int)*(ls.length:Int) - 2=((2*(da counts).length - 2:Nat):Int) by omega];generalize hD:2*(da counts).length - 2=D at c1 c2 c3;obtain⟨rb,e8,Z,rfl,_⟩:=bX y.1 om;have l6:=y.2.2 _ _ _ rfl;refine aD (jM aoE DP om om) |>.mpr ?_;rw[alQ];have E:=SlA.SB y (i:=D) c1 (λh=>by omega);rw[amI] at E;generalize m6:Value.slice (subA (ax ⟨rb,e8,aw⟩) 0 Z 1) D Z=sv at E;have e9:pcW (rws.take D)=(pcW rws).take D:=by unfold pcW;rw[arR]
     have a1:(rws.take D).length=D:=by rw[alR];omega
     have E:SlA N4.A N4.w sv 1 (rws.take D).length (pcW (rws.take D)):=by rw[e9,a1];exact E
     rw[bE aoE (E.now (d.hasM 2 rfl)),a1];have k6:((rws.map (·.2)).take D).Nodup:=(asN _ _).nodup (f.nodup B).1;have h3:=f.levels B _ k6 (λx z=>anT z) (Cn.PN f.sorted D);have k7:∀s∈da counts,s < counts.length:=λs hs=>by
      have:=ke.1 hs;rcases amL s counts.length with h'|h'
      ·exact h'
      ·rw[alO,anY h'] at this;exact absurd this (aqG _)
     have b5:=Cn.Xx B f k7;refine loop (λvs V=>∃(i:Nat) (out:List Nat),vs=[.int .i64 (i:Int)]∧i<=D∧out.length=counts.length∧(∀s,out.getD s 0=Cn.sum (Cn.cnt s) ((rws.take i).map (·.2)))∧OwnS M.A w V [lnE X q out.length,lrE q out,.mem N4]) (λvs _=>D - n0 vs) ⟨0,List.replicate counts.length 0,rfl,om,amY,λs=>by
      rw[alO,arO];split<;>rfl,d⟩ ?_
     clear d;rintro vs w7 ⟨j,out,rfl,hj,R,H,d⟩ _;simp only[vH,gd,rs,nz];by_cases a6:(j:Int) < (D:Int)
     ·simp only[a6,alK,i_t];have k8:j < (rws.take D).length:=om
      have b6:j < rws.length:=om
      obtain⟨p,ia,ld⟩:=pcAt E k8;refine aD (ia w7) |>.mpr (aD (ld w7 (d.hasM 2 rfl)) |>.mpr ?_)
      try rw[pY]
      rw[arI];have z:=c9 _ (alX b6);have h4:∀s,Cn.sum (Cn.cnt s) ((rws.take (j+1)).map (·.2))=Cn.sum (Cn.cnt s) ((rws.take j).map (·.2))+rws[j].2.cnt s:=λs=>by
       rw[amO b6,amW,Cn.Gl];rfl
      have k9:∀s,Cn.sum (Cn.cnt s) ((rws.take (j+1)).map (·.2))<=k+1:=λs=>by
       have U:=(h3 s).1;have Q:(rws.map (·.2)).take D=(rws.take (j+1)).map (·.2)++((rws.drop (j+1)).take (D - (j+1))).map (·.2):=by
        rw[<-arR,<-amW]
        congr 1
        conv=>lhs;rw[show D=j+1+(D - (j+1)) by omega,List.take_add]
       rw[Q,Cn.Gl] at U;omega
      refine Ud (jm:=0) (T:=[.mem N4]) rfl rws[j].2 d z (λs h=>by rw[R];exact b5 _ (amM.2 ⟨rws[j],alX b6,rfl⟩) s h) (λs=>by rw[H,<-h4];have:=k9 s;omega) λW2 h5 U Q d=>?_
      try simp only[rs]
      rw[aA om om];exact aY ⟨j+1,h5,rfl,om,by rw[U,R],λs=>by rw[Q,H,h4],d⟩ (by simp[n0,RowKit.intOf];omega)
     ·simp only[a6,alL,i_f];have l0:j=D:=om
      subst l0;rw[aJ EH (d.cell 0 rfl 0 rfl)];obtain⟨N5,g5,C,L2,j2,a8,b0⟩:=Yb (j:=0) d rfl om;refine hK _ _ N5 L2 j2 a8 b0 (hle.trans (g2.trans (g3.trans (g4.trans g5)))) ⟨out,_,rfl,?_,rfl,C⟩;have:=E0 (counts:=counts) (lens:=out) (m:=k) om f om (by rw[b4,show most - 1+1=most by omega];exact hu) hl R λs _=>by
       rw[H,hD,arR]
      rw[b4,show most - 1+1=most by omega] at this;exact this
  by_cases l1:o.length=1
  ·simp only[show ai ((o.length:Int)=1)=av from alM om,i_t];obtain⟨u,rfl⟩:=atD.1 l1;have b7:=P u (atC u);obtain⟨s,b8⟩:∃s,da counts=[s]:=atD.1 (by rw[<-c5];rfl);have l2:u.2=.leaf (counts.getD s 0) s:=by
    unfold kg at O;rw[b8] at O;exact (List.cons.inj O).1
   have C:s < counts.length:=by
    have:s∈da counts:=by rw[b8];exact atC s
    have:=ke.1 this;rcases amL s counts.length with h'|h'
    ·exact h'
    ·rw[alO,anY h'] at this;exact absurd this (aqG _)
   unfold okM at b7;rw[l2] at b7;obtain⟨ub,l3,hA,b9⟩:=b7;obtain⟨g,cap,rfl⟩:=mO (d.at_ 2 rfl) sm;refine dK (λV=>OwnS M.A w V (lnE X q (List.replicate counts.length 0).length::lrE q (List.replicate counts.length 0)::[pcE (.slice (ax ⟨g,0,aw⟩) [u].length cap) [u],.mem N])) d.drew ?_;refine q_at _ (λV h=>aB EH (h.cell 0 rfl 0 rfl)) ?_;refine q_do _ (λV=>pD (i:=0) sm V) (q_at u.1 (λV h=>xY (i:=0) (h.at_ 2 rfl) sm) ?_);rw[l3];refine q_do _ (λ_=>dL) (q_do _ (λ_=>bC YD) (q_at (.int .i64 (s:Int)) (λV h=>aB aU (aI (T:=344) (cs:=cnC (counts.getD s 0) s (.pointer aw) (.pointer aw)) (jK (h.hasM 3 rfl) hA b9) (i:=1) rfl)) ?_));refine q_do _ (λV=>TV (by rw[amY];exact C) V) ?_;intro w5 d;refine aK 1 d rfl krx rfl (by rw[eP,amY];exact C) λw6 d=>?_;have e1:(aV (List.replicate counts.length 0)).set s (.int .i64 1)=aV ((List.replicate counts.length 0).set s 1):=zR _ _ _;rw[e1] at d;refine fin w6 ((List.replicate counts.length 0).set s 1) sm (λ_=>G0 hl b8 hm) (λh=>absurd h sm) ?_;have e2:((List.replicate counts.length 0).set s 1).length=(List.replicate counts.length 0).length:=anZ;rw[e2];exact d
  ·simp only[show ai ((o.length:Int)=1)=au from alJ om,i_f];refine fin w4 _ amY (λh=>?_) (λ_=>rfl) d;exact F0 hl (apB.1 om) most
end
section
open Eng Go.RowKit
def prC (a b:Nat):List Value:=[.pointer (ax ⟨a,0,aw⟩),.pointer (ax ⟨b,0,aw⟩)]
def prV (a b:Nat):Value:=.agg (prC a b).toArray
theorem LM:fOff ah 296 0=ax 0:=krx
theorem Uc:fOff ah 296 1=ax 1:=krx
theorem aeU:aggN ah 296=ax 2:=krx
theorem No {far:List Nat}(a:∀l∈near,l<=15)(b:∀l∈far,l<=15){x:bj}(h:fy m x):(ei near far x).length<=48:=by
 have c:∀i,near.getD i 0<=15:=iq a dc;have e:∀i,far.getD i 0<=15:=iq b dc;unfold ei;unfold fy at h;by_cases d:x.2.1=0
 ·rw[alH d,ez];have:=c x.1.toNat;omega
 ·rw[alG d] at h ⊢;obtain⟨_,_,_,_,_,f⟩:=ly h.2.1 h.2.2.1;obtain⟨_,_,_,_,f5⟩:=mj h.2.2.2.1 h.2.2.2.2.1;simp only[alI,ez,bp];have:=c (bu x.2.1).1;have:=e (di x.2.2).1;omega
theorem nw {near far:List Nat}(a:∀l∈near,l<=15)(b:∀l∈far,l<=15):∀{l:List bj},(∀x∈l,∃m,fy m x)->(l.flatMap (ei near far)).length<=48*l.length
|[],_=>alP _
|x::l,h=>by
  obtain⟨m,hm⟩:=h x (amV ..);have d:=No a b hm;have e:=nw a b λy c=>h y (amG _ c);rw[anW,alI,amC];omega
theorem N0 (near far:List Nat)(l:List bj):bn (l.flatMap (ei near far)):=λb a=>by
 obtain⟨x,_,c⟩:=aqX.1 a;exact ud near far x b c
section
variable {w:ao}{PK:PKT}{K:VWP}{S:Nat->Prop}{w0:ao}{L T:List Ent}
theorem Vk (a:OwnS S w0 w L)(k:∀b w',OwnS S w0 w' (ptE b (0,0,0)::L)->K (.pointer (ax ⟨b,0,aw⟩)) w'):DoX ah (iL 291) w PK K:=
 bA (λb=>.pointer (ax ⟨b,0,aw⟩)) (ptC (0,0,0)) 291 (λ_=>by kernel_rfl) a k
theorem LW (j:Nat){x y:bj}(a:OwnS S w0 w L)(hi:L[j]?=ax (ptE b x))(k:∀w',OwnS S w0 w' (L.set j (ptE b y))->K undef w') :
  DoX ah (aN 291 (.pointer (ax ⟨b,0,aw⟩)) (ptV y)) w PK K:=xH j a hi (new:=ptC y) szPt SP (by show 0+3<=3;omega) k
theorem pt_0 (a:OwnS S w0 w L)(j:Nat){x:bj}(hi:L[j]?=ax (ptE b x)):DoX ah (aH 5 (.pointer (ax ⟨b,0+0,aw⟩))) w PK K=K (.int .u8 (x.1.toNat:Int)) w:=aJ nU8l (a.cell j hi 0 rfl)
theorem pt_1 (a:OwnS S w0 w L)(j:Nat){x:bj}(hi:L[j]?=ax (ptE b x)):DoX ah (aH 3 (.pointer (ax ⟨b,0+1,aw⟩))) w PK K=K (.int .i64 (x.2.1:Int)) w:=aJ aU (a.cell j hi 1 rfl)
theorem pt_2 (a:OwnS S w0 w L)(j:Nat){x:bj}(hi:L[j]?=ax (ptE b x)):DoX ah (aH 3 (.pointer (ax ⟨b,0+2,aw⟩))) w PK K=K (.int .i64 (x.2.2:Int)) w:=aJ aU (a.cell j hi 2 rfl)
theorem OO {g:Nat}{far:List Nat}{ps:List bj}(a:OwnS S w0 w (Wr b way l v T))(hm:T[jm]?=ax (.mem M))(t:TbW M.A M.w g near)(V:TbW M.A M.w tb far)
  (u:bh near=0) (X:bh far=0) (d:∀l∈near,l<=15) (h:∀l∈far,l<=15) (D:0 < near.getD 256 0) (E:SlA M.A M.w pv 3 ps.length (ps.flatMap ptC)) (hh:∀x∈ps,ee near far x) (F:gw 0 ps) (b7:ps.length<=1048576)
  (G:bn l) (hw:way=0∨way=1) (hl:l.length<=100000000) (k:∀way' v' W,(way'=0∨way'=1)->OwnS S w0 W (Wr b way' (l++cy near far ps) v' T)->K (.tuple #[]) W) :
  CallX ah 296 #[prV g tb,.pointer (ax ⟨b,0,aw⟩),pv] w PK K:=by
 refine fG (tU (k0:=RetK λv W=>v=.tuple #[]∧∃way' v',(way'=0∨way'=1)∧OwnS S w0 W (Wr b way' (l++cy near far ps) v' T)) ?_) (λe W ⟨v,he,hv,way',v',Y,a⟩=>by subst he;subst hv;exact k way' v' W Y a);unfold nB nz;refine bA (λb=>.pointer (ax ⟨b,0,aw⟩)) (prC g tb) 296 (λ_=>by kernel_rfl) a λo Z a=>?_;have a:OwnS S w0 Z (([.cells o (prC g tb) 296]:List Ent)++([wrE b way l.length v,outR v (az l)]++T)):=a;have a:OwnS S w0 Z (Wr b way l v (.cells o (prC g tb) 296::T)):=a.front;have H:∀{W:ao} {way:Int} {l:List Nat} {v:aq} {e:Ent},OwnS S w0 W (Wr b way l v (e::T))->M.has W:=λa=>a.hasM (jm+3) (by rw[amS,amS,amS];exact hm);rw[bE atF (E.now (H a))];refine loop (λvs W=>∃(i:Nat) (way':Int) (v':aq),vs=[.int .i64 (i:Int)]∧i<=ps.length∧(way'=0∨way'=1)∧OwnS S w0 W (Wr b way' (l++(ps.take i).flatMap (ei near far)) v' (.cells o (prC g tb) 296::T))) (λvs _=>ps.length - n0 vs) ⟨0,way,v,rfl,om,hw,by show OwnS S w0 Z (Wr b way (l++[]) v _);rw[amE];exact a⟩ ?_;clear a hw;rintro vs w2 ⟨i,way',v',rfl,hi,hw,a⟩ _;simp only[kQ,gd,rs,nz];have I:=nw d h (l:=ps.take i) λx q=>lq F x (anT q);rw[alR,amQ hi] at I;have j:=N0 near far (ps.take i);by_cases L:(i:Int) < (ps.length:Int)
 ·have r:i < ps.length:=om
  simp only[L,alK,i_t];obtain⟨p,a1,N⟩:=ptAt E r;refine join λJ hJ=>?_;rw[aD (a1 w2),aD (N w2 (H a))];have q:=hh _ (alX r);obtain⟨mx,c⟩:=lq F _ (alX r);have a6:ps.take (i+1)=ps.take i++[ps[i]]:=amO r;have fin:∀(W:ao) (way':Int) (v':aq) (s:Nat),(way'=0∨way'=1)->OwnS S w0 W (Wr b way' (l++(ps.take i).flatMap (ei near far)++ei near far ps[i]) v' (ptE s ps[i]::.cells o (prC g tb) 296::T))->J [] W:=by
   intro W way' v' s hw a;refine hJ _ _ λ_=>?_;simp only[kN,gd,rs,nz];rw[aA om om];refine aY ⟨i+1,way',v',rfl,om,hw,?_⟩ (by simp[n0,RowKit.intOf];omega);rw[a6,aoQ,apQ,<-alS];have a:OwnS S w0 W ((Wr b way' (l++(ps.take i).flatMap (ei near far)++ei near far ps[i]) v' [])++([ptE s ps[i]]++(.cells o (prC g tb) 296::T))):=a;exact a.front.tail
  generalize ps[i]=x at q c N fin;generalize hB:l++(ps.take i).flatMap (ei near far)=B at a fin;have b8:B.length<=200000000:=by rw[<-hB,alI];omega
  have m:bn B:=by rw[<-hB];exact br G j
  refine Vk a λs w3 a=>?_;refine LW (y:=x) 0 a rfl λw4 a=>?_;have a:OwnS S w0 w4 ([ptE s x]++(Wr b way' B v' []++(.cells o (prC g tb) 296::T))):=a;have a:OwnS S w0 w4 (Wr b way' B v' (ptE s x::.cells o (prC g tb) 296::T)):=a.front;have n:(ptE s x::.cells o (prC g tb) 296::T)[jm+2]?=ax (.mem M):=by rw[amS,amS];exact hm
  unfold ee at q;unfold ei at fin;unfold fy at c;rw[aO Er,pt_1 a 2 rfl];simp only[rs];by_cases R:x.2.1=0
  ·rw[alH R] at q c;simp only[alH R] at fin;simp only[show ai ((x.2.1:Int)=0)=av from alM om,i_t];rw[aO LM,aJ Qt (a.cell 3 rfl 0 rfl),aO Tp,pt_0 a 2 rfl];have hc:=x.1.toNat_lt;refine aD (dU krx anG) |>.mpr ?_;rw[aA om om];refine B7 (i:=x.1.toNat) a n t u d q m hw om λf v5 U z a=>?_;exact fin U f v5 s z a
  ·rw[alG R] at q c;simp only[alG R] at fin;obtain⟨s1,s2,s3,s4,s5,s6⟩:=ly c.2.1 c.2.2.1;obtain⟨f1,f2,f3,f4,f5⟩:=mj c.2.2.2.1 c.2.2.2.2.1;simp only[show ai ((x.2.1:Int)=0)=au from alJ om,i_f];rw[aO Er,pt_1 a 2 rfl];refine aM a (Mz x.2.1 w4 c.2.1 c.2.2.1) ?_;rintro _ U rfl a;simp only[ex];rw[aO LM,aJ Qt (a.cell 3 rfl 0 rfl)];have n1:near.getD (bu x.2.1).1 0<=15:=iq d dc _;have n2:far.getD (di x.2.2).1 0<=15:=iq h dc _;refine B7 (i:=(bu x.2.1).1) a n t u d q.1 m hw om λb4 v6 w6 a7 a=>?_;have O:=br m (ko near (bu x.2.1).1);refine nA a O a7 om s5 (by rw[alI,ez];omega) λb5 v7 w7 a8 a=>?_;have P:=br O (dr (bu x.2.1).2.1 (bu x.2.1).2.2);rw[aO X8,pt_2 a 2 rfl];refine aM a (LB x.2.2 w7 c.2.2.2.1 c.2.2.2.2.1) ?_;rintro _ w8 rfl a;simp only[ex];rw[aO Uc,aJ Qt (a.cell 3 rfl 1 rfl)];refine B7 (i:=(di x.2.2).1) a n V X h q.2 P a8 (by simp only[alI,ez,bp];omega) λb6 v9 w9 b0 a=>?_;have b1:=br P (ko far (di x.2.2).1);refine nA a b1 b0 om f4 (by simp only[alI,ez,bp];omega) λC v10 b2 Q a=>?_;refine fin b2 C v10 s Q ?_;simp only[alS] at a ⊢;exact a
 ·simp only[L,alL,i_f];have b3:i=ps.length:=om
  subst b3;rw[anI] at a I j;have n:(.cells o (prC g tb) 296::T)[jm+1]?=ax (.mem M):=by rw[amS];exact hm
  rw[aO LM,aJ Qt (a.cell 2 rfl 0 rfl)];refine B7 (i:=256) a n t u d D (br G j) hw (by rw[alI];omega) λf v5 U z a=>?_;refine retK ⟨rfl,f,v5,z,?_⟩;unfold cy;rw[<-alS];have a:OwnS S w0 U ((Wr b f (l++ps.flatMap (ei near far)++dh near 256) v5 [])++([.cells o (prC g tb) 296]++T)):=a;exact a.front.tail
end
theorem TbW.le {M N:Mem}(h:M.le N){b:Nat}{lens:List Nat}(k:TbW M.A M.w b lens):TbW N.A N.w b lens:=by
 obtain⟨a,c,o,d,e,f,g,i⟩:=k;refine⟨a,c,o,h.A b d,?_,f.le h,g.le h,i.le h⟩;show N.w.heap[b]?=_;rw[h.has b d];exact e
theorem RL (ps:List bj)(pv:aq)(M:Mem)(w:ao)(i:M.has w)(k:SlA M.A M.w pv 3 ps.length (ps.flatMap ptC))(c:gw 0 ps)(m:ps.length<=1048576) :
  RetM ah 267 #[pv] M w (λv _=>v=.string ⟨(az (gr ps)).toArray⟩):=by
 refine bB i λK E=>Dg ?_;unfold wJ nz;have a:OwnS M.A w w [.mem M]:=OwnS.memS i;refine bH a 0 rfl (IY M w i) ?_;rintro _ N1 S g1 ⟨va,F,rfl,G,f⟩ a;simp only[ex];refine bA (λb=>.pointer (ax ⟨b,0,aw⟩)) [.pointer aw,.pointer aw] 296 (λ_=>by kernel_rfl) a λH w2 a=>?_;have T:cr.length=288:=by decide +kernel
 refine bH a 1 rfl (xB cr va N1 w2 ml om om (a.hasM 1 rfl) G) ?_;rintro _ I w3 g3 s a;rw[alG (by rw[nc];exactλh=>h rfl)] at s;obtain⟨t,rfl,d⟩:=s;simp only[ex];rw[aO LM];refine aK 0 a rfl krx rfl (by show 0+0 < 2;omega) λJ a=>?_;refine bH a 1 rfl (xB db F I J nr (by rw[mh];omega) (by rw[mh];omega) (a.hasM 1 rfl) (f.le g3)) ?_;rintro _ y U g5 z a;rw[alG (by rw[nd];exactλh=>h rfl)] at z;obtain⟨tb,rfl,o⟩:=z;simp only[ex];rw[aO Uc];refine aK 0 a rfl krx rfl (by show 0+1 < 2;omega) λL a=>?_;have a:OwnS M.A w L [.cells H (prC t tb) 296,.mem y]:=a;have d:=TbW.le g5 d;refine Sf a λb V a=>?_;refine nA (x:=1) (n:=1) a (λb f=>by cases f) (.inl rfl) om dc sm λB v1 X p a=>?_;have g:bn ([]++bf 1 1):=br (λb f=>by cases f) (dr 1 1);refine nA (x:=1) (n:=2) a g p om dc (by simp[bp]) λC v2 Y q a=>?_;have r:=br g (dr 1 2);refine aD (aW (AtV.agg aeU (cs:=prC t tb) rfl λj u N=>by rw[alU];exact a.cell 2 rfl j N)) |>.mpr ?_;refine OO (jm:=1) a rfl d o nc nd ml nr (nq dc) (k.le (g1.trans (g3.trans g5))) (uw c) c m r q (by simp[bp]) λD v3 O P a=>?_;have e:[]++bf 1 1++bf 1 2++cy cr db ps=gr ps:=by unfold gr;simp
 rw[e] at a;have Z:(gr ps).length<=100000000:=by
  unfold gr cy;have:=nw ml nr (l:=ps) λx Q=>lq c x Q;have R:cr.getD 256 0<=15:=iq ml dc _;simp only[alI,bp,ez];omega
 refine Nd a (by unfold gr;simp only[alI,bp];omega) om λW a=>?_;exact E _ _ y _ 1 a rfl (g1.trans (g3.trans g5)) rfl
end
section
open Eng Go.RowKit
theorem Oi {g n:Nat}{k:IntKind}(hi:i < n)(W:ao):(mIA 123 (.slice (ax ⟨g,0,aw⟩) n cap) (.int k (i:Int))).run ah W=.ok (.value (.pointer (ax ⟨g,i,aw⟩))) W:=by
 have:=dY (P:=ah) (T:=123) (b:=g) (off:=0) (cap:=cap) (n:=n) (k:=k) (i:=(i:Int)) (w:=W) amF MC om om
 rwa [alQ,amI,alU] at this
def km (l:List Nat)(j:Nat):List Nat:=l.set j (l.getD j 0+1)
theorem nx (l:List Nat)(j:Nat):(km l j).length=l.length:=anZ
theorem ny (a:j < l.length)(k:Nat):(km l j).getD k 0=l.getD k 0+(if j=k then 1 else 0):=by
 unfold km;rw[alO];by_cases h:j=k
 ·subst h;rw[aoS a];simp
 ·rw[aqO h,<-alO,alG h];rfl
theorem OF {a b a' d:List Nat}{x:bj}(h:ee a b x)(e:∀i,a.getD i 0<=a'.getD i 0)(f:∀i,b.getD i 0<=d.getD i 0):ee a' d x:=by
 unfold ee at h ⊢;split
 ·rename_i c;rw[alH c] at h;exact aoN h (e _)
 ·rename_i c;rw[alG c] at h;exact⟨aoN h.1 (e _),aoN h.2 (f _)⟩
theorem qj {B:Nat}(h:∀i,l.getD i 0<=B):∀c∈l,c<=B:=by
 intro c a;obtain⟨i,hi,rfl⟩:=aoX a;have:=h i;rw[alO,alT hi] at this;exact this
section
variable {w:ao}{PK:PKT}{K:VWP}{S:Nat->Prop}{w0:ao}{L T:List Ent}
theorem WK (i:Nat){g n:Nat}{k:IntKind}{PK3 PK4 PK5:PKT}{N:ao->Prop}(a:OwnS S w0 w L)(hi:L[i]?=ax (lrE g l))(c:l.length=n)(b:j < n)(e:l.getD j 0<=1000000000)(d:∀W,OwnS S w0 W (L.set i (lrE g (km l j)))->N W) :
  DoX ah (mIA 123 (.slice (ax ⟨g,0,aw⟩) n n) (.int k (j:Int))) w PK λt w=>DoX ah (aH 3 t) w PK2 λt w=>DoX ah (mBin .add 3 t (.int .i64 1)) w PK3 λt2 w=>DoX ah (mIA 123 (.slice (ax ⟨g,0,aw⟩) n n) (.int k (j:Int))) w PK4 λt w=>DoX ah (aN 3 t t2) w PK5 λ_ w=>N w:=by
 subst c;refine aD (Oi b w) |>.mpr ?_;rw[aJ aU (a.cell i hi j (DB b)),Mq,aA om om,show ((l.getD j 0:Nat):Int)+1=((l.getD j 0+1:Nat):Int) by omega];refine aD (Oi b w) |>.mpr ?_;refine aK i a hi krx rfl (by rw[eP];exact b) λw2 a=>?_;rw[zR] at a;exact d w2 a
end
theorem LD (ps:List bj)(pv:aq)(M:Mem)(w:ao)(hM:M.has w)(C:SlA M.A M.w pv 3 ps.length (ps.flatMap ptC))(Q:gw 0 ps)(a6:ps.length<=1048576) :
  RetM ah 297 #[pv] M w (λr N=>∃va vb ca cb,r=.tuple #[va,vb]∧SlA N.A N.w va 1 ca.length (aV ca)∧SlA N.A N.w vb 1 cb.length (aV cb)∧ca.length=286∧cb.length=30∧0 < ca.getD 256 0∧(∀x∈ps,ee ca cb x)∧(∀c∈ca,c<=2147483647)∧(∀c∈cb,c<=2147483647)):=by
 refine bB hM λK hK=>Ae ?_;unfold rM iN dx;have a:OwnS M.A w w [.mem M]:=OwnS.memS hM;have H:∀n:Nat,aV (List.replicate n 0)=List.replicate n (.int .i64 0):=λn=>by simp[aV]
 have body:∀(W:ao) (s o:Nat),OwnS M.A w W [lrE s (List.replicate 286 0),lrE o (List.replicate 30 0),.mem M]->eJ pv (.slice (ax ⟨s,0,aw⟩) 286 286) (.slice (ax ⟨o,0,aw⟩) 30 30) W K:=by
  intro W s o a;unfold eJ iN iax stx lnx;refine aD (Oi (i:=256) (k:=.i64) dc W) |>.mpr ?_;refine aK 0 a rfl krx rfl (by rw[eP,amY];decide) λw2 a=>?_;rw[show (Value.int .i64 1)=.int .i64 ((1:Nat):Int) from rfl,zR] at a;rw[bE atF (C.now (a.hasM 2 rfl))];refine loop (λvs V=>∃(i:Nat) (ca cb:List Nat),vs=[.int .i64 (i:Int)]∧i<=ps.length∧ca.length=286∧cb.length=30∧0 < ca.getD 256 0∧(∀x∈ps.take i,ee ca cb x)∧(∀j,ca.getD j 0<=i+1)∧(∀j,cb.getD j 0<=i+1)∧OwnS M.A w V [lrE s ca,lrE o cb,.mem M]) (λvs _=>ps.length - n0 vs) ⟨0,(List.replicate 286 0).set 256 1,List.replicate 30 0,rfl,om,by rw[anZ,amY],amY,by decide +kernel,(λx v=>by cases v),?_,?_,a⟩ ?_
  ·refine iq (P:=λc=>c<=0+1) (λc I=>?_) dc;rcases arP I with h|h
   ·rw[aoV h];decide
   ·rw[h];decide
  ·refine iq (P:=λc=>c<=0+1) (λc I=>?_) dc;rw[aoV I];decide
  clear a;rintro vs w3 ⟨i,ca,cb,rfl,hi,d,m,u,q,t,z,a⟩ _;simp only[oM,gd,rs,nz];by_cases D:(i:Int) < (ps.length:Int)
  ·have B:i < ps.length:=om
   simp only[D,alK,i_t];obtain⟨p,R,E⟩:=ptAt C B;refine join λJ hJ=>?_;rw[aD (R w3),aD (E w3 (a.hasM 2 rfl))];obtain⟨mx,b⟩:=lq Q _ (alX B);have S:ps.take (i+1)=ps.take i++[ps[i]]:=amO B;have fin:∀(W:ao) (f g:List Nat) (e:Ent),f.length=286->g.length=30->(∀j,ca.getD j 0<=f.getD j 0∧f.getD j 0<=ca.getD j 0+1)->(∀j,cb.getD j 0<=g.getD j 0∧g.getD j 0<=cb.getD j 0+1)->ee f g ps[i]->OwnS M.A w W (e::[lrE s f,lrE o g,.mem M])->J [] W:=by
    intro W f g e h1 h2 T h4 h5 a;refine hJ _ _ λ_=>?_;simp only[oL,gd,rs,nz];rw[aA om om];refine aY ⟨i+1,f,g,rfl,om,h1,h2,aoN u (T 256).1,?_,λj=>by have:=T j;have:=t j;omega,λj=>by have:=h4 j;have:=z j;omega,a.tail⟩ (by simp[n0,RowKit.intOf];omega);rw[S];intro x v;rcases amK.1 v with v|v
    ·exact OF (q x v) (λj=>(T j).1) (λj=>(h4 j).1)
    ·rw[amH.1 v];exact h5
   generalize ps[i]=x at b E fin;refine Vk a λxb w4 a=>?_;refine LW (y:=x) 0 a rfl λw5 a=>?_;have a:OwnS M.A w w5 (ptE xb x::[lrE s ca,lrE o cb,.mem M]):=a;unfold fy at b;unfold ee at fin;rw[aO Er,pt_1 a 0 rfl];simp only[rs];by_cases O:x.2.1=0
   ·rw[alH O] at b;simp only[alH O] at fin;simp only[show ai ((x.2.1:Int)=0)=av from alM om,i_t];rw[aO Tp,pt_0 a 0 rfl];have I:=x.1.toNat_lt;have U:=t x.1.toNat;refine WK 1 a rfl d om om λX a=>?_;have F:=ny (l:=ca) (j:=x.1.toNat) om;refine fin X (km ca x.1.toNat) cb _ (by rw[nx];exact d) m (λj=>by rw[F];split<;>omega) (λj=>by omega) (by rw[F,alH rfl];omega) a
   ·rw[alG O] at b;simp only[alG O] at fin;obtain⟨s1,s2,s3,s4,s5,s6⟩:=ly b.2.1 b.2.2.1;obtain⟨f1,f2,f3,f4,f5⟩:=mj b.2.2.2.1 b.2.2.2.2.1;simp only[show ai ((x.2.1:Int)=0)=au from alJ om,i_f];rw[aO Er,pt_1 a 0 rfl];refine aM a (Mz x.2.1 w5 b.2.1 b.2.2.1) ?_;rintro _ X rfl a;simp only[ex];rw[aO X8,pt_2 a 0 rfl];refine aM a (LB x.2.2 X b.2.2.2.1 b.2.2.2.2.1) ?_;rintro _ w7 rfl a;simp only[ex];have U:=t (bu x.2.1).1;have a7:=z (di x.2.2).1;refine WK 1 a rfl d om om λw8 a=>?_;refine WK 2 a rfl m om om λw9 a=>?_;have F:=ny (l:=ca) (j:=(bu x.2.1).1) om;have G:=ny (l:=cb) (j:=(di x.2.2).1) om;refine fin w9 (km ca (bu x.2.1).1) (km cb (di x.2.2).1) _ (by rw[nx];exact d) (by rw[nx];exact m) (λj=>by rw[F];split<;>omega) (λj=>by rw[G];split<;>omega) ⟨by rw[F,alH rfl];omega,by rw[G,alH rfl];omega⟩ a
  ·simp only[D,alL,i_f];have Y:i=ps.length:=om
   subst Y;rw[anI] at q;have a:=a.toU 1 286 286 (by rw[eP,d]) (alP _) om;rw[amI,amP (by rw[eP];omega)] at a;obtain⟨N1,g1,Z,a⟩:=OwnS.bJ (L:=[lrE o cb,.mem M]) a 1 rfl;have a:OwnS M.A w w3 [lrE o cb,.mem N1]:=a;have a:=a.toU 1 30 30 (by rw[eP,m]) (alP _) om;rw[amI,amP (by rw[eP];omega)] at a;obtain⟨N2,g2,a1,a⟩:=OwnS.bJ (L:=[.mem N1]) a 0 rfl;exact hK _ _ N2 _ 0 a rfl (g1.trans g2) ⟨_,_,ca,cb,rfl,by rw[d];exact Z.le g2,by rw[m];exact a1,d,m,u,q,qj λj=>by have:=t j;omega,qj λj=>by have:=z j;omega⟩
 refine⟨?_⟩;have a:=a.drew;refine⟨?_,?_⟩
 ·refine wX (n:=286) om a λs w1 a=>⟨?_,?_⟩
  all_goals
   refine wX (n:=30) om a λo w2 a=>?_;refine body w2 s o ?_;unfold lrE;rw[H,H];exact a.perm (List.Perm.swap _ _ _)
 ·refine wX (n:=30) om a λo w1 a=>?_;refine wX (n:=286) om a λs w2 a=>?_;refine body w2 s o ?_;unfold lrE;rw[H,H];exact a
theorem Ko (l:List Nat)(v:aq)(keep:Nat)(M:Mem)(w:ao)(e:M.has w)(a:SlA M.A M.w v 1 l.length (aV l))(p:keep<=l.length)(x:0 < keep)(y:l.length<=1000000) :
  Ret ah 299 #[v,.int .i64 (keep:Int)] w (λr w'=>(∃n,keep<=n∧n<=l.length∧(∀j,n<=j->l.getD j 0=0)∧r.oneCell'=av∧SlA M.A M.w r 1 n (aV (l.take n)))∧w=w'):=by
 refine aZ λK q=>FN ?_;unfold CJ nz;rw[bE amF (a.now e)];refine loop (λvs W=>∃n:Nat,vs=[.int .i64 (n:Int)]∧keep<=n∧n<=l.length∧(∀j,n<=j->l.getD j 0=0)∧w=W) (λvs _=>n0 vs) ⟨l.length,rfl,p,alP _,λj f=>by rw[alO,anY f];rfl,rfl⟩ ?_;rintro vs _ ⟨n,rfl,d,g,k,rfl⟩ _;simp only[zC,gd,rs,nz];obtain⟨b,off,cap,rfl,_⟩:=bX a.1 om;have m:=a.2.2 _ _ _ rfl;have stop:DoX ah (eG 123 (.slice (ax ⟨b,off,aw⟩) l.length cap) aw (ax (.int .i64 (n:Int))) aw) w (pk K) λt23 w=>K (.returned t23) w:=by
  refine aD (jM amF MC om om) |>.mpr ?_;rw[alQ];have c:=SlA.SB a (i:=n) g (λh=>by omega);rw[amI] at c;refine q _ _ ⟨⟨n,d,g,k,?_,?_⟩,rfl⟩
  ·unfold subA;split<;>rfl
  ·rw[show aV (l.take n)=(aV l).take n by unfold aV;rw[arR]];exact c
 by_cases z:keep < n
 ·simp only[show ai ((keep:Int) < (n:Int))=av from alM om,rs];rw[aA om om,show (n:Int) - 1=((n - 1:Nat):Int) by omega];obtain⟨b2,o,s,t⟩:=mY (a.now e) (i:=n - 1) om;refine aD (s w) |>.mpr (aD (aB aU t) |>.mpr ?_);simp only[rs];by_cases u:l[n - 1]=0
  ·simp only[show ai (((l[n - 1]:Nat):Int)=0)=av from alM om,i_t];refine aY ⟨n - 1,rfl,om,om,λj f=>?_,rfl⟩ (by simp[n0,RowKit.intOf];omega);rcases amL j n with h|h
   ·obtain rfl:j=n - 1:=om
    rw[alO,alT om];exact u
   ·exact k j h
  ·simp only[show ai (((l[n - 1]:Nat):Int)=0)=au from alJ om,i_f];exact stop
 ·simp only[show ai ((keep:Int) < (n:Int))=au from alJ om,i_f,rs];exact stop
end
section
open Eng Go.RowKit
def mkC (m:bt):List Value:=[.int .i64 (m.1:Int),.int .i64 (m.2.1:Int),.int .i64 (m.2.2:Int)]
def mkV (m:bt):Value:=.agg (mkC m).toArray
theorem Sw (m:bt):(mkC m).length=3:=rfl
theorem TN {m:bt}:∀u∈mkC m,u.oneCell'=true:=by
 intro u hu;simp only[mkC,alN,anA,or_false] at hu;rcases hu with rfl|rfl|rfl<;>rfl
theorem Y7 {l:List bt}:∀u∈l.flatMap mkC,u.oneCell'=true:=Eng.Vy λx=>TN
theorem akQ:aggN ah 307=ax 3:=krx
theorem szMk:(Tryz.prog.info? 307).map (·.size)=ax 3:=krx
theorem elMk:elB ah 307 3 24=true:=krx
theorem Yn:fOff ah 307 0=ax 0:=krx
theorem aeO:fOff ah 307 1=ax 1:=krx
theorem acK:fOff ah 307 2=ax 2:=krx
abbrev mksE (v:aq)(l:List bt):Ent:=.urow 307 3 v l.length (l.flatMap mkC)
theorem wh {l:List Nat}{i c:Nat}:∀(n:Nat),i+n<=l.length->(∀j,j < n->l.getD (i+j) 0=c)->l.take (i+n)=l.take i++List.replicate n c
|0,_,_=>by simp
|n+1,h,d=>by
  have e:=wh n om λj f=>d j om;have a:i+n < l.length:=om
  have b:=d n om;rw[alO,alT a] at b;have b:l[i+n]=c:=b;rw[show i+(n+1)=i+n+1 by omega,amO a,e,b,alS,List.replicate_succ']
theorem mn (acc:List Nat)(g m:Nat)(a:g=17∨g=18):ev acc (g,m,cm g)=acc++List.replicate (dn g+m) 0:=by
 unfold ev;rcases a with rfl|rfl
 ·rw[alG (show ¬(17:Nat) < 16 by decide),alG (show ¬(17:Nat)=16 by decide)]
 ·rw[alG (show ¬(18:Nat) < 16 by decide),alG (show ¬(18:Nat)=16 by decide)]
theorem wi (acc:List Nat){c:Nat}(h:c < 16):ev acc (c,0,0)=acc++[c]:=by unfold ev;rw[alH h]
theorem yj (acc:List Nat)(c m:Nat):ev (acc++[c]) (16,m,2)=acc++List.replicate (4+m) c:=by
 unfold ev;have e:(acc++[c]).getD ((acc++[c]).length - 1) 0=c:=by
  rw[alI,anO,apV,alO,aoB (alP _),aoH];rfl
 rw[alG (show ¬(16:Nat) < 16 by decide),alH (show (16:Nat)=16 from rfl),e,alS];have a:dn 16=3:=rfl;show acc++([c]++List.replicate (dn 16+m) c)=_;rw[a,show 4+m=(3+m)+1 by omega,asH];rfl
theorem UG (a:SlA M.A M.w v 1 l.length (aV l))(hi:i < l.length) :
  ∃p,(∀W,(mIA 123 v (.int .i64 (i:Int))).run ah W=.ok (.value (.pointer (ax p))) W)∧∀W,M.has W->(aH 3 (.pointer (ax p))).run ah W=.ok (.value (.int .i64 (l[i]:Int))) W:=by
 obtain⟨b,off,cap,rfl,_⟩:=bX a.1 om;refine⟨⟨b,off+i,aw⟩,λW=>?_,λW e=>?_⟩
 ·have:=dY (P:=ah) (T:=123) (b:=b) (off:=off) (cap:=cap) (n:=l.length) (k:=.i64) (i:=(i:Int)) (w:=W) amF MC om om;rw[alQ,amI] at this;exact this
 ·obtain⟨g,c,d,he,f⟩:=bX (a.now e) om;cases he;refine aB aU (f i _ ?_);rw[DB hi,alO,alT hi];rfl
section
variable {w:ao}{PK:PKT}{S:Nat->Prop}{w0:ao}{L T:List Ent}
theorem Yx {ms new:List bt}{b:Nat}{N:VWP}(f:ms.length<=10000000)(d:new.length<=2)(a:OwnS S w0 W (.cells b (new.flatMap mkC) 307::mksE v' ms::T))(k:∀v2 c,OwnS S w0 c (mksE v2 (ms++new)::T)->N v2 c) :
  DoX ah (mB .append #[304,304] 304 #[au,au] #[v',.slice (ax ⟨b,0,aw⟩) new.length new.length]) W PK N:=by
 refine bR 1 atG elMk dc a rfl (a.sl 0 rfl 3 new.length new.length (by rw[Eng.tR Sw])) Y7 om om λv2 e a=>?_;refine k v2 e ?_;unfold mksE;rw[aoQ,alI];exact a.tail
theorem m_mk {a c:Nat}:DoX ah (aS 307 #[(0,.int .i64 (a:Int)),(1,.int .i64 (b:Int)),(2,.int .i64 (c:Int))]) W PK K=K (mkV (a,b,c)) W:=aD krx
theorem abG {ms:List bt}{n:Nat}{N1:List aq->ao->Prop}{K:Ending->ao->Prop}(G:SlA M.A M.w v 1 l.length (aV l))(hi:i < l.length)(d:l[i] < 16)(y:1<=n)(H:n<=1000000)(I:ms.length<=1000000)(z:im [] ms)(q:eh [] ms=l.take i)(e:OwnS S w0 W [mksE v' ms,.mem M])
  (emit:∀(W:ao) (v2:aq) (new:List bt) (f:Nat),1<=f->f<=n->im [] (ms++new)->eh [] (ms++new)=l.take i++List.replicate f l[i]->OwnS S w0 W [mksE v2 (ms++new),.mem M]->eE v2 (.int .i64 (i:Int)) (.int .i64 (f:Int)) W N1 K) :
  JoinX (λu=>
 DoX ah (mIA 123 v (.int .i64 (i:Int))) W (pk K) λt42 W=>
 DoX ah (aH 3 t42) W (pk K) λt43 W=>
 DoX ah (mEq .eql 3 (.tmp 43) (.const (.int .i64 0)) t43 (.int .i64 0)) W (pk K) λt44 W=>
 GDo t44 av (λE=>E (.int .i64 (n:Int)) W) W λt46 W=>
 GDo t44 av (λE=>DoX ah (mBin .geq 3 t46 (.int .i64 11)) W (pk K) E) W λt47 W=>
 DoX ah (kH t44 t47 (.bool au)) W (pk K) λt48 W=>
 IfX t48 (DoX ah (mB .min #[3,3] 3 #[au,av] #[(.int .i64 (n:Int)),(.int .i64 138)]) W (pk K) λt50 W=>
 DoX ah (mBin .sub 3 t50 (.int .i64 11)) W (pk K) λt53 W=>
 DoX ah (aS 307 #[(0,(.int .i64 18)),(1,t53),(2,(.int .i64 7))]) W (pk K) λt54 W=>
 DoX ah (bN 304 1 #[(0,t54)]) W (pk K) λt55 W=>
 DoX ah (mB .append #[304,304] 304 #[au,au] #[v',t55]) W (pk K) λt56 W=>
 u [t56,t50] W) (DoX ah (mIA 123 v (.int .i64 (i:Int))) W (pk K) λt60 W=>
 DoX ah (aH 3 t60) W (pk K) λt61 W=>
 DoX ah (mEq .eql 3 (.tmp 61) (.const (.int .i64 0)) t61 (.int .i64 0)) W (pk K) λt62 W=>
 GDo t62 av (λE=>E (.int .i64 (n:Int)) W) W λt64 W=>
 GDo t62 av (λE=>DoX ah (mBin .geq 3 t64 (.int .i64 3)) W (pk K) E) W λt65 W=>
 DoX ah (kH t62 t65 (.bool au)) W (pk K) λt66 W=>
 IfX t66 (DoX ah (mBin .sub 3 (.int .i64 (n:Int)) (.int .i64 3)) W (pk K) λt69 W=>
 DoX ah (aS 307 #[(0,(.int .i64 17)),(1,t69),(2,(.int .i64 3))]) W (pk K) λt70 W=>
 DoX ah (bN 304 1 #[(0,t70)]) W (pk K) λt71 W=>
 DoX ah (mB .append #[304,304] 304 #[au,au] #[v',t71]) W (pk K) λt72 W=>
 u [t72,(.int .i64 (n:Int))] W) (DoX ah (mBin .geq 3 (.int .i64 (n:Int)) (.int .i64 4)) W (pk K) λt75 W=>
 IfX t75 (DoX ah (mB .min #[3,3] 3 #[au,av] #[(.int .i64 (n:Int)),(.int .i64 7)]) W (pk K) λt77 W=>
 DoX ah (mIA 123 v (.int .i64 (i:Int))) W (pk K) λt81 W=>
 DoX ah (aH 3 t81) W (pk K) λt82 W=>
 DoX ah (aS 307 #[(0,t82),(1,(.int .i64 0)),(2,(.int .i64 0))]) W (pk K) λt83 W=>
 DoX ah (mBin .sub 3 t77 (.int .i64 4)) W (pk K) λt85 W=>
 DoX ah (aS 307 #[(0,(.int .i64 16)),(1,t85),(2,(.int .i64 2))]) W (pk K) λt86 W=>
 DoX ah (bN 304 2 #[(0,t83),(1,t86)]) W (pk K) λt87 W=>
 DoX ah (mB .append #[304,304] 304 #[au,au] #[v',t87]) W (pk K) λt88 W=>
 u [t88,t77] W) (DoX ah (mIA 123 v (.int .i64 (i:Int))) W (pk K) λt34 W=>
 DoX ah (aH 3 t34) W (pk K) λt35 W=>
 DoX ah (aS 307 #[(0,t35),(1,(.int .i64 0)),(2,(.int .i64 0))]) W (pk K) λt36 W=>
 DoX ah (bN 304 1 #[(0,t36)]) W (pk K) λt37 W=>
 DoX ah (mB .append #[304,304] 304 #[au,au] #[v',t37]) W (pk K) λt38 W=>
 u [t38,(.int .i64 1)] W)))) (λr W=>∀_:Sg,eE (r.getD 0 undef) (.int .i64 (i:Int)) (r.getD 1 undef) W N1 K):=by
 obtain⟨p,k,j⟩:=UG G hi;have one:∀m:bt,gf (l.take i) m->im [] (ms++[m])∧eh [] (ms++[m])=ev (l.take i) m:=λm hm=>⟨qg z (by rw[q];exact hm),by rw[uy,q]⟩;generalize l[i]=c at d j emit;refine join λJ L=>?_;have go:∀(W:ao) (v2:aq) (f:Nat),eE v2 (.int .i64 (i:Int)) (.int .i64 (f:Int)) W N1 K->J [v2,.int .i64 (f:Int)] W:=λW v2 f h=>L _ _ λ_=>h;have o:=e.hasM 1 rfl;refine aD (k W) |>.mpr (aD (j W o) |>.mpr ?_);simp only[rs];have g:∀(m:bt) (f:Nat) (W:ao),1<=f->f<=n->gf (l.take i) m->ev (l.take i) m=l.take i++List.replicate f c->OwnS S w0 W [mksE v' ms,.mem M]->∀PK:PKT,
   DoX ah (bN 304 1 #[(0,mkV m)]) W PK λt W=>DoX ah (mB .append #[304,304] 304 #[au,au] #[v',t]) W PK λt W=>J [t,.int .i64 (f:Int)] W:=by
  intro m f W N O C x e PK;refine bA (λb=>.slice (ax ⟨b,0,aw⟩) 1 1) (mkC m) 307 (λ_=>by kernel_rfl) e λD F e=>?_;have e:OwnS S w0 F [.cells D ([m].flatMap mkC) 307,mksE v' ms,.mem M]:=by
   rw[apQ];exact e
  refine Yx (new:=[m]) om sm e λv2 w2 e=>?_;obtain⟨a,b⟩:=one m C;exact go _ _ _ (emit w2 v2 [m] f N O a (by rw[b,x]) e)
 have i11:∀m:Nat,dn 18+m=11+m:=λ_=>rfl;have i3:∀m:Nat,dn 17+m=3+m:=λ_=>rfl;have last:(∀PK:PKT,DoX ah (bN 304 1 #[(0,mkV (c,0,0))]) W PK λt W=>DoX ah (mB .append #[304,304] 304 #[au,au] #[v',t]) W PK λt W=>J [t,.int .i64 ((1:Nat):Int)] W):=
  g (c,0,0) 1 W om y (by unfold gf;rw[alH d];exact⟨rfl,rfl⟩) (by rw[wi _ d];rfl) e
 have fourth:4<=n->∀PK:PKT,DoX ah (bN 304 2 #[(0,mkV (c,0,0)),(1,mkV (16,min n 7 - 4,2))]) W PK λt W=>DoX ah (mB .append #[304,304] 304 #[au,au] #[v',t]) W PK λt W=>J [t,.int .i64 ((min n 7:Nat):Int)] W:=by
  intro x PK;refine bA (λb=>.slice (ax ⟨b,0,aw⟩) 2 2) (mkC (c,0,0)++mkC (16,min n 7 - 4,2)) 307 (λ_=>by kernel_rfl) e λD F e=>?_;refine Yx (new:=[(c,0,0),(16,min n 7 - 4,2)]) om sm e λv2 w2 e=>?_;have P:gf (l.take i) (c,0,0):=by unfold gf;rw[alH d];exact⟨rfl,rfl⟩
  obtain⟨Q,B⟩:=one _ P;rw[wi _ d] at B;have R:gf (eh [] (ms++[(c,0,0)])) (16,min n 7 - 4,2):=by
   rw[B];unfold gf;rw[alG (show ¬(16:Nat) < 16 by decide)];refine⟨show (16:Nat)<=18 by decide,rfl,by show min n 7 - 4 < 4;omega,λ_=>by simp⟩
  have a2:=qg Q R;have b2:=uy [] (ms++[(c,0,0)]) (16,min n 7 - 4,2);rw[B,yj,show 4+(min n 7 - 4)=min n 7 by omega] at b2;rw[alS] at a2 b2;exact go _ _ _ (emit w2 v2 _ (min n 7) om om a2 b2 e)
 have T:min (n:Int) 7=((min n 7:Nat):Int):=om
 have s:min (n:Int) 138=((min n 138:Nat):Int):=om
 by_cases U:c=0
 ·subst U;simp only[show ai (((0:Nat):Int)=0)=av from rfl,rs];by_cases V:11<=n
  ·simp only[show ai ((11:Int)<=(n:Int))=av from alM om,i_t,rs];rw[GB,s];simp only[rs];rw[aA om om,show ((min n 138:Nat):Int) - 11=((min n 138 - 11:Nat):Int) by omega];refine (m_mk (a:=18) (b:=min n 138 - 11) (c:=7)).mpr ?_;refine g (18,min n 138 - 11,7) (min n 138) W om om ?_ ?_ e _
   ·unfold gf;rw[alG (show ¬(18:Nat) < 16 by decide)];exact⟨show (18:Nat)<=18 by decide,rfl,by show min n 138 - 11 < 128;omega,λh=>absurd h (show ¬(18:Nat)=16 by decide)⟩
   ·have:=mn (l.take i) 18 (min n 138 - 11) (.inr rfl);rw[i11,show 11+(min n 138 - 11)=min n 138 by omega] at this;exact this
  ·simp only[show ai ((11:Int)<=(n:Int))=au from alJ om,i_f,rs];refine aD (k W) |>.mpr (aD (j W o) |>.mpr ?_);simp only[show ai (((0:Nat):Int)=0)=av from rfl,rs];by_cases C:3<=n
   ·simp only[show ai ((3:Int)<=(n:Int))=av from alM om,i_t,rs];rw[aA om om,show (n:Int) - 3=((n - 3:Nat):Int) by omega];refine (m_mk (a:=17) (b:=n - 3) (c:=3)).mpr ?_;refine g (17,n - 3,3) n W om om ?_ ?_ e _
    ·unfold gf;rw[alG (show ¬(17:Nat) < 16 by decide)];exact⟨show (17:Nat)<=18 by decide,rfl,by show n - 3 < 8;omega,λh=>absurd h (show ¬(17:Nat)=16 by decide)⟩
    ·have:=mn (l.take i) 17 (n - 3) (.inl rfl);rw[i3,show 3+(n - 3)=n by omega] at this;exact this
   ·simp only[show ai ((3:Int)<=(n:Int))=au from alJ om,i_f,rs];simp only[show ai ((4:Int)<=(n:Int))=au from alJ om,i_f,rs];refine aD (k W) |>.mpr (aD (j W o) |>.mpr ?_);refine (m_mk (a:=0) (b:=0) (c:=0)).mpr ?_;exact last _
 ·simp only[show ai ((c:Int)=0)=au from alJ om,i_f,rs];refine aD (k W) |>.mpr (aD (j W o) |>.mpr ?_);simp only[show ai ((c:Int)=0)=au from alJ om,i_f,rs];by_cases x:4<=n
  ·simp only[show ai ((4:Int)<=(n:Int))=av from alM om,i_t,rs];rw[GB,T];refine aD (k W) |>.mpr (aD (j W o) |>.mpr ?_);refine (m_mk (a:=c) (b:=0) (c:=0)).mpr ?_;simp only[rs];rw[aA om om,show ((min n 7:Nat):Int) - 4=((min n 7 - 4:Nat):Int) by omega];refine (m_mk (a:=16) (b:=min n 7 - 4) (c:=2)).mpr ?_;exact fourth x _
  ·simp only[show ai ((4:Int)<=(n:Int))=au from alJ om,i_f,rs];refine aD (k W) |>.mpr (aD (j W o) |>.mpr ?_);refine (m_mk (a:=c) (b:=0) (c:=0)).mpr ?_;exact last _
end
theorem Re (l:List Nat)(v:aq)(M:Mem)(w:ao)(G:M.has w)(g:SlA M.A M.w v 1 l.length (aV l))(R:l.length<=1000000)(s:∀x∈l,x<=15) :
  RetM ah 300 #[v] M w (λr N=>∃ms:List bt,im [] ms∧eh [] ms=l∧r.oneCell'=av∧SlA N.A N.w r 3 ms.length (ms.flatMap mkC)):=by
 refine bB G λK I=>Dv ?_;unfold wU nz;have b:OwnS M.A w w [.mem M]:=OwnS.memS G;have b:OwnS M.A w w [.urow 307 3 nilS 0 [],.mem M]:=OwnS.nilU (L:=[.mem M]) b _ _;refine loop (λvs W=>∃(i:Nat) (v':aq) (ms:List bt),vs=[v',.int .i64 (i:Int)]∧i<=l.length∧im [] ms∧eh [] ms=l.take i∧OwnS M.A w W [mksE v' ms,.mem M]) (λvs _=>l.length - n1 vs) ⟨0,nilS,[],rfl,om,trivial,rfl,b⟩ ?_;clear b;rintro vs J ⟨i,v',ms,rfl,hi,k,c,b⟩ _;simp only[sO,gd,nz];rw[bE amF (g.now (b.hasM 1 rfl))];simp only[rs];have m:=ma ms [];rw[c,alR] at m;simp only[apD,alU] at m;by_cases o:(i:Int) < (l.length:Int)
 case neg=>
  simp only[o,alL,i_f];have t:i=l.length:=om
  subst t;rw[anI] at c;have u:=cQ (b.at_ 0 rfl);obtain⟨N1,g1,y,b⟩:=OwnS.bJ (L:=[.mem M]) b 0 rfl;exact I _ _ N1 _ 0 b rfl g1 ⟨ms,k,c,u,y⟩
 simp only[o,alK,i_t];have d:i < l.length:=om
 obtain⟨S,z,B⟩:=UG g d;have p:=s _ (alX d);have C:l.getD i 0=l[i]:=by rw[alO,alT d];rfl
 refine loop (λvs W=>∃n:Nat,vs=[.int .i64 (n:Int)]∧1<=n∧i+n<=l.length∧(∀j,j < n->l.getD (i+j) 0=l[i])∧OwnS M.A w W [mksE v' ms,.mem M]) (λvs _=>l.length+1 - n0 vs) ⟨1,rfl,om,om,λj H=>by rw[show j=0 by omega];exact C,b⟩ ?_;clear b;rintro vs w2 ⟨n,rfl,D,O,e,b⟩ _;simp only[sK,gd,nz];have emit:∀(W:ao) (v2:aq) (new:List bt) (f:Nat),1<=f->f<=n->im [] (ms++new)->eh [] (ms++new)=l.take i++List.replicate f l[i]->OwnS M.A w W [mksE v2 (ms++new),.mem M]->eE v2 (.int .i64 (i:Int)) (.int .i64 (f:Int)) W (Q6 (λvs W=>∃(i:Nat) (v':aq) (ms:List bt),vs=[v',.int .i64 (i:Int)]∧i<=l.length∧im [] ms∧eh [] ms=l.take i∧OwnS M.A w W [mksE v' ms,.mem M]) (λvs _=>l.length - n1 vs) [v',.int .i64 (i:Int)] J) K:=by
  intro W v2 new f T U P Q b;simp only[eE,rs,nz];rw[aA om om];refine aY ⟨i+f,v2,ms++new,by congr 2,om,P,?_,b⟩ (by simp[n1,RowKit.intOf];omega);rw[Q,wh f om λj H=>e j om]
 have stop:=λ(W:ao) (b:OwnS M.A w W [mksE v' ms,.mem M])=>abG g d (Nat.lt_succ_of_le p) D om om k c b emit;refine dK (λW=>OwnS M.A w W [mksE v' ms,.mem M]) b.drew ?_;refine oY ?_;rw[aA om om,show (i:Int)+(n:Int)=((i+n:Nat):Int) by omega];refine q_at (.int .i64 (l.length:Int)) (λW h=>?_) (DQ ?_)
 ·obtain⟨_,a,cap,rfl,_⟩:=g.1;exact JA amF
 by_cases q:i+n < l.length
 case neg=>
  rw[alJ (show ¬((i+n:Nat):Int) < (l.length:Int) by omega)];simp only[gq];refine q_pf ?_;intro w3 b;simp only[i_f];exact stop w3 b
 rw[alM (show ((i+n:Nat):Int) < (l.length:Int) by omega)];simp only[gq];obtain⟨V,E,F⟩:=UG g q;refine oY ?_;rw[aA om om,show (i:Int)+(n:Int)=((i+n:Nat):Int) by omega];refine q_do _ E (q_at _ (λW h=>F W (h.hasM 1 rfl)) ?_);refine q_do _ z (q_at _ (λW h=>B W (h.hasM 1 rfl)) (q_eq (q_pt ?_)));intro w3 b;by_cases he:l[i+n]=l[i]
 ·rw[alM (show ((l[i+n]:Nat):Int)=((l[i]:Nat):Int) by omega)];simp only[i_t,rs];rw[aA om om];refine aY ⟨n+1,rfl,om,om,λj H=>?_,b⟩ (by simp[n0,RowKit.intOf];omega);rcases amL j n with h|h
  ·exact e j h
  ·rw[show j=n by omega,alO,alT q];exact he
 ·rw[alJ (show ¬((l[i+n]:Nat):Int)=((l[i]:Nat):Int) by omega)];simp only[i_f];exact stop w3 b
def ordV:Value:=.agg (aV cd).toArray
theorem adQ:aggN ah 308=ax 19:=krx
theorem ajP:(Tryz.prog.info? 308).map (·.size)=ax 19:=krx
theorem Ok (w:ao):Ret ah 301 #[] w (λv w'=>v=ordV∧Below w.heap.size w w'):=by
 refine aZ λK c=>BB ?_;unfold vQ nz;refine bA (λb=>.pointer (ax ⟨b,0,aw⟩)) (List.replicate 19 (.int .i64 0)) 308 (λ_=>by kernel_rfl) (Own.start w) λb d a=>?_;have e:∀W:ao,(aS 308 #[(0,(.int .i64 16)),(1,(.int .i64 17)),(2,(.int .i64 18)),(3,(.int .i64 0)),(4,(.int .i64 8)),(5,(.int .i64 7)),(6,(.int .i64 9)),(7,(.int .i64 6)),(8,(.int .i64 10)),(9,(.int .i64 5)),(10,(.int .i64 11)),(11,(.int .i64 4)),(12,(.int .i64 12)),(13,(.int .i64 3)),(14,(.int .i64 13)),(15,(.int .i64 2)),(16,(.int .i64 14)),(17,(.int .i64 1)),(18,(.int .i64 15))]).run ah W=.ok (.value ordV) W:=λW=>by kernel_rfl
 refine aD (e d) |>.mpr ?_;refine xH 0 a rfl (new:=aV cd) ajP Da (by show 0+19<=19;omega) λw2 a=>?_;exact iC (bI (a.agg (cs:=aV cd) 0 rfl adQ)) (c _ _ ⟨rfl,a.done⟩)
theorem adT (hi:i < 19)(W:ao):(mIx 308 ordV (.int .i64 (i:Int))).run ah W=.ok (.value (.int .i64 ((cd.getD i 0:Nat):Int))) W:=by
 rcases lt19 hi with rfl|rfl|rfl|rfl|rfl|rfl|rfl|rfl|rfl|rfl|rfl|rfl|rfl|rfl|rfl|rfl|rfl|rfl|rfl<;>kernel_rfl
end
section
open Eng Go.RowKit
theorem qk:∀{l:List bt} {acc:List Nat},im acc l->∀m∈l,m.1<=18∧m.2.1 < 2 ^ m.2.2∧m.2.2<=7
|m::l,acc,h,x,b=>by
  rcases alN.1 b with rfl|b
  ·have a:=h.1;unfold gf at a;by_cases c:x.1 < 16
   ·rw[alH c] at a;rw[a.1,a.2];exact⟨om,dc,dc⟩
   ·rw[alG c] at a;refine⟨a.1,a.2.2.1,?_⟩;rw[a.2.1];unfold cm;split
    ·decide
    ·split<;>decide
  ·exact qk h.2 x b
theorem wj {cl:List Nat}(a:∀x∈cl,x<=15):∀{l:List bt},(∀m∈l,m.2.2<=7)->(fq cl l).length<=22*l.length
|[],_=>alP _
|m::l,h=>by
  have d:=h m (amV ..);have b:=wj a (l:=l) λy c=>h y (amG _ c);have f:cl.getD m.1 0<=15:=iq a dc _;unfold fq at b ⊢;rw[anW,alI,amC];have e:(jy cl m).length=cl.getD m.1 0+m.2.2:=by
   unfold jy;rw[alI,ez,bp]
  omega
theorem O0 (cl:List Nat)(l:List bt)(m:bt):fq cl (l++[m])=fq cl l++dh cl m.1++bf m.2.1 m.2.2:=by
 unfold fq;rw[aoQ,apQ,alS];rfl
def fp (cl:List Nat)(k:Nat):List Nat:=(List.range k).map λi=>cl.getD (cd.getD i 0) 0
theorem ql (cl:List Nat)(k:Nat):(fp cl k).length=k:=by simp[fp]
theorem wk {k:Nat}(h:i < k):(fp cl k).getD i 0=cl.getD (cd.getD i 0) 0:=by
 rw[alO];simp[fp,h]
theorem P0 (cl:List Nat)(k:Nat):fp cl (k+1)=fp cl k++[cl.getD (cd.getD k 0) 0]:=by
 unfold fp;rw[aqT,amW];rfl
abbrev mkE (b:Nat)(m:bt):Ent:=.cells b (mkC m) 307
theorem mkAt {l:List bt}(a:SlA M.A M.w v 3 l.length (l.flatMap mkC))(hi:i < l.length) :
  ∃p,(∀W,(mIA 304 v (.int .i64 (i:Int))).run ah W=.ok (.value (.pointer (ax p))) W)∧∀W,M.has W->(aH 307 (.pointer (ax p))).run ah W=.ok (.value (mkV l[i])) W:=by
 obtain⟨b,off,cap,rfl,_⟩:=bX a.1 om;refine⟨⟨b,off+i*3,aw⟩,λW=>?_,λW e=>?_⟩
 ·have:=dY (P:=ah) (T:=304) (b:=b) (off:=off) (cap:=cap) (n:=l.length) (k:=.i64) (i:=(i:Int)) (w:=W) atG szMk om om;rw[alQ] at this;exact this
 ·obtain⟨h,c,d,he,f⟩:=bX (a.now e) om;cases he;refine aW (AtV.agg akQ (cs:=mkC l[i]) rfl λj u g=>?_);rw[anX];exact f _ _ (Eng.pI Sw hi g)
section
variable {w:ao}{PK:PKT}{K:VWP}{S:Nat->Prop}{w0:ao}{L T:List Ent}
theorem agJ (a:OwnS S w0 w L)(k:∀b w',OwnS S w0 w' (mkE b (0,0,0)::L)->K (.pointer (ax ⟨b,0,aw⟩)) w'):DoX ah (iL 307) w PK K:=
 bA (λb=>.pointer (ax ⟨b,0,aw⟩)) (mkC (0,0,0)) 307 (λ_=>by kernel_rfl) a k
theorem XW (j:Nat){x y:bt}(a:OwnS S w0 w L)(hi:L[j]?=ax (mkE b x))(k:∀w',OwnS S w0 w' (L.set j (mkE b y))->K undef w') :
  DoX ah (aN 307 (.pointer (ax ⟨b,0,aw⟩)) (mkV y)) w PK K:=xH j a hi (new:=mkC y) szMk TN (by show 0+3<=3;omega) k
theorem mk_0 (a:OwnS S w0 w L)(j:Nat){x:bt}(hi:L[j]?=ax (mkE b x)):DoX ah (aH 3 (.pointer (ax ⟨b,0+0,aw⟩))) w PK K=K (.int .i64 (x.1:Int)) w:=aJ aU (a.cell j hi 0 rfl)
theorem mk_1 (a:OwnS S w0 w L)(j:Nat){x:bt}(hi:L[j]?=ax (mkE b x)):DoX ah (aH 3 (.pointer (ax ⟨b,0+1,aw⟩))) w PK K=K (.int .i64 (x.2.1:Int)) w:=aJ aU (a.cell j hi 1 rfl)
theorem mk_2 (a:OwnS S w0 w L)(j:Nat){x:bt}(hi:L[j]?=ax (mkE b x)):DoX ah (aH 3 (.pointer (ax ⟨b,0+2,aw⟩))) w PK K=K (.int .i64 (x.2.2:Int)) w:=aJ aU (a.cell j hi 2 rfl)
end
theorem qm (counts:List Nat):(da counts).length<=counts.length:=by
 unfold da;have:=asU (λs=>ai (0 < counts.getD s 0)) (List.range counts.length)
 rwa [asV] at this
theorem aeI {K:Ending->ao->Prop}{sa sb mv iv:aq}{q g tt:Nat}{ps:List bj}{f D a b lc:List Nat}{ms:List bt}{ka kb nin:Nat}
  (c:OwnS S w0 W [.cells q (prC g tb) 296,.mem N]) (b4:TbW N.A N.w g f) (b5:TbW N.A N.w tb D) (b6:TbW N.A N.w tt lc) (b7:f=a++List.replicate ka 0) (b8:D=b++List.replicate kb 0)
  (b9:bh f=0) (c0:bh D=0) (c1:bh lc=0) (d:∀x∈f,x<=15) (r:∀x∈D,x<=15) (I:∀x∈lc,x<=7) (j3:lc.length=19)
  (j4:257<=a.length) (h5:a.length<=286) (j5:1<=b.length) (h6:b.length<=30) (hk:4<=nin) (j6:nin<=19) (h0:∀i,nin<=i->i < 19->lc.getD (cd.getD i 0) 0=0)
  (c2:SlA N.A N.w sa 1 a.length (aV a)) (c3:SlA N.A N.w sb 1 b.length (aV b)) (E:SlA N.A N.w iv 1 (fp lc nin).length (aV (fp lc nin))) (J:SlA N.A N.w mv 3 ms.length (ms.flatMap mkC)) (c4:SlA N.A N.w pv 3 ps.length (ps.flatMap ptC))
  (c5:∀m∈ms,0 < lc.getD m.1 0) (c6:im [] ms) (c7:eh [] ms=a++b) (L:0 < f.getD 256 0) (hh:∀x∈ps,ee f D x) (M:gw 0 ps) (c8:ps.length<=1048576)
  (k:∀W,OwnS S w0 W [.cells q (prC g tb) 296,.mem N]->K (.returned (.string ⟨(az (lh a b lc nin ms ps)).toArray⟩)) W) :
  CallX ah 287 #[] W (pk K) λt102 W=>
 CallX ah 288 #[t102,(.int .i64 1),(.int .i64 1)] W (pk K) λt104 W=>
 CallX ah 288 #[t102,(.int .i64 2),(.int .i64 2)] W (pk K) λt106 W=>
 DoX ah (mB .len #[123] 3 #[au] #[sa]) W (pk K) λt109 W=>
 DoX ah (mBin .sub 3 t109 (.int .i64 257)) W (pk K) λt110 W=>
 CallX ah 288 #[t102,t110,(.int .i64 5)] W (pk K) λt111 W=>
 DoX ah (mB .len #[123] 3 #[au] #[sb]) W (pk K) λt114 W=>
 DoX ah (mBin .sub 3 t114 (.int .i64 1)) W (pk K) λt115 W=>
 CallX ah 288 #[t102,t115,(.int .i64 5)] W (pk K) λt116 W=>
 DoX ah (mB .len #[123] 3 #[au] #[iv]) W (pk K) λt119 W=>
 DoX ah (mBin .sub 3 t119 (.int .i64 4)) W (pk K) λt120 W=>
 CallX ah 288 #[t102,t120,(.int .i64 4)] W (pk K) λt121 W=>
 DoX ah (mB .len #[123] 3 #[au] #[iv]) W (pk K) λt123 W=>
 LoopX [(.int .i64 0)] W (λc9 W N3=>∀_:Sg,oP pv (.pointer (ax ⟨q,0,aw⟩)) mv (.pointer (ax ⟨tt,0,aw⟩)) t102 iv t123 (c9.getD 0 undef) W N3 K):=by
 have O:=ql lc nin;have e:∀x∈lc,x<=15:=λx hx=>aoM (I x hx) dc;have P:=qk c6;have Q:=ma ms [];rw[c7,alI] at Q;simp only[apD,alU] at Q;refine Sf c λwb w7 c=>?_;refine nA (x:=1) (n:=1) c (λb hb=>by cases hb) (.inl rfl) om dc sm λh7 v1 w8 e0 c=>?_;rw[amZ] at c;have R:=dr 1 1;refine nA (x:=2) (n:=2) c R e0 om dc (by rw[bp];decide) λh8 v2 w9 e1 c=>?_;have T:=br R (dr 2 2);rw[bE amF (c2.now (c.hasM 3 rfl))];simp only[rs];rw[aA om om,show (a.length:Int) - 257=((a.length - 257:Nat):Int) by omega];refine nA (n:=5) c T e1 om om (by simp[bp]) λU v3 j7 V c=>?_;have X:=br T (dr (a.length - 257) 5);rw[bE amF (c3.now (c.hasM 3 rfl))]
 try simp only[rs]
 rw[aA om om,show (b.length:Int) - 1=((b.length - 1:Nat):Int) by omega];refine nA (n:=5) c X V om om (by simp[bp]) λh9 v4 j8 e2 c=>?_;have Y:=br X (dr (b.length - 1) 5);rw[bE amF (E.now (c.hasM 3 rfl)),O]
 try simp only[rs]
 rw[aA om om,show (nin:Int) - 4=((nin - 4:Nat):Int) by omega];refine nA (n:=4) c Y e2 om om (by simp[bp]) λs v5 e3 Z c=>?_;have F:=br Y (dr (nin - 4) 4);rw[bE amF (E.now (c.hasM 3 rfl)),O];have e4:(bf 1 1++bf 2 2++bf (a.length - 257) 5++bf (b.length - 1) 5++bf (nin - 4) 4).length=17:=by simp[bp]
 have hB:bf 1 1++bf 2 2++bf (a.length - 257) 5++bf (b.length - 1) 5++bf (nin - 4) 4++ie lc nin++fq lc ms++cy f D ps=lh a b lc nin ms ps:=by
  rw[b7,b8,IN];unfold lh;simp only[alS]
 generalize bf 1 1++bf 2 2++bf (a.length - 257) 5++bf (b.length - 1) 5++bf (nin - 4) 4=B at c e4 hB F;refine loop (λvs W=>∃(i:Nat) (way:Int) (v:aq),vs=[.int .i64 (i:Int)]∧i<=nin∧(way=0∨way=1)∧OwnS S w0 W (Wr wb way (B++ie lc i) v [.cells q (prC g tb) 296,.mem N])) (λvs _=>nin - n0 vs) ⟨0,s,v5,rfl,om,Z,by show OwnS S w0 e3 (Wr wb s (B++[]) v5 _);rw[amE];exact c⟩ ?_;clear c Z;rintro vs G ⟨i,way,v,rfl,hi,hw,c⟩ _;simp only[oP,gd,rs,nz];have j0:=mc lc i;by_cases a1:(i:Int) < (nin:Int)
 ·simp only[a1,alK,i_t];obtain⟨p,ia,ld⟩:=UG E (i:=i) om;refine aD (ia G) |>.mpr (aD (ld G (c.hasM 3 rfl)) |>.mpr ?_);have e5:(fp lc nin)[i]'(om)=lc.getD (cd.getD i 0) 0:=by
   have:=wk (cl:=lc) (k:=nin) (i:=i) om;rw[alO,alT om] at this;exact this
  rw[e5];have hle:lc.getD (cd.getD i 0) 0<=7:=iq I dc _;refine nA (n:=3) c (br F (qi _ _)) hw om om (by rw[alI];omega) λa6 v6 j9 e6 c=>?_;rw[alS,<-qh] at c
  try simp only[rs]
  rw[aA om om];exact aY ⟨i+1,a6,v6,rfl,om,e6,c⟩ (by simp[n0,RowKit.intOf];omega)
 simp only[a1,alL,i_f];have e7:i=nin:=om
 subst e7;rw[bE atG (J.now (c.hasM 3 rfl))];have a7:=br F (qi lc i);have e8:(B++ie lc i).length<=100:=by rw[alI];omega
 generalize B++ie lc i=H at c a7 e8 hB;refine loop (λvs W=>∃(j:Nat) (way:Int) (v:aq),vs=[.int .i64 (j:Int)]∧j<=ms.length∧(way=0∨way=1)∧OwnS S w0 W (Wr wb way (H++fq lc (ms.take j)) v [.cells q (prC g tb) 296,.mem N])) (λvs _=>ms.length - n0 vs) ⟨0,way,v,rfl,om,hw,by show OwnS S w0 G (Wr wb way (H++[]) v _);rw[amE];exact c⟩ ?_;clear c hw;rintro vs a8 ⟨j,way,v,rfl,hj,hw,c⟩ _;simp only[xZ,gd,rs,nz];have t:=wj e (l:=ms.take j) λm hm=>(P m (anT hm)).2.2;rw[alR,amQ hj] at t;have h:=br a7 (uz lc (ms.take j));by_cases z:(j:Int) < (ms.length:Int)
 ·simp only[z,alK,i_t];have o:j < ms.length:=om
  obtain⟨p,ia,ld⟩:=mkAt J o;refine aD (ia a8) |>.mpr (aD (ld a8 (c.hasM 3 rfl)) |>.mpr ?_);have b0:=P _ (alX o);have b1:=c5 _ (alX o);have b2:ms.take (j+1)=ms.take j++[ms[j]]:=amO o;generalize ms[j]=m at b0 b1 b2;refine agJ c λxb k0 c=>?_;refine XW (y:=m) 0 c rfl λb3 c=>?_;have c:OwnS S w0 b3 ([mkE xb m]++(Wr wb way (H++fq lc (ms.take j)) v []++[.cells q (prC g tb) 296,.mem N])):=c;have c:OwnS S w0 b3 (Wr wb way (H++fq lc (ms.take j)) v (mkE xb m::[.cells q (prC g tb) 296,.mem N])):=c.front;rw[aO Yn,mk_0 c 2 rfl];refine B7 (jm:=2) (i:=m.1) c rfl b6 c1 e b1 h hw (by rw[alI];omega) λj1 v8 k1 e9 c=>?_;have h1:lc.getD m.1 0<=15:=iq e dc _;rw[aO aeO,mk_1 c 2 rfl,aO acK,mk_2 c 2 rfl];refine nA c (br h (ko _ _)) e9 om b0.2.1 (by simp only[alI,ez];omega) λC v9 h2 h3 c=>?_
  try simp only[rs]
  rw[aA om om];refine aY ⟨j+1,C,v9,rfl,om,h3,?_⟩ (by simp[n0,RowKit.intOf];omega);rw[b2,O0,<-alS,<-alS];have c:OwnS S w0 h2 ((Wr wb C (H++fq lc (ms.take j)++dh lc m.1++bf m.2.1 m.2.2) v9 [])++([mkE xb m]++[.cells q (prC g tb) 296,.mem N])):=c;exact c.front.tail
 simp only[z,alL,i_f];have h4:j=ms.length:=om
 subst h4;rw[anI] at c h t;refine aD (aW (AtV.agg aeU (cs:=prC g tb) rfl λj u hj=>by rw[alU];exact c.cell 2 rfl j hj)) |>.mpr ?_;refine OO (jm:=1) c rfl b4 b5 b9 c0 d r L c4 hh M c8 h hw (by rw[alI];omega) λU v3 k2 V c=>?_;rw[hB] at c;have j2:=nw d r (l:=ps) λx hx=>lq M x hx;have h1:f.getD 256 0<=15:=iq d dc _;have k3:(lh a b lc i ms ps).length=H.length+(fq lc ms).length+((ps.flatMap (ei f D)).length+f.getD 256 0):=by
  rw[<-hB,alI,alI];unfold cy;rw[alI,ez]
 refine Nd c om om λW c=>?_;exact k W c
theorem WX (ps:List bj)(pv:aq)(M:Mem)(w:ao)(hM:M.has w)(c0:SlA M.A M.w pv 3 ps.length (ps.flatMap ptC))(a6:gw 0 ps)(c1:ps.length<=1048576) :
  RetM ah 268 #[pv] M w (λv _=>∃R,v=.string ⟨(az R).toArray⟩∧bn R∧ij R (fg [] ps)):=by
 refine bB hM λK hK=>E5 ?_;unfold Dr nz;have d:OwnS M.A w w [.mem M]:=OwnS.memS hM;refine bH d 0 rfl (LD ps pv M w hM c0 a6 c1) ?_;rintro _ N1 w1 g1 ⟨va,vb,ca,cb,rfl,j0,j1,j2,j3,c2,c3,c4,c5⟩ d;simp only[ex];refine bH d 0 rfl (yO ca 15 va N1 w1 (d.hasM 0 rfl) j0 om om c4 om om (by have:=qm ca;have e:(2:Nat) ^ 15=32768:=rfl;omega)) ?_;rintro _ N2 w2 g2 ⟨N,c6,rfl,f,k8,O⟩ d;simp only[ex];refine bH d 0 rfl (yO cb 15 vb N2 w2 (d.hasM 0 rfl) (j1.le g2) om om c5 om om (by have:=qm cb;have e:(2:Nat) ^ 15=32768:=rfl;omega)) ?_;rintro _ N3 w3 g3 ⟨lb,c7,rfl,g,k9,Q⟩ d;simp only[ex];have l0:N.length=286:=by rw[f.len,j2]
 have l1:lb.length=30:=by rw[g.len,j3]
 refine bA (λb=>.pointer (ax ⟨b,0,aw⟩)) [.pointer aw,.pointer aw] 296 (λ_=>by kernel_rfl) d λs w4 d=>?_;refine bH d 1 rfl (xB N c6 N3 w4 f.le om om (d.hasM 1 rfl) (O.le g3)) ?_;rintro _ N4 w5 g4 h4 d;rw[alG (by rw[f.chk];exactλh=>h rfl)] at h4;obtain⟨t,rfl,a7⟩:=h4;simp only[ex];rw[aO LM];refine aK 0 d rfl krx rfl (by show 0+0 < 2;omega) λw6 d=>?_;refine bH d 1 rfl (xB lb c7 N4 w6 g.le om om (d.hasM 1 rfl) (Q.le g4)) ?_;rintro _ N5 w7 g5 h5 d;rw[alG (by rw[g.chk];exactλh=>h rfl)] at h5;obtain⟨tb,rfl,j4⟩:=h5;simp only[ex];rw[aO Uc];refine aK 0 d rfl krx rfl (by show 0+1 < 2;omega) λw8 d=>?_;have d:OwnS M.A w w8 [.cells s (prC t tb) 296,.mem N5]:=d;have a7:=TbW.le g5 a7;have a8:=O.le (g3.trans (g4.trans g5));have b0:=Q.le (g4.trans g5);refine Cj (Ko N c6 257 N5 w8 (d.hasM 1 rfl) a8 om om om) ?_;rintro sa _ ⟨⟨na,l5,c8,j5,l2,q⟩,rfl⟩;refine Cj (Ko lb c7 1 N5 w8 (d.hasM 1 rfl) b0 om om om) ?_;rintro sb _ ⟨⟨nb,l6,c9,j6,l3,r⟩,rfl⟩;have B:=vy c8 j5;have I:=vy c9 j6;have e0:(N.take na).length=na:=by rw[alR];omega
 have e1:(lb.take nb).length=nb:=by rw[alR];omega
 have C:∀x∈N.take na,x<=15:=λx k=>f.le x (anT k);have D:∀x∈lb.take nb,x<=15:=λx k=>g.le x (anT k);generalize N.take na=a at B e0 C q;generalize lb.take nb=b at I e1 D r;rw[<-e0] at q;rw[<-e1] at r;refine Sb d λv0 w9 d=>?_;refine oK 0 d rfl (q.now (d.hasM 2 rfl)) Da om λv1 l7 d=>?_;refine oK 0 d rfl (r.now (d.hasM 2 rfl)) Da om λv2 e2 d=>?_;have d:OwnS M.A w e2 (.urow 3 1 v2 (a++b).length (aV (a++b))::[.cells s (prC t tb) 296,.mem N5]):=by
  rw[mK,alI];rw[alU,amZ] at d;exact d
 obtain⟨N6,g6,j7,d⟩:=OwnS.bJ (L:=[.cells s (prC t tb) 296,.mem N5]) d 1 rfl;refine bH d 1 rfl (Re (a++b) v2 N6 e2 (d.hasM 1 rfl) j7 (by rw[alI];omega) (λx k=>(amK.1 k).elim (C x) (D x))) ?_;rintro mv N7 j8 g7 ⟨ms,b1,b2,l8,b4⟩ d;have d:OwnS M.A w j8 [.cells s (prC t tb) 296,.mem N7]:=d;have j9:=qk b1;have e3:=ma ms [];rw[b2,alI] at e3;simp only[apD,alU] at e3;refine wX (n:=19) om d λgo l9 d=>?_;have hz:aV (List.replicate 19 0)=List.replicate 19 (.int .i64 0):=by simp[aV]
 rw[<-hz] at d;rw[bE atG (b4.now (d.hasM 2 rfl))];refine loop (λvs W=>∃(i:Nat) (co:List Nat),vs=[.int .i64 (i:Int)]∧i<=ms.length∧co.length=19∧(∀m∈ms.take i,0 < co.getD m.1 0)∧(∀j,co.getD j 0<=i)∧OwnS M.A w W [lrE go co,.cells s (prC t tb) 296,.mem N7]) (λvs _=>ms.length - n0 vs) ⟨0,List.replicate 19 0,rfl,om,amY,(λm hm=>by cases hm),λj=>by
  refine iq (P:=λc=>c<=0) (λc hc=>?_) (alP 0) j;rw[aoV hc];exact alP 0,d⟩ ?_
 clear d;rintro vs b5 ⟨i,co,rfl,hi,E,b6,F,d⟩ _;simp only[xL,gd,rs,nz];by_cases e4:(i:Int) < (ms.length:Int)
 ·simp only[e4,alK,i_t];have b7:i < ms.length:=om
  obtain⟨p,ia,ld⟩:=mkAt b4 b7;refine aD (ia b5) |>.mpr (aD (ld b5 (d.hasM 2 rfl)) |>.mpr ?_);have k0:=j9 _ (alX b7);have e5:ms.take (i+1)=ms.take i++[ms[i]]:=amO b7;generalize ms[i]=m at k0 e5;refine agJ d λxb m0 d=>?_;refine XW (y:=m) 0 d rfl λk1 d=>?_;have d:OwnS M.A w k1 (mkE xb m::[lrE go co,.cells s (prC t tb) 296,.mem N7]):=d;rw[aO Yn,mk_0 d 0 rfl];have m1:=F m.1;refine WK 1 d rfl E om om λm2 d=>?_
  try simp only[rs]
  rw[aA om om];have hg:=ny (l:=co) (j:=m.1) om;refine aY ⟨i+1,km co m.1,rfl,om,by rw[nx];exact E,?_,λj=>by rw[hg];have:=F j;split<;>omega,d.tail⟩ (by simp[n0,RowKit.intOf];omega);rw[e5];intro x k;rw[hg];rcases amK.1 k with k|k
  ·have:=b6 x k;omega
  ·rw[amH.1 k,alH rfl];omega
 simp only[e4,alL,i_f];have b8:i=ms.length:=om
 subst b8;rw[anI] at b6;have d:=d.toU 1 19 19 (by rw[eP,E]) (alP _) om;rw[amI,amP (by rw[eP];omega)] at d;obtain⟨N8,g8,e6,d⟩:=OwnS.bJ (L:=[.cells s (prC t tb) 296,.mem N7]) d 1 rfl;refine bH d 1 rfl (yO co 7 _ N8 b5 (d.hasM 1 rfl) (by rw[E];exact e6) om om (qj λj=>by have:=F j;omega) om om (by have:=qm co;have e:(2:Nat) ^ 7=128:=rfl;omega)) ?_;rintro _ N9 k2 g9 ⟨lc,k3,rfl,o,l4,T⟩ d;simp only[ex];have U:lc.length=19:=by rw[o.len,E]
 refine bH d 1 rfl (xB lc k3 N9 k2 (λx k=>aoM (o.le x k) dc) om om (d.hasM 1 rfl) T) ?_;rintro _ G k4 g10 e7 d;rw[alG (by rw[o.chk];exactλh=>h rfl)] at e7;obtain⟨tt,rfl,k5⟩:=e7;simp only[ex];refine aM d (Ok k4) ?_;rintro _ e8 rfl d;have d:OwnS M.A w e8 [.cells s (prC t tb) 296,.mem G]:=d;have J:=T.le g10;have d:OwnS M.A w e8 [.urow 3 1 nilS 0 [],.cells s (prC t tb) 296,.mem G]:=OwnS.nilU (L:=[.cells s (prC t tb) 296,.mem G]) d _ _;refine loop (λvs W=>∃(i:Nat) (v:aq),vs=[v,.int .i64 (i:Int)]∧i<=19∧OwnS M.A w W [.urow 3 1 v (fp lc i).length (aV (fp lc i)),.cells s (prC t tb) 296,.mem G]) (λvs _=>19 - n1 vs) ⟨0,nilS,rfl,om,d⟩ ?_;clear d;rintro vs u ⟨i,v,rfl,hi,d⟩ _;simp only[yZ,gd,rs,nz];have e9:=ql lc i;by_cases V:(i:Int) < 19
 ·simp only[V,alK,i_t];have X:i < 19:=om
  have m3:=vf X;refine aD (adT X u) |>.mpr ?_;obtain⟨p,ia,ld⟩:=UG J (i:=cd.getD i 0) om;refine aD (ia u) |>.mpr (aD (ld u (d.hasM 2 rfl)) |>.mpr ?_);have k6:∀(j:Nat) (hj:j < lc.length),lc[j]'hj=lc.getD j 0:=λj hj=>by
   rw[alO,alT hj];rfl
  rw[k6];refine tV _ d λb3 m4 d=>?_;refine oK 1 d rfl (d.sl 0 rfl 1 1 1 rfl) rX om λv' m5 d=>?_
  try simp only[rs]
  rw[aA om om];refine aY ⟨i+1,v',rfl,om,?_⟩ (by simp[n1,RowKit.intOf];omega);rw[P0,mK,alI];exact d.tail
 simp only[V,alL,i_f];have b8:i=19:=om
 subst b8;obtain⟨b9,g11,h3,d⟩:=OwnS.bJ (L:=[.cells s (prC t tb) 296,.mem G]) d 1 rfl;have d:OwnS M.A w u [.cells s (prC t tb) 296,.mem b9]:=d;refine Cj (Ko (fp lc 19) v 4 b9 u (d.hasM 1 rfl) h3 om om om) ?_;rintro iv _ ⟨⟨nin,h6,Y,k7,m6,Z⟩,rfl⟩;rw[e9] at Y;have hit:(fp lc 19).take nin=fp lc nin:=by
  unfold fp;rw[<-arR,List.take_range,amQ Y]
 rw[hit] at Z;have z:=g6.trans (g7.trans (g8.trans (g9.trans (g10.trans g11))));have H:0 < N.getD 256 0:=f.pos 256 c2;have hh:∀x∈ps,ee N lb x:=λx k=>by
  have:=c3 x k;unfold ee at this ⊢;split
  ·rename_i h0;rw[alH h0] at this;exact f.pos _ this
  ·rename_i h0;rw[alG h0] at this;exact⟨f.pos _ this.1,g.pos _ this.2⟩
 have h7:∀i,nin<=i->i < 19->lc.getD (cd.getD i 0) 0=0:=λi h1 h2=>by
  have:=k7 i h1
  rwa [wk h2] at this
 have a1:∀m∈ms,0 < lc.getD m.1 0:=λm hm=>o.pos _ (b6 m hm);refine aeI (S:=M.A) (w0:=w) (W:=u) (a:=a) (b:=b) (lc:=lc) (ms:=ms) (nin:=nin) (ps:=ps) d (TbW.le z a7) (TbW.le z j4) (TbW.le g11 k5) B I f.chk g.chk o.chk f.le g.le o.le U om om om om h6 om h7 (q.le z) (r.le z) (by rw[ql];exact Z) (b4.le (g8.trans (g9.trans (g10.trans g11)))) (c0.le (g1.trans (g2.trans (g3.trans (g4.trans (g5.trans z)))))) a1 b1 b2 H hh a6 c1 λW d=>?_;refine hK _ _ b9 _ 1 d rfl (g1.trans (g2.trans (g3.trans (g4.trans (g5.trans z))))) ⟨_,rfl,yf _ _ _ _ _ _,?_⟩;have h8:bh a=0:=by have:=f.chk;rw[B] at this;exact vw this
 have h9:bh b=0:=by have:=g.chk;rw[I] at this;exact vw this
 refine D0 om om om om h6 om U o.le h7 o.chk a1 b1 b2 h8 h9 C D ?_ ?_ a6
 ·have:=H;rw[B,nu] at this;exact this
 ·intro x k;have:=hh x k;unfold ee at this ⊢;rw[B,I] at this;simp only[nu] at this;exact this
end
section
open Eng Go.RowKit
theorem Jw (k:List UInt8):∀(es:List MapEntry) (a:List (List UInt8×aq)) (i j:Nat) (u:aq),es.map (λe=>(e.key,e.val))=a.map (λp=>(strK p.1,p.2))->a[j]?=ax (k,u)->(∀m,m < j->∀p,a[m]?=ax p->p.1≠k) ->
  Instr.findNow .string (strK k) es i=ax (ax (i+j,u))
|[],[],i,j,u,_,h,_=>by simp at h
|e::es,p::a,i,j,u,h,b,d=>by
  simp only[anE,aqJ,apJ] at h;obtain⟨⟨g,l⟩,n⟩:=h;have f:Instr.sameNow .string (strK k) e.key=ax (ai (k=p.1)):=by
   rw[g];show ax ((⟨k.toArray⟩:ByteArray)==⟨p.1.toArray⟩)=_
   congr 1
   show (k.toArray==p.1.toArray)=_;by_cases c:k=p.1<;>simp[c]
  cases j with
 |zero=>
   simp only[aqR,apK] at b;subst b;rw[Instr.findNow,f];simp[l]
 |succ j=>
   have c:k≠p.1:=λe=>d 0 om p rfl e.symm;have o:=Jw k es a (i+1) j u n (by simpa using b) (λm hm q r=>d (m+1) om q (by simpa using r));rw[Instr.findNow,f];simp[c,o];omega
|[],_::_,_,_,_,h,_,_=>by simp at h
|_::_,[],_,_,_,h,_,_=>by simp at h
section
variable {S:Nat->Prop}{P:Program}{w w0:ao}{L:List Ent}{PK:PKT}{K:VWP}
theorem Xt (i j:Nat){T k e:TypeId}{a:List (List UInt8×aq)}(z:P.underlying T=ax (.map k e))(f:P.underlying k=ax .string)(s:OwnS S w0 w L)(hi:L[i]?=ax (.map b a))(x:List UInt8)(u v:aq)(g:a[j]?=ax (x,u))
  (A:∀m,m < j->∀p,a[m]?=ax p->p.1≠x) (B:∀w',OwnS S w0 w' (L.set i (.map b (a.set j (x,v))))->K undef w'):DoX P (UW T (.map (ax b)) (strK x) v) w PK K:=by
 obtain⟨es,clock,t,h⟩:=(show RR w b a from s.at_ i hi);have y:=Jw x es.toList a 0 j u h g A;rw[alU] at y;have c:j < es.toList.length:=by
  have:=congrArg List.length h;rw[amT,amT] at this;rw[this];exact (alY.1 g).1
 have n:j < es.size:=by simpa using c
 have o:es[j].key=strK x:=by
  have d:=congrArg (λl=>l[j]?) h;simp only[apP,g,arJ] at d;rw[alT c] at d;simp only[arJ,apK,apJ,Array.getElem_toList] at d;exact d.1
 have q:Instr.sameBits 10000 (strK x) (strK x)=true:=by
  unfold strK;rw[Instr.sameBits];show (x.toArray==x.toArray)=av;simp
 have C:(Instr.mapUpdate T (.map (ax b)) (strK x) v).run P w=.ok () { w with heap:=w.heap.setIfInBounds b (.map (es.modify j λe=>{ e with key:=strK x,val:=v }) clock) }:=by
  have D:(Instr.findKey k (strK x) es.toList).run P w=.ok (ax (j,u)) w:=by simp[Instr.findKey,run_underlying f,y]
  simp[Instr.mapUpdate,run_underlying z,getObj,setObj,Sem.run,t,pT f x,D,Instr.keyThatStays,n,o,q]
 refine Bm (HP C) (B _ ?_);refine s.put i hi (w':={ w with heap:=w.heap.setIfInBounds b _ }) ⟨rfl,rfl,rfl,sm,λk _ f=>?_⟩ (.map b (a.set j (x,v))) ?_ (λk f=>.inl f)
 ·show (w.heap.setIfInBounds b _)[k]?=_;exact apY (λe=>f (by simp[Ent.map,e]))
 ·refine⟨es.modify j λe=>{ e with key:=strK x,val:=v },clock,?_,?_⟩
  ·show (w.heap.setIfInBounds b _)[b]?=_;exact atO (dV t)
  ·rw[Array.toList_modify];refine List.ext_getElem? λm=>?_;have d:=congrArg (λl=>l[m]?) h;simp only[apP] at d ⊢;rw[List.getElem?_modify,List.getElem?_set];by_cases hm:j=m
   ·subst hm;rw[alT c];have r:j < a.length:=(alY.1 g).1;simp[r]
   ·simp only[alG hm];rw[<-d];cases es.toList[m]?<;>rfl
end
theorem RS (s:List UInt8)(a b most:Nat)(w:ao)(p:a < b)(r:b+most<=s.length)(t:s.length<=1048576) :
  Ret ah 319 #[strK s,.int .i64 (a:Int),.int .i64 (b:Int),.int .i64 (most:Int)] w (λv w'=>(∃n:Nat,v=.int .i64 (n:Int)∧n<=most∧(∀i,i < n->s[a+i]?=s[b+i]?)∧(n=most∨s[a+n]?≠s[b+n]?))∧Below w.heap.size w w'):=by
 refine aZ λK m=>CR ?_;unfold yD nz;refine loop (λvs W=>∃n:Nat,vs=[.int .i64 (n:Int)]∧n<=most∧(∀i,i < n->s[a+i]?=s[b+i]?)∧Own w W []) (λvs _=>most - n0 vs) ⟨0,rfl,om,(λi h=>by omega),Own.start w⟩ ?_;rintro vs u ⟨n,rfl,o,d,e⟩ _;simp only[sM,gd,rs,nz];refine quiet (DQ ?_);by_cases g:(n:Int) < (most:Int)
 ·simp only[g,alK,gq];have q:n < most:=om
  have j:a+n < s.length:=om
  have f:b+n < s.length:=om
  refine oY ?_;rw[aA om om,show (a:Int)+n=((a+n:Nat):Int) by omega];refine q_ix (a:=s) (c:=s[a+n]) alV om (by rw[alQ,alT j]) ?_;refine oY ?_;rw[aA om om,show (b:Int)+n=((b+n:Nat):Int) by omega];refine q_ix (a:=s) (c:=s[b+n]) alV om (by rw[alQ,alT f]) ?_;refine q_eq (q_pt ?_);intro w2 k;have e:=e.grow k;by_cases he:s[a+n]=s[b+n]
  ·simp only[he,alK,i_t,rs];rw[aA om om];refine aY ⟨n+1,rfl,om,λi hi=>?_,e⟩ (by simp[n0,RowKit.intOf];omega);by_cases h:i=n
   ·subst h;rw[alT j,alT f,he]
   ·exact d i om
  ·have l:¬((s[a+n].toNat:Int)=(s[b+n].toNat:Int)):=λh=>he (UInt8.toNat_inj.1 om);simp only[l,alL,i_f];refine m _ _ ⟨⟨n,rfl,o,d,.inr ?_⟩,e.done⟩;rw[alT j,alT f];exactλh=>he (aoJ h)
 ·simp only[g,alL,gq];refine q_pf ?_;intro w2 k;have e:=e.grow k;simp only[i_f];exact m _ _ ⟨⟨n,rfl,o,d,.inl om⟩,e.done⟩
end
end Go.Proofs.YtlipjfcbjemicaaGreatDoor
