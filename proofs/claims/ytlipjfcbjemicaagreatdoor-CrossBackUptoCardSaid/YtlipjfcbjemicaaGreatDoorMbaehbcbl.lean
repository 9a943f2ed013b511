/- Texts that go together: DfD DfK DfL DfM DfN DfO DfP DfQ SStrC SZlibW DfR PrC PrD PrF FeF FeG FeH Plain08S SStrm SDrop5 StrmA FeI FeJ PrE FeP Plain16M FeQ SChunk FeR FeS FeT FeK CsC CsE Plain20 Plain16O Plain16P. -/
import Derived.Test.YtlipjfcbjemicaaGreatDoorRows
import Derived.Test.YtlipjfcbjemicaaGreatDoorMkjlejeag
set_option linter.defProp false
set_option linter.unusedSimpArgs false
set_option linter.unusedVariables false
set_option maxRecDepth 20000
open Go.Proofs.Tryz
open Go.Proofs.Tryz renaming prog->ah
open Option renaming some->ax,none->aw
open Bool renaming true->av,false->au
open Go renaming Value->aq,World->ao
open Decidable renaming decide->ai
namespace Go.Proofs.YtlipjfcbjemicaaGreatDoor
variable{D:TypeId}{K:VWP}{M N:Eng.Mem}{P:Program}{PK PK2:PKT}{S:Nat->Prop}{W w w0:ao}{a colors way:Int}{above key:List UInt8}{b cap f i j jm m tb:Nat}{cb:Array Bool}{cl l near:List Nat}{cur:List aq}{o:Ob}{pv v v' va:aq}{x:Pm}{xo yo:Operand}{t0 t1:aq}{k0:Eng.KT}
section
open Eng Go.RowKit
def prC (a b:Nat):List Value:=[.pointer (ax ⟨a,0,aw⟩),.pointer (ax ⟨b,0,aw⟩)]
def prV (a b:Nat):Value:=.agg (prC a b).toArray
theorem LW:fOff ah 296 0=ax 0:=krx
theorem TN:fOff ah 296 1=ax 1:=krx
theorem acO:aggN ah 296=ax 2:=krx
theorem I0 {far:List Nat}(a:∀l∈near,l<=15)(b:∀l∈far,l<=15){x:bj}(h:fx m x):(ei near far x).length<=48:=by
 have c:∀i,near.getD i 0<=15:=im a dc;have e:∀i,far.getD i 0<=15:=im b dc;unfold ei;unfold fx at h;by_cases d:x.2.1=0
 ·rw[amB d,ez];have:=c x.1.toNat;omega
 ·rw[amA d] at h ⊢;obtain⟨_,_,_,_,_,f⟩:=lx h.2.1 h.2.2.1;obtain⟨_,_,_,_,f5⟩:=mi h.2.2.2.1 h.2.2.2.2.1;simp only[amC,ez,bp];have:=c (bu x.2.1).1;have:=e (di x.2.2).1;omega
theorem nv {near far:List Nat}(a:∀l∈near,l<=15)(b:∀l∈far,l<=15):∀{l:List bj},(∀x∈l,∃m,fx m x)->(l.flatMap (ei near far)).length<=48*l.length
|[],_=>amJ _
|x::l,h=>by
  obtain⟨m,hm⟩:=h x (anQ ..);have d:=I0 a b hm;have e:=nv a b λy c=>h y (anA _ c);rw[aoR,amC,amW];omega
theorem J0 (near far:List Nat)(l:List bj):bn (l.flatMap (ei near far)):=λb a=>by
 obtain⟨x,_,c⟩:=arR.1 a;exact tx near far x b c
section
variable {w:ao}{PK:PKT}{K:VWP}{S:Nat->Prop}{w0:ao}{L T:List Ent}
theorem VD (a:OwnS S w0 w L)(k:∀b w',OwnS S w0 w' (ptE b (0,0,0)::L)->K (.pointer (ax ⟨b,0,aw⟩)) w'):DoX ah (iH 291) w PK K:=
 bA (λb=>.pointer (ax ⟨b,0,aw⟩)) (ptC (0,0,0)) 291 (λ_=>by kernel_rfl) a k
theorem MV (j:Nat){x y:bj}(a:OwnS S w0 w L)(hi:L[j]?=ax (ptE b x))(k:∀w',OwnS S w0 w' (L.set j (ptE b y))->K undef w') :
  DoX ah (aN 291 (.pointer (ax ⟨b,0,aw⟩)) (ptV y)) w PK K:=xR j a hi (new:=ptC y) szPt TE (by show 0+3<=3;omega) k
theorem pt_0 (a:OwnS S w0 w L)(j:Nat){x:bj}(hi:L[j]?=ax (ptE b x)):DoX ah (aH 5 (.pointer (ax ⟨b,0+0,aw⟩))) w PK K=K (.int .u8 (x.1.toNat:Int)) w:=aJ nU8l (a.cell j hi 0 rfl)
theorem pt_1 (a:OwnS S w0 w L)(j:Nat){x:bj}(hi:L[j]?=ax (ptE b x)):DoX ah (aH 3 (.pointer (ax ⟨b,0+1,aw⟩))) w PK K=K (.int .i64 (x.2.1:Int)) w:=aJ aU (a.cell j hi 1 rfl)
theorem pt_2 (a:OwnS S w0 w L)(j:Nat){x:bj}(hi:L[j]?=ax (ptE b x)):DoX ah (aH 3 (.pointer (ax ⟨b,0+2,aw⟩))) w PK K=K (.int .i64 (x.2.2:Int)) w:=aJ aU (a.cell j hi 2 rfl)
theorem Qy {g:Nat}{far:List Nat}{ps:List bj}(a:OwnS S w0 w (Wr b way l v T))(hm:T[jm]?=ax (.mem M))(t:TbW M.A M.w g near)(V:TbW M.A M.w tb far)
  (u:bh near=0) (X:bh far=0) (d:∀l∈near,l<=15) (h:∀l∈far,l<=15) (D:0 < near.getD 256 0) (E:SlA M.A M.w pv 3 ps.length (ps.flatMap ptC)) (hh:∀x∈ps,ee near far x) (F:gu 0 ps) (b7:ps.length<=1048576)
  (G:bn l) (hw:way=0∨way=1) (hl:l.length<=100000000) (k:∀way' v' W,(way'=0∨way'=1)->OwnS S w0 W (Wr b way' (l++cy near far ps) v' T)->K (.tuple #[]) W) :
  CallX ah 296 #[prV g tb,.pointer (ax ⟨b,0,aw⟩),pv] w PK K:=by
 refine fH (tR (k0:=RetK λv W=>v=.tuple #[]∧∃way' v',(way'=0∨way'=1)∧OwnS S w0 W (Wr b way' (l++cy near far ps) v' T)) ?_) (λe W ⟨v,he,hv,way',v',Y,a⟩=>by subst he;subst hv;exact k way' v' W Y a);unfold nH nz;refine bA (λb=>.pointer (ax ⟨b,0,aw⟩)) (prC g tb) 296 (λ_=>by kernel_rfl) a λo Z a=>?_;have a:OwnS S w0 Z (([.cells o (prC g tb) 296]:List Ent)++([wrE b way l.length v,outR v (az l)]++T)):=a;have a:OwnS S w0 Z (Wr b way l v (.cells o (prC g tb) 296::T)):=a.front;have H:∀{W:ao} {way:Int} {l:List Nat} {v:aq} {e:Ent},OwnS S w0 W (Wr b way l v (e::T))->M.has W:=λa=>a.hasM (jm+3) (by rw[anM,anM,anM];exact hm);rw[bD auA (E.now (H a))];refine loop (λvs W=>∃(i:Nat) (way':Int) (v':aq),vs=[.int .i64 (i:Int)]∧i<=ps.length∧(way'=0∨way'=1)∧OwnS S w0 W (Wr b way' (l++(ps.take i).flatMap (ei near far)) v' (.cells o (prC g tb) 296::T))) (λvs _=>ps.length - n0 vs) ⟨0,way,v,rfl,om,hw,by show OwnS S w0 Z (Wr b way (l++[]) v _);rw[amY];exact a⟩ ?_;clear a hw;rintro vs w2 ⟨i,way',v',rfl,hi,hw,a⟩ _;simp only[kJ,gd,rs,nz];have I:=nv d h (l:=ps.take i) λx q=>lj F x (aoO q);rw[amL,anL hi] at I;have j:=J0 near far (ps.take i);by_cases L:(i:Int) < (ps.length:Int)
 ·have r:i < ps.length:=om
  simp only[L,amD,i_t];obtain⟨p,a1,N⟩:=ptAt E r;refine join λJ hJ=>?_;rw[aD (a1 w2),aD (N w2 (H a))];have q:=hh _ (amR r);obtain⟨mx,c⟩:=lj F _ (amR r);have a6:ps.take (i+1)=ps.take i++[ps[i]]:=anH r;have fin:∀(W:ao) (way':Int) (v':aq) (s:Nat),(way'=0∨way'=1)->OwnS S w0 W (Wr b way' (l++(ps.take i).flatMap (ei near far)++ei near far ps[i]) v' (ptE s ps[i]::.cells o (prC g tb) 296::T))->J [] W:=by
   intro W way' v' s hw a;refine hJ _ _ λ_=>?_;simp only[kN,gd,rs,nz];rw[aA om om];refine aY ⟨i+1,way',v',rfl,om,hw,?_⟩ (by simp[n0,RowKit.intOf];omega);rw[a6,apL,aqM,<-amM];have a:OwnS S w0 W ((Wr b way' (l++(ps.take i).flatMap (ei near far)++ei near far ps[i]) v' [])++([ptE s ps[i]]++(.cells o (prC g tb) 296::T))):=a;exact a.front.tail
  generalize ps[i]=x at q c N fin;generalize hB:l++(ps.take i).flatMap (ei near far)=B at a fin;have b8:B.length<=200000000:=by rw[<-hB,amC];omega
  have m:bn B:=by rw[<-hB];exact br G j
  refine VD a λs w3 a=>?_;refine MV (y:=x) 0 a rfl λw4 a=>?_;have a:OwnS S w0 w4 ([ptE s x]++(Wr b way' B v' []++(.cells o (prC g tb) 296::T))):=a;have a:OwnS S w0 w4 (Wr b way' B v' (ptE s x::.cells o (prC g tb) 296::T)):=a.front;have n:(ptE s x::.cells o (prC g tb) 296::T)[jm+2]?=ax (.mem M):=by rw[anM,anM];exact hm
  unfold ee at q;unfold ei at fin;unfold fx at c;rw[aO EO,pt_1 a 2 rfl];simp only[rs];by_cases R:x.2.1=0
  ·rw[amB R] at q c;simp only[amB R] at fin;simp only[show ai ((x.2.1:Int)=0)=av from amG om,i_t];rw[aO LW,aJ PE (a.cell 3 rfl 0 rfl),aO UR,pt_0 a 2 rfl];have hc:=x.1.toNat_lt;refine aD (eC krx anT) |>.mpr ?_;rw[aA om om];refine Ca (i:=x.1.toNat) a n t u d q m hw om λf v5 U z a=>?_;exact fin U f v5 s z a
  ·rw[amA R] at q c;simp only[amA R] at fin;obtain⟨s1,s2,s3,s4,s5,s6⟩:=lx c.2.1 c.2.2.1;obtain⟨f1,f2,f3,f4,f5⟩:=mi c.2.2.2.1 c.2.2.2.2.1;simp only[show ai ((x.2.1:Int)=0)=au from amE om,i_f];rw[aO EO,pt_1 a 2 rfl];refine aL a (Mw x.2.1 w4 c.2.1 c.2.2.1) ?_;rintro _ U rfl a;simp only[ex];rw[aO LW,aJ PE (a.cell 3 rfl 0 rfl)];have n1:near.getD (bu x.2.1).1 0<=15:=im d dc _;have n2:far.getD (di x.2.2).1 0<=15:=im h dc _;refine Ca (i:=(bu x.2.1).1) a n t u d q.1 m hw om λb4 v6 w6 a7 a=>?_;have O:=br m (km near (bu x.2.1).1);refine nL a O a7 om s5 (by rw[amC,ez];omega) λb5 v7 w7 a8 a=>?_;have P:=br O (dr (bu x.2.1).2.1 (bu x.2.1).2.2);rw[aO YO,pt_2 a 2 rfl];refine aL a (Lz x.2.2 w7 c.2.2.2.1 c.2.2.2.2.1) ?_;rintro _ w8 rfl a;simp only[ex];rw[aO TN,aJ PE (a.cell 3 rfl 1 rfl)];refine Ca (i:=(di x.2.2).1) a n V X h q.2 P a8 (by simp only[amC,ez,bp];omega) λb6 v9 w9 b0 a=>?_;have b1:=br P (km far (di x.2.2).1);refine nL a b1 b0 om f4 (by simp only[amC,ez,bp];omega) λC v10 b2 Q a=>?_;refine fin b2 C v10 s Q ?_;simp only[amM] at a ⊢;exact a
 ·simp only[L,amF,i_f];have b3:i=ps.length:=om
  subst b3;rw[aoA] at a I j;have n:(.cells o (prC g tb) 296::T)[jm+1]?=ax (.mem M):=by rw[anM];exact hm
  rw[aO LW,aJ PE (a.cell 2 rfl 0 rfl)];refine Ca (i:=256) a n t u d D (br G j) hw (by rw[amC];omega) λf v5 U z a=>?_;refine retK ⟨rfl,f,v5,z,?_⟩;unfold cy;rw[<-amM];have a:OwnS S w0 U ((Wr b f (l++ps.flatMap (ei near far)++dh near 256) v5 [])++([.cells o (prC g tb) 296]++T)):=a;exact a.front.tail
end
theorem TbW.le {M N:Mem}(h:M.le N){b:Nat}{lens:List Nat}(k:TbW M.A M.w b lens):TbW N.A N.w b lens:=by
 obtain⟨a,c,o,d,e,f,g,i⟩:=k;refine⟨a,c,o,h.A b d,?_,f.le h,g.le h,i.le h⟩;show N.w.heap[b]?=_;rw[h.has b d];exact e
theorem Rj (ps:List bj)(pv:aq)(M:Mem)(w:ao)(i:M.has w)(k:SlA M.A M.w pv 3 ps.length (ps.flatMap ptC))(c:gu 0 ps)(m:ps.length<=1048576) :
  RetM ah 267 #[pv] M w (λv _=>v=.string ⟨(az (gm ps)).toArray⟩):=by
 refine bB i λK E=>B2 ?_;unfold wX nz;have a:OwnS M.A w w [.mem M]:=OwnS.memS i;refine bH a 0 rfl (Jh M w i) ?_;rintro _ N1 S g1 ⟨va,F,rfl,G,f⟩ a;simp only[ex];refine bA (λb=>.pointer (ax ⟨b,0,aw⟩)) [.pointer aw,.pointer aw] 296 (λ_=>by kernel_rfl) a λH w2 a=>?_;have T:cr.length=288:=by decide +kernel
 refine bH a 1 rfl (zO cr va N1 w2 mj om om (a.hasM 1 rfl) G) ?_;rintro _ I w3 g3 s a;rw[amA (by rw[mz];exactλh=>h rfl)] at s;obtain⟨t,rfl,d⟩:=s;simp only[ex];rw[aO LW];refine aK 0 a rfl krx rfl (by show 0+0 < 2;omega) λJ a=>?_;refine bH a 1 rfl (zO db F I J nq (by rw[mg];omega) (by rw[mg];omega) (a.hasM 1 rfl) (f.le g3)) ?_;rintro _ y U g5 z a;rw[amA (by rw[nc];exactλh=>h rfl)] at z;obtain⟨tb,rfl,o⟩:=z;simp only[ex];rw[aO TN];refine aK 0 a rfl krx rfl (by show 0+1 < 2;omega) λL a=>?_;have a:OwnS M.A w L [.cells H (prC t tb) 296,.mem y]:=a;have d:=TbW.le g5 d;refine St a λb V a=>?_;refine nL (x:=1) (n:=1) a (λb f=>by cases f) (.inl rfl) om dc sm λB v1 X p a=>?_;have g:bn ([]++bf 1 1):=br (λb f=>by cases f) (dr 1 1);refine nL (x:=1) (n:=2) a g p om dc (by simp[bp]) λC v2 Y q a=>?_;have r:=br g (dr 1 2);refine aD (aW (AtV.agg acO (cs:=prC t tb) rfl λj u N=>by rw[amO];exact a.cell 2 rfl j N)) |>.mpr ?_;refine Qy (jm:=1) a rfl d o mz nc mj nq (nn dc) (k.le (g1.trans (g3.trans g5))) (ur c) c m r q (by simp[bp]) λD v3 O P a=>?_;have e:[]++bf 1 1++bf 1 2++cy cr db ps=gm ps:=by unfold gm;simp
 rw[e] at a;have Z:(gm ps).length<=100000000:=by
  unfold gm cy;have:=nv mj nq (l:=ps) λx Q=>lj c x Q;have R:cr.getD 256 0<=15:=im mj dc _;simp only[amC,bp,ez];omega
 refine Ot a (by unfold gm;simp only[amC,bp];omega) om λW a=>?_;exact E _ _ y _ 1 a rfl (g1.trans (g3.trans g5)) rfl
end
section
open Eng Go.RowKit
theorem Oa {g n:Nat}{k:IntKind}(hi:i < n)(W:ao):(mIA 123 (.slice (ax ⟨g,0,aw⟩) n cap) (.int k (i:Int))).run ah W=.ok (.value (.pointer (ax ⟨g,i,aw⟩))) W:=by
 have:=dX (P:=ah) (T:=123) (b:=g) (off:=0) (cap:=cap) (n:=n) (k:=k) (i:=(i:Int)) (w:=W) amZ LO om om
 rwa [amK,anC,amO] at this
def kj (l:List Nat)(j:Nat):List Nat:=l.set j (l.getD j 0+1)
theorem nw (l:List Nat)(j:Nat):(kj l j).length=l.length:=aoV
theorem nx (a:j < l.length)(k:Nat):(kj l j).getD k 0=l.getD k 0+(if j=k then 1 else 0):=by
 unfold kj;rw[amI];by_cases h:j=k
 ·subst h;rw[apN a];simp
 ·rw[arJ h,<-amI,amA h];rfl
theorem No {a b a' d:List Nat}{x:bj}(h:ee a b x)(e:∀i,a.getD i 0<=a'.getD i 0)(f:∀i,b.getD i 0<=d.getD i 0):ee a' d x:=by
 unfold ee at h ⊢;split
 ·rename_i c;rw[amB c] at h;exact apH h (e _)
 ·rename_i c;rw[amA c] at h;exact⟨apH h.1 (e _),apH h.2 (f _)⟩
theorem qg {B:Nat}(h:∀i,l.getD i 0<=B):∀c∈l,c<=B:=by
 intro c a;obtain⟨i,hi,rfl⟩:=apS a;have:=h i;rw[amI,amN hi] at this;exact this
section
variable {w:ao}{PK:PKT}{K:VWP}{S:Nat->Prop}{w0:ao}{L T:List Ent}
theorem V5 (i:Nat){g n:Nat}{k:IntKind}{PK3 PK4 PK5:PKT}{N:ao->Prop}(a:OwnS S w0 w L)(hi:L[i]?=ax (lrE g l))(c:l.length=n)(b:j < n)(e:l.getD j 0<=1000000000)(d:∀W,OwnS S w0 W (L.set i (lrE g (kj l j)))->N W) :
  DoX ah (mIA 123 (.slice (ax ⟨g,0,aw⟩) n n) (.int k (j:Int))) w PK λt w=>DoX ah (aH 3 t) w PK2 λt w=>DoX ah (mBin .add 3 t (.int .i64 1)) w PK3 λt2 w=>DoX ah (mIA 123 (.slice (ax ⟨g,0,aw⟩) n n) (.int k (j:Int))) w PK4 λt w=>DoX ah (aN 3 t t2) w PK5 λ_ w=>N w:=by
 subst c;refine aD (Oa b w) |>.mpr ?_;rw[aJ aU (a.cell i hi j (D7 b)),Kb,aA om om,show ((l.getD j 0:Nat):Int)+1=((l.getD j 0+1:Nat):Int) by omega];refine aD (Oa b w) |>.mpr ?_;refine aK i a hi krx rfl (by rw[eO];exact b) λw2 a=>?_;rw[Ac] at a;exact d w2 a
end
theorem MS (ps:List bj)(pv:aq)(M:Mem)(w:ao)(hM:M.has w)(C:SlA M.A M.w pv 3 ps.length (ps.flatMap ptC))(Q:gu 0 ps)(a6:ps.length<=1048576) :
  RetM ah 297 #[pv] M w (λr N=>∃va vb ca cb,r=.tuple #[va,vb]∧SlA N.A N.w va 1 ca.length (aV ca)∧SlA N.A N.w vb 1 cb.length (aV cb)∧ca.length=286∧cb.length=30∧0 < ca.getD 256 0∧(∀x∈ps,ee ca cb x)∧(∀c∈ca,c<=2147483647)∧(∀c∈cb,c<=2147483647)):=by
 refine bB hM λK hK=>Am ?_;unfold sQ iN dx;have a:OwnS M.A w w [.mem M]:=OwnS.memS hM;have H:∀n:Nat,aV (List.replicate n 0)=List.replicate n (.int .i64 0):=λn=>by simp[aV]
 have body:∀(W:ao) (s o:Nat),OwnS M.A w W [lrE s (List.replicate 286 0),lrE o (List.replicate 30 0),.mem M]->eG pv (.slice (ax ⟨s,0,aw⟩) 286 286) (.slice (ax ⟨o,0,aw⟩) 30 30) W K:=by
  intro W s o a;unfold eG iN iax stx lnx;refine aD (Oa (i:=256) (k:=.i64) dc W) |>.mpr ?_;refine aK 0 a rfl krx rfl (by rw[eO,anU];decide) λw2 a=>?_;rw[show (Value.int .i64 1)=.int .i64 ((1:Nat):Int) from rfl,Ac] at a;rw[bD auA (C.now (a.hasM 2 rfl))];refine loop (λvs V=>∃(i:Nat) (ca cb:List Nat),vs=[.int .i64 (i:Int)]∧i<=ps.length∧ca.length=286∧cb.length=30∧0 < ca.getD 256 0∧(∀x∈ps.take i,ee ca cb x)∧(∀j,ca.getD j 0<=i+1)∧(∀j,cb.getD j 0<=i+1)∧OwnS M.A w V [lrE s ca,lrE o cb,.mem M]) (λvs _=>ps.length - n0 vs) ⟨0,(List.replicate 286 0).set 256 1,List.replicate 30 0,rfl,om,by rw[aoV,anU],anU,by decide +kernel,(λx v=>by cases v),?_,?_,a⟩ ?_
  ·refine im (P:=λc=>c<=0+1) (λc I=>?_) dc;rcases asL I with h|h
   ·rw[apP h];decide
   ·rw[h];decide
  ·refine im (P:=λc=>c<=0+1) (λc I=>?_) dc;rw[apP I];decide
  clear a;rintro vs w3 ⟨i,ca,cb,rfl,hi,d,m,u,q,t,z,a⟩ _;simp only[oX,gd,rs,nz];by_cases D:(i:Int) < (ps.length:Int)
  ·have B:i < ps.length:=om
   simp only[D,amD,i_t];obtain⟨p,R,E⟩:=ptAt C B;refine join λJ hJ=>?_;rw[aD (R w3),aD (E w3 (a.hasM 2 rfl))];obtain⟨mx,b⟩:=lj Q _ (amR B);have S:ps.take (i+1)=ps.take i++[ps[i]]:=anH B;have fin:∀(W:ao) (f g:List Nat) (e:Ent),f.length=286->g.length=30->(∀j,ca.getD j 0<=f.getD j 0∧f.getD j 0<=ca.getD j 0+1)->(∀j,cb.getD j 0<=g.getD j 0∧g.getD j 0<=cb.getD j 0+1)->ee f g ps[i]->OwnS M.A w W (e::[lrE s f,lrE o g,.mem M])->J [] W:=by
    intro W f g e h1 h2 T h4 h5 a;refine hJ _ _ λ_=>?_;simp only[nZ,gd,rs,nz];rw[aA om om];refine aY ⟨i+1,f,g,rfl,om,h1,h2,apH u (T 256).1,?_,λj=>by have:=T j;have:=t j;omega,λj=>by have:=h4 j;have:=z j;omega,a.tail⟩ (by simp[n0,RowKit.intOf];omega);rw[S];intro x v;rcases anF.1 v with v|v
    ·exact No (q x v) (λj=>(T j).1) (λj=>(h4 j).1)
    ·rw[anB.1 v];exact h5
   generalize ps[i]=x at b E fin;refine VD a λxb w4 a=>?_;refine MV (y:=x) 0 a rfl λw5 a=>?_;have a:OwnS M.A w w5 (ptE xb x::[lrE s ca,lrE o cb,.mem M]):=a;unfold fx at b;unfold ee at fin;rw[aO EO,pt_1 a 0 rfl];simp only[rs];by_cases O:x.2.1=0
   ·rw[amB O] at b;simp only[amB O] at fin;simp only[show ai ((x.2.1:Int)=0)=av from amG om,i_t];rw[aO UR,pt_0 a 0 rfl];have I:=x.1.toNat_lt;have U:=t x.1.toNat;refine V5 1 a rfl d om om λX a=>?_;have F:=nx (l:=ca) (j:=x.1.toNat) om;refine fin X (kj ca x.1.toNat) cb _ (by rw[nw];exact d) m (λj=>by rw[F];split<;>omega) (λj=>by omega) (by rw[F,amB rfl];omega) a
   ·rw[amA O] at b;simp only[amA O] at fin;obtain⟨s1,s2,s3,s4,s5,s6⟩:=lx b.2.1 b.2.2.1;obtain⟨f1,f2,f3,f4,f5⟩:=mi b.2.2.2.1 b.2.2.2.2.1;simp only[show ai ((x.2.1:Int)=0)=au from amE om,i_f];rw[aO EO,pt_1 a 0 rfl];refine aL a (Mw x.2.1 w5 b.2.1 b.2.2.1) ?_;rintro _ X rfl a;simp only[ex];rw[aO YO,pt_2 a 0 rfl];refine aL a (Lz x.2.2 X b.2.2.2.1 b.2.2.2.2.1) ?_;rintro _ w7 rfl a;simp only[ex];have U:=t (bu x.2.1).1;have a7:=z (di x.2.2).1;refine V5 1 a rfl d om om λw8 a=>?_;refine V5 2 a rfl m om om λw9 a=>?_;have F:=nx (l:=ca) (j:=(bu x.2.1).1) om;have G:=nx (l:=cb) (j:=(di x.2.2).1) om;refine fin w9 (kj ca (bu x.2.1).1) (kj cb (di x.2.2).1) _ (by rw[nw];exact d) (by rw[nw];exact m) (λj=>by rw[F];split<;>omega) (λj=>by rw[G];split<;>omega) ⟨by rw[F,amB rfl];omega,by rw[G,amB rfl];omega⟩ a
  ·simp only[D,amF,i_f];have Y:i=ps.length:=om
   subst Y;rw[aoA] at q;have a:=a.toU 1 286 286 (by rw[eO,d]) (amJ _) om;rw[anC,anJ (by rw[eO];omega)] at a;obtain⟨N1,g1,Z,a⟩:=OwnS.bI (L:=[lrE o cb,.mem M]) a 1 rfl;have a:OwnS M.A w w3 [lrE o cb,.mem N1]:=a;have a:=a.toU 1 30 30 (by rw[eO,m]) (amJ _) om;rw[anC,anJ (by rw[eO];omega)] at a;obtain⟨N2,g2,a1,a⟩:=OwnS.bI (L:=[.mem N1]) a 0 rfl;exact hK _ _ N2 _ 0 a rfl (g1.trans g2) ⟨_,_,ca,cb,rfl,by rw[d];exact Z.le g2,by rw[m];exact a1,d,m,u,q,qg λj=>by have:=t j;omega,qg λj=>by have:=z j;omega⟩
 refine⟨?_⟩;have a:=a.drew;refine⟨?_,?_⟩
 ·refine wR (n:=286) om a λs w1 a=>⟨?_,?_⟩
  all_goals
   refine wR (n:=30) om a λo w2 a=>?_;refine body w2 s o ?_;unfold lrE;rw[H,H];exact a.perm (List.Perm.swap _ _ _)
 ·refine wR (n:=30) om a λo w1 a=>?_;refine wR (n:=286) om a λs w2 a=>?_;refine body w2 s o ?_;unfold lrE;rw[H,H];exact a
theorem KY (l:List Nat)(v:aq)(keep:Nat)(M:Mem)(w:ao)(e:M.has w)(a:SlA M.A M.w v 1 l.length (aV l))(p:keep<=l.length)(x:0 < keep)(y:l.length<=1000000) :
  Ret ah 299 #[v,.int .i64 (keep:Int)] w (λr w'=>(∃n,keep<=n∧n<=l.length∧(∀j,n<=j->l.getD j 0=0)∧r.oneCell'=av∧SlA M.A M.w r 1 n (aV (l.take n)))∧w=w'):=by
 refine aZ λK q=>Fj ?_;unfold DH nz;rw[bD amZ (a.now e)];refine loop (λvs W=>∃n:Nat,vs=[.int .i64 (n:Int)]∧keep<=n∧n<=l.length∧(∀j,n<=j->l.getD j 0=0)∧w=W) (λvs _=>n0 vs) ⟨l.length,rfl,p,amJ _,λj f=>by rw[amI,aoU f];rfl,rfl⟩ ?_;rintro vs _ ⟨n,rfl,d,g,k,rfl⟩ _;simp only[wZ,gd,rs,nz];obtain⟨b,off,cap,rfl,_⟩:=bY a.1 om;have m:=a.2.2 _ _ _ rfl;have stop:DoX ah (eI 123 (.slice (ax ⟨b,off,aw⟩) l.length cap) aw (ax (.int .i64 (n:Int))) aw) w (pk K) λt23 w=>K (.returned t23) w:=by
  refine aD (jT amZ LO om om) |>.mpr ?_;rw[amK];have c:=SlA.TP a (i:=n) g (λh=>by omega);rw[anC] at c;refine q _ _ ⟨⟨n,d,g,k,?_,?_⟩,rfl⟩
  ·unfold subA;split<;>rfl
  ·rw[show aV (l.take n)=(aV l).take n by unfold aV;rw[asN]];exact c
 by_cases z:keep < n
 ·simp only[show ai ((keep:Int) < (n:Int))=av from amG om,rs];rw[aA om om,show (n:Int) - 1=((n - 1:Nat):Int) by omega];obtain⟨b2,o,s,t⟩:=mU (a.now e) (i:=n - 1) om;refine aD (s w) |>.mpr (aD (aB aU t) |>.mpr ?_);simp only[rs];by_cases u:l[n - 1]=0
  ·simp only[show ai (((l[n - 1]:Nat):Int)=0)=av from amG om,i_t];refine aY ⟨n - 1,rfl,om,om,λj f=>?_,rfl⟩ (by simp[n0,RowKit.intOf];omega);rcases anE j n with h|h
   ·obtain rfl:j=n - 1:=om
    rw[amI,amN om];exact u
   ·exact k j h
  ·simp only[show ai (((l[n - 1]:Nat):Int)=0)=au from amE om,i_f];exact stop
 ·simp only[show ai ((keep:Int) < (n:Int))=au from amE om,i_f,rs];exact stop
end
section
open Eng Go.RowKit
def mkC (m:bt):List Value:=[.int .i64 (m.1:Int),.int .i64 (m.2.1:Int),.int .i64 (m.2.2:Int)]
def mkV (m:bt):Value:=.agg (mkC m).toArray
theorem TY (m:bt):(mkC m).length=3:=rfl
theorem VK {m:bt}:∀u∈mkC m,u.oneCell'=true:=by
 intro u hu;simp only[mkC,amH,anW,or_false] at hu;rcases hu with rfl|rfl|rfl<;>rfl
theorem Z4 {l:List bt}:∀u∈l.flatMap mkC,u.oneCell'=true:=Eng.VQ λx=>VK
theorem ajK:aggN ah 307=ax 3:=krx
theorem szMk:(Tryz.prog.info? 307).map (·.size)=ax 3:=krx
theorem elMk:elB ah 307 3 24=true:=krx
theorem YP:fOff ah 307 0=ax 0:=krx
theorem afB:fOff ah 307 1=ax 1:=krx
theorem afH:fOff ah 307 2=ax 2:=krx
abbrev mksE (v:aq)(l:List bt):Ent:=.urow 307 3 v l.length (l.flatMap mkC)
theorem wc {l:List Nat}{i c:Nat}:∀(n:Nat),i+n<=l.length->(∀j,j < n->l.getD (i+j) 0=c)->l.take (i+n)=l.take i++List.replicate n c
|0,_,_=>by simp
|n+1,h,d=>by
  have e:=wc n om λj f=>d j om;have a:i+n < l.length:=om
  have b:=d n om;rw[amI,amN a] at b;have b:l[i+n]=c:=b;rw[show i+(n+1)=i+n+1 by omega,anH a,e,b,amM,List.replicate_succ']
theorem mm (acc:List Nat)(g m:Nat)(a:g=17∨g=18):ev acc (g,m,cm g)=acc++List.replicate (dn g+m) 0:=by
 unfold ev;rcases a with rfl|rfl
 ·rw[amA (show ¬(17:Nat) < 16 by decide),amA (show ¬(17:Nat)=16 by decide)]
 ·rw[amA (show ¬(18:Nat) < 16 by decide),amA (show ¬(18:Nat)=16 by decide)]
theorem we (acc:List Nat){c:Nat}(h:c < 16):ev acc (c,0,0)=acc++[c]:=by unfold ev;rw[amB h]
theorem yf (acc:List Nat)(c m:Nat):ev (acc++[c]) (16,m,2)=acc++List.replicate (4+m) c:=by
 unfold ev;have e:(acc++[c]).getD ((acc++[c]).length - 1) 0=c:=by
  rw[amC,aoI,aqQ,amI,aoQ (amJ _),apD];rfl
 rw[amA (show ¬(16:Nat) < 16 by decide),amB (show (16:Nat)=16 from rfl),e,amM];have a:dn 16=3:=rfl;show acc++([c]++List.replicate (dn 16+m) c)=_;rw[a,show 4+m=(3+m)+1 by omega,atC];rfl
theorem Um (a:SlA M.A M.w v 1 l.length (aV l))(hi:i < l.length) :
  ∃p,(∀W,(mIA 123 v (.int .i64 (i:Int))).run ah W=.ok (.value (.pointer (ax p))) W)∧∀W,M.has W->(aH 3 (.pointer (ax p))).run ah W=.ok (.value (.int .i64 (l[i]:Int))) W:=by
 obtain⟨b,off,cap,rfl,_⟩:=bY a.1 om;refine⟨⟨b,off+i,aw⟩,λW=>?_,λW e=>?_⟩
 ·have:=dX (P:=ah) (T:=123) (b:=b) (off:=off) (cap:=cap) (n:=l.length) (k:=.i64) (i:=(i:Int)) (w:=W) amZ LO om om;rw[amK,anC] at this;exact this
 ·obtain⟨g,c,d,he,f⟩:=bY (a.now e) om;cases he;refine aB aU (f i _ ?_);rw[D7 hi,amI,amN hi];rfl
section
variable {w:ao}{PK:PKT}{S:Nat->Prop}{w0:ao}{L T:List Ent}
theorem YD {ms new:List bt}{b:Nat}{N:VWP}(f:ms.length<=10000000)(d:new.length<=2)(a:OwnS S w0 W (.cells b (new.flatMap mkC) 307::mksE v' ms::T))(k:∀v2 c,OwnS S w0 c (mksE v2 (ms++new)::T)->N v2 c) :
  DoX ah (mB .append #[304,304] 304 #[au,au] #[v',.slice (ax ⟨b,0,aw⟩) new.length new.length]) W PK N:=by
 refine bR 1 auB elMk dc a rfl (a.sl 0 rfl 3 new.length new.length (by rw[Eng.uJ TY])) Z4 om om λv2 e a=>?_;refine k v2 e ?_;unfold mksE;rw[apL,amC];exact a.tail
theorem m_mk {a c:Nat}:DoX ah (aS 307 #[(0,.int .i64 (a:Int)),(1,.int .i64 (b:Int)),(2,.int .i64 (c:Int))]) W PK K=K (mkV (a,b,c)) W:=aD krx
theorem agW {ms:List bt}{n:Nat}{N1:List aq->ao->Prop}{K:Ending->ao->Prop}(G:SlA M.A M.w v 1 l.length (aV l))(hi:i < l.length)(d:l[i] < 16)(y:1<=n)(H:n<=1000000)(I:ms.length<=1000000)(z:il [] ms)(q:eh [] ms=l.take i)(e:OwnS S w0 W [mksE v' ms,.mem M])
  (emit:∀(W:ao) (v2:aq) (new:List bt) (f:Nat),1<=f->f<=n->il [] (ms++new)->eh [] (ms++new)=l.take i++List.replicate f l[i]->OwnS S w0 W [mksE v2 (ms++new),.mem M]->eF v2 (.int .i64 (i:Int)) (.int .i64 (f:Int)) W N1 K) :
  JoinX (λu=>
 DoX ah (mIA 123 v (.int .i64 (i:Int))) W (pk K) λt42 W=>
 DoX ah (aH 3 t42) W (pk K) λt43 W=>
 DoX ah (mEq .eql 3 (.tmp 43) (.const (.int .i64 0)) t43 (.int .i64 0)) W (pk K) λt44 W=>
 GDo t44 av (λE=>E (.int .i64 (n:Int)) W) W λt46 W=>
 GDo t44 av (λE=>DoX ah (mBin .geq 3 t46 (.int .i64 11)) W (pk K) E) W λt47 W=>
 DoX ah (lC t44 t47 (.bool au)) W (pk K) λt48 W=>
 IfX t48 (DoX ah (mB .min #[3,3] 3 #[au,av] #[(.int .i64 (n:Int)),(.int .i64 138)]) W (pk K) λt50 W=>
 DoX ah (mBin .sub 3 t50 (.int .i64 11)) W (pk K) λt53 W=>
 DoX ah (aS 307 #[(0,(.int .i64 18)),(1,t53),(2,(.int .i64 7))]) W (pk K) λt54 W=>
 DoX ah (bN 304 1 #[(0,t54)]) W (pk K) λt55 W=>
 DoX ah (mB .append #[304,304] 304 #[au,au] #[v',t55]) W (pk K) λt56 W=>
 u [t56,t50] W) (DoX ah (mIA 123 v (.int .i64 (i:Int))) W (pk K) λt60 W=>
 DoX ah (aH 3 t60) W (pk K) λt61 W=>
 DoX ah (mEq .eql 3 (.tmp 61) (.const (.int .i64 0)) t61 (.int .i64 0)) W (pk K) λt62 W=>
 GDo t62 av (λE=>E (.int .i64 (n:Int)) W) W λt64 W=>
 GDo t62 av (λE=>DoX ah (mBin .geq 3 t64 (.int .i64 3)) W (pk K) E) W λt65 W=>
 DoX ah (lC t62 t65 (.bool au)) W (pk K) λt66 W=>
 IfX t66 (DoX ah (mBin .sub 3 (.int .i64 (n:Int)) (.int .i64 3)) W (pk K) λt69 W=>
 DoX ah (aS 307 #[(0,(.int .i64 17)),(1,t69),(2,(.int .i64 3))]) W (pk K) λt70 W=>
 DoX ah (bN 304 1 #[(0,t70)]) W (pk K) λt71 W=>
 DoX ah (mB .append #[304,304] 304 #[au,au] #[v',t71]) W (pk K) λt72 W=>
 u [t72,(.int .i64 (n:Int))] W) (DoX ah (mBin .geq 3 (.int .i64 (n:Int)) (.int .i64 4)) W (pk K) λt75 W=>
 IfX t75 (DoX ah (mB .min #[3,3] 3 #[au,av] #[(.int .i64 (n:Int)),(.int .i64 7)]) W (pk K) λt77 W=>
 DoX ah (mIA 123 v (.int .i64 (i:Int))) W (pk K) λt81 W=>
 DoX ah (aH 3 t81) W (pk K) λt82 W=>
 DoX ah (aS 307 #[(0,t82),(1,(.int .i64 0)),(2,(.int .i64 0))]) W (pk K) λt83 W=>
 DoX ah (mBin .sub 3 t77 (.int .i64 4)) W (pk K) λt85 W=>
 DoX ah (aS 307 #[(0,(.int .i64 16)),(1,t85),(2,(.int .i64 2))]) W (pk K) λt86 W=>
 DoX ah (bN 304 2 #[(0,t83),(1,t86)]) W (pk K) λt87 W=>
 DoX ah (mB .append #[304,304] 304 #[au,au] #[v',t87]) W (pk K) λt88 W=>
 u [t88,t77] W) (DoX ah (mIA 123 v (.int .i64 (i:Int))) W (pk K) λt34 W=>
 DoX ah (aH 3 t34) W (pk K) λt35 W=>
 DoX ah (aS 307 #[(0,t35),(1,(.int .i64 0)),(2,(.int .i64 0))]) W (pk K) λt36 W=>
 DoX ah (bN 304 1 #[(0,t36)]) W (pk K) λt37 W=>
 DoX ah (mB .append #[304,304] 304 #[au,au] #[v',t37]) W (pk K) λt38 W=>
 u [t38,(.int .i64 1)] W)))) (λr W=>∀_:Sg,eF (r.getD 0 undef) (.int .i64 (i:Int)) (r.getD 1 undef) W N1 K):=by
 obtain⟨p,k,j⟩:=Um G hi;have one:∀m:bt,fy (l.take i) m->il [] (ms++[m])∧eh [] (ms++[m])=ev (l.take i) m:=λm hm=>⟨qd z (by rw[q];exact hm),by rw[uv,q]⟩;generalize l[i]=c at d j emit;refine join λJ L=>?_;have go:∀(W:ao) (v2:aq) (f:Nat),eF v2 (.int .i64 (i:Int)) (.int .i64 (f:Int)) W N1 K->J [v2,.int .i64 (f:Int)] W:=λW v2 f h=>L _ _ λ_=>h;have o:=e.hasM 1 rfl;refine aD (k W) |>.mpr (aD (j W o) |>.mpr ?_);simp only[rs];have g:∀(m:bt) (f:Nat) (W:ao),1<=f->f<=n->fy (l.take i) m->ev (l.take i) m=l.take i++List.replicate f c->OwnS S w0 W [mksE v' ms,.mem M]->∀PK:PKT,
   DoX ah (bN 304 1 #[(0,mkV m)]) W PK λt W=>DoX ah (mB .append #[304,304] 304 #[au,au] #[v',t]) W PK λt W=>J [t,.int .i64 (f:Int)] W:=by
  intro m f W N O C x e PK;refine bA (λb=>.slice (ax ⟨b,0,aw⟩) 1 1) (mkC m) 307 (λ_=>by kernel_rfl) e λD F e=>?_;have e:OwnS S w0 F [.cells D ([m].flatMap mkC) 307,mksE v' ms,.mem M]:=by
   rw[aqM];exact e
  refine YD (new:=[m]) om sm e λv2 w2 e=>?_;obtain⟨a,b⟩:=one m C;exact go _ _ _ (emit w2 v2 [m] f N O a (by rw[b,x]) e)
 have i11:∀m:Nat,dn 18+m=11+m:=λ_=>rfl;have i3:∀m:Nat,dn 17+m=3+m:=λ_=>rfl;have last:(∀PK:PKT,DoX ah (bN 304 1 #[(0,mkV (c,0,0))]) W PK λt W=>DoX ah (mB .append #[304,304] 304 #[au,au] #[v',t]) W PK λt W=>J [t,.int .i64 ((1:Nat):Int)] W):=
  g (c,0,0) 1 W om y (by unfold fy;rw[amB d];exact⟨rfl,rfl⟩) (by rw[we _ d];rfl) e
 have fourth:4<=n->∀PK:PKT,DoX ah (bN 304 2 #[(0,mkV (c,0,0)),(1,mkV (16,min n 7 - 4,2))]) W PK λt W=>DoX ah (mB .append #[304,304] 304 #[au,au] #[v',t]) W PK λt W=>J [t,.int .i64 ((min n 7:Nat):Int)] W:=by
  intro x PK;refine bA (λb=>.slice (ax ⟨b,0,aw⟩) 2 2) (mkC (c,0,0)++mkC (16,min n 7 - 4,2)) 307 (λ_=>by kernel_rfl) e λD F e=>?_;refine YD (new:=[(c,0,0),(16,min n 7 - 4,2)]) om sm e λv2 w2 e=>?_;have P:fy (l.take i) (c,0,0):=by unfold fy;rw[amB d];exact⟨rfl,rfl⟩
  obtain⟨Q,B⟩:=one _ P;rw[we _ d] at B;have R:fy (eh [] (ms++[(c,0,0)])) (16,min n 7 - 4,2):=by
   rw[B];unfold fy;rw[amA (show ¬(16:Nat) < 16 by decide)];refine⟨show (16:Nat)<=18 by decide,rfl,by show min n 7 - 4 < 4;omega,λ_=>by simp⟩
  have a2:=qd Q R;have b2:=uv [] (ms++[(c,0,0)]) (16,min n 7 - 4,2);rw[B,yf,show 4+(min n 7 - 4)=min n 7 by omega] at b2;rw[amM] at a2 b2;exact go _ _ _ (emit w2 v2 _ (min n 7) om om a2 b2 e)
 have T:min (n:Int) 7=((min n 7:Nat):Int):=om
 have s:min (n:Int) 138=((min n 138:Nat):Int):=om
 by_cases U:c=0
 ·subst U;simp only[show ai (((0:Nat):Int)=0)=av from rfl,rs];by_cases V:11<=n
  ·simp only[show ai ((11:Int)<=(n:Int))=av from amG om,i_t,rs];rw[Ie,s];simp only[rs];rw[aA om om,show ((min n 138:Nat):Int) - 11=((min n 138 - 11:Nat):Int) by omega];refine (m_mk (a:=18) (b:=min n 138 - 11) (c:=7)).mpr ?_;refine g (18,min n 138 - 11,7) (min n 138) W om om ?_ ?_ e _
   ·unfold fy;rw[amA (show ¬(18:Nat) < 16 by decide)];exact⟨show (18:Nat)<=18 by decide,rfl,by show min n 138 - 11 < 128;omega,λh=>absurd h (show ¬(18:Nat)=16 by decide)⟩
   ·have:=mm (l.take i) 18 (min n 138 - 11) (.inr rfl);rw[i11,show 11+(min n 138 - 11)=min n 138 by omega] at this;exact this
  ·simp only[show ai ((11:Int)<=(n:Int))=au from amE om,i_f,rs];refine aD (k W) |>.mpr (aD (j W o) |>.mpr ?_);simp only[show ai (((0:Nat):Int)=0)=av from rfl,rs];by_cases C:3<=n
   ·simp only[show ai ((3:Int)<=(n:Int))=av from amG om,i_t,rs];rw[aA om om,show (n:Int) - 3=((n - 3:Nat):Int) by omega];refine (m_mk (a:=17) (b:=n - 3) (c:=3)).mpr ?_;refine g (17,n - 3,3) n W om om ?_ ?_ e _
    ·unfold fy;rw[amA (show ¬(17:Nat) < 16 by decide)];exact⟨show (17:Nat)<=18 by decide,rfl,by show n - 3 < 8;omega,λh=>absurd h (show ¬(17:Nat)=16 by decide)⟩
    ·have:=mm (l.take i) 17 (n - 3) (.inl rfl);rw[i3,show 3+(n - 3)=n by omega] at this;exact this
   ·simp only[show ai ((3:Int)<=(n:Int))=au from amE om,i_f,rs];simp only[show ai ((4:Int)<=(n:Int))=au from amE om,i_f,rs];refine aD (k W) |>.mpr (aD (j W o) |>.mpr ?_);refine (m_mk (a:=0) (b:=0) (c:=0)).mpr ?_;exact last _
 ·simp only[show ai ((c:Int)=0)=au from amE om,i_f,rs];refine aD (k W) |>.mpr (aD (j W o) |>.mpr ?_);simp only[show ai ((c:Int)=0)=au from amE om,i_f,rs];by_cases x:4<=n
  ·simp only[show ai ((4:Int)<=(n:Int))=av from amG om,i_t,rs];rw[Ie,T];refine aD (k W) |>.mpr (aD (j W o) |>.mpr ?_);refine (m_mk (a:=c) (b:=0) (c:=0)).mpr ?_;simp only[rs];rw[aA om om,show ((min n 7:Nat):Int) - 4=((min n 7 - 4:Nat):Int) by omega];refine (m_mk (a:=16) (b:=min n 7 - 4) (c:=2)).mpr ?_;exact fourth x _
  ·simp only[show ai ((4:Int)<=(n:Int))=au from amE om,i_f,rs];refine aD (k W) |>.mpr (aD (j W o) |>.mpr ?_);refine (m_mk (a:=c) (b:=0) (c:=0)).mpr ?_;exact last _
end
theorem Rq (l:List Nat)(v:aq)(M:Mem)(w:ao)(G:M.has w)(g:SlA M.A M.w v 1 l.length (aV l))(R:l.length<=1000000)(s:∀x∈l,x<=15) :
  RetM ah 300 #[v] M w (λr N=>∃ms:List bt,il [] ms∧eh [] ms=l∧r.oneCell'=av∧SlA N.A N.w r 3 ms.length (ms.flatMap mkC)):=by
 refine bB G λK I=>DG ?_;unfold yZ nz;have b:OwnS M.A w w [.mem M]:=OwnS.memS G;have b:OwnS M.A w w [.urow 307 3 nilS 0 [],.mem M]:=OwnS.nilU (L:=[.mem M]) b _ _;refine loop (λvs W=>∃(i:Nat) (v':aq) (ms:List bt),vs=[v',.int .i64 (i:Int)]∧i<=l.length∧il [] ms∧eh [] ms=l.take i∧OwnS M.A w W [mksE v' ms,.mem M]) (λvs _=>l.length - n1 vs) ⟨0,nilS,[],rfl,om,trivial,rfl,b⟩ ?_;clear b;rintro vs J ⟨i,v',ms,rfl,hi,k,c,b⟩ _;simp only[rO,gd,nz];rw[bD amZ (g.now (b.hasM 1 rfl))];simp only[rs];have m:=lz ms [];rw[c,amL] at m;simp only[aqB,amO] at m;by_cases o:(i:Int) < (l.length:Int)
 case neg=>
  simp only[o,amF,i_f];have t:i=l.length:=om
  subst t;rw[aoA] at c;have u:=cQ (b.at_ 0 rfl);obtain⟨N1,g1,y,b⟩:=OwnS.bI (L:=[.mem M]) b 0 rfl;exact I _ _ N1 _ 0 b rfl g1 ⟨ms,k,c,u,y⟩
 simp only[o,amD,i_t];have d:i < l.length:=om
 obtain⟨S,z,B⟩:=Um g d;have p:=s _ (amR d);have C:l.getD i 0=l[i]:=by rw[amI,amN d];rfl
 refine loop (λvs W=>∃n:Nat,vs=[.int .i64 (n:Int)]∧1<=n∧i+n<=l.length∧(∀j,j < n->l.getD (i+j) 0=l[i])∧OwnS M.A w W [mksE v' ms,.mem M]) (λvs _=>l.length+1 - n0 vs) ⟨1,rfl,om,om,λj H=>by rw[show j=0 by omega];exact C,b⟩ ?_;clear b;rintro vs w2 ⟨n,rfl,D,O,e,b⟩ _;simp only[rT,gd,nz];have emit:∀(W:ao) (v2:aq) (new:List bt) (f:Nat),1<=f->f<=n->il [] (ms++new)->eh [] (ms++new)=l.take i++List.replicate f l[i]->OwnS M.A w W [mksE v2 (ms++new),.mem M]->eF v2 (.int .i64 (i:Int)) (.int .i64 (f:Int)) W (Rb (λvs W=>∃(i:Nat) (v':aq) (ms:List bt),vs=[v',.int .i64 (i:Int)]∧i<=l.length∧il [] ms∧eh [] ms=l.take i∧OwnS M.A w W [mksE v' ms,.mem M]) (λvs _=>l.length - n1 vs) [v',.int .i64 (i:Int)] J) K:=by
  intro W v2 new f T U P Q b;simp only[eF,rs,nz];rw[aA om om];refine aY ⟨i+f,v2,ms++new,by congr 2,om,P,?_,b⟩ (by simp[n1,RowKit.intOf];omega);rw[Q,wc f om λj H=>e j om]
 have stop:=λ(W:ao) (b:OwnS M.A w W [mksE v' ms,.mem M])=>agW g d (Nat.lt_succ_of_le p) D om om k c b emit;refine dW (λW=>OwnS M.A w W [mksE v' ms,.mem M]) b.drew ?_;refine pJ ?_;rw[aA om om,show (i:Int)+(n:Int)=((i+n:Nat):Int) by omega];refine q_at (.int .i64 (l.length:Int)) (λW h=>?_) (NO ?_)
 ·obtain⟨_,a,cap,rfl,_⟩:=g.1;exact Jq amZ
 by_cases q:i+n < l.length
 case neg=>
  rw[amE (show ¬((i+n:Nat):Int) < (l.length:Int) by omega)];simp only[gq];refine q_pf ?_;intro w3 b;simp only[i_f];exact stop w3 b
 rw[amG (show ((i+n:Nat):Int) < (l.length:Int) by omega)];simp only[gq];obtain⟨V,E,F⟩:=Um g q;refine pJ ?_;rw[aA om om,show (i:Int)+(n:Int)=((i+n:Nat):Int) by omega];refine q_do _ E (q_at _ (λW h=>F W (h.hasM 1 rfl)) ?_);refine q_do _ z (q_at _ (λW h=>B W (h.hasM 1 rfl)) (q_eq (q_pt ?_)));intro w3 b;by_cases he:l[i+n]=l[i]
 ·rw[amG (show ((l[i+n]:Nat):Int)=((l[i]:Nat):Int) by omega)];simp only[i_t,rs];rw[aA om om];refine aY ⟨n+1,rfl,om,om,λj H=>?_,b⟩ (by simp[n0,RowKit.intOf];omega);rcases anE j n with h|h
  ·exact e j h
  ·rw[show j=n by omega,amI,amN q];exact he
 ·rw[amE (show ¬((l[i+n]:Nat):Int)=((l[i]:Nat):Int) by omega)];simp only[i_f];exact stop w3 b
def ordV:Value:=.agg (aV cd).toArray
theorem agS:aggN ah 308=ax 19:=krx
theorem alY:(Tryz.prog.info? 308).map (·.size)=ax 19:=krx
theorem Nu (w:ao):Ret ah 301 #[] w (λv w'=>v=ordV∧Below w.heap.size w w'):=by
 refine aZ λK c=>BJ ?_;unfold uQ nz;refine bA (λb=>.pointer (ax ⟨b,0,aw⟩)) (List.replicate 19 (.int .i64 0)) 308 (λ_=>by kernel_rfl) (Own.start w) λb d a=>?_;have e:∀W:ao,(aS 308 #[(0,(.int .i64 16)),(1,(.int .i64 17)),(2,(.int .i64 18)),(3,(.int .i64 0)),(4,(.int .i64 8)),(5,(.int .i64 7)),(6,(.int .i64 9)),(7,(.int .i64 6)),(8,(.int .i64 10)),(9,(.int .i64 5)),(10,(.int .i64 11)),(11,(.int .i64 4)),(12,(.int .i64 12)),(13,(.int .i64 3)),(14,(.int .i64 13)),(15,(.int .i64 2)),(16,(.int .i64 14)),(17,(.int .i64 1)),(18,(.int .i64 15))]).run ah W=.ok (.value ordV) W:=λW=>by kernel_rfl
 refine aD (e d) |>.mpr ?_;refine xR 0 a rfl (new:=aV cd) alY CP (by show 0+19<=19;omega) λw2 a=>?_;exact iA (bJ (a.agg (cs:=aV cd) 0 rfl agS)) (c _ _ ⟨rfl,a.done⟩)
theorem aeR (hi:i < 19)(W:ao):(mIx 308 ordV (.int .i64 (i:Int))).run ah W=.ok (.value (.int .i64 ((cd.getD i 0:Nat):Int))) W:=by
 rcases lt19 hi with rfl|rfl|rfl|rfl|rfl|rfl|rfl|rfl|rfl|rfl|rfl|rfl|rfl|rfl|rfl|rfl|rfl|rfl|rfl<;>kernel_rfl
end
section
open Eng Go.RowKit
theorem qh:∀{l:List bt} {acc:List Nat},il acc l->∀m∈l,m.1<=18∧m.2.1 < 2 ^ m.2.2∧m.2.2<=7
|m::l,acc,h,x,b=>by
  rcases amH.1 b with rfl|b
  ·have a:=h.1;unfold fy at a;by_cases c:x.1 < 16
   ·rw[amB c] at a;rw[a.1,a.2];exact⟨om,dc,dc⟩
   ·rw[amA c] at a;refine⟨a.1,a.2.2.1,?_⟩;rw[a.2.1];unfold cm;split
    ·decide
    ·split<;>decide
  ·exact qh h.2 x b
theorem wg {cl:List Nat}(a:∀x∈cl,x<=15):∀{l:List bt},(∀m∈l,m.2.2<=7)->(fq cl l).length<=22*l.length
|[],_=>amJ _
|m::l,h=>by
  have d:=h m (anQ ..);have b:=wg a (l:=l) λy c=>h y (anA _ c);have f:cl.getD m.1 0<=15:=im a dc _;unfold fq at b ⊢;rw[aoR,amC,amW];have e:(jv cl m).length=cl.getD m.1 0+m.2.2:=by
   unfold jv;rw[amC,ez,bp]
  omega
theorem N0 (cl:List Nat)(l:List bt)(m:bt):fq cl (l++[m])=fq cl l++dh cl m.1++bf m.2.1 m.2.2:=by
 unfold fq;rw[apL,aqM,amM];rfl
def fp (cl:List Nat)(k:Nat):List Nat:=(List.range k).map λi=>cl.getD (cd.getD i 0) 0
theorem qi (cl:List Nat)(k:Nat):(fp cl k).length=k:=by simp[fp]
theorem wh {k:Nat}(h:i < k):(fp cl k).getD i 0=cl.getD (cd.getD i 0) 0:=by
 rw[amI];simp[fp,h]
theorem OF (cl:List Nat)(k:Nat):fp cl (k+1)=fp cl k++[cl.getD (cd.getD k 0) 0]:=by
 unfold fp;rw[arO,anN];rfl
abbrev mkE (b:Nat)(m:bt):Ent:=.cells b (mkC m) 307
theorem mkAt {l:List bt}(a:SlA M.A M.w v 3 l.length (l.flatMap mkC))(hi:i < l.length) :
  ∃p,(∀W,(mIA 304 v (.int .i64 (i:Int))).run ah W=.ok (.value (.pointer (ax p))) W)∧∀W,M.has W->(aH 307 (.pointer (ax p))).run ah W=.ok (.value (mkV l[i])) W:=by
 obtain⟨b,off,cap,rfl,_⟩:=bY a.1 om;refine⟨⟨b,off+i*3,aw⟩,λW=>?_,λW e=>?_⟩
 ·have:=dX (P:=ah) (T:=304) (b:=b) (off:=off) (cap:=cap) (n:=l.length) (k:=.i64) (i:=(i:Int)) (w:=W) auB szMk om om;rw[amK] at this;exact this
 ·obtain⟨h,c,d,he,f⟩:=bY (a.now e) om;cases he;refine aW (AtV.agg ajK (cs:=mkC l[i]) rfl λj u g=>?_);rw[aoS];exact f _ _ (Eng.qK TY hi g)
section
variable {w:ao}{PK:PKT}{K:VWP}{S:Nat->Prop}{w0:ao}{L T:List Ent}
theorem afA (a:OwnS S w0 w L)(k:∀b w',OwnS S w0 w' (mkE b (0,0,0)::L)->K (.pointer (ax ⟨b,0,aw⟩)) w'):DoX ah (iH 307) w PK K:=
 bA (λb=>.pointer (ax ⟨b,0,aw⟩)) (mkC (0,0,0)) 307 (λ_=>by kernel_rfl) a k
theorem YU (j:Nat){x y:bt}(a:OwnS S w0 w L)(hi:L[j]?=ax (mkE b x))(k:∀w',OwnS S w0 w' (L.set j (mkE b y))->K undef w') :
  DoX ah (aN 307 (.pointer (ax ⟨b,0,aw⟩)) (mkV y)) w PK K:=xR j a hi (new:=mkC y) szMk VK (by show 0+3<=3;omega) k
theorem mk_0 (a:OwnS S w0 w L)(j:Nat){x:bt}(hi:L[j]?=ax (mkE b x)):DoX ah (aH 3 (.pointer (ax ⟨b,0+0,aw⟩))) w PK K=K (.int .i64 (x.1:Int)) w:=aJ aU (a.cell j hi 0 rfl)
theorem mk_1 (a:OwnS S w0 w L)(j:Nat){x:bt}(hi:L[j]?=ax (mkE b x)):DoX ah (aH 3 (.pointer (ax ⟨b,0+1,aw⟩))) w PK K=K (.int .i64 (x.2.1:Int)) w:=aJ aU (a.cell j hi 1 rfl)
theorem mk_2 (a:OwnS S w0 w L)(j:Nat){x:bt}(hi:L[j]?=ax (mkE b x)):DoX ah (aH 3 (.pointer (ax ⟨b,0+2,aw⟩))) w PK K=K (.int .i64 (x.2.2:Int)) w:=aJ aU (a.cell j hi 2 rfl)
end
theorem qj (counts:List Nat):(da counts).length<=counts.length:=by
 unfold da;have:=atP (λs=>ai (0 < counts.getD s 0)) (List.range counts.length)
 rwa [atQ] at this
theorem acV {K:Ending->ao->Prop}{sa sb mv iv:aq}{q g tt:Nat}{ps:List bj}{f D a b lc:List Nat}{ms:List bt}{ka kb nin:Nat}
  (c:OwnS S w0 W [.cells q (prC g tb) 296,.mem N]) (b4:TbW N.A N.w g f) (b5:TbW N.A N.w tb D) (b6:TbW N.A N.w tt lc) (b7:f=a++List.replicate ka 0) (b8:D=b++List.replicate kb 0)
  (b9:bh f=0) (c0:bh D=0) (c1:bh lc=0) (d:∀x∈f,x<=15) (r:∀x∈D,x<=15) (I:∀x∈lc,x<=7) (j3:lc.length=19)
  (j4:257<=a.length) (h5:a.length<=286) (j5:1<=b.length) (h6:b.length<=30) (hk:4<=nin) (j6:nin<=19) (h0:∀i,nin<=i->i < 19->lc.getD (cd.getD i 0) 0=0)
  (c2:SlA N.A N.w sa 1 a.length (aV a)) (c3:SlA N.A N.w sb 1 b.length (aV b)) (E:SlA N.A N.w iv 1 (fp lc nin).length (aV (fp lc nin))) (J:SlA N.A N.w mv 3 ms.length (ms.flatMap mkC)) (c4:SlA N.A N.w pv 3 ps.length (ps.flatMap ptC))
  (c5:∀m∈ms,0 < lc.getD m.1 0) (c6:il [] ms) (c7:eh [] ms=a++b) (L:0 < f.getD 256 0) (hh:∀x∈ps,ee f D x) (M:gu 0 ps) (c8:ps.length<=1048576)
  (k:∀W,OwnS S w0 W [.cells q (prC g tb) 296,.mem N]->K (.returned (.string ⟨(az (lg a b lc nin ms ps)).toArray⟩)) W) :
  CallX ah 287 #[] W (pk K) λt102 W=>
 CallX ah 288 #[t102,(.int .i64 1),(.int .i64 1)] W (pk K) λt104 W=>
 CallX ah 288 #[t102,(.int .i64 2),(.int .i64 2)] W (pk K) λt106 W=>
 DoX ah (mB .len #[123] 3 #[au] #[sa]) W (pk K) λt109 W=>
 DoX ah (mBin .sub 3 t109 (.int .i64 257)) W (pk K) λt110 W=>
 CallX ah 288 #[t102,t110,(.int .i64 5)] W (pk K) λt111 W=>
 DoX ah (mB .len #[123] 3 #[au] #[sb]) W (pk K) λt114 W=>
 DoX ah (mBin .sub 3 t114 (.int .i64 1)) W (pk K) λt115 W=>
 CallX ah 288 #[t102,t115,(.int .i64 5)] W (pk K) λt116 W=>
 DoX ah (mB .len #[123] 3 #[au] #[iv]) W (pk K) λt119 W=>
 DoX ah (mBin .sub 3 t119 (.int .i64 4)) W (pk K) λt120 W=>
 CallX ah 288 #[t102,t120,(.int .i64 4)] W (pk K) λt121 W=>
 DoX ah (mB .len #[123] 3 #[au] #[iv]) W (pk K) λt123 W=>
 LoopX [(.int .i64 0)] W (λc9 W N3=>∀_:Sg,pB pv (.pointer (ax ⟨q,0,aw⟩)) mv (.pointer (ax ⟨tt,0,aw⟩)) t102 iv t123 (c9.getD 0 undef) W N3 K):=by
 have O:=qi lc nin;have e:∀x∈lc,x<=15:=λx hx=>apG (I x hx) dc;have P:=qh c6;have Q:=lz ms [];rw[c7,amC] at Q;simp only[aqB,amO] at Q;refine St c λwb w7 c=>?_;refine nL (x:=1) (n:=1) c (λb hb=>by cases hb) (.inl rfl) om dc sm λh7 v1 w8 e0 c=>?_;rw[anV] at c;have R:=dr 1 1;refine nL (x:=2) (n:=2) c R e0 om dc (by rw[bp];decide) λh8 v2 w9 e1 c=>?_;have T:=br R (dr 2 2);rw[bD amZ (c2.now (c.hasM 3 rfl))];simp only[rs];rw[aA om om,show (a.length:Int) - 257=((a.length - 257:Nat):Int) by omega];refine nL (n:=5) c T e1 om om (by simp[bp]) λU v3 j7 V c=>?_;have X:=br T (dr (a.length - 257) 5);rw[bD amZ (c3.now (c.hasM 3 rfl))]
 try simp only[rs]
 rw[aA om om,show (b.length:Int) - 1=((b.length - 1:Nat):Int) by omega];refine nL (n:=5) c X V om om (by simp[bp]) λh9 v4 j8 e2 c=>?_;have Y:=br X (dr (b.length - 1) 5);rw[bD amZ (E.now (c.hasM 3 rfl)),O]
 try simp only[rs]
 rw[aA om om,show (nin:Int) - 4=((nin - 4:Nat):Int) by omega];refine nL (n:=4) c Y e2 om om (by simp[bp]) λs v5 e3 Z c=>?_;have F:=br Y (dr (nin - 4) 4);rw[bD amZ (E.now (c.hasM 3 rfl)),O];have e4:(bf 1 1++bf 2 2++bf (a.length - 257) 5++bf (b.length - 1) 5++bf (nin - 4) 4).length=17:=by simp[bp]
 have hB:bf 1 1++bf 2 2++bf (a.length - 257) 5++bf (b.length - 1) 5++bf (nin - 4) 4++ib lc nin++fq lc ms++cy f D ps=lg a b lc nin ms ps:=by
  rw[b7,b8,E0];unfold lg;simp only[amM]
 generalize bf 1 1++bf 2 2++bf (a.length - 257) 5++bf (b.length - 1) 5++bf (nin - 4) 4=B at c e4 hB F;refine loop (λvs W=>∃(i:Nat) (way:Int) (v:aq),vs=[.int .i64 (i:Int)]∧i<=nin∧(way=0∨way=1)∧OwnS S w0 W (Wr wb way (B++ib lc i) v [.cells q (prC g tb) 296,.mem N])) (λvs _=>nin - n0 vs) ⟨0,s,v5,rfl,om,Z,by show OwnS S w0 e3 (Wr wb s (B++[]) v5 _);rw[amY];exact c⟩ ?_;clear c Z;rintro vs G ⟨i,way,v,rfl,hi,hw,c⟩ _;simp only[pB,gd,rs,nz];have j0:=ma lc i;by_cases a1:(i:Int) < (nin:Int)
 ·simp only[a1,amD,i_t];obtain⟨p,ia,ld⟩:=Um E (i:=i) om;refine aD (ia G) |>.mpr (aD (ld G (c.hasM 3 rfl)) |>.mpr ?_);have e5:(fp lc nin)[i]'(om)=lc.getD (cd.getD i 0) 0:=by
   have:=wh (cl:=lc) (k:=nin) (i:=i) om;rw[amI,amN om] at this;exact this
  rw[e5];have hle:lc.getD (cd.getD i 0) 0<=7:=im I dc _;refine nL (n:=3) c (br F (qf _ _)) hw om om (by rw[amC];omega) λa6 v6 j9 e6 c=>?_;rw[amM,<-qe] at c
  try simp only[rs]
  rw[aA om om];exact aY ⟨i+1,a6,v6,rfl,om,e6,c⟩ (by simp[n0,RowKit.intOf];omega)
 simp only[a1,amF,i_f];have e7:i=nin:=om
 subst e7;rw[bD auB (J.now (c.hasM 3 rfl))];have a7:=br F (qf lc i);have e8:(B++ib lc i).length<=100:=by rw[amC];omega
 generalize B++ib lc i=H at c a7 e8 hB;refine loop (λvs W=>∃(j:Nat) (way:Int) (v:aq),vs=[.int .i64 (j:Int)]∧j<=ms.length∧(way=0∨way=1)∧OwnS S w0 W (Wr wb way (H++fq lc (ms.take j)) v [.cells q (prC g tb) 296,.mem N])) (λvs _=>ms.length - n0 vs) ⟨0,way,v,rfl,om,hw,by show OwnS S w0 G (Wr wb way (H++[]) v _);rw[amY];exact c⟩ ?_;clear c hw;rintro vs a8 ⟨j,way,v,rfl,hj,hw,c⟩ _;simp only[xU,gd,rs,nz];have t:=wg e (l:=ms.take j) λm hm=>(P m (aoO hm)).2.2;rw[amL,anL hj] at t;have h:=br a7 (uw lc (ms.take j));by_cases z:(j:Int) < (ms.length:Int)
 ·simp only[z,amD,i_t];have o:j < ms.length:=om
  obtain⟨p,ia,ld⟩:=mkAt J o;refine aD (ia a8) |>.mpr (aD (ld a8 (c.hasM 3 rfl)) |>.mpr ?_);have b0:=P _ (amR o);have b1:=c5 _ (amR o);have b2:ms.take (j+1)=ms.take j++[ms[j]]:=anH o;generalize ms[j]=m at b0 b1 b2;refine afA c λxb k0 c=>?_;refine YU (y:=m) 0 c rfl λb3 c=>?_;have c:OwnS S w0 b3 ([mkE xb m]++(Wr wb way (H++fq lc (ms.take j)) v []++[.cells q (prC g tb) 296,.mem N])):=c;have c:OwnS S w0 b3 (Wr wb way (H++fq lc (ms.take j)) v (mkE xb m::[.cells q (prC g tb) 296,.mem N])):=c.front;rw[aO YP,mk_0 c 2 rfl];refine Ca (jm:=2) (i:=m.1) c rfl b6 c1 e b1 h hw (by rw[amC];omega) λj1 v8 k1 e9 c=>?_;have h1:lc.getD m.1 0<=15:=im e dc _;rw[aO afB,mk_1 c 2 rfl,aO afH,mk_2 c 2 rfl];refine nL c (br h (km _ _)) e9 om b0.2.1 (by simp only[amC,ez];omega) λC v9 h2 h3 c=>?_
  try simp only[rs]
  rw[aA om om];refine aY ⟨j+1,C,v9,rfl,om,h3,?_⟩ (by simp[n0,RowKit.intOf];omega);rw[b2,N0,<-amM,<-amM];have c:OwnS S w0 h2 ((Wr wb C (H++fq lc (ms.take j)++dh lc m.1++bf m.2.1 m.2.2) v9 [])++([mkE xb m]++[.cells q (prC g tb) 296,.mem N])):=c;exact c.front.tail
 simp only[z,amF,i_f];have h4:j=ms.length:=om
 subst h4;rw[aoA] at c h t;refine aD (aW (AtV.agg acO (cs:=prC g tb) rfl λj u hj=>by rw[amO];exact c.cell 2 rfl j hj)) |>.mpr ?_;refine Qy (jm:=1) c rfl b4 b5 b9 c0 d r L c4 hh M c8 h hw (by rw[amC];omega) λU v3 k2 V c=>?_;rw[hB] at c;have j2:=nv d r (l:=ps) λx hx=>lj M x hx;have h1:f.getD 256 0<=15:=im d dc _;have k3:(lg a b lc i ms ps).length=H.length+(fq lc ms).length+((ps.flatMap (ei f D)).length+f.getD 256 0):=by
  rw[<-hB,amC,amC];unfold cy;rw[amC,ez]
 refine Ot c om om λW c=>?_;exact k W c
theorem Xz (ps:List bj)(pv:aq)(M:Mem)(w:ao)(hM:M.has w)(c0:SlA M.A M.w pv 3 ps.length (ps.flatMap ptC))(a6:gu 0 ps)(c1:ps.length<=1048576) :
  RetM ah 268 #[pv] M w (λv _=>∃R,v=.string ⟨(az R).toArray⟩∧bn R∧ig R (fg [] ps)):=by
 refine bB hM λK hK=>Fk ?_;unfold De nz;have d:OwnS M.A w w [.mem M]:=OwnS.memS hM;refine bH d 0 rfl (MS ps pv M w hM c0 a6 c1) ?_;rintro _ N1 w1 g1 ⟨va,vb,ca,cb,rfl,j0,j1,j2,j3,c2,c3,c4,c5⟩ d;simp only[ex];refine bH d 0 rfl (zP ca 15 va N1 w1 (d.hasM 0 rfl) j0 om om c4 om om (by have:=qj ca;have e:(2:Nat) ^ 15=32768:=rfl;omega)) ?_;rintro _ N2 w2 g2 ⟨N,c6,rfl,f,k8,O⟩ d;simp only[ex];refine bH d 0 rfl (zP cb 15 vb N2 w2 (d.hasM 0 rfl) (j1.le g2) om om c5 om om (by have:=qj cb;have e:(2:Nat) ^ 15=32768:=rfl;omega)) ?_;rintro _ N3 w3 g3 ⟨lb,c7,rfl,g,k9,Q⟩ d;simp only[ex];have l0:N.length=286:=by rw[f.len,j2]
 have l1:lb.length=30:=by rw[g.len,j3]
 refine bA (λb=>.pointer (ax ⟨b,0,aw⟩)) [.pointer aw,.pointer aw] 296 (λ_=>by kernel_rfl) d λs w4 d=>?_;refine bH d 1 rfl (zO N c6 N3 w4 f.le om om (d.hasM 1 rfl) (O.le g3)) ?_;rintro _ N4 w5 g4 h4 d;rw[amA (by rw[f.chk];exactλh=>h rfl)] at h4;obtain⟨t,rfl,a7⟩:=h4;simp only[ex];rw[aO LW];refine aK 0 d rfl krx rfl (by show 0+0 < 2;omega) λw6 d=>?_;refine bH d 1 rfl (zO lb c7 N4 w6 g.le om om (d.hasM 1 rfl) (Q.le g4)) ?_;rintro _ N5 w7 g5 h5 d;rw[amA (by rw[g.chk];exactλh=>h rfl)] at h5;obtain⟨tb,rfl,j4⟩:=h5;simp only[ex];rw[aO TN];refine aK 0 d rfl krx rfl (by show 0+1 < 2;omega) λw8 d=>?_;have d:OwnS M.A w w8 [.cells s (prC t tb) 296,.mem N5]:=d;have a7:=TbW.le g5 a7;have a8:=O.le (g3.trans (g4.trans g5));have b0:=Q.le (g4.trans g5);refine Dh (KY N c6 257 N5 w8 (d.hasM 1 rfl) a8 om om om) ?_;rintro sa _ ⟨⟨na,l5,c8,j5,l2,q⟩,rfl⟩;refine Dh (KY lb c7 1 N5 w8 (d.hasM 1 rfl) b0 om om om) ?_;rintro sb _ ⟨⟨nb,l6,c9,j6,l3,r⟩,rfl⟩;have B:=vv c8 j5;have I:=vv c9 j6;have e0:(N.take na).length=na:=by rw[amL];omega
 have e1:(lb.take nb).length=nb:=by rw[amL];omega
 have C:∀x∈N.take na,x<=15:=λx k=>f.le x (aoO k);have D:∀x∈lb.take nb,x<=15:=λx k=>g.le x (aoO k);generalize N.take na=a at B e0 C q;generalize lb.take nb=b at I e1 D r;rw[<-e0] at q;rw[<-e1] at r;refine SL d λv0 w9 d=>?_;refine oA 0 d rfl (q.now (d.hasM 2 rfl)) CP om λv1 l7 d=>?_;refine oA 0 d rfl (r.now (d.hasM 2 rfl)) CP om λv2 e2 d=>?_;have d:OwnS M.A w e2 (.urow 3 1 v2 (a++b).length (aV (a++b))::[.cells s (prC t tb) 296,.mem N5]):=by
  rw[mS,amC];rw[amO,anV] at d;exact d
 obtain⟨N6,g6,j7,d⟩:=OwnS.bI (L:=[.cells s (prC t tb) 296,.mem N5]) d 1 rfl;refine bH d 1 rfl (Rq (a++b) v2 N6 e2 (d.hasM 1 rfl) j7 (by rw[amC];omega) (λx k=>(anF.1 k).elim (C x) (D x))) ?_;rintro mv N7 j8 g7 ⟨ms,b1,b2,l8,b4⟩ d;have d:OwnS M.A w j8 [.cells s (prC t tb) 296,.mem N7]:=d;have j9:=qh b1;have e3:=lz ms [];rw[b2,amC] at e3;simp only[aqB,amO] at e3;refine wR (n:=19) om d λgo l9 d=>?_;have hz:aV (List.replicate 19 0)=List.replicate 19 (.int .i64 0):=by simp[aV]
 rw[<-hz] at d;rw[bD auB (b4.now (d.hasM 2 rfl))];refine loop (λvs W=>∃(i:Nat) (co:List Nat),vs=[.int .i64 (i:Int)]∧i<=ms.length∧co.length=19∧(∀m∈ms.take i,0 < co.getD m.1 0)∧(∀j,co.getD j 0<=i)∧OwnS M.A w W [lrE go co,.cells s (prC t tb) 296,.mem N7]) (λvs _=>ms.length - n0 vs) ⟨0,List.replicate 19 0,rfl,om,anU,(λm hm=>by cases hm),λj=>by
  refine im (P:=λc=>c<=0) (λc hc=>?_) (amJ 0) j;rw[apP hc];exact amJ 0,d⟩ ?_
 clear d;rintro vs b5 ⟨i,co,rfl,hi,E,b6,F,d⟩ _;simp only[zE,gd,rs,nz];by_cases e4:(i:Int) < (ms.length:Int)
 ·simp only[e4,amD,i_t];have b7:i < ms.length:=om
  obtain⟨p,ia,ld⟩:=mkAt b4 b7;refine aD (ia b5) |>.mpr (aD (ld b5 (d.hasM 2 rfl)) |>.mpr ?_);have k0:=j9 _ (amR b7);have e5:ms.take (i+1)=ms.take i++[ms[i]]:=anH b7;generalize ms[i]=m at k0 e5;refine afA d λxb m0 d=>?_;refine YU (y:=m) 0 d rfl λk1 d=>?_;have d:OwnS M.A w k1 (mkE xb m::[lrE go co,.cells s (prC t tb) 296,.mem N7]):=d;rw[aO YP,mk_0 d 0 rfl];have m1:=F m.1;refine V5 1 d rfl E om om λm2 d=>?_
  try simp only[rs]
  rw[aA om om];have hg:=nx (l:=co) (j:=m.1) om;refine aY ⟨i+1,kj co m.1,rfl,om,by rw[nw];exact E,?_,λj=>by rw[hg];have:=F j;split<;>omega,d.tail⟩ (by simp[n0,RowKit.intOf];omega);rw[e5];intro x k;rw[hg];rcases anF.1 k with k|k
  ·have:=b6 x k;omega
  ·rw[anB.1 k,amB rfl];omega
 simp only[e4,amF,i_f];have b8:i=ms.length:=om
 subst b8;rw[aoA] at b6;have d:=d.toU 1 19 19 (by rw[eO,E]) (amJ _) om;rw[anC,anJ (by rw[eO];omega)] at d;obtain⟨N8,g8,e6,d⟩:=OwnS.bI (L:=[.cells s (prC t tb) 296,.mem N7]) d 1 rfl;refine bH d 1 rfl (zP co 7 _ N8 b5 (d.hasM 1 rfl) (by rw[E];exact e6) om om (qg λj=>by have:=F j;omega) om om (by have:=qj co;have e:(2:Nat) ^ 7=128:=rfl;omega)) ?_;rintro _ N9 k2 g9 ⟨lc,k3,rfl,o,l4,T⟩ d;simp only[ex];have U:lc.length=19:=by rw[o.len,E]
 refine bH d 1 rfl (zO lc k3 N9 k2 (λx k=>apG (o.le x k) dc) om om (d.hasM 1 rfl) T) ?_;rintro _ G k4 g10 e7 d;rw[amA (by rw[o.chk];exactλh=>h rfl)] at e7;obtain⟨tt,rfl,k5⟩:=e7;simp only[ex];refine aL d (Nu k4) ?_;rintro _ e8 rfl d;have d:OwnS M.A w e8 [.cells s (prC t tb) 296,.mem G]:=d;have J:=T.le g10;have d:OwnS M.A w e8 [.urow 3 1 nilS 0 [],.cells s (prC t tb) 296,.mem G]:=OwnS.nilU (L:=[.cells s (prC t tb) 296,.mem G]) d _ _;refine loop (λvs W=>∃(i:Nat) (v:aq),vs=[v,.int .i64 (i:Int)]∧i<=19∧OwnS M.A w W [.urow 3 1 v (fp lc i).length (aV (fp lc i)),.cells s (prC t tb) 296,.mem G]) (λvs _=>19 - n1 vs) ⟨0,nilS,rfl,om,d⟩ ?_;clear d;rintro vs u ⟨i,v,rfl,hi,d⟩ _;simp only[yL,gd,rs,nz];have e9:=qi lc i;by_cases V:(i:Int) < 19
 ·simp only[V,amD,i_t];have X:i < 19:=om
  have m3:=uz X;refine aD (aeR X u) |>.mpr ?_;obtain⟨p,ia,ld⟩:=Um J (i:=cd.getD i 0) om;refine aD (ia u) |>.mpr (aD (ld u (d.hasM 2 rfl)) |>.mpr ?_);have k6:∀(j:Nat) (hj:j < lc.length),lc[j]'hj=lc.getD j 0:=λj hj=>by
   rw[amI,amN hj];rfl
  rw[k6];refine uN _ d λb3 m4 d=>?_;refine oA 1 d rfl (d.sl 0 rfl 1 1 1 rfl) tD om λv' m5 d=>?_
  try simp only[rs]
  rw[aA om om];refine aY ⟨i+1,v',rfl,om,?_⟩ (by simp[n1,RowKit.intOf];omega);rw[OF,mS,amC];exact d.tail
 simp only[V,amF,i_f];have b8:i=19:=om
 subst b8;obtain⟨b9,g11,h3,d⟩:=OwnS.bI (L:=[.cells s (prC t tb) 296,.mem G]) d 1 rfl;have d:OwnS M.A w u [.cells s (prC t tb) 296,.mem b9]:=d;refine Dh (KY (fp lc 19) v 4 b9 u (d.hasM 1 rfl) h3 om om om) ?_;rintro iv _ ⟨⟨nin,h6,Y,k7,m6,Z⟩,rfl⟩;rw[e9] at Y;have hit:(fp lc 19).take nin=fp lc nin:=by
  unfold fp;rw[<-asN,List.take_range,anL Y]
 rw[hit] at Z;have z:=g6.trans (g7.trans (g8.trans (g9.trans (g10.trans g11))));have H:0 < N.getD 256 0:=f.pos 256 c2;have hh:∀x∈ps,ee N lb x:=λx k=>by
  have:=c3 x k;unfold ee at this ⊢;split
  ·rename_i h0;rw[amB h0] at this;exact f.pos _ this
  ·rename_i h0;rw[amA h0] at this;exact⟨f.pos _ this.1,g.pos _ this.2⟩
 have h7:∀i,nin<=i->i < 19->lc.getD (cd.getD i 0) 0=0:=λi h1 h2=>by
  have:=k7 i h1
  rwa [wh h2] at this
 have a1:∀m∈ms,0 < lc.getD m.1 0:=λm hm=>o.pos _ (b6 m hm);refine acV (S:=M.A) (w0:=w) (W:=u) (a:=a) (b:=b) (lc:=lc) (ms:=ms) (nin:=nin) (ps:=ps) d (TbW.le z a7) (TbW.le z j4) (TbW.le g11 k5) B I f.chk g.chk o.chk f.le g.le o.le U om om om om h6 om h7 (q.le z) (r.le z) (by rw[qi];exact Z) (b4.le (g8.trans (g9.trans (g10.trans g11)))) (c0.le (g1.trans (g2.trans (g3.trans (g4.trans (g5.trans z)))))) a1 b1 b2 H hh a6 c1 λW d=>?_;refine hK _ _ b9 _ 1 d rfl (g1.trans (g2.trans (g3.trans (g4.trans (g5.trans z))))) ⟨_,rfl,yb _ _ _ _ _ _,?_⟩;have h8:bh a=0:=by have:=f.chk;rw[B] at this;exact vt this
 have h9:bh b=0:=by have:=g.chk;rw[I] at this;exact vt this
 refine By om om om om h6 om U o.le h7 o.chk a1 b1 b2 h8 h9 C D ?_ ?_ a6
 ·have:=H;rw[B,nt] at this;exact this
 ·intro x k;have:=hh x k;unfold ee at this ⊢;rw[B,I] at this;simp only[nt] at this;exact this
end
section
open Eng Go.RowKit
theorem IZ (k:List UInt8):∀(es:List MapEntry) (a:List (List UInt8×aq)) (i j:Nat) (u:aq),es.map (λe=>(e.key,e.val))=a.map (λp=>(strK p.1,p.2))->a[j]?=ax (k,u)->(∀m,m < j->∀p,a[m]?=ax p->p.1≠k) ->
  Instr.findNow .string (strK k) es i=ax (ax (i+j,u))
|[],[],i,j,u,_,h,_=>by simp at h
|e::es,p::a,i,j,u,h,b,d=>by
  simp only[anS,arE,aqG] at h;obtain⟨⟨g,l⟩,n⟩:=h;have f:Instr.sameNow .string (strK k) e.key=ax (ai (k=p.1)):=by
   rw[g];show ax ((⟨k.toArray⟩:ByteArray)==⟨p.1.toArray⟩)=_
   congr 1
   show (k.toArray==p.1.toArray)=_;by_cases c:k=p.1<;>simp[c]
  cases j with
 |zero=>
   simp only[aqU,aqH] at b;subst b;rw[Instr.findNow,f];simp[l]
 |succ j=>
   have c:k≠p.1:=λe=>d 0 om p rfl e.symm;have o:=IZ k es a (i+1) j u n (by simpa using b) (λm hm q r=>d (m+1) om q (by simpa using r));rw[Instr.findNow,f];simp[c,o];omega
|[],_::_,_,_,_,h,_,_=>by simp at h
|_::_,[],_,_,_,h,_,_=>by simp at h
section
variable {S:Nat->Prop}{P:Program}{w w0:ao}{L:List Ent}{PK:PKT}{K:VWP}
theorem WR (i j:Nat){T k e:TypeId}{a:List (List UInt8×aq)}(z:P.underlying T=ax (.map k e))(f:P.underlying k=ax .string)(s:OwnS S w0 w L)(hi:L[i]?=ax (.map b a))(x:List UInt8)(u v:aq)(g:a[j]?=ax (x,u))
  (A:∀m,m < j->∀p,a[m]?=ax p->p.1≠x) (B:∀w',OwnS S w0 w' (L.set i (.map b (a.set j (x,v))))->K undef w'):DoX P (SU T (.map (ax b)) (strK x) v) w PK K:=by
 obtain⟨es,clock,t,h⟩:=(show Sa w b a from s.at_ i hi);have y:=IZ x es.toList a 0 j u h g A;rw[amO] at y;have c:j < es.toList.length:=by
  have:=congrArg List.length h;rw[anP,anP] at this;rw[this];exact (amS.1 g).1
 have n:j < es.size:=by simpa using c
 have o:es[j].key=strK x:=by
  have d:=congrArg (λl=>l[j]?) h;simp only[aqL,g,asE] at d;rw[amN c] at d;simp only[asE,aqH,aqG,Array.getElem_toList] at d;exact d.1
 have q:Instr.sameBits 10000 (strK x) (strK x)=true:=by
  unfold strK;rw[Instr.sameBits];show (x.toArray==x.toArray)=av;simp
 have C:(Instr.mapUpdate T (.map (ax b)) (strK x) v).run P w=.ok () { w with heap:=w.heap.setIfInBounds b (.map (es.modify j λe=>{ e with key:=strK x,val:=v }) clock) }:=by
  have D:(Instr.findKey k (strK x) es.toList).run P w=.ok (ax (j,u)) w:=by simp[Instr.findKey,run_underlying f,y]
  simp[Instr.mapUpdate,run_underlying z,getObj,setObj,Sem.run,t,pU f x,D,Instr.keyThatStays,n,o,q]
 refine BC (Gp C) (B _ ?_);refine s.put i hi (w':={ w with heap:=w.heap.setIfInBounds b _ }) ⟨rfl,rfl,rfl,sm,λk _ f=>?_⟩ (.map b (a.set j (x,v))) ?_ (λk f=>.inl f)
 ·show (w.heap.setIfInBounds b _)[k]?=_;exact aqT (λe=>f (by simp[Ent.map,e]))
 ·refine⟨es.modify j λe=>{ e with key:=strK x,val:=v },clock,?_,?_⟩
  ·show (w.heap.setIfInBounds b _)[b]?=_;exact auI (dS t)
  ·rw[Array.toList_modify];refine List.ext_getElem? λm=>?_;have d:=congrArg (λl=>l[m]?) h;simp only[aqL] at d ⊢;rw[List.getElem?_modify,List.getElem?_set];by_cases hm:j=m
   ·subst hm;rw[amN c];have r:j < a.length:=(amS.1 g).1;simp[r]
   ·simp only[amA hm];rw[<-d];cases es.toList[m]?<;>rfl
end
theorem QY (s:List UInt8)(a b most:Nat)(w:ao)(p:a < b)(r:b+most<=s.length)(t:s.length<=1048576) :
  Ret ah 319 #[strK s,.int .i64 (a:Int),.int .i64 (b:Int),.int .i64 (most:Int)] w (λv w'=>(∃n:Nat,v=.int .i64 (n:Int)∧n<=most∧(∀i,i < n->s[a+i]?=s[b+i]?)∧(n=most∨s[a+n]?≠s[b+n]?))∧Below w.heap.size w w'):=by
 refine aZ λK m=>Cr ?_;unfold yN nz;refine loop (λvs W=>∃n:Nat,vs=[.int .i64 (n:Int)]∧n<=most∧(∀i,i < n->s[a+i]?=s[b+i]?)∧Own w W []) (λvs _=>most - n0 vs) ⟨0,rfl,om,(λi h=>by omega),Own.start w⟩ ?_;rintro vs u ⟨n,rfl,o,d,e⟩ _;simp only[sL,gd,rs,nz];refine quiet (NO ?_);by_cases g:(n:Int) < (most:Int)
 ·simp only[g,amD,gq];have q:n < most:=om
  have j:a+n < s.length:=om
  have f:b+n < s.length:=om
  refine pJ ?_;rw[aA om om,show (a:Int)+n=((a+n:Nat):Int) by omega];refine q_ix (a:=s) (c:=s[a+n]) amP om (by rw[amK,amN j]) ?_;refine pJ ?_;rw[aA om om,show (b:Int)+n=((b+n:Nat):Int) by omega];refine q_ix (a:=s) (c:=s[b+n]) amP om (by rw[amK,amN f]) ?_;refine q_eq (q_pt ?_);intro w2 k;have e:=e.grow k;by_cases he:s[a+n]=s[b+n]
  ·simp only[he,amD,i_t,rs];rw[aA om om];refine aY ⟨n+1,rfl,om,λi hi=>?_,e⟩ (by simp[n0,RowKit.intOf];omega);by_cases h:i=n
   ·subst h;rw[amN j,amN f,he]
   ·exact d i om
  ·have l:¬((s[a+n].toNat:Int)=(s[b+n].toNat:Int)):=λh=>he (UInt8.toNat_inj.1 om);simp only[l,amF,i_f];refine m _ _ ⟨⟨n,rfl,o,d,.inr ?_⟩,e.done⟩;rw[amN j,amN f];exactλh=>he (apF h)
 ·simp only[g,amF,gq];refine q_pf ?_;intro w2 k;have e:=e.grow k;simp only[i_f];exact m _ _ ⟨⟨n,rfl,o,d,.inl om⟩,e.done⟩
end
section
open Eng Go.RowKit
abbrev gk:=List UInt8×aq×List Nat
def fe (a:List gk):List (List UInt8×aq):=a.map λr=>(r.1,r.2.1)
def dz (r:gk):Ent:=.urow 3 1 r.2.1 r.2.2.length (aV r.2.2)
def dw (b:Nat)(a:List gk)(T:List Ent):List Ent:=.map b (fe a)::(a.map dz++T)
def ku (s:List UInt8)(at_:Nat)(a:List gk):Prop:=∀r∈a,r.2.2.length<=at_∧∀i∈r.2.2,i < at_∧i+3<=s.length∧(s.drop i).take 3=r.1
theorem mq (x:List UInt8):∀a:List gk,sD (fe a) x=aw∨∃(j:Nat) (v:aq) (l:List Nat),a[j]?=ax (x,v,l)∧sD (fe a) x=ax v∧∀m:Nat,m < j->∀p:List UInt8×aq,(fe a)[m]?=ax p->p.1≠x
|[]=>.inl rfl
|r::a=>by
  by_cases h:r.1=x
  ·subst h;exact .inr ⟨0,r.2.1,r.2.2,rfl,by simp[sD,fe],λm hm=>absurd hm (Nat.not_lt_zero _)⟩
  ·rcases mq x a with b|⟨j,v,l,d,c,e⟩
   ·refine .inl ?_;simp only[sD,fe,anS,List.find?_cons] at b ⊢;simp only[h,amF];exact b
   ·refine .inr ⟨j+1,v,l,d,?_,λm hm p hp=>?_⟩
    ·simp only[sD,fe,anS,List.find?_cons] at c ⊢;simp only[h,amF];exact c
    ·cases m with
    |zero=>
      have:(r.1,r.2.1)=p:=by simpa[fe] using hp
      subst this;exact h
    |succ m=>exact e m om p (by simpa[fe] using hp)
theorem yg (a:List gk)(j:Nat)(x:List UInt8)(v:aq)(l:List Nat):fe (a.set j (x,v,l))=(fe a).set j (x,v):=by
 unfold fe;rw[asM]
theorem yh {a:List gk}(b:j < a.length)(r:gk)(T:List Ent):(a.map dz++T).set j (dz r)=(a.set j r).map dz++T:=by
 rw[List.set_append,amB (by rw[anP];exact b),asM]
theorem qx {a:List gk}{r:gk}(h:a[j]?=ax r)(T:List Ent):(a.map dz++T)[j]?=ax (dz r):=by
 have b:=(amS.1 h).1;rw[aoL (by rw[anP];exact b),aqL,h];rfl
theorem qk {s:List UInt8}{a:Nat}{e:List gk}(h:ku s a e)(c:a<=b):ku s b e:=λr d=>⟨apG (h r d).1 c,λi hi=>⟨apH ((h r d).2 i hi).1 c,((h r d).2 i hi).2⟩⟩
theorem ahJ:(Tryz.prog.info? 123).bind (·.zero)=ax nilS:=krx
section
variable {w:ao}{PK:PKT}{K:VWP}{S:Nat->Prop}{w0:ao}{L T:List Ent}
theorem acI {s:List UInt8}{fr o:Nat}{c:List gk}(a:OwnS S w0 w (dw b c T))(f:ku s fr c)(I:fr<=o)(N:o<=s.length)(O:s.length<=1048576)
  (k:∀d W,OwnS S w0 W (dw b d T)->ku s o d->K (.tuple #[]) W):CallX ah 293 #[.map (ax b),strK s,.int .i64 (fr:Int),.int .i64 (o:Int)] w PK K:=by
 refine fH (wH (k0:=RetK λv W=>v=.tuple #[]∧∃d,OwnS S w0 W (dw b d T)∧ku s o d) ?_) (λe W ⟨v,he,J,d,a,f⟩=>by subst he;subst J;exact k d W a f);unfold oH nz;refine loop (λvs W=>∃(i:Nat) (c:List gk),vs=[.int .i64 (i:Int)]∧i<=o∧ku s i c∧OwnS S w0 W (dw b c T)) (λvs _=>o - n0 vs) ⟨fr,c,rfl,I,f,a⟩ ?_;clear a f;rintro vs D ⟨i,c,rfl,hi,f,a⟩ _;simp only[mM,gd,rs,iN,dx,bnx,gtx,etx];have stop:∀W,OwnS S w0 W (dw b c T)->RetK (λv W=>v=.tuple #[]∧∃d,OwnS S w0 W (dw b d T)∧ku s o d) (.returned (.tuple #[])) W:=λW a=>retK ⟨rfl,c,a,qk f hi⟩;by_cases q:(i:Int) < (o:Int)
 case neg=>
  simp only[q,amF,gd,rs,i_f];exact stop D a
 simp only[q,amD,gd,rs];have z:(strK s)=.string ⟨s.toArray⟩:=rfl;rw[z,gM amP,aA om om];simp only[rs];by_cases E:(i:Int)+3<=(s.length:Int)
 case neg=>
  simp only[E,amF,i_f];exact stop D a
 simp only[E,amD,i_t];have t:i+3<=s.length:=om
 have a:=a.drew;refine⟨λW=>Sa W b (fe c),a.at_ 0 rfl,?_⟩;have u:((s.drop ((i:Int)).toNat).take (((i:Int)+3).toNat - ((i:Int)).toNat))=(s.drop i).take 3:=by
  rw[amK,show ((i:Int)+3).toNat - i=3 by omega]
 refine aR _ (λ_=>Iy) ?_;rw[aA om om];refine aR _ (λ_=>pE amP om om om) ?_;refine aR _ (λ_=>Iy) ?_;rw[aA om om];refine aR _ (λ_=>pE amP om om om) ?_;rw[u];generalize F:(s.drop i).take 3=x;refine jH ((sD (fe c) x).getD nilS) (λW h=>Kq (ok:=au) auC amP ahJ h x) ?_;rw[aA om om,show (i:Int)+1=((i+1:Nat):Int) by omega];rcases mq x c with G|⟨j,v,l,y,L,A⟩
 ·rw[G];refine uN (i:Int) (OwnS.nilU a 3 1) λb3 w2 a=>⟨a.at_ 2 rfl,?_⟩;refine oA 1 a rfl (a.sl 0 rfl 1 1 1 rfl) tD om λv' w3 a=>?_;have a:OwnS S w0 w3 (.urow 3 1 v' 1 (aV [i])::.map b (fe c)::(c.map dz++T)):=a.tail;refine Qx 1 auC amP a rfl x v' G λH a=>?_;refine aY ⟨i+1,c++[(x,v',[i])],rfl,om,?_,?_⟩ (by simp[n0,RowKit.intOf];omega)
  ·intro r g;rcases anF.1 g with g|g
   ·exact qk f om r g
   ·rw[anB.1 g];exact⟨sm,λm hm=>by rw[anB.1 hm];exact⟨om,t,F⟩⟩
  ·have e:dw b (c++[(x,v',[i])]) T=.map b (fe c++[(x,v')])::(c.map dz++([dz (x,v',[i])]++T)):=by
    unfold dw fe;simp[anN,amM]
   rw[e];have a:OwnS S w0 H ([dz (x,v',[i])]++((.map b (fe c++[(x,v')])::c.map dz)++T)):=a;exact a.front
 ·rw[L];have B:=(amS.1 y).1;have C:=apV y;have p:=f _ C;refine uN (i:Int) a λb3 w2 a=>⟨a.at_ 1 rfl,?_⟩;refine oA (j+2) (v:=v) (n:=l.length) (xs:=aV l) a (by show (c.map dz++T)[j]?=_;rw[qx y];rfl) (a.sl 0 rfl 1 1 1 rfl) tD (by have:=p.1;simp only at this;omega) λv' w3 a=>?_;have M:((c.map dz++T).set j (.urow 3 1 v' (l.length+1) (aV l++NZ [(i:Int)])))=(c.set j (x,v',l++[i])).map dz++T:=by
   rw[<-yh B];unfold dz;rw[mS,amC];rfl
  have a:OwnS S w0 w3 (.map b (fe c)::((c.map dz++T).set j (.urow 3 1 v' (l.length+1) (aV l++NZ [(i:Int)])))):=a.tail;rw[M] at a;refine WR 0 j auC amP a rfl x v v' (by unfold fe;rw[aqL,y];rfl) A λH a=>?_;refine aY ⟨i+1,c.set j (x,v',l++[i]),rfl,om,?_,?_⟩ (by simp[n0,RowKit.intOf];omega)
  ·intro r g;rcases asL g with g|g
   ·exact qk f om r g
   ·subst g;refine⟨by simp only[amC,aoI];have:=p.1;simp only at this;omega,λm hm=>?_⟩;rcases anF.1 hm with hm|hm
    ·exact⟨by have:=(p.2 m hm).1;omega,(p.2 m hm).2⟩
    ·rw[anB.1 hm];exact⟨om,t,F⟩
  ·unfold dw;rw[yg];exact a
end
end
section
open Eng Go.RowKit
theorem afI (a:Sl w v 1 l.length (aV l))(hi:i < l.length) :
  ∃p,(mIA 123 v (.int .i64 (i:Int))).run ah w=.ok (.value (.pointer (ax p))) w∧(aH 3 (.pointer (ax p))).run ah w=.ok (.value (.int .i64 (l[i]:Int))) w:=by
 obtain⟨b,off,cap,rfl,c⟩:=bY a om;refine⟨⟨b,off+i,aw⟩,?_,?_⟩
 ·have:=dX (P:=ah) (T:=123) (b:=b) (off:=off) (cap:=cap) (n:=l.length) (k:=.i64) (i:=(i:Int)) (w:=w) amZ LO om om;rw[amK,anC] at this;exact this
 ·refine aW (AtV.cell aU (c _ _ ?_));unfold aV;rw[aqL,amN hi];rfl
def jh (s:List UInt8)(at_:Nat)(x:bj):Prop:=x.1=0∧(x.2.1=0∧x.2.2=0∨3<=x.2.1∧x.2.1<=258∧1<=x.2.2∧x.2.2<=32768∧x.2.2<=at_∧at_+x.2.1<=s.length∧∀i,i < x.2.1->s[at_ - x.2.2+i]?=s[at_+i]?)
theorem yi {s:List UInt8}{a:Nat}(h:(s.drop a).take 3=(s.drop b).take 3)(hi:i < 3):s[a+i]?=s[b+i]?:=by
 have:=congrArg (λl=>l[i]?) h;simp only[apB,amB hi,apU] at this;exact this
theorem ahS (n f:Nat):DoX ah (aS 291 #[(1,.int .i64 (n:Int)),(2,.int .i64 (f:Int))]) w PK K=K (ptV (0,n,f)) w:=aD krx
section
variable {w:ao}{PK:PKT}{K:VWP}{S:Nat->Prop}{w0:ao}{L T:List Ent}
theorem acB (j:Nat){x:bj}(a:OwnS S w0 w L)(hi:L[j]?=ax (ptE b x)):DoX ah (aH 291 (.pointer (ax ⟨b,0,aw⟩))) w PK K=K (ptV x) w:=l_at (a.agg j hi aaN)
theorem adX {K:Ending->ao->Prop}{x:bj}(i:Nat)(a:OwnS S w0 w L)(hi:L[i]?=ax (ptE b x))(k:K (.returned (ptV x)) w):RetX ah [.cell (.pointer (ax ⟨b,0,aw⟩)) 291] w K:=
 iA (bJ (a.agg i hi aaN)) k
theorem Ul {s:List UInt8}{a:Nat}{d:List gk}(c:OwnS S w0 w (dw b d T))(N:ku s a d)(ha:a<=s.length)(hs:s.length<=1048576)
  (k:∀x W,OwnS S w0 W (dw b d T)->jh s a x->K (ptV x) W):CallX ah 292 #[.map (ax b),strK s,.int .i64 (a:Int)] w PK K:=by
 refine fH (rH (k0:=RetK λv W=>∃x,v=ptV x∧OwnS S w0 W (dw b d T)∧jh s a x) ?_) (λe W ⟨v,he,x,hv,c,hc⟩=>by subst he;subst hv;exact k x W c hc);unfold kI nz;refine VD c λg w1 c=>?_;refine VD c λr w2 c=>?_;have t:(strK s)=.string ⟨s.toArray⟩:=rfl;have fin:∀(W:ao) (x:bj),OwnS S w0 W (ptE r x::ptE g (0,0,0)::dw b d T)->jh s a x->DoX ah (aH 291 (.pointer (ax ⟨r,0,aw⟩))) W (pk (RetK λv W=>∃x,v=ptV x∧OwnS S w0 W (dw b d T)∧jh s a x)) λt72 w=>
   DoX ah (aN 291 (.pointer (ax ⟨g,0,aw⟩)) t72) w (pk (RetK λv W=>∃x,v=ptV x∧OwnS S w0 W (dw b d T)∧jh s a x)) λ_ w=>
   RetX ah [.cell (.pointer (ax ⟨g,0,aw⟩)) 291] w (RetK λv W=>∃x,v=ptV x∧OwnS S w0 W (dw b d T)∧jh s a x):=by
  intro W x c O;rw[acB 0 c rfl];refine MV (y:=x) 1 c rfl λw3 c=>?_;exact adX 1 c rfl (retK ⟨x,rfl,c.tail.tail,O⟩)
 have o:jh s a (0,0,0):=⟨rfl,.inl ⟨rfl,rfl⟩⟩;simp only[rs];rw[t,gM amP,aA om om];simp only[rs];by_cases Z:(s.length:Int) < (a:Int)+3
 ·simp only[Z,amD,i_t];exact fin w2 _ c o
 simp only[Z,amF,i_f];have a1:a+3<=s.length:=om
 rw[gM amP];simp only[rs];rw[aA (n:=(s.length:Int) - a) om om,Ie,show min (258:Int) ((s.length:Int) - a)=((min 258 (s.length - a):Nat):Int) by omega];generalize P:min 258 (s.length - a)=most;rw[Z7 amP om om om,amK,show ((a:Int)+3).toNat - a=3 by omega];generalize O:(s.drop a).take 3=x;refine aD (Kq (ok:=au) auC amP ahJ (show Sa w2 b (fe d) from c.at_ 2 rfl) x) |>.mpr ?_;simp only[aqO,if_false];have main:∀(v:aq) (l:List Nat),(∀W x,OwnS S w0 W (ptE r x::ptE g (0,0,0)::dw b d T)->Sl W v 1 l.length (aV l))->l.length<=a->(∀i∈l,i < a∧i+3<=s.length∧(s.drop i).take 3=x) ->
   LoopX [.int .i64 ((l.length:Int) - 1)] w2 (λQ w N1=>∀_:Sg,fG (.string ⟨s.toArray⟩) (.int .i64 (a:Int)) (.pointer (ax ⟨g,0,aw⟩)) (.pointer (ax ⟨r,0,aw⟩)) (.int .i64 (most:Int)) v (Q.getD 0 undef) w N1 (RetK λv W=>∃x,v=ptV x∧OwnS S w0 W (dw b d T)∧jh s a x)):=by
  intro v l f a6 R;refine loop (λvs W=>∃(i:Nat) (x:bj),vs=[.int .i64 ((i:Int) - 1)]∧i<=l.length∧jh s a x∧OwnS S w0 W (ptE r x::ptE g (0,0,0)::dw b d T)) (λvs _=>(RowKit.intOf (vs.getD 0 undef)+1).toNat) ⟨l.length,(0,0,0),rfl,om,o,c⟩ ?_;clear c;rintro vs w3 ⟨i,y,rfl,hi,L,c⟩ _;simp only[fG,gd,rs,nz];cases i with
 |zero=>
   simp only[show ai ((0:Int)<=((0:Nat):Int) - 1)=au by decide,gd,rs,i_f];exact fin w3 y c L
 |succ i=>
   rw[show ((i+1:Nat):Int) - 1=(i:Int) by omega];simp only[show ai ((0:Int)<=(i:Int))=av from amG om,gd,rs];obtain⟨p,u,A⟩:=afI (f w3 y c) (i:=i) om;rw[aD u,aD A];obtain⟨B,U,C⟩:=R l[i] (amR _);generalize D:l[i]=m at B U C;simp only[rs];rw[aA om om,show (a:Int) - m=((a - m:Nat):Int) by omega];by_cases q:((a - m:Nat):Int)<=32768
   case neg=>
    simp only[q,amF,gd,rs,i_f];exact fin w3 y c L
   simp only[q,amD,gd,rs];rw[aO EO,pt_1 c 0 rfl];simp only[rs];by_cases E:(y.2.1:Int) < (most:Int)
   case neg=>
    simp only[E,amF,gd,rs,i_f];exact fin w3 y c L
   simp only[E,amD,gd,rs,i_t];refine join λJ hJ=>?_;rw[aD u,aD A,D];have next:∀(W:ao) (z:bj),OwnS S w0 W (ptE r z::ptE g (0,0,0)::dw b d T)->jh s a z->J [] W:=by
    intro W z c hz;refine hJ _ _ λ_=>?_;simp only[iY,gd,rs,nz];rw[aA om om];exact aY ⟨i,z,rfl,om,hz,c⟩ (by simp[RowKit.intOf])
   refine aL c (QY s m a most w3 B om hs) ?_;rintro _ w4 ⟨n,rfl,hn,V,t⟩ c;rw[aO EO,pt_1 c 0 rfl];simp only[rs];by_cases F:(y.2.1:Int) < (n:Int)
   case neg=>
    simp only[F,amF,i_f];exact next w4 y c L
   simp only[F,amD,i_t];obtain⟨p2,G,H⟩:=afI (f w4 y c) (i:=i) om;rw[aD G,aD H,D];simp only[rs];rw[aA om om,show (a:Int) - m=((a - m:Nat):Int) by omega,ahS];refine MV (y:=(0,n,a - m)) 0 c rfl λw5 c=>?_;refine next w5 (0,n,a - m) c ⟨rfl,.inr ⟨?_,by show n<=258;omega,by show 1<=a - m;omega,by show a - m<=32768;omega,by show a - m<=a;omega,by show a+n<=s.length;omega,λj M=>?_⟩⟩
   ·show 3<=n;rcases t with h|h
    ·omega
    ·refine Nat.le_of_not_lt λX=>h (yi (C.trans O.symm) X)
   ·show s[a - (a - m)+j]?=_;rw[show a - (a - m)=m by omega];exact V j M
 rcases mq x d with hn|⟨j,v,l,M,R,a7⟩
 ·rw[hn];show DoX ah (mB .len #[123] 3 #[au] #[nilS]) w2 _ _;rw[show nilS=.slice aw 0 0 from rfl,bQ amZ];simp only[rs];rw[aA om om];exact main (.slice aw 0 0) [] (λW x c=>by exact (OwnS.nilU c 3 1).slU 0 rfl) sm (λi hi=>by cases hi)
 ·rw[R];have I:=N _ (apV M);have f:∀(W:ao) (y:bj),OwnS S w0 W (ptE r y::ptE g (0,0,0)::dw b d T)->Sl W v 1 l.length (aV l):=λW y c=>c.slU (j+3) (by show (d.map dz++T)[j]?=_;rw[qx M];rfl);show DoX ah (mB .len #[123] 3 #[au] #[v]) w2 _ _;rw[bD amZ (f w2 _ c)];simp only[rs];have Y:l.length<=a:=I.1;rw[aA om om];exact main v l f Y I.2
end
end
section
open Eng Go.RowKit
theorem wi:∀{l:List bj} {out:List UInt8} {x:bj},gu out.length l->fx (fg out l).length x->gu out.length (l++[x])
|[],out,x,_,h=>⟨h,trivial⟩
|y::l,out,x,a,h=>by
  refine⟨a.1,?_⟩;have b:=a.2;rw[<-ng] at b ⊢;exact wi b h
theorem O0 (l:List bj)(out:List UInt8)(x:bj):fg out (l++[x])=fw (fg out l) x:=by
 unfold fg;rw[atD];rfl
theorem oy:∀{n:Nat} {s:List UInt8} {a d:Nat},1<=d->d<=a->a+n<=s.length->(∀i,i < n->s[a - d+i]?=s[a+i]?)->gw d n (s.take a)=s.take (a+n)
|0,s,a,d,_,_,_,_=>rfl
|n+1,s,a,d,b,f,g,h=>by
  rw[gw];have c:(s.take a).length=a:=by rw[amL];omega
  have e:(s.take a).getD ((s.take a).length - d) 0=s[a]:=by
   rw[c,amI,apB,amB om];have:=h 0 om;rw[aoC,aoC] at this;rw[this,amN om];rfl
  rw[e,<-anH om,oy b om om (λi hi=>by
   have:=h (i+1) om;rw[show a - d+(i+1)=a+1 - d+i by omega,show a+(i+1)=a+1+i by omega] at this;exact this)]
  congr 1;omega
def jb (s:List UInt8)(a:Nat)(x:bj):bj:=if x.2.1=0 then (s.getD a 0,x.2.1,x.2.2) else x
theorem yj {s:List UInt8}{a:Nat}{x:bj}(h:jh s a x):fx a (jb s a x):=by
 unfold fx jb;obtain⟨d,b⟩:=h;by_cases c:x.2.1=0
 ·simp only[amB c];rcases b with b|b
  ·exact b.2
  ·omega
 ·rw[amA c,amA c];rcases b with b|b
  ·exact absurd b.1 c
  ·exact⟨d,b.1,b.2.1,b.2.2.1,b.2.2.2.1,b.2.2.2.2.1⟩
theorem yl {s:List UInt8}{a:Nat}{x:bj}(h:jh s a x)(d:a < s.length):fw (s.take a) (jb s a x)=s.take (a+max x.2.1 1):=by
 unfold fw jb;obtain⟨j,c⟩:=h;by_cases b:x.2.1=0
 ·simp only[amB b];rw[b,amI,amN d];exact (anH d).symm
 ·simp only[amA b];rcases c with c|⟨k,l,e,m,f,g,i⟩
  ·exact absurd c.1 b
  ·rw[oy e f g i,Nat.max_eq_left om]
section
variable {w:ao}{PK:PKT}{K:VWP}{S:Nat->Prop}{w0:ao}{L T:List Ent}
theorem oz {a:List gk}(c:OwnS S w0 w (dw b a T)):OwnS S w0 w (T++dw b a []):=by
 have c:OwnS S w0 w ((Ent.map b (fe a)::a.map dz)++T):=c;unfold dw;rw[amY];exact c.perm asB
theorem xf {c:List gk}(a:OwnS S w0 w (T++dw b c [])):OwnS S w0 w (dw b c T):=by
 unfold dw at a;rw[amY] at a;exact a.perm asB
theorem agV (x:bj)(a:OwnS S w0 w L)(k:∀b w',OwnS S w0 w' (ptE b x::L)->K (.slice (ax ⟨b,0,aw⟩) 1 1) w'):DoX ah (bN 269 1 #[(0,ptV x)]) w PK K:=
 bA (λb=>.slice (ax ⟨b,0,aw⟩) 1 1) (ptC x) 291 (λ_=>by kernel_rfl) a k
end
theorem elPt:elB ah 291 3 24=true:=krx
theorem RD (s:List UInt8)(M:Mem)(w:ao)(B:M.has w)(C:s.length<=1048576) :
  RetM ah 266 #[strK s] M w (λr N=>∃ps,SlA N.A N.w r 3 ps.length (ps.flatMap ptC)∧gu 0 ps∧fg [] ps=s∧ps.length<=s.length):=by
 refine bB B λK H=>CL ?_;unfold xL nz;have p:(strK s)=.string ⟨s.toArray⟩:=rfl;rw[p,gM amP];simp only[rs,show ai ((1048576:Int) < (s.length:Int))=au from amE om,i_f];have d:OwnS M.A w w [.mem M]:=OwnS.memS B;refine PX (OwnS.nilU d 291 3) λb R d=>?_;refine loop (λvs W=>∃(ps:List bj) (a:Nat) (f:List gk) (v:aq),vs=[v,.int .i64 (a:Int)]∧a<=s.length∧ps.length<=a∧gu 0 ps∧fg [] ps=s.take a∧ku s a f∧OwnS M.A w W (dw b f [.urow 291 3 v ps.length (ps.flatMap ptC),.mem M])) (λvs _=>s.length - n1 vs)
  ⟨[],0,[],nilS,rfl,om,sm,trivial,rfl,(λr I=>by cases I),d⟩ ?_
 clear d;rintro vs w2 ⟨ps,a,f,v,rfl,L,O,k,i,l,d⟩ _;simp only[rV,gd,rs,nz];rw[gM amP];simp only[rs];by_cases m:(a:Int) < (s.length:Int)
 case neg=>
  simp only[m,amF,i_f];have d:OwnS M.A w w2 (.urow 291 3 v ps.length (ps.flatMap ptC)::.mem M::dw b f []):=oz d;obtain⟨N,g,q,d⟩:=OwnS.bI d 0 rfl;refine H _ _ N _ 0 d rfl g ⟨ps,q,k,?_,om⟩;rw[i,anJ om]
 have j:a < s.length:=om
 simp only[m,amD,i_t];refine Ul (s:=s) d l L C λx w3 d t=>?_;refine VD d λD S d=>?_;refine MV (y:=x) 0 d rfl λE d=>?_;have d:OwnS M.A w E (ptE D x::dw b f [.urow 291 3 v ps.length (ps.flatMap ptC),.mem M]):=d;rw[aO EO,pt_1 d 0 rfl,wN];refine join λJ P=>?_;rw[aO EO,pt_1 d 0 rfl];simp only[rs];have n:fx a (jb s a x):=yj t;have hex:=yl t j;have hle:a+max x.2.1 1<=s.length:=by
  rcases t.2 with h|h
  ·omega
  ·have:=h.2.2.2.2.2.1;omega
 have u:(s.take a).length=a:=by rw[amL];omega
 have next:∀W,OwnS M.A w W (ptE D (jb s a x)::dw b f [.urow 291 3 v ps.length (ps.flatMap ptC),.mem M])->J [] W:=by
  intro W d;refine P _ _ λ_=>?_;simp only[sC,gd,rs,nz];rw[acB 0 d rfl];have d:OwnS M.A w W (dw b f [.urow 291 3 v ps.length (ps.flatMap ptC),.mem M]):=d.tail;refine agV (jb s a x) (oz d) λT F d=>?_;refine bR 1 auA elPt dc d rfl (d.sl 0 rfl 3 1 1 rfl) TE om om λv' Q d=>?_;have d:OwnS M.A w Q ([.urow 291 3 v' (ps.length+1) (ps.flatMap ptC++ptC (jb s a x)),.mem M]++dw b f []):=d.tail
  try simp only[rs]
  rw[aA om om,show (a:Int)+max (x.2.1:Int) 1=((a+max x.2.1 1:Nat):Int) by omega];refine acI (s:=s) (xf d) l om hle C λz U d o=>?_;refine aY ⟨ps++[jb s a x],a+max x.2.1 1,z,v',rfl,hle,by rw[amC,aoI];omega,?_,?_,o,?_⟩ (by simp[n1,RowKit.intOf];omega)
  ·exact wi (out:=[]) k (by rw[i,u];exact n)
  ·rw[O0,i,hex]
  ·rw[amC,aoI,apL,aqM];exact d
 by_cases G:x.2.1=0
 ·simp only[show ai ((x.2.1:Int)=0)=av from amG om,i_t];rw[s_ix (c:=s[a]) amP om (by rw[amK,amN j]),aO UR];refine aK 0 d rfl krx rfl (by show 0 < 3;decide) λF d=>?_;refine next F ?_
  have e:jb s a x=(s[a],x.2.1,x.2.2):=by
   unfold jb;rw[amB G,amI,amN j];rfl
  rw[e];exact d
 ·simp only[show ai ((x.2.1:Int)=0)=au from amE om,i_f];refine next E ?_
  have e:jb s a x=x:=by unfold jb;rw[amA G]
  rw[e];exact d
end
section
open Eng
def yQ(t0 w)(K:KT):=nz f269 1 [] [] [] (zg [0] [t0]) w K
theorem Dt:yQ t0 w k0->Calls ah 269 #[t0] w k0:=cw func269
def fZ(t0 w)(K:KT):=nz f303 1 [] [] [] (zg [0] [t0]) w K
theorem lF:fZ t0 w k0->Calls ah 303 #[t0] w k0:=cw func303
end
section
open Eng
def H6(t0 t1 w)(K:KT):=nz f191 1 [] [] [] (zg [0,1] [t0,t1]) w K
theorem Ip:H6 t0 t1 w k0->Calls ah 191 #[t0,t1] w k0:=cw func191
end
section
open Eng Go.RowKit
theorem aiY:elB ah 5 1 1=true:=krx
theorem aeW:(Tryz.prog.info? 5).map (·.size)=ax 1:=krx
theorem SX {dT sT ty T E:TypeId}{g n:Nat}{s:List UInt8}(hu:P.underlying dT=ax (.slice E))(c:(P.info? E).map (·.size)=ax 1)
  (j:w.heap[g]?=ax (.cells cur.toArray T (0,0))) (e:s.length=n) (f:cur.length=n) :
  (mB .copy #[dT,sT] ty cb #[.slice (ax ⟨g,0,aw⟩) n cap,.string ⟨s.toArray⟩]).run P w=.ok (.value (goInt n)) (w.setRow g (aP s).toArray):=by
 have h:(aP s).length=n:=by rw[gR,e]
 have a:=run_storeCells_at P g 0 T (aP s) 0 cur.toArray w j (by rw[h];simp[f]) eW;simp only[aoC,amO,apX,anV] at a;rw[asH (by rw[h];simp[f]),amY] at a;obtain⟨i,hi,k⟩:=aoJ.1 c;have b:List.take n (aP s)=aP s:=anJ om;have d:(⟨s.toArray⟩:ByteArray).size=n:=by rw[dL,e]
 unfold aP at b a;simp[mB,builtin,Builtin.copy_,run_underlying hu,Builtin.lenOf,Builtin.firstCells,sizeOf,typeInfo,hi,k,a,d,b,aP]
theorem RM (s:List UInt8)(w:ao)(t:s.length<=1000000000):Ret ah 269 #[strK s] w (λv w'=>v=strK s∧Below w.heap.size w w'):=by
 refine aZ λK l=>Dt ?_;unfold yQ nz;refine fH (lF (k0:=RetK λv w'=>v=strK s∧Below w.heap.size w w') ?_) (λe W ⟨v,he,m,c⟩=>by subst he;subst m;exact l _ _ ⟨rfl,c⟩);unfold fZ nz;rw[show strK s=.string ⟨s.toArray⟩ from rfl,gM amP];simp only[rs];by_cases d:s=[]
 ·subst d;simp only[aqB,show ai (((0:Nat):Int)=0)=av from rfl,i_t];exact retK ⟨rfl,Below.refl _ _⟩
 have u:0 < s.length:=arC.2 d;simp only[show ai ((s.length:Int)=0)=au from amE om,i_f];rw[gM amP];refine OH anD aiY om om (Own.start w) λg f y h c=>?_;rw[anC] at h;refine tG (SX anD aeW (c.at_ 0 rfl) rfl h) ?_;have a:Own w (f.setRow g (aP s).toArray) [.cells g (aP s) 5]:=gZ c 0 rfl _;generalize f.setRow g (aP s).toArray=w2 at a;refine aD (dX (P:=ah) (T:=53) (b:=g) (off:=0) (cap:=s.length) (n:=s.length) (k:=.i64) (i:=0) (w:=w2) anD aeW om om) |>.mpr ?_;rw[bQ anD];have o:w2.heap[g]?=ax (.cells (aP s).toArray 5 (0,0)):=a.at_ 0 rfl;have q:=Lib.run_unsafeString_row (P:=ah) w2 239 3 9 5 underlying239 krx g s.length (by unfold World.shape?;rw[o];simp[gR]) s d (amJ _) om (λj x r=>by
  have:=a.cell 0 rfl j (Eng.jC r);rw[cM,amO];exact this)
 refine tG (show (mB .unsafeString #[239,3] 9 #[au,au] #[.pointer (ax ⟨g,0,aw⟩),.int .i64 s.length]).run ah w2=.ok (.value (.string ⟨s.toArray⟩)) (w2.freeze ⟨g,0,aw⟩ s.length) by
  simp[mB,builtin,q]) ?_
 refine retK ⟨rfl,Lib.below_freeze a.done (p:=⟨g,0,aw⟩) ?_ _⟩;exact ((a.all _ (anB.2 rfl)).2 g rfl).elim (λx=>x.elim) id
theorem qy:∀(f:Nat) (s:List UInt8),(gz f s).length<=40*f+8*s.length
|0,s=>by unfold gz;simp
|f+1,s=>by
  unfold gz;split
  ·rw[jt];omega
  ·rw[amC,jt];have:=qy f (s.drop 65535);rw[amQ] at this;rw[amL];omega
theorem P0 (s:List UInt8):(az (fu s)).length<=2*s.length+10:=by
 have:=qy (s.length / 65535+1) s;rw[ky];unfold fu;omega
theorem WI (s:List UInt8)(M:Mem)(w:ao)(n:M.has w)(o:s.length<=1048576) :
  RetM ah 235 #[strK s,.int .i64 2] M w (λv _=>∃R,v=.tuple #[.string ⟨(az R).toArray⟩,.int .i64 0]∧bn R∧ig R s∧(az R).length<=2*s.length+10):=by
 refine bB n λK q=>FD ?_;unfold Cx nz;have a:OwnS M.A w w [.mem M]:=OwnS.memS n;simp only[rs,gd,show ai ((2:Int) < 0)=au from rfl,show ai ((2:Int) < 2)=au from rfl,show ai ((2:Int)=0)=au from rfl,i_f];rw[show strK s=.string ⟨s.toArray⟩ from rfl,gM amP];simp only[rs,show ai ((1048576:Int) < (s.length:Int))=au from amE om,i_f];refine TD a o λr a=>?_;refine bH a 0 rfl (RD s M r (a.hasM 0 rfl) o) ?_;rintro pv N w2 g ⟨ps,h,d,i,t⟩ a;have a:OwnS M.A w w2 [.mem N]:=a;refine join λJ u=>?_;have next:∀(R:List Nat) (c:Mem) (W:ao),N.le c->OwnS M.A w W [.mem c]->bn R->ig R s->(az R).length<=2*s.length+10->J [.string ⟨(az R).toArray⟩] W:=by
  intro R c W g2 a j k l;refine u _ _ λ_=>?_;simp only[gd];unfold xQ nz;refine join λx m=>?_;simp only[rs,amD,i_t];have last:∀(R:List Nat) (c:Mem) (W:ao),N.le c->OwnS M.A w W [.mem c]->bn R->ig R s->(az R).length<=2*s.length+10->x [.string ⟨(az R).toArray⟩] W:=by
   intro R c W g2 a j k l;refine m _ _ λ_=>?_;simp only[gd];unfold zS nz;refine aL a (RM (az R) W om) ?_;rintro _ B rfl a;exact q _ _ c _ 0 a rfl (g.trans g2) ⟨R,rfl,j,k,l⟩
  refine bH a 0 rfl (Xz ps pv c W (a.hasM 0 rfl) (h.le g2) d om) ?_;rintro _ e f g3 ⟨p,rfl,y,z⟩ a;have a:OwnS M.A w f [.mem e]:=a;rw[gM amP,gM amP];simp only[rs];by_cases b:((az p).length:Int) < ((az R).length:Int)
  ·simp only[b,amD,i_t];exact last p e f (g2.trans g3) a y (by rw[<-i];exact z) om
  ·simp only[b,amF,i_f];exact last R e f (g2.trans g3) a j k l
 refine bH a 0 rfl (Rj ps pv N w2 (a.hasM 0 rfl) h d om) ?_;rintro _ e f g3 rfl a;have a:OwnS M.A w f [.mem e]:=a;rw[gM amP,gM amP];simp only[rs];have hle:=P0 s;by_cases b:((az (gm ps)).length:Int) < ((az (fu s)).length:Int)
 ·simp only[b,amD,i_t];exact next (gm ps) e f g3 a (zy ps) (by rw[<-i];exact AI d) om
 ·simp only[b,amF,i_f];exact next (fu s) e f g3 a (zw s) (zx s) hle
theorem Q0 {R:List Nat}{s:List UInt8}(h:ig R s)(a:bn R)(d:s.length<=1048576):gj ([120,156]++az R++bz (gg s)) 1048576=(s,0):=by
 have c:(bz (gg s)).length=4:=rfl;unfold gj;have f:([120,156]++az R++bz (gg s)).drop 2=az R++bz (gg s):=rfl;have g:¬lf (([120,156]++az R++bz (gg s)).getD 0 0).toNat (([120,156]++az R++bz (gg s)).getD 1 0).toNat=true:=show ¬lf 120 156=av by decide
 rw[amA sm,amA g,f,zu h a om d];simp only[];have i:([120,156]++az R++bz (gg s)).length=2+(az R).length+4:=by simp only[amC,c];simp
 have b:([120,156]++az R++bz (gg s)).drop (2+(az R).length)=bz (gg s):=by
  have e:2+(az R).length=([120,156]++az R:List UInt8).length:=by simp;omega
  rw[e,List.drop_left]
 rw[amA sm,amA (by rw[i];omega),b,amA (by rw[anJ (Nat.le_of_eq c)];simp)]
theorem Ss (s:List UInt8)(M:Mem)(w:ao)(b:M.has w)(c:s.length<=1048576) :
  RetM ah 191 #[strK s,.int .i64 2] M w (λv _=>∃t,v=.tuple #[strK t,.int .i64 0]∧gj t 1048576=(s,0)∧t.length<=2*s.length+16):=by
 refine bB b λK e=>Ip ?_;unfold H6 nz;have a:OwnS M.A w w [.mem M]:=OwnS.memS b;refine bH a 0 rfl (WI s M w b c) ?_;rintro _ N d g ⟨R,rfl,f,h,i⟩ a;have a:OwnS M.A w d [.mem N]:=a;simp only[ex,eN,rs,show ai ((0:Int)≠0)=au from rfl,i_f];rw[show (Value.string ⟨#[120,156]⟩)=.string ⟨([120,156]:List UInt8).toArray⟩ from rfl,adF (by simp;omega)];refine aL a (QT s d om) ?_;rintro _ w2 rfl a;refine aL a (M4 (gg s) w2) ?_;rintro _ w3 rfl a;rw[adF (by simp[bz];omega)];exact e _ _ N _ 0 a rfl g ⟨_,rfl,Q0 h f c,by simp[bz];omega⟩
end
section
open Eng Go.RowKit
theorem aeF {a b:UInt8}:IntKind.u8.wrap ((a.toNat:Int) - (b.toNat:Int))=((a - b).toNat:Int):=by
 unfold IntKind.wrap;have c:=a.toNat_lt;have d:=b.toNat_lt;simp only[IntKind.bits,IntKind.signed,UInt8.toNat_sub];simp;omega
theorem u8Sl {l:List UInt8}(a:Sl w v 1 l.length (aP l))(hi:i < l.length) :
  ∃p,(mIA 53 v (.int .i64 (i:Int))).run ah w=.ok (.value (.pointer (ax p))) w∧(aH 5 (.pointer (ax p))).run ah w=.ok (.value (.int .u8 (l[i].toNat:Int))) w:=by
 obtain⟨b,off,cap,rfl,c⟩:=bY a om;refine⟨⟨b,off+i,aw⟩,?_,?_⟩
 ·have:=dX (P:=ah) (T:=53) (b:=b) (off:=off) (cap:=cap) (n:=l.length) (k:=.i64) (i:=(i:Int)) (w:=w) anD (show (Tryz.prog.info? 5).map (·.size)=ax 1 by kernel_rfl) om om;rw[amK,anC] at this;exact this
 ·refine aW (AtV.cell nU8l (c _ _ (jC hi)))
section
variable {w:ao}{PK:PKT}{K:VWP}{S:Nat->Prop}{w0:ao}{L:List Ent}
theorem P8 {tag:Int}{d:aq}{row:List UInt8}(a:OwnS S w0 w L)(s:∀W,OwnS S w0 W L->Sl W va 1 above.length (aP above))(h:∀W,OwnS S w0 W L->Sl W d 1 row.length (aP row))(u:1<=colors∧colors<=1000000)(E:row.length<=1000000)
  (k:∀g W,OwnS S w0 W (.cells g (aP (dj tag above row colors)) 5::L)->K (.slice (ax ⟨g,0,aw⟩) row.length row.length) W) :
  CallX ah 233 #[rwV va d colors,.int .i64 tag] w PK K:=by
 generalize t:dj tag above row colors=G at k;have v:G.length=row.length:=by rw[<-t,iy]
 refine⟨wM ?_⟩;unfold oZ nz;have x:va.oneCell'=true:=lJ (s w a);have y:d.oneCell'=true:=lJ (h w a);have A:∀W:ao,(mBox 246 (rwV va d colors)).run ah W=.ok (.value (.pointer (ax ⟨W.heap.size,0,aw⟩))) (W.alloc (.cells (rwC va d colors).toArray 246)):=λW=>by
  cases va<;>first|(cases x;done)|skip
  all_goals cases d<;>first|(cases y;done)|kernel_rfl
 refine bA (λb=>.pointer (ax ⟨b,0,aw⟩)) (rwC va d colors) 246 A a λb B a=>?_;refine aD (bE vQ) |>.mpr (aD (wO (a.at_ 0 rfl)) |>.mpr ?_);rw[bD anD (h B a.tail)];refine OH anD (show elB ah 5 1 1=av by kernel_rfl) om om a λg w2 c j a=>?_;rw[anC] at j;refine aD (bE vQ) |>.mpr (aD (wO (a.at_ 1 rfl)) |>.mpr ?_);rw[bD anD (h w2 a.tail.tail)];refine loop (λvs W=>∃(i:Nat) (c:List aq),vs=[.int .i64 (i:Int)]∧i<=row.length∧c.length+i=row.length∧OwnS S w0 W (.cells g (aP (G.take i)++c) 5::rwE b va d colors::L)) (λvs _=>row.length - n0 vs) ⟨0,c,rfl,om,om,a⟩ ?_;clear a j c;rintro vs w3 ⟨i,c,rfl,hi,j,a⟩ _;simp only[lQ,gd,rs,nz];by_cases l:(i:Int) < (row.length:Int)
 case neg=>
  simp only[l,amF,i_f];have:c=[]:=apZ.1 om;subst this;rw[amY,anJ om] at a;exact k g w3 ((OwnS.swap a).tail)
 have m:i < row.length:=om
 simp only[l,amD,i_t];obtain⟨p,o,q⟩:=u8Sl (h w3 a.tail.tail) m;rw[aD o,aD q,l_at (a.agg 1 rfl ME)];refine aL a (P4 tag above row va d (i:Int) colors w3 om u (s w3 a.tail.tail) (h w3 a.tail.tail)) ?_;rintro _ C rfl a;rw[agI,aeF];obtain⟨z,c,rfl⟩:∃z r,c=z::r:=by
  cases c with
 |nil=>simp at j;omega
 |cons z c=>exact⟨z,c,rfl⟩
 rw[amW] at j;refine aD (dX (P:=ah) (T:=53) (b:=g) (off:=0) (cap:=row.length) (n:=row.length) (k:=.i64) (i:=(i:Int)) (w:=C) anD (show (Tryz.prog.info? 5).map (·.size)=ax 1 by kernel_rfl) om om) |>.mpr ?_;rw[amK,anC,amO];have f:(aP (G.take i)).length=i:=by rw[gR,amL];omega
 refine aK 0 a rfl krx rfl (by rw[amC,f,amW];omega) λF a=>?_
 try simp only[rs]
 rw[aA om om];refine aY ⟨i+1,c,rfl,om,om,?_⟩ (by simp[n0,RowKit.intOf];omega);have D:G[i]'(om)=row[i] - ec tag above row (i:Int) colors:=by
  have:=se (tag:=tag) (above:=above) (colors:=colors) m;rw[t,amN om] at this;exact apF this
 have e:(aP (G.take i)++z::c).set i (.int .u8 ((row[i] - ec tag above row (i:Int) colors).toNat:Int))=aP (G.take (i+1))++c:=by
  rw[List.set_append,amA (by rw[f];omega),f,apD,aoX,anH om,Kn,amM,D];rfl
 rw[<-e];exact a
end
theorem H4 (l:List UInt8)(v:aq)(w:ao)(f:Sl w v 1 l.length (aP l))(j:l.length<=1000000):Ret ah 264 #[v] w (λr w'=>r=.int .i64 (ep l:Int)∧w=w'):=by
 refine aZ λK g=>BF ?_;unfold vN nz;rw[bD anD f];have hle:∀i,ep (l.take i)<=256*i:=λi=>by
  unfold ep
  induction i with
 |zero=>simp
 |succ i h=>
   by_cases hi:i < l.length
   ·rw[anH hi,anN,asG];simp only[anS,apW,aqC,List.sum_nil];have:=l[i].toNat_lt;omega
   ·rw[anJ om] at h ⊢;omega
 refine loop (λvs W=>∃i:Nat,vs=[.int .i64 (ep (l.take i):Int),.int .i64 (i:Int)]∧i<=l.length∧W=w) (λvs _=>l.length - n1 vs) ⟨0,by rw[apX];rfl,om,rfl⟩ ?_;rintro vs k ⟨i,rfl,hi,rfl⟩ _;simp only[qD,gd,rs,nz];have hw:=hle i;by_cases a:(i:Int) < (l.length:Int)
 case neg=>
  simp only[a,amF,i_f];rw[anJ om];exact g _ _ ⟨rfl,rfl⟩
 have b:i < l.length:=om
 simp only[a,amD,i_t];obtain⟨p,c,d⟩:=u8Sl f b;have m:=l[i].toNat_lt;rw[aD c,aD d,u8ix,u8ix]
 try simp only[rs]
 rw[aA (n:=(256:Int) - _) om om,Ie]
 try simp only[rs]
 rw[aA (n:=_+min _ _) om om,aA om om];refine aY ⟨i+1,?_,om,rfl⟩ (by simp[n1,RowKit.intOf];omega);have e:ep (l.take (i+1))=ep (l.take i)+min l[i].toNat (256 - l[i].toNat):=by
  unfold ep;rw[anH b,anN,asG];simp
 rw[e]
 congr 2
 ·congr 1;omega
section
variable {w:ao}{PK:PKT}{K:VWP}{S:Nat->Prop}{w0:ao}{L:List Ent}
theorem afM {d:aq}{row:List UInt8}(c:OwnS S w0 w L)(n:∀W,OwnS S w0 W L->Sl W va 1 above.length (aP above))(o:∀W,OwnS S w0 W L->Sl W d 1 row.length (aP row))(p:1<=colors∧colors<=1000000)(m:row.length<=1000000)
  (k:∀W,OwnS S w0 W L->K (.int .i64 (oo above row colors:Int)) W) :
  CallX ah 234 #[rwV va d colors] w PK K:=by
 refine⟨wE ?_⟩;unfold oV nz;have r:va.oneCell'=true:=lJ (n w c);have s:d.oneCell'=true:=lJ (o w c);have t:∀W:ao,(mBox 246 (rwV va d colors)).run ah W=.ok (.value (.pointer (ax ⟨W.heap.size,0,aw⟩))) (W.alloc (.cells (rwC va d colors).toArray 246)):=λW=>by
  cases va<;>first|(cases r;done)|skip
  all_goals cases d<;>first|(cases s;done)|kernel_rfl
 refine bA (λb=>.pointer (ax ⟨b,0,aw⟩)) (rwC va d colors) 246 t c λb v c=>?_;have e:∀W,OwnS S w0 W (rwE b va d colors::L)->Sl W va 1 above.length (aP above):=λW c=>n W c.tail;have f:∀W,OwnS S w0 W (rwE b va d colors::L)->Sl W d 1 row.length (aP row):=λW c=>o W c.tail;have j:∀{W:ao} {g:Nat} {tag:Int},OwnS S w0 W (.cells g (aP (dj tag above row colors)) 5::rwE b va d colors::L)->Sl W (.slice (ax ⟨g,0,aw⟩) row.length row.length) 1 (dj tag above row colors).length (aP (dj tag above row colors)):=λc=>by
  have:=c.sl 0 rfl 1 row.length row.length (by rw[gR,iy,anC]);rw[iy];exact this
 rw[l_at (c.agg 0 rfl ME)];refine P8 (tag:=0) c e f p m λg w2 c=>?_;refine c_eq (H4 _ _ w2 (j c) (by rw[iy];exact m)) ?_;refine loop (λvs W=>∃k:Nat,vs=[.int .i64 ((iz above row colors k).1:Int),.int .i64 ((iz above row colors k).2:Int),.int .i64 ((k+1:Nat):Int)]∧k<=4∧OwnS S w0 W (rwE b va d colors::L)) (λvs _=>5 - n2 vs) ⟨0,rfl,om,c.tail⟩ ?_;clear c;rintro vs w3 ⟨i,rfl,hi,c⟩ _;simp only[mH,gd,rs,nz];by_cases l:((i+1:Nat):Int) < 5
 case neg=>
  simp only[l,amF,i_f];obtain rfl:i=4:=om
  exact k w3 c.tail
 simp only[l,amD,i_t];refine join λJ u=>?_;rw[l_at (c.agg 0 rfl ME)];refine P8 (tag:=((i+1:Nat):Int)) c e f p m λg q c=>?_;refine c_eq (H4 _ _ q (j c) (by rw[iy];exact m)) ?_;have next:∀(a b2:Nat),iz above row colors (i+1)=(a,b2)->J [.int .i64 (a:Int),.int .i64 (b2:Int)] q:=by
  intro a b2 h;refine u _ _ λ_=>?_;simp only[mR,gd,rs,nz];rw[aA om om];refine aY ⟨i+1,?_,om,c.tail⟩ (by simp[n2,RowKit.intOf];omega);rw[h];rfl
 try simp only[rs]
 by_cases hw:ep (dj ((i+1:Nat):Int) above row colors) < (iz above row colors i).2
 ·simp only[show ai ((ep (dj ((i+1:Nat):Int) above row colors):Int) < ((iz above row colors i).2:Int))=av from amG om,i_t];exact next (i+1) _ (by rw[iz,amB hw])
 ·simp only[show ai ((ep (dj ((i+1:Nat):Int) above row colors):Int) < ((iz above row colors i).2:Int))=au from amE om,i_f];exact next _ _ (by rw[iz,amA hw])
theorem XM {n:Nat}(h:n<=10000000)(e:OwnS S w0 w L)(k:∀v w',OwnS S w0 w' (outR v []::L)->K v w') :
  DoX ah (G5 53 (.int .i64 0) (.int .i64 (n:Int))) w PK K:=by
 obtain⟨i,z,hi,f,a,b,g⟩:=kD (show elB ah 5 1 1=av by kernel_rfl);have c:=run_make (P:=ah) w 53 5 i z anD hi f .i64 .i64 (0:Int) (n:Int) om om (by rw[b];omega) om;rw[amK] at c;refine tG (cJ c) (k _ _ ?_);have d:=e.alloc (madeCells z.cells (n*i.size)).toList 5;rw[auG] at d;exact OwnS.toU d 1 0 n (by rw[Array.length_toList,size_madeCells,a]) om om
end
end
section
open Eng Go.RowKit
def jj (x:Pm):List UInt8->List UInt8->Nat:=kx x.p x.c
def dt (x:Pm)(s:List UInt8):Int:=
 if ¬x.ok then 1
 else if 1048576 < s.length then 5
 else if x.p=1 then 0
 else if s.length % (x.c*x.n).toNat≠0 then 16
 else if 10<=x.p∧1048576 < s.length+s.length / (x.c*x.n).toNat then 5
 else 0
def du (x:Pm)(s:List UInt8):List UInt8:=if x.p=1 then s else ff (jj x) x.c (x.c*x.n).toNat x.head (s.length+1) s []
theorem wj {s:List UInt8}(h:dt x s=0):ft x (du x s)=(s,0)∧(du x s).length<=1048576:=by
 unfold dt at h;by_cases d:x.ok
 case neg=>rw[amB d] at h;cases h
 rw[amA (by simp[d])] at h;by_cases t:1048576 < s.length
 ·rw[amB t] at h;cases h
 rw[amA t] at h;have l:=Pm.mul_pos d;obtain⟨n,v⟩:∃n:Nat,x.c*x.n=(n:Int):=⟨(x.c*x.n).toNat,om⟩;unfold ft du;rw[v] at h l ⊢;rw[amK] at h ⊢;by_cases j:x.p=1
 ·simp only[amB j];rw[amA (by simp[d]),amA om];exact⟨rfl,om⟩
 rw[amA j] at h;simp only[amA j];by_cases m:s.length % n=0
 case neg=>rw[amB m] at h;cases h
 rw[amA (by simp[m])] at h;have g:0 < n:=om
 have o:s.length=s.length / n*n:=by
  have:=Nat.div_add_mod s.length n;rw[m,aoC,aoY] at this;exact this.symm
 have u:x.head=0∨x.head=1:=by unfold Pm.head;split<;>simp
 have hlen:=qa (T:=jj x) (c:=x.c) g u (s.length / n) (s.length+1) s [] o om;have i:x.p=2∨(10<=x.p∧x.p<=15):=by
  rcases d.1 with h|h|h
  ·exact absurd h j
  ·exact .inl h
  ·exact .inr h
 have e:=si (T:=jj x) (c:=x.c) d.2.1 g u (λa b=>xq i x.c a b) (λq a b=>by
  unfold Pm.head at q;have:x.p=2:=by
   rcases i with h|h
   ·exact h
   ·rw[amB h.1] at q;cases q
  unfold jj kx;rw[amB this]) (s.length / n) (s.length+1) ((ff (jj x) x.c n x.head (s.length+1) s []).length+1) s [] [] o om (by
   rw[hlen];have:s.length / n*1<=s.length / n*(n+x.head):=atV _ om;omega)
 have hle:(ff (jj x) x.c n x.head (s.length+1) s []).length<=1048576:=by
  rw[hlen,Nat.mul_add,<-o];have k:x.head=if 10<=x.p then 1 else 0:=rfl
  by_cases f:10<=x.p
  ·rw[amB f] at k;rw[k,anC];refine Nat.le_of_not_lt λr=>?_;rw[amB ⟨f,r⟩] at h;cases h
  ·rw[amA f] at k;rw[k];omega
 refine⟨?_,hle⟩;rw[amA (by simp[d]),amA om,amA (by rw[hlen,Nat.mul_mod_left];simp),e];rfl
def encT (r:List UInt8)(e:Int):Value:=.tuple #[.string ⟨r.toArray⟩,.int .i64 e]
theorem acM {T:TypeId}(a:Tryz.prog.underlying D=ax (.int .u8))(b:Tryz.prog.underlying T=ax (.int .i64))(n:Nat)(W:ao):(tP T D (.int .i64 (n:Int))).run ah W=.ok (.value (.int .u8 ((UInt8.ofNat n).toNat:Int))) W:=by
 rw[<-Oy];exact eC (by rw[b];rfl) a
theorem Nq (x:Pm)(s:List UInt8)(w:ao)(hs:s.length<=1000000000):Ret ah 190 #[pmV x,.string ⟨s.toArray⟩] w (λv w'=>v=encT (if dt x s=0 then du x s else []) (dt x s)∧Below w.heap.size w w'):=by
 refine aZ λK B=>Bt ?_;generalize i:dt x s=X at B;unfold dt at i;unfold vX nz;refine IW x (Own.start w) λb w1 d=>?_;rw[pm_v d 0 rfl];refine aL d (PO x w1) ?_;rintro _ w2 rfl d;rw[wN,pm_v d 0 rfl];obtain⟨n,hn,b5,b6⟩:∃n:Nat,max (if x.ok then x.c*x.n else 0) 1=(n:Int)∧1<=n∧n<=8192:=by
  by_cases h:x.ok
  ·rw[amB h];have h1:=Pm.mul_pos h;have r:=h.2.2.2.2;exact⟨(x.c*x.n).toNat,om,om,om⟩
  ·rw[amA h];exact⟨1,dc,dc,dc⟩
 rw[hn];refine aL d (HW x s n w2 om hs) ?_;rintro _ w3 rfl d;simp only[eN];by_cases h:x.ok
 case neg=>
  rw[amB h] at i ⊢;simp only[show ai ((1:Int)≠0)=av from rfl,i_t];exact B _ _ ⟨by rw[<-i];rfl,d.done⟩
 rw[amA (by simp[h])] at i ⊢;have J:(x.c*x.n).toNat=n:=by
  rw[amB h] at hn;have h1:=Pm.mul_pos h;omega
 rw[J] at i;by_cases r:1048576 < s.length
 ·rw[amB r] at i ⊢;simp only[show ai ((5:Int)≠0)=av from rfl,i_t];exact B _ _ ⟨by rw[<-i];rfl,d.done⟩
 rw[amA r] at i ⊢;by_cases y:x.p=1
 ·rw[amA (by simp[y])];rw[amB y] at i;simp only[show ai ((0:Int)≠0)=au from rfl,i_f];rw[fpm0,pm_0 d 0 rfl];simp only[y,rs,amD,i_t];exact B _ _ ⟨by rw[<-i];unfold du;rw[amB rfl,amB y];rfl,d.done⟩
 rw[amA y] at i;by_cases L:s.length % n=0
 case neg=>
  rw[amB ⟨y,L⟩];rw[amB L] at i;simp only[show ai ((16:Int)≠0)=av from rfl,i_t];exact B _ _ ⟨by rw[<-i];rfl,d.done⟩
 rw[amA (by simp[L])];rw[amA (by simp[L])] at i;simp only[show ai ((0:Int)≠0)=au from rfl,i_f];rw[fpm0,pm_0 d 0 rfl];simp only[y,rs,amF,i_f];have hdiv:s.length / n<=s.length:=arH _ _;obtain⟨q,hq⟩:∃q,s.length / n=q:=⟨_,rfl⟩;rw[hq] at i hdiv;have C:∀{PK:PKT} {K:VWP} {W:ao},DoX ah (mBin .quo 3 (.int .i64 (s.length:Int)) (.int .i64 (n:Int))) W PK K=K (.int .i64 (q:Int)) W:=λ{PK K W}=>by
  rw[RH om,show ((s.length:Nat):Int).tdiv (n:Int)=((s.length / n:Nat):Int) from rfl,hq,aA om om]
 have hc:1<=x.c∧x.c<=1000000:=⟨h.2.1,by have:=h.2.2.2.1;omega⟩;have b7:x.p=2∨(10<=x.p∧x.p<=15):=by
  rcases h.1 with h|h|h
  ·exact absurd h y
  ·exact .inl h
  ·exact .inr h
 have main:X=0->DoX ah (mB .len #[9] 3 #[au] #[.string ⟨s.toArray⟩]) w3 (pk K) λt41 w=>
   DoX ah (mB .len #[9] 3 #[au] #[.string ⟨s.toArray⟩]) w (pk K) λt43 w=>
   DoX ah (mBin .quo 3 t43 (.int .i64 (n:Int))) w (pk K) λt45 w=>
   DoX ah (mBin .add 3 t41 t45) w (pk K) λt46 w=>
   DoX ah (G5 53 (.int .i64 0) t46) w (pk K) λt47 w=>
   DoX ah (mFA 27 (.pointer (ax ⟨b,0,aw⟩)) 1) w (pk K) λt48 w=>
   DoX ah (aH 3 t48) w (pk K) λt49 w=>
   DoX ah (aS 246 #[(2,t49)]) w (pk K) λt50 w=>
   DoX ah (iH 246) w (pk K) λt9 w=>
   DoX ah (aN 246 t9 t50) w (pk K) λ_ w=>
   LoopX [.string ⟨s.toArray⟩,t47] w (λM w N1=>∀_:Sg,jQ (M.getD 0 undef) (.pointer (ax ⟨b,0,aw⟩)) (.int .i64 (n:Int)) (M.getD 1 undef) t9 w N1 K):=by
  intro N;have m:∀W',Below w.heap.size w W'->K (.returned (encT (du x s) 0)) W':=λW' hB=>B _ _ ⟨by rw[amB N,N],hB⟩;clear B;unfold du at m;rw[amA y,J] at m;rw[gM amP,gM amP,C]
  try simp only[rs]
  rw[aA om om,show (s.length:Int)+(q:Int)=((s.length+q:Nat):Int) by omega];refine XM om d λF w4 d=>?_;rw[fpm1,pm_1 d 1 rfl];have e:∀W:ao,(aS 246 #[(2,.int .i64 x.c)]).run ah W=.ok (.value (rwV nilS nilS x.c)) W:=λW=>by kernel_rfl
  refine aD (e w4) |>.mpr ?_;refine bA (λb=>.pointer (ax ⟨b,0,aw⟩)) (rwC nilS nilS 0) 246 (λ_=>by kernel_rfl) d λo w5 d=>?_;refine gX 0 d rfl (new:=rwC nilS nilS x.c) szRw (Vp rfl rfl) rfl λw6 d=>?_;have d:=d.nilU 5 1;have d:OwnS NoB w w6 [outR nilS [],rwE o nilS nilS x.c,outR F [],pmE b x]:=d;have d:=d.perm (L':=[outR F [],outR nilS [],rwE o nilS nilS x.c,pmE b x]) (by
   refine .trans (.cons _ (.swap _ _ _)) (.swap _ _ _))
  generalize z:ff (jj x) x.c n x.head (s.length+1) s []=E at m;refine loop (λvs W=>∃(t prev out:List UInt8) (ov va l:aq) (e:Ent),vs=[.string ⟨t.toArray⟩,ov]∧t.length<=s.length∧t.length % n=0∧out.length+2*t.length<=2*s.length∧prev.length<=1000000∧BRd e l prev∧va.oneCell'=av∧(∃f,t.length < f∧out++ff (jj x) x.c n x.head f t prev=E)∧OwnS NoB w W [outR ov out,e,rwE o va l x.c,pmE b x]) (λvs _=>yE (vs.getD 0 undef)) ⟨s,[],[],F,nilS,nilS,_,rfl,om,L,sm,sm,λW h=>yO h,rfl,⟨s.length+1,om,by rw[anV];exact z⟩,d⟩ ?_;clear d z;rintro vs w6 ⟨t,prev,out,ov,va,l,e,rfl,c0,a1,c1,c2,G,c3,⟨f,hf,z⟩,d⟩ _;simp only[jQ,gd,iN,dx,bnx,lnx];obtain⟨f,rfl⟩:∃f',f=f'+1:=⟨f - 1,om⟩;rw[ff] at z;rw[gM amP]
  try simp only[rs]
  by_cases V:t=[]
  ·rw[amB V,amY] at z;simp only[show ai ((0:Int) < (t.length:Int))=au from amE (by rw[V];decide),i_f];rw[KA anD aoK amP (yO (d.at_ 0 rfl)),z];exact m _ d.done
  have c4:0 < t.length:=arC.2 V;rw[amA V] at z;simp only[show ai ((0:Int) < (t.length:Int))=av from amG om,i_t];have a6:n<=t.length:=Nat.le_of_dvd om (Nat.dvd_of_mod_eq_zero a1);refine join λJ2 a7=>?_;have H:l.oneCell'=true:=lJ (G w6 (d.at_ 1 rfl));have k:(t.take n).length=n:=by rw[amL];omega
  generalize O:t.take n=row at z k;have Y:∀tag:Int,(dj tag prev row x.c).length=n:=λtag=>by rw[iy,k]
  -- behind a row
  have next:∀(b2 cap:Nat) (v':aq) (new:List UInt8) (W:ao),OwnS NoB w W [.mkr 5 b2 row,outR v' (out++new),e,rwE o l (.slice (ax ⟨b2,0,aw⟩) n cap) x.c,pmE b x]->new.length<=2*n ->
    new=(if x.head=1 then [UInt8.ofNat (jj x prev row)] else [])++dj (jj x prev row:Nat) prev row x.c->J2 [v'] W:=by
   intro b2 cap v' new W d c5 P;refine a7 _ _ λ_=>?_;simp only[pW,gd,nz];rw[Qa amP om om,amK];have Q:BRd (.mkr 5 b2 row) (.slice (ax ⟨b2,0,aw⟩) n cap) row:=by
    have:=@TH b2 cap row
    rwa [k] at this
   have R:(t.drop n).length=t.length - n:=amQ;refine aY ⟨t.drop n,row,out++new,v',l,_,_,rfl,om,?_,by rw[amC];omega,om,Q,H,⟨f,om,?_⟩,?_⟩ ?_
   ·rw[R,Nat.mod_eq_sub_mod a6] at *;omega
   ·rw[P,amM,amM];exact z
   ·exact (OwnS.swap d).sub (.cons_cons _ (.cons_cons _ (.cons _ (arK _))))
   ·show yE (.string ⟨(t.drop n).toArray⟩) < yE (.string ⟨t.toArray⟩);rw[sA,sA,R];omega
  have fin:∀b2 cap W,OwnS NoB w W [.mkr 5 b2 row,outR ov out,e,rwE o l (.slice (ax ⟨b2,0,aw⟩) row.length cap) x.c,pmE b x]->gA (.pointer (ax ⟨b,0,aw⟩)) ov (.pointer (ax ⟨o,0,aw⟩)) W J2 K:=by
   intro b2 cap W d;rw[k] at d;unfold gA iN ldx bnx fax ecx apx cx;have hA:∀W,OwnS NoB w W [.mkr 5 b2 row,outR ov out,e,rwE o l (.slice (ax ⟨b2,0,aw⟩) n cap) x.c,pmE b x]->Sl W l 1 prev.length (aP prev):=λW d=>G W (d.at_ 2 rfl);have hR:∀W,OwnS NoB w W [.mkr 5 b2 row,outR ov out,e,rwE o l (.slice (ax ⟨b2,0,aw⟩) n cap) x.c,pmE b x]->Sl W (.slice (ax ⟨b2,0,aw⟩) n cap) 1 row.length (aP row):=λW d=>by
    have:=Vb (cap:=cap) (d.at_ 0 rfl);rw[k] at this ⊢;exact this
   rw[fpm0,pm_0 d 4 rfl]
   try simp only[rs]
   have b4:2<=x.p∧x.p<=15:=om
   rw[aA om om];refine join λJ4 a8=>?_;rw[fpm0,pm_0 d 4 rfl]
   try simp only[rs]
   by_cases r:x.p=2
   ·simp only[r,amD,i_t];rw[l_at (d.agg 3 rfl ME)];refine P8 (tag:=1) d hA hR hc om λg Z d=>?_;refine bR 2 anD elU8 dc d rfl (d.sl 0 rfl 1 row.length row.length (by rw[gR,iy,anC])) eW om om λv' w8 d=>?_;have hT:jj x prev row=1:=by unfold jj kx;rw[amB r]
    have hh:¬x.head=1:=by unfold Pm.head;rw[amA om];decide
    refine next b2 cap v' (dj 1 prev row x.c) w8 ?_ (by rw[Y];omega) (by rw[amA hh,hT];rfl)
    rw[qM,Y,<-k];rw[<-k] at d;exact d.tail
   simp only[r,amF,i_f];have S:10<=x.p:=om
   have hh:x.head=1:=by unfold Pm.head;rw[amB S]
   have D:∀(tag:Nat) (W:ao),tag=jj x prev row->OwnS NoB w W [.mkr 5 b2 row,outR ov out,e,rwE o l (.slice (ax ⟨b2,0,aw⟩) n cap) x.c,pmE b x]->J4 [ov,.int .i64 (tag:Int)] W:=by
    intro tag W U d;refine a8 _ _ λ_=>?_;simp only[qO,gd];have d:=d.drew;refine⟨λW=>(rwE o l (.slice (ax ⟨b2,0,aw⟩) n cap) x.c).is W,d.at_ 3 rfl,?_⟩;refine aR _ (λW=>acM aoK anT tag W) ?_;refine jH (rwV l (.slice (ax ⟨b2,0,aw⟩) n cap) x.c) (λW h=>aW (AtV.agg ME (cs:=rwC l (.slice (ax ⟨b2,0,aw⟩) n cap) x.c) rfl λj u hj=>by rw[amO];exact aI (T:=246) h hj)) ?_;refine TO (UInt8.ofNat tag) d λb8 w9 d=>⟨d.at_ 4 rfl,?_⟩;refine bR 2 anD elU8 dc d rfl (pA (d.at_ 0 rfl) dc rfl) eW om om λv' b0 d=>⟨d.at_ 4 rfl,?_⟩;have d:OwnS NoB w b0 [.mkr 5 b2 row,outR v' (out++[UInt8.ofNat tag]),e,rwE o l (.slice (ax ⟨b2,0,aw⟩) n cap) x.c,pmE b x]:=by
     rw[qM];exact d.tail
    refine P8 (tag:=(tag:Int)) d (λW d=>G W (d.at_ 2 rfl)) (λW d=>by
     have:=Vb (cap:=cap) (d.at_ 0 rfl);rw[k] at this ⊢;exact this) hc om λg c6 d=>⟨d.at_ 4 rfl,?_⟩
    refine bR 2 anD elU8 dc d rfl (d.sl 0 rfl 1 row.length row.length (by rw[gR,iy,anC])) eW (by rw[amC,aoI];omega) (by rw[amC,aoI];omega) λb1 b3 d=>⟨d.at_ 4 rfl,?_⟩;refine next b2 cap b1 ([UInt8.ofNat tag]++dj (tag:Int) prev row x.c) b3 ?_ (by rw[amC,Y,aoI];omega) (by rw[amB hh,U])
    rw[<-amM,qM,Y,<-k];rw[<-k] at d;exact d.tail
   by_cases A:x.p=15
   ·simp only[A,amD,i_t];rw[l_at (d.agg 3 rfl ME)];refine afM d hA hR hc om λZ d=>?_;exact D _ Z (by unfold jj kx;rw[amA r,amB A]) d
   ·simp only[A,amF,i_f];rw[show x.p - 10=(((x.p - 10).toNat:Nat):Int) by omega];exact D _ W (by unfold jj kx;rw[amA r,amA A]) d
  have d:=d.drew;refine⟨λW=>∃a,(rwE o a l x.c).is W,⟨va,d.at_ 2 rfl⟩,?_⟩;refine aR _ (λ_=>bE vQ) (jH _ (λW ⟨a,h⟩=>wO h) ?_);refine aR _ (λ_=>XI amP om om) ?_;rw[amK,O];refine aR _ (λ_=>bE P6) ⟨?_,?_⟩
  ·refine KO amP anD aoK d λb cap Z d=>⟨⟨va,d.at_ 3 rfl⟩,?_⟩;refine aK 3 d rfl krx H (by show 0+0 < 3;omega) λw8 d=>?_;refine aR _ (λ_=>bE vQ) ?_;refine aK 3 d rfl krx rfl (by show 0+1 < 3;omega) λw9 d=>?_;exact fin b cap w9 d
  ·refine aK 2 d rfl krx H (by show 0+0 < 3;omega) λw8 d=>?_;refine KO amP anD aoK d λb cap Z d=>⟨⟨l,d.at_ 3 rfl⟩,?_⟩;refine aR _ (λ_=>bE vQ) ?_;refine aK 3 d rfl krx rfl (by show 0+1 < 3;omega) λw9 d=>?_;exact fin b cap w9 d
 rw[fpm0,pm_0 d 0 rfl]
 try simp only[rs]
 by_cases I:10<=x.p
 ·simp only[I,amD,gd,rs];rw[gM amP,gM amP,C]
  try simp only[rs]
  rw[aA om om];by_cases h5:1048576 < s.length+q
  ·rw[amB ⟨I,h5⟩] at i;simp only[show ai ((1048576:Int) < (s.length:Int)+(q:Int))=av from amG om,i_t];exact B _ _ ⟨by rw[<-i];rfl,d.done⟩
  ·rw[amA om] at i;simp only[show ai ((1048576:Int) < (s.length:Int)+(q:Int))=au from amE om,i_f];exact main i.symm
 ·rw[amA om] at i;simp only[I,amF,gd,rs,i_f];exact main i.symm
end
section
open Eng Go.RowKit
def PdR (x:Pm):Prop:=∀(s:List UInt8) (w:ao),s.length<=1000000000->Ret ah 193 #[pmV x,.string ⟨s.toArray⟩] w (λv w'=>v=zlT (ft x s)∧Below w.heap.size w w')
def PeR (x:Pm):Prop:=∀(s:List UInt8) (w:ao),s.length<=1000000000->Ret ah 190 #[pmV x,.string ⟨s.toArray⟩] w (λv w'=>v=encT (if dt x s=0 then du x s else []) (dt x s)∧Below w.heap.size w w')
theorem pdR (x:Pm):PdR x:=NQ x
theorem peR (x:Pm):PeR x:=Nq x
end
section
open Eng Go.RowKit
theorem wk (c:Int)(n h:Nat):∀(f:Nat) (s prev out:List UInt8),(jz c n h f s prev out).1.length<=out.length+s.length
|0,_,_,_=>anG _
|f+1,s,prev,out=>by
  unfold jz;split
  ·exact Nat.le_add_right _ _
  generalize (if h=1 then (s.getD 0 0).toNat else 1:Nat)=tag;split
  ·exact anG _
  dsimp only;have a:(dv (tag:Int) prev c [] ((s.drop h).take n)).length=min n (s.length - h):=by
   rw[pz,amL,amQ];simp
  generalize dv (tag:Int) prev c [] ((s.drop h).take n)=row at a;have:=wk c n h f (s.drop (n+h)) row (out++row);rw[amC,amQ] at this;omega
theorem R0 (x:Pm)(s:List UInt8):(ft x s).1.length<=s.length:=by
 unfold ft;split
 ·exact anG _
 split
 ·exact anG _
 split
 ·exact amJ _
 split
 ·exact anG _
 ·have:=wk x.c (x.c*x.n).toNat x.head (s.length+1) s [] [];simpa using this
namespace Ff
def undo (n:List UInt8)(p:Pm)(s:List UInt8):List UInt8×Int:=
 if full n=nHx then od s 1048576
 else if full n=n85 then sd s 1048576
 else if full n=nRL then qt s 1048576
 else if full n=nFl then
  if ¬p.ok then ([],1)
  else if (gj s 1048576).2≠0 then ([],(gj s 1048576).2)
  else ft p (gj s 1048576).1
 else ([],15)
def chain:List (List UInt8)->List Pm->List UInt8->List UInt8×Int
|n::ns,p::ps,s=>if (undo n p s).2≠0 then ([],(undo n p s).2) else chain ns ps (undo n p s).1
|_,_,s=>(s,0)
def decode (o:Ob):List UInt8×Int:=if (of o).2.2≠0 then ([],(of o).2.2) else chain (of o).1 (of o).2.1 o.s
theorem ahO {o:Ob}:(of o).2.1.length=(of o).1.length:=by
 unfold of;by_cases b:o.k≠9
 ·rw[amB b];rfl
 rw[amA b];by_cases c:(names o).2≠0
 ·rw[amB c];rfl
 rw[amA c];by_cases a:(tV o (names o).1.length).2≠0
 ·rw[amB a];rfl
 rw[amA a];split
 ·rfl
 ·exact LF (Decidable.not_not.1 a)
end Ff
theorem Ry:cN ah 173=true:=krx
theorem RA:cN ah 171=true:=krx
theorem Mr:cN ah 122=true:=krx
theorem nFnU:eD ah 94=true:=krx
theorem nFnS:eD ah 36=true:=krx
theorem nFnW:eD ah 89=true:=krx
theorem Ym:fOff ah 91 0=ax 0:=krx
theorem Y6:fOff ah 91 1=ax 1:=krx
theorem szWy:(Tryz.prog.info? 91).map (·.size)=ax 2:=krx
theorem VJ:aggN ah 91=ax 2:=krx
theorem adB:aggN ah 143=ax 3:=krx
theorem szFt:(Tryz.prog.info? 143).map (·.size)=ax 3:=krx
theorem XW:fOff ah 143 0=ax 0:=krx
def fnV (f:Nat):Value:=.func (.func f) #[] #[]
def Dq (b:Nat):Value:=.func (.func 173) #[] #[.pointer (ax ⟨b,0,aw⟩)]
def Dl (b:Nat):Value:=.func (.func 171) #[] #[.pointer (ax ⟨b,0,aw⟩)]
def K4 (x:Pm):Value:=.func (.func 121) #[pmV x] #[]
def uI (x:Pm):Value:=.func (.func 122) #[pmV x] #[]
abbrev upE (b f:Nat):Ent:=.cells b [fnV f] 94
abbrev Rd (b f:Nat):Ent:=.cells b [fnV f] 36
def wyC (p u:aq):List Value:=[p,u]
abbrev wyE (b:Nat)(p u:aq):Ent:=.cells b (wyC p u) 91
section
variable {w:ao}{PK:PKT}{K:VWP}{S:Nat->Prop}{w0:ao}{L:List Ent}
theorem UL (a:OwnS S w0 w L)(k:∀b W,OwnS S w0 W (upE b f::L)->K (Dq b) W):CallX ah 115 #[.func (.func f) #[] #[]] w PK K:=by
 refine fH (FG (k0:=RetK λv W=>∃b,v=Dq b∧OwnS S w0 W (upE b f::L)) ?_) (λe W ⟨v,he,b,c,a⟩=>by subst he;subst c;exact k b W a);unfold Cg nz;refine bA (λb=>.pointer (ax ⟨b,0,aw⟩)) [fnV f] 94 (λ_=>by kernel_rfl) a λb d a=>?_;rw[qB];exact retK ⟨b,rfl,a⟩
theorem Vv (a:OwnS S w0 w L)(k:∀b W,OwnS S w0 W (Rd b f::L)->K (Dl b) W):CallX ah 113 #[.func (.func f) #[] #[]] w PK K:=by
 refine fH (FW (k0:=RetK λv W=>∃b,v=Dl b∧OwnS S w0 W (Rd b f::L)) ?_) (λe W ⟨v,he,b,c,a⟩=>by subst he;subst c;exact k b W a);unfold CZ nz;refine bA (λb=>.pointer (ax ⟨b,0,aw⟩)) [fnV f] 36 (λ_=>by kernel_rfl) a λb d a=>?_;rw[qB];exact retK ⟨b,rfl,a⟩
theorem ZY {fn fn2:Fn}{a b a2 b2:Array aq}:DoX ah (aS 91 #[(0,.func fn a b),(1,.func fn2 a2 b2)]) w PK K=K (.agg (wyC (.func fn a b) (.func fn2 a2 b2)).toArray) w:=aD krx
theorem acD {n:List UInt8}(e:OwnS S w0 w L)
  (q:∀(f g:Nat),(Ff.full n=Ff.nHx∧f=114∧g=116)∨(Ff.full n=Ff.n85∧f=117∧g=118)∨(Ff.full n=Ff.nRL∧f=119∧g=120)->∀i b2 W,OwnS S w0 W (upE b2 g::Rd i f::L)->K (.tuple #[.agg (wyC (Dl i) (Dq b2)).toArray,.int .i64 0]) W)
  (t:Ff.full n=Ff.nFl->∀W,OwnS S w0 W L->K (.tuple #[.agg (wyC (K4 x) (uI x)).toArray,.int .i64 (if x.ok then 0 else 1)]) W)
  (y:Ff.full n=[]->∀W,OwnS S w0 W L->K (.tuple #[.agg (wyC .nilFunc .nilFunc).toArray,.int .i64 15]) W):CallX ah 54 #[.string ⟨n.toArray⟩,pmV x] w PK K:=by
 refine⟨IQ ?_⟩;unfold HS nz;refine IW x e λb3 E e=>?_;refine bA (λb=>.pointer (ax ⟨b,0,aw⟩)) (wyC .nilFunc .nilFunc) 91 (λ_=>by kernel_rfl) e λr w2 e=>?_;refine c_eq (Hs n w2) ?_;simp only[ex,rs];have one:∀{fn fn2:Fn} {a b a2 b2:Array aq},∀u∈wyC (.func fn a b) (.func fn2 a2 b2),u.oneCell'=true:=by
  intro fn fn2 a b a2 b2 u hu;simp only[wyC,amH,anW,or_false] at hu;rcases hu with rfl|rfl<;>rfl
 have fr:∀{W:ao} {a b c d:Ent},OwnS S w0 W (a::b::c::d::L)->OwnS S w0 W (a::b::L):=λe=>e.sub (.cons_cons _ (.cons_cons _ (.cons _ (.cons _ (arK _)))));have z:=Ff.Eb n;by_cases k:Ff.full n=[]
 ·simp only[amE (show ¬Ff.full n≠[] fromλh=>h k),aoD,i_t];refine aD (show (aS 91 #[]).run ah w2=.ok (.value (.agg (wyC .nilFunc .nilFunc).toArray)) w2 by kernel_rfl) |>.mpr ?_;refine gX 0 e rfl (new:=wyC .nilFunc .nilFunc) szWy (λu hu=>by
   simp only[wyC,amH,anW,or_false] at hu;rcases hu with rfl|rfl<;>rfl) rfl λw3 e=>?_
  exact wB (bJ (e.agg 0 rfl VJ)) vS (y k w3 e.tail.tail)
 simp only[amG (show Ff.full n≠[] from k),aoB,i_f];by_cases l:Ff.full n=Ff.nHx
 ·simp only[amG l,i_t];refine Vv e λi w3 e=>?_;refine UL e λb2 m e=>?_;unfold Dl Dq;rw[ZY];refine gX 2 e rfl (new:=wyC (Dl i) (Dq b2)) szWy one rfl λj e=>?_;exact wB (bJ (e.agg 2 rfl VJ)) vS (q _ _ (.inl ⟨l,rfl,rfl⟩) i b2 j (fr e))
 simp only[amE l,i_f]
 try simp only[rs]
 by_cases o:Ff.full n=Ff.n85
 ·simp only[amG o,i_t];refine Vv e λi w3 e=>?_;refine UL e λb2 m e=>?_;unfold Dl Dq;rw[ZY];refine gX 2 e rfl (new:=wyC (Dl i) (Dq b2)) szWy one rfl λj e=>?_;exact wB (bJ (e.agg 2 rfl VJ)) vS (q _ _ (.inr (.inl ⟨o,rfl,rfl⟩)) i b2 j (fr e))
 simp only[amE o,i_f]
 try simp only[rs]
 by_cases p:Ff.full n=Ff.nRL
 ·simp only[amG p,i_t];refine Vv e λi w3 e=>?_;refine UL e λb2 m e=>?_;unfold Dl Dq;rw[ZY];refine gX 2 e rfl (new:=wyC (Dl i) (Dq b2)) szWy one rfl λj e=>?_;exact wB (bJ (e.agg 2 rfl VJ)) vS (q _ _ (.inr (.inr ⟨p,rfl,rfl⟩)) i b2 j (fr e))
 simp only[amE p,i_f];have A:Ff.full n=Ff.nFl:=by
  rcases z with h|h|h|h|h
  ·exact absurd h l
  ·exact absurd h o
  ·exact absurd h p
  ·exact h
  ·exact absurd h k
 rw[pm_v e 1 rfl];refine aD (show (aS 143 #[(0,pmV x)]).run ah w2=.ok (.value (.agg (pmC x).toArray)) w2 by kernel_rfl) |>.mpr ?_;refine bA (λb=>.pointer (ax ⟨b,0,aw⟩)) (pmC ⟨0,0,0⟩) 143 (λ_=>by kernel_rfl) e λs w3 e=>?_;refine gX 0 e rfl (new:=pmC x) szFt Ic rfl λm e=>?_;have e:OwnS S w0 m (.cells s (pmC x) 143::wyE r .nilFunc .nilFunc::pmE b3 x::L):=e;refine dW (λW=>OwnS S w0 W (.cells s (pmC x) 143::wyE r .nilFunc .nilFunc::pmE b3 x::L)) e.drew ?_;refine q_at (pmV x) (λW h=>aW (h.agg 0 rfl adB)) ?_;refine q_do (K4 x) (λ_=>cJ rfl) ?_;refine q_at (pmV x) (λW h=>aW (h.agg 0 rfl adB)) ?_;refine q_do (uI x) (λ_=>cJ rfl) ?_;refine q_do (.agg (wyC (K4 x) (uI x)).toArray) (λ_=>by kernel_rfl) ?_;refine q_at (pmV x) (λW h=>aW (h.agg 2 rfl KV)) ?_;refine mG _ (λW h=>(Jv x W).mono λv w' ⟨B,C⟩=>⟨B,h.grow C⟩) ?_;intro j e;refine gX 1 e rfl (new:=wyC (K4 x) (uI x)) szWy one rfl λD e=>?_;exact wB (bJ (e.agg 1 rfl VJ)) vS (t A D e.tail.tail.tail)
end
theorem SK (b f:Nat)(s:List UInt8)(D:List UInt8×Int)(M:Mem)(w:ao)(hp:cN ah f=av)(c:(upE b f).is w)(a:M.has w)
  (h:RetM ah f #[.string ⟨s.toArray⟩,.int .i64 1048576] M w (λv _=>v=zlT D∧D.1.length<=1048576)):RetM ah 173 #[.string ⟨s.toArray⟩,.pointer (ax ⟨b,0,aw⟩)] M w (λv _=>v=zlT D∧D.1.length<=1048576):=by
 refine bB a λK d=>Dn ?_;unfold wY nz;rw[aJ nFnU (aI (T:=94) (cs:=[fnV f]) c (i:=0) rfl)];unfold fnV;refine IG hp (bH (OwnS.memS a) 0 rfl h ?_);rintro _ N j g1 ⟨rfl,e⟩ g;simp only[zlT,ex];exact d _ _ N _ 0 g rfl g1 ⟨rfl,e⟩
theorem OK (x:Pm)(k:PdR x)(s:List UInt8)(M:Mem)(w:ao)(f:Rp M)(g:Od M)(l:s.length<=1000000000)(i:M.has w) :
  RetM ah 122 #[pmV x,.string ⟨s.toArray⟩] M w (λv _=>v=zlT (if (gj s 1048576).2≠0 then ([],(gj s 1048576).2) else ft x (gj s 1048576).1)∧(gj s 1048576).1.length<=1048576):=by
 refine bB i λK c=>rU ?_;unfold mI nz;refine bA (λb=>.pointer (ax ⟨b,0,aw⟩)) (pmC x) 143 (λ_=>by kernel_rfl) (OwnS.memS i) λb2 m a=>?_;refine bH a 1 rfl (NT s 1048576 M m f g l (a.hasM 1 rfl)) ?_;rintro _ N w2 g1 ⟨rfl,d⟩ a;generalize gj s 1048576=U at c d;obtain⟨t,e⟩:=U;dsimp only at c d;simp only[zlT,ex,eN];by_cases he:e=0
 case neg=>
  rw[amB he] at c;simp only[amG (show e≠0 from he),i_t];exact c _ _ N _ 1 a rfl g1 ⟨rfl,d⟩
 rw[amA (λh=>h he)] at c;simp only[amE (show ¬e≠0 fromλh=>h he),i_f];rw[aO XW,l_at (T:=27) (v:=pmV x) (AtV.agg KV (cs:=pmC x) rfl λj u n=>by rw[aoC,amO];exact a.cell 0 rfl j n)];refine aL a (k t w2 om) ?_;rintro _ w3 rfl a;simp only[zlT,ex];exact c _ _ N _ 1 a rfl g1 ⟨rfl,d⟩
def UdA (n:List UInt8)(x:Pm):Prop:=∀(f g:Nat),(Ff.full n=Ff.nHx∧f=114∧g=116)∨(Ff.full n=Ff.n85∧f=117∧g=118)∨(Ff.full n=Ff.nRL∧f=119∧g=120)->∀(s:List UInt8) (M:Mem) (w:ao),Pws M->s.length<=1000000000->M.has w ->
 ∃_:cN ah g=av,RetM ah g #[.string ⟨s.toArray⟩,.int .i64 1048576] M w (λv _=>v=zlT (Ff.undo n x s)∧(Ff.undo n x s).1.length<=1048576)
theorem agC {n:List UInt8}(h:Ff.full n=Ff.nFl):UdA n x:=by
 intro f g b;rcases b with ⟨a,_⟩|⟨a,_⟩|⟨a,_⟩<;>rw[h] at a<;>exact absurd a dc
theorem V4 (n:List UInt8)(x:Pm)(G:PdR x)(H:UdA n x)(s:List UInt8)(M:Mem)(w:ao)(m:Rp M)(o:Od M)(q:Pws M)(C:s.length<=1000000000)(D:M.has w) :
  RetM ah 15 #[.string ⟨n.toArray⟩,pmV x,.string ⟨s.toArray⟩] M w (λv _=>v=zlT (Ff.undo n x s)∧(Ff.undo n x s).1.length<=1048576):=by
 refine bB D λK i=>FF ?_;generalize c:Ff.undo n x s=X at i;have r:=c;unfold Ff.undo at c;unfold B3 nz;refine IW x (OwnS.memS D) λE J a=>?_;rw[pm_v a 0 rfl];have d:∀{p u:aq},p.oneCell'=av->u.oneCell'=av->∀y∈wyC p u,y.oneCell'=true:=by
  intro p u hp hu y F;simp only[wyC,amH,anW,or_false] at F;rcases F with rfl|rfl<;>assumption
 refine acD a (λf g t z b2 w2 a=>?_) (λe w2 a=>?_) (λe w2 a=>?_)
 ·simp only[ex];refine bA (λb=>.pointer (ax ⟨b,0,aw⟩)) (wyC .nilFunc .nilFunc) 91 (λ_=>by kernel_rfl) a λk w3 a=>?_;refine gX 0 a rfl (new:=wyC (Dl z) (Dq b2)) szWy (d rfl rfl) rfl λh a=>?_;have a:OwnS M.A w h [wyE k (Dl z) (Dq b2),upE b2 g,Rd z f,pmE E x,.mem M]:=a;simp only[eN,show ai ((0:Int)≠0)=au from rfl,i_f];rw[aO Y6,aJ nFnW (a.cell 0 rfl 1 rfl)];have j:=a.hasM 4 rfl;have key:=H f g t s M h q C j;rw[r] at key;obtain⟨hp,key⟩:=key;unfold Dq;refine IG Ry (bH a 4 rfl (SK b2 g s X M h hp (a.at_ 1 rfl) j key) ?_);rintro _ N I g1 ⟨rfl,B⟩ a;simp only[zlT,ex];exact i _ _ N _ 4 a rfl g1 ⟨rfl,B⟩
 ·rw[amA (by rw[e];decide),amA (by rw[e];decide),amA (by rw[e];decide),amB e] at c;simp only[ex];refine bA (λb=>.pointer (ax ⟨b,0,aw⟩)) (wyC .nilFunc .nilFunc) 91 (λ_=>by kernel_rfl) a λk w3 a=>?_;refine gX 0 a rfl (new:=wyC (K4 x) (uI x)) szWy (d rfl rfl) rfl λh a=>?_;have a:OwnS M.A w h [wyE k (K4 x) (uI x),pmE E x,.mem M]:=a;simp only[eN];by_cases l:x.ok
  case neg=>
   rw[amB l] at c;simp only[amA l,show ai ((1:Int)≠0)=av from rfl,i_t];exact i _ _ M _ 2 a rfl M.le_refl ⟨by rw[<-c];rfl,by rw[<-c];exact anG _⟩
  rw[amA (by simp[l])] at c;simp only[amB l,show ai ((0:Int)≠0)=au from rfl,i_f];rw[aO Y6,aJ nFnW (a.cell 0 rfl 1 rfl)];unfold uI;refine IG Mr (bH a 2 rfl (OK x G s M h m o C (a.hasM 2 rfl)) ?_);rintro _ N I g1 ⟨rfl,B⟩ a;rw[c];simp only[zlT,ex];refine i _ _ N _ 2 a rfl g1 ⟨rfl,?_⟩;rw[<-c];split
  ·exact anG _
  ·exact apG (R0 _ _) B
 ·rw[amA (by rw[e];decide),amA (by rw[e];decide),amA (by rw[e];decide),amA (by rw[e];decide)] at c;simp only[ex];refine bA (λb=>.pointer (ax ⟨b,0,aw⟩)) (wyC .nilFunc .nilFunc) 91 (λ_=>by kernel_rfl) a λk w3 a=>?_;refine gX 0 a rfl (new:=wyC .nilFunc .nilFunc) szWy (d rfl rfl) rfl λh a=>?_;simp only[eN,show ai ((15:Int)≠0)=av from rfl,i_t];exact i _ _ M _ 2 a rfl M.le_refl ⟨by rw[<-c];rfl,by rw[<-c];exact anG _⟩
end
section
open Eng Go.RowKit
theorem T0 {ns:List (List UInt8)}{ps:List Pm}(a:i < ns.length)(b:i < ps.length)(s:List UInt8) :
  Ff.chain (ns.drop i) (ps.drop i) s=if (Ff.undo ns[i] ps[i] s).2≠0 then ([],(Ff.undo ns[i] ps[i] s).2) else Ff.chain (ns.drop (i+1)) (ps.drop (i+1)) (Ff.undo ns[i] ps[i] s).1:=by
 rw[anX a,anX b,Ff.chain]
theorem U0 {ns:List (List UInt8)}{ps:List Pm}(a:ns.length<=i)(s:List UInt8):Ff.chain (ns.drop i) (ps.drop i) s=(s,0):=by
 rw[aoF a];unfold Ff.chain;rfl
theorem ym {o:Ob}:(Ff.of o).1.length<=8:=by
 have:=@Ff.SZ o;unfold Ff.of;by_cases a:o.k≠9
 ·rw[amB a];exact anG _
 rw[amA a];by_cases b:(Ff.names o).2≠0
 ·rw[amB b];exact anG _
 rw[amA b];by_cases c:(Ff.tV o (Ff.names o).1.length).2≠0
 ·rw[amB c];exact anG _
 rw[amA c];split
 ·exact anG _
 ·exact this
section
variable {M:Mem}{vn vp:aq}{ns:List (List UInt8)}{ps:List Pm}
theorem yU (b:SlA M.A M.w vn 1 ns.length (bS ns)):DoX ah (mB .len #[22] 3 #[au] #[vn]) W PK K=K (.int .i64 (ns.length:Int)) W:=by
 obtain⟨a,cap,rfl,_⟩:=b.form;exact bQ amV
end
theorem RC (o:Ob)(z:∀x∈(Ff.of o).2.1,PdR x)(B:∀n∈(Ff.of o).1,∀x,UdA n x)(v:aq)(M:Mem)(w:ao)(C:Rp M)(D:Od M)(E:Pws M)(hw:o.wt<=1000000000)(O:M.has w)(P:OV M.A M.w v o) :
  RetM ah 13 #[v] M w (λr _=>r=zlT (Ff.decode o)):=by
 obtain⟨vk,vc,V,rfl,Q⟩:=P.open;refine bB O λK y=>Ch ?_;generalize a:Ff.decode o=X at y;unfold Ff.decode at a;unfold zT nz;refine iE o Q.keys.one Q.kids.one (OwnS.memS O) λY Z b=>?_;rw[ob_v b 0 rfl];refine bH b 1 rfl (VB o _ M Z hw (b.hasM 1 rfl) P) ?_;have j:=@Ff.ahO o;have k:=@ym o;generalize Ff.of o=F at a j k z B;obtain⟨ns,ps,e⟩:=F;dsimp only at a j k z B;rintro _ N w2 g ⟨vn,vp,rfl,G,hp⟩ b;dsimp only at G hp;simp only[ex,sS (show [vn,vp,Value.int .i64 e][2]?=ax (Value.int .i64 e) from rfl),sS (show [vn,vp,Value.int .i64 e][1]?=ax vp from rfl),sS (show [vn,vp,Value.int .i64 e][0]?=ax vn from rfl),eN];by_cases he:e=0
 case neg=>
  rw[amB he] at a;simp only[amG (show e≠0 from he),i_t];exact y _ _ N _ 1 b rfl g (by rw[<-a];rfl)
 rw[amA (λh=>h he)] at a;simp only[amE (show ¬e≠0 fromλh=>h he),i_f];rw[FN,ob_s b 0 rfl,yU G];have H:o.s.length<=1000000000:=by
  have:o.s.length<=o.wt:=by rw[o.jX];omega
  omega
 refine loop (λvs W=>∃(i:Nat) (s:List UInt8) (l:Mem),vs=[.string ⟨s.toArray⟩,.int .i64 (i:Int)]∧i<=ns.length∧s.length<=1000000000∧N.le l∧Ff.chain (ns.drop i) (ps.drop i) s=X∧OwnS M.A w W [obE Y o vk vc,.mem l]) (λvs _=>ns.length - n1 vs) ⟨0,o.s,N,rfl,om,H,N.le_refl,a,b⟩ ?_;clear b a;rintro vs w3 ⟨i,s,l,rfl,hi,hs,c,a,b⟩ _;simp only[sW,gd,rs,nz];by_cases m:(i:Int) < (ns.length:Int)
 ·simp only[m,amD,i_t];have d:i < ns.length:=om
  have f:i < ps.length:=om
  rw[T0 d f] at a;obtain⟨p,I,J⟩:=LC (G.le c) d;rw[aD (I w3),aD (J w3 (b.hasM 1 rfl))];obtain⟨p2,q,u⟩:=pmAt (hp.le c) f;rw[aD (q w3),aD (u w3 (b.hasM 1 rfl))];refine bH b 1 rfl (V4 ns[i] ps[i] (z _ (amR f)) (B _ (amR d) _) s l w3 ((C.le g).le c) ((D.le g).le c) ((E.le g).le c) hs (b.hasM 1 rfl)) ?_;rintro _ R w4 S ⟨rfl,T⟩ b;generalize Ff.undo ns[i] ps[i] s=U at a T;obtain⟨t,L⟩:=U;dsimp only at a T;simp only[zlT,ex,eN];by_cases hu:L=0
  case neg=>
   rw[amB hu] at a;simp only[amG (show L≠0 from hu),i_t];exact y _ _ R _ 1 b rfl ((g.trans c).trans S) (by rw[<-a];rfl)
  rw[amA (λh=>h hu)] at a;simp only[amE (show ¬L≠0 fromλh=>h hu),i_f]
  try simp only[rs]
  rw[aA om om];exact aY ⟨i+1,t,R,rfl,om,om,c.trans S,a,b⟩ (by simp[n1,RowKit.intOf];omega)
 simp only[m,amF,i_f];rw[U0 om] at a;exact y _ _ l _ 1 b rfl (g.trans c) (by rw[<-a];rfl)
end
section
open Eng Go.RowKit
def ji (c:UInt8):Nat->List UInt8->Nat
|0,_=>0
|_,[]=>0
|f+1,d::r=>if d=c then ji c f r+1 else 0
def cc (s:List UInt8):Nat:=ji (s.getD 0 0) 128 s
theorem wm (c:UInt8):∀(f:Nat) (s:List UInt8),ji c f s<=f∧ji c f s<=s.length
|0,s=>by unfold ji;omega
|f+1,[]=>by unfold ji;exact⟨om,sm⟩
|f+1,d::r=>by
  have:=wm c f r;unfold ji;split
  ·rw[amW];omega
  ·omega
def lh:Nat->Nat->List UInt8->Nat
|0,n,_=>n
|f+1,n,s=>if n < min s.length 128∧cc (s.drop n) < 3 then lh f (n+1) s else n
def cu (s:List UInt8):Nat:=lh 128 1 s
theorem wo:∀(f n:Nat) (s:List UInt8),n<=min s.length 128->n<=lh f n s∧lh f n s<=min s.length 128
|0,n,s,h=>⟨amJ _,h⟩
|f+1,n,s,h=>by
  unfold lh;split
  ·rename_i a
   have:=wo f (n+1) s om;omega
  ·exact⟨amJ _,h⟩
def iq:Nat->List UInt8->List UInt8
|0,_=>[]
|f+1,s=>
  if s=[] then [128]
  else if 3<=cc s then [UInt8.ofNat (257 - cc s),s.getD 0 0]++iq f (s.drop (cc s))
  else [UInt8.ofNat (cu s - 1)]++s.take (cu s)++iq f (s.drop (cu s))
def mc (s:List UInt8):List UInt8:=iq (s.length+1) s
section
variable {w:ao}{PK:PKT}{K:Ending->ao->Prop}{N1:List aq->ao->Prop}{S:Nat->Prop}{w0:ao}{L:List Ent}
end
end
section
open Go
namespace Bd
def strm (o:Ob)(data:List UInt8):Ob:=.mk 9 (Vl.aQ o Vl.lenK).n (Vl.aQ o Vl.lenK).g data (Vl.aQ o Vl.lenK).keys (Vl.aQ o Vl.lenK).kids
theorem M8 (h:Vl.check 1 o=0)(c:o.k=7):Vl.lenK ∉ (Vl.aQ o Vl.lenK).keys:=by
 have d:Vl.keyed o=true:=by simp[Vl.keyed,c]
 have f:=Vl.gK (key:=Vl.lenK) h d;have a:Vl.keyed (Vl.aQ o Vl.lenK)=true:=by
  have e:(Vl.aQ o Vl.lenK).k=o.k:=rfl;simp[Vl.keyed,e,c]
 obtain⟨_,hlen⟩:=Vl.lH f a;intro hm;have b:=Vl.OJ o Vl.lenK;unfold Vl.get at b;rw[amB a,amB (List.idxOf_lt_length_of_mem hm),amN (by rw[<-hlen];exact List.idxOf_lt_length_of_mem hm)] at b;cases b
theorem I3 {data:List UInt8}(h:Vl.check 1 o=0)(d:o.k=7)(j:data.length<=1048576):Vl.check 1 (strm o data)=0:=by
 have l:Vl.keyed o=true:=by simp[Vl.keyed,d]
 have m:=Vl.gK (key:=Vl.lenK) h l;have b:=M8 h d;have f:(Vl.aQ o Vl.lenK).k=7:=d;unfold strm;generalize Vl.aQ o Vl.lenK=x at *;obtain⟨⟨p,a2,a3,a4,a5,r,c⟩,a⟩:=Vl.jK.1 m;obtain⟨k,n,g,s,t,cs⟩:=x;simp only[Ob.k,Ob.n,Ob.g,Ob.s,Ob.keys,Ob.kids] at *;subst f;refine Vl.jK.2 ⟨⟨p,?_,λ_=>arV 1 |> λ_=>by omega,?_,?_,r,?_⟩,a⟩
 ·unfold Vl.qT at a2 ⊢;simp only[Ob.k,Ob.n,Ob.g,Ob.s,Ob.keys,Ob.kids,Vl.used] at a2 ⊢
  simp_all
  exact a2.1
 ·simp[Vl.fits,Ob.k]
 ·simpa[Vl.long,Ob.k,Ob.s] using j
 ·unfold Vl.form at c ⊢;simp only[Ob.k] at c ⊢;simp only[show ai ((7:Int)=7∨(7:Int)=9)=av by decide,aoB,Bool.false_or,amX] at c;obtain⟨u,v,w,y⟩:=Vl.nX.1 c.2;have z:Vl.rising (.mk 9 n g data t cs)=true:=Vl.nX.2 ⟨u,v,λq i=>⟨(w q i).1,λ_ e=>b (e▸i)⟩,y⟩;simp[z]
theorem Ls (h:Vl.check 1 o=0)(a:o.k=7):(if Vl.keyed o=av∧Vl.check 1 o=0 then Vl.aQ o Vl.lenK else o)=Vl.aQ o Vl.lenK:=by
 rw[amB ⟨by simp[Vl.keyed,a],h⟩]
end Bd
end
section
open Eng
def Bj(t0 t1 w)(K:KT):=nz f87 1 [] [] [] (zg [0,1] [t0,t1]) w K
theorem DK:Bj t0 t1 w k0->Calls ah 87 #[t0,t1] w k0:=cw func87
end
end Go.Proofs.YtlipjfcbjemicaaGreatDoor

namespace Go.Proofs.YtlipjfcbjemicaaGreatDoor
variable{D:TypeId}{K:VWP}{M N:Eng.Mem}{P:Program}{PK PK2:PKT}{S:Nat->Prop}{W w w0:ao}{a colors way:Int}{above key:List UInt8}{b cap f i j jm m tb:Nat}{cb:Array Bool}{cl l near:List Nat}{cur:List aq}{o:Ob}{pv v v' va:aq}{x:Pm}{xo yo:Operand}{t0 t1:aq}{k0:Eng.KT}
section
open Eng Go.RowKit
theorem ND (o:Ob)(v:aq)(data:List UInt8)(M:Mem)(w:ao)(h:o.k=7)(i:Vl.check 1 o=0)(I:data.length<=1048576)(hw:o.wt<=1000000000)(C:M.has w)(j:OV M.A M.w v o) :
  RetM ah 87 #[v,.string ⟨data.toArray⟩] M w (λr N=>∃v',r=errV v' 0∧OV N.A N.w v' (Bd.strm o data)):=by
 obtain⟨vk,vc,cs,rfl,D⟩:=j.open;refine bB C λK J=>DK ?_;unfold Bj nz;refine iE o D.keys.one D.kids.one (OwnS.memS C) λb2 V a=>?_;refine fK a λL w2 a=>?_;rw[fP,ob_k a 1 rfl];simp only[rs,h,show ai ((7:Int)≠7)=au by decide,i_f];rw[ob_v a 1 rfl];refine aL a (R:=λv=>v=.int .i64 (Vl.check 1 o)) (jB o _ w2 (OV.inw (a.hasM 2 rfl) j) om) ?_;rintro _ w3 rfl a;simp only[i,eN,show ai ((0:Int)≠0)=au by decide,i_f];rw[ob_v a 1 rfl];refine bH a 2 rfl (Cq o _ Vl.lenK M w3 om (a.hasM 2 rfl) j) λy N W hle E a=>?_;have l:fh o Vl.lenK=Vl.aQ o Vl.lenK:=by unfold fh;exact Bd.Ls i h
 rw[l] at E;have m:=Bd.I3 (data:=data) i h I;have O:=Vl.jD o Vl.lenK;have c:Bd.strm o data=.mk 9 (Vl.aQ o Vl.lenK).n (Vl.aQ o Vl.lenK).g data (Vl.aQ o Vl.lenK).keys (Vl.aQ o Vl.lenK).kids:=rfl;generalize Vl.aQ o Vl.lenK=x at *;obtain⟨p,q,u,rfl,b⟩:=E.open;refine fK a λP X a=>?_;refine bK 0 b.keys.one b.kids.one a rfl λY a=>?_;rw[fP];refine aK 0 a rfl krx rfl (show 0 < 6 by omega) λZ a=>?_;rw[FN];refine aK 0 a rfl krx rfl (show 0+3 < 6 by omega) λF a=>?_;have a:OwnS M.A w F [obE P (Bd.strm o data) p q,obE L ob0 nilS nilS,obE b2 o vk vc,.mem N]:=by rw[c];exact a
 have z:OV N.A N.w (obV (Bd.strm o data) p q) (Bd.strm o data):=by
  rw[c];exact ObAt.ov (o:=.mk 9 x.n x.g data x.keys x.kids) (vk:=p) (vc:=q) (cs:=u) ⟨b.keys,b.kids,b.all⟩
 have B:(Bd.strm o data).wt<=100000000000:=by
  have G:=Vl.jX (Bd.strm o data);have Q:=Vl.jX x;rw[c] at G ⊢;simp only[Ob.s,Ob.keys,Ob.kids] at G Q ⊢;omega
 rw[ob_v a 0 rfl];refine bH a 3 rfl (HF _ _ N F B (a.hasM 3 rfl) z) ?_;rintro _ S w9 e ⟨t,rfl,H⟩ a;have f:Vl.right (Bd.strm o data)=(Bd.strm o data,0):=by unfold Vl.right;rw[amA (by simp[m])]
 rw[f] at H;obtain⟨tk,tc,T,rfl,d⟩:=H.open;simp only[errV,ex,f];refine bK 1 d.keys.one d.kids.one a rfl λU a=>?_;exact fE 1 a rfl (J _ _ S _ 3 a rfl (hle.trans e) ⟨_,rfl,d.ov⟩)
end
section
open Eng Go.RowKit
namespace Ff
def nV (o:Ob):Ob:=.mk 7 o.n o.g [] o.keys o.kids
def bare (o:Ob):Ob:=Vl.aQ (Vl.aQ (nV o) aX) cL
def plain (o:Ob)(data:List UInt8):Ob×Int:=
 if o.k≠9∧o.k≠7 then (Vl.ob0,10)
 else if Vl.check 1 (nV o)≠0 then (Vl.ob0,Vl.check 1 (nV o))
 else (Bd.strm (bare o) data,0)
theorem Pa (o:Ob):(nV o).wt<=o.wt:=by
 obtain⟨k,n,g,s,a,cs⟩:=o;show (Ob.mk 7 n g [] a cs).wt<=(Ob.mk k n g s a cs).wt;rw[Ob.wt,Ob.wt];have:([]:List UInt8).length=0:=rfl;omega
end Ff
theorem RT (o:Ob)(v:aq)(data:List UInt8)(M:Mem)(w:ao)(G:data.length<=1048576)(hw:o.wt<=1000000000)(E:M.has w)(H:OV M.A M.w v o) :
  RetM ah 30 #[v,.string ⟨data.toArray⟩] M w (λr N=>∃v',r=errV v' (Ff.plain o data).2∧OV N.A N.w v' (Ff.plain o data).1):=by
 obtain⟨vk,vc,cs,rfl,l⟩:=H.open;refine bB E λK y=>DO ?_;generalize b:Ff.plain o data=X at y;unfold Ff.plain at b;unfold Ba nz;refine iE o l.keys.one l.kids.one (OwnS.memS E) λb2 w1 a=>?_;refine fK a λc w2 a=>?_;have no:∀{W:ao} {N:Mem} {e:Int} {x:Ob},OwnS M.A w W [obE c ob0 nilS nilS,obE b2 x vk vc,.mem N]->M.le N->X=(Vl.ob0,e)->DoX ah (aS 25 #[]) W (pk K) (λt W=>DoX ah (aN 25 (.pointer (ax ⟨c,0,aw⟩)) t) W (pk K) λ_ W=>RetX ah [.cell (.pointer (ax ⟨c,0,aw⟩)) 25,.val (.int .i64 e)] W K):=by
  intro W N e x a hle F;rw[Kz];refine bK 0 rfl rfl a rfl λz a=>?_;refine fE 0 a rfl (y _ _ N _ 2 a rfl hle ⟨obV Vl.ob0 nilS nilS,?_,?_⟩)
  ·rw[F];rfl
  ·rw[F];exact vB N
 rw[fP,ob_k a 1 rfl];simp only[rs];have f:OV M.A M.w (obV (Ff.nV o) vk vc) (Ff.nV o):=ObAt.ov (o:=Ff.nV o) (vk:=vk) (vc:=vc) (cs:=cs) ⟨l.keys,l.kids,l.all⟩;have main:¬(o.k≠9∧o.k≠7)->DoX ah (mFA 25 (.pointer (ax ⟨b2,0,aw⟩)) 0) w2 (pk K) λt16 w=>
 DoX ah (aN 3 t16 (.int .i64 7)) w (pk K) λ_ w=>
 DoX ah (mFA 25 (.pointer (ax ⟨b2,0,aw⟩)) 3) w (pk K) λt17 w=>
 DoX ah (aN 9 t17 (.string ⟨#[]⟩)) w (pk K) λ_ w=>
 DoX ah (aH 25 (.pointer (ax ⟨b2,0,aw⟩))) w (pk K) λt18 w=>
 CallX ah 86 #[t18] w (pk K) λt19 w=>
 DoX ah (mEq .neq 30 (.tmp 20) (.const (.int .i64 0)) t19 (.int .i64 0)) w (pk K) λt21 w=>
 IfX t21 (DoX ah (aS 25 #[]) w (pk K) λt22 w=>
 DoX ah (aN 25 (.pointer (ax ⟨c,0,aw⟩)) t22) w (pk K) λ_ w=>
 RetX ah [.cell (.pointer (ax ⟨c,0,aw⟩)) 25,.val t19] w K) (DoX ah (aH 25 (.pointer (ax ⟨b2,0,aw⟩))) w (pk K) λt24 w=>
 CallX ah 88 #[t24,(.string ⟨#[70,105,108,116,101,114]⟩)] w (pk K) λt25 w=>
 CallX ah 88 #[t25,(.string ⟨#[68,101,99,111,100,101,80,97,114,109,115]⟩)] w (pk K) λt26 w=>
 CallX ah 87 #[t26,.string ⟨data.toArray⟩] w (pk K) λt28 w=>
 DoX ah (mExt t28 0) w (pk K) λt29 w=>
 DoX ah (mExt t28 1) w (pk K) λt30 w=>
 DoX ah (aN 25 (.pointer (ax ⟨c,0,aw⟩)) t29) w (pk K) λ_ w=>
 RetX ah [.cell (.pointer (ax ⟨c,0,aw⟩)) 25,.val t30] w K):=by
  intro I;rw[amA I] at b;rw[fP];refine aK 1 a rfl krx rfl (show 0 < 6 by omega) λw3 a=>?_;rw[FN];refine aK 1 a rfl krx rfl (show 0+3 < 6 by omega) λz a=>?_;have a:OwnS M.A w z [obE c ob0 nilS nilS,obE b2 (Ff.nV o) vk vc,.mem M]:=a;have B:=Ff.Pa o;have J:Bd.strm (Ff.bare o) data=Bd.strm (Vl.aQ (Vl.aQ (Ff.nV o) Ff.aX) Ff.cL) data:=rfl;have q:(Ff.nV o).k=7:=rfl;rw[J] at b;generalize Ff.nV o=d at b B a f q;rw[ob_v a 1 rfl];refine aL a (R:=λv=>v=.int .i64 (Vl.check 1 d)) (jB d _ z (OV.inw (a.hasM 2 rfl) f) om) ?_;rintro _ L rfl a;simp only[eN];by_cases j:Vl.check 1 d=0
  case neg=>
   rw[amB j] at b;simp only[amG (show Vl.check 1 d≠0 from j),i_t];exact no a M.le_refl b.symm
  rw[amA (λh=>h j)] at b;simp only[j,show ai ((0:Int)≠0)=au from rfl,i_f];rw[ob_v a 1 rfl];refine bH a 2 rfl (Cq d _ Ff.aX M L om (a.hasM 2 rfl) f) λy1 N1 O P m a=>?_;have Q:fh d Ff.aX=Vl.aQ d Ff.aX:=by unfold fh;rw[amB ⟨by simp[Vl.keyed,q],j⟩]
  rw[Q] at m;have n:=Vl.gK (key:=Ff.aX) j (by simp[Vl.keyed,q]);have g:(Vl.aQ d Ff.aX).k=7:=q;have S:=Vl.jD d Ff.aX;generalize Vl.aQ d Ff.aX=d1 at *;refine bH a 2 rfl (Cq d1 _ Ff.cL N1 O om (a.hasM 2 rfl) m) λy2 T U V p a=>?_;have Y:fh d1 Ff.cL=Vl.aQ d1 Ff.cL:=by unfold fh;rw[amB ⟨by simp[Vl.keyed,g],n⟩]
  rw[Y] at p;have C:=Vl.gK (key:=Ff.cL) n (by simp[Vl.keyed,g]);have D:(Vl.aQ d1 Ff.cL).k=7:=g;have Z:=Vl.jD d1 Ff.cL;generalize Vl.aQ d1 Ff.cL=d2 at *;refine bH a 2 rfl (ND d2 _ data T U D C G om (a.hasM 2 rfl) p) ?_;rintro _ N3 w8 l3 ⟨t,rfl,ht⟩ a;obtain⟨tk,tc,a1,rfl,i⟩:=ht.open;simp only[errV,ex];refine bK 0 i.keys.one i.kids.one a rfl λw9 a=>?_;exact fE 0 a rfl (y _ _ N3 _ 2 a rfl ((P.trans V).trans l3) ⟨_,by rw[<-b];rfl,by rw[<-b];exact i.ov⟩)
 by_cases s:o.k=9
 ·simp only[amE (show ¬o.k≠9 fromλh=>h s),rs,g_un,i_f];exact main (λh=>h.1 s)
 simp only[amG (show o.k≠9 from s),rs];rw[fP,ob_k a 1 rfl];simp only[rs];by_cases u:o.k=7
 ·simp only[amE (show ¬o.k≠7 fromλh=>h u),rs,i_f];exact main (λh=>h.2 u)
 ·simp only[amG (show o.k≠7 from u),rs,i_t];rw[amB ⟨s,u⟩] at b;exact no a M.le_refl b.symm
theorem eqPm:eqT ah 27 [(0,au),(1,au),(2,au)]:=⟨krx,krx,krx,krx⟩
def Pm.eqb (x y:Pm):Bool:=ai (x.p=y.p)&&(ai (x.c=y.c)&&ai (x.n=y.n))
theorem ahF (x y:Pm):([(0,au),(1,au),(2,au)]:List (Nat×Bool)).all (λp=>DA (pmC x).toArray[p.1]? (pmC y).toArray[p.1]?)=Pm.eqb x y:=by
 have e:([(0,au),(1,au),(2,au)]:List (Nat×Bool)).all (λp=>DA (pmC x).toArray[p.1]? (pmC y).toArray[p.1]?)=((x.p==y.p)&&((x.c==y.c)&&((x.n==y.n)&&av))):=rfl;rw[e];unfold Pm.eqb;rw[Bool.and_true];rfl
theorem agZ {y:Pm}:(mEq .eql 27 xo yo (pmV x) (pmV y)).run ah w=.ok (.value (.bool (Pm.eqb x y))) w:=by
 rw[<-ahF];exact Oo eqPm rfl
def lq (os:List Ob):Ob:=if os.length=1 then os.getD 0 Vl.ob0 else .mk 6 0 0 [] [] os
theorem Jr (os:List Ob)(v:aq)(cs:List aq)(M:Mem)(w:ao)(hw:Ob.wts os<=1000000000)(d:M.has w)(h:LsAt M v os cs):RetM ah 71 #[v] M w (λr N=>OV N.A N.w r (lq os)):=by
 refine bB d λK e=>DY ?_;unfold AL nz;refine fK (OwnS.memS d) λb2 g a=>?_;rw[EI h];simp only[rs];by_cases f:os.length=1
 ·simp only[show ai ((os.length:Int)=1)=av from amG om,i_t];refine LZ (i:=0) h om (a.hasM 1 rfl) λj k c=>?_;refine bK 0 c.oneK c.oneC a rfl λw2 a=>?_;refine iA (bJ (a.agg 0 rfl kY)) (e _ _ M _ 1 a rfl M.le_refl ?_);have:lq os=os[0]:=by unfold lq;rw[amB f,amI,amN om,apY]
  rw[this];exact c
 ·simp only[show ai ((os.length:Int)=1)=au from amE om,i_f];refine bH a 1 rfl (Ko os _ cs M g om (a.hasM 1 rfl) h.sl h.all) λy N w2 l c a=>?_;obtain⟨j,k,m,rfl,b⟩:=c.open;refine bK 0 b.keys.one b.kids.one a rfl λw3 a=>?_;refine iA (bJ (a.agg 0 rfl kY)) (e _ _ N _ 1 a rfl l ?_);unfold lq;rw[amA f];exact b.ov
end
section
open Eng Go.RowKit
namespace Ff
def cE (n:List UInt8):Ob:=ob1 5 0 0 n
end Ff
section
variable {w:ao}{PK PK2:PKT}{K:VWP}{S:Nat->Prop}{w0:ao}{L:List Ent}
end
end
end Go.Proofs.YtlipjfcbjemicaaGreatDoor


namespace Go.Proofs.YtlipjfcbjemicaaGreatDoor
variable{D:TypeId}{K:VWP}{M N:Eng.Mem}{P:Program}{PK PK2:PKT}{S:Nat->Prop}{W w w0:ao}{a colors way:Int}{above key:List UInt8}{b cap f i j jm m tb:Nat}{cb:Array Bool}{cl l near:List Nat}{cur:List aq}{o:Ob}{pv v v' va:aq}{x:Pm}{xo yo:Operand}{t0 t1:aq}{k0:Eng.KT}
section
open Go
theorem ajI {p:UInt8->Prop}(h:∀n:Fin 256,p (UInt8.ofNat n.val))(c:UInt8):p c:=by
 have:=h ⟨c.toNat,c.toNat_lt⟩;simpa using this
theorem yn (c:UInt8):Lx.digit (Oc.hexD (c.toNat / 16))=((c.toNat / 16:Nat):Int)∧Lx.digit (Oc.hexD (c.toNat % 16))=((c.toNat % 16:Nat):Int)∧Oc.HA (Oc.hexD (c.toNat / 16))=au∧Oc.HA (Oc.hexD (c.toNat % 16))=au∧Oc.hexD (c.toNat / 16)≠62∧Oc.hexD (c.toNat % 16)≠62:=
 ajI (p:=λc=>Lx.digit (Oc.hexD (c.toNat / 16))=((c.toNat / 16:Nat):Int)∧Lx.digit (Oc.hexD (c.toNat % 16))=((c.toNat % 16:Nat):Int)∧Oc.HA (Oc.hexD (c.toNat / 16))=au∧Oc.HA (Oc.hexD (c.toNat % 16))=au∧Oc.hexD (c.toNat / 16)≠62∧Oc.hexD (c.toNat % 16)≠62) (by decide +kernel) c
theorem wq (most:Nat)(r:List UInt8):∀(s out:List UInt8),out.length+s.length<=most->iw most (Oc.hex s++62::r) (-1) out=(out++s,0)
|[],out,_=>by
  show iw most (62::r) (-1) out=_;unfold iw;rw[amA dc,amB rfl,amB dc,amY]
|c::s,out,h=>by
  obtain⟨a,b,d,f,g,i⟩:=yn c;have j:c.toNat < 256:=c.toNat_lt;simp only[amW] at h;have e:Oc.hex (c::s)++62::r=Oc.hexD (c.toNat / 16)::Oc.hexD (c.toNat % 16)::(Oc.hex s++62::r):=rfl;rw[e];unfold iw;rw[d,amA dc,amA g,a,amA om,amB dc];unfold iw;rw[f,amA dc,amA i,b,amA om,amA om,amA om];have k:(16*((c.toNat / 16:Nat):Int)+((c.toNat % 16:Nat):Int)).toNat=c.toNat:=om
  rw[k,UInt8.ofNat_toNat,wq most r s (out++[c]) (by simp;omega),amM];rfl
theorem ql {D:Nat->List UInt8×Int}{s:List UInt8}{most:Int}(hm:(s.length:Int)<=most)(a:s.length<=1048576)(h:∀m,s.length<=m->D m=(s,0)):ki D most=(s,0):=by
 unfold ki;rw[amA om,h _ om]
theorem V0 {s:List UInt8}{most:Int}(hm:(s.length:Int)<=most)(a:s.length<=1048576):od (Oc.hex s++[62]) most=(s,0):=
 ql hm a λm h=>by
  rw[wq m [] s [] (by simpa using h)];rfl
theorem wu (c:UInt8):∀(f:Nat) (s:List UInt8),s.take (ji c f s)=List.replicate (ji c f s) c
|0,s=>by unfold ji;simp
|f+1,[]=>by unfold ji;simp
|f+1,d::r=>by
  unfold ji;by_cases h:d=c
  ·rw[amB h,arN,wu c f r,atC,h]
  ·rw[amA h];simp
theorem wx (c:UInt8):∀n,Lib.repeatL [c] n=List.replicate n c
|0=>rfl
|n+1=>by
  show [c]++Lib.repeatL [c] n=_;rw[wx c n,atC];rfl
theorem yp {s:List UInt8}(h:s≠[]):1<=cu s∧cu s<=min s.length 128:=by
 have a:0 < s.length:=arC.2 h;unfold cu;exact wo 128 1 s om
theorem qm (most:Nat):∀(g:Nat) (s out:List UInt8) (f:Nat),s.length < g->out.length+s.length<=most->(iq g s).length<=f->ix most f (iq g s) out=(out++s,0)
|0,_,_,_,h,_,_=>by omega
|g+1,s,out,f,q,hm,a=>by
  unfold iq at a ⊢;by_cases c:s=[]
  ·rw[amB c] at a ⊢;obtain⟨f,rfl⟩:∃j,f=j+1:=⟨f - 1,by simp at a;omega⟩;rw[c];unfold ix;simp
  rw[amA c] at a ⊢;have r:0 < s.length:=arC.2 c;have o:=wm (s.getD 0 0) 128 s;by_cases m:3<=cc s
  ·rw[amB m] at a ⊢;simp only[amC,amW,aqB] at a;obtain⟨f,rfl⟩:∃j,f=j+1:=⟨f - 1,om⟩;have b:=wu (s.getD 0 0) 128 s;have e:s.take (cc s)++s.drop (cc s)=s:=anR ..
   have p:(s.drop (cc s)).length=s.length - cc s:=amQ;change cc s<=128∧cc s<=s.length at o;change s.take (cc s)=List.replicate (cc s) (s.getD 0 0) at b;have i:(UInt8.ofNat (257 - cc s)).toNat=257 - cc s:=by
    rw[aqN,anZ om]
   have d:=qm most g (s.drop (cc s)) (out++s.take (cc s)) f om (by rw[amC,amL];omega) om;rw[amM,e] at d;rw[<-d];show ix most (f+1) (UInt8.ofNat (257 - cc s)::([s.getD 0 0]++iq g (s.drop (cc s)))) out=_
   conv=>lhs;unfold ix
   dsimp only;rw[i,amA om,amA om,amA sm,amA om,show 257 - (257 - cc s)=cc s by omega];have k:([s.getD 0 0]++iq g (s.drop (cc s))).take 1=[s.getD 0 0]:=rfl;have l:([s.getD 0 0]++iq g (s.drop (cc s))).drop 1=iq g (s.drop (cc s)):=rfl;rw[k,l,wx,b]
  ·rw[amA m] at a ⊢;simp only[amC,amW,aqB] at a;obtain⟨f,rfl⟩:∃j,f=j+1:=⟨f - 1,om⟩;have n:=yp c;have e:s.take (cu s)++s.drop (cu s)=s:=anR ..
   have lt:(s.take (cu s)).length=cu s:=by rw[amL];omega
   have p:(s.drop (cu s)).length=s.length - cu s:=amQ;have i:(UInt8.ofNat (cu s - 1)).toNat=cu s - 1:=by
    rw[aqN,anZ om]
   have d:=qm most g (s.drop (cu s)) (out++s.take (cu s)) f om (by rw[amC];omega) om;rw[amM,e] at d;rw[<-d];show ix most (f+1) (UInt8.ofNat (cu s - 1)::(s.take (cu s)++iq g (s.drop (cu s)))) out=_
   conv=>lhs;unfold ix
   dsimp only;rw[i,show cu s - 1+1=cu s by omega,amA om,amB om,amA (by rw[amC];omega),amA om];have k:(s.take (cu s)++iq g (s.drop (cu s))).take (cu s)=s.take (cu s):=aoG lt;have l:(s.take (cu s)++iq g (s.drop (cu s))).drop (cu s)=iq g (s.drop (cu s)):=asP lt;rw[k,l]
def ju (p:List UInt8):Nat:=((p.getD 0 0).toNat*256+(p.getD 1 0).toNat)*65536+(p.getD 2 0).toNat*256+(p.getD 3 0).toNat
def mr (p:List UInt8):List UInt8:=if ju p=0∧p.length=4 then [122] else (List.range (p.length+1)).map λk=>UInt8.ofNat (33+ju p / rz.getD k 0 % 85)
def kz:Nat->List UInt8->List UInt8
|0,_=>[]
|f+1,s=>if s=[] then [126,62] else mr (s.take 4)++kz f (s.drop 4)
def me (s:List UInt8):List UInt8:=kz (s.length+1) s
theorem wy (n:Nat)(h:n < 85):Oc.HA (UInt8.ofNat (33+n))=au∧(UInt8.ofNat (33+n)).toNat=33+n∧(UInt8.ofNat (33+n) - 33).toNat=n∧UInt8.ofNat (33+n) - 33=UInt8.ofNat n:=by
 have a:∀n:Fin 85,Oc.HA (UInt8.ofNat (33+n.val))=au∧(UInt8.ofNat (33+n.val)).toNat=33+n.val∧(UInt8.ofNat (33+n.val) - 33).toNat=n.val∧UInt8.ofNat (33+n.val) - 33=UInt8.ofNat n.val:=by decide +kernel
 exact a ⟨n,h⟩
theorem jd {a n:Nat}(h:n < 85){r g out:List UInt8}(e:g.length < 4):fc a (UInt8.ofNat (33+n)::r) g out=fc a r (g++[UInt8.ofNat n]) out:=by
 obtain⟨b,c,f,d⟩:=wy n h
 conv=>lhs;unfold fc
 rw[b,amA dc,c,amA om,amB ⟨om,om⟩,amB om,d]
theorem X0 {a n:Nat}(h:n < 85){r g out:List UInt8}(e:g.length=4)(f:dq (g++[UInt8.ofNat n]) < 4294967296)(hm:out.length+4<=a):fc a (UInt8.ofNat (33+n)::r) g out=fc a r [] (out++bz (dq (g++[UInt8.ofNat n]))):=by
 obtain⟨b,c,i,d⟩:=wy n h
 conv=>lhs;unfold fc
 rw[b,amA dc,c,amA om,amB ⟨om,om⟩,amA om,d,amA om,amA om]
theorem yq (p:List UInt8):ju p < 4294967296:=by
 have a:=(p.getD 0 0).toNat_lt;have b:=(p.getD 1 0).toNat_lt;have c:=(p.getD 2 0).toNat_lt;have d:=(p.getD 3 0).toNat_lt;unfold ju;omega
theorem yr {p:List UInt8}(hp:p.length=4):∃a b c d,p=[a,b,c,d]:=by
 rcases p with _|⟨a,_|⟨b,_|⟨c,_|⟨d,_|⟨e,t⟩⟩⟩⟩⟩
 case cons.cons.cons.cons.nil=>exact⟨a,b,c,d,rfl⟩
 all_goals simp at hp
theorem kh {n:Nat}{x:UInt8}(h:n % 256=x.toNat):UInt8.ofNat n=x:=by
 rw[<-UInt8.toNat_inj,aqN];exact h
theorem Y0 {p:List UInt8}(hp:p.length=4){v:Nat}(f:v=ju p):bz v=p:=by
 obtain⟨a,b,c,d,rfl⟩:=yr hp;have g:=a.toNat_lt;have h:=b.toNat_lt;have i:=c.toNat_lt;have j:=d.toNat_lt;have e:ju [a,b,c,d]=(a.toNat*256+b.toNat)*65536+c.toNat*256+d.toNat:=rfl;show [UInt8.ofNat (v / 16777216),UInt8.ofNat (v / 65536),UInt8.ofNat (v / 256),UInt8.ofNat v]=_;rw[f,e];rw[kh (x:=a) om,kh (x:=b) om,kh (x:=c) om,kh (x:=d) om]
theorem qn (v:Nat):bz v=[UInt8.ofNat (v / 16777216),UInt8.ofNat (v / 65536),UInt8.ofNat (v / 256),UInt8.ofNat v]:=rfl
theorem xg (a b c d e:UInt8):dq [a,b,c,d,e]=(((a.toNat*85+b.toNat)*85+c.toNat)*85+d.toNat)*85+e.toNat:=rfl
theorem xh (a b c d:UInt8):dq [a,b,c,d]=(((a.toNat*85+b.toNat)*85+c.toNat)*85+d.toNat)*85+84:=rfl
theorem xi (a b c:UInt8):dq [a,b,c]=(((a.toNat*85+b.toNat)*85+c.toNat)*85+84)*85+84:=rfl
theorem xj (a b:UInt8):dq [a,b]=(((a.toNat*85+b.toNat)*85+84)*85+84)*85+84:=rfl
theorem gl {n:Nat}(h:n < 85):(UInt8.ofNat n).toNat=n:=by rw[aqN,anZ om]
theorem Z0 {v:Nat}(d:v < 4294967296):dq [UInt8.ofNat (v / 52200625 % 85),UInt8.ofNat (v / 614125 % 85),UInt8.ofNat (v / 7225 % 85),UInt8.ofNat (v / 85 % 85),UInt8.ofNat (v / 1 % 85)]=v:=by
 have h:∀n:Nat,n % 85 < 85:=λn=>apO _ dc;rw[xg,gl (h _),gl (h _),gl (h _),gl (h _),gl (h _),Nat.div_one];have a:v / 7225=v / 85 / 85:=by rw[apE]
 have b:v / 614125=v / 85 / 85 / 85:=by rw[apE,apE]
 have c:v / 52200625=v / 85 / 85 / 85 / 85:=by rw[apE,apE,apE]
 rw[a,b,c];omega
theorem qo {a:Nat}{g out p:List UInt8}(b:g.length=p.length+1)(d:0 < p.length)(e:dq g < 4294967296)(hm:out.length+p.length<=a)(c:(bz (dq g)).take p.length=p):fc a [126,62] g out=(out++p,0):=by
 unfold fc;rw[amA dc,amA (λh=>absurd h.1 dc),amA (λh=>absurd h.2 dc),amB dc];unfold mn;rw[amA sm,amA (λh=>h.elim (λh=>h rfl) (λh=>by omega)),amA om,amA om,amA om,b,aqQ,c]
theorem wz (l:Nat):∀(f:Nat) (s out:List UInt8),s.length < f->out.length+s.length<=l->fc l (kz f s) [] out=(out++s,0)
|0,_,_,h,_=>by omega
|f+1,s,out,G,hm=>by
  unfold kz;by_cases p:s=[]
  ·rw[amB p,p,amY];unfold fc;rw[amA dc,amA (λh=>absurd h.1 dc),amA (λh=>absurd h.2 dc),amB dc];unfold mn;rw[amA sm,amA (λh=>h.elim (λh=>h rfl) (λh=>absurd h dc)),amB (show ([]:List UInt8).length=0 from rfl)]
  rw[amA p];have H:0 < s.length:=arC.2 p;have g:∀n:Nat,n % 85 < 85:=λn=>apO _ dc;by_cases B:4<=s.length
  ·have u:s.take 4++s.drop 4=s:=anR ..
   have lt:(s.take 4).length=4:=by rw[amL];omega
   have I:(s.drop 4).length=s.length - 4:=amQ;have r:=wz l f (s.drop 4) (out++s.take 4) om (by rw[amC];omega);rw[amM,u] at r;have m:=yq (s.take 4);have o:=Y0 lt rfl;unfold mr;by_cases w:ju (s.take 4)=0∧(s.take 4).length=4
   ·rw[amB w];rw[w.1] at o;have e:s.take 4=[0,0,0,0]:=by rw[<-o];rfl
    rw[e] at r;show fc l (122::kz f (s.drop 4)) [] out=_;unfold fc;rw[amA dc,amB ⟨dc,rfl⟩,amA om,r]
   ·rw[amA w,lt];generalize J:ju (s.take 4)=v at m o;show fc l (UInt8.ofNat (33+v / 52200625 % 85)::UInt8.ofNat (33+v / 614125 % 85)::UInt8.ofNat (33+v / 7225 % 85)::UInt8.ofNat (33+v / 85 % 85)::UInt8.ofNat (33+v / 1 % 85)::kz f (s.drop 4)) [] out=_;rw[jd (g _) dc,jd (g _) sm,jd (g _) sm,jd (g _) sm];have hw:=Z0 m;rw[X0 (g _) sm (by show dq [_,_,_,_,_] < _;rw[hw];exact m) om];show fc l _ [] (out++bz (dq [_,_,_,_,_]))=_;rw[hw,o,r]
  ·have u:s.take 4=s:=anJ om;have C:s.drop 4=[]:=asH om;have D:kz f []=[126,62]:=by
    obtain⟨f,rfl⟩:∃j,f=j+1:=⟨f - 1,om⟩;unfold kz;rw[amB rfl]
   rw[u,C,D];unfold mr;rw[amA om];rcases s with _|⟨a,_|⟨b,_|⟨c,_|⟨d,t⟩⟩⟩⟩
   ·exact absurd rfl p
   ·have A:=a.toNat_lt;have m:ju [a]=a.toNat*16777216:=by show (a.toNat*256+0)*65536+0*256+0=_;omega
    rw[m];obtain⟨v,y⟩:∃v,v=a.toNat*16777216:=⟨_,rfl⟩;rw[<-y];show fc l (UInt8.ofNat (33+v / 52200625 % 85)::UInt8.ofNat (33+v / 614125 % 85)::[126,62]) [] out=_;rw[jd (g _) dc,jd (g _) sm];have e:dq [UInt8.ofNat (v / 52200625 % 85),UInt8.ofNat (v / 614125 % 85)]=v / 614125*614125+614124:=by
     rw[xj,gl (g _),gl (g _)];have q:v / 52200625=v / 614125 / 85:=by rw[apE]
     rw[q];omega
    have i:v<=v / 614125*614125+614124:=om
    have k:v / 614125*614125+614124 < v+614125:=om
    generalize v / 614125*614125+614124=X at e i k;refine qo rfl sm ?_ hm ?_
    ·show dq [_,_] < _;rw[e];omega
    ·show (bz (dq [_,_])).take 1=_;rw[e,qn,kh (x:=a) om];rfl
   ·have A:=a.toNat_lt;have E:=b.toNat_lt;have m:ju [a,b]=(a.toNat*256+b.toNat)*65536:=by show (a.toNat*256+b.toNat)*65536+0*256+0=_;omega
    rw[m];generalize y:(a.toNat*256+b.toNat)*65536=v;show fc l (UInt8.ofNat (33+v / 52200625 % 85)::UInt8.ofNat (33+v / 614125 % 85)::UInt8.ofNat (33+v / 7225 % 85)::[126,62]) [] out=_;rw[jd (g _) dc,jd (g _) sm,jd (g _) sm];have e:dq [UInt8.ofNat (v / 52200625 % 85),UInt8.ofNat (v / 614125 % 85),UInt8.ofNat (v / 7225 % 85)]=v / 7225*7225+7224:=by
     rw[xi,gl (g _),gl (g _),gl (g _)];have z:v / 614125=v / 7225 / 85:=by rw[apE]
     have q:v / 52200625=v / 7225 / 85 / 85:=by rw[apE,apE]
     rw[z,q];omega
    have i:v<=v / 7225*7225+7224:=om
    have k:v / 7225*7225+7224 < v+7225:=om
    generalize v / 7225*7225+7224=X at e i k;refine qo rfl sm ?_ hm ?_
    ·show dq [_,_,_] < _;rw[e];omega
    ·show (bz (dq [_,_,_])).take 2=_;rw[e,qn,kh (x:=a) om,kh (x:=b) om];rfl
   ·have A:=a.toNat_lt;have E:=b.toNat_lt;have K:=c.toNat_lt;have m:ju [a,b,c]=(a.toNat*256+b.toNat)*65536+c.toNat*256:=by show (a.toNat*256+b.toNat)*65536+c.toNat*256+0=_;omega
    rw[m];generalize y:(a.toNat*256+b.toNat)*65536+c.toNat*256=v;show fc l (UInt8.ofNat (33+v / 52200625 % 85)::UInt8.ofNat (33+v / 614125 % 85)::UInt8.ofNat (33+v / 7225 % 85)::UInt8.ofNat (33+v / 85 % 85)::[126,62]) [] out=_;rw[jd (g _) dc,jd (g _) sm,jd (g _) sm,jd (g _) sm];have e:dq [UInt8.ofNat (v / 52200625 % 85),UInt8.ofNat (v / 614125 % 85),UInt8.ofNat (v / 7225 % 85),UInt8.ofNat (v / 85 % 85)]=v / 85*85+84:=by
     rw[xh,gl (g _),gl (g _),gl (g _),gl (g _)];have F:v / 7225=v / 85 / 85:=by rw[apE]
     have z:v / 614125=v / 85 / 85 / 85:=by rw[apE,apE]
     have q:v / 52200625=v / 85 / 85 / 85 / 85:=by rw[apE,apE,apE]
     rw[F,z,q];omega
    have i:v<=v / 85*85+84:=om
    have k:v / 85*85+84 < v+85:=om
    generalize v / 85*85+84=X at e i k;refine qo rfl sm ?_ hm ?_
    ·show dq [_,_,_,_] < _;rw[e];omega
    ·show (bz (dq [_,_,_,_])).take 3=_;rw[e,qn,kh (x:=a) om,kh (x:=b) om,kh (x:=c) om];rfl
   ·simp at B
theorem aaa {s:List UInt8}{most:Int}(hm:(s.length:Int)<=most)(a:s.length<=1048576):sd (me s) most=(s,0):=
 ql hm a λm h=>by
  unfold me;rw[wz m (s.length+1) s [] om (by simpa using h)];rfl
theorem aab {s:List UInt8}{most:Int}(hm:(s.length:Int)<=most)(a:s.length<=1048576):qt (mc s) most=(s,0):=
 ql hm a λm h=>by
  unfold mc;rw[qm m (s.length+1) s [] _ om (by simpa using h) (Nat.le_succ _)];rfl
end
end Go.Proofs.YtlipjfcbjemicaaGreatDoor




namespace Go.Proofs.YtlipjfcbjemicaaGreatDoor
variable{D:TypeId}{K:VWP}{M N:Eng.Mem}{P:Program}{PK PK2:PKT}{S:Nat->Prop}{W w w0:ao}{a colors way:Int}{above key:List UInt8}{b cap f i j jm m tb:Nat}{cb:Array Bool}{cl l near:List Nat}{cur:List aq}{o:Ob}{pv v v' va:aq}{x:Pm}{xo yo:Operand}{t0 t1:aq}{k0:Eng.KT}
section
open Eng Go.RowKit
namespace Ff
def wV (n s:List UInt8):List UInt8:=if full n=nHx then Oc.hex s++[62] else if full n=n85 then me s else if full n=nRL then mc s else []
def OneR (n:List UInt8)(x:Pm)(s t:List UInt8)(e:Int):Prop:=
 if full n=[] then t=[]∧e=15
 else if full n=nFl then (if dt x s=0 then e=0∧gj t 1048576=(du x s,0)∧t.length<=2*(du x s).length+16 else t=[]∧e=dt x s)
 else t=wV n s∧e=0
end Ff
theorem Ff.XL {n:List UInt8}{s t:List UInt8}{e:Int}(h:Ff.OneR n x s t e)(he:e=0)(b:s.length<=1048576):Ff.undo n x t=(s,0):=by
 unfold Ff.OneR at h;by_cases c:Ff.full n=[]
 ·rw[amB c] at h;rw[h.2] at he;cases he
 rw[amA c] at h;unfold Ff.undo;by_cases a:Ff.full n=Ff.nFl
 ·rw[amB a] at h;rw[amA (by rw[a];decide),amA (by rw[a];decide),amA (by rw[a];decide),amB a];by_cases hw:dt x s=0
  ·rw[amB hw] at h;have d:x.ok:=by
    refine Decidable.byContradiction λf=>?_;unfold dt at hw;rw[amB f] at hw;cases hw
   rw[amA (by simp[d])];simp only[h.2.1];rw[amA dc];exact (wj hw).1
  ·rw[amA hw] at h;rw[h.2] at he;exact absurd he hw
 ·rw[amA a] at h;obtain⟨rfl,_⟩:=h;have g:=Ff.Eb n;rcases g with h|h|h|h|h
  ·have hp:Ff.wV n s=Oc.hex s++[62]:=by unfold Ff.wV;rw[amB h]
   rw[hp,amB h];exact V0 om b
  ·have hp:Ff.wV n s=me s:=by unfold Ff.wV;rw[amA (by rw[h];decide),amB h]
   rw[hp,amA (by rw[h];decide),amB h];exact aaa om b
  ·have hp:Ff.wV n s=mc s:=by unfold Ff.wV;rw[amA (by rw[h];decide),amA (by rw[h];decide),amB h]
   rw[hp,amA (by rw[h];decide),amA (by rw[h];decide),amB h];exact aab om b
  ·exact absurd h a
  ·exact absurd h c
theorem Q3:cN ah 121=true:=krx
theorem RL (b f:Nat)(s r:List UInt8)(M:Mem)(w:ao)(hp:cN ah f=av)(c:(Rd b f).is w)(a:M.has w)(h:RetM ah f #[.string ⟨s.toArray⟩] M w (λv _=>v=.string ⟨r.toArray⟩)) :
  RetM ah 171 #[.string ⟨s.toArray⟩,.pointer (ax ⟨b,0,aw⟩)] M w (λv _=>v=zlT (r,0)):=by
 refine bB a λK d=>CH ?_;unfold yA nz;rw[aJ nFnS (aI (T:=36) (cs:=[fnV f]) c (i:=0) rfl)];unfold fnV;refine IG hp (bH (OwnS.memS a) 0 rfl h ?_);rintro _ N g g1 rfl e;exact d _ _ N _ 0 e rfl g1 rfl
theorem Ui (x:Pm)(f:PeR x)(s:List UInt8)(M:Mem)(w:ao)(c:M.has w)(g:s.length<=1000000000) :
  RetM ah 121 #[pmV x,.string ⟨s.toArray⟩] M w (λv _=>∃t e,v=zlT (t,e)∧if dt x s=0 then e=0∧gj t 1048576=(du x s,0)∧t.length<=2*(du x s).length+16 else t=[]∧e=dt x s):=by
 refine bB c λK d=>wI ?_;unfold pF nz;refine bA (λb=>.pointer (ax ⟨b,0,aw⟩)) (pmC x) 143 (λ_=>by kernel_rfl) (OwnS.memS c) λb2 i a=>?_;rw[aO XW,l_at (T:=27) (v:=pmV x) (AtV.agg KV (cs:=pmC x) rfl λj u k=>by rw[aoC,amO];exact a.cell 0 rfl j k)];refine aL a (f s i g) ?_;rintro _ w2 rfl a;simp only[encT,ex,eN];by_cases hw:dt x s=0
 case neg=>
  simp only[amG (show dt x s≠0 from hw),i_t];exact d _ _ M _ 1 a rfl M.le_refl ⟨[],dt x s,rfl,by rw[amA hw];exact⟨rfl,rfl⟩⟩
 simp only[amE (show ¬dt x s≠0 fromλh=>h hw),i_f,amB hw];refine bH a 1 rfl (Ss (du x s) M w2 (a.hasM 1 rfl) (wj hw).2) ?_;rintro _ N w3 g1 ⟨t,rfl,l,m⟩ a;simp only[ex];exact d _ _ N _ 1 a rfl g1 ⟨t,0,rfl,by rw[amB hw];exact⟨rfl,l,m⟩⟩
def OnA (n:List UInt8):Prop:=∀(f g:Nat),(Ff.full n=Ff.nHx∧f=114∧g=116)∨(Ff.full n=Ff.n85∧f=117∧g=118)∨(Ff.full n=Ff.nRL∧f=119∧g=120)->∀(s:List UInt8) (M:Mem) (w:ao),Pws M->s.length<=1000000->M.has w ->
 ∃_:cN ah f=av,¬Ff.full n=[]∧¬Ff.full n=Ff.nFl∧RetM ah f #[.string ⟨s.toArray⟩] M w (λv _=>v=.string ⟨(Ff.wV n s).toArray⟩)
theorem ahP {n:List UInt8}(h:Ff.full n=Ff.nFl):OnA n:=by
 intro f g b;rcases b with ⟨a,_⟩|⟨a,_⟩|⟨a,_⟩<;>rw[h] at a<;>exact absurd a dc
theorem aaT (n:List UInt8)(x:Pm)(F:PeR x)(G:OnA n)(s:List UInt8)(M:Mem)(w:ao)(q:Pws M)(C:M.has w)(H:s.length<=1000000) :
  RetM ah 17 #[.string ⟨n.toArray⟩,pmV x,.string ⟨s.toArray⟩] M w (λv _=>∃t e,v=zlT (t,e)∧Ff.OneR n x s t e):=by
 refine bB C λK d=>GY ?_;unfold E9 nz;unfold Ff.OneR at d;refine IW x (OwnS.memS C) λD J a=>?_;rw[pm_v a 0 rfl];have c:∀{p u:aq},p.oneCell'=av->u.oneCell'=av->∀y∈wyC p u,y.oneCell'=true:=by
  intro p u hp hu y E;simp only[wyC,amH,anW,or_false] at E;rcases E with rfl|rfl<;>assumption
 refine acD a (λf g r l b2 w2 a=>?_) (λm w2 a=>?_) (λm w2 a=>?_)
 ·simp only[ex];refine bA (λb=>.pointer (ax ⟨b,0,aw⟩)) (wyC .nilFunc .nilFunc) 91 (λ_=>by kernel_rfl) a λo w3 a=>?_;refine gX 0 a rfl (new:=wyC (Dl l) (Dq b2)) szWy (c rfl rfl) rfl λi a=>?_;have a:OwnS M.A w i [wyE o (Dl l) (Dq b2),upE b2 g,Rd l f,pmE D x,.mem M]:=a;simp only[eN,show ai ((0:Int)≠0)=au from rfl,i_f];rw[gM amP];simp only[rs,show ai ((1048576:Int) < (s.length:Int))=au from amE om,i_f];rw[aO Ym,aJ nFnW (a.cell 0 rfl 0 rfl)];have k:=a.hasM 4 rfl;have key:=G f g r s M i q H k;obtain⟨hp,j,z,key⟩:=key;simp only[amA j,amA z] at d;unfold Dl;refine IG RA (bH a 4 rfl (RL l f s _ M i hp (a.at_ 2 rfl) k key) ?_);rintro _ N I g1 rfl a;simp only[zlT,ex];exact d _ _ N _ 4 a rfl g1 ⟨_,_,rfl,rfl,rfl⟩
 ·have j:¬Ff.full n=[]:=by rw[m];decide
  simp only[amA j,amB m] at d;simp only[ex];refine bA (λb=>.pointer (ax ⟨b,0,aw⟩)) (wyC .nilFunc .nilFunc) 91 (λ_=>by kernel_rfl) a λo w3 a=>?_;refine gX 0 a rfl (new:=wyC (K4 x) (uI x)) szWy (c rfl rfl) rfl λi a=>?_;have a:OwnS M.A w i [wyE o (K4 x) (uI x),pmE D x,.mem M]:=a;simp only[eN];by_cases B:x.ok
  case neg=>
   have hw:dt x s=1:=by unfold dt;rw[amB B]
   simp only[hw,amA (show ¬(1:Int)=0 by decide)] at d;simp only[amA B,show ai ((1:Int)≠0)=av from rfl,i_t];exact d _ _ M _ 2 a rfl M.le_refl ⟨[],1,rfl,rfl,rfl⟩
  simp only[amB B,show ai ((0:Int)≠0)=au from rfl,i_f];rw[gM amP];simp only[rs,show ai ((1048576:Int) < (s.length:Int))=au from amE om,i_f];rw[aO Ym,aJ nFnW (a.cell 0 rfl 0 rfl)];unfold K4;refine IG Q3 (bH a 2 rfl (Ui x F s M i (a.hasM 2 rfl) om) ?_);rintro _ N I g1 ⟨t,e,rfl,h⟩ a;simp only[zlT,ex];exact d _ _ N _ 2 a rfl g1 ⟨t,e,rfl,h⟩
 ·simp only[amB m] at d;simp only[ex];refine bA (λb=>.pointer (ax ⟨b,0,aw⟩)) (wyC .nilFunc .nilFunc) 91 (λ_=>by kernel_rfl) a λo w3 a=>?_;refine gX 0 a rfl (new:=wyC .nilFunc .nilFunc) szWy (c rfl rfl) rfl λi a=>?_;simp only[eN,show ai ((15:Int)≠0)=av from rfl,i_t];exact d _ _ M _ 2 a rfl M.le_refl ⟨[],15,rfl,rfl,rfl⟩
end
end Go.Proofs.YtlipjfcbjemicaaGreatDoor

namespace Go.Proofs.YtlipjfcbjemicaaGreatDoor
variable{D:TypeId}{K:VWP}{M N:Eng.Mem}{P:Program}{PK PK2:PKT}{S:Nat->Prop}{W w w0:ao}{a colors way:Int}{above key:List UInt8}{b cap f i j jm m tb:Nat}{cb:Array Bool}{cl l near:List Nat}{cur:List aq}{o:Ob}{pv v v' va:aq}{x:Pm}{xo yo:Operand}{t0 t1:aq}{k0:Eng.KT}
section
open Eng Go.RowKit
namespace Ff
def eS (p:Pm):Ob:=.mk 7 0 0 [] [Fm,FJ,Fy] [ob1 2 p.c 0 [],ob1 2 p.n 0 [],ob1 2 p.p 0 []]
theorem G2 (n:Int)(d:Nat)(a:d<=24)(h:-2147483647<=n∧n<=2147483647):Vl.check d (ob1 2 n 0 [])=0:=
 Vl.jK.2 ⟨⟨a,rfl,(λe=>absurd e (show ¬((2:Int)=9) by decide)),(show ai (-2147483647<=n∧n<=2147483647)=av from amG h),(show (0:Nat)<=_ from anG _),(show (0:Nat)<=8191 by decide),rfl⟩,(λc b=>by cases b)⟩
def pmI (p:Pm):Prop:=(-2147483647<=p.p∧p.p<=2147483647)∧(-2147483647<=p.c∧p.c<=2147483647)∧(-2147483647<=p.n∧p.n<=2147483647)
theorem GD (p:Pm)(d:Nat)(b:d<=23)(h:pmI p):Vl.check d (eS p)=0:=by
 refine Vl.jK.2 ⟨⟨om,rfl,(λe=>absurd e (show ¬((7:Int)=9) by decide)),rfl,(show (0:Nat)<=_ from anG _),(show (3:Nat)<=8191 by decide),rfl⟩,λc a=>?_⟩;have a:c∈[ob1 2 p.c 0 [],ob1 2 p.n 0 [],ob1 2 p.p 0 []]:=a;simp only[amH,anW,or_false] at a;rcases a with rfl|rfl|rfl
 ·exact G2 _ _ om h.2.1
 ·exact G2 _ _ om h.2.2
 ·exact G2 _ _ om h.1
theorem Rl (p:Pm)(h:pmI p):Vl.dict [cE Fm,ob1 2 p.c 0 [],cE FJ,ob1 2 p.n 0 [],cE Fy,ob1 2 p.p 0 []]=(eS p,0):=by
 have e:Vl.dict [cE Fm,ob1 2 p.c 0 [],cE FJ,ob1 2 p.n 0 [],cE Fy,ob1 2 p.p 0 []]=Vl.right (eS p):=krx
 rw[e];unfold Vl.right;rw[GD p 1 dc h];rfl
theorem afC {p:Pm}(h:p≠Av):Pm.eqb p Av=false:=by
 cases d:Pm.eqb p Av with
|false=>rfl
|true=>
  unfold Pm.eqb at d;simp only[amX,anI] at d;obtain⟨a,b,c⟩:=p;exact absurd (by rw[show a=_ from d.1,show b=_ from d.2.1,show c=_ from d.2.2]) h
end Ff
section
variable {w:ao}{PK:PKT}{K:VWP}{S:Nat->Prop}{w0:ao}{L T:List Ent}
theorem acF (a c d e f g:Ob)(h:OwnS S w0 w L)(k:∀b w',OwnS S w0 w' (.cells b (obC a nilS nilS++obC c nilS nilS++obC d nilS nilS++obC e nilS nilS++obC f nilS nilS++obC g nilS nilS) 25::L)->K (.slice (ax ⟨b,0,aw⟩) 6 6) w') :
  DoX ah (bN 23 6 #[(0,obV a nilS nilS),(1,obV c nilS nilS),(2,obV d nilS nilS),(3,obV e nilS nilS),(4,obV f nilS nilS),(5,obV g nilS nilS)]) w PK K:=
 bA (λb=>.slice (ax ⟨b,0,aw⟩) 6 6) _ 25 (λ_=>by kernel_rfl) h k
end
theorem iC (N:Mem)(k n g:Int)(s:List UInt8):OV N.A N.w (obV (ob1 k n g s) nilS nilS) (ob1 k n g s):=
 ObAt.ov (o:=ob1 k n g s) (vk:=nilS) (vc:=nilS) (cs:=[]) ⟨SlA.nil _ _ _ _,SlA.nil _ _ _ _,.nil⟩
theorem R8 (p:Pm)(hp:p≠Ff.Av)(hi:Ff.pmI p)(M:Mem)(w:ao)(i:M.has w):RetM ah 68 #[pmV p] M w (λr N=>∃v',r=errV v' 0∧OV N.A N.w v' (Ff.eS p)):=by
 refine bB i λK k=>FL ?_;unfold CK iN dx stx alx;refine IW p (OwnS.memS i) λd z a=>?_;refine fK a λb2 w2 a=>?_;refine dW (λW=>OwnS M.A w W [obE b2 ob0 nilS nilS,pmE d p,.mem M]) a.drew ?_;refine q_at (pmV p) (λW h=>aW (h.agg 1 rfl KV)) ?_;refine mG (pmV Ff.Av) (λW h=>(Ea W).mono λv w' ⟨l,m⟩=>⟨l,h.grow m⟩) ?_;refine q_do _ (λ_=>agZ) ?_;intro w3 a;rw[Ff.afC hp,i_f];have a:=a.drew;refine⟨λW=>(pmE d p).is W,a.at_ 1 rfl,?_⟩;refine aR (.pointer (ax ⟨d,0+1,aw⟩)) (λ_=>bE MO) (jH (.int .i64 p.c) (λW h=>aB aU (aI (T:=27) (cs:=pmC p) h rfl)) ?_);refine aR (.pointer (ax ⟨d,0+2,aw⟩)) (λ_=>bE Pp) (jH (.int .i64 p.n) (λW h=>aB aU (aI (T:=27) (cs:=pmC p) h rfl)) ?_);refine aR (.pointer (ax ⟨d,0+0,aw⟩)) (λ_=>bE Y5) (jH (.int .i64 p.p) (λW h=>aB aU (aI (T:=27) (cs:=pmC p) h rfl)) ?_);refine aL a (iM Ff.Fm _) ?_;rintro _ B rfl a;refine⟨a.at_ 1 rfl,?_⟩;refine aL a (qN p.c _) ?_;rintro _ C rfl a;refine⟨a.at_ 1 rfl,?_⟩;refine aL a (iM Ff.FJ _) ?_;rintro _ D rfl a;refine⟨a.at_ 1 rfl,?_⟩;refine aL a (qN p.n _) ?_;rintro _ E rfl a;refine⟨a.at_ 1 rfl,?_⟩;refine aL a (iM Ff.Fy _) ?_;rintro _ F rfl a;refine⟨a.at_ 1 rfl,?_⟩;refine aL a (qN p.p _) ?_;rintro _ G rfl a;refine⟨a.at_ 1 rfl,?_⟩;refine acF (Ff.cE Ff.Fm) (ob1 2 p.c 0 []) (Ff.cE Ff.FJ) (ob1 2 p.n 0 []) (Ff.cE Ff.Fy) (ob1 2 p.p 0 []) a λb g a=>?_;refine⟨a.at_ 2 rfl,?_⟩;obtain⟨N,hle,e,a⟩:=OwnS.bI (L:=[obE b2 ob0 nilS nilS,pmE d p,.mem M]) (a.toU 6 6 6 rfl om om) 2 rfl;refine bH a 2 rfl (TW [Ff.cE Ff.Fm,ob1 2 p.c 0 [],Ff.cE Ff.FJ,ob1 2 p.n 0 [],Ff.cE Ff.Fy,ob1 2 p.p 0 []] _ _ N g (Nat.le_of_ble_eq_true krx) (a.hasM 2 rfl) e
  (eJ (eJ (eJ (eJ (eJ (oG (iC N 5 0 0 Ff.Fm)) (oG (iC N 2 p.c 0 []))) (oG (iC N 5 0 0 Ff.FJ))) (oG (iC N 2 p.n 0 []))) (oG (iC N 5 0 0 Ff.Fy))) (oG (iC N 2 p.p 0 [])))) ?_
 rw[Ff.Rl p hi];rintro _ o q s ⟨H,rfl,j⟩ a;obtain⟨t,u,x,rfl,f⟩:=j.open;refine⟨a.at_ 1 rfl,?_⟩;unfold errV;refine aR (obV (Ff.eS p) t u) (λ_=>by kernel_rfl) (aR (.int .i64 0) (λ_=>by kernel_rfl) ?_);refine bK 0 f.keys.one f.kids.one a rfl λy a=>?_;exact fE 0 a rfl (k _ _ o _ 2 a rfl (hle.trans s) ⟨_,rfl,j⟩)
theorem SS (n:List UInt8)(p:Pm)(vn vp:aq)(M:Mem)(w:ao)(t:Ff.full n=Ff.nFl)(u:M.has w)(k:SlA M.A M.w vn 1 [n].length (bS [n]))(hp:SlA M.A M.w vp 3 1 (pmC p)) :
  RetM ah 67 #[vn,vp] M w (λr N=>∃va v,r=.tuple #[va,v,.int .i64 0]∧SlA N.A N.w va 1 [Ff.nFl].length (bS [Ff.nFl])∧SlA N.A N.w v 3 [p].length ([p].flatMap pmC)):=by
 refine bB u λK B=>Hl ?_;unfold EA nz;have a:OwnS M.A w w [.mem M]:=OwnS.memS u;rw[yU k];simp only[rs,show ai ((8:Int) < (([n].length:Nat):Int))=au from rfl,i_f];rw[yU k];have a:=OwnS.nilU a 9 1;refine loop (λvs W=>∃(i:Nat) (ov:aq),vs=[ov,.int .i64 (i:Int)]∧i<=1∧OwnS M.A w W [stsE ov (([n].take i).map Ff.full),.mem M]) (λvs _=>1 - n1 vs) ⟨0,nilS,rfl,om,a⟩ ?_;clear a;rintro vs l ⟨i,ov,rfl,hi,a⟩ _;simp only[A7,gd,rs,nz];by_cases c:(i:Int) < (([n].length:Nat):Int)
 ·simp only[c,amD,i_t];have f:i < [n].length:=by have:(i:Int) < 1:=c;show i < 1;omega
  obtain⟨q,h,j⟩:=LC k f;rw[aD (h l),aD (j l (a.hasM 1 rfl))];have m:i=0:=by have:i < 1:=f;omega
  subst m;refine c_eq (Hs n l) ?_;simp only[ex,rs,amG (show Ff.full n≠[] by rw[t];decide),aoB,i_f];refine U5 _ a sm λo E a=>?_
  try simp only[rs]
  exact aY ⟨1,o,rfl,om,a⟩ (by show (0:Nat) < 1;decide)
 simp only[c,amF,i_f];have:i=1:=by have:¬(i:Int) < 1:=c;omega
 subst this;obtain⟨N1,x,d,a⟩:=a.bI 0 rfl;have a:OwnS M.A w l [.mem N1]:=a;have d:SlA N1.A N1.w ov 1 [Ff.nFl].length (bS [Ff.nFl]):=by
  have e:([n].take 1).map Ff.full=[Ff.nFl]:=by simp[t]
  rw[e] at d;exact d
 have g:=hp.le x;rw[bD arS (g.now (a.hasM 0 rfl))];simp only[rs,show ai (((1:Nat):Int)≠0)=av from rfl,i_t];rw[bD arS (g.now (a.hasM 0 rfl)),yU k];simp only[rs,show ai (((1:Nat):Int)≠(([n].length:Nat):Int))=au from rfl,i_f];refine bA (λb=>.slice (ax ⟨b,0,aw⟩) 0 0) [] 27 (λ_=>by kernel_rfl) a λb3 w2 a=>?_;have a:=OwnS.toU a (sz:=3) (n:=0) (cap:=0) rfl (amJ _) dc;have a:OwnS M.A w w2 [pmsE (.slice (ax ⟨b3,0,aw⟩) 0 0) [],.mem N1]:=a;refine bR 0 arS elPm dc a rfl (g.now (a.hasM 1 rfl)) Ic dc dc λva w3 a=>?_;have a:OwnS M.A w w3 [pmsE va [p],.mem N1]:=a;rw[yU d];refine loop (λvs W=>∃(i:Nat),vs=[va,.int .i64 (i:Int)]∧i<=1∧OwnS M.A w W [pmsE va [p],.mem N1]) (λvs _=>1 - n1 vs) ⟨0,rfl,om,a⟩ ?_;clear a;rintro vs y ⟨i,rfl,hi,a⟩ _;simp only[AY,gd,rs,nz];by_cases c:(i:Int) < (([Ff.nFl].length:Nat):Int)
 ·simp only[c,amD,i_t];have f:i < [Ff.nFl].length:=by have:(i:Int) < 1:=c;show i < 1;omega
  obtain⟨q,h,j⟩:=LC d f;rw[aD (h y),aD (j y (a.hasM 1 rfl))];have m:i=0:=by have:i < 1:=f;omega
  subst m;refine join λJ C=>?_;rw[bD arS (g.now (a.hasM 1 rfl))];simp only[rs,show ai (((1:Nat):Int)=0)=au from rfl,i_f];refine C _ _ λ_=>?_;simp only[Bq,gd,nz];refine dW (λW=>OwnS M.A w W [pmsE va [p],.mem N1]) a.drew ?_;rw[show (Value.string ⟨#[70,108,97,116,101,68,101,99,111,100,101]⟩)=.string ⟨Ff.nFl.toArray⟩ from rfl];refine afV ?_;rw[show ai ([Ff.nFl][0]≠Ff.nFl)=au from rfl];simp only[gq,HL];refine q_pf ?_;intro F a;rw[i_f,Kb,aA om om];exact aY ⟨1,rfl,om,a⟩ (by show (0:Nat) < 1;decide)
 simp only[c,amF,i_f];obtain⟨D,z,s,a⟩:=a.bI 0 rfl;exact B _ _ D _ 0 a rfl (x.trans z) ⟨ov,va,rfl,d.le z,s⟩
end
section
open Eng Go.RowKit
namespace Cs
abbrev mY:List UInt8:=[84,121,112,101]
abbrev zK:List UInt8:=[88,82,101,102]
abbrev iT:List UInt8:=[83,105,122,101]
abbrev kW:List UInt8:=[87]
abbrev gD:List UInt8:=[73,110,100,101,120]
abbrev rG:List UInt8:=[80,114,101,118]
def intO (n:Int):Ob:=ob1 2 n 0 []
def arrO (l:List Int):Ob:=.mk 6 0 0 [] [] (l.map intO)
def flat (l:List (Int×Int)):List Int:=l.flatMap λr=>[r.1,r.2]
def size (l:List (Int×Int)):Int:=match l.getLast? with|some r=>r.1+r.2|none=>0
def bF (x:Sec):List (List UInt8×Ob):=
 [(mY,Ff.cE zK),(iT,intO (size (Tl.runs x.aG))),(kW,arrO [1,(wa x.aG:Nat),(wb x.aG:Nat)]),(gD,arrO (flat (Tl.runs x.aG)))]++if 0<=x.prev then [(rG,intO x.prev)] else []
def mE:Ob->List (List UInt8×Ob)->Ob×Int
|o,[]=>(o,0)
|o,p::r=>if (Vl.set o p.1 p.2).2≠0 then (Vl.ob0,(Vl.set o p.1 p.2).2) else mE (Vl.set o p.1 p.2).1 r
def dict (x:Sec):Ob×Int:=mE (sV x.trailer) (bF x)
def row (l:List (List UInt8×Ob)):List Ob:=l.flatMap λp=>[Ff.cE p.1,p.2]
theorem NF:∀l:List (List UInt8×Ob),(row l).length=2*l.length
|[]=>rfl
|p::l=>by
  have:=NF l;show ((row l).length+1)+1=_;rw[amW];omega
theorem Sm:∀{l:List (List UInt8×Ob)} {i:Nat} (hi:i < l.length) (h:2*i+1 < (row l).length),(row l)[2*i]'(om)=Ff.cE l[i].1∧(row l)[2*i+1]=l[i].2
|p::l,0,_,_=>⟨rfl,rfl⟩
|p::l,i+1,hi,h=>by
  have a:i < l.length:=by simpa using hi
  have e:row (p::l)=Ff.cE p.1::p.2::row l:=rfl;have c:2*i+1 < (row l).length:=by rw[NF];omega
  have:=Sm a c;constructor
  ·have b:(row (p::l))[2*(i+1)]?=ax (Ff.cE l[i].1):=by
    rw[e,show 2*(i+1)=(2*i)+1+1 by omega,anM,anM,amN om,this.1]
   have:=amS.1 b;exact this.2
  ·have b:(row (p::l))[2*(i+1)+1]?=ax l[i].2:=by
    rw[e,show 2*(i+1)+1=(2*i+1)+1+1 by omega,anM,anM,amN om,this.2]
   have:=amS.1 b;exact this.2
theorem GG:∀(l:List (List UInt8×Ob)) (o:Ob) (n:Nat),(∀p∈l,p.1.length<=10∧p.2.wt<=n)->(mE o l).1.wt<=o.wt+(n+11)*l.length+6
|[],o,n,_=>by show o.wt<=_;omega
|p::r,o,n,h=>by
  have hp:=h p (anQ ..);have b:=Vl.LX o p.1 p.2;have c:=GG r (Vl.set o p.1 p.2).1 n λq a=>h q (anA _ a);unfold mE;rw[amW,Nat.mul_add];split
  ·show (6:Nat)<=_;omega
  ·omega
end Cs
theorem ahI {l:List (Int×Int)}(a:SlA M.A M.w v 2 l.length (rnsC l))(hi:i < l.length) :
  ∃p,(∀W,(mIA 116 v (.int .i64 (i:Int))).run ah W=.ok (.value (.pointer (ax p))) W)∧∀W,M.has W->(aH 135 (.pointer (ax p))).run ah W=.ok (.value (rnV l[i])) W:=by
 obtain⟨b,off,cap,rfl,_⟩:=bY a.1 om;refine⟨⟨b,off+i*2,aw⟩,λW=>?_,λW e=>?_⟩
 ·have:=dX (P:=ah) (T:=116) (b:=b) (off:=off) (cap:=cap) (n:=l.length) (k:=.i64) (i:=(i:Int)) (w:=W) asO szRn om om;rw[amK] at this;exact this
 ·obtain⟨h,c,d,he,f⟩:=bY (a.now e) om;cases he;refine aW (AtV.agg acY (cs:=rnC l[i]) rfl λj u g=>?_);rw[aoS];exact f _ _ (Eng.qK NX hi g)
def intC (n:Int):List Value:=obC (Cs.intO n) nilS nilS
def Sh (l:List Int):List Value:=l.flatMap intC
theorem Lk (N:Mem):∀l:List Int,OVs N.A N.w (Sh l) (l.map Cs.intO)
|[]=>.nil
|n::l=>eJ (oG (iC N 2 n 0 [])) (Lk N l)
abbrev inR (v:aq)(l:List Int):Ent:=.urow 25 6 v l.length (Sh l)
section
variable {w:ao}{PK PK2:PKT}{K:VWP}{S:Nat->Prop}{w0:ao}{L T:List Ent}
theorem o_rn (a:OwnS S w0 w L)(k:∀b w',OwnS S w0 w' (.cells b (rnC (0,0)) 135::L)->K (.pointer (ax ⟨b,0,aw⟩)) w'):DoX ah (iH 135) w PK K:=
 bA (λb=>.pointer (ax ⟨b,0,aw⟩)) (rnC (0,0)) 135 (λ_=>by kernel_rfl) a k
theorem XU (j:Nat){x y:Int×Int}(a:OwnS S w0 w L)(hi:L[j]?=ax (.cells b (rnC x) 135))(k:∀w',OwnS S w0 w' (L.set j (.cells b (rnC y) 135))->K undef w') :
  DoX ah (aN 135 (.pointer (ax ⟨b,0,aw⟩)) (rnV y)) w PK K:=gX j a hi (new:=rnC y) szRn (UA y) rfl k
theorem akK {d:Int}(c:OwnS S w0 w L)(k:∀b w',OwnS S w0 w' (.cells b (w3C a d) 71::L)->K (.pointer (ax ⟨b,0,aw⟩)) w'):DoX ah (mBox 71 (w3V a d)) w PK K:=
 bA (λb=>.pointer (ax ⟨b,0,aw⟩)) (w3C a d) 71 (λ_=>by kernel_rfl) c k
theorem alN {d:Int}(hi:i < 3):DoX ah (mIx 71 (w3V a d) (.int .i64 (i:Int))) w PK K=K (.int .i64 ([1,a,d].getD i 0)) w:=by
 rcases (by omega:i=0∨i=1∨i=2) with rfl|rfl|rfl<;>exact aD krx
theorem aiK (i:Nat){l:List Int}{n:Int}(a:OwnS S w0 w L)(hi:L[i]?=ax (inR v l))(c:l.length<=1000000000)(k:∀v' w',OwnS S w0 w' (L.set i (inR v' (l++[n])))->K v' w') :
  DoX ah (bN 23 1 #[(0,obV (Cs.intO n) nilS nilS)]) w PK λt w=>DoX ah (mB .append #[23,23] 23 cb #[v,t]) w PK2 K:=by
 refine bA (λb=>.slice (ax ⟨b,0,aw⟩) 1 1) (intC n) 25 (λ_=>by kernel_rfl) a λnb d a=>?_;refine Q4 (i+1) a (by rw[anM];exact hi) (a.sl 0 rfl 6 1 1 rfl) (lI _ rfl rfl) om λv' w2 a=>k v' w2 ?_;have e:inR v' (l++[n])=.urow 25 6 v' (l.length+1) (Sh l++intC n):=by
  unfold inR Sh;rw[amC,apL,aqM];rfl
 rw[e];exact a.tail
theorem akX (i:Nat){l:List Int}{n m:Int}(a:OwnS S w0 w L)(hi:L[i]?=ax (inR v l))(c:l.length<=1000000000)(k:∀v' w',OwnS S w0 w' (L.set i (inR v' (l++[n,m])))->K v' w') :
  DoX ah (bN 23 2 #[(0,obV (Cs.intO n) nilS nilS),(1,obV (Cs.intO m) nilS nilS)]) w PK λt w=>DoX ah (mB .append #[23,23] 23 cb #[v,t]) w PK2 K:=by
 refine bA (λb=>.slice (ax ⟨b,0,aw⟩) 2 2) (intC n++intC m) 25 (λ_=>by kernel_rfl) a λnb d a=>?_;refine Q4 (i+1) a (by rw[anM];exact hi) (a.sl 0 rfl 6 2 2 rfl) (λu hu=>?_) om λv' w2 a=>k v' w2 ?_
 ·rcases anF.1 hu with h|h<;>exact lI _ rfl rfl u h
 ·have e:inR v' (l++[n,m])=.urow 25 6 v' (l.length+2) (Sh l++(intC n++intC m)):=by
   unfold inR Sh;rw[amC,apL];rfl
  rw[e];exact a.tail
theorem ajU {n:Int}{a c d e:aq}{f g:Ob}(h:OwnS S w0 w L)
  (k:∀b w',OwnS S w0 w' (.cells b (obC (Ff.cE Cs.mY) nilS nilS++obC (Ff.cE Cs.zK) nilS nilS++obC (Ff.cE Cs.iT) nilS nilS++intC n++obC (Ff.cE Cs.kW) nilS nilS++obC f a c++obC (Ff.cE Cs.gD) nilS nilS++obC g d e) 25::L)->K (.slice (ax ⟨b,0,aw⟩) 8 8) w') (i:a.oneCell'=av) (j:c.oneCell'=av) (l:d.oneCell'=av) (m:e.oneCell'=av) :
  DoX ah (bN 23 8 #[(0,obV (Ff.cE Cs.mY) nilS nilS),(1,obV (Ff.cE Cs.zK) nilS nilS),(2,obV (Ff.cE Cs.iT) nilS nilS),(3,obV (Cs.intO n) nilS nilS),(4,obV (Ff.cE Cs.kW) nilS nilS),(5,obV f a c),(6,obV (Ff.cE Cs.gD) nilS nilS),(7,obV g d e)]) w PK K:=
 bA (λb=>.slice (ax ⟨b,0,aw⟩) 8 8) _ 25 (λ_=>by kernel_rfl) h k
end
end
section
open Go Eng
namespace Tl
theorem Je:∀{l:List Slt} {last:Option Int},qS last l=0->∀x∈l,okS x=0
|y::l,last,h,x,b=>by
  unfold qS at h;by_cases a:okS y≠0
  ·rw[amB a] at h;exact absurd h a
  rw[amA a] at h;split at h
  ·cases h
  split at h
  ·cases h
  rcases amH.1 b with rfl|b
  ·exact apJ.1 a
  ·exact Je h x b
theorem xE {l:List Slt}(h:check l=0):∀x∈l,okS x=0:=Je h
theorem Me {x:Slt}(h:okS x=0):(0<=x.num∧x.num<=8191)∧(0<=x.kind∧x.kind<=2)∧(0<=x.a∧x.a<=2147483647)∧(0<=x.b∧x.b<=65535):=by
 unfold okS at h;split at h
 ·cases h
 split at h
 ·cases h
 split at h
 ·split at h
  ·cases h
  ·omega
 ·split at h
  ·cases h
  ·omega
theorem GJ {l:List Slt}(h:check l=0):∀r∈runs l,0<=r.1∧r.1<=8191∧0<=r.2∧r.2<=l.length:=by
 intro r e;obtain⟨g,b,rfl⟩:=anK.1 e;obtain⟨d,f⟩:=xX l;obtain⟨c,_⟩:=f g b;have a:∀x∈g,x∈l:=λx i=>by rw[<-d];exact List.mem_flatten.2 ⟨g,b,i⟩
 have hlen:g.length<=l.length:=by
  rw[<-d];exact (List.sublist_flatten_of_mem b).length_le
 cases g with
|nil=>exact absurd rfl c
|cons x g=>
  have:=Me (xE h x (a x (anQ ..)));show 0<=x.num∧x.num<=8191∧(0:Int)<=((x::g).length:Int)∧((x::g).length:Int)<=_;omega
end Tl
theorem Xp {l:List Slt}(h:Tl.check l=0):R4 l:=λx a=>by
 have:=Tl.Me (Tl.xE h x a);omega
namespace Cs
def mV (s:Slt)(a b:Nat):List UInt8:=num s.kind 1++num s.a a++num s.b b
def tE (l:List Slt)(a b:Nat):List UInt8:=l.flatMap λs=>mV s a b
def rows (l:List Slt):List UInt8:=tE l (wa l) (wb l)
def pm (l:List Slt):Pm:=⟨12,1,1+(wa l:Nat)+(wb l:Nat)⟩
theorem Hx (s:Slt)(a b:Nat):(mV s a b).length=1+a+b:=by unfold mV;rw[amC,amC,jJ,jJ,jJ]
theorem tC (a b:Nat):∀l:List Slt,(tE l a b).length=l.length*(1+a+b)
|[]=>by simp[tE]
|s::l=>by
  show (mV s a b++tE l a b).length=_;rw[amC,Hx,tC a b l,amW,aoM];omega
theorem Mc (l:List Slt):wa l<=4:=afS _
theorem MQ (l:List Slt):wb l<=4:=afS _
theorem ZT (l:List Slt):(pm l).ok:=by
 have a:=Mc l;have b:=MQ l;refine⟨.inr (.inr (by show (10:Int)<=12∧(12:Int)<=15;decide)),by show (1:Int)<=1;decide,?_,by show (1:Int)<=8192;decide,?_⟩
 ·show (1:Int)<=1+(wa l:Nat)+(wb l:Nat);omega
 ·show (1:Int)*(1+(wa l:Nat)+(wb l:Nat))<=8192;omega
theorem aiL (l:List Slt):pm l≠Ff.Av:=λh=>by
 have:=congrArg Pm.p h;exact absurd this (by show ¬(12:Int)=1;decide)
theorem pm_I (l:List Slt):Ff.pmI (pm l):=by
 have a:=Mc l;have b:=MQ l;refine⟨by show (-2147483647:Int)<=12∧(12:Int)<=2147483647;decide,by show (-2147483647:Int)<=1∧(1:Int)<=2147483647;decide,?_⟩;refine⟨?_,?_⟩
 ·show -2147483647<=(1:Int)+(wa l:Nat)+(wb l:Nat);omega
 ·show (1:Int)+(wa l:Nat)+(wb l:Nat)<=2147483647;omega
theorem U9 (l:List Slt):((pm l).c*(pm l).n).toNat=1+wa l+wb l:=by
 show ((1:Int)*(1+(wa l:Nat)+(wb l:Nat))).toNat=_;omega
theorem Gj {l:List Slt}(a:l.length<=8192):dt (pm l) (rows l)=0:=by
 have c:=Mc l;have d:=MQ l;have b:(rows l).length=l.length*(1+wa l+wb l):=tC _ _ l;have hle:l.length*(1+wa l+wb l)<=8192*9:=apM a om;unfold dt;rw[U9,b,amA (λh=>h (ZT l)),amA om,amA (by show ¬(12:Int)=1;decide),amA (by rw[Nat.mul_mod_left];simp),amA];rintro⟨_,h⟩;rw[Nat.mul_div_cancel _ om] at h;omega
theorem F9 {l:List Slt}(a:l.length<=8192):(du (pm l) (rows l)).length<=90000:=by
 have c:=Mc l;have d:=MQ l;have b:(rows l).length=l.length*(1+wa l+wb l):=tC _ _ l;unfold du;rw[amA (by show ¬(12:Int)=1;decide),U9,qa om (by unfold Pm.head;split<;>simp) l.length _ (rows l) [] b om];have e:(pm l).head<=1:=by unfold Pm.head;split<;>omega
 calc l.length*(1+wa l+wb l+(pm l).head)<=8192*10:=apM a om
  _<=90000:=dc
theorem Pz (o:Ob):(sV o).wt<=o.wt*3+100:=by
 have w:(ofL []).wt=6:=rfl;unfold sV;split
 ·omega
 have f:∀k:List UInt8,((Vl.get o k).getD Vl.ob0).wt<=o.wt:=λk=>Vl.Yf;have g:∀a:List (List UInt8),(∀k∈a,k.length<=10)->(ofL (has o a)).wt<=6+(o.wt+11)*a.length:=by
  intro a
  induction a with
 |nil=>intro _;show (6:Nat)<=_;omega
 |cons k a c=>
   intro d;have c:=c λq i=>d q (anA _ i);have x:=d k (anQ ..);have b:=f k;rw[amW,Nat.mul_add];cases h:Vl.get o k with
  |none=>
    have e:has o (k::a)=has o a:=by unfold has;rw[List.filterMap_cons,h];rfl
    rw[e];omega
  |some v=>
    rw[h] at b;have e:has o (k::a)=(k,v)::has o a:=by unfold has;rw[List.filterMap_cons,h];rfl
    have j:=Vl.jX (ofL ((k,v)::has o a));have l:=Vl.jX (ofL (has o a));have m:(ofL ((k,v)::has o a)).keys=k::(ofL (has o a)).keys:=rfl;have n:(ofL ((k,v)::has o a)).kids=v::(ofL (has o a)).kids:=rfl;have p:(ofL ((k,v)::has o a)).s=[]:=rfl;have r:(ofL (has o a)).s=[]:=rfl;have t:Pl.tot (k::(ofL (has o a)).keys)=k.length+1+Pl.tot (ofL (has o a)).keys:=by simp[Pl.tot]
    have u:Ob.wts (v::(ofL (has o a)).kids)=v.wt+Ob.wts (ofL (has o a)).kids:=rfl;rw[e];rw[m,n,p,t,u] at j;rw[r] at l;have b:v.wt<=o.wt:=b;omega
 have:=g bw dc;rw[show bw.length=3 from rfl] at this;omega
theorem XN {k:List UInt8}{v:Ob}(h:(Vl.set o k v).2=0):(Vl.set o k v).1.k=o.k:=by
 unfold Vl.set at h ⊢;split
 ·rename_i b;rw[amB b] at h;cases h
 rename_i b
 rw[amA b] at h;split
 ·rename_i a;rw[amB a] at h;exact absurd h a
 rename_i a
 rw[amA a] at h;split
 ·rfl
 rename_i d
 rw[amA d] at h;unfold Vl.right at h ⊢;split
 ·rename_i c;rw[amB c] at h;exact absurd h c
 ·rfl
theorem Hw:∀{l:List (List UInt8×Ob)} {o:Ob},(mE o l).2=0->(mE o l).1.k=o.k
|[],o,_=>rfl
|p::r,o,h=>by
  unfold mE at h ⊢;by_cases a:(Vl.set o p.1 p.2).2≠0
  ·rw[amB a] at h;exact absurd h a
  rw[amA a] at h ⊢;rw[Hw h,XN (apJ.1 a)]
theorem M1 {x:Sec}(h:(dict x).2=0):(dict x).1.k=7:=by
 unfold dict at h ⊢;rw[Hw h];unfold sV;split<;>rfl
end Cs
end
section
open Go Eng
namespace Vl
theorem BD (o:Ob)(key:List UInt8):(∀k∈(aQ o key).keys,k∈o.keys)∧(aQ o key).kids.length<=o.kids.length:=⟨λk h=>(zY key o.keys o.kids).subset h,(Ai key o.keys o.kids).length_le⟩
theorem Zd (h:key ∉ o.keys):get o key=none:=by
 unfold get;split
 ·rw[amA (λa=>h (auL.1 a))]
 ·rfl
theorem MG {v:Ob}(p:check 1 o=0)(q:keyed o=av)(r:name key=av)(hL:o.k=9->key≠lenK)(s:v.k≠0)(d:check 2 v=0)(D:o.kids.length<=8190):check 1 (put o key v)=0:=by
 obtain⟨⟨t,a2,a3,a4,a5,E,f⟩,a⟩:=jK.1 p;have b:o.k=7∨o.k=9:=by simpa[keyed] using q
 have u:rising o=true:=by
  unfold form at f;simp only[amX,apQ,arL,apK] at f;rcases f.2 with h|h
  ·exact absurd b h
  ·exact h
 obtain⟨w,x,y,z⟩:=nX.1 u;obtain⟨A,B⟩:=Ki (key:=key) (v:=v) x w;obtain⟨C,m,F⟩:=Ps.Y7 (o:=o) (v:=v) (key:=key);have n:(put o key v).k=o.k:=rfl;refine jK.2 ⟨⟨t,?_,a3,a4,a5,om,?_⟩,λc g=>?_⟩
 ·unfold qT at a2 ⊢;rw[n];rcases b with e|e
  ·rw[e] at a2 ⊢;simp[used] at a2 ⊢;exact a2
  ·rw[e] at a2 ⊢;simp[used] at a2 ⊢;exact a2
 ·have i:rising (put o key v)=true:=nX.2 ⟨B,A,λk j=>by
   rcases C k j with rfl|e
   ·exact⟨r,λh=>hL h⟩
   ·exact y k e,λc l=>by
   rcases m c l with rfl|e
   ·exact s
   ·exact z c e⟩
  unfold form;rw[n,i];rcases b with e|e<;>rw[e]<;>rfl
 ·rcases m c g with rfl|e
  ·exact d
  ·exact a c e
end Vl
namespace Ff
theorem abJ {n:List UInt8}:Vl.name (full n)=true:=by
 rcases Eb n with e|e|e|e|e<;>rw[e]<;>decide
theorem Gs (n:List UInt8)(d:Nat)(b:d<=24):Vl.check d (cE (full n))=0:=by
 have a:=abJ (n:=n);refine Vl.jK.2 ⟨⟨b,rfl,(λe=>absurd e (show ¬((5:Int)=9) by decide)),rfl,?_,(show (0:Nat)<=8191 by decide),?_⟩,(λc f=>by cases f)⟩
 ·unfold Vl.name at a;simp only[amX,anI] at a;exact a.1
 ·show ((!(ai ((5:Int)=5))||Vl.name (full n))&&_)=av;rw[a];rfl
end Ff
end
section
open Go Eng
namespace Ff
theorem QL {D:List UInt8}(h:(plain o D).2=0)(d:D.length<=1048576):(plain o D).1.k=9∧(plain o D).1.s=D∧Vl.check 1 (plain o D).1=0∧aX ∉ (plain o D).1.keys∧cL ∉ (plain o D).1.keys∧(plain o D).1.kids.length<=o.kids.length:=by
 unfold plain at h ⊢;by_cases b:o.k≠9∧o.k≠7
 ·rw[amB b] at h;cases h
 rw[amA b] at h ⊢;by_cases a:Vl.check 1 (nV o)≠0
 ·rw[amB a] at h;exact absurd h a
 rw[amA a];have a:=apJ.1 a;have e:Vl.keyed (nV o)=true:=rfl;have f:=Vl.gK (key:=aX) a e;have g:=Vl.gK (key:=cL) f rfl;have s1:=Vl.BD (nV o) aX;have s2:=Vl.BD (Vl.aQ (nV o) aX) cL;have c:=Vl.BD (Vl.aQ (Vl.aQ (nV o) aX) cL) Vl.lenK;have i:aX ∉ (Vl.aQ (nV o) aX).keys:=Vl.yB aX _ _;have j:cL ∉ (Vl.aQ (Vl.aQ (nV o) aX) cL).keys:=Vl.yB cL _ _;have l:(nV o).kids.length=o.kids.length:=rfl;refine⟨rfl,rfl,Bd.I3 g rfl d,λhm=>i (s2.1 _ (c.1 _ hm)),λhm=>j (c.1 _ hm),?_⟩;show (Vl.aQ (Vl.aQ (Vl.aQ (nV o) aX) cL) Vl.lenK).kids.length<=_;omega
theorem Qh (o:Ob)(D:List UInt8):(plain o D).1.wt<=o.wt+D.length:=by
 have d:=Vl.jX o;unfold plain;split
 ·show (6:Nat)<=_;omega
 split
 ·show (6:Nat)<=_;omega
 ·have f:=Pa o;have g:=Vl.jD (nV o) aX;have a:=Vl.jD (Vl.aQ (nV o) aX) cL;have h:=Vl.jD (bare o) Vl.lenK;have b:=Vl.jX (Bd.strm (bare o) D);have i:=Vl.jX (Vl.aQ (bare o) Vl.lenK);have e:bare o=Vl.aQ (Vl.aQ (nV o) aX) cL:=rfl;rw[<-e] at a;have c:(Bd.strm (bare o) D).s=D:=rfl;have a2:(Bd.strm (bare o) D).keys=(Vl.aQ (bare o) Vl.lenK).keys:=rfl;have a3:(Bd.strm (bare o) D).kids=(Vl.aQ (bare o) Vl.lenK).kids:=rfl;rw[c,a2,a3] at b;show (Bd.strm (bare o) D).wt<=_;omega
end Ff
end
end Go.Proofs.YtlipjfcbjemicaaGreatDoor
