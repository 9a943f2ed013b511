/- Texts that go together: DfO DfP DfQ SStrC SZlibW DfR PrC PrD PrF FeF FeG FeH Plain08S SStrm SDrop5 StrmA FeI FeJ PrE FeP Plain16M FeQ SChunk FeR FeS FeT FeK CsC CsE Plain20 Plain16O Plain16P CsD CsF CsG CsI CsH CsJ Plain20B Plain20C CsK. -/
import Derived.Test.YtlipjfcbjemicaaGreatDoorRows
import Derived.Test.YtlipjfcbjemicaaGreatDoorMdodpohcb
set_option linter.defProp false
set_option linter.unusedSimpArgs false
set_option linter.unusedVariables false
set_option maxRecDepth 20000
open Go.Proofs.Tryz
open Go.Proofs.Tryz renaming prog->ah
open Option renaming some->ax,none->aw
open Bool renaming true->av,false->au
open Go renaming Value->aq,World->ao
open Decidable renaming decide->ai
namespace Go.Proofs.YtlipjfcbjemicaaGreatDoor
variable{D:TypeId}{K:VWP}{M N:Eng.Mem}{P:Program}{PK:PKT}{W w:ao}{a colors:Int}{above key:List UInt8}{b cap f i j:Nat}{cb:Array Bool}{cs cur:List aq}{l:List Nat}{o:Ob}{pv v va vc vk:aq}{q:Bool}{x:Pm}{xo yo:Operand}{t0 t1:aq}{k0:Eng.KT}
section
open Eng Go.RowKit
abbrev gl:=List UInt8×aq×List Nat
def fe (a:List gl):List (List UInt8×aq):=a.map λr=>(r.1,r.2.1)
def dz (r:gl):Ent:=.urow 3 1 r.2.1 r.2.2.length (aV r.2.2)
def dw (b:Nat)(a:List gl)(T:List Ent):List Ent:=.map b (fe a)::(a.map dz++T)
def kx (s:List UInt8)(at_:Nat)(a:List gl):Prop:=∀r∈a,r.2.2.length<=at_∧∀i∈r.2.2,i < at_∧i+3<=s.length∧(s.drop i).take 3=r.1
theorem mr (x:List UInt8):∀a:List gl,sP (fe a) x=aw∨∃(j:Nat) (v:aq) (l:List Nat),a[j]?=ax (x,v,l)∧sP (fe a) x=ax v∧∀m:Nat,m < j->∀p:List UInt8×aq,(fe a)[m]?=ax p->p.1≠x
|[]=>.inl rfl
|r::a=>by
  by_cases h:r.1=x
  ·subst h;exact .inr ⟨0,r.2.1,r.2.2,rfl,by simp[sP,fe],λm hm=>absurd hm (Nat.not_lt_zero _)⟩
  ·rcases mr x a with b|⟨j,v,l,d,c,e⟩
   ·refine .inl ?_;simp only[sP,fe,anE,List.find?_cons] at b ⊢;simp only[h,alL];exact b
   ·refine .inr ⟨j+1,v,l,d,?_,λm hm p hp=>?_⟩
    ·simp only[sP,fe,anE,List.find?_cons] at c ⊢;simp only[h,alL];exact c
    ·cases m with
    |zero=>
      have:(r.1,r.2.1)=p:=by simpa[fe] using hp
      subst this;exact h
    |succ m=>exact e m om p (by simpa[fe] using hp)
theorem yl (a:List gl)(j:Nat)(x:List UInt8)(v:aq)(l:List Nat):fe (a.set j (x,v,l))=(fe a).set j (x,v):=by
 unfold fe;rw[arQ]
theorem ym {a:List gl}(b:j < a.length)(r:gl)(T:List Ent):(a.map dz++T).set j (dz r)=(a.set j r).map dz++T:=by
 rw[List.set_append,alH (by rw[amT];exact b),arQ]
theorem re {a:List gl}{r:gl}(h:a[j]?=ax r)(T:List Ent):(a.map dz++T)[j]?=ax (dz r):=by
 have b:=(alY.1 h).1;rw[anV (by rw[amT];exact b),apP,h];rfl
theorem qn {s:List UInt8}{a:Nat}{e:List gl}(h:kx s a e)(c:a<=b):kx s b e:=λr d=>⟨aoM (h r d).1 c,λi hi=>⟨aoN ((h r d).2 i hi).1 c,((h r d).2 i hi).2⟩⟩
theorem agA:(Tryz.prog.info? 123).bind (·.zero)=ax nilS:=krx
section
variable {w:ao}{PK:PKT}{K:VWP}{S:Nat->Prop}{w0:ao}{L T:List Ent}
theorem adY {s:List UInt8}{fr o:Nat}{c:List gl}(a:OwnS S w0 w (dw b c T))(f:kx s fr c)(I:fr<=o)(N:o<=s.length)(O:s.length<=1048576)
  (k:∀d W,OwnS S w0 W (dw b d T)->kx s o d->K (.tuple #[]) W):CallX ah 293 #[.map (ax b),strK s,.int .i64 (fr:Int),.int .i64 (o:Int)] w PK K:=by
 refine fG (vV (k0:=RetK λv W=>v=.tuple #[]∧∃d,OwnS S w0 W (dw b d T)∧kx s o d) ?_) (λe W ⟨v,he,J,d,a,f⟩=>by subst he;subst J;exact k d W a f);unfold nZ nz;refine loop (λvs W=>∃(i:Nat) (c:List gl),vs=[.int .i64 (i:Int)]∧i<=o∧kx s i c∧OwnS S w0 W (dw b c T)) (λvs _=>o - n0 vs) ⟨fr,c,rfl,I,f,a⟩ ?_;clear a f;rintro vs D ⟨i,c,rfl,hi,f,a⟩ _;simp only[lX,gd,rs,iN,dx,bnx,gtx,etx];have stop:∀W,OwnS S w0 W (dw b c T)->RetK (λv W=>v=.tuple #[]∧∃d,OwnS S w0 W (dw b d T)∧kx s o d) (.returned (.tuple #[])) W:=λW a=>retK ⟨rfl,c,a,qn f hi⟩;by_cases q:(i:Int) < (o:Int)
 case neg=>
  simp only[q,alL,gd,rs,i_f];exact stop D a
 simp only[q,alK,gd,rs];have z:(strK s)=.string ⟨s.toArray⟩:=rfl;rw[z,iJ alV,aA om om];simp only[rs];by_cases E:(i:Int)+3<=(s.length:Int)
 case neg=>
  simp only[E,alL,i_f];exact stop D a
 simp only[E,alK,i_t];have t:i+3<=s.length:=om
 have a:=a.drew;refine⟨λW=>RR W b (fe c),a.at_ 0 rfl,?_⟩;have u:((s.drop ((i:Int)).toNat).take (((i:Int)+3).toNat - ((i:Int)).toNat))=(s.drop i).take 3:=by
  rw[alQ,show ((i:Int)+3).toNat - i=3 by omega]
 refine aR _ (λ_=>Ia) ?_;rw[aA om om];refine aR _ (λ_=>nS alV om om om) ?_;refine aR _ (λ_=>Ia) ?_;rw[aA om om];refine aR _ (λ_=>nS alV om om om) ?_;rw[u];generalize F:(s.drop i).take 3=x;refine jI ((sP (fe c) x).getD nilS) (λW h=>KI (ok:=au) atI alV agA h x) ?_;rw[aA om om,show (i:Int)+1=((i+1:Nat):Int) by omega];rcases mr x c with G|⟨j,v,l,y,L,A⟩
 ·rw[G];refine tV (i:Int) (OwnS.nilU a 3 1) λb3 w2 a=>⟨a.at_ 2 rfl,?_⟩;refine oK 1 a rfl (a.sl 0 rfl 1 1 1 rfl) rX om λv' w3 a=>?_;have a:OwnS S w0 w3 (.urow 3 1 v' 1 (aV [i])::.map b (fe c)::(c.map dz++T)):=a.tail;refine Pw 1 atI alV a rfl x v' G λH a=>?_;refine aY ⟨i+1,c++[(x,v',[i])],rfl,om,?_,?_⟩ (by simp[n0,RowKit.intOf];omega)
  ·intro r g;rcases amK.1 g with g|g
   ·exact qn f om r g
   ·rw[amH.1 g];exact⟨sm,λm hm=>by rw[amH.1 hm];exact⟨om,t,F⟩⟩
  ·have e:dw b (c++[(x,v',[i])]) T=.map b (fe c++[(x,v')])::(c.map dz++([dz (x,v',[i])]++T)):=by
    unfold dw fe;simp[amW,alS]
   rw[e];have a:OwnS S w0 H ([dz (x,v',[i])]++((.map b (fe c++[(x,v')])::c.map dz)++T)):=a;exact a.front
 ·rw[L];have B:=(alY.1 y).1;have C:=aoZ y;have p:=f _ C;refine tV (i:Int) a λb3 w2 a=>⟨a.at_ 1 rfl,?_⟩;refine oK (j+2) (v:=v) (n:=l.length) (xs:=aV l) a (by show (c.map dz++T)[j]?=_;rw[re y];rfl) (a.sl 0 rfl 1 1 1 rfl) rX (by have:=p.1;simp only at this;omega) λv' w3 a=>?_;have M:((c.map dz++T).set j (.urow 3 1 v' (l.length+1) (aV l++Nt [(i:Int)])))=(c.set j (x,v',l++[i])).map dz++T:=by
   rw[<-ym B];unfold dz;rw[mK,alI];rfl
  have a:OwnS S w0 w3 (.map b (fe c)::((c.map dz++T).set j (.urow 3 1 v' (l.length+1) (aV l++Nt [(i:Int)])))):=a.tail;rw[M] at a;refine Xt 0 j atI alV a rfl x v v' (by unfold fe;rw[apP,y];rfl) A λH a=>?_;refine aY ⟨i+1,c.set j (x,v',l++[i]),rfl,om,?_,?_⟩ (by simp[n0,RowKit.intOf];omega)
  ·intro r g;rcases arP g with g|g
   ·exact qn f om r g
   ·subst g;refine⟨by simp only[alI,anO];have:=p.1;simp only at this;omega,λm hm=>?_⟩;rcases amK.1 hm with hm|hm
    ·exact⟨by have:=(p.2 m hm).1;omega,(p.2 m hm).2⟩
    ·rw[amH.1 hm];exact⟨om,t,F⟩
  ·unfold dw;rw[yl];exact a
end
end
section
open Eng Go.RowKit
theorem aeZ (a:Sl w v 1 l.length (aV l))(hi:i < l.length) :
  ∃p,(mIA 123 v (.int .i64 (i:Int))).run ah w=.ok (.value (.pointer (ax p))) w∧(aH 3 (.pointer (ax p))).run ah w=.ok (.value (.int .i64 (l[i]:Int))) w:=by
 obtain⟨b,off,cap,rfl,c⟩:=bX a om;refine⟨⟨b,off+i,aw⟩,?_,?_⟩
 ·have:=dY (P:=ah) (T:=123) (b:=b) (off:=off) (cap:=cap) (n:=l.length) (k:=.i64) (i:=(i:Int)) (w:=w) amF MC om om;rw[alQ,amI] at this;exact this
 ·refine aW (AtV.cell aU (c _ _ ?_));unfold aV;rw[apP,alT hi];rfl
def ji (s:List UInt8)(at_:Nat)(x:bj):Prop:=x.1=0∧(x.2.1=0∧x.2.2=0∨3<=x.2.1∧x.2.1<=258∧1<=x.2.2∧x.2.2<=32768∧x.2.2<=at_∧at_+x.2.1<=s.length∧∀i,i < x.2.1->s[at_ - x.2.2+i]?=s[at_+i]?)
theorem yn {s:List UInt8}{a:Nat}(h:(s.drop a).take 3=(s.drop b).take 3)(hi:i < 3):s[a+i]?=s[b+i]?:=by
 have:=congrArg (λl=>l[i]?) h;simp only[aoK,alH hi,aoY] at this;exact this
theorem akV (n f:Nat):DoX ah (aS 291 #[(1,.int .i64 (n:Int)),(2,.int .i64 (f:Int))]) w PK K=K (ptV (0,n,f)) w:=aD krx
section
variable {w:ao}{PK:PKT}{K:VWP}{S:Nat->Prop}{w0:ao}{L T:List Ent}
theorem agU (j:Nat){x:bj}(a:OwnS S w0 w L)(hi:L[j]?=ax (ptE b x)):DoX ah (aH 291 (.pointer (ax ⟨b,0,aw⟩))) w PK K=K (ptV x) w:=l_at (a.agg j hi ZI)
theorem afG {K:Ending->ao->Prop}{x:bj}(i:Nat)(a:OwnS S w0 w L)(hi:L[i]?=ax (ptE b x))(k:K (.returned (ptV x)) w):RetX ah [.cell (.pointer (ax ⟨b,0,aw⟩)) 291] w K:=
 iC (bI (a.agg i hi ZI)) k
theorem T5 {s:List UInt8}{a:Nat}{d:List gl}(c:OwnS S w0 w (dw b d T))(N:kx s a d)(ha:a<=s.length)(hs:s.length<=1048576)
  (k:∀x W,OwnS S w0 W (dw b d T)->ji s a x->K (ptV x) W):CallX ah 292 #[.map (ax b),strK s,.int .i64 (a:Int)] w PK K:=by
 refine fG (qW (k0:=RetK λv W=>∃x,v=ptV x∧OwnS S w0 W (dw b d T)∧ji s a x) ?_) (λe W ⟨v,he,x,hv,c,hc⟩=>by subst he;subst hv;exact k x W c hc);unfold kJ nz;refine Vk c λg w1 c=>?_;refine Vk c λr w2 c=>?_;have t:(strK s)=.string ⟨s.toArray⟩:=rfl;have fin:∀(W:ao) (x:bj),OwnS S w0 W (ptE r x::ptE g (0,0,0)::dw b d T)->ji s a x->DoX ah (aH 291 (.pointer (ax ⟨r,0,aw⟩))) W (pk (RetK λv W=>∃x,v=ptV x∧OwnS S w0 W (dw b d T)∧ji s a x)) λt72 w=>
   DoX ah (aN 291 (.pointer (ax ⟨g,0,aw⟩)) t72) w (pk (RetK λv W=>∃x,v=ptV x∧OwnS S w0 W (dw b d T)∧ji s a x)) λ_ w=>
   RetX ah [.cell (.pointer (ax ⟨g,0,aw⟩)) 291] w (RetK λv W=>∃x,v=ptV x∧OwnS S w0 W (dw b d T)∧ji s a x):=by
  intro W x c O;rw[agU 0 c rfl];refine LW (y:=x) 1 c rfl λw3 c=>?_;exact afG 1 c rfl (retK ⟨x,rfl,c.tail.tail,O⟩)
 have o:ji s a (0,0,0):=⟨rfl,.inl ⟨rfl,rfl⟩⟩;simp only[rs];rw[t,iJ alV,aA om om];simp only[rs];by_cases Z:(s.length:Int) < (a:Int)+3
 ·simp only[Z,alK,i_t];exact fin w2 _ c o
 simp only[Z,alL,i_f];have a1:a+3<=s.length:=om
 rw[iJ alV];simp only[rs];rw[aA (n:=(s.length:Int) - a) om om,GB,show min (258:Int) ((s.length:Int) - a)=((min 258 (s.length - a):Nat):Int) by omega];generalize P:min 258 (s.length - a)=most;rw[ZY alV om om om,alQ,show ((a:Int)+3).toNat - a=3 by omega];generalize O:(s.drop a).take 3=x;refine aD (KI (ok:=au) atI alV agA (show RR w2 b (fe d) from c.at_ 2 rfl) x) |>.mpr ?_;simp only[apT,if_false];have main:∀(v:aq) (l:List Nat),(∀W x,OwnS S w0 W (ptE r x::ptE g (0,0,0)::dw b d T)->Sl W v 1 l.length (aV l))->l.length<=a->(∀i∈l,i < a∧i+3<=s.length∧(s.drop i).take 3=x) ->
   LoopX [.int .i64 ((l.length:Int) - 1)] w2 (λQ w N1=>∀_:Sg,fF (.string ⟨s.toArray⟩) (.int .i64 (a:Int)) (.pointer (ax ⟨g,0,aw⟩)) (.pointer (ax ⟨r,0,aw⟩)) (.int .i64 (most:Int)) v (Q.getD 0 undef) w N1 (RetK λv W=>∃x,v=ptV x∧OwnS S w0 W (dw b d T)∧ji s a x)):=by
  intro v l f a6 R;refine loop (λvs W=>∃(i:Nat) (x:bj),vs=[.int .i64 ((i:Int) - 1)]∧i<=l.length∧ji s a x∧OwnS S w0 W (ptE r x::ptE g (0,0,0)::dw b d T)) (λvs _=>(RowKit.intOf (vs.getD 0 undef)+1).toNat) ⟨l.length,(0,0,0),rfl,om,o,c⟩ ?_;clear c;rintro vs w3 ⟨i,y,rfl,hi,L,c⟩ _;simp only[fF,gd,rs,nz];cases i with
 |zero=>
   simp only[show ai ((0:Int)<=((0:Nat):Int) - 1)=au by decide,gd,rs,i_f];exact fin w3 y c L
 |succ i=>
   rw[show ((i+1:Nat):Int) - 1=(i:Int) by omega];simp only[show ai ((0:Int)<=(i:Int))=av from alM om,gd,rs];obtain⟨p,u,A⟩:=aeZ (f w3 y c) (i:=i) om;rw[aD u,aD A];obtain⟨B,U,C⟩:=R l[i] (alX _);generalize D:l[i]=m at B U C;simp only[rs];rw[aA om om,show (a:Int) - m=((a - m:Nat):Int) by omega];by_cases q:((a - m:Nat):Int)<=32768
   case neg=>
    simp only[q,alL,gd,rs,i_f];exact fin w3 y c L
   simp only[q,alK,gd,rs];rw[aO Er,pt_1 c 0 rfl];simp only[rs];by_cases E:(y.2.1:Int) < (most:Int)
   case neg=>
    simp only[E,alL,gd,rs,i_f];exact fin w3 y c L
   simp only[E,alK,gd,rs,i_t];refine join λJ hJ=>?_;rw[aD u,aD A,D];have next:∀(W:ao) (z:bj),OwnS S w0 W (ptE r z::ptE g (0,0,0)::dw b d T)->ji s a z->J [] W:=by
    intro W z c hz;refine hJ _ _ λ_=>?_;simp only[jB,gd,rs,nz];rw[aA om om];exact aY ⟨i,z,rfl,om,hz,c⟩ (by simp[RowKit.intOf])
   refine aM c (RS s m a most w3 B om hs) ?_;rintro _ w4 ⟨n,rfl,hn,V,t⟩ c;rw[aO Er,pt_1 c 0 rfl];simp only[rs];by_cases F:(y.2.1:Int) < (n:Int)
   case neg=>
    simp only[F,alL,i_f];exact next w4 y c L
   simp only[F,alK,i_t];obtain⟨p2,G,H⟩:=aeZ (f w4 y c) (i:=i) om;rw[aD G,aD H,D];simp only[rs];rw[aA om om,show (a:Int) - m=((a - m:Nat):Int) by omega,akV];refine LW (y:=(0,n,a - m)) 0 c rfl λw5 c=>?_;refine next w5 (0,n,a - m) c ⟨rfl,.inr ⟨?_,by show n<=258;omega,by show 1<=a - m;omega,by show a - m<=32768;omega,by show a - m<=a;omega,by show a+n<=s.length;omega,λj M=>?_⟩⟩
   ·show 3<=n;rcases t with h|h
    ·omega
    ·refine Nat.le_of_not_lt λX=>h (yn (C.trans O.symm) X)
   ·show s[a - (a - m)+j]?=_;rw[show a - (a - m)=m by omega];exact V j M
 rcases mr x d with hn|⟨j,v,l,M,R,a7⟩
 ·rw[hn];show DoX ah (mB .len #[123] 3 #[au] #[nilS]) w2 _ _;rw[show nilS=.slice aw 0 0 from rfl,bQ amF];simp only[rs];rw[aA om om];exact main (.slice aw 0 0) [] (λW x c=>by exact (OwnS.nilU c 3 1).slU 0 rfl) sm (λi hi=>by cases hi)
 ·rw[R];have I:=N _ (aoZ M);have f:∀(W:ao) (y:bj),OwnS S w0 W (ptE r y::ptE g (0,0,0)::dw b d T)->Sl W v 1 l.length (aV l):=λW y c=>c.slU (j+3) (by show (d.map dz++T)[j]?=_;rw[re M];rfl);show DoX ah (mB .len #[123] 3 #[au] #[v]) w2 _ _;rw[bE amF (f w2 _ c)];simp only[rs];have Y:l.length<=a:=I.1;rw[aA om om];exact main v l f Y I.2
end
end
section
open Eng Go.RowKit
theorem wm:∀{l:List bj} {out:List UInt8} {x:bj},gw out.length l->fy (fg out l).length x->gw out.length (l++[x])
|[],out,x,_,h=>⟨h,trivial⟩
|y::l,out,x,a,h=>by
  refine⟨a.1,?_⟩;have b:=a.2;rw[<-ni] at b ⊢;exact wm b h
theorem Q0 (l:List bj)(out:List UInt8)(x:bj):fg out (l++[x])=fx (fg out l) x:=by
 unfold fg;rw[asI];rfl
theorem oy:∀{n:Nat} {s:List UInt8} {a d:Nat},1<=d->d<=a->a+n<=s.length->(∀i,i < n->s[a - d+i]?=s[a+i]?)->gx d n (s.take a)=s.take (a+n)
|0,s,a,d,_,_,_,_=>rfl
|n+1,s,a,d,b,f,g,h=>by
  rw[gx];have c:(s.take a).length=a:=by rw[alR];omega
  have e:(s.take a).getD ((s.take a).length - d) 0=s[a]:=by
   rw[c,alO,aoK,alH om];have:=h 0 om;rw[anF,anF] at this;rw[this,alT om];rfl
  rw[e,<-amO om,oy b om om (λi hi=>by
   have:=h (i+1) om;rw[show a - d+(i+1)=a+1 - d+i by omega,show a+(i+1)=a+1+i by omega] at this;exact this)]
  congr 1;omega
def jd (s:List UInt8)(a:Nat)(x:bj):bj:=if x.2.1=0 then (s.getD a 0,x.2.1,x.2.2) else x
theorem yp {s:List UInt8}{a:Nat}{x:bj}(h:ji s a x):fy a (jd s a x):=by
 unfold fy jd;obtain⟨d,b⟩:=h;by_cases c:x.2.1=0
 ·simp only[alH c];rcases b with b|b
  ·exact b.2
  ·omega
 ·rw[alG c,alG c];rcases b with b|b
  ·exact absurd b.1 c
  ·exact⟨d,b.1,b.2.1,b.2.2.1,b.2.2.2.1,b.2.2.2.2.1⟩
theorem yq {s:List UInt8}{a:Nat}{x:bj}(h:ji s a x)(d:a < s.length):fx (s.take a) (jd s a x)=s.take (a+max x.2.1 1):=by
 unfold fx jd;obtain⟨j,c⟩:=h;by_cases b:x.2.1=0
 ·simp only[alH b];rw[b,alO,alT d];exact (amO d).symm
 ·simp only[alG b];rcases c with c|⟨k,l,e,m,f,g,i⟩
  ·exact absurd c.1 b
  ·rw[oy e f g i,Nat.max_eq_left om]
section
variable {w:ao}{PK:PKT}{K:VWP}{S:Nat->Prop}{w0:ao}{L T:List Ent}
theorem oz {a:List gl}(c:OwnS S w0 w (dw b a T)):OwnS S w0 w (T++dw b a []):=by
 have c:OwnS S w0 w ((Ent.map b (fe a)::a.map dz)++T):=c;unfold dw;rw[amE];exact c.perm arH
theorem xi {c:List gl}(a:OwnS S w0 w (T++dw b c [])):OwnS S w0 w (dw b c T):=by
 unfold dw at a;rw[amE] at a;exact a.perm arH
theorem abD (x:bj)(a:OwnS S w0 w L)(k:∀b w',OwnS S w0 w' (ptE b x::L)->K (.slice (ax ⟨b,0,aw⟩) 1 1) w'):DoX ah (bN 269 1 #[(0,ptV x)]) w PK K:=
 bA (λb=>.slice (ax ⟨b,0,aw⟩) 1 1) (ptC x) 291 (λ_=>by kernel_rfl) a k
end
theorem elPt:elB ah 291 3 24=true:=krx
theorem Rf (s:List UInt8)(M:Mem)(w:ao)(B:M.has w)(C:s.length<=1048576) :
  RetM ah 266 #[strK s] M w (λr N=>∃ps,SlA N.A N.w r 3 ps.length (ps.flatMap ptC)∧gw 0 ps∧fg [] ps=s∧ps.length<=s.length):=by
 refine bB B λK H=>Ct ?_;unfold zH nz;have p:(strK s)=.string ⟨s.toArray⟩:=rfl;rw[p,iJ alV];simp only[rs,show ai ((1048576:Int) < (s.length:Int))=au from alJ om,i_f];have d:OwnS M.A w w [.mem M]:=OwnS.memS B;refine Qv (OwnS.nilU d 291 3) λb R d=>?_;refine loop (λvs W=>∃(ps:List bj) (a:Nat) (f:List gl) (v:aq),vs=[v,.int .i64 (a:Int)]∧a<=s.length∧ps.length<=a∧gw 0 ps∧fg [] ps=s.take a∧kx s a f∧OwnS M.A w W (dw b f [.urow 291 3 v ps.length (ps.flatMap ptC),.mem M])) (λvs _=>s.length - n1 vs)
  ⟨[],0,[],nilS,rfl,om,sm,trivial,rfl,(λr I=>by cases I),d⟩ ?_
 clear d;rintro vs w2 ⟨ps,a,f,v,rfl,L,O,k,i,l,d⟩ _;simp only[rL,gd,rs,nz];rw[iJ alV];simp only[rs];by_cases m:(a:Int) < (s.length:Int)
 case neg=>
  simp only[m,alL,i_f];have d:OwnS M.A w w2 (.urow 291 3 v ps.length (ps.flatMap ptC)::.mem M::dw b f []):=oz d;obtain⟨N,g,q,d⟩:=OwnS.bJ d 0 rfl;refine H _ _ N _ 0 d rfl g ⟨ps,q,k,?_,om⟩;rw[i,amP om]
 have j:a < s.length:=om
 simp only[m,alK,i_t];refine T5 (s:=s) d l L C λx w3 d t=>?_;refine Vk d λD S d=>?_;refine LW (y:=x) 0 d rfl λE d=>?_;have d:OwnS M.A w E (ptE D x::dw b f [.urow 291 3 v ps.length (ps.flatMap ptC),.mem M]):=d;rw[aO Er,pt_1 d 0 rfl,yI];refine join λJ P=>?_;rw[aO Er,pt_1 d 0 rfl];simp only[rs];have n:fy a (jd s a x):=yp t;have hex:=yq t j;have hle:a+max x.2.1 1<=s.length:=by
  rcases t.2 with h|h
  ·omega
  ·have:=h.2.2.2.2.2.1;omega
 have u:(s.take a).length=a:=by rw[alR];omega
 have next:∀W,OwnS M.A w W (ptE D (jd s a x)::dw b f [.urow 291 3 v ps.length (ps.flatMap ptC),.mem M])->J [] W:=by
  intro W d;refine P _ _ λ_=>?_;simp only[rJ,gd,rs,nz];rw[agU 0 d rfl];have d:OwnS M.A w W (dw b f [.urow 291 3 v ps.length (ps.flatMap ptC),.mem M]):=d.tail;refine abD (jd s a x) (oz d) λT F d=>?_;refine bR 1 atF elPt dc d rfl (d.sl 0 rfl 3 1 1 rfl) SP om om λv' Q d=>?_;have d:OwnS M.A w Q ([.urow 291 3 v' (ps.length+1) (ps.flatMap ptC++ptC (jd s a x)),.mem M]++dw b f []):=d.tail
  try simp only[rs]
  rw[aA om om,show (a:Int)+max (x.2.1:Int) 1=((a+max x.2.1 1:Nat):Int) by omega];refine adY (s:=s) (xi d) l om hle C λz U d o=>?_;refine aY ⟨ps++[jd s a x],a+max x.2.1 1,z,v',rfl,hle,by rw[alI,anO];omega,?_,?_,o,?_⟩ (by simp[n1,RowKit.intOf];omega)
  ·exact wm (out:=[]) k (by rw[i,u];exact n)
  ·rw[Q0,i,hex]
  ·rw[alI,anO,aoQ,apQ];exact d
 by_cases G:x.2.1=0
 ·simp only[show ai ((x.2.1:Int)=0)=av from alM om,i_t];rw[s_ix (c:=s[a]) alV om (by rw[alQ,alT j]),aO Tp];refine aK 0 d rfl krx rfl (by show 0 < 3;decide) λF d=>?_;refine next F ?_
  have e:jd s a x=(s[a],x.2.1,x.2.2):=by
   unfold jd;rw[alH G,alO,alT j];rfl
  rw[e];exact d
 ·simp only[show ai ((x.2.1:Int)=0)=au from alJ om,i_f];refine next E ?_
  have e:jd s a x=x:=by unfold jd;rw[alG G]
  rw[e];exact d
end
section
open Eng
def yF(t0 w)(K:KT):=nz f269 1 [] [] [] (zg [0] [t0]) w K
theorem Dx:yF t0 w k0->Calls ah 269 #[t0] w k0:=cw func269
def gA(t0 w)(K:KT):=nz f303 1 [] [] [] (zg [0] [t0]) w K
theorem lH:gA t0 w k0->Calls ah 303 #[t0] w k0:=cw func303
end
section
open Eng
def Ho(t0 t1 w)(K:KT):=nz f191 1 [] [] [] (zg [0,1] [t0,t1]) w K
theorem H7:Ho t0 t1 w k0->Calls ah 191 #[t0,t1] w k0:=cw func191
end
section
open Eng Go.RowKit
theorem ahQ:elB ah 5 1 1=true:=krx
theorem agW:(Tryz.prog.info? 5).map (·.size)=ax 1:=krx
theorem UQ {dT sT ty T E:TypeId}{g n:Nat}{s:List UInt8}(hu:P.underlying dT=ax (.slice E))(c:(P.info? E).map (·.size)=ax 1)
  (j:w.heap[g]?=ax (.cells cur.toArray T (0,0))) (e:s.length=n) (f:cur.length=n) :
  (mB .copy #[dT,sT] ty cb #[.slice (ax ⟨g,0,aw⟩) n cap,.string ⟨s.toArray⟩]).run P w=.ok (.value (goInt n)) (w.setRow g (aP s).toArray):=by
 have h:(aP s).length=n:=by rw[gL,e]
 have a:=run_storeCells_at P g 0 T (aP s) 0 cur.toArray w j (by rw[h];simp[f]) eW;simp only[anF,alU,apL,amZ] at a;rw[arM (by rw[h];simp[f]),amE] at a;obtain⟨i,hi,k⟩:=anP.1 c;have b:List.take n (aP s)=aP s:=amP om;have d:(⟨s.toArray⟩:ByteArray).size=n:=by rw[dM,e]
 unfold aP at b a;simp[mB,builtin,Builtin.copy_,run_underlying hu,Builtin.lenOf,Builtin.firstCells,sizeOf,typeInfo,hi,k,a,d,b,aP]
theorem Rn (s:List UInt8)(w:ao)(t:s.length<=1000000000):Ret ah 269 #[strK s] w (λv w'=>v=strK s∧Below w.heap.size w w'):=by
 refine aZ λK l=>Dx ?_;unfold yF nz;refine fG (lH (k0:=RetK λv w'=>v=strK s∧Below w.heap.size w w') ?_) (λe W ⟨v,he,m,c⟩=>by subst he;subst m;exact l _ _ ⟨rfl,c⟩);unfold gA nz;rw[show strK s=.string ⟨s.toArray⟩ from rfl,iJ alV];simp only[rs];by_cases d:s=[]
 ·subst d;simp only[apD,show ai (((0:Nat):Int)=0)=av from rfl,i_t];exact retK ⟨rfl,Below.refl _ _⟩
 have u:0 < s.length:=aqH.2 d;simp only[show ai ((s.length:Int)=0)=au from alJ om,i_f];rw[iJ alV];refine NQ amJ ahQ om om (Own.start w) λg f y h c=>?_;rw[amI] at h;refine rS (UQ amJ agW (c.at_ 0 rfl) rfl h) ?_;have a:Own w (f.setRow g (aP s).toArray) [.cells g (aP s) 5]:=gK c 0 rfl _;generalize f.setRow g (aP s).toArray=w2 at a;refine aD (dY (P:=ah) (T:=53) (b:=g) (off:=0) (cap:=s.length) (n:=s.length) (k:=.i64) (i:=0) (w:=w2) amJ agW om om) |>.mpr ?_;rw[bQ amJ];have o:w2.heap[g]?=ax (.cells (aP s).toArray 5 (0,0)):=a.at_ 0 rfl;have q:=Lib.run_unsafeString_row (P:=ah) w2 239 3 9 5 underlying239 krx g s.length (by unfold World.shape?;rw[o];simp[gL]) s d (alP _) om (λj x r=>by
  have:=a.cell 0 rfl j (Eng.jC r);rw[cK,alU];exact this)
 refine rS (show (mB .unsafeString #[239,3] 9 #[au,au] #[.pointer (ax ⟨g,0,aw⟩),.int .i64 s.length]).run ah w2=.ok (.value (.string ⟨s.toArray⟩)) (w2.freeze ⟨g,0,aw⟩ s.length) by
  simp[mB,builtin,q]) ?_
 refine retK ⟨rfl,Lib.below_freeze a.done (p:=⟨g,0,aw⟩) ?_ _⟩;exact ((a.all _ (amH.2 rfl)).2 g rfl).elim (λx=>x.elim) id
theorem rh:∀(f:Nat) (s:List UInt8),(ib f s).length<=40*f+8*s.length
|0,s=>by unfold ib;simp
|f+1,s=>by
  unfold ib;split
  ·rw[ju];omega
  ·rw[alI,ju];have:=rh f (s.drop 65535);rw[alW] at this;rw[alR];omega
theorem R0 (s:List UInt8):(az (fu s)).length<=2*s.length+10:=by
 have:=rh (s.length / 65535+1) s;rw[kz];unfold fu;omega
theorem Ws (s:List UInt8)(M:Mem)(w:ao)(n:M.has w)(o:s.length<=1048576) :
  RetM ah 235 #[strK s,.int .i64 2] M w (λv _=>∃R,v=.tuple #[.string ⟨(az R).toArray⟩,.int .i64 0]∧bn R∧ij R s∧(az R).length<=2*s.length+10):=by
 refine bB n λK q=>E8 ?_;unfold CU nz;have a:OwnS M.A w w [.mem M]:=OwnS.memS n;simp only[rs,gd,show ai ((2:Int) < 0)=au from rfl,show ai ((2:Int) < 2)=au from rfl,show ai ((2:Int)=0)=au from rfl,i_f];rw[show strK s=.string ⟨s.toArray⟩ from rfl,iJ alV];simp only[rs,show ai ((1048576:Int) < (s.length:Int))=au from alJ om,i_f];refine R7 a o λr a=>?_;refine bH a 0 rfl (Rf s M r (a.hasM 0 rfl) o) ?_;rintro pv N w2 g ⟨ps,h,d,i,t⟩ a;have a:OwnS M.A w w2 [.mem N]:=a;refine join λJ u=>?_;have next:∀(R:List Nat) (c:Mem) (W:ao),N.le c->OwnS M.A w W [.mem c]->bn R->ij R s->(az R).length<=2*s.length+10->J [.string ⟨(az R).toArray⟩] W:=by
  intro R c W g2 a j k l;refine u _ _ λ_=>?_;simp only[gd];unfold yX nz;refine join λx m=>?_;simp only[rs,alK,i_t];have last:∀(R:List Nat) (c:Mem) (W:ao),N.le c->OwnS M.A w W [.mem c]->bn R->ij R s->(az R).length<=2*s.length+10->x [.string ⟨(az R).toArray⟩] W:=by
   intro R c W g2 a j k l;refine m _ _ λ_=>?_;simp only[gd];unfold xN nz;refine aM a (Rn (az R) W om) ?_;rintro _ B rfl a;exact q _ _ c _ 0 a rfl (g.trans g2) ⟨R,rfl,j,k,l⟩
  refine bH a 0 rfl (WX ps pv c W (a.hasM 0 rfl) (h.le g2) d om) ?_;rintro _ e f g3 ⟨p,rfl,y,z⟩ a;have a:OwnS M.A w f [.mem e]:=a;rw[iJ alV,iJ alV];simp only[rs];by_cases b:((az p).length:Int) < ((az R).length:Int)
  ·simp only[b,alK,i_t];exact last p e f (g2.trans g3) a y (by rw[<-i];exact z) om
  ·simp only[b,alL,i_f];exact last R e f (g2.trans g3) a j k l
 refine bH a 0 rfl (RL ps pv N w2 (a.hasM 0 rfl) h d om) ?_;rintro _ e f g3 rfl a;have a:OwnS M.A w f [.mem e]:=a;rw[iJ alV,iJ alV];simp only[rs];have hle:=R0 s;by_cases b:((az (gr ps)).length:Int) < ((az (fu s)).length:Int)
 ·simp only[b,alK,i_t];exact next (gr ps) e f g3 a (AT ps) (by rw[<-i];exact By d) om
 ·simp only[b,alL,i_f];exact next (fu s) e f g3 a (AI s) (AS s) hle
theorem T0 {R:List Nat}{s:List UInt8}(h:ij R s)(a:bn R)(d:s.length<=1048576):gk ([120,156]++az R++bz (gh s)) 1048576=(s,0):=by
 have c:(bz (gh s)).length=4:=rfl;unfold gk;have f:([120,156]++az R++bz (gh s)).drop 2=az R++bz (gh s):=rfl;have g:¬lg (([120,156]++az R++bz (gh s)).getD 0 0).toNat (([120,156]++az R++bz (gh s)).getD 1 0).toNat=true:=show ¬lg 120 156=av by decide
 rw[alG sm,alG g,f,zz h a om d];simp only[];have i:([120,156]++az R++bz (gh s)).length=2+(az R).length+4:=by simp only[alI,c];simp
 have b:([120,156]++az R++bz (gh s)).drop (2+(az R).length)=bz (gh s):=by
  have e:2+(az R).length=([120,156]++az R:List UInt8).length:=by simp;omega
  rw[e,List.drop_left]
 rw[alG sm,alG (by rw[i];omega),b,alG (by rw[amP (Nat.le_of_eq c)];simp)]
theorem Uu (s:List UInt8)(M:Mem)(w:ao)(b:M.has w)(c:s.length<=1048576) :
  RetM ah 191 #[strK s,.int .i64 2] M w (λv _=>∃t,v=.tuple #[strK t,.int .i64 0]∧gk t 1048576=(s,0)∧t.length<=2*s.length+16):=by
 refine bB b λK e=>H7 ?_;unfold Ho nz;have a:OwnS M.A w w [.mem M]:=OwnS.memS b;refine bH a 0 rfl (Ws s M w b c) ?_;rintro _ N d g ⟨R,rfl,f,h,i⟩ a;have a:OwnS M.A w d [.mem N]:=a;simp only[ex,eS,rs,show ai ((0:Int)≠0)=au from rfl,i_f];rw[show (Value.string ⟨#[120,156]⟩)=.string ⟨([120,156]:List UInt8).toArray⟩ from rfl,agT (by simp;omega)];refine aM a (Qq s d om) ?_;rintro _ w2 rfl a;refine aM a (Ld (gh s) w2) ?_;rintro _ w3 rfl a;rw[agT (by simp[bz];omega)];exact e _ _ N _ 0 a rfl g ⟨_,rfl,T0 h f c,by simp[bz];omega⟩
end
section
open Eng Go.RowKit
theorem acI {a b:UInt8}:IntKind.u8.wrap ((a.toNat:Int) - (b.toNat:Int))=((a - b).toNat:Int):=by
 unfold IntKind.wrap;have c:=a.toNat_lt;have d:=b.toNat_lt;simp only[IntKind.bits,IntKind.signed,UInt8.toNat_sub];simp;omega
theorem u8Sl {l:List UInt8}(a:Sl w v 1 l.length (aP l))(hi:i < l.length) :
  ∃p,(mIA 53 v (.int .i64 (i:Int))).run ah w=.ok (.value (.pointer (ax p))) w∧(aH 5 (.pointer (ax p))).run ah w=.ok (.value (.int .u8 (l[i].toNat:Int))) w:=by
 obtain⟨b,off,cap,rfl,c⟩:=bX a om;refine⟨⟨b,off+i,aw⟩,?_,?_⟩
 ·have:=dY (P:=ah) (T:=53) (b:=b) (off:=off) (cap:=cap) (n:=l.length) (k:=.i64) (i:=(i:Int)) (w:=w) amJ (show (Tryz.prog.info? 5).map (·.size)=ax 1 by kernel_rfl) om om;rw[alQ,amI] at this;exact this
 ·refine aW (AtV.cell nU8l (c _ _ (jC hi)))
section
variable {w:ao}{PK:PKT}{K:VWP}{S:Nat->Prop}{w0:ao}{L:List Ent}
theorem OK {tag:Int}{d:aq}{row:List UInt8}(a:OwnS S w0 w L)(s:∀W,OwnS S w0 W L->Sl W va 1 above.length (aP above))(h:∀W,OwnS S w0 W L->Sl W d 1 row.length (aP row))(u:1<=colors∧colors<=1000000)(E:row.length<=1000000)
  (k:∀g W,OwnS S w0 W (.cells g (aP (dj tag above row colors)) 5::L)->K (.slice (ax ⟨g,0,aw⟩) row.length row.length) W) :
  CallX ah 233 #[rwV va d colors,.int .i64 tag] w PK K:=by
 generalize t:dj tag above row colors=G at k;have v:G.length=row.length:=by rw[<-t,iz]
 refine⟨vR ?_⟩;unfold oV nz;have x:va.oneCell'=true:=lJ (s w a);have y:d.oneCell'=true:=lJ (h w a);have A:∀W:ao,(mBox 246 (rwV va d colors)).run ah W=.ok (.value (.pointer (ax ⟨W.heap.size,0,aw⟩))) (W.alloc (.cells (rwC va d colors).toArray 246)):=λW=>by
  cases va<;>first|(cases x;done)|skip
  all_goals cases d<;>first|(cases y;done)|kernel_rfl
 refine bA (λb=>.pointer (ax ⟨b,0,aw⟩)) (rwC va d colors) 246 A a λb B a=>?_;refine aD (bC vF) |>.mpr (aD (zA (a.at_ 0 rfl)) |>.mpr ?_);rw[bE amJ (h B a.tail)];refine NQ amJ (show elB ah 5 1 1=av by kernel_rfl) om om a λg w2 c j a=>?_;rw[amI] at j;refine aD (bC vF) |>.mpr (aD (zA (a.at_ 1 rfl)) |>.mpr ?_);rw[bE amJ (h w2 a.tail.tail)];refine loop (λvs W=>∃(i:Nat) (c:List aq),vs=[.int .i64 (i:Int)]∧i<=row.length∧c.length+i=row.length∧OwnS S w0 W (.cells g (aP (G.take i)++c) 5::rwE b va d colors::L)) (λvs _=>row.length - n0 vs) ⟨0,c,rfl,om,om,a⟩ ?_;clear a j c;rintro vs w3 ⟨i,c,rfl,hi,j,a⟩ _;simp only[mN,gd,rs,nz];by_cases l:(i:Int) < (row.length:Int)
 case neg=>
  simp only[l,alL,i_f];have:c=[]:=apB.1 om;subst this;rw[amE,amP om] at a;exact k g w3 ((OwnS.swap a).tail)
 have m:i < row.length:=om
 simp only[l,alK,i_t];obtain⟨p,o,q⟩:=u8Sl (h w3 a.tail.tail) m;rw[aD o,aD q,l_at (a.agg 1 rfl LF)];refine aM a (OE tag above row va d (i:Int) colors w3 om u (s w3 a.tail.tail) (h w3 a.tail.tail)) ?_;rintro _ C rfl a;rw[aeC,acI];obtain⟨z,c,rfl⟩:∃z r,c=z::r:=by
  cases c with
 |nil=>simp at j;omega
 |cons z c=>exact⟨z,c,rfl⟩
 rw[amC] at j;refine aD (dY (P:=ah) (T:=53) (b:=g) (off:=0) (cap:=row.length) (n:=row.length) (k:=.i64) (i:=(i:Int)) (w:=C) amJ (show (Tryz.prog.info? 5).map (·.size)=ax 1 by kernel_rfl) om om) |>.mpr ?_;rw[alQ,amI,alU];have f:(aP (G.take i)).length=i:=by rw[gL,alR];omega
 refine aK 0 a rfl krx rfl (by rw[alI,f,amC];omega) λF a=>?_
 try simp only[rs]
 rw[aA om om];refine aY ⟨i+1,c,rfl,om,om,?_⟩ (by simp[n0,RowKit.intOf];omega);have D:G[i]'(om)=row[i] - ec tag above row (i:Int) colors:=by
  have:=sn (tag:=tag) (above:=above) (colors:=colors) m;rw[t,alT om] at this;exact aoJ this
 have e:(aP (G.take i)++z::c).set i (.int .u8 ((row[i] - ec tag above row (i:Int) colors).toNat:Int))=aP (G.take (i+1))++c:=by
  rw[List.set_append,alG (by rw[f];omega),f,aoH,aoC,amO om,JV,alS,D];rfl
 rw[<-e];exact a
end
theorem HU (l:List UInt8)(v:aq)(w:ao)(f:Sl w v 1 l.length (aP l))(j:l.length<=1000000):Ret ah 264 #[v] w (λr w'=>r=.int .i64 (ep l:Int)∧w=w'):=by
 refine aZ λK g=>BH ?_;unfold uY nz;rw[bE amJ f];have hle:∀i,ep (l.take i)<=256*i:=λi=>by
  unfold ep
  induction i with
 |zero=>simp
 |succ i h=>
   by_cases hi:i < l.length
   ·rw[amO hi,amW,asS];simp only[anE,apS,aqA,List.sum_nil];have:=l[i].toNat_lt;omega
   ·rw[amP om] at h ⊢;omega
 refine loop (λvs W=>∃i:Nat,vs=[.int .i64 (ep (l.take i):Int),.int .i64 (i:Int)]∧i<=l.length∧W=w) (λvs _=>l.length - n1 vs) ⟨0,by rw[apL];rfl,om,rfl⟩ ?_;rintro vs k ⟨i,rfl,hi,rfl⟩ _;simp only[qN,gd,rs,nz];have hw:=hle i;by_cases a:(i:Int) < (l.length:Int)
 case neg=>
  simp only[a,alL,i_f];rw[amP om];exact g _ _ ⟨rfl,rfl⟩
 have b:i < l.length:=om
 simp only[a,alK,i_t];obtain⟨p,c,d⟩:=u8Sl f b;have m:=l[i].toNat_lt;rw[aD c,aD d,u8ix,u8ix]
 try simp only[rs]
 rw[aA (n:=(256:Int) - _) om om,GB]
 try simp only[rs]
 rw[aA (n:=_+min _ _) om om,aA om om];refine aY ⟨i+1,?_,om,rfl⟩ (by simp[n1,RowKit.intOf];omega);have e:ep (l.take (i+1))=ep (l.take i)+min l[i].toNat (256 - l[i].toNat):=by
  unfold ep;rw[amO b,amW,asS];simp
 rw[e]
 congr 2
 ·congr 1;omega
section
variable {w:ao}{PK:PKT}{K:VWP}{S:Nat->Prop}{w0:ao}{L:List Ent}
theorem agD {d:aq}{row:List UInt8}(c:OwnS S w0 w L)(n:∀W,OwnS S w0 W L->Sl W va 1 above.length (aP above))(o:∀W,OwnS S w0 W L->Sl W d 1 row.length (aP row))(p:1<=colors∧colors<=1000000)(m:row.length<=1000000)
  (k:∀W,OwnS S w0 W L->K (.int .i64 (oo above row colors:Int)) W) :
  CallX ah 234 #[rwV va d colors] w PK K:=by
 refine⟨vU ?_⟩;unfold oB nz;have r:va.oneCell'=true:=lJ (n w c);have s:d.oneCell'=true:=lJ (o w c);have t:∀W:ao,(mBox 246 (rwV va d colors)).run ah W=.ok (.value (.pointer (ax ⟨W.heap.size,0,aw⟩))) (W.alloc (.cells (rwC va d colors).toArray 246)):=λW=>by
  cases va<;>first|(cases r;done)|skip
  all_goals cases d<;>first|(cases s;done)|kernel_rfl
 refine bA (λb=>.pointer (ax ⟨b,0,aw⟩)) (rwC va d colors) 246 t c λb v c=>?_;have e:∀W,OwnS S w0 W (rwE b va d colors::L)->Sl W va 1 above.length (aP above):=λW c=>n W c.tail;have f:∀W,OwnS S w0 W (rwE b va d colors::L)->Sl W d 1 row.length (aP row):=λW c=>o W c.tail;have j:∀{W:ao} {g:Nat} {tag:Int},OwnS S w0 W (.cells g (aP (dj tag above row colors)) 5::rwE b va d colors::L)->Sl W (.slice (ax ⟨g,0,aw⟩) row.length row.length) 1 (dj tag above row colors).length (aP (dj tag above row colors)):=λc=>by
  have:=c.sl 0 rfl 1 row.length row.length (by rw[gL,iz,amI]);rw[iz];exact this
 rw[l_at (c.agg 0 rfl LF)];refine OK (tag:=0) c e f p m λg w2 c=>?_;refine c_eq (HU _ _ w2 (j c) (by rw[iz];exact m)) ?_;refine loop (λvs W=>∃k:Nat,vs=[.int .i64 ((ja above row colors k).1:Int),.int .i64 ((ja above row colors k).2:Int),.int .i64 ((k+1:Nat):Int)]∧k<=4∧OwnS S w0 W (rwE b va d colors::L)) (λvs _=>5 - n2 vs) ⟨0,rfl,om,c.tail⟩ ?_;clear c;rintro vs w3 ⟨i,rfl,hi,c⟩ _;simp only[mG,gd,rs,nz];by_cases l:((i+1:Nat):Int) < 5
 case neg=>
  simp only[l,alL,i_f];obtain rfl:i=4:=om
  exact k w3 c.tail
 simp only[l,alK,i_t];refine join λJ u=>?_;rw[l_at (c.agg 0 rfl LF)];refine OK (tag:=((i+1:Nat):Int)) c e f p m λg q c=>?_;refine c_eq (HU _ _ q (j c) (by rw[iz];exact m)) ?_;have next:∀(a b2:Nat),ja above row colors (i+1)=(a,b2)->J [.int .i64 (a:Int),.int .i64 (b2:Int)] q:=by
  intro a b2 h;refine u _ _ λ_=>?_;simp only[mL,gd,rs,nz];rw[aA om om];refine aY ⟨i+1,?_,om,c.tail⟩ (by simp[n2,RowKit.intOf];omega);rw[h];rfl
 try simp only[rs]
 by_cases hw:ep (dj ((i+1:Nat):Int) above row colors) < (ja above row colors i).2
 ·simp only[show ai ((ep (dj ((i+1:Nat):Int) above row colors):Int) < ((ja above row colors i).2:Int))=av from alM om,i_t];exact next (i+1) _ (by rw[ja,alH hw])
 ·simp only[show ai ((ep (dj ((i+1:Nat):Int) above row colors):Int) < ((ja above row colors i).2:Int))=au from alJ om,i_f];exact next _ _ (by rw[ja,alG hw])
theorem WN {n:Nat}(h:n<=10000000)(e:OwnS S w0 w L)(k:∀v w',OwnS S w0 w' (outR v []::L)->K v w') :
  DoX ah (Hg 53 (.int .i64 0) (.int .i64 (n:Int))) w PK K:=by
 obtain⟨i,z,hi,f,a,b,g⟩:=jR (show elB ah 5 1 1=av by kernel_rfl);have c:=run_make (P:=ah) w 53 5 i z amJ hi f .i64 .i64 (0:Int) (n:Int) om om (by rw[b];omega) om;rw[alQ] at c;refine rS (cJ c) (k _ _ ?_);have d:=e.alloc (madeCells z.cells (n*i.size)).toList 5;rw[atM] at d;exact OwnS.toU d 1 0 n (by rw[Array.length_toList,size_madeCells,a]) om om
end
end
section
open Eng Go.RowKit
def jl (x:Pm):List UInt8->List UInt8->Nat:=ky x.p x.c
def dt (x:Pm)(s:List UInt8):Int:=
 if ¬x.ok then 1
 else if 1048576 < s.length then 5
 else if x.p=1 then 0
 else if s.length % (x.c*x.n).toNat≠0 then 16
 else if 10<=x.p∧1048576 < s.length+s.length / (x.c*x.n).toNat then 5
 else 0
def du (x:Pm)(s:List UInt8):List UInt8:=if x.p=1 then s else ff (jl x) x.c (x.c*x.n).toNat x.head (s.length+1) s []
theorem wo {s:List UInt8}(h:dt x s=0):ft x (du x s)=(s,0)∧(du x s).length<=1048576:=by
 unfold dt at h;by_cases d:x.ok
 case neg=>rw[alH d] at h;cases h
 rw[alG (by simp[d])] at h;by_cases t:1048576 < s.length
 ·rw[alH t] at h;cases h
 rw[alG t] at h;have l:=Pm.mul_pos d;obtain⟨n,v⟩:∃n:Nat,x.c*x.n=(n:Int):=⟨(x.c*x.n).toNat,om⟩;unfold ft du;rw[v] at h l ⊢;rw[alQ] at h ⊢;by_cases j:x.p=1
 ·simp only[alH j];rw[alG (by simp[d]),alG om];exact⟨rfl,om⟩
 rw[alG j] at h;simp only[alG j];by_cases m:s.length % n=0
 case neg=>rw[alH m] at h;cases h
 rw[alG (by simp[m])] at h;have g:0 < n:=om
 have o:s.length=s.length / n*n:=by
  have:=Nat.div_add_mod s.length n;rw[m,anF,aoD] at this;exact this.symm
 have u:x.head=0∨x.head=1:=by unfold Pm.head;split<;>simp
 have hlen:=qc (T:=jl x) (c:=x.c) g u (s.length / n) (s.length+1) s [] o om;have i:x.p=2∨(10<=x.p∧x.p<=15):=by
  rcases d.1 with h|h|h
  ·exact absurd h j
  ·exact .inl h
  ·exact .inr h
 have e:=sr (T:=jl x) (c:=x.c) d.2.1 g u (λa b=>xt i x.c a b) (λq a b=>by
  unfold Pm.head at q;have:x.p=2:=by
   rcases i with h|h
   ·exact h
   ·rw[alH h.1] at q;cases q
  unfold jl ky;rw[alH this]) (s.length / n) (s.length+1) ((ff (jl x) x.c n x.head (s.length+1) s []).length+1) s [] [] o om (by
   rw[hlen];have:s.length / n*1<=s.length / n*(n+x.head):=asZ _ om;omega)
 have hle:(ff (jl x) x.c n x.head (s.length+1) s []).length<=1048576:=by
  rw[hlen,Nat.mul_add,<-o];have k:x.head=if 10<=x.p then 1 else 0:=rfl
  by_cases f:10<=x.p
  ·rw[alH f] at k;rw[k,amI];refine Nat.le_of_not_lt λr=>?_;rw[alH ⟨f,r⟩] at h;cases h
  ·rw[alG f] at k;rw[k];omega
 refine⟨?_,hle⟩;rw[alG (by simp[d]),alG om,alG (by rw[hlen,Nat.mul_mod_left];simp),e];rfl
def encT (r:List UInt8)(e:Int):Value:=.tuple #[.string ⟨r.toArray⟩,.int .i64 e]
theorem adV {T:TypeId}(a:Tryz.prog.underlying D=ax (.int .u8))(b:Tryz.prog.underlying T=ax (.int .i64))(n:Nat)(W:ao):(sE T D (.int .i64 (n:Int))).run ah W=.ok (.value (.int .u8 ((UInt8.ofNat n).toNat:Int))) W:=by
 rw[<-Oy];exact dU (by rw[b];rfl) a
theorem Nf (x:Pm)(s:List UInt8)(w:ao)(hs:s.length<=1000000000):Ret ah 190 #[pmV x,.string ⟨s.toArray⟩] w (λv w'=>v=encT (if dt x s=0 then du x s else []) (dt x s)∧Below w.heap.size w w'):=by
 refine aZ λK B=>Bq ?_;generalize i:dt x s=X at B;unfold dt at i;unfold vD nz;refine H8 x (Own.start w) λb w1 d=>?_;rw[pm_v d 0 rfl];refine aM d (OS x w1) ?_;rintro _ w2 rfl d;rw[yI,pm_v d 0 rfl];obtain⟨n,hn,b5,b6⟩:∃n:Nat,max (if x.ok then x.c*x.n else 0) 1=(n:Int)∧1<=n∧n<=8192:=by
  by_cases h:x.ok
  ·rw[alH h];have h1:=Pm.mul_pos h;have r:=h.2.2.2.2;exact⟨(x.c*x.n).toNat,om,om,om⟩
  ·rw[alG h];exact⟨1,dc,dc,dc⟩
 rw[hn];refine aM d (GY x s n w2 om hs) ?_;rintro _ w3 rfl d;simp only[eS];by_cases h:x.ok
 case neg=>
  rw[alH h] at i ⊢;simp only[show ai ((1:Int)≠0)=av from rfl,i_t];exact B _ _ ⟨by rw[<-i];rfl,d.done⟩
 rw[alG (by simp[h])] at i ⊢;have J:(x.c*x.n).toNat=n:=by
  rw[alH h] at hn;have h1:=Pm.mul_pos h;omega
 rw[J] at i;by_cases r:1048576 < s.length
 ·rw[alH r] at i ⊢;simp only[show ai ((5:Int)≠0)=av from rfl,i_t];exact B _ _ ⟨by rw[<-i];rfl,d.done⟩
 rw[alG r] at i ⊢;by_cases y:x.p=1
 ·rw[alG (by simp[y])];rw[alH y] at i;simp only[show ai ((0:Int)≠0)=au from rfl,i_f];rw[fpm0,pm_0 d 0 rfl];simp only[y,rs,alK,i_t];exact B _ _ ⟨by rw[<-i];unfold du;rw[alH rfl,alH y];rfl,d.done⟩
 rw[alG y] at i;by_cases L:s.length % n=0
 case neg=>
  rw[alH ⟨y,L⟩];rw[alH L] at i;simp only[show ai ((16:Int)≠0)=av from rfl,i_t];exact B _ _ ⟨by rw[<-i];rfl,d.done⟩
 rw[alG (by simp[L])];rw[alG (by simp[L])] at i;simp only[show ai ((0:Int)≠0)=au from rfl,i_f];rw[fpm0,pm_0 d 0 rfl];simp only[y,rs,alL,i_f];have hdiv:s.length / n<=s.length:=aqM _ _;obtain⟨q,hq⟩:∃q,s.length / n=q:=⟨_,rfl⟩;rw[hq] at i hdiv;have C:∀{PK:PKT} {K:VWP} {W:ao},DoX ah (mBin .quo 3 (.int .i64 (s.length:Int)) (.int .i64 (n:Int))) W PK K=K (.int .i64 (q:Int)) W:=λ{PK K W}=>by
  rw[Ww om,show ((s.length:Nat):Int).tdiv (n:Int)=((s.length / n:Nat):Int) from rfl,hq,aA om om]
 have hc:1<=x.c∧x.c<=1000000:=⟨h.2.1,by have:=h.2.2.2.1;omega⟩;have b7:x.p=2∨(10<=x.p∧x.p<=15):=by
  rcases h.1 with h|h|h
  ·exact absurd h y
  ·exact .inl h
  ·exact .inr h
 have main:X=0->DoX ah (mB .len #[9] 3 #[au] #[.string ⟨s.toArray⟩]) w3 (pk K) λt41 w=>
   DoX ah (mB .len #[9] 3 #[au] #[.string ⟨s.toArray⟩]) w (pk K) λt43 w=>
   DoX ah (mBin .quo 3 t43 (.int .i64 (n:Int))) w (pk K) λt45 w=>
   DoX ah (mBin .add 3 t41 t45) w (pk K) λt46 w=>
   DoX ah (Hg 53 (.int .i64 0) t46) w (pk K) λt47 w=>
   DoX ah (mFA 27 (.pointer (ax ⟨b,0,aw⟩)) 1) w (pk K) λt48 w=>
   DoX ah (aH 3 t48) w (pk K) λt49 w=>
   DoX ah (aS 246 #[(2,t49)]) w (pk K) λt50 w=>
   DoX ah (iL 246) w (pk K) λt9 w=>
   DoX ah (aN 246 t9 t50) w (pk K) λ_ w=>
   LoopX [.string ⟨s.toArray⟩,t47] w (λM w N1=>∀_:Sg,jL (M.getD 0 undef) (.pointer (ax ⟨b,0,aw⟩)) (.int .i64 (n:Int)) (M.getD 1 undef) t9 w N1 K):=by
  intro N;have m:∀W',Below w.heap.size w W'->K (.returned (encT (du x s) 0)) W':=λW' hB=>B _ _ ⟨by rw[alH N,N],hB⟩;clear B;unfold du at m;rw[alG y,J] at m;rw[iJ alV,iJ alV,C]
  try simp only[rs]
  rw[aA om om,show (s.length:Int)+(q:Int)=((s.length+q:Nat):Int) by omega];refine WN om d λF w4 d=>?_;rw[fpm1,pm_1 d 1 rfl];have e:∀W:ao,(aS 246 #[(2,.int .i64 x.c)]).run ah W=.ok (.value (rwV nilS nilS x.c)) W:=λW=>by kernel_rfl
  refine aD (e w4) |>.mpr ?_;refine bA (λb=>.pointer (ax ⟨b,0,aw⟩)) (rwC nilS nilS 0) 246 (λ_=>by kernel_rfl) d λo w5 d=>?_;refine gY 0 d rfl (new:=rwC nilS nilS x.c) szRw (SF rfl rfl) rfl λw6 d=>?_;have d:=d.nilU 5 1;have d:OwnS NoB w w6 [outR nilS [],rwE o nilS nilS x.c,outR F [],pmE b x]:=d;have d:=d.perm (L':=[outR F [],outR nilS [],rwE o nilS nilS x.c,pmE b x]) (by
   refine .trans (.cons _ (.swap _ _ _)) (.swap _ _ _))
  generalize z:ff (jl x) x.c n x.head (s.length+1) s []=E at m;refine loop (λvs W=>∃(t prev out:List UInt8) (ov va l:aq) (e:Ent),vs=[.string ⟨t.toArray⟩,ov]∧t.length<=s.length∧t.length % n=0∧out.length+2*t.length<=2*s.length∧prev.length<=1000000∧BRd e l prev∧va.oneCell'=av∧(∃f,t.length < f∧out++ff (jl x) x.c n x.head f t prev=E)∧OwnS NoB w W [outR ov out,e,rwE o va l x.c,pmE b x]) (λvs _=>yM (vs.getD 0 undef)) ⟨s,[],[],F,nilS,nilS,_,rfl,om,L,sm,sm,λW h=>wT h,rfl,⟨s.length+1,om,by rw[amZ];exact z⟩,d⟩ ?_;clear d z;rintro vs w6 ⟨t,prev,out,ov,va,l,e,rfl,c0,a1,c1,c2,G,c3,⟨f,hf,z⟩,d⟩ _;simp only[jL,gd,iN,dx,bnx,lnx];obtain⟨f,rfl⟩:∃f',f=f'+1:=⟨f - 1,om⟩;rw[ff] at z;rw[iJ alV]
  try simp only[rs]
  by_cases V:t=[]
  ·rw[alH V,amE] at z;simp only[show ai ((0:Int) < (t.length:Int))=au from alJ (by rw[V];decide),i_f];rw[JP amJ anQ alV (wT (d.at_ 0 rfl)),z];exact m _ d.done
  have c4:0 < t.length:=aqH.2 V;rw[alG V] at z;simp only[show ai ((0:Int) < (t.length:Int))=av from alM om,i_t];have a6:n<=t.length:=Nat.le_of_dvd om (Nat.dvd_of_mod_eq_zero a1);refine join λJ2 a7=>?_;have H:l.oneCell'=true:=lJ (G w6 (d.at_ 1 rfl));have k:(t.take n).length=n:=by rw[alR];omega
  generalize O:t.take n=row at z k;have Y:∀tag:Int,(dj tag prev row x.c).length=n:=λtag=>by rw[iz,k]
  -- behind a row
  have next:∀(b2 cap:Nat) (v':aq) (new:List UInt8) (W:ao),OwnS NoB w W [.mkr 5 b2 row,outR v' (out++new),e,rwE o l (.slice (ax ⟨b2,0,aw⟩) n cap) x.c,pmE b x]->new.length<=2*n ->
    new=(if x.head=1 then [UInt8.ofNat (jl x prev row)] else [])++dj (jl x prev row:Nat) prev row x.c->J2 [v'] W:=by
   intro b2 cap v' new W d c5 P;refine a7 _ _ λ_=>?_;simp only[qK,gd,nz];rw[PB alV om om,alQ];have Q:BRd (.mkr 5 b2 row) (.slice (ax ⟨b2,0,aw⟩) n cap) row:=by
    have:=@R3 b2 cap row
    rwa [k] at this
   have R:(t.drop n).length=t.length - n:=alW;refine aY ⟨t.drop n,row,out++new,v',l,_,_,rfl,om,?_,by rw[alI];omega,om,Q,H,⟨f,om,?_⟩,?_⟩ ?_
   ·rw[R,Nat.mod_eq_sub_mod a6] at *;omega
   ·rw[P,alS,alS];exact z
   ·exact (OwnS.swap d).sub (.cons_cons _ (.cons_cons _ (.cons _ (aqP _))))
   ·show yM (.string ⟨(t.drop n).toArray⟩) < yM (.string ⟨t.toArray⟩);rw[sF,sF,R];omega
  have fin:∀b2 cap W,OwnS NoB w W [.mkr 5 b2 row,outR ov out,e,rwE o l (.slice (ax ⟨b2,0,aw⟩) row.length cap) x.c,pmE b x]->fW (.pointer (ax ⟨b,0,aw⟩)) ov (.pointer (ax ⟨o,0,aw⟩)) W J2 K:=by
   intro b2 cap W d;rw[k] at d;unfold fW iN ldx bnx fax ecx apx cx;have hA:∀W,OwnS NoB w W [.mkr 5 b2 row,outR ov out,e,rwE o l (.slice (ax ⟨b2,0,aw⟩) n cap) x.c,pmE b x]->Sl W l 1 prev.length (aP prev):=λW d=>G W (d.at_ 2 rfl);have hR:∀W,OwnS NoB w W [.mkr 5 b2 row,outR ov out,e,rwE o l (.slice (ax ⟨b2,0,aw⟩) n cap) x.c,pmE b x]->Sl W (.slice (ax ⟨b2,0,aw⟩) n cap) 1 row.length (aP row):=λW d=>by
    have:=SQ (cap:=cap) (d.at_ 0 rfl);rw[k] at this ⊢;exact this
   rw[fpm0,pm_0 d 4 rfl]
   try simp only[rs]
   have b4:2<=x.p∧x.p<=15:=om
   rw[aA om om];refine join λJ4 a8=>?_;rw[fpm0,pm_0 d 4 rfl]
   try simp only[rs]
   by_cases r:x.p=2
   ·simp only[r,alK,i_t];rw[l_at (d.agg 3 rfl LF)];refine OK (tag:=1) d hA hR hc om λg Z d=>?_;refine bR 2 amJ elU8 dc d rfl (d.sl 0 rfl 1 row.length row.length (by rw[gL,iz,amI])) eW om om λv' w8 d=>?_;have hT:jl x prev row=1:=by unfold jl ky;rw[alH r]
    have hh:¬x.head=1:=by unfold Pm.head;rw[alG om];decide
    refine next b2 cap v' (dj 1 prev row x.c) w8 ?_ (by rw[Y];omega) (by rw[alG hh,hT];rfl)
    rw[pK,Y,<-k];rw[<-k] at d;exact d.tail
   simp only[r,alL,i_f];have S:10<=x.p:=om
   have hh:x.head=1:=by unfold Pm.head;rw[alH S]
   have D:∀(tag:Nat) (W:ao),tag=jl x prev row->OwnS NoB w W [.mkr 5 b2 row,outR ov out,e,rwE o l (.slice (ax ⟨b2,0,aw⟩) n cap) x.c,pmE b x]->J4 [ov,.int .i64 (tag:Int)] W:=by
    intro tag W U d;refine a8 _ _ λ_=>?_;simp only[qR,gd];have d:=d.drew;refine⟨λW=>(rwE o l (.slice (ax ⟨b2,0,aw⟩) n cap) x.c).is W,d.at_ 3 rfl,?_⟩;refine aR _ (λW=>adV anQ anG tag W) ?_;refine jI (rwV l (.slice (ax ⟨b2,0,aw⟩) n cap) x.c) (λW h=>aW (AtV.agg LF (cs:=rwC l (.slice (ax ⟨b2,0,aw⟩) n cap) x.c) rfl λj u hj=>by rw[alU];exact aI (T:=246) h hj)) ?_;refine U6 (UInt8.ofNat tag) d λb8 w9 d=>⟨d.at_ 4 rfl,?_⟩;refine bR 2 amJ elU8 dc d rfl (oD (d.at_ 0 rfl) dc rfl) eW om om λv' b0 d=>⟨d.at_ 4 rfl,?_⟩;have d:OwnS NoB w b0 [.mkr 5 b2 row,outR v' (out++[UInt8.ofNat tag]),e,rwE o l (.slice (ax ⟨b2,0,aw⟩) n cap) x.c,pmE b x]:=by
     rw[pK];exact d.tail
    refine OK (tag:=(tag:Int)) d (λW d=>G W (d.at_ 2 rfl)) (λW d=>by
     have:=SQ (cap:=cap) (d.at_ 0 rfl);rw[k] at this ⊢;exact this) hc om λg c6 d=>⟨d.at_ 4 rfl,?_⟩
    refine bR 2 amJ elU8 dc d rfl (d.sl 0 rfl 1 row.length row.length (by rw[gL,iz,amI])) eW (by rw[alI,anO];omega) (by rw[alI,anO];omega) λb1 b3 d=>⟨d.at_ 4 rfl,?_⟩;refine next b2 cap b1 ([UInt8.ofNat tag]++dj (tag:Int) prev row x.c) b3 ?_ (by rw[alI,Y,anO];omega) (by rw[alH hh,U])
    rw[<-alS,pK,Y,<-k];rw[<-k] at d;exact d.tail
   by_cases A:x.p=15
   ·simp only[A,alK,i_t];rw[l_at (d.agg 3 rfl LF)];refine agD d hA hR hc om λZ d=>?_;exact D _ Z (by unfold jl ky;rw[alG r,alH A]) d
   ·simp only[A,alL,i_f];rw[show x.p - 10=(((x.p - 10).toNat:Nat):Int) by omega];exact D _ W (by unfold jl ky;rw[alG r,alG A]) d
  have d:=d.drew;refine⟨λW=>∃a,(rwE o a l x.c).is W,⟨va,d.at_ 2 rfl⟩,?_⟩;refine aR _ (λ_=>bC vF) (jI _ (λW ⟨a,h⟩=>zA h) ?_);refine aR _ (λ_=>VV alV om om) ?_;rw[alQ,O];refine aR _ (λ_=>bC PY) ⟨?_,?_⟩
  ·refine Kz alV amJ anQ d λb cap Z d=>⟨⟨va,d.at_ 3 rfl⟩,?_⟩;refine aK 3 d rfl krx H (by show 0+0 < 3;omega) λw8 d=>?_;refine aR _ (λ_=>bC vF) ?_;refine aK 3 d rfl krx rfl (by show 0+1 < 3;omega) λw9 d=>?_;exact fin b cap w9 d
  ·refine aK 2 d rfl krx H (by show 0+0 < 3;omega) λw8 d=>?_;refine Kz alV amJ anQ d λb cap Z d=>⟨⟨l,d.at_ 3 rfl⟩,?_⟩;refine aR _ (λ_=>bC vF) ?_;refine aK 3 d rfl krx rfl (by show 0+1 < 3;omega) λw9 d=>?_;exact fin b cap w9 d
 rw[fpm0,pm_0 d 0 rfl]
 try simp only[rs]
 by_cases I:10<=x.p
 ·simp only[I,alK,gd,rs];rw[iJ alV,iJ alV,C]
  try simp only[rs]
  rw[aA om om];by_cases h5:1048576 < s.length+q
  ·rw[alH ⟨I,h5⟩] at i;simp only[show ai ((1048576:Int) < (s.length:Int)+(q:Int))=av from alM om,i_t];exact B _ _ ⟨by rw[<-i];rfl,d.done⟩
  ·rw[alG om] at i;simp only[show ai ((1048576:Int) < (s.length:Int)+(q:Int))=au from alJ om,i_f];exact main i.symm
 ·rw[alG om] at i;simp only[I,alL,gd,rs,i_f];exact main i.symm
end
section
open Eng Go.RowKit
def PdR (x:Pm):Prop:=∀(s:List UInt8) (w:ao),s.length<=1000000000->Ret ah 193 #[pmV x,.string ⟨s.toArray⟩] w (λv w'=>v=zlT (ft x s)∧Below w.heap.size w w')
def PeR (x:Pm):Prop:=∀(s:List UInt8) (w:ao),s.length<=1000000000->Ret ah 190 #[pmV x,.string ⟨s.toArray⟩] w (λv w'=>v=encT (if dt x s=0 then du x s else []) (dt x s)∧Below w.heap.size w w')
theorem pdR (x:Pm):PdR x:=Om x
theorem peR (x:Pm):PeR x:=Nf x
end
section
open Eng Go.RowKit
theorem wq (c:Int)(n h:Nat):∀(f:Nat) (s prev out:List UInt8),(kd c n h f s prev out).1.length<=out.length+s.length
|0,_,_,_=>amN _
|f+1,s,prev,out=>by
  unfold kd;split
  ·exact Nat.le_add_right _ _
  generalize (if h=1 then (s.getD 0 0).toNat else 1:Nat)=tag;split
  ·exact amN _
  dsimp only;have a:(dv (tag:Int) prev c [] ((s.drop h).take n)).length=min n (s.length - h):=by
   rw[pz,alR,alW];simp
  generalize dv (tag:Int) prev c [] ((s.drop h).take n)=row at a;have:=wq c n h f (s.drop (n+h)) row (out++row);rw[alI,alW] at this;omega
theorem U0 (x:Pm)(s:List UInt8):(ft x s).1.length<=s.length:=by
 unfold ft;split
 ·exact amN _
 split
 ·exact amN _
 split
 ·exact alP _
 split
 ·exact amN _
 ·have:=wq x.c (x.c*x.n).toNat x.head (s.length+1) s [] [];simpa using this
namespace Ff
def undo (n:List UInt8)(p:Pm)(s:List UInt8):List UInt8×Int:=
 if full n=nHx then oe s 1048576
 else if full n=n85 then sj s 1048576
 else if full n=nRL then qw s 1048576
 else if full n=nFl then
  if ¬p.ok then ([],1)
  else if (gk s 1048576).2≠0 then ([],(gk s 1048576).2)
  else ft p (gk s 1048576).1
 else ([],15)
def chain:List (List UInt8)->List Pm->List UInt8->List UInt8×Int
|n::ns,p::ps,s=>if (undo n p s).2≠0 then ([],(undo n p s).2) else chain ns ps (undo n p s).1
|_,_,s=>(s,0)
def decode (o:Ob):List UInt8×Int:=if (of o).2.2≠0 then ([],(of o).2.2) else chain (of o).1 (of o).2.1 o.s
theorem abW {o:Ob}:(of o).2.1.length=(of o).1.length:=by
 unfold of;by_cases b:o.k≠9
 ·rw[alH b];rfl
 rw[alG b];by_cases c:(names o).2≠0
 ·rw[alH c];rfl
 rw[alG c];by_cases a:(tO o (names o).1.length).2≠0
 ·rw[alH a];rfl
 rw[alG a];split
 ·rfl
 ·exact Mp (Decidable.not_not.1 a)
end Ff
theorem Rv:cO ah 173=true:=krx
theorem Rc:cO ah 171=true:=krx
theorem Ls:cO ah 122=true:=krx
theorem nFnU:eD ah 94=true:=krx
theorem nFnS:eD ah 36=true:=krx
theorem nFnW:eD ah 89=true:=krx
theorem XC:fOff ah 91 0=ax 0:=krx
theorem Ym:fOff ah 91 1=ax 1:=krx
theorem szWy:(Tryz.prog.info? 91).map (·.size)=ax 2:=krx
theorem Tm:aggN ah 91=ax 2:=krx
theorem aeB:aggN ah 143=ax 3:=krx
theorem szFt:(Tryz.prog.info? 143).map (·.size)=ax 3:=krx
theorem Yc:fOff ah 143 0=ax 0:=krx
def fnV (f:Nat):Value:=.func (.func f) #[] #[]
def Dp (b:Nat):Value:=.func (.func 173) #[] #[.pointer (ax ⟨b,0,aw⟩)]
def Cc (b:Nat):Value:=.func (.func 171) #[] #[.pointer (ax ⟨b,0,aw⟩)]
def KG (x:Pm):Value:=.func (.func 121) #[pmV x] #[]
def tX (x:Pm):Value:=.func (.func 122) #[pmV x] #[]
abbrev upE (b f:Nat):Ent:=.cells b [fnV f] 94
abbrev Rb (b f:Nat):Ent:=.cells b [fnV f] 36
def wyC (p u:aq):List Value:=[p,u]
abbrev wyE (b:Nat)(p u:aq):Ent:=.cells b (wyC p u) 91
section
variable {w:ao}{PK:PKT}{K:VWP}{S:Nat->Prop}{w0:ao}{L:List Ent}
theorem Ux (a:OwnS S w0 w L)(k:∀b W,OwnS S w0 W (upE b f::L)->K (Dp b) W):CallX ah 115 #[.func (.func f) #[] #[]] w PK K:=by
 refine fG (FF (k0:=RetK λv W=>∃b,v=Dp b∧OwnS S w0 W (upE b f::L)) ?_) (λe W ⟨v,he,b,c,a⟩=>by subst he;subst c;exact k b W a);unfold Cp nz;refine bA (λb=>.pointer (ax ⟨b,0,aw⟩)) [fnV f] 94 (λ_=>by kernel_rfl) a λb d a=>?_;rw[pY];exact retK ⟨b,rfl,a⟩
theorem UZ (a:OwnS S w0 w L)(k:∀b W,OwnS S w0 W (Rb b f::L)->K (Cc b) W):CallX ah 113 #[.func (.func f) #[] #[]] w PK K:=by
 refine fG (FI (k0:=RetK λv W=>∃b,v=Cc b∧OwnS S w0 W (Rb b f::L)) ?_) (λe W ⟨v,he,b,c,a⟩=>by subst he;subst c;exact k b W a);unfold CG nz;refine bA (λb=>.pointer (ax ⟨b,0,aw⟩)) [fnV f] 36 (λ_=>by kernel_rfl) a λb d a=>?_;rw[pY];exact retK ⟨b,rfl,a⟩
theorem YN {fn fn2:Fn}{a b a2 b2:Array aq}:DoX ah (aS 91 #[(0,.func fn a b),(1,.func fn2 a2 b2)]) w PK K=K (.agg (wyC (.func fn a b) (.func fn2 a2 b2)).toArray) w:=aD krx
theorem aeF {n:List UInt8}(e:OwnS S w0 w L)
  (q:∀(f g:Nat),(Ff.full n=Ff.nHx∧f=114∧g=116)∨(Ff.full n=Ff.n85∧f=117∧g=118)∨(Ff.full n=Ff.nRL∧f=119∧g=120)->∀i b2 W,OwnS S w0 W (upE b2 g::Rb i f::L)->K (.tuple #[.agg (wyC (Cc i) (Dp b2)).toArray,.int .i64 0]) W)
  (t:Ff.full n=Ff.nFl->∀W,OwnS S w0 W L->K (.tuple #[.agg (wyC (KG x) (tX x)).toArray,.int .i64 (if x.ok then 0 else 1)]) W)
  (y:Ff.full n=[]->∀W,OwnS S w0 W L->K (.tuple #[.agg (wyC .nilFunc .nilFunc).toArray,.int .i64 15]) W):CallX ah 54 #[.string ⟨n.toArray⟩,pmV x] w PK K:=by
 refine⟨Is ?_⟩;unfold H3 nz;refine H8 x e λb3 E e=>?_;refine bA (λb=>.pointer (ax ⟨b,0,aw⟩)) (wyC .nilFunc .nilFunc) 91 (λ_=>by kernel_rfl) e λr w2 e=>?_;refine c_eq (Hj n w2) ?_;simp only[ex,rs];have one:∀{fn fn2:Fn} {a b a2 b2:Array aq},∀u∈wyC (.func fn a b) (.func fn2 a2 b2),u.oneCell'=true:=by
  intro fn fn2 a b a2 b2 u hu;simp only[wyC,alN,anA,or_false] at hu;rcases hu with rfl|rfl<;>rfl
 have fr:∀{W:ao} {a b c d:Ent},OwnS S w0 W (a::b::c::d::L)->OwnS S w0 W (a::b::L):=λe=>e.sub (.cons_cons _ (.cons_cons _ (.cons _ (.cons _ (aqP _)))));have z:=Ff.DL n;by_cases k:Ff.full n=[]
 ·simp only[alJ (show ¬Ff.full n≠[] fromλh=>h k),anK,i_t];refine aD (show (aS 91 #[]).run ah w2=.ok (.value (.agg (wyC .nilFunc .nilFunc).toArray)) w2 by kernel_rfl) |>.mpr ?_;refine gY 0 e rfl (new:=wyC .nilFunc .nilFunc) szWy (λu hu=>by
   simp only[wyC,alN,anA,or_false] at hu;rcases hu with rfl|rfl<;>rfl) rfl λw3 e=>?_
  exact vO (bI (e.agg 0 rfl Tm)) uI (y k w3 e.tail.tail)
 simp only[alM (show Ff.full n≠[] from k),anH,i_f];by_cases l:Ff.full n=Ff.nHx
 ·simp only[alM l,i_t];refine UZ e λi w3 e=>?_;refine Ux e λb2 m e=>?_;unfold Cc Dp;rw[YN];refine gY 2 e rfl (new:=wyC (Cc i) (Dp b2)) szWy one rfl λj e=>?_;exact vO (bI (e.agg 2 rfl Tm)) uI (q _ _ (.inl ⟨l,rfl,rfl⟩) i b2 j (fr e))
 simp only[alJ l,i_f]
 try simp only[rs]
 by_cases o:Ff.full n=Ff.n85
 ·simp only[alM o,i_t];refine UZ e λi w3 e=>?_;refine Ux e λb2 m e=>?_;unfold Cc Dp;rw[YN];refine gY 2 e rfl (new:=wyC (Cc i) (Dp b2)) szWy one rfl λj e=>?_;exact vO (bI (e.agg 2 rfl Tm)) uI (q _ _ (.inr (.inl ⟨o,rfl,rfl⟩)) i b2 j (fr e))
 simp only[alJ o,i_f]
 try simp only[rs]
 by_cases p:Ff.full n=Ff.nRL
 ·simp only[alM p,i_t];refine UZ e λi w3 e=>?_;refine Ux e λb2 m e=>?_;unfold Cc Dp;rw[YN];refine gY 2 e rfl (new:=wyC (Cc i) (Dp b2)) szWy one rfl λj e=>?_;exact vO (bI (e.agg 2 rfl Tm)) uI (q _ _ (.inr (.inr ⟨p,rfl,rfl⟩)) i b2 j (fr e))
 simp only[alJ p,i_f];have A:Ff.full n=Ff.nFl:=by
  rcases z with h|h|h|h|h
  ·exact absurd h l
  ·exact absurd h o
  ·exact absurd h p
  ·exact h
  ·exact absurd h k
 rw[pm_v e 1 rfl];refine aD (show (aS 143 #[(0,pmV x)]).run ah w2=.ok (.value (.agg (pmC x).toArray)) w2 by kernel_rfl) |>.mpr ?_;refine bA (λb=>.pointer (ax ⟨b,0,aw⟩)) (pmC ⟨0,0,0⟩) 143 (λ_=>by kernel_rfl) e λs w3 e=>?_;refine gY 0 e rfl (new:=pmC x) szFt Gj rfl λm e=>?_;have e:OwnS S w0 m (.cells s (pmC x) 143::wyE r .nilFunc .nilFunc::pmE b3 x::L):=e;refine dK (λW=>OwnS S w0 W (.cells s (pmC x) 143::wyE r .nilFunc .nilFunc::pmE b3 x::L)) e.drew ?_;refine q_at (pmV x) (λW h=>aW (h.agg 0 rfl aeB)) ?_;refine q_do (KG x) (λ_=>cJ rfl) ?_;refine q_at (pmV x) (λW h=>aW (h.agg 0 rfl aeB)) ?_;refine q_do (tX x) (λ_=>cJ rfl) ?_;refine q_do (.agg (wyC (KG x) (tX x)).toArray) (λ_=>by kernel_rfl) ?_;refine q_at (pmV x) (λW h=>aW (h.agg 2 rfl Kh)) ?_;refine lO _ (λW h=>(IX x W).mono λv w' ⟨B,C⟩=>⟨B,h.grow C⟩) ?_;intro j e;refine gY 1 e rfl (new:=wyC (KG x) (tX x)) szWy one rfl λD e=>?_;exact vO (bI (e.agg 1 rfl Tm)) uI (t A D e.tail.tail.tail)
end
theorem U3 (b f:Nat)(s:List UInt8)(D:List UInt8×Int)(M:Mem)(w:ao)(hp:cO ah f=av)(c:(upE b f).is w)(a:M.has w)
  (h:RetM ah f #[.string ⟨s.toArray⟩,.int .i64 1048576] M w (λv _=>v=zlT D∧D.1.length<=1048576)):RetM ah 173 #[.string ⟨s.toArray⟩,.pointer (ax ⟨b,0,aw⟩)] M w (λv _=>v=zlT D∧D.1.length<=1048576):=by
 refine bB a λK d=>CF ?_;unfold xX nz;rw[aJ nFnU (aI (T:=94) (cs:=[fnV f]) c (i:=0) rfl)];unfold fnV;refine Iq hp (bH (OwnS.memS a) 0 rfl h ?_);rintro _ N j g1 ⟨rfl,e⟩ g;simp only[zlT,ex];exact d _ _ N _ 0 g rfl g1 ⟨rfl,e⟩
theorem MN (x:Pm)(k:PdR x)(s:List UInt8)(M:Mem)(w:ao)(f:Rp M)(g:Od M)(l:s.length<=1000000000)(i:M.has w) :
  RetM ah 122 #[pmV x,.string ⟨s.toArray⟩] M w (λv _=>v=zlT (if (gk s 1048576).2≠0 then ([],(gk s 1048576).2) else ft x (gk s 1048576).1)∧(gk s 1048576).1.length<=1048576):=by
 refine bB i λK c=>rT ?_;unfold mM nz;refine bA (λb=>.pointer (ax ⟨b,0,aw⟩)) (pmC x) 143 (λ_=>by kernel_rfl) (OwnS.memS i) λb2 m a=>?_;refine bH a 1 rfl (Ot s 1048576 M m f g l (a.hasM 1 rfl)) ?_;rintro _ N w2 g1 ⟨rfl,d⟩ a;generalize gk s 1048576=U at c d;obtain⟨t,e⟩:=U;dsimp only at c d;simp only[zlT,ex,eS];by_cases he:e=0
 case neg=>
  rw[alH he] at c;simp only[alM (show e≠0 from he),i_t];exact c _ _ N _ 1 a rfl g1 ⟨rfl,d⟩
 rw[alG (λh=>h he)] at c;simp only[alJ (show ¬e≠0 fromλh=>h he),i_f];rw[aO Yc,l_at (T:=27) (v:=pmV x) (AtV.agg Kh (cs:=pmC x) rfl λj u n=>by rw[anF,alU];exact a.cell 0 rfl j n)];refine aM a (k t w2 om) ?_;rintro _ w3 rfl a;simp only[zlT,ex];exact c _ _ N _ 1 a rfl g1 ⟨rfl,d⟩
def UdA (n:List UInt8)(x:Pm):Prop:=∀(f g:Nat),(Ff.full n=Ff.nHx∧f=114∧g=116)∨(Ff.full n=Ff.n85∧f=117∧g=118)∨(Ff.full n=Ff.nRL∧f=119∧g=120)->∀(s:List UInt8) (M:Mem) (w:ao),Pws M->s.length<=1000000000->M.has w ->
 ∃_:cO ah g=av,RetM ah g #[.string ⟨s.toArray⟩,.int .i64 1048576] M w (λv _=>v=zlT (Ff.undo n x s)∧(Ff.undo n x s).1.length<=1048576)
theorem acR {n:List UInt8}(h:Ff.full n=Ff.nFl):UdA n x:=by
 intro f g b;rcases b with ⟨a,_⟩|⟨a,_⟩|⟨a,_⟩<;>rw[h] at a<;>exact absurd a dc
theorem Xm (n:List UInt8)(x:Pm)(G:PdR x)(H:UdA n x)(s:List UInt8)(M:Mem)(w:ao)(m:Rp M)(o:Od M)(q:Pws M)(C:s.length<=1000000000)(D:M.has w) :
  RetM ah 15 #[.string ⟨n.toArray⟩,pmV x,.string ⟨s.toArray⟩] M w (λv _=>v=zlT (Ff.undo n x s)∧(Ff.undo n x s).1.length<=1048576):=by
 refine bB D λK i=>FK ?_;generalize c:Ff.undo n x s=X at i;have r:=c;unfold Ff.undo at c;unfold Dl nz;refine H8 x (OwnS.memS D) λE J a=>?_;rw[pm_v a 0 rfl];have d:∀{p u:aq},p.oneCell'=av->u.oneCell'=av->∀y∈wyC p u,y.oneCell'=true:=by
  intro p u hp hu y F;simp only[wyC,alN,anA,or_false] at F;rcases F with rfl|rfl<;>assumption
 refine aeF a (λf g t z b2 w2 a=>?_) (λe w2 a=>?_) (λe w2 a=>?_)
 ·simp only[ex];refine bA (λb=>.pointer (ax ⟨b,0,aw⟩)) (wyC .nilFunc .nilFunc) 91 (λ_=>by kernel_rfl) a λk w3 a=>?_;refine gY 0 a rfl (new:=wyC (Cc z) (Dp b2)) szWy (d rfl rfl) rfl λh a=>?_;have a:OwnS M.A w h [wyE k (Cc z) (Dp b2),upE b2 g,Rb z f,pmE E x,.mem M]:=a;simp only[eS,show ai ((0:Int)≠0)=au from rfl,i_f];rw[aO Ym,aJ nFnW (a.cell 0 rfl 1 rfl)];have j:=a.hasM 4 rfl;have key:=H f g t s M h q C j;rw[r] at key;obtain⟨hp,key⟩:=key;unfold Dp;refine Iq Rv (bH a 4 rfl (U3 b2 g s X M h hp (a.at_ 1 rfl) j key) ?_);rintro _ N I g1 ⟨rfl,B⟩ a;simp only[zlT,ex];exact i _ _ N _ 4 a rfl g1 ⟨rfl,B⟩
 ·rw[alG (by rw[e];decide),alG (by rw[e];decide),alG (by rw[e];decide),alH e] at c;simp only[ex];refine bA (λb=>.pointer (ax ⟨b,0,aw⟩)) (wyC .nilFunc .nilFunc) 91 (λ_=>by kernel_rfl) a λk w3 a=>?_;refine gY 0 a rfl (new:=wyC (KG x) (tX x)) szWy (d rfl rfl) rfl λh a=>?_;have a:OwnS M.A w h [wyE k (KG x) (tX x),pmE E x,.mem M]:=a;simp only[eS];by_cases l:x.ok
  case neg=>
   rw[alH l] at c;simp only[alG l,show ai ((1:Int)≠0)=av from rfl,i_t];exact i _ _ M _ 2 a rfl M.le_refl ⟨by rw[<-c];rfl,by rw[<-c];exact amN _⟩
  rw[alG (by simp[l])] at c;simp only[alH l,show ai ((0:Int)≠0)=au from rfl,i_f];rw[aO Ym,aJ nFnW (a.cell 0 rfl 1 rfl)];unfold tX;refine Iq Ls (bH a 2 rfl (MN x G s M h m o C (a.hasM 2 rfl)) ?_);rintro _ N I g1 ⟨rfl,B⟩ a;rw[c];simp only[zlT,ex];refine i _ _ N _ 2 a rfl g1 ⟨rfl,?_⟩;rw[<-c];split
  ·exact amN _
  ·exact aoM (U0 _ _) B
 ·rw[alG (by rw[e];decide),alG (by rw[e];decide),alG (by rw[e];decide),alG (by rw[e];decide)] at c;simp only[ex];refine bA (λb=>.pointer (ax ⟨b,0,aw⟩)) (wyC .nilFunc .nilFunc) 91 (λ_=>by kernel_rfl) a λk w3 a=>?_;refine gY 0 a rfl (new:=wyC .nilFunc .nilFunc) szWy (d rfl rfl) rfl λh a=>?_;simp only[eS,show ai ((15:Int)≠0)=av from rfl,i_t];exact i _ _ M _ 2 a rfl M.le_refl ⟨by rw[<-c];rfl,by rw[<-c];exact amN _⟩
end
section
open Eng Go.RowKit
theorem V0 {ns:List (List UInt8)}{ps:List Pm}(a:i < ns.length)(b:i < ps.length)(s:List UInt8) :
  Ff.chain (ns.drop i) (ps.drop i) s=if (Ff.undo ns[i] ps[i] s).2≠0 then ([],(Ff.undo ns[i] ps[i] s).2) else Ff.chain (ns.drop (i+1)) (ps.drop (i+1)) (Ff.undo ns[i] ps[i] s).1:=by
 rw[anB a,anB b,Ff.chain]
theorem W0 {ns:List (List UInt8)}{ps:List Pm}(a:ns.length<=i)(s:List UInt8):Ff.chain (ns.drop i) (ps.drop i) s=(s,0):=by
 rw[anR a];unfold Ff.chain;rfl
theorem yr {o:Ob}:(Ff.of o).1.length<=8:=by
 have:=@Ff.RY o;unfold Ff.of;by_cases a:o.k≠9
 ·rw[alH a];exact amN _
 rw[alG a];by_cases b:(Ff.names o).2≠0
 ·rw[alH b];exact amN _
 rw[alG b];by_cases c:(Ff.tO o (Ff.names o).1.length).2≠0
 ·rw[alH c];exact amN _
 rw[alG c];split
 ·exact amN _
 ·exact this
section
variable {M:Mem}{vn vp:aq}{ns:List (List UInt8)}{ps:List Pm}
theorem zG (b:SlA M.A M.w vn 1 ns.length (bZ ns)):DoX ah (mB .len #[22] 3 #[au] #[vn]) W PK K=K (.int .i64 (ns.length:Int)) W:=by
 obtain⟨a,cap,rfl,_⟩:=b.form;exact bQ amD
end
theorem QF (o:Ob)(z:∀x∈(Ff.of o).2.1,PdR x)(B:∀n∈(Ff.of o).1,∀x,UdA n x)(v:aq)(M:Mem)(w:ao)(C:Rp M)(D:Od M)(E:Pws M)(hw:o.wt<=1000000000)(O:M.has w)(P:OV M.A M.w v o) :
  RetM ah 13 #[v] M w (λr _=>r=zlT (Ff.decode o)):=by
 obtain⟨vk,vc,V,rfl,Q⟩:=P.open;refine bB O λK y=>CD ?_;generalize a:Ff.decode o=X at y;unfold Ff.decode at a;unfold wI nz;refine iU o Q.keys.one Q.kids.one (OwnS.memS O) λY Z b=>?_;rw[ob_v b 0 rfl];refine bH b 1 rfl (T7 o _ M Z hw (b.hasM 1 rfl) P) ?_;have j:=@Ff.abW o;have k:=@yr o;generalize Ff.of o=F at a j k z B;obtain⟨ns,ps,e⟩:=F;dsimp only at a j k z B;rintro _ N w2 g ⟨vn,vp,rfl,G,hp⟩ b;dsimp only at G hp;simp only[ex,rP (show [vn,vp,Value.int .i64 e][2]?=ax (Value.int .i64 e) from rfl),rP (show [vn,vp,Value.int .i64 e][1]?=ax vp from rfl),rP (show [vn,vp,Value.int .i64 e][0]?=ax vn from rfl),eS];by_cases he:e=0
 case neg=>
  rw[alH he] at a;simp only[alM (show e≠0 from he),i_t];exact y _ _ N _ 1 b rfl g (by rw[<-a];rfl)
 rw[alG (λh=>h he)] at a;simp only[alJ (show ¬e≠0 fromλh=>h he),i_f];rw[G5,ob_s b 0 rfl,zG G];have H:o.s.length<=1000000000:=by
  have:o.s.length<=o.wt:=by rw[o.lC];omega
  omega
 refine loop (λvs W=>∃(i:Nat) (s:List UInt8) (l:Mem),vs=[.string ⟨s.toArray⟩,.int .i64 (i:Int)]∧i<=ns.length∧s.length<=1000000000∧N.le l∧Ff.chain (ns.drop i) (ps.drop i) s=X∧OwnS M.A w W [obE Y o vk vc,.mem l]) (λvs _=>ns.length - n1 vs) ⟨0,o.s,N,rfl,om,H,N.le_refl,a,b⟩ ?_;clear b a;rintro vs w3 ⟨i,s,l,rfl,hi,hs,c,a,b⟩ _;simp only[sV,gd,rs,nz];by_cases m:(i:Int) < (ns.length:Int)
 ·simp only[m,alK,i_t];have d:i < ns.length:=om
  have f:i < ps.length:=om
  rw[V0 d f] at a;obtain⟨p,I,J⟩:=Mf (G.le c) d;rw[aD (I w3),aD (J w3 (b.hasM 1 rfl))];obtain⟨p2,q,u⟩:=pmAt (hp.le c) f;rw[aD (q w3),aD (u w3 (b.hasM 1 rfl))];refine bH b 1 rfl (Xm ns[i] ps[i] (z _ (alX f)) (B _ (alX d) _) s l w3 ((C.le g).le c) ((D.le g).le c) ((E.le g).le c) hs (b.hasM 1 rfl)) ?_;rintro _ R w4 S ⟨rfl,T⟩ b;generalize Ff.undo ns[i] ps[i] s=U at a T;obtain⟨t,L⟩:=U;dsimp only at a T;simp only[zlT,ex,eS];by_cases hu:L=0
  case neg=>
   rw[alH hu] at a;simp only[alM (show L≠0 from hu),i_t];exact y _ _ R _ 1 b rfl ((g.trans c).trans S) (by rw[<-a];rfl)
  rw[alG (λh=>h hu)] at a;simp only[alJ (show ¬L≠0 fromλh=>h hu),i_f]
  try simp only[rs]
  rw[aA om om];exact aY ⟨i+1,t,R,rfl,om,om,c.trans S,a,b⟩ (by simp[n1,RowKit.intOf];omega)
 simp only[m,alL,i_f];rw[W0 om] at a;exact y _ _ l _ 1 b rfl (g.trans c) (by rw[<-a];rfl)
end
section
open Eng Go.RowKit
def jj (c:UInt8):Nat->List UInt8->Nat
|0,_=>0
|_,[]=>0
|f+1,d::r=>if d=c then jj c f r+1 else 0
def cc (s:List UInt8):Nat:=jj (s.getD 0 0) 128 s
theorem wu (c:UInt8):∀(f:Nat) (s:List UInt8),jj c f s<=f∧jj c f s<=s.length
|0,s=>by unfold jj;omega
|f+1,[]=>by unfold jj;exact⟨om,sm⟩
|f+1,d::r=>by
  have:=wu c f r;unfold jj;split
  ·rw[amC];omega
  ·omega
def lj:Nat->Nat->List UInt8->Nat
|0,n,_=>n
|f+1,n,s=>if n < min s.length 128∧cc (s.drop n) < 3 then lj f (n+1) s else n
def cu (s:List UInt8):Nat:=lj 128 1 s
theorem wx:∀(f n:Nat) (s:List UInt8),n<=min s.length 128->n<=lj f n s∧lj f n s<=min s.length 128
|0,n,s,h=>⟨alP _,h⟩
|f+1,n,s,h=>by
  unfold lj;split
  ·rename_i a
   have:=wx f (n+1) s om;omega
  ·exact⟨alP _,h⟩
def ir:Nat->List UInt8->List UInt8
|0,_=>[]
|f+1,s=>
  if s=[] then [128]
  else if 3<=cc s then [UInt8.ofNat (257 - cc s),s.getD 0 0]++ir f (s.drop (cc s))
  else [UInt8.ofNat (cu s - 1)]++s.take (cu s)++ir f (s.drop (cu s))
def me (s:List UInt8):List UInt8:=ir (s.length+1) s
section
variable {w:ao}{PK:PKT}{K:Ending->ao->Prop}{N1:List aq->ao->Prop}{S:Nat->Prop}{w0:ao}{L:List Ent}
end
end
section
open Go
namespace Bd
def strm (o:Ob)(data:List UInt8):Ob:=.mk 9 (Vl.aQ o Vl.lenK).n (Vl.aQ o Vl.lenK).g data (Vl.aQ o Vl.lenK).keys (Vl.aQ o Vl.lenK).kids
theorem Nb (h:Vl.check 1 o=0)(c:o.k=7):Vl.lenK ∉ (Vl.aQ o Vl.lenK).keys:=by
 have d:Vl.keyed o=true:=by simp[Vl.keyed,c]
 have f:=Vl.gM (key:=Vl.lenK) h d;have a:Vl.keyed (Vl.aQ o Vl.lenK)=true:=by
  have e:(Vl.aQ o Vl.lenK).k=o.k:=rfl;simp[Vl.keyed,e,c]
 obtain⟨_,hlen⟩:=Vl.lE f a;intro hm;have b:=Vl.Nl o Vl.lenK;unfold Vl.get at b;rw[alH a,alH (List.idxOf_lt_length_of_mem hm),alT (by rw[<-hlen];exact List.idxOf_lt_length_of_mem hm)] at b;cases b
theorem IW {data:List UInt8}(h:Vl.check 1 o=0)(d:o.k=7)(j:data.length<=1048576):Vl.check 1 (strm o data)=0:=by
 have l:Vl.keyed o=true:=by simp[Vl.keyed,d]
 have m:=Vl.gM (key:=Vl.lenK) h l;have b:=Nb h d;have f:(Vl.aQ o Vl.lenK).k=7:=d;unfold strm;generalize Vl.aQ o Vl.lenK=x at *;obtain⟨⟨p,a2,a3,a4,a5,r,c⟩,a⟩:=Vl.jW.1 m;obtain⟨k,n,g,s,t,cs⟩:=x;simp only[Ob.k,Ob.n,Ob.g,Ob.s,Ob.keys,Ob.kids] at *;subst f;refine Vl.jW.2 ⟨⟨p,?_,λ_=>arA 1 |> λ_=>by omega,?_,?_,r,?_⟩,a⟩
 ·unfold Vl.pN at a2 ⊢;simp only[Ob.k,Ob.n,Ob.g,Ob.s,Ob.keys,Ob.kids,Vl.used] at a2 ⊢
  simp_all
  exact a2.1
 ·simp[Vl.fits,Ob.k]
 ·simpa[Vl.long,Ob.k,Ob.s] using j
 ·unfold Vl.form at c ⊢;simp only[Ob.k] at c ⊢;simp only[show ai ((7:Int)=7∨(7:Int)=9)=av by decide,anH,asK,amB] at c;obtain⟨u,v,w,y⟩:=Vl.nP.1 c.2;have z:Vl.rising (.mk 9 n g data t cs)=true:=Vl.nP.2 ⟨u,v,λq i=>⟨(w q i).1,λ_ e=>b (e▸i)⟩,y⟩;simp[z]
theorem La (h:Vl.check 1 o=0)(a:o.k=7):(if Vl.keyed o=av∧Vl.check 1 o=0 then Vl.aQ o Vl.lenK else o)=Vl.aQ o Vl.lenK:=by
 rw[alH ⟨by simp[Vl.keyed,a],h⟩]
end Bd
end
section
open Eng
def AN(t0 t1 w)(K:KT):=nz f87 1 [] [] [] (zg [0,1] [t0,t1]) w K
theorem DC:AN t0 t1 w k0->Calls ah 87 #[t0,t1] w k0:=cw func87
end
end Go.Proofs.YtlipjfcbjemicaaGreatDoor

namespace Go.Proofs.YtlipjfcbjemicaaGreatDoor
variable{D:TypeId}{K:VWP}{M N:Eng.Mem}{P:Program}{PK:PKT}{W w:ao}{a colors:Int}{above key:List UInt8}{b cap f i j:Nat}{cb:Array Bool}{cs cur:List aq}{l:List Nat}{o:Ob}{pv v va vc vk:aq}{q:Bool}{x:Pm}{xo yo:Operand}{t0 t1:aq}{k0:Eng.KT}
section
open Eng Go.RowKit
theorem Ny (o:Ob)(v:aq)(data:List UInt8)(M:Mem)(w:ao)(h:o.k=7)(i:Vl.check 1 o=0)(I:data.length<=1048576)(hw:o.wt<=1000000000)(C:M.has w)(j:OV M.A M.w v o) :
  RetM ah 87 #[v,.string ⟨data.toArray⟩] M w (λr N=>∃v',r=errV v' 0∧OV N.A N.w v' (Bd.strm o data)):=by
 obtain⟨vk,vc,cs,rfl,D⟩:=j.open;refine bB C λK J=>DC ?_;unfold AN nz;refine iU o D.keys.one D.kids.one (OwnS.memS C) λb2 V a=>?_;refine fO a λL w2 a=>?_;rw[fR,ob_k a 1 rfl];simp only[rs,h,show ai ((7:Int)≠7)=au by decide,i_f];rw[ob_v a 1 rfl];refine aM a (R:=λv=>v=.int .i64 (Vl.check 1 o)) (jF o _ w2 (OV.inw (a.hasM 2 rfl) j) om) ?_;rintro _ w3 rfl a;simp only[i,eS,show ai ((0:Int)≠0)=au by decide,i_f];rw[ob_v a 1 rfl];refine bH a 2 rfl (Cd o _ Vl.lenK M w3 om (a.hasM 2 rfl) j) λy N W hle E a=>?_;have l:fh o Vl.lenK=Vl.aQ o Vl.lenK:=by unfold fh;exact Bd.La i h
 rw[l] at E;have m:=Bd.IW (data:=data) i h I;have O:=Vl.jA o Vl.lenK;have c:Bd.strm o data=.mk 9 (Vl.aQ o Vl.lenK).n (Vl.aQ o Vl.lenK).g data (Vl.aQ o Vl.lenK).keys (Vl.aQ o Vl.lenK).kids:=rfl;generalize Vl.aQ o Vl.lenK=x at *;obtain⟨p,q,u,rfl,b⟩:=E.open;refine fO a λP X a=>?_;refine bK 0 b.keys.one b.kids.one a rfl λY a=>?_;rw[fR];refine aK 0 a rfl krx rfl (show 0 < 6 by omega) λZ a=>?_;rw[G5];refine aK 0 a rfl krx rfl (show 0+3 < 6 by omega) λF a=>?_;have a:OwnS M.A w F [obE P (Bd.strm o data) p q,obE L ob0 nilS nilS,obE b2 o vk vc,.mem N]:=by rw[c];exact a
 have z:OV N.A N.w (obV (Bd.strm o data) p q) (Bd.strm o data):=by
  rw[c];exact ObAt.ov (o:=.mk 9 x.n x.g data x.keys x.kids) (vk:=p) (vc:=q) (cs:=u) ⟨b.keys,b.kids,b.all⟩
 have B:(Bd.strm o data).wt<=100000000000:=by
  have G:=Vl.lC (Bd.strm o data);have Q:=Vl.lC x;rw[c] at G ⊢;simp only[Ob.s,Ob.keys,Ob.kids] at G Q ⊢;omega
 rw[ob_v a 0 rfl];refine bH a 3 rfl (HJ _ _ N F B (a.hasM 3 rfl) z) ?_;rintro _ S w9 e ⟨t,rfl,H⟩ a;have f:Vl.right (Bd.strm o data)=(Bd.strm o data,0):=by unfold Vl.right;rw[alG (by simp[m])]
 rw[f] at H;obtain⟨tk,tc,T,rfl,d⟩:=H.open;simp only[errV,ex,f];refine bK 1 d.keys.one d.kids.one a rfl λU a=>?_;exact fE 1 a rfl (J _ _ S _ 3 a rfl (hle.trans e) ⟨_,rfl,d.ov⟩)
end
section
open Eng Go.RowKit
namespace Ff
def nL (o:Ob):Ob:=.mk 7 o.n o.g [] o.keys o.kids
def bare (o:Ob):Ob:=Vl.aQ (Vl.aQ (nL o) aX) cL
def plain (o:Ob)(data:List UInt8):Ob×Int:=
 if o.k≠9∧o.k≠7 then (Vl.ob0,10)
 else if Vl.check 1 (nL o)≠0 then (Vl.ob0,Vl.check 1 (nL o))
 else (Bd.strm (bare o) data,0)
theorem QA (o:Ob):(nL o).wt<=o.wt:=by
 obtain⟨k,n,g,s,a,cs⟩:=o;show (Ob.mk 7 n g [] a cs).wt<=(Ob.mk k n g s a cs).wt;rw[Ob.wt,Ob.wt];have:([]:List UInt8).length=0:=rfl;omega
end Ff
theorem RM (o:Ob)(v:aq)(data:List UInt8)(M:Mem)(w:ao)(G:data.length<=1048576)(hw:o.wt<=1000000000)(E:M.has w)(H:OV M.A M.w v o) :
  RetM ah 30 #[v,.string ⟨data.toArray⟩] M w (λr N=>∃v',r=errV v' (Ff.plain o data).2∧OV N.A N.w v' (Ff.plain o data).1):=by
 obtain⟨vk,vc,cs,rfl,l⟩:=H.open;refine bB E λK y=>DF ?_;generalize b:Ff.plain o data=X at y;unfold Ff.plain at b;unfold Aw nz;refine iU o l.keys.one l.kids.one (OwnS.memS E) λb2 w1 a=>?_;refine fO a λc w2 a=>?_;have no:∀{W:ao} {N:Mem} {e:Int} {x:Ob},OwnS M.A w W [obE c ob0 nilS nilS,obE b2 x vk vc,.mem N]->M.le N->X=(Vl.ob0,e)->DoX ah (aS 25 #[]) W (pk K) (λt W=>DoX ah (aN 25 (.pointer (ax ⟨c,0,aw⟩)) t) W (pk K) λ_ W=>RetX ah [.cell (.pointer (ax ⟨c,0,aw⟩)) 25,.val (.int .i64 e)] W K):=by
  intro W N e x a hle F;rw[Kk];refine bK 0 rfl rfl a rfl λz a=>?_;refine fE 0 a rfl (y _ _ N _ 2 a rfl hle ⟨obV Vl.ob0 nilS nilS,?_,?_⟩)
  ·rw[F];rfl
  ·rw[F];exact uZ N
 rw[fR,ob_k a 1 rfl];simp only[rs];have f:OV M.A M.w (obV (Ff.nL o) vk vc) (Ff.nL o):=ObAt.ov (o:=Ff.nL o) (vk:=vk) (vc:=vc) (cs:=cs) ⟨l.keys,l.kids,l.all⟩;have main:¬(o.k≠9∧o.k≠7)->DoX ah (mFA 25 (.pointer (ax ⟨b2,0,aw⟩)) 0) w2 (pk K) λt16 w=>
 DoX ah (aN 3 t16 (.int .i64 7)) w (pk K) λ_ w=>
 DoX ah (mFA 25 (.pointer (ax ⟨b2,0,aw⟩)) 3) w (pk K) λt17 w=>
 DoX ah (aN 9 t17 (.string ⟨#[]⟩)) w (pk K) λ_ w=>
 DoX ah (aH 25 (.pointer (ax ⟨b2,0,aw⟩))) w (pk K) λt18 w=>
 CallX ah 86 #[t18] w (pk K) λt19 w=>
 DoX ah (mEq .neq 30 (.tmp 20) (.const (.int .i64 0)) t19 (.int .i64 0)) w (pk K) λt21 w=>
 IfX t21 (DoX ah (aS 25 #[]) w (pk K) λt22 w=>
 DoX ah (aN 25 (.pointer (ax ⟨c,0,aw⟩)) t22) w (pk K) λ_ w=>
 RetX ah [.cell (.pointer (ax ⟨c,0,aw⟩)) 25,.val t19] w K) (DoX ah (aH 25 (.pointer (ax ⟨b2,0,aw⟩))) w (pk K) λt24 w=>
 CallX ah 88 #[t24,(.string ⟨#[70,105,108,116,101,114]⟩)] w (pk K) λt25 w=>
 CallX ah 88 #[t25,(.string ⟨#[68,101,99,111,100,101,80,97,114,109,115]⟩)] w (pk K) λt26 w=>
 CallX ah 87 #[t26,.string ⟨data.toArray⟩] w (pk K) λt28 w=>
 DoX ah (mExt t28 0) w (pk K) λt29 w=>
 DoX ah (mExt t28 1) w (pk K) λt30 w=>
 DoX ah (aN 25 (.pointer (ax ⟨c,0,aw⟩)) t29) w (pk K) λ_ w=>
 RetX ah [.cell (.pointer (ax ⟨c,0,aw⟩)) 25,.val t30] w K):=by
  intro I;rw[alG I] at b;rw[fR];refine aK 1 a rfl krx rfl (show 0 < 6 by omega) λw3 a=>?_;rw[G5];refine aK 1 a rfl krx rfl (show 0+3 < 6 by omega) λz a=>?_;have a:OwnS M.A w z [obE c ob0 nilS nilS,obE b2 (Ff.nL o) vk vc,.mem M]:=a;have B:=Ff.QA o;have J:Bd.strm (Ff.bare o) data=Bd.strm (Vl.aQ (Vl.aQ (Ff.nL o) Ff.aX) Ff.cL) data:=rfl;have q:(Ff.nL o).k=7:=rfl;rw[J] at b;generalize Ff.nL o=d at b B a f q;rw[ob_v a 1 rfl];refine aM a (R:=λv=>v=.int .i64 (Vl.check 1 d)) (jF d _ z (OV.inw (a.hasM 2 rfl) f) om) ?_;rintro _ L rfl a;simp only[eS];by_cases j:Vl.check 1 d=0
  case neg=>
   rw[alH j] at b;simp only[alM (show Vl.check 1 d≠0 from j),i_t];exact no a M.le_refl b.symm
  rw[alG (λh=>h j)] at b;simp only[j,show ai ((0:Int)≠0)=au from rfl,i_f];rw[ob_v a 1 rfl];refine bH a 2 rfl (Cd d _ Ff.aX M L om (a.hasM 2 rfl) f) λy1 N1 O P m a=>?_;have Q:fh d Ff.aX=Vl.aQ d Ff.aX:=by unfold fh;rw[alH ⟨by simp[Vl.keyed,q],j⟩]
  rw[Q] at m;have n:=Vl.gM (key:=Ff.aX) j (by simp[Vl.keyed,q]);have g:(Vl.aQ d Ff.aX).k=7:=q;have S:=Vl.jA d Ff.aX;generalize Vl.aQ d Ff.aX=d1 at *;refine bH a 2 rfl (Cd d1 _ Ff.cL N1 O om (a.hasM 2 rfl) m) λy2 T U V p a=>?_;have Y:fh d1 Ff.cL=Vl.aQ d1 Ff.cL:=by unfold fh;rw[alH ⟨by simp[Vl.keyed,g],n⟩]
  rw[Y] at p;have C:=Vl.gM (key:=Ff.cL) n (by simp[Vl.keyed,g]);have D:(Vl.aQ d1 Ff.cL).k=7:=g;have Z:=Vl.jA d1 Ff.cL;generalize Vl.aQ d1 Ff.cL=d2 at *;refine bH a 2 rfl (Ny d2 _ data T U D C G om (a.hasM 2 rfl) p) ?_;rintro _ N3 w8 l3 ⟨t,rfl,ht⟩ a;obtain⟨tk,tc,a1,rfl,i⟩:=ht.open;simp only[errV,ex];refine bK 0 i.keys.one i.kids.one a rfl λw9 a=>?_;exact fE 0 a rfl (y _ _ N3 _ 2 a rfl ((P.trans V).trans l3) ⟨_,by rw[<-b];rfl,by rw[<-b];exact i.ov⟩)
 by_cases s:o.k=9
 ·simp only[alJ (show ¬o.k≠9 fromλh=>h s),rs,g_un,i_f];exact main (λh=>h.1 s)
 simp only[alM (show o.k≠9 from s),rs];rw[fR,ob_k a 1 rfl];simp only[rs];by_cases u:o.k=7
 ·simp only[alJ (show ¬o.k≠7 fromλh=>h u),rs,i_f];exact main (λh=>h.2 u)
 ·simp only[alM (show o.k≠7 from u),rs,i_t];rw[alH ⟨s,u⟩] at b;exact no a M.le_refl b.symm
theorem eqPm:eqT ah 27 [(0,au),(1,au),(2,au)]:=⟨krx,krx,krx,krx⟩
def Pm.eqb (x y:Pm):Bool:=ai (x.p=y.p)&&(ai (x.c=y.c)&&ai (x.n=y.n))
theorem abX (x y:Pm):([(0,au),(1,au),(2,au)]:List (Nat×Bool)).all (λp=>BR (pmC x).toArray[p.1]? (pmC y).toArray[p.1]?)=Pm.eqb x y:=by
 have e:([(0,au),(1,au),(2,au)]:List (Nat×Bool)).all (λp=>BR (pmC x).toArray[p.1]? (pmC y).toArray[p.1]?)=((x.p==y.p)&&((x.c==y.c)&&((x.n==y.n)&&av))):=rfl;rw[e];unfold Pm.eqb;rw[Bool.and_true];rfl
theorem adC {y:Pm}:(mEq .eql 27 xo yo (pmV x) (pmV y)).run ah w=.ok (.value (.bool (Pm.eqb x y))) w:=by
 rw[<-abX];exact MS eqPm rfl
def lr (os:List Ob):Ob:=if os.length=1 then os.getD 0 Vl.ob0 else .mk 6 0 0 [] [] os
theorem I1 (os:List Ob)(v:aq)(cs:List aq)(M:Mem)(w:ao)(hw:Ob.wts os<=1000000000)(d:M.has w)(h:LsAt M v os cs):RetM ah 71 #[v] M w (λr N=>OV N.A N.w r (lr os)):=by
 refine bB d λK e=>DR ?_;unfold Ba nz;refine fO (OwnS.memS d) λb2 g a=>?_;rw[ER h];simp only[rs];by_cases f:os.length=1
 ·simp only[show ai ((os.length:Int)=1)=av from alM om,i_t];refine MJ (i:=0) h om (a.hasM 1 rfl) λj k c=>?_;refine bK 0 c.oneK c.oneC a rfl λw2 a=>?_;refine iC (bI (a.agg 0 rfl lF)) (e _ _ M _ 1 a rfl M.le_refl ?_);have:lr os=os[0]:=by unfold lr;rw[alH f,alO,alT om,apA]
  rw[this];exact c
 ·simp only[show ai ((os.length:Int)=1)=au from alJ om,i_f];refine bH a 1 rfl (J9 os _ cs M g om (a.hasM 1 rfl) h.sl h.all) λy N w2 l c a=>?_;obtain⟨j,k,m,rfl,b⟩:=c.open;refine bK 0 b.keys.one b.kids.one a rfl λw3 a=>?_;refine iC (bI (a.agg 0 rfl lF)) (e _ _ N _ 1 a rfl l ?_);unfold lr;rw[alG f];exact b.ov
end
section
open Eng Go.RowKit
namespace Ff
def cA (n:List UInt8):Ob:=ob1 5 0 0 n
end Ff
section
variable {w:ao}{PK PK2:PKT}{K:VWP}{S:Nat->Prop}{w0:ao}{L:List Ent}
end
end
end Go.Proofs.YtlipjfcbjemicaaGreatDoor


namespace Go.Proofs.YtlipjfcbjemicaaGreatDoor
variable{D:TypeId}{K:VWP}{M N:Eng.Mem}{P:Program}{PK:PKT}{W w:ao}{a colors:Int}{above key:List UInt8}{b cap f i j:Nat}{cb:Array Bool}{cs cur:List aq}{l:List Nat}{o:Ob}{pv v va vc vk:aq}{q:Bool}{x:Pm}{xo yo:Operand}{t0 t1:aq}{k0:Eng.KT}
section
open Go
theorem aiO {p:UInt8->Prop}(h:∀n:Fin 256,p (UInt8.ofNat n.val))(c:UInt8):p c:=by
 have:=h ⟨c.toNat,c.toNat_lt⟩;simpa using this
theorem X0 (c:UInt8):Lx.digit (Oc.hexD (c.toNat / 16))=((c.toNat / 16:Nat):Int)∧Lx.digit (Oc.hexD (c.toNat % 16))=((c.toNat % 16:Nat):Int)∧Oc.HL (Oc.hexD (c.toNat / 16))=au∧Oc.HL (Oc.hexD (c.toNat % 16))=au∧Oc.hexD (c.toNat / 16)≠62∧Oc.hexD (c.toNat % 16)≠62:=
 aiO (p:=λc=>Lx.digit (Oc.hexD (c.toNat / 16))=((c.toNat / 16:Nat):Int)∧Lx.digit (Oc.hexD (c.toNat % 16))=((c.toNat % 16:Nat):Int)∧Oc.HL (Oc.hexD (c.toNat / 16))=au∧Oc.HL (Oc.hexD (c.toNat % 16))=au∧Oc.hexD (c.toNat / 16)≠62∧Oc.hexD (c.toNat % 16)≠62) (by decide +kernel) c
theorem wy (most:Nat)(r:List UInt8):∀(s out:List UInt8),out.length+s.length<=most->ix most (Oc.hex s++62::r) (-1) out=(out++s,0)
|[],out,_=>by
  show ix most (62::r) (-1) out=_;unfold ix;rw[alG dc,alH rfl,alH dc,amE]
|c::s,out,h=>by
  obtain⟨a,b,d,f,g,i⟩:=X0 c;have j:c.toNat < 256:=c.toNat_lt;simp only[amC] at h;have e:Oc.hex (c::s)++62::r=Oc.hexD (c.toNat / 16)::Oc.hexD (c.toNat % 16)::(Oc.hex s++62::r):=rfl;rw[e];unfold ix;rw[d,alG dc,alG g,a,alG om,alH dc];unfold ix;rw[f,alG dc,alG i,b,alG om,alG om,alG om];have k:(16*((c.toNat / 16:Nat):Int)+((c.toNat % 16:Nat):Int)).toNat=c.toNat:=om
  rw[k,UInt8.ofNat_toNat,wy most r s (out++[c]) (by simp;omega),alS];rfl
theorem qo {D:Nat->List UInt8×Int}{s:List UInt8}{most:Int}(hm:(s.length:Int)<=most)(a:s.length<=1048576)(h:∀m,s.length<=m->D m=(s,0)):kj D most=(s,0):=by
 unfold kj;rw[alG om,h _ om]
theorem Y0 {s:List UInt8}{most:Int}(hm:(s.length:Int)<=most)(a:s.length<=1048576):oe (Oc.hex s++[62]) most=(s,0):=
 qo hm a λm h=>by
  rw[wy m [] s [] (by simpa using h)];rfl
theorem wz (c:UInt8):∀(f:Nat) (s:List UInt8),s.take (jj c f s)=List.replicate (jj c f s) c
|0,s=>by unfold jj;simp
|f+1,[]=>by unfold jj;simp
|f+1,d::r=>by
  unfold jj;by_cases h:d=c
  ·rw[alH h,asQ,wz c f r,asH,h]
  ·rw[alG h];simp
theorem xa (c:UInt8):∀n,Lib.repeatL [c] n=List.replicate n c
|0=>rfl
|n+1=>by
  show [c]++Lib.repeatL [c] n=_;rw[xa c n,asH];rfl
theorem yt {s:List UInt8}(h:s≠[]):1<=cu s∧cu s<=min s.length 128:=by
 have a:0 < s.length:=aqH.2 h;unfold cu;exact wx 128 1 s om
theorem qp (most:Nat):∀(g:Nat) (s out:List UInt8) (f:Nat),s.length < g->out.length+s.length<=most->(ir g s).length<=f->iy most f (ir g s) out=(out++s,0)
|0,_,_,_,h,_,_=>by omega
|g+1,s,out,f,q,hm,a=>by
  unfold ir at a ⊢;by_cases c:s=[]
  ·rw[alH c] at a ⊢;obtain⟨f,rfl⟩:∃j,f=j+1:=⟨f - 1,by simp at a;omega⟩;rw[c];unfold iy;simp
  rw[alG c] at a ⊢;have r:0 < s.length:=aqH.2 c;have o:=wu (s.getD 0 0) 128 s;by_cases m:3<=cc s
  ·rw[alH m] at a ⊢;simp only[alI,amC,apD] at a;obtain⟨f,rfl⟩:∃j,f=j+1:=⟨f - 1,om⟩;have b:=wz (s.getD 0 0) 128 s;have e:s.take (cc s)++s.drop (cc s)=s:=amX ..
   have p:(s.drop (cc s)).length=s.length - cc s:=alW;change cc s<=128∧cc s<=s.length at o;change s.take (cc s)=List.replicate (cc s) (s.getD 0 0) at b;have i:(UInt8.ofNat (257 - cc s)).toNat=257 - cc s:=by
    rw[apR,anD om]
   have d:=qp most g (s.drop (cc s)) (out++s.take (cc s)) f om (by rw[alI,alR];omega) om;rw[alS,e] at d;rw[<-d];show iy most (f+1) (UInt8.ofNat (257 - cc s)::([s.getD 0 0]++ir g (s.drop (cc s)))) out=_
   conv=>lhs;unfold iy
   dsimp only;rw[i,alG om,alG om,alG sm,alG om,show 257 - (257 - cc s)=cc s by omega];have k:([s.getD 0 0]++ir g (s.drop (cc s))).take 1=[s.getD 0 0]:=rfl;have l:([s.getD 0 0]++ir g (s.drop (cc s))).drop 1=ir g (s.drop (cc s)):=rfl;rw[k,l,xa,b]
  ·rw[alG m] at a ⊢;simp only[alI,amC,apD] at a;obtain⟨f,rfl⟩:∃j,f=j+1:=⟨f - 1,om⟩;have n:=yt c;have e:s.take (cu s)++s.drop (cu s)=s:=amX ..
   have lt:(s.take (cu s)).length=cu s:=by rw[alR];omega
   have p:(s.drop (cu s)).length=s.length - cu s:=alW;have i:(UInt8.ofNat (cu s - 1)).toNat=cu s - 1:=by
    rw[apR,anD om]
   have d:=qp most g (s.drop (cu s)) (out++s.take (cu s)) f om (by rw[alI];omega) om;rw[alS,e] at d;rw[<-d];show iy most (f+1) (UInt8.ofNat (cu s - 1)::(s.take (cu s)++ir g (s.drop (cu s)))) out=_
   conv=>lhs;unfold iy
   dsimp only;rw[i,show cu s - 1+1=cu s by omega,alG om,alH om,alG (by rw[alI];omega),alG om];have k:(s.take (cu s)++ir g (s.drop (cu s))).take (cu s)=s.take (cu s):=anM lt;have l:(s.take (cu s)++ir g (s.drop (cu s))).drop (cu s)=ir g (s.drop (cu s)):=arU lt;rw[k,l]
def jv (p:List UInt8):Nat:=((p.getD 0 0).toNat*256+(p.getD 1 0).toNat)*65536+(p.getD 2 0).toNat*256+(p.getD 3 0).toNat
def mw (p:List UInt8):List UInt8:=if jv p=0∧p.length=4 then [122] else (List.range (p.length+1)).map λk=>UInt8.ofNat (33+jv p / si.getD k 0 % 85)
def lf:Nat->List UInt8->List UInt8
|0,_=>[]
|f+1,s=>if s=[] then [126,62] else mw (s.take 4)++lf f (s.drop 4)
def mf (s:List UInt8):List UInt8:=lf (s.length+1) s
theorem xd (n:Nat)(h:n < 85):Oc.HL (UInt8.ofNat (33+n))=au∧(UInt8.ofNat (33+n)).toNat=33+n∧(UInt8.ofNat (33+n) - 33).toNat=n∧UInt8.ofNat (33+n) - 33=UInt8.ofNat n:=by
 have a:∀n:Fin 85,Oc.HL (UInt8.ofNat (33+n.val))=au∧(UInt8.ofNat (33+n.val)).toNat=33+n.val∧(UInt8.ofNat (33+n.val) - 33).toNat=n.val∧UInt8.ofNat (33+n.val) - 33=UInt8.ofNat n.val:=by decide +kernel
 exact a ⟨n,h⟩
theorem je {a n:Nat}(h:n < 85){r g out:List UInt8}(e:g.length < 4):fc a (UInt8.ofNat (33+n)::r) g out=fc a r (g++[UInt8.ofNat n]) out:=by
 obtain⟨b,c,f,d⟩:=xd n h
 conv=>lhs;unfold fc
 rw[b,alG dc,c,alG om,alH ⟨om,om⟩,alH om,d]
theorem Z0 {a n:Nat}(h:n < 85){r g out:List UInt8}(e:g.length=4)(f:dq (g++[UInt8.ofNat n]) < 4294967296)(hm:out.length+4<=a):fc a (UInt8.ofNat (33+n)::r) g out=fc a r [] (out++bz (dq (g++[UInt8.ofNat n]))):=by
 obtain⟨b,c,i,d⟩:=xd n h
 conv=>lhs;unfold fc
 rw[b,alG dc,c,alG om,alH ⟨om,om⟩,alG om,d,alG om,alG om]
theorem yu (p:List UInt8):jv p < 4294967296:=by
 have a:=(p.getD 0 0).toNat_lt;have b:=(p.getD 1 0).toNat_lt;have c:=(p.getD 2 0).toNat_lt;have d:=(p.getD 3 0).toNat_lt;unfold jv;omega
theorem yw {p:List UInt8}(hp:p.length=4):∃a b c d,p=[a,b,c,d]:=by
 rcases p with _|⟨a,_|⟨b,_|⟨c,_|⟨d,_|⟨e,t⟩⟩⟩⟩⟩
 case cons.cons.cons.cons.nil=>exact⟨a,b,c,d,rfl⟩
 all_goals simp at hp
theorem ki {n:Nat}{x:UInt8}(h:n % 256=x.toNat):UInt8.ofNat n=x:=by
 rw[<-UInt8.toNat_inj,apR];exact h
theorem aaa {p:List UInt8}(hp:p.length=4){v:Nat}(f:v=jv p):bz v=p:=by
 obtain⟨a,b,c,d,rfl⟩:=yw hp;have g:=a.toNat_lt;have h:=b.toNat_lt;have i:=c.toNat_lt;have j:=d.toNat_lt;have e:jv [a,b,c,d]=(a.toNat*256+b.toNat)*65536+c.toNat*256+d.toNat:=rfl;show [UInt8.ofNat (v / 16777216),UInt8.ofNat (v / 65536),UInt8.ofNat (v / 256),UInt8.ofNat v]=_;rw[f,e];rw[ki (x:=a) om,ki (x:=b) om,ki (x:=c) om,ki (x:=d) om]
theorem qt (v:Nat):bz v=[UInt8.ofNat (v / 16777216),UInt8.ofNat (v / 65536),UInt8.ofNat (v / 256),UInt8.ofNat v]:=rfl
theorem xj (a b c d e:UInt8):dq [a,b,c,d,e]=(((a.toNat*85+b.toNat)*85+c.toNat)*85+d.toNat)*85+e.toNat:=rfl
theorem xl (a b c d:UInt8):dq [a,b,c,d]=(((a.toNat*85+b.toNat)*85+c.toNat)*85+d.toNat)*85+84:=rfl
theorem xm (a b c:UInt8):dq [a,b,c]=(((a.toNat*85+b.toNat)*85+c.toNat)*85+84)*85+84:=rfl
theorem xn (a b:UInt8):dq [a,b]=(((a.toNat*85+b.toNat)*85+84)*85+84)*85+84:=rfl
theorem gm {n:Nat}(h:n < 85):(UInt8.ofNat n).toNat=n:=by rw[apR,anD om]
theorem aab {v:Nat}(d:v < 4294967296):dq [UInt8.ofNat (v / 52200625 % 85),UInt8.ofNat (v / 614125 % 85),UInt8.ofNat (v / 7225 % 85),UInt8.ofNat (v / 85 % 85),UInt8.ofNat (v / 1 % 85)]=v:=by
 have h:∀n:Nat,n % 85 < 85:=λn=>aoT _ dc;rw[xj,gm (h _),gm (h _),gm (h _),gm (h _),gm (h _),Nat.div_one];have a:v / 7225=v / 85 / 85:=by rw[aoI]
 have b:v / 614125=v / 85 / 85 / 85:=by rw[aoI,aoI]
 have c:v / 52200625=v / 85 / 85 / 85 / 85:=by rw[aoI,aoI,aoI]
 rw[a,b,c];omega
theorem qu {a:Nat}{g out p:List UInt8}(b:g.length=p.length+1)(d:0 < p.length)(e:dq g < 4294967296)(hm:out.length+p.length<=a)(c:(bz (dq g)).take p.length=p):fc a [126,62] g out=(out++p,0):=by
 unfold fc;rw[alG dc,alG (λh=>absurd h.1 dc),alG (λh=>absurd h.2 dc),alH dc];unfold mq;rw[alG sm,alG (λh=>h.elim (λh=>h rfl) (λh=>by omega)),alG om,alG om,alG om,b,apV,c]
theorem xe (l:Nat):∀(f:Nat) (s out:List UInt8),s.length < f->out.length+s.length<=l->fc l (lf f s) [] out=(out++s,0)
|0,_,_,h,_=>by omega
|f+1,s,out,G,hm=>by
  unfold lf;by_cases p:s=[]
  ·rw[alH p,p,amE];unfold fc;rw[alG dc,alG (λh=>absurd h.1 dc),alG (λh=>absurd h.2 dc),alH dc];unfold mq;rw[alG sm,alG (λh=>h.elim (λh=>h rfl) (λh=>absurd h dc)),alH (show ([]:List UInt8).length=0 from rfl)]
  rw[alG p];have H:0 < s.length:=aqH.2 p;have g:∀n:Nat,n % 85 < 85:=λn=>aoT _ dc;by_cases B:4<=s.length
  ·have u:s.take 4++s.drop 4=s:=amX ..
   have lt:(s.take 4).length=4:=by rw[alR];omega
   have I:(s.drop 4).length=s.length - 4:=alW;have r:=xe l f (s.drop 4) (out++s.take 4) om (by rw[alI];omega);rw[alS,u] at r;have m:=yu (s.take 4);have o:=aaa lt rfl;unfold mw;by_cases w:jv (s.take 4)=0∧(s.take 4).length=4
   ·rw[alH w];rw[w.1] at o;have e:s.take 4=[0,0,0,0]:=by rw[<-o];rfl
    rw[e] at r;show fc l (122::lf f (s.drop 4)) [] out=_;unfold fc;rw[alG dc,alH ⟨dc,rfl⟩,alG om,r]
   ·rw[alG w,lt];generalize J:jv (s.take 4)=v at m o;show fc l (UInt8.ofNat (33+v / 52200625 % 85)::UInt8.ofNat (33+v / 614125 % 85)::UInt8.ofNat (33+v / 7225 % 85)::UInt8.ofNat (33+v / 85 % 85)::UInt8.ofNat (33+v / 1 % 85)::lf f (s.drop 4)) [] out=_;rw[je (g _) dc,je (g _) sm,je (g _) sm,je (g _) sm];have hw:=aab m;rw[Z0 (g _) sm (by show dq [_,_,_,_,_] < _;rw[hw];exact m) om];show fc l _ [] (out++bz (dq [_,_,_,_,_]))=_;rw[hw,o,r]
  ·have u:s.take 4=s:=amP om;have C:s.drop 4=[]:=arM om;have D:lf f []=[126,62]:=by
    obtain⟨f,rfl⟩:∃j,f=j+1:=⟨f - 1,om⟩;unfold lf;rw[alH rfl]
   rw[u,C,D];unfold mw;rw[alG om];rcases s with _|⟨a,_|⟨b,_|⟨c,_|⟨d,t⟩⟩⟩⟩
   ·exact absurd rfl p
   ·have A:=a.toNat_lt;have m:jv [a]=a.toNat*16777216:=by show (a.toNat*256+0)*65536+0*256+0=_;omega
    rw[m];obtain⟨v,y⟩:∃v,v=a.toNat*16777216:=⟨_,rfl⟩;rw[<-y];show fc l (UInt8.ofNat (33+v / 52200625 % 85)::UInt8.ofNat (33+v / 614125 % 85)::[126,62]) [] out=_;rw[je (g _) dc,je (g _) sm];have e:dq [UInt8.ofNat (v / 52200625 % 85),UInt8.ofNat (v / 614125 % 85)]=v / 614125*614125+614124:=by
     rw[xn,gm (g _),gm (g _)];have q:v / 52200625=v / 614125 / 85:=by rw[aoI]
     rw[q];omega
    have i:v<=v / 614125*614125+614124:=om
    have k:v / 614125*614125+614124 < v+614125:=om
    generalize v / 614125*614125+614124=X at e i k;refine qu rfl sm ?_ hm ?_
    ·show dq [_,_] < _;rw[e];omega
    ·show (bz (dq [_,_])).take 1=_;rw[e,qt,ki (x:=a) om];rfl
   ·have A:=a.toNat_lt;have E:=b.toNat_lt;have m:jv [a,b]=(a.toNat*256+b.toNat)*65536:=by show (a.toNat*256+b.toNat)*65536+0*256+0=_;omega
    rw[m];generalize y:(a.toNat*256+b.toNat)*65536=v;show fc l (UInt8.ofNat (33+v / 52200625 % 85)::UInt8.ofNat (33+v / 614125 % 85)::UInt8.ofNat (33+v / 7225 % 85)::[126,62]) [] out=_;rw[je (g _) dc,je (g _) sm,je (g _) sm];have e:dq [UInt8.ofNat (v / 52200625 % 85),UInt8.ofNat (v / 614125 % 85),UInt8.ofNat (v / 7225 % 85)]=v / 7225*7225+7224:=by
     rw[xm,gm (g _),gm (g _),gm (g _)];have z:v / 614125=v / 7225 / 85:=by rw[aoI]
     have q:v / 52200625=v / 7225 / 85 / 85:=by rw[aoI,aoI]
     rw[z,q];omega
    have i:v<=v / 7225*7225+7224:=om
    have k:v / 7225*7225+7224 < v+7225:=om
    generalize v / 7225*7225+7224=X at e i k;refine qu rfl sm ?_ hm ?_
    ·show dq [_,_,_] < _;rw[e];omega
    ·show (bz (dq [_,_,_])).take 2=_;rw[e,qt,ki (x:=a) om,ki (x:=b) om];rfl
   ·have A:=a.toNat_lt;have E:=b.toNat_lt;have K:=c.toNat_lt;have m:jv [a,b,c]=(a.toNat*256+b.toNat)*65536+c.toNat*256:=by show (a.toNat*256+b.toNat)*65536+c.toNat*256+0=_;omega
    rw[m];generalize y:(a.toNat*256+b.toNat)*65536+c.toNat*256=v;show fc l (UInt8.ofNat (33+v / 52200625 % 85)::UInt8.ofNat (33+v / 614125 % 85)::UInt8.ofNat (33+v / 7225 % 85)::UInt8.ofNat (33+v / 85 % 85)::[126,62]) [] out=_;rw[je (g _) dc,je (g _) sm,je (g _) sm,je (g _) sm];have e:dq [UInt8.ofNat (v / 52200625 % 85),UInt8.ofNat (v / 614125 % 85),UInt8.ofNat (v / 7225 % 85),UInt8.ofNat (v / 85 % 85)]=v / 85*85+84:=by
     rw[xl,gm (g _),gm (g _),gm (g _),gm (g _)];have F:v / 7225=v / 85 / 85:=by rw[aoI]
     have z:v / 614125=v / 85 / 85 / 85:=by rw[aoI,aoI]
     have q:v / 52200625=v / 85 / 85 / 85 / 85:=by rw[aoI,aoI,aoI]
     rw[F,z,q];omega
    have i:v<=v / 85*85+84:=om
    have k:v / 85*85+84 < v+85:=om
    generalize v / 85*85+84=X at e i k;refine qu rfl sm ?_ hm ?_
    ·show dq [_,_,_,_] < _;rw[e];omega
    ·show (bz (dq [_,_,_,_])).take 3=_;rw[e,qt,ki (x:=a) om,ki (x:=b) om,ki (x:=c) om];rfl
   ·simp at B
theorem aac {s:List UInt8}{most:Int}(hm:(s.length:Int)<=most)(a:s.length<=1048576):sj (mf s) most=(s,0):=
 qo hm a λm h=>by
  unfold mf;rw[xe m (s.length+1) s [] om (by simpa using h)];rfl
theorem aad {s:List UInt8}{most:Int}(hm:(s.length:Int)<=most)(a:s.length<=1048576):qw (me s) most=(s,0):=
 qo hm a λm h=>by
  unfold me;rw[qp m (s.length+1) s [] _ om (by simpa using h) (Nat.le_succ _)];rfl
end
end Go.Proofs.YtlipjfcbjemicaaGreatDoor




namespace Go.Proofs.YtlipjfcbjemicaaGreatDoor
variable{D:TypeId}{K:VWP}{M N:Eng.Mem}{P:Program}{PK:PKT}{W w:ao}{a colors:Int}{above key:List UInt8}{b cap f i j:Nat}{cb:Array Bool}{cs cur:List aq}{l:List Nat}{o:Ob}{pv v va vc vk:aq}{q:Bool}{x:Pm}{xo yo:Operand}{t0 t1:aq}{k0:Eng.KT}
section
open Eng Go.RowKit
namespace Ff
def yU (n s:List UInt8):List UInt8:=if full n=nHx then Oc.hex s++[62] else if full n=n85 then mf s else if full n=nRL then me s else []
def OneR (n:List UInt8)(x:Pm)(s t:List UInt8)(e:Int):Prop:=
 if full n=[] then t=[]∧e=15
 else if full n=nFl then (if dt x s=0 then e=0∧gk t 1048576=(du x s,0)∧t.length<=2*(du x s).length+16 else t=[]∧e=dt x s)
 else t=yU n s∧e=0
end Ff
theorem Ff.VF {n:List UInt8}{s t:List UInt8}{e:Int}(h:Ff.OneR n x s t e)(he:e=0)(b:s.length<=1048576):Ff.undo n x t=(s,0):=by
 unfold Ff.OneR at h;by_cases c:Ff.full n=[]
 ·rw[alH c] at h;rw[h.2] at he;cases he
 rw[alG c] at h;unfold Ff.undo;by_cases a:Ff.full n=Ff.nFl
 ·rw[alH a] at h;rw[alG (by rw[a];decide),alG (by rw[a];decide),alG (by rw[a];decide),alH a];by_cases hw:dt x s=0
  ·rw[alH hw] at h;have d:x.ok:=by
    refine Decidable.byContradiction λf=>?_;unfold dt at hw;rw[alH f] at hw;cases hw
   rw[alG (by simp[d])];simp only[h.2.1];rw[alG dc];exact (wo hw).1
  ·rw[alG hw] at h;rw[h.2] at he;exact absurd he hw
 ·rw[alG a] at h;obtain⟨rfl,_⟩:=h;have g:=Ff.DL n;rcases g with h|h|h|h|h
  ·have hp:Ff.yU n s=Oc.hex s++[62]:=by unfold Ff.yU;rw[alH h]
   rw[hp,alH h];exact Y0 om b
  ·have hp:Ff.yU n s=mf s:=by unfold Ff.yU;rw[alG (by rw[h];decide),alH h]
   rw[hp,alG (by rw[h];decide),alH h];exact aac om b
  ·have hp:Ff.yU n s=me s:=by unfold Ff.yU;rw[alG (by rw[h];decide),alG (by rw[h];decide),alH h]
   rw[hp,alG (by rw[h];decide),alG (by rw[h];decide),alH h];exact aad om b
  ·exact absurd h a
  ·exact absurd h c
theorem RQ:cO ah 121=true:=krx
theorem QY (b f:Nat)(s r:List UInt8)(M:Mem)(w:ao)(hp:cO ah f=av)(c:(Rb b f).is w)(a:M.has w)(h:RetM ah f #[.string ⟨s.toArray⟩] M w (λv _=>v=.string ⟨r.toArray⟩)) :
  RetM ah 171 #[.string ⟨s.toArray⟩,.pointer (ax ⟨b,0,aw⟩)] M w (λv _=>v=zlT (r,0)):=by
 refine bB a λK d=>Ca ?_;unfold xJ nz;rw[aJ nFnS (aI (T:=36) (cs:=[fnV f]) c (i:=0) rfl)];unfold fnV;refine Iq hp (bH (OwnS.memS a) 0 rfl h ?_);rintro _ N g g1 rfl e;exact d _ _ N _ 0 e rfl g1 rfl
theorem Vi (x:Pm)(f:PeR x)(s:List UInt8)(M:Mem)(w:ao)(c:M.has w)(g:s.length<=1000000000) :
  RetM ah 121 #[pmV x,.string ⟨s.toArray⟩] M w (λv _=>∃t e,v=zlT (t,e)∧if dt x s=0 then e=0∧gk t 1048576=(du x s,0)∧t.length<=2*(du x s).length+16 else t=[]∧e=dt x s):=by
 refine bB c λK d=>vX ?_;unfold oC nz;refine bA (λb=>.pointer (ax ⟨b,0,aw⟩)) (pmC x) 143 (λ_=>by kernel_rfl) (OwnS.memS c) λb2 i a=>?_;rw[aO Yc,l_at (T:=27) (v:=pmV x) (AtV.agg Kh (cs:=pmC x) rfl λj u k=>by rw[anF,alU];exact a.cell 0 rfl j k)];refine aM a (f s i g) ?_;rintro _ w2 rfl a;simp only[encT,ex,eS];by_cases hw:dt x s=0
 case neg=>
  simp only[alM (show dt x s≠0 from hw),i_t];exact d _ _ M _ 1 a rfl M.le_refl ⟨[],dt x s,rfl,by rw[alG hw];exact⟨rfl,rfl⟩⟩
 simp only[alJ (show ¬dt x s≠0 fromλh=>h hw),i_f,alH hw];refine bH a 1 rfl (Uu (du x s) M w2 (a.hasM 1 rfl) (wo hw).2) ?_;rintro _ N w3 g1 ⟨t,rfl,l,m⟩ a;simp only[ex];exact d _ _ N _ 1 a rfl g1 ⟨t,0,rfl,by rw[alH hw];exact⟨rfl,l,m⟩⟩
def OnA (n:List UInt8):Prop:=∀(f g:Nat),(Ff.full n=Ff.nHx∧f=114∧g=116)∨(Ff.full n=Ff.n85∧f=117∧g=118)∨(Ff.full n=Ff.nRL∧f=119∧g=120)->∀(s:List UInt8) (M:Mem) (w:ao),Pws M->s.length<=1000000->M.has w ->
 ∃_:cO ah f=av,¬Ff.full n=[]∧¬Ff.full n=Ff.nFl∧RetM ah f #[.string ⟨s.toArray⟩] M w (λv _=>v=.string ⟨(Ff.yU n s).toArray⟩)
theorem afP {n:List UInt8}(h:Ff.full n=Ff.nFl):OnA n:=by
 intro f g b;rcases b with ⟨a,_⟩|⟨a,_⟩|⟨a,_⟩<;>rw[h] at a<;>exact absurd a dc
theorem Za (n:List UInt8)(x:Pm)(F:PeR x)(G:OnA n)(s:List UInt8)(M:Mem)(w:ao)(q:Pws M)(C:M.has w)(H:s.length<=1000000) :
  RetM ah 17 #[.string ⟨n.toArray⟩,pmV x,.string ⟨s.toArray⟩] M w (λv _=>∃t e,v=zlT (t,e)∧Ff.OneR n x s t e):=by
 refine bB C λK d=>Hl ?_;unfold Eo nz;unfold Ff.OneR at d;refine H8 x (OwnS.memS C) λD J a=>?_;rw[pm_v a 0 rfl];have c:∀{p u:aq},p.oneCell'=av->u.oneCell'=av->∀y∈wyC p u,y.oneCell'=true:=by
  intro p u hp hu y E;simp only[wyC,alN,anA,or_false] at E;rcases E with rfl|rfl<;>assumption
 refine aeF a (λf g r l b2 w2 a=>?_) (λm w2 a=>?_) (λm w2 a=>?_)
 ·simp only[ex];refine bA (λb=>.pointer (ax ⟨b,0,aw⟩)) (wyC .nilFunc .nilFunc) 91 (λ_=>by kernel_rfl) a λo w3 a=>?_;refine gY 0 a rfl (new:=wyC (Cc l) (Dp b2)) szWy (c rfl rfl) rfl λi a=>?_;have a:OwnS M.A w i [wyE o (Cc l) (Dp b2),upE b2 g,Rb l f,pmE D x,.mem M]:=a;simp only[eS,show ai ((0:Int)≠0)=au from rfl,i_f];rw[iJ alV];simp only[rs,show ai ((1048576:Int) < (s.length:Int))=au from alJ om,i_f];rw[aO XC,aJ nFnW (a.cell 0 rfl 0 rfl)];have k:=a.hasM 4 rfl;have key:=G f g r s M i q H k;obtain⟨hp,j,z,key⟩:=key;simp only[alG j,alG z] at d;unfold Cc;refine Iq Rc (bH a 4 rfl (QY l f s _ M i hp (a.at_ 2 rfl) k key) ?_);rintro _ N I g1 rfl a;simp only[zlT,ex];exact d _ _ N _ 4 a rfl g1 ⟨_,_,rfl,rfl,rfl⟩
 ·have j:¬Ff.full n=[]:=by rw[m];decide
  simp only[alG j,alH m] at d;simp only[ex];refine bA (λb=>.pointer (ax ⟨b,0,aw⟩)) (wyC .nilFunc .nilFunc) 91 (λ_=>by kernel_rfl) a λo w3 a=>?_;refine gY 0 a rfl (new:=wyC (KG x) (tX x)) szWy (c rfl rfl) rfl λi a=>?_;have a:OwnS M.A w i [wyE o (KG x) (tX x),pmE D x,.mem M]:=a;simp only[eS];by_cases B:x.ok
  case neg=>
   have hw:dt x s=1:=by unfold dt;rw[alH B]
   simp only[hw,alG (show ¬(1:Int)=0 by decide)] at d;simp only[alG B,show ai ((1:Int)≠0)=av from rfl,i_t];exact d _ _ M _ 2 a rfl M.le_refl ⟨[],1,rfl,rfl,rfl⟩
  simp only[alH B,show ai ((0:Int)≠0)=au from rfl,i_f];rw[iJ alV];simp only[rs,show ai ((1048576:Int) < (s.length:Int))=au from alJ om,i_f];rw[aO XC,aJ nFnW (a.cell 0 rfl 0 rfl)];unfold KG;refine Iq RQ (bH a 2 rfl (Vi x F s M i (a.hasM 2 rfl) om) ?_);rintro _ N I g1 ⟨t,e,rfl,h⟩ a;simp only[zlT,ex];exact d _ _ N _ 2 a rfl g1 ⟨t,e,rfl,h⟩
 ·simp only[alH m] at d;simp only[ex];refine bA (λb=>.pointer (ax ⟨b,0,aw⟩)) (wyC .nilFunc .nilFunc) 91 (λ_=>by kernel_rfl) a λo w3 a=>?_;refine gY 0 a rfl (new:=wyC .nilFunc .nilFunc) szWy (c rfl rfl) rfl λi a=>?_;simp only[eS,show ai ((15:Int)≠0)=av from rfl,i_t];exact d _ _ M _ 2 a rfl M.le_refl ⟨[],15,rfl,rfl,rfl⟩
end
end Go.Proofs.YtlipjfcbjemicaaGreatDoor

namespace Go.Proofs.YtlipjfcbjemicaaGreatDoor
variable{D:TypeId}{K:VWP}{M N:Eng.Mem}{P:Program}{PK:PKT}{W w:ao}{a colors:Int}{above key:List UInt8}{b cap f i j:Nat}{cb:Array Bool}{cs cur:List aq}{l:List Nat}{o:Ob}{pv v va vc vk:aq}{q:Bool}{x:Pm}{xo yo:Operand}{t0 t1:aq}{k0:Eng.KT}
section
open Eng Go.RowKit
namespace Ff
def eN (p:Pm):Ob:=.mk 7 0 0 [] [FM,Fz,FG] [ob1 2 p.c 0 [],ob1 2 p.n 0 [],ob1 2 p.p 0 []]
theorem GH (n:Int)(d:Nat)(a:d<=24)(h:-2147483647<=n∧n<=2147483647):Vl.check d (ob1 2 n 0 [])=0:=
 Vl.jW.2 ⟨⟨a,rfl,(λe=>absurd e (show ¬((2:Int)=9) by decide)),(show ai (-2147483647<=n∧n<=2147483647)=av from alM h),(show (0:Nat)<=_ from amN _),(show (0:Nat)<=8191 by decide),rfl⟩,(λc b=>by cases b)⟩
def pmI (p:Pm):Prop:=(-2147483647<=p.p∧p.p<=2147483647)∧(-2147483647<=p.c∧p.c<=2147483647)∧(-2147483647<=p.n∧p.n<=2147483647)
theorem GP (p:Pm)(d:Nat)(b:d<=23)(h:pmI p):Vl.check d (eN p)=0:=by
 refine Vl.jW.2 ⟨⟨om,rfl,(λe=>absurd e (show ¬((7:Int)=9) by decide)),rfl,(show (0:Nat)<=_ from amN _),(show (3:Nat)<=8191 by decide),rfl⟩,λc a=>?_⟩;have a:c∈[ob1 2 p.c 0 [],ob1 2 p.n 0 [],ob1 2 p.p 0 []]:=a;simp only[alN,anA,or_false] at a;rcases a with rfl|rfl|rfl
 ·exact GH _ _ om h.2.1
 ·exact GH _ _ om h.2.2
 ·exact GH _ _ om h.1
theorem RI (p:Pm)(h:pmI p):Vl.dict [cA FM,ob1 2 p.c 0 [],cA Fz,ob1 2 p.n 0 [],cA FG,ob1 2 p.p 0 []]=(eN p,0):=by
 have e:Vl.dict [cA FM,ob1 2 p.c 0 [],cA Fz,ob1 2 p.n 0 [],cA FG,ob1 2 p.p 0 []]=Vl.right (eN p):=krx
 rw[e];unfold Vl.right;rw[GP p 1 dc h];rfl
theorem acN {p:Pm}(h:p≠zY):Pm.eqb p zY=false:=by
 cases d:Pm.eqb p zY with
|false=>rfl
|true=>
  unfold Pm.eqb at d;simp only[amB,amU] at d;obtain⟨a,b,c⟩:=p;exact absurd (by rw[show a=_ from d.1,show b=_ from d.2.1,show c=_ from d.2.2]) h
end Ff
section
variable {w:ao}{PK:PKT}{K:VWP}{S:Nat->Prop}{w0:ao}{L T:List Ent}
theorem agE (a c d e f g:Ob)(h:OwnS S w0 w L)(k:∀b w',OwnS S w0 w' (.cells b (obC a nilS nilS++obC c nilS nilS++obC d nilS nilS++obC e nilS nilS++obC f nilS nilS++obC g nilS nilS) 25::L)->K (.slice (ax ⟨b,0,aw⟩) 6 6) w') :
  DoX ah (bN 23 6 #[(0,obV a nilS nilS),(1,obV c nilS nilS),(2,obV d nilS nilS),(3,obV e nilS nilS),(4,obV f nilS nilS),(5,obV g nilS nilS)]) w PK K:=
 bA (λb=>.slice (ax ⟨b,0,aw⟩) 6 6) _ 25 (λ_=>by kernel_rfl) h k
end
theorem iD (N:Mem)(k n g:Int)(s:List UInt8):OV N.A N.w (obV (ob1 k n g s) nilS nilS) (ob1 k n g s):=
 ObAt.ov (o:=ob1 k n g s) (vk:=nilS) (vc:=nilS) (cs:=[]) ⟨SlA.nil _ _ _ _,SlA.nil _ _ _ _,.nil⟩
theorem QK (p:Pm)(hp:p≠Ff.zY)(hi:Ff.pmI p)(M:Mem)(w:ao)(i:M.has w):RetM ah 68 #[pmV p] M w (λr N=>∃v',r=errV v' 0∧OV N.A N.w v' (Ff.eN p)):=by
 refine bB i λK k=>Fm ?_;unfold Cb iN dx stx alx;refine H8 p (OwnS.memS i) λd z a=>?_;refine fO a λb2 w2 a=>?_;refine dK (λW=>OwnS M.A w W [obE b2 ob0 nilS nilS,pmE d p,.mem M]) a.drew ?_;refine q_at (pmV p) (λW h=>aW (h.agg 1 rfl Kh)) ?_;refine lO (pmV Ff.zY) (λW h=>(D4 W).mono λv w' ⟨l,m⟩=>⟨l,h.grow m⟩) ?_;refine q_do _ (λ_=>adC) ?_;intro w3 a;rw[Ff.acN hp,i_f];have a:=a.drew;refine⟨λW=>(pmE d p).is W,a.at_ 1 rfl,?_⟩;refine aR (.pointer (ax ⟨d,0+1,aw⟩)) (λ_=>bC K6) (jI (.int .i64 p.c) (λW h=>aB aU (aI (T:=27) (cs:=pmC p) h rfl)) ?_);refine aR (.pointer (ax ⟨d,0+2,aw⟩)) (λ_=>bC PA) (jI (.int .i64 p.n) (λW h=>aB aU (aI (T:=27) (cs:=pmC p) h rfl)) ?_);refine aR (.pointer (ax ⟨d,0+0,aw⟩)) (λ_=>bC XO) (jI (.int .i64 p.p) (λW h=>aB aU (aI (T:=27) (cs:=pmC p) h rfl)) ?_);refine aM a (iH Ff.FM _) ?_;rintro _ B rfl a;refine⟨a.at_ 1 rfl,?_⟩;refine aM a (pR p.c _) ?_;rintro _ C rfl a;refine⟨a.at_ 1 rfl,?_⟩;refine aM a (iH Ff.Fz _) ?_;rintro _ D rfl a;refine⟨a.at_ 1 rfl,?_⟩;refine aM a (pR p.n _) ?_;rintro _ E rfl a;refine⟨a.at_ 1 rfl,?_⟩;refine aM a (iH Ff.FG _) ?_;rintro _ F rfl a;refine⟨a.at_ 1 rfl,?_⟩;refine aM a (pR p.p _) ?_;rintro _ G rfl a;refine⟨a.at_ 1 rfl,?_⟩;refine agE (Ff.cA Ff.FM) (ob1 2 p.c 0 []) (Ff.cA Ff.Fz) (ob1 2 p.n 0 []) (Ff.cA Ff.FG) (ob1 2 p.p 0 []) a λb g a=>?_;refine⟨a.at_ 2 rfl,?_⟩;obtain⟨N,hle,e,a⟩:=OwnS.bJ (L:=[obE b2 ob0 nilS nilS,pmE d p,.mem M]) (a.toU 6 6 6 rfl om om) 2 rfl;refine bH a 2 rfl (Vg [Ff.cA Ff.FM,ob1 2 p.c 0 [],Ff.cA Ff.Fz,ob1 2 p.n 0 [],Ff.cA Ff.FG,ob1 2 p.p 0 []] _ _ N g (Nat.le_of_ble_eq_true krx) (a.hasM 2 rfl) e
  (eH (eH (eH (eH (eH (oG (iD N 5 0 0 Ff.FM)) (oG (iD N 2 p.c 0 []))) (oG (iD N 5 0 0 Ff.Fz))) (oG (iD N 2 p.n 0 []))) (oG (iD N 5 0 0 Ff.FG))) (oG (iD N 2 p.p 0 [])))) ?_
 rw[Ff.RI p hi];rintro _ o q s ⟨H,rfl,j⟩ a;obtain⟨t,u,x,rfl,f⟩:=j.open;refine⟨a.at_ 1 rfl,?_⟩;unfold errV;refine aR (obV (Ff.eN p) t u) (λ_=>by kernel_rfl) (aR (.int .i64 0) (λ_=>by kernel_rfl) ?_);refine bK 0 f.keys.one f.kids.one a rfl λy a=>?_;exact fE 0 a rfl (k _ _ o _ 2 a rfl (hle.trans s) ⟨_,rfl,j⟩)
theorem RW (n:List UInt8)(p:Pm)(vn vp:aq)(M:Mem)(w:ao)(t:Ff.full n=Ff.nFl)(u:M.has w)(k:SlA M.A M.w vn 1 [n].length (bZ [n]))(hp:SlA M.A M.w vp 3 1 (pmC p)) :
  RetM ah 67 #[vn,vp] M w (λr N=>∃va v,r=.tuple #[va,v,.int .i64 0]∧SlA N.A N.w va 1 [Ff.nFl].length (bZ [Ff.nFl])∧SlA N.A N.w v 3 [p].length ([p].flatMap pmC)):=by
 refine bB u λK B=>Hm ?_;unfold EU nz;have a:OwnS M.A w w [.mem M]:=OwnS.memS u;rw[zG k];simp only[rs,show ai ((8:Int) < (([n].length:Nat):Int))=au from rfl,i_f];rw[zG k];have a:=OwnS.nilU a 9 1;refine loop (λvs W=>∃(i:Nat) (ov:aq),vs=[ov,.int .i64 (i:Int)]∧i<=1∧OwnS M.A w W [stsE ov (([n].take i).map Ff.full),.mem M]) (λvs _=>1 - n1 vs) ⟨0,nilS,rfl,om,a⟩ ?_;clear a;rintro vs l ⟨i,ov,rfl,hi,a⟩ _;simp only[A8,gd,rs,nz];by_cases c:(i:Int) < (([n].length:Nat):Int)
 ·simp only[c,alK,i_t];have f:i < [n].length:=by have:(i:Int) < 1:=c;show i < 1;omega
  obtain⟨q,h,j⟩:=Mf k f;rw[aD (h l),aD (j l (a.hasM 1 rfl))];have m:i=0:=by have:i < 1:=f;omega
  subst m;refine c_eq (Hj n l) ?_;simp only[ex,rs,alM (show Ff.full n≠[] by rw[t];decide),anH,i_f];refine UT _ a sm λo E a=>?_
  try simp only[rs]
  exact aY ⟨1,o,rfl,om,a⟩ (by show (0:Nat) < 1;decide)
 simp only[c,alL,i_f];have:i=1:=by have:¬(i:Int) < 1:=c;omega
 subst this;obtain⟨N1,x,d,a⟩:=a.bJ 0 rfl;have a:OwnS M.A w l [.mem N1]:=a;have d:SlA N1.A N1.w ov 1 [Ff.nFl].length (bZ [Ff.nFl]):=by
  have e:([n].take 1).map Ff.full=[Ff.nFl]:=by simp[t]
  rw[e] at d;exact d
 have g:=hp.le x;rw[bE aqY (g.now (a.hasM 0 rfl))];simp only[rs,show ai (((1:Nat):Int)≠0)=av from rfl,i_t];rw[bE aqY (g.now (a.hasM 0 rfl)),zG k];simp only[rs,show ai (((1:Nat):Int)≠(([n].length:Nat):Int))=au from rfl,i_f];refine bA (λb=>.slice (ax ⟨b,0,aw⟩) 0 0) [] 27 (λ_=>by kernel_rfl) a λb3 w2 a=>?_;have a:=OwnS.toU a (sz:=3) (n:=0) (cap:=0) rfl (alP _) dc;have a:OwnS M.A w w2 [pmsE (.slice (ax ⟨b3,0,aw⟩) 0 0) [],.mem N1]:=a;refine bR 0 aqY elPm dc a rfl (g.now (a.hasM 1 rfl)) Gj dc dc λva w3 a=>?_;have a:OwnS M.A w w3 [pmsE va [p],.mem N1]:=a;rw[zG d];refine loop (λvs W=>∃(i:Nat),vs=[va,.int .i64 (i:Int)]∧i<=1∧OwnS M.A w W [pmsE va [p],.mem N1]) (λvs _=>1 - n1 vs) ⟨0,rfl,om,a⟩ ?_;clear a;rintro vs y ⟨i,rfl,hi,a⟩ _;simp only[AA,gd,rs,nz];by_cases c:(i:Int) < (([Ff.nFl].length:Nat):Int)
 ·simp only[c,alK,i_t];have f:i < [Ff.nFl].length:=by have:(i:Int) < 1:=c;show i < 1;omega
  obtain⟨q,h,j⟩:=Mf d f;rw[aD (h y),aD (j y (a.hasM 1 rfl))];have m:i=0:=by have:i < 1:=f;omega
  subst m;refine join λJ C=>?_;rw[bE aqY (g.now (a.hasM 1 rfl))];simp only[rs,show ai (((1:Nat):Int)=0)=au from rfl,i_f];refine C _ _ λ_=>?_;simp only[Ak,gd,nz];refine dK (λW=>OwnS M.A w W [pmsE va [p],.mem N1]) a.drew ?_;rw[show (Value.string ⟨#[70,108,97,116,101,68,101,99,111,100,101]⟩)=.string ⟨Ff.nFl.toArray⟩ from rfl];refine abH ?_;rw[show ai ([Ff.nFl][0]≠Ff.nFl)=au from rfl];simp only[gq,D5];refine q_pf ?_;intro F a;rw[i_f,Mq,aA om om];exact aY ⟨1,rfl,om,a⟩ (by show (0:Nat) < 1;decide)
 simp only[c,alL,i_f];obtain⟨D,z,s,a⟩:=a.bJ 0 rfl;exact B _ _ D _ 0 a rfl (x.trans z) ⟨ov,va,rfl,d.le z,s⟩
end
section
open Eng Go.RowKit
namespace Cs
abbrev mV:List UInt8:=[84,121,112,101]
abbrev xP:List UInt8:=[88,82,101,102]
abbrev iX:List UInt8:=[83,105,122,101]
abbrev kW:List UInt8:=[87]
abbrev gJ:List UInt8:=[73,110,100,101,120]
abbrev qT:List UInt8:=[80,114,101,118]
def intO (n:Int):Ob:=ob1 2 n 0 []
def arrO (l:List Int):Ob:=.mk 6 0 0 [] [] (l.map intO)
def flat (l:List (Int×Int)):List Int:=l.flatMap λr=>[r.1,r.2]
def size (l:List (Int×Int)):Int:=match l.getLast? with|some r=>r.1+r.2|none=>0
def bF (x:Sec):List (List UInt8×Ob):=
 [(mV,Ff.cA xP),(iX,intO (size (Tl.runs x.aG))),(kW,arrO [1,(wa x.aG:Nat),(wb x.aG:Nat)]),(gJ,arrO (flat (Tl.runs x.aG)))]++if 0<=x.prev then [(qT,intO x.prev)] else []
def mI:Ob->List (List UInt8×Ob)->Ob×Int
|o,[]=>(o,0)
|o,p::r=>if (Vl.set o p.1 p.2).2≠0 then (Vl.ob0,(Vl.set o p.1 p.2).2) else mI (Vl.set o p.1 p.2).1 r
def dict (x:Sec):Ob×Int:=mI (sS x.trailer) (bF x)
def row (l:List (List UInt8×Ob)):List Ob:=l.flatMap λp=>[Ff.cA p.1,p.2]
theorem MU:∀l:List (List UInt8×Ob),(row l).length=2*l.length
|[]=>rfl
|p::l=>by
  have:=MU l;show ((row l).length+1)+1=_;rw[amC];omega
theorem Uf:∀{l:List (List UInt8×Ob)} {i:Nat} (hi:i < l.length) (h:2*i+1 < (row l).length),(row l)[2*i]'(om)=Ff.cA l[i].1∧(row l)[2*i+1]=l[i].2
|p::l,0,_,_=>⟨rfl,rfl⟩
|p::l,i+1,hi,h=>by
  have a:i < l.length:=by simpa using hi
  have e:row (p::l)=Ff.cA p.1::p.2::row l:=rfl;have c:2*i+1 < (row l).length:=by rw[MU];omega
  have:=Uf a c;constructor
  ·have b:(row (p::l))[2*(i+1)]?=ax (Ff.cA l[i].1):=by
    rw[e,show 2*(i+1)=(2*i)+1+1 by omega,amS,amS,alT om,this.1]
   have:=alY.1 b;exact this.2
  ·have b:(row (p::l))[2*(i+1)+1]?=ax l[i].2:=by
    rw[e,show 2*(i+1)+1=(2*i+1)+1+1 by omega,amS,amS,alT om,this.2]
   have:=alY.1 b;exact this.2
theorem Gx:∀(l:List (List UInt8×Ob)) (o:Ob) (n:Nat),(∀p∈l,p.1.length<=10∧p.2.wt<=n)->(mI o l).1.wt<=o.wt+(n+11)*l.length+6
|[],o,n,_=>by show o.wt<=_;omega
|p::r,o,n,h=>by
  have hp:=h p (amV ..);have b:=Vl.Mb o p.1 p.2;have c:=Gx r (Vl.set o p.1 p.2).1 n λq a=>h q (amG _ a);unfold mI;rw[amC,Nat.mul_add];split
  ·show (6:Nat)<=_;omega
  ·omega
end Cs
theorem afR {l:List (Int×Int)}(a:SlA M.A M.w v 2 l.length (rnsC l))(hi:i < l.length) :
  ∃p,(∀W,(mIA 116 v (.int .i64 (i:Int))).run ah W=.ok (.value (.pointer (ax p))) W)∧∀W,M.has W->(aH 135 (.pointer (ax p))).run ah W=.ok (.value (rnV l[i])) W:=by
 obtain⟨b,off,cap,rfl,_⟩:=bX a.1 om;refine⟨⟨b,off+i*2,aw⟩,λW=>?_,λW e=>?_⟩
 ·have:=dY (P:=ah) (T:=116) (b:=b) (off:=off) (cap:=cap) (n:=l.length) (k:=.i64) (i:=(i:Int)) (w:=W) arS szRn om om;rw[alQ] at this;exact this
 ·obtain⟨h,c,d,he,f⟩:=bX (a.now e) om;cases he;refine aW (AtV.agg aeH (cs:=rnC l[i]) rfl λj u g=>?_);rw[anX];exact f _ _ (Eng.pI Nw hi g)
def intC (n:Int):List Value:=obC (Cs.intO n) nilS nilS
def RF (l:List Int):List Value:=l.flatMap intC
theorem JL (N:Mem):∀l:List Int,OVs N.A N.w (RF l) (l.map Cs.intO)
|[]=>.nil
|n::l=>eH (oG (iD N 2 n 0 [])) (JL N l)
abbrev inR (v:aq)(l:List Int):Ent:=.urow 25 6 v l.length (RF l)
section
variable {w:ao}{PK PK2:PKT}{K:VWP}{S:Nat->Prop}{w0:ao}{L T:List Ent}
theorem o_rn (a:OwnS S w0 w L)(k:∀b w',OwnS S w0 w' (.cells b (rnC (0,0)) 135::L)->K (.pointer (ax ⟨b,0,aw⟩)) w'):DoX ah (iL 135) w PK K:=
 bA (λb=>.pointer (ax ⟨b,0,aw⟩)) (rnC (0,0)) 135 (λ_=>by kernel_rfl) a k
theorem YK (j:Nat){x y:Int×Int}(a:OwnS S w0 w L)(hi:L[j]?=ax (.cells b (rnC x) 135))(k:∀w',OwnS S w0 w' (L.set j (.cells b (rnC y) 135))->K undef w') :
  DoX ah (aN 135 (.pointer (ax ⟨b,0,aw⟩)) (rnV y)) w PK K:=gY j a hi (new:=rnC y) szRn (TX y) rfl k
theorem ahP {d:Int}(c:OwnS S w0 w L)(k:∀b w',OwnS S w0 w' (.cells b (w3C a d) 71::L)->K (.pointer (ax ⟨b,0,aw⟩)) w'):DoX ah (mBox 71 (w3V a d)) w PK K:=
 bA (λb=>.pointer (ax ⟨b,0,aw⟩)) (w3C a d) 71 (λ_=>by kernel_rfl) c k
theorem akZ {d:Int}(hi:i < 3):DoX ah (mIx 71 (w3V a d) (.int .i64 (i:Int))) w PK K=K (.int .i64 ([1,a,d].getD i 0)) w:=by
 rcases (by omega:i=0∨i=1∨i=2) with rfl|rfl|rfl<;>exact aD krx
theorem ajO (i:Nat){l:List Int}{n:Int}(a:OwnS S w0 w L)(hi:L[i]?=ax (inR v l))(c:l.length<=1000000000)(k:∀v' w',OwnS S w0 w' (L.set i (inR v' (l++[n])))->K v' w') :
  DoX ah (bN 23 1 #[(0,obV (Cs.intO n) nilS nilS)]) w PK λt w=>DoX ah (mB .append #[23,23] 23 cb #[v,t]) w PK2 K:=by
 refine bA (λb=>.slice (ax ⟨b,0,aw⟩) 1 1) (intC n) 25 (λ_=>by kernel_rfl) a λnb d a=>?_;refine QQ (i+1) a (by rw[amS];exact hi) (a.sl 0 rfl 6 1 1 rfl) (kZ _ rfl rfl) om λv' w2 a=>k v' w2 ?_;have e:inR v' (l++[n])=.urow 25 6 v' (l.length+1) (RF l++intC n):=by
  unfold inR RF;rw[alI,aoQ,apQ];rfl
 rw[e];exact a.tail
theorem ajS (i:Nat){l:List Int}{n m:Int}(a:OwnS S w0 w L)(hi:L[i]?=ax (inR v l))(c:l.length<=1000000000)(k:∀v' w',OwnS S w0 w' (L.set i (inR v' (l++[n,m])))->K v' w') :
  DoX ah (bN 23 2 #[(0,obV (Cs.intO n) nilS nilS),(1,obV (Cs.intO m) nilS nilS)]) w PK λt w=>DoX ah (mB .append #[23,23] 23 cb #[v,t]) w PK2 K:=by
 refine bA (λb=>.slice (ax ⟨b,0,aw⟩) 2 2) (intC n++intC m) 25 (λ_=>by kernel_rfl) a λnb d a=>?_;refine QQ (i+1) a (by rw[amS];exact hi) (a.sl 0 rfl 6 2 2 rfl) (λu hu=>?_) om λv' w2 a=>k v' w2 ?_
 ·rcases amK.1 hu with h|h<;>exact kZ _ rfl rfl u h
 ·have e:inR v' (l++[n,m])=.urow 25 6 v' (l.length+2) (RF l++(intC n++intC m)):=by
   unfold inR RF;rw[alI,aoQ];rfl
  rw[e];exact a.tail
theorem ajH {n:Int}{a c d e:aq}{f g:Ob}(h:OwnS S w0 w L)
  (k:∀b w',OwnS S w0 w' (.cells b (obC (Ff.cA Cs.mV) nilS nilS++obC (Ff.cA Cs.xP) nilS nilS++obC (Ff.cA Cs.iX) nilS nilS++intC n++obC (Ff.cA Cs.kW) nilS nilS++obC f a c++obC (Ff.cA Cs.gJ) nilS nilS++obC g d e) 25::L)->K (.slice (ax ⟨b,0,aw⟩) 8 8) w') (i:a.oneCell'=av) (j:c.oneCell'=av) (l:d.oneCell'=av) (m:e.oneCell'=av) :
  DoX ah (bN 23 8 #[(0,obV (Ff.cA Cs.mV) nilS nilS),(1,obV (Ff.cA Cs.xP) nilS nilS),(2,obV (Ff.cA Cs.iX) nilS nilS),(3,obV (Cs.intO n) nilS nilS),(4,obV (Ff.cA Cs.kW) nilS nilS),(5,obV f a c),(6,obV (Ff.cA Cs.gJ) nilS nilS),(7,obV g d e)]) w PK K:=
 bA (λb=>.slice (ax ⟨b,0,aw⟩) 8 8) _ 25 (λ_=>by kernel_rfl) h k
end
end
section
open Go Eng
namespace Tl
theorem JD:∀{l:List Slt} {last:Option Int},yR last l=0->∀x∈l,okS x=0
|y::l,last,h,x,b=>by
  unfold yR at h;by_cases a:okS y≠0
  ·rw[alH a] at h;exact absurd h a
  rw[alG a] at h;split at h
  ·cases h
  split at h
  ·cases h
  rcases alN.1 b with rfl|b
  ·exact aoP.1 a
  ·exact JD h x b
theorem wG {l:List Slt}(h:check l=0):∀x∈l,okS x=0:=JD h
theorem MH {x:Slt}(h:okS x=0):(0<=x.num∧x.num<=8191)∧(0<=x.kind∧x.kind<=2)∧(0<=x.a∧x.a<=2147483647)∧(0<=x.b∧x.b<=65535):=by
 unfold okS at h;split at h
 ·cases h
 split at h
 ·cases h
 split at h
 ·split at h
  ·cases h
  ·omega
 ·split at h
  ·cases h
  ·omega
theorem Hs {l:List Slt}(h:check l=0):∀r∈runs l,0<=r.1∧r.1<=8191∧0<=r.2∧r.2<=l.length:=by
 intro r e;obtain⟨g,b,rfl⟩:=amM.1 e;obtain⟨d,f⟩:=wF l;obtain⟨c,_⟩:=f g b;have a:∀x∈g,x∈l:=λx i=>by rw[<-d];exact List.mem_flatten.2 ⟨g,b,i⟩
 have hlen:g.length<=l.length:=by
  rw[<-d];exact (List.sublist_flatten_of_mem b).length_le
 cases g with
|nil=>exact absurd rfl c
|cons x g=>
  have:=MH (wG h x (a x (amV ..)));show 0<=x.num∧x.num<=8191∧(0:Int)<=((x::g).length:Int)∧((x::g).length:Int)<=_;omega
end Tl
theorem VL {l:List Slt}(h:Tl.check l=0):Nq l:=λx a=>by
 have:=Tl.MH (Tl.wG h x a);omega
namespace Cs
def mT (s:Slt)(a b:Nat):List UInt8:=num s.kind 1++num s.a a++num s.b b
def sX (l:List Slt)(a b:Nat):List UInt8:=l.flatMap λs=>mT s a b
def rows (l:List Slt):List UInt8:=sX l (wa l) (wb l)
def pm (l:List Slt):Pm:=⟨12,1,1+(wa l:Nat)+(wb l:Nat)⟩
theorem He (s:Slt)(a b:Nat):(mT s a b).length=1+a+b:=by unfold mT;rw[alI,alI,jP,jP,jP]
theorem sG (a b:Nat):∀l:List Slt,(sX l a b).length=l.length*(1+a+b)
|[]=>by simp[sX]
|s::l=>by
  show (mT s a b++sX l a b).length=_;rw[alI,He,sG a b l,amC,anS];omega
theorem JQ (l:List Slt):wa l<=4:=afM _
theorem KS (l:List Slt):wb l<=4:=afM _
theorem ZO (l:List Slt):(pm l).ok:=by
 have a:=JQ l;have b:=KS l;refine⟨.inr (.inr (by show (10:Int)<=12∧(12:Int)<=15;decide)),by show (1:Int)<=1;decide,?_,by show (1:Int)<=8192;decide,?_⟩
 ·show (1:Int)<=1+(wa l:Nat)+(wb l:Nat);omega
 ·show (1:Int)*(1+(wa l:Nat)+(wb l:Nat))<=8192;omega
theorem ajL (l:List Slt):pm l≠Ff.zY:=λh=>by
 have:=congrArg Pm.p h;exact absurd this (by show ¬(12:Int)=1;decide)
theorem pm_I (l:List Slt):Ff.pmI (pm l):=by
 have a:=JQ l;have b:=KS l;refine⟨by show (-2147483647:Int)<=12∧(12:Int)<=2147483647;decide,by show (-2147483647:Int)<=1∧(1:Int)<=2147483647;decide,?_⟩;refine⟨?_,?_⟩
 ·show -2147483647<=(1:Int)+(wa l:Nat)+(wb l:Nat);omega
 ·show (1:Int)+(wa l:Nat)+(wb l:Nat)<=2147483647;omega
theorem Ua (l:List Slt):((pm l).c*(pm l).n).toNat=1+wa l+wb l:=by
 show ((1:Int)*(1+(wa l:Nat)+(wb l:Nat))).toNat=_;omega
theorem FR {l:List Slt}(a:l.length<=8192):dt (pm l) (rows l)=0:=by
 have c:=JQ l;have d:=KS l;have b:(rows l).length=l.length*(1+wa l+wb l):=sG _ _ l;have hle:l.length*(1+wa l+wb l)<=8192*9:=aoR a om;unfold dt;rw[Ua,b,alG (λh=>h (ZO l)),alG om,alG (by show ¬(12:Int)=1;decide),alG (by rw[Nat.mul_mod_left];simp),alG];rintro⟨_,h⟩;rw[Nat.mul_div_cancel _ om] at h;omega
theorem FQ {l:List Slt}(a:l.length<=8192):(du (pm l) (rows l)).length<=90000:=by
 have c:=JQ l;have d:=KS l;have b:(rows l).length=l.length*(1+wa l+wb l):=sG _ _ l;unfold du;rw[alG (by show ¬(12:Int)=1;decide),Ua,qc om (by unfold Pm.head;split<;>simp) l.length _ (rows l) [] b om];have e:(pm l).head<=1:=by unfold Pm.head;split<;>omega
 calc l.length*(1+wa l+wb l+(pm l).head)<=8192*10:=aoR a om
  _<=90000:=dc
theorem Qk (o:Ob):(sS o).wt<=o.wt*3+100:=by
 have w:(ofL []).wt=6:=rfl;unfold sS;split
 ·omega
 have f:∀k:List UInt8,((Vl.get o k).getD Vl.ob0).wt<=o.wt:=λk=>Vl.Yw;have g:∀a:List (List UInt8),(∀k∈a,k.length<=10)->(ofL (has o a)).wt<=6+(o.wt+11)*a.length:=by
  intro a
  induction a with
 |nil=>intro _;show (6:Nat)<=_;omega
 |cons k a c=>
   intro d;have c:=c λq i=>d q (amG _ i);have x:=d k (amV ..);have b:=f k;rw[amC,Nat.mul_add];cases h:Vl.get o k with
  |none=>
    have e:has o (k::a)=has o a:=by unfold has;rw[List.filterMap_cons,h];rfl
    rw[e];omega
  |some v=>
    rw[h] at b;have e:has o (k::a)=(k,v)::has o a:=by unfold has;rw[List.filterMap_cons,h];rfl
    have j:=Vl.lC (ofL ((k,v)::has o a));have l:=Vl.lC (ofL (has o a));have m:(ofL ((k,v)::has o a)).keys=k::(ofL (has o a)).keys:=rfl;have n:(ofL ((k,v)::has o a)).kids=v::(ofL (has o a)).kids:=rfl;have p:(ofL ((k,v)::has o a)).s=[]:=rfl;have r:(ofL (has o a)).s=[]:=rfl;have t:Pl.tot (k::(ofL (has o a)).keys)=k.length+1+Pl.tot (ofL (has o a)).keys:=by simp[Pl.tot]
    have u:Ob.wts (v::(ofL (has o a)).kids)=v.wt+Ob.wts (ofL (has o a)).kids:=rfl;rw[e];rw[m,n,p,t,u] at j;rw[r] at l;have b:v.wt<=o.wt:=b;omega
 have:=g bw dc;rw[show bw.length=3 from rfl] at this;omega
theorem Xz {k:List UInt8}{v:Ob}(h:(Vl.set o k v).2=0):(Vl.set o k v).1.k=o.k:=by
 unfold Vl.set at h ⊢;split
 ·rename_i b;rw[alH b] at h;cases h
 rename_i b
 rw[alG b] at h;split
 ·rename_i a;rw[alH a] at h;exact absurd h a
 rename_i a
 rw[alG a] at h;split
 ·rfl
 rename_i d
 rw[alG d] at h;unfold Vl.right at h ⊢;split
 ·rename_i c;rw[alH c] at h;exact absurd h c
 ·rfl
theorem GR:∀{l:List (List UInt8×Ob)} {o:Ob},(mI o l).2=0->(mI o l).1.k=o.k
|[],o,_=>rfl
|p::r,o,h=>by
  unfold mI at h ⊢;by_cases a:(Vl.set o p.1 p.2).2≠0
  ·rw[alH a] at h;exact absurd h a
  rw[alG a] at h ⊢;rw[GR h,Xz (aoP.1 a)]
theorem Le {x:Sec}(h:(dict x).2=0):(dict x).1.k=7:=by
 unfold dict at h ⊢;rw[GR h];unfold sS;split<;>rfl
end Cs
end
section
open Go Eng
namespace Vl
theorem Bi (o:Ob)(key:List UInt8):(∀k∈(aQ o key).keys,k∈o.keys)∧(aQ o key).kids.length<=o.kids.length:=⟨λk h=>(zX key o.keys o.kids).subset h,(zW key o.keys o.kids).length_le⟩
theorem ZQ (h:key ∉ o.keys):get o key=none:=by
 unfold get;split
 ·rw[alG (λa=>h (atS.1 a))]
 ·rfl
theorem K9 {v:Ob}(p:check 1 o=0)(q:keyed o=av)(r:name key=av)(hL:o.k=9->key≠lenK)(s:v.k≠0)(d:check 2 v=0)(D:o.kids.length<=8190):check 1 (put o key v)=0:=by
 obtain⟨⟨t,a2,a3,a4,a5,E,f⟩,a⟩:=jW.1 p;have b:o.k=7∨o.k=9:=by simpa[keyed] using q
 have u:rising o=true:=by
  unfold form at f;simp only[amB,apC,aqQ,apG] at f;rcases f.2 with h|h
  ·exact absurd b h
  ·exact h
 obtain⟨w,x,y,z⟩:=nP.1 u;obtain⟨A,B⟩:=Ku (key:=key) (v:=v) x w;obtain⟨C,m,F⟩:=Ps.Z9 (o:=o) (v:=v) (key:=key);have n:(put o key v).k=o.k:=rfl;refine jW.2 ⟨⟨t,?_,a3,a4,a5,om,?_⟩,λc g=>?_⟩
 ·unfold pN at a2 ⊢;rw[n];rcases b with e|e
  ·rw[e] at a2 ⊢;simp[used] at a2 ⊢;exact a2
  ·rw[e] at a2 ⊢;simp[used] at a2 ⊢;exact a2
 ·have i:rising (put o key v)=true:=nP.2 ⟨B,A,λk j=>by
   rcases C k j with rfl|e
   ·exact⟨r,λh=>hL h⟩
   ·exact y k e,λc l=>by
   rcases m c l with rfl|e
   ·exact s
   ·exact z c e⟩
  unfold form;rw[n,i];rcases b with e|e<;>rw[e]<;>rfl
 ·rcases m c g with rfl|e
  ·exact d
  ·exact a c e
end Vl
namespace Ff
theorem aaE {n:List UInt8}:Vl.name (full n)=true:=by
 rcases DL n with e|e|e|e|e<;>rw[e]<;>decide
theorem GW (n:List UInt8)(d:Nat)(b:d<=24):Vl.check d (cA (full n))=0:=by
 have a:=aaE (n:=n);refine Vl.jW.2 ⟨⟨b,rfl,(λe=>absurd e (show ¬((5:Int)=9) by decide)),rfl,?_,(show (0:Nat)<=8191 by decide),?_⟩,(λc f=>by cases f)⟩
 ·unfold Vl.name at a;simp only[amB,amU] at a;exact a.1
 ·show ((!(ai ((5:Int)=5))||Vl.name (full n))&&_)=av;rw[a];rfl
end Ff
end
section
open Go Eng
namespace Ff
theorem Pu {D:List UInt8}(h:(plain o D).2=0)(d:D.length<=1048576):(plain o D).1.k=9∧(plain o D).1.s=D∧Vl.check 1 (plain o D).1=0∧aX ∉ (plain o D).1.keys∧cL ∉ (plain o D).1.keys∧(plain o D).1.kids.length<=o.kids.length:=by
 unfold plain at h ⊢;by_cases b:o.k≠9∧o.k≠7
 ·rw[alH b] at h;cases h
 rw[alG b] at h ⊢;by_cases a:Vl.check 1 (nL o)≠0
 ·rw[alH a] at h;exact absurd h a
 rw[alG a];have a:=aoP.1 a;have e:Vl.keyed (nL o)=true:=rfl;have f:=Vl.gM (key:=aX) a e;have g:=Vl.gM (key:=cL) f rfl;have s1:=Vl.Bi (nL o) aX;have s2:=Vl.Bi (Vl.aQ (nL o) aX) cL;have c:=Vl.Bi (Vl.aQ (Vl.aQ (nL o) aX) cL) Vl.lenK;have i:aX ∉ (Vl.aQ (nL o) aX).keys:=Vl.yQ aX _ _;have j:cL ∉ (Vl.aQ (Vl.aQ (nL o) aX) cL).keys:=Vl.yQ cL _ _;have l:(nL o).kids.length=o.kids.length:=rfl;refine⟨rfl,rfl,Bd.IW g rfl d,λhm=>i (s2.1 _ (c.1 _ hm)),λhm=>j (c.1 _ hm),?_⟩;show (Vl.aQ (Vl.aQ (Vl.aQ (nL o) aX) cL) Vl.lenK).kids.length<=_;omega
theorem PL (o:Ob)(D:List UInt8):(plain o D).1.wt<=o.wt+D.length:=by
 have d:=Vl.lC o;unfold plain;split
 ·show (6:Nat)<=_;omega
 split
 ·show (6:Nat)<=_;omega
 ·have f:=QA o;have g:=Vl.jA (nL o) aX;have a:=Vl.jA (Vl.aQ (nL o) aX) cL;have h:=Vl.jA (bare o) Vl.lenK;have b:=Vl.lC (Bd.strm (bare o) D);have i:=Vl.lC (Vl.aQ (bare o) Vl.lenK);have e:bare o=Vl.aQ (Vl.aQ (nL o) aX) cL:=rfl;rw[<-e] at a;have c:(Bd.strm (bare o) D).s=D:=rfl;have a2:(Bd.strm (bare o) D).keys=(Vl.aQ (bare o) Vl.lenK).keys:=rfl;have a3:(Bd.strm (bare o) D).kids=(Vl.aQ (bare o) Vl.lenK).kids:=rfl;rw[c,a2,a3] at b;show (Bd.strm (bare o) D).wt<=_;omega
end Ff
end
section
open Eng Go.RowKit
namespace Ff
def encF (o:Ob)(p:Pm)(D:List UInt8):Ob×Int:=
 if (plain o D).2≠0 then plain o D
 else if (Vl.set (plain o D).1 aX (cA nFl)).2≠0 then (Vl.ob0,(Vl.set (plain o D).1 aX (cA nFl)).2)
 else if (Vl.set (Vl.set (plain o D).1 aX (cA nFl)).1 cL (eN p)).2≠0 then (Vl.ob0,(Vl.set (Vl.set (plain o D).1 aX (cA nFl)).1 cL (eN p)).2)
 else ((Vl.set (Vl.set (plain o D).1 aX (cA nFl)).1 cL (eN p)).1,0)
end Ff
theorem TO (o:Ob)(v:aq)(n:List UInt8)(p:Pm)(vn vp:aq)(data:List UInt8)(M:Mem)(w:ao)(c5:Pws M)(hk:o.k=9∨o.k=7)(hf:Ff.full n=Ff.nFl)(hp:p≠Ff.zY)(c6:Ff.pmI p)(b5:dt p data=0)(c7:data.length<=1000000)
  (hw:o.wt<=100000000) (hx:∀D,Ff.OneR Ff.nFl p data D 0->D.length<=1000000∧(Ff.plain o D).1.wt<=1000000000) (hM:M.has w) (hv:OV M.A M.w v o) (hn:SlA M.A M.w vn 1 [n].length (bZ [n])) (c8:SlA M.A M.w vp 3 1 (pmC p)) :
  RetM ah 22 #[v,vn,vp,.string ⟨data.toArray⟩] M w (λr N=>∃D v',Ff.OneR Ff.nFl p data D 0∧r=errV v' (Ff.encF o p D).2∧OV N.A N.w v' (Ff.encF o p D).1):=by
 obtain⟨vk,vc,e7,rfl,b6⟩:=hv.open;refine bB hM λK hK=>BV ?_;unfold yY nz;refine iU o b6.keys.one b6.kids.one (OwnS.memS hM) λd w1 a=>?_;refine fO a λf w2 a=>?_;rw[fR,ob_k a 1 rfl];simp only[rs];have main:∀W,OwnS M.A w W [obE f ob0 nilS nilS,obE d o vk vc,.mem M]->CallX ah 67 #[vn,vp] W (pk K) λt31 w=>
 DoX ah (mExt t31 0) w (pk K) λt32 w=>
 DoX ah (mExt t31 1) w (pk K) λt33 w=>
 DoX ah (mExt t31 2) w (pk K) λt34 w=>
 DoX ah (mEq .neq 30 (.tmp 35) (.const (.int .i64 0)) t34 (.int .i64 0)) w (pk K) λt36 w=>
 IfX t36 (DoX ah (aS 25 #[]) w (pk K) λt37 w=>
 DoX ah (aN 25 (.pointer (ax ⟨f,0,aw⟩)) t37) w (pk K) λ_ w=>
 RetX ah [.cell (.pointer (ax ⟨f,0,aw⟩)) 25,.val t34] w K) (DoX ah (mB .len #[22] 3 #[au] #[t32]) w (pk K) λt40 w=>
 DoX ah (mBin .sub 3 t40 (.int .i64 1)) w (pk K) λt41 w=>
 LoopX [.string ⟨data.toArray⟩,(.int .i64 0),t41] w (λa6 w N1=>∀_:Sg,gZ t32 t33 (a6.getD 0 undef) (.pointer (ax ⟨d,0,aw⟩)) (.pointer (ax ⟨f,0,aw⟩)) (a6.getD 1 undef) (a6.getD 2 undef) w N1 K)):=by
  intro w2 a;refine bH a 2 rfl (RW n p vn vp M w2 hf (a.hasM 2 rfl) hn c8) ?_;rintro _ N w3 l1 ⟨va,vb,rfl,g,O⟩ a;have a:OwnS M.A w w3 [obE f ob0 nilS nilS,obE d o vk vc,.mem N]:=a;simp only[ex,rP (show [va,vb,Value.int .i64 0][2]?=ax (Value.int .i64 0) from rfl),rP (show [va,vb,Value.int .i64 0][1]?=ax vb from rfl),rP (show [va,vb,Value.int .i64 0][0]?=ax va from rfl),eS,show ai ((0:Int)≠0)=au from rfl,i_f];rw[zG g]
  try simp only[rs]
  rw[show IntKind.i64.wrap ((([Ff.nFl].length:Nat):Int) - 1)=0 from rfl];refine loop (λvs W=>(vs=[.string ⟨data.toArray⟩,.int .i64 0,.int .i64 0]∧OwnS M.A w W [obE f ob0 nilS nilS,obE d o vk vc,.mem N])∨∃(D:List UInt8) (Q:Mem),vs=[.string ⟨D.toArray⟩,.int .i64 0,.int .i64 (-1)]∧Ff.OneR Ff.nFl p data D 0∧N.le Q∧OwnS M.A w W [obE f ob0 nilS nilS,obE d o vk vc,.mem Q]) (λvs _=>(RowKit.intOf (vs.getD 2 undef)+1).toNat) (.inl ⟨rfl,a⟩) ?_;clear a;rintro vs w4 (⟨rfl,a⟩|⟨D,N',rfl,hD,l0,a⟩) _
  ·simp only[gZ,gd,rs,show ai ((0:Int)<=0)=av from rfl,i_t,iN,dx,ldx,bnx,exx,stx,lnx,ecx,gfx,efx,cx];obtain⟨q,l,a7⟩:=Mf (i:=0) g dc;obtain⟨q2,c,F⟩:=pmAt (i:=0) O (by show 0 < 1;decide);have a:=a.drew;refine⟨λW=>N.has W,a.hasM 2 rfl,?_⟩;refine aR _ l (jI _ (λW h=>a7 W h) ?_);refine aR _ c (jI _ (λW h=>F W h) ?_);refine bH a 2 rfl (Za Ff.nFl p (peR p) (afP dc) data N _ (c5.le l1) (a.hasM 2 rfl) c7) ?_;rintro _ N3 w5 l3 ⟨t,e,rfl,hR⟩ a;have he:e=0:=by
    unfold Ff.OneR at hR;rw[alG dc,alH dc,alH b5] at hR;exact hR.1
   subst he;refine⟨Mem.K4 l3 (a.hasM 2 rfl),?_⟩;simp only[zlT];refine aR (.string ⟨t.toArray⟩) (λ_=>by kernel_rfl) (aR (.int .i64 0) (λ_=>by kernel_rfl) ?_);simp only[eS,show ai ((0:Int)≠0)=au from rfl,i_f]
   try simp only[rs]
   exact aY (.inr ⟨t,N3,rfl,hR,l3,a⟩) (by show (0:Nat) < 1;decide)
  simp only[gZ,gd,rs,show ai ((0:Int)<=-1)=au from rfl,i_f,iN,dx,ldx,bnx,exx,stx,lnx,ecx,gfx,efx,cx]
  replace l1:=l1.trans l0
  replace g:=g.le l0
  replace O:=O.le l0
  clear l0;obtain⟨e8,hx⟩:=hx D hD;generalize b:Ff.encF o p D=X;have hK:∀(v:aq) (w':ao) (N:Mem) (L:List Ent) (i:Nat),OwnS M.A w w' L->L[i]?=ax (.mem N)->M.le N->(∃v',v=errV v' X.2∧OV N.A N.w v' X.1)->K (.returned v) w':=λv w' N L i h1 h2 h3 ⟨v',h4,h5⟩=>hK v w' N L i h1 h2 h3 ⟨D,v',hD,by rw[b];exact h4,by rw[b];exact h5⟩;unfold Ff.encF at b;rw[ob_v a 1 rfl];refine bH a 2 rfl (RM o _ D N' w4 om om (a.hasM 2 rfl) (hv.le l1)) ?_;generalize Ff.plain o D=P at b hx;obtain⟨x,pe⟩:=P;rintro _ Q w5 l2 ⟨xv,rfl,b7⟩ a;obtain⟨C,E,e9,rfl,m⟩:=b7.open;dsimp only at b hx m;simp only[errV,ex];refine bK 1 m.keys.one m.kids.one a rfl λw6 a=>?_;have a:OwnS M.A w w6 [obE f ob0 nilS nilS,obE d x C E,.mem Q]:=a;simp only[eS,rs];by_cases R:pe=0
  case neg=>
   rw[alH R] at b;simp only[alM (show pe≠0 from R),rs,g_un,i_t];rw[ob_v a 1 rfl];refine bK 0 m.keys.one m.kids.one a rfl λY a=>?_;exact fE 0 a rfl (hK _ _ Q _ 2 a rfl (l1.trans l2) ⟨_,by rw[<-b];rfl,by rw[<-b];exact m.ov⟩)
  rw[alG (λh=>h R)] at b;subst R;simp only[show ai ((0:Int)≠0)=au from rfl,rs];rw[zG g];simp only[rs,show ai ((([Ff.nFl].length:Nat):Int)=0)=au from rfl,i_f];rw[zG g];have b9:=g.le l2;have c0:=O.le l2;have a:=(OwnS.nilU a 25 6);have a:=(OwnS.nilU a 25 6);have a:OwnS M.A w w6 [.urow 25 6 nilS 0 [],.urow 25 6 nilS 0 [],obE f ob0 nilS nilS,obE d x C E,.mem Q]:=a;refine loop (λvs W=>(vs=[.int .i64 0,nilS,nilS,.bool au,.int .i64 0]∧OwnS M.A w W [.urow 25 6 nilS 0 [],.urow 25 6 nilS 0 [],obE f ob0 nilS nilS,obE d x C E,.mem Q])∨∃(fv pv G H:aq) (N3:Mem),vs=[.int .i64 0,fv,pv,.bool av,.int .i64 1]∧Q.le N3∧OV N3.A N3.w (obV (Ff.eN p) G H) (Ff.eN p)∧OwnS M.A w W [.urow 25 6 fv 1 (obC (Ff.cA Ff.nFl) nilS nilS),.urow 25 6 pv 1 (obC (Ff.eN p) G H),obE f ob0 nilS nilS,obE d x C E,.mem N3]) (λvs _=>1 - (RowKit.intOf (vs.getD 4 undef)).toNat) (.inl ⟨rfl,a⟩) ?_;clear a;rintro vs Y (⟨rfl,a⟩|⟨fv,pv,G,H,N3,rfl,l3,ht,a⟩) _
  ·simp only[lG,gd,rs,show ai ((0:Int) < (([Ff.nFl].length:Nat):Int))=av from rfl,i_t,iN,dx,ldx,bnx,iax,exx,stx,alx,ecx,apx,gfx,cx];obtain⟨q,l,a7⟩:=Mf (i:=0) b9 dc;obtain⟨q2,c,F⟩:=pmAt (i:=0) c0 (by show 0 < 1;decide);have l:=l Y;have c:=c Y;rw[show ((0:Nat):Int)=0 from rfl] at l c;rw[aD l,aD (a7 Y (a.hasM 4 rfl)),aD c,aD (F Y (a.hasM 4 rfl))];refine bH a 4 rfl (QK p hp c6 Q Y (a.hasM 4 rfl)) ?_;rintro _ N4 w8 l4 ⟨tv,rfl,ht⟩ a;obtain⟨G,H,h0,rfl,s⟩:=ht.open;simp only[errV,ex];refine fO a λa8 w9 a=>?_;refine bK 0 s.keys.one s.kids.one a rfl λb0 a=>?_;simp only[eS,show ai ((0:Int)≠0)=au from rfl,i_f];refine aM a (iH Ff.nFl b0) ?_;rintro _ S rfl a;have a:OwnS M.A w S [obE a8 (Ff.eN p) G H,.urow 25 6 nilS 0 [],.urow 25 6 nilS 0 [],obE f ob0 nilS nilS,obE d x C E,.mem N4]:=a;refine Js (Ff.cA Ff.nFl) (vk:=nilS) (vc:=nilS) rfl rfl a λnb c9 a=>?_;refine QQ 2 a rfl (a.sl 0 rfl 6 1 1 rfl) (kZ _ rfl rfl) om λfv b1 a=>?_;have a:=a.tail;have a:OwnS M.A w b1 [obE a8 (Ff.eN p) G H,.urow 25 6 fv 1 (obC (Ff.cA Ff.nFl) nilS nilS),.urow 25 6 nilS 0 [],obE f ob0 nilS nilS,obE d x C E,.mem N4]:=a;rw[ob_v a 0 rfl];refine Js (Ff.eN p) s.keys.one s.kids.one a λnb c1 a=>?_;refine QQ 3 a rfl (a.sl 0 rfl 6 1 1 rfl) (kZ _ s.keys.one s.kids.one) om λpv e0 a=>?_;have a:=a.tail;have a:OwnS M.A w e0 [obE a8 (Ff.eN p) G H,.urow 25 6 fv 1 (obC (Ff.cA Ff.nFl) nilS nilS),.urow 25 6 pv 1 (obC (Ff.eN p) G H),obE f ob0 nilS nilS,obE d x C E,.mem N4]:=a
   try simp only[rs]
   rw[fR,ob_k a 0 rfl];simp only[rs,show ai ((Ff.eN p).k≠0)=av from rfl];exact aY (.inr ⟨fv,pv,G,H,N4,rfl,l4,ht,a.tail⟩) (by show (0:Nat) < 1;decide)
  simp only[lG,gd,rs,show ai ((1:Int) < (([Ff.nFl].length:Nat):Int))=au from rfl,i_f,iN,dx,ldx,bnx,iax,exx,stx,alx,ecx,apx,gfx,cx];obtain⟨N4,l4,e1,a⟩:=a.bJ 3 rfl;have a:OwnS M.A w Y [.urow 25 6 pv 1 (obC (Ff.eN p) G H),obE f ob0 nilS nilS,obE d x C E,.mem N4]:=a;obtain⟨N5,l5,e2,a⟩:=a.bJ 2 rfl;have a:OwnS M.A w Y [obE f ob0 nilS nilS,obE d x C E,.mem N5]:=a;have e3:LsAt N5 fv [Ff.cA Ff.nFl] (obC (Ff.cA Ff.nFl) nilS nilS):=⟨e1.le l5,oG (iD N5 5 0 0 Ff.nFl)⟩;have c2:LsAt N5 pv [Ff.eN p] (obC (Ff.eN p) G H):=⟨e2,oG ((ht.le l4).le l5)⟩;have c3:=(((l1.trans l2).trans l3).trans l4).trans l5;have c4:=(((b7.le l3).le l4).le l5);have e5:(Ff.cA Ff.nFl).wt<=1000:=dc
  have e6:(Ff.eN p).wt<=1000:=Nat.le_of_ble_eq_true krx;have a:=a.drew;refine⟨λW=>(obE d x C E).is W,a.at_ 1 rfl,?_⟩;refine jI (obV x C E) (λW h=>aW (AtV.agg lF (cs:=obC x C E) rfl λj u hj=>by rw[alU];exact aI (T:=25) h hj)) ?_;refine bH a 2 rfl (I1 [Ff.cA Ff.nFl] fv _ N5 _ (by show (_:Nat)<=_;decide) (a.hasM 2 rfl) e3) λy N6 w8 l6 hy a=>?_;refine⟨a.at_ 1 rfl,?_⟩;have hy:OV N6.A N6.w y (Ff.cA Ff.nFl):=hy;refine bH a 2 rfl (JZ x (Ff.cA Ff.nFl) _ y Ff.aX N6 w8 om om dc (a.hasM 2 rfl) (c4.le l6) hy) ?_;have U:(Vl.set x Ff.aX (Ff.cA Ff.nFl)).2=0->(Vl.set x Ff.aX (Ff.cA Ff.nFl)).1.wt<=2000000000:=λ_=>by
   have:=Vl.Mb x Ff.aX (Ff.cA Ff.nFl);have hk:Ff.aX.length=6:=rfl;omega
  generalize Vl.set x Ff.aX (Ff.cA Ff.nFl)=Rr at b U;obtain⟨z,ze⟩:=Rr;dsimp only at b U;rintro _ N7 w9 l7 ⟨zv,rfl,hz⟩ a;obtain⟨zk,zc,h6,rfl,b2⟩:=hz.open;dsimp only at b2 hz;unfold errV;refine aR (obV z zk zc) (λ_=>by kernel_rfl) (aR (.int .i64 ze) (λ_=>by kernel_rfl) ?_);refine bK 1 b2.keys.one b2.kids.one a rfl λb0 a=>?_;have a:OwnS M.A w b0 [obE f ob0 nilS nilS,obE d z zk zc,.mem N7]:=a;have Z:=(c3.trans l6).trans l7;simp only[eS];by_cases I:ze=0
  case neg=>
   rw[alH I] at b;simp only[alM (show ze≠0 from I),i_t];rw[Kk];refine bK 0 rfl rfl a rfl λS a=>?_;exact fE 0 a rfl (hK _ _ N7 _ 2 a rfl Z ⟨_,by rw[<-b];rfl,by rw[<-b];exact uZ N7⟩)
  rw[alG (λh=>h I)] at b;have U:=U I;simp only[alJ (show ¬ze≠0 fromλh=>h I),i_f];refine join λJ hJ=>?_
  try simp only[i_t]
  have a:=a.drew;refine⟨λW=>(obE d z zk zc).is W,a.at_ 1 rfl,?_⟩;refine jI (obV z zk zc) (λW h=>aW (AtV.agg lF (cs:=obC z zk zc) rfl λj u hj=>by rw[alU];exact aI (T:=25) h hj)) ?_;refine bH a 2 rfl (I1 [Ff.eN p] pv _ N7 _ (by show (_:Nat)+0<=_;omega) (a.hasM 2 rfl) ⟨(c2.sl.le l6).le l7,(c2.all.le l6).le l7⟩) λy2 N8 S l8 b3 a=>?_;refine⟨a.at_ 1 rfl,?_⟩;have b3:OV N8.A N8.w y2 (Ff.eN p):=b3;refine bH a 2 rfl (JZ z (Ff.eN p) _ y2 Ff.cL N8 S om om dc (a.hasM 2 rfl) (hz.le l8) b3) ?_;generalize Vl.set z Ff.cL (Ff.eN p)=Rr at b;obtain⟨y,ye⟩:=Rr;dsimp only at b;rintro _ N9 c9 l9 ⟨yv,rfl,e4⟩ a;obtain⟨yk,yc,h7,rfl,B⟩:=e4.open;dsimp only at B;unfold errV;refine aR (obV y yk yc) (λ_=>by kernel_rfl) (aR (.int .i64 ye) (λ_=>by kernel_rfl) ?_);refine bK 1 B.keys.one B.kids.one a rfl λb1 a=>?_;have a:OwnS M.A w b1 [obE f ob0 nilS nilS,obE d y yk yc,.mem N9]:=a;have a1:=(Z.trans l8).trans l9;simp only[eS];by_cases V:ye=0
  case neg=>
   rw[alH V] at b;simp only[alM (show ye≠0 from V),i_t];rw[Kk];refine bK 0 rfl rfl a rfl λc1 a=>?_;exact fE 0 a rfl (hK _ _ N9 _ 2 a rfl a1 ⟨_,by rw[<-b];rfl,by rw[<-b];exact uZ N9⟩)
  rw[alG (λh=>h V)] at b;simp only[alJ (show ¬ye≠0 fromλh=>h V),i_f];refine hJ _ _ λ_=>?_;unfold sL nz;rw[ob_v a 1 rfl];refine bK 0 B.keys.one B.kids.one a rfl λc1 a=>?_;exact fE 0 a rfl (hK _ _ N9 _ 2 a rfl a1 ⟨_,by rw[<-b];rfl,by rw[<-b];exact B.ov⟩)
 by_cases k9:o.k=9
 ·simp only[alJ (show ¬o.k≠9 fromλh=>h k9),rs,g_un,i_f];exact main w2 a
 have k7:o.k=7:=by rcases hk with h|h;exact absurd h k9;exact h
 simp only[alM (show o.k≠9 from k9),rs];rw[fR,ob_k a 1 rfl];simp only[rs,alJ (show ¬o.k≠7 fromλh=>h k7),i_f];exact main w2 a
end
section
open Eng Go.RowKit
theorem aae (l:List (Int×Int))(r:Int×Int):Cs.size (l++[r])=r.1+r.2:=by unfold Cs.size;rw[List.getLast?_append];rfl
theorem Jx {l:List (Int×Int)}(a:j < l.length):l.take (j+1)=l.take j++[l[j]]:=amO a
theorem aaf (l:List (Int×Int))(r:Int×Int):Cs.flat (l++[r])=Cs.flat l++[r.1,r.2]:=by unfold Cs.flat;rw[aoQ,apQ]
theorem qv:∀l:List (Int×Int),(Cs.flat l).length=2*l.length
|[]=>rfl
|r::l=>by
  have:=qv l;show ((Cs.flat l).length+1)+1=_;rw[amC];omega
theorem od:∀l:List Int,Ob.wts (l.map Cs.intO)<=6*l.length
|[]=>alP _
|n::l=>by
  have a:=od l;have h:(Cs.intO n).wt=6:=rfl;show (Cs.intO n).wt+Ob.wts (l.map Cs.intO)<=_;rw[amC];omega
theorem xf (l:List Int):(Cs.arrO l).wt<=6*l.length+6:=by
 have h:=od l;have e:(Cs.arrO l).wt=6+0+0+Ob.wts (l.map Cs.intO):=Vl.lC (Cs.arrO l);omega
theorem acM {S0:Nat->Prop}{Y:ao}{F s b2 b3:Nat}{c3:List aq}{x:Sec}{vs vk vc:aq}{ds:List aq}{ps:List (List UInt8×Ob)}{ok I:aq}{K:Ending->ao->Prop}{X:Ob×Int}
  (c:Cs.mI o ps=X) (J:∀p∈ps,p.1.length<=10∧p.2.wt<=100000) (a6:ps.length<=5) (a:OwnS M.A w Y [obE s o ok I,obE F ob0 nilS nilS,.mem N]) (hle:M.le N) (b:OV N.A N.w (obV o ok I) o) (t:o.wt<=1000000000)
  (n:SlA N.A N.w pv 6 (Cs.row ps).length ds) (g:OVs N.A N.w ds (Cs.row ps))
  (Z:∀(v:aq) (w':ao) (N:Mem) (L:List Ent) (i:Nat),OwnS M.A w w' L->L[i]?=ax (.mem N)->M.le N->(∃v',v=errV v' X.2∧OV N.A N.w v' X.1)->K (.returned v) w') :
  lL (.pointer (ax ⟨F,0,aw⟩)) (.int .i64 0) (.pointer (ax ⟨s,0,aw⟩)) pv Y K:=by
 unfold lL nz;have a7:=Cs.MU ps;refine loop (λvs W=>∃(i:Nat) (o':Ob) (d e:aq) (k:Mem),vs=[.int .i64 0,.int .i64 ((2*i:Nat):Int)]∧i<=ps.length∧Cs.mI o' (ps.drop i)=X∧o'.wt<=1000000000+200000*i∧N.le k∧OV k.A k.w (obV o' d e) o'∧OwnS M.A w W [obE s o' d e,obE F ob0 nilS nilS,.mem k]) (λvs _=>2*ps.length - n1 vs) ⟨0,o,ok,I,N,rfl,om,c,om,N.le_refl,b,a⟩ ?_;clear a c b t;rintro vs w2 ⟨i,o',d,e,k,rfl,hi,c,t,l,b,a⟩ _;simp only[Az,gd,iN,dx,ldx,bnx,stx,lnx,ecx];rw[bE amA ((n.le l).now (a.hasM 2 rfl))];simp only[rs];by_cases q:i < ps.length
 ·simp only[show ai (((2*i:Nat):Int) < ((Cs.row ps).length:Int))=av from alM om,i_t];have h1:2*i < (Cs.row ps).length:=om
  have h2:2*i+1 < (Cs.row ps).length:=om
  obtain⟨e1,e2⟩:=Cs.Uf q h2;obtain⟨p1,q1,a8,b0,y,a1,O⟩:=UJ (n.le l) (g.le l) h1;obtain⟨p2,q2,B,C,D,m,P⟩:=UJ (n.le l) (g.le l) h2;obtain⟨b1,b5⟩:=J ps[i] (alX q);have a:=a.drew;refine⟨λW=>(obE s o' d e).is W∧k.has W,⟨a.at_ 0 rfl,a.hasM 2 rfl⟩,?_⟩;refine jI (obV o' d e) (λW h=>aW (AtV.agg lF (cs:=obC o' d e) rfl λj u hj=>by rw[alU];exact aI (T:=25) h.1 hj)) ?_;refine aR _ y ?_;refine aR (.pointer (ax ⟨p1,q1+3,aw⟩)) (λ_=>bC adL) ?_;refine jI (.string ⟨(ps[i].1).toArray⟩) (λW h=>aB Kc (O W h.2 3 _ (by rw[e1];rfl))) ?_;refine aR (.int .i64 ((2*i+1:Nat):Int)) (λW=>by rw[Ia,aA om om];rfl) ?_;refine aR _ D ?_;refine jI (obV (Cs.row ps)[2*i+1] B C) (λW h=>aW (AtV.agg lF (cs:=obC (Cs.row ps)[2*i+1] B C) rfl (P W h.2))) ?_;rw[e2] at m ⊢;refine bH a 2 rfl (JZ o' ps[i].2 _ _ ps[i].1 k _ om om om (a.hasM 2 rfl) b m) ?_;have E:=Vl.Mb o' ps[i].1 ps[i].2;have Q:ps.drop i=ps[i]::ps.drop (i+1):=anB q;rw[Q,Cs.mI] at c;generalize Vl.set o' ps[i].1 ps[i].2=R at c E;obtain⟨z,G⟩:=R;dsimp only at c E;rintro _ H w3 l2 ⟨zv,rfl,S⟩ a;obtain⟨U,V,b7,rfl,r⟩:=S.open;dsimp only at S r;unfold errV;refine aR (obV z U V) (λ_=>by kernel_rfl) (aR (.int .i64 G) (λ_=>by kernel_rfl) ?_);refine bK 0 r.keys.one r.kids.one a rfl λw4 a=>?_;have a:OwnS M.A w w4 [obE s z U V,obE F ob0 nilS nilS,.mem H]:=a;simp only[eS];by_cases f:G=0
  case neg=>
   rw[alH f] at c;simp only[alM (show G≠0 from f),i_t];rw[Kk];refine bK 1 rfl rfl a rfl λw5 a=>?_;exact fE 1 a rfl (Z _ _ H _ 2 a rfl ((hle.trans l).trans l2) ⟨_,by rw[<-c];rfl,by rw[<-c];exact uZ H⟩)
  rw[alG (λh=>h f)] at c;simp only[alJ (show ¬G≠0 fromλh=>h f),i_f]
  try simp only[rs]
  rw[aA om om];exact aY ⟨i+1,z,U,V,H,by rw[show ((2*i:Nat):Int)+2=((2*(i+1):Nat):Int) by omega],om,c,om,l.trans l2,S,a⟩ (by simp[n1,RowKit.intOf];omega)
 simp only[show ai (((2*i:Nat):Int) < ((Cs.row ps).length:Int))=au from alJ om,i_f];have:i=ps.length:=om
 subst this;rw[List.drop_length,Cs.mI] at c;rw[ob_v a 0 rfl];refine bK 1 (b.oneK) (b.oneC) a rfl λw3 a=>?_;exact fE 1 a rfl (Z _ _ k _ 2 a rfl (hle.trans l) ⟨_,by rw[<-c];rfl,by rw[<-c];exact b⟩)
end
section
open Eng Go.RowKit
theorem Cs.KA (x:Sec)(b:(Tl.runs x.aG).length<=8192):(∀p∈Cs.bF x,p.1.length<=10∧p.2.wt<=100000)∧(Cs.bF x).length<=5:=by
 have hi:∀n:Int,(Cs.intO n).wt=6:=λ_=>rfl;have c:=xf [1,(Cs.wa x.aG:Nat),(Cs.wb x.aG:Nat)];have a:=xf (Cs.flat (Tl.runs x.aG));rw[qv] at a;have d:([1,((Cs.wa x.aG:Nat):Int),((Cs.wb x.aG:Nat):Int)]:List Int).length=3:=rfl;unfold Cs.bF;refine⟨λp hp=>?_,by
  split
  ·show (5:Nat)<=5;decide
  ·show (4:Nat)<=5;decide⟩
 rcases amK.1 hp with hp|hp
 ·simp only[alN,anA,or_false] at hp;rcases hp with rfl|rfl|rfl|rfl
  ·exact⟨dc,dc⟩
  ·exact⟨by show (4:Nat)<=10;decide,by show (6:Nat)<=_;decide⟩
  ·exact⟨by show (1:Nat)<=10;decide,by show (Cs.arrO _).wt<=_;omega⟩
  ·exact⟨by show (5:Nat)<=10;decide,by show (Cs.arrO _).wt<=_;omega⟩
 ·split at hp
  ·simp only[alN,anA,or_false] at hp;subst hp;exact⟨by show (4:Nat)<=10;decide,by show (6:Nat)<=_;decide⟩
  ·cases hp
theorem TE (x:Sec)(vs vk vc:aq)(M:Mem)(w:ao)(hb:x.aG.length<=8192)(hf:Nq x.aG)(T:∀r∈Tl.runs x.aG,0<=r.1∧r.1<=8191∧0<=r.2∧r.2<=1000000)(hw:x.trailer.wt<=100000000)(b8:(Cs.sS x.trailer).wt<=1000000000)(hM:M.has w)
  (U:SlA M.A M.w vs 4 x.aG.length (slsC x.aG)) (H:OV M.A M.w (obV x.trailer vk vc) x.trailer) :
  RetM ah 102 #[secV x vs vk vc,w3V (Cs.wa x.aG:Nat) (Cs.wb x.aG:Nat)] M w (λr N=>∃v',r=errV v' (Cs.dict x).2∧OV N.A N.w v' (Cs.dict x).1):=by
 have e3:=Tl.B4 x.aG;obtain⟨b9,c0⟩:=Cs.KA x om;refine bB hM λK hK=>Ht ?_;unfold EI nz;refine abL x U.one H.oneK H.oneC (OwnS.memS hM) λb2 w1 c=>?_;refine ahP c λb3 w2 c=>?_;refine fO c λj w3 c=>?_;rw[Tw,afE c 2 rfl];refine bH c 3 rfl (Lp x.trailer _ M w3 om (c.hasM 3 rfl) H) λy N1 w4 l1 hy c=>?_;obtain⟨k,l,e4,rfl,V⟩:=hy.open;refine fO c λm w5 c=>?_;refine bK 0 V.keys.one V.kids.one c rfl λw6 c=>?_;have c:OwnS M.A w w6 [obE m (Cs.sS x.trailer) k l,obE j ob0 nilS nilS,.cells b3 (w3C (Cs.wa x.aG:Nat) (Cs.wb x.aG:Nat)) 71,secE b2 x vs vk vc,.mem N1]:=c;rw[L7,SW c 3 rfl];refine bH c 4 rfl (Um x.aG vs N1 w6 om hf (c.hasM 4 rfl) (U.le l1)) λrv E w7 l2 s c=>?_;have s:SlA E.A E.w rv 2 (Tl.runs x.aG).length (rnsC (Tl.runs x.aG)):=s;rw[bE arS (s.now (c.hasM 4 rfl))];have c:=OwnS.nilU c 25 6;have c:OwnS M.A w w7 [inR nilS (Cs.flat ((Tl.runs x.aG).take 0)),obE m (Cs.sS x.trailer) k l,obE j ob0 nilS nilS,.cells b3 (w3C (Cs.wa x.aG:Nat) (Cs.wb x.aG:Nat)) 71,secE b2 x vs vk vc,.mem E]:=c;have q:Cs.bF x=[(Cs.mV,Ff.cA Cs.xP),(Cs.iX,Cs.intO (Cs.size (Tl.runs x.aG))),(Cs.kW,Cs.arrO [1,(Cs.wa x.aG:Nat),(Cs.wb x.aG:Nat)]),(Cs.gJ,Cs.arrO (Cs.flat (Tl.runs x.aG)))]++if 0<=x.prev then [(Cs.qT,Cs.intO x.prev)] else []:=rfl
 unfold Cs.dict at hK;generalize e5:Tl.runs x.aG=f at *;generalize ((Cs.wa x.aG:Nat):Int)=a at *;generalize ((Cs.wb x.aG:Nat):Int)=d at *;generalize Cs.sS x.trailer=tr at *;have I:∀i,0<=Cs.size (f.take i)∧Cs.size (f.take i)<=1008191:=by
  intro i;unfold Cs.size;cases h:(f.take i).getLast? with
 |none=>exact⟨arA _,dc⟩
 |some r=>
   have:=T r (anT (List.mem_of_mem_getLast? h));show 0<=r.1+r.2∧r.1+r.2<=_;omega
 refine loop (λvs' W=>∃(i:Nat) (cv:aq),vs'=[.int .i64 (Cs.size (f.take i)),cv,.int .i64 (i:Int)]∧i<=f.length∧OwnS M.A w W [inR cv (Cs.flat (f.take i)),obE m tr k l,obE j ob0 nilS nilS,.cells b3 (w3C a d) 71,secE b2 x vs vk vc,.mem E]) (λvs _=>f.length - (RowKit.intOf (vs.getD 2 undef)).toNat) ⟨0,nilS,rfl,om,c⟩ ?_;clear c;rintro vs' w8 ⟨i,cv,rfl,hi,c⟩ _;simp only[Ap,gd,rs,iN,ldx,bnx,iax,stx,alx];have X:=qv (f.take i);rw[alR] at X;by_cases Y:(i:Int) < (f.length:Int)
 ·simp only[alM Y,i_t];have t:i < f.length:=om
  have hr:=T f[i] (alX t);obtain⟨p,c1,c2⟩:=afR s t;rw[aD (c1 w8),aD (c2 w8 (c.hasM 5 rfl))];refine o_rn c λZ w9 c=>?_;refine YK 0 (y:=f[i]) c rfl λz c=>?_;have c:OwnS M.A w z [.cells Z (rnC f[i]) 135,inR cv (Cs.flat (f.take i)),obE m tr k l,obE j ob0 nilS nilS,.cells b3 (w3C a d) 71,secE b2 x vs vk vc,.mem E]:=c;rw[Yo,aJ aU (c.cell 0 rfl 0 rfl),Yg,aJ aU (c.cell 0 rfl 1 rfl),Mq,aA om om];refine dK (λW=>OwnS M.A w W [.cells Z (rnC f[i]) 135,inR cv (Cs.flat (f.take i)),obE m tr k l,obE j ob0 nilS nilS,.cells b3 (w3C a d) 71,secE b2 x vs vk vc,.mem E]) c.drew ?_;refine q_do _ (λ_=>XJ) ?_;refine q_at (.int .i64 f[i].1) (λW h=>aB aU (h.cell 0 rfl 0 rfl)) ?_;refine lO (obV (Cs.intO f[i].1) nilS nilS) (λW h=>(pR f[i].1 W).mono λv w' ⟨O,P⟩=>⟨O,h.grow P⟩) ?_;refine q_do _ (λ_=>Qu) ?_;refine q_at (.int .i64 f[i].2) (λW h=>aB aU (h.cell 0 rfl 1 rfl)) ?_;refine lO (obV (Cs.intO f[i].2) nilS nilS) (λW h=>(pR f[i].2 W).mono λv w' ⟨O,P⟩=>⟨O,h.grow P⟩) ?_;intro Q c;refine ajS 1 c rfl om λcv' a1 c=>?_
  try simp only[rs]
  rw[aA om om];refine aY ⟨i+1,cv',?_,om,?_⟩ (by simp[RowKit.intOf];omega)
  ·rw[Jx t,aae];rfl
  ·rw[Jx t,aaf];exact c.tail
 simp only[alJ Y,i_f];have:i=f.length:=om
 subst this;rw[anI] at c;rw[l_at (c.agg 3 rfl agg3)];have c:=OwnS.nilU c 25 6;have I:=I f.length;rw[anI] at I X ⊢;show LoopX [nilS,.int .i64 0] w8 _;refine loop (λvs' W=>∃(i:Nat) (wv:aq),vs'=[wv,.int .i64 (i:Int)]∧i<=3∧OwnS M.A w W [inR wv ([1,a,d].take i),inR cv (Cs.flat f),obE m tr k l,obE j ob0 nilS nilS,.cells b3 (w3C a d) 71,secE b2 x vs vk vc,.mem E]) (λvs _=>3 - n1 vs) ⟨0,nilS,rfl,om,c⟩ ?_;clear c;rintro vs' w9 ⟨i,wv,rfl,hi,c⟩ _;simp only[AP,gd,rs,iN,dx,ldx,bnx,fax,apx,cx];by_cases h3:(i:Int) < 3
 ·simp only[alM h3,i_t];have c4:i < 3:=om
  show DoX ah (mIx 71 (w3V a d) (.int .i64 (i:Int))) w9 (pk K) _;rw[akZ c4];refine aM c (pR _ w9) ?_;rintro _ z rfl c;refine ajO 0 c rfl (by rw[alR];omega) λc5 Q c=>?_
  try simp only[rs]
  rw[aA om om];refine aY ⟨i+1,c5,rfl,om,?_⟩ (by simp[n1,RowKit.intOf];omega);have e:([1,a,d]:List Int).take (i+1)=[1,a,d].take i++[([1,a,d]:List Int).getD i 0]:=by
   rcases (by omega:i=0∨i=1∨i=2) with rfl|rfl|rfl<;>rfl
  rw[e];exact c
 simp only[alJ h3,i_f];have:i=3:=om
 subst this;have c:OwnS M.A w w9 [inR wv [1,a,d],inR cv (Cs.flat f),obE m tr k l,obE j ob0 nilS nilS,.cells b3 (w3C a d) 71,secE b2 x vs vk vc,.mem E]:=c;refine aM c (iH Cs.mV w9) ?_;rintro _ z rfl c;refine aM c (iH Cs.xP z) ?_;rintro _ Q rfl c;refine aM c (iH Cs.iX Q) ?_;rintro _ a1 rfl c;refine aM c (pR (Cs.size f) a1) ?_;rintro _ c6 rfl c;refine aM c (iH Cs.kW c6) ?_;rintro _ R rfl c;obtain⟨N3,l3,c7,c⟩:=c.bJ 5 rfl;have c:OwnS M.A w R [inR cv (Cs.flat f),obE m tr k l,obE j ob0 nilS nilS,.cells b3 (w3C a d) 71,secE b2 x vs vk vc,.mem N3]:=c;obtain⟨N4,l4,c8,c⟩:=c.bJ 4 rfl;have c:OwnS M.A w R [obE m tr k l,obE j ob0 nilS nilS,.cells b3 (w3C a d) 71,secE b2 x vs vk vc,.mem N4]:=c;have e6:=od [1,a,d];have e7:=od (Cs.flat f);have e8:([1,a,d]:List Int).length=3:=rfl;refine bH c 4 rfl (J9 ([1,a,d].map Cs.intO) wv _ N4 R om (c.hasM 4 rfl) (by rw[amT];exact c7.le l4) (JL N4 _)) λz1 N5 c9 l5 B c=>?_;obtain⟨a6,a7,e9,rfl,F⟩:=B.open;refine aM c (iH Cs.gJ c9) ?_;rintro _ e0 rfl c;refine bH c 4 rfl (J9 ((Cs.flat f).map Cs.intO) cv _ N5 e0 om (c.hasM 4 rfl) (by rw[amT];exact c8.le l5) (JL N5 _)) λz2 o h0 l6 a8 c=>?_;obtain⟨b0,b1,h4,rfl,G⟩:=a8.open;refine ajH (n:=Cs.size f) c (λnb e1 c=>?_) F.keys.one F.kids.one G.keys.one G.kids.one;have c:=c.toU 6 8 8 rfl om om;have B:=B.le l6;have g:=eH (eH (eH (eH (eH (eH (eH (oG (iD o 5 0 0 Cs.mV)) (oG (iD o 5 0 0 Cs.xP))) (oG (iD o 5 0 0 Cs.iX))) (oG (iD o 2 (Cs.size f) 0 []))) (oG (iD o 5 0 0 Cs.kW))) (oG B)) (oG (iD o 5 0 0 Cs.gJ))) (oG a8);have c:OwnS M.A w e1 [.urow 25 6 (.slice (ax ⟨nb,0,aw⟩) 8 8) 8 (obC (ob1 5 0 0 Cs.mV) nilS nilS++obC (ob1 5 0 0 Cs.xP) nilS nilS++obC (ob1 5 0 0 Cs.iX) nilS nilS++obC (ob1 2 (Cs.size f) 0 []) nilS nilS++obC (ob1 5 0 0 Cs.kW) nilS nilS++obC (.mk 6 0 0 [] [] ([1,a,d].map Cs.intO)) a6 a7++obC (ob1 5 0 0 Cs.gJ) nilS nilS++obC (.mk 6 0 0 [] [] ((Cs.flat f).map Cs.intO)) b0 b1),obE m tr k l,obE j ob0 nilS nilS,.cells b3 (w3C a d) 71,secE b2 x vs vk vc,.mem o]:=c;generalize (obC (ob1 5 0 0 Cs.mV) nilS nilS++obC (ob1 5 0 0 Cs.xP) nilS nilS++obC (ob1 5 0 0 Cs.iX) nilS nilS++obC (ob1 2 (Cs.size f) 0 []) nilS nilS++obC (ob1 5 0 0 Cs.kW) nilS nilS++obC (.mk 6 0 0 [] [] ([1,a,d].map Cs.intO)) a6 a7++obC (ob1 5 0 0 Cs.gJ) nilS nilS++obC (.mk 6 0 0 [] [] ((Cs.flat f).map Cs.intO)) b0 b1)=b5 at c g;have g:OVs o.A o.w b5 (Cs.row [(Cs.mV,Ff.cA Cs.xP),(Cs.iX,Cs.intO (Cs.size f)),(Cs.kW,Cs.arrO [1,a,d]),(Cs.gJ,Cs.arrO (Cs.flat f))]):=g;have b7:=(((l1.trans l2).trans l3).trans l4).trans (l5.trans l6);have e2:OV o.A o.w (obV tr k l) tr:=((((hy.le l2).le l3).le l4).le l5).le l6;have fin:∀{W:ao} {N:Mem} {pv:aq} {ps:List (List UInt8×Ob)} {ds:List aq},ps=Cs.bF x->o.le N->OwnS M.A w W [obE m tr k l,obE j ob0 nilS nilS,.cells b3 (w3C a d) 71,secE b2 x vs vk vc,.mem N]->SlA N.A N.w pv 6 (Cs.row ps).length ds->OVs N.A N.w ds (Cs.row ps)->lL (.pointer (ax ⟨j,0,aw⟩)) (.int .i64 0) (.pointer (ax ⟨m,0,aw⟩)) pv W K:=by
  intro W N pv ps ds he hl c h1 h2;subst he;have c:OwnS M.A w W ([obE m tr k l,obE j ob0 nilS nilS]++([.cells b3 (w3C a d) 71,secE b2 x vs vk vc]++[.mem N])):=c;have c:=c.front.tail.tail;exact acM (S0:=M.A) (b2:=b2) (b3:=b3) (c3:=[]) (x:=x) (vs:=vs) (vk:=vk) (vc:=vc) rfl b9 c0 c (b7.trans hl) (e2.le hl) b8 h1 h2 hK
 refine join λJ hJ=>?_;rw[PJ,aJ aU (c.cell 4 rfl 8 rfl)];simp only[rs];by_cases C:0<=x.prev
 ·simp only[alM C,i_t];refine dK (λW=>OwnS M.A w W [.urow 25 6 (.slice (ax ⟨nb,0,aw⟩) 8 8) 8 b5,obE m tr k l,obE j ob0 nilS nilS,.cells b3 (w3C a d) 71,secE b2 x vs vk vc,.mem o]) c.drew ?_;refine lO (obV (Ff.cA Cs.qT) nilS nilS) (λW h=>(iH Cs.qT W).mono λv w' ⟨O,P⟩=>⟨O,h.grow P⟩) ?_;refine q_do _ (λ_=>bC fse3) ?_;refine q_at (.int .i64 x.prev) (λW h=>aB aU (h.cell 4 rfl 8 rfl)) ?_;refine lO (obV (Cs.intO x.prev) nilS nilS) (λW h=>(pR x.prev W).mono λv w' ⟨O,P⟩=>⟨O,h.grow P⟩) ?_;intro h5 c;refine bA (λb=>.slice (ax ⟨b,0,aw⟩) 2 2) (obC (Ff.cA Cs.qT) nilS nilS++intC x.prev) 25 (λ_=>by kernel_rfl) c λh6 h7 c=>?_;refine QQ 1 c rfl (c.sl 0 rfl 6 2 2 rfl) (λu hu=>by rcases amK.1 hu with h|h<;>exact kZ _ rfl rfl u h) om λpv h8 c=>?_;have c:=c.tail;obtain⟨N7,l7,S,c⟩:=OwnS.bJ (L:=[obE m tr k l,obE j ob0 nilS nilS,.cells b3 (w3C a d) 71,secE b2 x vs vk vc,.mem o]) c 4 rfl;have D:=eH (g.le l7) (eH (oG (iD N7 5 0 0 Cs.qT)) (oG (iD N7 2 x.prev 0 [])));refine hJ _ _ λ_=>?_;simp only[gd];exact fin (ps:=[(Cs.mV,Ff.cA Cs.xP),(Cs.iX,Cs.intO (Cs.size f)),(Cs.kW,Cs.arrO [1,a,d]),(Cs.gJ,Cs.arrO (Cs.flat f))]++[(Cs.qT,Cs.intO x.prev)]) (by rw[q,alH C]) l7 c S D
 ·simp only[alJ C,i_f];obtain⟨N7,l7,S,c⟩:=OwnS.bJ (L:=[obE m tr k l,obE j ob0 nilS nilS,.cells b3 (w3C a d) 71,secE b2 x vs vk vc,.mem o]) c 4 rfl;refine hJ _ _ λ_=>?_;simp only[gd];exact fin (ps:=[(Cs.mV,Ff.cA Cs.xP),(Cs.iX,Cs.intO (Cs.size f)),(Cs.kW,Cs.arrO [1,a,d]),(Cs.gJ,Cs.arrO (Cs.flat f))]) (by rw[q,alG C];rfl) l7 c S (g.le l7)
end
section
open Eng Go.RowKit
namespace Cs
def inr (o:Ob)(most:Int):Prop:=o.k=2∧0<=o.n∧o.n<=most
instance (o:Ob) (most:Int):Decidable (inr o most):=inferInstanceAs (Decidable (_∧_))
def index:Int->List Ob->Option (List (Int×Int))
|_,[]=>ax []
|_,[_]=>aw
|up,a::b::r=>if inr a 2147483647∧inr b 2147483647∧up<=a.n∧a.n+b.n<=8192 then (index (a.n+b.n) r).map ((a.n,b.n)::·) else aw
theorem Lk:∀{l:List Ob} {up:Int},l.length % 2=1->index up l=aw
|[],_,h=>by cases h
|[_],_,_=>rfl
|a::b::r,up,h=>by
  unfold index;rw[Lk (l:=r) (by simp only[amC] at h;omega)];split<;>rfl
end Cs
def upC:PanicEntry:={ v:=.iface 167 (.agg #[]),recovered:=au }
theorem afN:lM ah 167=true:=krx
theorem aaU (w:ao):Ret ah 157 #[.bool av] w (λv w'=>v=.tuple #[]∧w=w'):=by
 refine aZ λK a=>yB ?_;unfold xV nz;simp only[rs,anH,i_f];exact a _ _ ⟨rfl,rfl⟩
theorem ZG (w:ao):Pan ah 157 #[.bool au] w (λc w'=>c=[upC]∧w=w'):=by
 refine TA λK a=>yB ?_;unfold xV nz;simp only[rs,anK,i_t];have b:∀{PK:PKT} {K:VWP},DoX ah (aS 167 #[]) w PK K=K (.agg #[]) w:=aD krx;rw[b,Kn afN,Gy];exact a _ _ ⟨rfl,rfl⟩
section
variable {w:ao}{PK:PKT}{K:VWP}{S:Nat->Prop}{w0:ao}{L:List Ent}
theorem kC (a:q=av->K (.tuple #[]) w)(b:q=au->PK [upC] w):CallX ah 157 #[.bool q] w PK K:=by
 cases q with
|true=>exact c_eq (aaU w) (a rfl)
|false=>exact Zy (ZG w) λc w' ⟨d,hw⟩=>by subst d;subst hw;exact b rfl
theorem G7 {most:Int}(a:OwnS S w0 w L)(e:vk.oneCell'=av)(f:vc.oneCell'=av)(i:0<=most∧most<=2147483647)
  (g:Cs.inr o most->∀W,OwnS S w0 W L->K (.int .i64 o.n) W) (d:¬Cs.inr o most->∀W,OwnS S w0 W L->PK [upC] W):CallX ah 158 #[obV o vk vc,.int .i64 most] w PK K:=by
 refine⟨Fo ?_⟩;unfold Db nz;refine iU o e f a λj b a=>?_;rw[fR,ob_k a 0 rfl];simp only[rs];by_cases c:o.k=2
 case neg=>
  simp only[alJ c,rs,g_un];exact kC (λh=>by cases h) λ_=>d (λh=>c h.1) b a.tail
 simp only[alM c,rs];rw[Iu,ob_n a 0 rfl];simp only[rs];by_cases a2:0<=o.n
 case neg=>
  simp only[alJ a2,rs,g_un];exact kC (λh=>by cases h) λ_=>d (λh=>a2 h.2.1) b a.tail
 simp only[alM a2,rs];rw[Iu,ob_n a 0 rfl];simp only[rs];refine kC (λh=>?_) λh=>d (λk=>(amR h) k.2.2) b a.tail;rw[Iu,ob_n a 0 rfl];exact g ⟨c,a2,alZ h⟩ b a.tail
theorem Sz (a:OwnS S w0 w L)(c:vk.oneCell'=av)(d:vc.oneCell'=av)
  (e:o.k=6->∀W,OwnS S w0 W L->K vc W) (f:¬o.k=6->∀W,OwnS S w0 W L->PK [upC] W):CallX ah 159 #[obV o vk vc] w PK K:=by
 refine⟨FC ?_⟩;unfold Cy nz;refine iU o c d a λg b a=>?_;rw[fR,ob_k a 0 rfl];simp only[rs];refine kC (λh=>?_) λh=>f (amR h) b a.tail;rw[pF,fL a 0 rfl];exact e (alZ h) b a.tail
theorem aaR {l:List Ob}(a:OwnS S w0 w (.mem M::L))(b:LsAt M v l cs)(Q:l.length<=1000000000)
  (C:∀ps,Cs.index 0 l=ax ps->∀N pv W,M.le N->SlA N.A N.w pv 2 ps.length (rnsC ps)->OwnS S w0 W (.mem N::L)->K pv W)
  (u:Cs.index 0 l=aw->∀W,OwnS S w0 W (.mem M::L)->PK [upC] W):CallX ah 160 #[v] w PK K:=by
 refine⟨Fa ?_⟩;unfold B3 nz;rw[ER b];have hm:(l.length:Int).tmod 2=((l.length % 2:Nat):Int):=by rw[atV om];omega
 rw[JY dc,hm];simp only[rs];refine kC (λhe=>?_) λhe=>u (Cs.Lk (by have:=amR he;omega)) w a;have he:=alZ he;have a:=OwnS.nilU a 135 2;have a:OwnS S w0 w (rnsE nilS []::.mem M::L):=a;generalize c:Cs.index 0 l=X at C u;refine loop (λvs W=>∃(i:Nat) (ov:aq) (out:List (Int×Int)) (up:Int),vs=[ov,.int .i64 up,.int .i64 ((2*i:Nat):Int)]∧2*i<=l.length∧(Cs.index up (l.drop (2*i))).map (out++·)=X∧(0<=up∧up<=8192)∧out.length=i∧OwnS S w0 W (rnsE ov out::.mem M::L)) (λvs _=>l.length - (RowKit.intOf (vs.getD 2 undef)).toNat) ⟨0,nilS,[],0,rfl,om,by rw[<-c];cases h:Cs.index 0 l<;>simp[h],om,rfl,a⟩ ?_;clear a c;rintro vs F ⟨i,ov,out,up,rfl,hi,c,G,x,a⟩ _;simp only[wO,gd,iN,dx,bnx,lnx,apx,gtx,etx,cx];rw[ER b];simp only[rs];by_cases f:((2*i:Nat):Int) < (l.length:Int)
 case neg=>
  simp only[alJ f,i_f];have:2*i=l.length:=om
  rw[this,List.drop_length,Cs.index] at c;obtain⟨N,hle,H,a⟩:=a.bJ 0 rfl;refine C out (by rw[<-c];simp) N ov F hle ?_ a;exact H
 simp only[alM f,i_t];have D:2*i < l.length:=om
 have E:2*i+1 < l.length:=om
 obtain⟨R,T,g,j,k,d,y⟩:=UJ b.sl b.all D;obtain⟨U,V,m,o,p,e,z⟩:=UJ b.sl b.all E;have I:l.drop (2*i)=l[2*i]::l[2*i+1]::l.drop (2*(i+1)):=by
  rw[anB D,anB E,show 2*(i+1)=2*i+1+1 by omega]
 rw[I,Cs.index] at c;have bad:∀{W},¬(Cs.inr l[2*i] 2147483647∧Cs.inr l[2*i+1] 2147483647∧up<=l[2*i].n∧l[2*i].n+l[2*i+1].n<=8192)->OwnS S w0 W (rnsE ov out::.mem M::L)->PK [upC] W:=by
  intro W h a;rw[alG h] at c;exact u (by rw[<-c];rfl) W a.tail
 have a:=a.drew;refine⟨λW=>M.has W,a.hasM 1 rfl,?_⟩;refine aR _ k ?_;refine jI (obV l[2*i] g j) (λW h=>aW (AtV.agg lF (cs:=obC l[2*i] g j) rfl (y W h))) ?_;refine aR (.int .i64 ((2*i+1:Nat):Int)) (λW=>by rw[Ia,aA om om];rfl) ?_;refine aR _ p ?_;refine jI (obV l[2*i+1] m o) (λW h=>aW (AtV.agg lF (cs:=obC l[2*i+1] m o) rfl (z W h))) ?_;refine G7 a d.oneK d.oneC dc (λq w2 a=>?_) (λq W a=>?_)
 rotate_left
 ·repeat refineλ_=>?_
  exact bad (λh=>q h.1) a
 refine⟨a.hasM 1 rfl,?_⟩;refine G7 a e.oneK e.oneC dc (λs w3 a=>?_) (λs W a=>?_)
 rotate_left
 ·repeat refineλ_=>?_
  exact bad (λh=>s h.2.1) a
 refine⟨a.hasM 1 rfl,?_⟩;have J:=q.2;have O:=s.2;simp only[rs];by_cases t:up<=l[2*i].n
 case neg=>
  simp only[alJ t,rs,g_un];exact kC (λh=>by cases h) λ_=>bad (λh=>t h.2.2.1) a
 simp only[alM t,rs];rw[aA om om];refine kC (λa2=>?_) λa2=>bad (λh=>(amR a2) h.2.2.2) a;have a2:=alZ a2;rw[alH ⟨q,s,t,a2⟩] at c;have P:∀{PK:PKT} {K:VWP},DoX ah (aS 135 #[(0,.int .i64 l[2*i].n),(1,.int .i64 l[2*i+1].n)]) w3 PK K=K (rnV (l[2*i].n,l[2*i+1].n)) w3:=aD krx;rw[P];refine Yr 0 a rfl om λB Y a=>?_
 try simp only[rs]
 rw[aA om om];refine aY ⟨i+1,B,out++[(l[2*i].n,l[2*i+1].n)],l[2*i].n+l[2*i+1].n,by rw[show ((2*i:Nat):Int)+2=((2*(i+1):Nat):Int) by omega],om,?_,om,by rw[alI,x];rfl,a⟩ (by simp[RowKit.intOf];omega);rw[<-c];cases Cs.index (l[2*i].n+l[2*i+1].n) (l.drop (2*(i+1))) with
|none=>rfl
|some r=>simp
end
end
section
open Eng Go.RowKit
namespace Cs
def why (x:Sec):Int:=
 if Tl.check x.aG≠0 then Tl.check x.aG
 else if x.own < 1∨8191 < x.own∨x.prev < -1∨2147483647 < x.prev then 1
 else if Vl.check 1 x.trailer≠0 then Vl.check 1 x.trailer
 else if x.trailer.k≠7 then 10 else if (dict x).2≠0 then (dict x).2 else 0
def Il (x:Sec)(i:It)(e:Int):Prop:=
 if why x≠0 then i=Dk.it0∧e=why x
 else ∃D,Ff.OneR Ff.nFl (pm x.aG) (rows x.aG) D 0∧e=(Ff.encF (dict x).1 (pm x.aG) D).2∧i=if (Ff.encF (dict x).1 (pm x.aG) D).2≠0 then Dk.it0 else ⟨x.own,0,(Ff.encF (dict x).1 (pm x.aG) D).1⟩
theorem QT (l:List Slt)(s:Slt)(a b:Nat):sX (l++[s]) a b=sX l a b++mT s a b:=by unfold sX;rw[aoQ,apQ]
end Cs
theorem OQ :DoX ah (mFA 63 (.pointer (ax ⟨b,0,aw⟩)) 5) w PK K=K (.pointer (ax ⟨b,10,aw⟩)) w:=aO fse5
theorem WJ {off:Nat}(hi:i < 3):(mIA 71 (.pointer (ax ⟨b,off,aw⟩)) (.int .i64 (i:Int))).run ah w=.ok (.value (.pointer (ax ⟨b,off+i,aw⟩))) w:=by
 rcases (by omega:i=0∨i=1∨i=2) with rfl|rfl|rfl<;>kernel_rfl
theorem m_k3 {k b:Int}:DoX ah (aS 71 #[(0,.int .i64 k),(1,.int .i64 a),(2,.int .i64 b)]) w PK K=K (.agg #[.int .i64 k,.int .i64 a,.int .i64 b]) w:=aD krx
theorem ajE {k b:Int}(hi:i < 3):DoX ah (mIx 71 (.agg #[.int .i64 k,.int .i64 a,.int .i64 b]) (.int .i64 (i:Int))) w PK K=K (.int .i64 ([k,a,b].getD i 0)) w:=by
 rcases (by omega:i=0∨i=1∨i=2) with rfl|rfl|rfl<;>exact aD krx
theorem Mu (x:Sec)(vs vk vc:aq)(M:Mem)(w:ao)(c4:Pws M)(hb:x.aG.length<=8192)(hw:x.trailer.wt<=10000000)(hM:M.has w)
  (u:SlA M.A M.w vs 4 x.aG.length (slsC x.aG)) (U:OV M.A M.w (obV x.trailer vk vc) x.trailer) :
  RetM ah 38 #[secV x vs vk vc] M w (λr N=>∃i e Z ic,r=.tuple #[itV i Z ic,.int .i64 e]∧Cs.Il x i e∧OV N.A N.w (obV i.obj Z ic) i.obj):=by
 refine bB hM λK hK=>HS ?_;unfold EL nz;refine abL x u.one U.oneK U.oneC (OwnS.memS hM) λl w1 c=>?_;refine Zj c λb2 w2 c=>?_;have no:∀{W:ao} {N:Mem} {L:List Ent} {e:Int},OwnS M.A w W (itE b2 Dk.it0 nilS nilS::.mem N::L)->M.le N->Cs.why x=e->e≠0->DoX ah (aS 57 #[]) W (pk K) (λt W=>DoX ah (aN 57 (.pointer (ax ⟨b2,0,aw⟩)) t) W (pk K) λ_ W=>RetX ah [.cell (.pointer (ax ⟨b2,0,aw⟩)) 57,.val (.int .i64 e)] W K):=by
  intro W N L e c hle he c5;rw[aeV];refine Mx 0 (i':=Dk.it0) rfl rfl c rfl λw4 c=>?_;refine vO (bI (c.agg 0 rfl Ro)) uI (hK _ _ N _ 1 c rfl hle ⟨Dk.it0,e,nilS,nilS,rfl,?_,uZ N⟩);unfold Cs.Il;rw[he,alH c5];exact⟨rfl,rfl⟩
 have c:OwnS M.A w w2 [itE b2 Dk.it0 nilS nilS,secE l x vs vk vc,.mem M]:=c;have swp:∀{W:ao} {N:Mem},OwnS M.A w W [itE b2 Dk.it0 nilS nilS,secE l x vs vk vc,.mem N]->OwnS M.A w W (itE b2 Dk.it0 nilS nilS::.mem N::[secE l x vs vk vc]):=λc=>by
  have c:OwnS M.A w _ ([itE b2 Dk.it0 nilS nilS]++([secE l x vs vk vc]++[.mem _])):=c;exact (OwnS.perm c (auB _ (arH)))
 rw[L7,SW c 1 rfl];refine aM c (R:=λv=>v=.int .i64 (Tl.check x.aG)) (Jm x.aG vs M w2 om (c.hasM 2 rfl) u) ?_;rintro _ w3 rfl c;have m:=Cs.why.eq_1 x;simp only[eS];by_cases hc:Tl.check x.aG=0
 case neg=>
  rw[alH hc] at m;simp only[alM (show Tl.check x.aG≠0 from hc),i_t];exact no (swp c) M.le_refl m hc
 rw[alG (λh=>h hc)] at m;simp only[hc,show ai ((0:Int)≠0)=au from rfl,i_f];rw[OQ,aJ aU (c.cell 1 rfl 10 rfl)];simp only[rs];have bad:x.own < 1∨8191 < x.own∨x.prev < -1∨2147483647 < x.prev->Cs.why x=1:=λh=>by rw[m,alH h]
 by_cases a1:x.own < 1
 ·simp only[alM a1,rs,g_un,i_t];exact no (swp c) M.le_refl (bad (.inl a1)) dc
 simp only[alJ a1,rs];rw[OQ,aJ aU (c.cell 1 rfl 10 rfl)];simp only[rs];by_cases a2:8191 < x.own
 ·simp only[alM a2,rs,g_un,i_t];exact no (swp c) M.le_refl (bad (.inr (.inl a2))) dc
 simp only[alJ a2,rs];rw[PJ,aJ aU (c.cell 1 rfl 8 rfl)];simp only[rs];by_cases a3:x.prev < -1
 ·simp only[alM a3,rs,g_un,i_t];exact no (swp c) M.le_refl (bad (.inr (.inr (.inl a3)))) dc
 simp only[alJ a3,rs];rw[PJ,aJ aU (c.cell 1 rfl 8 rfl)];simp only[rs];by_cases a4:2147483647 < x.prev
 ·simp only[alM a4,rs,i_t];exact no (swp c) M.le_refl (bad (.inr (.inr (.inr a4)))) dc
 simp only[alJ a4,rs,i_f];rw[alG (by rintro (h|h|h|h);exact a1 h;exact a2 h;exact a3 h;exact a4 h)] at m;rw[Tw,afE c 1 rfl];refine aM c (R:=λv=>v=.int .i64 (Vl.check 1 x.trailer)) (jF x.trailer _ w3 (OV.inw (c.hasM 2 rfl) U) om) ?_;rintro _ w4 rfl c;simp only[eS];by_cases hk:Vl.check 1 x.trailer=0
 case neg=>
  rw[alH hk] at m;simp only[alM (show Vl.check 1 x.trailer≠0 from hk),i_t];exact no (swp c) M.le_refl m hk
 rw[alG (λh=>h hk)] at m;simp only[hk,show ai ((0:Int)≠0)=au from rfl,i_f];rw[Tw,fR,adU c 1 rfl];simp only[rs];by_cases h7:x.trailer.k=7
 case neg=>
  rw[alH h7] at m;simp only[alM (show x.trailer.k≠7 from h7),i_t];exact no (swp c) M.le_refl m dc
 rw[alG (λh=>h h7)] at m;simp only[alJ (show ¬x.trailer.k≠7 fromλh=>h h7),i_f];rw[L7,SW c 1 rfl];refine bH c 2 rfl (BF x.aG vs M w4 om (c.hasM 2 rfl) u) ?_;rintro _ N1 w5 l1 rfl c;refine o_w3 c λf w6 c=>?_;refine UC 0 rfl c rfl λw7 c=>?_;have c:OwnS M.A w w7 [.cells f (w3C (Cs.wa x.aG:Nat) (Cs.wb x.aG:Nat)) 71,itE b2 Dk.it0 nilS nilS,secE l x vs vk vc,.mem N1]:=c;rw[se_v c 2 rfl,l_at (c.agg 0 rfl agg3)];have c6:=Tl.Hs hc;have j0:=Cs.Qk x.trailer;refine bH c 3 rfl (TE x vs vk vc N1 w7 hb (VL hc) (λr hr=>by have:=c6 r hr;omega) om om (c.hasM 3 rfl) (u.le l1) (U.le l1)) ?_;have F:=@Cs.Le x;have a6:(Cs.dict x).1.wt<=100000000:=by
  have hp:=(Cs.KA x (by have:=Tl.B4 x.aG;omega));have h:=Cs.Gx (Cs.bF x) (Cs.sS x.trailer) 100000 hp.1;have h2:(100000+11)*(Cs.bF x).length<=(100000+11)*5:=asZ _ hp.2;unfold Cs.dict;omega
 have V:=Cs.Il.eq_1 x;generalize Cs.dict x=P at m F a6 V;obtain⟨o,pe⟩:=P;dsimp only at m F a6 V;rintro _ T w8 l2 ⟨ov,rfl,a7⟩ c;obtain⟨ok,z,j1,rfl,a8⟩:=a7.open;dsimp only at a8 a7;simp only[errV,ex];refine fO c λs w9 c=>?_;refine bK 0 a8.keys.one a8.kids.one c rfl λc7 c=>?_;have c:OwnS M.A w c7 [obE s o ok z,.cells f (w3C (Cs.wa x.aG:Nat) (Cs.wb x.aG:Nat)) 71,itE b2 Dk.it0 nilS nilS,secE l x vs vk vc,.mem T]:=c;simp only[eS];by_cases B:pe=0
 case neg=>
  rw[alH B] at m;simp only[alM (show pe≠0 from B),i_t];exact no (swp c.tail.tail) (l1.trans l2) m B
 rw[alG (λh=>h B)] at m;simp only[alJ (show ¬pe≠0 fromλh=>h B),i_f];have F:=F B;rw[L7,SW c 3 rfl,bE aoU (((u.le l1).le l2).now (c.hasM 4 rfl))];have b5:=(u.le l1).le l2;have c8:=Cs.JQ x.aG;have c9:=Cs.KS x.aG;have b8:∀i,(Cs.sX (x.aG.take i) (Cs.wa x.aG) (Cs.wb x.aG)).length<=8192*9:=by
  intro i;rw[Cs.sG];exact aoR (by rw[alR];omega) om
 have b9:pmV (Cs.pm x.aG)=.agg #[.int .i64 12,.int .i64 1,.int .i64 (1+(Cs.wa x.aG:Nat)+(Cs.wb x.aG:Nat))]:=rfl;have G:Cs.rows x.aG=Cs.sX x.aG (Cs.wa x.aG) (Cs.wb x.aG):=rfl;generalize h0:Cs.wa x.aG=a at *;generalize h8:Cs.wb x.aG=d at *;have c:=OwnS.nilU c 5 1;refine loop (λvs' W=>∃(i:Nat) (ov:aq),vs'=[ov,.int .i64 (i:Int)]∧i<=x.aG.length∧OwnS M.A w W [outR ov (Cs.sX (x.aG.take i) a d),obE s o ok z,.cells f (w3C a d) 71,itE b2 Dk.it0 nilS nilS,secE l x vs vk vc,.mem T]) (λvs _=>x.aG.length - n1 vs) ⟨0,nilS,rfl,om,c⟩ ?_;clear c;rintro vs' n ⟨i,ov,rfl,hi,c⟩ _;simp only[AQ,gd,rs,nz];by_cases c0:(i:Int) < (x.aG.length:Int)
 ·simp only[alM c0,i_t];have c1:i < x.aG.length:=om
  obtain⟨g,off,hr⟩:=oJ b5 c1;obtain⟨r1,r2⟩:=hr n (c.hasM 5 rfl);refine aD r1 |>.mpr (aD (BJ r2) |>.mpr ?_);refine KD c λj2 e0 c=>?_;refine HQ (y:=x.aG[i]) 0 c rfl λb0 c=>?_;rw[MF,aJ aU (c.cell 0 rfl 1 rfl),Ql,aJ aU (c.cell 0 rfl 2 rfl),O2,aJ aU (c.cell 0 rfl 3 rfl),m_k3];have c:OwnS M.A w b0 [outR ov (Cs.sX (x.aG.take i) a d),obE s o ok z,.cells f (w3C a d) 71,itE b2 Dk.it0 nilS nilS,secE l x vs vk vc,.mem T]:=c.tail;have e1:=b8 i;generalize hq:Cs.sX (x.aG.take i) a d=q at c e1;have b3:Cs.sX (x.aG.take (i+1)) a d=q++Cs.mT x.aG[i] a d:=by rw[DW c1,Cs.QT,hq]
  refine loop (λvs' W=>∃(j:Nat) (ov:aq),vs'=[ov,.int .i64 (j:Int)]∧j<=3∧OwnS M.A w W [outR ov (q++(if 0 < j then Cs.num x.aG[i].kind 1 else [])++(if 1 < j then Cs.num x.aG[i].a a else [])++(if 2 < j then Cs.num x.aG[i].b d else [])),obE s o ok z,.cells f (w3C a d) 71,itE b2 Dk.it0 nilS nilS,secE l x vs vk vc,.mem T]) (λvs _=>3 - n1 vs) ⟨0,ov,rfl,om,by simpa using c⟩ ?_;clear c;rintro vs' C ⟨j,H,rfl,hj,c⟩ _;simp only[Av,gd,rs,nz];by_cases h3:(j:Int) < 3
  ·simp only[alM h3,i_t];have c2:j < 3:=om
   rw[ajE c2,aD (WJ c2)];rcases (by omega:j=0∨j=1∨j=2) with rfl|rfl|rfl
   ·have c:OwnS M.A w C (outR H q::[obE s o ok z,.cells f (w3C a d) 71,itE b2 Dk.it0 nilS nilS,secE l x vs vk vc,.mem T]):=by simpa using c
    rw[aJ aU (c.cell 2 rfl 0 rfl)];refine HY (wd:=1) c dc om λI J c=>?_
    try simp only[rs]
    exact aY ⟨1,I,rfl,om,by simpa using c⟩ (by show (2:Nat) < 3;decide)
   ·have c:OwnS M.A w C (outR H (q++Cs.num x.aG[i].kind 1)::[obE s o ok z,.cells f (w3C a d) 71,itE b2 Dk.it0 nilS nilS,secE l x vs vk vc,.mem T]):=by simpa using c
    rw[aJ aU (c.cell 2 rfl 1 rfl)];refine HY (wd:=a) c c8 (by rw[alI,Cs.jP];omega) λI J c=>?_
    try simp only[rs]
    exact aY ⟨2,I,rfl,om,by simpa using c⟩ (by show (1:Nat) < 2;decide)
   ·have c:OwnS M.A w C (outR H (q++Cs.num x.aG[i].kind 1++Cs.num x.aG[i].a a)::[obE s o ok z,.cells f (w3C a d) 71,itE b2 Dk.it0 nilS nilS,secE l x vs vk vc,.mem T]):=by simpa using c
    rw[aJ aU (c.cell 2 rfl 2 rfl)];refine HY (wd:=d) c c9 (by rw[alI,alI,Cs.jP,Cs.jP];omega) λI J c=>?_
    try simp only[rs]
    exact aY ⟨3,I,rfl,om,by simpa using c⟩ (by show (0:Nat) < 1;decide)
  simp only[alJ h3,i_f];have:j=3:=om
  subst this;have c:OwnS M.A w C [outR H (q++Cs.mT x.aG[i] a d),obE s o ok z,.cells f (w3C a d) 71,itE b2 Dk.it0 nilS nilS,secE l x vs vk vc,.mem T]:=by
   have e:q++Cs.mT x.aG[i] a d=q++Cs.num x.aG[i].kind 1++Cs.num x.aG[i].a a++Cs.num x.aG[i].b d:=by unfold Cs.mT;rw[alS,alS,alS]
   rw[e];simpa using c
  try simp only[rs]
  rw[aA om om];refine aY ⟨i+1,H,rfl,om,?_⟩ (by simp[n1,RowKit.intOf];omega);rw[b3];exact c
 simp only[alJ c0,i_f];have:i=x.aG.length:=om
 subst this;rw[anI] at c;have e2:=b8 x.aG.length;rw[anI] at e2;have ia:∀(i:Nat) {W:ao},i < 3->∀{PK:PKT} {K:VWP},DoX ah (mIA 71 (.pointer (ax ⟨f,0,aw⟩)) (.int .i64 (i:Int))) W PK K=K (.pointer (ax ⟨f,0+i,aw⟩)) W:=λi _ h=>aD (WJ h);rw[show DoX ah (mIA 71 (.pointer (ax ⟨f,0,aw⟩)) (.int .i64 0)) n (pk K)=λY=>Y (.pointer (ax ⟨f,0+0,aw⟩)) n from funext λY=>ia 0 dc];dsimp only;rw[aJ aU (c.cell 2 rfl 0 rfl)];rw[show DoX ah (mIA 71 (.pointer (ax ⟨f,0,aw⟩)) (.int .i64 1)) n (pk K)=λY=>Y (.pointer (ax ⟨f,0+1,aw⟩)) n from funext λY=>ia 1 dc];dsimp only;rw[aJ aU (c.cell 2 rfl 1 rfl),Mq,aA om om];rw[show DoX ah (mIA 71 (.pointer (ax ⟨f,0,aw⟩)) (.int .i64 2)) n (pk K)=λY=>Y (.pointer (ax ⟨f,0+2,aw⟩)) n from funext λY=>ia 2 dc];dsimp only;rw[aJ aU (c.cell 2 rfl 2 rfl),Mq,aA om om];have c3:∀{W:ao} {PK:PKT} {K:VWP},DoX ah (aS 27 #[(0,.int .i64 12),(1,.int .i64 1),(2,.int .i64 (1+(a:Int)+(d:Int)))]) W PK K=K (pmV (Cs.pm x.aG)) W:=by
  intro W PK K;rw[b9];exact aD krx
 rw[c3];have e3:=Cs.ajL x.aG;have e4:=Cs.pm_I x.aG;have b4:=Cs.FR hb;have e5:=Cs.FQ hb;have h9:=Cs.ZO x.aG;rw[G] at b4 e5;simp only[m,G] at V;generalize Cs.pm x.aG=p at *;generalize Cs.sX x.aG a d=data at *;refine bA (λb=>.pointer (ax ⟨b,0,aw⟩)) (pmC ⟨0,0,0⟩) 27 (λ_=>by kernel_rfl) c λE e0 c=>?_;refine gY 0 c rfl (new:=pmC p) szPm Gj rfl λb0 c=>?_;have c:OwnS M.A w b0 [pmE E p,outR ov data,obE s o ok z,.cells f (w3C a d) 71,itE b2 Dk.it0 nilS nilS,secE l x vs vk vc,.mem T]:=c;rw[ob_v c 2 rfl];refine Nz Ff.nFl c λnb C c=>?_;obtain⟨N3,l3,b3,c⟩:=OwnS.bJ (L:=[pmE E p,outR ov data,obE s o ok z,.cells f (w3C a d) 71,itE b2 Dk.it0 nilS nilS,secE l x vs vk vc,.mem T]) (c.toU 1 1 1 rfl om om) 6 rfl;have c:OwnS M.A w C [pmE E p,outR ov data,obE s o ok z,.cells f (w3C a d) 71,itE b2 Dk.it0 nilS nilS,secE l x vs vk vc,.mem N3]:=c;rw[pm_v c 0 rfl];refine bA (λb=>.slice (ax ⟨b,0,aw⟩) 1 1) (pmC p) 27 (λ_=>by kernel_rfl) c λj3 J c=>?_;obtain⟨N4,l4,e6,c⟩:=OwnS.bJ (L:=[pmE E p,outR ov data,obE s o ok z,.cells f (w3C a d) 71,itE b2 Dk.it0 nilS nilS,secE l x vs vk vc,.mem N3]) (c.toU 3 1 1 rfl om om) 6 rfl;have c:OwnS M.A w J [pmE E p,outR ov data,obE s o ok z,.cells f (w3C a d) 71,itE b2 Dk.it0 nilS nilS,secE l x vs vk vc,.mem N4]:=c;rw[JP amJ anQ alV (wT (c.at_ 1 rfl))];have O:=(((l1.trans l2).trans l3).trans l4);refine bH c 6 rfl (TO o _ Ff.nFl p _ _ data N4 J (c4.le O) (.inr F) dc e3 e4 b4 om a6 (λD hD=>?_) (c.hasM 6 rfl) ((a7.le l3).le l4) (b3.le l4) e6) ?_
 ·unfold Ff.OneR at hD;rw[alG dc,alH dc,alH b4] at hD;have:=Ff.PL o D;omega
 rintro _ N5 j4 l5 ⟨D,rv,hD,rfl,X⟩ c;have hX:∀(W:ao) (N:Mem) (L:List Ent) (i:Nat) (it:It) (e:Int) (Z ic:aq),OwnS M.A w W L->L[i]?=ax (.mem N)->M.le N->e=(Ff.encF o p D).2->it=(if (Ff.encF o p D).2≠0 then Dk.it0 else ⟨x.own,0,(Ff.encF o p D).1⟩)->OV N.A N.w (obV it.obj Z ic) it.obj->K (.returned (.tuple #[itV it Z ic,.int .i64 e])) W:=λW N L i it e Z ic h1 h2 h3 h4 h5 h6=>
  hK _ W N L i h1 h2 h3 ⟨it,e,Z,ic,rfl,by rw[V,alG (λh=>h rfl)];exact⟨D,hD,h4,h5⟩,h6⟩
 generalize Ff.encF o p D=R at X hX;obtain⟨y,ye⟩:=R;obtain⟨yk,yc,j5,rfl,Q⟩:=X.open;dsimp only at Q X hX;simp only[errV,ex];refine bK 2 Q.keys.one Q.kids.one c rfl λe7 c=>?_;have c:OwnS M.A w e7 [pmE E p,outR ov data,obE s y yk yc,.cells f (w3C a d) 71,itE b2 Dk.it0 nilS nilS,secE l x vs vk vc,.mem N5]:=c;simp only[eS];by_cases S:ye=0
 case neg=>
  simp only[alM (show ye≠0 from S),i_t];rw[aeV];refine Mx 4 (i':=Dk.it0) rfl rfl c rfl λe8 c=>?_;refine vO (bI (c.agg 4 rfl Ro)) uI (hX _ N5 _ 6 Dk.it0 ye nilS nilS c rfl (O.trans l5) rfl (by rw[alH S]) (uZ N5))
 simp only[alJ (show ¬ye≠0 fromλh=>h S),i_f];rw[OQ,aJ aU (c.cell 5 rfl 10 rfl),ob_v c 2 rfl];have e9:∀{W:ao} {PK:PKT} {K:VWP},DoX ah (aS 57 #[(0,.int .i64 x.own),(2,obV y yk yc)]) W PK K=K (itV ⟨x.own,0,y⟩ yk yc) W:=aD krx;rw[e9];refine Mx 4 (i':=⟨x.own,0,y⟩) Q.keys.one Q.kids.one c rfl λe8 c=>?_;exact vO (bI (c.agg 4 rfl Ro)) uI (hX _ N5 _ 6 ⟨x.own,0,y⟩ 0 yk yc c rfl (O.trans l5) S.symm (by rw[alG (λh=>h S)]) X)
end
section
open Eng Go.RowKit
structure Stm where
 w:List Int
 bF:List (Int×Int)
 prev:Int
namespace Cs
def got (o:Ob)(k:List UInt8):Ob:=(Vl.get o k).getD Vl.ob0
def tZ (o:Ob):Option (List (Int×Int)):=match Vl.get o gJ with|none=>ax [(0,(got o iX).n)]|some v=>if v.k=6 then index 0 v.kids else aw
def ES (o:Ob):Option Int:=match Vl.get o qT with|none=>ax (-1)|some v=>if inr v 2147483647 then ax v.n else aw
def isX (o:Ob):Prop:=o.k=9∧((got o mV).k=5∧(got o mV).s=xP)∧inr (got o iX) 8192∧(got o kW).k=6∧(got o kW).kids.length=3∧∀x∈(got o kW).kids,inr x 4
instance (o:Ob):Decidable (isX o):=inferInstanceAs (Decidable (_∧_))
def keys (o:Ob):Option Stm:=
 if isX o then (tZ o).bind λp=>(ES o).map λq=>⟨(got o kW).kids.map Ob.n,p,q⟩ else aw
def ws (l:List Int)(i:Nat):List Int:=l.take i++List.replicate (3 - i) 0
theorem Lj {k:List UInt8}:(got o k).wt<=o.wt:=Vl.Yw
end Cs
def stmC (x:Stm)(pv:aq):List Value:=x.w.map (.int .i64 ·)++[pv,.int .i64 x.prev]
def stmV (x:Stm)(pv:aq):Value:=.agg (stmC x pv).toArray
abbrev stmE (b:Nat)(x:Stm)(pv:aq):Ent:=.cells b (stmC x pv) 118
def stm0:Stm:=⟨[0,0,0],[],0⟩
theorem Zd {l:List Int}{ps:List (Int×Int)}{q:Int}(h:l.length=3)(hi:i < l.length):(stmC ⟨Cs.ws l i,ps,q⟩ pv).set (0+i) (.int .i64 l[i])=stmC ⟨Cs.ws l (i+1),ps,q⟩ pv:=by
 match l,h with
|[a,b,c],_=>rcases (by have:i < 3:=hi;omega:i=0∨i=1∨i=2) with rfl|rfl|rfl<;>rfl
theorem ws3 {l:List Int}(h:l.length=3):Cs.ws l 3=l∧∀i,(Cs.ws l i).length=3∨3 < i:=by
 match l,h with
|[a,b,c],_=>exact⟨rfl,λi=>by
   rcases (by omega:i=0∨i=1∨i=2∨i=3∨3 < i) with rfl|rfl|rfl|rfl|h
   ·exact .inl rfl
   ·exact .inl rfl
   ·exact .inl rfl
   ·exact .inl rfl
   ·exact .inr h⟩
theorem X9 {l:List Int}{ps ps':List (Int×Int)}{q:Int}{d:aq}(h:l.length=3):(stmC ⟨l,ps,q⟩ pv).set 3 d=stmC ⟨l,ps',q⟩ d:=by
 match l,h with
|[a,b,c],_=>rfl
theorem Xs {l:List Int}{ps:List (Int×Int)}{q d:Int}(h:l.length=3):(stmC ⟨l,ps,q⟩ pv).set 4 (.int .i64 d)=stmC ⟨l,ps,d⟩ pv:=by
 match l,h with
|[a,b,c],_=>rfl
theorem pW {x:Stm}(h:x.w.length=3):(stmC x pv).length=5:=by unfold stmC;rw[alI,amT,h];rfl
theorem Wc {x:Stm}(h:pv.oneCell'=av):∀v∈stmC x pv,v.oneCell'=true:=by
 intro v a;rcases amK.1 a with a|a
 ·obtain⟨n,_,rfl⟩:=amM.1 a;rfl
 ·simp only[alN,anA,or_false] at a;rcases a with rfl|rfl
  ·exact h
  ·rfl
theorem SZ {x:Stm}(h:x.w.length=3):(stmC x pv)[3]?=ax pv∧(stmC x pv)[4]?=ax (.int .i64 x.prev)∧∀i (hi:i < x.w.length),(stmC x pv)[i]?=ax (.int .i64 x.w[i]):=by
 obtain⟨l,ps,q⟩:=x
 match l,h with
|[a,b,c],_=>
  refine⟨rfl,rfl,λi hi=>?_⟩;rcases (by have:i < 3:=hi;omega:i=0∨i=1∨i=2) with rfl|rfl|rfl<;>rfl
theorem U8:aggN ah 118=ax 5:=krx
theorem aiV:(Tryz.prog.info? 118).map (·.size)=ax 5:=krx
theorem fst0:fOff ah 118 0=ax 0:=krx
theorem fst1:fOff ah 118 1=ax 3:=krx
theorem fst2:fOff ah 118 2=ax 4:=krx
theorem nRns:eD ah 116=true:=krx
section
variable {w:ao}{PK PK2 PK3 PK4 PK5 PK6:PKT}{K:VWP}{S:Nat->Prop}{w0:ao}{L:List Ent}
theorem Yp :DoX ah (mFA 118 (.pointer (ax ⟨b,0,aw⟩)) 0) w PK K=K (.pointer (ax ⟨b,0,aw⟩)) w:=aO fst0
theorem Tu :DoX ah (mFA 118 (.pointer (ax ⟨b,0,aw⟩)) 1) w PK K=K (.pointer (ax ⟨b,3,aw⟩)) w:=aO fst1
theorem Yu :DoX ah (mFA 118 (.pointer (ax ⟨b,0,aw⟩)) 2) w PK K=K (.pointer (ax ⟨b,4,aw⟩)) w:=aO fst2
theorem T6 (a:OwnS S w0 w L)(k:∀b w',OwnS S w0 w' (stmE b stm0 nilS::L)->K (.pointer (ax ⟨b,0,aw⟩)) w'):DoX ah (iL 118) w PK K:=
 bA (λb=>.pointer (ax ⟨b,0,aw⟩)) (stmC stm0 nilS) 118 (λ_=>by kernel_rfl) a k
theorem akH:DoX ah (aS 118 #[(2,.int .i64 (-1))]) w PK K=K (stmV ⟨[0,0,0],[],-1⟩ nilS) w:=aD krx
theorem MR (j:Nat){c:List aq}{x:Stm}(d:x.w.length=3)(hp:pv.oneCell'=av)(g:c.length=5)(a:OwnS S w0 w L)(hi:L[j]?=ax (.cells b c 118))(k:∀w',OwnS S w0 w' (L.set j (stmE b x pv))->K undef w') :
  DoX ah (aN 118 (.pointer (ax ⟨b,0,aw⟩)) (stmV x pv)) w PK K:=by
 have f:=pW (pv:=pv) d;refine xH j a hi (new:=stmC x pv) (by rw[f];exact aiV) (Wc hp) om λw' a=>k w' ?_;have e:c.take 0++stmC x pv++c.drop (0+(stmC x pv).length)=stmC x pv:=by
  rw[anR om];simp
 rw[e] at a;exact a
theorem LX {K:aq->VWP}{d:Nat}{e f:Ent}(a:OwnS S w0 w (e::f::obE d o vk vc::.mem M::L))(hw:o.wt<=100000000000)(j:OV M.A M.w (obV o vk vc) o)
  (k:∀N b h i W,M.le N->OV N.A N.w (obV (Cs.got o key) h i) (Cs.got o key)->OwnS S w0 W (obE b (Cs.got o key) h i::e::f::obE d o vk vc::.mem N::L)->K (.pointer (ax ⟨b,0,aw⟩)) (.bool (Vl.get o key).isSome) W) :
  DoX ah (aH 25 (.pointer (ax ⟨d,0,aw⟩))) w PK λt w=>CallX ah 146 #[t,.string ⟨key.toArray⟩] w PK2 λr w=>DoX ah (mExt r 0) w PK3 λx w=>DoX ah (mExt r 1) w PK4 λg w=>
   DoX ah (iL 25) w PK5 λp w=>DoX ah (aN 25 p x) w PK6 λ_ w=>K p g w:=by
 rw[ob_v a 2 rfl];refine bH a 3 rfl (zN o _ key M w hw (a.hasM 3 rfl) j) ?_;rintro _ N w2 hle ⟨t,rfl,c⟩ a;obtain⟨l,m,rfl,c⟩:=Gi c;simp only[getV,ex];refine fO a λn s a=>?_;refine bK 0 c.oneK c.oneC a rfl λq a=>?_;exact k N n l m q hle c a
end
end
section
open Go Eng
namespace Vl
theorem O8 (a:keyed o=av)(k:List UInt8):get o k=lk k o.keys o.kids:=by
 unfold get;rw[alH a,V2]
theorem C6 {key k:List UInt8}(h:k≠key):∀(b:List (List UInt8)) (cs:List Ob),lk k (eM key b cs).1 (eM key b cs).2=lk k b cs
|[],cs=>by cases cs<;>rfl
|a::b,[]=>rfl
|a::b,c::cs=>by
  have d:=C6 h b cs;unfold eM;split
  ·rename_i e
   rw[d,lk,alG (λf=>h (by rw[<-f,e]))]
  ·rw[lk,lk,d]
theorem Oo {k:List UInt8}{v:Ob}(h:(set o k v).2=0)(d:v.k≠0):set o k v=(put o k v,0)∧keyed o=av∧check 1 o=0∧check 1 (put o k v)=0:=by
 unfold set at h ⊢;by_cases c:keyed o=au
 ·rw[alH c] at h;cases h
 rw[alG c] at h ⊢;by_cases a:check 1 o≠0
 ·rw[alH a] at h;exact absurd h a
 rw[alG a,alG d] at h ⊢;unfold right at h ⊢;by_cases b:check 1 (put o k v)≠0
 ·rw[alH b] at h;exact absurd h b
 rw[alG b];exact⟨rfl,by cases h:keyed o<;>simp_all,aoP.1 a,aoP.1 b⟩
end Vl
namespace Cs
theorem Mg:∀{l:List (List UInt8×Ob)} {o:Ob},(mI o l).2=0->(∀p∈l,p.2.k≠0)->(l.map (·.1)).Nodup->l≠[] ->
  Vl.keyed (mI o l).1=av∧Vl.check 1 (mI o l).1=0∧(∀p∈l,Vl.get (mI o l).1 p.1=ax p.2)∧∀k,k ∉ l.map (·.1)->Vl.get (mI o l).1 k=Vl.get o k
|[],_,_,_,_,h=>absurd rfl h
|p::r,o,h,j,c,_=>by
  unfold mI at h ⊢;by_cases d:(Vl.set o p.1 p.2).2≠0
  ·rw[alH d] at h;exact absurd h d
  rw[alG d] at h ⊢;obtain⟨e,a,u,f⟩:=Vl.Oo (aoP.1 d) (j p (amV ..));rw[e] at h ⊢;dsimp only at h ⊢;have m:=(Vl.lE u a).2;have g:Vl.keyed (Vl.put o p.1 p.2)=true:=a;have c:p.1 ∉ r.map (·.1)∧(r.map (·.1)).Nodup:=by simpa using c
  have n:=Vl.Na (key:=p.1) (v:=p.2) a m;have s:∀k,p.1≠k->Vl.get (Vl.put o p.1 p.2) k=Vl.get o k:=λk i=>Vl.zV m i;by_cases t:r=[]
  ·subst t;refine⟨g,f,λq b=>?_,λk a=>?_⟩
   ·rw[amH.1 b];exact n
   ·exact s k (λe=>a (by simp[e]))
  obtain⟨i1,i2,i3,i4⟩:=Mg h (λq b=>j q (amG _ b)) c.2 t;refine⟨i1,i2,λq b=>?_,λk a=>?_⟩
  ·rcases alN.1 b with rfl|b
   ·rw[i4 _ c.1];exact n
   ·exact i3 q b
  ·rw[i4 k (λh=>a (by simp[h])),s k (λe=>a (by simp[e]))]
end Cs
end
section
open Go Eng
namespace Ff
theorem Ug (p:Pm):parm (eN p)=(p,0):=by
 have a:num (eN p) FG=(p.p,0):=rfl;have b:num (eN p) FM=(p.c,0):=rfl;have d:num (eN p) Fz=(p.n,0):=rfl;unfold parm;rw[alG (show ¬(eN p).k=0 by show ¬(7:Int)=0;decide),a,b,d,alH ⟨rfl,rfl,rfl,rfl⟩]
theorem Rj (p:Pm):eight (eN p)=true:=rfl
theorem R9 {p:Pm}{D data:List UInt8}(h:(encF o p D).2=0)(B:OneR nFl p data D 0)(d:p.ok)(C:D.length<=1048576)(E:data.length<=1048576) :
  (encF o p D).1.k=9∧Vl.check 1 (encF o p D).1=0∧(decode (encF o p D).1=(data,0)∧of (encF o p D).1=([nFl],[p],0))∧∀k,k≠aX->k≠cL->k≠Vl.lenK->(o.k=7∨o.k=9)->Vl.get (encF o p D).1 k=Vl.get o k:=by
 unfold encF at h ⊢;by_cases a:(plain o D).2≠0
 ·rw[alH a] at h;exact absurd h a
 rw[alG a] at h ⊢;by_cases j:(Vl.set (plain o D).1 aX (cA nFl)).2≠0
 ·rw[alH j] at h;exact absurd h j
 rw[alG j] at h ⊢;by_cases e:(Vl.set (Vl.set (plain o D).1 aX (cA nFl)).1 cL (eN p)).2≠0
 ·rw[alH e] at h;exact absurd h e
 rw[alG e];have a:=aoP.1 a;obtain⟨t,F,N,O,Q,R⟩:=Pu a C;obtain⟨G,u,H,I⟩:=Vl.Oo (aoP.1 j) (show (5:Int)≠0 by decide);rw[G] at e ⊢;obtain⟨J,w,_,K⟩:=Vl.Oo (aoP.1 e) (show (7:Int)≠0 by decide);rw[J];have f:=(Vl.lE H u).2;have b:=(Vl.lE I w).2;have x:=Vl.Na (key:=cL) (v:=eN p) w b;have y:Vl.get (Vl.put (Vl.put (plain o D).1 aX (cA nFl)) cL (eN p)) aX=ax (cA nFl):=by
  rw[Vl.zV b dc];exact Vl.Na u f
 refine⟨t,K,?_,λk n1 n2 n3 l=>?_⟩
 ·have g:(Vl.put (Vl.put (plain o D).1 aX (cA nFl)) cL (eN p)).k=9:=t;have z:(Vl.put (Vl.put (plain o D).1 aX (cA nFl)) cL (eN p)).s=D:=F;generalize Vl.put (Vl.put (plain o D).1 aX (cA nFl)) cL (eN p)=P at x y g z;have c:filt P=[cA nFl]:=by unfold filt;rw[y];rfl
  have L:names P=([nFl],0):=by unfold names;rw[c];rfl
  have M:tS P=([eN p],0):=by unfold tS;rw[x];rfl
  have m:tO P 1=([p],0):=by
   unfold tO;rw[M];simp only[List.any_cons,List.any_nil,Ug,Rj,anE,apS];rfl
  have i:of P=([nFl],[p],0):=by
   unfold of;rw[alG (λh=>h g),L];dsimp only;rw[alG dc,show ([nFl]:List (List UInt8)).length=1 from rfl,m];dsimp only;rw[alG dc,alG (by simp[d])]
  refine⟨?_,i⟩;unfold decode;rw[i,z];dsimp only;rw[alG dc];unfold chain;rw[VF B rfl E,alG (by show ¬((0:Int)≠0);decide)];rfl
 ·rw[Vl.zV b (Ne.symm n2),Vl.zV f (Ne.symm n1)];have n:(plain o D).1=Bd.strm (bare o) D:=by
   unfold plain at a ⊢;by_cases A:o.k≠9∧o.k≠7
   ·rw[alH A] at a;cases a
   rw[alG A] at a ⊢;by_cases q:Vl.check 1 (nL o)≠0
   ·rw[alH q] at a;exact absurd a q
   rw[alG q]
  have r:Vl.keyed o=true:=by rcases l with h|h<;>simp[Vl.keyed,h]
  rw[n,Vl.O8 (o:=Bd.strm (bare o) D) rfl,Vl.O8 r];show Vl.lk k (Vl.eM Vl.lenK _ _).1 (Vl.eM Vl.lenK _ _).2=_;rw[Vl.C6 n3];show Vl.lk k (Vl.eM cL _ _).1 (Vl.eM cL _ _).2=_;rw[Vl.C6 n2];show Vl.lk k (Vl.eM aX _ _).1 (Vl.eM aX _ _).2=_;rw[Vl.C6 n1];rfl
end Ff
end
section
open Eng Go.RowKit
section
variable {w:ao}{PK:PKT}{K:VWP}{S:Nat->Prop}{w0:ao}{L:List Ent}
theorem adW (a:OwnS S w0 w (.mem M::L))(hw:o.wt<=1000000000)(Y:OV M.A M.w v o)
  (kt:∀x,Cs.keys o=ax x->∀N pv W,M.le N->SlA N.A N.w pv 2 x.bF.length (rnsC x.bF)->OwnS S w0 W (.mem N::L)->K (stmV x pv) W)
  (t:Cs.keys o=aw->∀N W,M.le N->OwnS S w0 W (.mem N::L)->PK [upC] W):CallX ah 92 #[v] w PK K:=by
 obtain⟨vk,vc,cs,rfl,ha⟩:=Y.open;refine⟨GM ?_⟩;unfold EJ nz;refine iU o ha.keys.one ha.kids.one a λg w1 a=>?_;refine T6 a λb2 w2 a=>?_;rw[akH];refine T6 a λb3 w3 a=>?_;refine MR 0 rfl rfl rfl a rfl λw4 a=>?_;have a:OwnS S w0 w4 (stmE b3 ⟨[0,0,0],[],-1⟩ nilS::stmE b2 stm0 nilS::obE g o vk vc::.mem M::L):=a;have f:¬Cs.isX o->Cs.keys o=none:=λh=>by unfold Cs.keys;rw[alG h]
 have cut:∀{W:ao} {N:Mem} {e1 e2 e3:Ent},OwnS S w0 W (e1::e2::e3::.mem N::L)->OwnS S w0 W (.mem N::L):=λa=>a.tail.tail.tail;rw[fR,ob_k a 2 rfl];simp only[rs];refine kC (λh9=>?_) λh9=>t (f λh=>amR h9 h.1) M w4 M.le_refl (cut a);have h9:=alZ h9;refine LX a om Y λN1 b4 tk tc w5 E ht a=>?_;rw[fR,ob_k a 0 rfl];simp only[rs];have hT:∀{W},¬((Cs.got o Cs.mV).k=5∧(Cs.got o Cs.mV).s=Cs.xP)->OwnS S w0 W (obE b4 (Cs.got o Cs.mV) tk tc::stmE b3 ⟨[0,0,0],[],-1⟩ nilS::stmE b2 stm0 nilS::obE g o vk vc::.mem N1::L)->PK [upC] W:=
  λh a=>t (f λk=>h k.2.1) N1 _ E (cut a.tail)
 by_cases h5:(Cs.got o Cs.mV).k=5
 case neg=>
  simp only[alJ h5,rs,g_un];exact kC (λh=>by cases h) λ_=>hT (λh=>h5 h.1) a
 simp only[alM h5,rs];rw[G5,ob_s a 0 rfl];simp only[rs];refine kC (λF=>?_) λF=>hT (λh=>?_) a
 rotate_left
 ·exact amR F h.2
 have c1:(Cs.got o Cs.mV).s=Cs.xP:=alZ F;have a:=a.tail;refine LX a om (Y.le E) λN2 b6 sk sc w6 l2 hs a=>?_;rw[ob_v a 0 rfl];refine G7 a hs.oneK hs.oneC dc (λG w7 a=>?_) λG W a=>t (f λh=>G h.2.2.1) N2 W (E.trans l2) (cut a.tail);have a:=a.tail;refine LX a om ((Y.le E).le l2) λN3 b9 xk xc w8 l3 u a=>?_;rw[ob_v a 0 rfl];refine Sz a u.oneK u.oneC (λH w9 a=>?_) λH W a=>t (f λh=>H h.2.2.2.1) N3 W ((E.trans l2).trans l3) (cut a.tail);obtain⟨cs,a1⟩:=JJ u;rw[ER a1];simp only[rs];refine kC (λI=>?_) λI=>t (f λh=>amR I (by have:(Cs.got o Cs.kW).kids.length=3:=h.2.2.2.2.1;show ((Cs.got o Cs.kW).kids.length:Int)=3;omega)) N3 w9 ((E.trans l2).trans l3) (cut a.tail);have I:(Cs.got o Cs.kW).kids.length=3:=by have:((Cs.got o Cs.kW).kids.length:Int)=3:=alZ I;omega
 have a:=a.tail;have O:=(E.trans l2).trans l3;have c:((Cs.got o Cs.kW).kids.map Ob.n).length=3:=by rw[amT,I]
 refine loop (λvs W=>∃(i:Nat),vs=[.int .i64 (i:Int)]∧i<=3∧(∀x∈(Cs.got o Cs.kW).kids.take i,Cs.inr x 4)∧OwnS S w0 W (stmE b3 ⟨Cs.ws ((Cs.got o Cs.kW).kids.map Ob.n) i,[],-1⟩ nilS::stmE b2 stm0 nilS::obE g o vk vc::.mem N3::L)) (λvs _=>3 - n0 vs) ⟨0,rfl,om,sm,a⟩ ?_;clear a;rintro vs a6 ⟨i,rfl,hi,j,a⟩ _;simp only[AJ,gd,rs,nz];by_cases a7:(i:Int) < 3
 ·simp only[alM a7,i_t];have P:i < (Cs.got o Cs.kW).kids.length:=om
  refine MJ a1 P (a.hasM 3 rfl) λyk yc hy=>?_;refine G7 a hy.oneK hy.oneC dc (λd c2 a=>?_) λd W a=>t (f λh=>d (h.2.2.2.2.2 _ (alX P))) N3 W O (cut a);rw[Yp];refine aD (WJ om) |>.mpr ?_;have c3:=((ws3 c).2 i).resolve_right om;refine aK 0 a rfl krx rfl (by rw[pW c3];omega) λQ a=>?_
  try simp only[rs]
  rw[aA om om];refine aY ⟨i+1,rfl,om,?_,?_⟩ (by simp[n0,RowKit.intOf];omega)
  ·rw[amO P];intro x u;rcases amK.1 u with u|u
   ·exact j x u
   ·rw[amH.1 u];exact d
  ·have e:=Zd (ps:=[]) (q:=-1) (pv:=nilS) c (show i < ((Cs.got o Cs.kW).kids.map Ob.n).length by omega);rw[List.getElem_map] at e;rw[stmE,<-e];exact a
 simp only[alJ a7,i_f];have:i=3:=om
 subst this;have F:Cs.isX o:=⟨h9,⟨h5,c1⟩,G,H,I,by rw[<-I,anI] at j;exact j⟩;rw[(ws3 c).1] at a;have R:∀{p q},Cs.tZ o=ax p->Cs.ES o=ax q->Cs.keys o=ax ⟨(Cs.got o Cs.kW).kids.map Ob.n,p,q⟩:=λh1 h2=>by unfold Cs.keys;rw[alH F,h1,h2];rfl
 have T:Cs.tZ o=aw∨Cs.ES o=aw->Cs.keys o=none:=λh=>by
  unfold Cs.keys;rw[alH F];rcases h with h|h
  ·rw[h];rfl
  ·rw[h];cases Cs.tZ o<;>rfl
 clear F;generalize (Cs.got o Cs.kW).kids.map Ob.n=ns at *;have hb:∀{PK:PKT} {K:VWP},DoX ah (aS 135 #[(0,.int .i64 0),(1,.int .i64 (Cs.got o Cs.iX).n)]) a6 PK K=K (rnV (0,(Cs.got o Cs.iX).n)) a6:=aD krx;rw[hb];refine bA (λb=>.slice (ax ⟨b,0,aw⟩) 1 1) (rnC (0,(Cs.got o Cs.iX).n)) 135 (λ_=>by kernel_rfl) a λnb c2 a=>?_;rw[Tu];refine aK 1 a rfl krx rfl (by rw[pW c];omega) λQ a=>?_;have a:OwnS S w0 Q (.cells nb (rnC (0,(Cs.got o Cs.iX).n)) 135::.cells b3 ((stmC ⟨ns,[],-1⟩ nilS).set 3 (.slice (ax ⟨nb,0,aw⟩) 1 1)) 118::stmE b2 stm0 nilS::obE g o vk vc::.mem N3::L):=a;rw[X9 c (ps':=[(0,(Cs.got o Cs.iX).n)])] at a;have a:=a.toU 2 1 1 rfl om om;obtain⟨N4,Z,c4,a⟩:=a.bJ 3 rfl;have a:OwnS S w0 Q (stmE b3 ⟨ns,[(0,(Cs.got o Cs.iX).n)],-1⟩ (.slice (ax ⟨nb,0,aw⟩) 1 1)::stmE b2 stm0 nilS::obE g o vk vc::.mem N4::L):=a;refine join λJ hJ=>?_;have main:∀{ps pv N W},Cs.tZ o=ax ps->N4.le N->SlA N.A N.w pv 2 ps.length (rnsC ps)->OwnS S w0 W (stmE b3 ⟨ns,ps,-1⟩ pv::stmE b2 stm0 nilS::obE g o vk vc::.mem N::L)->J [] W:=by
  intro ps pv N W hp hN hs a;refine hJ _ _ λ_=>?_;unfold Bg nz;refine join λJ3 c5=>?_;have l:∀{q N' W},Cs.ES o=ax q->N.le N'->OwnS S w0 W (stmE b3 ⟨ns,ps,q⟩ pv::stmE b2 stm0 nilS::obE g o vk vc::.mem N'::L)->J3 [] W:=by
   intro q N' W D a8 a;refine c5 _ _ λ_=>?_;unfold An nz;have b0:aggN ah 118=ax (stmC ⟨ns,ps,q⟩ pv).length:=by rw[pW c];exact U8
   rw[l_at (a.agg 0 rfl b0)];refine MR 1 c hs.one rfl a rfl λU a=>?_;exact iC (bI (a.agg 1 rfl b0)) (kt _ (R hp D) N' pv U ((O.trans Z).trans (hN.trans a8)) (hs.le a8) (cut a))
  refine LX a om (((Y.le O).le Z).le hN) λV c6 pk pc U z B a=>?_;have D:Cs.ES o=match Vl.get o Cs.qT with|none=>ax (-1)|some v=>if Cs.inr v 2147483647 then ax v.n else none:=rfl
  have m:Cs.got o Cs.qT=(Vl.get o Cs.qT).getD Vl.ob0:=rfl;cases hg:Vl.get o Cs.qT with
 |none=>
   rw[hg] at D;simp only[apU,i_f];exact l D z a.tail
 |some y=>
   rw[hg] at D m;simp only[aqD,i_t];rw[m] at B a;simp only[apA] at B a D;rw[ob_v a 0 rfl];refine G7 a B.oneK B.oneC dc (λd b5 a=>?_) λd W a=>t (T (.inr (by rw[D,alG d]))) V W ((O.trans Z).trans (hN.trans z)) (cut a.tail);rw[Yu];refine aK 1 a rfl krx rfl (by rw[pW c];omega) λX a=>?_;have a:OwnS S w0 X (obE c6 y pk pc::.cells b3 ((stmC ⟨ns,ps,-1⟩ pv).set 4 (.int .i64 y.n)) 118::stmE b2 stm0 nilS::obE g o vk vc::.mem V::L):=a;rw[Xs c] at a;exact l (by rw[D,alH d]) z a.tail
 have hp:Cs.tZ o=match Vl.get o Cs.gJ with|none=>ax [(0,(Cs.got o Cs.iX).n)]|some v=>if v.k=6 then Cs.index 0 v.kids else none:=rfl
 have m:Cs.got o Cs.gJ=(Vl.get o Cs.gJ).getD Vl.ob0:=rfl;refine LX a om ((Y.le O).le Z) λV C ik ic U z r a=>?_;have b7:=Cs.Lj (o:=o) (k:=Cs.gJ);cases hg:Vl.get o Cs.gJ with
|none=>
  rw[hg] at hp;simp only[apU,i_f];exact main hp z (c4.le z) a.tail
|some y=>
  rw[hg] at hp m;simp only[aqD,i_t];rw[m] at r a b7;simp only[apA] at r a hp b7;rw[ob_v a 0 rfl];refine Sz a r.oneK r.oneC (λH b5 a=>?_) λH W a=>t (T (.inl (by rw[hp,alG H]))) V W ((O.trans Z).trans z) (cut a.tail);rw[alH H] at hp;obtain⟨c8,b8⟩:=JJ r;have c9:=@Ff.qP y;have a:OwnS S w0 b5 ([obE C y ik ic,stmE b3 ⟨ns,[(0,(Cs.got o Cs.iX).n)],-1⟩ (.slice (ax ⟨nb,0,aw⟩) 1 1),stmE b2 stm0 nilS,obE g o vk vc]++([.mem V]++L)):=a;refine aaR a.front b8 om (λps he N6 pv X l6 c0 a=>?_) λhe W a=>t (T (.inl (by rw[hp,he]))) V W ((O.trans Z).trans z) (by
   have a:OwnS S w0 W (.mem V::obE C y ik ic::stmE b3 ⟨ns,[(0,(Cs.got o Cs.iX).n)],-1⟩ (.slice (ax ⟨nb,0,aw⟩) 1 1)::stmE b2 stm0 nilS::obE g o vk vc::L):=a;exact a.sub (.cons_cons _ (.cons _ (.cons _ (.cons _ (.cons _ (aqP _)))))))
  rw[Tu];have a:OwnS S w0 X (.mem N6::obE C y ik ic::stmE b3 ⟨ns,[(0,(Cs.got o Cs.iX).n)],-1⟩ (.slice (ax ⟨nb,0,aw⟩) 1 1)::stmE b2 stm0 nilS::obE g o vk vc::L):=a;refine aK 2 a rfl krx c0.one (by rw[pW c];omega) λc7 a=>?_;have a:OwnS S w0 c7 ([.mem N6]++([obE C y ik ic,.cells b3 ((stmC ⟨ns,[(0,(Cs.got o Cs.iX).n)],-1⟩ (.slice (ax ⟨nb,0,aw⟩) 1 1)).set 3 pv) 118,stmE b2 stm0 nilS,obE g o vk vc]++L)):=a;rw[X9 c (ps':=ps)] at a;exact main (by rw[hp,he]) (z.trans l6) c0 a.front.tail
end
end
end Go.Proofs.YtlipjfcbjemicaaGreatDoor
