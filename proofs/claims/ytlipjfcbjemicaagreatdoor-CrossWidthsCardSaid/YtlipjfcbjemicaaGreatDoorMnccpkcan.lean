/- Texts that go together: ObI MkA SMake5 Plain07 SRef07 SRef04 PlR PlS Plain03D Plain03E Plain04B Plain03F Plain03G Plain17 Plain17B Plain55 SOct LxA SLex LxB LxC LxD LxE LxF LxG LxH LxI SRef03 LxR SHead SRef17 HdA LxS LxT LxU LxV LxW LxX LxY LxZ LxAA LxAB LxAC SLaw04 PlT LxAD SLaw03 LxAE HdB HdC SLaw17 HdD SRef55 ScA ObJ MkB SWrite ObK ObL ObM ObN ObO MkC LxAF LxAG SLaw04B PlW SRef06 SParse PsA MkD MkE MkF EngZ MkG Plain19 KdA DcA SDocs SRef19 DcB DcC SSlcI SlcI DcD DcE DcF Plain19B DcG EngAC PsB PsC Plain07B Plain38 SLabel SRef38 SCut LbA LbB LbC LbD LbE DcH SLaw07 ObP ObQ ObR STexts OcTx SSame ObSm SApart Plain07C ObS0 ObT DcI LbF Plain38B Plain38C Plain38D Plain38E Plain06B Plain06C Plain06D Plain06E PsD PsE PsF SMake6 PsG PsH PsI PsJ Plain06F EngAA PsK PsL PsM Plain18 STable TbA TbEq SRef18 TbB EngAD Plain18B Plain18C TbC TbD TbFit TbH TbN SRef20 SLaw20 CsQ SDocT EngAH Plain35 Plain35B Plain35C Plain38F Plain38G Plain35D SPages SNumB PgA Plain16 SBit InfA. -/
import Derived.Test.YtlipjfcbjemicaaGreatDoorRows
import Derived.Lib.IndexMore
import Derived.Lib.LastIndexLaws
import Derived.Lib.SmallJoins
import Derived.Lib.Overlaps
import Derived.Laws.Externs
import Derived.Lib.Repeat
import Derived.Lib.Case
import Derived.Maps.RangeRun
import Derived.Test.YtlipjfcbjemicaaGreatDoorMgodllgbf
set_option linter.defProp false
set_option linter.unusedSimpArgs false
set_option linter.unusedVariables false
set_option maxRecDepth 20000
open Go.Proofs.Tryz
open Go.Proofs.Tryz renaming prog->ah
open Option renaming some->ax,none->aw
open Bool renaming true->av,false->au
open Go renaming Value->aq,World->ao
open Decidable renaming decide->ai
namespace Go.Proofs.YtlipjfcbjemicaaGreatDoor
variable{A S:Nat->Prop}{K:VWP}{L:List Eng.Ent}{M N:Eng.Mem}{P:Program}{PK PK2:PKT}{T1 U:TypeId}{W w w0:ao}{a way:Int}{args:Array aq}{b cap d f i j m p sz:Nat}{cb:Array Bool}{cs news xs:List aq}{ds:List Deferred}{e:Eng.Ent}{k':IntKind}{key:List UInt8}{o:Ob}{u:FrameMode}{v v2 vc vk vs:aq}{xo yo:Operand}{α:Type}{t0 t1 t2:aq}{k0:Eng.KT}
section
open Eng Go.RowKit
 attribute [local congr] Bt
theorem Rm (n:Nat):∀(o:Ob) (v:aq) (d:Nat) (w:ao) (K:Ending->ao->Prop),o.wt<=n->OV (InW w) w v o->o.wt<=4611686018427387904->1<=d->d<=1000 ->
  (Vl.check d o=0->∀w',Below w.heap.size w w'->K (.returned (.tuple #[])) w')->(Vl.check d o≠0->∀w',Below w.heap.size w w'->K (.panicked [badE (Vl.check d o)]) w') ->
  Calls ah 153 #[v,.int .i64 (d:Int)] w K:=by
 induction n with
|zero=>intro o v d w K h;have:=o.PX;omega
|succ n ih=>
 intro o v d w K hn a1 hb b3 hd t c;obtain⟨vk,vc,cs,rfl,F⟩:=a1.open;refine FJ ?_;unfold Ck nz;refine iU o F.keys.one F.kids.one (Own.start w) λb w1 a=>?_;have out:∀(e:Int) (W:ao) (L:List Ent),Own w W L->Vl.why d o=e->e≠0->(pk K) [badE e] W:=by
  intro e W L a h1 h2;have h3:Vl.check d o=e:=by rw[Y4 (by rw[h1];exact h2),h1]
  rw[h3] at c;exact c h2 W a.done
 rw[Vw];refine AY (r:=ai (d<=24)) (by rw[decide_eq_decide];omega) (λH=>?_) λH=>out 7 w1 _ a (by rw[Vl.why,alH (by have:=amR H;omega)]) dc;have f:¬24 < d:=by have:=alZ H;omega
 rw[fR,ob_k a 0 rfl];refine LL (SE o.k w1) rfl a λw2 a=>?_;simp only[aaN,ex];refine bA (λb=>.pointer (ax ⟨b,0,aw⟩)) (uC u0) 225 (λ_=>by kernel_rfl) a λC w3 a=>?_;refine adH 0 ((Vl.used o.k).getD u0) a rfl λq a=>?_;have a:Own w q [uE C ((Vl.used o.k).getD u0),obE b o vk vc]:=a;have x:(Vl.pN o=au∨(o.k=9∧1 < d))->(pk K) [badE 10] q:=λh=>out 10 q _ a (by rw[Vl.why,alG f,alH h]) dc;have lk:∀{W:ao} {L:List Ent},Own w W L->∀{PK:PKT} {K:VWP},DoX ah (mB .len #[22] 3 #[au] #[vk]) W PK K=K (.int .i64 (o.keys.length:Int)) W:=λa=>bE amD (F.own a).keys.1;have lc:∀{W:ao} {L:List Ent},Own w W L->∀{PK:PKT} {K:VWP},DoX ah (mB .len #[23] 3 #[au] #[vc]) W PK K=K (.int .i64 (o.kids.length:Int)) W:=λa=>bE amA (F.own a).kids.1;cases hu:Vl.used o.k with
|none=>
  have R:=x (.inl (by rw[Vl.pN,hu]));simp only[apU,rs,g_un];exact AY (r:=au) rfl (λh=>by cases h) λ_=>R
|some u=>
 obtain⟨un,Q,us,j,p⟩:=u;rw[hu,apA] at a;have a6:Vl.pN o=((un||decide (o.n=0))&&(Q||decide (o.g=0))&&(us||decide (o.s=[]))&&(j||decide (o.keys=[]))&&(p||decide (o.kids.length=0))):=by rw[Vl.pN,hu]
 have l0:∀{PK:PKT} {K:VWP},DoX ah (aH 4 (.pointer (ax ⟨C,0,aw⟩))) q PK K=K (.bool un) q:=aJ SI (a.cell 0 rfl 0 rfl);have l1:∀{PK:PKT} {K:VWP},DoX ah (aH 4 (.pointer (ax ⟨C,0+1,aw⟩))) q PK K=K (.bool Q) q:=aJ SI (a.cell 0 rfl 1 rfl);have l2:∀{PK:PKT} {K:VWP},DoX ah (aH 4 (.pointer (ax ⟨C,0+2,aw⟩))) q PK K=K (.bool us) q:=aJ SI (a.cell 0 rfl 2 rfl);have l3:∀{W:ao} {L:List Ent},Own w W (uE C (un,Q,us,j,p)::L)->∀{PK:PKT} {K:VWP},DoX ah (aH 4 (.pointer (ax ⟨C,0+3,aw⟩))) W PK K=K (.bool j) W:=λa=>aJ SI (a.cell 0 rfl 3 rfl);have l4:∀{PK:PKT} {K:VWP},DoX ah (aH 4 (.pointer (ax ⟨C,0+4,aw⟩))) q PK K=K (.bool p) q:=aJ SI (a.cell 0 rfl 4 rfl);simp +contextual only[aqD,rs,gs,Nc,Zq,Kl,asP,Bool.not_not,arL,ajG,akF,aiQ,ahY,ahB,l0,l1,l2,l3 a,l4,fR,Iu,abR,G5,Af,pF,ob_k a 1 rfl,ob_n a 1 rfl,ob_g a 1 rfl,ob_s a 1 rfl,oO a 1 rfl,fL a 1 rfl,lk a,lc a,WM];refine AY (r:=Vl.pN o&&!(ai (o.k=9)&&ai (1 < d))) ?_ (λS=>?_) λS=>?_
 ·rw[a6,akK o.keys,aiD o.kids]
  congr 1
  by_cases h9:o.k=9
  ·simp only[h9,ne_eq,not_true,alL,arL,alK,Bool.true_and];rw[Bool.eq_iff_iff];simp;omega
  ·simp only[h9,ne_eq,apF,alK,Bool.or_true,alL,Bool.false_and,anK]
 rotate_left
 ·refine x ?_;rw[atT] at S;rcases S with h|h
  ·exact .inl h
  ·right;have:(ai (o.k=9)&&ai (1 < d))=true:=by simpa using h
   rw[amB] at this;exact⟨alZ this.1,alZ this.2⟩
 rw[amB] at S;obtain⟨T,U⟩:=S;have y:¬(Vl.pN o=au∨(o.k=9∧1 < d)):=by
  rintro (h|⟨h1,h2⟩)
  ·rw[T] at h;cases h
  ·rw[alM h1,alM h2] at U;cases U
 rw[ob_v a 1 rfl];refine LL (UX o _ q (F.in_ a).ov) rfl a λw5 a=>?_;refine AY (r:=Vl.fits o) rfl (λI=>?_) λI=>out 2 w5 _ a (by rw[Vl.why,alG f,alG y,alH I]) dc;have m:¬Vl.fits o=false:=by rw[I];decide
 rw[ob_v a 1 rfl];refine LL (QR o _ w5 (F.in_ a).ov) rfl a λD a=>?_;refine AY (r:=!ai (Vl.long o.k < o.s.length)) (Rz T) (λJ=>?_) λJ=>out 5 D _ a (by rw[Vl.why,alG f,alG y,alG m,alH (by simpa using J)]) dc;have z:¬Vl.long o.k < o.s.length:=by simpa using J
 rw[fL a 1 rfl,lc a,Vw];refine AY (r:=ai (o.kids.length<=8191)) (by rw[decide_eq_decide];omega) (λhm=>?_) λhm=>out 6 D _ a (by rw[Vl.why,alG f,alG y,alG m,alG z,alH (by have:=amR hm;omega)]) dc;have V:¬8191 < o.kids.length:=by have:=alZ hm;omega
 rw[ob_k a 1 rfl,VP];have M:=Sa hu
 -- behind a7 form: a7 kids
 have rest:∀(W:ao),Vl.form o=av->Own w W [uE C (un,Q,us,j,p),obE b o vk vc] ->
   DoX ah (aH 23 (.pointer (ax ⟨b,0+5,aw⟩))) W (pk K) λt105 w=>
   DoX ah (mB .len #[23] 3 #[au] #[t105]) w (pk K) λt106 w=>
   LoopX [(.int .i64 0)] w (λa8 w N1=>∀_:Sg,oH (.int .i64 (d:Int)) t105 t106 (a8.getD 0 undef) w N1 K):=by
  intro W N a;have b0:Vl.why d o=0:=by rw[Vl.why,alG f,alG y,alG m,alG z,alG V,alG (by rw[N];decide)]
  have b1:Vl.check d o=Vl.rK (d+1) o.kids:=by rw[Vl.F3,alG (by simp[b0])]
  rw[b1] at t c;rw[fL a 1 rfl,lc a];refine loop (λvs w'=>∃(i:Nat),vs=[.int .i64 i]∧i<=o.kids.length∧Vl.rK (d+1) o.kids=Vl.rK (d+1) (o.kids.drop i)∧Own w w' [uE C (un,Q,us,j,p),obE b o vk vc]) (λvs _=>o.kids.length - n0 vs) ⟨0,rfl,om,rfl,a⟩ ?_;rintro vs D ⟨i,rfl,hi,hT,a⟩ _;rw[hT] at t c;simp only[oH,gd,rs,nz];by_cases X:(i:Int) < (o.kids.length:Int)
  ·have O:i < o.kids.length:=om
   simp only[X,alK,i_t];rw[NO _ _ _ O] at t c hT;have Y:=F.own a;refine alF Y.kids.1 Y.all O λv hv=>?_;obtain⟨vk',vc',b5,rfl,A⟩:=hv.open;have b2:=a;refine fO a λb7 w7 a=>?_;refine bK 0 A.keys.one A.kids.one a rfl λw8 a=>?_;have a:Own w w8 [obE b7 o.kids[i] vk' vc',uE C (un,Q,us,j,p),obE b o vk vc]:=a;rw[ob_v a 0 rfl,aA om om,show (d:Int)+1=((d+1:Nat):Int) by omega];have b6:=Lz O;refine fG (ih o.kids[i] _ (d+1) w8 _ om (A.later b2 a).ov om om om (λE w9 P=>?_) (λE w9 P=>?_)) (λ_ _ h=>h)
   ·have a:=a.grow P;rw[alG (by simp[E])] at hT;simp only[Cont,rs];rw[aA om om];exact aY ⟨i+1,rfl,om,hT,a.tail⟩ (by simp[n0,RowKit.intOf];omega)
   ·rw[alH E] at c;exact c E w9 (a.grow P).done
  ·simp only[X,alL,i_f];rw[arM om,Vl.rK] at t;exact t rfl D a.done
 have G:∀(W:ao) (L:List Ent),Own w W L->Vl.form o=au->(pk K) [badE 3] W:=λW L a h=>out 3 W _ a (by rw[Vl.why,alG f,alG y,alG m,alG z,alG V,alH h]) dc;by_cases k5:o.k=5
 ·have B:¬(o.k=7∨o.k=9):=om
  have l:j=false:=by rw[M,alJ B]
  have hf:Vl.form o=Vl.name o.s:=by simp[Vl.form,k5]
  rw[show ai (o.k≠5)=au by rw[apG];omega,g_ff,ob_s a 1 rfl,g_ff];refine c_eq (Px o.s D) ?_;rw[p_f];cases Z:Vl.name o.s with
 |false=>
   rw[g_ft,g_ft,show sel (jJ (Value.bool au) av) undef=undef from rfl,g_un,g_un,g_ft,p_f];exact AY (r:=au) rfl (λh=>by cases h) λ_=>G D _ a (by rw[hf,Z])
 |true=>
   rw[g_tt,l3 a,l,g_tt,NB,show (!au)=av from rfl,show sel (jJ (Value.bool av) av) (Value.bool av)=.bool av from rfl,g_tf,g_tf,g_tt,p_t,p_t];exact AY (r:=av) rfl (λ_=>rest D (by rw[hf,Z]) a) λh=>by cases h
 ·rw[show ai (o.k≠5)=av by rw[decide_eq_true_iff];exact k5,g_tf,g_tf,p_t,g_tt,l3 a,g_tt,NB];cases l:j with
 |false=>
   have B:¬(o.k=7∨o.k=9):=by rw[M,apG] at l;exact l
   rw[show (!au)=av from rfl,show sel (jJ (Value.bool av) av) (Value.bool av)=.bool av from rfl,g_tf,g_tf,g_tt,p_t,p_t];rw[l] at a rest;exact AY (r:=av) rfl (λ_=>rest D (by simp[Vl.form,k5,B]) a) λh=>by cases h
 |true=>
   have B:o.k=7∨o.k=9:=by rw[M,decide_eq_true_iff] at l;exact l
   have hf:Vl.form o=Vl.rising o:=by simp[Vl.form,k5,B]
   rw[show (!av)=au from rfl,show sel (jJ (Value.bool av) av) (Value.bool au)=.bool au from rfl,g_ff,ob_v a 1 rfl,g_ff];refine LL (On o _ D (F.in_ a).ov (by have:=aaL (o:=o);omega)) rfl a λw7 a=>?_;rw[g_tt,p_f,p_t];rw[l] at a rest;exact AY (r:=Vl.form o) hf.symm (λN=>rest w7 N a) λh=>G w7 _ a h
theorem E2:cO ah 210=true:=krx
theorem nM {rs:List RV}{K:Ending->ao->Prop}{a:Array aq}(hu:u≠.run)(hp:cO ah f=av)
  (h:CallsD ah f (args++a) u w λ
   |.returned _,b,w'=>Bp ah rs K ds (settle b) w'
   |.panicked chain,b,w'=>Bp ah rs K ds (raised b chain) w'
   |.outgrown,_,_=>False):Bp ah rs K ({ target:=.fn (.func f) a,args:=args }::ds) u w:=
 ⟨hu,.func f,a,f,args++a,rfl,by simpa[invoke] using iF hp _ w,h⟩
theorem SX:cO ah 152=true:=krx
abbrev Hh:eD ah 30=true:=krx
theorem jF (o:Ob)(v:aq)(w:ao)(h:OV (InW w) w v o)(j:o.wt<=4611686018427387904):Ret ah 86 #[v] w (λv w'=>v=.int .i64 (Vl.check 1 o)∧Below w.heap.size w w'):=by
 refine aZ λK k=>Fk ?_;obtain⟨vk,vc,cs,rfl,f⟩:=h.open;unfold CY nz;refine iU o f.keys.one f.kids.one (Own.start w) λb l c=>?_;rw[pY];refine fG (Dz (K:=λe w'=>e=.returned (.int .i64 (Vl.check 1 o))∧Below w.heap.size w w') ?_) ?_
 rotate_left
 ·rintro e w' ⟨rfl,a⟩;exact k _ _ ⟨rfl,a⟩
 unfold AB iN dx alx;refine bA (λb=>.pointer (ax ⟨b,0,aw⟩)) [.int .i64 0] 30 (λ_=>by kernel_rfl) c λb2 w2 c=>?_;rw[pY];refine⟨_,rfl,?_⟩;refine Iq SX ?_;show CallX ah _ #[.pointer (ax ⟨b,0,aw⟩)] _ _ _;refine fG (CL (K:=λe w'=>(Vl.check 1 o=0->e=.returned (.tuple #[])∧Below w2.heap.size w2 w')∧(Vl.check 1 o≠0->e=.panicked [badE (Vl.check 1 o)]∧Below w2.heap.size w2 w')) ?_) ?_
 ·unfold yT nz;rw[ob_v c 1 rfl];refine fG (Rm o.wt o _ 1 w2 (λe w'=>(Vl.check 1 o=0->e=.returned (.tuple #[])∧Below w2.heap.size w2 w')∧(Vl.check 1 o≠0->e=.panicked [badE (Vl.check 1 o)]∧Below w2.heap.size w2 w')) (alP _) (f.in_ c).ov j om om
   (λd w' a=>⟨λ_=>⟨rfl,a⟩,λh=>absurd d h⟩) (λd w' a=>⟨λh=>absurd h d,λ_=>⟨rfl,a⟩⟩)) ?_
  rintro e w' ⟨g,i⟩;by_cases d:Vl.check 1 o=0
  ·obtain⟨rfl,a⟩:=g d;exact⟨λ_=>⟨rfl,a⟩,λh=>absurd d h⟩
  ·obtain⟨rfl,a⟩:=i d;exact⟨λh=>absurd h d,λ_=>⟨rfl,a⟩⟩
 rintro e w' ⟨g,i⟩;by_cases d:Vl.check 1 o=0
 ·obtain⟨rfl,a⟩:=g d;simp only[Cont];have c:=c.grow a;refine aK 0 c rfl krx rfl sm λm c=>?_;refine nM sm E2 (nE ?_);simp only[iT,recV,recM,Eng.WM aqE,rs,dx,ldx,fax,exx,stx,eqx,alx];refine Ds Hh (c.cell 0 rfl 0 rfl) (And.intro ?_ c.done);rw[d]
 ·obtain⟨rfl,a⟩:=i d;simp only[Cont,lB,pd];have c:=c.grow a;refine nM sm E2 (nE ?_);simp only[iT,recV,recM,Eng.YE aqE,rs,VG (show lM ah 223=av by kernel_rfl),
   rP (show [Value.agg #[.int .i64 (Vl.check 1 o)],Value.bool av][1]?=ax (Value.bool av) from rfl),rP (show [Value.agg #[.int .i64 (Vl.check 1 o)],Value.bool av][0]?=ax (Value.agg #[.int .i64 (Vl.check 1 o)]) from rfl),dx,ldx,fax,exx,stx,eqx,alx]
  refine bA (λb=>.pointer (ax ⟨b,0,aw⟩)) [.int .i64 0] 223 (λ_=>by kernel_rfl) c λn p c=>?_;refine gY 0 c rfl (new:=[.int .i64 (Vl.check 1 o)]) (show (Tryz.prog.info? 223).map (·.size)=ax 1 by kernel_rfl) (by simp;rfl) rfl λq c=>?_;rw[aO (show fOff ah 223 0=ax 0 by kernel_rfl),aJ Hh (c.cell 0 rfl 0 rfl)];refine aK 1 c rfl krx rfl sm λr c=>?_;exact Ds Hh (c.cell 1 rfl 0 rfl) (And.intro rfl c.done)
end
section
open Eng Go.RowKit
theorem Q2 (x:List UInt8)(w:ao):Ret ah 256 #[.string ⟨x.toArray⟩] w (λv w'=>v=.bool au∧w=w'):=by
 refine aZ λK a=>yW ?_;unfold pU nz;rw[Zv];exact a _ _ ⟨sm,rfl⟩
theorem RJ (x:List UInt8)(w:ao):Ret ah 218 #[.string ⟨x.toArray⟩] w (λv w'=>v=.bool au∧w=w'):=by
 refine aZ λK a=>sC ?_;unfold mC nz;rw[Zv];exact a _ _ ⟨sm,rfl⟩
theorem TJ (x y:List UInt8)(w:ao):Ret ah 217 #[.string ⟨x.toArray⟩,.string ⟨y.toArray⟩] w (λv w'=>v=.bool (Vl.less x y)∧w=w'):=by
 refine aZ λK a=>Ad ?_;unfold sD nz;refine c_eq (Q2 x w) ?_;simp only[rs,abZ];exact a _ _ ⟨rfl,rfl⟩
theorem shr1 (b:0<=a)(c:a<=4611686018427387904):Int.fdiv (IntKind.wrap .u64 a) (2 ^ (min (1:Int).toNat IntKind.u64.bits))=a / 2:=by
 rw[Rg b om];show Int.fdiv a 2=a / 2;rw[aqI _ om]
theorem GD (va:aq)(l:List (List UInt8))(x:List UInt8)(w:ao)(g:Sl w va 1 l.length (bZ l))(s:Vl.Rise l)(D:l.length<=1099511627776) :
  Ret ah 154 #[va,.string ⟨x.toArray⟩] w (λv w'=>v=.tuple #[.int .i64 (Vl.place l x:Nat),.bool (Vl.hit l x)]∧w=w'):=by
 refine aZ λK o=>gO ?_;unfold eI nz;rw[bE amD g];refine loop (λvs w'=>∃(i j:Nat),vs=[.int .i64 i,.int .i64 j]∧i<=j∧j<=l.length∧(∀m (h:m < l.length),m < i->Vl.less l[m] x=av)∧(∀m (h:m < l.length),j<=m->Vl.less l[m] x=au)∧w=w') (λvs _=>n1 vs - n0 vs)
  ⟨0,l.length,rfl,om,om,λm _ h=>by omega,λm y z=>by omega,rfl⟩ ?_
 rintro vs w2 ⟨i,j,rfl,A,B,b,c,rfl⟩ _;simp only[eC,gd,rs,nz];by_cases d:(i:Int) < (j:Int)
 ·simp only[d,alK,i_t];rw[aA om om,WC (show (Tryz.prog.underlying 3).isSome=av by kernel_rfl) arG,Hr om,shr1 om om,
   WC (show (Tryz.prog.underlying 84).isSome=av by kernel_rfl) anG,aA om om]
  obtain⟨h,C⟩:∃h:Nat,((i:Int)+(j:Int)) / 2=(h:Int):=⟨(i+j) / 2,om⟩;rw[C];have y:i<=h:=om
  have z:h < j:=om
  have t:h < l.length:=om
  refine LP (.string ⟨(l[h]).toArray⟩) amD krx g om (by rw[alQ];exact nX t) λq e=>?_;rw[aJ Wv e];refine c_eq (TJ l[h] x w) ?_;cases k:Vl.less l[h] x with
 |true=>
   simp only[rs];rw[aA om om];refine aY ⟨h+1,j,rfl,om,om,λm hm p=>?_,c,rfl⟩ (by simp[n0,n1,RowKit.intOf];omega);rcases amL m h with f|f
   ·exact Vl.nQ (Vl.pS s f t) k
   ·have:m=h:=om
    subst this;exact k
 |false=>
   simp only[rs];refine aY ⟨i,h,rfl,om,om,b,λm hm p=>?_,rfl⟩ (by simp[n0,n1,RowKit.intOf];omega);rcases amL h m with f|f
   ·cases r:Vl.less l[m] x with
   |false=>rfl
   |true=>have:=Vl.nQ (Vl.pS s f hm) r;rw[k] at this;cases this
   ·have:m=h:=om
    subst this;exact k
 ·have he:i=j:=om
  subst he;simp only[d,alL,i_f];have hp:Vl.place l x=i:=Vl.PS B b (λh=>c i h (alP _));by_cases u:(i:Int) < (l.length:Int)
  ·have a:i < l.length:=om
   simp only[u,alK,rs];refine LP (.string ⟨(l[i]).toArray⟩) amD krx g om (by rw[alQ];exact nX a) λq e=>?_;rw[aJ Wv e];simp only[rs];by_cases n:l[i]=x
   ·simp only[n,alK,rs,g_un];refine o _ _ ⟨?_,rfl⟩;rw[hp];unfold Vl.hit;rw[hp,alT a,n];simp
   ·simp only[n,alL,rs];refine LP (.string ⟨(l[i]).toArray⟩) amD krx g om (by rw[alQ];exact nX a) λq e=>?_;rw[aJ Wv e];refine c_eq (RJ l[i] w) ?_;simp only[rs];refine o _ _ ⟨?_,rfl⟩;rw[hp];unfold Vl.hit;rw[hp,alT a];simp[n]
  ·simp only[u,alL,rs,g_un];refine o _ _ ⟨?_,rfl⟩;rw[hp];unfold Vl.hit;rw[hp,anY om];simp
end
end Go.Proofs.YtlipjfcbjemicaaGreatDoor

namespace Go.Proofs.YtlipjfcbjemicaaGreatDoor
variable{A S:Nat->Prop}{K:VWP}{L:List Eng.Ent}{M N:Eng.Mem}{P:Program}{PK PK2:PKT}{T1 U:TypeId}{W w w0:ao}{a way:Int}{args:Array aq}{b cap d f i j m p sz:Nat}{cb:Array Bool}{cs news xs:List aq}{ds:List Deferred}{e:Eng.Ent}{k':IntKind}{key:List UInt8}{o:Ob}{u:FrameMode}{v v2 vc vk vs:aq}{xo yo:Operand}{α:Type}{t0 t1 t2:aq}{k0:Eng.KT}
section
open Go
theorem Ob.Bn:∀os:List Ob,os.length<=Ob.wts os
|[]=>by simp
|o::os=>by
  have:=Ob.Bn os;have:1<=o.wt:=by cases o;rw[Ob.wt];omega
  rw[Ob.wts,amC];omega
namespace Wr
def num (n:Int):List UInt8:=(Pl.pInt n).1
def nul:List UInt8:=[110,117,108,108]
def tru:List UInt8:=[116,114,117,101]
def fal:List UInt8:=[102,97,108,115,101]
def leaf (k n:Int)(s:List UInt8):List UInt8:=
 if k=1 then (if n=0 then fal else tru)
 else if k=2 then num n
 else if k=3 then (Pl.aiN n).1
 else if k=4 then (Pl.pStr s).1
 else if k=5 then (Pl.agG s).1
 else nul
 mutual
def parts:Ob->List (List UInt8)
|.mk k n g s keys kids=>
  if k=8 then [num n,num g,[82]]
  else if k=6 then [91]::(TK kids++[[93]])
  else if k=7 then [60,60]::(Uq keys kids++[[62,62]])
  else [leaf k n s]
def TK:List Ob->List (List UInt8)
|[]=>[]
|o::os=>parts o++TK os
def Uq (keys:List (List UInt8)):List Ob->List (List UInt8)
|[]=>[]
|o::os=>match keys with
 |[]=>[]
 |key::a=>(Pl.agG key).1::(parts o++Uq a os)
end
end Wr
end
end Go.Proofs.YtlipjfcbjemicaaGreatDoor








namespace Go.Proofs.YtlipjfcbjemicaaGreatDoor
variable{A S:Nat->Prop}{K:VWP}{L:List Eng.Ent}{M N:Eng.Mem}{P:Program}{PK PK2:PKT}{T1 U:TypeId}{W w w0:ao}{a way:Int}{args:Array aq}{b cap d f i j m p sz:Nat}{cb:Array Bool}{cs news xs:List aq}{ds:List Deferred}{e:Eng.Ent}{k':IntKind}{key:List UInt8}{o:Ob}{u:FrameMode}{v v2 vc vk vs:aq}{xo yo:Operand}{α:Type}{t0 t1 t2:aq}{k0:Eng.KT}
section
open Go
namespace Lx
open Oc
def Qf (u:List UInt8)(x:Tok):Prop:=next u 0=(x,0)∧x.k≠0∧x.a=0∧x.t=u.length
end Lx
end
end Go.Proofs.YtlipjfcbjemicaaGreatDoor






namespace Go.Proofs.YtlipjfcbjemicaaGreatDoor
variable{A S:Nat->Prop}{K:VWP}{L:List Eng.Ent}{M N:Eng.Mem}{P:Program}{PK PK2:PKT}{T1 U:TypeId}{W w w0:ao}{a way:Int}{args:Array aq}{b cap d f i j m p sz:Nat}{cb:Array Bool}{cs news xs:List aq}{ds:List Deferred}{e:Eng.Ent}{k':IntKind}{key:List UInt8}{o:Ob}{u:FrameMode}{v v2 vc vk vs:aq}{xo yo:Operand}{α:Type}{t0 t1 t2:aq}{k0:Eng.KT}
section
open Eng Go.RowKit
def tokC (x:Lx.Tok):List Value:=[.int .i64 x.k,.int .i64 x.a,.int .i64 x.t,.int .i64 x.n,.string ⟨x.s.toArray⟩]
def ptr (b:Nat)(i:Nat):Value:=.pointer (ax ⟨b,i,aw⟩)
section
variable {w:ao}{PK:PKT}{K:VWP}{S:Nat->Prop}{w0:ao}{L:List Ent}
end
end
end Go.Proofs.YtlipjfcbjemicaaGreatDoor




namespace Go.Proofs.YtlipjfcbjemicaaGreatDoor
variable{A S:Nat->Prop}{K:VWP}{L:List Eng.Ent}{M N:Eng.Mem}{P:Program}{PK PK2:PKT}{T1 U:TypeId}{W w w0:ao}{a way:Int}{args:Array aq}{b cap d f i j m p sz:Nat}{cb:Array Bool}{cs news xs:List aq}{ds:List Deferred}{e:Eng.Ent}{k':IntKind}{key:List UInt8}{o:Ob}{u:FrameMode}{v v2 vc vk vs:aq}{xo yo:Operand}{α:Type}{t0 t1 t2:aq}{k0:Eng.KT}
section
open Eng Go.RowKit
def n3 (vs:List aq):Nat:=(RowKit.intOf (vs.getD 3 undef)).toNat
end
end Go.Proofs.YtlipjfcbjemicaaGreatDoor












namespace Go.Proofs.YtlipjfcbjemicaaGreatDoor
variable{A S:Nat->Prop}{K:VWP}{L:List Eng.Ent}{M N:Eng.Mem}{P:Program}{PK PK2:PKT}{T1 U:TypeId}{W w w0:ao}{a way:Int}{args:Array aq}{b cap d f i j m p sz:Nat}{cb:Array Bool}{cs news xs:List aq}{ds:List Deferred}{e:Eng.Ent}{k':IntKind}{key:List UInt8}{o:Ob}{u:FrameMode}{v v2 vc vk vs:aq}{xo yo:Operand}{α:Type}{t0 t1 t2:aq}{k0:Eng.KT}
section
open Eng Go.RowKit
section
variable {w:ao}{PK:PKT}{K:VWP}{S:Nat->Prop}{w0:ao}{L:List Ent}
end
def strE (b:Nat)(s:List UInt8):Ent:=.cells b [.string ⟨s.toArray⟩] 9
end
end Go.Proofs.YtlipjfcbjemicaaGreatDoor

namespace Go.Proofs.YtlipjfcbjemicaaGreatDoor
variable{A S:Nat->Prop}{K:VWP}{L:List Eng.Ent}{M N:Eng.Mem}{P:Program}{PK PK2:PKT}{T1 U:TypeId}{W w w0:ao}{a way:Int}{args:Array aq}{b cap d f i j m p sz:Nat}{cb:Array Bool}{cs news xs:List aq}{ds:List Deferred}{e:Eng.Ent}{k':IntKind}{key:List UInt8}{o:Ob}{u:FrameMode}{v v2 vc vk vs:aq}{xo yo:Operand}{α:Type}{t0 t1 t2:aq}{k0:Eng.KT}
section
open Eng Go.RowKit
theorem draw {F:ao->Prop}(h:F w.drew):DrawX w F:=⟨h⟩
end
end Go.Proofs.YtlipjfcbjemicaaGreatDoor


namespace Go.Proofs.YtlipjfcbjemicaaGreatDoor
variable{A S:Nat->Prop}{K:VWP}{L:List Eng.Ent}{M N:Eng.Mem}{P:Program}{PK PK2:PKT}{T1 U:TypeId}{W w w0:ao}{a way:Int}{args:Array aq}{b cap d f i j m p sz:Nat}{cb:Array Bool}{cs news xs:List aq}{ds:List Deferred}{e:Eng.Ent}{k':IntKind}{key:List UInt8}{o:Ob}{u:FrameMode}{v v2 vc vk vs:aq}{xo yo:Operand}{α:Type}{t0 t1 t2:aq}{k0:Eng.KT}
section
open Eng Go.RowKit
theorem pI:∀(l:List Lx.Tok) (k j:Nat) (b:k < l.length),j < 5->(l.flatMap tokC)[k*5+j]?=(tokC l[k])[j]?
|x::l,0,j,_,a=>by
  rw[anW,anV (by simpa[tokC] using a)];simp
|x::l,k+1,j,b,a=>by
  have c:(tokC x).length=5:=rfl;rw[anW,aoB (by rw[c];omega),c,show (k+1)*5+j - 5=k*5+j by omega];rw[pI l k j (by simpa using b) a];simp
end
end Go.Proofs.YtlipjfcbjemicaaGreatDoor











namespace Go.Proofs.YtlipjfcbjemicaaGreatDoor
variable{A S:Nat->Prop}{K:VWP}{L:List Eng.Ent}{M N:Eng.Mem}{P:Program}{PK PK2:PKT}{T1 U:TypeId}{W w w0:ao}{a way:Int}{args:Array aq}{b cap d f i j m p sz:Nat}{cb:Array Bool}{cs news xs:List aq}{ds:List Deferred}{e:Eng.Ent}{k':IntKind}{key:List UInt8}{o:Ob}{u:FrameMode}{v v2 vc vk vs:aq}{xo yo:Operand}{α:Type}{t0 t1 t2:aq}{k0:Eng.KT}
section
open Eng Go.RowKit
theorem Pj {wb:ao}(h:ObAt A wb o vk vc cs)(hi:i < o.kids.length) :
  ∃v p,OV A wb v o.kids[i]∧∀W,Kept A wb W->(mIA 23 vc (.int .i64 (i:Int))).run ah W=.ok (.value (.pointer (ax p))) W∧(aH 25 (.pointer (ax p))).run ah W=.ok (.value v) W:=by
 obtain⟨b,off,cap,rfl,_⟩:=bX h.kids.1 om;obtain⟨a,g,d,c⟩:=OVs.get _ _ i hi h.all;refine⟨.agg a.toArray,⟨b,off+i*6,aw⟩,d,λW l=>⟨?_,?_⟩⟩
 ·have:=dY (P:=ah) (T:=23) (b:=b) (off:=off) (cap:=cap) (n:=o.kids.length) (k:=.i64) (i:=(i:Int)) (w:=W) amA szOb om om;rw[alQ] at this;exact this
 ·obtain⟨r,e,f,he,m⟩:=bX (h.kept l).kids.1 om;cases he;refine aW (v:=.agg a.toArray) (AtV.agg lF g λj v q=>?_);rw[anX];exact m _ _ (c j v q)
section
variable {w:ao}{PK:PKT}{K:VWP}{S:Nat->Prop}{w0:ao}{L:List Ent}
end
end
section
open Eng Go.RowKit
theorem Eng.Mem.le.trans {O:Mem}(h:M.le N)(k:N.le O):M.le O:=Mem.le_trans h k
theorem sA {l:List (List UInt8)}:∀x∈bZ l,x.oneCell'=true:=by
 intro x a;obtain⟨y,_,rfl⟩:=amM.1 a;rfl
theorem cQ {T:TypeId}{n:Nat}(h:(Ent.urow T sz v n xs).is w):v.oneCell'=true:=by
 rcases (show w.ownsRow 0 T sz v n xs from h).2 with ⟨rfl,_⟩|⟨g,cap,cur,rfl,_⟩<;>rfl
theorem Gw {A:Nat->Prop}{w:ao}:∀{os:List Ob} {cs:List aq},OVs A w cs os->∀x∈cs,x.oneCell'=av
|[],cs,h=>by rw[OVs] at h;subst h;intro x b;cases b
|o::os,cs,h=>by
  rw[OVs] at h;obtain⟨a,rest,rfl,i,d,f⟩:=h;intro x b;rcases amK.1 b with b|b
  ·obtain⟨vk,vc,g,he,c⟩:=d.open;have e:a.toArray=(obC o vk vc).toArray:=by injection he
   have e:a=obC o vk vc:=by simpa using congrArg Array.toList e
   subst e;exact kZ o c.keys.one c.kids.one x b
  ·exact Gw f x b
theorem eH {A:Nat->Prop}{w:ao}:∀{os ps:List Ob} {cs ds:List aq},OVs A w cs os->OVs A w ds ps->OVs A w (cs++ds) (os++ps)
|[],ps,cs,ds,h,k=>by rw[OVs] at h;subst h;simpa using k
|o::os,ps,cs,ds,h,k=>by
  rw[OVs] at h;obtain⟨a,rest,rfl,b,c,d⟩:=h;rw[apE,OVs];exact⟨a,rest++ds,sm,b,c,eH d k⟩
theorem oG (h:OV A w (obV o vk vc) o):OVs A w (obC o vk vc) [o]:=by
 rw[OVs];exact⟨obC o vk vc,[],sm,rfl,h,OVs.nil⟩
theorem ObAt.le {M N:Mem}{o:Ob}{vk vc:aq}{cs:List aq}(a:M.le N)(h:ObAt M.A M.w o vk vc cs):ObAt N.A N.w o vk vc cs:=⟨h.keys.le a,h.kids.le a,h.all.le a⟩
theorem ZB {k n g:Int}{s:List UInt8}{keys:List (List UInt8)}{kids:List Ob}(a:SlA M.A M.w vk 1 keys.length (bZ keys))(b:SlA M.A M.w vc 6 kids.length cs)(c:OVs M.A M.w cs kids):ObAt M.A M.w (.mk k n g s keys kids) vk vc cs:=⟨a,b,c⟩
theorem uZ (M:Mem):OV M.A M.w (obV Vl.ob0 (.slice aw 0 0) (.slice aw 0 0)) Vl.ob0:=(ZB (M:=M) (keys:=[]) (kids:=[]) (SlA.nil _ _ _ _) (SlA.nil _ _ _ _) OVs.nil).ov
theorem RB (o:Ob)(c:vk.oneCell'=av)(d:vc.oneCell'=av)(w:ao):Ret ah 164 #[obV o vk vc] w (λv w'=>v=obV o vk vc∧Below w.heap.size w w'):=by
 refine aZ λK e=>Dd ?_;unfold xD nz;refine iU o c d (Own.start w) λb f a=>?_;refine fO a λb2 w2 a=>?_;rw[ob_v a 1 rfl];refine bK 0 c d a rfl λw3 a=>?_;exact iC (bI (a.agg 0 rfl lF)) (e _ _ ⟨rfl,a.done⟩)
theorem LJ:cO ah 164=true:=krx
abbrev adG:Value:=.func (.func 164) #[] #[]
theorem Oq (n:Nat):∀(o:Ob) (v:aq) (M:Mem) (w:ao),o.wt<=n->o.wt<=100000000000->M.has w->OV M.A M.w v o->RetM ah 163 #[v,adG] M w (λv' N=>OV N.A N.w v' o):=by
 induction n with
|zero=>intro o v M w h;have:=o.PX;omega
|succ n ih=>
 intro o v M w hn hw hM hv;obtain⟨vk,vc,cs,rfl,r⟩:=hv.open;have a6:Ob.wts o.kids<=100000000000:=by cases o;rw[Ob.wt] at hw;simp only[Ob.kids];omega
 have a7:Pl.tot o.keys<=100000000000:=by cases o;rw[Ob.wt] at hw;simp only[Ob.keys];omega
 have a8:=Ob.Bn o.kids;have b0:=Pl.nO o.keys;refine bB hM λK hK=>Dj ?_;unfold wS nz;refine iU o r.keys.one r.kids.one (OwnS.memS hM) λb w1 c=>?_;refine fO c λt w2 c=>?_;rw[ob_v c 1 rfl];refine Iq LJ (aM c (R:=λv=>v=obV o vk vc) (RB o r.keys.one r.kids.one w2) ?_);rintro _ w3 rfl c;refine bK 1 r.keys.one r.kids.one c rfl λw4 c=>?_;rw[Af,oO c 1 rfl];refine Cj (xF vk _ _ w4 (r.keys.now (c.hasM 2 rfl)) sA om) λvk' w5 E=>?_;have c:=c.join E;have c:OwnS M.A w w5 [.urow 9 1 vk' o.keys.length (bZ o.keys),obE t ob0 (.slice aw 0 0) (.slice aw 0 0),obE b o vk vc,.mem M]:=c;have F:vk'.oneCell'=true:=cQ (c.at_ 0 rfl);rw[Af];refine aK 2 c rfl krx F (show 0+4 < 6 by omega) λw6 c=>?_;have c:OwnS M.A w w6 [.urow 9 1 vk' o.keys.length (bZ o.keys),obE t ob0 (.slice aw 0 0) (.slice aw 0 0),obE b o vk' vc,.mem M]:=c;obtain⟨N,G,z,c⟩:=c.bJ 2 rfl;have c:OwnS M.A w w6 [obE t ob0 (.slice aw 0 0) (.slice aw 0 0),obE b o vk' vc,.mem N]:=c;refine join λJ hJ=>?_;have fin:∀(W:ao) (j:Mem) (vc':aq) (d:List aq),OwnS M.A w W [obE t ob0 (.slice aw 0 0) (.slice aw 0 0),obE b o vk' vc',.mem j]->N.le j->vc'.oneCell'=av->SlA j.A j.w vc' 6 o.kids.length d->OVs j.A j.w d o.kids->J [] W:=by
  intro W j vc' d c hle S T h2;refine hJ _ _ λ_=>?_;unfold rF nz;rw[ob_v c 1 rfl];refine bK 0 F S c rfl λw7 c=>?_;refine iC (bI (c.agg 0 rfl lF)) (hK _ _ j _ 2 c rfl (G.trans hle) ?_);exact ObAt.ov (⟨z.le hle,T,h2⟩:ObAt j.A j.w o vk' vc' d)
 have B:=r.le G;rw[pF,fL c 1 rfl];obtain⟨a,cap,rfl,a1⟩:∃a cap,vc=.slice a o.kids.length cap∧(a=aw->o.kids.length=0):=by
  obtain⟨⟨_,a,cap,e,T,_⟩,_⟩:=r.kids;exact⟨a,cap,e,T⟩
 rw[aeG amA];cases a with
|none=>
  simp only[atP,anH,i_f];exact fin _ N _ _ c N.le_refl rfl B.kids B.all
|some p=>
  simp only[atQ,anK,i_t];rw[pF,fL c 1 rfl,bQ amA];refine NQ (sz:=6) (bytes:=88) amA krx om om c λg w7 zs U c=>?_;have c:=c.toU 6 o.kids.length o.kids.length U (alP _) om;rw[amP om] at c;rw[pF,fL c 2 rfl,bQ amA];refine loop (λvs W=>∃(i:Nat) (j:Mem) (d f:List aq),vs=[.int .i64 i]∧i<=o.kids.length∧N.le j∧OVs j.A j.w d (o.kids.take i)∧d.length=i*6 ∧
    OwnS M.A w W [.urow 25 6 (.slice (ax ⟨g,0,aw⟩) o.kids.length o.kids.length) o.kids.length (d++f),obE t ob0 (.slice aw 0 0) (.slice aw 0 0),obE b o vk' (.slice (ax p) o.kids.length cap),.mem j]) (λvs _=>o.kids.length - n0 vs)
   ⟨0,N,[],zs,rfl,om,N.le_refl,OVs.nil,rfl,c⟩ ?_
  clear c;rintro vs w8 ⟨i,j,d,f,rfl,hi,hle,s,l,c⟩ _;simp only[sU,gd,rs,nz];have V:=(show w8.ownsRow 0 25 6 _ _ (d++f) from c.at_ 0 rfl).1;rw[alI,l] at V;by_cases H:(i:Int) < (o.kids.length:Int)
  ·have m:i < o.kids.length:=om
   simp only[H,alK,i_t];obtain⟨x,q,hx,X⟩:=Pj (B.le hle) m;obtain⟨r1,r2⟩:=X w8 (c.hasM 3 rfl);refine aD r1 |>.mpr (aD r2 |>.mpr ?_);obtain⟨xk,xc,b1,rfl,I⟩:=hx.open;refine fO c λb7 w9 c=>?_;refine bK 0 I.keys.one I.kids.one c rfl λY c=>?_;rw[ob_v c 0 rfl];have b2:=Lz m;refine bH c 4 rfl (ih _ _ j Y om om (c.hasM 4 rfl) hx) λy Q Z k hy c=>?_;obtain⟨C,D,b3,rfl,O⟩:=hy.open;have c:OwnS M.A w Z [.urow 25 6 (.slice (ax ⟨g,0,aw⟩) o.kids.length o.kids.length) o.kids.length (d++f),obE t ob0 (.slice aw 0 0) (.slice aw 0 0),obE b o vk' (.slice (ax p) o.kids.length cap),.mem Q]:=c.tail;refine aD (dY amA szOb om om) |>.mpr ?_;rw[alQ,alU];refine zP 0 c rfl (u:=obV o.kids[i] C D) (new:=obC o.kids[i] C D) rfl szOb (kZ _ O.keys.one O.kids.one) (by show i*6+6<=_;omega) λb5 c=>?_;rw[aA om om];refine aY ⟨i+1,Q,d++obC o.kids[i] C D,f.drop 6,rfl,om,hle.trans k,?_,?_,?_⟩ (by simp[n0,RowKit.intOf];omega)
   ·rw[amO m];exact eH (s.le k) (oG hy)
   ·rw[alI,l];show i*6+6=_;omega
   ·have e:(d++f).take (i*6)++obC o.kids[i] C D++(d++f).drop (i*6+(obC o.kids[i] C D).length)=d++obC o.kids[i] C D++f.drop 6:=by
     rw[anM l,apO,anR (by rw[l];omega),amZ,l]
     congr 2
     show i*6+6 - i*6=6;omega
    rw[e] at c;exact c
  ·have m:i=o.kids.length:=om
   subst m;simp only[H,alL,i_f];have hz:f=[]:=aqB om;subst hz;rw[amE,amP (alP _)] at *;rw[pF];refine aK 2 c rfl krx rfl (show 0+5 < 6 by omega) λw9 c=>?_;obtain⟨Q,k,P,c⟩:=OwnS.bJ (L:=[obE t ob0 (.slice aw 0 0) (.slice aw 0 0),obE b o vk' (.slice (ax ⟨g,0,aw⟩) o.kids.length o.kids.length),.mem j]) c 2 rfl;exact fin _ Q _ _ c (hle.trans k) rfl P (s.le k)
theorem rH (o:Ob)(v:aq)(M:Mem)(w:ao)(hw:o.wt<=100000000000)(d:M.has w)(e:OV M.A M.w v o):RetM ah 95 #[v] M w (λv' N=>OV N.A N.w v' o):=by
 obtain⟨vk,vc,cs,rfl,f⟩:=e.open;refine bB d λK h=>FD ?_;unfold BQ nz;refine iU o f.keys.one f.kids.one (OwnS.memS d) λb j a=>?_;refine fO a λk w2 a=>?_;rw[ob_v a 1 rfl];refine bH a 2 rfl (Oq o.wt o _ M w2 (alP _) hw (a.hasM 2 rfl) e) λy N w3 hle g a=>?_;obtain⟨l,m,i,rfl,c⟩:=g.open;refine bK 0 c.keys.one c.kids.one a rfl λn a=>?_;exact iC (bI (a.agg 0 rfl lF)) (h _ _ N _ 2 a rfl hle g)
end
end Go.Proofs.YtlipjfcbjemicaaGreatDoor



namespace Go.Proofs.YtlipjfcbjemicaaGreatDoor
variable{A S:Nat->Prop}{K:VWP}{L:List Eng.Ent}{M N:Eng.Mem}{P:Program}{PK PK2:PKT}{T1 U:TypeId}{W w w0:ao}{a way:Int}{args:Array aq}{b cap d f i j m p sz:Nat}{cb:Array Bool}{cs news xs:List aq}{ds:List Deferred}{e:Eng.Ent}{k':IntKind}{key:List UInt8}{o:Ob}{u:FrameMode}{v v2 vc vk vs:aq}{xo yo:Operand}{α:Type}{t0 t1 t2:aq}{k0:Eng.KT}
section
open Eng Go.RowKit
theorem eS {b:Int}:DoX ah (mEq .neq 30 xo yo (.int .i64 a) (.int .i64 b)) w PK K=K (.bool (ai (a≠b))) w:=VP
end
end Go.Proofs.YtlipjfcbjemicaaGreatDoor

namespace Go.Proofs.YtlipjfcbjemicaaGreatDoor
variable{A S:Nat->Prop}{K:VWP}{L:List Eng.Ent}{M N:Eng.Mem}{P:Program}{PK PK2:PKT}{T1 U:TypeId}{W w w0:ao}{a way:Int}{args:Array aq}{b cap d f i j m p sz:Nat}{cb:Array Bool}{cs news xs:List aq}{ds:List Deferred}{e:Eng.Ent}{k':IntKind}{key:List UInt8}{o:Ob}{u:FrameMode}{v v2 vc vk vs:aq}{xo yo:Operand}{α:Type}{t0 t1 t2:aq}{k0:Eng.KT}
section
open Eng Go.RowKit
abbrev nilS:Value:=.slice aw 0 0
abbrev ob1 (k n g:Int)(s:List UInt8):Ob:=.mk k n g s [] []
section
variable {w:ao}{S:Nat->Prop}{w0:ao}{L:List Ent}
theorem Ye {K:Ending->ao->Prop}(a:OwnS S w0 w (obE b o vk vc::L))(k:K (.returned (obV o vk vc)) w):RetX ah [.cell (.pointer (ax ⟨b,0,aw⟩)) 25] w K:=iC (bI (a.agg 0 rfl lF)) k
end
def obR (o:Ob)(vk vc:aq)(w:ao):VWP:=λv w'=>v=obV o vk vc∧Below w.heap.size w w'
end
section
open Eng Go.RowKit
def getV (v:aq)(b:Bool):Value:=.tuple #[v,.bool b]
def errV (v:aq)(e:Int):Value:=.tuple #[v,.int .i64 e]
section
variable {w:ao}{S:Nat->Prop}{w0:ao}{L:List Ent}
theorem fE {K:Ending->ao->Prop}{x:aq}(i:Nat)(a:OwnS S w0 w L)(hi:L[i]?=ax (obE b o vk vc))(k:K (.returned (.tuple #[obV o vk vc,x])) w):RetX ah [.cell (.pointer (ax ⟨b,0,aw⟩)) 25,.val x] w K:=
 vO (bI (a.agg i hi lF)) uI k
theorem Kk :DoX ah (aS 25 #[]) w PK K=K (obV Vl.ob0 nilS nilS) w:=aD krx
end
theorem pR (n:Int)(w:ao):Ret ah 137 #[.int .i64 n] w (obR (ob1 2 n 0 []) nilS nilS w):=by
 refine aZ λK d=>Iy ?_;unfold HN nz;refine fO (Own.start w) λb c a=>?_;have e:∀{PK:PKT} {K:VWP},DoX ah (aS 25 #[(0,(.int .i64 2)),(1,.int .i64 n)]) c PK K=K (obV (ob1 2 n 0 []) nilS nilS) c:=aD krx;rw[e];refine bK 0 rfl rfl a rfl λw2 a=>?_;exact Ye a (d _ _ ⟨rfl,a.done⟩)
theorem iH (s:List UInt8)(w:ao):Ret ah 69 #[.string ⟨s.toArray⟩] w (obR (ob1 5 0 0 s) nilS nilS w):=by
 refine aZ λK d=>Gn ?_;unfold EY nz;refine fO (Own.start w) λb c a=>?_;have e:∀{PK:PKT} {K:VWP},DoX ah (aS 25 #[(0,(.int .i64 5)),(3,.string ⟨s.toArray⟩)]) c PK K=K (obV (ob1 5 0 0 s) nilS nilS) c:=aD krx;rw[e];refine bK 0 rfl rfl a rfl λw2 a=>?_;exact Ye a (d _ _ ⟨rfl,a.done⟩)
theorem HD (o:Ob)(e:vk.oneCell'=av)(f:vc.oneCell'=av)(w:ao):Ret ah 138 #[obV o vk vc] w (λv w'=>v=.bool (Vl.keyed o)∧Below w.heap.size w w'):=by
 refine aZ λK d=>FB ?_;unfold CP nz;refine iU o e f (Own.start w) λb g a=>?_;rw[fR,ob_k a 0 rfl];unfold Vl.keyed at d;by_cases c:o.k=7
 ·simp only[rs,c,alK,g_un];exact d _ _ ⟨by simp[c],a.done⟩
 ·simp only[rs,c,alL,fR,ob_k a 0 rfl];exact d _ _ ⟨by simp[c],a.done⟩
theorem zN (o:Ob)(v:aq)(key:List UInt8)(M:Mem)(w:ao)(hw:o.wt<=100000000000)(k:M.has w)(p:OV M.A M.w v o) :
  RetM ah 146 #[v,.string ⟨key.toArray⟩] M w (λr N=>∃v',r=getV v' (Vl.get o key).isSome∧OV N.A N.w v' ((Vl.get o key).getD Vl.ob0)):=by
 obtain⟨vk,vc,cs,rfl,d⟩:=p.open;have s:Ob.wts o.kids<=100000000000:=by cases o;rw[Ob.wt] at hw;simp only[Ob.kids];omega
 have u:Pl.tot o.keys<=100000000000:=by cases o;rw[Ob.wt] at hw;simp only[Ob.keys];omega
 have z:=Pl.nO o.keys;have B:=Ob.Bn o.kids;refine bB k λK l=>IA ?_;unfold Gv nz;refine iU o d.keys.one d.kids.one (OwnS.memS k) λb L a=>?_;refine fO a λh w2 a=>?_;rw[ob_v a 1 rfl];refine aM a (R:=λv=>v=.bool (Vl.keyed o)) (HD o d.keys.one d.kids.one w2) ?_;rintro _ w3 rfl a;have no:∀{W:ao},OwnS M.A w W [obE h ob0 nilS nilS,obE b o vk vc,.mem M]->Vl.get o key=aw->DoX ah (aS 25 #[]) W (pk K) (λt W=>DoX ah (aN 25 (.pointer (ax ⟨h,0,aw⟩)) t) W (pk K) λ_ W=>RetX ah [.cell (.pointer (ax ⟨h,0,aw⟩)) 25,.val (.bool au)] W K):=by
  intro W a f;rw[Kk];refine bK 0 rfl rfl a rfl λC a=>?_;refine fE 0 a rfl (l _ _ M _ 2 a rfl M.le_refl ⟨obV Vl.ob0 nilS nilS,?_,?_⟩)
  ·rw[f];rfl
  ·rw[f];exact uZ M
 cases c:Vl.keyed o with
|false=>
  simp only[rs,anK];exact no a (by unfold Vl.get;rw[c];rfl)
|true=>
  simp only[rs,anH];rw[Af,oO a 1 rfl];refine c_eq (QJ vk o.keys key w3 (d.keys.now (a.hasM 2 rfl)) om) ?_;by_cases hi:o.keys.idxOf key < o.keys.length
  ·rw[alH hi];have i:¬((o.keys.idxOf key:Int) < 0):=om
   simp only[rs,i,alL,pF,fL a 1 rfl];rw[bE amA (d.kids.now (a.hasM 2 rfl))];simp only[rs];by_cases m:(o.kids.length:Int)<=(o.keys.idxOf key:Int)
   ·simp only[m,alK,rs];refine no a ?_;unfold Vl.get;rw[c,alH rfl,alH hi,anY om]
   ·simp only[m,alL,rs,pF,fL a 1 rfl];have e:o.keys.idxOf key < o.kids.length:=om
    have f:Vl.get o key=ax o.kids[o.keys.idxOf key]:=by
     unfold Vl.get;rw[c,alH rfl,alH hi,alT e]
    obtain⟨x,q,D,j⟩:=Pj d e;obtain⟨E,F⟩:=j w3 (a.hasM 2 rfl);refine aD E |>.mpr (aD F |>.mpr ?_);have G:=Lz e;refine bH a 2 rfl (rH _ x M w3 om (a.hasM 2 rfl) D) λy N C hle n a=>?_;obtain⟨H,I,J,rfl,g⟩:=n.open;refine bK 0 g.keys.one g.kids.one a rfl λO a=>?_;refine fE 0 a rfl (l _ _ N _ 2 a rfl hle ⟨obV o.kids[o.keys.idxOf key] H I,?_,?_⟩)
    ·rw[f];rfl
    ·rw[f];exact n
  ·rw[alG hi];have i:((-1:Int) < 0):=om
   simp only[rs,i,alK,g_un];refine no a ?_;unfold Vl.get;rw[c,alH rfl,alG hi]
theorem HJ (o:Ob)(v:aq)(M:Mem)(w:ao)(hw:o.wt<=100000000000)(f:M.has w)(e:OV M.A M.w v o) :
  RetM ah 139 #[v] M w (λr N=>∃v',r=errV v' (Vl.right o).2∧OV N.A N.w v' (Vl.right o).1):=by
 obtain⟨vk,vc,cs,rfl,d⟩:=e.open;refine bB f λK g=>Fq ?_;unfold Cz nz;refine iU o d.keys.one d.kids.one (OwnS.memS f) λb i a=>?_;refine fO a λj w2 a=>?_;rw[ob_v a 1 rfl];refine aM a (R:=λv=>v=.int .i64 (Vl.check 1 o)) (jF o _ w2 (OV.inw (a.hasM 2 rfl) e) om) ?_;rintro _ w3 rfl a;simp only[eS];by_cases c:Vl.check 1 o=0
 ·simp only[c,ne_eq,not_true,alL,i_f];rw[ob_v a 1 rfl];refine bK 0 d.keys.one d.kids.one a rfl λh a=>?_;refine fE 0 a rfl (g _ _ M _ 2 a rfl M.le_refl ⟨obV o vk vc,?_,?_⟩)
  ·simp[Vl.right,c,errV]
  ·simpa[Vl.right,c] using e
 ·simp only[c,ne_eq,apF,alK,i_t];rw[Kk];refine bK 0 rfl rfl a rfl λh a=>?_;refine fE 0 a rfl (g _ _ M _ 2 a rfl M.le_refl ⟨obV Vl.ob0 nilS nilS,?_,?_⟩)
  ·simp[Vl.right,c,errV]
  ·simpa[Vl.right,c] using uZ M
end
end Go.Proofs.YtlipjfcbjemicaaGreatDoor







namespace Go.Proofs.YtlipjfcbjemicaaGreatDoor
variable{A S:Nat->Prop}{K:VWP}{L:List Eng.Ent}{M N:Eng.Mem}{P:Program}{PK PK2:PKT}{T1 U:TypeId}{W w w0:ao}{a way:Int}{args:Array aq}{b cap d f i j m p sz:Nat}{cb:Array Bool}{cs news xs:List aq}{ds:List Deferred}{e:Eng.Ent}{k':IntKind}{key:List UInt8}{o:Ob}{u:FrameMode}{v v2 vc vk vs:aq}{xo yo:Operand}{α:Type}{t0 t1 t2:aq}{k0:Eng.KT}
section
open Eng Go.RowKit
theorem OwnS.sep (g:OwnS S w0 w L)(i j:Nat)(l:i≠j){f:Ent}(hi:L[i]?=ax e)(m:L[j]?=ax f):∀k,e.blk k->¬f.blk k:=by
 obtain⟨a,rfl⟩:=alY.1 hi;obtain⟨b,rfl⟩:=alY.1 m;have hp:=apZ.1 g.apart;intro k d c;rcases amL i j with h|h
 ·exact hp i j a b h k d c
 ·exact hp j i b a om k c d
section
variable {w:ao}{S:Nat->Prop}{w0:ao}{L:List Ent}{PK:PKT}{K:VWP}
theorem Js (o:Ob)(a:vk.oneCell'=av)(c:vc.oneCell'=av)(d:OwnS S w0 w L)(k:∀b w',OwnS S w0 w' (obE b o vk vc::L)->K (.slice (ax ⟨b,0,aw⟩) 1 1) w'):DoX ah (bN 23 1 #[(0,obV o vk vc)]) w PK K:=by
 cases vk<;>first|(cases a;done)|skip
 all_goals cases vc<;>first|(cases c;done)|exact bA (λb=>.slice (ax ⟨b,0,aw⟩) 1 1) (obC o _ _) 25 (λ_=>by kernel_rfl) d k
theorem Nz (s:List UInt8)(a:OwnS S w0 w L)(k:∀b w',OwnS S w0 w' (.cells b [.string ⟨s.toArray⟩] 9::L)->K (.slice (ax ⟨b,0,aw⟩) 1 1) w'):DoX ah (bN 22 1 #[(0,.string ⟨s.toArray⟩)]) w PK K:=
 bA (λb=>.slice (ax ⟨b,0,aw⟩) 1 1) [.string ⟨s.toArray⟩] 9 (λ_=>by kernel_rfl) a k
end
theorem Jv (l:List (List UInt8))(i:Nat):(bZ l).take (i*1)=bZ (l.take i):=by rw[amI];simp[bZ]
theorem IG (l:List (List UInt8))(i:Nat):(bZ l).drop (i*1)=bZ (l.drop i):=by rw[amI];simp[bZ]
theorem Gf (a b:List (List UInt8)):bZ (a++b)=bZ a++bZ b:=by simp[bZ]
theorem F9 {A:Nat->Prop}{w:ao}:∀{os:List Ob} {cs:List aq} (i:Nat),OVs A w cs os->OVs A w (cs.take (i*6)) (os.take i)
|_,_,0,_=>by rw[aoO,apL,apL];exact OVs.nil
|[],cs,i+1,h=>by rw[OVs] at h;subst h;rw[List.take_nil,List.take_nil];exact OVs.nil
|o::os,cs,i+1,h=>by
  rw[OVs] at h;obtain⟨a,rest,rfl,b,c,d⟩:=h;have e:(a++rest).take ((i+1)*6)=a++rest.take (i*6):=by
   rw[asD,amP om]
   congr 2
   omega
  rw[e,asQ,OVs];exact⟨a,_,rfl,b,c,F9 i d⟩
theorem F8 {A:Nat->Prop}{w:ao}:∀{os:List Ob} {cs:List aq} (i:Nat),OVs A w cs os->OVs A w (cs.drop (i*6)) (os.drop i)
|_,_,0,h=>by rw[aoO,aoL,aoL];exact h
|[],cs,i+1,h=>by rw[OVs] at h;subst h;rw[List.drop_nil,List.drop_nil];exact OVs.nil
|o::os,cs,i+1,h=>by
  rw[OVs] at h;obtain⟨a,rest,rfl,c,d,b⟩:=h;have e:(a++rest).drop ((i+1)*6)=rest.drop (i*6):=by
   rw[apO,anR om,amZ]
   congr 1
   omega
  rw[e,asR];exact F8 i b
theorem Qm (o x:Ob)(v u:aq)(key:List UInt8)(M:Mem)(w:ao)(hw:o.wt<=10000000000)(U:M.has w)(Y:OV M.A M.w v o)(hu:OV M.A M.w u x)(Z:Vl.Rise o.keys)(hlen:o.keys.length=o.kids.length) :
  RetM ah 140 #[v,.string ⟨key.toArray⟩,u] M w (λr N=>OV N.A N.w r (Vl.put o key x)):=by
 obtain⟨vk,vc,cs,rfl,i⟩:=Y.open;obtain⟨d,e,a1,rfl,q⟩:=hu.open;have a6:Ob.wts o.kids<=10000000000:=by cases o;rw[Ob.wt] at hw;simp only[Ob.kids];omega
 have a7:Pl.tot o.keys<=10000000000:=by cases o;rw[Ob.wt] at hw;simp only[Ob.keys];omega
 have a8:=Pl.nO o.keys;have b0:=Ob.Bn o.kids;refine bB U λK hK=>Gr ?_;unfold E3 nz;refine iU o i.keys.one i.kids.one (OwnS.memS U) λb3 w1 a=>?_;refine iU x q.keys.one q.kids.one a λj w2 a=>?_;refine fO a λl w3 a=>?_;rw[Af,oO a 2 rfl];refine c_eq (GD vk o.keys key w3 (i.keys.now (a.hasM 3 rfl)) Z om) ?_;simp only[ex];rw[Af,oO a 2 rfl];refine Cj (xF vk _ _ w3 (i.keys.now (a.hasM 3 rfl)) sA om) λb w4 m=>?_;have a:=a.join m;have a:OwnS M.A w w4 [.urow 9 1 b o.keys.length (bZ o.keys),obE l ob0 nilS nilS,obE j x d e,obE b3 o vk vc,.mem M]:=a;rw[Af];refine aK 3 a rfl krx (cQ (a.at_ 0 rfl)) (show 0+4 < 6 by omega) λV a=>?_;have a:OwnS M.A w V [.urow 9 1 b o.keys.length (bZ o.keys),obE l ob0 nilS nilS,obE j x d e,obE b3 o b vc,.mem M]:=a;rw[pF,fL a 3 rfl];refine Cj (EC vc _ _ V (i.kids.now (a.hasM 4 rfl)) (Gw i.all) om) λc w6 m=>?_;have a:=a.join m;have a:OwnS M.A w w6 [.urow 25 6 c o.kids.length cs,.urow 9 1 b o.keys.length (bZ o.keys),obE l ob0 nilS nilS,obE j x d e,obE b3 o b vc,.mem M]:=a;rw[pF];refine aK 4 a rfl krx (cQ (a.at_ 0 rfl)) (show 0+5 < 6 by omega) λw7 a=>?_;have a:OwnS M.A w w7 [.urow 25 6 c o.kids.length cs,.urow 9 1 b o.keys.length (bZ o.keys),obE l ob0 nilS nilS,obE j x d e,obE b3 o b c,.mem M]:=a;have B:=Vl.zK o.keys key;refine join λJ hJ=>?_;have fin:∀(W:ao) (f cv:aq) (t:List (List UInt8)) (os:List Ob) (ds:List aq),OwnS M.A w W [.urow 25 6 cv os.length ds,.urow 9 1 f t.length (bZ t),obE l ob0 nilS nilS,obE j x d e,obE b3 o f cv,.mem M] ->
   OVs M.A M.w ds os->Vl.put o key x=.mk o.k o.n o.g o.s t os->J [] W:=by
  intro W f cv t os ds a C D;refine hJ _ _ λ_=>?_;unfold Ay nz;have G:=cQ (a.at_ 1 rfl);have H:=cQ (a.at_ 0 rfl);obtain⟨N,hle,E,a⟩:=OwnS.bJ (L:=[.urow 9 1 f t.length (bZ t),obE l ob0 nilS nilS,obE j x d e,obE b3 o f cv,.mem M]) a 4 rfl;obtain⟨X,p,y,a⟩:=OwnS.bJ (L:=[obE l ob0 nilS nilS,obE j x d e,obE b3 o f cv,.mem N]) a 3 rfl;have a:OwnS M.A w W [obE l ob0 nilS nilS,obE j x d e,obE b3 o f cv,.mem X]:=a;rw[ob_v a 2 rfl];refine bK 0 G H a rfl λF a=>?_;refine iC (bI (a.agg 0 rfl lF)) (hK _ _ X _ 3 a rfl (hle.trans p) ?_);rw[D];exact ObAt.ov (o:=.mk o.k o.n o.g o.s t os) ⟨y,E.le p,C.le (hle.trans p)⟩
 cases I:Vl.hit o.keys key with
|true=>
  simp only[i_t];have hi:o.keys[Vl.place o.keys key]?=ax key:=alZ I;have O:Vl.place o.keys key < o.keys.length:=(alY.1 hi).1;have hg:o.keys[Vl.place o.keys key]=key:=(alY.1 hi).2;rw[pF,fL a 4 rfl,ob_v a 3 rfl];obtain⟨g,cap,rfl⟩:=mO (a.at_ 0 rfl) om;refine aD (dY amA szOb om om) |>.mpr ?_;rw[alQ,alU];have b1:cs.length=o.kids.length*6:=i.kids.1.1;refine zP 0 a rfl (u:=obV x d e) (new:=obC x d e) rfl szOb (kZ _ q.keys.one q.kids.one) (by show _+6<=_;omega) λF a=>?_;have e1:o.keys.take (Vl.place o.keys key)++key::o.keys.drop (Vl.place o.keys key+1)=o.keys:=by
   conv=>rhs;rw[<-amX (Vl.place o.keys key) o.keys,anB O,hg]
  refine fin F b (.slice (ax ⟨g,0,aw⟩) o.kids.length cap) o.keys (o.kids.take (Vl.place o.keys key)++x::o.kids.drop (Vl.place o.keys key+1)) (cs.take (Vl.place o.keys key*6)++obC x d e++cs.drop (Vl.place o.keys key*6+6)) ?_ ?_ ?_
  ·have el:(o.kids.take (Vl.place o.keys key)++x::o.kids.drop (Vl.place o.keys key+1)).length=o.kids.length:=by simp;omega
   rw[el];exact a
  ·have:=eH (F9 (Vl.place o.keys key) i.all) (eH (oG hu) (F8 (Vl.place o.keys key+1) i.all));rw[show (Vl.place o.keys key+1)*6=Vl.place o.keys key*6+6 by omega,<-alS] at this;exact this
  ·unfold Vl.put;rw[I];simp only[if_true];rw[e1]
|false=>
  simp only[i_f];rw[Af,oO a 4 rfl];refine Nz key a λnb F a=>?_;refine Pz 2 a rfl (KB b o.keys.length (bZ o.keys) (Vl.place o.keys key) nb [.string ⟨key.toArray⟩] F (a.at_ 2 rfl) (a.at_ 0 rfl) rfl (λh=>(OwnS.sep a 2 0 om rfl rfl) nb h rfl) sA (by simp[Value.oneCell']) B om) ?_;rintro f e' w9 rfl a;have a:OwnS M.A w w9 [.cells nb [.string ⟨key.toArray⟩] 9,.urow 25 6 c o.kids.length cs,.urow 9 1 f (o.keys.length+1) ((bZ o.keys).take (Vl.place o.keys key*1)++[.string ⟨key.toArray⟩]++(bZ o.keys).drop (Vl.place o.keys key*1)),obE l ob0 nilS nilS,obE j x d e,obE b3 o b c,.mem M]:=a;rw[Jv,IG] at a;have a:=a.tail;rw[Af];refine aK 4 a rfl krx (cQ (a.at_ 1 rfl)) (show 0+4 < 6 by omega) λP a=>?_;have a:OwnS M.A w P [.urow 25 6 c o.kids.length cs,.urow 9 1 f (o.keys.length+1) (bZ (o.keys.take (Vl.place o.keys key))++[.string ⟨key.toArray⟩]++bZ (o.keys.drop (Vl.place o.keys key))),obE l ob0 nilS nilS,obE j x d e,obE b3 o f c,.mem M]:=a;rw[pF,fL a 4 rfl,ob_v a 3 rfl];refine Js x q.keys.one q.kids.one a λz Q a=>?_;refine Pz 1 a rfl (JR c o.kids.length cs (Vl.place o.keys key) z (obC x d e) Q (a.at_ 1 rfl) (a.at_ 0 rfl) rfl (λh=>(OwnS.sep a 1 0 om rfl rfl) z h rfl) (Gw i.all) (kZ _ q.keys.one q.kids.one) om om) ?_;rintro cv e' R rfl a;have a:OwnS M.A w R [.cells z (obC x d e) 25,.urow 25 6 cv (o.kids.length+1) (cs.take (Vl.place o.keys key*6)++obC x d e++cs.drop (Vl.place o.keys key*6)),.urow 9 1 f (o.keys.length+1) (bZ (o.keys.take (Vl.place o.keys key))++[.string ⟨key.toArray⟩]++bZ (o.keys.drop (Vl.place o.keys key))),obE l ob0 nilS nilS,obE j x d e,obE b3 o f c,.mem M]:=a;have a:=a.tail;rw[pF];refine aK 4 a rfl krx (cQ (a.at_ 0 rfl)) (show 0+5 < 6 by omega) λS a=>?_;refine fin S f cv (o.keys.take (Vl.place o.keys key)++key::o.keys.drop (Vl.place o.keys key)) (o.kids.take (Vl.place o.keys key)++x::o.kids.drop (Vl.place o.keys key)) (cs.take (Vl.place o.keys key*6)++obC x d e++cs.drop (Vl.place o.keys key*6)) ?_ ?_ ?_
  ·have el:(o.kids.take (Vl.place o.keys key)++x::o.kids.drop (Vl.place o.keys key)).length=o.kids.length+1:=by simp;omega
   have T:(o.keys.take (Vl.place o.keys key)++key::o.keys.drop (Vl.place o.keys key)).length=o.keys.length+1:=by simp;omega
   have es:bZ (o.keys.take (Vl.place o.keys key)++key::o.keys.drop (Vl.place o.keys key))=bZ (o.keys.take (Vl.place o.keys key))++[.string ⟨key.toArray⟩]++bZ (o.keys.drop (Vl.place o.keys key)):=by
    rw[Gf];simp[bZ,strV]
   rw[el,T,es];exact a
  ·have:=eH (F9 (Vl.place o.keys key) i.all) (eH (oG hu) (F8 (Vl.place o.keys key) i.all));rw[<-alS] at this;exact this
  ·unfold Vl.put;rw[I];simp
end
section
open Eng Go.RowKit
theorem Sl.upto {a:Option Addr}{n:Nat}(h:Sl w (.slice a n cap) sz n cs)(hi:i<=n):Sl w (.slice (subA a 0 cap sz) i cap) sz i (cs.take (i*sz)):=by
 obtain⟨g,a',d,e,k,f⟩:=h
 injection e with l _ m
 subst l;subst m;refine⟨by rw[alR,g,amQ (anC _ hi)],subA a 0 cap sz,cap,rfl,?_,?_⟩
 ·intro c;cases a with
 |none=>have:=k rfl;omega
 |some p=>unfold subA at c;split at c<;>simp at c
 ·intro p hp;cases a with
 |none=>unfold subA at hp;split at hp<;>simp at hp
 |some q=>
   have o:q=p:=by
    unfold subA at hp;split at hp
    ·exact aoJ hp
    ·have:=aoJ hp;rw[<-this];simp[Addr.add]
   subst o;refine⟨λh=>(f q rfl).1 om,λj u b=>(f q rfl).2 j u ?_⟩;rw[aoK] at b;split at b<;>first|exact b|cases b
theorem Sl.from {a:Option Addr}{n:Nat}(h:Sl w (.slice a n cap) sz n cs)(hi:i<=n)(z:n<=cap):Sl w (.slice (subA a i cap sz) (n - i) (cap - i)) sz (n - i) (cs.drop (i*sz)):=by
 obtain⟨g,a',t,e,v,k⟩:=h
 injection e with x _ y
 subst x;subst y;refine⟨by rw[alW,g,<-arK],subA a i cap sz,cap - i,rfl,?_,?_⟩
 ·intro c;cases a with
 |none=>have:=v rfl;omega
 |some p=>unfold subA at c;split at c<;>simp at c
 ·intro p hp;cases a with
 |none=>unfold subA at hp;split at hp<;>simp at hp
 |some q=>
   by_cases l:cap=i
   ·have c:n - i=0:=om
    refine⟨λh=>by omega,λj u d=>?_⟩;have:(cs.drop (i*sz)).length=0:=by rw[alW,g,<-arK,c,aoO]
    have:=(alY.1 d).1;omega
   ·unfold subA at hp;rw[alG l,arJ] at hp
    injection hp with hp
    have m:0 < n - i->q.spot=none:=λh=>(k q rfl).1 om;refine⟨λh=>?_,λj u d=>?_⟩
    ·have f:=m h;rw[<-hp];obtain⟨b,off,spot⟩:=q;simp only at f;subst f;rw[cK]
    ·rw[aoY] at d;have o:=(k q rfl).2 (i*sz+j) u d;have r:=(alY.1 d).1;have f:q.spot=none:=(k q rfl).1 (by
      rcases anU n with s|s
      ·rw[g,s,aoO] at r;omega
      ·exact s)
     rw[<-hp];obtain⟨b,off,spot⟩:=q;simp only at f;subst f;rw[cK,anX];exact o
theorem SlA.form {n:Nat}(h:SlA A w v sz n cs):∃a cap,v=.slice a n cap∧n<=cap:=by
 obtain⟨⟨_,a,cap,rfl,_⟩,_,b⟩:=h;exact⟨a,cap,rfl,b a n cap rfl⟩
theorem K3 (o:Ob)(v:aq)(i:Nat)(M:Mem)(w:ao)(hw:o.wt<=10000000000)(y:M.has w)(D:OV M.A M.w v o)(hi:i < o.keys.length)(hlen:o.keys.length=o.kids.length) :
  RetM ah 155 #[v,.int .i64 (i:Int)] M w (λr N=>OV N.A N.w r (.mk o.k o.n o.g o.s (o.keys.take i++o.keys.drop (i+1)) (o.kids.take i++o.kids.drop (i+1)))):=by
 obtain⟨vk,vc,cs,rfl,f⟩:=D.open;have E:Ob.wts o.kids<=10000000000:=by cases o;rw[Ob.wt] at hw;simp only[Ob.kids];omega
 have F:Pl.tot o.keys<=10000000000:=by cases o;rw[Ob.wt] at hw;simp only[Ob.keys];omega
 have G:=Pl.nO o.keys;have H:=Ob.Bn o.kids;refine bB y λK I=>CT ?_;unfold xU nz;refine iU o f.keys.one f.kids.one (OwnS.memS y) λb2 P a=>?_;refine fO a λe w2 a=>?_;rw[Af,oO a 1 rfl];refine Cj (xF vk _ _ w2 (f.keys.now (a.hasM 2 rfl)) sA om) λl w3 c=>?_;have a:=a.join c;have a:OwnS M.A w w3 [.urow 9 1 l o.keys.length (bZ o.keys),obE e ob0 nilS nilS,obE b2 o vk vc,.mem M]:=a;simp only[rs];rw[aA om om,show (i:Int)+1=((i+1:Nat):Int) by omega];refine Pz 0 a rfl (Km l o.keys.length (bZ o.keys) i w3 (a.at_ 0 rfl) sA hi om) ?_;rintro b e' J rfl a;have a:OwnS M.A w J [.urow 9 1 b (o.keys.length - 1) ((bZ o.keys).take (i*1)++(bZ o.keys).drop ((i+1)*1)),obE e ob0 nilS nilS,obE b2 o vk vc,.mem M]:=a;rw[Jv,IG] at a;rw[Af];have m:=cQ (a.at_ 0 rfl);refine aK 2 a rfl krx m (show 0+4 < 6 by omega) λz a=>?_;have a:OwnS M.A w z [.urow 9 1 b (o.keys.length - 1) (bZ (o.keys.take i)++bZ (o.keys.drop (i+1))),obE e ob0 nilS nilS,obE b2 o b vc,.mem M]:=a;rw[pF,fL a 2 rfl];refine Cj (EC vc _ _ z (f.kids.now (a.hasM 3 rfl)) (Gw f.all) om) λp B c=>?_;have a:=a.join c;have a:OwnS M.A w B [.urow 25 6 p o.kids.length cs,.urow 9 1 b (o.keys.length - 1) (bZ (o.keys.take i)++bZ (o.keys.drop (i+1))),obE e ob0 nilS nilS,obE b2 o b vc,.mem M]:=a;refine Pz 0 a rfl (Kt p o.kids.length cs i B (a.at_ 0 rfl) (Gw f.all) om om) ?_;rintro cv e' O rfl a;have a:OwnS M.A w O [.urow 25 6 cv (o.kids.length - 1) (cs.take (i*6)++cs.drop ((i+1)*6)),.urow 9 1 b (o.keys.length - 1) (bZ (o.keys.take i)++bZ (o.keys.drop (i+1))),obE e ob0 nilS nilS,obE b2 o b vc,.mem M]:=a;have q:=cQ (a.at_ 0 rfl);rw[pF];refine aK 3 a rfl krx q (show 0+5 < 6 by omega) λC a=>?_;have a:OwnS M.A w C [.urow 25 6 cv (o.kids.length - 1) (cs.take (i*6)++cs.drop ((i+1)*6)),.urow 9 1 b (o.keys.length - 1) (bZ (o.keys.take i)++bZ (o.keys.drop (i+1))),obE e ob0 nilS nilS,obE b2 o b cv,.mem M]:=a;obtain⟨N,hle,t,a⟩:=OwnS.bJ (L:=[.urow 9 1 b (o.keys.length - 1) (bZ (o.keys.take i)++bZ (o.keys.drop (i+1))),obE e ob0 nilS nilS,obE b2 o b cv,.mem M]) a 3 rfl;obtain⟨j,d,h,a⟩:=OwnS.bJ (L:=[obE e ob0 nilS nilS,obE b2 o b cv,.mem N]) a 2 rfl;have a:OwnS M.A w C [obE e ob0 nilS nilS,obE b2 o b cv,.mem j]:=a;rw[ob_v a 1 rfl];refine bK 0 m q a rfl λQ a=>?_;refine iC (bI (a.agg 0 rfl lF)) (I _ _ j _ 2 a rfl (hle.trans d) ?_);have u:(o.keys.take i++o.keys.drop (i+1)).length=o.keys.length - 1:=by simp;omega
 have x:(o.kids.take i++o.kids.drop (i+1)).length=o.kids.length - 1:=by simp;omega
 refine ObAt.ov (o:=.mk o.k o.n o.g o.s (o.keys.take i++o.keys.drop (i+1)) (o.kids.take i++o.kids.drop (i+1))) (vk:=b) (vc:=cv) (cs:=cs.take (i*6)++cs.drop ((i+1)*6)) ⟨?_,?_,?_⟩
 ·show SlA j.A j.w b 1 (o.keys.take i++o.keys.drop (i+1)).length (bZ (o.keys.take i++o.keys.drop (i+1)));rw[u,Gf];exact h
 ·show SlA j.A j.w cv 6 (o.kids.take i++o.kids.drop (i+1)).length _;rw[x];exact t.le d
 ·exact (eH (F9 i f.all) (F8 (i+1) f.all)).le (hle.trans d)
def fh (o:Ob)(key:List UInt8):Ob:=if Vl.keyed o=av∧Vl.check 1 o=0 then Vl.aQ o key else o
theorem Cd (o:Ob)(v:aq)(key:List UInt8)(M:Mem)(w:ao)(hw:o.wt<=10000000000)(s:M.has w)(e:OV M.A M.w v o) :
  RetM ah 88 #[v,.string ⟨key.toArray⟩] M w (λr N=>OV N.A N.w r (fh o key)):=by
 obtain⟨vk,vc,cs,rfl,h⟩:=e.open;have x:Pl.tot o.keys<=10000000000:=by cases o;rw[Ob.wt] at hw;simp only[Ob.keys];omega
 have z:=Pl.nO o.keys;refine bB s λK B=>HT ?_;unfold ET nz;refine iU o h.keys.one h.kids.one (OwnS.memS s) λb2 L a=>?_;refine fO a λC w2 a=>?_;refine join λJ D=>?_;have fin:∀(W:ao) (N:Mem) (p:Ob) (l cv:aq),OwnS M.A w W [obE C ob0 nilS nilS,obE b2 p l cv,.mem N]->M.le N->OV N.A N.w (obV p l cv) p->p=fh o key->p.wt<=10000000000->J [] W:=by
  intro W N p l cv a hle hp he E;refine D _ _ λ_=>?_;unfold Be nz;rw[ob_v a 1 rfl];refine bH a 2 rfl (rH p _ N W om (a.hasM 2 rfl) hp) λy F i j f a=>?_;obtain⟨t,u,m,rfl,b⟩:=f.open;refine bK 0 b.keys.one b.kids.one a rfl λG a=>?_;exact iC (bI (a.agg 0 rfl lF)) (B _ _ F _ 2 a rfl (hle.trans j) (he▸f))
 rw[ob_v a 1 rfl];refine aM a (R:=λv=>v=.bool (Vl.keyed o)) (HD o h.keys.one h.kids.one w2) ?_;rintro _ w3 rfl a;cases c:Vl.keyed o with
|false=>
  simp only[rs,g_un];exact fin w3 M o vk vc a M.le_refl e (by unfold fh;rw[alG (by simp[c])]) hw
|true=>
  simp only[rs];rw[ob_v a 1 rfl];refine aM a (R:=λv=>v=.int .i64 (Vl.check 1 o)) (jF o _ w3 (OV.inw (a.hasM 2 rfl) e) om) ?_;rintro _ i rfl a;simp only[rs];by_cases g:Vl.check 1 o=0
  ·simp only[g,alK,rs];obtain⟨H,hlen⟩:=Vl.lE g c;rw[Af,oO a 1 rfl];refine c_eq (GD vk o.keys key i (h.keys.now (a.hasM 2 rfl)) H om) ?_;simp only[ex];have d:=Vl.Rk g c key;have k:fh o key=Vl.aQ o key:=by unfold fh;rw[alH ⟨c,g⟩]
   cases n:Vl.hit o.keys key with
  |true=>
    simp only[i_t];rw[n,alH rfl] at d;have hi:o.keys[Vl.place o.keys key]?=ax key:=alZ n;have q:Vl.place o.keys key < o.keys.length:=(alY.1 hi).1;rw[ob_v a 1 rfl];refine bH a 2 rfl (K3 o _ _ M i hw (a.hasM 2 rfl) e q hlen) λy N G hle f a=>?_;rw[<-d] at f;obtain⟨t,u,m,rfl,b⟩:=f.open;refine bK 1 b.keys.one b.kids.one a rfl λI a=>?_;exact fin I N _ t u a hle f k.symm (aoM (Vl.jA o key) hw)
  |false=>
    simp only[i_f];rw[n] at d;exact fin i M o vk vc a M.le_refl e (by rw[k,d];rfl) hw
  ·simp only[g,alL,rs];exact fin i M o vk vc a M.le_refl e (by unfold fh;rw[alG (by simp[g])]) hw
theorem JZ (o x:Ob)(v u:aq)(key:List UInt8)(M:Mem)(w:ao)(hw:o.wt<=10000000000)(E:x.wt<=10000000000)(F:key.length<=10000000000)(s:M.has w)(i:OV M.A M.w v o)(hu:OV M.A M.w u x) :
  RetM ah 70 #[v,.string ⟨key.toArray⟩,u] M w (λr N=>∃v',r=errV v' (Vl.set o key x).2∧OV N.A N.w v' (Vl.set o key x).1):=by
 obtain⟨vk,vc,cs,rfl,j⟩:=i.open;obtain⟨X,Y,G,rfl,B⟩:=hu.open;refine bB s λK l=>Ir ?_;unfold G1 nz;refine iU o j.keys.one j.kids.one (OwnS.memS s) λb3 Z a=>?_;refine iU x B.keys.one B.kids.one a λb5 w2 a=>?_;refine fO a λb6 w3 a=>?_;rw[ob_v a 2 rfl];refine aM a (R:=λv=>v=.bool (Vl.keyed o)) (HD o j.keys.one j.kids.one w3) ?_;rintro _ H rfl a;cases b:Vl.keyed o with
|false=>
  simp only[rs,anK];rw[Kk];refine bK 0 rfl rfl a rfl λp a=>?_;refine fE 0 a rfl (l _ _ M _ 3 a rfl M.le_refl ⟨obV Vl.ob0 nilS nilS,?_,?_⟩)
  ·simp[Vl.set,b,errV]
  ·simpa[Vl.set,b] using uZ M
|true=>
  simp only[rs,anH];rw[ob_v a 2 rfl];refine aM a (R:=λv=>v=.int .i64 (Vl.check 1 o)) (jF o _ H (OV.inw (a.hasM 3 rfl) i) om) ?_;rintro _ p rfl a;simp only[eS];by_cases c:Vl.check 1 o=0
  ·simp only[c,ne_eq,not_true,alL,i_f];rw[fR,ob_k a 1 rfl];simp only[rs];by_cases m:x.k=0
   ·simp only[m,alK,i_t];rw[ob_v a 2 rfl];refine bH a 3 rfl (Cd o _ key M p hw (a.hasM 3 rfl) i) λy N q hle n a=>?_;obtain⟨I,J,L,rfl,d⟩:=n.open;refine bK 0 d.keys.one d.kids.one a rfl λC a=>?_;have e:Vl.set o key x=(fh o key,0):=by simp[Vl.set,b,c,m,fh]
    refine fE 0 a rfl (l _ _ N _ 3 a rfl hle ⟨obV (fh o key) I J,?_,?_⟩)
    ·rw[e];rfl
    ·rw[e];exact n
   ·simp only[m,alL,i_f];rw[ob_v a 2 rfl,ob_v a 1 rfl];obtain⟨O,hlen⟩:=Vl.lE c b;have P:=Vl.UO o key x;refine bH a 3 rfl (Qm o x _ _ key M p hw (a.hasM 3 rfl) i hu O hlen) λy N q hle n a=>?_;refine bH a 3 rfl (rH _ _ N q om (a.hasM 3 rfl) n) λz Q C f S a=>?_;refine bH a 3 rfl (HJ _ _ Q C om (a.hasM 3 rfl) S) ?_;rintro _ T w8 g ⟨t,rfl,D⟩ a;obtain⟨U,V,W,rfl,h⟩:=D.open;simp only[errV,ex];refine bK 0 h.keys.one h.kids.one a rfl λw9 a=>?_;have e:Vl.set o key x=Vl.right (Vl.put o key x):=by simp[Vl.set,b,c,m]
    refine fE 0 a rfl (l _ _ T _ 3 a rfl (hle.trans (f.trans g)) ⟨obV (Vl.right (Vl.put o key x)).1 U V,?_,?_⟩)
    ·rw[e];rfl
    ·rw[e];exact D
  ·simp only[c,ne_eq,apF,alK,i_t];rw[Kk];refine bK 0 rfl rfl a rfl λq a=>?_;refine fE 0 a rfl (l _ _ M _ 3 a rfl M.le_refl ⟨obV Vl.ob0 nilS nilS,?_,?_⟩)
   ·simp[Vl.set,b,c,errV]
   ·simpa[Vl.set,b,c] using uZ M
end
section
open Eng Go.RowKit
theorem ahK:elB ah 9 1 16=true:=krx
theorem elOb:elB ah 25 6 88=true:=krx
section
variable {w:ao}{S:Nat->Prop}{w0:ao}{L:List Ent}{PK:PKT}{K:VWP}
theorem ajV (i:Nat){n:Nat}(a:OwnS S w0 w L)(hi:L[i]?=ax (.urow 9 1 v n xs))(b:Sl w v2 1 m news)(c:∀u∈news,u.oneCell'=av)(d:n+m<=1000000000000)
  (k:∀v' w',OwnS S w0 w' (L.set i (.urow 9 1 v' (n+m) (xs++news)))->K v' w'):DoX ah (mB .append #[22,22] 22 cb #[v,v2]) w PK K:=
 bR i amD ahK dc a hi b c om om k
theorem QQ (i:Nat){n:Nat}(a:OwnS S w0 w L)(hi:L[i]?=ax (.urow 25 6 v n xs))(b:Sl w v2 6 m news)(c:∀u∈news,u.oneCell'=av)(d:n+m<=1000000000000)
  (k:∀v' w',OwnS S w0 w' (L.set i (.urow 25 6 v' (n+m) (xs++news)))->K v' w'):DoX ah (mB .append #[23,23] 23 cb #[v,v2]) w PK K:=
 bR i amA elOb dc a hi b c om om k
end
end
section
namespace Eng
open Go.RowKit
def strK (k:List UInt8):Value:=.string ⟨k.toArray⟩
def RR (w:ao)(b:Nat)(a:List (List UInt8×aq)):Prop:=∃es clock,w.heap[b]?=ax (.map es clock)∧es.toList.map (λe=>(e.key,e.val))=a.map λp=>(strK p.1,p.2)
def Ent.map (b:Nat)(d:List (List UInt8×aq)):Ent:=⟨λk=>k=b,λw=>RR w b d,λ{w w'} h k=>by
  obtain⟨es,clock,a,c⟩:=h;exact⟨es,clock,(k b rfl).trans a,c⟩,λh k e=>by
  obtain⟨es,clock,a,c⟩:=h;cases e;exact dV a⟩
def sP (a:List (List UInt8×aq))(k:List UInt8):Option Value:=(a.find? λp=>ai (p.1=k)).map (·.2)
theorem Gq (k:List UInt8):∀(es:List MapEntry) (b:List (List UInt8×aq)) (i:Nat),es.map (λe=>(e.key,e.val))=b.map (λp=>(strK p.1,p.2)) ->
  ∃r,Instr.findNow .string (strK k) es i=ax r∧r.map (·.2)=sP b k
|[],[],i,_=>⟨aw,rfl,rfl⟩
|e::es,p::b,i,h=>by
  simp only[anE,aqJ,apJ] at h;obtain⟨⟨j,l⟩,m⟩:=h;have g:Instr.sameNow .string (strK k) e.key=ax (ai (k=p.1)):=by
   rw[j];show ax ((⟨k.toArray⟩:ByteArray)==⟨p.1.toArray⟩)=_
   congr 1
   show (k.toArray==p.1.toArray)=_;by_cases a:k=p.1<;>simp[a]
  by_cases a:k=p.1
  ·refine⟨ax (i,e.val),?_,?_⟩
   ·rw[Instr.findNow,g];simp[a]
   ·simp[sP,a,l]
  ·obtain⟨r,c,d⟩:=Gq k es b (i+1) m;refine⟨r,?_,?_⟩
   ·rw[Instr.findNow,g];simp[a,c]
   ·have f:¬p.1=k:=λe=>a e.symm;rw[d];simp[sP,f]
|[],_::_,_,h=>by simp at h
|_::_,[],_,h=>by simp at h
section
variable {S:Nat->Prop}{P:Program}{w w0:ao}{L:List Ent}{PK:PKT}{K:VWP}
theorem Qv {T:TypeId}(a:OwnS S w0 w L)(k:∀b w',OwnS S w0 w' (.map b []::L)->K (.map (ax b)) w'):DoX P (mMap T aw) w PK K:=by
 have c:(Instr.makeMap T aw).run P w=.ok (.map (ax w.heap.size)) (w.alloc (.map #[] 0)):=rfl;exact rS (cJ c) (k _ _ (a.add (World.grownBy_alloc w _ aw) (.map w.heap.size []) ⟨#[],0,heap_alloc_new w _,rfl⟩ (λk d=>by cases d;exact alP _)))
theorem pT {k:TypeId}{e:Bool}(a:P.underlying k=ax .string)(x:List UInt8):(Instr.checkKey e 10000 k (strK x)).run P w=.ok () w:=by
 show (Instr.checkKey e (9999+1) k (strK x)).run P w=_;rw[Instr.checkKey];simp[run_underlying a,strK]
theorem GK {k:TypeId}(b:P.underlying k=ax .string)(x:List UInt8){es:List MapEntry}{a:List (List UInt8×aq)}(h:es.map (λe=>(e.key,e.val))=a.map (λp=>(strK p.1,p.2))) :
  ∃r,(Instr.findKey k (strK x) es).run P w=.ok r w∧r.map (·.2)=sP a x:=by
 obtain⟨r,c,d⟩:=Gq x es a 0 h;refine⟨r,?_,d⟩;simp[Instr.findKey,run_underlying b,c]
theorem KI {T k e:TypeId}{ok:Bool}{a:List (List UInt8×aq)}{z:aq}(g:P.underlying T=ax (.map k e))(c:P.underlying k=ax .string)(m:(P.info? e).bind (·.zero)=ax z)(h:RR w b a)(x:List UInt8) :
  (Tv T (.map (ax b)) (strK x) ok).run P w=.ok (.value (if ok then .tuple #[(sP a x).getD z,.bool (sP a x).isSome] else (sP a x).getD z)) w:=by
 obtain⟨es,clock,j,n⟩:=h;obtain⟨r,l,o⟩:=GK (P:=P) (w:=w) c x n;have d:(zeroValue e).run P w=.ok z w:=by
  obtain⟨i,hi,f⟩:=aqU.1 m;simp[zeroValue,typeInfo,hi,f]
 refine cJ ?_;rw[<-o];cases r with
|none=>simp[Instr.lookup,run_underlying g,getObj,Sem.run,j,pT c x,l,d]
|some p=>
  obtain⟨i,v⟩:=p;simp[Instr.lookup,run_underlying g,getObj,Sem.run,j,pT c x,l]
theorem Pw (i:Nat){T k e:TypeId}{c:List (List UInt8×aq)}(l:P.underlying T=ax (.map k e))(a:P.underlying k=ax .string)(f:OwnS S w0 w L)(hi:L[i]?=ax (.map b c))(x:List UInt8)(v:aq)(m:sP c x=aw)
  (n:∀w',OwnS S w0 w' (L.set i (.map b (c++[(x,v)])))->K undef w'):DoX P (UW T (.map (ax b)) (strK x) v) w PK K:=by
 obtain⟨es,clock,g,h⟩:=(show RR w b c from f.at_ i hi);obtain⟨r,o,j⟩:=GK (P:=P) (w:=w) a x h;have d:r=none:=by
  cases r with
 |none=>rfl
 |some p=>rw[m] at j;cases j
 subst d;have q:(Instr.mapUpdate T (.map (ax b)) (strK x) v).run P w=.ok () { w with heap:=w.heap.setIfInBounds b (.map (es.push { key:=strK x,val:=v,born:=clock }) (clock+1)) }:=by
  simp[Instr.mapUpdate,run_underlying l,getObj,setObj,Sem.run,g,pT a x,o]
 refine Bm (HP q) (n _ ?_);refine f.put i hi (w':={ w with heap:=w.heap.setIfInBounds b _ }) ⟨rfl,rfl,rfl,sm,λk _ a=>?_⟩ (.map b (c++[(x,v)])) ?_ (λk a=>.inl a)
 ·show (w.heap.setIfInBounds b _)[k]?=_;exact apY (λe=>a (by simp[Ent.map,e]))
 ·refine⟨es.push { key:=strK x,val:=v,born:=clock },clock+1,?_,?_⟩
  ·show (w.heap.setIfInBounds b _)[b]?=_;exact atO (dV g)
  ·simp[h]
end
theorem IZ {a:List (List UInt8×aq)}{k:List UInt8}:sP a k=aw↔k ∉ a.map (·.1):=by
 unfold sP;rw[Option.map_eq_none_iff,atU];exact⟨λh hm=>by obtain⟨p,hp,rfl⟩:=amM.1 hm;simpa using h p hp,λh p hp b=>h (amM.2 ⟨p,hp,by simpa using b⟩)⟩
end Eng
end
section
open Eng Go.RowKit
theorem J9 (os:List Ob)(v:aq)(cs:List aq)(M:Mem)(w:ao)(hw:Ob.wts os<=10000000000)(g:M.has w)(h:SlA M.A M.w v 6 os.length cs)(d:OVs M.A M.w cs os) :
  RetM ah 141 #[v] M w (λr N=>OV N.A N.w r (.mk 6 0 0 [] [] os)):=by
 obtain⟨a,cap,rfl,_⟩:=h.form;refine bB g λK j=>FE ?_;unfold CB nz;refine fO (OwnS.memS g) λb f c=>?_;have k:∀{PK:PKT} {K:VWP},DoX ah (aS 25 #[(0,(.int .i64 6)),(5,.slice a os.length cap)]) f PK K=K (obV (.mk 6 0 0 [] [] os) nilS (.slice a os.length cap)) f:=aD krx;rw[k];refine bH c 1 rfl (rH (.mk 6 0 0 [] [] os) _ M f (by rw[Ob.wt];simp[Pl.tot];omega) (c.hasM 1 rfl) (ObAt.ov (o:=.mk 6 0 0 [] [] os) (vk:=nilS) (cs:=cs) ⟨SlA.nil _ _ _ _,h,d⟩)) λy N w2 hle i c=>?_;obtain⟨m,n,l,rfl,e⟩:=i.open;refine bK 0 e.keys.one e.kids.one c rfl λw3 c=>?_;exact iC (bI (c.agg 0 rfl lF)) (j _ _ N _ 1 c rfl hle i)
theorem Sl.cellAt {off n:Nat}(h:Sl w (.slice (ax ⟨b,off,aw⟩) n cap) sz n cs):∀j u,cs[j]?=ax u->w.cell? ⟨b,off+j,aw⟩=ax u:=by
 obtain⟨_,a,c,e,_,d⟩:=h
 injection e with f _ _
 exactλj u g=>(d _ f.symm).2 j u g
theorem aeM :DoX ah (aS 25 #[(0,(.int .i64 7))]) w PK K=K (obV (.mk 7 0 0 [] [] []) nilS nilS) w:=aD krx
theorem Vg (ps:List Ob)(v:aq)(cs:List aq)(M:Mem)(w:ao)(hw:Ob.wts ps<=1000000000)(hM:M.has w)(hs:SlA M.A M.w v 6 ps.length cs)(n:OVs M.A M.w cs ps) :
  RetM ah 136 #[v] M w (λr N=>∃v',r=errV v' (Vl.dict ps).2∧OV N.A N.w v' (Vl.dict ps).1):=by
 have a1:ObAt M.A M.w (.mk 0 0 0 [] [] ps) nilS v cs:=⟨SlA.nil _ _ _ _,hs,n⟩;have e2:=Ob.Bn ps;refine bB hM λK hK=>GA ?_;unfold Et nz;refine fO (OwnS.memS hM) λb2 w1 b=>?_;rw[bE amA (hs.now (b.hasM 1 rfl)),JY om];have hr:((ps.length:Int).tmod 2)=((ps.length % 2:Nat):Int):=by rw[atV om];omega
 rw[hr];simp only[rs];have no:∀{W:ao} {N:Mem} {L:List Ent} (e:Int),OwnS M.A w W (obE b2 ob0 nilS nilS::.mem N::L)->M.le N->Vl.dict ps=(Vl.ob0,e)->DoX ah (aS 25 #[]) W (pk K) (λt W=>DoX ah (aN 25 (.pointer (ax ⟨b2,0,aw⟩)) t) W (pk K) λ_ W=>RetX ah [.cell (.pointer (ax ⟨b2,0,aw⟩)) 25,.val (.int .i64 e)] W K):=by
  intro W N L e b hle G;rw[Kk];refine bK 0 rfl rfl b rfl λw4 b=>?_;refine fE 0 b rfl (hK _ _ N _ 1 b rfl hle ⟨obV Vl.ob0 nilS nilS,?_,?_⟩)
  ·rw[G];rfl
  ·rw[G];exact uZ N
 by_cases a6:ps.length % 2=0
 case neg=>
  have h1:¬(((ps.length % 2:Nat):Int)=0):=om
  simp only[h1,ne_eq,apF,alK,i_t];exact no 1 b M.le_refl (by unfold Vl.dict;rw[alH a6])
 have h1:(((ps.length % 2:Nat):Int)=0):=om
 simp only[h1,ne_eq,not_true,alL,i_f];have H:Vl.dict ps=if Vl.tT ps=au then (Vl.ob0,1) else Vl.NF [] (.mk 7 0 0 [] [] []) ps:=by unfold Vl.dict;rw[alG om]
 refine loop (λvs W=>∃(i:Nat) (x:aq),vs=[x,.int .i64 i]∧i<=ps.length∧i % 2=0∧Vl.tT ps=Vl.tT (ps.drop i)∧OwnS M.A w W [obE b2 ob0 nilS nilS,.mem M]) (λvs _=>ps.length - n1 vs) ⟨0,_,rfl,om,rfl,sm,b⟩ ?_;clear b;rintro vs w2 ⟨i,x,rfl,hi,a7,B,b⟩ _;simp only[AM,gd,nz];rw[bE amA (hs.now (b.hasM 1 rfl))];simp only[rs];by_cases f:(i:Int) < (ps.length:Int)
 ·have g:i+1 < ps.length:=om
  have I:i < ps.length:=om
  simp only[f,alK,i_t];obtain⟨p,q,hp,c3⟩:=Pj a1 I;have hp:OV M.A M.w p ps[i]:=hp;obtain⟨r1,_⟩:=c3 w2 (b.hasM 1 rfl);obtain⟨e3,pc,e4,rfl,e5⟩:=hp.open;obtain⟨bq,oq,cq,rfl,a8⟩:=bX (hs.now (b.hasM 1 rfl)) om;refine aD (dY amA szOb om om) |>.mpr ?_;rw[alQ,fR];have O:w2.cell? ⟨bq,oq+i*6,aw⟩=ax (.int .i64 ps[i].k):=by
   obtain⟨a,P,S,C⟩:=OVs.get ps cs i I n;obtain⟨R,ac,c4,he,c5⟩:=S.open;have e:a=obC ps[i] R ac:=by
    have e:a.toArray=(obC ps[i] R ac).toArray:=by injection he
    simpa using congrArg Array.toList e
   have:=a8 (i*6+0) _ (C 0 (.int .i64 ps[i].k) (by rw[e];rfl))
   rwa [anF] at this
  rw[aJ aU O];simp only[rs];rw[Vl.Lr g] at B;by_cases h5:ps[i].k=5
  ·simp only[h5,ne_eq,not_true,alL,i_f];rw[aA om om];refine aY ⟨i+2,x,sm,om,om,?_,b⟩ (by simp[n1,RowKit.intOf];omega);rw[B,h5];simp
  ·simp only[h5,ne_eq,apF,alK,i_t];refine no 1 b M.le_refl ?_;rw[H,B,alH (by simp[h5])]
 ·have b0:i=ps.length:=om
  simp only[f,alL,i_f];have c6:Vl.tT ps=true:=by rw[B,anR om];rfl
  rw[c6] at H;simp only[Bool.true_eq_false,if_false] at H;rw[aeM];refine fO b λb5 w3 b=>?_;refine bK 0 rfl rfl b rfl λw4 b=>?_;refine Qv b λbm w5 b=>?_;clear B hi a7 f b0;refine loop (λvs W=>∃(i:Nat) (x:aq) (h:List (List UInt8×aq)) (o:Ob) (ok X:aq) (N:Mem),vs=[x,.int .i64 i]∧i<=ps.length∧i % 2=0∧Vl.dict ps=Vl.NF (h.map (·.1)) o (ps.drop i)∧Vl.Rise o.keys∧o.keys.length=o.kids.length ∧
    o.wt+Ob.wts (ps.drop i)<=6+Ob.wts ps∧(∀p∈h,p.2=.bool av)∧M.le N∧OV N.A N.w (obV o ok X) o∧OwnS M.A w W [.map bm h,obE b5 o ok X,obE b2 ob0 nilS nilS,.mem N]) (λvs _=>ps.length - n1 vs)
   ⟨0,x,[],.mk 7 0 0 [] [] [],nilS,nilS,M,rfl,om,rfl,by simpa using H,List.Pairwise.nil,rfl,by simp[Ob.wt,Ob.wts,Pl.tot],sm,M.le_refl,ObAt.ov (o:=.mk 7 0 0 [] [] []) (cs:=[]) ⟨SlA.nil _ _ _ _,SlA.nil _ _ _ _,OVs.nil⟩,b⟩ ?_
  clear b;rintro vs w6 ⟨i,y,h,o,ok,X,N,rfl,hi,a7,G,c,hlen,c7,P,hle,Q,b⟩ _;have b1:=Q.open;obtain⟨D,E,e6,heq,e7⟩:=b1;have e1:D=ok∧E=X:=by
   have:(obC o ok X).toArray=(obC o D E).toArray:=by injection heq
   have:obC o ok X=obC o D E:=by simpa using congrArg Array.toList this
   simp only[obC,aqJ,true_and,and_true] at this;exact⟨this.1.symm,this.2.symm⟩
  obtain⟨rfl,rfl⟩:=e1;simp only[AU,gd,nz];have T:=hs.le hle;have b3:=a1.le hle;rw[bE amA (T.now (b.hasM 3 rfl))];simp only[rs];by_cases f:(i:Int) < (ps.length:Int)
  ·have g:i+1 < ps.length:=om
   have I:i < ps.length:=om
   simp only[f,alK,i_t];have b4:=Vl.Q8 (met:=h.map (·.1)) (o:=o) g;have e8:=Vl.Wf g;refine join λJ hJ=>?_;obtain⟨bq,oq,cq,rfl,a8⟩:=bX (T.now (b.hasM 3 rfl)) om;have cellAt:∀{W:ao} (l:N.has W) (m:Nat) (hm:m < ps.length) (j:Nat) (u:aq),(∀R ac,(obC ps[m] R ac)[j]?=ax u)->W.cell? ⟨bq,oq+m*6+j,aw⟩=ax u:=by
    intro W l m hm j u hu;obtain⟨a,P,S,C⟩:=OVs.get ps cs m hm n;obtain⟨R,ac,c4,he,c5⟩:=S.open;have e:a=obC ps[m] R ac:=by
     have e:a.toArray=(obC ps[m] R ac).toArray:=by injection he
     simpa using congrArg Array.toList e
    have:=Sl.cellAt (T.now l) (m*6+j) _ (C j u (by rw[e];exact hu R ac))
    rwa [<-anX] at this
   have fin:∀(W:ao) (Y:Mem) (kv cv:aq),OwnS M.A w W [.map bm (h++[(ps[i].s,.bool av)]),obE b5 (if ps[i+1].k≠0 then Vl.put o ps[i].s ps[i+1] else o) kv cv,obE b2 ob0 nilS nilS,.mem Y]->M.le Y ->
     OV Y.A Y.w (obV (if ps[i+1].k≠0 then Vl.put o ps[i].s ps[i+1] else o) kv cv) (if ps[i+1].k≠0 then Vl.put o ps[i].s ps[i+1] else o)->ps[i].s ∉ h.map (·.1)->J [y] W:=by
    intro W Y kv cv b b6 b7 hm;refine hJ _ _ λ_=>?_;simp only[Ar,gd,rs,nz];rw[aA om om];have c8:=Vl.UO o ps[i].s ps[i+1];have e9:ps[i].s.length+1<=ps[i].wt:=by rw[Vl.lC];omega
    have e0:=ps[i+1].PX;refine aY ⟨i+2,y,h++[(ps[i].s,.bool av)],_,kv,cv,Y,sm,om,om,?_,?_,?_,?_,?_,b6,b7,b⟩ (by simp[n1,RowKit.intOf];omega)
    ·rw[G,b4,alG hm];simp
    ·split
     ·exact (Vl.Ku c hlen).1
     ·exact c
    ·split
     ·exact (Vl.Ku c hlen).2
     ·exact hlen
    ·split<;>omega
    ·intro p hp;rcases amK.1 hp with hp|hp
     ·exact P p hp
     ·simp only[amH] at hp;rw[hp]
   refine aD (dY amA szOb om om) |>.mpr ?_;rw[alQ,G5,aJ Kc (cellAt (b.hasM 3 rfl) i I 3 _ λ_ _=>rfl)];refine aD (KI (z:=.bool au) underlying215 alV krx (b.at_ 0 rfl) ps[i].s) |>.mpr ?_;by_cases d:ps[i].s∈h.map (·.1)
   ·have hl:sP h ps[i].s=ax (.bool av):=by
     cases U:sP h ps[i].s with
    |none=>exact absurd d (IZ.1 U)
    |some u=>
      unfold sP at U;obtain⟨p,hp,rfl⟩:=anP.1 U;rw[P p (List.mem_of_find?_eq_some hp)]
    rw[hl];simp only[apT,if_false,apA,i_t];have b:OwnS M.A w w6 (obE b2 ob0 nilS nilS::.mem N::[]):=b.tail.tail;exact no 9 b hle (by rw[G,b4,alH d])
   ·have hl:sP h ps[i].s=none:=IZ.2 d;rw[hl];simp only[apT,if_false,Option.getD_none,i_f];refine Pw 0 underlying215 alV b rfl ps[i].s (.bool av) hl λZ b=>?_;have b:OwnS M.A w Z [.map bm (h++[(ps[i].s,.bool av)]),obE b5 o D E,obE b2 ob0 nilS nilS,.mem N]:=b;rw[aA om om,show (i:Int)+1=((i+1:Nat):Int) by omega];refine aD (dY amA szOb om om) |>.mpr ?_;have O:=cellAt (b.hasM 3 rfl) (i+1) g 0 (.int .i64 ps[i+1].k) λ_ _=>rfl;rw[anF] at O;rw[alQ,fR,aJ aU O];simp only[rs];by_cases h0:ps[i+1].k=0
    ·simp only[h0,ne_eq,not_true,alL,i_f];refine fin Z N D E ?_ hle ?_ d
     ·rw[alG (by simp[h0])];exact b
     ·rw[alG (by simp[h0])];exact Q
    ·simp only[h0,ne_eq,apF,alK,i_t];obtain⟨x2,q2,V,b8⟩:=Pj b3 g;have V:OV N.A N.w x2 ps[i+1]:=V;have b9:∀W,Below Z.heap.size Z W->N.has W:=λW l=>Mem.L5 (b.hasM 3 rfl) l;refine quiet ?_;refine q_at _ (λW l=>aW ((b.grow l).agg 1 rfl lF)) ?_;refine oY ?_;rw[aA om om,show (i:Int)+1=((i+1:Nat):Int) by omega];refine q_at _ (λW l=>(b8 W (b9 W l)).1) ?_;refine q_at _ (λW l=>(b8 W (b9 W l)).2) ?_;intro w8 l;have b:=b.grow l;have c8:=Vl.lC ps[i];refine bH b 3 rfl (Qm o ps[i+1] _ _ ps[i].s N w8 om (b.hasM 3 rfl) Q V c hlen) λz N2 w9 F hz b=>?_;obtain⟨zk,zc,h2,rfl,c0⟩:=hz.open;refine bK 1 c0.keys.one c0.kids.one b rfl λc9 b=>?_;refine fin c9 N2 zk zc ?_ (hle.trans F) ?_ d
     ·rw[alH (by simp[h0])];exact b
     ·rw[alH (by simp[h0])];exact hz
  ·have b0:i=ps.length:=om
   simp only[f,alL,i_f];rw[anR om] at G c7;have G:Vl.dict ps=Vl.right o:=G;rw[ob_v b 1 rfl];refine bH b 3 rfl (rH o _ N w6 om (b.hasM 3 rfl) Q) λz N2 Z F hz b=>?_;refine bH b 3 rfl (HJ o _ N2 Z om (b.hasM 3 rfl) hz) ?_;rintro _ N3 w8 c1 ⟨t,rfl,ht⟩ b;obtain⟨tk,tc,h3,rfl,c2⟩:=ht.open;simp only[errV,ex];refine bK 2 c2.keys.one c2.kids.one b rfl λw9 b=>?_;refine fE 2 b rfl (hK _ _ N3 _ 3 b rfl (hle.trans (F.trans c1)) ⟨obV (Vl.right o).1 tk tc,?_,?_⟩)
   ·rw[G];rfl
   ·rw[G];exact ht
end
section
open Go
structure It where
 num:Int
 gen:Int
 obj:Ob
structure Dc where
 items:List It
 trailer:Ob
namespace Dk
def ajN:List UInt8:=[82,111,111,116]
def ajA:List UInt8:=[73,110,102,111]
def idK:List UInt8:=[73,68]
def it0:It:=⟨0,0,Vl.ob0⟩
def numbers (i:It):Bool:=ai (1<=i.num)&&ai (i.num<=8191)&&ai (0<=i.gen)&&ai (i.gen<=65535)
end Dk
end
section
open Eng Go.RowKit Go.ChangeShapes Go.WideShapes
inductive Rws {α:Type} (R:List aq->α->Prop):List aq->List α->Prop
|nil:Rws R [] []
|cons {a rest:List aq} {x:α} {xs:List α}:R a x->Rws R rest xs->Rws R (a++rest) (x::xs)
section
variable {α:Type}{R R':List aq->α->Prop}
theorem Rws.snoc {a:List aq}{x:α}(b:R a x):∀{cs:List aq} {xs:List α},Rws R cs xs->Rws R (cs++a) (xs++[x])
|_,_,.nil=>by
  have:=Rws.cons b (Rws.nil (R:=R));simpa using this
|_,_,.cons h t=>by
  rw[alS,apE];exact .cons h (Rws.snoc b t)
end
section
variable {H:Type}{enc:TypeId×aq->H}{W:ao}{sp:Nat->Bool}{held:Bool}
theorem Kd {E T:TypeId}{n:Nat}{R:List aq->α->Prop}{wt:α->Nat}(F:Tryz.prog.underlying T=ax (.slice E))(G:Tryz.prog.cellsOf E=n)(I:0 < n)
  (p:∀fuel cs x,DataW.trod enc ah W 0 sp held fuel E cs=ax x->∃a,R cs a∧cs.length=n∧wt a<=Rows.uptoBulk x.1)
  {fuel:Nat} {cs:List aq} {x:DataW H×List MemPlace} (h:DataW.trod enc ah W 0 sp held fuel T cs=ax x) :
  ∃(v:aq) (ds:List aq) (xs:List α),cs=[v]∧SlA (InW W) W v n xs.length ds∧Rws R ds xs∧xs.length<=9223372036854775807∧(xs.map wt).sum+1<=Rows.uptoBulk x.1:=by
 rcases DataW.trod_slice F h with ⟨rfl,rfl⟩|⟨a,len,cap,elems,rest,J,rfl,rfl,rfl,_,q,r,f,g,_,_⟩
 ·exact⟨_,[],[],rfl,SlA.nil _ _ _ _,.nil,sm,by simp[Rows.uptoBulk]⟩
 ·rw[G] at g;have step:∀k,k<=len->∃(cs:List aq) (os:List α),os.length=k∧cs.length=k*n∧Rws R cs os∧(∀j u,cs[j]?=ax u->W.cell? (a.add j)=ax u)∧(os.map wt).sum<=Rows.uptoBulkAll ((elems.take k).map (·.1)):=by
   intro k
   induction k with
  |zero=>intro _;exact⟨[],[],rfl,sm,.nil,(λj u c=>by simp at c),by simp[Rows.uptoBulkAll]⟩
  |succ k s=>
    intro L;obtain⟨cs,os,l,d,t,w,C⟩:=s om;have i:k < elems.length:=om
    have m:=g k om;rw[alT i,aqU] at m;obtain⟨D,y,z⟩:=m;obtain⟨o,K,A,hw⟩:=p J D _ z;refine⟨cs++D,os++[o],by simp[l],by rw[alI,d,A,aoA,aqV],Rws.snoc K t,λj u c=>?_,?_⟩
    ·rcases amL j cs.length with e|e
     ·rw[anV e] at c;exact w j u c
     ·rw[aoB e] at c;have B:j - cs.length < n:=by
       have:=(alY.1 c).1;omega
      have:=(World.cells?_some y).2.2 (j - cs.length) B;rw[<-c,<-this,Vv,show k*n+(j - cs.length)=j by omega]
    ·rw[amO i,amW,amW,Ao,asS];simp only[anE,apS,Rows.uptoBulkAll,aqA,List.sum_nil];omega
  obtain⟨cs,os,l,d,t,w,C⟩:=step len (alP _);refine⟨_,cs,os,rfl,?_,t,?_,?_⟩
  ·rw[l];exact SlA.W9 I (by rw[d]) w (λb m=>m) q
  ·rw[l];simp only[maxLen] at r;omega
  ·rw[<-f,anI] at C;simp only[Rows.uptoBulk];omega
end
end
section
open Eng Go.RowKit
def itC (i:It)(vk vc:aq):List Value:=.int .i64 i.num::.int .i64 i.gen::obC i.obj vk vc
def itV (i:It)(vk vc:aq):Value:=.agg (itC i vk vc).toArray
def itE (b:Nat)(i:It)(vk vc:aq):Ent:=.cells b (itC i vk vc) 57
theorem Y3 {p:Ob}{a b:aq}(h:obV o vk vc=obV p a b):vk=a∧vc=b:=by
 have:(obC o vk vc).toArray=(obC p a b).toArray:=by injection h
 have:obC o vk vc=obC p a b:=by simpa using congrArg Array.toList this
 simp only[obC,aqJ,and_true] at this;exact⟨this.2.2.2.2.1,this.2.2.2.2.2⟩
theorem OV.slices (h:OV A w (obV o vk vc) o):∃cs,ObAt A w o vk vc cs:=by
 obtain⟨b,c,cs,e,a⟩:=h.open;obtain⟨rfl,rfl⟩:=Y3 e;exact⟨cs,a⟩
theorem OV.oneK (h:OV A w (obV o vk vc) o):vk.oneCell'=true:=by obtain⟨cs,a⟩:=h.slices;exact a.keys.one
theorem OV.oneC (h:OV A w (obV o vk vc) o):vc.oneCell'=true:=by obtain⟨cs,a⟩:=h.slices;exact a.kids.one
theorem YR (i:It)(b:vk.oneCell'=av)(c:vc.oneCell'=av):∀v∈itC i vk vc,v.oneCell'=true:=by
 intro v a;simp only[itC,alN] at a;rcases a with rfl|rfl|a
 ·rfl
 ·rfl
 ·exact kZ i.obj b c v a
theorem Ro:aggN ah 57=ax 8:=krx
theorem szIt:(Tryz.prog.info? 57).map (·.size)=ax 8:=krx
theorem ahO:fOff ah 57 0=ax 0:=krx
theorem akA:fOff ah 57 1=ax 1:=krx
theorem ahN:fOff ah 57 2=ax 2:=krx
section
variable {w:ao}{PK:PKT}{K:VWP}{S:Nat->Prop}{w0:ao}{L:List Ent}
theorem MW {off:Nat}:DoX ah (mFA 57 (.pointer (ax ⟨b,off,aw⟩)) 0) w PK K=K (.pointer (ax ⟨b,off,aw⟩)) w:=aO ahO
theorem VH {off:Nat}:DoX ah (mFA 57 (.pointer (ax ⟨b,off,aw⟩)) 1) w PK K=K (.pointer (ax ⟨b,off+1,aw⟩)) w:=aO akA
theorem Te {off:Nat}:DoX ah (mFA 57 (.pointer (ax ⟨b,off,aw⟩)) 2) w PK K=K (.pointer (ax ⟨b,off+2,aw⟩)) w:=aO ahN
theorem agV (i:It)(a:vk.oneCell'=av)(c:vc.oneCell'=av)(d:OwnS S w0 w L)(k:∀b w',OwnS S w0 w' (itE b i vk vc::L)->K (.pointer (ax ⟨b,0,aw⟩)) w'):DoX ah (mBox 57 (itV i vk vc)) w PK K:=by
 cases vk<;>first|(cases a;done)|skip
 all_goals cases vc<;>first|(cases c;done)|exact bA (λb=>.pointer (ax ⟨b,0,aw⟩)) (itC i _ _) 57 (λ_=>by kernel_rfl) d k
theorem Zj (a:OwnS S w0 w L)(k:∀b w',OwnS S w0 w' (itE b Dk.it0 nilS nilS::L)->K (.pointer (ax ⟨b,0,aw⟩)) w'):DoX ah (iL 57) w PK K:=
 bA (λb=>.pointer (ax ⟨b,0,aw⟩)) (itC Dk.it0 nilS nilS) 57 (λ_=>by kernel_rfl) a k
theorem Mx (j:Nat){i i':It}{vk' vc':aq}(a:vk'.oneCell'=av)(c:vc'.oneCell'=av)(d:OwnS S w0 w L)(hi:L[j]?=ax (itE b i vk vc))(k:∀w',OwnS S w0 w' (L.set j (itE b i' vk' vc'))->K undef w') :
  DoX ah (aN 57 (.pointer (ax ⟨b,0,aw⟩)) (itV i' vk' vc')) w PK K:=gY j d hi (new:=itC i' vk' vc') szIt (YR i' a c) rfl k
theorem G9 (a:OwnS S w0 w L)(j:Nat){i:It}(hi:L[j]?=ax (itE b i vk vc)):DoX ah (aH 3 (.pointer (ax ⟨b,0,aw⟩))) w PK K=K (.int .i64 i.num) w:=aJ aU (a.cell j hi 0 rfl)
theorem OM (a:OwnS S w0 w L)(j:Nat){i:It}(hi:L[j]?=ax (itE b i vk vc)):DoX ah (aH 3 (.pointer (ax ⟨b,0+1,aw⟩))) w PK K=K (.int .i64 i.gen) w:=aJ aU (a.cell j hi 1 rfl)
theorem it_k (a:OwnS S w0 w L)(j:Nat){i:It}(hi:L[j]?=ax (itE b i vk vc)):DoX ah (aH 3 (.pointer (ax ⟨b,0+2,aw⟩))) w PK K=K (.int .i64 i.obj.k) w:=aJ aU (a.cell j hi 2 rfl)
theorem Pp (a:OwnS S w0 w L)(j:Nat){i:It}(hi:L[j]?=ax (itE b i vk vc)):DoX ah (aH 25 (.pointer (ax ⟨b,0+2,aw⟩))) w PK K=K (obV i.obj vk vc) w:=
 l_at (a.Th j hi (0+2) (obC i.obj vk vc) rfl lF)
theorem aeV:DoX ah (aS 57 #[]) w PK K=K (itV Dk.it0 nilS nilS) w:=aD krx
end
end
section
open Eng
def ED(w)(K:KT):=nz f222 1 [] [] [] (zg [] []) w K
theorem GG:ED w k0->Calls ah 222 #[] w k0:=cw func222
end
end Go.Proofs.YtlipjfcbjemicaaGreatDoor

namespace Go.Proofs.YtlipjfcbjemicaaGreatDoor
variable{A S:Nat->Prop}{K:VWP}{L:List Eng.Ent}{M N:Eng.Mem}{P:Program}{PK PK2:PKT}{T1 U:TypeId}{W w w0:ao}{a way:Int}{args:Array aq}{b cap d f i j m p sz:Nat}{cb:Array Bool}{cs news xs:List aq}{ds:List Deferred}{e:Eng.Ent}{k':IntKind}{key:List UInt8}{o:Ob}{u:FrameMode}{v v2 vc vk vs:aq}{xo yo:Operand}{α:Type}{t0 t1 t2:aq}{k0:Eng.KT}
section
open Eng Go.RowKit
theorem RetM.told {x:aq}(h:RetM ah f args M w (λv _=>v=x)):Ret ah f args w (λv w'=>v=x∧Below w.heap.size w w'):=
 Ret.mono h λv w' ⟨N,g,r⟩=>⟨r,g.below⟩
theorem Gi {x:Option Ob}(h:OV M.A M.w v (x.getD Vl.ob0)):∃vk vc,v=obV (x.getD Vl.ob0) vk vc∧OV M.A M.w (obV (x.getD Vl.ob0) vk vc) (x.getD Vl.ob0):=by
 obtain⟨vk,vc,cs,rfl,a⟩:=h.open;exact⟨vk,vc,rfl,h⟩
end
end Go.Proofs.YtlipjfcbjemicaaGreatDoor

namespace Go.Proofs.YtlipjfcbjemicaaGreatDoor
variable{A S:Nat->Prop}{K:VWP}{L:List Eng.Ent}{M N:Eng.Mem}{P:Program}{PK PK2:PKT}{T1 U:TypeId}{W w w0:ao}{a way:Int}{args:Array aq}{b cap d f i j m p sz:Nat}{cb:Array Bool}{cs news xs:List aq}{ds:List Deferred}{e:Eng.Ent}{k':IntKind}{key:List UInt8}{o:Ob}{u:FrameMode}{v v2 vc vk vs:aq}{xo yo:Operand}{α:Type}{t0 t1 t2:aq}{k0:Eng.KT}
section
open Eng
def sR(t0 t1 w)(K:KT):=nz f353 1 [] [] [] (zg [0,1] [t0,t1]) w K
theorem Ah:sR t0 t1 w k0->Calls ah 353 #[t0,t1] w k0:=cw func353
def yP(t0 w)(K:KT):=nz f362 1 [] [] [] (zg [0] [t0]) w K
theorem BP:yP t0 w k0->Calls ah 362 #[t0] w k0:=cw func362
end
end Go.Proofs.YtlipjfcbjemicaaGreatDoor


namespace Go.Proofs.YtlipjfcbjemicaaGreatDoor
variable{A S:Nat->Prop}{K:VWP}{L:List Eng.Ent}{M N:Eng.Mem}{P:Program}{PK PK2:PKT}{T1 U:TypeId}{W w w0:ao}{a way:Int}{args:Array aq}{b cap d f i j m p sz:Nat}{cb:Array Bool}{cs news xs:List aq}{ds:List Deferred}{e:Eng.Ent}{k':IntKind}{key:List UInt8}{o:Ob}{u:FrameMode}{v v2 vc vk vs:aq}{xo yo:Operand}{α:Type}{t0 t1 t2:aq}{k0:Eng.KT}
section
open Eng Go.RowKit
theorem pf {v:Ob}{k:List UInt8}(h:Vl.get o k=ax v):v.wt<=o.wt:=by
 unfold Vl.get at h;split at h
 ·split at h
  ·rename_i b c
   obtain⟨a,rfl⟩:=alY.1 h;have:=Lz a;omega
  ·cases h
 ·cases h
section
variable {w:ao}{S:Nat->Prop}{w0:ao}{L:List Ent}
end
end
section
open Eng Go.RowKit
def bw:List (List UInt8):=[Dk.idK,Dk.ajA,Dk.ajN]
theorem UI (M:Mem)(w:ao)(d:M.has w):RetM ah 222 #[] M w (λr N=>SlA N.A N.w r 1 3 (bZ bw)):=by
 refine bB d λK e=>GG ?_;unfold ED nz;refine bA (λb=>.slice (ax ⟨b,0,aw⟩) 3 3) (bZ bw) 9 (λ_=>by kernel_rfl) (OwnS.memS d) λb f c=>?_;obtain⟨N,hle,a,c⟩:=OwnS.bJ (L:=[.mem M]) (c.toU 1 3 3 dc om om) 0 rfl;exact e _ _ N _ 0 c rfl hle a
end
end Go.Proofs.YtlipjfcbjemicaaGreatDoor

namespace Go.Proofs.YtlipjfcbjemicaaGreatDoor
variable{A S:Nat->Prop}{K:VWP}{L:List Eng.Ent}{M N:Eng.Mem}{P:Program}{PK PK2:PKT}{T1 U:TypeId}{W w w0:ao}{a way:Int}{args:Array aq}{b cap d f i j m p sz:Nat}{cb:Array Bool}{cs news xs:List aq}{ds:List Deferred}{e:Eng.Ent}{k':IntKind}{key:List UInt8}{o:Ob}{u:FrameMode}{v v2 vc vk vs:aq}{xo yo:Operand}{α:Type}{t0 t1 t2:aq}{k0:Eng.KT}
section
open Eng Go.RowKit
namespace Eng
def Ent.two (e f:Ent):Ent:=⟨λk=>e.blk k∨f.blk k,λw=>e.is w∧f.is w∧∀k,e.blk k->¬f.blk k,
 λh k=>⟨e.keep h.1 λb a=>k b (.inl a),f.keep h.2.1 λb a=>k b (.inr a),h.2.2⟩,λh k c=>c.elim (e.lt h.1 k) (f.lt h.2.1 k)⟩
section
variable {S:Nat->Prop}{w w0:ao}{L:List Ent}
theorem OwnS.split {f:Ent}(c:OwnS S w0 w (.two e f::L)):OwnS S w0 w (e::f::L):=by
 obtain⟨⟨he,h,i⟩,d⟩:=c.all (.two e f) sm;obtain⟨g,a2⟩:=aoG.1 c.apart;refine⟨c.grew,λx a=>?_,aoG.2 ⟨λx a k b=>?_,aoG.2 ⟨λx a k b=>g x a k (.inr b),a2⟩⟩⟩
 ·rcases alN.1 a with rfl|a
  ·exact⟨he,λk b=>d k (.inl b)⟩
  rcases alN.1 a with rfl|a
  ·exact⟨h,λk b=>d k (.inr b)⟩
  ·exact c.all x (amG _ a)
 ·rcases alN.1 a with rfl|a
  ·exact i k b
  ·exact g x a k (.inl b)
end
end Eng
section
variable {P:Program}{S:ao->Prop}{K:aq->Prop}
theorem jI {m:Sem Next}(v:aq)(h:∀w,S w->m.run P w=.ok (.value v) w)(k:K v):HDo P S m K:=⟨v,h,k⟩
theorem aR {m:Sem Next}(v:aq)(h:∀w,m.run P w=.ok (.value v) w)(k:K v):HDo P S m K:=⟨v,λw _=>h w,k⟩
end
section
variable {w:ao}{PK:PKT}{K:VWP}{S:Nat->Prop}{w0:ao}{L:List Ent}
theorem oD {T:TypeId}(h:w.heap[b]?=ax (.cells cs.toArray T (0,0)))(a:0 < sz)(d:cs.length=sz):Sl w (.slice (ax ⟨b,0,aw⟩) 1 1) sz 1 cs:=
 ⟨om,ax ⟨b,0,aw⟩,1,rfl,λh=>(by cases h),λp hp=>by cases hp;exact⟨λ_=>rfl,λj u c=>by rw[alU];exact aI (T:=T) h c⟩⟩
end
theorem I4 (x:Int)(w:ao):Ret ah 362 #[.int .i64 x] w (λv w'=>v=.bool au∧w=w'):=by
 refine aZ λK a=>BP ?_;unfold yP nz;rw[VP];exact a _ _ ⟨sm,rfl⟩
end
end Go.Proofs.YtlipjfcbjemicaaGreatDoor




namespace Go.Proofs.YtlipjfcbjemicaaGreatDoor
variable{A S:Nat->Prop}{K:VWP}{L:List Eng.Ent}{M N:Eng.Mem}{P:Program}{PK PK2:PKT}{T1 U:TypeId}{W w w0:ao}{a way:Int}{args:Array aq}{b cap d f i j m p sz:Nat}{cb:Array Bool}{cs news xs:List aq}{ds:List Deferred}{e:Eng.Ent}{k':IntKind}{key:List UInt8}{o:Ob}{u:FrameMode}{v v2 vc vk vs:aq}{xo yo:Operand}{α:Type}{t0 t1 t2:aq}{k0:Eng.KT}
section
open Go
structure Lx where
 off:Int
 sty:List UInt8
 pre:List UInt8
 first:Int
 deriving DecidableEq
namespace Lb
end Lb
end
end Go.Proofs.YtlipjfcbjemicaaGreatDoor


























namespace Go.Proofs.YtlipjfcbjemicaaGreatDoor
variable{A S:Nat->Prop}{K:VWP}{L:List Eng.Ent}{M N:Eng.Mem}{P:Program}{PK PK2:PKT}{T1 U:TypeId}{W w w0:ao}{a way:Int}{args:Array aq}{b cap d f i j m p sz:Nat}{cb:Array Bool}{cs news xs:List aq}{ds:List Deferred}{e:Eng.Ent}{k':IntKind}{key:List UInt8}{o:Ob}{u:FrameMode}{v v2 vc vk vs:aq}{xo yo:Operand}{α:Type}{t0 t1 t2:aq}{k0:Eng.KT}
section
open Go
namespace Vl
theorem yQ (key:List UInt8):∀(b:List (List UInt8)) (cs:List Ob),key ∉ (eM key b cs).1
|[],_=>by simp[eM]
|_::_,[]=>by simp[eM]
|a::b,c::cs=>by
  rw[eM];split
  ·exact yQ key b cs
  ·rename_i h
   simp only[alN,not_or];exact⟨λe=>h e.symm,yQ key b cs⟩
theorem DK (key:List UInt8):∀(b:List (List UInt8)) (cs:List Ob),(eM key b cs).1.length=(eM key b cs).2.length
|[],_=>by simp[eM]
|_::_,[]=>by simp[eM]
|a::b,c::cs=>by
  rw[eM];split
  ·exact DK key b cs
  ·simp[DK key b cs]
theorem zX (key:List UInt8):∀(b:List (List UInt8)) (cs:List Ob),(eM key b cs).1.Sublist b
|[],_=>by simp[eM]
|_::_,[]=>by simp[eM]
|a::b,c::cs=>by
  rw[eM];split
  ·exact (zX key b cs).trans (List.sublist_cons_self _ _)
  ·exact (zX key b cs).cons_cons _
theorem zW (key:List UInt8):∀(b:List (List UInt8)) (cs:List Ob),(eM key b cs).2.Sublist cs
|[],_=>by simp[eM]
|_::_,[]=>by simp[eM]
|a::b,c::cs=>by
  rw[eM];split
  ·exact (zW key b cs).trans (List.sublist_cons_self _ _)
  ·exact (zW key b cs).cons_cons _
theorem Nl (o:Ob)(key:List UInt8):get (aQ o key) key=none:=by
 unfold get;split
 ·rw[alG];rw[atS];exact yQ key o.keys o.kids
 ·rfl
theorem LH {l:List (List UInt8)}:key ∉ l.take (place l key):=by
 intro h;obtain⟨m,hm,he⟩:=aoX h;rw[alR] at hm;have a:m < place l key:=om
 have:=PR a;rw[arI] at he;rw[he,tP] at this;cases this
theorem Na {v:Ob}(a:keyed o=av)(c:o.keys.length=o.kids.length):get (put o key v) key=ax v:=by
 have hp:=zK o.keys key;unfold get;rw[show keyed (put o key v)=keyed o from rfl,a,alH rfl];have e:(put o key v).keys=o.keys.take (place o.keys key)++key::o.keys.drop (place o.keys key+if hit o.keys key then 1 else 0):=rfl;have b:(put o key v).kids=o.kids.take (place o.keys key)++v::o.kids.drop (place o.keys key+if hit o.keys key then 1 else 0):=rfl;have hi:(put o key v).keys.idxOf key=place o.keys key:=by
  rw[e];refine YG (by simp;omega) ?_ ?_
  ·rw[anM (by rw[alR];omega)];exact LH
  ·rw[atW (by rw[alR];omega)];simp[alR,amQ hp]
 rw[hi,alH (by rw[e];simp;omega),b,aoB (by rw[alR];omega),alR];have:place o.keys key - min (place o.keys key) o.kids.length=0:=om
 rw[this];rfl
theorem Jd {d:Nat}:∀{os:List Ob},rK d os=0↔∀o∈os,check d o=0
|[]=>by simp[rK]
|o::os=>by
  rw[rK];split
  ·rename_i h
   constructor
   ·intro e;exact absurd e h
   ·intro e;exact absurd (e o amV) h
  ·rename_i h
   have h:=aoP.1 h;rw[Jd];simp[h]
theorem Xh (l:List (List UInt8))(h:i < l.length):l.getD i []=l[i]:=by rw[alO,alT h];rfl
theorem nP :rising o=av↔o.keys.length=o.kids.length∧Rise o.keys∧(∀k∈o.keys,name k=av∧(o.k=9->k≠lenK))∧∀c∈o.kids,c.k≠0:=by
 unfold rising;simp only[amB,amU,aoF,anJ];constructor
 ·rintro⟨q,h⟩;have f:∀i (hi:i < o.keys.length),name o.keys[i]=av∧(i=0∨less (o.keys.getD (i - 1) []) o.keys[i]=av)∧(o.k=9->o.keys[i]≠lenK)∧(o.kids[i]'(om)).k≠0:=by
   intro i hi;have:=h i hi;unfold GC at this;rw[Xh _ hi,alO (l:=o.kids),alT (by omega:i < o.kids.length)] at this;simp only[amB,apC,amU,apA,aqQ,atT,apG] at this;obtain⟨⟨⟨a,b⟩,c⟩,e⟩:=this;exact⟨a,b,λp g=>c.elim (λx=>x p) (λx=>x g),e⟩
  refine⟨q,?_,?_,?_⟩
  ·refine apZ.2 λi j hi m s=>?_;have step:∀i (hi:i+1 < o.keys.length),less o.keys[i] o.keys[i+1]=true:=by
    intro i hi;have:=(f (i+1) hi).2.1;rcases this with n|n
    ·omega
    ·rwa [apV,Xh _ (by omega:i < o.keys.length)] at n
   have:∀d,∀j (m:j < o.keys.length),j=i+1+d->less o.keys[i] o.keys[j]=true:=by
    intro d
    induction d with
   |zero=>intro j m he;subst he;exact step i m
   |succ d t=>
     intro j m he;subst he;exact nQ (t (i+1+d) om rfl) (step (i+1+d) m)
   exact this (j - (i+1)) j m om
  ·intro k g;obtain⟨i,hi,rfl⟩:=aoX g;exact⟨(f i hi).1,(f i hi).2.2.1⟩
  ·intro c r;obtain⟨i,hi,rfl⟩:=aoX r;exact (f i om).2.2.2
 ·rintro⟨q,u,g,r⟩;refine⟨q,λi hi=>?_⟩;unfold GC;rw[Xh _ hi,alO (l:=o.kids),alT (by omega:i < o.kids.length)];simp only[amB,apC,amU,apA,aqQ,atT,apG];refine⟨⟨⟨(g _ (alX hi)).1,?_⟩,?_⟩,r _ (alX _)⟩
  ·rcases anU i with n|n
   ·exact .inl n
   ·refine .inr ?_;rw[Xh _ (by omega:i - 1 < o.keys.length)];exact pS u om hi
  ·by_cases p:o.k=9
   ·exact .inr ((g _ (alX hi)).2 p)
   ·exact .inl p
theorem jW :check d o=0↔(d<=24∧pN o=av∧(o.k=9->d<=1)∧fits o=av∧o.s.length<=long o.k∧o.kids.length<=8191∧form o=av)∧∀c∈o.kids,check (d+1) c=0:=by
 rw[F3];have hw:why d o=0↔(d<=24∧pN o=av∧(o.k=9->d<=1)∧fits o=av∧o.s.length<=long o.k∧o.kids.length<=8191∧form o=av):=by
  unfold why;split
  ·simp;omega
  rename_i m
  split
  ·rename_i f
   simp only[show (10:Int)≠0 by decide,false_iff,not_and];rintro - a b;rcases f with f|f
   ·rw[f] at a;cases a
   ·have:=b f.1;omega
  rename_i f
  simp only[not_or,Bool.not_eq_false,not_and,Nat.not_lt] at f;split
  ·rename_i g;simp[g]
  rename_i g
  split
  ·rename_i j;simp;intros;omega
  rename_i j
  split
  ·rename_i l;simp;intros;omega
  rename_i l
  split
  ·rename_i i;simp[i]
  rename_i i
  simp only[Bool.not_eq_false] at g i;exact⟨λ_=>⟨om,f.1,f.2,g,om,om,i⟩,λ_=>rfl⟩
 split
 ·rename_i h
  constructor
  ·intro e;exact absurd e h
  ·intro e;exact absurd (hw.2 e.1) h
 ·rename_i h
  have h:=aoP.1 h;rw[Jd];exact⟨λe=>⟨hw.1 h,e⟩,λe=>e.2⟩
theorem gM (h:check d o=0)(i:keyed o=av):check d (aQ o key)=0:=by
 obtain⟨⟨p,a2,a3,a4,a5,q,e⟩,j⟩:=jW.1 h;have s1:=zX key o.keys o.kids;have s2:=zW key o.keys o.kids;have f:o.k=7∨o.k=9:=by simpa[keyed] using i
 have m:(aQ o key).k=o.k:=rfl;have a:(aQ o key).keys=(eM key o.keys o.kids).1:=rfl;have b:(aQ o key).kids=(eM key o.keys o.kids).2:=rfl;refine jW.2 ⟨⟨p,?_,a3,a4,a5,?_,?_⟩,λc l=>j c (s2.subset l)⟩
 ·unfold pN at a2 ⊢;rw[m];rcases f with r|t
  ·rw[r] at a2 ⊢;simpa[used,show (aQ o key).n=o.n from rfl,show (aQ o key).g=o.g from rfl,show (aQ o key).s=o.s from rfl] using a2
  ·rw[t] at a2 ⊢;simpa[used,show (aQ o key).n=o.n from rfl,show (aQ o key).g=o.g from rfl,show (aQ o key).s=o.s from rfl] using a2
 ·rw[b];exact aoM s2.length_le q
 ·unfold form at e ⊢;rw[m];simp only[amB] at e ⊢;refine⟨e.1,?_⟩;rw[alM f] at e ⊢;have u:rising o=true:=by simpa using e.2
  obtain⟨y,v,w,x⟩:=nP.1 u;have:rising (aQ o key)=true:=by
   refine nP.2 ⟨?_,?_,?_,?_⟩
   ·rw[a,b];exact DK key _ _
   ·rw[a];exact List.Pairwise.sublist s1 v
   ·rw[a];exactλk i=>w k (s1.subset i)
   ·rw[b];exactλc j=>x c (s2.subset j)
  simp[this]
end Vl
namespace Dk
end Dk
end
section
open Go
namespace Ps
open Lx (next Tok Qf)
open Wr (num parts TK Uq)
def At (s:List UInt8)(a:Int)(p:List UInt8)(b:Int):Prop:=∃(x:Tok) (a':Int),Qf p x∧next s a=({ x with a:=a',t:=b },0)
def Toks (s:List UInt8):Int->List (List UInt8)->Int->Prop
|a,[],b=>a=b
|a,p::ps,b=>∃c,At s a p c∧Toks s c ps b
end Ps
end
end Go.Proofs.YtlipjfcbjemicaaGreatDoor


namespace Go.Proofs.YtlipjfcbjemicaaGreatDoor
variable{A S:Nat->Prop}{K:VWP}{L:List Eng.Ent}{M N:Eng.Mem}{P:Program}{PK PK2:PKT}{T1 U:TypeId}{W w w0:ao}{a way:Int}{args:Array aq}{b cap d f i j m p sz:Nat}{cb:Array Bool}{cs news xs:List aq}{ds:List Deferred}{e:Eng.Ent}{k':IntKind}{key:List UInt8}{o:Ob}{u:FrameMode}{v v2 vc vk vs:aq}{xo yo:Operand}{α:Type}{t0 t1 t2:aq}{k0:Eng.KT}
section
open Go
namespace Ps
open Lx (next Tok)
theorem Z9 {v:Ob}:(∀k∈(Vl.put o key v).keys,k=key∨k∈o.keys)∧(∀c∈(Vl.put o key v).kids,c=v∨c∈o.kids)∧(Vl.put o key v).kids.length<=o.kids.length+1:=by
 unfold Vl.put;simp only[Ob.keys,Ob.kids];refine⟨λk a=>?_,λc b=>?_,?_⟩
 ·rcases amK.1 a with h|h
  ·exact .inr (anT h)
  ·rcases alN.1 h with h|h
   ·exact .inl h
   ·exact .inr (apI h)
 ·rcases amK.1 b with h|h
  ·exact .inr (anT h)
  ·rcases alN.1 h with h|h
   ·exact .inl h
   ·exact .inr (apI h)
 ·simp only[alI,alR,amC,alW];split<;>omega
end Ps
end
end Go.Proofs.YtlipjfcbjemicaaGreatDoor













namespace Go.Proofs.YtlipjfcbjemicaaGreatDoor
variable{A S:Nat->Prop}{K:VWP}{L:List Eng.Ent}{M N:Eng.Mem}{P:Program}{PK PK2:PKT}{T1 U:TypeId}{W w w0:ao}{a way:Int}{args:Array aq}{b cap d f i j m p sz:Nat}{cb:Array Bool}{cs news xs:List aq}{ds:List Deferred}{e:Eng.Ent}{k':IntKind}{key:List UInt8}{o:Ob}{u:FrameMode}{v v2 vc vk vs:aq}{xo yo:Operand}{α:Type}{t0 t1 t2:aq}{k0:Eng.KT}
section
open Go
structure Slt where
 num:Int
 kind:Int
 a:Int
 b:Int
 deriving DecidableEq
structure Sec where
 at_:Int
 aG:List Slt
 trailer:Ob
 prev:Int
 hybrid:Int
 own:Int
namespace Tl
open Lx (next Tok)
def sec0:Sec:=⟨0,[],Vl.ob0,0,0,0⟩
def okS (x:Slt):Int:=
 if x.num < 0∨8191 < x.num then 2 else if x.kind < 0∨2 < x.kind then 10
 else if x.kind=2 then (if x.a < 1∨8191 < x.a∨x.b < 0∨8191 < x.b then 2 else 0) else if x.a < 0∨2147483647 < x.a∨x.b < 0∨65535 < x.b then 2 else 0
def yR:Option Int->List Slt->Int
|_,[]=>0
|last,x::l=>if okS x≠0 then okS x else if last.any (λn=>ai (x.num=n)) then 9 else if last.any (λn=>ai (x.num < n)) then 1 else yR (ax x.num) l
def check (l:List Slt):Int:=yR aw l
end Tl
end
section
open Eng
def Eu(t0 w)(K:KT):=nz f167 1 [] [] [] (zg [0] [t0]) w K
theorem Gd:Eu t0 w k0->Calls ah 167 #[t0] w k0:=cw func167
def zJ(t0 t5 t6 t7 w)(N1:JT)(K:KT):=nz f101 21 [N1] [nh 5 [7]] [(10,14),(12,14)] (zg [0,5,6,7] [t0,t5,t6,t7]) w K
def CZ(t0 w)(K:KT):=nz f101 1 [] [(5,[7],λs v j w f=>zJ (s 0) (s 5) (s 6) (vg v 0) w (f 0) K)] [] (zg [0] [t0]) w K
theorem Fv:CZ t0 w k0->Calls ah 101 #[t0] w k0:=cz [] [(2,[7])] func101
def AV(t3 t8 w)(N1:JT)(K:KT):=nz f169 491 [N1] [nh 7 [3,8]] [] (zg [3,8] [t3,t8]) w K
def AR(t0 t3 t6 t7 t8 w)(N1:JT)(K:KT):=nz f169 43 [N1] [nh 7 [3,8],(16,[3],λs v j w f=>AV (vg v 0) (s 8) w (f 0) K)] [(5,25),(6,10)] (zg [0,3,6,7,8] [t0,t3,t6,t7,t8]) w K
def Ek(t0 w)(K:KT):=nz f169 1 [] [(7,[3,8],λs v j w f=>AR (s 0) (vg v 0) (s 6) (s 7) (vg v 1) w (f 0) K)] [] (zg [0] [t0]) w K
theorem Hq:Ek t0 w k0->Calls ah 169 #[t0] w k0:=cz [(8,[3])] [(3,[3,8])] func169
end
section
open Eng Go.RowKit
namespace Eng
section
variable {S:Nat->Prop}{P:Program}{w w0:ao}{L:List Ent}{PK:PKT}{K:VWP}
end
end Eng
def slC (x:Slt):List Value:=[.int .i64 x.num,.int .i64 x.kind,.int .i64 x.a,.int .i64 x.b]
def slV (x:Slt):Value:=.agg (slC x).toArray
abbrev slE (b:Nat)(x:Slt):Ent:=.cells b (slC x) 83
def sl0:Slt:=⟨0,0,0,0⟩
theorem afA:aggN ah 83=ax 4:=krx
theorem szSl:(Tryz.prog.info? 83).map (·.size)=ax 4:=krx
theorem Vr (x:Slt):∀v∈slC x,v.oneCell'=true:=by
 intro v a;simp only[slC,alN,anA,or_false] at a;rcases a with rfl|rfl|rfl|rfl<;>rfl
theorem fs0:fOff ah 83 0=ax 0:=krx
theorem fs1:fOff ah 83 1=ax 1:=krx
theorem fs2:fOff ah 83 2=ax 2:=krx
theorem fs3:fOff ah 83 3=ax 3:=krx
section
variable {w:ao}{PK:PKT}{K:VWP}{S:Nat->Prop}{w0:ao}{L:List Ent}
theorem X2 {off:Nat}:DoX ah (mFA 83 (.pointer (ax ⟨b,off,aw⟩)) 0) w PK K=K (.pointer (ax ⟨b,off,aw⟩)) w:=aO fs0
theorem MF {off:Nat}:DoX ah (mFA 83 (.pointer (ax ⟨b,off,aw⟩)) 1) w PK K=K (.pointer (ax ⟨b,off+1,aw⟩)) w:=aO fs1
theorem Ql {off:Nat}:DoX ah (mFA 83 (.pointer (ax ⟨b,off,aw⟩)) 2) w PK K=K (.pointer (ax ⟨b,off+2,aw⟩)) w:=aO fs2
theorem O2 {off:Nat}:DoX ah (mFA 83 (.pointer (ax ⟨b,off,aw⟩)) 3) w PK K=K (.pointer (ax ⟨b,off+3,aw⟩)) w:=aO fs3
theorem ajY (x:Slt)(a:OwnS S w0 w L)(k:∀b w',OwnS S w0 w' (slE b x::L)->K (.pointer (ax ⟨b,0,aw⟩)) w'):DoX ah (mBox 83 (slV x)) w PK K:=
 bA (λb=>.pointer (ax ⟨b,0,aw⟩)) (slC x) 83 (λ_=>by kernel_rfl) a k
theorem KD (a:OwnS S w0 w L)(k:∀b w',OwnS S w0 w' (slE b sl0::L)->K (.pointer (ax ⟨b,0,aw⟩)) w'):DoX ah (iL 83) w PK K:=
 bA (λb=>.pointer (ax ⟨b,0,aw⟩)) (slC sl0) 83 (λ_=>by kernel_rfl) a k
theorem HQ (i:Nat){x y:Slt}(a:OwnS S w0 w L)(hi:L[i]?=ax (slE b x))(k:∀w',OwnS S w0 w' (L.set i (slE b y))->K undef w') :
  DoX ah (aN 83 (.pointer (ax ⟨b,0,aw⟩)) (slV y)) w PK K:=gY i a hi (new:=slC y) szSl (Vr y) rfl k
theorem sl_v (a:OwnS S w0 w L)(i:Nat){x:Slt}(hi:L[i]?=ax (slE b x)):DoX ah (aH 83 (.pointer (ax ⟨b,0,aw⟩))) w PK K=K (slV x) w:=l_at (a.agg i hi afA)
end
section
variable {w:ao}{PK:PKT}{K:VWP}{S:Nat->Prop}{w0:ao}{L:List Ent}
end
section
variable {w:ao}{PK:PKT}{K:VWP}{S:Nat->Prop}{w0:ao}{L:List Ent}
end
end
section
open Eng Go.RowKit
theorem eqSl:eqT ah 83 [(0,au),(1,au),(2,au),(3,au)]:=⟨krx,krx,krx,krx⟩
theorem abO (x y:Slt):([(0,au),(1,au),(2,au),(3,au)]:List (Nat×Bool)).all (λp=>BR (slC x).toArray[p.1]? (slC y).toArray[p.1]?)=ai (x=y):=by
 have e:([(0,au),(1,au),(2,au),(3,au)]:List (Nat×Bool)).all (λp=>BR (slC x).toArray[p.1]? (slC y).toArray[p.1]?)=((x.num==y.num)&&((x.kind==y.kind)&&((x.a==y.a)&&((x.b==y.b)&&av)))):=rfl;rw[e,Bool.eq_iff_iff];obtain⟨a,b,c,d⟩:=x;obtain⟨a',f,g,d'⟩:=y;simp
theorem aeD {x y:Slt}:(mEq .neq 83 xo yo (slV x) (slV y)).run ah w=.ok (.value (.bool (!ai (x=y)))) w:=by
 rw[<-abO];exact Ov eqSl rfl
end
end Go.Proofs.YtlipjfcbjemicaaGreatDoor


namespace Go.Proofs.YtlipjfcbjemicaaGreatDoor
variable{A S:Nat->Prop}{K:VWP}{L:List Eng.Ent}{M N:Eng.Mem}{P:Program}{PK PK2:PKT}{T1 U:TypeId}{W w w0:ao}{a way:Int}{args:Array aq}{b cap d f i j m p sz:Nat}{cb:Array Bool}{cs news xs:List aq}{ds:List Deferred}{e:Eng.Ent}{k':IntKind}{key:List UInt8}{o:Ob}{u:FrameMode}{v v2 vc vk vs:aq}{xo yo:Operand}{α:Type}{t0 t1 t2:aq}{k0:Eng.KT}
section
namespace Eng
open Go.RowKit
section
variable {α:Type}{enc:α->List aq}{k:Nat}
theorem tR (a:∀x,(enc x).length=k):∀l:List α,(l.flatMap enc).length=l.length*k
|[]=>by simp
|x::l=>by rw[anW,alI,a,tR a l,amC,anS];omega
theorem Me (a:∀x,(enc x).length=k):∀(l:List α) (j:Nat),(l.flatMap enc).drop (j*k)=(l.drop j).flatMap enc
|[],j=>by simp
|x::l,0=>by simp
|x::l,j+1=>by
  rw[anW,asR,anS,arC,apO,a,anR (by rw[a];omega),aqW,Me a l j,amZ]
theorem pI (a:∀x,(enc x).length=k){l:List α}(b:j < l.length)(h:(enc l[j])[i]?=ax v):(l.flatMap enc)[j*k+i]?=ax v:=by
 have c:((l.flatMap enc).drop (j*k))[i]?=ax v:=by
  rw[Me a,anB b,anW,anV (alY.1 h).1];exact h
 rwa [aoY] at c
theorem Vy (a:∀x,∀v∈enc x,v.oneCell'=av){l:List α}:∀v∈l.flatMap enc,v.oneCell'=true:=by
 intro v b;obtain⟨x,_,c⟩:=aqX.1 b;exact a x v c
abbrev Ent.recs (T:TypeId)(enc:α->List aq)(k:Nat)(v:aq)(l:List α):Ent:=.urow T k v l.length (l.flatMap enc)
variable {S:Nat->Prop}{P:Program}{w w0:ao}{L:List Ent}{PK PK2:PKT}{K:VWP}
theorem rec_row (c:∀x,(enc x).length=k){T E:TypeId}(f:P.underlying T=ax (.slice E))(n:(P.info? E).map (·.size)=ax k)(o:aggN P E=ax k)(i:Nat){l:List α}(p:OwnS S w0 w L)(hi:L[i]?=ax (.recs E enc k v l))(q:j < l.length) :
  ∃g cap,v=.slice (ax ⟨g,0,aw⟩) l.length cap∧(∀w,(mIA T v (.int .i64 (j:Int))).run P w=.ok (.value (.pointer (ax ⟨g,j*k,aw⟩))) w) ∧
   (∀w',(Ent.recs E enc k v l).is w'->(aH E (.pointer (ax ⟨g,j*k,aw⟩))).run P w'=.ok (.value (.agg (enc l[j]).toArray)) w') ∧
   ∀w',(Ent.recs E enc k v l).is w'->∀m u,(enc l[j])[m]?=ax u->w'.cell? ⟨g,j*k+m,aw⟩=ax u:=by
 obtain⟨g,cap,rfl⟩:=mO (p.at_ i hi) om;have a:∀w',(Ent.recs E enc k (.slice (ax ⟨g,0,aw⟩) l.length cap) l).is w'->∀m u,(enc l[j])[m]?=ax u->w'.cell? ⟨g,j*k+m,aw⟩=ax u:=by
  intro w' h m u hm;obtain⟨b,off,d,e,r⟩:=bX (Sl.urow h) om;cases e;have:=r _ _ (pI c q hm)
  rwa [alU] at this
 refine⟨g,cap,rfl,λw=>?_,λw' h=>?_,a⟩
 ·refine (dY f n om om).trans ?_;rw[alQ,alU]
 ·exact aW (AtV.agg o (c _) λm u hm=>a w' h m u hm)
end
end Eng
end
section
open Go
namespace Lx
open Oc
end Lx
namespace Tl
open Lx (Tok Qf skip)
open Ps (At Toks)
def eX:List Slt->List Slt->List (List Slt)
|cur,[]=>if cur=[] then [] else [cur]
|cur,x::l=>match cur.getLast? with
 |none=>eX [x] l
 |some y=>if y.num < x.num∧x.num - 1=y.num then eX (cur++[x]) l else cur::eX [x] l
def CX (l:List Slt):List (List Slt):=eX [] l
def first (g:List Slt):Int:=(g.head?.map (·.num)).getD 0
def run (g:List Slt):Int×Int:=(first g,(g.length:Int))
def runs (l:List Slt):List (Int×Int):=(CX l).map run
end Tl
end
section
open Go
namespace Tl
open Lx (Tok Qf skip next)
open Ps (At Toks)
def aeJ (l:List Slt):Prop:=l.Pairwise λa b=>a.num < b.num
theorem Mv:∀{l:List Slt} {last:Option Int},yR last l=0->(∀x∈l,okS x=0)∧aeJ l∧∀n,last=ax n->∀x∈l,n < x.num
|[],_,_=>⟨sm,List.Pairwise.nil,sm⟩
|x::l,last,h=>by
  rw[yR] at h;split at h
  ·rename_i c;exact absurd h c
  rename_i c
  split at h
  ·omega
  rename_i e
  split at h
  ·omega
  rename_i f
  obtain⟨i1,i2,i3⟩:=Mv h;have i3:=i3 x.num rfl;have a:∀n,last=ax n->n < x.num:=by
   intro n d;subst d;simp at e f;omega
  refine⟨λy b=>?_,aoG.2 ⟨i3,i2⟩,λn d y b=>?_⟩
  ·rcases alN.1 b with rfl|b
   ·exact aoP.1 c
   ·exact i1 y b
  ·have g:=a n d;rcases alN.1 b with rfl|b
   ·exact g
   ·have:=i3 y b;omega
def H9:Int->List Slt->Prop
|_,[]=>True
|n,x::l=>x.num=n∧H9 (n+1) l
theorem DO:∀{l:List Slt} {n:Int} {x:Slt},H9 n (l++[x])↔H9 n l∧x.num=n+l.length
|[],n,x=>by simp[H9]
|y::l,n,x=>by
  rw[apE,H9,DO,H9,amC];constructor
  ·rintro⟨a,b,c⟩;exact⟨⟨a,b⟩,om⟩
  ·rintro⟨⟨a,b⟩,c⟩;exact⟨a,b,om⟩
theorem IU {l:List Slt}{n:Int}{y:Slt}(h:H9 n l)(a:l.getLast?=ax y):y.num=n+l.length - 1:=by
 obtain⟨m,rfl⟩:∃m,l=m++[y]:=by
  have:=List.getLast?_eq_some_iff.1 a;exact this
 have:=(DO.1 h).2;simp;omega
def Grp (g:List Slt):Prop:=g≠[]∧H9 (first g) g
theorem zL:∀(l cur:List Slt),(cur=[]∨Grp cur)->(eX cur l).flatten=cur++l∧∀g∈eX cur l,Grp g
|[],cur,h=>by
  rw[eX];split
  ·rename_i c;subst c;simp
  ·rename_i c
   rcases h with h|h
   ·exact absurd h c
   ·simp[h]
|x::l,cur,h=>by
  rw[eX];have j:Grp [x]:=⟨sm,by simp[H9,first]⟩;cases i:cur.getLast? with
 |none=>
   have c:cur=[]:=arN.1 i;subst c;obtain⟨a,b⟩:=zL l [x] (.inr j);simp only;exact⟨by rw[a];rfl,b⟩
 |some y=>
   have c:cur≠[]:=λe=>by rw[e] at i;cases i
   have d:Grp cur:=h.resolve_left c;simp only;split
   ·rename_i m
    have k:Grp (cur++[x]):=by
     refine⟨sm,?_⟩;have e:first (cur++[x])=first cur:=by
      cases cur with
     |nil=>exact absurd rfl c
     |cons _ _=>rfl
     rw[e];have:=IU d.2 i;exact DO.2 ⟨d.2,om⟩
    obtain⟨a,b⟩:=zL l (cur++[x]) (.inr k);exact⟨by rw[a];simp,b⟩
   ·obtain⟨a,b⟩:=zL l [x] (.inr j);refine⟨by rw[asF,a];simp,λg f=>?_⟩;rcases alN.1 f with rfl|f
    ·exact d
    ·exact b g f
theorem wF (l:List Slt):(CX l).flatten=l∧∀g∈CX l,Grp g:=by
 have:=zL l [] (.inl rfl);simpa[CX] using this
theorem VU {g:List Slt}(h:Grp g):∃x∈g,x.num=first g+g.length - 1:=by
 obtain⟨b,c⟩:=h;cases a:g.getLast? with
|none=>exact absurd (arN.1 a) b
|some y=>exact⟨y,List.mem_of_getLast? a,IU c a⟩
end Tl
end
section
open Eng Go.RowKit
theorem YS (x:Slt):(slC x).length=4:=rfl
abbrev slsE (v:aq)(l:List Slt):Ent:=.recs 83 slC 4 v l
theorem elSl:elB ah 83 4 32=true:=krx
section
variable {w:ao}{PK:PKT}{K:VWP}{S:Nat->Prop}{w0:ao}{L:List Ent}
theorem acU (x:Slt)(a:OwnS S w0 w L)(k:∀b w',OwnS S w0 w' (slE b x::L)->K (.slice (ax ⟨b,0,aw⟩) 1 1) w'):DoX ah (bN 61 1 #[(0,slV x)]) w PK K:=
 bA (λb=>.slice (ax ⟨b,0,aw⟩) 1 1) (slC x) 83 (λ_=>by kernel_rfl) a k
theorem acS (i:Nat){l:List Slt}{x:Slt}(a:OwnS S w0 w L)(hi:L[i]?=ax (slsE v l))(b:l.length<=1000000000)
  (k:∀v' w',OwnS S w0 w' (L.set i (slsE v' (l++[x])))->K v' w') :
  DoX ah (bN 61 1 #[(0,slV x)]) w PK λt w=>DoX ah (mB .append #[61,61] 61 cb #[v,t]) w PK2 K:=by
 refine acU x a λnb c a=>?_;refine bR (i+1) aoU elSl dc a (by rw[amS];exact hi) (a.sl 0 rfl 4 1 1 rfl) (Vr x) om om λv' w2 a=>k v' w2 ?_;have e:slsE v' (l++[x])=.urow 83 4 v' (l.length+1) (l.flatMap slC++slC x):=by
  rw[slsE,Ent.recs,alI,aoQ];simp
 rw[e];exact a.tail
end
end
end Go.Proofs.YtlipjfcbjemicaaGreatDoor

namespace Go.Proofs.YtlipjfcbjemicaaGreatDoor
variable{A S:Nat->Prop}{K:VWP}{L:List Eng.Ent}{M N:Eng.Mem}{P:Program}{PK PK2:PKT}{T1 U:TypeId}{W w w0:ao}{a way:Int}{args:Array aq}{b cap d f i j m p sz:Nat}{cb:Array Bool}{cs news xs:List aq}{ds:List Deferred}{e:Eng.Ent}{k':IntKind}{key:List UInt8}{o:Ob}{u:FrameMode}{v v2 vc vk vs:aq}{xo yo:Operand}{α:Type}{t0 t1 t2:aq}{k0:Eng.KT}
section
open Eng Go.RowKit
def NA (x:Slt):Bool:=if x.kind=2 then ai (1<=x.a)&&ai (x.a<=8191)&&ai (0<=x.b)&&ai (x.b<=8191) else ai (0<=x.a)&&ai (x.a<=2147483647)&&ai (0<=x.b)&&ai (x.b<=65535)
theorem To (x:Slt)(w:ao):Ret ah 167 #[slV x] w (λv w'=>v=.bool (NA x)∧Below w.heap.size w w'):=by
 refine aZ λK m=>Gd ?_;unfold Eu nz;refine ajY x (Own.start w) λb c h=>?_;have j:∀{PK:PKT} {K:VWP},DoX ah (aH 3 (.pointer (ax ⟨b,0+1,aw⟩))) c PK K=K (.int .i64 x.kind) c:=aJ aU (h.cell 0 rfl 1 rfl);have k:∀{PK:PKT} {K:VWP},DoX ah (aH 3 (.pointer (ax ⟨b,0+2,aw⟩))) c PK K=K (.int .i64 x.a) c:=aJ aU (h.cell 0 rfl 2 rfl);have l:∀{PK:PKT} {K:VWP},DoX ah (aH 3 (.pointer (ax ⟨b,0+3,aw⟩))) c PK K=K (.int .i64 x.b) c:=aJ aU (h.cell 0 rfl 3 rfl);have fin:∀{q:Bool},q=NA x->K (.returned (.bool q)) c:=λe=>m _ _ ⟨by rw[e],h.done⟩;unfold NA at fin;by_cases i:x.kind=2
 ·rw[alH i] at fin;by_cases d:1<=x.a<;>by_cases f:x.a<=8191<;>by_cases g:0<=x.b
  all_goals
   simp only[rs,MF,Ql,O2,j,k,l,i,alK,d,f,g,alL,g_un];exact fin (by simp[d,f,g])
 ·rw[alG i] at fin;by_cases d:0<=x.a<;>by_cases f:x.a<=2147483647<;>by_cases g:0<=x.b
  all_goals
   simp only[rs,MF,Ql,O2,j,k,l,i,alK,d,f,g,alL,g_un];exact fin (by simp[d,f,g])
end
section
open Eng Go.RowKit
def secC (x:Sec)(vs vk vc:aq):List Value:=[.int .i64 x.at_,vs]++(obC x.trailer vk vc++[.int .i64 x.prev,.int .i64 x.hybrid,.int .i64 x.own])
def secV (x:Sec)(vs vk vc:aq):Value:=.agg (secC x vs vk vc).toArray
abbrev secE (b:Nat)(x:Sec)(vs vk vc:aq):Ent:=.cells b (secC x vs vk vc) 63
theorem TU:aggN ah 63=ax 11:=krx
theorem alC:(Tryz.prog.info? 63).map (·.size)=ax 11:=krx
theorem fse0:fOff ah 63 0=ax 0:=krx
theorem fse1:fOff ah 63 1=ax 1:=krx
theorem fse2:fOff ah 63 2=ax 2:=krx
theorem fse3:fOff ah 63 3=ax 8:=krx
theorem fse4:fOff ah 63 4=ax 9:=krx
theorem fse5:fOff ah 63 5=ax 10:=krx
theorem nSls:eD ah 61=true:=krx
theorem Wi (x:Sec)(b:vs.oneCell'=av)(c:vk.oneCell'=av)(d:vc.oneCell'=av):∀v∈secC x vs vk vc,v.oneCell'=true:=by
 intro v a;simp only[secC,amK,alN,anA,or_false] at a;rcases a with (rfl|rfl)|a|rfl|rfl|rfl
 ·rfl
 ·exact b
 ·exact kZ x.trailer c d v a
 ·rfl
 ·rfl
 ·rfl
section
variable {w:ao}{PK:PKT}{K:VWP}{S:Nat->Prop}{w0:ao}{L:List Ent}
theorem aeL :DoX ah (mFA 63 (.pointer (ax ⟨b,0,aw⟩)) 0) w PK K=K (.pointer (ax ⟨b,0,aw⟩)) w:=aO fse0
theorem L7 :DoX ah (mFA 63 (.pointer (ax ⟨b,0,aw⟩)) 1) w PK K=K (.pointer (ax ⟨b,1,aw⟩)) w:=aO fse1
theorem Tw :DoX ah (mFA 63 (.pointer (ax ⟨b,0,aw⟩)) 2) w PK K=K (.pointer (ax ⟨b,2,aw⟩)) w:=aO fse2
theorem PJ :DoX ah (mFA 63 (.pointer (ax ⟨b,0,aw⟩)) 3) w PK K=K (.pointer (ax ⟨b,8,aw⟩)) w:=aO fse3
theorem acV :DoX ah (mFA 63 (.pointer (ax ⟨b,0,aw⟩)) 4) w PK K=K (.pointer (ax ⟨b,9,aw⟩)) w:=aO fse4
theorem UH (a:OwnS S w0 w L)(k:∀b w',OwnS S w0 w' (secE b Tl.sec0 nilS nilS nilS::L)->K (.pointer (ax ⟨b,0,aw⟩)) w'):DoX ah (iL 63) w PK K:=
 bA (λb=>.pointer (ax ⟨b,0,aw⟩)) (secC Tl.sec0 nilS nilS nilS) 63 (λ_=>by kernel_rfl) a k
theorem Jj (i:Nat){x y:Sec}{vs' vk' vc':aq}(a:vs'.oneCell'=av)(c:vk'.oneCell'=av)(d:vc'.oneCell'=av)(e:OwnS S w0 w L)(hi:L[i]?=ax (secE b x vs vk vc))(k:∀w',OwnS S w0 w' (L.set i (secE b y vs' vk' vc'))->K undef w') :
  DoX ah (aN 63 (.pointer (ax ⟨b,0,aw⟩)) (secV y vs' vk' vc')) w PK K:=gY i e hi (new:=secC y vs' vk' vc') alC (Wi y a c d) rfl k
theorem se_v (a:OwnS S w0 w L)(i:Nat){x:Sec}(hi:L[i]?=ax (secE b x vs vk vc)):DoX ah (aH 63 (.pointer (ax ⟨b,0,aw⟩))) w PK K=K (secV x vs vk vc) w:=l_at (a.agg i hi TU)
theorem SW (a:OwnS S w0 w L)(i:Nat){x:Sec}(hi:L[i]?=ax (secE b x vs vk vc)):DoX ah (aH 61 (.pointer (ax ⟨b,1,aw⟩))) w PK K=K vs w:=aJ nSls (a.cell i hi 1 rfl)
theorem akB:DoX ah (aS 63 #[]) w PK K=K (secV Tl.sec0 nilS nilS nilS) w:=aD krx
theorem abL (x:Sec)(c:vs.oneCell'=av)(d:vk.oneCell'=av)(e:vc.oneCell'=av)(a:OwnS S w0 w L)(k:∀b w',OwnS S w0 w' (secE b x vs vk vc::L)->K (.pointer (ax ⟨b,0,aw⟩)) w'):DoX ah (mBox 63 (secV x vs vk vc)) w PK K:=
 bA (λb=>.pointer (ax ⟨b,0,aw⟩)) (secC x vs vk vc) 63 (λ_=>by kernel_rfl) a k
theorem afE (a:OwnS S w0 w L)(i:Nat){x:Sec}(hi:L[i]?=ax (secE b x vs vk vc)):DoX ah (aH 25 (.pointer (ax ⟨b,2,aw⟩))) w PK K=K (obV x.trailer vk vc) w:=
 l_at (a.Th i hi 2 (obC x.trailer vk vc) rfl lF)
theorem adU (a:OwnS S w0 w L)(i:Nat){x:Sec}(hi:L[i]?=ax (secE b x vs vk vc)):DoX ah (aH 3 (.pointer (ax ⟨b,2,aw⟩))) w PK K=K (.int .i64 x.trailer.k) w:=aJ aU (a.cell i hi 2 rfl)
end
def SecV (N:Mem)(v:aq)(x:Sec):Prop:=∃vs vk vc,v=secV x vs vk vc∧SlA N.A N.w vs 4 x.aG.length (x.aG.flatMap slC)∧OV N.A N.w (obV x.trailer vk vc) x.trailer
end
section
open Eng Go.RowKit
abbrev slsC (l:List Slt):List Value:=l.flatMap slC
theorem oJ {l:List Slt}(a:SlA M.A M.w v 4 l.length (slsC l))(hi:i < l.length) :
  ∃(b off:Nat),∀W,M.has W->(mIA 61 v (.int .i64 (i:Int))).run ah W=.ok (.value (.pointer (ax ⟨b,off,aw⟩))) W∧∀j u,(slC l[i])[j]?=ax u->W.cell? ⟨b,off+j,aw⟩=ax u:=by
 obtain⟨b,off,cap,rfl,_⟩:=bX a.1 om;refine⟨b,off+i*4,λW c=>⟨?_,λj u d=>?_⟩⟩
 ·have:=dY (P:=ah) (T:=61) (b:=b) (off:=off) (cap:=cap) (n:=l.length) (k:=.i64) (i:=(i:Int)) (w:=W) aoU szSl om om;rw[alQ] at this;exact this
 ·have:=Sl.cellAt (a.now c) (i*4+j) u (Eng.pI YS hi d)
  rwa [<-anX] at this
theorem BJ {off:Nat}{x:Slt}(h:∀j u,(slC x)[j]?=ax u->W.cell? ⟨b,off+j,aw⟩=ax u):(aH 83 (.pointer (ax ⟨b,off,aw⟩))).run ah W=.ok (.value (slV x)) W:=
 aW (AtV.agg afA (cs:=slC x) rfl h)
theorem F5 {off:Nat}{x:Slt}(h:∀j u,(slC x)[j]?=ax u->W.cell? ⟨b,off+j,aw⟩=ax u):(aH 3 (.pointer (ax ⟨b,off,aw⟩))).run ah W=.ok (.value (.int .i64 x.num)) W:=
 aB aU (h 0 _ rfl)
namespace Tl
def Fe (l:List Slt):Nat->Option Int
|0=>aw
|i+1=>(l[i]?).map (·.num)
theorem M4 {l:List Slt}(hi:i < l.length):yR (Fe l i) (l.drop i)=if okS l[i]≠0 then okS l[i] else if (Fe l i).any (λn=>ai (l[i].num=n)) then 9 else if (Fe l i).any (λn=>ai (l[i].num < n)) then 1 else yR (Fe l (i+1)) (l.drop (i+1)):=by
 rw[anB hi,yR,Fe,alT hi];rfl
end Tl
theorem Xb (x:Slt):Tl.okS x=if x.num < 0∨8191 < x.num then 2 else if x.kind < 0∨2 < x.kind then 10 else if NA x then 0 else 2:=by
 unfold Tl.okS NA;by_cases c:x.num < 0∨8191 < x.num
 ·rw[alH c,alH c]
 by_cases e:x.kind < 0∨2 < x.kind
 ·rw[alG c,alH e,alG c,alH e]
 rw[alG c,alG e,alG c,alG e];by_cases f:x.kind=2
 ·rw[alH f,alH f];by_cases d:x.a < 1∨8191 < x.a∨x.b < 0∨8191 < x.b
  ·rw[alH d,alG (by simp;omega)]
  ·rw[alG d,alH (by simp;omega)]
 ·rw[alG f,alG f];by_cases d:x.a < 0∨2147483647 < x.a∨x.b < 0∨65535 < x.b
  ·rw[alH d,alG (by simp;omega)]
  ·rw[alG d,alH (by simp;omega)]
section
variable {S:Nat->Prop}{w w0:ao}{L:List Ent}
theorem Vu {l:List Slt}{x:Slt}(jx jm:Nat)(d:OwnS S w0 w L)(o:L[jx]?=ax (slE b x))(hm:L[jm]?=ax (.mem M))(p:SlA M.A M.w v 4 l.length (slsC l))(hi:i<=l.length)(a:l.length<=1000000000000){F:VWP}
  (h:∀W,OwnS S w0 W L->F (.bool ((Tl.Fe l i).any λn=>ai (x.num=n))) W) :
  QuietX w (λc=>
 QDo ah c (mBin .gtr 3 (.int .i64 (i:Int)) (.int .i64 0)) λt36=>
 GQ t36 av (λE=>QDo ah c (mFA 83 (.pointer (ax ⟨b,0,aw⟩)) 0) E) λt38=>
 GQ t36 av (λE=>QDo ah c (aH 3 t38) E) λt39=>
 GQ t36 av (λE=>E v) λt40=>
 GQ t36 av (λE=>E (.int .i64 (i:Int))) λt41=>
 GQ t36 av (λE=>QDo ah c (mBin .sub 3 t41 (.int .i64 1)) E) λt42=>
 GQ t36 av (λE=>QDo ah c (mIA 61 t40 t42) E) λt43=>
 GQ t36 av (λE=>QDo ah c (mFA 83 t43 0) E) λt44=>
 GQ t36 av (λE=>QDo ah c (aH 3 t44) E) λt45=>
 GQ t36 av (λE=>QDo ah c (mEq .eql 3 xo yo t39 t45) E) λt46=>
 QDo ah c (kH t36 t46 (.bool au)) λt47=>
 ∀w,c w->F t47 w):=by
 refine quiet ?_;rcases anU i with k|k
 ·subst k;refine yS ?_;simp only[show ai ((0:Int) < ((0:Nat):Int))=au by decide,gq,D5];exact q_pf λW a=>h W (d.grow a)
 obtain⟨j,rfl⟩:∃j,i=j+1:=⟨i - 1,om⟩;have q:(0:Int) < ((j+1:Nat):Int):=om
 have f:IntKind.wrap .i64 (((j+1:Nat):Int) - 1)=(j:Int):=by rw[aA om om];omega
 obtain⟨g,off,m⟩:=oJ p (i:=j) om;refine yS ?_;simp only[alM q,gq,D5];refine q_do _ (λ_=>bC fs0) ?_;refine q_at (.int .i64 x.num) (λ_ a=>aB aU ((d.grow a).cell jx o 0 rfl)) ?_;refine q_do (.int .i64 (j:Int)) (λ_=>by rw[rB,f]) ?_;refine q_at _ (λW a=>(m W ((d.grow a).hasM jm hm)).1) ?_;refine q_do _ (λ_=>bC fs0) ?_;refine q_at (.int .i64 l[j].num) (λW a=>F5 (m W ((d.grow a).hasM jm hm)).2) ?_;refine q_eq ?_;refine q_pt λW a=>?_;have e:Tl.Fe l (j+1)=ax l[j].num:=by rw[Tl.Fe,alT om];rfl
 have:=h W (d.grow a);rw[e] at this;exact this
theorem Wb {l:List Slt}{x:Slt}(jx jm:Nat)(d:OwnS S w0 w L)(o:L[jx]?=ax (slE b x))(hm:L[jm]?=ax (.mem M))(p:SlA M.A M.w v 4 l.length (slsC l))(hi:i<=l.length)(a:l.length<=1000000000000){F:VWP}
  (h:∀W,OwnS S w0 W L->F (.bool ((Tl.Fe l i).any λn=>ai (x.num < n))) W) :
  QuietX w (λc=>
 QDo ah c (mBin .gtr 3 (.int .i64 (i:Int)) (.int .i64 0)) λt36=>
 GQ t36 av (λE=>QDo ah c (mFA 83 (.pointer (ax ⟨b,0,aw⟩)) 0) E) λt38=>
 GQ t36 av (λE=>QDo ah c (aH 3 t38) E) λt39=>
 GQ t36 av (λE=>E v) λt40=>
 GQ t36 av (λE=>E (.int .i64 (i:Int))) λt41=>
 GQ t36 av (λE=>QDo ah c (mBin .sub 3 t41 (.int .i64 1)) E) λt42=>
 GQ t36 av (λE=>QDo ah c (mIA 61 t40 t42) E) λt43=>
 GQ t36 av (λE=>QDo ah c (mFA 83 t43 0) E) λt44=>
 GQ t36 av (λE=>QDo ah c (aH 3 t44) E) λt45=>
 GQ t36 av (λE=>QDo ah c (mBin .lss 3 t39 t45) E) λt46=>
 QDo ah c (kH t36 t46 (.bool au)) λt47=>
 ∀w,c w->F t47 w):=by
 refine quiet ?_;rcases anU i with k|k
 ·subst k;refine yS ?_;simp only[show ai ((0:Int) < ((0:Nat):Int))=au by decide,gq,D5];exact q_pf λW a=>h W (d.grow a)
 obtain⟨j,rfl⟩:∃j,i=j+1:=⟨i - 1,om⟩;have q:(0:Int) < ((j+1:Nat):Int):=om
 have f:IntKind.wrap .i64 (((j+1:Nat):Int) - 1)=(j:Int):=by rw[aA om om];omega
 obtain⟨g,off,m⟩:=oJ p (i:=j) om;refine yS ?_;simp only[alM q,gq,D5];refine q_do _ (λ_=>bC fs0) ?_;refine q_at (.int .i64 x.num) (λ_ a=>aB aU ((d.grow a).cell jx o 0 rfl)) ?_;refine q_do (.int .i64 (j:Int)) (λ_=>by rw[rB,f]) ?_;refine q_at _ (λW a=>(m W ((d.grow a).hasM jm hm)).1) ?_;refine q_do _ (λ_=>bC fs0) ?_;refine q_at (.int .i64 l[j].num) (λW a=>F5 (m W ((d.grow a).hasM jm hm)).2) ?_;refine DQ ?_;refine q_pt λW a=>?_;have e:Tl.Fe l (j+1)=ax l[j].num:=by rw[Tl.Fe,alT om];rfl
 have:=h W (d.grow a);rw[e] at this;exact this
end
 attribute [local congr] Bt
theorem Jm (l:List Slt)(v:aq)(M:Mem)(w:ao)(m:l.length<=1000000000000)(f:M.has w)(j:SlA M.A M.w v 4 l.length (slsC l)) :
  Ret ah 101 #[v] w (λr w'=>r=.int .i64 (Tl.check l)∧Below w.heap.size w w'):=by
 refine aZ λK n=>Fv ?_;unfold CZ nz;rw[bE aoU (j.now f)];refine loop (λvs W=>∃i:Nat,vs=[.int .i64 i]∧i<=l.length∧Tl.check l=Tl.yR (Tl.Fe l i) (l.drop i)∧OwnS M.A w W [.mem M]) (λvs _=>l.length - n0 vs) ⟨0,rfl,om,rfl,OwnS.memS f⟩ ?_;rintro vs p ⟨i,rfl,hi,he,a⟩ _;simp only[zJ,gd,rs,nz];by_cases d:(i:Int) < (l.length:Int)
 case neg=>
  simp only[alJ d,i_f];rw[anR om,Tl.yR] at he;exact n _ _ ⟨by rw[he],(a.JE 0 rfl M.le_refl f).below⟩
 have c:i < l.length:=om
 simp only[alM d,i_t];rw[Tl.M4 c,Xb] at he;obtain⟨g,off,q⟩:=oJ j c;obtain⟨s,t⟩:=q p (a.hasM 0 rfl);refine aD s |>.mpr (aD (BJ t) |>.mpr ?_);refine KD a λk w2 a=>?_;refine HQ (y:=l[i]) 0 a rfl λw3 a=>?_;have a:OwnS M.A w w3 [slE k l[i],.mem M]:=a;have C:l[i]?=ax l[i]:=alT c;generalize u:l[i]=x at *;have z:∀{PK:PKT} {K:VWP},DoX ah (aH 3 (.pointer (ax ⟨k,0,aw⟩))) w3 PK K=K (.int .i64 x.num) w3:=aJ aU (a.cell 0 rfl 0 rfl);have B:∀{PK:PKT} {K:VWP},DoX ah (aH 3 (.pointer (ax ⟨k,0+1,aw⟩))) w3 PK K=K (.int .i64 x.kind) w3:=aJ aU (a.cell 0 rfl 1 rfl);have fin:∀{W:ao} {e:Int} {L:List Ent},OwnS M.A w W (L++([.mem M]++[]))->Tl.check l=e->K (.returned (.int .i64 e)) W:=by
  intro W e L a h;exact n _ _ ⟨by rw[h],(a.front.JE 0 rfl M.le_refl f).below⟩
 simp +contextual only[rs,gs,X2,z];rw[ML];refine⟨λb=>fin (L:=[_]) a ?_,λb=>?_⟩
 ·simp only[apC,amU] at b;rw[he,alH b];rfl
 have b:¬(x.num < 0∨8191 < x.num):=by simp only[Bool.or_eq_false_iff,apG] at b;omega
 rw[alG b] at he;simp +contextual only[rs,gs,MF,B];rw[ML];refine⟨λb=>fin (L:=[_]) a ?_,λb=>?_⟩
 ·simp only[apC,amU] at b;rw[he,alH b];rfl
 have b:¬(x.kind < 0∨2 < x.kind):=by simp only[Bool.or_eq_false_iff,apG] at b;omega
 rw[alG b] at he;rw[sl_v a 0 rfl];refine aM a (R:=λv=>v=.bool (NA x)) (To x w3) ?_;rintro _ D rfl a;simp only[rs];cases o:NA x with
|false=>
  rw[o] at he;simp only[anK,i_t];exact fin (L:=[_]) a (by rw[he];rfl)
|true=>
 rw[o] at he;simp only[anH,i_f];simp only[if_true,ne_eq,not_true,if_false] at he;refine Vu 0 1 a rfl rfl j hi m λE a=>?_;rw[ML];refine⟨λb=>fin (L:=[_]) a (by rw[he,alH b]),λb=>?_⟩;rw[alG (by rw[b];simp)] at he;refine Wb 0 1 a rfl rfl j hi m λF a=>?_;rw[ML];refine⟨λb=>fin (L:=[_]) a (by rw[he,alH b]),λb=>?_⟩;rw[alG (by rw[b];simp)] at he;rw[aA om om];exact aY ⟨i+1,rfl,om,he,a.tail⟩ (by show l.length - Int.toNat ((i:Int)+1) < l.length - Int.toNat (i:Int);omega)
end
section
open Eng
def kK(t0 t1 t5 w)(N1:JT)(K:KT):=nz f48 43 [N1] [nh 9 [5]] [(6,9)] (zg [0,1,5] [t0,t1,t5]) w K
def nJ(t0 t1 w)(K:KT):=nz f48 1 [] [(9,[5],λs v j w f=>kK (s 0) (s 1) (vg v 0) w (f 0) K)] [] (zg [0,1] [t0,t1]) w K
theorem tJ:nJ t0 t1 w k0->Calls ah 48 #[t0,t1] w k0:=cz [] [(4,[5])] func48
end
section
open Eng
def nF(w)(K:KT):=nz f32 1 [] [] [] (zg [] []) w K
theorem tM:nF w k0->Calls ah 32 #[] w k0:=cw func32
def fV(t0 t3 t4 t5 t6 w)(a:JT)(K:KT):=nz f10 351 [a] [nh 17 [4,5,6]] [(10,50),(12,29),(13,29)] (zg [0,3,4,5,6] [t0,t3,t4,t5,t6]) w K
def iB(t0 w)(K:KT):=nz f10 1 [] [(17,[4,5,6],λs v j w f=>fV (s 0) (s 3) (vg v 0) (vg v 1) (vg v 2) w (f 0) K)] [(6,8)] (zg [0] [t0]) w K
theorem mQ:iB t0 w k0->Calls ah 10 #[t0] w k0:=cz [] [(8,[4,5,6])] func10
end
section
open Eng Go.RowKit
theorem KZ (a b:List Slt)(va p:aq)(M:Mem)(w:ao)(v:a.length<=1000000000)(k:M.has w)(m:SlA M.A M.w va 4 a.length (slsC a))(n:SlA M.A M.w p 4 b.length (slsC b)) :
  Ret ah 48 #[va,p] w (λr w'=>r=.bool (ai (a=b))∧Below w.heap.size w w'):=by
 refine aZ λK s=>tJ ?_;unfold nJ nz;rw[bE aoU (m.now k),bE aoU (n.now k)];simp only[rs];by_cases hlen:(a.length:Int)≠(b.length:Int)
 ·simp only[alM hlen,i_t];have d:a≠b:=λe=>hlen (by rw[e]);exact s _ _ ⟨by rw[alJ d],Below.refl _ _⟩
 have hle:a.length=b.length:=om
 simp only[alJ hlen,i_f];refine loop (λvs w'=>∃(i:Nat),vs=[.int .i64 i]∧i<=a.length∧a.take i=b.take i∧OwnS M.A w w' [.mem M]) (λvs _=>a.length - n0 vs) ⟨0,rfl,om,sm,OwnS.memS k⟩ ?_;rintro vs w2 ⟨i,rfl,hi,he,c⟩ _;simp only[kK,gd,nz];rw[bE aoU (m.now (c.hasM 0 rfl))];simp only[rs];have fin:∀{W:ao} {q:Bool},OwnS M.A w W [.mem M]->ai (a=b)=q->K (.returned (.bool q)) W:=λc h=>s _ _ ⟨by rw[h],(c.JE 0 rfl M.le_refl k).below⟩;by_cases f:(i:Int) < (a.length:Int)
 case neg=>
  simp only[alJ f,i_f,g_un,rs];have o:a=b:=by
   rw[amP om,amP om] at he;exact he
  exact fin c (alM o)
 have t:i < a.length:=om
 have u:i < b.length:=om
 simp only[alM f,rs];rw[bE aoU (n.now (c.hasM 0 rfl))];simp only[rs,alM (show (i:Int) < (b.length:Int) by omega),i_t];obtain⟨x,y,g⟩:=oJ m t;obtain⟨z,B,j⟩:=oJ n u;refine quiet ?_;refine q_at _ (λW hw=>(g W ((c.grow hw).hasM 0 rfl)).1) (q_at _ (λW hw=>BJ (g W ((c.grow hw).hasM 0 rfl)).2) ?_);refine q_at _ (λW hw=>(j W ((c.grow hw).hasM 0 rfl)).1) (q_at _ (λW hw=>BJ (j W ((c.grow hw).hasM 0 rfl)).2) ?_);refine q_do _ (λ_=>aeD) ?_;intro w3 hw;have c:=c.grow hw;by_cases l:a[i]=b[i]
 ·simp only[l,alK,anH,i_f,rs];rw[aA om om];refine aY ⟨i+1,rfl,om,?_,c⟩ (by show a.length - Int.toNat ((i:Int)+1) < a.length - Int.toNat (i:Int);omega);rw[amO t,amO u,he,l]
 ·simp only[l,alL,anK,i_t];have d:a≠b:=λe=>l (by subst e;rfl);exact fin c (alJ d)
end
section
open Eng
def vM(t25 w)(N1:JT)(K:KT):=nz f168 983 [N1] [nh 11 [25]] [] (zg [25] [t25]) w K
def iS(t1 t2 t3 t23 t24 t25 w)(N1:JT)(K:KT):=nz f168 87 [N1] [nh 11 [25],(22,[],λs v j w f=>vM (s 25) w (f 0) K)] [] (zg [1,2,3,23,24,25] [t1,t2,t3,t23,t24,t25]) w K
def Al(t0 w)(K:KT):=nz f168 1 [] [(11,[25],λs v j w f=>iS (s 1) (s 2) (s 3) (s 23) (s 24) (vg v 0) w (f 0) K)] [] (zg [0] [t0]) w K
theorem DH:Al t0 w k0->Calls ah 168 #[t0] w k0:=cz [(11,[])] [(5,[25])] func168
end
end Go.Proofs.YtlipjfcbjemicaaGreatDoor



namespace Go.Proofs.YtlipjfcbjemicaaGreatDoor
variable{A S:Nat->Prop}{K:VWP}{L:List Eng.Ent}{M N:Eng.Mem}{P:Program}{PK PK2:PKT}{T1 U:TypeId}{W w w0:ao}{a way:Int}{args:Array aq}{b cap d f i j m p sz:Nat}{cb:Array Bool}{cs news xs:List aq}{ds:List Deferred}{e:Eng.Ent}{k':IntKind}{key:List UInt8}{o:Ob}{u:FrameMode}{v v2 vc vk vs:aq}{xo yo:Operand}{α:Type}{t0 t1 t2:aq}{k0:Eng.KT}
section
open Go
namespace Vl
def lk (k:List UInt8):List (List UInt8)->List Ob->Option Ob
|a::b,c::cs=>if a=k then ax c else lk k b cs
|_,_=>aw
theorem V2 (k:List UInt8):∀(b:List (List UInt8)) (cs:List Ob),(if b.idxOf k < b.length then cs[b.idxOf k]? else aw)=lk k b cs
|[],cs=>by simp[lk]
|a::b,[]=>by simp[lk]
|a::b,c::cs=>by
  rw[lk,<-V2 k b cs,List.idxOf_cons];by_cases h:a=k
  ·subst h;simp
  ·have d:(a==k)=false:=by simpa using h
   simp[d,h]
theorem Ta {k:List UInt8}:∀{e:List (List UInt8)} {cs:List Ob} (b:List (List UInt8)) (d:List Ob),e.length=cs.length->lk k (e++b) (cs++d)=(lk k e cs).or (lk k b d)
|[],[],_,_,_=>by simp[lk]
|[],c::cs,_,_,h=>by simp at h
|a::e,[],_,_,h=>by simp at h
|a::e,c::cs,b,d,h=>by
  rw[apE,apE,lk,lk,Ta b d (by simpa using h)];split<;>rfl
theorem zV {k:List UInt8}{v:Ob}(e:o.keys.length=o.kids.length)(a:key≠k):get (put o key v) k=get o k:=by
 unfold get;rw[show keyed (put o key v)=keyed o from rfl,V2,V2]
 congr 1
 have hp:=zK o.keys key;rw[show (put o key v).keys=o.keys.take (place o.keys key)++key::o.keys.drop (place o.keys key+if hit o.keys key then 1 else 0) from rfl,
  show (put o key v).kids=o.kids.take (place o.keys key)++v::o.kids.drop (place o.keys key+if hit o.keys key then 1 else 0) from rfl,
  Ta _ _ (by rw[alR,alR];omega),lk,alG a]
 conv=>rhs;rw[<-amX (place o.keys key) o.keys,<-amX (place o.keys key) o.kids,Ta _ _ (by rw[alR,alR];omega)]
 congr 1
 by_cases b:hit o.keys key=av
 ·rw[alH b];have c:o.keys[place o.keys key]?=ax key:=by simpa[hit] using b
  obtain⟨d,c⟩:=alY.1 c;rw[anB (i:=place o.keys key) d,anB (i:=place o.keys key) (l:=o.kids) om,lk,alG (by rw[c];exact a)]
 ·rw[alG b];rfl
end Vl
namespace Dk
end Dk
namespace Pg
section
variable {d:Dc}{j:It}{o o':Ob}
end
end Pg
end
end Go.Proofs.YtlipjfcbjemicaaGreatDoor





namespace Go.Proofs.YtlipjfcbjemicaaGreatDoor
variable{A S:Nat->Prop}{K:VWP}{L:List Eng.Ent}{M N:Eng.Mem}{P:Program}{PK PK2:PKT}{T1 U:TypeId}{W w w0:ao}{a way:Int}{args:Array aq}{b cap d f i j m p sz:Nat}{cb:Array Bool}{cs news xs:List aq}{ds:List Deferred}{e:Eng.Ent}{k':IntKind}{key:List UInt8}{o:Ob}{u:FrameMode}{v v2 vc vk vs:aq}{xo yo:Operand}{α:Type}{t0 t1 t2:aq}{k0:Eng.KT}
section
open Eng Go.RowKit
theorem yI {T2:TypeId}{k:IntKind}{b:Int}:DoX P (mB .max #[T1,T2] U cb #[.int k a,.int k' b]) w PK K=K (.int k (max a b)) w:=by
 refine aD ?_;have e:(if a < b then b else a)=max a b:=by split<;>omega
 simp[mB,builtin,Builtin.max_,Builtin.max2,e]
section
variable {w:ao}{PK:PKT}{K:VWP}{S:Nat->Prop}{w0:ao}{L:List Ent}
theorem bG {off:Nat}:DoX ah (mNil (.pointer (ax ⟨b,off,aw⟩))) w PK K=K (.pointer (ax ⟨b,off,aw⟩)) w:=aD rfl
end
end
section
open Go
namespace Fl
def bit (s:List UInt8)(p:Nat):Nat:=(s.getD (p / 8) 0).toNat / 2 ^ (p % 8) % 2
theorem St (s:List UInt8)(p:Nat):bit s p < 2:=aoT _ dc
def num (s:List UInt8)(p:Nat):Nat->Nat
|0=>0
|n+1=>num s p n+bit s (p+n)*2 ^ n
theorem xA (s:List UInt8)(p:Nat):∀n,num s p n < 2 ^ n
|0=>by rw[num];decide
|n+1=>by
  have a:=xA s p n;have b:=St s (p+n);rw[num,anL];rcases (by omega:bit s (p+n)=0∨bit s (p+n)=1) with h|h<;>rw[h]<;>omega
def gD (lens:List Nat):Nat->Nat
|0=>0
|l+1=>gD lens l+lens.count (l+1)*2 ^ (15 - (l+1))
def bD (lens:List Nat):Nat->Nat
|0=>0
|l+1=>bD lens l+lens.count (l+1)
def check (lens:List Nat):Int:=if gD lens 15=32768∨bD lens 15=0∨(bD lens 15=1∧lens.count 1=1) then 0 else 13
def first (lens:List Nat):Nat->Nat
|0=>0
|1=>0
|l+2=>2*(first lens (l+1)+lens.count (l+1))
theorem P6 {lens:List Nat}:∀l,gD lens l<=l*(lens.length*32768)
|0=>by simp[gD]
|l+1=>by
  have a:=P6 (lens:=lens) l;have b:lens.count (l+1)*2 ^ (15 - (l+1))<=lens.length*32768:=aoR aqK (by
   have:2 ^ (15 - (l+1))<=2 ^ 15:=anN dc om;simpa using this)
  rw[gD,anS];omega
theorem Hc {lens:List Nat}:∀l,bD lens l<=l*lens.length
|0=>by simp[bD]
|l+1=>by
  have a:=Hc (lens:=lens) l;have b:lens.count (l+1)<=lens.length:=aqK;rw[bD,anS];omega
theorem KJ {lens:List Nat}:∀l,first lens l<=4 ^ l*lens.length
|0=>by simp[first]
|1=>by simp[first]
|l+2=>by
  have b:=KJ (lens:=lens) (l+1);have c:lens.count (l+1)<=lens.length:=aqK;have a:4 ^ (l+2)*lens.length=4*(4 ^ (l+1)*lens.length):=by rw[anL 4 (l+1),aoD (4 ^ (l+1)) 4,aqL]
  have d:1*lens.length<=4 ^ (l+1)*lens.length:=anC _ (Nat.one_le_pow _ _ dc);rw[first,a];omega
end Fl
end
section
open Eng
def Jt(t0 w)(K:KT):=nz f273 1 [] [] [] (zg [0] [t0]) w K
theorem Kp:Jt t0 w k0->Calls ah 273 #[t0] w k0:=cw func273
def mP(t0 t1 w)(K:KT):=nz f340 1 [] [] [] (zg [0,1] [t0,t1]) w K
theorem nR:mP t0 t1 w k0->Calls ah 340 #[t0,t1] w k0:=cw func340
def mX(t0 t1 w)(K:KT):=nz f349 1 [] [] [] (zg [0,1] [t0,t1]) w K
theorem nY:mX t0 t1 w k0->Calls ah 349 #[t0,t1] w k0:=cw func349
def qJ(t5 w)(K:KT):=nz f355 15 [] [] [] (zg [5] [t5]) w K
def vC(t0 t1 w)(K:KT):=nz f355 1 [] [(12,[],λs v j w f=>qJ (s 5) w K)] [(1,18)] (zg [0,1] [t0,t1]) w K
theorem BK:vC t0 t1 w k0->Calls ah 355 #[t0,t1] w k0:=cz [(6,[])] [] func355
def oU(t8 w)(K:KT):=nz f346 63 [] [] [] (zg [8] [t8]) w K
def oR(t8 t35 w)(N1:JT)(K:KT):=nz f346 983 [N1] [nh 15 [8,35]] [] (zg [8,35] [t8,t35]) w K
def nT(t0 t1 t2 t8 t34 t35 w)(N1:JT)(K:KT):=nz f346 87 [N1] [nh 15 [8,35],(26,[8],λs v j w f=>oR (vg v 0) (s 35) w (f 0) K),(32,[],λs v j w f=>oU (s 8) w K)] [] (zg [0,1,2,8,34,35] [t0,t1,t2,t8,t34,t35]) w K
def rU(t0 t1 t2 w)(K:KT):=nz f346 1 [] [(15,[8,35],λs v j w f=>nT (s 0) (s 1) (s 2) (vg v 0) (s 34) (vg v 1) w (f 0) K)] [] (zg [0,1,2] [t0,t1,t2]) w K
theorem Ac:rU t0 t1 t2 w k0->Calls ah 346 #[t0,t1,t2] w k0:=cz [(13,[8]),(16,[])] [(7,[8,35])] func346
def uR(t0 t1 w)(K:KT):=nz f332 1 [] [] [] (zg [0,1] [t0,t1]) w K
theorem Bk:uR t0 t1 w k0->Calls ah 332 #[t0,t1] w k0:=cw func332
def nC(t0 w)(K:KT):=nz f333 7 [] [] [] (zg [0] [t0]) w K
def qM(t0 w)(K:KT):=nz f333 1 [] [(6,[],λs v j w f=>nC (s 0) w K)] [] (zg [0] [t0]) w K
theorem wP:qM t0 w k0->Calls ah 333 #[t0] w k0:=cz [(3,[])] [] func333
def uK(t0 t1 w)(K:KT):=nz f336 1 [] [] [(3,13),(6,17)] (zg [0,1] [t0,t1]) w K
theorem BE:uK t0 t1 w k0->Calls ah 336 #[t0,t1] w k0:=cw func336
def wZ(t0 w)(K:KT):=nz f275 1 [] [] [] (zg [0] [t0]) w K
theorem BS:wZ t0 w k0->Calls ah 275 #[t0] w k0:=cw func275
def rI(t0 w)(K:KT):=nz f354 1 [] [] [(3,18)] (zg [0] [t0]) w K
theorem zZ:rI t0 w k0->Calls ah 354 #[t0] w k0:=cw func354
end
section
open Eng Go.RowKit
theorem WU:∀n:Fin 256,bAnd .i64 (n.val:Int) 1=((n.val % 2:Nat):Int):=by decide +kernel
theorem and1 {n:Nat}(h:n < 256):bAnd .i64 (n:Int) 1=((n % 2:Nat):Int):=WU ⟨n,h⟩
theorem Zn {v:Nat}(a:v < 2 ^ i)(f:b < 2)(hi:i<=30):bOr .i64 (v:Int) ((b*2 ^ i:Nat):Int)=((v+b*2 ^ i:Nat):Int):=by
 have hp:2 ^ i<=2 ^ 30:=anN dc hi;have c:(2:Nat) ^ 30=1073741824:=dc
 have d:b*2 ^ i<=2 ^ 30:=by
  have:b*2 ^ i<=1*2 ^ i:=anC _ om;omega
 have e:v ||| b*2 ^ i=v+b*2 ^ i:=by
  have:=asT a b;rw[Nat.or_comm,aoD b,<-this,arC]
 unfold bOr;show IntKind.wrap .i64 (((BitVec.ofInt 64 (v:Int) ||| BitVec.ofInt 64 ((b*2 ^ i:Nat):Int)).toNat:Nat):Int)=_;rw[BitVec.ofInt_natCast,BitVec.ofInt_natCast,BitVec.toNat_or,BitVec.toNat_ofNat,BitVec.toNat_ofNat,anD om,anD om,e];exact aA om om
theorem QN (a n:Nat):((a:Nat):Int).fdiv (2 ^ n)=((a / 2 ^ n:Nat):Int):=by
 rw[aqI _ (by exact Int.pow_nonneg dc)]
 push_cast
 rfl
def bqC (s:List UInt8)(way:Int)(p:Nat):List Value:=[.int .i64 way,.int .i64 ((p % 8:Nat):Int),.string ⟨s.toArray⟩,.int .i64 ((p / 8:Nat):Int)]
def bqE (b:Nat)(s:List UInt8)(way:Int)(p:Nat):Ent:=.cells b (bqC s way p) 317
theorem US:fOff ah 317 0=ax 0:=krx
theorem Qy:fOff ah 317 1=ax 2:=krx
theorem IJ:fOff ah 317 2=ax 3:=krx
theorem aeS:fOff ah 315 0=ax 0:=krx
theorem Ya:fOff ah 315 1=ax 1:=krx
theorem szSd:(Tryz.prog.info? 315).map (·.size)=ax 2:=krx
theorem YQ:eD ah 9=true:=krx
section
variable {w:ao}{PK:PKT}{K:VWP}{S:Nat->Prop}{w0:ao}{L:List Ent}
theorem AF {off:Nat}:DoX ah (mFA 317 (.pointer (ax ⟨b,off,aw⟩)) 0) w PK K=K (.pointer (ax ⟨b,off,aw⟩)) w:=aO US
theorem EO {off:Nat}:DoX ah (mFA 317 (.pointer (ax ⟨b,off,aw⟩)) 2) w PK K=K (.pointer (ax ⟨b,off+3,aw⟩)) w:=aO IJ
theorem Jh {off:Nat}:DoX ah (mFA 315 (.pointer (ax ⟨b,off,aw⟩)) 0) w PK K=K (.pointer (ax ⟨b,off,aw⟩)) w:=aO aeS
theorem sN {off:Nat}:DoX ah (mFA 315 (.pointer (ax ⟨b,off,aw⟩)) 1) w PK K=K (.pointer (ax ⟨b,off+1,aw⟩)) w:=aO Ya
theorem Oz (a:OwnS S w0 w L)(j:Nat){s:List UInt8}(hi:L[j]?=ax (bqE b s way p)):DoX ah (aH 3 (.pointer (ax ⟨b,0+1,aw⟩))) w PK K=K (.int .i64 ((p % 8:Nat):Int)) w:=aJ aU (a.cell j hi 1 rfl)
theorem acC (a:OwnS S w0 w L)(j:Nat){s:List UInt8}(hi:L[j]?=ax (bqE b s way p)):DoX ah (aH 3 (.pointer (ax ⟨b,0+3,aw⟩))) w PK K=K (.int .i64 ((p / 8:Nat):Int)) w:=aJ aU (a.cell j hi 3 rfl)
end
section
variable {W:ao}{b:Nat}{s:List UInt8}{way:Int}{p:Nat}
theorem Ee (h:(bqE b s way p).is W):(aH 3 (.pointer (ax ⟨b,0+1,aw⟩))).run ah W=.ok (.value (.int .i64 ((p % 8:Nat):Int))) W:=aB aU (aI (T:=317) (cs:=bqC s way p) h rfl)
theorem KR (h:(bqE b s way p).is W):(aH 9 (.pointer (ax ⟨b,0+2,aw⟩))).run ah W=.ok (.value (.string ⟨s.toArray⟩)) W:=aB YQ (aI (T:=317) (cs:=bqC s way p) h rfl)
theorem tE (h:(bqE b s way p).is W):(aH 3 (.pointer (ax ⟨b,0+3,aw⟩))).run ah W=.ok (.value (.int .i64 ((p / 8:Nat):Int))) W:=aB aU (aI (T:=317) (cs:=bqC s way p) h rfl)
theorem QO (h:(bqE b s way p).is W):Ret ah 349 #[.pointer (ax ⟨b,0,aw⟩),.int .i64 1] W (λv w'=>v=.int .i64 ((p % 8:Nat):Int)∧Below W.heap.size W w'):=by
 refine aZ λK a=>nY ?_;unfold mX nz;simp only[rs,alK,bG];rw[sN];refine aD (Ee h) |>.mpr ?_;exact a _ _ ⟨rfl,(Own.start W).done⟩
theorem QS (h:(bqE b s way p).is W)(hw:way=0∨way=1):Ret ah 340 #[.pointer (ax ⟨b,0,aw⟩),.int .i64 1] W (λv w'=>v=.bool au∧Below W.heap.size W w'):=by
 refine aZ λK a=>nR ?_;unfold mP nz;have r:=aB (P:=ah) (T:=3) aU (aI (T:=317) (cs:=bqC s way p) h (i:=0) rfl);rw[bG,Jh];refine aD r |>.mpr ?_;rcases hw with rfl|rfl
 ·simp only[rs,ne_eq,not_true,alL,g_un];exact a _ _ ⟨rfl,(Own.start W).done⟩
 ·simp only[rs,show ai ((1:Int)≠0)=av by decide,bG];rw[Jh];refine aD r |>.mpr ?_;simp only[rs,ne_eq,not_true,alL];exact a _ _ ⟨rfl,(Own.start W).done⟩
end
def rqE (b:Nat)(s:List UInt8)(way u a:Int):Ent:=.cells b [.int .i64 way,.int .i64 u,.string ⟨s.toArray⟩,.int .i64 a] 317
section
variable {w:ao}{PK:PKT}{K:VWP}{S:Nat->Prop}{w0:ao}{L:List Ent}
theorem aaO (c:OwnS S w0 w L)(j:Nat){s:List UInt8}{u:Int}(hi:L[j]?=ax (rqE b s way u a)):DoX ah (aH 3 (.pointer (ax ⟨b,0+1,aw⟩))) w PK K=K (.int .i64 u) w:=aJ aU (c.cell j hi 1 rfl)
theorem aiS (c:OwnS S w0 w L)(j:Nat){s:List UInt8}{u:Int}(hi:L[j]?=ax (rqE b s way u a)):DoX ah (aH 3 (.pointer (ax ⟨b,0+3,aw⟩))) w PK K=K (.int .i64 a) w:=aJ aU (c.cell j hi 3 rfl)
theorem Tq (j:Nat){s:List UInt8}{u c:Int}(d:OwnS S w0 w L)(hi:L[j]?=ax (rqE b s way u a))(k:∀w',OwnS S w0 w' (L.set j (rqE b s way c a))->K undef w'):DoX ah (aN 3 (.pointer (ax ⟨b,0+1,aw⟩)) (.int .i64 c)) w PK K:=aK j d hi krx rfl (by show 0+1 < 4;omega) k
theorem MX (j:Nat){s:List UInt8}{u a':Int}(c:OwnS S w0 w L)(hi:L[j]?=ax (rqE b s way u a))(k:∀w',OwnS S w0 w' (L.set j (rqE b s way u a'))->K undef w'):DoX ah (aN 3 (.pointer (ax ⟨b,0+3,aw⟩)) (.int .i64 a')) w PK K:=aK j c hi krx rfl (by show 0+3 < 4;omega) k
theorem Z8 (j:Nat){s:List UInt8}{u way':Int}(c:OwnS S w0 w L)(hi:L[j]?=ax (rqE b s way u a))(k:∀w',OwnS S w0 w' (L.set j (rqE b s way' u a))->K undef w'):DoX ah (aN 3 (.pointer (ax ⟨b,0,aw⟩)) (.int .i64 way')) w PK K:=aK j c hi krx rfl (by show 0 < 4;omega) k
theorem ajD {s:List UInt8}(j:Nat)(a:OwnS S w0 w L)(c:L[j]?=ax (bqE b s way p))(hp:p < 8*s.length)(t:s.length<=1000000000)
  (k:∀W,OwnS S w0 W (L.set j (bqE b s way (p+1)))->K (.int .i64 (Fl.bit s p)) W):CallX ah 355 #[.pointer (ax ⟨b,0,aw⟩),.int .i64 1] w PK K:=by
 have d:j < L.length:=(alY.1 c).1;refine fG (BK (k0:=RetK λv W=>v=.int .i64 (Fl.bit s p)∧OwnS S w0 W (L.set j (bqE b s way (p+1)))) ?_) (λe W ⟨v,he,m,a⟩=>by subst he;subst m;exact k W a);unfold vC nz;have hi:p / 8 < s.length:=om
 refine dK (λW=>OwnS S w0 W L) a.drew ?_;refine q_do _ (λ_=>dL) (q_do _ (λ_=>bC Qy) (q_at _ (λW h=>KR (h.at_ j c)) ?_));refine q_do _ (λ_=>dL) (q_do _ (λ_=>bC IJ) (q_at _ (λW h=>tE (h.at_ j c)) ?_));refine q_ix alV om (by rw[alQ,alT hi]) ?_;refine q_do _ (λ_=>dU krx anG) ?_;have u:=(s[p / 8]).toNat_lt;rw[aA om om];refine q_do _ (λ_=>dL) (q_do _ (λ_=>bC US) ?_);refine lO (.int .i64 ((p % 8:Nat):Int)) (λW h=>(QO (h.at_ j c)).mono λv w' r=>⟨r.1,h.grow r.2⟩) ?_;refine q_do _ (λ_=>VB om) ?_;rw[show min ((p % 8:Nat):Int).toNat IntKind.i64.bits=p % 8 by show min ((p % 8:Nat):Int).toNat 64=p % 8;omega,QN];refine q_do _ (λ_=>ZC) ?_;have n:s[p / 8].toNat / 2 ^ (p % 8)<=s[p / 8].toNat:=aqM _ _;rw[and1 om];have f:s[p / 8].toNat / 2 ^ (p % 8) % 2=Fl.bit s p:=by
  unfold Fl.bit;rw[alO,alT hi];rfl
 rw[f];intro w2 a;refine join λJ o=>?_;have fin:∀W,OwnS S w0 W (L.set j (bqE b s way (p+1)))->J [] W:=by
  intro W a;refine o _ _ λ_=>?_;unfold qJ nz;exact retK ⟨rfl,a⟩
 rw[bG,AF,sN,Oz a j c];simp only[rs,bG];rw[AF,sN,aA om om];refine Tq j a c λw3 a=>?_;have g:(L.set j (rqE b s way (((p % 8:Nat):Int)+1) ((p / 8:Nat):Int)))[j]?=ax (rqE b s way (((p % 8:Nat):Int)+1) ((p / 8:Nat):Int)):=by rw[aoS d]
 rw[AF,sN,aaO a j g];simp only[rs,bG];by_cases l:((p % 8:Nat):Int)+1=8
 ·simp only[l,alK,i_t,rs,bG];rw[AF,sN];refine Tq j a g λx a=>?_;rw[aqN] at a;have i:(L.set j (rqE b s way 0 ((p / 8:Nat):Int)))[j]?=ax (rqE b s way 0 ((p / 8:Nat):Int)):=by rw[aoS d]
  rw[EO,aiS a j i];simp only[rs,bG];rw[EO,aA om om];refine MX j a i λq a=>?_;rw[aqN] at a;refine fin q ?_;have e:rqE b s way 0 (((p / 8:Nat):Int)+1)=bqE b s way (p+1):=by
   unfold rqE bqE bqC;rw[show (p+1) % 8=0 by omega,show (p+1) / 8=p / 8+1 by omega];rfl
  rw[<-e];exact a
 ·simp only[l,alL,i_f];refine fin w3 ?_;have e:rqE b s way (((p % 8:Nat):Int)+1) ((p / 8:Nat):Int)=bqE b s way (p+1):=by
   unfold rqE bqE bqC;rw[show (p+1) % 8=p % 8+1 by omega,show (p+1) / 8=p / 8 by omega];rfl
  rw[<-e];exact a
theorem Ei :DoX ah (mEq .eql 275 xo yo (.pointer (ax ⟨b,0,aw⟩)) (.pointer aw)) w PK K=K (.bool au) w:=aD krx
theorem Ub {s:List UInt8}(h:(bqE b s way p).is W)(hp:p<=8*s.length)(d:s.length<=1000000000):Ret ah 354 #[.pointer (ax ⟨b,0,aw⟩)] W (λv w'=>v=.int .i64 ((8*s.length - p:Nat):Int)∧Below W.heap.size W w'):=by
 refine aZ λK a=>zZ ?_;unfold rI nz;rw[Ei,i_f];have c:OwnS (bqE b s way p).blk W W [bqE b s way p]:=OwnS.lend h;refine dK (λw'=>(bqE b s way p).is w'∧Below W.heap.size W w') ⟨?_,?_⟩ ?_
 ·exact c.drew.at_ 0 rfl
 ·exact (Own.start W).drew.done
 refine q_do _ (λ_=>dL) (q_do _ (λ_=>bC Qy) (q_at _ (λW h=>KR h.1) (XM alV ?_)));refine q_do _ (λ_=>dL) (q_do _ (λ_=>bC IJ) (q_at _ (λW h=>tE h.1) (q_do _ (λ_=>rB) ?_)));rw[aA om om];refine q_do _ (λ_=>ZX) ?_;rw[aA om om];refine q_do _ (λ_=>dL) (q_do _ (λ_=>bC US) (q_do _ (λ_=>bC Ya) (q_at _ (λW h=>Ee h.1) (q_do _ (λ_=>rB) ?_))));rw[aA om om];intro w' hw;refine a _ _ ⟨?_,hw.2⟩
 congr 1
 omega
theorem tH {L:List α}{e:α}(h:L[j]?=ax e):L.set j e=L:=by
 refine List.ext_getElem? λi=>?_;by_cases hi:i=j
 ·subst hi;rw[aoS (alY.1 h).1,h]
 ·rw[aqO (Ne.symm hi)]
theorem afW {s:List UInt8}{n:Nat}(j:Nat)(a:OwnS S w0 w L)(g:L[j]?=ax (bqE b s way p))(hw:way=0∨way=1)(hp:p<=8*s.length)(D:n<=24)(q:s.length<=1000000000)
  (u:p+n<=8*s.length->∀W,OwnS S w0 W (L.set j (bqE b s (if 0 < n then 1 else way) (p+n)))->K (.tuple #[.int .i64 (Fl.num s p n),.int .i64 0]) W)
  (x:8*s.length < p+n->∀W,OwnS S w0 W L->K (.tuple #[.int .i64 0,.int .i64 4]) W):CallX ah 346 #[.pointer (ax ⟨b,0,aw⟩),.int .i64 (n:Int),.int .i64 1] w PK K:=by
 have h:j < L.length:=(alY.1 g).1;refine fG (Ac (k0:=RetK λv W=>(p+n<=8*s.length∧v=.tuple #[.int .i64 (Fl.num s p n),.int .i64 0]∧OwnS S w0 W (L.set j (bqE b s (if 0 < n then 1 else way) (p+n))))∨(8*s.length < p+n∧v=.tuple #[.int .i64 0,.int .i64 4]∧OwnS S w0 W L)) ?_) (λe W ⟨v,he,k⟩=>by
  subst he;rcases k with ⟨l,rfl,a⟩|⟨l,rfl,a⟩
  ·exact u l W a
  ·exact x l W a)
 unfold rU nz;rw[Ei];simp only[rs,show ai ((n:Int) < 0)=au from alJ om,show ai ((24:Int) < (n:Int))=au from alJ om,bG];rw[AF];refine aM a (R:=λv=>v=.bool au) (QS (a.at_ j g) hw) ?_;rintro _ w2 rfl a;simp only[rs];refine aM a (R:=λv=>v=.int .i64 ((8*s.length - p:Nat):Int)) (Ub (a.at_ j g) hp q) ?_;rintro _ w3 rfl a;simp only[rs];by_cases c:((8*s.length - p:Nat):Int) < (n:Int)
 ·simp only[c,alK,i_t];exact retK (.inr ⟨om,rfl,a⟩)
 simp only[c,alL,i_f];refine loop (λvs W=>∃i:Nat,vs=[.int .i64 (Fl.num s p i),.int .i64 i]∧i<=n∧OwnS S w0 W (L.set j (bqE b s way (p+i)))) (λvs _=>n - n1 vs) ⟨0,rfl,om,by rw[anF,tH g];exact a⟩ ?_;clear a;rintro vs y ⟨i,rfl,hi,a⟩ _;simp only[nT,gd,rs,nz];have d:(L.set j (bqE b s way (p+i)))[j]?=ax (bqE b s way (p+i)):=by rw[aoS h]
 by_cases f:(i:Int) < (n:Int)
 ·simp only[f,alK,i_t];refine join λJ m=>?_;refine ajD j a d om q λr a=>?_;rw[aqN] at a
  try simp only[rs,alK]
  rw[Fc om];have z:=Fl.St s (p+i);have k:=Fl.xA s p i;have A:2 ^ i<=2 ^ 24:=anN dc om;have B:(2:Nat) ^ 24=16777216:=dc
  have C:Fl.bit s (p+i)*2 ^ i<=2 ^ 24:=by
   have:Fl.bit s (p+i)*2 ^ i<=1*2 ^ i:=anC _ om;omega
  rw[show min ((i:Nat):Int).toNat IntKind.i64.bits=i by show min ((i:Nat):Int).toNat 64=i;omega];rw[show ((Fl.bit s (p+i):Nat):Int)*2 ^ i=((Fl.bit s (p+i)*2 ^ i:Nat):Int) by push_cast;rfl];rw[aA om om,b_or,Zn k z om];refine m _ _ λ_=>?_;simp only[oR,gd,rs,nz];rw[aA om om];exact aY ⟨i+1,by rw[Fl.num];rfl,om,a⟩ (by simp[n1,RowKit.intOf];omega)
 ·simp only[f,alL,i_f];have o:i=n:=om
  subst o;refine join λJ m=>?_;have fin:∀W,OwnS S w0 W (L.set j (bqE b s (if 0 < i then 1 else way) (p+i)))->J [] W:=by
   intro W a;refine m _ _ λ_=>?_;simp only[oU,nz];exact retK (.inl ⟨om,rfl,a⟩)
  by_cases t:0 < i
  ·rw[alH t] at fin;simp only[show ai ((0:Int) < (i:Int))=av from alM om,rs,bG];rw[AF,Jh];refine Z8 (way':=1) j a d λr a=>?_;rw[aqN] at a;exact fin r a
  ·rw[alG t] at fin;simp only[show ai ((0:Int) < (i:Int))=au from alJ om,rs];exact fin y a
theorem afI {s:List UInt8}{n:Nat}(j:Nat)(a:OwnS S w0 w L)(d:L[j]?=ax (bqE b s way p))(hw:way=0∨way=1)(hp:p<=8*s.length)(f:n<=24)(g:s.length<=1000000000)
  (h:p+n<=8*s.length->∀W,OwnS S w0 W (L.set j (bqE b s (if 0 < n then 1 else way) (p+n)))->K (.tuple #[.int .i64 (Fl.num s p n),.int .i64 0]) W)
  (i:8*s.length < p+n->∀W,OwnS S w0 W L->K (.tuple #[.int .i64 0,.int .i64 4]) W):CallX ah 332 #[.pointer (ax ⟨b,0,aw⟩),.int .i64 (n:Int)] w PK K:=by
 refine fG (Bk (k0:=RetK λv W=>(p+n<=8*s.length∧v=.tuple #[.int .i64 (Fl.num s p n),.int .i64 0]∧OwnS S w0 W (L.set j (bqE b s (if 0 < n then 1 else way) (p+n))))∨(8*s.length < p+n∧v=.tuple #[.int .i64 0,.int .i64 4]∧OwnS S w0 W L)) ?_) (λe W ⟨v,he,k⟩=>by
  subst he;rcases k with ⟨c,rfl,a⟩|⟨c,rfl,a⟩
  ·exact h c W a
  ·exact i c W a)
 unfold uR nz;refine afW j a d hw hp f g (λc W a=>?_) (λc W a=>?_)
 ·simp only[ex];exact retK (.inl ⟨c,rfl,a⟩)
 ·simp only[ex];exact retK (.inr ⟨c,rfl,a⟩)
end
end
end Go.Proofs.YtlipjfcbjemicaaGreatDoor
