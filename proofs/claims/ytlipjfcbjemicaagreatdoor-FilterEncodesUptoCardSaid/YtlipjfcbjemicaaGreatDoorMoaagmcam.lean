/- Parts of the proof. -/
import Derived.Test.YtlipjfcbjemicaaGreatDoorRows
import Derived.Test.YtlipjfcbjemicaaGreatDoorMginmiicb
set_option linter.all false
set_option maxRecDepth 20000
open Go.Proofs.Tryz
open Go.Proofs.Tryz renaming prog->ah
open Option renaming some->ax,none->aw
open Bool renaming true->av,false->au
open Go renaming Value->aq,World->ao
open Decidable renaming decide->ai
namespace Go.Proofs.YtlipjfcbjemicaaGreatDoor
variable{D T1 T2 U:TypeId}{K:VWP}{P:Program}{PK:PKT}{W w:ao}{a colors:Int}{above data key:List UInt8}{b cap d f h i mo:Nat}{cb:Array Bool}{cur:List aq}{k':IntKind}{ns:List (List UInt8)}{o:Ob}{rr:List gk}{v va vr:aq}{x:Pm}{xo yo:Operand}{t0 t1 t2:aq}{k0:Eng.KT}
section
open Eng Go.RowKit
theorem xd:∀{l:List bo} {out:List UInt8} {x:bo},jb out.length l->ic (gh out l).length x->jb out.length (l++[x])
|[],out,x,_,h=>⟨h,trivial⟩
|y::l,out,x,a,h=>by
  refine⟨a.1,?_⟩;have b:=a.2;rw[<-og] at b ⊢;exact xd b h
theorem Z0 (l:List bo)(out:List UInt8)(x:bo):gh out (l++[x])=ib (gh out l) x:=by
 unfold gh;rw[List.foldl_append];rfl
theorem qe:∀{n:Nat} {s:List UInt8} {a d:Nat},1<=d->d<=a->a+n<=s.length->(∀i,i < n->s[a - d+i]?=s[a+i]?)->jd d n (s.take a)=s.take (a+n)
|0,s,a,d,_,_,_,_=>rfl
|n+1,s,a,d,b,f,g,h=>by
  rw[jd];have c:(s.take a).length=a:=by rw[atF];omega
  have e:(s.take a).getD ((s.take a).length - d) 0=s[a]:=by
   rw[c,atD,avZ,asU om];have:=h 0 om;rw[auU,auU] at this;rw[this,atI om];rfl
  rw[e,<-auD om,qe b om om (λi hi=>by
   have:=h (i+1) om;rw[show a - d+(i+1)=a+1 - d+i by omega,show a+(i+1)=a+1+i by omega] at this;exact this)]
  congr 1;omega
def kd (s:List UInt8)(a:Nat)(x:bo):bo:=if x.2.1=0 then (s.getD a 0,x.2.1,x.2.2) else x
theorem zu {s:List UInt8}{a:Nat}{x:bo}(h:ki s a x):ic a (kd s a x):=by
 unfold ic kd;obtain⟨d,b⟩:=h;by_cases c:x.2.1=0
 ·simp only[asU c];rcases b with b|b
  ·exact b.2
  ·omega
 ·rw[asT c,asT c];rcases b with b|b
  ·exact absurd b.1 c
  ·exact⟨d,b.1,b.2.1,b.2.2.1,b.2.2.2.1,b.2.2.2.2.1⟩
theorem zw {s:List UInt8}{a:Nat}{x:bo}(h:ki s a x)(d:a < s.length):ib (s.take a) (kd s a x)=s.take (a+max x.2.1 1):=by
 unfold ib kd;obtain⟨j,c⟩:=h;by_cases b:x.2.1=0
 ·simp only[asU b];rw[b,atD,atI d];exact (auD d).symm
 ·simp only[asT b];rcases c with c|⟨k,l,e,m,f,g,i⟩
  ·exact absurd c.1 b
  ·rw[qe e f g i,Nat.max_eq_left om]
section
variable {w:ao}{PK:PKT}{K:VWP}{S:Nat->Prop}{w0:ao}{L T:List Ent}
theorem qf (a:cH S w0 w (ev b rr T)):cH S w0 w (T++ev b rr []):=by
 have a:cH S w0 w ((Ent.map b (gg rr)::rr.map ey)++T):=a;unfold ev;rw[atX];exact a.perm azJ
theorem xu (a:cH S w0 w (T++ev b rr [])):cH S w0 w (ev b rr T):=by
 unfold ev at a;rw[atX] at a;exact a.perm azJ
theorem aoF (x:bo)(a:cH S w0 w L)(k:∀b w',cH S w0 w' (ptE b x::L)->K (bR b 0 1 1) w'):DoX ah (aT 269 1 #[(0,ptV x)]) w PK K:=
 bI (λb=>bR b 0 1 1) (ptC x) 291 (λ_=>by kernel_rfl) a k
end
theorem elPt:elB ah 291 3 24=true:=krx
theorem Um (s:List UInt8)(M:Mem)(w:ao)(z:M.has w)(B:s.length<=1048576) :
  jJ ah 266 #[yV s] M w (λr N=>∃ps,SlA N.A N.w r 3 ps.length (ps.flatMap ptC)∧jb 0 ps∧gh [] ps=s∧ps.length<=s.length):=by
 refine aU z λK G=>EF ?_;unfold Ce nz;have o:(yV s)=ae s:=rfl;rw[o,cZ atB];simp only[rs,show ai ((1048576:Int) < (s.length:Int))=au from asZ om,i_f];have d:cH M.A w w [.mem M]:=cH.memS z;refine Sb (cH.nilU d 291 3) λb Q d=>?_;refine loop (λvs W=>∃(ps:List bo) (a:Nat) (rr:List gk) (v:aq),vs=[v,ad (a:Int)]∧a<=s.length∧ps.length<=a∧jb 0 ps∧gh [] ps=s.take a∧mc s a rr∧cH M.A w W (ev b rr [.urow 291 3 v ps.length (ps.flatMap ptC),.mem M])) (λvs _=>s.length - n1 vs)
  ⟨[],0,[],cO,rfl,om,sm,trivial,rfl,(λr H=>by cases H),d⟩ ?_
 clear d;rintro vs w2 ⟨ps,a,rr,v,rfl,I,L,j,f,k,d⟩ _;simp only[vT,gd,rs,nz];rw[cZ atB];simp only[rs];by_cases l:(a:Int) < (s.length:Int)
 case neg=>
  simp only[l,asW,i_f];have d:cH M.A w w2 (.urow 291 3 v ps.length (ps.flatMap ptC)::.mem M::ev b rr []):=qf d;obtain⟨N,g,p,d⟩:=cH.bV d 0 rfl;refine G _ _ N _ 0 d rfl g ⟨ps,p,j,?_,om⟩;rw[f,auG om]
 have i:a < s.length:=om
 simp only[l,asX,i_t];refine Xh (s:=s) d k I B λx w3 d q=>?_;refine VN d λC R d=>?_;refine OJ (y:=x) 0 d rfl λD d=>?_;have d:cH M.A w D (ptE C x::ev b rr [.urow 291 3 v ps.length (ps.flatMap ptC),.mem M]):=d;rw[aO Hy,pt_1 d 0 rfl,Br];refine join λJ O=>?_;rw[aO Hy,pt_1 d 0 rfl];simp only[rs];have m:ic a (kd s a x):=zu q;have hex:=zw q i;have hle:a+max x.2.1 1<=s.length:=by
  rcases q.2 with h|h
  ·omega
  ·have:=h.2.2.2.2.2.1;omega
 have t:(s.take a).length=a:=by rw[atF];omega
 have next:∀W,cH M.A w W (ptE C (kd s a x)::ev b rr [.urow 291 3 v ps.length (ps.flatMap ptC),.mem M])->J [] W:=by
  intro W d;refine O _ _ λ_=>?_;simp only[wZ,gd,rs,nz];rw[akE 0 d rfl];have d:cH M.A w W (ev b rr [.urow 291 3 v ps.length (ps.flatMap ptC),.mem M]):=d.tail;refine aoF (kd s a x) (qf d) λS E d=>?_;refine bL 1 aAx elPt dc d rfl (d.sl 0 rfl 3 1 1 rfl) Yc om om λv' P d=>?_;have d:cH M.A w P ([.urow 291 3 v' (ps.length+1) (ps.flatMap ptC++ptC (kd s a x)),.mem M]++ev b rr []):=d.tail
  try simp only[rs]
  rw[aA om om,show (a:Int)+max (x.2.1:Int) 1=((a+max x.2.1 1:Nat):Int) by omega];refine alP (s:=s) (xu d) k om hle B λu T d n=>?_;refine aS ⟨ps++[kd s a x],a+max x.2.1 1,u,v',rfl,hle,by rw[asY,avA];omega,?_,?_,n,?_⟩ (by simp[n1,RowKit.intOf];omega)
  ·exact xd (out:=[]) j (by rw[f,t];exact m)
  ·rw[Z0,f,hex]
  ·rw[asY,avA,ayZ,azU];exact d
 by_cases F:x.2.1=0
 ·simp only[show ai ((x.2.1:Int)=0)=av from atA om,i_t];rw[NW (c:=s[a]) atB om (by rw[atC,atI i]),aO Yw];refine aN 0 d rfl krx rfl (by show 0 < 3;decide) λE d=>?_;refine next E ?_
  have e:kd s a x=(s[a],x.2.1,x.2.2):=by
   unfold kd;rw[asU F,atD,atI i];rfl
  rw[e];exact d
 ·simp only[show ai ((x.2.1:Int)=0)=au from asZ om,i_f];refine next D ?_
  have e:kd s a x=x:=by unfold kd;rw[asT F]
  rw[e];exact d
end
section
open Eng
def Bx(t0 w)(K:KT):=nz f269 1 [] [] [] (zg [0] [t0]) w K
theorem Fg:Bx t0 w k0->Calls ah 269 #[t0] w k0:=cw func269
def gT(t0 w)(K:KT):=nz f303 1 [] [] [] (zg [0] [t0]) w K
theorem mW:gT t0 w k0->Calls ah 303 #[t0] w k0:=cw func303
def KE(t0 t1 w)(K:KT):=nz f191 1 [] [] [] (zg [0,1] [t0,t1]) w K
theorem Lj:KE t0 t1 w k0->Calls ah 191 #[t0,t1] w k0:=cw func191
end
section
open Eng Go.RowKit
theorem apZ:elB ah 5 1 1=true:=krx
theorem anV:(Tryz.prog.info? 5).map (·.size)=ax 1:=krx
theorem Y1 {dT sT ty T E:TypeId}{g n:Nat}{s:List UInt8}(hu:P.underlying dT=ax (.slice E))(c:(P.info? E).map (·.size)=ax 1)
  (j:w.heap[g]?=ax (.cells cur.toArray T (0,0))) (e:s.length=n) (f:cur.length=n) :
  (mB .copy #[dT,sT] ty cb #[bR g 0 n cap,ae s]).run P w=.ok (.value (goInt n)) (w.setRow g (aH s).toArray):=by
 have h:(aH s).length=n:=by rw[cS,e]
 have a:=run_storeCells_at P g 0 T (aH s) 0 cur.toArray w j (by rw[h];simp[f]) bN;simp only[auU,atK,awQ,auI] at a;rw[ayR (by rw[h];simp[f]),atX] at a;obtain⟨i,hi,k⟩:=avM.1 c;have b:List.take n (aH s)=aH s:=auG om;have d:(⟨s.toArray⟩:ByteArray).size=n:=by rw[dC,e]
 unfold aH at b a;simp[mB,builtin,Builtin.copy_,run_underlying hu,Builtin.lenOf,Builtin.firstCells,sizeOf,typeInfo,hi,k,a,d,b,aH]
theorem UT (s:List UInt8)(w:ao)(t:s.length<=1000000000):Ret ah 269 #[yV s] w (λv w'=>v=yV s∧Below w.heap.size w w'):=by
 refine aL λK l=>Fg ?_;unfold Bx nz;refine fY (mW (k0:=wM λv w'=>v=yV s∧Below w.heap.size w w') ?_) (λe W ⟨v,he,m,c⟩=>by subst he;subst m;exact l _ _ ⟨rfl,c⟩);unfold gT nz;rw[show yV s=ae s from rfl,cZ atB];simp only[rs];by_cases d:s=[]
 ·subst d;simp only[awI,show ai (((0:Nat):Int)=0)=av from rfl,i_t];exact vB ⟨rfl,Below.refl _ _⟩
 have u:0 < s.length:=awL.2 d;simp only[show ai ((s.length:Int)=0)=au from asZ om,i_f];rw[cZ atB];refine RF atM apZ om om (Own.start w) λg f y h c=>?_;rw[atY] at h;refine kW (Y1 atM anV (c.at_ 0 rfl) rfl h) ?_;have a:Own w (f.setRow g (aH s).toArray) [.cells g (aH s) 5]:=iX c 0 rfl _;generalize f.setRow g (aH s).toArray=w2 at a;refine aC (dP (P:=ah) (T:=53) (b:=g) (off:=0) (cap:=s.length) (n:=s.length) (k:=.i64) (i:=0) (w:=w2) atM anV om om) |>.mpr ?_;rw[bO atM];have o:w2.heap[g]?=ax (.cells (aH s).toArray 5 (0,0)):=a.at_ 0 rfl;have q:=Lib.run_unsafeString_row (P:=ah) w2 239 3 9 5 aAG krx g s.length (by unfold World.shape?;rw[o];simp[cS]) s d (atE _) om (λj x r=>by
  have:=a.cell 0 rfl j (Eng.fW r);rw[cK,atK];exact this)
 refine kW (show (mB .unsafeString #[239,3] 9 #[au,au] #[af g 0,ad s.length]).run ah w2=.ok (.value (ae s)) (w2.freeze ⟨g,0,aw⟩ s.length) by
  simp[mB,builtin,q]) ?_
 refine vB ⟨rfl,Lib.below_freeze a.done (p:=⟨g,0,aw⟩) ?_ _⟩;exact ((a.all _ (auB.2 rfl)).2 g rfl).elim (λx=>x.elim) id
theorem sr:∀(f:Nat) (s:List UInt8),(jg f s).length<=40*f+8*s.length
|0,s=>by unfold jg;simp
|f+1,s=>by
  unfold jg;split
  ·rw[kx];omega
  ·rw[asY,kx];have:=sr f (s.drop 65535);rw[atG] at this;rw[atF];omega
theorem aaa (s:List UInt8):(az (gz s)).length<=s.length+5*(s.length / 65535+1):=by
 have:=sr (s.length / 65535+1) s;rw[me];unfold gz;omega
theorem Z3 (s:List UInt8)(M:Mem)(w:ao)(n:M.has w)(o:s.length<=1048576) :
  jJ ah 235 #[yV s,ad 2] M w (λv _=>∃R,v=.tuple #[ae (az R),ad 0]∧br R∧jk R s∧(az R).length<=s.length+5*(s.length / 65535+1)):=by
 refine aU n λK r=>IH ?_;unfold Gl nz;have a:cH M.A w w [.mem M]:=cH.memS n;simp only[rs,gd,show ai ((2:Int) < 0)=au from rfl,show ai ((2:Int) < 2)=au from rfl,show ai ((2:Int)=0)=au from rfl,i_f];rw[show yV s=ae s from rfl,cZ atB];simp only[rs,show ai ((1048576:Int) < (s.length:Int))=au from asZ om,i_f];refine Yv a o λt a=>?_;refine bG a 0 rfl (Um s M t (a.hasM 0 rfl) o) ?_;rintro p N w2 g ⟨ps,h,d,i,u⟩ a;have a:cH M.A w w2 [.mem N]:=a;refine join λJ x=>?_;have next:∀(R:List Nat) (c:Mem) (W:ao),N.le c->cH M.A w W [.mem c]->br R->jk R s->(az R).length<=s.length+5*(s.length / 65535+1)->J [ae (az R)] W:=by
  intro R c W g2 a j k l;refine x _ _ λ_=>?_;simp only[gd];unfold Bq nz;refine join λy m=>?_;simp only[rs,asX,i_t];have last:∀(R:List Nat) (c:Mem) (W:ao),N.le c->cH M.A w W [.mem c]->br R->jk R s->(az R).length<=s.length+5*(s.length / 65535+1)->y [ae (az R)] W:=by
   intro R c W g2 a j k l;refine m _ _ λ_=>?_;simp only[gd];unfold AX nz;refine aJ a (UT (az R) W om) ?_;rintro _ C rfl a;exact r _ _ c _ 0 a rfl (g.trans g2) ⟨R,rfl,j,k,l⟩
  refine bG a 0 rfl (abK ps p c W (a.hasM 0 rfl) (h.le g2) d om) ?_;rintro _ e f g3 ⟨q,rfl,z,B⟩ a;have a:cH M.A w f [.mem e]:=a;rw[cZ atB,cZ atB];simp only[rs];by_cases b:((az q).length:Int) < ((az R).length:Int)
  ·simp only[b,asX,i_t];exact last q e f (g2.trans g3) a z (by rw[<-i];exact B) om
  ·simp only[b,asW,i_f];exact last R e f (g2.trans g3) a j k l
 refine bG a 0 rfl (Ve ps p N w2 (a.hasM 0 rfl) h d om) ?_;rintro _ e f g3 rfl a;have a:cH M.A w f [.mem e]:=a;rw[cZ atB,cZ atB];simp only[rs];have hle:=aaa s;by_cases b:((az (iy ps)).length:Int) < ((az (gz s)).length:Int)
 ·simp only[b,asX,i_t];exact next (iy ps) e f g3 a (J0 ps) (by rw[<-i];exact N0 d) om
 ·simp only[b,asW,i_f];exact next (gz s) e f g3 a (IT s) (I0 s) hle
theorem aab {R:List Nat}{s:List UInt8}(h:jk R s)(a:br R)(d:s.length<=1048576):ir ([120,156]++az R++bp (fq s)) 1048576=(s,0):=by
 have c:(bp (fq s)).length=4:=rfl;unfold ir;have hd:([120,156]++az R++bp (fq s)).drop 2=az R++bp (fq s):=rfl;have f:¬mf (([120,156]++az R++bp (fq s)).getD 0 0).toNat (([120,156]++az R++bp (fq s)).getD 1 0).toNat=true:=show ¬mf 120 156=av by decide
 rw[asT sm,asT f,hd,yu h a om d];simp only[];have g:([120,156]++az R++bp (fq s)).length=2+(az R).length+4:=by simp only[asY,c];simp
 have b:([120,156]++az R++bp (fq s)).drop (2+(az R).length)=bp (fq s):=by
  have e:2+(az R).length=([120,156]++az R:List UInt8).length:=by simp;omega
  rw[e,List.drop_left]
 rw[asT sm,asT (by rw[g];omega),b,asT (by rw[auG (Nat.le_of_eq c)];simp)]
theorem YG (s:List UInt8)(M:Mem)(w:ao)(b:M.has w)(c:s.length<=1048576) :
  jJ ah 191 #[yV s,ad 2] M w (λv _=>∃t,v=.tuple #[yV t,ad 0]∧ir t 1048576=(s,0)∧t.length<=s.length+s.length / 1000+16):=by
 refine aU b λK e=>Lj ?_;unfold KE nz;have a:cH M.A w w [.mem M]:=cH.memS b;refine bG a 0 rfl (Z3 s M w b c) ?_;rintro _ N d g ⟨R,rfl,f,h,i⟩ a;have a:cH M.A w d [.mem N]:=a;simp only[ex,eF,rs,show ai ((0:Int)≠0)=au from rfl,i_f];rw[show (Value.string ⟨#[120,156]⟩)=ae ([120,156]:List UInt8) from rfl,Pf (by simp;omega)];refine aJ a (Ts s d om) ?_;rintro _ w2 rfl a;refine aJ a (PD (fq s) w2) ?_;rintro _ w3 rfl a;rw[Pf (by simp[bp];omega)];exact e _ _ N _ 0 a rfl g ⟨_,rfl,aab h f c,by simp[bp];omega⟩
theorem adU {a b:UInt8}:IntKind.u8.wrap ((a.toNat:Int) - (b.toNat:Int))=((a - b).toNat:Int):=by
 unfold IntKind.wrap;have c:=a.toNat_lt;have d:=b.toNat_lt;simp only[IntKind.bits,IntKind.signed,UInt8.toNat_sub];simp;omega
theorem u8Sl {l:List UInt8}(a:Sl w v 1 l.length (aH l))(hi:i < l.length) :
  ∃p,(mIA 53 v (ad (i:Int))).run ah w=.ok (.value (.pointer (ax p))) w∧(aK 5 (.pointer (ax p))).run ah w=.ok (.value (.int .u8 (l[i].toNat:Int))) w:=by
 obtain⟨b,off,cap,rfl,c⟩:=bU a om;refine⟨⟨b,off+i,aw⟩,?_,?_⟩
 ·have:=dP (P:=ah) (T:=53) (b:=b) (off:=off) (cap:=cap) (n:=l.length) (k:=.i64) (i:=(i:Int)) (w:=w) atM (show (Tryz.prog.info? 5).map (·.size)=ax 1 by kernel_rfl) om om;rw[atC,atY] at this;exact this
 ·refine bB (AtV.cell M1 (c _ _ (fW hi)))
section
variable {w:ao}{PK:PKT}{K:VWP}{S:Nat->Prop}{w0:ao}{L:List Ent}
theorem Ta {tag:Int}{row:List UInt8}(a:cH S w0 w L)(r:∀W,cH S w0 W L->Sl W va 1 above.length (aH above))(f:∀W,cH S w0 W L->Sl W vr 1 row.length (aH row))(t:1<=colors∧colors<=1000000)(D:row.length<=1000000)
  (k:∀g W,cH S w0 W (.cells g (aH (cm tag above row colors)) 5::L)->K (bR g 0 row.length row.length) W) :
  dZ ah 233 #[rwV va vr colors,ad tag] w PK K:=by
 generalize s:cm tag above row colors=G at k;have u:G.length=row.length:=by rw[<-s,iz]
 refine⟨Ay ?_⟩;unfold rM nz;have v:va.oneCell'=true:=kT (r w a);have x:vr.oneCell'=true:=kT (f w a);have y:∀W:ao,(Hr 246 (rwV va vr colors)).run ah W=.ok (.value (af W.heap.size 0)) (W.alloc (.cells (rwC va vr colors).toArray 246)):=λW=>by
  cases va<;>first|(cases v;done)|skip
  all_goals cases vr<;>first|(cases x;done)|kernel_rfl
 refine bI (λb=>af b 0) (rwC va vr colors) 246 y a λb A a=>?_;refine aC (bC yZ) |>.mpr (aC (A3 (a.at_ 0 rfl)) |>.mpr ?_);rw[aZ atM (f A a.tail)];refine RF atM (show elB ah 5 1 1=av by kernel_rfl) om om a λg w2 c h a=>?_;rw[atY] at h;refine aC (bC yZ) |>.mpr (aC (A3 (a.at_ 1 rfl)) |>.mpr ?_);rw[aZ atM (f w2 a.tail.tail)];refine loop (λvs W=>∃(i:Nat) (c:List aq),vs=[ad (i:Int)]∧i<=row.length∧c.length+i=row.length∧cH S w0 W (.cells g (aH (G.take i)++c) 5::rwE b va vr colors::L)) (λvs _=>row.length - n0 vs) ⟨0,c,rfl,om,om,a⟩ ?_;clear a h c;rintro vs w3 ⟨i,c,rfl,hi,h,a⟩ _;simp only[oH,gd,rs,nz];by_cases j:(i:Int) < (row.length:Int)
 case neg=>
  simp only[j,asW,i_f];have:c=[]:=awO.1 om;subst this;rw[atX,auG om] at a;exact k g w3 ((cH.swap a).tail)
 have l:i < row.length:=om
 simp only[j,asX,i_t];obtain⟨p,m,o⟩:=u8Sl (f w3 a.tail.tail) l;rw[aC m,aC o,Jn (a.agg 1 rfl OC)];refine aJ a (SN tag above row va vr (i:Int) colors w3 om t (r w3 a.tail.tail) (f w3 a.tail.tail)) ?_;rintro _ B rfl a;rw[agU,adU];obtain⟨z,c,rfl⟩:∃z q,c=z::q:=by
  cases c with
 |nil=>simp at h;omega
 |cons z c=>exact⟨z,c,rfl⟩
 rw[atW] at h;refine aC (dP (P:=ah) (T:=53) (b:=g) (off:=0) (cap:=row.length) (n:=row.length) (k:=.i64) (i:=(i:Int)) (w:=B) atM (show (Tryz.prog.info? 5).map (·.size)=ax 1 by kernel_rfl) om om) |>.mpr ?_;rw[atC,atY,atK];have d:(aH (G.take i)).length=i:=by rw[cS,atF];omega
 refine aN 0 a rfl krx rfl (by rw[asY,d,atW];omega) λE a=>?_
 try simp only[rs]
 rw[aA om om];refine aS ⟨i+1,c,rfl,om,om,?_⟩ (by simp[n0,RowKit.intOf];omega);have C:G[i]'(om)=row[i] - du tag above row (i:Int) colors:=by
  have:=qt (tag:=tag) (above:=above) (colors:=colors) l;rw[s,atI om] at this;exact awT this
 have e:(aH (G.take i)++z::c).set i (.int .u8 ((row[i] - du tag above row (i:Int) colors).toNat:Int))=aH (G.take (i+1))++c:=by
  rw[List.set_append,asT (by rw[d];omega),d,avV,avN,auD om,iU,atJ,C];rfl
 rw[<-e];exact a
end
theorem K4 (l:List UInt8)(v:aq)(w:ao)(f:Sl w v 1 l.length (aH l))(j:l.length<=1000000):Ret ah 264 #[v] w (λr w'=>r=ad (dj l:Int)∧w=w'):=by
 refine aL λK g=>Ej ?_;unfold zA nz;rw[aZ atM f];have hle:∀i,dj (l.take i)<=256*i:=λi=>by
  unfold dj
  induction i with
 |zero=>simp
 |succ i h=>
   by_cases hi:i < l.length
   ·rw[auD hi,auJ,ayS];simp only[avC,axG,axA,List.sum_nil];have:=l[i].toNat_lt;omega
   ·rw[auG om] at h ⊢;omega
 refine loop (λvs W=>∃i:Nat,vs=[ad (dj (l.take i):Int),ad (i:Int)]∧i<=l.length∧W=w) (λvs _=>l.length - n1 vs) ⟨0,by rw[awQ];rfl,om,rfl⟩ ?_;rintro vs k ⟨i,rfl,hi,rfl⟩ _;simp only[uN,gd,rs,nz];have hw:=hle i;by_cases a:(i:Int) < (l.length:Int)
 case neg=>
  simp only[a,asW,i_f];rw[auG om];exact g _ _ ⟨rfl,rfl⟩
 have b:i < l.length:=om
 simp only[a,asX,i_t];obtain⟨p,c,d⟩:=u8Sl f b;have m:=l[i].toNat_lt;rw[aC c,aC d,GO,GO]
 try simp only[rs]
 rw[aA (n:=(256:Int) - _) om om,Ek]
 try simp only[rs]
 rw[aA (n:=_+min _ _) om om,aA om om];refine aS ⟨i+1,?_,om,rfl⟩ (by simp[n1,RowKit.intOf];omega);have e:dj (l.take (i+1))=dj (l.take i)+min l[i].toNat (256 - l[i].toNat):=by
  unfold dj;rw[auD b,auJ,ayS];simp
 rw[e]
 congr 2
 ·congr 1;omega
section
variable {w:ao}{PK:PKT}{K:VWP}{S:Nat->Prop}{w0:ao}{L:List Ent}
theorem akX {row:List UInt8}(c:cH S w0 w L)(n:∀W,cH S w0 W L->Sl W va 1 above.length (aH above))(o:∀W,cH S w0 W L->Sl W vr 1 row.length (aH row))(p:1<=colors∧colors<=1000000)(l:row.length<=1000000)
  (k:∀W,cH S w0 W L->K (ad (mg above row colors:Int)) W) :
  dZ ah 234 #[rwV va vr colors] w PK K:=by
 refine⟨AM ?_⟩;unfold qP nz;have r:va.oneCell'=true:=kT (n w c);have s:vr.oneCell'=true:=kT (o w c);have t:∀W:ao,(Hr 246 (rwV va vr colors)).run ah W=.ok (.value (af W.heap.size 0)) (W.alloc (.cells (rwC va vr colors).toArray 246)):=λW=>by
  cases va<;>first|(cases r;done)|skip
  all_goals cases vr<;>first|(cases s;done)|kernel_rfl
 refine bI (λb=>af b 0) (rwC va vr colors) 246 t c λb v c=>?_;have d:∀W,cH S w0 W (rwE b va vr colors::L)->Sl W va 1 above.length (aH above):=λW c=>n W c.tail;have e:∀W,cH S w0 W (rwE b va vr colors::L)->Sl W vr 1 row.length (aH row):=λW c=>o W c.tail;have f:∀{W:ao} {g:Nat} {tag:Int},cH S w0 W (.cells g (aH (cm tag above row colors)) 5::rwE b va vr colors::L)->Sl W (bR g 0 row.length row.length) 1 (cm tag above row colors).length (aH (cm tag above row colors)):=λc=>by
  have:=c.sl 0 rfl 1 row.length row.length (by rw[cS,iz,atY]);rw[iz];exact this
 rw[Jn (c.agg 0 rfl OC)];refine Ta (tag:=0) c d e p l λg w2 c=>?_;refine qE (K4 _ _ w2 (f c) (by rw[iz];exact l)) ?_;refine loop (λvs W=>∃k:Nat,vs=[ad ((ij above row colors k).1:Int),ad ((ij above row colors k).2:Int),ad ((k+1:Nat):Int)]∧k<=4∧cH S w0 W (rwE b va vr colors::L)) (λvs _=>5 - n2 vs) ⟨0,rfl,om,c.tail⟩ ?_;clear c;rintro vs w3 ⟨i,rfl,hi,c⟩ _;simp only[oL,gd,rs,nz];by_cases j:((i+1:Nat):Int) < 5
 case neg=>
  simp only[j,asW,i_f];obtain rfl:i=4:=om
  exact k w3 c.tail
 simp only[j,asX,i_t];refine join λJ u=>?_;rw[Jn (c.agg 0 rfl OC)];refine Ta (tag:=((i+1:Nat):Int)) c d e p l λg q c=>?_;refine qE (K4 _ _ q (f c) (by rw[iz];exact l)) ?_;have next:∀(a m:Nat),ij above row colors (i+1)=(a,m)->J [ad (a:Int),ad (m:Int)] q:=by
  intro a m h;refine u _ _ λ_=>?_;simp only[nR,gd,rs,nz];rw[aA om om];refine aS ⟨i+1,?_,om,c.tail⟩ (by simp[n2,RowKit.intOf];omega);rw[h];rfl
 try simp only[rs]
 by_cases hw:dj (cm ((i+1:Nat):Int) above row colors) < (ij above row colors i).2
 ·simp only[show ai ((dj (cm ((i+1:Nat):Int) above row colors):Int) < ((ij above row colors i).2:Int))=av from atA om,i_t];exact next (i+1) _ (by rw[ij,asU hw])
 ·simp only[show ai ((dj (cm ((i+1:Nat):Int) above row colors):Int) < ((ij above row colors i).2:Int))=au from asZ om,i_f];exact next _ _ (by rw[ij,asT hw])
theorem ZQ {n:Nat}(h:n<=10000000)(e:cH S w0 w L)(k:∀v w',cH S w0 w' (kQ v []::L)->K v w') :
  DoX ah (ID 53 (ad 0) (ad (n:Int))) w PK K:=by
 obtain⟨i,z,hi,f,a,b,g⟩:=jX (show elB ah 5 1 1=av by kernel_rfl);have c:=run_make (P:=ah) w 53 5 i z atM hi f .i64 .i64 (0:Int) (n:Int) om om (by rw[b];omega) om;rw[atC] at c;refine kW (bQ c) (k _ _ ?_);have d:=e.alloc (madeCells z.cells (n*i.size)).toList 5;rw[aAD] at d;exact cH.toU d 1 0 n (by rw[Array.length_toList,size_madeCells,a]) om om
end
def ik (x:Pm):List UInt8->List UInt8->Nat:=ju x.p x.c
def ct (x:Pm)(s:List UInt8):Int:=
 if ¬x.ok then 1
 else if 1048576 < s.length then 5
 else if x.p=1 then 0
 else if s.length % (x.c*x.n).toNat≠0 then 16
 else if 10<=x.p∧1048576 < s.length+s.length / (x.c*x.n).toNat then 5
 else 0
def bn (x:Pm)(s:List UInt8):List UInt8:=if x.p=1 then s else ez (ik x) x.c (x.c*x.n).toNat x.head (s.length+1) s []
theorem xe {s:List UInt8}(h:ct x s=0):fm x (bn x s)=(s,0)∧(bn x s).length<=1048576:=by
 unfold ct at h;by_cases d:x.ok
 case neg=>rw[asU d] at h;cases h
 rw[asT (by simp[d])] at h;by_cases r:1048576 < s.length
 ·rw[asU r] at h;cases h
 rw[asT r] at h;have k:=Pm.mul_pos d;obtain⟨n,u⟩:∃n:Nat,x.c*x.n=(n:Int):=⟨(x.c*x.n).toNat,om⟩;unfold fm bn;rw[u] at h k ⊢;rw[atC] at h ⊢;by_cases j:x.p=1
 ·simp only[asU j];rw[asT (by simp[d]),asT om];exact⟨rfl,om⟩
 rw[asT j] at h;simp only[asT j];by_cases l:s.length % n=0
 case neg=>rw[asU l] at h;cases h
 rw[asT (by simp[l])] at h;have g:0 < n:=om
 have m:s.length=s.length / n*n:=by
  have:=Nat.div_add_mod s.length n;rw[l,auU,awN] at this;exact this.symm
 have t:x.head=0∨x.head=1:=by unfold Pm.head;split<;>simp
 have hlen:=qu (T:=ik x) (c:=x.c) g t (s.length / n) (s.length+1) s [] m om;have i:x.p=2∨(10<=x.p∧x.p<=15):=by
  rcases d.1 with h|h|h
  ·exact absurd h j
  ·exact .inl h
  ·exact .inr h
 have e:=ud (T:=ik x) (c:=x.c) d.2.1 g t (λa b=>yl i x.c a b) (λo a b=>by
  unfold Pm.head at o;have:x.p=2:=by
   rcases i with h|h
   ·exact h
   ·rw[asU h.1] at o;cases o
  unfold ik ju;rw[asU this]) (s.length / n) (s.length+1) ((ez (ik x) x.c n x.head (s.length+1) s []).length+1) s [] [] m om (by
   rw[hlen];have:s.length / n*1<=s.length / n*(n+x.head):=Nat.mul_le_mul_left _ om;omega)
 have hle:(ez (ik x) x.c n x.head (s.length+1) s []).length<=1048576:=by
  rw[hlen,Nat.mul_add,<-m];have hd:x.head=if 10<=x.p then 1 else 0:=rfl
  by_cases f:10<=x.p
  ·rw[asU f] at hd;rw[hd,atY];refine Nat.le_of_not_lt λq=>?_;rw[asU ⟨f,q⟩] at h;cases h
  ·rw[asT f] at hd;rw[hd];omega
 refine⟨?_,hle⟩;rw[asT (by simp[d]),asT om,asT (by rw[hlen,Nat.mul_mod_left];simp),e];rfl
def M4 (r:List UInt8)(e:Int):Value:=.tuple #[ae r,ad e]
theorem TL {T:TypeId}(hd:Tryz.prog.underlying D=ax (.int .u8))(a:Tryz.prog.underlying T=ax (.int .i64))(n:Nat)(W:ao):(fZ T D (ad (n:Int))).run ah W=.ok (.value (.int .u8 ((UInt8.ofNat n).toNat:Int))) W:=by
 rw[<-uX];exact bA (by rw[a];rfl) hd
theorem Rh (x:Pm)(s:List UInt8)(w:ao)(hs:s.length<=1000000000):Ret ah 190 #[pmV x,ae s] w (λv w'=>v=M4 (if ct x s=0 then bn x s else []) (ct x s)∧Below w.heap.size w w'):=by
 refine aL λK B=>Ed ?_;generalize k:ct x s=X at B;unfold ct at k;unfold zW nz;refine Ar x (Own.start w) λb w1 d=>?_;rw[I6 d 0 rfl];refine aJ d (NG x w1) ?_;rintro _ w2 rfl d;rw[Br,I6 d 0 rfl];obtain⟨n,hn,b5,b6⟩:∃n:Nat,max (if x.ok then x.c*x.n else 0) 1=(n:Int)∧1<=n∧n<=8192:=by
  by_cases h:x.ok
  ·rw[asU h];have h1:=Pm.mul_pos h;have r:=h.2.2.2.2;exact⟨(x.c*x.n).toNat,om,om,om⟩
  ·rw[asT h];exact⟨1,dc,dc,dc⟩
 rw[hn];refine aJ d (Ew x s n w2 om hs) ?_;rintro _ w3 rfl d;simp only[eF];by_cases h:x.ok
 case neg=>
  rw[asU h] at k ⊢;simp only[show ai ((1:Int)≠0)=av from rfl,i_t];exact B _ _ ⟨by rw[<-k];rfl,d.done⟩
 rw[asT (by simp[h])] at k ⊢;have J:(x.c*x.n).toNat=n:=by
  rw[asU h] at hn;have h1:=Pm.mul_pos h;omega
 rw[J] at k;by_cases r:1048576 < s.length
 ·rw[asU r] at k ⊢;simp only[show ai ((5:Int)≠0)=av from rfl,i_t];exact B _ _ ⟨by rw[<-k];rfl,d.done⟩
 rw[asT r] at k ⊢;by_cases y:x.p=1
 ·rw[asT (by simp[y])];rw[asU y] at k;simp only[show ai ((0:Int)≠0)=au from rfl,i_f];rw[E9,EN d 0 rfl];simp only[y,rs,asX,i_t];exact B _ _ ⟨by rw[<-k];unfold bn;rw[asU rfl,asU y];rfl,d.done⟩
 rw[asT y] at k;by_cases L:s.length % n=0
 case neg=>
  rw[asU ⟨y,L⟩];rw[asU L] at k;simp only[show ai ((16:Int)≠0)=av from rfl,i_t];exact B _ _ ⟨by rw[<-k];rfl,d.done⟩
 rw[asT (by simp[L])];rw[asT (by simp[L])] at k;simp only[show ai ((0:Int)≠0)=au from rfl,i_f];rw[E9,EN d 0 rfl];simp only[y,rs,asW,i_f];have hdiv:s.length / n<=s.length:=axD _ _;obtain⟨q,hq⟩:∃q,s.length / n=q:=⟨_,rfl⟩;rw[hq] at k hdiv;have C:∀{PK:PKT} {K:VWP} {W:ao},DoX ah (iA .quo 3 (ad (s.length:Int)) (ad (n:Int))) W PK K=K (ad (q:Int)) W:=λ{PK K W}=>by
  rw[Ih om,show ((s.length:Nat):Int).tdiv (n:Int)=((s.length / n:Nat):Int) from rfl,hq,aA om om]
 have hc:1<=x.c∧x.c<=1000000:=⟨h.2.1,by have:=h.2.2.2.1;omega⟩;have b7:x.p=2∨(10<=x.p∧x.p<=15):=by
  rcases h.1 with h|h|h
  ·exact absurd h y
  ·exact .inl h
  ·exact .inr h
 have main:X=0->DoX ah (mB .len #[9] 3 #[au] #[ae s]) w3 (pk K) λt41 w=>
   DoX ah (mB .len #[9] 3 #[au] #[ae s]) w (pk K) λt43 w=>
   DoX ah (iA .quo 3 t43 (ad (n:Int))) w (pk K) λt45 w=>
   DoX ah (iA .add 3 t41 t45) w (pk K) λt46 w=>
   DoX ah (ID 53 (ad 0) t46) w (pk K) λt47 w=>
   DoX ah (mFA 27 (af b 0) 1) w (pk K) λt48 w=>
   DoX ah (aK 3 t48) w (pk K) λt49 w=>
   DoX ah (aW 246 #[(2,t49)]) w (pk K) λt50 w=>
   DoX ah (DO 246) w (pk K) λt9 w=>
   DoX ah (aV 246 t9 t50) w (pk K) λ_ w=>
   Ax [ae s,t47] w (λM w N1=>∀_:Sg,kZ (M.getD 0 undef) (af b 0) (ad (n:Int)) (M.getD 1 undef) t9 w N1 K):=by
  intro N;have m:∀W',Below w.heap.size w W'->K (.returned (M4 (bn x s) 0)) W':=λW' hB=>B _ _ ⟨by rw[asU N,N],hB⟩;clear B;unfold bn at m;rw[asT y,J] at m;rw[cZ atB,cZ atB,C]
  try simp only[rs]
  rw[aA om om,show (s.length:Int)+(q:Int)=((s.length+q:Nat):Int) by omega];refine ZQ om d λF w4 d=>?_;rw[fpm1,pm_1 d 1 rfl];have e:∀W:ao,(aW 246 #[(2,ad x.c)]).run ah W=.ok (.value (rwV cO cO x.c)) W:=λW=>by kernel_rfl
  refine aC (e w4) |>.mpr ?_;refine bI (λb=>af b 0) (rwC cO cO 0) 246 (λ_=>by kernel_rfl) d λo w5 d=>?_;refine jK 0 d rfl (new:=rwC cO cO x.c) szRw (YY rfl rfl) rfl λw6 d=>?_;have d:=d.nilU 5 1;have d:cH NoB w w6 [kQ cO [],rwE o cO cO x.c,kQ F [],pmE b x]:=d;have d:=d.perm (L':=[kQ F [],kQ cO [],rwE o cO cO x.c,pmE b x]) (by
   refine .trans (.cons _ (.swap _ _ _)) (.swap _ _ _))
  generalize z:ez (ik x) x.c n x.head (s.length+1) s []=E at m;refine loop (λvs W=>∃(t prev out:List UInt8) (ov va vr:aq) (e:Ent),vs=[ae t,ov]∧t.length<=s.length∧t.length % n=0∧out.length+2*t.length<=2*s.length∧prev.length<=1000000∧BRd e vr prev∧va.oneCell'=av∧(∃f,t.length < f∧out++ez (ik x) x.c n x.head f t prev=E)∧cH NoB w W [kQ ov out,e,rwE o va vr x.c,pmE b x]) (λvs _=>jC (vs.getD 0 undef)) ⟨s,[],[],F,cO,cO,_,rfl,om,L,sm,sm,λW h=>jR h,rfl,⟨s.length+1,om,by rw[auI];exact z⟩,d⟩ ?_;clear d z;rintro vs w6 ⟨t,prev,out,ov,va,vr,e,rfl,c0,a1,c1,c2,G,c3,⟨f,hf,z⟩,d⟩ _;simp only[kZ,gd,iN,dx,bnx,lnx];obtain⟨f,rfl⟩:∃f',f=f'+1:=⟨f - 1,om⟩;rw[ez] at z;rw[cZ atB]
  try simp only[rs]
  by_cases V:t=[]
  ·rw[asU V,atX] at z;simp only[show ai ((0:Int) < (t.length:Int))=au from asZ (by rw[V];decide),i_f];rw[vG atM atS atB (jR (d.at_ 0 rfl)),z];exact m _ d.done
  have c4:0 < t.length:=awL.2 V;rw[asT V] at z;simp only[show ai ((0:Int) < (t.length:Int))=av from atA om,i_t];have a6:n<=t.length:=Nat.le_of_dvd om (aAP a1);refine join λJ2 a7=>?_;have H:vr.oneCell'=true:=kT (G w6 (d.at_ 1 rfl));have l:(t.take n).length=n:=by rw[atF];omega
  generalize O:t.take n=row at z l;have Y:∀tag:Int,(cm tag prev row x.c).length=n:=λtag=>by rw[iz,l]
  -- behind a row
  have next:∀(i cap:Nat) (v':aq) (new:List UInt8) (W:ao),cH NoB w W [.mkr 5 i row,kQ v' (out++new),e,rwE o vr (bR i 0 n cap) x.c,pmE b x]->new.length<=2*n ->
    new=(if x.head=1 then [UInt8.ofNat (ik x prev row)] else [])++cm (ik x prev row:Nat) prev row x.c->J2 [v'] W:=by
   intro i cap v' new W d c5 P;refine a7 _ _ λ_=>?_;simp only[uF,gd,nz];rw[yY atB om om,atC];have Q:BRd (.mkr 5 i row) (bR i 0 n cap) row:=by
    have:=@Na i cap row
    rwa [l] at this
   have R:(t.drop n).length=t.length - n:=atG;refine aS ⟨t.drop n,row,out++new,v',vr,_,_,rfl,om,?_,by rw[asY];omega,om,Q,H,⟨f,om,?_⟩,?_⟩ ?_
   ·rw[R,aAQ a6] at *;omega
   ·rw[P,atJ,atJ];exact z
   ·exact (cH.swap d).sub (.cons_cons _ (.cons_cons _ (.cons _ (axE _))))
   ·show jC (ae (t.drop n)) < jC (ae t);rw[fG,fG,R];omega
  have fin:∀i cap W,cH NoB w W [.mkr 5 i row,kQ ov out,e,rwE o vr (bR i 0 row.length cap) x.c,pmE b x]->gY (af b 0) ov (af o 0) W J2 K:=by
   intro i cap W d;rw[l] at d;unfold gY iN ldx bnx fax ecx apx cx;have hA:∀W,cH NoB w W [.mkr 5 i row,kQ ov out,e,rwE o vr (bR i 0 n cap) x.c,pmE b x]->Sl W vr 1 prev.length (aH prev):=λW d=>G W (d.at_ 2 rfl);have hR:∀W,cH NoB w W [.mkr 5 i row,kQ ov out,e,rwE o vr (bR i 0 n cap) x.c,pmE b x]->Sl W (bR i 0 n cap) 1 row.length (aH row):=λW d=>by
    have:=UO (cap:=cap) (d.at_ 0 rfl);rw[l] at this ⊢;exact this
   rw[E9,EN d 4 rfl]
   try simp only[rs]
   have b4:2<=x.p∧x.p<=15:=om
   rw[aA om om];refine join λJ4 a8=>?_;rw[E9,EN d 4 rfl]
   try simp only[rs]
   by_cases r:x.p=2
   ·simp only[r,asX,i_t];rw[Jn (d.agg 3 rfl OC)];refine Ta (tag:=1) d hA hR hc om λg Z d=>?_;refine bL 2 atM I3 dc d rfl (d.sl 0 rfl 1 row.length row.length (by rw[cS,iz,atY])) bN om om λv' w8 d=>?_;have hT:ik x prev row=1:=by unfold ik ju;rw[asU r]
    have hh:¬x.head=1:=by unfold Pm.head;rw[asT om];decide
    refine next i cap v' (cm 1 prev row x.c) w8 ?_ (by rw[Y];omega) (by rw[asT hh,hT];rfl)
    rw[fD,Y,<-l];rw[<-l] at d;exact d.tail
   simp only[r,asW,i_f];have S:10<=x.p:=om
   have hh:x.head=1:=by unfold Pm.head;rw[asU S]
   have D:∀(tag:Nat) (W:ao),tag=ik x prev row->cH NoB w W [.mkr 5 i row,kQ ov out,e,rwE o vr (bR i 0 n cap) x.c,pmE b x]->J4 [ov,ad (tag:Int)] W:=by
    intro tag W U d;refine a8 _ _ λ_=>?_;simp only[sW,gd];have d:=d.drew;refine⟨λW=>(rwE o vr (bR i 0 n cap) x.c).is W,d.at_ 3 rfl,?_⟩;refine aI _ (λW=>TL atS auQ tag W) ?_;refine gJ (rwV vr (bR i 0 n cap) x.c) (λW h=>bB (AtV.agg OC (cs:=rwC vr (bR i 0 n cap) x.c) rfl λj u hj=>by rw[atK];exact aG (T:=246) h hj)) ?_;refine JA (UInt8.ofNat tag) d λb8 w9 d=>⟨d.at_ 4 rfl,?_⟩;refine bL 2 atM I3 dc d rfl (gS (d.at_ 0 rfl) dc rfl) bN om om λv' b0 d=>⟨d.at_ 4 rfl,?_⟩;have d:cH NoB w b0 [.mkr 5 i row,kQ v' (out++[UInt8.ofNat tag]),e,rwE o vr (bR i 0 n cap) x.c,pmE b x]:=by
     rw[fD];exact d.tail
    refine Ta (tag:=(tag:Int)) d (λW d=>G W (d.at_ 2 rfl)) (λW d=>by
     have:=UO (cap:=cap) (d.at_ 0 rfl);rw[l] at this ⊢;exact this) hc om λg c6 d=>⟨d.at_ 4 rfl,?_⟩
    refine bL 2 atM I3 dc d rfl (d.sl 0 rfl 1 row.length row.length (by rw[cS,iz,atY])) bN (by rw[asY,avA];omega) (by rw[asY,avA];omega) λb1 b3 d=>⟨d.at_ 4 rfl,?_⟩;refine next i cap b1 ([UInt8.ofNat tag]++cm (tag:Int) prev row x.c) b3 ?_ (by rw[asY,Y,avA];omega) (by rw[asU hh,U])
    rw[<-atJ,fD,Y,<-l];rw[<-l] at d;exact d.tail
   by_cases A:x.p=15
   ·simp only[A,asX,i_t];rw[Jn (d.agg 3 rfl OC)];refine akX d hA hR hc om λZ d=>?_;exact D _ Z (by unfold ik ju;rw[asT r,asU A]) d
   ·simp only[A,asW,i_f];rw[show x.p - 10=(((x.p - 10).toNat:Nat):Int) by omega];exact D _ W (by unfold ik ju;rw[asT r,asT A]) d
  have d:=d.drew;refine⟨λW=>∃a,(rwE o a vr x.c).is W,⟨va,d.at_ 2 rfl⟩,?_⟩;refine aI _ (λ_=>bC yZ) (gJ _ (λW ⟨a,h⟩=>A3 h) ?_);refine aI _ (λ_=>ZI atB om om) ?_;rw[atC,O];refine aI _ (λ_=>bC Sq) ⟨?_,?_⟩
  ·refine GN atB atM atS d λb cap Z d=>⟨⟨va,d.at_ 3 rfl⟩,?_⟩;refine aN 3 d rfl krx H (by show 0+0 < 3;omega) λw8 d=>?_;refine aI _ (λ_=>bC yZ) ?_;refine aN 3 d rfl krx rfl (by show 0+1 < 3;omega) λw9 d=>?_;exact fin b cap w9 d
  ·refine aN 2 d rfl krx H (by show 0+0 < 3;omega) λw8 d=>?_;refine GN atB atM atS d λb cap Z d=>⟨⟨vr,d.at_ 3 rfl⟩,?_⟩;refine aI _ (λ_=>bC yZ) ?_;refine aN 3 d rfl krx rfl (by show 0+1 < 3;omega) λw9 d=>?_;exact fin b cap w9 d
 rw[E9,EN d 0 rfl]
 try simp only[rs]
 by_cases I:10<=x.p
 ·simp only[I,asX,gd,rs];rw[cZ atB,cZ atB,C]
  try simp only[rs]
  rw[aA om om];by_cases h5:1048576 < s.length+q
  ·rw[asU ⟨I,h5⟩] at k;simp only[show ai ((1048576:Int) < (s.length:Int)+(q:Int))=av from atA om,i_t];exact B _ _ ⟨by rw[<-k];rfl,d.done⟩
  ·rw[asT om] at k;simp only[show ai ((1048576:Int) < (s.length:Int)+(q:Int))=au from asZ om,i_f];exact main k.symm
 ·rw[asT om] at k;simp only[I,asW,gd,rs,i_f];exact main k.symm
theorem Po (x:Pm)(f:x.p=1)(s:List UInt8)(w:ao)(l:s.length<=1000000000):Ret ah 193 #[pmV x,ae s] w (λv w'=>v=zlT (fm x s)∧Below w.heap.size w w'):=by
 refine aL λK e=>sK ?_;generalize d:fm x s=X at e;unfold fm at d;unfold oT nz;refine Ar x (Own.start w) λb m a=>?_;rw[I6 a 0 rfl];refine aJ a (NG x m) ?_;rintro _ w2 rfl a;rw[Br];refine join λJ o=>?_;rw[E9,EN a 0 rfl]
 try simp only[rs]
 have main:J [ad (x.head:Int)] w2:=by
  refine o _ _ λ_=>?_;simp only[lH,gd,nz];rw[I6 a 0 rfl];have j:x.head<=1:=by unfold Pm.head;split<;>omega
  obtain⟨n,k,q,r⟩:∃n:Nat,max (if x.ok then x.c*x.n else 0) 1=(n:Int)∧1<=n∧n<=8192:=by
   by_cases h:x.ok
   ·rw[asU h];have t:=Pm.mul_pos h;have g:=h.2.2.2.2;exact⟨(x.c*x.n).toNat,om,om,om⟩
   ·rw[asT h];exact⟨1,dc,dc,dc⟩
  rw[k]
  try simp only[rs]
  rw[aA om om,show (n:Int)+(x.head:Int)=((n+x.head:Nat):Int) by omega];refine aJ a (Ew x s (n+x.head) w2 om l) ?_;rintro _ w3 rfl a;simp only[eF];by_cases h:x.ok
  case neg=>
   rw[asU h] at d ⊢;simp only[show ai ((1:Int)≠0)=av from rfl,i_t];exact e _ _ ⟨by rw[<-d];rfl,a.done⟩
  rw[asT (by simp[h])] at d ⊢;have i:(x.c*x.n).toNat=n:=by
   rw[asU h] at k;have t:=Pm.mul_pos h;omega
  rw[i] at d;by_cases g:1048576 < s.length
  ·rw[asU g] at d ⊢;simp only[show ai ((5:Int)≠0)=av from rfl,i_t];exact e _ _ ⟨by rw[<-d];rfl,a.done⟩
  rw[asT g] at d ⊢
  ·rw[asT (by simp[f])];rw[asU f] at d;simp only[show ai ((0:Int)≠0)=au from rfl,i_f];rw[E9,EN a 0 rfl];simp only[f,rs,asX,i_t];exact e _ _ ⟨by rw[<-d];rfl,a.done⟩
 have j:x.head=0:=by unfold Pm.head;rw[asT om]
 rw[j] at main;simp only[show ai ((10:Int)<=x.p)=au from asZ om,i_f];exact main
def PdR (x:Pm):Prop:=∀(s:List UInt8) (w:ao),s.length<=1000000000->Ret ah 193 #[pmV x,ae s] w (λv w'=>v=zlT (fm x s)∧Below w.heap.size w w')
def PeR (x:Pm):Prop:=∀(s:List UInt8) (w:ao),s.length<=1000000000->Ret ah 190 #[pmV x,ae s] w (λv w'=>v=M4 (if ct x s=0 then bn x s else []) (ct x s)∧Below w.heap.size w w')
theorem pdR (x:Pm):PdR x:=Q5 x
theorem peR (x:Pm):PeR x:=Rh x
theorem pdR1 (h:x.p=1):PdR x:=Po x h
theorem xf (c:Int)(n h:Nat):∀(f:Nat) (s prev out:List UInt8),(lg c n h f s prev out).1.length<=out.length+s.length
|0,_,_,_=>atU _
|f+1,s,prev,out=>by
  unfold lg;split
  ·exact Nat.le_add_right _ _
  generalize (if h=1 then (s.getD 0 0).toNat else 1:Nat)=tag;split
  ·exact atU _
  dsimp only;have a:(ep (tag:Int) prev c [] ((s.drop h).take n)).length=min n (s.length - h):=by
   rw[qp,atF,atG];simp
  generalize ep (tag:Int) prev c [] ((s.drop h).take n)=row at a;have:=xf c n h f (s.drop (n+h)) row (out++row);rw[asY,atG] at this;omega
theorem aac (x:Pm)(s:List UInt8):(fm x s).1.length<=s.length:=by
 unfold fm;split
 ·exact atU _
 split
 ·exact atU _
 split
 ·exact atE _
 split
 ·exact atU _
 ·have:=xf x.c (x.c*x.n).toNat x.head (s.length+1) s [] [];simpa using this
namespace Ff
def Hh (n:List UInt8)(p:Pm)(s:List UInt8):List UInt8×Int:=
 if full n=nHx then mi s 1048576
 else if full n=n85 then oe s 1048576
 else if full n=nRL then od s 1048576
 else if full n=nFl then
  if ¬p.ok then ([],1)
  else if (ir s 1048576).2≠0 then ([],(ir s 1048576).2)
  else fm p (ir s 1048576).1
 else ([],15)
def chain:List (List UInt8)->List Pm->List UInt8->List UInt8×Int
|n::ns,p::ps,s=>if (Hh n p s).2≠0 then ([],(Hh n p s).2) else chain ns ps (Hh n p s).1
|_,_,s=>(s,0)
def decode (o:Ob):List UInt8×Int:=if (of o).2.2≠0 then ([],(of o).2.2) else chain (of o).1 (of o).2.1 o.s
theorem ajX {o:Ob}:(of o).2.1.length=(of o).1.length:=by
 unfold of;by_cases b:o.k≠9
 ·rw[asU b];rfl
 rw[asT b];by_cases c:(names o).2≠0
 ·rw[asU c];rfl
 rw[asT c];by_cases a:(vL o (names o).1.length).2≠0
 ·rw[asU a];rfl
 rw[asT a];split
 ·rfl
 ·exact PY (Decidable.not_not.1 a)
end Ff
theorem U1:bY ah 173=true:=krx
theorem Md:bY ah 171=true:=krx
theorem Pe:bY ah 122=true:=krx
theorem Q4:bY ah 116=true:=krx
theorem OW:bY ah 118=true:=krx
theorem QZ:bY ah 120=true:=krx
theorem nFnU:eP ah 94=true:=krx
theorem nFnS:eP ah 36=true:=krx
theorem nFnW:eP ah 89=true:=krx
theorem X6:kC ah 91 0=ax 0:=krx
theorem aeB:kC ah 91 1=ax 1:=krx
theorem NA:(Tryz.prog.info? 91).map (·.size)=ax 2:=krx
theorem XO:I2 ah 91=ax 2:=krx
theorem aoY:I2 ah 143=ax 3:=krx
theorem szFt:(Tryz.prog.info? 143).map (·.size)=ax 3:=krx
theorem acE:kC ah 143 0=ax 0:=krx
def fnV (f:Nat):Value:=.func (.func f) #[] #[]
def CW (b:Nat):Value:=.func (.func 173) #[] #[af b 0]
def AR (b:Nat):Value:=.func (.func 171) #[] #[af b 0]
def Ns (x:Pm):Value:=.func (.func 121) #[pmV x] #[]
def yU (x:Pm):Value:=.func (.func 122) #[pmV x] #[]
abbrev upE (b f:Nat):Ent:=.cells b [fnV f] 94
abbrev PQ (b f:Nat):Ent:=.cells b [fnV f] 36
def wyC (p u:aq):List Value:=[p,u]
abbrev wyE (b:Nat)(p u:aq):Ent:=.cells b (wyC p u) 91
section
variable {w:ao}{PK:PKT}{K:VWP}{S:Nat->Prop}{w0:ao}{L:List Ent}
theorem Xq (a:cH S w0 w L)(k:∀b W,cH S w0 W (upE b f::L)->K (CW b) W):dZ ah 115 #[.func (.func f) #[] #[]] w PK K:=by
 refine fY (Iz (k0:=wM λv W=>∃b,v=CW b∧cH S w0 W (upE b f::L)) ?_) (λe W ⟨v,he,b,c,a⟩=>by subst he;subst c;exact k b W a);unfold Gp nz;refine bI (λb=>af b 0) [fnV f] 94 (λ_=>by kernel_rfl) a λb d a=>?_;rw[AQ];exact vB ⟨b,rfl,a⟩
theorem WR (a:cH S w0 w L)(k:∀b W,cH S w0 W (PQ b f::L)->K (AR b) W):dZ ah 113 #[.func (.func f) #[] #[]] w PK K:=by
 refine fY (Ij (k0:=wM λv W=>∃b,v=AR b∧cH S w0 W (PQ b f::L)) ?_) (λe W ⟨v,he,b,c,a⟩=>by subst he;subst c;exact k b W a);unfold Gg nz;refine bI (λb=>af b 0) [fnV f] 36 (λ_=>by kernel_rfl) a λb d a=>?_;rw[AQ];exact vB ⟨b,rfl,a⟩
theorem afG {fn fn2:Fn}{a b a2 c:Array aq}:DoX ah (aW 91 #[(0,.func fn a b),(1,.func fn2 a2 c)]) w PK K=K (.agg (wyC (.func fn a b) (.func fn2 a2 c)).toArray) w:=aC krx
theorem afV {n:List UInt8}(e:cH S w0 w L)
  (r:∀(f g:Nat),(Ff.full n=Ff.nHx∧f=114∧g=116)∨(Ff.full n=Ff.n85∧f=117∧g=118)∨(Ff.full n=Ff.nRL∧f=119∧g=120)->∀j i W,cH S w0 W (upE i g::PQ j f::L)->K (.tuple #[.agg (wyC (AR j) (CW i)).toArray,ad 0]) W)
  (z:Ff.full n=Ff.nFl->∀W,cH S w0 W L->K (.tuple #[.agg (wyC (Ns x) (yU x)).toArray,ad (if x.ok then 0 else 1)]) W)
  (A:Ff.full n=[]->∀W,cH S w0 W L->K (.tuple #[.agg (wyC .nilFunc .nilFunc).toArray,ad 15]) W):dZ ah 54 #[ae n,pmV x] w PK K:=by
 refine⟨Lk ?_⟩;unfold Kj nz;refine Ar x e λs G e=>?_;refine bI (λb=>af b 0) (wyC .nilFunc .nilFunc) 91 (λ_=>by kernel_rfl) e λt w2 e=>?_;refine qE (FM n w2) ?_;simp only[ex,rs];have one:∀{fn fn2:Fn} {a b a2 i:Array aq},∀u∈wyC (.func fn a b) (.func fn2 a2 i),u.oneCell'=true:=by
  intro fn fn2 a b a2 i u hu;simp only[wyC,atL,avO,or_false] at hu;rcases hu with rfl|rfl<;>rfl
 have fr:∀{W:ao} {a b c d:Ent},cH S w0 W (a::b::c::d::L)->cH S w0 W (a::b::L):=λe=>e.sub (.cons_cons _ (.cons_cons _ (.cons _ (.cons _ (axE _)))));have B:=Ff.jA n;by_cases l:Ff.full n=[]
 ·simp only[asZ (show ¬Ff.full n≠[] fromλh=>h l),auN,i_t];refine aC (show (aW 91 #[]).run ah w2=.ok (.value (.agg (wyC .nilFunc .nilFunc).toArray)) w2 by kernel_rfl) |>.mpr ?_;refine jK 0 e rfl (new:=wyC .nilFunc .nilFunc) NA (λu hu=>by
   simp only[wyC,atL,avO,or_false] at hu;rcases hu with rfl|rfl<;>rfl) rfl λw3 e=>?_
  exact F3 (bJ (e.agg 0 rfl XO)) K5 (A l w3 e.tail.tail)
 simp only[atA (show Ff.full n≠[] from l),auO,i_f];by_cases m:Ff.full n=Ff.nHx
 ·simp only[atA m,i_t];refine WR e λj w3 e=>?_;refine Xq e λi o e=>?_;unfold AR CW;rw[afG];refine jK 2 e rfl (new:=wyC (AR j) (CW i)) NA one rfl λk e=>?_;exact F3 (bJ (e.agg 2 rfl XO)) K5 (r _ _ (.inl ⟨m,rfl,rfl⟩) j i k (fr e))
 simp only[asZ m,i_f]
 try simp only[rs]
 by_cases p:Ff.full n=Ff.n85
 ·simp only[atA p,i_t];refine WR e λj w3 e=>?_;refine Xq e λi o e=>?_;unfold AR CW;rw[afG];refine jK 2 e rfl (new:=wyC (AR j) (CW i)) NA one rfl λk e=>?_;exact F3 (bJ (e.agg 2 rfl XO)) K5 (r _ _ (.inr (.inl ⟨p,rfl,rfl⟩)) j i k (fr e))
 simp only[asZ p,i_f]
 try simp only[rs]
 by_cases q:Ff.full n=Ff.nRL
 ·simp only[atA q,i_t];refine WR e λj w3 e=>?_;refine Xq e λi o e=>?_;unfold AR CW;rw[afG];refine jK 2 e rfl (new:=wyC (AR j) (CW i)) NA one rfl λk e=>?_;exact F3 (bJ (e.agg 2 rfl XO)) K5 (r _ _ (.inr (.inr ⟨q,rfl,rfl⟩)) j i k (fr e))
 simp only[asZ q,i_f];have C:Ff.full n=Ff.nFl:=by
  rcases B with h|h|h|h|h
  ·exact absurd h m
  ·exact absurd h p
  ·exact absurd h q
  ·exact h
  ·exact absurd h l
 rw[I6 e 1 rfl];refine aC (show (aW 143 #[(0,pmV x)]).run ah w2=.ok (.value (.agg (pmC x).toArray)) w2 by kernel_rfl) |>.mpr ?_;refine bI (λb=>af b 0) (pmC ⟨0,0,0⟩) 143 (λ_=>by kernel_rfl) e λy w3 e=>?_;refine jK 0 e rfl (new:=pmC x) szFt Ol rfl λo e=>?_;have e:cH S w0 o (.cells y (pmC x) 143::wyE t .nilFunc .nilFunc::pmE s x::L):=e;refine cQ (λW=>cH S w0 W (.cells y (pmC x) 143::wyE t .nilFunc .nilFunc::pmE s x::L)) e.drew ?_;refine iL (pmV x) (λW h=>bB (h.agg 0 rfl aoY)) ?_;refine gr (Ns x) (λ_=>bQ rfl) ?_;refine iL (pmV x) (λW h=>bB (h.agg 0 rfl aoY)) ?_;refine gr (yU x) (λ_=>bQ rfl) ?_;refine gr (.agg (wyC (Ns x) (yU x)).toArray) (λ_=>by kernel_rfl) ?_;refine iL (pmV x) (λW h=>bB (h.agg 2 rfl Ep)) ?_;refine iH _ (λW h=>(L8 x W).mono λv w' ⟨D,E⟩=>⟨D,h.grow E⟩) ?_;intro k e;refine jK 1 e rfl (new:=wyC (Ns x) (yU x)) NA one rfl λF e=>?_;exact F3 (bJ (e.agg 1 rfl XO)) K5 (z C F e.tail.tail.tail)
end
theorem VX (b f:Nat)(s:List UInt8)(D:List UInt8×Int)(M:Mem)(w:ao)(hp:bY ah f=av)(c:(upE b f).is w)(a:M.has w)
  (h:jJ ah f #[ae s,ad 1048576] M w (λv _=>v=zlT D∧D.1.length<=1048576)):jJ ah 173 #[ae s,af b 0] M w (λv _=>v=zlT D∧D.1.length<=1048576):=by
 refine aU a λK d=>FU ?_;unfold AW nz;rw[aR nFnU (aG (T:=94) (cs:=[fnV f]) c (i:=0) rfl)];unfold fnV;refine IC hp (bG (cH.memS a) 0 rfl h ?_);rintro _ N j g1 ⟨rfl,e⟩ g;simp only[zlT,ex];exact d _ _ N _ 0 g rfl g1 ⟨rfl,e⟩
theorem Rq (x:Pm)(k:PdR x)(s:List UInt8)(M:Mem)(w:ao)(f:Rp M)(g:Od M)(l:s.length<=1000000000)(i:M.has w) :
  jJ ah 122 #[pmV x,ae s] M w (λv _=>v=zlT (if (ir s 1048576).2≠0 then ([],(ir s 1048576).2) else fm x (ir s 1048576).1)∧(ir s 1048576).1.length<=1048576):=by
 refine aU i λK c=>xI ?_;unfold oF nz;refine bI (λb=>af b 0) (pmC x) 143 (λ_=>by kernel_rfl) (cH.memS i) λo m a=>?_;refine bG a 1 rfl (RL s 1048576 M m f g l (a.hasM 1 rfl)) ?_;rintro _ N w2 g1 ⟨rfl,d⟩ a;generalize ir s 1048576=U at c d;obtain⟨t,e⟩:=U;dsimp only at c d;simp only[zlT,ex,eF];by_cases he:e=0
 case neg=>
  rw[asU he] at c;simp only[atA (show e≠0 from he),i_t];exact c _ _ N _ 1 a rfl g1 ⟨rfl,d⟩
 rw[asT (λh=>h he)] at c;simp only[asZ (show ¬e≠0 fromλh=>h he),i_f];rw[aO acE,Jn (T:=27) (v:=pmV x) (AtV.agg Ep (cs:=pmC x) rfl λj u n=>by rw[auU,atK];exact a.cell 0 rfl j n)];refine aJ a (k t w2 om) ?_;rintro _ w3 rfl a;simp only[zlT,ex];exact c _ _ N _ 1 a rfl g1 ⟨rfl,d⟩
def UdA (n:List UInt8)(x:Pm):Prop:=∀(f g:Nat),(Ff.full n=Ff.nHx∧f=114∧g=116)∨(Ff.full n=Ff.n85∧f=117∧g=118)∨(Ff.full n=Ff.nRL∧f=119∧g=120)->∀(s:List UInt8) (M:Mem) (w:ao),Pws M->s.length<=1000000000->M.has w ->
 ∃_:bY ah g=av,jJ ah g #[ae s,ad 1048576] M w (λv _=>v=zlT (Ff.Hh n x s)∧(Ff.Hh n x s).1.length<=1048576)
theorem udA (n:List UInt8)(x:Pm):UdA n x:=by
 intro f g b s M w c d e;generalize a:Ff.Hh n x s=X;unfold Ff.Hh at a;rcases b with ⟨h,_,rfl⟩|⟨h,_,rfl⟩|⟨h,_,rfl⟩
 ·rw[asU h] at a;subst a;exact⟨Q4,Ue s 1048576 M w d e⟩
 ·rw[asT (by rw[h];decide),asU h] at a;subst a;exact⟨OW,Ri s 1048576 M w c d e⟩
 ·rw[asT (by rw[h];decide),asT (by rw[h];decide),asU h] at a;subst a;exact⟨QZ,UL s 1048576 M w d e⟩
theorem R3 (n:List UInt8)(x:Pm)(H:PdR x)(I:UdA n x)(s:List UInt8)(M:Mem)(w:ao)(o:Rp M)(q:Od M)(r:Pws M)(D:s.length<=1000000000)(E:M.has w) :
  jJ ah 15 #[ae n,pmV x,ae s] M w (λv _=>v=zlT (Ff.Hh n x s)∧(Ff.Hh n x s).1.length<=1048576):=by
 refine aU E λK i=>Ix ?_;generalize c:Ff.Hh n x s=X at i;have t:=c;unfold Ff.Hh at c;unfold Gm nz;refine Ar x (cH.memS E) λF L a=>?_;rw[I6 a 0 rfl];have d:∀{p u:aq},p.oneCell'=av->u.oneCell'=av->∀y∈wyC p u,y.oneCell'=true:=by
  intro p u hp hu y G;simp only[wyC,atL,avO,or_false] at G;rcases G with rfl|rfl<;>assumption
 refine afV a (λf g z B k w2 a=>?_) (λe w2 a=>?_) (λe w2 a=>?_)
 ·simp only[ex];refine bI (λb=>af b 0) (wyC .nilFunc .nilFunc) 91 (λ_=>by kernel_rfl) a λl w3 a=>?_;refine jK 0 a rfl (new:=wyC (AR B) (CW k)) NA (d rfl rfl) rfl λh a=>?_;have a:cH M.A w h [wyE l (AR B) (CW k),upE k g,PQ B f,pmE F x,.mem M]:=a;simp only[eF,show ai ((0:Int)≠0)=au from rfl,i_f];rw[aO aeB,aR nFnW (a.cell 0 rfl 1 rfl)];have j:=a.hasM 4 rfl;have key:=I f g z s M h r D j;rw[t] at key;obtain⟨hp,key⟩:=key;unfold CW;refine IC U1 (bG a 4 rfl (VX k g s X M h hp (a.at_ 1 rfl) j key) ?_);rintro _ N J g1 ⟨rfl,C⟩ a;simp only[zlT,ex];exact i _ _ N _ 4 a rfl g1 ⟨rfl,C⟩
 ·rw[asT (by rw[e];decide),asT (by rw[e];decide),asT (by rw[e];decide),asU e] at c;simp only[ex];refine bI (λb=>af b 0) (wyC .nilFunc .nilFunc) 91 (λ_=>by kernel_rfl) a λl w3 a=>?_;refine jK 0 a rfl (new:=wyC (Ns x) (yU x)) NA (d rfl rfl) rfl λh a=>?_;have a:cH M.A w h [wyE l (Ns x) (yU x),pmE F x,.mem M]:=a;simp only[eF];by_cases m:x.ok
  case neg=>
   rw[asU m] at c;simp only[asT m,show ai ((1:Int)≠0)=av from rfl,i_t];exact i _ _ M _ 2 a rfl M.le_refl ⟨by rw[<-c];rfl,by rw[<-c];exact atU _⟩
  rw[asT (by simp[m])] at c;simp only[asU m,show ai ((0:Int)≠0)=au from rfl,i_f];rw[aO aeB,aR nFnW (a.cell 0 rfl 1 rfl)];unfold yU;refine IC Pe (bG a 2 rfl (Rq x H s M h o q D (a.hasM 2 rfl)) ?_);rintro _ N J g1 ⟨rfl,C⟩ a;rw[c];simp only[zlT,ex];refine i _ _ N _ 2 a rfl g1 ⟨rfl,?_⟩;rw[<-c];split
  ·exact atU _
  ·exact avH (aac _ _) C
 ·rw[asT (by rw[e];decide),asT (by rw[e];decide),asT (by rw[e];decide),asT (by rw[e];decide)] at c;simp only[ex];refine bI (λb=>af b 0) (wyC .nilFunc .nilFunc) 91 (λ_=>by kernel_rfl) a λl w3 a=>?_;refine jK 0 a rfl (new:=wyC .nilFunc .nilFunc) NA (d rfl rfl) rfl λh a=>?_;simp only[eF,show ai ((15:Int)≠0)=av from rfl,i_t];exact i _ _ M _ 2 a rfl M.le_refl ⟨by rw[<-c];rfl,by rw[<-c];exact atU _⟩
theorem TN (n:List UInt8)(x:Pm)(d:PdR x)(s:List UInt8)(M:Mem)(w:ao)(a:Rp M)(b:Od M)(c:Pws M)(e:s.length<=1000000000)(f:M.has w) :
  jJ ah 15 #[ae n,pmV x,ae s] M w (λv _=>v=zlT (Ff.Hh n x s)∧(Ff.Hh n x s).1.length<=1048576):=
 R3 n x d (udA n x) s M w a b c e f
theorem aad {ps:List Pm}(a:i < ns.length)(b:i < ps.length)(s:List UInt8) :
  Ff.chain (ns.drop i) (ps.drop i) s=if (Ff.Hh ns[i] ps[i] s).2≠0 then ([],(Ff.Hh ns[i] ps[i] s).2) else Ff.chain (ns.drop (i+1)) (ps.drop (i+1)) (Ff.Hh ns[i] ps[i] s).1:=by
 rw[auL a,auL b,Ff.chain]
theorem aae {ps:List Pm}(a:ns.length<=i)(s:List UInt8):Ff.chain (ns.drop i) (ps.drop i) s=(s,0):=by
 rw[auW a];unfold Ff.chain;rfl
theorem zx {o:Ob}:(Ff.of o).1.length<=8:=by
 have:=@Ff.X4 o;unfold Ff.of;by_cases a:o.k≠9
 ·rw[asU a];exact atU _
 rw[asT a];by_cases b:(Ff.names o).2≠0
 ·rw[asU b];exact atU _
 rw[asT b];by_cases c:(Ff.vL o (Ff.names o).1.length).2≠0
 ·rw[asU c];exact atU _
 rw[asT c];split
 ·exact atU _
 ·exact this
section
variable {M:Mem}{vn vp:aq}{ns:List (List UInt8)}{ps:List Pm}
theorem fS (b:SlA M.A M.w vn 1 ns.length (bF ns)):DoX ah (mB .len #[22] 3 #[au] #[vn]) W PK K=K (ad (ns.length:Int)) W:=by
 obtain⟨a,cap,rfl,_⟩:=b.form;exact bO atN
end
theorem T9 (o:Ob)(z:∀x∈(Ff.of o).2.1,PdR x)(B:∀n∈(Ff.of o).1,∀x,UdA n x)(v:aq)(M:Mem)(w:ao)(C:Rp M)(D:Od M)(E:Pws M)(hw:o.wt<=1000000000)(O:M.has w)(P:OV M.A M.w v o) :
  jJ ah 13 #[v] M w (λr _=>r=zlT (Ff.decode o)):=by
 obtain⟨vk,vc,V,rfl,Q⟩:=P.open;refine aU O λK y=>FX ?_;generalize a:Ff.decode o=X at y;unfold Ff.decode at a;unfold B1 nz;refine eI o Q.keys.one Q.kids.one (cH.memS O) λY Z b=>?_;rw[iV b 0 rfl];refine bG b 1 rfl (Gx o _ M Z hw (b.hasM 1 rfl) P) ?_;have j:=@Ff.ajX o;have k:=@zx o;generalize Ff.of o=F at a j k z B;obtain⟨ns,ps,e⟩:=F;dsimp only at a j k z B;rintro _ N w2 g ⟨vn,vp,rfl,G,hp⟩ b;dsimp only at G hp;simp only[ex,kP (show [vn,vp,Value.int .i64 e][2]?=ax (Value.int .i64 e) from rfl),kP (show [vn,vp,Value.int .i64 e][1]?=ax vp from rfl),kP (show [vn,vp,Value.int .i64 e][0]?=ax vn from rfl),eF];by_cases he:e=0
 case neg=>
  rw[asU he] at a;simp only[atA (show e≠0 from he),i_t];exact y _ _ N _ 1 b rfl g (by rw[<-a];rfl)
 rw[asT (λh=>h he)] at a;simp only[asZ (show ¬e≠0 fromλh=>h he),i_f];rw[Dn,Mb b 0 rfl,fS G];have H:o.s.length<=1000000000:=by
  have:o.s.length<=o.wt:=by rw[o.oK];omega
  omega
 refine loop (λvs W=>∃(i:Nat) (s:List UInt8) (l:Mem),vs=[ae s,ad (i:Int)]∧i<=ns.length∧s.length<=1000000000∧N.le l∧Ff.chain (ns.drop i) (ps.drop i) s=X∧cH M.A w W [obE Y o vk vc,.mem l]) (λvs _=>ns.length - n1 vs) ⟨0,o.s,N,rfl,om,H,N.le_refl,a,b⟩ ?_;clear b a;rintro vs w3 ⟨i,s,l,rfl,hi,hs,c,a,b⟩ _;simp only[wB,gd,rs,nz];by_cases m:(i:Int) < (ns.length:Int)
 ·simp only[m,asX,i_t];have d:i < ns.length:=om
  have f:i < ps.length:=om
  rw[aad d f] at a;obtain⟨p,I,J⟩:=Fc (G.le c) d;rw[aC (I w3),aC (J w3 (b.hasM 1 rfl))];obtain⟨p2,q,u⟩:=Ow (hp.le c) f;rw[aC (q w3),aC (u w3 (b.hasM 1 rfl))];refine bG b 1 rfl (R3 ns[i] ps[i] (z _ (atP f)) (B _ (atP d) _) s l w3 ((C.le g).le c) ((D.le g).le c) ((E.le g).le c) hs (b.hasM 1 rfl)) ?_;rintro _ R w4 S ⟨rfl,T⟩ b;generalize Ff.Hh ns[i] ps[i] s=U at a T;obtain⟨t,L⟩:=U;dsimp only at a T;simp only[zlT,ex,eF];by_cases hu:L=0
  case neg=>
   rw[asU hu] at a;simp only[atA (show L≠0 from hu),i_t];exact y _ _ R _ 1 b rfl ((g.trans c).trans S) (by rw[<-a];rfl)
  rw[asT (λh=>h hu)] at a;simp only[asZ (show ¬L≠0 fromλh=>h hu),i_f]
  try simp only[rs]
  rw[aA om om];exact aS ⟨i+1,t,R,rfl,om,om,c.trans S,a,b⟩ (by simp[n1,RowKit.intOf];omega)
 simp only[m,asW,i_f];rw[aae om] at a;exact y _ _ l _ 1 b rfl (g.trans c) (by rw[<-a];rfl)
theorem L5 (o:Ob)(d:∀x∈(Ff.of o).2.1,PdR x)(v:aq)(M:Mem)(w:ao)(a:Rp M)(b:Od M)(c:Pws M)(hw:o.wt<=1000000000)(e:M.has w)(f:OV M.A M.w v o) :
  jJ ah 13 #[v] M w (λr _=>r=zlT (Ff.decode o)):=
 T9 o d (λn _ x=>udA n x) v M w a b c hw e f
theorem Nv (o:Ob)(v:aq)(M:Mem)(w:ao)(a:Rp M)(b:Od M)(c:Pws M)(hw:o.wt<=1000000000)(d:M.has w)(e:OV M.A M.w v o) :
  jJ ah 13 #[v] M w (λr _=>r=zlT (Ff.decode o)):=
 L5 o (λx _=>pdR x) v M w a b c hw d e
theorem I5:∀s:List UInt8,(Oc.hex s).length=2*s.length
|[]=>rfl
|c::s=>by
  have h:Oc.hex (c::s)=Oc.hex1 c++Oc.hex s:=by unfold Oc.hex;rw[avE]
  rw[h,asY,I5 s,atW];show 2+_=_;omega
theorem Sp (s:List UInt8)(w:ao)(a:s.length<=1000000):Ret ah 114 #[ae s] w (λv w'=>v=ae (Oc.hex s++[62])∧Below w.heap.size w w'):=by
 refine aL λK b=>LD ?_;unfold Jj nz;refine aJ (Own.start w) (ahL s w a) ?_;rintro _ d rfl c;have e:(Oc.hex s).length<=2000000:=by rw[I5];omega
 rw[show (Value.string ⟨#[62]⟩)=ae ([62]:List UInt8) from rfl,Pf (by simp;omega)];exact b _ _ ⟨rfl,c.done⟩
def fx (c:UInt8):Nat->List UInt8->Nat
|0,_=>0
|_,[]=>0
|f+1,d::r=>if d=c then fx c f r+1 else 0
def bg (s:List UInt8):Nat:=fx (s.getD 0 0) 128 s
theorem nm (c:UInt8):∀(f:Nat) (s:List UInt8),fx c f s<=f∧fx c f s<=s.length
|0,s=>by unfold fx;omega
|f+1,[]=>by unfold fx;exact⟨om,sm⟩
|f+1,d::r=>by
  have:=nm c f r;unfold fx;split
  ·rw[atW];omega
  ·omega
theorem PN {k:IntKind}{b:Int}:(mB .min #[T1,T2] U cb #[.int k a,.int k' b]).run ah W=.ok (.value (.int k (min a b))) W:=by
 have e:(if b < a then b else a)=min a b:=by split<;>omega
 simp[mB,builtin,Builtin.min_,Builtin.min2,e]
theorem xg (c:UInt8)(f:Nat):fx c f []=0:=by cases f<;>rfl
theorem MO (s:List UInt8)(w:ao)(j:s.length<=1000000000):Ret ah 186 #[ae s] w (λv w'=>v=ad (bg s:Int)∧Below w.heap.size w w'):=by
 refine aL λK e=>IW ?_;unfold F5 nz;refine loop (λvs W=>∃i:Nat,vs=[ad (i:Int)]∧i<=min s.length 128∧i+fx (s.getD 0 0) (128 - i) (s.drop i)=bg s∧Own w W []) (λvs _=>s.length - n0 vs) ⟨0,rfl,om,by rw[auX,atK];rfl,Own.start w⟩ ?_;rintro vs k ⟨i,rfl,hi,a,b⟩ _;simp only[Bj,gd,nz];refine cQ (λW=>Own w W []) b.drew ?_;refine Pq atB (gr (ad ((min s.length 128:Nat):Int)) (λW=>?_) (Iq ?_))
 ·have h:min (s.length:Int) 128=((min s.length 128:Nat):Int):=om
  rw[<-h];exact PN
 by_cases f:i < min s.length 128
 case neg=>
  have g:i=min s.length 128:=om
  rw[asZ (show ¬(i:Int) < ((min s.length 128:Nat):Int) by omega)];simp only[gq];refine Dr ?_;intro w2 b;rw[i_f];have:fx (s.getD 0 0) (128 - i) (s.drop i)=0:=by
   by_cases h:i=128
   ·rw[h];unfold fx;rfl
   ·rw[auW om,xg]
  rw[this,auU] at a;exact e _ _ ⟨by rw[a],b.done⟩
 rw[atA (show (i:Int) < ((min s.length 128:Nat):Int) by omega)];have d:i < s.length:=om
 simp only[gq];refine q_ix (c:=s[i]) atB om (by rw[atC];exact atI d) ?_;refine q_ix (c:=s.getD 0 0) atB dc (get0 om) (q_eq (LO ?_));intro w2 b;rw[auL d,show 128 - i=(128 - (i+1))+1 by omega,fx] at a;by_cases he:s[i]=s.getD 0 0
 ·rw[asU he] at a;rw[atA (show (s[i].toNat:Int)=((s.getD 0 0).toNat:Int) by rw[he]),i_t]
  try simp only[rs]
  rw[aA om om];exact aS ⟨i+1,rfl,om,by rw[<-a];omega,b⟩ (by simp[n0,RowKit.intOf];omega)
 ·rw[asT he] at a;rw[asZ (show ¬(s[i].toNat:Int)=((s.getD 0 0).toNat:Int) fromλh=>he (ayP.1 om)),i_f];exact e _ _ ⟨by rw[<-a];rfl,b.done⟩
def im:Nat->Nat->List UInt8->Nat
|0,n,_=>n
|f+1,n,s=>if n < min s.length 128∧bg (s.drop n) < 3 then im f (n+1) s else n
def cj (s:List UInt8):Nat:=im 128 1 s
theorem pj:∀(f n:Nat) (s:List UInt8),n<=min s.length 128->n<=im f n s∧im f n s<=min s.length 128
|0,n,s,h=>⟨atE _,h⟩
|f+1,n,s,h=>by
  unfold im;split
  ·rename_i a
   have:=pj f (n+1) s om;omega
  ·exact⟨atE _,h⟩
def fy:Nat->List UInt8->List UInt8
|0,_=>[]
|f+1,s=>
  if s=[] then [128]
  else if 3<=bg s then [UInt8.ofNat (257 - bg s),s.getD 0 0]++fy f (s.drop (bg s))
  else [UInt8.ofNat (cj s - 1)]++s.take (cj s)++fy f (s.drop (cj s))
def ig (s:List UInt8):List UInt8:=fy (s.length+1) s
section
variable {w:ao}{PK:PKT}{K:Ending->ao->Prop}{N1:List aq->ao->Prop}{S:Nat->Prop}{w0:ao}{L:List Ent}
theorem adW {n:Nat}{l t:List UInt8}(a:cH S w0 w (Bld b v l::L))(f:1<=n)(g:n<=min t.length 128)(h:l.length<=10000000000)
  (k:∀v' W,cH S w0 W (Bld b v' (l++[UInt8.ofNat (n - 1)]++t.take n)::L)->N1 [ae (t.drop n)] W) :
  DoX ah (fZ 3 5 (ad (IntKind.i64.wrap ((n:Int) - 1)))) w (pk K) λt40 w=>
 dZ ah 181 #[af b 0,t40] w (pk K) λt41 w=>
 DoX ah (cT 9 (ae t) aw (ax (ad (n:Int))) aw) w (pk K) λt44 w=>
 dZ ah 187 #[af b 0,t44] w (pk K) λt45 w=>
 DoX ah (cT 9 (ae t) (ax (ad (n:Int))) aw aw) w (pk K) λt48 w=>N1 [t48] w:=by
 rw[aA om om,show (n:Int) - 1=((n - 1:Nat):Int) by omega];refine aC (bA krx atS) |>.mpr ?_;rw[uX];refine rQ 0 a rfl (kX (c:=UInt8.ofNat (n - 1)) (a.at_ 0 rfl) om) ?_;rintro _ _ i ⟨rfl,v',rfl⟩ a;rw[O9 atB om om,atC];refine rQ 0 a rfl (Jr (a.at_ 0 rfl) (by rw[asY,atF];show l.length+1+_<=_;omega)) ?_;rintro _ _ e ⟨⟨x,rfl⟩,d,rfl⟩ a;rw[yY atB om om,atC];exact k d e a
end
theorem SQ (s:List UInt8)(w:ao)(E:s.length<=1000000000):Ret ah 119 #[ae s] w (λv w'=>v=ae (ig s)∧Below w.heap.size w w'):=by
 refine aL λK z=>Ls ?_;unfold Jk nz;refine bI (λb=>af b 0) [.pointer aw,.slice aw 0 0] 188 (λ_=>by kernel_rfl) (Own.start w) λb A a=>?_;have o:∃v0,Own w A [Bld b v0 []]:=⟨_,cH.HQ (l:=[]) (.inl rfl) Pw (a.S7 5 1).swap⟩;obtain⟨v0,a⟩:=o;refine loop (λvs W=>∃(t:List UInt8) (v:aq) (l:List UInt8),vs=[ae t]∧t.length<=s.length∧l.length+2*t.length<=2*s.length∧(∃f,t.length < f∧l++fy f t=ig s)∧Own w W [Bld b v l]) (λvs _=>jC (vs.getD 0 undef)) ⟨s,v0,[],rfl,atE _,sm,⟨s.length+1,om,rfl⟩,a⟩ ?_;clear a;rintro vs w2 ⟨t,v,l,rfl,F,G,⟨f,H,e⟩,a⟩ _;simp only[EP,gd,nz];obtain⟨f,rfl⟩:∃f',f=f'+1:=⟨f - 1,om⟩;unfold fy at e;rw[show (Value.string ⟨#[]⟩)=ae ([]:List UInt8) from rfl,Rb];by_cases j:t=[]
 ·rw[asU j] at e;rw[asZ (λh=>h j),i_f];refine rQ 0 a rfl (DH (n:=128) (k:=128) (a.at_ 0 rfl) om rfl om) ?_;rintro _ _ w3 ⟨rfl,v',rfl⟩ a;refine rQ 0 a rfl (Fq (a.at_ 0 rfl)) ?_;rintro _ _ p ⟨rfl,rfl⟩ a;exact z _ _ ⟨by rw[<-e];rfl,a.done⟩
 rw[asT j] at e;rw[atA (show t≠[] from j),i_t];have q:=awL.2 j;refine aJ a (MO t w2 om) ?_;rintro _ w3 rfl a;have B:bg t<=128∧bg t<=t.length:=nm _ _ _
 try simp only[rs]
 by_cases x:3<=bg t
 ·rw[asU x] at e;simp only[show ai ((3:Int)<=(bg t:Int))=av from atA om,i_t];generalize bg t=n at *;rw[ZF,show min (n:Int) 128=(n:Int) by omega]
  try simp only[rs]
  rw[aA om om,show (257:Int) - (n:Int)=((257 - n:Nat):Int) by omega];refine aC (bA krx atS) |>.mpr ?_;rw[uX];refine rQ 0 a rfl (kX (c:=UInt8.ofNat (257 - n)) (a.at_ 0 rfl) om) ?_;rintro _ _ p ⟨rfl,v',rfl⟩ a;rw[NW (c:=t.getD 0 0) atB dc (get0 q)];refine rQ 0 a rfl (kX (c:=t.getD 0 0) (a.at_ 0 rfl) (by rw[asY];show l.length+1 < _;omega)) ?_;rintro _ _ C ⟨rfl,r,rfl⟩ a;rw[yY atB om om,atC];refine aS ⟨t.drop n,r,_,rfl,by rw[atG];omega,?_,⟨f,by rw[atG];omega,?_⟩,a⟩ ?_
  ·rw[asY,asY,atG];show l.length+1+1+_<=_;omega
  ·rw[<-e];simp[atJ]
  ·show jC (ae (t.drop n)) < jC (ae t);rw[fG,fG,atG];omega
 rw[asT x] at e;simp only[show ai ((3:Int)<=(bg t:Int))=au from asZ om,i_f];have fin:∀(v':aq) (W:ao) (n:Nat),n=cj t->Own w W [Bld b v' (l++[UInt8.ofNat (n - 1)]++t.take n)]->1<=n->n<=min t.length 128->IJ (λvs W=>∃(t:List UInt8) (v:aq) (l:List UInt8),vs=[ae t]∧t.length<=s.length∧l.length+2*t.length<=2*s.length∧(∃f,t.length < f∧l++fy f t=ig s)∧Own w W [Bld b v l]) (λvs _=>jC (vs.getD 0 undef)) [ae t] w2 [ae (t.drop n)] W:=by
  intro v' W n m a d u;refine aS ⟨t.drop n,v',_,rfl,by rw[atG];omega,?_,⟨f,by rw[atG];omega,?_⟩,a⟩ ?_
  ·rw[asY,asY,atG,atF];show l.length+1+_+_<=_;omega
  ·rw[<-e,<-m];simp[atJ]
  ·show jC (ae (t.drop n)) < jC (ae t);rw[fG,fG,atG];omega
 refine loop (λvs W=>∃n:Nat,vs=[ad (n:Int)]∧1<=n∧n<=min t.length 128∧(∃g,128 - n < g∧im g n t=cj t)∧Own w W [Bld b v l]) (λvs _=>128 - n0 vs) ⟨1,rfl,om,om,⟨128,om,rfl⟩,a⟩ ?_;clear a;rintro vs p ⟨n,rfl,d,u,⟨g,I,i⟩,a⟩ _;simp only[FQ,gd,nz];obtain⟨g,rfl⟩:∃D,g=D+1:=⟨g - 1,om⟩;unfold im at i;rw[cZ atB,ZF,show min (t.length:Int) 128=((min t.length 128:Nat):Int) by omega]
 try simp only[rs]
 by_cases hm:n < min t.length 128
 case neg=>
  rw[asT (λh=>hm h.1)] at i;simp only[asZ (show ¬(n:Int) < ((min t.length 128:Nat):Int) by omega),rs,i_f];refine adW a d om om λv' W a=>fin v' W n i a d u
 simp only[atA (show (n:Int) < ((min t.length 128:Nat):Int) by omega),rs];rw[yY atB om om,atC];refine aJ a (MO (t.drop n) p (by rw[atG];omega)) ?_;rintro _ C rfl a;simp only[rs];by_cases y:bg (t.drop n) < 3
 ·rw[asU ⟨hm,y⟩] at i;simp only[atA (show (bg (t.drop n):Int) < 3 by omega),rs,i_t];rw[aA om om];exact aS ⟨n+1,rfl,om,om,⟨g,om,i⟩,a⟩ (by simp[n0,RowKit.intOf];omega)
 ·rw[asT (λh=>y h.2)] at i;simp only[asZ (show ¬(bg (t.drop n):Int) < 3 by omega),rs,i_f];refine adW a d om om λv' W a=>fin v' W n i a d u
end
section
open Go
namespace Bd
def Cg (o:Ob)(data:List UInt8):Ob:=.mk 9 (Vl.aM o Vl.qF).n (Vl.aM o Vl.qF).g data (Vl.aM o Vl.qF).keys (Vl.aM o Vl.qF).kids
theorem Re (h:Vl.check 1 o=0)(c:o.k=7):Vl.qF ∉ (Vl.aM o Vl.qF).keys:=by
 have d:Vl.keyed o=true:=by simp[Vl.keyed,c]
 have f:=Vl.eZ (key:=Vl.qF) h d;have a:Vl.keyed (Vl.aM o Vl.qF)=true:=by
  have e:(Vl.aM o Vl.qF).k=o.k:=rfl;simp[Vl.keyed,e,c]
 obtain⟨_,hlen⟩:=Vl.gQ f a;intro hm;have b:=Vl.Q6 o Vl.qF;unfold Vl.get at b;rw[asU a,asU (List.idxOf_lt_length_of_mem hm),atI (by rw[<-hlen];exact List.idxOf_lt_length_of_mem hm)] at b;cases b
theorem Hq (h:Vl.check 1 o=0)(d:o.k=7)(hd:data.length<=1048576):Vl.check 1 (Cg o data)=0:=by
 have j:Vl.keyed o=true:=by simp[Vl.keyed,d]
 have l:=Vl.eZ (key:=Vl.qF) h j;have b:=Re h d;have f:(Vl.aM o Vl.qF).k=7:=d;unfold Cg;generalize Vl.aM o Vl.qF=x at *;obtain⟨⟨m,a2,a3,a4,a5,p,c⟩,a⟩:=Vl.fU.1 l;obtain⟨k,n,g,s,ks,cs⟩:=x;simp only[Ob.k,Ob.n,Ob.g,Ob.s,Ob.keys,Ob.kids] at *;subst f;refine Vl.fU.2 ⟨⟨m,?_,λ_=>Int.le_refl 1 |> λ_=>by omega,?_,?_,p,?_⟩,a⟩
 ·unfold Vl.gB at a2 ⊢;simp only[Ob.k,Ob.n,Ob.g,Ob.s,Ob.keys,Ob.kids,Vl.used] at a2 ⊢
  simp_all
  exact a2.1
 ·simp[Vl.fits,Ob.k]
 ·simpa[Vl.long,Ob.k,Ob.s] using hd
 ·unfold Vl.form at c ⊢;simp only[Ob.k] at c ⊢;simp only[show ai ((7:Int)=7∨(7:Int)=9)=av by decide,auO,azF,atZ] at c;obtain⟨r,t,u,v⟩:=Vl.qJ.1 c.2;have w:Vl.rising (.mk 9 n g data ks cs)=true:=Vl.qJ.2 ⟨r,t,λq i=>⟨(u q i).1,λ_ e=>b (e▸i)⟩,v⟩;simp[w]
theorem Qe (h:Vl.check 1 o=0)(a:o.k=7):(if Vl.keyed o=av∧Vl.check 1 o=0 then Vl.aM o Vl.qF else o)=Vl.aM o Vl.qF:=by
 rw[asU ⟨by simp[Vl.keyed,a],h⟩]
end Bd
end
section
open Eng
def DG(t0 t1 w)(K:KT):=nz f87 1 [] [] [] (zg [0,1] [t0,t1]) w K
theorem GH:DG t0 t1 w k0->Calls ah 87 #[t0,t1] w k0:=cw func87
def qS(t0 t1 w)(K:KT):=nz f75 1 [] [] [] (zg [0,1] [t0,t1]) w K
theorem AO:qS t0 t1 w k0->Calls ah 75 #[t0,t1] w k0:=cw func75
end
section
open Eng Go.RowKit
theorem Ql (o:Ob)(v:aq)(data:List UInt8)(M:Mem)(w:ao)(h:o.k=7)(i:Vl.check 1 o=0)(hd:data.length<=1048576)(hw:o.wt<=1000000000)(C:M.has w)(j:OV M.A M.w v o) :
  jJ ah 87 #[v,ae data] M w (λr N=>∃v',r=vI v' 0∧OV N.A N.w v' (Bd.Cg o data)):=by
 obtain⟨vk,vc,cs,rfl,D⟩:=j.open;refine aU C λK I=>GH ?_;unfold DG nz;refine eI o D.keys.one D.kids.one (cH.memS C) λJ V a=>?_;refine dM a λL w2 a=>?_;rw[eO,sA a 1 rfl];simp only[rs,h,show ai ((7:Int)≠7)=au by decide,i_f];rw[iV a 1 rfl];refine aJ a (R:=λv=>v=ad (Vl.check 1 o)) (wV o _ w2 (OV.inw (a.hasM 2 rfl) j) om) ?_;rintro _ w3 rfl a;simp only[i,eF,show ai ((0:Int)≠0)=au by decide,i_f];rw[iV a 1 rfl];refine bG a 2 rfl (Fo o _ Vl.qF M w3 om (a.hasM 2 rfl) j) λy N W hle E a=>?_;have l:gi o Vl.qF=Vl.aM o Vl.qF:=by unfold gi;exact Bd.Qe i h
 rw[l] at E;have m:=Bd.Hq (data:=data) i h hd;have O:=Vl.fQ o Vl.qF;have c:Bd.Cg o data=.mk 9 (Vl.aM o Vl.qF).n (Vl.aM o Vl.qF).g data (Vl.aM o Vl.qF).keys (Vl.aM o Vl.qF).kids:=rfl;generalize Vl.aM o Vl.qF=x at *;obtain⟨p,q,u,rfl,b⟩:=E.open;refine dM a λP X a=>?_;refine aP 0 b.keys.one b.kids.one a rfl λY a=>?_;rw[eO];refine aN 0 a rfl krx rfl (show 0 < 6 by omega) λZ a=>?_;rw[Dn];refine aN 0 a rfl krx rfl (show 0+3 < 6 by omega) λF a=>?_;have a:cH M.A w F [obE P (Bd.Cg o data) p q,obE L ob0 cO cO,obE J o vk vc,.mem N]:=by rw[c];exact a
 have z:OV N.A N.w (obV (Bd.Cg o data) p q) (Bd.Cg o data):=by
  rw[c];exact rE.ov (o:=.mk 9 x.n x.g data x.keys x.kids) (vk:=p) (vc:=q) (cs:=u) ⟨b.keys,b.kids,b.all⟩
 have B:(Bd.Cg o data).wt<=100000000000:=by
  have G:=Vl.oK (Bd.Cg o data);have Q:=Vl.oK x;rw[c] at G ⊢;simp only[Ob.s,Ob.keys,Ob.kids] at G Q ⊢;omega
 rw[iV a 0 rfl];refine bG a 3 rfl (Kw _ _ N F B (a.hasM 3 rfl) z) ?_;rintro _ S w9 e ⟨t,rfl,H⟩ a;have f:Vl.right (Bd.Cg o data)=(Bd.Cg o data,0):=by unfold Vl.right;rw[asT (by simp[m])]
 rw[f] at H;obtain⟨tk,tc,T,rfl,d⟩:=H.open;simp only[vI,ex,f];refine aP 1 d.keys.one d.kids.one a rfl λU a=>?_;exact bX 1 a rfl (I _ _ S _ 3 a rfl (hle.trans e) ⟨_,rfl,d.ov⟩)
theorem MK (o:Ob)(v:aq)(key:List UInt8)(M:Mem)(w:ao)(d:o.k=7)(e:Vl.check 1 o=0)(hw:o.wt<=1000000000)(f:M.has w)(c:OV M.A M.w v o) :
  jJ ah 75 #[v,ae key] M w (λr N=>OV N.A N.w r (Vl.aM o key)):=by
 obtain⟨vk,vc,cs,rfl,g⟩:=c.open;obtain⟨_,hlen⟩:=Vl.gQ e (by simp[Vl.keyed,d]);refine aU f λK h=>AO ?_;unfold qS nz;refine eI o g.keys.one g.kids.one (cH.memS f) λl m a=>?_;refine dM a λn w2 a=>?_;simp only[rs,eO,sA a 1 rfl,d,show ai ((7:Int)≠7)=au by decide,nE,iV a 1 rfl];refine aJ a (R:=λv=>v=ad (Vl.check 1 o)) (iK o _ w2 (OV.inw (a.hasM 2 rfl) c) om) ?_;rintro _ w3 rfl a;simp only[rs,e,eF,show ai ((0:Int)≠0)=au by decide,nE,i_f,iV a 1 rfl];refine bG a 2 rfl (tH o _ key M w3 om (a.hasM 2 rfl) c hlen) λy N p hle i a=>?_;obtain⟨q,s,j,rfl,b⟩:=i.open;refine aP 0 b.keys.one b.kids.one a rfl λt a=>?_;exact fH (bJ (a.agg 0 rfl kE)) (h _ _ N _ 2 a rfl hle b.ov)
namespace Ff
def kS (o:Ob):Ob:=.mk 7 o.n o.g [] o.keys o.kids
def bare (o:Ob):Ob:=Vl.aM (Vl.aM (kS o) aQ) bW
def plain (o:Ob)(data:List UInt8):Ob×Int:=
 if o.k≠9∧o.k≠7 then (Vl.ob0,10)
 else if Vl.check 1 (kS o)≠0 then (Vl.ob0,Vl.check 1 (kS o))
 else (Bd.Cg (bare o) data,0)
theorem Nc (o:Ob):(kS o).wt<=o.wt:=by
 obtain⟨k,n,g,s,ks,cs⟩:=o;show (Ob.mk 7 n g [] ks cs).wt<=(Ob.mk k n g s ks cs).wt;rw[Ob.wt,Ob.wt];have:([]:List UInt8).length=0:=rfl;omega
end Ff
theorem LI (o:Ob)(v:aq)(data:List UInt8)(M:Mem)(w:ao)(hd:data.length<=1048576)(hw:o.wt<=1000000000)(F:M.has w)(H:OV M.A M.w v o) :
  jJ ah 30 #[v,ae data] M w (λr N=>∃v',r=vI v' (Ff.plain o data).2∧OV N.A N.w v' (Ff.plain o data).1):=by
 obtain⟨vk,vc,cs,rfl,m⟩:=H.open;refine aU F λK z=>G9 ?_;generalize b:Ff.plain o data=X at z;unfold Ff.plain at b;unfold DD nz;refine eI o m.keys.one m.kids.one (cH.memS F) λj w1 a=>?_;refine dM a λc w2 a=>?_;have no:∀{W:ao} {N:Mem} {e:Int} {x:Ob},cH M.A w W [obE c ob0 cO cO,obE j x vk vc,.mem N]->M.le N->X=(Vl.ob0,e)->DoX ah (aW 25 #[]) W (pk K) (λt W=>DoX ah (aV 25 (af c 0) t) W (pk K) λ_ W=>A2 ah [.cell (af c 0) 25,.val (ad e)] W K):=by
  intro W N e x a hle G;rw[sR];refine aP 0 rfl rfl a rfl λB a=>?_;refine bX 0 a rfl (z _ _ N _ 2 a rfl hle ⟨obV Vl.ob0 cO cO,?_,?_⟩)
  ·rw[G];rfl
  ·rw[G];exact jD N
 rw[eO,sA a 1 rfl];simp only[rs];have f:OV M.A M.w (obV (Ff.kS o) vk vc) (Ff.kS o):=rE.ov (o:=Ff.kS o) (vk:=vk) (vc:=vc) (cs:=cs) ⟨m.keys,m.kids,m.all⟩;have main:¬(o.k≠9∧o.k≠7)->DoX ah (mFA 25 (af j 0) 0) w2 (pk K) λt16 w=>
 DoX ah (aV 3 t16 (ad 7)) w (pk K) λ_ w=>
 DoX ah (mFA 25 (af j 0) 3) w (pk K) λt17 w=>
 DoX ah (aV 9 t17 (.string ⟨#[]⟩)) w (pk K) λ_ w=>
 DoX ah (aK 25 (af j 0)) w (pk K) λt18 w=>
 dZ ah 86 #[t18] w (pk K) λt19 w=>
 DoX ah (mEq .neq 30 (.tmp 20) (.const (ad 0)) t19 (ad 0)) w (pk K) λt21 w=>
 IfX t21 (DoX ah (aW 25 #[]) w (pk K) λt22 w=>
 DoX ah (aV 25 (af c 0) t22) w (pk K) λ_ w=>
 A2 ah [.cell (af c 0) 25,.val t19] w K) (DoX ah (aK 25 (af j 0)) w (pk K) λt24 w=>
 dZ ah 88 #[t24,(.string ⟨#[70,105,108,116,101,114]⟩)] w (pk K) λt25 w=>
 dZ ah 88 #[t25,(.string ⟨#[68,101,99,111,100,101,80,97,114,109,115]⟩)] w (pk K) λt26 w=>
 dZ ah 87 #[t26,ae data] w (pk K) λt28 w=>
 DoX ah (At t28 0) w (pk K) λt29 w=>
 DoX ah (At t28 1) w (pk K) λt30 w=>
 DoX ah (aV 25 (af c 0) t29) w (pk K) λ_ w=>
 A2 ah [.cell (af c 0) 25,.val t30] w K):=by
  intro I;rw[asT I] at b;rw[eO];refine aN 1 a rfl krx rfl (show 0 < 6 by omega) λw3 a=>?_;rw[Dn];refine aN 1 a rfl krx rfl (show 0+3 < 6 by omega) λB a=>?_;have a:cH M.A w B [obE c ob0 cO cO,obE j (Ff.kS o) vk vc,.mem M]:=a;have C:=Ff.Nc o;have J:Bd.Cg (Ff.bare o) data=Bd.Cg (Vl.aM (Vl.aM (Ff.kS o) Ff.aQ) Ff.bW) data:=rfl;have s:(Ff.kS o).k=7:=rfl;rw[J] at b;generalize Ff.kS o=d at b C a f s;rw[iV a 1 rfl];refine aJ a (R:=λv=>v=ad (Vl.check 1 d)) (wV d _ B (OV.inw (a.hasM 2 rfl) f) om) ?_;rintro _ L rfl a;simp only[eF];by_cases l:Vl.check 1 d=0
  case neg=>
   rw[asU l] at b;simp only[atA (show Vl.check 1 d≠0 from l),i_t];exact no a M.le_refl b.symm
  rw[asT (λh=>h l)] at b;simp only[l,show ai ((0:Int)≠0)=au from rfl,i_f];rw[iV a 1 rfl];refine bG a 2 rfl (Fo d _ Ff.aQ M L om (a.hasM 2 rfl) f) λy1 N1 O P n a=>?_;have Q:gi d Ff.aQ=Vl.aM d Ff.aQ:=by unfold gi;rw[asU ⟨by simp[Vl.keyed,s],l⟩]
  rw[Q] at n;have p:=Vl.eZ (key:=Ff.aQ) l (by simp[Vl.keyed,s]);have g:(Vl.aM d Ff.aQ).k=7:=s;have S:=Vl.fQ d Ff.aQ;generalize Vl.aM d Ff.aQ=d1 at *;refine bG a 2 rfl (Fo d1 _ Ff.bW N1 O om (a.hasM 2 rfl) n) λy2 T U V q a=>?_;have Y:gi d1 Ff.bW=Vl.aM d1 Ff.bW:=by unfold gi;rw[asU ⟨by simp[Vl.keyed,g],p⟩]
  rw[Y] at q;have D:=Vl.eZ (key:=Ff.bW) p (by simp[Vl.keyed,g]);have E:(Vl.aM d1 Ff.bW).k=7:=g;have Z:=Vl.fQ d1 Ff.bW;generalize Vl.aM d1 Ff.bW=d2 at *;refine bG a 2 rfl (Ql d2 _ data T U E D hd om (a.hasM 2 rfl) q) ?_;rintro _ N3 w8 l3 ⟨t,rfl,ht⟩ a;obtain⟨tk,tc,a1,rfl,i⟩:=ht.open;simp only[vI,ex];refine aP 0 i.keys.one i.kids.one a rfl λw9 a=>?_;exact bX 0 a rfl (z _ _ N3 _ 2 a rfl ((P.trans V).trans l3) ⟨_,by rw[<-b];rfl,by rw[<-b];exact i.ov⟩)
 by_cases u:o.k=9
 ·simp only[asZ (show ¬o.k≠9 fromλh=>h u),rs,nE,i_f];exact main (λh=>h.1 u)
 simp only[atA (show o.k≠9 from u),rs];rw[eO,sA a 1 rfl];simp only[rs];by_cases y:o.k=7
 ·simp only[asZ (show ¬o.k≠7 fromλh=>h y),rs,i_f];exact main (λh=>h.2 y)
 ·simp only[atA (show o.k≠7 from y),rs,i_t];rw[asU ⟨u,y⟩] at b;exact no a M.le_refl b.symm
theorem eqPm:eqT ah 27 [(0,au),(1,au),(2,au)]:=⟨krx,krx,krx,krx⟩
def Pm.eqb (x y:Pm):Bool:=ai (x.p=y.p)&&(ai (x.c=y.c)&&ai (x.n=y.n))
theorem aeJ (x y:Pm):([(0,au),(1,au),(2,au)]:List (Nat×Bool)).all (λp=>KD (pmC x).toArray[p.1]? (pmC y).toArray[p.1]?)=Pm.eqb x y:=by
 have e:([(0,au),(1,au),(2,au)]:List (Nat×Bool)).all (λp=>KD (pmC x).toArray[p.1]? (pmC y).toArray[p.1]?)=((x.p==y.p)&&((x.c==y.c)&&((x.n==y.n)&&av))):=rfl;rw[e];unfold Pm.eqb;rw[aAp];rfl
theorem St {y:Pm}:(mEq .eql 27 xo yo (pmV x) (pmV y)).run ah w=.ok (.value (.bool (Pm.eqb x y))) w:=by
 rw[<-aeJ];exact QM eqPm rfl
theorem Tx {y:Pm}:(mEq .neq 27 xo yo (pmV x) (pmV y)).run ah w=.ok (.value (.bool (!Pm.eqb x y))) w:=by
 rw[<-aeJ];exact QN eqPm rfl
theorem Uq (M:Mem)(w:ao)(b:M.has w):jJ ah 68 #[pmV Ff.bK] M w (λr _=>r=vI (obV Vl.ob0 cO cO) 0):=by
 refine aU b λK c=>zR ?_;unfold xZ iN dx stx alx;refine Ar Ff.bK (cH.memS b) λd i a=>?_;refine dM a λe w2 a=>?_;refine cQ (λW=>cH M.A w W [obE e ob0 cO cO,pmE d Ff.bK,.mem M]) a.drew ?_;refine iL (pmV Ff.bK) (λW h=>bB (h.agg 1 rfl Ep)) ?_;refine iH (pmV Ff.bK) (λW h=>(qK W).mono λv w' ⟨f,g⟩=>⟨f,h.grow g⟩) ?_;refine gr _ (λ_=>St) ?_;intro w3 a;rw[show Pm.eqb Ff.bK Ff.bK=av from rfl,i_t,sR];refine aP 0 rfl rfl a rfl λj a=>?_;exact bX 0 a rfl (c _ _ M _ 2 a rfl M.le_refl rfl)
def Ff.alone (os:List Ob):Ob:=if os.length=1 then os.getD 0 Vl.ob0 else .mk 6 0 0 [] [] os
theorem LP (os:List Ob)(v:aq)(cs:List aq)(M:Mem)(w:ao)(hw:Ob.wts os<=1000000000)(d:M.has w)(h:Mk M v os cs):jJ ah 71 #[v] M w (λr N=>OV N.A N.w r (Ff.alone os)):=by
 refine aU d λK e=>Ho ?_;unfold DB nz;refine dM (cH.memS d) λn g a=>?_;rw[Pz h];simp only[rs];by_cases f:os.length=1
 ·simp only[show ai ((os.length:Int)=1)=av from atA om,i_t];refine RY (i:=0) h om (a.hasM 1 rfl) λj k c=>?_;refine aP 0 c.oneK c.oneC a rfl λw2 a=>?_;refine fH (bJ (a.agg 0 rfl kE)) (e _ _ M _ 1 a rfl M.le_refl ?_);have:Ff.alone os=os[0]:=by unfold Ff.alone;rw[asU f,atD,atI om,awW]
  rw[this];exact c
 ·simp only[show ai ((os.length:Int)=1)=au from asZ om,i_f];refine bG a 1 rfl (aaG os _ cs M g om (a.hasM 1 rfl) h.sl h.all) λy N w2 l c a=>?_;obtain⟨j,k,m,rfl,b⟩:=c.open;refine aP 0 b.keys.one b.kids.one a rfl λw3 a=>?_;refine fH (bJ (a.agg 0 rfl kE)) (e _ _ N _ 1 a rfl l ?_);unfold Ff.alone;rw[asT f];exact b.ov
namespace Ff
def oneA (n s:List UInt8):List UInt8:=if full n=nHx then Oc.hex s++[62] else ig s
def bP (n:List UInt8):Ob:=ob1 5 0 0 n
end Ff
theorem LZ:bY ah 114=true:=krx
theorem Mu:bY ah 119=true:=krx
theorem YZ (b f:Nat)(s r:List UInt8)(w:ao)(hp:bY ah f=av)(a:(PQ b f).is w)(h:Ret ah f #[ae s] w (λv w'=>v=ae r∧Below w.heap.size w w')) :
  Ret ah 171 #[ae s,af b 0] w (λv w'=>v=zlT (r,0)∧Below w.heap.size w w'):=by
 refine aL λK c=>tJ ?_;unfold qV nz;rw[aR nFnS (aG (T:=36) (cs:=[fnV f]) a (i:=0) rfl)];unfold fnV;refine IC hp (aJ (Own.start w) h ?_);rintro _ e rfl d;exact c _ _ ⟨rfl,d.done⟩
theorem VF (n:List UInt8)(x:Pm)(s:List UInt8)(w:ao)(k:Ff.full n=Ff.nHx∨Ff.full n=Ff.nRL)(r:s.length<=1000000) :
  Ret ah 17 #[ae n,pmV x,ae s] w (λv w'=>v=zlT (Ff.oneA n s,0)∧Below w.heap.size w w'):=by
 refine aL λK t=>B4 ?_;unfold BO nz;refine Ar x (Own.start w) λz B a=>?_;rw[I6 a 0 rfl];have d:∀{p u:aq},p.oneCell'=av->u.oneCell'=av->∀y∈wyC p u,y.oneCell'=true:=by
  intro p u hp hu y o;simp only[wyC,atL,avO,or_false] at o;rcases o with rfl|rfl<;>assumption
 refine afV a (λf g l j m w2 a=>?_) (λi w2 a=>?_) (λi w2 a=>?_)
 rotate_left
 ·rcases k with h|h<;>rw[h] at i<;>exact absurd i dc
 ·rcases k with h|h<;>rw[h] at i<;>exact absurd i dc
 simp only[ex];refine bI (λb=>af b 0) (wyC .nilFunc .nilFunc) 91 (λ_=>by kernel_rfl) a λA w3 a=>?_;refine jK 0 a rfl (new:=wyC (AR j) (CW m)) NA (d rfl rfl) rfl λc a=>?_;have a:cH NoB w c [wyE A (AR j) (CW m),upE m g,PQ j f,pmE z x]:=a;simp only[eF,show ai ((0:Int)≠0)=au from rfl,i_f];rw[cZ atB];simp only[rs,show ai ((1048576:Int) < (s.length:Int))=au from asZ om,i_f];rw[aO X6,aR nFnW (a.cell 0 rfl 0 rfl)];have key:∃_:bY ah f=av,Ret ah f #[ae s] c (λv w'=>v=ae (Ff.oneA n s)∧Below c.heap.size c w'):=by
  rcases l with ⟨h,rfl,_⟩|⟨h,rfl,_⟩|⟨h,rfl,_⟩
  ·have e:Ff.oneA n s=Oc.hex s++[62]:=by unfold Ff.oneA;rw[asU h]
   rw[e];exact⟨LZ,Sp s c r⟩
  ·rcases k with q|q<;>rw[q] at h<;>exact absurd h dc
  ·have e:Ff.oneA n s=ig s:=by unfold Ff.oneA;rw[asT (by rw[h];decide)]
   rw[e];exact⟨Mu,SQ s c om⟩
 obtain⟨hp,key⟩:=key;unfold AR;refine IC Md (aJ a (YZ j f s _ c hp (a.at_ 2 rfl) key) ?_);rintro _ C rfl a;simp only[zlT,ex];exact t _ _ ⟨rfl,a.done⟩
def nmC (n:List UInt8):List Value:=obC (Ff.bP n) cO cO
theorem ajB {n:List UInt8}:∀u∈nmC n,u.oneCell'=true:=by
 intro u hu;simp only[nmC,obC,atL,avO,or_false] at hu;rcases hu with rfl|rfl|rfl|rfl|rfl|rfl<;>rfl
abbrev La (v:aq)(l:List (List UInt8)):Ent:=.recs 25 nmC 6 v l
theorem agF:elB ah 25 6 88=true:=krx
theorem Oe {A:Nat->Prop}{W:ao}:∀l:List (List UInt8),OVs A W (l.flatMap nmC) (l.map Ff.bP)
|[]=>by rw[axG,OVs];rfl
|n::l=>by
  rw[avC,OVs];exact⟨nmC n,l.flatMap nmC,by rw[avE],rfl,rE.ov (o:=Ff.bP n) (vk:=cO) (vc:=cO) (cs:=[]) ⟨SlA.nil _ _ _ _,SlA.nil _ _ _ _,OVs.nil⟩,Oe l⟩
section
variable {w:ao}{PK PK2:PKT}{K:VWP}{S:Nat->Prop}{w0:ao}{L:List Ent}
theorem acT (n:List UInt8){l:List (List UInt8)}{c:Array Bool}(i:Nat)(a:cH S w0 w L)(hi:L[i]?=ax (La v l))(d:l.length<=1000000)(k:∀v' W,cH S w0 W (L.set i (La v' (l++[n])))->K v' W) :
  DoX ah (aT 23 1 #[(0,obV (Ff.bP n) cO cO)]) w PK λt w=>DoX ah (mB .append #[23,23] 23 c #[v,t]) w PK2 K:=by
 refine Ga (Ff.bP n) (vk:=cO) (vc:=cO) rfl rfl a λb f a=>?_;refine bL (i+1) atO agF dc a (by rw[auT];exact hi) (gS (cs:=nmC n) (a.at_ 0 rfl) dc rfl) ajB om om λv' w2 a=>k v' w2 ?_;have e:La v' (l++[n])=.urow 25 6 v' (l.length+1) (l.flatMap nmC++nmC n):=by
  unfold La Ent.recs;rw[asY,ayZ,azU];rfl
 rw[e];exact a.tail
end
theorem alE {l:List UInt8}(d:Sl w v 1 l.length (aH l))(hi:i < l.length) :
  ∃p,(∀W,(mIA 53 v (ad (i:Int))).run ah W=.ok (.value (.pointer (ax p))) W)∧∀W,Sl W v 1 l.length (aH l)->(aK 5 (.pointer (ax p))).run ah W=.ok (.value (.int .u8 (l[i].toNat:Int))) W:=by
 obtain⟨b,off,cap,rfl,_⟩:=bU d om;refine⟨⟨b,off+i,aw⟩,λW=>?_,λW e=>?_⟩
 ·have:=dP (P:=ah) (T:=53) (b:=b) (off:=off) (cap:=cap) (n:=l.length) (k:=.i64) (i:=(i:Int)) (w:=W) atM (show (Tryz.prog.info? 5).map (·.size)=ax 1 by kernel_rfl) om om;rw[atC,atY] at this;exact this
 ·obtain⟨g,a,c,he,f⟩:=bU e om;cases he;exact bB (AtV.cell M1 (f _ _ (fW hi)))
section
variable {w:ao}{PK:PKT}{K:VWP}{S:Nat->Prop}{w0:ao}{L:List Ent}
theorem Sw {tag:Int}{row:List UInt8}(a:cH S w0 w L)(l:∀W,cH S w0 W L->Sl W va 1 above.length (aH above))(e:∀W,cH S w0 W L->Sl W vr 1 row.length (aH row))(m:1<=colors∧colors<=1000000)(t:row.length<=1000000)
  (k:∀v W,cH S w0 W (kQ v (cm tag above row colors)::L)->K v W) :
  dZ ah 66 #[ad tag,va,vr,ad colors] w PK K:=by
 refine⟨Aw ?_⟩;unfold rB nz;have a:cH S w0 w (kQ cO []::L):=a.nilU 5 1;have n:(cm tag above row colors).length=row.length:=iz;refine loop (λvs W=>∃(i:Nat) (v:aq),vs=[v,ad (i:Int)]∧i<=row.length∧cH S w0 W (kQ v ((cm tag above row colors).take i)::L)) (λvs _=>row.length - n1 vs) ⟨0,cO,rfl,om,a⟩ ?_;clear a;rintro vs w3 ⟨i,v,rfl,hi,a⟩ _;simp only[nV,gd,rs,iN,bnx,lnx];rw[aZ atM (e w3 a.tail)]
 try simp only[rs]
 by_cases b:(i:Int) < (row.length:Int)
 case neg=>
  simp only[b,asW,i_f];rw[auG om] at a;exact k v w3 a
 have c:i < row.length:=om
 simp only[b,asX,i_t];obtain⟨p,f,g⟩:=alE (e w3 a.tail) c;have d:=qt (tag:=tag) (above:=above) (colors:=colors) c;have j:(cm tag above row colors).take (i+1)=(cm tag above row colors).take i++[row[i] - du tag above row (i:Int) colors]:=by
  rw[List.take_add_one,d];rfl
 have o:((cm tag above row colors).take i).length=i:=by rw[atF];omega
 refine cQ (λW=>cH S w0 W (kQ v ((cm tag above row colors).take i)::L)) a.drew ?_;refine gr _ f (iL _ (λW h=>g W (e W h.tail)) ?_);refine iH (.int .u8 ((du tag above row (i:Int) colors).toNat:Int)) (λW h=>(T8 tag above row va vr (i:Int) colors W om m (l W h.tail) (e W h.tail)).mono λv' w' ⟨q,r⟩=>⟨q,r▸h⟩) ?_;refine gr _ (λ_=>Ck) ?_;rw[adU];intro u a;refine JA _ a λx y a=>?_;refine bL 1 atM I3 dc a rfl (gS (a.at_ 0 rfl) dc rfl) bN om om λv' s a=>?_
 try simp only[rs]
 rw[aA om om];refine aS ⟨i+1,v',rfl,om,?_⟩ (by simp[n1,RowKit.intOf];omega);rw[j,fD];exact a.tail
theorem aaf (l:List UInt8)(c:UInt8):dj (l++[c])=dj l+min c.toNat (256 - c.toNat):=by
 unfold dj;rw[auJ,ayS];simp
theorem xh:∀l:List UInt8,dj l<=256*l.length
|[]=>atU _
|c::l=>by
  have:=xh l;unfold dj at this ⊢;rw[avC,axA,atW];omega
theorem ZW {row:List UInt8}(b:cH S w0 w L)(F:∀W,cH S w0 W L->Sl W va 1 above.length (aH above))(H:∀W,cH S w0 W L->Sl W vr 1 row.length (aH row))(I:1<=colors∧colors<=1000000)(M:row.length<=1000000)
  (k:∀W,cH S w0 W L->K (ad (mg above row colors:Int)) W) :
  dZ ah 65 #[va,vr,ad colors] w PK K:=by
 refine⟨AB ?_⟩;unfold rJ nz;refine loop (λvs W=>∃(tag least i:Nat),vs=[ad (tag:Int),ad (least:Int),ad (i:Int)]∧i<=5∧(0 < i->ij above row colors (i - 1)=(tag,least))∧cH S w0 W L) (λvs _=>5 - n2 vs) ⟨0,0,0,rfl,om,λh=>absurd h dc,b⟩ ?_;clear b;rintro vs w3 ⟨tag,least,i,rfl,hi,d,b⟩ _;simp only[nM,gd,rs,nz];by_cases g:(i:Int) < 5
 case neg=>
  simp only[g,asW,i_f];have A:i=5:=om
  subst A;have l:=d dc;have e:mg above row colors=tag:=by unfold mg;rw[show (4:Nat)=5 - 1 from rfl,l]
  rw[<-e];exact k w3 b
 simp only[g,asX,i_t];refine join λJ N=>?_;have next:∀(a z:Nat) W,ij above row colors i=(a,z)->cH S w0 W L->J [ad (a:Int),ad (z:Int)] W:=by
  intro a z W h b;refine N _ _ λ_=>?_;simp only[oC,gd,rs,nz];rw[aA om om];exact aS ⟨a,z,i+1,rfl,om,λ_=>h,b⟩ (by simp[n2,RowKit.intOf];omega)
 refine Sw (tag:=(i:Int)) b F H I M λv U b=>?_;have B:(cm (i:Int) above row colors).length=row.length:=iz;generalize O:cm (i:Int) above row colors=G at b B;refine loop (λvs W=>∃(s j:Nat),vs=[ad (s:Int),ad (j:Int)]∧j<=G.length∧s=dj (G.take j)∧cH S w0 W (kQ v G::L)) (λvs _=>G.length - n1 vs) ⟨0,0,rfl,om,rfl,b⟩ ?_;clear b;rintro vs C ⟨s,j,rfl,V,f,b⟩ _;simp only[oB,gd,rs,nz];rw[aZ atM (jR (b.at_ 0 rfl))]
 try simp only[rs]
 have Q:s<=256*j:=by
  have:=xh (G.take j);rw[atF] at this;rw[f];omega
 by_cases o:(j:Int) < (G.length:Int)
 ·simp only[o,asX,i_t];have q:j < G.length:=om
  obtain⟨p,r,t⟩:=alE (jR (b.at_ 0 rfl)) q;have u:∀(c:UInt8) (W:ao),(fZ 5 3 (.int .u8 (c.toNat:Int))).run ah W=.ok (.value (ad (c.toNat:Int))) W:=λc W=>by
   have:=c.toNat_lt;have R:=bA (P:=ah) (w:=W) (S:=5) (D:=3) (k:=.u8) (k':=.i64) (n:=(c.toNat:Int)) krx auQ
   rwa [aA om om] at R
  have T:=G[j].toNat_lt;refine cQ (λW=>cH S w0 W (kQ v G::L)) b.drew ?_;refine gr _ r (iL _ (λW h=>t W (jR (h.at_ 0 rfl))) (gr _ (u _) ?_));refine gr _ r (iL _ (λW h=>t W (jR (h.at_ 0 rfl))) (gr _ (u _) ?_));refine gr _ (λ_=>Ck) ?_;rw[aA om om];refine gr (ad (min (G[j].toNat:Int) (256 - (G[j].toNat:Int)))) (λW=>?_) ?_
  ·have e:(if (256 - (G[j].toNat:Int)) < (G[j].toNat:Int) then 256 - (G[j].toNat:Int) else (G[j].toNat:Int))=min (G[j].toNat:Int) (256 - (G[j].toNat:Int)):=by split<;>omega
   simp[mB,builtin,Builtin.min_,Builtin.min2,e]
  refine nF ?_;rw[aA om om];intro X b
  try simp only[rs]
  rw[aA om om];refine aS ⟨s+min G[j].toNat (256 - G[j].toNat),j+1,?_,om,?_,b⟩ (by simp[n1,RowKit.intOf];omega)
  ·congr 2
   ·congr 1;omega
  ·rw[auD q,aaf,f]
 ·simp only[o,asW,i_f];rw[auG om,<-O] at f;by_cases E:(i:Int)=0
  ·simp only[E,asX,gd,rs,i_t];have x:i=0:=om
   have:=next i s C (by rw[x,ij,f,x];rfl) b.tail
   rw[E] at this;exact this
  ·simp only[E,asW,gd,rs];obtain⟨m,rfl⟩:∃m,i=m+1:=⟨i - 1,om⟩;have l:=d om;rw[axQ] at l;by_cases y:(s:Int) < (least:Int)
   ·simp only[y,asX,i_t];exact next (m+1) s C (by rw[ij,l,asU (by rw[<-f];show s < least;omega),<-f]) b.tail
   ·simp only[y,asW,i_f];exact next tag least C (by rw[ij,l,asT (by rw[<-f];show ¬s < least;omega)]) b.tail
end
theorem K7 (x:Pm)(s:List UInt8)(w:ao)(hs:s.length<=1000000000):Ret ah 21 #[pmV x,ae s] w (λv w'=>v=M4 (if ct x s=0 then bn x s else []) (ct x s)∧Below w.heap.size w w'):=by
 refine aL λK I=>vR ?_;generalize d:ct x s=X at I;unfold ct at d;unfold oE nz;have bad:∀(e:Int) (W:ao),e=X->e≠0->Below w.heap.size w W->K (.returned (.tuple #[.string ⟨#[]⟩,ad e])) W:=λe W he J L=>I _ _ ⟨by rw[asT (by rw[<-he];exact J),<-he];rfl,L⟩;refine Ar x (Own.start w) λb w1 a=>?_;rw[I6 a 0 rfl];refine aJ a (HH x w1) ?_;rintro _ w2 rfl a;simp only[eF];by_cases h:x.ok
 case neg=>
  rw[asU h] at d;rw[asT h];simp only[show ai ((1:Int)≠0)=av from rfl,i_t];exact bad _ _ d dc a.done
 rw[asT (by simp[h])] at d;rw[asU h];simp only[show ai ((0:Int)≠0)=au from rfl,i_f];rw[cZ atB]
 try simp only[rs]
 by_cases A:1048576 < s.length
 ·rw[asU A] at d;simp only[show ai ((1048576:Int) < (s.length:Int))=av from atA om,i_t];exact bad _ _ d dc a.done
 rw[asT A] at d;simp only[show ai ((1048576:Int) < (s.length:Int))=au from asZ om,i_f];rw[E9,EN a 0 rfl]
 try simp only[rs]
 by_cases r:x.p=1
 ·rw[asU r] at d;simp only[r,asX,i_t];exact I _ _ ⟨by rw[<-d,asU rfl];unfold bn;rw[asU r];rfl,a.done⟩
 rw[asT r] at d;simp only[r,asW,i_f];rw[I6 a 0 rfl];refine aJ a (UB x w2) ?_;rintro _ w3 rfl a;rw[asU h];have M:=Pm.mul_pos h;have N:=h.2.2.2.2;have Y:1<=x.c∧x.c<=1000000:=⟨h.2.1,by have:=h.2.2.2.1;omega⟩;obtain⟨n,Z⟩:∃n:Nat,x.c*x.n=(n:Int):=⟨(x.c*x.n).toNat,om⟩;rw[Z] at M N d ⊢;rw[atC] at d;rw[cZ atB,Di om,aoI]
 try simp only[rs]
 by_cases O:s.length % n=0
 case neg=>
  rw[asU O] at d;simp only[show ai (((s.length % n:Nat):Int)≠0)=av from atA om,i_t];exact bad _ _ d dc a.done
 rw[asT (by simp[O])] at d;simp only[show ai (((s.length % n:Nat):Int)≠0)=au from asZ om,i_f];rw[E9,EN a 0 rfl]
 try simp only[rs]
 have a1:x.p=2∨(10<=x.p∧x.p<=15):=by
  rcases h.1 with h|h|h
  ·exact absurd h r
  ·exact .inl h
  ·exact .inr h
 have hdiv:s.length / n<=s.length:=axD _ _;obtain⟨q,hq⟩:∃q,s.length / n=q:=⟨_,rfl⟩;rw[hq] at d hdiv;have main:X=0->Ax [.slice aw 0 0,.slice aw 0 0,ad 0] w3 (λt w N1=>∀_:Sg,gG (ae s) (af b 0) (ad (n:Int)) (t.getD 0 undef) (t.getD 1 undef) (t.getD 2 undef) w N1 K):=by
  intro B;have i:∀P,Below w.heap.size w P->K (.returned (M4 (bn x s) 0)) P:=λP L=>I _ _ ⟨by rw[asU B,B],L⟩;unfold bn at i;rw[asT r,Z,atC] at i;generalize j:ez (ik x) x.c n x.head (s.length+1) s []=E at i;have a:=(a.nilU 5 1).nilU 5 1;have a:cH NoB w w3 [kQ cO [],kQ cO [],pmE b x]:=a;refine loop (λvs W=>∃(k:Nat) (prev out:List UInt8) (ov Q:aq) (e:Ent),vs=[Q,ov,ad (k:Int)]∧k<=s.length∧(s.length - k) % n=0∧out.length<=2*k∧prev.length<=1000000∧BRd e Q prev∧(∃f,s.length - k < f∧out++ez (ik x) x.c n x.head f (s.drop k) prev=E)∧cH NoB w W [kQ ov out,e,pmE b x]) (λvs _=>s.length - n2 vs) ⟨0,[],[],cO,cO,_,rfl,om,O,sm,sm,λW h=>jR h,⟨s.length+1,om,by rw[auI,auX];exact j⟩,a⟩ ?_;clear a j;rintro vs w6 ⟨k,prev,out,ov,Q,e,rfl,hk,u,a6,a7,C,⟨f,hf,j⟩,a⟩ _;obtain⟨f,rfl⟩:∃f',f=f'+1:=⟨f - 1,om⟩;rw[ez] at j;simp only[gG,gd,nz];rw[cZ atB]
  try simp only[rs]
  by_cases h0:s.length - k=0
  ·simp only[show ai ((k:Int) < (s.length:Int))=au from asZ om,i_f];rw[vG atM atS atB (jR (a.at_ 0 rfl))];rw[asU (auW om),atX] at j;rw[j];exact i _ a.done
  rw[asT (λe=>by have:=congrArg List.length e;rw[atG,awI] at this;omega),awS] at j;simp only[show ai ((k:Int) < (s.length:Int))=av from atA om,i_t];have R:n<=s.length - k:=Nat.le_of_dvd om (aAP u);rw[aA om om,Qs atB om om om,atC,show ((k:Int)+(n:Int)).toNat - k=n by omega];have l:((s.drop k).take n).length=n:=by rw[atF,atG];omega
  generalize (s.drop k).take n=row at l j;have y:ik x prev row=ju x.p x.c prev row:=rfl;refine GN atB atM atS a λo cap w7 a=>?_;rw[l];have hR:∀{ov:aq} {out:List UInt8} (W:ao),cH NoB w W [.mkr 5 o row,kQ ov out,e,pmE b x]->Sl W (bR o 0 n cap) 1 row.length (aH row):=λW a=>by
   have:=UO (cap:=cap) (a.at_ 0 rfl);rw[l] at this ⊢;exact this
  have D:BRd (.mkr 5 o row) (bR o 0 n cap) row:=by
   have:=@Na o cap row
   rwa [l] at this
  refine join λJ2 S=>?_;have last:∀(z:aq) (g:List UInt8) (tag:Int) (W:ao),tag=(ik x prev row:Nat)->g=out++(if x.head=1 then [UInt8.ofNat (ik x prev row)] else [])->g.length<=out.length+1->cH NoB w W [.mkr 5 o row,kQ z g,e,pmE b x]->J2 [z,ad tag] W:=by
   intro z g tag W m F a8 a;refine S _ _ λ_=>?_;simp only[lF,gd,nz];rw[fpm1,pm_1 a 3 rfl];refine Sw (tag:=tag) a (λW a=>C W (a.at_ 2 rfl)) hR Y om λv w8 a=>?_;have hG:(cm tag prev row x.c).length=row.length:=iz;refine bL 2 atM I3 dc a rfl (jR (a.at_ 0 rfl)) bN om om λv' w9 a=>?_
   try simp only[rs]
   rw[aA om om];have a:cH NoB w w9 [.mkr 5 o row,kQ v' (g++cm tag prev row x.c),e,pmE b x]:=by
    rw[fD];exact a.tail
   refine aS ⟨k+n,row,g++cm tag prev row x.c,v',_,_,by rw[show (k:Int)+(n:Int)=((k+n:Nat):Int) by omega],om,?_,by rw[asY];omega,om,D,⟨f,om,by rw[F,m,atJ,atJ];exact j⟩,(cH.swap a).sub (.cons_cons _ (.cons_cons _ (.cons _ (axE _))))⟩ (by simp[n2,RowKit.intOf];omega);rw[show s.length - (k+n)=s.length - k - n by omega];rw[aAQ R] at u;exact u
  rw[E9,EN a 3 rfl]
  try simp only[rs]
  by_cases A:2 < x.p
  case neg=>
   simp only[A,asW,i_f];have T:x.head=0:=by unfold Pm.head;rw[asT om]
   exact last ov out 1 w7 (by rw[y,ju,asU om];rfl) (by rw[T,asT dc,atX]) om a
  simp only[A,asX,i_t];rw[E9,EN a 3 rfl]
  try simp only[rs]
  rw[aA om om];refine join λJ3 U=>?_;have T:x.head=1:=by unfold Pm.head;rw[asU om]
  have tagged:∀(tag:Nat) (W:ao),tag=ik x prev row->cH NoB w W [.mkr 5 o row,kQ ov out,e,pmE b x]->J3 [ad (tag:Int)] W:=by
   intro tag W m a;refine U _ _ λ_=>?_;simp only[kU,gd,nz];refine aC (TL atS auQ tag W) |>.mpr ?_;refine JA (UInt8.ofNat tag) a λb8 w9 a=>?_;refine bL 2 atM I3 dc a rfl (gS (a.at_ 0 rfl) dc rfl) bN om om λv' V a=>?_;refine last v' (out++[UInt8.ofNat tag]) (tag:Int) V (by rw[m]) (by rw[T,asU rfl,m]) (by rw[asY,avA];omega) ?_;rw[fD];exact a.tail
  try simp only[rs]
  by_cases G:x.p - 10=5
  ·simp only[G,asX,i_t];rw[fpm1,pm_1 a 3 rfl];refine ZW a (λW a=>C W (a.at_ 2 rfl)) hR Y om λw8 a=>?_;exact tagged _ w8 (by rw[y,ju,asT om,asU om]) a
  ·simp only[G,asW,i_f];rw[show x.p - 10=(((x.p - 10).toNat:Nat):Int) by omega];exact tagged _ w7 (by rw[y,ju,asT om,asT om]) a
 by_cases H:2 < x.p
 ·simp only[H,asX,gd,rs];rw[cZ atB,cZ atB,Ih om,show ((s.length:Nat):Int).tdiv (n:Int)=((s.length / n:Nat):Int) from rfl,hq,aA om om]
  try simp only[rs]
  rw[aA om om];by_cases h5:1048576 < s.length+q
  ·rw[asU ⟨om,h5⟩] at d;simp only[show ai ((1048576:Int) < (s.length:Int)+(q:Int))=av from atA om,i_t];exact bad _ _ d dc a.done
  ·rw[asT om] at d;simp only[show ai ((1048576:Int) < (s.length:Int)+(q:Int))=au from asZ om,i_f];exact main d.symm
 ·rw[asT om] at d;simp only[H,asW,gd,rs,i_f];exact main d.symm
theorem UJ (s:List UInt8)(w:ao)(a:s.length<=1000000):Ret ah 61 #[ae s] w (λv w'=>v=ae (Oc.hex s++[62])∧Below w.heap.size w w'):=by
 refine aL λK b=>Bm ?_;unfold tQ nz;refine aJ (Own.start w) (abH s w a) ?_;rintro _ d rfl c;have e:(Oc.hex s).length<=2000000:=by rw[I5];omega
 rw[show (Value.string ⟨#[62]⟩)=ae ([62]:List UInt8) from rfl,Pf (by simp;omega)];exact b _ _ ⟨rfl,c.done⟩
theorem HT (s:List UInt8)(a:Nat)(w:ao)(j:a < s.length)(o:s.length<=1000000000):Ret ah 134 #[ae s,ad (a:Int)] w (λv w'=>v=ad (bg (s.drop a):Int)∧Below w.heap.size w w'):=by
 refine aL λK f=>yD ?_;unfold qD nz;have m:(s.drop a).getD 0 0=s[a]:=by rw[atD,awJ,auU,atI j];rfl
 have g:bg (s.drop a)=fx s[a] 128 (s.drop a):=by unfold bg;rw[m]
 rw[g] at f;refine loop (λvs W=>∃i:Nat,vs=[ad (i:Int)]∧i<=128∧a+i<=s.length∧i+fx s[a] (128 - i) (s.drop (a+i))=fx s[a] 128 (s.drop a)∧Own w W []) (λvs _=>128 - n0 vs) ⟨0,rfl,om,om,by rw[atK];rfl,Own.start w⟩ ?_;rintro vs p ⟨i,rfl,hi,n,b,d⟩ _;simp only[mI,gd,nz];refine cQ (λW=>Own w W []) d.drew (Iq ?_);have stop:(i=128∨a+i=s.length)->fx s[a] (128 - i) (s.drop (a+i))=0:=by
  rintro (h|h)
  ·rw[h];unfold fx;rfl
  ·rw[auW om,xg]
 by_cases k:(i:Int) < 128
 case neg=>
  rw[asZ k];simp only[gq];refine Dr ?_;simp only[gq];refine Dr ?_;intro w2 d;rw[i_f];rw[stop (.inl om),auU] at b;exact f _ _ ⟨by rw[b],d.done⟩
 rw[atA k];simp only[gq];refine nF ?_;rw[aA om om,show (a:Int)+i=((a+i:Nat):Int) by omega];refine Pq atB (Iq (LO ?_));by_cases l:((a+i:Nat):Int) < (s.length:Int)
 case neg=>
  rw[asZ l];simp only[gq];refine Dr ?_;intro w2 d;rw[i_f];rw[stop (.inr om),auU] at b;exact f _ _ ⟨by rw[b],d.done⟩
 rw[atA l];simp only[gq];have e:a+i < s.length:=om
 refine nF ?_;rw[aA om om,show (a:Int)+i=((a+i:Nat):Int) by omega];refine q_ix (c:=s[a+i]) atB om (by rw[atC];exact atI e) ?_;refine q_ix (c:=s[a]) atB om (by rw[atC];exact atI j) (q_eq (LO ?_));intro w2 d;rw[auL e,show 128 - i=(128 - (i+1))+1 by omega,fx] at b;by_cases he:s[a+i]=s[a]
 ·rw[asU he] at b;rw[atA (show (s[a+i].toNat:Int)=(s[a].toNat:Int) by rw[he]),i_t]
  try simp only[rs]
  rw[aA om om];exact aS ⟨i+1,rfl,om,om,by rw[<-b,<-awP];omega,d⟩ (by simp[n0,RowKit.intOf];omega)
 ·rw[asT he] at b;rw[asZ (show ¬(s[a+i].toNat:Int)=(s[a].toNat:Int) fromλh=>he (ayP.1 om)),i_f];exact f _ _ ⟨by rw[<-b];rfl,d.done⟩
section
variable {w:ao}{PK:PKT}{K:VWP}{S:Nat->Prop}{w0:ao}{L:List Ent}
theorem aqK (c d:UInt8)(a:cH S w0 w L)(k:∀b w',cH S w0 w' (.cells b (aH [c,d]) 5::L)->K (bR b 0 2 2) w'):DoX ah (aT 53 2 #[(0,.int .u8 (c.toNat:Int)),(1,.int .u8 (d.toNat:Int))]) w PK K:=
 bI (λb=>bR b 0 2 2) (aH [c,d]) 5 (λ_=>by kernel_rfl) a k
end
section
variable {w:ao}{K:Ending->ao->Prop}{N1:List aq->ao->Prop}{S:Nat->Prop}{w0:ao}{L:List Ent}
theorem VJ {a n:Nat}{u:aq}{l s:List UInt8}(hu:u=ad ((a+n:Nat):Int))(c:cH S w0 w (kQ v l::L))(g:1<=n)(h:n<=128)(i:a+n<=s.length)(j:s.length<=1000000)(m:l.length<=10000000)
  (k:∀v' W,cH S w0 W (kQ v' (l++[UInt8.ofNat (n - 1)]++(s.drop a).take n)::L)->N1 [v',ad ((a+n:Nat):Int)] W) :
  Au w (λS3 w=>
   HDo ah S3 (iA .sub 3 (ad (n:Int)) (ad 1)) λt49=>
   HDo ah S3 (fZ 3 5 t49) λt50=>
   HDo ah S3 (iA .add 3 (ad (a:Int)) (ad (n:Int))) λt57=>
   HDo ah S3 (cT 9 (ae s) (ax (ad (a:Int))) (ax t57) aw) λt58=>
   DoX ah (aT 53 1 #[(0,t50)]) w (ay 11 (pk K)) λt51 w=>
   S3 w∧(DoX ah (mB .append #[53,53] 53 #[au,au] #[v,t51]) w (ay 11 (pk K)) λt52 w=>
   S3 w∧(DoX ah (mB .append #[53,9] 53 #[au,au] #[t52,t58]) w (ay 11 (pk K)) λt59 w=>
   S3 w∧(N1 [t59,u] w)))):=by
 have c:=c.drew;refine⟨λ_=>True,trivial,?_⟩;refine aI _ (λ_=>Ck) ?_;rw[aA om om,show (n:Int) - 1=((n - 1:Nat):Int) by omega];refine aI _ (λW=>TL atS auQ (n - 1) W) ?_;refine aI _ (λ_=>OS) ?_;rw[aA om om];refine aI _ (λ_=>mY atB om om om) ?_;rw[atC,show ((a:Int)+(n:Int)).toNat - a=n by omega];refine JA _ c λb w3 c=>⟨trivial,?_⟩;refine bL 1 atM I3 dc c rfl (gS (c.at_ 0 rfl) dc rfl) bN om om λv' e c=>⟨trivial,?_⟩;have c:cH S w0 e (kQ v' (l++[UInt8.ofNat (n - 1)])::L):=by rw[fD];exact c.tail
 refine GJ 0 atM atB I3 atS krx c rfl (by rw[asY,atF,avA];omega) λd f c=>⟨trivial,?_⟩;rw[hu];refine k d f ?_;rw[fD];exact c
end
theorem UW (s:List UInt8)(w:ao)(o:s.length<=1000000):Ret ah 63 #[ae s] w (λv w'=>v=ae (ig s)∧Below w.heap.size w w'):=by
 refine aL λK B=>Bz ?_;unfold uL nz;have d:Own w w [kQ cO []]:=(Own.start w).nilU 5 1;refine loop (λvs W=>∃(a:Nat) (v:aq) (l:List UInt8),vs=[v,ad (a:Int)]∧a<=s.length∧l.length<=2*a∧(∃f,s.length - a < f∧l++fy f (s.drop a)=ig s)∧Own w W [kQ v l]) (λvs _=>s.length - n1 vs) ⟨0,cO,[],rfl,om,sm,⟨s.length+1,om,by rw[auI];rfl⟩,d⟩ ?_;clear d;rintro vs w2 ⟨a,v,l,rfl,E,F,⟨f,G,j⟩,d⟩ _;simp only[qC,gd,nz];obtain⟨f,rfl⟩:∃f',f=f'+1:=⟨f - 1,om⟩;unfold fy at j;rw[cZ atB]
 try simp only[rs]
 by_cases p:a < s.length
 case neg=>
  rw[asU (auW om)] at j;simp only[show ai ((a:Int) < (s.length:Int))=au from asZ om,i_f];refine JA 128 d λb w3 d=>?_;refine bL 1 atM I3 dc d rfl (gS (d.at_ 0 rfl) dc rfl) bN om om λv' k d=>?_;have d:Own w k [kQ v' (l++[128])]:=by rw[fD];exact d.tail
  rw[vG atM atS atB (jR (d.at_ 0 rfl)),j];exact B _ _ ⟨rfl,d.done⟩
 have q:¬s.drop a=[]:=by
  intro h;have:=congrArg List.length h;rw[atG] at this;simp at this;omega
 rw[asT q] at j;simp only[show ai ((a:Int) < (s.length:Int))=av from atA om,i_t];refine aJ d (HT s a w2 p om) ?_;rintro _ w3 rfl d;have r:bg (s.drop a)<=128∧bg (s.drop a)<=(s.drop a).length:=nm _ _ _;rw[atG] at r;have C:(s.drop a).getD 0 0=s[a]:=by rw[atD,awJ,auU,atI p];rfl
 try simp only[rs]
 by_cases x:3<=bg (s.drop a)
 ·rw[asU x,C] at j;simp only[show ai ((3:Int)<=(bg (s.drop a):Int))=av from atA om,i_t];generalize bg (s.drop a)=n at *
  try simp only[rs]
  rw[aA om om,show (257:Int) - (n:Int)=((257 - n:Nat):Int) by omega];refine aC (TL atS auQ (257 - n) w3) |>.mpr ?_;rw[NW (c:=s[a]) atB om (by rw[atC];exact atI p)];refine aqK _ _ d λb k d=>?_;refine bL 1 atM I3 dc d rfl (d.sl 0 rfl 1 2 2 rfl) bN om om λv' D d=>?_
  try simp only[rs]
  rw[aA om om,show (a:Int)+n=((a+n:Nat):Int) by omega];rw[awS,<-atJ] at j;refine aS ⟨a+n,v',_,rfl,om,?_,⟨f,om,j⟩,?_⟩ (by simp[n1,RowKit.intOf];omega)
  ·rw[asY];show l.length+2<=_;omega
  ·rw[fD];exact d.tail
 rw[asT x] at j;simp only[show ai ((3:Int)<=(bg (s.drop a):Int))=au from asZ om,i_f];have g:=pj 128 1 (s.drop a) (by rw[atG];omega);change 1<=cj (s.drop a)∧cj (s.drop a)<=_ at g;rw[atG] at g;have t:im 129 0 (s.drop a)=cj (s.drop a):=by
  rw[im,asU ⟨by rw[atG];omega,by rw[auX];omega⟩];rfl
 rw[<-t] at j g;generalize e:im 129 0 (s.drop a)=m at j g;refine loop (λvs W=>∃i:Nat,vs=[ad (i:Int)]∧i<=m∧im (129 - i) i (s.drop a)=m∧Own w W [kQ v l]) (λvs _=>m - n0 vs) ⟨0,rfl,om,e,d⟩ ?_;clear d e;rintro vs k ⟨i,rfl,hi,e,d⟩ _;simp only[pN,gd,rs,iN,dx,bnx,gtx,ctx,etx];rw[show 129 - i=(128 - i)+1 by omega,im,atG,awS] at e;have next:m=i->∀(v':aq) (W:ao),Own w W [kQ v' (l++[UInt8.ofNat (i - 1)]++(s.drop a).take i)]->IJ (λvs W=>∃(a:Nat) (v:aq) (l:List UInt8),vs=[v,ad (a:Int)]∧a<=s.length∧l.length<=2*a∧(∃f,s.length - a < f∧l++fy f (s.drop a)=ig s)∧Own w W [kQ v l]) (λvs _=>s.length - n1 vs) [v,ad (a:Int)] w2 [v',ad ((a+i:Nat):Int)] W:=by
  intro u v' W d;subst u;rw[awS,<-atJ,<-atJ] at j;refine aS ⟨a+m,v',_,rfl,om,?_,⟨f,om,j⟩,d⟩ (by simp[n1,RowKit.intOf];omega);rw[asY,asY,atF,avA];omega
 by_cases y:(i:Int) < 128
 case neg=>
  rw[asT om] at e;simp only[y,asW,gd,rs,i_f];refine VJ (by first|rfl|(rw[aA om om];first|done|rfl|(congr 1;omega))|(congr 1;omega)) d om om om o om (next e.symm)
 simp only[y,asX,gd,rs];rw[cZ atB,aA om om]
 try simp only[rs]
 by_cases z:(a:Int)+(i:Int) < (s.length:Int)
 case neg=>
  rw[asT om] at e;simp only[z,asW,gd,rs,i_f];refine VJ (by first|rfl|(rw[aA om om];first|done|rfl|(congr 1;omega))|(congr 1;omega)) d om om om o om (next e.symm)
 simp only[z,asX,gd,rs];rw[aA om om,show (a:Int)+(i:Int)=((a+i:Nat):Int) by omega];refine aJ d (HT s (a+i) k om om) ?_;rintro _ D rfl d
 try simp only[rs]
 by_cases A:bg (s.drop (a+i)) < 3
 ·rw[asU ⟨om,A⟩] at e;simp only[show ai ((bg (s.drop (a+i)):Int) < 3)=av from atA om,i_t]
  try simp only[rs]
  rw[aA om om];have hle:=(pj (128 - i) (i+1) (s.drop a) (by rw[atG];omega)).1;refine aS ⟨i+1,rfl,om,by rw[show 129 - (i+1)=128 - i by omega];exact e,d⟩ (by simp[n0,RowKit.intOf];omega)
 ·rw[asT (λh=>A h.2)] at e;simp only[show ai ((bg (s.drop (a+i)):Int) < 3)=au from asZ om,i_f];refine VJ (by first|rfl|(rw[aA om om];first|done|rfl|(congr 1;omega))|(congr 1;omega)) d om om om o om (next e.symm)
end
section
open Go
theorem arP {p:UInt8->Prop}(h:∀n:Fin 256,p (UInt8.ofNat n.val))(c:UInt8):p c:=by
 have:=h ⟨c.toNat,c.toNat_lt⟩;simpa using this
theorem zy (c:UInt8):Lx.digit (Oc.Ib (c.toNat / 16))=((c.toNat / 16:Nat):Int)∧Lx.digit (Oc.Ib (c.toNat % 16))=((c.toNat % 16:Nat):Int)∧Oc.Dp (Oc.Ib (c.toNat / 16))=au∧Oc.Dp (Oc.Ib (c.toNat % 16))=au∧Oc.Ib (c.toNat / 16)≠62∧Oc.Ib (c.toNat % 16)≠62:=
 arP (p:=λc=>Lx.digit (Oc.Ib (c.toNat / 16))=((c.toNat / 16:Nat):Int)∧Lx.digit (Oc.Ib (c.toNat % 16))=((c.toNat % 16:Nat):Int)∧Oc.Dp (Oc.Ib (c.toNat / 16))=au∧Oc.Dp (Oc.Ib (c.toNat % 16))=au∧Oc.Ib (c.toNat / 16)≠62∧Oc.Ib (c.toNat % 16)≠62) (by decide +kernel) c
theorem xi (most:Nat)(r:List UInt8):∀(s out:List UInt8),out.length+s.length<=most->gj most (Oc.hex s++62::r) (-1) out=(out++s,0)
|[],out,_=>by
  show gj most (62::r) (-1) out=_;unfold gj;rw[asT dc,asU rfl,asU dc,atX]
|c::s,out,h=>by
  obtain⟨a,b,d,f,g,i⟩:=zy c;have j:c.toNat < 256:=c.toNat_lt;simp only[atW] at h;have e:Oc.hex (c::s)++62::r=Oc.Ib (c.toNat / 16)::Oc.Ib (c.toNat % 16)::(Oc.hex s++62::r):=rfl;rw[e];unfold gj;rw[d,asT dc,asT g,a,asT om,asU dc];unfold gj;rw[f,asT dc,asT i,b,asT om,asT om,asT om];have k:(16*((c.toNat / 16:Nat):Int)+((c.toNat % 16:Nat):Int)).toNat=c.toNat:=om
  rw[k,UInt8.ofNat_toNat,xi most r s (out++[c]) (by simp;omega),atJ];rfl
theorem rj {D:Nat->List UInt8×Int}{s:List UInt8}{most:Int}(hm:(s.length:Int)<=most)(a:s.length<=1048576)(h:∀m,s.length<=m->D m=(s,0)):iu D most=(s,0):=by
 unfold iu;rw[asT om,h _ om]
theorem aag {s:List UInt8}{most:Int}(hm:(s.length:Int)<=most)(a:s.length<=1048576):mi (Oc.hex s++[62]) most=(s,0):=
 rj hm a λm h=>by
  rw[xi m [] s [] (by simpa using h)];rfl
theorem xj (c:UInt8):∀(f:Nat) (s:List UInt8),s.take (fx c f s)=List.replicate (fx c f s) c
|0,s=>by unfold fx;simp
|f+1,[]=>by unfold fx;simp
|f+1,d::r=>by
  unfold fx;by_cases h:d=c
  ·rw[asU h,ayB,xj c f r,azR,h]
  ·rw[asT h];simp
theorem xl (c:UInt8):∀n,Lib.repeatL [c] n=List.replicate n c
|0=>rfl
|n+1=>by
  show [c]++Lib.repeatL [c] n=_;rw[xl c n,azR];rfl
theorem sx {s:List UInt8}(h:s≠[]):1<=cj s∧cj s<=min s.length 128:=by
 have a:0 < s.length:=awL.2 h;unfold cj;exact pj 128 1 s om
theorem rk (most:Nat):∀(g:Nat) (s out:List UInt8) (f:Nat),s.length < g->out.length+s.length<=most->(fy g s).length<=f->gp most f (fy g s) out=(out++s,0)
|0,_,_,_,h,_,_=>by omega
|g+1,s,out,f,q,hm,a=>by
  unfold fy at a ⊢;by_cases c:s=[]
  ·rw[asU c] at a ⊢;obtain⟨f,rfl⟩:∃j,f=j+1:=⟨f - 1,by simp at a;omega⟩;rw[c];unfold gp;simp
  rw[asT c] at a ⊢;have r:0 < s.length:=awL.2 c;have o:=nm (s.getD 0 0) 128 s;by_cases m:3<=bg s
  ·rw[asU m] at a ⊢;simp only[asY,atW,awI] at a;obtain⟨f,rfl⟩:∃j,f=j+1:=⟨f - 1,om⟩;have b:=xj (s.getD 0 0) 128 s;have e:s.take (bg s)++s.drop (bg s)=s:=auR ..
   have p:(s.drop (bg s)).length=s.length - bg s:=atG;change bg s<=128∧bg s<=s.length at o;change s.take (bg s)=List.replicate (bg s) (s.getD 0 0) at b;have i:(UInt8.ofNat (257 - bg s)).toNat=257 - bg s:=by
    rw[axN,avF om]
   have d:=rk most g (s.drop (bg s)) (out++s.take (bg s)) f om (by rw[asY,atF];omega) om;rw[atJ,e] at d;rw[<-d];show gp most (f+1) (UInt8.ofNat (257 - bg s)::([s.getD 0 0]++fy g (s.drop (bg s)))) out=_
   conv=>lhs;unfold gp
   dsimp only;rw[i,asT om,asT om,asT sm,asT om,show 257 - (257 - bg s)=bg s by omega];have k:([s.getD 0 0]++fy g (s.drop (bg s))).take 1=[s.getD 0 0]:=rfl;have l:([s.getD 0 0]++fy g (s.drop (bg s))).drop 1=fy g (s.drop (bg s)):=rfl;rw[k,l,xl,b]
  ·rw[asT m] at a ⊢;simp only[asY,atW,awI] at a;obtain⟨f,rfl⟩:∃j,f=j+1:=⟨f - 1,om⟩;have n:=sx c;have e:s.take (cj s)++s.drop (cj s)=s:=auR ..
   have lt:(s.take (cj s)).length=cj s:=by rw[atF];omega
   have p:(s.drop (cj s)).length=s.length - cj s:=atG;have i:(UInt8.ofNat (cj s - 1)).toNat=cj s - 1:=by
    rw[axN,avF om]
   have d:=rk most g (s.drop (cj s)) (out++s.take (cj s)) f om (by rw[asY];omega) om;rw[atJ,e] at d;rw[<-d];show gp most (f+1) (UInt8.ofNat (cj s - 1)::(s.take (cj s)++fy g (s.drop (cj s)))) out=_
   conv=>lhs;unfold gp
   dsimp only;rw[i,show cj s - 1+1=cj s by omega,asT om,asU om,asT (by rw[asY];omega),asT om];have k:(s.take (cj s)++fy g (s.drop (cj s))).take (cj s)=s.take (cj s):=avW lt;have l:(s.take (cj s)++fy g (s.drop (cj s))).drop (cj s)=fy g (s.drop (cj s)):=List.drop_left' lt;rw[k,l]
def dz (p:List UInt8):Nat:=((p.getD 0 0).toNat*256+(p.getD 1 0).toNat)*65536+(p.getD 2 0).toNat*256+(p.getD 3 0).toNat
def jl (p:List UInt8):List UInt8:=if dz p=0∧p.length=4 then [122] else (List.range (p.length+1)).map λk=>UInt8.ofNat (33+dz p / iw.getD k 0 % 85)
def jh:Nat->List UInt8->List UInt8
|0,_=>[]
|f+1,s=>if s=[] then [126,62] else jl (s.take 4)++jh f (s.drop 4)
def km (s:List UInt8):List UInt8:=jh (s.length+1) s
theorem sy (n:Nat)(h:n < 85):Oc.Dp (UInt8.ofNat (33+n))=au∧(UInt8.ofNat (33+n)).toNat=33+n∧(UInt8.ofNat (33+n) - 33).toNat=n∧UInt8.ofNat (33+n) - 33=UInt8.ofNat n:=by
 have a:∀n:Fin 85,Oc.Dp (UInt8.ofNat (33+n.val))=au∧(UInt8.ofNat (33+n.val)).toNat=33+n.val∧(UInt8.ofNat (33+n.val) - 33).toNat=n.val∧UInt8.ofNat (33+n.val) - 33=UInt8.ofNat n.val:=by decide +kernel
 exact a ⟨n,h⟩
theorem ke {n:Nat}(h:n < 85){r g out:List UInt8}(d:g.length < 4):dy mo (UInt8.ofNat (33+n)::r) g out=dy mo r (g++[UInt8.ofNat n]) out:=by
 obtain⟨a,b,e,c⟩:=sy n h
 conv=>lhs;unfold dy
 rw[a,asT dc,b,asT om,asU ⟨om,om⟩,asU om,c]
theorem aah {n:Nat}(h:n < 85){r g out:List UInt8}(d:g.length=4)(e:cr (g++[UInt8.ofNat n]) < 4294967296)(hm:out.length+4<=mo):dy mo (UInt8.ofNat (33+n)::r) g out=dy mo r [] (out++bp (cr (g++[UInt8.ofNat n]))):=by
 obtain⟨a,b,f,c⟩:=sy n h
 conv=>lhs;unfold dy
 rw[a,asT dc,b,asT om,asU ⟨om,om⟩,asT om,c,asT om,asT om]
theorem pn (p:List UInt8):dz p < 4294967296:=by
 have a:=(p.getD 0 0).toNat_lt;have b:=(p.getD 1 0).toNat_lt;have c:=(p.getD 2 0).toNat_lt;have d:=(p.getD 3 0).toNat_lt;unfold dz;omega
theorem zz {p:List UInt8}(hp:p.length=4):∃a b c d,p=[a,b,c,d]:=by
 rcases p with _|⟨a,_|⟨b,_|⟨c,_|⟨d,_|⟨e,t⟩⟩⟩⟩⟩
 case cons.cons.cons.cons.nil=>exact⟨a,b,c,d,rfl⟩
 all_goals simp at hp
theorem lu {n:Nat}{x:UInt8}(h:n % 256=x.toNat):UInt8.ofNat n=x:=by
 rw[<-ayP,axN];exact h
theorem AI {p:List UInt8}(hp:p.length=4){v:Nat}(f:v=dz p):bp v=p:=by
 obtain⟨a,b,c,d,rfl⟩:=zz hp;have g:=a.toNat_lt;have h:=b.toNat_lt;have i:=c.toNat_lt;have j:=d.toNat_lt;have e:dz [a,b,c,d]=(a.toNat*256+b.toNat)*65536+c.toNat*256+d.toNat:=rfl;show [UInt8.ofNat (v / 16777216),UInt8.ofNat (v / 65536),UInt8.ofNat (v / 256),UInt8.ofNat v]=_;rw[f,e];rw[lu (x:=a) om,lu (x:=b) om,lu (x:=c) om,lu (x:=d) om]
theorem rl (v:Nat):bp v=[UInt8.ofNat (v / 16777216),UInt8.ofNat (v / 65536),UInt8.ofNat (v / 256),UInt8.ofNat v]:=rfl
theorem xw (a b c d e:UInt8):cr [a,b,c,d,e]=(((a.toNat*85+b.toNat)*85+c.toNat)*85+d.toNat)*85+e.toNat:=rfl
theorem xx (a b c d:UInt8):cr [a,b,c,d]=(((a.toNat*85+b.toNat)*85+c.toNat)*85+d.toNat)*85+84:=rfl
theorem xy (a b c:UInt8):cr [a,b,c]=(((a.toNat*85+b.toNat)*85+c.toNat)*85+84)*85+84:=rfl
theorem xz (a b:UInt8):cr [a,b]=(((a.toNat*85+b.toNat)*85+84)*85+84)*85+84:=rfl
theorem ix {n:Nat}(h:n < 85):(UInt8.ofNat n).toNat=n:=by rw[axN,avF om]
theorem aai {v:Nat}(d:v < 4294967296):cr [UInt8.ofNat (v / 52200625 % 85),UInt8.ofNat (v / 614125 % 85),UInt8.ofNat (v / 7225 % 85),UInt8.ofNat (v / 85 % 85),UInt8.ofNat (v / 1 % 85)]=v:=by
 have h:∀n:Nat,n % 85 < 85:=λn=>awC _ dc;rw[xw,ix (h _),ix (h _),ix (h _),ix (h _),ix (h _),Nat.div_one];have a:v / 7225=v / 85 / 85:=by rw[awH]
 have b:v / 614125=v / 85 / 85 / 85:=by rw[awH,awH]
 have c:v / 52200625=v / 85 / 85 / 85 / 85:=by rw[awH,awH,awH]
 rw[a,b,c];omega
theorem rm {g out p:List UInt8}(a:g.length=p.length+1)(c:0 < p.length)(d:cr g < 4294967296)(hm:out.length+p.length<=mo)(b:(bp (cr g)).take p.length=p):dy mo [126,62] g out=(out++p,0):=by
 unfold dy;rw[asT dc,asT (λh=>absurd h.1 dc),asT (λh=>absurd h.2 dc),asU dc];unfold ky;rw[asT sm,asT (λh=>h.elim (λh=>h rfl) (λh=>by omega)),asT om,asT om,asT om,a,axQ,b]
theorem xm (mo:Nat):∀(f:Nat) (s out:List UInt8),s.length < f->out.length+s.length<=mo->dy mo (jh f s) [] out=(out++s,0)
|0,_,_,h,_=>by omega
|f+1,s,out,F,hm=>by
  unfold jh;by_cases o:s=[]
  ·rw[asU o,o,atX];unfold dy;rw[asT dc,asT (λh=>absurd h.1 dc),asT (λh=>absurd h.2 dc),asU dc];unfold ky;rw[asT sm,asT (λh=>h.elim (λh=>h rfl) (λh=>absurd h dc)),asU (show ([]:List UInt8).length=0 from rfl)]
  rw[asT o];have G:0 < s.length:=awL.2 o;have g:∀n:Nat,n % 85 < 85:=λn=>awC _ dc;by_cases A:4<=s.length
  ·have r:s.take 4++s.drop 4=s:=auR ..
   have lt:(s.take 4).length=4:=by rw[atF];omega
   have H:(s.drop 4).length=s.length - 4:=atG;have q:=xm mo f (s.drop 4) (out++s.take 4) om (by rw[asY];omega);rw[atJ,r] at q;have l:=pn (s.take 4);have m:=AI lt rfl;unfold jl;by_cases u:dz (s.take 4)=0∧(s.take 4).length=4
   ·rw[asU u];rw[u.1] at m;have e:s.take 4=[0,0,0,0]:=by rw[<-m];rfl
    rw[e] at q;show dy mo (122::jh f (s.drop 4)) [] out=_;unfold dy;rw[asT dc,asU ⟨dc,rfl⟩,asT om,q]
   ·rw[asT u,lt];generalize I:dz (s.take 4)=v at l m;show dy mo (UInt8.ofNat (33+v / 52200625 % 85)::UInt8.ofNat (33+v / 614125 % 85)::UInt8.ofNat (33+v / 7225 % 85)::UInt8.ofNat (33+v / 85 % 85)::UInt8.ofNat (33+v / 1 % 85)::jh f (s.drop 4)) [] out=_;rw[ke (g _) dc,ke (g _) sm,ke (g _) sm,ke (g _) sm];have hw:=aai l;rw[aah (g _) sm (by show cr [_,_,_,_,_] < _;rw[hw];exact l) om];show dy mo _ [] (out++bp (cr [_,_,_,_,_]))=_;rw[hw,m,q]
  ·have r:s.take 4=s:=auG om;have B:s.drop 4=[]:=ayR om;have C:jh f []=[126,62]:=by
    obtain⟨f,rfl⟩:∃j,f=j+1:=⟨f - 1,om⟩;unfold jh;rw[asU rfl]
   rw[r,B,C];unfold jl;rw[asT om];rcases s with _|⟨a,_|⟨b,_|⟨c,_|⟨d,t⟩⟩⟩⟩
   ·exact absurd rfl o
   ·have z:=a.toNat_lt;have l:dz [a]=a.toNat*16777216:=by show (a.toNat*256+0)*65536+0*256+0=_;omega
    rw[l];obtain⟨v,w⟩:∃v,v=a.toNat*16777216:=⟨_,rfl⟩;rw[<-w];show dy mo (UInt8.ofNat (33+v / 52200625 % 85)::UInt8.ofNat (33+v / 614125 % 85)::[126,62]) [] out=_;rw[ke (g _) dc,ke (g _) sm];have e:cr [UInt8.ofNat (v / 52200625 % 85),UInt8.ofNat (v / 614125 % 85)]=v / 614125*614125+614124:=by
     rw[xz,ix (g _),ix (g _)];have p:v / 52200625=v / 614125 / 85:=by rw[awH]
     rw[p];omega
    have i:v<=v / 614125*614125+614124:=om
    have k:v / 614125*614125+614124 < v+614125:=om
    generalize v / 614125*614125+614124=X at e i k;refine rm rfl sm ?_ hm ?_
    ·show cr [_,_] < _;rw[e];omega
    ·show (bp (cr [_,_])).take 1=_;rw[e,rl,lu (x:=a) om];rfl
   ·have z:=a.toNat_lt;have D:=b.toNat_lt;have l:dz [a,b]=(a.toNat*256+b.toNat)*65536:=by show (a.toNat*256+b.toNat)*65536+0*256+0=_;omega
    rw[l];generalize w:(a.toNat*256+b.toNat)*65536=v;show dy mo (UInt8.ofNat (33+v / 52200625 % 85)::UInt8.ofNat (33+v / 614125 % 85)::UInt8.ofNat (33+v / 7225 % 85)::[126,62]) [] out=_;rw[ke (g _) dc,ke (g _) sm,ke (g _) sm];have e:cr [UInt8.ofNat (v / 52200625 % 85),UInt8.ofNat (v / 614125 % 85),UInt8.ofNat (v / 7225 % 85)]=v / 7225*7225+7224:=by
     rw[xy,ix (g _),ix (g _),ix (g _)];have y:v / 614125=v / 7225 / 85:=by rw[awH]
     have p:v / 52200625=v / 7225 / 85 / 85:=by rw[awH,awH]
     rw[y,p];omega
    have i:v<=v / 7225*7225+7224:=om
    have k:v / 7225*7225+7224 < v+7225:=om
    generalize v / 7225*7225+7224=X at e i k;refine rm rfl sm ?_ hm ?_
    ·show cr [_,_,_] < _;rw[e];omega
    ·show (bp (cr [_,_,_])).take 2=_;rw[e,rl,lu (x:=a) om,lu (x:=b) om];rfl
   ·have z:=a.toNat_lt;have D:=b.toNat_lt;have J:=c.toNat_lt;have l:dz [a,b,c]=(a.toNat*256+b.toNat)*65536+c.toNat*256:=by show (a.toNat*256+b.toNat)*65536+c.toNat*256+0=_;omega
    rw[l];generalize w:(a.toNat*256+b.toNat)*65536+c.toNat*256=v;show dy mo (UInt8.ofNat (33+v / 52200625 % 85)::UInt8.ofNat (33+v / 614125 % 85)::UInt8.ofNat (33+v / 7225 % 85)::UInt8.ofNat (33+v / 85 % 85)::[126,62]) [] out=_;rw[ke (g _) dc,ke (g _) sm,ke (g _) sm,ke (g _) sm];have e:cr [UInt8.ofNat (v / 52200625 % 85),UInt8.ofNat (v / 614125 % 85),UInt8.ofNat (v / 7225 % 85),UInt8.ofNat (v / 85 % 85)]=v / 85*85+84:=by
     rw[xx,ix (g _),ix (g _),ix (g _),ix (g _)];have E:v / 7225=v / 85 / 85:=by rw[awH]
     have y:v / 614125=v / 85 / 85 / 85:=by rw[awH,awH]
     have p:v / 52200625=v / 85 / 85 / 85 / 85:=by rw[awH,awH,awH]
     rw[E,y,p];omega
    have i:v<=v / 85*85+84:=om
    have k:v / 85*85+84 < v+85:=om
    generalize v / 85*85+84=X at e i k;refine rm rfl sm ?_ hm ?_
    ·show cr [_,_,_,_] < _;rw[e];omega
    ·show (bp (cr [_,_,_,_])).take 3=_;rw[e,rl,lu (x:=a) om,lu (x:=b) om,lu (x:=c) om];rfl
   ·simp at A
theorem aaj {s:List UInt8}{most:Int}(hm:(s.length:Int)<=most)(a:s.length<=1048576):oe (km s) most=(s,0):=
 rj hm a λm h=>by
  unfold km;rw[xm m (s.length+1) s [] om (by simpa using h)];rfl
theorem aak {s:List UInt8}{most:Int}(hm:(s.length:Int)<=most)(a:s.length<=1048576):od (ig s) most=(s,0):=
 rj hm a λm h=>by
  unfold ig;rw[rk m (s.length+1) s [] _ om (by simpa using h) (Nat.le_succ _)];rfl
end
section
open Eng Go.RowKit
def jc (p:List UInt8):Nat->Nat
|0=>0
|i+1=>jc p i*256+(p.getD i 0).toNat
theorem qg (p:List UInt8):jc p 4=dz p:=by
 simp only[jc,dz];omega
theorem tg (p:List UInt8):∀i,i<=4->jc p i < 4294967296
|0,_=>by unfold jc;omega
|1,_=>by simp only[jc];have:=(p.getD 0 0).toNat_lt;omega
|2,_=>by simp only[jc];have:=(p.getD 0 0).toNat_lt;have:=(p.getD 1 0).toNat_lt;omega
|3,_=>by simp only[jc];have:=(p.getD 0 0).toNat_lt;have:=(p.getD 1 0).toNat_lt;have:=(p.getD 2 0).toNat_lt;omega
|4,_=>by rw[qg];exact pn p
theorem Yd (c:UInt8):DoX ah (fZ 5 147 (.int .u8 (c.toNat:Int))) w PK K=K (.int .u64 (c.toNat:Int)) w:=by
 have h:=c.toNat_lt;rw[aC (bA krx aAa),wH om]
theorem PJ (p:List UInt8)(w:ao)(hp:p.length<=4):Ret ah 133 #[ae p] w (λv w'=>v=.int .u64 (dz p:Int)∧w=w'):=by
 refine aL λK d=>xN ?_;unfold pK nz;refine loop (λvs W=>∃i:Nat,vs=[.int .u64 (jc p i:Int),ad (i:Int)]∧i<=4∧W=w) (λvs _=>4 - n1 vs) ⟨0,rfl,om,rfl⟩ ?_;rintro vs e ⟨i,rfl,hi,rfl⟩ _;simp only[mM,gd,rs,nz];by_cases a:(i:Int) < 4
 case neg=>
  obtain rfl:i=4:=om
  simp only[a,asW,i_f];exact d _ _ ⟨by rw[qg],rfl⟩
 simp only[a,asX,i_t];have j:=tg p i hi;have f:=tg p (i+1) om;refine join λJ g=>?_;have next:∀n:Nat,n=jc p (i+1)->J [.int .u64 (n:Int)] e:=by
  intro n h;refine g _ _ λ_=>?_;simp only[mF,gd,rs,nz];rw[aA om om,h];exact aS ⟨i+1,rfl,om,rfl⟩ (by simp[n1,RowKit.intOf];omega)
 rw[show (jc p i:Int)*256=((jc p i*256:Nat):Int) by omega,wH om,cZ atB]
 try simp only[rs]
 by_cases b:i < p.length
 ·simp only[show ai ((i:Int) < (p.length:Int))=av from atA om,i_t];rw[NW (c:=p[i]) atB om (by rw[atC];exact atI b),Yd];have k:=p[i].toNat_lt
  try simp only[rs]
  rw[show ((jc p i*256:Nat):Int)+(p[i].toNat:Int)=((jc p i*256+p[i].toNat:Nat):Int) by omega,wH om];refine next _ ?_
  rw[jc,atD,atI b];rfl
 ·simp only[show ai ((i:Int) < (p.length:Int))=au from asZ om,i_f];refine next _ ?_
  rw[jc,atD,avJ om];rfl
def lx (p:List UInt8)(k:Nat):UInt8:=UInt8.ofNat (33+dz p / iw.getD k 0 % 85)
theorem nn (p:List UInt8):jl p=if dz p=0∧p.length=4 then [122] else (List.range (p.length+1)).map (lx p):=rfl
theorem xn {p:List UInt8}(hp:p.length<=4):(jl p).length<=5:=by
 rw[nn];split
 ·decide
 ·simp;omega
theorem QX (s:List UInt8)(w:ao)(F:s.length<=1000000):Ret ah 62 #[ae s] w (λv w'=>v=ae (km s)∧Below w.heap.size w w'):=by
 refine aL λK A=>Ak ?_;unfold rF nz;have c:Own w w [kQ cO []]:=(Own.start w).nilU 5 1;refine loop (λvs W=>∃(a:Nat) (v:aq) (l:List UInt8),vs=[v,ad (a:Int)]∧a<=s.length+4∧l.length<=5*a∧(∃f,s.length - a < f∧l++jh f (s.drop a)=km s)∧Own w W [kQ v l]) (λvs _=>s.length - n1 vs) ⟨0,cO,[],rfl,om,sm,⟨s.length+1,om,by rw[auI];rfl⟩,c⟩ ?_;clear c;rintro vs w2 ⟨a,v,l,rfl,G,H,⟨f,I,j⟩,c⟩ _;simp only[oQ,gd,nz];obtain⟨f,rfl⟩:∃f',f=f'+1:=⟨f - 1,om⟩;unfold jh at j;rw[cZ atB]
 try simp only[rs]
 by_cases L:a < s.length
 case neg=>
  rw[asU (auW om)] at j;simp only[show ai ((a:Int) < (s.length:Int))=au from asZ om,i_f];rw[vG atM atS atB (jR (c.at_ 0 rfl)),show (Value.string ⟨#[126,62]⟩)=ae ([126,62]:List UInt8) from rfl,Pf (by simp;omega),j];exact A _ _ ⟨rfl,c.done⟩
 have t:¬s.drop a=[]:=by
  intro h;have:=congrArg List.length h;rw[atG] at this;simp at this;omega
 rw[asT t,awS,<-atJ] at j;simp only[show ai ((a:Int) < (s.length:Int))=av from atA om,i_t];refine join λJ B=>?_
 try simp only[rs]
 rw[aA om om,cZ atB,Ek,Qs atB om om om,atC,show (min ((a:Int)+4) (s.length:Int)).toNat - a=min 4 (s.length - a) by omega];have hp:(s.drop a).take (min 4 (s.length - a))=(s.drop a).take 4:=by
  rw[List.take_eq_take_iff,atG];omega
 rw[hp];have u:((s.drop a).take 4).length=min 4 (s.length - a):=by rw[atF,atG]
 generalize (s.drop a).take 4=p at j u;have next:∀(v':aq) (W:ao),Own w W [kQ v' (l++jl p)]->J [v'] W:=by
  intro v' W c;refine B _ _ λ_=>?_;simp only[nI,gd,rs,nz];rw[aA om om];have:=xn (p:=p) om;exact aS ⟨a+4,v',_,rfl,om,by rw[asY];omega,⟨f,om,j⟩,c⟩ (by simp[n1,RowKit.intOf];omega)
 rw[nn] at next
 refine qE (PJ p w2 om) ?_;have M:=pn p;generalize x:dz p=n at *
 try simp only[rs]
 have rest:¬(n=0∧p.length=4)->Ax [v,.int .u64 52200625,ad 0] w2 (λd w C=>∀_:Sg,iI (d.getD 0 undef) (ae p) (.int .u64 (n:Int)) (d.getD 1 undef) (d.getD 2 undef) w J C K):=by
  intro m;rw[asT m] at next
  refine loop (λvs W=>∃(k q:Nat) (v:aq),vs=[v,.int .u64 (q:Int),ad (k:Int)]∧k<=p.length+1∧q<=52200625∧(k<=4->q=iw.getD k 0)∧Own w W [kQ v (l++(List.range k).map (lx p))]) (λvs _=>p.length+1 - n2 vs) ⟨0,52200625,v,rfl,om,om,λ_=>rfl,by rw[List.range_zero,axG,atX];exact c⟩ ?_;clear c;rintro vs w3 ⟨k,q,v,rfl,N,O,g,c⟩ _;simp only[iI,gd,rs,nz];rw[cZ atB]
  try simp only[rs]
  by_cases o:(k:Int)<=(p.length:Int)
  case neg=>
   obtain rfl:k=p.length+1:=om
   simp only[o,asW,i_f];exact next v w3 c
  simp only[o,asX,i_t];have i:k<=4:=om
  have D:0 < q:=by
   rw[g i];rcases lt5 (show k < 5 by omega) with rfl|rfl|rfl|rfl|rfl<;>decide
  have hd:n / q<=n:=axD _ _;rw[Ih om,show ((n:Nat):Int).tdiv (q:Int)=((n / q:Nat):Int) from rfl,wH om,Di dc,show ((n / q:Nat):Int).tmod 85=((n / q % 85:Nat):Int) from rfl];have hm:n / q % 85 < 85:=awC _ dc
  try simp only[rs]
  rw[show (33:Int)+((n / q % 85:Nat):Int)=((33+n / q % 85:Nat):Int) by omega,wH om];refine aC (bA krx atS) |>.mpr ?_;rw[uX];refine JA _ c λb E c=>?_;have r:((List.range k).map (lx p)).length=k:=sm
  refine bL 1 atM I3 dc c rfl (gS (c.at_ 0 rfl) dc rfl) bN (by rw[asY,r];omega) (by rw[asY,r];omega) λv' z c=>?_;rw[Ih dc,show ((q:Nat):Int).tdiv 85=((q / 85:Nat):Int) from rfl,wH om]
  try simp only[rs]
  rw[aA om om];refine aS ⟨k+1,q / 85,v',rfl,om,om,λh=>?_,?_⟩ (by simp[n2,RowKit.intOf];omega)
  ·rw[g i];rcases lt5 (show k < 5 by omega) with rfl|rfl|rfl|rfl|rfl
   ·decide
   ·decide
   ·decide
   ·decide
   ·omega
  ·rw[ayE,auJ,<-atJ,fD];have e:(List.map (lx p) [k])=[UInt8.ofNat (33+n / q % 85)]:=by
    rw[List.map_singleton];unfold lx;rw[x,<-g i]
   rw[e];exact c.tail
 by_cases m:(n:Int)=0
 ·simp only[m,asX,gd,rs];rw[cZ atB]
  try simp only[rs]
  by_cases y:(p.length:Int)=4
  ·simp only[y,asX,i_t];rw[asU ⟨om,om⟩] at next
   refine JA 122 c λb E c=>?_;refine bL 1 atM I3 dc c rfl (gS (c.at_ 0 rfl) dc rfl) bN om om λv' z c=>?_;refine next v' z ?_
   rw[fD];exact c.tail
  ·simp only[y,asW,i_f];have:=rest (λh=>y om);rw[m] at this;exact this
 ·simp only[m,asW,gd,rs,i_f];exact rest (λh=>m om)
end
section
open Eng
def jE(t2 t3 w)(K:KT):=nz f180 7 [] [] [] (zg [2,3] [t2,t3]) w K
def kL(t0 t1 w)(K:KT):=nz f180 1 [] [(6,[],λs v j w f=>jE (s 2) (s 3) w K)] [] (zg [0,1] [t0,t1]) w K
theorem rK:kL t0 t1 w k0->Calls ah 180 #[t0,t1] w k0:=cz [(3,[])] [] func180
def gZ(t0 t1 t2 t4 w)(N1:JT)(K:KT):=nz f225 5 [N1] [nh 3 [4]] [(3,7)] (zg [0,1,2,4] [t0,t1,t2,t4]) w K
def jF(t0 t1 t2 w)(K:KT):=nz f225 1 [] [(3,[4],λs v j w f=>gZ (s 0) (s 1) (s 2) (vg v 0) w (f 0) K)] [] (zg [0,1,2] [t0,t1,t2]) w K
theorem oY:jF t0 t1 t2 w k0->Calls ah 225 #[t0,t1,t2] w k0:=cz [] [(1,[4])] func225
end
section
open Eng Go.RowKit
theorem aoT {a c:Nat}:(mEq .eql 192 xo yo (.agg #[.int .u8 (a:Int),.int .u8 (b:Int),.int .u8 (c:Int),.int .u8 (d:Int)]) (.agg #[.int .u8 0,.int .u8 0,.int .u8 0,.int .u8 0])).run ah w=.ok (.value (.bool (ai (a=0∧b=0∧c=0∧d=0)))) w:=by
 have e:Tryz.prog.eqGuardType Tryz.prog.depth 192=false:=krx
 refine bQ ?_;rw[Sem.run_bind,run_eqGuard_agg w .eql 192 xo yo _ _ e];simp only[Result.andThen_ok];cases a with
|succ a=>
  rw[asZ om];kernel_rfl
|zero=>
  cases b with
 |succ b=>
   rw[asZ om];kernel_rfl
 |zero=>
   cases c with
  |succ c=>
    rw[asZ om];kernel_rfl
  |zero=>
    cases d with
   |succ d=>
     rw[asZ om];kernel_rfl
   |zero=>
     rw[atA om];kernel_rfl
def ckV (b n k:Nat):Value:=bR b (4*k) (min 4 (n - 4*k)) (min 4 (n - 4*k))
def ckVs (b n:Nat):List Value:=(List.range ((n+3) / 4)).map (ckV b n)
theorem RX {n k:Nat}(h:4*k < n):(ckVs b n)[k]?=ax (ckV b n k):=by
 unfold ckVs;rw[axK,List.getElem?_range om];rfl
theorem Nf (b n:Nat):(ckVs b n).length=(n+3) / 4:=by simp[ckVs]
theorem Ym (b n cap c d:Nat)(z:n<=cap)(s:n<=1000000):Seq ah (λ_=>True) 225 #[] #[af c 0,af d 0]
  [.cells d [ad 4] 3,.cells c [bR b 0 n cap] 53] (ckVs b n):=by
 intro S w0 t L0 g df u R K A f j w l;show Calls ah 225 #[.func (.yield g) #[] #[],af c 0,af d 0] t K;refine oY ?_;unfold jF nz;have a:∀(M:List Ent) (W:ao),cH S w0 W (Lm L0 g df++(M++[.cells d [ad 4] 3,.cells c [bR b 0 n cap] 53]))->W.cell? ⟨c,0,aw⟩=ax (bR b 0 n cap):=by
  intro M W h;have:Ent.cells c [bR b 0 n cap] 53∈Lm L0 g df++(M++[.cells d [ad 4] 3,.cells c [bR b 0 n cap] 53]):=sm
  exact aG (h.mem this) (i:=0) rfl
 have e:∀(M:List Ent) (W:ao),cH S w0 W (Lm L0 g df++(M++[.cells d [ad 4] 3,.cells c [bR b 0 n cap] 53]))->W.cell? ⟨d,0,aw⟩=ax (ad 4):=by
  intro M W h;have:Ent.cells d [ad 4] 3∈Lm L0 g df++(M++[.cells d [ad 4] 3,.cells c [bR b 0 n cap] 53]):=sm
  exact aG (h.mem this) (i:=0) rfl
 refine loop (λvs W=>∃(k:Nat) (M:List Ent),vs=[ad ((4*k:Nat):Int)]∧k<=(n+3) / 4∧R k M∧cH S w0 W (Lm L0 g df++(M++[.cells d [ad 4] 3,.cells c [bR b 0 n cap] 53]))) (λvs _=>n - n0 vs) ⟨0,u,rfl,om,j,f⟩ ?_;clear f j;rintro vs w2 ⟨k,M,rfl,B,j,f⟩ _;simp only[gZ,gd,rs,nz];rw[aR GK (a M w2 f),bO atM]
 try simp only[rs]
 by_cases m:((4*k:Nat):Int) < (n:Int)
 case neg=>
  simp only[m,asW,i_f];exact l M _ w2 (by rw[Nf,show (n+3) / 4=k by omega];exact j) f
 simp only[m,asX,i_t];refine cQ (λW=>cH S w0 W (Lm L0 g df++(M++[.cells d [ad 4] 3,.cells c [bR b 0 n cap] 53]))) f.drew ?_;refine iL _ (λW h=>aB bZ (e M W h)) (iL _ (λW h=>aB GK (a M W h)) ?_);have o:(Tryz.prog.info? 5).map (·.size)=ax 1:=krx
 refine gr _ (λW=>dD atM o om om) ?_;refine gr _ (λW=>CI atM) (gr _ (λW=>PN) ?_);rw[atC,show min (4:Int) ((n - 4*k:Nat):Int)=((min 4 (n - 4*k):Nat):Int) by omega];intro w3 f;rw[aR GK (a M w3 f)]
 try simp only[rs]
 rw[aA om om];refine aC (GV atM o om om om om) |>.mpr ?_;rw[atC,show (((4*k:Nat):Int)+((min 4 (n - 4*k):Nat):Int)).toNat=4*k+min 4 (n - 4*k) by omega,fR om,show 0+4*k*1=4*k by omega,show 4*k+min 4 (n - 4*k) - 4*k=min 4 (n - 4*k) by omega];refine arU (args:=[ckV b n k]) (w k (ckV b n k) M _ w3 (RX om) j f) ?_;rintro v x (⟨rfl,r,q,p⟩|⟨rfl,y⟩)
 ·rw[QT,auO,i_f,aR bZ (e r x p)]
  try simp only[rs]
  rw[aA om om];exact aS ⟨k+1,r,by rw[show ((4*k:Nat):Int)+4=((4*(k+1):Nat):Int) by omega],om,q,p⟩ (by simp[n0,RowKit.intOf];omega)
 ·rw[QT,auN,i_t];exact y
section
variable {w:ao}{PK:PKT}{K:VWP}{S:Nat->Prop}{w0:ao}{L:List Ent}
theorem ahU {n:Nat}(d:cH S w0 w L)(k:∀a c W,cH S w0 W (.cells c [ad 4] 3::.cells a [bR b 0 n cap] 53::L)->K (.func (.func 225) #[] #[af a 0,af c 0]) W) :
  dZ ah 180 #[bR b 0 n cap,ad 4] w PK K:=by
 refine fY (rK (k0:=wM λv W=>∃a c,v=.func (.func 225) #[] #[af a 0,af c 0]∧cH S w0 W (.cells c [ad 4] 3::.cells a [bR b 0 n cap] 53::L)) ?_) (λe W ⟨v,he,a,c,f,d⟩=>by subst he;subst f;exact k a c W d);unfold kL nz;refine bI (λb=>af b 0) [bR b 0 n cap] 53 (λ_=>by kernel_rfl) d λa h d=>?_;refine bI (λb=>af b 0) [ad 4] 3 (λ_=>by kernel_rfl) d λc w2 d=>?_;refine join λJ g=>?_;rw[aR bZ (d.cell 0 rfl 0 rfl)];simp only[rs,show ai ((4:Int) < 1)=au from rfl,i_f];refine g _ _ λ_=>?_;simp only[jE,gd,nz];rw[AQ];exact vB ⟨a,c,rfl,d⟩
theorem aaN {T E:TypeId}{l:List UInt8}(c:P.underlying T=ax .string)(hd:P.underlying D=ax (.slice E))(he:P.underlying E=ax (.int .u8))(d:cH S w0 w L)
  (k:∀b cap w',l.length<=cap->cH S w0 w' (.mkr E b l::L)->K (bR b 0 l.length cap) w'):DoX P (fZ T D (ae l)) w PK K:=by
 have a:=Go.Lib.run_convert_string_bytes (P:=P) w T D E ⟨l.toArray⟩ c hd he;rw[dC] at a;refine kW (bQ a) (k _ _ _ (grownCap_ge w l.length 0 E) ?_);refine d.add ⟨?_,?_,?_,?_,?_⟩ (.mkr E w.heap.size l) ?_ (λk f=>by cases f;exact atE _)
 ·unfold Go.Lib.bytesWorld World.freeze;split<;>rfl
 ·unfold Go.Lib.bytesWorld World.freeze;split<;>rfl
 ·unfold Go.Lib.bytesWorld World.freeze;split<;>rfl
 ·rw[Go.Lib.bytesWorld_size];omega
 ·intro j g _;exact Go.Lib.bytesWorld_at_old w E _ j g
 ·refine⟨(Array.replicate (grownCap w l.length 0 E - l.length) (Value.int .u8 0)).toList,?_⟩;have:=Go.Lib.bytesWorld_at_new w E ⟨l.toArray⟩;rw[this];have e:Go.Lib.bytesCells w E ⟨l.toArray⟩=(aH l++(Array.replicate (grownCap w l.length 0 E - l.length) (Value.int .u8 0)).toList).toArray:=by
   unfold Go.Lib.bytesCells;rw[dC];apply Array.ext';simp[aH]
  rw[e];simp[aH]
end
theorem orU {a:Nat}(c:b < 2 ^ i)(h:a*2 ^ i+b < 18446744073709551616):bOr .u64 ((a*2 ^ i:Nat):Int) (b:Int)=((a*2 ^ i+b:Nat):Int):=by
 have e:=ajC (a:=a) c;unfold bOr;show IntKind.wrap .u64 (((BitVec.ofInt 64 ((a*2 ^ i:Nat):Int) ||| BitVec.ofInt 64 (b:Int)).toNat:Nat):Int)=_;rw[BitVec.ofInt_natCast,BitVec.ofInt_natCast,BitVec.toNat_or,BitVec.toNat_ofNat,BitVec.toNat_ofNat,avF om,avF om,e];exact wH h
theorem shlU {a k:Nat}(b:k<=40)(h:a*2 ^ k < 18446744073709551616):IntKind.u64.wrap ((a:Int)*2 ^ min ((k:Nat):Int).toNat IntKind.u64.bits)=((a*2 ^ k:Nat):Int):=by
 have e:min ((k:Nat):Int).toNat IntKind.u64.bits=k:=by
  show min ((k:Nat):Int).toNat 64=k;rw[atC];omega
 rw[e,show (a:Int)*2 ^ k=((a*2 ^ k:Nat):Int) by push_cast;rfl];exact wH h
theorem abL (hi:i < 4):(mIA 192 (af b 0) (ad (i:Int))).run ah w=.ok (.value (af b i)) w:=by
 rcases (by omega:i=0∨i=1∨i=2∨i=3) with rfl|rfl|rfl|rfl<;>kernel_rfl
theorem alJ :(cT 192 (af b 0) aw aw aw).run ah w=.ok (.value (bR b 0 4 4)) w:=krx
theorem aqB (a:h<=5):(cT 197 (af b 0) aw (ax (ad (h:Int))) aw).run ah w=.ok (.value (bR b 0 h 5)) w:=by
 rcases (by omega:h=0∨h=1∨h=2∨h=3∨h=4∨h=5) with rfl|rfl|rfl|rfl|rfl|rfl<;>kernel_rfl
theorem anG:I2 ah 192=ax 4:=krx
theorem sz1u:(Tryz.prog.info? 5).map (·.size)=ax 1:=krx
theorem anK:(Tryz.prog.info? 147).map (·.size)=ax 1:=krx
theorem nU64:eP ah 147=true:=krx
theorem asN {p:List UInt8}(hp:p.length<=4):aH p++(aH [0,0,0,0]).drop p.length=aH [p.getD 0 0,p.getD 1 0,p.getD 2 0,p.getD 3 0]:=by
 rcases p with _|⟨a,_|⟨b,_|⟨c,_|⟨d,_|⟨e,t⟩⟩⟩⟩⟩
 ·rfl
 ·rfl
 ·rfl
 ·rfl
 ·rfl
 ·simp at hp
theorem Vs (s:List UInt8)(M:Mem)(w:ao)(C:Pws M)(hM:M.has w)(hs:s.length<=1000000):jJ ah 117 #[ae s] M w (λv _=>v=ae (km s)):=by
 refine aU hM λK hK=>Ki ?_;unfold Ci iN dx alx cx;have e:cH M.A w w [.mem M]:=cH.memS hM;refine bI (λb=>af b 0) [.pointer aw,.slice aw 0 0] 188 (λ_=>by kernel_rfl) e λt w1 e=>?_;have Y:∃v0,cH M.A w w1 [Bld t v0 [],.mem M]:=⟨_,cH.HQ (l:=[]) (.inl rfl) Pw (e.S7 5 1).swap⟩;obtain⟨v0,e⟩:=Y;refine aaN atB atM atS e λg cap w2 D e=>?_;refine ahU e λc1 c2 w3 e=>?_;refine range e (show bY ah 225=av by kernel_rfl) λL0 df x w4 e hy=>?_;refine Ym g s.length cap c1 c2 D hs M.A w w4 L0 x df [.mkr 5 g s,Bld t v0 [],.mem M]
  (λk Z=>∃(v:aq) (l:List UInt8) (f:Nat),Z=[.mkr 5 g s,Bld t v l,.mem M]∧s.length - 4*k < f∧l++jh f (s.drop (4*k))=km s∧l.length<=5*k) _ (λ_ _ _=>trivial) ?_ ⟨v0,[],s.length+1,rfl,om,by rw[auI];rfl,sm⟩ ?_ ?_
 ·refine e.perm ?_;show List.Perm (_::_::([Ent.cells c2 _ _,Ent.cells c1 _ _]++[_,_,_])) (_::_::([_,_,_]++[_,_]));exact List.Perm.cons _ (List.Perm.cons _ azJ)
 ·rintro k v Z X W E ⟨u,l,f,rfl,hf,z,F⟩ e;have b2:k < (s.length+3) / 4:=by
   have:=(atT.1 E).1
   rwa [Nf] at this
  have a1:4*k < s.length:=om
  rw[RX a1] at E;have E:=awT E;subst E;have e:cH M.A w W (.obj x (lp L0 .ready aw)::.obj df (.deferred (ax []))::.mkr 5 g s::Bld t u l::.mem M::X):=e;refine hy _ W _ (e.at_ 0 rfl) rfl ?_;refine arF 0 e rfl λW3 e=>?_;simp only[List.getD_cons_zero];obtain⟨f,rfl⟩:∃f',f=f'+1:=⟨f - 1,om⟩;have a6:¬s.drop (4*k)=[]:=by
   intro h;have:=congrArg List.length h;rw[atG] at this;simp at this;omega
  rw[jh,asT a6,awS,<-atJ,show 4*k+4=4*(k+1) by omega] at z;have G:((s.drop (4*k)).take 4).length=min 4 (s.length - 4*k):=by rw[atF,atG]
  have H:∀j,j < min 4 (s.length - 4*k)->((s.drop (4*k)).take 4)[j]?=s[4*k+j]?:=λj I=>by
   rw[List.getElem?_take_of_lt om,awJ]
  generalize b3:(s.drop (4*k)).take 4=p at z G H;have J:p.length<=4:=om
  have b5:0 < p.length:=om
  have a7:ckV g s.length k=bR g (4*k) p.length p.length:=by unfold ckV;rw[G]
  rw[a7,bO atM];have e4:∀{PK:PKT} {K:VWP} {W:ao},DoX ah (aW 192 #[]) W PK K=K (.agg (aH [0,0,0,0]).toArray) W:=λ{PK K W}=>aC krx;rw[e4];refine bI (λb=>af b 0) (aH [0,0,0,0]) 192 (λ_=>by kernel_rfl) e λB W4 e=>?_;refine jK 0 e rfl (new:=aH [0,0,0,0]) sz4b bN rfl λW5 e=>?_;refine aC alJ |>.mpr ?_;have e:cH M.A w W5 (.cells B (aH [0,0,0,0]) 192::.obj x (lp L0 .busy aw)::.obj df (.deferred (ax []))::.mkr 5 g s::Bld t u l::.mem M::X):=e;refine xM 0 (src:=aH p) atM sz1u e rfl (by rw[cS,atY];omega) (λj v I=>?_) (by rw[cS];show 0+p.length<=4;omega) bN λv' W6 e=>?_
  ·have b6:j < p.length:=by
    have:=(atT.1 I).1
    rwa [cS] at this
   rw[cK];refine M7 (e.at_ 3 rfl) ?_;have:=H j om;unfold aH at I ⊢;rw[axK] at I ⊢;rw[<-this];exact I
  rw[awQ,auI,cS,atK,asN J] at e;have m:dz p=((p.getD 0 0).toNat*256+(p.getD 1 0).toNat)*65536+(p.getD 2 0).toNat*256+(p.getD 3 0).toNat:=rfl;have L:=(p.getD 0 0).toNat_lt;have N:=(p.getD 1 0).toNat_lt;have O:=(p.getD 2 0).toNat_lt;have Q:=(p.getD 3 0).toNat_lt;generalize p.getD 0 0=o at e m L;generalize p.getD 1 0=r at e m N;generalize p.getD 2 0=y at e m O;generalize p.getD 3 0=R at e m Q;have e:cH M.A w W6 (.cells B (aH [o,r,y,R]) 192::.obj x (lp L0 .busy aw)::.obj df (.deferred (ax []))::.mkr 5 g s::Bld t u l::.mem M::X):=e;have hv:=pn p;have b7:=xn J
  try simp only[rs]
  by_cases hz:dz p=0∧p.length=4
  ·have he:jl p=[122]:=by rw[nn,asU hz]
   simp only[show ai ((p.length:Int)=4)=av from atA om,gd,rs];rw[Jn (e.agg 0 rfl anG),e4];refine aC (aoT (a:=o.toNat) (b:=r.toNat) (c:=y.toNat) (d:=R.toNat)) |>.mpr ?_;rw[atA om];simp only[rs,i_t];refine rQ 4 e rfl (DH (n:=122) (k:=122) (e.at_ 4 rfl) om rfl om) ?_;rintro _ _ W7 ⟨rfl,v7,rfl⟩ e;have e:cH M.A w W7 (.obj x (lp L0 .busy aw)::.obj df (.deferred (ax []))::.mkr 5 g s::Bld t v7 (l++jl p)::.mem M::X):=by rw[he];exact e.tail
   refine akV 0 e rfl λW9 e=>?_;exact .inl ⟨rfl,_,⟨v7,_,f,rfl,om,z,by rw[asY];omega⟩,e⟩
  have he:jl p=(List.range (p.length+1)).map (lx p):=by rw[nn,asT hz]
  by_cases h4:(p.length:Int)=4
  case' pos=>
   simp only[show ai ((p.length:Int)=4)=av from atA h4,gd,rs];rw[Jn (e.agg 0 rfl anG),e4];refine aC (aoT (a:=o.toNat) (b:=r.toNat) (c:=y.toNat) (d:=R.toNat)) |>.mpr ?_;rw[asZ om];simp only[rs,i_f]
  case' neg=>
   simp only[show ai ((p.length:Int)=4)=au from asZ h4,gd,rs,i_f]
  all_goals
   refine aC (abL (b:=B) (i:=0) om) |>.mpr ?_;rw[aR M1 (e.cell 0 rfl 0 rfl),Yd,Fa dc,show IntKind.u64.wrap ((o.toNat:Int)*2 ^ min (24:Int).toNat IntKind.u64.bits)=((o.toNat*2 ^ 24:Nat):Int) from shlU (k:=24) dc om];refine aC (abL (b:=B) (i:=1) om) |>.mpr ?_;rw[aR M1 (e.cell 0 rfl 1 rfl),Yd,Fa dc,show IntKind.u64.wrap ((r.toNat:Int)*2 ^ min (16:Int).toNat IntKind.u64.bits)=((r.toNat*2 ^ 16:Nat):Int) from shlU (k:=16) dc om,b_or,orU (i:=24) om om];refine aC (abL (b:=B) (i:=2) om) |>.mpr ?_;rw[aR M1 (e.cell 0 rfl 2 rfl),Yd,Fa dc,show IntKind.u64.wrap ((y.toNat:Int)*2 ^ min (8:Int).toNat IntKind.u64.bits)=((y.toNat*2 ^ 8:Nat):Int) from shlU (k:=8) dc om,b_or,
    show o.toNat*2 ^ 24+r.toNat*2 ^ 16=(o.toNat*256+r.toNat)*2 ^ 16 by omega,orU (i:=16) om om]
   refine aC (abL (b:=B) (i:=3) om) |>.mpr ?_;rw[aR M1 (e.cell 0 rfl 3 rfl),Yd,b_or,show (o.toNat*256+r.toNat)*2 ^ 16+y.toNat*2 ^ 8=((o.toNat*256+r.toNat)*256+y.toNat)*2 ^ 8 by omega,orU (i:=8) om om,
    show ((o.toNat*256+r.toNat)*256+y.toNat)*2 ^ 8+R.toNat=dz p by omega]
   try simp only[rs]
   rw[aA om om,show (p.length:Int)+1=((p.length+1:Nat):Int) by omega];refine aC (aqB om) |>.mpr ?_;rw[bO underlying196];clear m L N O Q;refine loop (λvs W=>∃(i:Nat) (u:aq),vs=[ad (i:Int)]∧i<=p.length+1∧cH M.A w W (.cells B (aH [o,r,y,R]) 192::.obj x (lp L0 .busy aw)::.obj df (.deferred (ax []))::.mkr 5 g s::Bld t u (l++(List.range i).map (lx p))::.mem M::X)) (λvs _=>p.length+1 - n0 vs) ⟨0,u,rfl,om,by rw[List.range_zero,axG,atX];exact e⟩ ?_;clear e;rintro vs W7 ⟨i,u7,rfl,hi,e⟩ _;simp only[DL,gd,rs,iN];by_cases S:(i:Int) < ((p.length+1:Nat):Int)
   case neg=>
    simp only[S,asW,i_f];obtain rfl:i=p.length+1:=om
    rw[<-he] at e;refine akV 0 e.tail rfl λW9 e=>?_;exact .inl ⟨rfl,_,⟨u7,_,f,rfl,om,z,by rw[asY];omega⟩,e⟩
   simp only[S,asX,i_t];have U:i < 5:=om
   refine aC (dP (P:=ah) (T:=196) (b:=0) (off:=0) (cap:=5) (n:=p.length+1) (k:=.i64) (i:=(i:Int)) (w:=W7) underlying196 anK om om) |>.mpr ?_;rw[atC,atY,atK,aR nU64 (Mem.cell (e.hasM 5 rfl) C.1 (C.2 i U))];have a8:0 < iw.getD i 0∧iw.getD i 0<=52200625:=by
    rcases lt5 U with rfl|rfl|rfl|rfl|rfl<;>decide
   have V:lx p i=UInt8.ofNat (33+dz p / iw.getD i 0 % 85):=rfl;generalize iw.getD i 0=q at a8 V;have hd:dz p / q<=dz p:=axD _ _;rw[Ih om,show ((dz p:Nat):Int).tdiv (q:Int)=((dz p / q:Nat):Int) from rfl,wH om,Di dc,show ((dz p / q:Nat):Int).tmod 85=((dz p / q % 85:Nat):Int) from rfl];have hm:dz p / q % 85 < 85:=awC _ dc
   try simp only[rs]
   rw[show (33:Int)+((dz p / q % 85:Nat):Int)=((33+dz p / q % 85:Nat):Int) by omega,wH om];refine aC (bA krx atS) |>.mpr ?_;rw[uX,<-V];have b0:((List.range i).map (lx p)).length=i:=sm
   refine rQ 4 e rfl (kX (c:=lx p i) (e.at_ 4 rfl) (by rw[asY,b0];omega)) ?_;rintro _ _ W8 ⟨rfl,v8,rfl⟩ e
   try simp only[rs]
   rw[aA om om];refine aS ⟨i+1,v8,rfl,om,?_⟩ (by simp[n0,RowKit.intOf];omega);rw[ayE,auJ,<-atJ];exact e
 ·rintro Z X W ⟨u,l,f,rfl,hf,z,F⟩ e;rw[Nf] at hf z F;obtain⟨f,rfl⟩:∃f',f=f'+1:=⟨f - 1,om⟩;rw[jh,asU (auW om)] at z;refine⟨_,.ready,aw,_,rfl,(by intro h;cases h),e.at_ 0 rfl,atL.2 (.inl rfl),?_⟩;have b1:cH M.A w (ML W x (lp L0 .exhausted aw)) (.obj x (lp L0 .exhausted aw)::.obj df (.deferred (ax []))::.mkr 5 g s::Bld t u l::.mem M::X):=Ji (o':=lp L0 .exhausted aw) e 0 rfl;have e:cH M.A w (ML W x (lp L0 .exhausted aw)) (.obj df (.deferred (ax []))::.mkr 5 g s::Bld t u l::.mem M::X):=b1.tail;refine rQ 2 e rfl (Fq (e.at_ 2 rfl)) ?_;rintro _ _ w9 ⟨rfl,rfl⟩ e;rw[show (Value.string ⟨#[126,62]⟩)=ae ([126,62]:List UInt8) from rfl,Pf (by simp;omega),z];refine akA 0 e rfl λW4 e=>?_;exact hK _ _ M _ 3 e rfl M.le_refl rfl
namespace Ff
def fP (n s:List UInt8):List UInt8:=if full n=nHx then Oc.hex s++[62] else if full n=n85 then km s else if full n=nRL then ig s else []
def M9 (n:List UInt8)(x:Pm)(s t:List UInt8)(e:Int):Prop:=
 if full n=[] then t=[]∧e=15
 else if full n=nFl then (if ct x s=0 then e=0∧ir t 1048576=(bn x s,0)∧t.length<=(bn x s).length+(bn x s).length / 1000+16 else t=[]∧e=ct x s)
 else t=fP n s∧e=0
end Ff
theorem rn:∀(f:Nat) (s:List UInt8),(fy f s).length<=2*s.length+1
|0,s=>by unfold fy;simp
|f+1,s=>by
  unfold fy;split
  ·simp
  ·have c:0 < s.length:=awL.2 (by assumption);split
   ·rename_i d
    have a:=rn f (s.drop (bg s));have e:bg s<=128∧bg s<=s.length:=nm _ _ _;rw[atG] at a;rw[asY];show 2+_<=_;omega
   ·have b:=sx (s:=s) (by assumption);have a:=rn f (s.drop (cj s));rw[atG] at a;rw[asY,asY,atF];show 1+_+_<=_;omega
theorem xp:∀(f:Nat) (s:List UInt8),s.length < f->(jh f s).length<=2*s.length+2
|0,s,h=>by omega
|f+1,s,h=>by
  unfold jh;split
  ·simp
  ·have b:0 < s.length:=awL.2 (by assumption);have a:=xp f (s.drop 4) (by rw[atG];omega);rw[atG] at a;have hp:(s.take 4).length<=4:=by rw[atF];omega
   have he:(jl (s.take 4)).length<=(s.take 4).length+1:=by
    rw[nn];split
    ·simp
    ·simp
   rw[asY];rw[atF] at he;omega
theorem Ff.L1 {n s:List UInt8}:(Ff.fP n s).length<=2*s.length+2:=by
 unfold Ff.fP;split
 ·rw[asY,I5];simp
 ·split
  ·exact xp _ _ om
  ·split
   ·have:=rn (s.length+1) s;unfold ig;omega
   ·simp
theorem Ff.ZJ {n:List UInt8}{s t:List UInt8}{e:Int}(h:Ff.M9 n x s t e)(he:e=0)(b:s.length<=1048576):Ff.Hh n x t=(s,0):=by
 unfold Ff.M9 at h;by_cases c:Ff.full n=[]
 ·rw[asU c] at h;rw[h.2] at he;cases he
 rw[asT c] at h;unfold Ff.Hh;by_cases a:Ff.full n=Ff.nFl
 ·rw[asU a] at h;rw[asT (by rw[a];decide),asT (by rw[a];decide),asT (by rw[a];decide),asU a];by_cases hw:ct x s=0
  ·rw[asU hw] at h;have d:x.ok:=by
    refine Decidable.byContradiction λf=>?_;unfold ct at hw;rw[asU f] at hw;cases hw
   rw[asT (by simp[d])];simp only[h.2.1];rw[asT dc];exact (xe hw).1
  ·rw[asT hw] at h;rw[h.2] at he;exact absurd he hw
 ·rw[asT a] at h;obtain⟨rfl,_⟩:=h;have g:=Ff.jA n;rcases g with h|h|h|h|h
  ·have hp:Ff.fP n s=Oc.hex s++[62]:=by unfold Ff.fP;rw[asU h]
   rw[hp,asU h];exact aag om b
  ·have hp:Ff.fP n s=km s:=by unfold Ff.fP;rw[asT (by rw[h];decide),asU h]
   rw[hp,asT (by rw[h];decide),asU h];exact aaj om b
  ·have hp:Ff.fP n s=ig s:=by unfold Ff.fP;rw[asT (by rw[h];decide),asT (by rw[h];decide),asU h]
   rw[hp,asT (by rw[h];decide),asT (by rw[h];decide),asU h];exact aak om b
  ·exact absurd h a
  ·exact absurd h c
theorem Vc:bY ah 117=true:=krx
theorem US:bY ah 121=true:=krx
theorem U5 (b f:Nat)(s r:List UInt8)(M:Mem)(w:ao)(hp:bY ah f=av)(c:(PQ b f).is w)(a:M.has w)(h:jJ ah f #[ae s] M w (λv _=>v=ae r)) :
  jJ ah 171 #[ae s,af b 0] M w (λv _=>v=zlT (r,0)):=by
 refine aU a λK d=>tJ ?_;unfold qV nz;rw[aR nFnS (aG (T:=36) (cs:=[fnV f]) c (i:=0) rfl)];unfold fnV;refine IC hp (bG (cH.memS a) 0 rfl h ?_);rintro _ N g g1 rfl e;exact d _ _ N _ 0 e rfl g1 rfl
theorem Yr (x:Pm)(f:PeR x)(s:List UInt8)(M:Mem)(w:ao)(c:M.has w)(g:s.length<=1000000000) :
  jJ ah 121 #[pmV x,ae s] M w (λv _=>∃t e,v=zlT (t,e)∧if ct x s=0 then e=0∧ir t 1048576=(bn x s,0)∧t.length<=(bn x s).length+(bn x s).length / 1000+16 else t=[]∧e=ct x s):=by
 refine aU c λK d=>AP ?_;unfold sB nz;refine bI (λb=>af b 0) (pmC x) 143 (λ_=>by kernel_rfl) (cH.memS c) λn i a=>?_;rw[aO acE,Jn (T:=27) (v:=pmV x) (AtV.agg Ep (cs:=pmC x) rfl λj u k=>by rw[auU,atK];exact a.cell 0 rfl j k)];refine aJ a (f s i g) ?_;rintro _ w2 rfl a;simp only[M4,ex,eF];by_cases hw:ct x s=0
 case neg=>
  simp only[atA (show ct x s≠0 from hw),i_t];exact d _ _ M _ 1 a rfl M.le_refl ⟨[],ct x s,rfl,by rw[asT hw];exact⟨rfl,rfl⟩⟩
 simp only[asZ (show ¬ct x s≠0 fromλh=>h hw),i_f,asU hw];refine bG a 1 rfl (YG (bn x s) M w2 (a.hasM 1 rfl) (xe hw).2) ?_;rintro _ N w3 g1 ⟨t,rfl,l,m⟩ a;simp only[ex];exact d _ _ N _ 1 a rfl g1 ⟨t,0,rfl,by rw[asU hw];exact⟨rfl,l,m⟩⟩
def OnA (n:List UInt8):Prop:=∀(f g:Nat),(Ff.full n=Ff.nHx∧f=114∧g=116)∨(Ff.full n=Ff.n85∧f=117∧g=118)∨(Ff.full n=Ff.nRL∧f=119∧g=120)->∀(s:List UInt8) (M:Mem) (w:ao),Pws M->s.length<=1000000->M.has w ->
 ∃_:bY ah f=av,¬Ff.full n=[]∧¬Ff.full n=Ff.nFl∧jJ ah f #[ae s] M w (λv _=>v=ae (Ff.fP n s))
theorem onA (n:List UInt8):OnA n:=by
 intro f g d s M b e i c;have a:∀{f:Nat} {r:List UInt8},Ret ah f #[ae s] b (λv w'=>v=ae r∧Below b.heap.size b w')->jJ ah f #[ae s] M b (λv _=>v=ae r):=λh=>
  h.mono λv w' ⟨k,j⟩=>⟨M,⟨M.le_refl,Mem.KR c j,λ_ h=>.inl h,j⟩,k⟩
 unfold Ff.fP;rcases d with ⟨h,rfl,_⟩|⟨h,rfl,_⟩|⟨h,rfl,_⟩
 ·rw[asU h];exact⟨LZ,by rw[h];decide,by rw[h];decide,a (Sp s b i)⟩
 ·rw[asT (by rw[h];decide),asU h];exact⟨Vc,by rw[h];decide,by rw[h];decide,Vs s M b e c i⟩
 ·rw[asT (by rw[h];decide),asT (by rw[h];decide),asU h];exact⟨Mu,by rw[h];decide,by rw[h];decide,a (SQ s b om)⟩
theorem ahW (n:List UInt8)(x:Pm)(G:PeR x)(H:OnA n)(s:List UInt8)(M:Mem)(w:ao)(q:Pws M)(D:M.has w)(I:s.length<=1000000) :
  jJ ah 17 #[ae n,pmV x,ae s] M w (λv _=>∃t e,v=zlT (t,e)∧Ff.M9 n x s t e):=by
 refine aU D λK d=>B4 ?_;unfold BO nz;unfold Ff.M9 at d;refine Ar x (cH.memS D) λE L a=>?_;rw[I6 a 0 rfl];have c:∀{p u:aq},p.oneCell'=av->u.oneCell'=av->∀y∈wyC p u,y.oneCell'=true:=by
  intro p u hp hu y F;simp only[wyC,atL,avO,or_false] at F;rcases F with rfl|rfl<;>assumption
 refine afV a (λf g r l z w2 a=>?_) (λm w2 a=>?_) (λm w2 a=>?_)
 ·simp only[ex];refine bI (λb=>af b 0) (wyC .nilFunc .nilFunc) 91 (λ_=>by kernel_rfl) a λo w3 a=>?_;refine jK 0 a rfl (new:=wyC (AR l) (CW z)) NA (c rfl rfl) rfl λi a=>?_;have a:cH M.A w i [wyE o (AR l) (CW z),upE z g,PQ l f,pmE E x,.mem M]:=a;simp only[eF,show ai ((0:Int)≠0)=au from rfl,i_f];rw[cZ atB];simp only[rs,show ai ((1048576:Int) < (s.length:Int))=au from asZ om,i_f];rw[aO X6,aR nFnW (a.cell 0 rfl 0 rfl)];have k:=a.hasM 4 rfl;have key:=H f g r s M i q I k;obtain⟨hp,j,B,key⟩:=key;simp only[asT j,asT B] at d;unfold AR;refine IC Md (bG a 4 rfl (U5 l f s _ M i hp (a.at_ 2 rfl) k key) ?_);rintro _ N J g1 rfl a;simp only[zlT,ex];exact d _ _ N _ 4 a rfl g1 ⟨_,_,rfl,rfl,rfl⟩
 ·have j:¬Ff.full n=[]:=by rw[m];decide
  simp only[asT j,asU m] at d;simp only[ex];refine bI (λb=>af b 0) (wyC .nilFunc .nilFunc) 91 (λ_=>by kernel_rfl) a λo w3 a=>?_;refine jK 0 a rfl (new:=wyC (Ns x) (yU x)) NA (c rfl rfl) rfl λi a=>?_;have a:cH M.A w i [wyE o (Ns x) (yU x),pmE E x,.mem M]:=a;simp only[eF];by_cases C:x.ok
  case neg=>
   have hw:ct x s=1:=by unfold ct;rw[asU C]
   simp only[hw,asT (show ¬(1:Int)=0 by decide)] at d;simp only[asT C,show ai ((1:Int)≠0)=av from rfl,i_t];exact d _ _ M _ 2 a rfl M.le_refl ⟨[],1,rfl,rfl,rfl⟩
  simp only[asU C,show ai ((0:Int)≠0)=au from rfl,i_f];rw[cZ atB];simp only[rs,show ai ((1048576:Int) < (s.length:Int))=au from asZ om,i_f];rw[aO X6,aR nFnW (a.cell 0 rfl 0 rfl)];unfold Ns;refine IC US (bG a 2 rfl (Yr x G s M i (a.hasM 2 rfl) om) ?_);rintro _ N J g1 ⟨t,e,rfl,h⟩ a;simp only[zlT,ex];exact d _ _ N _ 2 a rfl g1 ⟨t,e,rfl,h⟩
 ·simp only[asU m] at d;simp only[ex];refine bI (λb=>af b 0) (wyC .nilFunc .nilFunc) 91 (λ_=>by kernel_rfl) a λo w3 a=>?_;refine jK 0 a rfl (new:=wyC .nilFunc .nilFunc) NA (c rfl rfl) rfl λi a=>?_;simp only[eF,show ai ((15:Int)≠0)=av from rfl,i_t];exact d _ _ M _ 2 a rfl M.le_refl ⟨[],15,rfl,rfl,rfl⟩
theorem agQ (n:List UInt8)(x:Pm)(b:PeR x)(s:List UInt8)(M:Mem)(w:ao)(a:Pws M)(c:M.has w)(d:s.length<=1000000) :
  jJ ah 17 #[ae n,pmV x,ae s] M w (λv _=>∃t e,v=zlT (t,e)∧Ff.M9 n x s t e):=
 ahW n x b (onA n) s M w a c d
theorem ON (n s:List UInt8)(w:ao)(f:s.length<=1000000):Ret ah 20 #[ae n,ae s] w (λv w'=>v=ae (Ff.fP n s)∧Below w.heap.size w w'):=by
 refine aL λK a=>uY ?_;unfold lX nz;unfold Ff.fP at a;refine qE (kD n w) ?_;simp only[rs];by_cases c:Ff.full n=Ff.nHx
 ·rw[asU c] at a;simp only[atA c,i_t];refine aJ (Own.start w) (UJ s w f) ?_;rintro _ w2 rfl b;exact a _ _ ⟨rfl,b.done⟩
 rw[asT c] at a;simp only[asZ c,i_f]
 try simp only[rs]
 by_cases d:Ff.full n=Ff.n85
 ·rw[asU d] at a;simp only[atA d,i_t];refine aJ (Own.start w) (QX s w f) ?_;rintro _ w2 rfl b;exact a _ _ ⟨rfl,b.done⟩
 rw[asT d] at a;simp only[asZ d,i_f]
 try simp only[rs]
 by_cases e:Ff.full n=Ff.nRL
 ·rw[asU e] at a;simp only[atA e,i_t];refine aJ (Own.start w) (UW s w f) ?_;rintro _ w2 rfl b;exact a _ _ ⟨rfl,b.done⟩
 rw[asT e] at a;simp only[asZ e,i_f];exact a _ _ ⟨rfl,Below.refl _ _⟩
end
end Go.Proofs.YtlipjfcbjemicaaGreatDoor





namespace Go.Proofs.YtlipjfcbjemicaaGreatDoor
variable{D T1 T2 U:TypeId}{K:VWP}{P:Program}{PK:PKT}{W w:ao}{a colors:Int}{above data key:List UInt8}{b cap d f h i mo:Nat}{cb:Array Bool}{cur:List aq}{k':IntKind}{ns:List (List UInt8)}{o:Ob}{rr:List gk}{v va vr:aq}{x:Pm}{xo yo:Operand}{t0 t1 t2:aq}{k0:Eng.KT}
section
open Go
namespace Ps
open Lx (next Tok)
theorem aeM {v:Ob}:(∀k∈(Vl.put o key v).keys,k=key∨k∈o.keys)∧(∀c∈(Vl.put o key v).kids,c=v∨c∈o.kids)∧(Vl.put o key v).kids.length<=o.kids.length+1:=by
 unfold Vl.put;simp only[Ob.keys,Ob.kids];refine⟨λk a=>?_,λc b=>?_,?_⟩
 ·rcases auF.1 a with h|h
  ·exact .inr (avQ h)
  ·rcases atL.1 h with h|h
   ·exact .inl h
   ·exact .inr (awZ h)
 ·rcases auF.1 b with h|h
  ·exact .inr (avQ h)
  ·rcases atL.1 h with h|h
   ·exact .inl h
   ·exact .inr (awZ h)
 ·simp only[asY,atF,atW,atG];split<;>omega
end Ps
end
section
open Go Eng
namespace Vl
theorem El (o:Ob)(key:List UInt8):(∀k∈(aM o key).keys,k∈o.keys)∧(aM o key).kids.length<=o.kids.length:=⟨λk h=>(CV key o.keys o.kids).subset h,(CS key o.keys o.kids).length_le⟩
theorem QW (h:key ∉ o.keys):get o key=none:=by
 unfold get;split
 ·rw[asT (λa=>h (aAK.1 a))]
 ·rfl
theorem Kv {v:Ob}(p:check 1 o=0)(q:keyed o=av)(r:name key=av)(hL:o.k=9->key≠qF)(s:v.k≠0)(d:check 2 v=0)(D:o.kids.length<=8190):check 1 (put o key v)=0:=by
 obtain⟨⟨t,a2,a3,a4,a5,E,f⟩,a⟩:=fU.1 p;have b:o.k=7∨o.k=9:=by simpa[keyed] using q
 have u:rising o=true:=by
  unfold form at f;simp only[atZ,axS,awY,avL] at f;rcases f.2 with h|h
  ·exact absurd b h
  ·exact h
 obtain⟨w,x,y,z⟩:=qJ.1 u;obtain⟨A,B⟩:=NK (key:=key) (v:=v) x w;obtain⟨C,m,F⟩:=Ps.aeM (o:=o) (v:=v) (key:=key);have n:(put o key v).k=o.k:=rfl;refine fU.2 ⟨⟨t,?_,a3,a4,a5,om,?_⟩,λc g=>?_⟩
 ·unfold gB at a2 ⊢;rw[n];rcases b with e|e
  ·rw[e] at a2 ⊢;simp[used] at a2 ⊢;exact a2
  ·rw[e] at a2 ⊢;simp[used] at a2 ⊢;exact a2
 ·have i:rising (put o key v)=true:=qJ.2 ⟨B,A,λk j=>by
   rcases C k j with rfl|e
   ·exact⟨r,λh=>hL h⟩
   ·exact y k e,λc l=>by
   rcases m c l with rfl|e
   ·exact s
   ·exact z c e⟩
  unfold form;rw[n,i];rcases b with e|e<;>rw[e]<;>rfl
 ·rcases m c g with rfl|e
  ·exact d
  ·exact a c e
end Vl
namespace Ff
theorem afW {n:List UInt8}:Vl.name (full n)=true:=by
 rcases jA n with e|e|e|e|e<;>rw[e]<;>decide
theorem Ky (n:List UInt8)(d:Nat)(hd:d<=24):Vl.check d (bP (full n))=0:=by
 have a:=afW (n:=n);refine Vl.fU.2 ⟨⟨hd,rfl,(λe=>absurd e (show ¬((5:Int)=9) by decide)),rfl,?_,(show (0:Nat)<=8191 by decide),?_⟩,(λc b=>by cases b)⟩
 ·unfold Vl.name at a;simp only[atZ,auP] at a;exact a.1
 ·show ((!(ai ((5:Int)=5))||Vl.name (full n))&&_)=av;rw[a];rfl
theorem aaM {ms:List (List UInt8)}(h:ms.length<=8):(alone ((ms.map full).map bP)).k≠0∧Vl.check 2 (alone ((ms.map full).map bP))=0:=by
 unfold alone;split
 ·rename_i a
  rw[atV,atV] at a;obtain⟨n,rfl⟩:=ayH.1 a;exact⟨by show (5:Int)≠0;decide,Ky n 2 dc⟩
 ·refine⟨by show (6:Int)≠0;decide,Vl.fU.2 ⟨⟨dc,rfl,(λe=>absurd e (show ¬((6:Int)=9) by decide)),rfl,(show (0:Nat)<=_ from atU _),?_,rfl⟩,(λc b=>?_)⟩⟩
  ·show ((ms.map full).map bP).length<=8191;rw[atV,atV];omega
  ·obtain⟨m,hm,rfl⟩:=auH.1 (show c∈(ms.map full).map bP from b);obtain⟨n,_,rfl⟩:=auH.1 hm;exact Ky n 3 dc
end Ff
namespace Ff
theorem abE {D:List UInt8}(h:(plain o D).2=0)(d:D.length<=1048576):(plain o D).1.k=9∧(plain o D).1.s=D∧Vl.check 1 (plain o D).1=0∧aQ ∉ (plain o D).1.keys∧bW ∉ (plain o D).1.keys∧(plain o D).1.kids.length<=o.kids.length:=by
 unfold plain at h ⊢;by_cases b:o.k≠9∧o.k≠7
 ·rw[asU b] at h;cases h
 rw[asT b] at h ⊢;by_cases a:Vl.check 1 (kS o)≠0
 ·rw[asU a] at h;exact absurd h a
 rw[asT a];have a:=ayL.1 a;have e:Vl.keyed (kS o)=true:=rfl;have f:=Vl.eZ (key:=aQ) a e;have g:=Vl.eZ (key:=bW) f rfl;have s1:=Vl.El (kS o) aQ;have s2:=Vl.El (Vl.aM (kS o) aQ) bW;have c:=Vl.El (Vl.aM (Vl.aM (kS o) aQ) bW) Vl.qF;have i:aQ ∉ (Vl.aM (kS o) aQ).keys:=Vl.A8 aQ _ _;have j:bW ∉ (Vl.aM (Vl.aM (kS o) aQ) bW).keys:=Vl.A8 bW _ _;have l:(kS o).kids.length=o.kids.length:=rfl;refine⟨rfl,rfl,Bd.Hq g rfl d,λhm=>i (s2.1 _ (c.1 _ hm)),λhm=>j (c.1 _ hm),?_⟩;show (Vl.aM (Vl.aM (Vl.aM (kS o) aQ) bW) Vl.qF).kids.length<=_;omega
theorem aaS (a:o.k=9)(b:aQ ∉ o.keys)(c:bW ∉ o.keys):of o=([],[],0):=by
 have g1:=Vl.QW b;have g2:=Vl.QW c;unfold of names vL Ja sS;rw[g1,g2,asT (by rw[a];decide)];rfl
theorem NZ (o:Ob)(D:List UInt8):(plain o D).1.wt<=o.wt+D.length:=by
 have d:=Vl.oK o;unfold plain;split
 ·show (6:Nat)<=_;omega
 split
 ·show (6:Nat)<=_;omega
 ·have f:=Nc o;have g:=Vl.fQ (kS o) aQ;have a:=Vl.fQ (Vl.aM (kS o) aQ) bW;have h:=Vl.fQ (bare o) Vl.qF;have b:=Vl.oK (Bd.Cg (bare o) D);have i:=Vl.oK (Vl.aM (bare o) Vl.qF);have e:bare o=Vl.aM (Vl.aM (kS o) aQ) bW:=rfl;rw[<-e] at a;have c:(Bd.Cg (bare o) D).s=D:=rfl;have a2:(Bd.Cg (bare o) D).keys=(Vl.aM (bare o) Vl.qF).keys:=rfl;have a3:(Bd.Cg (bare o) D).kids=(Vl.aM (bare o) Vl.qF).kids:=rfl;rw[c,a2,a3] at b;show (Bd.Cg (bare o) D).wt<=_;omega
end Ff
end
end Go.Proofs.YtlipjfcbjemicaaGreatDoor



namespace Go.Proofs.YtlipjfcbjemicaaGreatDoor
variable{D T1 T2 U:TypeId}{K:VWP}{P:Program}{PK:PKT}{W w:ao}{a colors:Int}{above data key:List UInt8}{b cap d f h i mo:Nat}{cb:Array Bool}{cur:List aq}{k':IntKind}{ns:List (List UInt8)}{o:Ob}{rr:List gk}{v va vr:aq}{x:Pm}{xo yo:Operand}{t0 t1 t2:aq}{k0:Eng.KT}
section
open Eng Go.RowKit
theorem CT (s:List UInt8):(oP s).1.length<=s.length:=by
 unfold oP;cases hu:Lx.upto s 1048577 0 with
|inl l=>
  have:=Lx.O3 s _ 0 l om om hu;simp only;split
  ·simp
  ·simp only;omega
|inr f=>simp
end
end Go.Proofs.YtlipjfcbjemicaaGreatDoor






































namespace Go.Proofs.YtlipjfcbjemicaaGreatDoor
variable{D T1 T2 U:TypeId}{K:VWP}{P:Program}{PK:PKT}{W w:ao}{a colors:Int}{above data key:List UInt8}{b cap d f h i mo:Nat}{cb:Array Bool}{cur:List aq}{k':IntKind}{ns:List (List UInt8)}{o:Ob}{rr:List gk}{v va vr:aq}{x:Pm}{xo yo:Operand}{t0 t1 t2:aq}{k0:Eng.KT}
section
open Eng Go.RowKit
namespace Ff
def Ao (p:Pm):Ob:=.mk 7 0 0 [] [Dq,Dj,CY] [ob1 2 p.c 0 [],ob1 2 p.n 0 [],ob1 2 p.p 0 []]
theorem Ko (n:Int)(d:Nat)(hd:d<=24)(h:-2147483647<=n∧n<=2147483647):Vl.check d (ob1 2 n 0 [])=0:=
 Vl.fU.2 ⟨⟨hd,rfl,(λe=>absurd e (show ¬((2:Int)=9) by decide)),(show ai (-2147483647<=n∧n<=2147483647)=av from atA h),(show (0:Nat)<=_ from atU _),(show (0:Nat)<=8191 by decide),rfl⟩,(λc a=>by cases a)⟩
def pmI (p:Pm):Prop:=(-2147483647<=p.p∧p.p<=2147483647)∧(-2147483647<=p.c∧p.c<=2147483647)∧(-2147483647<=p.n∧p.n<=2147483647)
theorem JI (p:Pm)(d:Nat)(hd:d<=23)(h:pmI p):Vl.check d (Ao p)=0:=by
 refine Vl.fU.2 ⟨⟨om,rfl,(λe=>absurd e (show ¬((7:Int)=9) by decide)),rfl,(show (0:Nat)<=_ from atU _),(show (3:Nat)<=8191 by decide),rfl⟩,λc a=>?_⟩;have a:c∈[ob1 2 p.c 0 [],ob1 2 p.n 0 [],ob1 2 p.p 0 []]:=a;simp only[atL,avO,or_false] at a;rcases a with rfl|rfl|rfl
 ·exact Ko _ _ om h.2.1
 ·exact Ko _ _ om h.2.2
 ·exact Ko _ _ om h.1
theorem UF (p:Pm)(h:pmI p):Vl.dict [bP Dq,ob1 2 p.c 0 [],bP Dj,ob1 2 p.n 0 [],bP CY,ob1 2 p.p 0 []]=(Ao p,0):=by
 have e:Vl.dict [bP Dq,ob1 2 p.c 0 [],bP Dj,ob1 2 p.n 0 [],bP CY,ob1 2 p.p 0 []]=Vl.right (Ao p):=krx
 rw[e];unfold Vl.right;rw[JI p 1 dc h];rfl
theorem aoV {p:Pm}(h:p≠bK):Pm.eqb p bK=false:=by
 cases d:Pm.eqb p bK with
|false=>rfl
|true=>
  unfold Pm.eqb at d;simp only[atZ,auP] at d;obtain⟨a,b,c⟩:=p;exact absurd (by rw[show a=_ from d.1,show b=_ from d.2.1,show c=_ from d.2.2]) h
end Ff
section
variable {w:ao}{PK:PKT}{K:VWP}{S:Nat->Prop}{w0:ao}{L T:List Ent}
theorem akQ (a c d e f g:Ob)(h:cH S w0 w L)(k:∀b w',cH S w0 w' (.cells b (obC a cO cO++obC c cO cO++obC d cO cO++obC e cO cO++obC f cO cO++obC g cO cO) 25::L)->K (bR b 0 6 6) w') :
  DoX ah (aT 23 6 #[(0,obV a cO cO),(1,obV c cO cO),(2,obV d cO cO),(3,obV e cO cO),(4,obV f cO cO),(5,obV g cO cO)]) w PK K:=
 bI (λb=>bR b 0 6 6) _ 25 (λ_=>by kernel_rfl) h k
end
theorem xK (N:Mem)(k n g:Int)(s:List UInt8):OV N.A N.w (obV (ob1 k n g s) cO cO) (ob1 k n g s):=
 rE.ov (o:=ob1 k n g s) (vk:=cO) (vc:=cO) (cs:=[]) ⟨SlA.nil _ _ _ _,SlA.nil _ _ _ _,.nil⟩
theorem Vj (p:Pm)(hp:p≠Ff.bK)(hi:Ff.pmI p)(M:Mem)(w:ao)(i:M.has w):jJ ah 68 #[pmV p] M w (λr N=>∃v',r=vI v' 0∧OV N.A N.w v' (Ff.Ao p)):=by
 refine aU i λK l=>zR ?_;unfold xZ iN dx stx alx;refine Ar p (cH.memS i) λd B a=>?_;refine dM a λj w2 a=>?_;refine cQ (λW=>cH M.A w W [obE j ob0 cO cO,pmE d p,.mem M]) a.drew ?_;refine iL (pmV p) (λW h=>bB (h.agg 1 rfl Ep)) ?_;refine iH (pmV Ff.bK) (λW h=>(qK W).mono λv w' ⟨m,o⟩=>⟨m,h.grow o⟩) ?_;refine gr _ (λ_=>St) ?_;intro w3 a;rw[Ff.aoV hp,i_f];have a:=a.drew;refine⟨λW=>(pmE d p).is W,a.at_ 1 rfl,?_⟩;refine aI (af d (0+1)) (λ_=>bC Mc) (gJ (ad p.c) (λW h=>aB bZ (aG (T:=27) (cs:=pmC p) h rfl)) ?_);refine aI (af d (0+2)) (λ_=>bC OL) (gJ (ad p.n) (λW h=>aB bZ (aG (T:=27) (cs:=pmC p) h rfl)) ?_);refine aI (af d (0+0)) (λ_=>bC XL) (gJ (ad p.p) (λW h=>aB bZ (aG (T:=27) (cs:=pmC p) h rfl)) ?_);refine aJ a (Fe Ff.Dq _) ?_;rintro _ C rfl a;refine⟨a.at_ 1 rfl,?_⟩;refine aJ a (MW p.c _) ?_;rintro _ D rfl a;refine⟨a.at_ 1 rfl,?_⟩;refine aJ a (Fe Ff.Dj _) ?_;rintro _ E rfl a;refine⟨a.at_ 1 rfl,?_⟩;refine aJ a (MW p.n _) ?_;rintro _ F rfl a;refine⟨a.at_ 1 rfl,?_⟩;refine aJ a (Fe Ff.CY _) ?_;rintro _ G rfl a;refine⟨a.at_ 1 rfl,?_⟩;refine aJ a (MW p.p _) ?_;rintro _ H rfl a;refine⟨a.at_ 1 rfl,?_⟩;refine akQ (Ff.bP Ff.Dq) (ob1 2 p.c 0 []) (Ff.bP Ff.Dj) (ob1 2 p.n 0 []) (Ff.bP Ff.CY) (ob1 2 p.p 0 []) a λb g a=>?_;refine⟨a.at_ 2 rfl,?_⟩;obtain⟨N,hle,e,a⟩:=cH.bV (L:=[obE j ob0 cO cO,pmE d p,.mem M]) (a.toU 6 6 6 rfl om om) 2 rfl;refine bG a 2 rfl (Wp [Ff.bP Ff.Dq,ob1 2 p.c 0 [],Ff.bP Ff.Dj,ob1 2 p.n 0 [],Ff.bP Ff.CY,ob1 2 p.p 0 []] _ _ N g (aAW krx) (a.hasM 2 rfl) e
  (gI (gI (gI (gI (gI (Da (xK N 5 0 0 Ff.Dq)) (Da (xK N 2 p.c 0 []))) (Da (xK N 5 0 0 Ff.Dj))) (Da (xK N 2 p.n 0 []))) (Da (xK N 5 0 0 Ff.CY))) (Da (xK N 2 p.p 0 [])))) ?_
 rw[Ff.UF p hi];rintro _ q s t ⟨I,rfl,k⟩ a;obtain⟨u,x,y,rfl,f⟩:=k.open;refine⟨a.at_ 1 rfl,?_⟩;unfold vI;refine aI (obV (Ff.Ao p) u x) (λ_=>by kernel_rfl) (aI (ad 0) (λ_=>by kernel_rfl) ?_);refine aP 0 f.keys.one f.kids.one a rfl λz a=>?_;exact bX 0 a rfl (l _ _ q _ 2 a rfl (hle.trans t) ⟨_,rfl,k⟩)
namespace Cs
def FB (n:Int):Ob:=ob1 2 n 0 []
end Cs
def intC (n:Int):List Value:=obC (Cs.FB n) cO cO
def apA (l:List Int):List Value:=l.flatMap intC
abbrev inR (v:aq)(l:List Int):Ent:=.urow 25 6 v l.length (apA l)
section
variable {w:ao}{PK PK2:PKT}{K:VWP}{S:Nat->Prop}{w0:ao}{L T:List Ent}
end
end
end Go.Proofs.YtlipjfcbjemicaaGreatDoor








namespace Go.Proofs.YtlipjfcbjemicaaGreatDoor
variable{D T1 T2 U:TypeId}{K:VWP}{P:Program}{PK:PKT}{W w:ao}{a colors:Int}{above data key:List UInt8}{b cap d f h i mo:Nat}{cb:Array Bool}{cur:List aq}{k':IntKind}{ns:List (List UInt8)}{o:Ob}{rr:List gk}{v va vr:aq}{x:Pm}{xo yo:Operand}{t0 t1 t2:aq}{k0:Eng.KT}
section
open Go Eng
namespace Ff
theorem Vt (p:Pm):KX (Ao p)=(p,0):=by
 have a:num (Ao p) CY=(p.p,0):=rfl;have b:num (Ao p) Dq=(p.c,0):=rfl;have d:num (Ao p) Dj=(p.n,0):=rfl;unfold KX;rw[asT (show ¬(Ao p).k=0 by show ¬(7:Int)=0;decide),a,b,d,asU ⟨rfl,rfl,rfl,rfl⟩]
theorem T7 (p:Pm):eight (Ao p)=true:=rfl
end Ff
end
end Go.Proofs.YtlipjfcbjemicaaGreatDoor













namespace Go.Proofs.YtlipjfcbjemicaaGreatDoor
variable{D T1 T2 U:TypeId}{K:VWP}{P:Program}{PK:PKT}{W w:ao}{a colors:Int}{above data key:List UInt8}{b cap d f h i mo:Nat}{cb:Array Bool}{cur:List aq}{k':IntKind}{ns:List (List UInt8)}{o:Ob}{rr:List gk}{v va vr:aq}{x:Pm}{xo yo:Operand}{t0 t1 t2:aq}{k0:Eng.KT}
section
open Go Eng
namespace Ff
theorem aaB {v:Ob}:(Vl.put o key v).kids.length<=o.kids.length+1:=by
 show (o.kids.take _++v::o.kids.drop _).length<=_;rw[asY,atW,atF,atG];omega
theorem WK {v:Ob}(c:Vl.check 1 o=0)(d:Vl.keyed o=av)(f:Vl.name key=av)(hL:key≠Vl.qF)(e:v.k≠0)(a:Vl.check 2 v=0)(g:o.kids.length<=8190):Vl.set o key v=(Vl.put o key v,0):=by
 have b:=Vl.Kv c d f (λ_=>hL) e a g;unfold Vl.set Vl.right;rw[asT (by rw[d];decide),asT (by rw[c];decide),asT e,asT (by rw[b];decide)]
end Ff
namespace Cs
end Cs
namespace Ff
theorem jY {p q:Pm}:Pm.eqb p q=av↔p=q:=by
 obtain⟨a,b,c⟩:=p;obtain⟨a',d,e⟩:=q;simp[Pm.eqb]
def Km (ns:List (List UInt8))(ps:List Pm):Int:=
 if 8 < ns.length then 6
 else if ns.any (λn=>ai (full n=[]))=av then 15
 else if ps≠[]∧ps.length≠ns.length then 1
 else if (ns.zip ps).any (λq=>!ai (full q.1=nFl)&&!Pm.eqb q.2 bK)=av then 1 else 0
def oP (ns:List (List UInt8))(ps:List Pm):List Pm:=if ps=[] then List.replicate ns.length bK else ps
def Mn:List (List UInt8)->List Pm->List UInt8->List UInt8->Int->Prop
|n::r,p::q,s,t,e=>∃u a,Mn r q s u a∧if a≠0 then t=[]∧e=a else M9 n p u t e
|_,_,s,t,e=>t=s∧e=0
def pmO (p:Pm):Ob:=if Pm.eqb p bK=av then Vl.ob0 else Ao p
def odd (ps:List Pm):Bool:=ps.any λp=>!Pm.eqb p bK
def IL (o:Ob)(ms:List (List UInt8))(ps:List Pm):Ob:=
 if ms=[] then o
 else if (Vl.set o aQ (alone (ms.map bP))).2≠0 then o
 else if odd ps=au then (Vl.set o aQ (alone (ms.map bP))).1
 else if (Vl.set (Vl.set o aQ (alone (ms.map bP))).1 bW (alone (ps.map pmO))).2≠0 then (Vl.set o aQ (alone (ms.map bP))).1
 else (Vl.set (Vl.set o aQ (alone (ms.map bP))).1 bW (alone (ps.map pmO))).1
def Eu (o:Ob)(ms:List (List UInt8))(ps:List Pm)(D:List UInt8):Ob×Int:=
 if (plain o D).2≠0 then plain o D
 else if ms=[] then plain o D
 else if (Vl.set (plain o D).1 aQ (alone (ms.map bP))).2≠0 then (Vl.ob0,(Vl.set (plain o D).1 aQ (alone (ms.map bP))).2)
 else if odd ps=au then ((Vl.set (plain o D).1 aQ (alone (ms.map bP))).1,0)
 else if (Vl.set (Vl.set (plain o D).1 aQ (alone (ms.map bP))).1 bW (alone (ps.map pmO))).2≠0 then (Vl.ob0,(Vl.set (Vl.set (plain o D).1 aQ (alone (ms.map bP))).1 bW (alone (ps.map pmO))).2)
 else ((Vl.set (Vl.set (plain o D).1 aQ (alone (ms.map bP))).1 bW (alone (ps.map pmO))).1,0)
def stg (n:Nat):Nat:=2*n+n / 400+20
def bnd:Nat->Nat
|0=>200
|k+1=>stg (bnd k)
theorem Zv:∀k,bnd k<=bnd (k+1):=λk=>by show bnd k<=stg (bnd k);unfold stg;omega
theorem TS:∀{j k:Nat},j<=k->bnd j<=bnd k
|j,0,h=>by
  have:j=0:=om
  rw[this];exact atE _
|j,k+1,h=>by
  by_cases e:j=k+1
  ·rw[e];exact atE _
  ·exact avH (TS (k:=k) om) (Zv k)
theorem bnd8 {k:Nat}(h:k<=8):bnd k<=200000:=avH (TS h) dc
theorem Xf {s:List UInt8}(h:ct x s=0):(bn x s).length<=2*s.length:=by
 unfold ct at h;by_cases a:x.ok
 case neg=>rw[asU a] at h;cases h
 rw[asT (by simp[a])] at h;by_cases g:1048576 < s.length
 ·rw[asU g] at h;cases h
 rw[asT g] at h;unfold bn;by_cases b:x.p=1
 ·rw[asU b];omega
 rw[asT b] at h;rw[asT b];have d:=Pm.mul_pos a;obtain⟨n,l⟩:∃n:Nat,x.c*x.n=(n:Int):=⟨(x.c*x.n).toNat,om⟩;rw[l] at h d ⊢;rw[atC] at h ⊢;by_cases i:s.length % n=0
 case neg=>rw[asU i] at h;cases h
 have f:0 < n:=om
 have j:s.length=s.length / n*n:=by
  have:=Nat.div_add_mod s.length n;rw[i,auU,awN] at this;exact this.symm
 have k:x.head=0∨x.head=1:=by unfold Pm.head;split<;>simp
 rw[qu (T:=ik x) (c:=x.c) f k (s.length / n) (s.length+1) s [] j om,Nat.mul_add,<-j];have hd:s.length / n<=s.length:=axD _ _;rcases k with e|e<;>rw[e]<;>omega
theorem aiI {n s t:List UInt8}{p:Pm}{e:Int}(h:M9 n p s t e):t.length<=stg s.length:=by
 unfold M9 at h;unfold stg;split at h
 ·rw[h.1];simp
 ·split at h
  ·split at h
   ·rename_i hw
    have:=Xf hw;omega
   ·rw[h.1];simp
  ·rw[h.1];have:=L1 (n:=n) (s:=s);omega
theorem Fk:∀{ms:List (List UInt8)} {ps:List Pm} {s t:List UInt8} {e:Int},s.length<=200->Mn ms ps s t e->t.length<=bnd ms.length
|[],_,s,t,e,a,h=>by
  have:t=s∧e=0:=by cases ‹List Pm›<;>exact h
  rw[this.1];exact a
|n::r,[],s,t,e,a,h=>by
  have h:t=s∧e=0:=h;rw[h.1];exact avH a (TS (atU _))
|n::r,p::q,s,t,e,a,⟨u,d,c,b⟩=>by
  have f:=Fk a c;split at b
  ·rw[b.1];exact atU _
  ·refine avH (aiI b) ?_;show stg u.length<=stg (bnd r.length);unfold stg;omega
theorem KB:∀{ms:List (List UInt8)} {ps:List Pm} {s t:List UInt8},ms.length<=8->ps.length=ms.length->s.length<=200->Mn ms ps s t 0->chain ms ps t=(s,0)
|[],[],s,t,_,_,_,h=>by
  have h:t=s∧(0:Int)=0:=h;rw[h.1];rfl
|n::r,p::q,s,t,e,f,b,⟨u,c,d,a⟩=>by
  rw[atW] at e;have he:c=0:=by
   by_cases h:c≠0
   ·rw[asU h] at a;exact a.2.symm
   ·exact ayL.1 h
  subst he;rw[asT (λh=>h rfl)] at a;have g:=Fk b d;have:=bnd8 (k:=r.length) om;unfold chain;rw[ZJ a rfl om,asT (λh=>h rfl)];exact KB om (by simpa using f) b d
theorem akB {p:Pm}{s:List UInt8}(h:ct p s=0):p.ok:=by
 unfold ct at h;by_cases a:p.ok
 ·exact a
 ·rw[asU a] at h;cases h
theorem Oi:∀{ms:List (List UInt8)} {ps:List Pm} {s t:List UInt8},Mn ms ps s t 0->(∀q∈ms.zip ps,full q.1=nFl∨q.2=bK)->(∀m∈ms,full m≠[])->ps.length=ms.length->∀p∈ps,p.ok
|[],[],_,_,_,_,_,_=>λp hp=>by cases hp
|n::r,p::q,s,t,⟨u,d,f,a⟩,e,hm,g=>λx b=>by
  have he:d=0:=by
   by_cases h:d≠0
   ·rw[asU h] at a;exact a.2.symm
   ·exact ayL.1 h
  subst he;rw[asT (λh=>h rfl)] at a;rcases atL.1 b with rfl|b
  ·rcases e (n,x) (auV ..) with h|h
   ·have h:full n=nFl:=h;unfold M9 at a;rw[asT (hm n (auV ..)),asU h] at a;by_cases hw:ct x u=0
    ·exact akB hw
    ·rw[asT hw] at a;exact absurd a.2.symm hw
   ·have h:x=bK:=h;rw[h];decide
  ·exact Oi f (λq i=>e q (auE _ i)) (λm c=>hm m (auE _ c)) (by simpa using g) x b
theorem adQ {p:Pm}(h:p.ok):pmI p:=by
 have b:=Pm.n_le h;obtain⟨a,c,d,e,f⟩:=h;refine⟨?_,om,om⟩;rcases a with h|h|h<;>omega
theorem PL {p:Pm}(h:p.ok)(d:Nat)(hd:d<=23):Vl.check d (pmO p)=0:=by
 unfold pmO;split
 ·exact Vl.fU.2 ⟨⟨om,rfl,(λe=>absurd e (show ¬((0:Int)=9) by decide)),rfl,(show (0:Nat)<=_ from atU _),(show (0:Nat)<=8191 by decide),rfl⟩,λc a=>by cases a⟩
 ·exact JI p d hd (adQ h)
theorem Wx {ps:List Pm}(h:ps.length<=8)(a:∀p∈ps,p.ok)(b:odd ps=av):(alone (ps.map pmO)).k≠0∧Vl.check 2 (alone (ps.map pmO))=0:=by
 unfold alone;split
 ·rename_i d
  rw[atV] at d;obtain⟨p,rfl⟩:=ayH.1 d;have hp:¬Pm.eqb p bK=true:=by
   unfold odd at b;simpa using b
  refine⟨?_,PL (a p (auB.2 rfl)) 2 dc⟩;show (pmO p).k≠0;unfold pmO;rw[asT hp];show (7:Int)≠0;decide
 ·refine⟨by show (6:Int)≠0;decide,Vl.fU.2 ⟨⟨dc,rfl,(λe=>absurd e (show ¬((6:Int)=9) by decide)),rfl,(show (0:Nat)<=_ from atU _),?_,rfl⟩,(λc f=>?_)⟩⟩
  ·show (ps.map pmO).length<=8191;rw[atV];omega
  ·obtain⟨p,hp,rfl⟩:=auH.1 (show c∈ps.map pmO from f);exact PL (a p hp) 3 dc
theorem TP (p:Pm):KX (pmO p)=(p,0):=by
 unfold pmO;split
 ·rename_i h
  rw[jY.1 h];rfl
 ·exact Vt p
theorem Yl (p:Pm):eight (pmO p)=true:=by
 unfold pmO;split
 ·rfl
 ·exact T7 p
theorem anO {ps:List Pm}(h:odd ps=au):ps=List.replicate ps.length bK:=by
 refine List.eq_replicate_iff.2 ⟨rfl,λp hp=>?_⟩;have:=List.any_eq_false.1 h p hp;exact jY.1 (by simpa using this)
theorem of_G {P:Ob}{ms:List (List UInt8)}{ps:List Pm}(g:P.k=9)(l:ms.length<=8)(hm:∀m∈ms,full m=m∧m≠[])(o:ms≠[])(d:ps.length=ms.length)(f:∀p∈ps,p.ok)
  (g1:Vl.get P aQ=ax (alone (ms.map bP))) (g2:Vl.get P bW=if odd ps=av then ax (alone (ps.map pmO)) else aw):of P=(ms,ps,0):=by
 have i:Ja P=ms.map bP:=by
  unfold Ja;rw[g1];show (if (alone (ms.map bP)).k=6 then _ else _)=_;unfold alone;split
  ·rename_i a
   rw[atV] at a;obtain⟨n,rfl⟩:=ayH.1 a;rfl
  ·rfl
 have j:names P=(ms,0):=by
  unfold names;rw[i,asT,asT (by rw[atV];omega),asT]
  ·congr 1
   rw[axB];exact (axY λm h=>(hm m h).1).trans (List.map_id ms)
  ·intro h;obtain⟨x,b,h⟩:=avB.1 h;obtain⟨m,a,rfl⟩:=auH.1 b;have h:full m=[]:=atQ h;rw[(hm m a).1] at h;exact (hm m a).2 h
  ·intro h;obtain⟨x,b,h⟩:=avB.1 h;obtain⟨m,a,rfl⟩:=auH.1 b;exact atQ h rfl
 have hp:vL P ms.length=(ps,0):=by
  cases c:odd ps with
 |false=>
   rw[c,asT dc] at g2;have hd:sS P=([],0):=by unfold sS;rw[g2]
   unfold vL;rw[hd];show (([]:List Pm)++List.replicate (ms.length - 0) bK,(0:Int))=_;rw[auI,azE,<-d,<-anO c]
 |true=>
   rw[c,asU rfl] at g2;have hd:sS P=(ps.map pmO,0):=by
    unfold sS;rw[g2];show (if (alone (ps.map pmO)).k=6 then _ else if (alone (ps.map pmO)).k=7 then _ else _)=_;unfold alone;split
    ·rename_i a
     rw[atV] at a;obtain⟨p,rfl⟩:=ayH.1 a;have hp:¬Pm.eqb p bK=true:=by
      unfold odd at c;simpa using c
     have e:pmO p=Ao p:=by unfold pmO;rw[asT hp]
     show (if (pmO p).k=6 then _ else if (pmO p).k=7 then _ else _)=_;rw[e];rfl
    ·rfl
   unfold vL;rw[hd];dsimp only;rw[asT dc,asT,asT (by rw[atV,d];omega),asT,atV,d,avV,axB]
   ·show (ps.map _++[],(0:Int))=_;rw[atX]
    congr 1
    exact (axY λp _=>by show (KX (pmO p)).1=p;rw[TP]).trans (List.map_id ps)
   ·intro h;obtain⟨x,b,h⟩:=avB.1 h;obtain⟨p,_,rfl⟩:=auH.1 b;rw[Yl] at h;cases h
   ·intro h;obtain⟨x,b,h⟩:=avB.1 h;obtain⟨p,_,rfl⟩:=auH.1 b;rw[TP] at h;exact atQ h rfl
 unfold of;rw[asT (λh=>h g),j];dsimp only;rw[asT dc,hp];dsimp only;rw[asT dc,asT];intro h;obtain⟨x,b,h⟩:=avB.1 h;have:=f x b;simp[this] at h
theorem RS {ms:List (List UInt8)}{ps:List Pm}{D:List UInt8}(r:ms.length<=8)(hm:∀m∈ms,full m=m∧m≠[])(t:ps.length=ms.length)(e:∀p∈ps,p.ok)(C:D.length<=1048576)(hp:(plain o D).2=0)(L:o.kids.length<=8100) :
  (Eu o ms ps D).2=0∧(Eu o ms ps D).1=IL (plain o D).1 ms ps∧Vl.check 1 (Eu o ms ps D).1=0∧(Eu o ms ps D).1.s=D∧(Eu o ms ps D).1.k=9∧of (Eu o ms ps D).1=(ms,ps,0):=by
 obtain⟨c,n,g,y,u,E⟩:=abE hp C;unfold Eu IL;rw[asT (λh=>h hp)];by_cases i:ms=[]
 ·subst i;have:ps=[]:=awO.1 t;subst this;rw[asU rfl,asU rfl];exact⟨hp,rfl,g,n,c,aaS c y u⟩
 rw[asT i,asT i];have w:ms.map bP=(ms.map full).map bP:=by
  rw[axB];exact axY λm h=>by show bP m=bP (full m);rw[(hm m h).1]
 obtain⟨x,a2⟩:=aaM (ms:=ms) r;rw[<-w] at x a2;generalize M:(plain o D).1=P at c n g y u E;have b:Vl.keyed P=true:=by simp[Vl.keyed,c]
 have F:=WK (key:=aQ) (v:=alone (ms.map bP)) g b dc dc x a2 om;have q:=Vl.Kv (key:=aQ) (v:=alone (ms.map bP)) g b dc (λ_=>by decide) x a2 om;have G:=aaB (o:=P) (key:=aQ) (v:=alone (ms.map bP));have a:Vl.keyed (Vl.put P aQ (alone (ms.map bP)))=true:=b;have j:=(Vl.gQ g b).2;have l:=(Vl.gQ q a).2;have g1:=Vl.YH (key:=aQ) (v:=alone (ms.map bP)) b j;have z:¬((0:Int)≠0):=dc
 rw[F];dsimp only;rw[asT z,asT z];by_cases d:odd ps=au
 ·rw[asU d,asU d];have g2:Vl.get (Vl.put P aQ (alone (ms.map bP))) bW=none:=by
   rw[Vl.MJ j dc];exact Vl.QW u
  have f:=of_G (show (Vl.put P aQ (alone (ms.map bP))).k=9 from c) r hm i t e g1 (by rw[d,asT dc];exact g2);exact⟨rfl,rfl,q,n,c,f⟩
 ·rw[asT d,asT d];have d:odd ps=true:=by cases h:odd ps<;>simp_all
  obtain⟨A,B⟩:=Wx om e d;have H:=WK (key:=bW) (v:=alone (ps.map pmO)) q a dc dc A B om;have I:=Vl.Kv (key:=bW) (v:=alone (ps.map pmO)) q a dc (λ_=>by decide) A B om;rw[H];dsimp only;rw[asT z,asT z];have J:=Vl.YH (key:=bW) (v:=alone (ps.map pmO)) a l;have K:Vl.get (Vl.put (Vl.put P aQ (alone (ms.map bP))) bW (alone (ps.map pmO))) aQ=ax (alone (ms.map bP)):=by
   rw[Vl.MJ l dc];exact g1
  have f:=of_G (show (Vl.put (Vl.put P aQ (alone (ms.map bP))) bW (alone (ps.map pmO))).k=9 from c) r hm i t e K (by rw[d,asU rfl];exact J);exact⟨rfl,rfl,I,n,c,f⟩
theorem Xb {ms:List (List UInt8)}{ps:List Pm}{D:List UInt8}(g:ms.length<=8)(hm:∀m∈ms,full m=m∧m≠[])(i:ps.length=ms.length)(j:∀q∈ms.zip ps,full q.1=nFl∨q.2=bK)(hd:data.length<=200)(h:Mn ms ps data D 0)(hp:(plain o D).2=0)(l:o.kids.length<=8100) :
  (Eu o ms ps D).2=0∧(Eu o ms ps D).1=IL (plain o D).1 ms ps∧Vl.check 1 (Eu o ms ps D).1=0∧(Eu o ms ps D).1.s=D∧(Eu o ms ps D).1.k=9∧of (Eu o ms ps D).1=(ms,ps,0)∧decode (Eu o ms ps D).1=(data,0):=by
 have p:=Fk hd h;have n:=bnd8 g;obtain⟨a,b,c,d,e,f⟩:=RS (D:=D) g hm i (Oi h j (λm h=>by rw[(hm m h).1];exact (hm m h).2) i) om hp l;refine⟨a,b,c,d,e,f,?_⟩;unfold decode;rw[f,asT (show ¬((0:Int)≠0) by decide),d];exact KB g i hd h
end Ff
end
end Go.Proofs.YtlipjfcbjemicaaGreatDoor
