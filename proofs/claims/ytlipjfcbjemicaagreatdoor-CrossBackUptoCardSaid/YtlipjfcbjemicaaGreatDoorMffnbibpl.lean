/- Texts that go together: ObG ObH ObI MkA SMake5 Plain07 SRef07 SRef04 PlR PlS Plain03D Plain03E Plain04B Plain03F Plain03G Plain17 Plain17B Plain55 SOct LxA SLex LxB LxC LxD LxE LxF LxG LxH LxI SRef03 LxR SHead SRef17 HdA LxS LxT LxU LxV LxW LxX LxY LxZ LxAA LxAB LxAC SLaw04 PlT LxAD SLaw03 LxAE HdB HdC SLaw17 HdD SRef55 ScA ObJ MkB SWrite ObK ObL ObM ObN ObO MkC LxAF LxAG SLaw04B PlW SRef06 SParse PsA MkD MkE MkF EngZ MkG Plain19 KdA DcA SDocs SRef19 DcB DcC SSlcI SlcI DcD DcE DcF Plain19B DcG EngAC PsB PsC Plain07B Plain38 SLabel SRef38 SCut LbA LbB LbC LbD LbE DcH SLaw07 ObP ObQ ObR STexts OcTx SSame ObSm SApart Plain07C ObS0 ObT DcI LbF Plain38B Plain38C Plain38D Plain38E Plain06B Plain06C Plain06D Plain06E PsD PsE PsF SMake6 PsG PsH PsI PsJ Plain06F EngAA PsK PsL PsM Plain18 STable TbA TbEq SRef18 TbB EngAD Plain18B Plain18C TbC TbD TbFit TbH TbN SRef20 SLaw20 CsQ SDocT EngAH Plain35 Plain35B Plain35C Plain38F Plain38G Plain35D SPages SNumB PgA Plain16. -/
import Derived.Test.YtlipjfcbjemicaaGreatDoorRows
import Derived.Lib.IndexMore
import Derived.Lib.LastIndexLaws
import Derived.Lib.SmallJoins
import Derived.Lib.Overlaps
import Derived.Laws.Externs
import Derived.Lib.Repeat
import Derived.Lib.Case
import Derived.Maps.RangeRun
import Derived.Test.YtlipjfcbjemicaaGreatDoorMdcceohmh
set_option linter.defProp false
set_option linter.unusedSimpArgs false
set_option linter.unusedVariables false
set_option maxRecDepth 20000
open Go.Proofs.Tryz
open Go.Proofs.Tryz renaming prog->ah
open Option renaming some->ax,none->aw
open Bool renaming true->av,false->au
open Go renaming Value->aq,World->ao
open Decidable renaming decide->ai
namespace Go.Proofs.YtlipjfcbjemicaaGreatDoor
variable{A S:Nat->Prop}{K:VWP}{L:List Eng.Ent}{M N:Eng.Mem}{P:Program}{PK PK2:PKT}{T1 U:TypeId}{W w w0:ao}{a:Int}{args:Array aq}{b cap d f i j m sz:Nat}{cb:Array Bool}{cs news xs:List aq}{ds:List Deferred}{e:Eng.Ent}{k':IntKind}{key:List UInt8}{o:Ob}{q:Bool}{u:FrameMode}{v v2 vc vk vs:aq}{xo yo:Operand}{α:Type}{t0 t1:aq}{k0:Eng.KT}
section
open Eng Go.RowKit
 attribute [local congr] BU
theorem qE (n a b:Int)(w:ao):Ret ah 254 #[.int .i64 n,.int .i64 a,.int .i64 b] w (λv w'=>v=.bool (ai (a<=n)&&ai (n<=b))∧w=w'):=by
 refine aZ λK c=>tY ?_;unfold nG nz;simp +contextual only[rs,gs];exact c _ _ ⟨rfl,rfl⟩
theorem Nj (n a b:Int)(w:ao):Ret ah 255 #[.int .i64 n,.int .i64 a,.int .i64 b] w (λv w'=>v=.bool (ai (a<=n)&&ai (n<=b))∧w=w'):=by
 refine aZ λK c=>zM ?_;unfold pS nz;simp +contextual only[rs,gs];exact c _ _ ⟨rfl,rfl⟩
theorem Uc {p:UInt8->Bool}:∀(s:List UInt8),s.takeWhile p=s->∀x∈s,p x=av
|[],_,x,b=>by cases b
|a::s,h,x,b=>by
  rw[asX] at h;split at h
  ·rename_i c
   injection h with _ h
   rcases amH.1 b with rfl|b
   ·exact c
   ·exact Uc s h x b
  ·cases h
theorem VE {p:UInt8->Bool}:∀(s:List UInt8) {a:UInt8} {t:List UInt8},s.dropWhile p=a::t->p a=au
|[],_,_,h=>by cases h
|b::s,a,t,h=>by
  rw[List.dropWhile_cons] at h;split at h
  ·exact VE s h
  ·rename_i c
   injection h with h _
   subst h;simpa using c
theorem Pv (s:List UInt8)(w:ao):Ret ah 215 #[.string ⟨s.toArray⟩] w (λv w'=>v=.bool (Vl.name s)∧w=w'):=by
 refine aZ λK c=>Il ?_;unfold GM nz;rw[gM amP,WS];by_cases h:(s.length:Int)<=127
 ·have hi:∀{K':VWP},K' (.int .i64 (Lib.indexByte s 0)) w->CallX ah 224 #[.string ⟨s.toArray⟩,.int .u8 0] w (pk K) K':=λd=>c_eq (Lj s 0 w) d;simp only[h,amD,rs];refine hi ?_;simp only[rs];refine c _ _ ⟨?_,rfl⟩;rw[Vl.name,amG (show s.length<=127 by omega),Bool.true_and]
  congr 1
  rw[decide_eq_decide];rcases QM 0 s with ⟨b,e,f⟩|⟨i,b,a,f,g⟩
  ·rw[b];refine⟨λ_ hm=>?_,λ_=>by decide⟩;have:=Uc s e 0 hm;simp at this
  ·rw[b];refine⟨λh=>by omega,λhm=>absurd ?_ hm⟩;have j:s.drop i=s[i]::s.drop (i+1):=anX a;have k:s[i]=0:=by
    have:=VE s (g.trans j);simpa using this
   exact k▸amR a
 ·simp only[h,amF,rs,g_un];refine c _ _ ⟨?_,rfl⟩;rw[Vl.name,amE (show ¬s.length<=127 by omega)];rfl
theorem OE (o:Ob)(v:aq)(w:ao)(h:OV (InW w) w v o)(S:o.keys.length<=9223372036854775807) :
  Ret ah 216 #[v] w (λv w'=>v=.bool (Vl.rising o)∧Below w.heap.size w w'):=by
 obtain⟨vk,vc,cs,rfl,s⟩:=h.open;refine aZ λK C=>Ee ?_;unfold AX nz;refine iE o s.keys.one s.kids.one (Own.start w) λb T f=>?_;have lk:∀{W:ao} {L:List Ent},Own w W L->∀{PK:PKT} {K:VWP},DoX ah (mB .len #[22] 3 #[au] #[vk]) W PK K=K (.int .i64 (o.keys.length:Int)) W:=λf=>bD amV (s.own f).keys.1;have lc:∀{W:ao} {L:List Ent},Own w W L->∀{PK:PKT} {K:VWP},DoX ah (mB .len #[23] 3 #[au] #[vc]) W PK K=K (.int .i64 (o.kids.length:Int)) W:=λf=>bD amT (s.own f).kids.1;simp only[rs,zU,oQ,mW f 0 rfl,fD f 0 rfl,lk f,lc f];by_cases hlen:(o.keys.length:Int)≠(o.kids.length:Int)
 ·simp only[amG hlen,i_t];refine C _ _ ⟨?_,f.done⟩;have:¬o.keys.length=o.kids.length:=λe=>hlen (by rw[e]);simp[Vl.rising,this]
 have hle:o.keys.length=o.kids.length:=om
 simp only[amE hlen,i_f];have P:Vl.rising o=(List.range o.keys.length).all (Vl.Gv o):=by simp[Vl.rising,hle]
 rw[P] at C;refine loop (λvs w'=>∃(i:Nat),vs=[.int .i64 i]∧i<=o.keys.length∧(List.range i).all (Vl.Gv o)=av∧Own w w' [obE b o vk vc]) (λvs _=>o.keys.length - n0 vs) ⟨0,rfl,om,sm,f⟩ ?_;rintro vs w2 ⟨i,rfl,hi,j,f⟩ _;simp only[vF,gd,rs,nz];by_cases t:(i:Int) < (o.keys.length:Int)
 ·have n:i < o.keys.length:=om
  simp only[t,amD,i_t];have l:=s.own f;refine Jb (.string ⟨(o.keys[i]).toArray⟩) amV krx l.keys.1 om (by rw[amK];exact mJ n) λq r=>?_;rw[aJ Iv r];refine c_eq (Pv o.keys[i] w2) ?_;obtain⟨Q,u,x,E⟩:=Tv l.kids.1 l.all (show i < o.kids.length by omega);have y:∀{PK:PKT} {K:VWP},DoX ah (aH 3 (.pointer (ax ⟨Q,u,aw⟩))) w2 PK K=K (.int .i64 o.kids[i].k) w2:=aJ aU E;have p:ai (0 < (i:Int))=av->∃(z g:Nat),(∀{PK:PKT} {K:VWP},DoX ah (mIA 22 vk (.int .i64 (IntKind.wrap .i64 ((i:Int) - 1)))) w2 PK K=K (.pointer (ax ⟨z,g,aw⟩)) w2) ∧
    (∀{PK:PKT} {K:VWP},DoX ah (aH 9 (.pointer (ax ⟨z,g,aw⟩))) w2 PK K=K (.string ⟨(o.keys.getD (i - 1) []).toArray⟩) w2):=by
   intro h;have h:=amU h;have M:i - 1 < o.keys.length:=om
   obtain⟨z,g,O,rfl,F⟩:=bY l.keys.1 (show 0 < o.keys.length by omega);refine⟨z,g+(i - 1),?_,?_⟩
   ·intro PK K;rw[aA om om];refine aD ?_;rw[dX amV (show _=ax 1 by kernel_rfl) om om,show ((i:Int) - 1).toNat*1=i - 1 by omega]
   ·intro PK K;rw[amI,amN M];exact aJ Iv (F _ _ (mJ M))
  have G:o.keys.getD i []=o.keys[i]:=by rw[amI,amN n];rfl
  have H:o.kids.getD i (.mk 0 0 0 [] [] [])=o.kids[i]'(om):=by rw[amI,amN om];rfl
  have tail:∀(q:Bool) (N:Prop),q=!(Vl.Gv o i)->(Vl.Gv o i=av->N)->IfX (.bool q) (K (.returned (.bool au)) w2) N:=by
   intro q N r R;cases m:Vl.Gv o i with
  |false=>
    rw[m] at r;subst r;rw[show (!au)=av from rfl,i_t];exact C _ _ ⟨by rw[KE m n],f.done⟩
  |true=>
    rw[m] at r;subst r;rw[show (!av)=au from rfl,i_f];exact R m
  have A:Vl.Gv o i=(Vl.name o.keys[i]&&(ai (i=0)||Vl.less (o.keys.getD (i - 1) []) o.keys[i])&&!(ai (o.k=9)&&ai (o.keys[i]=Vl.lenK))&&ai ((o.kids[i]'(om)).k≠0)):=by
   rw[Vl.Gv,G,H]
  by_cases B:i=0
  ·have D:ai (0 < (i:Int))=false:=by rw[apK];omega
   simp +contextual only[rs,gs,D,NL,abT,K1,Bool.and_false,Bool.not_not,atM,fP,oQ,ob_k f 0 rfl,fD f 0 rfl,x,y,g_un,p_f];refine tail _ _ ?_ λm=>?_
   ·rw[A,amG B];simp only[Bool.true_or,Bool.and_true,Vl.lenK,ne_eq,decide_not];generalize Vl.name o.keys[i]=a;generalize ai (o.k=9)=c;generalize ai ((o.kids[i]'(om)).k=0)=d;by_cases hL:o.keys[i]=[76,101,110,103,116,104]<;>simp only[hL,amD,amF]<;>cases a<;>cases c<;>cases d<;>rfl
   ·rw[aA om om];exact aY ⟨i+1,rfl,om,by rw[Bs,j,m];rfl,f⟩ (by simp[n0,RowKit.intOf];omega)
  ·have D:ai (0 < (i:Int))=true:=by rw[decide_eq_true_iff];omega
   obtain⟨z,g,I,J⟩:=p D;simp +contextual only[rs,gs,D,NL,abT,K1,Bool.and_false,Bool.not_not,atM,fP,zU,oQ,ob_k f 0 rfl,mW f 0 rfl,fD f 0 rfl,x,y,I,J,g_un];refine tail _ _ ?_ λm=>?_
   ·rw[A,amE B];simp only[Bool.false_or,Vl.lenK,ne_eq,decide_not];generalize Vl.name o.keys[i]=a;generalize ai (o.k=9)=c;generalize ai ((o.kids[i]'(om)).k=0)=d;show _=!(_&&Op.bytesLess (o.keys.getD (i - 1) []) o.keys[i]&&_&&_);generalize Op.bytesLess (o.keys.getD (i - 1) []) o.keys[i]=e;by_cases hL:o.keys[i]=[76,101,110,103,116,104]<;>simp only[hL,amD,amF]<;>cases a<;>cases c<;>cases d<;>cases e<;>rfl
   ·rw[aA om om];exact aY ⟨i+1,rfl,om,by rw[Bs,j,m];rfl,f⟩ (by simp[n0,RowKit.intOf];omega)
 ·simp only[t,amF,i_f];refine C _ _ ⟨?_,f.done⟩;rw[show o.keys.length=i by omega,j]
theorem Ud (o:Ob)(v:aq)(w:ao)(h:OV (InW w) w v o):Ret ah 213 #[v] w (λv w'=>v=.bool (Vl.fits o)∧Below w.heap.size w w'):=by
 obtain⟨vk,vc,cs,rfl,l⟩:=h.open;refine aZ λK c=>HV ?_;unfold E1 nz;refine iE o l.keys.one l.kids.one (Own.start w) λb f a=>?_;simp only[fP,ob_k a 0 rfl,rs];by_cases d:o.k=1
 ·simp only[d,amD,i_t,IU,ob_n a 0 rfl];refine c_eq (qE _ _ _ f) (c _ _ ⟨?_,a.done⟩);rw[Vl.fits,amB d,asZ]
 by_cases e:o.k=2
 ·simp only[e,Int.reduceEq,amD,amF,i_t,i_f,IU,ob_n a 0 rfl];refine c_eq (qE _ _ _ f) (c _ _ ⟨?_,a.done⟩);rw[Vl.fits,amA d,amB e,asZ]
 by_cases i:o.k=3
 ·simp only[i,Int.reduceEq,amD,amF,i_t,i_f,IU,ob_n a 0 rfl];refine c_eq (qE _ _ _ f) (c _ _ ⟨?_,a.done⟩);rw[Vl.fits,amA d,amA e,amB i,asZ]
 by_cases j:o.k=8
 ·simp only[j,Int.reduceEq,amD,amF,i_t,i_f,IU,ob_n a 0 rfl];refine c_eq (qE _ _ _ f) ?_;have p:Vl.fits o=(ai (1<=o.n)&&ai (o.n<=8191)&&(ai (0<=o.g)&&ai (o.g<=65535))):=by
   rw[Vl.fits,amA d,amA e,amA i,amB j,asZ,asZ]
  rw[p] at c;cases m:(ai (1<=o.n)&&ai (o.n<=8191)) with
 |false=>
   rw[m] at c;rw[g_ft,g_ft,g_ft,p_f];exact c _ _ ⟨rfl,a.done⟩
 |true=>
   rw[m] at c;rw[g_tt,acW,g_tt,ob_g a 0 rfl,g_tt];refine c_eq (Nj _ _ _ f) ?_;rw[p_t];exact c _ _ ⟨rfl,a.done⟩
 simp only[d,e,i,j,amF,i_f];refine c _ _ ⟨?_,a.done⟩;rw[Vl.fits,amA d,amA e,amA i,amA j]
def I1 (o:Ob):Bool:=if o.k=4 then ai (o.s.length<=32767) else if o.k=5 then ai (o.s.length<=127) else ai (o.s.length<=1048576)
theorem Q8 (o:Ob)(v:aq)(w:ao)(h:OV (InW w) w v o):Ret ah 214 #[v] w (λv w'=>v=.bool (I1 o)∧Below w.heap.size w w'):=by
 obtain⟨vk,vc,cs,rfl,f⟩:=h.open;refine aZ λK e=>Fo ?_;unfold Dx nz;refine iE o f.keys.one f.kids.one (Own.start w) λb g a=>?_;simp only[fP,ob_k a 0 rfl,rs];have hi:∀m:Nat,ai ((o.s.length:Int)<=(m:Int))=ai (o.s.length<=m):=λm=>by rw[decide_eq_decide];omega
 by_cases c:o.k=4
 ·simp only[c,amD,i_t,FN,ob_s a 0 rfl,gM amP,rs];refine e _ _ ⟨?_,a.done⟩;rw[I1,amB c,<-hi];rfl
 by_cases d:o.k=5
 ·simp only[d,Int.reduceEq,amD,amF,i_t,i_f,FN,ob_s a 0 rfl,gM amP,rs];refine e _ _ ⟨?_,a.done⟩;rw[I1,amA c,amB d,<-hi];rfl
 simp only[c,d,amF,i_f,FN,ob_s a 0 rfl,gM amP,rs];refine e _ _ ⟨?_,a.done⟩;rw[I1,amA c,amA d,<-hi];rfl
theorem RU (h:Vl.qT o=av):I1 o=!ai (Vl.long o.k < o.s.length):=by
 have key:∀m:Nat,ai (o.s.length<=m)=!ai (m < o.s.length):=λm=>by
  rw[Bool.eq_iff_iff];simp
 unfold I1 Vl.long;by_cases b:o.k=4
 ·rw[amB b,amA om,amA om,key]
 by_cases a:o.k=5
 ·rw[amA b,amB a,amB a,key]
 by_cases e:o.k=9
 ·rw[amA b,amA a,amA a,amB e,key]
 have f:o.s=[]:=by
  unfold Vl.qT Vl.used at h
  revert h
  split
  ·intro h;cases h
  ·rename_i n g s i cs he
   intro h;simp only[amX,apQ,anI] at h;have d:s=false:=by
    revert he
    repeat' split
    all_goals (intro he;first|(cases he;done)|skip)
    all_goals (simp only[aqH,aqG] at he;first|exact he.2.2.1.symm|omega)
   rcases h.1.1.2 with c|c
   ·rw[d] at c;cases c
   ·exact c
 rw[amA b,amA a,amA a,amA e,f];rfl
end
section
open Eng Go.RowKit
 attribute [local congr] BU
def uC (u:Bool×Bool×Bool×Bool×Bool):List Value:=[.bool u.1,.bool u.2.1,.bool u.2.2.1,.bool u.2.2.2.1,.bool u.2.2.2.2]
def uV (u:Bool×Bool×Bool×Bool×Bool):Value:=.agg (uC u).toArray
def uE (b:Nat)(u:Bool×Bool×Bool×Bool×Bool):Ent:=.cells b (uC u) 225
def u0:Bool×Bool×Bool×Bool×Bool:=(au,au,au,au,au)
theorem aggU:aggN ah 225=ax 5:=krx
theorem szU:(Tryz.prog.info? 225).map (·.size)=ax 5:=krx
theorem acN (u:Bool×Bool×Bool×Bool×Bool):∀v∈uC u,v.oneCell'=true:=by
 intro v a;simp only[uC,amH,anW,or_false] at a;rcases a with rfl|rfl|rfl|rfl|rfl<;>rfl
theorem S9:eD ah 4=true:=krx
section
variable {w:ao}{PK:PKT}{K:VWP}{S:Nat->Prop}{w0:ao}{L:List Ent}
theorem akN :DoX ah (mFA 225 (.pointer (ax ⟨b,0,aw⟩)) 0) w PK K=K (.pointer (ax ⟨b,0,aw⟩)) w:=aO (show fOff ah 225 0=ax 0 by kernel_rfl)
theorem akC :DoX ah (mFA 225 (.pointer (ax ⟨b,0,aw⟩)) 1) w PK K=K (.pointer (ax ⟨b,0+1,aw⟩)) w:=aO (show fOff ah 225 1=ax 1 by kernel_rfl)
theorem alU :DoX ah (mFA 225 (.pointer (ax ⟨b,0,aw⟩)) 2) w PK K=K (.pointer (ax ⟨b,0+2,aw⟩)) w:=aO (show fOff ah 225 2=ax 2 by kernel_rfl)
theorem ajW :DoX ah (mFA 225 (.pointer (ax ⟨b,0,aw⟩)) 3) w PK K=K (.pointer (ax ⟨b,0+3,aw⟩)) w:=aO (show fOff ah 225 3=ax 3 by kernel_rfl)
theorem ajZ :DoX ah (mFA 225 (.pointer (ax ⟨b,0,aw⟩)) 4) w PK K=K (.pointer (ax ⟨b,0+4,aw⟩)) w:=aO (show fOff ah 225 4=ax 4 by kernel_rfl)
theorem ahD (i:Nat){u:Bool×Bool×Bool×Bool×Bool}(a:Bool×Bool×Bool×Bool×Bool)(c:OwnS S w0 w L)(hi:L[i]?=ax (uE b u))(k:∀w',OwnS S w0 w' (L.set i (uE b a))->K undef w') :
  DoX ah (aN 225 (.pointer (ax ⟨b,0,aw⟩)) (uV a)) w PK K:=gX i c hi (new:=uC a) szU (acN a) rfl k
end
def abI (k:Int):Value:=.tuple #[uV ((Vl.used k).getD u0),.bool (Vl.used k).isSome]
theorem T8 (k:Int)(w:ao):Ret ah 212 #[.int .i64 k] w (λv w'=>v=abI k∧Below w.heap.size w w'):=by
 refine aZ λK s=>G3 ?_;unfold EV nz;refine bA (λb=>.pointer (ax ⟨b,0,aw⟩)) (uC u0) 225 (λ_=>by kernel_rfl) (Own.start w) λb a f=>?_;have fin:∀(u:Bool×Bool×Bool×Bool×Bool) (ok:Bool),Vl.used k=(if ok then ax u else aw)->(ok=au->u=u0)->DoX ah (aN 225 (.pointer (ax ⟨b,0,aw⟩)) (uV u)) a (pk K) λ_ w=>
   RetX ah [.cell (.pointer (ax ⟨b,0,aw⟩)) 225,.val (.bool ok)] w K:=by
  intro u ok hu t;refine ahD 0 u f rfl λw2 f=>?_;refine wB (bJ (f.agg 0 rfl aggU)) vS (s _ _ ⟨?_,f.done⟩);rw[abI,hu];cases ok with
 |true=>rfl
 |false=>rw[t rfl];rfl
 have r:∀{PK:PKT} {K:VWP},DoX ah (aS 225 #[]) a PK K=K (uV u0) a:=aD krx;have x:∀{PK:PKT} {K:VWP},DoX ah (aS 225 #[(0,.bool av)]) a PK K=K (uV (av,au,au,au,au)) a:=aD krx;have b2:∀{PK:PKT} {K:VWP},DoX ah (aS 225 #[(2,.bool av)]) a PK K=K (uV (au,au,av,au,au)) a:=aD krx;have b3:∀{PK:PKT} {K:VWP},DoX ah (aS 225 #[(4,.bool av)]) a PK K=K (uV (au,au,au,au,av)) a:=aD krx;have y:∀{PK:PKT} {K:VWP},DoX ah (aS 225 #[(3,.bool av),(4,.bool av)]) a PK K=K (uV (au,au,au,av,av)) a:=aD krx;have z:∀{PK:PKT} {K:VWP},DoX ah (aS 225 #[(0,.bool av),(1,.bool av)]) a PK K=K (uV (av,av,au,au,au)) a:=aD krx;have A:∀{PK:PKT} {K:VWP},DoX ah (aS 225 #[(2,.bool av),(3,.bool av),(4,.bool av)]) a PK K=K (uV (au,au,av,av,av)) a:=aD krx;simp only[rs];by_cases k0:k=0
 ·simp only[k0,amD,i_t,r];exact fin _ av (by simp[Vl.used,k0,u0]) sm
 simp only[k0,amF,i_f];refine join λJ e=>?_;by_cases c:k=1∨k=2∨k=3
 ·have:J [.bool av] a:=by
   refine e _ _ λ_=>?_;simp only[rC,gd,i_t,x,nz];exact fin _ av (by simp[Vl.used,k0,c]) sm
  by_cases g:k=1
  ·simp only[g,amD,i_t];exact this
  by_cases i:k=2
  ·simp only[i,Int.reduceEq,amD,amF,i_t,i_f];exact this
  have j:k=3:=om
  simp only[j,Int.reduceEq,amD,amF,i_t,i_f];exact this
 have g:¬k=1:=λh=>c (.inl h);have i:¬k=2:=λh=>c (.inr (.inl h));have j:¬k=3:=λh=>c (.inr (.inr h));simp only[g,i,j,amF,i_f];refine e _ _ λ_=>?_;clear e;simp only[rC,gd,i_f,rs,nz];refine join λJ e=>?_;by_cases d:k=4∨k=5
 ·have:J [.bool av] a:=by
   refine e _ _ λ_=>?_;simp only[rB,gd,i_t,b2,nz];exact fin _ av (by simp[Vl.used,k0,g,i,j,d]) sm
  by_cases p:k=4
  ·simp only[p,amD,i_t];exact this
  have q:k=5:=om
  simp only[q,Int.reduceEq,amD,amF,i_t,i_f];exact this
 have p:¬k=4:=λh=>d (.inl h);have q:¬k=5:=λh=>d (.inr h);simp only[p,q,amF,i_f];refine e _ _ λ_=>?_;clear e;simp only[rB,gd,i_f,rs,nz];by_cases l:k=6
 ·simp only[l,amD,i_t,b3];exact fin _ av (by simp[Vl.used,l]) sm
 by_cases m:k=7
 ·simp only[m,Int.reduceEq,amD,amF,i_t,i_f,y];exact fin _ av (by simp[Vl.used,m]) sm
 by_cases n:k=8
 ·simp only[n,Int.reduceEq,amD,amF,i_t,i_f,z];exact fin _ av (by simp[Vl.used,n]) sm
 by_cases o:k=9
 ·simp only[o,Int.reduceEq,amD,amF,i_t,i_f,A];exact fin _ av (by simp[Vl.used,o]) sm
 simp only[l,m,n,o,amF,i_f,r];exact fin _ au (by simp[Vl.used,k0,c,d,l,m,n,o]) sm
theorem U7 {k:Int}{n g s a cs:Bool}(h:Vl.used k=ax (n,g,s,a,cs)):a=ai (k=7∨k=9):=by
 revert h
 unfold Vl.used
 repeat' split
 all_goals (intro h;first|(cases h;done)|skip)
 all_goals simp only[aqH,aqG] at h
 all_goals rw[<-h.2.2.2.1]
 all_goals symm
 all_goals first|(rw[apK];omega)|(rw[decide_eq_true_iff];omega)
abbrev badE (e:Int):PanicEntry:={ v:=.iface 223 (.agg #[.int .i64 e]),recovered:=au }
theorem Az {r:Bool}{e:Int}(h:q=r)(b:r=av->K (.tuple #[]) w)(a:r=au->PK [badE e] w):CallX ah 211 #[.bool q,.int .i64 e] w PK K:=by
 subst h;refine fH (HR (K:=λe' w'=>(q=av->e'=.returned (.tuple #[])∧w'=w)∧(q=au->e'=.panicked [badE e]∧w'=w)) ?_) ?_
 ·unfold ES nz;cases q with
 |true=>
   rw[LI,show (!av)=au from rfl,i_f];exact⟨λ_=>⟨rfl,rfl⟩,λh=>by cases h⟩
 |false=>
   rw[LI,show (!au)=av from rfl,i_t];have c:∀{PK:PKT} {K:VWP},DoX ah (aS 223 #[(0,.int .i64 e)]) w PK K=K (.agg #[.int .i64 e]) w:=aD krx;rw[c,Ky (show lL ah 223=av by kernel_rfl),HZ];exact⟨λh=>(by cases h),λ_=>⟨rfl,rfl⟩⟩
 ·rintro e' w' ⟨d,f⟩;cases q with
 |true=>obtain⟨rfl,rfl⟩:=d rfl;exact b rfl
 |false=>obtain⟨rfl,rfl⟩:=f rfl;exact a rfl
end
section
open Eng Go.RowKit
 attribute [local congr] BU
theorem Se (n:Nat):∀(o:Ob) (v:aq) (d:Nat) (w:ao) (K:Ending->ao->Prop),o.wt<=n->OV (InW w) w v o->o.wt<=4611686018427387904->1<=d->d<=1000 ->
  (Vl.check d o=0->∀w',Below w.heap.size w w'->K (.returned (.tuple #[])) w')->(Vl.check d o≠0->∀w',Below w.heap.size w w'->K (.panicked [badE (Vl.check d o)]) w') ->
  Calls ah 153 #[v,.int .i64 (d:Int)] w K:=by
 induction n with
|zero=>intro o v d w K h;have:=o.Ma;omega
|succ n ih=>
 intro o v d w K hn a1 hb b3 hd t c;obtain⟨vk,vc,cs,rfl,F⟩:=a1.open;refine FP ?_;unfold CQ nz;refine iE o F.keys.one F.kids.one (Own.start w) λb w1 a=>?_;have out:∀(e:Int) (W:ao) (L:List Ent),Own w W L->Vl.why d o=e->e≠0->(pk K) [badE e] W:=by
  intro e W L a h1 h2;have h3:Vl.check d o=e:=by rw[aaZ (by rw[h1];exact h2),h1]
  rw[h3] at c;exact c h2 W a.done
 rw[WS];refine Az (r:=ai (d<=24)) (by rw[decide_eq_decide];omega) (λH=>?_) λH=>out 7 w1 _ a (by rw[Vl.why,amB (by have:=anO H;omega)]) dc;have f:¬24 < d:=by have:=amU H;omega
 rw[fP,ob_k a 0 rfl];refine GO (T8 o.k w1) rfl a λw2 a=>?_;simp only[abI,ex];refine bA (λb=>.pointer (ax ⟨b,0,aw⟩)) (uC u0) 225 (λ_=>by kernel_rfl) a λC w3 a=>?_;refine ahD 0 ((Vl.used o.k).getD u0) a rfl λq a=>?_;have a:Own w q [uE C ((Vl.used o.k).getD u0),obE b o vk vc]:=a;have x:(Vl.qT o=au∨(o.k=9∧1 < d))->(pk K) [badE 10] q:=λh=>out 10 q _ a (by rw[Vl.why,amA f,amB h]) dc;have lk:∀{W:ao} {L:List Ent},Own w W L->∀{PK:PKT} {K:VWP},DoX ah (mB .len #[22] 3 #[au] #[vk]) W PK K=K (.int .i64 (o.keys.length:Int)) W:=λa=>bD amV (F.own a).keys.1;have lc:∀{W:ao} {L:List Ent},Own w W L->∀{PK:PKT} {K:VWP},DoX ah (mB .len #[23] 3 #[au] #[vc]) W PK K=K (.int .i64 (o.kids.length:Int)) W:=λa=>bD amT (F.own a).kids.1;cases hu:Vl.used o.k with
|none=>
  have R:=x (.inl (by rw[Vl.qT,hu]));simp only[aqP,rs,g_un];exact Az (r:=au) rfl (λh=>by cases h) λ_=>R
|some u=>
 obtain⟨un,Q,us,j,p⟩:=u;rw[hu,apY] at a;have a6:Vl.qT o=((un||decide (o.n=0))&&(Q||decide (o.g=0))&&(us||decide (o.s=[]))&&(j||decide (o.keys=[]))&&(p||decide (o.kids.length=0))):=by rw[Vl.qT,hu]
 have l0:∀{PK:PKT} {K:VWP},DoX ah (aH 4 (.pointer (ax ⟨C,0,aw⟩))) q PK K=K (.bool un) q:=aJ S9 (a.cell 0 rfl 0 rfl);have l1:∀{PK:PKT} {K:VWP},DoX ah (aH 4 (.pointer (ax ⟨C,0+1,aw⟩))) q PK K=K (.bool Q) q:=aJ S9 (a.cell 0 rfl 1 rfl);have l2:∀{PK:PKT} {K:VWP},DoX ah (aH 4 (.pointer (ax ⟨C,0+2,aw⟩))) q PK K=K (.bool us) q:=aJ S9 (a.cell 0 rfl 2 rfl);have l3:∀{W:ao} {L:List Ent},Own w W (uE C (un,Q,us,j,p)::L)->∀{PK:PKT} {K:VWP},DoX ah (aH 4 (.pointer (ax ⟨C,0+3,aw⟩))) W PK K=K (.bool j) W:=λa=>aJ S9 (a.cell 0 rfl 3 rfl);have l4:∀{PK:PKT} {K:VWP},DoX ah (aH 4 (.pointer (ax ⟨C,0+4,aw⟩))) q PK K=K (.bool p) q:=aJ S9 (a.cell 0 rfl 4 rfl);simp +contextual only[aqY,rs,gs,NL,abT,K1,Bool.and_false,Bool.not_not,atM,akN,akC,alU,ajW,ajZ,l0,l1,l2,l3 a,l4,fP,IU,acW,FN,zU,oQ,ob_k a 1 rfl,ob_n a 1 rfl,ob_g a 1 rfl,ob_s a 1 rfl,mW a 1 rfl,fD a 1 rfl,lk a,lc a,WA];refine Az (r:=Vl.qT o&&!(ai (o.k=9)&&ai (1 < d))) ?_ (λS=>?_) λS=>?_
 ·rw[a6,alT o.keys,alA o.kids]
  congr 1
  by_cases h9:o.k=9
  ·simp only[h9,ne_eq,not_true,amF,atM,amD,Bool.true_and];rw[Bool.eq_iff_iff];simp;omega
  ·simp only[h9,ne_eq,aqD,amD,Bool.or_true,amF,Bool.false_and,aoD]
 rotate_left
 ·refine x ?_;rw[auN] at S;rcases S with h|h
  ·exact .inl h
  ·right;have:(ai (o.k=9)&&ai (1 < d))=true:=by simpa using h
   rw[amX] at this;exact⟨amU this.1,amU this.2⟩
 rw[amX] at S;obtain⟨T,U⟩:=S;have y:¬(Vl.qT o=au∨(o.k=9∧1 < d)):=by
  rintro (h|⟨h1,h2⟩)
  ·rw[T] at h;cases h
  ·rw[amG h1,amG h2] at U;cases U
 rw[ob_v a 1 rfl];refine GO (Ud o _ q (F.in_ a).ov) rfl a λw5 a=>?_;refine Az (r:=Vl.fits o) rfl (λI=>?_) λI=>out 2 w5 _ a (by rw[Vl.why,amA f,amA y,amB I]) dc;have m:¬Vl.fits o=false:=by rw[I];decide
 rw[ob_v a 1 rfl];refine GO (Q8 o _ w5 (F.in_ a).ov) rfl a λD a=>?_;refine Az (r:=!ai (Vl.long o.k < o.s.length)) (RU T) (λJ=>?_) λJ=>out 5 D _ a (by rw[Vl.why,amA f,amA y,amA m,amB (by simpa using J)]) dc;have z:¬Vl.long o.k < o.s.length:=by simpa using J
 rw[fD a 1 rfl,lc a,WS];refine Az (r:=ai (o.kids.length<=8191)) (by rw[decide_eq_decide];omega) (λhm=>?_) λhm=>out 6 D _ a (by rw[Vl.why,amA f,amA y,amA m,amA z,amB (by have:=anO hm;omega)]) dc;have V:¬8191 < o.kids.length:=by have:=amU hm;omega
 rw[ob_k a 1 rfl,Wi];have M:=U7 hu
 -- behind a7 form: a7 kids
 have rest:∀(W:ao),Vl.form o=av->Own w W [uE C (un,Q,us,j,p),obE b o vk vc] ->
   DoX ah (aH 23 (.pointer (ax ⟨b,0+5,aw⟩))) W (pk K) λt105 w=>
   DoX ah (mB .len #[23] 3 #[au] #[t105]) w (pk K) λt106 w=>
   LoopX [(.int .i64 0)] w (λa8 w N1=>∀_:Sg,oU (.int .i64 (d:Int)) t105 t106 (a8.getD 0 undef) w N1 K):=by
  intro W N a;have b0:Vl.why d o=0:=by rw[Vl.why,amA f,amA y,amA m,amA z,amA V,amA (by rw[N];decide)]
  have b1:Vl.check d o=Vl.rN (d+1) o.kids:=by rw[Vl.Gg,amA (by simp[b0])]
  rw[b1] at t c;rw[fD a 1 rfl,lc a];refine loop (λvs w'=>∃(i:Nat),vs=[.int .i64 i]∧i<=o.kids.length∧Vl.rN (d+1) o.kids=Vl.rN (d+1) (o.kids.drop i)∧Own w w' [uE C (un,Q,us,j,p),obE b o vk vc]) (λvs _=>o.kids.length - n0 vs) ⟨0,rfl,om,rfl,a⟩ ?_;rintro vs D ⟨i,rfl,hi,hT,a⟩ _;rw[hT] at t c;simp only[oU,gd,rs,nz];by_cases X:(i:Int) < (o.kids.length:Int)
  ·have O:i < o.kids.length:=om
   simp only[X,amD,i_t];rw[OM _ _ _ O] at t c hT;have Y:=F.own a;refine afY Y.kids.1 Y.all O λv hv=>?_;obtain⟨vk',vc',b5,rfl,A⟩:=hv.open;have b2:=a;refine fK a λb7 w7 a=>?_;refine bK 0 A.keys.one A.kids.one a rfl λw8 a=>?_;have a:Own w w8 [obE b7 o.kids[i] vk' vc',uE C (un,Q,us,j,p),obE b o vk vc]:=a;rw[ob_v a 0 rfl,aA om om,show (d:Int)+1=((d+1:Nat):Int) by omega];have b6:=JC O;refine fH (ih o.kids[i] _ (d+1) w8 _ om (A.later b2 a).ov om om om (λE w9 P=>?_) (λE w9 P=>?_)) (λ_ _ h=>h)
   ·have a:=a.grow P;rw[amA (by simp[E])] at hT;simp only[Cont,rs];rw[aA om om];exact aY ⟨i+1,rfl,om,hT,a.tail⟩ (by simp[n0,RowKit.intOf];omega)
   ·rw[amB E] at c;exact c E w9 (a.grow P).done
  ·simp only[X,amF,i_f];rw[asH om,Vl.rN] at t;exact t rfl D a.done
 have G:∀(W:ao) (L:List Ent),Own w W L->Vl.form o=au->(pk K) [badE 3] W:=λW L a h=>out 3 W _ a (by rw[Vl.why,amA f,amA y,amA m,amA z,amA V,amB h]) dc;by_cases k5:o.k=5
 ·have B:¬(o.k=7∨o.k=9):=om
  have l:j=false:=by rw[M,amE B]
  have hf:Vl.form o=Vl.name o.s:=by simp[Vl.form,k5]
  rw[show ai (o.k≠5)=au by rw[apK];omega,g_ff,ob_s a 1 rfl,g_ff];refine c_eq (Pv o.s D) ?_;rw[p_f];cases Z:Vl.name o.s with
 |false=>
   rw[g_ft,g_ft,show sel (jF (Value.bool au) av) undef=undef from rfl,g_un,g_un,g_ft,p_f];exact Az (r:=au) rfl (λh=>by cases h) λ_=>G D _ a (by rw[hf,Z])
 |true=>
   rw[g_tt,l3 a,l,g_tt,LI,show (!au)=av from rfl,show sel (jF (Value.bool av) av) (Value.bool av)=.bool av from rfl,g_tf,g_tf,g_tt,p_t,p_t];exact Az (r:=av) rfl (λ_=>rest D (by rw[hf,Z]) a) λh=>by cases h
 ·rw[show ai (o.k≠5)=av by rw[decide_eq_true_iff];exact k5,g_tf,g_tf,p_t,g_tt,l3 a,g_tt,LI];cases l:j with
 |false=>
   have B:¬(o.k=7∨o.k=9):=by rw[M,apK] at l;exact l
   rw[show (!au)=av from rfl,show sel (jF (Value.bool av) av) (Value.bool av)=.bool av from rfl,g_tf,g_tf,g_tt,p_t,p_t];rw[l] at a rest;exact Az (r:=av) rfl (λ_=>rest D (by simp[Vl.form,k5,B]) a) λh=>by cases h
 |true=>
   have B:o.k=7∨o.k=9:=by rw[M,decide_eq_true_iff] at l;exact l
   have hf:Vl.form o=Vl.rising o:=by simp[Vl.form,k5,B]
   rw[show (!av)=au from rfl,show sel (jF (Value.bool av) av) (Value.bool au)=.bool au from rfl,g_ff,ob_v a 1 rfl,g_ff];refine GO (OE o _ D (F.in_ a).ov (by have:=Sk (o:=o);omega)) rfl a λw7 a=>?_;rw[g_tt,p_f,p_t];rw[l] at a rest;exact Az (r:=Vl.form o) hf.symm (λN=>rest w7 N a) λh=>G w7 _ a h
theorem E4:cN ah 210=true:=krx
theorem nR {rs:List RV}{K:Ending->ao->Prop}{a:Array aq}(hu:u≠.run)(hp:cN ah f=av)
  (h:CallsD ah f (args++a) u w λ
   |.returned _,b,w'=>BN ah rs K ds (settle b) w'
   |.panicked chain,b,w'=>BN ah rs K ds (raised b chain) w'
   |.outgrown,_,_=>False):BN ah rs K ({ target:=.fn (.func f) a,args:=args }::ds) u w:=
 ⟨hu,.func f,a,f,args++a,rfl,by simpa[invoke] using iF hp _ w,h⟩
theorem Tx:cN ah 152=true:=krx
abbrev GP:eD ah 30=true:=krx
theorem jB (o:Ob)(v:aq)(w:ao)(h:OV (InW w) w v o)(j:o.wt<=4611686018427387904):Ret ah 86 #[v] w (λv w'=>v=.int .i64 (Vl.check 1 o)∧Below w.heap.size w w'):=by
 refine aZ λK k=>FB ?_;obtain⟨vk,vc,cs,rfl,f⟩:=h.open;unfold CC nz;refine iE o f.keys.one f.kids.one (Own.start w) λb l c=>?_;rw[qB];refine fH (D9 (K:=λe w'=>e=.returned (.int .i64 (Vl.check 1 o))∧Below w.heap.size w w') ?_) ?_
 rotate_left
 ·rintro e w' ⟨rfl,a⟩;exact k _ _ ⟨rfl,a⟩
 unfold Bi iN dx alx;refine bA (λb=>.pointer (ax ⟨b,0,aw⟩)) [.int .i64 0] 30 (λ_=>by kernel_rfl) c λb2 w2 c=>?_;rw[qB];refine⟨_,rfl,?_⟩;refine IG Tx ?_;show CallX ah _ #[.pointer (ax ⟨b,0,aw⟩)] _ _ _;refine fH (CW (K:=λe w'=>(Vl.check 1 o=0->e=.returned (.tuple #[])∧Below w2.heap.size w2 w')∧(Vl.check 1 o≠0->e=.panicked [badE (Vl.check 1 o)]∧Below w2.heap.size w2 w')) ?_) ?_
 ·unfold xO nz;rw[ob_v c 1 rfl];refine fH (Se o.wt o _ 1 w2 (λe w'=>(Vl.check 1 o=0->e=.returned (.tuple #[])∧Below w2.heap.size w2 w')∧(Vl.check 1 o≠0->e=.panicked [badE (Vl.check 1 o)]∧Below w2.heap.size w2 w')) (amJ _) (f.in_ c).ov j om om
   (λd w' a=>⟨λ_=>⟨rfl,a⟩,λh=>absurd d h⟩) (λd w' a=>⟨λh=>absurd h d,λ_=>⟨rfl,a⟩⟩)) ?_
  rintro e w' ⟨g,i⟩;by_cases d:Vl.check 1 o=0
  ·obtain⟨rfl,a⟩:=g d;exact⟨λ_=>⟨rfl,a⟩,λh=>absurd d h⟩
  ·obtain⟨rfl,a⟩:=i d;exact⟨λh=>absurd h d,λ_=>⟨rfl,a⟩⟩
 rintro e w' ⟨g,i⟩;by_cases d:Vl.check 1 o=0
 ·obtain⟨rfl,a⟩:=g d;simp only[Cont];have c:=c.grow a;refine aK 0 c rfl krx rfl sm λm c=>?_;refine nR sm E4 (nI ?_);simp only[iS,recV,recM,Eng.WA aqZ,rs,dx,ldx,fax,exx,stx,eqx,alx];refine DB GP (c.cell 0 rfl 0 rfl) (And.intro ?_ c.done);rw[d]
 ·obtain⟨rfl,a⟩:=i d;simp only[Cont,lA,pd];have c:=c.grow a;refine nR sm E4 (nI ?_);simp only[iS,recV,recM,Eng.Yh aqZ,rs,XF (show lL ah 223=av by kernel_rfl),
   sS (show [Value.agg #[.int .i64 (Vl.check 1 o)],Value.bool av][1]?=ax (Value.bool av) from rfl),sS (show [Value.agg #[.int .i64 (Vl.check 1 o)],Value.bool av][0]?=ax (Value.agg #[.int .i64 (Vl.check 1 o)]) from rfl),dx,ldx,fax,exx,stx,eqx,alx]
  refine bA (λb=>.pointer (ax ⟨b,0,aw⟩)) [.int .i64 0] 223 (λ_=>by kernel_rfl) c λn p c=>?_;refine gX 0 c rfl (new:=[.int .i64 (Vl.check 1 o)]) (show (Tryz.prog.info? 223).map (·.size)=ax 1 by kernel_rfl) (by simp;rfl) rfl λq c=>?_;rw[aO (show fOff ah 223 0=ax 0 by kernel_rfl),aJ GP (c.cell 0 rfl 0 rfl)];refine aK 1 c rfl krx rfl sm λr c=>?_;exact DB GP (c.cell 1 rfl 0 rfl) (And.intro rfl c.done)
end
section
open Eng Go.RowKit
theorem Rf (x:List UInt8)(w:ao):Ret ah 256 #[.string ⟨x.toArray⟩] w (λv w'=>v=.bool au∧w=w'):=by
 refine aZ λK a=>zH ?_;unfold qW nz;rw[Zh];exact a _ _ ⟨sm,rfl⟩
theorem RO (x:List UInt8)(w:ao):Ret ah 218 #[.string ⟨x.toArray⟩] w (λv w'=>v=.bool au∧w=w'):=by
 refine aZ λK a=>sB ?_;unfold mK nz;rw[Zh];exact a _ _ ⟨sm,rfl⟩
theorem Tf (x y:List UInt8)(w:ao):Ret ah 217 #[.string ⟨x.toArray⟩,.string ⟨y.toArray⟩] w (λv w'=>v=.bool (Vl.less x y)∧w=w'):=by
 refine aZ λK a=>Au ?_;unfold rX nz;refine c_eq (Rf x w) ?_;simp only[rs,ahL];exact a _ _ ⟨rfl,rfl⟩
theorem shr1 (b:0<=a)(c:a<=4611686018427387904):Int.fdiv (IntKind.wrap .u64 a) (2 ^ (min (1:Int).toNat IntKind.u64.bits))=a / 2:=by
 rw[RJ b om];show Int.fdiv a 2=a / 2;rw[atN _ om]
theorem Hc (va:aq)(l:List (List UInt8))(x:List UInt8)(w:ao)(g:Sl w va 1 l.length (bS l))(s:Vl.Rise l)(D:l.length<=1099511627776) :
  Ret ah 154 #[va,.string ⟨x.toArray⟩] w (λv w'=>v=.tuple #[.int .i64 (Vl.place l x:Nat),.bool (Vl.hit l x)]∧w=w'):=by
 refine aZ λK o=>gY ?_;unfold eH nz;rw[bD amV g];refine loop (λvs w'=>∃(i j:Nat),vs=[.int .i64 i,.int .i64 j]∧i<=j∧j<=l.length∧(∀m (h:m < l.length),m < i->Vl.less l[m] x=av)∧(∀m (h:m < l.length),j<=m->Vl.less l[m] x=au)∧w=w') (λvs _=>n1 vs - n0 vs)
  ⟨0,l.length,rfl,om,om,λm _ h=>by omega,λm y z=>by omega,rfl⟩ ?_
 rintro vs w2 ⟨i,j,rfl,A,B,b,c,rfl⟩ _;simp only[dZ,gd,rs,nz];by_cases d:(i:Int) < (j:Int)
 ·simp only[d,amD,i_t];rw[aA om om,Ws (show (Tryz.prog.underlying 3).isSome=av by kernel_rfl) asW,GH om,shr1 om om,
   Ws (show (Tryz.prog.underlying 84).isSome=av by kernel_rfl) anT,aA om om]
  obtain⟨h,C⟩:∃h:Nat,((i:Int)+(j:Int)) / 2=(h:Int):=⟨(i+j) / 2,om⟩;rw[C];have y:i<=h:=om
  have z:h < j:=om
  have t:h < l.length:=om
  refine Jb (.string ⟨(l[h]).toArray⟩) amV krx g om (by rw[amK];exact mJ t) λq e=>?_;rw[aJ WM e];refine c_eq (Tf l[h] x w) ?_;cases k:Vl.less l[h] x with
 |true=>
   simp only[rs];rw[aA om om];refine aY ⟨h+1,j,rfl,om,om,λm hm p=>?_,c,rfl⟩ (by simp[n0,n1,RowKit.intOf];omega);rcases anE m h with f|f
   ·exact Vl.nW (Vl.pZ s f t) k
   ·have:m=h:=om
    subst this;exact k
 |false=>
   simp only[rs];refine aY ⟨i,h,rfl,om,om,b,λm hm p=>?_,rfl⟩ (by simp[n0,n1,RowKit.intOf];omega);rcases anE h m with f|f
   ·cases r:Vl.less l[m] x with
   |false=>rfl
   |true=>have:=Vl.nW (Vl.pZ s f hm) r;rw[k] at this;cases this
   ·have:m=h:=om
    subst this;exact k
 ·have he:i=j:=om
  subst he;simp only[d,amF,i_f];have hp:Vl.place l x=i:=Vl.PI B b (λh=>c i h (amJ _));by_cases u:(i:Int) < (l.length:Int)
  ·have a:i < l.length:=om
   simp only[u,amD,rs];refine Jb (.string ⟨(l[i]).toArray⟩) amV krx g om (by rw[amK];exact mJ a) λq e=>?_;rw[aJ WM e];simp only[rs];by_cases n:l[i]=x
   ·simp only[n,amD,rs,g_un];refine o _ _ ⟨?_,rfl⟩;rw[hp];unfold Vl.hit;rw[hp,amN a,n];simp
   ·simp only[n,amF,rs];refine Jb (.string ⟨(l[i]).toArray⟩) amV krx g om (by rw[amK];exact mJ a) λq e=>?_;rw[aJ WM e];refine c_eq (RO l[i] w) ?_;simp only[rs];refine o _ _ ⟨?_,rfl⟩;rw[hp];unfold Vl.hit;rw[hp,amN a];simp[n]
  ·simp only[u,amF,rs,g_un];refine o _ _ ⟨?_,rfl⟩;rw[hp];unfold Vl.hit;rw[hp,aoU om];simp
end
end Go.Proofs.YtlipjfcbjemicaaGreatDoor

namespace Go.Proofs.YtlipjfcbjemicaaGreatDoor
variable{A S:Nat->Prop}{K:VWP}{L:List Eng.Ent}{M N:Eng.Mem}{P:Program}{PK PK2:PKT}{T1 U:TypeId}{W w w0:ao}{a:Int}{args:Array aq}{b cap d f i j m sz:Nat}{cb:Array Bool}{cs news xs:List aq}{ds:List Deferred}{e:Eng.Ent}{k':IntKind}{key:List UInt8}{o:Ob}{q:Bool}{u:FrameMode}{v v2 vc vk vs:aq}{xo yo:Operand}{α:Type}{t0 t1:aq}{k0:Eng.KT}
section
open Go
theorem Ob.BI:∀os:List Ob,os.length<=Ob.wts os
|[]=>by simp
|o::os=>by
  have:=Ob.BI os;have:1<=o.wt:=by cases o;rw[Ob.wt];omega
  rw[Ob.wts,amW];omega
namespace Wr
def num (n:Int):List UInt8:=(Pl.pInt n).1
def nul:List UInt8:=[110,117,108,108]
def tru:List UInt8:=[116,114,117,101]
def fal:List UInt8:=[102,97,108,115,101]
def leaf (k n:Int)(s:List UInt8):List UInt8:=
 if k=1 then (if n=0 then fal else tru)
 else if k=2 then num n
 else if k=3 then (Pl.akR n).1
 else if k=4 then (Pl.pStr s).1
 else if k=5 then (Pl.aeH s).1
 else nul
 mutual
def parts:Ob->List (List UInt8)
|.mk k n g s keys kids=>
  if k=8 then [num n,num g,[82]]
  else if k=6 then [91]::(UH kids++[[93]])
  else if k=7 then [60,60]::(TA keys kids++[[62,62]])
  else [leaf k n s]
def UH:List Ob->List (List UInt8)
|[]=>[]
|o::os=>parts o++UH os
def TA (keys:List (List UInt8)):List Ob->List (List UInt8)
|[]=>[]
|o::os=>match keys with
 |[]=>[]
 |key::a=>(Pl.aeH key).1::(parts o++TA a os)
end
end Wr
end
end Go.Proofs.YtlipjfcbjemicaaGreatDoor








namespace Go.Proofs.YtlipjfcbjemicaaGreatDoor
variable{A S:Nat->Prop}{K:VWP}{L:List Eng.Ent}{M N:Eng.Mem}{P:Program}{PK PK2:PKT}{T1 U:TypeId}{W w w0:ao}{a:Int}{args:Array aq}{b cap d f i j m sz:Nat}{cb:Array Bool}{cs news xs:List aq}{ds:List Deferred}{e:Eng.Ent}{k':IntKind}{key:List UInt8}{o:Ob}{q:Bool}{u:FrameMode}{v v2 vc vk vs:aq}{xo yo:Operand}{α:Type}{t0 t1:aq}{k0:Eng.KT}
section
open Go
namespace Lx
open Oc
def Pk (u:List UInt8)(x:Tok):Prop:=next u 0=(x,0)∧x.k≠0∧x.a=0∧x.t=u.length
end Lx
end
end Go.Proofs.YtlipjfcbjemicaaGreatDoor






namespace Go.Proofs.YtlipjfcbjemicaaGreatDoor
variable{A S:Nat->Prop}{K:VWP}{L:List Eng.Ent}{M N:Eng.Mem}{P:Program}{PK PK2:PKT}{T1 U:TypeId}{W w w0:ao}{a:Int}{args:Array aq}{b cap d f i j m sz:Nat}{cb:Array Bool}{cs news xs:List aq}{ds:List Deferred}{e:Eng.Ent}{k':IntKind}{key:List UInt8}{o:Ob}{q:Bool}{u:FrameMode}{v v2 vc vk vs:aq}{xo yo:Operand}{α:Type}{t0 t1:aq}{k0:Eng.KT}
section
open Eng Go.RowKit
def tokC (x:Lx.Tok):List Value:=[.int .i64 x.k,.int .i64 x.a,.int .i64 x.t,.int .i64 x.n,.string ⟨x.s.toArray⟩]
def ptr (b:Nat)(i:Nat):Value:=.pointer (ax ⟨b,i,aw⟩)
section
variable {w:ao}{PK:PKT}{K:VWP}{S:Nat->Prop}{w0:ao}{L:List Ent}
end
end
end Go.Proofs.YtlipjfcbjemicaaGreatDoor




namespace Go.Proofs.YtlipjfcbjemicaaGreatDoor
variable{A S:Nat->Prop}{K:VWP}{L:List Eng.Ent}{M N:Eng.Mem}{P:Program}{PK PK2:PKT}{T1 U:TypeId}{W w w0:ao}{a:Int}{args:Array aq}{b cap d f i j m sz:Nat}{cb:Array Bool}{cs news xs:List aq}{ds:List Deferred}{e:Eng.Ent}{k':IntKind}{key:List UInt8}{o:Ob}{q:Bool}{u:FrameMode}{v v2 vc vk vs:aq}{xo yo:Operand}{α:Type}{t0 t1:aq}{k0:Eng.KT}
section
open Eng Go.RowKit
def n3 (vs:List aq):Nat:=(RowKit.intOf (vs.getD 3 undef)).toNat
end
end Go.Proofs.YtlipjfcbjemicaaGreatDoor












namespace Go.Proofs.YtlipjfcbjemicaaGreatDoor
variable{A S:Nat->Prop}{K:VWP}{L:List Eng.Ent}{M N:Eng.Mem}{P:Program}{PK PK2:PKT}{T1 U:TypeId}{W w w0:ao}{a:Int}{args:Array aq}{b cap d f i j m sz:Nat}{cb:Array Bool}{cs news xs:List aq}{ds:List Deferred}{e:Eng.Ent}{k':IntKind}{key:List UInt8}{o:Ob}{q:Bool}{u:FrameMode}{v v2 vc vk vs:aq}{xo yo:Operand}{α:Type}{t0 t1:aq}{k0:Eng.KT}
section
open Eng Go.RowKit
section
variable {w:ao}{PK:PKT}{K:VWP}{S:Nat->Prop}{w0:ao}{L:List Ent}
end
def strE (b:Nat)(s:List UInt8):Ent:=.cells b [.string ⟨s.toArray⟩] 9
end
end Go.Proofs.YtlipjfcbjemicaaGreatDoor

namespace Go.Proofs.YtlipjfcbjemicaaGreatDoor
variable{A S:Nat->Prop}{K:VWP}{L:List Eng.Ent}{M N:Eng.Mem}{P:Program}{PK PK2:PKT}{T1 U:TypeId}{W w w0:ao}{a:Int}{args:Array aq}{b cap d f i j m sz:Nat}{cb:Array Bool}{cs news xs:List aq}{ds:List Deferred}{e:Eng.Ent}{k':IntKind}{key:List UInt8}{o:Ob}{q:Bool}{u:FrameMode}{v v2 vc vk vs:aq}{xo yo:Operand}{α:Type}{t0 t1:aq}{k0:Eng.KT}
section
open Eng Go.RowKit
theorem draw {F:ao->Prop}(h:F w.drew):DrawX w F:=⟨h⟩
end
end Go.Proofs.YtlipjfcbjemicaaGreatDoor


namespace Go.Proofs.YtlipjfcbjemicaaGreatDoor
variable{A S:Nat->Prop}{K:VWP}{L:List Eng.Ent}{M N:Eng.Mem}{P:Program}{PK PK2:PKT}{T1 U:TypeId}{W w w0:ao}{a:Int}{args:Array aq}{b cap d f i j m sz:Nat}{cb:Array Bool}{cs news xs:List aq}{ds:List Deferred}{e:Eng.Ent}{k':IntKind}{key:List UInt8}{o:Ob}{q:Bool}{u:FrameMode}{v v2 vc vk vs:aq}{xo yo:Operand}{α:Type}{t0 t1:aq}{k0:Eng.KT}
section
open Eng Go.RowKit
theorem qK:∀(l:List Lx.Tok) (k j:Nat) (b:k < l.length),j < 5->(l.flatMap tokC)[k*5+j]?=(tokC l[k])[j]?
|x::l,0,j,_,a=>by
  rw[aoR,aoL (by simpa[tokC] using a)];simp
|x::l,k+1,j,b,a=>by
  have c:(tokC x).length=5:=rfl;rw[aoR,aoQ (by rw[c];omega),c,show (k+1)*5+j - 5=k*5+j by omega];rw[qK l k j (by simpa using b) a];simp
end
end Go.Proofs.YtlipjfcbjemicaaGreatDoor











namespace Go.Proofs.YtlipjfcbjemicaaGreatDoor
variable{A S:Nat->Prop}{K:VWP}{L:List Eng.Ent}{M N:Eng.Mem}{P:Program}{PK PK2:PKT}{T1 U:TypeId}{W w w0:ao}{a:Int}{args:Array aq}{b cap d f i j m sz:Nat}{cb:Array Bool}{cs news xs:List aq}{ds:List Deferred}{e:Eng.Ent}{k':IntKind}{key:List UInt8}{o:Ob}{q:Bool}{u:FrameMode}{v v2 vc vk vs:aq}{xo yo:Operand}{α:Type}{t0 t1:aq}{k0:Eng.KT}
section
open Eng Go.RowKit
theorem QU {wb:ao}(h:ObAt A wb o vk vc cs)(hi:i < o.kids.length) :
  ∃v p,OV A wb v o.kids[i]∧∀W,Kept A wb W->(mIA 23 vc (.int .i64 (i:Int))).run ah W=.ok (.value (.pointer (ax p))) W∧(aH 25 (.pointer (ax p))).run ah W=.ok (.value v) W:=by
 obtain⟨b,off,cap,rfl,_⟩:=bY h.kids.1 om;obtain⟨a,g,d,c⟩:=OVs.get _ _ i hi h.all;refine⟨.agg a.toArray,⟨b,off+i*6,aw⟩,d,λW l=>⟨?_,?_⟩⟩
 ·have:=dX (P:=ah) (T:=23) (b:=b) (off:=off) (cap:=cap) (n:=o.kids.length) (k:=.i64) (i:=(i:Int)) (w:=W) amT szOb om om;rw[amK] at this;exact this
 ·obtain⟨r,e,f,he,m⟩:=bY (h.kept l).kids.1 om;cases he;refine aW (v:=.agg a.toArray) (AtV.agg kY g λj v q=>?_);rw[aoS];exact m _ _ (c j v q)
section
variable {w:ao}{PK:PKT}{K:VWP}{S:Nat->Prop}{w0:ao}{L:List Ent}
end
end
section
open Eng Go.RowKit
theorem Eng.Mem.le.trans {O:Mem}(h:M.le N)(k:N.le O):M.le O:=Mem.le_trans h k
theorem sK {l:List (List UInt8)}:∀x∈bS l,x.oneCell'=true:=by
 intro x a;obtain⟨y,_,rfl⟩:=anK.1 a;rfl
theorem cQ {T:TypeId}{n:Nat}(h:(Ent.urow T sz v n xs).is w):v.oneCell'=true:=by
 rcases (show w.ownsRow 0 T sz v n xs from h).2 with ⟨rfl,_⟩|⟨g,cap,cur,rfl,_⟩<;>rfl
theorem Gu {A:Nat->Prop}{w:ao}:∀{os:List Ob} {cs:List aq},OVs A w cs os->∀x∈cs,x.oneCell'=av
|[],cs,h=>by rw[OVs] at h;subst h;intro x b;cases b
|o::os,cs,h=>by
  rw[OVs] at h;obtain⟨a,rest,rfl,i,d,f⟩:=h;intro x b;rcases anF.1 b with b|b
  ·obtain⟨vk,vc,g,he,c⟩:=d.open;have e:a.toArray=(obC o vk vc).toArray:=by injection he
   have e:a=obC o vk vc:=by simpa using congrArg Array.toList e
   subst e;exact lI o c.keys.one c.kids.one x b
  ·exact Gu f x b
theorem eJ {A:Nat->Prop}{w:ao}:∀{os ps:List Ob} {cs ds:List aq},OVs A w cs os->OVs A w ds ps->OVs A w (cs++ds) (os++ps)
|[],ps,cs,ds,h,k=>by rw[OVs] at h;subst h;simpa using k
|o::os,ps,cs,ds,h,k=>by
  rw[OVs] at h;obtain⟨a,rest,rfl,b,c,d⟩:=h;rw[apR,OVs];exact⟨a,rest++ds,sm,b,c,eJ d k⟩
theorem oG (h:OV A w (obV o vk vc) o):OVs A w (obC o vk vc) [o]:=by
 rw[OVs];exact⟨obC o vk vc,[],sm,rfl,h,OVs.nil⟩
theorem ObAt.le {M N:Mem}{o:Ob}{vk vc:aq}{cs:List aq}(a:M.le N)(h:ObAt M.A M.w o vk vc cs):ObAt N.A N.w o vk vc cs:=⟨h.keys.le a,h.kids.le a,h.all.le a⟩
theorem ZF {k n g:Int}{s:List UInt8}{keys:List (List UInt8)}{kids:List Ob}(a:SlA M.A M.w vk 1 keys.length (bS keys))(b:SlA M.A M.w vc 6 kids.length cs)(c:OVs M.A M.w cs kids):ObAt M.A M.w (.mk k n g s keys kids) vk vc cs:=⟨a,b,c⟩
theorem vB (M:Mem):OV M.A M.w (obV Vl.ob0 (.slice aw 0 0) (.slice aw 0 0)) Vl.ob0:=(ZF (M:=M) (keys:=[]) (kids:=[]) (SlA.nil _ _ _ _) (SlA.nil _ _ _ _) OVs.nil).ov
theorem Rt (o:Ob)(c:vk.oneCell'=av)(d:vc.oneCell'=av)(w:ao):Ret ah 164 #[obV o vk vc] w (λv w'=>v=obV o vk vc∧Below w.heap.size w w'):=by
 refine aZ λK e=>Dw ?_;unfold yT nz;refine iE o c d (Own.start w) λb f a=>?_;refine fK a λb2 w2 a=>?_;rw[ob_v a 1 rfl];refine bK 0 c d a rfl λw3 a=>?_;exact iA (bJ (a.agg 0 rfl kY)) (e _ _ ⟨rfl,a.done⟩)
theorem Mf:cN ah 164=true:=krx
abbrev ahN:Value:=.func (.func 164) #[] #[]
theorem OT (n:Nat):∀(o:Ob) (v:aq) (M:Mem) (w:ao),o.wt<=n->o.wt<=100000000000->M.has w->OV M.A M.w v o->RetM ah 163 #[v,ahN] M w (λv' N=>OV N.A N.w v' o):=by
 induction n with
|zero=>intro o v M w h;have:=o.Ma;omega
|succ n ih=>
 intro o v M w hn hw hM hv;obtain⟨vk,vc,cs,rfl,r⟩:=hv.open;have a6:Ob.wts o.kids<=100000000000:=by cases o;rw[Ob.wt] at hw;simp only[Ob.kids];omega
 have a7:Pl.tot o.keys<=100000000000:=by cases o;rw[Ob.wt] at hw;simp only[Ob.keys];omega
 have a8:=Ob.BI o.kids;have b0:=Pl.nY o.keys;refine bB hM λK hK=>CF ?_;unfold zI nz;refine iE o r.keys.one r.kids.one (OwnS.memS hM) λb w1 c=>?_;refine fK c λt w2 c=>?_;rw[ob_v c 1 rfl];refine IG Mf (aL c (R:=λv=>v=obV o vk vc) (Rt o r.keys.one r.kids.one w2) ?_);rintro _ w3 rfl c;refine bK 1 r.keys.one r.kids.one c rfl λw4 c=>?_;rw[zU,mW c 1 rfl];refine Dh (yI vk _ _ w4 (r.keys.now (c.hasM 2 rfl)) sK om) λvk' w5 E=>?_;have c:=c.join E;have c:OwnS M.A w w5 [.urow 9 1 vk' o.keys.length (bS o.keys),obE t ob0 (.slice aw 0 0) (.slice aw 0 0),obE b o vk vc,.mem M]:=c;have F:vk'.oneCell'=true:=cQ (c.at_ 0 rfl);rw[zU];refine aK 2 c rfl krx F (show 0+4 < 6 by omega) λw6 c=>?_;have c:OwnS M.A w w6 [.urow 9 1 vk' o.keys.length (bS o.keys),obE t ob0 (.slice aw 0 0) (.slice aw 0 0),obE b o vk' vc,.mem M]:=c;obtain⟨N,G,z,c⟩:=c.bI 2 rfl;have c:OwnS M.A w w6 [obE t ob0 (.slice aw 0 0) (.slice aw 0 0),obE b o vk' vc,.mem N]:=c;refine join λJ hJ=>?_;have fin:∀(W:ao) (j:Mem) (vc':aq) (d:List aq),OwnS M.A w W [obE t ob0 (.slice aw 0 0) (.slice aw 0 0),obE b o vk' vc',.mem j]->N.le j->vc'.oneCell'=av->SlA j.A j.w vc' 6 o.kids.length d->OVs j.A j.w d o.kids->J [] W:=by
  intro W j vc' d c hle S T h2;refine hJ _ _ λ_=>?_;unfold rW nz;rw[ob_v c 1 rfl];refine bK 0 F S c rfl λw7 c=>?_;refine iA (bJ (c.agg 0 rfl kY)) (hK _ _ j _ 2 c rfl (G.trans hle) ?_);exact ObAt.ov (⟨z.le hle,T,h2⟩:ObAt j.A j.w o vk' vc' d)
 have B:=r.le G;rw[oQ,fD c 1 rfl];obtain⟨a,cap,rfl,a1⟩:∃a cap,vc=.slice a o.kids.length cap∧(a=aw->o.kids.length=0):=by
  obtain⟨⟨_,a,cap,e,T,_⟩,_⟩:=r.kids;exact⟨a,cap,e,T⟩
 rw[agX amT];cases a with
|none=>
  simp only[auJ,aoB,i_f];exact fin _ N _ _ c N.le_refl rfl B.kids B.all
|some p=>
  simp only[auK,aoD,i_t];rw[oQ,fD c 1 rfl,bQ amT];refine OH (sz:=6) (bytes:=88) amT krx om om c λg w7 zs U c=>?_;have c:=c.toU 6 o.kids.length o.kids.length U (amJ _) om;rw[anJ om] at c;rw[oQ,fD c 2 rfl,bQ amT];refine loop (λvs W=>∃(i:Nat) (j:Mem) (d f:List aq),vs=[.int .i64 i]∧i<=o.kids.length∧N.le j∧OVs j.A j.w d (o.kids.take i)∧d.length=i*6 ∧
    OwnS M.A w W [.urow 25 6 (.slice (ax ⟨g,0,aw⟩) o.kids.length o.kids.length) o.kids.length (d++f),obE t ob0 (.slice aw 0 0) (.slice aw 0 0),obE b o vk' (.slice (ax p) o.kids.length cap),.mem j]) (λvs _=>o.kids.length - n0 vs)
   ⟨0,N,[],zs,rfl,om,N.le_refl,OVs.nil,rfl,c⟩ ?_
  clear c;rintro vs w8 ⟨i,j,d,f,rfl,hi,hle,s,l,c⟩ _;simp only[rS,gd,rs,nz];have V:=(show w8.ownsRow 0 25 6 _ _ (d++f) from c.at_ 0 rfl).1;rw[amC,l] at V;by_cases H:(i:Int) < (o.kids.length:Int)
  ·have m:i < o.kids.length:=om
   simp only[H,amD,i_t];obtain⟨x,q,hx,X⟩:=QU (B.le hle) m;obtain⟨r1,r2⟩:=X w8 (c.hasM 3 rfl);refine aD r1 |>.mpr (aD r2 |>.mpr ?_);obtain⟨xk,xc,b1,rfl,I⟩:=hx.open;refine fK c λb7 w9 c=>?_;refine bK 0 I.keys.one I.kids.one c rfl λY c=>?_;rw[ob_v c 0 rfl];have b2:=JC m;refine bH c 4 rfl (ih _ _ j Y om om (c.hasM 4 rfl) hx) λy Q Z k hy c=>?_;obtain⟨C,D,b3,rfl,O⟩:=hy.open;have c:OwnS M.A w Z [.urow 25 6 (.slice (ax ⟨g,0,aw⟩) o.kids.length o.kids.length) o.kids.length (d++f),obE t ob0 (.slice aw 0 0) (.slice aw 0 0),obE b o vk' (.slice (ax p) o.kids.length cap),.mem Q]:=c.tail;refine aD (dX amT szOb om om) |>.mpr ?_;rw[amK,amO];refine Aa 0 c rfl (u:=obV o.kids[i] C D) (new:=obC o.kids[i] C D) rfl szOb (lI _ O.keys.one O.kids.one) (by show i*6+6<=_;omega) λb5 c=>?_;rw[aA om om];refine aY ⟨i+1,Q,d++obC o.kids[i] C D,f.drop 6,rfl,om,hle.trans k,?_,?_,?_⟩ (by simp[n0,RowKit.intOf];omega)
   ·rw[anH m];exact eJ (s.le k) (oG hy)
   ·rw[amC,l];show i*6+6=_;omega
   ·have e:(d++f).take (i*6)++obC o.kids[i] C D++(d++f).drop (i*6+(obC o.kids[i] C D).length)=d++obC o.kids[i] C D++f.drop 6:=by
     rw[aoG l,aqK,aoF (by rw[l];omega),anV,l]
     congr 2
     show i*6+6 - i*6=6;omega
    rw[e] at c;exact c
  ·have m:i=o.kids.length:=om
   subst m;simp only[H,amF,i_f];have hz:f=[]:=aqW om;subst hz;rw[amY,anJ (amJ _)] at *;rw[oQ];refine aK 2 c rfl krx rfl (show 0+5 < 6 by omega) λw9 c=>?_;obtain⟨Q,k,P,c⟩:=OwnS.bI (L:=[obE t ob0 (.slice aw 0 0) (.slice aw 0 0),obE b o vk' (.slice (ax ⟨g,0,aw⟩) o.kids.length o.kids.length),.mem j]) c 2 rfl;exact fin _ Q _ _ c (hle.trans k) rfl P (s.le k)
theorem sJ (o:Ob)(v:aq)(M:Mem)(w:ao)(hw:o.wt<=100000000000)(d:M.has w)(e:OV M.A M.w v o):RetM ah 95 #[v] M w (λv' N=>OV N.A N.w v' o):=by
 obtain⟨vk,vc,cs,rfl,f⟩:=e.open;refine bB d λK h=>FQ ?_;unfold CT nz;refine iE o f.keys.one f.kids.one (OwnS.memS d) λb j a=>?_;refine fK a λk w2 a=>?_;rw[ob_v a 1 rfl];refine bH a 2 rfl (OT o.wt o _ M w2 (amJ _) hw (a.hasM 2 rfl) e) λy N w3 hle g a=>?_;obtain⟨l,m,i,rfl,c⟩:=g.open;refine bK 0 c.keys.one c.kids.one a rfl λn a=>?_;exact iA (bJ (a.agg 0 rfl kY)) (h _ _ N _ 2 a rfl hle g)
end
end Go.Proofs.YtlipjfcbjemicaaGreatDoor



namespace Go.Proofs.YtlipjfcbjemicaaGreatDoor
variable{A S:Nat->Prop}{K:VWP}{L:List Eng.Ent}{M N:Eng.Mem}{P:Program}{PK PK2:PKT}{T1 U:TypeId}{W w w0:ao}{a:Int}{args:Array aq}{b cap d f i j m sz:Nat}{cb:Array Bool}{cs news xs:List aq}{ds:List Deferred}{e:Eng.Ent}{k':IntKind}{key:List UInt8}{o:Ob}{q:Bool}{u:FrameMode}{v v2 vc vk vs:aq}{xo yo:Operand}{α:Type}{t0 t1:aq}{k0:Eng.KT}
section
open Eng Go.RowKit
theorem eN {b:Int}:DoX ah (mEq .neq 30 xo yo (.int .i64 a) (.int .i64 b)) w PK K=K (.bool (ai (a≠b))) w:=Wi
end
end Go.Proofs.YtlipjfcbjemicaaGreatDoor

namespace Go.Proofs.YtlipjfcbjemicaaGreatDoor
variable{A S:Nat->Prop}{K:VWP}{L:List Eng.Ent}{M N:Eng.Mem}{P:Program}{PK PK2:PKT}{T1 U:TypeId}{W w w0:ao}{a:Int}{args:Array aq}{b cap d f i j m sz:Nat}{cb:Array Bool}{cs news xs:List aq}{ds:List Deferred}{e:Eng.Ent}{k':IntKind}{key:List UInt8}{o:Ob}{q:Bool}{u:FrameMode}{v v2 vc vk vs:aq}{xo yo:Operand}{α:Type}{t0 t1:aq}{k0:Eng.KT}
section
open Eng Go.RowKit
abbrev nilS:Value:=.slice aw 0 0
abbrev ob1 (k n g:Int)(s:List UInt8):Ob:=.mk k n g s [] []
section
variable {w:ao}{S:Nat->Prop}{w0:ao}{L:List Ent}
theorem YC {K:Ending->ao->Prop}(a:OwnS S w0 w (obE b o vk vc::L))(k:K (.returned (obV o vk vc)) w):RetX ah [.cell (.pointer (ax ⟨b,0,aw⟩)) 25] w K:=iA (bJ (a.agg 0 rfl kY)) k
end
def obR (o:Ob)(vk vc:aq)(w:ao):VWP:=λv w'=>v=obV o vk vc∧Below w.heap.size w w'
end
section
open Eng Go.RowKit
def getV (v:aq)(b:Bool):Value:=.tuple #[v,.bool b]
def errV (v:aq)(e:Int):Value:=.tuple #[v,.int .i64 e]
section
variable {w:ao}{S:Nat->Prop}{w0:ao}{L:List Ent}
theorem fE {K:Ending->ao->Prop}{x:aq}(i:Nat)(a:OwnS S w0 w L)(hi:L[i]?=ax (obE b o vk vc))(k:K (.returned (.tuple #[obV o vk vc,x])) w):RetX ah [.cell (.pointer (ax ⟨b,0,aw⟩)) 25,.val x] w K:=
 wB (bJ (a.agg i hi kY)) vS k
theorem Kz :DoX ah (aS 25 #[]) w PK K=K (obV Vl.ob0 nilS nilS) w:=aD krx
end
theorem qN (n:Int)(w:ao):Ret ah 137 #[.int .i64 n] w (obR (ob1 2 n 0 []) nilS nilS w):=by
 refine aZ λK d=>Io ?_;unfold GU nz;refine fK (Own.start w) λb c a=>?_;have e:∀{PK:PKT} {K:VWP},DoX ah (aS 25 #[(0,(.int .i64 2)),(1,.int .i64 n)]) c PK K=K (obV (ob1 2 n 0 []) nilS nilS) c:=aD krx;rw[e];refine bK 0 rfl rfl a rfl λw2 a=>?_;exact YC a (d _ _ ⟨rfl,a.done⟩)
theorem iM (s:List UInt8)(w:ao):Ret ah 69 #[.string ⟨s.toArray⟩] w (obR (ob1 5 0 0 s) nilS nilS w):=by
 refine aZ λK d=>Hf ?_;unfold EP nz;refine fK (Own.start w) λb c a=>?_;have e:∀{PK:PKT} {K:VWP},DoX ah (aS 25 #[(0,(.int .i64 5)),(3,.string ⟨s.toArray⟩)]) c PK K=K (obV (ob1 5 0 0 s) nilS nilS) c:=aD krx;rw[e];refine bK 0 rfl rfl a rfl λw2 a=>?_;exact YC a (d _ _ ⟨rfl,a.done⟩)
theorem Ik (o:Ob)(e:vk.oneCell'=av)(f:vc.oneCell'=av)(w:ao):Ret ah 138 #[obV o vk vc] w (λv w'=>v=.bool (Vl.keyed o)∧Below w.heap.size w w'):=by
 refine aZ λK d=>Fv ?_;unfold CA nz;refine iE o e f (Own.start w) λb g a=>?_;rw[fP,ob_k a 0 rfl];unfold Vl.keyed at d;by_cases c:o.k=7
 ·simp only[rs,c,amD,g_un];exact d _ _ ⟨by simp[c],a.done⟩
 ·simp only[rs,c,amF,fP,ob_k a 0 rfl];exact d _ _ ⟨by simp[c],a.done⟩
theorem zX (o:Ob)(v:aq)(key:List UInt8)(M:Mem)(w:ao)(hw:o.wt<=100000000000)(k:M.has w)(p:OV M.A M.w v o) :
  RetM ah 146 #[v,.string ⟨key.toArray⟩] M w (λr N=>∃v',r=getV v' (Vl.get o key).isSome∧OV N.A N.w v' ((Vl.get o key).getD Vl.ob0)):=by
 obtain⟨vk,vc,cs,rfl,d⟩:=p.open;have s:Ob.wts o.kids<=100000000000:=by cases o;rw[Ob.wt] at hw;simp only[Ob.kids];omega
 have u:Pl.tot o.keys<=100000000000:=by cases o;rw[Ob.wt] at hw;simp only[Ob.keys];omega
 have z:=Pl.nY o.keys;have B:=Ob.BI o.kids;refine bB k λK l=>Ir ?_;unfold G1 nz;refine iE o d.keys.one d.kids.one (OwnS.memS k) λb L a=>?_;refine fK a λh w2 a=>?_;rw[ob_v a 1 rfl];refine aL a (R:=λv=>v=.bool (Vl.keyed o)) (Ik o d.keys.one d.kids.one w2) ?_;rintro _ w3 rfl a;have no:∀{W:ao},OwnS M.A w W [obE h ob0 nilS nilS,obE b o vk vc,.mem M]->Vl.get o key=aw->DoX ah (aS 25 #[]) W (pk K) (λt W=>DoX ah (aN 25 (.pointer (ax ⟨h,0,aw⟩)) t) W (pk K) λ_ W=>RetX ah [.cell (.pointer (ax ⟨h,0,aw⟩)) 25,.val (.bool au)] W K):=by
  intro W a f;rw[Kz];refine bK 0 rfl rfl a rfl λC a=>?_;refine fE 0 a rfl (l _ _ M _ 2 a rfl M.le_refl ⟨obV Vl.ob0 nilS nilS,?_,?_⟩)
  ·rw[f];rfl
  ·rw[f];exact vB M
 cases c:Vl.keyed o with
|false=>
  simp only[rs,aoD];exact no a (by unfold Vl.get;rw[c];rfl)
|true=>
  simp only[rs,aoB];rw[zU,mW a 1 rfl];refine c_eq (Sd vk o.keys key w3 (d.keys.now (a.hasM 2 rfl)) om) ?_;by_cases hi:o.keys.idxOf key < o.keys.length
  ·rw[amB hi];have i:¬((o.keys.idxOf key:Int) < 0):=om
   simp only[rs,i,amF,oQ,fD a 1 rfl];rw[bD amT (d.kids.now (a.hasM 2 rfl))];simp only[rs];by_cases m:(o.kids.length:Int)<=(o.keys.idxOf key:Int)
   ·simp only[m,amD,rs];refine no a ?_;unfold Vl.get;rw[c,amB rfl,amB hi,aoU om]
   ·simp only[m,amF,rs,oQ,fD a 1 rfl];have e:o.keys.idxOf key < o.kids.length:=om
    have f:Vl.get o key=ax o.kids[o.keys.idxOf key]:=by
     unfold Vl.get;rw[c,amB rfl,amB hi,amN e]
    obtain⟨x,q,D,j⟩:=QU d e;obtain⟨E,F⟩:=j w3 (a.hasM 2 rfl);refine aD E |>.mpr (aD F |>.mpr ?_);have G:=JC e;refine bH a 2 rfl (sJ _ x M w3 om (a.hasM 2 rfl) D) λy N C hle n a=>?_;obtain⟨H,I,J,rfl,g⟩:=n.open;refine bK 0 g.keys.one g.kids.one a rfl λO a=>?_;refine fE 0 a rfl (l _ _ N _ 2 a rfl hle ⟨obV o.kids[o.keys.idxOf key] H I,?_,?_⟩)
    ·rw[f];rfl
    ·rw[f];exact n
  ·rw[amA hi];have i:((-1:Int) < 0):=om
   simp only[rs,i,amD,g_un];refine no a ?_;unfold Vl.get;rw[c,amB rfl,amA hi]
theorem HF (o:Ob)(v:aq)(M:Mem)(w:ao)(hw:o.wt<=100000000000)(f:M.has w)(e:OV M.A M.w v o) :
  RetM ah 139 #[v] M w (λr N=>∃v',r=errV v' (Vl.right o).2∧OV N.A N.w v' (Vl.right o).1):=by
 obtain⟨vk,vc,cs,rfl,d⟩:=e.open;refine bB f λK g=>FK ?_;unfold CI nz;refine iE o d.keys.one d.kids.one (OwnS.memS f) λb i a=>?_;refine fK a λj w2 a=>?_;rw[ob_v a 1 rfl];refine aL a (R:=λv=>v=.int .i64 (Vl.check 1 o)) (jB o _ w2 (OV.inw (a.hasM 2 rfl) e) om) ?_;rintro _ w3 rfl a;simp only[eN];by_cases c:Vl.check 1 o=0
 ·simp only[c,ne_eq,not_true,amF,i_f];rw[ob_v a 1 rfl];refine bK 0 d.keys.one d.kids.one a rfl λh a=>?_;refine fE 0 a rfl (g _ _ M _ 2 a rfl M.le_refl ⟨obV o vk vc,?_,?_⟩)
  ·simp[Vl.right,c,errV]
  ·simpa[Vl.right,c] using e
 ·simp only[c,ne_eq,aqD,amD,i_t];rw[Kz];refine bK 0 rfl rfl a rfl λh a=>?_;refine fE 0 a rfl (g _ _ M _ 2 a rfl M.le_refl ⟨obV Vl.ob0 nilS nilS,?_,?_⟩)
  ·simp[Vl.right,c,errV]
  ·simpa[Vl.right,c] using vB M
end
end Go.Proofs.YtlipjfcbjemicaaGreatDoor







namespace Go.Proofs.YtlipjfcbjemicaaGreatDoor
variable{A S:Nat->Prop}{K:VWP}{L:List Eng.Ent}{M N:Eng.Mem}{P:Program}{PK PK2:PKT}{T1 U:TypeId}{W w w0:ao}{a:Int}{args:Array aq}{b cap d f i j m sz:Nat}{cb:Array Bool}{cs news xs:List aq}{ds:List Deferred}{e:Eng.Ent}{k':IntKind}{key:List UInt8}{o:Ob}{q:Bool}{u:FrameMode}{v v2 vc vk vs:aq}{xo yo:Operand}{α:Type}{t0 t1:aq}{k0:Eng.KT}
section
open Eng Go.RowKit
theorem OwnS.sep (g:OwnS S w0 w L)(i j:Nat)(l:i≠j){f:Ent}(hi:L[i]?=ax e)(m:L[j]?=ax f):∀k,e.blk k->¬f.blk k:=by
 obtain⟨a,rfl⟩:=amS.1 hi;obtain⟨b,rfl⟩:=amS.1 m;have hp:=aqV.1 g.apart;intro k d c;rcases anE i j with h|h
 ·exact hp i j a b h k d c
 ·exact hp j i b a om k c d
section
variable {w:ao}{S:Nat->Prop}{w0:ao}{L:List Ent}{PK:PKT}{K:VWP}
theorem JX (o:Ob)(a:vk.oneCell'=av)(c:vc.oneCell'=av)(d:OwnS S w0 w L)(k:∀b w',OwnS S w0 w' (obE b o vk vc::L)->K (.slice (ax ⟨b,0,aw⟩) 1 1) w'):DoX ah (bN 23 1 #[(0,obV o vk vc)]) w PK K:=by
 cases vk<;>first|(cases a;done)|skip
 all_goals cases vc<;>first|(cases c;done)|exact bA (λb=>.slice (ax ⟨b,0,aw⟩) 1 1) (obC o _ _) 25 (λ_=>by kernel_rfl) d k
theorem Nc (s:List UInt8)(a:OwnS S w0 w L)(k:∀b w',OwnS S w0 w' (.cells b [.string ⟨s.toArray⟩] 9::L)->K (.slice (ax ⟨b,0,aw⟩) 1 1) w'):DoX ah (bN 22 1 #[(0,.string ⟨s.toArray⟩)]) w PK K:=
 bA (λb=>.slice (ax ⟨b,0,aw⟩) 1 1) [.string ⟨s.toArray⟩] 9 (λ_=>by kernel_rfl) a k
end
theorem I9 (l:List (List UInt8))(i:Nat):(bS l).take (i*1)=bS (l.take i):=by rw[anC];simp[bS]
theorem Jp (l:List (List UInt8))(i:Nat):(bS l).drop (i*1)=bS (l.drop i):=by rw[anC];simp[bS]
theorem Hm (a b:List (List UInt8)):bS (a++b)=bS a++bS b:=by simp[bS]
theorem Gl {A:Nat->Prop}{w:ao}:∀{os:List Ob} {cs:List aq} (i:Nat),OVs A w cs os->OVs A w (cs.take (i*6)) (os.take i)
|_,_,0,_=>by rw[apI,apX,apX];exact OVs.nil
|[],cs,i+1,h=>by rw[OVs] at h;subst h;rw[List.take_nil,List.take_nil];exact OVs.nil
|o::os,cs,i+1,h=>by
  rw[OVs] at h;obtain⟨a,rest,rfl,b,c,d⟩:=h;have e:(a++rest).take ((i+1)*6)=a++rest.take (i*6):=by
   rw[asY,anJ om]
   congr 2
   omega
  rw[e,arN,OVs];exact⟨a,_,rfl,b,c,Gl i d⟩
theorem Gf {A:Nat->Prop}{w:ao}:∀{os:List Ob} {cs:List aq} (i:Nat),OVs A w cs os->OVs A w (cs.drop (i*6)) (os.drop i)
|_,_,0,h=>by rw[apI,aoT,aoT];exact h
|[],cs,i+1,h=>by rw[OVs] at h;subst h;rw[List.drop_nil,List.drop_nil];exact OVs.nil
|o::os,cs,i+1,h=>by
  rw[OVs] at h;obtain⟨a,rest,rfl,c,d,b⟩:=h;have e:(a++rest).drop ((i+1)*6)=rest.drop (i*6):=by
   rw[aqK,aoF om,anV]
   congr 1
   omega
  rw[e,asD];exact Gf i b
theorem Qb (o x:Ob)(v u:aq)(key:List UInt8)(M:Mem)(w:ao)(hw:o.wt<=10000000000)(U:M.has w)(Y:OV M.A M.w v o)(hu:OV M.A M.w u x)(Z:Vl.Rise o.keys)(hlen:o.keys.length=o.kids.length) :
  RetM ah 140 #[v,.string ⟨key.toArray⟩,u] M w (λr N=>OV N.A N.w r (Vl.put o key x)):=by
 obtain⟨vk,vc,cs,rfl,i⟩:=Y.open;obtain⟨d,e,a1,rfl,q⟩:=hu.open;have a6:Ob.wts o.kids<=10000000000:=by cases o;rw[Ob.wt] at hw;simp only[Ob.kids];omega
 have a7:Pl.tot o.keys<=10000000000:=by cases o;rw[Ob.wt] at hw;simp only[Ob.keys];omega
 have a8:=Pl.nY o.keys;have b0:=Ob.BI o.kids;refine bB U λK hK=>Gn ?_;unfold EF nz;refine iE o i.keys.one i.kids.one (OwnS.memS U) λb3 w1 a=>?_;refine iE x q.keys.one q.kids.one a λj w2 a=>?_;refine fK a λl w3 a=>?_;rw[zU,mW a 2 rfl];refine c_eq (Hc vk o.keys key w3 (i.keys.now (a.hasM 3 rfl)) Z om) ?_;simp only[ex];rw[zU,mW a 2 rfl];refine Dh (yI vk _ _ w3 (i.keys.now (a.hasM 3 rfl)) sK om) λb w4 m=>?_;have a:=a.join m;have a:OwnS M.A w w4 [.urow 9 1 b o.keys.length (bS o.keys),obE l ob0 nilS nilS,obE j x d e,obE b3 o vk vc,.mem M]:=a;rw[zU];refine aK 3 a rfl krx (cQ (a.at_ 0 rfl)) (show 0+4 < 6 by omega) λV a=>?_;have a:OwnS M.A w V [.urow 9 1 b o.keys.length (bS o.keys),obE l ob0 nilS nilS,obE j x d e,obE b3 o b vc,.mem M]:=a;rw[oQ,fD a 3 rfl];refine Dh (EB vc _ _ V (i.kids.now (a.hasM 4 rfl)) (Gu i.all) om) λc w6 m=>?_;have a:=a.join m;have a:OwnS M.A w w6 [.urow 25 6 c o.kids.length cs,.urow 9 1 b o.keys.length (bS o.keys),obE l ob0 nilS nilS,obE j x d e,obE b3 o b vc,.mem M]:=a;rw[oQ];refine aK 4 a rfl krx (cQ (a.at_ 0 rfl)) (show 0+5 < 6 by omega) λw7 a=>?_;have a:OwnS M.A w w7 [.urow 25 6 c o.kids.length cs,.urow 9 1 b o.keys.length (bS o.keys),obE l ob0 nilS nilS,obE j x d e,obE b3 o b c,.mem M]:=a;have B:=Vl.Ae o.keys key;refine join λJ hJ=>?_;have fin:∀(W:ao) (f cv:aq) (t:List (List UInt8)) (os:List Ob) (ds:List aq),OwnS M.A w W [.urow 25 6 cv os.length ds,.urow 9 1 f t.length (bS t),obE l ob0 nilS nilS,obE j x d e,obE b3 o f cv,.mem M] ->
   OVs M.A M.w ds os->Vl.put o key x=.mk o.k o.n o.g o.s t os->J [] W:=by
  intro W f cv t os ds a C D;refine hJ _ _ λ_=>?_;unfold Bb nz;have G:=cQ (a.at_ 1 rfl);have H:=cQ (a.at_ 0 rfl);obtain⟨N,hle,E,a⟩:=OwnS.bI (L:=[.urow 9 1 f t.length (bS t),obE l ob0 nilS nilS,obE j x d e,obE b3 o f cv,.mem M]) a 4 rfl;obtain⟨X,p,y,a⟩:=OwnS.bI (L:=[obE l ob0 nilS nilS,obE j x d e,obE b3 o f cv,.mem N]) a 3 rfl;have a:OwnS M.A w W [obE l ob0 nilS nilS,obE j x d e,obE b3 o f cv,.mem X]:=a;rw[ob_v a 2 rfl];refine bK 0 G H a rfl λF a=>?_;refine iA (bJ (a.agg 0 rfl kY)) (hK _ _ X _ 3 a rfl (hle.trans p) ?_);rw[D];exact ObAt.ov (o:=.mk o.k o.n o.g o.s t os) ⟨y,E.le p,C.le (hle.trans p)⟩
 cases I:Vl.hit o.keys key with
|true=>
  simp only[i_t];have hi:o.keys[Vl.place o.keys key]?=ax key:=amU I;have O:Vl.place o.keys key < o.keys.length:=(amS.1 hi).1;have hg:o.keys[Vl.place o.keys key]=key:=(amS.1 hi).2;rw[oQ,fD a 4 rfl,ob_v a 3 rfl];obtain⟨g,cap,rfl⟩:=mN (a.at_ 0 rfl) om;refine aD (dX amT szOb om om) |>.mpr ?_;rw[amK,amO];have b1:cs.length=o.kids.length*6:=i.kids.1.1;refine Aa 0 a rfl (u:=obV x d e) (new:=obC x d e) rfl szOb (lI _ q.keys.one q.kids.one) (by show _+6<=_;omega) λF a=>?_;have e1:o.keys.take (Vl.place o.keys key)++key::o.keys.drop (Vl.place o.keys key+1)=o.keys:=by
   conv=>rhs;rw[<-anR (Vl.place o.keys key) o.keys,anX O,hg]
  refine fin F b (.slice (ax ⟨g,0,aw⟩) o.kids.length cap) o.keys (o.kids.take (Vl.place o.keys key)++x::o.kids.drop (Vl.place o.keys key+1)) (cs.take (Vl.place o.keys key*6)++obC x d e++cs.drop (Vl.place o.keys key*6+6)) ?_ ?_ ?_
  ·have el:(o.kids.take (Vl.place o.keys key)++x::o.kids.drop (Vl.place o.keys key+1)).length=o.kids.length:=by simp;omega
   rw[el];exact a
  ·have:=eJ (Gl (Vl.place o.keys key) i.all) (eJ (oG hu) (Gf (Vl.place o.keys key+1) i.all));rw[show (Vl.place o.keys key+1)*6=Vl.place o.keys key*6+6 by omega,<-amM] at this;exact this
  ·unfold Vl.put;rw[I];simp only[if_true];rw[e1]
|false=>
  simp only[i_f];rw[zU,mW a 4 rfl];refine Nc key a λnb F a=>?_;refine QA 2 a rfl (Lf b o.keys.length (bS o.keys) (Vl.place o.keys key) nb [.string ⟨key.toArray⟩] F (a.at_ 2 rfl) (a.at_ 0 rfl) rfl (λh=>(OwnS.sep a 2 0 om rfl rfl) nb h rfl) sK (by simp[Value.oneCell']) B om) ?_;rintro f e' w9 rfl a;have a:OwnS M.A w w9 [.cells nb [.string ⟨key.toArray⟩] 9,.urow 25 6 c o.kids.length cs,.urow 9 1 f (o.keys.length+1) ((bS o.keys).take (Vl.place o.keys key*1)++[.string ⟨key.toArray⟩]++(bS o.keys).drop (Vl.place o.keys key*1)),obE l ob0 nilS nilS,obE j x d e,obE b3 o b c,.mem M]:=a;rw[I9,Jp] at a;have a:=a.tail;rw[zU];refine aK 4 a rfl krx (cQ (a.at_ 1 rfl)) (show 0+4 < 6 by omega) λP a=>?_;have a:OwnS M.A w P [.urow 25 6 c o.kids.length cs,.urow 9 1 f (o.keys.length+1) (bS (o.keys.take (Vl.place o.keys key))++[.string ⟨key.toArray⟩]++bS (o.keys.drop (Vl.place o.keys key))),obE l ob0 nilS nilS,obE j x d e,obE b3 o f c,.mem M]:=a;rw[oQ,fD a 4 rfl,ob_v a 3 rfl];refine JX x q.keys.one q.kids.one a λz Q a=>?_;refine QA 1 a rfl (KU c o.kids.length cs (Vl.place o.keys key) z (obC x d e) Q (a.at_ 1 rfl) (a.at_ 0 rfl) rfl (λh=>(OwnS.sep a 1 0 om rfl rfl) z h rfl) (Gu i.all) (lI _ q.keys.one q.kids.one) om om) ?_;rintro cv e' R rfl a;have a:OwnS M.A w R [.cells z (obC x d e) 25,.urow 25 6 cv (o.kids.length+1) (cs.take (Vl.place o.keys key*6)++obC x d e++cs.drop (Vl.place o.keys key*6)),.urow 9 1 f (o.keys.length+1) (bS (o.keys.take (Vl.place o.keys key))++[.string ⟨key.toArray⟩]++bS (o.keys.drop (Vl.place o.keys key))),obE l ob0 nilS nilS,obE j x d e,obE b3 o f c,.mem M]:=a;have a:=a.tail;rw[oQ];refine aK 4 a rfl krx (cQ (a.at_ 0 rfl)) (show 0+5 < 6 by omega) λS a=>?_;refine fin S f cv (o.keys.take (Vl.place o.keys key)++key::o.keys.drop (Vl.place o.keys key)) (o.kids.take (Vl.place o.keys key)++x::o.kids.drop (Vl.place o.keys key)) (cs.take (Vl.place o.keys key*6)++obC x d e++cs.drop (Vl.place o.keys key*6)) ?_ ?_ ?_
  ·have el:(o.kids.take (Vl.place o.keys key)++x::o.kids.drop (Vl.place o.keys key)).length=o.kids.length+1:=by simp;omega
   have T:(o.keys.take (Vl.place o.keys key)++key::o.keys.drop (Vl.place o.keys key)).length=o.keys.length+1:=by simp;omega
   have es:bS (o.keys.take (Vl.place o.keys key)++key::o.keys.drop (Vl.place o.keys key))=bS (o.keys.take (Vl.place o.keys key))++[.string ⟨key.toArray⟩]++bS (o.keys.drop (Vl.place o.keys key)):=by
    rw[Hm];simp[bS,strV]
   rw[el,T,es];exact a
  ·have:=eJ (Gl (Vl.place o.keys key) i.all) (eJ (oG hu) (Gf (Vl.place o.keys key) i.all));rw[<-amM] at this;exact this
  ·unfold Vl.put;rw[I];simp
end
section
open Eng Go.RowKit
theorem Sl.upto {a:Option Addr}{n:Nat}(h:Sl w (.slice a n cap) sz n cs)(hi:i<=n):Sl w (.slice (subA a 0 cap sz) i cap) sz i (cs.take (i*sz)):=by
 obtain⟨g,a',d,e,k,f⟩:=h
 injection e with l _ m
 subst l;subst m;refine⟨by rw[amL,g,anL (anY _ hi)],subA a 0 cap sz,cap,rfl,?_,?_⟩
 ·intro c;cases a with
 |none=>have:=k rfl;omega
 |some p=>unfold subA at c;split at c<;>simp at c
 ·intro p hp;cases a with
 |none=>unfold subA at hp;split at hp<;>simp at hp
 |some q=>
   have o:q=p:=by
    unfold subA at hp;split at hp
    ·exact apF hp
    ·have:=apF hp;rw[<-this];simp[Addr.add]
   subst o;refine⟨λh=>(f q rfl).1 om,λj u b=>(f q rfl).2 j u ?_⟩;rw[apB] at b;split at b<;>first|exact b|cases b
theorem Sl.from {a:Option Addr}{n:Nat}(h:Sl w (.slice a n cap) sz n cs)(hi:i<=n)(z:n<=cap):Sl w (.slice (subA a i cap sz) (n - i) (cap - i)) sz (n - i) (cs.drop (i*sz)):=by
 obtain⟨g,a',t,e,v,k⟩:=h
 injection e with x _ y
 subst x;subst y;refine⟨by rw[amQ,g,<-asF],subA a i cap sz,cap - i,rfl,?_,?_⟩
 ·intro c;cases a with
 |none=>have:=v rfl;omega
 |some p=>unfold subA at c;split at c<;>simp at c
 ·intro p hp;cases a with
 |none=>unfold subA at hp;split at hp<;>simp at hp
 |some q=>
   by_cases l:cap=i
   ·have c:n - i=0:=om
    refine⟨λh=>by omega,λj u d=>?_⟩;have:(cs.drop (i*sz)).length=0:=by rw[amQ,g,<-asF,c,apI]
    have:=(amS.1 d).1;omega
   ·unfold subA at hp;rw[amA l,asE] at hp
    injection hp with hp
    have m:0 < n - i->q.spot=none:=λh=>(k q rfl).1 om;refine⟨λh=>?_,λj u d=>?_⟩
    ·have f:=m h;rw[<-hp];obtain⟨b,off,spot⟩:=q;simp only at f;subst f;rw[cM]
    ·rw[apU] at d;have o:=(k q rfl).2 (i*sz+j) u d;have r:=(amS.1 d).1;have f:q.spot=none:=(k q rfl).1 (by
      rcases aoP n with s|s
      ·rw[g,s,apI] at r;omega
      ·exact s)
     rw[<-hp];obtain⟨b,off,spot⟩:=q;simp only at f;subst f;rw[cM,aoS];exact o
theorem SlA.form {n:Nat}(h:SlA A w v sz n cs):∃a cap,v=.slice a n cap∧n<=cap:=by
 obtain⟨⟨_,a,cap,rfl,_⟩,_,b⟩:=h;exact⟨a,cap,rfl,b a n cap rfl⟩
theorem MR (o:Ob)(v:aq)(i:Nat)(M:Mem)(w:ao)(hw:o.wt<=10000000000)(y:M.has w)(D:OV M.A M.w v o)(hi:i < o.keys.length)(hlen:o.keys.length=o.kids.length) :
  RetM ah 155 #[v,.int .i64 (i:Int)] M w (λr N=>OV N.A N.w r (.mk o.k o.n o.g o.s (o.keys.take i++o.keys.drop (i+1)) (o.kids.take i++o.kids.drop (i+1)))):=by
 obtain⟨vk,vc,cs,rfl,f⟩:=D.open;have E:Ob.wts o.kids<=10000000000:=by cases o;rw[Ob.wt] at hw;simp only[Ob.kids];omega
 have F:Pl.tot o.keys<=10000000000:=by cases o;rw[Ob.wt] at hw;simp only[Ob.keys];omega
 have G:=Pl.nY o.keys;have H:=Ob.BI o.kids;refine bB y λK I=>Ce ?_;unfold xG nz;refine iE o f.keys.one f.kids.one (OwnS.memS y) λb2 P a=>?_;refine fK a λe w2 a=>?_;rw[zU,mW a 1 rfl];refine Dh (yI vk _ _ w2 (f.keys.now (a.hasM 2 rfl)) sK om) λl w3 c=>?_;have a:=a.join c;have a:OwnS M.A w w3 [.urow 9 1 l o.keys.length (bS o.keys),obE e ob0 nilS nilS,obE b2 o vk vc,.mem M]:=a;simp only[rs];rw[aA om om,show (i:Int)+1=((i+1:Nat):Int) by omega];refine QA 0 a rfl (KI l o.keys.length (bS o.keys) i w3 (a.at_ 0 rfl) sK hi om) ?_;rintro b e' J rfl a;have a:OwnS M.A w J [.urow 9 1 b (o.keys.length - 1) ((bS o.keys).take (i*1)++(bS o.keys).drop ((i+1)*1)),obE e ob0 nilS nilS,obE b2 o vk vc,.mem M]:=a;rw[I9,Jp] at a;rw[zU];have m:=cQ (a.at_ 0 rfl);refine aK 2 a rfl krx m (show 0+4 < 6 by omega) λz a=>?_;have a:OwnS M.A w z [.urow 9 1 b (o.keys.length - 1) (bS (o.keys.take i)++bS (o.keys.drop (i+1))),obE e ob0 nilS nilS,obE b2 o b vc,.mem M]:=a;rw[oQ,fD a 2 rfl];refine Dh (EB vc _ _ z (f.kids.now (a.hasM 3 rfl)) (Gu f.all) om) λp B c=>?_;have a:=a.join c;have a:OwnS M.A w B [.urow 25 6 p o.kids.length cs,.urow 9 1 b (o.keys.length - 1) (bS (o.keys.take i)++bS (o.keys.drop (i+1))),obE e ob0 nilS nilS,obE b2 o b vc,.mem M]:=a;refine QA 0 a rfl (Ke p o.kids.length cs i B (a.at_ 0 rfl) (Gu f.all) om om) ?_;rintro cv e' O rfl a;have a:OwnS M.A w O [.urow 25 6 cv (o.kids.length - 1) (cs.take (i*6)++cs.drop ((i+1)*6)),.urow 9 1 b (o.keys.length - 1) (bS (o.keys.take i)++bS (o.keys.drop (i+1))),obE e ob0 nilS nilS,obE b2 o b vc,.mem M]:=a;have q:=cQ (a.at_ 0 rfl);rw[oQ];refine aK 3 a rfl krx q (show 0+5 < 6 by omega) λC a=>?_;have a:OwnS M.A w C [.urow 25 6 cv (o.kids.length - 1) (cs.take (i*6)++cs.drop ((i+1)*6)),.urow 9 1 b (o.keys.length - 1) (bS (o.keys.take i)++bS (o.keys.drop (i+1))),obE e ob0 nilS nilS,obE b2 o b cv,.mem M]:=a;obtain⟨N,hle,t,a⟩:=OwnS.bI (L:=[.urow 9 1 b (o.keys.length - 1) (bS (o.keys.take i)++bS (o.keys.drop (i+1))),obE e ob0 nilS nilS,obE b2 o b cv,.mem M]) a 3 rfl;obtain⟨j,d,h,a⟩:=OwnS.bI (L:=[obE e ob0 nilS nilS,obE b2 o b cv,.mem N]) a 2 rfl;have a:OwnS M.A w C [obE e ob0 nilS nilS,obE b2 o b cv,.mem j]:=a;rw[ob_v a 1 rfl];refine bK 0 m q a rfl λQ a=>?_;refine iA (bJ (a.agg 0 rfl kY)) (I _ _ j _ 2 a rfl (hle.trans d) ?_);have u:(o.keys.take i++o.keys.drop (i+1)).length=o.keys.length - 1:=by simp;omega
 have x:(o.kids.take i++o.kids.drop (i+1)).length=o.kids.length - 1:=by simp;omega
 refine ObAt.ov (o:=.mk o.k o.n o.g o.s (o.keys.take i++o.keys.drop (i+1)) (o.kids.take i++o.kids.drop (i+1))) (vk:=b) (vc:=cv) (cs:=cs.take (i*6)++cs.drop ((i+1)*6)) ⟨?_,?_,?_⟩
 ·show SlA j.A j.w b 1 (o.keys.take i++o.keys.drop (i+1)).length (bS (o.keys.take i++o.keys.drop (i+1)));rw[u,Hm];exact h
 ·show SlA j.A j.w cv 6 (o.kids.take i++o.kids.drop (i+1)).length _;rw[x];exact t.le d
 ·exact (eJ (Gl i f.all) (Gf (i+1) f.all)).le (hle.trans d)
def fh (o:Ob)(key:List UInt8):Ob:=if Vl.keyed o=av∧Vl.check 1 o=0 then Vl.aQ o key else o
theorem Cq (o:Ob)(v:aq)(key:List UInt8)(M:Mem)(w:ao)(hw:o.wt<=10000000000)(s:M.has w)(e:OV M.A M.w v o) :
  RetM ah 88 #[v,.string ⟨key.toArray⟩] M w (λr N=>OV N.A N.w r (fh o key)):=by
 obtain⟨vk,vc,cs,rfl,h⟩:=e.open;have x:Pl.tot o.keys<=10000000000:=by cases o;rw[Ob.wt] at hw;simp only[Ob.keys];omega
 have z:=Pl.nY o.keys;refine bB s λK B=>Ha ?_;unfold E5 nz;refine iE o h.keys.one h.kids.one (OwnS.memS s) λb2 L a=>?_;refine fK a λC w2 a=>?_;refine join λJ D=>?_;have fin:∀(W:ao) (N:Mem) (p:Ob) (l cv:aq),OwnS M.A w W [obE C ob0 nilS nilS,obE b2 p l cv,.mem N]->M.le N->OV N.A N.w (obV p l cv) p->p=fh o key->p.wt<=10000000000->J [] W:=by
  intro W N p l cv a hle hp he E;refine D _ _ λ_=>?_;unfold AZ nz;rw[ob_v a 1 rfl];refine bH a 2 rfl (sJ p _ N W om (a.hasM 2 rfl) hp) λy F i j f a=>?_;obtain⟨t,u,m,rfl,b⟩:=f.open;refine bK 0 b.keys.one b.kids.one a rfl λG a=>?_;exact iA (bJ (a.agg 0 rfl kY)) (B _ _ F _ 2 a rfl (hle.trans j) (he▸f))
 rw[ob_v a 1 rfl];refine aL a (R:=λv=>v=.bool (Vl.keyed o)) (Ik o h.keys.one h.kids.one w2) ?_;rintro _ w3 rfl a;cases c:Vl.keyed o with
|false=>
  simp only[rs,g_un];exact fin w3 M o vk vc a M.le_refl e (by unfold fh;rw[amA (by simp[c])]) hw
|true=>
  simp only[rs];rw[ob_v a 1 rfl];refine aL a (R:=λv=>v=.int .i64 (Vl.check 1 o)) (jB o _ w3 (OV.inw (a.hasM 2 rfl) e) om) ?_;rintro _ i rfl a;simp only[rs];by_cases g:Vl.check 1 o=0
  ·simp only[g,amD,rs];obtain⟨H,hlen⟩:=Vl.lH g c;rw[zU,mW a 1 rfl];refine c_eq (Hc vk o.keys key i (h.keys.now (a.hasM 2 rfl)) H om) ?_;simp only[ex];have d:=Vl.Rh g c key;have k:fh o key=Vl.aQ o key:=by unfold fh;rw[amB ⟨c,g⟩]
   cases n:Vl.hit o.keys key with
  |true=>
    simp only[i_t];rw[n,amB rfl] at d;have hi:o.keys[Vl.place o.keys key]?=ax key:=amU n;have q:Vl.place o.keys key < o.keys.length:=(amS.1 hi).1;rw[ob_v a 1 rfl];refine bH a 2 rfl (MR o _ _ M i hw (a.hasM 2 rfl) e q hlen) λy N G hle f a=>?_;rw[<-d] at f;obtain⟨t,u,m,rfl,b⟩:=f.open;refine bK 1 b.keys.one b.kids.one a rfl λI a=>?_;exact fin I N _ t u a hle f k.symm (apG (Vl.jD o key) hw)
  |false=>
    simp only[i_f];rw[n] at d;exact fin i M o vk vc a M.le_refl e (by rw[k,d];rfl) hw
  ·simp only[g,amF,rs];exact fin i M o vk vc a M.le_refl e (by unfold fh;rw[amA (by simp[g])]) hw
theorem Ks (o x:Ob)(v u:aq)(key:List UInt8)(M:Mem)(w:ao)(hw:o.wt<=10000000000)(E:x.wt<=10000000000)(F:key.length<=10000000000)(s:M.has w)(i:OV M.A M.w v o)(hu:OV M.A M.w u x) :
  RetM ah 70 #[v,.string ⟨key.toArray⟩,u] M w (λr N=>∃v',r=errV v' (Vl.set o key x).2∧OV N.A N.w v' (Vl.set o key x).1):=by
 obtain⟨vk,vc,cs,rfl,j⟩:=i.open;obtain⟨X,Y,G,rfl,B⟩:=hu.open;refine bB s λK l=>IB ?_;unfold GN nz;refine iE o j.keys.one j.kids.one (OwnS.memS s) λb3 Z a=>?_;refine iE x B.keys.one B.kids.one a λb5 w2 a=>?_;refine fK a λb6 w3 a=>?_;rw[ob_v a 2 rfl];refine aL a (R:=λv=>v=.bool (Vl.keyed o)) (Ik o j.keys.one j.kids.one w3) ?_;rintro _ H rfl a;cases b:Vl.keyed o with
|false=>
  simp only[rs,aoD];rw[Kz];refine bK 0 rfl rfl a rfl λp a=>?_;refine fE 0 a rfl (l _ _ M _ 3 a rfl M.le_refl ⟨obV Vl.ob0 nilS nilS,?_,?_⟩)
  ·simp[Vl.set,b,errV]
  ·simpa[Vl.set,b] using vB M
|true=>
  simp only[rs,aoB];rw[ob_v a 2 rfl];refine aL a (R:=λv=>v=.int .i64 (Vl.check 1 o)) (jB o _ H (OV.inw (a.hasM 3 rfl) i) om) ?_;rintro _ p rfl a;simp only[eN];by_cases c:Vl.check 1 o=0
  ·simp only[c,ne_eq,not_true,amF,i_f];rw[fP,ob_k a 1 rfl];simp only[rs];by_cases m:x.k=0
   ·simp only[m,amD,i_t];rw[ob_v a 2 rfl];refine bH a 3 rfl (Cq o _ key M p hw (a.hasM 3 rfl) i) λy N q hle n a=>?_;obtain⟨I,J,L,rfl,d⟩:=n.open;refine bK 0 d.keys.one d.kids.one a rfl λC a=>?_;have e:Vl.set o key x=(fh o key,0):=by simp[Vl.set,b,c,m,fh]
    refine fE 0 a rfl (l _ _ N _ 3 a rfl hle ⟨obV (fh o key) I J,?_,?_⟩)
    ·rw[e];rfl
    ·rw[e];exact n
   ·simp only[m,amF,i_f];rw[ob_v a 2 rfl,ob_v a 1 rfl];obtain⟨O,hlen⟩:=Vl.lH c b;have P:=Vl.VL o key x;refine bH a 3 rfl (Qb o x _ _ key M p hw (a.hasM 3 rfl) i hu O hlen) λy N q hle n a=>?_;refine bH a 3 rfl (sJ _ _ N q om (a.hasM 3 rfl) n) λz Q C f S a=>?_;refine bH a 3 rfl (HF _ _ Q C om (a.hasM 3 rfl) S) ?_;rintro _ T w8 g ⟨t,rfl,D⟩ a;obtain⟨U,V,W,rfl,h⟩:=D.open;simp only[errV,ex];refine bK 0 h.keys.one h.kids.one a rfl λw9 a=>?_;have e:Vl.set o key x=Vl.right (Vl.put o key x):=by simp[Vl.set,b,c,m]
    refine fE 0 a rfl (l _ _ T _ 3 a rfl (hle.trans (f.trans g)) ⟨obV (Vl.right (Vl.put o key x)).1 U V,?_,?_⟩)
    ·rw[e];rfl
    ·rw[e];exact D
  ·simp only[c,ne_eq,aqD,amD,i_t];rw[Kz];refine bK 0 rfl rfl a rfl λq a=>?_;refine fE 0 a rfl (l _ _ M _ 3 a rfl M.le_refl ⟨obV Vl.ob0 nilS nilS,?_,?_⟩)
   ·simp[Vl.set,b,c,errV]
   ·simpa[Vl.set,b,c] using vB M
end
section
open Eng Go.RowKit
theorem ahZ:elB ah 9 1 16=true:=krx
theorem elOb:elB ah 25 6 88=true:=krx
section
variable {w:ao}{S:Nat->Prop}{w0:ao}{L:List Ent}{PK:PKT}{K:VWP}
theorem aiR (i:Nat){n:Nat}(a:OwnS S w0 w L)(hi:L[i]?=ax (.urow 9 1 v n xs))(b:Sl w v2 1 m news)(c:∀u∈news,u.oneCell'=av)(d:n+m<=1000000000000)
  (k:∀v' w',OwnS S w0 w' (L.set i (.urow 9 1 v' (n+m) (xs++news)))->K v' w'):DoX ah (mB .append #[22,22] 22 cb #[v,v2]) w PK K:=
 bR i amV ahZ dc a hi b c om om k
theorem Q4 (i:Nat){n:Nat}(a:OwnS S w0 w L)(hi:L[i]?=ax (.urow 25 6 v n xs))(b:Sl w v2 6 m news)(c:∀u∈news,u.oneCell'=av)(d:n+m<=1000000000000)
  (k:∀v' w',OwnS S w0 w' (L.set i (.urow 25 6 v' (n+m) (xs++news)))->K v' w'):DoX ah (mB .append #[23,23] 23 cb #[v,v2]) w PK K:=
 bR i amT elOb dc a hi b c om om k
end
end
section
namespace Eng
open Go.RowKit
def strK (k:List UInt8):Value:=.string ⟨k.toArray⟩
def Sa (w:ao)(b:Nat)(a:List (List UInt8×aq)):Prop:=∃es clock,w.heap[b]?=ax (.map es clock)∧es.toList.map (λe=>(e.key,e.val))=a.map λp=>(strK p.1,p.2)
def Ent.map (b:Nat)(d:List (List UInt8×aq)):Ent:=⟨λk=>k=b,λw=>Sa w b d,λ{w w'} h k=>by
  obtain⟨es,clock,a,c⟩:=h;exact⟨es,clock,(k b rfl).trans a,c⟩,λh k e=>by
  obtain⟨es,clock,a,c⟩:=h;cases e;exact dS a⟩
def sD (a:List (List UInt8×aq))(k:List UInt8):Option Value:=(a.find? λp=>ai (p.1=k)).map (·.2)
theorem GI (k:List UInt8):∀(es:List MapEntry) (b:List (List UInt8×aq)) (i:Nat),es.map (λe=>(e.key,e.val))=b.map (λp=>(strK p.1,p.2)) ->
  ∃r,Instr.findNow .string (strK k) es i=ax r∧r.map (·.2)=sD b k
|[],[],i,_=>⟨aw,rfl,rfl⟩
|e::es,p::b,i,h=>by
  simp only[anS,arE,aqG] at h;obtain⟨⟨j,l⟩,m⟩:=h;have g:Instr.sameNow .string (strK k) e.key=ax (ai (k=p.1)):=by
   rw[j];show ax ((⟨k.toArray⟩:ByteArray)==⟨p.1.toArray⟩)=_
   congr 1
   show (k.toArray==p.1.toArray)=_;by_cases a:k=p.1<;>simp[a]
  by_cases a:k=p.1
  ·refine⟨ax (i,e.val),?_,?_⟩
   ·rw[Instr.findNow,g];simp[a]
   ·simp[sD,a,l]
  ·obtain⟨r,c,d⟩:=GI k es b (i+1) m;refine⟨r,?_,?_⟩
   ·rw[Instr.findNow,g];simp[a,c]
   ·have f:¬p.1=k:=λe=>a e.symm;rw[d];simp[sD,f]
|[],_::_,_,h=>by simp at h
|_::_,[],_,h=>by simp at h
section
variable {S:Nat->Prop}{P:Program}{w w0:ao}{L:List Ent}{PK:PKT}{K:VWP}
theorem PX {T:TypeId}(a:OwnS S w0 w L)(k:∀b w',OwnS S w0 w' (.map b []::L)->K (.map (ax b)) w'):DoX P (mMap T aw) w PK K:=by
 have c:(Instr.makeMap T aw).run P w=.ok (.map (ax w.heap.size)) (w.alloc (.map #[] 0)):=rfl;exact tG (cJ c) (k _ _ (a.add (World.grownBy_alloc w _ aw) (.map w.heap.size []) ⟨#[],0,heap_alloc_new w _,rfl⟩ (λk d=>by cases d;exact amJ _)))
theorem pU {k:TypeId}{e:Bool}(a:P.underlying k=ax .string)(x:List UInt8):(Instr.checkKey e 10000 k (strK x)).run P w=.ok () w:=by
 show (Instr.checkKey e (9999+1) k (strK x)).run P w=_;rw[Instr.checkKey];simp[run_underlying a,strK]
theorem GK {k:TypeId}(b:P.underlying k=ax .string)(x:List UInt8){es:List MapEntry}{a:List (List UInt8×aq)}(h:es.map (λe=>(e.key,e.val))=a.map (λp=>(strK p.1,p.2))) :
  ∃r,(Instr.findKey k (strK x) es).run P w=.ok r w∧r.map (·.2)=sD a x:=by
 obtain⟨r,c,d⟩:=GI x es a 0 h;refine⟨r,?_,d⟩;simp[Instr.findKey,run_underlying b,c]
theorem Kq {T k e:TypeId}{ok:Bool}{a:List (List UInt8×aq)}{z:aq}(g:P.underlying T=ax (.map k e))(c:P.underlying k=ax .string)(m:(P.info? e).bind (·.zero)=ax z)(h:Sa w b a)(x:List UInt8) :
  (Sn T (.map (ax b)) (strK x) ok).run P w=.ok (.value (if ok then .tuple #[(sD a x).getD z,.bool (sD a x).isSome] else (sD a x).getD z)) w:=by
 obtain⟨es,clock,j,n⟩:=h;obtain⟨r,l,o⟩:=GK (P:=P) (w:=w) c x n;have d:(zeroValue e).run P w=.ok z w:=by
  obtain⟨i,hi,f⟩:=arD.1 m;simp[zeroValue,typeInfo,hi,f]
 refine cJ ?_;rw[<-o];cases r with
|none=>simp[Instr.lookup,run_underlying g,getObj,Sem.run,j,pU c x,l,d]
|some p=>
  obtain⟨i,v⟩:=p;simp[Instr.lookup,run_underlying g,getObj,Sem.run,j,pU c x,l]
theorem Qx (i:Nat){T k e:TypeId}{c:List (List UInt8×aq)}(l:P.underlying T=ax (.map k e))(a:P.underlying k=ax .string)(f:OwnS S w0 w L)(hi:L[i]?=ax (.map b c))(x:List UInt8)(v:aq)(m:sD c x=aw)
  (n:∀w',OwnS S w0 w' (L.set i (.map b (c++[(x,v)])))->K undef w'):DoX P (SU T (.map (ax b)) (strK x) v) w PK K:=by
 obtain⟨es,clock,g,h⟩:=(show Sa w b c from f.at_ i hi);obtain⟨r,o,j⟩:=GK (P:=P) (w:=w) a x h;have d:r=none:=by
  cases r with
 |none=>rfl
 |some p=>rw[m] at j;cases j
 subst d;have q:(Instr.mapUpdate T (.map (ax b)) (strK x) v).run P w=.ok () { w with heap:=w.heap.setIfInBounds b (.map (es.push { key:=strK x,val:=v,born:=clock }) (clock+1)) }:=by
  simp[Instr.mapUpdate,run_underlying l,getObj,setObj,Sem.run,g,pU a x,o]
 refine BC (Gp q) (n _ ?_);refine f.put i hi (w':={ w with heap:=w.heap.setIfInBounds b _ }) ⟨rfl,rfl,rfl,sm,λk _ a=>?_⟩ (.map b (c++[(x,v)])) ?_ (λk a=>.inl a)
 ·show (w.heap.setIfInBounds b _)[k]?=_;exact aqT (λe=>a (by simp[Ent.map,e]))
 ·refine⟨es.push { key:=strK x,val:=v,born:=clock },clock+1,?_,?_⟩
  ·show (w.heap.setIfInBounds b _)[b]?=_;exact auI (dS g)
  ·simp[h]
end
theorem JW {a:List (List UInt8×aq)}{k:List UInt8}:sD a k=aw↔k ∉ a.map (·.1):=by
 unfold sD;rw[Option.map_eq_none_iff,auO];exact⟨λh hm=>by obtain⟨p,hp,rfl⟩:=anK.1 hm;simpa using h p hp,λh p hp b=>h (anK.2 ⟨p,hp,by simpa using b⟩)⟩
end Eng
end
section
open Eng Go.RowKit
theorem Ko (os:List Ob)(v:aq)(cs:List aq)(M:Mem)(w:ao)(hw:Ob.wts os<=10000000000)(g:M.has w)(h:SlA M.A M.w v 6 os.length cs)(d:OVs M.A M.w cs os) :
  RetM ah 141 #[v] M w (λr N=>OV N.A N.w r (.mk 6 0 0 [] [] os)):=by
 obtain⟨a,cap,rfl,_⟩:=h.form;refine bB g λK j=>FA ?_;unfold C9 nz;refine fK (OwnS.memS g) λb f c=>?_;have k:∀{PK:PKT} {K:VWP},DoX ah (aS 25 #[(0,(.int .i64 6)),(5,.slice a os.length cap)]) f PK K=K (obV (.mk 6 0 0 [] [] os) nilS (.slice a os.length cap)) f:=aD krx;rw[k];refine bH c 1 rfl (sJ (.mk 6 0 0 [] [] os) _ M f (by rw[Ob.wt];simp[Pl.tot];omega) (c.hasM 1 rfl) (ObAt.ov (o:=.mk 6 0 0 [] [] os) (vk:=nilS) (cs:=cs) ⟨SlA.nil _ _ _ _,h,d⟩)) λy N w2 hle i c=>?_;obtain⟨m,n,l,rfl,e⟩:=i.open;refine bK 0 e.keys.one e.kids.one c rfl λw3 c=>?_;exact iA (bJ (c.agg 0 rfl kY)) (j _ _ N _ 1 c rfl hle i)
theorem Sl.cellAt {off n:Nat}(h:Sl w (.slice (ax ⟨b,off,aw⟩) n cap) sz n cs):∀j u,cs[j]?=ax u->w.cell? ⟨b,off+j,aw⟩=ax u:=by
 obtain⟨_,a,c,e,_,d⟩:=h
 injection e with f _ _
 exactλj u g=>(d _ f.symm).2 j u g
theorem agK :DoX ah (aS 25 #[(0,(.int .i64 7))]) w PK K=K (obV (.mk 7 0 0 [] [] []) nilS nilS) w:=aD krx
theorem TW (ps:List Ob)(v:aq)(cs:List aq)(M:Mem)(w:ao)(hw:Ob.wts ps<=1000000000)(hM:M.has w)(hs:SlA M.A M.w v 6 ps.length cs)(n:OVs M.A M.w cs ps) :
  RetM ah 136 #[v] M w (λr N=>∃v',r=errV v' (Vl.dict ps).2∧OV N.A N.w v' (Vl.dict ps).1):=by
 have a1:ObAt M.A M.w (.mk 0 0 0 [] [] ps) nilS v cs:=⟨SlA.nil _ _ _ _,hs,n⟩;have e2:=Ob.BI ps;refine bB hM λK hK=>Hy ?_;unfold Fg nz;refine fK (OwnS.memS hM) λb2 w1 b=>?_;rw[bD amT (hs.now (b.hasM 1 rfl)),KX om];have hr:((ps.length:Int).tmod 2)=((ps.length % 2:Nat):Int):=by rw[auP om];omega
 rw[hr];simp only[rs];have no:∀{W:ao} {N:Mem} {L:List Ent} (e:Int),OwnS M.A w W (obE b2 ob0 nilS nilS::.mem N::L)->M.le N->Vl.dict ps=(Vl.ob0,e)->DoX ah (aS 25 #[]) W (pk K) (λt W=>DoX ah (aN 25 (.pointer (ax ⟨b2,0,aw⟩)) t) W (pk K) λ_ W=>RetX ah [.cell (.pointer (ax ⟨b2,0,aw⟩)) 25,.val (.int .i64 e)] W K):=by
  intro W N L e b hle G;rw[Kz];refine bK 0 rfl rfl b rfl λw4 b=>?_;refine fE 0 b rfl (hK _ _ N _ 1 b rfl hle ⟨obV Vl.ob0 nilS nilS,?_,?_⟩)
  ·rw[G];rfl
  ·rw[G];exact vB N
 by_cases a6:ps.length % 2=0
 case neg=>
  have h1:¬(((ps.length % 2:Nat):Int)=0):=om
  simp only[h1,ne_eq,aqD,amD,i_t];exact no 1 b M.le_refl (by unfold Vl.dict;rw[amB a6])
 have h1:(((ps.length % 2:Nat):Int)=0):=om
 simp only[h1,ne_eq,not_true,amF,i_f];have H:Vl.dict ps=if Vl.tW ps=au then (Vl.ob0,1) else Vl.NU [] (.mk 7 0 0 [] [] []) ps:=by unfold Vl.dict;rw[amA om]
 refine loop (λvs W=>∃(i:Nat) (x:aq),vs=[x,.int .i64 i]∧i<=ps.length∧i % 2=0∧Vl.tW ps=Vl.tW (ps.drop i)∧OwnS M.A w W [obE b2 ob0 nilS nilS,.mem M]) (λvs _=>ps.length - n1 vs) ⟨0,_,rfl,om,rfl,sm,b⟩ ?_;clear b;rintro vs w2 ⟨i,x,rfl,hi,a7,B,b⟩ _;simp only[AM,gd,nz];rw[bD amT (hs.now (b.hasM 1 rfl))];simp only[rs];by_cases f:(i:Int) < (ps.length:Int)
 ·have g:i+1 < ps.length:=om
  have I:i < ps.length:=om
  simp only[f,amD,i_t];obtain⟨p,q,hp,c3⟩:=QU a1 I;have hp:OV M.A M.w p ps[i]:=hp;obtain⟨r1,_⟩:=c3 w2 (b.hasM 1 rfl);obtain⟨e3,pc,e4,rfl,e5⟩:=hp.open;obtain⟨bq,oq,cq,rfl,a8⟩:=bY (hs.now (b.hasM 1 rfl)) om;refine aD (dX amT szOb om om) |>.mpr ?_;rw[amK,fP];have O:w2.cell? ⟨bq,oq+i*6,aw⟩=ax (.int .i64 ps[i].k):=by
   obtain⟨a,P,S,C⟩:=OVs.get ps cs i I n;obtain⟨R,ac,c4,he,c5⟩:=S.open;have e:a=obC ps[i] R ac:=by
    have e:a.toArray=(obC ps[i] R ac).toArray:=by injection he
    simpa using congrArg Array.toList e
   have:=a8 (i*6+0) _ (C 0 (.int .i64 ps[i].k) (by rw[e];rfl))
   rwa [aoC] at this
  rw[aJ aU O];simp only[rs];rw[Vl.LB g] at B;by_cases h5:ps[i].k=5
  ·simp only[h5,ne_eq,not_true,amF,i_f];rw[aA om om];refine aY ⟨i+2,x,sm,om,om,?_,b⟩ (by simp[n1,RowKit.intOf];omega);rw[B,h5];simp
  ·simp only[h5,ne_eq,aqD,amD,i_t];refine no 1 b M.le_refl ?_;rw[H,B,amB (by simp[h5])]
 ·have b0:i=ps.length:=om
  simp only[f,amF,i_f];have c6:Vl.tW ps=true:=by rw[B,aoF om];rfl
  rw[c6] at H;simp only[Bool.true_eq_false,if_false] at H;rw[agK];refine fK b λb5 w3 b=>?_;refine bK 0 rfl rfl b rfl λw4 b=>?_;refine PX b λbm w5 b=>?_;clear B hi a7 f b0;refine loop (λvs W=>∃(i:Nat) (x:aq) (h:List (List UInt8×aq)) (o:Ob) (ok X:aq) (N:Mem),vs=[x,.int .i64 i]∧i<=ps.length∧i % 2=0∧Vl.dict ps=Vl.NU (h.map (·.1)) o (ps.drop i)∧Vl.Rise o.keys∧o.keys.length=o.kids.length ∧
    o.wt+Ob.wts (ps.drop i)<=6+Ob.wts ps∧(∀p∈h,p.2=.bool av)∧M.le N∧OV N.A N.w (obV o ok X) o∧OwnS M.A w W [.map bm h,obE b5 o ok X,obE b2 ob0 nilS nilS,.mem N]) (λvs _=>ps.length - n1 vs)
   ⟨0,x,[],.mk 7 0 0 [] [] [],nilS,nilS,M,rfl,om,rfl,by simpa using H,List.Pairwise.nil,rfl,by simp[Ob.wt,Ob.wts,Pl.tot],sm,M.le_refl,ObAt.ov (o:=.mk 7 0 0 [] [] []) (cs:=[]) ⟨SlA.nil _ _ _ _,SlA.nil _ _ _ _,OVs.nil⟩,b⟩ ?_
  clear b;rintro vs w6 ⟨i,y,h,o,ok,X,N,rfl,hi,a7,G,c,hlen,c7,P,hle,Q,b⟩ _;have b1:=Q.open;obtain⟨D,E,e6,heq,e7⟩:=b1;have e1:D=ok∧E=X:=by
   have:(obC o ok X).toArray=(obC o D E).toArray:=by injection heq
   have:obC o ok X=obC o D E:=by simpa using congrArg Array.toList this
   simp only[obC,arE,true_and,and_true] at this;exact⟨this.1.symm,this.2.symm⟩
  obtain⟨rfl,rfl⟩:=e1;simp only[AV,gd,nz];have T:=hs.le hle;have b3:=a1.le hle;rw[bD amT (T.now (b.hasM 3 rfl))];simp only[rs];by_cases f:(i:Int) < (ps.length:Int)
  ·have g:i+1 < ps.length:=om
   have I:i < ps.length:=om
   simp only[f,amD,i_t];have b4:=Vl.Rv (met:=h.map (·.1)) (o:=o) g;have e8:=Vl.Xl g;refine join λJ hJ=>?_;obtain⟨bq,oq,cq,rfl,a8⟩:=bY (T.now (b.hasM 3 rfl)) om;have cellAt:∀{W:ao} (l:N.has W) (m:Nat) (hm:m < ps.length) (j:Nat) (u:aq),(∀R ac,(obC ps[m] R ac)[j]?=ax u)->W.cell? ⟨bq,oq+m*6+j,aw⟩=ax u:=by
    intro W l m hm j u hu;obtain⟨a,P,S,C⟩:=OVs.get ps cs m hm n;obtain⟨R,ac,c4,he,c5⟩:=S.open;have e:a=obC ps[m] R ac:=by
     have e:a.toArray=(obC ps[m] R ac).toArray:=by injection he
     simpa using congrArg Array.toList e
    have:=Sl.cellAt (T.now l) (m*6+j) _ (C j u (by rw[e];exact hu R ac))
    rwa [<-aoS] at this
   have fin:∀(W:ao) (Y:Mem) (kv cv:aq),OwnS M.A w W [.map bm (h++[(ps[i].s,.bool av)]),obE b5 (if ps[i+1].k≠0 then Vl.put o ps[i].s ps[i+1] else o) kv cv,obE b2 ob0 nilS nilS,.mem Y]->M.le Y ->
     OV Y.A Y.w (obV (if ps[i+1].k≠0 then Vl.put o ps[i].s ps[i+1] else o) kv cv) (if ps[i+1].k≠0 then Vl.put o ps[i].s ps[i+1] else o)->ps[i].s ∉ h.map (·.1)->J [y] W:=by
    intro W Y kv cv b b6 b7 hm;refine hJ _ _ λ_=>?_;simp only[AN,gd,rs,nz];rw[aA om om];have c8:=Vl.VL o ps[i].s ps[i+1];have e9:ps[i].s.length+1<=ps[i].wt:=by rw[Vl.jX];omega
    have e0:=ps[i+1].Ma;refine aY ⟨i+2,y,h++[(ps[i].s,.bool av)],_,kv,cv,Y,sm,om,om,?_,?_,?_,?_,?_,b6,b7,b⟩ (by simp[n1,RowKit.intOf];omega)
    ·rw[G,b4,amA hm];simp
    ·split
     ·exact (Vl.Ki c hlen).1
     ·exact c
    ·split
     ·exact (Vl.Ki c hlen).2
     ·exact hlen
    ·split<;>omega
    ·intro p hp;rcases anF.1 hp with hp|hp
     ·exact P p hp
     ·simp only[anB] at hp;rw[hp]
   refine aD (dX amT szOb om om) |>.mpr ?_;rw[amK,FN,aJ Iv (cellAt (b.hasM 3 rfl) i I 3 _ λ_ _=>rfl)];refine aD (Kq (z:=.bool au) underlying215 amP krx (b.at_ 0 rfl) ps[i].s) |>.mpr ?_;by_cases d:ps[i].s∈h.map (·.1)
   ·have hl:sD h ps[i].s=ax (.bool av):=by
     cases U:sD h ps[i].s with
    |none=>exact absurd d (JW.1 U)
    |some u=>
      unfold sD at U;obtain⟨p,hp,rfl⟩:=aoJ.1 U;rw[P p (List.mem_of_find?_eq_some hp)]
    rw[hl];simp only[aqO,if_false,apY,i_t];have b:OwnS M.A w w6 (obE b2 ob0 nilS nilS::.mem N::[]):=b.tail.tail;exact no 9 b hle (by rw[G,b4,amB d])
   ·have hl:sD h ps[i].s=none:=JW.2 d;rw[hl];simp only[aqO,if_false,Option.getD_none,i_f];refine Qx 0 underlying215 amP b rfl ps[i].s (.bool av) hl λZ b=>?_;have b:OwnS M.A w Z [.map bm (h++[(ps[i].s,.bool av)]),obE b5 o D E,obE b2 ob0 nilS nilS,.mem N]:=b;rw[aA om om,show (i:Int)+1=((i+1:Nat):Int) by omega];refine aD (dX amT szOb om om) |>.mpr ?_;have O:=cellAt (b.hasM 3 rfl) (i+1) g 0 (.int .i64 ps[i+1].k) λ_ _=>rfl;rw[aoC] at O;rw[amK,fP,aJ aU O];simp only[rs];by_cases h0:ps[i+1].k=0
    ·simp only[h0,ne_eq,not_true,amF,i_f];refine fin Z N D E ?_ hle ?_ d
     ·rw[amA (by simp[h0])];exact b
     ·rw[amA (by simp[h0])];exact Q
    ·simp only[h0,ne_eq,aqD,amD,i_t];obtain⟨x2,q2,V,b8⟩:=QU b3 g;have V:OV N.A N.w x2 ps[i+1]:=V;have b9:∀W,Below Z.heap.size Z W->N.has W:=λW l=>Mem.Mh (b.hasM 3 rfl) l;refine quiet ?_;refine q_at _ (λW l=>aW ((b.grow l).agg 1 rfl kY)) ?_;refine pJ ?_;rw[aA om om,show (i:Int)+1=((i+1:Nat):Int) by omega];refine q_at _ (λW l=>(b8 W (b9 W l)).1) ?_;refine q_at _ (λW l=>(b8 W (b9 W l)).2) ?_;intro w8 l;have b:=b.grow l;have c8:=Vl.jX ps[i];refine bH b 3 rfl (Qb o ps[i+1] _ _ ps[i].s N w8 om (b.hasM 3 rfl) Q V c hlen) λz N2 w9 F hz b=>?_;obtain⟨zk,zc,h2,rfl,c0⟩:=hz.open;refine bK 1 c0.keys.one c0.kids.one b rfl λc9 b=>?_;refine fin c9 N2 zk zc ?_ (hle.trans F) ?_ d
     ·rw[amB (by simp[h0])];exact b
     ·rw[amB (by simp[h0])];exact hz
  ·have b0:i=ps.length:=om
   simp only[f,amF,i_f];rw[aoF om] at G c7;have G:Vl.dict ps=Vl.right o:=G;rw[ob_v b 1 rfl];refine bH b 3 rfl (sJ o _ N w6 om (b.hasM 3 rfl) Q) λz N2 Z F hz b=>?_;refine bH b 3 rfl (HF o _ N2 Z om (b.hasM 3 rfl) hz) ?_;rintro _ N3 w8 c1 ⟨t,rfl,ht⟩ b;obtain⟨tk,tc,h3,rfl,c2⟩:=ht.open;simp only[errV,ex];refine bK 2 c2.keys.one c2.kids.one b rfl λw9 b=>?_;refine fE 2 b rfl (hK _ _ N3 _ 3 b rfl (hle.trans (F.trans c1)) ⟨obV (Vl.right o).1 tk tc,?_,?_⟩)
   ·rw[G];rfl
   ·rw[G];exact ht
end
section
open Go
structure It where
 num:Int
 gen:Int
 obj:Ob
structure Dc where
 items:List It
 trailer:Ob
namespace Dk
def alG:List UInt8:=[82,111,111,116]
def aiA:List UInt8:=[73,110,102,111]
def idK:List UInt8:=[73,68]
def it0:It:=⟨0,0,Vl.ob0⟩
def numbers (i:It):Bool:=ai (1<=i.num)&&ai (i.num<=8191)&&ai (0<=i.gen)&&ai (i.gen<=65535)
end Dk
end
section
open Eng Go.RowKit Go.ChangeShapes Go.WideShapes
inductive Rws {α:Type} (R:List aq->α->Prop):List aq->List α->Prop
|nil:Rws R [] []
|cons {a rest:List aq} {x:α} {xs:List α}:R a x->Rws R rest xs->Rws R (a++rest) (x::xs)
section
variable {α:Type}{R R':List aq->α->Prop}
theorem Rws.snoc {a:List aq}{x:α}(b:R a x):∀{cs:List aq} {xs:List α},Rws R cs xs->Rws R (cs++a) (xs++[x])
|_,_,.nil=>by
  have:=Rws.cons b (Rws.nil (R:=R));simpa using this
|_,_,.cons h t=>by
  rw[amM,apR];exact .cons h (Rws.snoc b t)
end
section
variable {H:Type}{enc:TypeId×aq->H}{W:ao}{sp:Nat->Bool}{held:Bool}
theorem Kg {E T:TypeId}{n:Nat}{R:List aq->α->Prop}{wt:α->Nat}(F:Tryz.prog.underlying T=ax (.slice E))(G:Tryz.prog.cellsOf E=n)(I:0 < n)
  (p:∀fuel cs x,DataW.trod enc ah W 0 sp held fuel E cs=ax x->∃a,R cs a∧cs.length=n∧wt a<=Rows.uptoBulk x.1)
  {fuel:Nat} {cs:List aq} {x:DataW H×List MemPlace} (h:DataW.trod enc ah W 0 sp held fuel T cs=ax x) :
  ∃(v:aq) (ds:List aq) (xs:List α),cs=[v]∧SlA (InW W) W v n xs.length ds∧Rws R ds xs∧xs.length<=9223372036854775807∧(xs.map wt).sum+1<=Rows.uptoBulk x.1:=by
 rcases DataW.trod_slice F h with ⟨rfl,rfl⟩|⟨a,len,cap,elems,rest,J,rfl,rfl,rfl,_,q,r,f,g,_,_⟩
 ·exact⟨_,[],[],rfl,SlA.nil _ _ _ _,.nil,sm,by simp[Rows.uptoBulk]⟩
 ·rw[G] at g;have step:∀k,k<=len->∃(cs:List aq) (os:List α),os.length=k∧cs.length=k*n∧Rws R cs os∧(∀j u,cs[j]?=ax u->W.cell? (a.add j)=ax u)∧(os.map wt).sum<=Rows.uptoBulkAll ((elems.take k).map (·.1)):=by
   intro k
   induction k with
  |zero=>intro _;exact⟨[],[],rfl,sm,.nil,(λj u c=>by simp at c),by simp[Rows.uptoBulkAll]⟩
  |succ k s=>
    intro L;obtain⟨cs,os,l,d,t,w,C⟩:=s om;have i:k < elems.length:=om
    have m:=g k om;rw[amN i,arD] at m;obtain⟨D,y,z⟩:=m;obtain⟨o,K,A,hw⟩:=p J D _ z;refine⟨cs++D,os++[o],by simp[l],by rw[amC,d,A,aoW,arP],Rws.snoc K t,λj u c=>?_,?_⟩
    ·rcases anE j cs.length with e|e
     ·rw[aoL e] at c;exact w j u c
     ·rw[aoQ e] at c;have B:j - cs.length < n:=by
       have:=(amS.1 c).1;omega
      have:=(World.cells?_some y).2.2 (j - cs.length) B;rw[<-c,<-this,P2,show k*n+(j - cs.length)=j by omega]
    ·rw[anH i,anN,anN,rF,asG];simp only[anS,apW,Rows.uptoBulkAll,aqC,List.sum_nil];omega
  obtain⟨cs,os,l,d,t,w,C⟩:=step len (amJ _);refine⟨_,cs,os,rfl,?_,t,?_,?_⟩
  ·rw[l];exact SlA.KS I (by rw[d]) w (λb m=>m) q
  ·rw[l];simp only[maxLen] at r;omega
  ·rw[<-f,aoA] at C;simp only[Rows.uptoBulk];omega
end
end
section
open Eng Go.RowKit
def itC (i:It)(vk vc:aq):List Value:=.int .i64 i.num::.int .i64 i.gen::obC i.obj vk vc
def itV (i:It)(vk vc:aq):Value:=.agg (itC i vk vc).toArray
def itE (b:Nat)(i:It)(vk vc:aq):Ent:=.cells b (itC i vk vc) 57
theorem abF {p:Ob}{a b:aq}(h:obV o vk vc=obV p a b):vk=a∧vc=b:=by
 have:(obC o vk vc).toArray=(obC p a b).toArray:=by injection h
 have:obC o vk vc=obC p a b:=by simpa using congrArg Array.toList this
 simp only[obC,arE,and_true] at this;exact⟨this.2.2.2.2.1,this.2.2.2.2.2⟩
theorem OV.slices (h:OV A w (obV o vk vc) o):∃cs,ObAt A w o vk vc cs:=by
 obtain⟨b,c,cs,e,a⟩:=h.open;obtain⟨rfl,rfl⟩:=abF e;exact⟨cs,a⟩
theorem OV.oneK (h:OV A w (obV o vk vc) o):vk.oneCell'=true:=by obtain⟨cs,a⟩:=h.slices;exact a.keys.one
theorem OV.oneC (h:OV A w (obV o vk vc) o):vc.oneCell'=true:=by obtain⟨cs,a⟩:=h.slices;exact a.kids.one
theorem abR (i:It)(b:vk.oneCell'=av)(c:vc.oneCell'=av):∀v∈itC i vk vc,v.oneCell'=true:=by
 intro v a;simp only[itC,amH] at a;rcases a with rfl|rfl|a
 ·rfl
 ·rfl
 ·exact lI i.obj b c v a
theorem OR:aggN ah 57=ax 8:=krx
theorem szIt:(Tryz.prog.info? 57).map (·.size)=ax 8:=krx
theorem aiO:fOff ah 57 0=ax 0:=krx
theorem akL:fOff ah 57 1=ax 1:=krx
theorem ajP:fOff ah 57 2=ax 2:=krx
section
variable {w:ao}{PK:PKT}{K:VWP}{S:Nat->Prop}{w0:ao}{L:List Ent}
theorem NJ {off:Nat}:DoX ah (mFA 57 (.pointer (ax ⟨b,off,aw⟩)) 0) w PK K=K (.pointer (ax ⟨b,off,aw⟩)) w:=aO aiO
theorem V7 {off:Nat}:DoX ah (mFA 57 (.pointer (ax ⟨b,off,aw⟩)) 1) w PK K=K (.pointer (ax ⟨b,off+1,aw⟩)) w:=aO akL
theorem SN {off:Nat}:DoX ah (mFA 57 (.pointer (ax ⟨b,off,aw⟩)) 2) w PK K=K (.pointer (ax ⟨b,off+2,aw⟩)) w:=aO ajP
theorem aeI (i:It)(a:vk.oneCell'=av)(c:vc.oneCell'=av)(d:OwnS S w0 w L)(k:∀b w',OwnS S w0 w' (itE b i vk vc::L)->K (.pointer (ax ⟨b,0,aw⟩)) w'):DoX ah (mBox 57 (itV i vk vc)) w PK K:=by
 cases vk<;>first|(cases a;done)|skip
 all_goals cases vc<;>first|(cases c;done)|exact bA (λb=>.pointer (ax ⟨b,0,aw⟩)) (itC i _ _) 57 (λ_=>by kernel_rfl) d k
theorem Wa (a:OwnS S w0 w L)(k:∀b w',OwnS S w0 w' (itE b Dk.it0 nilS nilS::L)->K (.pointer (ax ⟨b,0,aw⟩)) w'):DoX ah (iH 57) w PK K:=
 bA (λb=>.pointer (ax ⟨b,0,aw⟩)) (itC Dk.it0 nilS nilS) 57 (λ_=>by kernel_rfl) a k
theorem Jn (j:Nat){i i':It}{vk' vc':aq}(a:vk'.oneCell'=av)(c:vc'.oneCell'=av)(d:OwnS S w0 w L)(hi:L[j]?=ax (itE b i vk vc))(k:∀w',OwnS S w0 w' (L.set j (itE b i' vk' vc'))->K undef w') :
  DoX ah (aN 57 (.pointer (ax ⟨b,0,aw⟩)) (itV i' vk' vc')) w PK K:=gX j d hi (new:=itC i' vk' vc') szIt (abR i' a c) rfl k
theorem GF (a:OwnS S w0 w L)(j:Nat){i:It}(hi:L[j]?=ax (itE b i vk vc)):DoX ah (aH 3 (.pointer (ax ⟨b,0,aw⟩))) w PK K=K (.int .i64 i.num) w:=aJ aU (a.cell j hi 0 rfl)
theorem PS (a:OwnS S w0 w L)(j:Nat){i:It}(hi:L[j]?=ax (itE b i vk vc)):DoX ah (aH 3 (.pointer (ax ⟨b,0+1,aw⟩))) w PK K=K (.int .i64 i.gen) w:=aJ aU (a.cell j hi 1 rfl)
theorem it_k (a:OwnS S w0 w L)(j:Nat){i:It}(hi:L[j]?=ax (itE b i vk vc)):DoX ah (aH 3 (.pointer (ax ⟨b,0+2,aw⟩))) w PK K=K (.int .i64 i.obj.k) w:=aJ aU (a.cell j hi 2 rfl)
theorem Qn (a:OwnS S w0 w L)(j:Nat){i:It}(hi:L[j]?=ax (itE b i vk vc)):DoX ah (aH 25 (.pointer (ax ⟨b,0+2,aw⟩))) w PK K=K (obV i.obj vk vc) w:=
 l_at (a.VN j hi (0+2) (obC i.obj vk vc) rfl kY)
theorem agG:DoX ah (aS 57 #[]) w PK K=K (itV Dk.it0 nilS nilS) w:=aD krx
end
end
section
open Eng
def ER(w)(K:KT):=nz f222 1 [] [] [] (zg [] []) w K
theorem HY:ER w k0->Calls ah 222 #[] w k0:=cw func222
end
end Go.Proofs.YtlipjfcbjemicaaGreatDoor

namespace Go.Proofs.YtlipjfcbjemicaaGreatDoor
variable{A S:Nat->Prop}{K:VWP}{L:List Eng.Ent}{M N:Eng.Mem}{P:Program}{PK PK2:PKT}{T1 U:TypeId}{W w w0:ao}{a:Int}{args:Array aq}{b cap d f i j m sz:Nat}{cb:Array Bool}{cs news xs:List aq}{ds:List Deferred}{e:Eng.Ent}{k':IntKind}{key:List UInt8}{o:Ob}{q:Bool}{u:FrameMode}{v v2 vc vk vs:aq}{xo yo:Operand}{α:Type}{t0 t1:aq}{k0:Eng.KT}
section
open Eng Go.RowKit
theorem RetM.told {x:aq}(h:RetM ah f args M w (λv _=>v=x)):Ret ah f args w (λv w'=>v=x∧Below w.heap.size w w'):=
 Ret.mono h λv w' ⟨N,g,r⟩=>⟨r,g.below⟩
theorem HO {x:Option Ob}(h:OV M.A M.w v (x.getD Vl.ob0)):∃vk vc,v=obV (x.getD Vl.ob0) vk vc∧OV M.A M.w (obV (x.getD Vl.ob0) vk vc) (x.getD Vl.ob0):=by
 obtain⟨vk,vc,cs,rfl,a⟩:=h.open;exact⟨vk,vc,rfl,h⟩
end
end Go.Proofs.YtlipjfcbjemicaaGreatDoor

namespace Go.Proofs.YtlipjfcbjemicaaGreatDoor
variable{A S:Nat->Prop}{K:VWP}{L:List Eng.Ent}{M N:Eng.Mem}{P:Program}{PK PK2:PKT}{T1 U:TypeId}{W w w0:ao}{a:Int}{args:Array aq}{b cap d f i j m sz:Nat}{cb:Array Bool}{cs news xs:List aq}{ds:List Deferred}{e:Eng.Ent}{k':IntKind}{key:List UInt8}{o:Ob}{q:Bool}{u:FrameMode}{v v2 vc vk vs:aq}{xo yo:Operand}{α:Type}{t0 t1:aq}{k0:Eng.KT}
section
open Eng
def sF(t0 t1 w)(K:KT):=nz f353 1 [] [] [] (zg [0,1] [t0,t1]) w K
theorem Aw:sF t0 t1 w k0->Calls ah 353 #[t0,t1] w k0:=cw func353
def yC(t0 w)(K:KT):=nz f362 1 [] [] [] (zg [0] [t0]) w K
theorem Dd:yC t0 w k0->Calls ah 362 #[t0] w k0:=cw func362
end
end Go.Proofs.YtlipjfcbjemicaaGreatDoor


namespace Go.Proofs.YtlipjfcbjemicaaGreatDoor
variable{A S:Nat->Prop}{K:VWP}{L:List Eng.Ent}{M N:Eng.Mem}{P:Program}{PK PK2:PKT}{T1 U:TypeId}{W w w0:ao}{a:Int}{args:Array aq}{b cap d f i j m sz:Nat}{cb:Array Bool}{cs news xs:List aq}{ds:List Deferred}{e:Eng.Ent}{k':IntKind}{key:List UInt8}{o:Ob}{q:Bool}{u:FrameMode}{v v2 vc vk vs:aq}{xo yo:Operand}{α:Type}{t0 t1:aq}{k0:Eng.KT}
section
open Eng Go.RowKit
theorem pf {v:Ob}{k:List UInt8}(h:Vl.get o k=ax v):v.wt<=o.wt:=by
 unfold Vl.get at h;split at h
 ·split at h
  ·rename_i b c
   obtain⟨a,rfl⟩:=amS.1 h;have:=JC a;omega
  ·cases h
 ·cases h
section
variable {w:ao}{S:Nat->Prop}{w0:ao}{L:List Ent}
end
end
section
open Eng Go.RowKit
def bw:List (List UInt8):=[Dk.idK,Dk.aiA,Dk.alG]
theorem Tj (M:Mem)(w:ao)(d:M.has w):RetM ah 222 #[] M w (λr N=>SlA N.A N.w r 1 3 (bS bw)):=by
 refine bB d λK e=>HY ?_;unfold ER nz;refine bA (λb=>.slice (ax ⟨b,0,aw⟩) 3 3) (bS bw) 9 (λ_=>by kernel_rfl) (OwnS.memS d) λb f c=>?_;obtain⟨N,hle,a,c⟩:=OwnS.bI (L:=[.mem M]) (c.toU 1 3 3 dc om om) 0 rfl;exact e _ _ N _ 0 c rfl hle a
end
end Go.Proofs.YtlipjfcbjemicaaGreatDoor

namespace Go.Proofs.YtlipjfcbjemicaaGreatDoor
variable{A S:Nat->Prop}{K:VWP}{L:List Eng.Ent}{M N:Eng.Mem}{P:Program}{PK PK2:PKT}{T1 U:TypeId}{W w w0:ao}{a:Int}{args:Array aq}{b cap d f i j m sz:Nat}{cb:Array Bool}{cs news xs:List aq}{ds:List Deferred}{e:Eng.Ent}{k':IntKind}{key:List UInt8}{o:Ob}{q:Bool}{u:FrameMode}{v v2 vc vk vs:aq}{xo yo:Operand}{α:Type}{t0 t1:aq}{k0:Eng.KT}
section
open Eng Go.RowKit
namespace Eng
def Ent.two (e f:Ent):Ent:=⟨λk=>e.blk k∨f.blk k,λw=>e.is w∧f.is w∧∀k,e.blk k->¬f.blk k,
 λh k=>⟨e.keep h.1 λb a=>k b (.inl a),f.keep h.2.1 λb a=>k b (.inr a),h.2.2⟩,λh k c=>c.elim (e.lt h.1 k) (f.lt h.2.1 k)⟩
section
variable {S:Nat->Prop}{w w0:ao}{L:List Ent}
theorem OwnS.split {f:Ent}(c:OwnS S w0 w (.two e f::L)):OwnS S w0 w (e::f::L):=by
 obtain⟨⟨he,h,i⟩,d⟩:=c.all (.two e f) sm;obtain⟨g,a2⟩:=apC.1 c.apart;refine⟨c.grew,λx a=>?_,apC.2 ⟨λx a k b=>?_,apC.2 ⟨λx a k b=>g x a k (.inr b),a2⟩⟩⟩
 ·rcases amH.1 a with rfl|a
  ·exact⟨he,λk b=>d k (.inl b)⟩
  rcases amH.1 a with rfl|a
  ·exact⟨h,λk b=>d k (.inr b)⟩
  ·exact c.all x (anA _ a)
 ·rcases amH.1 a with rfl|a
  ·exact i k b
  ·exact g x a k (.inl b)
end
end Eng
section
variable {P:Program}{S:ao->Prop}{K:aq->Prop}
theorem jH {m:Sem Next}(v:aq)(h:∀w,S w->m.run P w=.ok (.value v) w)(k:K v):HDo P S m K:=⟨v,h,k⟩
theorem aR {m:Sem Next}(v:aq)(h:∀w,m.run P w=.ok (.value v) w)(k:K v):HDo P S m K:=⟨v,λw _=>h w,k⟩
end
section
variable {w:ao}{PK:PKT}{K:VWP}{S:Nat->Prop}{w0:ao}{L:List Ent}
theorem pA {T:TypeId}(h:w.heap[b]?=ax (.cells cs.toArray T (0,0)))(a:0 < sz)(d:cs.length=sz):Sl w (.slice (ax ⟨b,0,aw⟩) 1 1) sz 1 cs:=
 ⟨om,ax ⟨b,0,aw⟩,1,rfl,λh=>(by cases h),λp hp=>by cases hp;exact⟨λ_=>rfl,λj u c=>by rw[amO];exact aI (T:=T) h c⟩⟩
end
theorem Jj (x:Int)(w:ao):Ret ah 362 #[.int .i64 x] w (λv w'=>v=.bool au∧w=w'):=by
 refine aZ λK a=>Dd ?_;unfold yC nz;rw[Wi];exact a _ _ ⟨sm,rfl⟩
end
end Go.Proofs.YtlipjfcbjemicaaGreatDoor




namespace Go.Proofs.YtlipjfcbjemicaaGreatDoor
variable{A S:Nat->Prop}{K:VWP}{L:List Eng.Ent}{M N:Eng.Mem}{P:Program}{PK PK2:PKT}{T1 U:TypeId}{W w w0:ao}{a:Int}{args:Array aq}{b cap d f i j m sz:Nat}{cb:Array Bool}{cs news xs:List aq}{ds:List Deferred}{e:Eng.Ent}{k':IntKind}{key:List UInt8}{o:Ob}{q:Bool}{u:FrameMode}{v v2 vc vk vs:aq}{xo yo:Operand}{α:Type}{t0 t1:aq}{k0:Eng.KT}
section
open Go
structure Lx where
 off:Int
 sty:List UInt8
 pre:List UInt8
 first:Int
 deriving DecidableEq
namespace Lb
end Lb
end
end Go.Proofs.YtlipjfcbjemicaaGreatDoor












namespace Go.Proofs.YtlipjfcbjemicaaGreatDoor
variable{A S:Nat->Prop}{K:VWP}{L:List Eng.Ent}{M N:Eng.Mem}{P:Program}{PK PK2:PKT}{T1 U:TypeId}{W w w0:ao}{a:Int}{args:Array aq}{b cap d f i j m sz:Nat}{cb:Array Bool}{cs news xs:List aq}{ds:List Deferred}{e:Eng.Ent}{k':IntKind}{key:List UInt8}{o:Ob}{q:Bool}{u:FrameMode}{v v2 vc vk vs:aq}{xo yo:Operand}{α:Type}{t0 t1:aq}{k0:Eng.KT}
section
open Eng Go.RowKit Go.ChangeShapes Go.WideShapes Go.ChangeAt
set_option maxRecDepth 100000
section
variable {H:Type}{enc:TypeId×aq->H}{W:ao}{sp:Nat->Bool}{held:Bool}
theorem adI {d e:DataW H}(a:Rows.uptoSmall H [d,e]=av):Rows.uptoBulk d<=1048576∧Rows.uptoBulk e<=1048576:=by
 have h:Rows.uptoBulkAll [d,e]<=1048576:=amU a;simp only[Rows.uptoBulkAll] at h;omega
end
end
end Go.Proofs.YtlipjfcbjemicaaGreatDoor













namespace Go.Proofs.YtlipjfcbjemicaaGreatDoor
variable{A S:Nat->Prop}{K:VWP}{L:List Eng.Ent}{M N:Eng.Mem}{P:Program}{PK PK2:PKT}{T1 U:TypeId}{W w w0:ao}{a:Int}{args:Array aq}{b cap d f i j m sz:Nat}{cb:Array Bool}{cs news xs:List aq}{ds:List Deferred}{e:Eng.Ent}{k':IntKind}{key:List UInt8}{o:Ob}{q:Bool}{u:FrameMode}{v v2 vc vk vs:aq}{xo yo:Operand}{α:Type}{t0 t1:aq}{k0:Eng.KT}
section
open Go
namespace Vl
theorem yB (key:List UInt8):∀(b:List (List UInt8)) (cs:List Ob),key ∉ (eM key b cs).1
|[],_=>by simp[eM]
|_::_,[]=>by simp[eM]
|a::b,c::cs=>by
  rw[eM];split
  ·exact yB key b cs
  ·rename_i h
   simp only[amH,not_or];exact⟨λe=>h e.symm,yB key b cs⟩
theorem Es (key:List UInt8):∀(b:List (List UInt8)) (cs:List Ob),(eM key b cs).1.length=(eM key b cs).2.length
|[],_=>by simp[eM]
|_::_,[]=>by simp[eM]
|a::b,c::cs=>by
  rw[eM];split
  ·exact Es key b cs
  ·simp[Es key b cs]
theorem zY (key:List UInt8):∀(b:List (List UInt8)) (cs:List Ob),(eM key b cs).1.Sublist b
|[],_=>by simp[eM]
|_::_,[]=>by simp[eM]
|a::b,c::cs=>by
  rw[eM];split
  ·exact (zY key b cs).trans (List.sublist_cons_self _ _)
  ·exact (zY key b cs).cons_cons _
theorem Ai (key:List UInt8):∀(b:List (List UInt8)) (cs:List Ob),(eM key b cs).2.Sublist cs
|[],_=>by simp[eM]
|_::_,[]=>by simp[eM]
|a::b,c::cs=>by
  rw[eM];split
  ·exact (Ai key b cs).trans (List.sublist_cons_self _ _)
  ·exact (Ai key b cs).cons_cons _
theorem OJ (o:Ob)(key:List UInt8):get (aQ o key) key=none:=by
 unfold get;split
 ·rw[amA];rw[auL];exact yB key o.keys o.kids
 ·rfl
theorem L8 {l:List (List UInt8)}:key ∉ l.take (place l key):=by
 intro h;obtain⟨m,hm,he⟩:=apS h;rw[amL] at hm;have a:m < place l key:=om
 have:=Pn a;rw[asC] at he;rw[he,uM] at this;cases this
theorem OS {v:Ob}(a:keyed o=av)(c:o.keys.length=o.kids.length):get (put o key v) key=ax v:=by
 have hp:=Ae o.keys key;unfold get;rw[show keyed (put o key v)=keyed o from rfl,a,amB rfl];have e:(put o key v).keys=o.keys.take (place o.keys key)++key::o.keys.drop (place o.keys key+if hit o.keys key then 1 else 0):=rfl;have b:(put o key v).kids=o.kids.take (place o.keys key)++v::o.kids.drop (place o.keys key+if hit o.keys key then 1 else 0):=rfl;have hi:(put o key v).keys.idxOf key=place o.keys key:=by
  rw[e];refine Yb (by simp;omega) ?_ ?_
  ·rw[aoG (by rw[amL];omega)];exact L8
  ·rw[auQ (by rw[amL];omega)];simp[amL,anL hp]
 rw[hi,amB (by rw[e];simp;omega),b,aoQ (by rw[amL];omega),amL];have:place o.keys key - min (place o.keys key) o.kids.length=0:=om
 rw[this];rfl
theorem Jl {d:Nat}:∀{os:List Ob},rN d os=0↔∀o∈os,check d o=0
|[]=>by simp[rN]
|o::os=>by
  rw[rN];split
  ·rename_i h
   constructor
   ·intro e;exact absurd e h
   ·intro e;exact absurd (e o anQ) h
  ·rename_i h
   have h:=apJ.1 h;rw[Jl];simp[h]
theorem Xi (l:List (List UInt8))(h:i < l.length):l.getD i []=l[i]:=by rw[amI,amN h];rfl
theorem nX :rising o=av↔o.keys.length=o.kids.length∧Rise o.keys∧(∀k∈o.keys,name k=av∧(o.k=9->k≠lenK))∧∀c∈o.kids,c.k≠0:=by
 unfold rising;simp only[amX,anI,apA,aoE];constructor
 ·rintro⟨q,h⟩;have f:∀i (hi:i < o.keys.length),name o.keys[i]=av∧(i=0∨less (o.keys.getD (i - 1) []) o.keys[i]=av)∧(o.k=9->o.keys[i]≠lenK)∧(o.kids[i]'(om)).k≠0:=by
   intro i hi;have:=h i hi;unfold Gv at this;rw[Xi _ hi,amI (l:=o.kids),amN (by omega:i < o.kids.length)] at this;simp only[amX,apQ,anI,apY,arL,auN,apK] at this;obtain⟨⟨⟨a,b⟩,c⟩,e⟩:=this;exact⟨a,b,λp g=>c.elim (λx=>x p) (λx=>x g),e⟩
  refine⟨q,?_,?_,?_⟩
  ·refine aqV.2 λi j hi m s=>?_;have step:∀i (hi:i+1 < o.keys.length),less o.keys[i] o.keys[i+1]=true:=by
    intro i hi;have:=(f (i+1) hi).2.1;rcases this with n|n
    ·omega
    ·rwa [aqQ,Xi _ (by omega:i < o.keys.length)] at n
   have:∀d,∀j (m:j < o.keys.length),j=i+1+d->less o.keys[i] o.keys[j]=true:=by
    intro d
    induction d with
   |zero=>intro j m he;subst he;exact step i m
   |succ d t=>
     intro j m he;subst he;exact nW (t (i+1+d) om rfl) (step (i+1+d) m)
   exact this (j - (i+1)) j m om
  ·intro k g;obtain⟨i,hi,rfl⟩:=apS g;exact⟨(f i hi).1,(f i hi).2.2.1⟩
  ·intro c r;obtain⟨i,hi,rfl⟩:=apS r;exact (f i om).2.2.2
 ·rintro⟨q,u,g,r⟩;refine⟨q,λi hi=>?_⟩;unfold Gv;rw[Xi _ hi,amI (l:=o.kids),amN (by omega:i < o.kids.length)];simp only[amX,apQ,anI,apY,arL,auN,apK];refine⟨⟨⟨(g _ (amR hi)).1,?_⟩,?_⟩,r _ (amR _)⟩
  ·rcases aoP i with n|n
   ·exact .inl n
   ·refine .inr ?_;rw[Xi _ (by omega:i - 1 < o.keys.length)];exact pZ u om hi
  ·by_cases p:o.k=9
   ·exact .inr ((g _ (amR hi)).2 p)
   ·exact .inl p
theorem jK :check d o=0↔(d<=24∧qT o=av∧(o.k=9->d<=1)∧fits o=av∧o.s.length<=long o.k∧o.kids.length<=8191∧form o=av)∧∀c∈o.kids,check (d+1) c=0:=by
 rw[Gg];have hw:why d o=0↔(d<=24∧qT o=av∧(o.k=9->d<=1)∧fits o=av∧o.s.length<=long o.k∧o.kids.length<=8191∧form o=av):=by
  unfold why;split
  ·simp;omega
  rename_i m
  split
  ·rename_i f
   simp only[show (10:Int)≠0 by decide,false_iff,not_and];rintro - a b;rcases f with f|f
   ·rw[f] at a;cases a
   ·have:=b f.1;omega
  rename_i f
  simp only[not_or,Bool.not_eq_false,not_and,Nat.not_lt] at f;split
  ·rename_i g;simp[g]
  rename_i g
  split
  ·rename_i j;simp;intros;omega
  rename_i j
  split
  ·rename_i l;simp;intros;omega
  rename_i l
  split
  ·rename_i i;simp[i]
  rename_i i
  simp only[Bool.not_eq_false] at g i;exact⟨λ_=>⟨om,f.1,f.2,g,om,om,i⟩,λ_=>rfl⟩
 split
 ·rename_i h
  constructor
  ·intro e;exact absurd e h
  ·intro e;exact absurd (hw.2 e.1) h
 ·rename_i h
  have h:=apJ.1 h;rw[Jl];exact⟨λe=>⟨hw.1 h,e⟩,λe=>e.2⟩
theorem gK (h:check d o=0)(i:keyed o=av):check d (aQ o key)=0:=by
 obtain⟨⟨p,a2,a3,a4,a5,q,e⟩,j⟩:=jK.1 h;have s1:=zY key o.keys o.kids;have s2:=Ai key o.keys o.kids;have f:o.k=7∨o.k=9:=by simpa[keyed] using i
 have m:(aQ o key).k=o.k:=rfl;have a:(aQ o key).keys=(eM key o.keys o.kids).1:=rfl;have b:(aQ o key).kids=(eM key o.keys o.kids).2:=rfl;refine jK.2 ⟨⟨p,?_,a3,a4,a5,?_,?_⟩,λc l=>j c (s2.subset l)⟩
 ·unfold qT at a2 ⊢;rw[m];rcases f with r|t
  ·rw[r] at a2 ⊢;simpa[used,show (aQ o key).n=o.n from rfl,show (aQ o key).g=o.g from rfl,show (aQ o key).s=o.s from rfl] using a2
  ·rw[t] at a2 ⊢;simpa[used,show (aQ o key).n=o.n from rfl,show (aQ o key).g=o.g from rfl,show (aQ o key).s=o.s from rfl] using a2
 ·rw[b];exact apG s2.length_le q
 ·unfold form at e ⊢;rw[m];simp only[amX] at e ⊢;refine⟨e.1,?_⟩;rw[amG f] at e ⊢;have u:rising o=true:=by simpa using e.2
  obtain⟨y,v,w,x⟩:=nX.1 u;have:rising (aQ o key)=true:=by
   refine nX.2 ⟨?_,?_,?_,?_⟩
   ·rw[a,b];exact Es key _ _
   ·rw[a];exact List.Pairwise.sublist s1 v
   ·rw[a];exactλk i=>w k (s1.subset i)
   ·rw[b];exactλc j=>x c (s2.subset j)
  simp[this]
end Vl
namespace Dk
end Dk
end
section
open Go
namespace Ps
open Lx (next Tok Pk)
open Wr (num parts UH TA)
def At (s:List UInt8)(a:Int)(p:List UInt8)(b:Int):Prop:=∃(x:Tok) (a':Int),Pk p x∧next s a=({ x with a:=a',t:=b },0)
def Toks (s:List UInt8):Int->List (List UInt8)->Int->Prop
|a,[],b=>a=b
|a,p::ps,b=>∃c,At s a p c∧Toks s c ps b
end Ps
end
end Go.Proofs.YtlipjfcbjemicaaGreatDoor


namespace Go.Proofs.YtlipjfcbjemicaaGreatDoor
variable{A S:Nat->Prop}{K:VWP}{L:List Eng.Ent}{M N:Eng.Mem}{P:Program}{PK PK2:PKT}{T1 U:TypeId}{W w w0:ao}{a:Int}{args:Array aq}{b cap d f i j m sz:Nat}{cb:Array Bool}{cs news xs:List aq}{ds:List Deferred}{e:Eng.Ent}{k':IntKind}{key:List UInt8}{o:Ob}{q:Bool}{u:FrameMode}{v v2 vc vk vs:aq}{xo yo:Operand}{α:Type}{t0 t1:aq}{k0:Eng.KT}
section
open Go
namespace Ps
open Lx (next Tok)
theorem Y7 {v:Ob}:(∀k∈(Vl.put o key v).keys,k=key∨k∈o.keys)∧(∀c∈(Vl.put o key v).kids,c=v∨c∈o.kids)∧(Vl.put o key v).kids.length<=o.kids.length+1:=by
 unfold Vl.put;simp only[Ob.keys,Ob.kids];refine⟨λk a=>?_,λc b=>?_,?_⟩
 ·rcases anF.1 a with h|h
  ·exact .inr (aoO h)
  ·rcases amH.1 h with h|h
   ·exact .inl h
   ·exact .inr (aqF h)
 ·rcases anF.1 b with h|h
  ·exact .inr (aoO h)
  ·rcases amH.1 h with h|h
   ·exact .inl h
   ·exact .inr (aqF h)
 ·simp only[amC,amL,amW,amQ];split<;>omega
end Ps
end
end Go.Proofs.YtlipjfcbjemicaaGreatDoor













namespace Go.Proofs.YtlipjfcbjemicaaGreatDoor
variable{A S:Nat->Prop}{K:VWP}{L:List Eng.Ent}{M N:Eng.Mem}{P:Program}{PK PK2:PKT}{T1 U:TypeId}{W w w0:ao}{a:Int}{args:Array aq}{b cap d f i j m sz:Nat}{cb:Array Bool}{cs news xs:List aq}{ds:List Deferred}{e:Eng.Ent}{k':IntKind}{key:List UInt8}{o:Ob}{q:Bool}{u:FrameMode}{v v2 vc vk vs:aq}{xo yo:Operand}{α:Type}{t0 t1:aq}{k0:Eng.KT}
section
open Go
structure Slt where
 num:Int
 kind:Int
 a:Int
 b:Int
 deriving DecidableEq
structure Sec where
 at_:Int
 aG:List Slt
 trailer:Ob
 prev:Int
 hybrid:Int
 own:Int
namespace Tl
open Lx (next Tok)
def sec0:Sec:=⟨0,[],Vl.ob0,0,0,0⟩
def okS (x:Slt):Int:=
 if x.num < 0∨8191 < x.num then 2 else if x.kind < 0∨2 < x.kind then 10
 else if x.kind=2 then (if x.a < 1∨8191 < x.a∨x.b < 0∨8191 < x.b then 2 else 0) else if x.a < 0∨2147483647 < x.a∨x.b < 0∨65535 < x.b then 2 else 0
def qS:Option Int->List Slt->Int
|_,[]=>0
|last,x::l=>if okS x≠0 then okS x else if last.any (λn=>ai (x.num=n)) then 9 else if last.any (λn=>ai (x.num < n)) then 1 else qS (ax x.num) l
def check (l:List Slt):Int:=qS aw l
end Tl
end
section
open Eng
def E3(t0 w)(K:KT):=nz f167 1 [] [] [] (zg [0] [t0]) w K
theorem GA:E3 t0 w k0->Calls ah 167 #[t0] w k0:=cw func167
def zN(t0 t5 t6 t7 w)(N1:JT)(K:KT):=nz f101 21 [N1] [nh 5 [7]] [(10,14),(12,14)] (zg [0,5,6,7] [t0,t5,t6,t7]) w K
def Cz(t0 w)(K:KT):=nz f101 1 [] [(5,[7],λs v j w f=>zN (s 0) (s 5) (s 6) (vg v 0) w (f 0) K)] [] (zg [0] [t0]) w K
theorem Fu:Cz t0 w k0->Calls ah 101 #[t0] w k0:=cz [] [(2,[7])] func101
def AF(t3 t8 w)(N1:JT)(K:KT):=nz f169 491 [N1] [nh 7 [3,8]] [] (zg [3,8] [t3,t8]) w K
def AJ(t0 t3 t6 t7 t8 w)(N1:JT)(K:KT):=nz f169 43 [N1] [nh 7 [3,8],(16,[3],λs v j w f=>AF (vg v 0) (s 8) w (f 0) K)] [(5,25),(6,10)] (zg [0,3,6,7,8] [t0,t3,t6,t7,t8]) w K
def E2(t0 w)(K:KT):=nz f169 1 [] [(7,[3,8],λs v j w f=>AJ (s 0) (vg v 0) (s 6) (s 7) (vg v 1) w (f 0) K)] [] (zg [0] [t0]) w K
theorem H5:E2 t0 w k0->Calls ah 169 #[t0] w k0:=cz [(8,[3])] [(3,[3,8])] func169
end
section
open Eng Go.RowKit
namespace Eng
section
variable {S:Nat->Prop}{P:Program}{w w0:ao}{L:List Ent}{PK:PKT}{K:VWP}
end
end Eng
def slC (x:Slt):List Value:=[.int .i64 x.num,.int .i64 x.kind,.int .i64 x.a,.int .i64 x.b]
def slV (x:Slt):Value:=.agg (slC x).toArray
abbrev slE (b:Nat)(x:Slt):Ent:=.cells b (slC x) 83
def sl0:Slt:=⟨0,0,0,0⟩
theorem aeT:aggN ah 83=ax 4:=krx
theorem szSl:(Tryz.prog.info? 83).map (·.size)=ax 4:=krx
theorem Ve (x:Slt):∀v∈slC x,v.oneCell'=true:=by
 intro v a;simp only[slC,amH,anW,or_false] at a;rcases a with rfl|rfl|rfl|rfl<;>rfl
theorem fs0:fOff ah 83 0=ax 0:=krx
theorem fs1:fOff ah 83 1=ax 1:=krx
theorem fs2:fOff ah 83 2=ax 2:=krx
theorem fs3:fOff ah 83 3=ax 3:=krx
section
variable {w:ao}{PK:PKT}{K:VWP}{S:Nat->Prop}{w0:ao}{L:List Ent}
theorem UJ {off:Nat}:DoX ah (mFA 83 (.pointer (ax ⟨b,off,aw⟩)) 0) w PK K=K (.pointer (ax ⟨b,off,aw⟩)) w:=aO fs0
theorem Hr {off:Nat}:DoX ah (mFA 83 (.pointer (ax ⟨b,off,aw⟩)) 1) w PK K=K (.pointer (ax ⟨b,off+1,aw⟩)) w:=aO fs1
theorem JD {off:Nat}:DoX ah (mFA 83 (.pointer (ax ⟨b,off,aw⟩)) 2) w PK K=K (.pointer (ax ⟨b,off+2,aw⟩)) w:=aO fs2
theorem JQ {off:Nat}:DoX ah (mFA 83 (.pointer (ax ⟨b,off,aw⟩)) 3) w PK K=K (.pointer (ax ⟨b,off+3,aw⟩)) w:=aO fs3
theorem alD (x:Slt)(a:OwnS S w0 w L)(k:∀b w',OwnS S w0 w' (slE b x::L)->K (.pointer (ax ⟨b,0,aw⟩)) w'):DoX ah (mBox 83 (slV x)) w PK K:=
 bA (λb=>.pointer (ax ⟨b,0,aw⟩)) (slC x) 83 (λ_=>by kernel_rfl) a k
theorem Im (a:OwnS S w0 w L)(k:∀b w',OwnS S w0 w' (slE b sl0::L)->K (.pointer (ax ⟨b,0,aw⟩)) w'):DoX ah (iH 83) w PK K:=
 bA (λb=>.pointer (ax ⟨b,0,aw⟩)) (slC sl0) 83 (λ_=>by kernel_rfl) a k
theorem Fe (i:Nat){x y:Slt}(a:OwnS S w0 w L)(hi:L[i]?=ax (slE b x))(k:∀w',OwnS S w0 w' (L.set i (slE b y))->K undef w') :
  DoX ah (aN 83 (.pointer (ax ⟨b,0,aw⟩)) (slV y)) w PK K:=gX i a hi (new:=slC y) szSl (Ve y) rfl k
theorem sl_v (a:OwnS S w0 w L)(i:Nat){x:Slt}(hi:L[i]?=ax (slE b x)):DoX ah (aH 83 (.pointer (ax ⟨b,0,aw⟩))) w PK K=K (slV x) w:=l_at (a.agg i hi aeT)
end
section
variable {w:ao}{PK:PKT}{K:VWP}{S:Nat->Prop}{w0:ao}{L:List Ent}
end
section
variable {w:ao}{PK:PKT}{K:VWP}{S:Nat->Prop}{w0:ao}{L:List Ent}
end
end
section
open Eng Go.RowKit
theorem eqSl:eqT ah 83 [(0,au),(1,au),(2,au),(3,au)]:=⟨krx,krx,krx,krx⟩
theorem adT (x y:Slt):([(0,au),(1,au),(2,au),(3,au)]:List (Nat×Bool)).all (λp=>DA (slC x).toArray[p.1]? (slC y).toArray[p.1]?)=ai (x=y):=by
 have e:([(0,au),(1,au),(2,au),(3,au)]:List (Nat×Bool)).all (λp=>DA (slC x).toArray[p.1]? (slC y).toArray[p.1]?)=((x.num==y.num)&&((x.kind==y.kind)&&((x.a==y.a)&&((x.b==y.b)&&av)))):=rfl;rw[e,Bool.eq_iff_iff];obtain⟨a,b,c,d⟩:=x;obtain⟨a',f,g,d'⟩:=y;simp
theorem acE {x y:Slt}:(mEq .neq 83 xo yo (slV x) (slV y)).run ah w=.ok (.value (.bool (!ai (x=y)))) w:=by
 rw[<-adT];exact NH eqSl rfl
end
section
open Eng
def kP(t0 t3 t4 w)(N1:JT)(K:KT):=nz f47 2005 [N1] [nh 5 [3]] [(14,13),(16,13)] (zg [0,3,4] [t0,t3,t4]) w K
def kQ(t0 t3 w)(N1:JT)(K:KT):=nz f47 21 [N1] [nh 5 [3],(28,[],λs v j w f=>kP (s 0) (s 3) (s 4) w (f 0) K)] [] (zg [0,3] [t0,t3]) w K
def nO(t0 w)(K:KT):=nz f47 1 [] [(5,[3],λs v j w f=>kQ (s 0) (vg v 0) w (f 0) K)] [] (zg [0] [t0]) w K
theorem tU:nO t0 w k0->Calls ah 47 #[t0] w k0:=cz [(14,[])] [(2,[3])] func47
end
end Go.Proofs.YtlipjfcbjemicaaGreatDoor

namespace Go.Proofs.YtlipjfcbjemicaaGreatDoor
variable{A S:Nat->Prop}{K:VWP}{L:List Eng.Ent}{M N:Eng.Mem}{P:Program}{PK PK2:PKT}{T1 U:TypeId}{W w w0:ao}{a:Int}{args:Array aq}{b cap d f i j m sz:Nat}{cb:Array Bool}{cs news xs:List aq}{ds:List Deferred}{e:Eng.Ent}{k':IntKind}{key:List UInt8}{o:Ob}{q:Bool}{u:FrameMode}{v v2 vc vk vs:aq}{xo yo:Operand}{α:Type}{t0 t1:aq}{k0:Eng.KT}
section
namespace Eng
open Go.RowKit
section
variable {α:Type}{enc:α->List aq}{k:Nat}
theorem uJ (a:∀x,(enc x).length=k):∀l:List α,(l.flatMap enc).length=l.length*k
|[]=>by simp
|x::l=>by rw[aoR,amC,a,uJ a l,amW,aoM];omega
theorem L6 (a:∀x,(enc x).length=k):∀(l:List α) (j:Nat),(l.flatMap enc).drop (j*k)=(l.drop j).flatMap enc
|[],j=>by simp
|x::l,0=>by simp
|x::l,j+1=>by
  rw[aoR,asD,aoM,arX,aqK,a,aoF (by rw[a];omega),arQ,L6 a l j,anV]
theorem qK (a:∀x,(enc x).length=k){l:List α}(b:j < l.length)(h:(enc l[j])[i]?=ax v):(l.flatMap enc)[j*k+i]?=ax v:=by
 have c:((l.flatMap enc).drop (j*k))[i]?=ax v:=by
  rw[L6 a,anX b,aoR,aoL (amS.1 h).1];exact h
 rwa [apU] at c
theorem VQ (a:∀x,∀v∈enc x,v.oneCell'=av){l:List α}:∀v∈l.flatMap enc,v.oneCell'=true:=by
 intro v b;obtain⟨x,_,c⟩:=arR.1 b;exact a x v c
abbrev Ent.recs (T:TypeId)(enc:α->List aq)(k:Nat)(v:aq)(l:List α):Ent:=.urow T k v l.length (l.flatMap enc)
variable {S:Nat->Prop}{P:Program}{w w0:ao}{L:List Ent}{PK PK2:PKT}{K:VWP}
theorem rec_row (c:∀x,(enc x).length=k){T E:TypeId}(f:P.underlying T=ax (.slice E))(n:(P.info? E).map (·.size)=ax k)(o:aggN P E=ax k)(i:Nat){l:List α}(p:OwnS S w0 w L)(hi:L[i]?=ax (.recs E enc k v l))(q:j < l.length) :
  ∃g cap,v=.slice (ax ⟨g,0,aw⟩) l.length cap∧(∀w,(mIA T v (.int .i64 (j:Int))).run P w=.ok (.value (.pointer (ax ⟨g,j*k,aw⟩))) w) ∧
   (∀w',(Ent.recs E enc k v l).is w'->(aH E (.pointer (ax ⟨g,j*k,aw⟩))).run P w'=.ok (.value (.agg (enc l[j]).toArray)) w') ∧
   ∀w',(Ent.recs E enc k v l).is w'->∀m u,(enc l[j])[m]?=ax u->w'.cell? ⟨g,j*k+m,aw⟩=ax u:=by
 obtain⟨g,cap,rfl⟩:=mN (p.at_ i hi) om;have a:∀w',(Ent.recs E enc k (.slice (ax ⟨g,0,aw⟩) l.length cap) l).is w'->∀m u,(enc l[j])[m]?=ax u->w'.cell? ⟨g,j*k+m,aw⟩=ax u:=by
  intro w' h m u hm;obtain⟨b,off,d,e,r⟩:=bY (Sl.urow h) om;cases e;have:=r _ _ (qK c q hm)
  rwa [amO] at this
 refine⟨g,cap,rfl,λw=>?_,λw' h=>?_,a⟩
 ·refine (dX f n om om).trans ?_;rw[amK,amO]
 ·exact aW (AtV.agg o (c _) λm u hm=>a w' h m u hm)
end
end Eng
end
section
open Go
namespace Lx
open Oc
end Lx
namespace Tl
open Lx (Tok Pk skip)
open Ps (At Toks)
def eY:List Slt->List Slt->List (List Slt)
|cur,[]=>if cur=[] then [] else [cur]
|cur,x::l=>match cur.getLast? with
 |none=>eY [x] l
 |some y=>if y.num < x.num∧x.num - 1=y.num then eY (cur++[x]) l else cur::eY [x] l
def CU (l:List Slt):List (List Slt):=eY [] l
def first (g:List Slt):Int:=(g.head?.map (·.num)).getD 0
def run (g:List Slt):Int×Int:=(first g,(g.length:Int))
def runs (l:List Slt):List (Int×Int):=(CU l).map run
end Tl
end
section
open Go
namespace Tl
open Lx (Tok Pk skip next)
open Ps (At Toks)
def adC (l:List Slt):Prop:=l.Pairwise λa b=>a.num < b.num
theorem LJ:∀{l:List Slt} {last:Option Int},qS last l=0->(∀x∈l,okS x=0)∧adC l∧∀n,last=ax n->∀x∈l,n < x.num
|[],_,_=>⟨sm,List.Pairwise.nil,sm⟩
|x::l,last,h=>by
  rw[qS] at h;split at h
  ·rename_i c;exact absurd h c
  rename_i c
  split at h
  ·omega
  rename_i e
  split at h
  ·omega
  rename_i f
  obtain⟨i1,i2,i3⟩:=LJ h;have i3:=i3 x.num rfl;have a:∀n,last=ax n->n < x.num:=by
   intro n d;subst d;simp at e f;omega
  refine⟨λy b=>?_,apC.2 ⟨i3,i2⟩,λn d y b=>?_⟩
  ·rcases amH.1 b with rfl|b
   ·exact apJ.1 c
   ·exact i1 y b
  ·have g:=a n d;rcases amH.1 b with rfl|b
   ·exact g
   ·have:=i3 y b;omega
def IL:Int->List Slt->Prop
|_,[]=>True
|n,x::l=>x.num=n∧IL (n+1) l
theorem D2:∀{l:List Slt} {n:Int} {x:Slt},IL n (l++[x])↔IL n l∧x.num=n+l.length
|[],n,x=>by simp[IL]
|y::l,n,x=>by
  rw[apR,IL,D2,IL,amW];constructor
  ·rintro⟨a,b,c⟩;exact⟨⟨a,b⟩,om⟩
  ·rintro⟨⟨a,b⟩,c⟩;exact⟨a,b,om⟩
theorem Ja {l:List Slt}{n:Int}{y:Slt}(h:IL n l)(a:l.getLast?=ax y):y.num=n+l.length - 1:=by
 obtain⟨m,rfl⟩:∃m,l=m++[y]:=by
  have:=List.getLast?_eq_some_iff.1 a;exact this
 have:=(D2.1 h).2;simp;omega
def Grp (g:List Slt):Prop:=g≠[]∧IL (first g) g
theorem Ad:∀(l cur:List Slt),(cur=[]∨Grp cur)->(eY cur l).flatten=cur++l∧∀g∈eY cur l,Grp g
|[],cur,h=>by
  rw[eY];split
  ·rename_i c;subst c;simp
  ·rename_i c
   rcases h with h|h
   ·exact absurd h c
   ·simp[h]
|x::l,cur,h=>by
  rw[eY];have j:Grp [x]:=⟨sm,by simp[IL,first]⟩;cases i:cur.getLast? with
 |none=>
   have c:cur=[]:=asI.1 i;subst c;obtain⟨a,b⟩:=Ad l [x] (.inr j);simp only;exact⟨by rw[a];rfl,b⟩
 |some y=>
   have c:cur≠[]:=λe=>by rw[e] at i;cases i
   have d:Grp cur:=h.resolve_left c;simp only;split
   ·rename_i m
    have k:Grp (cur++[x]):=by
     refine⟨sm,?_⟩;have e:first (cur++[x])=first cur:=by
      cases cur with
     |nil=>exact absurd rfl c
     |cons _ _=>rfl
     rw[e];have:=Ja d.2 i;exact D2.2 ⟨d.2,om⟩
    obtain⟨a,b⟩:=Ad l (cur++[x]) (.inr k);exact⟨by rw[a];simp,b⟩
   ·obtain⟨a,b⟩:=Ad l [x] (.inr j);refine⟨by rw[atA,a];simp,λg f=>?_⟩;rcases amH.1 f with rfl|f
    ·exact d
    ·exact b g f
theorem xX (l:List Slt):(CU l).flatten=l∧∀g∈CU l,Grp g:=by
 have:=Ad l [] (.inl rfl);simpa[CU] using this
theorem Xc {g:List Slt}(h:Grp g):∃x∈g,x.num=first g+g.length - 1:=by
 obtain⟨b,c⟩:=h;cases a:g.getLast? with
|none=>exact absurd (asI.1 a) b
|some y=>exact⟨y,List.mem_of_getLast? a,Ja c a⟩
end Tl
end
section
open Eng Go.RowKit
theorem ZU (x:Slt):(slC x).length=4:=rfl
abbrev slsE (v:aq)(l:List Slt):Ent:=.recs 83 slC 4 v l
theorem elSl:elB ah 83 4 32=true:=krx
section
variable {w:ao}{PK:PKT}{K:VWP}{S:Nat->Prop}{w0:ao}{L:List Ent}
theorem aeG (x:Slt)(a:OwnS S w0 w L)(k:∀b w',OwnS S w0 w' (slE b x::L)->K (.slice (ax ⟨b,0,aw⟩) 1 1) w'):DoX ah (bN 61 1 #[(0,slV x)]) w PK K:=
 bA (λb=>.slice (ax ⟨b,0,aw⟩) 1 1) (slC x) 83 (λ_=>by kernel_rfl) a k
theorem agL (i:Nat){l:List Slt}{x:Slt}(a:OwnS S w0 w L)(hi:L[i]?=ax (slsE v l))(b:l.length<=1000000000)
  (k:∀v' w',OwnS S w0 w' (L.set i (slsE v' (l++[x])))->K v' w') :
  DoX ah (bN 61 1 #[(0,slV x)]) w PK λt w=>DoX ah (mB .append #[61,61] 61 cb #[v,t]) w PK2 K:=by
 refine aeG x a λnb c a=>?_;refine bR (i+1) apT elSl dc a (by rw[anM];exact hi) (a.sl 0 rfl 4 1 1 rfl) (Ve x) om om λv' w2 a=>k v' w2 ?_;have e:slsE v' (l++[x])=.urow 83 4 v' (l.length+1) (l.flatMap slC++slC x):=by
  rw[slsE,Ent.recs,amC,apL];simp
 rw[e];exact a.tail
end
end
end Go.Proofs.YtlipjfcbjemicaaGreatDoor

namespace Go.Proofs.YtlipjfcbjemicaaGreatDoor
variable{A S:Nat->Prop}{K:VWP}{L:List Eng.Ent}{M N:Eng.Mem}{P:Program}{PK PK2:PKT}{T1 U:TypeId}{W w w0:ao}{a:Int}{args:Array aq}{b cap d f i j m sz:Nat}{cb:Array Bool}{cs news xs:List aq}{ds:List Deferred}{e:Eng.Ent}{k':IntKind}{key:List UInt8}{o:Ob}{q:Bool}{u:FrameMode}{v v2 vc vk vs:aq}{xo yo:Operand}{α:Type}{t0 t1:aq}{k0:Eng.KT}
section
open Eng Go.RowKit
def Nd (x:Slt):Bool:=if x.kind=2 then ai (1<=x.a)&&ai (x.a<=8191)&&ai (0<=x.b)&&ai (x.b<=8191) else ai (0<=x.a)&&ai (x.a<=2147483647)&&ai (0<=x.b)&&ai (x.b<=65535)
theorem Us (x:Slt)(w:ao):Ret ah 167 #[slV x] w (λv w'=>v=.bool (Nd x)∧Below w.heap.size w w'):=by
 refine aZ λK m=>GA ?_;unfold E3 nz;refine alD x (Own.start w) λb c h=>?_;have j:∀{PK:PKT} {K:VWP},DoX ah (aH 3 (.pointer (ax ⟨b,0+1,aw⟩))) c PK K=K (.int .i64 x.kind) c:=aJ aU (h.cell 0 rfl 1 rfl);have k:∀{PK:PKT} {K:VWP},DoX ah (aH 3 (.pointer (ax ⟨b,0+2,aw⟩))) c PK K=K (.int .i64 x.a) c:=aJ aU (h.cell 0 rfl 2 rfl);have l:∀{PK:PKT} {K:VWP},DoX ah (aH 3 (.pointer (ax ⟨b,0+3,aw⟩))) c PK K=K (.int .i64 x.b) c:=aJ aU (h.cell 0 rfl 3 rfl);have fin:∀{q:Bool},q=Nd x->K (.returned (.bool q)) c:=λe=>m _ _ ⟨by rw[e],h.done⟩;unfold Nd at fin;by_cases i:x.kind=2
 ·rw[amB i] at fin;by_cases d:1<=x.a<;>by_cases f:x.a<=8191<;>by_cases g:0<=x.b
  all_goals
   simp only[rs,Hr,JD,JQ,j,k,l,i,amD,d,f,g,amF,g_un];exact fin (by simp[d,f,g])
 ·rw[amA i] at fin;by_cases d:0<=x.a<;>by_cases f:x.a<=2147483647<;>by_cases g:0<=x.b
  all_goals
   simp only[rs,Hr,JD,JQ,j,k,l,i,amD,d,f,g,amF,g_un];exact fin (by simp[d,f,g])
end
section
open Eng Go.RowKit
def secC (x:Sec)(vs vk vc:aq):List Value:=[.int .i64 x.at_,vs]++(obC x.trailer vk vc++[.int .i64 x.prev,.int .i64 x.hybrid,.int .i64 x.own])
def secV (x:Sec)(vs vk vc:aq):Value:=.agg (secC x vs vk vc).toArray
abbrev secE (b:Nat)(x:Sec)(vs vk vc:aq):Ent:=.cells b (secC x vs vk vc) 63
theorem VG:aggN ah 63=ax 11:=krx
theorem alP:(Tryz.prog.info? 63).map (·.size)=ax 11:=krx
theorem fse0:fOff ah 63 0=ax 0:=krx
theorem fse1:fOff ah 63 1=ax 1:=krx
theorem fse2:fOff ah 63 2=ax 2:=krx
theorem fse3:fOff ah 63 3=ax 8:=krx
theorem fse4:fOff ah 63 4=ax 9:=krx
theorem fse5:fOff ah 63 5=ax 10:=krx
theorem nSls:eD ah 61=true:=krx
theorem VV (x:Sec)(b:vs.oneCell'=av)(c:vk.oneCell'=av)(d:vc.oneCell'=av):∀v∈secC x vs vk vc,v.oneCell'=true:=by
 intro v a;simp only[secC,anF,amH,anW,or_false] at a;rcases a with (rfl|rfl)|a|rfl|rfl|rfl
 ·rfl
 ·exact b
 ·exact lI x.trailer c d v a
 ·rfl
 ·rfl
 ·rfl
section
variable {w:ao}{PK:PKT}{K:VWP}{S:Nat->Prop}{w0:ao}{L:List Ent}
theorem Yi :DoX ah (mFA 63 (.pointer (ax ⟨b,0,aw⟩)) 0) w PK K=K (.pointer (ax ⟨b,0,aw⟩)) w:=aO fse0
theorem C6 :DoX ah (mFA 63 (.pointer (ax ⟨b,0,aw⟩)) 1) w PK K=K (.pointer (ax ⟨b,1,aw⟩)) w:=aO fse1
theorem LQ :DoX ah (mFA 63 (.pointer (ax ⟨b,0,aw⟩)) 2) w PK K=K (.pointer (ax ⟨b,2,aw⟩)) w:=aO fse2
theorem JF :DoX ah (mFA 63 (.pointer (ax ⟨b,0,aw⟩)) 3) w PK K=K (.pointer (ax ⟨b,8,aw⟩)) w:=aO fse3
theorem YK :DoX ah (mFA 63 (.pointer (ax ⟨b,0,aw⟩)) 4) w PK K=K (.pointer (ax ⟨b,9,aw⟩)) w:=aO fse4
theorem Sj (a:OwnS S w0 w L)(k:∀b w',OwnS S w0 w' (secE b Tl.sec0 nilS nilS nilS::L)->K (.pointer (ax ⟨b,0,aw⟩)) w'):DoX ah (iH 63) w PK K:=
 bA (λb=>.pointer (ax ⟨b,0,aw⟩)) (secC Tl.sec0 nilS nilS nilS) 63 (λ_=>by kernel_rfl) a k
theorem Hu (i:Nat){x y:Sec}{vs' vk' vc':aq}(a:vs'.oneCell'=av)(c:vk'.oneCell'=av)(d:vc'.oneCell'=av)(e:OwnS S w0 w L)(hi:L[i]?=ax (secE b x vs vk vc))(k:∀w',OwnS S w0 w' (L.set i (secE b y vs' vk' vc'))->K undef w') :
  DoX ah (aN 63 (.pointer (ax ⟨b,0,aw⟩)) (secV y vs' vk' vc')) w PK K:=gX i e hi (new:=secC y vs' vk' vc') alP (VV y a c d) rfl k
theorem se_v (a:OwnS S w0 w L)(i:Nat){x:Sec}(hi:L[i]?=ax (secE b x vs vk vc)):DoX ah (aH 63 (.pointer (ax ⟨b,0,aw⟩))) w PK K=K (secV x vs vk vc) w:=l_at (a.agg i hi VG)
theorem Ll (a:OwnS S w0 w L)(i:Nat){x:Sec}(hi:L[i]?=ax (secE b x vs vk vc)):DoX ah (aH 61 (.pointer (ax ⟨b,1,aw⟩))) w PK K=K vs w:=aJ nSls (a.cell i hi 1 rfl)
theorem ajT:DoX ah (aS 63 #[]) w PK K=K (secV Tl.sec0 nilS nilS nilS) w:=aD krx
theorem Xq (x:Sec)(c:vs.oneCell'=av)(d:vk.oneCell'=av)(e:vc.oneCell'=av)(a:OwnS S w0 w L)(k:∀b w',OwnS S w0 w' (secE b x vs vk vc::L)->K (.pointer (ax ⟨b,0,aw⟩)) w'):DoX ah (mBox 63 (secV x vs vk vc)) w PK K:=
 bA (λb=>.pointer (ax ⟨b,0,aw⟩)) (secC x vs vk vc) 63 (λ_=>by kernel_rfl) a k
theorem aaO (a:OwnS S w0 w L)(i:Nat){x:Sec}(hi:L[i]?=ax (secE b x vs vk vc)):DoX ah (aH 25 (.pointer (ax ⟨b,2,aw⟩))) w PK K=K (obV x.trailer vk vc) w:=
 l_at (a.VN i hi 2 (obC x.trailer vk vc) rfl kY)
theorem YZ (a:OwnS S w0 w L)(i:Nat){x:Sec}(hi:L[i]?=ax (secE b x vs vk vc)):DoX ah (aH 3 (.pointer (ax ⟨b,2,aw⟩))) w PK K=K (.int .i64 x.trailer.k) w:=aJ aU (a.cell i hi 2 rfl)
end
def SecV (N:Mem)(v:aq)(x:Sec):Prop:=∃vs vk vc,v=secV x vs vk vc∧SlA N.A N.w vs 4 x.aG.length (x.aG.flatMap slC)∧OV N.A N.w (obV x.trailer vk vc) x.trailer
end
section
open Eng Go.RowKit
abbrev slsC (l:List Slt):List Value:=l.flatMap slC
theorem oR {l:List Slt}(a:SlA M.A M.w v 4 l.length (slsC l))(hi:i < l.length) :
  ∃(b off:Nat),∀W,M.has W->(mIA 61 v (.int .i64 (i:Int))).run ah W=.ok (.value (.pointer (ax ⟨b,off,aw⟩))) W∧∀j u,(slC l[i])[j]?=ax u->W.cell? ⟨b,off+j,aw⟩=ax u:=by
 obtain⟨b,off,cap,rfl,_⟩:=bY a.1 om;refine⟨b,off+i*4,λW c=>⟨?_,λj u d=>?_⟩⟩
 ·have:=dX (P:=ah) (T:=61) (b:=b) (off:=off) (cap:=cap) (n:=l.length) (k:=.i64) (i:=(i:Int)) (w:=W) apT szSl om om;rw[amK] at this;exact this
 ·have:=Sl.cellAt (a.now c) (i*4+j) u (Eng.qK ZU hi d)
  rwa [<-aoS] at this
theorem xC {off:Nat}{x:Slt}(h:∀j u,(slC x)[j]?=ax u->W.cell? ⟨b,off+j,aw⟩=ax u):(aH 83 (.pointer (ax ⟨b,off,aw⟩))).run ah W=.ok (.value (slV x)) W:=
 aW (AtV.agg aeT (cs:=slC x) rfl h)
theorem F2 {off:Nat}{x:Slt}(h:∀j u,(slC x)[j]?=ax u->W.cell? ⟨b,off+j,aw⟩=ax u):(aH 3 (.pointer (ax ⟨b,off,aw⟩))).run ah W=.ok (.value (.int .i64 x.num)) W:=
 aB aU (h 0 _ rfl)
namespace Tl
def Aq (l:List Slt):Nat->Option Int
|0=>aw
|i+1=>(l[i]?).map (·.num)
theorem Hv {l:List Slt}(hi:i < l.length):qS (Aq l i) (l.drop i)=if okS l[i]≠0 then okS l[i] else if (Aq l i).any (λn=>ai (l[i].num=n)) then 9 else if (Aq l i).any (λn=>ai (l[i].num < n)) then 1 else qS (Aq l (i+1)) (l.drop (i+1)):=by
 rw[anX hi,qS,Aq,amN hi];rfl
end Tl
theorem Wp (x:Slt):Tl.okS x=if x.num < 0∨8191 < x.num then 2 else if x.kind < 0∨2 < x.kind then 10 else if Nd x then 0 else 2:=by
 unfold Tl.okS Nd;by_cases c:x.num < 0∨8191 < x.num
 ·rw[amB c,amB c]
 by_cases e:x.kind < 0∨2 < x.kind
 ·rw[amA c,amB e,amA c,amB e]
 rw[amA c,amA e,amA c,amA e];by_cases f:x.kind=2
 ·rw[amB f,amB f];by_cases d:x.a < 1∨8191 < x.a∨x.b < 0∨8191 < x.b
  ·rw[amB d,amA (by simp;omega)]
  ·rw[amA d,amB (by simp;omega)]
 ·rw[amA f,amA f];by_cases d:x.a < 0∨2147483647 < x.a∨x.b < 0∨65535 < x.b
  ·rw[amB d,amA (by simp;omega)]
  ·rw[amA d,amB (by simp;omega)]
section
variable {S:Nat->Prop}{w w0:ao}{L:List Ent}
theorem Qi {l:List Slt}{x:Slt}(jx jm:Nat)(d:OwnS S w0 w L)(o:L[jx]?=ax (slE b x))(hm:L[jm]?=ax (.mem M))(p:SlA M.A M.w v 4 l.length (slsC l))(hi:i<=l.length)(a:l.length<=1000000000000){F:VWP}
  (h:∀W,OwnS S w0 W L->F (.bool ((Tl.Aq l i).any λn=>ai (x.num=n))) W) :
  QuietX w (λc=>
 QDo ah c (mBin .gtr 3 (.int .i64 (i:Int)) (.int .i64 0)) λt36=>
 GQ t36 av (λE=>QDo ah c (mFA 83 (.pointer (ax ⟨b,0,aw⟩)) 0) E) λt38=>
 GQ t36 av (λE=>QDo ah c (aH 3 t38) E) λt39=>
 GQ t36 av (λE=>E v) λt40=>
 GQ t36 av (λE=>E (.int .i64 (i:Int))) λt41=>
 GQ t36 av (λE=>QDo ah c (mBin .sub 3 t41 (.int .i64 1)) E) λt42=>
 GQ t36 av (λE=>QDo ah c (mIA 61 t40 t42) E) λt43=>
 GQ t36 av (λE=>QDo ah c (mFA 83 t43 0) E) λt44=>
 GQ t36 av (λE=>QDo ah c (aH 3 t44) E) λt45=>
 GQ t36 av (λE=>QDo ah c (mEq .eql 3 xo yo t39 t45) E) λt46=>
 QDo ah c (lC t36 t46 (.bool au)) λt47=>
 ∀w,c w->F t47 w):=by
 refine quiet ?_;rcases aoP i with k|k
 ·subst k;refine KD ?_;simp only[show ai ((0:Int) < ((0:Nat):Int))=au by decide,gq,HL];exact q_pf λW a=>h W (d.grow a)
 obtain⟨j,rfl⟩:∃j,i=j+1:=⟨i - 1,om⟩;have q:(0:Int) < ((j+1:Nat):Int):=om
 have f:IntKind.wrap .i64 (((j+1:Nat):Int) - 1)=(j:Int):=by rw[aA om om];omega
 obtain⟨g,off,m⟩:=oR p (i:=j) om;refine KD ?_;simp only[amG q,gq,HL];refine q_do _ (λ_=>bE fs0) ?_;refine q_at (.int .i64 x.num) (λ_ a=>aB aU ((d.grow a).cell jx o 0 rfl)) ?_;refine q_do (.int .i64 (j:Int)) (λ_=>by rw[sR,f]) ?_;refine q_at _ (λW a=>(m W ((d.grow a).hasM jm hm)).1) ?_;refine q_do _ (λ_=>bE fs0) ?_;refine q_at (.int .i64 l[j].num) (λW a=>F2 (m W ((d.grow a).hasM jm hm)).2) ?_;refine q_eq ?_;refine q_pt λW a=>?_;have e:Tl.Aq l (j+1)=ax l[j].num:=by rw[Tl.Aq,amN om];rfl
 have:=h W (d.grow a);rw[e] at this;exact this
theorem QX {l:List Slt}{x:Slt}(jx jm:Nat)(d:OwnS S w0 w L)(o:L[jx]?=ax (slE b x))(hm:L[jm]?=ax (.mem M))(p:SlA M.A M.w v 4 l.length (slsC l))(hi:i<=l.length)(a:l.length<=1000000000000){F:VWP}
  (h:∀W,OwnS S w0 W L->F (.bool ((Tl.Aq l i).any λn=>ai (x.num < n))) W) :
  QuietX w (λc=>
 QDo ah c (mBin .gtr 3 (.int .i64 (i:Int)) (.int .i64 0)) λt36=>
 GQ t36 av (λE=>QDo ah c (mFA 83 (.pointer (ax ⟨b,0,aw⟩)) 0) E) λt38=>
 GQ t36 av (λE=>QDo ah c (aH 3 t38) E) λt39=>
 GQ t36 av (λE=>E v) λt40=>
 GQ t36 av (λE=>E (.int .i64 (i:Int))) λt41=>
 GQ t36 av (λE=>QDo ah c (mBin .sub 3 t41 (.int .i64 1)) E) λt42=>
 GQ t36 av (λE=>QDo ah c (mIA 61 t40 t42) E) λt43=>
 GQ t36 av (λE=>QDo ah c (mFA 83 t43 0) E) λt44=>
 GQ t36 av (λE=>QDo ah c (aH 3 t44) E) λt45=>
 GQ t36 av (λE=>QDo ah c (mBin .lss 3 t39 t45) E) λt46=>
 QDo ah c (lC t36 t46 (.bool au)) λt47=>
 ∀w,c w->F t47 w):=by
 refine quiet ?_;rcases aoP i with k|k
 ·subst k;refine KD ?_;simp only[show ai ((0:Int) < ((0:Nat):Int))=au by decide,gq,HL];exact q_pf λW a=>h W (d.grow a)
 obtain⟨j,rfl⟩:∃j,i=j+1:=⟨i - 1,om⟩;have q:(0:Int) < ((j+1:Nat):Int):=om
 have f:IntKind.wrap .i64 (((j+1:Nat):Int) - 1)=(j:Int):=by rw[aA om om];omega
 obtain⟨g,off,m⟩:=oR p (i:=j) om;refine KD ?_;simp only[amG q,gq,HL];refine q_do _ (λ_=>bE fs0) ?_;refine q_at (.int .i64 x.num) (λ_ a=>aB aU ((d.grow a).cell jx o 0 rfl)) ?_;refine q_do (.int .i64 (j:Int)) (λ_=>by rw[sR,f]) ?_;refine q_at _ (λW a=>(m W ((d.grow a).hasM jm hm)).1) ?_;refine q_do _ (λ_=>bE fs0) ?_;refine q_at (.int .i64 l[j].num) (λW a=>F2 (m W ((d.grow a).hasM jm hm)).2) ?_;refine NO ?_;refine q_pt λW a=>?_;have e:Tl.Aq l (j+1)=ax l[j].num:=by rw[Tl.Aq,amN om];rfl
 have:=h W (d.grow a);rw[e] at this;exact this
end
 attribute [local congr] BU
theorem JN (l:List Slt)(v:aq)(M:Mem)(w:ao)(m:l.length<=1000000000000)(f:M.has w)(j:SlA M.A M.w v 4 l.length (slsC l)) :
  Ret ah 101 #[v] w (λr w'=>r=.int .i64 (Tl.check l)∧Below w.heap.size w w'):=by
 refine aZ λK n=>Fu ?_;unfold Cz nz;rw[bD apT (j.now f)];refine loop (λvs W=>∃i:Nat,vs=[.int .i64 i]∧i<=l.length∧Tl.check l=Tl.qS (Tl.Aq l i) (l.drop i)∧OwnS M.A w W [.mem M]) (λvs _=>l.length - n0 vs) ⟨0,rfl,om,rfl,OwnS.memS f⟩ ?_;rintro vs p ⟨i,rfl,hi,he,a⟩ _;simp only[zN,gd,rs,nz];by_cases d:(i:Int) < (l.length:Int)
 case neg=>
  simp only[amE d,i_f];rw[aoF om,Tl.qS] at he;exact n _ _ ⟨by rw[he],(a.Ec 0 rfl M.le_refl f).below⟩
 have c:i < l.length:=om
 simp only[amG d,i_t];rw[Tl.Hv c,Wp] at he;obtain⟨g,off,q⟩:=oR j c;obtain⟨s,t⟩:=q p (a.hasM 0 rfl);refine aD s |>.mpr (aD (xC t) |>.mpr ?_);refine Im a λk w2 a=>?_;refine Fe (y:=l[i]) 0 a rfl λw3 a=>?_;have a:OwnS M.A w w3 [slE k l[i],.mem M]:=a;have C:l[i]?=ax l[i]:=amN c;generalize u:l[i]=x at *;have z:∀{PK:PKT} {K:VWP},DoX ah (aH 3 (.pointer (ax ⟨k,0,aw⟩))) w3 PK K=K (.int .i64 x.num) w3:=aJ aU (a.cell 0 rfl 0 rfl);have B:∀{PK:PKT} {K:VWP},DoX ah (aH 3 (.pointer (ax ⟨k,0+1,aw⟩))) w3 PK K=K (.int .i64 x.kind) w3:=aJ aU (a.cell 0 rfl 1 rfl);have fin:∀{W:ao} {e:Int} {L:List Ent},OwnS M.A w W (L++([.mem M]++[]))->Tl.check l=e->K (.returned (.int .i64 e)) W:=by
  intro W e L a h;exact n _ _ ⟨by rw[h],(a.front.Ec 0 rfl M.le_refl f).below⟩
 simp +contextual only[rs,gs,UJ,z];rw[xZ];refine⟨λb=>fin (L:=[_]) a ?_,λb=>?_⟩
 ·simp only[apQ,anI] at b;rw[he,amB b];rfl
 have b:¬(x.num < 0∨8191 < x.num):=by simp only[asJ,apK] at b;omega
 rw[amA b] at he;simp +contextual only[rs,gs,Hr,B];rw[xZ];refine⟨λb=>fin (L:=[_]) a ?_,λb=>?_⟩
 ·simp only[apQ,anI] at b;rw[he,amB b];rfl
 have b:¬(x.kind < 0∨2 < x.kind):=by simp only[asJ,apK] at b;omega
 rw[amA b] at he;rw[sl_v a 0 rfl];refine aL a (R:=λv=>v=.bool (Nd x)) (Us x w3) ?_;rintro _ D rfl a;simp only[rs];cases o:Nd x with
|false=>
  rw[o] at he;simp only[aoD,i_t];exact fin (L:=[_]) a (by rw[he];rfl)
|true=>
 rw[o] at he;simp only[aoB,i_f];simp only[if_true,ne_eq,not_true,if_false] at he;refine Qi 0 1 a rfl rfl j hi m λE a=>?_;rw[xZ];refine⟨λb=>fin (L:=[_]) a (by rw[he,amB b]),λb=>?_⟩;rw[amA (by rw[b];simp)] at he;refine QX 0 1 a rfl rfl j hi m λF a=>?_;rw[xZ];refine⟨λb=>fin (L:=[_]) a (by rw[he,amB b]),λb=>?_⟩;rw[amA (by rw[b];simp)] at he;rw[aA om om];exact aY ⟨i+1,rfl,om,he,a.tail⟩ (by show l.length - Int.toNat ((i:Int)+1) < l.length - Int.toNat (i:Int);omega)
theorem MA (l:List Slt)(v:aq)(M:Mem)(w:ao)(s:l.length<=1000000000000)(p:M.has w)(m:SlA M.A M.w v 4 l.length (slsC l)) :
  Ret ah 47 #[v] w (λr w'=>r=.int .i64 (Tl.check l)∧Below w.heap.size w w'):=by
 refine aZ λK t=>tU ?_;unfold nO nz;refine loop (λvs W=>∃i:Nat,vs=[.int .i64 i]∧i<=l.length∧Tl.check l=Tl.qS (Tl.Aq l i) (l.drop i)∧OwnS M.A w W [.mem M]) (λvs _=>l.length - n0 vs) ⟨0,rfl,om,rfl,OwnS.memS p⟩ ?_;rintro vs C ⟨i,rfl,hi,he,d⟩ _;simp only[kQ,gd,nz];rw[bD apT (m.now (d.hasM 0 rfl))];simp only[rs];by_cases f:(i:Int) < (l.length:Int)
 case neg=>
  simp only[amE f,i_f];rw[aoF om,Tl.qS] at he;exact t _ _ ⟨by rw[he],(d.Ec 0 rfl M.le_refl p).below⟩
 have j:i < l.length:=om
 simp only[amG f,i_t];rw[Tl.Hv j,Tl.okS] at he;obtain⟨g,off,D⟩:=oR m j;obtain⟨E,F⟩:=D C (d.hasM 0 rfl);refine aD E |>.mpr (aD (xC F) |>.mpr ?_);refine Im d λk w2 d=>?_;refine Fe (y:=l[i]) 0 d rfl λw3 d=>?_;have d:OwnS M.A w w3 [slE k l[i],.mem M]:=d;generalize G:l[i]=x at *;have H:∀{PK:PKT} {K:VWP},DoX ah (aH 3 (.pointer (ax ⟨k,0,aw⟩))) w3 PK K=K (.int .i64 x.num) w3:=aJ aU (d.cell 0 rfl 0 rfl);have u:∀{PK:PKT} {K:VWP},DoX ah (aH 3 (.pointer (ax ⟨k,0+1,aw⟩))) w3 PK K=K (.int .i64 x.kind) w3:=aJ aU (d.cell 0 rfl 1 rfl);have z:∀{PK:PKT} {K:VWP},DoX ah (aH 3 (.pointer (ax ⟨k,0+2,aw⟩))) w3 PK K=K (.int .i64 x.a) w3:=aJ aU (d.cell 0 rfl 2 rfl);have B:∀{PK:PKT} {K:VWP},DoX ah (aH 3 (.pointer (ax ⟨k,0+3,aw⟩))) w3 PK K=K (.int .i64 x.b) w3:=aJ aU (d.cell 0 rfl 3 rfl);have fin:∀{W:ao} {e:Int} {L:List Ent},OwnS M.A w W (L++([.mem M]++[]))->Tl.check l=e->K (.returned (.int .i64 e)) W:=by
  intro W e L d h;exact t _ _ ⟨by rw[h],(d.front.Ec 0 rfl M.le_refl p).below⟩
 simp +contextual only[rs,gs,UJ,H];rw[xZ];refine⟨λc=>fin (L:=[_]) d ?_,λc=>?_⟩
 ·simp only[apQ,anI] at c;rw[he,amB c];rfl
 have c:¬(x.num < 0∨8191 < x.num):=by simp only[asJ,apK] at c;omega
 rw[amA c] at he;simp +contextual only[rs,gs,Hr,u];rw[xZ];refine⟨λc=>fin (L:=[_]) d ?_,λc=>?_⟩
 ·simp only[apQ,anI] at c;rw[he,amB c];rfl
 have c:¬(x.kind < 0∨2 < x.kind):=by simp only[asJ,apK] at c;omega
 rw[amA c] at he;refine join λJ I=>?_;have next:(Tl.check l=if (Tl.Aq l i).any (λn=>ai (x.num=n)) then 9 else if (Tl.Aq l i).any (λn=>ai (x.num < n)) then 1 else Tl.qS (Tl.Aq l (i+1)) (l.drop (i+1)))->J [] w3:=by
  intro he;refine I _ _ λ_=>?_;simp only[kP,nz];refine Qi 0 1 d rfl rfl m hi s λN d=>?_;rw[xZ];refine⟨λc=>fin (L:=[_]) d (by rw[he,amB c]),λc=>?_⟩;rw[amA (by rw[c];simp)] at he;refine QX 0 1 d rfl rfl m hi s λO d=>?_;rw[xZ];refine⟨λc=>fin (L:=[_]) d (by rw[he,amB c]),λc=>?_⟩;rw[amA (by rw[c];simp)] at he;simp only[rs];rw[aA om om];exact aY ⟨i+1,rfl,om,he,d.tail⟩ (by show l.length - Int.toNat ((i:Int)+1) < l.length - Int.toNat (i:Int);omega)
 try simp only[rs,Hr,u]
 by_cases o:x.kind=2
 ·rw[amB o] at he;simp only[amG o,i_t];simp +contextual only[rs,gs,JD,z,JQ,B];rw[xZ];refine⟨λc=>fin (L:=[_]) d ?_,λc=>next ?_⟩
  ·simp only[apQ,anI] at c;have q:x.a < 1∨8191 < x.a∨x.b < 0∨8191 < x.b:=om
   rw[amB q] at he;rw[he];rfl
  ·simp only[asJ,apK] at c;rw[amA om] at he;simpa using he
 ·rw[amA o] at he;simp only[amE o,i_f];simp +contextual only[rs,gs,JD,z,JQ,B];rw[xZ];refine⟨λc=>fin (L:=[_]) d ?_,λc=>next ?_⟩
  ·simp only[apQ,anI] at c;have q:x.a < 0∨2147483647 < x.a∨x.b < 0∨65535 < x.b:=om
   rw[amB q] at he;rw[he];rfl
  ·simp only[asJ,apK] at c;rw[amA om] at he;simpa using he
end
section
open Eng
def kH(t0 t1 t5 w)(N1:JT)(K:KT):=nz f48 43 [N1] [nh 9 [5]] [(6,9)] (zg [0,1,5] [t0,t1,t5]) w K
def nE(t0 t1 w)(K:KT):=nz f48 1 [] [(9,[5],λs v j w f=>kH (s 0) (s 1) (vg v 0) w (f 0) K)] [] (zg [0,1] [t0,t1]) w K
theorem uB:nE t0 t1 w k0->Calls ah 48 #[t0,t1] w k0:=cz [] [(4,[5])] func48
end
section
open Eng
def nP(w)(K:KT):=nz f32 1 [] [] [] (zg [] []) w K
theorem tL:nP w k0->Calls ah 32 #[] w k0:=cw func32
def nK(t0 w)(K:KT):=nz f37 1 [] [] [] (zg [0] [t0]) w K
theorem uA:nK t0 w k0->Calls ah 37 #[t0] w k0:=cw func37
def jE(t0 t1 w)(K:KT):=nz f9 1 [] [] [] (zg [0,1] [t0,t1]) w K
theorem oP:jE t0 t1 w k0->Calls ah 9 #[t0,t1] w k0:=cw func9
end
section
open Eng Go.RowKit
theorem E7 (a b:List Slt)(va p:aq)(M:Mem)(w:ao)(v:a.length<=1000000000)(k:M.has w)(m:SlA M.A M.w va 4 a.length (slsC a))(n:SlA M.A M.w p 4 b.length (slsC b)) :
  Ret ah 48 #[va,p] w (λr w'=>r=.bool (ai (a=b))∧Below w.heap.size w w'):=by
 refine aZ λK s=>uB ?_;unfold nE nz;rw[bD apT (m.now k),bD apT (n.now k)];simp only[rs];by_cases hlen:(a.length:Int)≠(b.length:Int)
 ·simp only[amG hlen,i_t];have d:a≠b:=λe=>hlen (by rw[e]);exact s _ _ ⟨by rw[amE d],Below.refl _ _⟩
 have hle:a.length=b.length:=om
 simp only[amE hlen,i_f];refine loop (λvs w'=>∃(i:Nat),vs=[.int .i64 i]∧i<=a.length∧a.take i=b.take i∧OwnS M.A w w' [.mem M]) (λvs _=>a.length - n0 vs) ⟨0,rfl,om,sm,OwnS.memS k⟩ ?_;rintro vs w2 ⟨i,rfl,hi,he,c⟩ _;simp only[kH,gd,nz];rw[bD apT (m.now (c.hasM 0 rfl))];simp only[rs];have fin:∀{W:ao} {q:Bool},OwnS M.A w W [.mem M]->ai (a=b)=q->K (.returned (.bool q)) W:=λc h=>s _ _ ⟨by rw[h],(c.Ec 0 rfl M.le_refl k).below⟩;by_cases f:(i:Int) < (a.length:Int)
 case neg=>
  simp only[amE f,i_f,g_un,rs];have o:a=b:=by
   rw[anJ om,anJ om] at he;exact he
  exact fin c (amG o)
 have t:i < a.length:=om
 have u:i < b.length:=om
 simp only[amG f,rs];rw[bD apT (n.now (c.hasM 0 rfl))];simp only[rs,amG (show (i:Int) < (b.length:Int) by omega),i_t];obtain⟨x,y,g⟩:=oR m t;obtain⟨z,B,j⟩:=oR n u;refine quiet ?_;refine q_at _ (λW hw=>(g W ((c.grow hw).hasM 0 rfl)).1) (q_at _ (λW hw=>xC (g W ((c.grow hw).hasM 0 rfl)).2) ?_);refine q_at _ (λW hw=>(j W ((c.grow hw).hasM 0 rfl)).1) (q_at _ (λW hw=>xC (j W ((c.grow hw).hasM 0 rfl)).2) ?_);refine q_do _ (λ_=>acE) ?_;intro w3 hw;have c:=c.grow hw;by_cases l:a[i]=b[i]
 ·simp only[l,amD,aoB,i_f,rs];rw[aA om om];refine aY ⟨i+1,rfl,om,?_,c⟩ (by show a.length - Int.toNat ((i:Int)+1) < a.length - Int.toNat (i:Int);omega);rw[anH t,anH u,he,l]
 ·simp only[l,amF,aoD,i_t];have d:a≠b:=λe=>l (by subst e;rfl);exact fin c (amE d)
theorem Oq (x:Sec)(vs vk vc:aq)(w:ao)(k:x.aG.length<=1000000000)(hw:x.trailer.wt<=1000000000){g:ao}(e:SlA A g vs 4 x.aG.length (slsC x.aG))(d:OV (InW w) w (obV x.trailer vk vc) x.trailer) :
  Ret ah 37 #[secV x vs vk vc] w (λr w'=>(∃b,r=.bool b∧(b=av->x.aG.length<=200))∧Below w.heap.size w w'):=by
 refine aZ λK f=>uA ?_;unfold nK nz;refine Xq x e.one d.oneK d.oneC (Own.start w) λb i c=>?_;rw[C6,Ll c 0 rfl];obtain⟨a,cap,rfl,_⟩:=e.form;rw[bQ apT];simp only[rs];by_cases h:(x.aG.length:Int)<=200
 case neg=>
  simp only[amE h,rs,g_un];exact f _ _ ⟨⟨au,rfl,λh=>by cases h⟩,c.done⟩
 simp only[amG h,rs];rw[LQ,aaO c 0 rfl];obtain⟨cs,j⟩:=d.slices;refine GO (SH x.trailer.wt x.trailer _ i (amJ _) (j.in_ c).ov om) rfl c λw2 c=>?_;simp only[rs];exact f _ _ ⟨⟨_,rfl,λ_=>by omega⟩,c.done⟩
end
section
open Eng
def vV(t25 w)(N1:JT)(K:KT):=nz f168 983 [N1] [nh 11 [25]] [] (zg [25] [t25]) w K
def iR(t1 t2 t3 t23 t24 t25 w)(N1:JT)(K:KT):=nz f168 87 [N1] [nh 11 [25],(22,[],λs v j w f=>vV (s 25) w (f 0) K)] [] (zg [1,2,3,23,24,25] [t1,t2,t3,t23,t24,t25]) w K
def AH(t0 w)(K:KT):=nz f168 1 [] [(11,[25],λs v j w f=>iR (s 1) (s 2) (s 3) (s 23) (s 24) (vg v 0) w (f 0) K)] [] (zg [0] [t0]) w K
theorem Ej:AH t0 w k0->Calls ah 168 #[t0] w k0:=cz [(11,[])] [(5,[25])] func168
end
end Go.Proofs.YtlipjfcbjemicaaGreatDoor



namespace Go.Proofs.YtlipjfcbjemicaaGreatDoor
variable{A S:Nat->Prop}{K:VWP}{L:List Eng.Ent}{M N:Eng.Mem}{P:Program}{PK PK2:PKT}{T1 U:TypeId}{W w w0:ao}{a:Int}{args:Array aq}{b cap d f i j m sz:Nat}{cb:Array Bool}{cs news xs:List aq}{ds:List Deferred}{e:Eng.Ent}{k':IntKind}{key:List UInt8}{o:Ob}{q:Bool}{u:FrameMode}{v v2 vc vk vs:aq}{xo yo:Operand}{α:Type}{t0 t1:aq}{k0:Eng.KT}
section
open Go
namespace Vl
def lk (k:List UInt8):List (List UInt8)->List Ob->Option Ob
|a::b,c::cs=>if a=k then ax c else lk k b cs
|_,_=>aw
theorem Xo (k:List UInt8):∀(b:List (List UInt8)) (cs:List Ob),(if b.idxOf k < b.length then cs[b.idxOf k]? else aw)=lk k b cs
|[],cs=>by simp[lk]
|a::b,[]=>by simp[lk]
|a::b,c::cs=>by
  rw[lk,<-Xo k b cs,List.idxOf_cons];by_cases h:a=k
  ·subst h;simp
  ·have d:(a==k)=false:=by simpa using h
   simp[d,h]
theorem UF {k:List UInt8}:∀{e:List (List UInt8)} {cs:List Ob} (b:List (List UInt8)) (d:List Ob),e.length=cs.length->lk k (e++b) (cs++d)=(lk k e cs).or (lk k b d)
|[],[],_,_,_=>by simp[lk]
|[],c::cs,_,_,h=>by simp at h
|a::e,[],_,_,h=>by simp at h
|a::e,c::cs,b,d,h=>by
  rw[apR,apR,lk,lk,UF b d (by simpa using h)];split<;>rfl
theorem Ah {k:List UInt8}{v:Ob}(e:o.keys.length=o.kids.length)(a:key≠k):get (put o key v) k=get o k:=by
 unfold get;rw[show keyed (put o key v)=keyed o from rfl,Xo,Xo]
 congr 1
 have hp:=Ae o.keys key;rw[show (put o key v).keys=o.keys.take (place o.keys key)++key::o.keys.drop (place o.keys key+if hit o.keys key then 1 else 0) from rfl,
  show (put o key v).kids=o.kids.take (place o.keys key)++v::o.kids.drop (place o.keys key+if hit o.keys key then 1 else 0) from rfl,
  UF _ _ (by rw[amL,amL];omega),lk,amA a]
 conv=>rhs;rw[<-anR (place o.keys key) o.keys,<-anR (place o.keys key) o.kids,UF _ _ (by rw[amL,amL];omega)]
 congr 1
 by_cases b:hit o.keys key=av
 ·rw[amB b];have c:o.keys[place o.keys key]?=ax key:=by simpa[hit] using b
  obtain⟨d,c⟩:=amS.1 c;rw[anX (i:=place o.keys key) d,anX (i:=place o.keys key) (l:=o.kids) om,lk,amA (by rw[c];exact a)]
 ·rw[amA b];rfl
end Vl
namespace Dk
end Dk
namespace Pg
section
variable {d:Dc}{j:It}{o o':Ob}
end
end Pg
end
end Go.Proofs.YtlipjfcbjemicaaGreatDoor





namespace Go.Proofs.YtlipjfcbjemicaaGreatDoor
variable{A S:Nat->Prop}{K:VWP}{L:List Eng.Ent}{M N:Eng.Mem}{P:Program}{PK PK2:PKT}{T1 U:TypeId}{W w w0:ao}{a:Int}{args:Array aq}{b cap d f i j m sz:Nat}{cb:Array Bool}{cs news xs:List aq}{ds:List Deferred}{e:Eng.Ent}{k':IntKind}{key:List UInt8}{o:Ob}{q:Bool}{u:FrameMode}{v v2 vc vk vs:aq}{xo yo:Operand}{α:Type}{t0 t1:aq}{k0:Eng.KT}
section
open Eng Go.RowKit
theorem wN {T2:TypeId}{k:IntKind}{b:Int}:DoX P (mB .max #[T1,T2] U cb #[.int k a,.int k' b]) w PK K=K (.int k (max a b)) w:=by
 refine aD ?_;have e:(if a < b then b else a)=max a b:=by split<;>omega
 simp[mB,builtin,Builtin.max_,Builtin.max2,e]
section
variable {w:ao}{PK:PKT}{K:VWP}{S:Nat->Prop}{w0:ao}{L:List Ent}
theorem bG {off:Nat}:DoX ah (mNil (.pointer (ax ⟨b,off,aw⟩))) w PK K=K (.pointer (ax ⟨b,off,aw⟩)) w:=aD rfl
end
end
section
open Go
namespace Fl
def bit (s:List UInt8)(p:Nat):Nat:=(s.getD (p / 8) 0).toNat / 2 ^ (p % 8) % 2
theorem VF (s:List UInt8)(p:Nat):bit s p < 2:=apO _ dc
def num (s:List UInt8)(p:Nat):Nat->Nat
|0=>0
|n+1=>num s p n+bit s (p+n)*2 ^ n
theorem xV (s:List UInt8)(p:Nat):∀n,num s p n < 2 ^ n
|0=>by rw[num];decide
|n+1=>by
  have a:=xV s p n;have b:=VF s (p+n);rw[num,aoN];rcases (by omega:bit s (p+n)=0∨bit s (p+n)=1) with h|h<;>rw[h]<;>omega
def gC (lens:List Nat):Nat->Nat
|0=>0
|l+1=>gC lens l+lens.count (l+1)*2 ^ (15 - (l+1))
def bC (lens:List Nat):Nat->Nat
|0=>0
|l+1=>bC lens l+lens.count (l+1)
def check (lens:List Nat):Int:=if gC lens 15=32768∨bC lens 15=0∨(bC lens 15=1∧lens.count 1=1) then 0 else 13
def first (lens:List Nat):Nat->Nat
|0=>0
|1=>0
|l+2=>2*(first lens (l+1)+lens.count (l+1))
theorem Pu {lens:List Nat}:∀l,gC lens l<=l*(lens.length*32768)
|0=>by simp[gC]
|l+1=>by
  have a:=Pu (lens:=lens) l;have b:lens.count (l+1)*2 ^ (15 - (l+1))<=lens.length*32768:=apM arF (by
   have:2 ^ (15 - (l+1))<=2 ^ 15:=aoH dc om;simpa using this)
  rw[gC,aoM];omega
theorem HC {lens:List Nat}:∀l,bC lens l<=l*lens.length
|0=>by simp[bC]
|l+1=>by
  have a:=HC (lens:=lens) l;have b:lens.count (l+1)<=lens.length:=arF;rw[bC,aoM];omega
theorem Kl {lens:List Nat}:∀l,first lens l<=4 ^ l*lens.length
|0=>by simp[first]
|1=>by simp[first]
|l+2=>by
  have b:=Kl (lens:=lens) (l+1);have c:lens.count (l+1)<=lens.length:=arF;have a:4 ^ (l+2)*lens.length=4*(4 ^ (l+1)*lens.length):=by rw[aoN 4 (l+1),aoY (4 ^ (l+1)) 4,arG]
  have d:1*lens.length<=4 ^ (l+1)*lens.length:=anY _ (Nat.one_le_pow _ _ dc);rw[first,a];omega
end Fl
end
end Go.Proofs.YtlipjfcbjemicaaGreatDoor
