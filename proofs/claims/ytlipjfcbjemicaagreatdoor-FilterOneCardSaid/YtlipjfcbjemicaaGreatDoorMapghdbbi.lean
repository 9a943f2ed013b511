/- Texts that go together: ObG ObH ObI MkA SMake5 Plain07 SRef07 SRef04 PlR PlS Plain03 Plain03B Plain03C Plain03D Plain03E Plain04B Plain03F Plain03G Plain17 Plain17B Plain55 SOct LxA SLex LxB LxC LxD LxE LxF LxG LxH LxI SRef03 LxR SHead SRef17 HdA LxS LxT LxU LxV LxW LxX LxY LxZ LxAA LxAB LxAC SLaw04 PlT LxAD SLaw03 LxAE HdB HdC SLaw17 HdD SRef55 ScA ObJ MkB SWrite ObK ObL ObM ObN ObO MkC Plain05C MkD MkE MkF Plain05D MkG Plain19 KdA DcA SDocs SRef19 DcB DcC SSlcI SlcI DcD DcE DcF Plain19B DcG DcH SLaw07 ObP ObQ ObR STexts OcTx SSame SApart Plain07B Plain07C ObS0 ObT DcI Plain38 SLabel SRef38 SCut LbA LbB LbC LbD LbE LbF Plain38B Plain38C Plain38D Plain38E Plain35 Plain35B Plain35C Plain38F Plain38G Plain35D SPages SNumB PgA Plain16 SBit InfA SInfl InfB SCode. -/
import Derived.Test.YtlipjfcbjemicaaGreatDoorRows
import Derived.Lib.IndexMore
import Derived.Lib.LastIndexLaws
import Derived.Lib.SmallJoins
import Derived.Lib.Overlaps
import Derived.Laws.Externs
import Derived.Lib.Repeat
import Derived.Lib.Case
import Derived.Test.YtlipjfcbjemicaaGreatDoorMpndboked
set_option linter.defProp false
set_option linter.unusedSimpArgs false
set_option linter.unusedVariables false
set_option maxRecDepth 20000
open Go.Proofs.Tryz
open Go.Proofs.Tryz renaming prog->ah
open Option renaming some->aw,none->av
open Bool renaming true->au,false->aq
open Go renaming Value->ao,World->ak
open Decidable renaming decide->ai
namespace Go.Proofs.YtlipjfcbjemicaaGreatDoor
variable{A S:Nat->Prop}{K:VWP}{L:List Eng.Ent}{M N:Eng.Mem}{P:Program}{PK PK2:PKT}{T1 T2 U:TypeId}{W w w0:ak}{a e way:Int}{args:Array ao}{b cap d f i j p sz:Nat}{cb:Array Bool}{cs xs:List ao}{ds:List Deferred}{k':IntKind}{key:List UInt8}{o:Ob}{q:Bool}{u:FrameMode}{v vc vk:ao}{xo yo:Operand}{α β:Type}{t0 t1 t2:ao}{k0:Eng.KT}
section
open Eng Go.RowKit
 attribute [local congr] Ca
theorem tE (n a b:Int)(w:ak):Ret ah 254 #[.int .i64 n,.int .i64 a,.int .i64 b] w (λv w'=>v=.bool (ai (a<=n)&&ai (n<=b))∧w=w'):=by
 refine aK λK hK=>yZ ?_;unfold qI nz;simp +contextual only[rs,gs];exact hK _ _ ⟨rfl,rfl⟩
theorem QW (n a b:Int)(w:ak):Ret ah 255 #[.int .i64 n,.int .i64 a,.int .i64 b] w (λv w'=>v=.bool (ai (a<=n)&&ai (n<=b))∧w=w'):=by
 refine aK λK hK=>BH ?_;unfold tM nz;simp +contextual only[rs,gs];exact hK _ _ ⟨rfl,rfl⟩
theorem Wo {p:UInt8->Bool}:∀(s:List UInt8),s.takeWhile p=s->∀x∈s,p x=au
|[],_,x,hx=>by cases hx
|a::s,h,x,hx=>by
  rw[awD] at h;split at h
  ·rename_i ha
   injection h with _ h
   rcases aoM.1 hx with rfl|hx
   ·exact ha
   ·exact Wo s h x hx
  ·cases h
theorem U1 {p:UInt8->Bool}:∀(s:List UInt8) {a:UInt8} {t:List UInt8},s.dropWhile p=a::t->p a=aq
|[],_,_,h=>by cases h
|b::s,a,t,h=>by
  rw[List.dropWhile_cons] at h;split at h
  ·exact U1 s h
  ·rename_i hb
   injection h with h _
   subst h;simpa using hb
theorem Rs (s:List UInt8)(w:ak):Ret ah 215 #[.string ⟨s.toArray⟩] w (λv w'=>v=.bool (Vl.name s)∧w=w'):=by
 refine aK λK hK=>K3 ?_;unfold Jy nz;rw[cL aoD,Yg];by_cases h:(s.length:Int)<=127
 ·have hi:∀{K':VWP},K' (.int .i64 (Lib.indexByte s 0)) w->CallX ah 224 #[.string ⟨s.toArray⟩,.int .u8 0] w (pk K) K':=λhk=>c_eq (F2 s 0 w) hk;simp only[h,aoA,rs];refine hi ?_;simp only[rs];refine hK _ _ ⟨?_,rfl⟩;rw[Vl.name,anZ (show s.length<=127 by omega),Bool.true_and]
  congr 1
  rw[decide_eq_decide];rcases RY 0 s with ⟨h1,h2,h3⟩|⟨i,h1,hil,h3,h4⟩
  ·rw[h1];refine⟨λ_ hm=>?_,λ_=>by decide⟩;have:=Wo s h2 0 hm;simp at this
  ·rw[h1];refine⟨λh=>by omega,λhm=>absurd ?_ hm⟩;have hd:s.drop i=s[i]::s.drop (i+1):=apV hil;have h0:s[i]=0:=by
    have:=U1 s (h4.trans hd);simpa using this
   exact h0▸aoR hil
 ·simp only[h,aoB,rs,g_un];refine hK _ _ ⟨?_,rfl⟩;rw[Vl.name,anY (show ¬s.length<=127 by omega)];rfl
theorem QV (o:Ob)(v:ao)(w:ak)(h:OV (InW w) w v o)(hb:o.keys.length<=9223372036854775807) :
  Ret ah 216 #[v] w (λv w'=>v=.bool (Vl.rising o)∧Below w.heap.size w w'):=by
 obtain⟨vk,vc,cs,rfl,ha⟩:=h.open;refine aK λK hK=>G3 ?_;unfold DG nz;refine mW o ha.keys.one ha.kids.one (Own.start w) λb w1 ho=>?_;have lk:∀{W:ak} {L:List Ent},Own w W L->∀{PK:PKT} {K:VWP},DoX ah (mB .len #[22] 3 #[aq] #[vk]) W PK K=K (.int .i64 (o.keys.length:Int)) W:=λho=>bB aoT (ha.own ho).keys.1;have lc:∀{W:ak} {L:List Ent},Own w W L->∀{PK:PKT} {K:VWP},DoX ah (mB .len #[23] 3 #[aq] #[vc]) W PK K=K (.int .i64 (o.kids.length:Int)) W:=λho=>bB aoW (ha.own ho).kids.1;simp only[rs,FR,yC,vD ho 0 rfl,gT ho 0 rfl,lk ho,lc ho];by_cases hlen:(o.keys.length:Int)≠(o.kids.length:Int)
 ·simp only[anZ hlen,i_t];refine hK _ _ ⟨?_,ho.done⟩;have:¬o.keys.length=o.kids.length:=λe=>hlen (by rw[e]);simp[Vl.rising,this]
 have hle:o.keys.length=o.kids.length:=om
 simp only[anY hlen,i_f];have hR:Vl.rising o=(List.range o.keys.length).all (Vl.JX o):=by simp[Vl.rising,hle]
 rw[hR] at hK;refine loop (λvs w'=>∃(i:Nat),vs=[.int .i64 i]∧i<=o.keys.length∧(List.range i).all (Vl.JX o)=au∧Own w w' [obE b o vk vc]) (λvs _=>o.keys.length - n0 vs) ⟨0,rfl,om,sm,ho⟩ ?_;rintro vs w2 ⟨i,rfl,hi,hall,ho⟩ _;simp only[zZ,gd,rs,nz];by_cases hlt:(i:Int) < (o.keys.length:Int)
 ·have hi':i < o.keys.length:=om
  simp only[hlt,aoA,i_t];have ho2:=ha.own ho;refine O6 (.string ⟨(o.keys[i]).toArray⟩) aoT krx ho2.keys.1 om (by rw[aoF];exact jW hi') λq hq=>?_;rw[aS X2 hq];refine c_eq (Rs o.keys[i] w2) ?_;obtain⟨kb,koff,hia,hkc⟩:=We ho2.kids.1 ho2.all (show i < o.kids.length by omega);have hlk:∀{PK:PKT} {K:VWP},DoX ah (aJ 3 (.pointer (aw ⟨kb,koff,av⟩))) w2 PK K=K (.int .i64 o.kids[i].k) w2:=aS bP hkc;have hprev:ai (0 < (i:Int))=au->∃(b' off':Nat),(∀{PK:PKT} {K:VWP},DoX ah (mIA 22 vk (.int .i64 (IntKind.wrap .i64 ((i:Int) - 1)))) w2 PK K=K (.pointer (aw ⟨b',off',av⟩)) w2) ∧
    (∀{PK:PKT} {K:VWP},DoX ah (aJ 9 (.pointer (aw ⟨b',off',av⟩))) w2 PK K=K (.string ⟨(o.keys.getD (i - 1) []).toArray⟩) w2):=by
   intro h;have h:=aoU h;have hj:i - 1 < o.keys.length:=om
   obtain⟨b',off',cap',rfl,hc'⟩:=bY ho2.keys.1 (show 0 < o.keys.length by omega);refine⟨b',off'+(i - 1),?_,?_⟩
   ·intro PK K;rw[aA om om];refine aC ?_;rw[dZ aoT (show _=aw 1 by kernel_rfl) om om,show ((i:Int) - 1).toNat*1=i - 1 by omega]
   ·intro PK K;rw[aoE,aoI hj];exact aS X2 (hc' _ _ (jW hj))
  have hgi:o.keys.getD i []=o.keys[i]:=by rw[aoE,aoI hi'];rfl
  have hgk:o.kids.getD i (.mk 0 0 0 [] [] [])=o.kids[i]'(om):=by rw[aoE,aoI om];rfl
  have tail:∀(q:Bool) (N:Prop),q=!(Vl.JX o i)->(Vl.JX o i=au->N)->IfX (.bool q) (K (.returned (.bool aq)) w2) N:=by
   intro q N hq hN;cases hk:Vl.JX o i with
  |false=>
    rw[hk] at hq;subst hq;rw[show (!aq)=au from rfl,i_t];exact hK _ _ ⟨by rw[M7 hk hi'],ho.done⟩
  |true=>
    rw[hk] at hq;subst hq;rw[show (!au)=aq from rfl,i_f];exact hN hk
  have hki:Vl.JX o i=(Vl.name o.keys[i]&&(ai (i=0)||Vl.less (o.keys.getD (i - 1) []) o.keys[i])&&!(ai (o.k=9)&&ai (o.keys[i]=Vl.lenK))&&ai ((o.kids[i]'(om)).k≠0)):=by
   rw[Vl.JX,hgi,hgk]
  by_cases hi0:i=0
  ·have hz:ai (0 < (i:Int))=false:=by rw[aqE];omega
   simp +contextual only[rs,gs,hz,Qj,abP,MB,Bool.and_false,Bool.not_not,avG,oL,yC,ob_k ho 0 rfl,gT ho 0 rfl,hia,hlk,g_un,p_f];refine tail _ _ ?_ λhk=>?_
   ·rw[hki,anZ hi0];simp only[Bool.true_or,Bool.and_true,Vl.lenK,ne_eq,decide_not];generalize Vl.name o.keys[i]=a;generalize ai (o.k=9)=c;generalize ai ((o.kids[i]'(om)).k=0)=d;by_cases hL:o.keys[i]=[76,101,110,103,116,104]<;>simp only[hL,aoA,aoB]<;>cases a<;>cases c<;>cases d<;>rfl
   ·rw[aA om om];exact aQ ⟨i+1,rfl,om,by rw[DC,hall,hk];rfl,ho⟩ (by simp[n0,RowKit.intOf];omega)
  ·have hz:ai (0 < (i:Int))=true:=by rw[decide_eq_true_iff];omega
   obtain⟨b',off',hpa,hpl⟩:=hprev hz;simp +contextual only[rs,gs,hz,Qj,abP,MB,Bool.and_false,Bool.not_not,avG,oL,FR,yC,ob_k ho 0 rfl,vD ho 0 rfl,gT ho 0 rfl,hia,hlk,hpa,hpl,g_un];refine tail _ _ ?_ λhk=>?_
   ·rw[hki,anY hi0];simp only[Bool.false_or,Vl.lenK,ne_eq,decide_not];generalize Vl.name o.keys[i]=a;generalize ai (o.k=9)=c;generalize ai ((o.kids[i]'(om)).k=0)=d;show _=!(_&&Op.bytesLess (o.keys.getD (i - 1) []) o.keys[i]&&_&&_);generalize Op.bytesLess (o.keys.getD (i - 1) []) o.keys[i]=e;by_cases hL:o.keys[i]=[76,101,110,103,116,104]<;>simp only[hL,aoA,aoB]<;>cases a<;>cases c<;>cases d<;>cases e<;>rfl
   ·rw[aA om om];exact aQ ⟨i+1,rfl,om,by rw[DC,hall,hk];rfl,ho⟩ (by simp[n0,RowKit.intOf];omega)
 ·simp only[hlt,aoB,i_f];refine hK _ _ ⟨?_,ho.done⟩;rw[show o.keys.length=i by omega,hall]
theorem UB (o:Ob)(v:ao)(w:ak)(h:OV (InW w) w v o):Ret ah 213 #[v] w (λv w'=>v=.bool (Vl.fits o)∧Below w.heap.size w w'):=by
 obtain⟨vk,vc,cs,rfl,ha⟩:=h.open;refine aK λK hK=>JK ?_;unfold HA nz;refine mW o ha.keys.one ha.kids.one (Own.start w) λb w1 ho=>?_;simp only[oL,ob_k ho 0 rfl,rs];by_cases k1:o.k=1
 ·simp only[k1,aoA,i_t,PI,ob_n ho 0 rfl];refine c_eq (tE _ _ _ w1) (hK _ _ ⟨?_,ho.done⟩);rw[Vl.fits,anX k1,auQ]
 by_cases k2:o.k=2
 ·simp only[k2,Int.reduceEq,aoA,aoB,i_t,i_f,PI,ob_n ho 0 rfl];refine c_eq (tE _ _ _ w1) (hK _ _ ⟨?_,ho.done⟩);rw[Vl.fits,anW k1,anX k2,auQ]
 by_cases k3:o.k=3
 ·simp only[k3,Int.reduceEq,aoA,aoB,i_t,i_f,PI,ob_n ho 0 rfl];refine c_eq (tE _ _ _ w1) (hK _ _ ⟨?_,ho.done⟩);rw[Vl.fits,anW k1,anW k2,anX k3,auQ]
 by_cases k8:o.k=8
 ·simp only[k8,Int.reduceEq,aoA,aoB,i_t,i_f,PI,ob_n ho 0 rfl];refine c_eq (tE _ _ _ w1) ?_;have hf:Vl.fits o=(ai (1<=o.n)&&ai (o.n<=8191)&&(ai (0<=o.g)&&ai (o.g<=65535))):=by
   rw[Vl.fits,anW k1,anW k2,anW k3,anX k8,auQ,auQ]
  rw[hf] at hK;cases hc:(ai (1<=o.n)&&ai (o.n<=8191)) with
 |false=>
   rw[hc] at hK;rw[g_ft,g_ft,g_ft,p_f];exact hK _ _ ⟨rfl,ho.done⟩
 |true=>
   rw[hc] at hK;rw[g_tt,aiY,g_tt,ob_g ho 0 rfl,g_tt];refine c_eq (QW _ _ _ w1) ?_;rw[p_t];exact hK _ _ ⟨rfl,ho.done⟩
 simp only[k1,k2,k3,k8,aoB,i_f];refine hK _ _ ⟨?_,ho.done⟩;rw[Vl.fits,anW k1,anW k2,anW k3,anW k8]
def LZ (o:Ob):Bool:=if o.k=4 then ai (o.s.length<=32767) else if o.k=5 then ai (o.s.length<=127) else ai (o.s.length<=1048576)
theorem Tq (o:Ob)(v:ao)(w:ak)(h:OV (InW w) w v o):Ret ah 214 #[v] w (λv w'=>v=.bool (LZ o)∧Below w.heap.size w w'):=by
 obtain⟨vk,vc,cs,rfl,ha⟩:=h.open;refine aK λK hK=>HP ?_;unfold E8 nz;refine mW o ha.keys.one ha.kids.one (Own.start w) λb w1 ho=>?_;simp only[oL,ob_k ho 0 rfl,rs];have hi:∀m:Nat,ai ((o.s.length:Int)<=(m:Int))=ai (o.s.length<=m):=λm=>by rw[decide_eq_decide];omega
 by_cases k4:o.k=4
 ·simp only[k4,aoA,i_t,NB,ob_s ho 0 rfl,cL aoD,rs];refine hK _ _ ⟨?_,ho.done⟩;rw[LZ,anX k4,<-hi];rfl
 by_cases k5:o.k=5
 ·simp only[k5,Int.reduceEq,aoA,aoB,i_t,i_f,NB,ob_s ho 0 rfl,cL aoD,rs];refine hK _ _ ⟨?_,ho.done⟩;rw[LZ,anW k4,anX k5,<-hi];rfl
 simp only[k4,k5,aoB,i_f,NB,ob_s ho 0 rfl,cL aoD,rs];refine hK _ _ ⟨?_,ho.done⟩;rw[LZ,anW k4,anW k5,<-hi];rfl
theorem Ty (h:Vl.xF o=au):LZ o=!ai (Vl.long o.k < o.s.length):=by
 have key:∀m:Nat,ai (o.s.length<=m)=!ai (m < o.s.length):=λm=>by
  rw[Bool.eq_iff_iff];simp
 unfold LZ Vl.long;by_cases k4:o.k=4
 ·rw[anX k4,anW om,anW om,key]
 by_cases k5:o.k=5
 ·rw[anW k4,anX k5,anX k5,key]
 by_cases k9:o.k=9
 ·rw[anW k4,anW k5,anW k5,anX k9,key]
 have hs:o.s=[]:=by
  unfold Vl.xF Vl.used at h
  revert h
  split
  ·intro h;cases h
  ·rename_i n g s ks cs he
   intro h;simp only[aoY,atD,apY] at h;have hsf:s=false:=by
    revert he
    repeat' split
    all_goals (intro he;first|(cases he;done)|skip)
    all_goals (simp only[arV,asA] at he;first|exact he.2.2.1.symm|omega)
   rcases h.1.1.2 with h1|h1
   ·rw[hsf] at h1;cases h1
   ·exact h1
 rw[anW k4,anW k5,anW k5,anW k9,hs];rfl
end
section
open Eng Go.RowKit
 attribute [local congr] Ca
def uC (u:Bool×Bool×Bool×Bool×Bool):List Value:=[.bool u.1,.bool u.2.1,.bool u.2.2.1,.bool u.2.2.2.1,.bool u.2.2.2.2]
def uV (u:Bool×Bool×Bool×Bool×Bool):Value:=.agg (uC u).toArray
def uE (b:Nat)(u:Bool×Bool×Bool×Bool×Bool):Ent:=.cells b (uC u) 225
def u0:Bool×Bool×Bool×Bool×Bool:=(aq,aq,aq,aq,aq)
theorem aggU:aggN ah 225=aw 5:=krx
theorem szU:(Tryz.prog.info? 225).map (·.size)=aw 5:=krx
theorem afW (u:Bool×Bool×Bool×Bool×Bool):∀v∈uC u,v.oneCell'=true:=by
 intro v hv;simp only[uC,aoM,aqI,or_false] at hv;rcases hv with rfl|rfl|rfl|rfl|rfl<;>rfl
theorem V6:eM ah 4=true:=krx
section
variable {w:ak}{PK:PKT}{K:VWP}{S:Nat->Prop}{w0:ak}{L:List Ent}
theorem akM :DoX ah (mFA 225 (.pointer (aw ⟨b,0,av⟩)) 0) w PK K=K (.pointer (aw ⟨b,0,av⟩)) w:=aP (show fOff ah 225 0=aw 0 by kernel_rfl)
theorem amY :DoX ah (mFA 225 (.pointer (aw ⟨b,0,av⟩)) 1) w PK K=K (.pointer (aw ⟨b,0+1,av⟩)) w:=aP (show fOff ah 225 1=aw 1 by kernel_rfl)
theorem amB :DoX ah (mFA 225 (.pointer (aw ⟨b,0,av⟩)) 2) w PK K=K (.pointer (aw ⟨b,0+2,av⟩)) w:=aP (show fOff ah 225 2=aw 2 by kernel_rfl)
theorem anC :DoX ah (mFA 225 (.pointer (aw ⟨b,0,av⟩)) 3) w PK K=K (.pointer (aw ⟨b,0+3,av⟩)) w:=aP (show fOff ah 225 3=aw 3 by kernel_rfl)
theorem amA :DoX ah (mFA 225 (.pointer (aw ⟨b,0,av⟩)) 4) w PK K=K (.pointer (aw ⟨b,0+4,av⟩)) w:=aP (show fOff ah 225 4=aw 4 by kernel_rfl)
theorem ajQ (i:Nat){u:Bool×Bool×Bool×Bool×Bool}(u':Bool×Bool×Bool×Bool×Bool)(ho:OwnS S w0 w L)(hi:L[i]?=aw (uE b u))(k:∀w',OwnS S w0 w' (L.set i (uE b u'))->K undef w') :
  DoX ah (aV 225 (.pointer (aw ⟨b,0,av⟩)) (uV u')) w PK K:=iL i ho hi (new:=uC u') szU (afW u') rfl k
end
def abO (k:Int):Value:=.tuple #[uV ((Vl.used k).getD u0),.bool (Vl.used k).isSome]
theorem Xr (k:Int)(w:ak):Ret ah 212 #[.int .i64 k] w (λv w'=>v=abO k∧Below w.heap.size w w'):=by
 refine aK λK hK=>Jn ?_;unfold HH nz;refine bD (λb=>.pointer (aw ⟨b,0,av⟩)) (uC u0) 225 (λ_=>by kernel_rfl) (Own.start w) λb w1 ho=>?_;have fin:∀(u:Bool×Bool×Bool×Bool×Bool) (ok:Bool),Vl.used k=(if ok then aw u else av)->(ok=aq->u=u0)->DoX ah (aV 225 (.pointer (aw ⟨b,0,av⟩)) (uV u)) w1 (pk K) λ_ w=>
   RetX ah [.cell (.pointer (aw ⟨b,0,av⟩)) 225,.val (.bool ok)] w K:=by
  intro u ok hu h0;refine ajQ 0 u ho rfl λw2 ho=>?_;refine Fv (bN (ho.agg 0 rfl aggU)) JH (hK _ _ ⟨?_,ho.done⟩);rw[abO,hu];cases ok with
 |true=>rfl
 |false=>rw[h0 rfl];rfl
 have b0:∀{PK:PKT} {K:VWP},DoX ah (bA 225 #[]) w1 PK K=K (uV u0) w1:=aC krx;have b1:∀{PK:PKT} {K:VWP},DoX ah (bA 225 #[(0,.bool au)]) w1 PK K=K (uV (au,aq,aq,aq,aq)) w1:=aC krx;have b2:∀{PK:PKT} {K:VWP},DoX ah (bA 225 #[(2,.bool au)]) w1 PK K=K (uV (aq,aq,au,aq,aq)) w1:=aC krx;have b3:∀{PK:PKT} {K:VWP},DoX ah (bA 225 #[(4,.bool au)]) w1 PK K=K (uV (aq,aq,aq,aq,au)) w1:=aC krx;have b4:∀{PK:PKT} {K:VWP},DoX ah (bA 225 #[(3,.bool au),(4,.bool au)]) w1 PK K=K (uV (aq,aq,aq,au,au)) w1:=aC krx;have b5:∀{PK:PKT} {K:VWP},DoX ah (bA 225 #[(0,.bool au),(1,.bool au)]) w1 PK K=K (uV (au,au,aq,aq,aq)) w1:=aC krx;have b6:∀{PK:PKT} {K:VWP},DoX ah (bA 225 #[(2,.bool au),(3,.bool au),(4,.bool au)]) w1 PK K=K (uV (aq,aq,au,au,au)) w1:=aC krx;simp only[rs];by_cases k0:k=0
 ·simp only[k0,aoA,i_t,b0];exact fin _ au (by simp[Vl.used,k0,u0]) sm
 simp only[k0,aoB,i_f];refine join λJ hJ=>?_;by_cases k123:k=1∨k=2∨k=3
 ·have:J [.bool au] w1:=by
   refine hJ _ _ λ_=>?_;simp only[vB,gd,i_t,b1,nz];exact fin _ au (by simp[Vl.used,k0,k123]) sm
  by_cases k1:k=1
  ·simp only[k1,aoA,i_t];exact this
  by_cases k2:k=2
  ·simp only[k2,Int.reduceEq,aoA,aoB,i_t,i_f];exact this
  have k3:k=3:=om
  simp only[k3,Int.reduceEq,aoA,aoB,i_t,i_f];exact this
 have k1:¬k=1:=λh=>k123 (.inl h);have k2:¬k=2:=λh=>k123 (.inr (.inl h));have k3:¬k=3:=λh=>k123 (.inr (.inr h));simp only[k1,k2,k3,aoB,i_f];refine hJ _ _ λ_=>?_;clear hJ;simp only[vB,gd,i_f,rs,nz];refine join λJ hJ=>?_;by_cases k45:k=4∨k=5
 ·have:J [.bool au] w1:=by
   refine hJ _ _ λ_=>?_;simp only[uW,gd,i_t,b2,nz];exact fin _ au (by simp[Vl.used,k0,k1,k2,k3,k45]) sm
  by_cases k4:k=4
  ·simp only[k4,aoA,i_t];exact this
  have k5:k=5:=om
  simp only[k5,Int.reduceEq,aoA,aoB,i_t,i_f];exact this
 have k4:¬k=4:=λh=>k45 (.inl h);have k5:¬k=5:=λh=>k45 (.inr h);simp only[k4,k5,aoB,i_f];refine hJ _ _ λ_=>?_;clear hJ;simp only[uW,gd,i_f,rs,nz];by_cases k6:k=6
 ·simp only[k6,aoA,i_t,b3];exact fin _ au (by simp[Vl.used,k6]) sm
 by_cases k7:k=7
 ·simp only[k7,Int.reduceEq,aoA,aoB,i_t,i_f,b4];exact fin _ au (by simp[Vl.used,k7]) sm
 by_cases k8:k=8
 ·simp only[k8,Int.reduceEq,aoA,aoB,i_t,i_f,b5];exact fin _ au (by simp[Vl.used,k8]) sm
 by_cases k9:k=9
 ·simp only[k9,Int.reduceEq,aoA,aoB,i_t,i_f,b6];exact fin _ au (by simp[Vl.used,k9]) sm
 simp only[k6,k7,k8,k9,aoB,i_f,b0];exact fin _ aq (by simp[Vl.used,k0,k123,k45,k6,k7,k8,k9]) sm
theorem VV {k:Int}{n g s ks cs:Bool}(h:Vl.used k=aw (n,g,s,ks,cs)):ks=ai (k=7∨k=9):=by
 revert h
 unfold Vl.used
 repeat' split
 all_goals (intro h;first|(cases h;done)|skip)
 all_goals simp only[arV,asA] at h
 all_goals rw[<-h.2.2.2.1]
 all_goals symm
 all_goals first|(rw[aqE];omega)|(rw[decide_eq_true_iff];omega)
abbrev badE (e:Int):PanicEntry:={ v:=.iface 223 (.agg #[.int .i64 e]),recovered:=aq }
theorem Du {r:Bool}(h:q=r)(hok:r=au->K (.tuple #[]) w)(hbad:r=aq->PK [badE e] w):CallX ah 211 #[.bool q,.int .i64 e] w PK K:=by
 subst h;refine eW (JY (K:=λe' w'=>(q=au->e'=.returned (.tuple #[])∧w'=w)∧(q=aq->e'=.panicked [badE e]∧w'=w)) ?_) ?_
 ·unfold HI nz;cases q with
 |true=>
   rw[Oj,show (!au)=aq from rfl,i_f];exact⟨λ_=>⟨rfl,rfl⟩,λh=>by cases h⟩
 |false=>
   rw[Oj,show (!aq)=au from rfl,i_t];have hb:∀{PK:PKT} {K:VWP},DoX ah (bA 223 #[(0,.int .i64 e)]) w PK K=K (.agg #[.int .i64 e]) w:=aC krx;rw[hb,MI (show nD ah 223=au by kernel_rfl),Kz];exact⟨λh=>(by cases h),λ_=>⟨rfl,rfl⟩⟩
 ·rintro e' w' ⟨h1,h2⟩;cases q with
 |true=>obtain⟨rfl,rfl⟩:=h1 rfl;exact hok rfl
 |false=>obtain⟨rfl,rfl⟩:=h2 rfl;exact hbad rfl
end
section
open Eng Go.RowKit
 attribute [local congr] Ca
theorem T9 (n:Nat):∀(o:Ob) (v:ao) (d:Nat) (w:ak) (K:Ending->ak->Prop),o.wt<=n->OV (InW w) w v o->o.wt<=4611686018427387904->1<=d->d<=1000 ->
  (Vl.check d o=0->∀w',Below w.heap.size w w'->K (.returned (.tuple #[])) w')->(Vl.check d o≠0->∀w',Below w.heap.size w w'->K (.panicked [badE (Vl.check d o)]) w') ->
  Calls ah 153 #[v,.int .i64 (d:Int)] w K:=by
 induction n with
|zero=>intro o v d w K h;have:=o.Xi;omega
|succ n ih=>
 intro o v d w K hn hov hb hd1 hd hok hbad;obtain⟨vk,vc,cs,rfl,ha⟩:=hov.open;refine HN ?_;unfold FK nz;refine mW o ha.keys.one ha.kids.one (Own.start w) λb w1 ho=>?_;have out:∀(e:Int) (W:ak) (L:List Ent),Own w W L->Vl.why d o=e->e≠0->(pk K) [badE e] W:=by
  intro e W L ho h1 h2;have h3:Vl.check d o=e:=by rw[abW (by rw[h1];exact h2),h1]
  rw[h3] at hbad;exact hbad h2 W ho.done
 rw[Yg];refine Du (r:=ai (d<=24)) (by rw[decide_eq_decide];omega) (λh24=>?_) λh24=>out 7 w1 _ ho (by rw[Vl.why,anX (by have:=apM h24;omega)]) dc;have h24':¬24 < d:=by have:=aoU h24;omega
 rw[oL,ob_k ho 0 rfl];refine RW (Xr o.k w1) rfl ho λw2 ho=>?_;simp only[abO,ex];refine bD (λb=>.pointer (aw ⟨b,0,av⟩)) (uC u0) 225 (λ_=>by kernel_rfl) ho λb4 w3 ho=>?_;refine ajQ 0 ((Vl.used o.k).getD u0) ho rfl λw4 ho=>?_;have ho:Own w w4 [uE b4 ((Vl.used o.k).getD u0),obE b o vk vc]:=ho;have bad10:(Vl.xF o=aq∨(o.k=9∧1 < d))->(pk K) [badE 10] w4:=λh=>out 10 w4 _ ho (by rw[Vl.why,anW h24',anX h]) dc;have lk:∀{W:ak} {L:List Ent},Own w W L->∀{PK:PKT} {K:VWP},DoX ah (mB .len #[22] 3 #[aq] #[vk]) W PK K=K (.int .i64 (o.keys.length:Int)) W:=λho=>bB aoT (ha.own ho).keys.1;have lc:∀{W:ak} {L:List Ent},Own w W L->∀{PK:PKT} {K:VWP},DoX ah (mB .len #[23] 3 #[aq] #[vc]) W PK K=K (.int .i64 (o.kids.length:Int)) W:=λho=>bB aoW (ha.own ho).kids.1;cases hu:Vl.used o.k with
|none=>
  have hb10:=bad10 (.inl (by rw[Vl.xF,hu]));simp only[atL,rs,g_un];exact Du (r:=aq) rfl (λh=>by cases h) λ_=>hb10
|some u=>
 obtain⟨un,ug,us,uks,ucs⟩:=u;rw[hu,asB] at ho;have hUo:Vl.xF o=((un||decide (o.n=0))&&(ug||decide (o.g=0))&&(us||decide (o.s=[]))&&(uks||decide (o.keys=[]))&&(ucs||decide (o.kids.length=0))):=by rw[Vl.xF,hu]
 have l0:∀{PK:PKT} {K:VWP},DoX ah (aJ 4 (.pointer (aw ⟨b4,0,av⟩))) w4 PK K=K (.bool un) w4:=aS V6 (ho.cell 0 rfl 0 rfl);have l1:∀{PK:PKT} {K:VWP},DoX ah (aJ 4 (.pointer (aw ⟨b4,0+1,av⟩))) w4 PK K=K (.bool ug) w4:=aS V6 (ho.cell 0 rfl 1 rfl);have l2:∀{PK:PKT} {K:VWP},DoX ah (aJ 4 (.pointer (aw ⟨b4,0+2,av⟩))) w4 PK K=K (.bool us) w4:=aS V6 (ho.cell 0 rfl 2 rfl);have l3:∀{W:ak} {L:List Ent},Own w W (uE b4 (un,ug,us,uks,ucs)::L)->∀{PK:PKT} {K:VWP},DoX ah (aJ 4 (.pointer (aw ⟨b4,0+3,av⟩))) W PK K=K (.bool uks) W:=λho=>aS V6 (ho.cell 0 rfl 3 rfl);have l4:∀{PK:PKT} {K:VWP},DoX ah (aJ 4 (.pointer (aw ⟨b4,0+4,av⟩))) w4 PK K=K (.bool ucs) w4:=aS V6 (ho.cell 0 rfl 4 rfl);simp +contextual only[auG,rs,gs,Qj,abP,MB,Bool.and_false,Bool.not_not,avG,akM,amY,amB,anC,amA,l0,l1,l2,l3 ho,l4,oL,PI,aiY,NB,FR,yC,ob_k ho 1 rfl,ob_n ho 1 rfl,ob_g ho 1 rfl,ob_s ho 1 rfl,vD ho 1 rfl,gT ho 1 rfl,lk ho,lc ho,Vs];refine Du (r:=Vl.xF o&&!(ai (o.k=9)&&ai (1 < d))) ?_ (λhq=>?_) λhq=>?_
 ·rw[hUo,alH o.keys,anG o.kids]
  congr 1
  by_cases h9:o.k=9
  ·simp only[h9,ne_eq,not_true,aoB,avG,aoA,Bool.true_and];rw[Bool.eq_iff_iff];simp;omega
  ·simp only[h9,ne_eq,arX,aoA,Bool.or_true,aoB,Bool.false_and,aqD]
 rotate_left
 ·refine bad10 ?_;rw[asT] at hq;rcases hq with h|h
  ·exact .inl h
  ·right;have:(ai (o.k=9)&&ai (1 < d))=true:=by simpa using h
   rw[aoY] at this;exact⟨aoU this.1,aoU this.2⟩
 rw[aoY] at hq;obtain⟨huo,hq9⟩:=hq;have hno:¬(Vl.xF o=aq∨(o.k=9∧1 < d)):=by
  rintro (h|⟨h1,h2⟩)
  ·rw[huo] at h;cases h
  ·rw[anZ h1,anZ h2] at hq9;cases hq9
 rw[ob_v ho 1 rfl];refine RW (UB o _ w4 (ha.in_ ho).ov) rfl ho λw5 ho=>?_;refine Du (r:=Vl.fits o) rfl (λhfi=>?_) λhfi=>out 2 w5 _ ho (by rw[Vl.why,anW h24',anW hno,anX hfi]) dc;have hfi':¬Vl.fits o=false:=by rw[hfi];decide
 rw[ob_v ho 1 rfl];refine RW (Tq o _ w5 (ha.in_ ho).ov) rfl ho λw6 ho=>?_;refine Du (r:=!ai (Vl.long o.k < o.s.length)) (Ty huo) (λhlo=>?_) λhlo=>out 5 w6 _ ho (by rw[Vl.why,anW h24',anW hno,anW hfi',anX (by simpa using hlo)]) dc;have hlo':¬Vl.long o.k < o.s.length:=by simpa using hlo
 rw[gT ho 1 rfl,lc ho,Yg];refine Du (r:=ai (o.kids.length<=8191)) (by rw[decide_eq_decide];omega) (λhm=>?_) λhm=>out 6 w6 _ ho (by rw[Vl.why,anW h24',anW hno,anW hfi',anW hlo',anX (by have:=apM hm;omega)]) dc;have hm':¬8191 < o.kids.length:=by have:=aoU hm;omega
 rw[ob_k ho 1 rfl,X6];have huk:=VV hu
 -- behind the form: the kids
 have rest:∀(W:ak),Vl.form o=au->Own w W [uE b4 (un,ug,us,uks,ucs),obE b o vk vc] ->
   DoX ah (aJ 23 (.pointer (aw ⟨b,0+5,av⟩))) W (pk K) λt105 w=>
   DoX ah (mB .len #[23] 3 #[aq] #[t105]) w (pk K) λt106 w=>
   LoopX [(.int .i64 0)] w (λvs1 w N1=>∀_:Sg,qT (.int .i64 (d:Int)) t105 t106 (vs1.getD 0 undef) w N1 K):=by
  intro W hfo ho;have hw0:Vl.why d o=0:=by rw[Vl.why,anW h24',anW hno,anW hfi',anW hlo',anW hm',anW (by rw[hfo];decide)]
  have hch:Vl.check d o=Vl.xG (d+1) o.kids:=by rw[Vl.IM,anW (by simp[hw0])]
  rw[hch] at hok hbad;rw[gT ho 1 rfl,lc ho];refine loop (λvs w'=>∃(i:Nat),vs=[.int .i64 i]∧i<=o.kids.length∧Vl.xG (d+1) o.kids=Vl.xG (d+1) (o.kids.drop i)∧Own w w' [uE b4 (un,ug,us,uks,ucs),obE b o vk vc]) (λvs _=>o.kids.length - n0 vs) ⟨0,rfl,om,rfl,ho⟩ ?_;rintro vs w6 ⟨i,rfl,hi,hT,ho⟩ _;rw[hT] at hok hbad;simp only[qT,gd,rs,nz];by_cases hlt:(i:Int) < (o.kids.length:Int)
  ·have hi':i < o.kids.length:=om
   simp only[hlt,aoA,i_t];rw[Qg _ _ _ hi'] at hok hbad hT;have hai:=ha.own ho;refine alM hai.kids.1 hai.all hi' λv hv=>?_;obtain⟨vk',vc',cs',rfl,hkid⟩:=hv.open;have ho6:=ho;refine jH ho λb7 w7 ho=>?_;refine cE 0 hkid.keys.one hkid.kids.one ho rfl λw8 ho=>?_;have ho:Own w w8 [obE b7 o.kids[i] vk' vc',uE b4 (un,ug,us,uks,ucs),obE b o vk vc]:=ho;rw[ob_v ho 0 rfl,aA om om,show (d:Int)+1=((d+1:Nat):Int) by omega];have hkw:=Pn hi';refine eW (ih o.kids[i] _ (d+1) w8 _ om (hkid.later ho6 ho).ov om om om (λhc0 w9 hb9=>?_) (λhc0 w9 hb9=>?_)) (λ_ _ h=>h)
   ·have ho:=ho.grow hb9;rw[anW (by simp[hc0])] at hT;simp only[Cont,rs];rw[aA om om];exact aQ ⟨i+1,rfl,om,hT,ho.tail⟩ (by simp[n0,RowKit.intOf];omega)
   ·rw[anX hc0] at hbad;exact hbad hc0 w9 (ho.grow hb9).done
  ·simp only[hlt,aoB,i_f];rw[auH om,Vl.xG] at hok;exact hok rfl w6 ho.done
 have bad3:∀(W:ak) (L:List Ent),Own w W L->Vl.form o=aq->(pk K) [badE 3] W:=λW L ho h=>out 3 W _ ho (by rw[Vl.why,anW h24',anW hno,anW hfi',anW hlo',anW hm',anX h]) dc;by_cases k5:o.k=5
 ·have k79:¬(o.k=7∨o.k=9):=om
  have hks:uks=false:=by rw[huk,anY k79]
  have hf:Vl.form o=Vl.name o.s:=by simp[Vl.form,k5]
  rw[show ai (o.k≠5)=aq by rw[aqE];omega,g_ff,ob_s ho 1 rfl,g_ff];refine c_eq (Rs o.s w6) ?_;rw[p_f];cases hnm:Vl.name o.s with
 |false=>
   rw[g_ft,g_ft,show sel (kF (Value.bool aq) au) undef=undef from rfl,g_un,g_un,g_ft,p_f];exact Du (r:=aq) rfl (λh=>by cases h) λ_=>bad3 w6 _ ho (by rw[hf,hnm])
 |true=>
   rw[g_tt,l3 ho,hks,g_tt,Oj,show (!aq)=au from rfl,show sel (kF (Value.bool au) au) (Value.bool au)=.bool au from rfl,g_tf,g_tf,g_tt,p_t,p_t];exact Du (r:=au) rfl (λ_=>rest w6 (by rw[hf,hnm]) ho) λh=>by cases h
 ·rw[show ai (o.k≠5)=au by rw[decide_eq_true_iff];exact k5,g_tf,g_tf,p_t,g_tt,l3 ho,g_tt,Oj];cases hks:uks with
 |false=>
   have k79:¬(o.k=7∨o.k=9):=by rw[huk,aqE] at hks;exact hks
   rw[show (!aq)=au from rfl,show sel (kF (Value.bool au) au) (Value.bool au)=.bool au from rfl,g_tf,g_tf,g_tt,p_t,p_t];rw[hks] at ho rest;exact Du (r:=au) rfl (λ_=>rest w6 (by simp[Vl.form,k5,k79]) ho) λh=>by cases h
 |true=>
   have k79:o.k=7∨o.k=9:=by rw[huk,decide_eq_true_iff] at hks;exact hks
   have hf:Vl.form o=Vl.rising o:=by simp[Vl.form,k5,k79]
   rw[show (!au)=aq from rfl,show sel (kF (Value.bool au) au) (Value.bool aq)=.bool aq from rfl,g_ff,ob_v ho 1 rfl,g_ff];refine RW (QV o _ w6 (ha.in_ ho).ov (by have:=aeN (o:=o);omega)) rfl ho λw7 ho=>?_;rw[g_tt,p_f,p_t];rw[hks] at ho rest;exact Du (r:=Vl.form o) hf.symm (λhfo=>rest w7 hfo ho) λh=>bad3 w7 _ ho h
theorem Hg:bZ ah 210=true:=krx
theorem qN {rs:List RV}{K:Ending->ak->Prop}{caps:Array ao}(hu:u≠.run)(hp:bZ ah f=au)
  (h:CallsD ah f (args++caps) u w λ
   |.returned _,u',w'=>Ej ah rs K ds (settle u') w'
   |.panicked chain,u',w'=>Ej ah rs K ds (raised u' chain) w'
   |.outgrown,_,_=>False):Ej ah rs K ({ target:=.fn (.func f) caps,args:=args }::ds) u w:=
 ⟨hu,.func f,caps,f,args++caps,rfl,by simpa[invoke] using nY hp _ w,h⟩
theorem WC:bZ ah 152=true:=krx
abbrev HS:eM ah 30=true:=krx
theorem vM (o:Ob)(v:ao)(w:ak)(h:OV (InW w) w v o)(hb:o.wt<=4611686018427387904):Ret ah 86 #[v] w (λv w'=>v=.int .i64 (Vl.check 1 o)∧Below w.heap.size w w'):=by
 refine aK λK hK=>Io ?_;obtain⟨vk,vc,cs,rfl,ha⟩:=h.open;unfold Eo nz;refine mW o ha.keys.one ha.kids.one (Own.start w) λb w1 ho=>?_;rw[Cs];refine eW (GV (K:=λe w'=>e=.returned (.int .i64 (Vl.check 1 o))∧Below w.heap.size w w') ?_) ?_
 rotate_left
 ·rintro e w' ⟨rfl,hb'⟩;exact hK _ _ ⟨rfl,hb'⟩
 unfold DK iN dx alx;refine bD (λb=>.pointer (aw ⟨b,0,av⟩)) [.int .i64 0] 30 (λ_=>by kernel_rfl) ho λb2 w2 ho=>?_;rw[Cs];refine⟨_,rfl,?_⟩;refine HL WC ?_;show CallX ah _ #[.pointer (aw ⟨b,0,av⟩)] _ _ _;refine eW (Ev (K:=λe w'=>(Vl.check 1 o=0->e=.returned (.tuple #[])∧Below w2.heap.size w2 w')∧(Vl.check 1 o≠0->e=.panicked [badE (Vl.check 1 o)]∧Below w2.heap.size w2 w')) ?_) ?_
 ·unfold BB nz;rw[ob_v ho 1 rfl];refine eW (T9 o.wt o _ 1 w2 (λe w'=>(Vl.check 1 o=0->e=.returned (.tuple #[])∧Below w2.heap.size w2 w')∧(Vl.check 1 o≠0->e=.panicked [badE (Vl.check 1 o)]∧Below w2.heap.size w2 w')) (aoG _) (ha.in_ ho).ov hb om om
   (λh0 w' hb'=>⟨λ_=>⟨rfl,hb'⟩,λh=>absurd h0 h⟩) (λh0 w' hb'=>⟨λh=>absurd h h0,λ_=>⟨rfl,hb'⟩⟩)) ?_
  rintro e w' ⟨h1,h2⟩;by_cases h0:Vl.check 1 o=0
  ·obtain⟨rfl,hb'⟩:=h1 h0;exact⟨λ_=>⟨rfl,hb'⟩,λh=>absurd h0 h⟩
  ·obtain⟨rfl,hb'⟩:=h2 h0;exact⟨λh=>absurd h h0,λ_=>⟨rfl,hb'⟩⟩
 rintro e w' ⟨h1,h2⟩;by_cases h0:Vl.check 1 o=0
 ·obtain⟨rfl,hb'⟩:=h1 h0;simp only[Cont];have ho:=ho.grow hb';refine aN 0 ho rfl krx rfl sm λw4 ho=>?_;refine qN sm Hg (qJ ?_);simp only[jA,recV,recM,Eng.Vs asH,rs,dx,ldx,fax,exx,stx,eqx,alx];refine OD HS (ho.cell 0 rfl 0 rfl) (And.intro ?_ ho.done);rw[h0]
 ·obtain⟨rfl,hb'⟩:=h2 h0;simp only[Cont,mX,pd];have ho:=ho.grow hb';refine qN sm Hg (qJ ?_);simp only[jA,recV,recM,Eng.VG asH,rs,X7 (show nD ah 223=au by kernel_rfl),
   gY (show [Value.agg #[.int .i64 (Vl.check 1 o)],Value.bool au][1]?=aw (Value.bool au) from rfl),gY (show [Value.agg #[.int .i64 (Vl.check 1 o)],Value.bool au][0]?=aw (Value.agg #[.int .i64 (Vl.check 1 o)]) from rfl),dx,ldx,fax,exx,stx,eqx,alx]
  refine bD (λb=>.pointer (aw ⟨b,0,av⟩)) [.int .i64 0] 223 (λ_=>by kernel_rfl) ho λb5 w5 ho=>?_;refine iL 0 ho rfl (new:=[.int .i64 (Vl.check 1 o)]) (show (Tryz.prog.info? 223).map (·.size)=aw 1 by kernel_rfl) (by simp;rfl) rfl λw6 ho=>?_;rw[aP (show fOff ah 223 0=aw 0 by kernel_rfl),aS HS (ho.cell 0 rfl 0 rfl)];refine aN 1 ho rfl krx rfl sm λw7 ho=>?_;exact OD HS (ho.cell 1 rfl 0 rfl) (And.intro rfl ho.done)
end
section
open Eng Go.RowKit
theorem TE (x:List UInt8)(w:ak):Ret ah 256 #[.string ⟨x.toArray⟩] w (λv w'=>v=.bool aq∧w=w'):=by
 refine aK λK hK=>AQ ?_;unfold tZ nz;rw[Pv];exact hK _ _ ⟨sm,rfl⟩
theorem TH (x:List UInt8)(w:ak):Ret ah 218 #[.string ⟨x.toArray⟩] w (λv w'=>v=.bool aq∧w=w'):=by
 refine aK λK hK=>wD ?_;unfold oC nz;rw[Pv];exact hK _ _ ⟨sm,rfl⟩
theorem Wv (x y:List UInt8)(w:ak):Ret ah 217 #[.string ⟨x.toArray⟩,.string ⟨y.toArray⟩] w (λv w'=>v=.bool (Vl.less x y)∧w=w'):=by
 refine aK λK hK=>Dd ?_;unfold wY nz;refine c_eq (TE x w) ?_;simp only[rs,ahF];exact hK _ _ ⟨rfl,rfl⟩
theorem shr1 (h0:0<=a)(h1:a<=4611686018427387904):Int.fdiv (IntKind.wrap .u64 a) (2 ^ (min (1:Int).toNat IntKind.u64.bits))=a / 2:=by
 rw[T4 h0 om];show Int.fdiv a 2=a / 2;rw[awC _ om]
theorem Js (va:ao)(l:List (List UInt8))(x:List UInt8)(w:ak)(ha:Sl w va 1 l.length (cD l))(hr:Vl.Rise l)(hl:l.length<=1099511627776) :
  Ret ah 154 #[va,.string ⟨x.toArray⟩] w (λv w'=>v=.tuple #[.int .i64 (Vl.place l x:Nat),.bool (Vl.hit l x)]∧w=w'):=by
 refine aK λK hK=>iA ?_;unfold eK nz;rw[bB aoT ha];refine loop (λvs w'=>∃(i j:Nat),vs=[.int .i64 i,.int .i64 j]∧i<=j∧j<=l.length∧(∀m (h:m < l.length),m < i->Vl.less l[m] x=au)∧(∀m (h:m < l.length),j<=m->Vl.less l[m] x=aq)∧w=w') (λvs _=>n1 vs - n0 vs)
  ⟨0,l.length,rfl,om,om,λm _ h=>by omega,λm h1 h2=>by omega,rfl⟩ ?_
 rintro vs w2 ⟨i,j,rfl,hij,hj,hlo,hhi,rfl⟩ _;simp only[eC,gd,rs,nz];by_cases hlt:(i:Int) < (j:Int)
 ·simp only[hlt,aoA,i_t];rw[aA om om,TS (show (Tryz.prog.underlying 3).isSome=au by kernel_rfl) arW,FC om,shr1 om om,
   TS (show (Tryz.prog.underlying 84).isSome=au by kernel_rfl) apH,aA om om]
  obtain⟨h,hh⟩:∃h:Nat,((i:Int)+(j:Int)) / 2=(h:Int):=⟨(i+j) / 2,om⟩;rw[hh];have h1:i<=h:=om
  have h2:h < j:=om
  have h3:h < l.length:=om
  refine O6 (.string ⟨(l[h]).toArray⟩) aoT krx ha om (by rw[aoF];exact jW h3) λq hq=>?_;rw[aS YB hq];refine c_eq (Wv l[h] x w) ?_;cases hc:Vl.less l[h] x with
 |true=>
   simp only[rs];rw[aA om om];refine aQ ⟨h+1,j,rfl,om,om,λm hm hmi=>?_,hhi,rfl⟩ (by simp[n0,n1,RowKit.intOf];omega);rcases apD m h with h4|h4
   ·exact Vl.CI (Vl.CC hr h4 h3) hc
   ·have:m=h:=om
    subst this;exact hc
 |false=>
   simp only[rs];refine aQ ⟨i,h,rfl,om,om,hlo,λm hm hmi=>?_,rfl⟩ (by simp[n0,n1,RowKit.intOf];omega);rcases apD h m with h4|h4
   ·cases hm2:Vl.less l[m] x with
   |false=>rfl
   |true=>have:=Vl.CI (Vl.CC hr h4 hm) hm2;rw[hc] at this;cases this
   ·have:m=h:=om
    subst this;exact hc
 ·have he:i=j:=om
  subst he;simp only[hlt,aoB,i_f];have hp:Vl.place l x=i:=Vl.R4 hj hlo (λh=>hhi i h (aoG _));by_cases hn:(i:Int) < (l.length:Int)
  ·have hi':i < l.length:=om
   simp only[hn,aoA,rs];refine O6 (.string ⟨(l[i]).toArray⟩) aoT krx ha om (by rw[aoF];exact jW hi') λq hq=>?_;rw[aS YB hq];simp only[rs];by_cases hx:l[i]=x
   ·simp only[hx,aoA,rs,g_un];refine hK _ _ ⟨?_,rfl⟩;rw[hp];unfold Vl.hit;rw[hp,aoI hi',hx];simp
   ·simp only[hx,aoB,rs];refine O6 (.string ⟨(l[i]).toArray⟩) aoT krx ha om (by rw[aoF];exact jW hi') λq hq=>?_;rw[aS YB hq];refine c_eq (TH l[i] w) ?_;simp only[rs];refine hK _ _ ⟨?_,rfl⟩;rw[hp];unfold Vl.hit;rw[hp,aoI hi'];simp[hx]
  ·simp only[hn,aoB,rs,g_un];refine hK _ _ ⟨?_,rfl⟩;rw[hp];unfold Vl.hit;rw[hp,aqB om];simp
end
end Go.Proofs.YtlipjfcbjemicaaGreatDoor

namespace Go.Proofs.YtlipjfcbjemicaaGreatDoor
variable{A S:Nat->Prop}{K:VWP}{L:List Eng.Ent}{M N:Eng.Mem}{P:Program}{PK PK2:PKT}{T1 T2 U:TypeId}{W w w0:ak}{a e way:Int}{args:Array ao}{b cap d f i j p sz:Nat}{cb:Array Bool}{cs xs:List ao}{ds:List Deferred}{k':IntKind}{key:List UInt8}{o:Ob}{q:Bool}{u:FrameMode}{v vc vk:ao}{xo yo:Operand}{α β:Type}{t0 t1 t2:ao}{k0:Eng.KT}
section
open Go
theorem Ob.Gt:∀os:List Ob,os.length<=Ob.wts os
|[]=>by simp
|o::os=>by
  have:=Ob.Gt os;have:1<=o.wt:=by cases o;rw[Ob.wt];omega
  rw[Ob.wts,apB];omega
namespace Wr
end Wr
end
end Go.Proofs.YtlipjfcbjemicaaGreatDoor

namespace Go.Proofs.YtlipjfcbjemicaaGreatDoor
variable{A S:Nat->Prop}{K:VWP}{L:List Eng.Ent}{M N:Eng.Mem}{P:Program}{PK PK2:PKT}{T1 T2 U:TypeId}{W w w0:ak}{a e way:Int}{args:Array ao}{b cap d f i j p sz:Nat}{cb:Array Bool}{cs xs:List ao}{ds:List Deferred}{k':IntKind}{key:List UInt8}{o:Ob}{q:Bool}{u:FrameMode}{v vc vk:ao}{xo yo:Operand}{α β:Type}{t0 t1 t2:ao}{k0:Eng.KT}
section
open Eng
def pB(b c d a w)(N1:JT)(K:KT):=
 lnx 9 b w K λe w=>bnx .lss 3 a e w K λf w=>IfX f (QuietX w (λC2=>QDo ah C2 (mIx 9 b a) λg=>QDo ah C2 (mBin .quo 5 g (.int .u8 16)) λh=>QDo ah C2 (mIx 9 c h) λi=>QDo ah C2 (mIx 9 b a) λj=>QDo ah C2 (mBin .rem 5 j (.int .u8 16)) λk=>QDo ah C2 (mIx 9 c k) λl=>
 ∀w,C2 w ->
 DoX ah (bF 53 2 #[(0,i),(1,l)]) w (ax 7 (pk K)) λm w=>DoX ah (mB .append #[53,53] 53 #[aq,aq] #[d,m]) w (ax 7 (pk K)) λn w=>bnx .add 3 a (iN 1) w K λo w=>N1 [n,o] w)) (dx (fA 53 9 d) w K λp w=>K (.returned p) w)
def tS(t0 w)(K:KT):=nz f132 1 [] [(9,[4,5],λs v j w f=>pB (s 0) (s 3) (vg v 0) (vg v 1) w (f 0) K)] [] (zg [0] [t0]) w K
theorem Ch:tS t0 w k0->Calls ah 132 #[t0] w k0:=cz [] [(4,[4,5])] func132
def pO(t0 w)(K:KT):=nz f123 1 [] [] [] (zg [0] [t0]) w K
theorem yD:pO t0 w k0->Calls ah 123 #[t0] w k0:=cw func123
end
section
open Eng Go.RowKit
theorem Ly (c:UInt8)(w:ak):Ret ah 123 #[.int .u8 c.toNat] w (λv w'=>v=.bool (Oc.AF c)∧w=w'):=by
 refine aK λK hK=>yD ?_;unfold pO nz;have e0:=u8d c 0 0 rfl;have e1:=u8d c 9 9 rfl;have e2:=u8d c 10 10 rfl;have e3:=u8d c 12 12 rfl;have e4:=u8d c 13 13 rfl;have e5:=u8d c 32 32 rfl;by_cases h0:c=0
 ·simp only[rs,e0,anZ h0,g_un];exact hK _ _ ⟨by rw[h0];rfl,rfl⟩
 simp only[rs,e0,anY h0,g_un];by_cases h1:c=9
 ·simp only[rs,e1,anZ h1,g_un];exact hK _ _ ⟨by rw[h1];rfl,rfl⟩
 simp only[rs,e1,anY h1,g_un];by_cases h2:c=10
 ·simp only[rs,e2,anZ h2,g_un];exact hK _ _ ⟨by rw[h2];rfl,rfl⟩
 simp only[rs,e2,anY h2,g_un];by_cases h3:c=12
 ·simp only[rs,e3,anZ h3,g_un];exact hK _ _ ⟨by rw[h3];rfl,rfl⟩
 simp only[rs,e3,anY h3,g_un];by_cases h4:c=13
 ·simp only[rs,e4,anZ h4,g_un];exact hK _ _ ⟨by rw[h4];rfl,rfl⟩
 simp only[rs,e4,anY h4,g_un];by_cases h5:c=32
 ·simp only[rs,e5,anZ h5,g_un];exact hK _ _ ⟨by rw[h5];rfl,rfl⟩
 simp only[rs,e5,anY h5,g_un];exact hK _ _ ⟨by simp[Oc.AF,Oc.Vf,h0,h1,h2,h3,h4,h5],rfl⟩
abbrev BRow (v:ao)(l:List UInt8):Ent:=.row 5 1 v l.length (aG l)
theorem agZ {l m:List UInt8}{parts:Array (Nat×ao)}{n:Nat}{cs:Array Bool}
  (hm:∀w,(bF 53 n parts).run ah w=.ok (.value (.slice (aw ⟨w.heap.size,0,av⟩) m.length m.length)) (w.alloc (.cells (aG m).toArray 5)))
  (ho:OwnS S w0 w (BRow v l::L)) (hb:l.length+m.length<=140737488355328) (k:∀v' w',OwnS S w0 w' (BRow v' (l++m)::L)->K v' w') :
  DoX ah (bF 53 n parts) w PK λt w=>DoX ah (mB .append #[53,53] 53 cs #[v,t]) w PK2 K:=by
 refine bD (λb=>.slice (aw ⟨b,0,av⟩) m.length m.length) (aG m) 5 hm ho λnb w4 h4=>?_;refine MC 1 aoK (show elB ah 5 1 1=au by kernel_rfl) dc h4 rfl (h4.sl 0 rfl 1 m.length m.length (by rw[cP,aoS])) (GZ _) om om λv' w5 h5=>?_;refine k v' w5 ?_;have e:BRow v' (l++m)=.row 5 1 v' (l.length+m.length) (aG l++aG m):=by
  rw[BRow,kV,aoC]
 rw[e];exact h5.tail
theorem ajP {l:List UInt8}(i:Nat)(ho:OwnS S w0 w L)(hi:L[i]?=aw (BRow v l)) :
  DoX ah (fA 53 9 v) w PK K=K (.string ⟨l.toArray⟩) w:=
 gO (l:=l) aoK aoP aoD (ho.aaT i hi)
theorem XW (l:List UInt8)(w:ak)(hl:l.length<=1000000):Ret ah 132 #[.string ⟨l.toArray⟩] w (λv w'=>v=.string ⟨(Oc.hex l).toArray⟩∧Below w.heap.size w w'):=by
 refine aK λK hK=>Ch ?_;unfold tS nz;refine loop (λvs w'=>∃(i:Nat) (v:ao),vs=[v,.int .i64 i]∧i<=l.length∧Own w w' [BRow v (Oc.hex (l.take i))])
  (λvs _=>l.length - n1 vs) ⟨0,_,rfl,om,(Own.start w).UU _ 1⟩ ?_
 rintro vs w2 ⟨i,v,rfl,hi,ho⟩ _;simp only[pB,gd,cL aoD,iN,dx,bnx,lnx];rw[adH];by_cases hlt:(i:Int) < (l.length:Int)
 ·have hi2:i < l.length:=om
  have hc:l[(i:Int).toNat]?=aw l[i]:=by simp[hi2]
  have h256:=l[i].toNat_lt;have hd1:l[i].toNat / 16 < 16:=om
  have hd2:l[i].toNat % 16 < 16:=om
  have hq:((l[i].toNat:Int).tdiv 16)=((l[i].toNat / 16:Nat):Int):=by rw[awG om];omega
  have hr:((l[i].toNat:Int).tmod 16)=((l[i].toNat % 16:Nat):Int):=by rw[Int.tmod_eq_emod_of_nonneg om];omega
  simp only[hlt,aoA,i_t];refine quiet (q_do _ (λw=>CE aoD om hc) (q_do _ (λw=>by rw[agH om,hq,IV om om]) (q_do _ (λw=>IP _ hd1 w)
   (q_do _ (λw=>CE aoD om hc) (q_do _ (λw=>by rw[ahH om,hr]) (q_do _ (λw=>IP _ hd2 w) ?_))))))
  intro w3 hb3;have hlen:=Oc.LV (l.take i);rw[aoH] at hlen;refine agZ (m:=Oc.hex1 l[i]) (λ_=>by kernel_rfl) (ho.grow hb3) (by simp only[Oc.hex1,apB,arL];omega) λv' w5 h5=>?_;rw[H7,aA om om];refine aQ ⟨i+1,v',rfl,om,?_⟩ (by simp[n1,RowKit.intOf];omega);rw[apG hi2,Oc.Su];exact h5
 ·have hi2:i=l.length:=om
  subst hi2;simp only[hlt,aoB,i_f];rw[aqJ] at ho;rw[ajP 0 ho rfl];exact hK _ _ ⟨rfl,ho.done⟩
end
end Go.Proofs.YtlipjfcbjemicaaGreatDoor

namespace Go.Proofs.YtlipjfcbjemicaaGreatDoor
variable{A S:Nat->Prop}{K:VWP}{L:List Eng.Ent}{M N:Eng.Mem}{P:Program}{PK PK2:PKT}{T1 T2 U:TypeId}{W w w0:ak}{a e way:Int}{args:Array ao}{b cap d f i j p sz:Nat}{cb:Array Bool}{cs xs:List ao}{ds:List Deferred}{k':IntKind}{key:List UInt8}{o:Ob}{q:Bool}{u:FrameMode}{v vc vk:ao}{xo yo:Operand}{α β:Type}{t0 t1 t2:ao}{k0:Eng.KT}
section
open Go
namespace Lx
open Oc
def eol (c:UInt8):Bool:=ai (c=13)||decide (c=10)
def YK:Bool->List UInt8->Nat
|_,[]=>0
|true,c::t=>1+YK (!eol c) t
|false,c::t=>if c=37 then 1+YK au t else if AF c then 1+YK aq t else 0
def skip (s:List UInt8)(k:Nat):Nat:=k+YK aq (s.drop k)
def adL:List UInt8->Nat
|[]=>0
|c::t=>if c=10 then 1 else if c=13 then (if t.head?=aw 10 then 2 else 1) else 1+adL t
def digit (c:UInt8):Int:=
 if 48<=c.toNat∧c.toNat<=57 then (c.toNat:Int) - 48
 else if 65<=c.toNat∧c.toNat<=70 then (c.toNat:Int) - 65+10
 else if 97<=c.toNat∧c.toNat<=102 then (c.toNat:Int) - 97+10
 else -1
def byte (a b:Int):UInt8:=UInt8.ofNat (16*a+b).toNat
end Lx
end
section
open Go
namespace Lx
open Oc
structure Tok where
 k:Int
 a:Int
 t:Int
 n:Int
 s:List UInt8
 deriving DecidableEq
def none_:Tok:=⟨0,0,0,0,[]⟩
def refused (e:Int):Tok×Int:=(none_,e)
def told (k a t:Int)(x:List UInt8)(most:Int):Tok×Int:=if most < (x.length:Int) then refused 5 else (⟨k,a,t,0,x⟩,0)
def runF:List UInt8->Nat
|[]=>0
|c::t=>if regular c then 1+runF t else 0
def run (s:List UInt8)(i:Nat):Nat:=i+runF (s.drop i)
def cut (s:List UInt8)(i j:Nat):List UInt8:=(s.drop i).take (j - i)
def PB:List UInt8->Option (List UInt8)
|[]=>aw []
|c::t=>
  if c=35 then match t with
  |a::b::t=>if digit a < 0∨digit b < 0∨16*digit a+digit b=0 then av else (PB t).map (byte (digit a) (digit b)::·)
  |_=>av
  else (PB t).map (c::·)
theorem akB {c:UInt8}{t:List UInt8}(h:¬c=35):PB (c::t)=(PB t).map (c::·):=by
 cases t with
|nil=>simp[PB,h]
|cons a t=>cases t<;>simp[PB,h]
def name (s:List UInt8)(at_:Nat):Tok×Int:=
 match PB (cut s (at_+1) (run s (at_+1))) with
|none=>refused 3
|some x=>told 4 at_ (run s (at_+1)) x 127
def oct (c:UInt8):Bool:=ai (48<=c.toNat)&&ai (c.toNat<=55)
def octF:Nat->Nat->List UInt8->Nat×Nat
|0,n,_=>(n,0)
|_+1,n,[]=>(n,0)
|m+1,n,c::t=>if oct c then ((octF m (8*n+(c.toNat - 48)) t).1,(octF m (8*n+(c.toNat - 48)) t).2+1) else (n,0)
def escL (c:UInt8):Option UInt8:=if c=110 then aw 10 else if c=114 then aw 13 else if c=116 then aw 9 else if c=98 then aw 8 else if c=102 then aw 12 else av
def escF:List UInt8->List UInt8×Nat
|[]=>([],0)
|c::t=>match escL c with
 |some b=>([b],1)
 |none=>if eol c then ([],adL (c::t)) else if 0 < (octF 3 0 (c::t)).2 then ([UInt8.ofNat (octF 3 0 (c::t)).1],(octF 3 0 (c::t)).2) else ([c],1)
def P3:Nat->Nat->List UInt8->Option (List UInt8×Nat)
|_,_,[]=>av
|k+1,o,_::t=>(P3 k o t).map λr=>(r.1,r.2+1)
|0,o,c::t=>
  if eol c then (P3 (adL (c::t) - 1) o t).map λr=>(10::r.1,r.2+1)
  else if c=92 then if t=[] then av else (P3 (escF t).2 o t).map λr=>((escF t).1++r.1,r.2+1)
  else if c=40 then (P3 0 (o+1) t).map λr=>(c::r.1,r.2+1)
  else if c=41 then if o<=1 then aw ([],1) else (P3 0 (o - 1) t).map λr=>(c::r.1,r.2+1)
  else (P3 0 o t).map λr=>(c::r.1,r.2+1)
def text (s:List UInt8)(at_:Nat):Tok×Int:=
 match P3 0 1 (s.drop (at_+1)) with
|none=>refused 4
|some r=>told 3 at_ (at_+1+r.2:Nat) r.1 32767
def hexF:Int->List UInt8->(List UInt8×Nat) ⊕ Int
|_,[]=>.inr 4
|h,c::t=>
  if c=62 then .inl (if 0<=h then [byte h 0] else [],1)
  else if AF c then match hexF h t with|.inl r=>.inl (r.1,r.2+1)|.inr e=>.inr e
  else if digit c < 0 then .inr 3
  else if h < 0 then match hexF (digit c) t with|.inl r=>.inl (r.1,r.2+1)|.inr e=>.inr e
  else match hexF (-1) t with|.inl r=>.inl (byte h (digit c)::r.1,r.2+1)|.inr e=>.inr e
def hex (s:List UInt8)(at_:Nat):Tok×Int:=
 match hexF (-1) (s.drop (at_+1)) with
|.inr e=>refused e
|.inl r=>told 3 at_ (at_+1+r.2:Nat) r.1 32767
def sgn (c:UInt8):Bool:=ai (c=43)||decide (c=45)
def dig (c:UInt8):Bool:=ai (48<=c.toNat)&&ai (c.toNat<=57)
def Pe:List UInt8->List UInt8
|[]=>[]
|c::t=>if sgn c then t else c::t
def aeA (t:List UInt8):Bool:=!(Pe t).isEmpty&&(Pe t).all dig
def val (n:Nat)(l:List UInt8):Nat:=l.foldl (λn c=>10*n+(c.toNat - 48)) n
def whole (t:List UInt8):Int×Int:=
 if 2147483647 < val 0 (Pe t) then (0,2) else (if t.head?=aw 45 then -(val 0 (Pe t):Int) else (val 0 (Pe t):Int),0)
def anH (t:List UInt8)(a b:Int):Tok×Int:=
 if aeA t then (if (whole t).2≠0 then refused (whole t).2 else (⟨1,a,b,(whole t).1,[]⟩,0))
 else if t.contains 46∧(Fx.read t).2=0 then (⟨2,a,b,(Fx.read t).1,[]⟩,0)
 else if t.contains 46∧(Fx.read t).2=2 then refused 2
 else told 5 a b t 127
def word (s:List UInt8)(at_:Nat):Tok×Int:=anH (cut s at_ (run s at_)) at_ (run s at_)
def mark (s:List UInt8)(at_ n:Nat):Tok×Int:=(⟨6,at_,(at_+n:Nat),0,cut s at_ (at_+n)⟩,0)
def token (s:List UInt8)(a:Nat):Tok×Int:=
 match s.drop a with
|[]=>(⟨0,a,a,0,[]⟩,0)
|c::t=>
  if c=91∨c=93∨c=123∨c=125 then mark s a 1
  else if c=60 then (if t.head?=aw c then mark s a 2 else hex s a)
  else if c=62 then (if t.head?=aw c then mark s a 2 else refused 3)
  else if c=47 then name s a
  else if c=40 then text s a
  else if c=41 then refused 3
  else word s a
def next (s:List UInt8)(at_:Int):Tok×Int:=if at_ < 0∨(s.length:Int) < at_ then refused 1 else token s (skip s at_.toNat)
end Lx
end
section
open Go
namespace Lx
open Oc
theorem alU {k t:Int}{x:List UInt8}{m:Int}(h:(told k a t x m).2=0):told k a t x m=(⟨k,a,t,0,x⟩,0):=by
 unfold told at h ⊢;split
 ·rename_i hh;rw[anX hh] at h;cases h
 ·rfl
end Lx
end
section
open Go
namespace Lx
open Oc
theorem take_cons {c:UInt8}{t:List UInt8}{n:Nat}(h:1<=n):(c::t).take n=c::t.take (n - 1):=by
 obtain⟨m,rfl⟩:∃m,n=m+1:=⟨n - 1,om⟩;rfl
theorem map_some {f:α->β}{x:Option α}{r:β}(h:x.map f=aw r):∃q,x=aw q∧r=f q:=by
 cases x with
|none=>cases h
|some q=>cases h;exact⟨q,rfl,rfl⟩
theorem Ve:∀l:List UInt8,(l.take (runF l)).all regular=au∧runF (l.take (runF l))=runF l
|[]=>by simp[runF]
|c::t=>by
  obtain⟨i1,i2⟩:=Ve t;simp only[runF];by_cases h:regular c=au
  ·rw[anX h,take_cons om,asZ];simp only[runF,i2,atZ,h,i1,Bool.and_self,if_true,and_self]
  ·rw[anW h];simp[runF]
end Lx
end
section
open Go
namespace Lx
open Oc
theorem all8 {p:UInt8->Prop}(h:∀n:Fin 256,p (UInt8.ofNat n.val))(c:UInt8):p c:=by
 have:=h ⟨c.toNat,c.toNat_lt⟩;simpa using this
end Lx
end
end Go.Proofs.YtlipjfcbjemicaaGreatDoor






namespace Go.Proofs.YtlipjfcbjemicaaGreatDoor
variable{A S:Nat->Prop}{K:VWP}{L:List Eng.Ent}{M N:Eng.Mem}{P:Program}{PK PK2:PKT}{T1 T2 U:TypeId}{W w w0:ak}{a e way:Int}{args:Array ao}{b cap d f i j p sz:Nat}{cb:Array Bool}{cs xs:List ao}{ds:List Deferred}{k':IntKind}{key:List UInt8}{o:Ob}{q:Bool}{u:FrameMode}{v vc vk:ao}{xo yo:Operand}{α β:Type}{t0 t1 t2:ao}{k0:Eng.KT}
section
open Eng
def FM(t0 w)(K:KT):=nz f176 1 [] [] [] (zg [0] [t0]) w K
theorem H5:FM t0 w k0->Calls ah 176 #[t0] w k0:=cw func176
end
section
open Eng Go.RowKit
 attribute [local congr] Ca in
theorem UC (c:UInt8)(w:ak):Ret ah 176 #[.int .u8 c.toNat] w (λv w'=>v=.int .i64 (Lx.digit c)∧w=w'):=by
  refine aK λK hK=>H5 ?_;unfold FM nz;have h256:=c.toNat_lt;have conv:∀{n:Int} {PK K},0<=n->n<=255->DoX ah (fA 5 3 (.int .u8 n)) w PK K=K (.int .i64 n) w:=by
   intro n PK K h0 h1;rw[TS (show (Tryz.prog.underlying 5).isSome=au by kernel_rfl) apH,aA om om]
  simp +contextual only[rs,gs];by_cases h1:48<=c.toNat∧c.toNat<=57
  ·have hb:(ai ((48:Int)<=(c.toNat:Int))&&ai ((c.toNat:Int)<=57))=true:=by simp;omega
   simp only[hb,i_t];rw[IV om om,conv om om];exact hK _ _ ⟨by rw[Lx.digit,anX h1],rfl⟩
  have hb:(ai ((48:Int)<=(c.toNat:Int))&&ai ((c.toNat:Int)<=57))=false:=by
   rw[asT,aqE,aqE];omega
  simp only[hb,i_f];by_cases h2:65<=c.toNat∧c.toNat<=70
  ·have hb:(ai ((65:Int)<=(c.toNat:Int))&&ai ((c.toNat:Int)<=70))=true:=by simp;omega
   simp only[hb,i_t];rw[IV om om,conv om om,H7,aA om om];exact hK _ _ ⟨by rw[Lx.digit,anW h1,anX h2],rfl⟩
  have hb:(ai ((65:Int)<=(c.toNat:Int))&&ai ((c.toNat:Int)<=70))=false:=by
   rw[asT,aqE,aqE];omega
  simp only[hb,i_f];by_cases h3:97<=c.toNat∧c.toNat<=102
  ·have hb:(ai ((97:Int)<=(c.toNat:Int))&&ai ((c.toNat:Int)<=102))=true:=by simp;omega
   simp only[hb,i_t];rw[IV om om,conv om om,H7,aA om om];exact hK _ _ ⟨by rw[Lx.digit,anW h1,anW h2,anX h3],rfl⟩
  have hb:(ai ((97:Int)<=(c.toNat:Int))&&ai ((c.toNat:Int)<=102))=false:=by
   rw[asT,aqE,aqE];omega
  simp only[hb,i_f];exact hK _ _ ⟨by rw[Lx.digit,anW h1,anW h2,anW h3],rfl⟩
end
end Go.Proofs.YtlipjfcbjemicaaGreatDoor

namespace Go.Proofs.YtlipjfcbjemicaaGreatDoor
variable{A S:Nat->Prop}{K:VWP}{L:List Eng.Ent}{M N:Eng.Mem}{P:Program}{PK PK2:PKT}{T1 T2 U:TypeId}{W w w0:ak}{a e way:Int}{args:Array ao}{b cap d f i j p sz:Nat}{cb:Array Bool}{cs xs:List ao}{ds:List Deferred}{k':IntKind}{key:List UInt8}{o:Ob}{q:Bool}{u:FrameMode}{v vc vk:ao}{xo yo:Operand}{α β:Type}{t0 t1 t2:ao}{k0:Eng.KT}
section
open Eng Go.RowKit
def tokC (x:Lx.Tok):List Value:=[.int .i64 x.k,.int .i64 x.a,.int .i64 x.t,.int .i64 x.n,.string ⟨x.s.toArray⟩]
def ptr (b:Nat)(i:Nat):Value:=.pointer (aw ⟨b,i,av⟩)
section
variable {w:ak}{PK:PKT}{K:VWP}{S:Nat->Prop}{w0:ak}{L:List Ent}
end
end
section
open Eng Go.RowKit
theorem c_64 {n:Int}(h0:0<=n)(h1:n<=255):DoX ah (fA 5 3 (.int .u8 n)) w PK K=K (.int .i64 n) w:=by
 rw[TS (show (Tryz.prog.underlying 5).isSome=au by kernel_rfl) apH,aA om om]
end
end Go.Proofs.YtlipjfcbjemicaaGreatDoor



namespace Go.Proofs.YtlipjfcbjemicaaGreatDoor
variable{A S:Nat->Prop}{K:VWP}{L:List Eng.Ent}{M N:Eng.Mem}{P:Program}{PK PK2:PKT}{T1 T2 U:TypeId}{W w w0:ak}{a e way:Int}{args:Array ao}{b cap d f i j p sz:Nat}{cb:Array Bool}{cs xs:List ao}{ds:List Deferred}{k':IntKind}{key:List UInt8}{o:Ob}{q:Bool}{u:FrameMode}{v vc vk:ao}{xo yo:Operand}{α β:Type}{t0 t1 t2:ao}{k0:Eng.KT}
section
open Eng Go.RowKit
def n3 (vs:List ao):Nat:=(RowKit.intOf (vs.getD 3 undef)).toNat
end
end Go.Proofs.YtlipjfcbjemicaaGreatDoor


namespace Go.Proofs.YtlipjfcbjemicaaGreatDoor
variable{A S:Nat->Prop}{K:VWP}{L:List Eng.Ent}{M N:Eng.Mem}{P:Program}{PK PK2:PKT}{T1 T2 U:TypeId}{W w w0:ak}{a e way:Int}{args:Array ao}{b cap d f i j p sz:Nat}{cb:Array Bool}{cs xs:List ao}{ds:List Deferred}{k':IntKind}{key:List UInt8}{o:Ob}{q:Bool}{u:FrameMode}{v vc vk:ao}{xo yo:Operand}{α β:Type}{t0 t1 t2:ao}{k0:Eng.KT}
section
open Eng
def pK(t0 w)(K:KT):=nz f124 1 [] [] [] (zg [0] [t0]) w K
theorem xP:pK t0 w k0->Calls ah 124 #[t0] w k0:=cw func124
end
section
open Eng Go.RowKit
 attribute [local congr] Ca in
theorem TK (c:UInt8)(w:ak):Ret ah 124 #[.int .u8 c.toNat] w (λv w'=>v=.int .i64 (Lx.digit c)∧w=w'):=by
  refine aK λK hK=>xP ?_;unfold pK nz;have h256:=c.toNat_lt;simp +contextual only[rs,gs];by_cases h1:48<=c.toNat∧c.toNat<=57
  ·have hb:(ai ((48:Int)<=(c.toNat:Int))&&ai ((c.toNat:Int)<=57))=true:=by simp;omega
   simp only[hb,i_t];rw[c_64 om om,TT,aA om om];exact hK _ _ ⟨by rw[Lx.digit,anX h1],rfl⟩
  have hb:(ai ((48:Int)<=(c.toNat:Int))&&ai ((c.toNat:Int)<=57))=false:=by
   rw[asT,aqE,aqE];omega
  simp only[hb,i_f];by_cases h2:65<=c.toNat∧c.toNat<=70
  ·have hb:(ai ((65:Int)<=(c.toNat:Int))&&ai ((c.toNat:Int)<=70))=true:=by simp;omega
   simp only[hb,i_t];rw[c_64 om om,TT,aA om om,H7,aA om om];exact hK _ _ ⟨by rw[Lx.digit,anW h1,anX h2],rfl⟩
  have hb:(ai ((65:Int)<=(c.toNat:Int))&&ai ((c.toNat:Int)<=70))=false:=by
   rw[asT,aqE,aqE];omega
  simp only[hb,i_f];by_cases h3:97<=c.toNat∧c.toNat<=102
  ·have hb:(ai ((97:Int)<=(c.toNat:Int))&&ai ((c.toNat:Int)<=102))=true:=by simp;omega
   simp only[hb,i_t];rw[c_64 om om,TT,aA om om,H7,aA om om];exact hK _ _ ⟨by rw[Lx.digit,anW h1,anW h2,anX h3],rfl⟩
  have hb:(ai ((97:Int)<=(c.toNat:Int))&&ai ((c.toNat:Int)<=102))=false:=by
   rw[asT,aqE,aqE];omega
  simp only[hb,i_f];exact hK _ _ ⟨by rw[Lx.digit,anW h1,anW h2,anW h3],rfl⟩
end
end Go.Proofs.YtlipjfcbjemicaaGreatDoor










namespace Go.Proofs.YtlipjfcbjemicaaGreatDoor
variable{A S:Nat->Prop}{K:VWP}{L:List Eng.Ent}{M N:Eng.Mem}{P:Program}{PK PK2:PKT}{T1 T2 U:TypeId}{W w w0:ak}{a e way:Int}{args:Array ao}{b cap d f i j p sz:Nat}{cb:Array Bool}{cs xs:List ao}{ds:List Deferred}{k':IntKind}{key:List UInt8}{o:Ob}{q:Bool}{u:FrameMode}{v vc vk:ao}{xo yo:Operand}{α β:Type}{t0 t1 t2:ao}{k0:Eng.KT}
section
open Eng Go.RowKit
theorem draw {F:ak->Prop}(h:F w.drew):DrawX w F:=⟨h⟩
end
end Go.Proofs.YtlipjfcbjemicaaGreatDoor


namespace Go.Proofs.YtlipjfcbjemicaaGreatDoor
variable{A S:Nat->Prop}{K:VWP}{L:List Eng.Ent}{M N:Eng.Mem}{P:Program}{PK PK2:PKT}{T1 T2 U:TypeId}{W w w0:ak}{a e way:Int}{args:Array ao}{b cap d f i j p sz:Nat}{cb:Array Bool}{cs xs:List ao}{ds:List Deferred}{k':IntKind}{key:List UInt8}{o:Ob}{q:Bool}{u:FrameMode}{v vc vk:ao}{xo yo:Operand}{α β:Type}{t0 t1 t2:ao}{k0:Eng.KT}
section
open Eng Go.RowKit
theorem CL:∀(l:List Lx.Tok) (k j:Nat) (hk:k < l.length),j < 5->(l.flatMap tokC)[k*5+j]?=(tokC l[k])[j]?
|x::l,0,j,_,hj=>by
  rw[aqC,aqO (by simpa[tokC] using hj)];simp
|x::l,k+1,j,hk,hj=>by
  have h5:(tokC x).length=5:=rfl;rw[aqC,arD (by rw[h5];omega),h5,show (k+1)*5+j - 5=k*5+j by omega];rw[CL l k j (by simpa using hk) hj];simp
end
end Go.Proofs.YtlipjfcbjemicaaGreatDoor


namespace Go.Proofs.YtlipjfcbjemicaaGreatDoor
variable{A S:Nat->Prop}{K:VWP}{L:List Eng.Ent}{M N:Eng.Mem}{P:Program}{PK PK2:PKT}{T1 T2 U:TypeId}{W w w0:ak}{a e way:Int}{args:Array ao}{b cap d f i j p sz:Nat}{cb:Array Bool}{cs xs:List ao}{ds:List Deferred}{k':IntKind}{key:List UInt8}{o:Ob}{q:Bool}{u:FrameMode}{v vc vk:ao}{xo yo:Operand}{α β:Type}{t0 t1 t2:ao}{k0:Eng.KT}
section
open Eng Go.RowKit
theorem smp1:Lx.next [55,46] 0=(⟨2,0,2,70000,[]⟩,0):=by decide +kernel
end
end Go.Proofs.YtlipjfcbjemicaaGreatDoor








namespace Go.Proofs.YtlipjfcbjemicaaGreatDoor
variable{A S:Nat->Prop}{K:VWP}{L:List Eng.Ent}{M N:Eng.Mem}{P:Program}{PK PK2:PKT}{T1 T2 U:TypeId}{W w w0:ak}{a e way:Int}{args:Array ao}{b cap d f i j p sz:Nat}{cb:Array Bool}{cs xs:List ao}{ds:List Deferred}{k':IntKind}{key:List UInt8}{o:Ob}{q:Bool}{u:FrameMode}{v vc vk:ao}{xo yo:Operand}{α β:Type}{t0 t1 t2:ao}{k0:Eng.KT}
section
open Eng Go.RowKit
theorem ZP {wb:ak}(h:ObAt A wb o vk vc cs)(hi:i < o.kids.length) :
  ∃v p,OV A wb v o.kids[i]∧∀W,Kept A wb W->(mIA 23 vc (.int .i64 (i:Int))).run ah W=.ok (.value (.pointer (aw p))) W∧(aJ 25 (.pointer (aw p))).run ah W=.ok (.value v) W:=by
 obtain⟨b,off,cap,rfl,_⟩:=bY h.kids.1 om;obtain⟨a,hl,hov,hget⟩:=OVs.get _ _ i hi h.all;refine⟨.agg a.toArray,⟨b,off+i*6,av⟩,hov,λW hk=>⟨?_,?_⟩⟩
 ·have:=dZ (P:=ah) (T:=23) (b:=b) (off:=off) (cap:=cap) (n:=o.kids.length) (k:=.i64) (i:=(i:Int)) (w:=W) aoW szOb om om;rw[aoF] at this;exact this
 ·obtain⟨b',off',cap',he,hc⟩:=bY (h.kept hk).kids.1 om;cases he;refine bE (v:=.agg a.toArray) (AtV.agg Bl hl λj v hj=>?_);rw[arM];exact hc _ _ (hget j v hj)
section
variable {w:ak}{PK:PKT}{K:VWP}{S:Nat->Prop}{w0:ak}{L:List Ent}
end
end
section
open Eng Go.RowKit
theorem Eng.Mem.le.trans {O:Mem}(h:M.le N)(k:N.le O):M.le O:=Mem.le_trans h k
theorem wO {l:List (List UInt8)}:∀x∈cD l,x.oneCell'=true:=by
 intro x hx;obtain⟨y,_,rfl⟩:=apN.1 hx;rfl
theorem eF {T:TypeId}{n:Nat}(h:(Ent.urow T sz v n xs).is w):v.oneCell'=true:=by
 rcases (show w.ownsRow 0 T sz v n xs from h).2 with ⟨rfl,_⟩|⟨g,cap,cur,rfl,_⟩<;>rfl
theorem Km {A:Nat->Prop}{w:ak}:∀{os:List Ob} {cs:List ao},OVs A w cs os->∀x∈cs,x.oneCell'=au
|[],cs,h=>by rw[OVs] at h;subst h;intro x hx;cases hx
|o::os,cs,h=>by
  rw[OVs] at h;obtain⟨a,rest,rfl,hl,h1,h2⟩:=h;intro x hx;rcases apF.1 hx with hx|hx
  ·obtain⟨vk,vc,cs',he,hk⟩:=h1.open;have e:a.toArray=(obC o vk vc).toArray:=by injection he
   have e:a=obC o vk vc:=by simpa using congrArg Array.toList e
   subst e;exact Kw o hk.keys.one hk.kids.one x hx
  ·exact Km h2 x hx
theorem DW {A:Nat->Prop}{w:ak}:∀{os ps:List Ob} {cs ds:List ao},OVs A w cs os->OVs A w ds ps->OVs A w (cs++ds) (os++ps)
|[],ps,cs,ds,h,k=>by rw[OVs] at h;subst h;simpa using k
|o::os,ps,cs,ds,h,k=>by
  rw[OVs] at h;obtain⟨a,rest,rfl,hl,h1,h2⟩:=h;rw[auN,OVs];exact⟨a,rest++ds,sm,hl,h1,DW h2 k⟩
theorem acE (h:OV A w (obV o vk vc) o):OVs A w (obC o vk vc) [o]:=by
 rw[OVs];exact⟨obC o vk vc,[],sm,rfl,h,OVs.nil⟩
theorem ObAt.le {M N:Mem}{o:Ob}{vk vc:ao}{cs:List ao}(hl:M.le N)(h:ObAt M.A M.w o vk vc cs):ObAt N.A N.w o vk vc cs:=⟨h.keys.le hl,h.kids.le hl,h.all.le hl⟩
theorem adT {k n g:Int}{s:List UInt8}{keys:List (List UInt8)}{kids:List Ob}(h1:SlA M.A M.w vk 1 keys.length (cD keys))(h2:SlA M.A M.w vc 6 kids.length cs)(h3:OVs M.A M.w cs kids):ObAt M.A M.w (.mk k n g s keys kids) vk vc cs:=⟨h1,h2,h3⟩
theorem JD (M:Mem):OV M.A M.w (obV Vl.ob0 (.slice av 0 0) (.slice av 0 0)) Vl.ob0:=(adT (M:=M) (keys:=[]) (kids:=[]) (SlA.nil _ _ _ _) (SlA.nil _ _ _ _) OVs.nil).ov
theorem SS (o:Ob)(hk:vk.oneCell'=au)(hc:vc.oneCell'=au)(w:ak):Ret ah 164 #[obV o vk vc] w (λv w'=>v=obV o vk vc∧Below w.heap.size w w'):=by
 refine aK λK hK=>Fe ?_;unfold B3 nz;refine mW o hk hc (Own.start w) λb w1 ho=>?_;refine jH ho λb2 w2 ho=>?_;rw[ob_v ho 1 rfl];refine cE 0 hk hc ho rfl λw3 ho=>?_;exact lK (bN (ho.agg 0 rfl Bl)) (hK _ _ ⟨rfl,ho.done⟩)
theorem Ps:bZ ah 164=true:=krx
abbrev aiE:Value:=.func (.func 164) #[] #[]
theorem QJ (n:Nat):∀(o:Ob) (v:ao) (M:Mem) (w:ak),o.wt<=n->o.wt<=100000000000->M.has w->OV M.A M.w v o->RetM ah 163 #[v,aiE] M w (λv' N=>OV N.A N.w v' o):=by
 induction n with
|zero=>intro o v M w h;have:=o.Xi;omega
|succ n ih=>
 intro o v M w hn hw hM hv;obtain⟨vk,vc,cs,rfl,ha⟩:=hv.open;have hww:Ob.wts o.kids<=100000000000:=by cases o;rw[Ob.wt] at hw;simp only[Ob.kids];omega
 have hkt:Pl.tot o.keys<=100000000000:=by cases o;rw[Ob.wt] at hw;simp only[Ob.keys];omega
 have hlk:=Ob.Gt o.kids;have hkl:=Pl.qO o.keys;refine aU hM λK hK=>ES ?_;unfold Cb nz;refine mW o ha.keys.one ha.kids.one (OwnS.memS hM) λb w1 ho=>?_;refine jH ho λb4 w2 ho=>?_;rw[ob_v ho 1 rfl];refine HL Ps (aH ho (R:=λv=>v=obV o vk vc) (SS o ha.keys.one ha.kids.one w2) ?_);rintro _ w3 rfl ho;refine cE 1 ha.keys.one ha.kids.one ho rfl λw4 ho=>?_;rw[FR,vD ho 1 rfl];refine Eh (Cc vk _ _ w4 (ha.keys.now (ho.hasM 2 rfl)) wO om) λvk' w5 hnew=>?_;have ho:=ho.join hnew;have ho:OwnS M.A w w5 [.urow 9 1 vk' o.keys.length (cD o.keys),obE b4 ob0 (.slice av 0 0) (.slice av 0 0),obE b o vk vc,.mem M]:=ho;have hk1:vk'.oneCell'=true:=eF (ho.at_ 0 rfl);rw[FR];refine aN 2 ho rfl krx hk1 (show 0+4 < 6 by omega) λw6 ho=>?_;have ho:OwnS M.A w w6 [.urow 9 1 vk' o.keys.length (cD o.keys),obE b4 ob0 (.slice av 0 0) (.slice av 0 0),obE b o vk' vc,.mem M]:=ho;obtain⟨N,hMN,hkeys,ho⟩:=ho.cI 2 rfl;have ho:OwnS M.A w w6 [obE b4 ob0 (.slice av 0 0) (.slice av 0 0),obE b o vk' vc,.mem N]:=ho;refine join λJ hJ=>?_;have fin:∀(W:ak) (N':Mem) (vc':ao) (cs':List ao),OwnS M.A w W [obE b4 ob0 (.slice av 0 0) (.slice av 0 0),obE b o vk' vc',.mem N']->N.le N'->vc'.oneCell'=au->SlA N'.A N'.w vc' 6 o.kids.length cs'->OVs N'.A N'.w cs' o.kids->J [] W:=by
  intro W N' vc' cs' ho hle hc1 h1 h2;refine hJ _ _ λ_=>?_;unfold vQ nz;rw[ob_v ho 1 rfl];refine cE 0 hk1 hc1 ho rfl λw7 ho=>?_;refine lK (bN (ho.agg 0 rfl Bl)) (hK _ _ N' _ 2 ho rfl (hMN.trans hle) ?_);exact ObAt.ov (⟨hkeys.le hle,h1,h2⟩:ObAt N'.A N'.w o vk' vc' cs')
 have hav:=ha.le hMN;rw[yC,gT ho 1 rfl];obtain⟨a,cap,rfl,hnil⟩:∃a cap,vc=.slice a o.kids.length cap∧(a=av->o.kids.length=0):=by
  obtain⟨⟨_,a,cap,e,h1,_⟩,_⟩:=ha.kids;exact⟨a,cap,e,h1⟩
 rw[agA aoW];cases a with
|none=>
  simp only[auZ,aqF,i_f];exact fin _ N _ _ ho N.le_refl rfl hav.kids hav.all
|some p=>
  simp only[avA,aqD,i_t];rw[yC,gT ho 1 rfl,bG aoW];refine QU (sz:=6) (bytes:=88) aoW krx om om ho λg w7 zs hzs ho=>?_;have ho:=ho.toU 6 o.kids.length o.kids.length hzs (aoG _) om;rw[apE om] at ho;rw[yC,gT ho 2 rfl,bG aoW];refine loop (λvs W=>∃(i:Nat) (N':Mem) (cs' zs':List ao),vs=[.int .i64 i]∧i<=o.kids.length∧N.le N'∧OVs N'.A N'.w cs' (o.kids.take i)∧cs'.length=i*6 ∧
    OwnS M.A w W [.urow 25 6 (.slice (aw ⟨g,0,av⟩) o.kids.length o.kids.length) o.kids.length (cs'++zs'),obE b4 ob0 (.slice av 0 0) (.slice av 0 0),obE b o vk' (.slice (aw p) o.kids.length cap),.mem N']) (λvs _=>o.kids.length - n0 vs)
   ⟨0,N,[],zs,rfl,om,N.le_refl,OVs.nil,rfl,ho⟩ ?_
  clear ho;rintro vs w8 ⟨i,N',cs',zs',rfl,hi,hle,hcs',hl',ho⟩ _;simp only[vH,gd,rs,nz];have hrl:=(show w8.ownsRow 0 25 6 _ _ (cs'++zs') from ho.at_ 0 rfl).1;rw[aoC,hl'] at hrl;by_cases hlt:(i:Int) < (o.kids.length:Int)
  ·have hi':i < o.kids.length:=om
   simp only[hlt,aoA,i_t];obtain⟨x,q,hx,hrx⟩:=ZP (hav.le hle) hi';obtain⟨r1,r2⟩:=hrx w8 (ho.hasM 3 rfl);refine aC r1 |>.mpr (aC r2 |>.mpr ?_);obtain⟨xk,xc,xcs,rfl,hxa⟩:=hx.open;refine jH ho λb7 w9 ho=>?_;refine cE 0 hxa.keys.one hxa.kids.one ho rfl λw10 ho=>?_;rw[ob_v ho 0 rfl];have hkw:=Pn hi';refine bI ho 4 rfl (ih _ _ N' w10 om om (ho.hasM 4 rfl) hx) λy N2 w11 hle2 hy ho=>?_;obtain⟨yk,yc,ycs,rfl,hya⟩:=hy.open;have ho:OwnS M.A w w11 [.urow 25 6 (.slice (aw ⟨g,0,av⟩) o.kids.length o.kids.length) o.kids.length (cs'++zs'),obE b4 ob0 (.slice av 0 0) (.slice av 0 0),obE b o vk' (.slice (aw p) o.kids.length cap),.mem N2]:=ho.tail;refine aC (dZ aoW szOb om om) |>.mpr ?_;rw[aoF,aoN];refine FB 0 ho rfl (u:=obV o.kids[i] yk yc) (new:=obC o.kids[i] yk yc) rfl szOb (Kw _ hya.keys.one hya.kids.one) (by show i*6+6<=_;omega) λw12 ho=>?_;rw[aA om om];refine aQ ⟨i+1,N2,cs'++obC o.kids[i] yk yc,zs'.drop 6,rfl,om,hle.trans hle2,?_,?_,?_⟩ (by simp[n0,RowKit.intOf];omega)
   ·rw[apG hi'];exact DW (hcs'.le hle2) (acE hy)
   ·rw[aoC,hl'];show i*6+6=_;omega
   ·have e:(cs'++zs').take (i*6)++obC o.kids[i] yk yc++(cs'++zs').drop (i*6+(obC o.kids[i] yk yc).length)=cs'++obC o.kids[i] yk yc++zs'.drop 6:=by
     rw[aqY hl',asJ,apR (by rw[hl'];omega),apK,hl']
     congr 2
     show i*6+6 - i*6=6;omega
    rw[e] at ho;exact ho
  ·have hi':i=o.kids.length:=om
   subst hi';simp only[hlt,aoB,i_f];have hz:zs'=[]:=asG om;subst hz;rw[aoV,apE (aoG _)] at *;rw[yC];refine aN 2 ho rfl krx rfl (show 0+5 < 6 by omega) λw9 ho=>?_;obtain⟨N2,hle2,hrow,ho⟩:=OwnS.cI (L:=[obE b4 ob0 (.slice av 0 0) (.slice av 0 0),obE b o vk' (.slice (aw ⟨g,0,av⟩) o.kids.length o.kids.length),.mem N']) ho 2 rfl;exact fin _ N2 _ _ ho (hle.trans hle2) rfl hrow (hcs'.le hle2)
theorem EJ (o:Ob)(v:ao)(M:Mem)(w:ak)(hw:o.wt<=100000000000)(hM:M.has w)(hv:OV M.A M.w v o):RetM ah 95 #[v] M w (λv' N=>OV N.A N.w v' o):=by
 obtain⟨vk,vc,cs,rfl,ha⟩:=hv.open;refine aU hM λK hK=>Ip ?_;unfold FP nz;refine mW o ha.keys.one ha.kids.one (OwnS.memS hM) λb w1 ho=>?_;refine jH ho λb4 w2 ho=>?_;rw[ob_v ho 1 rfl];refine bI ho 2 rfl (QJ o.wt o _ M w2 (aoG _) hw (ho.hasM 2 rfl) hv) λy N w3 hle hy ho=>?_;obtain⟨yk,yc,ycs,rfl,hya⟩:=hy.open;refine cE 0 hya.keys.one hya.kids.one ho rfl λw4 ho=>?_;exact lK (bN (ho.agg 0 rfl Bl)) (hK _ _ N _ 2 ho rfl hle hy)
end
end Go.Proofs.YtlipjfcbjemicaaGreatDoor



namespace Go.Proofs.YtlipjfcbjemicaaGreatDoor
variable{A S:Nat->Prop}{K:VWP}{L:List Eng.Ent}{M N:Eng.Mem}{P:Program}{PK PK2:PKT}{T1 T2 U:TypeId}{W w w0:ak}{a e way:Int}{args:Array ao}{b cap d f i j p sz:Nat}{cb:Array Bool}{cs xs:List ao}{ds:List Deferred}{k':IntKind}{key:List UInt8}{o:Ob}{q:Bool}{u:FrameMode}{v vc vk:ao}{xo yo:Operand}{α β:Type}{t0 t1 t2:ao}{k0:Eng.KT}
section
open Eng Go.RowKit
theorem bQ {b:Int}:DoX ah (mEq .neq 30 xo yo (.int .i64 a) (.int .i64 b)) w PK K=K (.bool (ai (a≠b))) w:=X6
end
end Go.Proofs.YtlipjfcbjemicaaGreatDoor

namespace Go.Proofs.YtlipjfcbjemicaaGreatDoor
variable{A S:Nat->Prop}{K:VWP}{L:List Eng.Ent}{M N:Eng.Mem}{P:Program}{PK PK2:PKT}{T1 T2 U:TypeId}{W w w0:ak}{a e way:Int}{args:Array ao}{b cap d f i j p sz:Nat}{cb:Array Bool}{cs xs:List ao}{ds:List Deferred}{k':IntKind}{key:List UInt8}{o:Ob}{q:Bool}{u:FrameMode}{v vc vk:ao}{xo yo:Operand}{α β:Type}{t0 t1 t2:ao}{k0:Eng.KT}
section
open Eng Go.RowKit
abbrev nilS:Value:=.slice av 0 0
abbrev ob1 (k n g:Int)(s:List UInt8):Ob:=.mk k n g s [] []
section
variable {w:ak}{S:Nat->Prop}{w0:ak}{L:List Ent}
theorem UE {K:Ending->ak->Prop}(ho:OwnS S w0 w (obE b o vk vc::L))(k:K (.returned (obV o vk vc)) w):RetX ah [.cell (.pointer (aw ⟨b,0,av⟩)) 25] w K:=lK (bN (ho.agg 0 rfl Bl)) k
end
def obR (o:Ob)(vk vc:ao)(w:ak):VWP:=λv w'=>v=obV o vk vc∧Below w.heap.size w w'
theorem Lc (s:List UInt8)(w:ak):Ret ah 51 #[.string ⟨s.toArray⟩] w (obR (ob1 5 0 0 s) nilS nilS w):=by
 refine aK λK hK=>B1 ?_;unfold uA nz;refine jH (Own.start w) λb w1 ho=>?_;have hb:∀{PK:PKT} {K:VWP},DoX ah (bA 25 #[(0,(.int .i64 5)),(3,.string ⟨s.toArray⟩)]) w1 PK K=K (obV (ob1 5 0 0 s) nilS nilS) w1:=aC krx;rw[hb];refine cE 0 rfl rfl ho rfl λw2 ho=>?_;exact UE ho (hK _ _ ⟨rfl,ho.done⟩)
theorem SW (a:Option Addr)(l c:Nat)(os:List Ob)(w:ak):Ret ah 50 #[.slice a l c] w (obR ((.mk 6 0 0 [] [] os)) nilS (.slice a l c) w):=by
 refine aK λK hK=>xY ?_;unfold pP nz;refine jH (Own.start w) λb w1 ho=>?_;have hb:∀{PK:PKT} {K:VWP},DoX ah (bA 25 #[(0,(.int .i64 6)),(5,.slice a l c)]) w1 PK K=K (obV ((.mk 6 0 0 [] [] os)) nilS (.slice a l c)) w1:=aC krx;rw[hb];refine cE 0 rfl rfl ho rfl λw2 ho=>?_;exact UE ho (hK _ _ ⟨rfl,ho.done⟩)
end
section
open Eng Go.RowKit
def getV (v:ao)(b:Bool):Value:=.tuple #[v,.bool b]
def errV (v:ao)(e:Int):Value:=.tuple #[v,.int .i64 e]
section
variable {w:ak}{S:Nat->Prop}{w0:ak}{L:List Ent}
theorem iJ {K:Ending->ak->Prop}{x:ao}(i:Nat)(ho:OwnS S w0 w L)(hi:L[i]?=aw (obE b o vk vc))(k:K (.returned (.tuple #[obV o vk vc,x])) w):RetX ah [.cell (.pointer (aw ⟨b,0,av⟩)) 25,.val x] w K:=
 Fv (bN (ho.agg i hi Bl)) JH k
theorem OX :DoX ah (bA 25 #[]) w PK K=K (obV Vl.ob0 nilS nilS) w:=aC krx
end
theorem WI (s:List UInt8)(w:ak):Ret ah 69 #[.string ⟨s.toArray⟩] w (obR (ob1 5 0 0 s) nilS nilS w):=by
 refine aK λK hK=>Jl ?_;unfold Hk nz;refine jH (Own.start w) λb w1 ho=>?_;have hb:∀{PK:PKT} {K:VWP},DoX ah (bA 25 #[(0,(.int .i64 5)),(3,.string ⟨s.toArray⟩)]) w1 PK K=K (obV (ob1 5 0 0 s) nilS nilS) w1:=aC krx;rw[hb];refine cE 0 rfl rfl ho rfl λw2 ho=>?_;exact UE ho (hK _ _ ⟨rfl,ho.done⟩)
theorem Ks (o:Ob)(hk:vk.oneCell'=au)(hc:vc.oneCell'=au)(w:ak):Ret ah 138 #[obV o vk vc] w (λv w'=>v=.bool (Vl.keyed o)∧Below w.heap.size w w'):=by
 refine aK λK hK=>H3 ?_;unfold Fg nz;refine mW o hk hc (Own.start w) λb w1 ho=>?_;rw[oL,ob_k ho 0 rfl];unfold Vl.keyed at hK;by_cases h7:o.k=7
 ·simp only[rs,h7,aoA,g_un];exact hK _ _ ⟨by simp[h7],ho.done⟩
 ·simp only[rs,h7,aoB,oL,ob_k ho 0 rfl];exact hK _ _ ⟨by simp[h7],ho.done⟩
theorem IF (o:Ob)(v:ao)(key:List UInt8)(M:Mem)(w:ak)(hw:o.wt<=100000000000)(hM:M.has w)(hv:OV M.A M.w v o) :
  RetM ah 146 #[v,.string ⟨key.toArray⟩] M w (λr N=>∃v',r=getV v' (Vl.get o key).isSome∧OV N.A N.w v' ((Vl.get o key).getD Vl.ob0)):=by
 obtain⟨vk,vc,cs,rfl,ha⟩:=hv.open;have hww:Ob.wts o.kids<=100000000000:=by cases o;rw[Ob.wt] at hw;simp only[Ob.kids];omega
 have hkt:Pl.tot o.keys<=100000000000:=by cases o;rw[Ob.wt] at hw;simp only[Ob.keys];omega
 have hkl:=Pl.qO o.keys;have hlk:=Ob.Gt o.kids;refine aU hM λK hK=>KH ?_;unfold I6 nz;refine mW o ha.keys.one ha.kids.one (OwnS.memS hM) λb w1 ho=>?_;refine jH ho λb4 w2 ho=>?_;rw[ob_v ho 1 rfl];refine aH ho (R:=λv=>v=.bool (Vl.keyed o)) (Ks o ha.keys.one ha.kids.one w2) ?_;rintro _ w3 rfl ho;have no:∀{W:ak},OwnS M.A w W [obE b4 ob0 nilS nilS,obE b o vk vc,.mem M]->Vl.get o key=av->DoX ah (bA 25 #[]) W (pk K) (λt W=>DoX ah (aV 25 (.pointer (aw ⟨b4,0,av⟩)) t) W (pk K) λ_ W=>RetX ah [.cell (.pointer (aw ⟨b4,0,av⟩)) 25,.val (.bool aq)] W K):=by
  intro W ho hg;rw[OX];refine cE 0 rfl rfl ho rfl λw4 ho=>?_;refine iJ 0 ho rfl (hK _ _ M _ 2 ho rfl M.le_refl ⟨obV Vl.ob0 nilS nilS,?_,?_⟩)
  ·rw[hg];rfl
  ·rw[hg];exact JD M
 cases hkd:Vl.keyed o with
|false=>
  simp only[rs,aqD];exact no ho (by unfold Vl.get;rw[hkd];rfl)
|true=>
  simp only[rs,aqF];rw[FR,vD ho 1 rfl];refine c_eq (TD vk o.keys key w3 (ha.keys.now (ho.hasM 2 rfl)) om) ?_;by_cases hi:o.keys.idxOf key < o.keys.length
  ·rw[anX hi];have h0:¬((o.keys.idxOf key:Int) < 0):=om
   simp only[rs,h0,aoB,yC,gT ho 1 rfl];rw[bB aoW (ha.kids.now (ho.hasM 2 rfl))];simp only[rs];by_cases hc:(o.kids.length:Int)<=(o.keys.idxOf key:Int)
   ·simp only[hc,aoA,rs];refine no ho ?_;unfold Vl.get;rw[hkd,anX rfl,anX hi,aqB om]
   ·simp only[hc,aoB,rs,yC,gT ho 1 rfl];have hi':o.keys.idxOf key < o.kids.length:=om
    have hg:Vl.get o key=aw o.kids[o.keys.idxOf key]:=by
     unfold Vl.get;rw[hkd,anX rfl,anX hi,aoI hi']
    obtain⟨x,q,hx,hrx⟩:=ZP ha hi';obtain⟨r1,r2⟩:=hrx w3 (ho.hasM 2 rfl);refine aC r1 |>.mpr (aC r2 |>.mpr ?_);have hkw:=Pn hi';refine bI ho 2 rfl (EJ _ x M w3 om (ho.hasM 2 rfl) hx) λy N w4 hle hy ho=>?_;obtain⟨yk,yc,ycs,rfl,hya⟩:=hy.open;refine cE 0 hya.keys.one hya.kids.one ho rfl λw5 ho=>?_;refine iJ 0 ho rfl (hK _ _ N _ 2 ho rfl hle ⟨obV o.kids[o.keys.idxOf key] yk yc,?_,?_⟩)
    ·rw[hg];rfl
    ·rw[hg];exact hy
  ·rw[anW hi];have h0:((-1:Int) < 0):=om
   simp only[rs,h0,aoA,g_un];refine no ho ?_;unfold Vl.get;rw[hkd,anX rfl,anW hi]
theorem NF (o:Ob)(v:ao)(M:Mem)(w:ak)(hw:o.wt<=100000000000)(hM:M.has w)(hv:OV M.A M.w v o) :
  RetM ah 139 #[v] M w (λr N=>∃v',r=errV v' (Vl.right o).2∧OV N.A N.w v' (Vl.right o).1):=by
 obtain⟨vk,vc,cs,rfl,ha⟩:=hv.open;refine aU hM λK hK=>Iv ?_;unfold F3 nz;refine mW o ha.keys.one ha.kids.one (OwnS.memS hM) λb w1 ho=>?_;refine jH ho λb4 w2 ho=>?_;rw[ob_v ho 1 rfl];refine aH ho (R:=λv=>v=.int .i64 (Vl.check 1 o)) (vM o _ w2 (OV.inw (ho.hasM 2 rfl) hv) om) ?_;rintro _ w3 rfl ho;simp only[bQ];by_cases hc:Vl.check 1 o=0
 ·simp only[hc,ne_eq,not_true,aoB,i_f];rw[ob_v ho 1 rfl];refine cE 0 ha.keys.one ha.kids.one ho rfl λw4 ho=>?_;refine iJ 0 ho rfl (hK _ _ M _ 2 ho rfl M.le_refl ⟨obV o vk vc,?_,?_⟩)
  ·simp[Vl.right,hc,errV]
  ·simpa[Vl.right,hc] using hv
 ·simp only[hc,ne_eq,arX,aoA,i_t];rw[OX];refine cE 0 rfl rfl ho rfl λw4 ho=>?_;refine iJ 0 ho rfl (hK _ _ M _ 2 ho rfl M.le_refl ⟨obV Vl.ob0 nilS nilS,?_,?_⟩)
  ·simp[Vl.right,hc,errV]
  ·simpa[Vl.right,hc] using JD M
end
section
open Go
namespace Vl
theorem Om (l:List (List UInt8))(i:Nat):Pl.tot (l.take i)+Pl.tot (l.drop i)=Pl.tot l:=by
 rw[<-Pl.L1,apS]
theorem Qz:∀a b:List Ob,Ob.wts (a++b)=Ob.wts a+Ob.wts b
|[],b=>by rw[apK,Ob.wts];omega
|o::a,b=>by rw[auN,Ob.wts,Ob.wts,Qz a b];omega
theorem NK (l:List Ob)(i:Nat):Ob.wts (l.take i)+Ob.wts (l.drop i)=Ob.wts l:=by
 rw[<-Qz,apS]
theorem XZ (l:List (List UInt8))(i j:Nat)(h:i<=j):Pl.tot (l.drop j)<=Pl.tot (l.drop i):=by
 have:=Om (l.drop i) (j - i);rw[arE,show i+(j - i)=j by omega] at this;omega
theorem Y8 (l:List Ob)(i j:Nat)(h:i<=j):Ob.wts (l.drop j)<=Ob.wts (l.drop i):=by
 have:=NK (l.drop i) (j - i);rw[arE,show i+(j - i)=j by omega] at this;omega
theorem HO (o:Ob):o.wt=6+o.s.length+Pl.tot o.keys+Ob.wts o.kids:=by cases o;rw[Ob.wt];rfl
theorem ahI (o:Ob)(key:List UInt8)(v:Ob):(put o key v).wt<=o.wt+(key.length+1)+v.wt:=by
 rw[HO (put o key v),HO o];rw[show (put o key v).s=o.s from rfl,show (put o key v).keys=o.keys.take (place o.keys key)++key::o.keys.drop (place o.keys key+if hit o.keys key then 1 else 0) from rfl,
  show (put o key v).kids=o.kids.take (place o.keys key)++v::o.kids.drop (place o.keys key+if hit o.keys key then 1 else 0) from rfl]
 rw[Pl.L1,Qz];have h1:=Om o.keys (place o.keys key);have h2:=XZ o.keys (place o.keys key) (place o.keys key+if hit o.keys key then 1 else 0) om;have h3:=NK o.kids (place o.keys key);have h4:=Y8 o.kids (place o.keys key) (place o.keys key+if hit o.keys key then 1 else 0) om;have h5:∀l,Pl.tot (key::l)=key.length+1+Pl.tot l:=λl=>by simp[Pl.tot]
 rw[h5,Ob.wts];omega
theorem RJ (key:List UInt8):∀(ks:List (List UInt8)) (cs:List Ob),Pl.tot (gH key ks cs).1<=Pl.tot ks∧Ob.wts (gH key ks cs).2<=Ob.wts cs
|[],cs=>by simp[gH,Pl.tot,Ob.wts]
|k::ks,[]=>by simp[gH,Pl.tot,Ob.wts]
|k::ks,c::cs=>by
  have h5:∀a l,Pl.tot (a::l)=a.length+1+Pl.tot l:=λa l=>by simp[Pl.tot]
  obtain⟨h1,h2⟩:=RJ key ks cs;rw[gH];split
  ·rw[h5,Ob.wts];exact⟨om,om⟩
  ·rw[h5,h5,Ob.wts,Ob.wts];exact⟨om,om⟩
theorem CO (o:Ob)(key:List UInt8):(bC o key).wt<=o.wt:=by
 rw[HO (bC o key),HO o];have:=RJ key o.keys o.kids;rw[show (bC o key).s=o.s from rfl,show (bC o key).keys=(gH key o.keys o.kids).1 from rfl,show (bC o key).kids=(gH key o.keys o.kids).2 from rfl];omega
end Vl
end
section
open Eng Go.RowKit
theorem OwnS.sep (ho:OwnS S w0 w L)(i j:Nat)(hij:i≠j){e f:Ent}(hi:L[i]?=aw e)(hj:L[j]?=aw f):∀k,e.blk k->¬f.blk k:=by
 obtain⟨hil,rfl⟩:=aoX.1 hi;obtain⟨hjl,rfl⟩:=aoX.1 hj;have hp:=asM.1 ho.apart;intro k hk hk';rcases apD i j with h|h
 ·exact hp i j hil hjl h k hk hk'
 ·exact hp j i hjl hil om k hk' hk
section
variable {w:ak}{S:Nat->Prop}{w0:ak}{L:List Ent}{PK:PKT}{K:VWP}
theorem Lp (o:Ob)(hk:vk.oneCell'=au)(hc:vc.oneCell'=au)(ho:OwnS S w0 w L)(k:∀b w',OwnS S w0 w' (obE b o vk vc::L)->K (.slice (aw ⟨b,0,av⟩) 1 1) w'):DoX ah (bF 23 1 #[(0,obV o vk vc)]) w PK K:=by
 cases vk<;>first|(cases hk;done)|skip
 all_goals cases vc<;>first|(cases hc;done)|exact bD (λb=>.slice (aw ⟨b,0,av⟩) 1 1) (obC o _ _) 25 (λ_=>by kernel_rfl) ho k
theorem abX (s:List UInt8)(ho:OwnS S w0 w L)(k:∀b w',OwnS S w0 w' (.cells b [.string ⟨s.toArray⟩] 9::L)->K (.slice (aw ⟨b,0,av⟩) 1 1) w'):DoX ah (bF 22 1 #[(0,.string ⟨s.toArray⟩)]) w PK K:=
 bD (λb=>.slice (aw ⟨b,0,av⟩) 1 1) [.string ⟨s.toArray⟩] 9 (λ_=>by kernel_rfl) ho k
end
theorem LN (l:List (List UInt8))(i:Nat):(cD l).take (i*1)=cD (l.take i):=by rw[aoS];simp[cD]
theorem K9 (l:List (List UInt8))(i:Nat):(cD l).drop (i*1)=cD (l.drop i):=by rw[aoS];simp[cD]
theorem Ow (a b:List (List UInt8)):cD (a++b)=cD a++cD b:=by simp[cD]
theorem I1 {A:Nat->Prop}{w:ak}:∀{os:List Ob} {cs:List ao} (i:Nat),OVs A w cs os->OVs A w (cs.take (i*6)) (os.take i)
|_,_,0,_=>by rw[arJ,arP,arP];exact OVs.nil
|[],cs,i+1,h=>by rw[OVs] at h;subst h;rw[List.take_nil,List.take_nil];exact OVs.nil
|o::os,cs,i+1,h=>by
  rw[OVs] at h;obtain⟨a,rest,rfl,hl,h1,h2⟩:=h;have e:(a++rest).take ((i+1)*6)=a++rest.take (i*6):=by
   rw[avC,apE om]
   congr 2
   omega
  rw[e,avH,OVs];exact⟨a,_,rfl,hl,h1,I1 i h2⟩
theorem IL {A:Nat->Prop}{w:ak}:∀{os:List Ob} {cs:List ao} (i:Nat),OVs A w cs os->OVs A w (cs.drop (i*6)) (os.drop i)
|_,_,0,h=>by rw[arJ,aqH,aqH];exact h
|[],cs,i+1,h=>by rw[OVs] at h;subst h;rw[List.drop_nil,List.drop_nil];exact OVs.nil
|o::os,cs,i+1,h=>by
  rw[OVs] at h;obtain⟨a,rest,rfl,hl,h1,h2⟩:=h;have e:(a++rest).drop ((i+1)*6)=rest.drop (i*6):=by
   rw[asJ,apR om,apK]
   congr 1
   omega
  rw[e,avD];exact IL i h2
theorem Yh (o x:Ob)(v u:ao)(key:List UInt8)(M:Mem)(w:ak)(hw:o.wt<=10000000000)(hM:M.has w)(hv:OV M.A M.w v o)(hu:OV M.A M.w u x)(hr:Vl.Rise o.keys)(hlen:o.keys.length=o.kids.length) :
  RetM ah 140 #[v,.string ⟨key.toArray⟩,u] M w (λr N=>OV N.A N.w r (Vl.put o key x)):=by
 obtain⟨vk,vc,cs,rfl,ha⟩:=hv.open;obtain⟨xk,xc,xcs,rfl,hx⟩:=hu.open;have hww:Ob.wts o.kids<=10000000000:=by cases o;rw[Ob.wt] at hw;simp only[Ob.kids];omega
 have hkt:Pl.tot o.keys<=10000000000:=by cases o;rw[Ob.wt] at hw;simp only[Ob.keys];omega
 have hkl:=Pl.qO o.keys;have hlk:=Ob.Gt o.kids;refine aU hM λK hK=>JU ?_;unfold HC nz;refine mW o ha.keys.one ha.kids.one (OwnS.memS hM) λb3 w1 ho=>?_;refine mW x hx.keys.one hx.kids.one ho λb5 w2 ho=>?_;refine jH ho λb6 w3 ho=>?_;rw[FR,vD ho 2 rfl];refine c_eq (Js vk o.keys key w3 (ha.keys.now (ho.hasM 3 rfl)) hr om) ?_;simp only[ex];rw[FR,vD ho 2 rfl];refine Eh (Cc vk _ _ w3 (ha.keys.now (ho.hasM 3 rfl)) wO om) λvk1 w4 hnew=>?_;have ho:=ho.join hnew;have ho:OwnS M.A w w4 [.urow 9 1 vk1 o.keys.length (cD o.keys),obE b6 ob0 nilS nilS,obE b5 x xk xc,obE b3 o vk vc,.mem M]:=ho;rw[FR];refine aN 3 ho rfl krx (eF (ho.at_ 0 rfl)) (show 0+4 < 6 by omega) λw5 ho=>?_;have ho:OwnS M.A w w5 [.urow 9 1 vk1 o.keys.length (cD o.keys),obE b6 ob0 nilS nilS,obE b5 x xk xc,obE b3 o vk1 vc,.mem M]:=ho;rw[yC,gT ho 3 rfl];refine Eh (Hz vc _ _ w5 (ha.kids.now (ho.hasM 4 rfl)) (Km ha.all) om) λvc1 w6 hnew=>?_;have ho:=ho.join hnew;have ho:OwnS M.A w w6 [.urow 25 6 vc1 o.kids.length cs,.urow 9 1 vk1 o.keys.length (cD o.keys),obE b6 ob0 nilS nilS,obE b5 x xk xc,obE b3 o vk1 vc,.mem M]:=ho;rw[yC];refine aN 4 ho rfl krx (eF (ho.at_ 0 rfl)) (show 0+5 < 6 by omega) λw7 ho=>?_;have ho:OwnS M.A w w7 [.urow 25 6 vc1 o.kids.length cs,.urow 9 1 vk1 o.keys.length (cD o.keys),obE b6 ob0 nilS nilS,obE b5 x xk xc,obE b3 o vk1 vc1,.mem M]:=ho;have hple:=Vl.Ym o.keys key;refine join λJ hJ=>?_;have fin:∀(W:ak) (kv cv:ao) (ks:List (List UInt8)) (os:List Ob) (ds:List ao),OwnS M.A w W [.urow 25 6 cv os.length ds,.urow 9 1 kv ks.length (cD ks),obE b6 ob0 nilS nilS,obE b5 x xk xc,obE b3 o kv cv,.mem M] ->
   OVs M.A M.w ds os->Vl.put o key x=.mk o.k o.n o.g o.s ks os->J [] W:=by
  intro W kv cv ks os ds ho hall hput;refine hJ _ _ λ_=>?_;unfold Dx nz;have hk1:=eF (ho.at_ 1 rfl);have hc1:=eF (ho.at_ 0 rfl);obtain⟨N,hle,hrow,ho⟩:=OwnS.cI (L:=[.urow 9 1 kv ks.length (cD ks),obE b6 ob0 nilS nilS,obE b5 x xk xc,obE b3 o kv cv,.mem M]) ho 4 rfl;obtain⟨N2,hle2,hrow2,ho⟩:=OwnS.cI (L:=[obE b6 ob0 nilS nilS,obE b5 x xk xc,obE b3 o kv cv,.mem N]) ho 3 rfl;have ho:OwnS M.A w W [obE b6 ob0 nilS nilS,obE b5 x xk xc,obE b3 o kv cv,.mem N2]:=ho;rw[ob_v ho 2 rfl];refine cE 0 hk1 hc1 ho rfl λw8 ho=>?_;refine lK (bN (ho.agg 0 rfl Bl)) (hK _ _ N2 _ 3 ho rfl (hle.trans hle2) ?_);rw[hput];exact ObAt.ov (o:=.mk o.k o.n o.g o.s ks os) ⟨hrow2,hrow.le hle2,hall.le (hle.trans hle2)⟩
 cases hh:Vl.hit o.keys key with
|true=>
  simp only[i_t];have hi:o.keys[Vl.place o.keys key]?=aw key:=aoU hh;have hlt:Vl.place o.keys key < o.keys.length:=(aoX.1 hi).1;have hg:o.keys[Vl.place o.keys key]=key:=(aoX.1 hi).2;rw[yC,gT ho 4 rfl,ob_v ho 3 rfl];obtain⟨g,cap,rfl⟩:=rW (ho.at_ 0 rfl) om;refine aC (dZ aoW szOb om om) |>.mpr ?_;rw[aoF,aoN];have hcl:cs.length=o.kids.length*6:=ha.kids.1.1;refine FB 0 ho rfl (u:=obV x xk xc) (new:=obC x xk xc) rfl szOb (Kw _ hx.keys.one hx.kids.one) (by show _+6<=_;omega) λw8 ho=>?_;have e1:o.keys.take (Vl.place o.keys key)++key::o.keys.drop (Vl.place o.keys key+1)=o.keys:=by
   conv=>rhs;rw[<-apS (Vl.place o.keys key) o.keys,apV hlt,hg]
  refine fin w8 vk1 (.slice (aw ⟨g,0,av⟩) o.kids.length cap) o.keys (o.kids.take (Vl.place o.keys key)++x::o.kids.drop (Vl.place o.keys key+1)) (cs.take (Vl.place o.keys key*6)++obC x xk xc++cs.drop (Vl.place o.keys key*6+6)) ?_ ?_ ?_
  ·have el:(o.kids.take (Vl.place o.keys key)++x::o.kids.drop (Vl.place o.keys key+1)).length=o.kids.length:=by simp;omega
   rw[el];exact ho
  ·have:=DW (I1 (Vl.place o.keys key) ha.all) (DW (acE hu) (IL (Vl.place o.keys key+1) ha.all));rw[show (Vl.place o.keys key+1)*6=Vl.place o.keys key*6+6 by omega,<-aoL] at this;exact this
  ·unfold Vl.put;rw[hh];simp only[if_true];rw[e1]
|false=>
  simp only[i_f];rw[FR,vD ho 4 rfl];refine abX key ho λnb w8 ho=>?_;refine qR 2 ho rfl (MG vk1 o.keys.length (cD o.keys) (Vl.place o.keys key) nb [.string ⟨key.toArray⟩] w8 (ho.at_ 2 rfl) (ho.at_ 0 rfl) rfl (λh=>(OwnS.sep ho 2 0 om rfl rfl) nb h rfl) wO (by simp[Value.oneCell']) hple om) ?_;rintro kv e' w9 rfl ho;have ho:OwnS M.A w w9 [.cells nb [.string ⟨key.toArray⟩] 9,.urow 25 6 vc1 o.kids.length cs,.urow 9 1 kv (o.keys.length+1) ((cD o.keys).take (Vl.place o.keys key*1)++[.string ⟨key.toArray⟩]++(cD o.keys).drop (Vl.place o.keys key*1)),obE b6 ob0 nilS nilS,obE b5 x xk xc,obE b3 o vk1 vc1,.mem M]:=ho;rw[LN,K9] at ho;have ho:=ho.tail;rw[FR];refine aN 4 ho rfl krx (eF (ho.at_ 1 rfl)) (show 0+4 < 6 by omega) λw10 ho=>?_;have ho:OwnS M.A w w10 [.urow 25 6 vc1 o.kids.length cs,.urow 9 1 kv (o.keys.length+1) (cD (o.keys.take (Vl.place o.keys key))++[.string ⟨key.toArray⟩]++cD (o.keys.drop (Vl.place o.keys key))),obE b6 ob0 nilS nilS,obE b5 x xk xc,obE b3 o kv vc1,.mem M]:=ho;rw[yC,gT ho 4 rfl,ob_v ho 3 rfl];refine Lp x hx.keys.one hx.kids.one ho λnb2 w11 ho=>?_;refine qR 1 ho rfl (Mx vc1 o.kids.length cs (Vl.place o.keys key) nb2 (obC x xk xc) w11 (ho.at_ 1 rfl) (ho.at_ 0 rfl) rfl (λh=>(OwnS.sep ho 1 0 om rfl rfl) nb2 h rfl) (Km ha.all) (Kw _ hx.keys.one hx.kids.one) om om) ?_;rintro cv e' w12 rfl ho;have ho:OwnS M.A w w12 [.cells nb2 (obC x xk xc) 25,.urow 25 6 cv (o.kids.length+1) (cs.take (Vl.place o.keys key*6)++obC x xk xc++cs.drop (Vl.place o.keys key*6)),.urow 9 1 kv (o.keys.length+1) (cD (o.keys.take (Vl.place o.keys key))++[.string ⟨key.toArray⟩]++cD (o.keys.drop (Vl.place o.keys key))),obE b6 ob0 nilS nilS,obE b5 x xk xc,obE b3 o kv vc1,.mem M]:=ho;have ho:=ho.tail;rw[yC];refine aN 4 ho rfl krx (eF (ho.at_ 0 rfl)) (show 0+5 < 6 by omega) λw13 ho=>?_;refine fin w13 kv cv (o.keys.take (Vl.place o.keys key)++key::o.keys.drop (Vl.place o.keys key)) (o.kids.take (Vl.place o.keys key)++x::o.kids.drop (Vl.place o.keys key)) (cs.take (Vl.place o.keys key*6)++obC x xk xc++cs.drop (Vl.place o.keys key*6)) ?_ ?_ ?_
  ·have el:(o.kids.take (Vl.place o.keys key)++x::o.kids.drop (Vl.place o.keys key)).length=o.kids.length+1:=by simp;omega
   have el2:(o.keys.take (Vl.place o.keys key)++key::o.keys.drop (Vl.place o.keys key)).length=o.keys.length+1:=by simp;omega
   have es:cD (o.keys.take (Vl.place o.keys key)++key::o.keys.drop (Vl.place o.keys key))=cD (o.keys.take (Vl.place o.keys key))++[.string ⟨key.toArray⟩]++cD (o.keys.drop (Vl.place o.keys key)):=by
    rw[Ow];simp[cD,strV]
   rw[el,el2,es];exact ho
  ·have:=DW (I1 (Vl.place o.keys key) ha.all) (DW (acE hu) (IL (Vl.place o.keys key) ha.all));rw[<-aoL] at this;exact this
  ·unfold Vl.put;rw[hh];simp
end
section
open Eng Go.RowKit
theorem Sl.upto {a:Option Addr}{n:Nat}(h:Sl w (.slice a n cap) sz n cs)(hi:i<=n):Sl w (.slice (subA a 0 cap sz) i cap) sz i (cs.take (i*sz)):=by
 obtain⟨hl,a',cap',e,h1,h2⟩:=h
 injection e with e1 _ e3
 subst e1;subst e3;refine⟨by rw[aoH,hl,apI (apQ _ hi)],subA a 0 cap sz,cap,rfl,?_,?_⟩
 ·intro hn;cases a with
 |none=>have:=h1 rfl;omega
 |some p=>unfold subA at hn;split at hn<;>simp at hn
 ·intro p hp;cases a with
 |none=>unfold subA at hp;split at hp<;>simp at hp
 |some q=>
   have hq:q=p:=by
    unfold subA at hp;split at hp
    ·exact arH hp
    ·have:=arH hp;rw[<-this];simp[Addr.add]
   subst hq;refine⟨λh=>(h2 q rfl).1 om,λj u hj=>(h2 q rfl).2 j u ?_⟩;rw[arB] at hj;split at hj<;>first|exact hj|cases hj
theorem Sl.from {a:Option Addr}{n:Nat}(h:Sl w (.slice a n cap) sz n cs)(hi:i<=n)(hc:n<=cap):Sl w (.slice (subA a i cap sz) (n - i) (cap - i)) sz (n - i) (cs.drop (i*sz)):=by
 obtain⟨hl,a',cap',e,h1,h2⟩:=h
 injection e with e1 _ e3
 subst e1;subst e3;refine⟨by rw[aoJ,hl,<-auF],subA a i cap sz,cap - i,rfl,?_,?_⟩
 ·intro hn;cases a with
 |none=>have:=h1 rfl;omega
 |some p=>unfold subA at hn;split at hn<;>simp at hn
 ·intro p hp;cases a with
 |none=>unfold subA at hp;split at hp<;>simp at hp
 |some q=>
   by_cases hci:cap=i
   ·have hn:n - i=0:=om
    refine⟨λh=>by omega,λj u hj=>?_⟩;have:(cs.drop (i*sz)).length=0:=by rw[aoJ,hl,<-auF,hn,arJ]
    have:=(aoX.1 hj).1;omega
   ·unfold subA at hp;rw[anW hci,atG] at hp
    injection hp with hp
    have hsz:0 < n - i->q.spot=none:=λh=>(h2 q rfl).1 om;refine⟨λh=>?_,λj u hj=>?_⟩
    ·have hs:=hsz h;rw[<-hp];obtain⟨b,off,spot⟩:=q;simp only at hs;subst hs;rw[cK]
    ·rw[aqG] at hj;have hc2:=(h2 q rfl).2 (i*sz+j) u hj;have hjl:=(aoX.1 hj).1;have hs:q.spot=none:=(h2 q rfl).1 (by
      rcases arF n with h0|h0
      ·rw[hl,h0,arJ] at hjl;omega
      ·exact h0)
     rw[<-hp];obtain⟨b,off,spot⟩:=q;simp only at hs;subst hs;rw[cK,arM];exact hc2
theorem SlA.form {n:Nat}(h:SlA A w v sz n cs):∃a cap,v=.slice a n cap∧n<=cap:=by
 obtain⟨⟨_,a,cap,rfl,_⟩,_,h3⟩:=h;exact⟨a,cap,rfl,h3 a n cap rfl⟩
theorem OU (o:Ob)(v:ao)(i:Nat)(M:Mem)(w:ak)(hw:o.wt<=10000000000)(hM:M.has w)(hv:OV M.A M.w v o)(hi:i < o.keys.length)(hlen:o.keys.length=o.kids.length) :
  RetM ah 155 #[v,.int .i64 (i:Int)] M w (λr N=>OV N.A N.w r (.mk o.k o.n o.g o.s (o.keys.take i++o.keys.drop (i+1)) (o.kids.take i++o.kids.drop (i+1)))):=by
 obtain⟨vk,vc,cs,rfl,ha⟩:=hv.open;have hww:Ob.wts o.kids<=10000000000:=by cases o;rw[Ob.wt] at hw;simp only[Ob.kids];omega
 have hkt:Pl.tot o.keys<=10000000000:=by cases o;rw[Ob.wt] at hw;simp only[Ob.keys];omega
 have hkl:=Pl.qO o.keys;have hlk:=Ob.Gt o.kids;refine aU hM λK hK=>EO ?_;unfold Br nz;refine mW o ha.keys.one ha.kids.one (OwnS.memS hM) λb2 w1 ho=>?_;refine jH ho λb4 w2 ho=>?_;rw[FR,vD ho 1 rfl];refine Eh (Cc vk _ _ w2 (ha.keys.now (ho.hasM 2 rfl)) wO om) λvk1 w3 hnew=>?_;have ho:=ho.join hnew;have ho:OwnS M.A w w3 [.urow 9 1 vk1 o.keys.length (cD o.keys),obE b4 ob0 nilS nilS,obE b2 o vk vc,.mem M]:=ho;simp only[rs];rw[aA om om,show (i:Int)+1=((i+1:Nat):Int) by omega];refine qR 0 ho rfl (MH vk1 o.keys.length (cD o.keys) i w3 (ho.at_ 0 rfl) wO hi om) ?_;rintro kv e' w4 rfl ho;have ho:OwnS M.A w w4 [.urow 9 1 kv (o.keys.length - 1) ((cD o.keys).take (i*1)++(cD o.keys).drop ((i+1)*1)),obE b4 ob0 nilS nilS,obE b2 o vk vc,.mem M]:=ho;rw[LN,K9] at ho;rw[FR];have hk1:=eF (ho.at_ 0 rfl);refine aN 2 ho rfl krx hk1 (show 0+4 < 6 by omega) λw5 ho=>?_;have ho:OwnS M.A w w5 [.urow 9 1 kv (o.keys.length - 1) (cD (o.keys.take i)++cD (o.keys.drop (i+1))),obE b4 ob0 nilS nilS,obE b2 o kv vc,.mem M]:=ho;rw[yC,gT ho 2 rfl];refine Eh (Hz vc _ _ w5 (ha.kids.now (ho.hasM 3 rfl)) (Km ha.all) om) λvc1 w6 hnew=>?_;have ho:=ho.join hnew;have ho:OwnS M.A w w6 [.urow 25 6 vc1 o.kids.length cs,.urow 9 1 kv (o.keys.length - 1) (cD (o.keys.take i)++cD (o.keys.drop (i+1))),obE b4 ob0 nilS nilS,obE b2 o kv vc,.mem M]:=ho;refine qR 0 ho rfl (MF vc1 o.kids.length cs i w6 (ho.at_ 0 rfl) (Km ha.all) om om) ?_;rintro cv e' w7 rfl ho;have ho:OwnS M.A w w7 [.urow 25 6 cv (o.kids.length - 1) (cs.take (i*6)++cs.drop ((i+1)*6)),.urow 9 1 kv (o.keys.length - 1) (cD (o.keys.take i)++cD (o.keys.drop (i+1))),obE b4 ob0 nilS nilS,obE b2 o kv vc,.mem M]:=ho;have hc1:=eF (ho.at_ 0 rfl);rw[yC];refine aN 3 ho rfl krx hc1 (show 0+5 < 6 by omega) λw8 ho=>?_;have ho:OwnS M.A w w8 [.urow 25 6 cv (o.kids.length - 1) (cs.take (i*6)++cs.drop ((i+1)*6)),.urow 9 1 kv (o.keys.length - 1) (cD (o.keys.take i)++cD (o.keys.drop (i+1))),obE b4 ob0 nilS nilS,obE b2 o kv cv,.mem M]:=ho;obtain⟨N,hle,hrow,ho⟩:=OwnS.cI (L:=[.urow 9 1 kv (o.keys.length - 1) (cD (o.keys.take i)++cD (o.keys.drop (i+1))),obE b4 ob0 nilS nilS,obE b2 o kv cv,.mem M]) ho 3 rfl;obtain⟨N2,hle2,hrow2,ho⟩:=OwnS.cI (L:=[obE b4 ob0 nilS nilS,obE b2 o kv cv,.mem N]) ho 2 rfl;have ho:OwnS M.A w w8 [obE b4 ob0 nilS nilS,obE b2 o kv cv,.mem N2]:=ho;rw[ob_v ho 1 rfl];refine cE 0 hk1 hc1 ho rfl λw9 ho=>?_;refine lK (bN (ho.agg 0 rfl Bl)) (hK _ _ N2 _ 2 ho rfl (hle.trans hle2) ?_);have el1:(o.keys.take i++o.keys.drop (i+1)).length=o.keys.length - 1:=by simp;omega
 have el2:(o.kids.take i++o.kids.drop (i+1)).length=o.kids.length - 1:=by simp;omega
 refine ObAt.ov (o:=.mk o.k o.n o.g o.s (o.keys.take i++o.keys.drop (i+1)) (o.kids.take i++o.kids.drop (i+1))) (vk:=kv) (vc:=cv) (cs:=cs.take (i*6)++cs.drop ((i+1)*6)) ⟨?_,?_,?_⟩
 ·show SlA N2.A N2.w kv 1 (o.keys.take i++o.keys.drop (i+1)).length (cD (o.keys.take i++o.keys.drop (i+1)));rw[el1,Ow];exact hrow2
 ·show SlA N2.A N2.w cv 6 (o.kids.take i++o.kids.drop (i+1)).length _;rw[el2];exact hrow.le hle2
 ·exact (DW (I1 i ha.all) (IL (i+1) ha.all)).le (hle.trans hle2)
def fy (o:Ob)(key:List UInt8):Ob:=if Vl.keyed o=au∧Vl.check 1 o=0 then Vl.bC o key else o
theorem E7 (o:Ob)(v:ao)(key:List UInt8)(M:Mem)(w:ak)(hw:o.wt<=10000000000)(hM:M.has w)(hv:OV M.A M.w v o) :
  RetM ah 88 #[v,.string ⟨key.toArray⟩] M w (λr N=>OV N.A N.w r (fy o key)):=by
 obtain⟨vk,vc,cs,rfl,ha⟩:=hv.open;have hkt:Pl.tot o.keys<=10000000000:=by cases o;rw[Ob.wt] at hw;simp only[Ob.keys];omega
 have hkl:=Pl.qO o.keys;refine aU hM λK hK=>Kg ?_;unfold HD nz;refine mW o ha.keys.one ha.kids.one (OwnS.memS hM) λb2 w1 ho=>?_;refine jH ho λb4 w2 ho=>?_;refine join λJ hJ=>?_;have fin:∀(W:ak) (N:Mem) (p:Ob) (kv cv:ao),OwnS M.A w W [obE b4 ob0 nilS nilS,obE b2 p kv cv,.mem N]->M.le N->OV N.A N.w (obV p kv cv) p->p=fy o key->p.wt<=10000000000->J [] W:=by
  intro W N p kv cv ho hle hp he hpw;refine hJ _ _ λ_=>?_;unfold Dp nz;rw[ob_v ho 1 rfl];refine bI ho 2 rfl (EJ p _ N W om (ho.hasM 2 rfl) hp) λy N2 w4 hle2 hy ho=>?_;obtain⟨yk,yc,ycs,rfl,hya⟩:=hy.open;refine cE 0 hya.keys.one hya.kids.one ho rfl λw5 ho=>?_;exact lK (bN (ho.agg 0 rfl Bl)) (hK _ _ N2 _ 2 ho rfl (hle.trans hle2) (he▸hy))
 rw[ob_v ho 1 rfl];refine aH ho (R:=λv=>v=.bool (Vl.keyed o)) (Ks o ha.keys.one ha.kids.one w2) ?_;rintro _ w3 rfl ho;cases hkd:Vl.keyed o with
|false=>
  simp only[rs,g_un];exact fin w3 M o vk vc ho M.le_refl hv (by unfold fy;rw[anW (by simp[hkd])]) hw
|true=>
  simp only[rs];rw[ob_v ho 1 rfl];refine aH ho (R:=λv=>v=.int .i64 (Vl.check 1 o)) (vM o _ w3 (OV.inw (ho.hasM 2 rfl) hv) om) ?_;rintro _ w4 rfl ho;simp only[rs];by_cases hc:Vl.check 1 o=0
  ·simp only[hc,aoA,rs];obtain⟨hr,hlen⟩:=Vl.Cy hc hkd;rw[FR,vD ho 1 rfl];refine c_eq (Js vk o.keys key w4 (ha.keys.now (ho.hasM 2 rfl)) hr om) ?_;simp only[ex];have hdr:=Vl.Tm hc hkd key;have hdd:fy o key=Vl.bC o key:=by unfold fy;rw[anX ⟨hkd,hc⟩]
   cases hh:Vl.hit o.keys key with
  |true=>
    simp only[i_t];rw[hh,anX rfl] at hdr;have hi:o.keys[Vl.place o.keys key]?=aw key:=aoU hh;have hlt:Vl.place o.keys key < o.keys.length:=(aoX.1 hi).1;rw[ob_v ho 1 rfl];refine bI ho 2 rfl (OU o _ _ M w4 hw (ho.hasM 2 rfl) hv hlt hlen) λy N w5 hle hy ho=>?_;rw[<-hdr] at hy;obtain⟨yk,yc,ycs,rfl,hya⟩:=hy.open;refine cE 1 hya.keys.one hya.kids.one ho rfl λw6 ho=>?_;exact fin w6 N _ yk yc ho hle hy hdd.symm (aqQ (Vl.CO o key) hw)
  |false=>
    simp only[i_f];rw[hh] at hdr;exact fin w4 M o vk vc ho M.le_refl hv (by rw[hdd,hdr];rfl) hw
  ·simp only[hc,aoB,rs];exact fin w4 M o vk vc ho M.le_refl hv (by unfold fy;rw[anW (by simp[hc])]) hw
theorem YJ (o x:Ob)(v u:ao)(key:List UInt8)(M:Mem)(w:ak)(hw:o.wt<=10000000000)(hwx:x.wt<=10000000000)(hwk:key.length<=10000000000)(hM:M.has w)(hv:OV M.A M.w v o)(hu:OV M.A M.w u x) :
  RetM ah 70 #[v,.string ⟨key.toArray⟩,u] M w (λr N=>∃v',r=errV v' (Vl.set o key x).2∧OV N.A N.w v' (Vl.set o key x).1):=by
 obtain⟨vk,vc,cs,rfl,ha⟩:=hv.open;obtain⟨xk,xc,xcs,rfl,hx⟩:=hu.open;refine aU hM λK hK=>KX ?_;unfold I8 nz;refine mW o ha.keys.one ha.kids.one (OwnS.memS hM) λb3 w1 ho=>?_;refine mW x hx.keys.one hx.kids.one ho λb5 w2 ho=>?_;refine jH ho λb6 w3 ho=>?_;rw[ob_v ho 2 rfl];refine aH ho (R:=λv=>v=.bool (Vl.keyed o)) (Ks o ha.keys.one ha.kids.one w3) ?_;rintro _ w4 rfl ho;cases hkd:Vl.keyed o with
|false=>
  simp only[rs,aqD];rw[OX];refine cE 0 rfl rfl ho rfl λw5 ho=>?_;refine iJ 0 ho rfl (hK _ _ M _ 3 ho rfl M.le_refl ⟨obV Vl.ob0 nilS nilS,?_,?_⟩)
  ·simp[Vl.set,hkd,errV]
  ·simpa[Vl.set,hkd] using JD M
|true=>
  simp only[rs,aqF];rw[ob_v ho 2 rfl];refine aH ho (R:=λv=>v=.int .i64 (Vl.check 1 o)) (vM o _ w4 (OV.inw (ho.hasM 3 rfl) hv) om) ?_;rintro _ w5 rfl ho;simp only[bQ];by_cases hc:Vl.check 1 o=0
  ·simp only[hc,ne_eq,not_true,aoB,i_f];rw[oL,ob_k ho 1 rfl];simp only[rs];by_cases h0:x.k=0
   ·simp only[h0,aoA,i_t];rw[ob_v ho 2 rfl];refine bI ho 3 rfl (E7 o _ key M w5 hw (ho.hasM 3 rfl) hv) λy N w6 hle hy ho=>?_;obtain⟨yk,yc,ycs,rfl,hya⟩:=hy.open;refine cE 0 hya.keys.one hya.kids.one ho rfl λw7 ho=>?_;have e:Vl.set o key x=(fy o key,0):=by simp[Vl.set,hkd,hc,h0,fy]
    refine iJ 0 ho rfl (hK _ _ N _ 3 ho rfl hle ⟨obV (fy o key) yk yc,?_,?_⟩)
    ·rw[e];rfl
    ·rw[e];exact hy
   ·simp only[h0,aoB,i_f];rw[ob_v ho 2 rfl,ob_v ho 1 rfl];obtain⟨hr,hlen⟩:=Vl.Cy hc hkd;have hpw:=Vl.ahI o key x;refine bI ho 3 rfl (Yh o x _ _ key M w5 hw (ho.hasM 3 rfl) hv hu hr hlen) λy N w6 hle hy ho=>?_;refine bI ho 3 rfl (EJ _ _ N w6 om (ho.hasM 3 rfl) hy) λz N2 w7 hle2 hz ho=>?_;refine bI ho 3 rfl (NF _ _ N2 w7 om (ho.hasM 3 rfl) hz) ?_;rintro _ N3 w8 hle3 ⟨t,rfl,ht⟩ ho;obtain⟨tk,tc,tcs,rfl,hta⟩:=ht.open;simp only[errV,ex];refine cE 0 hta.keys.one hta.kids.one ho rfl λw9 ho=>?_;have e:Vl.set o key x=Vl.right (Vl.put o key x):=by simp[Vl.set,hkd,hc,h0]
    refine iJ 0 ho rfl (hK _ _ N3 _ 3 ho rfl (hle.trans (hle2.trans hle3)) ⟨obV (Vl.right (Vl.put o key x)).1 tk tc,?_,?_⟩)
    ·rw[e];rfl
    ·rw[e];exact ht
  ·simp only[hc,ne_eq,arX,aoA,i_t];rw[OX];refine cE 0 rfl rfl ho rfl λw6 ho=>?_;refine iJ 0 ho rfl (hK _ _ M _ 3 ho rfl M.le_refl ⟨obV Vl.ob0 nilS nilS,?_,?_⟩)
   ·simp[Vl.set,hkd,hc,errV]
   ·simpa[Vl.set,hkd,hc] using JD M
end
end Go.Proofs.YtlipjfcbjemicaaGreatDoor


namespace Go.Proofs.YtlipjfcbjemicaaGreatDoor
variable{A S:Nat->Prop}{K:VWP}{L:List Eng.Ent}{M N:Eng.Mem}{P:Program}{PK PK2:PKT}{T1 T2 U:TypeId}{W w w0:ak}{a e way:Int}{args:Array ao}{b cap d f i j p sz:Nat}{cb:Array Bool}{cs xs:List ao}{ds:List Deferred}{k':IntKind}{key:List UInt8}{o:Ob}{q:Bool}{u:FrameMode}{v vc vk:ao}{xo yo:Operand}{α β:Type}{t0 t1 t2:ao}{k0:Eng.KT}
section
open Eng Go.RowKit
theorem Zf (os:List Ob)(v:ao)(cs:List ao)(M:Mem)(w:ak)(hw:Ob.wts os<=10000000000)(hM:M.has w)(hs:SlA M.A M.w v 6 os.length cs)(hall:OVs M.A M.w cs os) :
  RetM ah 141 #[v] M w (λr N=>OV N.A N.w r (.mk 6 0 0 [] [] os)):=by
 obtain⟨a,cap,rfl,_⟩:=hs.form;refine aU hM λK hK=>Iq ?_;unfold E9 nz;refine jH (OwnS.memS hM) λb w1 ho=>?_;have hb:∀{PK:PKT} {K:VWP},DoX ah (bA 25 #[(0,(.int .i64 6)),(5,.slice a os.length cap)]) w1 PK K=K (obV (.mk 6 0 0 [] [] os) nilS (.slice a os.length cap)) w1:=aC krx;rw[hb];refine bI ho 1 rfl (EJ (.mk 6 0 0 [] [] os) _ M w1 (by rw[Ob.wt];simp[Pl.tot];omega) (ho.hasM 1 rfl) (ObAt.ov (o:=.mk 6 0 0 [] [] os) (vk:=nilS) (cs:=cs) ⟨SlA.nil _ _ _ _,hs,hall⟩)) λy N w2 hle hy ho=>?_;obtain⟨yk,yc,ycs,rfl,hya⟩:=hy.open;refine cE 0 hya.keys.one hya.kids.one ho rfl λw3 ho=>?_;exact lK (bN (ho.agg 0 rfl Bl)) (hK _ _ N _ 1 ho rfl hle hy)
end
end Go.Proofs.YtlipjfcbjemicaaGreatDoor


namespace Go.Proofs.YtlipjfcbjemicaaGreatDoor
variable{A S:Nat->Prop}{K:VWP}{L:List Eng.Ent}{M N:Eng.Mem}{P:Program}{PK PK2:PKT}{T1 T2 U:TypeId}{W w w0:ak}{a e way:Int}{args:Array ao}{b cap d f i j p sz:Nat}{cb:Array Bool}{cs xs:List ao}{ds:List Deferred}{k':IntKind}{key:List UInt8}{o:Ob}{q:Bool}{u:FrameMode}{v vc vk:ao}{xo yo:Operand}{α β:Type}{t0 t1 t2:ao}{k0:Eng.KT}
section
open Eng Go.RowKit
theorem abD {p:Ob}{xk xc:ao}(h:obV o vk vc=obV p xk xc):vk=xk∧vc=xc:=by
 have:(obC o vk vc).toArray=(obC p xk xc).toArray:=by injection h
 have:obC o vk vc=obC p xk xc:=by simpa using congrArg Array.toList this
 simp only[obC,atJ,and_true] at this;exact⟨this.2.2.2.2.1,this.2.2.2.2.2⟩
theorem OV.slices (h:OV A w (obV o vk vc) o):∃cs,ObAt A w o vk vc cs:=by
 obtain⟨xk,xc,cs,e,ha⟩:=h.open;obtain⟨rfl,rfl⟩:=abD e;exact⟨cs,ha⟩
theorem OV.oneK (h:OV A w (obV o vk vc) o):vk.oneCell'=true:=by obtain⟨cs,ha⟩:=h.slices;exact ha.keys.one
theorem OV.oneC (h:OV A w (obV o vk vc) o):vc.oneCell'=true:=by obtain⟨cs,ha⟩:=h.slices;exact ha.kids.one
section
variable {w:ak}{PK:PKT}{K:VWP}{S:Nat->Prop}{w0:ak}{L:List Ent}
end
end
end Go.Proofs.YtlipjfcbjemicaaGreatDoor


namespace Go.Proofs.YtlipjfcbjemicaaGreatDoor
variable{A S:Nat->Prop}{K:VWP}{L:List Eng.Ent}{M N:Eng.Mem}{P:Program}{PK PK2:PKT}{T1 T2 U:TypeId}{W w w0:ak}{a e way:Int}{args:Array ao}{b cap d f i j p sz:Nat}{cb:Array Bool}{cs xs:List ao}{ds:List Deferred}{k':IntKind}{key:List UInt8}{o:Ob}{q:Bool}{u:FrameMode}{v vc vk:ao}{xo yo:Operand}{α β:Type}{t0 t1 t2:ao}{k0:Eng.KT}
section
open Eng Go.RowKit
theorem RetM.told {x:ao}(h:RetM ah f args M w (λv _=>v=x)):Ret ah f args w (λv w'=>v=x∧Below w.heap.size w w'):=
 Ret.mono h λv w' ⟨N,g,r⟩=>⟨r,g.below⟩
theorem Ml {x:Option Ob}(h:OV M.A M.w v (x.getD Vl.ob0)):∃vk vc,v=obV (x.getD Vl.ob0) vk vc∧OV M.A M.w (obV (x.getD Vl.ob0) vk vc) (x.getD Vl.ob0):=by
 obtain⟨vk,vc,cs,rfl,ha⟩:=h.open;exact⟨vk,vc,rfl,h⟩
end
end Go.Proofs.YtlipjfcbjemicaaGreatDoor

namespace Go.Proofs.YtlipjfcbjemicaaGreatDoor
variable{A S:Nat->Prop}{K:VWP}{L:List Eng.Ent}{M N:Eng.Mem}{P:Program}{PK PK2:PKT}{T1 T2 U:TypeId}{W w w0:ak}{a e way:Int}{args:Array ao}{b cap d f i j p sz:Nat}{cb:Array Bool}{cs xs:List ao}{ds:List Deferred}{k':IntKind}{key:List UInt8}{o:Ob}{q:Bool}{u:FrameMode}{v vc vk:ao}{xo yo:Operand}{α β:Type}{t0 t1 t2:ao}{k0:Eng.KT}
section
open Eng
def vJ(t0 t1 w)(K:KT):=nz f353 1 [] [] [] (zg [0,1] [t0,t1]) w K
theorem CY:vJ t0 t1 w k0->Calls ah 353 #[t0,t1] w k0:=cw func353
def BS(t0 w)(K:KT):=nz f362 1 [] [] [] (zg [0] [t0]) w K
theorem E4:BS t0 w k0->Calls ah 362 #[t0] w k0:=cw func362
end
end Go.Proofs.YtlipjfcbjemicaaGreatDoor


namespace Go.Proofs.YtlipjfcbjemicaaGreatDoor
variable{A S:Nat->Prop}{K:VWP}{L:List Eng.Ent}{M N:Eng.Mem}{P:Program}{PK PK2:PKT}{T1 T2 U:TypeId}{W w w0:ak}{a e way:Int}{args:Array ao}{b cap d f i j p sz:Nat}{cb:Array Bool}{cs xs:List ao}{ds:List Deferred}{k':IntKind}{key:List UInt8}{o:Ob}{q:Bool}{u:FrameMode}{v vc vk:ao}{xo yo:Operand}{α β:Type}{t0 t1 t2:ao}{k0:Eng.KT}
section
open Eng Go.RowKit
theorem qj {v:Ob}{k:List UInt8}(h:Vl.get o k=aw v):v.wt<=o.wt:=by
 unfold Vl.get at h;split at h
 ·split at h
  ·rename_i h1 h2
   obtain⟨hl,rfl⟩:=aoX.1 h;have:=Pn hl;omega
  ·cases h
 ·cases h
section
variable {w:ak}{S:Nat->Prop}{w0:ak}{L:List Ent}
end
end
end Go.Proofs.YtlipjfcbjemicaaGreatDoor


namespace Go.Proofs.YtlipjfcbjemicaaGreatDoor
variable{A S:Nat->Prop}{K:VWP}{L:List Eng.Ent}{M N:Eng.Mem}{P:Program}{PK PK2:PKT}{T1 T2 U:TypeId}{W w w0:ak}{a e way:Int}{args:Array ao}{b cap d f i j p sz:Nat}{cb:Array Bool}{cs xs:List ao}{ds:List Deferred}{k':IntKind}{key:List UInt8}{o:Ob}{q:Bool}{u:FrameMode}{v vc vk:ao}{xo yo:Operand}{α β:Type}{t0 t1 t2:ao}{k0:Eng.KT}
section
open Eng Go.RowKit
namespace Eng
def Ent.two (e f:Ent):Ent:=⟨λk=>e.blk k∨f.blk k,λw=>e.is w∧f.is w∧∀k,e.blk k->¬f.blk k,
 λh k=>⟨e.keep h.1 λb hb=>k b (.inl hb),f.keep h.2.1 λb hb=>k b (.inr hb),h.2.2⟩,λh k hk=>hk.elim (e.lt h.1 k) (f.lt h.2.1 k)⟩
section
variable {S:Nat->Prop}{w w0:ak}{L:List Ent}
theorem OwnS.split {e f:Ent}(ho:OwnS S w0 w (.two e f::L)):OwnS S w0 w (e::f::L):=by
 obtain⟨⟨he,hf,hd⟩,hb⟩:=ho.all (.two e f) sm;obtain⟨a1,a2⟩:=aqR.1 ho.apart;refine⟨ho.grew,λx hx=>?_,aqR.2 ⟨λx hx k hk=>?_,aqR.2 ⟨λx hx k hk=>a1 x hx k (.inr hk),a2⟩⟩⟩
 ·rcases aoM.1 hx with rfl|hx
  ·exact⟨he,λk hk=>hb k (.inl hk)⟩
  rcases aoM.1 hx with rfl|hx
  ·exact⟨hf,λk hk=>hb k (.inr hk)⟩
  ·exact ho.all x (apA _ hx)
 ·rcases aoM.1 hx with rfl|hx
  ·exact hd k hk
  ·exact a1 x hx k (.inl hk)
end
end Eng
section
variable {P:Program}{S:ak->Prop}{K:ao->Prop}
theorem sL {m:Sem Next}(v:ao)(h:∀w,S w->m.run P w=.ok (.value v) w)(k:K v):HDo P S m K:=⟨v,h,k⟩
theorem aL {m:Sem Next}(v:ao)(h:∀w,m.run P w=.ok (.value v) w)(k:K v):HDo P S m K:=⟨v,λw _=>h w,k⟩
end
section
variable {w:ak}{PK:PKT}{K:VWP}{S:Nat->Prop}{w0:ak}{L:List Ent}
theorem eG {T:TypeId}(h:w.heap[b]?=aw (.cells cs.toArray T (0,0)))(hsz:0 < sz)(hl:cs.length=sz):Sl w (.slice (aw ⟨b,0,av⟩) 1 1) sz 1 cs:=
 ⟨om,aw ⟨b,0,av⟩,1,rfl,λh=>(by cases h),λp hp=>by cases hp;exact⟨λ_=>rfl,λj u hj=>by rw[aoN];exact aI (T:=T) h hj⟩⟩
end
theorem LA (x:Int)(w:ak):Ret ah 362 #[.int .i64 x] w (λv w'=>v=.bool aq∧w=w'):=by
 refine aK λK hK=>E4 ?_;unfold BS nz;rw[X6];exact hK _ _ ⟨sm,rfl⟩
end
end Go.Proofs.YtlipjfcbjemicaaGreatDoor





namespace Go.Proofs.YtlipjfcbjemicaaGreatDoor
variable{A S:Nat->Prop}{K:VWP}{L:List Eng.Ent}{M N:Eng.Mem}{P:Program}{PK PK2:PKT}{T1 T2 U:TypeId}{W w w0:ak}{a e way:Int}{args:Array ao}{b cap d f i j p sz:Nat}{cb:Array Bool}{cs xs:List ao}{ds:List Deferred}{k':IntKind}{key:List UInt8}{o:Ob}{q:Bool}{u:FrameMode}{v vc vk:ao}{xo yo:Operand}{α β:Type}{t0 t1 t2:ao}{k0:Eng.KT}
section
open Eng
def lN(t0 t1 t12 t13 w)(N1:JT)(K:KT):=nz f45 43 [N1] [nh 9 [13]] [(6,9)] (zg [0,1,12,13] [t0,t1,t12,t13]) w K
def pU(t0 t1 w)(K:KT):=nz f45 1 [] [(9,[13],λs v j w f=>lN (s 0) (s 1) (s 12) (vg v 0) w (f 0) K)] [] (zg [0,1] [t0,t1]) w K
theorem yR:pU t0 t1 w k0->Calls ah 45 #[t0,t1] w k0:=cz [] [(4,[13])] func45
end
section
open Eng Go.RowKit
theorem aiC:eM ah 9=true:=krx
theorem TU (va vb:ao)(la lb:List (List UInt8))(w:ak)(ha:Sl w va 1 la.length (cD la))(hb:Sl w vb 1 lb.length (cD lb))(hl:la.length<=1099511627776) :
  Ret ah 45 #[va,vb] w (λr w'=>r=.bool (ai (la=lb))∧Below w.heap.size w w'):=by
 refine aK λK hK=>yR ?_;unfold pU nz;rw[bB aoT ha,bB aoT hb];simp only[rs];by_cases hlen:(la.length:Int)≠(lb.length:Int)
 ·simp only[anZ hlen,i_t];have hne:la≠lb:=λe=>hlen (by rw[e]);exact hK _ _ ⟨by rw[anY hne],(Own.start w).done⟩
 have hle:la.length=lb.length:=om
 simp only[anY hlen,i_f,bB aoT ha];refine loop (λvs w'=>∃(i:Nat),vs=[.int .i64 i]∧i<=la.length∧la.take i=lb.take i∧Own w w' []) (λvs _=>la.length - n0 vs) ⟨0,rfl,om,sm,Own.start w⟩ ?_;rintro vs w2 ⟨i,rfl,hi,he,ho⟩ _;simp only[lN,gd,rs,nz];by_cases hlt:(i:Int) < (la.length:Int)
 ·have h1:i < la.length:=om
  have h2:i < lb.length:=om
  simp only[hlt,aoA,rs];obtain⟨ba,oa,ca,rfl,hca⟩:=bY ha om;obtain⟨bb,ob,cb,rfl,hcb⟩:=bY hb om;refine quiet (q_do _ (λ_=>dZ aoT (show _=aw 1 by kernel_rfl) om om) ?_);refine q_at (.string ⟨(la[i]).toArray⟩) (λwc hw=>aB aiC ((ho.grow hw).old ?_)) ?_
  ·rw[aoF,aoS];exact hca i _ (jW h1)
  refine q_do _ (λ_=>dZ aoT (show _=aw 1 by kernel_rfl) om om) ?_;refine q_at (.string ⟨(lb[i]).toArray⟩) (λwc hw=>aB aiC ((ho.grow hw).old ?_)) ?_
  ·rw[aoF,aoS];exact hcb i _ (jW h2)
  refine Y7 ?_;intro w3 hw;have ho:=ho.grow hw;by_cases hq:la[i]=lb[i]
  ·simp only[hq,ne_eq,not_true,aoB,i_f,rs];rw[aA om om];refine aQ ⟨i+1,rfl,om,?_,ho⟩ (by simp[n0,RowKit.intOf];omega);rw[apG h1,apG h2,he,hq]
  ·simp only[hq,ne_eq,arX,aoA,i_t];have hne:la≠lb:=λe=>hq (by subst e;rfl);exact hK _ _ ⟨by rw[anY hne],ho.done⟩
 ·simp only[hlt,aoB,rs,g_un];have hab:la=lb:=by
   rw[apE om,apE om] at he;exact he
  exact hK _ _ ⟨by rw[anZ hab],ho.done⟩
end
end Go.Proofs.YtlipjfcbjemicaaGreatDoor







namespace Go.Proofs.YtlipjfcbjemicaaGreatDoor
variable{A S:Nat->Prop}{K:VWP}{L:List Eng.Ent}{M N:Eng.Mem}{P:Program}{PK PK2:PKT}{T1 T2 U:TypeId}{W w w0:ak}{a e way:Int}{args:Array ao}{b cap d f i j p sz:Nat}{cb:Array Bool}{cs xs:List ao}{ds:List Deferred}{k':IntKind}{key:List UInt8}{o:Ob}{q:Bool}{u:FrameMode}{v vc vk:ao}{xo yo:Operand}{α β:Type}{t0 t1 t2:ao}{k0:Eng.KT}
section
open Go
structure Lx where
 off:Int
 sty:List UInt8
 pre:List UInt8
 first:Int
 deriving DecidableEq
namespace Lb
end Lb
end
end Go.Proofs.YtlipjfcbjemicaaGreatDoor



namespace Go.Proofs.YtlipjfcbjemicaaGreatDoor
variable{A S:Nat->Prop}{K:VWP}{L:List Eng.Ent}{M N:Eng.Mem}{P:Program}{PK PK2:PKT}{T1 T2 U:TypeId}{W w w0:ak}{a e way:Int}{args:Array ao}{b cap d f i j p sz:Nat}{cb:Array Bool}{cs xs:List ao}{ds:List Deferred}{k':IntKind}{key:List UInt8}{o:Ob}{q:Bool}{u:FrameMode}{v vc vk:ao}{xo yo:Operand}{α β:Type}{t0 t1 t2:ao}{k0:Eng.KT}
section
open Eng Go.RowKit
theorem Xh (h:Calls ah f args w λe w'=>e=.returned v∧Below w.heap.size w w'):Ret ah f args w (λv' w'=>v'=v∧Below w.heap.size w w'):=
 Calls.mono h λe w' ⟨he,hb⟩=>⟨v,he,rfl,hb⟩
theorem Tj (s:List UInt8)(c:Nat)(w:ak)(hl:s.length*c<=100000000)(hc:c<=100000000):Ret ah 189 #[.string ⟨s.toArray⟩,.int .i64 c] w (λv w'=>v=.string ⟨(Lib.repeatL s c).toArray⟩∧Below w.heap.size w w'):=by
 have:=Tryz.strings_Repeat ⟨s.toArray⟩ c w om (by show s.toArray.size*c<=_;simp;omega);exact Xh (by simpa using this)
theorem Bi (s:List UInt8):∀c,Lib.repeatL s (c+1)=Lib.repeatL s c++s
|0=>by simp[Lib.repeatL]
|c+1=>by
  have h1:Lib.repeatL s (c+1+1)=s++Lib.repeatL s (c+1):=rfl;have h2:Lib.repeatL s (c+1)=s++Lib.repeatL s c:=rfl;rw[h1,Bi s c,<-aoL,<-h2,Bi s c]
end
end Go.Proofs.YtlipjfcbjemicaaGreatDoor








namespace Go.Proofs.YtlipjfcbjemicaaGreatDoor
variable{A S:Nat->Prop}{K:VWP}{L:List Eng.Ent}{M N:Eng.Mem}{P:Program}{PK PK2:PKT}{T1 T2 U:TypeId}{W w w0:ak}{a e way:Int}{args:Array ao}{b cap d f i j p sz:Nat}{cb:Array Bool}{cs xs:List ao}{ds:List Deferred}{k':IntKind}{key:List UInt8}{o:Ob}{q:Bool}{u:FrameMode}{v vc vk:ao}{xo yo:Operand}{α β:Type}{t0 t1 t2:ao}{k0:Eng.KT}
section
open Go
namespace Vl
theorem KB (key:List UInt8):∀(ks:List (List UInt8)) (cs:List Ob),key ∉ (gH key ks cs).1
|[],_=>by simp[gH]
|_::_,[]=>by simp[gH]
|a::ks,c::cs=>by
  rw[gH];split
  ·exact KB key ks cs
  ·rename_i h
   simp only[aoM,not_or];exact⟨λe=>h e.symm,KB key ks cs⟩
theorem G6 (key:List UInt8):∀(ks:List (List UInt8)) (cs:List Ob),(gH key ks cs).1.length=(gH key ks cs).2.length
|[],_=>by simp[gH]
|_::_,[]=>by simp[gH]
|a::ks,c::cs=>by
  rw[gH];split
  ·exact G6 key ks cs
  ·simp[G6 key ks cs]
theorem GO (key:List UInt8):∀(ks:List (List UInt8)) (cs:List Ob),(gH key ks cs).1.Sublist ks
|[],_=>by simp[gH]
|_::_,[]=>by simp[gH]
|a::ks,c::cs=>by
  rw[gH];split
  ·exact (GO key ks cs).trans (List.sublist_cons_self _ _)
  ·exact (GO key ks cs).cons_cons _
theorem GY (key:List UInt8):∀(ks:List (List UInt8)) (cs:List Ob),(gH key ks cs).2.Sublist cs
|[],_=>by simp[gH]
|_::_,[]=>by simp[gH]
|a::ks,c::cs=>by
  rw[gH];split
  ·exact (GY key ks cs).trans (List.sublist_cons_self _ _)
  ·exact (GY key ks cs).cons_cons _
theorem Qp (o:Ob)(key:List UInt8):get (bC o key) key=none:=by
 unfold get;split
 ·rw[anW];rw[List.idxOf_lt_length_iff];exact KB key o.keys o.kids
 ·rfl
theorem LB {d:Nat}:∀{os:List Ob},xG d os=0↔∀o∈os,check d o=0
|[]=>by simp[xG]
|o::os=>by
  rw[xG];split
  ·rename_i h
   constructor
   ·intro e;exact absurd e h
   ·intro e;exact absurd (e o apU) h
  ·rename_i h
   have h:=Classical.not_not.1 h;rw[LB];simp[h]
theorem YR (l:List (List UInt8))(h:i < l.length):l.getD i []=l[i]:=by rw[aoE,aoI h];rfl
theorem CG :rising o=au↔o.keys.length=o.kids.length∧Rise o.keys∧(∀k∈o.keys,name k=au∧(o.k=9->k≠lenK))∧∀c∈o.kids,c.k≠0:=by
 unfold rising;simp only[aoY,apY,aqU,apZ];constructor
 ·rintro⟨hl,h⟩;have hat:∀i (hi:i < o.keys.length),name o.keys[i]=au∧(i=0∨less (o.keys.getD (i - 1) []) o.keys[i]=au)∧(o.k=9->o.keys[i]≠lenK)∧(o.kids[i]'(om)).k≠0:=by
   intro i hi;have:=h i hi;unfold JX at this;rw[YR _ hi,aoE (l:=o.kids),aoI (by omega:i < o.kids.length)] at this;simp only[aoY,atD,apY,asB,atV,asT,aqE] at this;obtain⟨⟨⟨a,b⟩,c⟩,e⟩:=this;exact⟨a,b,λh9 hk=>c.elim (λx=>x h9) (λx=>x hk),e⟩
  refine⟨hl,?_,?_,?_⟩
  ·refine asM.2 λi j hi hj hij=>?_;have step:∀i (hi:i+1 < o.keys.length),less o.keys[i] o.keys[i+1]=true:=by
    intro i hi;have:=(hat (i+1) hi).2.1;rcases this with h0|h0
    ·omega
    ·rwa [asU,YR _ (by omega:i < o.keys.length)] at h0
   have:∀d,∀j (hj:j < o.keys.length),j=i+1+d->less o.keys[i] o.keys[j]=true:=by
    intro d
    induction d with
   |zero=>intro j hj he;subst he;exact step i hj
   |succ d ih=>
     intro j hj he;subst he;exact CI (ih (i+1+d) om rfl) (step (i+1+d) hj)
   exact this (j - (i+1)) j hj om
  ·intro k hk;obtain⟨i,hi,rfl⟩:=asF hk;exact⟨(hat i hi).1,(hat i hi).2.2.1⟩
  ·intro c hc;obtain⟨i,hi,rfl⟩:=asF hc;exact (hat i om).2.2.2
 ·rintro⟨hl,hr,hk,hc⟩;refine⟨hl,λi hi=>?_⟩;unfold JX;rw[YR _ hi,aoE (l:=o.kids),aoI (by omega:i < o.kids.length)];simp only[aoY,atD,apY,asB,atV,asT,aqE];refine⟨⟨⟨(hk _ (aoR hi)).1,?_⟩,?_⟩,hc _ (aoR _)⟩
  ·rcases arF i with h0|h0
   ·exact .inl h0
   ·refine .inr ?_;rw[YR _ (by omega:i - 1 < o.keys.length)];exact CC hr om hi
  ·by_cases h9:o.k=9
   ·exact .inr ((hk _ (aoR hi)).2 h9)
   ·exact .inl h9
theorem FT :check d o=0↔(d<=24∧xF o=au∧(o.k=9->d<=1)∧fits o=au∧o.s.length<=long o.k∧o.kids.length<=8191∧form o=au)∧∀c∈o.kids,check (d+1) c=0:=by
 rw[IM];have hw:why d o=0↔(d<=24∧xF o=au∧(o.k=9->d<=1)∧fits o=au∧o.s.length<=long o.k∧o.kids.length<=8191∧form o=au):=by
  unfold why;split
  ·simp;omega
  rename_i h1
  split
  ·rename_i h2
   simp only[show (10:Int)≠0 by decide,false_iff,not_and];rintro - a b;rcases h2 with h2|h2
   ·rw[h2] at a;cases a
   ·have:=b h2.1;omega
  rename_i h2
  simp only[not_or,Bool.not_eq_false,not_and,Nat.not_lt] at h2;split
  ·rename_i h3;simp[h3]
  rename_i h3
  split
  ·rename_i h4;simp;intros;omega
  rename_i h4
  split
  ·rename_i h5;simp;intros;omega
  rename_i h5
  split
  ·rename_i h6;simp[h6]
  rename_i h6
  simp only[Bool.not_eq_false] at h3 h6;exact⟨λ_=>⟨om,h2.1,h2.2,h3,om,om,h6⟩,λ_=>rfl⟩
 split
 ·rename_i h
  constructor
  ·intro e;exact absurd e h
  ·intro e;exact absurd (hw.2 e.1) h
 ·rename_i h
  have h:=Classical.not_not.1 h;rw[LB];exact⟨λe=>⟨hw.1 h,e⟩,λe=>e.2⟩
theorem qK (h:check d o=0)(hk:keyed o=au):check d (bC o key)=0:=by
 obtain⟨⟨a1,a2,a3,a4,a5,a6,a7⟩,hc⟩:=FT.1 h;have s1:=GO key o.keys o.kids;have s2:=GY key o.keys o.kids;have h79:o.k=7∨o.k=9:=by simpa[keyed] using hk
 have ek:(bC o key).k=o.k:=rfl;have eks:(bC o key).keys=(gH key o.keys o.kids).1:=rfl;have ecs:(bC o key).kids=(gH key o.keys o.kids).2:=rfl;refine FT.2 ⟨⟨a1,?_,a3,a4,a5,?_,?_⟩,λc hc'=>hc c (s2.subset hc')⟩
 ·unfold xF at a2 ⊢;rw[ek];rcases h79 with h7|h9
  ·rw[h7] at a2 ⊢;simpa[used,show (bC o key).n=o.n from rfl,show (bC o key).g=o.g from rfl,show (bC o key).s=o.s from rfl] using a2
  ·rw[h9] at a2 ⊢;simpa[used,show (bC o key).n=o.n from rfl,show (bC o key).g=o.g from rfl,show (bC o key).s=o.s from rfl] using a2
 ·rw[ecs];exact aqQ s2.length_le a6
 ·unfold form at a7 ⊢;rw[ek];simp only[aoY] at a7 ⊢;refine⟨a7.1,?_⟩;rw[anZ h79] at a7 ⊢;have hr:rising o=true:=by simpa using a7.2
  obtain⟨r1,r2,r3,r4⟩:=CG.1 hr;have:rising (bC o key)=true:=by
   refine CG.2 ⟨?_,?_,?_,?_⟩
   ·rw[eks,ecs];exact G6 key _ _
   ·rw[eks];exact List.Pairwise.sublist s1 r2
   ·rw[eks];exactλk hk=>r3 k (s1.subset hk)
   ·rw[ecs];exactλc hc=>r4 c (s2.subset hc)
  simp[this]
end Vl
namespace Dk
end Dk
end
end Go.Proofs.YtlipjfcbjemicaaGreatDoor








namespace Go.Proofs.YtlipjfcbjemicaaGreatDoor
variable{A S:Nat->Prop}{K:VWP}{L:List Eng.Ent}{M N:Eng.Mem}{P:Program}{PK PK2:PKT}{T1 T2 U:TypeId}{W w w0:ak}{a e way:Int}{args:Array ao}{b cap d f i j p sz:Nat}{cb:Array Bool}{cs xs:List ao}{ds:List Deferred}{k':IntKind}{key:List UInt8}{o:Ob}{q:Bool}{u:FrameMode}{v vc vk:ao}{xo yo:Operand}{α β:Type}{t0 t1 t2:ao}{k0:Eng.KT}
section
open Eng Go.RowKit
theorem sB {k:IntKind}{b:Int}:DoX P (mB .max #[T1,T2] U cb #[.int k a,.int k' b]) w PK K=K (.int k (max a b)) w:=by
 refine aC ?_;have e:(if a < b then b else a)=max a b:=by split<;>omega
 simp[mB,builtin,Builtin.max_,Builtin.max2,e]
section
variable {w:ak}{PK:PKT}{K:VWP}{S:Nat->Prop}{w0:ak}{L:List Ent}
theorem aY {off:Nat}:DoX ah (mNil (.pointer (aw ⟨b,off,av⟩))) w PK K=K (.pointer (aw ⟨b,off,av⟩)) w:=aC rfl
end
end
section
open Go
namespace Fl
def bit (s:List UInt8)(p:Nat):Nat:=(s.getD (p / 8) 0).toNat / 2 ^ (p % 8) % 2
theorem Py (s:List UInt8)(p:Nat):bit s p < 2:=aqW _ dc
def num (s:List UInt8)(p:Nat):Nat->Nat
|0=>0
|n+1=>num s p n+bit s (p+n)*2 ^ n
theorem iQ (s:List UInt8)(p:Nat):∀n,num s p n < 2 ^ n
|0=>by rw[num];decide
|n+1=>by
  have h1:=iQ s p n;have h2:=Py s (p+n);rw[num,aqS];rcases (by omega:bit s (p+n)=0∨bit s (p+n)=1) with h|h<;>rw[h]<;>omega
def numE (s:List UInt8)(at_ n:Nat):Nat×Nat×Int:=if at_+n<=8*s.length then (num s at_ n,at_+n,0) else (0,0,4)
def fU (lens:List Nat):Nat:=lens.foldl max 0
def Fk (n:Nat):Nat->List Nat->Nat->Nat
|_,[],_=>0
|i,l::ls,k=>if l=n then (match k with|0=>i|k+1=>Fk n (i+1) ls k) else Fk n (i+1) ls k
def place (lens:List Nat)(n k:Nat):Nat:=Fk n 0 lens k
def fW (lens:List Nat):Nat->Nat
|0=>0
|l+1=>fW lens l+lens.count (l+1)*2 ^ (15 - (l+1))
def aR (lens:List Nat):Nat->Nat
|0=>0
|l+1=>aR lens l+lens.count (l+1)
def check (lens:List Nat):Int:=if fW lens 15=32768∨aR lens 15=0∨(aR lens 15=1∧lens.count 1=1) then 0 else 13
def first (lens:List Nat):Nat->Nat
|0=>0
|1=>0
|l+2=>2*(first lens (l+1)+lens.count (l+1))
theorem RR {lens:List Nat}:∀l,fW lens l<=l*(lens.length*32768)
|0=>by simp[fW]
|l+1=>by
  have h1:=RR (lens:=lens) l;have h2:lens.count (l+1)*2 ^ (15 - (l+1))<=lens.length*32768:=arQ asK (by
   have:2 ^ (15 - (l+1))<=2 ^ 15:=apJ dc om;simpa using this)
  rw[fW,aqX];omega
theorem JN {lens:List Nat}:∀l,aR lens l<=l*lens.length
|0=>by simp[aR]
|l+1=>by
  have h1:=JN (lens:=lens) l;have h2:lens.count (l+1)<=lens.length:=asK;rw[aR,aqX];omega
theorem Nb {lens:List Nat}:∀l,first lens l<=4 ^ l*lens.length
|0=>by simp[first]
|1=>by simp[first]
|l+2=>by
  have h1:=Nb (lens:=lens) (l+1);have h2:lens.count (l+1)<=lens.length:=asK;have h3:4 ^ (l+2)*lens.length=4*(4 ^ (l+1)*lens.length):=by rw[aqS 4 (l+1),arG (4 ^ (l+1)) 4,atM]
  have h4:1*lens.length<=4 ^ (l+1)*lens.length:=apQ _ (Nat.one_le_pow _ _ dc);rw[first,h3];omega
end Fl
end
section
open Eng
def LD(t0 w)(K:KT):=nz f273 1 [] [] [] (zg [0] [t0]) w K
theorem Mz:LD t0 w k0->Calls ah 273 #[t0] w k0:=cw func273
def oV(t0 t1 w)(K:KT):=nz f340 1 [] [] [] (zg [0,1] [t0,t1]) w K
theorem rN:oV t0 t1 w k0->Calls ah 340 #[t0,t1] w k0:=cw func340
def oQ(t0 t1 w)(K:KT):=nz f349 1 [] [] [] (zg [0,1] [t0,t1]) w K
theorem rG:oQ t0 t1 w k0->Calls ah 349 #[t0,t1] w k0:=cw func349
def tP(t5 w)(K:KT):=nz f355 15 [] [] [] (zg [5] [t5]) w K
def zY(t0 t1 w)(K:KT):=nz f355 1 [] [(12,[],λs v j w f=>tP (s 5) w K)] [(1,18)] (zg [0,1] [t0,t1]) w K
theorem Ec:zY t0 t1 w k0->Calls ah 355 #[t0,t1] w k0:=cz [(6,[])] [] func355
def rQ(t8 w)(K:KT):=nz f346 63 [] [] [] (zg [8] [t8]) w K
def rR(t8 t35 w)(N1:JT)(K:KT):=nz f346 983 [N1] [nh 15 [8,35]] [] (zg [8,35] [t8,t35]) w K
def sH(t0 t1 t2 t8 t34 t35 w)(N1:JT)(K:KT):=nz f346 87 [N1] [nh 15 [8,35],(26,[8],λs v j w f=>rR (vg v 0) (s 35) w (f 0) K),(32,[],λs v j w f=>rQ (s 8) w K)] [] (zg [0,1,2,8,34,35] [t0,t1,t2,t8,t34,t35]) w K
def vG(t0 t1 t2 w)(K:KT):=nz f346 1 [] [(15,[8,35],λs v j w f=>sH (s 0) (s 1) (s 2) (vg v 0) (s 34) (vg v 1) w (f 0) K)] [] (zg [0,1,2] [t0,t1,t2]) w K
theorem Db:vG t0 t1 t2 w k0->Calls ah 346 #[t0,t1,t2] w k0:=cz [(13,[8]),(16,[])] [(7,[8,35])] func346
def zM(t0 t1 w)(K:KT):=nz f332 1 [] [] [] (zg [0,1] [t0,t1]) w K
theorem Ei:zM t0 t1 w k0->Calls ah 332 #[t0,t1] w k0:=cw func332
def qB(t0 w)(K:KT):=nz f333 7 [] [] [] (zg [0] [t0]) w K
def uD(t0 w)(K:KT):=nz f333 1 [] [(6,[],λs v j w f=>qB (s 0) w K)] [] (zg [0] [t0]) w K
theorem BF:uD t0 w k0->Calls ah 333 #[t0] w k0:=cz [(3,[])] [] func333
def zC(t0 t1 w)(K:KT):=nz f336 1 [] [] [(3,13),(6,17)] (zg [0,1] [t0,t1]) w K
theorem D8:zC t0 t1 w k0->Calls ah 336 #[t0,t1] w k0:=cw func336
def Bo(t0 w)(K:KT):=nz f275 1 [] [] [] (zg [0] [t0]) w K
theorem Eu:Bo t0 w k0->Calls ah 275 #[t0] w k0:=cw func275
def vW(t0 w)(K:KT):=nz f354 1 [] [] [(3,18)] (zg [0] [t0]) w K
theorem CV:vW t0 w k0->Calls ah 354 #[t0] w k0:=cw func354
end
section
open Eng Go.RowKit
theorem X4:∀n:Fin 256,bAnd .i64 (n.val:Int) 1=((n.val % 2:Nat):Int):=by decide +kernel
theorem and1 {n:Nat}(h:n < 256):bAnd .i64 (n:Int) 1=((n % 2:Nat):Int):=X4 ⟨n,h⟩
theorem aeQ {v:Nat}(hv:v < 2 ^ i)(hb:b < 2)(hi:i<=30):bOr .i64 (v:Int) ((b*2 ^ i:Nat):Int)=((v+b*2 ^ i:Nat):Int):=by
 have hp:2 ^ i<=2 ^ 30:=apJ dc hi;have h30:(2:Nat) ^ 30=1073741824:=dc
 have hbi:b*2 ^ i<=2 ^ 30:=by
  have:b*2 ^ i<=1*2 ^ i:=apQ _ om;omega
 have e:v ||| b*2 ^ i=v+b*2 ^ i:=by
  have:=awH hv b;rw[Nat.or_comm,arG b,<-this,atE]
 unfold bOr;show IntKind.wrap .i64 (((BitVec.ofInt 64 (v:Int) ||| BitVec.ofInt 64 ((b*2 ^ i:Nat):Int)).toNat:Nat):Int)=_;rw[BitVec.ofInt_natCast,BitVec.ofInt_natCast,BitVec.toNat_or,BitVec.toNat_ofNat,BitVec.toNat_ofNat,aqA om,aqA om,e];exact aA om om
theorem PR (a n:Nat):((a:Nat):Int).fdiv (2 ^ n)=((a / 2 ^ n:Nat):Int):=by
 rw[awC _ (by exact Int.pow_nonneg dc)]
 push_cast
 rfl
def bqC (s:List UInt8)(way:Int)(p:Nat):List Value:=[.int .i64 way,.int .i64 ((p % 8:Nat):Int),.string ⟨s.toArray⟩,.int .i64 ((p / 8:Nat):Int)]
def bqE (b:Nat)(s:List UInt8)(way:Int)(p:Nat):Ent:=.cells b (bqC s way p) 317
theorem Xv:fOff ah 317 0=aw 0:=krx
theorem Sq:fOff ah 317 1=aw 2:=krx
theorem Lw:fOff ah 317 2=aw 3:=krx
theorem agB:fOff ah 315 0=aw 0:=krx
theorem Z4:fOff ah 315 1=aw 1:=krx
theorem szSd:(Tryz.prog.info? 315).map (·.size)=aw 2:=krx
theorem VS:eM ah 9=true:=krx
section
variable {w:ak}{PK:PKT}{K:VWP}{S:Nat->Prop}{w0:ak}{L:List Ent}
theorem DL {off:Nat}:DoX ah (mFA 317 (.pointer (aw ⟨b,off,av⟩)) 0) w PK K=K (.pointer (aw ⟨b,off,av⟩)) w:=aP Xv
theorem Hc {off:Nat}:DoX ah (mFA 317 (.pointer (aw ⟨b,off,av⟩)) 2) w PK K=K (.pointer (aw ⟨b,off+3,av⟩)) w:=aP Lw
theorem LX {off:Nat}:DoX ah (mFA 315 (.pointer (aw ⟨b,off,av⟩)) 0) w PK K=K (.pointer (aw ⟨b,off,av⟩)) w:=aP agB
theorem wV {off:Nat}:DoX ah (mFA 315 (.pointer (aw ⟨b,off,av⟩)) 1) w PK K=K (.pointer (aw ⟨b,off+1,av⟩)) w:=aP Z4
theorem Qy (ho:OwnS S w0 w L)(j:Nat){s:List UInt8}(hi:L[j]?=aw (bqE b s way p)):DoX ah (aJ 3 (.pointer (aw ⟨b,0+1,av⟩))) w PK K=K (.int .i64 ((p % 8:Nat):Int)) w:=aS bP (ho.cell j hi 1 rfl)
theorem ahR (ho:OwnS S w0 w L)(j:Nat){s:List UInt8}(hi:L[j]?=aw (bqE b s way p)):DoX ah (aJ 3 (.pointer (aw ⟨b,0+3,av⟩))) w PK K=K (.int .i64 ((p / 8:Nat):Int)) w:=aS bP (ho.cell j hi 3 rfl)
end
section
variable {W:ak}{b:Nat}{s:List UInt8}{way:Int}{p:Nat}
theorem Gy (h:(bqE b s way p).is W):(aJ 3 (.pointer (aw ⟨b,0+1,av⟩))).run ah W=.ok (.value (.int .i64 ((p % 8:Nat):Int))) W:=aB bP (aI (T:=317) (cs:=bqC s way p) h rfl)
theorem MU (h:(bqE b s way p).is W):(aJ 9 (.pointer (aw ⟨b,0+2,av⟩))).run ah W=.ok (.value (.string ⟨s.toArray⟩)) W:=aB VS (aI (T:=317) (cs:=bqC s way p) h rfl)
theorem yB (h:(bqE b s way p).is W):(aJ 3 (.pointer (aw ⟨b,0+3,av⟩))).run ah W=.ok (.value (.int .i64 ((p / 8:Nat):Int))) W:=aB bP (aI (T:=317) (cs:=bqC s way p) h rfl)
theorem TG (h:(bqE b s way p).is W):Ret ah 349 #[.pointer (aw ⟨b,0,av⟩),.int .i64 1] W (λv w'=>v=.int .i64 ((p % 8:Nat):Int)∧Below W.heap.size W w'):=by
 refine aK λK hK=>rG ?_;unfold oQ nz;simp only[rs,aoA,aY];rw[wV];refine aC (Gy h) |>.mpr ?_;exact hK _ _ ⟨rfl,(Own.start W).done⟩
theorem TC (h:(bqE b s way p).is W)(hw:way=0∨way=1):Ret ah 340 #[.pointer (aw ⟨b,0,av⟩),.int .i64 1] W (λv w'=>v=.bool aq∧Below W.heap.size W w'):=by
 refine aK λK hK=>rN ?_;unfold oV nz;have r:=aB (P:=ah) (T:=3) bP (aI (T:=317) (cs:=bqC s way p) h (i:=0) rfl);rw[aY,LX];refine aC r |>.mpr ?_;rcases hw with rfl|rfl
 ·simp only[rs,ne_eq,not_true,aoB,g_un];exact hK _ _ ⟨rfl,(Own.start W).done⟩
 ·simp only[rs,show ai ((1:Int)≠0)=au by decide,aY];rw[LX];refine aC r |>.mpr ?_;simp only[rs,ne_eq,not_true,aoB];exact hK _ _ ⟨rfl,(Own.start W).done⟩
end
def rqE (b:Nat)(s:List UInt8)(way u a:Int):Ent:=.cells b [.int .i64 way,.int .i64 u,.string ⟨s.toArray⟩,.int .i64 a] 317
section
variable {w:ak}{PK:PKT}{K:VWP}{S:Nat->Prop}{w0:ak}{L:List Ent}
theorem adD (ho:OwnS S w0 w L)(j:Nat){s:List UInt8}{u:Int}(hi:L[j]?=aw (rqE b s way u a)):DoX ah (aJ 3 (.pointer (aw ⟨b,0+1,av⟩))) w PK K=K (.int .i64 u) w:=aS bP (ho.cell j hi 1 rfl)
theorem amQ (ho:OwnS S w0 w L)(j:Nat){s:List UInt8}{u:Int}(hi:L[j]?=aw (rqE b s way u a)):DoX ah (aJ 3 (.pointer (aw ⟨b,0+3,av⟩))) w PK K=K (.int .i64 a) w:=aS bP (ho.cell j hi 3 rfl)
theorem Vd (j:Nat){s:List UInt8}{u u':Int}(ho:OwnS S w0 w L)(hi:L[j]?=aw (rqE b s way u a))(k:∀w',OwnS S w0 w' (L.set j (rqE b s way u' a))->K undef w'):DoX ah (aV 3 (.pointer (aw ⟨b,0+1,av⟩)) (.int .i64 u')) w PK K:=aN j ho hi krx rfl (by show 0+1 < 4;omega) k
theorem Qm (j:Nat){s:List UInt8}{u a':Int}(ho:OwnS S w0 w L)(hi:L[j]?=aw (rqE b s way u a))(k:∀w',OwnS S w0 w' (L.set j (rqE b s way u a'))->K undef w'):DoX ah (aV 3 (.pointer (aw ⟨b,0+3,av⟩)) (.int .i64 a')) w PK K:=aN j ho hi krx rfl (by show 0+3 < 4;omega) k
theorem adY (j:Nat){s:List UInt8}{u way':Int}(ho:OwnS S w0 w L)(hi:L[j]?=aw (rqE b s way u a))(k:∀w',OwnS S w0 w' (L.set j (rqE b s way' u a))->K undef w'):DoX ah (aV 3 (.pointer (aw ⟨b,0,av⟩)) (.int .i64 way')) w PK K:=aN j ho hi krx rfl (by show 0 < 4;omega) k
theorem anV {s:List UInt8}(j:Nat)(ho:OwnS S w0 w L)(hj:L[j]?=aw (bqE b s way p))(hp:p < 8*s.length)(hs:s.length<=1000000000)
  (k:∀W,OwnS S w0 W (L.set j (bqE b s way (p+1)))->K (.int .i64 (Fl.bit s p)) W):CallX ah 355 #[.pointer (aw ⟨b,0,av⟩),.int .i64 1] w PK K:=by
 have hjl:j < L.length:=(aoX.1 hj).1;refine eW (Ec (k0:=RetK λv W=>v=.int .i64 (Fl.bit s p)∧OwnS S w0 W (L.set j (bqE b s way (p+1)))) ?_) (λe W ⟨v,he,hv,ho⟩=>by subst he;subst hv;exact k W ho);unfold zY nz;have hi:p / 8 < s.length:=om
 refine cR (λW=>OwnS S w0 W L) ho.drew ?_;refine q_do _ (λ_=>cN) (q_do _ (λ_=>bH Sq) (q_at _ (λW h=>MU (h.at_ j hj)) ?_));refine q_do _ (λ_=>cN) (q_do _ (λ_=>bH Lw) (q_at _ (λW h=>yB (h.at_ j hj)) ?_));refine q_ix aoD om (by rw[aoF,aoI hi]) ?_;refine q_do _ (λ_=>aO krx apH) ?_;have hc:=(s[p / 8]).toNat_lt;rw[aA om om];refine q_do _ (λ_=>cN) (q_do _ (λ_=>bH Xv) ?_);refine kS (.int .i64 ((p % 8:Nat):Int)) (λW h=>(TG (h.at_ j hj)).mono λv w' r=>⟨r.1,h.grow r.2⟩) ?_;refine q_do _ (λ_=>XT om) ?_;rw[show min ((p % 8:Nat):Int).toNat IntKind.i64.bits=p % 8 by show min ((p % 8:Nat):Int).toNat 64=p % 8;omega,PR];refine q_do _ (λ_=>WU) ?_;have hdv:s[p / 8].toNat / 2 ^ (p % 8)<=s[p / 8].toNat:=arY _ _;rw[and1 om];have hbit:s[p / 8].toNat / 2 ^ (p % 8) % 2=Fl.bit s p:=by
  unfold Fl.bit;rw[aoE,aoI hi];rfl
 rw[hbit];intro w2 ho;refine join λJ hJ=>?_;have fin:∀W,OwnS S w0 W (L.set j (bqE b s way (p+1)))->J [] W:=by
  intro W ho;refine hJ _ _ λ_=>?_;unfold tP nz;exact retK ⟨rfl,ho⟩
 rw[aY,DL,wV,Qy ho j hj];simp only[rs,aY];rw[DL,wV,aA om om];refine Vd j ho hj λw3 ho=>?_;have hj3:(L.set j (rqE b s way (((p % 8:Nat):Int)+1) ((p / 8:Nat):Int)))[j]?=aw (rqE b s way (((p % 8:Nat):Int)+1) ((p / 8:Nat):Int)):=by rw[arR hjl]
 rw[DL,wV,adD ho j hj3];simp only[rs,aY];by_cases h8:((p % 8:Nat):Int)+1=8
 ·simp only[h8,aoA,i_t,rs,aY];rw[DL,wV];refine Vd j ho hj3 λw4 ho=>?_;rw[atN] at ho;have hj4:(L.set j (rqE b s way 0 ((p / 8:Nat):Int)))[j]?=aw (rqE b s way 0 ((p / 8:Nat):Int)):=by rw[arR hjl]
  rw[Hc,amQ ho j hj4];simp only[rs,aY];rw[Hc,aA om om];refine Qm j ho hj4 λw5 ho=>?_;rw[atN] at ho;refine fin w5 ?_;have e:rqE b s way 0 (((p / 8:Nat):Int)+1)=bqE b s way (p+1):=by
   unfold rqE bqE bqC;rw[show (p+1) % 8=0 by omega,show (p+1) / 8=p / 8+1 by omega];rfl
  rw[<-e];exact ho
 ·simp only[h8,aoB,i_f];refine fin w3 ?_;have e:rqE b s way (((p % 8:Nat):Int)+1) ((p / 8:Nat):Int)=bqE b s way (p+1):=by
   unfold rqE bqE bqC;rw[show (p+1) % 8=p % 8+1 by omega,show (p+1) / 8=p / 8 by omega];rfl
  rw[<-e];exact ho
theorem GD :DoX ah (mEq .eql 275 xo yo (.pointer (aw ⟨b,0,av⟩)) (.pointer av)) w PK K=K (.bool aq) w:=aC krx
theorem Ue {s:List UInt8}(h:(bqE b s way p).is W)(hp:p<=8*s.length)(hs:s.length<=1000000000):Ret ah 354 #[.pointer (aw ⟨b,0,av⟩)] W (λv w'=>v=.int .i64 ((8*s.length - p:Nat):Int)∧Below W.heap.size W w'):=by
 refine aK λK hK=>CV ?_;unfold vW nz;rw[GD,i_f];have ho:OwnS (bqE b s way p).blk W W [bqE b s way p]:=OwnS.lend h;refine cR (λw'=>(bqE b s way p).is w'∧Below W.heap.size W w') ⟨?_,?_⟩ ?_
 ·exact ho.drew.at_ 0 rfl
 ·exact (Own.start W).drew.done
 refine q_do _ (λ_=>cN) (q_do _ (λ_=>bH Sq) (q_at _ (λW h=>MU h.1) (Q7 aoD ?_)));refine q_do _ (λ_=>cN) (q_do _ (λ_=>bH Lw) (q_at _ (λW h=>yB h.1) (q_do _ (λ_=>AH) ?_)));rw[aA om om];refine q_do _ (λ_=>acH) ?_;rw[aA om om];refine q_do _ (λ_=>cN) (q_do _ (λ_=>bH Xv) (q_do _ (λ_=>bH Z4) (q_at _ (λW h=>Gy h.1) (q_do _ (λ_=>AH) ?_))));rw[aA om om];intro w' hw;refine hK _ _ ⟨?_,hw.2⟩
 congr 1
 omega
theorem EY {L:List α}{e:α}(h:L[j]?=aw e):L.set j e=L:=by
 refine List.ext_getElem? λi=>?_;by_cases hi:i=j
 ·subst hi;rw[arR (aoX.1 h).1,h]
 ·rw[auI (Ne.symm hi)]
theorem agJ {s:List UInt8}{n:Nat}(j:Nat)(ho:OwnS S w0 w L)(hj:L[j]?=aw (bqE b s way p))(hw:way=0∨way=1)(hp:p<=8*s.length)(hn:n<=24)(hs:s.length<=1000000000)
  (k1:p+n<=8*s.length->∀W,OwnS S w0 W (L.set j (bqE b s (if 0 < n then 1 else way) (p+n)))->K (.tuple #[.int .i64 (Fl.num s p n),.int .i64 0]) W)
  (k2:8*s.length < p+n->∀W,OwnS S w0 W L->K (.tuple #[.int .i64 0,.int .i64 4]) W):CallX ah 346 #[.pointer (aw ⟨b,0,av⟩),.int .i64 (n:Int),.int .i64 1] w PK K:=by
 have hjl:j < L.length:=(aoX.1 hj).1;refine eW (Db (k0:=RetK λv W=>(p+n<=8*s.length∧v=.tuple #[.int .i64 (Fl.num s p n),.int .i64 0]∧OwnS S w0 W (L.set j (bqE b s (if 0 < n then 1 else way) (p+n))))∨(8*s.length < p+n∧v=.tuple #[.int .i64 0,.int .i64 4]∧OwnS S w0 W L)) ?_) (λe W ⟨v,he,hv⟩=>by
  subst he;rcases hv with ⟨h1,rfl,ho⟩|⟨h1,rfl,ho⟩
  ·exact k1 h1 W ho
  ·exact k2 h1 W ho)
 unfold vG nz;rw[GD];simp only[rs,show ai ((n:Int) < 0)=aq from anY om,show ai ((24:Int) < (n:Int))=aq from anY om,aY];rw[DL];refine aH ho (R:=λv=>v=.bool aq) (TC (ho.at_ j hj) hw) ?_;rintro _ w2 rfl ho;simp only[rs];refine aH ho (R:=λv=>v=.int .i64 ((8*s.length - p:Nat):Int)) (Ue (ho.at_ j hj) hp hs) ?_;rintro _ w3 rfl ho;simp only[rs];by_cases hend:((8*s.length - p:Nat):Int) < (n:Int)
 ·simp only[hend,aoA,i_t];exact retK (.inr ⟨om,rfl,ho⟩)
 simp only[hend,aoB,i_f];refine loop (λvs W=>∃i:Nat,vs=[.int .i64 (Fl.num s p i),.int .i64 i]∧i<=n∧OwnS S w0 W (L.set j (bqE b s way (p+i)))) (λvs _=>n - n1 vs) ⟨0,rfl,om,by rw[apO,EY hj];exact ho⟩ ?_;clear ho;rintro vs w4 ⟨i,rfl,hi,ho⟩ _;simp only[sH,gd,rs,nz];have hji:(L.set j (bqE b s way (p+i)))[j]?=aw (bqE b s way (p+i)):=by rw[arR hjl]
 by_cases hlt:(i:Int) < (n:Int)
 ·simp only[hlt,aoA,i_t];refine join λJ hJ=>?_;refine anV j ho hji om hs λw5 ho=>?_;rw[atN] at ho
  try simp only[rs,aoA]
  rw[wC om];have hb:=Fl.Py s (p+i);have hv:=Fl.iQ s p i;have hpw:2 ^ i<=2 ^ 24:=apJ dc om;have h24:(2:Nat) ^ 24=16777216:=dc
  have hbi:Fl.bit s (p+i)*2 ^ i<=2 ^ 24:=by
   have:Fl.bit s (p+i)*2 ^ i<=1*2 ^ i:=apQ _ om;omega
  rw[show min ((i:Nat):Int).toNat IntKind.i64.bits=i by show min ((i:Nat):Int).toNat 64=i;omega];rw[show ((Fl.bit s (p+i):Nat):Int)*2 ^ i=((Fl.bit s (p+i)*2 ^ i:Nat):Int) by push_cast;rfl];rw[aA om om,b_or,aeQ hv hb om];refine hJ _ _ λ_=>?_;simp only[rR,gd,rs,nz];rw[aA om om];exact aQ ⟨i+1,by rw[Fl.num];rfl,om,ho⟩ (by simp[n1,RowKit.intOf];omega)
 ·simp only[hlt,aoB,i_f];have hin:i=n:=om
  subst hin;refine join λJ hJ=>?_;have fin:∀W,OwnS S w0 W (L.set j (bqE b s (if 0 < i then 1 else way) (p+i)))->J [] W:=by
   intro W ho;refine hJ _ _ λ_=>?_;simp only[rQ,nz];exact retK (.inl ⟨om,rfl,ho⟩)
  by_cases h0:0 < i
  ·rw[anX h0] at fin;simp only[show ai ((0:Int) < (i:Int))=au from anZ om,rs,aY];rw[DL,LX];refine adY (way':=1) j ho hji λw5 ho=>?_;rw[atN] at ho;exact fin w5 ho
  ·rw[anW h0] at fin;simp only[show ai ((0:Int) < (i:Int))=aq from anY om,rs];exact fin w4 ho
theorem aeZ {s:List UInt8}{n:Nat}(j:Nat)(ho:OwnS S w0 w L)(hj:L[j]?=aw (bqE b s way p))(hw:way=0∨way=1)(hp:p<=8*s.length)(hn:n<=24)(hs:s.length<=1000000000)
  (k1:p+n<=8*s.length->∀W,OwnS S w0 W (L.set j (bqE b s (if 0 < n then 1 else way) (p+n)))->K (.tuple #[.int .i64 (Fl.num s p n),.int .i64 0]) W)
  (k2:8*s.length < p+n->∀W,OwnS S w0 W L->K (.tuple #[.int .i64 0,.int .i64 4]) W):CallX ah 332 #[.pointer (aw ⟨b,0,av⟩),.int .i64 (n:Int)] w PK K:=by
 refine eW (Ei (k0:=RetK λv W=>(p+n<=8*s.length∧v=.tuple #[.int .i64 (Fl.num s p n),.int .i64 0]∧OwnS S w0 W (L.set j (bqE b s (if 0 < n then 1 else way) (p+n))))∨(8*s.length < p+n∧v=.tuple #[.int .i64 0,.int .i64 4]∧OwnS S w0 W L)) ?_) (λe W ⟨v,he,hv⟩=>by
  subst he;rcases hv with ⟨h1,rfl,ho⟩|⟨h1,rfl,ho⟩
  ·exact k1 h1 W ho
  ·exact k2 h1 W ho)
 unfold zM nz;refine agJ j ho hj hw hp hn hs (λh1 W ho=>?_) (λh1 W ho=>?_)
 ·simp only[ex];exact retK (.inl ⟨h1,rfl,ho⟩)
 ·simp only[ex];exact retK (.inr ⟨h1,rfl,ho⟩)
end
end
section
open Eng
def vE(t0 t1 w)(K:KT):=nz f272 1 [] [] [] (zg [0,1] [t0,t1]) w K
theorem wE:vE t0 t1 w k0->Calls ah 272 #[t0,t1] w k0:=cw func272
def tN(t0 t1 w)(K:KT):=nz f331 1 [] [] [] (zg [0,1] [t0,t1]) w K
theorem BZ:tN t0 t1 w k0->Calls ah 331 #[t0,t1] w k0:=cw func331
def nT(t0 t1 w)(K:KT):=nz f335 1 [] [] [] (zg [0,1] [t0,t1]) w K
theorem vX:nT t0 t1 w k0->Calls ah 335 #[t0,t1] w k0:=cw func335
def eS(t0 t1 w)(K:KT):=nz f338 1 [] [] [] (zg [0,1] [t0,t1]) w K
theorem iR:eS t0 t1 w k0->Calls ah 338 #[t0,t1] w k0:=cw func338
def pZ(t0 t1 w)(K:KT):=nz f305 1 [] [] [] (zg [0,1] [t0,t1]) w K
theorem xW:pZ t0 t1 w k0->Calls ah 305 #[t0,t1] w k0:=cw func305
def qC(t0 t1 w)(K:KT):=nz f334 1 [] [] [(0,12)] (zg [0,1] [t0,t1]) w K
theorem yV:qC t0 t1 w k0->Calls ah 334 #[t0,t1] w k0:=cw func334
def lM(a w)(K:KT):=
 nlx a w K λd w=>fax 278 d 0 w K λe w=>ldx 275 e w K λf w=>cx 333 #[f] w K λv w=>cx 305 #[a,(iN 16)] w K λb w=>cx 305 #[a,(iN 16)] w K λg w=>bnx .sub 3 (iN 65535) b w K λh w=>eqx .eql 3 (.tmp 11) (.tmp 13) g h w K λi w=>cx 272 #[i,(iN 3)] w K λx w=>cx 334 #[a,b] w K λy w=>HeldX w (λS1 w=>HDo ah (λ_=>True) (mNil a) λj=>HDo ah (λ_=>True) (mFA 278 j 1) λk=>HDo ah S1 (aJ 53 k) λl=>HDo ah (λ_=>True) (mNil a) λm=>HDo ah (λ_=>True) (mFA 278 m 0) λn=>HDo ah S1 (aJ 275 n) λo=>CallX ah 336 #[o,b] w (ax 14 (pk K)) λc w=>S1 w∧(HDo ah (λ_=>True) (mExt c 0) λp=>HDo ah (λ_=>True) (mExt c 1) λq=>CallX ah 335 #[p,q] w (ax 14 (pk K)) λr w=>S1 w∧(DoX ah (mB .append #[53,9] 53 #[aq,aq] #[l,r]) w (ax 14 (pk K)) λs w=>S1 w∧(HDo ah (λ_=>True) (mNil a) λt=>HDo ah (λ_=>True) (mFA 278 t 1) λu=>DoX ah (aV 53 u s) w (ax 14 (pk K)) λ_ w=>(K (.returned (.tuple #[])) w)))))
theorem vC:lM t0 w k0->Calls ah 306 #[t0] w k0:=cw func306
def nZ(t0 w)(K:KT):=nz f307 1 [] [] [] (zg [0] [t0]) w K
theorem vP:nZ t0 w k0->Calls ah 307 #[t0] w k0:=cw func307
def iU(a b i e j k c w)(N1:JT)(K:KT):=
 bnx .lss 3 c k w K λl w=>IfX l (iax 123 j c w K λm w=>ldx 3 m w K λn w=>cx 305 #[a,(iN 3)] w K λo w=>iax 308 e n w K λp w=>stx 3 p o w K λ_ w=>bnx .add 3 c (iN 1) w K λq w=>N1 [q] w) (slx 308 e av av av w K λr w=>cx 295 #[r] w K λf w=>exx f 0 w K λs w=>exx f 1 w K λt w=>cx 338 #[s,t] w K λu w=>bnx .add 3 b i w K λv w=>cx 339 #[a,u,v] w K λd w=>iax 123 d (iN 256) w K λx w=>ldx 3 x w K λy w=>bnx .gtr 3 y (iN 0) w K λz w=>cx 272 #[z,(iN 13)] w K λL w=>HeldX w (λS2 w=>HDo ah S2 (cM 123 d av (aw b) av) λA=>HDo ah S2 (cM 123 d (aw b) av av) λB=>CallX ah 295 #[A] w (ax 11 (pk K)) λg w=>S2 w∧(HDo ah S2 (mExt g 0) λC=>HDo ah S2 (mExt g 1) λD=>CallX ah 338 #[C,D] w (ax 11 (pk K)) λF w=>S2 w∧(CallX ah 295 #[B] w (ax 11 (pk K)) λh w=>S2 w∧(HDo ah S2 (mExt h 0) λG=>HDo ah S2 (mExt h 1) λH=>CallX ah 338 #[G,H] w (ax 11 (pk K)) λI w=>S2 w∧(CallX ah 337 #[a,F,I] w (ax 11 (pk K)) λM w=>S2 w∧(K (.returned (.tuple #[])) w)))))))
def kH(t0 w)(K:KT):=nz f308 1 [] [(13,[25],λs v j w f=>iU (s 0) (s 2) (s 3) (s 4) (s 23) (s 24) (vg v 0) w (f 0) K)] [] (zg [0] [t0]) w K
theorem sR:kH t0 w k0->Calls ah 308 #[t0] w k0:=cz [] [(6,[25])] func308
def iP(d e a b f w)(N1:JT)(K:KT):=
 HeldX w (λS3 w=>HDo ah S3 (mFA 363 b 0) λg=>HDo ah S3 (aJ 3 g) λh=>HDo ah S3 (mFA 363 b 1) λi=>HDo ah S3 (aJ 3 i) λj=>CallX ah 305 #[d,j] w (ax 7 (pk K)) λk w=>S3 w∧(HDo ah S3 (mBin .add 3 h k) λc=>lnx 123 a w K λl w=>bnx .add 3 l c w K λm w=>bnx .leq 3 m e w K λn w=>cx 272 #[n,(iN 3)] w K λr w=>dx (bF 123 1 #[(0,f)]) w K λo w=>cx 320 #[o,c] w K λp w=>apx 123 a p w K λq w=>N1 [q] w))
def iS(t0 t1 t2 t7 w)(N1:JT)(K:KT):=nz f339 19 [N1] [nh 5 [7],(22,[11],λs v j w f=>iP (s 0) (s 2) (s 7) (s 9) (vg v 0) w (f 0) K)] [] (zg [0,1,2,7] [t0,t1,t2,t7]) w K
def kE(t0 t1 t2 w)(K:KT):=nz f339 1 [] [(5,[7],λs v j w f=>iS (s 0) (s 1) (s 2) (vg v 0) w (f 0) K)] [] (zg [0,1,2] [t0,t1,t2]) w K
theorem sP:kE t0 t1 t2 w k0->Calls ah 339 #[t0,t1,t2] w k0:=cz [(11,[11])] [(2,[7])] func339
def kW(t0 t1 t2 w)(N1:JT)(K:KT):=nz f337 2 [N1] [nh 1 []] [] (zg [0,1,2] [t0,t1,t2]) w K
def nM(t0 t1 t2 w)(K:KT):=nz f337 1 [] [(1,[],λs v j w f=>kW (s 0) (s 1) (s 2) w (f 0) K)] [] (zg [0,1,2] [t0,t1,t2]) w K
theorem wR:nM t0 t1 t2 w k0->Calls ah 337 #[t0,t1,t2] w k0:=cz [] [(0,[])] func337
def jJ(a c d b w)(N1:JT)(K:KT):=
 bnx .lss 3 b d w K λe w=>IfX e (HeldX w (λS2 w=>HDo ah (λ_=>True) (mNil a) λf=>HDo ah (λ_=>True) (mFA 278 f 1) λg=>HDo ah S2 (aJ 53 g) λh=>HDo ah (λ_=>True) (mNil a) λi=>HDo ah (λ_=>True) (mFA 278 i 1) λj=>HDo ah S2 (aJ 53 j) λk=>HDo ah (λ_=>True) (mNil a) λl=>HDo ah (λ_=>True) (mFA 278 l 1) λm=>HDo ah S2 (aJ 53 m) λn=>HDo ah (λ_=>True) (mB .len #[53] 3 #[aq] #[n]) λo=>HDo ah (λ_=>True) (mBin .sub 3 o c) λp=>HDo ah (λ_=>True) (mIA 53 k p) λq=>HDo ah S2 (aJ 5 q) λr=>DoX ah (bF 53 1 #[(0,r)]) w (ax 20 (pk K)) λs w=>S2 w∧(DoX ah (mB .append #[53,53] 53 #[aq,aq] #[h,s]) w (ax 20 (pk K)) λt w=>S2 w∧(HDo ah (λ_=>True) (mNil a) λu=>HDo ah (λ_=>True) (mFA 278 u 1) λv=>DoX ah (aV 53 v t) w (ax 20 (pk K)) λ_ w=>(bnx .add 3 b (iN 1) w K λx w=>N1 [x] w))))) (K (.returned (.tuple #[])) w)
def mL(t0 t1 t2 w)(K:KT):=nz f348 1 [] [(17,[57],λs v j w f=>jJ (s 0) (s 8) (s 56) (vg v 0) w (f 0) K)] [] (zg [0,1,2] [t0,t1,t2]) w K
theorem uS:mL t0 t1 t2 w k0->Calls ah 348 #[t0,t1,t2] w k0:=cz [] [(8,[57])] func348
def kJ(t3 w)(K:KT):=nz f274 15 [] [] [] (zg [3] [t3]) w K
def oK(t0 w)(K:KT):=nz f274 1 [] [(20,[],λs v j w f=>kJ (s 3) w K)] [] (zg [0] [t0]) w K
theorem vN:oK t0 w k0->Calls ah 274 #[t0] w k0:=cz [(10,[])] [] func274
def DQ(t0 t1 w)(K:KT):=nz f356 1 [] [] [] (zg [0,1] [t0,t1]) w K
theorem G7:DQ t0 t1 w k0->Calls ah 356 #[t0,t1] w k0:=cw func356
def Dw(t0 w)(K:KT):=nz f357 1 [] [] [] (zg [0] [t0]) w K
theorem GG:Dw t0 w k0->Calls ah 357 #[t0] w k0:=cw func357
def Fy(t0 t1 w)(K:KT):=nz f358 1 [] [] [] (zg [0,1] [t0,t1]) w K
theorem HK:Fy t0 t1 w k0->Calls ah 358 #[t0,t1] w k0:=cw func358
def Er(t0 w)(K:KT):=nz f359 1 [] [] [] (zg [0] [t0]) w K
theorem H6:Er t0 w k0->Calls ah 359 #[t0] w k0:=cw func359
def tX(t0 t1 t2 t6 t8 t9 w)(N1:JT)(K:KT):=nz f364 21 [N1] [nh 5 [1,9]] [] (zg [0,1,2,6,8,9] [t0,t1,t2,t6,t8,t9]) w K
def Af(t0 t1 t2 w)(K:KT):=nz f364 1 [] [(5,[1,9],λs v j w f=>tX (s 0) (vg v 0) (s 2) (s 6) (s 8) (vg v 1) w (f 0) K)] [] (zg [0,1,2] [t0,t1,t2]) w K
theorem Ef:Af t0 t1 t2 w k0->Calls ah 364 #[t0,t1,t2] w k0:=cz [] [(2,[1,9])] func364
def rI(t0 t1 w)(K:KT):=nz f363 1 [] [] [] (zg [0,1] [t0,t1]) w K
theorem Az:rI t0 t1 w k0->Calls ah 363 #[t0,t1] w k0:=cw func363
def wX(t0 t8 t9 w)(N1:JT)(K:KT):=nz f294 21 [N1] [nh 5 [0,9]] [] (zg [0,8,9] [t0,t8,t9]) w K
def AR(w)(K:KT):=nz f294 1 [] [(5,[0,9],λs v j w f=>wX (vg v 0) (s 8) (vg v 1) w (f 0) K)] [] (zg [] []) w K
theorem EF:AR w k0->Calls ah 294 #[] w k0:=cz [] [(2,[0,9])] func294
end
section
open Eng Go.RowKit
theorem nfI:nD ah 273=true:=krx
def upI (e:Int):PanicEntry:={ v:=.iface 273 (.agg #[.int .i64 e]),recovered:=aq }
theorem abT (e:Int)(w:ak):Ret ah 272 #[.bool au,.int .i64 e] w (λv w'=>v=.tuple #[]∧w=w'):=by
 refine aK λK hK=>wE ?_;unfold vE nz;simp only[rs,aqF,i_f];exact hK _ _ ⟨rfl,rfl⟩
theorem abA (e:Int)(w:ak):Pan ah 272 #[.bool aq,.int .i64 e] w (λc w'=>c=[upI e]∧w=w'):=by
 refine UJ λK hK=>wE ?_;unfold vE nz;simp only[rs,aqD,i_t];have hb:∀{PK:PKT} {K:VWP},DoX ah (bA 273 #[(0,.int .i64 e)]) w PK K=K (.agg #[.int .i64 e]) w:=aC krx;rw[hb,MI nfI,Kz];exact hK _ _ ⟨rfl,rfl⟩
section
variable {w:ak}{PK:PKT}{K:VWP}{S:Nat->Prop}{w0:ak}{L:List Ent}
theorem jE (kt:q=au->K (.tuple #[]) w)(kf:q=aq->PK [upI e] w):CallX ah 272 #[.bool q,.int .i64 e] w PK K:=by
 cases q with
|true=>exact c_eq (abT e w) (kt rfl)
|false=>exact acO (abA e w) λc w' ⟨hc,hw⟩=>by subst hc;subst hw;exact kf rfl
theorem yS {n:Int}(kr:e=0->K (.int .i64 n) w)(kp:e≠0->PK [upI e] w):CallX ah 331 #[.int .i64 n,.int .i64 e] w PK K:=by
 refine⟨BZ ?_⟩;unfold tN nz;simp only[rs];exact jE (λh=>kr (aoU h)) λh=>kp (apM h)
theorem Sm {s:List UInt8}(kr:e=0->K (.string ⟨s.toArray⟩) w)(kp:e≠0->PK [upI e] w):CallX ah 335 #[.string ⟨s.toArray⟩,.int .i64 e] w PK K:=by
 refine⟨vX ?_⟩;unfold nT nz;simp only[rs];exact jE (λh=>kr (aoU h)) λh=>kp (apM h)
theorem adU {s:List UInt8}(j:Nat)(ho:OwnS S w0 w L)(hj:L[j]?=aw (bqE b s way p))(hp:p<=8*s.length)(hs:s.length<=1000000000)
  (k:∀W,OwnS S w0 W (L.set j (bqE b s 0 ((p+7) / 8*8)))->K (.tuple #[]) W):CallX ah 333 #[.pointer (aw ⟨b,0,av⟩)] w PK K:=by
 have hjl:j < L.length:=(aoX.1 hj).1;refine eW (BF (k0:=RetK λv W=>v=.tuple #[]∧OwnS S w0 W (L.set j (bqE b s 0 ((p+7) / 8*8)))) ?_) (λe W ⟨v,he,hv,ho⟩=>by subst he;subst hv;exact k W ho);unfold uD nz;rw[GD,i_f];refine join λJ hJ=>?_;have fin:∀(W:ak) (u a:Int),a=(((p+7) / 8:Nat):Int)->OwnS S w0 W (L.set j (rqE b s way u a))->J [] W:=by
  intro W u a ha ho;refine hJ _ _ λ_=>?_;unfold qB nz;have hj2:(L.set j (rqE b s way u a))[j]?=aw (rqE b s way u a):=by rw[arR hjl]
  have mb:∀{PK:PKT} {K:VWP},DoX ah (bA 315 #[]) W PK K=K (.agg #[.int .i64 0,.int .i64 0]) W:=aC krx;rw[mb,aY,DL];refine GI j ho hj2 (new:=[.int .i64 0,.int .i64 0]) szSd dc (by show 0+2<=4;omega) λw2 ho=>?_;rw[atN] at ho;refine retK ⟨rfl,?_⟩;subst ha;have e:bqE b s 0 ((p+7) / 8*8)=rqE b s 0 0 (((p+7) / 8:Nat):Int):=by
   unfold rqE bqE bqC;rw[show (p+7) / 8*8 % 8=0 by omega,show (p+7) / 8*8 / 8=(p+7) / 8 by omega];rfl
  rw[e];exact ho
 rw[aY,DL,wV,Qy ho j hj];simp only[rs,aY];by_cases h0:(0:Int) < ((p % 8:Nat):Int)
 ·simp only[h0,aoA,i_t,rs,aY];rw[Hc,ahR ho j hj];simp only[rs,aY];rw[Hc,aA om om];refine Qm (a':=((p / 8:Nat):Int)+1) j ho hj λw3 ho=>?_;exact fin w3 _ _ om ho
 ·simp only[h0,aoB,i_f];refine fin w ((p % 8:Nat):Int) ((p / 8:Nat):Int) om ?_;rw[show rqE b s way ((p % 8:Nat):Int) ((p / 8:Nat):Int)=bqE b s way p from rfl,EY hj];exact ho
theorem akX {s:List UInt8}{n:Nat}(j:Nat)(ho:OwnS S w0 w L)(hj:L[j]?=aw (bqE b s way p))(h8:p % 8=0)(hp:p<=8*s.length)(hn:n<=1000000000)(hs:s.length<=1000000000)
  (k1:p+8*n<=8*s.length->∀W,OwnS S w0 W (L.set j (bqE b s way (p+8*n)))->K (.tuple #[.string ⟨((s.drop (p / 8)).take n).toArray⟩,.int .i64 0]) W)
  (k2:8*s.length < p+8*n->∀W,OwnS S w0 W L->K (.tuple #[.string ⟨#[]⟩,.int .i64 4]) W):CallX ah 336 #[.pointer (aw ⟨b,0,av⟩),.int .i64 (n:Int)] w PK K:=by
 have hjl:j < L.length:=(aoX.1 hj).1;refine eW (D8 (k0:=RetK λv W=>(p+8*n<=8*s.length∧v=.tuple #[.string ⟨((s.drop (p / 8)).take n).toArray⟩,.int .i64 0]∧OwnS S w0 W (L.set j (bqE b s way (p+8*n))))∨(8*s.length < p+8*n∧v=.tuple #[.string ⟨#[]⟩,.int .i64 4]∧OwnS S w0 W L)) ?_) (λe W ⟨v,he,hv⟩=>by
  subst he;rcases hv with ⟨h1,rfl,ho⟩|⟨h1,rfl,ho⟩
  ·exact k1 h1 W ho
  ·exact k2 h1 W ho)
 unfold zC nz;rw[GD];simp only[rs,show ai ((n:Int) < 0)=aq from anY om,aY];rw[DL,wV,Qy ho j hj,h8];simp only[rs,show ai ((0:Int) < ((0:Nat):Int))=aq from rfl];refine cR (λW=>OwnS S w0 W L) ho.drew ?_;refine q_do _ (λ_=>cN) (q_do _ (λ_=>bH Sq) (q_at _ (λW h=>MU (h.at_ j hj)) (Q7 aoD ?_)));refine q_do _ (λ_=>cN) (q_do _ (λ_=>bH Lw) (q_at _ (λW h=>yB (h.at_ j hj)) (q_do _ (λ_=>AH) ?_)));rw[aA om om];refine acK ?_;intro w2 ho;by_cases hend:(s.length:Int) - ((p / 8:Nat):Int) < (n:Int)
 ·simp only[hend,aoA,i_t];exact retK (.inr ⟨om,rfl,ho⟩)
 simp only[hend,aoB,i_f,rs,aY];rw[Hc,ahR ho j hj];simp only[rs,aY];rw[Hc,aA om om];refine Qm (a':=((p / 8:Nat):Int)+n) j ho hj λw3 ho=>?_;have e:rqE b s way ((p % 8:Nat):Int) (((p / 8:Nat):Int)+n)=bqE b s way (p+8*n):=by
  unfold rqE bqE bqC;rw[show (p+8*n) % 8=p % 8 by omega,show (p+8*n) / 8=p / 8+n by omega];rfl
 rw[e] at ho;have hj2:(L.set j (bqE b s way (p+8*n)))[j]?=aw (bqE b s way (p+8*n)):=by rw[arR hjl]
 refine cR (λW=>OwnS S w0 W (L.set j (bqE b s way (p+8*n)))) ho.drew ?_;refine q_do _ (λ_=>cN) (q_do _ (λ_=>bH Sq) (q_at _ (λW h=>MU (h.at_ j hj2)) ?_));refine q_do _ (λ_=>cN) (q_do _ (λ_=>bH Lw) (q_at _ (λW h=>yB (h.at_ j hj2)) (q_do _ (λ_=>AH) ?_)));rw[show (p+8*n) / 8=p / 8+n by omega,aA om om];refine q_do _ (λ_=>cN) (q_do _ (λ_=>bH Lw) (q_at _ (λW h=>yB (h.at_ j hj2)) ?_));rw[show (p+8*n) / 8=p / 8+n by omega];refine q_do _ (λ_=>jG aoD om om om) ?_;intro w4 ho;refine retK (.inl ⟨om,?_,ho⟩);rw[show (((p / 8+n:Nat):Int) - (n:Int)).toNat=p / 8 by omega,show ((p / 8+n:Nat):Int).toNat - p / 8=n by omega]
theorem aeF {s:List UInt8}(h:(bqE b s way p).is W)(hp:p<=8*s.length)(hs:s.length<=1000000000):Ret ah 275 #[.pointer (aw ⟨b,0,av⟩)] W (λv w'=>v=.int .i64 (((p+7) / 8:Nat):Int)∧Below W.heap.size W w'):=by
 refine aK λK hK=>Eu ?_;unfold Bo nz;rw[GD,i_f,aY,DL,wV];refine aC (Gy h) |>.mpr ?_;simp only[rs,aY];by_cases h0:(0:Int) < ((p % 8:Nat):Int)
 ·simp only[h0,aoA,i_t,rs,aY];rw[Hc];refine aC (yB h) |>.mpr ?_;simp only[rs];rw[aA om om];exact hK _ _ ⟨by congr 1;omega,(Own.start W).done⟩
 ·simp only[h0,aoB,i_f,rs,aY];rw[Hc];refine aC (yB h) |>.mpr ?_;exact hK _ _ ⟨by congr 1;omega,(Own.start W).done⟩
end
end
section
open Eng
def zD(t8 w)(N1:JT)(K:KT):=nz f323 491 [N1] [nh 7 [8]] [] (zg [8] [t8]) w K
def zK(t2 t3 t6 t7 t8 w)(N1:JT)(K:KT):=nz f323 43 [N1] [nh 7 [8],(14,[],λs v j w f=>zD (s 8) w (f 0) K)] [] (zg [2,3,6,7,8] [t2,t3,t6,t7,t8]) w K
def Dr(t0 w)(K:KT):=nz f323 1 [] [(7,[8],λs v j w f=>zK (s 2) (s 3) (s 6) (s 7) (vg v 0) w (f 0) K)] [] (zg [0] [t0]) w K
theorem Gf:Dr t0 w k0->Calls ah 323 #[t0] w k0:=cz [(7,[])] [(3,[8])] func323
def Dh(t5 t6 t7 t8 w)(N2:JT)(K:KT):=nz f342 351 [N2] [nh 25 [6,7,8]] [] (zg [5,6,7,8] [t5,t6,t7,t8]) w K
def Dl(t0 t12 t13 t14 w)(N1:JT)(K:KT):=nz f342 43 [N1] [nh 9 [14],(25,[6,7,8],λs v j w f=>Dh (s 5) (vg v 0) (vg v 1) (vg v 2) w (f 0) K)] [] (zg [0,12,13,14] [t0,t12,t13,t14]) w K
def Hn(t0 w)(K:KT):=nz f342 1 [] [(9,[14],λs v j w f=>Dl (s 0) (s 12) (s 13) (vg v 0) w (f 0) K)] [] (zg [0] [t0]) w K
theorem Jo:Hn t0 w k0->Calls ah 342 #[t0] w k0:=cz [] [(4,[14]),(12,[6,7,8])] func342
def Cm(t1 t2 t3 t4 w)(N1:JT)(K:KT):=nz f324 43 [N1] [nh 7 [4]] [(5,11)] (zg [1,2,3,4] [t1,t2,t3,t4]) w K
def ED(t0 w)(K:KT):=nz f324 1 [] [(7,[4],λs v j w f=>Cm (s 1) (s 2) (s 3) (vg v 0) w (f 0) K)] [] (zg [0] [t0]) w K
theorem Ii:ED t0 w k0->Calls ah 324 #[t0] w k0:=cz [] [(3,[4])] func324
def DF(t22 w)(N1:JT)(K:KT):=nz f321 1967 [N1] [nh 15 [22]] [] (zg [22] [t22]) w K
def Di(t5 t6 t20 t21 t22 w)(N1:JT)(K:KT):=nz f321 175 [N1] [nh 15 [22],(24,[],λs v j w f=>DF (s 22) w (f 0) K)] [] (zg [5,6,20,21,22] [t5,t6,t20,t21,t22]) w K
def Hb(t0 w)(K:KT):=nz f321 1 [] [(15,[22],λs v j w f=>Di (s 5) (s 6) (s 20) (s 21) (vg v 0) w (f 0) K)] [] (zg [0] [t0]) w K
theorem I9:Hb t0 w k0->Calls ah 321 #[t0] w k0:=cz [(12,[])] [(7,[22])] func321
def BN(t39 w)(N2:JT)(K:KT):=nz f295 62815 [nj,N2] [nh 15 [7],nh 21 [39]] [] (zg [39] [t39]) w K
def AX(t6 t7 t37 t38 t39 w)(N1 N2:JT)(K:KT):=nz f295 5471 [N1,N2] [nh 15 [7],nh 21 [39],(28,[],λs v j w f=>BN (s 39) w (f 0) K)] [] (zg [6,7,37,38,39] [t6,t7,t37,t38,t39]) w K
def A2(t0 t6 t7 w)(N1:JT)(K:KT):=nz f295 351 [N1] [nh 15 [7],(21,[39],λs v j w f=>AX (s 6) (s 7) (s 37) (s 38) (vg v 0) w (f 1) (f 0) K)] [] (zg [0,6,7] [t0,t6,t7]) w K
def Gq(t0 w)(K:KT):=nz f295 1 [] [(15,[7],λs v j w f=>A2 (s 0) (s 6) (vg v 0) w (f 0) K)] [] (zg [0] [t0]) w K
theorem EH:Gq t0 w k0->Calls ah 295 #[t0] w k0:=cz [(14,[])] [(7,[7]),(10,[39])] func295
def sI(t0 t1 t6 t7 t8 w)(N1:JT)(K:KT):=nz f347 175 [N1] [nh 13 [6,7,8]] [] (zg [0,1,6,7,8] [t0,t1,t6,t7,t8]) w K
def vF(t0 t1 w)(K:KT):=nz f347 1 [] [(13,[6,7,8],λs v j w f=>sI (s 0) (s 1) (vg v 0) (vg v 1) (vg v 2) w (f 0) K)] [] (zg [0,1] [t0,t1]) w K
theorem CZ:vF t0 t1 w k0->Calls ah 347 #[t0,t1] w k0:=cz [] [(6,[6,7,8])] func347
end
end Go.Proofs.YtlipjfcbjemicaaGreatDoor
