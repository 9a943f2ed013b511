/- Texts that go together: CsA FeC EngAI SFiltR FeD FeE Plain16N Plain16C Plain16D Plain16E Plain16F Plain16G Plain16H Plain16I Plain16J Plain16K Plain16L PlainSrt PlainSrtB PlainSrtC SSlcS DfE DfF DfG DfH. -/
import Derived.Test.YtlipjfcbjemicaaGreatDoorRows
import Derived.Test.YtlipjfcbjemicaaGreatDoorMihpipgia
set_option linter.defProp false
set_option linter.unusedSimpArgs false
set_option linter.unusedVariables false
set_option maxRecDepth 20000
open Go.Proofs.Tryz
open Go.Proofs.Tryz renaming prog->ah
open Option renaming some->ax,none->aw
open Bool renaming true->av,false->au
open Go renaming Value->aq,World->ao
open Decidable renaming decide->ai
namespace Go.Proofs.YtlipjfcbjemicaaGreatDoor
variable{B Sy cl counts l near:List Nat}{C:ao->Prop}{K:VWP}{M:Eng.Mem}{P:Program}{PK PK2:PKT}{R:Ending->FrameMode->ao->Prop}{W w:ao}{a colors:Int}{above:List UInt8}{aj:List (Nat×List Nat)}{args ca fa:Array aq}{b cap d f i id j jm m most p t:Nat}{cs:List aq}{cv t0 v vc vk:aq}{fn:Func}{o:Ob}{os:List Ob}{u:FrameMode}{α:Type}{t0 t1 t2 t3 t4:aq}{k0:Eng.KT}
section
open Eng Go.RowKit
namespace Cs
def nbG:Nat->Int->Nat
|0,_=>0
|f+1,n=>if 0 < n then nbG f (n.fdiv 256)+1 else 0
def nb (n:Int):Nat:=nbG 4 n
def maxL (l:List Int):Int:=l.foldl (λm x=>max m x) 0
def wa (l:List Slt):Nat:=nb (maxL (l.map (·.a)))
def wb (l:List Slt):Nat:=nb (maxL (l.map (·.b)))
def num (n:Int):Nat->List UInt8
|0=>[]
|w+1=>UInt8.ofNat ((n / (256 ^ w)) % 256).toNat::num n w
theorem YC:∀(f:Nat) (n:Int),nbG f n<=f
|0,_=>alP _
|f+1,n=>by
  have:=YC f (n.fdiv 256);unfold nbG;split<;>omega
theorem afM (n:Int):nb n<=4:=YC 4 n
theorem jP (n:Int):∀w,(num n w).length=w
|0=>rfl
|w+1=>by unfold num;rw[amC,jP n w]
theorem Lu (l:List Int)(x:Int):maxL (l++[x])=max (maxL l) x:=by unfold maxL;rw[asI];rfl
end Cs
theorem I8 (n:Int)(w:ao):Ret ah 104 #[.int .i64 n] w (λv w'=>v=.int .i64 (Cs.nb n:Nat)∧w=w'):=by
 refine aZ λK a=>Fp ?_;unfold Ce nz;refine loop (λvs W=>∃(m:Int) (k:Nat),vs=[.int .i64 m,.int .i64 (k:Int)]∧k<=4∧Cs.nb n=k+Cs.nbG (4 - k) m∧w=W) (λvs _=>4 - n1 vs) ⟨n,0,rfl,om,by simp[Cs.nb],rfl⟩ ?_;rintro vs c ⟨m,k,rfl,d,he,rfl⟩ _;simp only[wQ,gd,rs,nz];by_cases hm:0 < m
 ·simp only[alM hm,rs,g_un];by_cases b:(k:Int) < 4
  ·simp only[alM b,i_t];rw[aA om om,Hr dc,show (2:Int) ^ min (8:Int).toNat IntKind.i64.bits=256 from rfl];refine aY ⟨m.fdiv 256,k+1,rfl,om,?_,rfl⟩ (by simp[n1,RowKit.intOf];omega);rw[he,show 4 - k=(4 - (k+1))+1 by omega,Cs.nbG,alH hm];omega
  ·simp only[alJ b,i_f];have:k=4:=om
   subst this;exact a _ _ ⟨by rw[he];rfl,rfl⟩
 ·simp only[alJ hm,rs,g_un,i_f];refine a _ _ ⟨?_,rfl⟩;rw[he];cases h:4 - k with
 |zero=>rfl
 |succ f=>rw[Cs.nbG,alG hm];rfl
def w3C (a b:Int):List Value:=[.int .i64 1,.int .i64 a,.int .i64 b]
def w3V (a b:Int):Value:=.agg (w3C a b).toArray
theorem agg3:aggN ah 71=ax 3:=krx
theorem sz3:(Tryz.prog.info? 71).map (·.size)=ax 3:=krx
def w0C:List Value:=[.int .i64 0,.int .i64 0,.int .i64 0]
section
variable {w:ao}{PK:PKT}{K:VWP}{S:Nat->Prop}{w0:ao}{L T:List Ent}
theorem o_w3 (a:OwnS S w0 w L)(k:∀b w',OwnS S w0 w' (.cells b w0C 71::L)->K (.pointer (ax ⟨b,0,aw⟩)) w'):DoX ah (iL 71) w PK K:=
 bA (λb=>.pointer (ax ⟨b,0,aw⟩)) w0C 71 (λ_=>by kernel_rfl) a k
theorem UC (j:Nat){c:List aq}{d:Int}(g:c.length=3)(f:OwnS S w0 w L)(hi:L[j]?=ax (.cells b c 71))(k:∀w',OwnS S w0 w' (L.set j (.cells b (w3C a d) 71))->K undef w') :
  DoX ah (aN 71 (.pointer (ax ⟨b,0,aw⟩)) (w3V a d)) w PK K:=by
 refine xH j f hi (new:=w3C a d) sz3 (λv h=>?_) (by rw[g];show 0+3<=3;omega) λw' f=>k w' ?_
 ·simp only[w3C,alN,anA,or_false] at h;rcases h with rfl|rfl|rfl<;>rfl
 ·have e:c.take 0++w3C a d++c.drop (0+(w3C a d).length)=w3C a d:=by
   rw[anR (by rw[g];show 3<=0+3;omega)];simp
  rw[e] at f;exact f
theorem m_w3 {b:Int}:DoX ah (aS 71 #[(0,.int .i64 1),(1,.int .i64 a),(2,.int .i64 b)]) w PK K=K (w3V a b) w:=aD krx
end
theorem BF (l:List Slt)(v:aq)(M:Mem)(w:ao)(o:l.length<=1000000000)(f:M.has w)(h:SlA M.A M.w v 4 l.length (slsC l)) :
  RetM ah 39 #[v] M w (λr _=>r=w3V (Cs.wa l:Nat) (Cs.wb l:Nat)):=by
 refine bB f λK j=>Eh ?_;unfold AD nz;refine o_w3 (OwnS.memS f) λb2 p c=>?_;rw[bE aoU (h.now (c.hasM 1 rfl))];refine loop (λvs W=>∃(i:Nat),vs=[.int .i64 (Cs.maxL ((l.take i).map (·.a))),.int .i64 (Cs.maxL ((l.take i).map (·.b))),.int .i64 (i:Int)]∧i<=l.length∧OwnS M.A w W [.cells b2 w0C 71,.mem M]) (λvs _=>l.length - (RowKit.intOf (vs.getD 2 undef)).toNat) ⟨0,rfl,om,c⟩ ?_;clear c;rintro vs w2 ⟨i,rfl,hi,c⟩ _;simp only[vL,gd,rs,nz];by_cases d:(i:Int) < (l.length:Int)
 ·simp only[alM d,i_t];have e:i < l.length:=om
  obtain⟨g,off,k⟩:=oJ h e;obtain⟨m,n⟩:=k w2 (c.hasM 1 rfl);refine aD m |>.mpr (aD (BJ n) |>.mpr ?_);refine KD c λq w3 c=>?_;refine HQ (y:=l[i]) 0 c rfl λs c=>?_;rw[Ql,aJ aU (c.cell 0 rfl 2 rfl),yI,O2,aJ aU (c.cell 0 rfl 3 rfl),yI]
  try simp only[rs]
  rw[aA om om];refine aY ⟨i+1,?_,om,c.tail⟩ (by simp[RowKit.intOf];omega);rw[DW e,amW,amW,List.map_singleton,List.map_singleton,Cs.Lu,Cs.Lu];rfl
 simp only[alJ d,i_f];have:i=l.length:=om
 subst this;rw[anI];refine c_eq (I8 _ w2) ?_;refine c_eq (I8 _ w2) ?_;rw[m_w3];refine UC 0 rfl c rfl λw3 c=>?_;exact iC (bI (c.agg 0 rfl agg3)) (j _ _ M _ 1 c rfl M.le_refl rfl)
section
variable {w:ao}{PK:PKT}{K:VWP}{S:Nat->Prop}{w0:ao}{L T:List Ent}
theorem ccu8 {n:Int}:DoX ah (sE 3 5 (.int .i64 n)) w PK K=K (.int .u8 (IntKind.wrap .u8 n)) w:=aD krx
theorem HY {n:Int}{wd:Nat}{ov:aq}{out:List UInt8}(b:OwnS S w0 w (outR ov out::T))(hw:wd<=4)(o:out.length<=100000000)(k:∀a W,OwnS S w0 W (outR a (out++Cs.num n wd)::T)->K a W) :
  CallX ah 103 #[ov,.int .i64 n,.int .i64 (wd:Int)] w PK K:=by
 refine fG (Eb (k0:=RetK λv W=>OwnS S w0 W (outR v (out++Cs.num n wd)::T)) ?_) (λe W ⟨v,he,b⟩=>by subst he;exact k v W b);unfold A6 nz;simp only[rs];rw[aA om om];refine loop (λvs W=>∃(j:Nat) (a:aq) (q:List UInt8),vs=[a,.int .i64 ((j:Int) - 1)]∧j<=wd∧q++Cs.num n j=out++Cs.num n wd∧q.length<=out.length+wd∧OwnS S w0 W (outR a q::T)) (λvs _=>(RowKit.intOf (vs.getD 1 undef)+1).toNat) ⟨wd,ov,out,rfl,om,rfl,om,b⟩ ?_;clear b;rintro vs p ⟨j,a,q,rfl,r,c,h,b⟩ _;simp only[uL,gd,rs,nz];by_cases l:0 < j
 ·simp only[show ai ((0:Int)<=(j:Int) - 1)=av from alM om,i_t];obtain⟨i,rfl⟩:∃i,j=i+1:=⟨j - 1,om⟩;rw[show ((i+1:Nat):Int) - 1=(i:Int) by omega];have m:i < 4:=om
  have d:n.fdiv (2 ^ min (8*(i:Int)).toNat IntKind.i64.bits)=n / 256 ^ i:=by
   rw[aqI _ (Int.le_of_lt (Int.pow_pos dc))]
   congr 1
   rcases (by omega:i=0∨i=1∨i=2∨i=3) with rfl|rfl|rfl|rfl<;>rfl
  rw[aA om om,Hr om,d,ccu8];have hu:IntKind.wrap .u8 (n / 256 ^ i)=((UInt8.ofNat ((n / 256 ^ i) % 256).toNat).toNat:Int):=by
   have g:=Int.emod_nonneg (n / 256 ^ i) (show (256:Int)≠0 by decide);have s:=Int.emod_lt_of_pos (n / 256 ^ i) (show (0:Int) < 256 by decide);rw[apR,anD (show _ < 2 ^ 8 by omega)];show (n / 256 ^ i) % 256=_;omega
  rw[hu];refine adZ _ b om λf w2 b=>?_
  try simp only[rs]
  rw[aA om om];refine aY ⟨i,f,_,rfl,om,?_,?_,b⟩ (by simp[RowKit.intOf])
  ·rw[<-c,Cs.num,alS];try rfl
  ·have g:=congrArg List.length c;rw[alI,alI,Cs.jP,Cs.jP] at g;rw[alI];show _+1<=_;omega
 have:j=0:=om
 subst this;simp only[show ai ((0:Int)<=((0:Nat):Int) - 1)=au from rfl,i_f];have e:q=out++Cs.num n wd:=by rw[<-c];simp[Cs.num]
 rw[e] at b;exact⟨_,rfl,b⟩
end
end
section
open Eng Go.RowKit
def aaP:aq->Nat|.slice _ n _=>n|_=>0
namespace Ff
def filt (o:Ob):List Ob:=match Vl.get o aX with|none=>[]|some f=>if f.k=6 then f.kids else [f]
def tS (o:Ob):List Ob×Int:=match Vl.get o cL with|none=>([],0)|some d=>if d.k=6 then (d.kids,0) else if d.k=7 then ([d],0) else ([],10)
def tO (o:Ob)(many:Nat):List Pm×Int:=
 if (tS o).2≠0 then ([],10)
 else if (tS o).1.any (λx=>ai ((parm x).2≠0))=av then ([],10)
 else if many < (tS o).1.length then ([],1)
 else if (tS o).1.any (λx=>!eight x)=av then ([],1)
 else ((tS o).1.map (λx=>(parm x).1)++List.replicate (many - (tS o).1.length) zY,0)
theorem VC {x:Ob}(h:x∈(tS o).1):x.wt<=o.wt:=by
 unfold tS at h;cases a:Vl.get o cL with
|none=>rw[a] at h;simp at h
|some f=>
  rw[a] at h;have b:=pf a;dsimp only at h;split at h
  ·obtain⟨i,hi,rfl⟩:=aoX (show x∈f.kids from h);have:=Lz hi;omega
  split at h
  ·rw[amH.1 h];exact b
  ·simp at h
theorem qP {o:Ob}:o.kids.length<=o.wt:=by
 have:=Ob.Bn o.kids;cases o;simp only[Ob.kids] at *;rw[Ob.wt];omega
theorem Qc (h:o.wt<=1000000000):(filt o).length<=1000000000:=by
 unfold filt;cases a:Vl.get o aX with
|none=>exact amN _
|some f=>
  have b:=pf a;dsimp only;split
  ·have:=@qP f;omega
  ·exact (by decide:(1:Nat)<=1000000000)
theorem UD (h:o.wt<=1000000000):(tS o).1.length<=1000000000:=by
 unfold tS;cases a:Vl.get o cL with
|none=>exact amN _
|some f=>
  have b:=pf a;dsimp only;split
  ·have:=@qP f;show f.kids.length<=_;omega
  split
  ·exact (by decide:(1:Nat)<=1000000000)
  ·exact amN _
end Ff
section
variable {w:ao}{PK:PKT}{K:VWP}{S:Nat->Prop}{w0:ao}{L:List Ent}
structure LsAt (M:Mem) (v:aq) (os:List Ob) (cs:List aq):Prop where
 sl:SlA M.A M.w v 6 os.length cs
 all:OVs M.A M.w cs os
theorem LsAt.le {M N:Mem}{v:aq}{os:List Ob}{cs:List aq}(h:M.le N)(k:LsAt M v os cs):LsAt N v os cs:=⟨k.sl.le h,k.all.le h⟩
theorem abN (M:Mem):LsAt M nilS [] []:=⟨SlA.nil _ _ _ _,OVs.nil⟩
theorem JJ (h:OV M.A M.w (obV o vk vc) o):∃cs,LsAt M vc o.kids cs:=by
 obtain⟨cs,a⟩:=h.slices;exact⟨cs,a.kids,a.all⟩
theorem ER (h:LsAt M v os cs):DoX ah (mB .len #[23] 3 #[au] #[v]) W PK K=K (.int .i64 (os.length:Int)) W:=by
 obtain⟨a,cap,rfl,_⟩:=h.sl.form;exact bQ amA
theorem MJ (h:LsAt M v os cs)(hi:i < os.length)(f:M.has w)(k:∀vk vc,OV M.A M.w (obV os[i] vk vc) os[i]->K (obV os[i] vk vc) w) :
  DoX ah (mIA 23 v (.int .i64 (i:Int))) w PK λt w=>DoX ah (aH 25 t) w PK2 K:=by
 obtain⟨b,off,vk,e,c,d,a⟩:=UJ h.sl h.all hi;refine aD (c w) |>.mpr ?_;refine aD (aW (AtV.agg lF (cs:=obC os[i] vk e) rfl (a w f))) |>.mpr ?_;exact k vk e d
theorem TL (a:OwnS S w0 w (.mem M::L))(hw:o.wt<=1000000000)(E:OV M.A M.w v o)
  (q:(∀x∈Ff.filt o,x.k=5)->∀vn N W,M.le N->SlA N.A N.w vn 1 ((Ff.filt o).map Ob.s).length (bZ ((Ff.filt o).map Ob.s))->OwnS S w0 W (.mem N::L)->K vn W)
  (F:¬(∀x∈Ff.filt o,x.k=5)->∀N W,M.le N->OwnS S w0 W (.mem N::L)->PK [upF 10] W):CallX ah 79 #[v] w PK K:=by
 obtain⟨vk,vc,P,rfl,G⟩:=E.open;have r:=Ff.Qc hw;generalize c:Ff.filt o=X at q F r;unfold Ff.filt at c;refine⟨B5 ?_⟩;unfold xR nz;refine iU o G.keys.one G.kids.one a λQ R a=>?_;rw[ob_v a 0 rfl];refine bH a 1 rfl (zN o _ Ff.aX M R om (a.hasM 1 rfl) E) ?_;rintro _ N w2 hle ⟨x,rfl,b⟩ a;obtain⟨H,t,rfl,b⟩:=Gi b;simp only[getV,ex];refine fO a λb3 w3 a=>?_;refine bK 0 b.oneK b.oneC a rfl λY a=>?_;rw[ob_v a 0 rfl];refine Js _ b.oneK b.oneC a λnb n a=>?_;have a:OwnS S w0 n (obE nb ((Vl.get o Ff.aX).getD Vl.ob0) H t::obE b3 ((Vl.get o Ff.aX).getD Vl.ob0) H t::obE Q o vk vc::.mem N::L):=a;refine join λJ T=>?_;have main:∀(l:Mem) (u:aq) (cs:List aq) (W:ao),M.le l->LsAt l u X cs->OwnS S w0 W (.mem l::L)->J [u] W:=by
  intro l u cs W g d a;refine T _ _ λ_=>?_;simp only[rY,gd,nz];rw[ER d];have a:=OwnS.nilU a 9 1;refine loop (λvs W=>∃(i:Nat) (ov:aq),vs=[ov,.int .i64 (i:Int)]∧i<=X.length∧(∀x∈X.take i,x.k=5)∧OwnS S w0 W (stsE ov ((X.take i).map Ob.s)::.mem l::L)) (λvs _=>X.length - n1 vs) ⟨0,nilS,rfl,om,sm,a⟩ ?_;clear a;rintro vs U ⟨i,ov,rfl,hi,y,a⟩ _;simp only[tC,gd,rs,nz];by_cases m:(i:Int) < (X.length:Int)
  case neg=>
   simp only[m,alL,i_f];have:i=X.length:=om
   subst this;rw[anI] at y a;obtain⟨z,B,j,a⟩:=a.bJ 0 rfl;exact q y ov z U (g.trans B) j a
  simp only[m,alK,i_t];have e:i < X.length:=om
  refine MJ d e (a.hasM 1 rfl) λZ yc I=>?_;refine fO a λb8 w7 a=>?_;refine bK 0 I.oneK I.oneC a rfl λV a=>?_;rw[fR,ob_k a 0 rfl];simp only[rs];refine nN (λh=>?_) (λh=>?_)
  rotate_left
  ·exact F (λk=>(amR h) (k _ (alX e))) l V g a.tail.tail
  have h:=alZ h;rw[G5,ob_s a 0 rfl];refine UT _ a.tail (by rw[amT,alR];omega) λC W2 a=>?_
  try simp only[rs]
  rw[aA om om];refine aY ⟨i+1,C,rfl,om,?_,?_⟩ (by simp[n1,RowKit.intOf];omega)
  ·rw[amO e];intro x b;rcases amK.1 b with b|b
   ·exact y x b
   ·rw[amH.1 b];exact h
  ·rw[amO e,amW];exact a
 cases O:Vl.get o Ff.aX with
|none=>
  rw[O] at c;dsimp only at c;subst c;simp only[apU,rs,anK,i_t];exact q sm nilS N n hle (SlA.nil _ _ _ _) a.tail.tail.tail
|some f=>
  rw[O] at c a b;dsimp only at c;rw[apA] at a b;simp only[aqD,rs,anH,i_f];rw[fR,ob_k a 1 rfl];simp only[rs];by_cases p:f.k=6
  ·rw[alH p] at c;subst c;simp only[p,alK,i_t];rw[pF,fL a 1 rfl];obtain⟨cs,d⟩:=JJ b;exact main N t cs n hle d a.tail.tail.tail
  ·rw[alG p] at c;subst c;simp only[p,alL,i_f];obtain⟨z,B,j,D,a⟩:=SN a 2 rfl b;exact main z _ _ n (hle.trans B) ⟨j,D⟩ a.tail.tail
theorem Wt {many:Nat}(b:OwnS S w0 w (.mem M::L))(hw:o.wt<=1000000000)(hm:many<=1000000000)(hv:OV M.A M.w v o)
  (Z:(Ff.tO o many).2=0->∀vp N W,M.le N->SlA N.A N.w vp 3 (Ff.tO o many).1.length ((Ff.tO o many).1.flatMap pmC)->OwnS S w0 W (.mem N::L)->K vp W)
  (kf:(Ff.tO o many).2≠0->∀N W,M.le N->OwnS S w0 W (.mem N::L)->PK [upF (Ff.tO o many).2] W):CallX ah 81 #[v,.int .i64 (many:Int)] w PK K:=by
 obtain⟨vk,vc,b6,rfl,ha⟩:=hv.open;have H:=Ff.UD hw;have y:∀x∈(Ff.tS o).1,x.wt<=1000000000:=λx c=>by have:=Ff.VC c;omega
 generalize m:Ff.tO o many=X at Z kf;unfold Ff.tO at m;generalize r:Ff.tS o=D at m H y;obtain⟨l,de⟩:=D;unfold Ff.tS at r;dsimp only at m H y;refine⟨Ed ?_⟩;unfold Bf nz;refine iU o ha.keys.one ha.kids.one b λb1 w1 b=>?_;refine join λJ hJ=>?_;rw[ob_v b 0 rfl];refine bH b 1 rfl (zN o _ Ff.cL M w1 om (b.hasM 1 rfl) hv) ?_;rintro _ N w2 hle ⟨x,rfl,c⟩ b;obtain⟨xk,xc,rfl,c⟩:=Gi c;simp only[getV,ex];refine fO b λb3 w3 b=>?_;refine bK 0 c.oneK c.oneC b rfl λw4 b=>?_;have b:OwnS S w0 w4 (obE b3 ((Vl.get o Ff.cL).getD Vl.ob0) xk xc::obE b1 o vk vc::.mem N::L):=b;have fail:∀{e:Int} {t:Mem} {W:ao},X=([],e)->e≠0->M.le t->OwnS S w0 W (.mem t::L)->PK [upF e] W:=by
  intro e t W he I g b;rw[he] at kf;exact kf I t W g b
 have main:de=0->∀(t:Mem) (vl:aq) (cs:List aq) (W:ao),M.le t->LsAt t vl l cs->OwnS S w0 W (.mem t::L)->J [vl] W:=by
  intro a1 t vl cs W g p b;rw[alG (by rw[a1];decide)] at m;refine hJ _ _ λ_=>?_;simp only[vK,gd,nz];rw[ER p];have b:=OwnS.nilU b 27 3;refine loop (λvs W=>∃(i:Nat) (ov:aq) (z:Mem),vs=[ov,.int .i64 (i:Int)]∧i<=l.length∧(∀x∈l.take i,(Ff.parm x).2=0)∧t.le z∧OwnS S w0 W (pmsE ov ((l.take i).map λx=>(Ff.parm x).1)::.mem z::L)) (λvs _=>l.length - n1 vs) ⟨0,nilS,t,rfl,om,sm,t.le_refl,b⟩ ?_;clear b;rintro vs w6 ⟨i,ov,z,rfl,hi,I,B,b⟩ _;simp only[vP,gd,rs,nz];by_cases n:(i:Int) < (l.length:Int)
  ·simp only[n,alK,i_t];have d:i < l.length:=om
   refine MJ (p.le B) d (b.hasM 1 rfl) λT U F=>?_;refine fO b λV w7 b=>?_;refine bK 0 F.oneK F.oneC b rfl λG b=>?_;rw[ob_v b 0 rfl];have b:OwnS S w0 G ([obE V l[i] T U,pmsE ov ((l.take i).map λx=>(Ff.parm x).1)]++([.mem z]++L)):=b;refine acH b.front (by have:=y _ (alX d);omega) F (λe0 u W2 E b=>?_) (λe0 u W2 E b=>?_)
   rotate_left
   ·refine fail (e:=10) ?_ dc ((g.trans B).trans E) (b.sub (.cons_cons _ (.cons _ (.cons _ (aqP _)))));rw[alH (aoW.2 ⟨_,alX d,alM (by rw[e0];decide)⟩)] at m;exact m.symm
   have b:OwnS S w0 W2 ([.mem u,obE V l[i] T U]++([pmsE ov ((l.take i).map λx=>(Ff.parm x).1)]++L)):=b;have b:=b.front;have b:OwnS S w0 W2 (pmsE ov ((l.take i).map λx=>(Ff.parm x).1)::.mem u::obE V l[i] T U::L):=b;refine Yj _ b (by rw[amT,alR];omega) λC W3 b=>?_
   try simp only[rs]
   rw[aA om om];refine aY ⟨i+1,C,u,rfl,om,?_,B.trans E,?_⟩ (by simp[n1,RowKit.intOf];omega)
   ·rw[amO d];intro x c;rcases amK.1 c with c|c
    ·exact I x c
    ·rw[amH.1 c];exact e0
   ·rw[amO d,amW];exact b.sub (.cons_cons _ (.cons_cons _ (.cons _ (aqP _))))
  simp only[n,alL,i_f];have:i=l.length:=om
  subst this;rw[anI] at I b;rw[alG (λh=>by
   obtain⟨x,c,h⟩:=aoW.1 h;exact (alZ h) (I x c))] at m
  rw[ER p];simp only[rs];refine nN (λh=>?_) (λh=>?_)
  rotate_left
  ·have:=amR h;rw[alH om] at m;exact fail m.symm dc (g.trans B) b.tail
  have b7:=alZ h;rw[alG om] at m;rw[ER p];generalize a6:(l.map λx=>(Ff.parm x).1)=ps at m b;have O:ps.length=l.length:=by rw[<-a6,amT]
  refine loop (λvs W=>∃(i:Nat) (u:Mem),vs=[.int .i64 (i:Int)]∧i<=l.length∧(∀x∈l.take i,Ff.eight x=av)∧z.le u∧OwnS S w0 W (pmsE ov ps::.mem u::L)) (λvs _=>l.length - n0 vs) ⟨0,z,rfl,om,sm,z.le_refl,b⟩ ?_;clear b;rintro vs w7 ⟨i,u,rfl,hi,h8,E,b⟩ _;simp only[uP,gd,rs,nz];by_cases n:(i:Int) < (l.length:Int)
  ·simp only[n,alK,i_t];have d:i < l.length:=om
   refine MJ ((p.le B).le E) d (b.hasM 1 rfl) λT U F=>?_;refine fO b λV G b=>?_;refine bK 0 F.oneK F.oneC b rfl λw9 b=>?_;rw[ob_v b 0 rfl];refine bH b 2 rfl (Q7 l[i] _ u w9 (by have:=y _ (alX d);omega) (b.hasM 2 rfl) F) ?_;rintro _ N4 b9 l4 rfl b;refine nN (λh=>?_) (λh=>?_)
   rotate_left
   ·rw[alH (aoW.2 ⟨_,alX d,by rw[h];rfl⟩)] at m;exact fail m.symm dc (((g.trans B).trans E).trans l4) b.tail.tail
   try simp only[rs]
   rw[aA om om];refine aY ⟨i+1,N4,rfl,om,?_,E.trans l4,b.tail⟩ (by simp[n0,RowKit.intOf];omega);rw[amO d];intro x c;rcases amK.1 c with c|c
   ·exact h8 x c
   ·rw[amH.1 c];exact h
  simp only[n,alL,i_f];have:i=l.length:=om
  subst this;rw[anI] at h8;rw[alG (λh=>by
   obtain⟨x,c,h⟩:=aoW.1 h;rw[h8 x c] at h;cases h)] at m
  refine loop (λvs W=>∃(j:Nat) (ov:aq),vs=[ov]∧l.length+j<=many∧OwnS S w0 W (pmsE ov (ps++List.replicate j Ff.zY)::.mem u::L)) (λvs _=>many - aaP (vs.getD 0 undef)) ⟨0,ov,rfl,om,by rw[List.replicate_zero,amE];exact b⟩ ?_;clear b;rintro vs G ⟨j,ov,rfl,hj,b⟩ _;have P:(ps++List.replicate j Ff.zY).length=l.length+j:=by rw[alI,amY,O]
  have a7:∃a cap,ov=.slice a (l.length+j) cap:=by
   obtain⟨_,a,cap,h,_⟩:=Sl.urow (b.at_ 0 rfl);exact⟨a,cap,by rw[h,P]⟩
  obtain⟨a,cap,Q⟩:=a7;simp only[uB,gd,nz];rw[show DoX ah (mB .len #[40] 3 #[au] #[ov]) G=DoX ah (mB .len #[40] 3 #[au] #[.slice a (l.length+j) cap]) G by rw[Q],bQ aqY];simp only[rs];by_cases n:((l.length+j:Nat):Int) < (many:Int)
  ·simp only[n,alK,i_t];refine aM b (D4 G) ?_;rintro _ w9 rfl b;refine Yj _ b (by rw[P];omega) λC W3 b=>?_;have b:OwnS S w0 W3 (pmsE C (ps++List.replicate (j+1) Ff.zY)::.mem u::L):=by
    rw[List.replicate_succ',<-alS];exact b
   have R:(ps++List.replicate (j+1) Ff.zY).length=l.length+(j+1):=by rw[alI,amY,O]
   refine aY ⟨j+1,C,rfl,om,b⟩ ?_;obtain⟨_,a',b5,h',_⟩:=Sl.urow (b.at_ 0 rfl);rw[Q,h',R];show many - (l.length+(j+1)) < many - (l.length+j);omega
  simp only[n,alL,i_f];have a8:j=many - l.length:=om
  subst a8;rw[<-m] at Z;obtain⟨N5,l5,b0,b⟩:=b.bJ 0 rfl;exact Z rfl ov N5 G (((g.trans B).trans E).trans l5) b0 b
 cases hg:Vl.get o Ff.cL with
|none=>
  rw[hg] at r;dsimp only at r
  injection r with s q
  subst s;simp only[apU,rs,i_f];exact main q.symm N nilS [] w4 hle (abN N) b.tail.tail
|some f=>
  rw[hg] at r b c;dsimp only at r;rw[apA] at b c;simp only[aqD,i_t];rw[ob_v b 0 rfl];refine Js _ c.oneK c.oneC b λnb w5 b=>?_;rw[fR,ob_k b 1 rfl];simp only[rs];by_cases Y:f.k=6
  ·rw[alH Y] at r
   injection r with s q
   subst s;simp only[Y,alK,i_t];rw[pF,fL b 1 rfl];obtain⟨cs,p⟩:=JJ c;exact main q.symm N xc cs w5 hle p b.tail.tail.tail
  rw[alG Y] at r;simp only[Y,alL,i_f];rw[fR,ob_k b 1 rfl];simp only[rs];refine nN (λh=>?_) (λh=>?_)
  ·rw[alH (alZ h)] at r
   injection r with s q
   subst s;obtain⟨z,B,b2,b4,b⟩:=SN b 2 rfl c;exact main q.symm z _ _ w5 (hle.trans B) ⟨b2,b4⟩ b.tail.tail
  ·rw[alG (amR h)] at r
   injection r with s q
   rw[alH (by rw[<-q];decide)] at m;exact fail m.symm dc hle b.tail.tail.tail
end
end
namespace Eng
theorem wH {f:FuncId}{o c:Oper}{rest:Code}{args:List aq}{n d2:Nat}{J:List (Nat×List Nat)}{rs:List ResultVar}
  (L:P.funcs[f]?=ax fn) (M:fn.body=ax (.seq (.region id #[o,c] au) rest)) (N:o.op=.call { callee:=.builtin .recover,args:=#[],argTypes:=#[] }) (O:o.guard=aw) (I:o.dst=ax d) (C:Nat.blt d n=av)
  (D:c.op=.assign (.tmp d)) (E:c.guard=aw) (q:c.dst=ax d2) (r:Nat.blt d2 n=av)
  (Q:fn.ntmps=n) (F:fn.results.toList=rs) (S:Nat.ble args.length n=av)
  (h:wpX P n aj J aw rest (topD P rs (λe w'=>R e (recM u) w')) (upd (upd (kI args) d (recV u)) d2 (recV u)) [] w):CallsD P f args.toArray u w R:=by
 refine callsD_of_wpS L M λp cs hu=>?_;rw[Q];refine wpS_seq (wpS_region ?_);have hex:∀ρ:Operand->aq,(execOp ρ o).run P w=.ok .recover w:=by
  intro ρ;unfold execOp;rw[N];simp[resolve,invoke,builtin,bind,pure,Sem.bind,Sem.run]
 have s:=CC (args:=args) S;have b:Rep n (upd (kI args) d (recV u)) (({ tmps:=args.toArray++Array.replicate (n - args.toArray.size) undef,defers:=[] }:Act).put o.dst (recV u)).tmps:=by
  rw[I];exact Rep.put (a:={ tmps:=args.toArray++Array.replicate (n - args.toArray.size) undef,defers:=[] }) s (d:=ax d) C (recV u)
 have g:(({ tmps:=args.toArray++Array.replicate (n - args.toArray.size) undef,defers:=[] }:Act).put o.dst (recV u)).defers=[]:=by rw[I];rfl
 obtain⟨B,i⟩:∃A,A=({ tmps:=args.toArray++Array.replicate (n - args.toArray.size) undef,defers:=[] }:Act).put o.dst (recV u):=⟨_,rfl⟩;rw[<-i] at b g;have t:(execOp B.eval c).run P w=.ok (.value (recV u)) w:=by
  rw[Rep.eval b];unfold execOp;rw[D];simp[rd,upd,pure,Sem.run]
 have key:wpOpsS P #[o,c] (Exit.thenS (rest.wpS P (bodyPostS P fn p cs R)) (bodyPostS P fn p cs R)) [1] B ({ p with mode:=recM u }::cs) w:=by
  unfold wpOpsS;simp only[atN,amS,aqR];rw[alH (by simp[Region.wanted,E]),t];simp only[Oper.upon];have j:Rep n (upd (upd (kI args) d (recV u)) d2 (recV u)) (B.put c.dst (recV u)).tmps:=by
   rw[q];exact Rep.put b (d:=ax d2) r (recV u)
  have k:(B.put c.dst (recV u)).defers=[]:=by rw[q];exact g
  refine wpS_of_wp (Code.wp_mono ?_ (wpIn_wide.1 (B8 rest aw _ _ _ w j (by rw[k];exact h))));rintro e a w' ⟨σ,T,l⟩;have y:∀K:Ending->ao->Prop,RetD P (rvOf σ rs) w' K->∃v,(results fn a.tmps).run P w'=.ok v w'∧K (.returned v) w':=λK l=>by
   rw[zO T,F];exact FT l
  generalize m:a.defers=ds at l;cases e<;>cases ds<;>first|(exact l.elim;done)|skip
  ·obtain⟨v,G,H⟩:=y (λe w'=>R e (recM u) w') l;exact⟨m,recM u,rfl,v,G,H⟩
  ·obtain⟨v,G,H⟩:=y (λe w'=>R e (recM u) w') l;exact⟨m,recM u,rfl,v,G,H⟩
  ·exact⟨m,recM u,rfl,l⟩
 have e:=rec_eq p cs;rw[hu] at e;show wpOpsS P #[o,c] _ [0,1] _ (p::cs) w;unfold wpOpsS;simp only[atN,aqR];rw[alH (by simp[Region.wanted,O])];rw[hex];cases z:recoverD (p::cs) with
|none=>
  rw[z] at e;simp only[apJ] at e;simp only;rw[e.1,e.2,<-i];exact key
|some x=>
  obtain⟨v,U⟩:=x;rw[z] at e;simp only[apJ] at e;simp only;rw[e.1,e.2,<-i];exact key
end Eng
section
open Eng
def dP(w)(K:KT):=
 K (.returned (.tuple #[])) w
def rW(c a b d w)(K:KT):=
 DrawX w (λw=>(fax 107 d 0 w K λe w=>(ldx 30 e w K λf w=>stx 22 c (.slice aw 0 0) w K λ_ w=>stx 40 a (.slice aw 0 0) w K λ_ w=>stx 30 b f w K λ_ w=>dP w K)∧(stx 22 c (.slice aw 0 0) w K λ_ w=>(ldx 30 e w K λh w=>stx 40 a (.slice aw 0 0) w K λ_ w=>stx 30 b h w K λ_ w=>dP w K)∧(stx 40 a (.slice aw 0 0) w K λ_ w=>ldx 30 e w K λi w=>stx 30 b i w K λ_ w=>dP w K)))∧(stx 22 c (.slice aw 0 0) w K λ_ w=>(fax 107 d 0 w K λg w=>(ldx 30 g w K λj w=>stx 40 a (.slice aw 0 0) w K λ_ w=>stx 30 b j w K λ_ w=>dP w K)∧(stx 40 a (.slice aw 0 0) w K λ_ w=>ldx 30 g w K λk w=>stx 30 b k w K λ_ w=>dP w K))∧(stx 40 a (.slice aw 0 0) w K λ_ w=>fax 107 d 0 w K λl w=>ldx 30 l w K λm w=>stx 30 b m w K λ_ w=>dP w K)))
def gG(c d e r w)(K:KT):=
 eqx .neq 20 (.tmp 7) (.const .nilIface) r .nilIface w K λf w=>IfX f (dx (mTA r 20 107 av) w K λa w=>exx a 0 w K λg w=>exx a 1 w K λh w=>alx 107 w K λb w=>stx 107 b g w K λ_ w=>JoinX (λj=>dx (mUn .not h) w K λi w=>IfX i (dx (Ev r) w K λ_ w=>j [] w) (j [] w)) (λk w=>∀_:Sg,rW c d e b w K)) (K (.returned (.tuple #[])) w)
theorem CE (t0 t1 t2 r:aq)(w:ao)(K:Ending->ao->Prop):wpX ah 19 [(5,[])] [] aw (Xy (A5 f77)) (topD ah [] K) (upd (upd (kI [t0,t1,t2]) 6 r) 3 r) [] w=gG t0 t1 t2 r w K:=krx
theorem iV {t1 t2:aq}(h:gG t0 t1 t2 (recV u) w (λe w=>R e (recM u) w)):CallsD ah 77 #[t0,t1,t2] u w R:=
 wH func77 rfl rfl rfl rfl rfl rfl rfl rfl rfl rfl rfl rfl (Eq.mpr (CE t0 t1 t2 (recV u) w _) h)
end
section
open Eng Go.RowKit
namespace Ff
def names (o:Ob):List (List UInt8)×Int:=
 if (filt o).any (λx=>ai (x.k≠5))=av then ([],10)
 else if 8 < (filt o).length then ([],6)
 else if (filt o).any (λx=>ai (full x.s=[]))=av then ([],15)
 else ((filt o).map (λx=>full x.s),0)
def of (o:Ob):List (List UInt8)×List Pm×Int:=
 if o.k≠9 then ([],[],10)
 else if (names o).2≠0 then ([],[],(names o).2)
 else if (tO o (names o).1.length).2≠0 then ([],[],(tO o (names o).1.length).2)
 else if (tO o (names o).1.length).1.any (λx=>!decide x.ok)=av then ([],[],1)
 else ((names o).1,(tO o (names o).1.length).1,0)
theorem Mp {o:Ob}{n:Nat}(h:(tO o n).2=0):(tO o n).1.length=n:=by
 unfold tO at h ⊢;by_cases a:(tS o).2≠0
 ·rw[alH a] at h;cases h
 rw[alG a] at h ⊢;by_cases b:(tS o).1.any (λx=>ai ((parm x).2≠0))=av
 ·rw[alH b] at h;cases h
 rw[alG b] at h ⊢;by_cases c:n < (tS o).1.length
 ·rw[alH c] at h;cases h
 rw[alG c] at h ⊢;by_cases d:(tS o).1.any (λx=>!eight x)=av
 ·rw[alH d] at h;cases h
 rw[alG d];simp only[alI,amT,amY];omega
theorem RY {o:Ob}:(names o).1.length<=8:=by
 unfold names
 repeat' split
 all_goals first|exact amN _|(simp only[amT];omega)
end Ff
theorem Gu:cO ah 77=true:=krx
theorem Wh:eD ah 40=true:=krx
theorem aeE:fOff ah 107 0=ax 0:=krx
theorem ahS:(Tryz.prog.info? 107).map (·.size)=ax 1:=krx
abbrev ofC (a b2 b3 b:Nat)(o:Ob)(vk vc vn vp:aq)(e:Int):List Ent:=[.cells b [.int .i64 e] 30,.cells b3 [vp] 40,.cells b2 [vn] 22,obE a o vk vc]
theorem T7 (o:Ob)(v:aq)(M:Mem)(w:ao)(hw:o.wt<=1000000000)(hM:M.has w)(hv:OV M.A M.w v o) :
  RetM ah 28 #[v] M w (λr N=>∃vn vp,r=.tuple #[vn,vp,.int .i64 (Ff.of o).2.2]∧SlA N.A N.w vn 1 (Ff.of o).1.length (bZ (Ff.of o).1)∧SlA N.A N.w vp 3 (Ff.of o).2.1.length ((Ff.of o).2.1.flatMap pmC)):=by
 obtain⟨vk,vc,b9,rfl,ha⟩:=hv.open;refine bB hM λK hK=>Ig ?_;generalize f:Ff.of o=X at hK;unfold Ff.of at f;unfold Gs iN dx alx;refine iU o ha.keys.one ha.kids.one (OwnS.memS hM) λz w1 c=>?_;refine bA (λb=>.pointer (ax ⟨b,0,aw⟩)) [nilS] 22 (λ_=>by kernel_rfl) c λb2 w2 c=>?_;refine bA (λb=>.pointer (ax ⟨b,0,aw⟩)) [nilS] 40 (λ_=>by kernel_rfl) c λb3 w3 c=>?_;refine bA (λb=>.pointer (ax ⟨b,0,aw⟩)) [.int .i64 0] 30 (λ_=>by kernel_rfl) c λg w4 c=>?_;have c:OwnS M.A w w4 (ofC z b2 b3 g o vk vc nilS nilS 0++([.mem M]++[])):=c;have c:=c.front;have c:OwnS M.A w w4 (.mem M::ofC z b2 b3 g o vk vc nilS nilS 0):=c;rw[pY];refine⟨_,rfl,?_⟩
 -- c0 end with an error
 have q:∀{W:ao} {N:Mem} {e:Int} {R:List Ent},OwnS M.A w W (.mem N::(ofC z b2 b3 g o vk vc nilS nilS e++R))->M.le N->X=([],[],e) ->
   RetX ah [.cell (.pointer (ax ⟨b2,0,aw⟩)) 22,.cell (.pointer (ax ⟨b3,0,aw⟩)) 40,.cell (.pointer (ax ⟨g,0,aw⟩)) 30] W K:=by
  intro W N e R c hle d;refine OD (bI (AtV.cell QW (c.cell 3 rfl 0 rfl))) (bI (AtV.cell Wh (c.cell 2 rfl 0 rfl))) (bI (AtV.cell Hh (c.cell 1 rfl 0 rfl))) (hK _ _ N _ 0 c rfl hle ⟨nilS,nilS,by rw[d],by rw[d];exact SlA.nil _ _ _ _,by rw[d];exact SlA.nil _ _ _ _⟩)
 have fail:∀{W:ao} {N:Mem} {e:Int} {vn vp:aq},OwnS M.A w W (.mem N::ofC z b2 b3 g o vk vc vn vp 0)->M.le N->X=([],[],e) ->
   aC { target:=.fn (.func 77) #[.pointer (ax ⟨b2,0,aw⟩),.pointer (ax ⟨b3,0,aw⟩),.pointer (ax ⟨g,0,aw⟩)],args:=#[]++#[] } (.pointer (ax ⟨b2,0,aw⟩)) (.pointer (ax ⟨b3,0,aw⟩)) (.pointer (ax ⟨g,0,aw⟩)) K [upF e] W:=by
  intro W N e vn vp c hle d;show pd ah _ K _ [upF e] W;unfold pd;refine nM sm Gu (iV (t0:=.pointer (ax ⟨b2,0,aw⟩)) (t1:=.pointer (ax ⟨b3,0,aw⟩)) (t2:=.pointer (ax ⟨g,0,aw⟩)) ?_);simp only[gG,recV,recM,upF,Eng.X1 aqE,rs,VG abK,ex,i_t,i_f,dx,exx,stx,eqx,alx];refine bA (λb=>.pointer (ax ⟨b,0,aw⟩)) [.int .i64 0] 107 (λ_=>by kernel_rfl) c λb7 w5 c=>?_;refine gY 0 c rfl (new:=[.int .i64 e]) ahS (λu hu=>by rw[amH.1 hu];rfl) rfl λT c=>?_;have c:OwnS M.A w T (.cells b7 [.int .i64 e] 107::.mem N::ofC z b2 b3 g o vk vc vn vp 0):=c;refine join λJ hJ=>?_
  try simp only[anH,i_f]
  refine hJ _ _ λ_=>?_;unfold rW ldx fax stx;refine⟨?_⟩;have c:=c.drew
  repeat' first
  |apply And.intro
  |refine aD (bC aeE) |>.mpr ?_
  |refine aD (aB Hh (c.cell 0 rfl 0 rfl)) |>.mpr ?_
  |refine aK 4 c rfl krx rfl sm (λ_ c=>?_)
  |refine aK 3 c rfl krx rfl sm (λ_ c=>?_)
  |refine aK 2 c rfl krx rfl sm (λ_ c=>?_)
  all_goals
   unfold dP;exact q (R:=[]) c.tail hle d
 rw[fR,ob_k c 4 rfl];simp only[rs];refine nN (λV=>?_) (λV=>?_)
 rotate_left
 ·rw[alH (amR V)] at f;exact fail c M.le_refl f.symm
 have V:=alZ V;rw[alG (λh=>h V)] at f;rw[ob_v c 4 rfl];have c1:=Ff.Qc hw;have c2:Ff.names o=Ff.names o:=rfl;generalize n:Ff.names o=Nn at f;unfold Ff.names at n;refine TL c hw hv (λh5 vl N w5 D E c=>?_) (λh5 N w5 D c=>?_)
 rotate_left
 ·have:(Ff.filt o).any (λx=>ai (x.k≠5))=true:=by
   refine aoW.2 (Classical.byContradiction λhc=>h5 λx d=>Classical.byContradiction λh=>hc ⟨x,d,alM h⟩)
  rw[alH this] at n;rw[<-n,alH dc] at f;exact fail c D f.symm
 rw[alG (λh=>by
  obtain⟨x,d,h⟩:=aoW.1 h;exact (alZ h) (h5 x d))] at n
 have hlen:∀{W:ao} {PK:PKT} {K:VWP},DoX ah (mB .len #[22] 3 #[au] #[vl]) W PK K=K (.int .i64 (((Ff.filt o).map Ob.s).length:Int)) W:=λ{_ _ _}=>by
  obtain⟨a,cap,rfl,_⟩:=E.form;exact bQ amD
 rw[hlen];simp only[rs];refine nN (λC=>?_) (λC=>?_)
 rotate_left
 ·have C:=amR C;rw[amT] at C;rw[alH om] at n;rw[<-n,alH dc] at f;exact fail c D f.symm
 have C:=alZ C;rw[alG (by rw[amT] at C;omega)] at n;rw[hlen];generalize Y:(Ff.filt o).map Ob.s=l at E hlen C;have Z:∀{p:List UInt8->Bool},(Ff.filt o).any (λx=>p x.s)=l.any p:=λ{p}=>by rw[<-Y,List.any_map];rfl
 have a1:(Ff.filt o).map (λx=>Ff.full x.s)=l.map Ff.full:=by rw[<-Y,arF];rfl
 rw[Z (p:=λx=>ai (Ff.full x=[])),a1] at n;have c:=OwnS.nilU c 9 1;refine loop (λvs W=>∃(i:Nat) (ov:aq),vs=[.int .i64 (i:Int)]∧i<=l.length∧(∀x∈l.take i,Ff.full x≠[])∧OwnS M.A w W (stsE ov ((l.take i).map Ff.full)::.mem N::ofC z b2 b3 g o vk vc ov nilS 0)) (λvs _=>l.length - n0 vs) ⟨0,nilS,rfl,om,sm,c⟩ ?_;clear c;rintro vs T ⟨i,ov,rfl,hi,hf,c⟩ _;simp only[Cr,gd,rs,iN];by_cases t:(i:Int) < (l.length:Int)
 ·simp only[t,alK,i_t];have j:i < l.length:=om
  obtain⟨p,F,G⟩:=Mf E j;rw[aD (F T),aD (G T (c.hasM 1 rfl))];refine c_eq (Hj l[i] T) ?_;simp only[ex];refine nN (λh=>?_) (λh=>?_)
  rotate_left
  ·have h:=Decidable.not_not.1 (amR h);rw[alH (aoW.2 ⟨_,alX j,alM h⟩)] at n;rw[<-n,alH dc] at f;exact fail c.tail D f.symm
  have h:Ff.full l[i]≠[]:=alZ h;rw[aJ QW (c.cell 4 rfl 0 rfl)];refine UT _ c (by rw[amT,alR];omega) λa6 W2 c=>?_;have H:a6.oneCell'=true:=lJ (Sl.urow (c.at_ 0 rfl));refine aK 4 c rfl krx H sm λw7 c=>?_
  try simp only[rs]
  rw[aA om om];refine⟨rfl,?_⟩;refine aY ⟨i+1,a6,rfl,om,?_,?_⟩ (by simp[n0,RowKit.intOf];omega)
  ·rw[amO j];intro x d;rcases amK.1 d with d|d
   ·exact hf x d
   ·rw[amH.1 d];exact h
  ·rw[amO j,amW];exact c
 simp only[t,alL,i_f];have:i=l.length:=om
 subst this;rw[anI] at hf c;rw[alG (λh=>by
  obtain⟨x,d,h⟩:=aoW.1 h;exact hf x d (alZ h))] at n
 subst n;dsimp only at f;rw[alG dc] at f;generalize a7:l.map Ff.full=ns at f c;have b6:ns.length=l.length:=by rw[<-a7,amT]
 have b8:∀x∈ns,x≠[]:=by
  rw[<-a7];intro x d;obtain⟨y,I,rfl⟩:=amM.1 d;exact hf y I
 rw[ob_v c 5 rfl];rw[hlen,<-b6];obtain⟨N2,l2,m,c⟩:=c.bJ 0 rfl;have c:OwnS M.A w T (.mem N2::ofC z b2 b3 g o vk vc ov nilS 0):=c;have L:=@Ff.Mp o ns.length;generalize hP:Ff.tO o ns.length=P at f L;refine Wt (many:=ns.length) c hw om ((hv.le D).le l2) (λU vp N3 w7 l3 B c=>?_) (λU N3 w7 l3 c=>?_)
 rotate_left
 ·rw[hP] at U ⊢;rw[alH U] at f;exact fail c ((D.trans l2).trans l3) f.symm
 rw[hP] at U B;have L:=L U;rw[alG (λh=>h U)] at f;have a8:vp.oneCell'=true:=B.one;refine aK 2 c rfl krx a8 sm λw8 c=>?_;have c:OwnS M.A w w8 (.mem N3::ofC z b2 b3 g o vk vc ov vp 0):=c;rw[aJ QW (c.cell 3 rfl 0 rfl)];have hle:=(D.trans l2).trans l3;have m:=m.le l3;have O:∀{W:ao} {PK:PKT} {K:VWP},DoX ah (mB .len #[22] 3 #[au] #[ov]) W PK K=K (.int .i64 (ns.length:Int)) W:=λ{_ _ _}=>by
  obtain⟨a,cap,rfl,_⟩:=m.form;exact bQ amD
 rw[O];refine loop (λvs W=>∃i:Nat,vs=[.int .i64 (i:Int)]∧i<=ns.length∧(∀x∈P.1.take i,x.ok)∧OwnS M.A w W (.mem N3::ofC z b2 b3 g o vk vc ov vp 0)) (λvs _=>ns.length - n0 vs) ⟨0,rfl,om,sm,c⟩ ?_;clear c;rintro vs w9 ⟨i,rfl,hi,Q,c⟩ _;simp only[Cl,gd,rs,iN,etx];by_cases t:(i:Int) < (ns.length:Int)
 ·simp only[t,alK,i_t];have j:i < ns.length:=om
  have S:i < P.1.length:=om
  obtain⟨p,F,G⟩:=Mf m j;rw[aD (F w9),aD (G w9 (c.hasM 0 rfl)),aJ Wh (c.cell 2 rfl 0 rfl)];obtain⟨p2,b0,b5⟩:=pmAt B S;rw[aD (b0 w9),aD (b5 w9 (c.hasM 0 rfl))];refine aM c (IX P.1[i] w9) ?_;rintro _ c3 rfl c;simp only[eS];by_cases d:P.1[i].ok
  ·rw[alH d];simp only[show ai ((0:Int)≠0)=au from rfl,rs,i_f];rw[aA om om];refine⟨rfl,?_⟩;refine aY ⟨i+1,rfl,om,?_,c⟩ (by simp[n0,RowKit.intOf];omega);rw[amO S];intro y I;rcases amK.1 I with I|I
   ·exact Q y I
   ·rw[amH.1 I];exact d
  ·rw[alG d];rw[alH (aoW.2 ⟨_,alX S,by simp[d]⟩)] at f;have hn:=b8 _ (alX j);simp only[show ai ((1:Int)≠0)=av from rfl,rs]
   try simp only[rs]
   rw[alM hn]
   try simp only[rs]
   try rw[i_t]
   refine aK 3 c rfl krx rfl sm λc4 c=>?_;refine aK 2 c rfl krx rfl sm λc5 c=>?_;refine aK 1 c rfl krx rfl sm λc6 c=>?_;refine nM sm Gu (iV (t0:=.pointer (ax ⟨b2,0,aw⟩)) (t1:=.pointer (ax ⟨b3,0,aw⟩)) (t2:=.pointer (ax ⟨g,0,aw⟩)) ?_);simp only[gG,recV,recM,Eng.aaC aqE,i_f,dx,exx,stx,eqx,alx];exact q (R:=[]) c hle f.symm
 simp only[t,alL,i_f];have:i=ns.length:=om
 subst this;rw[amP om] at Q;rw[alG (λh=>by
  obtain⟨x,d,h⟩:=aoW.1 h;have:=Q x d;simp[this] at h)] at f
 have fin:∀{W:ao},OwnS M.A w W (.mem N3::ofC z b2 b3 g o vk vc ov vp 0) ->
   jQ (.pointer (ax ⟨b2,0,aw⟩)) (.pointer (ax ⟨b3,0,aw⟩)) (.pointer (ax ⟨g,0,aw⟩)) { target:=.fn (.func 77) #[.pointer (ax ⟨b2,0,aw⟩),.pointer (ax ⟨b3,0,aw⟩),.pointer (ax ⟨g,0,aw⟩)],args:=#[]++#[] } W K:=by
  intro W c;unfold jQ;refine nM sm Gu (iV (t0:=.pointer (ax ⟨b2,0,aw⟩)) (t1:=.pointer (ax ⟨b3,0,aw⟩)) (t2:=.pointer (ax ⟨g,0,aw⟩)) ?_);simp only[gG,recV,recM,Eng.aaC aqE,i_f,dx,exx,stx,eqx,alx];refine OD (bI (AtV.cell QW (c.cell 3 rfl 0 rfl))) (bI (AtV.cell Wh (c.cell 2 rfl 0 rfl))) (bI (AtV.cell Hh (c.cell 1 rfl 0 rfl))) ?_;exact hK _ _ N3 _ 0 c rfl hle ⟨ov,vp,by rw[<-f],by rw[<-f];exact m,by rw[<-f];exact B⟩
 have H:ov.oneCell'=true:=m.one;refine⟨?_⟩;have c:=c.drew
 repeat' first
 |exact fin c
 |apply And.intro
 |refine aD (aB QW (c.cell 3 rfl 0 rfl)) |>.mpr ?_
 |refine aD (aB Wh (c.cell 2 rfl 0 rfl)) |>.mpr ?_
 |refine aK 3 c rfl krx H sm (λ_ c=>?_)
 |refine aK 2 c rfl krx a8 sm (λ_ c=>?_)
 |refine aK 1 c rfl krx rfl sm (λ_ c=>?_)
end
end Go.Proofs.YtlipjfcbjemicaaGreatDoor

namespace Go.Proofs.YtlipjfcbjemicaaGreatDoor
variable{B Sy cl counts l near:List Nat}{C:ao->Prop}{K:VWP}{M:Eng.Mem}{P:Program}{PK PK2:PKT}{R:Ending->FrameMode->ao->Prop}{W w:ao}{a colors:Int}{above:List UInt8}{aj:List (Nat×List Nat)}{args ca fa:Array aq}{b cap d f i id j jm m most p t:Nat}{cs:List aq}{cv t0 v vc vk:aq}{fn:Func}{o:Ob}{os:List Ob}{u:FrameMode}{α:Type}{t0 t1 t2 t3 t4:aq}{k0:Eng.KT}
section
open Go
def dj (tag:Int)(above row:List UInt8)(colors:Int):List UInt8:=(List.range row.length).map λi=>row.getD i 0 - ec tag above row (i:Int) colors
theorem iz {tag:Int}{row:List UInt8}:(dj tag above row colors).length=row.length:=by simp[dj]
theorem sn {tag:Int}{row:List UInt8}(h:i < row.length):(dj tag above row colors)[i]?=ax (row[i] - ec tag above row (i:Int) colors):=by
 simp[dj,h,alO]
theorem sq {tag:Int}{above row:List UInt8}{colors:Int}(a:1<=colors):∀(k i:Nat),row.length=i+k->dv tag above colors (row.take i) ((dj tag above row colors).drop i)=row
|0,i,h=>by
  rw[arM (by rw[iz];omega),amP om];rfl
|k+1,i,h=>by
  have hi:i < row.length:=om
  have b:(row.take i).length=i:=by rw[alR];omega
  have e:(dj tag above row colors).drop i=(row[i] - ec tag above row (i:Int) colors)::(dj tag above row colors).drop (i+1):=by
   rw[anB (by rw[iz];exact hi)]
   congr 1
   have:=sn (tag:=tag) (above:=above) (colors:=colors) hi;rw[alT (by rw[iz];exact hi)] at this;exact aoJ this
  have c:ec tag above row (i:Int) colors=ec tag above (row.take i) (i:Int) colors:=by
   have:=sf (tag:=tag) (above:=above) (p:=row.take i) (r:=row.drop i) (colors:=colors) a;rw[amX,b] at this;exact this
  rw[e,dv,b,c];have d:row[i] - ec tag above (row.take i) (i:Int) colors+ec tag above (row.take i) (i:Int) colors=row[i]:=UInt8.sub_add_cancel _ _;rw[d,<-amO hi];exact sq a k (i+1) om
def ff (T:List UInt8->List UInt8->Nat)(c:Int)(n h:Nat):Nat->List UInt8->List UInt8->List UInt8
|0,_,_=>[]
|f+1,s,prev=>if s=[] then [] else (if h=1 then [UInt8.ofNat (T prev (s.take n))] else [])++(dj (T prev (s.take n):Nat) prev (s.take n) c++ff T c n h f (s.drop n) (s.take n))
theorem qc {T:List UInt8->List UInt8->Nat}{c:Int}{n h:Nat}(g:0 < n)(d:h=0∨h=1):∀(k f:Nat) (s prev:List UInt8),s.length=k*n->s.length < f->(ff T c n h f s prev).length=k*(n+h)
|_,0,_,_,_,i=>by omega
|0,f+1,s,prev,a,_=>by
  have:s=[]:=apB.1 om;unfold ff;rw[alH this];simp
|k+1,f+1,s,prev,a,i=>by
  rw[anS] at a;have b:s≠[]:=λe=>by rw[e] at a;simp at a;omega
  have lt:(s.take n).length=n:=by rw[alR];omega
  have j:(s.drop n).length=s.length - n:=alW;unfold ff;rw[alG b,alI,alI,iz,lt,qc g d k f (s.drop n) (s.take n) om om,anS];rcases d with rfl|rfl
  ·rw[alG dc];simp;omega
  ·rw[alH rfl];simp;omega
theorem sr {T:List UInt8->List UInt8->Nat}{c:Int}{n h:Nat}(o:1<=c)(u:0 < n)(p:h=0∨h=1)(q:∀a b,T a b<=4)(i:h=0->∀a b,T a b=1) :
  ∀(k f g:Nat) (s prev out:List UInt8),s.length=k*n->s.length < f->k < g->kd c n h g (ff T c n h f s prev) prev out=(out++s,0)
|_,0,_,_,_,_,_,v,_=>by omega
|_,_,0,_,_,_,_,_,w=>by omega
|0,f+1,g+1,s,prev,out,j,_,_=>by
  have:s=[]:=apB.1 om;unfold ff;rw[alH this,this];unfold kd;rw[alH (show ([]:List UInt8).length=0 from rfl),amE]
|k+1,f+1,g+1,s,prev,out,j,v,w=>by
  rw[anS] at j;have l:s≠[]:=λe=>by rw[e] at j;simp at j;omega
  have x:s.take n++s.drop n=s:=amX ..
  have lt:(s.take n).length=n:=by rw[alR];omega
  have B:(s.drop n).length=s.length - n:=alW;unfold ff;rw[alG l];have r:=sr o u p q i k f g (s.drop n) (s.take n) (out++s.take n) om om om;rw[alS,x] at r;rw[<-r];have hle:(dj (T prev (s.take n):Nat) prev (s.take n) c).length=n:=by rw[iz,lt]
  have d:=sq (tag:=(T prev (s.take n):Nat)) (above:=prev) (row:=s.take n) o n 0 om;rw[apL,aoL] at d
  conv=>lhs;unfold kd
  have C:=q prev (s.take n);rcases p with rfl|rfl
  ·have y:=i rfl prev (s.take n);rw[y] at d hle ⊢;have m:(if (0:Nat)=1 then [UInt8.ofNat 1] else [])++(dj ((1:Nat):Int) prev (s.take n) c++ff T c n 0 f (s.drop n) (s.take n))=dj ((1:Nat):Int) prev (s.take n) c++ff T c n 0 f (s.drop n) (s.take n):=rfl;rw[m,alG (by rw[alI];omega)];dsimp only;rw[alG (show ¬(0:Nat)=1 by decide),alG dc,aoL,anF,anM hle,arU hle];have z:dv ((1:Nat):Int) prev c [] (dj ((1:Nat):Int) prev (s.take n) c)=s.take n:=d;rw[z]
  ·rw[alH rfl];have m:([UInt8.ofNat (T prev (s.take n))]++(dj (T prev (s.take n):Nat) prev (s.take n) c++ff T c n 1 f (s.drop n) (s.take n))).getD 0 0=UInt8.ofNat (T prev (s.take n)):=rfl;have A:(UInt8.ofNat (T prev (s.take n))).toNat=T prev (s.take n):=by rw[apR,anD om]
   have t:([UInt8.ofNat (T prev (s.take n))]++(dj (T prev (s.take n):Nat) prev (s.take n) c++ff T c n 1 f (s.drop n) (s.take n))).drop 1=dj (T prev (s.take n):Nat) prev (s.take n) c++ff T c n 1 f (s.drop n) (s.take n):=rfl;rw[alG (by rw[alI,anO];omega)];dsimp only;rw[alH rfl,m,A,alG om,t,anM hle,arC n 1,<-apN,t,arU hle,d]
def ep (l:List UInt8):Nat:=(l.map λc=>min c.toNat (256 - c.toNat)).sum
def ja (above row:List UInt8)(c:Int):Nat->Nat×Nat
|0=>(0,ep (dj 0 above row c))
|k+1=>if ep (dj ((k+1:Nat):Int) above row c) < (ja above row c k).2 then (k+1,ep (dj ((k+1:Nat):Int) above row c)) else ja above row c k
def oo (above row:List UInt8)(c:Int):Nat:=(ja above row c 4).1
theorem ss (above row:List UInt8)(c:Int):∀k,(ja above row c k).1<=k
|0=>alP _
|k+1=>by
  have:=ss above row c k;unfold ja;split
  ·exact alP _
  ·omega
def ky (p c:Int)(above row:List UInt8):Nat:=if p=2 then 1 else if p=15 then oo above row c else (p - 10).toNat
theorem xt {p:Int}(h:p=2∨(10<=p∧p<=15))(c:Int)(a b:List UInt8):ky p c a b<=4:=by
 unfold ky;split
 ·omega
 ·split
  ·exact ss a b c 4
  ·omega
end
section
open Go
def bo (l:List Nat)(i:Nat):Nat:=
 l.getD (8*i) 0+2*l.getD (8*i+1) 0+4*l.getD (8*i+2) 0+8*l.getD (8*i+3) 0+16*l.getD (8*i+4) 0+32*l.getD (8*i+5) 0+64*l.getD (8*i+6) 0+128*l.getD (8*i+7) 0
def az (l:List Nat):List UInt8:=(List.range ((l.length+7) / 8)).map λi=>UInt8.ofNat (bo l i)
def bf (v n:Nat):List Nat:=(List.range n).map λi=>v / 2 ^ i % 2
def bn (l:List Nat):Prop:=∀b∈l,b < 2
theorem bp (v n:Nat):(bf v n).length=n:=by simp[bf]
theorem dr (v n:Nat):bn (bf v n):=by
 intro b a;obtain⟨i,_,rfl⟩:=amM.1 a;exact aoT _ dc
theorem gu (h:bn l)(i:Nat):l.getD i 0 < 2:=by
 rw[alO];cases a:l[i]? with
|none=>decide
|some b=>exact h b (aoZ a)
theorem xu (h:bn l)(i:Nat):bo l i < 256:=by
 unfold bo;have a:=gu h (8*i);have b:=gu h (8*i+1);have c:=gu h (8*i+2);have d:=gu h (8*i+3);have e:=gu h (8*i+4);have f:=gu h (8*i+5);have g:=gu h (8*i+6);have j:=gu h (8*i+7);omega
theorem kz (l:List Nat):(az l).length=(l.length+7) / 8:=by simp[az]
theorem zo (h:i < (l.length+7) / 8):(az l).getD i 0=UInt8.ofNat (bo l i):=by
 rw[alO];simp[az,h]
theorem xx (h:bn l)(i j:Nat)(a:j < 8):bo l i / 2 ^ j % 2=l.getD (8*i+j) 0:=by
 unfold bo;have b:=gu h (8*i);have c:=gu h (8*i+1);have d:=gu h (8*i+2);have e:=gu h (8*i+3);have f:=gu h (8*i+4);have g:=gu h (8*i+5);have k:=gu h (8*i+6);have m:=gu h (8*i+7);rcases (by omega:j=0∨j=1∨j=2∨j=3∨j=4∨j=5∨j=6∨j=7) with rfl|rfl|rfl|rfl|rfl|rfl|rfl|rfl<;>(try simp only[anF])<;>omega
theorem qd (h:bn l)(p:Nat):Fl.bit (az l) p=l.getD p 0:=by
 unfold Fl.bit;by_cases hp:p / 8 < (l.length+7) / 8
 ·have a:=xu h (p / 8);rw[zo hp,apR,anD (show bo l (p / 8) < 2 ^ 8 from a),xx h _ _ (aoT _ dc),show 8*(p / 8)+p % 8=p by omega]
 ·have b:(az l).getD (p / 8) 0=0:=by
   rw[alO,anY (by rw[kz];omega)];rfl
  have c:l.getD p 0=0:=by
   rw[alO,anY om];rfl
  rw[b,c];simp
theorem sx {l:List Nat}(h:bn l)(p v:Nat):∀n,(∀i,i < n->l.getD (p+i) 0=v / 2 ^ i % 2)->Fl.num (az l) p n=v % 2 ^ n
|0,_=>by rw[Fl.num,Nat.pow_zero,Nat.mod_one]
|n+1,a=>by
  rw[Fl.num,sx h p v n (λi hi=>a i om),qd h,a n om,Nat.mod_pow_succ,aoD]
theorem zp {a b:List Nat}{v n:Nat}(h:bn (a++bf v n++b))(c:v < 2 ^ n):Fl.num (az (a++bf v n++b)) a.length n=v:=by
 rw[sx h a.length v n,anD c];intro i hi;rw[alO,alS,aoB om,aqW,anV (by rw[bp];exact hi)];simp[bf,hi]
theorem br {a b:List Nat}(c:bn a)(d:bn b):bn (a++b):=λx e=>(amK.1 e).elim (c x) (d x)
end
def ig (v n:Nat):List Nat:=(List.range n).map λi=>v / 2 ^ (n - 1 - i) % 2
theorem sy (v n:Nat):(ig v n).length=n:=by simp[ig]
theorem zq (v n:Nat):bn (ig v n):=by
 intro b a;obtain⟨i,_,rfl⟩:=amM.1 a;exact aoT _ dc
def dh (lens:List Nat)(i:Nat):List Nat:=ig (cg lens i) (lens.getD i 0)
theorem ez (lens:List Nat)(i:Nat):(dh lens i).length=lens.getD i 0:=sy ..
theorem ko (lens:List Nat)(i:Nat):bn (dh lens i):=zq _ _
theorem tg (lens:List Nat):∀l,l < 15->(Fl.first lens (l+1)+lens.count (l+1))*2 ^ (15 - (l+1))=Fl.gD lens (l+1)
|0,_=>by simp[Fl.first,Fl.gD]
|l+1,h=>by
  have a:=tg lens l om;rw[Fl.gD,<-a,Fl.first,aoA]
  congr 1
  rw[show 15 - (l+1)=(15 - (l+1+1))+1 by omega,anL,aoD 2,aqL,aoD 2]
theorem zr (lens:List Nat){a:Nat}(h:a<=b):Fl.gD lens a<=Fl.gD lens b:=by
 induction b with
|zero=>
  have:a=0:=om
  subst this;exact alP _
|succ b c=>
  rcases amL a (b+1) with d|d
  ·have:=c om;rw[Fl.gD];omega
  ·have:a=b+1:=om
   subst this;exact alP _
theorem th (lens:List Nat):∀l,Fl.gD lens l<=Fl.bD lens l*2 ^ 15
|0=>by simp[Fl.gD]
|l+1=>by
  have a:=th lens l;rw[Fl.gD,Fl.bD,aoA];have:lens.count (l+1)*2 ^ (15 - (l+1))<=lens.count (l+1)*2 ^ 15:=asZ _ (anN dc om);omega
theorem ti {lens:List Nat}(h:Fl.check lens=0):Fl.gD lens 15<=2 ^ 15:=by
 unfold Fl.check at h;split at h
 ·rename_i a
  have:=th lens 15;rcases a with a|a|a
  ·omega
  ·rw[a] at this;omega
  ·rw[a.1] at this;omega
 ·cases h
theorem tj {lens:List Nat}(h:bh lens=0):Fl.check lens=0:=by
 unfold bh at h;split at h
 ·cases h
 ·exact h
theorem zt {lens:List Nat}(h:Fl.gD lens 15<=2 ^ 15){n:Nat}(d:0 < n)(a:n<=15):Fl.first lens n+lens.count n<=2 ^ n:=by
 obtain⟨l,rfl⟩:∃l,n=l+1:=⟨n - 1,om⟩;have b:=tg lens l om;have e:=zr lens a;have c:(Fl.first lens (l+1)+lens.count (l+1))*2 ^ (15 - (l+1))<=2 ^ (l+1)*2 ^ (15 - (l+1)):=by
  rw[b,<-Nat.pow_add,show l+1+(15 - (l+1))=15 by omega];omega
 exact Nat.le_of_mul_le_mul_right c (asJ _)
theorem tm (lens:List Nat)(l:Nat):∀k,(Fl.first lens (l+1)+lens.count (l+1))*2 ^ (k+1)<=Fl.first lens (l+1+(k+1))
|0=>by
  show _<=2*(Fl.first lens (l+1)+lens.count (l+1));omega
|k+1=>by
  have a:=tm lens l k;rw[show l+1+(k+1+1)=(l+1+k)+2 by omega,Fl.first,anL,<-aqL];rw[show l+1+(k+1)=l+1+k+1 by omega] at a;omega
theorem tp {lens:List Nat}(hi:i < lens.length):(lens.take i).count (lens.getD i 0) < lens.count (lens.getD i 0):=by
 have h:lens=lens.take i++lens.drop i:=(amX i lens).symm;have a:lens.drop i=lens.getD i 0::lens.drop (i+1):=by
  rw[anB hi,alO,alT hi];rfl
 have e:lens.count (lens.getD i 0)=(lens.take i++lens.getD i 0::lens.drop (i+1)).count (lens.getD i 0):=by rw[<-a,<-h]
 rw[e,apW,List.count_cons_self];omega
theorem zu {lens:List Nat}(hi:i < lens.length):(jz lens (lens.getD i 0)).getD ((lens.take i).count (lens.getD i 0)) 0=i:=by
 unfold jz;obtain⟨m,hm⟩:∃m,lens.length=i+(m+1):=⟨lens.length - i - 1,om⟩;have e:((List.range i).filter λj=>ai (lens.getD j 0=lens.getD i 0)).length=(lens.take i).count (lens.getD i 0):=by
  have h:=pj (lens.take i) (lens.getD i 0);rw[<-h];unfold jz;rw[alR,amQ om]
  congr 1
  refine List.filter_congr λj a=>?_;rw[alO,alO (l:=lens.take i),aoK,alH (anJ.1 a)]
 rw[hm,List.range_add,asW,alO,aoB om,e,aoH,List.range_succ_eq_map,anE,aqZ,anF];simp
theorem tq {lens:List Nat}(h:Fl.gD lens 15<=2 ^ 15)(b:∀l∈lens,l<=15)(hi:0 < lens.getD i 0):cg lens i < 2 ^ lens.getD i 0:=by
 have a:i < lens.length:=by
  rcases amL i lens.length with h|h
  ·exact h
  ·rw[alO,anY h] at hi;exact absurd hi (aqG _)
 have hm:lens.getD i 0∈lens:=by rw[alO,alT a];exact alX ..
 unfold cg;rw[alG om];have c:=tp a;have d:=zt h hi (b _ hm);omega
theorem tu {a x b:List Nat}(hi:i < x.length):(a++x++b).getD (a.length+i) 0=x.getD i 0:=by
 rw[alO,alS,aoB om,aqW,anV hi,alO]
theorem tw {v n:Nat}(hi:i < n):(ig v n).getD i 0=v / 2 ^ (n - 1 - i) % 2:=by
 rw[alO];simp[ig,hi]
theorem tx (l:List Nat):l.length<=8*(az l).length:=by rw[kz];omega
theorem zw {lens:List Nat}(h:Fl.gD lens 15<=2 ^ 15)(p:∀l∈lens,l<=15)(hi:0 < lens.getD i 0){a b:List Nat}(n:bn (a++dh lens i++b)) :
  ∀(k l f:Nat),lens.getD i 0=l+(k+1)->k < f ->
   gz lens (az (a++dh lens i++b)) f l (a.length+l) (cg lens i / 2 ^ (k+1))=(i,a.length+lens.getD i 0,0):=by
 have m:i < lens.length:=by
  rcases amL i lens.length with h|h
  ·exact h
  ·rw[alO,anY h] at hi;exact absurd hi (aqG _)
 have hm:lens.getD i 0∈lens:=by rw[alO,alT m];exact alX ..
 have o:=p _ hm;have d:=tp m;have hlen:=tx (a++dh lens i++b);simp only[alI,ez] at hlen;intro k
 induction k with
|zero=>
  intro l f j s;obtain⟨f,rfl⟩:∃g,f=g+1:=⟨f - 1,om⟩;have hu:Fl.bD lens l < Fl.bD lens (l+1):=by rw[Fl.bD];rw[j,alU] at d;omega
  have q:=mg lens (a:=l+1) (b:=15) om;have e:Fl.bit (az (a++dh lens i++b)) (a.length+l)=cg lens i % 2:=by
   rw[qd n,tu (by rw[ez];omega)];unfold dh;rw[tw om,show lens.getD i 0 - 1 - l=0 by omega,Nat.pow_zero,Nat.div_one]
  have r:2*(cg lens i / 2 ^ (0+1))+cg lens i % 2=cg lens i:=by
   have:(2:Nat) ^ (0+1)=2:=rfl;rw[this];omega
  have c:cg lens i=Fl.first lens (l+1)+(lens.take i).count (l+1):=by
   unfold cg;rw[alG om,j]
  rw[j,alU] at d;unfold gz;rw[alG om,alG om,e,r,alH (by rw[c];omega),show cg lens i - Fl.first lens (l+1)=(lens.take i).count (l+1) by rw[c];omega,za om d];have:=zu m;rw[j] at this;rw[this,j];rfl
|succ k t=>
  intro l f j s;obtain⟨f,rfl⟩:∃g,f=g+1:=⟨f - 1,om⟩;have hu:Fl.bD lens l < Fl.bD lens (lens.getD i 0):=by
   have:=mg lens (a:=l) (b:=l+(k+1)) om;rw[j] at d ⊢;rw[show l+(k+1+1)=(l+(k+1))+1 by omega] at d ⊢;rw[Fl.bD];omega
  have q:=mg lens (a:=lens.getD i 0) (b:=15) o;have e:Fl.bit (az (a++dh lens i++b)) (a.length+l)=cg lens i / 2 ^ (k+1) % 2:=by
   rw[qd n,tu (by rw[ez];omega)];unfold dh;rw[tw om,show lens.getD i 0 - 1 - l=k+1 by omega]
  have r:2*(cg lens i / 2 ^ (k+1+1))+cg lens i / 2 ^ (k+1) % 2=cg lens i / 2 ^ (k+1):=by
   rw[anL 2 (k+1),<-aoI];omega
  have u:=tm lens l k;have c:Fl.first lens (l+1+(k+1))<=cg lens i:=by
   unfold cg;rw[alG om,j,show l+1+(k+1)=l+(k+1+1) by omega];omega
  have v:Fl.first lens (l+1)+lens.count (l+1)<=cg lens i / 2 ^ (k+1):=(Nat.le_div_iff_mul_le (asJ _)).2 om
  unfold gz;rw[alG om,alG om,e,r,alG om];exact t (l+1) f om om
theorem zx {lens:List Nat}(h:bh lens=0)(c:∀l∈lens,l<=15)(hi:0 < lens.getD i 0){a b:List Nat}(d:bn (a++dh lens i++b)) :
  dk lens (az (a++dh lens i++b)) a.length=(i,a.length+lens.getD i 0,0):=by
 have e:=ti (tj h);have f:=tq e c hi;have hm:lens.getD i 0<=15:=by
  rcases amL i lens.length with h|h
  ·exact c _ (by rw[alO,alT h];exact alX ..)
  ·rw[alO,anY h];exact amN _
 have:=zw e c hi d (lens.getD i 0 - 1) 0 16 om om;rw[show lens.getD i 0 - 1+1=lens.getD i 0 by omega,Nat.div_eq_of_lt f] at this;exact this
def ku (group:Nat):Nat->Nat->Nat->Nat->Nat×Nat×Nat
|0,n,sign,bits=>(sign+n / 2 ^ bits,n % 2 ^ bits,bits)
|f+1,n,sign,bits=>if group*2 ^ bits<=n then ku group f (n - group*2 ^ bits) (sign+group) (bits+1) else (sign+n / 2 ^ bits,n % 2 ^ bits,bits)
def jb (n a group:Nat):Nat×Nat×Nat:=if n < a then (n,0,0) else ku group 20 (n - a) a 1
def bu (size:Nat):Nat×Nat×Nat:=if size=258 then (285,0,0) else (257+(jb (size - 3) 8 4).1,(jb (size - 3) 8 4).2)
def di (d:Nat):Nat×Nat×Nat:=jb (d - 1) 4 2
def qy (n:Nat):Bool:=let r:=bu (n+3);ai (257<=r.1)&&ai (r.1<=285)&&ai (ey (r.1 - 257)=r.2.2)&&ai (iw (r.1 - 257)+r.2.1=n+3)&&ai (r.2.1 < 2 ^ r.2.2)&&ai (r.2.2<=5)
theorem ly {n:Nat}(j:3<=n)(h:n<=258):257<=(bu n).1∧(bu n).1<=285∧ey ((bu n).1 - 257)=(bu n).2.2∧iw ((bu n).1 - 257)+(bu n).2.1=n∧(bu n).2.1 < 2 ^ (bu n).2.2∧(bu n).2.2<=5:=by
 have i:(List.range 256).all qy=true:=by decide +kernel
 have g:=aoF.1 i (n - 3) (anJ.2 om);unfold qy at g;rw[show n - 3+3=n by omega] at g;simp only[amB,amU] at g;obtain⟨⟨⟨⟨⟨a,b⟩,c⟩,d⟩,e⟩,f⟩:=g;exact⟨a,b,c,d,e,f⟩
theorem tz (n:Nat):∀(f k:Nat),2 ^ (k+1)<=n->n < 2 ^ (k+f+2) ->
  ∃m,k<=m∧2 ^ (m+1)<=n∧n < 2 ^ (m+2)∧ku 2 f (n - 2 ^ (k+1)) (2+2*k) k=(2+2*m+(n - 2 ^ (m+1)) / 2 ^ m,(n - 2 ^ (m+1)) % 2 ^ m,m)
|0,k,h,e=>⟨k,alP _,h,e,rfl⟩
|f+1,k,h,e=>by
  have i:2 ^ (k+2)=2*2 ^ (k+1):=by rw[anL];omega
  have j:2 ^ (k+1)=2*2 ^ k:=by rw[anL];omega
  unfold ku;by_cases g:2*2 ^ k<=n - 2 ^ (k+1)
  ·rw[alH g];obtain⟨m,a,b,c,d⟩:=tz n f (k+1) (by rw[show k+1+1=k+2 by omega];omega) (by rw[show k+1+f+2=k+(f+1)+2 by omega];exact e);refine⟨m,om,b,c,?_⟩;rw[<-d,show n - 2 ^ (k+1) - 2*2 ^ k=n - 2 ^ (k+1+1) by rw[show k+1+1=k+2 by omega];omega,show 2+2*k+2=2+2*(k+1) by omega]
  ·rw[alG g];exact⟨k,alP _,h,om,rfl⟩
def ou (m:Nat):Bool:=ai (ej (2+2*m)=1+2 ^ (m+1))&&ai (ej (2+2*m+1)=1+2 ^ (m+1)+2 ^ m)
theorem mj (s:1<=d)(h:d<=32768):(di d).1<=29∧dm (di d).1=(di d).2.2∧ej (di d).1+(di d).2.1=d∧(di d).2.1 < 2 ^ (di d).2.2∧(di d).2.2<=13:=by
 unfold di jb;by_cases k:d - 1 < 4
 ·rw[alH k];rcases (by omega:d=1∨d=2∨d=3∨d=4) with rfl|rfl|rfl|rfl<;>decide
 ·rw[alG k];obtain⟨m,a,b,c,e⟩:=tz (d - 1) 20 1 om (by have:(2:Nat) ^ (1+20+2)=8388608:=rfl;omega);have hm:m<=13:=by
   rcases amL m 14 with l|l
   ·omega
   ·have:=anN (n:=2) dc (show 15<=m+1 by omega);have o:(2:Nat) ^ 15=32768:=rfl;omega
  have p:ku 2 20 (d - 1 - 4) 4 1=ku 2 20 (d - 1 - 2 ^ (1+1)) (2+2*1) 1:=rfl;rw[p,e];have t:2 ^ (m+1)=2*2 ^ m:=by rw[anL];omega
  have u:2 ^ (m+2)=4*2 ^ m:=by rw[anL,anL];omega
  have pp:=asJ m;have g:(List.range 14).all ou=true:=by decide +kernel
  have g:=aoF.1 g m (anJ.2 om);unfold ou at g;rw[amB,amU,amU] at g;have i:=Nat.div_add_mod (d - 1 - 2 ^ (m+1)) (2 ^ m);have f:=aoT (d - 1 - 2 ^ (m+1)) pp;have j:(d - 1 - 2 ^ (m+1)) / 2 ^ m < 2:=(Nat.div_lt_iff_lt_mul pp).2 om;generalize (d - 1 - 2 ^ (m+1)) / 2 ^ m=q at i j ⊢;generalize (d - 1 - 2 ^ (m+1)) % 2 ^ m=r at i f ⊢;rcases (by omega:q=0∨q=1) with rfl|rfl
  ·refine⟨by show 2+2*m+0<=29;omega,by show (2+2*m+0) / 2 - 1=m;omega,?_,f,hm⟩;show ej (2+2*m)+r=d;rw[g.1];omega
  ·refine⟨by show 2+2*m+1<=29;omega,by show (2+2*m+1) / 2 - 1=m;omega,?_,f,hm⟩;show ej (2+2*m+1)+r=d;rw[g.2];omega
def ew (l:List Nat)(p:Nat)(x:List Nat):Prop:=∃a b,l=a++x++b∧p=a.length
theorem ew.fst {x y:List Nat}(h:ew l p (x++y)):ew l p x:=by
 obtain⟨a,b,rfl,rfl⟩:=h;exact⟨a,y++b,by simp[alS],rfl⟩
theorem ew.snd {x y:List Nat}(h:ew l p (x++y)):ew l (p+x.length) y:=by
 obtain⟨a,b,rfl,rfl⟩:=h;exact⟨a++x,b,by simp[alS],sm⟩
theorem ew.le {x:List Nat}(h:ew l p x):p+x.length<=8*(az l).length:=by
 obtain⟨a,b,rfl,rfl⟩:=h;have:=tx (a++x++b);simp only[alI] at this;omega
theorem ew.num {l:List Nat}{p v n:Nat}(h:ew l p (bf v n))(c:bn l)(d:v < 2 ^ n):Fl.num (az l) p n=v:=by
 obtain⟨a,b,rfl,rfl⟩:=h;exact zp c d
theorem ew.sign {l:List Nat}{p i:Nat}{lens:List Nat}(h:ew l p (dh lens i))(c:bn l)(e:bh lens=0)(d:∀l∈lens,l<=15)(hi:0 < lens.getD i 0):dk lens (az l) p=(i,p+lens.getD i 0,0):=by
 obtain⟨a,b,rfl,rfl⟩:=h;exact zx e d hi c
abbrev bj:=UInt8×Nat×Nat
def fx (out:List UInt8)(x:bj):List UInt8:=if x.2.1=0 then out++[x.1] else gx x.2.2 x.2.1 out
def fg (out:List UInt8)(l:List bj):List UInt8:=l.foldl fx out
def fy (n:Nat)(x:bj):Prop:=if x.2.1=0 then x.2.2=0 else x.1=0∧3<=x.2.1∧x.2.1<=258∧1<=x.2.2∧x.2.2<=32768∧x.2.2<=n
def gw:Nat->List bj->Prop
|_,[]=>True
|n,x::l=>fy n x∧gw (n+max x.2.1 1) l
theorem ni {out:List UInt8}{x:bj}:(fx out x).length=out.length+max x.2.1 1:=by
 unfold fx;by_cases h:x.2.1=0
 ·rw[alH h,h];simp
 ·rw[alG h,rn];omega
theorem ua:∀(l:List bj) (out:List UInt8),out.length<=(fg out l).length
|[],out=>alP _
|x::l,out=>by
  have:=ua l (fx out x);rw[ni] at this;show out.length<=(fg (fx out x) l).length;omega
def ei (near far:List Nat)(x:bj):List Nat:=
 if x.2.1=0 then dh near x.1.toNat
 else dh near (bu x.2.1).1++(bf (bu x.2.1).2.1 (bu x.2.1).2.2++(dh far (di x.2.2).1++bf (di x.2.2).2.1 (di x.2.2).2.2))
def ee (near far:List Nat)(x:bj):Prop:=
 if x.2.1=0 then 0 < near.getD x.1.toNat 0 else 0 < near.getD (bu x.2.1).1 0∧0 < far.getD (di x.2.2).1 0
def cy (near far:List Nat)(l:List bj):List Nat:=l.flatMap (ei near far)++dh near 256
theorem ud (near far:List Nat)(x:bj):bn (ei near far x):=by
 unfold ei;split
 ·exact ko _ _
 ·exact br (ko _ _) (br (dr _ _) (br (ko _ _) (dr _ _)))
theorem uf (near far:List Nat)(l:List bj):bn (cy near far l):=by
 refine br (λb a=>?_) (ko _ _);obtain⟨x,_,c⟩:=aqX.1 a;exact ud near far x b c
theorem uh {near far:List Nat}(s:bh near=0)(w:bh far=0)(d:∀l∈near,l<=15)(h:∀l∈far,l<=15)(i:0 < near.getD 256 0){B:List Nat}(a:bn B){most:Nat} :
  ∀(l:List bj) (p:Nat) (out:List UInt8) (f:Nat),(∀x∈l,ee near far x)->gw out.length l->ew B p (cy near far l)->(fg out l).length<=most->l.length < f ->
   jg near far (az B) most f p out=(fg out l,p+(cy near far l).length,0)
|[],p,out,f,_,_,b,hm,j=>by
  obtain⟨f,rfl⟩:∃g,f=g+1:=⟨f - 1,by simp at j;omega⟩;have b:ew B p (dh near 256):=b;unfold jg;simp only[b.sign a s d i];rw[alG sm,alG om,alH trivial];show (out,_,_)=(out,p+(dh near 256).length,0);rw[ez]
|x::l,p,out,f,z,A,b,hm,j=>by
  obtain⟨f,rfl⟩:∃g,f=g+1:=⟨f - 1,by simp at j;omega⟩;have j:l.length < f:=by simp at j;omega
  have k:=z x (amV ..);have e:cy near far (x::l)=ei near far x++cy near far l:=by
   unfold cy;rw[anW,alS]
  rw[e] at b;have m:=b.fst;have u:=b.snd;have o:(fg (fx out x) l).length<=most:=hm;have v:=aoM (ua l (fx out x)) o;have c:=A.1;have q:=A.2;rw[<-ni] at q;have n:=uh s w d h i a l (p+(ei near far x).length) (fx out x) f (λy C=>z y (amG _ C)) q u o j;have fin:fg (fx out x) l=fg out (x::l):=rfl;rw[fin] at n;rw[e,alI,<-anX,<-n]
  conv=>lhs;unfold jg
  unfold ee at k;unfold ei at m u n ⊢;unfold fy at c;rw[ni] at v;unfold fx at n ⊢;by_cases t:x.2.1=0
  ·rw[alH t] at k c;simp only[alH t] at m n ⊢;have D:x.1.toNat < 256:=x.1.toNat_lt;simp only[m.sign a s d k];rw[alG sm,alH D,alG om,ez,UInt8.ofNat_toNat]
  ·rw[alG t] at k c;simp only[alG t] at m u n ⊢;obtain⟨s1,s2,E,F,G,L⟩:=ly c.2.1 c.2.2.1;obtain⟨f1,f2,f3,f4,f5⟩:=mj c.2.2.2.1 c.2.2.2.2.1;have H:=m.fst;have a2:=m.snd;rw[ez] at a2;have a3:=a2.snd;rw[bp] at a3;have a4:=a3.snd;rw[ez] at a4;have n2:=a2.fst.num a G;have I:=a4.num a f4;have J:=a2.fst.le;have K:=a4.le;rw[bp] at J K;have g3:=a3.fst.sign a w h k.2;simp only[H.sign a s d k.1];have r:dp far (az B) (p+near.getD (bu x.2.1).1 0) (bu x.2.1).1 out most=(gx x.2.2 x.2.1 out,p+near.getD (bu x.2.1).1 0+(bu x.2.1).2.2+far.getD (di x.2.2).1 0+(di x.2.2).2.2,0):=by
    unfold dp;rw[alG om,E,alG om,n2,F];simp only[g3];rw[alG sm,alG om,f2,alG om,I,f3,alG om,alG om]
   simp only[r];rw[alG sm,alG om,alG om,alG sm]
   congr 1
   simp only[alI,ez,bp];omega
theorem ui {near far:List Nat}:∀{l:List bj},(∀x∈l,ee near far x)->0 < near.getD 256 0->l.length+1<=(cy near far l).length
|[],_,h=>by
  show 1<=(dh near 256).length;rw[ez];exact h
|x::l,b,h=>by
  have f:=ui (λy d=>b y (amG _ d)) h;have a:=b x (amV ..);have e:cy near far (x::l)=ei near far x++cy near far l:=by
   unfold cy;rw[anW,alS]
  have:1<=(ei near far x).length:=by
   unfold ei;unfold ee at a;by_cases c:x.2.1=0
   ·rw[alH c] at a ⊢;rw[ez];exact a
   ·rw[alG c] at a ⊢;rw[alI,ez];omega
  rw[e,alI,amC];omega
theorem uj {far:List Nat}(g:bh near=0)(h:bh far=0)(b:∀l∈near,l<=15)(c:∀l∈far,l<=15)(a:0 < near.getD 256 0)(e:bn B){l:List bj}
  (f:∀x∈l,ee near far x) (i:gw 0 l) (d:ew B p (cy near far l)) (hm:(fg [] l).length<=most) :
  fl near far (az B) most p []=(fg [] l,p+(cy near far l).length,0):=by
 have j:=ui f a;have k:=d.le;exact uh g h b c a e l p [] _ f i d hm om
def fj (s:List UInt8):List Nat:=s.flatMap λc=>bf c.toNat 8
theorem qe:∀s:List UInt8,(fj s).length=8*s.length
|[]=>rfl
|c::s=>by
  have:=qe s;unfold fj at this ⊢;rw[anW,alI,this,bp,amC];omega
theorem um (s:List UInt8):bn (fj s):=λb a=>by
 obtain⟨c,_,d⟩:=aqX.1 a;exact dr _ _ b d
theorem xy {a b:List Nat}{k:Nat}(h:a.length=8*k)(hi:i < k):bo (a++b) i=bo a i:=by
 have e:∀j,j < 8->(a++b).getD (8*i+j) 0=a.getD (8*i+j) 0:=λj c=>by
  rw[alO,anV om,alO]
 unfold bo;rw[e 1 om,e 2 om,e 3 om,e 4 om,e 5 om,e 6 om,e 7 om,show (a++b).getD (8*i) 0=a.getD (8*i) 0 from e 0 om]
theorem xz {a b:List Nat}{k:Nat}(h:a.length=8*k):bo (a++b) (k+i)=bo b i:=by
 have e:∀j,(a++b).getD (8*(k+i)+j) 0=b.getD (8*i+j) 0:=λj=>by
  rw[alO,aoB om,alO,show 8*(k+i)+j - a.length=8*i+j by omega]
 unfold bo;rw[e 1,e 2,e 3,e 4,e 5,e 6,e 7,show (a++b).getD (8*(k+i)) 0=b.getD (8*i) 0 from e 0]
theorem lz {a b:List Nat}{k:Nat}(h:a.length=8*k):az (a++b)=az a++az b:=by
 unfold az;rw[alI,h,show (8*k+b.length+7) / 8=k+(b.length+7) / 8 by omega,show (8*k+7) / 8=k by omega,List.range_add,amW,arF]
 congr 1
 ·refine aqS λi hi=>?_;rw[xy h (anJ.1 hi)]
 ·refine aqS λi _=>?_;show UInt8.ofNat (bo (a++b) (k+i))=_;rw[xz h]
theorem zy:∀n:Fin 256,az (bf n.val 8)=[UInt8.ofNat n.val]:=by decide +kernel
theorem xg (c:UInt8):az (bf c.toNat 8)=[c]:=by
 have:=zy ⟨c.toNat,c.toNat_lt⟩;rw[this,UInt8.ofNat_toNat]
theorem nm (b:List Nat):∀s:List UInt8,az (fj s++b)=s++az b
|[]=>rfl
|c::s=>by
  have e:fj (c::s)=bf c.toNat 8++fj s:=by unfold fj;rw[anW]
  rw[e,alS,lz (k:=1) (bp _ _),nm b s,xg];rfl
theorem ew.raw {l:List Nat}{p k:Nat}{s:List UInt8}(h:ew l p (fj s))(hp:p=8*k):((az l).drop k).take s.length=s:=by
 obtain⟨a,b,rfl,rfl⟩:=h;have c:(az a).length=k:=by rw[kz,hp];omega
 rw[alS,lz hp,nm,apO,c,aoH,aoL,arM om,amZ,asD,aoH,apL,amE,anI]
def fk (l:List Nat):List Nat:=l++List.replicate ((8 - l.length % 8) % 8) 0
theorem nn (l:List Nat):(fk l).length=8*((l.length+7) / 8):=by
 unfold fk;rw[alI,amY];omega
theorem uo (l:List Nat):az (fk l)=az l:=by
 have e:∀j,(fk l).getD j 0=l.getD j 0:=λj=>by
  unfold fk;rw[alO,alO];rcases amL j l.length with h|h
  ·rw[anV h]
  ·rw[aoB h,anY (l:=l) h,arO];split<;>rfl
 unfold az;rw[nn,show (8*((l.length+7) / 8)+7) / 8=(l.length+7) / 8 by omega];refine aqS λi _=>?_;unfold bo;rw[e,e,e,e,e,e,e,e]
theorem uq (h:bn l):bn (fk l):=br h λb a=>by rw[aoV a];decide
def ij (R:List Nat)(s:List UInt8):Prop:=∀(L:List Nat) (most:Nat),bn L->ew L 0 R->s.length<=most->jn (az L) most (8*(az L).length+1) 0 []=(s,(R.length+7) / 8,0)
theorem zz {R:List Nat}{s t:List UInt8}(h:ij R s)(a:bn R){most:Int}(hm:(s.length:Int)<=most)(b:s.length<=1048576):jq (az R++t) most=(s,(az R).length,0):=by
 have e:az R++t=az (fk R++fj t):=by
  have:az (fj t)=t:=by
   have:=nm [] t;rw[amE] at this;rw[this];exact amE _
  rw[lz (nn R),uo,this]
 unfold jq;rw[alG om,e,h _ _ (br (uq a) (um t)) ⟨[],List.replicate ((8 - R.length % 8) % 8) 0++fj t,by unfold fk;simp,rfl⟩ om,kz]
def jt (last n:Nat)(s:List UInt8):List Nat:=bf last 1++(bf 0 2++(List.replicate 5 0++(bf n 16++(bf (65535 - n) 16++fj s))))
def ib:Nat->List UInt8->List Nat
|0,_=>[]
|f+1,s=>if s.length<=65535 then jt 1 s.length s else jt 0 65535 (s.take 65535)++ib f (s.drop 65535)
theorem ju (last n:Nat)(s:List UInt8):(jt last n s).length=40+8*s.length:=by
 unfold jt;simp only[alI,bp,amY,qe];omega
theorem qf (last n:Nat)(s:List UInt8):bn (jt last n s):=
 br (dr _ _) (br (dr _ _) (br (λb a=>by rw[aoV a];decide) (br (dr _ _) (br (dr _ _) (um _)))))
theorem qz:∀(f:Nat) (s:List UInt8),bn (ib f s)
|0,_=>λb a=>by cases a
|f+1,s=>by
  unfold ib;split
  ·exact qf _ _ _
  ·exact br (qf _ _ _) (qz f _)
theorem ur {L:List Nat}{k last:Nat}{s out:List UInt8}(h:ew L (8*k) (jt last s.length s))(a:bn L)(i:last < 2)(j:s.length<=65535)(hm:out.length+s.length<=most) :
  8*k+1<=8*(az L).length∧Fl.num (az L) (8*k) 1=last∧dd (az L) most (8*k+1) out=(out++s,8*k+(jt last s.length s).length,0):=by
 have hle:=h.le;rw[ju] at hle ⊢;unfold jt at h;have b:=h.snd;rw[bp] at b;have c:=b.snd.snd;rw[bp,amY] at c;have d:=c.snd;rw[bp] at d;have e:=d.snd;rw[bp] at e;have n1:=b.fst.num a dc;have n2:=c.fst.num a om;have n3:=d.fst.num a om;have f:=e.raw (k:=k+5) om;refine⟨om,h.fst.num a om,?_⟩;unfold dd;rw[alG om,n1,alH rfl];unfold dy;dsimp only;have g:(8*k+1+2+7) / 8*8=8*k+1+2+5:=om
 rw[g,alG om,alG om,n2,n3,alG om,alG om,alG om,show (8*k+1+2+5) / 8+4=k+5 by omega,f]
 congr 2
 omega
theorem uu:∀(f:Nat) (s:List UInt8) (L:List Nat) (k:Nat) (out:List UInt8) (most g:Nat),s.length < f*65535->ew L (8*k) (ib f s)->bn L->out.length+s.length<=most->f<=g ->
  jn (az L) most g (8*k) out=(out++s,k+((ib f s).length+7) / 8,0)
|0,s,L,k,out,most,g,i,_,_,_,_=>by omega
|f+1,s,L,k,out,most,g,i,h,a,hm,n=>by
  obtain⟨g,rfl⟩:∃j,g=j+1:=⟨g - 1,om⟩;unfold ib at h ⊢;unfold jn;by_cases c:s.length<=65535
  ·rw[alH c] at h ⊢;obtain⟨l,b2,b3⟩:=ur h a dc c hm;rw[alG om];simp only[b3,b2];rw[alG sm,alH trivial]
   congr 2
   omega
  ·rw[alG c] at h ⊢;have b:(s.take 65535).length=65535:=by rw[alR];omega
   have d:=h.fst
   conv at d=>arg 3;arg 2;rw[<-b]
   obtain⟨l,b2,b3⟩:=ur (out:=out) (most:=most) d a dc om om;have e:=h.snd;rw[ju,b] at e;rw[b,ju,b] at b3;rw[alG om];simp only[b3,b2];rw[alG sm,alG dc];have o:(s.drop 65535).length=s.length - 65535:=alW;have m:=uu f (s.drop 65535) L (k+65540) (out++s.take 65535) most g om (by rw[show 8*(k+65540)=8*k+(40+8*65535) by omega];exact e) a (by rw[alI];omega) om;rw[show 8*k+(40+8*65535)=8*(k+65540) by omega,m,alS,amX,alI,ju,b]
   congr 2
   omega
theorem uv:∀(f:Nat) (s:List UInt8),s.length < f*65535->s.length<=(ib f s).length
|0,s,h=>by omega
|f+1,s,h=>by
  unfold ib;by_cases a:s.length<=65535
  ·rw[alH a,ju];omega
  ·have c:(s.drop 65535).length=s.length - 65535:=alW;have b:(s.take 65535).length=65535:=by rw[alR];omega
   have d:=uv f (s.drop 65535) om;rw[alG a,alI,ju,b];omega
def fu (s:List UInt8):List Nat:=ib (s.length / 65535+1) s
theorem AI (s:List UInt8):bn (fu s):=qz _ _
theorem AS (s:List UInt8):ij (fu s) s:=by
 intro L most b a hm;unfold fu at a ⊢;have d:=a.le;have c:s.length < (s.length / 65535+1)*65535:=om
 have e:=uv _ s c;have:=uu _ s L 0 [] most (8*(az L).length+1) c a b (by simpa using hm) om;simpa using this
def gr (l:List bj):List Nat:=bf 1 1++(bf 1 2++cy cr db l)
theorem AT (l:List bj):bn (gr l):=br (dr _ _) (br (dr _ _) (uf _ _ _))
def ya (i:Nat):Bool:=ai (0 < cr.getD i 0)
theorem nq (h:i < 288):0 < cr.getD i 0:=by
 have a:(List.range 288).all ya=true:=by decide +kernel
 exact alZ (aoF.1 a i (anJ.2 h))
theorem A0 (h:i < 32):0 < db.getD i 0:=by
 unfold db;rw[alO,arO,alH h];decide
theorem ml:∀l∈cr,l<=15:=by
 have a:cr.all (λl=>ai (l<=15))=true:=by decide +kernel
 exactλl b=>alZ (aoF.1 a l b)
theorem nr:∀l∈db,l<=15:=λl a=>by rw[aoV a];decide
theorem lq:∀{l:List bj} {n:Nat},gw n l->∀x∈l,∃m,fy m x
|y::l,n,h,x,a=>by
  rcases alN.1 a with rfl|a
  ·exact⟨n,h.1⟩
  ·exact lq h.2 x a
theorem uw {l:List bj}{n:Nat}(h:gw n l):∀x∈l,ee cr db x:=by
 intro x d;obtain⟨m,hm⟩:=lq h x d;unfold fy at hm;unfold ee;by_cases c:x.2.1=0
 ·rw[alH c];have:=x.1.toNat_lt;exact nq om
 ·rw[alG c] at hm ⊢;have a:=ly hm.2.1 hm.2.2.1;have b:=mj hm.2.2.2.1 hm.2.2.2.2.1;exact⟨nq om,A0 om⟩
theorem ux {R x:List Nat}{s:List UInt8}(d:R=bf 1 1++x)(h:∀(L:List Nat) (most:Nat),bn L->ew L 1 x->s.length<=most->1<=8*(az L).length->dd (az L) most 1 []=(s,1+x.length,0)):ij R s:=by
 subst d;intro L most b a hm;have c:=a.snd;rw[bp] at c;have hle:=a.fst.le;rw[bp] at hle;unfold jn;rw[alG om];simp only[alU,h L most b (by simpa using c) hm om,a.fst.num b dc];rw[alG sm,alH trivial]
 congr 2
 rw[alI,bp]
theorem By {l:List bj}(h:gw 0 l):ij (gr l) (fg [] l):=by
 refine ux rfl λL most b a hm hle=>?_;have d:=a.fst.le;have c:=a.snd;rw[bp] at d c;unfold dd;rw[alG om,a.fst.num b dc,alG dc,alH rfl,uj nc nd ml nr (nq dc) b (uw h) h (by simpa using c) hm]
 congr 2
 rw[alI,bp];omega
abbrev bt:=Nat×Nat×Nat
def ev (acc:List Nat)(m:bt):List Nat:=if m.1 < 16 then acc++[m.1] else acc++List.replicate (dn m.1+m.2.1) (if m.1=16 then acc.getD (acc.length - 1) 0 else 0)
def gf (acc:List Nat)(m:bt):Prop:=if m.1 < 16 then m.2.1=0∧m.2.2=0 else m.1<=18∧m.2.2=cm m.1∧m.2.1 < 2 ^ m.2.2∧(m.1=16->0 < acc.length)
def eh (acc:List Nat)(l:List bt):List Nat:=l.foldl ev acc
def im:List Nat->List bt->Prop
|_,[]=>True
|acc,m::l=>gf acc m∧im (ev acc m) l
theorem uy (acc:List Nat)(l:List bt)(m:bt):eh acc (l++[m])=ev (eh acc l) m:=by unfold eh;rw[asI];rfl
theorem qg:∀{l:List bt} {acc:List Nat} {m:bt},im acc l->gf (eh acc l) m->im acc (l++[m])
|[],_,_,_,h=>⟨h,trivial⟩
|_::_,_,_,h,a=>⟨h.1,qg h.2 a⟩
def jy (cl:List Nat)(m:bt):List Nat:=dh cl m.1++bf m.2.1 m.2.2
def fq (cl:List Nat)(l:List bt):List Nat:=l.flatMap (jy cl)
theorem BY (cl:List Nat)(m:bt):bn (jy cl m):=br (ko _ _) (dr _ _)
theorem uz (cl:List Nat)(l:List bt):bn (fq cl l):=λb a=>by
 obtain⟨x,_,c⟩:=aqX.1 a;exact BY cl x b c
theorem B0 (g:Nat):3<=dn g:=by unfold dn;split<;>omega
theorem vd (acc:List Nat)(m:bt):acc.length < (ev acc m).length:=by
 have:=B0 m.1;unfold ev;split<;>simp<;>omega
theorem ma:∀(l:List bt) (acc:List Nat),acc.length+l.length<=(eh acc l).length
|[],_=>alP _
|m::l,acc=>by
  have a:=ma l (ev acc m);have b:=vd acc m;show acc.length+(l.length+1)<=(eh (ev acc m) l).length;omega
theorem ve {cl:List Nat}(v:bh cl=0)(r:∀l∈cl,l<=15){B:List Nat}(c:bn B){n:Nat} :
  ∀(l:List bt) (p:Nat) (acc:List Nat) (f:Nat),(∀m∈l,0 < cl.getD m.1 0)->im acc l->ew B p (fq cl l)->(eh acc l).length=n->l.length < f ->
   jh cl (az B) n f p acc=(eh acc l,p+(fq cl l).length,0)
|[],p,acc,f,_,_,_,t,o=>by
  obtain⟨f,rfl⟩:∃g,f=g+1:=⟨f - 1,by simp at o;omega⟩;have t:acc.length=n:=t;unfold jh;rw[alH om];rfl
|m::l,p,acc,f,w,x,d,t,o=>by
  obtain⟨f,rfl⟩:∃g,f=g+1:=⟨f - 1,by simp at o;omega⟩;have o:l.length < f:=by simp at o;omega
  have hm:=w m (amV ..);have e:fq cl (m::l)=jy cl m++fq cl l:=by unfold fq;rw[anW]
  rw[e] at d ⊢;have u:=d.fst;have z:=d.snd;have h:(eh (ev acc m) l).length=n:=t;have i:=vd acc m;have hle:=ma l (ev acc m);have q:=ve v r c l (p+(jy cl m).length) (ev acc m) f (λy A=>w y (amG _ A)) x.2 z h o;have fin:eh (ev acc m) l=eh acc (m::l):=rfl;rw[fin] at q;rw[alI,<-anX,<-q]
  conv=>lhs;unfold jh
  have a:=x.1;unfold gf at a;unfold jy at u q ⊢;rw[alG om];have C:=u.fst.sign c v r hm;have j:=u.snd;rw[ez] at j;have D:=j.le;rw[bp] at D;simp only[C];rw[alG sm];unfold ev at q i hle h ⊢;rw[alI,ez,bp];by_cases b:m.1 < 16
  ·rw[alH b] at a;simp only[alH b] at q ⊢;rw[a.2,anF]
  ·rw[alG b] at a;simp only[alG b] at q i hle h ⊢;simp only[alI,amY] at i hle;have E:=j.num c a.2.2.1;have s:=a.2.2.2;rw[alG (λk=>by have:=s k.1;omega),<-a.2.1,alG om,E,alG om,<-anX]
theorem iq {P:Nat->Prop}(h:∀x∈l,P x)(a:P 0)(i:Nat):P (l.getD i 0):=by
 rw[alO];cases c:l[i]? with
|none=>exact a
|some b=>exact h b (aoZ c)
def ow (i:Nat):Bool:=(List.range 19).all λj=>ai (i=j)||decide (cd.getD i 0≠cd.getD j 0)
def ox (j:Nat):Bool:=(List.range 19).any λi=>ai (cd.getD i 0=j)
theorem yb (hi:i < 19)(c:j < 19)(h:i≠j):cd.getD i 0≠cd.getD j 0:=by
 have d:(List.range 19).all ow=true:=by decide +kernel
 have a:=aoF.1 d i (anJ.2 hi);unfold ow at a;have b:=aoF.1 a j (anJ.2 c);rw[apC,amU,amU] at b;exact b.resolve_left h
theorem C0 (b:j < 19):∃i,i < 19∧cd.getD i 0=j:=by
 have c:(List.range 19).all ox=true:=by decide +kernel
 have a:=aoF.1 c j (anJ.2 b);unfold ox at a;obtain⟨i,hi,h⟩:=aoW.1 a;exact⟨i,anJ.1 hi,alZ h⟩
theorem vf (h:i < 19):cd.getD i 0 < 19:=by
 have a:(List.range 19).all (λi=>ai (cd.getD i 0 < 19))=true:=by decide +kernel
 exact alZ (aoF.1 a i (anJ.2 h))
theorem vh (s:List UInt8)(p:Nat):∀(k i:Nat),k<=19->i < 19->(fo s p k).getD (cd.getD i 0) 0=if i < k then Fl.num s (p+3*i) 3 else 0
|0,i,_,hi=>by
  rw[alG om,fo,alO,arO];split<;>rfl
|k+1,i,c,hi=>by
  have b:=mi s p k;rw[fo,alO];by_cases h:k=i
  ·subst h;rw[aoS (by rw[b];exact vf hi),alH om];rfl
  ·rw[aqO (yb om hi h),<-alO,vh s p k i om hi];by_cases a:i < k
   ·rw[alH a,alH om]
   ·rw[alG a,alG om]
def ie (cl:List Nat)(k:Nat):List Nat:=(List.range k).flatMap λi=>bf (cl.getD (cd.getD i 0) 0) 3
theorem qh (cl:List Nat)(k:Nat):ie cl (k+1)=ie cl k++bf (cl.getD (cd.getD k 0) 0) 3:=by
 unfold ie;rw[aqT,aoQ];simp
theorem mc (cl:List Nat):∀k,(ie cl k).length=3*k
|0=>rfl
|k+1=>by rw[qh,alI,mc cl k,bp];omega
theorem qi (cl:List Nat)(k:Nat):bn (ie cl k):=λb a=>by
 obtain⟨x,_,c⟩:=aqX.1 a;exact dr _ _ b c
theorem vi {cl:List Nat}(b:∀x∈cl,x<=7){B:List Nat}(a:bn B){p:Nat}:∀(k:Nat),ew B p (ie cl k)->∀i,i < k->Fl.num (az B) (p+3*i) 3=cl.getD (cd.getD i 0) 0
|k+1,h,i,hi=>by
  rw[qh] at h;rcases amL i k with c|c
  ·exact vi b a k h.fst i c
  ·obtain rfl:i=k:=om
   have d:=h.snd;rw[mc] at d;have:cl.getD (cd.getD i 0) 0<=7:=iq b dc _;exact d.num a om
theorem yd (c:cl.length=19)(d:∀x∈cl,x<=7){k:Nat}(f:k<=19)(l:∀i,k<=i->i < 19->cl.getD (cd.getD i 0) 0=0)(a:bn B)(b:ew B p (ie cl k)) :
  fo (az B) p k=cl:=by
 refine asX (by rw[mi,c]) λj m n=>?_;obtain⟨i,hi,o⟩:=C0 (j:=j) om;have g:=vh (az B) p k i f hi;have e:(if i < k then Fl.num (az B) (p+3*i) 3 else 0)=cl.getD (cd.getD i 0) 0:=by
  by_cases h:i < k
  ·rw[alH h,vi d a k b i h]
  ·rw[alG h,l i om hi]
 rw[e,o,alO,alO,alT m,alT n] at g;exact g
def lh (a b cl:List Nat)(k:Nat)(ms:List bt)(l:List bj):List Nat:=
 bf 1 1++(bf 2 2++(bf (a.length - 257) 5++(bf (b.length - 1) 5++(bf (k - 4) 4++(ie cl k++(fq cl ms++cy a b l))))))
theorem yf (a b cl:List Nat)(k:Nat)(ms:List bt)(l:List bj):bn (lh a b cl k ms l):=
 br (dr _ _) (br (dr _ _) (br (dr _ _) (br (dr _ _) (br (dr _ _) (br (qi _ _) (br (uz _ _) (uf _ _ _)))))))
theorem D0 {a b:List Nat}{k:Nat}{ms:List bt}{l:List bj}(P:257<=a.length)(w:a.length<=286)(Q:1<=b.length)(y:b.length<=30)(R:4<=k)(r:k<=19)
  (z:cl.length=19) (u:∀x∈cl,x<=7) (A:∀i,k<=i->i < 19->cl.getD (cd.getD i 0) 0=0) (v:bh cl=0) (s:∀m∈ms,0 < cl.getD m.1 0) (t:im [] ms) (d:eh [] ms=a++b)
  (g:bh a=0) (h:bh b=0) (j:∀x∈a,x<=15) (o:∀x∈b,x<=15) (p:0 < a.getD 256 0) (B:∀x∈l,ee a b x) (C:gw 0 l):ij (lh a b cl k ms l) (fg [] l):=by
 refine ux rfl λL most c e hm hle=>?_;have q:=e.snd;rw[bp] at q;have a2:=q.snd;rw[bp] at a2;have a3:=a2.snd;rw[bp] at a3;have a4:=a3.snd;rw[bp] at a4;have a5:=a4.snd;rw[mc] at a5;have D:=a5.snd;have E:=q.fst.le;have F:=a2.fst.le;have G:=a3.fst.le;have H:=a4.fst.le;have I:=e.fst.le;rw[bp] at I E F G;rw[mc] at H;have n1:=q.fst.num c om;have n2:=a2.fst.num c om;have n3:=a3.fst.num c om;unfold dd;rw[alG om,e.fst.num c dc,alG dc,alG dc,alH rfl];unfold gi;have J:k - 4+4=k:=om
 rw[alG om,n1,alG om,alG om,n2,alG om,alG om,n3,J,alG om];have f:=yd z u r A c a4.fst;have f:fo (az L) (1+2+14) k=cl:=f;have hlen:=ve v (λx K=>aoM (u x K) dc) c (n:=a.length - 257+257+(b.length - 1+1)) ms (1+2+14+3*k) [] (a.length - 257+257+(b.length - 1+1)+1) s t a5.fst (by rw[d,alI];omega) (by have:=ma ms [];rw[d,alI] at this;simp at this;omega);have hlen:Fl.lens cl (az L) (a.length - 257+257+(b.length - 1+1)) (1+2+14+3*k)=(a++b,1+2+14+3*k+(fq cl ms).length,0):=by rw[<-d];exact hlen
 have M:(a++b).take (a.length - 257+257)=a:=by rw[show a.length - 257+257=a.length by omega,List.take_left]
 have N:(a++b).drop (a.length - 257+257)=b:=by rw[show a.length - 257+257=a.length by omega,List.drop_left]
 have O:(a++b).getD 256 0=a.getD 256 0:=by rw[alO,anV om,alO]
 simp only[f,hlen,M,N,O,v,g,h];rw[alG sm,alG sm,alG om,alG sm,alG sm,uj g h j o p c B C D hm]
 congr 2
 simp only[alI,bp,mc];omega
inductive Cn where
|leaf (w s:Nat)
|node (a b:Cn)
 deriving DecidableEq
def Cn.wt:Cn->Nat
|.leaf w _=>w
|.node a b=>a.wt+b.wt
def Cn.cnt (s:Nat):Cn->Nat
|.leaf _ t=>if t=s then 1 else 0
|.node a b=>a.cnt s+b.cnt s
def Cn.Ab:Cn->List Cn
|.leaf _ _=>[]
|.node a b=>[a,b]
def Cn.kU:Cn->Bool
|.leaf _ _=>av
|.node _ _=>au
def Cn.top (s:Nat):Cn->Nat
|.leaf _ t=>if t=s then 1 else 0
|.node _ _=>0
def Cn.kids (l:List Cn):List Cn:=l.flatMap Cn.Ab
def Cn.bF:List Cn->List Cn
|a::b::l=>.node a b::Cn.bF l
|_=>[]
def Cn.sorted (l:List Cn):Prop:=l.Pairwise λa b=>a.wt<=b.wt
def Cn.sum (f:Cn->Nat)(l:List Cn):Nat:=(l.map f).sum
theorem Cn.sum_cons (f:Cn->Nat)(c:Cn)(l:List Cn):Cn.sum f (c::l)=f c+Cn.sum f l:=rfl
theorem Cn.Gl (f:Cn->Nat)(a b:List Cn):Cn.sum f (a++b)=Cn.sum f a+Cn.sum f b:=by unfold Cn.sum;rw[amW,asS]
theorem Cn.KE {f:Cn->Nat}{a b:List Cn}(h:a.Perm b):Cn.sum f a=Cn.sum f b:=(h.map f).sum_nat
theorem Cn.SO {f:Cn->Nat}:∀{q p:List Cn},q.Nodup->(∀x∈q,x∈p)->Cn.sum f q<=Cn.sum f p
|[],_,_,_=>amN _
|c::q,p,a,d=>by
  rw[arV] at a;have h:=d c (amV ..);have hp:=atY h;rw[Cn.KE hp,Cn.sum_cons,Cn.sum_cons];have:=Cn.SO (f:=f) (p:=p.erase c) a.2 λx g=>by
   have:=d x (amG _ g);have b:x≠c:=λe=>a.1 (e▸g);exact (List.mem_erase_of_ne b).2 this
  omega
theorem Cn.DX (y:Cn):∀l:List Cn,(Cn.kids l).count y=Cn.sum (λc=>c.Ab.count y) l
|[]=>rfl
|c::l=>by
  have:=Cn.DX y l;unfold Cn.kids at this ⊢;rw[anW,apW,this,Cn.sum_cons]
theorem Cn.I7:∀l:List Cn,∃t,l=Cn.kids (Cn.bF l)++t∧t.length<=1
|[]=>⟨[],rfl,dc⟩
|[a]=>⟨[a],rfl,sm⟩
|a::b::l=>by
  obtain⟨t,h,c⟩:=Cn.I7 l;refine⟨t,?_,c⟩;show a::b::l=(Cn.Ab (.node a b)++Cn.kids (Cn.bF l))++t
  conv=>lhs;rw[h]
  rfl
theorem Cn.fQ:∀{l:List Cn} {x:Cn},x∈Cn.bF l->∃a b,x=.node a b∧a∈l∧b∈l
|a::b::l,x,h=>by
  rcases alN.1 h with rfl|h
  ·exact⟨a,b,rfl,amV ..,amG _ (amV ..)⟩
  ·obtain⟨c,d,e,f,g⟩:=Cn.fQ h;exact⟨c,d,e,amG _ (amG _ f),amG _ (amG _ g)⟩
theorem Cn.Ge:∀{l:List Cn},l.Nodup->(Cn.bF l).Nodup
|[],_=>List.nodup_nil
|[_],_=>List.nodup_nil
|a::b::l,h=>by
  rw[arV,arV] at h;show (Cn.node a b::Cn.bF l).Nodup;rw[arV];refine⟨λhm=>?_,Cn.Ge h.2.2⟩;obtain⟨c,d,e,f,_⟩:=Cn.fQ hm
  injection e with g _
  subst g;exact h.1 (amG _ f)
theorem Cn.CK:∀l:List Cn,(Cn.bF l).length=l.length / 2
|[]=>rfl
|[_]=>by simp[Cn.bF]
|a::b::l=>by
  show (Cn.bF l).length+1=(l.length+1+1) / 2;rw[Cn.CK l];omega
theorem Cn.HV {l:List Cn}:l.Nodup↔∀a,l.count a<=1:=List.nodup_iff_count
theorem Cn.RP {l q:List Cn}(a:l.Nodup)(b:q.Nodup)(d:∀x∈q,x∈Cn.bF l):(Cn.kids q).Nodup:=by
 rw[Cn.HV];intro y;rw[Cn.DX];have e:=Cn.SO (f:=λc=>c.Ab.count y) b d;rw[<-Cn.DX y (Cn.bF l)] at e;obtain⟨t,g,_⟩:=Cn.I7 l;have h:=Cn.HV.1 a y;rw[g,apW] at h;omega
def Cn.low (d r:List Cn):Prop:=∀x∈d,∀y∈r,y ∉ d->x.wt<=y.wt
theorem Cn.JF {p:Cn->Prop}:∀{l:List Cn},Cn.sorted l->(∀x∈Cn.bF l,p x->∀y∈Cn.bF l,¬p y->x.wt<=y.wt) ->
  ∀u v,(∃x∈Cn.bF l,p x∧u∈x.Ab)->v∈l->(∀x∈Cn.bF l,p x->v ∉ x.Ab)->u.wt<=v.wt
|[],_,_,u,v,_,t,_=>by cases t
|[a],_,_,u,v,⟨x,j,_⟩,_,_=>by cases j
|a::b::l,n,hp,u,v,⟨x,j,k,hu⟩,t,B=>by
  unfold Cn.sorted at n;rw[aoG,aoG] at n;have g:x=.node a b∨x∈Cn.bF l:=alN.1 j;have m:Cn.node a b∈Cn.bF (a::b::l):=amV ..
  have f:∀{z},z∈Cn.bF l->z∈Cn.bF (a::b::l):=λh=>amG _ h;have I:=n.1 b (amV ..);by_cases i:p (.node a b)
  ·have w:=B _ m i;have o:v≠a:=λe=>w (e▸amV ..);have q:v≠b:=λe=>w (e▸amG _ (amV ..));have r:v∈l:=by
    rcases alN.1 t with h|h
    ·exact absurd h o
    ·rcases alN.1 h with h|h
     ·exact absurd h q
     ·exact h
   rcases g with rfl|g
   ·have s:=n.2.1 v r;rcases alN.1 hu with rfl|hu
    ·omega
    ·rw[amH.1 hu];exact s
   ·exact Cn.JF n.2.2 (λx j C y D E=>hp x (f j) C y (f D) E) u v ⟨x,g,k,hu⟩ r λx j=>B x (f j)
  ·have g:x∈Cn.bF l:=g.resolve_left λe=>i (e▸k);rcases alN.1 t with o|t
   ·-- v=a: J package (a,b) is out,N x A no more H it;all K equal
    have s:=hp x j k _ m i;obtain⟨c,d,rfl,F,G⟩:=Cn.fQ g;have s:c.wt+d.wt<=a.wt+b.wt:=s;have L:=n.2.1 c F;have M:=n.2.1 d G;rcases alN.1 hu with rfl|hu
    ·subst o;omega
    ·rw[amH.1 hu];subst o;omega
   ·rcases alN.1 t with q|r
    ·have s:=hp x j k _ m i;obtain⟨c,d,rfl,F,G⟩:=Cn.fQ g;have s:c.wt+d.wt<=a.wt+b.wt:=s;have L:=n.2.1 c F;have M:=n.2.1 d G;rcases alN.1 hu with rfl|hu
     ·subst q;omega
     ·rw[amH.1 hu];subst q;omega
    ·exact Cn.JF n.2.2 (λx j C y D E=>hp x (f j) C y (f D) E) u v ⟨x,g,k,hu⟩ r λx j=>B x (f j)
inductive Cn.Row (L:List Cn):Nat->List Cn->Prop
|zero {r:List Cn}:Cn.sorted r->r.Perm L->Cn.Row L 0 r
|succ {t:Nat} {q r:List Cn}:Cn.Row L t q->Cn.sorted r->r.Perm (L++Cn.bF q)->Cn.Row L (t+1) r
structure Cn.Lv (L:List Cn) (Sy:List Nat):Prop where
 leaf:∀x∈L,∃w s,x=.leaf w s∧0 < w∧s∈Sy
 has:∀s∈Sy,∃w,Cn.leaf w s∈L
 uniq:∀w v s,Cn.leaf w s∈L->Cn.leaf v s∈L->w=v
 nodup:L.Nodup
 nodupS:Sy.Nodup
 len:L.length=Sy.length
theorem Cn.Row.nodup {L:List Cn}{Sy:List Nat}(hL:Cn.Lv L Sy){t:Nat}{r:List Cn}(h:Cn.Row L t r):r.Nodup∧∀x∈r,(x∈L)∨x.kU=false:=by
 induction h with
|zero _ hp=>exact⟨hp.nodup_iff.2 hL.nodup,λx c=>.inl (hp.mem_iff.1 c)⟩
|succ g _ hp d=>
  refine⟨hp.nodup_iff.2 ?_,λx c=>?_⟩
  ·rw[List.nodup_append];refine⟨hL.nodup,Cn.Ge d.1,λx c y f e=>?_⟩;subst e;obtain⟨a,b,rfl,_,_⟩:=Cn.fQ f;obtain⟨w,s,h,_⟩:=hL.leaf _ c;cases h
  ·rcases amK.1 (hp.mem_iff.1 c) with h|h
   ·exact .inl h
   ·obtain⟨a,b,rfl,_,_⟩:=Cn.fQ h;exact .inr rfl
theorem Cn.Row.has {L:List Cn}{r:List Cn}(h:Cn.Row L t r):∀x∈L,x∈r:=by
 intro x a;cases h with
|zero _ hp=>exact hp.mem_iff.2 a
|succ _ _ hp=>exact hp.mem_iff.2 (atA _ a)
theorem Cn.Row.pos {L:List Cn}(hL:Cn.Lv L Sy){r:List Cn}(h:Cn.Row L t r):∀x∈r,0 < x.wt:=by
 induction h with
|zero _ hp=>
  intro x c;obtain⟨w,s,rfl,h,_⟩:=hL.leaf x (hp.mem_iff.1 c);exact h
|succ f _ hp d=>
  intro x c;rcases amK.1 (hp.mem_iff.1 c) with h|h
  ·obtain⟨w,s,rfl,h,_⟩:=hL.leaf x h;exact h
  ·obtain⟨a,b,rfl,e,_⟩:=Cn.fQ h;have:=d a e;show 0 < a.wt+b.wt;omega
theorem Cn.Kr {f:Cn->Nat}:∀{l:List Cn},(∀x∈l,f x=0)->Cn.sum f l=0
|[],_=>rfl
|c::l,h=>by rw[Cn.sum_cons,h c (amV ..),Cn.Kr λx a=>h x (amG _ a)]
theorem Cn.Uw {f:Cn->Nat}:∀{l:List Cn},0 < Cn.sum f l->∃x∈l,0 < f x
|c::l,h=>by
  rw[Cn.sum_cons] at h;by_cases a:0 < f c
  ·exact⟨c,amV ..,a⟩
  ·obtain⟨x,b,d⟩:=Cn.Uw (f:=f) (l:=l) om;exact⟨x,amG _ b,d⟩
theorem Cn.Nr {f:Cn->Nat}:∀{l:List Cn} {x:Cn},x∈l->f x<=Cn.sum f l
|c::l,x,h=>by
  rw[Cn.sum_cons];rcases alN.1 h with rfl|h
  ·omega
  ·have:=Cn.Nr (f:=f) h;omega
theorem Cn.NT (s:Nat):∀d:List Cn,Cn.sum (Cn.cnt s) d=Cn.sum (Cn.top s) d+Cn.sum (Cn.cnt s) (Cn.kids d)
|[]=>rfl
|c::d=>by
  have f:=Cn.NT s d;have e:Cn.kids (c::d)=c.Ab++Cn.kids d:=by unfold Cn.kids;rw[anW]
  rw[e,Cn.Gl,Cn.sum_cons,Cn.sum_cons,f];cases c with
 |leaf w t=>show (if t=s then 1 else 0)+_=_;simp only[Cn.top,Cn.Ab,Cn.sum,apS,List.sum_nil];omega
 |node a b=>show (a.cnt s+b.cnt s)+_=_;simp only[Cn.top,Cn.Ab,Cn.sum,anE,apS,aqA,List.sum_nil];omega
def Cn.val (s:Nat):Nat->List Cn->Nat
|0,d=>Cn.sum (Cn.top s) d
|t+1,d=>Cn.sum (Cn.top s) d*2 ^ (t+1)+Cn.val s t (Cn.kids d)
theorem Cn.Yq {L:List Cn}(hL:Cn.Lv L Sy){d:List Cn}(h:d.Nodup)(hm:∀x∈d,x∈L∨x.kU=au)(s:Nat):Cn.sum (Cn.top s) d<=1:=by
 induction d with
|nil=>exact amN _
|cons c d j=>
  rw[arV] at h;have j:=j h.2 λx f=>hm x (amG _ f);rw[Cn.sum_cons];by_cases g:Cn.top s c=0
  ·omega
  ·have e:Cn.sum (Cn.top s) d=0:=by
    refine Cn.Kr λx f=>?_;cases x with
   |node a b=>rfl
   |leaf v t=>
     cases c with
    |node a b=>exact absurd rfl g
    |leaf w u=>
      simp only[Cn.top] at g ⊢;by_cases i:u=s
      ·by_cases k:t=s
       ·subst i;subst k;have l:=(hm _ (amV ..)).resolve_right (by simp[Cn.kU]);have m:=(hm _ (amG _ f)).resolve_right (by simp[Cn.kU]);have:=hL.uniq _ _ _ l m;subst this;exact absurd f h.1
       ·rw[alG k]
      ·rw[alG i] at g;exact absurd rfl g
   have i:Cn.top s c<=1:=by
    cases c with
   |leaf w t=>simp only[Cn.top];split<;>omega
   |node a b=>exact amN _
   omega
theorem Cn.LI {d:List Cn}(h:∀x∈d,x.kU=av):Cn.kids d=[]:=by
 induction d with
|nil=>rfl
|cons c d f=>
  have e:Cn.kids (c::d)=c.Ab++Cn.kids d:=by unfold Cn.kids;rw[anW]
  have g:=h c (amV ..);rw[e,f λx i=>h x (amG _ i)];cases c with
 |leaf w t=>rfl
 |node a b=>cases g
theorem Cn.FP {d:List Cn}{u:Cn}:u∈Cn.kids d↔∃x∈d,u∈x.Ab:=by unfold Cn.kids;exact aqX
theorem Cn.Row.down {L:List Cn}(hL:Cn.Lv L Sy){q r d:List Cn}(C:Cn.Row L t q)(D:Cn.sorted q)(hp:r.Perm (L++Cn.bF q))(A:d.Nodup)(hm:∀x∈d,x∈r)(B:Cn.low d r) :
  (Cn.kids d).Nodup∧(∀x∈Cn.kids d,x∈q)∧Cn.low (Cn.kids d) q:=by
 have f:∀x∈d,x.kU=au->x∈Cn.bF q:=by
  intro x i h;rcases amK.1 (hp.mem_iff.1 (hm x i)) with k|k
  ·obtain⟨w,s,rfl,_⟩:=hL.leaf x k;cases h
  ·exact k
 have j:∀x u,u∈Cn.Ab x->x.kU=false:=by
  intro x u hu;cases x with
 |leaf w s=>cases hu
 |node a b=>rfl
 have E:Cn.kids d=Cn.kids (d.filter λx=>!x.kU):=by
  clear A hm B f
  induction d with
 |nil=>rfl
 |cons c d F=>
   have e:Cn.kids (c::d)=c.Ab++Cn.kids d:=by unfold Cn.kids;rw[anW]
   rw[e,F,aqZ];cases c with
  |leaf w s=>rfl
  |node a b=>unfold Cn.kids;rfl
 refine⟨?_,?_,?_⟩
 ·rw[E];refine Cn.RP (l:=q) (C.nodup hL).1 (A.filter _) λx i=>?_;obtain⟨k,G⟩:=List.mem_filter.1 i;exact f x k (by simpa using G)
 ·intro u hu;obtain⟨x,i,g⟩:=Cn.FP.1 hu;obtain⟨a,b,rfl,H,I⟩:=Cn.fQ (f x i (j x u g));rcases alN.1 g with rfl|h
  ·exact H
  ·rw[amH.1 h];exact I
 ·intro u hu v J m;obtain⟨x,i,g⟩:=Cn.FP.1 hu;refine Cn.JF (p:=λz=>z∈d) D (λx i K y M N=>B x K y (hp.mem_iff.2 (atB _ M)) N) u v ⟨x,f x i (j x u g),i,g⟩ J λz O n o=>m (Cn.FP.2 ⟨z,n,o⟩)
theorem Cn.Row.sorted {L:List Cn}{t:Nat}{r:List Cn}(h:Cn.Row L t r):Cn.sorted r:=by
 cases h with
|zero h _=>exact h
|succ _ h _=>exact h
theorem Cn.Row.levels {L:List Cn}(hL:Cn.Lv L Sy){r:List Cn}(h:Cn.Row L t r):∀(d:List Cn),d.Nodup->(∀x∈d,x∈r)->Cn.low d r->∀s,
  Cn.sum (Cn.cnt s) d<=t+1∧Cn.val s t d+2 ^ (t+1 - Cn.sum (Cn.cnt s) d)=2 ^ (t+1)∧(Cn.sum (Cn.top s) d=0->Cn.sum (Cn.cnt s) d=0):=by
 induction h with
|zero D hp=>
  intro d o hm p s;have j:∀x∈d,x.kU=true:=λx i=>by
   obtain⟨w,s,rfl,_⟩:=hL.leaf x (hp.mem_iff.1 (hm x i));rfl
  have H:=Cn.Yq hL o (λx i=>.inl (hp.mem_iff.1 (hm x i))) s;have e:=Cn.NT s d;rw[Cn.LI j] at e;have e:Cn.sum (Cn.cnt s) d=Cn.sum (Cn.top s) d:=e;rw[e];refine⟨om,?_,λh=>h⟩;show Cn.sum (Cn.top s) d+_=_;rcases (by omega:Cn.sum (Cn.top s) d=0∨Cn.sum (Cn.top s) d=1) with h|h<;>rw[h]<;>decide
|@succ t q r l D hp I=>
  intro d o hm p s;have g:Cn.Row L (t+1) r:=.succ l D hp;obtain⟨J,E,K⟩:=Cn.Row.down hL l l.sorted hp o hm p;obtain⟨i1,i2,i3⟩:=I (Cn.kids d) J E K s;have H:=Cn.Yq hL o (λx i=>(g.nodup hL).2 x (hm x i)) s;have e:=Cn.NT s d;have M:Cn.sum (Cn.top s) d=0->Cn.sum (Cn.cnt s) (Cn.kids d)=0:=by
   intro T;refine i3 ?_;rcases anU (Cn.sum (Cn.top s) (Cn.kids d)) with h|h
   ·exact h
   ·exfalso;obtain⟨x,i,k⟩:=Cn.Uw h;cases x with
   |node a b=>exact absurd k (aqG _)
   |leaf w u=>
     simp only[Cn.top] at k;have v:u=s:=by
      by_cases h:u=s
      ·exact h
      ·rw[alG h] at k;omega
     subst v;have z:Cn.leaf w u∈L:=((l.nodup hL).2 _ (E _ i)).resolve_right (by simp[Cn.kU]);have A:=g.has _ z;by_cases m:Cn.leaf w u∈d
     ·have:=Cn.Nr (f:=Cn.top u) m;simp only[Cn.top,if_true] at this;omega
     ·obtain⟨y,F,n⟩:=Cn.FP.1 i;have c:=p y F _ A m;cases y with
     |leaf _ _=>cases n
     |node a b=>
       have G:=g.pos hL;have B:Cn.node a b∈Cn.bF q:=by
        rcases amK.1 (hp.mem_iff.1 (hm _ F)) with c|c
        ·obtain⟨w,s,h,_⟩:=hL.leaf _ c;cases h
        ·exact c
       obtain⟨a',U,e',N,O⟩:=Cn.fQ B
       injection e' with P Q
       subst P;subst Q;have R:=l.pos hL _ N;have S:=l.pos hL _ O;have c:a.wt+b.wt<=w:=c;rcases alN.1 n with C|C
       ·rw[<-C] at c R;have c:w+b.wt<=w:=c;omega
       ·rw[<-amH.1 C] at c S;have c:a.wt+w<=w:=c;omega
  rw[e];show _∧Cn.sum (Cn.top s) d*2 ^ (t+1)+Cn.val s t (Cn.kids d)+_=_∧_;have V:2 ^ (t+1+1)=2*2 ^ (t+1):=by rw[anL];omega
  rcases (by omega:Cn.sum (Cn.top s) d=0∨Cn.sum (Cn.top s) d=1) with h|h
  ·have c:=M h;rw[c] at i2 ⊢;rw[h];refine⟨om,?_,λ_=>rfl⟩;rw[arZ] at i2;rw[aoO,anF,arZ];omega
  ·rw[h];refine⟨om,?_,λh=>absurd h dc⟩;rw[show t+1+1 - (1+Cn.sum (Cn.cnt s) (Cn.kids d))=t+1 - Cn.sum (Cn.cnt s) (Cn.kids d) by omega,aqV];omega
def Cn.over (Sy:List Nat)(f:Nat->Nat):Nat:=(Sy.map f).sum
theorem Cn.gH (s:Nat)(Sy:List Nat)(f:Nat->Nat):Cn.over (s::Sy) f=f s+Cn.over Sy f:=rfl
theorem Cn.FX (f g:Nat->Nat):∀Sy:List Nat,Cn.over Sy (λs=>f s+g s)=Cn.over Sy f+Cn.over Sy g
|[]=>rfl
|s::Sy=>by rw[Cn.gH,Cn.gH,Cn.gH,Cn.FX f g Sy];omega
theorem Cn.KH (f:Nat->Nat)(k:Nat):∀Sy:List Nat,Cn.over Sy (λs=>f s*k)=Cn.over Sy f*k
|[]=>by simp[Cn.over]
|s::Sy=>by rw[Cn.gH,Cn.gH,Cn.KH f k Sy,aoA]
theorem Cn.zU {f g:Nat->Nat}:∀{Sy:List Nat},(∀s∈Sy,f s=g s)->Cn.over Sy f=Cn.over Sy g
|[],_=>rfl
|s::Sy,h=>by rw[Cn.gH,Cn.gH,h s (amV ..),Cn.zU λx a=>h x (amG _ a)]
theorem Cn.Hp {f:Nat->Nat}(h:∀s∈Sy,f s=0):Cn.over Sy f=0:=by
 rw[Cn.zU h]
 induction Sy with
|nil=>rfl
|cons s Sy a=>rw[Cn.gH,a λx b=>h x (amG _ b)]
theorem Cn.Je (k:Nat):∀Sy:List Nat,Cn.over Sy (λ_=>k)=Sy.length*k
|[]=>by simp[Cn.over]
|s::Sy=>by rw[Cn.gH,Cn.Je k Sy,amC,anS];omega
theorem Cn.TI (a:Sy.Nodup){w:Nat}(b:t∈Sy):Cn.over Sy (λs=>Cn.top s (.leaf w t))=1:=by
 induction Sy with
|nil=>cases b
|cons s Sy c=>
  rw[arV] at a;rw[Cn.gH];by_cases h:t=s
  ·subst h;rw[Cn.Hp λu hu=>?_]
   ·simp[Cn.top]
   ·simp only[Cn.top];rw[alG (λe=>a.1 (by rw[e];exact hu))]
  ·rw[c a.2 ((alN.1 b).resolve_left h)];simp[Cn.top,h]
def Cn.leaves (d:List Cn):Nat:=(d.filter Cn.kU).length
theorem Cn.Ki {L:List Cn}{Sy:List Nat}(hL:Cn.Lv L Sy):∀{d:List Cn},(∀x∈d,x∈L∨x.kU=au)->Cn.over Sy (λs=>Cn.sum (Cn.top s) d)=Cn.leaves d
|[],_=>Cn.Hp λ_ _=>rfl
|c::d,hm=>by
  have g:=Cn.Ki hL (d:=d) λx i=>hm x (amG _ i);have e:(λs=>Cn.sum (Cn.top s) (c::d))=λs=>Cn.top s c+Cn.sum (Cn.top s) d:=rfl;rw[e,Cn.FX,g];unfold Cn.leaves;rw[aqZ];cases c with
 |leaf w t=>
   obtain⟨w',l,h,_,j⟩:=hL.leaf _ ((hm _ (amV ..)).resolve_right (by simp[Cn.kU]))
   injection h with _ k
   subst k;rw[Cn.TI hL.nodupS j];simp only[Cn.kU,if_true,amC];omega
 |node a b=>
   rw[Cn.Hp (f:=λs=>Cn.top s (.node a b)) λ_ _=>rfl];simp[Cn.kU]
theorem Cn.qP:∀d:List Cn,(Cn.kids d).length+2*Cn.leaves d=2*d.length
|[]=>rfl
|c::d=>by
  have f:=Cn.qP d;have e:Cn.kids (c::d)=c.Ab++Cn.kids d:=by unfold Cn.kids;rw[anW]
  unfold Cn.leaves at f ⊢;rw[e,alI,aqZ,amC];cases c with
 |leaf w t=>simp only[Cn.kU,if_true,amC,Cn.Ab,apD];omega
 |node a b=>simp only[Cn.kU,apT,if_false,Cn.Ab,amC,apD];omega
theorem Cn.Row.worth {L:List Cn}(hL:Cn.Lv L Sy){r:List Cn}(h:Cn.Row L t r):∀(d:List Cn),d.Nodup->(∀x∈d,x∈r)->Cn.low d r->Cn.over Sy (λs=>Cn.val s t d)=d.length*2 ^ t:=by
 induction h with
|zero f hp=>
  intro d g hm i;have a:∀x∈d,x.kU=true:=λx b=>by
   obtain⟨w,s,rfl,_⟩:=hL.leaf x (hp.mem_iff.1 (hm x b));rfl
  show Cn.over Sy (λs=>Cn.sum (Cn.top s) d)=_;rw[Cn.Ki hL λx b=>.inl (hp.mem_iff.1 (hm x b))];have:=Cn.qP d;rw[Cn.LI a] at this;simp only[apD] at this;omega
|@succ t q r e f hp j=>
  intro d g hm i;have c:Cn.Row L (t+1) r:=.succ e f hp;obtain⟨k,l,m⟩:=Cn.Row.down hL e e.sorted hp g hm i;have n:=j (Cn.kids d) k l m;show Cn.over Sy (λs=>Cn.sum (Cn.top s) d*2 ^ (t+1)+Cn.val s t (Cn.kids d))=_;rw[Cn.FX,Cn.KH,n,Cn.Ki hL λx b=>(c.nodup hL).2 x (hm x b)];have o:=Cn.qP d;have p:Cn.leaves d*2 ^ (t+1)=2*Cn.leaves d*2 ^ t:=by rw[anL,aoD (2 ^ t) 2,<-aqL,aoD (Cn.leaves d) 2]
  have u:d.length*2 ^ (t+1)=2*d.length*2 ^ t:=by rw[anL,aoD (2 ^ t) 2,<-aqL,aoD d.length 2]
  rw[p,u,<-aoA,<-o]
  congr 1
  omega
theorem Cn.Row.len {L:List Cn}{r:List Cn}(h:Cn.Row L t r):∀k,L.length<=k*2 ^ t->2*L.length<=r.length+k:=by
 induction h with
|zero _ hp=>
  intro k a;rw[hp.length_eq];omega
|@succ t q r c _ hp b=>
  intro k a;have d:=b (2*k) (by rw[anL] at a;rw[aoD 2 k,aqL,aoD 2];exact a);rw[hp.length_eq,alI,Cn.CK];omega
theorem Cn.Row.lt {L:List Cn}{r:List Cn}(h:Cn.Row L t r)(a:0 < L.length):r.length < 2*L.length:=by
 induction h with
|zero _ hp=>rw[hp.length_eq];omega
|@succ t q r b _ hp c=>
  rw[hp.length_eq,alI,Cn.CK];omega
theorem Cn.PN {r:List Cn}(h:Cn.sorted r)(n:Nat):Cn.low (r.take n) r:=by
 intro x d y e f;have c:y∈r.drop n:=by
  have:y∈r.take n++r.drop n:=by rw[amX];exact e
  exact (amK.1 this).resolve_left f
 have g:(r.take n++r.drop n).Pairwise λa b=>a.wt<=b.wt:=by rw[amX];exact h
 exact (apM.1 g).2.2 x d y c
theorem Cn.Row.code {L:List Cn}(hL:Cn.Lv L Sy){r:List Cn}(h:Cn.Row L m r)(n:2<=L.length)(o:L.length<=2 ^ (m+1)) :
  2*L.length - 2<=r.length∧(∀s∈Sy,1<=Cn.sum (Cn.cnt s) (r.take (2*L.length - 2))∧Cn.sum (Cn.cnt s) (r.take (2*L.length - 2))<=m+1) ∧
   Cn.over Sy (λs=>2 ^ (m+1 - Cn.sum (Cn.cnt s) (r.take (2*L.length - 2))))=2 ^ (m+1):=by
 have hle:=h.len 2 (by rw[anL] at o;omega);have f:(r.take (2*L.length - 2)).Nodup:=(asN _ _).nodup (h.nodup hL).1;have hm:∀x∈r.take (2*L.length - 2),x∈r:=λx p=>anT p;have b:=Cn.PN h.sorted (2*L.length - 2);have c:=h.levels hL _ f hm b;have hw:=h.worth hL _ f hm b;rw[alR,amQ om] at hw;generalize z:r.take (2*L.length - 2)=d at f hm b c hw ⊢;have e:Cn.over Sy (λs=>Cn.val s m d+2 ^ (m+1 - Cn.sum (Cn.cnt s) d))=Sy.length*2 ^ (m+1):=by
  rw[Cn.zU λs _=>(c s).2.1,Cn.Je]
 rw[Cn.FX,hw,<-hL.len] at e;have A:(2*L.length - 2)*2 ^ m=(L.length - 1)*2 ^ (m+1):=by
  rw[anL,aoD (2 ^ m) 2,<-aqL]
  congr 1
  omega
 have B:L.length*2 ^ (m+1)=(L.length - 1)*2 ^ (m+1)+2 ^ (m+1):=by
  conv=>lhs;rw[show L.length=L.length - 1+1 by omega,anS]
 have q:Cn.over Sy (λs=>2 ^ (m+1 - Cn.sum (Cn.cnt s) d))=2 ^ (m+1):=om
 refine⟨om,λs v=>⟨?_,(c s).1⟩,q⟩
 -- a symbol aQ a j g fill w sum alone
 rcases anU (Cn.sum (Cn.cnt s) d) with i|i
 ·exfalso;have hlen:2<=Sy.length:=by rw[<-hL.len];exact n
  have key:∀(l:List Nat),s∈l->2<=l.length->2 ^ (m+1) < Cn.over l (λs=>2 ^ (m+1 - Cn.sum (Cn.cnt s) d)):=by
   intro l k y;have hp:=(atY k).map λs=>2 ^ (m+1 - Cn.sum (Cn.cnt s) d);have hp:=hp.sum_nat;have hlen:=(atY k).length_eq;unfold Cn.over;rw[hp,anE,aqA,i,arZ];cases he:l.erase s with
  |nil=>rw[he] at hlen;simp at hlen;omega
  |cons u t=>
    rw[anE,aqA];have:=asJ (m+1 - Cn.sum (Cn.cnt u) d);omega
  have:=key Sy v hlen;omega
 ·exact i
theorem Cn.Row.none {L:List Cn}(hL:Cn.Lv L Sy){s:Nat}(d:s ∉ Sy){r:List Cn}(h:Cn.Row L t r):∀x∈r,Cn.cnt s x=0:=by
 induction h with
|zero _ hp=>
  intro x c;obtain⟨w,u,rfl,_,hu⟩:=hL.leaf x (hp.mem_iff.1 c);simp only[Cn.cnt];rw[alG (λe=>d (by rw[<-e];exact hu))]
|succ j _ hp f=>
  intro x c;rcases amK.1 (hp.mem_iff.1 c) with h|h
  ·obtain⟨w,u,rfl,_,hu⟩:=hL.leaf x h;simp only[Cn.cnt];rw[alG (λe=>d (by rw[<-e];exact hu))]
  ·obtain⟨a,b,rfl,g,i⟩:=Cn.fQ h;show Cn.cnt s a+Cn.cnt s b=0;rw[f a g,f b i]
structure Df.LK (counts lens:List Nat) (most:Nat):Prop where
 len:lens.length=counts.length
 le:∀x∈lens,x<=most
 chk:bh lens=0
 pos:∀i,0 < counts.getD i 0->0 < lens.getD i 0
def da (counts:List Nat):List Nat:=(List.range counts.length).filter λi=>ai (0 < counts.getD i 0)
theorem ke {s:Nat}:s∈da counts↔0 < counts.getD s 0:=by
 unfold da;rw[List.mem_filter,anJ,amU];refine⟨λh=>h.2,λh=>⟨?_,h⟩⟩;rcases amL s counts.length with a|a
 ·exact a
 ·rw[alO,anY a] at h;exact absurd h (aqG _)
theorem vj (counts:List Nat):(da counts).Nodup:=List.nodup_range.filter _
def kg (counts:List Nat):List Cn:=(da counts).map λs=>.leaf (counts.getD s 0) s
theorem vm (counts:List Nat):Cn.Lv (kg counts) (da counts) where
 leaf:=λx g=>by
  obtain⟨s,c,rfl⟩:=amM.1 g;exact⟨_,_,rfl,ke.1 c,c⟩
 has:=λs c=>⟨_,amM.2 ⟨s,c,rfl⟩⟩
 uniq:=λw v s i j=>by
  obtain⟨a,_,d⟩:=amM.1 i;obtain⟨b,_,f⟩:=amM.1 j
  injection d with d k
  injection f with f l
  rw[<-d,<-f,k,l]
 nodup:=by
  unfold kg;rw[List.nodup_iff_pairwise_ne,List.pairwise_map];refine (List.nodup_iff_pairwise_ne.1 (vj counts)).imp λh e=>?_
  injection e with _ e
  exact h e
 nodupS:=vj counts
 len:=by unfold kg;rw[amT]
theorem vo (f:Nat->Nat):∀(l:List Nat),((l.map f).map λx=>if x=0 then 0 else 2 ^ (15 - x)).sum=Cn.over (l.filter λs=>ai (0 < f s)) (λs=>2 ^ (15 - f s))
|[]=>rfl
|s::l=>by
  have a:=vo f l;rw[anE,anE,aqA,a,aqZ];by_cases h:0 < f s
  ·rw[alG om,alH (by simpa using h),Cn.gH]
  ·rw[alH om,alG (by simpa using h),alU]
theorem E0 {lens:List Nat}{r:List Cn}(hm:m < 15)(h:Cn.Row (kg counts) m r)(n:2<=(da counts).length)(o:(da counts).length<=2 ^ (m+1))(u:counts.length<=288)(p:lens.length=counts.length)
  (f:∀s,s < counts.length->lens.getD s 0=Cn.sum (Cn.cnt s) (r.take (2*(da counts).length - 2))):Df.LK counts lens (m+1):=by
 have hL:=vm counts;rw[<-hL.len] at n o f;obtain⟨v,k,c3⟩:=h.code hL n o;have j:∀{s},0 < counts.getD s 0->s < counts.length:=λ{s} h=>by
  rcases amL s counts.length with l|l
  ·exact l
  ·rw[alO,anY l] at h;exact absurd h (aqG _)
 have c:∀i,0 < counts.getD i 0->0 < lens.getD i 0:=λi hi=>by
  rw[f i (j hi)];exact (k i (ke.2 hi)).1
 have hzero:∀i,i < counts.length->¬0 < counts.getD i 0->lens.getD i 0=0:=λi hi b=>by
  rw[f i hi];exact Cn.Kr λx d=>h.none hL (λhm=>b (ke.1 hm)) x (anT d)
 have a:lens=(List.range counts.length).map λi=>lens.getD i 0:=by rw[<-p];exact (rj lens).symm
 have hle:∀x∈lens,x<=m+1:=by
  intro x d;rw[a] at d;obtain⟨i,hi,rfl⟩:=amM.1 d;have hi:=anJ.1 hi;by_cases b:0 < counts.getD i 0
  ·rw[f i hi];exact (k i (ke.2 b)).2
  ·rw[hzero i hi b];exact amN _
 have q:lu lens=2 ^ 15:=by
  unfold lu;rw[a,vo];have t:((List.range counts.length).filter λs=>ai (0 < lens.getD s 0))=da counts:=by
   unfold da;refine List.filter_congr λs e=>?_;have e:=anJ.1 e;by_cases b:0 < counts.getD s 0
   ·rw[alM b,alM (c s b)]
   ·rw[alJ b,alJ (by rw[hzero s e b];omega)]
  rw[t,Cn.zU (g:=λs=>2 ^ (m+1 - Cn.sum (Cn.cnt s) (r.take (2*(kg counts).length - 2)))*2 ^ (15 - (m+1))) λs e=>?_,Cn.KH,c3,<-Nat.pow_add,show m+1+(15 - (m+1))=15 by omega];have:=(k s e).2;rw[f s (j (ke.1 e)),<-Nat.pow_add]
  congr 1
  omega
 refine⟨p,hle,?_,c⟩;unfold bh;rw[alG om];unfold Fl.check;rw[<-ry λx d=>by have:=hle x d;omega,q,alH (.inl rfl)]
theorem vq {lens:List Nat}(h:∀x∈lens,x=0):∀m,Fl.bD lens m=0
|0=>rfl
|m+1=>by
  rw[Fl.bD,vq h m,List.count_eq_zero_of_not_mem λhm=>by have:=h _ hm;omega]
theorem F0 (b:counts.length<=288)(h:da counts=[])(most:Nat):Df.LK counts (List.replicate counts.length 0) most where
 len:=amY
 le:=λx a=>by rw[aoV a];exact amN _
 chk:=by
  unfold bh;rw[amY,alG om];unfold Fl.check;rw[alH (.inr (.inl (vq (λx a=>aoV a) 15)))]
 pos:=λi hi=>by
  have:=ke.2 hi;rw[h] at this;cases this
theorem G0 (o:counts.length<=288){s:Nat}(h:da counts=[s])(hm:1<=most):Df.LK counts ((List.replicate counts.length 0).set s 1) most:=by
 have d:0 < counts.getD s 0:=ke.1 (by rw[h];exact atC s);have b:s < counts.length:=by
  rcases amL s counts.length with c|c
  ·exact c
  ·rw[alO,anY c] at d;exact absurd d (aqG _)
 have e:(List.replicate counts.length 0).set s 1=List.replicate s 0++1::List.replicate (counts.length - s - 1) 0:=by
  conv=>lhs;rw[show counts.length=s+((counts.length - s - 1)+1) by omega,<-List.replicate_append_replicate,aqF _ _ sm,amY,aoH,asH,aoC]
 have a:∀l,0 < l->((List.replicate counts.length 0).set s 1).count l=if l=1 then 1 else 0:=by
  intro l p;rw[e,apW,List.count_cons,atZ,atZ];by_cases f:l=1
  ·subst f;simp
  ·have g:(1==l)=false:=by simp;omega
   have j:(0==l)=false:=by simp;omega
   rw[g,j];simp[f]
 have hu:∀m,Fl.bD ((List.replicate counts.length 0).set s 1) (m+1)=1:=by
  intro m
  induction m with
 |zero=>rw[Fl.bD,Fl.bD,a _ om];rfl
 |succ m k=>rw[Fl.bD,k,a _ om,alG om]
 refine⟨sm,λx n=>?_,?_,λi hi=>?_⟩
 ·rcases arP n with h|h
  ·rw[aoV h];omega
  ·omega
 ·unfold bh;rw[anZ,amY,alG om];unfold Fl.check;rw[alH (.inr (.inr ⟨hu 14,by rw[a 1 dc];rfl⟩))]
 ·have:=ke.2 hi;rw[h] at this;rw[amH.1 this,alO,aoS (by simpa using b)]
  decide
theorem nt (a:List Nat)(k:Nat){l:Nat}(c:0 < l):(a++List.replicate k 0).count l=a.count l:=by
 rw[apW,atZ];have b:(0==l)=false:=by simp;omega
 rw[b];simp
theorem vt (a:List Nat)(k:Nat):∀m,Fl.gD (a++List.replicate k 0) m=Fl.gD a m
|0=>rfl
|m+1=>by rw[Fl.gD,Fl.gD,vt a k m,nt a k om]
theorem vu (a:List Nat)(k:Nat):∀m,Fl.bD (a++List.replicate k 0) m=Fl.bD a m
|0=>rfl
|m+1=>by rw[Fl.bD,Fl.bD,vu a k m,nt a k om]
theorem vv (a:List Nat)(k:Nat):∀m,Fl.first (a++List.replicate k 0) m=Fl.first a m
|0=>rfl
|1=>rfl
|m+2=>by rw[Fl.first,Fl.first,vv a k (m+1),nt a k om]
theorem vw {a:List Nat}{k:Nat}(h:bh (a++List.replicate k 0)=0):bh a=0:=by
 unfold bh at h ⊢;split at h
 ·cases h
 ·rename_i b
  rw[alI] at b;rw[alG om];unfold Fl.check at h ⊢;rw[vt,vu,nt a k dc] at h;exact h
theorem nu (a:List Nat)(k i:Nat):(a++List.replicate k 0).getD i 0=a.getD i 0:=by
 rw[alO,alO];rcases amL i a.length with h|h
 ·rw[anV h]
 ·rw[aoB h,anY (l:=a) h,arO];split<;>rfl
theorem vx (a:List Nat)(k i:Nat):dh (a++List.replicate k 0) i=dh a i:=by
 unfold dh;rw[nu];by_cases b:a.getD i 0=0
 ·rw[b];rfl
 ·congr 1
  unfold cg;rw[nu,alG b,alG b,vv];have hi:i < a.length:=by
   rcases amL i a.length with h|h
   ·exact h
   ·rw[alO,anY h] at b;exact absurd rfl b
  rw[asO om]
theorem H0 (a b:List Nat)(k j:Nat)(x:bj):ei (a++List.replicate k 0) (b++List.replicate j 0) x=ei a b x:=by
 unfold ei;simp only[vx]
theorem IN (a b:List Nat)(k j:Nat)(l:List bj):cy (a++List.replicate k 0) (b++List.replicate j 0) l=cy a b l:=by
 unfold cy;rw[vx]
 congr 1
 induction l with
|nil=>rfl
|cons x l c=>rw[anW,anW,c,H0]
theorem vy {n:Nat}(c:n<=l.length)(h:∀j,n<=j->l.getD j 0=0):l=l.take n++List.replicate (l.length - n) 0:=by
 refine asX (by simp;omega) λi b d=>?_;rcases amL i n with a|a
 ·rw[List.getElem_append_left (by simp;omega),arI]
 ·have:=h i a;rw[alO,alT b] at this;rw[atW (by simp;omega),List.getElem_replicate];exact this
section
namespace Srt
section
variable {α:Type}(d:α)(wt:α->Nat)
def sw (xs:List α)(i j:Nat):List α:=(xs.set i (xs.getD j d)).set j (xs.getD i d)
def lt (x y:α):Bool:=ai (wt x < wt y)
def insJ (a:Nat):Nat->List α->List α
|0,xs=>xs
|j+1,xs=>if a < j+1∧lt wt (xs.getD (j+1) d) (xs.getD j d)=av then insJ a j (sw d xs (j+1) j) else xs
def insI (a:Nat):Nat->Nat->List α->List α
|0,_,xs=>xs
|n+1,i,xs=>insI a n (i+1) (insJ d wt a i xs)
def ins (xs:List α)(a b:Nat):List α:=insI d wt a (b - (a+1)) (a+1) xs
def swr:Nat->Nat->Nat->List α->List α
|0,_,_,xs=>xs
|n+1,a,b,xs=>swr n (a+1) (b+1) (sw d xs a b)
def rot:Nat->Nat->Nat->Nat->List α->List α
|0,_,_,_,xs=>xs
|f+1,i,j,m,xs=>if i=j then swr d i (m - i) m xs else if j < i then rot f (i - j) j m (swr d j (m - i) m xs) else rot f i (j - i) m (swr d i (m - i) (m+j - i) xs)
def bs (p:Nat->Bool):Nat->Nat->Nat->Nat
|0,i,_=>i
|f+1,i,j=>if i < j then (if p ((i+j) / 2)=av then bs p f i ((i+j) / 2) else bs p f ((i+j) / 2+1) j) else i
def up:Nat->Nat->List α->List α
|0,_,xs=>xs
|n+1,k,xs=>up n (k+1) (sw d xs k (k+1))
def down:Nat->Nat->List α->List α
|0,_,xs=>xs
|n+1,k,xs=>down n (k - 1) (sw d xs k (k - 1))
def symS (xs:List α)(a m b:Nat):Nat:=bs (λc=>lt wt (xs.getD ((a+b) / 2+m - 1 - c) d) (xs.getD c d)) (b - a) (if (a+b) / 2 < m then (a+b) / 2+m - b else a) (if (a+b) / 2 < m then (a+b) / 2 else m)
def sym:Nat->Nat->Nat->Nat->List α->List α
|0,_,_,_,xs=>xs
|f+1,a,m,b,xs=>
  if m - a=1 then up d (bs (λh=>!lt wt (xs.getD h d) (xs.getD a d)) (b - m) m b - 1 - a) a xs
  else if b - m=1 then down d (m - bs (λh=>lt wt (xs.getD m d) (xs.getD h d)) (m - a) a m) m xs
  else
   let c:=(a+b) / 2
   let s:=symS d wt xs a m b
   let e:=c+m - s
   let g:=if s < m∧m < e then rot d (e - s) (m - s) (e - m) m xs else xs
   let i:=if a < s∧s < c then sym f a s c g else g
   if c < e∧e < b then sym f c e b i else i
def blk (n:Nat):Nat->Nat->List α->List α
|0,_,xs=>xs
|f+1,a,xs=>if a+n<=xs.length then blk n f (a+n) (ins d wt xs a (a+n)) else ins d wt xs a xs.length
def mrg (n:Nat):Nat->Nat->List α->List α
|0,_,xs=>xs
|f+1,a,xs=>if a+2*n<=xs.length then mrg n f (a+2*n) (sym d wt (2*n) a (a+n) (a+2*n) xs) else if a+n < xs.length then sym d wt (xs.length - a) a (a+n) xs.length xs else xs
def rounds:Nat->Nat->List α->List α
|0,_,xs=>xs
|f+1,n,xs=>if n < xs.length then rounds f (2*n) (mrg d wt n (xs.length+1) 0 xs) else xs
def Ji (xs:List α):List α:=rounds d wt (xs.length+1) 20 (blk d wt 20 (xs.length+1) 0 xs)
end
section
variable {α:Type}{d:α}{wt:α->Nat}
theorem EK {xs:List α}:(sw d xs i j).length=xs.length:=by unfold sw;rw[anZ,anZ]
theorem PF {a:Nat}:∀(j:Nat) (xs:List α),(insJ d wt a j xs).length=xs.length
|0,_=>rfl
|j+1,xs=>by
  unfold insJ;split
  ·rw[PF j,EK]
  ·rfl
theorem P1 {a:Nat}:∀(n i:Nat) (xs:List α),(insI d wt a n i xs).length=xs.length
|0,_,_=>rfl
|n+1,i,xs=>by unfold insI;rw[P1 n,PF]
theorem TB {xs:List α}{a:Nat}:(ins d wt xs a b).length=xs.length:=P1 _ _ _
theorem Ea:∀(n a b:Nat) (xs:List α),(swr d n a b xs).length=xs.length
|0,_,_,_=>rfl
|n+1,a,b,xs=>by unfold swr;rw[Ea n,EK]
theorem KV:∀(f i j m:Nat) (xs:List α),(rot d f i j m xs).length=xs.length
|0,_,_,_,_=>rfl
|f+1,i,j,m,xs=>by
  unfold rot;split
  ·rw[Ea]
  ·split
   ·rw[KV f,Ea]
   ·rw[KV f,Ea]
theorem XZ:∀(n k:Nat) (xs:List α),(up d n k xs).length=xs.length
|0,_,_=>rfl
|n+1,k,xs=>by unfold up;rw[XZ n,EK]
theorem Qg:∀(n k:Nat) (xs:List α),(down d n k xs).length=xs.length
|0,_,_=>rfl
|n+1,k,xs=>by unfold down;rw[Qg n,EK]
theorem HF:∀(f a m b:Nat) (xs:List α),(sym d wt f a m b xs).length=xs.length
|0,_,_,_,_=>rfl
|f+1,a,m,b,xs=>by
  unfold sym;split
  ·rw[XZ]
  ·split
   ·rw[Qg]
   ·dsimp only;have e:(if symS d wt xs a m b < m∧m < (a+b) / 2+m - symS d wt xs a m b then rot d ((a+b) / 2+m - symS d wt xs a m b - symS d wt xs a m b) (m - symS d wt xs a m b) ((a+b) / 2+m - symS d wt xs a m b - m) m xs else xs).length=xs.length:=by
     split
     ·rw[KV]
     ·rfl
    generalize (if symS d wt xs a m b < m∧m < (a+b) / 2+m - symS d wt xs a m b then rot d ((a+b) / 2+m - symS d wt xs a m b - symS d wt xs a m b) (m - symS d wt xs a m b) ((a+b) / 2+m - symS d wt xs a m b - m) m xs else xs)=c at e ⊢;have g:(if a < symS d wt xs a m b∧symS d wt xs a m b < (a+b) / 2 then sym d wt f a (symS d wt xs a m b) ((a+b) / 2) c else c).length=xs.length:=by
     split
     ·rw[HF f,e]
     ·exact e
    generalize (if a < symS d wt xs a m b∧symS d wt xs a m b < (a+b) / 2 then sym d wt f a (symS d wt xs a m b) ((a+b) / 2) c else c)=h at g ⊢;split
    ·rw[HF f,g]
    ·exact g
theorem getD_at {P R:List α}{x:α}:(P++x::R).getD P.length d=x:=by
 rw[alO,aoB (alP _),aoH];rfl
theorem getD_in {P V R:List α}(hi:i < V.length):(P++(V++R)).getD (P.length+i) d=V.getD i d:=by
 rw[alO,aoB om,aqW,anV hi,alO]
theorem XS (P R Q:List α)(x y:α)(hi:i=P.length)(a:j=P.length+1+R.length):sw d (P++x::(R++y::Q)) i j=P++y::(R++x::Q):=by
 subst hi;subst a;have b:(P++x::(R++y::Q)).getD (P.length+1+R.length) d=y:=by
  rw[show P++x::(R++y::Q)=(P++x::R)++y::Q by simp,show P.length+1+R.length=(P++x::R).length by simp;omega];exact getD_at
 unfold sw;rw[b,getD_at,aqF _ _ (alP _),aoH,aoC,aqF _ _ om,show P.length+1+R.length - P.length=R.length+1 by omega,List.set_cons_succ,aqF _ _ (alP _),aoH,aoC]
theorem R8 (P R Q:List α)(x y:α)(hi:i=P.length)(a:j=P.length+1+R.length):sw d (P++x::(R++y::Q)) j i=P++y::(R++x::Q):=by
 subst hi;subst a;have b:(P++x::(R++y::Q)).getD (P.length+1+R.length) d=y:=by
  rw[show P++x::(R++y::Q)=(P++x::R)++y::Q by simp,show P.length+1+R.length=(P++x::R).length by simp;omega];exact getD_at
 unfold sw;rw[b,getD_at,aqF _ _ om,show P.length+1+R.length - P.length=R.length+1 by omega,List.set_cons_succ,aqF _ _ (alP _),aoH,aoC,aqF _ _ (alP _),aoH,aoC]
theorem Kj:∀(U V P R Q:List α) {a b:Nat},U.length=V.length->a=P.length->b=P.length+U.length+R.length->swr d U.length a b (P++(U++(R++(V++Q))))=P++(V++(R++(U++Q)))
|[],[],P,R,Q,a,b,_,_,_=>rfl
|u::U,v::V,P,R,Q,a,b,h,c,f=>by
  simp only[amC] at h f;show swr d U.length (a+1) (b+1) (sw d (P++(u::U++(R++(v::V++Q)))) a b)=_;have e:P++(u::U++(R++(v::V++Q)))=P++u::((U++R)++v::(V++Q)):=sm
  rw[e,XS P (U++R) (V++Q) u v c (by rw[alI];omega)];have g:P++v::((U++R)++u::(V++Q))=(P++[v])++(U++((R++[u])++(V++Q))):=sm
  rw[g,Kj U V (P++[v]) (R++[u]) Q om (by simp;omega) (by simp;omega)];simp
theorem NL:∀(f:Nat) (P U V Q:List α) {m:Nat},U.length+V.length<=f->0 < U.length->0 < V.length->m=P.length+U.length->rot d f U.length V.length m (P++(U++(V++Q)))=P++(V++(U++Q))
|0,_,U,V,_,_,h,p,_,_=>by omega
|f+1,P,U,V,Q,m,h,p,q,hm=>by
  unfold rot;by_cases k:U.length=V.length
  ·rw[alH k];exact Kj U V P [] Q k om (by simp;omega)
  rw[alG k];by_cases c:V.length < U.length
  ·rw[alH c];have n:U.take V.length++U.drop V.length=U:=amX ..
   have g:(U.take V.length).length=V.length:=by rw[alR];omega
   have j:(U.drop V.length).length=U.length - V.length:=alW;have e:=Kj (d:=d) (U.take V.length) V P (U.drop V.length) Q (a:=m - U.length) (b:=m) g om om;rw[g] at e;have l:P++(U.take V.length++(U.drop V.length++(V++Q)))=P++(U++(V++Q)):=by rw[<-alS (U.take V.length),n]
   rw[l] at e;rw[e];have i:=NL f (P++V) (U.drop V.length) (U.take V.length) Q (m:=m) om om om (by rw[alI];omega);rw[g,j] at i;rw[<-alS P,i,<-alS (U.take V.length),n,alS]
  ·rw[alG c];have o:V.take (V.length - U.length)++V.drop (V.length - U.length)=V:=amX ..
   have g:(V.take (V.length - U.length)).length=V.length - U.length:=by rw[alR];omega
   have j:(V.drop (V.length - U.length)).length=U.length:=by rw[alW];omega
   have e:=Kj (d:=d) U (V.drop (V.length - U.length)) P (V.take (V.length - U.length)) Q (a:=m - U.length) (b:=m+V.length - U.length) j.symm om om;have l:P++(U++(V.take (V.length - U.length)++(V.drop (V.length - U.length)++Q)))=P++(U++(V++Q)):=by rw[<-alS (V.take _),o]
   rw[l] at e;rw[e];have i:=NL f P (V.drop (V.length - U.length)) (V.take (V.length - U.length)) (U++Q) (m:=m) om om om om;rw[g,j] at i;rw[i,<-alS (V.take _),o]
theorem XL:∀(V P Q:List α) (u:α) {k:Nat},k=P.length->up d V.length k (P++u::(V++Q))=P++(V++u::Q)
|[],P,Q,u,k,_=>rfl
|v::V,P,Q,u,k,a=>by
  show up d V.length (k+1) (sw d (P++u::([]++v::(V++Q))) k (k+1))=_;rw[XS P [] (V++Q) u v a (by simp;omega)];have e:P++v::([]++u::(V++Q))=(P++[v])++u::(V++Q):=sm
  rw[e,XL V (P++[v]) Q u (by simp;omega)];simp
theorem Pf:∀(n:Nat) (V P Q:List α) (u:α) {k:Nat},V.length=n->k=P.length+n->down d n k (P++(V++u::Q))=P++u::(V++Q)
|0,V,P,Q,u,k,h,f=>by
  have:V=[]:=apB.1 h;subst this;rfl
|n+1,V,P,Q,u,k,h,f=>by
  have a:V≠[]:=λe=>by rw[e] at h;simp at h
  have b:=asY a;have c:V.dropLast.length=n:=by rw[auA];omega
  show down d n (k - 1) (sw d (P++(V++u::Q)) k (k - 1))=_;generalize V.getLast a=v at b;generalize V.dropLast=W at b c;subst b;have e:P++(W++[v]++u::Q)=(P++W)++v::([]++u::Q):=sm
  rw[e,R8 (P++W) [] Q v u (by rw[alI];omega) (by simp;omega)];have g:(P++W)++u::([]++v::Q)=P++(W++u::(v::Q)):=sm
  rw[g,Pf n W P (v::Q) u c om];simp
theorem Uk {p:Nat->Bool}:∀(f i j:Nat),j - i<=f->i<=j->(∀c e,i<=c->c<=e->e < j->p c=av->p e=av) ->
  i<=bs p f i j∧bs p f i j<=j∧(∀c,i<=c->c < bs p f i j->p c=au)∧(∀c,bs p f i j<=c->c < j->p c=av)
|0,i,j,o,k,_=>⟨alP _,k,λc g d=>absurd d (by unfold bs;omega),λc g d=>by unfold bs at g;omega⟩
|f+1,i,j,o,k,hm=>by
  unfold bs;by_cases h:i < j
  ·rw[alH h];by_cases hp:p ((i+j) / 2)=av
   ·rw[alH hp];obtain⟨a,b,c,e⟩:=Uk f i ((i+j) / 2) om om λc e g d n m=>hm c e g d om m;refine⟨a,om,c,λx g d=>?_⟩;rcases amL x ((i+j) / 2) with l|l
    ·exact e x g l
    ·exact hm _ x om l d hp
   ·rw[alG hp];obtain⟨a,b,c,e⟩:=Uk f ((i+j) / 2+1) j om om λc e g d n m=>hm c e om d n m;refine⟨om,b,λx g d=>?_,e⟩;rcases amL ((i+j) / 2) x with l|l
    ·exact c x om d
    ·cases q:p x with
    |false=>rfl
    |true=>exact absurd (hm x _ g l om q) hp
  ·rw[alG h];exact⟨alP _,k,λc g d=>by omega,λc g d=>by omega⟩
end
end Srt
end
section
namespace Srt
section
variable {α:Type}{d:α}{wt:α->Nat}
def srt (wt:α->Nat)(l:List α):Prop:=l.Pairwise λx y=>wt x<=wt y
theorem HX {A B:List α}(a:srt wt A)(b:srt wt B)(h:∀x∈A,∀y∈B,wt x<=wt y):srt wt (A++B):=apM.2 ⟨a,b,h⟩
theorem yH {V:List α}(h:srt wt V)(c:i<=j)(a:j < V.length):wt (V.getD i d)<=wt (V.getD j d):=by
 rw[alO,alO,alT a,alT om];rcases amL i j with b|b
 ·exact apZ.1 h i j om a b
 ·obtain rfl:i=j:=om
  exact alP _
theorem jO {V:List α}{P:α->Prop}{k:Nat}(h:∀i,i < k->i < V.length->P (V.getD i d)):∀x∈V.take k,P x:=by
 intro x a;obtain⟨i,hi,rfl⟩:=aoX a;rw[alR] at hi;have:=h i om om;rw[alO,alT om] at this;rw[arI];exact this
theorem KP {V:List α}{P:α->Prop}{k:Nat}(h:∀i,k<=i->i < V.length->P (V.getD i d)):∀x∈V.drop k,P x:=by
 intro x a;obtain⟨i,hi,rfl⟩:=aoX a;rw[alW] at hi;have:=h (k+i) om om;rw[alO,alT om] at this;rw[List.getElem_drop];exact this
theorem zM {V:List α}(h:srt wt V)(k:Nat):srt wt (V.take k):=List.Pairwise.sublist (asN k V) h
theorem CV {V:List α}(h:srt wt V)(k:Nat):srt wt (V.drop k):=List.Pairwise.sublist (List.drop_sublist k V) h
theorem J8 {P U R:List α}{c:Nat}(a:P.length<=c)(b:c < P.length+U.length):(P++(U++R)).getD c d=U.getD (c - P.length) d:=by
 have:=getD_in (d:=d) (P:=P) (V:=U) (R:=R) (i:=c - P.length) om;rw[show P.length+(c - P.length)=c by omega] at this;exact this
theorem Cv {P U V R:List α}{c:Nat}(a:P.length+U.length<=c)(b:c < P.length+U.length+V.length):(P++(U++(V++R))).getD c d=V.getD (c - (P.length+U.length)) d:=by
 rw[<-alS P,J8 (by rw[alI];exact a) (by rw[alI];exact b),alI]
theorem aaD (P V Q:List α)(u:α)(f:Nat)(g:srt wt V){a:Nat}(t:a=P.length)(hm:m=P.length+1)(E:b=m+V.length) :
  ∃W,sym d wt (f+1) a m b (P++u::(V++Q))=P++(W++Q)∧W.Perm (u::V)∧srt wt W:=by
 have l:∀c,m<=c->c < b->(P++u::(V++Q)).getD c d=V.getD (c - m) d:=λc n o=>by
  have:=Cv (d:=d) (P:=P) (U:=[u]) (V:=V) (R:=Q) (c:=c) (by simp;omega) (by simp;omega);rw[show P++u::(V++Q)=P++([u]++(V++Q)) by simp,this]
  congr 1
  simp;omega
 have hu:(P++u::(V++Q)).getD a d=u:=by rw[t];exact getD_at
 unfold sym;rw[alH om];obtain⟨s1,s2,v,w⟩:=Uk (p:=λh=>!lt wt ((P++u::(V++Q)).getD h d) ((P++u::(V++Q)).getD a d)) (b - m) m b om om (by
  intro c e n o A B;simp only[l c n om,l e om A,hu,lt,aqQ,apG] at B ⊢;have:=yH (d:=d) g (i:=c - m) (j:=e - m) om om;omega)
 generalize bs (λh=>!lt wt ((P++u::(V++Q)).getD h d) ((P++u::(V++Q)).getD a d)) (b - m) m b=s at s1 s2 v w ⊢;have C:(V.take (s - m)).length=s - m:=by rw[alR];omega
 have e:=XL (d:=d) (V.take (s - m)) P (V.drop (s - m)++Q) u (k:=a) t;rw[<-alS (V.take (s - m)),amX,C] at e;rw[show s - 1 - a=s - m by omega,e];refine⟨V.take (s - m)++u::V.drop (s - m),sm,?_,?_⟩
 ·have h:(V.take (s - m)++u::V.drop (s - m)).Perm (u::(V.take (s - m)++V.drop (s - m))):=List.perm_middle
  rwa [amX] at h
 ·refine HX (zM g _) (aoG.2 ⟨?_,CV g _⟩) ?_
  ·refine KP (d:=d) (P:=λy=>wt u<=wt y) λi n o=>?_;have:=w (i+m) om om;simp only[l (i+m) om om,hu,lt,aqQ,apG] at this;rw[apV] at this;omega
  ·intro x z y q;have D:wt x < wt u:=jO (d:=d) (P:=λy=>wt y < wt u) (λi n o=>by
    have:=v (i+m) om om;simp only[l (i+m) om om,hu,lt,Bool.not_eq_false',amU] at this;rw[apV] at this;exact this) x z
   rcases alN.1 q with rfl|q
   ·omega
   ·have:=zM g V.length;have r:(V.take (s - m)++V.drop (s - m)).Pairwise λx y=>wt x<=wt y:=by rw[amX];exact g
    exact (apM.1 r).2.2 x z y q
theorem WW (P U Q:List α)(v:α)(f:Nat)(hu:srt wt U){a:Nat}(A:a=P.length)(hm:m=a+U.length)(F:b=m+1)(B:m - a≠1) :
  ∃W,sym d wt (f+1) a m b (P++(U++v::Q))=P++(W++Q)∧W.Perm (U++[v])∧srt wt W:=by
 have g:∀c,a<=c->c < m->(P++(U++v::Q)).getD c d=U.getD (c - a) d:=λc l n=>by
  rw[J8 om om,A]
 have o:(P++(U++v::Q)).getD m d=v:=by
  rw[<-alS,show m=(P++U).length by rw[alI];omega];exact getD_at
 unfold sym;rw[alG B,alH om];obtain⟨s1,s2,u,w⟩:=Uk (p:=λh=>lt wt ((P++(U++v::Q)).getD m d) ((P++(U++v::Q)).getD h d)) (m - a) a m om om (by
  intro c e l n C D;simp only[g c l om,g e om C,o,lt,amU] at D ⊢;have:=yH (d:=d) hu (i:=c - a) (j:=e - a) om om;omega)
 generalize bs (λh=>lt wt ((P++(U++v::Q)).getD m d) ((P++(U++v::Q)).getD h d)) (m - a) a m=s at s1 s2 u w ⊢;have G:(U.take (s - a)).length=s - a:=by rw[alR];omega
 have E:(U.drop (s - a)).length=m - s:=by rw[alW];omega
 have e:=Pf (d:=d) (m - s) (U.drop (s - a)) (P++U.take (s - a)) Q v (k:=m) E (by rw[alI];omega);rw[alS,<-alS (U.take (s - a)),amX] at e;rw[e];refine⟨U.take (s - a)++v::U.drop (s - a),sm,?_,?_⟩
 ·have h:(U.take (s - a)++v::U.drop (s - a)).Perm (v::(U.take (s - a)++U.drop (s - a))):=List.perm_middle;rw[amX] at h;exact h.trans (arH (l₁:=[v]) (l₂:=U))
 ·refine HX (zM hu _) (aoG.2 ⟨?_,CV hu _⟩) ?_
  ·refine KP (d:=d) (P:=λy=>wt v<=wt y) λi l n=>?_;have:=w (i+a) om om;simp only[g (i+a) om om,o,lt,amU] at this;rw[apV] at this;omega
  ·intro x z y q;have r:wt x<=wt v:=jO (d:=d) (P:=λy=>wt y<=wt v) (λi l n=>by
    have:=u (i+a) om om;simp only[g (i+a) om om,o,lt,apG] at this;rw[apV] at this;omega) x z
   rcases alN.1 q with rfl|q
   ·exact r
   ·have t:(U.take (s - a)++U.drop (s - a)).Pairwise λx y=>wt x<=wt y:=by rw[amX];exact hu
    exact (apM.1 t).2.2 x z y q
theorem OC:∀(f:Nat) (P U V Q:List α) {a m b:Nat},U.length+V.length<=f->0 < U.length->0 < V.length->srt wt U->srt wt V->a=P.length->m=a+U.length->b=m+V.length ->
  ∃W,sym d wt f a m b (P++(U++(V++Q)))=P++(W++Q)∧W.Perm (U++V)∧srt wt W
|0,P,U,V,Q,a,m,b,hf,hU,hV,_,_,_,_,_=>by omega
|f+1,P,U,V,Q,a,m,b,hf,hU,hV,r,t,D,hm,Z=>by
  by_cases L:U.length=1
  ·obtain⟨u,rfl⟩:=atD.1 L;exact aaD P V Q u f t D (by simp at hm;omega) Z
  by_cases B:V.length=1
  ·obtain⟨v,rfl⟩:=atD.1 B;exact WW P U Q v f r D hm (by simpa using Z) om
  unfold sym;rw[alG om,alG om];dsimp only;generalize E:(a+b) / 2=g;generalize w:(if g < m then g+m - b else a)=lo;generalize F:(if g < m then g else m)=hi;have a1:a<=lo∧g+m - b<=lo∧(lo=a∨lo=g+m - b):=by
   rw[<-w];split<;>omega
  have a6:hi<=m∧hi<=g∧lo<=hi∧(hi=m∨hi=g):=by
   rw[<-F,<-w];split<;>omega
  have gU:∀c,a<=c->c < m->(P++(U++(V++Q))).getD c d=U.getD (c - a) d:=λc L B=>by
   rw[J8 om om,D]
  have gV:∀c,m<=c->c < b->(P++(U++(V++Q))).getD c d=V.getD (c - m) d:=λc L B=>by
   rw[Cv om om,hm,D]
  have hp:∀c,lo<=c->c < hi->(lt wt ((P++(U++(V++Q))).getD (g+m - 1 - c) d) ((P++(U++(V++Q))).getD c d)=av↔wt (V.getD (g - 1 - c) d) < wt (U.getD (c - a) d)):=λc L B=>by
   rw[gU c om om,gV (g+m - 1 - c) om om,show g+m - 1 - c - m=g - 1 - c by omega];simp[lt]
  obtain⟨s1,s2,s3,s4⟩:=Uk (p:=λc=>lt wt ((P++(U++(V++Q))).getD (g+m - 1 - c) d) ((P++(U++(V++Q))).getD c d)) (b - a) lo hi om om (by
   intro c e k1 k2 k3 k4;have k4:=(hp c k1 om).1 k4;refine (hp e om k3).2 ?_;have M:=yH (d:=d) r (i:=c - a) (j:=e - a) om om;have C:=yH (d:=d) t (i:=g - 1 - e) (j:=g - 1 - c) om om;omega)
  have hs:symS d wt (P++(U++(V++Q))) a m b=bs (λc=>lt wt ((P++(U++(V++Q))).getD (g+m - 1 - c) d) ((P++(U++(V++Q))).getD c d)) (b - a) lo hi:=by
   unfold symS;rw[E,w,F]
  rw[hs];generalize bs (λc=>lt wt ((P++(U++(V++Q))).getD (g+m - 1 - c) d) ((P++(U++(V++Q))).getD c d)) (b - a) lo hi=s at s1 s2 s3 s4 ⊢;have N:U.take (s - a)++U.drop (s - a)=U:=amX ..
  have O:V.take (g - s)++V.drop (g - s)=V:=amX ..
  have a7:(U.take (s - a)).length=s - a:=by rw[alR];omega
  have T:(U.drop (s - a)).length=m - s:=by rw[alW];omega
  have X:(V.take (g - s)).length=g - s:=by rw[alR];omega
  have a8:(V.drop (g - s)).length=b - (g+m - s):=by rw[alW];omega
  have G:=zM r (s - a);have H:=CV r (s - a);have I:=zM t (g - s);have J:=CV t (g - s);have z:∀x∈U.take (s - a)++V.take (g - s),∀y∈U.drop (s - a)++V.drop (g - s),wt x<=wt y:=by
   have cU:(U.take (s - a)++U.drop (s - a)).Pairwise λx y=>wt x<=wt y:=by rw[N];exact r
   have cV:(V.take (g - s)++V.drop (g - s)).Pairwise λx y=>wt x<=wt y:=by rw[O];exact t
   intro x n y o;rcases amK.1 n with n|n<;>rcases amK.1 o with o|o
   ·exact (apM.1 cU).2.2 x n y o
   ·refine KP (d:=d) (P:=λy=>wt x<=wt y) (λj j1 j2=>?_) y o;refine jO (d:=d) (P:=λx=>wt x<=wt (V.getD j d)) (λi i1 i2=>?_) x n;rcases amL lo s with h|h
    ·have q:=s3 (s - 1) om om;have q:¬wt (V.getD (g - 1 - (s - 1)) d) < wt (U.getD (s - 1 - a) d):=λk=>by
      rw[(hp (s - 1) om om).2 k] at q;cases q
     have M:=yH (d:=d) r (i:=i) (j:=s - 1 - a) om om;have C:=yH (d:=d) t (i:=g - 1 - (s - 1)) (j:=j) om om;omega
    ·omega
   ·refine KP (d:=d) (P:=λy=>wt x<=wt y) (λj j1 j2=>?_) y o;refine jO (d:=d) (P:=λx=>wt x<=wt (U.getD j d)) (λi i1 i2=>?_) x n;rcases amL s hi with h|h
    ·have q:=(hp s om h).1 (s4 s (alP _) h);have M:=yH (d:=d) r (i:=s - a) (j:=j) om om;have C:=yH (d:=d) t (i:=i) (j:=g - 1 - s) om om;omega
    ·omega
   ·exact (apM.1 cV).2.2 x n y o
  have x1:(if s < m∧m < g+m - s then rot d (g+m - s - s) (m - s) (g+m - s - m) m (P++(U++(V++Q))) else P++(U++(V++Q)))=P++(U.take (s - a)++(V.take (g - s)++(U.drop (s - a)++(V.drop (g - s)++Q)))):=by
   by_cases h:s < m∧m < g+m - s
   ·rw[alH h];have e:=NL (d:=d) (g+m - s - s) (P++U.take (s - a)) (U.drop (s - a)) (V.take (g - s)) (V.drop (g - s)++Q) (m:=m) om om om (by rw[alI];omega);rw[T,X] at e;rw[show g+m - s - m=g - s by omega];have e1:P++U.take (s - a)++(U.drop (s - a)++(V.take (g - s)++(V.drop (g - s)++Q)))=P++(U++(V++Q)):=by
     rw[<-alS (V.take _),O,alS,<-alS (U.take _),N]
    rw[e1] at e;rw[e,alS]
   ·rw[alG h];have e0:P++(U++(V++Q))=P++((U.take (s - a)++U.drop (s - a))++((V.take (g - s)++V.drop (g - s))++Q)):=by rw[N,O]
    rw[e0];rcases (by omega:m - s=0∨g - s=0) with K|K
    ·have e:U.drop (s - a)=[]:=apB.1 om;rw[e];simp only[amE,amZ,alS]
    ·have e:V.take (g - s)=[]:=apB.1 om;rw[e];simp only[amE,amZ,alS]
  rw[x1];have x2:∃l,(if a < s∧s < g then sym d wt f a s g (P++(U.take (s - a)++(V.take (g - s)++(U.drop (s - a)++(V.drop (g - s)++Q))))) else P++(U.take (s - a)++(V.take (g - s)++(U.drop (s - a)++(V.drop (g - s)++Q)))))=P++(l++(U.drop (s - a)++(V.drop (g - s)++Q)))∧l.Perm (U.take (s - a)++V.take (g - s))∧srt wt l:=by
   by_cases h:a < s∧s < g
   ·rw[alH h];exact OC f P (U.take (s - a)) (V.take (g - s)) (U.drop (s - a)++(V.drop (g - s)++Q)) om om om G I D om om
   ·rw[alG h];refine⟨U.take (s - a)++V.take (g - s),sm,apX _,?_⟩;rcases (by omega:s - a=0∨g - s=0) with K|K
    ·have:U.take (s - a)=[]:=apB.1 om;rw[this];exact I
    ·have:V.take (g - s)=[]:=apB.1 om;rw[this,amE];exact G
  obtain⟨l,e2,Y,M⟩:=x2;rw[e2];have b0:l.length=g - a:=by rw[Y.length_eq,alI];omega
  have x3:∃A,(if g < g+m - s∧g+m - s < b then sym d wt f g (g+m - s) b (P++(l++(U.drop (s - a)++(V.drop (g - s)++Q)))) else P++(l++(U.drop (s - a)++(V.drop (g - s)++Q))))=P++(l++(A++Q))∧A.Perm (U.drop (s - a)++V.drop (g - s))∧srt wt A:=by
   by_cases h:g < g+m - s∧g+m - s < b
   ·rw[alH h];obtain⟨A,R,S,C⟩:=OC f (P++l) (U.drop (s - a)) (V.drop (g - s)) Q (a:=g) (m:=g+m - s) (b:=b) om om om H J (by rw[alI];omega) om om;rw[alS,alS] at R;exact⟨A,R,S,C⟩
   ·rw[alG h];refine⟨U.drop (s - a)++V.drop (g - s),sm,apX _,?_⟩;rcases (by omega:m - s=0∨b - (g+m - s)=0) with K|K
    ·have:U.drop (s - a)=[]:=apB.1 om;rw[this];exact J
    ·have:V.drop (g - s)=[]:=apB.1 om;rw[this,amE];exact H
  obtain⟨A,R,S,C⟩:=x3;refine⟨l++A,by rw[R,alS],?_,HX M C λx n y o=>z x (Y.mem_iff.1 n) y (S.mem_iff.1 o)⟩;have h:=Y.append S;refine h.trans ?_;have B:((U.take (s - a)++V.take (g - s))++(U.drop (s - a)++V.drop (g - s))).Perm ((U.take (s - a)++U.drop (s - a))++(V.take (g - s)++V.drop (g - s))):=by
   rw[alS,alS];refine auB _ ?_;rw[<-alS,<-alS];exact List.Perm.append_right _ arH
  rwa [N,O] at B
end
end Srt
end
section
namespace Srt
section
variable {α:Type}{d:α}{wt:α->Nat}
theorem UF (P:List α)(x:α):∀(n:Nat) (U R:List α),U.length=n->srt wt U->∃W,insJ d wt P.length (P.length+n) (P++(U++x::R))=P++(W++R)∧W.Perm (U++[x])∧srt wt W
|0,U,R,f,_=>by
  have:U=[]:=apB.1 f;subst this;refine⟨[x],?_,apX _,by unfold srt;simp⟩;show insJ d wt P.length P.length _=_;cases P with
 |nil=>rfl
 |cons p P=>
   show insJ d wt (P.length+1) (P.length+1) _=_;unfold insJ;rw[alG om];rfl
|n+1,U,R,f,g=>by
  have b:U≠[]:=λe=>by rw[e] at f;simp at f
  have i:=asY b;have k:U.dropLast.length=n:=by rw[auA];omega
  generalize U.getLast b=v at i;generalize U.dropLast=Y at i k;subst i;have e:P++(Y++[v]++x::R)=(P++Y)++v::([]++x::R):=sm
  have g1:(P++(Y++[v]++x::R)).getD (P.length+n) d=v:=by
   rw[e,show P.length+n=(P++Y).length by rw[alI];omega];exact getD_at
  have g2:(P++(Y++[v]++x::R)).getD (P.length+n+1) d=x:=by
   rw[show P++(Y++[v]++x::R)=(P++(Y++[v]))++x::R by simp,show P.length+n+1=(P++(Y++[v])).length by simp;omega];exact getD_at
  have m:srt wt Y:=(apM.1 g).1;have c:∀y∈Y,wt y<=wt v:=λy a=>(apM.1 g).2.2 y a v (atC v);show ∃W,insJ d wt P.length (P.length+n+1) _=_∧_;unfold insJ;rw[g1,g2];by_cases h:wt x < wt v
  ·rw[alH ⟨om,by simp[lt,h]⟩,e,R8 (P++Y) [] R v x (by rw[alI];omega) (by simp;omega)];have o:P++Y++x::([]++v::R)=P++(Y++x::(v::R)):=sm
   rw[o];obtain⟨W,q,l,r⟩:=UF P x n Y (v::R) k m;refine⟨W++[v],by rw[q];simp,?_,HX r (by unfold srt;simp) ?_⟩
   ·refine (l.append_right [v]).trans ?_;rw[alS,alS];exact auB _ (List.Perm.swap v x [])
   ·intro y a z j;rw[amH.1 j];rcases amK.1 (l.mem_iff.1 a) with a|a
    ·exact c y a
    ·rw[amH.1 a];omega
  ·rw[alG (by intro s;have:=s.2;simp[lt] at this;omega)];refine⟨Y++[v]++[x],sm,apX _,HX g (by unfold srt;simp) ?_⟩;intro y a z j;rw[amH.1 j];rcases amK.1 a with a|a
   ·have:=c y a;omega
   ·rw[amH.1 a];omega
theorem Uy (P:List α):∀(Y U R:List α) {i:Nat},i=P.length+U.length->srt wt U->∃W,insI d wt P.length Y.length i (P++(U++(Y++R)))=P++(W++R)∧W.Perm (U++Y)∧srt wt W
|[],U,R,i,_,a=>⟨U,rfl,by rw[amE],a⟩
|y::Y,U,R,i,hi,a=>by
  show ∃W,insI d wt P.length Y.length (i+1) (insJ d wt P.length i (P++(U++y::(Y++R))))=_∧_;subst hi;obtain⟨W,e,p,q⟩:=UF (d:=d) P y U.length U (Y++R) rfl a;rw[e];have g:W.length=U.length+1:=by rw[p.length_eq,alI];rfl
  obtain⟨Z,b,c,f⟩:=Uy P Y W R (i:=P.length+U.length+1) om q;refine⟨Z,b,c.trans ?_,f⟩;have:=p.append_right Y;simpa using this
theorem Yy (P Y R:List α){a:Nat}(e:a=P.length)(c:b=a+Y.length):∃W,ins d wt (P++(Y++R)) a b=P++(W++R)∧W.Perm Y∧srt wt W:=by
 subst e;unfold ins;cases Y with
|nil=>
  refine⟨[],?_,apX _,List.Pairwise.nil⟩;rw[show b - (P.length+1)=0 by simp at c;omega];rfl
|cons y Y=>
  have h:=Uy (d:=d) (wt:=wt) P Y [y] R (i:=P.length+1) sm (by unfold srt;simp);rw[show b - (P.length+1)=Y.length by simp at c;omega];exact h
def bks (wt:α->Nat)(n:Nat)(l:List α):Prop:=∀k,srt wt ((l.drop (k*n)).take n)
theorem Tf {l:List α}(h:srt wt l)(n:Nat):bks wt n l:=λk=>zM (CV h _) _
theorem O1 {W T:List α}{n:Nat}(b:srt wt W)(a:W.length=n)(c:bks wt n T):bks wt n (W++T):=by
 intro k;cases k with
|zero=>
  rw[aoO,aoL,<-a,List.take_left];exact b
|succ k=>
  rw[anS,arC,<-apN,<-a,List.drop_left,a];exact c k
theorem WA {l:List α}{n:Nat}(h:bks wt n l)(j:Nat):bks wt n (l.drop (j*n)):=by
 intro k;rw[apN,<-aoA];exact h _
theorem Yl {n:Nat}(i:0 < n):∀(f:Nat) (P T:List α) {a:Nat},T.length < f->a=P.length->∃T',blk d wt n f a (P++T)=P++T'∧T'.Perm T∧bks wt n T'
|0,_,_,_,h,_=>by omega
|f+1,P,T,a,r,c=>by
  unfold blk;rw[alI];by_cases h:a+n<=P.length+T.length
  ·rw[alH h];have g:T.take n++T.drop n=T:=amX ..
   have j:(T.take n).length=n:=by rw[alR];omega
   have s:(T.drop n).length=T.length - n:=alW;obtain⟨W,e,p,q⟩:=Yy (d:=d) (wt:=wt) P (T.take n) (T.drop n) (a:=a) (b:=a+n) c om;rw[g] at e;have k:W.length=n:=by rw[p.length_eq,j]
   obtain⟨T',l,m,o⟩:=Yl i f (P++W) (T.drop n) (a:=a+n) om (by rw[alI];omega);rw[e,<-alS,l];refine⟨W++T',by rw[alS],?_,O1 q k o⟩;have:=p.append m
   rwa [g] at this
  ·rw[alG h];obtain⟨W,e,p,q⟩:=Yy (d:=d) (wt:=wt) P T [] (a:=a) (b:=P.length+T.length) c om;rw[amE,amE] at e;exact⟨W,e,p,Tf q n⟩
theorem X6 {n:Nat}(r:0 < n):∀(f:Nat) (P T:List α) {a:Nat},T.length < f->a=P.length->bks wt n T->∃T',mrg d wt n f a (P++T)=P++T'∧T'.Perm T∧bks wt (2*n) T'
|0,_,_,_,h,_,_=>by omega
|f+1,P,T,a,w,l,j=>by
  unfold mrg;rw[alI];have c:srt wt (T.take n):=by have:=j 0;rwa [aoO,aoL] at this
  have k:srt wt ((T.drop n).take n):=by have:=j 1;rwa [aqV] at this
  have g:T.take n++T.drop n=T:=amX ..
  have x:(T.take n).length=min n T.length:=alR;have y:(T.drop n).length=T.length - n:=alW;by_cases h:a+2*n<=P.length+T.length
  ·rw[alH h];have i:(T.drop n).take n++T.drop (2*n)=T.drop n:=by rw[Nat.two_mul,<-apN];exact amX ..
   have z:((T.drop n).take n).length=n:=by rw[alR];omega
   have A:(T.drop (2*n)).length=T.length - 2*n:=alW;obtain⟨W,e,p,q⟩:=OC (d:=d) (wt:=wt) (2*n) P (T.take n) ((T.drop n).take n) (T.drop (2*n)) (a:=a) (m:=a+n) (b:=a+2*n) om om om c k l om om;rw[i,g] at e;have s:W.length=2*n:=by rw[p.length_eq,alI];omega
   obtain⟨T',t,u,v⟩:=X6 r f (P++W) (T.drop (2*n)) (a:=a+2*n) om (by rw[alI];omega) (WA j 2);rw[e,<-alS,t];refine⟨W++T',by rw[alS],?_,O1 q s v⟩;have:=p.append u;rw[alS,i,g] at this;exact this
  ·rw[alG h];by_cases o:a+n < P.length+T.length
   ·rw[alH o];have i:(T.drop n).take n=T.drop n:=amP om;rw[i] at k;obtain⟨W,e,p,q⟩:=OC (d:=d) (wt:=wt) (P.length+T.length - a) P (T.take n) (T.drop n) [] (a:=a) (m:=a+n) (b:=P.length+T.length) om om om c k l om om;rw[amE,amE,g] at e;rw[g] at p;exact⟨W,e,p,Tf q _⟩
   ·rw[alG o];rw[amP om] at c;exact⟨T,rfl,apX _,Tf c _⟩
theorem Mt:∀(f n:Nat) (xs:List α),0 < n->xs.length < f+n->bks wt n xs->(rounds d wt f n xs).Perm xs∧srt wt (rounds d wt f n xs)
|0,n,xs,b,g,h=>by
  have:=h 0;rw[aoO,aoL,amP om] at this;exact⟨apX _,this⟩
|f+1,n,xs,b,g,h=>by
  unfold rounds;by_cases c:n < xs.length
  ·rw[alH c];obtain⟨T',e,p,q⟩:=X6 (d:=d) b (xs.length+1) [] xs (a:=0) om rfl h;rw[amZ,amZ] at e;rw[e];have k:=p.length_eq;obtain⟨i,j⟩:=Mt f (2*n) T' om om q;exact⟨i.trans p,j⟩
  ·rw[alG c];have:=h 0;rw[aoO,aoL,amP om] at this;exact⟨apX _,this⟩
theorem U7 (d:α)(wt:α->Nat)(xs:List α):(Ji d wt xs).Perm xs∧srt wt (Ji d wt xs):=by
 unfold Ji;obtain⟨T',e,p,q⟩:=Yl (d:=d) (wt:=wt) (n:=20) dc (xs.length+1) [] xs (a:=0) om rfl;rw[amZ,amZ] at e;rw[e];have f:=p.length_eq;obtain⟨b,c⟩:=Mt (d:=d) (xs.length+1) 20 T' dc om q;exact⟨b.trans p,c⟩
end
end Srt
end
section
open Eng
def bV(t6 t25 t26 t27 w)(a:JT)(K:KT):=nz f350 175 [a] [nh 23 [6,27]] [] (zg [6,25,26,27] [t6,t25,t26,t27]) w K
def bW(t3 t11 w)(N1:JT)(K:KT):=nz f350 491 [N1] [nh 7 [3,11]] [] (zg [3,11] [t3,t11]) w K
def bS(t0 t3 t9 t10 t11 w)(N1:JT)(K:KT):=nz f350 43 [N1] [nh 7 [3,11],(16,[3],λs v j w f=>bW (vg v 0) (s 11) w (f 0) K),(23,[6,27],λs v j w f=>bV (vg v 0) (s 25) (s 26) (vg v 1) w (f 0) K)] [] (zg [0,3,9,10,11] [t0,t3,t9,t10,t11]) w K
def cD(t0 w)(K:KT):=nz f350 1 [] [(7,[3,11],λs v j w f=>bS (s 0) (vg v 0) (s 9) (s 10) (vg v 1) w (f 0) K)] [] (zg [0] [t0]) w K
theorem eA:cD t0 w k0->Calls ah 350 #[t0] w k0:=cz [(8,[3])] [(3,[3,11]),(11,[6,27])] func350
def cB(t0 w)(K:KT):=nz f360 15 [] [] [] (zg [0] [t0]) w K
def cE(t0 t1 w)(K:KT):=nz f360 7 [] [(12,[0],λs v j w f=>cB (vg v 0) w K)] [] (zg [0,1] [t0,t1]) w K
def cH(t0 t1 w)(K:KT):=nz f360 1 [] [(6,[],λs v j w f=>cE (s 0) (s 1) w K)] [] (zg [0,1] [t0,t1]) w K
theorem eF:cH t0 t1 w k0->Calls ah 360 #[t0,t1] w k0:=cz [(3,[]),(6,[0])] [] func360
def bP(t0 t1 w)(K:KT):=nz f351 1 [] [] [] (zg [0,1] [t0,t1]) w K
theorem dD:bP t0 t1 w k0->Calls ah 351 #[t0,t1] w k0:=cw func351
def cI(c d e f b w)(N1 H:JT)(K:KT):=
 QuietX w (λF=>QDo ah F (mBin .gtr 3 b d) λa=>GQ a av (λE=>E e) λg=>GQ a av (λE=>E c) λh=>GQ a av (λE=>E b) λi=>GQ a av (λE=>QDo ah F (mIA 341 h i) E) λj=>GQ a av (λE=>QDo ah F (aH 342 j) E) λk=>GQ a av (λE=>E c) λl=>GQ a av (λE=>E b) λm=>GQ a av (λE=>QDo ah F (mBin .sub 3 m (iN 1)) E) λn=>GQ a av (λE=>QDo ah F (mIA 341 l n) E) λo=>GQ a av (λE=>QDo ah F (aH 342 o) E) λp=>GQ a av (λE=>QDo ah F (fX g #[k,p]) E) λq=>GQ a av (λE=>QDo ah F (mBin .lss 3 q (iN 0)) E) λr=>QDo ah F (kH a r (.bool au)) λs=>
 ∀w,F w ->
 IfX s (QuietX w (λG=>PDo ah (mBin .sub 3 b (iN 1)) λt=>QDo ah G (mBin .sub 3 b (iN 1)) λu=>QDo ah G (mIA 341 c u) λv=>QDo ah G (aH 342 v) λx=>QDo ah G (mIA 341 c b) λy=>QDo ah G (aH 342 y) λz=>QDo ah G (mIA 341 c b) λA=>
 ∀w,G w ->
 DoX ah (aN 342 A x) w (ay 3 (pk K)) λ_ w=>DoX ah (mIA 341 c t) w (ay 3 (pk K)) λB w=>DoX ah (aN 342 B z) w (ay 3 (pk K)) λ_ w=>bnx .sub 3 b (iN 1) w K λC w=>H [C] w)) (bnx .add 3 f (iN 1) w K λD w=>N1 [D] w))
def cG(t0 t1 t2 t3 t8 w)(N1:JT)(K:KT):=nz f365 5 [N1] [nh 3 [8],(9,[9],λs v j w f=>cI (s 0) (s 1) (s 3) (s 8) (vg v 0) w (f 1) (f 0) K)] [] (zg [0,1,2,3,8] [t0,t1,t2,t3,t8]) w K
def cN(t0 t1 t2 t3 w)(K:KT):=nz f365 1 [] [(3,[8],λs v j w f=>cG (s 0) (s 1) (s 2) (s 3) (vg v 0) w (f 0) K)] [] (zg [0,1,2,3] [t0,t1,t2,t3]) w K
theorem eK:cN t0 t1 t2 t3 w k0->Calls ah 365 #[t0,t1,t2,t3] w k0:=cz [] [(1,[8]),(4,[9])] func365
def dJ(t0 t2 t4 t10 t11 w)(N1:JT)(K:KT):=nz f367 19 [N1] [nh 5 [10,11]] [] (zg [0,2,4,10,11] [t0,t2,t4,t10,t11]) w K
def dQ(t0 t1 t2 t3 t4 w)(K:KT):=nz f367 1 [] [(5,[10,11],λs v j w f=>dJ (s 0) (s 2) (s 4) (vg v 0) (vg v 1) w (f 0) K)] [] (zg [0,1,2,3,4] [t0,t1,t2,t3,t4]) w K
theorem fK:dQ t0 t1 t2 t3 t4 w k0->Calls ah 367 #[t0,t1,t2,t3,t4] w k0:=cz [] [(2,[10,11])] func367
def dI(t6 w)(a:JT)(K:KT):=nz f361 1007 [a] [nh 15 [6]] [] (zg [6] [t6]) w K
def dG(t0 t1 t2 t6 t7 t8 w)(a b:JT)(K:KT):=nz f361 623 [a,b] [nh 15 [6],nh 19 [7,8],(32,[],λs v j w f=>dI (s 6) w (f 0) K)] [] (zg [0,1,2,6,7,8] [t0,t1,t2,t6,t7,t8]) w K
def dF(t0 t1 t2 t6 w)(a:JT)(K:KT):=nz f361 47 [a] [nh 15 [6],(19,[7,8],λs v j w f=>dG (s 0) (s 1) (s 2) (s 6) (vg v 0) (vg v 1) w (f 1) (f 0) K)] [] (zg [0,1,2,6] [t0,t1,t2,t6]) w K
def dH(t0 t1 t2 t6 t7 t8 w)(N1:JT)(K:KT):=nz f361 19 [N1] [nh 5 [7,8],(15,[6],λs v j w f=>dF (s 0) (s 1) (s 2) (vg v 0) w (f 0) K)] [] (zg [0,1,2,6,7,8] [t0,t1,t2,t6,t7,t8]) w K
def dR(t0 t1 t2 w)(K:KT):=nz f361 1 [] [(5,[7,8],λs v j w f=>dH (s 0) (s 1) (s 2) (s 6) (vg v 0) (vg v 1) w (f 0) K)] [] (zg [0,1,2] [t0,t1,t2]) w K
theorem fI:dR t0 t1 t2 w k0->Calls ah 361 #[t0,t1,t2] w k0:=cz [(16,[])] [(2,[7,8]),(7,[6]),(9,[7,8])] func361
def cP(b c d e a w)(N1:JT)(K:KT):=
 bnx .lss 3 a e w K λf w=>IfX f (QuietX w (λr=>PDo ah (mBin .add 3 d a) λg=>QDo ah r (mBin .add 3 c a) λh=>QDo ah r (mBin .add 3 d a) λi=>QDo ah r (mIA 341 b i) λj=>QDo ah r (aH 342 j) λk=>QDo ah r (mBin .add 3 c a) λl=>QDo ah r (mIA 341 b l) λm=>QDo ah r (aH 342 m) λn=>QDo ah r (mIA 341 b h) λo=>
 ∀w,r w ->
 DoX ah (aN 342 o k) w (ay 4 (pk K)) λ_ w=>DoX ah (mIA 341 b g) w (ay 4 (pk K)) λp w=>DoX ah (aN 342 p n) w (ay 4 (pk K)) λ_ w=>bnx .add 3 a (iN 1) w K λq w=>N1 [q] w)) (K (.returned (.tuple #[])) w)
def dC(t0 t1 t2 t3 t4 w)(K:KT):=nz f368 1 [] [(3,[10],λs v j w f=>cP (s 0) (s 1) (s 2) (s 3) (vg v 0) w (f 0) K)] [] (zg [0,1,2,3,4] [t0,t1,t2,t3,t4]) w K
theorem eZ:dC t0 t1 t2 t3 t4 w k0->Calls ah 368 #[t0,t1,t2,t3,t4] w k0:=cz [] [(1,[10])] func368
def cT(t0 t3 t4 t18 t24 w)(K:KT):=nz f366 4095 [] [] [] (zg [0,3,4,18,24] [t0,t3,t4,t18,t24]) w K
def cY(t0 t1 t3 t4 t18 t20 t24 w)(K:KT):=nz f366 2047 [] [(86,[],λs v j w f=>cT (s 0) (s 3) (s 4) (s 18) (s 24) w K)] [] (zg [0,1,3,4,18,20,24] [t0,t1,t3,t4,t18,t20,t24]) w K
def dB(t0 t1 t2 t3 t4 t18 t19 t20 t21 t22 w)(a:JT)(K:KT):=nz f366 639 [a] [nh 67 [20,21],(82,[],λs v j w f=>cY (s 0) (s 1) (s 3) (s 4) (s 18) (s 20) (s 24) w K)] [(35,14)] (zg [0,1,2,3,4,18,19,20,21,22] [t0,t1,t2,t3,t4,t18,t19,t20,t21,t22]) w K
def cX(t0 t1 t2 t3 t4 t18 t19 t20 t21 w)(K:KT):=nz f366 127 [] [(67,[20,21],λs v j w f=>dB (s 0) (s 1) (s 2) (s 3) (s 4) (s 18) (s 19) (vg v 0) (vg v 1) (s 22) w (f 0) K)] [] (zg [0,1,2,3,4,18,19,20,21] [t0,t1,t2,t3,t4,t18,t19,t20,t21]) w K
def cS(b c a w)(o:JT)(K:KT):=
 bnx .gtr 3 a c w K λd w=>IfX d (QuietX w (λn=>PDo ah (mBin .sub 3 a (iN 1)) λe=>QDo ah n (mBin .sub 3 a (iN 1)) λf=>QDo ah n (mIA 341 b f) λg=>QDo ah n (aH 342 g) λh=>QDo ah n (mIA 341 b a) λi=>QDo ah n (aH 342 i) λj=>QDo ah n (mIA 341 b a) λk=>
 ∀w,n w ->
 DoX ah (aN 342 k h) w (ay 3 (pk K)) λ_ w=>DoX ah (mIA 341 b e) w (ay 3 (pk K)) λl w=>DoX ah (aN 342 l j) w (ay 3 (pk K)) λ_ w=>bnx .sub 3 a (iN 1) w K λm w=>o [m] w)) (K (.returned (.tuple #[])) w)
def cZ(t0 t2 t4 t14 t15 w)(a:JT)(K:KT):=nz f366 309 [a] [nh 31 [14,15],(43,[17],λs v j w f=>cS (s 0) (s 14) (vg v 0) w (f 0) K)] [(17,12)] (zg [0,2,4,14,15] [t0,t2,t4,t14,t15]) w K
def cR(b c a w)(p:JT)(K:KT):=
 bnx .sub 3 c (iN 1) w K λd w=>bnx .lss 3 a d w K λe w=>IfX e (QuietX w (λo=>PDo ah (mBin .add 3 a (iN 1)) λf=>QDo ah o (mBin .add 3 a (iN 1)) λg=>QDo ah o (mIA 341 b g) λh=>QDo ah o (aH 342 h) λi=>QDo ah o (mIA 341 b a) λj=>QDo ah o (aH 342 j) λk=>QDo ah o (mIA 341 b a) λl=>
 ∀w,o w ->
 DoX ah (aN 342 l i) w (ay 3 (pk K)) λ_ w=>DoX ah (mIA 341 b f) w (ay 3 (pk K)) λm w=>DoX ah (aN 342 m k) w (ay 3 (pk K)) λ_ w=>bnx .add 3 a (iN 1) w K λn w=>p [n] w)) (K (.returned (.tuple #[])) w)
def dA(t0 t1 t4 t10 t11 w)(N1:JT)(K:KT):=nz f366 154 [N1] [nh 7 [10,11],(19,[13],λs v j w f=>cR (s 0) (s 10) (vg v 0) w (f 0) K)] [(5,11)] (zg [0,1,4,10,11] [t0,t1,t4,t10,t11]) w K
def dE(t0 t1 t2 t3 t4 w)(K:KT):=nz f366 1 [] [(7,[10,11],λs v j w f=>dA (s 0) (s 1) (s 4) (vg v 0) (vg v 1) w (f 0) K),(31,[14,15],λs v j w f=>cZ (s 0) (s 2) (s 4) (vg v 0) (vg v 1) w (f 0) K),(64,[20,21],λs v j w f=>cX (s 0) (s 1) (s 2) (s 3) (s 4) (s 18) (s 19) (vg v 0) (vg v 1) w K)] [] (zg [0,1,2,3,4] [t0,t1,t2,t3,t4]) w K
theorem fB:dE t0 t1 t2 t3 t4 w k0->Calls ah 366 #[t0,t1,t2,t3,t4] w k0:=cz [(32,[20,21]),(41,[]),(43,[])] [(3,[10,11]),(9,[13]),(15,[14,15]),(21,[17]),(33,[20,21])] func366
end
section
open Eng Go.RowKit
theorem Eng.WL {K:aq->Prop}(hp:cO P f=av)(v:aq)(h:∀w,C w->Ret P f (fa++args++ca) w (λv' w'=>v'=v∧C w'))(k:K v):QDo P C (fX (.func (.func f) fa ca) args) K:=
 ⟨v,λw hw=>by
  have e:(fX (.func (.func f) fa ca) args).run P w=.ok (.enter f (fa++args++ca)) w:=by
   unfold fX;simp only[Deferred.ofValue,invoke,bind,pure,Sem.bind];exact iF hp _ _
  rw[e];exact⟨rfl,Calls.mono (h w hw) λ_ _ ⟨_,he,a,b⟩=>⟨by rw[he,a],b⟩⟩,k⟩
abbrev Pc:=aq×Cn
def pd:Pc:=(undef,.leaf 0 0)
def pcW (ps:List Pc):List Value:=ps.map (·.1)
abbrev pcE (v:aq)(ps:List Pc):Ent:=.urow 342 1 v ps.length (pcW ps)
def pw (x:Pc):Nat:=x.2.wt
def cmpI (a b:Nat):Int:=if a < b then -1 else if b < a then 1 else 0
theorem KO (a b:Nat):ai (cmpI a b < 0)=ai (a < b):=by
 unfold cmpI;split
 ·rename_i h;simp[h]
 ·rename_i h;split<;>simp[h]
structure CmpOk (M:Mem) (cv:aq) (ok:Pc->Prop):Prop where
 ptr:∀x,ok x->x.1.oneCell'=av∧x.1.cells=#[x.1]
 run:∃f fa ca,cv=.func (.func f) fa ca∧cO ah f=av∧∀W x y,M.has W->ok x->ok y->Ret ah f (fa++#[x.1,y.1]++ca) W (λv w'=>v=.int .i64 (cmpI (pw x) (pw y))∧Below W.heap.size W w')
theorem L9:eD ah 342=true:=krx
theorem DP:(Tryz.prog.info? 342).map (·.size)=ax 1:=krx
theorem mm {d:α}{xs:List α}(hi:i < xs.length)(a:j < xs.length){x:α}(h:x∈Srt.sw d xs i j):x∈xs:=by
 unfold Srt.sw at h;rcases arP h with h|h
 ·rcases arP h with h|h
  ·exact h
  ·rw[h,alO,alT a];exact alX a
 ·rw[h,alO,alT hi];exact alX hi
theorem sQ {ps:List Pc}(hi:i < ps.length):ps.getD i pd∈ps:=by
 rw[alO,alT hi];exact alX hi
theorem RX {ps:List Pc}(hi:i < ps.length):(pcW ps)[i]?=ax (ps.getD i pd).1:=by
 unfold pcW;rw[apP,alO,alT hi];rfl
theorem pD {g n:Nat}(hi:i < n)(W:ao):(mIA 341 (.slice (ax ⟨g,0,aw⟩) n cap) (.int .i64 (i:Int))).run ah W=.ok (.value (.pointer (ax ⟨g,i,aw⟩))) W:=by
 have:=dY (P:=ah) (T:=341) (b:=g) (off:=0) (cap:=cap) (n:=n) (k:=.i64) (i:=(i:Int)) (w:=W) aoE DP om om
 rwa [alQ,amI,alU] at this
theorem xY {g n:Nat}{ps:List Pc}(h:(pcE (.slice (ax ⟨g,0,aw⟩) n cap) ps).is W)(hi:i < ps.length):(aH 342 (.pointer (ax ⟨g,i,aw⟩))).run ah W=.ok (.value (ps.getD i pd).1) W:=by
 obtain⟨k,c,d,e,j⟩:=bX (Sl.urow h) om
 injection e with b l m
 injection b with b
 have f:=congrArg Addr.block b;have a:=congrArg Addr.off b;dsimp only at f a;subst f;subst a;have:=j i _ (RX hi);rw[alU] at this;exact aB L9 this
section
variable {w:ao}{PK PK2 PK3:PKT}{K:VWP}{S:Nat->Prop}{w0:ao}{L T:List Ent}
theorem SG {ps:List Pc}{x:Pc}(hi:i < ps.length):(pcW ps).take i++[x.1]++(pcW ps).drop (i+[x.1].length)=pcW (ps.set i x):=by
 unfold pcW;rw[arQ,auE,alH (by simpa using hi)];simp
theorem o_sw {g:Nat}{ps:List Pc}{N:ao->Prop}{ok:Pc->Prop}(f:CmpOk M cv ok)(a:OwnS S w0 w (pcE (.slice (ax ⟨g,0,aw⟩) ps.length cap) ps::T))(b:∀x∈ps,ok x)(hi:i < ps.length)(c:j < ps.length)
  (k:∀W,OwnS S w0 W (pcE (.slice (ax ⟨g,0,aw⟩) ps.length cap) (Srt.sw pd ps i j)::T)->N W) :
  DoX ah (aN 342 (.pointer (ax ⟨g,i,aw⟩)) (ps.getD j pd).1) w PK λ_ w=>DoX ah (mIA 341 (.slice (ax ⟨g,0,aw⟩) ps.length cap) (.int .i64 (j:Int))) w PK2 λt w=>DoX ah (aN 342 t (ps.getD i pd).1) w PK3 λ_ w=>N w:=by
 obtain⟨l,m⟩:=f.ptr _ (b _ (sQ hi));obtain⟨n,o⟩:=f.ptr _ (b _ (sQ c));refine zP (sz:=1) (new:=[(ps.getD j pd).1]) 0 a rfl (by rw[o]) DP (λu hu=>by rw[amH.1 hu];exact n) (by simp;omega) λh a=>?_;have a:OwnS S w0 h (.urow 342 1 (.slice (ax ⟨g,0,aw⟩) (ps.set i (ps.getD j pd)).length cap) (ps.set i (ps.getD j pd)).length (pcW (ps.set i (ps.getD j pd)))::T):=by
  rw[<-SG hi,anZ];exact a
 have d:j < (ps.set i (ps.getD j pd)).length:=by rw[anZ];exact c
 refine aD (pD c h) |>.mpr ?_;refine zP (sz:=1) (new:=[(ps.getD i pd).1]) 0 a rfl (by rw[m]) DP (λu hu=>by rw[amH.1 hu];exact l) (by simp;omega) λp a=>?_;refine k p ?_;unfold Srt.sw pcE;rw[<-SG d];have e:((ps.set i (ps.getD j pd)).set j (ps.getD i pd)).length=(ps.set i (ps.getD j pd)).length:=anZ;rw[e];have q:(ps.set i (ps.getD j pd)).length=ps.length:=anZ;rw[q] at a ⊢;exact a
theorem aaS {g n a:Nat}{ps:List Pc}{o:aq}{ok:Pc->Prop}(q:CmpOk M o ok)(c:OwnS S w0 w (pcE (.slice (ax ⟨g,0,aw⟩) ps.length cap) ps::T))(p:∀x∈ps,ok x)(A:a+n<=ps.length)(B:b+n<=ps.length)(C:ps.length<=1000000000)
  (k:∀W,(∀x∈Srt.swr pd n a b ps,ok x)->OwnS S w0 W (pcE (.slice (ax ⟨g,0,aw⟩) ps.length cap) (Srt.swr pd n a b ps)::T)->K (.tuple #[]) W) :
  CallX ah 368 #[.slice (ax ⟨g,0,aw⟩) ps.length cap,.int .i64 (a:Int),.int .i64 (b:Int),.int .i64 (n:Int),cv] w PK K:=by
 generalize r:Srt.swr pd n a b ps=R at k;refine fG (eZ (k0:=RetK λv W=>v=.tuple #[]∧(∀x∈R,ok x)∧OwnS S w0 W (pcE (.slice (ax ⟨g,0,aw⟩) ps.length cap) R::T)) ?_) (λe W ⟨v,he,s,t,c⟩=>by subst he;subst s;exact k W t c);unfold dC nz;generalize u:ps.length=N at *;refine loop (λvs W=>∃(i:Nat) (d:List Pc),vs=[.int .i64 (i:Int)]∧i<=n∧d.length=N∧(∀x∈d,ok x)∧Srt.swr pd (n - i) (a+i) (b+i) d=R∧OwnS S w0 W (pcE (.slice (ax ⟨g,0,aw⟩) N cap) d::T)) (λvs _=>n - n0 vs) ⟨0,ps,rfl,om,u,p,r,c⟩ ?_;clear c;rintro vs D ⟨i,d,rfl,hi,y,f,j,c⟩ _;simp only[cP,gd,rs,iN,bnx];by_cases l:(i:Int) < (n:Int)
 ·simp only[l,alK,i_t];obtain⟨m,hm⟩:∃m,n - i=m+1:=⟨n - i - 1,om⟩;rw[hm] at j;unfold Srt.swr at j;refine dK (λW=>OwnS S w0 W (pcE (.slice (ax ⟨g,0,aw⟩) N cap) d::T)) c.drew ?_;refine p_do _ (λ_=>Ia) ?_;rw[aA om om,show (b:Int)+(i:Int)=((b+i:Nat):Int) by omega];refine oY ?_;rw[aA om om,show (a:Int)+(i:Int)=((a+i:Nat):Int) by omega];refine oY ?_;rw[aA om om,show (b:Int)+(i:Int)=((b+i:Nat):Int) by omega];refine q_do _ (λW=>pD om W) (q_at _ (λW h=>xY (h.at_ 0 rfl) om) ?_);refine oY ?_;rw[aA om om,show (a:Int)+(i:Int)=((a+i:Nat):Int) by omega];refine q_do _ (λW=>pD om W) (q_at _ (λW h=>xY (h.at_ 0 rfl) om) ?_);refine q_do _ (λW=>pD om W) ?_;intro w2 c;subst y;refine o_sw q c f om om λw3 c=>?_
  try simp only[rs]
  rw[aA om om];refine aY ⟨i+1,Srt.sw pd d (a+i) (b+i),rfl,om,Srt.EK,λx z=>f x (mm om om z),?_,c⟩ (by simp[n0,RowKit.intOf];omega);rw[show n - (i+1)=m by omega];exact j
 ·simp only[l,alL,i_f];rw[show n - i=0 by omega] at j;unfold Srt.swr at j;subst j;exact retK ⟨rfl,f,c⟩
end
end
section
open Eng Go.RowKit
section
variable {w:ao}{PK PK2 PK3:PKT}{K:VWP}{S:Nat->Prop}{w0:ao}{L T:List Ent}
theorem ajQ {g a N:Nat}{ps:List Pc}{r:aq}{ok:Pc->Prop}(s:CmpOk M r ok)(u:ps.length=N)(c:OwnS S w0 w (pcE (.slice (ax ⟨g,0,aw⟩) N cap) ps::T))(t:∀x∈ps,ok x)(D:a < m)(hm:m < b)(E:b<=N)(F:N<=1000000000)
  (k:∀W,(∀x∈Srt.rot pd (b - a) (m - a) (b - m) m ps,ok x)->OwnS S w0 W (pcE (.slice (ax ⟨g,0,aw⟩) N cap) (Srt.rot pd (b - a) (m - a) (b - m) m ps)::T)->K (.tuple #[]) W) :
  CallX ah 367 #[.slice (ax ⟨g,0,aw⟩) N cap,.int .i64 (a:Int),.int .i64 (m:Int),.int .i64 (b:Int),cv] w PK K:=by
 generalize y:Srt.rot pd (b - a) (m - a) (b - m) m ps=R at k;refine fG (fK (k0:=RetK λv W=>v=.tuple #[]∧(∀x∈R,ok x)∧OwnS S w0 W (pcE (.slice (ax ⟨g,0,aw⟩) N cap) R::T)) ?_) (λe W ⟨v,he,z,d,c⟩=>by subst he;subst z;exact k W d c);unfold dQ nz;simp only[rs];rw[aA om om,aA om om,show (m:Int) - (a:Int)=((m - a:Nat):Int) by omega,show (b:Int) - (m:Int)=((b - m:Nat):Int) by omega];refine loop (λvs W=>∃(i j f:Nat) (o:List Pc),vs=[.int .i64 (i:Int),.int .i64 (j:Int)]∧i+j<=f∧0 < i∧0 < j∧i<=m∧m+j<=N∧o.length=N∧(∀x∈o,ok x)∧Srt.rot pd f i j m o=R∧OwnS S w0 W (pcE (.slice (ax ⟨g,0,aw⟩) N cap) o::T)) (λvs _=>n0 vs+n1 vs) ⟨m - a,b - m,b - a,ps,rfl,om,om,om,om,om,u,t,y,c⟩ ?_;clear c;rintro vs G ⟨i,j,f,o,rfl,H,hi,I,A,B,C,l,h,c⟩ _;simp only[dJ,gd,rs,nz];obtain⟨f,rfl⟩:∃q,f=q+1:=⟨f - 1,om⟩;unfold Srt.rot at h;subst C;by_cases he:i=j
 ·subst he;simp only[show ai ((i:Int)≠(i:Int))=au from alJ sm,i_f];rw[alH rfl] at h;rw[aA om om,show (m:Int) - (i:Int)=((m - i:Nat):Int) by omega];refine aaS s c l om om om λw2 d c=>?_;rw[h] at d c;exact retK ⟨rfl,d,c⟩
 ·rw[alG he] at h;simp only[show ai ((i:Int)≠(j:Int))=av from alM om,i_t];by_cases p:j < i
  ·rw[alH p] at h;simp only[show ai ((j:Int) < (i:Int))=av from alM om,i_t];rw[aA om om,show (m:Int) - (i:Int)=((m - i:Nat):Int) by omega];refine aaS s c l om om om λw2 d c=>?_
   try simp only[rs]
   rw[aA om om,show (i:Int) - (j:Int)=((i - j:Nat):Int) by omega];exact aY ⟨i - j,j,f,_,rfl,om,om,om,om,om,Srt.Ea _ _ _ _,d,h,c⟩ (by simp[n0,n1,RowKit.intOf];omega)
  ·rw[alG p] at h;simp only[show ai ((j:Int) < (i:Int))=au from alJ om,i_f];rw[aA (n:=(m:Int) - (i:Int)) om om,aA (n:=(m:Int)+(j:Int)) om om,aA (n:=(m:Int)+(j:Int) - (i:Int)) om om,show (m:Int) - (i:Int)=((m - i:Nat):Int) by omega,show (m:Int)+(j:Int) - (i:Int)=((m+j - i:Nat):Int) by omega];refine aaS s c l om om om λw2 d c=>?_
   try simp only[rs]
   rw[aA om om,show (j:Int) - (i:Int)=((j - i:Nat):Int) by omega];exact aY ⟨i,j - i,f,_,rfl,om,om,om,om,om,Srt.Ea _ _ _ _,d,h,c⟩ (by simp[n0,n1,RowKit.intOf];omega)
theorem abT {g a N:Nat}{ps:List Pc}{ok:Pc->Prop}(A:CmpOk M cv ok)(hm:T[jm]?=ax (.mem M))(C:ps.length=N)(d:OwnS S w0 w (pcE (.slice (ax ⟨g,0,aw⟩) N cap) ps::T))(s:∀x∈ps,ok x)(U:b<=N)(V:a<=N)(X:N<=1000000000)
  (k:∀W,(∀x∈Srt.ins pd pw ps a b,ok x)->OwnS S w0 W (pcE (.slice (ax ⟨g,0,aw⟩) N cap) (Srt.ins pd pw ps a b)::T)->K (.tuple #[]) W) :
  CallX ah 365 #[.slice (ax ⟨g,0,aw⟩) N cap,.int .i64 (a:Int),.int .i64 (b:Int),cv] w PK K:=by
 unfold Srt.ins at k;generalize D:Srt.insI pd pw a (b - (a+1)) (a+1) ps=R at k;refine fG (eK (k0:=RetK λv W=>v=.tuple #[]∧(∀x∈R,ok x)∧OwnS S w0 W (pcE (.slice (ax ⟨g,0,aw⟩) N cap) R::T)) ?_) (λe W ⟨v,he,E,F,d⟩=>by subst he;subst E;exact k W F d);unfold cN nz;obtain⟨Y,G,H,t,u,y⟩:=A.run;have z:∀{W:ao} {e:Ent},OwnS S w0 W (e::T)->M.has W:=λd=>d.hasM (jm+1) (by rw[amS];exact hm);simp only[rs];rw[aA om om];refine loop (λvs W=>∃(i:Nat) (c:List Pc),vs=[.int .i64 (i:Int)]∧a+1<=i∧i<=max b (a+1)∧c.length=N∧(∀x∈c,ok x)∧Srt.insI pd pw a (b - i) i c=R∧OwnS S w0 W (pcE (.slice (ax ⟨g,0,aw⟩) N cap) c::T)) (λvs _=>b - n0 vs) ⟨a+1,ps,rfl,om,om,C,s,D,d⟩ ?_;clear d;rintro vs I ⟨i,c,rfl,hi,J,n,f,l,d⟩ _;simp only[cG,gd,rs,nz];by_cases o:(i:Int) < (b:Int)
 ·simp only[o,alK,i_t];obtain⟨q,L⟩:∃q,b - i=q+1:=⟨b - i - 1,om⟩;rw[L] at l;unfold Srt.insI at l;refine loop (λvs W=>∃(j:Nat) (c:List Pc),vs=[.int .i64 (j:Int)]∧a<=j∧j<=i∧c.length=N∧(∀x∈c,ok x)∧Srt.insI pd pw a q (i+1) (Srt.insJ pd pw a j c)=R∧OwnS S w0 W (pcE (.slice (ax ⟨g,0,aw⟩) N cap) c::T)) (λvs _=>n0 vs) ⟨i,c,rfl,om,om,n,f,l,d⟩ ?_;clear d l f n;rintro vs w2 ⟨j,c,rfl,O,P,n,f,l,d⟩ _;simp only[cI,gd,iN,bnx];have stop:∀W,Srt.insJ pd pw a j c=c->OwnS S w0 W (pcE (.slice (ax ⟨g,0,aw⟩) N cap) c::T)->Q6 (λvs W=>∃(i:Nat) (c:List Pc),vs=[.int .i64 (i:Int)]∧a+1<=i∧i<=max b (a+1)∧c.length=N∧(∀x∈c,ok x)∧Srt.insI pd pw a (b - i) i c=R∧OwnS S w0 W (pcE (.slice (ax ⟨g,0,aw⟩) N cap) c::T)) (λvs _=>b - n0 vs) [.int .i64 (i:Int)] I [.int .i64 (IntKind.i64.wrap ((i:Int)+1))] W:=by
   intro W he d;rw[aA om om];rw[he] at l;refine aY ⟨i+1,c,rfl,om,om,n,f,?_,d⟩ (by simp[n0,RowKit.intOf];omega);rw[show b - (i+1)=q by omega];exact l
  refine dK (λW=>OwnS S w0 W (pcE (.slice (ax ⟨g,0,aw⟩) N cap) c::T)) d.drew ?_;refine yS ?_;by_cases B:a < j
  ·obtain⟨j,rfl⟩:∃p,j=p+1:=⟨j - 1,om⟩;rw[alM (show (a:Int) < ((j+1:Nat):Int) by omega)];simp only[gq];refine q_do _ (λW=>pD om W) (q_at _ (λW h=>xY (h.at_ 0 rfl) om) ?_);refine q_do _ (λ_=>rB) ?_;rw[aA om om,show ((j+1:Nat):Int) - 1=(j:Int) by omega];refine q_do _ (λW=>pD om W) (q_at _ (λW h=>xY (h.at_ 0 rfl) om) ?_);subst t;refine WL u (.int .i64 (cmpI (pw (c.getD (j+1) pd)) (pw (c.getD j pd)))) (λW h=>(y W _ _ (z h) (f _ (sQ om)) (f _ (sQ om))).mono λv w' r=>⟨r.1,h.grow r.2⟩) ?_;refine DQ (q_pt ?_);rw[KO];intro w3 d;unfold Srt.insJ at l stop;by_cases m:pw (c.getD (j+1) pd) < pw (c.getD j pd)
   ·rw[alH ⟨B,alM m⟩] at l;simp only[m,alK,i_t];refine dK (λW=>OwnS S w0 W (pcE (.slice (ax ⟨g,0,aw⟩) N cap) c::T)) d.drew ?_;refine p_do _ (λ_=>rB) ?_;rw[aA om om,show ((j+1:Nat):Int) - 1=(j:Int) by omega];refine q_do _ (λ_=>rB) ?_;rw[aA om om,show ((j+1:Nat):Int) - 1=(j:Int) by omega];refine q_do _ (λW=>pD om W) (q_at _ (λW h=>xY (h.at_ 0 rfl) om) ?_);refine q_do _ (λW=>pD om W) (q_at _ (λW h=>xY (h.at_ 0 rfl) om) ?_);refine q_do _ (λW=>pD om W) ?_;intro Z d;subst n;refine o_sw A d f om om λw5 d=>?_
    try simp only[rs]
    rw[aA om om,show ((j+1:Nat):Int) - 1=(j:Int) by omega];exact aY ⟨j,_,rfl,om,om,Srt.EK,λx Q=>f x (mm om om Q),l,d⟩ (by simp[n0,RowKit.intOf])
   ·simp only[m,alL,i_f,rs];exact stop w3 (alG λh=>m (alZ h.2)) d
  ·rw[alJ (show ¬(a:Int) < (j:Int) by omega)];simp only[gq];refine q_pf ?_;intro w3 d;simp only[i_f,rs];refine stop w3 ?_ d;cases j with
  |zero=>rfl
  |succ j=>
    unfold Srt.insJ;rw[alG (λh=>B h.1)]
 ·simp only[o,alL,i_f];rw[show b - i=0 by omega] at l;unfold Srt.insI at l;subst l;exact retK ⟨rfl,f,d⟩
end
end
section
open Eng Go.RowKit
theorem og {wt:α->Nat}{x y:α}(h:wt x < wt y):Srt.lt wt x y=true:=alM h
theorem oh {wt:α->Nat}{x y:α}(h:¬wt x < wt y):¬Srt.lt wt x y=true:=λk=>h (alZ k)
section
variable {w:ao}{PK PK2 PK3:PKT}{K:VWP}{S:Nat->Prop}{w0:ao}{L T:List Ent}
theorem YF {b:Bool}:(mUn .not (.bool b)).run P W=.ok (.value (.bool (!b))) W:=cJ (by simp[Op.unary])
theorem PT {n:Nat}(h:n<=4000000000):DoX ah (sE 3 84 (.int .i64 (n:Int))) w PK (λt w=>DoX ah (mBin .shr 84 t (.int .u64 1)) w PK2 λt w=>DoX ah (sE 84 3 t) w PK3 K)=K (.int .i64 ((n / 2:Nat):Int)) w:=by
 rw[WC (show (Tryz.prog.underlying 3).isSome=av by kernel_rfl) arG,Hr om,shr1 om om,
  WC (show (Tryz.prog.underlying 84).isSome=av by kernel_rfl) anG,aA om om]
 rfl
theorem Xc {g cap N jm:Nat}{cv:aq}{ok:Pc->Prop}{M:Mem}(hc:CmpOk M cv ok)(hm:T[jm]?=ax (.mem M))(hl:N<=1000000000):∀(f a m b:Nat) {w:ao} {PK:PKT} {K:VWP} {ps:List Pc},b - a<=f->a < m->m < b->b<=N->ps.length=N->OwnS S w0 w (pcE (.slice (ax ⟨g,0,aw⟩) N cap) ps::T)->(∀x∈ps,ok x) ->
  (∀W,(∀x∈Srt.sym pd pw f a m b ps,ok x)->OwnS S w0 W (pcE (.slice (ax ⟨g,0,aw⟩) N cap) (Srt.sym pd pw f a m b ps)::T)->K (.tuple #[]) W) ->
  CallX ah 366 #[.slice (ax ⟨g,0,aw⟩) N cap,.int .i64 (a:Int),.int .i64 (m:Int),.int .i64 (b:Int),cv] w PK K
|0,a,m,b,_,_,_,_,hf,a8,b0,_,_,_,_,_=>by omega
|f+1,a,m,b,w,PK,K,ps,hf,a8,b0,b1,V,l,B,k=>by
  generalize u:Srt.sym pd pw (f+1) a m b ps=R at k;refine fG (fB (k0:=RetK λv W=>v=.tuple #[]∧(∀x∈R,ok x)∧OwnS S w0 W (pcE (.slice (ax ⟨g,0,aw⟩) N cap) R::T)) ?_) (λe W ⟨v,he,hv,L,l⟩=>by subst he;subst hv;exact k W L l);unfold dE nz;obtain⟨cf,c4,c5,b2,b3,b4⟩:=hc.run;have b5:∀{W:ao} {e:Ent},OwnS S w0 W (e::T)->M.has W:=λl=>l.hasM (jm+1) (by rw[amS];exact hm);have cmp:∀{C:aq->Prop} {y:List Pc} {i j:Nat},y.length=N->(∀x∈y,ok x)->i < N->j < N->C (.int .i64 (cmpI (pw (y.getD i pd)) (pw (y.getD j pd))))->QDo ah (λW=>OwnS S w0 W (pcE (.slice (ax ⟨g,0,aw⟩) N cap) y::T)) (fX cv #[(y.getD i pd).1,(y.getD j pd).1]) C:=by
   intro C y i j hz A hi hj hC;subst b2;exact WL b3 _ (λW h=>(b4 W _ _ (b5 h) (A _ (sQ om)) (A _ (sQ om))).mono λv w' r=>⟨r.1,h.grow r.2⟩) hC
  unfold Srt.sym at u;simp only[rs];rw[aA om om,show (m:Int) - (a:Int)=((m - a:Nat):Int) by omega];by_cases L:m - a=1
  ·rw[alH L] at u;simp only[show ai (((m - a:Nat):Int)=1)=av from alM om,i_t];generalize Y:Srt.bs (λh=>!Srt.lt pw (ps.getD h pd) (ps.getD a pd)) (b - m) m b=s at u;refine loop (λvs W=>∃(i j f:Nat),vs=[.int .i64 (i:Int),.int .i64 (j:Int)]∧m<=i∧i<=j∧j<=b∧j - i<=f∧Srt.bs (λh=>!Srt.lt pw (ps.getD h pd) (ps.getD a pd)) f i j=s∧OwnS S w0 W (pcE (.slice (ax ⟨g,0,aw⟩) N cap) ps::T)) (λvs _=>n1 vs - n0 vs) ⟨m,b,b - m,rfl,om,om,om,om,Y,l⟩ ?_;clear l Y;rintro vs w1 ⟨i,j,f',rfl,hi,a1,hj,a6,z,l⟩ _;simp only[dA,gd,rs,nz];by_cases D:(i:Int) < (j:Int)
   ·simp only[D,alK,i_t];obtain⟨f',rfl⟩:∃q,f'=q+1:=⟨f' - 1,om⟩;unfold Srt.bs at z;rw[alH om] at z;rw[aA om om,show (i:Int)+(j:Int)=((i+j:Nat):Int) by omega,PT om];refine dK (λW=>OwnS S w0 W (pcE (.slice (ax ⟨g,0,aw⟩) N cap) ps::T)) l.drew ?_;refine q_do _ (λW=>pD om W) (q_at _ (λW h=>xY (h.at_ 0 rfl) om) ?_);refine q_do _ (λW=>pD om W) (q_at _ (λW h=>xY (h.at_ 0 rfl) om) ?_);refine cmp V B om om (DQ ?_);rw[KO];intro w2 l;by_cases o:pw (ps.getD ((i+j) / 2) pd) < pw (ps.getD a pd)
    ·rw[alG (by have e:Srt.lt pw (ps.getD ((i+j) / 2) pd) (ps.getD a pd)=true:=alM o;rw[e];decide)] at z;simp only[o,alK,i_t,rs];rw[aA om om,show (((i+j) / 2:Nat):Int)+1=(((i+j) / 2+1:Nat):Int) by omega];exact aY ⟨(i+j) / 2+1,j,f',rfl,om,om,om,om,z,l⟩ (by simp[n0,n1,RowKit.intOf];omega)
    ·rw[alH (by have e:Srt.lt pw (ps.getD ((i+j) / 2) pd) (ps.getD a pd)=false:=alJ o;rw[e];rfl)] at z;simp only[o,alL,i_f];exact aY ⟨i,(i+j) / 2,f',rfl,om,om,om,om,z,l⟩ (by simp[n0,n1,RowKit.intOf];omega)
   ·simp only[D,alL,i_f];have P:s=i:=by
     rw[<-z];cases f' with
    |zero=>rfl
    |succ q=>unfold Srt.bs;rw[alG om]
    subst P;refine loop (λvs W=>∃(q:Nat) (y:List Pc),vs=[.int .i64 (q:Int)]∧a<=q∧(q<=s - 1∨q=a)∧y.length=N∧(∀x∈y,ok x)∧Srt.up pd (s - 1 - q) q y=R∧OwnS S w0 W (pcE (.slice (ax ⟨g,0,aw⟩) N cap) y::T)) (λvs _=>s - n0 vs) ⟨a,ps,rfl,om,.inr rfl,V,B,u,l⟩ ?_;clear l;rintro vs w2 ⟨q,y,rfl,hq,c6,hz,A,t,l⟩ _;simp only[cR,gd,rs,iN,bnx];rw[aA (n:=(s:Int) - 1) om om];by_cases E:(q:Int) < (s:Int) - 1
    ·simp only[E,alK,i_t];obtain⟨r,hr⟩:∃r,s - 1 - q=r+1:=⟨s - 1 - q - 1,om⟩;rw[hr] at t;unfold Srt.up at t;refine dK (λW=>OwnS S w0 W (pcE (.slice (ax ⟨g,0,aw⟩) N cap) y::T)) l.drew ?_;refine p_do _ (λ_=>Ia) ?_;rw[aA om om,show (q:Int)+1=((q+1:Nat):Int) by omega];refine oY ?_;rw[aA om om,show (q:Int)+1=((q+1:Nat):Int) by omega];refine q_do _ (λW=>pD om W) (q_at _ (λW h=>xY (h.at_ 0 rfl) om) ?_);refine q_do _ (λW=>pD om W) (q_at _ (λW h=>xY (h.at_ 0 rfl) om) ?_);refine q_do _ (λW=>pD om W) ?_;intro w3 l;subst hz;refine o_sw hc l A om om λw4 l=>?_
     try simp only[rs]
     try rw[aA (n:=(q:Int)+1) om om,show (q:Int)+1=((q+1:Nat):Int) by omega]
     refine aY ⟨q+1,_,rfl,om,.inl om,Srt.EK,λx hx=>A x (mm om om hx),?_,l⟩ (by simp[n0,RowKit.intOf];omega);rw[show s - 1 - (q+1)=r by omega];exact t
    ·simp only[E,alL,i_f];rw[show s - 1 - q=0 by omega] at t;unfold Srt.up at t;subst t;exact retK ⟨rfl,A,l⟩
  rw[alG L] at u;simp only[show ai (((m - a:Nat):Int)=1)=au from alJ om,i_f];rw[aA om om,show (b:Int) - (m:Int)=((b - m:Nat):Int) by omega];by_cases h2:b - m=1
  ·rw[alH h2] at u;simp only[show ai (((b - m:Nat):Int)=1)=av from alM om,i_t];generalize Y:Srt.bs (λh=>Srt.lt pw (ps.getD m pd) (ps.getD h pd)) (m - a) a m=s at u;refine loop (λvs W=>∃(i j f:Nat),vs=[.int .i64 (i:Int),.int .i64 (j:Int)]∧a<=i∧i<=j∧j<=m∧j - i<=f∧Srt.bs (λh=>Srt.lt pw (ps.getD m pd) (ps.getD h pd)) f i j=s∧OwnS S w0 W (pcE (.slice (ax ⟨g,0,aw⟩) N cap) ps::T)) (λvs _=>n1 vs - n0 vs) ⟨a,m,m - a,rfl,om,om,om,om,Y,l⟩ ?_;clear l Y;rintro vs w1 ⟨i,j,f',rfl,hi,a1,hj,a6,z,l⟩ _;simp only[cZ,gd,rs,nz];by_cases D:(i:Int) < (j:Int)
   ·simp only[D,alK,i_t];obtain⟨f',rfl⟩:∃q,f'=q+1:=⟨f' - 1,om⟩;unfold Srt.bs at z;rw[alH om] at z;rw[aA om om,show (i:Int)+(j:Int)=((i+j:Nat):Int) by omega,PT om];refine dK (λW=>OwnS S w0 W (pcE (.slice (ax ⟨g,0,aw⟩) N cap) ps::T)) l.drew ?_;refine q_do _ (λW=>pD om W) (q_at _ (λW h=>xY (h.at_ 0 rfl) om) ?_);refine q_do _ (λW=>pD om W) (q_at _ (λW h=>xY (h.at_ 0 rfl) om) ?_);refine cmp V B om om (DQ ?_);rw[KO];refine q_do _ (λW=>YF) ?_;intro w2 l;by_cases o:pw (ps.getD m pd) < pw (ps.getD ((i+j) / 2) pd)
    ·rw[alH (og o)] at z;simp only[o,alK,anH,i_f];exact aY ⟨i,(i+j) / 2,f',rfl,om,om,om,om,z,l⟩ (by simp[n0,n1,RowKit.intOf];omega)
    ·rw[alG (oh o)] at z;simp only[o,alL,anK,i_t,rs];rw[aA om om,show (((i+j) / 2:Nat):Int)+1=(((i+j) / 2+1:Nat):Int) by omega];exact aY ⟨(i+j) / 2+1,j,f',rfl,om,om,om,om,z,l⟩ (by simp[n0,n1,RowKit.intOf];omega)
   ·simp only[D,alL,i_f];have P:s=i:=by
     rw[<-z];cases f' with
    |zero=>rfl
    |succ q=>unfold Srt.bs;rw[alG om]
    subst P;refine loop (λvs W=>∃(q:Nat) (y:List Pc),vs=[.int .i64 (q:Int)]∧s<=q∧q<=m∧y.length=N∧(∀x∈y,ok x)∧Srt.down pd (q - s) q y=R∧OwnS S w0 W (pcE (.slice (ax ⟨g,0,aw⟩) N cap) y::T)) (λvs _=>n0 vs) ⟨m,ps,rfl,om,om,V,B,u,l⟩ ?_;clear l;rintro vs w2 ⟨q,y,rfl,hq,c7,hz,A,t,l⟩ _;simp only[cS,gd,rs,iN,bnx];by_cases E:(s:Int) < (q:Int)
    ·simp only[E,alK,i_t];obtain⟨q,rfl⟩:∃p,q=p+1:=⟨q - 1,om⟩;obtain⟨r,hr⟩:∃r,q+1 - s=r+1:=⟨q - s,om⟩;rw[hr] at t;unfold Srt.down at t;rw[apV] at t;refine dK (λW=>OwnS S w0 W (pcE (.slice (ax ⟨g,0,aw⟩) N cap) y::T)) l.drew ?_;refine p_do _ (λ_=>rB) ?_;rw[aA om om,show ((q+1:Nat):Int) - 1=(q:Int) by omega];refine q_do _ (λ_=>rB) ?_;rw[aA om om,show ((q+1:Nat):Int) - 1=(q:Int) by omega];refine q_do _ (λW=>pD om W) (q_at _ (λW h=>xY (h.at_ 0 rfl) om) ?_);refine q_do _ (λW=>pD om W) (q_at _ (λW h=>xY (h.at_ 0 rfl) om) ?_);refine q_do _ (λW=>pD om W) ?_;intro w3 l;subst hz;refine o_sw hc l A om om λw4 l=>?_
     try simp only[rs]
     try rw[aA (n:=((q+1:Nat):Int) - 1) om om,show ((q+1:Nat):Int) - 1=(q:Int) by omega]
     refine aY ⟨q,_,rfl,om,om,Srt.EK,λx hx=>A x (mm om om hx),?_,l⟩ (by simp[n0,RowKit.intOf]);rw[show q - s=r by omega];exact t
    ·simp only[E,alL,i_f];rw[show q - s=0 by omega] at t;unfold Srt.down at t;subst t;exact retK ⟨rfl,A,l⟩
  rw[alG h2] at u;simp only[show ai (((b - m:Nat):Int)=1)=au from alJ om,i_f];rw[aA (n:=(a:Int)+(b:Int)) om om,show (a:Int)+(b:Int)=((a+b:Nat):Int) by omega,PT om];dsimp only at u;unfold Srt.symS at u;generalize b9:(a+b) / 2=d at u;simp only[rs];rw[aA (n:=(d:Int)+(m:Int)) om om,show (d:Int)+(m:Int)=((d+m:Nat):Int) by omega];generalize X:(if d < m then d+m - b else a)=lo at u;generalize Z:(if d < m then d else m)=hi at u;have c0:a<=lo∧d+m - b<=lo∧(lo=a∨lo=d+m - b):=by
   rw[<-X];split<;>omega
  have c3:hi<=m∧hi<=d∧lo<=hi∧(hi=m∨hi=d):=by
   rw[<-Z,<-X];split<;>omega
  refine join λJ hJ=>?_;have fin:∀W,OwnS S w0 W (pcE (.slice (ax ⟨g,0,aw⟩) N cap) ps::T)->J [.int .i64 (lo:Int),.int .i64 (hi:Int)] W:=by
   intro W l;refine hJ _ _ λ_=>?_;simp only[cX,gd,rs,nz];rw[aA (n:=((d+m:Nat):Int) - 1) om om,show ((d+m:Nat):Int) - 1=((d+m - 1:Nat):Int) by omega];generalize Y:Srt.bs (λc=>Srt.lt pw (ps.getD (d+m - 1 - c) pd) (ps.getD c pd)) (b - a) lo hi=s at u;refine loop (λvs W=>∃(i j f:Nat),vs=[.int .i64 (i:Int),.int .i64 (j:Int)]∧lo<=i∧i<=j∧j<=hi∧j - i<=f∧Srt.bs (λc=>Srt.lt pw (ps.getD (d+m - 1 - c) pd) (ps.getD c pd)) f i j=s∧OwnS S w0 W (pcE (.slice (ax ⟨g,0,aw⟩) N cap) ps::T)) (λvs _=>n1 vs - n0 vs) ⟨lo,hi,b - a,rfl,om,om,om,om,Y,l⟩ ?_;clear l Y;rintro vs w1 ⟨i,j,f',rfl,c8,a1,hj,a6,z,l⟩ _;simp only[dB,gd,rs,nz];by_cases D:(i:Int) < (j:Int)
   ·simp only[D,alK,i_t];obtain⟨f',rfl⟩:∃q,f'=q+1:=⟨f' - 1,om⟩;unfold Srt.bs at z;rw[alH om] at z;rw[aA (n:=(i:Int)+(j:Int)) om om,show (i:Int)+(j:Int)=((i+j:Nat):Int) by omega,PT om];refine dK (λW=>OwnS S w0 W (pcE (.slice (ax ⟨g,0,aw⟩) N cap) ps::T)) l.drew ?_;refine q_do _ (λ_=>rB) ?_;rw[aA (n:=((d+m - 1:Nat):Int) - (((i+j) / 2:Nat):Int)) om om,show ((d+m - 1:Nat):Int) - (((i+j) / 2:Nat):Int)=((d+m - 1 - (i+j) / 2:Nat):Int) by omega];refine q_do _ (λW=>pD om W) (q_at _ (λW h=>xY (h.at_ 0 rfl) om) ?_);refine q_do _ (λW=>pD om W) (q_at _ (λW h=>xY (h.at_ 0 rfl) om) ?_);refine cmp V B om om (DQ ?_);rw[KO];refine q_do _ (λW=>YF) ?_;intro w2 l;by_cases o:pw (ps.getD (d+m - 1 - (i+j) / 2) pd) < pw (ps.getD ((i+j) / 2) pd)
    ·rw[alH (og o)] at z;simp only[o,alK,anH,i_f];exact aY ⟨i,(i+j) / 2,f',rfl,om,om,om,om,z,l⟩ (by simp[n0,n1,RowKit.intOf];omega)
    ·rw[alG (oh o)] at z;simp only[o,alL,anK,i_t,rs];rw[aA om om,show (((i+j) / 2:Nat):Int)+1=(((i+j) / 2+1:Nat):Int) by omega];exact aY ⟨(i+j) / 2+1,j,f',rfl,om,om,om,om,z,l⟩ (by simp[n0,n1,RowKit.intOf];omega)
   ·simp only[D,alL,i_f];have P:s=i:=by
     rw[<-z];cases f' with
    |zero=>rfl
    |succ q=>unfold Srt.bs;rw[alG om]
    subst P;rw[aA (n:=((d+m:Nat):Int) - (s:Int)) om om,show ((d+m:Nat):Int) - (s:Int)=((d+m - s:Nat):Int) by omega];generalize he:d+m - s=e at u;have a7:∀(y x1:List Pc) (W1:ao),(if s < m∧m < e then Srt.rot pd (e - s) (m - s) (e - m) m ps else ps)=x1->True:=λ_ _ _ _=>trivial;generalize H:(if s < m∧m < e then Srt.rot pd (e - s) (m - s) (e - m) m ps else ps)=x1 at u;refine join λJ2 b6=>?_;have fin2:∀W,x1.length=N->(∀x∈x1,ok x)->OwnS S w0 W (pcE (.slice (ax ⟨g,0,aw⟩) N cap) x1::T)->J2 [] W:=by
     intro W O F l;refine b6 _ _ λ_=>?_;simp only[cY,gd,rs,nz];generalize I:(if a < s∧s < d then Srt.sym pd pw f a s d x1 else x1)=x2 at u;refine join λJ3 b7=>?_;have fin3:∀W,x2.length=N->(∀x∈x2,ok x)->OwnS S w0 W (pcE (.slice (ax ⟨g,0,aw⟩) N cap) x2::T)->J3 [] W:=by
      intro W b8 G l;refine b7 _ _ λ_=>?_;simp only[cT,gd,rs,nz];by_cases Q:d < e
      ·simp only[show ai ((d:Int) < (e:Int))=av from alM om,rs];by_cases U:e < b
       ·simp only[show ai ((e:Int) < (b:Int))=av from alM om,i_t,rs];rw[alH ⟨Q,U⟩] at u;refine Xc hc hm hl f d e b om Q U b1 b8 l G λW L l=>?_;rw[u] at L l;exact retK ⟨rfl,L,l⟩
       ·simp only[show ai ((e:Int) < (b:Int))=au from alJ om,i_f,rs];rw[alG (λh=>U h.2)] at u;rw[u] at G l;exact retK ⟨rfl,G,l⟩
      ·simp only[show ai ((d:Int) < (e:Int))=au from alJ om,i_f,rs];rw[alG (λh=>Q h.1)] at u;rw[u] at G l;exact retK ⟨rfl,G,l⟩
     by_cases Q:a < s
     ·simp only[show ai ((a:Int) < (s:Int))=av from alM om,rs];by_cases U:s < d
      ·simp only[show ai ((s:Int) < (d:Int))=av from alM om,i_t,rs];rw[alH ⟨Q,U⟩] at I;refine Xc hc hm hl f a s d om Q U om O l F λW L l=>?_;rw[I] at L l;exact fin3 W (by rw[<-I,Srt.HF];exact O) L l
      ·simp only[show ai ((s:Int) < (d:Int))=au from alJ om,i_f,rs];rw[alG (λh=>U h.2)] at I;rw[I] at O F l;exact fin3 W O F l
     ·simp only[show ai ((a:Int) < (s:Int))=au from alJ om,i_f,rs];rw[alG (λh=>Q h.1)] at I;rw[I] at O F l;exact fin3 W O F l
    by_cases Q:s < m
    ·simp only[show ai ((s:Int) < (m:Int))=av from alM om,rs];by_cases U:m < e
     ·simp only[show ai ((m:Int) < (e:Int))=av from alM om,i_t,rs];rw[alH ⟨Q,U⟩] at H;refine ajQ hc V l B Q U om hl λW L l=>?_;rw[H] at L l;exact fin2 W (by rw[<-H,Srt.KV];exact V) L l
     ·simp only[show ai ((m:Int) < (e:Int))=au from alJ om,i_f,rs];rw[alG (λh=>U h.2)] at H;subst H;exact fin2 w1 V B l
    ·simp only[show ai ((s:Int) < (m:Int))=au from alJ om,i_f,rs];rw[alG (λh=>Q h.1)] at H;subst H;exact fin2 w1 V B l
  by_cases c:d < m
  ·simp only[show ai ((d:Int) < (m:Int))=av from alM om,i_t,rs];rw[alH c] at X Z;rw[aA (n:=((d+m:Nat):Int) - (b:Int)) om om,show ((d+m:Nat):Int) - (b:Int)=(lo:Int) by omega,show (d:Int)=(hi:Int) by omega];exact fin w l
  ·simp only[show ai ((d:Int) < (m:Int))=au from alJ om,i_f,rs];rw[alG c] at X Z;rw[show (a:Int)=(lo:Int) by omega,show (m:Int)=(hi:Int) by omega];exact fin w l
end
end
section
open Eng Go.RowKit
section
variable {w:ao}{PK PK2 PK3:PKT}{K:VWP}{S:Nat->Prop}{w0:ao}{L T:List Ent}
theorem VM {g N:Nat}{ok:Pc->Prop}{ps:List Pc}(t:CmpOk M cv ok)(hm:T[jm]?=ax (.mem M))(V:N<=100000000)(B:ps.length=N)(b:OwnS S w0 w (pcE (.slice (ax ⟨g,0,aw⟩) N cap) ps::T))(u:∀x∈ps,ok x)
  (k:∀W,(∀x∈Srt.Ji pd pw ps,ok x)->OwnS S w0 W (pcE (.slice (ax ⟨g,0,aw⟩) N cap) (Srt.Ji pd pw ps)::T)->K (.tuple #[]) W) :
  CallX ah 361 #[.slice (ax ⟨g,0,aw⟩) N cap,.int .i64 (N:Int),cv] w PK K:=by
 unfold Srt.Ji at k;rw[B] at k;generalize y:Srt.rounds pd pw (N+1) 20 (Srt.blk pd pw 20 (N+1) 0 ps)=R at k;refine fG (fI (k0:=RetK λv W=>v=.tuple #[]∧(∀x∈R,ok x)∧OwnS S w0 W (pcE (.slice (ax ⟨g,0,aw⟩) N cap) R::T)) ?_) (λe W ⟨v,he,G,m,b⟩=>by subst he;subst G;exact k W m b);unfold dR nz;generalize C:Srt.blk pd pw 20 (N+1) 0 ps=Z at y;refine loop (λvs W=>∃(a f:Nat) (d:List Pc),vs=[.int .i64 (a:Int),.int .i64 ((a+20:Nat):Int)]∧a<=N∧N < a+f∧d.length=N∧(∀x∈d,ok x)∧Srt.blk pd pw 20 f a d=Z∧OwnS S w0 W (pcE (.slice (ax ⟨g,0,aw⟩) N cap) d::T)) (λvs _=>N+20 - n0 vs) ⟨0,N+1,ps,rfl,om,om,B,u,C,b⟩ ?_;clear b C;rintro vs X ⟨a,f,d,rfl,D,hf,j,h,l,b⟩ _;simp only[dH,gd,rs,nz];obtain⟨f,rfl⟩:∃q,f=q+1:=⟨f - 1,om⟩;unfold Srt.blk at l;rw[j] at l;by_cases r:((a+20:Nat):Int)<=(N:Int)
 ·simp only[r,alK,i_t];rw[alH om] at l;refine abT t hm j b h om D om λw2 m b=>?_
  try simp only[rs]
  rw[aA om om];exact aY ⟨a+20,f,_,by congr 2,om,om,by rw[Srt.TB];exact j,m,l,b⟩ (by simp[n0,RowKit.intOf];omega)
 ·simp only[r,alL,i_f];rw[alG om] at l;refine abT t hm j b h om D om λw2 m b=>?_;rw[l] at m b;have s:Z.length=N:=by rw[<-l,Srt.TB];exact j
  refine loop (λvs W=>∃(n f:Nat) (d:List Pc),vs=[.int .i64 (n:Int)]∧1<=n∧N < f+n∧d.length=N∧(∀x∈d,ok x)∧Srt.rounds pd pw f n d=R∧OwnS S w0 W (pcE (.slice (ax ⟨g,0,aw⟩) N cap) d::T)) (λvs _=>N - n0 vs) ⟨20,N+1,Z,rfl,om,om,s,m,y,b⟩ ?_;clear b y l m s;rintro vs w3 ⟨n,f2,d,rfl,hn,H,j,h,l,b⟩ _;simp only[dF,gd,rs,nz];by_cases o:(n:Int) < (N:Int)
  ·simp only[o,alK,i_t];obtain⟨f2,rfl⟩:∃q,f2=q+1:=⟨f2 - 1,om⟩;unfold Srt.rounds at l;rw[j,alH om] at l;rw[aA om om];generalize E:Srt.mrg pd pw n (N+1) 0 d=Y at l;have back:∀W,Y.length=N->(∀x∈Y,ok x)->OwnS S w0 W (pcE (.slice (ax ⟨g,0,aw⟩) N cap) Y::T)->Q6 (λvs W=>∃(n f:Nat) (d:List Pc),vs=[.int .i64 (n:Int)]∧1<=n∧N < f+n∧d.length=N∧(∀x∈d,ok x)∧Srt.rounds pd pw f n d=R∧OwnS S w0 W (pcE (.slice (ax ⟨g,0,aw⟩) N cap) d::T)) (λvs _=>N - n0 vs) [.int .i64 (n:Int)] w3 [.int .i64 (IntKind.i64.wrap ((n:Int)*2))] W:=by
    intro W I z b;rw[aA om om,show (n:Int)*2=((2*n:Nat):Int) by omega];exact aY ⟨2*n,f2,Y,rfl,om,om,I,z,l,b⟩ (by simp[n0,RowKit.intOf];omega)
   refine loop (λvs W=>∃(a f:Nat) (d:List Pc),vs=[.int .i64 (a:Int),.int .i64 ((a+2*n:Nat):Int)]∧a<=N∧N < a+f∧d.length=N∧(∀x∈d,ok x)∧Srt.mrg pd pw n f a d=Y∧OwnS S w0 W (pcE (.slice (ax ⟨g,0,aw⟩) N cap) d::T)) (λvs _=>N+2*n - n0 vs) ⟨0,N+1,d,by congr 3;omega,om,om,j,h,E,b⟩ ?_;clear b E h j;rintro vs L ⟨a2,f3,d,rfl,O,P,j,h,i,b⟩ _;simp only[dG,gd,rs,nz];obtain⟨f3,rfl⟩:∃q,f3=q+1:=⟨f3 - 1,om⟩;unfold Srt.mrg at i;rw[j] at i;rw[aA (n:=(a2:Int)+(n:Int)) om om,show (a2:Int)+(n:Int)=((a2+n:Nat):Int) by omega];by_cases p:((a2+2*n:Nat):Int)<=(N:Int)
   ·simp only[p,alK,i_t];rw[alH om] at i;refine Xc t hm om (2*n) a2 (a2+n) (a2+2*n) om om om om j b h λF m b=>?_
    try simp only[rs]
    rw[aA (n:=(2:Int)*(n:Int)) om om,aA om om];exact aY ⟨a2+2*n,f3,_,by congr 4<;>omega,om,om,by rw[Srt.HF];exact j,m,i,b⟩ (by simp[n0,RowKit.intOf];omega)
   ·simp only[p,alL,i_f];rw[alG om] at i;refine join λJ Q=>?_;have fin:∀W,Y.length=N->(∀x∈Y,ok x)->OwnS S w0 W (pcE (.slice (ax ⟨g,0,aw⟩) N cap) Y::T)->J [] W:=by
     intro W m U b;refine Q _ _ λ_=>?_;simp only[dI,gd,rs,nz];exact back W m U b
    by_cases c:a2+n < N
    ·simp only[show ai (((a2+n:Nat):Int) < (N:Int))=av from alM om,i_t];rw[alH c] at i;refine Xc t hm om (N - a2) a2 (a2+n) N om om c om j b h λF m b=>?_;rw[i] at m b;exact fin F (by rw[<-i,Srt.HF];exact j) m b
    ·simp only[show ai (((a2+n:Nat):Int) < (N:Int))=au from alJ om,i_f];rw[alG c] at i;rw[i] at j h b;exact fin L j h b
  ·simp only[o,alL,i_f];have A:d=R:=by
    cases f2 with
   |zero=>exact l
   |succ q=>
     unfold Srt.rounds at l;rw[j,alG om] at l;exact l
   rw[A] at h b;exact retK ⟨rfl,h,b⟩
theorem YU {g N:Nat}{ok:Pc->Prop}{ps:List Pc}(d:CmpOk M cv ok)(hm:T[jm]?=ax (.mem M))(e:N<=100000000)(f:ps.length=N)(a:OwnS S w0 w (pcE (.slice (ax ⟨g,0,aw⟩) N cap) ps::T))(b:∀x∈ps,ok x)
  (k:∀W c,c.Perm ps->Srt.srt pw c->OwnS S w0 W (pcE (.slice (ax ⟨g,0,aw⟩) N cap) c::T)->K (.tuple #[]) W) :
  CallX ah 351 #[.slice (ax ⟨g,0,aw⟩) N cap,cv] w PK K:=by
 refine⟨dD ?_⟩;unfold bP nz;rw[bQ aoE];refine VM d hm e f a b λW h a=>?_;obtain⟨p,q⟩:=Srt.U7 pd pw ps;exact k W _ p q a
end
end
end Go.Proofs.YtlipjfcbjemicaaGreatDoor
