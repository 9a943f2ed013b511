/- Parts of the proof. -/
import Derived.Test.YtlgndjkieegnaaaGreatDoorRows
import Derived.Lib.ConvBytes
import Derived.Laws.IdiomCopy
import Derived.Test.YtlgndjkieegnaaaGreatDoorMpnjicoea
set_option linter.all false
set_option maxRecDepth 20000
open Go.Proofs.Tryz
open Go.Proofs.Tryz renaming prog->ah
open Option renaming some->ay,none->ax
open Bool renaming true->aw,false->au
open Go renaming Value->aq,World->ao
open Decidable renaming decide->ai
namespace Go.Proofs.YtlgndjkieegnaaaGreatDoor
variable{A:Nat->Prop}{D U:TypeId}{K:VWP}{L:List Eng.Ent}{M:Eng.Mem}{P:Program}{PK:PKT}{R:Ending->FrameMode->ao->Prop}{W w w' w0:ao}{a way:Int}{b cap fb i j m most p rb sz tb:Nat}{c t0 v v' v2:aq}{cl near:List Nat}{cs news xs:List aq}{u:FrameMode}{xo yo:Operand}{α:Type}{t0 t1 t2:aq}{k0:Eng.KT}
section
open Eng Go.RowKit
abbrev IW (lens:List Nat):Nat->Int:=λi=>((Fl.first lens (if i<=15 then i else 0):Nat):Int)
def TbAt (A:Nat->Prop)(w:ao)(b:Nat)(lens:List Nat):Prop:=∃a c o,A b∧(tbE b a c (cnt lens) (IW lens) o).is w∧SlA A w o 1 (bh lens 15).length (bF (bh lens 15))
theorem SE:eS ah 281=true:=krx
section
variable {w:ao}{PK:PKT}{K:VWP}{S:Nat->Prop}{w0:ao}{L:List Ent}
theorem St {off:Nat}:DoX ah (mFA 322 (af b off) 2) w PK K=K (af b (off+2)) w:=aW anH
theorem X4 {off:Nat}:DoX ah (mFA 322 (af b off) 3) w PK K=K (af b (off+18)) w:=aW akR
theorem P8 {off:Nat}:DoX ah (mFA 322 (af b off) 4) w PK K=K (af b (off+34)) w:=aW apM
theorem m_tb {a:aq}{f:Nat->Int}(b:a.oneCell'=aw)(d:c.oneCell'=aw):DoX ah (aV 322 #[(0,a),(1,c),(2,nsV f)]) w PK K=K (tbV a c f (λ_=>0) cI) w:=by
 cases a<;>first|(cases b;done)|skip
 all_goals cases c<;>first|(cases d;done)|exact aD krx
theorem alW {a:aq}{f g:Nat->Int}(d:a.oneCell'=aw)(e:c.oneCell'=aw)(h:bT S w0 w L)(k:∀b w',bT S w0 w' (tbE b a c f g cI::L)->K (af b 0) w'):DoX ah (GP 322 (tbV a c f g cI)) w PK K:=by
 cases a<;>first|(cases d;done)|skip
 all_goals cases c<;>first|(cases e;done)|exact bK (λb=>af b 0) (tbC _ _ f g cI) 322 (λ_=>by kernel_rfl) h k
theorem tb_n (d:bT S w0 w L)(j:Nat){a o:aq}{f g:Nat->Int}(hi:L[j]?=ay (tbE b a c f g o)):DoX ah (aH 319 (af b (0+2))) w PK K=K (nsV f) w:=EN (d.X9 j hi (0+2) (nsC f) rfl afM)
theorem T7 (d:bT S w0 w L)(j:Nat){a o:aq}{f g:Nat->Int}(hi:L[j]?=ay (tbE b a c f g o)):DoX ah (aH 70 (af b (0+34))) w PK K=K o w:=aJ HP (d.cell j hi 34 rfl)
theorem Xr (j:Nat){a o:aq}{f g d:Nat->Int}(e:bT S w0 w L)(hi:L[j]?=ay (tbE b a c f g o))(k:∀w',bT S w0 w' (L.set j (tbE b a c f d o))->K undef w') :
  DoX ah (aN 319 (af b (0+18)) (nsV d)) w PK K:=B9 j e hi (new:=nsC d) szNs (VL d) (by show 0+18+16<=35;omega) k
theorem XU (j:Nat){a o o':aq}{f g:Nat->Int}(h:o'.oneCell'=aw)(d:bT S w0 w L)(hi:L[j]?=ay (tbE b a c f g o))(k:∀w',bT S w0 w' (L.set j (tbE b a c f g o'))->K undef w') :
  DoX ah (aN 70 (af b (0+34)) o') w PK K:=aO j d hi krx h (by show 0+34 < 35;omega) k
end
def ct (lens:List Nat)(l i:Nat):List Nat:=(List.range i).filter λi=>ai (lens.getD i 0=l)
theorem qj (lens:List Nat)(l i:Nat):(ct lens l i).length<=i:=by
 have:=aAZ (λi=>ai (lens.getD i 0=l)) (List.range i);rw[aA0] at this;exact this
theorem qk (lens:List Nat):∀l,(bh lens l).length<=l*lens.length
|0=>by simp[bh]
|l+1=>by
  have a:=qk lens l;have b:=qj lens (l+1) lens.length;have e:kx lens (l+1)=ct lens (l+1) lens.length:=rfl;rw[bh,auH,e,awS];omega
theorem pA (a b:List Nat):bF (a++b)=bF a++bF b:=by simp[bF]
theorem EM (lens:List Nat)(v:aq)(M:Mem)(w:ao)(j:∀l∈lens,l<=15)(g:lens.length<=100000)(P:0 < lens.length)(z:M.has w)(y:SlA M.A M.w v 1 lens.length (bF lens)) :
  jR ah 270 #[v] M w (λr N=>if bn lens≠0 then r=.tuple #[.pointer ax,ad (bn lens)] else ∃b,r=.tuple #[af b 0,ad 0]∧TbAt N.A N.w b lens):=by
 refine bB z λK G=>FV ?_;unfold Hd nz;have a:bT M.A w w [.mem M]:=bT.memS z;refine bH a 0 rfl (Mv lens v M w j g z y) ?_;rintro _ N1 Q g1 ⟨cv,rfl,k,m⟩ a;simp only[ex,eC];by_cases n:bn lens=0
 case neg=>
  simp only[n,ne_eq,awJ,auE,i_t];exact G _ _ N1 _ 0 a rfl g1 (by rw[auC n])
 have m:=m n;simp only[n,ne_eq,not_true,auF,i_f];refine bH a 0 rfl (MN lens v N1 Q g P (a.hasM 0 rfl) (y.le g1)) λd e w2 g2 o a=>?_;refine aK a (R:=λr=>r=nsV (cnt lens)) (jR.told (yG lens v e w2 j g (a.hasM 0 rfl) (y.le (g1.trans g2)))) ?_;rintro _ w3 rfl a;rw[m_tb o.one k];refine alW o.one k a λb S a=>?_;rw[bQ,St,tb_n a 0 rfl];refine aK a (R:=λr=>r=nsV (IW lens)) (jR.told (Gz lens e S g (a.hasM 1 rfl))) ?_;rintro _ w5 rfl a;rw[bQ,X4];refine Xr 0 a rfl λT a=>?_;have p:=y.le (g1.trans g2);have a:bT M.A w T [.urow 3 1 cI 0 [],tbE b d cv (cnt lens) (IW lens) cI,.mem e]:=bT.nilU (L:=[tbE b d cv (cnt lens) (IW lens) cI,.mem e]) a _ _;refine loop (λvs W=>∃(l:Nat) (ov:aq),vs=[ad ((l+1:Nat):Int)]∧l<=15∧bT M.A w W [.urow 3 1 ov (bh lens l).length (bF (bh lens l)),tbE b d cv (cnt lens) (IW lens) ov,.mem e]) (λvs _=>16 - n0 vs) ⟨0,cI,rfl,om,a⟩ ?_;clear a;rintro vs U ⟨l,ov,rfl,q,a⟩ _;simp only[Bf,gd,rs,nz];by_cases s:((l+1:Nat):Int)<=15
 ·simp only[s,auE,i_t];rw[aZ avB (p.now (a.hasM 2 rfl))];have V:=qk lens l;have H:l*lens.length<=15*100000:=axG q g;refine loop (λvs W=>∃(i:Nat) (ov:aq),vs=[ad i]∧i<=lens.length∧bT M.A w W [.urow 3 1 ov (bh lens l++ct lens (l+1) i).length (bF (bh lens l++ct lens (l+1) i)),tbE b d cv (cnt lens) (IW lens) ov,.mem e]) (λvs _=>lens.length - n0 vs) ⟨0,ov,rfl,om,by
   rw[show ct lens (l+1) 0=[] from rfl,avA];exact a⟩ ?_
  clear a;rintro vs I ⟨i,ov,rfl,hi,a⟩ _;simp only[B5,gd,rs,nz];by_cases f:(i:Int) < (lens.length:Int)
  ·have t:i < lens.length:=om
   simp only[f,auE,i_t];refine join λJ X=>?_;obtain⟨b2,off,Y,Z⟩:=pO (p.now (a.hasM 2 rfl)) t;have B:lens.getD i 0=lens[i]:=by rw[auK,auO t];rfl
   refine aD (Y I) |>.mpr (aD (aB aU Z) |>.mpr ?_);have a1:=qj lens (l+1) i;have c:ct lens (l+1) (i+1)=ct lens (l+1) i++(if lens[i]=l+1 then [i] else []):=by
    unfold ct;rw[azZ,aA1]
    congr 1
    rw[<-B];by_cases h:lens.getD i 0=l+1
    ·rw[auC h];exact List.filter_cons_of_pos (auG h)
    ·rw[auB h];exact List.filter_cons_of_neg (by rw[auD h];decide)
   have fin:∀(W:ao) (ov:aq),bT M.A w W [.urow 3 1 ov (bh lens l++ct lens (l+1) (i+1)).length (bF (bh lens l++ct lens (l+1) (i+1))),tbE b d cv (cnt lens) (IW lens) ov,.mem e]->J [] W:=by
    intro W ov a;refine X _ _ λ_=>?_;simp only[Bk,gd,rs,nz];rw[aA om om];exact bC ⟨i+1,ov,rfl,om,a⟩ (by simp[n0,RowKit.intOf];omega)
   simp only[rs];by_cases he:lens[i]=l+1
   ·rw[auC he] at c;simp only[show ai (((lens[i]:Nat):Int)=((l+1:Nat):Int))=aw from auG om,i_t,rs,bQ];rw[P8,T7 a 1 rfl];refine xR (i:Int) a λb3 w9 a=>?_;refine sR 1 a rfl (a.sl 0 rfl 1 1 1 rfl) wQ (by rw[auH];omega) λv' a6 a=>?_
    try simp only[rs,bQ]
    rw[P8];refine XU 2 (bX (a.at_ 1 rfl)) a rfl λC a=>?_;refine fin C v' ?_;have e1:bF (bh lens l++ct lens (l+1) (i+1))=bF (bh lens l++ct lens (l+1) i)++Qz [(i:Int)]:=by
     rw[c,<-auN,pA];rfl
    have e2:(bh lens l++ct lens (l+1) (i+1)).length=(bh lens l++ct lens (l+1) i).length+1:=by
     rw[c,<-auN,auH];rfl
    rw[e1,e2];exact a.tail
   ·rw[auB he,avA] at c;simp only[show ai (((lens[i]:Nat):Int)=((l+1:Nat):Int))=au from auD om,i_f];refine fin I ov ?_;rw[c];exact a
  ·simp only[f,auF,i_f];have D:i=lens.length:=om
   subst D;rw[aA om om];exact bC ⟨l+1,ov,rfl,om,a⟩ (by simp[n0,RowKit.intOf];omega)
 ·have g:l=15:=om
  subst g;simp only[s,auF,i_f];obtain⟨O,g3,u,a⟩:=bT.bG (L:=[tbE b d cv (cnt lens) (IW lens) ov,.mem e]) a 1 rfl;have a:bT M.A w U [tbE b d cv (cnt lens) (IW lens) ov,.mem O]:=a;have E:=a.at_ 0 rfl;obtain⟨N4,g4,F,x,a⟩:=bT.freeze (L:=[.mem O]) a 0 rfl;refine G _ _ N4 _ 0 a rfl (g1.trans (g2.trans (g3.trans g4))) ?_;rw[auB (by simp[n])];exact⟨b,rfl,d,cv,ov,x b rfl,by rw[F];exact E,u.le g4⟩
def iw (lens:List Nat)(s:List UInt8):Nat->Nat->Nat->Nat->Nat×Nat×Int
|0,_,p,_=>(0,p,13)
|f+1,l,p,code=>if Fl.bN lens 15<=Fl.bN lens l then (0,p,13) else if 8*s.length<=p then (0,p,4)
  else if 2*code+Fl.bit s p < Fl.first lens (l+1)+lens.count (l+1) then ((bh lens 15).getD (Fl.bN lens l+(2*code+Fl.bit s p - Fl.first lens (l+1))) 0,p+1,0)
  else iw lens s f (l+1) (p+1) (2*code+Fl.bit s p)
def du (lens:List Nat)(s:List UInt8)(p:Nat):Nat×Nat×Int:=iw lens s 16 0 p 0
theorem ti (lens:List Nat):(List.range lens.length).map (λi=>lens.getD i 0)=lens:=by
 refine aA2 sm λi b a=>?_;rw[List.getElem_map,List.getElem_range,auK,auO a];rfl
theorem ql (lens:List Nat)(l:Nat):(kx lens l).length=lens.count l:=by
 conv=>rhs;rw[<-ti lens]
 rw[List.count_eq_countP,List.countP_map,List.countP_eq_length_filter];unfold kx
 congr 1
theorem nv (lens:List Nat):∀l,(bh lens l).length=Fl.bN lens l
|0=>rfl
|l+1=>by rw[bh,auH,nv lens l,ql,Fl.bN]
theorem nc (lens:List Nat){a:Nat}(h:a<=b):Fl.bN lens a<=Fl.bN lens b:=by
 induction b with
|zero=>
  have:a=0:=om
  subst this;exact auL _
|succ b c=>
  rcases avI a (b+1) with d|d
  ·have:=c om;rw[Fl.bN];omega
  ·have:a=b+1:=om
   subst this;exact auL _
theorem akV {c:Nat}(a:b < 2)(d:c<=1000000):bOr .i64 ((c*2:Nat):Int) (b:Int)=((2*c+b:Nat):Int):=by
 have e:c*2 ||| b=2*c+b:=by
  have:=aAY (i:=1) (b:=b) (by simpa using a) c;rw[axH c];simpa using this.symm
 unfold bOr;show IntKind.wrap .i64 (((BitVec.ofInt 64 ((c*2:Nat):Int) ||| BitVec.ofInt 64 (b:Int)).toNat:Nat):Int)=_;rw[BitVec.ofInt_natCast,BitVec.ofInt_natCast,BitVec.toNat_or,BitVec.toNat_ofNat,BitVec.toNat_ofNat,awB om,awB om,e];exact aA om om
theorem aaD {a o:aq}{f g:Nat->Int}(d:M.A b)(h:(tbE b a c f g o).is M.w)(e:M.has W):(tbE b a c f g o).is W:=by
 show W.heap[b]?=_;rw[e b d];exact h
section
variable {W:ao}{b:Nat}{a c o:aq}{f g:Nat->Int}
theorem aiL (h:(tbE b a c f g o).is W):(aH 70 (af b (0+34))).run ah W=.ok (.value o) W:=aB HP (aI (T:=322) (cs:=tbC a c f g o) h rfl)
theorem Wq (h:(tbE b a c f g o).is W)(hi:i < 16):(aH 3 (af b (0+2+i))).run ah W=.ok (.value (ad (f i))) W:=aB aU (aI (T:=322) (cs:=tbC a c f g o) h (by
 unfold tbC;rw[show 0+2+i=i+1+1 by omega,avR,avR,awR (by show i < 16;exact hi)];exact Ku f hi))
theorem afW (h:(tbE b a c f g o).is W)(hi:i < 16):(aH 3 (af b (0+18+i))).run ah W=.ok (.value (ad (g i))) W:=aB aU (aI (T:=322) (cs:=tbC a c f g o) h (by
 unfold tbC;rw[show 0+18+i=(i+16)+1+1 by omega,avR,avR,awW (by show 16<=i+16;omega)];show (nsC g++[o])[i+16 - 16]?=_;rw[ayS,awR (by show i < 16;exact hi)];exact Ku g hi))
end
theorem K1 {a:Option Addr}{l:Nat}{p:Addr}(h:wB a l cap sz=ay p):∃q:Addr,a=ay q∧q.block=p.block:=by
 unfold wB at h;split at h
 ·exact⟨p,h,rfl⟩
 ·obtain⟨q,b,rfl⟩:=awP.1 h;exact⟨q,b,by unfold Addr.add;split<;>rfl⟩
theorem SlA.aeV {a:Option Addr}{n:Nat}(h:SlA A w (.slice a n cap) sz n cs)(hi:i<=n):SlA A w (.slice (wB a i cap sz) (n - i) (cap - i)) sz (n - i) (cs.drop (i*sz)):=by
 have b:=h.2.2 _ _ _ rfl;refine⟨Sl.from h.1 hi b,λp l c e g=>?_,λa' l c e=>?_⟩
 ·injection e with e _ _
  obtain⟨q,d,f⟩:=K1 e;have:=h.2.1 q n cap (by rw[d]) om
  rwa [<-f]
 ·injection e with _ e2 e3
  omega
theorem VU :DoX ah (mEq .eql 281 xo yo (af b 0) (.pointer ax)) w PK K=K (.bool au) w:=aD krx
section
variable {w:ao}{PK:PKT}{K:VWP}{S:Nat->Prop}{w0:ao}{L:List Ent}
theorem QO {s:List UInt8}{lens:List Nat}(j jm:Nat)(D:jm≠j)(a:bT S w0 w L)(P:L[j]?=ay (bqE b s way p))(hm:L[jm]?=ay (.mem M))(ht:TbAt M.A M.w tb lens)(hl:lens.length<=1000)(hw:way=0∨way=1)(hp:p<=8*s.length)(hs:s.length<=1000000000)
  (k:∀way' W,way'=0∨way'=1->(du lens s p).2.1<=8*s.length->bT S w0 W (L.set j (bqE b s way' (du lens s p).2.1))->K (.tuple #[ad (du lens s p).1,ad (du lens s p).2.2]) W) :
  cR ah 320 #[af tb 0,af b 0] w PK K:=by
 have E:j < L.length:=(auV.1 P).1;generalize hR:du lens s p=R at k;refine gK (CP (k0:=wT λv W=>∃way',(way'=0∨way'=1)∧R.2.1<=8*s.length∧v=.tuple #[ad R.1,ad R.2.2]∧bT S w0 W (L.set j (bqE b s way' R.2.1))) ?_) (λe W ⟨v,he,way',F,h2,hv,a⟩=>by subst he;subst hv;exact k way' W F h2 a);unfold wF nz;obtain⟨ta,tc,tv,Q,g,m⟩:=ht;rw[VU];simp only[rs];rw[GF];simp only[rs,bQ];have o:∀x:Int×Nat,(L.set j (bqE b s x.1 x.2))[jm]?=ay (.mem M):=λx=>by rw[azU (Ne.symm D)];exact hm
 rw[P8];refine aD (aiL (aaD Q g (a.hasM jm hm))) |>.mpr ?_;have hlen:=nv lens 15;refine loop (λvs W=>∃(l q code:Nat) (way:Int) (G:aq),vs=[G,ad code,ad ((l+1:Nat):Int)]∧SlA M.A M.w G 1 (Fl.bN lens 15 - Fl.bN lens l) (bF ((bh lens 15).drop (Fl.bN lens l)))∧l<=15∧code < 2 ^ l∧Fl.first lens (l+1)<=2*code∧(way=0∨way=1)∧q<=8*s.length ∧
  iw lens s (16 - l) l q code=R∧bT S w0 W (L.set j (bqE b s way q))) (λvs _=>16 - n2 vs) ⟨0,p,0,way,tv,rfl,?_,om,dc,by simp[Fl.first],hw,hp,hR,by rw[yH P];exact a⟩ ?_
 ·rw[show Fl.bN lens 0=0 from rfl,axB,aAE,<-hlen];exact m
 clear a;rintro vs w2 ⟨l,q,code,way,G,rfl,f,r,a1,a6,hw,H,c,a⟩ _;simp only[rY,gd,nz];rw[aZ avB (f.now (a.hasM jm (o (way,q))))];simp only[rs];have a7:=nc lens r;have a8:=Fl.Js (lens:=lens) 15;have I:16 - l=(15 - l)+1:=om
 rw[I,iw] at c;have J:(L.set j (bqE b s way q))[j]?=ay (bqE b s way q):=by rw[axR E]
 by_cases t:(0:Int) < ((Fl.bN lens 15 - Fl.bN lens l:Nat):Int)
 case neg=>
  simp only[t,auF,i_f];rw[auC om] at c;subst c;exact vG ⟨way,hw,H,rfl,a⟩
 have T:l < 15:=by
  rcases avI l 15 with h|h
  ·exact h
  ·have:l=15:=om
   subst this;omega
 rw[auB om] at c;simp only[t,auE,i_t];refine anQ (n:=1) j a J hw H om hs (λF W a=>?_) (λF W a=>?_)
 ·rw[auC dc,azT] at a;rw[auB om] at c;have u:Fl.num s q 1=Fl.bit s q:=by simp[Fl.num]
  simp only[ex,eC,show ai ((0:Int)≠0)=au by decide,i_f];have hb:=Fl.Xp s q;have U:2 ^ l<=2 ^ 14:=awL dc om;have V:(2:Nat) ^ 14=16384:=dc
  rw[II dc];rw[show (code:Int)*2 ^ (min (1:Int).toNat IntKind.i64.bits)=((code*2:Nat):Int) by
   rw[show min (1:Int).toNat IntKind.i64.bits=1 from rfl];push_cast;omega]
  rw[aA om om,u,b_or,akV hb om];have X:=a.hasM jm (o (1,q+1));have d:=aaD Q g X
  try simp only[rs,bQ]
  rw[X4,KP om];refine aD (afW d om) |>.mpr ?_;have y:IW lens (l+1)=((Fl.first lens (l+1):Nat):Int):=by show ((Fl.first lens (if l+1<=15 then l+1 else 0):Nat):Int)=_;rw[auC om]
  have z:cnt lens (l+1)=((lens.count (l+1):Nat):Int):=by unfold cnt;rw[auB om]
  have b0:lens.count (l+1)<=lens.length:=azQ;rw[y]
  try simp only[rs,bQ]
  rw[aA om om,St,KP om];refine aD (Wq d om) |>.mpr ?_;rw[z]
  try simp only[rs]
  have N:Fl.bN lens (l+1)=Fl.bN lens l+lens.count (l+1):=by rw[Fl.bN]
  have Y:=nc lens (show l+1<=15 by omega);by_cases B:((2*code+Fl.bit s q:Nat):Int) - ((Fl.first lens (l+1):Nat):Int) < ((lens.count (l+1):Nat):Int)
  ·simp only[B,auE,i_t];rw[auC om] at c;have O:((bh lens 15).drop (Fl.bN lens l)).length=Fl.bN lens 15 - Fl.bN lens l:=by rw[auT,hlen]
   have C:2*code+Fl.bit s q - Fl.first lens (l+1) < ((bh lens 15).drop (Fl.bN lens l)).length:=om
   obtain⟨b2,off,r1,r2⟩:=pO (l:=(bh lens 15).drop (Fl.bN lens l)) (by rw[O];exact f.now X) C;rw[show ((2*code+Fl.bit s q:Nat):Int) - ((Fl.first lens (l+1):Nat):Int)=((2*code+Fl.bit s q - Fl.first lens (l+1):Nat):Int) by omega];refine aD (r1 W) |>.mpr (aD (aB aU r2) |>.mpr ?_);have e0:((bh lens 15).drop (Fl.bN lens l))[2*code+Fl.bit s q - Fl.first lens (l+1)]=(bh lens 15).getD (Fl.bN lens l+(2*code+Fl.bit s q - Fl.first lens (l+1))) 0:=by
    rw[List.getElem_drop,auK,auO (by rw[auT] at C;omega)];rfl
   rw[e0];generalize (bh lens 15).getD (Fl.bN lens l+(2*code+Fl.bit s q - Fl.first lens (l+1))) 0=sym at c;subst c;exact vG ⟨1,.inr rfl,by show q+1<=_;omega,rfl,a⟩
  ·simp only[B,auF,i_f];rw[auB om] at c
   try simp only[rs,bQ]
   rw[St,KP om];refine aD (Wq d om) |>.mpr ?_;rw[z];obtain⟨oa,oc,rfl,Z⟩:=f.form;refine aD (dN avB (show _=ay 1 by kernel_rfl) om om) |>.mpr ?_;rw[auJ]
   try simp only[rs]
   rw[aA om om];refine bC ⟨l+1,q+1,2*code+Fl.bit s q,1,_,rfl,?_,om,?_,?_,.inr rfl,om,?_,a⟩ (by simp[n2,RowKit.intOf];omega)
   ·have:=f.aeV (i:=lens.count (l+1)) om;rw[show Fl.bN lens 15 - Fl.bN lens (l+1)=Fl.bN lens 15 - Fl.bN lens l - lens.count (l+1) by omega];have e:(bF ((bh lens 15).drop (Fl.bN lens l))).drop (lens.count (l+1)*1)=bF ((bh lens 15).drop (Fl.bN lens (l+1))):=by
     unfold bF;rw[avC,<-List.map_drop,ayM,N]
    rw[<-e];exact this
   ·rw[awT];omega
   ·rw[Fl.first];omega
   ·rw[show 16 - (l+1)=15 - l by omega];exact c
 ·simp only[ex,eC,show ai ((4:Int)≠0)=aw by decide,i_t];rw[auC om] at c;subst c;exact vG ⟨way,hw,H,rfl,a⟩
end
def flC (rb:Nat)(ov:aq)(most:Int):List Value:=[af rb 0,ov,ad most]
def flE (b rb:Nat)(ov:aq)(most:Int):Ent:=.cells b (flC rb ov most) 263
def pP (ov:aq)(out:List UInt8):Ent:=.urow 5 1 ov out.length (bA out)
theorem Xl:nN ah 263 0=ay 0:=krx
theorem BV:nN ah 263 1=ay 1:=krx
theorem alZ:nN ah 263 2=ay 2:=krx
theorem acK:eS ah 260=true:=krx
theorem QN:eS ah 80=true:=krx
section
variable {w:ao}{PK:PKT}{K:VWP}{S:Nat->Prop}{w0:ao}{L:List Ent}
theorem Pd {off:Nat}:DoX ah (mFA 263 (af b off) 0) w PK K=K (af b off) w:=aW Xl
theorem Y1 (a:bT S w0 w L)(j:Nat){ov:aq}{most:Int}(hi:L[j]?=ay (flE b rb ov most)):DoX ah (aH 260 (af b 0)) w PK K=K (af rb 0) w:=aJ acK (a.cell j hi 0 rfl)
theorem rX {ov:aq}{most:Int}{s:List UInt8}{n:Nat}(e j:Nat)(a:bT S w0 w L)(c:L[e]?=ay (flE fb b ov most))(f:L[j]?=ay (bqE b s way p))(hw:way=0∨way=1)(hp:p<=8*s.length)(g:n<=24)(i:s.length<=1000000000)
  (k:p+n<=8*s.length->∀W,bT S w0 W (L.set j (bqE b s (if 0 < n then 1 else way) (p+n)))->K (ad (Fl.num s p n)) W)
  (l:8*s.length < p+n->∀W,bT S w0 W L->PK [upI 4] W):cR ah 280 #[af fb 0,ad (n:Int)] w PK K:=by
 refine⟨yA ?_⟩;unfold pY nz;rw[bQ,Pd,Y1 a e c];refine anQ j a f hw hp g i (λd W a=>?_) (λd W a=>?_)
 ·simp only[ex];exact xQ (λ_=>k d W a) (λh=>absurd rfl h)
 ·simp only[ex];exact xQ (λh=>absurd h dc) (λ_=>l d W a)
theorem Yp {ov:aq}{n:Nat}{out:List UInt8}(e g:Nat)(d:bT S w0 w L)(c:L[e]?=ay (flE fb b ov most))(f:L[g]?=ay (pP ov out))(l:n<=1000000000)(hm:most<=1000000000)(i:out.length<=1000000000)
  (j:out.length+n<=most->∀W,bT S w0 W L->K (.tuple #[]) W) (k:most < out.length+n->∀W,bT S w0 W L->PK [upI 5] W):cR ah 307 #[af fb 0,ad (n:Int)] w PK K:=by
 refine⟨yN ?_⟩;unfold qG nz;refine cY (λW=>bT S w0 W L) d.drew ?_;refine dY _ (λ_=>dW) (dY _ (λ_=>bE BV) (gA ov (λW h=>aB QN (h.cell e c 1 rfl)) ?_));refine gA (ad (out.length:Int)) (λW h=>?_) ?_
 ·have:=h.slU g f;obtain⟨_,a,cap,rfl,_⟩:=this;simp[mB,builtin,Builtin.len_,run_underlying avH,goInt]
 refine sW ?_;rw[aA om om];refine dY _ (λ_=>dW) (dY _ (λ_=>bE alZ) (gA (ad (most:Int)) (λW h=>aB aU (h.cell e c 2 rfl)) (afQ ?_)));intro w2 d;exact kQ (λh=>j (by have:=auW h;omega) w2 d) (λh=>k (by have:=avT h;omega) w2 d)
theorem uM {e:Int}(a:e=0->K v w)(b:e≠0->PK [upI e] w):cR ah 311 #[v,ad e] w PK K:=by
 refine⟨jW ?_⟩;unfold fQ nz;simp only[rs];exact kQ (λh=>a (auW h)) λh=>b (avT h)
end
def gg (each first:Nat):Nat->Nat
|0=>first
|i+1=>gg each first i+2 ^ (i / each - 1)
theorem qm (each first:Nat):∀i,i<=40->gg each first i<=first+i*2 ^ 40
|0,_=>by simp[gg]
|i+1,h=>by
  have a:=qm each first i om
  have b:i / each<=i:=azS _ _;have c:2 ^ (i / each - 1)<=2 ^ 40:=awL dc om;rw[gg,awS];omega
def snC (a b:Int):List Value:=[ad a,ad b]
def snV (a b:Int):Value:=.agg (snC a b).toArray
def snE (c:Nat)(a b:Int):Ent:=.cells c (snC a b) 356
theorem asS:FU ah 356=ay 2:=krx
theorem szSn:(Tryz.prog.info? 356).map (·.size)=ay 2:=krx
theorem alT:nN ah 356 0=ay 0:=krx
theorem amM:nN ah 356 1=ay 1:=krx
section
variable {w:ao}{PK:PKT}{K:VWP}{S:Nat->Prop}{w0:ao}{L:List Ent}
theorem agZ (a:bT S w0 w L)(k:∀b w',bT S w0 w' (snE b 0 0::L)->K (af b 0) w'):DoX ah (fK 356) w PK K:=
 bK (λb=>af b 0) (snC 0 0) 356 (λ_=>by kernel_rfl) a k
theorem atM (a c:Int)(d:bT S w0 w L)(k:∀b w',bT S w0 w' (snE b a c::L)->K (af b 0) w'):DoX ah (GP 356 (snV a c)) w PK K:=
 bK (λb=>af b 0) (snC a c) 356 (λ_=>by kernel_rfl) d k
theorem m_sn {c:Int}:DoX ah (aV 356 #[(0,ad a),(1,ad c)]) w PK K=K (snV a c) w:=aD krx
theorem apY :DoX ah (aV 356 #[(0,ad a)]) w PK K=K (snV a 0) w:=aD krx
theorem SA (j:Nat){c a' d:Int}(f:bT S w0 w L)(hi:L[j]?=ay (snE b a c))(k:∀w',bT S w0 w' (L.set j (snE b a' d))->K undef w') :
  DoX ah (aN 356 (af b 0) (snV a' d)) w PK K:=jH j f hi (new:=snC a' d) szSn (by intro v e;simp only[snC,auI,avP,or_false] at e;rcases e with rfl|rfl<;>rfl) rfl k
theorem TP {K:Ending->ao->Prop}{c:Int}(i:Nat)(d:bT S w0 w L)(hi:L[i]?=ay (snE b a c))(k:K (.returned (snV a c)) w):Bw ah [.cell (af b 0) 356] w K:=
 eN (bJ (d.agg i hi asS)) k
end
theorem MU (i first each:Nat)(w:ao)(hi:i<=40)(he:1<=each)(o:first<=1000):Ret ah 337 #[ad (i:Int),ad (first:Int),ad (each:Int)] w (λv w'=>v=snV (gg each first i) ((i / each - 1:Nat):Int)∧Below w.heap.size w w'):=by
 refine aX λK j=>D2 ?_;unfold Ak nz;refine agZ (Own.start w) λb l a=>?_;have a:Own w l [snE b 0 0]:=a;have more:∀q:Nat,max 0 (((q:Nat):Int) - 1)=((q - 1:Nat):Int):=λq=>by omega
 have quo:∀k:Nat,((k:Nat):Int).tdiv (each:Int)=((k / each:Nat):Int):=λk=>by
  rw[aAX om];rfl
 refine loop (λvs W=>∃k:Nat,vs=[ad (gg each first k),ad k]∧k<=i∧Own w W [snE b 0 0]) (λvs _=>i - n1 vs) ⟨0,rfl,om,a⟩ ?_;clear a;rintro vs w2 ⟨k,rfl,p,a⟩ _;simp only[uI,gd,rs,nz];by_cases e:(k:Int) < (i:Int)
 ·simp only[e,auE,i_t];have g:k / each<=k:=azS _ _;have c:=qm each first (k+1)
  rw[gg] at c;have f:gg each first (k+1)=gg each first k+2 ^ (k / each - 1):=rfl
  rw[RM om,quo];generalize k / each=d at *;rw[aA om om]
  try simp only[rs]
  rw[aA om om,vC,more,II om];have c:=c om;have m:(2:Nat) ^ 40=1099511627776:=dc
  have n:2 ^ (d - 1)<=2 ^ 40:=awL dc om;rw[show min ((d - 1:Nat):Int).toNat IntKind.i64.bits=d - 1 by show min ((d - 1:Nat):Int).toNat 64=d - 1;omega];rw[show (1:Int)*2 ^ (d - 1)=((2 ^ (d - 1):Nat):Int) by push_cast;omega];have hm:(k+1)*2 ^ 40<=41*2 ^ 40:=awC _ om;generalize r:2 ^ (d - 1)=q at *;rw[aA om om]
  try simp only[rs]
  rw[aA om om,aA om om];exact bC ⟨k+1,by rw[f];rfl,om,a⟩ (by simp[n1,RowKit.intOf];omega)
 ·simp only[e,auF,i_f];have h:k=i:=om
  subst h;have g:k / each<=k:=azS _ _;have c:=qm each first (k+1)
  rw[gg] at c;have f:gg each first (k+1)=gg each first k+2 ^ (k / each - 1):=rfl
  rw[RM om,quo];generalize k / each=d at *;rw[aA om om]
  try simp only[rs]
  rw[aA om om,vC,more,m_sn];have a:bT NoB w w2 [snE b 0 0]:=a;refine SA 0 a rfl λw3 a=>?_;exact TP 0 a rfl (j _ _ ⟨rfl,a.below⟩)
def ji (i:Nat):Nat:=if i=28 then 258 else gg 4 3 i
def fm (i:Nat):Nat:=if i=28 then 0 else i / 4 - 1
def fg (i:Nat):Nat:=gg 2 1 i
def dw (i:Nat):Nat:=i / 2 - 1
theorem OR (i:Nat)(w:ao)(hi:i<=28):Ret ah 330 #[ad (i:Int)] w (λv w'=>v=snV (ji i) (fm i)∧Below w.heap.size w w'):=by
 refine aX λK c=>GJ ?_;unfold DS nz;refine agZ (Own.start w) λb d a=>?_;have a:bT NoB w d [snE b 0 0]:=a;simp only[rs];by_cases h:(i:Int)=28
 ·have hi:i=28:=om
  subst hi;simp only[h,auE,i_t];rw[apY];refine SA 0 a rfl λw3 a=>?_;exact TP 0 a rfl (c _ _ ⟨rfl,a.below⟩)
 ·simp only[h,auF,i_f];refine aK a (R:=λv=>v=snV (gg 4 3 i) ((i / 4 - 1:Nat):Int)) (MU i 3 4 d om om om) ?_;rintro _ w2 rfl a;refine SA 0 a rfl λw3 a=>?_;refine TP 0 a rfl (c _ _ ⟨?_,a.below⟩);unfold ji fm;rw[auB om,auB om]
theorem Tg (i:Nat)(w:ao)(hi:i<=30):Ret ah 332 #[ad (i:Int)] w (λv w'=>v=snV (fg i) (dw i)∧Below w.heap.size w w'):=by
 refine aX λK d=>IE ?_;unfold FO nz;refine agZ (Own.start w) λb c a=>?_;have a:bT NoB w c [snE b 0 0]:=a;refine aK a (R:=λv=>v=snV (gg 2 1 i) ((i / 2 - 1:Nat):Int)) (MU i 1 2 c om om om) ?_;rintro _ w2 rfl a;refine SA 0 a rfl λw3 a=>?_;exact TP 0 a rfl (d _ _ ⟨rfl,a.below⟩)
theorem Qk (a e m:Nat)(w:ao)(h:a<=1000000000)(he:e<=30)(hm:m < 2 ^ e):Ret ah 336 #[snV (a:Int) (e:Int),ad (m:Int)] w (λv w'=>v=.tuple #[ad ((a+m:Nat):Int),ad 0]∧Below w.heap.size w w'):=by
 refine aX λK d=>AK ?_;unfold sL nz;refine atM _ _ (Own.start w) λb f c=>?_;have c:bT NoB w f [snE b a e]:=c;have hp:2 ^ e<=2 ^ 30:=awL dc he;have g:(2:Nat) ^ 30=1073741824:=dc
 simp only[rs,show ai ((m:Int) < 0)=au from auD om];rw[aW amM,aJ aU (c.cell 0 rfl 1 rfl),II om];rw[show min (e:Int).toNat IntKind.i64.bits=e by show min (e:Int).toNat 64=e;omega];rw[show (1:Int)*2 ^ e=((2 ^ e:Nat):Int) by push_cast;omega,aA om om];simp only[rs,show ai (((2 ^ e:Nat):Int)<=(m:Int))=au from auD om];rw[aW alT,aJ aU (c.cell 0 rfl 0 rfl)];simp only[rs];rw[aA om om];exact d _ _ ⟨rfl,c.below⟩
theorem tj (h:i<=28):ji i<=1000∧fm i<=5:=by
 have:i=0∨i=1∨i=2∨i=3∨i=4∨i=5∨i=6∨i=7∨i=8∨i=9∨i=10∨i=11∨i=12∨i=13∨i=14∨i=15∨i=16∨i=17∨i=18∨i=19∨i=20∨i=21∨i=22∨i=23∨i=24∨i=25∨i=26∨i=27∨i=28:=om
 rcases this with rfl|rfl|rfl|rfl|rfl|rfl|rfl|rfl|rfl|rfl|rfl|rfl|rfl|rfl|rfl|rfl|rfl|rfl|rfl|rfl|rfl|rfl|rfl|rfl|rfl|rfl|rfl|rfl|rfl<;>decide
theorem tm (h:i<=29):fg i<=100000∧dw i<=13:=by
 have:i=0∨i=1∨i=2∨i=3∨i=4∨i=5∨i=6∨i=7∨i=8∨i=9∨i=10∨i=11∨i=12∨i=13∨i=14∨i=15∨i=16∨i=17∨i=18∨i=19∨i=20∨i=21∨i=22∨i=23∨i=24∨i=25∨i=26∨i=27∨i=28∨i=29:=om
 rcases this with rfl|rfl|rfl|rfl|rfl|rfl|rfl|rfl|rfl|rfl|rfl|rfl|rfl|rfl|rfl|rfl|rfl|rfl|rfl|rfl|rfl|rfl|rfl|rfl|rfl|rfl|rfl|rfl|rfl|rfl<;>decide
theorem Yi (i m:Nat)(w:ao)(hi:i<=28)(hm:m < 2 ^ fm i):Ret ah 329 #[ad ((257+i:Nat):Int),ad (m:Int)] w (λv w'=>v=.tuple #[ad ((ji i+m:Nat):Int),ad 0]∧Below w.heap.size w w'):=by
 refine aX λK b=>GZ ?_;unfold Dx nz;have a:bT NoB w w []:=Own.start w;obtain⟨c,d⟩:=tj hi;simp only[rs,show ai (((257+i:Nat):Int) < 257)=au from auD om,show ai ((285:Int) < ((257+i:Nat):Int))=au from auD om];rw[aA om om,show ((257+i:Nat):Int) - 257=(i:Int) by omega];refine aK a (R:=λv=>v=snV (ji i) (fm i)) (OR i w hi) ?_;rintro _ w2 rfl a;refine aK a (R:=λv=>v=.tuple #[ad ((ji i+m:Nat):Int),ad 0]) (Qk _ _ m w2 om om hm) ?_;rintro _ w3 rfl a;simp only[ex];exact b _ _ ⟨rfl,a.below⟩
theorem aaC (i m:Nat)(w:ao)(hi:i<=29)(hm:m < 2 ^ dw i):Ret ah 331 #[ad (i:Int),ad (m:Int)] w (λv w'=>v=.tuple #[ad ((fg i+m:Nat):Int),ad 0]∧Below w.heap.size w w'):=by
 refine aX λK b=>IU ?_;unfold FD nz;have a:bT NoB w w []:=Own.start w;obtain⟨c,d⟩:=tm hi;simp only[rs,show ai ((i:Int) < 0)=au from auD om,show ai ((29:Int) < (i:Int))=au from auD om];refine aK a (R:=λv=>v=snV (fg i) (dw i)) (Tg i w om) ?_;rintro _ w2 rfl a;refine aK a (R:=λv=>v=.tuple #[ad ((fg i+m:Nat):Int),ad 0]) (Qk _ _ m w2 om om hm) ?_;rintro _ w3 rfl a;simp only[ex];exact b _ _ ⟨rfl,a.below⟩
end
section
namespace Eng
open Go.RowKit
theorem OM {g:Nat}(h:w'.heap[g]?=w.heap[g]?):w'.cell? ⟨g,j,ax⟩=w.cell? ⟨g,j,ax⟩:=by
 unfold World.cell?;simp only[h]
theorem RI {T E:TypeId}{cs:Array Bool}{g n bytes:Nat}(G:P.underlying T=ay (.slice E))(he:elB P E sz bytes=aw)(K:0 < sz)
  (d:(Ent.urow E sz (bO g 0 n cap) n xs).is w) (L:Sl w v2 sz m news) (hm:0 < m) (M:∀u∈news,u.oneCell'=aw) (N:(n+m)*bytes<=140737488355328) (O:n+m<=140737488355328)
  (r:(mB .append #[T,T] U cs #[bO g 0 n cap,v2]).run P w=.ok (.value v') w') (l:(Ent.urow E sz v' (n+m) (xs++news)).is w') {j:Nat} {u:aq} (o:xs[j]?=ay u):w'.cell? ⟨g,j,ax⟩=ay u:=by
 obtain⟨i,z,hi,Q,t,v,R⟩:=mA he;subst t;subst v;have d:w.ownsRow 0 E i.size (bO g 0 n cap) n xs:=d;have l:w'.ownsRow 0 E i.size v' (n+m) (xs++news):=l;obtain⟨x,a,c,rfl,S,V⟩:=L;have y:n+m<=maxLen:=by simp only[maxLen];omega
 cases a with
|none=>have:=S rfl;omega
|some p=>
  have H:∀j u,news[j]?=ay u->w.cell? (p.add j)=ay u:=by
   intro j u o;obtain⟨A,f⟩:=V p rfl;have:=A hm;obtain⟨b,off,spot⟩:=p;simp only at this f;subst this;rw[cS];exact f j u o
  have holds:∀j u,xs[j]?=ay u->w.cell? ((⟨g,0,ax⟩:Addr).add j)=ay u:=d.cells (g:=g) rfl;have B:=d.1;rcases d.2 with ⟨h,_⟩|⟨g',I,cur,W,X,J,Y,Z,C,D⟩
  ·cases h
  injection W with e1 e2 e3
  injection e1 with e1
  injection e1 with e1
  subst e1;subst e3;by_cases k:n+m<=cap
  ·have q:n*i.size+news.length<=cur.size:=by rw[x,C,<-axE];exact awC _ k
   have F:=run_append_room (P:=P) w T U E i G hi g n cap cur J p m c news x H M k q;have:(mB .append #[T,T] U cs #[bO g 0 n cap,.slice (ay p) m c]).run P w=.ok (.value (bO g 0 (n+m) cap)) (w.setRow g (cur.toList.take (n*i.size)++news++cur.toList.drop (n*i.size+news.length)).toArray):=by simp[mB,builtin,F]
   rw[this] at r;cases r;have:=l.cells (g:=g) rfl j u (by rw[awR (auV.1 o).1];exact o);rw[cS,auP] at this;exact this
  ·have F:=run_append_grow (P:=P) w T U E i z G hi Q ⟨g,0,ax⟩ n cap xs B holds p m c news x H om (by simp only[maxLen] at y;omega) (growslice_fits om N);have:(mB .append #[T,T] U cs #[bO g 0 n cap,.slice (ay p) m c]).run P w=.ok (.value (bO w.heap.size 0 (n+m) (grownCap w (n+m) cap E)))
    (w.drew.alloc (.cells (xs.toArray++news.toArray++Builtin.zeroCells z.cells (grownCap w (n+m) cap E - (n+m))) E)):=by simp[mB,builtin,F]
   rw[this] at r;cases r;have s:g < w.heap.size:=(aAe.1 J).1;have e:(w.drew.alloc (.cells (xs.toArray++news.toArray++Builtin.zeroCells z.cells (grownCap w (n+m) cap E - (n+m))) E)).heap[g]?=w.heap[g]?:=by first|exact heap_alloc_old w.drew _ s|exact heap_alloc_old w.drew _ _ s
   rw[OM e];have:=holds j u o;rw[cS,auP] at this;exact this
theorem EE {T d E:TypeId}{cs:Array Bool}{n:Nat}{l:List UInt8}(k:P.underlying T=ay (.slice E))(hu:P.underlying d=ay .string)(he:elB P E 1 1=aw)(o:P.underlying E=ay (.int .u8))
  (b:(P.info? E).bind (·.zero)=ay (.int .u8 0)) (a:w.ownsRow 0 E 1 v n xs) (e:n+l.length<=140737488355328) :
  ∃v' w',(mB .append #[T,d] U cs #[v,ae l]).run P w=.ok (.value v') w'∧Mf (.urow E 1 v n xs) (.urow E 1 v' (n+l.length) (xs++bA l)) w w':=by
 obtain⟨v',w',r,t,_⟩:=GA (P:=P) (U:=U) (cs:=cs) k hu he o b (World.ownsRowF_of a) e;refine⟨v',w',r,t.grew,?_,t.new⟩;obtain⟨i,z,hi,s,f,g,p⟩:=mA he;have h:i.zero=ay (.int .u8 0):=by rw[hi] at b;exact b
 have c:=dX l;have j:n+(⟨l.toArray⟩:ByteArray).size<=maxLen:=by rw[c];simp only[maxLen];omega
 obtain⟨v2,w2,q,m,u,x⟩:=Lib.run_append_own_string (P:=P) w 0 T d U E i k hu hi h f g v n xs a ⟨l.toArray⟩ j (by rw[c];omega) (avG _);rw[BE,c] at m;have:(mB .append #[T,d] U cs #[v,ae l]).run P w=.ok (.value v2) w2:=by simp[mB,builtin,q]
 rw[this] at r;cases r;exact m
section
variable {S:Nat->Prop}{P:Program}{w:ao}{PK:PKT}{K:VWP}
theorem WT (i:Nat){T E:TypeId}{cs:Array Bool}{g bytes n:Nat}(d:P.underlying T=ay (.slice E))(he:elB P E sz bytes=aw)(a:0 < sz)
  (c:bT S w0 w L) (hi:L[i]?=ay (.urow E sz (bO g 0 n cap) n xs)) (e:Sl w v2 sz m news) (hm:0 < m) (f:∀u∈news,u.oneCell'=aw) (h:(n+m)*bytes<=140737488355328) (b:n+m<=140737488355328)
  (k:∀v' w',(∀j u,xs[j]?=ay u->w'.cell? ⟨g,j,ax⟩=ay u)->bT S w0 w' (L.set i (.urow E sz v' (n+m) (xs++news)))->K v' w'):DoX P (mB .append #[T,T] U cs #[bO g 0 n cap,v2]) w PK K:=by
 obtain⟨v',w',r,t⟩:=Bl (cs:=cs) (U:=U) d he a (c.at_ i hi) e f h b;exact vZ r (k _ _ (λj u l=>RI d he a (c.at_ i hi) e hm f h b r t.is l) (c.turn i hi t))
theorem Mx (i:Nat){T c E:TypeId}{cs:Array Bool}{n:Nat}{l:List UInt8}(e:P.underlying T=ay (.slice E))(hu:P.underlying c=ay .string)(he:elB P E 1 1=aw)(f:P.underlying E=ay (.int .u8))
  (a:(P.info? E).bind (·.zero)=ay (.int .u8 0)) (d:bT S w0 w L) (hi:L[i]?=ay (.urow E 1 v n xs)) (b:n+l.length<=140737488355328)
  (k:∀v' w',bT S w0 w' (L.set i (.urow E 1 v' (n+l.length) (xs++bA l)))->K v' w'):DoX P (mB .append #[T,c] U cs #[v,ae l]) w PK K:=by
 obtain⟨v',w',r,t⟩:=EE (cs:=cs) (U:=U) e hu he f a (d.at_ i hi) b;exact vZ r (k _ _ (d.turn i hi t))
end
end Eng
end
section
open Eng Go.RowKit
def ir (d:Nat):Nat->List UInt8->List UInt8
|0,out=>out
|n+1,out=>ir d n (out++[out.getD (out.length - d) 0])
theorem tp (d:Nat):∀(n:Nat) (out:List UInt8),(ir d n out).length=out.length+n
|0,out=>rfl
|n+1,out=>by rw[ir,tp d n,auH,awM];omega
theorem D0 (i:Nat):1<=fg i:=by
 unfold fg
 induction i with
|zero=>decide
|succ i a=>exact axO a (Nat.le_add_right _ _)
def dz (far:List Nat)(s:List UInt8)(p sign:Nat)(out:List UInt8)(most:Nat):List UInt8×Nat×Int:=
 if 285 < sign then (out,p,13)
 else if 8*s.length < p+fm (sign - 257) then (out,p,4)
 else
  let size:=ji (sign - 257)+Fl.num s p (fm (sign - 257))
  let r:=du far s (p+fm (sign - 257))
  if r.2.2≠0 then (out,p,r.2.2)
  else if 29 < r.1 then (out,p,13)
  else if 8*s.length < r.2.1+dw r.1 then (out,p,4)
  else
   let d:=fg r.1+Fl.num s r.2.1 (dw r.1)
   if out.length < d then (out,p,14)
   else if most < out.length+size then (out,p,5)
   else (ir d size out,r.2.1+dw r.1,0)
theorem ajT {b:Int}:(mFld 356 (snV a b) 1).run ah W=.ok (.value (ad b)) W:=krx
theorem amS {b:Int}:DoX ah (mFld 356 (snV a b) 1) w PK K=K (ad b) w:=aD ajT
section
variable {w:ao}{PK:PKT}{K:VWP}{S:Nat->Prop}{w0:ao}{L:List Ent}
theorem adX (a:bT S w0 w L)(j:Nat){ov:aq}{most:Int}(hi:L[j]?=ay (flE b rb ov most)):DoX ah (aH 80 (af b (0+1))) w PK K=K ov w:=aJ QN (a.cell j hi 1 rfl)
theorem Rj (j:Nat){ov a:aq}{most:Int}(h:a.oneCell'=aw)(c:bT S w0 w L)(hi:L[j]?=ay (flE b rb ov most))(k:∀w',bT S w0 w' (L.set j (flE b rb a most))->K undef w') :
  DoX ah (aN 80 (af b (0+1)) a) w PK K:=aO j c hi krx h (by show 0+1 < 3;omega) k
theorem O5:elB ah 5 1 1=true:=krx
theorem UY (c:UInt8)(a:bT S w0 w L)(k:∀b w',bT S w0 w' (.cells b (bA [c]) 5::L)->K (bO b 0 1 1) w'):DoX ah (aM 80 1 #[(0,.int .u8 (c.toNat:Int))]) w PK K:=
 bK (λb=>bO b 0 1 1) (bA [c]) 5 (λ_=>by kernel_rfl) a k
abbrev Fs (fb rb:Nat)(s:List UInt8)(most:Nat)(ov:aq)(way:Int)(p:Nat)(out:List UInt8)(R:List Ent):List Ent:=flE fb rb ov (most:Int)::bqE rb s way p::pP ov out::R
theorem KE {ov:aq}{most:Int}(h:(flE b rb ov most).is W):(aH 80 (af b (0+1))).run ah W=.ok (.value ov) W:=aB QN (aI (T:=263) (cs:=flC rb ov most) h rfl)
theorem zP {ov:aq}{out:List UInt8}(h:(pP ov out).is W):Sl W ov 1 out.length (bA out):=Sl.urow h
theorem kV {l:List UInt8}(hi:i < l.length):(bA l)[i]?=ay (.int .u8 (l[i].toNat:Int)):=by
 unfold bA;rw[ayO,auO hi];rfl
theorem abV {l:List UInt8}(a:Sl w v 1 l.length (bA l))(hi:i < l.length) :
  ∃b off,(∀W,(mIA 80 v (ad (i:Int))).run ah W=.ok (.value (af b (off+i))) W)∧w.cell? ⟨b,off+i,ax⟩=ay (.int .u8 (l[i].toNat:Int)):=by
 obtain⟨b,off,cap,rfl,c⟩:=bR a om;refine⟨b,off,λW=>?_,c i _ (kV hi)⟩;have:=cZ (P:=ah) (T:=80) (b:=b) (off:=off) (cap:=cap) (n:=l.length) (k:=.i64) (i:=(i:Int)) (w:=W) avH (show _=ay 1 by kernel_rfl) om om
 rwa [auJ,avC] at this
theorem nU8l:eS ah 5=true:=krx
theorem fW {l:List UInt8}:∀u∈bA l,u.oneCell'=true:=by
 unfold bA;intro u hu;obtain⟨c,_,rfl⟩:=avN.1 hu;rfl
theorem ZL {ov:aq}{s:List UInt8}{out:List UInt8}{lens:List Nat}{R:List Ent}(jm:Nat)(f:bT S w0 w (Fs fb rb s most ov way p out R))(hm:R[jm]?=ay (.mem M))(ht:TbAt M.A M.w tb lens)(hl:lens.length<=1000)(hw:way=0∨way=1)(hp:p<=8*s.length)(O:s.length<=1000000000)(b2:most<=1000000000)(b3:out.length<=most)(hi:i<=1000)
  (G:(dz lens s p (257+i) out most).2.2=0->(dz lens s p (257+i) out most).2.1<=8*s.length->(dz lens s p (257+i) out most).1.length<=most->∀way' l W,(way'=0∨way'=1)->bT S w0 W (Fs fb rb s most l way' (dz lens s p (257+i) out most).2.1 (dz lens s p (257+i) out most).1 R)->K (.tuple #[]) W)
  (x:(dz lens s p (257+i) out most).2.2≠0->∀l way' p' a W,bT S w0 W (Fs fb rb s most l way' p' a R)->PK [upI (dz lens s p (257+i) out most).2.2] W) :
  cR ah 321 #[af fb 0,ad ((257+i:Nat):Int),af tb 0] w PK K:=by
 generalize g:dz lens s p (257+i) out most=X at G x;refine⟨vF ?_⟩;unfold nC nz;unfold dz at g;simp only[rs];refine kQ (λH=>?_) (λH=>?_)
 rotate_left
 ·have:=avT H;rw[auC om] at g;subst g;exact x (by dsimp only;decide) _ _ _ _ _ f
 have H:=auW H;have t:i<=28:=om
 rw[auB om,aAc] at g;obtain⟨b4,Q⟩:=tj t;rw[aA om om,show ((257+i:Nat):Int) - 257=(i:Int) by omega];refine aK f (R:=λv=>v=snV (ji i) (fm i)) (OR i w t) ?_;rintro _ w1 rfl f;rw[amS];refine rX 0 1 f rfl rfl hw hp om O (λh2 W f=>?_) (λh2 W f=>?_)
 rotate_left
 ·rw[auC h2] at g;subst g;exact x (by dsimp only;decide) _ _ _ _ _ f
 rw[auB om] at g;dsimp only at g;have u:(if 0 < fm i then (1:Int) else way)=0∨(if 0 < fm i then (1:Int) else way)=1:=by split;exact .inr rfl;exact hw
 have f:bT S w0 W (Fs fb rb s most ov (if 0 < fm i then 1 else way) (p+fm i) out R):=f;generalize (if 0 < fm i then (1:Int) else way)=a8 at f u;have B:=Fl.Cl s p (fm i);refine aK f (R:=λv=>v=.tuple #[ad ((ji i+Fl.num s p (fm i):Nat):Int),ad 0]) (Yi i _ W t B) ?_;rintro _ w2 rfl f;simp only[ex];refine xQ (λ_=>?_) (λh=>absurd rfl h);have U:ji i+Fl.num s p (fm i)<=100000:=by
  have:2 ^ fm i<=2 ^ 5:=awL dc Q;omega
 generalize ji i+Fl.num s p (fm i)=sz at g U
 try rw[bQ]
 rw[Pd,Y1 f 0 rfl];refine QO 1 (jm+3) om f rfl hm ht hl u om O λj W3 D C f=>?_;have f:bT S w0 W3 (Fs fb rb s most ov j (du lens s (p+fm i)).2.1 out R):=f;generalize du lens s (p+fm i)=T at g f C;obtain⟨fi,q,e⟩:=T;dsimp only at g f C;simp only[ex];refine xQ (λI=>?_) (λI=>?_)
 rotate_left
 ·rw[auC I] at g;subst g;exact x I _ _ _ _ _ f
 rw[auB (by rw[I];decide)] at g;simp only[rs];refine kQ (λJ=>?_) (λJ=>?_)
 rotate_left
 ·have:=avT J;rw[auC om] at g;subst g;exact x (by dsimp only;decide) _ _ _ _ _ f
 have J:=auW J;have y:fi<=29:=om
 rw[auB om] at g;obtain⟨b5,b6⟩:=tm y;refine aK f (R:=λv=>v=snV (fg fi) (dw fi)) (Tg fi W3 om) ?_;rintro _ w4 rfl f;rw[amS];refine rX 0 1 f rfl rfl D C om O (λh5 W f=>?_) (λh5 W f=>?_)
 rotate_left
 ·rw[auC h5] at g;subst g;exact x (by dsimp only;decide) _ _ _ _ _ f
 rw[auB om] at g;have u:(if 0 < dw fi then (1:Int) else j)=0∨(if 0 < dw fi then (1:Int) else j)=1:=by split;exact .inr rfl;exact D
 have f:bT S w0 W (Fs fb rb s most ov (if 0 < dw fi then 1 else j) (q+dw fi) out R):=f;generalize (if 0 < dw fi then (1:Int) else j)=m at f u;have B:=Fl.Cl s q (dw fi);refine aK f (R:=λv=>v=.tuple #[ad ((fg fi+Fl.num s q (dw fi):Nat):Int),ad 0]) (aaC fi _ W y B) ?_;rintro _ w6 rfl f;simp only[ex];refine xQ (λ_=>?_) (λh=>absurd rfl h);have b7:=D0 fi;have V:1<=fg fi+Fl.num s q (dw fi):=om
 generalize fg fi+Fl.num s q (dw fi)=d at g V
 try rw[bQ]
 rw[aW BV,adX f 0 rfl,aZ avH (zP (f.at_ 2 rfl))];simp only[rs];refine kQ (λL=>?_) (λL=>?_)
 rotate_left
 ·have:=avT L;rw[auC om] at g;subst g;exact x (by dsimp only;decide) _ _ _ _ _ f
 have L:=auW L;rw[auB om] at g;refine Yp (n:=sz) 0 2 f rfl rfl om om om (λh7 W f=>?_) (λh7 W f=>?_)
 rotate_left
 ·rw[auC om] at g;subst g;exact x (by dsimp only;decide) _ _ _ _ _ f
 rw[auB om] at g;refine loop (λvs W=>∃(k:Nat) (l:aq) (a:List UInt8),vs=[ad k]∧k<=sz∧d<=a.length∧a.length+(sz - k)<=most∧ir d (sz - k) a=X.1∧bT S w0 W (Fs fb rb s most l m (q+dw fi) a R)) (λvs _=>sz - n0 vs) ⟨0,ov,out,rfl,om,om,om,by rw[<-g];rfl,f⟩ ?_;clear f;rintro vs w7 ⟨k,l,a,rfl,hk,b9,c0,r,f⟩ _;simp only[kS,gd,rs,iN,bnx];by_cases E:(k:Int) < (sz:Int)
 ·simp only[E,auE,i_t];have f:=f.drew;have o:a.length - d < a.length:=om
  obtain⟨N,z,rfl⟩:=nX (f.at_ 2 rfl) om;obtain⟨cb,b0,b1,e1,Y⟩:=bR (zP (f.at_ 2 rfl)) om
  injection e1 with e1 e2 e3
  injection e1 with e1
  injection e1 with e1 Z
  subst e1;subst Z;refine⟨λW=>(flE fb rb (bO N 0 a.length z) most).is W∧W.cell? ⟨N,a.length - d,ax⟩=ay (.int .u8 (a[a.length - d].toNat:Int)),⟨f.at_ 0 rfl,?_⟩,?_⟩
  ·have:=Y _ _ (kV o)
   rwa [auP] at this
  refine aP _ (λ_=>dW) (aP _ (λ_=>bE BV) (fS _ (λW h=>KE h.1) ?_));refine aP _ (λ_=>dW) (aP _ (λ_=>bE BV) (fS _ (λW h=>KE h.1) ?_));refine aP _ (λ_=>dW) (aP _ (λ_=>bE BV) (fS _ (λW h=>KE h.1) ?_));refine aP (ad (a.length:Int)) (λW=>by simp[mB,builtin,Builtin.len_,run_underlying avH,goInt]) ?_;refine aP _ (λW=>cJ (by simp[binOp];rfl)) ?_;rw[aA om om,show (a.length:Int) - (d:Int)=((a.length - d:Nat):Int) by omega];refine aP (af N (a.length - d)) (λW=>?_) ?_
  ·have:=cZ (P:=ah) (T:=80) (b:=N) (off:=0) (cap:=z) (n:=a.length) (k:=.i64) (i:=((a.length - d:Nat):Int)) (w:=W) avH (show _=ay 1 by kernel_rfl) om om
   rwa [auJ,avC,auP] at this
  refine fS _ (λW h=>aB nU8l h.2) ?_;generalize hc:a[a.length - d]=c;refine UY c f λb8 w8 f=>?_;refine⟨⟨f.at_ 1 rfl,?_⟩,?_⟩
  ·obtain⟨_,_,_,e1,Y⟩:=bR (zP (f.at_ 3 rfl)) om
   injection e1 with e1 e2 e3
   injection e1 with e1
   injection e1 with e1 Z
   subst e1;subst Z;have:=Y _ _ (kV o);rw[auP,hc] at this;exact this
  refine WT 3 avH O5 dc f rfl (sQ (f.at_ 0 rfl) dc rfl) dc fW om om λv' w9 a1 f=>?_;have a6:v'.oneCell'=true:=bX (f.at_ 3 rfl);refine⟨⟨f.at_ 1 rfl,?_⟩,?_⟩
  ·have:=a1 _ _ (kV o);rw[hc] at this;exact this
  refine aP _ (λ_=>dW) (aP _ (λ_=>bE BV) ?_);refine Rj 1 a6 f rfl λF f=>?_;have f:bT S w0 F (.cells b8 (bA [c]) 5::Fs fb rb s most v' m (q+dw fi) (a++[c]) R):=by
   have e:pP v' (a++[c])=.urow 5 1 v' (a.length+1) (bA a++bA [c]):=by
    unfold pP bA;rw[auH,avM];rfl
   show bT S w0 F (.cells b8 (bA [c]) 5::flE fb rb v' (most:Int)::bqE rb s m (q+dw fi)::pP v' (a++[c])::R);rw[e];exact f
  rw[aA om om];refine bC ⟨k+1,v',a++[c],rfl,om,by rw[auH];omega,by rw[auH,awM];omega,?_,f.tail⟩ (by simp[n0,RowKit.intOf];omega);rw[<-r,show sz - k=(sz - (k+1))+1 by omega,ir,auK,auO o,<-hc];rfl
 ·simp only[E,auF,i_f];have a7:k=sz:=om
  subst a7;rw[axL,ir] at r;rw[<-g] at r;rw[<-g] at G;dsimp only at r G;have:=G rfl om (by rw[<-r];omega) m l w7 u (by rw[<-r];exact f);exact this
end
def Mm (b:Nat)(w:ao):Nat:=match w.cell? ⟨b,1,ax⟩,w.cell? ⟨b,3,ax⟩ with|some (.int _ u),ay (.int _ a)=>8*a.toNat+u.toNat|_,_=>0
theorem J7 {s:List UInt8}(h:(bqE b s way p).is w):Mm b w=p:=by
 unfold Mm;rw[show w.cell? ⟨b,1,ax⟩=ay (ad ((p % 8:Nat):Int)) from aI (T:=304) (cs:=bqC s way p) h rfl,show w.cell? ⟨b,3,ax⟩=ay (ad ((p / 8:Nat):Int)) from aI (T:=304) (cs:=bqC s way p) h rfl];show 8*((p / 8:Nat):Int).toNat+((p % 8:Nat):Int).toNat=p;omega
theorem tq (lens:List Nat)(s:List UInt8):∀(f l p code:Nat),(iw lens s f l p code).2.2=0->p < (iw lens s f l p code).2.1
|0,_,_,_,h=>by simp[iw] at h
|f+1,l,p,code,h=>by
  unfold iw at h ⊢;split
  ·rename_i a;rw[auC a] at h;simp at h
  rename_i a;rw[auB a] at h
  split
  ·rename_i b;rw[auC b] at h;simp at h
  rename_i b;rw[auB b] at h
  split
  ·exact Nat.lt_succ_self _
  rename_i c;rw[auB c] at h
  have:=tq lens s f (l+1) (p+1) (2*code+Fl.bit s p) h;omega
theorem nw {lens:List Nat}{s:List UInt8}{p:Nat}(h:(du lens s p).2.2=0):p < (du lens s p).2.1:=tq lens s 16 0 p 0 h
theorem tu {far:List Nat}{s:List UInt8}{p sign most:Nat}{out:List UInt8}(h:(dz far s p sign out most).2.2=0):p<=(dz far s p sign out most).2.1:=by
 unfold dz at h ⊢;split
 ·exact auL _
 rename_i b;rw[auB b] at h
 split
 ·exact auL _
 rename_i c;rw[auB c] at h
 dsimp only at h ⊢;split
 ·exact auL _
 rename_i a;rw[auB a] at h
 have:=nw (Decidable.not_not.1 a);split
 ·exact auL _
 rename_i d;rw[auB d] at h
 split
 ·exact auL _
 rename_i e;rw[auB e] at h
 split
 ·exact auL _
 rename_i f;rw[auB f] at h
 split
 ·exact auL _
 dsimp only;omega
def jy (near far:List Nat)(s:List UInt8)(most:Nat):Nat->Nat->List UInt8->List UInt8×Nat×Int
|0,p,out=>(out,p,13)
|f+1,p,out=>
  let r:=du near s p
  if r.2.2≠0 then (out,p,r.2.2)
  else if r.1 < 256 then if most < out.length+1 then (out,p,5) else jy near far s most f r.2.1 (out++[UInt8.ofNat r.1])
  else if r.1=256 then (out,r.2.1,0)
  else
   let c:=dz far s r.2.1 r.1 out most
   if c.2.2≠0 then (out,p,c.2.2) else jy near far s most f c.2.1 c.1
def gf (near far:List Nat)(s:List UInt8)(most p:Nat)(out:List UInt8):List UInt8×Nat×Int:=jy near far s most (8*s.length+1 - p) p out
theorem tw (lens:List Nat):∀(l i:Nat),i∈bh lens l->i < lens.length
|0,i,h=>by cases h
|l+1,i,h=>by
  rw[bh,avF] at h;rcases h with h|h
  ·exact tw lens l i h
  ·unfold kx at h;have:=(List.mem_filter.1 h).1;exact awH.1 this
theorem qn {lens:List Nat}(s:List UInt8)(a:0 < lens.length):∀(f l p code:Nat),(iw lens s f l p code).1 < lens.length
|0,_,_,_=>by simpa[iw] using a
|f+1,l,p,code=>by
  unfold iw;split
  ·exact a
  split
  ·exact a
  split
  ·dsimp only;rw[auK];rcases h:(bh lens 15)[Fl.bN lens l+(2*code+Fl.bit s p - Fl.first lens (l+1))]? with _|x
   ·exact a
   ·exact tw lens 15 x (ayC h)
  ·exact qn s a f _ _ _
theorem yh {lens:List Nat}(s:List UInt8)(p:Nat):(du lens s p).1<=lens.length:=by
 rcases awQ lens.length with h|h
 ·have:lens=[]:=ayY h;subst this;simp[du,iw,Fl.bN]
 ·exact Nat.le_of_lt (qn s h 16 0 p 0)
theorem cU8 {n:Nat}(h:n < 256):(tG 3 5 (ad (n:Int))).run ah W=.ok (.value (.int .u8 ((UInt8.ofNat n).toNat:Int))) W:=by
 have:=eI (P:=ah) (S:=3) (D:=5) (k:=.i64) (n:=(n:Int)) (w:=W) krx awI;rw[this]
 congr 3
section
variable {w:ao}{PK:PKT}{K:VWP}{S:Nat->Prop}{w0:ao}
theorem Xh {O:Nat}{ov:aq}{s:List UInt8}{out:List UInt8}{far:List Nat}{R:List Ent}(jm:Nat)(a:bT S w0 w (Fs fb rb s most ov way p out R))(hm:R[jm]?=ay (.mem M))(ht:TbAt M.A M.w tb near)(F:TbAt M.A M.w O far)(hl:near.length<=1000)(G:far.length<=1000)(hw:way=0∨way=1)(hp:p<=8*s.length)(P:s.length<=1000000000)(H:most<=1000000000)(h:out.length<=most)
  (Q:(gf near far s most p out).2.2=0->(gf near far s most p out).2.1<=8*s.length->(gf near far s most p out).1.length<=most->∀way' r W,(way'=0∨way'=1)->bT S w0 W (Fs fb rb s most r way' (gf near far s most p out).2.1 (gf near far s most p out).1 R)->K (.tuple #[]) W)
  (E:(gf near far s most p out).2.2≠0->∀r way' p' v W,bT S w0 W (Fs fb rb s most r way' p' v R)->PK [upI (gf near far s most p out).2.2] W) :
  cR ah 310 #[af fb 0,af tb 0,af O 0] w PK K:=by
 generalize b:gf near far s most p out=X at Q E;refine⟨xE ?_⟩;unfold oK nz;refine loop (λvs W=>∃(p:Nat) (way:Int) (ov:aq) (out:List UInt8),vs=[]∧(way=0∨way=1)∧p<=8*s.length∧out.length<=most∧(∃f,8*s.length+1 - p<=f∧jy near far s most f p out=X)∧bT S w0 W (Fs fb rb s most ov way p out R)) (λ_ w=>8*s.length+1 - Mm rb w) ⟨p,way,ov,out,rfl,hw,hp,h,⟨_,auL _,b⟩,a⟩ ?_;clear a b hp hw h;rintro vs I ⟨p,way,ov,out,rfl,hw,hp,h,⟨f,hf,b⟩,a⟩ _;have x:Mm rb I=p:=J7 (a.at_ 1 rfl);unfold mF nz;obtain⟨f,rfl⟩:∃f',f=f'+1:=⟨f - 1,om⟩;rw[jy] at b;dsimp only at b;rw[bQ,Pd,Y1 a 0 rfl];refine QO 1 (jm+3) om a rfl hm ht hl hw hp P λc W3 t j a=>?_;have a:bT S w0 W3 (Fs fb rb s most ov c (du near s p).2.1 out R):=a;have d:=@nw near s p;have hle:=@yh near s p;generalize du near s p=T at b a j d hle;obtain⟨g,q,e⟩:=T;dsimp only at b a j d hle;simp only[ex];refine xQ (λy=>?_) (λy=>?_)
 rotate_left
 ·rw[auC y] at b;subst b;exact E y _ _ _ _ _ a
 rw[auB (by rw[y];decide)] at b;have d:=d y;simp only[rs];by_cases m:(g:Int) < 256
 ·simp only[m,auE,i_t];rw[auC om] at b;refine Yp (n:=1) 0 2 a rfl rfl om om om (λh7 W a=>?_) (λh7 W a=>?_)
  rotate_left
  ·rw[auC om] at b;subst b;exact E (by dsimp only;decide) _ _ _ _ _ a
  rw[auB om] at b
  try rw[bQ]
  rw[aW BV,adX a 0 rfl];refine aD (cU8 om) |>.mpr ?_;refine UY _ a λU w8 a=>?_;refine bZ 3 avH O5 dc a rfl (sQ (a.at_ 0 rfl) dc rfl) fW om om λv' w9 a=>?_;have J:v'.oneCell'=true:=bX (a.at_ 3 rfl)
  try rw[bQ]
  rw[aW BV];refine Rj 1 J a rfl λl a=>?_;have a:bT S w0 l (.cells U (bA [UInt8.ofNat g]) 5::Fs fb rb s most v' c q (out++[UInt8.ofNat g]) R):=by
   have e:pP v' (out++[UInt8.ofNat g])=.urow 5 1 v' (out.length+1) (bA out++bA [UInt8.ofNat g]):=by
    unfold pP bA;rw[auH,avM];rfl
   show bT S w0 l (.cells U (bA [UInt8.ofNat g]) 5::flE fb rb v' (most:Int)::bqE rb s c q::pP v' (out++[UInt8.ofNat g])::R);rw[e];exact a
  have k:Mm rb l=q:=J7 (a.at_ 2 rfl);refine bC ⟨q,c,v',_,rfl,t,j,by rw[auH,awM];omega,⟨f,om,b⟩,a.tail⟩ (by show 8*s.length+1 - Mm rb l < 8*s.length+1 - Mm rb I;rw[x,k];omega)
 simp only[m,auF,i_f];rw[auB om] at b
 try simp only[rs]
 by_cases V:(g:Int)=256
 ·simp only[V,auE,i_t];rw[auC om] at b;subst b;exact Q rfl j h _ _ _ t a
 simp only[V,auF,i_f];rw[auB om] at b;obtain⟨i,rfl⟩:∃i,g=257+i:=⟨g - 257,om⟩;have u:=@tu far s q (257+i) most out;refine ZL jm a hm F G t j P H h om (λz Y B o D L N a=>?_) (λz D o p4 Z L a=>?_)
 rotate_left
 ·rw[auC z] at b;subst b;exact E z _ _ _ _ _ a
 rw[auB (by rw[z];decide)] at b;have u:=u z;generalize dz far s q (257+i) out most=C at b a u Y B;have k:Mm rb L=C.2.1:=J7 (a.at_ 1 rfl);refine bC ⟨C.2.1,o,D,C.1,rfl,N,Y,B,⟨f,om,b⟩,a⟩ (by show 8*s.length+1 - Mm rb L < 8*s.length+1 - Mm rb I;rw[x,k];omega)
end
end
def ml (lens:List Nat):Nat:=(lens.map λl=>if l=0 then 0 else 2 ^ (15 - l)).sum
theorem E0 (m:Nat):Fl.iS [] m=0:=by
 induction m with
|zero=>rfl
|succ m a=>simp[Fl.iS,a]
theorem F0 (l:Nat)(ls:List Nat)(m:Nat):Fl.iS (l::ls) m=Fl.iS ls m+(if l=0 then 0 else if l<=m then 2 ^ (15 - l) else 0):=by
 induction m with
|zero=>
  simp only[Fl.iS];split;·rfl
  ·rw[auB om]
|succ m b=>
  rw[Fl.iS,b,Fl.iS,List.count_cons];by_cases h:l=m+1
  ·subst h;simp only[beq_self_eq_true,if_true,axE,aAb];rw[auB om,auB om,auB om,auC (auL _)];omega
  ·have c:(l==m+1)=false:=by simp[h]
   rw[c];simp only[ayQ,if_false,awF];by_cases a:l=0
   ·simp[a]
   ·rw[auB a,auB a];by_cases hm:l<=m
    ·rw[auC hm,auC om];omega
    ·rw[auB hm,auB om];simp
theorem tx:∀{lens:List Nat},(∀l∈lens,l<=15)->ml lens=Fl.iS lens 15
|[],_=>by rw[E0];rfl
|l::ls,h=>by
  have a:=tx (lens:=ls) λx b=>h x (auZ _ b);have c:=h l (avQ ..);unfold ml at a ⊢;rw[avS,ayH,a,F0,auC c];omega
theorem tz (lens:List Nat)(l:Nat):∀m,l<=m->∃t,bh lens m=bh lens l++t
|0,h=>by
  obtain rfl:l=0:=om
  exact⟨[],sm⟩
|m+1,h=>by
  rcases avI l (m+1) with a|a
  ·obtain⟨t,b⟩:=tz lens l m om;exact⟨t++kx lens (m+1),by rw[bh,b,auN]⟩
  ·have:l=m+1:=om
   subst this;exact⟨[],sm⟩
theorem G0 {lens:List Nat}{l k:Nat}(c:l < 15)(a:k < lens.count (l+1)):(bh lens 15).getD (Fl.bN lens l+k) 0=(kx lens (l+1)).getD k 0:=by
 obtain⟨t,b⟩:=tz lens (l+1) 15 om;rw[b,bh,auN,auK,awW (by rw[nv];omega),nv,aAc,
  awR (by rw[ql];exact a),auK]
end Go.Proofs.YtlgndjkieegnaaaGreatDoor


namespace Go.Proofs.YtlgndjkieegnaaaGreatDoor
variable{A:Nat->Prop}{D U:TypeId}{K:VWP}{L:List Eng.Ent}{M:Eng.Mem}{P:Program}{PK:PKT}{R:Ending->FrameMode->ao->Prop}{W w w' w0:ao}{a way:Int}{b cap fb i j m most p rb sz tb:Nat}{c t0 v v' v2:aq}{cl near:List Nat}{cs news xs:List aq}{u:FrameMode}{xo yo:Operand}{α:Type}{t0 t1 t2:aq}{k0:Eng.KT}
section
open Eng Go.RowKit
theorem atC (a b:Nat):((a:Nat):Int).tmod ((b:Nat):Int)=((a % b:Nat):Int):=rfl
def ev (s:List UInt8)(most p:Nat)(out:List UInt8):List UInt8×Nat×Int:=
 let a:=(p+7) / 8*8
 if 8*s.length < a+16 then (out,p,4)
 else if 8*s.length < a+32 then (out,p,4)
 else if Fl.num s a 16+Fl.num s (a+16) 16≠65535 then (out,p,3)
 else if most < out.length+Fl.num s a 16 then (out,p,5)
 else if 8*s.length < a+32+8*Fl.num s a 16 then (out,p,4)
 else (out++(s.drop (a / 8+4)).take (Fl.num s a 16),a+32+8*Fl.num s a 16,0)
theorem tU {a b:List UInt8}:pP v (a++b)=.urow 5 1 v (a.length+b.length) (bA a++bA b):=by
 unfold pP bA;rw[auH,avM]
theorem TL {ov:aq}{most:Int}(h:(flE b rb ov most).is W):(aH 260 (af b 0)).run ah W=.ok (.value (af rb 0)) W:=aB acK (aI (T:=263) (cs:=flC rb ov most) h rfl)
theorem z8U:(Tryz.prog.info? 5).bind (·.zero)=ay (.int .u8 0):=krx
section
variable {w:ao}{PK:PKT}{K:VWP}{S:Nat->Prop}{w0:ao}
theorem abF {ov:aq}{s:List UInt8}{out:List UInt8}{R:List Ent}(b:bT S w0 w (Fs fb rb s most ov way p out R))(hw:way=0∨way=1)(hp:p<=8*s.length)(l:s.length<=1000000000)(y:most<=1000000000)(z:out.length<=most)
  (t:(ev s most p out).2.2=0->(ev s most p out).2.1<=8*s.length->(ev s most p out).1.length<=most->∀way' d W,(way'=0∨way'=1)->bT S w0 W (Fs fb rb s most d way' (ev s most p out).2.1 (ev s most p out).1 R)->K (.tuple #[]) W)
  (g:(ev s most p out).2.2≠0->∀d way' A i W,bT S w0 W (Fs fb rb s most d way' A i R)->PK [upI (ev s most p out).2.2] W) :
  cR ah 281 #[af fb 0] w PK K:=by
 generalize c:ev s most p out=X at t g;refine⟨vP ?_⟩;unfold nE iN ldx bnx fax nlx eqx cx;unfold ev at c;dsimp only at c;rw[bQ,Pd,Y1 b 0 rfl];refine agN 1 b rfl hp l λB b=>?_;have b:bT S w0 B (Fs fb rb s most ov 0 ((p+7) / 8*8) out R):=b;have m:(p+7) / 8*8 % 8=0:=om
 have j:(p+7) / 8*8<=8*s.length:=om
 generalize (p+7) / 8*8=a at c b m j;refine rX (n:=16) 0 1 b rfl rfl (.inl rfl) j om l (λo u b=>?_) (λo u b=>?_)
 rotate_left
 ·rw[auC o] at c;subst c;exact g (by dsimp only;decide) _ _ _ _ _ b
 rw[auB om] at c;have b:bT S w0 u (Fs fb rb s most ov 1 (a+16) out R):=b;refine rX (n:=16) 0 1 b rfl rfl (.inr rfl) o om l (λC v b=>?_) (λC v b=>?_)
 rotate_left
 ·rw[auC om] at c;subst c;exact g (by dsimp only;decide) _ _ _ _ _ b
 rw[auB om] at c;have b:bT S w0 v (Fs fb rb s most ov 1 (a+16+16) out R):=b;have q:=Fl.Cl s a 16;have D:=Fl.Cl s (a+16) 16;have E:(2:Nat) ^ 16=65536:=dc
 simp only[rs];rw[aA om om];refine kQ (λk=>?_) (λk=>?_)
 rotate_left
 ·have:=avT k;rw[auC om] at c;subst c;exact g (by dsimp only;decide) _ _ _ _ _ b
 have k:=auW k;rw[auB om] at c;generalize Fl.num s a 16=n at c q k;refine Yp (n:=n) 0 2 b rfl rfl om om om (λF G b=>?_) (λF G b=>?_)
 rotate_left
 ·rw[auC om] at c;subst c;exact g (by dsimp only;decide) _ _ _ _ _ b
 rw[auB om] at c;have b:=b.drew;refine⟨λW=>(flE fb rb ov most).is W,b.at_ 0 rfl,?_⟩;refine aP _ (λ_=>dW) (aP _ (λ_=>bE BV) (fS _ (λW h=>KE h) ?_));refine aP _ (λ_=>dW) (aP _ (λ_=>bE Xl) (fS _ (λW h=>TL h) ?_));refine atS (n:=n) 1 b rfl om om om l (λH x b=>?_) (λH x b=>?_)
 rotate_left
 ·rw[auC om] at c;subst c;refine⟨b.at_ 0 rfl,?_⟩;refine Mo (GS ?_);refine Sx (s:=[]) (λh=>absurd h dc) λ_=>?_
  repeat intro _
  exact g (by dsimp only;decide) _ _ _ _ _ b
 rw[auB om] at c;have b:bT S w0 x (Fs fb rb s most ov 1 (a+16+16+8*n) out R):=b;refine⟨b.at_ 0 rfl,?_⟩;refine Mo (GS ?_);refine Sx (λ_=>?_) λh=>absurd rfl h;refine⟨b.at_ 0 rfl,?_⟩;have e:((s.drop ((a+16+16) / 8)).take n).length=n:=by rw[auM,auT];omega
 refine Mx 2 avH auQ O5 awI z8U b rfl (by rw[e];omega) λv' I b=>?_;have r:v'.oneCell'=true:=bX (b.at_ 2 rfl);refine⟨b.at_ 0 rfl,?_⟩;refine aP _ (λ_=>dW) (aP _ (λ_=>bE BV) ?_);refine Rj 0 r b rfl λf b=>?_;have b:bT S w0 f (Fs fb rb s most v' 1 (a+16+16+8*n) (out++(s.drop ((a+16+16) / 8)).take n) R):=by
  show bT S w0 f (flE fb rb v' (most:Int)::bqE rb s 1 (a+16+16+8*n)::pP v' (out++(s.drop ((a+16+16) / 8)).take n)::R);rw[tU];exact b
 rw[show (a+16+16) / 8=a / 8+4 by omega] at b e;subst c;exact t rfl (by dsimp only;omega) (by dsimp only;rw[auH,e];omega) 1 v' f (.inr rfl) b
end
theorem szI1:(Tryz.prog.info? 3).map (·.size)=ay 1:=krx
theorem xS {l:List α}{n:Nat}{v:α}(h:(l.take n)[j]?=ay v):l[j]?=ay v:=by
 obtain⟨a,b⟩:=auV.1 h;rw[auM] at a;rw[auO om,<-b,aAl]
section
variable {w:ao}{PK:PKT}{K:VWP}{S:Nat->Prop}{w0:ao}{L:List Ent}
theorem XQ {r k:Nat}{x:aq}(i:Nat)(c:bT S w0 w L)(hi:L[i]?=ay (.cells r [x] 3))(G:x.oneCell'=aw)(R:k<=1000)
  (H:∀b w',bT S w0 w' (.cells b (List.replicate k x) 3::L)->K (bO b 0 k k) w') :
  cR ah 293 #[bO r 0 1 1,ad (k:Int)] w PK K:=by
 refine⟨tF ?_⟩;unfold mI nz;refine join λJ I=>?_;rw[aoC,auD om,i_f];refine I _ _ λ_=>?_;unfold jS nz;rw[aZ avB (sQ (sz:=1) (c.at_ i hi) dc rfl)];refine aD (eI krx aAj) |>.mpr (aD (eI krx aAj) |>.mpr ?_);rw[show IntKind.u64.wrap ((1:Nat):Int)=((1:Nat):Int) from rfl,show IntKind.u64.wrap (k:Int)=(k:Int) by unfold IntKind.wrap;simp[IntKind.bits,IntKind.signed];omega];refine gK (Tryz.bits_Mul 1 k dc om w) (λe W ⟨he,M⟩=>?_);subst he;subst M;have N:1*k / 18446744073709551616=0:=om
 have e1:1*k % 18446744073709551616=k:=om
 rw[N,e1];show He _ _ _ _;simp only[He,ex];refine join λU u=>?_;simp only[rs,show ai ((0:Int) < ((0:Nat):Int))=au from rfl,show ai ((9223372036854775807:Int) < (k:Int))=au from auD om];refine u _ _ λ_=>?_;unfold jU nz;refine aD (eI krx avY) |>.mpr ?_;rw[show IntKind.i64.wrap (k:Int)=(k:Int) from aA om om];refine BH om c λg O c=>?_;have y:(.cells g (List.replicate k (ad 0)) 3::L)[i+1]?=ay (.cells r [x] 3):=hi;have z:(List.replicate k (Value.int .i64 0)).length=k:=avW;have l:=Jw (P:=ah) (dT:=70) (sT:=70) (ty:=3) (T:=3) (E:=3) (cb:=#[au,au]) (g:=g) (o:=0) (dLen:=k) (dCap:=k) (sz:=1) (a:=⟨r,0,ax⟩) (sLen:=1) (sCap:=1) (w:=O) (cur:=List.replicate k (Value.int .i64 0)) (src:=[x].take (Nat.min 1 k)) avB szI1 (c.at_ 0 rfl) (by rw[auM,awM];simp) (λj v A=>by
  have d:[x][j]?=ay v:=xS A;rw[cS,auP];exact aI (T:=3) (c.at_ (i+1) y) d) (by rw[auM,awM,z];have s:Nat.min 1 k=min 1 k:=rfl;omega) (by
  intro v t;have:=awN t;rw[avD] at this;rw[this];exact G)
 refine vZ l ?_;have c:=jG c 0 rfl ((List.replicate k (Value.int .i64 0)).take 0++[x].take (Nat.min 1 k)++(List.replicate k (Value.int .i64 0)).drop (0+([x].take (Nat.min 1 k)).length));refine loop (λvs W=>∃(n:Nat) (cur:List aq),vs=[ad n]∧n<=k∧(n=0->k=0)∧cur.length=k∧cur.take n=List.replicate n x∧bT S w0 W (.cells g cur 3::L)) (λvs _=>k - n0 vs) ⟨Nat.min 1 k,_,rfl,Nat.min_le_right _ _,?_,?_,?_,c⟩ ?_
 ·intro h;rcases awQ k with d|d
  ·exact d
  ·have:Nat.min 1 k=1:=avO d;omega
 ·rcases awQ k with d|d
  ·subst d;rfl
  ·rw[show Nat.min 1 k=1 from avO d];simp;omega
 ·rcases awQ k with d|d
  ·subst d;rfl
  ·rw[show Nat.min 1 k=1 from avO d];rfl
 clear c l;rintro vs w2 ⟨n,cur,rfl,V,Q,p,f,c⟩ _;simp only[kE,gd,bnx,lnx];rw[aZ avB (Sl.cells (c.at_ 0 rfl) 1 k k (by rw[p,avC]))];simp only[rs];by_cases q:(n:Int) < (k:Int)
 ·simp only[q,auE,i_t];refine cY (λW=>bT S w0 W (.cells g cur 3::L)) c.drew ?_;refine dY _ (λ_=>dN avB szI1 om om) (dY _ (λ_=>jJ avB szI1 om om) ?_);intro w3 c;rw[auJ,gQ om,show wB (ay ⟨g,0,ax⟩) 0 k 1=ay ⟨g,0,ax⟩ from HT (a:=⟨g,0,ax⟩),auP,avC];have l:=Jw (P:=ah) (dT:=70) (sT:=70) (ty:=3) (T:=3) (E:=3) (cb:=#[au,au]) (g:=g) (o:=n) (dLen:=k - n) (dCap:=k - n) (sz:=1) (a:=⟨g,0,ax⟩) (sLen:=n) (sCap:=k) (w:=w3) (cur:=cur) (src:=cur.take (Nat.min n (k - n))) avB szI1 (c.at_ 0 rfl) (by
    rw[auM,p,avC];have X:=Nat.min_le_left n (k - n);have s:Nat.min n (k - n)=min n (k - n):=rfl;omega) (λj v A=>by
   have d:cur[j]?=ay v:=xS A;rw[cS,auP];exact aI (T:=3) (c.at_ 0 rfl) d) (by
    rw[auM,p];have s:Nat.min n (k - n)=min n (k - n):=rfl;omega) (by
   intro v t;have B:cur.take (Nat.min n (k - n))=(cur.take n).take (Nat.min n (k - n)):=by
    rw[ayZ]
    congr 1
    have s:Nat.min n (k - n)=min n (k - n):=rfl;omega
   rw[B,f] at t;have:=axV (awN t);rw[this];exact G)
  refine vZ l ?_;have c:=jG c 0 rfl (cur.take n++cur.take (Nat.min n (k - n))++cur.drop (n+(cur.take (Nat.min n (k - n))).length));have s:Nat.min n (k - n)=min n (k - n):=rfl;have C:1<=Nat.min n (k - n):=om
  have D:Nat.min n (k - n)<=k - n:=om
  have F:Nat.min n (k - n)<=n:=om
  generalize Nat.min n (k - n)=m at c C D F;rw[show goInt m=ad (m:Int) from rfl];simp only[rs];rw[aA om om];refine bC ⟨n+m,_,rfl,om,om,?_,?_,c⟩ (by simp[n0,RowKit.intOf];omega)
  ·simp only[auH,auM,auT,p];omega
  ·have B:cur.take m=List.replicate m x:=by
    have:cur.take m=(cur.take n).take m:=by rw[ayZ];congr 1;omega
    rw[this,f,List.take_replicate];congr 1;omega
   rw[f,B,aAU sm,avE sm,List.replicate_append_replicate]
 ·simp only[q,auF,i_f];have:n=k:=om
  subst this;rw[avE om] at f;subst f;exact H g w2 c
end
end
section
namespace Eng
open Go.RowKit
def Pn (k:Int):Value:=ad k
def Sz (w:ao)(b:Nat)(a:List (Int×aq)):Prop:=∃es clock,w.heap[b]?=ay (.map es clock)∧es.toList.map (λe=>(e.key,e.val))=a.map λp=>(Pn p.1,p.2)
def xV (a:List (Int×aq))(k:Int):Option Value:=(a.find? λp=>ai (p.1=k)).map (·.2)
theorem KB (k:Int):∀(es:List MapEntry) (a:List (Int×aq)) (i:Nat),es.map (λe=>(e.key,e.val))=a.map (λp=>(Pn p.1,p.2)) ->
  ∃r,Instr.findNow (.int .i64) (Pn k) es i=ay r∧r.map (·.2)=xV a k
|[],[],i,_=>⟨ax,rfl,rfl⟩
|e::es,p::a,i,h=>by
  simp only[avS,azO,ayJ] at h;obtain⟨⟨j,l⟩,m⟩:=h;have g:Instr.sameNow (.int .i64) (Pn k) e.key=ay (ai (k=p.1)):=by
   rw[j];show ay (k==p.1)=_
   congr 1
  by_cases b:k=p.1
  ·refine⟨ay (i,e.val),?_,?_⟩
   ·rw[Instr.findNow,g];simp[b]
   ·simp[xV,b,l]
  ·obtain⟨r,c,d⟩:=KB k es a (i+1) m;refine⟨r,?_,?_⟩
   ·rw[Instr.findNow,g];simp[b,c]
   ·have f:¬p.1=k:=λe=>b e.symm;rw[d];simp[xV,f]
|[],_::_,_,h=>by simp at h
|_::_,[],_,h=>by simp at h
section
variable {S:Nat->Prop}{P:Program}{w w0:ao}{L:List Ent}{PK:PKT}{K:VWP}
theorem HV {k:TypeId}{e:Bool}(a:P.underlying k=ay (.int .i64))(x:Int):(Instr.checkKey e 10000 k (Pn x)).run P w=.ok () w:=by
 show (Instr.checkKey e (9999+1) k (Pn x)).run P w=_;rw[Instr.checkKey];simp[run_underlying a,Pn]
theorem Rm {k:TypeId}(b:P.underlying k=ay (.int .i64))(x:Int){es:List MapEntry}{a:List (Int×aq)}(h:es.map (λe=>(e.key,e.val))=a.map (λp=>(Pn p.1,p.2))) :
  ∃r,(Instr.findKey k (Pn x) es).run P w=.ok r w∧r.map (·.2)=xV a x:=by
 obtain⟨r,c,d⟩:=KB x es a 0 h;refine⟨r,?_,d⟩;simp[Instr.findKey,run_underlying b,c]
theorem X8 {T k e:TypeId}{ok:Bool}{a:List (Int×aq)}{z:aq}(g:P.underlying T=ay (.map k e))(c:P.underlying k=ay (.int .i64))(m:(P.info? e).bind (·.zero)=ay z)(h:Sz w b a)(x:Int) :
  (XY T (.map (ay b)) (Pn x) ok).run P w=.ok (.value (if ok then .tuple #[(xV a x).getD z,.bool (xV a x).isSome] else (xV a x).getD z)) w:=by
 obtain⟨es,clock,j,n⟩:=h;obtain⟨r,l,o⟩:=Rm (P:=P) (w:=w) c x n;have d:(zeroValue e).run P w=.ok z w:=by
  obtain⟨i,hi,f⟩:=azM.1 m;simp[zeroValue,typeInfo,hi,f]
 refine cJ ?_;rw[<-o];cases r with
|none=>simp[Instr.lookup,run_underlying g,getObj,Sem.run,j,HV c x,l,d]
|some p=>
  obtain⟨i,v⟩:=p;simp[Instr.lookup,run_underlying g,getObj,Sem.run,j,HV c x,l]
end
section
variable {S:Nat->Prop}{P:Program}{w w0:ao}{L:List Ent}{PK:PKT}{K:VWP}
end
end Eng
end
section
open Eng Go.RowKit
abbrev frT:TypeId:=315
abbrev frA:TypeId:=316
def fxL:List (Nat×Nat):=[(144,8),(112,9),(24,7),(8,8)]
def fxC:List Value:=fxL.flatMap λp=>[ad (p.1:Int),ad (p.2:Int)]
def LC (i:Nat):List Nat:=(fxL.take i).flatMap λp=>List.replicate p.1 p.2
def cy:List Nat:=LC 4
def dj:List Nat:=List.replicate 32 5
theorem Y6 (hi:i<=4):(LC i).length<=288:=by
 rcases (by omega:i=0∨i=1∨i=2∨i=3∨i=4) with rfl|rfl|rfl|rfl|rfl<;>decide +kernel
theorem Vz (hi:i < 4):LC (i+1)=LC i++List.replicate (fxL.getD i (0,0)).1 (fxL.getD i (0,0)).2:=by
 rcases (by omega:i=0∨i=1∨i=2∨i=3) with rfl|rfl|rfl|rfl<;>decide +kernel
theorem anW (hi:i < 4):(fxL.getD i (0,0)).1<=144∧1<=(fxL.getD i (0,0)).1:=by
 rcases (by omega:i=0∨i=1∨i=2∨i=3) with rfl|rfl|rfl|rfl<;>decide
theorem JY (k n:Nat):bF (List.replicate k n)=List.replicate k (ad (n:Int)):=by simp[bF]
section
variable {w:ao}{PK:PKT}{K:VWP}{S:Nat->Prop}{w0:ao}{L:List Ent}
theorem m_fr {b:Int}:DoX ah (aV frT #[(0,ad a),(1,ad b)]) w PK K=K (.agg #[ad a,ad b]) w:=aD krx
theorem aqA:DoX ah (aV frA #[(0,.agg #[ad 144,ad 8]),(1,.agg #[ad 112,ad 9]),(2,.agg #[ad 24,ad 7]),(3,.agg #[ad 8,ad 8])]) w PK K=K (.agg fxC.toArray) w:=aD krx
theorem ajZ (hi:i < 4):(mIx frA (.agg fxC.toArray) (ad (i:Int))).run ah w=.ok (.value (.agg #[ad ((fxL.getD i (0,0)).1:Int),ad ((fxL.getD i (0,0)).2:Int)])) w:=by
 rcases (by omega:i=0∨i=1∨i=2∨i=3) with rfl|rfl|rfl|rfl<;>kernel_rfl
def frC (a b:Int):List Value:=[ad a,ad b]
theorem Rx {b:Int}:∀u∈frC a b,u.oneCell'=true:=by
 intro u hu;simp only[frC,auI,avP,or_false] at hu;rcases hu with rfl|rfl<;>rfl
theorem apE:nN ah frT 0=ay 0:=krx
theorem alL:nN ah frT 1=ay 1:=krx
theorem szFr:(Tryz.prog.info? frT).map (·.size)=ay 2:=krx
theorem MJ (M:Mem)(w:ao)(j:M.has w):jR ah 269 #[] M w (λv N=>∃a b,v=.tuple #[a,b]∧SlA N.A N.w a 1 cy.length (bF cy)∧SlA N.A N.w b 1 dj.length (bF dj)):=by
 refine bB j λK l=>E1 ?_;unfold BF nz;have c:bT M.A w w [.mem M]:=bT.memS j;rw[m_fr,m_fr,m_fr,m_fr,aqA];have c:bT M.A w w [.urow 3 1 cI 0 [],.mem M]:=bT.nilU (L:=[.mem M]) c _ _;refine loop (λvs W=>∃(i:Nat) (ov:aq),vs=[ov,ad (i:Int)]∧i<=4∧bT M.A w W [.urow 3 1 ov (LC i).length (bF (LC i)),.mem M]) (λvs _=>4 - n1 vs) ⟨0,cI,rfl,om,c⟩ ?_;clear c;rintro vs s ⟨i,ov,rfl,hi,c⟩ _;simp only[wK,gd,rs,nz];by_cases g:(i:Int) < 4
 ·simp only[g,auE,i_t];have d:i < 4:=om
  have m:=Y6 (Nat.le_of_lt d);have hle:=anW d;have f:=Vz d;refine aD (ajZ d) |>.mpr ?_;generalize fxL.getD i (0,0)=e at hle f;obtain⟨k,n⟩:=e;dsimp only at hle f ⊢;refine bK (λb=>af b 0) (frC 0 0) frT (λ_=>by kernel_rfl) c λb w2 c=>?_;refine jH 0 c rfl (new:=frC k n) szFr Rx rfl λw3 c=>?_;rw[aW alL,aJ aU (c.cell 0 rfl 1 rfl)];refine xR (n:Int) c λb2 o c=>?_;rw[aW apE,aJ aU (c.cell 1 rfl 0 rfl)];refine XQ 0 c rfl rfl om λb3 p c=>?_;refine sR 3 c rfl (Sl.cells (c.at_ 0 rfl) 1 k k (by rw[avW,avC])) (λu hu=>by rw[axV hu];rfl) om λv' t c=>?_
  try simp only[rs]
  rw[aA om om];refine bC ⟨i+1,v',rfl,om,?_⟩ (by simp[n1,RowKit.intOf];omega);rw[f,pA,JY,auH,avW];exact c.tail.tail.tail
 ·simp only[g,auF,i_f];have:i=4:=om
  subst this;refine xR 5 c λb2 o c=>?_;refine XQ (k:=32) 0 c rfl rfl om λb3 p c=>?_;have c:=c.sub (L':=[.cells b3 (List.replicate 32 (ad 5)) 3,.urow 3 1 ov (LC 4).length (bF (LC 4)),.mem M]) (.cons_cons _ (.cons _ (azV _)));have c:=bT.toU (b:=b3) c 1 32 32 (by rw[avW]) om om;obtain⟨N1,g1,h,c⟩:=bT.bG (L:=[.urow 3 1 ov (LC 4).length (bF (LC 4)),.mem M]) c 1 rfl;obtain⟨q,g2,r,c⟩:=bT.bG (L:=[.mem N1]) c 0 rfl;refine l _ _ q _ 0 c rfl (g1.trans g2) ⟨_,_,rfl,r,?_⟩;have h:=h.le g2;rw[show dj.length=32 from rfl,show bF dj=List.replicate 32 (ad 5) from JY 32 5];exact h
end
def dy (g:Nat):Nat:=if g=18 then 11 else 3
def cu (g:Nat):Nat:=if g=16 then 2 else if g=17 then 3 else 7
def jz (cl:List Nat)(s:List UInt8)(n:Nat):Nat->Nat->List Nat->List Nat×Nat×Int
|0,p,l=>(l,p,13)
|f+1,p,l=>
  if n<=l.length then (l,p,0)
  else
   let r:=du cl s p
   if r.2.2≠0 then (l,p,r.2.2)
   else if r.1 < 16 then jz cl s n f r.2.1 (l++[r.1])
   else if r.1=16∧l.length=0 then (l,p,3)
   else if 8*s.length < r.2.1+cu r.1 then (l,p,4)
   else if n < l.length+(dy r.1+Fl.num s r.2.1 (cu r.1)) then (l,p,3)
   else jz cl s n f (r.2.1+cu r.1) (l++List.replicate (dy r.1+Fl.num s r.2.1 (cu r.1)) (if r.1=16 then l.getD (l.length - 1) 0 else 0))
def Fl.lens (cl:List Nat)(s:List UInt8)(n p:Nat):List Nat×Nat×Int:=jz cl s n (n+1) p []
def rpM:List (Int×aq):=[(16,.agg #[ad 3,ad 2]),(17,.agg #[ad 3,ad 3]),(18,.agg #[ad 11,ad 7])]
def Rp (M:Mem):Prop:=∃a,M.A 3∧M.w.cell? ⟨3,0,ax⟩=ay (.map (ay a))∧M.A a∧∃b,(∀k:Int,xV b k=xV rpM k)∧Sz M.w a b
theorem Mem.cell {M:Mem}{w:ao}(h:M.has w){b j:Nat}{v:aq}(a:M.A b)(c:M.w.cell? ⟨b,j,ax⟩=ay v):w.cell? ⟨b,j,ax⟩=ay v:=(OM (h b a)).trans c
theorem Rp.le {M N:Mem}(h:M.le N)(k:Rp M):Rp N:=by
 obtain⟨b,c,e,d,f,a,es,cl,g,i⟩:=k;exact⟨b,h.A _ c,Mem.cell h.has c e,h.A _ d,f,a,es,cl,(h.has b d).trans g,i⟩
theorem asW {g:Nat}(h:g < 16):xV rpM (g:Int)=none:=by
 simp[xV,rpM];omega
theorem aqX {g:Nat}(h:16<=g)(a:g < 19):xV rpM (g:Int)=ay (.agg #[ad (dy g:Int),ad (cu g:Int)]):=by
 rcases (by omega:g=16∨g=17∨g=18) with rfl|rfl|rfl<;>rfl
theorem mpRp:Tryz.prog.underlying 350=ay (.map 3 348):=underlying350
theorem zRp:(Tryz.prog.info? 348).bind (·.zero)=ay (.agg #[ad 0,ad 0]):=krx
theorem alS:eS ah 350=true:=krx
theorem apO:nN ah 348 0=ay 0:=krx
theorem alJ:nN ah 348 1=ay 1:=krx
theorem szRp:(Tryz.prog.info? 348).map (·.size)=ay 2:=krx
theorem yi (g:Nat):cu g<=7:=by
 unfold cu;split
 ·omega
 ·split<;>omega
theorem yj (g:Nat):3<=dy g∧dy g<=11:=by unfold dy;split<;>omega
def lenV:aq->Nat|.slice _ n _=>n|_=>0
def aqN (vs:List aq):Nat:=lenV (vs.getD 0 undef)
theorem RR {n:Nat}(h:Sl w v sz n cs):lenV v=n:=by
 obtain⟨_,a,cap,rfl,_⟩:=h;rfl
section
variable {w:ao}{PK:PKT}{K:VWP}{S:Nat->Prop}{w0:ao}{L:List Ent}
theorem ZJ {n:Nat}(f:n<=1000000)(a:bT S w0 w L)(k:∀v w',bT S w0 w' (.urow 3 1 v 0 []::L)->K v w') :
  DoX ah (Ld 70 (ad 0) (ad (n:Int))) w PK K:=by
 obtain⟨i,hi,c,d,e⟩:=SK;refine bK (λb=>bO b 0 0 n) (List.replicate n (ad 0)) 3 (λW=>?_) a λb w' a=>k _ _ ?_
 ·have:=Go.run_make (P:=ah) W 70 3 i (Value.int .i64 0) avB hi c .i64 .i64 (0:Int) (n:Int) om om (by rw[e];omega) om;rw[d,auJ,Uo] at this;exact cJ this
 ·have:=bT.toU (b:=b) a 1 0 n (by rw[avW,avC]) om om;exact this
theorem afR {a:Nat}{b:List (Int×aq)}(c:∀k:Int,xV b k=xV rpM k)(d:M.has w)(e:M.A a)(h:Sz M.w a b)(g:Nat):(XY 350 (.map (ay a)) (ad (g:Int)) aw).run ah w=.ok (.value (.tuple #[(xV rpM (g:Int)).getD (.agg #[ad 0,ad 0]),.bool (xV rpM (g:Int)).isSome])) w:=by
 have hw:Sz w a b:=by
  obtain⟨es,cl,f,i⟩:=h;exact⟨es,cl,(d a e).trans f,i⟩
 rw[<-c];exact X8 (ok:=aw) mpRp avY zRp hw (g:Int)
theorem We {n:Nat}{ov:aq}{s:List UInt8}{out:List UInt8}{R:List Ent}(jm:Nat)(a:bT S w0 w (Fs fb rb s most ov way p out R))(hm:R[jm]?=ay (.mem M))(ht:TbAt M.A M.w tb cl)(hl:cl.length=19)(N:Rp M)(hw:way=0∨way=1)(hp:p<=8*s.length)(hs:s.length<=1000000000)(hn:n<=1000)
  (k1:(Fl.lens cl s n p).2.2=0->(Fl.lens cl s n p).2.1<=8*s.length->(Fl.lens cl s n p).1.length=n->(∀x∈(Fl.lens cl s n p).1,x<=15)->∀way' i W,(way'=0∨way'=1)->bT S w0 W (.urow 3 1 i (Fl.lens cl s n p).1.length (bF (Fl.lens cl s n p).1)::Fs fb rb s most ov way' (Fl.lens cl s n p).2.1 out R)->K i W)
  (E:(Fl.lens cl s n p).2.2≠0->∀way' p' W,bT S w0 W (Fs fb rb s most ov way' p' out R)->PK [upI (Fl.lens cl s n p).2.2] W) :
  cR ah 312 #[af fb 0,af tb 0,ad (n:Int)] w PK K:=by
 generalize c:Fl.lens cl s n p=X at k1 E;unfold Fl.lens at c;refine⟨tJ ?_⟩;unfold lL nz;refine ZJ om a λi w1 a=>?_;refine loop (λvs W=>∃(p:Nat) (way:Int) (l:List Nat) (i:aq),vs=[i]∧(way=0∨way=1)∧p<=8*s.length∧l.length<=n∧(∀x∈l,x<=15)∧(∃f,n+1 - l.length<=f∧jz cl s n f p l=X)∧bT S w0 W (.urow 3 1 i l.length (bF l)::Fs fb rb s most ov way p out R)) (λvs _=>n - aqN vs) ⟨p,way,[],i,rfl,hw,hp,avG _,(λx o=>by cases o),⟨_,auL _,c⟩,a⟩ ?_;clear a c hp hw;rintro vs w1 ⟨p,way,l,i,rfl,hw,hp,a8,j,⟨f,hf,c⟩,a⟩ _;have b0:lenV i=l.length:=RR (a.slU 0 rfl);simp only[jZ,gd,nz];obtain⟨f,rfl⟩:∃f',f=f'+1:=⟨f - 1,om⟩;rw[jz] at c;dsimp only at c;rw[aZ avB (a.slU 0 rfl)]
 try simp only[rs]
 by_cases F:(l.length:Int) < (n:Int)
 case neg=>
  simp only[F,auF,i_f];rw[auC om] at c;subst c;exact k1 rfl hp (by dsimp only;omega) j _ _ _ hw a
 simp only[F,auE,i_t];rw[auB om] at c
 try rw[bQ]
 rw[Pd,Y1 a 1 rfl];refine QO 2 (jm+4) om a rfl hm ht om hw hp hs λd W3 v r a=>?_;have a:bT S w0 W3 (.urow 3 1 i l.length (bF l)::Fs fb rb s most ov d (du cl s p).2.1 out R):=a;have m:(du cl s p).1 < cl.length:=qn s om 16 0 p 0;rw[hl] at m;generalize du cl s p=T at c a r m;obtain⟨g,q,e⟩:=T;dsimp only at c a r m;simp only[ex];refine xQ (λJ=>?_) (λJ=>?_)
 rotate_left
 ·rw[auC J] at c;subst c;exact E J _ _ _ a.tail
 rw[auB (by rw[J];decide)] at c;obtain⟨mb,O,P,Q,al,U,V⟩:=N;have hM:=a.hasM (jm+4) hm;rw[aJ alS (Mem.cell hM O P)];refine aD (afR U hM Q V g) |>.mpr ?_;simp only[ex];refine bK (λb=>af b 0) (frC 0 0) 348 (λ_=>by kernel_rfl) a λy w4 a=>?_;by_cases z:g < 16
 ·rw[auC z] at c;rw[asW z];simp only[Option.getD_none,ayR];refine jH 0 a rfl (new:=frC 0 0) szRp Rx rfl λw5 a=>?_;simp only[rs,nn_f];refine xR (g:Int) a λb2 w6 a=>?_;refine sR 2 a rfl (a.sl 0 rfl 1 1 1 rfl) wQ om λv' w7 a=>?_;have G:lenV v'=l.length+1:=RR (a.slU 2 rfl);refine bC ⟨q,d,l++[g],v',rfl,v,r,by rw[auH,awM];omega,?_,⟨f,by rw[auH,awM];omega,c⟩,?_⟩ (by show n - lenV v' < n - lenV i;omega)
  ·intro x o;rcases avF.1 o with o|o
   ·exact j x o
   ·rw[avD.1 o];omega
  ·rw[pA,auH];exact a.tail.tail
 rw[auB z] at c;rw[aqX om m];simp only[ayD,azD];refine jH 0 a rfl (new:=frC (dy g) (cu g)) szRp Rx rfl λw5 a=>?_;simp only[rs,nn_t];have hB:=yi g;have hL:=yj g;refine join λJ2 Y=>?_;have rest:∀(W:ao) (D:Nat),(D=if g=16 then l.getD (l.length - 1) 0 else 0)->D<=15->¬(g=16∧l.length=0)->bT S w0 W (.cells y (frC (dy g) (cu g)) 348::.urow 3 1 i l.length (bF l)::Fs fb rb s most ov d q out R)->J2 [ad (D:Int)] W:=by
  intro W D Z B a1 a;rw[auB a1,<-Z] at c;refine Y _ _ λ_=>?_;simp only[jX,gd,iN,dx,bnx,lnx,apx,cx];have a:=a.drew;refine⟨λW=>(Ent.cells y (frC (dy g) (cu g)) 348).is W,a.at_ 0 rfl,?_⟩;refine aP _ (λ_=>bE apO) (fS _ (λW h=>aB aU (aI (T:=348) h rfl)) ?_);refine aP _ (λ_=>bE alJ) (fS _ (λW h=>aB aU (aI (T:=348) h rfl)) ?_);refine rX (n:=cu g) 2 3 a rfl rfl v r om hs (λh5 W5 a=>?_) (λh5 W5 a=>?_)
  rotate_left
  ·rw[auC h5] at c;subst c
   repeat intro _
   exact E (by dsimp only;decide) _ _ _ a.tail.tail
  rw[auB om] at c;have H:(if 0 < cu g then (1:Int) else d)=0∨(if 0 < cu g then (1:Int) else d)=1:=by split;exact .inr rfl;exact v
  have a:bT S w0 W5 (.cells y (frC (dy g) (cu g)) 348::.urow 3 1 i l.length (bF l)::Fs fb rb s most ov (if 0 < cu g then 1 else d) (q+cu g) out R):=a;generalize (if 0 < cu g then (1:Int) else d)=I at a H;have b1:=Fl.Cl s q (cu g);have b4:2 ^ cu g<=2 ^ 7:=awL dc hB;have a7:(2:Nat) ^ 7=128:=dc
  refine⟨a.at_ 0 rfl,?_⟩;refine aP _ (λ_=>Fk) ?_;rw[aA om om,show (dy g:Int)+(Fl.num s q (cu g):Int)=((dy g+Fl.num s q (cu g):Nat):Int) by omega];generalize hk:dy g+Fl.num s q (cu g)=k at c;rw[aZ avB (a.slU 1 rfl)]
  try simp only[rs]
  rw[aA om om];refine kQ (λt=>?_) (λt=>?_)
  rotate_left
  ·have:=avT t;rw[auC om] at c;subst c;exact E (by dsimp only;decide) _ _ _ a.tail.tail
  have t:=auW t;rw[auB om] at c;refine xR (D:Int) a λb2 w6 a=>?_;refine XQ 0 a rfl rfl om λb3 w7 a=>?_;refine sR 3 a rfl (Sl.cells (a.at_ 0 rfl) 1 k k (by rw[avW,avC])) (λu hu=>by rw[axV hu];rfl) om λv' w8 a=>?_;have G:lenV v'=l.length+k:=RR (a.slU 3 rfl);refine bC ⟨q+cu g,I,l++List.replicate k D,v',rfl,H,h5,by rw[auH,avW];omega,?_,⟨f,by rw[auH,avW];omega,c⟩,?_⟩ (by show n - lenV v' < n - lenV i;omega)
  ·intro x o;rcases avF.1 o with o|o
   ·exact j x o
   ·rw[axV o];exact B
  ·rw[pA,JY,auH,avW];exact a.tail.tail.tail
 by_cases L:g=16
 case neg=>
  simp only[show ai ((g:Int)=16)=au from auD om,i_f];exact rest _ 0 (by rw[auB L]) om (λh=>L h.1) a
 simp only[show ai ((g:Int)=16)=aw from auG om,i_t];rw[aZ avB (a.slU 1 rfl)]
 try simp only[rs]
 refine kQ (λt=>?_) (λt=>?_)
 rotate_left
 ·have:=avT t;rw[auC ⟨L,om⟩] at c;subst c;exact E (by dsimp only;decide) _ _ _ a.tail.tail
 have t:=auW t;rw[aZ avB (a.slU 1 rfl)]
 try simp only[rs]
 rw[aA om om,show (l.length:Int) - 1=((l.length - 1:Nat):Int) by omega];have C:l.length - 1 < l.length:=om
 obtain⟨b2,off,r1,r2⟩:=pO (a.slU 1 rfl) C;refine aD (r1 w5) |>.mpr (aD (aB aU r2) |>.mpr ?_);have a6:l.getD (l.length - 1) 0=l[l.length - 1]:=by rw[auK,auO C];rfl
 exact rest _ _ (by rw[auC L,a6]) (j _ (auS C)) (λh=>by omega) a
end
theorem TbAt.le {M N:Mem}(h:M.le N){b:Nat}{lens:List Nat}(k:TbAt M.A M.w b lens):TbAt N.A N.w b lens:=by
 obtain⟨a,c,o,d,e,f⟩:=k;exact⟨a,c,o,h.A b d,(tbE b a c (cnt lens) (IW lens) o).keep e (λk g=>by cases g;exact h.has b d),f.le h⟩
theorem yl:∀l∈cy,l<=15:=by
 intro l a;have h:cy.all (λl=>ai (l<=15))=true:=by decide +kernel
 exact auW (axJ.1 h l a)
theorem ym:∀l∈dj,l<=15:=by
 intro l a;rw[axV a];decide
theorem qo:cy.length=288:=by decide +kernel
theorem nd:dj.length=32:=by decide +kernel
theorem ny:bn cy=0:=by decide +kernel
theorem od:bn dj=0:=by decide +kernel
def cm:List Nat:=[16,17,18,0,8,7,9,6,10,5,11,4,12,3,13,2,14,1,15]
theorem H0 (h:i < 19):cm.getD i 0 < 19:=by
 have a:(List.range 19).all (λi=>ai (cm.getD i 0 < 19))=true:=by decide +kernel
 exact auW (axJ.1 a i (awH.2 h))
def Od (M:Mem):Prop:=M.A 2∧∀i,i < 19->M.w.cell? ⟨2,i,ax⟩=ay (ad ((cm.getD i 0:Nat):Int))
theorem Od.le {M N:Mem}(h:M.le N)(k:Od M):Od N:=⟨h.A _ k.1,λi hi=>Mem.cell h.has k.1 (k.2 i hi)⟩
theorem lt19 (h:i < 19):i=0∨i=1∨i=2∨i=3∨i=4∨i=5∨i=6∨i=7∨i=8∨i=9∨i=10∨i=11∨i=12∨i=13∨i=14∨i=15∨i=16∨i=17∨i=18:=om
def gh (s:List UInt8)(p:Nat):Nat->List Nat
|0=>List.replicate 19 0
|i+1=>(gh s p i).set (cm.getD i 0) (Fl.num s (p+3*i) 3)
theorem nf (s:List UInt8)(p:Nat):∀i,(gh s p i).length=19
|0=>rfl
|i+1=>by rw[gh,axC,nf s p i]
theorem rp (s:List UInt8)(p:Nat):∀i,∀x∈gh s p i,x<=7
|0,x,h=>by rw[axV h];decide
|i+1,x,h=>by
  rcases aAv h with h|h
  ·exact rp s p i x h
  ·have:=Fl.Cl s (p+3*i) 3;rw[h];omega
def gz (s:List UInt8)(most p:Nat)(out:List UInt8):List UInt8×Nat×Int:=
 if 8*s.length < p+5 then (out,p,4)
 else if 29 < Fl.num s p 5 then (out,p,3)
 else if 8*s.length < p+10 then (out,p,4)
 else if 29 < Fl.num s (p+5) 5 then (out,p,3)
 else if 8*s.length < p+14 then (out,p,4)
 else if 8*s.length < p+14+3*(Fl.num s (p+10) 4+4) then (out,p,4)
 else
  let cl:=gh s (p+14) (Fl.num s (p+10) 4+4)
  if bn cl≠0 then (out,p,bn cl)
  else
   let r:=Fl.lens cl s (Fl.num s p 5+257+(Fl.num s (p+5) 5+1)) (p+14+3*(Fl.num s (p+10) 4+4))
   if r.2.2≠0 then (out,p,r.2.2)
   else if r.1.getD 256 0=0 then (out,p,13)
   else if bn (r.1.take (Fl.num s p 5+257))≠0 then (out,p,bn (r.1.take (Fl.num s p 5+257)))
   else if bn (r.1.drop (Fl.num s p 5+257))≠0 then (out,p,bn (r.1.drop (Fl.num s p 5+257)))
   else gf (r.1.take (Fl.num s p 5+257)) (r.1.drop (Fl.num s p 5+257)) s most r.2.1 out
def dn (s:List UInt8)(most p:Nat)(out:List UInt8):List UInt8×Nat×Int:=
 if 8*s.length < p+2 then (out,p,4)
 else if Fl.num s p 2=0 then ev s most (p+2) out
 else if Fl.num s p 2=1 then gf cy dj s most (p+2) out
 else if Fl.num s p 2=2 then gz s most (p+2) out
 else (out,p,3)
theorem SlA.XR {a:Option Addr}{n:Nat}(h:SlA A w (.slice a n cap) sz n cs)(hi:i<=n)(b:0 < i->0 < n):SlA A w (.slice (wB a 0 cap sz) i cap) sz i (cs.take (i*sz)):=by
 obtain⟨d,f,g⟩:=h;have o:=g _ _ _ rfl;refine⟨Sl.upto d hi,λp l c e j=>?_,λa l c e=>?_⟩
 ·injection e with e1 _ _
  obtain⟨q,k,m⟩:=K1 e1;have:=f q n cap (by rw[k]) (b j)
  rwa [<-m]
 ·injection e with e1 e2 e3
  omega
section
variable {w:ao}{PK:PKT}{K:VWP}{S:Nat->Prop}{w0:ao}{L:List Ent}
abbrev arT:TypeId:=295
theorem ZA :(fJ arT (af b 0) ax ax ax).run ah W=.ok (.value (bO b 0 19 19)) W:=krx
theorem ahH {h:Nat}(c:h<=19):(fJ arT (af b 0) ax (ay (ad (h:Int))) ax).run ah W=.ok (.value (bO b 0 h 19)) W:=by
 rcases (by omega:h=19∨h < 19) with rfl|a
 ·kernel_rfl
 ·rcases lt19 a with rfl|rfl|rfl|rfl|rfl|rfl|rfl|rfl|rfl|rfl|rfl|rfl|rfl|rfl|rfl|rfl|rfl|rfl|rfl<;>kernel_rfl
theorem aaW (hi:i < 19):(mIA arT (af b 0) (ad (i:Int))).run ah W=.ok (.value (af b i)) W:=by
 rcases lt19 hi with rfl|rfl|rfl|rfl|rfl|rfl|rfl|rfl|rfl|rfl|rfl|rfl|rfl|rfl|rfl|rfl|rfl|rfl|rfl<;>kernel_rfl
theorem agT {ov:aq}{s:List UInt8}{out:List UInt8}{T:List Ent}(c:bT S w0 w (Fs fb rb s most ov way p out (.mem M::T)))(hw:way=0∨way=1)(hp:p<=8*s.length)(t:s.length<=1000000000)(g:most<=1000000000)(i:out.length<=most)
  (u:(gf cy dj s most p out).2.2=0->(gf cy dj s most p out).2.1<=8*s.length->(gf cy dj s most p out).1.length<=most->∀N way' d W,M.le N->(way'=0∨way'=1)->bT S w0 W (Fs fb rb s most d way' (gf cy dj s most p out).2.1 (gf cy dj s most p out).1 (.mem N::T))->K (.tuple #[]) W)
  (x:(gf cy dj s most p out).2.2≠0->∀N d way' j e W,M.le N->bT S w0 W (Fs fb rb s most d way' j e (.mem N::T))->PK [upI (gf cy dj s most p out).2.2] W) :
  cR ah 282 #[af fb 0] w PK K:=by
 refine⟨wM ?_⟩;unfold oL nz;refine bH c 3 rfl (MJ M w (c.hasM 3 rfl)) ?_;rintro _ N1 q g1 ⟨a,b,rfl,y,z⟩ c;have c:bT S w0 q (Fs fb rb s most ov way p out (.mem N1::T)):=c;simp only[ex];refine bH c 3 rfl (EM cy a N1 q yl (by rw[qo];omega) (by rw[qo];omega) (c.hasM 3 rfl) y) ?_;intro v r w2 g2 f c;rw[auB (by rw[ny];decide)] at f;obtain⟨tb,rfl,k⟩:=f;have c:bT S w0 w2 (Fs fb rb s most ov way p out (.mem r::T)):=c;simp only[ex];refine uM (λ_=>?_) (λh=>absurd rfl h);refine bH c 3 rfl (EM dj b r w2 ym (by rw[nd];omega) (by rw[nd];omega) (c.hasM 3 rfl) (z.le g2)) ?_;intro v l w3 g3 f c;rw[auB (by rw[od];decide)] at f;obtain⟨C,rfl,m⟩:=f;have c:bT S w0 w3 (Fs fb rb s most ov way p out (.mem l::T)):=c;simp only[ex];refine uM (λ_=>?_) (λh=>absurd rfl h);have hle:=g1.trans (g2.trans g3);exact Xh 0 c rfl (k.le g3) m (by rw[qo];omega) (by rw[nd];omega) hw hp t g i (λn A B way' d W o c=>u n A B l way' d W hle o c) (λn d way' j e W c=>x n l d way' j e W hle c)
theorem VV (l:List Nat)(i n:Nat):bF (l.set i n)=(bF l).set i (ad (n:Int)):=by simp[bF,aAw]
theorem YI {ov:aq}{s:List UInt8}{out:List UInt8}{T:List Ent}(d:bT S w0 w (Fs fb rb s most ov way p out (.mem M::T)))(a8:Rp M)(R:Od M)(hw:way=0∨way=1)(hp:p<=8*s.length)(O:s.length<=1000000000)(b0:most<=1000000000)(b1:out.length<=most)
  (k1:(gz s most p out).2.2=0->(gz s most p out).2.1<=8*s.length->(gz s most p out).1.length<=most->∀N way' u W,M.le N->(way'=0∨way'=1)->bT S w0 W (Fs fb rb s most u way' (gz s most p out).2.1 (gz s most p out).1 (.mem N::T))->K (.tuple #[]) W)
  (z:(gz s most p out).2.2≠0->∀N u way' p' C W,M.le N->bT S w0 W (Fs fb rb s most u way' p' C (.mem N::T))->PK [upI (gz s most p out).2.2] W) :
  cR ah 283 #[af fb 0] w PK K:=by
 generalize f:gz s most p out=X at k1 z;unfold gz at f;dsimp only at f;refine⟨tC ?_⟩;unfold lX nz;have h5:(2:Nat) ^ 5=32:=dc
 have h4:(2:Nat) ^ 4=16:=dc
 refine rX (n:=5) 0 1 d rfl rfl hw hp om O (λe1 W1 d=>?_) (λe1 W1 d=>?_)
 rotate_left
 ·rw[auC e1] at f;subst f;exact z (by dsimp only;decide) M _ _ _ _ _ M.le_refl d
 rw[auB om] at f;have d:bT S w0 W1 (Fs fb rb s most ov 1 (p+5) out (.mem M::T)):=d;have n1:=Fl.Cl s p 5;generalize Fl.num s p 5=g at f n1
 try simp only[rs]
 rw[aA om om];refine kQ (λe2=>?_) (λe2=>?_)
 rotate_left
 ·have:=avT e2;rw[auC om] at f;subst f;exact z (by dsimp only;decide) M _ _ _ _ _ M.le_refl d
 have e2:=auW e2;rw[auB om] at f;refine rX (n:=5) 0 1 d rfl rfl (.inr rfl) e1 om O (λe3 W2 d=>?_) (λe3 W2 d=>?_)
 rotate_left
 ·rw[auC om] at f;subst f;exact z (by dsimp only;decide) M _ _ _ _ _ M.le_refl d
 rw[auB om] at f;have d:bT S w0 W2 (Fs fb rb s most ov 1 (p+5+5) out (.mem M::T)):=d;have n2:=Fl.Cl s (p+5) 5;generalize Fl.num s (p+5) 5=hd at f n2
 try simp only[rs]
 rw[aA om om];refine kQ (λD=>?_) (λD=>?_)
 rotate_left
 ·have:=avT D;rw[auC om] at f;subst f;exact z (by dsimp only;decide) M _ _ _ _ _ M.le_refl d
 have D:=auW D;rw[auB om] at f;refine bK (λb=>af b 0) (bF (List.replicate 19 0)) arT (λ_=>by kernel_rfl) d λU W3 d=>?_;refine rX (n:=4) 1 2 d rfl rfl (.inr rfl) e3 om O (λQ W4 d=>?_) (λQ W4 d=>?_)
 rotate_left
 ·rw[auC om] at f;subst f;exact z (by dsimp only;decide) M _ _ _ _ _ M.le_refl d.tail
 rw[auB om] at f;have d:bT S w0 W4 (.cells U (bF (List.replicate 19 0)) arT::Fs fb rb s most ov 1 (p+14) out (.mem M::T)):=d;have n3:=Fl.Cl s (p+10) 4;rw[show Fl.num s (p+5+5) 4=Fl.num s (p+10) 4 from rfl];generalize Fl.num s (p+10) 4=o at f n3
 try simp only[rs]
 rw[aA om om,show (o:Int)+4=((o+4:Nat):Int) by omega];refine aD (ahH om) |>.mpr ?_;have hlen:∀W:ao,DoX ah (mB .len #[70] 3 #[au] #[bO 2 0 (o+4) 19]) W (Eng.pk λ_ _=>True) (λv _=>v=ad ((o+4:Nat):Int)):=λW=>by
  refine vZ (v:=ad ((o+4:Nat):Int)) (w':=W) ?_ rfl;simp[mB,builtin,Builtin.len_,run_underlying avB,goInt]
 clear hlen;refine vZ (v:=ad ((o+4:Nat):Int)) (w':=W4) (by simp[mB,builtin,Builtin.len_,run_underlying avB,goInt]) ?_;have b2:bF (List.replicate 19 0)=bF (gh s (p+14) 0):=rfl;rw[b2] at d;refine loop (λvs W=>∃i:Nat,vs=[ad (i:Int)]∧i<=o+4∧p+14+3*i<=8*s.length∧bT S w0 W (.cells U (bF (gh s (p+14) i)) arT::Fs fb rb s most ov 1 (p+14+3*i) out (.mem M::T))) (λvs _=>o+4 - n0 vs) ⟨0,rfl,om,om,d⟩ ?_;clear d;rintro vs w5 ⟨i,rfl,hi,V,d⟩ _;simp only[jY,gd,rs,iN,ldx,bnx,iax,exx,stx,slx,cx];by_cases Y:(i:Int) < ((o+4:Nat):Int)
 ·simp only[Y,auE,i_t];have F:i < 19:=om
  have Z:=cZ (P:=ah) (T:=70) (b:=2) (off:=0) (cap:=19) (n:=o+4) (k:=.i64) (i:=(i:Int)) (w:=w5) avB szI1 om om;rw[auJ,avC,auP] at Z;refine aD Z |>.mpr ?_;rw[aJ aU (Mem.cell (d.hasM 4 rfl) R.1 (R.2 i F))];refine rX (n:=3) 1 2 d rfl rfl (.inr rfl) V om O (λe6 W6 d=>?_) (λe6 W6 d=>?_)
  rotate_left
  ·rw[auC om] at f;subst f;exact z (by dsimp only;decide) M _ _ _ _ _ M.le_refl d.tail
  have d:bT S w0 W6 (.cells U (bF (gh s (p+14) i)) arT::Fs fb rb s most ov 1 (p+14+3*i+3) out (.mem M::T)):=d;have G:=H0 F;refine aD (aaW G) |>.mpr ?_;refine aO 0 d rfl krx rfl (by rw[fN,nf];exact G) λw7 d=>?_
  try simp only[rs]
  rw[aA om om];refine bC ⟨i+1,rfl,om,om,?_⟩ (by simp[n0,RowKit.intOf];omega);rw[gh,VV];exact d
 simp only[Y,auF,i_f];have b3:i=o+4:=om
 subst b3;rw[auB om] at f;have E:=nf s (p+14) (o+4);have a1:=rp s (p+14) (o+4);generalize gh s (p+14) (o+4)=cl at f E a1 d;refine aD ZA |>.mpr ?_;have b4:=d.at_ 0 rfl;obtain⟨N1,g1,b5,a6,d⟩:=bT.freeze (L:=Fs fb rb s most ov 1 (p+14+3*(o+4)) out (.mem M::T)) d 3 rfl;have d:bT S w0 w5 (Fs fb rb s most ov 1 (p+14+3*(o+4)) out (.mem N1::T)):=d;have b7:SlA N1.A N1.w (bO U 0 19 19) 1 cl.length (bF cl):=by
  rw[b5,E];refine⟨Sl.cells b4 1 19 19 (by rw[fN,E]),λq l c e _=>?_,λa l c e=>?_⟩
  ·injection e with e1 e2 e3
   cases e1;exact a6 U rfl
  ·injection e with e1 e2 e3
   omega
 refine bH d 3 rfl (EM cl _ N1 w5 (λl h=>by have:=a1 l h;omega) om om (d.hasM 3 rfl) b7) ?_;intro v N2 w6 g2 y d;have d:bT S w0 w6 (Fs fb rb s most ov 1 (p+14+3*(o+4)) out (.mem N2::T)):=d;by_cases B:bn cl=0
 case neg=>
  rw[auC B] at y;subst y;rw[auC B] at f;subst f;simp only[ex];refine uM (λh=>absurd h B) (λ_=>?_);exact z B N2 _ _ _ _ _ (g1.trans g2) d
 rw[auB (by simp[B])] at y;obtain⟨tb,rfl,b8⟩:=y;rw[auB (by simp[B])] at f;simp only[ex];refine uM (λ_=>?_) (λh=>absurd rfl h)
 try simp only[rs]
 rw[aA om om,show (g:Int)+257+((hd:Int)+1)=((g+257+(hd+1):Nat):Int) by omega];have g12:=g1.trans g2;refine We 0 d rfl b8 E (a8.le g12) (.inr rfl) V O om (λe1 e2 e3 D way' lv W I d=>?_) (λe1 way' p' W d=>?_)
 rotate_left
 ·rw[auC e1] at f;subst f;exact z e1 N2 _ _ _ _ _ g12 d
 rw[auB (by rw[e1];decide)] at f;generalize Fl.lens cl s (g+257+(hd+1)) (p+14+3*(o+4))=r at f e2 e3 D d;obtain⟨l,q,e⟩:=r;dsimp only at f e2 e3 D d;obtain⟨J,g3,t,d⟩:=bT.bG (L:=Fs fb rb s most ov way' q out (.mem N2::T)) d 3 rfl;have d:bT S w0 W (Fs fb rb s most ov way' q out (.mem J::T)):=d;have g13:=g12.trans g3;have H:256 < l.length:=om
 obtain⟨b6,off,r1,r2⟩:=pO (t.now (d.hasM 3 rfl)) H;refine aD (r1 W) |>.mpr (aD (aB aU r2) |>.mpr ?_);have a7:l.getD 256 0=l[256]:=by rw[auK,auO H];rfl
 try simp only[rs]
 refine kQ (λQ=>?_) (λQ=>?_)
 rotate_left
 ·have:=avT Q;rw[auC (by rw[a7];omega)] at f;subst f;exact z (by dsimp only;decide) J _ _ _ _ _ g13 d
 have Q:=auW Q;rw[auB (by rw[a7];omega)] at f;obtain⟨la,lc,b9,c2⟩:=t.form;rw[b9] at t ⊢;have d:=d.drew;refine⟨λ_=>True,trivial,?_⟩;refine aP _ (λ_=>jJ avB szI1 om om) (aP _ (λ_=>dN avB szI1 om om) ?_);have hA:SlA J.A J.w (.slice (wB la 0 lc 1) (g+257) lc) 1 (l.take (g+257)).length (bF (l.take (g+257))):=by
  have:=t.XR (i:=g+257) om om;rw[auM,avO om];rw[avC] at this;have e:bF (l.take (g+257))=(bF l).take (g+257):=by unfold bF;rw[aAx]
  rw[e];exact this
 have hB:SlA J.A J.w (.slice (wB la (g+257) lc 1) (l.length - (g+257)) (lc - (g+257))) 1 (l.drop (g+257)).length (bF (l.drop (g+257))):=by
  have:=t.aeV (i:=g+257) om;rw[auT];rw[avC] at this;have e:bF (l.drop (g+257))=(bF l).drop (g+257):=by unfold bF;rw[List.map_drop]
  rw[e];exact this
 rw[show ((g:Int)+257).toNat=g+257 by omega];have t15:∀x∈l.take (g+257),x<=15:=λx hx=>D x (awN hx);have d15:∀x∈l.drop (g+257),x<=15:=λx hx=>D x (ayG hx);have tl:(l.take (g+257)).length=g+257:=by rw[auM];omega
 have dl:(l.drop (g+257)).length=hd+1:=by rw[auT];omega
 generalize l.take (g+257)=near at f hA t15 tl;generalize l.drop (g+257)=far at f hB d15 dl;refine bH d 3 rfl (EM near _ J _ t15 om om (d.hasM 3 rfl) hA) ?_;intro v N4 w8 g4 y d;have d:bT S w0 w8 (Fs fb rb s most ov way' q out (.mem N4::T)):=d;have g14:=g13.trans g4;refine⟨trivial,?_⟩;by_cases j:bn near=0
 case neg=>
  rw[auC j] at y;subst y;rw[auC j] at f;subst f;refine Mo (GS ?_);refine uM (λh=>absurd h j) (λ_=>?_)
  repeat intro _
  exact z j N4 _ _ _ _ _ g14 d
 rw[auB (by simp[j])] at y;obtain⟨tn,rfl,c0⟩:=y;rw[auB (by simp[j])] at f;refine Mo (GS ?_);refine uM (λ_=>?_) (λh=>absurd rfl h);refine⟨trivial,?_⟩;refine bH d 3 rfl (EM far _ N4 _ d15 om om (d.hasM 3 rfl) (hB.le g4)) ?_;intro v N5 w9 g5 y d;have d:bT S w0 w9 (Fs fb rb s most ov way' q out (.mem N5::T)):=d;have g15:=g14.trans g5;refine⟨trivial,?_⟩;by_cases m:bn far=0
 case neg=>
  rw[auC m] at y;subst y;rw[auC m] at f;subst f;refine Mo (GS ?_);refine uM (λh=>absurd h m) (λ_=>?_)
  repeat intro _
  exact z m N5 _ _ _ _ _ g15 d
 rw[auB (by simp[m])] at y;obtain⟨tf,rfl,c1⟩:=y;rw[auB (by simp[m])] at f;refine Mo (GS ?_);refine uM (λ_=>?_) (λh=>absurd rfl h);refine⟨trivial,?_⟩;refine Xh 0 d rfl (c0.le g5) c1 om om I e2 O b0 b1 (λh1 h2 h3 way' u W I d=>?_) (λh1 u way' p' C W d=>?_)
 ·refine⟨trivial,?_⟩;rw[f] at h1 h2 h3 d;exact k1 h1 h2 h3 N5 way' u W g15 I d
 ·rw[f] at h1 ⊢
  repeat intro _
  exact z h1 N5 u way' p' C W g15 d
theorem ahS {ov:aq}{s:List UInt8}{out:List UInt8}{T:List Ent}(b:bT S w0 w (Fs fb rb s most ov way p out (.mem M::T)))(v:Rp M)(x:Od M)(hw:way=0∨way=1)(hp:p<=8*s.length)(o:s.length<=1000000000)(k:most<=1000000000)(l:out.length<=most)
  (k0:8*s.length < p+1->∀N a way' m c W,M.le N->bT S w0 W (Fs fb rb s most a way' m c (.mem N::T))->PK [upI 4] W)
  (u:p+1<=8*s.length->(dn s most (p+1) out).2.2=0->(dn s most (p+1) out).2.1<=8*s.length->(dn s most (p+1) out).1.length<=most->∀N way' a W,M.le N->(way'=0∨way'=1)->bT S w0 W (Fs fb rb s most a way' (dn s most (p+1) out).2.1 (dn s most (p+1) out).1 (.mem N::T))->K (.bool (ai (Fl.num s p 1=1))) W)
  (j:p+1<=8*s.length->(dn s most (p+1) out).2.2≠0->∀N a way' m c W,M.le N->bT S w0 W (Fs fb rb s most a way' m c (.mem N::T))->PK [upI (dn s most (p+1) out).2.2] W) :
  cR ah 250 #[af fb 0] w PK K:=by
 refine⟨vW ?_⟩;unfold nV nz;refine rX (n:=1) 0 1 b rfl rfl hw hp om o (λe1 y b=>?_) (λe1 y b=>?_)
 rotate_left
 ·exact k0 e1 M _ _ _ _ _ M.le_refl b
 have b:bT S w0 y (Fs fb rb s most ov 1 (p+1) out (.mem M::T)):=b;have u:=u e1;have j:=j e1;generalize e:dn s most (p+1) out=X at u j;unfold dn at e
 try simp only[rs]
 rw[show ai ((Fl.num s p 1:Int)=1)=ai (Fl.num s p 1=1) by congr 1;exact propext om];refine join λJ A=>?_;have fin:∀N way' a W,M.le N->(way'=0∨way'=1)->X.2.2=0->X.2.1<=8*s.length->X.1.length<=most->bT S w0 W (Fs fb rb s most a way' X.2.1 X.1 (.mem N::T))->J [] W:=by
  intro N way' a W hle f d g i b;refine A _ _ λ_=>?_;simp only[lM,nz];exact u d g i N way' a W hle f b
 refine rX (n:=2) 0 1 b rfl rfl (.inr rfl) e1 om o (λe2 z b=>?_) (λe2 z b=>?_)
 rotate_left
 ·rw[auC e2] at e;subst e;exact j (by dsimp only;decide) M _ _ _ _ _ M.le_refl b
 rw[auB om] at e;have b:bT S w0 z (Fs fb rb s most ov 1 (p+1+2) out (.mem M::T)):=b
 try simp only[rs]
 by_cases q:Fl.num s (p+1) 2=0
 ·simp only[show ai ((Fl.num s (p+1) 2:Int)=0)=aw from auG om,i_t];rw[auC q] at e;refine abF b (.inr rfl) e2 o k l (λd g i way' a W f b=>?_) (λd a way' m c W b=>?_)
  ·rw[e] at d g i b;exact fin M way' a W M.le_refl f d g i b
  ·rw[e] at d ⊢;exact j d M _ _ _ _ _ M.le_refl b
 simp only[show ai ((Fl.num s (p+1) 2:Int)=0)=au from auD om,i_f];rw[auB q] at e
 try simp only[rs]
 by_cases r:Fl.num s (p+1) 2=1
 ·simp only[show ai ((Fl.num s (p+1) 2:Int)=1)=aw from auG om,i_t];rw[auC r] at e;refine agT b (.inr rfl) e2 o k l (λd g i N way' a W hle f b=>?_) (λd N a way' m c W hle b=>?_)
  ·rw[e] at d g i b;exact fin N way' a W hle f d g i b
  ·rw[e] at d ⊢;exact j d N _ _ _ _ _ hle b
 simp only[show ai ((Fl.num s (p+1) 2:Int)=1)=au from auD om,i_f];rw[auB r] at e
 try simp only[rs]
 by_cases t:Fl.num s (p+1) 2=2
 ·simp only[show ai ((Fl.num s (p+1) 2:Int)=2)=aw from auG om,i_t];rw[auC t] at e;refine YI b v x (.inr rfl) e2 o k l (λd g i N way' a W hle f b=>?_) (λd N a way' m c W hle b=>?_)
  ·rw[e] at d g i b;exact fin N way' a W hle f d g i b
  ·rw[e] at d ⊢;exact j d N _ _ _ _ _ hle b
 simp only[show ai ((Fl.num s (p+1) 2:Int)=2)=au from auD om,i_f];rw[auB t] at e;subst e;exact kQ (λh=>absurd h dc) λ_=>j (by dsimp only;decide) M _ _ _ _ _ M.le_refl b
end
end
section
open Eng
def bU (a:Deferred)(b:aq)(c:aq)(d:aq)(K:Ending->ao->Prop):=pd ah [.cell b 9,.cell c 3,.cell d 35] K [a]
def AX(a b c d d1 w)(p:JT)(K:KT):=
 cR ah 250 #[d] w (bU d1 a b c K) λe w=>DoX ah (mUn .not e) w (bU d1 a b c K) λf w=>IfX f (AtX [d1] [d1] (p [] w)) (oY w (λo=>QDo ah o (JL d) λg=>QDo ah o (mFA 263 g 1) λh=>QDo ah o (aH 80 h) λi=>QDo ah o (tG 80 9 i) λj=>QDo ah o (JL d) λk=>QDo ah o (mFA 263 k 0) λl=>QDo ah o (aH 260 l) λm=>Fj ah o 251 #[m] λn=>
 ∀w,o w ->
 DoX ah (aN 9 a j) w (bU d1 a b c K) λ_ w=>DoX ah (aN 3 b n) w (bU d1 a b c K) λ_ w=>DoX ah (aN 35 c (iN 0)) w (bU d1 a b c K) λ_ w=>Et ah [.cell a 9,.cell b 3,.cell c 35] K [d1] .returning w))
def EB(e d w)(K:KT):=
 alx 9 w K λa w=>alx 3 w K λb w=>alx 35 w K λc w=>dx (QQ (.func 247) #[] #[a,b,c]) w K λf w=>DfrX (dfrV f #[]) (λd1=>DoX ah (iQ .geq 3 d (iN 0)) w (bU d1 a b c K) λg w=>cR ah 248 #[g,(iN 1)] w (bU d1 a b c K) λl w=>cR ah 249 #[e] w (bU d1 a b c K) λh w=>DoX ah (mB .min #[3,3] 3 #[au,aw] #[d,(iN 1048576)]) w (bU d1 a b c K) λi w=>DoX ah (aV 263 #[(0,h),(2,i)]) w (bU d1 a b c K) λj w=>DoX ah (GP 263 j) w (bU d1 a b c K) λk w=>Es [] w (λm w n=>∀_:Sg,AX a b c k d1 w n K))
theorem Iu:EB t0 t1 w k0->Calls ah 221 #[t0,t1] w k0:=cz [] [(4,[])] func221
def eB(w)(K:KT):=
 K (.returned (.tuple #[])) w
def lO(d a b r w)(K:KT):=
 eqx .eql 20 (.tmp 6) (.const .nilIface) r .nilIface w K λg w=>IfX g (K (.returned (.tuple #[])) w) (dx (mTA r 20 258 aw) w K λf w=>exx f 1 w K λh w=>exx f 0 w K λi w=>IfX h (alx 258 w K λc w=>stx 258 c i w K λ_ w=>DrawX w (λw=>(fax 258 c 0 w K λe w=>(ldx 35 e w K λj w=>stx 9 d (.string ⟨#[]⟩) w K λ_ w=>stx 3 a (iN 0) w K λ_ w=>stx 35 b j w K λ_ w=>eB w K)∧(stx 9 d (.string ⟨#[]⟩) w K λ_ w=>(ldx 35 e w K λl w=>stx 3 a (iN 0) w K λ_ w=>stx 35 b l w K λ_ w=>eB w K)∧(stx 3 a (iN 0) w K λ_ w=>ldx 35 e w K λm w=>stx 35 b m w K λ_ w=>eB w K)))∧(stx 9 d (.string ⟨#[]⟩) w K λ_ w=>(fax 258 c 0 w K λk w=>(ldx 35 k w K λn w=>stx 3 a (iN 0) w K λ_ w=>stx 35 b n w K λ_ w=>eB w K)∧(stx 3 a (iN 0) w K λ_ w=>ldx 35 k w K λo w=>stx 35 b o w K λ_ w=>eB w K))∧(stx 3 a (iN 0) w K λ_ w=>fax 258 c 0 w K λp w=>ldx 35 p w K λq w=>stx 35 b q w K λ_ w=>eB w K)))) (dx (H6 r) w K λ_ w=>K (.returned (.tuple #[])) w))
theorem Fy (t0 t1 t2 r:aq)(w:ao)(K:Ending->ao->Prop):wpX ah 14 [] [] ax (aaV (CX f247)) (topD ah [] K) (upd (mP [t0,t1,t2]) 6 r) [] w=lO t0 t1 t2 r w K:=krx
theorem sV {t1 t2:aq}(h:lO t0 t1 t2 (Ax u) w (λe w=>R e (CK u) w)):CallsD ah 247 #[t0,t1,t2] u w R:=
 Dl func247 rfl rfl rfl rfl rfl rfl rfl rfl (Eq.mpr (Fy t0 t1 t2 (Ax u) w _) h)
end
section
open Eng Go.RowKit
theorem oe (near far:List Nat)(s:List UInt8)(most:Nat):∀(f p:Nat) (out:List UInt8),(jy near far s most f p out).2.2=0->p<=(jy near far s most f p out).2.1
|0,_,_,h=>by simp[jy] at h
|f+1,p,out,h=>by
  unfold jy at h ⊢;dsimp only at h ⊢;split
  ·exact auL _
  rename_i c;rw[auB c] at h
  have:=nw (Decidable.not_not.1 c);split
  ·rename_i a;rw[auC a] at h
   split
   ·exact auL _
   rename_i b;rw[auB b] at h
   have:=oe near far s most f _ _ h;omega
  rename_i a;rw[auB a] at h
  split
  ·dsimp only;omega
  rename_i b;rw[auB b] at h
  split
  ·exact auL _
  rename_i d;rw[auB d] at h
  have e:=tu (Decidable.not_not.1 d);have:=oe near far s most f _ _ h;omega
theorem qp (cl:List Nat)(s:List UInt8)(n:Nat):∀(f p:Nat) (l:List Nat),(jz cl s n f p l).2.2=0->p<=(jz cl s n f p l).2.1
|0,_,_,h=>by simp[jz] at h
|f+1,p,l,h=>by
  unfold jz at h ⊢;dsimp only at h ⊢;split
  ·exact auL _
  rename_i c;rw[auB c] at h
  split
  ·exact auL _
  rename_i b;rw[auB b] at h
  have:=nw (Decidable.not_not.1 b);split
  ·rename_i a;rw[auC a] at h
   have:=qp cl s n f _ _ h;omega
  rename_i a;rw[auB a] at h
  split
  ·exact auL _
  rename_i d;rw[auB d] at h
  split
  ·exact auL _
  rename_i e;rw[auB e] at h
  split
  ·exact auL _
  rename_i g;rw[auB g] at h
  have:=qp cl s n f _ _ h;omega
theorem IN {s:List UInt8}{out:List UInt8}(h:(ev s most p out).2.2=0):p<=(ev s most p out).2.1:=by
 unfold ev at h ⊢;dsimp only at h ⊢
 repeat' split
 all_goals first|exact auL _|(dsimp only;omega)
theorem yn {s:List UInt8}{out:List UInt8}(h:(gz s most p out).2.2=0):p<=(gz s most p out).2.1:=by
 unfold gz at h ⊢;by_cases g:8*s.length < p+5
 ·rw[auC g];exact auL _
 rw[auB g] at h ⊢;by_cases i:29 < Fl.num s p 5
 ·rw[auC i];exact auL _
 rw[auB i] at h ⊢;by_cases j:8*s.length < p+10
 ·rw[auC j];exact auL _
 rw[auB j] at h ⊢;by_cases k:29 < Fl.num s (p+5) 5
 ·rw[auC k];exact auL _
 rw[auB k] at h ⊢;by_cases m:8*s.length < p+14
 ·rw[auC m];exact auL _
 rw[auB m] at h ⊢;by_cases o:8*s.length < p+14+3*(Fl.num s (p+10) 4+4)
 ·rw[auC o];exact auL _
 rw[auB o] at h ⊢;have w:p<=p+14+3*(Fl.num s (p+10) 4+4):=om
 generalize p+14+3*(Fl.num s (p+10) 4+4)=q at h w ⊢;generalize gh s (p+14) (Fl.num s (p+10) 4+4)=cl at h ⊢;generalize Fl.num s p 5+257=b at h ⊢;generalize b+(Fl.num s (p+5) 5+1)=n at h ⊢;have a:(Fl.lens cl s n q).2.2=0->q<=(Fl.lens cl s n q).2.1:=qp cl s n _ _ _;dsimp only at h ⊢;generalize Fl.lens cl s n q=r at h a ⊢;obtain⟨l,t,e⟩:=r;dsimp only at h a ⊢;by_cases u:bn cl≠0
 ·rw[auC u];exact auL _
 rw[auB u] at h ⊢;by_cases f:e≠0
 ·rw[auC f];exact auL _
 rw[auB f] at h ⊢;by_cases v:l.getD 256 0=0
 ·rw[auC v];exact auL _
 rw[auB v] at h ⊢;by_cases c:bn (l.take b)≠0
 ·rw[auC c];exact auL _
 rw[auB c] at h ⊢;by_cases d:bn (l.drop b)≠0
 ·rw[auC d];exact auL _
 rw[auB d] at h ⊢;have x:t<=(gf (l.take b) (l.drop b) s most t out).2.1:=oe _ _ _ _ _ _ _ h;have:=a (Decidable.not_not.1 f);omega
theorem IS {s:List UInt8}{most p:Nat}{out:List UInt8}(h:(dn s most p out).2.2=0):p<=(dn s most p out).2.1:=by
 unfold dn at h ⊢;split
 ·exact auL _
 rename_i c;rw[auB c] at h
 split
 ·rename_i a;rw[auC a] at h
  have:=IN h;omega
 rename_i a;rw[auB a] at h
 split
 ·rename_i b;rw[auC b] at h
  have:=oe _ _ _ _ _ _ _ h;unfold gf;omega
 rename_i b;rw[auB b] at h
 split
 ·rename_i d;rw[auC d] at h
  have:=yn h;omega
 exact auL _
namespace Eng
section
variable {P:Program}{w:ao}
theorem OO {S E:TypeId}{l:List UInt8}(j:P.underlying S=ay (.slice E))(he:P.underlying E=ay (.int .u8))(k:P.underlying D=ay .string)(h:Sl w v 1 l.length (bA l)):(tG S D v).run P w=.ok (.value (ae l)) w:=by
 obtain⟨q,a,cap,rfl,n,o⟩:=h;cases a with
|none=>
  have g:=n rfl;have:l=[]:=ayY g;subst this;exact cJ (run_convert_bytes_nil w S E j he _ _ D k)
|some p=>
  obtain⟨f,d⟩:=o p rfl;by_cases g:l=[]
  ·subst g;refine cJ ?_;have m:(loadCells p 0).run P w=.ok (([]:List Int).map (Value.int .u8)).toArray w:=rfl;rw[show ([]:List UInt8).length=0 from rfl,run_convert_bytes_string w S D E _ 0 cap j he k,run_bytesToString w p 0 cap [] m];rfl
  replace f:=f (azL.2 g)
  obtain⟨b,off,spot⟩:=p;simp only at f d;subst f;have:=run_convert_bytes_arg (P:=P) w S E j he b off l.length cap (l.map λc=>(c.toNat:Int)) sm (λi hi=>by
   refine d i _ ?_;simp[bA,auO hi]) D k
  refine cJ ?_;rw[this];have e:strOfNums (l.map λc=>(c.toNat:Int))=⟨l.toArray⟩:=by
   unfold strOfNums;rw[aAi]
   congr 2
   conv=>rhs;rw[<-List.map_id l]
   refine azY λc _=>?_;simp
  rw[e]
end
end Eng
def kh (s:List UInt8)(most:Nat):Nat->Nat->List UInt8->List UInt8×Nat×Int
|0,_,_=>([],0,13)
|f+1,p,out=>
  if 8*s.length < p+1 then ([],0,4)
  else
   let r:=dn s most (p+1) out
   if r.2.2≠0 then ([],0,r.2.2)
   else if Fl.num s p 1=1 then (r.1,(r.2.1+7) / 8,0)
   else kh s most f r.2.1 r.1
def ki (s:List UInt8)(most:Int):List UInt8×Nat×Int:=if most < 0 then ([],0,1) else kh s (min most.toNat 1048576) (8*s.length+1) 0 []
def flT (x:List UInt8×Nat×Int):Value:=.tuple #[ae x.1,ad (x.2.1:Int),ad x.2.2]
abbrev QL (b:Nat)(l:List UInt8):Ent:=.cells b [ae l] 9
abbrev RQ (b:Nat)(n:Int):Ent:=.cells b [ad n] 3
abbrev RH (b:Nat)(e:Int):Ent:=.cells b [ad e] 35
theorem M5:cW ah 247=true:=krx
theorem nfUp:nQ ah 258=true:=krx
theorem atB:nN ah 258 0=ay 0:=krx
theorem szUp:(Tryz.prog.info? 258).map (·.size)=ay 1:=krx
section
variable {w:ao}{PK:PKT}{K:VWP}{S:Nat->Prop}{w0:ao}{L:List Ent}
theorem Yo (s:List UInt8)(a:bT S w0 w L)(k:∀b w',bT S w0 w' (bqE b s 0 0::L)->K (af b 0) w'):cR ah 249 #[ae s] w PK K:=by
 refine gK (Nf (k0:=wT λv W=>∃b,v=af b 0∧bT S w0 W (bqE b s 0 0::L)) ?_) (λe W ⟨v,he,b,c,a⟩=>by subst he;subst c;exact k b W a);unfold Mq nz;have e:∀W:ao,(aV 304 #[(1,ae s)]).run ah W=.ok (.value (.agg (bqC s 0 0).toArray)) W:=λW=>by kernel_rfl
 refine aD (e w) |>.mpr ?_;exact bK (λb=>af b 0) (bqC s 0 0) 304 (λ_=>by kernel_rfl) a λb w' a=>vG ⟨b,rfl,a⟩
end
theorem acH (s:List UInt8)(most:Int)(M:Mem)(w:ao)(x:Rp M)(y:Od M)(O:s.length<=1000000000)(P:M.has w) :
  jR ah 221 #[ae s,ad most] M w (λv _=>v=flT (ki s most)∧(ki s most).2.1<=s.length∧(ki s most).1.length<=1048576):=by
 refine bB P λK z=>Iu ?_;generalize c:ki s most=X at z;unfold ki at c;unfold EB iN dx alx;refine bK (λb=>af b 0) [.string ⟨#[]⟩] 9 (λ_=>by kernel_rfl) (bT.memS P) λj U a=>?_;refine bK (λb=>af b 0) [ad 0] 3 (λ_=>by kernel_rfl) a λk w2 a=>?_;refine bK (λb=>af b 0) [ad 0] 35 (λ_=>by kernel_rfl) a λl w3 a=>?_;have a:bT M.A w w3 ([RH l 0,RQ k 0,QL j []]++([.mem M]++[])):=a;have a:=a.front;rw[tZ];refine⟨_,rfl,?_⟩;have fail:∀{W:ao} {L:List Ent} {e:Int} {N:Mem},bT M.A w W (L++([.mem N,RH l 0,RQ k 0,QL j []]++[]))->M.le N->X=([],0,e) ->
   bU { target:=.fn (.func 247) #[af j 0,af k 0,af l 0],args:=#[]++#[] } (af j 0) (af k 0) (af l 0) K [upI e] W:=by
  intro W L e N a hle C;have a:=a.front;have a:bT M.A w W (.mem N::RH l 0::RQ k 0::QL j []::(L++[])):=a;show pd ah _ K _ [upI e] W;unfold pd;refine qR sm M5 (sV (t0:=af j 0) (t1:=af k 0) (t2:=af l 0) ?_);simp only[lO,Ax,CK,upI,Eng.acV azE,rs,Z1 nfUp,ex,i_t,i_f,iN,dx,ldx,fax,exx,stx,eqx,alx];refine bK (λb=>af b 0) [ad 0] 258 (λ_=>by kernel_rfl) a λV D a=>?_;refine jH 0 a rfl (new:=[ad e]) szUp (λu hu=>by rw[avD.1 hu];rfl) rfl λE a=>?_;refine⟨?_⟩;have a:=a.drew
  repeat' first
  |apply And.intro
  |refine aD (bE atB) |>.mpr ?_
  |refine aD (aB JB (a.cell 0 rfl 0 rfl)) |>.mpr ?_
  |refine aO 4 a rfl krx rfl sm (λ_ a=>?_)
  |refine aO 3 a rfl krx rfl sm (λ_ a=>?_)
  |refine aO 2 a rfl krx rfl sm (λ_ a=>?_)
  all_goals
   unfold eB;refine SH (bJ (AtV.cell aiF (a.cell 4 rfl 0 rfl))) (bJ (AtV.cell aU (a.cell 3 rfl 0 rfl))) (bJ (AtV.cell JB (a.cell 2 rfl 0 rfl))) (z _ _ N _ 1 a rfl hle ⟨by rw[C];rfl,by rw[C];exact avG _,by rw[C];exact avG _⟩)
 try simp only[rs]
 refine kQ (λo=>?_) (λo=>?_)
 rotate_left
 ·have:=avT o;rw[auC om] at c;exact fail (L:=[]) a M.le_refl c.symm
 have o:=auW o;rw[auB om] at c;refine Yo s a λrb R a=>?_;rw[asF,show min most 1048576=((min most.toNat 1048576:Nat):Int) by omega];have F:min most.toNat 1048576<=1048576:=Nat.min_le_right _ _;generalize min most.toNat 1048576=i at c F;have e:∀W:ao,(aV 263 #[(0,af rb 0),(2,ad (i:Int))]).run ah W=.ok (.value (.agg (flC rb cI (i:Int)).toArray)) W:=λW=>by kernel_rfl
 refine aD (e R) |>.mpr ?_;refine bK (λb=>af b 0) (flC rb cI (i:Int)) 263 (λ_=>by kernel_rfl) a λfb D a=>?_;have a:=bT.nilU a 5 1;have a:bT M.A w D ([pP cI []]++([flE fb rb cI (i:Int),bqE rb s 0 0]++[.mem M,RH l 0,RQ k 0,QL j []])):=a;have a:bT M.A w D (Fs fb rb s i cI 0 0 [] (.mem M::[RH l 0,RQ k 0,QL j []])):=(bT.front a).perm (ayU _);refine loop (λvs W=>∃(p:Nat) (way:Int) (ov:aq) (out:List UInt8) (N:Mem),vs=[]∧(way=0∨way=1)∧p<=8*s.length∧out.length<=i∧M.le N∧(∃f,8*s.length+1 - p<=f∧kh s i f p out=X)∧bT M.A w W (Fs fb rb s i ov way p out (.mem N::[RH l 0,RQ k 0,QL j []]))) (λ_ w=>8*s.length+1 - Mm rb w) ⟨0,0,cI,[],M,rfl,.inl rfl,om,sm,M.le_refl,⟨_,om,c⟩,a⟩ ?_;clear a c;rintro vs E ⟨p,way,ov,out,N,rfl,hw,hp,G,hle,⟨f,Y,c⟩,a⟩ _;have H:Mm rb E=p:=J7 (a.at_ 1 rfl);simp only[AX,iN];obtain⟨f,rfl⟩:∃f',f=f'+1:=⟨f - 1,om⟩;rw[kh] at c;dsimp only at c;have m:=@IS s i (p+1) out;refine ahS a (x.le hle) (y.le hle) hw hp O om G (λe1 q g way' I n W d a=>?_) (λe1 e2 e3 Q q way' g W d J a=>?_) (λe1 e2 q g way' I n W d a=>?_)
 ·rw[auC e1] at c;exact fail (L:=[flE fb rb g (i:Int),bqE rb s way' I,pP g n]) a (hle.trans d) c.symm
 rotate_left
 ·rw[auB om,auC e2] at c;exact fail (L:=[flE fb rb g (i:Int),bqE rb s way' I,pP g n]) a (hle.trans d) c.symm
 rw[auB om,auB (by rw[e2];decide)] at c;have m:=m e2;generalize dn s i (p+1) out=B at c a e2 e3 Q m
 try simp only[rs]
 by_cases t:Fl.num s p 1=1
 case neg=>
  rw[auB t] at c;simp only[t,auF,avZ,i_t];have r:Mm rb W=B.2.1:=J7 (a.at_ 1 rfl);refine⟨rfl,?_⟩;refine bC ⟨B.2.1,way',g,B.1,q,rfl,J,e3,Q,hle.trans d,⟨f,om,c⟩,a⟩ (by show 8*s.length+1 - Mm rb W < 8*s.length+1 - Mm rb E;rw[H,r];omega)
 rw[auC t] at c;simp only[t,auE,awA,i_f];refine cY (λW=>bT M.A w W (Fs fb rb s i g way' B.2.1 B.1 (.mem q::[RH l 0,RQ k 0,QL j []]))) a.drew ?_;refine dY _ (λ_=>dW) (dY _ (λ_=>bE BV) (gA _ (λW h=>KE (h.at_ 0 rfl)) ?_));refine gA (ae B.1) (λW h=>OO avH awI auQ (zP (h.at_ 2 rfl))) ?_;refine dY _ (λ_=>dW) (dY _ (λ_=>bE Xl) (gA _ (λW h=>TL (h.at_ 0 rfl)) ?_));refine fY (ad (((B.2.1+7) / 8:Nat):Int)) (λW h=>(aiO (h.at_ 1 rfl) e3 O).mono λv w' ⟨o,S⟩=>⟨o,h.grow S⟩) ?_;intro Z a;refine aO 6 a rfl krx rfl sm λw8 a=>?_;refine aO 5 a rfl krx rfl sm λw9 a=>?_;refine aO 4 a rfl krx rfl sm λT a=>?_;refine qR sm M5 (sV (t0:=af j 0) (t1:=af k 0) (t2:=af l 0) ?_);simp only[lO,Ax,CK,Eng.VN azE,rs,i_t,i_f,iN,dx,ldx,fax,exx,stx,eqx,alx];refine SH (bJ (AtV.cell aiF (a.cell 6 rfl 0 rfl))) (bJ (AtV.cell aU (a.cell 5 rfl 0 rfl))) (bJ (AtV.cell JB (a.cell 4 rfl 0 rfl))) (z _ _ q _ 3 a rfl (hle.trans d) ⟨by rw[<-c];rfl,by rw[<-c];dsimp only;omega,by rw[<-c];dsimp only;omega⟩)
end
end Go.Proofs.YtlgndjkieegnaaaGreatDoor



namespace Go.Proofs.YtlgndjkieegnaaaGreatDoor
variable{A:Nat->Prop}{D U:TypeId}{K:VWP}{L:List Eng.Ent}{M:Eng.Mem}{P:Program}{PK:PKT}{R:Ending->FrameMode->ao->Prop}{W w w' w0:ao}{a way:Int}{b cap fb i j m most p rb sz tb:Nat}{c t0 v v' v2:aq}{cl near:List Nat}{cs news xs:List aq}{u:FrameMode}{xo yo:Operand}{α:Type}{t0 t1 t2:aq}{k0:Eng.KT}
section
open Eng
def Fg(t1 t5 t15 t16 w)(N1:JT)(K:KT):=nz f246 43 [N1] [nh 7 [16]] [(5,5)] (zg [1,5,15,16] [t1,t5,t15,t16]) w K
def KZ(t0 t1 w)(K:KT):=nz f246 1 [] [(7,[16],λs v j w f=>Fg (s 1) (s 5) (s 15) (vg v 0) w (f 0) K)] [] (zg [0,1] [t0,t1]) w K
theorem LL:KZ t0 t1 w k0->Calls ah 246 #[t0,t1] w k0:=cz [] [(3,[16])] func246
def Nc(t0 w)(K:KT):=nz f219 1 [] [] [] (zg [0] [t0]) w K
theorem Nu:Nc t0 w k0->Calls ah 219 #[t0] w k0:=cw func219
def EY(t0 t1 w)(K:KT):=nz f279 1 [] [] [] (zg [0,1] [t0,t1]) w K
theorem IB:EY t0 t1 w k0->Calls ah 279 #[t0,t1] w k0:=cw func279
def JQ(t0 w)(K:KT):=nz f218 1 [] [] [] (zg [0] [t0]) w K
theorem LQ:JQ t0 w k0->Calls ah 218 #[t0] w k0:=cw func218
def Fv(t0 w)(K:KT):=nz f220 1 [] [] [(3,8)] (zg [0] [t0]) w K
theorem Il:Fv t0 w k0->Calls ah 220 #[t0] w k0:=cw func220
def Fz(t0 t1 w)(K:KT):=nz f190 1 [] [] [(10,10)] (zg [0,1] [t0,t1]) w K
theorem IC:Fz t0 t1 w k0->Calls ah 190 #[t0,t1] w k0:=cw func190
end
end Go.Proofs.YtlgndjkieegnaaaGreatDoor

namespace Go.Proofs.YtlgndjkieegnaaaGreatDoor
variable{A:Nat->Prop}{D U:TypeId}{K:VWP}{L:List Eng.Ent}{M:Eng.Mem}{P:Program}{PK:PKT}{R:Ending->FrameMode->ao->Prop}{W w w' w0:ao}{a way:Int}{b cap fb i j m most p rb sz tb:Nat}{c t0 v v' v2:aq}{cl near:List Nat}{cs news xs:List aq}{u:FrameMode}{xo yo:Operand}{α:Type}{t0 t1 t2:aq}{k0:Eng.KT}
section
open Eng Go.RowKit
def iu (x:Nat×Nat)(c:UInt8):Nat×Nat:=((x.1+c.toNat) % 65521,(x.2+(x.1+c.toNat) % 65521) % 65521)
def ib (s:List UInt8):Nat×Nat:=s.foldl iu (1,0)
def gy (s:List UInt8):Nat:=65536*(ib s).2+(ib s).1
def cd (n:Nat):List UInt8:=[UInt8.ofNat (n / 2 ^ 24),UInt8.ofNat (n / 2 ^ 16),UInt8.ofNat (n / 2 ^ 8),UInt8.ofNat n]
def mc (a b:Nat):Bool:=ai (a % 16≠8)||decide (7 < a / 16)||decide ((256*a+b) % 31≠0)||decide (b / 32 % 2≠0)
def ie (s:List UInt8)(most:Int):List UInt8×Int:=
 if s.length < 2 then ([],4)
 else if mc (s.getD 0 0).toNat (s.getD 1 0).toNat=aw then ([],3)
 else
  let r:=ki (s.drop 2) most
  if r.2.2≠0 then ([],r.2.2)
  else if s.length < 2+r.2.1+4 then ([],4)
  else if (s.drop (2+r.2.1)).take 4≠cd (gy r.1) then ([],12)
  else (r.1,0)
theorem rq (s:List UInt8):(ib s).1 < 65521∧(ib s).2 < 65521:=by
 unfold ib;have:∀(l:List UInt8) (x:Nat×Nat),x.1 < 65521∧x.2 < 65521->(l.foldl iu x).1 < 65521∧(l.foldl iu x).2 < 65521:=by
  intro l
  induction l with
 |nil=>exactλx h=>h
 |cons c l a=>exactλx h=>a _ ⟨axU _ dc,axU _ dc⟩
 exact this s _ ⟨dc,dc⟩
theorem yp {s:List UInt8}(h:i < s.length):ib (s.take (i+1))=iu (ib (s.take i)) s[i]:=by
 unfold ib;rw[avL h,aAy];rfl
def zlT (x:List UInt8×Int):Value:=.tuple #[ae x.1,ad x.2]
theorem Gl {n:Nat}(h:n < 4294967296):IntKind.u32.wrap (n:Int)=(n:Int):=by unfold IntKind.wrap;simp[IntKind.bits,IntKind.signed];omega
theorem Tn {n:Int}(a:0<=n)(h:n < 4294967296):IntKind.u32.wrap n=n:=by unfold IntKind.wrap;simp[IntKind.bits,IntKind.signed];omega
theorem RO (n:Nat):IntKind.u8.wrap (n:Int)=((UInt8.ofNat n).toNat:Int):=by
 unfold IntKind.wrap;simp[IntKind.bits,IntKind.signed]
theorem amU {a:Nat}(c:b < 2 ^ i):a*2 ^ i ||| b=a*2 ^ i+b:=by
 have:=aAY c a;rw[axH a,<-this]
theorem or32 {a:Nat}(c:a < 65536)(d:b < 65536):bOr .u32 ((b*65536:Nat):Int) (a:Int)=((65536*b+a:Nat):Int):=by
 have e:b*65536 ||| a=65536*b+a:=by
  have:b*65536 ||| a=b*65536+a:=amU (i:=16) c;omega
 unfold bOr;show IntKind.wrap .u32 (((BitVec.ofInt 32 ((b*65536:Nat):Int) ||| BitVec.ofInt 32 (a:Int)).toNat:Nat):Int)=_;rw[BitVec.ofInt_natCast,BitVec.ofInt_natCast,BitVec.toNat_or,BitVec.toNat_ofNat,BitVec.toNat_ofNat,awB om,awB om,e];exact Gl om
theorem or64 {a:Nat}(d:a < 256)(c:b < 256):bOr .i64 ((a*256:Nat):Int) (b:Int)=((256*a+b:Nat):Int):=by
 have e:a*256 ||| b=256*a+b:=by
  have:a*256 ||| b=a*256+b:=amU (i:=8) c;omega
 unfold bOr;show IntKind.wrap .i64 (((BitVec.ofInt 64 ((a*256:Nat):Int) ||| BitVec.ofInt 64 (b:Int)).toNat:Nat):Int)=_;rw[BitVec.ofInt_natCast,BitVec.ofInt_natCast,BitVec.toNat_or,BitVec.toNat_ofNat,BitVec.toNat_ofNat,awB om,awB om,e];exact aA om om
theorem VC:∀n:Fin 256,MW .i64 (n.val:Int) 15=((n.val % 16:Nat):Int):=by decide +kernel
theorem Wh:∀n:Fin 256,MW .i64 (n.val:Int) 32=((n.val / 32 % 2*32:Nat):Int):=by decide +kernel
theorem akD {n:Nat}(h:n < 256):MW .i64 (n:Int) 15=((n % 16:Nat):Int):=VC ⟨n,h⟩
theorem apZ {n:Nat}(h:n < 256):MW .i64 (n:Int) 32=((n / 32 % 2*32:Nat):Int):=Wh ⟨n,h⟩
def suC (a b:Nat):List Value:=[.int .u32 (a:Int),.int .u32 (b:Int)]
def suV (a b:Nat):Value:=.agg (suC a b).toArray
abbrev suE (c a b:Nat):Ent:=.cells c (suC a b) 299
theorem QI {a:Nat}:∀u∈suC a b,u.oneCell'=true:=by
 intro u hu;simp only[suC,auI,avP,or_false] at hu;rcases hu with rfl|rfl<;>rfl
theorem ahF:FU ah 299=ay 2:=krx
theorem szSu:(Tryz.prog.info? 299).map (·.size)=ay 2:=krx
theorem T9:nN ah 299 0=ay 0:=krx
theorem Yc:nN ah 299 1=ay 1:=krx
theorem nU32:eS ah 171=true:=krx
theorem ahI (a b:Nat)(c:UInt8)(w:ao)(j:a < 65521)(k:b < 65521):Ret ah 279 #[suV a b,.int .u8 (c.toNat:Int)] w (λv w'=>v=suV (iu (a,b) c).1 (iu (a,b) c).2∧Below w.heap.size w w'):=by
 refine aX λK g=>IB ?_;unfold EY nz;have l:=ayI c;refine bK (λb=>af b 0) (suC a b) 299 (λ_=>by kernel_rfl) (Own.start w) λb2 m e=>?_;refine bK (λb=>af b 0) (suC 0 0) 299 (λ_=>by kernel_rfl) e λf w2 e=>?_;rw[aW T9,aJ nU32 (e.cell 1 rfl 0 rfl)];refine aD (eI krx underlying171) |>.mpr ?_;rw[Gl om,OA,Tn om om,show (a:Int)+(c.toNat:Int)=((a+c.toNat:Nat):Int) by push_cast;rfl,NA dc,show (((a+c.toNat:Nat):Int)).tmod 65521=(((a+c.toNat) % 65521:Nat):Int) from rfl,aW T9];refine aO 1 e rfl krx rfl (by show 0+0 < 2;omega) λw3 e=>?_;have hm:=axU (a+c.toNat) (show 65521>0 by decide);have e:bT NoB w w3 [suE f 0 0,suE b2 ((a+c.toNat) % 65521) b]:=e;generalize h:(a+c.toNat) % 65521=d at e hm;rw[aW Yc,aJ nU32 (e.cell 1 rfl 1 rfl),aW T9,aJ nU32 (e.cell 1 rfl 0 rfl),OA,Tn om om,show (b:Int)+(d:Int)=((b+d:Nat):Int) by push_cast;rfl,NA dc,show (((b+d:Nat):Int)).tmod 65521=(((b+d) % 65521:Nat):Int) from rfl,aW Yc];refine aO 1 e rfl krx rfl (by show 0+1 < 2;omega) λi e=>?_;have e:bT NoB w i [suE f 0 0,suE b2 d ((b+d) % 65521)]:=e;rw[EN (e.agg 1 rfl ahF)];refine jH 0 e rfl (new:=suC d ((b+d) % 65521)) szSu QI rfl λn e=>?_;refine eN (bJ (e.agg 0 rfl ahF)) (g _ _ ⟨?_,e.done⟩);unfold iu suV;dsimp only;rw[h]
theorem Sm (s:List UInt8)(w:ao)(q:s.length<=1000000000):Ret ah 219 #[ae s] w (λv w'=>v=.int .u32 (gy s:Int)∧Below w.heap.size w w'):=by
 refine aX λK l=>Nu ?_;unfold Nc nz;have more:Ret ah 246 #[.int .u32 1,ae s] w (λv w'=>v=.int .u32 (gy s:Int)∧Below w.heap.size w w'):=by
  refine aX λK l=>LL ?_;unfold KZ nz;rw[YR,show MW .u32 1 65535=1 by decide +kernel,NA dc,show (1:Int).tmod 65521=((1:Nat):Int) from rfl,Ix dc,show (1:Int).fdiv (2 ^ (min (16:Int).toNat IntKind.u32.bits))=0 by decide +kernel,NA dc,show (0:Int).tmod 65521=((0:Nat):Int) from rfl];refine aD (show (aV 299 #[(0,.int .u32 ((1:Nat):Int)),(1,.int .u32 ((0:Nat):Int))]).run ah w=.ok (.value (suV 1 0)) w by kernel_rfl) |>.mpr ?_;refine bK (λb=>af b 0) (suC 0 0) 299 (λ_=>by kernel_rfl) (Own.start w) λn r d=>?_;refine jH 0 d rfl (new:=suC 1 0) szSu QI rfl λw2 d=>?_;rw[iU auQ];refine loop (λvs W=>∃i:Nat,vs=[ad (i:Int)]∧i<=s.length∧bT NoB w W [suE n (ib (s.take i)).1 (ib (s.take i)).2]) (λvs _=>s.length - n0 vs) ⟨0,rfl,om,d⟩ ?_;clear d;rintro vs w3 ⟨i,rfl,hi,d⟩ _;simp only[Fg,gd,rs,nz];by_cases g:(i:Int) < (s.length:Int)
  ·simp only[g,auE,i_t];have j:i < s.length:=om
   obtain⟨e,f⟩:=rq (s.take i);have k:=yp j;generalize ib (s.take i)=x at d e f k;obtain⟨a,b⟩:=x;refine cY (λW=>bT NoB w W [suE n a b]) d.drew ?_;refine gA (suV a b) (λW h=>aY (h.agg 0 rfl ahF)) (q_ix (c:=s[i]) auQ om (by rw[auJ];exact auO j) ?_);refine fY (suV (iu (a,b) s[i]).1 (iu (a,b) s[i]).2) (λW h=>(ahI a b s[i] W e f).mono λv w' ⟨o,p⟩=>⟨o,h.grow p⟩) ?_;intro t d;refine jH 0 d rfl (new:=suC (iu (a,b) s[i]).1 (iu (a,b) s[i]).2) szSu QI rfl λu d=>?_
   try simp only[rs]
   rw[aA om om];refine bC ⟨i+1,rfl,om,?_⟩ (by simp[n0,RowKit.intOf];omega);rw[k];exact d
  ·simp only[g,auF,i_f];have:i=s.length:=om
   subst this;rw[awD] at d;obtain⟨e,f⟩:=rq s;have m:gy s=65536*(ib s).2+(ib s).1:=rfl;generalize ib s=x at d e f m;obtain⟨a,b⟩:=x;dsimp only at e f m;rw[aW Yc,aJ nU32 (d.cell 0 rfl 1 rfl),II dc,show min (16:Int).toNat IntKind.u32.bits=16 from rfl,show (b:Int)*2 ^ 16=((b*65536:Nat):Int) by omega,Gl om,aW T9,aJ nU32 (d.cell 0 rfl 0 rfl),b_or,or32 om om,<-m];exact l _ _ ⟨rfl,d.done⟩
 refine Eh more λv w' ⟨e,f⟩=>?_;exact l _ _ ⟨e,f⟩
theorem shrU {n k:Nat}(a:k<=32):((n:Nat):Int).fdiv (2 ^ (min ((k:Nat):Int).toNat IntKind.u32.bits))=((n / 2 ^ k:Nat):Int):=by
 rw[show min ((k:Nat):Int).toNat IntKind.u32.bits=k by show min ((k:Nat):Int).toNat 32=k;omega,VA]
theorem PB (n:Nat)(w:ao):Ret ah 218 #[.int .u32 (n:Int)] w (λv w'=>v=ae (cd n)∧Below w.heap.size w w'):=by
 refine aX λK c=>LQ ?_;unfold JQ nz;rw[Ix dc,show (24:Int)=((24:Nat):Int) from rfl,shrU dc];refine aD (eI krx awI) |>.mpr ?_;rw[RO,Ix dc,show (16:Int)=((16:Nat):Int) from rfl,shrU dc];refine aD (eI krx awI) |>.mpr ?_;rw[RO,Ix dc,show (8:Int)=((8:Nat):Int) from rfl,shrU dc];refine aD (eI krx awI) |>.mpr ?_;rw[RO];refine aD (eI krx awI) |>.mpr ?_;rw[RO];refine bK (λb=>bO b 0 4 4) (bA (cd n)) 5 (λ_=>by kernel_rfl) (Own.start w) λb2 d a=>?_;rw[JU (l:=cd n) avH awI auQ (a.sl 0 rfl 1 4 4 rfl)];exact c _ _ ⟨rfl,a.done⟩
theorem get0 {s:List UInt8}(h:i < s.length):s[i]?=ay (s.getD i 0):=by
 rw[auK,auO h];rfl
theorem QW (s:List UInt8)(w:ao)(l:s.length<=1000000000):Ret ah 220 #[ae s] w (λv w'=>v=ad (if s.length < 2 then 4 else if mc (s.getD 0 0).toNat (s.getD 1 0).toNat=aw then 3 else 0)∧Below w.heap.size w w'):=by
 refine aX λK d=>Il ?_;unfold Fv nz;rw[iU auQ]
 try simp only[rs]
 by_cases e:s.length < 2
 ·rw[auC e] at d;simp only[show ai ((s.length:Int) < 2)=aw from auG om,i_t];exact d _ _ ⟨rfl,Below.refl _ _⟩
 rw[auB e] at d;simp only[show ai ((s.length:Int) < 2)=au from auD om,i_f];refine quiet (q_ix (c:=s.getD 0 0) auQ dc (get0 om) (dY _ (λ_=>eI krx avY) (q_ix (c:=s.getD 1 0) auQ dc (get0 om) (dY _ (λ_=>eI krx avY) ?_))));intro m hw;have f:=ayI (s.getD 0 0);have g:=ayI (s.getD 1 0);generalize (s.getD 0 0).toNat=a at f d;generalize (s.getD 1 0).toNat=b at g d;rw[show IntKind.i64.wrap (a:Int)=(a:Int) from aA om om,show IntKind.i64.wrap (b:Int)=(b:Int) from aA om om];rw[YR,akD om];unfold mc at d
 try simp only[rs]
 by_cases h:a % 16=8
 case neg=>
  simp only[show ai (((a % 16:Nat):Int)≠8)=aw from auG om,rs];rw[auC (by simp[h])] at d;exact d _ _ ⟨rfl,hw⟩
 simp only[show ai (((a % 16:Nat):Int)≠8)=au from auD om,rs];rw[Ix dc,show ((a:Nat):Int).fdiv (2 ^ (min (4:Int).toNat IntKind.i64.bits))=((a / 2 ^ 4:Nat):Int) from VA a 4]
 try simp only[rs]
 by_cases i:7 < a / 16
 ·simp only[show ai ((7:Int) < ((a / 2 ^ 4:Nat):Int))=aw from auG om,rs];rw[auC (by simp[i])] at d;exact d _ _ ⟨rfl,hw⟩
 simp only[show ai ((7:Int) < ((a / 2 ^ 4:Nat):Int))=au from auD om,rs];rw[II dc,show min (8:Int).toNat IntKind.i64.bits=8 from rfl,show (a:Int)*2 ^ 8=((a*256:Nat):Int) by push_cast;rfl,aA om om]
 try simp only[rs]
 rw[b_or,or64 f g,NA dc,show ((256*a+b:Nat):Int).tmod 31=(((256*a+b) % 31:Nat):Int) from rfl]
 try simp only[rs]
 by_cases j:(256*a+b) % 31=0
 case neg=>
  simp only[show ai ((((256*a+b) % 31:Nat):Int)≠0)=aw from auG om,rs];rw[auC (by simp[j])] at d;exact d _ _ ⟨rfl,hw⟩
 simp only[show ai ((((256*a+b) % 31:Nat):Int)≠0)=au from auD om,rs];rw[YR,apZ om]
 try simp only[rs]
 by_cases k:b / 32 % 2=0
 case neg=>
  simp only[show ai (((b / 32 % 2*32:Nat):Int)≠0)=aw from auG om,rs];rw[auC (by simp[k])] at d;exact d _ _ ⟨rfl,hw⟩
 simp only[show ai (((b / 32 % 2*32:Nat):Int)≠0)=au from auD om,rs];rw[auB (by simp[h,i,j,k])] at d;exact d _ _ ⟨rfl,hw⟩
theorem QT (s:List UInt8)(most:Int)(M:Mem)(w:ao)(f:Rp M)(g:Od M)(p:s.length<=1000000000)(l:M.has w) :
  jR ah 190 #[ae s,ad most] M w (λv _=>v=zlT (ie s most)∧(ie s most).1.length<=1048576):=by
 refine bB l λK c=>IC ?_;generalize a:ie s most=X at c;unfold ie at a;unfold Fz nz;have b:bT M.A w w [.mem M]:=bT.memS l;refine aK b (QW s w p) ?_;rintro _ q rfl b;simp only[eC];by_cases m:s.length < 2
 ·rw[auC m] at a ⊢;simp only[show ai ((4:Int)≠0)=aw from rfl,i_t];exact c _ _ M _ 0 b rfl M.le_refl ⟨by rw[<-a];rfl,by rw[<-a];exact avG _⟩
 rw[auB m] at a ⊢;by_cases n:mc (s.getD 0 0).toNat (s.getD 1 0).toNat=aw
 ·rw[auC n] at a ⊢;simp only[show ai ((3:Int)≠0)=aw from rfl,i_t];exact c _ _ M _ 0 b rfl M.le_refl ⟨by rw[<-a];rfl,by rw[<-a];exact avG _⟩
 rw[auB n] at a ⊢;simp only[show ai ((0:Int)≠0)=au from rfl,i_f];dsimp only at a;rw[TH auQ dc om,show (2:Int).toNat=2 from rfl];refine bH b 0 rfl (acH (s.drop 2) most M q f g (by rw[auT];omega) (b.hasM 0 rfl)) ?_;rintro _ N w2 g1 ⟨rfl,hu,i⟩ b;generalize ki (s.drop 2) most=r at a hu i;obtain⟨t,u,e⟩:=r;dsimp only at a hu i;rw[auT] at hu;simp only[flT,ex,eC];by_cases he:e=0
 case neg=>
  rw[auC he] at a;simp only[auG (show e≠0 from he),i_t];exact c _ _ N _ 0 b rfl g1 ⟨by rw[<-a];rfl,by rw[<-a];exact avG _⟩
 rw[auB (by rw[he];decide)] at a;simp only[auD (show ¬e≠0 by rw[he];decide),i_f];rw[iU auQ,auT]
 try simp only[rs]
 rw[aA om om];by_cases o:s.length < 2+u+4
 ·rw[auC o] at a;simp only[show ai (((s.length - 2:Nat):Int) - (u:Int) < 4)=aw from auG om,i_t];exact c _ _ N _ 0 b rfl g1 ⟨by rw[<-a];rfl,by rw[<-a];exact avG _⟩
 rw[auB o] at a;simp only[show ai (((s.length - 2:Nat):Int) - (u:Int) < 4)=au from auD om,i_f];refine cY (λW=>bT M.A w W [.mem N]) b.drew ?_;refine sW ?_;rw[aA om om];refine dY _ (λ_=>rP auQ om om (by rw[auT];omega)) ?_;refine fY _ (λW h=>(Sm t W om).mono λv w' ⟨j,k⟩=>⟨j,h.grow k⟩) ?_;refine fY _ (λW h=>(PB (gy t) W).mono λv w' ⟨j,k⟩=>⟨j,h.grow k⟩) ?_;refine ahV ?_;intro w3 b;rw[show ((u:Int)+4).toNat - ((u:Nat):Int).toNat=4 by omega,auJ,ayM];by_cases d:(s.drop (2+u)).take 4=cd (gy t)
 case neg=>
  rw[auC d] at a;simp only[auG (show (s.drop (2+u)).take 4≠cd (gy t) from d),i_t];exact c _ _ N _ 0 b rfl g1 ⟨by rw[<-a];rfl,by rw[<-a];exact avG _⟩
 rw[auB (by rw[d];simp)] at a;simp only[auD (show ¬(s.drop (2+u)).take 4≠cd (gy t) by rw[d];simp),i_f];exact c _ _ N _ 0 b rfl g1 ⟨by rw[<-a];rfl,by rw[<-a];exact i⟩
end
section
namespace Eng
open Go.RowKit
def MkIs (w:ao)(E:TypeId)(b:Nat)(l:List UInt8):Prop:=∃rest:List aq,w.heap[b]?=ay (.cells (bA l++rest).toArray E (l.length+rest.length,l.length+rest.length+1))
def Ent.mkr (E:TypeId)(b:Nat)(l:List UInt8):Ent:=
 ⟨λk=>k=b,λw=>MkIs w E b l,λ{w w'} h k=>by obtain⟨rest,h⟩:=h;exact⟨rest,(k b rfl).trans h⟩,λ{w} h k a=>by obtain⟨rest,h⟩:=h;cases a;exact eH h⟩
theorem M4 (l:List UInt8):(bA l).length=l.length:=by simp[bA]
theorem QV {E:TypeId}{l:List UInt8}(h:(Ent.mkr E b l).is w)(a:(bA l)[i]?=ay v):w.cell? ⟨b,i,ax⟩=ay v:=by
 obtain⟨rest,h⟩:=h;have:(bA l++rest)[i]?=ay v:=by rw[awR (auV.1 a).1];exact a
 simp[World.cell?,h,this]
theorem Wm {E:TypeId}{l:List UInt8}(h:(Ent.mkr E b l).is w):Sl w (bO b 0 l.length cap) 1 l.length (bA l):=
 ⟨by rw[M4,avC],ay ⟨b,0,ax⟩,cap,rfl,(λh=>by cases h),λp hp=>by cases hp;exact⟨λ_=>rfl,λj u a=>by rw[auP];exact QV h a⟩⟩
section
variable {S:Nat->Prop}{P:Program}{w w0:ao}{L:List Ent}{PK:PKT}{K:VWP}
theorem Np {T E:TypeId}{l:List UInt8}(c:P.underlying T=ay .string)(d:P.underlying D=ay (.slice E))(he:P.underlying E=ay (.int .u8))(f:bT S w0 w L)
  (k:∀b cap w',bT S w0 w' (.mkr E b l::L)->K (bO b 0 l.length cap) w'):DoX P (tG T D (ae l)) w PK K:=by
 have a:=Go.Lib.run_convert_string_bytes (P:=P) w T D E ⟨l.toArray⟩ c d he;rw[dX] at a;refine vZ (cJ a) (k _ _ _ ?_);refine f.add ⟨?_,?_,?_,?_,?_⟩ (.mkr E w.heap.size l) ?_ (λk g=>by cases g;exact auL _)
 ·unfold Go.Lib.bytesWorld World.freeze;split<;>rfl
 ·unfold Go.Lib.bytesWorld World.freeze;split<;>rfl
 ·unfold Go.Lib.bytesWorld World.freeze;split<;>rfl
 ·rw[Go.Lib.bytesWorld_size];omega
 ·intro j h _;exact Go.Lib.bytesWorld_at_old w E _ j h
 ·refine⟨(Array.replicate (grownCap w l.length 0 E - l.length) (Value.int .u8 0)).toList,?_⟩;have:=Go.Lib.bytesWorld_at_new w E ⟨l.toArray⟩;rw[this];have e:Go.Lib.bytesCells w E ⟨l.toArray⟩=(bA l++(Array.replicate (grownCap w l.length 0 E - l.length) (Value.int .u8 0)).toList).toArray:=by
   unfold Go.Lib.bytesCells;rw[dX];apply Array.ext';simp[bA]
  rw[e];simp[bA]
theorem YM (i:Nat){T E:TypeId}{off:Nat}{l:List UInt8}{c:UInt8}(h:bT S w0 w L)(hi:L[i]?=ay (.mkr E b l))(t:(P.info? T).map (·.size)=ay 1)(a:off < l.length)
  (k:∀w',bT S w0 w' (L.set i (.mkr E b (l.set off c)))->K undef w'):DoX P (aN T (af b off) (.int .u8 (c.toNat:Int))) w PK K:=by
 obtain⟨rest,g⟩:=(show MkIs w E b l from h.at_ i hi);have d:=QV (h.at_ i hi) (i:=off) (v:=.int .u8 (l[off].toNat:Int)) (by simp[bA,a]);have m:w.frozen? ⟨b,off,ax⟩=false:=by
  unfold World.frozen?;rw[g];simp;omega
 have n:=run_storeCells_cells (P:=P) b off [.int .u8 (c.toNat:Int)] 0 w (λj o=>by
  have:j=0:=by simpa using o
  subst this;exact (congrArg Option.isSome d)) (λj o=>by
  have:j=0:=by simpa using o
  subst this;exact m) (λv u=>by rw[avD.1 u];rfl)
 obtain⟨ii,p,x⟩:=awP.1 t;have f:(Instr.storeAt T (af b off) (.int .u8 (c.toNat:Int))).run P w=.ok () (w.setCells b (off+0) [.int .u8 (c.toNat:Int)]):=by
  have y:(Value.int .u8 (c.toNat:Int)).cells=#[Value.int .u8 (c.toNat:Int)]:=rfl;simp[Instr.storeAt,Instr.sureAddr,storeVar,y,sizeOf,typeInfo,p,x,n]
 refine D1 (Kr f) (k _ ?_);have s:b < w.heap.size:=eH g;have e1:w.setCells b (off+0) [.int .u8 (c.toNat:Int)]=w.setCell ⟨b,off,ax⟩ (.int .u8 (c.toNat:Int)):=rfl;rw[e1];refine h.put i hi (w':=w.setCell ⟨b,off,ax⟩ (.int .u8 (c.toNat:Int))) ⟨rfl,rfl,rfl,by simp[World.setCell],λk _ q=>?_⟩ (.mkr E b (l.set off c)) ⟨rest,?_⟩ (λk q=>.inl q)
 ·have r:k≠b:=λe=>q e;simp[World.setCell,Array.getElem?_modify,Ne.symm r]
 ·have z:w.heap[b]=.cells (bA l++rest).toArray E (l.length+rest.length,l.length+rest.length+1):=(aAe.1 g).2;simp only[World.setCell,Array.getElem?_modify,auC,g,aAn,ayR,ayQ,if_false,axC]
  congr 2
  apply Array.ext';simp only[Array.toList_setIfInBounds];rw[List.set_append_left _ _ (by rw[M4];exact a)];simp[bA,aAw]
end
end Eng
end
section
open Eng
def EW(t0 w)(K:KT):=nz f134 1 [] [] [(2,25)] (zg [0] [t0]) w K
theorem IQ:EW t0 w k0->Calls ah 134 #[t0] w k0:=cw func134
def Ca(t0 w)(K:KT):=nz f96 1 [] [] [] (zg [0] [t0]) w K
theorem F4:Ca t0 w k0->Calls ah 96 #[t0] w k0:=cw func96
def FJ(t0 w)(K:KT):=nz f213 1 [] [] [] (zg [0] [t0]) w K
theorem Iz:FJ t0 w k0->Calls ah 213 #[t0] w k0:=cw func213
def A3(t0 t1 w)(K:KT):=nz f289 1 [] [] [] (zg [0,1] [t0,t1]) w K
theorem E7:A3 t0 t1 w k0->Calls ah 289 #[t0,t1] w k0:=cw func289
def gD(t8 t23 w)(N1:JT)(K:KT):=nz f261 983 [N1] [nh 9 [8,23]] [] (zg [8,23] [t8,t23]) w K
def jF(t7 t8 t22 t23 w)(N1:JT)(K:KT):=nz f261 87 [N1] [nh 9 [8,23],(16,[8],λs v j w f=>gD (vg v 0) (s 23) w (f 0) K)] [] (zg [7,8,22,23] [t7,t8,t22,t23]) w K
def BR(t0 t1 t2 w)(K:KT):=nz f261 1 [] [(9,[8,23],λs v j w f=>jF (s 7) (vg v 0) (s 22) (vg v 1) w (f 0) K)] [] (zg [0,1,2] [t0,t1,t2]) w K
theorem Ft:BR t0 t1 t2 w k0->Calls ah 261 #[t0,t1,t2] w k0:=cz [(8,[8])] [(4,[8,23])] func261
def Hw(t0 t1 w)(K:KT):=nz f260 1 [] [] [] (zg [0,1] [t0,t1]) w K
theorem K4:Hw t0 t1 w k0->Calls ah 260 #[t0,t1] w k0:=cw func260
def uD(t0 t1 t2 w)(K:KT):=nz f239 1 [] [] [(1,21)] (zg [0,1,2] [t0,t1,t2]) w K
theorem A8:uD t0 t1 t2 w k0->Calls ah 239 #[t0,t1,t2] w k0:=cw func239
def oI(t1 t2 t5 t13 t14 t15 w)(N1:JT)(K:KT):=nz f215 43 [N1] [nh 7 [15]] [] (zg [1,2,5,13,14,15] [t1,t2,t5,t13,t14,t15]) w K
def sP(t0 t1 w)(K:KT):=nz f215 1 [] [(7,[15],λs v j w f=>oI (s 1) (s 2) (s 5) (s 13) (s 14) (vg v 0) w (f 0) K)] [] (zg [0,1] [t0,t1]) w K
theorem Aw:sP t0 t1 w k0->Calls ah 215 #[t0,t1] w k0:=cz [] [(3,[15])] func215
def oU(t1 t2 t7 t8 w)(N1:JT)(K:KT):=nz f222 11 [N1] [nh 5 [8]] [(4,11)] (zg [1,2,7,8] [t1,t2,t7,t8]) w K
def sE(t0 t1 w)(K:KT):=nz f222 1 [] [(5,[8],λs v j w f=>oU (s 1) (s 2) (s 7) (vg v 0) w (f 0) K)] [] (zg [0,1] [t0,t1]) w K
theorem AQ:sE t0 t1 w k0->Calls ah 222 #[t0,t1] w k0:=cz [] [(2,[8])] func222
def tL(t3 t6 t7 t8 w)(N1:JT)(K:KT):=nz f240 43 [N1] [nh 7 [3,8]] [] (zg [3,6,7,8] [t3,t6,t7,t8]) w K
def Af(t0 w)(K:KT):=nz f240 1 [] [(7,[3,8],λs v j w f=>tL (vg v 0) (s 6) (s 7) (vg v 1) w (f 0) K)] [] (zg [0] [t0]) w K
theorem Ei:Af t0 w k0->Calls ah 240 #[t0] w k0:=cz [] [(3,[3,8])] func240
def oJ(t3 t4 t5 w)(N1:JT)(K:KT):=nz f216 471 [N1] [nh 9 [3,4,5]] [] (zg [3,4,5] [t3,t4,t5]) w K
def oV(t1 t3 t4 t5 w)(N1:JT)(K:KT):=nz f216 87 [N1] [nh 9 [3,4,5],(10,[3,4],λs v j w f=>oJ (vg v 0) (vg v 1) (s 5) w (f 0) K)] [] (zg [1,3,4,5] [t1,t3,t4,t5]) w K
def rF(t0 w)(K:KT):=nz f216 1 [] [(9,[3,4,5],λs v j w f=>oV (s 1) (vg v 0) (vg v 1) (vg v 2) w (f 0) K)] [] (zg [0] [t0]) w K
theorem AM:rF t0 w k0->Calls ah 216 #[t0] w k0:=cz [(5,[3,4])] [(4,[3,4,5])] func216
def zW(t0 t1 t2 w)(K:KT):=nz f214 1 [] [] [] (zg [0,1,2] [t0,t1,t2]) w K
theorem Ef:zW t0 t1 t2 w k0->Calls ah 214 #[t0,t1,t2] w k0:=cw func214
def tW(t1 t6 t8 w)(N1:JT)(K:KT):=nz f188 1855 [N1] [nh 23 [1,8]] [] (zg [1,6,8] [t1,t6,t8]) w K
def tR(b c a w)(j:JT)(K:KT):=
 Ay w (λS5 w=>HDo ah S5 (tG 3 5 a) λd=>HDo ah S5 (aH 235 c) λe=>DoX ah (aM 80 1 #[(0,d)]) w (az 6 (pk K)) λf w=>S5 w∧(DoX ah (mB .append #[80,80] 80 #[au,au] #[b,f]) w (az 6 (pk K)) λg w=>S5 w∧(cR ah 215 #[e,a] w (az 6 (pk K)) λh w=>S5 w∧(DoX ah (mB .append #[80,80] 80 #[au,au] #[g,h]) w (az 6 (pk K)) λi w=>S5 w∧(j [i] w)))))
def iJ(t2 t8 t9 w)(a:JT)(K:KT):=nz f188 3391 [nj,a] [nh 23 [1,8],nh 24 [8],(40,[8,10],λs v j w f=>tR (vg v 0) (s 9) (vg v 1) w (f 0) K)] [] (zg [2,8,9] [t2,t8,t9]) w K
def lS(b d e c a w)(N1:JT)(K:KT):=
 lnx 9 b w K λi w=>bnx .gtr 3 i (iN 0) w K λj w=>IfX j (Fq (λr=>Ay w (λS3 w=>HDo ah (λ_=>True) (mFA 235 a 1) λk=>HDo ah S3 (aH 80 k) λf=>HDo ah (λ_=>True) (fJ 9 b ax (ay e) ax) λg=>HDo ah (λ_=>True) (mFA 235 a 0) λh=>(DoX ah (tG 9 80 g) w (az 7 (pk K)) λl w=>S3 w∧(DoX ah (aN 80 h f) w (az 7 (pk K)) λ_ w=>(HDo ah (λ_=>True) (mFA 235 a 1) λm=>DoX ah (aN 80 m l) w (az 7 (pk K)) λ_ w=>(iJ d c a w r K))))∧(DoX ah (aN 80 h f) w (az 7 (pk K)) λ_ w=>(DoX ah (tG 9 80 g) w (az 7 (pk K)) λo w=>S3 w∧(HDo ah (λ_=>True) (mFA 235 a 1) λp=>DoX ah (aN 80 p o) w (az 7 (pk K)) λ_ w=>(iJ d c a w r K)))))) (λq w=>∀_:Sg,tW b e (q.getD 0 undef) w N1 K)) (dx (tG 80 9 c) w K λn w=>K (.returned (.tuple #[n,(iN 0)])) w)
def zT(t0 t1 w)(K:KT):=nz f188 1 [] [(23,[1,8],λs v j w f=>lS (vg v 0) (s 2) (s 6) (vg v 1) (s 9) w (f 0) K)] [] (zg [0,1] [t0,t1]) w K
theorem D8:zT t0 t1 w k0->Calls ah 188 #[t0,t1] w k0:=cz [(12,[8]),(20,[8,10])] [(11,[1,8])] func188
def iP(t1 t6 t7 t9 t10 t11 w)(a:JT)(K:KT):=nz f191 64127 [a] [nh 23 [1,9]] [] (zg [1,6,7,9,10,11] [t1,t6,t7,t9,t10,t11]) w K
def uL(c d b f a e w)(q:JT)(K:KT):=
 bnx .geq 3 e (iN 5) w K λj w=>IfX j (K (.returned (.tuple #[(.string ⟨#[]⟩),(iN 3)])) w) (Ay w (λS4 w=>HDo ah (λ_=>True) (mFA 235 a 1) λk=>HDo ah S4 (aH 80 k) λg=>HDo ah (λ_=>True) (iQ .add 3 d b) λl=>HDo ah (λ_=>True) (fJ 9 c (ay b) (ay l) ax) λh=>HDo ah (λ_=>True) (mFA 235 a 0) λi=>(DoX ah (tG 9 80 h) w (az 10 (pk K)) λm w=>S4 w∧(DoX ah (aN 80 i g) w (az 10 (pk K)) λ_ w=>(HDo ah (λ_=>True) (mFA 235 a 1) λn=>DoX ah (aN 80 n m) w (az 10 (pk K)) λ_ w=>(iP c d b f a e w q K))))∧(DoX ah (aN 80 i g) w (az 10 (pk K)) λ_ w=>(DoX ah (tG 9 80 h) w (az 10 (pk K)) λo w=>S4 w∧(HDo ah (λ_=>True) (mFA 235 a 1) λp=>DoX ah (aN 80 p o) w (az 10 (pk K)) λ_ w=>(iP c d b f a e w q K))))))
def uT(t1 t6 t7 t9 t10 w)(a:JT)(K:KT):=nz f191 639 [a] [nh 23 [1,9],(32,[11],λs v j w f=>uL (s 1) (s 6) (s 7) (s 9) (s 10) (vg v 0) w (f 0) K)] [] (zg [1,6,7,9,10] [t1,t6,t7,t9,t10]) w K
def uJ(t1 t2 t6 t7 w)(K:KT):=nz f191 15 [] [(23,[1,9],λs v j w f=>uT (vg v 0) (s 6) (s 7) (vg v 1) (s 10) w (f 0) K)] [] (zg [1,2,6,7] [t1,t2,t6,t7]) w K
def zJ(t0 t1 w)(K:KT):=nz f191 1 [] [(8,[7],λs v j w f=>uJ (s 1) (s 2) (s 6) (vg v 0) w K)] [] (zg [0,1] [t0,t1]) w K
theorem Eo:zJ t0 t1 w k0->Calls ah 191 #[t0,t1] w k0:=cz [(4,[7]),(16,[11])] [(11,[1,9])] func191
end
end Go.Proofs.YtlgndjkieegnaaaGreatDoor

namespace Go.Proofs.YtlgndjkieegnaaaGreatDoor
variable{A:Nat->Prop}{D U:TypeId}{K:VWP}{L:List Eng.Ent}{M:Eng.Mem}{P:Program}{PK:PKT}{R:Ending->FrameMode->ao->Prop}{W w w' w0:ao}{a way:Int}{b cap fb i j m most p rb sz tb:Nat}{c t0 v v' v2:aq}{cl near:List Nat}{cs news xs:List aq}{u:FrameMode}{xo yo:Operand}{α:Type}{t0 t1 t2:aq}{k0:Eng.KT}
section
open Eng Go.RowKit
structure Pm where
 p:Int
 c:Int
 n:Int
def pmC (x:Pm):List Value:=[ad x.p,ad x.c,ad x.n]
def pmV (x:Pm):Value:=.agg (pmC x).toArray
abbrev pmE (b:Nat)(x:Pm):Ent:=.cells b (pmC x) 53
theorem Kz {x:Pm}:∀u∈pmC x,u.oneCell'=true:=by
 intro u hu;simp only[pmC,auI,avP,or_false] at hu;rcases hu with rfl|rfl|rfl<;>rfl
theorem LK:FU ah 53=ay 3:=krx
theorem szPm:(Tryz.prog.info? 53).map (·.size)=ay 3:=krx
theorem XE:nN ah 53 0=ay 0:=krx
theorem Md:nN ah 53 1=ay 1:=krx
theorem Pj:nN ah 53 2=ay 2:=krx
def Pm.known (x:Pm):Prop:=x.p=1∨x.p=2∨(10<=x.p∧x.p<=15)
def Pm.ok (x:Pm):Prop:=x.known∧1<=x.c∧1<=x.n∧x.c<=8192∧x.c*x.n<=8192
instance (x:Pm):Decidable x.known:=by unfold Pm.known;infer_instance
instance (x:Pm):Decidable x.ok:=by unfold Pm.ok;infer_instance
theorem Pm.mul_pos {x:Pm}(h:x.ok):1<=x.c*x.n:=by
 obtain⟨_,a,b,_,d⟩:=h;have:1*1<=x.c*x.n:=Int.mul_le_mul a b om om;omega
section
variable {w:ao}{PK:PKT}{K:VWP}{S:Nat->Prop}{w0:ao}{L:List Ent}
theorem Kd (x:Pm)(a:bT S w0 w L)(k:∀b w',bT S w0 w' (pmE b x::L)->K (af b 0) w'):DoX ah (GP 53 (pmV x)) w PK K:=
 bK (λb=>af b 0) (pmC x) 53 (λ_=>by kernel_rfl) a k
theorem Pr (a:bT S w0 w L)(j:Nat){x:Pm}(hi:L[j]?=ay (pmE b x)):DoX ah (aH 53 (af b 0)) w PK K=K (pmV x) w:=EN (a.agg j hi LK)
theorem Om (a:bT S w0 w L)(j:Nat){x:Pm}(hi:L[j]?=ay (pmE b x)):DoX ah (aH 3 (af b (0+0))) w PK K=K (ad x.p) w:=aJ aU (a.cell j hi 0 rfl)
theorem pm_1 (a:bT S w0 w L)(j:Nat){x:Pm}(hi:L[j]?=ay (pmE b x)):DoX ah (aH 3 (af b (0+1))) w PK K=K (ad x.c) w:=aJ aU (a.cell j hi 1 rfl)
theorem pm_2 (a:bT S w0 w L)(j:Nat){x:Pm}(hi:L[j]?=ay (pmE b x)):DoX ah (aH 3 (af b (0+2))) w PK K=K (ad x.n) w:=aJ aU (a.cell j hi 2 rfl)
theorem Oo {off:Nat}:DoX ah (mFA 53 (af b off) 0) w PK K=K (af b (off+0)) w:=aW XE
theorem fpm1 {off:Nat}:DoX ah (mFA 53 (af b off) 1) w PK K=K (af b (off+1)) w:=aW Md
theorem fpm2 {off:Nat}:DoX ah (mFA 53 (af b off) 2) w PK K=K (af b (off+2)) w:=aW Pj
end
theorem RJ {x:Pm}(h:(pmE b x).is W):(aH 3 (af b (0+1))).run ah W=.ok (.value (ad x.c)) W:=aB aU (aI (T:=53) (cs:=pmC x) h rfl)
theorem Zc {x:Pm}(h:(pmE b x).is W):(aH 3 (af b (0+2))).run ah W=.ok (.value (ad x.n)) W:=aB aU (aI (T:=53) (cs:=pmC x) h rfl)
theorem Ng (x:Pm)(w:ao):Ret ah 134 #[pmV x] w (λv w'=>v=.bool (decide x.ok)∧Below w.heap.size w w'):=by
 refine aX λK o=>IQ ?_;unfold EW nz;refine Kd x (Own.start w) λb q d=>?_;rw[Oo,Om d 0 rfl];have no:∀{W:ao},¬x.ok->Below w.heap.size w W->K (.returned (.bool au)) W:=λh hw=>o _ _ ⟨by rw[auD h],hw⟩;have rest:x.known->oY q (λa=>
   QDo ah a (mFA 53 (af b 0) 1) λt24=>
   QDo ah a (aH 3 t24) λt25=>
   QDo ah a (iQ .geq 3 t25 (ad 1)) λt26=>
   QDo ah a (iB (.bool aw) t26 (.bool au)) λt27=>
   GQ t27 aw (λE=>QDo ah a (mFA 53 (af b 0) 2) E) λt29=>
   GQ t27 aw (λE=>QDo ah a (aH 3 t29) E) λt30=>
   GQ t27 aw (λE=>QDo ah a (iQ .geq 3 t30 (ad 1)) E) λt31=>
   QDo ah a (iB t27 t31 (.bool au)) λt32=>
   GQ t32 aw (λE=>QDo ah a (mFA 53 (af b 0) 1) E) λt34=>
   GQ t32 aw (λE=>QDo ah a (aH 3 t34) E) λt35=>
   GQ t32 aw (λE=>QDo ah a (iQ .leq 3 t35 (ad 8192)) E) λt36=>
   QDo ah a (iB t32 t36 (.bool au)) λt37=>
   GQ t37 aw (λE=>QDo ah a (mFA 53 (af b 0) 2) E) λt39=>
   GQ t37 aw (λE=>QDo ah a (aH 3 t39) E) λt40=>
   GQ t37 aw (λE=>QDo ah a (mFA 53 (af b 0) 1) E) λt41=>
   GQ t37 aw (λE=>QDo ah a (aH 3 t41) E) λt42=>
   GQ t37 aw (λE=>QDo ah a (iQ .quo 3 (ad 8192) t42) E) λt43=>
   GQ t37 aw (λE=>QDo ah a (iQ .leq 3 t40 t43) E) λt44=>
   QDo ah a (iB t37 t44 (.bool au)) λt45=>
   ∀w,a w->K (.returned t45) w):=by
  intro r;refine cY (λW=>bT NoB w W [pmE b x]) d.drew ?_;refine dY _ (λ_=>bE Md) (gA _ (λW h=>RJ (h.at_ 0 rfl)) (ajY (MZ ?_)));by_cases f:1<=x.c
  case neg=>
   rw[auD f];simp only[gq];refine F9 ?_;simp only[gq];refine F9 ?_;simp only[gq];refine F9 λW d=>?_;exact no (λh=>f h.2.1) d.done
  rw[auG f];simp only[gq];refine dY _ (λ_=>bE Pj) (gA _ (λW h=>Zc (h.at_ 0 rfl)) (ajY (MZ ?_)));by_cases g:1<=x.n
  case neg=>
   rw[auD g];simp only[gq];refine F9 ?_;simp only[gq];refine F9 λW d=>?_;exact no (λh=>g h.2.2.1) d.done
  rw[auG g];simp only[gq];refine dY _ (λ_=>bE Md) (gA _ (λW h=>RJ (h.at_ 0 rfl)) (afQ (MZ ?_)));by_cases i:x.c<=8192
  case neg=>
   rw[auD i];simp only[gq];refine F9 λW d=>?_;exact no (λh=>i h.2.2.2.1) d.done
  rw[auG i];simp only[gq];refine dY _ (λ_=>bE Pj) (gA _ (λW h=>Zc (h.at_ 0 rfl)) ?_);refine dY _ (λ_=>bE Md) (gA _ (λW h=>RJ (h.at_ 0 rfl)) (arP om (afQ (MZ λW d=>?_))));have s:(8192:Int).tdiv x.c=8192 / x.c:=aAX dc;have t:8192 / x.c<=8192:=Int.ediv_le_self _ dc;have u:0<=8192 / x.c:=Int.ediv_nonneg dc om;rw[s,aA om om];refine o _ _ ⟨?_,d.done⟩;have e:x.n<=8192 / x.c↔x.c*x.n<=8192:=by rw[Int.le_ediv_iff_mul_le om,Int.mul_comm]
  congr 1
  have:x.ok↔x.n<=8192 / x.c:=⟨λh=>e.2 h.2.2.2.2,λh=>⟨r,f,g,i,e.1 h⟩⟩;exact (decide_eq_decide.2 this).symm
 simp only[rs];by_cases j:x.p=1
 ·simp only[j,auE,rs,gq,oG];exact rest (.inl j)
 simp only[j,auF,rs];rw[Oo,Om d 0 rfl];simp only[rs];by_cases k:x.p=2
 ·simp only[k,auE,rs,gq,oG];exact rest (.inr (.inl k))
 simp only[k,auF,rs];rw[Oo,Om d 0 rfl];simp only[rs];by_cases l:10<=x.p
 ·simp only[l,auE,rs];rw[Oo,Om d 0 rfl];simp only[rs];by_cases m:x.p<=15
  ·simp only[m,auE,rs,gq,oG];exact rest (.inr (.inr ⟨l,m⟩))
  ·simp only[m,auF,rs,gq,oG];refine cY (λW=>bT NoB w W [pmE b x]) d.drew ?_;refine F9 ?_;simp only[gq];refine F9 ?_;simp only[gq];refine F9 ?_;simp only[gq];refine F9 λW d=>no (λh=>by have:=h.1;unfold Pm.known at this;omega) d.done
 ·simp only[l,auF,rs,gq,oG];refine cY (λW=>bT NoB w W [pmE b x]) d.drew ?_;refine F9 ?_;simp only[gq];refine F9 ?_;simp only[gq];refine F9 ?_;simp only[gq];refine F9 λW d=>no (λh=>by have:=h.1;unfold Pm.known at this;omega) d.done
theorem MA (x:Pm)(w:ao):Ret ah 96 #[pmV x] w (λv w'=>v=ad (if x.ok then 0 else 1)∧Below w.heap.size w w'):=by
 refine aX λK c=>F4 ?_;unfold Ca nz;refine Kd x (Own.start w) λb d a=>?_;rw[Pr a 0 rfl];refine aK a (Ng x d) ?_;rintro _ w2 rfl a;simp only[rs];by_cases h:x.ok
 ·rw[auC h] at c;simp only[h,auE,awA,i_f];exact c _ _ ⟨rfl,a.done⟩
 ·rw[auB h] at c;simp only[h,auF,avZ,i_t];exact c _ _ ⟨rfl,a.done⟩
theorem Sk (x:Pm)(w:ao):Ret ah 213 #[pmV x] w (λv w'=>v=ad (if x.ok then x.c*x.n else 0)∧Below w.heap.size w w'):=by
 refine aX λK d=>Iz ?_;unfold FJ nz;refine Kd x (Own.start w) λb e a=>?_;rw[Pr a 0 rfl];refine aK a (Ng x e) ?_;rintro _ w2 rfl a;simp only[rs];by_cases h:x.ok
 ·rw[auC h] at d;simp only[h,auE,awA,i_f];have f:=Pm.mul_pos h;have g:=h.2.2.2.2;rw[fpm1,pm_1 a 0 rfl,fpm2,pm_2 a 0 rfl];simp only[rs];rw[aA om om];exact d _ _ ⟨rfl,a.done⟩
 ·rw[auB h] at d;simp only[h,auF,avZ,i_t];exact d _ _ ⟨rfl,a.done⟩
def da (x:Int):Int:=max x (-x)
def og (a b c:UInt8):UInt8:=
 let d:Int:=(a.toNat:Int)+(b.toNat:Int) - (c.toNat:Int)
 if da (d - (a.toNat:Int))<=da (d - (b.toNat:Int))∧da (d - (a.toNat:Int))<=da (d - (c.toNat:Int)) then a
 else if da (d - (b.toNat:Int))<=da (d - (c.toNat:Int)) then b else c
theorem Cz (a b:Int)(w:ao)(d:-10000<=a∧a<=10000)(e:-10000<=b∧b<=10000):Ret ah 289 #[ad a,ad b] w (λv w'=>v=ad (da (b - a))∧w=w'):=by
 refine aX λK c=>E7 ?_;unfold A3 nz;simp only[rs];rw[aA om om,aA om om,vC];exact c _ _ ⟨by unfold da;congr 1;omega,rfl⟩
section
variable {w:ao}{PK:PKT}{K:VWP}
theorem Oq {c:UInt8}:DoX ah (tG 5 3 (.int .u8 (c.toNat:Int))) w PK K=K (ad (c.toNat:Int)) w:=by
 have a:=ayI c;have e:IntKind.i64.wrap (c.toNat:Int)=(c.toNat:Int):=aA om om;have:=eI (P:=ah) (S:=5) (D:=3) (k:=.u8) (n:=(c.toNat:Int)) (w:=w) krx avY;rw[e] at this;exact aD this
end
theorem Vs (a b c:UInt8)(w:ao):Ret ah 261 #[.int .u8 (a.toNat:Int),.int .u8 (b.toNat:Int),.int .u8 (c.toNat:Int)] w (λv w'=>v=.int .u8 ((og a b c).toNat:Int)∧w=w'):=by
 refine aX λK j=>Ft ?_;unfold BR nz;have s:=ayI a;have t:=ayI b;have u:=ayI c;rw[Oq,Oq];simp only[rs];rw[Oq];simp only[rs];rw[aA (n:=(a.toNat:Int)+(b.toNat:Int)) om om,aA om om];have e:∀W:ao,(aV 308 #[(0,.int .u8 (b.toNat:Int)),(1,.int .u8 (c.toNat:Int))]).run ah W=.ok (.value (.agg #[.int .u8 (b.toNat:Int),.int .u8 (c.toNat:Int)])) W:=λW=>by kernel_rfl
 refine aD (e w) |>.mpr ?_;have hp:og a b c=(let m:=if da ((a.toNat:Int)+(b.toNat:Int) - (c.toNat:Int) - (b.toNat:Int)) < da ((a.toNat:Int)+(b.toNat:Int) - (c.toNat:Int) - (a.toNat:Int)) then b else a
   if da ((a.toNat:Int)+(b.toNat:Int) - (c.toNat:Int) - (c.toNat:Int)) < da ((a.toNat:Int)+(b.toNat:Int) - (c.toNat:Int) - (m.toNat:Int)) then c else m):=by
  unfold og;dsimp only;generalize l:da ((a.toNat:Int)+(b.toNat:Int) - (c.toNat:Int) - (a.toNat:Int))=A;generalize o:da ((a.toNat:Int)+(b.toNat:Int) - (c.toNat:Int) - (b.toNat:Int))=B;generalize hC:da ((a.toNat:Int)+(b.toNat:Int) - (c.toNat:Int) - (c.toNat:Int))=C;by_cases k:B < A
  ·rw[auC k,o,auB om];by_cases g:B<=C
   ·rw[auC g,auB om]
   ·rw[auB g,auC om]
  ·rw[auB k,l];by_cases g:C < A
   ·rw[auC g,auB om,auB om]
   ·rw[auB g,auC om]
 rw[hp] at j;dsimp only at j;generalize p:(a.toNat:Int)+(b.toNat:Int) - (c.toNat:Int)=d at j;have f:-10000<=d∧d<=10000:=om
 have q:∀W:ao,(mIx 308 (.agg #[.int .u8 (b.toNat:Int),.int .u8 (c.toNat:Int)]) (ad 0)).run ah W=.ok (.value (.int .u8 (b.toNat:Int))) W:=λW=>by kernel_rfl
 have r:∀W:ao,(mIx 308 (.agg #[.int .u8 (b.toNat:Int),.int .u8 (c.toNat:Int)]) (ad 1)).run ah W=.ok (.value (.int .u8 (c.toNat:Int))) W:=λW=>by kernel_rfl
 refine loop (λvs W=>w=W∧(vs=[.int .u8 (a.toNat:Int),ad 0]∨vs=[.int .u8 ((if da (d - (b.toNat:Int)) < da (d - (a.toNat:Int)) then b else a).toNat:Int),ad 1] ∨
  vs=[.int .u8 ((if da (d - (c.toNat:Int)) < da (d - ((if da (d - (b.toNat:Int)) < da (d - (a.toNat:Int)) then b else a).toNat:Int)) then c else (if da (d - (b.toNat:Int)) < da (d - (a.toNat:Int)) then b else a)).toNat:Int),ad 2])) (λvs _=>2 - n1 vs) ⟨rfl,.inl rfl⟩ ?_
 rintro vs _ ⟨rfl,rfl|rfl|rfl⟩ _
 ·simp only[jF,gd,rs,nz];simp only[show ai ((0:Int) < 2)=aw from rfl,i_t];refine join λJ i=>?_;refine aD (q w) |>.mpr ?_;rw[Oq];refine BJ (Cz (b.toNat:Int) d w om f) ?_;rw[Oq];refine BJ (Cz (a.toNat:Int) d w om f) ?_;simp only[rs];by_cases h:da (d - (b.toNat:Int)) < da (d - (a.toNat:Int))
  ·simp only[h,auE,i_t];refine i _ _ λ_=>?_;simp only[gD,gd,rs,nz];exact bC ⟨rfl,.inr (.inl (by rw[auC h];rfl))⟩ (by show 2 - 1 < 2 - 0;decide)
  ·simp only[h,auF,i_f];refine i _ _ λ_=>?_;simp only[gD,gd,rs,nz];exact bC ⟨rfl,.inr (.inl (by rw[auB h];rfl))⟩ (by show 2 - 1 < 2 - 0;decide)
 ·generalize (if da (d - (b.toNat:Int)) < da (d - (a.toNat:Int)) then b else a)=m;have hm:=ayI m;simp only[jF,gd,rs,nz];simp only[show ai ((1:Int) < 2)=aw from rfl,i_t];refine join λJ i=>?_;refine aD (r w) |>.mpr ?_;rw[Oq];refine BJ (Cz (c.toNat:Int) d w om f) ?_;rw[Oq];refine BJ (Cz (m.toNat:Int) d w om f) ?_;simp only[rs];by_cases h:da (d - (c.toNat:Int)) < da (d - (m.toNat:Int))
  ·simp only[h,auE,i_t];refine i _ _ λ_=>?_;simp only[gD,gd,rs,nz];exact bC ⟨rfl,.inr (.inr (by rw[auC h];rfl))⟩ (by show 2 - 2 < 2 - 1;decide)
  ·simp only[h,auF,i_f];refine i _ _ λ_=>?_;simp only[gD,gd,rs,nz];exact bC ⟨rfl,.inr (.inr (by rw[auB h];rfl))⟩ (by show 2 - 2 < 2 - 1;decide)
 ·simp only[jF,gd,rs,nz];simp only[show ai ((2:Int) < 2)=au from rfl,i_f];exact j _ _ ⟨rfl,rfl⟩
def gx (l:List UInt8)(i:Int):UInt8:=if i < 0∨(l.length:Int)<=i then 0 else l.getD i.toNat 0
theorem QF (l:List UInt8)(v:aq)(i:Int)(w:ao)(d:Sl w v 1 l.length (bA l)):Ret ah 260 #[v,ad i] w (λr w'=>r=.int .u8 ((gx l i).toNat:Int)∧w=w'):=by
 refine aX λK a=>K4 ?_;unfold Hw nz;unfold gx at a;simp only[rs];by_cases b:i < 0
 ·simp only[b,auE,rs,oG];rw[auC (.inl b)] at a;exact a _ _ ⟨rfl,rfl⟩
 simp only[b,auF,rs];rw[aZ avH d];simp only[rs];by_cases c:(l.length:Int)<=i
 ·simp only[c,auE,rs];rw[auC (.inr c)] at a;exact a _ _ ⟨rfl,rfl⟩
 simp only[c,auF,rs];rw[auB om] at a;obtain⟨n,rfl⟩:∃n:Nat,i=(n:Int):=⟨i.toNat,om⟩;have e:n < l.length:=om
 obtain⟨b2,off,f,g⟩:=abV d e;refine aD (f w) |>.mpr (aD (aB nU8l g) |>.mpr ?_);rw[auJ,auK,auO e] at a;exact a _ _ ⟨rfl,rfl⟩
def ey (tag:Int)(above row:List UInt8)(i colors:Int):UInt8:=
 if tag=1 then gx row (i - colors)
 else if tag=2 then gx above i
 else if tag=3 then UInt8.ofNat (((gx row (i - colors)).toNat+(gx above i).toNat) / 2)
 else if tag=4 then og (gx row (i - colors)) (gx above i) (gx above (i - colors))
 else 0
def rwC (a r:aq)(c:Int):List Value:=[a,r,ad c]
def rwV (a r:aq)(c:Int):Value:=.agg (rwC a r c).toArray
abbrev rwE (b:Nat)(a r:aq)(c:Int):Ent:=.cells b (rwC a r c) 235
theorem Yl {a r:aq}{c:Int}(b:a.oneCell'=aw)(d:r.oneCell'=aw):∀u∈rwC a r c,u.oneCell'=true:=by
 intro u hu;simp only[rwC,auI,avP,or_false] at hu;rcases hu with rfl|rfl|rfl
 ·exact b
 ·exact d
 ·rfl
theorem Qb:FU ah 235=ay 3:=krx
theorem szRw:(Tryz.prog.info? 235).map (·.size)=ay 3:=krx
theorem SD:nN ah 235 0=ay 0:=krx
theorem Ai:nN ah 235 1=ay 1:=krx
theorem aeW:nN ah 235 2=ay 2:=krx
theorem nS {n:Nat}(h:Sl w v sz n cs):v.oneCell'=true:=by
 obtain⟨_,a,cap,rfl,_⟩:=h;rfl
theorem YW {a r:aq}{c:Int}(h:(rwE b a r c).is W):(aH 80 (af b (0+0))).run ah W=.ok (.value a) W:=aB QN (aI (T:=235) (cs:=rwC a r c) h rfl)
theorem BG {a r:aq}{c:Int}(h:(rwE b a r c).is W):(aH 80 (af b (0+1))).run ah W=.ok (.value r) W:=aB QN (aI (T:=235) (cs:=rwC a r c) h rfl)
theorem WV {a r:aq}{c:Int}(h:(rwE b a r c).is W):(aH 3 (af b (0+2))).run ah W=.ok (.value (ad c)) W:=aB aU (aI (T:=235) (cs:=rwC a r c) h rfl)
theorem asB (x y:UInt8):IntKind.u8.wrap (IntKind.i64.wrap (((x.toNat+y.toNat:Nat):Int).tdiv 2))=((UInt8.ofNat ((x.toNat+y.toNat) / 2)).toNat:Int):=by
 have a:=ayI x;have b:=ayI y;rw[show ((x.toNat+y.toNat:Nat):Int).tdiv 2=(((x.toNat+y.toNat) / 2:Nat):Int) from rfl,aA om om,RO]
theorem TR (tag:Int)(above row:List UInt8)(va e:aq)(i colors:Int)(w:ao)(hi:0<=i∧i<=1000000)(p:1<=colors∧colors<=1000000)(k:Sl w va 1 above.length (bA above))(l:Sl w e 1 row.length (bA row)) :
  Ret ah 239 #[rwV va e colors,ad tag,ad i] w (λr w'=>r=.int .u8 ((ey tag above row i colors).toNat:Int)∧Below w.heap.size w w'):=by
 refine aX λK a=>A8 ?_;unfold uD nz;unfold ey at a;have m:=nS k;have n:=nS l;have o:∀W:ao,(GP 235 (rwV va e colors)).run ah W=.ok (.value (af W.heap.size 0)) (W.alloc (.cells (rwC va e colors).toArray 235)):=λW=>by
  cases va<;>first|(cases m;done)|skip
  all_goals cases e<;>first|(cases n;done)|kernel_rfl
 refine bK (λb=>af b 0) (rwC va e colors) 235 o (Own.start w) λb q f=>?_;refine cY (λW=>bT NoB w W [rwE b va e colors]) f.drew ?_;refine dY _ (λ_=>bE Ai) (gA _ (λW h=>BG (h.at_ 0 rfl)) (dY _ (λ_=>bE aeW) (gA _ (λW h=>WV (h.at_ 0 rfl)) (dY _ (λ_=>sZ) ?_))));rw[aA om om];refine fY _ (λW h=>(QF row e (i - colors) W (bT.Re h l)).mono λv w' ⟨c,d⟩=>⟨c,d▸h⟩) ?_;refine dY _ (λ_=>bE SD) (gA _ (λW h=>YW (h.at_ 0 rfl)) ?_);refine fY _ (λW h=>(QF above va i W (bT.Re h k)).mono λv w' ⟨c,d⟩=>⟨c,d▸h⟩) ?_;refine dY _ (λ_=>bE SD) (gA _ (λW h=>YW (h.at_ 0 rfl)) ?_);refine dY _ (λ_=>bE aeW) (gA _ (λW h=>WV (h.at_ 0 rfl)) (dY _ (λ_=>sZ) ?_));rw[aA om om];refine fY _ (λW h=>(QF above va (i - colors) W (bT.Re h k)).mono λv w' ⟨c,d⟩=>⟨c,d▸h⟩) ?_;intro w2 f;generalize gx row (i - colors)=x at a ⊢;generalize gx above i=y at a ⊢;generalize gx above (i - colors)=z at a ⊢;have s:=ayI x;have t:=ayI y;simp only[rs];by_cases c:tag=1
 ·simp only[c,auE,i_t];rw[auC c] at a;exact a _ _ ⟨rfl,f.done⟩
 simp only[c,auF,i_f];rw[auB c] at a
 try simp only[rs]
 by_cases d:tag=2
 ·simp only[d,auE,i_t];rw[auC d] at a;exact a _ _ ⟨rfl,f.done⟩
 simp only[d,auF,i_f];rw[auB d] at a
 try simp only[rs]
 by_cases g:tag=3
 ·simp only[g,auE,i_t];rw[auC g] at a;rw[Oq,Oq];simp only[rs];rw[aA om om,RM dc];refine aD (eI krx awI) |>.mpr ?_;rw[show (x.toNat:Int)+(y.toNat:Int)=((x.toNat+y.toNat:Nat):Int) by omega,asB];exact a _ _ ⟨rfl,f.done⟩
 simp only[g,auF,i_f];rw[auB g] at a
 try simp only[rs]
 by_cases j:tag=4
 ·simp only[j,auE,i_t];rw[auC j] at a;refine BJ (Vs x y z w2) ?_;exact a _ _ ⟨rfl,f.done⟩
 simp only[j,auF,i_f];rw[auB j] at a;exact a _ _ ⟨rfl,f.done⟩
end
end Go.Proofs.YtlgndjkieegnaaaGreatDoor
