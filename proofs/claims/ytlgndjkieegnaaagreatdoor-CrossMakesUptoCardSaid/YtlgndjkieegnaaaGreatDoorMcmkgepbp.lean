/- Parts of the proof. -/
import Derived.Test.YtlgndjkieegnaaaGreatDoorRows
import Derived.Test.YtlgndjkieegnaaaGreatDoorMkfmddlep
set_option linter.all false
set_option maxRecDepth 20000
open Go.Proofs.Tryz
open Go.Proofs.Tryz renaming prog->ah
open Option renaming some->ay,none->ax
open Bool renaming true->aw,false->au
open Go renaming Value->aq,World->ao
open Decidable renaming decide->ai
namespace Go.Proofs.YtlgndjkieegnaaaGreatDoor
variable{K:VWP}{M N:Eng.Mem}{P:Program}{PK PK2:PKT}{S:Nat->Prop}{Sy cl l near:List Nat}{T1 U:TypeId}{W w w0:ao}{a colors way:Int}{above:List UInt8}{b cap i j jm m t tb:Nat}{cb:Array Bool}{cur:List aq}{k':IntKind}{ps:List Pc}{pv v v' va:aq}{r:List Cn}{xo yo:Operand}{t0 t1 t2 t3:aq}{k0:Eng.KT}
section
open Eng Go.RowKit
theorem zp:∀(t:List Nat) (x:Nat),t.length < 8->br (t++[x]) 0=br t 0+x*2 ^ t.length
|[],x,_=>by simp[br]
|[a],x,_=>by simp[br];omega
|[a,b],x,_=>by simp[br];omega
|[a,b,c],x,_=>by simp[br];omega
|[a,b,c,d],x,_=>by simp[br];omega
|[a,b,c,d,e],x,_=>by simp[br];omega
|[a,b,c,d,e,f],x,_=>by simp[br];omega
|[a,b,c,d,e,f,g],x,_=>by simp[br];omega
|_::_::_::_::_::_::_::_::_,_,h=>by simp at h;omega
theorem zq:∀(t:List Nat),bp t->t.length < 8->br t 0 < 2 ^ t.length
|[],_,_=>by simp[br]
|[a],h,_=>by have:=h a sm;simp[br];omega
|[a,b],h,_=>by have:=h a sm;have:=h b sm;simp[br];omega
|[a,b,c],h,_=>by have:=h a sm;have:=h b sm;have:=h c sm;simp[br];omega
|[a,b,c,d],h,_=>by have:=h a sm;have:=h b sm;have:=h c sm;have:=h d sm;simp[br];omega
|[a,b,c,d,e],h,_=>by have:=h a sm;have:=h b sm;have:=h c sm;have:=h d sm;have:=h e sm;simp[br];omega
|[a,b,c,d,e,f],h,_=>by have:=h a sm;have:=h b sm;have:=h c sm;have:=h d sm;have:=h e sm;have:=h f sm;simp[br];omega
|[a,b,c,d,e,f,g],h,_=>by have:=h a sm;have:=h b sm;have:=h c sm;have:=h d sm;have:=h e sm;have:=h f sm;have:=h g sm;simp[br];omega
|_::_::_::_::_::_::_::_::_,_,h=>by simp at h;omega
theorem xz (h:bp l){x:Nat}(o:x < 2):∃P c,c < 2 ^ (l.length % 8)∧(if l.length % 8=0 then bf l++[0] else bf l)=P++[UInt8.ofNat c]∧bf (l++[x])=P++[UInt8.ofNat (c+x*2 ^ (l.length % 8))]:=by
 have f:l=l.take (8*(l.length / 8))++l.drop (8*(l.length / 8)):=(avV ..).symm;have e:(l.take (8*(l.length / 8))).length=8*(l.length / 8):=by rw[auM];omega
 have j:(l.drop (8*(l.length / 8))).length=l.length % 8:=by rw[auT];omega
 have d:bp (l.drop (8*(l.length / 8))):=λb n=>h b (ayG n);generalize l.take (8*(l.length / 8))=a at f e;generalize l.drop (8*(l.length / 8))=t at f j d;generalize l.length / 8=k at e;rw[<-j,f,auN,mq e,mq e];have m:t.length < 8:=om
 have g:=zq t d m;have e1:bf (t++[x])=[UInt8.ofNat (br t 0+x*2 ^ t.length)]:=by
  rw[<-zp t x m];unfold bf;rw[auH,awM,show (t.length+1+7) / 8=1 by omega];rfl
 by_cases i:t.length=0
 ·have:t=[]:=axZ.1 i;subst this;refine⟨bf a,0,dc,?_,?_⟩
  ·rw[auC i];simp[bf]
  ·rw[e1];simp[br]
 ·refine⟨bf a,br t 0,g,?_,by rw[e1]⟩;rw[auB i]
  congr 1
  unfold bf;rw[show (t.length+7) / 8=1 by omega];rfl
theorem xa (l:List Nat):(bf l).length<=l.length:=by rw[lz];omega
def wrC (way:Int)(n:Nat)(v:aq):List Value:=[ad way,ad ((n % 8:Nat):Int),v]
abbrev wrE (b:Nat)(way:Int)(n:Nat)(v:aq):Ent:=.cells b (wrC way n v) 311
abbrev Wr (b:Nat)(way:Int)(l:List Nat)(v:aq)(T:List Ent):List Ent:=wrE b way l.length v::pP v (bf l)::T
theorem acO:nN ah 311 0=ay 0:=krx
theorem WW:nN ah 311 1=ay 2:=krx
section
variable {W:ao}{b n:Nat}{way:Int}{v:aq}
theorem ahO (h:(wrE b way n v).is W):(aH 3 (af b 0)).run ah W=.ok (.value (ad way)) W:=aB aU (aI (T:=311) (cs:=wrC way n v) h (i:=0) rfl)
theorem ajD (h:(wrE b way n v).is W):(aH 3 (af b (0+1))).run ah W=.ok (.value (ad ((n % 8:Nat):Int))) W:=aB aU (aI (T:=311) (cs:=wrC way n v) h (i:=1) rfl)
theorem Xz (h:(wrE b way n v).is W):(aH 80 (af b (0+2))).run ah W=.ok (.value v) W:=aB QN (aI (T:=311) (cs:=wrC way n v) h (i:=2) rfl)
theorem Vp (h:(wrE b way n v).is W):Ret ah 322 #[af b 0,ad 1] W (λv w'=>v=ad ((n % 8:Nat):Int)∧Below W.heap.size W w'):=by
 refine aX λK a=>rS ?_;unfold pS nz;simp only[rs,auE,bQ];rw[wO];refine aD (ajD h) |>.mpr ?_;exact a _ _ ⟨rfl,(Own.start W).done⟩
theorem Vv (h:(wrE b way n v).is W)(hw:way=0∨way=1):Ret ah 313 #[af b 0,ad 1] W (λv w'=>v=.bool au∧Below W.heap.size W w'):=by
 refine aX λK a=>rM ?_;unfold pK nz;have r:=ahO h;rw[bQ,Ml];refine aD r |>.mpr ?_;rcases hw with rfl|rfl
 ·simp only[rs,ne_eq,not_true,auF,oG];exact a _ _ ⟨rfl,(Own.start W).done⟩
 ·simp only[rs,show ai ((1:Int)≠0)=aw by decide,bQ];rw[Ml];refine aD r |>.mpr ?_;simp only[rs,ne_eq,not_true,auF];exact a _ _ ⟨rfl,(Own.start W).done⟩
end
theorem agK:∀a:Fin 256,∀k:Fin 8,a.val < 2 ^ k.val->bOr .u8 (a.val:Int) ((2 ^ k.val:Nat):Int)=((a.val+2 ^ k.val:Nat):Int):=by decide +kernel
theorem atW:∀a:Fin 256,bOr .u8 (a.val:Int) 0=(a.val:Int):=by decide +kernel
theorem or8 {c x k:Nat}(a:k < 8)(b:c < 2 ^ k)(d:x < 2):bOr .u8 (c:Int) ((x*2 ^ k:Nat):Int)=((c+x*2 ^ k:Nat):Int):=by
 have hp:2 ^ k<=2 ^ 7:=awL dc om;have e:(2:Nat) ^ 7=128:=rfl;rcases (by omega:x=0∨x=1) with rfl|rfl
 ·rw[axP];exact atW ⟨c,om⟩
 ·rw[aAb];exact agK ⟨c,om⟩ ⟨k,a⟩ b
theorem NQ :DoX ah (mEq .eql 271 xo yo (af b 0) (.pointer ax)) w PK K=K (.bool au) w:=aD krx
theorem ahC :DoX ah (mEq .neq 271 xo yo (af b 0) (.pointer ax)) w PK K=K (.bool aw) w:=aD krx
section
variable {w:ao}{PK:PKT}{K:VWP}{S:Nat->Prop}{w0:ao}{L T:List Ent}
theorem JE {off:Nat}:DoX ah (mFA 311 (af b off) 0) w PK K=K (af b off) w:=aW acO
theorem Pk {off:Nat}:DoX ah (mFA 311 (af b off) 1) w PK K=K (af b (off+2)) w:=aW WW
theorem wr_v (a:bT S w0 w L)(j:Nat){n:Nat}(hi:L[j]?=ay (wrE b way n v)):DoX ah (aH 80 (af b (0+2))) w PK K=K v w:=aJ QN (a.cell j hi 2 rfl)
theorem wr_u (a:bT S w0 w L)(j:Nat){n:Nat}(hi:L[j]?=ay (wrE b way n v)):DoX ah (aH 3 (af b (0+1))) w PK K=K (ad ((n % 8:Nat):Int)) w:=aJ aU (a.cell j hi 1 rfl)
theorem V2 (a:bT S w0 w T)(k:∀b W,bT S w0 W (Wr b 0 [] cI T)->K (af b 0) W):cR ah 262 #[] w PK K:=by
 refine gK (Qv (k0:=wT λv W=>∃b,v=af b 0∧bT S w0 W (Wr b 0 [] cI T)) ?_) (λe W ⟨v,he,b,c,a⟩=>by subst he;subst c;exact k b W a);unfold Qs nz;have e:∀W:ao,(aV 311 #[]).run ah W=.ok (.value (.agg (wrC 0 0 cI).toArray)) W:=λW=>by kernel_rfl
 refine aD (e w) |>.mpr ?_;have a:=a.nilU 5 1;refine bK (λb=>af b 0) (wrC 0 0 cI) 311 (λ_=>by kernel_rfl) a λb d a=>?_;exact vG ⟨b,rfl,a⟩
theorem anD {x:Nat}(a:bT S w0 w (Wr b way l v T))(p:bp l)(t:x < 2)(U:l.length<=100000000000)
  (k:∀v' W,bT S w0 W (Wr b way (l++[x]) v' T)->K (.tuple #[]) W):cR ah 314 #[af b 0,ad (x:Int),ad 1] w PK K:=by
 refine gK (Em (k0:=wT λv W=>v=.tuple #[]∧∃v',bT S w0 W (Wr b way (l++[x]) v' T)) ?_) (λe W ⟨v,he,E,v',a⟩=>by subst he;subst E;exact k v' W a);unfold Ab nz;obtain⟨P,c,F,f,y⟩:=xz p t;have G:=xa l;have H:2 ^ (l.length % 8)<=2 ^ 7:=awL dc om;have V:(2:Nat) ^ 7=128:=rfl;have I:x*2 ^ (l.length % 8)<=128:=by
  have:x*2 ^ (l.length % 8)<=1*2 ^ (l.length % 8):=awC _ om;omega
 have L:P.length<=100000000000:=by
  have:=congrArg List.length f;rw[auH,awM] at this;have X:(if l.length % 8=0 then bf l++[0] else bf l).length<=(bf l).length+1:=by
   split
   ·simp
   ·omega
  omega
 refine join λJ M=>?_;have fin:∀(W:ao) (v':aq),bT S w0 W (wrE b way l.length v'::pP v' (P++[UInt8.ofNat c])::T)->J [] W:=by
  intro W v' a;refine M _ _ λ_=>?_;unfold vA nz;have hlen:(P++[UInt8.ofNat c]).length=P.length+1:=sm
  obtain⟨g,cap,rfl⟩:=nX (a.at_ 1 rfl) om;rw[hlen] at a;refine cY (λW=>bT S w0 W (wrE b way l.length (bO g 0 (P.length+1) cap)::pP (bO g 0 (P.length+1) cap) (P++[UInt8.ofNat c])::T)) a.drew ?_;refine dY _ (λ_=>dW) (dY _ (λ_=>bE WW) (gA _ (λW h=>Xz (h.at_ 0 rfl)) ?_));refine dY _ (λ_=>dW) (dY _ (λ_=>bE WW) (gA _ (λW h=>Xz (h.at_ 0 rfl)) ?_));refine dY _ (λ_=>Hh avH) (dY _ (λ_=>sZ) ?_);rw[aA om om,show ((P.length+1:Nat):Int) - 1=(P.length:Int) by omega];have j:∀W:ao,(mIA 80 (bO g 0 (P.length+1) cap) (ad (P.length:Int))).run ah W=.ok (.value (af g P.length)) W:=λW=>by
   have:=cZ (P:=ah) (T:=80) (b:=g) (off:=0) (cap:=cap) (n:=P.length+1) (k:=.i64) (i:=(P.length:Int)) (w:=W) avH (show _=ay 1 by kernel_rfl) om om
   rwa [auJ,avC,auP] at this
  refine dY _ j ?_;have d:(bA (P++[UInt8.ofNat c]))[P.length]?=ay (.int .u8 (c:Int)):=by
   rw[kV om,aBo (auL _)];simp only[axL,aAG,ayE];rw[awB om]
  refine gA (.int .u8 (c:Int)) (λW h=>?_) ?_
  ·have z:=zP (h.at_ 1 rfl);rw[hlen] at z;obtain⟨Y,A,B,e,N⟩:=bR z om
   injection e with e1 e2 e3
   injection e1 with e1
   have C:=congrArg Addr.block e1;have m:=congrArg Addr.off e1;dsimp only at C m;subst C;subst m;have:=N P.length _ d;rw[auP] at this;exact aB nU8l this
  refine dY _ (λ_=>dW) (dY _ (λ_=>bE acO) ?_);refine fY (ad ((l.length % 8:Nat):Int)) (λW h=>(Vp (h.at_ 0 rfl)).mono λv w' r=>⟨r.1,h.grow r.2⟩) ?_;refine dY _ (λ_=>ahE om) ?_;rw[show min ((l.length % 8:Nat):Int).toNat IntKind.i64.bits=l.length % 8 by show min ((l.length % 8:Nat):Int).toNat 64=l.length % 8;omega];rw[show ((x:Nat):Int)*2 ^ (l.length % 8)=((x*2 ^ (l.length % 8):Nat):Int) by push_cast;rfl,aA om om];refine dY _ (λW=>cU8 om) ?_;have O:(((UInt8.ofNat (x*2 ^ (l.length % 8))).toNat:Nat):Int)=((x*2 ^ (l.length % 8):Nat):Int):=by rw[ayE,awB om]
  try rw[O]
  refine dY _ (λ_=>r_or) ?_;rw[or8 (axU _ dc) F t];refine dY _ j ?_;intro Z a;refine Cw (sz:=1) (new:=[.int .u8 ((c+x*2 ^ (l.length % 8):Nat):Int)]) 1 a (by show ay (pP _ _)=ay _;unfold pP;rw[hlen]) rfl krx (λu hu=>by rw[avD.1 hu];rfl) sm λQ a=>?_;have o:(bA (P++[UInt8.ofNat c])).take P.length++[.int .u8 ((c+x*2 ^ (l.length % 8):Nat):Int)]++(bA (P++[UInt8.ofNat c])).drop (P.length+[(.int .u8 ((c+x*2 ^ (l.length % 8):Nat):Int):aq)].length)=bA (bf (l++[x])):=by
   rw[y];unfold bA;rw[avM,avM,awK sm,aAa sm,avA]
   congr 1
   simp only[avS,axT,ayE];rw[awB (show c+x*2 ^ (l.length % 8) < 2 ^ 8 by omega)]
  have a:bT S w0 Q (wrE b way l.length (bO g 0 (P.length+1) cap)::pP (bO g 0 (P.length+1) cap) (bf (l++[x]))::T):=by
   unfold pP;rw[<-o,y,auH,awM];exact a
  rw[bQ,JE,wO,wr_u a 0 rfl];simp only[rs];rw[aA om om,NA dc]
  try rw[bQ]
  rw[JE,wO];have R:(((l.length % 8:Nat):Int)+1).tmod 8=(((l.length+1) % 8:Nat):Int):=by
   rw[aBn om];omega
  rw[R];refine aO 0 a rfl krx rfl (by show 0+1 < 3;omega) λW4 a=>?_;refine vG ⟨rfl,bO g 0 (P.length+1) cap,?_⟩;unfold Wr wrE;rw[auH,awM];exact a
 rw[bQ,JE,wO,wr_u a 0 rfl];simp only[rs];by_cases D:((l.length % 8:Nat):Int)=0
 ·simp only[D,auE,i_t];rw[auC om] at f
  try rw[bQ]
  rw[Pk,wr_v a 0 rfl];refine UY 0 a λb8 w8 a=>?_;refine bZ 2 avH O5 dc a rfl (sQ (a.at_ 0 rfl) dc rfl) fW om om λv' w9 a=>?_;have q:v'.oneCell'=true:=bX (a.at_ 2 rfl)
  try rw[bQ]
  rw[Pk];refine aO 1 a rfl krx q (by show 0+2 < 3;omega) λs a=>?_;refine fin s v' ?_;rw[<-f,tU];exact a.tail
 ·simp only[D,auF,i_f];rw[auB om] at f;refine fin w v ?_;rw[<-f];exact a
theorem zr (v n:Nat):bg v (n+1)=bg v n++[v / 2 ^ n % 2]:=by
 unfold bg;rw[azZ,avM];rfl
theorem alP {a:Nat}(h:a < 2 ^ 62):MW .i64 (a:Int) 1=((a % 2:Nat):Int):=by
 have b:(2:Nat) ^ 62=4611686018427387904:=rfl;unfold MW;show IntKind.wrap .i64 (((BitVec.ofInt 64 (a:Int) &&& BitVec.ofInt 64 ((1:Nat):Int)).toNat:Nat):Int)=_;rw[BitVec.ofInt_natCast,BitVec.ofInt_natCast,BitVec.toNat_and,BitVec.toNat_ofNat,BitVec.toNat_ofNat,awB om,awB om,Nat.and_one_is_mod];exact aA om om
theorem pV {x n:Nat}(a:bT S w0 w (Wr b way l v T))(g:bp l)(hw:way=0∨way=1)(q:n<=24)(y:x < 2 ^ n)(z:l.length<=10000000000)
  (k:∀way' v' W,(way'=0∨way'=1)->bT S w0 W (Wr b way' (l++bg x n) v' T)->K (ad 0) W):cR ah 263 #[af b 0,ad (x:Int),ad (n:Int)] w PK K:=by
 refine gK (Ec (k0:=wT λv W=>v=ad 0∧∃way' v',(way'=0∨way'=1)∧bT S w0 W (Wr b way' (l++bg x n) v' T)) ?_) (λe W ⟨v,he,h,way',v',c,a⟩=>by subst he;subst h;exact k way' v' W c a);unfold zR nz;have r:2 ^ n<=2 ^ 24:=awL dc q;have s:(2:Nat) ^ 24=16777216:=rfl;refine gK (Eu (k0:=wT λv W=>v=ad 0∧∃way' v',(way'=0∨way'=1)∧bT S w0 W (Wr b way' (l++bg x n) v' T)) ?_) (λe W ⟨v,he,h,way',v',c,a⟩=>by
  subst he;subst h;exact⟨_,rfl,rfl,way',v',c,a⟩)
 unfold Ac nz;rw[NQ];have d:IntKind.i64.wrap ((1:Int)*2 ^ min ((n:Nat):Int).toNat IntKind.i64.bits)=((2 ^ n:Nat):Int):=by
  rw[show min ((n:Nat):Int).toNat IntKind.i64.bits=n by show min ((n:Nat):Int).toNat 64=n;omega,Int.one_mul,show (2:Int) ^ n=((2 ^ n:Nat):Int) by push_cast;rfl];exact aA om om
 simp only[rs,show ai ((n:Int) < 0)=au from auD om,show ai ((24:Int) < (n:Int))=au from auD om,show ai ((x:Int) < 0)=au from auD om];rw[II om,d];simp only[rs,show ai (((2 ^ n:Nat):Int)<=(x:Int))=au from auD om]
 try rw[bQ]
 rw[JE];refine aK a (R:=λv=>v=.bool au) (Vv (a.at_ 0 rfl) hw) ?_;rintro _ w2 rfl a;simp only[rs];refine loop (λvs W=>∃(i:Nat) (v':aq),vs=[ad i]∧i<=n∧bT S w0 W (Wr b way (l++bg x i) v' T)) (λvs _=>n - n0 vs) ⟨0,v,rfl,om,by show bT S w0 w2 (Wr b way (l++[]) v T);rw[avA];exact a⟩ ?_;clear a;rintro vs t ⟨i,v',rfl,hi,a⟩ _;simp only[tN,gd,rs,nz];by_cases f:(i:Int) < (n:Int)
 ·simp only[f,auE,i_t];refine join λJ j=>?_;simp only[show ai ((1:Int)=2)=au from rfl,i_f,rs];refine j _ _ λ_=>?_;simp only[uZ,gd,nz];rw[Ix om,show min ((i:Nat):Int).toNat IntKind.i64.bits=i by show min ((i:Nat):Int).toNat 64=i;omega,VA,YR];have u:x / 2 ^ i<=x:=azS _ _;rw[alP om];refine anD a (bu g (eh _ _)) (axU _ dc) (by rw[auH,bt];omega) λv2 o a=>?_;rw[auN,<-zr] at a;simp only[rs];rw[aA om om];exact bC ⟨i+1,v2,rfl,om,a⟩ (by simp[n0,RowKit.intOf];omega)
 ·simp only[f,auF,i_f];have m:i=n:=om
  subst m;refine join λJ j=>?_;have fin:∀W way',(way'=0∨way'=1)->bT S w0 W (Wr b way' (l++bg x i) v' T)->J [] W:=by
   intro W way' c a;refine j _ _ λ_=>?_;simp only[tV,nz];exact vG ⟨rfl,way',v',c,a⟩
  by_cases p:(0:Int) < (i:Int)
  ·simp only[p,auE,i_t,rs,bQ];rw[JE,Ml];refine aO 0 a rfl krx rfl (by show 0 < 3;omega) λo a=>?_;exact fin o 1 (.inr rfl) a
  ·simp only[p,auF,i_f,rs];exact fin t way hw a
theorem TU (a:bT S w0 w (Wr b way l v T))
  (k:∀W,bT S w0 W (Wr b 0 (fy l) v T)->K (.tuple #[]) W):cR ah 264 #[af b 0] w PK K:=by
 refine gK (A6 (k0:=wT λu W=>u=.tuple #[]∧bT S w0 W (Wr b 0 (fy l) v T)) ?_) (λe W ⟨u,he,c,a⟩=>by subst he;subst c;exact k W a);unfold uN nz;rw[ahC,i_t];have d:∀{PK:PKT} {K:VWP},DoX ah (aV 302 #[]) w PK K=K (.agg #[ad 0,ad 0]) w:=aD krx;rw[d,bQ,JE];refine B9 0 a rfl (new:=[ad 0,ad 0]) szSd dc (by show 0+2<=3;omega) λw2 a=>?_;refine vG ⟨rfl,?_⟩;have e:wrC 0 (fy l).length v=[ad 0,ad 0,v]:=by
  unfold wrC;rw[ou,Nat.mul_mod_right];rfl
 unfold Wr wrE;rw[e,vq];exact a
theorem aad {k:Nat}(h:l.length=8*k)(s:List UInt8):bf (l++fx s)=bf l++s:=by
 have:=oo [] s;rw[avA] at this;rw[mq h,this];show _++(s++[])=_;rw[avA]
theorem anB {s:List UInt8}(a:bT S w0 w (Wr b way l v T))(d:l.length=8*j)(m:j<=1000000000)(n:s.length<=1000000000)
  (k:∀v' W,bT S w0 W (Wr b way (l++fx s) v' T)->K (.tuple #[]) W):cR ah 265 #[af b 0,ae s] w PK K:=by
 refine gK (Ep (k0:=wT λu W=>u=.tuple #[]∧∃v',bT S w0 W (Wr b way (l++fx s) v' T)) ?_) (λe W ⟨u,he,f,v',a⟩=>by subst he;subst f;exact k v' W a);unfold zX nz;rw[NQ,i_f];have g:(bf l).length=j:=by rw[lz];omega
 refine join λJ h=>?_;rw[bQ,JE,wO,wr_u a 0 rfl,show l.length % 8=0 by omega];simp only[rs,show ai ((0:Int) < ((0:Nat):Int))=au from rfl,i_f];refine h _ _ λ_=>?_;unfold uF nz;rw[bQ,Pk,wr_v a 0 rfl];refine Mx 1 avH auQ O5 awI z8U a rfl om λv' o a=>?_;have c:v'.oneCell'=true:=bX (a.at_ 1 rfl)
 try rw[bQ]
 rw[Pk];refine aO 0 a rfl krx c (by show 0+2 < 3;omega) λi a=>?_;refine vG ⟨rfl,v',?_⟩;unfold Wr wrE;rw[aad d,tU];have e:wrC way (l++fx s).length v'=[ad way,ad ((l.length % 8:Nat):Int),v']:=by
  unfold wrC;rw[auH,qw];congr 3;omega
 rw[e];exact a
theorem aoO {off n c:Nat}:DoX ah (mEq .eql 80 xo yo (bO b off n c) (.slice ax 0 0)) w PK K=K (.bool au) w:=aD krx
theorem atD (a:bT S w0 w L)(k:∀v w',bT S w0 w' (.urow 5 1 v 0 []::L)->K v w'):DoX ah (aM 80 0 #[]) w PK K:=
 bK (λb=>bO b 0 0 0) [] 5 (λ_=>by kernel_rfl) a λb c a=>k _ _ (a.toU 1 0 0 sm om om)
theorem Rc (a:bT S w0 w (Wr b way l v T))(h:0 < l.length)(i:l.length<=10000000000)
  (k:∀W,bT S w0 W T->K (ae (bf l)) W):cR ah 266 #[af b 0] w PK K:=by
 refine gK (CS (k0:=wT λu W=>u=ae (bf l)∧bT S w0 W T) ?_) (λe W ⟨u,he,c,a⟩=>by subst he;subst c;exact k W a);unfold wZ nz;have d:=xa l;obtain⟨g,cap,rfl⟩:=nX (a.at_ 1 rfl) (by rw[lz];omega);rw[NQ,i_f,bQ,Pk,wr_v a 0 rfl];refine gK (sN (k0:=wT λu W=>bT S w0 W (pP u (bf l)::T)) ?_) (λe W ⟨u,he,a⟩=>?_)
 ·unfold lG nz;rw[aoO,i_f];refine atD a λv0 j a=>?_;refine bZ 0 avH O5 dc a rfl (zP (a.at_ 2 rfl)) fW om om λv' f a=>?_;rw[auP,avU] at a;have a:bT S w0 f ([pP v' (bf l)]++([wrE b way l.length (bO g 0 (bf l).length cap),pP (bO g 0 (bf l).length cap) (bf l)]++T)):=a;exact vG a.front.tail.tail
 ·subst he;refine aD (OO avH awI auQ (zP (a.at_ 0 rfl))) |>.mpr ?_;exact vG ⟨rfl,a.tail⟩
end
def TbW (A:Nat->Prop)(w:ao)(b:Nat)(lens:List Nat):Prop:=∃a c o,A b∧(tbE b a c (cnt lens) (IW lens) o).is w∧SlA A w o 1 (bh lens 15).length (bF (bh lens 15))∧SlA A w a 1 lens.length (bF lens)∧SlA A w c 1 lens.length (bF (jb lens))
theorem Bo (lens:List Nat)(v:aq)(M:Mem)(w:ao)(m:∀l∈lens,l<=15)(g:lens.length<=100000)(P:0 < lens.length)(z:M.has w)(y:SlA M.A M.w v 1 lens.length (bF lens)) :
  jR ah 270 #[v] M w (λr N=>if bn lens≠0 then r=.tuple #[.pointer ax,ad (bn lens)] else ∃b,r=.tuple #[af b 0,ad 0]∧TbW N.A N.w b lens):=by
 refine bB z λK G=>FV ?_;unfold Hd nz;have a:bT M.A w w [.mem M]:=bT.memS z;refine bH a 0 rfl (Mv lens v M w m g z y) ?_;rintro _ N1 Q g1 ⟨cv,rfl,n,j⟩ a;simp only[ex,eC];by_cases o:bn lens=0
 case neg=>
  simp only[o,ne_eq,awJ,auE,i_t];exact G _ _ N1 _ 0 a rfl g1 (by rw[auC o])
 have j:=j o;simp only[o,ne_eq,not_true,auF,i_f];refine bH a 0 rfl (MN lens v N1 Q g P (a.hasM 0 rfl) (y.le g1)) λd e w2 g2 k a=>?_;refine aK a (R:=λr=>r=nsV (cnt lens)) (jR.told (yG lens v e w2 m g (a.hasM 0 rfl) (y.le (g1.trans g2)))) ?_;rintro _ w3 rfl a;rw[m_tb k.one n];refine alW k.one n a λb S a=>?_;rw[bQ,St,tb_n a 0 rfl];refine aK a (R:=λr=>r=nsV (IW lens)) (jR.told (Gz lens e S g (a.hasM 1 rfl))) ?_;rintro _ w5 rfl a;rw[bQ,X4];refine Xr 0 a rfl λT a=>?_;have p:=y.le (g1.trans g2);have a:bT M.A w T [.urow 3 1 cI 0 [],tbE b d cv (cnt lens) (IW lens) cI,.mem e]:=bT.nilU (L:=[tbE b d cv (cnt lens) (IW lens) cI,.mem e]) a _ _;refine loop (λvs W=>∃(l:Nat) (ov:aq),vs=[ad ((l+1:Nat):Int)]∧l<=15∧bT M.A w W [.urow 3 1 ov (bh lens l).length (bF (bh lens l)),tbE b d cv (cnt lens) (IW lens) ov,.mem e]) (λvs _=>16 - n0 vs) ⟨0,cI,rfl,om,a⟩ ?_;clear a;rintro vs U ⟨l,ov,rfl,q,a⟩ _;simp only[Bf,gd,rs,nz];by_cases s:((l+1:Nat):Int)<=15
 ·simp only[s,auE,i_t];rw[aZ avB (p.now (a.hasM 2 rfl))];have V:=qk lens l;have H:l*lens.length<=15*100000:=axG q g;refine loop (λvs W=>∃(i:Nat) (ov:aq),vs=[ad i]∧i<=lens.length∧bT M.A w W [.urow 3 1 ov (bh lens l++ct lens (l+1) i).length (bF (bh lens l++ct lens (l+1) i)),tbE b d cv (cnt lens) (IW lens) ov,.mem e]) (λvs _=>lens.length - n0 vs) ⟨0,ov,rfl,om,by
   rw[show ct lens (l+1) 0=[] from rfl,avA];exact a⟩ ?_
  clear a;rintro vs I ⟨i,ov,rfl,hi,a⟩ _;simp only[B5,gd,rs,nz];by_cases f:(i:Int) < (lens.length:Int)
  ·have t:i < lens.length:=om
   simp only[f,auE,i_t];refine join λJ X=>?_;obtain⟨b2,off,Y,Z⟩:=pO (p.now (a.hasM 2 rfl)) t;have B:lens.getD i 0=lens[i]:=by rw[auK,auO t];rfl
   refine aD (Y I) |>.mpr (aD (aB aU Z) |>.mpr ?_);have a1:=qj lens (l+1) i;have c:ct lens (l+1) (i+1)=ct lens (l+1) i++(if lens[i]=l+1 then [i] else []):=by
    unfold ct;rw[azZ,aA1]
    congr 1
    rw[<-B];by_cases h:lens.getD i 0=l+1
    ·rw[auC h];exact List.filter_cons_of_pos (auG h)
    ·rw[auB h];exact List.filter_cons_of_neg (by rw[auD h];decide)
   have fin:∀(W:ao) (ov:aq),bT M.A w W [.urow 3 1 ov (bh lens l++ct lens (l+1) (i+1)).length (bF (bh lens l++ct lens (l+1) (i+1))),tbE b d cv (cnt lens) (IW lens) ov,.mem e]->J [] W:=by
    intro W ov a;refine X _ _ λ_=>?_;simp only[Bk,gd,rs,nz];rw[aA om om];exact bC ⟨i+1,ov,rfl,om,a⟩ (by simp[n0,RowKit.intOf];omega)
   simp only[rs];by_cases he:lens[i]=l+1
   ·rw[auC he] at c;simp only[show ai (((lens[i]:Nat):Int)=((l+1:Nat):Int))=aw from auG om,i_t,rs,bQ];rw[P8,T7 a 1 rfl];refine xR (i:Int) a λb3 w9 a=>?_;refine sR 1 a rfl (a.sl 0 rfl 1 1 1 rfl) wQ (by rw[auH];omega) λv' a6 a=>?_
    try simp only[rs,bQ]
    rw[P8];refine XU 2 (bX (a.at_ 1 rfl)) a rfl λC a=>?_;refine fin C v' ?_;have e1:bF (bh lens l++ct lens (l+1) (i+1))=bF (bh lens l++ct lens (l+1) i)++Qz [(i:Int)]:=by
     rw[c,<-auN,pA];rfl
    have e2:(bh lens l++ct lens (l+1) (i+1)).length=(bh lens l++ct lens (l+1) i).length+1:=by
     rw[c,<-auN,auH];rfl
    rw[e1,e2];exact a.tail
   ·rw[auB he,avA] at c;simp only[show ai (((lens[i]:Nat):Int)=((l+1:Nat):Int))=au from auD om,i_f];refine fin I ov ?_;rw[c];exact a
  ·simp only[f,auF,i_f];have D:i=lens.length:=om
   subst D;rw[aA om om];exact bC ⟨l+1,ov,rfl,om,a⟩ (by simp[n0,RowKit.intOf];omega)
 ·have g:l=15:=om
  subst g;simp only[s,auF,i_f];obtain⟨O,g3,u,a⟩:=bT.bG (L:=[tbE b d cv (cnt lens) (IW lens) ov,.mem e]) a 1 rfl;have a:bT M.A w U [tbE b d cv (cnt lens) (IW lens) ov,.mem O]:=a;have E:=a.at_ 0 rfl;obtain⟨N4,g4,F,x,a⟩:=bT.freeze (L:=[.mem O]) a 0 rfl;refine G _ _ N4 _ 0 a rfl (g1.trans (g2.trans (g3.trans g4))) ?_;rw[auB (by simp[o])];exact⟨b,rfl,d,cv,ov,x b rfl,by rw[F];exact E,u.le g4,k.le (g3.trans g4),j.le (g2.trans (g3.trans g4))⟩
theorem aae {v n k:Nat}(h:k < n):(iz v n).take (k+1)=(iz v n).take k++[v / 2 ^ (n - 1 - k) % 2]:=by
 rw[avL (by rw[uo];exact h)]
 congr 2
 simp[iz]
section
variable {w:ao}{PK:PKT}{K:VWP}{S:Nat->Prop}{w0:ao}{L T:List Ent}
theorem EC {lens:List Nat}(a:bT S w0 w (Wr b way l v T))(hm:T[jm]?=ay (.mem M))(V:TbW M.A M.w tb lens)(X:bn lens=0)(m:∀l∈lens,l<=15)(hi:0 < lens.getD i 0)
  (x:bp l) (hw:way=0∨way=1) (hl:l.length<=1000000000) (k:∀way' v' W,(way'=0∨way'=1)->bT S w0 W (Wr b way' (l++dp lens i) v' T)->K (ad 0) W) :
  cR ah 277 #[af tb 0,af b 0,ad (i:Int)] w PK K:=by
 refine gK (Ck (k0:=wT λv W=>v=ad 0∧∃way' v',(way'=0∨way'=1)∧bT S w0 W (Wr b way' (l++dp lens i) v' T)) ?_) (λe W ⟨v,he,Y,way',v',y,a⟩=>by subst he;subst Y;exact k way' v' W y a);unfold tO nz;obtain⟨z,B,I,J,o,L,g,C⟩:=V;have c:i < lens.length:=by
  rcases avI i lens.length with h|h
  ·exact h
  ·rw[auK,awV h] at hi;exact absurd hi (azH _)
 have j:lens.getD i 0=lens[i]:=by rw[auK,auO c];rfl
 have p:lens[i]<=15:=m _ (auS c);have D:=uy (uu (uv X)) m hi;rw[j] at hi D;have N:2 ^ lens[i]<=2 ^ 15:=awL dc p;have Z:(2:Nat) ^ 15=32768:=rfl;have d:∀{W:ao} {way:Int} {l:List Nat} {v:aq},bT S w0 W (Wr b way l v T)->M.has W:=λa=>a.hasM (jm+2) (by rw[avR,avR];exact hm);have hlen:=g.1.1;have q:∀{W:ao},M.has W->(aH 70 (af tb 0)).run ah W=.ok (.value z) W:=λE=>aB HP (aI (T:=322) (cs:=tbC z B (cnt lens) (IW lens) I) (aaD J o E) (i:=0) rfl);have F:∀{W:ao},M.has W->(aH 70 (af tb (0+1))).run ah W=.ok (.value B) W:=λE=>aB HP (aI (T:=322) (cs:=tbC z B (cnt lens) (IW lens) I) (aaD J o E) (i:=1) rfl);rw[VU];simp only[rs];rw[NQ];simp only[rs,show ai ((i:Int) < 0)=au from auD om,bQ];rw[aW aeG];refine aD (q (d a)) |>.mpr ?_;rw[aZ avB (g.now (d a))];simp only[rs,show ai ((lens.length:Int)<=(i:Int))=au from auD om,bQ];rw[aW aeG];refine aD (q (d a)) |>.mpr ?_;obtain⟨b2,off,O,P⟩:=pO (g.now (d a)) c;refine aD (O w) |>.mpr (aD (aB aU P) |>.mpr ?_);simp only[rs,show ai (((lens[i]:Nat):Int)=0)=au from auD om,i_f];rw[aA om om];have r:dp lens i=iz (cr lens i) lens[i]:=by unfold dp;rw[j]
 refine loop (λvs W=>∃(k:Nat) (way':Int) (v':aq),vs=[ad ((lens[i]:Int) - 1 - k)]∧k<=lens[i]∧(way'=0∨way'=1)∧bT S w0 W (Wr b way' (l++(dp lens i).take k) v' T)) (λvs _=>((RowKit.intOf (vs.getD 0 undef))+1).toNat) ⟨0,way,v,sm,om,hw,by rw[axY,avA];exact a⟩ ?_;clear a hw O P;rintro vs w4 ⟨k,way',v',rfl,hk,hw,a⟩ _;simp only[qB,gd,rs,nz];by_cases s:(0:Int)<=(lens[i]:Int) - 1 - k
 ·simp only[s,auE,i_t,bQ];rw[aW alE];refine aD (F (d a)) |>.mpr ?_;have f:=C.now (d a);rw[show lens.length=(jb lens).length by rw[jh]] at f;obtain⟨b3,Q,r3,R⟩:=pO f (i:=i) (by rw[jh];exact c);have G:(jb lens)[i]'(by rw[jh];exact c)=cr lens i:=by
   have:=th c;rw[auO (by rw[jh];exact c)] at this;exact axN this
  rw[G] at R;refine aD (r3 w4) |>.mpr (aD (aB aU R) |>.mpr ?_);have t:(lens[i]:Int) - 1 - k=((lens[i] - 1 - k:Nat):Int):=om
  rw[Ix om,t,show min ((lens[i] - 1 - k:Nat):Int).toNat IntKind.i64.bits=lens[i] - 1 - k by show min ((lens[i] - 1 - k:Nat):Int).toNat 64=_;omega,VA,YR];have a1:cr lens i / 2 ^ (lens[i] - 1 - k)<=cr lens i:=azS _ _;rw[alP om];have U:cr lens i / 2 ^ (lens[i] - 1 - k) % 2 < 2:=axU _ dc;refine pV (n:=1) a (bu x (λb hb=>lr _ _ b (awN hb))) hw om om (by rw[auH,auM];omega) λu v2 w5 H a=>?_;have e1:bg (cr lens i / 2 ^ (lens[i] - 1 - k) % 2) 1=[cr lens i / 2 ^ (lens[i] - 1 - k) % 2]:=by
   show [cr lens i / 2 ^ (lens[i] - 1 - k) % 2 / 2 ^ 0 % 2]=_;rw[Nat.pow_zero,Nat.div_one,Nat.mod_mod]
  rw[e1,auN,r,<-aae om,<-r] at a;simp only[rs,show ai ((0:Int)≠0)=au from rfl,i_f];rw[aA om om];exact bC ⟨k+1,u,v2,by congr 2<;>omega,om,H,a⟩ (by simp[RowKit.intOf]<;>omega)
 ·simp only[s,auF,i_f];have t:k=lens[i]:=om
  rw[avE (by rw[fo,j];omega)] at a;exact vG ⟨rfl,way',v',hw,a⟩
end
end
section
open Eng
def wY(t0 t1 t2 t3 t9 w)(N1:JT)(K:KT):=nz f292 19 [N1] [nh 5 [9]] [(2,16)] (zg [0,1,2,3,9] [t0,t1,t2,t3,t9]) w K
def A5(t0 t1 t2 t3 w)(K:KT):=nz f292 1 [] [(5,[9],λs v j w f=>wY (s 0) (s 1) (s 2) (s 3) (vg v 0) w (f 0) K)] [] (zg [0,1,2,3] [t0,t1,t2,t3]) w K
theorem F6:A5 t0 t1 t2 t3 w k0->Calls ah 292 #[t0,t1,t2,t3] w k0:=cz [] [(2,[9])] func292
def oN(d c e a w)(N1:JT)(K:KT):=
 bnx .lss 3 a e w K λb w=>etx b a w λf w=>gtx b (iQ .add 3 f (iN 3)) w K λg w=>etx b c w λh w=>gtx b (mB .len #[9] 3 #[au] #[h]) w K λi w=>gtx b (iQ .leq 3 g i) w K λj w=>dx (iB b j (.bool au)) w K λk w=>IfX k (Ay w (λS2 w=>HDo ah (λ_=>True) (iQ .add 3 a (iN 3)) λl=>HDo ah (λ_=>True) (fJ 9 c (ay a) (ay l) ax) λm=>HDo ah (λ_=>True) (iQ .add 3 a (iN 3)) λn=>HDo ah (λ_=>True) (fJ 9 c (ay a) (ay n) ax) λo=>HDo ah S2 (XY 276 d o au) λp=>DoX ah (aM 70 1 #[(0,a)]) w (az 14 (pk K)) λq w=>S2 w∧(DoX ah (mB .append #[70,70] 70 #[au,au] #[p,q]) w (az 14 (pk K)) λr w=>(DoX ah (Xa 276 d m r) w (az 14 (pk K)) λ_ w=>(bnx .add 3 a (iN 1) w K λs w=>N1 [s] w))))) (K (.returned (.tuple #[])) w)
def rZ(t0 t1 t2 t3 w)(K:KT):=nz f268 1 [] [(3,[8],λs v j w f=>oN (s 0) (s 1) (s 3) (vg v 0) w (f 0) K)] [] (zg [0,1,2,3] [t0,t1,t2,t3]) w K
theorem AG:rZ t0 t1 t2 t3 w k0->Calls ah 268 #[t0,t1,t2,t3] w k0:=cz [] [(1,[8])] func268
def kR(t10 w)(N1:JT)(K:KT):=nz f267 1887 [N1] [nh 15 [10]] [] (zg [10] [t10]) w K
def gC(t1 t2 t6 t7 t8 t9 t10 w)(N1:JT)(K:KT):=nz f267 351 [N1] [nh 15 [10],(16,[],λs v j w f=>kR (s 10) w (f 0) K)] [] (zg [1,2,6,7,8,9,10] [t1,t2,t6,t7,t8,t9,t10]) w K
def mT(t0 t1 t2 w)(K:KT):=nz f267 1 [] [(15,[10],λs v j w f=>gC (s 1) (s 2) (s 6) (s 7) (s 8) (s 9) (vg v 0) w (f 0) K)] [] (zg [0,1,2] [t0,t1,t2]) w K
theorem vI:mT t0 t1 t2 w k0->Calls ah 267 #[t0,t1,t2] w k0:=cz [(8,[])] [(7,[10])] func267
def wW(t0 t3 t4 t5 t6 t7 w)(N1:JT)(K:KT):=nz f242 4015 [N1] [nh 13 [3,5]] [] (zg [0,3,4,5,6,7] [t0,t3,t4,t5,t6,t7]) w K
def vV(t0 t3 t4 t5 w)(N1:JT)(K:KT):=nz f242 175 [N1] [nh 13 [3,5],(22,[],λs v j w f=>wW (s 0) (s 3) (s 4) (s 5) (s 6) (s 7) w (f 0) K)] [] (zg [0,3,4,5] [t0,t3,t4,t5]) w K
def BS(t0 w)(K:KT):=nz f242 1 [] [(13,[3,5],λs v j w f=>vV (s 0) (vg v 0) (s 4) (vg v 1) w (f 0) K)] [] (zg [0] [t0]) w K
theorem FM:BS t0 w k0->Calls ah 242 #[t0] w k0:=cz [(11,[])] [(6,[3,5])] func242
def zI(t0 t2 t6 t8 w)(N1:JT)(K:KT):=nz f316 87 [N1] [nh 11 [0,6,8]] [(8,14)] (zg [0,2,6,8] [t0,t2,t6,t8]) w K
def Dy(t0 t1 t2 w)(K:KT):=nz f316 1 [] [(11,[0,6,8],λs v j w f=>zI (vg v 0) (s 2) (vg v 1) (vg v 2) w (f 0) K)] [] (zg [0,1,2] [t0,t1,t2]) w K
theorem Hc:Dy t0 t1 t2 w k0->Calls ah 316 #[t0,t1,t2] w k0:=cz [] [(5,[0,6,8])] func316
def Dr(t0 w)(K:KT):=nz f298 1 [] [] [] (zg [0] [t0]) w K
theorem GV:Dr t0 w k0->Calls ah 298 #[t0] w k0:=cw func298
def DF(t0 w)(K:KT):=nz f299 1 [] [] [] (zg [0] [t0]) w K
theorem GN:DF t0 w k0->Calls ah 299 #[t0] w k0:=cw func299
def uO(t0 t3 t4 t5 w)(N1:JT)(K:KT):=nz f241 123 [N1] [nh 5 [0]] [] (zg [0,3,4,5] [t0,t3,t4,t5]) w K
def uS(t0 t3 w)(N1:JT)(K:KT):=nz f241 11 [N1] [nh 5 [0],(12,[5],λs v j w f=>uO (s 0) (s 3) (s 4) (vg v 0) w (f 0) K)] [] (zg [0,3] [t0,t3]) w K
def yX(t0 w)(K:KT):=nz f241 1 [] [(5,[0],λs v j w f=>uS (vg v 0) (s 3) w (f 0) K)] [] (zg [0] [t0]) w K
theorem Ed:yX t0 w k0->Calls ah 241 #[t0] w k0:=cz [(6,[5])] [(2,[0])] func241
def mU(t14 w)(N1:JT)(K:KT):=nz f271 245 [N1] [nh 5 [14]] [] (zg [14] [t14]) w K
def mN(t1 t3 t12 t13 t14 w)(N1:JT)(K:KT):=nz f271 21 [N1] [nh 5 [14],(24,[],λs v j w f=>mU (s 14) w (f 0) K)] [] (zg [1,3,12,13,14] [t1,t3,t12,t13,t14]) w K
def qD(t0 t1 t2 w)(K:KT):=nz f271 1 [] [(5,[14],λs v j w f=>mN (s 1) (s 3) (s 12) (s 13) (vg v 0) w (f 0) K)] [] (zg [0,1,2] [t0,t1,t2]) w K
theorem yP:qD t0 t1 t2 w k0->Calls ah 271 #[t0,t1,t2] w k0:=cz [(12,[])] [(2,[14])] func271
def Ch(t0 w)(K:KT):=nz f243 1 [] [] [] (zg [0] [t0]) w K
theorem E4:Ch t0 w k0->Calls ah 243 #[t0] w k0:=cw func243
def sD(t20 w)(N1:JT)(K:KT):=nz f272 983 [N1] [nh 9 [20]] [] (zg [20] [t20]) w K
def rT(t2 t3 t18 t19 t20 w)(N1:JT)(K:KT):=nz f272 87 [N1] [nh 9 [20],(24,[],λs v j w f=>sD (s 20) w (f 0) K)] [] (zg [2,3,18,19,20] [t2,t3,t18,t19,t20]) w K
def fH(a b c w)(K:KT):=
 iax 70 b (iN 256) w K λd w=>stx 3 d (iN 1) w K λ_ w=>lnx 254 a w K λe w=>Es [(iN 0)] w (λf w N1=>∀_:Sg,rT b c a e (f.getD 0 undef) w N1 K)
def wU(a w)(K:KT):=
 DrawX w (λw=>(dx (Ld 70 (iN 286) (iN 286)) w K λb w=>(dx (Ld 70 (iN 30) (iN 30)) w K λc w=>fH a b c w K)∧(dx (Ld 70 (iN 30) (iN 30)) w K λd w=>fH a b d w K))∧(dx (Ld 70 (iN 30) (iN 30)) w K λe w=>dx (Ld 70 (iN 286) (iN 286)) w K λf w=>fH a f e w K))
theorem CV:wU t0 w k0->Calls ah 272 #[t0] w k0:=cz [(12,[])] [(4,[20])] func272
def Bi(t0 t1 t5 w)(N1:JT)(K:KT):=nz f274 19 [N1] [nh 5 [5]] [] (zg [0,1,5] [t0,t1,t5]) w K
def FL(t0 t1 w)(K:KT):=nz f274 1 [] [(5,[5],λs v j w f=>Bi (s 0) (s 1) (vg v 0) w (f 0) K)] [] (zg [0,1] [t0,t1]) w K
theorem Ip:FL t0 t1 w k0->Calls ah 274 #[t0,t1] w k0:=cz [] [(2,[5])] func274
def fD(t3 t4 t5 w)(N1:JT)(K:KT):=nz f275 1003 [N1] [nh 7 [3,4]] [] (zg [3,4,5] [t3,t4,t5]) w K
def xJ(t0 t3 t4 t5 w)(N1 a:JT)(K:KT):=nz f275 619 [N1,a] [nh 7 [3,4],nh 11 [5],(34,[3,5],λs v j w f=>fD (vg v 0) (s 4) (vg v 1) w (f 0) K)] [(5,19)] (zg [0,3,4,5] [t0,t3,t4,t5]) w K
def wA(t0 t3 t4 w)(N1:JT)(K:KT):=nz f275 43 [N1] [nh 7 [3,4],(11,[5],λs v j w f=>xJ (s 0) (s 3) (s 4) (vg v 0) w (f 1) (f 0) K)] [] (zg [0,3,4] [t0,t3,t4]) w K
def BD(t0 w)(K:KT):=nz f275 1 [] [(7,[3,4],λs v j w f=>wA (s 0) (vg v 0) (vg v 1) w (f 0) K)] [] (zg [0] [t0]) w K
theorem Fo:BD t0 w k0->Calls ah 275 #[t0] w k0:=cz [(17,[3,5])] [(3,[3,4]),(5,[5])] func275
def zD(w)(K:KT):=nz f276 1 [] [] [] (zg [] []) w K
theorem Ey:zD w k0->Calls ah 276 #[] w k0:=cw func276
def Bg(t0 t9 t16 t21 t132 t133 t134 w)(a:JT)(K:KT):=nz f244 92274687 [a] [nh 73 [134]] [] (zg [0,9,16,21,132,133,134] [t0,t9,t16,t21,t132,t133,t134]) w K
def rH(t0 t9 t10 t16 t21 t122 t123 t124 w)(a:JT)(K:KT):=nz f244 46137343 [a] [nh 63 [124],(73,[134],λs v j w f=>Bg (s 0) (s 9) (s 16) (s 21) (s 132) (s 133) (vg v 0) w (f 0) K)] [] (zg [0,9,10,16,21,122,123,124] [t0,t9,t10,t16,t21,t122,t123,t124]) w K
def BC(t0 t5 t7 t9 t10 t14 t16 t18 t88 t89 w)(a:JT)(K:KT):=nz f244 180223 [a] [nh 39 [18,89],(63,[124],λs v j w f=>rH (s 0) (s 9) (s 10) (s 16) (s 21) (s 122) (s 123) (vg v 0) w (f 0) K)] [] (zg [0,5,7,9,10,14,16,18,88,89] [t0,t5,t7,t9,t10,t14,t16,t18,t88,t89]) w K
def Bn(t0 t5 t7 t9 t10 t11 t64 t65 t66 w)(N1:JT)(K:KT):=nz f244 11263 [N1] [nh 23 [66],(39,[18,89],λs v j w f=>BC (s 0) (s 5) (s 7) (s 9) (s 10) (s 14) (s 16) (vg v 0) (s 88) (vg v 1) w (f 0) K)] [] (zg [0,5,7,9,10,11,64,65,66] [t0,t5,t7,t9,t10,t11,t64,t65,t66]) w K
def E3(t0 w)(K:KT):=nz f244 1 [] [(23,[66],λs v j w f=>Bn (s 0) (s 5) (s 7) (s 9) (s 10) (s 11) (s 64) (s 65) (vg v 0) w (f 0) K)] [] (zg [0] [t0]) w K
theorem Is:E3 t0 w k0->Calls ah 244 #[t0] w k0:=cz [] [(11,[66]),(19,[18,89]),(31,[124]),(36,[134])] func244
def BX(t6 w)(K:KT):=nz f217 255 [] [] [] (zg [6] [t6]) w K
def B4(t1 t6 t7 w)(K:KT):=nz f217 127 [] [(32,[6],λs v j w f=>BX (vg v 0) w K)] [] (zg [1,6,7] [t1,t6,t7]) w K
def EX(t0 t1 w)(K:KT):=nz f217 1 [] [(24,[6],λs v j w f=>B4 (s 1) (vg v 0) (s 7) w K)] [] (zg [0,1] [t0,t1]) w K
theorem IP:EX t0 t1 w k0->Calls ah 217 #[t0,t1] w k0:=cz [(12,[6]),(16,[6])] [] func217
end
section
open Eng Go.RowKit
def ptC (x:bo):List Value:=[.int .u8 (x.1.toNat:Int),ad (x.2.1:Int),ad (x.2.2:Int)]
def ptV (x:bo):Value:=.agg (ptC x).toArray
abbrev ptE (b:Nat)(x:bo):Ent:=.cells b (ptC x) 278
theorem ahU (x:bo):(ptC x).length=3:=rfl
theorem X2 {x:bo}:∀u∈ptC x,u.oneCell'=true:=by
 intro u hu;simp only[ptC,auI,avP,or_false] at hu;rcases hu with rfl|rfl|rfl<;>rfl
theorem aiX:FU ah 278=ay 3:=krx
theorem szPt:(Tryz.prog.info? 278).map (·.size)=ay 3:=krx
theorem Xu:nN ah 278 0=ay 0:=krx
theorem HY:nN ah 278 1=ay 1:=krx
theorem adD:nN ah 278 2=ay 2:=krx
theorem ptAt {l:List bo}(a:SlA M.A M.w v 3 l.length (l.flatMap ptC))(hi:i < l.length) :
  ∃p,(∀W,(mIA 254 v (ad (i:Int))).run ah W=.ok (.value (.pointer (ay p))) W)∧∀W,M.has W->(aH 278 (.pointer (ay p))).run ah W=.ok (.value (ptV l[i])) W:=by
 obtain⟨b,off,cap,rfl,_⟩:=bR a.1 om;refine⟨⟨b,off+i*3,ax⟩,λW=>?_,λW e=>?_⟩
 ·have:=cZ (P:=ah) (T:=254) (b:=b) (off:=off) (cap:=cap) (n:=l.length) (k:=.i64) (i:=(i:Int)) (w:=W) aBa szPt om om;rw[auJ] at this;exact this
 ·obtain⟨h,c,d,he,f⟩:=bR (a.now e) om;cases he;refine aY (AtV.agg aiX (cs:=ptC l[i]) rfl λj u g=>?_);rw[awU];exact f _ _ (Eng.nO ahU hi g)
theorem ZH {n k:Nat}(b:k<=30)(d:n<=1000000000):MW .i64 (n:Int) ((2 ^ k - 1:Nat):Int)=((n % 2 ^ k:Nat):Int):=by
 have hp:2 ^ k<=2 ^ 30:=awL dc b;have c:(2:Nat) ^ 30=1073741824:=rfl;have hm:n % 2 ^ k<=n:=Nat.mod_le _ _;unfold MW;show IntKind.wrap .i64 (((BitVec.ofInt 64 (n:Int) &&& BitVec.ofInt 64 ((2 ^ k - 1:Nat):Int)).toNat:Nat):Int)=_;rw[BitVec.ofInt_natCast,BitVec.ofInt_natCast,BitVec.toNat_and,BitVec.toNat_ofNat,BitVec.toNat_ofNat,awB om,awB (a:=2 ^ k - 1) om,Nat.and_two_pow_sub_one_eq_mod];exact aA om om
theorem Zv {a k:Nat}(b:k<=40)(h:a*2 ^ k<=4611686018427387904):IntKind.i64.wrap ((a:Int)*2 ^ min ((k:Nat):Int).toNat IntKind.i64.bits)=((a*2 ^ k:Nat):Int):=by
 rw[show min ((k:Nat):Int).toNat IntKind.i64.bits=k by show min ((k:Nat):Int).toNat 64=k;omega,show (a:Int)*2 ^ k=((a*2 ^ k:Nat):Int) by push_cast;rfl];exact aA om om
def sdT (r:Nat×Nat×Nat):Value:=.tuple #[ad (r.1:Int),ad (r.2.1:Int),ad (r.2.2:Int)]
theorem Tq (n b group:Nat)(w:ao)(F:n<=40000)(G:b<=8)(t:1<=group∧group<=4):Ret ah 316 #[ad (n:Int),ad (b:Int),ad (group:Int)] w (λv w'=>v=sdT (jt n b group)∧Below w.heap.size w w'):=by
 refine aX λK o=>Hc ?_;unfold Dy nz;generalize e:jt n b group=R at o;unfold jt at e;simp only[rs];by_cases h:(n:Int) < (b:Int)
 ·simp only[h,auE,i_t];rw[auC om] at e;subst e;exact o _ _ ⟨rfl,(Own.start w).done⟩
 simp only[h,auF,i_f];rw[auB om] at e;rw[aA om om];have u:(2:Nat) ^ (1+20)=2097152:=rfl;refine loop (λvs W=>∃(m d bits f:Nat),vs=[ad (m:Int),ad (d:Int),ad (bits:Int)]∧m<=40000∧bits+f=21∧d<=8+4*bits∧m < group*2 ^ (bits+f)∧lu group f m d bits=R∧Own w W []) (λvs _=>n0 vs) ⟨n - b,b,1,20,by congr 2;omega,om,rfl,om,om,e,Own.start w⟩ ?_;rintro vs H ⟨m,d,bits,f,rfl,hm,A,B,p,c,l⟩ _;simp only[zI,gd,nz];have C:2 ^ bits<=2 ^ 21:=awL dc om;have D:(2:Nat) ^ 21=2097152:=rfl;have r:=aAR bits;have E:group*2 ^ bits<=4*2097152:=axG t.2 om;have x:1*1<=group*2 ^ bits:=axG t.1 r;rw[II om,Zv om om];simp only[rs];by_cases y:((group*2 ^ bits:Nat):Int)<=(m:Int)
 ·simp only[y,auE,i_t];obtain⟨f,rfl⟩:∃g,f=g+1:=⟨f - 1,by
   rcases awQ f with z|z
   ·subst z;rw[awF] at p;omega
   ·omega⟩
  unfold lu at c;rw[auC om] at c;rw[II om,Zv om om];simp only[rs];rw[aA om om,aA om om,aA om om];rw[show (m:Int) - ((group*2 ^ bits:Nat):Int)=((m - group*2 ^ bits:Nat):Int) by omega];refine bC ⟨m - group*2 ^ bits,d+group,bits+1,f,rfl,om,om,om,?_,c,l⟩ (by show ((m - group*2 ^ bits:Nat):Int).toNat < ((m:Nat):Int).toNat;omega);rw[show bits+1+f=bits+(f+1) by omega];omega
 ·simp only[y,auF,i_f];have i:(d+m / 2 ^ bits,m % 2 ^ bits,bits)=R:=by
   cases f with
  |zero=>exact c
  |succ f=>
    unfold lu at c;rw[auB om] at c;exact c
  have s:m / 2 ^ bits<=m:=azS _ _;have j:=Zv (a:=1) (k:=bits) om om;refine cY (λW=>Own w W []) l.drew ?_;refine dY _ (λ_=>ajJ om) ?_;rw[show min ((bits:Nat):Int).toNat IntKind.i64.bits=bits by show min ((bits:Nat):Int).toNat 64=bits;omega,VA];generalize m / 2 ^ bits=q at s i ⊢;refine sW ?_;rw[aA om om];refine dY _ (λ_=>ahE om) ?_;rw[show ((1:Int))=((1:Nat):Int) from rfl,j,aAb];refine dY _ (λ_=>sZ) ?_;rw[aA om om,show ((2 ^ bits:Nat):Int) - ((1:Nat):Int)=((2 ^ bits - 1:Nat):Int) by omega];refine dY _ (λ_=>afJ) ?_;rw[ZH om om];intro W l;refine o _ _ ⟨?_,l.done⟩;rw[<-i];rfl
theorem Qt (n:Nat)(w:ao)(c:3<=n)(h:n<=258):Ret ah 298 #[ad (n:Int)] w (λv w'=>v=.tuple #[ad ((bz n).1:Int),ad ((bz n).2.1:Int),ad ((bz n).2.2:Int),ad 0]∧Below w.heap.size w w'):=by
 refine aX λK a=>GV ?_;unfold Dr nz;obtain⟨s1,s2,_⟩:=mn c h;unfold bz at a s1 s2;simp only[rs,show ai ((n:Int) < 3)=au from auD om,show ai ((258:Int) < (n:Int))=au from auD om,i_f];by_cases b:(n:Int)=258
 ·simp only[b,auE,i_t];rw[auC om] at a;exact a _ _ ⟨rfl,(Own.start w).done⟩
 ·simp only[b,auF,i_f];rw[auB om] at a s1 s2;rw[aA om om,show (n:Int) - 3=((n - 3:Nat):Int) by omega];refine aK (Own.start w) (R:=λv=>v=sdT (jt (n - 3) 8 4)) (Tq (n - 3) 8 4 w om om om) ?_;rintro _ w2 rfl d;unfold sdT;simp only[ex,rs];rw[aA om om];exact a _ _ ⟨sm,d.done⟩
theorem PY (n:Nat)(w:ao)(c:1<=n)(h:n<=32768):Ret ah 299 #[ad (n:Int)] w (λv w'=>v=.tuple #[ad ((dr n).1:Int),ad ((dr n).2.1:Int),ad ((dr n).2.2:Int),ad 0]∧Below w.heap.size w w'):=by
 refine aX λK a=>GN ?_;unfold DF nz;simp only[rs,show ai ((n:Int) < 1)=au from auD om,show ai ((32768:Int) < (n:Int))=au from auD om,i_f];rw[aA om om,show (n:Int) - 1=((n - 1:Nat):Int) by omega];refine aK (Own.start w) (R:=λv=>v=sdT (jt (n - 1) 4 2)) (Tq (n - 1) 4 2 w om om om) ?_;rintro _ w2 rfl b;unfold sdT;simp only[ex,rs];exact a _ _ ⟨rfl,b.done⟩
theorem zt (last n:Nat)(l:List Nat)(s:List UInt8){k:Nat}(a:l.length=8*k):fy (l++bg last 1++bg 0 2)++bg n 16++bg (65535 - n) 16++fx s=l++kj last n s:=by
 unfold kj fy;rw[show (8 - (l++bg last 1++bg 0 2).length % 8) % 8=5 by simp only[auH,bt];omega];simp only[auN]
theorem Li {T2:TypeId}{k:IntKind}{b:Int}:DoX ah (mB .min #[T1,T2] U cb #[.int k a,.int k' b]) w PK K=K (.int k (min a b)) w:=aD (by
 have e:(if b < a then b else a)=min a b:=by split<;>omega
 simp[mB,builtin,Builtin.min_,Builtin.min2,e])
section
variable {w:ao}{PK:PKT}{K:VWP}{S:Nat->Prop}{w0:ao}{L T:List Ent}
theorem Xn {s:List UInt8}(a:bT S w0 w T)(hs:s.length<=1048576)(k:∀W,bT S w0 W T->K (ae (bf (gm s))) W):cR ah 241 #[ae s] w PK K:=by
 refine gK (Ed (k0:=wT λu W=>u=ae (bf (gm s))∧bT S w0 W T) ?_) (λe W ⟨u,he,hv,a⟩=>by subst he;subst hv;exact k W a);unfold yX nz;refine V2 a λb w1 a=>?_;unfold gm;generalize hf:s.length / 65535+1=f;have F:s.length < f*65535:=om
 have G:f<=20:=om
 generalize hR:ix f s=R;refine loop (λvs W=>∃(t:List UInt8) (l:List Nat) (j g:Nat) (way:Int) (v:aq),vs=[ae t]∧t.length<=1048576∧t.length < g*65535∧g<=20∧l.length=8*j∧j+t.length+5*g<=1048776∧bp l∧l++ix g t=R∧(way=0∨way=1)∧bT S w0 W (Wr b way l v T)) (λvs _=>BW (vs.getD 0 undef)) ⟨s,[],0,f,0,cI,rfl,hs,F,G,rfl,om,(λb hb=>by cases hb),by rw[<-hR];rfl,.inl rfl,a⟩ ?_;clear a;rintro vs w2 ⟨t,l,j,g,way,v,rfl,ht,a8,hg,H,b0,r,i,hw,a⟩ _;simp only[uS,gd,nz];rw[iU auQ,Li];obtain⟨g,rfl⟩:∃q,g=q+1:=⟨g - 1,om⟩;unfold ix at i;have hn:min (t.length:Int) 65535=((min t.length 65535:Nat):Int):=om
 rw[hn];refine join λJ hJ=>?_;rw[iU auQ];simp only[rs];have go:∀last:Nat,last < 2->(last=1↔t.length<=65535)->J [ad (last:Int)] w2:=by
  intro last I m;refine hJ _ _ λ_=>?_;simp only[uO,gd,nz];generalize b1:min t.length 65535=n;have X:n<=65535:=om
  have b2:n<=t.length:=om
  have b3:l.length<=10000000:=om
  refine pV (n:=1) a r hw om om om λY v1 w3 L a=>?_;have o:=bu r (eh last 1);refine pV (x:=0) (n:=2) a o L om dc (by rw[auH,bt];omega) λZ v2 w4 b4 a=>?_;have A:=bu o (eh 0 2);refine TU a λw5 a=>?_;have c:=sf A;have M:(fy (l++bg last 1++bg 0 2)).length=8*(j+1):=by
   rw[ou];simp only[auH,bt];omega
  generalize B:fy (l++bg last 1++bg 0 2)=N at a c M;refine pV (x:=n) (n:=16) a c (.inl rfl) om om om λa1 v4 w6 O a=>?_;have p:=bu c (eh n 16);simp only[rs];rw[aA om om,show (65535:Int) - (n:Int)=((65535 - n:Nat):Int) by omega];refine pV (x:=65535 - n) (n:=16) a p O om om (by rw[auH,bt];omega) λa6 v5 w7 b5 a=>?_;have a7:=bu p (eh (65535 - n) 16);have C:(N++bg n 16++bg (65535 - n) 16).length=8*(j+5):=by
   simp only[auH,bt];omega
  have P:fy (N++bg n 16++bg (65535 - n) 16)=N++bg n 16++bg (65535 - n) 16:=by
   unfold fy;rw[C,show (8 - 8*(j+5) % 8) % 8=0 by omega];exact avA _
  refine TU a λw8 a=>?_;rw[P] at a;rw[aoH auQ om om,auJ];have D:(t.take n).length=n:=by rw[auM];omega
  refine anB (j:=j+5) a C om om λv6 w9 a=>?_;rw[TH auQ om om,auJ];have d:=zt last n l (t.take n) H;rw[B] at d;rw[d] at a;have E:=bu r (pr last n (t.take n));have Q:(l++kj last n (t.take n)).length=8*(j+5+n):=by rw[auH,km,D];omega
  try simp only[rs]
  by_cases y:t.length<=65535
  ·have U:=m.2 y;subst U;simp only[show ai (((1:Nat):Int)=1)=aw from rfl,i_t];rw[auC y] at i;have z:n=t.length:=om
   rw[z,awD,i] at a;refine Rc a (by rw[<-i,auH,km];omega) (by rw[<-i,auH,km];omega) λW a=>?_;exact⟨_,rfl,rfl,a⟩
  ·have V:last=0:=by
    have:¬last=1:=λe=>y (m.1 e);omega
   subst V;simp only[show ai (((0:Nat):Int)=1)=au from rfl,i_f];rw[auB y] at i;have z:n=65535:=om
   subst z;rw[<-auN] at i;have ld:(t.drop 65535).length=t.length - 65535:=auT;exact bC ⟨t.drop 65535,_,j+5+65535,g,0,v6,rfl,om,om,om,Q,om,E,i,.inl rfl,a⟩ (by
    show BW (ae (t.drop 65535)) < BW (ae t);rw[xC,xC];omega)
 by_cases y:t.length<=65535
 ·simp only[show ai (((min t.length 65535:Nat):Int)=(t.length:Int))=aw from auG om,i_t];exact go 1 dc ⟨λ_=>y,λ_=>rfl⟩
 ·simp only[show ai (((min t.length 65535:Nat):Int)=(t.length:Int))=au from auD om,i_f];exact go 0 dc ⟨(λh=>by cases h),λh=>absurd h y⟩
end
theorem Cn.P5:∀l:List Cn,Cn.sum Cn.wt (Cn.bL l)<=Cn.sum Cn.wt l
|[]=>auL _
|[a]=>avG _
|a::b::l=>by
  have c:=Cn.P5 l;show Cn.sum Cn.wt (.node a b::Cn.bL l)<=_;rw[Cn.sum_cons,Cn.sum_cons,Cn.sum_cons];show a.wt+b.wt+_<=_;omega
theorem Cn.Row.aoT {L:List Cn}(h:Cn.Row L t r):Cn.sum Cn.wt r<=(t+1)*Cn.sum Cn.wt L:=by
 induction h with
|zero _ hp=>
  rw[Cn.Nk hp];omega
|@succ t q r a _ hp b=>
  have:=Cn.P5 q;rw[Cn.Nk hp,Cn.JO,awS];omega
def pf (counts:List Nat)(i:Nat):List Nat:=(List.range i).filter λs=>ai (0 < counts.getD s 0)
def lg (counts:List Nat)(i:Nat):List Cn:=(pf counts i).map λs=>.leaf (counts.getD s 0) s
theorem xd (counts:List Nat):lg counts counts.length=lf counts:=rfl
theorem xe (counts:List Nat)(i:Nat):lg counts (i+1)=lg counts i++(if 0 < counts.getD i 0 then [.leaf (counts.getD i 0) i] else []):=by
 unfold lg pf;rw[azZ,aA1,avM]
 congr 1
 by_cases h:0 < counts.getD i 0
 ·rw[auC h,aAd,auC (auG h)];rfl
 ·rw[auB h,aAd,auB (λk=>h (auW k))];rfl
theorem aaf (counts:List Nat)(i:Nat):(lg counts i).length<=i:=by
 unfold lg pf;rw[avJ];have:=aAZ (λs=>ai (0 < counts.getD s 0)) (List.range i)
 rwa [aA0] at this
theorem xf {counts:List Nat}(h:∀c∈counts,c<=2147483647):∀i,Cn.sum Cn.wt (lg counts i)<=i*2147483647
|0=>by simp[lg,pf,Cn.sum]
|i+1=>by
  have a:=xf h i;rw[xe,Cn.JO,awS];have b:counts.getD i 0<=2147483647:=je h dc i;have e:Cn.sum Cn.wt (if 0 < counts.getD i 0 then [.leaf (counts.getD i 0) i] else [])<=counts.getD i 0:=by
   split
   ·simp[Cn.sum,Cn.wt]
   ·simp[Cn.sum]
  omega
theorem Cy (l:List Nat)(i n:Nat):(bF l).set i (ad (n:Int))=bF (l.set i n):=by unfold bF;rw[aAw]
theorem Hf (h:i < l.length):(bF l)[i]?=ay (ad ((l.getD i 0:Nat):Int)):=by
 unfold bF;rw[ayO,auK,auO h];rfl
theorem O1:(Tryz.prog.info? 3).map (·.size)=ay 1:=krx
theorem XD {g n:Nat}(hi:i < n)(W:ao):(mIA 70 (bO g 0 n cap) (ad (i:Int))).run ah W=.ok (.value (af g i)) W:=by
 have:=cZ (P:=ah) (T:=70) (b:=g) (off:=0) (cap:=cap) (n:=n) (k:=.i64) (i:=(i:Int)) (w:=W) avB O1 om om
 rwa [auJ,avC,auP] at this
abbrev lnE (a g n:Nat):Ent:=.cells a [bO g 0 n n] 70
abbrev lrE (g:Nat)(out:List Nat):Ent:=.cells g (bF out) 3
def amY (a:Nat):Value:=.func (.func 303) #[] #[af a 0]
theorem LI:cW ah 303=true:=krx
section
variable {w:ao}{PK:PKT}{K:VWP}{S:Nat->Prop}{w0:ao}{L T:List Ent}
theorem ahK :DoX ah (mEq .eql 327 xo yo (af b 0) (.pointer ax)) w PK K=K (.bool au) w:=aD krx
theorem ZZ :DoX ah (mEq .eql 327 xo yo (.pointer ax) (.pointer ax)) w PK K=K (.bool aw) w:=aD krx
theorem alD {b g s:Nat}{out:List Nat}(a:bT S w0 w (lnE b g out.length::lrE g out::T))(c:s < out.length)(f:out.getD s 0<=1000000000)
  (k:∀W,bT S w0 W (lnE b g out.length::lrE g (out.set s (out.getD s 0+1))::T)->K (.tuple #[]) W):DoX ah (iO (amY b) #[ad (s:Int)]) w PK K:=by
 refine LB LI ?_;show cR ah 303 #[ad (s:Int),af b 0] w PK K;refine gK (B8 (k0:=wT λv W=>v=.tuple #[]∧bT S w0 W (lnE b g out.length::lrE g (out.set s (out.getD s 0+1))::T)) ?_) (λe W ⟨v,he,d,a⟩=>by subst he;subst d;exact k W a);unfold uB nz;rw[aJ HP (a.cell 0 rfl 0 rfl)];refine aD (XD c w) |>.mpr ?_;rw[aJ aU (a.cell 1 rfl s (Hf c))];simp only[rs];rw[aA om om,show ((out.getD s 0:Nat):Int)+1=((out.getD s 0+1:Nat):Int) by omega];refine aD (XD c w) |>.mpr ?_;refine aO 1 a rfl krx rfl (by rw[fN];exact c) λw2 a=>?_;rw[Cy] at a;exact vG ⟨rfl,a⟩
theorem YV {o g jm:Nat}{M:Mem}(hm:T[jm]?=ay (.mem M)):∀(c:Cn) {v:aq} {w:ao} {PK:PKT} {K:VWP} {out:List Nat},bT S w0 w (lnE o g out.length::lrE g out::T)->Jb M.A M.w v c ->
  (∀s,0 < c.cnt s->s < out.length)->(∀s,out.getD s 0+c.cnt s<=1000000000) ->
  (∀W a,a.length=out.length->(∀s,a.getD s 0=out.getD s 0+c.cnt s)->bT S w0 W (lnE o g a.length::lrE g a::T)->K (.tuple #[]) W) ->
  cR ah 302 #[v,amY o] w PK K
|.leaf wt s,v,w,PK,K,out,d,l,j,C,k=>by
  refine gK (rI (k0:=wT λv W=>v=.tuple #[]∧∃a,a.length=out.length∧(∀t,a.getD t 0=out.getD t 0+(Cn.leaf wt s).cnt t)∧bT S w0 W (lnE o g a.length::lrE g a::T)) ?_) (λe W ⟨v,he,l,a,D,E,d⟩=>by subst he;subst l;exact k W a D E d);unfold pR nz;obtain⟨b,rfl,p,q⟩:=l;have n:M.has w:=d.hasM (jm+2) (by rw[avR,avR];exact hm);rw[bQ,aW Yt];refine aD (aB Pv (aI (T:=329) (cs:=cnC wt s (.pointer ax) (.pointer ax)) (mH n p q) (i:=2) rfl)) |>.mpr ?_;rw[ZZ,i_t,bQ,aW adG];refine aD (aB aU (aI (T:=329) (cs:=cnC wt s (.pointer ax) (.pointer ax)) (mH n p q) (i:=1) rfl)) |>.mpr ?_;have J:s < out.length:=j s (by simp[Cn.cnt]);have O:=C s;refine alD d J om λW d=>?_;refine vG ⟨rfl,out.set s (out.getD s 0+1),axC,λt=>?_,by rw[axC];exact d⟩;rw[auK];by_cases h:s=t
  ·subst h;rw[axR J];simp[Cn.cnt]
  ·rw[azU h,<-auK];simp[Cn.cnt,h]
|.node x y,v,w,PK,K,out,d,l,j,C,k=>by
  refine gK (rI (k0:=wT λv W=>v=.tuple #[]∧∃a,a.length=out.length∧(∀t,a.getD t 0=out.getD t 0+(Cn.node x y).cnt t)∧bT S w0 W (lnE o g a.length::lrE g a::T)) ?_) (λe W ⟨v,he,l,a,D,E,d⟩=>by subst he;subst l;exact k W a D E d);unfold pR nz;obtain⟨b,va,F,rfl,p,q,L,P⟩:=l;have m:∀{W:ao} {e e':Ent},bT S w0 W (e::e'::T)->M.has W:=λd=>d.hasM (jm+2) (by rw[avR,avR];exact hm);obtain⟨R,Q,_⟩:=Jb.ptr L;have r:∀{W:ao},M.has W->(aH 327 (af b (0+2))).run ah W=.ok (.value va) W:=λn=>aB Pv (aI (T:=329) (cs:=cnC (x.wt+y.wt) 0 va F) (mH n p q) (i:=2) rfl);have G:∀{W:ao},M.has W->(aH 327 (af b (0+3))).run ah W=.ok (.value F) W:=λn=>aB Pv (aI (T:=329) (cs:=cnC (x.wt+y.wt) 0 va F) (mH n p q) (i:=3) rfl);have f:∀t,(Cn.node x y).cnt t=x.cnt t+y.cnt t:=λt=>rfl;rw[bQ,aW Yt];refine aD (r (m d)) |>.mpr ?_;rw[Q,ahK,i_f]
  try rw[bQ]
  rw[aW Yt];refine aD (r (m d)) |>.mpr ?_;refine YV hm x d L (λs h=>j s (by rw[f];omega)) (λs=>by have:=C s;rw[f] at this;omega) λU N u z d=>?_
  try rw[bQ]
  rw[aW alU];refine aD (G (m d)) |>.mpr ?_;refine YV hm y d P (λs h=>by rw[u];exact j s (by rw[f];omega)) (λs=>by have:=C s;rw[f] at this;rw[z];omega) λV B H I d=>?_;exact vG ⟨rfl,B,by rw[H,u],λt=>by rw[I,z,f];omega,d⟩
end
theorem Jm (h:(pcE v ps).is w):DoX ah (mB .len #[326] 3 #[au] #[v]) w PK K=K (ad (ps.length:Int)) w:=aZ axI (Sl.urow h)
theorem aeR {d b:Nat}{out:List Nat}{R:List Ent}(a:bT S w0 w (lnE d b out.length::lrE b out::R))(e:R[j]?=ay (Ent.mem N))(k:out.length<=1000000) :
  ∃c:Mem,N.le c∧SlA c.A c.w (bO b 0 out.length out.length) 1 out.length (bF out)∧∃(f:List Ent) (h:Nat),bT S w0 w f∧f[h]?=ay (Ent.mem c):=by
 have a:bT S w0 w ([lnE d b out.length]++([lrE b out]++R)):=a;have a:bT S w0 w (.cells b (bF out) 3::(lnE d b out.length::R)):=a.front;have a:=a.toU 1 out.length out.length (by rw[fN,avC]) (auL _) om;rw[avC,avE (by rw[fN];exact auL _)] at a;obtain⟨c,g,i,a⟩:=bT.bG a (j+1) (by rw[avR];exact e);refine⟨c,g,i,_,j+1,a,?_⟩;rw[axR (by
  have:=(auV.1 e).1;simp only[auX];omega)]
theorem Eg {l:List Cn}(h:ps.map (·.2)=l):ps.length=l.length:=by rw[<-h,avJ]
theorem Cn.ZO {L:List Cn}(hL:Cn.Lv L Sy)(h:Cn.Row L t r){n:Nat}(a:∀s∈Sy,s < n):∀x∈r,∀s,0 < x.cnt s->s < n:=by
 intro x b s c;by_cases hm:s∈Sy
 ·exact a s hm
 ·have:=h.none hL hm x b;omega
theorem sq (h:Srt.srt pw ps):Cn.sorted (ps.map (·.2)):=by
 unfold Cn.sorted;rw[List.pairwise_map];exact h
theorem AV (counts:List Nat)(most:Nat)(v:aq)(M:Mem)(w:ao)(hM:M.has w)(hs:SlA M.A M.w v 1 counts.length (bF counts))(hl:counts.length<=288)(l7:0 < counts.length)(hc:∀c∈counts,c<=2147483647)(hm:1<=most)(h6:most<=15)(hu:(di counts).length<=2 ^ most) :
  jR ah 273 #[v,ad (most:Int)] M w (λr N=>∃lens r',r=.tuple #[r',ad 0]∧Df.O4 counts lens most∧r'.oneCell'=aw∧SlA N.A N.w r' 1 lens.length (bF lens)):=by
 refine bB hM λK hK=>G1 ?_;unfold CZ nz;have d:bT M.A w w [.mem M]:=bT.memS hM;rw[aZ avB (hs.now hM)];simp only[rs,show ai ((288:Int) < (counts.length:Int))=au from auD om,show ai ((most:Int) < 1)=au from auD om,show ai ((15:Int) < (most:Int))=au from auD om,i_f];rw[aZ avB (hs.now hM)];have d:bT M.A w w [.urow 327 1 cI 0 [],.mem M]:=bT.nilU (L:=[.mem M]) d _ _;refine loop (λvs W=>∃(i:Nat) (v':aq) (o:List Pc) (N:Mem),vs=[v',ad (i:Int)]∧i<=counts.length∧M.le N∧o.map (·.2)=lg counts i∧(∀x∈o,okM N x)∧bT M.A w W [pcE v' o,.mem N]) (λvs _=>counts.length - n1 vs) ⟨0,cI,[],M,rfl,om,M.le_refl,rfl,(λx z=>by cases z),d⟩ ?_;clear d;rintro vs w1 ⟨i,v',o,N,rfl,hi,hle,O,P,d⟩ _;simp only[zU,gd,rs,nz];have l8:=Eg O;have l9:=aaf counts i;by_cases c0:(i:Int) < (counts.length:Int)
 ·simp only[c0,auE,i_t];have a7:i < counts.length:=om
  refine join λJ hJ=>?_;obtain⟨b2,off,r1,r2⟩:=pO (hs.now (Mem.JJ hle (d.hasM 1 rfl))) a7;refine aD (r1 w1) |>.mpr (aD (aB aU r2) |>.mpr ?_);have h7:=hc _ (auS a7);have h8:counts.getD i 0=counts[i]:=by rw[auK,auO a7];rfl
  have l:=xe counts i;rw[h8] at l;generalize counts[i]=ci at h7 l;simp only[rs,show ai ((ci:Int) < 0)=au from auD om,show ai ((2147483647:Int) < (ci:Int))=au from auD om,i_f];have fin:∀(W:ao) (v2:aq) (F:List Pc) (I:Mem),N.le I->F.map (·.2)=lg counts (i+1)->(∀x∈F,okM I x)->bT M.A w W [pcE v2 F,.mem I]->J [v2] W:=by
   intro W v2 F I g U Q d;refine hJ _ _ λ_=>?_;simp only[zL,gd,rs,nz];rw[aA om om];exact bC ⟨i+1,v2,F,I,rfl,om,hle.trans g,U,Q,d⟩ (by simp[n1,RowKit.intOf];omega)
  by_cases h0:0 < ci
  ·simp only[show ai ((0:Int) < (ci:Int))=aw from auG om,i_t];rw[auC h0] at l;have mb:∀{PK:PKT} {K:VWP},DoX ah (aV 329 #[(0,ad (ci:Int)),(1,ad (i:Int))]) w1 PK K=K (.agg (cnC ci i (.pointer ax) (.pointer ax)).toArray) w1:=aD krx;rw[mb];refine bK (λb=>af b 0) (cnC ci i (.pointer ax) (.pointer ax)) 329 (λ_=>by kernel_rfl) d λnb w3 d=>?_;have h9:=d.at_ 0 rfl;obtain⟨N1,g1,j0,c4,d⟩:=bT.freeze (L:=[pcE v' o,.mem N]) d 1 rfl;have hz:okM N1 (af nb 0,.leaf ci i):=⟨nb,rfl,c4 nb rfl,by rw[j0];exact h9⟩;have d:bT M.A w w3 [pcE v' o,.mem N1]:=d;refine bK (λb=>bO b 0 1 1) [af nb 0] 327 (λ_=>by kernel_rfl) d λsb w4 d=>?_;refine bZ 1 axI Oj dc d rfl (sQ (d.at_ 0 rfl) dc rfl) (λu hu=>by rw[avD.1 hu];rfl) om om λv2 w5 d=>?_;have d:bT M.A w w5 [pcE v2 (o++[(af nb 0,.leaf ci i)]),.mem N1]:=by
    unfold pcE;rw[QC,auH];exact d.tail
   refine fin w5 v2 _ N1 g1 (by rw[avM,O,l];rfl) (λu hu=>?_) d;rcases avF.1 hu with h|h
   ·exact (P u h).le g1
   ·rw[avD.1 h];exact hz
  ·simp only[show ai ((0:Int) < (ci:Int))=au from auD om,i_f];rw[auB h0,avA] at l;exact fin w1 v' o N N.le_refl (by rw[O,l]) P d
 ·simp only[c0,auF,i_f];have j1:i=counts.length:=om
  subst j1;rw[xd] at O;have B:=wj counts;have c5:o.length=(di counts).length:=by rw[Eg O,B.len]
  have m0:2 ^ most<=2 ^ 15:=awL dc h6;have m1:(2:Nat) ^ 15=32768:=rfl;rw[Jm (d.at_ 0 rfl),II om];have t:=Zv (a:=1) (k:=most) om om;rw[aAb] at t;have t:IntKind.i64.wrap ((1:Int)*2 ^ min ((most:Nat):Int).toNat IntKind.i64.bits)=((2 ^ most:Nat):Int):=t;rw[t];simp only[rs,show ai (((2 ^ most:Nat):Int) < (o.length:Int))=au from auD om,i_f];rw[aZ avB (hs.now (Mem.JJ hle (d.hasM 1 rfl)))];refine BH om d λq w2 d=>?_;refine bK (λb=>af b 0) [.slice ax 0 0] 70 (λ_=>by kernel_rfl) d λX w3 d=>?_;refine aO 0 d rfl krx rfl (by show 0 < 1;omega) λw4 d=>?_;have j3:bF (List.replicate counts.length 0)=List.replicate counts.length (ad 0):=by simp[bF]
  have d:bT M.A w w4 (lnE X q (List.replicate counts.length 0).length::lrE q (List.replicate counts.length 0)::[pcE v' o,.mem N]):=by
   unfold lrE;rw[j3,avW];exact d
  refine join λJ3 j4=>?_;rw[Jm (d.at_ 2 rfl)];simp only[rs];have fin:∀(W:ao) (out:List Nat),out.length=counts.length->(o.length < 2->Df.O4 counts out most)->(2<=o.length->out=List.replicate counts.length 0)->bT M.A w W (lnE X q out.length::lrE q out::[pcE v' o,.mem N])->J3 [] W:=by
   intro W out R U Q d;refine j4 _ _ λ_=>?_;unfold zK nz;rw[Jm (d.at_ 2 rfl)];simp only[rs];by_cases j5:o.length < 2
   ·simp only[show ai ((o.length:Int) < 2)=aw from auG om,i_t];rw[aJ HP (d.cell 0 rfl 0 rfl)];obtain⟨I,g2,C,L2,j2,a8,b0⟩:=aeR (j:=1) d rfl om;exact hK _ _ I L2 j2 a8 b0 (hle.trans g2) ⟨out,_,rfl,U j5,rfl,C⟩
   ·simp only[show ai ((o.length:Int) < 2)=au from auD om,i_f];have Q:=Q om;subst Q;have j6:=bX (d.at_ 2 rfl);have d:bT M.A w W ([lnE X q (List.replicate counts.length 0).length,lrE q (List.replicate counts.length 0)]++([pcE v' o]++[.mem N])):=d;obtain⟨I,g2,j7,d⟩:=bT.bG (L:=[lnE X q (List.replicate counts.length 0).length,lrE q (List.replicate counts.length 0)]++[.mem N]) d.front 2 rfl;have d:bT M.A w W [lnE X q (List.replicate counts.length 0).length,lrE q (List.replicate counts.length 0),.mem I]:=d;refine bH d 2 rfl (Lc o [] v' cI I W (d.hasM 2 rfl) j7 (SlA.nil _ _ _ _) (λx z=>(P x z).le g2) (λx z=>by cases z) om om sm j6 rfl) ?_;rintro lv N3 w5 g3 ⟨ls,b1,j8,c6,c7,G⟩ d;rw[avA] at b1;have c8:(ls.map (·.2)).Perm (lf counts):=by rw[<-O];exact b1.map _
    have m2:ls.length=(di counts).length:=by rw[b1.length_eq,c5]
    have S:=B.len;have m3:(di counts).length<=288:=by
     have:=aAZ (λs=>ai (0 < counts.getD s 0)) (List.range counts.length);rw[aA0] at this;have e:(di counts).length<=counts.length:=this;omega
    rw[aA om om];refine loop (λvs V=>∃(k:Nat) (rv:aq) (rs:List Pc) (N':Mem),vs=[rv,ad (k:Int)]∧k<=most - 1∧N3.le N'∧Cn.Row (lf counts) k (rs.map (·.2))∧(∀x∈rs,okM N' x)∧rv.oneCell'=aw∧SlA N'.A N'.w rv 1 rs.length (pcW rs)∧bT M.A w V [lnE X q (List.replicate counts.length 0).length,lrE q (List.replicate counts.length 0),.mem N']) (λvs _=>most - n1 vs) ⟨0,lv,ls,N3,rfl,om,N3.le_refl,.zero (sq j8) c8,c6,c7,G,d⟩ ?_;clear d;rintro vs w6 ⟨k,rv,rws,N4,rfl,hk,g4,f,c9,m4,y,d⟩ _;simp only[zS,gd,rs,nz];have j9:=f.lt om;rw[avJ,S] at j9;by_cases Y:(k:Int) < (most:Int) - 1
    ·simp only[Y,auE,i_t];have l4:=f.aoT;have e0:=xf hc counts.length;rw[xd] at e0;have m5:(k+1)*Cn.sum Cn.wt (lf counts)<=15*(288*2147483647):=axG om (axO e0 (axG hl (auL _)));have k0:∀x∈rws,pw x<=1000000000000000:=λx z=>by
      have U:x.2.wt<=Cn.sum Cn.wt (rws.map (·.2)):=Cn.Q5 (avN.2 ⟨x,z,rfl⟩);show x.2.wt<=_;omega
     refine bH d 2 rfl (Uv rws rv N4 w6 (d.hasM 2 rfl) y c9 om k0) ?_;rintro pv N5 w7 g5 ⟨qq,e3,e4,e5,e6⟩ d;have l5:qq.length<=1000000:=by
      rw[Eg e3,Cn.Gd,avJ];omega
     refine bH d 2 rfl (Lc ls qq lv pv N5 w7 (d.hasM 2 rfl) (G.le (g4.trans g5)) e6 (λx z=>(c6 x z).le (g4.trans g5)) e4 om om om c7 e5) ?_;rintro k1 N6 w8 g6 ⟨k2,k3,k4,e7,k5,b3⟩ d
     try simp only[rs]
     rw[aA om om];refine bC ⟨k+1,k1,k2,N6,rfl,om,g4.trans (g5.trans g6),.succ f (sq k4) ?_,e7,k5,b3,d⟩ (by simp[n1,RowKit.intOf];omega);have:=k3.map (·.2);rw[avM,e3] at this;exact this.trans (c8.append_right _)
    ·simp only[Y,auF,i_f];have b4:k=most - 1:=om
     obtain⟨c1,c2,c3⟩:=f.code B om (by rw[b4,show most - 1+1=most by omega,S];exact hu);rw[avJ,S] at c1;rw[S] at c2 c3;rw[aZ axI ((G.le g4).now (d.hasM 2 rfl))];simp only[rs];rw[aA (n:=(2:Int)*(ls.length:Int)) om om,aA om om,show (2:Int)*(ls.length:Int) - 2=((2*(di counts).length - 2:Nat):Int) by omega];generalize hD:2*(di counts).length - 2=D at c1 c2 c3;obtain⟨rb,e8,Z,rfl,_⟩:=bR y.1 om;have l6:=y.2.2 _ _ _ rfl;refine aD (jJ axI GX om om) |>.mpr ?_;rw[auJ];have E:=SlA.XR y (i:=D) c1 (λh=>by omega);rw[avC] at E;generalize m6:Value.slice (wB (ay ⟨rb,e8,ax⟩) 0 Z 1) D Z=sv at E;have e9:pcW (rws.take D)=(pcW rws).take D:=by unfold pcW;rw[aAx]
     have a1:(rws.take D).length=D:=by rw[auM];omega
     have E:SlA N4.A N4.w sv 1 (rws.take D).length (pcW (rws.take D)):=by rw[e9,a1];exact E
     rw[aZ axI (E.now (d.hasM 2 rfl)),a1];have k6:((rws.map (·.2)).take D).Nodup:=(aAT _ _).nodup (f.nodup B).1;have h3:=f.levels B _ k6 (λx z=>awN z) (Cn.TO f.sorted D);have k7:∀s∈di counts,s < counts.length:=λs hs=>by
      have:=kz.1 hs;rcases avI s counts.length with h'|h'
      ·exact h'
      ·rw[auK,awV h'] at this;exact absurd this (azH _)
     have b5:=Cn.ZO B f k7;refine loop (λvs V=>∃(i:Nat) (out:List Nat),vs=[ad (i:Int)]∧i<=D∧out.length=counts.length∧(∀s,out.getD s 0=Cn.sum (Cn.cnt s) ((rws.take i).map (·.2)))∧bT M.A w V [lnE X q out.length,lrE q out,.mem N4]) (λvs _=>D - n0 vs) ⟨0,List.replicate counts.length 0,rfl,om,avW,λs=>by
      rw[auK,aAu];split<;>rfl,d⟩ ?_
     clear d;rintro vs w7 ⟨j,out,rfl,hj,R,H,d⟩ _;simp only[zQ,gd,rs,nz];by_cases a6:(j:Int) < (D:Int)
     ·simp only[a6,auE,i_t];have k8:j < (rws.take D).length:=om
      have b6:j < rws.length:=om
      obtain⟨p,ia,ld⟩:=pcAt E k8;refine aD (ia w7) |>.mpr (aD (ld w7 (d.hasM 2 rfl)) |>.mpr ?_)
      try rw[tZ]
      rw[aAl];have z:=c9 _ (auS b6);have h4:∀s,Cn.sum (Cn.cnt s) ((rws.take (j+1)).map (·.2))=Cn.sum (Cn.cnt s) ((rws.take j).map (·.2))+rws[j].2.cnt s:=λs=>by
       rw[avL b6,avM,Cn.JO];rfl
      have k9:∀s,Cn.sum (Cn.cnt s) ((rws.take (j+1)).map (·.2))<=k+1:=λs=>by
       have U:=(h3 s).1;have Q:(rws.map (·.2)).take D=(rws.take (j+1)).map (·.2)++((rws.drop (j+1)).take (D - (j+1))).map (·.2):=by
        rw[<-aAx,<-avM]
        congr 1
        conv=>lhs;rw[show D=j+1+(D - (j+1)) by omega,List.take_add]
       rw[Q,Cn.JO] at U;omega
      refine YV (jm:=0) (T:=[.mem N4]) rfl rws[j].2 d z (λs h=>by rw[R];exact b5 _ (avN.2 ⟨rws[j],auS b6,rfl⟩) s h) (λs=>by rw[H,<-h4];have:=k9 s;omega) λW2 h5 U Q d=>?_
      try simp only[rs]
      rw[aA om om];exact bC ⟨j+1,h5,rfl,om,by rw[U,R],λs=>by rw[Q,H,h4],d⟩ (by simp[n0,RowKit.intOf];omega)
     ·simp only[a6,auF,i_f];have l0:j=D:=om
      subst l0;rw[aJ HP (d.cell 0 rfl 0 rfl)];obtain⟨N5,g5,C,L2,j2,a8,b0⟩:=aeR (j:=0) d rfl om;refine hK _ _ N5 L2 j2 a8 b0 (hle.trans (g2.trans (g3.trans (g4.trans g5)))) ⟨out,_,rfl,?_,rfl,C⟩;have:=Y0 (counts:=counts) (lens:=out) (m:=k) om f om (by rw[b4,show most - 1+1=most by omega];exact hu) hl R λs _=>by
       rw[H,hD,aAx]
      rw[b4,show most - 1+1=most by omega] at this;exact this
  by_cases l1:o.length=1
  ·simp only[show ai ((o.length:Int)=1)=aw from auG om,i_t];obtain⟨u,rfl⟩:=aA9.1 l1;have b7:=P u (aA8 u);obtain⟨s,b8⟩:∃s,di counts=[s]:=aA9.1 (by rw[<-c5];rfl);have l2:u.2=.leaf (counts.getD s 0) s:=by
    unfold lf at O;rw[b8] at O;exact (List.cons.inj O).1
   have C:s < counts.length:=by
    have:s∈di counts:=by rw[b8];exact aA8 s
    have:=kz.1 this;rcases avI s counts.length with h'|h'
    ·exact h'
    ·rw[auK,awV h'] at this;exact absurd this (azH _)
   unfold okM at b7;rw[l2] at b7;obtain⟨ub,l3,hA,b9⟩:=b7;obtain⟨g,cap,rfl⟩:=nX (d.at_ 2 rfl) sm;refine cY (λV=>bT M.A w V (lnE X q (List.replicate counts.length 0).length::lrE q (List.replicate counts.length 0)::[pcE (bO g 0 [u].length cap) [u],.mem N])) d.drew ?_;refine gA _ (λV h=>aB HP (h.cell 0 rfl 0 rfl)) ?_;refine dY _ (λV=>tD (i:=0) sm V) (gA u.1 (λV h=>BU (i:=0) (h.at_ 2 rfl) sm) ?_);rw[l3];refine dY _ (λ_=>dW) (dY _ (λ_=>bE adG) (gA (ad (s:Int)) (λV h=>aB aU (aI (T:=329) (cs:=cnC (counts.getD s 0) s (.pointer ax) (.pointer ax)) (mH (h.hasM 3 rfl) hA b9) (i:=1) rfl)) ?_));refine dY _ (λV=>XD (by rw[avW];exact C) V) ?_;intro w5 d;refine aO 1 d rfl krx rfl (by rw[fN,avW];exact C) λw6 d=>?_;have e1:(bF (List.replicate counts.length 0)).set s (ad 1)=bF ((List.replicate counts.length 0).set s 1):=Cy _ _ _;rw[e1] at d;refine fin w6 ((List.replicate counts.length 0).set s 1) sm (λ_=>aaa hl b8 hm) (λh=>absurd h sm) ?_;have e2:((List.replicate counts.length 0).set s 1).length=(List.replicate counts.length 0).length:=axC;rw[e2];exact d
  ·simp only[show ai ((o.length:Int)=1)=au from auD om,i_f];refine fin w4 _ avW (λh=>?_) (λ_=>rfl) d;exact Z0 hl (axZ.1 om) most
def prC (a b:Nat):List Value:=[af a 0,af b 0]
def prV (a b:Nat):Value:=.agg (prC a b).toArray
theorem PL:nN ah 283 0=ay 0:=krx
theorem XO:nN ah 283 1=ay 1:=krx
theorem aoE:FU ah 283=ay 2:=krx
theorem aag {far:List Nat}(a:∀l∈near,l<=15)(b:∀l∈far,l<=15){x:bo}(h:gu m x):(ff near far x).length<=48:=by
 have c:∀i,near.getD i 0<=15:=je a dc;have e:∀i,far.getD i 0<=15:=je b dc;unfold ff;unfold gu at h;by_cases d:x.2.1=0
 ·rw[auC d,fo];have:=c x.1.toNat;omega
 ·rw[auB d] at h ⊢;obtain⟨_,_,_,_,_,f⟩:=mn h.2.1 h.2.2.1;obtain⟨_,_,_,_,f5⟩:=ng h.2.2.2.1 h.2.2.2.2.1;simp only[auH,fo,bt];have:=c (bz x.2.1).1;have:=e (dr x.2.2).1;omega
theorem pg {near far:List Nat}(a:∀l∈near,l<=15)(b:∀l∈far,l<=15):∀{l:List bo},(∀x∈l,∃m,gu m x)->(l.flatMap (ff near far)).length<=48*l.length
|[],_=>auL _
|x::l,h=>by
  obtain⟨m,hm⟩:=h x (avQ ..);have d:=aag a b hm;have e:=pg a b λy c=>h y (auZ _ c);rw[awZ,auH,auX];omega
theorem aah (near far:List Nat)(l:List bo):bp (l.flatMap (ff near far)):=λb a=>by
 obtain⟨x,_,c⟩:=azP.1 a;exact vh near far x b c
section
variable {w:ao}{PK:PKT}{K:VWP}{S:Nat->Prop}{w0:ao}{L T:List Ent}
theorem V7 (a:bT S w0 w L)(k:∀b w',bT S w0 w' (ptE b (0,0,0)::L)->K (af b 0) w'):DoX ah (fK 278) w PK K:=
 bK (λb=>af b 0) (ptC (0,0,0)) 278 (λ_=>by kernel_rfl) a k
theorem Po (j:Nat){x y:bo}(a:bT S w0 w L)(hi:L[j]?=ay (ptE b x))(k:∀w',bT S w0 w' (L.set j (ptE b y))->K undef w') :
  DoX ah (aN 278 (af b 0) (ptV y)) w PK K:=B9 j a hi (new:=ptC y) szPt X2 (by show 0+3<=3;omega) k
theorem pt_0 (a:bT S w0 w L)(j:Nat){x:bo}(hi:L[j]?=ay (ptE b x)):DoX ah (aH 5 (af b (0+0))) w PK K=K (.int .u8 (x.1.toNat:Int)) w:=aJ nU8l (a.cell j hi 0 rfl)
theorem pt_1 (a:bT S w0 w L)(j:Nat){x:bo}(hi:L[j]?=ay (ptE b x)):DoX ah (aH 3 (af b (0+1))) w PK K=K (ad (x.2.1:Int)) w:=aJ aU (a.cell j hi 1 rfl)
theorem pt_2 (a:bT S w0 w L)(j:Nat){x:bo}(hi:L[j]?=ay (ptE b x)):DoX ah (aH 3 (af b (0+2))) w PK K=K (ad (x.2.2:Int)) w:=aJ aU (a.cell j hi 2 rfl)
theorem Tc {g:Nat}{far:List Nat}{ps:List bo}(a:bT S w0 w (Wr b way l v T))(hm:T[jm]?=ay (.mem M))(t:TbW M.A M.w g near)(V:TbW M.A M.w tb far)
  (u:bn near=0) (X:bn far=0) (d:∀l∈near,l<=15) (h:∀l∈far,l<=15) (D:0 < near.getD 256 0) (E:SlA M.A M.w pv 3 ps.length (ps.flatMap ptC)) (hh:∀x∈ps,ez near far x) (F:iq 0 ps) (b7:ps.length<=1048576)
  (G:bp l) (hw:way=0∨way=1) (hl:l.length<=100000000) (k:∀way' v' W,(way'=0∨way'=1)->bT S w0 W (Wr b way' (l++dh near far ps) v' T)->K (.tuple #[]) W) :
  cR ah 271 #[prV g tb,af b 0,pv] w PK K:=by
 refine gK (yP (k0:=wT λv W=>v=.tuple #[]∧∃way' v',(way'=0∨way'=1)∧bT S w0 W (Wr b way' (l++dh near far ps) v' T)) ?_) (λe W ⟨v,he,hv,way',v',Y,a⟩=>by subst he;subst hv;exact k way' v' W Y a);unfold qD nz;refine bK (λb=>af b 0) (prC g tb) 283 (λ_=>by kernel_rfl) a λo Z a=>?_;have a:bT S w0 Z (([.cells o (prC g tb) 283]:List Ent)++([wrE b way l.length v,pP v (bf l)]++T)):=a;have a:bT S w0 Z (Wr b way l v (.cells o (prC g tb) 283::T)):=a.front;have H:∀{W:ao} {way:Int} {l:List Nat} {v:aq} {e:Ent},bT S w0 W (Wr b way l v (e::T))->M.has W:=λa=>a.hasM (jm+3) (by rw[avR,avR,avR];exact hm);rw[aZ aBa (E.now (H a))];refine loop (λvs W=>∃(i:Nat) (way':Int) (v':aq),vs=[ad (i:Int)]∧i<=ps.length∧(way'=0∨way'=1)∧bT S w0 W (Wr b way' (l++(ps.take i).flatMap (ff near far)) v' (.cells o (prC g tb) 283::T))) (λvs _=>ps.length - n0 vs) ⟨0,way,v,rfl,om,hw,by show bT S w0 Z (Wr b way (l++[]) v _);rw[avA];exact a⟩ ?_;clear a hw;rintro vs w2 ⟨i,way',v',rfl,hi,hw,a⟩ _;simp only[mN,gd,rs,nz];have I:=pg d h (l:=ps.take i) λx q=>mi F x (awN q);rw[auM,avO hi] at I;have j:=aah near far (ps.take i);by_cases L:(i:Int) < (ps.length:Int)
 ·have r:i < ps.length:=om
  simp only[L,auE,i_t];obtain⟨p,a1,N⟩:=ptAt E r;refine join λJ hJ=>?_;rw[aD (a1 w2),aD (N w2 (H a))];have q:=hh _ (auS r);obtain⟨mx,c⟩:=mi F _ (auS r);have a6:ps.take (i+1)=ps.take i++[ps[i]]:=avL r;have fin:∀(W:ao) (way':Int) (v':aq) (s:Nat),(way'=0∨way'=1)->bT S w0 W (Wr b way' (l++(ps.take i).flatMap (ff near far)++ff near far ps[i]) v' (ptE s ps[i]::.cells o (prC g tb) 283::T))->J [] W:=by
   intro W way' v' s hw a;refine hJ _ _ λ_=>?_;simp only[mU,gd,rs,nz];rw[aA om om];refine bC ⟨i+1,way',v',rfl,om,hw,?_⟩ (by simp[n0,RowKit.intOf];omega);rw[a6,axQ,ayP,<-auN];have a:bT S w0 W ((Wr b way' (l++(ps.take i).flatMap (ff near far)++ff near far ps[i]) v' [])++([ptE s ps[i]]++(.cells o (prC g tb) 283::T))):=a;exact a.front.tail
  generalize ps[i]=x at q c N fin;generalize hB:l++(ps.take i).flatMap (ff near far)=B at a fin;have b8:B.length<=200000000:=by rw[<-hB,auH];omega
  have m:bp B:=by rw[<-hB];exact bu G j
  refine V7 a λs w3 a=>?_;refine Po (y:=x) 0 a rfl λw4 a=>?_;have a:bT S w0 w4 ([ptE s x]++(Wr b way' B v' []++(.cells o (prC g tb) 283::T))):=a;have a:bT S w0 w4 (Wr b way' B v' (ptE s x::.cells o (prC g tb) 283::T)):=a.front;have n:(ptE s x::.cells o (prC g tb) 283::T)[jm+2]?=ay (.mem M):=by rw[avR,avR];exact hm
  unfold ez at q;unfold ff at fin;unfold gu at c;rw[aW HY,pt_1 a 2 rfl];simp only[rs];by_cases R:x.2.1=0
  ·rw[auC R] at q c;simp only[auC R] at fin;simp only[show ai ((x.2.1:Int)=0)=aw from auG om,i_t];rw[aW PL,aJ SE (a.cell 3 rfl 0 rfl),aW Xu,pt_0 a 2 rfl];have hc:=x.1.toNat_lt;refine aD (eI krx avY) |>.mpr ?_;rw[aA om om];refine EC (i:=x.1.toNat) a n t u d q m hw om λf v5 U z a=>?_;exact fin U f v5 s z a
  ·rw[auB R] at q c;simp only[auB R] at fin;obtain⟨s1,s2,s3,s4,s5,s6⟩:=mn c.2.1 c.2.2.1;obtain⟨f1,f2,f3,f4,f5⟩:=ng c.2.2.2.1 c.2.2.2.2.1;simp only[show ai ((x.2.1:Int)=0)=au from auD om,i_f];rw[aW HY,pt_1 a 2 rfl];refine aK a (Qt x.2.1 w4 c.2.1 c.2.2.1) ?_;rintro _ U rfl a;simp only[ex];rw[aW PL,aJ SE (a.cell 3 rfl 0 rfl)];have n1:near.getD (bz x.2.1).1 0<=15:=je d dc _;have n2:far.getD (dr x.2.2).1 0<=15:=je h dc _;refine EC (i:=(bz x.2.1).1) a n t u d q.1 m hw om λb4 v6 w6 a7 a=>?_;have O:=bu m (lr near (bz x.2.1).1);refine pV a O a7 om s5 (by rw[auH,fo];omega) λb5 v7 w7 a8 a=>?_;have P:=bu O (eh (bz x.2.1).2.1 (bz x.2.1).2.2);rw[aW adD,pt_2 a 2 rfl];refine aK a (PY x.2.2 w7 c.2.2.2.1 c.2.2.2.2.1) ?_;rintro _ w8 rfl a;simp only[ex];rw[aW XO,aJ SE (a.cell 3 rfl 1 rfl)];refine EC (i:=(dr x.2.2).1) a n V X h q.2 P a8 (by simp only[auH,fo,bt];omega) λb6 v9 w9 b0 a=>?_;have b1:=bu P (lr far (dr x.2.2).1);refine pV a b1 b0 om f4 (by simp only[auH,fo,bt];omega) λC v10 b2 Q a=>?_;refine fin b2 C v10 s Q ?_;simp only[auN] at a ⊢;exact a
 ·simp only[L,auF,i_f];have b3:i=ps.length:=om
  subst b3;rw[awD] at a I j;have n:(.cells o (prC g tb) 283::T)[jm+1]?=ay (.mem M):=by rw[avR];exact hm
  rw[aW PL,aJ SE (a.cell 2 rfl 0 rfl)];refine EC (i:=256) a n t u d D (bu G j) hw (by rw[auH];omega) λf v5 U z a=>?_;refine vG ⟨rfl,f,v5,z,?_⟩;unfold dh;rw[<-auN];have a:bT S w0 U ((Wr b f (l++ps.flatMap (ff near far)++dp near 256) v5 [])++([.cells o (prC g tb) 283]++T)):=a;exact a.front.tail
end
theorem TbW.le {M N:Mem}(h:M.le N){b:Nat}{lens:List Nat}(k:TbW M.A M.w b lens):TbW N.A N.w b lens:=by
 obtain⟨a,c,o,d,e,f,g,i⟩:=k;refine⟨a,c,o,h.A b d,?_,f.le h,g.le h,i.le h⟩;show N.w.heap[b]?=_;rw[h.has b d];exact e
theorem Vn (ps:List bo)(pv:aq)(M:Mem)(w:ao)(i:M.has w)(k:SlA M.A M.w pv 3 ps.length (ps.flatMap ptC))(c:iq 0 ps)(m:ps.length<=1048576) :
  jR ah 243 #[pv] M w (λv _=>v=ae (bf (il ps))):=by
 refine bB i λK E=>E4 ?_;unfold Ch nz;have a:bT M.A w w [.mem M]:=bT.memS i;refine bH a 0 rfl (MJ M w i) ?_;rintro _ N1 S g1 ⟨va,F,rfl,G,f⟩ a;simp only[ex];refine bK (λb=>af b 0) [.pointer ax,.pointer ax] 283 (λ_=>by kernel_rfl) a λH w2 a=>?_;have T:cy.length=288:=by decide +kernel
 refine bH a 1 rfl (Bo cy va N1 w2 ni om om (a.hasM 1 rfl) G) ?_;rintro _ I w3 g3 s a;rw[auB (by rw[ny];exactλh=>h rfl)] at s;obtain⟨t,rfl,d⟩:=s;simp only[ex];rw[aW PL];refine aO 0 a rfl krx rfl (by show 0+0 < 2;omega) λJ a=>?_;refine bH a 1 rfl (Bo dj F I J ox (by rw[nd];omega) (by rw[nd];omega) (a.hasM 1 rfl) (f.le g3)) ?_;rintro _ y U g5 z a;rw[auB (by rw[od];exactλh=>h rfl)] at z;obtain⟨tb,rfl,o⟩:=z;simp only[ex];rw[aW XO];refine aO 0 a rfl krx rfl (by show 0+1 < 2;omega) λL a=>?_;have a:bT M.A w L [.cells H (prC t tb) 283,.mem y]:=a;have d:=TbW.le g5 d;refine V2 a λb V a=>?_;refine pV (x:=1) (n:=1) a (λb f=>by cases f) (.inl rfl) om dc sm λB v1 X p a=>?_;have g:bp ([]++bg 1 1):=bu (λb f=>by cases f) (eh 1 1);refine pV (x:=1) (n:=2) a g p om dc (by simp[bt]) λC v2 Y q a=>?_;have r:=bu g (eh 1 2);refine aD (aY (AtV.agg aoE (cs:=prC t tb) rfl λj u N=>by rw[auP];exact a.cell 2 rfl j N)) |>.mpr ?_;refine Tc (jm:=1) a rfl d o ny od ni ox (ow dc) (k.le (g1.trans (g3.trans g5))) (vv c) c m r q (by simp[bt]) λD v3 O P a=>?_;have e:[]++bg 1 1++bg 1 2++dh cy dj ps=il ps:=by unfold il;simp
 rw[e] at a;have Z:(il ps).length<=100000000:=by
  unfold il dh;have:=pg ni ox (l:=ps) λx Q=>mi c x Q;have R:cy.getD 256 0<=15:=je ni dc _;simp only[auH,bt,fo];omega
 refine Rc a (by unfold il;simp only[auH,bt];omega) om λW a=>?_;exact E _ _ y _ 1 a rfl (g1.trans (g3.trans g5)) rfl
theorem Ro {g n:Nat}{k:IntKind}(hi:i < n)(W:ao):(mIA 70 (bO g 0 n cap) (.int k (i:Int))).run ah W=.ok (.value (af g i)) W:=by
 have:=cZ (P:=ah) (T:=70) (b:=g) (off:=0) (cap:=cap) (n:=n) (k:=k) (i:=(i:Int)) (w:=W) avB O1 om om
 rwa [auJ,avC,auP] at this
def lq (l:List Nat)(j:Nat):List Nat:=l.set j (l.getD j 0+1)
theorem ph (l:List Nat)(j:Nat):(lq l j).length=l.length:=axC
theorem pj (a:j < l.length)(k:Nat):(lq l j).getD k 0=l.getD k 0+(if j=k then 1 else 0):=by
 unfold lq;rw[auK];by_cases h:j=k
 ·subst h;rw[axR a];simp
 ·rw[azU h,<-auK,auB h];rfl
theorem zu {a b a' d:List Nat}{x:bo}(h:ez a b x)(e:∀i,a.getD i 0<=a'.getD i 0)(f:∀i,b.getD i 0<=d.getD i 0):ez a' d x:=by
 unfold ez at h ⊢;split
 ·rename_i c;rw[auC c] at h;exact awO h (e _)
 ·rename_i c;rw[auB c] at h;exact⟨awO h.1 (e _),awO h.2 (f _)⟩
theorem ra {B:Nat}(h:∀i,l.getD i 0<=B):∀c∈l,c<=B:=by
 intro c a;obtain⟨i,hi,rfl⟩:=axX a;have:=h i;rw[auK,auO hi] at this;exact this
section
variable {w:ao}{PK:PKT}{K:VWP}{S:Nat->Prop}{w0:ao}{L T:List Ent}
theorem Z2 (i:Nat){g n:Nat}{k:IntKind}{PK3 PK4 PK5:PKT}{N:ao->Prop}(a:bT S w0 w L)(hi:L[i]?=ay (lrE g l))(c:l.length=n)(b:j < n)(e:l.getD j 0<=1000000000)(d:∀W,bT S w0 W (L.set i (lrE g (lq l j)))->N W) :
  DoX ah (mIA 70 (bO g 0 n n) (.int k (j:Int))) w PK λt w=>DoX ah (aH 3 t) w PK2 λt w=>DoX ah (iQ .add 3 t (ad 1)) w PK3 λt2 w=>DoX ah (mIA 70 (bO g 0 n n) (.int k (j:Int))) w PK4 λt w=>DoX ah (aN 3 t t2) w PK5 λ_ w=>N w:=by
 subst c;refine aD (Ro b w) |>.mpr ?_;rw[aJ aU (a.cell i hi j (Hf b)),OA,aA om om,show ((l.getD j 0:Nat):Int)+1=((l.getD j 0+1:Nat):Int) by omega];refine aD (Ro b w) |>.mpr ?_;refine aO i a hi krx rfl (by rw[fN];exact b) λw2 a=>?_;rw[Cy] at a;exact d w2 a
end
theorem PI (ps:List bo)(pv:aq)(M:Mem)(w:ao)(hM:M.has w)(C:SlA M.A M.w pv 3 ps.length (ps.flatMap ptC))(Q:iq 0 ps)(a6:ps.length<=1048576) :
  jR ah 272 #[pv] M w (λr N=>∃va vb ca cb,r=.tuple #[va,vb]∧SlA N.A N.w va 1 ca.length (bF ca)∧SlA N.A N.w vb 1 cb.length (bF cb)∧ca.length=286∧cb.length=30∧0 < ca.getD 256 0∧(∀x∈ps,ez ca cb x)∧(∀c∈ca,c<=2147483647)∧(∀c∈cb,c<=2147483647)):=by
 refine bB hM λK hK=>CV ?_;unfold wU iN dx;have a:bT M.A w w [.mem M]:=bT.memS hM;have H:∀n:Nat,bF (List.replicate n 0)=List.replicate n (ad 0):=λn=>by simp[bF]
 have body:∀(W:ao) (s o:Nat),bT M.A w W [lrE s (List.replicate 286 0),lrE o (List.replicate 30 0),.mem M]->fH pv (bO s 0 286 286) (bO o 0 30 30) W K:=by
  intro W s o a;unfold fH iN iax stx lnx;refine aD (Ro (i:=256) (k:=.i64) dc W) |>.mpr ?_;refine aO 0 a rfl krx rfl (by rw[fN,avW];decide) λw2 a=>?_;rw[show (Value.int .i64 1)=ad ((1:Nat):Int) from rfl,Cy] at a;rw[aZ aBa (C.now (a.hasM 2 rfl))];refine loop (λvs V=>∃(i:Nat) (ca cb:List Nat),vs=[ad (i:Int)]∧i<=ps.length∧ca.length=286∧cb.length=30∧0 < ca.getD 256 0∧(∀x∈ps.take i,ez ca cb x)∧(∀j,ca.getD j 0<=i+1)∧(∀j,cb.getD j 0<=i+1)∧bT M.A w V [lrE s ca,lrE o cb,.mem M]) (λvs _=>ps.length - n0 vs) ⟨0,(List.replicate 286 0).set 256 1,List.replicate 30 0,rfl,om,by rw[axC,avW],avW,by decide +kernel,(λx v=>by cases v),?_,?_,a⟩ ?_
  ·refine je (P:=λc=>c<=0+1) (λc I=>?_) dc;rcases aAv I with h|h
   ·rw[axV h];decide
   ·rw[h];decide
  ·refine je (P:=λc=>c<=0+1) (λc I=>?_) dc;rw[axV I];decide
  clear a;rintro vs w3 ⟨i,ca,cb,rfl,hi,d,m,u,q,t,z,a⟩ _;simp only[rT,gd,rs,nz];by_cases D:(i:Int) < (ps.length:Int)
  ·have B:i < ps.length:=om
   simp only[D,auE,i_t];obtain⟨p,R,E⟩:=ptAt C B;refine join λJ hJ=>?_;rw[aD (R w3),aD (E w3 (a.hasM 2 rfl))];obtain⟨mx,b⟩:=mi Q _ (auS B);have S:ps.take (i+1)=ps.take i++[ps[i]]:=avL B;have fin:∀(W:ao) (f g:List Nat) (e:Ent),f.length=286->g.length=30->(∀j,ca.getD j 0<=f.getD j 0∧f.getD j 0<=ca.getD j 0+1)->(∀j,cb.getD j 0<=g.getD j 0∧g.getD j 0<=cb.getD j 0+1)->ez f g ps[i]->bT M.A w W (e::[lrE s f,lrE o g,.mem M])->J [] W:=by
    intro W f g e h1 h2 T h4 h5 a;refine hJ _ _ λ_=>?_;simp only[sD,gd,rs,nz];rw[aA om om];refine bC ⟨i+1,f,g,rfl,om,h1,h2,awO u (T 256).1,?_,λj=>by have:=T j;have:=t j;omega,λj=>by have:=h4 j;have:=z j;omega,a.tail⟩ (by simp[n0,RowKit.intOf];omega);rw[S];intro x v;rcases avF.1 v with v|v
    ·exact zu (q x v) (λj=>(T j).1) (λj=>(h4 j).1)
    ·rw[avD.1 v];exact h5
   generalize ps[i]=x at b E fin;refine V7 a λxb w4 a=>?_;refine Po (y:=x) 0 a rfl λw5 a=>?_;have a:bT M.A w w5 (ptE xb x::[lrE s ca,lrE o cb,.mem M]):=a;unfold gu at b;unfold ez at fin;rw[aW HY,pt_1 a 0 rfl];simp only[rs];by_cases O:x.2.1=0
   ·rw[auC O] at b;simp only[auC O] at fin;simp only[show ai ((x.2.1:Int)=0)=aw from auG om,i_t];rw[aW Xu,pt_0 a 0 rfl];have I:=x.1.toNat_lt;have U:=t x.1.toNat;refine Z2 1 a rfl d om om λX a=>?_;have F:=pj (l:=ca) (j:=x.1.toNat) om;refine fin X (lq ca x.1.toNat) cb _ (by rw[ph];exact d) m (λj=>by rw[F];split<;>omega) (λj=>by omega) (by rw[F,auC rfl];omega) a
   ·rw[auB O] at b;simp only[auB O] at fin;obtain⟨s1,s2,s3,s4,s5,s6⟩:=mn b.2.1 b.2.2.1;obtain⟨f1,f2,f3,f4,f5⟩:=ng b.2.2.2.1 b.2.2.2.2.1;simp only[show ai ((x.2.1:Int)=0)=au from auD om,i_f];rw[aW HY,pt_1 a 0 rfl];refine aK a (Qt x.2.1 w5 b.2.1 b.2.2.1) ?_;rintro _ X rfl a;simp only[ex];rw[aW adD,pt_2 a 0 rfl];refine aK a (PY x.2.2 X b.2.2.2.1 b.2.2.2.2.1) ?_;rintro _ w7 rfl a;simp only[ex];have U:=t (bz x.2.1).1;have a7:=z (dr x.2.2).1;refine Z2 1 a rfl d om om λw8 a=>?_;refine Z2 2 a rfl m om om λw9 a=>?_;have F:=pj (l:=ca) (j:=(bz x.2.1).1) om;have G:=pj (l:=cb) (j:=(dr x.2.2).1) om;refine fin w9 (lq ca (bz x.2.1).1) (lq cb (dr x.2.2).1) _ (by rw[ph];exact d) (by rw[ph];exact m) (λj=>by rw[F];split<;>omega) (λj=>by rw[G];split<;>omega) ⟨by rw[F,auC rfl];omega,by rw[G,auC rfl];omega⟩ a
  ·simp only[D,auF,i_f];have Y:i=ps.length:=om
   subst Y;rw[awD] at q;have a:=a.toU 1 286 286 (by rw[fN,d]) (auL _) om;rw[avC,avE (by rw[fN];omega)] at a;obtain⟨N1,g1,Z,a⟩:=bT.bG (L:=[lrE o cb,.mem M]) a 1 rfl;have a:bT M.A w w3 [lrE o cb,.mem N1]:=a;have a:=a.toU 1 30 30 (by rw[fN,m]) (auL _) om;rw[avC,avE (by rw[fN];omega)] at a;obtain⟨N2,g2,a1,a⟩:=bT.bG (L:=[.mem N1]) a 0 rfl;exact hK _ _ N2 _ 0 a rfl (g1.trans g2) ⟨_,_,ca,cb,rfl,by rw[d];exact Z.le g2,by rw[m];exact a1,d,m,u,q,ra λj=>by have:=t j;omega,ra λj=>by have:=z j;omega⟩
 refine⟨?_⟩;have a:=a.drew;refine⟨?_,?_⟩
 ·refine BH (n:=286) om a λs w1 a=>⟨?_,?_⟩
  all_goals
   refine BH (n:=30) om a λo w2 a=>?_;refine body w2 s o ?_;unfold lrE;rw[H,H];exact a.perm (List.Perm.swap _ _ _)
 ·refine BH (n:=30) om a λo w1 a=>?_;refine BH (n:=286) om a λs w2 a=>?_;refine body w2 s o ?_;unfold lrE;rw[H,H];exact a
theorem Oz (l:List Nat)(v:aq)(keep:Nat)(M:Mem)(w:ao)(e:M.has w)(a:SlA M.A M.w v 1 l.length (bF l))(p:keep<=l.length)(x:0 < keep)(y:l.length<=1000000) :
  Ret ah 274 #[v,ad (keep:Int)] w (λr w'=>(∃n,keep<=n∧n<=l.length∧(∀j,n<=j->l.getD j 0=0)∧r.oneCell'=aw∧SlA M.A M.w r 1 n (bF (l.take n)))∧w=w'):=by
 refine aX λK q=>Ip ?_;unfold FL nz;rw[aZ avB (a.now e)];refine loop (λvs W=>∃n:Nat,vs=[ad (n:Int)]∧keep<=n∧n<=l.length∧(∀j,n<=j->l.getD j 0=0)∧w=W) (λvs _=>n0 vs) ⟨l.length,rfl,p,auL _,λj f=>by rw[auK,awV f];rfl,rfl⟩ ?_;rintro vs _ ⟨n,rfl,d,g,k,rfl⟩ _;simp only[Bi,gd,rs,nz];obtain⟨b,off,cap,rfl,_⟩:=bR a.1 om;have m:=a.2.2 _ _ _ rfl;have stop:DoX ah (fJ 70 (bO b off l.length cap) ax (ay (ad (n:Int))) ax) w (pk K) λt23 w=>K (.returned t23) w:=by
  refine aD (jJ avB O1 om om) |>.mpr ?_;rw[auJ];have c:=SlA.XR a (i:=n) g (λh=>by omega);rw[avC] at c;refine q _ _ ⟨⟨n,d,g,k,?_,?_⟩,rfl⟩
  ·unfold wB;split<;>rfl
  ·rw[show bF (l.take n)=(bF l).take n by unfold bF;rw[aAx]];exact c
 by_cases z:keep < n
 ·simp only[show ai ((keep:Int) < (n:Int))=aw from auG om,rs];rw[aA om om,show (n:Int) - 1=((n - 1:Nat):Int) by omega];obtain⟨b2,o,s,t⟩:=pO (a.now e) (i:=n - 1) om;refine aD (s w) |>.mpr (aD (aB aU t) |>.mpr ?_);simp only[rs];by_cases u:l[n - 1]=0
  ·simp only[show ai (((l[n - 1]:Nat):Int)=0)=aw from auG om,i_t];refine bC ⟨n - 1,rfl,om,om,λj f=>?_,rfl⟩ (by simp[n0,RowKit.intOf];omega);rcases avI j n with h|h
   ·obtain rfl:j=n - 1:=om
    rw[auK,auO om];exact u
   ·exact k j h
  ·simp only[show ai (((l[n - 1]:Nat):Int)=0)=au from auD om,i_f];exact stop
 ·simp only[show ai ((keep:Int) < (n:Int))=au from auD om,i_f,rs];exact stop
def mkC (m:bw):List Value:=[ad (m.1:Int),ad (m.2.1:Int),ad (m.2.2:Int)]
def mkV (m:bw):Value:=.agg (mkC m).toArray
theorem YP (m:bw):(mkC m).length=3:=rfl
theorem YG {m:bw}:∀u∈mkC m,u.oneCell'=true:=by
 intro u hu;simp only[mkC,auI,avP,or_false] at hu;rcases hu with rfl|rfl|rfl<;>rfl
theorem ajR {l:List bw}:∀u∈l.flatMap mkC,u.oneCell'=true:=Eng.aaU λx=>YG
theorem asX:FU ah 294=ay 3:=krx
theorem szMk:(Tryz.prog.info? 294).map (·.size)=ay 3:=krx
theorem elMk:elB ah 294 3 24=true:=krx
theorem acQ:nN ah 294 0=ay 0:=krx
theorem akF:nN ah 294 1=ay 1:=krx
theorem alI:nN ah 294 2=ay 2:=krx
abbrev Ov (v:aq)(l:List bw):Ent:=.urow 294 3 v l.length (l.flatMap mkC)
theorem xg {l:List Nat}{i c:Nat}:∀(n:Nat),i+n<=l.length->(∀j,j < n->l.getD (i+j) 0=c)->l.take (i+n)=l.take i++List.replicate n c
|0,_,_=>by simp
|n+1,h,d=>by
  have e:=xg n om λj f=>d j om;have a:i+n < l.length:=om
  have b:=d n om;rw[auK,auO a] at b;have b:l[i+n]=c:=b;rw[show i+(n+1)=i+n+1 by omega,avL a,e,b,auN,List.replicate_succ']
theorem nn (acc:List Nat)(g m:Nat)(a:g=17∨g=18):fj acc (g,m,cu g)=acc++List.replicate (dy g+m) 0:=by
 unfold fj;rcases a with rfl|rfl
 ·rw[auB (show ¬(17:Nat) < 16 by decide),auB (show ¬(17:Nat)=16 by decide)]
 ·rw[auB (show ¬(18:Nat) < 16 by decide),auB (show ¬(18:Nat)=16 by decide)]
theorem sr (acc:List Nat){c:Nat}(h:c < 16):fj acc (c,0,0)=acc++[c]:=by unfold fj;rw[auC h]
theorem zw (acc:List Nat)(c m:Nat):fj (acc++[c]) (16,m,2)=acc++List.replicate (4+m) c:=by
 unfold fj;have e:(acc++[c]).getD ((acc++[c]).length - 1) 0=c:=by
  rw[auH,awM,ayS,auK,awW (auL _),axL];rfl
 rw[auB (show ¬(16:Nat) < 16 by decide),auC (show (16:Nat)=16 from rfl),e,auN];have e2:dy 16=3:=rfl;show acc++([c]++List.replicate (dy 16+m) c)=_;rw[e2,show 4+m=(3+m)+1 by omega,aAP];rfl
theorem YT (a:SlA M.A M.w v 1 l.length (bF l))(hi:i < l.length) :
  ∃p,(∀W,(mIA 70 v (ad (i:Int))).run ah W=.ok (.value (.pointer (ay p))) W)∧∀W,M.has W->(aH 3 (.pointer (ay p))).run ah W=.ok (.value (ad (l[i]:Int))) W:=by
 obtain⟨b,off,cap,rfl,_⟩:=bR a.1 om;refine⟨⟨b,off+i,ax⟩,λW=>?_,λW e=>?_⟩
 ·have:=cZ (P:=ah) (T:=70) (b:=b) (off:=off) (cap:=cap) (n:=l.length) (k:=.i64) (i:=(i:Int)) (w:=W) avB O1 om om;rw[auJ,avC] at this;exact this
 ·obtain⟨g,c,d,he,f⟩:=bR (a.now e) om;cases he;refine aB aU (f i _ ?_);rw[Hf hi,auK,auO hi];rfl
section
variable {w:ao}{PK:PKT}{S:Nat->Prop}{w0:ao}{L T:List Ent}
theorem adK {ms new:List bw}{b:Nat}{N:VWP}(f:ms.length<=10000000)(d:new.length<=2)(a:bT S w0 W (.cells b (new.flatMap mkC) 294::Ov v' ms::T))(k:∀v2 c,bT S w0 c (Ov v2 (ms++new)::T)->N v2 c) :
  DoX ah (mB .append #[291,291] 291 #[au,au] #[v',bO b 0 new.length new.length]) W PK N:=by
 refine bZ 1 aBb elMk dc a rfl (a.sl 0 rfl 3 new.length new.length (by rw[Eng.nU YP])) ajR om om λv2 e a=>?_;refine k v2 e ?_;unfold Ov;rw[axQ,auH];exact a.tail
theorem m_mk {a c:Nat}:DoX ah (aV 294 #[(0,ad (a:Int)),(1,ad (b:Int)),(2,ad (c:Int))]) W PK K=K (mkV (a,b,c)) W:=aD krx
theorem anC {ms:List bw}{n:Nat}{N1:List aq->ao->Prop}{K:Ending->ao->Prop}(G:SlA M.A M.w v 1 l.length (bF l))(hi:i < l.length)(d:l[i] < 16)(y:1<=n)(H:n<=1000000)(I:ms.length<=1000000)(z:jd [] ms)(q:fe [] ms=l.take i)(e:bT S w0 W [Ov v' ms,.mem M])
  (emit:∀(W:ao) (v2:aq) (new:List bw) (f:Nat),1<=f->f<=n->jd [] (ms++new)->fe [] (ms++new)=l.take i++List.replicate f l[i]->bT S w0 W [Ov v2 (ms++new),.mem M]->fD v2 (ad (i:Int)) (ad (f:Int)) W N1 K) :
  Fq (λu=>
 DoX ah (mIA 70 v (ad (i:Int))) W (pk K) λt42 W=>
 DoX ah (aH 3 t42) W (pk K) λt43 W=>
 DoX ah (mEq .eql 3 (.tmp 43) (.const (ad 0)) t43 (ad 0)) W (pk K) λt44 W=>
 GDo t44 aw (λE=>E (ad (n:Int)) W) W λt46 W=>
 GDo t44 aw (λE=>DoX ah (iQ .geq 3 t46 (ad 11)) W (pk K) E) W λt47 W=>
 DoX ah (iB t44 t47 (.bool au)) W (pk K) λt48 W=>
 IfX t48 (DoX ah (mB .min #[3,3] 3 #[au,aw] #[(ad (n:Int)),(ad 138)]) W (pk K) λt50 W=>
 DoX ah (iQ .sub 3 t50 (ad 11)) W (pk K) λt53 W=>
 DoX ah (aV 294 #[(0,(ad 18)),(1,t53),(2,(ad 7))]) W (pk K) λt54 W=>
 DoX ah (aM 291 1 #[(0,t54)]) W (pk K) λt55 W=>
 DoX ah (mB .append #[291,291] 291 #[au,au] #[v',t55]) W (pk K) λt56 W=>
 u [t56,t50] W) (DoX ah (mIA 70 v (ad (i:Int))) W (pk K) λt60 W=>
 DoX ah (aH 3 t60) W (pk K) λt61 W=>
 DoX ah (mEq .eql 3 (.tmp 61) (.const (ad 0)) t61 (ad 0)) W (pk K) λt62 W=>
 GDo t62 aw (λE=>E (ad (n:Int)) W) W λt64 W=>
 GDo t62 aw (λE=>DoX ah (iQ .geq 3 t64 (ad 3)) W (pk K) E) W λt65 W=>
 DoX ah (iB t62 t65 (.bool au)) W (pk K) λt66 W=>
 IfX t66 (DoX ah (iQ .sub 3 (ad (n:Int)) (ad 3)) W (pk K) λt69 W=>
 DoX ah (aV 294 #[(0,(ad 17)),(1,t69),(2,(ad 3))]) W (pk K) λt70 W=>
 DoX ah (aM 291 1 #[(0,t70)]) W (pk K) λt71 W=>
 DoX ah (mB .append #[291,291] 291 #[au,au] #[v',t71]) W (pk K) λt72 W=>
 u [t72,(ad (n:Int))] W) (DoX ah (iQ .geq 3 (ad (n:Int)) (ad 4)) W (pk K) λt75 W=>
 IfX t75 (DoX ah (mB .min #[3,3] 3 #[au,aw] #[(ad (n:Int)),(ad 7)]) W (pk K) λt77 W=>
 DoX ah (mIA 70 v (ad (i:Int))) W (pk K) λt81 W=>
 DoX ah (aH 3 t81) W (pk K) λt82 W=>
 DoX ah (aV 294 #[(0,t82),(1,(ad 0)),(2,(ad 0))]) W (pk K) λt83 W=>
 DoX ah (iQ .sub 3 t77 (ad 4)) W (pk K) λt85 W=>
 DoX ah (aV 294 #[(0,(ad 16)),(1,t85),(2,(ad 2))]) W (pk K) λt86 W=>
 DoX ah (aM 291 2 #[(0,t83),(1,t86)]) W (pk K) λt87 W=>
 DoX ah (mB .append #[291,291] 291 #[au,au] #[v',t87]) W (pk K) λt88 W=>
 u [t88,t77] W) (DoX ah (mIA 70 v (ad (i:Int))) W (pk K) λt34 W=>
 DoX ah (aH 3 t34) W (pk K) λt35 W=>
 DoX ah (aV 294 #[(0,t35),(1,(ad 0)),(2,(ad 0))]) W (pk K) λt36 W=>
 DoX ah (aM 291 1 #[(0,t36)]) W (pk K) λt37 W=>
 DoX ah (mB .append #[291,291] 291 #[au,au] #[v',t37]) W (pk K) λt38 W=>
 u [t38,(ad 1)] W)))) (λr W=>∀_:Sg,fD (r.getD 0 undef) (ad (i:Int)) (r.getD 1 undef) W N1 K):=by
 obtain⟨p,k,j⟩:=YT G hi;have one:∀m:bw,gw (l.take i) m->jd [] (ms++[m])∧fe [] (ms++[m])=fj (l.take i) m:=λm hm=>⟨qx z (by rw[q];exact hm),by rw[vx,q]⟩;generalize l[i]=c at d j emit;refine join λJ L=>?_;have go:∀(W:ao) (v2:aq) (f:Nat),fD v2 (ad (i:Int)) (ad (f:Int)) W N1 K->J [v2,ad (f:Int)] W:=λW v2 f h=>L _ _ λ_=>h;have o:=e.hasM 1 rfl;refine aD (k W) |>.mpr (aD (j W o) |>.mpr ?_);simp only[rs];have g:∀(m:bw) (f:Nat) (W:ao),1<=f->f<=n->gw (l.take i) m->fj (l.take i) m=l.take i++List.replicate f c->bT S w0 W [Ov v' ms,.mem M]->∀PK:PKT,
   DoX ah (aM 291 1 #[(0,mkV m)]) W PK λt W=>DoX ah (mB .append #[291,291] 291 #[au,au] #[v',t]) W PK λt W=>J [t,ad (f:Int)] W:=by
  intro m f W N O C x e PK;refine bK (λb=>bO b 0 1 1) (mkC m) 294 (λ_=>by kernel_rfl) e λD F e=>?_;have e:bT S w0 F [.cells D ([m].flatMap mkC) 294,Ov v' ms,.mem M]:=by
   rw[ayP];exact e
  refine adK (new:=[m]) om sm e λv2 w2 e=>?_;obtain⟨a,b⟩:=one m C;exact go _ _ _ (emit w2 v2 [m] f N O a (by rw[b,x]) e)
 have i11:∀m:Nat,dy 18+m=11+m:=λ_=>rfl;have i3:∀m:Nat,dy 17+m=3+m:=λ_=>rfl;have last:(∀PK:PKT,DoX ah (aM 291 1 #[(0,mkV (c,0,0))]) W PK λt W=>DoX ah (mB .append #[291,291] 291 #[au,au] #[v',t]) W PK λt W=>J [t,ad ((1:Nat):Int)] W):=
  g (c,0,0) 1 W om y (by unfold gw;rw[auC d];exact⟨rfl,rfl⟩) (by rw[sr _ d];rfl) e
 have fourth:4<=n->∀PK:PKT,DoX ah (aM 291 2 #[(0,mkV (c,0,0)),(1,mkV (16,min n 7 - 4,2))]) W PK λt W=>DoX ah (mB .append #[291,291] 291 #[au,au] #[v',t]) W PK λt W=>J [t,ad ((min n 7:Nat):Int)] W:=by
  intro x PK;refine bK (λb=>bO b 0 2 2) (mkC (c,0,0)++mkC (16,min n 7 - 4,2)) 294 (λ_=>by kernel_rfl) e λD F e=>?_;refine adK (new:=[(c,0,0),(16,min n 7 - 4,2)]) om sm e λv2 w2 e=>?_;have P:gw (l.take i) (c,0,0):=by unfold gw;rw[auC d];exact⟨rfl,rfl⟩
  obtain⟨Q,B⟩:=one _ P;rw[sr _ d] at B;have R:gw (fe [] (ms++[(c,0,0)])) (16,min n 7 - 4,2):=by
   rw[B];unfold gw;rw[auB (show ¬(16:Nat) < 16 by decide)];refine⟨show (16:Nat)<=18 by decide,rfl,by show min n 7 - 4 < 4;omega,λ_=>by simp⟩
  have a2:=qx Q R;have b2:=vx [] (ms++[(c,0,0)]) (16,min n 7 - 4,2);rw[B,zw,show 4+(min n 7 - 4)=min n 7 by omega] at b2;rw[auN] at a2 b2;exact go _ _ _ (emit w2 v2 _ (min n 7) om om a2 b2 e)
 have T:min (n:Int) 7=((min n 7:Nat):Int):=om
 have s:min (n:Int) 138=((min n 138:Nat):Int):=om
 by_cases U:c=0
 ·subst U;simp only[show ai (((0:Nat):Int)=0)=aw from rfl,rs];by_cases V:11<=n
  ·simp only[show ai ((11:Int)<=(n:Int))=aw from auG om,i_t,rs];rw[Li,s];simp only[rs];rw[aA om om,show ((min n 138:Nat):Int) - 11=((min n 138 - 11:Nat):Int) by omega];refine (m_mk (a:=18) (b:=min n 138 - 11) (c:=7)).mpr ?_;refine g (18,min n 138 - 11,7) (min n 138) W om om ?_ ?_ e _
   ·unfold gw;rw[auB (show ¬(18:Nat) < 16 by decide)];exact⟨show (18:Nat)<=18 by decide,rfl,by show min n 138 - 11 < 128;omega,λh=>absurd h (show ¬(18:Nat)=16 by decide)⟩
   ·have:=nn (l.take i) 18 (min n 138 - 11) (.inr rfl);rw[i11,show 11+(min n 138 - 11)=min n 138 by omega] at this;exact this
  ·simp only[show ai ((11:Int)<=(n:Int))=au from auD om,i_f,rs];refine aD (k W) |>.mpr (aD (j W o) |>.mpr ?_);simp only[show ai (((0:Nat):Int)=0)=aw from rfl,rs];by_cases C:3<=n
   ·simp only[show ai ((3:Int)<=(n:Int))=aw from auG om,i_t,rs];rw[aA om om,show (n:Int) - 3=((n - 3:Nat):Int) by omega];refine (m_mk (a:=17) (b:=n - 3) (c:=3)).mpr ?_;refine g (17,n - 3,3) n W om om ?_ ?_ e _
    ·unfold gw;rw[auB (show ¬(17:Nat) < 16 by decide)];exact⟨show (17:Nat)<=18 by decide,rfl,by show n - 3 < 8;omega,λh=>absurd h (show ¬(17:Nat)=16 by decide)⟩
    ·have:=nn (l.take i) 17 (n - 3) (.inl rfl);rw[i3,show 3+(n - 3)=n by omega] at this;exact this
   ·simp only[show ai ((3:Int)<=(n:Int))=au from auD om,i_f,rs];simp only[show ai ((4:Int)<=(n:Int))=au from auD om,i_f,rs];refine aD (k W) |>.mpr (aD (j W o) |>.mpr ?_);refine (m_mk (a:=0) (b:=0) (c:=0)).mpr ?_;exact last _
 ·simp only[show ai ((c:Int)=0)=au from auD om,i_f,rs];refine aD (k W) |>.mpr (aD (j W o) |>.mpr ?_);simp only[show ai ((c:Int)=0)=au from auD om,i_f,rs];by_cases x:4<=n
  ·simp only[show ai ((4:Int)<=(n:Int))=aw from auG om,i_t,rs];rw[Li,T];refine aD (k W) |>.mpr (aD (j W o) |>.mpr ?_);refine (m_mk (a:=c) (b:=0) (c:=0)).mpr ?_;simp only[rs];rw[aA om om,show ((min n 7:Nat):Int) - 4=((min n 7 - 4:Nat):Int) by omega];refine (m_mk (a:=16) (b:=min n 7 - 4) (c:=2)).mpr ?_;exact fourth x _
  ·simp only[show ai ((4:Int)<=(n:Int))=au from auD om,i_f,rs];refine aD (k W) |>.mpr (aD (j W o) |>.mpr ?_);refine (m_mk (a:=c) (b:=0) (c:=0)).mpr ?_;exact last _
end
theorem U7 (l:List Nat)(v:aq)(M:Mem)(w:ao)(G:M.has w)(g:SlA M.A M.w v 1 l.length (bF l))(R:l.length<=1000000)(s:∀x∈l,x<=15) :
  jR ah 275 #[v] M w (λr N=>∃ms:List bw,jd [] ms∧fe [] ms=l∧r.oneCell'=aw∧SlA N.A N.w r 3 ms.length (ms.flatMap mkC)):=by
 refine bB G λK I=>Fo ?_;unfold BD nz;have b:bT M.A w w [.mem M]:=bT.memS G;have b:bT M.A w w [.urow 294 3 cI 0 [],.mem M]:=bT.nilU (L:=[.mem M]) b _ _;refine loop (λvs W=>∃(i:Nat) (v':aq) (ms:List bw),vs=[v',ad (i:Int)]∧i<=l.length∧jd [] ms∧fe [] ms=l.take i∧bT M.A w W [Ov v' ms,.mem M]) (λvs _=>l.length - n1 vs) ⟨0,cI,[],rfl,om,trivial,rfl,b⟩ ?_;clear b;rintro vs J ⟨i,v',ms,rfl,hi,k,c,b⟩ _;simp only[wA,gd,nz];rw[aZ avB (g.now (b.hasM 1 rfl))];simp only[rs];have m:=mr ms [];rw[c,auM] at m;simp only[ayA,auP] at m;by_cases o:(i:Int) < (l.length:Int)
 case neg=>
  simp only[o,auF,i_f];have t:i=l.length:=om
  subst t;rw[awD] at c;have u:=bX (b.at_ 0 rfl);obtain⟨N1,g1,y,b⟩:=bT.bG (L:=[.mem M]) b 0 rfl;exact I _ _ N1 _ 0 b rfl g1 ⟨ms,k,c,u,y⟩
 simp only[o,auE,i_t];have d:i < l.length:=om
 obtain⟨S,z,B⟩:=YT g d;have p:=s _ (auS d);have C:l.getD i 0=l[i]:=by rw[auK,auO d];rfl
 refine loop (λvs W=>∃n:Nat,vs=[ad (n:Int)]∧1<=n∧i+n<=l.length∧(∀j,j < n->l.getD (i+j) 0=l[i])∧bT M.A w W [Ov v' ms,.mem M]) (λvs _=>l.length+1 - n0 vs) ⟨1,rfl,om,om,λj H=>by rw[show j=0 by omega];exact C,b⟩ ?_;clear b;rintro vs w2 ⟨n,rfl,D,O,e,b⟩ _;simp only[xJ,gd,nz];have emit:∀(W:ao) (v2:aq) (new:List bw) (f:Nat),1<=f->f<=n->jd [] (ms++new)->fe [] (ms++new)=l.take i++List.replicate f l[i]->bT M.A w W [Ov v2 (ms++new),.mem M]->fD v2 (ad (i:Int)) (ad (f:Int)) W (Vg (λvs W=>∃(i:Nat) (v':aq) (ms:List bw),vs=[v',ad (i:Int)]∧i<=l.length∧jd [] ms∧fe [] ms=l.take i∧bT M.A w W [Ov v' ms,.mem M]) (λvs _=>l.length - n1 vs) [v',ad (i:Int)] J) K:=by
  intro W v2 new f T U P Q b;simp only[fD,rs,nz];rw[aA om om];refine bC ⟨i+f,v2,ms++new,by congr 2,om,P,?_,b⟩ (by simp[n1,RowKit.intOf];omega);rw[Q,xg f om λj H=>e j om]
 have stop:=λ(W:ao) (b:bT M.A w W [Ov v' ms,.mem M])=>anC g d (Nat.lt_succ_of_le p) D om om k c b emit;refine cY (λW=>bT M.A w W [Ov v' ms,.mem M]) b.drew ?_;refine sW ?_;rw[aA om om,show (i:Int)+(n:Int)=((i+n:Nat):Int) by omega];refine gA (ad (l.length:Int)) (λW h=>?_) (Lu ?_)
 ·obtain⟨_,a,cap,rfl,_⟩:=g.1;exact Hh avB
 by_cases q:i+n < l.length
 case neg=>
  rw[auD (show ¬((i+n:Nat):Int) < (l.length:Int) by omega)];simp only[gq];refine F9 ?_;intro w3 b;simp only[i_f];exact stop w3 b
 rw[auG (show ((i+n:Nat):Int) < (l.length:Int) by omega)];simp only[gq];obtain⟨V,E,F⟩:=YT g q;refine sW ?_;rw[aA om om,show (i:Int)+(n:Int)=((i+n:Nat):Int) by omega];refine dY _ E (gA _ (λW h=>F W (h.hasM 1 rfl)) ?_);refine dY _ z (gA _ (λW h=>B W (h.hasM 1 rfl)) (q_eq (MZ ?_)));intro w3 b;by_cases he:l[i+n]=l[i]
 ·rw[auG (show ((l[i+n]:Nat):Int)=((l[i]:Nat):Int) by omega)];simp only[i_t,rs];rw[aA om om];refine bC ⟨n+1,rfl,om,om,λj H=>?_,b⟩ (by simp[n0,RowKit.intOf];omega);rcases avI j n with h|h
  ·exact e j h
  ·rw[show j=n by omega,auK,auO q];exact he
 ·rw[auD (show ¬((l[i+n]:Nat):Int)=((l[i]:Nat):Int) by omega)];simp only[i_f];exact stop w3 b
def ordV:Value:=.agg (bF cm).toArray
theorem apR:FU ah 295=ay 19:=krx
theorem arU:(Tryz.prog.info? 295).map (·.size)=ay 19:=krx
theorem QS (w:ao):Ret ah 276 #[] w (λv w'=>v=ordV∧Below w.heap.size w w'):=by
 refine aX λK c=>Ey ?_;unfold zD nz;refine bK (λb=>af b 0) (List.replicate 19 (ad 0)) 295 (λ_=>by kernel_rfl) (Own.start w) λb d a=>?_;have e:∀W:ao,(aV 295 #[(0,(ad 16)),(1,(ad 17)),(2,(ad 18)),(3,(ad 0)),(4,(ad 8)),(5,(ad 7)),(6,(ad 9)),(7,(ad 6)),(8,(ad 10)),(9,(ad 5)),(10,(ad 11)),(11,(ad 4)),(12,(ad 12)),(13,(ad 3)),(14,(ad 13)),(15,(ad 2)),(16,(ad 14)),(17,(ad 1)),(18,(ad 15))]).run ah W=.ok (.value ordV) W:=λW=>by kernel_rfl
 refine aD (e d) |>.mpr ?_;refine B9 0 a rfl (new:=bF cm) arU Ge (by show 0+19<=19;omega) λw2 a=>?_;exact eN (bJ (a.agg (cs:=bF cm) 0 rfl apR)) (c _ _ ⟨rfl,a.done⟩)
theorem ajW (hi:i < 19)(W:ao):(mIx 295 ordV (ad (i:Int))).run ah W=.ok (.value (ad ((cm.getD i 0:Nat):Int))) W:=by
 rcases lt19 hi with rfl|rfl|rfl|rfl|rfl|rfl|rfl|rfl|rfl|rfl|rfl|rfl|rfl|rfl|rfl|rfl|rfl|rfl|rfl<;>kernel_rfl
theorem re:∀{l:List bw} {acc:List Nat},jd acc l->∀m∈l,m.1<=18∧m.2.1 < 2 ^ m.2.2∧m.2.2<=7
|m::l,acc,h,x,b=>by
  rcases auI.1 b with rfl|b
  ·have a:=h.1;unfold gw at a;by_cases c:x.1 < 16
   ·rw[auC c] at a;rw[a.1,a.2];exact⟨om,dc,dc⟩
   ·rw[auB c] at a;refine⟨a.1,a.2.2.1,?_⟩;rw[a.2.1];unfold cu;split
    ·decide
    ·split<;>decide
  ·exact re h.2 x b
theorem xh {cl:List Nat}(a:∀x∈cl,x<=15):∀{l:List bw},(∀m∈l,m.2.2<=7)->(gj cl l).length<=22*l.length
|[],_=>auL _
|m::l,h=>by
  have d:=h m (avQ ..);have b:=xh a (l:=l) λy c=>h y (auZ _ c);have f:cl.getD m.1 0<=15:=je a dc _;unfold gj at b ⊢;rw[awZ,auH,auX];have e:(ku cl m).length=cl.getD m.1 0+m.2.2:=by
   unfold ku;rw[auH,fo,bt]
  omega
theorem aai (cl:List Nat)(l:List bw)(m:bw):gj cl (l++[m])=gj cl l++dp cl m.1++bg m.2.1 m.2.2:=by
 unfold gj;rw[axQ,ayP,auN];rfl
def gi (cl:List Nat)(k:Nat):List Nat:=(List.range k).map λi=>cl.getD (cm.getD i 0) 0
theorem rh (cl:List Nat)(k:Nat):(gi cl k).length=k:=by simp[gi]
theorem xi {k:Nat}(h:i < k):(gi cl k).getD i 0=cl.getD (cm.getD i 0) 0:=by
 rw[auK];simp[gi,h]
theorem aaj (cl:List Nat)(k:Nat):gi cl (k+1)=gi cl k++[cl.getD (cm.getD k 0) 0]:=by
 unfold gi;rw[azZ,avM];rfl
abbrev mkE (b:Nat)(m:bw):Ent:=.cells b (mkC m) 294
theorem mkAt {l:List bw}(a:SlA M.A M.w v 3 l.length (l.flatMap mkC))(hi:i < l.length) :
  ∃p,(∀W,(mIA 291 v (ad (i:Int))).run ah W=.ok (.value (.pointer (ay p))) W)∧∀W,M.has W->(aH 294 (.pointer (ay p))).run ah W=.ok (.value (mkV l[i])) W:=by
 obtain⟨b,off,cap,rfl,_⟩:=bR a.1 om;refine⟨⟨b,off+i*3,ax⟩,λW=>?_,λW e=>?_⟩
 ·have:=cZ (P:=ah) (T:=291) (b:=b) (off:=off) (cap:=cap) (n:=l.length) (k:=.i64) (i:=(i:Int)) (w:=W) aBb szMk om om;rw[auJ] at this;exact this
 ·obtain⟨h,c,d,he,f⟩:=bR (a.now e) om;cases he;refine aY (AtV.agg asX (cs:=mkC l[i]) rfl λj u g=>?_);rw[awU];exact f _ _ (Eng.nO YP hi g)
section
variable {w:ao}{PK:PKT}{K:VWP}{S:Nat->Prop}{w0:ao}{L T:List Ent}
theorem akE (a:bT S w0 w L)(k:∀b w',bT S w0 w' (mkE b (0,0,0)::L)->K (af b 0) w'):DoX ah (fK 294) w PK K:=
 bK (λb=>af b 0) (mkC (0,0,0)) 294 (λ_=>by kernel_rfl) a k
theorem adY (j:Nat){x y:bw}(a:bT S w0 w L)(hi:L[j]?=ay (mkE b x))(k:∀w',bT S w0 w' (L.set j (mkE b y))->K undef w') :
  DoX ah (aN 294 (af b 0) (mkV y)) w PK K:=B9 j a hi (new:=mkC y) szMk YG (by show 0+3<=3;omega) k
theorem mk_0 (a:bT S w0 w L)(j:Nat){x:bw}(hi:L[j]?=ay (mkE b x)):DoX ah (aH 3 (af b (0+0))) w PK K=K (ad (x.1:Int)) w:=aJ aU (a.cell j hi 0 rfl)
theorem mk_1 (a:bT S w0 w L)(j:Nat){x:bw}(hi:L[j]?=ay (mkE b x)):DoX ah (aH 3 (af b (0+1))) w PK K=K (ad (x.2.1:Int)) w:=aJ aU (a.cell j hi 1 rfl)
theorem mk_2 (a:bT S w0 w L)(j:Nat){x:bw}(hi:L[j]?=ay (mkE b x)):DoX ah (aH 3 (af b (0+2))) w PK K=K (ad (x.2.2:Int)) w:=aJ aU (a.cell j hi 2 rfl)
end
theorem ri (counts:List Nat):(di counts).length<=counts.length:=by
 unfold di;have:=aAZ (λs=>ai (0 < counts.getD s 0)) (List.range counts.length)
 rwa [aA0] at this
theorem apB {K:Ending->ao->Prop}{sa sb mv iv:aq}{q g tt:Nat}{ps:List bo}{f D a b lc:List Nat}{ms:List bw}{ka kb nin:Nat}
  (c:bT S w0 W [.cells q (prC g tb) 283,.mem N]) (b4:TbW N.A N.w g f) (b5:TbW N.A N.w tb D) (b6:TbW N.A N.w tt lc) (b7:f=a++List.replicate ka 0) (b8:D=b++List.replicate kb 0)
  (b9:bn f=0) (c0:bn D=0) (c1:bn lc=0) (d:∀x∈f,x<=15) (r:∀x∈D,x<=15) (I:∀x∈lc,x<=7) (j3:lc.length=19)
  (j4:257<=a.length) (h5:a.length<=286) (j5:1<=b.length) (h6:b.length<=30) (hk:4<=nin) (j6:nin<=19) (h0:∀i,nin<=i->i < 19->lc.getD (cm.getD i 0) 0=0)
  (c2:SlA N.A N.w sa 1 a.length (bF a)) (c3:SlA N.A N.w sb 1 b.length (bF b)) (E:SlA N.A N.w iv 1 (gi lc nin).length (bF (gi lc nin))) (J:SlA N.A N.w mv 3 ms.length (ms.flatMap mkC)) (c4:SlA N.A N.w pv 3 ps.length (ps.flatMap ptC))
  (c5:∀m∈ms,0 < lc.getD m.1 0) (c6:jd [] ms) (c7:fe [] ms=a++b) (L:0 < f.getD 256 0) (hh:∀x∈ps,ez f D x) (M:iq 0 ps) (c8:ps.length<=1048576)
  (k:∀W,bT S w0 W [.cells q (prC g tb) 283,.mem N]->K (.returned (ae (bf (me a b lc nin ms ps)))) W) :
  cR ah 262 #[] W (pk K) λt102 W=>
 cR ah 263 #[t102,(ad 1),(ad 1)] W (pk K) λt104 W=>
 cR ah 263 #[t102,(ad 2),(ad 2)] W (pk K) λt106 W=>
 DoX ah (mB .len #[70] 3 #[au] #[sa]) W (pk K) λt109 W=>
 DoX ah (iQ .sub 3 t109 (ad 257)) W (pk K) λt110 W=>
 cR ah 263 #[t102,t110,(ad 5)] W (pk K) λt111 W=>
 DoX ah (mB .len #[70] 3 #[au] #[sb]) W (pk K) λt114 W=>
 DoX ah (iQ .sub 3 t114 (ad 1)) W (pk K) λt115 W=>
 cR ah 263 #[t102,t115,(ad 5)] W (pk K) λt116 W=>
 DoX ah (mB .len #[70] 3 #[au] #[iv]) W (pk K) λt119 W=>
 DoX ah (iQ .sub 3 t119 (ad 4)) W (pk K) λt120 W=>
 cR ah 263 #[t102,t120,(ad 4)] W (pk K) λt121 W=>
 DoX ah (mB .len #[70] 3 #[au] #[iv]) W (pk K) λt123 W=>
 Es [(ad 0)] W (λc9 W N3=>∀_:Sg,rH pv (af q 0) mv (af tt 0) t102 iv t123 (c9.getD 0 undef) W N3 K):=by
 have O:=rh lc nin;have e:∀x∈lc,x<=15:=λx hx=>axO (I x hx) dc;have P:=re c6;have Q:=mr ms [];rw[c7,auH] at Q;simp only[ayA,auP] at Q;refine V2 c λwb w7 c=>?_;refine pV (x:=1) (n:=1) c (λb hb=>by cases hb) (.inl rfl) om dc sm λh7 v1 w8 e0 c=>?_;rw[avU] at c;have R:=eh 1 1;refine pV (x:=2) (n:=2) c R e0 om dc (by rw[bt];decide) λh8 v2 w9 e1 c=>?_;have T:=bu R (eh 2 2);rw[aZ avB (c2.now (c.hasM 3 rfl))];simp only[rs];rw[aA om om,show (a.length:Int) - 257=((a.length - 257:Nat):Int) by omega];refine pV (n:=5) c T e1 om om (by simp[bt]) λU v3 j7 V c=>?_;have X:=bu T (eh (a.length - 257) 5);rw[aZ avB (c3.now (c.hasM 3 rfl))]
 try simp only[rs]
 rw[aA om om,show (b.length:Int) - 1=((b.length - 1:Nat):Int) by omega];refine pV (n:=5) c X V om om (by simp[bt]) λh9 v4 j8 e2 c=>?_;have Y:=bu X (eh (b.length - 1) 5);rw[aZ avB (E.now (c.hasM 3 rfl)),O]
 try simp only[rs]
 rw[aA om om,show (nin:Int) - 4=((nin - 4:Nat):Int) by omega];refine pV (n:=4) c Y e2 om om (by simp[bt]) λs v5 e3 Z c=>?_;have F:=bu Y (eh (nin - 4) 4);rw[aZ avB (E.now (c.hasM 3 rfl)),O];have e4:(bg 1 1++bg 2 2++bg (a.length - 257) 5++bg (b.length - 1) 5++bg (nin - 4) 4).length=17:=by simp[bt]
 have hB:bg 1 1++bg 2 2++bg (a.length - 257) 5++bg (b.length - 1) 5++bg (nin - 4) 4++iy lc nin++gj lc ms++dh f D ps=me a b lc nin ms ps:=by
  rw[b7,b8,aac];unfold me;simp only[auN]
 generalize bg 1 1++bg 2 2++bg (a.length - 257) 5++bg (b.length - 1) 5++bg (nin - 4) 4=B at c e4 hB F;refine loop (λvs W=>∃(i:Nat) (way:Int) (v:aq),vs=[ad (i:Int)]∧i<=nin∧(way=0∨way=1)∧bT S w0 W (Wr wb way (B++iy lc i) v [.cells q (prC g tb) 283,.mem N])) (λvs _=>nin - n0 vs) ⟨0,s,v5,rfl,om,Z,by show bT S w0 e3 (Wr wb s (B++[]) v5 _);rw[avA];exact c⟩ ?_;clear c Z;rintro vs G ⟨i,way,v,rfl,hi,hw,c⟩ _;simp only[rH,gd,rs,nz];have j0:=mw lc i;by_cases a1:(i:Int) < (nin:Int)
 ·simp only[a1,auE,i_t];obtain⟨p,ia,ld⟩:=YT E (i:=i) om;refine aD (ia G) |>.mpr (aD (ld G (c.hasM 3 rfl)) |>.mpr ?_);have e5:(gi lc nin)[i]'(om)=lc.getD (cm.getD i 0) 0:=by
   have:=xi (cl:=lc) (k:=nin) (i:=i) om;rw[auK,auO om] at this;exact this
  rw[e5];have hle:lc.getD (cm.getD i 0) 0<=7:=je I dc _;refine pV (n:=3) c (bu F (qz _ _)) hw om om (by rw[auH];omega) λa6 v6 j9 e6 c=>?_;rw[auN,<-qy] at c
  try simp only[rs]
  rw[aA om om];exact bC ⟨i+1,a6,v6,rfl,om,e6,c⟩ (by simp[n0,RowKit.intOf];omega)
 simp only[a1,auF,i_f];have e7:i=nin:=om
 subst e7;rw[aZ aBb (J.now (c.hasM 3 rfl))];have a7:=bu F (qz lc i);have e8:(B++iy lc i).length<=100:=by rw[auH];omega
 generalize B++iy lc i=H at c a7 e8 hB;refine loop (λvs W=>∃(j:Nat) (way:Int) (v:aq),vs=[ad (j:Int)]∧j<=ms.length∧(way=0∨way=1)∧bT S w0 W (Wr wb way (H++gj lc (ms.take j)) v [.cells q (prC g tb) 283,.mem N])) (λvs _=>ms.length - n0 vs) ⟨0,way,v,rfl,om,hw,by show bT S w0 G (Wr wb way (H++[]) v _);rw[avA];exact c⟩ ?_;clear c hw;rintro vs a8 ⟨j,way,v,rfl,hj,hw,c⟩ _;simp only[Bg,gd,rs,nz];have t:=xh e (l:=ms.take j) λm hm=>(P m (awN hm)).2.2;rw[auM,avO hj] at t;have h:=bu a7 (vy lc (ms.take j));by_cases z:(j:Int) < (ms.length:Int)
 ·simp only[z,auE,i_t];have o:j < ms.length:=om
  obtain⟨p,ia,ld⟩:=mkAt J o;refine aD (ia a8) |>.mpr (aD (ld a8 (c.hasM 3 rfl)) |>.mpr ?_);have b0:=P _ (auS o);have b1:=c5 _ (auS o);have b2:ms.take (j+1)=ms.take j++[ms[j]]:=avL o;generalize ms[j]=m at b0 b1 b2;refine akE c λxb k0 c=>?_;refine adY (y:=m) 0 c rfl λb3 c=>?_;have c:bT S w0 b3 ([mkE xb m]++(Wr wb way (H++gj lc (ms.take j)) v []++[.cells q (prC g tb) 283,.mem N])):=c;have c:bT S w0 b3 (Wr wb way (H++gj lc (ms.take j)) v (mkE xb m::[.cells q (prC g tb) 283,.mem N])):=c.front;rw[aW acQ,mk_0 c 2 rfl];refine EC (jm:=2) (i:=m.1) c rfl b6 c1 e b1 h hw (by rw[auH];omega) λj1 v8 k1 e9 c=>?_;have h1:lc.getD m.1 0<=15:=je e dc _;rw[aW akF,mk_1 c 2 rfl,aW alI,mk_2 c 2 rfl];refine pV c (bu h (lr _ _)) e9 om b0.2.1 (by simp only[auH,fo];omega) λC v9 h2 h3 c=>?_
  try simp only[rs]
  rw[aA om om];refine bC ⟨j+1,C,v9,rfl,om,h3,?_⟩ (by simp[n0,RowKit.intOf];omega);rw[b2,aai,<-auN,<-auN];have c:bT S w0 h2 ((Wr wb C (H++gj lc (ms.take j)++dp lc m.1++bg m.2.1 m.2.2) v9 [])++([mkE xb m]++[.cells q (prC g tb) 283,.mem N])):=c;exact c.front.tail
 simp only[z,auF,i_f];have h4:j=ms.length:=om
 subst h4;rw[awD] at c h t;refine aD (aY (AtV.agg aoE (cs:=prC g tb) rfl λj u hj=>by rw[auP];exact c.cell 2 rfl j hj)) |>.mpr ?_;refine Tc (jm:=1) c rfl b4 b5 b9 c0 d r L c4 hh M c8 h hw (by rw[auH];omega) λU v3 k2 V c=>?_;rw[hB] at c;have j2:=pg d r (l:=ps) λx hx=>mi M x hx;have h1:f.getD 256 0<=15:=je d dc _;have k3:(me a b lc i ms ps).length=H.length+(gj lc ms).length+((ps.flatMap (ff f D)).length+f.getD 256 0):=by
  rw[<-hB,auH,auH];unfold dh;rw[auH,fo]
 refine Rc c om om λW c=>?_;exact k W c
theorem Zu (ps:List bo)(pv:aq)(M:Mem)(w:ao)(hM:M.has w)(c0:SlA M.A M.w pv 3 ps.length (ps.flatMap ptC))(a6:iq 0 ps)(c1:ps.length<=1048576) :
  jR ah 244 #[pv] M w (λv _=>∃R,v=ae (bf R)∧bp R∧ja R (fu [] ps)):=by
 refine bB hM λK hK=>Is ?_;unfold E3 nz;have d:bT M.A w w [.mem M]:=bT.memS hM;refine bH d 0 rfl (PI ps pv M w hM c0 a6 c1) ?_;rintro _ N1 w1 g1 ⟨va,vb,ca,cb,rfl,j0,j1,j2,j3,c2,c3,c4,c5⟩ d;simp only[ex];refine bH d 0 rfl (AV ca 15 va N1 w1 (d.hasM 0 rfl) j0 om om c4 om om (by have:=ri ca;have e:(2:Nat) ^ 15=32768:=rfl;omega)) ?_;rintro _ N2 w2 g2 ⟨N,c6,rfl,f,k8,O⟩ d;simp only[ex];refine bH d 0 rfl (AV cb 15 vb N2 w2 (d.hasM 0 rfl) (j1.le g2) om om c5 om om (by have:=ri cb;have e:(2:Nat) ^ 15=32768:=rfl;omega)) ?_;rintro _ N3 w3 g3 ⟨lb,c7,rfl,g,k9,Q⟩ d;simp only[ex];have l0:N.length=286:=by rw[f.len,j2]
 have l1:lb.length=30:=by rw[g.len,j3]
 refine bK (λb=>af b 0) [.pointer ax,.pointer ax] 283 (λ_=>by kernel_rfl) d λs w4 d=>?_;refine bH d 1 rfl (Bo N c6 N3 w4 f.le om om (d.hasM 1 rfl) (O.le g3)) ?_;rintro _ N4 w5 g4 h4 d;rw[auB (by rw[f.chk];exactλh=>h rfl)] at h4;obtain⟨t,rfl,a7⟩:=h4;simp only[ex];rw[aW PL];refine aO 0 d rfl krx rfl (by show 0+0 < 2;omega) λw6 d=>?_;refine bH d 1 rfl (Bo lb c7 N4 w6 g.le om om (d.hasM 1 rfl) (Q.le g4)) ?_;rintro _ N5 w7 g5 h5 d;rw[auB (by rw[g.chk];exactλh=>h rfl)] at h5;obtain⟨tb,rfl,j4⟩:=h5;simp only[ex];rw[aW XO];refine aO 0 d rfl krx rfl (by show 0+1 < 2;omega) λw8 d=>?_;have d:bT M.A w w8 [.cells s (prC t tb) 283,.mem N5]:=d;have a7:=TbW.le g5 a7;have a8:=O.le (g3.trans (g4.trans g5));have b0:=Q.le (g4.trans g5);refine Eh (Oz N c6 257 N5 w8 (d.hasM 1 rfl) a8 om om om) ?_;rintro sa _ ⟨⟨na,l5,c8,j5,l2,q⟩,rfl⟩;refine Eh (Oz lb c7 1 N5 w8 (d.hasM 1 rfl) b0 om om om) ?_;rintro sb _ ⟨⟨nb,l6,c9,j6,l3,r⟩,rfl⟩;have B:=wz c8 j5;have I:=wz c9 j6;have e0:(N.take na).length=na:=by rw[auM];omega
 have e1:(lb.take nb).length=nb:=by rw[auM];omega
 have C:∀x∈N.take na,x<=15:=λx k=>f.le x (awN k);have D:∀x∈lb.take nb,x<=15:=λx k=>g.le x (awN k);generalize N.take na=a at B e0 C q;generalize lb.take nb=b at I e1 D r;rw[<-e0] at q;rw[<-e1] at r;refine VX d λv0 w9 d=>?_;refine sR 0 d rfl (q.now (d.hasM 2 rfl)) Ge om λv1 l7 d=>?_;refine sR 0 d rfl (r.now (d.hasM 2 rfl)) Ge om λv2 e2 d=>?_;have d:bT M.A w e2 (.urow 3 1 v2 (a++b).length (bF (a++b))::[.cells s (prC t tb) 283,.mem N5]):=by
  rw[pA,auH];rw[auP,avU] at d;exact d
 obtain⟨N6,g6,j7,d⟩:=bT.bG (L:=[.cells s (prC t tb) 283,.mem N5]) d 1 rfl;refine bH d 1 rfl (U7 (a++b) v2 N6 e2 (d.hasM 1 rfl) j7 (by rw[auH];omega) (λx k=>(avF.1 k).elim (C x) (D x))) ?_;rintro mv N7 j8 g7 ⟨ms,b1,b2,l8,b4⟩ d;have d:bT M.A w j8 [.cells s (prC t tb) 283,.mem N7]:=d;have j9:=re b1;have e3:=mr ms [];rw[b2,auH] at e3;simp only[ayA,auP] at e3;refine BH (n:=19) om d λgo l9 d=>?_;have hz:bF (List.replicate 19 0)=List.replicate 19 (ad 0):=by simp[bF]
 rw[<-hz] at d;rw[aZ aBb (b4.now (d.hasM 2 rfl))];refine loop (λvs W=>∃(i:Nat) (co:List Nat),vs=[ad (i:Int)]∧i<=ms.length∧co.length=19∧(∀m∈ms.take i,0 < co.getD m.1 0)∧(∀j,co.getD j 0<=i)∧bT M.A w W [lrE go co,.cells s (prC t tb) 283,.mem N7]) (λvs _=>ms.length - n0 vs) ⟨0,List.replicate 19 0,rfl,om,avW,(λm hm=>by cases hm),λj=>by
  refine je (P:=λc=>c<=0) (λc hc=>?_) (auL 0) j;rw[axV hc];exact auL 0,d⟩ ?_
 clear d;rintro vs b5 ⟨i,co,rfl,hi,E,b6,F,d⟩ _;simp only[Bn,gd,rs,nz];by_cases e4:(i:Int) < (ms.length:Int)
 ·simp only[e4,auE,i_t];have b7:i < ms.length:=om
  obtain⟨p,ia,ld⟩:=mkAt b4 b7;refine aD (ia b5) |>.mpr (aD (ld b5 (d.hasM 2 rfl)) |>.mpr ?_);have k0:=j9 _ (auS b7);have e5:ms.take (i+1)=ms.take i++[ms[i]]:=avL b7;generalize ms[i]=m at k0 e5;refine akE d λxb m0 d=>?_;refine adY (y:=m) 0 d rfl λk1 d=>?_;have d:bT M.A w k1 (mkE xb m::[lrE go co,.cells s (prC t tb) 283,.mem N7]):=d;rw[aW acQ,mk_0 d 0 rfl];have m1:=F m.1;refine Z2 1 d rfl E om om λm2 d=>?_
  try simp only[rs]
  rw[aA om om];have hg:=pj (l:=co) (j:=m.1) om;refine bC ⟨i+1,lq co m.1,rfl,om,by rw[ph];exact E,?_,λj=>by rw[hg];have:=F j;split<;>omega,d.tail⟩ (by simp[n0,RowKit.intOf];omega);rw[e5];intro x k;rw[hg];rcases avF.1 k with k|k
  ·have:=b6 x k;omega
  ·rw[avD.1 k,auC rfl];omega
 simp only[e4,auF,i_f];have b8:i=ms.length:=om
 subst b8;rw[awD] at b6;have d:=d.toU 1 19 19 (by rw[fN,E]) (auL _) om;rw[avC,avE (by rw[fN];omega)] at d;obtain⟨N8,g8,e6,d⟩:=bT.bG (L:=[.cells s (prC t tb) 283,.mem N7]) d 1 rfl;refine bH d 1 rfl (AV co 7 _ N8 b5 (d.hasM 1 rfl) (by rw[E];exact e6) om om (ra λj=>by have:=F j;omega) om om (by have:=ri co;have e:(2:Nat) ^ 7=128:=rfl;omega)) ?_;rintro _ N9 k2 g9 ⟨lc,k3,rfl,o,l4,T⟩ d;simp only[ex];have U:lc.length=19:=by rw[o.len,E]
 refine bH d 1 rfl (Bo lc k3 N9 k2 (λx k=>axO (o.le x k) dc) om om (d.hasM 1 rfl) T) ?_;rintro _ G k4 g10 e7 d;rw[auB (by rw[o.chk];exactλh=>h rfl)] at e7;obtain⟨tt,rfl,k5⟩:=e7;simp only[ex];refine aK d (QS k4) ?_;rintro _ e8 rfl d;have d:bT M.A w e8 [.cells s (prC t tb) 283,.mem G]:=d;have J:=T.le g10;have d:bT M.A w e8 [.urow 3 1 cI 0 [],.cells s (prC t tb) 283,.mem G]:=bT.nilU (L:=[.cells s (prC t tb) 283,.mem G]) d _ _;refine loop (λvs W=>∃(i:Nat) (v:aq),vs=[v,ad (i:Int)]∧i<=19∧bT M.A w W [.urow 3 1 v (gi lc i).length (bF (gi lc i)),.cells s (prC t tb) 283,.mem G]) (λvs _=>19 - n1 vs) ⟨0,cI,rfl,om,d⟩ ?_;clear d;rintro vs u ⟨i,v,rfl,hi,d⟩ _;simp only[BC,gd,rs,nz];have e9:=rh lc i;by_cases V:(i:Int) < 19
 ·simp only[V,auE,i_t];have X:i < 19:=om
  have m3:=we X;refine aD (ajW X u) |>.mpr ?_;obtain⟨p,ia,ld⟩:=YT J (i:=cm.getD i 0) om;refine aD (ia u) |>.mpr (aD (ld u (d.hasM 2 rfl)) |>.mpr ?_);have k6:∀(j:Nat) (hj:j < lc.length),lc[j]'hj=lc.getD j 0:=λj hj=>by
   rw[auK,auO hj];rfl
  rw[k6];refine xR _ d λb3 m4 d=>?_;refine sR 1 d rfl (d.sl 0 rfl 1 1 1 rfl) wQ om λv' m5 d=>?_
  try simp only[rs]
  rw[aA om om];refine bC ⟨i+1,v',rfl,om,?_⟩ (by simp[n1,RowKit.intOf];omega);rw[aaj,pA,auH];exact d.tail
 simp only[V,auF,i_f];have b8:i=19:=om
 subst b8;obtain⟨b9,g11,h3,d⟩:=bT.bG (L:=[.cells s (prC t tb) 283,.mem G]) d 1 rfl;have d:bT M.A w u [.cells s (prC t tb) 283,.mem b9]:=d;refine Eh (Oz (gi lc 19) v 4 b9 u (d.hasM 1 rfl) h3 om om om) ?_;rintro iv _ ⟨⟨nin,h6,Y,k7,m6,Z⟩,rfl⟩;rw[e9] at Y;have hit:(gi lc 19).take nin=gi lc nin:=by
  unfold gi;rw[<-aAx,List.take_range,avO Y]
 rw[hit] at Z;have z:=g6.trans (g7.trans (g8.trans (g9.trans (g10.trans g11))));have H:0 < N.getD 256 0:=f.pos 256 c2;have hh:∀x∈ps,ez N lb x:=λx k=>by
  have:=c3 x k;unfold ez at this ⊢;split
  ·rename_i h0;rw[auC h0] at this;exact f.pos _ this
  ·rename_i h0;rw[auB h0] at this;exact⟨f.pos _ this.1,g.pos _ this.2⟩
 have h7:∀i,nin<=i->i < 19->lc.getD (cm.getD i 0) 0=0:=λi h1 h2=>by
  have:=k7 i h1
  rwa [xi h2] at this
 have a1:∀m∈ms,0 < lc.getD m.1 0:=λm hm=>o.pos _ (b6 m hm);refine apB (S:=M.A) (w0:=w) (W:=u) (a:=a) (b:=b) (lc:=lc) (ms:=ms) (nin:=nin) (ps:=ps) d (TbW.le z a7) (TbW.le z j4) (TbW.le g11 k5) B I f.chk g.chk o.chk f.le g.le o.le U om om om om h6 om h7 (q.le z) (r.le z) (by rw[rh];exact Z) (b4.le (g8.trans (g9.trans (g10.trans g11)))) (c0.le (g1.trans (g2.trans (g3.trans (g4.trans (g5.trans z)))))) a1 b1 b2 H hh a6 c1 λW d=>?_;refine hK _ _ b9 _ 1 d rfl (g1.trans (g2.trans (g3.trans (g4.trans (g5.trans z))))) ⟨_,rfl,zn _ _ _ _ _ _,?_⟩;have h8:bn a=0:=by have:=f.chk;rw[B] at this;exact wx this
 have h9:bn b=0:=by have:=g.chk;rw[I] at this;exact wx this
 refine zo om om om om h6 om U o.le h7 o.chk a1 b1 b2 h8 h9 C D ?_ ?_ a6
 ·have:=H;rw[B,oz] at this;exact this
 ·intro x k;have:=hh x k;unfold ez at this ⊢;rw[B,I] at this;simp only[oz] at this;exact this
theorem Mw (k:List UInt8):∀(es:List MapEntry) (a:List (List UInt8×aq)) (i j:Nat) (u:aq),es.map (λe=>(e.key,e.val))=a.map (λp=>(xN p.1,p.2))->a[j]?=ay (k,u)->(∀m,m < j->∀p,a[m]?=ay p->p.1≠k) ->
  Instr.findNow .string (xN k) es i=ay (ay (i+j,u))
|[],[],i,j,u,_,h,_=>by simp at h
|e::es,p::a,i,j,u,h,b,d=>by
  simp only[avS,azO,ayJ] at h;obtain⟨⟨g,l⟩,n⟩:=h;have f:Instr.sameNow .string (xN k) e.key=ay (ai (k=p.1)):=by
   rw[g];show ay ((⟨k.toArray⟩:ByteArray)==⟨p.1.toArray⟩)=_
   congr 1
   show (k.toArray==p.1.toArray)=_;by_cases c:k=p.1<;>simp[c]
  cases j with
 |zero=>
   simp only[ayW,ayK] at b;subst b;rw[Instr.findNow,f];simp[l]
 |succ j=>
   have c:k≠p.1:=λe=>d 0 om p rfl e.symm;have o:=Mw k es a (i+1) j u n (by simpa using b) (λm hm q r=>d (m+1) om q (by simpa using r));rw[Instr.findNow,f];simp[c,o];omega
|[],_::_,_,_,_,h,_,_=>by simp at h
|_::_,[],_,_,_,h,_,_=>by simp at h
section
variable {S:Nat->Prop}{P:Program}{w w0:ao}{L:List Ent}{PK:PKT}{K:VWP}
theorem abN (i j:Nat){T k e:TypeId}{a:List (List UInt8×aq)}(z:P.underlying T=ay (.map k e))(f:P.underlying k=ay .string)(s:bT S w0 w L)(hi:L[i]?=ay (.map b a))(x:List UInt8)(u v:aq)(g:a[j]?=ay (x,u))
  (A:∀m,m < j->∀p,a[m]?=ay p->p.1≠x) (B:∀w',bT S w0 w' (L.set i (.map b (a.set j (x,v))))->K undef w'):DoX P (Xa T (.map (ay b)) (xN x) v) w PK K:=by
 obtain⟨es,clock,t,h⟩:=(show Vt w b a from s.at_ i hi);have y:=Mw x es.toList a 0 j u h g A;rw[auP] at y;have c:j < es.toList.length:=by
  have:=congrArg List.length h;rw[avJ,avJ] at this;rw[this];exact (auV.1 g).1
 have n:j < es.size:=by simpa using c
 have o:es[j].key=xN x:=by
  have d:=congrArg (λl=>l[j]?) h;simp only[ayO,g,aAn] at d;rw[auO c] at d;simp only[aAn,ayK,ayJ,Array.getElem_toList] at d;exact d.1
 have q:Instr.sameBits 10000 (xN x) (xN x)=true:=by
  unfold xN;rw[Instr.sameBits];show (x.toArray==x.toArray)=aw;simp
 have C:(Instr.mapUpdate T (.map (ay b)) (xN x) v).run P w=.ok () { w with heap:=w.heap.setIfInBounds b (.map (es.modify j λe=>{ e with key:=xN x,val:=v }) clock) }:=by
  have D:(Instr.findKey k (xN x) es.toList).run P w=.ok (ay (j,u)) w:=by simp[Instr.findKey,run_underlying f,y]
  simp[Instr.mapUpdate,run_underlying z,getObj,setObj,Sem.run,t,tT f x,D,Instr.keyThatStays,n,o,q]
 refine D1 (Kr C) (B _ ?_);refine s.put i hi (w':={ w with heap:=w.heap.setIfInBounds b _ }) ⟨rfl,rfl,rfl,sm,λk _ f=>?_⟩ (.map b (a.set j (x,v))) ?_ (λk f=>.inl f)
 ·show (w.heap.setIfInBounds b _)[k]?=_;exact ayV (λe=>f (by simp[Ent.map,e]))
 ·refine⟨es.modify j λe=>{ e with key:=xN x,val:=v },clock,?_,?_⟩
  ·show (w.heap.setIfInBounds b _)[b]?=_;exact aBi (eH t)
  ·rw[Array.toList_modify];refine List.ext_getElem? λm=>?_;have d:=congrArg (λl=>l[m]?) h;simp only[ayO] at d ⊢;rw[List.getElem?_modify,List.getElem?_set];by_cases hm:j=m
   ·subst hm;rw[auO c];have r:j < a.length:=(auV.1 g).1;simp[r]
   ·simp only[auB hm];rw[<-d];cases es.toList[m]?<;>rfl
end
theorem UF (s:List UInt8)(a b most:Nat)(w:ao)(p:a < b)(r:b+most<=s.length)(t:s.length<=1048576) :
  Ret ah 292 #[xN s,ad (a:Int),ad (b:Int),ad (most:Int)] w (λv w'=>(∃n:Nat,v=ad (n:Int)∧n<=most∧(∀i,i < n->s[a+i]?=s[b+i]?)∧(n=most∨s[a+n]?≠s[b+n]?))∧Below w.heap.size w w'):=by
 refine aX λK m=>F6 ?_;unfold A5 nz;refine loop (λvs W=>∃n:Nat,vs=[ad (n:Int)]∧n<=most∧(∀i,i < n->s[a+i]?=s[b+i]?)∧Own w W []) (λvs _=>most - n0 vs) ⟨0,rfl,om,(λi h=>by omega),Own.start w⟩ ?_;rintro vs u ⟨n,rfl,o,d,e⟩ _;simp only[wY,gd,rs,nz];refine quiet (Lu ?_);by_cases g:(n:Int) < (most:Int)
 ·simp only[g,auE,gq];have q:n < most:=om
  have j:a+n < s.length:=om
  have f:b+n < s.length:=om
  refine sW ?_;rw[aA om om,show (a:Int)+n=((a+n:Nat):Int) by omega];refine q_ix (a:=s) (c:=s[a+n]) auQ om (by rw[auJ,auO j]) ?_;refine sW ?_;rw[aA om om,show (b:Int)+n=((b+n:Nat):Int) by omega];refine q_ix (a:=s) (c:=s[b+n]) auQ om (by rw[auJ,auO f]) ?_;refine q_eq (MZ ?_);intro w2 k;have e:=e.grow k;by_cases he:s[a+n]=s[b+n]
  ·simp only[he,auE,i_t,rs];rw[aA om om];refine bC ⟨n+1,rfl,om,λi hi=>?_,e⟩ (by simp[n0,RowKit.intOf];omega);by_cases h:i=n
   ·subst h;rw[auO j,auO f,he]
   ·exact d i om
  ·have l:¬((s[a+n].toNat:Int)=(s[b+n].toNat:Int)):=λh=>he (UInt8.toNat_inj.1 om);simp only[l,auF,i_f];refine m _ _ ⟨⟨n,rfl,o,d,.inr ?_⟩,e.done⟩;rw[auO j,auO f];exactλh=>he (axN h)
 ·simp only[g,auF,gq];refine F9 ?_;intro w2 k;have e:=e.grow k;simp only[i_f];exact m _ _ ⟨⟨n,rfl,o,d,.inl om⟩,e.done⟩
abbrev ig:=List UInt8×aq×List Nat
def fq (a:List ig):List (List UInt8×aq):=a.map λr=>(r.1,r.2.1)
def ew (r:ig):Ent:=.urow 3 1 r.2.1 r.2.2.length (bF r.2.2)
def ep (b:Nat)(a:List ig)(T:List Ent):List Ent:=.map b (fq a)::(a.map ew++T)
def lx (s:List UInt8)(at_:Nat)(a:List ig):Prop:=∀r∈a,r.2.2.length<=at_∧∀i∈r.2.2,i < at_∧i+3<=s.length∧(s.drop i).take 3=r.1
theorem nt (x:List UInt8):∀a:List ig,wD (fq a) x=ax∨∃(j:Nat) (v:aq) (l:List Nat),a[j]?=ay (x,v,l)∧wD (fq a) x=ay v∧∀m:Nat,m < j->∀p:List UInt8×aq,(fq a)[m]?=ay p->p.1≠x
|[]=>.inl rfl
|r::a=>by
  by_cases h:r.1=x
  ·subst h;exact .inr ⟨0,r.2.1,r.2.2,rfl,by simp[wD,fq],λm hm=>absurd hm (Nat.not_lt_zero _)⟩
  ·rcases nt x a with b|⟨j,v,l,d,c,e⟩
   ·refine .inl ?_;simp only[wD,fq,avS,List.find?_cons] at b ⊢;simp only[h,auF];exact b
   ·refine .inr ⟨j+1,v,l,d,?_,λm hm p hp=>?_⟩
    ·simp only[wD,fq,avS,List.find?_cons] at c ⊢;simp only[h,auF];exact c
    ·cases m with
    |zero=>
      have:(r.1,r.2.1)=p:=by simpa[fq] using hp
      subst this;exact h
    |succ m=>exact e m om p (by simpa[fq] using hp)
theorem zx (a:List ig)(j:Nat)(x:List UInt8)(v:aq)(l:List Nat):fq (a.set j (x,v,l))=(fq a).set j (x,v):=by
 unfold fq;rw[aAw]
theorem zy {a:List ig}(b:j < a.length)(r:ig)(T:List Ent):(a.map ew++T).set j (ew r)=(a.set j r).map ew++T:=by
 rw[List.set_append,auC (by rw[avJ];exact b),aAw]
theorem sx {a:List ig}{r:ig}(h:a[j]?=ay r)(T:List Ent):(a.map ew++T)[j]?=ay (ew r):=by
 have b:=(auV.1 h).1;rw[awR (by rw[avJ];exact b),ayO,h];rfl
theorem qb {s:List UInt8}{a:Nat}{e:List ig}(h:lx s a e)(c:a<=b):lx s b e:=λr d=>⟨axO (h r d).1 c,λi hi=>⟨awO ((h r d).2 i hi).1 c,((h r d).2 i hi).2⟩⟩
theorem aoQ:(Tryz.prog.info? 70).bind (·.zero)=ay cI:=krx
section
variable {w:ao}{PK:PKT}{K:VWP}{S:Nat->Prop}{w0:ao}{L T:List Ent}
theorem aoI {s:List UInt8}{fr o:Nat}{c:List ig}(a:bT S w0 w (ep b c T))(f:lx s fr c)(I:fr<=o)(M:o<=s.length)(N:s.length<=1048576)
  (k:∀d W,bT S w0 W (ep b d T)->lx s o d->K (.tuple #[]) W):cR ah 268 #[.map (ay b),xN s,ad (fr:Int),ad (o:Int)] w PK K:=by
 refine gK (AG (k0:=wT λv W=>v=.tuple #[]∧∃d,bT S w0 W (ep b d T)∧lx s o d) ?_) (λe W ⟨v,he,J,d,a,f⟩=>by subst he;subst J;exact k d W a f);unfold rZ nz;refine loop (λvs W=>∃(i:Nat) (c:List ig),vs=[ad (i:Int)]∧i<=o∧lx s i c∧bT S w0 W (ep b c T)) (λvs _=>o - n0 vs) ⟨fr,c,rfl,I,f,a⟩ ?_;clear a f;rintro vs D ⟨i,c,rfl,hi,f,a⟩ _;simp only[oN,gd,rs,iN,dx,bnx,gtx,etx];have stop:∀W,bT S w0 W (ep b c T)->wT (λv W=>v=.tuple #[]∧∃d,bT S w0 W (ep b d T)∧lx s o d) (.returned (.tuple #[])) W:=λW a=>vG ⟨rfl,c,a,qb f hi⟩;by_cases q:(i:Int) < (o:Int)
 case neg=>
  simp only[q,auF,gd,rs,i_f];exact stop D a
 simp only[q,auE,gd,rs];have z:(xN s)=ae s:=rfl;rw[z,iU auQ,aA om om];simp only[rs];by_cases E:(i:Int)+3<=(s.length:Int)
 case neg=>
  simp only[E,auF,i_f];exact stop D a
 simp only[E,auE,i_t];have t:i+3<=s.length:=om
 have a:=a.drew;refine⟨λW=>Vt W b (fq c),a.at_ 0 rfl,?_⟩;have u:((s.drop ((i:Int)).toNat).take (((i:Int)+3).toNat - ((i:Int)).toNat))=(s.drop i).take 3:=by
  rw[auJ,show ((i:Int)+3).toNat - i=3 by omega]
 refine aP _ (λ_=>Fk) ?_;rw[aA om om];refine aP _ (λ_=>rP auQ om om om) ?_;refine aP _ (λ_=>Fk) ?_;rw[aA om om];refine aP _ (λ_=>rP auQ om om om) ?_;rw[u];generalize F:(s.drop i).take 3=x;refine fS ((wD (fq c) x).getD cI) (λW h=>Ow (ok:=au) aBc auQ aoQ h x) ?_;rw[aA om om,show (i:Int)+1=((i+1:Nat):Int) by omega];rcases nt x c with G|⟨j,v,l,y,L,A⟩
 ·rw[G];refine xR (i:Int) (bT.nilU a 3 1) λb3 w2 a=>⟨a.at_ 2 rfl,?_⟩;refine sR 1 a rfl (a.sl 0 rfl 1 1 1 rfl) wQ om λv' w3 a=>?_;have a:bT S w0 w3 (.urow 3 1 v' 1 (bF [i])::.map b (fq c)::(c.map ew++T)):=a.tail;refine Tz 1 aBc auQ a rfl x v' G λH a=>?_;refine bC ⟨i+1,c++[(x,v',[i])],rfl,om,?_,?_⟩ (by simp[n0,RowKit.intOf];omega)
  ·intro r g;rcases avF.1 g with g|g
   ·exact qb f om r g
   ·rw[avD.1 g];exact⟨sm,λm hm=>by rw[avD.1 hm];exact⟨om,t,F⟩⟩
  ·have e:ep b (c++[(x,v',[i])]) T=.map b (fq c++[(x,v')])::(c.map ew++([ew (x,v',[i])]++T)):=by
    unfold ep fq;simp[avM,auN]
   rw[e];have a:bT S w0 H ([ew (x,v',[i])]++((.map b (fq c++[(x,v')])::c.map ew)++T)):=a;exact a.front
 ·rw[L];have B:=(auV.1 y).1;have C:=ayC y;have p:=f _ C;refine xR (i:Int) a λb3 w2 a=>⟨a.at_ 1 rfl,?_⟩;refine sR (j+2) (v:=v) (n:=l.length) (xs:=bF l) a (by show (c.map ew++T)[j]?=_;rw[sx y];rfl) (a.sl 0 rfl 1 1 1 rfl) wQ (by have:=p.1;simp only at this;omega) λv' w3 a=>?_;have e1:((c.map ew++T).set j (.urow 3 1 v' (l.length+1) (bF l++Qz [(i:Int)])))=(c.set j (x,v',l++[i])).map ew++T:=by
   rw[<-zy B];unfold ew;rw[pA,auH];rfl
  have a:bT S w0 w3 (.map b (fq c)::((c.map ew++T).set j (.urow 3 1 v' (l.length+1) (bF l++Qz [(i:Int)])))):=a.tail;rw[e1] at a;refine abN 0 j aBc auQ a rfl x v v' (by unfold fq;rw[ayO,y];rfl) A λH a=>?_;refine bC ⟨i+1,c.set j (x,v',l++[i]),rfl,om,?_,?_⟩ (by simp[n0,RowKit.intOf];omega)
  ·intro r g;rcases aAv g with g|g
   ·exact qb f om r g
   ·subst g;refine⟨by simp only[auH,awM];have:=p.1;simp only at this;omega,λm hm=>?_⟩;rcases avF.1 hm with hm|hm
    ·exact⟨by have:=(p.2 m hm).1;omega,(p.2 m hm).2⟩
    ·rw[avD.1 hm];exact⟨om,t,F⟩
  ·unfold ep;rw[zx];exact a
end
theorem amW (a:Sl w v 1 l.length (bF l))(hi:i < l.length) :
  ∃p,(mIA 70 v (ad (i:Int))).run ah w=.ok (.value (.pointer (ay p))) w∧(aH 3 (.pointer (ay p))).run ah w=.ok (.value (ad (l[i]:Int))) w:=by
 obtain⟨b,off,cap,rfl,c⟩:=bR a om;refine⟨⟨b,off+i,ax⟩,?_,?_⟩
 ·have:=cZ (P:=ah) (T:=70) (b:=b) (off:=off) (cap:=cap) (n:=l.length) (k:=.i64) (i:=(i:Int)) (w:=w) avB O1 om om;rw[auJ,avC] at this;exact this
 ·refine aY (AtV.cell aU (c _ _ ?_));unfold bF;rw[ayO,auO hi];rfl
def kd (s:List UInt8)(at_:Nat)(x:bo):Prop:=x.1=0∧(x.2.1=0∧x.2.2=0∨3<=x.2.1∧x.2.1<=258∧1<=x.2.2∧x.2.2<=32768∧x.2.2<=at_∧at_+x.2.1<=s.length∧∀i,i < x.2.1->s[at_ - x.2.2+i]?=s[at_+i]?)
theorem zz {s:List UInt8}{a:Nat}(h:(s.drop a).take 3=(s.drop b).take 3)(hi:i < 3):s[a+i]?=s[b+i]?:=by
 have:=congrArg (λl=>l[i]?) h;simp only[axK,auC hi,ayB] at this;exact this
theorem asR (n f:Nat):DoX ah (aV 278 #[(1,ad (n:Int)),(2,ad (f:Int))]) w PK K=K (ptV (0,n,f)) w:=aD krx
section
variable {w:ao}{PK:PKT}{K:VWP}{S:Nat->Prop}{w0:ao}{L T:List Ent}
theorem alK (j:Nat){x:bo}(a:bT S w0 w L)(hi:L[j]?=ay (ptE b x)):DoX ah (aH 278 (af b 0)) w PK K=K (ptV x) w:=EN (a.agg j hi aiX)
theorem apV {K:Ending->ao->Prop}{x:bo}(i:Nat)(a:bT S w0 w L)(hi:L[i]?=ay (ptE b x))(k:K (.returned (ptV x)) w):Bw ah [.cell (af b 0) 278] w K:=
 eN (bJ (a.agg i hi aiX)) k
theorem VR {s:List UInt8}{a:Nat}{d:List ig}(c:bT S w0 w (ep b d T))(N:lx s a d)(ha:a<=s.length)(hs:s.length<=1048576)
  (k:∀x W,bT S w0 W (ep b d T)->kd s a x->K (ptV x) W):cR ah 267 #[.map (ay b),xN s,ad (a:Int)] w PK K:=by
 refine gK (vI (k0:=wT λv W=>∃x,v=ptV x∧bT S w0 W (ep b d T)∧kd s a x) ?_) (λe W ⟨v,he,x,hv,c,hc⟩=>by subst he;subst hv;exact k x W c hc);unfold mT nz;refine V7 c λg w1 c=>?_;refine V7 c λr w2 c=>?_;have t:(xN s)=ae s:=rfl;have fin:∀(W:ao) (x:bo),bT S w0 W (ptE r x::ptE g (0,0,0)::ep b d T)->kd s a x->DoX ah (aH 278 (af r 0)) W (pk (wT λv W=>∃x,v=ptV x∧bT S w0 W (ep b d T)∧kd s a x)) λt72 w=>
   DoX ah (aN 278 (af g 0) t72) w (pk (wT λv W=>∃x,v=ptV x∧bT S w0 W (ep b d T)∧kd s a x)) λ_ w=>
   Bw ah [.cell (af g 0) 278] w (wT λv W=>∃x,v=ptV x∧bT S w0 W (ep b d T)∧kd s a x):=by
  intro W x c O;rw[alK 0 c rfl];refine Po (y:=x) 1 c rfl λw3 c=>?_;exact apV 1 c rfl (vG ⟨x,rfl,c.tail.tail,O⟩)
 have o:kd s a (0,0,0):=⟨rfl,.inl ⟨rfl,rfl⟩⟩;simp only[rs];rw[t,iU auQ,aA om om];simp only[rs];by_cases Z:(s.length:Int) < (a:Int)+3
 ·simp only[Z,auE,i_t];exact fin w2 _ c o
 simp only[Z,auF,i_f];have a1:a+3<=s.length:=om
 rw[iU auQ];simp only[rs];rw[aA (n:=(s.length:Int) - a) om om,Li,show min (258:Int) ((s.length:Int) - a)=((min 258 (s.length - a):Nat):Int) by omega];generalize P:min 258 (s.length - a)=most;rw[ajN auQ om om om,auJ,show ((a:Int)+3).toNat - a=3 by omega];generalize O:(s.drop a).take 3=x;refine aD (Ow (ok:=au) aBc auQ aoQ (show Vt w2 b (fq d) from c.at_ 2 rfl) x) |>.mpr ?_;simp only[ayQ,if_false];have main:∀(v:aq) (l:List Nat),(∀W x,bT S w0 W (ptE r x::ptE g (0,0,0)::ep b d T)->Sl W v 1 l.length (bF l))->l.length<=a->(∀i∈l,i < a∧i+3<=s.length∧(s.drop i).take 3=x) ->
   Es [ad ((l.length:Int) - 1)] w2 (λQ w N1=>∀_:Sg,gC (ae s) (ad (a:Int)) (af g 0) (af r 0) (ad (most:Int)) v (Q.getD 0 undef) w N1 (wT λv W=>∃x,v=ptV x∧bT S w0 W (ep b d T)∧kd s a x)):=by
  intro v l f a6 R;refine loop (λvs W=>∃(i:Nat) (x:bo),vs=[ad ((i:Int) - 1)]∧i<=l.length∧kd s a x∧bT S w0 W (ptE r x::ptE g (0,0,0)::ep b d T)) (λvs _=>(RowKit.intOf (vs.getD 0 undef)+1).toNat) ⟨l.length,(0,0,0),rfl,om,o,c⟩ ?_;clear c;rintro vs w3 ⟨i,y,rfl,hi,L,c⟩ _;simp only[gC,gd,rs,nz];cases i with
 |zero=>
   simp only[show ai ((0:Int)<=((0:Nat):Int) - 1)=au by decide,gd,rs,i_f];exact fin w3 y c L
 |succ i=>
   rw[show ((i+1:Nat):Int) - 1=(i:Int) by omega];simp only[show ai ((0:Int)<=(i:Int))=aw from auG om,gd,rs];obtain⟨p,u,A⟩:=amW (f w3 y c) (i:=i) om;rw[aD u,aD A];obtain⟨B,U,C⟩:=R l[i] (auS _);generalize D:l[i]=m at B U C;simp only[rs];rw[aA om om,show (a:Int) - m=((a - m:Nat):Int) by omega];by_cases q:((a - m:Nat):Int)<=32768
   case neg=>
    simp only[q,auF,gd,rs,i_f];exact fin w3 y c L
   simp only[q,auE,gd,rs];rw[aW HY,pt_1 c 0 rfl];simp only[rs];by_cases E:(y.2.1:Int) < (most:Int)
   case neg=>
    simp only[E,auF,gd,rs,i_f];exact fin w3 y c L
   simp only[E,auE,gd,rs,i_t];refine join λJ hJ=>?_;rw[aD u,aD A,D];have next:∀(W:ao) (z:bo),bT S w0 W (ptE r z::ptE g (0,0,0)::ep b d T)->kd s a z->J [] W:=by
    intro W z c hz;refine hJ _ _ λ_=>?_;simp only[kR,gd,rs,nz];rw[aA om om];exact bC ⟨i,z,rfl,om,hz,c⟩ (by simp[RowKit.intOf])
   refine aK c (UF s m a most w3 B om hs) ?_;rintro _ w4 ⟨n,rfl,hn,V,t⟩ c;rw[aW HY,pt_1 c 0 rfl];simp only[rs];by_cases F:(y.2.1:Int) < (n:Int)
   case neg=>
    simp only[F,auF,i_f];exact next w4 y c L
   simp only[F,auE,i_t];obtain⟨p2,G,H⟩:=amW (f w4 y c) (i:=i) om;rw[aD G,aD H,D];simp only[rs];rw[aA om om,show (a:Int) - m=((a - m:Nat):Int) by omega,asR];refine Po (y:=(0,n,a - m)) 0 c rfl λw5 c=>?_;refine next w5 (0,n,a - m) c ⟨rfl,.inr ⟨?_,by show n<=258;omega,by show 1<=a - m;omega,by show a - m<=32768;omega,by show a - m<=a;omega,by show a+n<=s.length;omega,λj M=>?_⟩⟩
   ·show 3<=n;rcases t with h|h
    ·omega
    ·refine Nat.le_of_not_lt λX=>h (zz (C.trans O.symm) X)
   ·show s[a - (a - m)+j]?=_;rw[show a - (a - m)=m by omega];exact V j M
 rcases nt x d with hn|⟨j,v,l,M,R,a7⟩
 ·rw[hn];show DoX ah (mB .len #[70] 3 #[au] #[cI]) w2 _ _;rw[show cI=.slice ax 0 0 from rfl,bW avB];simp only[rs];rw[aA om om];exact main (.slice ax 0 0) [] (λW x c=>by exact (bT.nilU c 3 1).slU 0 rfl) sm (λi hi=>by cases hi)
 ·rw[R];have I:=N _ (ayC M);have f:∀(W:ao) (y:bo),bT S w0 W (ptE r y::ptE g (0,0,0)::ep b d T)->Sl W v 1 l.length (bF l):=λW y c=>c.slU (j+3) (by show (d.map ew++T)[j]?=_;rw[sx M];rfl);show DoX ah (mB .len #[70] 3 #[au] #[v]) w2 _ _;rw[aZ avB (f w2 _ c)];simp only[rs];have Y:l.length<=a:=I.1;rw[aA om om];exact main v l f Y I.2
end
theorem xj:∀{l:List bo} {out:List UInt8} {x:bo},iq out.length l->gu (fu out l).length x->iq out.length (l++[x])
|[],out,x,_,h=>⟨h,trivial⟩
|y::l,out,x,a,h=>by
  refine⟨a.1,?_⟩;have b:=a.2;rw[<-oh] at b ⊢;exact xj b h
theorem aak (l:List bo)(out:List UInt8)(x:bo):fu out (l++[x])=gr (fu out l) x:=by
 unfold fu;rw[aAy];rfl
theorem qg:∀{n:Nat} {s:List UInt8} {a d:Nat},1<=d->d<=a->a+n<=s.length->(∀i,i < n->s[a - d+i]?=s[a+i]?)->ir d n (s.take a)=s.take (a+n)
|0,s,a,d,_,_,_,_=>rfl
|n+1,s,a,d,b,f,g,h=>by
  rw[ir];have c:(s.take a).length=a:=by rw[auM];omega
  have e:(s.take a).getD ((s.take a).length - d) 0=s[a]:=by
   rw[c,auK,axK,auC om];have:=h 0 om;rw[awF,awF] at this;rw[this,auO om];rfl
  rw[e,<-avL om,qg b om om (λi hi=>by
   have:=h (i+1) om;rw[show a - d+(i+1)=a+1 - d+i by omega,show a+(i+1)=a+1+i by omega] at this;exact this)]
  congr 1;omega
def ju (s:List UInt8)(a:Nat)(x:bo):bo:=if x.2.1=0 then (s.getD a 0,x.2.1,x.2.2) else x
theorem AI {s:List UInt8}{a:Nat}{x:bo}(h:kd s a x):gu a (ju s a x):=by
 unfold gu ju;obtain⟨d,b⟩:=h;by_cases c:x.2.1=0
 ·simp only[auC c];rcases b with b|b
  ·exact b.2
  ·omega
 ·rw[auB c,auB c];rcases b with b|b
  ·exact absurd b.1 c
  ·exact⟨d,b.1,b.2.1,b.2.2.1,b.2.2.2.1,b.2.2.2.2.1⟩
theorem AS {s:List UInt8}{a:Nat}{x:bo}(h:kd s a x)(d:a < s.length):gr (s.take a) (ju s a x)=s.take (a+max x.2.1 1):=by
 unfold gr ju;obtain⟨j,c⟩:=h;by_cases b:x.2.1=0
 ·simp only[auC b];rw[b,auK,auO d];exact (avL d).symm
 ·simp only[auB b];rcases c with c|⟨k,l,e,m,f,g,i⟩
  ·exact absurd c.1 b
  ·rw[qg e f g i,Nat.max_eq_left om]
section
variable {w:ao}{PK:PKT}{K:VWP}{S:Nat->Prop}{w0:ao}{L T:List Ent}
theorem qh {a:List ig}(c:bT S w0 w (ep b a T)):bT S w0 w (T++ep b a []):=by
 have c:bT S w0 w ((Ent.map b (fq a)::a.map ew)++T):=c;unfold ep;rw[avA];exact c.perm aAk
theorem ya {c:List ig}(a:bT S w0 w (T++ep b c [])):bT S w0 w (ep b c T):=by
 unfold ep at a;rw[avA] at a;exact a.perm aAk
theorem anL (x:bo)(a:bT S w0 w L)(k:∀b w',bT S w0 w' (ptE b x::L)->K (bO b 0 1 1) w'):DoX ah (aM 254 1 #[(0,ptV x)]) w PK K:=
 bK (λb=>bO b 0 1 1) (ptC x) 278 (λ_=>by kernel_rfl) a k
end
theorem elPt:elB ah 278 3 24=true:=krx
theorem UK (s:List UInt8)(M:Mem)(w:ao)(B:M.has w)(C:s.length<=1048576) :
  jR ah 242 #[xN s] M w (λr N=>∃ps,SlA N.A N.w r 3 ps.length (ps.flatMap ptC)∧iq 0 ps∧fu [] ps=s∧ps.length<=s.length):=by
 refine bB B λK H=>FM ?_;unfold BS nz;have p:(xN s)=ae s:=rfl;rw[p,iU auQ];simp only[rs,show ai ((1048576:Int) < (s.length:Int))=au from auD om,i_f];have d:bT M.A w w [.mem M]:=bT.memS B;refine Tb (bT.nilU d 278 3) λb R d=>?_;refine loop (λvs W=>∃(ps:List bo) (a:Nat) (f:List ig) (v:aq),vs=[v,ad (a:Int)]∧a<=s.length∧ps.length<=a∧iq 0 ps∧fu [] ps=s.take a∧lx s a f∧bT M.A w W (ep b f [.urow 278 3 v ps.length (ps.flatMap ptC),.mem M])) (λvs _=>s.length - n1 vs)
  ⟨[],0,[],cI,rfl,om,sm,trivial,rfl,(λr I=>by cases I),d⟩ ?_
 clear d;rintro vs w2 ⟨ps,a,f,v,rfl,L,O,k,i,l,d⟩ _;simp only[vV,gd,rs,nz];rw[iU auQ];simp only[rs];by_cases m:(a:Int) < (s.length:Int)
 case neg=>
  simp only[m,auF,i_f];have d:bT M.A w w2 (.urow 278 3 v ps.length (ps.flatMap ptC)::.mem M::ep b f []):=qh d;obtain⟨N,g,q,d⟩:=bT.bG d 0 rfl;refine H _ _ N _ 0 d rfl g ⟨ps,q,k,?_,om⟩;rw[i,avE om]
 have j:a < s.length:=om
 simp only[m,auE,i_t];refine VR (s:=s) d l L C λx w3 d t=>?_;refine V7 d λD S d=>?_;refine Po (y:=x) 0 d rfl λE d=>?_;have d:bT M.A w E (ptE D x::ep b f [.urow 278 3 v ps.length (ps.flatMap ptC),.mem M]):=d;rw[aW HY,pt_1 d 0 rfl,vC];refine join λJ P=>?_;rw[aW HY,pt_1 d 0 rfl];simp only[rs];have n:gu a (ju s a x):=AI t;have hex:=AS t j;have hle:a+max x.2.1 1<=s.length:=by
  rcases t.2 with h|h
  ·omega
  ·have:=h.2.2.2.2.2.1;omega
 have u:(s.take a).length=a:=by rw[auM];omega
 have next:∀W,bT M.A w W (ptE D (ju s a x)::ep b f [.urow 278 3 v ps.length (ps.flatMap ptC),.mem M])->J [] W:=by
  intro W d;refine P _ _ λ_=>?_;simp only[wW,gd,rs,nz];rw[alK 0 d rfl];have d:bT M.A w W (ep b f [.urow 278 3 v ps.length (ps.flatMap ptC),.mem M]):=d.tail;refine anL (ju s a x) (qh d) λT F d=>?_;refine bZ 1 aBa elPt dc d rfl (d.sl 0 rfl 3 1 1 rfl) X2 om om λv' Q d=>?_;have d:bT M.A w Q ([.urow 278 3 v' (ps.length+1) (ps.flatMap ptC++ptC (ju s a x)),.mem M]++ep b f []):=d.tail
  try simp only[rs]
  rw[aA om om,show (a:Int)+max (x.2.1:Int) 1=((a+max x.2.1 1:Nat):Int) by omega];refine aoI (s:=s) (ya d) l om hle C λz U d o=>?_;refine bC ⟨ps++[ju s a x],a+max x.2.1 1,z,v',rfl,hle,by rw[auH,awM];omega,?_,?_,o,?_⟩ (by simp[n1,RowKit.intOf];omega)
  ·exact xj (out:=[]) k (by rw[i,u];exact n)
  ·rw[aak,i,hex]
  ·rw[auH,awM,axQ,ayP];exact d
 by_cases G:x.2.1=0
 ·simp only[show ai ((x.2.1:Int)=0)=aw from auG om,i_t];rw[s_ix (c:=s[a]) auQ om (by rw[auJ,auO j]),aW Xu];refine aO 0 d rfl krx rfl (by show 0 < 3;decide) λF d=>?_;refine next F ?_
  have e:ju s a x=(s[a],x.2.1,x.2.2):=by
   unfold ju;rw[auC G,auK,auO j];rfl
  rw[e];exact d
 ·simp only[show ai ((x.2.1:Int)=0)=au from auD om,i_f];refine next E ?_
  have e:ju s a x=x:=by unfold ju;rw[auB G]
  rw[e];exact d
end
section
open Eng
def A9(t0 w)(K:KT):=nz f245 1 [] [] [] (zg [0] [t0]) w K
theorem Fu:A9 t0 w k0->Calls ah 245 #[t0] w k0:=cw func245
def iK(t0 w)(K:KT):=nz f278 1 [] [] [] (zg [0] [t0]) w K
theorem nL:iK t0 w k0->Calls ah 278 #[t0] w k0:=cw func278
def JZ(t0 t1 w)(K:KT):=nz f189 1 [] [] [] (zg [0,1] [t0,t1]) w K
theorem LF:JZ t0 t1 w k0->Calls ah 189 #[t0,t1] w k0:=cw func189
end
section
open Eng Go.RowKit
theorem atI:elB ah 5 1 1=true:=krx
theorem aoA:(Tryz.prog.info? 5).map (·.size)=ay 1:=krx
theorem WJ {dT sT ty T E:TypeId}{g n:Nat}{s:List UInt8}(hu:P.underlying dT=ay (.slice E))(c:(P.info? E).map (·.size)=ay 1)
  (j:w.heap[g]?=ay (.cells cur.toArray T (0,0))) (e:s.length=n) (f:cur.length=n) :
  (mB .copy #[dT,sT] ty cb #[bO g 0 n cap,ae s]).run P w=.ok (.value (goInt n)) (w.setRow g (bA s).toArray):=by
 have h:(bA s).length=n:=by rw[jM,e]
 have a:=run_storeCells_at P g 0 T (bA s) 0 cur.toArray w j (by rw[h];simp[f]) fW;simp only[awF,auP,axY,avU] at a;rw[aAa (by rw[h];simp[f]),avA] at a;obtain⟨i,hi,k⟩:=awP.1 c;have b:List.take n (bA s)=bA s:=avE om;have d:(⟨s.toArray⟩:ByteArray).size=n:=by rw[dX,e]
 unfold bA at b a;simp[mB,builtin,Builtin.copy_,run_underlying hu,Builtin.lenOf,Builtin.firstCells,sizeOf,typeInfo,hi,k,a,d,b,bA]
theorem VE (s:List UInt8)(w:ao)(t:s.length<=1000000000):Ret ah 245 #[xN s] w (λv w'=>v=xN s∧Below w.heap.size w w'):=by
 refine aX λK l=>Fu ?_;unfold A9 nz;refine gK (nL (k0:=wT λv w'=>v=xN s∧Below w.heap.size w w') ?_) (λe W ⟨v,he,m,c⟩=>by subst he;subst m;exact l _ _ ⟨rfl,c⟩);unfold iK nz;rw[show xN s=ae s from rfl,iU auQ];simp only[rs];by_cases d:s=[]
 ·subst d;simp only[ayA,show ai (((0:Nat):Int)=0)=aw from rfl,i_t];exact vG ⟨rfl,Below.refl _ _⟩
 have u:0 < s.length:=azL.2 d;simp only[show ai ((s.length:Int)=0)=au from auD om,i_f];rw[iU auQ];refine Qy avH atI om om (Own.start w) λg f y h c=>?_;rw[avC] at h;refine vZ (WJ avH aoA (c.at_ 0 rfl) rfl h) ?_;have a:Own w (f.setRow g (bA s).toArray) [.cells g (bA s) 5]:=jG c 0 rfl _;generalize f.setRow g (bA s).toArray=w2 at a;refine aD (cZ (P:=ah) (T:=80) (b:=g) (off:=0) (cap:=s.length) (n:=s.length) (k:=.i64) (i:=0) (w:=w2) avH aoA om om) |>.mpr ?_;rw[bW avH];have o:w2.heap[g]?=ay (.cells (bA s).toArray 5 (0,0)):=a.at_ 0 rfl;have q:=Lib.run_unsafeString_row (P:=ah) w2 228 3 9 5 underlying228 krx g s.length (by unfold World.shape?;rw[o];simp[jM]) s d (auL _) om (λj x r=>by
  have:=a.cell 0 rfl j (Eng.kV r);rw[cS,auP];exact this)
 refine vZ (show (mB .unsafeString #[228,3] 9 #[au,au] #[af g 0,ad s.length]).run ah w2=.ok (.value (ae s)) (w2.freeze ⟨g,0,ax⟩ s.length) by
  simp[mB,builtin,q]) ?_
 refine vG ⟨rfl,Lib.below_freeze a.done (p:=⟨g,0,ax⟩) ?_ _⟩;exact ((a.all _ (avD.2 rfl)).2 g rfl).elim (λx=>x.elim) id
theorem sy:∀(f:Nat) (s:List UInt8),(ix f s).length<=40*f+8*s.length
|0,s=>by unfold ix;simp
|f+1,s=>by
  unfold ix;split
  ·rw[km];omega
  ·rw[auH,km];have:=sy f (s.drop 65535);rw[auT] at this;rw[auM];omega
theorem aal (s:List UInt8):(bf (gm s)).length<=s.length+5*(s.length / 65535+1):=by
 have:=sy (s.length / 65535+1) s;rw[lz];unfold gm;omega
theorem aaX (s:List UInt8)(M:Mem)(w:ao)(n:M.has w)(o:s.length<=1048576) :
  jR ah 217 #[xN s,ad 2] M w (λv _=>∃R,v=.tuple #[ae (bf R),ad 0]∧bp R∧ja R s∧(bf R).length<=s.length+5*(s.length / 65535+1)):=by
 refine bB n λK q=>IP ?_;unfold EX nz;have a:bT M.A w w [.mem M]:=bT.memS n;simp only[rs,gd,show ai ((2:Int) < 0)=au from rfl,show ai ((2:Int) < 2)=au from rfl,show ai ((2:Int)=0)=au from rfl,i_f];rw[show xN s=ae s from rfl,iU auQ];simp only[rs,show ai ((1048576:Int) < (s.length:Int))=au from auD om,i_f];refine Xn a o λr a=>?_;refine bH a 0 rfl (UK s M r (a.hasM 0 rfl) o) ?_;rintro pv N w2 g ⟨ps,h,d,i,t⟩ a;have a:bT M.A w w2 [.mem N]:=a;refine join λJ u=>?_;have next:∀(R:List Nat) (c:Mem) (W:ao),N.le c->bT M.A w W [.mem c]->bp R->ja R s->(bf R).length<=s.length+5*(s.length / 65535+1)->J [ae (bf R)] W:=by
  intro R c W g2 a j k l;refine u _ _ λ_=>?_;simp only[gd];unfold B4 nz;refine join λx m=>?_;simp only[rs,auE,i_t];have last:∀(R:List Nat) (c:Mem) (W:ao),N.le c->bT M.A w W [.mem c]->bp R->ja R s->(bf R).length<=s.length+5*(s.length / 65535+1)->x [ae (bf R)] W:=by
   intro R c W g2 a j k l;refine m _ _ λ_=>?_;simp only[gd];unfold BX nz;refine aK a (VE (bf R) W om) ?_;rintro _ B rfl a;exact q _ _ c _ 0 a rfl (g.trans g2) ⟨R,rfl,j,k,l⟩
  refine bH a 0 rfl (Zu ps pv c W (a.hasM 0 rfl) (h.le g2) d om) ?_;rintro _ e f g3 ⟨p,rfl,y,z⟩ a;have a:bT M.A w f [.mem e]:=a;rw[iU auQ,iU auQ];simp only[rs];by_cases b:((bf p).length:Int) < ((bf R).length:Int)
  ·simp only[b,auE,i_t];exact last p e f (g2.trans g3) a y (by rw[<-i];exact z) om
  ·simp only[b,auF,i_f];exact last R e f (g2.trans g3) a j k l
 refine bH a 0 rfl (Vn ps pv N w2 (a.hasM 0 rfl) h d om) ?_;rintro _ e f g3 rfl a;have a:bT M.A w f [.mem e]:=a;rw[iU auQ,iU auQ];simp only[rs];have hle:=aal s;by_cases b:((bf (il ps)).length:Int) < ((bf (gm s)).length:Int)
 ·simp only[b,auE,i_t];exact next (il ps) e f g3 a (zb ps) (by rw[<-i];exact U0 d) om
 ·simp only[b,auF,i_f];exact next (gm s) e f g3 a (Q0 s) (R0 s) hle
theorem aam {R:List Nat}{s:List UInt8}(h:ja R s)(a:bp R)(d:s.length<=1048576):ie ([120,156]++bf R++cd (gy s)) 1048576=(s,0):=by
 have c:(cd (gy s)).length=4:=rfl;unfold ie;have f:([120,156]++bf R++cd (gy s)).drop 2=bf R++cd (gy s):=rfl;have g:¬mc (([120,156]++bf R++cd (gy s)).getD 0 0).toNat (([120,156]++bf R++cd (gy s)).getD 1 0).toNat=true:=show ¬mc 120 156=aw by decide
 rw[auB sm,auB g,f,P0 h a om d];simp only[];have i:([120,156]++bf R++cd (gy s)).length=2+(bf R).length+4:=by simp only[auH,c];simp
 have b:([120,156]++bf R++cd (gy s)).drop (2+(bf R).length)=cd (gy s):=by
  have e:2+(bf R).length=([120,156]++bf R:List UInt8).length:=by simp;omega
  rw[e,List.drop_left]
 rw[auB sm,auB (by rw[i];omega),b,auB (by rw[avE (Nat.le_of_eq c)];simp)]
theorem XF (s:List UInt8)(M:Mem)(w:ao)(b:M.has w)(c:s.length<=1048576) :
  jR ah 189 #[xN s,ad 2] M w (λv _=>∃t,v=.tuple #[xN t,ad 0]∧ie t 1048576=(s,0)∧t.length<=s.length+s.length / 1000+16):=by
 refine bB b λK e=>LF ?_;unfold JZ nz;have a:bT M.A w w [.mem M]:=bT.memS b;refine bH a 0 rfl (aaX s M w b c) ?_;rintro _ N d g ⟨R,rfl,f,h,i⟩ a;have a:bT M.A w d [.mem N]:=a;simp only[ex,eC,rs,show ai ((0:Int)≠0)=au from rfl,i_f];rw[show (Value.string ⟨#[120,156]⟩)=ae ([120,156]:List UInt8) from rfl,ajC (by simp;omega)];refine aK a (Sm s d om) ?_;rintro _ w2 rfl a;refine aK a (PB (gy s) w2) ?_;rintro _ w3 rfl a;rw[ajC (by simp[cd];omega)];exact e _ _ N _ 0 a rfl g ⟨_,rfl,aam h f c,by simp[cd];omega⟩
theorem anF {a b:UInt8}:IntKind.u8.wrap ((a.toNat:Int) - (b.toNat:Int))=((a - b).toNat:Int):=by
 unfold IntKind.wrap;have c:=a.toNat_lt;have d:=b.toNat_lt;simp only[IntKind.bits,IntKind.signed,UInt8.toNat_sub];simp;omega
theorem u8Sl {l:List UInt8}(a:Sl w v 1 l.length (bA l))(hi:i < l.length) :
  ∃p,(mIA 80 v (ad (i:Int))).run ah w=.ok (.value (.pointer (ay p))) w∧(aH 5 (.pointer (ay p))).run ah w=.ok (.value (.int .u8 (l[i].toNat:Int))) w:=by
 obtain⟨b,off,cap,rfl,c⟩:=bR a om;refine⟨⟨b,off+i,ax⟩,?_,?_⟩
 ·have:=cZ (P:=ah) (T:=80) (b:=b) (off:=off) (cap:=cap) (n:=l.length) (k:=.i64) (i:=(i:Int)) (w:=w) avH (show (Tryz.prog.info? 5).map (·.size)=ay 1 by kernel_rfl) om om;rw[auJ,avC] at this;exact this
 ·refine aY (AtV.cell nU8l (c _ _ (kV hi)))
section
variable {w:ao}{PK:PKT}{K:VWP}{S:Nat->Prop}{w0:ao}{L:List Ent}
theorem TX {tag:Int}{d:aq}{row:List UInt8}(a:bT S w0 w L)(s:∀W,bT S w0 W L->Sl W va 1 above.length (bA above))(h:∀W,bT S w0 W L->Sl W d 1 row.length (bA row))(u:1<=colors∧colors<=1000000)(E:row.length<=1000000)
  (k:∀g W,bT S w0 W (.cells g (bA (dt tag above row colors)) 5::L)->K (bO g 0 row.length row.length) W) :
  cR ah 215 #[rwV va d colors,ad tag] w PK K:=by
 generalize t:dt tag above row colors=G at k;have v:G.length=row.length:=by rw[<-t,jn]
 refine⟨Aw ?_⟩;unfold sP nz;have x:va.oneCell'=true:=nS (s w a);have y:d.oneCell'=true:=nS (h w a);have A:∀W:ao,(GP 235 (rwV va d colors)).run ah W=.ok (.value (af W.heap.size 0)) (W.alloc (.cells (rwC va d colors).toArray 235)):=λW=>by
  cases va<;>first|(cases x;done)|skip
  all_goals cases d<;>first|(cases y;done)|kernel_rfl
 refine bK (λb=>af b 0) (rwC va d colors) 235 A a λb B a=>?_;refine aD (bE Ai) |>.mpr (aD (BG (a.at_ 0 rfl)) |>.mpr ?_);rw[aZ avH (h B a.tail)];refine Qy avH (show elB ah 5 1 1=aw by kernel_rfl) om om a λg w2 c j a=>?_;rw[avC] at j;refine aD (bE Ai) |>.mpr (aD (BG (a.at_ 1 rfl)) |>.mpr ?_);rw[aZ avH (h w2 a.tail.tail)];refine loop (λvs W=>∃(i:Nat) (c:List aq),vs=[ad (i:Int)]∧i<=row.length∧c.length+i=row.length∧bT S w0 W (.cells g (bA (G.take i)++c) 5::rwE b va d colors::L)) (λvs _=>row.length - n0 vs) ⟨0,c,rfl,om,om,a⟩ ?_;clear a j c;rintro vs w3 ⟨i,c,rfl,hi,j,a⟩ _;simp only[oI,gd,rs,nz];by_cases l:(i:Int) < (row.length:Int)
 case neg=>
  simp only[l,auF,i_f];have:c=[]:=axZ.1 om;subst this;rw[avA,avE om] at a;exact k g w3 ((bT.swap a).tail)
 have m:i < row.length:=om
 simp only[l,auE,i_t];obtain⟨p,o,q⟩:=u8Sl (h w3 a.tail.tail) m;rw[aD o,aD q,EN (a.agg 1 rfl Qb)];refine aK a (TR tag above row va d (i:Int) colors w3 om u (s w3 a.tail.tail) (h w3 a.tail.tail)) ?_;rintro _ C rfl a;rw[amO,anF];obtain⟨z,c,rfl⟩:∃z r,c=z::r:=by
  cases c with
 |nil=>simp at j;omega
 |cons z c=>exact⟨z,c,rfl⟩
 rw[auX] at j;refine aD (cZ (P:=ah) (T:=80) (b:=g) (off:=0) (cap:=row.length) (n:=row.length) (k:=.i64) (i:=(i:Int)) (w:=C) avH (show (Tryz.prog.info? 5).map (·.size)=ay 1 by kernel_rfl) om om) |>.mpr ?_;rw[auJ,avC,auP];have f:(bA (G.take i)).length=i:=by rw[jM,auM];omega
 refine aO 0 a rfl krx rfl (by rw[auH,f,auX];omega) λF a=>?_
 try simp only[rs]
 rw[aA om om];refine bC ⟨i+1,c,rfl,om,om,?_⟩ (by simp[n0,RowKit.intOf];omega);have D:G[i]'(om)=row[i] - ey tag above row (i:Int) colors:=by
  have:=uf (tag:=tag) (above:=above) (colors:=colors) m;rw[t,auO om] at this;exact axN this
 have e:(bA (G.take i)++z::c).set i (.int .u8 ((row[i] - ey tag above row (i:Int) colors).toNat:Int))=bA (G.take (i+1))++c:=by
  rw[List.set_append,auB (by rw[f];omega),f,axL,axF,avL om,Ns,auN,D];rfl
 rw[<-e];exact a
end
theorem JI (l:List UInt8)(v:aq)(w:ao)(f:Sl w v 1 l.length (bA l))(j:l.length<=1000000):Ret ah 240 #[v] w (λr w'=>r=ad (fh l:Int)∧w=w'):=by
 refine aX λK g=>Ei ?_;unfold Af nz;rw[aZ avH f];have hle:∀i,fh (l.take i)<=256*i:=λi=>by
  unfold fh
  induction i with
 |zero=>simp
 |succ i h=>
   by_cases hi:i < l.length
   ·rw[avL hi,avM,aAq];simp only[avS,axT,ayH,List.sum_nil];have:=l[i].toNat_lt;omega
   ·rw[avE om] at h ⊢;omega
 refine loop (λvs W=>∃i:Nat,vs=[ad (fh (l.take i):Int),ad (i:Int)]∧i<=l.length∧W=w) (λvs _=>l.length - n1 vs) ⟨0,by rw[axY];rfl,om,rfl⟩ ?_;rintro vs k ⟨i,rfl,hi,rfl⟩ _;simp only[tL,gd,rs,nz];have hw:=hle i;by_cases a:(i:Int) < (l.length:Int)
 case neg=>
  simp only[a,auF,i_f];rw[avE om];exact g _ _ ⟨rfl,rfl⟩
 have b:i < l.length:=om
 simp only[a,auE,i_t];obtain⟨p,c,d⟩:=u8Sl f b;have m:=l[i].toNat_lt;rw[aD c,aD d,Oq,Oq]
 try simp only[rs]
 rw[aA (n:=(256:Int) - _) om om,Li]
 try simp only[rs]
 rw[aA (n:=_+min _ _) om om,aA om om];refine bC ⟨i+1,?_,om,rfl⟩ (by simp[n1,RowKit.intOf];omega);have e:fh (l.take (i+1))=fh (l.take i)+min l[i].toNat (256 - l[i].toNat):=by
  unfold fh;rw[avL b,avM,aAq];simp
 rw[e]
 congr 2
 ·congr 1;omega
section
variable {w:ao}{PK:PKT}{K:VWP}{S:Nat->Prop}{w0:ao}{L:List Ent}
theorem alC {d:aq}{row:List UInt8}(c:bT S w0 w L)(n:∀W,bT S w0 W L->Sl W va 1 above.length (bA above))(o:∀W,bT S w0 W L->Sl W d 1 row.length (bA row))(p:1<=colors∧colors<=1000000)(m:row.length<=1000000)
  (k:∀W,bT S w0 W L->K (ad (qc above row colors:Int)) W) :
  cR ah 216 #[rwV va d colors] w PK K:=by
 refine⟨AM ?_⟩;unfold rF nz;have r:va.oneCell'=true:=nS (n w c);have s:d.oneCell'=true:=nS (o w c);have t:∀W:ao,(GP 235 (rwV va d colors)).run ah W=.ok (.value (af W.heap.size 0)) (W.alloc (.cells (rwC va d colors).toArray 235)):=λW=>by
  cases va<;>first|(cases r;done)|skip
  all_goals cases d<;>first|(cases s;done)|kernel_rfl
 refine bK (λb=>af b 0) (rwC va d colors) 235 t c λb v c=>?_;have e:∀W,bT S w0 W (rwE b va d colors::L)->Sl W va 1 above.length (bA above):=λW c=>n W c.tail;have f:∀W,bT S w0 W (rwE b va d colors::L)->Sl W d 1 row.length (bA row):=λW c=>o W c.tail;have j:∀{W:ao} {g:Nat} {tag:Int},bT S w0 W (.cells g (bA (dt tag above row colors)) 5::rwE b va d colors::L)->Sl W (bO g 0 row.length row.length) 1 (dt tag above row colors).length (bA (dt tag above row colors)):=λc=>by
  have:=c.sl 0 rfl 1 row.length row.length (by rw[jM,jn,avC]);rw[jn];exact this
 rw[EN (c.agg 0 rfl Qb)];refine TX (tag:=0) c e f p m λg w2 c=>?_;refine BJ (JI _ _ w2 (j c) (by rw[jn];exact m)) ?_;refine loop (λvs W=>∃k:Nat,vs=[ad ((jq above row colors k).1:Int),ad ((jq above row colors k).2:Int),ad ((k+1:Nat):Int)]∧k<=4∧bT S w0 W (rwE b va d colors::L)) (λvs _=>5 - n2 vs) ⟨0,rfl,om,c.tail⟩ ?_;clear c;rintro vs w3 ⟨i,rfl,hi,c⟩ _;simp only[oV,gd,rs,nz];by_cases l:((i+1:Nat):Int) < 5
 case neg=>
  simp only[l,auF,i_f];obtain rfl:i=4:=om
  exact k w3 c.tail
 simp only[l,auE,i_t];refine join λJ u=>?_;rw[EN (c.agg 0 rfl Qb)];refine TX (tag:=((i+1:Nat):Int)) c e f p m λg q c=>?_;refine BJ (JI _ _ q (j c) (by rw[jn];exact m)) ?_;have next:∀(a b2:Nat),jq above row colors (i+1)=(a,b2)->J [ad (a:Int),ad (b2:Int)] q:=by
  intro a b2 h;refine u _ _ λ_=>?_;simp only[oJ,gd,rs,nz];rw[aA om om];refine bC ⟨i+1,?_,om,c.tail⟩ (by simp[n2,RowKit.intOf];omega);rw[h];rfl
 try simp only[rs]
 by_cases hw:fh (dt ((i+1:Nat):Int) above row colors) < (jq above row colors i).2
 ·simp only[show ai ((fh (dt ((i+1:Nat):Int) above row colors):Int) < ((jq above row colors i).2:Int))=aw from auG om,i_t];exact next (i+1) _ (by rw[jq,auC hw])
 ·simp only[show ai ((fh (dt ((i+1:Nat):Int) above row colors):Int) < ((jq above row colors i).2:Int))=au from auD om,i_f];exact next _ _ (by rw[jq,auB hw])
theorem aaE {n:Nat}(h:n<=10000000)(e:bT S w0 w L)(k:∀v w',bT S w0 w' (pP v []::L)->K v w') :
  DoX ah (Ld 80 (ad 0) (ad (n:Int))) w PK K:=by
 obtain⟨i,z,hi,f,a,b,g⟩:=mA (show elB ah 5 1 1=aw by kernel_rfl);have c:=run_make (P:=ah) w 80 5 i z avH hi f .i64 .i64 (0:Int) (n:Int) om om (by rw[b];omega) om;rw[auJ] at c;refine vZ (cJ c) (k _ _ ?_);have d:=e.alloc (madeCells z.cells (n*i.size)).toList 5;rw[aBg] at d;exact bT.toU d 1 0 n (by rw[Array.length_toList,size_madeCells,a]) om om
end
end
end Go.Proofs.YtlgndjkieegnaaaGreatDoor
