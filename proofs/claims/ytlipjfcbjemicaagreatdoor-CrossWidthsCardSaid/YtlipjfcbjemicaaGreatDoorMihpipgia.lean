/- Texts that go together: ZlA EngAK SPred SRef15 PrA PrB SAsci SAsciR SAsciQ AsA SRef14 AsR AsS AsT AsU SFilt SFilt16 FeA SRef16 FeB CsB Plain18D Plain18E EngAE TbO SCross. -/
import Derived.Lib.ConvBytes
import Derived.Laws.IdiomCopy
import Derived.Test.YtlipjfcbjemicaaGreatDoorRows
import Derived.Test.YtlipjfcbjemicaaGreatDoorMiiooibda
set_option linter.defProp false
set_option linter.unusedSimpArgs false
set_option linter.unusedVariables false
set_option maxRecDepth 20000
open Go.Proofs.Tryz
open Go.Proofs.Tryz renaming prog->ah
open Option renaming some->ax,none->aw
open Bool renaming true->av,false->au
open Go renaming Value->aq,World->ao
open Decidable renaming decide->ai
namespace Go.Proofs.YtlipjfcbjemicaaGreatDoor
variable{D:TypeId}{K:VWP}{L:List Eng.Ent}{M:Eng.Mem}{PK PK2:PKT}{S:Nat->Prop}{W w w0:ao}{a colors:Int}{above key:List UInt8}{b cap i j sz:Nat}{cb:Array Bool}{cs:List aq}{e:Eng.Ent}{o:Ob}{os:List Ob}{q:Bool}{t0 v va vc vk:aq}{t0 t1 t2 t3:aq}{k0:Eng.KT}
section
open Eng Go.RowKit
def gy (x:Nat×Nat)(c:UInt8):Nat×Nat:=((x.1+c.toNat) % 65521,(x.2+(x.1+c.toNat) % 65521) % 65521)
def gj (s:List UInt8):Nat×Nat:=s.foldl gy (1,0)
def gh (s:List UInt8):Nat:=65536*(gj s).2+(gj s).1
def bz (n:Nat):List UInt8:=[UInt8.ofNat (n / 2 ^ 24),UInt8.ofNat (n / 2 ^ 16),UInt8.ofNat (n / 2 ^ 8),UInt8.ofNat n]
def lg (a b:Nat):Bool:=ai (a % 16≠8)||decide (7 < a / 16)||decide ((256*a+b) % 31≠0)||decide (b / 32 % 2≠0)
def gk (s:List UInt8)(most:Int):List UInt8×Int:=
 if s.length < 2 then ([],4)
 else if lg (s.getD 0 0).toNat (s.getD 1 0).toNat=av then ([],3)
 else
  let r:=jq (s.drop 2) most
  if r.2.2≠0 then ([],r.2.2)
  else if s.length < 2+r.2.1+4 then ([],4)
  else if (s.drop (2+r.2.1)).take 4≠bz (gh r.1) then ([],12)
  else (r.1,0)
theorem se (s:List UInt8):(gj s).1 < 65521∧(gj s).2 < 65521:=by
 unfold gj;have:∀(l:List UInt8) (x:Nat×Nat),x.1 < 65521∧x.2 < 65521->(l.foldl gy x).1 < 65521∧(l.foldl gy x).2 < 65521:=by
  intro l
  induction l with
 |nil=>exactλx h=>h
 |cons c l a=>exactλx h=>a _ ⟨aoT _ dc,aoT _ dc⟩
 exact this s _ ⟨dc,dc⟩
theorem zm {s:List UInt8}(h:i < s.length):gj (s.take (i+1))=gy (gj (s.take i)) s[i]:=by
 unfold gj;rw[amO h,asI];rfl
def zlT (x:List UInt8×Int):Value:=.tuple #[.string ⟨x.1.toArray⟩,.int .i64 x.2]
theorem Di {n:Nat}(h:n < 4294967296):IntKind.u32.wrap (n:Int)=(n:Int):=by unfold IntKind.wrap;simp[IntKind.bits,IntKind.signed];omega
theorem Pk {n:Int}(a:0<=n)(h:n < 4294967296):IntKind.u32.wrap n=n:=by unfold IntKind.wrap;simp[IntKind.bits,IntKind.signed];omega
theorem Oy (n:Nat):IntKind.u8.wrap (n:Int)=((UInt8.ofNat n).toNat:Int):=by
 unfold IntKind.wrap;simp[IntKind.bits,IntKind.signed]
theorem agF {a:Nat}(c:b < 2 ^ i):a*2 ^ i ||| b=a*2 ^ i+b:=by
 have:=asT c a;rw[aoD a,<-this]
theorem or32 {a:Nat}(c:a < 65536)(d:b < 65536):bOr .u32 ((b*65536:Nat):Int) (a:Int)=((65536*b+a:Nat):Int):=by
 have e:b*65536 ||| a=65536*b+a:=by
  have:b*65536 ||| a=b*65536+a:=agF (i:=16) c;omega
 unfold bOr;show IntKind.wrap .u32 (((BitVec.ofInt 32 ((b*65536:Nat):Int) ||| BitVec.ofInt 32 (a:Int)).toNat:Nat):Int)=_;rw[BitVec.ofInt_natCast,BitVec.ofInt_natCast,BitVec.toNat_or,BitVec.toNat_ofNat,BitVec.toNat_ofNat,anD om,anD om,e];exact Di om
theorem or64 {a:Nat}(d:a < 256)(c:b < 256):bOr .i64 ((a*256:Nat):Int) (b:Int)=((256*a+b:Nat):Int):=by
 have e:a*256 ||| b=256*a+b:=by
  have:a*256 ||| b=a*256+b:=agF (i:=8) c;omega
 unfold bOr;show IntKind.wrap .i64 (((BitVec.ofInt 64 ((a*256:Nat):Int) ||| BitVec.ofInt 64 (b:Int)).toNat:Nat):Int)=_;rw[BitVec.ofInt_natCast,BitVec.ofInt_natCast,BitVec.toNat_or,BitVec.toNat_ofNat,BitVec.toNat_ofNat,anD om,anD om,e];exact aA om om
theorem QP:∀n:Fin 256,bAnd .i64 (n.val:Int) 15=((n.val % 16:Nat):Int):=by decide +kernel
theorem UP:∀n:Fin 256,bAnd .i64 (n.val:Int) 32=((n.val / 32 % 2*32:Nat):Int):=by decide +kernel
theorem acG {n:Nat}(h:n < 256):bAnd .i64 (n:Int) 15=((n % 16:Nat):Int):=QP ⟨n,h⟩
theorem ahH {n:Nat}(h:n < 256):bAnd .i64 (n:Int) 32=((n / 32 % 2*32:Nat):Int):=UP ⟨n,h⟩
def suC (a b:Nat):List Value:=[.int .u32 (a:Int),.int .u32 (b:Int)]
def suV (a b:Nat):Value:=.agg (suC a b).toArray
abbrev suE (c a b:Nat):Ent:=.cells c (suC a b) 312
theorem NX {a:Nat}:∀u∈suC a b,u.oneCell'=true:=by
 intro u hu;simp only[suC,alN,anA,or_false] at hu;rcases hu with rfl|rfl<;>rfl
theorem Y6:aggN ah 312=ax 2:=krx
theorem szSu:(Tryz.prog.info? 312).map (·.size)=ax 2:=krx
theorem Qo:fOff ah 312 0=ax 0:=krx
theorem Vs:fOff ah 312 1=ax 1:=krx
theorem nU32:eD ah 153=true:=krx
theorem ZT (a b:Nat)(c:UInt8)(w:ao)(j:a < 65521)(k:b < 65521):Ret ah 304 #[suV a b,.int .u8 (c.toNat:Int)] w (λv w'=>v=suV (gy (a,b) c).1 (gy (a,b) c).2∧Below w.heap.size w w'):=by
 refine aZ λK g=>Fy ?_;unfold CA nz;have l:=apH c;refine bA (λb=>.pointer (ax ⟨b,0,aw⟩)) (suC a b) 312 (λ_=>by kernel_rfl) (Own.start w) λb2 m e=>?_;refine bA (λb=>.pointer (ax ⟨b,0,aw⟩)) (suC 0 0) 312 (λ_=>by kernel_rfl) e λf w2 e=>?_;rw[aO Qo,aJ nU32 (e.cell 1 rfl 0 rfl)];refine aD (dU krx underlying153) |>.mpr ?_;rw[Di om,Mq,Pk om om,show (a:Int)+(c.toNat:Int)=((a+c.toNat:Nat):Int) by push_cast;rfl,JY dc,show (((a+c.toNat:Nat):Int)).tmod 65521=(((a+c.toNat) % 65521:Nat):Int) from rfl,aO Qo];refine aK 1 e rfl krx rfl (by show 0+0 < 2;omega) λw3 e=>?_;have hm:=aoT (a+c.toNat) (show 65521>0 by decide);have e:OwnS NoB w w3 [suE f 0 0,suE b2 ((a+c.toNat) % 65521) b]:=e;generalize h:(a+c.toNat) % 65521=d at e hm;rw[aO Vs,aJ nU32 (e.cell 1 rfl 1 rfl),aO Qo,aJ nU32 (e.cell 1 rfl 0 rfl),Mq,Pk om om,show (b:Int)+(d:Int)=((b+d:Nat):Int) by push_cast;rfl,JY dc,show (((b+d:Nat):Int)).tmod 65521=(((b+d) % 65521:Nat):Int) from rfl,aO Vs];refine aK 1 e rfl krx rfl (by show 0+1 < 2;omega) λi e=>?_;have e:OwnS NoB w i [suE f 0 0,suE b2 d ((b+d) % 65521)]:=e;rw[l_at (e.agg 1 rfl Y6)];refine gY 0 e rfl (new:=suC d ((b+d) % 65521)) szSu NX rfl λn e=>?_;refine iC (bI (e.agg 0 rfl Y6)) (g _ _ ⟨?_,e.done⟩);unfold gy suV;dsimp only;rw[h]
theorem Qq (s:List UInt8)(w:ao)(q:s.length<=1000000000):Ret ah 237 #[.string ⟨s.toArray⟩] w (λv w'=>v=.int .u32 (gh s:Int)∧Below w.heap.size w w'):=by
 refine aZ λK l=>KN ?_;unfold Ju nz;have more:Ret ah 270 #[.int .u32 1,.string ⟨s.toArray⟩] w (λv w'=>v=.int .u32 (gh s:Int)∧Below w.heap.size w w'):=by
  refine aZ λK l=>Io ?_;unfold HB nz;rw[T3,show bAnd .u32 1 65535=1 by decide +kernel,JY dc,show (1:Int).tmod 65521=((1:Nat):Int) from rfl,Hr dc,show (1:Int).fdiv (2 ^ (min (16:Int).toNat IntKind.u32.bits))=0 by decide +kernel,JY dc,show (0:Int).tmod 65521=((0:Nat):Int) from rfl];refine aD (show (aS 312 #[(0,.int .u32 ((1:Nat):Int)),(1,.int .u32 ((0:Nat):Int))]).run ah w=.ok (.value (suV 1 0)) w by kernel_rfl) |>.mpr ?_;refine bA (λb=>.pointer (ax ⟨b,0,aw⟩)) (suC 0 0) 312 (λ_=>by kernel_rfl) (Own.start w) λn r d=>?_;refine gY 0 d rfl (new:=suC 1 0) szSu NX rfl λw2 d=>?_;rw[iJ alV];refine loop (λvs W=>∃i:Nat,vs=[.int .i64 (i:Int)]∧i<=s.length∧OwnS NoB w W [suE n (gj (s.take i)).1 (gj (s.take i)).2]) (λvs _=>s.length - n0 vs) ⟨0,rfl,om,d⟩ ?_;clear d;rintro vs w3 ⟨i,rfl,hi,d⟩ _;simp only[BM,gd,rs,nz];by_cases g:(i:Int) < (s.length:Int)
  ·simp only[g,alK,i_t];have j:i < s.length:=om
   obtain⟨e,f⟩:=se (s.take i);have k:=zm j;generalize gj (s.take i)=x at d e f k;obtain⟨a,b⟩:=x;refine dK (λW=>OwnS NoB w W [suE n a b]) d.drew ?_;refine q_at (suV a b) (λW h=>aW (h.agg 0 rfl Y6)) (q_ix (c:=s[i]) alV om (by rw[alQ];exact alT j) ?_);refine lO (suV (gy (a,b) s[i]).1 (gy (a,b) s[i]).2) (λW h=>(ZT a b s[i] W e f).mono λv w' ⟨o,p⟩=>⟨o,h.grow p⟩) ?_;intro t d;refine gY 0 d rfl (new:=suC (gy (a,b) s[i]).1 (gy (a,b) s[i]).2) szSu NX rfl λu d=>?_
   try simp only[rs]
   rw[aA om om];refine aY ⟨i+1,rfl,om,?_⟩ (by simp[n0,RowKit.intOf];omega);rw[k];exact d
  ·simp only[g,alL,i_f];have:i=s.length:=om
   subst this;rw[anI] at d;obtain⟨e,f⟩:=se s;have m:gh s=65536*(gj s).2+(gj s).1:=rfl;generalize gj s=x at d e f m;obtain⟨a,b⟩:=x;dsimp only at e f m;rw[aO Vs,aJ nU32 (d.cell 0 rfl 1 rfl),Fc dc,show min (16:Int).toNat IntKind.u32.bits=16 from rfl,show (b:Int)*2 ^ 16=((b*65536:Nat):Int) by omega,Di om,aO Qo,aJ nU32 (d.cell 0 rfl 0 rfl),b_or,or32 om om,<-m];exact l _ _ ⟨rfl,d.done⟩
 refine Cj more λv w' ⟨e,f⟩=>?_;exact l _ _ ⟨e,f⟩
theorem shrU {n k:Nat}(a:k<=32):((n:Nat):Int).fdiv (2 ^ (min ((k:Nat):Int).toNat IntKind.u32.bits))=((n / 2 ^ k:Nat):Int):=by
 rw[show min ((k:Nat):Int).toNat IntKind.u32.bits=k by show min ((k:Nat):Int).toNat 32=k;omega,QN]
theorem Ld (n:Nat)(w:ao):Ret ah 236 #[.int .u32 (n:Int)] w (λv w'=>v=.string ⟨(bz n).toArray⟩∧Below w.heap.size w w'):=by
 refine aZ λK c=>Ib ?_;unfold Gt nz;rw[Hr dc,show (24:Int)=((24:Nat):Int) from rfl,shrU dc];refine aD (dU krx anQ) |>.mpr ?_;rw[Oy,Hr dc,show (16:Int)=((16:Nat):Int) from rfl,shrU dc];refine aD (dU krx anQ) |>.mpr ?_;rw[Oy,Hr dc,show (8:Int)=((8:Nat):Int) from rfl,shrU dc];refine aD (dU krx anQ) |>.mpr ?_;rw[Oy];refine aD (dU krx anQ) |>.mpr ?_;rw[Oy];refine bA (λb=>.slice (ax ⟨b,0,aw⟩) 4 4) (aP (bz n)) 5 (λ_=>by kernel_rfl) (Own.start w) λb2 d a=>?_;rw[JP (l:=bz n) amJ anQ alV (a.sl 0 rfl 1 4 4 rfl)];exact c _ _ ⟨rfl,a.done⟩
theorem get0 {s:List UInt8}(h:i < s.length):s[i]?=ax (s.getD i 0):=by
 rw[alO,alT h];rfl
theorem Oh (s:List UInt8)(w:ao)(l:s.length<=1000000000):Ret ah 238 #[.string ⟨s.toArray⟩] w (λv w'=>v=.int .i64 (if s.length < 2 then 4 else if lg (s.getD 0 0).toNat (s.getD 1 0).toNat=av then 3 else 0)∧Below w.heap.size w w'):=by
 refine aZ λK d=>Fw ?_;unfold CH nz;rw[iJ alV]
 try simp only[rs]
 by_cases e:s.length < 2
 ·rw[alH e] at d;simp only[show ai ((s.length:Int) < 2)=av from alM om,i_t];exact d _ _ ⟨rfl,Below.refl _ _⟩
 rw[alG e] at d;simp only[show ai ((s.length:Int) < 2)=au from alJ om,i_f];refine quiet (q_ix (c:=s.getD 0 0) alV dc (get0 om) (q_do _ (λ_=>dU krx anG) (q_ix (c:=s.getD 1 0) alV dc (get0 om) (q_do _ (λ_=>dU krx anG) ?_))));intro m hw;have f:=apH (s.getD 0 0);have g:=apH (s.getD 1 0);generalize (s.getD 0 0).toNat=a at f d;generalize (s.getD 1 0).toNat=b at g d;rw[show IntKind.i64.wrap (a:Int)=(a:Int) from aA om om,show IntKind.i64.wrap (b:Int)=(b:Int) from aA om om];rw[T3,acG om];unfold lg at d
 try simp only[rs]
 by_cases h:a % 16=8
 case neg=>
  simp only[show ai (((a % 16:Nat):Int)≠8)=av from alM om,rs];rw[alH (by simp[h])] at d;exact d _ _ ⟨rfl,hw⟩
 simp only[show ai (((a % 16:Nat):Int)≠8)=au from alJ om,rs];rw[Hr dc,show ((a:Nat):Int).fdiv (2 ^ (min (4:Int).toNat IntKind.i64.bits))=((a / 2 ^ 4:Nat):Int) from QN a 4]
 try simp only[rs]
 by_cases i:7 < a / 16
 ·simp only[show ai ((7:Int) < ((a / 2 ^ 4:Nat):Int))=av from alM om,rs];rw[alH (by simp[i])] at d;exact d _ _ ⟨rfl,hw⟩
 simp only[show ai ((7:Int) < ((a / 2 ^ 4:Nat):Int))=au from alJ om,rs];rw[Fc dc,show min (8:Int).toNat IntKind.i64.bits=8 from rfl,show (a:Int)*2 ^ 8=((a*256:Nat):Int) by push_cast;rfl,aA om om]
 try simp only[rs]
 rw[b_or,or64 f g,JY dc,show ((256*a+b:Nat):Int).tmod 31=(((256*a+b) % 31:Nat):Int) from rfl]
 try simp only[rs]
 by_cases j:(256*a+b) % 31=0
 case neg=>
  simp only[show ai ((((256*a+b) % 31:Nat):Int)≠0)=av from alM om,rs];rw[alH (by simp[j])] at d;exact d _ _ ⟨rfl,hw⟩
 simp only[show ai ((((256*a+b) % 31:Nat):Int)≠0)=au from alJ om,rs];rw[T3,ahH om]
 try simp only[rs]
 by_cases k:b / 32 % 2=0
 case neg=>
  simp only[show ai (((b / 32 % 2*32:Nat):Int)≠0)=av from alM om,rs];rw[alH (by simp[k])] at d;exact d _ _ ⟨rfl,hw⟩
 simp only[show ai (((b / 32 % 2*32:Nat):Int)≠0)=au from alJ om,rs];rw[alG (by simp[h,i,j,k])] at d;exact d _ _ ⟨rfl,hw⟩
theorem Ot (s:List UInt8)(most:Int)(M:Mem)(w:ao)(f:Rp M)(g:Od M)(p:s.length<=1000000000)(l:M.has w) :
  RetM ah 192 #[.string ⟨s.toArray⟩,.int .i64 most] M w (λv _=>v=zlT (gk s most)∧(gk s most).1.length<=1048576):=by
 refine bB l λK c=>Fg ?_;generalize a:gk s most=X at c;unfold gk at a;unfold Du nz;have b:OwnS M.A w w [.mem M]:=OwnS.memS l;refine aM b (Oh s w p) ?_;rintro _ q rfl b;simp only[eS];by_cases m:s.length < 2
 ·rw[alH m] at a ⊢;simp only[show ai ((4:Int)≠0)=av from rfl,i_t];exact c _ _ M _ 0 b rfl M.le_refl ⟨by rw[<-a];rfl,by rw[<-a];exact amN _⟩
 rw[alG m] at a ⊢;by_cases n:lg (s.getD 0 0).toNat (s.getD 1 0).toNat=av
 ·rw[alH n] at a ⊢;simp only[show ai ((3:Int)≠0)=av from rfl,i_t];exact c _ _ M _ 0 b rfl M.le_refl ⟨by rw[<-a];rfl,by rw[<-a];exact amN _⟩
 rw[alG n] at a ⊢;simp only[show ai ((0:Int)≠0)=au from rfl,i_f];dsimp only at a;rw[PB alV dc om,show (2:Int).toNat=2 from rfl];refine bH b 0 rfl (WS (s.drop 2) most M q f g (by rw[alW];omega) (b.hasM 0 rfl)) ?_;rintro _ N w2 g1 ⟨rfl,hu,i⟩ b;generalize jq (s.drop 2) most=r at a hu i;obtain⟨t,u,e⟩:=r;dsimp only at a hu i;rw[alW] at hu;simp only[flT,ex,eS];by_cases he:e=0
 case neg=>
  rw[alH he] at a;simp only[alM (show e≠0 from he),i_t];exact c _ _ N _ 0 b rfl g1 ⟨by rw[<-a];rfl,by rw[<-a];exact amN _⟩
 rw[alG (by rw[he];decide)] at a;simp only[alJ (show ¬e≠0 by rw[he];decide),i_f];rw[iJ alV,alW]
 try simp only[rs]
 rw[aA om om];by_cases o:s.length < 2+u+4
 ·rw[alH o] at a;simp only[show ai (((s.length - 2:Nat):Int) - (u:Int) < 4)=av from alM om,i_t];exact c _ _ N _ 0 b rfl g1 ⟨by rw[<-a];rfl,by rw[<-a];exact amN _⟩
 rw[alG o] at a;simp only[show ai (((s.length - 2:Nat):Int) - (u:Int) < 4)=au from alJ om,i_f];refine dK (λW=>OwnS M.A w W [.mem N]) b.drew ?_;refine oY ?_;rw[aA om om];refine q_do _ (λ_=>nS alV om om (by rw[alW];omega)) ?_;refine lO _ (λW h=>(Qq t W om).mono λv w' ⟨j,k⟩=>⟨j,h.grow k⟩) ?_;refine lO _ (λW h=>(Ld (gh t) W).mono λv w' ⟨j,k⟩=>⟨j,h.grow k⟩) ?_;refine abH ?_;intro w3 b;rw[show ((u:Int)+4).toNat - ((u:Nat):Int).toNat=4 by omega,alQ,apN];by_cases d:(s.drop (2+u)).take 4=bz (gh t)
 case neg=>
  rw[alH d] at a;simp only[alM (show (s.drop (2+u)).take 4≠bz (gh t) from d),i_t];exact c _ _ N _ 0 b rfl g1 ⟨by rw[<-a];rfl,by rw[<-a];exact amN _⟩
 rw[alG (by rw[d];simp)] at a;simp only[alJ (show ¬(s.drop (2+u)).take 4≠bz (gh t) by rw[d];simp),i_f];exact c _ _ N _ 0 b rfl g1 ⟨by rw[<-a];rfl,by rw[<-a];exact i⟩
end
section
namespace Eng
open Go.RowKit
def MkIs (w:ao)(E:TypeId)(b:Nat)(l:List UInt8):Prop:=∃rest:List aq,w.heap[b]?=ax (.cells (aP l++rest).toArray E (l.length+rest.length,l.length+rest.length+1))
def Ent.mkr (E:TypeId)(b:Nat)(l:List UInt8):Ent:=
 ⟨λk=>k=b,λw=>MkIs w E b l,λ{w w'} h k=>by obtain⟨rest,h⟩:=h;exact⟨rest,(k b rfl).trans h⟩,λ{w} h k a=>by obtain⟨rest,h⟩:=h;cases a;exact dV h⟩
theorem IH (l:List UInt8):(aP l).length=l.length:=by simp[aP]
theorem OB {E:TypeId}{l:List UInt8}(h:(Ent.mkr E b l).is w)(a:(aP l)[i]?=ax v):w.cell? ⟨b,i,aw⟩=ax v:=by
 obtain⟨rest,h⟩:=h;have:(aP l++rest)[i]?=ax v:=by rw[anV (alY.1 a).1];exact a
 simp[World.cell?,h,this]
theorem SQ {E:TypeId}{l:List UInt8}(h:(Ent.mkr E b l).is w):Sl w (.slice (ax ⟨b,0,aw⟩) l.length cap) 1 l.length (aP l):=
 ⟨by rw[IH,amI],ax ⟨b,0,aw⟩,cap,rfl,(λh=>by cases h),λp hp=>by cases hp;exact⟨λ_=>rfl,λj u a=>by rw[alU];exact OB h a⟩⟩
section
variable {S:Nat->Prop}{P:Program}{w w0:ao}{L:List Ent}{PK:PKT}{K:VWP}
theorem Kz {T E:TypeId}{l:List UInt8}(c:P.underlying T=ax .string)(d:P.underlying D=ax (.slice E))(he:P.underlying E=ax (.int .u8))(f:OwnS S w0 w L)
  (k:∀b cap w',OwnS S w0 w' (.mkr E b l::L)->K (.slice (ax ⟨b,0,aw⟩) l.length cap) w'):DoX P (sE T D (.string ⟨l.toArray⟩)) w PK K:=by
 have a:=Go.Lib.run_convert_string_bytes (P:=P) w T D E ⟨l.toArray⟩ c d he;rw[dM] at a;refine rS (cJ a) (k _ _ _ ?_);refine f.add ⟨?_,?_,?_,?_,?_⟩ (.mkr E w.heap.size l) ?_ (λk g=>by cases g;exact alP _)
 ·unfold Go.Lib.bytesWorld World.freeze;split<;>rfl
 ·unfold Go.Lib.bytesWorld World.freeze;split<;>rfl
 ·unfold Go.Lib.bytesWorld World.freeze;split<;>rfl
 ·rw[Go.Lib.bytesWorld_size];omega
 ·intro j h _;exact Go.Lib.bytesWorld_at_old w E _ j h
 ·refine⟨(Array.replicate (grownCap w l.length 0 E - l.length) (Value.int .u8 0)).toList,?_⟩;have:=Go.Lib.bytesWorld_at_new w E ⟨l.toArray⟩;rw[this];have e:Go.Lib.bytesCells w E ⟨l.toArray⟩=(aP l++(Array.replicate (grownCap w l.length 0 E - l.length) (Value.int .u8 0)).toList).toArray:=by
   unfold Go.Lib.bytesCells;rw[dM];apply Array.ext';simp[aP]
  rw[e];simp[aP]
theorem Tz (i:Nat){T E:TypeId}{off:Nat}{l:List UInt8}{c:UInt8}(h:OwnS S w0 w L)(hi:L[i]?=ax (.mkr E b l))(t:(P.info? T).map (·.size)=ax 1)(a:off < l.length)
  (k:∀w',OwnS S w0 w' (L.set i (.mkr E b (l.set off c)))->K undef w'):DoX P (aN T (.pointer (ax ⟨b,off,aw⟩)) (.int .u8 (c.toNat:Int))) w PK K:=by
 obtain⟨rest,g⟩:=(show MkIs w E b l from h.at_ i hi);have d:=OB (h.at_ i hi) (i:=off) (v:=.int .u8 (l[off].toNat:Int)) (by simp[aP,a]);have m:w.frozen? ⟨b,off,aw⟩=false:=by
  unfold World.frozen?;rw[g];simp;omega
 have n:=run_storeCells_cells (P:=P) b off [.int .u8 (c.toNat:Int)] 0 w (λj o=>by
  have:j=0:=by simpa using o
  subst this;exact (congrArg Option.isSome d)) (λj o=>by
  have:j=0:=by simpa using o
  subst this;exact m) (λv u=>by rw[amH.1 u];rfl)
 obtain⟨ii,p,x⟩:=anP.1 t;have f:(Instr.storeAt T (.pointer (ax ⟨b,off,aw⟩)) (.int .u8 (c.toNat:Int))).run P w=.ok () (w.setCells b (off+0) [.int .u8 (c.toNat:Int)]):=by
  have y:(Value.int .u8 (c.toNat:Int)).cells=#[Value.int .u8 (c.toNat:Int)]:=rfl;simp[Instr.storeAt,Instr.sureAddr,storeVar,y,sizeOf,typeInfo,p,x,n]
 refine Bm (HP f) (k _ ?_);have s:b < w.heap.size:=dV g;have z:w.setCells b (off+0) [.int .u8 (c.toNat:Int)]=w.setCell ⟨b,off,aw⟩ (.int .u8 (c.toNat:Int)):=rfl;rw[z];refine h.put i hi (w':=w.setCell ⟨b,off,aw⟩ (.int .u8 (c.toNat:Int))) ⟨rfl,rfl,rfl,by simp[World.setCell],λk _ q=>?_⟩ (.mkr E b (l.set off c)) ⟨rest,?_⟩ (λk q=>.inl q)
 ·have r:k≠b:=λe=>q e;simp[World.setCell,Array.getElem?_modify,Ne.symm r]
 ·have A:w.heap[b]=.cells (aP l++rest).toArray E (l.length+rest.length,l.length+rest.length+1):=(arB.1 g).2;simp only[World.setCell,Array.getElem?_modify,alH,g,arJ,apU,apT,if_false,anZ]
  congr 2
  apply Array.ext';simp only[Array.toList_setIfInBounds];rw[List.set_append_left _ _ (by rw[IH];exact a)];simp[aP,arQ]
end
end Eng
end
section
open Eng
def CO(t0 w)(K:KT):=nz f149 1 [] [] [(2,25)] (zg [0] [t0]) w K
theorem Fb:CO t0 w k0->Calls ah 149 #[t0] w k0:=cw func149
def wC(t0 w)(K:KT):=nz f82 1 [] [] [] (zg [0] [t0]) w K
theorem CN:wC t0 w k0->Calls ah 82 #[t0] w k0:=cw func82
def Dq(t0 w)(K:KT):=nz f231 1 [] [] [] (zg [0] [t0]) w K
theorem E9:Dq t0 w k0->Calls ah 231 #[t0] w k0:=cw func231
def xM(t0 t1 w)(K:KT):=nz f316 1 [] [] [] (zg [0,1] [t0,t1]) w K
theorem B2:xM t0 t1 w k0->Calls ah 316 #[t0,t1] w k0:=cw func316
def fC(t8 t23 w)(N1:JT)(K:KT):=nz f286 983 [N1] [nh 9 [8,23]] [] (zg [8,23] [t8,t23]) w K
def gN(t7 t8 t22 t23 w)(N1:JT)(K:KT):=nz f286 87 [N1] [nh 9 [8,23],(16,[8],λs v j w f=>fC (vg v 0) (s 23) w (f 0) K)] [] (zg [7,8,22,23] [t7,t8,t22,t23]) w K
def wD(t0 t1 t2 w)(K:KT):=nz f286 1 [] [(9,[8,23],λs v j w f=>gN (s 7) (vg v 0) (s 22) (vg v 1) w (f 0) K)] [] (zg [0,1,2] [t0,t1,t2]) w K
theorem Dn:wD t0 t1 t2 w k0->Calls ah 286 #[t0,t1,t2] w k0:=cz [(8,[8])] [(4,[8,23])] func286
def Ew(t0 t1 w)(K:KT):=nz f285 1 [] [] [] (zg [0,1] [t0,t1]) w K
theorem Hz:Ew t0 t1 w k0->Calls ah 285 #[t0,t1] w k0:=cw func285
def pQ(t0 t1 t2 w)(K:KT):=nz f263 1 [] [] [(1,21)] (zg [0,1,2] [t0,t1,t2]) w K
theorem yK:pQ t0 t1 t2 w k0->Calls ah 263 #[t0,t1,t2] w k0:=cw func263
def mN(t1 t2 t5 t13 t14 t15 w)(N1:JT)(K:KT):=nz f233 43 [N1] [nh 7 [15]] [] (zg [1,2,5,13,14,15] [t1,t2,t5,t13,t14,t15]) w K
def oV(t0 t1 w)(K:KT):=nz f233 1 [] [(7,[15],λs v j w f=>mN (s 1) (s 2) (s 5) (s 13) (s 14) (vg v 0) w (f 0) K)] [] (zg [0,1] [t0,t1]) w K
theorem vR:oV t0 t1 w k0->Calls ah 233 #[t0,t1] w k0:=cz [] [(3,[15])] func233
def lQ(t1 t2 t7 t8 w)(N1:JT)(K:KT):=nz f240 11 [N1] [nh 5 [8]] [(4,11)] (zg [1,2,7,8] [t1,t2,t7,t8]) w K
def nW(t0 t1 w)(K:KT):=nz f240 1 [] [(5,[8],λs v j w f=>lQ (s 1) (s 2) (s 7) (vg v 0) w (f 0) K)] [] (zg [0,1] [t0,t1]) w K
theorem vZ:nW t0 t1 w k0->Calls ah 240 #[t0,t1] w k0:=cz [] [(2,[8])] func240
def qN(t3 t6 t7 t8 w)(N1:JT)(K:KT):=nz f264 43 [N1] [nh 7 [3,8]] [] (zg [3,6,7,8] [t3,t6,t7,t8]) w K
def uY(t0 w)(K:KT):=nz f264 1 [] [(7,[3,8],λs v j w f=>qN (vg v 0) (s 6) (s 7) (vg v 1) w (f 0) K)] [] (zg [0] [t0]) w K
theorem BH:uY t0 w k0->Calls ah 264 #[t0] w k0:=cz [] [(3,[3,8])] func264
def mL(t3 t4 t5 w)(N1:JT)(K:KT):=nz f234 471 [N1] [nh 9 [3,4,5]] [] (zg [3,4,5] [t3,t4,t5]) w K
def mG(t1 t3 t4 t5 w)(N1:JT)(K:KT):=nz f234 87 [N1] [nh 9 [3,4,5],(10,[3,4],λs v j w f=>mL (vg v 0) (vg v 1) (s 5) w (f 0) K)] [] (zg [1,3,4,5] [t1,t3,t4,t5]) w K
def oB(t0 w)(K:KT):=nz f234 1 [] [(9,[3,4,5],λs v j w f=>mG (s 1) (vg v 0) (vg v 1) (vg v 2) w (f 0) K)] [] (zg [0] [t0]) w K
theorem vU:oB t0 w k0->Calls ah 234 #[t0] w k0:=cz [(5,[3,4])] [(4,[3,4,5])] func234
def uJ(t0 t1 t2 w)(K:KT):=nz f232 1 [] [] [] (zg [0,1,2] [t0,t1,t2]) w K
theorem Bo:uJ t0 t1 t2 w k0->Calls ah 232 #[t0,t1,t2] w k0:=cw func232
def qK(t1 t6 t8 w)(N1:JT)(K:KT):=nz f190 1855 [N1] [nh 23 [1,8]] [] (zg [1,6,8] [t1,t6,t8]) w K
def qR(b c a w)(j:JT)(K:KT):=
 HeldX w (λS5 w=>HDo ah S5 (sE 3 5 a) λd=>HDo ah S5 (aH 246 c) λe=>DoX ah (bN 53 1 #[(0,d)]) w (ay 6 (pk K)) λf w=>S5 w∧(DoX ah (mB .append #[53,53] 53 #[au,au] #[b,f]) w (ay 6 (pk K)) λg w=>S5 w∧(CallX ah 233 #[e,a] w (ay 6 (pk K)) λh w=>S5 w∧(DoX ah (mB .append #[53,53] 53 #[au,au] #[g,h]) w (ay 6 (pk K)) λi w=>S5 w∧(j [i] w)))))
def fW(c a b w)(q:JT)(K:KT):=
 fax 27 c 0 w K λe w=>ldx 3 e w K λf w=>bnx .sub 3 f (iN 10) w K λg w=>JoinX (λr=>fax 27 c 0 w K λh w=>ldx 3 h w K λd w=>ecx .eql 3 69 2 d w K λi w=>IfX i (ldx 246 b w K λj w=>cx 233 #[j,(iN 1)] w K λk w=>apx 53 a k w K λl w=>q [l] w) (ecx .eql 3 69 15 d w K λm w=>IfX m (ldx 246 b w K λn w=>cx 234 #[n] w K λo w=>r [a,o] w) (r [a,g] w))) (λp w=>∀_:Sg,qR (p.getD 0 undef) b (p.getD 1 undef) w q K)
def jL(b d e c a w)(N1:JT)(K:KT):=
 lnx 9 b w K λi w=>bnx .gtr 3 i (iN 0) w K λj w=>IfX j (JoinX (λr=>HeldX w (λS3 w=>HDo ah (λ_=>True) (mFA 246 a 1) λk=>HDo ah S3 (aH 53 k) λf=>HDo ah (λ_=>True) (eG 9 b aw (ax e) aw) λg=>HDo ah (λ_=>True) (mFA 246 a 0) λh=>(DoX ah (sE 9 53 g) w (ay 7 (pk K)) λl w=>S3 w∧(DoX ah (aN 53 h f) w (ay 7 (pk K)) λ_ w=>(HDo ah (λ_=>True) (mFA 246 a 1) λm=>DoX ah (aN 53 m l) w (ay 7 (pk K)) λ_ w=>(fW d c a w r K))))∧(DoX ah (aN 53 h f) w (ay 7 (pk K)) λ_ w=>(DoX ah (sE 9 53 g) w (ay 7 (pk K)) λo w=>S3 w∧(HDo ah (λ_=>True) (mFA 246 a 1) λp=>DoX ah (aN 53 p o) w (ay 7 (pk K)) λ_ w=>(fW d c a w r K)))))) (λq w=>∀_:Sg,qK b e (q.getD 0 undef) w N1 K)) (dx (sE 53 9 c) w K λn w=>K (.returned (.tuple #[n,(iN 0)])) w)
def vD(t0 t1 w)(K:KT):=nz f190 1 [] [(23,[1,8],λs v j w f=>jL (vg v 0) (s 2) (s 6) (vg v 1) (s 9) w (f 0) K)] [] (zg [0,1] [t0,t1]) w K
theorem Bq:vD t0 t1 w k0->Calls ah 190 #[t0,t1] w k0:=cz [(12,[8]),(20,[8,10])] [(11,[1,8])] func190
def fZ(b c d e a f w)(n:JT)(K:KT):=
 ldx 246 a w K λg w=>cx 240 #[g,f] w K λm w=>fax 246 a 1 w K λh w=>ldx 53 h w K λi w=>apx 53 e i w K λj w=>bnx .add 3 c d w K λk w=>slx 9 b (ax k) aw aw w K λl w=>n [l,j] w
def qF(c d b f a e w)(q:JT)(K:KT):=
 bnx .geq 3 e (iN 5) w K λj w=>IfX j (K (.returned (.tuple #[(.string ⟨#[]⟩),(iN 3)])) w) (HeldX w (λS4 w=>HDo ah (λ_=>True) (mFA 246 a 1) λk=>HDo ah S4 (aH 53 k) λg=>HDo ah (λ_=>True) (mBin .add 3 d b) λl=>HDo ah (λ_=>True) (eG 9 c (ax b) (ax l) aw) λh=>HDo ah (λ_=>True) (mFA 246 a 0) λi=>(DoX ah (sE 9 53 h) w (ay 10 (pk K)) λm w=>S4 w∧(DoX ah (aN 53 i g) w (ay 10 (pk K)) λ_ w=>(HDo ah (λ_=>True) (mFA 246 a 1) λn=>DoX ah (aN 53 n m) w (ay 10 (pk K)) λ_ w=>(fZ c d b f a e w q K))))∧(DoX ah (aN 53 i g) w (ay 10 (pk K)) λ_ w=>(DoX ah (sE 9 53 h) w (ay 10 (pk K)) λo w=>S4 w∧(HDo ah (λ_=>True) (mFA 246 a 1) λp=>DoX ah (aN 53 p o) w (ay 10 (pk K)) λ_ w=>(fZ c d b f a e w q K))))))
def pX(t1 t6 t7 t9 t10 w)(a:JT)(K:KT):=nz f193 639 [a] [nh 23 [1,9],(32,[11],λs v j w f=>qF (s 1) (s 6) (s 7) (s 9) (s 10) (vg v 0) w (f 0) K)] [] (zg [1,6,7,9,10] [t1,t6,t7,t9,t10]) w K
def qH(t1 t2 t6 t7 w)(K:KT):=nz f193 15 [] [(23,[1,9],λs v j w f=>pX (vg v 0) (s 6) (s 7) (vg v 1) (s 10) w (f 0) K)] [] (zg [1,2,6,7] [t1,t2,t6,t7]) w K
def vB(t0 t1 w)(K:KT):=nz f193 1 [] [(8,[7],λs v j w f=>qH (s 1) (s 2) (s 6) (vg v 0) w K)] [] (zg [0,1] [t0,t1]) w K
theorem Bs:vB t0 t1 w k0->Calls ah 193 #[t0,t1] w k0:=cz [(4,[7]),(16,[11])] [(11,[1,9])] func193
end
end Go.Proofs.YtlipjfcbjemicaaGreatDoor

namespace Go.Proofs.YtlipjfcbjemicaaGreatDoor
variable{D:TypeId}{K:VWP}{L:List Eng.Ent}{M:Eng.Mem}{PK PK2:PKT}{S:Nat->Prop}{W w w0:ao}{a colors:Int}{above key:List UInt8}{b cap i j sz:Nat}{cb:Array Bool}{cs:List aq}{e:Eng.Ent}{o:Ob}{os:List Ob}{q:Bool}{t0 v va vc vk:aq}{t0 t1 t2 t3:aq}{k0:Eng.KT}
section
open Eng Go.RowKit
structure Pm where
 p:Int
 c:Int
 n:Int
def pmC (x:Pm):List Value:=[.int .i64 x.p,.int .i64 x.c,.int .i64 x.n]
def pmV (x:Pm):Value:=.agg (pmC x).toArray
abbrev pmE (b:Nat)(x:Pm):Ent:=.cells b (pmC x) 27
theorem Gj {x:Pm}:∀u∈pmC x,u.oneCell'=true:=by
 intro u hu;simp only[pmC,alN,anA,or_false] at hu;rcases hu with rfl|rfl|rfl<;>rfl
theorem Kh:aggN ah 27=ax 3:=krx
theorem szPm:(Tryz.prog.info? 27).map (·.size)=ax 3:=krx
theorem XO:fOff ah 27 0=ax 0:=krx
theorem K6:fOff ah 27 1=ax 1:=krx
theorem PA:fOff ah 27 2=ax 2:=krx
def Pm.known (x:Pm):Prop:=x.p=1∨x.p=2∨(10<=x.p∧x.p<=15)
def Pm.ok (x:Pm):Prop:=x.known∧1<=x.c∧1<=x.n∧x.c<=8192∧x.c*x.n<=8192
instance (x:Pm):Decidable x.known:=by unfold Pm.known;infer_instance
instance (x:Pm):Decidable x.ok:=by unfold Pm.ok;infer_instance
theorem Pm.mul_pos {x:Pm}(h:x.ok):1<=x.c*x.n:=by
 obtain⟨_,a,b,_,d⟩:=h;have:1*1<=x.c*x.n:=Int.mul_le_mul a b om om;omega
section
variable {w:ao}{PK:PKT}{K:VWP}{S:Nat->Prop}{w0:ao}{L:List Ent}
theorem H8 (x:Pm)(a:OwnS S w0 w L)(k:∀b w',OwnS S w0 w' (pmE b x::L)->K (.pointer (ax ⟨b,0,aw⟩)) w'):DoX ah (mBox 27 (pmV x)) w PK K:=
 bA (λb=>.pointer (ax ⟨b,0,aw⟩)) (pmC x) 27 (λ_=>by kernel_rfl) a k
theorem pm_v (a:OwnS S w0 w L)(j:Nat){x:Pm}(hi:L[j]?=ax (pmE b x)):DoX ah (aH 27 (.pointer (ax ⟨b,0,aw⟩))) w PK K=K (pmV x) w:=l_at (a.agg j hi Kh)
theorem pm_0 (a:OwnS S w0 w L)(j:Nat){x:Pm}(hi:L[j]?=ax (pmE b x)):DoX ah (aH 3 (.pointer (ax ⟨b,0+0,aw⟩))) w PK K=K (.int .i64 x.p) w:=aJ aU (a.cell j hi 0 rfl)
theorem pm_1 (a:OwnS S w0 w L)(j:Nat){x:Pm}(hi:L[j]?=ax (pmE b x)):DoX ah (aH 3 (.pointer (ax ⟨b,0+1,aw⟩))) w PK K=K (.int .i64 x.c) w:=aJ aU (a.cell j hi 1 rfl)
theorem pm_2 (a:OwnS S w0 w L)(j:Nat){x:Pm}(hi:L[j]?=ax (pmE b x)):DoX ah (aH 3 (.pointer (ax ⟨b,0+2,aw⟩))) w PK K=K (.int .i64 x.n) w:=aJ aU (a.cell j hi 2 rfl)
theorem fpm0 {off:Nat}:DoX ah (mFA 27 (.pointer (ax ⟨b,off,aw⟩)) 0) w PK K=K (.pointer (ax ⟨b,off+0,aw⟩)) w:=aO XO
theorem fpm1 {off:Nat}:DoX ah (mFA 27 (.pointer (ax ⟨b,off,aw⟩)) 1) w PK K=K (.pointer (ax ⟨b,off+1,aw⟩)) w:=aO K6
theorem fpm2 {off:Nat}:DoX ah (mFA 27 (.pointer (ax ⟨b,off,aw⟩)) 2) w PK K=K (.pointer (ax ⟨b,off+2,aw⟩)) w:=aO PA
end
theorem Np {x:Pm}(h:(pmE b x).is W):(aH 3 (.pointer (ax ⟨b,0+1,aw⟩))).run ah W=.ok (.value (.int .i64 x.c)) W:=aB aU (aI (T:=27) (cs:=pmC x) h rfl)
theorem TS {x:Pm}(h:(pmE b x).is W):(aH 3 (.pointer (ax ⟨b,0+2,aw⟩))).run ah W=.ok (.value (.int .i64 x.n)) W:=aB aU (aI (T:=27) (cs:=pmC x) h rfl)
theorem Ks (x:Pm)(w:ao):Ret ah 149 #[pmV x] w (λv w'=>v=.bool (decide x.ok)∧Below w.heap.size w w'):=by
 refine aZ λK o=>Fb ?_;unfold CO nz;refine H8 x (Own.start w) λb q d=>?_;rw[fpm0,pm_0 d 0 rfl];have no:∀{W:ao},¬x.ok->Below w.heap.size w W->K (.returned (.bool au)) W:=λh hw=>o _ _ ⟨by rw[alJ h],hw⟩;have rest:x.known->QuietX q (λa=>
   QDo ah a (mFA 27 (.pointer (ax ⟨b,0,aw⟩)) 1) λt24=>
   QDo ah a (aH 3 t24) λt25=>
   QDo ah a (mBin .geq 3 t25 (.int .i64 1)) λt26=>
   QDo ah a (kH (.bool av) t26 (.bool au)) λt27=>
   GQ t27 av (λE=>QDo ah a (mFA 27 (.pointer (ax ⟨b,0,aw⟩)) 2) E) λt29=>
   GQ t27 av (λE=>QDo ah a (aH 3 t29) E) λt30=>
   GQ t27 av (λE=>QDo ah a (mBin .geq 3 t30 (.int .i64 1)) E) λt31=>
   QDo ah a (kH t27 t31 (.bool au)) λt32=>
   GQ t32 av (λE=>QDo ah a (mFA 27 (.pointer (ax ⟨b,0,aw⟩)) 1) E) λt34=>
   GQ t32 av (λE=>QDo ah a (aH 3 t34) E) λt35=>
   GQ t32 av (λE=>QDo ah a (mBin .leq 3 t35 (.int .i64 8192)) E) λt36=>
   QDo ah a (kH t32 t36 (.bool au)) λt37=>
   GQ t37 av (λE=>QDo ah a (mFA 27 (.pointer (ax ⟨b,0,aw⟩)) 2) E) λt39=>
   GQ t37 av (λE=>QDo ah a (aH 3 t39) E) λt40=>
   GQ t37 av (λE=>QDo ah a (mFA 27 (.pointer (ax ⟨b,0,aw⟩)) 1) E) λt41=>
   GQ t37 av (λE=>QDo ah a (aH 3 t41) E) λt42=>
   GQ t37 av (λE=>QDo ah a (mBin .quo 3 (.int .i64 8192) t42) E) λt43=>
   GQ t37 av (λE=>QDo ah a (mBin .leq 3 t40 t43) E) λt44=>
   QDo ah a (kH t37 t44 (.bool au)) λt45=>
   ∀w,a w->K (.returned t45) w):=by
  intro r;refine dK (λW=>OwnS NoB w W [pmE b x]) d.drew ?_;refine q_do _ (λ_=>bC K6) (q_at _ (λW h=>Np (h.at_ 0 rfl)) (agS (q_pt ?_)));by_cases f:1<=x.c
  case neg=>
   rw[alJ f];simp only[gq];refine q_pf ?_;simp only[gq];refine q_pf ?_;simp only[gq];refine q_pf λW d=>?_;exact no (λh=>f h.2.1) d.done
  rw[alM f];simp only[gq];refine q_do _ (λ_=>bC PA) (q_at _ (λW h=>TS (h.at_ 0 rfl)) (agS (q_pt ?_)));by_cases g:1<=x.n
  case neg=>
   rw[alJ g];simp only[gq];refine q_pf ?_;simp only[gq];refine q_pf λW d=>?_;exact no (λh=>g h.2.2.1) d.done
  rw[alM g];simp only[gq];refine q_do _ (λ_=>bC K6) (q_at _ (λW h=>Np (h.at_ 0 rfl)) (Z2 (q_pt ?_)));by_cases i:x.c<=8192
  case neg=>
   rw[alJ i];simp only[gq];refine q_pf λW d=>?_;exact no (λh=>i h.2.2.2.1) d.done
  rw[alM i];simp only[gq];refine q_do _ (λ_=>bC PA) (q_at _ (λW h=>TS (h.at_ 0 rfl)) ?_);refine q_do _ (λ_=>bC K6) (q_at _ (λW h=>Np (h.at_ 0 rfl)) (ahX om (Z2 (q_pt λW d=>?_))));have s:(8192:Int).tdiv x.c=8192 / x.c:=Int.tdiv_eq_ediv_of_nonneg dc;have t:8192 / x.c<=8192:=Int.ediv_le_self _ dc;have u:0<=8192 / x.c:=Int.ediv_nonneg dc om;rw[s,aA om om];refine o _ _ ⟨?_,d.done⟩;have e:x.n<=8192 / x.c↔x.c*x.n<=8192:=by rw[atX om,Int.mul_comm]
  congr 1
  have:x.ok↔x.n<=8192 / x.c:=⟨λh=>e.2 h.2.2.2.2,λh=>⟨r,f,g,i,e.1 h⟩⟩;exact (decide_eq_decide.2 this).symm
 simp only[rs];by_cases j:x.p=1
 ·simp only[j,alK,rs,gq,g_un];exact rest (.inl j)
 simp only[j,alL,rs];rw[fpm0,pm_0 d 0 rfl];simp only[rs];by_cases k:x.p=2
 ·simp only[k,alK,rs,gq,g_un];exact rest (.inr (.inl k))
 simp only[k,alL,rs];rw[fpm0,pm_0 d 0 rfl];simp only[rs];by_cases l:10<=x.p
 ·simp only[l,alK,rs];rw[fpm0,pm_0 d 0 rfl];simp only[rs];by_cases m:x.p<=15
  ·simp only[m,alK,rs,gq,g_un];exact rest (.inr (.inr ⟨l,m⟩))
  ·simp only[m,alL,rs,gq,g_un];refine dK (λW=>OwnS NoB w W [pmE b x]) d.drew ?_;refine q_pf ?_;simp only[gq];refine q_pf ?_;simp only[gq];refine q_pf ?_;simp only[gq];refine q_pf λW d=>no (λh=>by have:=h.1;unfold Pm.known at this;omega) d.done
 ·simp only[l,alL,rs,gq,g_un];refine dK (λW=>OwnS NoB w W [pmE b x]) d.drew ?_;refine q_pf ?_;simp only[gq];refine q_pf ?_;simp only[gq];refine q_pf ?_;simp only[gq];refine q_pf λW d=>no (λh=>by have:=h.1;unfold Pm.known at this;omega) d.done
theorem IX (x:Pm)(w:ao):Ret ah 82 #[pmV x] w (λv w'=>v=.int .i64 (if x.ok then 0 else 1)∧Below w.heap.size w w'):=by
 refine aZ λK c=>CN ?_;unfold wC nz;refine H8 x (Own.start w) λb d a=>?_;rw[pm_v a 0 rfl];refine aM a (Ks x d) ?_;rintro _ w2 rfl a;simp only[rs];by_cases h:x.ok
 ·rw[alH h] at c;simp only[h,alK,anH,i_f];exact c _ _ ⟨rfl,a.done⟩
 ·rw[alG h] at c;simp only[h,alL,anK,i_t];exact c _ _ ⟨rfl,a.done⟩
theorem OS (x:Pm)(w:ao):Ret ah 231 #[pmV x] w (λv w'=>v=.int .i64 (if x.ok then x.c*x.n else 0)∧Below w.heap.size w w'):=by
 refine aZ λK d=>E9 ?_;unfold Dq nz;refine H8 x (Own.start w) λb e a=>?_;rw[pm_v a 0 rfl];refine aM a (Ks x e) ?_;rintro _ w2 rfl a;simp only[rs];by_cases h:x.ok
 ·rw[alH h] at d;simp only[h,alK,anH,i_f];have f:=Pm.mul_pos h;have g:=h.2.2.2.2;rw[fpm1,pm_1 a 0 rfl,fpm2,pm_2 a 0 rfl];simp only[rs];rw[aA om om];exact d _ _ ⟨rfl,a.done⟩
 ·rw[alG h] at d;simp only[h,alL,anK,i_t];exact d _ _ ⟨rfl,a.done⟩
def ct (x:Int):Int:=max x (-x)
def ng (a b c:UInt8):UInt8:=
 let d:Int:=(a.toNat:Int)+(b.toNat:Int) - (c.toNat:Int)
 if ct (d - (a.toNat:Int))<=ct (d - (b.toNat:Int))∧ct (d - (a.toNat:Int))<=ct (d - (c.toNat:Int)) then a
 else if ct (d - (b.toNat:Int))<=ct (d - (c.toNat:Int)) then b else c
theorem zQ (a b:Int)(w:ao)(d:-10000<=a∧a<=10000)(e:-10000<=b∧b<=10000):Ret ah 316 #[.int .i64 a,.int .i64 b] w (λv w'=>v=.int .i64 (ct (b - a))∧w=w'):=by
 refine aZ λK c=>B2 ?_;unfold xM nz;simp only[rs];rw[aA om om,aA om om,yI];exact c _ _ ⟨by unfold ct;congr 1;omega,rfl⟩
section
variable {w:ao}{PK:PKT}{K:VWP}
theorem u8ix {c:UInt8}:DoX ah (sE 5 3 (.int .u8 (c.toNat:Int))) w PK K=K (.int .i64 (c.toNat:Int)) w:=by
 have a:=apH c;have e:IntKind.i64.wrap (c.toNat:Int)=(c.toNat:Int):=aA om om;have:=dU (P:=ah) (S:=5) (D:=3) (k:=.u8) (n:=(c.toNat:Int)) (w:=w) krx anG;rw[e] at this;exact aD this
end
theorem QG (a b c:UInt8)(w:ao):Ret ah 286 #[.int .u8 (a.toNat:Int),.int .u8 (b.toNat:Int),.int .u8 (c.toNat:Int)] w (λv w'=>v=.int .u8 ((ng a b c).toNat:Int)∧w=w'):=by
 refine aZ λK j=>Dn ?_;unfold wD nz;have s:=apH a;have t:=apH b;have u:=apH c;rw[u8ix,u8ix];simp only[rs];rw[u8ix];simp only[rs];rw[aA (n:=(a.toNat:Int)+(b.toNat:Int)) om om,aA om om];have e:∀W:ao,(aS 323 #[(0,.int .u8 (b.toNat:Int)),(1,.int .u8 (c.toNat:Int))]).run ah W=.ok (.value (.agg #[.int .u8 (b.toNat:Int),.int .u8 (c.toNat:Int)])) W:=λW=>by kernel_rfl
 refine aD (e w) |>.mpr ?_;have hp:ng a b c=(let m:=if ct ((a.toNat:Int)+(b.toNat:Int) - (c.toNat:Int) - (b.toNat:Int)) < ct ((a.toNat:Int)+(b.toNat:Int) - (c.toNat:Int) - (a.toNat:Int)) then b else a
   if ct ((a.toNat:Int)+(b.toNat:Int) - (c.toNat:Int) - (c.toNat:Int)) < ct ((a.toNat:Int)+(b.toNat:Int) - (c.toNat:Int) - (m.toNat:Int)) then c else m):=by
  unfold ng;dsimp only;generalize l:ct ((a.toNat:Int)+(b.toNat:Int) - (c.toNat:Int) - (a.toNat:Int))=A;generalize o:ct ((a.toNat:Int)+(b.toNat:Int) - (c.toNat:Int) - (b.toNat:Int))=B;generalize hC:ct ((a.toNat:Int)+(b.toNat:Int) - (c.toNat:Int) - (c.toNat:Int))=C;by_cases k:B < A
  ·rw[alH k,o,alG om];by_cases g:B<=C
   ·rw[alH g,alG om]
   ·rw[alG g,alH om]
  ·rw[alG k,l];by_cases g:C < A
   ·rw[alH g,alG om,alG om]
   ·rw[alG g,alH om]
 rw[hp] at j;dsimp only at j;generalize p:(a.toNat:Int)+(b.toNat:Int) - (c.toNat:Int)=d at j;have f:-10000<=d∧d<=10000:=om
 have q:∀W:ao,(mIx 323 (.agg #[.int .u8 (b.toNat:Int),.int .u8 (c.toNat:Int)]) (.int .i64 0)).run ah W=.ok (.value (.int .u8 (b.toNat:Int))) W:=λW=>by kernel_rfl
 have r:∀W:ao,(mIx 323 (.agg #[.int .u8 (b.toNat:Int),.int .u8 (c.toNat:Int)]) (.int .i64 1)).run ah W=.ok (.value (.int .u8 (c.toNat:Int))) W:=λW=>by kernel_rfl
 refine loop (λvs W=>w=W∧(vs=[.int .u8 (a.toNat:Int),.int .i64 0]∨vs=[.int .u8 ((if ct (d - (b.toNat:Int)) < ct (d - (a.toNat:Int)) then b else a).toNat:Int),.int .i64 1] ∨
  vs=[.int .u8 ((if ct (d - (c.toNat:Int)) < ct (d - ((if ct (d - (b.toNat:Int)) < ct (d - (a.toNat:Int)) then b else a).toNat:Int)) then c else (if ct (d - (b.toNat:Int)) < ct (d - (a.toNat:Int)) then b else a)).toNat:Int),.int .i64 2])) (λvs _=>2 - n1 vs) ⟨rfl,.inl rfl⟩ ?_
 rintro vs _ ⟨rfl,rfl|rfl|rfl⟩ _
 ·simp only[gN,gd,rs,nz];simp only[show ai ((0:Int) < 2)=av from rfl,i_t];refine join λJ i=>?_;refine aD (q w) |>.mpr ?_;rw[u8ix];refine c_eq (zQ (b.toNat:Int) d w om f) ?_;rw[u8ix];refine c_eq (zQ (a.toNat:Int) d w om f) ?_;simp only[rs];by_cases h:ct (d - (b.toNat:Int)) < ct (d - (a.toNat:Int))
  ·simp only[h,alK,i_t];refine i _ _ λ_=>?_;simp only[fC,gd,rs,nz];exact aY ⟨rfl,.inr (.inl (by rw[alH h];rfl))⟩ (by show 2 - 1 < 2 - 0;decide)
  ·simp only[h,alL,i_f];refine i _ _ λ_=>?_;simp only[fC,gd,rs,nz];exact aY ⟨rfl,.inr (.inl (by rw[alG h];rfl))⟩ (by show 2 - 1 < 2 - 0;decide)
 ·generalize (if ct (d - (b.toNat:Int)) < ct (d - (a.toNat:Int)) then b else a)=m;have hm:=apH m;simp only[gN,gd,rs,nz];simp only[show ai ((1:Int) < 2)=av from rfl,i_t];refine join λJ i=>?_;refine aD (r w) |>.mpr ?_;rw[u8ix];refine c_eq (zQ (c.toNat:Int) d w om f) ?_;rw[u8ix];refine c_eq (zQ (m.toNat:Int) d w om f) ?_;simp only[rs];by_cases h:ct (d - (c.toNat:Int)) < ct (d - (m.toNat:Int))
  ·simp only[h,alK,i_t];refine i _ _ λ_=>?_;simp only[fC,gd,rs,nz];exact aY ⟨rfl,.inr (.inr (by rw[alH h];rfl))⟩ (by show 2 - 2 < 2 - 1;decide)
  ·simp only[h,alL,i_f];refine i _ _ λ_=>?_;simp only[fC,gd,rs,nz];exact aY ⟨rfl,.inr (.inr (by rw[alG h];rfl))⟩ (by show 2 - 2 < 2 - 1;decide)
 ·simp only[gN,gd,rs,nz];simp only[show ai ((2:Int) < 2)=au from rfl,i_f];exact j _ _ ⟨rfl,rfl⟩
def gg (l:List UInt8)(i:Int):UInt8:=if i < 0∨(l.length:Int)<=i then 0 else l.getD i.toNat 0
theorem Nu (l:List UInt8)(v:aq)(i:Int)(w:ao)(d:Sl w v 1 l.length (aP l)):Ret ah 285 #[v,.int .i64 i] w (λr w'=>r=.int .u8 ((gg l i).toNat:Int)∧w=w'):=by
 refine aZ λK a=>Hz ?_;unfold Ew nz;unfold gg at a;simp only[rs];by_cases b:i < 0
 ·simp only[b,alK,rs,g_un];rw[alH (.inl b)] at a;exact a _ _ ⟨rfl,rfl⟩
 simp only[b,alL,rs];rw[bE amJ d];simp only[rs];by_cases c:(l.length:Int)<=i
 ·simp only[c,alK,rs];rw[alH (.inr c)] at a;exact a _ _ ⟨rfl,rfl⟩
 simp only[c,alL,rs];rw[alG om] at a;obtain⟨n,rfl⟩:∃n:Nat,i=(n:Int):=⟨i.toNat,om⟩;have e:n < l.length:=om
 obtain⟨b2,off,f,g⟩:=Wn d e;refine aD (f w) |>.mpr (aD (aB nU8l g) |>.mpr ?_);rw[alQ,alO,alT e] at a;exact a _ _ ⟨rfl,rfl⟩
def ec (tag:Int)(above row:List UInt8)(i colors:Int):UInt8:=
 if tag=1 then gg row (i - colors)
 else if tag=2 then gg above i
 else if tag=3 then UInt8.ofNat (((gg row (i - colors)).toNat+(gg above i).toNat) / 2)
 else if tag=4 then ng (gg row (i - colors)) (gg above i) (gg above (i - colors))
 else 0
def rwC (a r:aq)(c:Int):List Value:=[a,r,.int .i64 c]
def rwV (a r:aq)(c:Int):Value:=.agg (rwC a r c).toArray
abbrev rwE (b:Nat)(a r:aq)(c:Int):Ent:=.cells b (rwC a r c) 246
theorem SF {a r:aq}{c:Int}(b:a.oneCell'=av)(d:r.oneCell'=av):∀u∈rwC a r c,u.oneCell'=true:=by
 intro u hu;simp only[rwC,alN,anA,or_false] at hu;rcases hu with rfl|rfl|rfl
 ·exact b
 ·exact d
 ·rfl
theorem LF:aggN ah 246=ax 3:=krx
theorem szRw:(Tryz.prog.info? 246).map (·.size)=ax 3:=krx
theorem PY:fOff ah 246 0=ax 0:=krx
theorem vF:fOff ah 246 1=ax 1:=krx
theorem XQ:fOff ah 246 2=ax 2:=krx
theorem lJ {n:Nat}(h:Sl w v sz n cs):v.oneCell'=true:=by
 obtain⟨_,a,cap,rfl,_⟩:=h;rfl
theorem RT {a r:aq}{c:Int}(h:(rwE b a r c).is W):(aH 53 (.pointer (ax ⟨b,0+0,aw⟩))).run ah W=.ok (.value a) W:=aB NH (aI (T:=246) (cs:=rwC a r c) h rfl)
theorem zA {a r:aq}{c:Int}(h:(rwE b a r c).is W):(aH 53 (.pointer (ax ⟨b,0+1,aw⟩))).run ah W=.ok (.value r) W:=aB NH (aI (T:=246) (cs:=rwC a r c) h rfl)
theorem Ul {a r:aq}{c:Int}(h:(rwE b a r c).is W):(aH 3 (.pointer (ax ⟨b,0+2,aw⟩))).run ah W=.ok (.value (.int .i64 c)) W:=aB aU (aI (T:=246) (cs:=rwC a r c) h rfl)
theorem akG (x y:UInt8):IntKind.u8.wrap (IntKind.i64.wrap (((x.toNat+y.toNat:Nat):Int).tdiv 2))=((UInt8.ofNat ((x.toNat+y.toNat) / 2)).toNat:Int):=by
 have a:=apH x;have b:=apH y;rw[show ((x.toNat+y.toNat:Nat):Int).tdiv 2=(((x.toNat+y.toNat) / 2:Nat):Int) from rfl,aA om om,Oy]
theorem OE (tag:Int)(above row:List UInt8)(va e:aq)(i colors:Int)(w:ao)(hi:0<=i∧i<=1000000)(p:1<=colors∧colors<=1000000)(k:Sl w va 1 above.length (aP above))(l:Sl w e 1 row.length (aP row)) :
  Ret ah 263 #[rwV va e colors,.int .i64 tag,.int .i64 i] w (λr w'=>r=.int .u8 ((ec tag above row i colors).toNat:Int)∧Below w.heap.size w w'):=by
 refine aZ λK a=>yK ?_;unfold pQ nz;unfold ec at a;have m:=lJ k;have n:=lJ l;have o:∀W:ao,(mBox 246 (rwV va e colors)).run ah W=.ok (.value (.pointer (ax ⟨W.heap.size,0,aw⟩))) (W.alloc (.cells (rwC va e colors).toArray 246)):=λW=>by
  cases va<;>first|(cases m;done)|skip
  all_goals cases e<;>first|(cases n;done)|kernel_rfl
 refine bA (λb=>.pointer (ax ⟨b,0,aw⟩)) (rwC va e colors) 246 o (Own.start w) λb q f=>?_;refine dK (λW=>OwnS NoB w W [rwE b va e colors]) f.drew ?_;refine q_do _ (λ_=>bC vF) (q_at _ (λW h=>zA (h.at_ 0 rfl)) (q_do _ (λ_=>bC XQ) (q_at _ (λW h=>Ul (h.at_ 0 rfl)) (q_do _ (λ_=>rB) ?_))));rw[aA om om];refine lO _ (λW h=>(Nu row e (i - colors) W (OwnS.UK h l)).mono λv w' ⟨c,d⟩=>⟨c,d▸h⟩) ?_;refine q_do _ (λ_=>bC PY) (q_at _ (λW h=>RT (h.at_ 0 rfl)) ?_);refine lO _ (λW h=>(Nu above va i W (OwnS.UK h k)).mono λv w' ⟨c,d⟩=>⟨c,d▸h⟩) ?_;refine q_do _ (λ_=>bC PY) (q_at _ (λW h=>RT (h.at_ 0 rfl)) ?_);refine q_do _ (λ_=>bC XQ) (q_at _ (λW h=>Ul (h.at_ 0 rfl)) (q_do _ (λ_=>rB) ?_));rw[aA om om];refine lO _ (λW h=>(Nu above va (i - colors) W (OwnS.UK h k)).mono λv w' ⟨c,d⟩=>⟨c,d▸h⟩) ?_;intro w2 f;generalize gg row (i - colors)=x at a ⊢;generalize gg above i=y at a ⊢;generalize gg above (i - colors)=z at a ⊢;have s:=apH x;have t:=apH y;simp only[rs];by_cases c:tag=1
 ·simp only[c,alK,i_t];rw[alH c] at a;exact a _ _ ⟨rfl,f.done⟩
 simp only[c,alL,i_f];rw[alG c] at a
 try simp only[rs]
 by_cases d:tag=2
 ·simp only[d,alK,i_t];rw[alH d] at a;exact a _ _ ⟨rfl,f.done⟩
 simp only[d,alL,i_f];rw[alG d] at a
 try simp only[rs]
 by_cases g:tag=3
 ·simp only[g,alK,i_t];rw[alH g] at a;rw[u8ix,u8ix];simp only[rs];rw[aA om om,Ww dc];refine aD (dU krx anQ) |>.mpr ?_;rw[show (x.toNat:Int)+(y.toNat:Int)=((x.toNat+y.toNat:Nat):Int) by omega,akG];exact a _ _ ⟨rfl,f.done⟩
 simp only[g,alL,i_f];rw[alG g] at a
 try simp only[rs]
 by_cases j:tag=4
 ·simp only[j,alK,i_t];rw[alH j] at a;refine c_eq (QG x y z w2) ?_;exact a _ _ ⟨rfl,f.done⟩
 simp only[j,alL,i_f];rw[alG j] at a;exact a _ _ ⟨rfl,f.done⟩
end
section
open Eng Go.RowKit
def dv (tag:Int)(above:List UInt8)(colors:Int):List UInt8->List UInt8->List UInt8
|acc,[]=>acc
|acc,c::r=>dv tag above colors (acc++[c+ec tag above acc (acc.length:Int) colors]) r
theorem pz (tag:Int)(above:List UInt8)(colors:Int):∀(r acc:List UInt8),(dv tag above colors acc r).length=acc.length+r.length
|[],acc=>rfl
|c::r,acc=>by rw[dv,pz tag above colors r,alI,anO,amC];omega
theorem xr {p r:List UInt8}{i:Int}(h:i < (p.length:Int)):gg (p++r) i=gg p i:=by
 unfold gg;by_cases a:i < 0
 ·rw[alH (.inl a),alH (.inl a)]
 ·rw[alG (by rw[alI];omega),alG om,alO,anV om,alO]
theorem sf {tag:Int}{p r:List UInt8}(a:1<=colors):ec tag above (p++r) (p.length:Int) colors=ec tag above p (p.length:Int) colors:=by
 unfold ec;rw[xr om]
def kd (c:Int)(n h:Nat):Nat->List UInt8->List UInt8->List UInt8->List UInt8×Int
|0,_,_,_=>([],13)
|f+1,s,prev,out=>
  if s.length=0 then (out,0)
  else if 5<=(if h=1 then (s.getD 0 0).toNat else 1) then ([],3)
  else
   let row:=dv ((if h=1 then (s.getD 0 0).toNat else 1:Nat):Int) prev c [] ((s.drop h).take n)
   kd c n h f (s.drop (n+h)) row (out++row)
def Pm.head (x:Pm):Nat:=if 10<=x.p then 1 else 0
def ft (x:Pm)(s:List UInt8):List UInt8×Int:=
 if ¬x.ok then ([],1)
 else if 1048576 < s.length then ([],5)
 else if x.p=1 then (s,0)
 else if s.length % ((x.c*x.n).toNat+x.head)≠0 then ([],16)
 else kd x.c (x.c*x.n).toNat x.head (s.length+1) s [] []
theorem agC {a b:UInt8}:IntKind.u8.wrap ((a.toNat:Int)+(b.toNat:Int))=((a+b).toNat:Int):=by
 rw[show (a.toNat:Int)+(b.toNat:Int)=((a.toNat+b.toNat:Nat):Int) by omega,Oy]
 congr 1
def yM:aq->Nat|.string s=>s.size|_=>0
theorem sF (l:List UInt8):yM (.string ⟨l.toArray⟩)=l.length:=dM l
def BRd (e:Ent)(v:aq)(l:List UInt8):Prop:=∀W,e.is W->Sl W v 1 l.length (aP l)
theorem R3 {b cap:Nat}{l:List UInt8}:BRd (.mkr 5 b l) (.slice (ax ⟨b,0,aw⟩) l.length cap) l:=λW h=>SQ h
section
variable {w:ao}{PK:PKT}{K:VWP}{S:Nat->Prop}{w0:ao}{L:List Ent}
theorem adK {tag:Nat}{b2:Nat}{src:List UInt8}(i j:Nat)(t:i≠j)(a:OwnS S w0 w L)(hi:L[i]?=ax e)(y:L[j]?=ax (.mkr 5 b2 src))(z:BRd e va above)(A:1<=colors∧colors<=1000000)(O:src.length<=1000000)
  (k:∀W,OwnS S w0 W (L.set j (.mkr 5 b2 (dv (tag:Int) above colors [] src)))->K (.tuple #[]) W) :
  CallX ah 240 #[rwV va (.slice (ax ⟨b2,0,aw⟩) src.length cap) colors,.int .i64 (tag:Int)] w PK K:=by
 have u:j < L.length:=(alY.1 y).1;have d:∀l,(L.set j (.mkr 5 b2 l))[j]?=ax (.mkr 5 b2 l):=λl=>by rw[aoS u]
 generalize c:dv (tag:Int) above colors [] src=R at k;refine⟨vZ ?_⟩;unfold nW nz;have B:va.oneCell'=true:=lJ (z w (a.at_ i hi));have C:∀W:ao,(mBox 246 (rwV va (.slice (ax ⟨b2,0,aw⟩) src.length cap) colors)).run ah W=.ok (.value (.pointer (ax ⟨W.heap.size,0,aw⟩))) (W.alloc (.cells (rwC va (.slice (ax ⟨b2,0,aw⟩) src.length cap) colors).toArray 246)):=λW=>by
  cases va<;>first|(cases B;done)|kernel_rfl
 refine bA (λb=>.pointer (ax ⟨b,0,aw⟩)) (rwC va (.slice (ax ⟨b2,0,aw⟩) src.length cap) colors) 246 C a λb D a=>?_;refine aD (bC vF) |>.mpr (aD (zA (a.at_ 0 rfl)) |>.mpr ?_);have f:∀{W:ao} {l:List UInt8},OwnS S w0 W (rwE b va (.slice (ax ⟨b2,0,aw⟩) src.length cap) colors::L.set j (.mkr 5 b2 l))->l.length=src.length->Sl W (.slice (ax ⟨b2,0,aw⟩) src.length cap) 1 l.length (aP l):=λa E=>by
  have:=SQ (cap:=cap) (a.at_ (j+1) (d _));rw[E] at this ⊢;exact this
 have a:OwnS S w0 D (rwE b va (.slice (ax ⟨b2,0,aw⟩) src.length cap) colors::L.set j (.mkr 5 b2 ([]++src.drop 0))):=by
  rw[amZ,aoL,tH y];exact a
 rw[bE amJ (f a sm)];have F:([]++src.drop 0:List UInt8).length=src.length:=sm
 rw[F];refine loop (λvs W=>∃p:List UInt8,vs=[.int .i64 (p.length:Int)]∧p.length<=src.length∧dv (tag:Int) above colors p (src.drop p.length)=R∧OwnS S w0 W (rwE b va (.slice (ax ⟨b2,0,aw⟩) src.length cap) colors::L.set j (.mkr 5 b2 (p++src.drop p.length)))) (λvs _=>src.length - n0 vs) ⟨[],rfl,sm,c,a⟩ ?_;clear a c;rintro vs w2 ⟨p,rfl,hp,c,a⟩ _;simp only[lQ,gd,rs,nz];by_cases g:(p.length:Int) < (src.length:Int)
 ·simp only[g,alK,i_t];have m:p.length < src.length:=om
  have G:src.drop p.length=src[p.length]::src.drop (p.length+1):=anB m;rw[G] at c a;rw[dv] at c;have o:(p++src[p.length]::src.drop (p.length+1)).length=src.length:=by rw[alI,amC,alW];omega
  have x:(p++src[p.length]::src.drop (p.length+1))[p.length]?=ax src[p.length]:=by rw[aoB (alP _),aoH];rfl
  have q:∀W:ao,(mIA 53 (.slice (ax ⟨b2,0,aw⟩) src.length cap) (.int .i64 (p.length:Int))).run ah W=.ok (.value (.pointer (ax ⟨b2,p.length,aw⟩))) W:=λW=>by
   have:=dY (P:=ah) (T:=53) (b:=b2) (off:=0) (cap:=cap) (n:=src.length) (k:=.i64) (i:=(p.length:Int)) (w:=W) amJ (show (Tryz.prog.info? 5).map (·.size)=ax 1 by kernel_rfl) om om
   rwa [alQ,amI,alU] at this
  refine dK (λW=>OwnS S w0 W (rwE b va (.slice (ax ⟨b2,0,aw⟩) src.length cap) colors::L.set j (.mkr 5 b2 (p++src[p.length]::src.drop (p.length+1))))) a.drew ?_;refine q_do _ (λ_=>bC vF) (q_at _ (λW h=>zA (h.at_ 0 rfl)) (q_do _ q ?_));refine q_at (.int .u8 (src[p.length].toNat:Int)) (λW h=>aB nU8l (OB (h.at_ (j+1) (d _)) (by unfold aP;rw[apP,x];rfl))) ?_;refine q_at (rwV va (.slice (ax ⟨b2,0,aw⟩) src.length cap) colors) (λW h=>aW (h.agg 0 rfl LF)) ?_;refine lO (.int .u8 ((ec (tag:Int) above p (p.length:Int) colors).toNat:Int)) (λW h=>?_) ?_
  ·have r:=f h o;have:=OE (tag:Int) above (p++src[p.length]::src.drop (p.length+1)) va (.slice (ax ⟨b2,0,aw⟩) src.length cap) (p.length:Int) colors W om A (z W (h.at_ (i+1) (show (L.set j (.mkr 5 b2 _))[i]?=ax e by rw[aqO (λh=>t h.symm)];exact hi))) r;rw[sf A.1] at this;exact this.mono λv w' ⟨H,I⟩=>⟨H,h.grow I⟩
  refine oY ?_;rw[agC];refine q_do _ q ?_;intro w3 a;refine Tz (j+1) (l:=p++src[p.length]::src.drop (p.length+1)) a (d _) krx (by rw[o];exact m) λJ a=>?_
  try simp only[rs]
  rw[aA om om];have s:(p++[src[p.length]+ec (tag:Int) above p (p.length:Int) colors]).length=p.length+1:=sm
  refine aY ⟨p++[src[p.length]+ec (tag:Int) above p (p.length:Int) colors],by rw[s];rfl,by rw[s];omega,by rw[s];exact c,?_⟩ (by simp[n0,RowKit.intOf];omega);rw[s];have M:(p++src[p.length]::src.drop (p.length+1)).set p.length (src[p.length]+ec (tag:Int) above p (p.length:Int) colors)=p++[src[p.length]+ec (tag:Int) above p (p.length:Int) colors]++src.drop (p.length+1):=by
   rw[aqF _ _ (alP _),aoH,aoC];simp
  rw[<-M];have a:OwnS S w0 J (rwE b va (.slice (ax ⟨b2,0,aw⟩) src.length cap) colors::(L.set j (.mkr 5 b2 (p++src[p.length]::src.drop (p.length+1)))).set j (.mkr 5 b2 ((p++src[p.length]::src.drop (p.length+1)).set p.length (src[p.length]+ec (tag:Int) above p (p.length:Int) colors)))):=a;rw[aqN] at a;exact a
 ·simp only[g,alL,i_f];have N:p.length=src.length:=om
  rw[anR om] at c a;rw[amE] at a;have c:p=R:=c;subst c;exact k w2 a.tail
end
theorem GY (x:Pm)(s:List UInt8)(r:Nat)(w:ao)(i:1<=r)(j:s.length<=1000000000):Ret ah 232 #[pmV x,.string ⟨s.toArray⟩,.int .i64 (r:Int)] w (λv w'=>v=.int .i64 (if ¬x.ok then 1 else if 1048576 < s.length then 5 else if x.p≠1∧s.length % r≠0 then 16 else 0)∧Below w.heap.size w w'):=by
 refine aZ λK a=>Bo ?_;unfold uJ nz;refine H8 x (Own.start w) λb g c=>?_;rw[pm_v c 0 rfl];refine aM c (Ks x g) ?_;rintro _ w2 rfl c
 try simp only[rs]
 by_cases h:x.ok
 case neg=>
  rw[alH h] at a;simp only[h,alL,anK,i_t];exact a _ _ ⟨rfl,c.done⟩
 rw[alG (by simp[h])] at a;simp only[h,alK,anH,i_f];rw[iJ alV]
 try simp only[rs]
 by_cases e:1048576 < s.length
 ·rw[alH e] at a;simp only[show ai ((1048576:Int) < (s.length:Int))=av from alM om,i_t];exact a _ _ ⟨rfl,c.done⟩
 rw[alG e] at a;simp only[show ai ((1048576:Int) < (s.length:Int))=au from alJ om,i_f];rw[fpm0,pm_0 c 0 rfl]
 try simp only[rs]
 by_cases d:x.p=1
 ·rw[alG (by simp[d])] at a;simp only[d,ne_eq,not_true,alL,rs,g_un];exact a _ _ ⟨rfl,c.done⟩
 simp only[d,ne_eq,apF,alK,rs];rw[iJ alV]
 try simp only[rs]
 rw[JY om,akD]
 try simp only[rs]
 by_cases f:s.length % r=0
 ·rw[alG (by simp[f])] at a;simp only[show ai (((s.length % r:Nat):Int)≠0)=au from alJ om,i_f,rs];exact a _ _ ⟨rfl,c.done⟩
 ·rw[alH ⟨d,f⟩] at a;simp only[show ai (((s.length % r:Nat):Int)≠0)=av from alM om,i_t,rs];exact a _ _ ⟨rfl,c.done⟩
theorem Om (x:Pm)(s:List UInt8)(w:ao)(T:s.length<=1000000000):Ret ah 193 #[pmV x,.string ⟨s.toArray⟩] w (λv w'=>v=zlT (ft x s)∧Below w.heap.size w w'):=by
 refine aZ λK o=>Bs ?_;generalize g:ft x s=X at o;unfold ft at g;unfold vB nz;refine H8 x (Own.start w) λb U d=>?_;rw[pm_v d 0 rfl];refine aM d (OS x U) ?_;rintro _ w2 rfl d;rw[yI];refine join λJ V=>?_;rw[fpm0,pm_0 d 0 rfl]
 try simp only[rs]
 have main:J [.int .i64 (x.head:Int)] w2:=by
  refine V _ _ λ_=>?_;simp only[qH,gd,nz];rw[pm_v d 0 rfl];have y:x.head<=1:=by unfold Pm.head;split<;>omega
  obtain⟨n,P,Y,Z⟩:∃n:Nat,max (if x.ok then x.c*x.n else 0) 1=(n:Int)∧1<=n∧n<=8192:=by
   by_cases h:x.ok
   ·rw[alH h];have h1:=Pm.mul_pos h;have H:=h.2.2.2.2;exact⟨(x.c*x.n).toNat,om,om,om⟩
   ·rw[alG h];exact⟨1,dc,dc,dc⟩
  rw[P]
  try simp only[rs]
  rw[aA om om,show (n:Int)+(x.head:Int)=((n+x.head:Nat):Int) by omega];refine aM d (GY x s (n+x.head) w2 om T) ?_;rintro _ w3 rfl d;simp only[eS];by_cases h:x.ok
  case neg=>
   rw[alH h] at g ⊢;simp only[show ai ((1:Int)≠0)=av from rfl,i_t];exact o _ _ ⟨by rw[<-g];rfl,d.done⟩
  rw[alG (by simp[h])] at g ⊢;have I:(x.c*x.n).toNat=n:=by
   rw[alH h] at P;have h1:=Pm.mul_pos h;omega
  rw[I] at g;by_cases H:1048576 < s.length
  ·rw[alH H] at g ⊢;simp only[show ai ((5:Int)≠0)=av from rfl,i_t];exact o _ _ ⟨by rw[<-g];rfl,d.done⟩
  rw[alG H] at g ⊢;by_cases z:x.p=1
  ·rw[alG (by simp[z])];rw[alH z] at g;simp only[show ai ((0:Int)≠0)=au from rfl,i_f];rw[fpm0,pm_0 d 0 rfl];simp only[z,rs,alK,i_t];exact o _ _ ⟨by rw[<-g];rfl,d.done⟩
  rw[alG z] at g;by_cases A:s.length % (n+x.head)=0
  case neg=>
   rw[alH ⟨z,A⟩];rw[alH A] at g;simp only[show ai ((16:Int)≠0)=av from rfl,i_t];exact o _ _ ⟨by rw[<-g];rfl,d.done⟩
  rw[alG (by simp[A])];rw[alG (by simp[A])] at g;simp only[show ai ((0:Int)≠0)=au from rfl,i_f];rw[fpm0,pm_0 d 0 rfl];simp only[z,rs,alL,i_f];rw[fpm1,pm_1 d 0 rfl];have Q:1<=x.c∧x.c<=1000000:=⟨h.2.1,by have:=h.2.2.2.1;omega⟩;have e:∀W:ao,(aS 246 #[(2,.int .i64 x.c)]).run ah W=.ok (.value (rwV nilS nilS x.c)) W:=λW=>by kernel_rfl
  refine aD (e w3) |>.mpr ?_;refine bA (λb=>.pointer (ax ⟨b,0,aw⟩)) (rwC nilS nilS 0) 246 (λ_=>by kernel_rfl) d λq w4 d=>?_;refine gY 0 d rfl (new:=rwC nilS nilS x.c) szRw (SF rfl rfl) rfl λw5 d=>?_;generalize x.head=i at g y A ⊢;generalize x.c=co at g Q d ⊢;have d:=(d.nilU 5 1).nilU 5 1;have d:=d.sub (L':=[.urow 5 1 nilS 0 [],.urow 5 1 nilS 0 [],rwE q nilS nilS co]) (.cons_cons _ (.cons_cons _ (.cons_cons _ (List.nil_sublist _))));refine loop (λvs W=>∃(t prev out:List UInt8) (ov va j:aq) (e:Ent),vs=[.string ⟨t.toArray⟩,ov]∧t.length<=s.length∧t.length % (n+i)=0∧out.length+t.length<=s.length∧prev.length<=1000000∧BRd e j prev∧va.oneCell'=av∧(∃f,t.length < f∧kd co n i f t prev out=X)∧OwnS NoB w W [outR ov out,e,rwE q va j co]) (λvs _=>yM (vs.getD 0 undef)) ⟨s,[],[],nilS,nilS,nilS,_,rfl,om,A,sm,sm,λW h=>Sl.urow h,rfl,⟨_,om,g⟩,d⟩ ?_;clear d g;rintro vs L ⟨t,prev,out,ov,va,j,e,rfl,a1,M,a6,a7,B,a8,⟨f,hf,g⟩,d⟩ _;simp only[pX,gd,nz];obtain⟨f,rfl⟩:∃f',f=f'+1:=⟨f - 1,om⟩;rw[kd] at g;dsimp only at g;rw[iJ alV]
  try simp only[rs]
  by_cases R:t.length=0
  ·rw[alH R] at g;simp only[show ai ((0:Int) < (t.length:Int))=au from alJ om,i_f];rw[JP amJ anQ alV (wT (d.at_ 0 rfl))];exact o _ _ ⟨by rw[<-g];rfl,d.done⟩
  rw[alG R] at g;simp only[show ai ((0:Int) < (t.length:Int))=av from alM om,i_t];have N:n+i<=t.length:=Nat.le_of_dvd om (Nat.dvd_of_mod_eq_zero M);refine join λJ3 O=>?_;have r:j.oneCell'=true:=lJ (B L (d.at_ 1 rfl));have next:∀tag:Nat,(tag=if i=1 then (t.getD 0 0).toNat else 1)->J3 [.int .i64 (tag:Int)] L:=by
   intro tag C;rw[<-C] at g;refine O _ _ λ_=>?_;simp only[qF,gd,rs,iN,bnx];by_cases S:5<=tag
   ·rw[alH S] at g;simp only[show ai ((5:Int)<=(tag:Int))=av from alM om,i_t];exact o _ _ ⟨by rw[<-g];rfl,d.done⟩
   rw[alG S] at g;simp only[show ai ((5:Int)<=(tag:Int))=au from alJ om,i_f];have u:((t.drop i).take n).length=n:=by rw[alR,alW];omega
   have k:(dv (tag:Int) prev co [] ((t.drop i).take n)).length=n:=by rw[pz,u];simp
   have fin:∀b cap W,OwnS NoB w W [.mkr 5 b ((t.drop i).take n),outR ov out,e,rwE q j (.slice (ax ⟨b,0,aw⟩) ((t.drop i).take n).length cap) co]->fZ (.string ⟨t.toArray⟩) (.int .i64 (n:Int)) (.int .i64 (i:Int)) ov (.pointer (ax ⟨q,0,aw⟩)) (.int .i64 (tag:Int)) W (Q6 (λvs W=>∃(t prev out:List UInt8) (ov va j:aq) (e:Ent),vs=[.string ⟨t.toArray⟩,ov]∧t.length<=s.length∧t.length % (n+i)=0∧out.length+t.length<=s.length∧prev.length<=1000000∧BRd e j prev∧va.oneCell'=av∧(∃f,t.length < f∧kd co n i f t prev out=X)∧OwnS NoB w W [outR ov out,e,rwE q va j co]) (λvs _=>yM (vs.getD 0 undef)) [.string ⟨t.toArray⟩,ov] L) K:=by
    intro b cap W d;unfold fZ ldx bnx fax slx apx cx;rw[l_at (d.agg 3 rfl LF)];refine adK 2 0 dc d rfl rfl B Q om λW2 d=>?_;refine aD (bC vF) |>.mpr (aD (zA (d.at_ 3 rfl)) |>.mpr ?_);have m:=SQ (cap:=cap) (d.at_ 0 rfl);rw[k] at m;rw[u];refine bR 1 amJ elU8 dc d rfl m eW om om λv' D d=>?_
    try simp only[rs]
    rw[aA om om,PB alV om om,show ((n:Int)+(i:Int)).toNat=n+i by omega];have E:BRd (.mkr 5 b (dv (tag:Int) prev co [] ((t.drop i).take n))) (.slice (ax ⟨b,0,aw⟩) n cap) (dv (tag:Int) prev co [] ((t.drop i).take n)):=by
     have:=@R3 b cap (dv (tag:Int) prev co [] ((t.drop i).take n))
     rwa [k] at this
    have d:OwnS NoB w D [.mkr 5 b (dv (tag:Int) prev co [] ((t.drop i).take n)),outR v' (out++dv (tag:Int) prev co [] ((t.drop i).take n)),e,rwE q j (.slice (ax ⟨b,0,aw⟩) n cap) co]:=by
     rw[pK,k];rw[u] at d;exact d
    have F:(t.drop (n+i)).length=t.length - (n+i):=alW;refine aY ⟨t.drop (n+i),_,_,v',j,_,_,rfl,om,?_,by rw[alI,k];omega,by rw[k];omega,E,r,⟨f,om,g⟩,?_⟩ ?_
    ·rw[F,Nat.mod_eq_sub_mod N] at *;omega
    ·exact (OwnS.swap d).sub (.cons_cons _ (.cons_cons _ (.cons _ (aqP _))))
    ·show yM (.string ⟨(t.drop (n+i)).toArray⟩) < yM (.string ⟨t.toArray⟩);rw[sF,sF,F];omega
   have d:=d.drew;refine⟨λW=>∃a,(rwE q a j co).is W,⟨va,d.at_ 2 rfl⟩,?_⟩;refine aR _ (λ_=>bC vF) (jI _ (λW ⟨a,h⟩=>zA h) ?_);refine aR _ (λ_=>Ia) ?_;rw[aA om om];refine aR _ (λ_=>nS alV om om om) ?_;rw[show ((n:Int)+(i:Int)).toNat - ((i:Nat):Int).toNat=n by omega,alQ];refine aR _ (λ_=>bC PY) ⟨?_,?_⟩
   ·refine Kz alV amJ anQ d λb cap w7 d=>⟨⟨va,d.at_ 3 rfl⟩,?_⟩;refine aK 3 d rfl krx r (by show 0+0 < 3;omega) λw8 d=>?_;refine aR _ (λ_=>bC vF) ?_;refine aK 3 d rfl krx rfl (by show 0+1 < 3;omega) λD d=>?_;exact fin b cap D d
   ·refine aK 2 d rfl krx r (by show 0+0 < 3;omega) λw8 d=>?_;refine Kz alV amJ anQ d λb cap w7 d=>⟨⟨j,d.at_ 3 rfl⟩,?_⟩;refine aR _ (λ_=>bC vF) ?_;refine aK 3 d rfl krx rfl (by show 0+1 < 3;omega) λD d=>?_;exact fin b cap D d
  try simp only[rs]
  by_cases G:i=1
  ·simp only[show ai ((i:Int)=1)=av from alM om,i_t];rw[s_ix (c:=t.getD 0 0) alV dc (get0 om),u8ix];exact next _ (by rw[alH G])
  ·simp only[show ai ((i:Int)=1)=au from alJ om,i_f];exact next 1 (by rw[alG G])
 have y:x.head=if 10<=x.p then 1 else 0:=rfl
 by_cases l:10<=x.p
 ·simp only[l,alK,i_t];rw[alH l] at y;rw[y] at main;exact main
 ·simp only[l,alL,i_f];rw[alG l] at y;rw[y] at main;exact main
end
end Go.Proofs.YtlipjfcbjemicaaGreatDoor



namespace Go.Proofs.YtlipjfcbjemicaaGreatDoor
variable{D:TypeId}{K:VWP}{L:List Eng.Ent}{M:Eng.Mem}{PK PK2:PKT}{S:Nat->Prop}{W w w0:ao}{a colors:Int}{above key:List UInt8}{b cap i j sz:Nat}{cb:Array Bool}{cs:List aq}{e:Eng.Ent}{o:Ob}{os:List Ob}{q:Bool}{t0 v va vc vk:aq}{t0 t1 t2 t3:aq}{k0:Eng.KT}
section
open Eng Go.RowKit
def ix (most:Nat):List UInt8->Int->List UInt8->List UInt8×Int
|[],_,_=>([],4)
|c::r,half,out=>
  if Oc.HL c=av then ix most r half out
  else if c=62 then (if half < 0 then (out,0) else if most<=out.length then ([],5) else (out++[UInt8.ofNat (16*half.toNat)],0))
  else if Lx.digit c < 0 then ([],3)
  else if half < 0 then ix most r (Lx.digit c) out
  else if most<=out.length then ([],5)
  else ix most r (-1) (out++[UInt8.ofNat (16*half+Lx.digit c).toNat])
def kj (D:Nat->List UInt8×Int)(most:Int):List UInt8×Int:=if most < 0 then ([],1) else D (min most.toNat 1048576)
def oe (s:List UInt8)(most:Int):List UInt8×Int:=kj (λm=>ix m s (-1) []) most
section
variable {w:ao}{PK:PKT}{K:VWP}{S:Nat->Prop}{w0:ao}{L T:List Ent}
end
end
end Go.Proofs.YtlipjfcbjemicaaGreatDoor

namespace Go.Proofs.YtlipjfcbjemicaaGreatDoor
variable{D:TypeId}{K:VWP}{L:List Eng.Ent}{M:Eng.Mem}{PK PK2:PKT}{S:Nat->Prop}{W w w0:ao}{a colors:Int}{above key:List UInt8}{b cap i j sz:Nat}{cb:Array Bool}{cs:List aq}{e:Eng.Ent}{o:Ob}{os:List Ob}{q:Bool}{t0 v va vc vk:aq}{t0 t1 t2 t3:aq}{k0:Eng.KT}
section
open Eng Go.RowKit
def iy (most:Nat):Nat->List UInt8->List UInt8->List UInt8×Int
|0,_,_=>([],13)
|f+1,s,out=>
  match s with
 |[]=>([],4)
 |c::r=>
   if c.toNat=128 then (out,0)
   else if c.toNat < 128 then
    if r.length < c.toNat+1 then ([],4)
    else if most < out.length+(c.toNat+1) then ([],5)
    else iy most f (r.drop (c.toNat+1)) (out++r.take (c.toNat+1))
   else if r.length < 1 then ([],4)
   else if most < out.length+(257 - c.toNat) then ([],5)
   else iy most f (r.drop 1) (out++Lib.repeatL (r.take 1) (257 - c.toNat))
def qw (s:List UInt8)(most:Int):List UInt8×Int:=kj (λm=>iy m (s.length+1) s []) most
end
section
open Eng Go.RowKit
section
variable {w:ao}{PK:PKT}{K:VWP}{S:Nat->Prop}{w0:ao}{L T:List Ent}
theorem adZ (c:UInt8){ov:aq}{out:List UInt8}(a:OwnS S w0 w (outR ov out::T))(e:out.length<=1000000000)(k:∀b W,OwnS S w0 W (outR b (out++[c])::T)->K b W) :
  DoX ah (bN 53 1 #[(0,.int .u8 (c.toNat:Int))]) w PK λt w=>DoX ah (mB .append #[53,53] 53 #[au,au] #[ov,t]) w PK K:=by
 refine U6 _ a λf w2 a=>?_;refine bR 1 amJ elU8 dc a rfl (oD (a.at_ 0 rfl) dc rfl) eW om om λv' d a=>k v' d ?_;rw[pK];exact a.tail
end
end
section
open Eng Go.RowKit
def si:List Nat:=[52200625,614125,7225,85,1]
def lx (g:List UInt8)(i:Nat):Nat:=(g.getD i 84).toNat
def dq (g:List UInt8):Nat:=(((lx g 0*85+lx g 1)*85+lx g 2)*85+lx g 3)*85+lx g 4
theorem lt5 (h:i < 5):i=0∨i=1∨i=2∨i=3∨i=4:=om
def mq (a:Nat)(r g out:List UInt8):List UInt8×Int:=
 if r=[] then ([],4)
 else if r.getD 0 0≠62∨g.length=1 then ([],3)
 else if g.length=0 then (out,0)
 else if 4294967296<=dq g then ([],3)
 else if a < out.length+(g.length - 1) then ([],5)
 else (out++(bz (dq g)).take (g.length - 1),0)
def fc (a:Nat):List UInt8->List UInt8->List UInt8->List UInt8×Int
|[],_,_=>([],4)
|c::r,g,out=>
  if Oc.HL c=av then fc a r g out
  else if c.toNat=122∧g.length=0 then (if a < out.length+4 then ([],5) else fc a r [] (out++[0,0,0,0]))
  else if 33<=c.toNat∧c.toNat<=117 then
   if g.length+1 < 5 then fc a r (g++[c - 33]) out
   else if 4294967296<=dq (g++[c - 33]) then ([],3)
   else if a < out.length+4 then ([],5)
   else fc a r [] (out++bz (dq (g++[c - 33])))
  else if c.toNat=126 then mq a r g out
  else ([],3)
def sj (s:List UInt8)(most:Int):List UInt8×Int:=kj (λm=>fc m s [] []) most
def Pws (M:Mem):Prop:=M.A 0∧∀i,i < 5->M.w.cell? ⟨0,i,aw⟩=ax (.int .u64 ((si.getD i 0:Nat):Int))
theorem Pws.le {M N:Mem}(h:M.le N)(k:Pws M):Pws N:=⟨h.A _ k.1,λi hi=>Mem.cell h.has k.1 (k.2 i hi)⟩
theorem abM {n:Nat}(h:n < 18446744073709551616):IntKind.u64.wrap (n:Int)=(n:Int):=by unfold IntKind.wrap;simp[IntKind.bits,IntKind.signed];omega
section
variable {w:ao}{PK:PKT}{K:VWP}{S:Nat->Prop}{w0:ao}{L T:List Ent}
end
section
variable {w:ao}{PK:PKT}{K:VWP}{S:Nat->Prop}{w0:ao}{T:List Ent}
end
end
section
open Eng Go.RowKit
def zn (g:List UInt8):Nat->Nat
|0=>0
|i+1=>zn g i*85+lx g i
section
variable {w:ao}{PK:PKT}{K:VWP}{S:Nat->Prop}{w0:ao}{L T:List Ent}
end
end
section
open Eng
def tD(t0 t1 w)(K:KT):=nz f78 1 [] [] [] (zg [0,1] [t0,t1]) w K
theorem vG:tD t0 t1 w k0->Calls ah 78 #[t0,t1] w k0:=cw func78
def tC(t6 t25 t26 t27 w)(a:JT)(K:KT):=nz f79 351 [a] [nh 19 [6,27]] [] (zg [6,25,26,27] [t6,t25,t26,t27]) w K
def rY(t5 w)(K:KT):=nz f79 31 [] [(19,[6,27],λs v j w f=>tC (vg v 0) (s 25) (s 26) (vg v 1) w (f 0) K)] [] (zg [5] [t5]) w K
def xR(t0 w)(K:KT):=nz f79 1 [] [(14,[5],λs v j w f=>rY (vg v 0) w K)] [] (zg [0] [t0]) w K
theorem B5:xR t0 w k0->Calls ah 79 #[t0] w k0:=cz [(7,[5])] [(9,[6,27])] func79
def uB(t1 t8 w)(a:JT)(K:KT):=nz f81 639 [a] [nh 41 [8]] [] (zg [1,8] [t1,t8]) w K
def uP(t1 t8 t47 t48 t49 w)(a:JT)(K:KT):=nz f81 703 [a] [nh 33 [49],(41,[8],λs v j w f=>uB (s 1) (vg v 0) w (f 0) K)] [] (zg [1,8,47,48,49] [t1,t8,t47,t48,t49]) w K
def vP(t1 t5 t8 t30 t31 t32 w)(a:JT)(K:KT):=nz f81 175 [a] [nh 21 [8,32],(33,[49],λs v j w f=>uP (s 1) (s 8) (s 47) (s 48) (vg v 0) w (f 0) K)] [] (zg [1,5,8,30,31,32] [t1,t5,t8,t30,t31,t32]) w K
def vK(t1 t5 w)(K:KT):=nz f81 15 [] [(21,[8,32],λs v j w f=>vP (s 1) (s 5) (vg v 0) (s 30) (s 31) (vg v 1) w (f 0) K)] [] (zg [1,5] [t1,t5]) w K
def Bf(t0 t1 w)(K:KT):=nz f81 1 [] [(16,[5],λs v j w f=>vK (s 1) (vg v 0) w K)] [] (zg [0,1] [t0,t1]) w K
theorem Ed:Bf t0 t1 w k0->Calls ah 81 #[t0,t1] w k0:=cz [(8,[5])] [(10,[8,32]),(16,[49]),(20,[8])] func81
def aC (a:Deferred)(b:aq)(c:aq)(d:aq)(K:Ending->ao->Prop):=pd ah [.cell b 22,.cell c 40,.cell d 30] K [a]
def jQ(a b c d1 w)(K:KT):=
 Bp ah [.cell a 22,.cell b 40,.cell c 30] K [d1] .returning w
def Cl(b a c h i d d1 w)(y:JT)(K:KT):=
 DoX ah (mBin .lss 3 d i) w (aC d1 b a c K) λj w=>IfX j (DoX ah (mIA 22 h d) w (aC d1 b a c K) λk w=>DoX ah (aH 9 k) w (aC d1 b a c K) λl w=>DoX ah (aH 40 a) w (aC d1 b a c K) λm w=>DoX ah (mIA 40 m d) w (aC d1 b a c K) λn w=>DoX ah (aH 27 n) w (aC d1 b a c K) λo w=>CallX ah 82 #[o] w (aC d1 b a c K) λf w=>DoX ah (mEq .neq 30 (.tmp 58) (.const (iN 0)) f (iN 0)) w (aC d1 b a c K) λe w=>etx e l w λp w=>GDo e av (λE=>DoX ah (mEq .neq 9 (.tmp 61) (.const (.string ⟨#[]⟩)) p (.string ⟨#[]⟩)) w (aC d1 b a c K) E) w λq w=>DoX ah (kH e q (.bool au)) w (aC d1 b a c K) λr w=>IfX r (DoX ah (aN 22 b (.slice aw 0 0)) w (aC d1 b a c K) λ_ w=>DoX ah (aN 40 a (.slice aw 0 0)) w (aC d1 b a c K) λ_ w=>DoX ah (aN 30 c f) w (aC d1 b a c K) λ_ w=>Bp ah [.cell b 22,.cell a 40,.cell c 30] K [d1] .returning w) (DoX ah (mBin .add 3 d (iN 1)) w (aC d1 b a c K) λs w=>AtX [d1] [d1] (y [s] w))) (DrawX w (λw=>(DoX ah (aH 22 b) w (aC d1 b a c K) λg w=>(DoX ah (aH 40 a) w (aC d1 b a c K) λt w=>DoX ah (aN 22 b g) w (aC d1 b a c K) λ_ w=>DoX ah (aN 40 a t) w (aC d1 b a c K) λ_ w=>DoX ah (aN 30 c (iN 0)) w (aC d1 b a c K) λ_ w=>jQ b a c d1 w K)∧(DoX ah (aN 22 b g) w (aC d1 b a c K) λ_ w=>DoX ah (aH 40 a) w (aC d1 b a c K) λu w=>DoX ah (aN 40 a u) w (aC d1 b a c K) λ_ w=>DoX ah (aN 30 c (iN 0)) w (aC d1 b a c K) λ_ w=>jQ b a c d1 w K))∧(DoX ah (aH 40 a) w (aC d1 b a c K) λv w=>DoX ah (aH 22 b) w (aC d1 b a c K) λx w=>DoX ah (aN 22 b x) w (aC d1 b a c K) λ_ w=>DoX ah (aN 40 a v) w (aC d1 b a c K) λ_ w=>DoX ah (aN 30 c (iN 0)) w (aC d1 b a c K) λ_ w=>jQ b a c d1 w K)))
def Cr(g a b c h i j d d1 w)(A:JT)(K:KT):=
 DoX ah (mBin .lss 3 d j) w (aC d1 a b c K) λk w=>IfX k (DoX ah (mIA 22 i d) w (aC d1 a b c K) λl w=>DoX ah (aH 9 l) w (aC d1 a b c K) λm w=>CallX ah 80 #[m] w (aC d1 a b c K) λe w=>DoX ah (mExt e 0) w (aC d1 a b c K) λn w=>DoX ah (mExt e 1) w (aC d1 a b c K) λo w=>CallX ah 78 #[o,(iN 15)] w (aC d1 a b c K) λy w=>DoX ah (aH 22 a) w (aC d1 a b c K) λp w=>DoX ah (bN 22 1 #[(0,n)]) w (aC d1 a b c K) λq w=>DoX ah (mB .append #[22,22] 22 #[au,au] #[p,q]) w (aC d1 a b c K) λr w=>DoX ah (aN 22 a r) w (aC d1 a b c K) λ_ w=>DoX ah (mBin .add 3 d (iN 1)) w (aC d1 a b c K) λs w=>AtX [d1] [d1] (A [s] w)) (DoX ah (aH 25 g) w (aC d1 a b c K) λt w=>DoX ah (mB .len #[22] 3 #[au] #[h]) w (aC d1 a b c K) λu w=>CallX ah 81 #[t,u] w (aC d1 a b c K) λv w=>DoX ah (aN 40 b v) w (aC d1 a b c K) λ_ w=>DoX ah (aH 22 a) w (aC d1 a b c K) λf w=>DoX ah (mB .len #[22] 3 #[au] #[f]) w (aC d1 a b c K) λx w=>LoopX [(iN 0)] w (λz w B=>∀_:Sg,Cl a b c f x (z.getD 0 undef) d1 w B K))
def Gs(f w)(K:KT):=
 dx (mBox 25 f) w K λe w=>alx 22 w K λa w=>alx 40 w K λb w=>alx 30 w K λc w=>dx (NJ (.func 77) #[] #[a,b,c]) w K λg w=>DfrX (dfrV g #[]) (λd1=>DoX ah (mFA 25 e 0) w (aC d1 a b c K) λh w=>DoX ah (aH 3 h) w (aC d1 a b c K) λi w=>DoX ah (mEq .eql 3 (.tmp 15) (.const (iN 9)) i (iN 9)) w (aC d1 a b c K) λj w=>CallX ah 78 #[j,(iN 10)] w (aC d1 a b c K) λo w=>DoX ah (aH 25 e) w (aC d1 a b c K) λk w=>CallX ah 79 #[k] w (aC d1 a b c K) λd w=>DoX ah (mB .len #[22] 3 #[au] #[d]) w (aC d1 a b c K) λl w=>DoX ah (mBin .leq 3 l (iN 8)) w (aC d1 a b c K) λm w=>CallX ah 78 #[m,(iN 6)] w (aC d1 a b c K) λp w=>DoX ah (mB .len #[22] 3 #[au] #[d]) w (aC d1 a b c K) λn w=>LoopX [(iN 0)] w (λq w r=>∀_:Sg,Cr e a b c d d n (q.getD 0 undef) d1 w r K))
theorem Ig:Gs t0 w k0->Calls ah 28 #[t0] w k0:=cz [] [(6,[26]),(14,[48])] func28
def sV(t5 t7 t21 t22 t23 w)(N1:JT)(K:KT):=nz f13 175 [N1] [nh 13 [7,23]] [] (zg [5,7,21,22,23] [t5,t7,t21,t22,t23]) w K
def wI(t0 w)(K:KT):=nz f13 1 [] [(13,[7,23],λs v j w f=>sV (s 5) (vg v 0) (s 21) (s 22) (vg v 1) w (f 0) K)] [] (zg [0] [t0]) w K
theorem CD:wI t0 w k0->Calls ah 13 #[t0] w k0:=cz [] [(6,[7,23])] func13
def yL(a w)(K:KT):=
 K (.returned (.tuple #[a,(.bool av)])) w
def zF(a w)(b:JT):=
 b [a] w
def xE(a w)(b:JT):=
 b [a] w
def zE(a w)(b:JT):=
 b [a] w
def wW(a w)(b:JT):=
 b [a] w
def Cw(a w)(K:KT):=
 JoinX (λj=>JoinX (λp=>JoinX (λq=>JoinX (λr=>JoinX (λs=>eqx .eql 9 (.tmp 4) (.const (.string ⟨#[65,72,120]⟩)) a (.string ⟨#[65,72,120]⟩) w K λb w=>IfX b (s [(.string ⟨#[65,83,67,73,73,72,101,120,68,101,99,111,100,101]⟩)] w) (eqx .eql 9 (.tmp 4) (.const (.string ⟨#[65,83,67,73,73,72,101,120,68,101,99,111,100,101]⟩)) a (.string ⟨#[65,83,67,73,73,72,101,120,68,101,99,111,100,101]⟩) w K λc w=>IfX c (s [a] w) (eqx .eql 9 (.tmp 4) (.const (.string ⟨#[65,56,53]⟩)) a (.string ⟨#[65,56,53]⟩) w K λd w=>IfX d (r [(.string ⟨#[65,83,67,73,73,56,53,68,101,99,111,100,101]⟩)] w) (eqx .eql 9 (.tmp 4) (.const (.string ⟨#[65,83,67,73,73,56,53,68,101,99,111,100,101]⟩)) a (.string ⟨#[65,83,67,73,73,56,53,68,101,99,111,100,101]⟩) w K λe w=>IfX e (r [a] w) (eqx .eql 9 (.tmp 4) (.const (.string ⟨#[82,76]⟩)) a (.string ⟨#[82,76]⟩) w K λf w=>IfX f (q [(.string ⟨#[82,117,110,76,101,110,103,116,104,68,101,99,111,100,101]⟩)] w) (eqx .eql 9 (.tmp 4) (.const (.string ⟨#[82,117,110,76,101,110,103,116,104,68,101,99,111,100,101]⟩)) a (.string ⟨#[82,117,110,76,101,110,103,116,104,68,101,99,111,100,101]⟩) w K λg w=>IfX g (q [a] w) (eqx .eql 9 (.tmp 4) (.const (.string ⟨#[70,108]⟩)) a (.string ⟨#[70,108]⟩) w K λh w=>IfX h (p [(.string ⟨#[70,108,97,116,101,68,101,99,111,100,101]⟩)] w) (eqx .eql 9 (.tmp 4) (.const (.string ⟨#[70,108,97,116,101,68,101,99,111,100,101]⟩)) a (.string ⟨#[70,108,97,116,101,68,101,99,111,100,101]⟩) w K λi w=>IfX i (p [a] w) (K (.returned (.tuple #[(.string ⟨#[]⟩),(.bool au)])) w))))))))) (λk w=>∀_:Sg,wW (k.getD 0 undef) w j)) (λl w=>∀_:Sg,zE (l.getD 0 undef) w j)) (λm w=>∀_:Sg,xE (m.getD 0 undef) w j)) (λn w=>∀_:Sg,zF (n.getD 0 undef) w j)) (λo w=>∀_:Sg,yL (o.getD 0 undef) w K)
theorem Fu:Cw t0 w k0->Calls ah 80 #[t0] w k0:=cz [(15,[0]),(999999,[0])] [] func80
def AK(w)(K:KT):=nz f135 1 [] [] [] (zg [] []) w K
theorem DJ:AK w k0->Calls ah 135 #[] w k0:=cw func135
def xO(t0 t1 w)(K:KT):=nz f208 1 [] [] [] (zg [0,1] [t0,t1]) w K
theorem BZ:xO t0 t1 w k0->Calls ah 208 #[t0,t1] w k0:=cw func208
def EW(c w)(K:KT):=
 dx (mBox 25 c) w K λa w=>alx 27 w K λb w=>fax 25 a 0 w K λd w=>ldx 3 d w K λe w=>ecx .eql 3 4 0 e w K λf w=>IfX f (cx 135 #[] w K λg w=>stx 27 b g w K λ_ w=>RetX ah [.cell b 27] w K) (fax 25 a 0 w K λh w=>ldx 3 h w K λi w=>ecx .eql 3 8 7 i w K λj w=>cx 78 #[j,(iN 10)] w K λr w=>HeldX w (λS1 w=>HDo ah S1 (aH 25 a) λk=>HDo ah S1 (aH 25 a) λl=>HDo ah S1 (aH 25 a) λm=>CallX ah 208 #[k,(.string ⟨#[80,114,101,100,105,99,116,111,114]⟩)] w (ay 4 (pk K)) λn w=>S1 w∧(CallX ah 208 #[l,(.string ⟨#[67,111,108,111,114,115]⟩)] w (ay 4 (pk K)) λo w=>S1 w∧(CallX ah 208 #[m,(.string ⟨#[67,111,108,117,109,110,115]⟩)] w (ay 4 (pk K)) λp w=>S1 w∧(HDo ah (λ_=>True) (aS 27 #[(0,n),(1,o),(2,p)]) λq=>DoX ah (aN 27 b q) w (ay 4 (pk K)) λ_ w=>(RetX ah [.cell b 27] w K))))))
theorem HW:EW t0 w k0->Calls ah 147 #[t0] w k0:=cw func147
def AX(t0 w)(K:KT):=nz f148 1 [] [] [] (zg [0] [t0]) w K
theorem D9:AX t0 w k0->Calls ah 148 #[t0] w k0:=cw func148
end
section
open Eng
def Dl(t0 t1 t2 w)(K:KT):=nz f15 1 [] [] [] (zg [0,1,2] [t0,t1,t2]) w K
theorem FK:Dl t0 t1 t2 w k0->Calls ah 15 #[t0,t1,t2] w k0:=cw func15
def H3(t0 t1 w)(K:KT):=nz f54 1 [] [] [(12,7)] (zg [0,1] [t0,t1]) w K
theorem Is:H3 t0 t1 w k0->Calls ah 54 #[t0,t1] w k0:=cw func54
def CG(t0 w)(K:KT):=nz f113 1 [] [] [] (zg [0] [t0]) w K
theorem FI:CG t0 w k0->Calls ah 113 #[t0] w k0:=cw func113
def xJ(t0 t1 w)(K:KT):=nz f171 1 [] [] [] (zg [0,1] [t0,t1]) w K
theorem Ca:xJ t0 t1 w k0->Calls ah 171 #[t0,t1] w k0:=cw func171
def Cp(t0 w)(K:KT):=nz f115 1 [] [] [] (zg [0] [t0]) w K
theorem FF:Cp t0 w k0->Calls ah 115 #[t0] w k0:=cw func115
def xX(t0 t1 w)(K:KT):=nz f173 1 [] [] [] (zg [0,1] [t0,t1]) w K
theorem CF:xX t0 t1 w k0->Calls ah 173 #[t0,t1] w k0:=cw func173
def Eo(t0 t1 t2 w)(K:KT):=nz f17 1 [] [] [] (zg [0,1,2] [t0,t1,t2]) w K
theorem Hl:Eo t0 t1 t2 w k0->Calls ah 17 #[t0,t1,t2] w k0:=cw func17
def Aw(t0 t1 w)(K:KT):=nz f30 1 [] [] [] (zg [0,1] [t0,t1]) w K
theorem DF:Aw t0 t1 w k0->Calls ah 30 #[t0,t1] w k0:=cw func30
def sL(t4 t8 w)(K:KT):=nz f22 4095 [] [] [] (zg [4,8] [t4,t8]) w K
def lG(o b a e g h c p q d w)(J:JT)(K:KT):=
 bnx .lss 3 d q w K λr w=>IfX r (iax 22 p d w K λs w=>ldx 9 s w K λt w=>iax 40 o d w K λu w=>ldx 27 u w K λv w=>cx 68 #[v] w K λi w=>exx i 0 w K λx w=>exx i 1 w K λj w=>alx 25 w K λf w=>stx 25 f x w K λ_ w=>ecx .neq 30 93 0 j w K λy w=>IfX y (dx (aS 25 #[]) w K λz w=>stx 25 a z w K λ_ w=>RetX ah [.cell a 25,.val j] w K) (cx 69 #[t] w K λA w=>dx (bN 23 1 #[(0,A)]) w K λB w=>apx 23 g B w K λC w=>ldx 25 f w K λD w=>dx (bN 23 1 #[(0,D)]) w K λF w=>apx 23 h F w K λG w=>gfx c (mFA 25 f 0) w K λH w=>gfx c (aH 3 H) w K λI w=>gfx c (mEq .neq 3 (.tmp 109) (.const (iN 0)) I (iN 0)) w K λL w=>dx (kH c (.bool av) L) w K λM w=>bnx .add 3 d (iN 1) w K λO w=>J [e,C,G,M,O] w)) (HeldX w (λS4 w=>HDo ah S4 (aH 25 b) λP=>CallX ah 71 #[g] w (ay 6 (pk K)) λQ w=>S4 w∧(CallX ah 70 #[P,(.string ⟨#[70,105,108,116,101,114]⟩),Q] w (ay 6 (pk K)) λk w=>(HDo ah (λ_=>True) (mExt k 0) λR=>HDo ah (λ_=>True) (mExt k 1) λl=>DoX ah (aN 25 b R) w (ay 6 (pk K)) λ_ w=>(ecx .neq 30 120 0 l w K λS w=>IfX S (dx (aS 25 #[]) w K λT w=>stx 25 a T w K λ_ w=>RetX ah [.cell a 25,.val l] w K) (JoinX (λE=>IfX c (HeldX w (λS6 w=>HDo ah S6 (aH 25 b) λU=>CallX ah 71 #[h] w (ay 6 (pk K)) λV w=>S6 w∧(CallX ah 70 #[U,(.string ⟨#[68,101,99,111,100,101,80,97,114,109,115]⟩),V] w (ay 6 (pk K)) λm w=>(HDo ah (λ_=>True) (mExt m 0) λW=>HDo ah (λ_=>True) (mExt m 1) λn=>DoX ah (aN 25 b W) w (ay 6 (pk K)) λ_ w=>(ecx .neq 30 132 0 n w K λX w=>IfX X (dx (aS 25 #[]) w K λY w=>stx 25 a Y w K λ_ w=>RetX ah [.cell a 25,.val n] w K) (E [e] w)))))) (E [e] w)) (λN w=>∀_:Sg,sL b a w K)))))))
def gZ(b f g c a h d w)(N1:JT)(K:KT):=
 bnx .geq 3 d (iN 0) w K λm w=>IfX m (HeldX w (λS2 w=>HDo ah S2 (mIA 22 b d) λn=>HDo ah S2 (aH 9 n) λo=>HDo ah S2 (mIA 40 f d) λp=>HDo ah S2 (aH 27 p) λq=>CallX ah 17 #[o,q,g] w (ay 14 (pk K)) λi w=>S2 w∧(HDo ah S2 (mExt i 0) λr=>HDo ah S2 (mExt i 1) λj=>ecx .neq 30 59 0 j w K λs w=>IfX s (dx (aS 25 #[]) w K λt w=>stx 25 a t w K λ_ w=>RetX ah [.cell a 25,.val j] w K) (bnx .sub 3 d (iN 1) w K λu w=>N1 [r,h,u] w)))) (ldx 25 c w K λv w=>cx 30 #[v,g] w K λk w=>exx k 0 w K λx w=>exx k 1 w K λl w=>stx 25 c x w K λ_ w=>ecx .neq 30 69 0 l w K λe w=>efx e b w λy w=>gfx e (mB .len #[22] 3 #[au] #[y]) w K λz w=>gfx e (mEq .eql 3 (.tmp 73) (.const (iN 0)) z (iN 0)) w K λA w=>dx (kH e (.bool av) A) w K λB w=>IfX B (ldx 25 c w K λC w=>stx 25 a C w K λ_ w=>RetX ah [.cell a 25,.val l] w K) (lnx 22 b w K λD w=>LoopX [h,(.slice aw 0 0),(.slice aw 0 0),(.bool au),(iN 0)] w (λE w F=>∀_:Sg,lG f c a (E.getD 0 undef) (E.getD 1 undef) (E.getD 2 undef) (E.getD 3 undef) b D (E.getD 4 undef) w F K)))
def yY(t0 t1 t2 t3 w)(K:KT):=nz f22 1 [] [(15,[3,9,11],λs v j w f=>gZ (s 1) (s 2) (vg v 0) (s 4) (s 8) (vg v 1) (vg v 2) w (f 0) K)] [] (zg [0,1,2,3] [t0,t1,t2,t3]) w K
theorem BV:yY t0 t1 t2 t3 w k0->Calls ah 22 #[t0,t1,t2,t3] w k0:=cz [(34,[9])] [(7,[3,9,11]),(18,[9,12,13,14,80])] func22
def Cb(d w)(K:KT):=
 dx (mBox 27 d) w K λa w=>alx 25 w K λb w=>QuietX w (λy=>QDo ah y (aH 27 a) λe=>QCall ah y 135 #[] λf=>QDo ah y (mEq .eql 27 (.tmp 4) (.tmp 5) e f) λg=>
 ∀w,y w ->
 IfX g (dx (aS 25 #[]) w K λh w=>stx 25 b h w K λ_ w=>RetX ah [.cell b 25,.val (iN 0)] w K) (HeldX w (λS2 w=>HDo ah (λ_=>True) (mFA 27 a 1) λi=>HDo ah S2 (aH 3 i) λj=>HDo ah (λ_=>True) (mFA 27 a 2) λk=>HDo ah S2 (aH 3 k) λl=>HDo ah (λ_=>True) (mFA 27 a 0) λm=>HDo ah S2 (aH 3 m) λn=>CallX ah 69 #[(.string ⟨#[67,111,108,111,114,115]⟩)] w (ay 9 (pk K)) λo w=>S2 w∧(CallX ah 137 #[j] w (ay 9 (pk K)) λp w=>S2 w∧(CallX ah 69 #[(.string ⟨#[67,111,108,117,109,110,115]⟩)] w (ay 9 (pk K)) λq w=>S2 w∧(CallX ah 137 #[l] w (ay 9 (pk K)) λr w=>S2 w∧(CallX ah 69 #[(.string ⟨#[80,114,101,100,105,99,116,111,114]⟩)] w (ay 9 (pk K)) λs w=>S2 w∧(CallX ah 137 #[n] w (ay 9 (pk K)) λt w=>S2 w∧(DoX ah (bN 23 6 #[(0,o),(1,p),(2,q),(3,r),(4,s),(5,t)]) w (ay 9 (pk K)) λu w=>S2 w∧(CallX ah 136 #[u] w (ay 9 (pk K)) λc w=>S2 w∧(HDo ah (λ_=>True) (mExt c 0) λv=>HDo ah (λ_=>True) (mExt c 1) λx=>DoX ah (aN 25 b v) w (ay 9 (pk K)) λ_ w=>(RetX ah [.cell b 25,.val x] w K))))))))))))
theorem Fm:Cb t0 w k0->Calls ah 68 #[t0] w k0:=cw func68
def Ba(t0 w)(K:KT):=nz f71 1 [] [] [] (zg [0] [t0]) w K
theorem DR:Ba t0 w k0->Calls ah 71 #[t0] w k0:=cw func71
def Ak(t12 t13 t14 t51 w)(a:JT)(K:KT):=nz f67 30399 [a] [nh 33 [12,51]] [(20,10)] (zg [12,13,14,51] [t12,t13,t14,t51]) w K
def AA(t1 t7 t12 t49 t50 t51 w)(a:JT)(K:KT):=nz f67 703 [a] [nh 33 [12,51],(40,[12],λs v j w f=>Ak (vg v 0) (s 13) (s 14) (s 51) w (f 0) K)] [] (zg [1,7,12,49,50,51] [t1,t7,t12,t49,t50,t51]) w K
def A8(t0 t1 t7 t18 t19 t20 w)(N1:JT)(K:KT):=nz f67 87 [N1] [nh 11 [7,20],(33,[12,51],λs v j w f=>AA (s 1) (s 7) (vg v 0) (s 49) (s 50) (vg v 1) w (f 0) K)] [] (zg [0,1,7,18,19,20] [t0,t1,t7,t18,t19,t20]) w K
def EU(t0 t1 w)(K:KT):=nz f67 1 [] [(11,[7,20],λs v j w f=>A8 (s 0) (s 1) (vg v 0) (s 18) (s 19) (vg v 1) w (f 0) K)] [] (zg [0,1] [t0,t1]) w K
theorem Hm:EU t0 t1 w k0->Calls ah 67 #[t0,t1] w k0:=cz [(20,[12])] [(5,[7,20]),(16,[12,51])] func67
def oC(t0 t1 w)(K:KT):=nz f121 1 [] [] [] (zg [0,1] [t0,t1]) w K
theorem vX:oC t0 t1 w k0->Calls ah 121 #[t0,t1] w k0:=cw func121
def mM(t0 t1 w)(K:KT):=nz f122 1 [] [] [] (zg [0,1] [t0,t1]) w K
theorem rT:mM t0 t1 w k0->Calls ah 122 #[t0,t1] w k0:=cw func122
end
section
open Eng Go.RowKit
namespace Ff
abbrev nHx:List UInt8:=[65,83,67,73,73,72,101,120,68,101,99,111,100,101]
abbrev n85:List UInt8:=[65,83,67,73,73,56,53,68,101,99,111,100,101]
abbrev nRL:List UInt8:=[82,117,110,76,101,110,103,116,104,68,101,99,111,100,101]
abbrev nFl:List UInt8:=[70,108,97,116,101,68,101,99,111,100,101]
abbrev aX:List UInt8:=[70,105,108,116,101,114]
abbrev cL:List UInt8:=[68,101,99,111,100,101,80,97,114,109,115]
abbrev FG:List UInt8:=[80,114,101,100,105,99,116,111,114]
abbrev FM:List UInt8:=[67,111,108,111,114,115]
abbrev Fz:List UInt8:=[67,111,108,117,109,110,115]
abbrev Xl:List UInt8:=[66,105,116,115,80,101,114,67,111,109,112,111,110,101,110,116]
def full (n:List UInt8):List UInt8:=
 if n=[65,72,120]∨n=nHx then nHx
 else if n=[65,56,53]∨n=n85 then n85
 else if n=[82,76]∨n=nRL then nRL
 else if n=[70,108]∨n=nFl then nFl
 else []
def zY:Pm:=⟨1,1,1⟩
def num (o:Ob)(key:List UInt8):Int×Int:=match Vl.get o key with|none=>(1,0)|some v=>if v.k=2 then (v.n,0) else (0,10)
def parm (o:Ob):Pm×Int:=
 if o.k=0 then (zY,0)
 else if o.k=7∧(num o FG).2=0∧(num o FM).2=0∧(num o Fz).2=0 then (⟨(num o FG).1,(num o FM).1,(num o Fz).1⟩,0)
 else (⟨0,0,0⟩,10)
def eight (o:Ob):Bool:=match Vl.get o Xl with|none=>av|some v=>ai (v.k=2)&&ai (v.n=8)
theorem DL (n:List UInt8):full n=nHx∨full n=n85∨full n=nRL∨full n=nFl∨full n=[]:=by
 unfold full
 repeat' split
 all_goals simp
end Ff
theorem Hj (n:List UInt8)(w:ao):Ret ah 80 #[.string ⟨n.toArray⟩] w (λv w'=>v=.tuple #[.string ⟨(Ff.full n).toArray⟩,.bool (ai (Ff.full n≠[]))]∧w=w'):=by
 refine aZ λK j=>Fu ?_;unfold Cw eqx;refine join λr k=>join λs l=>join λt o=>join λu p=>join λx q=>?_;have fin:∀m:List UInt8,m=Ff.full n->m≠[]->r [.string ⟨m.toArray⟩] w:=λm hm a=>k _ _ λ_=>by
  simp only[yL,gd];exact j _ _ ⟨by rw[<-hm,alM a],rfl⟩
 have f5:∀m:List UInt8,m=Ff.full n->m≠[]->x [.string ⟨m.toArray⟩] w:=λm hm a=>q _ _ λ_=>by
  simp only[wW,gd];exact fin m hm a
 have f4:∀m:List UInt8,m=Ff.full n->m≠[]->u [.string ⟨m.toArray⟩] w:=λm hm a=>p _ _ λ_=>by
  simp only[zE,gd];exact fin m hm a
 have f3:∀m:List UInt8,m=Ff.full n->m≠[]->t [.string ⟨m.toArray⟩] w:=λm hm a=>o _ _ λ_=>by
  simp only[xE,gd];exact fin m hm a
 have f2:∀m:List UInt8,m=Ff.full n->m≠[]->s [.string ⟨m.toArray⟩] w:=λm hm a=>l _ _ λ_=>by
  simp only[zF,gd];exact fin m hm a
 clear k l o p q fin;rw[Ik];by_cases c:n=[65,72,120]
 ·rw[alM c,i_t];exact f5 _ (by unfold Ff.full;rw[alH (.inl c)]) dc
 rw[alJ c,i_f,Ik];by_cases b:n=Ff.nHx
 ·rw[alM b,i_t];exact f5 _ (by unfold Ff.full;rw[alH (.inr b),b]) (by rw[b];decide)
 rw[alJ b,i_f,Ik];by_cases c3:n=[65,56,53]
 ·rw[alM c3,i_t];exact f4 _ (by unfold Ff.full;rw[alG (by simp[c,b]),alH (.inl c3)]) dc
 rw[alJ c3,i_f,Ik];by_cases d:n=Ff.n85
 ·rw[alM d,i_t];exact f4 _ (by unfold Ff.full;rw[alG (by simp[c,b]),alH (.inr d),d]) (by rw[d];decide)
 rw[alJ d,i_f,Ik];by_cases g:n=[82,76]
 ·rw[alM g,i_t];exact f3 _ (by unfold Ff.full;rw[alG (by simp[c,b]),alG (by simp[c3,d]),alH (.inl g)]) dc
 rw[alJ g,i_f,Ik];by_cases f:n=Ff.nRL
 ·rw[alM f,i_t];exact f3 _ (by unfold Ff.full;rw[alG (by simp[c,b]),alG (by simp[c3,d]),alH (.inr f),f]) (by rw[f];decide)
 rw[alJ f,i_f,Ik];by_cases i:n=[70,108]
 ·rw[alM i,i_t];exact f2 _ (by unfold Ff.full;rw[alG (by simp[c,b]),alG (by simp[c3,d]),alG (by simp[g,f]),alH (.inl i)]) dc
 rw[alJ i,i_f,Ik];by_cases h:n=Ff.nFl
 ·rw[alM h,i_t];exact f2 _ (by unfold Ff.full;rw[alG (by simp[c,b]),alG (by simp[c3,d]),alG (by simp[g,f]),alH (.inr h),h]) (by rw[h];decide)
 rw[alJ h,i_f];have e:Ff.full n=[]:=by unfold Ff.full;rw[alG (by simp[c,b]),alG (by simp[c3,d]),alG (by simp[g,f]),alG (by simp[i,h])]
 exact j _ _ ⟨by rw[e];rfl,rfl⟩
theorem ajW {b c:Int}:DoX ah (aS 27 #[(0,.int .i64 a),(1,.int .i64 b),(2,.int .i64 c)]) w PK K=K (pmV ⟨a,b,c⟩) w:=aD krx
theorem aeA (a:OwnS S w0 w L)(k:∀b w',OwnS S w0 w' (pmE b ⟨0,0,0⟩::L)->K (.pointer (ax ⟨b,0,aw⟩)) w'):DoX ah (iL 27) w PK K:=
 bA (λb=>.pointer (ax ⟨b,0,aw⟩)) (pmC ⟨0,0,0⟩) 27 (λ_=>by kernel_rfl) a k
theorem Vh (i:Nat){x:Pm}(y:Pm)(a:OwnS S w0 w L)(hi:L[i]?=ax (pmE b x))(k:∀w',OwnS S w0 w' (L.set i (pmE b y))->K undef w'):DoX ah (aN 27 (.pointer (ax ⟨b,0,aw⟩)) (pmV y)) w PK K:=
 gY i a hi szPm Gj rfl k
theorem D4 (w:ao):Ret ah 135 #[] w (λv w'=>v=pmV Ff.zY∧Below w.heap.size w w'):=by
 refine aZ λK c=>DJ ?_;unfold AK nz;refine aeA (Own.start w) λb d a=>?_;rw[ajW];refine Vh 0 Ff.zY a rfl λw2 a=>?_;exact iC (bI (a.agg 0 rfl Kh)) (c _ _ ⟨rfl,a.done⟩)
theorem abK:lM ah 107=true:=krx
def upF (e:Int):PanicEntry:={ v:=.iface 107 (.agg #[.int .i64 e]),recovered:=au }
theorem aaF (e:Int)(w:ao):Ret ah 78 #[.bool av,.int .i64 e] w (λv w'=>v=.tuple #[]∧w=w'):=by
 refine aZ λK a=>vG ?_;unfold tD nz;simp only[rs,anH,i_f];exact a _ _ ⟨rfl,rfl⟩
theorem Zp (e:Int)(w:ao):Pan ah 78 #[.bool au,.int .i64 e] w (λc w'=>c=[upF e]∧w=w'):=by
 refine TA λK a=>vG ?_;unfold tD nz;simp only[rs,anK,i_t];have b:∀{PK:PKT} {K:VWP},DoX ah (aS 107 #[(0,.int .i64 e)]) w PK K=K (.agg #[.int .i64 e]) w:=aD krx;rw[b,Kn abK,Gy];exact a _ _ ⟨rfl,rfl⟩
section
variable {w:ao}{PK:PKT}{K:VWP}{S:Nat->Prop}{w0:ao}{L:List Ent}
theorem nN {e:Int}(a:q=av->K (.tuple #[]) w)(b:q=au->PK [upF e] w):CallX ah 78 #[.bool q,.int .i64 e] w PK K:=by
 cases q with
|true=>exact c_eq (aaF e w) (a rfl)
|false=>exact Zy (Zp e w) λc w' ⟨d,hw⟩=>by subst d;subst hw;exact b rfl
theorem Sn (a:OwnS S w0 w (.mem M::L))(hw:o.wt<=100000000000)(j:OV M.A M.w v o)
  (c:(Ff.num o key).2=0->∀N W,M.le N->OwnS S w0 W (.mem N::L)->K (.int .i64 (Ff.num o key).1) W)
  (i:(Ff.num o key).2≠0->∀N W,M.le N->OwnS S w0 W (.mem N::L)->PK [upF 10] W):CallX ah 208 #[v,.string ⟨key.toArray⟩] w PK K:=by
 obtain⟨vk,vc,cs,rfl,k⟩:=j.open;generalize b:Ff.num o key=X at c i;unfold Ff.num at b;refine⟨BZ ?_⟩;unfold xO nz;refine iU o k.keys.one k.kids.one a λb2 m a=>?_;rw[ob_v a 0 rfl];refine bH a 1 rfl (zN o _ key M m hw (a.hasM 1 rfl) j) ?_;rintro _ N w2 hle ⟨t,rfl,d⟩ a;obtain⟨n,p,rfl,d⟩:=Gi d;simp only[getV,ex];refine fO a λq r a=>?_;refine bK 0 d.oneK d.oneC a rfl λg a=>?_;have drop:∀{W:ao} {e f:Ent},OwnS S w0 W (e::f::.mem N::L)->OwnS S w0 W (.mem N::L):=λa=>a.tail.tail;have a:OwnS S w0 g (obE q ((Vl.get o key).getD Vl.ob0) n p::obE b2 o vk vc::.mem N::L):=a;cases l:Vl.get o key with
|none=>
  rw[l] at b a;simp only[apU,rs,anK,i_t];rw[<-b] at c;exact c rfl N g hle (drop a)
|some x=>
  rw[l] at b a;dsimp only at b;rw[apA] at a;simp only[aqD,rs,anH,i_f];rw[fR,ob_k a 0 rfl];simp only[rs];refine nN (λh=>?_) (λh=>?_)
  ·have h:=alZ h;rw[alH h] at b;rw[Iu,ob_n a 0 rfl];rw[<-b] at c;exact c rfl N g hle (drop a)
  ·have h:=amR h;rw[alG h] at b;rw[<-b] at i;exact i dc N g hle (drop a)
theorem acH (a:OwnS S w0 w (.mem M::L))(hw:o.wt<=100000000000)(i:OV M.A M.w v o)
  (e:(Ff.parm o).2=0->∀N W,M.le N->OwnS S w0 W (.mem N::L)->K (pmV (Ff.parm o).1) W)
  (n:(Ff.parm o).2=10->∀N W,M.le N->OwnS S w0 W (.mem N::L)->PK [upF 10] W):CallX ah 147 #[v] w PK K:=by
 obtain⟨vk,vc,cs,rfl,z⟩:=i.open;generalize b:Ff.parm o=X at e n;unfold Ff.parm at b;refine⟨HW ?_⟩;unfold EW iN dx ldx fax stx alx ecx cx;refine iU o z.keys.one z.kids.one a λc H a=>?_;refine aeA a λb2 w2 a=>?_;rw[fR,ob_k a 1 rfl];simp only[rs];by_cases l:o.k=0
 ·rw[alH l] at b;simp only[l,alK,i_t];refine aM a (D4 w2) ?_;rintro _ w3 rfl a;refine Vh 0 Ff.zY a rfl λp a=>?_;rw[<-b] at e;exact iC (bI (a.agg 0 rfl Kh)) (e rfl M p M.le_refl a.tail.tail)
 rw[alG l] at b;simp only[l,alL,i_f];rw[fR,ob_k a 1 rfl];simp only[rs];have bad:∀{N W},¬(o.k=7∧(Ff.num o Ff.FG).2=0∧(Ff.num o Ff.FM).2=0∧(Ff.num o Ff.Fz).2=0)->M.le N->OwnS S w0 W (.mem N::L)->PK [upF 10] W:=by
  intro N W h hle a;rw[alG h] at b;rw[<-b] at n;exact n rfl N W hle a
 refine nN (λf=>?_) (λf=>bad (λk=>(amR f) k.1) M.le_refl a.tail.tail);have f:=alZ f;have a:=a.drew;refine⟨λW=>(obE c o vk vc).is W,a.at_ 1 rfl,?_⟩;have q:∀W,(obE c o vk vc).is W->(aH 25 (.pointer (ax ⟨c,0,aw⟩))).run ah W=.ok (.value (obV o vk vc)) W:=λW h=>aW (AtV.agg lF (cs:=obC o vk vc) rfl λj u C=>by rw[alU];exact aI (T:=25) h C);refine jI _ q (jI _ q (jI _ q ?_));have fr:∀{W:ao} {N:Mem},OwnS S w0 W (pmE b2 ⟨0,0,0⟩::obE c o vk vc::.mem N::L)->OwnS S w0 W (.mem N::pmE b2 ⟨0,0,0⟩::obE c o vk vc::L):=λ{W N} a=>by
  have a:OwnS S w0 W ([pmE b2 ⟨0,0,0⟩,obE c o vk vc]++([.mem N]++L)):=a;exact a.front
 have m:∀{W:ao} {N:Mem} {x:Pm},OwnS S w0 W (.mem N::pmE b2 x::obE c o vk vc::L)->OwnS S w0 W (.mem N::L):=λ{W N x} a=>a.sub (.cons_cons _ (.cons _ (.cons _ (aqP _))));refine Sn (fr a) hw i (λr N1 D d a=>?_) (λr N1 D d a=>λ_ _ _ _=>bad (λk=>r k.2.1) d (m a));refine⟨a.at_ 2 rfl,?_⟩;refine Sn a hw (i.le d) (λs E F g a=>?_) (λs E F g a=>λ_ _ _ _=>bad (λk=>s k.2.2.1) (d.trans g) (m a));refine⟨a.at_ 2 rfl,?_⟩;refine Sn a hw ((i.le d).le g) (λt B G y a=>?_) (λt B G y a=>λ_ _ _ _=>bad (λk=>t k.2.2.2) ((d.trans g).trans y) (m a));refine⟨a.at_ 2 rfl,?_⟩;rw[alH ⟨f,r,s,t⟩] at b;refine aR (pmV ⟨(Ff.num o Ff.FG).1,(Ff.num o Ff.FM).1,(Ff.num o Ff.Fz).1⟩) (λ_=>by kernel_rfl) ?_;refine Vh 1 _ a rfl λp a=>?_;rw[<-b] at e;exact iC (bI (a.agg 1 rfl Kh)) (e rfl B p ((d.trans g).trans y) (m a))
end
theorem Q7 (o:Ob)(v:aq)(M:Mem)(w:ao)(hw:o.wt<=100000000000)(f:M.has w)(g:OV M.A M.w v o):RetM ah 148 #[v] M w (λr _=>r=.bool (Ff.eight o)):=by
 obtain⟨vk,vc,cs,rfl,h⟩:=g.open;refine bB f λK c=>D9 ?_;generalize b:Ff.eight o=X at c;unfold Ff.eight at b;unfold AX nz;refine iU o h.keys.one h.kids.one (OwnS.memS f) λb2 j a=>?_;rw[ob_v a 0 rfl];refine bH a 1 rfl (zN o _ Ff.Xl M j hw (a.hasM 1 rfl) g) ?_;rintro _ N w2 hle ⟨t,rfl,d⟩ a;obtain⟨l,m,rfl,d⟩:=Gi d;simp only[getV,ex];refine fO a λn q a=>?_;refine bK 0 d.oneK d.oneC a rfl λp a=>?_;have a:OwnS M.A w p [obE n ((Vl.get o Ff.Xl).getD Vl.ob0) l m,obE b2 o vk vc,.mem N]:=a;cases i:Vl.get o Ff.Xl with
|none=>
  rw[i] at b a;simp only[apU,rs,anK,g_un,i_t];exact c _ _ N _ 2 a rfl hle (by rw[<-b])
|some x=>
  rw[i] at b a;dsimp only at b;rw[apA] at a;simp only[aqD,rs,anH];rw[fR,ob_k a 0 rfl];simp only[rs];by_cases e:x.k=2
  ·simp only[e,alK,rs];rw[Iu,ob_n a 0 rfl];simp only[rs];exact c _ _ N _ 2 a rfl hle (by rw[<-b,e];rfl)
  ·simp only[e,alL,rs,g_un];exact c _ _ N _ 2 a rfl hle (by rw[<-b,alJ e];rfl)
end
end Go.Proofs.YtlipjfcbjemicaaGreatDoor

namespace Go.Proofs.YtlipjfcbjemicaaGreatDoor
variable{D:TypeId}{K:VWP}{L:List Eng.Ent}{M:Eng.Mem}{PK PK2:PKT}{S:Nat->Prop}{W w w0:ao}{a colors:Int}{above key:List UInt8}{b cap i j sz:Nat}{cb:Array Bool}{cs:List aq}{e:Eng.Ent}{o:Ob}{os:List Ob}{q:Bool}{t0 v va vc vk:aq}{t0 t1 t2 t3:aq}{k0:Eng.KT}
section
open Eng Go.RowKit
theorem UJ (h:SlA M.A M.w vc 6 os.length cs)(c:OVs M.A M.w cs os)(hi:i < os.length) :
  ∃b off vk d,(∀W,(mIA 23 vc (.int .i64 (i:Int))).run ah W=.ok (.value (.pointer (ax ⟨b,off,aw⟩))) W)∧OV M.A M.w (obV os[i] vk d) os[i] ∧
   ∀W,M.has W->∀j u,(obC os[i] vk d)[j]?=ax u->W.cell? ⟨b,off+j,aw⟩=ax u:=by
 obtain⟨b,off,cap,rfl,_⟩:=bX h.1 om;obtain⟨a,v,e,f⟩:=OVs.get _ _ i hi c;obtain⟨vk,d,o,he,p⟩:=e.open;have q:a=obC os[i] vk d:=by
  unfold obV at he
  injection he with he
  exact congrArg Array.toList he
 subst q;refine⟨b,off+i*6,vk,d,λW=>?_,e,λW r j u s=>?_⟩
 ·have:=dY (P:=ah) (T:=23) (b:=b) (off:=off) (cap:=cap) (n:=os.length) (k:=.i64) (i:=(i:Int)) (w:=W) amA szOb om om
  rwa [alQ] at this
 ·obtain⟨x,l,m,g,t⟩:=bX (h.now r) om;cases g;rw[anX];exact t _ _ (f j u s)
theorem Mf {l:List (List UInt8)}(a:SlA M.A M.w v 1 l.length (bZ l))(hi:i < l.length) :
  ∃p,(∀W,(mIA 22 v (.int .i64 (i:Int))).run ah W=.ok (.value (.pointer (ax p))) W)∧∀W,M.has W->(aH 9 (.pointer (ax p))).run ah W=.ok (.value (.string ⟨l[i].toArray⟩)) W:=by
 obtain⟨b,off,cap,rfl,_⟩:=bX a.1 om;refine⟨⟨b,off+i,aw⟩,λW=>?_,λW e=>?_⟩
 ·have:=dY (P:=ah) (T:=22) (b:=b) (off:=off) (cap:=cap) (n:=l.length) (k:=.i64) (i:=(i:Int)) (w:=W) amD (show _=ax 1 by kernel_rfl) om om;rw[alQ,amI] at this;exact this
 ·obtain⟨g,c,d,he,f⟩:=bX (a.now e) om;cases he;exact aB Kc (f i _ (nX hi))
theorem ZS (x:Pm):(pmC x).length=3:=rfl
theorem pmAt {l:List Pm}(a:SlA M.A M.w v 3 l.length (l.flatMap pmC))(hi:i < l.length) :
  ∃p,(∀W,(mIA 40 v (.int .i64 (i:Int))).run ah W=.ok (.value (.pointer (ax p))) W)∧∀W,M.has W->(aH 27 (.pointer (ax p))).run ah W=.ok (.value (pmV l[i])) W:=by
 obtain⟨b,off,cap,rfl,_⟩:=bX a.1 om;refine⟨⟨b,off+i*3,aw⟩,λW=>?_,λW e=>?_⟩
 ·have:=dY (P:=ah) (T:=40) (b:=b) (off:=off) (cap:=cap) (n:=l.length) (k:=.i64) (i:=(i:Int)) (w:=W) aqY szPm om om;rw[alQ] at this;exact this
 ·obtain⟨h,c,d,he,f⟩:=bX (a.now e) om;cases he;refine aW (AtV.agg Kh (cs:=pmC l[i]) rfl λj u g=>?_);rw[anX];exact f _ _ (Eng.pI ZS hi g)
abbrev pmsE (v:aq)(l:List Pm):Ent:=.recs 27 pmC 3 v l
abbrev stsE (v:aq)(l:List (List UInt8)):Ent:=.urow 9 1 v l.length (bZ l)
theorem elPm:elB ah 27 3 24=true:=krx
section
variable {w:ao}{PK PK2:PKT}{K:VWP}{S:Nat->Prop}{w0:ao}{L:List Ent}
theorem Yj (x:Pm){l:List Pm}{c:Array Bool}(a:OwnS S w0 w (pmsE v l::L))(d:l.length<=1000000000)(k:∀v' W,OwnS S w0 W (pmsE v' (l++[x])::L)->K v' W) :
  DoX ah (bN 40 1 #[(0,pmV x)]) w PK λt w=>DoX ah (mB .append #[40,40] 40 c #[v,t]) w PK2 K:=by
 refine bA (λb=>.slice (ax ⟨b,0,aw⟩) 1 1) (pmC x) 27 (λ_=>by kernel_rfl) a λb f a=>?_;refine bR 1 aqY elPm dc a rfl (oD (a.at_ 0 rfl) dc rfl) Gj om om λv' w2 a=>k v' w2 ?_;have e:pmsE v' (l++[x])=.urow 27 3 v' (l.length+1) (l.flatMap pmC++pmC x):=by
  unfold pmsE Ent.recs;rw[alI,aoQ,apQ];rfl
 rw[e];exact a.tail
theorem UT (x:List UInt8){l:List (List UInt8)}{c:Array Bool}(a:OwnS S w0 w (stsE v l::L))(d:l.length<=1000000000)(k:∀v' W,OwnS S w0 W (stsE v' (l++[x])::L)->K v' W) :
  DoX ah (bN 22 1 #[(0,.string ⟨x.toArray⟩)]) w PK λt w=>DoX ah (mB .append #[22,22] 22 c #[v,t]) w PK2 K:=by
 refine bA (λb=>.slice (ax ⟨b,0,aw⟩) 1 1) [.string ⟨x.toArray⟩] 9 (λ_=>by kernel_rfl) a λb f a=>?_;refine bR 1 amD (show elB ah 9 1 16=av by kernel_rfl) dc a rfl (oD (a.at_ 0 rfl) dc rfl) (λu hu=>by rw[amH.1 hu];rfl) om om λv' w2 a=>k v' w2 ?_;have e:stsE v' (l++[x])=.urow 9 1 v' (l.length+1) (bZ l++[.string ⟨x.toArray⟩]):=by
  unfold stsE bZ;rw[alI,amW];rfl
 rw[e];exact a.tail
theorem SN (g:OwnS S w0 w (obE b o vk vc::L))(i:Nat)(hi:L[i]?=ax (.mem M))(d:OV M.A M.w (obV o vk vc) o) :
  ∃N:Mem,M.le N∧SlA N.A N.w (.slice (ax ⟨b,0,aw⟩) 1 1) 6 1 (obC o vk vc)∧OVs N.A N.w (obC o vk vc) [o]∧OwnS S w0 w (L.set i (.mem N)):=by
 have j:=g.at_ 0 rfl;obtain⟨N,h,k,m,n⟩:=g.freeze i hi;refine⟨N,h,⟨?_,λp l c e _=>?_,λa l c e=>?_⟩,?_,n⟩
 ·rw[k];exact oD j dc rfl
 ·injection e with f _ _
  injection f with f
  rw[<-f];exact m b rfl
 ·injection e with _ q r
  omega
 ·have:=OVs.snoc (a:=obC o vk vc) rfl (d.le h) [] [] OVs.nil;exact this
end
end
section
open Eng Go.RowKit
namespace Cs
def has (o:Ob)(a:List (List UInt8)):List (List UInt8×Ob):=a.filterMap λk=>(Vl.get o k).map λv=>(k,v)
def ofL (l:List (List UInt8×Ob)):Ob:=.mk 7 0 0 [] (l.map (·.1)) (l.map (·.2))
def sS (o:Ob):Ob:=if (o.k≠7∧o.k≠9)∨Vl.check 1 o≠0 then ofL [] else ofL (has o bw)
theorem Qw (o:Ob)(a:List (List UInt8))(k:List UInt8):has o (a++[k])=has o a++(match Vl.get o k with|some v=>[(k,v)]|none=>[]):=by
 unfold has;rw[List.filterMap_append]
 congr 1
 cases h:Vl.get o k<;>simp[h]
theorem Ze (o:Ob)(a:List (List UInt8)):(has o a).length<=a.length:=List.length_filterMap_le _ _
end Cs
section
variable {w:ao}{PK:PKT}{K:VWP}{S:Nat->Prop}{w0:ao}{L T:List Ent}
abbrev DcR (a cv:aq)(l:List (List UInt8×Ob))(ds:List aq)(b:Nat)(T:List Ent):List Ent:=
 .urow 9 1 a l.length (bZ (l.map (·.1)))::.urow 25 6 cv l.length ds::obE b (ob1 7 0 0 []) a cv::T
end
theorem getD_some {k:List UInt8}{x:Ob}(h:Vl.get o k=ax x):(Vl.get o k).getD Vl.ob0=x:=by rw[h];rfl
theorem Lp (o:Ob)(v:aq)(M:Mem)(w:ao)(hw:o.wt<=100000000000)(hM:M.has w)(V:OV M.A M.w v o):RetM ah 168 #[v] M w (λr N=>OV N.A N.w r (Cs.sS o)):=by
 obtain⟨vk,vc,cs,rfl,ha⟩:=V.open;refine bB hM λK hK=>DH ?_;unfold Al nz;refine iU o ha.keys.one ha.kids.one (OwnS.memS hM) λb w1 a=>?_;refine fO a λb2 w2 a=>?_;rw[aeM];refine fO a λb3 w3 a=>?_;refine bK (o':=ob1 7 0 0 []) (vk':=nilS) (vc':=nilS) 0 rfl rfl a rfl λB a=>?_;have a:OwnS M.A w B [obE b3 (ob1 7 0 0 []) nilS nilS,obE b2 ob0 nilS nilS,obE b o vk vc,.mem M]:=a;rw[fR,ob_k a 2 rfl];have no:∀{W:ao},OwnS M.A w W [obE b3 (ob1 7 0 0 []) nilS nilS,obE b2 ob0 nilS nilS,obE b o vk vc,.mem M]->Cs.sS o=Cs.ofL []->DoX ah (aH 25 (.pointer (ax ⟨b3,0,aw⟩))) W (pk K) (λt22 w=>DoX ah (aN 25 (.pointer (ax ⟨b2,0,aw⟩)) t22) w (pk K) λ_ w=>RetX ah [.cell (.pointer (ax ⟨b2,0,aw⟩)) 25] w K):=by
  intro W a he;rw[ob_v a 0 rfl];refine bK 1 rfl rfl a rfl λB a=>?_;have a:OwnS M.A w B [obE b3 (ob1 7 0 0 []) nilS nilS,obE b2 (ob1 7 0 0 []) nilS nilS,obE b o vk vc,.mem M]:=a;refine iC (bI (a.agg 1 rfl lF)) (hK _ _ M _ 3 a rfl M.le_refl ?_);rw[he];exact ObAt.ov (o:=Cs.ofL []) (vk:=nilS) (vc:=nilS) (cs:=[]) ⟨SlA.nil _ _ _ _,SlA.nil _ _ _ _,.nil⟩
 have main:(o.k=7∨o.k=9)->∀{W:ao},OwnS M.A w W [obE b3 (ob1 7 0 0 []) nilS nilS,obE b2 ob0 nilS nilS,obE b o vk vc,.mem M]->Vl.check 1 o=0->CallX ah 222 #[] W (pk K) (λt23 w=>
 DoX ah (mB .len #[22] 3 #[au] #[t23]) w (pk K) λt24 w=>
 LoopX [(.int .i64 0)] w (λn w N1=>∀_:Sg,iS (.pointer (ax ⟨b,0,aw⟩)) (.pointer (ax ⟨b2,0,aw⟩)) (.pointer (ax ⟨b3,0,aw⟩)) t23 t24 (n.getD 0 undef) w N1 K)):=by
  intro X W a C;have het:Cs.sS o=Cs.ofL (Cs.has o bw):=by
   unfold Cs.sS;rw[alG];rintro (⟨h1,h2⟩|h);·rcases X with h|h;exact h1 h;exact h2 h
   exact h C
  refine bH a 3 rfl (UI M W (a.hasM 3 rfl)) λkl N1 w5 l1 D a=>?_;rw[bE amD (D.now (a.hasM 3 rfl))];have a:=OwnS.nilU a 25 6;have a:=OwnS.nilU a 9 1;refine loop (λvs W=>∃(i:Nat) (f cv:aq) (ds:List aq) (N:Mem),vs=[.int .i64 (i:Int)]∧i<=3∧N1.le N∧OVs N.A N.w ds ((Cs.has o (bw.take i)).map (·.2))∧OwnS M.A w W (DcR f cv (Cs.has o (bw.take i)) ds b3 [obE b2 ob0 nilS nilS,obE b o vk vc,.mem N])) (λvs _=>3 - n0 vs) ⟨0,nilS,nilS,[],N1,rfl,om,N1.le_refl,.nil,a⟩ ?_;clear a;rintro vs P ⟨i,f,cv,ds,N,rfl,hi,Q,m,a⟩ _;simp only[iS,gd,rs,nz];by_cases F:(i:Int) < ((3:Nat):Int)
  ·simp only[alM F,i_t];have G:i < bw.length:=by show i < 3;omega
   refine join λJ hJ=>?_;obtain⟨p,Y,Z⟩:=Mf (l:=bw) (D.le Q) G;rw[aD (Y P),aD (Z P (a.hasM 5 rfl)),ob_v a 4 rfl];refine bH a 5 rfl (zN o _ bw[i] N P hw (a.hasM 5 rfl) ((V.le l1).le Q)) ?_;rintro _ g w7 l3 ⟨xv,rfl,hx⟩ a;obtain⟨q,s,b0,rfl,c⟩:=hx.open;simp only[getV,ex];refine fO a λS w8 a=>?_;refine bK 0 c.keys.one c.kids.one a rfl λw9 a=>?_;have H:bw.take (i+1)=bw.take i++[bw[i]]:=amO G;have hlen:=Cs.Ze o (bw.take i);rw[alR] at hlen;have next:∀{W:ao} {kv' cv':aq} {ds':List aq},OVs g.A g.w ds' ((Cs.has o (bw.take (i+1))).map (·.2))->OwnS M.A w W (DcR kv' cv' (Cs.has o (bw.take (i+1))) ds' b3 [obE b2 ob0 nilS nilS,obE b o vk vc,.mem g])->J [] W:=by
    intro W kv' cv' ds' I a;refine hJ _ _ λ_=>?_;simp only[vM,rs,nz];rw[aA om om];exact aY ⟨i+1,kv',cv',ds',g,rfl,om,Q.trans l3,I,a⟩ (by simp[n0,RowKit.intOf];omega)
   cases hg:Vl.get o bw[i] with
  |none=>
    simp only[apU,i_f];have e:Cs.has o (bw.take (i+1))=Cs.has o (bw.take i):=by rw[H,Cs.Qw,hg];simp
    exact next (by rw[e];exact m.le l3) (by rw[e];exact a.tail)
  |some x=>
    simp only[aqD,i_t];rw[getD_some hg] at hx a c;have e:Cs.has o (bw.take (i+1))=Cs.has o (bw.take i)++[(bw[i],x)]:=by rw[H,Cs.Qw,hg]
    generalize Cs.has o (bw.take i)=d at *;have a:OwnS M.A w w9 [obE S x q s,.urow 9 1 f d.length (bZ (d.map (·.1))),.urow 25 6 cv d.length ds,obE b3 (ob1 7 0 0 []) f cv,obE b2 ob0 nilS nilS,obE b o vk vc,.mem g]:=a;rw[Af,oO a 3 rfl];refine Nz bw[i] a λnb b4 a=>?_;refine ajV 2 a rfl (a.sl 0 rfl 1 1 1 rfl) (by simp[Value.oneCell']) om λkv' a1 a=>?_;have a:=a.tail;have a:OwnS M.A w a1 [obE S x q s,.urow 9 1 kv' (d.length+1) (bZ (d.map (·.1))++[.string ⟨bw[i].toArray⟩]),.urow 25 6 cv d.length ds,obE b3 (ob1 7 0 0 []) f cv,obE b2 ob0 nilS nilS,obE b o vk vc,.mem g]:=a;have t:=cQ (a.at_ 1 rfl);rw[Af];refine aK 3 a rfl krx t (show 0+4 < 6 by omega) λa6 a=>?_;have a:OwnS M.A w a6 [obE S x q s,.urow 9 1 kv' (d.length+1) (bZ (d.map (·.1))++[.string ⟨bw[i].toArray⟩]),.urow 25 6 cv d.length ds,obE b3 (ob1 7 0 0 []) kv' cv,obE b2 ob0 nilS nilS,obE b o vk vc,.mem g]:=a;rw[pF,fL a 3 rfl,ob_v a 0 rfl];refine Js x c.keys.one c.kids.one a λb5 b7 a=>?_;refine QQ 3 a rfl (a.sl 0 rfl 6 1 1 rfl) (kZ _ c.keys.one c.kids.one) om λcv' a7 a=>?_;have a:=a.tail;have a:OwnS M.A w a7 [obE S x q s,.urow 9 1 kv' (d.length+1) (bZ (d.map (·.1))++[.string ⟨bw[i].toArray⟩]),.urow 25 6 cv' (d.length+1) (ds++obC x q s),obE b3 (ob1 7 0 0 []) kv' cv,obE b2 ob0 nilS nilS,obE b o vk vc,.mem g]:=a;have u:=cQ (a.at_ 2 rfl);rw[pF];refine aK 3 a rfl krx u (show 0+5 < 6 by omega) λa8 a=>?_;have a:=a.tail;refine next (kv':=kv') (cv':=cv') (ds':=ds++obC x q s) ?_ ?_
    ·rw[e,amW];exact eH (m.le l3) (oG hx)
    ·rw[e];show OwnS M.A w a8 [.urow 9 1 kv' (d++[(bw[i],x)]).length (bZ ((d++[(bw[i],x)]).map (·.1))),.urow 25 6 cv' (d++[(bw[i],x)]).length (ds++obC x q s),obE b3 (ob1 7 0 0 []) kv' cv',obE b2 ob0 nilS nilS,obE b o vk vc,.mem g];rw[alI,amW,Gf];exact a
  simp only[alJ F,i_f];have:i=3:=om
  subst this;rw[show bw.take 3=bw from rfl] at m a;have t:=cQ (a.at_ 0 rfl);have u:=cQ (a.at_ 1 rfl);obtain⟨g,hle,O,a⟩:=OwnS.bJ (L:=[.urow 25 6 cv (Cs.has o bw).length ds,obE b3 (ob1 7 0 0 []) f cv,obE b2 ob0 nilS nilS,obE b o vk vc,.mem N]) a 4 rfl;obtain⟨y,j,z,a⟩:=OwnS.bJ (L:=[obE b3 (ob1 7 0 0 []) f cv,obE b2 ob0 nilS nilS,obE b o vk vc,.mem g]) a 3 rfl;have a:OwnS M.A w P [obE b3 (ob1 7 0 0 []) f cv,obE b2 ob0 nilS nilS,obE b o vk vc,.mem y]:=a;rw[ob_v a 0 rfl];refine bK 1 t u a rfl λw7 a=>?_;have a:OwnS M.A w w7 [obE b3 (ob1 7 0 0 []) f cv,obE b2 (ob1 7 0 0 []) f cv,obE b o vk vc,.mem y]:=a;refine iC (bI (a.agg 1 rfl lF)) (hK _ _ y _ 3 a rfl (((l1.trans Q).trans hle).trans j) ?_);rw[het];refine ObAt.ov (o:=Cs.ofL (Cs.has o bw)) (vk:=f) (vc:=cv) (cs:=ds) ⟨?_,?_,(m.le (hle.trans j))⟩
  ·show SlA y.A y.w f 1 ((Cs.has o bw).map (·.1)).length (bZ ((Cs.has o bw).map (·.1)));rw[amT];exact O.le j
  ·show SlA y.A y.w cv 6 ((Cs.has o bw).map (·.2)).length ds;rw[amT];exact z
 have rest:(o.k=7∨o.k=9)->GDo (.bool au) au (λE=>DoX ah (aH 25 (.pointer (ax ⟨b,0,aw⟩))) B (pk K) E) B λt18 w=>
 GDo (.bool au) au (λE=>CallX ah 86 #[t18] w (pk K) E) w λt19 w=>
 GDo (.bool au) au (λE=>DoX ah (mEq .neq 30 (.tmp 19) (.const (.int .i64 0)) t19 (.int .i64 0)) w (pk K) E) w λt20 w=>
 DoX ah (kH (.bool au) (.bool av) t20) w (pk K) λt21 w=>
 IfX t21 (DoX ah (aH 25 (.pointer (ax ⟨b3,0,aw⟩))) w (pk K) λt22 w=>
 DoX ah (aN 25 (.pointer (ax ⟨b2,0,aw⟩)) t22) w (pk K) λ_ w=>
 RetX ah [.cell (.pointer (ax ⟨b2,0,aw⟩)) 25] w K) (CallX ah 222 #[] w (pk K) λt23 w=>
 DoX ah (mB .len #[22] 3 #[au] #[t23]) w (pk K) λt24 w=>
 LoopX [(.int .i64 0)] w (λn w N1=>∀_:Sg,iS (.pointer (ax ⟨b,0,aw⟩)) (.pointer (ax ⟨b2,0,aw⟩)) (.pointer (ax ⟨b3,0,aw⟩)) t23 t24 (n.getD 0 undef) w N1 K)):=by
  intro X;simp only[rs];rw[ob_v a 2 rfl];refine aM a (R:=λv=>v=.int .i64 (Vl.check 1 o)) (jF o _ B (OV.inw (a.hasM 3 rfl) V) om) ?_;rintro _ w5 rfl a;simp only[eS,rs];by_cases C:Vl.check 1 o=0
  ·simp only[C,show ai ((0:Int)≠0)=au from rfl,i_f];exact main X a C
  ·simp only[alM (show Vl.check 1 o≠0 from C),i_t];exact no a (by unfold Cs.sS;rw[alH (.inr C)])
 simp only[rs];by_cases T:o.k=7
 ·simp only[alJ (show ¬o.k≠7 fromλh=>h T),rs,g_un];have:=rest (.inl T);simp only[rs] at this;exact this
 simp only[alM (show o.k≠7 from T),rs];rw[fR,ob_k a 2 rfl];simp only[rs];by_cases U:o.k=9
 ·simp only[alJ (show ¬o.k≠9 fromλh=>h U),rs,g_un];have:=rest (.inr U);simp only[rs] at this;exact this
 simp only[alM (show o.k≠9 from U),rs,g_un,i_t];exact no a (by unfold Cs.sS;rw[alH (.inl ⟨T,U⟩)])
end
end Go.Proofs.YtlipjfcbjemicaaGreatDoor

namespace Go.Proofs.YtlipjfcbjemicaaGreatDoor
variable{D:TypeId}{K:VWP}{L:List Eng.Ent}{M:Eng.Mem}{PK PK2:PKT}{S:Nat->Prop}{W w w0:ao}{a colors:Int}{above key:List UInt8}{b cap i j sz:Nat}{cb:Array Bool}{cs:List aq}{e:Eng.Ent}{o:Ob}{os:List Ob}{q:Bool}{t0 v va vc vk:aq}{t0 t1 t2 t3:aq}{k0:Eng.KT}
section
open Go
namespace Tl
def adj (y x:Slt):Prop:=y.num < x.num∧x.num - 1=y.num
instance (y x:Slt):Decidable (adj y x):=by unfold adj;infer_instance
def ND (gs:List (List Slt))(x:Slt):List (List Slt):=match gs.getLast? with
|none=>[[x]]
|some g=>match g.getLast? with
 |none=>gs++[[x]]
 |some y=>if adj y x then gs.dropLast++[g++[x]] else gs++[[x]]
theorem DS:∀(l cur:List Slt),cur≠[]->eX cur l≠[]
|[],cur,h=>by rw[eX,alG h];simp
|x::l,cur,h=>by
  rw[eX];cases a:cur.getLast? with
 |none=>exact DS l [x] sm
 |some y=>
   simp only;split
   ·exact DS l _ sm
   ·simp
theorem QM {g:List Slt}{gs:List (List Slt)}{x:Slt}(h:gs≠[]):ND (g::gs) x=g::ND gs x:=by
 unfold ND;have e:(g::gs).getLast?=gs.getLast?:=by
  cases gs with
 |nil=>exact absurd rfl h
 |cons a b=>rw[List.getLast?_cons_cons]
 rw[e];cases c:gs.getLast? with
|none=>exact absurd (arN.1 c) h
|some u=>
  simp only;cases hu:u.getLast? with
 |none=>rfl
 |some y=>
   simp only;split
   ·rw[List.dropLast_cons_of_ne_nil h];rfl
   ·rfl
theorem mJ (x:Slt):∀(l cur:List Slt),eX cur (l++[x])=ND (eX cur l) x
|[],cur=>by
  rw[amZ,eX,eX];cases a:cur.getLast? with
 |none=>
   have b:cur=[]:=arN.1 a;subst b;rfl
 |some y=>
   have b:cur≠[]:=λe=>by rw[e] at a;cases a
   rw[alG b];unfold ND;simp only[List.getLast?_singleton,a];unfold adj;split
   ·rename_i h;rw[eX,alG sm];simp[h]
   ·rename_i h;rw[eX,alG sm];simp[h]
|z::l,cur=>by
  rw[apE,eX,eX];cases a:cur.getLast? with
 |none=>exact mJ x l [z]
 |some y=>
   simp only;split
   ·exact mJ x l _
   ·rw[mJ x l [z],QM (DS l [z] sm)]
theorem HM {l:List Slt}{y:Slt}(h:l.getLast?=ax y):∃gs g,CX l=gs++[g]∧g.getLast?=ax y∧g≠[]∧g.length<=l.length:=by
 obtain⟨a,f⟩:=wF l;have b:CX l≠[]:=λe=>by
  rw[e] at a;rw[<-a] at h;cases h
 obtain⟨gs,g,e⟩:∃gs g,CX l=gs++[g]:=⟨_,_,(asY b).symm⟩;have c:g≠[]:=(f g (by rw[e];simp)).1;refine⟨gs,g,e,?_,c,?_⟩
 ·rw[e] at a;rw[<-a] at h;simp only[List.flatten_append,asF,List.flatten_nil,amE] at h;rw[List.getLast?_append] at h;cases d:g.getLast? with
 |none=>exact absurd (arN.1 d) c
 |some z=>rw[d] at h;exact h
 ·have:=congrArg List.length a;rw[e] at this;simp at this;omega
theorem V5 {l:List Slt}{x y:Slt}(a:l.getLast?=ax y)(h:adj y x):∃(q:List (Int×Int)) (f:Int) (n:Nat),runs l=q++[(f,(n:Int))]∧runs (l++[x])=q++[(f,(n:Int)+1)]∧n<=l.length:=by
 obtain⟨gs,g,e,b,c,d⟩:=HM a;refine⟨gs.map run,first g,g.length,?_,?_,d⟩
 ·unfold runs;rw[e,amW];rfl
 ·unfold runs CX;rw[mJ];have e':eX [] l=gs++[g]:=e;rw[e'];unfold ND;rw[List.getLast?_concat];simp only[b,alH h,List.dropLast_concat,amW,anE,apS];have:first (g++[x])=first g:=by
   cases g with
  |nil=>exact absurd rfl c
  |cons _ _=>rfl
  unfold run;rw[this,alI];simp
theorem Tt {l:List Slt}{x:Slt}(h:∀y,l.getLast?=ax y->¬adj y x):runs (l++[x])=runs l++[(x.num,1)]:=by
 unfold runs CX;rw[mJ];cases a:l.getLast? with
|none=>
  have:l=[]:=arN.1 a;subst this;rfl
|some y=>
  obtain⟨gs,g,e,b,c,d⟩:=HM a;have e':eX [] l=gs++[g]:=e;rw[e'];unfold ND;rw[List.getLast?_concat];simp only[b,alG (h y a),amW,anE,apS];rfl
theorem B4 (l:List Slt):(runs l).length<=l.length:=by
 obtain⟨c,d⟩:=wF l;have:∀gs:List (List Slt),(∀g∈gs,Grp g)->gs.length<=gs.flatten.length:=by
  intro gs
  induction gs with
 |nil=>intro _;simp
 |cons g gs e=>
   intro h;have a:=e λu hu=>h u (amG _ hu);have b:0 < g.length:=aqH.2 (h g amV).1;simp only[amC,asF,alI];omega
 have:=this _ d;rw[c] at this;unfold runs;simpa using this
end Tl
end
end Go.Proofs.YtlipjfcbjemicaaGreatDoor

namespace Go.Proofs.YtlipjfcbjemicaaGreatDoor
variable{D:TypeId}{K:VWP}{L:List Eng.Ent}{M:Eng.Mem}{PK PK2:PKT}{S:Nat->Prop}{W w w0:ao}{a colors:Int}{above key:List UInt8}{b cap i j sz:Nat}{cb:Array Bool}{cs:List aq}{e:Eng.Ent}{o:Ob}{os:List Ob}{q:Bool}{t0 v va vc vk:aq}{t0 t1 t2 t3:aq}{k0:Eng.KT}
section
open Eng Go.RowKit
def rnC (p:Int×Int):List Value:=[.int .i64 p.1,.int .i64 p.2]
def rnV (p:Int×Int):Value:=.agg (rnC p).toArray
abbrev rnsC (l:List (Int×Int)):List Value:=l.flatMap rnC
abbrev rnsE (v:aq)(l:List (Int×Int)):Ent:=.recs 135 rnC 2 v l
theorem Nw (p:Int×Int):(rnC p).length=2:=rfl
theorem TX (p:Int×Int):∀v∈rnC p,v.oneCell'=true:=by
 intro v a;simp only[rnC,alN,anA,or_false] at a;rcases a with rfl|rfl<;>rfl
theorem aeH:aggN ah 135=ax 2:=krx
theorem szRn:(Tryz.prog.info? 135).map (·.size)=ax 2:=krx
theorem elRn:elB ah 135 2 16=true:=krx
section
variable {w:ao}{PK:PKT}{K:VWP}{S:Nat->Prop}{w0:ao}{L:List Ent}
theorem XJ {off:Nat}:(mIA 135 (.pointer (ax ⟨b,off,aw⟩)) (.int .i64 0)).run ah w=.ok (.value (.pointer (ax ⟨b,off,aw⟩))) w:=krx
theorem Qu {off:Nat}:(mIA 135 (.pointer (ax ⟨b,off,aw⟩)) (.int .i64 1)).run ah w=.ok (.value (.pointer (ax ⟨b,off+1,aw⟩))) w:=krx
theorem Yo {off:Nat}:DoX ah (mIA 135 (.pointer (ax ⟨b,off,aw⟩)) (.int .i64 0)) w PK K=K (.pointer (ax ⟨b,off,aw⟩)) w:=aD XJ
theorem Yg {off:Nat}:DoX ah (mIA 135 (.pointer (ax ⟨b,off,aw⟩)) (.int .i64 1)) w PK K=K (.pointer (ax ⟨b,off+1,aw⟩)) w:=aD Qu
theorem m_rn {n:Int}{m:Int}:DoX ah (aS 135 #[(0,.int .i64 n),(1,.int .i64 m)]) w PK K=K (rnV (n,m)) w:=aD krx
theorem rns_row (i:Nat){l:List (Int×Int)}(a:OwnS S w0 w L)(hi:L[i]?=ax (rnsE v l))(b:j < l.length) :
  ∃g cap,v=.slice (ax ⟨g,0,aw⟩) l.length cap∧(∀w,(mIA 116 v (.int .i64 (j:Int))).run ah w=.ok (.value (.pointer (ax ⟨g,j*2,aw⟩))) w) ∧
   (∀w',(rnsE v l).is w'->(aH 135 (.pointer (ax ⟨g,j*2,aw⟩))).run ah w'=.ok (.value (rnV l[j])) w') ∧
   ∀w',(rnsE v l).is w'->∀m u,(rnC l[j])[m]?=ax u->w'.cell? ⟨g,j*2+m,aw⟩=ax u:=
 rec_row Nw arS szRn aeH i a hi b
theorem Yr (i:Nat){l:List (Int×Int)}{p:Int×Int}(a:OwnS S w0 w L)(hi:L[i]?=ax (rnsE v l))(c:l.length<=1000000000)
  (k:∀v' w',OwnS S w0 w' (L.set i (rnsE v' (l++[p])))->K v' w') :
  DoX ah (bN 116 1 #[(0,rnV p)]) w PK λt w=>DoX ah (mB .append #[116,116] 116 cb #[v,t]) w PK2 K:=by
 refine bA (λb=>.slice (ax ⟨b,0,aw⟩) 1 1) (rnC p) 135 (λ_=>by kernel_rfl) a λnb d a=>?_;refine bR (i+1) arS elRn dc a (by rw[amS];exact hi) (a.sl 0 rfl 2 1 1 rfl) (TX p) om om λv' w2 a=>k v' w2 ?_;have e:rnsE v' (l++[p])=.urow 135 2 v' (l.length+1) (l.flatMap rnC++rnC p):=by
  rw[rnsE,Ent.recs,alI,aoQ];simp
 rw[e];exact a.tail
theorem Z4 (i:Nat){g:Nat}{q:List (Int×Int)}{f n m:Int}{N:Nat}(a:OwnS S w0 w L)(hi:L[i]?=ax (rnsE (.slice (ax ⟨g,0,aw⟩) N cap) (q++[(f,n)])))
  (h:∀w',OwnS S w0 w' (L.set i (rnsE (.slice (ax ⟨g,0,aw⟩) N cap) (q++[(f,m)])))->K undef w') :
  DoX ah (aN 3 (.pointer (ax ⟨g,q.length*2+1,aw⟩)) (.int .i64 m)) w PK K:=by
 obtain⟨k,c,e⟩:=mO (a.at_ i hi) sm
 injection e with l b
 subst b;refine zP i a hi (u:=.int .i64 m) (new:=[.int .i64 m]) rfl krx (λv j=>by rcases amH.1 j with rfl;rfl) (by simp;omega) λw' a=>h w' ?_;have d:=Eng.tR Nw q;have e:((q++[(f,n)]).flatMap rnC).take (q.length*2+1)++[.int .i64 m]++((q++[(f,n)]).flatMap rnC).drop (q.length*2+1+[Value.int .i64 m].length)=(q++[(f,m)]).flatMap rnC:=by
  rw[aoQ,aoQ,apQ,apQ,asD,amP om,apO,anR (by rw[d];simp only[amC,apD];omega),d,
   show q.length*2+1 - q.length*2=1 by omega,show q.length*2+1+[Value.int .i64 m].length - q.length*2=2 by simp;omega]
  simp[rnC]
 have b:rnsE (.slice (ax ⟨g,0,aw⟩) (q++[(f,n)]).length cap) (q++[(f,m)])=.urow 135 2 (.slice (ax ⟨g,0,aw⟩) (q++[(f,n)]).length cap) (q++[(f,n)]).length ((q++[(f,m)]).flatMap rnC):=by
  rw[rnsE,Ent.recs,alI,alI];rfl
 rw[b,<-e];exact a
end
def Nq (l:List Slt):Prop:=∀x∈l,-9223372036854775808<=x.num∧x.num<=9223372036854775807
def SltI (l:List Slt):Prop:=∀x∈l,x.a<=9223372036854775807∧x.b<=9223372036854775807
theorem U4 {l:List Slt}(a:j < l.length):(l.take (j+1)).getLast?=ax l[j]:=by
 rw[List.getLast?_eq_getElem?,alR,amQ om,apV,List.getElem?_take_of_lt om,alT a]
theorem DW {l:List Slt}(a:j < l.length):l.take (j+1)=l.take j++[l[j]]:=by
 rw[List.take_add_one,alT a];rfl
def RnsV (l:List Slt)(v:aq)(N:Mem):Prop:=SlA N.A N.w v 2 (Tl.runs l).length (rnsC (Tl.runs l))
theorem Um (l:List Slt)(v:aq)(M:Mem)(w:ao)(b:l.length<=1000000)(G:Nq l)(E:M.has w)(F:SlA M.A M.w v 4 l.length (slsC l)) :
  RetM ah 169 #[v] M w (RnsV l):=by
 refine bB E λK Q=>Hq ?_;unfold Ek nz;rw[bE aoU (F.now E)];refine loop (λvs W=>∃(i:Nat) (u:aq),vs=[u,.int .i64 i]∧i<=l.length∧OwnS M.A w W [rnsE u (Tl.runs (l.take i)),.mem M]) (λvs _=>l.length - n1 vs) ⟨0,_,rfl,om,OwnS.nilU (OwnS.memS E) 135 2⟩ ?_;rintro vs R ⟨i,u,rfl,hi,a⟩ _;simp only[AR,gd,rs,nz];by_cases p:(i:Int) < (l.length:Int)
 case neg=>
  simp only[alJ p,i_f];rw[amP om] at a;obtain⟨N,hle,r,a⟩:=OwnS.bJ (L:=[.mem M]) a 0 rfl;exact Q _ _ N _ 0 a rfl hle r
 have m:i < l.length:=om
 simp only[alM p,i_t];refine join λJ S=>?_;obtain⟨g,off,T⟩:=oJ F m;obtain⟨U,V⟩:=T R (a.hasM 1 rfl);refine aD U |>.mpr (aD (BJ V) |>.mpr ?_);refine KD a λD w2 a=>?_;refine HQ (y:=l[i]) 0 a rfl λw3 a=>?_;have a:OwnS M.A w w3 [slE D l[i],rnsE u (Tl.runs (l.take i)),.mem M]:=a;have next:∀{s:aq} {W:ao},OwnS M.A w W [slE D l[i],rnsE s (Tl.runs (l.take (i+1))),.mem M]->J [s] W:=by
  intro s W a;refine S _ _ λ_=>?_;simp only[AV,gd,rs,nz];rw[aA om om];exact aY ⟨i+1,s,rfl,om,a.tail⟩ (by show l.length - Int.toNat ((i:Int)+1) < l.length - Int.toNat (i:Int);omega)
 have t:=DW m;have z:=Tl.B4 (l.take i);rw[alR,amQ om] at z;have X:=G l[i] (alX m);have d:∀{W:ao},OwnS M.A w W [slE D l[i],rnsE u (Tl.runs (l.take i)),.mem M]->(∀y,(l.take i).getLast?=ax y->¬Tl.adj y l[i])->DoX ah (mFA 83 (.pointer (ax ⟨D,0,aw⟩)) 0) W (pk K) λt49 w=>
 DoX ah (aH 3 t49) w (pk K) λt50 w=>
 DoX ah (aS 135 #[(0,t50),(1,(.int .i64 1))]) w (pk K) λt51 w=>
 DoX ah (bN 116 1 #[(0,t51)]) w (pk K) λt52 w=>
 DoX ah (mB .append #[116,116] 116 #[au,au] #[u,t52]) w (pk K) λt53 w=>
 J [t53] w:=by
  intro W a hm;rw[X2,aJ aU (a.cell 0 rfl 0 rfl),m_rn];refine Yr 1 a rfl om λs w4 a=>?_;rw[<-Tl.Tt hm,<-t] at a;exact next a
 refine quiet ?_;rcases anU i with H|H
 ·subst H;refine yS ?_;simp only[show ai ((0:Int) < ((0:Nat):Int))=au by decide,gq,D5];refine q_pf ?_;simp only[gq,D5];refine q_pf λW b=>?_;simp only[i_f];exact d (a.grow b) (λy o=>by simp at o)
 obtain⟨j,rfl⟩:∃j,i=j+1:=⟨i - 1,om⟩;have Y:(0:Int) < ((j+1:Nat):Int):=om
 have B:IntKind.wrap .i64 (((j+1:Nat):Int) - 1)=(j:Int):=by rw[aA om om];omega
 obtain⟨g2,I,e⟩:=oJ F (i:=j) om;have c:=U4 (l:=l) (j:=j) om;have Z:=G l[j] (alX om);refine yS ?_;simp only[alM Y,gq,D5];refine q_do _ (λ_=>bC fs0) ?_;refine q_at (.int .i64 l[j+1].num) (λ_ b=>aB aU ((a.grow b).cell 0 rfl 0 rfl)) ?_;refine q_do (.int .i64 (j:Int)) (λ_=>by rw[rB,B]) ?_;refine q_at _ (λW b=>(e W ((a.grow b).hasM 2 rfl)).1) ?_;refine q_do _ (λ_=>bC fs0) ?_;refine q_at (.int .i64 l[j].num) (λW b=>F5 (e W ((a.grow b).hasM 2 rfl)).2) ?_;refine yS (q_pt ?_);by_cases k:l[j].num < l[j+1].num
 case neg=>
  simp only[alJ k,gq,D5];refine q_pf λW b=>?_;simp only[i_f];refine d (a.grow b) λy o=>?_;rw[c] at o;cases o;exactλh=>k h.1
 simp only[alM k,gq,D5];refine q_do _ (λ_=>bC fs0) ?_;refine q_at (.int .i64 l[j+1].num) (λ_ b=>aB aU ((a.grow b).cell 0 rfl 0 rfl)) ?_;refine q_do (.int .i64 (l[j+1].num - 1)) (λ_=>by rw[rB,aA om om]) ?_;refine q_do (.int .i64 (j:Int)) (λ_=>by rw[rB,B]) ?_;refine q_at _ (λW b=>(e W ((a.grow b).hasM 2 rfl)).1) ?_;refine q_do _ (λ_=>bC fs0) ?_;refine q_at (.int .i64 l[j].num) (λW b=>F5 (e W ((a.grow b).hasM 2 rfl)).2) ?_;refine q_eq (q_pt ?_);by_cases heq:l[j+1].num - 1=l[j].num
 case neg=>
  simp only[alJ heq];intro W b;simp only[i_f];refine d (a.grow b) λy o=>?_;rw[c] at o;cases o;exactλh=>heq h.2
 simp only[alM heq];intro W b;simp only[i_t];have a:=a.grow b;obtain⟨q,f,n,e1,e2,hn⟩:=Tl.V5 c (x:=l[j+1]) ⟨k,heq⟩;rw[alR,amQ om] at hn;rw[e1] at a z;obtain⟨g3,O,rfl,P,_,cl⟩:=rns_row 1 a rfl (j:=q.length) sm;have C:(q++[(f,(n:Int))])[q.length]'(sm)=(f,(n:Int)):=sm
 rw[C] at cl;have hlen:(q++[(f,(n:Int))]).length=q.length+1:=sm
 refine quiet ?_;refine q_at (.int .i64 ((q.length+1:Nat):Int)) (λW b=>by rw[Q1 arS ((a.grow b).slU 1 rfl),hlen]) ?_;refine q_do (.int .i64 (q.length:Int)) (λ_=>by rw[rB,aA om om,show ((q.length+1:Nat):Int) - 1=(q.length:Int) by omega]) ?_;refine q_do _ (λw=>P w) (q_do _ (λ_=>Qu) ?_);refine q_at (.int .i64 (n:Int)) (λW b=>aB aU (cl _ ((a.grow b).at_ 1 rfl) 1 _ rfl)) ?_;refine q_do (.int .i64 ((n:Int)+1)) (λ_=>by rw[Ia,aA om om]) ?_;refine q_do _ (λw=>P w) (q_do _ (λ_=>Qu) ?_);intro W2 b;have a:=a.grow b;refine Z4 1 a rfl λw5 a=>?_;rw[<-e2,<-t] at a;exact next a
end
section
open Eng
def wQ(t0 t3 w)(N1:JT)(K:KT):=nz f104 19 [N1] [nh 5 [0,3]] [] (zg [0,3] [t0,t3]) w K
def Ce(t0 w)(K:KT):=nz f104 1 [] [(5,[0,3],λs v j w f=>wQ (vg v 0) (vg v 1) w (f 0) K)] [] (zg [0] [t0]) w K
theorem Fp:Ce t0 w k0->Calls ah 104 #[t0] w k0:=cz [] [(2,[0,3])] func104
def vL(t2 t3 t4 t7 t8 t9 w)(N1:JT)(K:KT):=nz f39 43 [N1] [nh 7 [3,4,9]] [] (zg [2,3,4,7,8,9] [t2,t3,t4,t7,t8,t9]) w K
def AD(t0 w)(K:KT):=nz f39 1 [] [(7,[3,4,9],λs v j w f=>vL (s 2) (vg v 0) (vg v 1) (s 7) (s 8) (vg v 2) w (f 0) K)] [] (zg [0] [t0]) w K
theorem Eh:AD t0 w k0->Calls ah 39 #[t0] w k0:=cz [] [(3,[3,4,9])] func39
def uL(t0 t1 t7 w)(N1:JT)(K:KT):=nz f103 21 [N1] [nh 5 [0,7]] [] (zg [0,1,7] [t0,t1,t7]) w K
def A6(t0 t1 t2 w)(K:KT):=nz f103 1 [] [(5,[0,7],λs v j w f=>uL (vg v 0) (s 1) (vg v 1) w (f 0) K)] [] (zg [0,1,2] [t0,t1,t2]) w K
theorem Eb:A6 t0 t1 t2 w k0->Calls ah 103 #[t0,t1,t2] w k0:=cz [] [(2,[0,7])] func103
def Az(a g c d b w)(v:JT)(K:KT):=
 lnx 23 d w K λh w=>bnx .lss 3 b h w K λi w=>IfX i (HeldX w (λS7 w=>HDo ah S7 (aH 25 c) λj=>HDo ah (λ_=>True) (mIA 23 d b) λk=>HDo ah (λ_=>True) (mFA 25 k 3) λl=>HDo ah S7 (aH 9 l) λm=>HDo ah (λ_=>True) (mBin .add 3 b (iN 1)) λn=>HDo ah (λ_=>True) (mIA 23 d n) λo=>HDo ah S7 (aH 25 o) λp=>CallX ah 70 #[j,m,p] w (ay 15 (pk K)) λe w=>(HDo ah (λ_=>True) (mExt e 0) λq=>HDo ah (λ_=>True) (mExt e 1) λf=>DoX ah (aN 25 c q) w (ay 15 (pk K)) λ_ w=>(ecx .neq 30 96 0 f w K λr w=>IfX r (dx (aS 25 #[]) w K λs w=>stx 25 a s w K λ_ w=>RetX ah [.cell a 25,.val f] w K) (bnx .add 3 b (iN 2) w K λt w=>v [g,t] w))))) (ldx 25 c w K λu w=>stx 25 a u w K λ_ w=>RetX ah [.cell a 25,.val (iN 0)] w K)
def lL(t4 t5 t6 t14 w)(K:KT):=nz f102 1023 [] [(41,[5,15],λs v j w f=>Az (s 4) (vg v 0) (s 6) (s 14) (vg v 1) w (f 0) K)] [] (zg [4,5,6,14] [t4,t5,t6,t14]) w K
def AP(b e f g h i c j a w)(M:JT)(K:KT):=
 bnx .lss 3 a (iN 3) w K λk w=>IfX k (dx (mIx 71 j a) w K λl w=>cx 137 #[l] w K λm w=>dx (bN 23 1 #[(0,m)]) w K λn w=>apx 23 c n w K λo w=>bnx .add 3 a (iN 1) w K λp w=>M [o,p] w) (cx 69 #[(.string ⟨#[84,121,112,101]⟩)] w K λq w=>cx 69 #[(.string ⟨#[88,82,101,102]⟩)] w K λr w=>cx 69 #[(.string ⟨#[83,105,122,101]⟩)] w K λs w=>cx 137 #[h] w K λt w=>cx 69 #[(.string ⟨#[87]⟩)] w K λu w=>cx 141 #[c] w K λv w=>cx 69 #[(.string ⟨#[73,110,100,101,120]⟩)] w K λx w=>cx 141 #[i] w K λy w=>dx (bN 23 8 #[(0,q),(1,r),(2,s),(3,t),(4,u),(5,v),(6,x),(7,y)]) w K λd w=>JoinX (λL=>fax 63 b 3 w K λz w=>ldx 3 z w K λA w=>bnx .geq 3 A (iN 0) w K λB w=>IfX B (QuietX w (λE=>QCall ah E 69 #[(.string ⟨#[80,114,101,118]⟩)] λC=>QDo ah E (mFA 63 b 3) λD=>QDo ah E (aH 3 D) λF=>QCall ah E 137 #[F] λG=>
 ∀w,E w ->
 DoX ah (bN 23 2 #[(0,C),(1,G)]) w (pm1 (pk K)) λH w=>DoX ah (mB .append #[23,23] 23 #[au,au] #[d,H]) w (pm1 (pk K)) λI w=>L [I] w)) (L [d] w)) (λJ w=>∀_:Sg,lL e f g (J.getD 0 undef) w K))
def Ap(d e f g h i c j k b w)(N1:JT)(K:KT):=
 bnx .lss 3 b k w K λl w=>IfX l (iax 116 j b w K λm w=>ldx 135 m w K λn w=>alx 135 w K λa w=>stx 135 a n w K λ_ w=>iax 135 a (iN 0) w K λo w=>ldx 3 o w K λp w=>iax 135 a (iN 1) w K λq w=>ldx 3 q w K λr w=>bnx .add 3 p r w K λs w=>QuietX w (λE=>QDo ah E (mIA 135 a (iN 0)) λt=>QDo ah E (aH 3 t) λu=>QCall ah E 137 #[u] λv=>QDo ah E (mIA 135 a (iN 1)) λx=>QDo ah E (aH 3 x) λy=>QCall ah E 137 #[y] λz=>
 ∀w,E w ->
 DoX ah (bN 23 2 #[(0,v),(1,z)]) w (pm1 (pk K)) λA w=>DoX ah (mB .append #[23,23] 23 #[au,au] #[c,A]) w (pm1 (pk K)) λB w=>bnx .add 3 b (iN 1) w K λC w=>N1 [s,B,C] w)) (ldx 71 e w K λD w=>LoopX [(.slice aw 0 0),(iN 0)] w (λF w G=>∀_:Sg,AP d f g h i c (F.getD 0 undef) D (F.getD 1 undef) w G K))
def EI(t0 t1 w)(K:KT):=nz f102 1 [] [(11,[7,8,24],λs v j w f=>Ap (s 2) (s 3) (s 4) (s 5) (s 6) (vg v 0) (vg v 1) (s 22) (s 23) (vg v 2) w (f 0) K)] [] (zg [0,1] [t0,t1]) w K
theorem Ht:EI t0 t1 w k0->Calls ah 102 #[t0,t1] w k0:=cz [(19,[14])] [(5,[7,8,24]),(12,[11,44]),(20,[5,15])] func102
def Av(t6 t9 t69 t79 t80 w)(N1 a:JT)(K:KT):=nz f38 374271 [N1,a] [nh 35 [9,69],nh 41 [9,80]] [] (zg [6,9,69,79,80] [t6,t9,t69,t79,t80]) w K
def AQ(t1 t2 t6 t7 t9 t67 t68 t69 w)(N1:JT)(K:KT):=nz f38 5631 [N1] [nh 35 [9,69],(41,[9,80],λs v j w f=>Av (s 6) (vg v 0) (s 69) (s 79) (vg v 1) w (f 1) (f 0) K)] [] (zg [1,2,6,7,9,67,68,69] [t1,t2,t6,t7,t9,t67,t68,t69]) w K
def EL(t0 w)(K:KT):=nz f38 1 [] [(35,[9,69],λs v j w f=>AQ (s 1) (s 2) (s 6) (s 7) (vg v 0) (s 67) (s 68) (vg v 1) w (f 0) K)] [] (zg [0] [t0]) w K
theorem HS:EL t0 w k0->Calls ah 38 #[t0] w k0:=cz [] [(17,[9,69]),(20,[9,80])] func38
def xV(t0 w)(K:KT):=nz f157 1 [] [] [] (zg [0] [t0]) w K
theorem yB:xV t0 w k0->Calls ah 157 #[t0] w k0:=cw func157
def Db(t0 t1 w)(K:KT):=nz f158 1 [] [] [] (zg [0,1] [t0,t1]) w K
theorem Fo:Db t0 t1 w k0->Calls ah 158 #[t0,t1] w k0:=cw func158
def Cy(t0 w)(K:KT):=nz f159 1 [] [] [] (zg [0] [t0]) w K
theorem FC:Cy t0 w k0->Calls ah 159 #[t0] w k0:=cw func159
def wO(d f g b w)(N1:JT)(K:KT):=
 lnx 23 d w K λh w=>bnx .lss 3 b h w K λi w=>IfX i (HeldX w (λS2 w=>HDo ah S2 (mIA 23 d b) λj=>HDo ah S2 (aH 25 j) λk=>HDo ah S2 (mBin .add 3 b (iN 1)) λl=>HDo ah S2 (mIA 23 d l) λm=>HDo ah S2 (aH 25 m) λn=>CallX ah 158 #[k,(iN 2147483647)] w (ay 11 (pk K)) λc w=>S2 w∧(CallX ah 158 #[n,(iN 2147483647)] w (ay 11 (pk K)) λe w=>S2 w∧(bnx .geq 3 c g w K λa w=>etx a c w λo w=>etx a e w λp w=>gtx a (mBin .add 3 o p) w K λq w=>gtx a (mBin .leq 3 q (iN 8192)) w K λr w=>dx (kH a r (.bool au)) w K λs w=>cx 157 #[s] w K λz w=>bnx .add 3 c e w K λt w=>dx (aS 135 #[(0,c),(1,e)]) w K λu w=>dx (bN 116 1 #[(0,u)]) w K λv w=>apx 116 f v w K λx w=>bnx .add 3 b (iN 2) w K λy w=>N1 [x,t,y] w)))) (K (.returned f) w)
def B3(t0 w)(K:KT):=nz f160 1 [] [(11,[3,4,5],λs v j w f=>wO (s 0) (vg v 0) (vg v 1) (vg v 2) w (f 0) K)] [] (zg [0] [t0]) w K
theorem Fa:B3 t0 w k0->Calls ah 160 #[t0] w k0:=cz [] [(5,[3,4,5])] func160
def An(t2 t3 w)(K:KT):=nz f92 32767 [] [] [] (zg [2,3] [t2,t3]) w K
def Bg(t1 t2 t3 w)(K:KT):=nz f92 16383 [] [(44,[],λs v j w f=>An (s 2) (s 3) w K)] [] (zg [1,2,3] [t1,t2,t3]) w K
def AJ(t1 t2 t3 t8 t11 t54 w)(N1:JT)(K:KT):=nz f92 11263 [N1] [nh 23 [54],(38,[],λs v j w f=>Bg (s 1) (s 2) (s 3) w K)] [] (zg [1,2,3,8,11,54] [t1,t2,t3,t8,t11,t54]) w K
def EJ(t0 w)(K:KT):=nz f92 1 [] [(23,[54],λs v j w f=>AJ (s 1) (s 2) (s 3) (s 8) (s 11) (vg v 0) w (f 0) K)] [] (zg [0] [t0]) w K
theorem GM:EJ t0 w k0->Calls ah 92 #[t0] w k0:=cz [(19,[]),(22,[])] [(11,[54])] func92
def kO(t0 w)(K:KT):=nz f162 1 [] [] [] (zg [0] [t0]) w K
theorem qU:kO t0 w k0->Calls ah 162 #[t0] w k0:=cw func162
def fT(t0 t4 t9 t14 t15 w)(N1 a:JT)(K:KT):=nz f221 365 [N1,a] [nh 3 [9],nh 9 [15]] [] (zg [0,4,9,14,15] [t0,t4,t9,t14,t15]) w K
def gB(t0 t7 t8 t9 w)(N1:JT)(K:KT):=nz f221 5 [N1] [nh 3 [9],(9,[15],λs v j w f=>fT (s 0) (s 4) (s 9) (s 14) (vg v 0) w (f 1) (f 0) K)] [] (zg [0,7,8,9] [t0,t7,t8,t9]) w K
def iA(t0 t1 w)(K:KT):=nz f221 1 [] [(3,[9],λs v j w f=>gB (s 0) (s 7) (s 8) (vg v 0) w (f 0) K)] [] (zg [0,1] [t0,t1]) w K
theorem mW:iA t0 t1 w k0->Calls ah 221 #[t0,t1] w k0:=cz [] [(1,[9]),(4,[15])] func221
def eY(t2 t3 t7 t25 t26 w)(N1:JT)(K:KT):=nz f161 351 [N1] [nh 15 [7,26]] [] (zg [2,3,7,25,26] [t2,t3,t7,t25,t26]) w K
def jU(t0 t1 t2 t3 w)(K:KT):=nz f161 1 [] [(15,[7,26],λs v j w f=>eY (s 2) (s 3) (vg v 0) (s 25) (vg v 1) w (f 0) K)] [] (zg [0,1,2,3] [t0,t1,t2,t3]) w K
theorem pC:jU t0 t1 t2 t3 w k0->Calls ah 161 #[t0,t1,t2,t3] w k0:=cz [] [(7,[7,26])] func161
def kS (a:Nat)(K:Ending->ao->Prop):=pdM ah [.val (.slice aw 0 0)] K [(mkD a)]
def aL (a:Nat)(K:Ending->ao->Prop):=pdM ah [.val undef] K [(mkD a)]
def lZ(b d e a s w)(t:JT)(K:KT):=
 DoX ah (mBin .lss 3 a e) w (aL s K) λf w=>IfX f (DoX ah (mIA 61 d a) w (aL s K) λg w=>DoX ah (aH 83 g) w (aL s K) λh w=>DoX ah (iL 83) w (aL s K) λc w=>DoX ah (aN 83 c h) w (aL s K) λ_ w=>DoX ah (mFA 83 c 1) w (aL s K) λi w=>DoX ah (aH 3 i) w (aL s K) λj w=>DoX ah (mBin .leq 3 j (iN 2)) w (aL s K) λk w=>CallX ah 157 #[k] w (aL s K) λq w=>DoX ah (mBin .add 3 a (iN 1)) w (aL s K) λl w=>AtX [(mkD s)] [(mkD s)] (t [l] w)) (DoX ah (aH 61 b) w (aL s K) λm w=>CallX ah 101 #[m] w (aL s K) λn w=>DoX ah (mEq .eql 30 (.tmp 40) (.const (iN 0)) n (iN 0)) w (aL s K) λo w=>CallX ah 157 #[o] w (aL s K) λr w=>DoX ah (aH 61 b) w (aL s K) λp w=>EE ah [.val p] K [(mkD s)] .returning w)
def cC(a b g h w):=
 DoX ah (aH 61 a) w pkR λc w=>DoX ah (aH 83 b) w pkR λd w=>DoX ah (bN 61 1 #[(0,d)]) w pkR λe w=>DoX ah (mB .append #[61,61] 61 #[au,au] #[c,e]) w pkR λf w=>DoX ah (aN 61 a f) w pkR λ_ w=>EndX ah g aw w h
def iW(l m w)(K:KT):=
 dx (mBox 118 l) w K λf w=>dx (mBox 9 m) w K λn w=>alx 61 w K λa w=>alx 3 w K λg w=>stx 3 g (iN 0) w K λ_ w=>dx (NJ (.func 161) #[] #[f,g,n]) w K λo w=>alx 131 w K λb w=>stx 131 b o w K λ_ w=>ldx 118 f w K λp w=>cx 162 #[p] w K λq w=>RangeX ah aw 1 q w (λI u w J=>BegX ah I w (λw=>HeldX w (λS2 w=>HDo ah S2 (aH 131 b) λh=>HDo ah S2 (aH 131 b) λd=>HDo ah S2 (aH 131 b) λc=>(CVX ah h #[(iN 0)] w (pm1 (pm1 (pm1 (pm1 (pm1 pkR))))) λe w=>S2 w∧((CVX ah d #[(iN 1)] w (pm1 (pm1 (pm1 (pm1 (pm1 pkR))))) λi w=>S2 w∧((CVX ah c #[(iN 2)] w (pm1 (pm1 (pm1 (pm1 (pm1 pkR))))) λr w=>S2 w∧(HDo ah (λ_=>True) (aS 83 #[(0,(u.getD 0 undef)),(1,e),(2,i),(3,r)]) λs=>DoX ah (iL 83) w (pm1 (pm1 (pm1 (pm1 (pm1 pkR))))) λj w=>S2 w∧(DoX ah (aN 83 j s) w (pm1 (pm1 (pm1 (pm1 (pm1 pkR))))) λ_ w=>(cC a j I J w))))∧(DoX ah (iL 83) w (pm1 (pm1 (pm1 (pm1 (pm1 pkR))))) λv w=>S2 w∧(CVX ah c #[(iN 2)] w (pm1 (pm1 (pm1 (pm1 (pm1 pkR))))) λz w=>S2 w∧(HDo ah (λ_=>True) (aS 83 #[(0,(u.getD 0 undef)),(1,e),(2,i),(3,z)]) λA=>DoX ah (aN 83 v A) w (pm1 (pm1 (pm1 (pm1 (pm1 pkR))))) λ_ w=>(cC a v I J w))))))∧(DoX ah (iL 83) w (pm1 (pm1 (pm1 (pm1 (pm1 pkR))))) λx w=>S2 w∧(CVX ah d #[(iN 1)] w (pm1 (pm1 (pm1 (pm1 (pm1 pkR))))) λB w=>S2 w∧(CVX ah c #[(iN 2)] w (pm1 (pm1 (pm1 (pm1 (pm1 pkR))))) λC w=>S2 w∧(HDo ah (λ_=>True) (aS 83 #[(0,(u.getD 0 undef)),(1,e),(2,B),(3,C)]) λD=>DoX ah (aN 83 x D) w (pm1 (pm1 (pm1 (pm1 (pm1 pkR))))) λ_ w=>(cC a x I J w)))))))∧(DoX ah (iL 83) w (pm1 (pm1 (pm1 (pm1 (pm1 pkR))))) λy w=>S2 w∧(CVX ah h #[(iN 0)] w (pm1 (pm1 (pm1 (pm1 (pm1 pkR))))) λE w=>S2 w∧(CVX ah d #[(iN 1)] w (pm1 (pm1 (pm1 (pm1 (pm1 pkR))))) λF w=>S2 w∧(CVX ah c #[(iN 2)] w (pm1 (pm1 (pm1 (pm1 (pm1 pkR))))) λG w=>S2 w∧(HDo ah (λ_=>True) (aS 83 #[(0,(u.getD 0 undef)),(1,E),(2,F),(3,G)]) λH=>DoX ah (aN 83 y H) w (pm1 (pm1 (pm1 (pm1 (pm1 pkR))))) λ_ w=>(cC a y I J w)))))))))
 [(aw,λL w=>DoX ah (aH 61 a) w (kS L K) λk w=>DoX ah (mB .len #[61] 3 #[au] #[k]) w (kS L K) λt w=>LoopX [(iN 0)] w (λM w N=>∀_:Sg,lZ a k t (M.getD 0 undef) L w N K))]
theorem vW (t0 t1:aq)(w:ao)(K:Ending->ao->Prop):wpX ah 44 [] [(9,[30])] aw (A5 f94) (topM ah [.tmp 4] K) (kI [t0,t1]) [] w=iW t0 t1 w K:=krx
theorem wA {t1:aq}{K:Ending->ao->Prop}(h:iW t0 t1 w K):Calls ah 94 #[t0,t1] w K:=
 Ly func94 rfl rfl rfl rfl (Eq.mpr (vW t0 t1 w K) h)
def kX (a:Deferred)(b:aq)(K:Ending->ao->Prop):=pd ah [.cell b 30] K [a]
def Au(b w)(K:KT):=
 alx 30 w K λa w=>dx (NJ (.func 156) #[] #[a]) w K λc w=>DfrX (dfrV c #[]) (λd1=>DoX ah (fX b #[]) w (kX d1 a K) λd w=>DoX ah (aN 30 a (iN 0)) w (kX d1 a K) λ_ w=>Bp ah [.cell a 30] K [d1] .returning w)
theorem Ec:Au t0 w k0->Calls ah 90 #[t0] w k0:=cw func90
def vJ(t0 t1 w)(K:KT):=nz f91 1 [] [] [] (zg [0,1] [t0,t1]) w K
theorem Bx:vJ t0 t1 w k0->Calls ah 91 #[t0,t1] w k0:=cw func91
def vN(t0 t1 t2 w)(K:KT):=nz f93 1 [] [] [] (zg [0,1,2] [t0,t1,t2]) w K
theorem BG:vN t0 t1 t2 w k0->Calls ah 93 #[t0,t1,t2] w k0:=cw func93
def E1(t0 t1 w)(K:KT):=nz f34 1 [] [] [] (zg [0,1] [t0,t1]) w K
theorem Gp:E1 t0 t1 w k0->Calls ah 34 #[t0,t1] w k0:=cw func34
end
end Go.Proofs.YtlipjfcbjemicaaGreatDoor
