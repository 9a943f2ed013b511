/- Parts of the proof. -/
import Derived.Test.YtlipjfcbjemicaaGreatDoorRows
import Derived.Shelf.Strings.Builder1
import Derived.Shelf.Strings.Builder2
import Derived.Shelf.Small.Strs
import Derived.Shelf.Small.Wraps
import Derived.Shelf.Strings.BuilderF
import Derived.Shelf.Strings.BuilderK
import Derived.Shelf.Strings.Builder2Cap
import Derived.Shelf.Strings.Search1
import Derived.Shelf.Strings.Prefix
import Derived.Shelf.Bits.Mul64
import Derived.Shelf.Strings.Repeat
import Derived.Shelf.Strings.BuilderCap
import Derived.Test.YtlipjfcbjemicaaGreatDoorProg
import Derived.Recover
import Derived.Shelf.Strings.SlTrimAscii
import Derived.Lib.Repeat
import Derived.SliceStrings
import Derived.Laws.StructEq
import Derived.Laws.CopyRow
import Derived.Lib.AppendZerosOnto
import Derived.Lib.SliceRun
import Derived.Lib.Overlaps
import Derived.Laws.Externs
import Derived.Sort.Walk0
import Derived.Test.YtlipjfcbjemicaaGreatDoorMfnblbeie
set_option linter.all false
set_option maxRecDepth 20000
open Go.Proofs.Tryz
open Go.Proofs.Tryz renaming prog->ah
open Option renaming some->ax,none->aw
open Bool renaming true->av,false->au
open Go renaming Value->aq,World->ao
open Decidable renaming decide->ai
namespace Go.Proofs
abbrev atB:=@underlying9
abbrev atM:=@underlying53
abbrev atN:=@underlying22
abbrev atO:=@underlying23
abbrev atS:=@underlying5
abbrev auA:=@underlying123
abbrev auQ:=@underlying3
abbrev avX:=@underlying341
abbrev awG:=@underlying40
abbrev axM:=@underlying20
abbrev azH:=@underlying84
abbrev azI:=@underlying186
abbrev aAa:=@underlying147
abbrev aAj:=@underlying153
abbrev aAx:=@underlying269
abbrev aAy:=@underlying304
abbrev aAz:=@underlying289
abbrev aAG:=@underlying239
abbrev aAH:=@underlying261
abbrev aAV:=@underlying373
end Go.Proofs
namespace Go.Proofs.YtlipjfcbjemicaaGreatDoor
variable{A S:Nat->Prop}{C:ao->Prop}{D U U2:TypeId}{K K':VWP}{L:List Eng.Ent}{L0:Loop}{P:Program}{PK PK2:PKT}{W w w' w0:ao}{a hi lo:Int}{args:Array aq}{b cap d f fuel i j sz t:Nat}{c v v1 v2 vc vk:aq}{cb:Array Bool}{cs cur new news xs:List aq}{e:Eng.Ent}{k':IntKind}{xo yo:Operand}{α β:Type}{σ:Eng.Sg}
section
namespace Eng
open Go.RowKit
theorem cK (b off n:Nat):(⟨b,off,aw⟩:Addr).add n=⟨b,off+n,aw⟩:=by unfold Addr.add;split<;>simp_all
def kC (P:Program)(T:TypeId)(f:Nat):Option Nat:=
 match P.underlying T with
|some (.struct fs)=>match fs[f]? with
 |some fd=>match P.info? fd.type with
  |some i=>match i.size with
   |0=>aw
   |_+1=>ax fd.offset
  |none=>aw
 |none=>aw
|_=>aw
def elB (P:Program)(E:TypeId)(sz bytes:Nat):Bool:=
 match P.info? E with
|some i=>Nat.beq i.size sz&&Nat.beq i.bytes bytes&&(match i.zero with|some z=>Nat.beq z.cells.size sz|none=>au)
|none=>au
theorem jX {E:TypeId}{bytes:Nat}(h:elB P E sz bytes=av):∃i z,P.info? E=ax i∧i.zero=ax z∧i.size=sz∧i.bytes=bytes∧z.cells.size=sz:=by
 unfold elB at h;split at h
 ·rename_i i hi
  simp only[atZ,Nat.beq_eq] at h;obtain⟨⟨b,c⟩,a⟩:=h;split at a
  ·rename_i z d;exact⟨i,z,hi,d,b,c,by simpa using a⟩
  ·cases a
 ·cases h
section
variable {S:Nat->Prop}{P:Program}{w:ao}{PK:PKT}{K:VWP}
theorem bC {T:TypeId}{off o:Nat}(h:kC P T f=ax o):(mFA T (af b off) f).run P w=.ok (.value (af b (off+o))) w:=by
 unfold kC at h;split at h
 ·rename_i fs hu
  split at h
  ·rename_i fd a
   split at h
   ·rename_i i hi
    cases c:i.size with
   |zero=>rw[c] at h;cases h
   |succ m=>
     rw[c] at h;simp only[axC] at h;subst h;refine bQ ?_;simp[Instr.fieldAt,run_underlying hu,a,Instr.sureAddr,fieldPlace,sizeOf,typeInfo,hi,c,cK]
   ·cases h
  ·cases h
 ·cases h
theorem aO {T:TypeId}{off o:Nat}(h:kC P T f=ax o):DoX P (mFA T (af b off) f) w PK K=K (af b (off+o)) w:=aC (bC h)
theorem cR {a:Addr}:(Jf (.pointer (ax a))).run P w=.ok (.value (.pointer (ax a))) w:=by simp[Jf,execOp]
def LL (k:IntKind)(x y:Int):Int:=k.wrap ((BitVec.ofInt k.bits x &&& BitVec.ofInt k.bits y).toNat:Int)
def bOr (k:IntKind)(x y:Int):Int:=k.wrap ((BitVec.ofInt k.bits x ||| BitVec.ofInt k.bits y).toNat:Int)
def bXor (k:IntKind)(x y:Int):Int:=k.wrap ((BitVec.ofInt k.bits x ^^^ BitVec.ofInt k.bits y).toNat:Int)
theorem Zj {T:TypeId}{k:IntKind}{b:Int}:(iA .and T (.int k a) (.int k b)).run P w=.ok (.value (.int k (LL k a b))) w:=bQ (by simp[binOp,Op.intBits,LL])
theorem r_or {T:TypeId}{k:IntKind}{b:Int}:(iA .or T (.int k a) (.int k b)).run P w=.ok (.value (.int k (bOr k a b))) w:=bQ (by simp[binOp,Op.intBits,bOr])
theorem ZL {T:TypeId}{k:IntKind}{b:Int}(h:0<=b):(iA .shr T (.int k a) (.int k' b)).run P w=.ok (.value (.int k (a.fdiv (2 ^ (min b.toNat k.bits))))) w:=bQ (by
 have c:¬b < 0:=om
 simp[binOp,Op.shift,c])
theorem aiF {T:TypeId}{k:IntKind}{b:Int}(h:0<=b):(iA .shl T (.int k a) (.int k' b)).run P w=.ok (.value (.int k (k.wrap (a*2 ^ (min b.toNat k.bits))))) w:=bQ (by
 have c:¬b < 0:=om
 simp[binOp,Op.shift,c])
theorem Xt {T:TypeId}{k:IntKind}{b:Int}:DoX P (iA .and T (.int k a) (.int k b)) w PK K=K (.int k (LL k a b)) w:=aC Zj
theorem b_or {T:TypeId}{k:IntKind}{b:Int}:DoX P (iA .or T (.int k a) (.int k b)) w PK K=K (.int k (bOr k a b)) w:=aC r_or
theorem EB {T:TypeId}{k:IntKind}{b:Int}(h:0<=b):DoX P (iA .shr T (.int k a) (.int k' b)) w PK K=K (.int k (a.fdiv (2 ^ (min b.toNat k.bits)))) w:=aC (ZL h)
theorem Fa {T:TypeId}{k:IntKind}{b:Int}(h:0<=b):DoX P (iA .shl T (.int k a) (.int k' b)) w PK K=K (.int k (k.wrap (a*2 ^ (min b.toNat k.bits)))) w:=aC (aiF h)
theorem CP {T:TypeId}{k:IntKind}{i:Int}{a:List UInt8}{c:UInt8}(h:P.underlying T=ax .string)(b:0<=i)(d:a[i.toNat]?=ax c):(mIx T (ae a) (.int k i)).run P w=.ok (.value (.int .u8 (c.toNat:Int))) w:=by
 refine bQ ?_;have e:(⟨a.toArray⟩:ByteArray)[i.toNat]?=ax c:=by
  have f:i.toNat < a.length:=(atT.1 d).1;have g:i.toNat < (⟨a.toArray⟩:ByteArray).size:=by rw[dC];exact f
  rw[getElem?_pos (⟨a.toArray⟩:ByteArray) i.toNat g];have j:=(atT.1 d).2;rw[<-j];rfl
 simp only[Instr.index,asIntOf,run_underlying h,b,e];simp[b,e,run_underlying h]
theorem asS {E:TypeId}{bytes:Nat}{T:TypeId}{i:TypeInfo}{z:aq}(r:P.underlying T=ax (.slice E))(hi:P.info? E=ax i)(C:i.zero=ax z)(h:i.size=sz)(l:i.bytes=bytes)(s:z.cells.size=sz)(t:0 < sz)
  {v v':aq} {w':ao} {n m c:Nat} {xs news:List aq} {a:Addr} (d:w.ownsRowF 0 E sz v n xs) (q:news.length=m*sz) (b:∀j u,news[j]?=ax u->w.cell? (a.add j)=ax u) (D:∀u∈news,u.oneCell'=av)
  (G:n+m<=9223372036854775807) (F:(n+m)*bytes<=140737488355328) (f:(Builtin.append_ #[T,T] U #[v,.slice (ax a) m c]).run P w=.ok v' w') :
  ∀k,v'.ownBlock=ax k->v.ownBlock=ax k∨w.heap.size<=k:=by
 intro k x;have o:n+m<=maxLen:=by simp only[maxLen];omega
 rcases d.2 with ⟨rfl,rfl⟩|⟨g,cap,cur,fz,rfl,H,I,y,J,K,A,B⟩
 ·obtain⟨v2,w2,L,M,N,O⟩:=run_append_ownF (P:=P) w w.heap.size T U E i z sz bytes r hi C h l s t (.slice aw 0 0) 0 xs ⟨d.1,.inl ⟨rfl,rfl⟩⟩ a m c news q b D o F (atE _);rw[L] at f;cases f;exact .inr (World.ownsRowF.lt M k x).1
 ·subst h;subst l;by_cases e:n+m<=cap
  ·have p:n*i.size+news.length<=cur.size:=by rw[q,A,<-awA];exact auY _ e
   rw[run_append_roomF (P:=P) w T U E i r hi g n cap cur fz I y a m c news q b D e p] at f;cases f;exact .inl x
  ·have holds:∀j u,xs[j]?=ax u->w.cell? ((⟨g,0,aw⟩:Addr).add j)=ax u:=d.cells (g:=g) rfl;rw[run_append_grow (P:=P) w T U E i z r hi C ⟨g,0,aw⟩ n cap xs d.1 holds a m c news q b om om (growslice_fits om F)] at f;cases f;simp only[Value.ownBlock,axC] at x;exact .inr om
theorem DS {T E:TypeId}{cs:Array Bool}{bytes n m:Nat}(t:P.underlying T=ax (.slice E))(he:elB P E sz bytes=av)(f:0 < sz)
  (c:w.ownsRowF 0 E sz v n xs) (I:Sl w v2 sz m news) (B:∀u∈news,u.oneCell'=av) (C:(n+m)*bytes<=140737488355328) (J:n+m<=140737488355328) :
  ∃v' w',(mB .append #[T,T] U cs #[v,v2]).run P w=.ok (.value v') w'∧GC (.row E sz v n xs) (.row E sz v' (n+m) (xs++news)) w w':=by
 obtain⟨i,z,hi,D,h,k,l⟩:=jX he;obtain⟨o,a,cap,rfl,K,L⟩:=I;have x:n+m<=maxLen:=by simp only[maxLen];omega
 have fin:∀(a:Addr),(∀j u,news[j]?=ax u->w.cell? (a.add j)=ax u)->∃v' w',(mB .append #[T,T] U cs #[v,.slice (ax a) m cap]).run P w=.ok (.value v') w'∧GC (.row E sz v n xs) (.row E sz v' (n+m) (xs++news)) w w':=by
  intro a F;obtain⟨v',w',G,M,N,O⟩:=run_append_ownF (P:=P) w 0 T U E i z sz bytes t hi D h k l f v n xs c a m cap news o F B x C (atU _);refine⟨v',w',?_,Yk N,M,asS (P:=P) t hi D h k l f c o F B om C G⟩;simp[mB,builtin,G]
 cases a with
|some p=>
  refine fin p λj u H=>?_;have q:j < news.length:=(atT.1 H).1;have hm:0 < m:=by
   rcases awB m with r|r
   ·subst r;simp at o;rw[o] at q;simp at q
   ·exact r
  obtain⟨y,d⟩:=L p rfl;have:=y hm;obtain⟨b,off,spot⟩:=p;simp only at this d;subst this;rw[cK];exact d j u H
|none=>
  have r:=K rfl;subst r;have s:news=[]:=axL (by simpa using o);subst s;refine⟨v,w,?_,by rw[atX];exact GC.refl (e:=.row E sz v n xs) c⟩;rcases c.2 with ⟨rfl,rfl⟩|⟨g,Q,cur,fz,rfl,_,_,_,A,_⟩
  ·simp[mB,builtin,Builtin.append_,run_underlying t,sizeOf,typeInfo,hi,Builtin.lenOf,Builtin.firstCells]
  ·simp[mB,builtin,Builtin.append_,run_underlying t,sizeOf,typeInfo,hi,Builtin.lenOf,Builtin.firstCells,A,storeCells]
theorem NF (i:Nat){T E:TypeId}{cs:Array Bool}{bytes n m:Nat}(d:P.underlying T=ax (.slice E))(he:elB P E sz bytes=av)(a:0 < sz)
  (c:cH S w0 w L) (hi:L[i]?=ax (.row E sz v n xs)) (e:Sl w v2 sz m news) (f:∀u∈news,u.oneCell'=av) (g:(n+m)*bytes<=140737488355328) (b:n+m<=140737488355328)
  (k:∀v' w',cH S w0 w' (L.set i (.row E sz v' (n+m) (xs++news)))->K v' w'):DoX P (mB .append #[T,T] U cs #[v,v2]) w PK K:=by
 obtain⟨v',w',r,t⟩:=DS (cs:=cs) (U:=U) d he a (c.at_ i hi) e f g b;exact kW r (k _ _ (c.turn i hi t))
def roomy (v:aq):Prop:=∀a k,v≠.slice (ax a) k 0
theorem Pw:roomy (.slice aw 0 0):=λ_ _ h=>by cases h
theorem roomy_row {E:TypeId}{n:Nat}(h:w.ownsRowF 0 E sz v n xs)(l:0 < n):roomy v:=by
 intro a k c;rcases h.2 with ⟨rfl,_⟩|⟨g,cap,cur,fz,rfl,d,m,e,f,i,j,b⟩
 ·cases c
 ·injection c with o p q
  omega
theorem BA (l:List UInt8):Lib.strCells ⟨l.toArray⟩=aH l:=by
 simp[Lib.strCells,aH]
theorem vQ {T E:TypeId}{cs:Array Bool}{n:Nat}{l:List UInt8}(r:P.underlying T=ax (.slice E))(hu:P.underlying U2=ax .string)(he:elB P E 1 1=av)(W:P.underlying E=ax (.int .u8))
  (s:(P.info? E).bind (·.zero)=ax (.int .u8 0))
  (b:w.ownsRowF 0 E 1 v n xs) (K:n+l.length<=140737488355328) :
  ∃v' w',(mB .append #[T,U2] U cs #[v,ae l]).run P w=.ok (.value v') w'∧GC (.row E 1 v n xs) (.row E 1 v' (n+l.length) (xs++aH l)) w w'∧(roomy v->roomy v'):=by
 obtain⟨i,z,hi,X,e,h,L⟩:=jX he;have m:i.zero=ax (.int .u8 0):=by rw[hi] at s;exact s
 have c:=dC l;have t:n+(⟨l.toArray⟩:ByteArray).size<=maxLen:=by rw[c];simp only[maxLen];omega
 obtain⟨v',w',f,y,M,N⟩:=Lib.run_append_own_stringF (P:=P) w 0 T U2 U E i r hu hi m e h v n xs b ⟨l.toArray⟩ t (by rw[c];omega) (atU _);rw[BA,c] at y;have A:roomy v->roomy v':=by
  intro O a k x;rcases awB (n+l.length) with J|J
  ·rcases b.2 with ⟨rfl,_⟩|⟨g,cap,cur,fz,rfl,B,C,o,D,F,p,q⟩
   ·have:=N.2 ⟨rfl,by rw[c];omega⟩;rw[this] at x;cases x
   ·have d:n+(⟨l.toArray⟩:ByteArray).size<=cap:=by rw[c];omega
    rw[Lib.run_append_room_stringF (P:=P) w T U2 U E i r hu hi e g n cap cur fz C (by simpa using o) ⟨l.toArray⟩ d (by simp at p;omega)] at f
    injection f with G Q
    rw[<-G] at x
    injection x with Y Z R
    exact O ⟨g,0,aw⟩ n (by rw[R])
  ·exact roomy_row y J a k x
 refine⟨v',w',by simp[mB,builtin,f],⟨Yk M,y,?_⟩,A⟩;intro k H;rcases b.2 with ⟨rfl,rfl⟩|⟨g,cap,cur,fz,rfl,B,C,o,D,F,p,q⟩
 ·obtain⟨v2,w2,S,V,q3,q4⟩:=Lib.run_append_own_stringF (P:=P) w w.heap.size T U2 U E i r hu hi m e h (.slice aw 0 0) 0 xs ⟨b.1,.inl ⟨rfl,rfl⟩⟩ ⟨l.toArray⟩ t (by rw[c];omega) (atE _);rw[S] at f;cases f;exact .inr (World.ownsRowF.lt V k H).1
 ·by_cases d:n+(⟨l.toArray⟩:ByteArray).size<=cap
  ·rw[Lib.run_append_room_stringF (P:=P) w T U2 U E i r hu hi e g n cap cur fz C (by simpa using o) ⟨l.toArray⟩ d (by simp at p;omega)] at f;cases f;exact .inl H
  ·have holds:∀j u,xs[j]?=ax u->w.cell? ((⟨g,0,aw⟩:Addr).add j)=ax u:=b.cells (g:=g) rfl;rw[Lib.run_append_grow_string (P:=P) w T U2 U E i (.int .u8 0) r hu hi m ⟨g,0,aw⟩ n cap xs (by rw[e];simpa using b.1) holds ⟨l.toArray⟩ om (by rw[c];omega) (by rw[h];exact growslice_fits om (by rw[c];omega))] at f;cases f;have I:ax w.heap.size=ax k:=H;cases I;exact .inr (atE _)
theorem H7 (i:Nat){T E:TypeId}{cs:Array Bool}{n:Nat}{l:List UInt8}(d:P.underlying T=ax (.slice E))(hu:P.underlying U2=ax .string)(he:elB P E 1 1=av)(e:P.underlying E=ax (.int .u8))
  (a:(P.info? E).bind (·.zero)=ax (.int .u8 0)) (c:cH S w0 w L) (hi:L[i]?=ax (.row E 1 v n xs)) (b:n+l.length<=140737488355328)
  (k:∀v' w',(roomy v->roomy v')->cH S w0 w' (L.set i (.row E 1 v' (n+l.length) (xs++aH l)))->K v' w'):DoX P (mB .append #[T,U2] U cs #[v,ae l]) w PK K:=by
 obtain⟨v',w',r,t,f⟩:=vQ (cs:=cs) (U:=U) d hu he e a (c.at_ i hi) b;exact kW r (k _ _ f (c.turn i hi t))
theorem cH.S7 (a:cH S w0 w L)(E:TypeId)(sz:Nat):cH S w0 w (.row E sz (.slice aw 0 0) 0 []::L):=by
 refine⟨a.grew,λe he=>?_,.cons (λf c k b=>by simp[Ent.row,Value.ownBlock] at b) a.apart⟩;rcases atL.1 he with rfl|he
 ·exact⟨World.ownsRowF_nil w 0 E sz,λk b=>by simp[Ent.row,Value.ownBlock] at b⟩
 ·exact a.all e he
theorem cH.ahX (a:cH S w0 w L)(i:Nat){T:TypeId}{n:Nat}(hi:L[i]?=ax (.row T sz v n xs)):Sl w v sz n xs:=Sl.row (a.at_ i hi)
theorem amU {T E:TypeId}{bytes c:Nat}{e f:IntKind}{x:Int}(j:x=c)(l:P.underlying T=ax (.slice E))(he:elB P E sz bytes=av)(m:bytes*c<=281474976710656)(B:c<=281474976710656)(n:cH S w0 w L)
  (k:∀v w',cH S w0 w' (.row E sz v 0 []::L)->K v w'):DoX P (ID T (.int e 0) (.int f x)) w PK K:=by
 subst j;obtain⟨i,z,hi,o,a,b,p⟩:=jX he;obtain⟨w',q,r,s⟩:=run_make_own (P:=P) w w.heap.size T E i z sz l hi o a e f c (by rw[b];exact m) (by simp only[maxLen];omega) (atE _);refine kW (bQ q) (k _ _ (n.add s (.row E sz (bR w.heap.size 0 0 c) 0 []) ?_ (λk t=>?_)))
 ·have:=World.ownsRowF_of r;refine⟨this.1,?_⟩;rcases this.2 with h|⟨g,u,cur,fz,y,C,A⟩
  ·exact .inl h
  ·exact .inr ⟨g,u,cur,fz,y,atU _,A⟩
 ·have d:ax w.heap.size=ax k:=t;cases d;exact atE _
def Ent.bld (T E:TypeId)(b:Nat)(v:aq)(l:List UInt8):Ent:=
 ⟨λk=>k=b∨v.ownBlock=ax k,
  λw=>(∃p,(p=.pointer aw∨p=af b 0)∧w.heap[b]?=ax (.cells #[p,v] T (0,0)))∧w.ownsRowF 0 E 1 v l.length (aH l)∧v.ownBlock≠ax b∧roomy v,
  λ{w w'} h k=>⟨by obtain⟨p,hp,a⟩:=h.1;exact⟨p,hp,(k b (.inl rfl)).trans a⟩,(Ent.row E 1 v l.length (aH l)).keep h.2.1 (λj d=>k j (.inr d)),h.2.2⟩,
  λ{w} h k c=>by
  rcases c with rfl|c
  ·obtain⟨p,hp,a⟩:=h.1;exact dY a
  ·exact (World.ownsRowF.lt h.2.1 k c).2⟩
theorem cH.aaX {T E:TypeId}{l:List UInt8}(h:cH S w0 w (.bld T E b v l::L)) :
  ∃p,(p=.pointer aw∨p=af b 0)∧roomy v∧cH S w0 w (.cells b [p,v] T::.row E 1 v l.length (aH l)::L):=by
 have hm:=h.all (.bld T E b v l) sm;obtain⟨⟨p,hp,n⟩,o,i,d⟩:=hm.1;refine⟨p,hp,d,h.grew,λe he=>?_,?_⟩
 ·rcases atL.1 he with rfl|he
  ·exact⟨n,λk a=>hm.2 k (.inl a)⟩
  ·rcases atL.1 he with rfl|he
   ·exact⟨o,λk a=>hm.2 k (.inr a)⟩
   ·exact h.all e (by simp[he])
 ·obtain⟨m,q⟩:=avT.1 h.apart;refine .cons (λf g k a c=>?_) (.cons (λf g k a=>m f g k (.inr a)) q);rcases atL.1 g with rfl|g
  ·have j:k=b:=a;rw[j] at c;exact i c
  ·exact m f g k (.inl a) c
theorem cH.HQ {T E:TypeId}{n:Nat}{p:aq}{l:List UInt8}(hp:p=.pointer aw∨p=af b 0)(c:roomy v)(d:cH S w0 w (.cells b [p,v] T::.row E 1 v n (aH l)::L)) :
  cH S w0 w (.bld T E b v l::L):=by
 have i:=d.all (.cells b [p,v] T) sm;have h:=d.all (.row E 1 v n (aH l)) sm;obtain⟨j,a2⟩:=avT.1 d.apart;obtain⟨a3,a4⟩:=avT.1 a2;have o:n=l.length:=by have:=h.1.1;rw[cS] at this;omega
 subst o;refine⟨d.grew,λe he=>?_,.cons (λf m k a g=>?_) a4⟩
 ·rcases atL.1 he with rfl|he
  ·refine⟨⟨⟨p,hp,i.1⟩,h.1,λq=>j (.row E 1 v l.length (aH l)) sm b rfl q,c⟩,λk a=>?_⟩;rcases a with a|a
   ·exact i.2 k a
   ·exact h.2 k a
  ·exact d.all e (by simp[he])
 ·rcases a with a|a
  ·exact j f (by simp[m]) k a g
  ·exact a3 f m k a g
theorem cH.swap {f:Ent}(d:cH S w0 w (e::f::L)):cH S w0 w (f::e::L):=by
 obtain⟨i,a2⟩:=avT.1 d.apart;obtain⟨a3,a4⟩:=avT.1 a2;exact⟨d.grew,λg b=>d.all g (by simp only[atL] at b ⊢;rcases b with h|h|h<;>simp[h]),.cons (λg b k c a=>by
  rcases atL.1 b with rfl|b
  ·exact i f sm k a c
  ·exact a3 g b k c a) (.cons (λg b k c a=>i g (by simp[b]) k c a) a4)⟩
theorem rQ (i:Nat){R:aq->Ent->Prop}(a:cH S w0 w L)(hi:L[i]?=ax e)(h:Ret P f args w (λv w'=>∃e',R v e'∧GC e e' w w'))
  (k:∀v e' w',R v e'->cH S w0 w' (L.set i e')->K v w'):dZ P f args w PK K:=
 C5 h λv w' ⟨e',b,c⟩=>k v e' w' b (a.turn i hi c)
theorem aJ {R:aq->Prop}(a:cH S w0 w L)(h:Ret P f args w (λv w'=>R v∧Below w.heap.size w w'))
  (k:∀v w',R v->cH S w0 w' L->K v w'):dZ P f args w PK K:=
 C5 h λv w' ⟨b,c⟩=>k v w' b (a.grow c)
end
end Eng
end
section
open Eng
namespace Eng
abbrev JT:=List aq->ao->Prop
abbrev KT:=Ending->ao->Prop
abbrev QH:=Exit->Sg->ao->Prop
abbrev FH:=Nat->JT
abbrev PH:=Sg->List aq->Sg->ao->FH->Prop
def cn (J:JT) (f:FH):FH:=λi=>cond (i==0) J (f (i - 1))
def zg:List Nat->List aq->Sg
 |k::ks,v::vs=>λi=>cond (i==k) v (zg ks vs i)
 |_,_=>λ_=>undef
def updH (σ:Sg) (d:Nat) (v:aq):Sg:=λi=>cond (i==d) v (σ i)
def putH (σ:Sg):Option Nat->aq->Sg
 |some d,v=>updH σ d v
 |none,_=>σ
def Uo (σ:Sg):List Nat->List aq
 |[]=>[]
 |i::l=>σ i::Uo σ l
def nh (k:Nat) (l:List Nat):Nat×List Nat×PH:=(k,l,λ_ _ _ _ _=>True)
def lkH (k:Nat) (F:List Nat->PH->Prop):List (Nat×List Nat×PH)->Prop
 |[]=>False
 |h::r=>bc (Nat.beq h.1 k) (F h.2.1 h.2.2) (lkH k F r)
def lnH (k:Nat):List (Nat×Nat)->Nat
 |[]=>999999
 |h::r=>bc (Nat.beq h.1 k) h.2 (lnH k r)
def tnQ (Q:QH) (K:Sg->ao->Prop):QH
 |.normal,σ,w=>K σ w
 |e,σ,w=>Q e σ w
def bkQ (id:Nat) (Q:QH):QH
 |.exit j,σ,w=>bc (Nat.beq j id) (Q .normal σ w) (Q (.exit j) σ w)
 |e,σ,w=>Q e σ w
def opH' (P:Program) (o:Oper) (σ:Sg) (w:ao) (K:KT) (k:VWP):Prop:=
 match o.op with
 |.move x | .assign x=>k (rd σ x) w
 |.call { callee:=.value (.func f),args,.. }=>dZ P f (CN (rd σ) args) w (pk K) k
 |_=>DoX P (Dg (rd σ) o) w (pk K) k
def opsH (P:Program) (K:KT) (ops:Array Oper) (k:Sg->ao->Prop):List Oper->Sg->ao->Prop
 |[],σ,w=>k σ w
 |o::r,σ,w=>match o.guard with
  |none=>opH' P o σ w K (λv w=>opsH P K ops k r (putH σ o.dst v) w)
  |some (j,want)=>match Kl ops j with
   |some d=>GDo (σ d) want (λE=>opH' P o σ w K E) w (λv w=>opsH P K ops k r (putH σ o.dst v) w)
   |none=>False
def opQ' (P:Program) (C:ao->Prop) (o:Oper) (σ:Sg) (k:aq->Prop):Prop:=
 match o.op with
 |.move x | .assign x=>k (rd σ x)
 |.call { callee:=.value (.func f),args,.. }=>QCall P C f (CN (rd σ) args) k
 |_=>QDo P C (Dg (rd σ) o) k
def opsQ (P:Program) (ops:Array Oper) (C:ao->Prop) (k:Sg->Prop):List Oper->Sg->Prop
 |[],σ=>k σ
 |o::r,σ=>match o.guard with
  |none=>opQ' P C o σ (λv=>opsQ P ops C k r (putH σ o.dst v))
  |some (j,want)=>match Kl ops j with
   |some d=>GQ (σ d) want (λE=>opQ' P C o σ E) (λv=>opsQ P ops C k r (putH σ o.dst v))
   |none=>False
def pmN:Nat->PKT->PKT
 |0,p=>p
 |n+1,p=>pm1 (pmN n p)
def lkR (k:Nat) (F:List Nat->PH->Prop) (d:Prop):List (Nat×List Nat×PH)->Prop
 |[]=>d
 |h::r=>bc (Nat.beq h.1 k) (F h.2.1 h.2.2) (lkR k F d r)
def hdO (P:Program) (S:ao->Prop) (o:Oper) (σ:Sg) (k:aq->Prop):Prop:=
 match o.op with
 |.move x | .assign x=>k (rd σ x)
 |_=>HDo P S (Dg (rd σ) o) k
def hdH (P:Program) (S:ao->Prop) (ops:Array Oper) (o:Oper) (σ:Sg) (k:Sg->Prop):Prop:=
 match o.guard with
 |none=>hdO P S o σ (λv=>k (putH σ o.dst v))
 |some (j,t)=>match Kl ops j with
  |some d=>GQ (σ d) t (λE=>hdO P S o σ E) (λv=>k (putH σ o.dst v))
  |none=>False
def stO (P:Program) (p:PKT) (o:Oper) (σ:Sg) (w:ao) (k:VWP):Prop:=
 match o.op with
 |.move x | .assign x=>k (rd σ x) w
 |.call { callee:=.value (.func f),args,.. }=>dZ P f (CN (rd σ) args) w p k
 |_=>DoX P (Dg (rd σ) o) w p k
def stH (P:Program) (p:PKT) (ops:Array Oper) (o:Oper) (σ:Sg) (w:ao) (k:Sg->ao->Prop):Prop:=
 match o.guard with
 |none=>stO P p o σ w (λv w=>k (putH σ o.dst v) w)
 |some (j,t)=>match Kl ops j with
  |some d=>GDo (σ d) t (λE=>stO P p o σ w E) w (λv w=>k (putH σ o.dst v) w)
  |none=>False
def sk:Nat->List Nat->List Nat
 |0,l=>l
 |_,[]=>[]
 |n+1,c::r=>bc (Nat.beq c 0) (sk n r) (bc (Nat.beq c 5) (sk (n+2) r) (sk (n+1) r))
def htH (P:Program) (ops:Array Oper) (S:ao->Prop) (p:PKT) (k:Sg->ao->Prop):Nat->List Nat->Sg->ao->Prop
 |0,_,_,_=>False
 |_,[],_,_=>False
 |n+1,c::r,σ,w=>bc (Nat.beq c 0) (k σ w) (bc (Nat.beq c 5) (htH P ops S p k n r σ w∧htH P ops S p k n (sk 1 r) σ w) (match ops[c / 5]? with
  |none=>False
  |some o=>bc (Nat.beq (c % 5) 1) (hdH P S ops o σ λσ=>htH P ops S p k n r σ w) (bc (Nat.beq (c % 5) 2) (hdH P (λ_=>True) ops o σ λσ=>htH P ops S p k n r σ w)
   (stH P p ops o σ w λσ w=>bc (Nat.beq (c % 5) 3) (S w∧htH P ops S p k n r σ w) (htH P ops S p k n r σ w)))))
def wpH (P:Program) (K:KT) (d:List (Nat×Nat)) (e:List (Nat×List Nat×PH)):Code->FH->QH->Sg->ao->Prop
 |.skip,_,Q,σ,w=>Q .normal σ w
 |.region id ops draw,f,Q,σ,w=>
  bc draw
   (lkR (5000+id) (λl p=>match l with
    |m::c::t=>Au w (λS w=>htH P ops S (pmN m (pk K)) (λσ w=>bc (Nat.beq c 0) (Q .normal σ w) (p σ [] σ w f)) 999 t σ w)
    |_=>False)
   (bc (Nat.beq (lnH id d) ops.size)
    (nK w (λC=>opsQ P ops C (λσ=>∀w',C w'->Q .normal σ w') ops.toList σ))
    (nK w (λC=>opsQ P ops C (λσ=>∀w',C w'->opsH P K ops (λσ w=>Q .normal σ w) (ops.toList.drop (lnH id d)) σ w') (ops.toList.take (lnH id d)) σ))) e)
   (opsH P K ops (λσ w=>Q .normal σ w) ops.toList σ w)
 |.seq a b,f,Q,σ,w=>
  bc (Nat.ble (ways a) 1) (wpH P K d e a f (tnQ Q λσ w=>wpH P K d e b f Q σ w) σ w)
   (lkH (2 * keyOf b) (λg p=>D9 (λJ=>wpH P K d e a (cn J f) (tnQ Q λσ' w'=>J (Uo σ' g) w') σ w) (λvs w'=>∀j,p σ vs j w' f)) e)
 |.cond c a b,f,Q,σ,w=>IfX (rd σ c) (wpH P K d e a f Q σ w) (wpH P K d e b f Q σ w)
 |.block id a,f,Q,σ,w=>wpH P K d e a f (bkQ id Q) σ w
 |.loop a,f,_,σ,w=>lkH (2 * keyOf a+1) (λg p=>Ax (Uo σ g) w (λvs w N=>∀j,p σ vs j w (cn N f))) e
 |.exit id,_,Q,σ,w=>Q (.exit id) σ w
 |.ret,_,Q,σ,w=>Q .ret σ w
 |_,_,_,_,_=>False
def hdJ:List JT->JT
 |[]=>λ_ _=>False
 |J::_=>J
def atH (P:Program) (K:KT) (e:List (Nat×Nat)) (d:List (Nat×List Nat×PH)):Code->Nat->List JT->FH->QH->Sg->ao->Prop
 |.seq a b,p,js,f,Q,σ,w=>
  bc (Nat.beq p 1) (wpH P K e d (.seq a b) f Q σ w)
   (bc (Nat.beq (p % 2) 0)
    (bc (Nat.ble (ways a) 1) (atH P K e d a (p / 2) js f (tnQ Q λσ w=>wpH P K e d b f Q σ w) σ w)
     (lkH (2 * keyOf b) (λg _=>atH P K e d a (p / 2) js.tail (cn (hdJ js) f) (tnQ Q λσ' w'=>hdJ js (Uo σ' g) w') σ w) d))
    (atH P K e d b (p / 2) js f Q σ w))
 |.cond c a b,p,js,f,Q,σ,w=>
  bc (Nat.beq p 1) (wpH P K e d (.cond c a b) f Q σ w) (bc (Nat.beq (p % 2) 0) (atH P K e d a (p / 2) js f Q σ w) (atH P K e d b (p / 2) js f Q σ w))
 |.block id a,p,js,f,Q,σ,w=>bc (Nat.beq p 1) (wpH P K e d (.block id a) f Q σ w) (atH P K e d a p js f (bkQ id Q) σ w)
 |.loop a,p,js,f,Q,σ,w=>
  bc (Nat.beq p 1) (wpH P K e d (.loop a) f Q σ w)
   (lkH (2 * keyOf a+1) (λg _=>atH P K e d a (p / 2) js.tail (cn (hdJ js) f) (tnQ Q λσ' w'=>hdJ js (Uo σ' g) w') σ w) d)
 |c,_,_,f,Q,σ,w=>wpH P K e d c f Q σ w
def allT:List ResultVar->Bool
 |[]=>av
 |.tmp _::l=>allT l
 |_=>au
def abF (σ:Sg):List ResultVar->List aq
 |.tmp t::l=>σ t::abF σ l
 |_=>[]
def oneH (K:KT) (w:ao):List aq->Prop
 |[v]=>K (.returned v) w
 |l=>K (.returned (.tuple l.toArray)) w
def rvK (σ:Sg):List ResultVar->(List RV->Prop)->Prop
 |[],k=>k []
 |r::l,k=>rvK σ l λx=>k (RV.of σ r::x)
def topH (P:Program) (rs:List ResultVar) (K:KT):QH
 |.normal,σ,w=>bc (allT rs) (oneH K w (abF σ rs)) (rvK σ rs λl=>A2 P l w K)
 |.ret,σ,w=>bc (allT rs) (oneH K w (abF σ rs)) (rvK σ rs λl=>A2 P l w K)
 |_,_,_=>False
structure NfX (a b:Prop):Prop where
 mk ::
 out:a=b
theorem NfX.rf {a:Prop}:NfX a a:=⟨rfl⟩
theorem dxE  {m:Sem Next}    (h:∀v w,NfX (K v w) (K' v w)):NfX (DoX P m w PK K) (DoX P m w PK K'):=⟨by rw [funext λv=>funext λw=>(h v w).out]⟩
theorem cxE   {a:Array aq}    (h:∀v w,NfX (K v w) (K' v w)):NfX (dZ P f a w PK K) (dZ P f a w PK K'):=⟨by rw [funext λv=>funext λw=>(h v w).out]⟩
theorem gdE  {t:Bool} {E:(VWP)->Prop}   (h:∀v w,NfX (K v w) (K' v w)):NfX (GDo v t E w K) (GDo v t E w K'):=⟨by rw [funext λv=>funext λw=>(h v w).out]⟩
theorem qdE   {m:Sem Next} {K K':aq->Prop} (h:∀v,NfX (K v) (K' v)):NfX (QDo P C m K) (QDo P C m K'):=⟨by rw [funext λv=>(h v).out]⟩
theorem qcE    {a:Array aq} {K K':aq->Prop} (h:∀v,NfX (K v) (K' v)):NfX (QCall P C f a K) (QCall P C f a K'):=⟨by rw [funext λv=>(h v).out]⟩
theorem gqE  {t:Bool} {E:(aq->Prop)->Prop} {K K':aq->Prop} (h:∀v,NfX (K v) (K' v)):NfX (GQ v t E K) (GQ v t E K'):=⟨by rw [funext λv=>(h v).out]⟩
theorem ifE  {A a B b:Prop} (h:NfX A a) (k:NfX B b):NfX (IfX v A B) (IfX v a b):=⟨by rw [h.out,k.out]⟩
theorem joE {F a:JT->Prop} {R:JT} (h:∀J,NfX (F J) (a J)):NfX (D9 F R) (D9 a R):=⟨by rw [funext λJ=>(h J).out]⟩
theorem quE  {F a:(ao->Prop)->Prop} (h:∀C,NfX (F C) (a C)):NfX (nK w F) (nK w a):=⟨by rw [funext λC=>(h C).out]⟩
theorem awE  {p a:ao->Prop} (h:∀w,NfX (p w) (a w)):NfX (∀w,C w->p w) (∀w,C w->a w):=⟨by rw [funext λw=>(h w).out]⟩
theorem hoE  {S:ao->Prop} {m:Sem Next} {K K':aq->Prop} (h:∀v,NfX (K v) (K' v)):NfX (HDo P S m K) (HDo P S m K'):=⟨by rw [funext λv=>(h v).out]⟩
theorem hxE  {F a:(ao->Prop)->ao->Prop} (h:∀S w,NfX (F S w) (a S w)):NfX (Au w F) (Au w a):=⟨by rw [funext λS=>funext λw=>(h S w).out]⟩
theorem anE {A a B b:Prop} (h:NfX A a) (k:NfX B b):NfX (A∧B) (a∧b):=⟨by rw [h.out,k.out]⟩
theorem mpC {f:α->β}{a:α}{l:List α}:(a::l).map f=f a::l.map f:=rfl
theorem mpN {f:α->β}:([]:List α).map f=[]:=rfl
theorem omS {f:α->β}{a:α}:(ax a).map f=ax (f a):=rfl
theorem omN {f:α->β}:(aw:Option α).map f=none:=rfl
theorem tlA  (l:List α):l.toArray.toList=l:=rfl
theorem rd_t  :rd σ (.tmp t)=σ t:=rfl
theorem rd_c  :rd σ (.const v)=v:=rfl
theorem rd_g  {g:Nat}:rd σ (.global g)=af g 0:=rfl
theorem rd_f  :rd σ (.func f)=.func (.func f) #[] #[]:=rfl
abbrev nj:JT:=λ_ _=>False
abbrev nk:KT:=λ_ _=>False
def vg (v:List aq)(n:Nat):Value:=v.getD n undef
def nz (F:Func)(p:Nat)(js:List JT)(a:List (Nat×List Nat×PH))(b:List (Nat×Nat))(s:Sg)(w:ao)(K:KT){q r:Prop}
  (h:NfX (atH ah K b a (DW F) p js (λ_ _ _=>False) (topH ah F.results.toList K) s w) q:=by
    repeat' ((conv=>arg 1;whnf);first|(apply dxE;intro v w)|(apply cxE;intro v w)|(apply gdE;intro v w)|apply ifE|(apply joE;intro J)|(apply quE;intro C)|(apply qdE;intro v)|(apply qcE;intro v)|(apply gqE;intro v)|(apply awE;intro w)|(apply hoE;intro v)|(apply hxE;intro S w)|apply anE|exact NfX.rf))
  (c:q=r:=by dsimp only[opH',opQ',hdO,stO,Dg,rd_t,rd_c,rd_g,rd_f,updH,putH,zg,cn,Uo,CN,tlA,mpC,mpN,cond_true,cond_false,Nat.reduceBEq,Nat.reduceSub,isEq,isLit,omS,omN,abF,bc,nh,hdJ,vg,RV.of]):Prop:=r
end Eng
abbrev iN (n:Int):Value:=.int .i64 n
def dx (m w K k):=DoX ah m w (pk K) k
def gtx (t m w K k):=GDo t av (λE=>DoX ah m w (pk K) E) w k
def gfx (t m w K k):=GDo t au (λE=>DoX ah m w (pk K) E) w k
def ctx (t f a w K k):=GDo t av (λE=>dZ ah f a w (pk K) E) w k
def cfx (t f a w K k):=GDo t au (λE=>dZ ah f a w (pk K) E) w k
def etx (t:aq)(u:aq)(w:ao)(k:aq->ao->Prop):=GDo t av (λE=>E u w) w k
def efx (t:aq)(u:aq)(w:ao)(k:aq->ao->Prop):=GDo t au (λE=>E u w) w k
def lnx (T x w K k):=DoX ah (mB .len #[T] 3 #[au] #[x]) w (pk K) k
def ecx (o T n z t w K k):=DoX ah (mEq o T (.tmp n) (.const (ad z)) t (ad z)) w (pk K) k
def apx (T x y w K k):=DoX ah (mB .append #[T,T] T #[au,au] #[x,y]) w (pk K) k
def cx (f a w K k):=dZ ah f a w (pk K) k
theorem cw{f:FuncId}{F:Func}{args:List aq}{K:KT}{S:Prop}(a:ah.funcs[f]?=ax F)(b:F.body=ax (DW F):=by rfl)(c:Nat.ble args.length F.ntmps=true:=by rfl)(e:wpX ah F.ntmps [] [] aw (DW F) (topQ ah F.results.toList K) (mP args) [] w=S:=by kernel_rfl)(h:S):Calls ah f args.toArray w K:=HS a b rfl rfl c (e▸h)
theorem cz A B{f:FuncId}{F:Func}{args:List aq}{w:ao}{K:KT}{S:Prop}(a:ah.funcs[f]?=ax F)(b:F.body=ax (DW F):=by rfl)(c:Nat.ble args.length F.ntmps=true:=by rfl)(e:wpX ah F.ntmps A B aw (DW F) (topQ ah F.results.toList K) (mP args) [] w=S:=by kernel_rfl)(h:S):Calls ah f args.toArray w K:=HS a b rfl rfl c (e▸h)
def ldx (T a w K k):=DoX ah (aK T a) w (pk K) k
def bnx (o T a b w K k):=DoX ah (iA o T a b) w (pk K) k
def iax (T a i w K k):=DoX ah (mIA T a i) w (pk K) k
def fax (T a n w K k):=DoX ah (mFA T a n) w (pk K) k
def nlx (a w K k):=DoX ah (Jf a) w (pk K) k
def exx (a n w K k):=DoX ah (At a n) w (pk K) k
def stx (T a v w K k):=DoX ah (aV T a v) w (pk K) k
def eqx (o T x y a b w K k):=DoX ah (mEq o T x y a b) w (pk K) k
def mbx (f t T b a w K k):=DoX ah (mB f t T b a) w (pk K) k
def slx (T a b c d w K k):=DoX ah (cT T a b c d) w (pk K) k
def alx (T w K k):=DoX ah (DO T) w (pk K) k
def iJ(a w)(K:KT):=
 nlx a w K λb w=>fax 188 b 0 w K λc w=>ldx 186 c w K λd w=>eqx .eql 186 (.tmp 5) (.const (.pointer aw)) d (.pointer aw) w K λe w=>IfX e (dx (fZ 186 261 a) w K λf w=>dx (gC (.func (.func 258) #[] #[]) #[f]) w K λg w=>dx (fZ 261 186 g) w K λh w=>nlx a w K λi w=>fax 188 i 0 w K λj w=>stx 186 j h w K λ_ w=>K (.returned (.tuple #[])) w) (nlx a w K λk w=>fax 188 k 0 w K λl w=>ldx 186 l w K λm w=>eqx .neq 186 (.tmp 17) (.tmp 18) m a w K λn w=>IfX n (False) (K (.returned (.tuple #[])) w))
theorem oD{t0 w K}:iJ t0 w K->Calls ah 226 #[t0] w K:=cw func226
def iG(t0 t1 w)(K:KT):=nz f181 1 [] [] [] (zg [0,1] [t0,t1]) w K
theorem nQ{t0 t1 w K}:iG t0 t1 w K->Calls ah 181 #[t0,t1] w K:=cw func181
def gM(t0 t1 w)(K:KT):=nz f187 1 [] [] [] (zg [0,1] [t0,t1]) w K
theorem lP{t0 t1 w K}:gM t0 t1 w K->Calls ah 187 #[t0,t1] w K:=cw func187
def kJ(t0 w)(K:KT):=nz f182 1 [] [] [(1,10)] (zg [0] [t0]) w K
theorem qZ{t0 w K}:kJ t0 w K->Calls ah 182 #[t0] w K:=cw func182
end
end Go.Proofs.YtlipjfcbjemicaaGreatDoor
namespace Go.Proofs
open Go.Shelf
open Go.RowKit in
def Tryz.RI:Go.Shelf.Ren:=⟨λ|137=>224|217=>257|266=>283|n=>n,λ|9=>9|5=>5|3=>3|n=>n,λ|n=>n⟩
theorem Tryz.aeU:Go.Proofs.Lays.n137 ah Tryz.RI:={
 mixed:=krx
 f137:=Tryz.func224.trans (congrArg ax krx)
 f217:=Tryz.func257.trans (congrArg ax krx)
 f266:=Tryz.func283.trans (congrArg ax krx)
 t3:=auQ
 a3:=Tryz.isAgg3
 z3:=Tryz.sizeOf3
 v3:=Tryz.zeroValue3
 t5:=atS
 a5:=Tryz.isAgg5
 z5:=Tryz.sizeOf5
 v5:=Tryz.zeroValue5
 t9:=atB
 a9:=Tryz.isAgg9
 z9:=Tryz.sizeOf9
 v9:=Tryz.zeroValue9 }
open Go.RowKit in
theorem Tryz.strings_IndexByte (s:ByteArray)(c:Int)(w:ao) :
  Calls ah 224 #[.string s,.int .u8 c] w λe w'=>e=.returned (.int .i64 (Lib.indexByte s.data.toList c.toNat.toUInt8))∧w'=w:=Any.strings_IndexByte Tryz.aeU s c w
open Go.RowKit Go.Lib in
def Tryz.Rt:Go.Shelf.Ren:=⟨λ|212=>227|263=>259|264=>260|n=>n,λ|46=>84|51=>153|146=>263|53=>147|148=>265|n=>n,λ|n=>n⟩
theorem Tryz.afD:Go.Proofs.Lays.n212 ah Tryz.Rt:={
 mixed:=krx
 f212:=Tryz.func227.trans (congrArg ax krx)
 f263:=Tryz.func259.trans (congrArg ax krx)
 f264:=Tryz.func260.trans (congrArg ax krx)
 t46:=azH
 a46:=Tryz.isAgg84
 z46:=Tryz.sizeOf84
 v46:=Tryz.zeroValue84
 t51:=aAj
 a51:=Tryz.isAgg153
 z51:=Tryz.sizeOf153
 v51:=Tryz.zeroValue153
 t53:=aAa
 a53:=Tryz.isAgg147
 z53:=Tryz.sizeOf147
 v53:=Tryz.zeroValue147
 t146:=underlying263
 a146:=Tryz.isAgg263
 z146:=Tryz.sizeOf263
 v146:=Tryz.zeroValue263
 t148:=underlying265
 a148:=Tryz.isAgg265
 z148:=Tryz.sizeOf265
 v148:=Tryz.zeroValue265 }
open Go.RowKit Go.Lib in
theorem Tryz.bits_Mul (x y:Nat)(a:x < 18446744073709551616)(b:y < 18446744073709551616)(w:ao) :
  Calls ah 227 #[.int .u64 x,.int .u64 y] w λe w'=>e=.returned (.tuple #[.int .u64 ((x*y / 18446744073709551616:Nat):Int),.int .u64 ((x*y % 18446744073709551616:Nat):Int)])∧w'=w:=Any.bits_Mul Tryz.afD x y a b w
def Tryz.KM:Go.Shelf.Ren:=⟨λ|105=>189|212=>227|99=>228|165=>229|166=>187|170=>230|169=>182|263=>259|264=>260|206=>261|240=>226|241=>262|276=>258|277=>284|n=>n,λ|9=>9|3=>3|4=>4|20=>20|0=>0|46=>84|109=>240|5=>5|72=>188|76=>205|51=>153|146=>263|53=>147|148=>265|70=>186|37=>53|75=>194|127=>239|164=>261|80=>198|n=>n,λ|n=>n⟩
theorem Tryz.aiP:Go.Proofs.Lays.n105 ah Tryz.KM:={
 mixed:=krx
 f99:=Tryz.func228.trans (congrArg ax krx)
 f105:=Tryz.func189.trans (congrArg ax krx)
 f165:=Tryz.func229.trans (congrArg ax krx)
 f166:=Tryz.func187.trans (congrArg ax krx)
 f169:=Tryz.func182.trans (congrArg ax krx)
 f170:=Tryz.func230.trans (congrArg ax krx)
 f206:=Tryz.func261.trans (congrArg ax krx)
 f212:=Tryz.func227.trans (congrArg ax krx)
 f240:=Tryz.func226.trans (congrArg ax krx)
 f241:=Tryz.func262.trans (congrArg ax krx)
 f263:=Tryz.func259.trans (congrArg ax krx)
 f264:=Tryz.func260.trans (congrArg ax krx)
 f276:=Tryz.func258.trans (congrArg ax krx)
 f277:=Tryz.func284.trans (congrArg ax krx)
 t0:=underlying0
 a0:=Tryz.isAgg0
 z0:=Tryz.sizeOf0
 v0:=Tryz.zeroValue0
 t3:=auQ
 a3:=Tryz.isAgg3
 z3:=Tryz.sizeOf3
 v3:=Tryz.zeroValue3
 t4:=underlying4
 a4:=Tryz.isAgg4
 z4:=Tryz.sizeOf4
 v4:=Tryz.zeroValue4
 t5:=atS
 a5:=Tryz.isAgg5
 z5:=Tryz.sizeOf5
 v5:=Tryz.zeroValue5
 t9:=atB
 a9:=Tryz.isAgg9
 z9:=Tryz.sizeOf9
 v9:=Tryz.zeroValue9
 t20:=axM
 a20:=Tryz.isAgg20
 z20:=Tryz.sizeOf20
 v20:=Tryz.zeroValue20
 t37:=atM
 a37:=Tryz.isAgg53
 z37:=Tryz.sizeOf53
 v37:=Tryz.zeroValue53
 t46:=azH
 a46:=Tryz.isAgg84
 z46:=Tryz.sizeOf84
 v46:=Tryz.zeroValue84
 t51:=aAj
 a51:=Tryz.isAgg153
 z51:=Tryz.sizeOf153
 v51:=Tryz.zeroValue153
 t53:=aAa
 a53:=Tryz.isAgg147
 z53:=Tryz.sizeOf147
 v53:=Tryz.zeroValue147
 t70:=azI
 a70:=Tryz.isAgg186
 z70:=Tryz.sizeOf186
 v70:=Tryz.zeroValue186
 t72:=underlying188
 a72:=Tryz.isAgg188
 z72:=Tryz.sizeOf188
 v72:=Tryz.zeroValue188
 t75:=underlying194
 a75:=Tryz.isAgg194
 z75:=Tryz.sizeOf194
 v75:=Tryz.zeroValue194
 t76:=underlying205
 a76:=Tryz.isAgg205
 z76:=Tryz.sizeOf205
 v76:=Tryz.zeroValue205
 t109:=underlying240
 a109:=Tryz.isAgg240
 z109:=Tryz.sizeOf240
 v109:=Tryz.zeroValue240
 t127:=aAG
 a127:=Tryz.isAgg239
 z127:=Tryz.sizeOf239
 v127:=Tryz.zeroValue239
 t146:=underlying263
 a146:=Tryz.isAgg263
 z146:=Tryz.sizeOf263
 v146:=Tryz.zeroValue263
 t148:=underlying265
 a148:=Tryz.isAgg265
 z148:=Tryz.sizeOf265
 v148:=Tryz.zeroValue265
 t164:=aAH
 a164:=Tryz.isAgg261
 z164:=Tryz.sizeOf261
 v164:=Tryz.zeroValue261 }
theorem Tryz.G1:Builder.Extra ah Tryz.KM:={
 sizeBuilder:=krx
 liesBuilder:=krx
 t5:=atS
 a5:=Tryz.isAgg5
 z5:=Tryz.sizeOf5
 v5:=Tryz.zeroValue5
 infoByte:=krx
 cellsByte:=krx
 sizeByte:=krx
 neB5:=by decide }
open Go.RowKit Go.Lib in
theorem Tryz.strings_Repeat (s:ByteArray)(c:Nat)(w:ao)(a:c<=9223372036854775807)(hlen:s.size*c<=140737488355328) :
  Calls ah 189 #[.string s,.int .i64 c] w λe w'=>e=.returned (.string ⟨(Lib.repeatL s.data.toList c).toArray⟩)∧Below w.heap.size w w':=Any.strings_Repeat Tryz.aiP Tryz.G1 s c w a hlen
end Go.Proofs
namespace Go.Proofs.YtlipjfcbjemicaaGreatDoor
variable{A S:Nat->Prop}{C:ao->Prop}{D U U2:TypeId}{K K':VWP}{L:List Eng.Ent}{L0:Loop}{P:Program}{PK PK2:PKT}{W w w' w0:ao}{a hi lo:Int}{args:Array aq}{b cap d f fuel i j sz t:Nat}{c v v1 v2 vc vk:aq}{cb:Array Bool}{cs cur new news xs:List aq}{e:Eng.Ent}{k':IntKind}{xo yo:Operand}{α β:Type}{σ:Eng.Sg}
section
open Eng Go.RowKit
abbrev Bld (b:Nat)(v:aq)(l:List UInt8):Ent:=.bld 188 5 b v l
theorem iU (a b:List UInt8):aH (a++b)=aH a++aH b:=by simp[aH]
theorem GP (l:List UInt8):∀u∈aH l,u.oneCell'=true:=by
 intro u hu;simp only[aH,auH] at hu;obtain⟨c,_,rfl⟩:=hu;rfl
theorem Wz {T:TypeId}{a:Option Addr}(h:P.underlying T=ax (.pointer U)) :
  DoX P (mEq .eql T xo (.const c) (.pointer a) (.pointer aw)) w PK K=K (.bool a.isNone) w:=by
 refine fT ?_;have e:(eqGuard .eql T xo (.const c) (.pointer a) (.pointer aw))=pure ():=by cases xo<;>rfl
 rw[e];have b:∀d:Nat,(Op.equalIn (d+1) T (.pointer a) (.pointer aw)).run P w=.ok a.isNone w:=λd=>by
  cases a<;>simp[Op.equalIn,run_underlying h]
 simp only[binOp];simp[Op.equal,Op.maxDepth,b 9999]
theorem ahD {T:TypeId}{a:Addr}(h:P.underlying T=ax (.pointer U))(hi:(P.info? U).isSome=av)(b:eqGuard .neq T xo yo (.pointer (ax a)) (.pointer (ax a))=pure ()) :
  DoX P (mEq .neq T xo yo (.pointer (ax a)) (.pointer (ax a))) w PK K=K (.bool au) w:=by
 obtain⟨j,c⟩:=Option.isSome_iff_exists.1 hi;refine fT ?_;rw[b];simp[Lib.run_neq_ptr_same w a h c]
theorem E8 {l:List UInt8}(h:(Bld b v l).is w):Ret ah 226 #[af b 0] w
  (λr w'=>∃e',(r=.tuple #[]∧e'=Bld b v l)∧GC (Bld b v l) e' w w'):=by
 obtain⟨p,hp,a,c⟩:=(cH.lend h).aaX;refine aL λK i=>oD ?_;unfold iJ dx ldx fax nlx stx eqx;simp only[rs,aO (show kC ah 188 0=ax 0 by kernel_rfl)];rw[aR krx (c.cell 0 rfl 0 rfl)];rcases hp with rfl|rfl
 ·rw[Wz azI];simp only[aAk,rs];obtain⟨j,e⟩:=Option.isSome_iff_exists.1 (show (Tryz.prog.info? 188).isSome=av by kernel_rfl);have f:j.size≠0:=by
   have:(Tryz.prog.info? 188).map (·.size)=ax 2:=krx
   rw[e] at this;simp only[ayO,axC] at this;omega
  have d:w.shape? b=ax (188,2):=by
   have k:w.heap[b]?=ax (.cells #[.pointer aw,v] 188 (0,0)):=c.at_ 0 rfl;simp[World.shape?,k]
  refine kW (bQ (Lib.run_to_unsafe w ⟨b,0,aw⟩ azI aAH e f d (by show 0 < 2;omega))) ?_;refine kW (show (gC (.func (.func 258) #[] #[]) #[af b 0]).run ah w=.ok (.value (af b 0)) w by kernel_rfl) ?_;refine kW (bQ (Lib.run_from_unsafe w ⟨b,0,aw⟩ aAH azI e d krx)) ?_;refine aN 0 c rfl krx rfl sm λw2 g=>?_;exact i _ _ ⟨_,⟨rfl,rfl⟩,(cH.HQ (.inr rfl) a g).back⟩
 ·rw[Wz azI];simp only[aAl,rs,aO (show kC ah 188 0=ax 0 by kernel_rfl)];rw[aR krx (c.cell 0 rfl 0 rfl)];rw[ahD azI krx rfl];simp only[rs];exact i _ _ ⟨_,⟨rfl,rfl⟩,(c.HQ (.inr rfl) a).back⟩
theorem kX {l:List UInt8}{c:UInt8}(h:(Bld b v l).is w)(q:l.length < 140737488355328):Ret ah 181 #[af b 0,.int .u8 c.toNat] w
  (λr w'=>∃e',(r=.nilIface∧∃v',e'=Bld b v' (l++[c]))∧GC (Bld b v l) e' w w'):=by
 refine aL λK k=>nQ ?_;unfold iG nz;refine rQ 0 (cH.lend h) rfl (E8 h) ?_;rintro _ _ s ⟨rfl,rfl⟩ a;obtain⟨p,hp,d,e⟩:=cH.aaX a;simp only[rs,aO (show kC ah 188 1=ax 1 by kernel_rfl)];rw[aR krx (e.cell 0 rfl 1 rfl)];refine bI (λb=>bR b 0 1 1) [.int .u8 c.toNat] 5 (λ_=>by kernel_rfl) e λt w2 f=>?_;refine NF 2 atM (show elB ah 5 1 1=av by kernel_rfl) dc f rfl (f.sl 0 rfl 1 1 1 rfl) (GP [c]) om om λv' w3 g=>?_;refine aN 1 g rfl krx (by
  have:=g.at_ 2 rfl;rcases this.2 with ⟨i,_⟩|⟨_,_,_,_,i,_⟩<;>rw[i]<;>rfl) sm λm n=>?_
 have o:=n.tail;have j:cH (Bld b v l).blk w m (.cells b [p,v'] 188::.row 5 1 v' (l.length+1) (aH (l++[c]))::[]):=by
  rw[iU];exact o
 exact k _ _ ⟨_,⟨rfl,v',rfl⟩,(cH.HQ hp (roomy_row (j.at_ 1 rfl) om) j).back⟩
theorem Jr {l s:List UInt8}(h:(Bld b v l).is w)(n:l.length+s.length<=140737488355328):Ret ah 187 #[af b 0,ae s] w
  (λr w'=>∃e',((∃x,r=.tuple #[x,.nilIface])∧∃v',e'=Bld b v' (l++s))∧GC (Bld b v l) e' w w'):=by
 refine aL λK i=>lP ?_;unfold gM nz;refine rQ 0 (cH.lend h) rfl (E8 h) ?_;rintro _ _ o ⟨rfl,rfl⟩ c;obtain⟨p,hp,a,e⟩:=cH.aaX c;simp only[rs,aO (show kC ah 188 1=ax 1 by kernel_rfl)];rw[aR krx (e.cell 0 rfl 1 rfl)];refine H7 1 atM atB (show elB ah 5 1 1=av by kernel_rfl) atS krx e rfl om λv' w3 d f=>?_;refine aN 0 f rfl krx (by
  have:=f.at_ 1 rfl;rcases this.2 with ⟨g,_⟩|⟨_,_,_,_,g,_⟩<;>rw[g]<;>rfl) sm λj k=>?_
 rw[cZ atB];have m:cH (Bld b v l).blk w j (.cells b [p,v'] 188::.row 5 1 v' (l.length+s.length) (aH (l++s))::[]):=by
  rw[iU];exact k
 exact i _ _ ⟨_,⟨⟨_,rfl⟩,v',rfl⟩,(cH.HQ hp (d a) m).back⟩
theorem WY {E:TypeId}{g n:Nat}(h:w.ownsRowF 0 E 1 (bR g 0 n cap) n xs)(a:n≠0) :
  GC (.row E 1 (bR g 0 n cap) n xs) (.row E 1 (bR g 0 n cap) n xs) w (w.freeze ⟨g,0,aw⟩ n):=by
 refine⟨?_,?_,λk o=>.inl o⟩
 ·unfold World.freeze;rw[asT a];refine⟨rfl,rfl,rfl,sm,λk o c=>?_⟩;have d:¬g=k:=λe=>c (by show ax g=ax k;rw[e]);simp only[aAm];rw[asT d]
 ·refine⟨h.1,?_⟩;unfold World.freeze;rw[asT a];rcases h.2 with ⟨f,_⟩|⟨r,p,cur,fz,f,i,q,j,rest⟩
  ·cases f
  ·injection f with l _ b
   injection l with l
   injection l with m _ _
   subst m;subst b;obtain⟨lo,hi⟩:=fz;refine .inr ⟨g,_,cur,(if lo==hi then (0,0+n) else (min lo 0,max hi (0+n))),rfl,i,?_,?_,rest⟩
   ·simp[aAm,q]
   ·simp only at j;split<;>simp<;>omega
theorem aiO {n:Nat}{T:TypeId}{cs:Array Bool}{E:TypeId}(h:w.ownsRowF 0 E 1 v n xs)(a:roomy v):∃q,(∀w':ao,(mB .unsafeSliceData #[T] U cs #[v]).run ah w'=.ok (.value (.pointer q)) w')∧(0 < n->∃g cap,v=bR g 0 n cap∧q=ax ⟨g,0,aw⟩):=by
 rcases h.2 with ⟨rfl,rfl⟩|⟨g,cap,cur,fz,rfl,b,f,c,rest⟩
 ·exact⟨aw,λw'=>by simp[mB,builtin,Lib.run_unsafeSliceData_nil],λh=>by omega⟩
 ·refine⟨ax ⟨g,0,aw⟩,λw'=>?_,λ_=>⟨g,cap,rfl,rfl⟩⟩;have d:cap≠0:=λe=>a ⟨g,0,aw⟩ n (by rw[e]);simp[mB,builtin,Lib.run_unsafeSliceData_row _ _ _ _ _ _ d]
theorem Fq {l:List UInt8}(h:(Bld b v l).is w):Ret ah 182 #[af b 0] w
  (λr w'=>∃e',(r=ae l∧e'=Bld b v l)∧GC (Bld b v l) e' w w'):=by
 obtain⟨p,hp,c,k⟩:=(cH.lend h).aaX;refine aL λK D=>qZ ?_;unfold kJ nz;have i:w.ownsRowF 0 5 1 v l.length (aH l):=k.at_ 1 rfl;obtain⟨q,F,n⟩:=aiO (T:=53) (U:=239) (cs:=#[au]) i c;have d:∀w',Below w.heap.size w w'->(aK 53 (af b (0+1))).run ah w'=.ok (.value v) w':=λw' o=>aB krx ((k.grow o).cell 0 rfl 1 rfl);have hlen:∀w',Below w.heap.size w w'->(mB .len #[53] 3 #[au] #[v]).run ah w'=.ok (.value (ad l.length)) w':=λw' o=>by
  have G:=(k.grow o).ahX 1 rfl;obtain⟨_,a,S,rfl,_⟩:=G;simp[mB,builtin,Builtin.len_,run_underlying atM,goInt]
 refine quiet (gr _ (λw=>cR) (gr _ (λw=>bC (show kC ah 188 1=ax 1 by kernel_rfl)) (iL v d (gr _ F (gr _ (λw=>cR) (gr _ (λw=>bC (show kC ah 188 1=ax 1 by kernel_rfl)) (iL v d (iL _ hlen ?_))))))));intro w2 s;have t:=k.grow s;rcases awB l.length with m|m
 ·have H:l=[]:=axL m;subst H;refine kW (show (mB .unsafeString #[239,3] 9 #[au,au] #[.pointer q,ad 0]).run ah w2=.ok (.value (ae ([]:List UInt8))) w2 by
   simp[mB,builtin,Lib.run_unsafeString_none];rfl) ?_
  exact D _ _ ⟨_,⟨rfl,rfl⟩,(cH.HQ hp c t).back⟩
 ·obtain⟨g,cap,rfl,rfl⟩:=n m;have e:w2.ownsRowF 0 5 1 (bR g 0 l.length cap) l.length (aH l):=t.at_ 1 rfl;have u:l≠[]:=awL.1 m;have f:∃cells,w2.shape? g=ax (5,cells)∧l.length<=cells∧l.length<=9223372036854775807:=by
   rcases e.2 with ⟨y,_⟩|⟨V,E,cur,fz,y,I,J,L,M,z,N,_⟩
   ·cases y
   ·injection y with A _ c
    injection A with A
    injection A with B _ _
    subst B;refine⟨cur.size,by simp[World.shape?,J],om,?_⟩;simp only[maxLen] at z;omega
  obtain⟨cells,f,hle,C⟩:=f;have O:=Lib.run_unsafeString_row (P:=ah) w2 239 3 9 5 aAG krx g cells f l u hle C (λj x Q=>by
   have:=World.ownsRowF.cells e (g:=g) rfl j (.int .u8 x.toNat) (fW Q);exact this)
  refine kW (show (mB .unsafeString #[239,3] 9 #[au,au] #[af g 0,ad l.length]).run ah w2=.ok (.value (ae l)) (w2.freeze ⟨g,0,aw⟩ l.length) by
   simp[mB,builtin,O]) ?_
  have R:=t.turn 1 rfl (WY e om);exact D _ _ ⟨_,⟨rfl,rfl⟩,(cH.HQ hp c R).back⟩
end
section
open Eng
def F7(b c d a w)(N1:JT)(K:KT):=
 bnx .lss 3 a d w K λe w=>IfX e (nK w (λp=>QDo ah p (mIx 9 b a) λf=>QDo ah p (iA .shr 5 f (.int .u64 4)) λg=>QDo ah p (mIx 9 (.string ⟨#[48,49,50,51,52,53,54,55,56,57,65,66,67,68,69,70]⟩) g) λh=>QDo ah p (mIx 9 b a) λi=>QDo ah p (iA .and 5 i (.int .u8 15)) λj=>QDo ah p (mIx 9 (.string ⟨#[48,49,50,51,52,53,54,55,56,57,65,66,67,68,69,70]⟩) j) λk=>
 ∀w,p w ->
 DoX ah (aT 53 2 #[(0,h),(1,k)]) w (ay 5 (pk K)) λl w=>DoX ah (mB .append #[53,53] 53 #[au,au] #[c,l]) w (ay 5 (pk K)) λm w=>bnx .add 3 a (iN 1) w K λn w=>N1 [m,n] w)) (dx (fZ 53 9 c) w K λo w=>K (.returned o) w)
def KC(t0 w)(K:KT):=nz f172 1 [] [(7,[3,11],λs v j w f=>F7 (s 0) (vg v 0) (s 10) (vg v 1) w (f 0) K)] [] (zg [0] [t0]) w K
theorem Lp{t0 w K}:KC t0 w K->Calls ah 172 #[t0] w K:=cz [] [(3,[3,11])] func172
def Gk(t0 w)(K:KT):=nz f177 1 [] [] [] (zg [0] [t0]) w K
theorem Il{t0 w K}:Gk t0 w K->Calls ah 177 #[t0] w K:=cw func177
end
end Go.Proofs.YtlipjfcbjemicaaGreatDoor






namespace Go.Proofs.YtlipjfcbjemicaaGreatDoor
variable{A S:Nat->Prop}{C:ao->Prop}{D U U2:TypeId}{K K':VWP}{L:List Eng.Ent}{L0:Loop}{P:Program}{PK PK2:PKT}{W w w' w0:ao}{a hi lo:Int}{args:Array aq}{b cap d f fuel i j sz t:Nat}{c v v1 v2 vc vk:aq}{cb:Array Bool}{cs cur new news xs:List aq}{e:Eng.Ent}{k':IntKind}{xo yo:Operand}{α β:Type}{σ:Eng.Sg}
section
open Eng Go.RowKit
theorem Tz (c:UInt8):∀l:List UInt8,(Lib.indexByte l c=-1∧l.takeWhile (λx=>x != c)=l∧l.dropWhile (λx=>x != c)=[]) ∨
  ∃i:Nat,Lib.indexByte l c=i∧i < l.length∧l.takeWhile (λx=>x != c)=l.take i∧l.dropWhile (λx=>x != c)=l.drop i
|[]=>.inl ⟨rfl,rfl,rfl⟩
|b::l=>by
  by_cases h:b=c
  ·subst h;exact .inr ⟨0,by simp[Lib.indexByte],sm,sm,sm⟩
  ·have g:(b==c)=false:=by simpa using h
   have a:(b != c)=true:=by simpa using h
   rcases Tz c l with ⟨d,j,f⟩|⟨i,d,j,f,k⟩
   ·exact .inl ⟨by simp[Lib.indexByte,g,d],by simp[a,j],by simp[a,f]⟩
   ·refine .inr ⟨i+1,?_,by simp;omega,by simp[a,f],by simp[a,k]⟩;have e:((i:Int)==-1)=false:=sm
    simp only[Lib.indexByte,g,d,e,axI,if_false];omega
end
end Go.Proofs.YtlipjfcbjemicaaGreatDoor

namespace Go.Proofs.YtlipjfcbjemicaaGreatDoor
variable{A S:Nat->Prop}{C:ao->Prop}{D U U2:TypeId}{K K':VWP}{L:List Eng.Ent}{L0:Loop}{P:Program}{PK PK2:PKT}{W w w' w0:ao}{a hi lo:Int}{args:Array aq}{b cap d f fuel i j sz t:Nat}{c v v1 v2 vc vk:aq}{cb:Array Bool}{cs cur new news xs:List aq}{e:Eng.Ent}{k':IntKind}{xo yo:Operand}{α β:Type}{σ:Eng.Sg}
section
open Eng Go.RowKit
theorem EM (l:List UInt8)(c:UInt8)(w:ao):Ret ah 224 #[ae l,.int .u8 c.toNat] w (λv w'=>v=ad (Lib.indexByte l c)∧w=w'):=by
 refine Calls.mono (Tryz.strings_IndexByte ⟨l.toArray⟩ c.toNat w) ?_;rintro e w' ⟨rfl,rfl⟩;refine vB ⟨?_,rfl⟩;simp
theorem O4 (c:UInt8)(w:ao):Ret ah 177 #[.int .u8 c.toNat] w (λv w'=>v=.bool (Oc.Dp c)∧w=w'):=by
 refine aL λK a=>Il ?_;unfold Gk nz;refine qE (EM Oc.acK c w) ?_;simp only[rs,Oc.zS];exact a _ _ ⟨rfl,rfl⟩
theorem shr4 (c:UInt8):(c.toNat:Int).fdiv (2 ^ (min (4:Int).toNat IntKind.u8.bits))=((c.toNat / 16:Nat):Int):=by
 rw[aAI _ dc];show ((c.toNat:Int) / 16)=_;omega
theorem YP:∀n:Fin 256,LL .u8 (n.val:Int) 15=((n.val % 16:Nat):Int):=by decide +kernel
theorem arQ (c:UInt8):LL .u8 (c.toNat:Int) 15=((c.toNat % 16:Nat):Int):=YP ⟨c.toNat,c.toNat_lt⟩
theorem Jd (k:IntKind){n:Nat}(h:n < 16)(w:ao):(mIx 9 (.string ⟨#[48,49,50,51,52,53,54,55,56,57,65,66,67,68,69,70]⟩) (.int k (n:Int))).run ah w=.ok (.value (.int .u8 (Oc.Ib n).toNat)) w:=
 CP (a:=Oc.hexs) (c:=Oc.Ib n) atB om (by rw[atC];exact Oc.Zu h)
theorem ahL (l:List UInt8)(w:ao)(r:l.length<=1000000):Ret ah 172 #[ae l] w (λv w'=>v=ae (Oc.hex l)∧Below w.heap.size w w'):=by
 refine aL λK n=>Lp ?_;unfold KC nz;rw[cZ atB];simp only[rs];rw[aA om om];refine amU (c:=2*l.length) om atM (show elB ah 5 1 1=av by kernel_rfl) om om (Own.start w) λv s o=>?_;rw[cZ atB];refine loop (λvs w'=>∃(i:Nat) (v:aq),vs=[v,ad i]∧i<=l.length∧Own w w' [.row 5 1 v (2*i) (aH (Oc.hex (l.take i)))])
  (λvs _=>l.length - n1 vs) ⟨0,v,rfl,om,by simpa[Oc.hex,aH] using o⟩ ?_
 rintro vs w2 ⟨i,v,rfl,hi,f⟩ _;simp only[F7,gd,rs,iN,dx,bnx];by_cases d:(i:Int) < (l.length:Int)
 ·have a:i < l.length:=om
  have k:l[(i:Int).toNat]?=ax l[i]:=by simp[a]
  have g:l[i].toNat / 16 < 16:=by have:=l[i].toNat_lt;omega
  have h:l[i].toNat % 16 < 16:=om
  simp only[d,asX,rs];refine quiet (gr _ (λw=>CP atB om k) (gr _ (λw=>by rw[ZL om,shr4]) (gr _ (λw=>Jd _ g w)
   (gr _ (λw=>CP atB om k) (gr _ (λw=>by rw[Zj,arQ]) (gr _ (λw=>Jd _ h w) ?_))))))
  intro w3 j;refine bI (λb=>bR b 0 2 2) (aH (Oc.hex1 l[i])) 5 (λ_=>by kernel_rfl) (f.grow j) λt u m=>?_;refine NF 1 atM (show elB ah 5 1 1=av by kernel_rfl) dc m rfl (m.sl 0 rfl 1 2 2 rfl) (GP _) om om λv' x p=>?_;rw[aA om om];refine aS ⟨i+1,v',rfl,om,?_⟩ (by simp[n1,RowKit.intOf];omega);have e:aH (Oc.hex (l.take (i+1)))=aH (Oc.hex (l.take i))++aH (Oc.hex1 l[i]):=by
   rw[auD a,Oc.SR,iU]
  rw[e];exact p.tail
 ·have a:i=l.length:=om
  subst a;simp only[d,asW,rs];have q:=f.ahX 0 rfl;rw[vG (l:=Oc.hex l) atM atS atB (by rw[Oc.Mr];simpa using q)];exact n _ _ ⟨rfl,f.done⟩
theorem apN (n:Nat)(h:n < 256):((UInt8.ofNat n).toNat:Int)=(n:Int):=by rw[axN];omega
theorem DH {l:List UInt8}{n:Int}{k:Nat}(h:(Bld b v l).is w)(a:l.length < 140737488355328)(d:n=k)(e:k < 256):Ret ah 181 #[af b 0,.int .u8 n] w
  (λr w'=>∃e',(r=.nilIface∧∃v',e'=Bld b v' (l++[UInt8.ofNat k]))∧GC (Bld b v l) e' w w'):=by
 have:=kX (c:=UInt8.ofNat k) h a;rw[apN k e,<-d] at this;exact this
def strV (p:List UInt8):Value:=ae p
def bF (ps:List (List UInt8)):List Value:=ps.map strV
theorem eW {ps:List (List UInt8)}(h:i < ps.length):(bF ps)[i]?=ax (.string ⟨ps[i].toArray⟩):=by simp[bF,strV,h]
end
section
open Eng Go.RowKit Go.ChangeShapes Go.WideShapes Go.ChangeAt
theorem Cu {x:String×DataW Unit}{l:List (String×DataW Unit)}(h:laidMet P (x::l) W):laidMet P l W:=by
 obtain⟨ps,⟨g,t,cs,fuel,p,q,_,_,_,_,a,rfl⟩,c,d⟩:=h;exact⟨q,a,(List.nodup_append.1 c).2.1,λb off hm=>d b off (by simp[hm])⟩
end
section
namespace Eng
open Go.RowKit
def I2 (P:Program)(T:TypeId):Option Nat:=
 match P.underlying T with
|some (.struct _)|some (.array _ _)=>(P.info? T).map (·.size)
|_=>aw
def AtV (P:Program)(w:ao)(T:TypeId)(a:Addr)(v:aq):Prop:=(loadVar T a).run P w=.ok v w
section
variable {S:Nat->Prop}{P:Program}{w:ao}{PK:PKT}{K:VWP}
theorem AtV.cell {T:TypeId}(b:eP P T=av){a:Addr}{v:aq}(h:w.cell? a=ax v):AtV P w T a v:=oW b h
theorem AtV.agg {T:TypeId}{n:Nat}(a:I2 P T=ax n){b off:Nat}{cs:List aq}(f:cs.length=n)(h:∀j v,cs[j]?=ax v->w.cell? ⟨b,off+j,aw⟩=ax v):AtV P w T ⟨b,off,aw⟩ (.agg cs.toArray):=by
 have d:=run_loadCells_list (P:=P) w ⟨b,off,aw⟩ cs (λj v g=>by rw[cK];exact h j v g);unfold I2 at a;subst f;unfold AtV;split at a
 ·rename_i fs hu
  obtain⟨i,hi,c⟩:=avM.1 a;simp[loadVar,isAgg,run_underlying hu,sizeOf,typeInfo,hi,c,d]
 ·rename_i k e hu
  obtain⟨i,hi,c⟩:=avM.1 a;simp[loadVar,isAgg,run_underlying hu,sizeOf,typeInfo,hi,c,d]
 ·cases a
theorem bB {T:TypeId}{a:Addr}(h:AtV P w T a v):(aK T (.pointer (ax a))).run P w=.ok (.value v) w:=by
 unfold AtV at h;exact bQ (by simp[Instr.loadAt,Instr.sureAddr,h])
theorem Jn {T:TypeId}{a:Addr}(h:AtV P w T a v):DoX P (aK T (.pointer (ax a))) w PK K=K v w:=aC (bB h)
theorem cH.agg {w0:ao}{L:List Ent}(a:cH S w0 w L)(i:Nat){b:Nat}{cs:List aq}{E T:TypeId}(hi:L[i]?=ax (.cells b cs E))(c:I2 P T=ax cs.length):AtV P w T ⟨b,0,aw⟩ (.agg cs.toArray):=
 AtV.agg c rfl λj v d=>by rw[atK];exact a.cell i hi j d
theorem NB {T:TypeId}{E:TypeId}(c:(P.info? T).map (·.size)=ax new.length)(d:∀v∈new,v.oneCell'=av)(e:cs.length=new.length)(h:w.heap[b]?=ax (.cells cs.toArray E (0,0))) :
  (Instr.storeAt T (af b 0) (.agg new.toArray)).run P w=.ok () (w.setRow b new.toArray):=by
 have a:=run_storeCells_at P b 0 E new 0 cs.toArray w h (by simp;omega) d;obtain⟨i,hi,f⟩:=avM.1 c;have hd:cs.toArray.toList.drop new.length=[]:=auW (by rw[<-e];exact atE _);simp only[auU,atK,awQ,auI,hd,atX] at a;have g:(Value.agg new.toArray).cells=new.toArray:=rfl;simp[Instr.storeAt,Instr.sureAddr,storeVar,g,sizeOf,typeInfo,hi,f,a]
theorem jK (i:Nat){T:TypeId}{E:TypeId}(a:cH S w0 w L)(hi:L[i]?=ax (.cells b cs E))(c:(P.info? T).map (·.size)=ax new.length)(d:∀v∈new,v.oneCell'=av)(e:cs.length=new.length)
  (k:∀w',cH S w0 w' (L.set i (.cells b new E))->K undef w'):DoX P (aV T (af b 0) (.agg new.toArray)) w PK K:=
 D7 (JJ (NB c d e (a.at_ i hi))) (k _ (iX a i hi _))
theorem mY {T:TypeId}{a:List UInt8}{k:IntKind}(h:P.underlying T=ax .string)(b:0<=lo)(d:lo<=hi)(c:hi<=a.length) :
  (cT T (ae a) (ax (.int k lo)) (ax (.int k' hi)) aw).run P w=.ok (.value (ae ((a.drop lo.toNat).take (hi.toNat - lo.toNat)))) w:=by
 refine bQ ?_;have e:(⟨a.toArray⟩:ByteArray).extract lo.toNat hi.toNat=⟨((a.drop lo.toNat).take (hi.toNat - lo.toNat)).toArray⟩:=by
  rw[JG (s:=(⟨a.toArray⟩:ByteArray).extract lo.toNat hi.toNat),Lib.extract_data]
 have g1:(0<=hi∧hi<=((a.length:Nat):Int)):=om
 have g2:(0<=lo∧lo<=((hi.toNat:Nat):Int)):=om
 simp only[Instr.sliceAt,Instr.slice,Instr.sliceBounds,Instr.sliceBound,asIntOf,run_underlying h,dC];have g3:lo<=max hi 0:=om
 simp[run_underlying h,dC,c,g3,b,g1.1,e]
theorem abU (h:Ret P f args w (λv' w'=>v'=v∧w=w'))(a:C w):Ret P f args w (λv' w'=>v'=v∧C w'):=
 h.mono λv' w' r=>⟨r.1,r.2▸a⟩
theorem Y8 {a:ao}(h:Ret P f args w (λv' w'=>v'=v∧Below w.heap.size w w'))(b:Below a.heap.size a w):Ret P f args w (λv' w'=>v'=v∧Below a.heap.size a w'):=
 h.mono λv' w' r=>⟨r.1,(((Own.start a).grow b).grow r.2).done⟩
theorem fH {a:RV}{K:Ending->ao->Prop}(b:a.read.run P w=.ok v1 w)(k:K (.returned v1) w):A2 P [a] w K:=
 ⟨_,by simp[FC,b],k⟩
theorem F3 {a b:RV}{K:Ending->ao->Prop}(c:a.read.run P w=.ok v1 w)(d:b.read.run P w=.ok v2 w)(k:K (.returned (.tuple #[v1,v2])) w):A2 P [a,b] w K:=
 ⟨_,by simp[FC,c,d],k⟩
theorem SS {a b c:RV}{v3:aq}{K:Ending->ao->Prop}(d:a.read.run P w=.ok v1 w)(e:b.read.run P w=.ok v2 w)(f:c.read.run P w=.ok v3 w)(k:K (.returned (.tuple #[v1,v2,v3])) w):A2 P [a,b,c] w K:=
 ⟨_,by simp[FC,d,e,f],k⟩
theorem bJ {T:TypeId}{a:Addr}(h:AtV P w T a v):(RV.cell (.pointer (ax a)) T).read.run P w=.ok v w:=by
 unfold AtV at h;simp[RV.read,asAddr,h]
theorem K5 :(RV.val v).read.run P w=.ok v w:=by simp[RV.read]
end
end Eng
end
section
namespace Eng
open Go.RowKit
section
variable {S:Nat->Prop}{P:Program}{w w0:ao}{L:List Ent}{PK:PKT}{K:VWP}
theorem cH.join {L':List Ent}(h:cH S w0 w L)(k:cH NoB w w' L'):cH S w0 w' (L'++L):=by
 have d:=h.grow k.below;refine⟨d.grew,λe he=>?_,axO.2 ⟨k.apart,d.apart,λe he f i b l g=>?_⟩⟩
 ·rcases auF.1 he with he|he
  ·obtain⟨a,b⟩:=k.all e he;refine⟨a,λj m=>.inr ?_⟩;rcases b j m with c|c
   ·exact c.elim
   ·exact avH h.size c
  ·exact d.all e he
 ·have n:=f.lt (h.mem i) b g;rcases (k.all e he).2 b l with c|c
  ·exact c
  ·omega
theorem arF {l:Nat}{K:ao->Prop}(i:Nat)(a:cH S w0 w L)(hi:L[i]?=ax (.obj l (lp L0 .ready aw)))(k:∀w',cH S w0 w' (L.set i (.obj l (lp L0 .busy aw)))->K w'):BegX P l w K:=
 ⟨_,Lo (a.at_ i hi),k _ (Ji a i hi)⟩
theorem akV {l:Nat}{j:Option Code}{R:VWP}(i:Nat)(a:cH S w0 w L)(hi:L[i]?=ax (.obj l (lp L0 .busy aw)))(k:∀w',cH S w0 w' (L.set i (.obj l (lp L0 (if j.isNone then .ready else .done) j)))->R (.bool j.isNone) w'):EndX P l j w R:=
 ⟨_,_,P2 (a.at_ i hi),k _ (Ji a i hi)⟩
theorem arU {l:Nat}{args:List aq}{R:VWP}(h:Yld P l args w R)(k:∀v w',R v w'->K v w'):DoX P (gC (.func (.yield l) #[] #[]) args.toArray) w PK K:=by
 obtain⟨fn,tmps,a,b,c,d⟩:=h;have f:(gC (.func (.yield l) #[] #[]) args.toArray).run P w=.ok (.round l fn tmps a b) w:=by
  rw[<-c];simp[gC,invoke,Deferred.ofValue,resolve]
 refine⟨?_⟩;rw[f];refine⟨RoundIn.mono d ?_⟩;rintro e w' ⟨v,rfl,g⟩;exact k v w' g
theorem range {js:List (Option Code×(Nat->ao->Prop))}{B:Nat->List aq->ao->(VWP)->Prop}{np:Nat}{fa ca:Array aq}(c:cH S w0 w L)(hp:bY P f=av)
  (h:∀(L0:Loop) (df a:Nat) (b:ao),cH S w0 b (.obj a (lp L0 .ready aw)::.obj df (.deferred (ax []))::L) ->
   (∀args W R,W.heap[a]?=ax (lp L0 .ready aw)->args.length=np->B a args W R->Yld P a args W R) ->
   Calls P f (fa++#[.func (.yield a) #[] #[]]++ca) b λe w3=>∃v st pd k,e=.returned v∧st≠.busy∧w3.heap[a]?=ax (lp L0 st pd)∧(pd,k)∈js∧k df (ML w3 a (lp L0 .exhausted pd))) :
  RangeX P aw np (.func (.func f) fa ca) w B js:=by
 refine⟨f,fa,ca,w.heap.size,w.alloc (.deferred (ax [])),rfl,hp,⟨rfl,rfl⟩,λL0 _ d=>?_⟩;exact h L0 w.heap.size (w.alloc (.deferred (ax []))).heap.size _ ((c.SF _).SF _) (λargs W R g i j=>d _ args W R g i j)
theorem akA {rs:List RV}{K:Ending->ao->Prop}{df:Nat}(i:Nat)(a:cH S w0 w L)(hi:L[i]?=ax (.obj df (.deferred (ax []))))(k:∀w',cH S w0 w' (L.set i (.obj df (.deferred aw)))->RetD P rs w' K):H9 P rs K [mkD df] .returning w:=by
 refine⟨(λh=>by cases h),df,_,rfl,?_,k _ (Ji a i hi)⟩;have h:w.heap[df]?=ax (.deferred (ax [])):=a.at_ i hi;simp[Instr.takeDeferred,getObj,setObj,Sem.run,h]
end
end Eng
end
section
namespace Eng
open Go.RowKit
def eqSh (P:Program):List Field->Option (List (Nat×Bool))
|[]=>ax []
|f::fs=>
  if f.name=="_" then aw
  else match P.underlying f.type with
  |some (.int _)=>(eqSh P fs).map ((f.offset,au)::·)
  |some .string=>(eqSh P fs).map ((f.offset,av)::·)
  |_=>aw
def R6:Bool->Option aq->Option aq->Bool
|false,ax (.int k _),ax (.int k' _)=>ai (k=k')
|true,ax (.string _),ax (.string _)=>av
|_,_,_=>au
def KD:Option aq->Option aq->Bool
|some (.int _ a),ax (.int _ b)=>a==b
|some (.string a),ax (.string b)=>a.toList==b.toList
|_,_=>au
section
variable {P:Program}{w:ao}{PK:PKT}{K:VWP}
theorem I7 (d:Nat)(xs ys:Array aq):∀(fs:List Field) (sh:List (Nat×Bool)),eqSh P fs=ax sh->(sh.all λp=>R6 p.2 xs[p.1]? ys[p.1]?)=av ->
  (Op.eqFields (d+1) xs ys fs).run P w=.ok (sh.all λp=>KD xs[p.1]? ys[p.1]?) w
|[],sh,h,_=>by
  cases h;simp[Op.eqFields]
|f::fs,sh,h,hok=>by
  rw[eqSh] at h;split at h
  ·cases h
  ·rename_i hn
   have hn':f.name≠"_":=by simpa using hn
   split at h
   ·rename_i k hu
    obtain⟨sh',h',rfl⟩:=avM.1 h;simp only[azZ,atZ] at hok;obtain⟨h0,hok⟩:=hok;have ih:=I7 d xs ys fs sh' h' hok;cases hx:xs[f.offset]? with
   |none=>rw[hx] at h0;cases h0
   |some a=>
     cases hy:ys[f.offset]? with
    |none=>rw[hx,hy] at h0;cases a<;>cases h0
    |some b=>
      rw[hx,hy] at h0;cases a<;>cases b<;>first|(cases h0;done)|skip
      rename_i k1 a k2 b
      simp only[R6,auP] at h0;subst h0;simp only[Op.eqFields,hn',ne_eq,avD,if_true,Sem.run_bind,part,isAgg,run_underlying hu,Result.andThen_ok,Sem.run_pure,axI,if_false,hx,hy,run_equalIn_int w d f.type k1 k a b hu,azZ,KD];cases hab:(a==b)
      ·simp
      ·simp[ih];rfl
   ·rename_i hu
    obtain⟨sh',h',rfl⟩:=avM.1 h;simp only[azZ,atZ] at hok;obtain⟨h0,hok⟩:=hok;have ih:=I7 d xs ys fs sh' h' hok;cases hx:xs[f.offset]? with
   |none=>rw[hx] at h0;cases h0
   |some a=>
     cases hy:ys[f.offset]? with
    |none=>rw[hx,hy] at h0;cases a<;>cases h0
    |some b=>
      rw[hx,hy] at h0;cases a<;>cases b<;>first|(cases h0;done)|skip
      rename_i a b
      simp only[Op.eqFields,hn',ne_eq,avD,if_true,Sem.run_bind,part,isAgg,run_underlying hu,Result.andThen_ok,Sem.run_pure,axI,if_false,hx,hy,run_equalIn_string w d f.type a b hu,azZ,KD];cases hab:(a.toList==b.toList)
      ·simp
      ·simp[ih];rfl
   ·cases h
def eqT (P:Program)(T:TypeId)(sh:List (Nat×Bool)):Prop:=
 P.underlying T=ax (.struct (P.fieldsOf T))∧P.stoodInHeld T=au∧P.eqGuardType P.depth T=au∧eqSh P (P.fieldsOf T).toList=ax sh
theorem QM {T:TypeId}{sh:List (Nat×Bool)}(h:eqT P T sh){xs a:Array aq}(b:(sh.all λp=>R6 p.2 xs[p.1]? a[p.1]?)=av) :
  (mEq .eql T xo yo (.agg xs) (.agg a)).run P w=.ok (.value (.bool (sh.all λp=>KD xs[p.1]? a[p.1]?))) w:=by
 obtain⟨c,d,e,f⟩:=h;refine bQ ?_;rw[Sem.run_bind,run_eqGuard_agg w .eql T xo yo xs a e];simp only[Result.andThen_ok];rw[run_eql_struct,run_equalIn_struct w 9999 T xs a c d,I7 9998 xs a _ sh f b];rfl
theorem QN {T:TypeId}{sh:List (Nat×Bool)}(h:eqT P T sh){xs a:Array aq}(b:(sh.all λp=>R6 p.2 xs[p.1]? a[p.1]?)=av) :
  (mEq .neq T xo yo (.agg xs) (.agg a)).run P w=.ok (.value (.bool (!(sh.all λp=>KD xs[p.1]? a[p.1]?)))) w:=by
 obtain⟨c,d,e,f⟩:=h;refine bQ ?_;rw[Sem.run_bind,run_eqGuard_agg w .neq T xo yo xs a e];simp only[Result.andThen_ok];rw[run_neq_struct,run_equalIn_struct w 9999 T xs a c d,I7 9998 xs a _ sh f b];rfl
end
end Eng
end
section
namespace Eng
open Go.RowKit
section
variable {P:Program}{C:ao->Prop}{K:aq->Prop}
theorem ajY {E:(aq->Prop)->Prop}:GQ (.bool av) av E K=E K:=propext ⟨λx=>x.out,λx=>⟨x⟩⟩
theorem aqH {E:(aq->Prop)->Prop}:GQ (.bool au) av E K=K undef:=propext ⟨λx=>x.out,λx=>⟨x⟩⟩
theorem Ld {E:(aq->Prop)->Prop}:GQ (.bool au) au E K=E K:=propext ⟨λx=>x.out,λx=>⟨x⟩⟩
theorem apE {E:(aq->Prop)->Prop}:GQ (.bool av) au E K=K undef:=propext ⟨λx=>x.out,λx=>⟨x⟩⟩
theorem XS {want:Bool}{E:(aq->Prop)->Prop}:GQ undef want E K=K undef:=propext ⟨λx=>x.out,λx=>⟨x⟩⟩
def gq:=And.intro @ajY (And.intro @aqH (And.intro @Ld (And.intro @apE @XS)))
theorem nF {T:TypeId}{k:IntKind}{b:Int}(h:K (.int k (k.wrap (a+b)))):QDo P C (iA .add T (.int k a) (.int k b)) K:=gr _ (λ_=>OS) h
theorem Iq {T:TypeId}{k:IntKind}{b:Int}(h:K (.bool (ai (a < b)))):QDo P C (iA .lss T (.int k a) (.int k b)) K:=gr _ (λ_=>bQ (by simp[binOp,Op.intCmp])) h
theorem abR {T:TypeId}{k:IntKind}{b:Int}(h:K (.bool (ai (a<=b)))):QDo P C (iA .leq T (.int k a) (.int k b)) K:=gr _ (λ_=>bQ (by simp[binOp,Op.intCmp])) h
theorem ahB {T:TypeId}{k:IntKind}{b:Int}(h:K (.bool (ai (b < a)))):QDo P C (iA .gtr T (.int k a) (.int k b)) K:=gr _ (λ_=>bQ (by simp[binOp,Op.intCmp])) h
theorem ajS {T:TypeId}{k:IntKind}{b:Int}(h:K (.bool (ai (b<=a)))):QDo P C (iA .geq T (.int k a) (.int k b)) K:=gr _ (λ_=>bQ (by simp[binOp,Op.intCmp])) h
theorem q_eq {T:TypeId}{k:IntKind}{b:Int}(h:K (.bool (ai (a=b)))):QDo P C (mEq .eql T xo yo (.int k a) (.int k b)) K:=gr _ (λ_=>bQ (by simp[eqGuard,binOp,Op.intCmp,Xc])) h
theorem Ss {c:Bool}{a b:aq}(h:K (if c then a else b)):QDo P C (cW (.bool c) a b) K:=gr _ (λ_=>by simp[cW,asBool]) h
theorem LO {a b:aq}(h:K a):QDo P C (cW (.bool av) a b) K:=Ss h
theorem Dr {a b:aq}(h:K b):QDo P C (cW (.bool au) a b) K:=Ss h
theorem Pq {T:TypeId}{cs:Array Bool}{a:List UInt8}(b:P.underlying T=ax .string)(h:K (ad (a.length:Int))):QDo P C (mB .len #[T] U cs #[ae a]) K:=gr _ (λ_=>aiX b) h
theorem p_do {m:Sem Next}(v:aq)(h:∀w,m.run P w=.ok (.value v) w)(k:K v):PDo P m K:=⟨v,h,k⟩
theorem apQ {T:TypeId}{k:IntKind}{b:Int}(c:b≠0)(h:K (.int k (k.wrap (a.tdiv b)))):QDo P C (iA .quo T (.int k a) (.int k b)) K:=gr _ (λ_=>alN c) h
theorem q_ix {T:TypeId}{k:IntKind}{i:Int}{a:List UInt8}{c:UInt8}(b:P.underlying T=ax .string)(d:0<=i)(e:a[i.toNat]?=ax c)(h:K (.int .u8 (c.toNat:Int))):QDo P C (mIx T (ae a) (.int k i)) K:=gr _ (λ_=>CP b d e) h
theorem Xm {T:TypeId}{a b:List UInt8}(h:K (.bool (ai (a≠b)))):QDo P C (mEq .neq T xo yo (ae a) (ae b)) K:=by
 refine gr _ (λ_=>bQ ?_) h;have e:(a==b)=ai (a=b):=by by_cases h:a=b<;>simp[h]
 simp[eqGuard,binOp,Op.stringOp,gN,e]
theorem aqM {T:TypeId}{a b:List UInt8}(h:K (.bool (ai (a=b)))):QDo P C (mEq .eql T xo yo (ae a) (ae b)) K:=by
 refine gr _ (λ_=>bQ ?_) h;have e:(a==b)=ai (a=b):=by by_cases h:a=b<;>simp[h]
 simp[eqGuard,binOp,Op.stringOp,gN,e]
theorem bA {S:TypeId}{k:IntKind}{n:Int}(a:(P.underlying S).isSome=av)(hd:P.underlying D=ax (.int k')):(fZ S D (.int k n)).run P w=.ok (.value (.int k' (k'.wrap n))) w:=by
 cases h:P.underlying S with
|none=>rw[h] at a;cases a
|some d=>exact bQ (by simp[convert,run_underlying h,run_underlying hd,Conv.intToInt])
theorem CO {T E:TypeId}{n:Nat}(h:P.underlying T=ax (.slice E))(b:Sl w v sz n cs):(mB .len #[T] U cb #[v]).run P w=.ok (.value (ad (n:Int))) w:=by
 obtain⟨_,a,cap,rfl,_⟩:=b;simp[mB,builtin,Builtin.len_,run_underlying h,goInt]
end
end Eng
end
section
namespace Eng
open Go.RowKit
theorem cH.perm {L':List Ent}(h:cH S w0 w L)(hp:L.Perm L'):cH S w0 w L':=
 ⟨h.grew,λe he=>h.all e (hp.mem_iff.2 he),(hp.pairwise_iff (λ{x y} a k b c=>a k c b)).1 h.apart⟩
theorem cH.front {A B C:List Ent}(h:cH S w0 w (A++(B++C))):cH S w0 w (B++(A++C)):=
 h.perm (by rw[<-atJ,<-atJ];exact List.Perm.append_right C azJ)
def Lm (L0:Loop)(a df:Nat):List Ent:=[.obj a (lp L0 .ready aw),.obj df (.deferred (ax []))]
def Seq (P:Program)(I:ao->Prop)(f:Nat)(fa ca:Array aq)(F:List Ent)(vs:List aq):Prop:=
 ∀(S:Nat->Prop) (w0 b:ao) (L0:Loop) (a df:Nat) (c:List Ent) (R:Nat->List Ent->Prop) (K:Ending->ao->Prop),
  (∀(L:List Ent) (W:ao),cH S w0 W L->I W)->cH S w0 b (Lm L0 a df++(c++F))->R 0 c ->
  (∀(k:Nat) (v:aq) (M X:List Ent) (W:ao),vs[k]?=ax v->R k M->cH S w0 W (Lm L0 a df++(M++X)) ->
   Yld P a [v] W (λr d=>(r=.bool av∧∃e,R (k+1) e∧cH S w0 d (Lm L0 a df++(e++X)))∨(r=.bool au∧K (.returned (.tuple #[])) d))) ->
  (∀(M X:List Ent) (W:ao),R vs.length M->cH S w0 W (Lm L0 a df++(M++X))->K (.returned (.tuple #[])) W) ->
  Calls P f (fa++#[.func (.yield a) #[] #[]]++ca) b K
end Eng
end
section
namespace Eng
open Go.RowKit
def Ent.urow (T:TypeId)(sz:Nat)(v:aq)(n:Nat)(xs:List aq):Ent:=
 ⟨λk=>v.ownBlock=ax k,λw=>w.ownsRow 0 T sz v n xs,λ{w w'} h k=>by
  refine⟨h.1,?_⟩;rcases h.2 with b|⟨g,cap,cur,rfl,c,a,rest⟩
  ·exact .inl b
  ·exact .inr ⟨g,cap,cur,rfl,c,(k g rfl).trans a,rest⟩,λh k d=>(World.ownsRowF.lt (World.ownsRowF_of h) k d).2⟩
section
variable {S:Nat->Prop}{P:Program}{w:ao}{PK:PKT}{K:VWP}
theorem urow_row {T:TypeId}{n:Nat}(h:(Ent.urow T sz v n xs).is w):(Ent.row T sz v n xs).is w:=World.ownsRowF_of h
theorem Sl.urow {T:TypeId}{sz:Nat}{v:aq}{n:Nat}{xs:List aq}(h:(Ent.urow T sz v n xs).is w):Sl w v sz n xs:=Sl.row (urow_row h)
theorem cH.slU (a:cH S w0 w L)(i:Nat){T:TypeId}{n:Nat}(hi:L[i]?=ax (.urow T sz v n xs)):Sl w v sz n xs:=Sl.urow (a.at_ i hi)
theorem cH.nilU (a:cH S w0 w L)(E:TypeId)(sz:Nat):cH S w0 w (.urow E sz (.slice aw 0 0) 0 []::L):=by
 refine⟨a.grew,λe he=>?_,.cons (λf c k b=>by simp[Ent.urow,Value.ownBlock] at b) a.apart⟩;rcases atL.1 he with rfl|he
 ·exact⟨⟨sm,.inl ⟨rfl,rfl⟩⟩,λk b=>by simp[Ent.urow,Value.ownBlock] at b⟩
 ·exact a.all e he
theorem cH.toU {E:TypeId}(a:cH S w0 w (.cells b cs E::L))(sz n cap:Nat)(d:cs.length=cap*sz)(g:n<=cap)(i:cap<=9223372036854775807) :
  cH S w0 w (.urow E sz (bR b 0 n cap) n (cs.take (n*sz))::L):=by
 refine⟨a.grew,λe he=>?_,?_⟩
 ·rcases atL.1 he with rfl|he
  ·refine⟨⟨by rw[atF,d,auM (auY _ g)],.inr ⟨b,cap,cs.toArray,rfl,atU _,a.at_ 0 rfl,g,by simp only[maxLen];omega,by simpa using d,sm⟩⟩,λk c=>?_⟩;simp only[Ent.urow,Value.ownBlock,axC] at c;exact (a.all (.cells b cs E) sm).2 k c.symm
  ·exact a.all e (by simp[he])
 ·refine .cons (λf h k c=>?_) (avT.1 a.apart).2;simp only[Ent.urow,Value.ownBlock,axC] at c;exact (avT.1 a.apart).1 f h k c.symm
theorem BV {T E:TypeId}{cs:Array Bool}{bytes n m:Nat}(l:P.underlying T=ax (.slice E))(he:elB P E sz bytes=av)(e:0 < sz)
  (c:w.ownsRow 0 E sz v n xs) (D:Sl w v2 sz m news) (F:∀u∈news,u.oneCell'=av) (G:(n+m)*bytes<=140737488355328) (q:n+m<=140737488355328) :
  ∃v' w',(mB .append #[T,T] U cs #[v,v2]).run P w=.ok (.value v') w'∧GC (.urow E sz v n xs) (.urow E sz v' (n+m) (xs++news)) w w':=by
 obtain⟨v',w',r,t⟩:=DS (P:=P) (U:=U) (cs:=cs) l he e (World.ownsRowF_of c) D F G q;refine⟨v',w',r,t.grew,?_,t.new⟩;obtain⟨i,z,hi,I,s,x,y⟩:=jX he;obtain⟨o,a,cap,rfl,J,K⟩:=D;have A:n+m<=maxLen:=by simp only[maxLen];omega
 cases a with
|some p=>
  have L:∀j u,news[j]?=ax u->w.cell? (p.add j)=ax u:=by
   intro j u H;have f:j < news.length:=(atT.1 H).1;have hm:0 < m:=by
    rcases awB m with h|h
    ·subst h;simp at o;rw[o] at f;simp at f
    ·exact h
   obtain⟨B,d⟩:=K p rfl;have:=B hm;obtain⟨b,off,spot⟩:=p;simp only at this d;subst this;rw[cK];exact d j u H
  obtain⟨v2,w2,M,N,O,Q⟩:=run_append_own (P:=P) w 0 T U E i z sz bytes l hi I s x y e v n xs c p m cap news o L F A G (atU _);have:(mB .append #[T,T] U cs #[v,.slice (ax p) m cap]).run P w=.ok (.value v2) w2:=by simp[mB,builtin,M]
  rw[this] at r;cases r;exact N
|none=>
  have h:=J rfl;subst h;have k:news=[]:=axL (by simpa using o);subst k;have:(mB .append #[T,T] U cs #[v,.slice aw 0 cap]).run P w=.ok (.value v) w:=by
   rcases c.2 with ⟨rfl,rfl⟩|⟨g,R,cur,rfl,_,_,C,_⟩
   ·simp[mB,builtin,Builtin.append_,run_underlying l,sizeOf,typeInfo,hi,Builtin.lenOf,Builtin.firstCells]
   ·simp[mB,builtin,Builtin.append_,run_underlying l,sizeOf,typeInfo,hi,Builtin.lenOf,Builtin.firstCells,C,storeCells]
  rw[this] at r;cases r;rw[atX];exact c
theorem bL (i:Nat){T E:TypeId}{cs:Array Bool}{bytes n m:Nat}(d:P.underlying T=ax (.slice E))(he:elB P E sz bytes=av)(a:0 < sz)
  (c:cH S w0 w L) (hi:L[i]?=ax (.urow E sz v n xs)) (e:Sl w v2 sz m news) (f:∀u∈news,u.oneCell'=av) (g:(n+m)*bytes<=140737488355328) (b:n+m<=140737488355328)
  (k:∀v' w',cH S w0 w' (L.set i (.urow E sz v' (n+m) (xs++news)))->K v' w'):DoX P (mB .append #[T,T] U cs #[v,v2]) w PK K:=by
 obtain⟨v',w',r,t⟩:=BV (cs:=cs) (U:=U) d he a (c.at_ i hi) e f g b;exact kW r (k _ _ (c.turn i hi t))
theorem qL {E:TypeId}{n:Nat}(h:(Ent.urow E sz v n xs).is w)(a:0 < n):∃g cap,v=bR g 0 n cap:=by
 rcases (show w.ownsRow 0 E sz v n xs from h).2 with ⟨_,b⟩|⟨g,cap,cur,rfl,_⟩
 ·omega
 ·exact⟨g,cap,rfl⟩
theorem HR {T:TypeId}{g off:Nat}{cur:Array aq}{E:TypeId}{u:aq}(b:u.cells=new.toArray)(c:(P.info? T).map (·.size)=ax new.length)(d:∀x∈new,x.oneCell'=av)
  (e:w.heap[g]?=ax (.cells cur E (0,0))) (f:off+new.length<=cur.size) :
  (Instr.storeAt T (af g off) u).run P w=.ok () (w.setRow g (cur.toList.take off++new++cur.toList.drop (off+new.length)).toArray):=by
 have a:=run_storeCells_at P g off E new 0 cur w e (by simpa using f) d;obtain⟨i,hi,h⟩:=avM.1 c;simp only[auU] at a;simp[Instr.storeAt,Instr.sureAddr,storeVar,b,sizeOf,typeInfo,hi,h,a]
theorem Gw (i:Nat){T E:TypeId}{g off n:Nat}{u:aq}(j:cH S w0 w L)(hi:L[i]?=ax (.urow E sz (bR g 0 n cap) n xs))
  (p:u.cells=new.toArray) (q:(P.info? T).map (·.size)=ax new.length) (r:∀x∈new,x.oneCell'=av) (z:off+new.length<=n*sz)
  (k:∀w',cH S w0 w' (L.set i (.urow E sz (bR g 0 n cap) n (xs.take off++new++xs.drop (off+new.length))))->K undef w'):DoX P (aV T (af g off) u) w PK K:=by
 have a:w.ownsRow 0 E sz (bR g 0 n cap) n xs:=j.at_ i hi;rcases a.2 with ⟨s,_⟩|⟨A,m,cur,he,t,o,c,f,d,b⟩
 ·cases s
 cases he;have hle:n*sz<=cur.size:=by rw[d];exact auY _ c
 refine D7 (JJ (HR p q r o om)) (k _ ?_);refine j.put i hi (w':=w.setRow g _) ⟨rfl,rfl,rfl,by simp[World.setRow],λk _ h=>setRow_other w g k _ (λe=>h (by simp[Ent.urow,Value.ownBlock,e]))⟩ _ ?_ (λk h=>.inl h);have v:=a.1;have y:cur.toList.length=cap*sz:=by simpa using d
 refine⟨by simp only[asY,atF,atG];omega,.inr ⟨g,cap,_,rfl,t,setRow_heap w g cur _ E (0,0) o,c,f,?_,?_⟩⟩
 ·simp only[List.size_toArray,asY,atF,atG];omega
 ·subst b;rw[axZ,auM om];simp only[atJ];rw[aAn,aAn,auG (l:=cur.toList.take off) (by simp;omega),auG (l:=new) (by simp;omega)]
  congr 2
  rw[atF,auM om,List.drop_take]
  congr 1
  omega
end
end Eng
end
end Go.Proofs.YtlipjfcbjemicaaGreatDoor

namespace Go.Proofs.YtlipjfcbjemicaaGreatDoor
variable{A S:Nat->Prop}{C:ao->Prop}{D U U2:TypeId}{K K':VWP}{L:List Eng.Ent}{L0:Loop}{P:Program}{PK PK2:PKT}{W w w' w0:ao}{a hi lo:Int}{args:Array aq}{b cap d f fuel i j sz t:Nat}{c v v1 v2 vc vk:aq}{cb:Array Bool}{cs cur new news xs:List aq}{e:Eng.Ent}{k':IntKind}{xo yo:Operand}{α β:Type}{σ:Eng.Sg}
section
open Eng Go.RowKit Go.ChangeShapes Go.WideShapes
inductive Ob where
|mk (k n g:Int) (s:List UInt8) (keys:List (List UInt8)) (kids:List Ob)
namespace Ob
def k:Ob->Int|.mk k _ _ _ _ _=>k
def n:Ob->Int|.mk _ n _ _ _ _=>n
def g:Ob->Int|.mk _ _ g _ _ _=>g
def s:Ob->List UInt8|.mk _ _ _ s _ _=>s
def keys:Ob->List (List UInt8)|.mk _ _ _ _ keys _=>keys
def kids:Ob->List Ob|.mk _ _ _ _ _ kids=>kids
 mutual
def wt:Ob->Nat
|.mk _ _ _ s keys kids=>6+s.length+Pl.tot keys+wts kids
def wts:List Ob->Nat
|[]=>0
|o::os=>wt o+wts os
end
end Ob
def SlA (A:Nat->Prop)(w:ao)(v:aq)(sz n:Nat)(cs:List aq):Prop:=Sl w v sz n cs∧(∀p l c,v=.slice (ax p) l c->0 < n->A p.block)∧∀a l c,v=.slice a l c->l<=c
 mutual
def OV (A:Nat->Prop)(w:ao):aq->Ob->Prop
|v,.mk k n g s keys kids=>∃vk vc cs,v=.agg #[ad k,ad n,ad g,ae s,vk,vc]∧SlA A w vk 1 keys.length (bF keys)∧SlA A w vc 6 kids.length cs∧OVs A w cs kids
def OVs (A:Nat->Prop)(w:ao):List aq->List Ob->Prop
|cs,[]=>cs=[]
|cs,o::os=>∃(a rest:List aq),cs=a++rest∧a.length=6∧OV A w (.agg a.toArray) o∧OVs A w rest os
end
def Kept (A:Nat->Prop)(w w':ao):Prop:=∀b,A b->w'.heap[b]?=w.heap[b]?
theorem Xn (h:Kept A w w'){p:Addr}(hp:A p.block)(a:w.cell? p=ax v):w'.cell? p=ax v:=by
 have:=h p.block hp;unfold World.cell? at a ⊢;rw[this];exact a
theorem SlA.kept {n:Nat}(h:SlA A w v sz n cs)(e:Kept A w w'):SlA A w' v sz n cs:=by
 obtain⟨⟨b,a,cap,rfl,f,g⟩,c,hC⟩:=h;refine⟨⟨b,a,cap,rfl,f,λp hp=>?_⟩,c,hC⟩;obtain⟨i,k⟩:=g p hp;refine⟨i,λj u d=>?_⟩;have l:0 < n:=by
  rcases awB n with h|h
  ·subst h;rw[awR] at b;have:=(atT.1 d).1;omega
  ·exact h
 exact Xn e (c p n cap (by rw[hp]) l) (k j u d)
 mutual
theorem OV.kept {A:Nat->Prop}{w w':ao}(a:Kept A w w'):∀(o:Ob) (v:aq),OV A w v o->OV A w' v o
|.mk k n g s keys kids,v,h=>by
  rw[OV] at h ⊢;obtain⟨vk,vc,cs,b,c,d,e⟩:=h;exact⟨vk,vc,cs,b,c.kept a,d.kept a,OVs.kept a kids cs e⟩
theorem OVs.kept {A:Nat->Prop}{w w':ao}(b:Kept A w w'):∀(os:List Ob) (cs:List aq),OVs A w cs os->OVs A w' cs os
|[],cs,h=>by rw[OVs] at h ⊢;exact h
|o::os,cs,h=>by
  rw[OVs] at h ⊢;obtain⟨a,rest,he,c,d,e⟩:=h;exact⟨a,rest,he,c,OV.kept b o _ d,OVs.kept b os rest e⟩
end
 mutual
theorem OV.mono {A B:Nat->Prop}{w:ao}(a:∀b,A b->B b):∀(o:Ob) (v:aq),OV A w v o->OV B w v o
|.mk k n g s keys kids,v,h=>by
  rw[OV] at h ⊢;obtain⟨vk,vc,cs,j,d,f,m⟩:=h;exact⟨vk,vc,cs,j,⟨d.1,λp l c e i=>a _ (d.2.1 p l c e i),d.2.2⟩,⟨f.1,λp l c e i=>a _ (f.2.1 p l c e i),f.2.2⟩,OVs.mono a kids cs m⟩
theorem OVs.mono {A B:Nat->Prop}{w:ao}(c:∀b,A b->B b):∀(os:List Ob) (cs:List aq),OVs A w cs os->OVs B w cs os
|[],cs,h=>by rw[OVs] at h ⊢;exact h
|o::os,cs,h=>by
  rw[OVs] at h ⊢;obtain⟨a,rest,he,d,e,f⟩:=h;exact⟨a,rest,he,d,OV.mono c o _ e,OVs.mono c os rest f⟩
end
theorem OVs.len {A:Nat->Prop}{w:ao}:∀(os:List Ob) (cs:List aq),OVs A w cs os->cs.length=os.length*6
|[],cs,h=>by rw[OVs] at h;subst h;rfl
|o::os,cs,h=>by
  rw[OVs] at h;obtain⟨a,rest,rfl,b,_,c⟩:=h;rw[asY,b,OVs.len os rest c,atW];omega
theorem OVs.get {A:Nat->Prop}{w:ao}:∀(os:List Ob) (cs:List aq) (i:Nat) (hi:i < os.length),OVs A w cs os->∃a:List aq,a.length=6∧OV A w (.agg a.toArray) os[i]∧∀j v,a[j]?=ax v->cs[i*6+j]?=ax v
|[],cs,i,hi,h=>by simp at hi
|o::os,cs,0,hi,h=>by
  rw[OVs] at h;obtain⟨a,rest,rfl,d,e,f⟩:=h;refine⟨a,d,e,λj v c=>?_⟩;rw[awR,atK,avK (atT.1 c).1];exact c
|o::os,cs,i+1,hi,h=>by
  rw[OVs] at h;obtain⟨a,rest,rfl,d,e,f⟩:=h;obtain⟨b,g,k,l⟩:=OVs.get os rest i (by simpa using hi) f;refine⟨b,g,k,λj v c=>?_⟩;rw[avU om,d,show (i+1)*6+j - 6=i*6+j by omega];exact l j v c
theorem OVs.nil :OVs A w [] []:=by rw[OVs]
theorem SlA.M8 {a:Addr}{len:Nat}(g:0 < sz)(i:cs.length=len*sz)(m:∀j u,cs[j]?=ax u->W.cell? (a.add j)=ax u)(o:∀b,b < W.heap.size->A b)(q:len<=cap):SlA A W (.slice (ax a) len cap) sz len cs:=by
 have plain:0 < len->a.spot=aw∧a.block < W.heap.size:=by
  intro f;have r:0 < cs.length:=by rw[i];exact Nat.mul_pos f g
  have d:=m 0 cs[0] (atI r);have s:a.add 0=a:=by simp[Addr.add]
  rw[s] at d;unfold World.cell? at d;split at d
  ·rename_i t
   have k:=dY t;split at d
   ·cases d
   ·rename_i v;exact⟨by simpa using v,k⟩
  ·cases d
 refine⟨⟨i,ax a,cap,rfl,(λh=>by cases h),λp hp=>?_⟩,λp l c e f=>?_,λa' l c e=>by injection e with _ w x;omega⟩
 ·cases hp;refine⟨λh=>(plain h).1,λj u n=>?_⟩;have f:0 < len:=by
   rcases awB len with h|h
   ·subst h;rw[awR] at i;have:=(atT.1 n).1;omega
   ·exact h
  have d:=m j u n;obtain⟨b,off,spot⟩:=a;have:=(plain f).1;simp only at this;subst this;rw[show (⟨b,off,aw⟩:Addr).add j=⟨b,off+j,aw⟩ from cK b off j] at d;exact d
 ·injection e with e _ _
  cases e;exact o _ (plain f).2
theorem SlA.nil (A:Nat->Prop)(w:ao)(sz cap:Nat):SlA A w (.slice aw 0 cap) sz 0 []:=⟨Sl.nil w sz cap,(λp l c e _=>by injection e with e _ _;cases e),λa l c e=>by injection e with _ b d;omega⟩
end
section
open Eng Go.RowKit Go.ChangeShapes Go.WideShapes
theorem vN {H:Type}:∀(a b:List (DataW H)),Rows.uptoBulkAll (a++b)=Rows.uptoBulkAll a+Rows.uptoBulkAll b
|[],b=>by simp[Rows.uptoBulkAll]
|x::a,b=>by rw[axF,Rows.uptoBulkAll,vN a b,Rows.uptoBulkAll];omega
theorem P7 {H:Type}:∀a:List ByteArray,Rows.uptoBulkAll (strs (H:=H) a)=Pl.tot (a.map (·.data.toList))
|[]=>by simp[strs,Rows.uptoBulkAll,Pl.tot]
|s::a=>by
  have:=P7 (H:=H) a;rw[show strs (H:=H) (s::a)=.lit (.string s.data.toList)::strs a from rfl,Rows.uptoBulkAll,this,Rows.uptoBulk];simp[Pl.tot]
theorem OVs.snoc {A:Nat->Prop}{w:ao}{a:List aq}{o:Ob}(c:a.length=6)(d:OV A w (.agg a.toArray) o):∀(os:List Ob) (cs:List aq),OVs A w cs os->OVs A w (cs++a) (os++[o])
|[],cs,h=>by
  rw[OVs] at h;subst h;rw[auI,auI,OVs];exact⟨a,[],sm,c,d,OVs.nil⟩
|p::os,cs,h=>by
  rw[OVs] at h;obtain⟨b,rest,rfl,e,f,g⟩:=h;rw[axF,OVs];exact⟨b,rest++a,sm,e,f,OVs.snoc c d os rest g⟩
theorem SO (o:Ob):∀os:List Ob,Ob.wts (os++[o])=Ob.wts os+o.wt
|[]=>by simp[Ob.wts]
|p::os=>by rw[axF,Ob.wts,SO o os,Ob.wts];omega
theorem Su (a:Addr)(m n:Nat):(a.add m).add n=a.add (m+n):=by
 unfold Addr.add;by_cases hm:m=0
 ·subst hm;simp
 ·by_cases b:n=0
  ·subst b;simp[hm]
  ·have:¬(m+n=0):=om
   simp[hm,b,awP]
theorem akG {α:Type}:∀{l:List α},l.length=6->∃a b c d e f,l=[a,b,c,d,e,f]
|[a,b,c,d,e,f],_=>⟨a,b,c,d,e,f,rfl⟩
section
variable {H:Type}{enc:TypeId×aq->H}{W:ao}{sp:Nat->Bool}{held:Bool}
abbrev InW (W:ao):Nat->Prop:=λb=>b < W.heap.size
theorem YB {x:DataW H×List MemPlace}(h:DataW.trod enc ah W 0 sp held fuel 22 cs=ax x) :
  ∃(v:aq) (e:List (List UInt8)),cs=[v]∧SlA (InW W) W v 1 e.length (bF e)∧Pl.tot e+1<=Rows.uptoBulk x.1:=by
 rcases open_strings atN atB krx h with ⟨rfl,rfl⟩|⟨a,len,cap,d,rfl,_,i,hm,k,rfl,c,l⟩
 ·exact⟨_,[],rfl,SlA.nil _ _ _ _,by simp[Pl.tot,Rows.uptoBulk]⟩
 ·have m:len<=d.length:=by rw[k];split<;>omega
  refine⟨_,(d.take len).map (·.data.toList),rfl,?_,?_⟩
  ·have hlen:((d.take len).map (·.data.toList)).length=len:=by simp;omega
   rw[hlen];refine SlA.M8 om (by simp[bF];omega) (λj u g=>?_) (λb n=>n) i;have f:j < len:=by
    have:=(atT.1 g).1;simp[bF] at this;omega
   rw[c j om,<-g];simp[bF,strV,avZ,f,List.getD,atI (show j < d.length by omega)]
  ·simp only[Rows.uptoBulk];rw[P7];omega
set_option maxRecDepth 100000 in
theorem abO:∀(fuel:Nat) (cs:List aq) (x:DataW H×List MemPlace),DataW.trod enc ah W 0 sp held fuel 25 cs=ax x ->
  ∃o:Ob,OV (InW W) W (.agg cs.toArray) o∧o.wt<=Rows.uptoBulk x.1∧cs.length=6:=by
 intro fuel
 induction fuel using Nat.strongRecOn with
|_ fuel Y=>
  intro cs x h;obtain⟨xs,n,rfl,rfl,N,d,p⟩:=DataW.trod_struct underlying25 h;have O:Tryz.prog.cellsOf 25=6:=krx
  rw[O] at N;have d:xs.length=6:=d;obtain⟨x0,x1,x2,x3,x4,Z,rfl⟩:=akG d;obtain⟨v0,v1,v2,v3,v4,v5,rfl⟩:=akG N;have P:=p 0 _ rfl;have Q:=p 1 _ rfl;have R:=p 2 _ rfl;have S:=p 3 _ rfl;have T:=p 4 _ rfl;have U:=p 5 _ rfl;have k0:Tryz.prog.cellsOf 3=1:=krx
  have k1:Tryz.prog.cellsOf 2=1:=krx
  have k3:Tryz.prog.cellsOf 9=1:=krx
  have k4:Tryz.prog.cellsOf 22=1:=krx
  have k5:Tryz.prog.cellsOf 23=1:=krx
  simp only[k0,k1,k3,k4,k5,auX,ayA,ayB,awQ,axW,auT] at P Q R S T U;obtain⟨k,v,rfl,_⟩:=DataW.trod_int auQ P;obtain⟨m,hm,rfl,_⟩:=DataW.trod_int underlying2 Q;obtain⟨g,z,rfl,_⟩:=DataW.trod_int auQ R;obtain⟨s,A,rfl,_⟩:=DataW.trod_string atB S;obtain⟨vk,zs,e,B,a1⟩:=YB T
  injection v with v _
  injection hm with hm _
  injection z with z _
  injection A with A _
  injection e with e _
  subst v;subst hm;subst z;subst A;subst e;have kids:∃(cs:List aq) (os:List Ob),SlA (InW W) W v5 6 os.length cs∧OVs (InW W) W cs os∧Ob.wts os+1<=Rows.uptoBulk Z.1:=by
   rcases DataW.trod_slice atO U with ⟨f,rfl⟩|⟨a,len,cap,elems,rest,n',rfl,f,rfl,_,C,a6,D,q,_,_⟩
   ·injection f with f _
    subst f;exact⟨[],[],SlA.nil _ _ _ _,OVs.nil,by simp[Ob.wts,Rows.uptoBulk]⟩
   ·injection f with f _
    subst f;rw[O] at q;have step:∀k,k<=len->∃(cs:List aq) (os:List Ob),os.length=k∧OVs (InW W) W cs os∧(∀j u,cs[j]?=ax u->W.cell? (a.add j)=ax u)∧Ob.wts os<=Rows.uptoBulkAll ((elems.take k).map (·.1)):=by
     intro k
     induction k with
    |zero=>intro _;exact⟨[],[],rfl,OVs.nil,(λj u i=>by simp at i),by simp[Ob.wts,Rows.uptoBulkAll]⟩
    |succ k E=>
      intro v;obtain⟨cs,os,w,r,F,V⟩:=E om;have t:k < elems.length:=om
      have y:=q k om;rw[atI t,ayI] at y;obtain⟨X,G,I⟩:=y;obtain⟨o,ho,hw,J⟩:=Y n' om X _ I;have c:=OVs.len os cs r;refine⟨cs++X,os++[o],by simp[w],OVs.snoc J ho os cs r,λj u i=>?_,?_⟩
      ·rcases auC j cs.length with l|l
       ·rw[avK l] at i;exact F j u i
       ·rw[avU l] at i;have K:j - cs.length < 6:=by
         have:=(atT.1 i).1;omega
        have:=(World.cells?_some G).2.2 (j - cs.length) K;rw[<-i,<-this,Su,show k*6+(j - cs.length)=j by omega]
      ·rw[SO,auD t,auJ,vN];simp only[avC,axG,Rows.uptoBulkAll];omega
    obtain⟨cs,os,w,r,F,V⟩:=step len (atE _);have c:=OVs.len os cs r;refine⟨cs,os,?_,r,?_⟩
    ·rw[w];exact SlA.M8 om (by rw[c,w]) F (λb y=>y) C
    ·rw[<-D,auZ] at V;simp only[Rows.uptoBulk];omega
  obtain⟨cs,os,L,M,a7⟩:=kids;refine⟨.mk k m g s.data.toList zs os,?_,?_,rfl⟩
  ·rw[OV];exact⟨_,_,cs,rfl,B,L,M⟩
  ·simp only[Ob.wt,Rows.uptoBulk,avC,axG,Rows.uptoBulkAll];omega
end
end
section
namespace Eng
open Go.RowKit
structure Mem where
 A:Nat->Prop
 w:ao
 lt:∀b,A b->b < w.heap.size
def Mem.has (M:Mem)(w:ao):Prop:=∀b,M.A b->w.heap[b]?=M.w.heap[b]?
structure Mem.le (M N:Mem):Prop where
 A:∀b,M.A b->N.A b
 has:M.has N.w
def Mem.all (w:ao):Mem:=⟨λb=>b < w.heap.size,w,λ_ h=>h⟩
theorem Mem.afX (w:ao):(Mem.all w).has w:=λ_ _=>rfl
theorem Mem.le_refl (M:Mem):M.le M:=⟨λ_ h=>h,λ_ _=>rfl⟩
theorem Mem.le_trans {M N O:Mem}(h:M.le N)(k:N.le O):M.le O:=⟨λb a=>k.A b (h.A b a),λb a=>(k.has b (h.A b a)).trans (h.has b a)⟩
theorem Mem.DM {M N:Mem}(h:M.le N)(k:N.has w):M.has w:=λb a=>(k b (h.A b a)).trans (h.has b a)
theorem Mem.bd {M:Mem}(h:M.has w)(a:M.A b):b < w.heap.size:=by
 have c:=h b a;rw[Array.getElem?_eq_getElem (M.lt b a)] at c;exact dY c
theorem Mem.KR {M:Mem}(h:M.has w)(k:Below w.heap.size w w'):M.has w':=λb a=>(k.block b (Mem.bd h a)).trans (h b a)
def Ent.mem (M:Mem):Ent:=⟨M.A,M.has,λh k b a=>(k b a).trans (h b a),λh k c=>Mem.bd h c⟩
structure Gives (M:Mem) (w w':ao) (N:Mem):Prop where
 le:M.le N
 has:N.has w'
 new:∀b,N.A b->M.A b∨w.heap.size<=b
 below:Below w.heap.size w w'
def jJ (P:Program)(f:Nat)(args:Array aq)(M:Mem)(w:ao)(R:aq->Mem->Prop):Prop:=Ret P f args w (λv w'=>∃N,Gives M w w' N∧R v N)
theorem jJ.mono {P:Program}{f:Nat}{args:Array aq}{M:Mem}{w:ao}{R R':aq->Mem->Prop}(h:jJ P f args M w R)(k:∀v N,M.le N->R v N->R' v N):jJ P f args M w R':=
 Ret.mono h λv w' ⟨N,g,r⟩=>⟨N,g,k v N g.le r⟩
section
variable {S:Nat->Prop}{P:Program}{w w0:ao}{L:List Ent}{PK:PKT}{K:VWP}
theorem cH.memS {M:Mem}(h:M.has w):cH M.A w w [.mem M]:=cH.lend (e:=.mem M) h
theorem cH.hasM {M:Mem}(a:cH S w0 w L)(i:Nat)(hi:L[i]?=ax (.mem M)):M.has w:=a.at_ i hi
theorem cH.asA {M N:Mem}(a:cH S w0 w L)(i:Nat)(hi:L[i]?=ax (.mem M))(g:Gives M w w' N):cH S w0 w' (L.set i (.mem N)):=
 a.turn i hi ⟨My g.below,g.has,g.new⟩
theorem cH.aiU {c N:Mem}(a:cH c.A w w' L)(i:Nat)(hi:L[i]?=ax (.mem N))(hle:c.le N)(e:c.has w):Gives c w w' N:=by
 have hm:=a.all (.mem N) (awV hi);refine⟨hle,hm.1,λb f=>hm.2 b f,a.grew.os,a.grew.tape,a.grew.output,a.grew.size,λk g=>?_⟩;by_cases d:c.A k
 ·rw[e k d];have h:w'.heap[k]?=N.w.heap[k]?:=hm.1 k (hle.A k d);rw[h];exact hle.has k d
 ·exact a.grew.block k g d
theorem aU {M:Mem}{R:aq->Mem->Prop}(a:M.has w)
  (h:∀K:Ending->ao->Prop,(∀(v:aq) (w':ao) (N:Mem) (L:List Ent) (i:Nat),cH M.A w w' L->L[i]?=ax (.mem N)->M.le N->R v N->K (.returned v) w')->Calls P f args w K):jJ P f args M w R:=
 aL λK b=>h K λv w' N L i c hi hle d=>b v w' ⟨N,c.aiU i hi hle a,d⟩
theorem bG {M:Mem}{R:aq->Mem->Prop}(a:cH S w0 w L)(i:Nat)(hi:L[i]?=ax (.mem M))(h:jJ P f args M w R)
  (k:∀v N w',M.le N->R v N->cH S w0 w' (L.set i (.mem N))->K v w'):dZ P f args w PK K:=
 C5 h λv w' ⟨N,g,r⟩=>k v N w' g.le r (a.asA i hi g)
theorem cH.freeze {M:Mem}(m:cH S w0 w (e::L))(i:Nat)(hi:L[i]?=ax (.mem M)) :
  ∃N:Mem,M.le N∧N.w=w∧(∀b,e.blk b->N.A b)∧cH S w0 w (L.set i (.mem N)):=by
 have he:=m.all e sm;have t:M.has w:=m.at_ (i+1) (by simpa using hi);have p:∀b,M.A b∨e.blk b->b < w.heap.size:=λb d=>d.elim (λh=>Mem.bd t h) (λh=>e.lt he.1 b h)
 let N:Mem:=⟨λb=>M.A b∨e.blk b,w,p⟩
 have q:i < L.length:=(atT.1 hi).1;have n:L[i]=.mem M:=(atT.1 hi).2;obtain⟨u,a2⟩:=avT.1 m.apart;have hp:=axX.1 a2;have v:∀k,M.A k->(L[i]).blk k:=λk c=>by rw[n];exact c
 refine⟨N,⟨λb d=>.inl d,t⟩,rfl,λb d=>.inr d,m.grew,?_,?_⟩
 ·intro f y;obtain⟨j,x,rfl⟩:=awK y;rw[avS] at x;rw[azG];split
  ·refine⟨λb _=>rfl,λk c=>?_⟩;rcases c with c|c
   ·exact (m.all (.mem M) (by rw[<-n];exact auE _ (atP q))).2 k c
   ·exact he.2 k c
  ·exact m.all _ (auE _ (atP x))
 ·rw[axX];intro a b o d l k c;rw[avS] at o d;rw[azG] at c;rw[azG];split at c
  ·rename_i r
   subst r;rw[asT om];rcases c with c|c
   ·exact hp i b o d l k (v k c)
   ·exact u _ (atP d) k c
  ·split
   ·rename_i s
    subst s;intro g;rcases g with g|g
    ·exact hp a i o d l k c (v k g)
    ·exact u _ (atP o) k g c
   ·exact hp a b o d l k c
end
end Eng
open Eng Go.RowKit
theorem SlA.le {M N:Mem}(h:M.le N){v:aq}{sz n:Nat}{cs:List aq}(a:SlA M.A M.w v sz n cs):SlA N.A N.w v sz n cs:=by
 have:=a.kept (w':=N.w) h.has;exact⟨this.1,(λp l c e b=>h.A _ (this.2.1 p l c e b)),this.2.2⟩
theorem SlA.now {M:Mem}(h:M.has w){n:Nat}(a:SlA M.A M.w v sz n cs):Sl w v sz n cs:=(a.kept (w':=w) h).1
theorem OV.le {M N:Mem}(h:M.le N){v:aq}{o:Ob}(a:OV M.A M.w v o):OV N.A N.w v o:=OV.mono h.A o v (OV.kept h.has o v a)
theorem OVs.le {M N:Mem}(h:M.le N){cs:List aq}{os:List Ob}(a:OVs M.A M.w cs os):OVs N.A N.w cs os:=OVs.mono h.A os cs (OVs.kept h.has os cs a)
theorem OV.inw {M:Mem}(h:M.has w){o:Ob}(a:OV M.A M.w v o):OV (InW w) w v o:=OV.mono (λb c=>Mem.bd h c) o v (OV.kept h o v a)
end
section
namespace Eng
open Go.RowKit
section
variable {S:Nat->Prop}{P:Program}{w w0:ao}{L:List Ent}{PK:PKT}{K:VWP}
theorem acI {T E:TypeId}{a:Option Addr}{n c b d:Nat}(h:P.underlying T=ax (.slice E)):DoX P (mEq .eql T xo yo (.slice a n c) (.slice aw b d)) w PK K=K (.bool a.isNone) w:=by
 refine fT ?_;simp[eqGuard,Lib.run_eql_slice_nil w T E a n c b d h]
theorem amN {T E:TypeId}{a:Option Addr}{n c b d:Nat}(h:P.underlying T=ax (.slice E)):DoX P (mEq .neq T xo yo (.slice a n c) (.slice aw b d)) w PK K=K (.bool (!a.isNone)) w:=by
 refine fT ?_;have:=Lib.run_equalIn_slice_nil (P:=P) w 9999 T E a n c b d h;simp[eqGuard,binOp,Op.equal,Op.maxDepth,this]
def wF (a:Option Addr)(l cap sz:Nat):Option Addr:=if cap=l then a else a.map (·.add (l*sz))
theorem fR {off l:Nat}(h:l < cap):wF (ax ⟨b,off,aw⟩) l cap sz=ax ⟨b,off+l*sz,aw⟩:=by
 unfold wF;rw[asT om,ayO,cK]
theorem Hz {a:Addr}:wF (ax ⟨a.block,a.off,aw⟩) 0 cap sz=ax ⟨a.block,a.off,aw⟩:=by
 unfold wF;split
 ·rfl
 ·rw[ayO,cK,awR,auU]
theorem dD {T E:TypeId}{k:IntKind}{a:Option Addr}{n:Nat}(h:P.underlying T=ax (.slice E))(b:(P.info? E).map (·.size)=ax sz)(d:0<=lo)(e:lo<=n) :
  (cT T (.slice a n cap) (ax (.int k lo)) aw aw).run P w=.ok (.value (.slice (wF a lo.toNat cap sz) (n - lo.toNat) (cap - lo.toNat))) w:=by
 obtain⟨i,hi,f⟩:=avM.1 b;have he:P.elem T=E:=by simp[Program.elem,h]
 have c:P.underlying T=ax (.slice (P.elem T)):=by rw[he];exact h
 refine bQ ?_;rw[run_sliceAt_slice w T _ _ _ _ c,run_slice_l w T a n cap c k lo d e];simp[sizeOf,typeInfo,he,hi,f,sliced,wF]
theorem iW {T E:TypeId}{k:IntKind}{a:Option Addr}{n:Nat}(h:P.underlying T=ax (.slice E))(b:(P.info? E).map (·.size)=ax sz)(e:0<=hi)(f:hi<=cap) :
  (cT T (.slice a n cap) aw (ax (.int k hi)) aw).run P w=.ok (.value (.slice (wF a 0 cap sz) hi.toNat cap)) w:=by
 obtain⟨i,c,g⟩:=avM.1 b;have he:P.elem T=E:=by simp[Program.elem,h]
 have d:P.underlying T=ax (.slice (P.elem T)):=by rw[he];exact h
 refine bQ ?_;rw[run_sliceAt_slice w T _ _ _ _ d,run_slice_h w T a n cap d k hi e f];simp[sizeOf,typeInfo,he,c,g,sliced,wF]
theorem Qc {T E:TypeId}{k:IntKind}{a:Option Addr}{n:Nat}(h:P.underlying T=ax (.slice E))(b:(P.info? E).map (·.size)=ax sz)(e:0<=lo)(f:lo<=hi)(g:hi<=cap) :
  (cT T (.slice a n cap) (ax (.int k lo)) (ax (.int k' hi)) aw).run P w=.ok (.value (.slice (wF a lo.toNat cap sz) (hi.toNat - lo.toNat) (cap - lo.toNat))) w:=by
 obtain⟨i,c,j⟩:=avM.1 b;have he:P.elem T=E:=by simp[Program.elem,h]
 have d:P.underlying T=ax (.slice (P.elem T)):=by rw[he];exact h
 refine bQ ?_;rw[run_sliceAt_slice w T _ _ _ _ d,run_slice_lh w T a n cap d k k' lo hi e f g];simp[sizeOf,typeInfo,he,c,j,sliced,wF]
theorem GV {T E:TypeId}{k d:IntKind}{a:Option Addr}{n:Nat}{m:Int}(h:P.underlying T=ax (.slice E))(b:(P.info? E).map (·.size)=ax sz)(f:0<=lo)(g:lo<=hi)(j:hi<=m)(l:m<=cap) :
  (cT T (.slice a n cap) (ax (.int k lo)) (ax (.int k' hi)) (ax (.int d m))).run P w=.ok (.value (.slice (wF a lo.toNat m.toNat sz) (hi.toNat - lo.toNat) (m.toNat - lo.toNat))) w:=by
 obtain⟨i,c,o⟩:=avM.1 b;have he:P.elem T=E:=by simp[Program.elem,h]
 have e:P.underlying T=ax (.slice (P.elem T)):=by rw[he];exact h
 refine bQ ?_;rw[run_sliceAt_slice w T _ _ _ _ e,run_slice_lhm w T a n cap e k k' d lo hi m f g j l];simp[sizeOf,typeInfo,he,c,o,sliced,wF]
theorem CI {T E:TypeId}{a:Option Addr}{n:Nat}(h:P.underlying T=ax (.slice E)):(mB .len #[T] U cb #[.slice a n cap]).run P w=.ok (.value (.int .i64 (n:Int))) w:=by
 simp[mB,builtin,Builtin.len_,run_underlying h,goInt]
theorem TX {T E:TypeId}{a:Option Addr}{n:Nat}(h:P.underlying T=ax (.slice E)):DoX P (mB .cap #[T] U cb #[.slice a n cap]) w PK K=K (.int .i64 (cap:Int)) w:=by
 refine aC ?_;simp[mB,builtin,Builtin.cap_,run_underlying h,goInt]
theorem RF {T E:TypeId}{bytes n:Nat}{d e:IntKind}(j:P.underlying T=ax (.slice E))(he:elB P E sz bytes=av)(p:bytes*n<=281474976710656)(q:n<=281474976710656)(l:cH S w0 w L)
  (k:∀(g:Nat) (w':ao) (f:List aq),f.length=n*sz->cH S w0 w' (.cells g f E::L)->K (.slice (ax ⟨g,0,aw⟩) n n) w'):DoX P (ID T (.int d (n:Int)) (.int e (n:Int))) w PK K:=by
 obtain⟨i,z,hi,m,a,b,o⟩:=jX he;have c:(i.bytes:Int)*(n:Int)<=281474976710656:=by rw[b,<-Int.natCast_mul];omega
 have h:=run_make (P:=P) w T E i z j hi m d e n n om om c om;rw[atC] at h;refine kW (bQ h) (k _ _ (madeCells z.cells (n*i.size)).toList ?_ ?_)
 ·rw[Array.length_toList,size_madeCells,a]
 ·have:=l.alloc (madeCells z.cells (n*i.size)).toList E
  rwa [aAD] at this
theorem K2 {dT sT ty T E:TypeId}{g o dLen dCap:Nat}{a:Addr}{sLen sCap:Nat}{src:List aq}(hu:P.underlying dT=ax (.slice E))(e:(P.info? E).map (·.size)=ax sz)
  (h:w.heap[g]?=ax (.cells cur.toArray T (0,0))) (k:src.length=Nat.min sLen dLen*sz) (b:∀j v,src[j]?=ax v->w.cell? (a.add j)=ax v) (c:o+src.length<=cur.length) (l:∀v∈src,v.oneCell'=av) :
  (mB .copy #[dT,sT] ty cb #[.slice (ax ⟨g,o,aw⟩) dLen dCap,.slice (ax a) sLen sCap]).run P w=.ok (.value (goInt (Nat.min sLen dLen))) (w.setRow g (cur.take o++src++cur.drop (o+src.length)).toArray):=by
 have f:=run_loadCells_list (P:=P) w a src b;have d:=run_storeCells_at P g o T src 0 cur.toArray w h (by simpa using c) l;obtain⟨i,hi,m⟩:=avM.1 e;rw[k] at f;simp only[auU] at d;simp[mB,builtin,Builtin.copy_,run_underlying hu,Builtin.lenOf,Builtin.firstCells,sizeOf,typeInfo,hi,m,f,d]
theorem xM (i:Nat){dT sT ty T E:TypeId}{g o dLen dCap:Nat}{a:Addr}{sLen sCap:Nat}{src:List aq}(hu:P.underlying dT=ax (.slice E))(d:(P.info? E).map (·.size)=ax sz)
  (e:cH S w0 w L) (hi:L[i]?=ax (.cells g cur T)) (f:src.length=min sLen dLen*sz) (b:∀j v,src[j]?=ax v->w.cell? (a.add j)=ax v) (c:o+src.length<=cur.length) (h:∀v∈src,v.oneCell'=av)
  (k:∀v' w',cH S w0 w' (L.set i (.cells g (cur.take o++src++cur.drop (o+src.length)) T))->K v' w') :
  DoX P (mB .copy #[dT,sT] ty cb #[.slice (ax ⟨g,o,aw⟩) dLen dCap,.slice (ax a) sLen sCap]) w PK K:=
 kW (K2 hu d (e.at_ i hi) f b c h) (k _ _ (iX e i hi _))
theorem Xu {T o E:TypeId}{B p:IntKind}{g n m bytes:Nat}{olds:List aq}(D:P.underlying T=ax (.slice E))(q:P.underlying o=ax (.int B))(he:elB P E sz bytes=av)(F:0 < sz)
  (G:cH S w0 w L) (r:olds.length=n*sz) (hold:∀j u,olds[j]?=ax u->w.cell? ⟨g,0+j,aw⟩=ax u) (H:0 < m) (C:cap < n+m) (I:(n+m)*bytes<=140737488355328) (J:n+m<=140737488355328)
  (k:∀(b c:Nat) (a:List aq) (w':ao),n+m<=c->c<=9223372036854775807->a.length+n*sz=c*sz->cH S w0 w' (.cells b (olds++a) E::L)->K (.slice (ax ⟨b,0,aw⟩) (n+m) c) w') :
  DoX P (mB .append #[T,o] U cb #[.slice (ax ⟨g,0,aw⟩) n cap,.int p (m:Int)]) w PK K:=by
 obtain⟨i,z,hi,M,s,f,t⟩:=jX he;have d:(Builtin.firstCells i.size n (.slice (ax ⟨g,0,aw⟩) n cap)).run P w.drew=.ok olds.toArray w.drew:=by
  have N:=run_loadCells_list (P:=P) w.drew ⟨g,0,aw⟩ olds (λj v O=>by rw[cK];exact hold j v O);simp only[Builtin.firstCells,s,<-r];exact N
 have y:=grownCap_ge w (n+m) cap E;have hle:=grownCap_le_maxLen w (n+m) cap E (by simp only[maxLen];omega);have Q:=Lib.run_append_grow_zeros (P:=P) w T o U E i z p B D q hi M (ax ⟨g,0,aw⟩) n cap olds d m H om C om (by
   rw[f];have:m*bytes<=(n+m)*bytes:=auY _ om;omega) (by rw[f];exact growslice_fits C I)
 have h:∀x,(Builtin.zeroCells z.cells x).toList.length=x*sz:=by intro x;simp[Builtin.zeroCells,t]
 obtain⟨a,l⟩:∃a,a=(Builtin.zeroCells z.cells m).toList++(Builtin.zeroCells z.cells (grownCap w (n+m) cap E - (n+m))).toList:=⟨_,rfl⟩;have hlen:a.length+n*sz=grownCap w (n+m) cap E*sz:=by
  rw[l,asY,h,h,<-awA,<-awA]
  congr 1
  omega
 have key:=(G.drew).alloc (olds++a) E;have e:(olds++a).toArray=olds.toArray++Builtin.zeroCells z.cells m++Builtin.zeroCells z.cells (grownCap w (n+m) cap E - (n+m)):=by
  rw[l];simp
 have A:(mB .append #[T,o] U cb #[.slice (ax ⟨g,0,aw⟩) n cap,.int p (m:Int)]).run P w=.ok (.value (.slice (ax ⟨w.heap.size,0,aw⟩) (n+m) (grownCap w (n+m) cap E))) (w.drew.alloc (.cells (olds++a).toArray E)):=by
  rw[e];simp[mB,builtin,Q]
 exact kW A (k w.heap.size _ a _ y (by simp only[maxLen] at hle;exact hle) hlen key)
theorem LJ (i:Nat){T E:TypeId}{g n m c bytes:Nat}{a:Addr}(q:P.underlying T=ax (.slice E))(he:elB P E sz bytes=av)
  (o:cH S w0 w L) (hi:L[i]?=ax (.cells g cur E)) (r:news.length=m*sz) (b:∀j u,news[j]?=ax u->w.cell? (a.add j)=ax u) (s:∀u∈news,u.oneCell'=av) (d:n+m<=cap) (f:n*sz+news.length<=cur.length)
  (k:∀w',cH S w0 w' (L.set i (.cells g (cur.take (n*sz)++news++cur.drop (n*sz+news.length)) E))->K (.slice (ax ⟨g,0,aw⟩) (n+m) cap) w') :
  DoX P (mB .append #[T,T] U cb #[.slice (ax ⟨g,0,aw⟩) n cap,.slice (ax a) m c]) w PK K:=by
 obtain⟨ii,z,h,y,e,t,v⟩:=jX he;have x:w.heap[g]?=ax (.cells cur.toArray E (0,0)):=o.at_ i hi;have p:=run_append_roomF (P:=P) w T U E ii q h g n cap cur.toArray (0,0) x (atU _) a m c news (by rw[e];exact r) b s d (by rw[e];simpa using f);rw[e] at p;have l:(mB .append #[T,T] U cb #[.slice (ax ⟨g,0,aw⟩) n cap,.slice (ax a) m c]).run P w=.ok (.value (.slice (ax ⟨g,0,aw⟩) (n+m) cap)) (w.setRow g (cur.take (n*sz)++news++cur.drop (n*sz+news.length)).toArray):=by
  simp[mB,builtin,p]
 exact kW l (k _ (iX o i hi _))
def zB (P:Program)(E:TypeId):Bool:=
 match P.info? E with
|some i=>match i.zero with
 |some z=>z.cells.toList.all (·.oneCell')
 |none=>au
|none=>au
theorem TD (i:Nat){T E:TypeId}{g o n c bytes:Nat}(B:P.underlying T=ax (.slice E))(he:elB P E sz bytes=av)(p:zB P E=av)(G:0 < n)
  (u:cH S w0 w L) (hi:L[i]?=ax (.cells g cur E)) (b:o+n*sz<=cur.length)
  (k:∀v' w' v,v.length=n*sz->cH S w0 w' (L.set i (.cells g (cur.take o++v++cur.drop (o+n*sz)) E))->K v' w') :
  DoX P (mB .clear #[T] U cb #[.slice (ax ⟨g,o,aw⟩) n c]) w PK K:=by
 obtain⟨ii,z,d,e,C,D,q⟩:=jX he;have F:w.heap[g]?=ax (.cells cur.toArray E (0,0)):=u.at_ i hi;have f:∀x∈z.cells.toList,x.oneCell'=true:=by
  unfold zB at p;rw[d] at p;simp only[e] at p;exact avY.1 p
 have a:(Builtin.zeroCells z.cells n).toList.length=n*sz:=by simp[Builtin.zeroCells,q]
 have r:∀x∈(Builtin.zeroCells z.cells n).toList,x.oneCell'=true:=by
  intro x y;simp only[Builtin.zeroCells,Array.toList_map,auH,Array.toList_range,avG] at y;obtain⟨j,A,rfl⟩:=y;have s:j % z.cells.size < z.cells.size:=awC _ (by
   rcases awB z.cells.size with h|h
   ·rw[h] at A;simp at A
   ·exact h)
  rw[getElem!_pos z.cells (j % z.cells.size) s];exact f _ sm
 have l:=run_storeCells_at P g o E (Builtin.zeroCells z.cells n).toList 0 cur.toArray w F (by rw[a];simpa using b) r;simp only[auU] at l;obtain⟨m,rfl⟩:∃m,n=m+1:=⟨n - 1,om⟩;have t:(mB .clear #[T] U cb #[.slice (ax ⟨g,o,aw⟩) (m+1) c]).run P w=.ok (.value (.tuple #[])) (w.setRow g (cur.take o++(Builtin.zeroCells z.cells (m+1)).toList++cur.drop (o+(m+1)*sz)).toArray):=by
  simp[mB,builtin,Builtin.clear_,run_underlying B,zeroValue,typeInfo,d,e,l];rw[<-a];simp
 exact kW t (k _ _ _ a (iX u i hi _))
theorem ahF {a:List aq}{off:Nat}(h:(cs.drop off).take a.length=a)(b:a[j]?=ax v):cs[off+j]?=ax v:=by
 rw[<-h] at b;rw[avZ] at b;split at b
 ·rwa [awJ] at b
 ·cases b
theorem cH.amG (d:cH S w0 w L)(i:Nat){E T:TypeId}(hi:L[i]?=ax (.cells b cs E))(off:Nat)(a:List aq)(c:(cs.drop off).take a.length=a)(e:I2 P T=ax a.length):AtV P w T ⟨b,off,aw⟩ (.agg a.toArray):=
 AtV.agg e rfl λj v f=>d.cell i hi (off+j) (ahF c f)
theorem GD (i:Nat){T:TypeId}{off:Nat}{E:TypeId}(a:cH S w0 w L)(hi:L[i]?=ax (.cells b cs E))(c:(P.info? T).map (·.size)=ax new.length)(d:∀v∈new,v.oneCell'=av)(f:off+new.length<=cs.length)
  (k:∀w',cH S w0 w' (L.set i (.cells b (cs.take off++new++cs.drop (off+new.length)) E))->K undef w'):DoX P (aV T (.pointer (ax ⟨b,off,aw⟩)) (.agg new.toArray)) w PK K:=by
 have h:=HR (P:=P) (T:=T) (g:=b) (off:=off) (cur:=cs.toArray) (E:=E) (u:=.agg new.toArray) (new:=new) rfl c d (a.at_ i hi) (by simpa using f);refine D7 (JJ h) (k _ ?_);have e:(cs.toArray.toList.take off++new++cs.toArray.toList.drop (off+new.length)).toArray=(cs.take off++new++cs.drop (off+new.length)).toArray:=sm
 rw[e];exact iX a i hi _
theorem Y4 {M N:Mem}{T:TypeId}{n:Nat}(hw:N.w=w)(f:∀b,(Ent.urow T sz v n xs).blk b->N.A b)(h:(Ent.urow T sz v n xs).is w):SlA N.A N.w v sz n xs:=by
 rw[hw];refine⟨Sl.urow h,λp l c e o=>f _ ?_,λa l c e=>?_⟩
 ·rcases (show w.ownsRow 0 T sz v n xs from h).2 with ⟨rfl,i⟩|⟨g,cap,cur,rfl,_⟩
  ·cases e
  ·injection e with d _ _
   injection d with d
   rw[<-d];rfl
 ·rcases (show w.ownsRow 0 T sz v n xs from h).2 with ⟨rfl,i⟩|⟨g,cap,cur,rfl,_,_,j,_⟩
  ·injection e with _ k m;omega
  ·injection e with _ k m;omega
theorem cH.bV {M:Mem}{T:TypeId}{n:Nat}(a:cH S w0 w (.urow T sz v n xs::L))(i:Nat)(hi:L[i]?=ax (.mem M)) :
  ∃N:Mem,M.le N∧SlA N.A N.w v sz n xs∧cH S w0 w (L.set i (.mem N)):=by
 have h:=a.at_ 0 rfl;obtain⟨N,b,c,d,e⟩:=a.freeze i hi;exact⟨N,b,Y4 (M:=M) c d h,e⟩
end
end Eng
end
section
namespace Eng
open Go.RowKit
def yV (k:List UInt8):Value:=.string ⟨k.toArray⟩
def Vi (w:ao)(b:Nat)(a:List (List UInt8×aq)):Prop:=∃es clock,w.heap[b]?=ax (.map es clock)∧es.toList.map (λe=>(e.key,e.val))=a.map λp=>(yV p.1,p.2)
def Ent.map (b:Nat)(d:List (List UInt8×aq)):Ent:=⟨λk=>k=b,λw=>Vi w b d,λ{w w'} h k=>by
  obtain⟨es,clock,a,c⟩:=h;exact⟨es,clock,(k b rfl).trans a,c⟩,λh k e=>by
  obtain⟨es,clock,a,c⟩:=h;cases e;exact dY a⟩
def vP (a:List (List UInt8×aq))(k:List UInt8):Option Value:=(a.find? λp=>ai (p.1=k)).map (·.2)
theorem Kf (k:List UInt8):∀(es:List MapEntry) (b:List (List UInt8×aq)) (i:Nat),es.map (λe=>(e.key,e.val))=b.map (λp=>(yV p.1,p.2)) ->
  ∃r,Instr.findNow .string (yV k) es i=ax r∧r.map (·.2)=vP b k
|[],[],i,_=>⟨aw,rfl,rfl⟩
|e::es,p::b,i,h=>by
  simp only[avC,ayJ,axH] at h;obtain⟨⟨j,l⟩,m⟩:=h;have g:Instr.sameNow .string (yV k) e.key=ax (ai (k=p.1)):=by
   rw[j];show ax ((⟨k.toArray⟩:ByteArray)==⟨p.1.toArray⟩)=_
   congr 1
   show (k.toArray==p.1.toArray)=_;by_cases a:k=p.1<;>simp[a]
  by_cases a:k=p.1
  ·refine⟨ax (i,e.val),?_,?_⟩
   ·rw[Instr.findNow,g];simp[a]
   ·simp[vP,a,l]
  ·obtain⟨r,c,d⟩:=Kf k es b (i+1) m;refine⟨r,?_,?_⟩
   ·rw[Instr.findNow,g];simp[a,c]
   ·have f:¬p.1=k:=λe=>a e.symm;rw[d];simp[vP,f]
|[],_::_,_,h=>by simp at h
|_::_,[],_,h=>by simp at h
section
variable {S:Nat->Prop}{P:Program}{w w0:ao}{L:List Ent}{PK:PKT}{K:VWP}
theorem Sb {T:TypeId}(a:cH S w0 w L)(k:∀b w',cH S w0 w' (.map b []::L)->K (.map (ax b)) w'):DoX P (mMap T aw) w PK K:=by
 have c:(Instr.makeMap T aw).run P w=.ok (.map (ax w.heap.size)) (w.alloc (.map #[] 0)):=rfl;exact kW (bQ c) (k _ _ (a.add (World.grownBy_alloc w _ aw) (.map w.heap.size []) ⟨#[],0,heap_alloc_new w _,rfl⟩ (λk d=>by cases d;exact atE _)))
theorem uO {k:TypeId}{e:Bool}(a:P.underlying k=ax .string)(x:List UInt8):(Instr.checkKey e 10000 k (yV x)).run P w=.ok () w:=by
 show (Instr.checkKey e (9999+1) k (yV x)).run P w=_;rw[Instr.checkKey];simp[run_underlying a,yV]
theorem JE {k:TypeId}(b:P.underlying k=ax .string)(x:List UInt8){es:List MapEntry}{a:List (List UInt8×aq)}(h:es.map (λe=>(e.key,e.val))=a.map (λp=>(yV p.1,p.2))) :
  ∃r,(Instr.findKey k (yV x) es).run P w=.ok r w∧r.map (·.2)=vP a x:=by
 obtain⟨r,c,d⟩:=Kf x es a 0 h;refine⟨r,?_,d⟩;simp[Instr.findKey,run_underlying b,c]
theorem M5 {T k e:TypeId}{ok:Bool}{a:List (List UInt8×aq)}{z:aq}(g:P.underlying T=ax (.map k e))(c:P.underlying k=ax .string)(m:(P.info? e).bind (·.zero)=ax z)(h:Vi w b a)(x:List UInt8) :
  (WN T (.map (ax b)) (yV x) ok).run P w=.ok (.value (if ok then .tuple #[(vP a x).getD z,.bool (vP a x).isSome] else (vP a x).getD z)) w:=by
 obtain⟨es,clock,j,n⟩:=h;obtain⟨r,l,o⟩:=JE (P:=P) (w:=w) c x n;have d:(zeroValue e).run P w=.ok z w:=by
  obtain⟨i,hi,f⟩:=ayI.1 m;simp[zeroValue,typeInfo,hi,f]
 refine bQ ?_;rw[<-o];cases r with
|none=>simp[Instr.lookup,run_underlying g,getObj,Sem.run,j,uO c x,l,d]
|some p=>
  obtain⟨i,v⟩:=p;simp[Instr.lookup,run_underlying g,getObj,Sem.run,j,uO c x,l]
theorem TK (i:Nat){T k e:TypeId}{c:List (List UInt8×aq)}(l:P.underlying T=ax (.map k e))(a:P.underlying k=ax .string)(f:cH S w0 w L)(hi:L[i]?=ax (.map b c))(x:List UInt8)(v:aq)(m:vP c x=aw)
  (n:∀w',cH S w0 w' (L.set i (.map b (c++[(x,v)])))->K undef w'):DoX P (VZ T (.map (ax b)) (yV x) v) w PK K:=by
 obtain⟨es,clock,g,h⟩:=(show Vi w b c from f.at_ i hi);obtain⟨r,o,j⟩:=JE (P:=P) (w:=w) a x h;have d:r=none:=by
  cases r with
 |none=>rfl
 |some p=>rw[m] at j;cases j
 subst d;have q:(Instr.mapUpdate T (.map (ax b)) (yV x) v).run P w=.ok () { w with heap:=w.heap.setIfInBounds b (.map (es.push { key:=yV x,val:=v,born:=clock }) (clock+1)) }:=by
  simp[Instr.mapUpdate,run_underlying l,getObj,setObj,Sem.run,g,uO a x,o]
 refine D7 (JJ q) (n _ ?_);refine f.put i hi (w':={ w with heap:=w.heap.setIfInBounds b _ }) ⟨rfl,rfl,rfl,sm,λk _ a=>?_⟩ (.map b (c++[(x,v)])) ?_ (λk a=>.inl a)
 ·show (w.heap.setIfInBounds b _)[k]?=_;exact axU (λe=>a (by simp[Ent.map,e]))
 ·refine⟨es.push { key:=yV x,val:=v,born:=clock },clock+1,?_,?_⟩
  ·show (w.heap.setIfInBounds b _)[b]?=_;exact aAF (dY g)
  ·simp[h]
end
theorem Mo {a:List (List UInt8×aq)}{k:List UInt8}:vP a k=aw↔k ∉ a.map (·.1):=by
 unfold vP;rw[Option.map_eq_none_iff,aAJ];exact⟨λh hm=>by obtain⟨p,hp,rfl⟩:=auH.1 hm;simpa using h p hp,λh p hp b=>h (auH.2 ⟨p,hp,by simpa using b⟩)⟩
end Eng
end
end Go.Proofs.YtlipjfcbjemicaaGreatDoor

namespace Go.Proofs.YtlipjfcbjemicaaGreatDoor
variable{A S:Nat->Prop}{C:ao->Prop}{D U U2:TypeId}{K K':VWP}{L:List Eng.Ent}{L0:Loop}{P:Program}{PK PK2:PKT}{W w w' w0:ao}{a hi lo:Int}{args:Array aq}{b cap d f fuel i j sz t:Nat}{c v v1 v2 vc vk:aq}{cb:Array Bool}{cs cur new news xs:List aq}{e:Eng.Ent}{k':IntKind}{xo yo:Operand}{α β:Type}{σ:Eng.Sg}
section
namespace Eng
open Go.RowKit
section
variable {α:Type}{enc:α->List aq}{k:Nat}
theorem SA (a:∀x,(enc x).length=k):∀l:List α,(l.flatMap enc).length=l.length*k
|[]=>by simp
|x::l=>by rw[avE,asY,a,SA a l,atW,awM];omega
theorem OD (a:∀x,(enc x).length=k):∀(l:List α) (j:Nat),(l.flatMap enc).drop (j*k)=(l.drop j).flatMap enc
|[],j=>by simp
|x::l,0=>by simp
|x::l,j+1=>by
  rw[avE,ayA,awM,axT,axP,a,auW (by rw[a];omega),azK,OD a l j,auI]
theorem CG (a:∀x,(enc x).length=k){l:List α}(b:j < l.length)(h:(enc l[j])[i]?=ax v):(l.flatMap enc)[j*k+i]?=ax v:=by
 have c:((l.flatMap enc).drop (j*k))[i]?=ax v:=by
  rw[OD a,auL b,avE,avK (atT.1 h).1];exact h
 rwa [awJ] at c
theorem Z1 (a:∀x,∀v∈enc x,v.oneCell'=av){l:List α}:∀v∈l.flatMap enc,v.oneCell'=true:=by
 intro v b;obtain⟨x,_,c⟩:=ayK.1 b;exact a x v c
abbrev Ent.recs (T:TypeId)(enc:α->List aq)(k:Nat)(v:aq)(l:List α):Ent:=.urow T k v l.length (l.flatMap enc)
variable {S:Nat->Prop}{P:Program}{w w0:ao}{L:List Ent}{PK PK2:PKT}{K:VWP}
theorem rec_row (c:∀x,(enc x).length=k){T E:TypeId}(f:P.underlying T=ax (.slice E))(n:(P.info? E).map (·.size)=ax k)(o:I2 P E=ax k)(i:Nat){l:List α}(p:cH S w0 w L)(hi:L[i]?=ax (.recs E enc k v l))(q:j < l.length) :
  ∃g cap,v=bR g 0 l.length cap∧(∀w,(mIA T v (ad (j:Int))).run P w=.ok (.value (af g (j*k))) w) ∧
   (∀w',(Ent.recs E enc k v l).is w'->(aK E (af g (j*k))).run P w'=.ok (.value (.agg (enc l[j]).toArray)) w') ∧
   ∀w',(Ent.recs E enc k v l).is w'->∀m u,(enc l[j])[m]?=ax u->w'.cell? ⟨g,j*k+m,aw⟩=ax u:=by
 obtain⟨g,cap,rfl⟩:=qL (p.at_ i hi) om;have a:∀w',(Ent.recs E enc k (bR g 0 l.length cap) l).is w'->∀m u,(enc l[j])[m]?=ax u->w'.cell? ⟨g,j*k+m,aw⟩=ax u:=by
  intro w' h m u hm;obtain⟨b,off,d,e,r⟩:=bU (Sl.urow h) om;cases e;have:=r _ _ (CG c q hm)
  rwa [atK] at this
 refine⟨g,cap,rfl,λw=>?_,λw' h=>?_,a⟩
 ·refine (dP f n om om).trans ?_;rw[atC,atK]
 ·exact bB (AtV.agg o (c _) λm u hm=>a w' h m u hm)
end
end Eng
end
section
open Eng
def iC(t0 w)(K:KT):=nz f199 1 [] [] [] (zg [0] [t0]) w K
theorem mV{t0 w K}:iC t0 w K->Calls ah 199 #[t0] w K:=cw func199
def cF(t0 w)(K:KT):=nz f200 1 [] [] [] (zg [0] [t0]) w K
theorem eH{t0 w K}:cF t0 w K->Calls ah 200 #[t0] w K:=cw func200
def gL(b a e w)(K:KT):=
 slx 22 b (ax a) aw aw w K λH w=>lnx 22 e w K λc w=>ecx .eql 3 15 0 c w K λh w=>IfX h (K (.returned b) w) (lnx 22 b w K λf w=>eqx .eql 3 (.tmp 20) (.tmp 21) a f w K λi w=>IfX i (apx 22 b e w K λj w=>K (.returned j) w) (bnx .add 3 f c w K λk w=>mbx .cap #[22] 3 #[au] #[b] w K λl w=>bnx .gtr 3 k l w K λm w=>IfX m (slx 22 b aw (ax a) aw w K λn w=>bnx .add 3 f c w K λo w=>bnx .sub 3 o a w K λp w=>mbx .append #[22,3] 22 #[au,au] #[n,p] w K λg w=>slx 22 g (ax a) aw aw w K λq w=>mbx .copy #[22,22] 3 #[au,au] #[q,e] w K λI w=>nK w (λE=>QDo ah E (iA .add 3 a c) λr=>QDo ah E (cT 22 g (ax r) aw aw) λs=>QDo ah E (cT 22 b (ax a) aw aw) λt=>
 ∀w,E w ->
 mbx .copy #[22,22] 3 #[au,au] #[s,t] w K λL w=>K (.returned g) w)) (bnx .add 3 f c w K λu w=>slx 22 b aw (ax u) aw w K λd w=>bnx .add 3 a c w K λv w=>slx 22 d (ax v) aw aw w K λx w=>dx (gC (.func (.func 248) #[] #[]) #[e,x]) w K λy w=>dx (mUn .not y) w K λz w=>IfX z (nK w (λJ=>QDo ah J (iA .add 3 a c) λA=>QDo ah J (cT 22 d (ax A) aw aw) λB=>QDo ah J (cT 22 d (ax a) aw aw) λC=>
 ∀w,J w ->
 mbx .copy #[22,22] 3 #[au,au] #[B,C] w K λM w=>slx 22 d (ax a) aw aw w K λD w=>mbx .copy #[22,22] 3 #[au,au] #[D,e] w K λO w=>K (.returned d) w)) (slx 22 d (ax f) aw aw w K λF w=>mbx .copy #[22,22] 3 #[au,au] #[F,e] w K λP w=>slx 22 d (ax a) aw aw w K λG w=>cx 249 #[G,c] w K λQ w=>K (.returned d) w))))
theorem lS{t0 t1 t2 w K}:gL t0 t1 t2 w K->Calls ah 201 #[t0,t1,t2] w K:=cw func201
def cA(b a e w)(K:KT):=
 slx 23 b (ax a) aw aw w K λH w=>lnx 23 e w K λc w=>ecx .eql 3 15 0 c w K λh w=>IfX h (K (.returned b) w) (lnx 23 b w K λf w=>eqx .eql 3 (.tmp 20) (.tmp 21) a f w K λi w=>IfX i (apx 23 b e w K λj w=>K (.returned j) w) (bnx .add 3 f c w K λk w=>mbx .cap #[23] 3 #[au] #[b] w K λl w=>bnx .gtr 3 k l w K λm w=>IfX m (slx 23 b aw (ax a) aw w K λn w=>bnx .add 3 f c w K λo w=>bnx .sub 3 o a w K λp w=>mbx .append #[23,3] 23 #[au,au] #[n,p] w K λg w=>slx 23 g (ax a) aw aw w K λq w=>mbx .copy #[23,23] 3 #[au,au] #[q,e] w K λI w=>nK w (λE=>QDo ah E (iA .add 3 a c) λr=>QDo ah E (cT 23 g (ax r) aw aw) λs=>QDo ah E (cT 23 b (ax a) aw aw) λt=>
 ∀w,E w ->
 mbx .copy #[23,23] 3 #[au,au] #[s,t] w K λL w=>K (.returned g) w)) (bnx .add 3 f c w K λu w=>slx 23 b aw (ax u) aw w K λd w=>bnx .add 3 a c w K λv w=>slx 23 d (ax v) aw aw w K λx w=>dx (gC (.func (.func 250) #[] #[]) #[e,x]) w K λy w=>dx (mUn .not y) w K λz w=>IfX z (nK w (λJ=>QDo ah J (iA .add 3 a c) λA=>QDo ah J (cT 23 d (ax A) aw aw) λB=>QDo ah J (cT 23 d (ax a) aw aw) λC=>
 ∀w,J w ->
 mbx .copy #[23,23] 3 #[au,au] #[B,C] w K λM w=>slx 23 d (ax a) aw aw w K λD w=>mbx .copy #[23,23] 3 #[au,au] #[D,e] w K λO w=>K (.returned d) w)) (slx 23 d (ax f) aw aw w K λF w=>mbx .copy #[23,23] 3 #[au,au] #[F,e] w K λP w=>slx 23 d (ax a) aw aw w K λG w=>cx 251 #[G,c] w K λQ w=>K (.returned d) w))))
theorem eG{t0 t1 t2 w K}:cA t0 t1 t2 w K->Calls ah 202 #[t0,t1,t2] w K:=cw func202
def gK(t0 t1 t2 w)(K:KT):=nz f219 1 [] [] [(5,6)] (zg [0,1,2] [t0,t1,t2]) w K
theorem lQ{t0 t1 t2 w K}:gK t0 t1 t2 w K->Calls ah 219 #[t0,t1,t2] w K:=cw func219
def cB(t0 t1 t2 w)(K:KT):=nz f220 1 [] [] [(5,6)] (zg [0,1,2] [t0,t1,t2]) w K
theorem eE{t0 t1 t2 w K}:cB t0 t1 t2 w K->Calls ah 220 #[t0,t1,t2] w K:=cw func220
def eM(t0 t1 t6 t7 t8 w)(N1:JT)(K:KT):=nz f154 39 [N1] [nh 7 [7,8]] [] (zg [0,1,6,7,8] [t0,t1,t6,t7,t8]) w K
def eX(t0 t1 w)(K:KT):=nz f154 1 [] [(7,[7,8],λs v j w f=>eM (s 0) (s 1) (s 6) (vg v 0) (vg v 1) w (f 0) K)] [] (zg [0,1] [t0,t1]) w K
theorem jB{t0 t1 w K}:eX t0 t1 w K->Calls ah 154 #[t0,t1] w K:=cz [] [(3,[7,8])] func154
def wY(t0 t1 w)(K:KT):=nz f217 1 [] [] [] (zg [0,1] [t0,t1]) w K
theorem Dl{t0 t1 w K}:wY t0 t1 w K->Calls ah 217 #[t0,t1] w K:=cw func217
def tS(t0 w)(K:KT):=nz f256 1 [] [] [] (zg [0] [t0]) w K
theorem BZ{t0 w K}:tS t0 w K->Calls ah 256 #[t0] w K:=cw func256
def nU(t0 w)(K:KT):=nz f218 1 [] [] [] (zg [0] [t0]) w K
theorem wJ{t0 w K}:nU t0 w K->Calls ah 218 #[t0] w K:=cw func218
end
section
open Eng Go.RowKit
theorem CA (v:aq)(n:Nat)(cs:List aq)(w:ao)(e:Sl w v 1 n cs)(g:∀u∈cs,u.oneCell'=av)(i:n<=1000000000000) :
  Ret ah 199 #[v] w (λv' w'=>Own w w' [.urow 9 1 v' n cs]):=by
 have d:=e;obtain⟨j,a,cap,rfl,h,k⟩:=e;refine aL λK f=>mV ?_;unfold iC nz;rw[acI atN];cases a with
|none=>
  obtain rfl:=h rfl;obtain rfl:cs=[]:=axL om;simp only[aAk,i_t];exact f _ _ ((Own.start w).nilU 9 1)
|some p=>
  simp only[aAl,i_f];refine bI (λb=>bR b 0 0 0) [] 9 (λ_=>by kernel_rfl) (Own.start w) λb l c=>?_;have c:=c.toU 1 0 0 sm om om;refine bL 0 atN (show elB ah 9 1 16=av by kernel_rfl) dc c rfl (c.Qz d) g om om λv' w2 c=>?_;refine f _ _ ?_;simpa using c
theorem HU (v:aq)(n:Nat)(cs:List aq)(w:ao)(e:Sl w v 6 n cs)(g:∀u∈cs,u.oneCell'=av)(i:n<=1000000000000) :
  Ret ah 200 #[v] w (λv' w'=>Own w w' [.urow 25 6 v' n cs]):=by
 have d:=e;obtain⟨j,a,cap,rfl,h,k⟩:=e;refine aL λK f=>eH ?_;unfold cF nz;rw[acI atO];cases a with
|none=>
  obtain rfl:=h rfl;obtain rfl:cs=[]:=axL om;simp only[aAk,i_t];exact f _ _ ((Own.start w).nilU 25 6)
|some p=>
  simp only[aAl,i_f];refine bI (λb=>bR b 0 0 0) [] 25 (λ_=>by kernel_rfl) (Own.start w) λb l c=>?_;have c:=c.toU 6 0 0 sm om om;refine bL 0 atO (show elB ah 25 6 88=av by kernel_rfl) dc c rfl (c.Qz d) g om om λv' w2 c=>?_;refine f _ _ ?_;simpa using c
theorem ov_s {a b:Addr}{c ca d cb:Nat}(f:a.block≠b.block){tA tB:TypeId}{kA kB:Nat}(g:w.shape? a.block=ax (tA,kA))(h:w.shape? b.block=ax (tB,kB))(i:kB≠0)(j:w.frozen? a=au)(k:w.frozen? { block:=a.block,off:=kA }=au) :
  (gC (.func (.func 248) #[] #[]) #[.slice (ax a) c ca,.slice (ax b) d cb]).run ah w=.ok (.value (.bool au)) w:=by
 have l:(callFunc 248 #[.slice (ax a) c ca,.slice (ax b) d cb]).run ah w=.ok (.value (.bool au)) w:=by
  rw[run_callFunc_extern (e:=Extern.SlicesOverlaps.overlaps #[22,22] #[4]) func248 krx krx krx krx];rw[Lib.run_overlaps_apart w 22 4 9 atN 1 (λw=>by kernel_rfl) a b c ca d cb f tA tB kA kB g h i j k];rfl
 simpa[gC,invoke,Deferred.ofValue,resolve] using l
theorem MZ (v:aq)(n:Nat)(xs:List aq)(k z:Nat)(new:List aq)(w:ao)(hu:(Ent.urow 9 1 v n xs).is w)(q:w.heap[z]?=ax (.cells new.toArray 9 (0,0)))(s:new.length=1)
  (E:¬(Ent.urow 9 1 v n xs).blk z) (h1:∀u∈xs,u.oneCell'=av) (U:∀u∈new,u.oneCell'=av) (hk:k<=n) (hb:n<=100000000000) :
  Ret ah 201 #[v,ad (k:Int),bR z 0 1 1] w
   (λv' w'=>∃e',e'=Ent.urow 9 1 v' (n+1) (xs.take (k*1)++new++xs.drop (k*1))∧GC (.urow 9 1 v n xs) e' w w'):=by
 have r:xs.length=n*1:=(show w.ownsRow 0 9 1 v n xs from hu).1;have H:Sl w (bR z 0 1 1) 1 1 new:=⟨om,ax ⟨z,0,aw⟩,1,rfl,λh=>(by cases h),λp hp=>by cases hp;exact⟨λ_=>rfl,λj u f=>by rw[atK];exact aG (T:=9) q f⟩⟩;have d:=cH.lend hu;refine aL λK V=>lS ?_;unfold gL dx bnx eqx mbx slx lnx ecx apx cx;have I:elB ah 9 1 16=true:=krx
 have i:(Tryz.prog.info? 9).map (·.size)=ax 1:=krx
 obtain⟨a,cap,rfl,b0⟩:∃a cap,v=.slice a n cap∧n<=cap:=by
  rcases (show w.ownsRow 0 9 1 v n xs from hu).2 with ⟨rfl,rfl⟩|⟨g,cap,cur,rfl,_,_,J,_⟩
  ·exact⟨aw,0,rfl,atE _⟩
  ·exact⟨_,cap,rfl,J⟩
 refine aC (dD atN i om om) |>.mpr ?_;rw[aZ atN H];simp only[rs,Int.natCast_one,Int.one_ne_zero,asW];rw[bO atN];simp only[rs];by_cases X:k=n
 ·subst X;simp only[asX,rs];refine bL 0 atN I dc d rfl H U om om λv' w2 d=>?_;refine V _ _ ⟨_,rfl,?_⟩;have e:xs.take (k*1)++new++xs.drop (k*1)=xs++new:=by rw[auG om,auW om,atX]
  rw[e];exact cH.back (L:=[]) d
 have C:k < n:=om
 have M:¬(k:Int)=(n:Int):=om
 simp only[M,asW,rs];rcases (show w.ownsRow 0 9 1 (.slice a n cap) n xs from hu).2 with ⟨_,h0⟩|⟨g,b1,cur,he,b5,hg,J,N,O,l⟩
 ·omega
 injection he with Y _ Z
 subst Y;subst Z;rw[aA om om,TX atN];simp only[rs];have a1:z≠g:=λe=>E (by rw[e];rfl);have D:cur.toList.length=cap*1:=by simpa using O
 have F:cH (Ent.urow 9 1 (bR g 0 n cap) n xs).blk w w [.cells g cur.toList 9]:=
  d.turn 0 rfl ⟨Gt.refl _ _,by show w.heap[g]?=_;rw[hg],λj f=>.inl (by simp only[Ent.cells] at f;subst f;rfl)⟩
 have a6:∀j u,xs[j]?=ax u->w.cell? ⟨g,0+j,aw⟩=ax u:=λj u f=>by
  rw[atK];exact F.cell 0 rfl j (by rw[<-l] at f;rw[avZ] at f;split at f<;>first|exact f|cases f)
 have t:(xs.drop (k*1)).length=(n - k)*1:=by rw[atG,r,<-azL]
 have P:∀u∈xs.drop (k*1),u.oneCell'=true:=λu hu=>h1 u (awZ hu);by_cases A:(cap:Int) < (n:Int)+1
 ·simp only[A,asX,rs];refine aC (iW atN i om om) |>.mpr ?_;rw[show wF (ax (⟨g,0,aw⟩:Addr)) 0 cap 1=ax ⟨g,0,aw⟩ from Hz (a:=⟨g,0,aw⟩),atC];rw[aA (n:=(n:Int)+1 - k) om om,show (n:Int)+1 - k=((n+1 - k:Nat):Int) by omega];refine Xu (olds:=xs.take (k*1)) atN auQ I dc F (by rw[atF,r,auM om]) (λj u f=>a6 j u (by rw[avZ] at f;split at f<;>first|exact f|cases f)) om om om om λb c zs w2 Q a7 b6 d=>?_;rw[show k+(n+1 - k)=n+1 by omega] at Q ⊢;have m:(xs.take (k*1)).length=k*1:=by rw[atF,r,auM om]
  refine aC (dD atN i om om) |>.mpr ?_;rw[atC,fR om];have b2:b≠g:=by
   have:=(avT.1 d.apart).1 (.cells g cur.toList 9) sm;intro e;exact this b rfl e
  have R:∀{W:ao} {b':Nat} {x y:List aq},cH (Ent.urow 9 1 (bR g 0 n cap) n xs).blk w W [.cells b' x 9,.cells g y 9]->W.heap[z]?=ax (.cells new.toArray 9 (0,0)):=λh=>(h.grew.block z (dY q) E).trans q;refine xM 0 (src:=new) atN i d rfl ?_ (λj u f=>by rw[cK,atK];exact aG (T:=9) (R d) f) ?_ U λ_ w3 d=>?_
  ·rw[s,auM om]
  ·rw[asY,m,s];omega
  refine quiet ?_;refine nF ?_;rw[aA om om,show (k:Int)+1=((k+1:Nat):Int) by omega];refine gr _ (λW=>dD atN i om om) ?_;refine gr _ (λW=>dD atN i om om) ?_;rw[atC,atC,fR om,fR om];intro w4 hw;have d:=d.grow hw;simp only[atK,avW m,axP,m] at d;rw[show k*1+new.length - k*1=1 by omega,auW (show (xs.take (k*1)).length<=k*1+new.length by omega),auI] at d;refine xM 0 (src:=xs.drop (k*1)) atN i d rfl ?_ (λj u f=>?_) ?_ P λ_ w5 d=>?_
  ·rw[t];congr 1;rw[auM om]
  ·rw[cK];refine d.cell 1 rfl (0+k*1+j) ?_;rw[awJ] at f;rw[atK];rw[<-l] at f;rw[avZ] at f;split at f<;>first|exact f|cases f
  ·simp only[asY,atG,m,s,r];omega
  have B:((xs.take (k*1)++new++zs.drop 1).take (0+(k+1)*1)++xs.drop (k*1)++(xs.take (k*1)++new++zs.drop 1).drop (0+(k+1)*1+(xs.drop (k*1)).length))=(xs.take (k*1)++new++xs.drop (k*1))++(zs.drop 1).drop ((n - k)*1):=by
   rw[avW (show (xs.take (k*1)++new).length=0+(k+1)*1 by rw[asY,m,s];omega)];rw[axP,auW (show (xs.take (k*1)++new).length<=_ by rw[asY,m,s,t];omega),auI]
   congr 2
   rw[asY,m,s,t];omega
  simp only[avN] at d;rw[B] at d;have d:=d.toU 1 (n+1) c (by simp only[asY,atG,m,s,r];omega) Q a7;rw[avW (show (xs.take (k*1)++new++xs.drop (k*1)).length=(n+1)*1 by simp only[asY,atG,m,s,r];omega)] at d;exact V _ _ ⟨_,rfl,cH.back d⟩
 ·have o:n+1<=cap:=om
  simp only[A,asW,rs];rw[show (n:Int)+1=((n+1:Nat):Int) by omega];refine aC (iW atN i om om) |>.mpr ?_;rw[show wF (ax (⟨g,0,aw⟩:Addr)) 0 cap 1=ax ⟨g,0,aw⟩ from Hz (a:=⟨g,0,aw⟩),atC];rw[aA (n:=(k:Int)+1) om om,show (k:Int)+1=((k+1:Nat):Int) by omega];refine aC (dD atN i om om) |>.mpr ?_;rw[atC,fR om];refine aC (ov_s (a:=⟨z,0,aw⟩) (b:=⟨g,0+(k+1)*1,aw⟩) a1 (tA:=9) (tB:=9) (kA:=new.length) (kB:=cur.size) (by simp[World.shape?,q]) (by simp[World.shape?,hg]) (by rw[O];omega) (by simp[World.frozen?,q]) (by simp[World.frozen?,q])) |>.mpr ?_;simp only[rs,auN];refine quiet ?_;refine nF ?_;rw[aA om om,show (k:Int)+1=((k+1:Nat):Int) by omega];refine gr _ (λW=>dD atN i om om) ?_;refine gr _ (λW=>dD atN i om om) ?_;rw[atC,atC,fR om,fR om];intro w3 hw;have d:=F.grow hw;have G:∀j u,(xs.drop (k*1))[j]?=ax u->cur.toList[k*1+j]?=ax u:=λj u f=>by
   rw[awJ,<-l,avZ] at f;split at f<;>first|exact f|cases f
  refine xM 0 (src:=xs.drop (k*1)) atN i d rfl ?_ (λj u f=>?_) ?_ P λ_ w4 d=>?_
  ·rw[t];congr 1;rw[Nat.min_eq_right om];omega
  ·rw[cK,atK];exact d.cell 0 rfl _ (G j u f)
  ·rw[t,D];have:(n - k)*1+(k+1)*1=(n+1)*1:=by rw[<-awA];congr 1;omega
   have:(n+1)*1<=cap*1:=auY _ o;omega
  simp only[avN] at d;refine aC (dD atN i om om) |>.mpr ?_;rw[atC,fR om];have S:w4.heap[z]?=ax (.cells new.toArray 9 (0,0)):=(d.grew.block z (dY q) E).trans q;have b7:(k+1)*1<=cap*1:=auY _ om;have b3:(n+1)*1<=cap*1:=auY _ o;have b4:(n - k)*1+(k+1)*1=(n+1)*1:=by rw[<-awA];congr 1;omega
  refine xM 0 (src:=new) atN i d rfl ?_ (λj u f=>by rw[cK,atK];exact aG (T:=9) S f) ?_ U λ_ w5 d=>?_
  ·rw[s,auM om]
  ·simp only[asY,atF,atG,D,s,t];omega
  simp only[avN] at d;have a8:cur.toList.take (k*1)=xs.take (k*1):=by
   rw[<-l,axZ,auM (auY _ om)]
  have B:((cur.toList.take (0+(k+1)*1)++xs.drop (k*1)++cur.toList.drop (0+(k+1)*1+(xs.drop (k*1)).length)).take (0+k*1)++new++(cur.toList.take (0+(k+1)*1)++xs.drop (k*1)++cur.toList.drop (0+(k+1)*1+(xs.drop (k*1)).length)).drop (0+k*1+new.length))
   =(xs.take (k*1)++new++xs.drop (k*1))++cur.toList.drop (0+(k+1)*1+(xs.drop (k*1)).length):=by
   have C:(cur.toList.take (0+(k+1)*1)).length=0+(k+1)*1:=by rw[atF,D];omega
   rw[atJ (cur.toList.take (0+(k+1)*1))];rw[aAo (by rw[C];omega),axZ,auM om,atK,a8];rw[axP,auW (show (cur.toList.take (0+(k+1)*1)).length<=k*1+new.length by rw[C,s];omega),auI];rw[show k*1+new.length - (cur.toList.take (0+(k+1)*1)).length=0 by rw[C,s];omega,auX];simp only[atK,atJ]
  rw[B] at d;have d:=d.toU 1 (n+1) cap (by simp only[asY,atF,atG,D,s,r];omega) o (by simp only[maxLen] at N;exact N);rw[avW (show (xs.take (k*1)++new++xs.drop (k*1)).length=(n+1)*1 by simp only[asY,atF,atG,s,r];omega)] at d;exact V _ _ ⟨_,rfl,cH.back d⟩
theorem ov_o {a b:Addr}{c ca d cb:Nat}(f:a.block≠b.block){tA tB:TypeId}{kA kB:Nat}(g:w.shape? a.block=ax (tA,kA))(h:w.shape? b.block=ax (tB,kB))(i:kB≠0)(j:w.frozen? a=au)(k:w.frozen? { block:=a.block,off:=kA }=au) :
  (gC (.func (.func 250) #[] #[]) #[.slice (ax a) c ca,.slice (ax b) d cb]).run ah w=.ok (.value (.bool au)) w:=by
 have l:(callFunc 250 #[.slice (ax a) c ca,.slice (ax b) d cb]).run ah w=.ok (.value (.bool au)) w:=by
  rw[run_callFunc_extern (e:=Extern.SlicesOverlaps.overlaps #[23,23] #[4]) func250 krx krx krx krx];rw[Lib.run_overlaps_apart w 23 4 25 atO 6 (λw=>by kernel_rfl) a b c ca d cb f tA tB kA kB g h i j k];rfl
 simpa[gC,invoke,Deferred.ofValue,resolve] using l
theorem NQ (v:aq)(n:Nat)(xs:List aq)(k z:Nat)(new:List aq)(w:ao)(hu:(Ent.urow 25 6 v n xs).is w)(q:w.heap[z]?=ax (.cells new.toArray 25 (0,0)))(s:new.length=6)
  (E:¬(Ent.urow 25 6 v n xs).blk z) (h1:∀u∈xs,u.oneCell'=av) (U:∀u∈new,u.oneCell'=av) (hk:k<=n) (hb:n<=100000000000) :
  Ret ah 202 #[v,ad (k:Int),bR z 0 1 1] w
   (λv' w'=>∃e',e'=Ent.urow 25 6 v' (n+1) (xs.take (k*6)++new++xs.drop (k*6))∧GC (.urow 25 6 v n xs) e' w w'):=by
 have r:xs.length=n*6:=(show w.ownsRow 0 25 6 v n xs from hu).1;have H:Sl w (bR z 0 1 1) 6 1 new:=⟨om,ax ⟨z,0,aw⟩,1,rfl,λh=>(by cases h),λp hp=>by cases hp;exact⟨λ_=>rfl,λj u f=>by rw[atK];exact aG (T:=25) q f⟩⟩;have d:=cH.lend hu;refine aL λK V=>eG ?_;unfold cA dx bnx eqx mbx slx lnx ecx apx cx;have I:elB ah 25 6 88=true:=krx
 have i:(Tryz.prog.info? 25).map (·.size)=ax 6:=krx
 obtain⟨a,cap,rfl,b0⟩:∃a cap,v=.slice a n cap∧n<=cap:=by
  rcases (show w.ownsRow 0 25 6 v n xs from hu).2 with ⟨rfl,rfl⟩|⟨g,cap,cur,rfl,_,_,J,_⟩
  ·exact⟨aw,0,rfl,atE _⟩
  ·exact⟨_,cap,rfl,J⟩
 refine aC (dD atO i om om) |>.mpr ?_;rw[aZ atO H];simp only[rs,Int.natCast_one,Int.one_ne_zero,asW];rw[bO atO];simp only[rs];by_cases X:k=n
 ·subst X;simp only[asX,rs];refine bL 0 atO I dc d rfl H U om om λv' w2 d=>?_;refine V _ _ ⟨_,rfl,?_⟩;have e:xs.take (k*6)++new++xs.drop (k*6)=xs++new:=by rw[auG om,auW om,atX]
  rw[e];exact cH.back (L:=[]) d
 have C:k < n:=om
 have M:¬(k:Int)=(n:Int):=om
 simp only[M,asW,rs];rcases (show w.ownsRow 0 25 6 (.slice a n cap) n xs from hu).2 with ⟨_,h0⟩|⟨g,b1,cur,he,b5,hg,J,N,O,l⟩
 ·omega
 injection he with Y _ Z
 subst Y;subst Z;rw[aA om om,TX atO];simp only[rs];have a1:z≠g:=λe=>E (by rw[e];rfl);have D:cur.toList.length=cap*6:=by simpa using O
 have F:cH (Ent.urow 25 6 (bR g 0 n cap) n xs).blk w w [.cells g cur.toList 25]:=
  d.turn 0 rfl ⟨Gt.refl _ _,by show w.heap[g]?=_;rw[hg],λj f=>.inl (by simp only[Ent.cells] at f;subst f;rfl)⟩
 have a6:∀j u,xs[j]?=ax u->w.cell? ⟨g,0+j,aw⟩=ax u:=λj u f=>by
  rw[atK];exact F.cell 0 rfl j (by rw[<-l] at f;rw[avZ] at f;split at f<;>first|exact f|cases f)
 have t:(xs.drop (k*6)).length=(n - k)*6:=by rw[atG,r,<-azL]
 have P:∀u∈xs.drop (k*6),u.oneCell'=true:=λu hu=>h1 u (awZ hu);by_cases A:(cap:Int) < (n:Int)+1
 ·simp only[A,asX,rs];refine aC (iW atO i om om) |>.mpr ?_;rw[show wF (ax (⟨g,0,aw⟩:Addr)) 0 cap 6=ax ⟨g,0,aw⟩ from Hz (a:=⟨g,0,aw⟩),atC];rw[aA (n:=(n:Int)+1 - k) om om,show (n:Int)+1 - k=((n+1 - k:Nat):Int) by omega];refine Xu (olds:=xs.take (k*6)) atO auQ I dc F (by rw[atF,r,auM om]) (λj u f=>a6 j u (by rw[avZ] at f;split at f<;>first|exact f|cases f)) om om om om λb c zs w2 Q a7 b6 d=>?_;rw[show k+(n+1 - k)=n+1 by omega] at Q ⊢;have m:(xs.take (k*6)).length=k*6:=by rw[atF,r,auM om]
  refine aC (dD atO i om om) |>.mpr ?_;rw[atC,fR om];have b2:b≠g:=by
   have:=(avT.1 d.apart).1 (.cells g cur.toList 25) sm;intro e;exact this b rfl e
  have R:∀{W:ao} {b':Nat} {x y:List aq},cH (Ent.urow 25 6 (bR g 0 n cap) n xs).blk w W [.cells b' x 25,.cells g y 25]->W.heap[z]?=ax (.cells new.toArray 25 (0,0)):=λh=>(h.grew.block z (dY q) E).trans q;refine xM 0 (src:=new) atO i d rfl ?_ (λj u f=>by rw[cK,atK];exact aG (T:=25) (R d) f) ?_ U λ_ w3 d=>?_
  ·rw[s,auM om]
  ·rw[asY,m,s];omega
  refine quiet ?_;refine nF ?_;rw[aA om om,show (k:Int)+1=((k+1:Nat):Int) by omega];refine gr _ (λW=>dD atO i om om) ?_;refine gr _ (λW=>dD atO i om om) ?_;rw[atC,atC,fR om,fR om];intro w4 hw;have d:=d.grow hw;simp only[atK,avW m,axP,m] at d;rw[show k*6+new.length - k*6=6 by omega,auW (show (xs.take (k*6)).length<=k*6+new.length by omega),auI] at d;refine xM 0 (src:=xs.drop (k*6)) atO i d rfl ?_ (λj u f=>?_) ?_ P λ_ w5 d=>?_
  ·rw[t];congr 1;rw[auM om]
  ·rw[cK];refine d.cell 1 rfl (0+k*6+j) ?_;rw[awJ] at f;rw[atK];rw[<-l] at f;rw[avZ] at f;split at f<;>first|exact f|cases f
  ·simp only[asY,atG,m,s,r];omega
  have B:((xs.take (k*6)++new++zs.drop 6).take (0+(k+1)*6)++xs.drop (k*6)++(xs.take (k*6)++new++zs.drop 6).drop (0+(k+1)*6+(xs.drop (k*6)).length))=(xs.take (k*6)++new++xs.drop (k*6))++(zs.drop 6).drop ((n - k)*6):=by
   rw[avW (show (xs.take (k*6)++new).length=0+(k+1)*6 by rw[asY,m,s];omega)];rw[axP,auW (show (xs.take (k*6)++new).length<=_ by rw[asY,m,s,t];omega),auI]
   congr 2
   rw[asY,m,s,t];omega
  simp only[avN] at d;rw[B] at d;have d:=d.toU 6 (n+1) c (by simp only[asY,atG,m,s,r];omega) Q a7;rw[avW (show (xs.take (k*6)++new++xs.drop (k*6)).length=(n+1)*6 by simp only[asY,atG,m,s,r];omega)] at d;exact V _ _ ⟨_,rfl,cH.back d⟩
 ·have o:n+1<=cap:=om
  simp only[A,asW,rs];rw[show (n:Int)+1=((n+1:Nat):Int) by omega];refine aC (iW atO i om om) |>.mpr ?_;rw[show wF (ax (⟨g,0,aw⟩:Addr)) 0 cap 6=ax ⟨g,0,aw⟩ from Hz (a:=⟨g,0,aw⟩),atC];rw[aA (n:=(k:Int)+1) om om,show (k:Int)+1=((k+1:Nat):Int) by omega];refine aC (dD atO i om om) |>.mpr ?_;rw[atC,fR om];refine aC (ov_o (a:=⟨z,0,aw⟩) (b:=⟨g,0+(k+1)*6,aw⟩) a1 (tA:=25) (tB:=25) (kA:=new.length) (kB:=cur.size) (by simp[World.shape?,q]) (by simp[World.shape?,hg]) (by rw[O];omega) (by simp[World.frozen?,q]) (by simp[World.frozen?,q])) |>.mpr ?_;simp only[rs,auN];refine quiet ?_;refine nF ?_;rw[aA om om,show (k:Int)+1=((k+1:Nat):Int) by omega];refine gr _ (λW=>dD atO i om om) ?_;refine gr _ (λW=>dD atO i om om) ?_;rw[atC,atC,fR om,fR om];intro w3 hw;have d:=F.grow hw;have G:∀j u,(xs.drop (k*6))[j]?=ax u->cur.toList[k*6+j]?=ax u:=λj u f=>by
   rw[awJ,<-l,avZ] at f;split at f<;>first|exact f|cases f
  refine xM 0 (src:=xs.drop (k*6)) atO i d rfl ?_ (λj u f=>?_) ?_ P λ_ w4 d=>?_
  ·rw[t];congr 1;rw[Nat.min_eq_right om];omega
  ·rw[cK,atK];exact d.cell 0 rfl _ (G j u f)
  ·rw[t,D];have:(n - k)*6+(k+1)*6=(n+1)*6:=by rw[<-awA];congr 1;omega
   have:(n+1)*6<=cap*6:=auY _ o;omega
  simp only[avN] at d;refine aC (dD atO i om om) |>.mpr ?_;rw[atC,fR om];have S:w4.heap[z]?=ax (.cells new.toArray 25 (0,0)):=(d.grew.block z (dY q) E).trans q;have b7:(k+1)*6<=cap*6:=auY _ om;have b3:(n+1)*6<=cap*6:=auY _ o;have b4:(n - k)*6+(k+1)*6=(n+1)*6:=by rw[<-awA];congr 1;omega
  refine xM 0 (src:=new) atO i d rfl ?_ (λj u f=>by rw[cK,atK];exact aG (T:=25) S f) ?_ U λ_ w5 d=>?_
  ·rw[s,auM om]
  ·simp only[asY,atF,atG,D,s,t];omega
  simp only[avN] at d;have a8:cur.toList.take (k*6)=xs.take (k*6):=by
   rw[<-l,axZ,auM (auY _ om)]
  have B:((cur.toList.take (0+(k+1)*6)++xs.drop (k*6)++cur.toList.drop (0+(k+1)*6+(xs.drop (k*6)).length)).take (0+k*6)++new++(cur.toList.take (0+(k+1)*6)++xs.drop (k*6)++cur.toList.drop (0+(k+1)*6+(xs.drop (k*6)).length)).drop (0+k*6+new.length))
   =(xs.take (k*6)++new++xs.drop (k*6))++cur.toList.drop (0+(k+1)*6+(xs.drop (k*6)).length):=by
   have C:(cur.toList.take (0+(k+1)*6)).length=0+(k+1)*6:=by rw[atF,D];omega
   rw[atJ (cur.toList.take (0+(k+1)*6))];rw[aAo (by rw[C];omega),axZ,auM om,atK,a8];rw[axP,auW (show (cur.toList.take (0+(k+1)*6)).length<=k*6+new.length by rw[C,s];omega),auI];rw[show k*6+new.length - (cur.toList.take (0+(k+1)*6)).length=0 by rw[C,s];omega,auX];simp only[atK,atJ]
  rw[B] at d;have d:=d.toU 6 (n+1) cap (by simp only[asY,atF,atG,D,s,r];omega) o (by simp only[maxLen] at N;exact N);rw[avW (show (xs.take (k*6)++new++xs.drop (k*6)).length=(n+1)*6 by simp only[asY,atF,atG,s,r];omega)] at d;exact V _ _ ⟨_,rfl,cH.back d⟩
theorem Nl (v:aq)(n:Nat)(xs:List aq)(k:Nat)(w:ao)(hu:(Ent.urow 9 1 v n xs).is w)(F:∀u∈xs,u.oneCell'=av)(O:k < n)(P:n<=100000000000) :
  Ret ah 219 #[v,ad (k:Int),ad ((k+1:Nat):Int)] w
   (λv' w'=>∃e',e'=Ent.urow 9 1 v' (n - 1) (xs.take (k*1)++xs.drop ((k+1)*1))∧GC (.urow 9 1 v n xs) e' w w'):=by
 have d:xs.length=n*1:=(show w.ownsRow 0 9 1 v n xs from hu).1;have b:=cH.lend hu;refine aL λK G=>lQ ?_;unfold gK nz;have o:elB ah 9 1 16=true:=krx
 have e:(Tryz.prog.info? 9).map (·.size)=ax 1:=krx
 rcases (show w.ownsRow 0 9 1 v n xs from hu).2 with ⟨_,Q⟩|⟨g,cap,cur,rfl,H,I,s,p,t,c⟩
 ·omega
 have l:cur.toList.length=cap*1:=by simpa using t
 have E:n*1<=cap*1:=auY _ s;have x:cH (Ent.urow 9 1 (bR g 0 n cap) n xs).blk w w [.cells g cur.toList 9]:=
  b.turn 0 rfl ⟨Gt.refl _ _,by show w.heap[g]?=_;rw[I],λj i=>.inl (by simp only[Ent.cells] at i;subst i;rfl)⟩
 rw[bO atN];refine aC (GV atN e om om om om) |>.mpr ?_;have y:¬(k:Int)=((k+1:Nat):Int):=om
 simp only[rs,y,asW];rw[bO atN];refine quiet ?_;refine gr _ (λW=>iW atN e om om) ?_;refine gr _ (λW=>dD atN e om om) ?_;rw[show wF (ax (⟨g,0,aw⟩:Addr)) 0 cap 1=ax ⟨g,0,aw⟩ from Hz (a:=⟨g,0,aw⟩),atC,atC];obtain⟨a,J,z⟩:∃a,wF (ax (⟨g,0,aw⟩:Addr)) (k+1) cap 1=ax a∧(k+1 < cap->a=⟨g,(k+1)*1,aw⟩):=by
  by_cases h:k+1 < cap
  ·exact⟨_,by rw[fR h,atK],λ_=>rfl⟩
  ·exact⟨⟨g,0,aw⟩,by unfold wF;rw[asU om],λL=>absurd L h⟩
 rw[J];intro w3 hw;have b:=x.grow hw;have f:(xs.drop ((k+1)*1)).length=(n - (k+1))*1:=by rw[atG,d,<-azL]
 have M:(k+1)*1<=n*1:=auY _ om;have q:k*1+(n - (k+1))*1=(n - 1)*1:=by rw[<-awA];congr 1;omega
 have N:(n - 1)*1+1=n*1:=by rw[<-awM];congr 1;omega
 refine LJ 0 (news:=xs.drop ((k+1)*1)) atN o b rfl f (λj u i=>?_) (λu hu=>F u (awZ hu)) om (by rw[f,l];omega) λR b=>?_
 ·have A:j < (xs.drop ((k+1)*1)).length:=(atT.1 i).1;have B:k+1 < cap:=by
   rcases auC (k+1) n with h|h
   ·omega
   ·rw[f,show n - (k+1)=0 by omega] at A;omega
  rw[z B,cK];refine b.cell 0 rfl _ ?_;rw[awJ,<-c,avZ] at i;split at i<;>first|exact i|cases i
 simp only[avN] at b;rw[bO atN];rw[show k+(n - (k+1))=n - 1 by omega];refine aC (Qc atN e om om om) |>.mpr ?_;rw[atC,atC,fR om,atK,show n - (n - 1)=1 by omega];have C:cur.toList.take (k*1)=xs.take (k*1):=by
  rw[<-c,axZ,auM (auY _ om)]
 have m:(xs.take (k*1)).length=k*1:=by rw[atF,d,auM om]
 rw[C] at b;have r:(xs.take (k*1)++xs.drop ((k+1)*1)).length=(n - 1)*1:=by rw[asY,m,f,q]
 refine TD 0 atN o (show zB ah 9=av by kernel_rfl) om b rfl (by simp only[asY,atG,l,m,d];omega) λ_ S T D b=>?_;simp only[avN] at b;rw[avW r,atJ (xs.take (k*1)++xs.drop ((k+1)*1))] at b;have b:=b.toU 1 (n - 1) cap (by simp only[asY,atG,l,m,d,D];omega) om (by simp only[maxLen] at p;exact p);rw[avW r] at b;exact G _ _ ⟨_,rfl,cH.back b⟩
theorem NS (v:aq)(n:Nat)(xs:List aq)(k:Nat)(w:ao)(hu:(Ent.urow 25 6 v n xs).is w)(F:∀u∈xs,u.oneCell'=av)(O:k < n)(P:n<=100000000000) :
  Ret ah 220 #[v,ad (k:Int),ad ((k+1:Nat):Int)] w
   (λv' w'=>∃e',e'=Ent.urow 25 6 v' (n - 1) (xs.take (k*6)++xs.drop ((k+1)*6))∧GC (.urow 25 6 v n xs) e' w w'):=by
 have d:xs.length=n*6:=(show w.ownsRow 0 25 6 v n xs from hu).1;have b:=cH.lend hu;refine aL λK G=>eE ?_;unfold cB nz;have o:elB ah 25 6 88=true:=krx
 have e:(Tryz.prog.info? 25).map (·.size)=ax 6:=krx
 rcases (show w.ownsRow 0 25 6 v n xs from hu).2 with ⟨_,Q⟩|⟨g,cap,cur,rfl,H,I,s,p,t,c⟩
 ·omega
 have l:cur.toList.length=cap*6:=by simpa using t
 have E:n*6<=cap*6:=auY _ s;have x:cH (Ent.urow 25 6 (bR g 0 n cap) n xs).blk w w [.cells g cur.toList 25]:=
  b.turn 0 rfl ⟨Gt.refl _ _,by show w.heap[g]?=_;rw[I],λj i=>.inl (by simp only[Ent.cells] at i;subst i;rfl)⟩
 rw[bO atO];refine aC (GV atO e om om om om) |>.mpr ?_;have y:¬(k:Int)=((k+1:Nat):Int):=om
 simp only[rs,y,asW];rw[bO atO];refine quiet ?_;refine gr _ (λW=>iW atO e om om) ?_;refine gr _ (λW=>dD atO e om om) ?_;rw[show wF (ax (⟨g,0,aw⟩:Addr)) 0 cap 6=ax ⟨g,0,aw⟩ from Hz (a:=⟨g,0,aw⟩),atC,atC];obtain⟨a,J,z⟩:∃a,wF (ax (⟨g,0,aw⟩:Addr)) (k+1) cap 6=ax a∧(k+1 < cap->a=⟨g,(k+1)*6,aw⟩):=by
  by_cases h:k+1 < cap
  ·exact⟨_,by rw[fR h,atK],λ_=>rfl⟩
  ·exact⟨⟨g,0,aw⟩,by unfold wF;rw[asU om],λL=>absurd L h⟩
 rw[J];intro w3 hw;have b:=x.grow hw;have f:(xs.drop ((k+1)*6)).length=(n - (k+1))*6:=by rw[atG,d,<-azL]
 have M:(k+1)*6<=n*6:=auY _ om;have q:k*6+(n - (k+1))*6=(n - 1)*6:=by rw[<-awA];congr 1;omega
 have N:(n - 1)*6+6=n*6:=by rw[<-awM];congr 1;omega
 refine LJ 0 (news:=xs.drop ((k+1)*6)) atO o b rfl f (λj u i=>?_) (λu hu=>F u (awZ hu)) om (by rw[f,l];omega) λR b=>?_
 ·have A:j < (xs.drop ((k+1)*6)).length:=(atT.1 i).1;have B:k+1 < cap:=by
   rcases auC (k+1) n with h|h
   ·omega
   ·rw[f,show n - (k+1)=0 by omega] at A;omega
  rw[z B,cK];refine b.cell 0 rfl _ ?_;rw[awJ,<-c,avZ] at i;split at i<;>first|exact i|cases i
 simp only[avN] at b;rw[bO atO];rw[show k+(n - (k+1))=n - 1 by omega];refine aC (Qc atO e om om om) |>.mpr ?_;rw[atC,atC,fR om,atK,show n - (n - 1)=1 by omega];have C:cur.toList.take (k*6)=xs.take (k*6):=by
  rw[<-c,axZ,auM (auY _ om)]
 have m:(xs.take (k*6)).length=k*6:=by rw[atF,d,auM om]
 rw[C] at b;have r:(xs.take (k*6)++xs.drop ((k+1)*6)).length=(n - 1)*6:=by rw[asY,m,f,q]
 refine TD 0 atO o (show zB ah 25=av by kernel_rfl) om b rfl (by simp only[asY,atG,l,m,d];omega) λ_ S T D b=>?_;simp only[avN] at b;rw[avW r,atJ (xs.take (k*6)++xs.drop ((k+1)*6))] at b;have b:=b.toU 6 (n - 1) cap (by simp only[asY,atG,l,m,d,D];omega) om (by simp only[maxLen] at p;exact p);rw[avW r] at b;exact G _ _ ⟨_,rfl,cH.back b⟩
end
section
open Eng
def Kb(t0 w)(K:KT):=nz f137 1 [] [] [] (zg [0] [t0]) w K
theorem Ll{t0 w K}:Kb t0 w K->Calls ah 137 #[t0] w K:=cw func137
def HP(t0 w)(K:KT):=nz f69 1 [] [] [] (zg [0] [t0]) w K
theorem Kh{t0 w K}:HP t0 w K->Calls ah 69 #[t0] w K:=cw func69
def F4(t0 w)(K:KT):=nz f141 1 [] [] [] (zg [0] [t0]) w K
theorem Ii{t0 w K}:F4 t0 w K->Calls ah 141 #[t0] w K:=cw func141
def F2(t0 w)(K:KT):=nz f139 1 [] [] [] (zg [0] [t0]) w K
theorem Iu{t0 w K}:F2 t0 w K->Calls ah 139 #[t0] w K:=cw func139
def ES(t0 w)(K:KT):=nz f138 1 [] [] [] (zg [0] [t0]) w K
theorem IP{t0 w K}:ES t0 w K->Calls ah 138 #[t0] w K:=cw func138
def D1(t3 t6 w)(K:KT):=nz f140 63 [] [] [] (zg [3,6] [t3,t6]) w K
def Hw(t0 t1 t2 w)(K:KT):=nz f140 1 [] [(16,[],λs v j w f=>D1 (s 3) (s 6) w K)] [] (zg [0,1,2] [t0,t1,t2]) w K
theorem Jm{t0 t1 t2 w K}:Hw t0 t1 t2 w K->Calls ah 140 #[t0,t1,t2] w K:=cz [(8,[])] [] func140
def Bf(t0 t1 w)(K:KT):=nz f155 1 [] [] [] (zg [0,1] [t0,t1]) w K
theorem E2{t0 t1 w K}:Bf t0 t1 w K->Calls ah 155 #[t0,t1] w K:=cw func155
def DI(t3 t7 w)(a:JT)(K:KT):=nz f136 1887 [a] [nh 23 [3,7]] [] (zg [3,7] [t3,t7]) w K
def DQ(t0 t2 t3 t5 t6 t7 w)(a:JT)(K:KT):=nz f136 351 [a] [nh 23 [3,7],(24,[3],λs v j w f=>DI (vg v 0) (s 7) w (f 0) K)] [(18,7)] (zg [0,2,3,5,6,7] [t0,t2,t3,t5,t6,t7]) w K
def Dt(t0 t2 t3 t4 w)(N1:JT)(K:KT):=nz f136 43 [N1] [nh 9 [3,4],(23,[3,7],λs v j w f=>DQ (s 0) (s 2) (vg v 0) (s 5) (s 6) (vg v 1) w (f 0) K)] [] (zg [0,2,3,4] [t0,t2,t3,t4]) w K
def H4(t0 w)(K:KT):=nz f136 1 [] [(9,[3,4],λs v j w f=>Dt (s 0) (s 2) (vg v 0) (vg v 1) w (f 0) K)] [] (zg [0] [t0]) w K
theorem Kg{t0 w K}:H4 t0 w K->Calls ah 136 #[t0] w K:=cz [(12,[3])] [(4,[3,4]),(11,[3,7])] func136
def JC(t0 t1 w)(K:KT):=nz f146 1 [] [] [] (zg [0,1] [t0,t1]) w K
theorem Lh{t0 t1 w K}:JC t0 t1 w K->Calls ah 146 #[t0,t1] w K:=cw func146
def JW(t0 t1 t2 w)(K:KT):=nz f70 1 [] [] [] (zg [0,1,2] [t0,t1,t2]) w K
theorem LB{t0 t1 t2 w K}:JW t0 t1 t2 w K->Calls ah 70 #[t0,t1,t2] w K:=cw func70
def DJ(t2 t4 w)(K:KT):=nz f88 7 [] [] [] (zg [2,4] [t2,t4]) w K
def HJ(t0 t1 w)(K:KT):=nz f88 1 [] [(10,[],λs v j w f=>DJ (s 2) (s 4) w K)] [] (zg [0,1] [t0,t1]) w K
theorem JP{t0 t1 w K}:HJ t0 t1 w K->Calls ah 88 #[t0,t1] w K:=cz [(5,[])] [] func88
def Gb(t0 w)(K:KT):=nz f95 1 [] [] [] (zg [0] [t0]) w K
theorem Ia{t0 w K}:Gb t0 w K->Calls ah 95 #[t0] w K:=cw func95
def Be(t0 w)(K:KT):=nz f164 1 [] [] [] (zg [0] [t0]) w K
theorem Fj{t0 w K}:Be t0 w K->Calls ah 164 #[t0] w K:=cw func164
def vV(t2 t4 w)(K:KT):=nz f163 31 [] [] [] (zg [2,4] [t2,t4]) w K
def wW(t1 t2 t5 t23 t24 t25 w)(a b:JT)(K:KT):=nz f163 1367 [a,b] [nh 22 [],nh 13 [25]] [] (zg [1,2,5,23,24,25] [t1,t2,t5,t23,t24,t25]) w K
def Cl(t0 t1 w)(K:KT):=nz f163 1 [] [(13,[25],λs v j w f=>wW (s 1) (s 2) (s 5) (s 23) (s 24) (vg v 0) w (f 1) (f 0) K),(22,[],λs v j w f=>vV (s 2) (s 4) w K)] [] (zg [0,1] [t0,t1]) w K
theorem EJ{t0 t1 w K}:Cl t0 t1 w K->Calls ah 163 #[t0,t1] w K:=cz [(11,[])] [(6,[25])] func163
end
section
open Go
namespace Vl
def used (k:Int):Option (Bool×Bool×Bool×Bool×Bool):=
 if k=0 then ax (au,au,au,au,au)
 else if k=1∨k=2∨k=3 then ax (av,au,au,au,au)
 else if k=4∨k=5 then ax (au,au,av,au,au)
 else if k=6 then ax (au,au,au,au,av)
 else if k=7 then ax (au,au,au,av,av)
 else if k=8 then ax (av,av,au,au,au)
 else if k=9 then ax (au,au,av,av,av)
 else aw
def gB (o:Ob):Bool:=
 match used o.k with
|none=>au
|some (n,g,s,ks,cs)=>(n||decide (o.n=0))&&(g||decide (o.g=0))&&(s||decide (o.s=[]))&&(ks||decide (o.keys=[]))&&(cs||decide (o.kids.length=0))
def fits (o:Ob):Bool:=
 if o.k=1 then ai (0<=o.n∧o.n<=1)
 else if o.k=2 then ai (-2147483647<=o.n∧o.n<=2147483647)
 else if o.k=3 then ai (-1073741824<=o.n∧o.n<=1073741824)
 else if o.k=8 then ai (1<=o.n∧o.n<=8191)&&ai (0<=o.g∧o.g<=65535)
 else av
def long (k:Int):Nat:=if k=5 then 127 else if k=9 then 1048576 else 32767
def name (s:List UInt8):Bool:=ai (s.length<=127)&&ai ((0:UInt8) ∉ s)
def qF:List UInt8:=[76,101,110,103,116,104]
abbrev less (a b:List UInt8):Bool:=Op.bytesLess a b
def Az (o:Ob)(i:Nat):Bool:=
 name (o.keys.getD i [])&&(ai (i=0)||less (o.keys.getD (i - 1) []) (o.keys.getD i []))&&!(ai (o.k=9)&&ai (o.keys.getD i []=qF))&&ai ((o.kids.getD i (.mk 0 0 0 [] [] [])).k≠0)
def rising (o:Ob):Bool:=ai (o.keys.length=o.kids.length)&&(List.range o.keys.length).all (Az o)
def form (o:Ob):Bool:=(!(ai (o.k=5))||name o.s)&&(!(ai (o.k=7∨o.k=9))||rising o)
def why (d:Nat)(o:Ob):Int:=
 if 24 < d then 7
 else if gB o=au∨(o.k=9∧1 < d) then 10
 else if fits o=au then 2
 else if long o.k < o.s.length then 5
 else if 8191 < o.kids.length then 6
 else if form o=au then 3
 else 0
 mutual
def check (d:Nat):Ob->Int
|.mk k n g s keys kids=>if why d (.mk k n g s keys kids)≠0 then why d (.mk k n g s keys kids) else nN (d+1) kids
def nN (d:Nat):List Ob->Int
|[]=>0
|o::os=>if check d o≠0 then check d o else nN d os
end
theorem E3 (d:Nat)(o:Ob):check d o=if why d o≠0 then why d o else nN (d+1) o.kids:=by cases o;rw[check];rfl
 mutual
def size:Ob->Nat
|.mk _ _ _ s keys kids=>1+s.length / 50+(keys.map λk=>k.length / 50).sum+sU kids
def sU:List Ob->Nat
|[]=>0
|o::os=>size o+sU os
end
theorem size_eq (o:Ob):size o=1+o.s.length / 50+(o.keys.map λk=>k.length / 50).sum+sU o.kids:=by cases o;rw[size];rfl
theorem apC (l:List (List UInt8)):(l.map λk=>k.length / 50).sum<=Pl.tot l:=by
 induction l with
|nil=>simp
|cons a l b=>simp only[Pl.tot,avC,axA] at b ⊢;omega
 mutual
theorem Wu:∀o:Ob,size o<=o.wt
|.mk k n g s keys kids=>by
  have:=Tl kids;have:=apC keys;rw[size,Ob.wt];omega
theorem Tl:∀os:List Ob,sU os<=Ob.wts os
|[]=>by rw[sU,Ob.wts];omega
|o::os=>by
  have:=Wu o;have:=Tl os;rw[sU,Ob.wts];omega
end
end Vl
end
section
open Go
namespace Vl
theorem Oj (a b:List UInt8):less a b=av↔a < b:=by rw[less,bytesLess_eq,auP]
theorem qI {a b c:List UInt8}(h:less a b=av)(k:less b c=av):less a c=true:=by
 rw[Oj] at *;exact List.lt_trans h k
theorem yH (a:List UInt8):less a a=false:=by
 cases h:less a a with
|false=>rfl
|true=>rw[Oj] at h;exact absurd h (List.lt_irrefl _)
theorem Uz {a b:List UInt8}(h:less a b=au)(d:a≠b):less b a=true:=by
 have e:¬a < b:=by rw[<-Oj,h];simp
 rw[Oj];rcases Classical.em (b < a) with c|c
 ·exact c
 ·exact absurd (List.le_antisymm (List.not_lt.1 c) (List.not_lt.1 e)) d
def NX (l:List (List UInt8)):Prop:=l.Pairwise λa b=>less a b=av
def place (l:List (List UInt8))(x:List UInt8):Nat:=(l.takeWhile λk=>less k x).length
def hit (l:List (List UInt8))(x:List UInt8):Bool:=ai (l[place l x]?=ax x)
theorem H6 {α:Type}{p:α->Bool}:∀(l:List α) (i:Nat),i<=l.length->(∀m (h:m < l.length),m < i->p l[m]=av)->(∀h:i < l.length,p l[i]=au)->(l.takeWhile p).length=i
|[],i,hi,_,_=>by simp at hi;simp[hi]
|a::l,0,_,_,h=>by
  have:=h sm;rw[aAb] at this;simp[aAc,this]
|a::l,i+1,hi,b,d=>by
  have c:=b 0 sm om;rw[aAb] at c;rw[aAc,c];simp only[if_true,atW];rw[H6 l i (by simpa using hi) (λm hm e=>by
   have:=b (m+1) (by simpa using hm) om
   rwa [aAd] at this) (λh=>by
   have:=d (by simpa using h)
   rwa [aAd] at this)]
theorem xV (l:List (List UInt8))(x:List UInt8):place l x<=l.length:=(List.takeWhile_prefix _).length_le
theorem NP {l:List (List UInt8)}{x:List UInt8}(hi:i<=l.length)(a:∀m (h:m < l.length),m < i->less l[m] x=av)(b:∀h:i < l.length,less l[i] x=au):place l x=i:=H6 l i hi a b
theorem RZ {l:List (List UInt8)}{x:List UInt8}{m:Nat}(h:m < place l x):less (l[m]'(avR h (xV l x))) x=true:=by
 unfold place at h;have hm:=List.all_takeWhile (l:=l) (p:=λk=>less k x);have b:(l.takeWhile λk=>less k x)[m]∈l.takeWhile λk=>less k x:=atP h;have a:=avY.1 hm _ b;have c:(l.takeWhile λk=>less k x)[m]=l[m]'(avR h (xV l x)):=by
  have hp:(l.takeWhile λk=>less k x) <+: l:=List.takeWhile_prefix _;exact hp.getElem h
 rw[c] at a;exact a
theorem Z9 {l:List (List UInt8)}{x:List UInt8}(h:place l x < l.length):less l[place l x] x=false:=by
 unfold place at h ⊢
 induction l with
|nil=>simp at h
|cons a l c=>
  cases b:less a x with
 |false=>simp only[aAc,b];simpa using b
 |true=>
   simp only[aAc,b,if_true,atW] at h ⊢;rw[aAd];exact c (by simpa using h)
theorem uR {l:List (List UInt8)}(h:NX l)(a:i < j)(b:j < l.length):less (l[i]'(om)) l[j]=true:=axX.1 h i j om b a
def ob0:Ob:=.mk 0 0 0 [] [] []
def keyed (o:Ob):Bool:=ai (o.k=7)||decide (o.k=9)
def get (o:Ob)(key:List UInt8):Option Ob:=if keyed o then (if o.keys.idxOf key < o.keys.length then o.kids[o.keys.idxOf key]? else aw) else aw
def put (o:Ob)(key:List UInt8)(v:Ob):Ob:=
 .mk o.k o.n o.g o.s (o.keys.take (place o.keys key)++key::o.keys.drop (place o.keys key+if hit o.keys key then 1 else 0)) (o.kids.take (place o.keys key)++v::o.kids.drop (place o.keys key+if hit o.keys key then 1 else 0))
def cY (key:List UInt8):List (List UInt8)->List Ob->List (List UInt8)×List Ob
|k::ks,c::cs=>if k=key then cY key ks cs else (k::(cY key ks cs).1,c::(cY key ks cs).2)
|_,_=>([],[])
def aM (o:Ob)(key:List UInt8):Ob:=.mk o.k o.n o.g o.s (cY key o.keys o.kids).1 (cY key o.keys o.kids).2
def right (o:Ob):Ob×Int:=if check 1 o≠0 then (ob0,check 1 o) else (o,0)
def set (o:Ob)(key:List UInt8)(v:Ob):Ob×Int:=
 if keyed o=au then (ob0,10) else if check 1 o≠0 then (ob0,check 1 o) else if v.k=0 then (aM o key,0) else right (put o key v)
theorem gQ {o:Ob}(h:check d o=0)(g:keyed o=av):NX o.keys∧o.keys.length=o.kids.length:=by
 rw[E3] at h;split at h
 ·rename_i hw;exact absurd h hw
 ·rename_i hw
  have hw:=ayL.1 hw;unfold why at hw;split at hw
  ·cases hw
  split at hw
  ·cases hw
  split at hw
  ·cases hw
  split at hw
  ·cases hw
  split at hw
  ·cases hw
  split at hw
  ·cases hw
  rename_i a
  have a:form o=true:=by simpa using a
  have e:o.k=7∨o.k=9:=by
   unfold keyed at g;simpa using g
  have b:rising o=true:=by
   unfold form at a;simp only[atZ] at a;have:=a.2;rw[atA e] at this;simpa using this
  unfold rising at b;simp only[atZ,auP] at b;refine⟨?_,b.1⟩;have step:∀i,i+1 < o.keys.length->less (o.keys.getD i []) (o.keys.getD (i+1) [])=true:=by
   intro i hi;have:=avY.1 b.2 (i+1) (avG.2 hi);unfold Az at this;simp only[atZ,axS] at this;have:=this.1.1.2;rcases this with f|f
   ·have:=atQ f;omega
   ·simpa using f
  have gd:∀i (h:i < o.keys.length),o.keys.getD i []=o.keys[i]:=λi h=>by rw[atD,atI h];rfl
  refine axX.2 λi j hi c m=>?_;have:∀d,∀j (c:j < o.keys.length),j=i+1+d->less o.keys[i] o.keys[j]=true:=by
   intro d
   induction d with
  |zero=>
    intro j c he;have:=step i om;rw[gd i hi,gd (i+1) om] at this;subst he;exact this
  |succ d n=>
    intro j c he;have p:=n (i+1+d) om rfl;have l:=step (i+1+d) om;rw[gd _ om,gd _ om] at l;subst he;exact qI p l
  exact this (j - (i+1)) j c om
theorem Hs {key:List UInt8}:∀{ks:List (List UInt8)} {cs:List Ob},ks.length=cs.length->key ∉ ks->cY key ks cs=(ks,cs)
|[],[],_,_=>rfl
|k::ks,c::cs,a,b=>by
  rw[cY,asT (λe=>b (by simp[e])),Hs (by simpa using a) (λh=>b (by simp[h]))]
|[],_::_,a,_=>by simp at a
|_::_,[],a,_=>by simp at a
theorem Sn {key:List UInt8}:∀{ks:List (List UInt8)} {cs:List Ob} {i:Nat},ks.length=cs.length->ks[i]?=ax key->(∀m (h:m < ks.length),m≠i->ks[m]≠key)->cY key ks cs=(ks.take i++ks.drop (i+1),cs.take i++cs.drop (i+1))
|[],[],_,_,h,_=>by simp at h
|k::ks,c::cs,0,a,h,b=>by
  simp only[axW,axC] at h;rw[cY,asU h,Hs (by simpa using a)]
  ·simp
  ·intro hm;obtain⟨m,d,rfl⟩:=awK hm;exact b (m+1) (by simpa using d) om sm
|k::ks,c::cs,i+1,a,h,b=>by
  have e:=b 0 sm om;rw[aAb] at e;rw[cY,asT e,Sn (i:=i) (by simpa using a) (by simpa using h) (λm hm f=>by
   have:=b (m+1) (by simpa using hm) om
   rwa [aAd] at this)]
  simp
|[],_::_,_,a,_,_=>by simp at a
|_::_,[],_,a,_,_=>by simp at a
theorem aeQ {l:List (List UInt8)}(h:NX l)(hi:i < l.length)(b:j < l.length)(c:i≠j):l[i]≠l[j]:=by
 intro e;rcases auC i j with a|a
 ·have:=uR h a b;rw[e,yH] at this;cases this
 ·have:=uR h (show j < i by omega) hi;rw[e,yH] at this;cases this
theorem aiH {l:List (List UInt8)}(h:NX l){x:List UInt8}(b:hit l x=au):x ∉ l:=by
 intro hm;obtain⟨m,a,rfl⟩:=awK hm;have hp:place l l[m]=m:=NP om (λj d c=>uR h c a) (λ_=>yH _);unfold hit at b;rw[hp,atI a] at b;simp at b
theorem UH {o:Ob}(h:check d o=0)(i:keyed o=av)(key:List UInt8):aM o key=if hit o.keys key then .mk o.k o.n o.g o.s (o.keys.take (place o.keys key)++o.keys.drop (place o.keys key+1)) (o.kids.take (place o.keys key)++o.kids.drop (place o.keys key+1)) else o:=by
 obtain⟨c,e⟩:=gQ h i;cases f:hit o.keys key with
|true=>
  have hi:o.keys[place o.keys key]?=ax key:=atQ f;have a:place o.keys key < o.keys.length:=(atT.1 hi).1;have j:o.keys[place o.keys key]=key:=(atT.1 hi).2;unfold aM;rw[Sn e hi (λm hm b=>by rw[<-j];exact aeQ c hm a b)];rfl
|false=>
  unfold aM;rw[Hs e (aiH c f)];cases o;rfl
end Vl
end
section
open Eng
def gA(t0 t1 t7 t8 w)(N1:JT)(K:KT):=nz f207 21 [N1] [nh 5 [8]] [] (zg [0,1,7,8] [t0,t1,t7,t8]) w K
def iB(t0 t1 w)(K:KT):=nz f207 1 [] [(5,[8],λs v j w f=>gA (s 0) (s 1) (s 7) (vg v 0) w (f 0) K)] [] (zg [0,1] [t0,t1]) w K
theorem mZ{t0 t1 w K}:iB t0 t1 w K->Calls ah 207 #[t0,t1] w K:=cz [] [(2,[8])] func207
end
section
open Eng Go.RowKit
theorem T5:eP ah 9=true:=krx
theorem adM {l:List (List UInt8)}{x:List UInt8}(h:i < l.length)(a:x ∉ l.take i)(he:l[i]=x):l.idxOf x=i:=by
 have e:l=l.take i++(l[i]::l.drop (i+1)):=by
  rw[<-auL h,auR]
 rw[e,List.idxOf_append,asT a,he,List.idxOf_cons_self,atF];omega
theorem UZ (va:aq)(l:List (List UInt8))(x:List UInt8)(w:ao)(c:Sl w va 1 l.length (bF l))(f:l.length<=1099511627776) :
  Ret ah 207 #[va,.string ⟨x.toArray⟩] w (λv w'=>v=.int .i64 (if l.idxOf x < l.length then (l.idxOf x:Int) else -1)∧w=w'):=by
 refine aL λK d=>mZ ?_;unfold iB nz;rw[aZ atN c];refine loop (λvs w'=>∃(i:Nat),vs=[.int .i64 i]∧i<=l.length∧x ∉ l.take i∧w=w') (λvs _=>l.length - n0 vs) ⟨0,rfl,om,sm,rfl⟩ ?_;rintro vs w2 ⟨i,rfl,hi,hm,rfl⟩ _;simp only[gA,gd,rs,nz];by_cases b:(i:Int) < (l.length:Int)
 ·have a:i < l.length:=om
  simp only[b,asX,rs];refine Hx (.string ⟨(l[i]).toArray⟩) atN krx c om (by rw[atC];exact eW a) λq e=>?_;rw[aR T5 e];simp only[rs];by_cases he:x=l[i]
  ·simp only[<-he,asX,rs];have:=adM a hm he.symm;exact d _ _ ⟨by rw[this,asU a],rfl⟩
  ·simp only[he,asW,rs];rw[aA om om];refine aS ⟨i+1,rfl,om,?_,rfl⟩ (by simp[n0,RowKit.intOf];omega);rw[List.take_add_one,atI a];simp only[Option.toList,auF,auB,not_or];exact⟨hm,he⟩
 ·simp only[b,asW,i_f];rw[auG om] at hm;exact d _ _ ⟨by rw[asT (by rw[aAK];exact hm)],rfl⟩
def obC (o:Ob)(vk vc:aq):List Value:=[.int .i64 o.k,.int .i64 o.n,.int .i64 o.g,.string ⟨o.s.toArray⟩,vk,vc]
def obV (o:Ob)(vk vc:aq):Value:=.agg (obC o vk vc).toArray
def obE (b:Nat)(o:Ob)(vk vc:aq):Ent:=.cells b (obC o vk vc) 25
structure rE (A:Nat->Prop) (w:ao) (o:Ob) (vk vc:aq) (cs:List aq):Prop where
 keys:SlA A w vk 1 o.keys.length (bF o.keys)
 kids:SlA A w vc 6 o.kids.length cs
 all:OVs A w cs o.kids
theorem OV.open {o:Ob}(h:OV A w v o):∃vk vc cs,v=obV o vk vc∧rE A w o vk vc cs:=by
 cases o with
|mk k n g s keys kids=>
  rw[OV] at h;obtain⟨vk,vc,cs,rfl,a,b,c⟩:=h;exact⟨vk,vc,cs,rfl,a,b,c⟩
theorem rE.ov {o:Ob}(h:rE A w o vk vc cs):OV A w (obV o vk vc) o:=by
 cases o with
|mk k n g s keys kids=>
  rw[OV];exact⟨vk,vc,cs,rfl,h.keys,h.kids,h.all⟩
theorem rE.kept {A:Nat->Prop}{w w':ao}{o:Ob}{vk vc:aq}{cs:List aq}(h:rE A w o vk vc cs)(a:Kept A w w'):rE A w' o vk vc cs:=
 ⟨h.keys.kept a,h.kids.kept a,OVs.kept a _ _ h.all⟩
theorem Vm (a:∀b,A b->b < w.heap.size)(h:Below w.heap.size w w'):Kept A w w':=λb c=>h.block b (a b c)
theorem cH.keptIn (h:Own w0 w L):Kept (InW w0) w0 w:=Vm (λ_ h=>h) h.done
theorem OV.own {o:Ob}(h:OV (InW w0) w0 v o)(a:Own w0 w L):OV (InW w0) w v o:=OV.kept (cH.keptIn a) o v h
theorem OV.at_ {o:Ob}(h:OV (InW w0) w0 v o)(a:Own w0 w L):OV (InW w) w v o:=OV.mono (λ_ b=>avR b a.size) o v (h.own a)
theorem rE.own {o:Ob}(h:rE (InW w0) w0 o vk vc cs)(a:Own w0 w L):rE (InW w0) w o vk vc cs:=h.kept (cH.keptIn a)
theorem SlA.one {n:Nat}(h:SlA A w v sz n cs):v.oneCell'=true:=by
 obtain⟨⟨_,a,cap,rfl,_⟩,_⟩:=h;rfl
theorem kE:I2 ah 25=ax 6:=krx
theorem LV:(Tryz.prog.info? 25).map (·.size)=ax 6:=krx
theorem asG:eP ah 23=true:=krx
theorem Q3:eP ah 22=true:=krx
theorem nI65:eP ah 2=true:=krx
theorem bZ:eP ah 3=true:=krx
theorem Io:eP ah 9=true:=krx
theorem alW:kC ah 25 0=ax 0:=krx
theorem arD:kC ah 25 1=ax 1:=krx
theorem aqD:kC ah 25 2=ax 2:=krx
theorem amX:kC ah 25 3=ax 3:=krx
theorem aoA:kC ah 25 4=ax 4:=krx
theorem arL:kC ah 25 5=ax 5:=krx
section
variable {w:ao}{PK:PKT}{K:VWP}{S:Nat->Prop}{w0:ao}{L:List Ent}
theorem eO {off:Nat}:DoX ah (mFA 25 (.pointer (ax ⟨b,off,aw⟩)) 0) w PK K=K (.pointer (ax ⟨b,off,aw⟩)) w:=aO alW
theorem GI {off:Nat}:DoX ah (mFA 25 (.pointer (ax ⟨b,off,aw⟩)) 1) w PK K=K (.pointer (ax ⟨b,off+1,aw⟩)) w:=aO arD
theorem Yq {off:Nat}:DoX ah (mFA 25 (.pointer (ax ⟨b,off,aw⟩)) 2) w PK K=K (.pointer (ax ⟨b,off+2,aw⟩)) w:=aO aqD
theorem Dn {off:Nat}:DoX ah (mFA 25 (.pointer (ax ⟨b,off,aw⟩)) 3) w PK K=K (.pointer (ax ⟨b,off+3,aw⟩)) w:=aO amX
theorem lE {off:Nat}:DoX ah (mFA 25 (.pointer (ax ⟨b,off,aw⟩)) 4) w PK K=K (.pointer (ax ⟨b,off+4,aw⟩)) w:=aO aoA
theorem jL {off:Nat}:DoX ah (mFA 25 (.pointer (ax ⟨b,off,aw⟩)) 5) w PK K=K (.pointer (ax ⟨b,off+5,aw⟩)) w:=aO arL
theorem eI (o:Ob)(a:vk.oneCell'=av)(c:vc.oneCell'=av)(d:cH S w0 w L)(k:∀b w',cH S w0 w' (obE b o vk vc::L)->K (.pointer (ax ⟨b,0,aw⟩)) w'):DoX ah (Hr 25 (obV o vk vc)) w PK K:=by
 cases vk<;>first|(cases a;done)|skip
 all_goals cases vc<;>first|(cases c;done)|exact bI (λb=>.pointer (ax ⟨b,0,aw⟩)) (obC o _ _) 25 (λ_=>by kernel_rfl) d k
def ob0:Ob:=.mk 0 0 0 [] [] []
theorem dM (a:cH S w0 w L)(k:∀b w',cH S w0 w' (obE b ob0 (.slice aw 0 0) (.slice aw 0 0)::L)->K (.pointer (ax ⟨b,0,aw⟩)) w'):DoX ah (DO 25) w PK K:=
 bI (λb=>.pointer (ax ⟨b,0,aw⟩)) (obC ob0 (.slice aw 0 0) (.slice aw 0 0)) 25 (λ_=>by kernel_rfl) a k
theorem yO (o:Ob)(b:vk.oneCell'=av)(c:vc.oneCell'=av):∀v∈obC o vk vc,v.oneCell'=true:=by
 intro v a;simp only[obC,atL,avO,or_false] at a;rcases a with rfl|rfl|rfl|rfl|rfl|rfl<;>first|rfl|assumption
theorem aP (i:Nat){o o':Ob}{vk' vc':aq}(a:vk'.oneCell'=av)(c:vc'.oneCell'=av)(d:cH S w0 w L)(hi:L[i]?=ax (obE b o vk vc))(k:∀w',cH S w0 w' (L.set i (obE b o' vk' vc'))->K undef w') :
  DoX ah (aV 25 (.pointer (ax ⟨b,0,aw⟩)) (obV o' vk' vc')) w PK K:=jK i d hi (new:=obC o' vk' vc') LV (yO o' a c) rfl k
theorem sA (a:cH S w0 w L)(i:Nat){o:Ob}(hi:L[i]?=ax (obE b o vk vc)):DoX ah (aK 3 (.pointer (ax ⟨b,0,aw⟩))) w PK K=K (.int .i64 o.k) w:=aR bZ (a.cell i hi 0 rfl)
theorem LX (a:cH S w0 w L)(i:Nat){o:Ob}(hi:L[i]?=ax (obE b o vk vc)):DoX ah (aK 2 (.pointer (ax ⟨b,0+1,aw⟩))) w PK K=K (.int .i64 o.n) w:=aR nI65 (a.cell i hi 1 rfl)
theorem ob_g (a:cH S w0 w L)(i:Nat){o:Ob}(hi:L[i]?=ax (obE b o vk vc)):DoX ah (aK 3 (.pointer (ax ⟨b,0+2,aw⟩))) w PK K=K (.int .i64 o.g) w:=aR bZ (a.cell i hi 2 rfl)
theorem Mb (a:cH S w0 w L)(i:Nat){o:Ob}(hi:L[i]?=ax (obE b o vk vc)):DoX ah (aK 9 (.pointer (ax ⟨b,0+3,aw⟩))) w PK K=K (.string ⟨o.s.toArray⟩) w:=aR Io (a.cell i hi 3 rfl)
theorem eN (a:cH S w0 w L)(i:Nat){o:Ob}(hi:L[i]?=ax (obE b o vk vc)):DoX ah (aK 22 (.pointer (ax ⟨b,0+4,aw⟩))) w PK K=K vk w:=aR Q3 (a.cell i hi 4 rfl)
theorem cX (a:cH S w0 w L)(i:Nat){o:Ob}(hi:L[i]?=ax (obE b o vk vc)):DoX ah (aK 23 (.pointer (ax ⟨b,0+5,aw⟩))) w PK K=K vc w:=aR asG (a.cell i hi 5 rfl)
theorem iV (a:cH S w0 w L)(i:Nat){o:Ob}(hi:L[i]?=ax (obE b o vk vc)):DoX ah (aK 25 (.pointer (ax ⟨b,0,aw⟩))) w PK K=K (obV o vk vc) w:=Jn (a.agg i hi kE)
theorem aiG {os:List Ob}(f:Sl w vc 6 os.length cs)(c:OVs A w cs os)(hi:i < os.length)
  (k:∀v,OV A w v os[i]->K v w):DoX ah (mIA 23 vc (.int .i64 (i:Int))) w PK λt w=>DoX ah (aK 25 t) w PK2 K:=by
 obtain⟨b,off,cap,rfl,g⟩:=bU f om;refine aC (dP atO LV om om) |>.mpr ?_;rw[atC];obtain⟨a,h,e,d⟩:=OVs.get os cs i hi c;refine aC (bB (v:=.agg a.toArray) (AtV.agg kE h λj v l=>?_)) |>.mpr (k _ e);rw[awP];exact g _ _ (d j v l)
end
end
end Go.Proofs.YtlipjfcbjemicaaGreatDoor
