/- Parts of the proof. -/
import Derived.Test.YtlgndjkieegnaaaGreatDoorRows
import Derived.Shelf.Strings.Builder1
import Derived.Shelf.Strings.Builder2
import Derived.Shelf.Small.Strs
import Derived.Shelf.Small.Wraps
import Derived.Shelf.Strings.BuilderF
import Derived.Shelf.Strings.BuilderK
import Derived.Shelf.Strings.Builder2Cap
import Derived.Shelf.Strings.Search1
import Derived.Shelf.Strings.Prefix
import Derived.Shelf.Bits.Mul64
import Derived.Shelf.Strings.Repeat
import Derived.Shelf.Strings.BuilderCap
import Derived.Test.YtlgndjkieegnaaaGreatDoorProg
import Derived.Recover
import Derived.Shelf.Strings.SlTrimAscii
import Derived.Lib.Repeat
import Derived.SliceStrings
import Derived.Laws.StructEq
import Derived.Sort.Walk0
import Derived.Laws.CopyRow
import Derived.Lib.AppendZerosOnto
import Derived.Lib.SliceRun
import Derived.Lib.Overlaps
import Derived.Laws.Externs
import Derived.Laws.RangeAny
import Derived.Test.YtlgndjkieegnaaaGreatDoorMjamfioao
set_option linter.all false
set_option maxRecDepth 20000
open Go.Proofs.Tryz
open Go.Proofs.Tryz renaming prog->ah
open Option renaming some->ay,none->ax
open Bool renaming true->aw,false->au
open Go renaming Value->aq,World->ao
open Decidable renaming decide->ai
namespace Go.Proofs
abbrev auQ:=@underlying9
abbrev auR:=@underlying22
abbrev auU:=@underlying23
abbrev avB:=@underlying70
abbrev avH:=@underlying80
abbrev avY:=@underlying3
abbrev awI:=@underlying5
abbrev axA:=@underlying32
abbrev axI:=@underlying326
abbrev azE:=@underlying20
abbrev azG:=@underlying62
abbrev azW:=@underlying54
abbrev aAj:=@underlying98
abbrev aBa:=@underlying254
abbrev aBb:=@underlying291
abbrev aBc:=@underlying276
abbrev aBu:=@underlying358
end Go.Proofs
namespace Go.Proofs.YtlgndjkieegnaaaGreatDoor
variable{A S:Nat->Prop}{C:ao->Prop}{D U:TypeId}{K K':VWP}{L:List Eng.Ent}{L0:Loop}{P:Program}{PK PK2:PKT}{W w w' w0:ao}{a hi lo:Int}{args ca fa:Array aq}{b cap d f fuel i j m sz t:Nat}{cb:Array Bool}{cs cur new news xs:List aq}{e:Eng.Ent}{k':IntKind}{key:List UInt8}{q want y:Bool}{v v' v1 v2 vc vk:aq}{xo yo:Operand}{α β:Type}{σ:Eng.Sg}
section
namespace Eng
open Go.RowKit
theorem cS (b off n:Nat):(⟨b,off,ax⟩:Addr).add n=⟨b,off+n,ax⟩:=by unfold Addr.add;split<;>simp_all
def nN (P:Program)(T:TypeId)(f:Nat):Option Nat:=
 match P.underlying T with
|some (.struct fs)=>match fs[f]? with
 |some fd=>match P.info? fd.type with
  |some i=>match i.size with
   |0=>ax
   |_+1=>ay fd.offset
  |none=>ax
 |none=>ax
|_=>ax
def elB (P:Program)(E:TypeId)(sz bytes:Nat):Bool:=
 match P.info? E with
|some i=>Nat.beq i.size sz&&Nat.beq i.bytes bytes&&(match i.zero with|some z=>Nat.beq z.cells.size sz|none=>au)
|none=>au
theorem mA {E:TypeId}{bytes:Nat}(h:elB P E sz bytes=aw):∃i z,P.info? E=ay i∧i.zero=ay z∧i.size=sz∧i.bytes=bytes∧z.cells.size=sz:=by
 unfold elB at h;split at h
 ·rename_i i hi
  simp only[auY,Nat.beq_eq] at h;obtain⟨⟨b,c⟩,a⟩:=h;split at a
  ·rename_i z d;exact⟨i,z,hi,d,b,c,by simpa using a⟩
  ·cases a
 ·cases h
section
variable {S:Nat->Prop}{P:Program}{w:ao}{PK:PKT}{K:VWP}
theorem bE {T:TypeId}{off o:Nat}(h:nN P T f=ay o):(mFA T (af b off) f).run P w=.ok (.value (af b (off+o))) w:=by
 unfold nN at h;split at h
 ·rename_i fs hu
  split at h
  ·rename_i fd a
   split at h
   ·rename_i i hi
    cases c:i.size with
   |zero=>rw[c] at h;cases h
   |succ m=>
     rw[c] at h;simp only[ayK] at h;subst h;refine cJ ?_;simp[Instr.fieldAt,run_underlying hu,a,Instr.sureAddr,fieldPlace,sizeOf,typeInfo,hi,c,cS]
   ·cases h
  ·cases h
 ·cases h
theorem aW {T:TypeId}{off o:Nat}(h:nN P T f=ay o):DoX P (mFA T (af b off) f) w PK K=K (af b (off+o)) w:=aD (bE h)
theorem dW {a:Addr}:(JL (.pointer (ay a))).run P w=.ok (.value (.pointer (ay a))) w:=by simp[JL,execOp]
def MW (k:IntKind)(x y:Int):Int:=k.wrap ((BitVec.ofInt k.bits x &&& BitVec.ofInt k.bits y).toNat:Int)
def bOr (k:IntKind)(x y:Int):Int:=k.wrap ((BitVec.ofInt k.bits x ||| BitVec.ofInt k.bits y).toNat:Int)
theorem afJ {T:TypeId}{k:IntKind}{b:Int}:(iQ .and T (.int k a) (.int k b)).run P w=.ok (.value (.int k (MW k a b))) w:=cJ (by simp[binOp,Op.intBits,MW])
theorem r_or {T:TypeId}{k:IntKind}{b:Int}:(iQ .or T (.int k a) (.int k b)).run P w=.ok (.value (.int k (bOr k a b))) w:=cJ (by simp[binOp,Op.intBits,bOr])
theorem ajJ {T:TypeId}{k:IntKind}{b:Int}(h:0<=b):(iQ .shr T (.int k a) (.int k' b)).run P w=.ok (.value (.int k (a.fdiv (2 ^ (min b.toNat k.bits))))) w:=cJ (by
 have c:¬b < 0:=om
 simp[binOp,Op.shift,c])
theorem ahE {T:TypeId}{k:IntKind}{b:Int}(h:0<=b):(iQ .shl T (.int k a) (.int k' b)).run P w=.ok (.value (.int k (k.wrap (a*2 ^ (min b.toNat k.bits))))) w:=cJ (by
 have c:¬b < 0:=om
 simp[binOp,Op.shift,c])
theorem YR {T:TypeId}{k:IntKind}{b:Int}:DoX P (iQ .and T (.int k a) (.int k b)) w PK K=K (.int k (MW k a b)) w:=aD afJ
theorem b_or {T:TypeId}{k:IntKind}{b:Int}:DoX P (iQ .or T (.int k a) (.int k b)) w PK K=K (.int k (bOr k a b)) w:=aD r_or
theorem Ix {T:TypeId}{k:IntKind}{b:Int}(h:0<=b):DoX P (iQ .shr T (.int k a) (.int k' b)) w PK K=K (.int k (a.fdiv (2 ^ (min b.toNat k.bits)))) w:=aD (ajJ h)
theorem II {T:TypeId}{k:IntKind}{b:Int}(h:0<=b):DoX P (iQ .shl T (.int k a) (.int k' b)) w PK K=K (.int k (k.wrap (a*2 ^ (min b.toNat k.bits)))) w:=aD (ahE h)
theorem abS {T:TypeId}{k:IntKind}{i:Int}{a:List UInt8}{c:UInt8}(h:P.underlying T=ay .string)(b:0<=i)(d:a[i.toNat]?=ay c):(mIx T (ae a) (.int k i)).run P w=.ok (.value (.int .u8 (c.toNat:Int))) w:=by
 refine cJ ?_;have e:(⟨a.toArray⟩:ByteArray)[i.toNat]?=ay c:=by
  have f:i.toNat < a.length:=(auV.1 d).1;have g:i.toNat < (⟨a.toArray⟩:ByteArray).size:=by rw[dX];exact f
  rw[getElem?_pos (⟨a.toArray⟩:ByteArray) i.toNat g];have j:=(auV.1 d).2;rw[<-j];rfl
 simp only[Instr.index,asIntOf,run_underlying h,b,e];simp[b,e,run_underlying h]
theorem aqO {E:TypeId}{bytes:Nat}{T:TypeId}{i:TypeInfo}{z:aq}(r:P.underlying T=ay (.slice E))(hi:P.info? E=ay i)(C:i.zero=ay z)(h:i.size=sz)(l:i.bytes=bytes)(s:z.cells.size=sz)(t:0 < sz)
  {v v':aq} {w':ao} {n m c:Nat} {xs news:List aq} {a:Addr} (d:w.ownsRowF 0 E sz v n xs) (q:news.length=m*sz) (b:∀j u,news[j]?=ay u->w.cell? (a.add j)=ay u) (D:∀u∈news,u.oneCell'=aw)
  (G:n+m<=9223372036854775807) (F:(n+m)*bytes<=140737488355328) (f:(Builtin.append_ #[T,T] U #[v,.slice (ay a) m c]).run P w=.ok v' w') :
  ∀k,v'.ownBlock=ay k->v.ownBlock=ay k∨w.heap.size<=k:=by
 intro k x;have o:n+m<=maxLen:=by simp only[maxLen];omega
 rcases d.2 with ⟨rfl,rfl⟩|⟨g,cap,cur,fz,rfl,H,I,y,J,K,A,B⟩
 ·obtain⟨v2,w2,L,M,N,O⟩:=run_append_ownF (P:=P) w w.heap.size T U E i z sz bytes r hi C h l s t (.slice ax 0 0) 0 xs ⟨d.1,.inl ⟨rfl,rfl⟩⟩ a m c news q b D o F (auL _);rw[L] at f;cases f;exact .inr (World.ownsRowF.lt M k x).1
 ·subst h;subst l;by_cases e:n+m<=cap
  ·have p:n*i.size+news.length<=cur.size:=by rw[q,A,<-axE];exact awC _ e
   rw[run_append_roomF (P:=P) w T U E i r hi g n cap cur fz I y a m c news q b D e p] at f;cases f;exact .inl x
  ·have holds:∀j u,xs[j]?=ay u->w.cell? ((⟨g,0,ax⟩:Addr).add j)=ay u:=d.cells (g:=g) rfl;rw[run_append_grow (P:=P) w T U E i z r hi C ⟨g,0,ax⟩ n cap xs d.1 holds a m c news q b om om (growslice_fits om F)] at f;cases f;simp only[Value.ownBlock,ayK] at x;exact .inr om
theorem Ls {T E:TypeId}{cs:Array Bool}{bytes n:Nat}(t:P.underlying T=ay (.slice E))(he:elB P E sz bytes=aw)(f:0 < sz)
  (c:w.ownsRowF 0 E sz v n xs) (I:Sl w v2 sz m news) (B:∀u∈news,u.oneCell'=aw) (C:(n+m)*bytes<=140737488355328) (J:n+m<=140737488355328) :
  ∃v' w',(mB .append #[T,T] U cs #[v,v2]).run P w=.ok (.value v') w'∧Mf (.row E sz v n xs) (.row E sz v' (n+m) (xs++news)) w w':=by
 obtain⟨i,z,hi,D,h,k,l⟩:=mA he;obtain⟨o,a,cap,rfl,K,L⟩:=I;have x:n+m<=maxLen:=by simp only[maxLen];omega
 have fin:∀(a:Addr),(∀j u,news[j]?=ay u->w.cell? (a.add j)=ay u)->∃v' w',(mB .append #[T,T] U cs #[v,.slice (ay a) m cap]).run P w=.ok (.value v') w'∧Mf (.row E sz v n xs) (.row E sz v' (n+m) (xs++news)) w w':=by
  intro a F;obtain⟨v',w',G,M,N,O⟩:=run_append_ownF (P:=P) w 0 T U E i z sz bytes t hi D h k l f v n xs c a m cap news o F B x C (avG _);refine⟨v',w',?_,XM N,M,aqO (P:=P) t hi D h k l f c o F B om C G⟩;simp[mB,builtin,G]
 cases a with
|some p=>
  refine fin p λj u H=>?_;have q:j < news.length:=(auV.1 H).1;have hm:0 < m:=by
   rcases awQ m with r|r
   ·subst r;simp at o;rw[o] at q;simp at q
   ·exact r
  obtain⟨y,d⟩:=L p rfl;have:=y hm;obtain⟨b,off,spot⟩:=p;simp only at this d;subst this;rw[cS];exact d j u H
|none=>
  have r:=K rfl;subst r;have s:news=[]:=ayY (by simpa using o);subst s;refine⟨v,w,?_,by rw[avA];exact Mf.refl (e:=.row E sz v n xs) c⟩;rcases c.2 with ⟨rfl,rfl⟩|⟨g,Q,cur,fz,rfl,_,_,_,A,_⟩
  ·simp[mB,builtin,Builtin.append_,run_underlying t,sizeOf,typeInfo,hi,Builtin.lenOf,Builtin.firstCells]
  ·simp[mB,builtin,Builtin.append_,run_underlying t,sizeOf,typeInfo,hi,Builtin.lenOf,Builtin.firstCells,A,storeCells]
def roomy (v:aq):Prop:=∀a k,v≠.slice (ay a) k 0
theorem roomy_row {E:TypeId}{n:Nat}(h:w.ownsRowF 0 E sz v n xs)(l:0 < n):roomy v:=by
 intro a k c;rcases h.2 with ⟨rfl,_⟩|⟨g,cap,cur,fz,rfl,d,m,e,f,i,j,b⟩
 ·cases c
 ·injection c with o p c3
  omega
theorem BE (l:List UInt8):Lib.strCells ⟨l.toArray⟩=bA l:=by
 simp[Lib.strCells,bA]
theorem GA {T h E:TypeId}{cs:Array Bool}{n:Nat}{l:List UInt8}(s:P.underlying T=ay (.slice E))(hu:P.underlying h=ay .string)(he:elB P E 1 1=aw)(W:P.underlying E=ay (.int .u8))
  (t:(P.info? E).bind (·.zero)=ay (.int .u8 0))
  (b:w.ownsRowF 0 E 1 v n xs) (L:n+l.length<=140737488355328) :
  ∃v' w',(mB .append #[T,h] U cs #[v,ae l]).run P w=.ok (.value v') w'∧Mf (.row E 1 v n xs) (.row E 1 v' (n+l.length) (xs++bA l)) w w'∧(roomy v->roomy v'):=by
 obtain⟨i,z,hi,X,e,m,M⟩:=mA he;have o:i.zero=ay (.int .u8 0):=by rw[hi] at t;exact t
 have c:=dX l;have x:n+(⟨l.toArray⟩:ByteArray).size<=maxLen:=by rw[c];simp only[maxLen];omega
 obtain⟨v',w',f,A,N,O⟩:=Lib.run_append_own_stringF (P:=P) w 0 T h U E i s hu hi o e m v n xs b ⟨l.toArray⟩ x (by rw[c];omega) (avG _);rw[BE,c] at A;have B:roomy v->roomy v':=by
  intro Q a k y;rcases awQ (n+l.length) with K|K
  ·rcases b.2 with ⟨rfl,_⟩|⟨g,cap,cur,fz,rfl,C,D,p,F,G,q,r⟩
   ·have:=O.2 ⟨rfl,by rw[c];omega⟩;rw[this] at y;cases y
   ·have d:n+(⟨l.toArray⟩:ByteArray).size<=cap:=by rw[c];omega
    rw[Lib.run_append_room_stringF (P:=P) w T h U E i s hu hi e g n cap cur fz D (by simpa using p) ⟨l.toArray⟩ d (by simp at q;omega)] at f
    injection f with H R
    rw[<-H] at y
    injection y with Y Z c3
    exact Q ⟨g,0,ax⟩ n (by rw[c3])
  ·exact roomy_row A K a k y
 refine⟨v',w',by simp[mB,builtin,f],⟨XM N,A,?_⟩,B⟩;intro k I;rcases b.2 with ⟨rfl,rfl⟩|⟨g,cap,cur,fz,rfl,C,D,p,F,G,q,r⟩
 ·obtain⟨v2,w2,S,V,q3,q4⟩:=Lib.run_append_own_stringF (P:=P) w w.heap.size T h U E i s hu hi o e m (.slice ax 0 0) 0 xs ⟨b.1,.inl ⟨rfl,rfl⟩⟩ ⟨l.toArray⟩ x (by rw[c];omega) (auL _);rw[S] at f;cases f;exact .inr (World.ownsRowF.lt V k I).1
 ·by_cases d:n+(⟨l.toArray⟩:ByteArray).size<=cap
  ·rw[Lib.run_append_room_stringF (P:=P) w T h U E i s hu hi e g n cap cur fz D (by simpa using p) ⟨l.toArray⟩ d (by simp at q;omega)] at f;cases f;exact .inl I
  ·have holds:∀j u,xs[j]?=ay u->w.cell? ((⟨g,0,ax⟩:Addr).add j)=ay u:=b.cells (g:=g) rfl;rw[Lib.run_append_grow_string (P:=P) w T h U E i (.int .u8 0) s hu hi o ⟨g,0,ax⟩ n cap xs (by rw[e];simpa using b.1) holds ⟨l.toArray⟩ om (by rw[c];omega) (by rw[m];exact growslice_fits om (by rw[c];omega))] at f;cases f;have J:ay w.heap.size=ay k:=I;cases J;exact .inr (auL _)
theorem bT.swap {f:Ent}(d:bT S w0 w (e::f::L)):bT S w0 w (f::e::L):=by
 obtain⟨i,a2⟩:=axD.1 d.apart;obtain⟨a3,a4⟩:=axD.1 a2;exact⟨d.grew,λg b=>d.all g (by simp only[auI] at b ⊢;rcases b with h|h|h<;>simp[h]),.cons (λg b k c a=>by
  rcases auI.1 b with rfl|b
  ·exact i f sm k a c
  ·exact a3 g b k c a) (.cons (λg b k c a=>i g (by simp[b]) k c a) a4)⟩
theorem T3 (i:Nat){R:aq->Ent->Prop}(a:bT S w0 w L)(hi:L[i]?=ay e)(h:Ret P f args w (λv w'=>∃e',R v e'∧Mf e e' w w'))
  (k:∀v e' w',R v e'->bT S w0 w' (L.set i e')->K v w'):cR P f args w PK K:=
 Eh h λv w' ⟨e',b,c⟩=>k v e' w' b (a.turn i hi c)
theorem aK {R:aq->Prop}(a:bT S w0 w L)(h:Ret P f args w (λv w'=>R v∧Below w.heap.size w w'))
  (k:∀v w',R v->bT S w0 w' L->K v w'):cR P f args w PK K:=
 Eh h λv w' ⟨b,c⟩=>k v w' b (a.grow c)
end
end Eng
end
end Go.Proofs.YtlgndjkieegnaaaGreatDoor

namespace Go.Proofs
open Go.Shelf
open Go.RowKit in
def Tryz.QA:Go.Shelf.Ren:=⟨λ|137=>160|217=>197|266=>230|n=>n,λ|9=>9|5=>5|3=>3|n=>n,λ|n=>n⟩
theorem Tryz.ahQ:Go.Proofs.Lays.n137 ah Tryz.QA:={
 mixed:=krx
 f137:=Tryz.func160.trans (congrArg ay krx)
 f217:=Tryz.func197.trans (congrArg ay krx)
 f266:=Tryz.func230.trans (congrArg ay krx)
 t3:=avY
 a3:=Tryz.isAgg3
 z3:=Tryz.sizeOf3
 v3:=Tryz.zeroValue3
 t5:=awI
 a5:=Tryz.isAgg5
 z5:=Tryz.sizeOf5
 v5:=Tryz.zeroValue5
 t9:=auQ
 a9:=Tryz.isAgg9
 z9:=Tryz.sizeOf9
 v9:=Tryz.zeroValue9 }
open Go.RowKit in
theorem Tryz.strings_IndexByte (s:ByteArray)(c:Int)(w:ao) :
  Calls ah 160 #[.string s,.int .u8 c] w λe w'=>e=.returned (.int .i64 (Lib.indexByte s.data.toList c.toNat.toUInt8))∧w'=w:=Any.strings_IndexByte Tryz.ahQ s c w
open Go.RowKit Go.Lib in
def Tryz.Ra:Go.Shelf.Ren:=⟨λ|212=>209|263=>235|264=>236|n=>n,λ|46=>98|51=>171|146=>248|53=>165|148=>250|n=>n,λ|n=>n⟩
theorem Tryz.aiB:Go.Proofs.Lays.n212 ah Tryz.Ra:={
 mixed:=krx
 f212:=Tryz.func209.trans (congrArg ay krx)
 f263:=Tryz.func235.trans (congrArg ay krx)
 f264:=Tryz.func236.trans (congrArg ay krx)
 t46:=aAj
 a46:=Tryz.isAgg98
 z46:=Tryz.sizeOf98
 v46:=Tryz.zeroValue98
 t51:=underlying171
 a51:=Tryz.isAgg171
 z51:=Tryz.sizeOf171
 v51:=Tryz.zeroValue171
 t53:=underlying165
 a53:=Tryz.isAgg165
 z53:=Tryz.sizeOf165
 v53:=Tryz.zeroValue165
 t146:=underlying248
 a146:=Tryz.isAgg248
 z146:=Tryz.sizeOf248
 v146:=Tryz.zeroValue248
 t148:=underlying250
 a148:=Tryz.isAgg250
 z148:=Tryz.sizeOf250
 v148:=Tryz.zeroValue250 }
open Go.RowKit Go.Lib in
theorem Tryz.bits_Mul (x y:Nat)(a:x < 18446744073709551616)(b:y < 18446744073709551616)(w:ao) :
  Calls ah 209 #[.int .u64 x,.int .u64 y] w λe w'=>e=.returned (.tuple #[.int .u64 ((x*y / 18446744073709551616:Nat):Int),.int .u64 ((x*y % 18446744073709551616:Nat):Int)])∧w'=w:=Any.bits_Mul Tryz.aiB x y a b w
end Go.Proofs
namespace Go.Proofs.YtlgndjkieegnaaaGreatDoor
variable{A S:Nat->Prop}{C:ao->Prop}{D U:TypeId}{K K':VWP}{L:List Eng.Ent}{L0:Loop}{P:Program}{PK PK2:PKT}{W w w' w0:ao}{a hi lo:Int}{args ca fa:Array aq}{b cap d f fuel i j m sz t:Nat}{cb:Array Bool}{cs cur new news xs:List aq}{e:Eng.Ent}{k':IntKind}{key:List UInt8}{q want y:Bool}{v v' v1 v2 vc vk:aq}{xo yo:Operand}{α β:Type}{σ:Eng.Sg}
section
open Eng Go.RowKit
theorem Ns (a b:List UInt8):bA (a++b)=bA a++bA b:=by simp[bA]
end
end Go.Proofs.YtlgndjkieegnaaaGreatDoor







namespace Go.Proofs.YtlgndjkieegnaaaGreatDoor
variable{A S:Nat->Prop}{C:ao->Prop}{D U:TypeId}{K K':VWP}{L:List Eng.Ent}{L0:Loop}{P:Program}{PK PK2:PKT}{W w w' w0:ao}{a hi lo:Int}{args ca fa:Array aq}{b cap d f fuel i j m sz t:Nat}{cb:Array Bool}{cs cur new news xs:List aq}{e:Eng.Ent}{k':IntKind}{key:List UInt8}{q want y:Bool}{v v' v1 v2 vc vk:aq}{xo yo:Operand}{α β:Type}{σ:Eng.Sg}
section
open Eng Go.RowKit
theorem SL (c:UInt8):∀l:List UInt8,(Lib.indexByte l c=-1∧l.takeWhile (λx=>x != c)=l∧l.dropWhile (λx=>x != c)=[]) ∨
  ∃i:Nat,Lib.indexByte l c=i∧i < l.length∧l.takeWhile (λx=>x != c)=l.take i∧l.dropWhile (λx=>x != c)=l.drop i
|[]=>.inl ⟨rfl,rfl,rfl⟩
|b::l=>by
  by_cases h:b=c
  ·subst h;exact .inr ⟨0,by simp[Lib.indexByte],sm,sm,sm⟩
  ·have g:(b==c)=false:=by simpa using h
   have a:(b != c)=true:=by simpa using h
   rcases SL c l with ⟨d,j,f⟩|⟨i,d,j,f,k⟩
   ·exact .inl ⟨by simp[Lib.indexByte,g,d],by simp[a,j],by simp[a,f]⟩
   ·refine .inr ⟨i+1,?_,by simp;omega,by simp[a,f],by simp[a,k]⟩;have e:((i:Int)==-1)=false:=sm
    simp only[Lib.indexByte,g,d,e,ayQ,if_false];omega
end
end Go.Proofs.YtlgndjkieegnaaaGreatDoor

namespace Go.Proofs.YtlgndjkieegnaaaGreatDoor
variable{A S:Nat->Prop}{C:ao->Prop}{D U:TypeId}{K K':VWP}{L:List Eng.Ent}{L0:Loop}{P:Program}{PK PK2:PKT}{W w w' w0:ao}{a hi lo:Int}{args ca fa:Array aq}{b cap d f fuel i j m sz t:Nat}{cb:Array Bool}{cs cur new news xs:List aq}{e:Eng.Ent}{k':IntKind}{key:List UInt8}{q want y:Bool}{v v' v1 v2 vc vk:aq}{xo yo:Operand}{α β:Type}{σ:Eng.Sg}
section
open Eng Go.RowKit
theorem Nl (l:List UInt8)(c:UInt8)(w:ao):Ret ah 160 #[ae l,.int .u8 c.toNat] w (λv w'=>v=ad (Lib.indexByte l c)∧w=w'):=by
 refine Calls.mono (Tryz.strings_IndexByte ⟨l.toArray⟩ c.toNat w) ?_;rintro e w' ⟨rfl,rfl⟩;refine vG ⟨?_,rfl⟩;simp
end
end Go.Proofs.YtlgndjkieegnaaaGreatDoor

namespace Go.Proofs.YtlgndjkieegnaaaGreatDoor
variable{A S:Nat->Prop}{C:ao->Prop}{D U:TypeId}{K K':VWP}{L:List Eng.Ent}{L0:Loop}{P:Program}{PK PK2:PKT}{W w w' w0:ao}{a hi lo:Int}{args ca fa:Array aq}{b cap d f fuel i j m sz t:Nat}{cb:Array Bool}{cs cur new news xs:List aq}{e:Eng.Ent}{k':IntKind}{key:List UInt8}{q want y:Bool}{v v' v1 v2 vc vk:aq}{xo yo:Operand}{α β:Type}{σ:Eng.Sg}
section
open Eng Go.RowKit
def strV (p:List UInt8):Value:=ae p
def bI (ps:List (List UInt8)):List Value:=ps.map strV
theorem fF {ps:List (List UInt8)}(h:i < ps.length):(bI ps)[i]?=ay (.string ⟨ps[i].toArray⟩):=by simp[bI,strV,h]
end
section
open Eng Go.RowKit Go.ChangeShapes Go.WideShapes Go.ChangeAt
theorem Cb {x:String×DataW Unit}{l:List (String×DataW Unit)}(h:laidMet P (x::l) W):laidMet P l W:=by
 obtain⟨ps,⟨g,t,cs,fuel,p,q,_,_,_,_,a,rfl⟩,c,d⟩:=h;exact⟨q,a,(List.nodup_append.1 c).2.1,λb off hm=>d b off (by simp[hm])⟩
end
end Go.Proofs.YtlgndjkieegnaaaGreatDoor

namespace Go.Proofs.YtlgndjkieegnaaaGreatDoor
variable{A S:Nat->Prop}{C:ao->Prop}{D U:TypeId}{K K':VWP}{L:List Eng.Ent}{L0:Loop}{P:Program}{PK PK2:PKT}{W w w' w0:ao}{a hi lo:Int}{args ca fa:Array aq}{b cap d f fuel i j m sz t:Nat}{cb:Array Bool}{cs cur new news xs:List aq}{e:Eng.Ent}{k':IntKind}{key:List UInt8}{q want y:Bool}{v v' v1 v2 vc vk:aq}{xo yo:Operand}{α β:Type}{σ:Eng.Sg}
section
namespace Eng
open Go.RowKit
def FU (P:Program)(T:TypeId):Option Nat:=
 match P.underlying T with
|some (.struct _)|some (.array _ _)=>(P.info? T).map (·.size)
|_=>ax
def AtV (P:Program)(w:ao)(T:TypeId)(a:Addr)(v:aq):Prop:=(loadVar T a).run P w=.ok v w
section
variable {S:Nat->Prop}{P:Program}{w:ao}{PK:PKT}{K:VWP}
theorem AtV.cell {T:TypeId}(b:eS P T=aw){a:Addr}{v:aq}(h:w.cell? a=ay v):AtV P w T a v:=pN b h
theorem AtV.agg {T:TypeId}{n:Nat}(a:FU P T=ay n){b off:Nat}{cs:List aq}(f:cs.length=n)(h:∀j v,cs[j]?=ay v->w.cell? ⟨b,off+j,ax⟩=ay v):AtV P w T ⟨b,off,ax⟩ (.agg cs.toArray):=by
 have d:=run_loadCells_list (P:=P) w ⟨b,off,ax⟩ cs (λj v g=>by rw[cS];exact h j v g);unfold FU at a;subst f;unfold AtV;split at a
 ·rename_i fs hu
  obtain⟨i,hi,c⟩:=awP.1 a;simp[loadVar,isAgg,run_underlying hu,sizeOf,typeInfo,hi,c,d]
 ·rename_i k e hu
  obtain⟨i,hi,c⟩:=awP.1 a;simp[loadVar,isAgg,run_underlying hu,sizeOf,typeInfo,hi,c,d]
 ·cases a
theorem aY {T:TypeId}{a:Addr}(h:AtV P w T a v):(aH T (.pointer (ay a))).run P w=.ok (.value v) w:=by
 unfold AtV at h;exact cJ (by simp[Instr.loadAt,Instr.sureAddr,h])
theorem EN {T:TypeId}{a:Addr}(h:AtV P w T a v):DoX P (aH T (.pointer (ay a))) w PK K=K v w:=aD (aY h)
theorem bT.agg {w0:ao}{L:List Ent}(a:bT S w0 w L)(i:Nat){b:Nat}{cs:List aq}{E T:TypeId}(hi:L[i]?=ay (.cells b cs E))(c:FU P T=ay cs.length):AtV P w T ⟨b,0,ax⟩ (.agg cs.toArray):=
 AtV.agg c rfl λj v d=>by rw[auP];exact a.cell i hi j d
theorem Oy {T:TypeId}{E:TypeId}(c:(P.info? T).map (·.size)=ay new.length)(d:∀v∈new,v.oneCell'=aw)(e:cs.length=new.length)(h:w.heap[b]?=ay (.cells cs.toArray E (0,0))) :
  (Instr.storeAt T (af b 0) (.agg new.toArray)).run P w=.ok () (w.setRow b new.toArray):=by
 have a:=run_storeCells_at P b 0 E new 0 cs.toArray w h (by simp;omega) d;obtain⟨i,hi,f⟩:=awP.1 c;have g:cs.toArray.toList.drop new.length=[]:=awG (by rw[<-e];exact auL _);simp only[awF,auP,axY,avU,g,avA] at a;have j:(Value.agg new.toArray).cells=new.toArray:=rfl;simp[Instr.storeAt,Instr.sureAddr,storeVar,j,sizeOf,typeInfo,hi,f,a]
theorem jH (i:Nat){T:TypeId}{E:TypeId}(a:bT S w0 w L)(hi:L[i]?=ay (.cells b cs E))(c:(P.info? T).map (·.size)=ay new.length)(d:∀v∈new,v.oneCell'=aw)(e:cs.length=new.length)
  (k:∀w',bT S w0 w' (L.set i (.cells b new E))->K undef w'):DoX P (aN T (af b 0) (.agg new.toArray)) w PK K:=
 D1 (Kr (Oy c d e (a.at_ i hi))) (k _ (jG a i hi _))
theorem rP {T:TypeId}{a:List UInt8}{k:IntKind}(h:P.underlying T=ay .string)(b:0<=lo)(d:lo<=hi)(c:hi<=a.length) :
  (fJ T (ae a) (ay (.int k lo)) (ay (.int k' hi)) ax).run P w=.ok (.value (ae ((a.drop lo.toNat).take (hi.toNat - lo.toNat)))) w:=by
 refine cJ ?_;have e:(⟨a.toArray⟩:ByteArray).extract lo.toNat hi.toNat=⟨((a.drop lo.toNat).take (hi.toNat - lo.toNat)).toArray⟩:=by
  rw[Jn (s:=(⟨a.toArray⟩:ByteArray).extract lo.toNat hi.toNat),Lib.extract_data]
 have g1:(0<=hi∧hi<=((a.length:Nat):Int)):=om
 have g2:(0<=lo∧lo<=((hi.toNat:Nat):Int)):=om
 simp only[Instr.sliceAt,Instr.slice,Instr.sliceBounds,Instr.sliceBound,asIntOf,run_underlying h,dX];have g3:lo<=max hi 0:=om
 simp[run_underlying h,dX,c,g3,b,g1.1,e]
theorem abJ (h:Ret P f args w (λv' w'=>v'=v∧w=w'))(a:C w):Ret P f args w (λv' w'=>v'=v∧C w'):=
 h.mono λv' w' r=>⟨r.1,r.2▸a⟩
theorem Zh {a:ao}(h:Ret P f args w (λv' w'=>v'=v∧Below w.heap.size w w'))(b:Below a.heap.size a w):Ret P f args w (λv' w'=>v'=v∧Below a.heap.size a w'):=
 h.mono λv' w' r=>⟨r.1,(((Own.start a).grow b).grow r.2).done⟩
theorem eN {a:RV}{K:Ending->ao->Prop}(b:a.read.run P w=.ok v1 w)(k:K (.returned v1) w):Bw P [a] w K:=
 ⟨_,by simp[Fh,b],k⟩
theorem zH {a b:RV}{K:Ending->ao->Prop}(c:a.read.run P w=.ok v1 w)(d:b.read.run P w=.ok v2 w)(k:K (.returned (.tuple #[v1,v2])) w):Bw P [a,b] w K:=
 ⟨_,by simp[Fh,c,d],k⟩
theorem SH {a b c:RV}{v3:aq}{K:Ending->ao->Prop}(d:a.read.run P w=.ok v1 w)(e:b.read.run P w=.ok v2 w)(f:c.read.run P w=.ok v3 w)(k:K (.returned (.tuple #[v1,v2,v3])) w):Bw P [a,b,c] w K:=
 ⟨_,by simp[Fh,d,e,f],k⟩
theorem bJ {T:TypeId}{a:Addr}(h:AtV P w T a v):(RV.cell (.pointer (ay a)) T).read.run P w=.ok v w:=by
 unfold AtV at h;simp[RV.read,asAddr,h]
theorem Ae :(RV.val v).read.run P w=.ok v w:=by simp[RV.read]
end
end Eng
end
section
namespace Eng
open Go.RowKit
section
variable {S:Nat->Prop}{P:Program}{w w0:ao}{L:List Ent}{PK:PKT}{K:VWP}
theorem bT.join {L':List Ent}(h:bT S w0 w L)(k:bT NoB w w' L'):bT S w0 w' (L'++L):=by
 have d:=h.grow k.below;refine⟨d.grew,λe he=>?_,ayL.2 ⟨k.apart,d.apart,λe he f i b l g=>?_⟩⟩
 ·rcases avF.1 he with he|he
  ·obtain⟨a,b⟩:=k.all e he;refine⟨a,λj m=>.inr ?_⟩;rcases b j m with c|c
   ·exact c.elim
   ·exact axO h.size c
  ·exact d.all e he
 ·have n:=f.lt (h.mem i) b g;rcases (k.all e he).2 b l with c|c
  ·exact c
  ·omega
theorem aqH {l:Nat}{K:ao->Prop}(i:Nat)(a:bT S w0 w L)(hi:L[i]?=ay (.obj l (lp L0 .ready ax)))(k:∀w',bT S w0 w' (L.set i (.obj l (lp L0 .busy ax)))->K w'):BegX P l w K:=
 ⟨_,LZ (a.at_ i hi),k _ (Jl a i hi)⟩
theorem asL {l:Nat}{j:Option Code}{R:VWP}(i:Nat)(a:bT S w0 w L)(hi:L[i]?=ay (.obj l (lp L0 .busy ax)))(k:∀w',bT S w0 w' (L.set i (.obj l (lp L0 (if j.isNone then .ready else .done) j)))->R (.bool j.isNone) w'):EndX P l j w R:=
 ⟨_,_,PJ (a.at_ i hi),k _ (Jl a i hi)⟩
theorem aqT {l:Nat}{args:List aq}{R:VWP}(h:Yld P l args w R)(k:∀v w',R v w'->K v w'):DoX P (iO (.func (.yield l) #[] #[]) args.toArray) w PK K:=by
 obtain⟨fn,tmps,a,b,c,d⟩:=h;have f:(iO (.func (.yield l) #[] #[]) args.toArray).run P w=.ok (.round l fn tmps a b) w:=by
  rw[<-c];simp[iO,invoke,Deferred.ofValue,resolve]
 refine⟨?_⟩;rw[f];refine⟨RoundIn.mono d ?_⟩;rintro e w' ⟨v,rfl,g⟩;exact k v w' g
theorem range {js:List (Option Code×(Nat->ao->Prop))}{B:Nat->List aq->ao->(VWP)->Prop}{np:Nat}(c:bT S w0 w L)(hp:cW P f=aw)
  (h:∀(L0:Loop) (df a:Nat) (b:ao),bT S w0 b (.obj a (lp L0 .ready ax)::.obj df (.deferred (ay []))::L) ->
   (∀args W R,W.heap[a]?=ay (lp L0 .ready ax)->args.length=np->B a args W R->Yld P a args W R) ->
   Calls P f (fa++#[.func (.yield a) #[] #[]]++ca) b λe w3=>∃v st pd k,e=.returned v∧st≠.busy∧w3.heap[a]?=ay (lp L0 st pd)∧(pd,k)∈js∧k df (NR w3 a (lp L0 .exhausted pd))) :
  RangeX P ax np (.func (.func f) fa ca) w B js:=by
 refine⟨f,fa,ca,w.heap.size,w.alloc (.deferred (ay [])),rfl,hp,⟨rfl,rfl⟩,λL0 _ d=>?_⟩;exact h L0 w.heap.size (w.alloc (.deferred (ay []))).heap.size _ ((c.TW _).TW _) (λargs W R g i j=>d _ args W R g i j)
theorem amD {rs:List RV}{K:Ending->ao->Prop}{df:Nat}(i:Nat)(a:bT S w0 w L)(hi:L[i]?=ay (.obj df (.deferred (ay []))))(k:∀w',bT S w0 w' (L.set i (.obj df (.deferred ax)))->RetD P rs w' K):HJ P rs K [mkD df] .returning w:=by
 refine⟨(λh=>by cases h),df,_,rfl,?_,k _ (Jl a i hi)⟩;have h:w.heap[df]?=ay (.deferred (ay [])):=a.at_ i hi;simp[Instr.takeDeferred,getObj,setObj,Sem.run,h]
end
end Eng
end
section
namespace Eng
open Go.RowKit
def eqSh (P:Program):List Field->Option (List (Nat×Bool))
|[]=>ay []
|f::fs=>
  if f.name=="_" then ax
  else match P.underlying f.type with
  |some (.int _)=>(eqSh P fs).map ((f.offset,au)::·)
  |some .string=>(eqSh P fs).map ((f.offset,aw)::·)
  |_=>ax
def Sh:Bool->Option aq->Option aq->Bool
|false,ay (.int k _),ay (.int k' _)=>ai (k=k')
|true,ay (.string _),ay (.string _)=>aw
|_,_,_=>au
def Gs:Option aq->Option aq->Bool
|some (.int _ a),ay (.int _ b)=>a==b
|some (.string a),ay (.string b)=>a.toList==b.toList
|_,_=>au
section
variable {P:Program}{w:ao}{PK:PKT}{K:VWP}
theorem Jc (d:Nat)(xs ys:Array aq):∀(fs:List Field) (sh:List (Nat×Bool)),eqSh P fs=ay sh->(sh.all λp=>Sh p.2 xs[p.1]? ys[p.1]?)=aw ->
  (Op.eqFields (d+1) xs ys fs).run P w=.ok (sh.all λp=>Gs xs[p.1]? ys[p.1]?) w
|[],sh,h,_=>by
  cases h;simp[Op.eqFields]
|f::fs,sh,h,hok=>by
  rw[eqSh] at h;split at h
  ·cases h
  ·rename_i hn
   have hn':f.name≠"_":=by simpa using hn
   split at h
   ·rename_i k hu
    obtain⟨sh',h',rfl⟩:=awP.1 h;simp only[aAF,auY] at hok;obtain⟨h0,hok⟩:=hok;have ih:=Jc d xs ys fs sh' h' hok;cases hx:xs[f.offset]? with
   |none=>rw[hx] at h0;cases h0
   |some a=>
     cases hy:ys[f.offset]? with
    |none=>rw[hx,hy] at h0;cases a<;>cases h0
    |some b=>
      rw[hx,hy] at h0;cases a<;>cases b<;>first|(cases h0;done)|skip
      rename_i k1 a k2 b
      simp only[Sh,avK] at h0;subst h0;simp only[Op.eqFields,hn',ne_eq,awJ,if_true,Sem.run_bind,part,isAgg,run_underlying hu,Result.andThen_ok,Sem.run_pure,ayQ,if_false,hx,hy,run_equalIn_int w d f.type k1 k a b hu,aAF,Gs];cases hab:(a==b)
      ·simp
      ·simp[ih];rfl
   ·rename_i hu
    obtain⟨sh',h',rfl⟩:=awP.1 h;simp only[aAF,auY] at hok;obtain⟨h0,hok⟩:=hok;have ih:=Jc d xs ys fs sh' h' hok;cases hx:xs[f.offset]? with
   |none=>rw[hx] at h0;cases h0
   |some a=>
     cases hy:ys[f.offset]? with
    |none=>rw[hx,hy] at h0;cases a<;>cases h0
    |some b=>
      rw[hx,hy] at h0;cases a<;>cases b<;>first|(cases h0;done)|skip
      rename_i a b
      simp only[Op.eqFields,hn',ne_eq,awJ,if_true,Sem.run_bind,part,isAgg,run_underlying hu,Result.andThen_ok,Sem.run_pure,ayQ,if_false,hx,hy,run_equalIn_string w d f.type a b hu,aAF,Gs];cases hab:(a.toList==b.toList)
      ·simp
      ·simp[ih];rfl
   ·cases h
def eqT (P:Program)(T:TypeId)(a:List (Nat×Bool)):Prop:=
 P.underlying T=ay (.struct (P.fieldsOf T))∧P.stoodInHeld T=au∧P.eqGuardType P.depth T=au∧eqSh P (P.fieldsOf T).toList=ay a
theorem QK {T:TypeId}{b:List (Nat×Bool)}(h:eqT P T b){xs a:Array aq}(c:(b.all λp=>Sh p.2 xs[p.1]? a[p.1]?)=aw) :
  (mEq .eql T xo yo (.agg xs) (.agg a)).run P w=.ok (.value (.bool (b.all λp=>Gs xs[p.1]? a[p.1]?))) w:=by
 obtain⟨d,e,f,g⟩:=h;refine cJ ?_;rw[Sem.run_bind,run_eqGuard_agg w .eql T xo yo xs a f];simp only[Result.andThen_ok];rw[run_eql_struct,run_equalIn_struct w 9999 T xs a d e,Jc 9998 xs a _ b g c];rfl
theorem Lj {T:TypeId}{b:List (Nat×Bool)}(h:eqT P T b){xs a:Array aq}(c:(b.all λp=>Sh p.2 xs[p.1]? a[p.1]?)=aw) :
  (mEq .neq T xo yo (.agg xs) (.agg a)).run P w=.ok (.value (.bool (!(b.all λp=>Gs xs[p.1]? a[p.1]?)))) w:=by
 obtain⟨d,e,f,g⟩:=h;refine cJ ?_;rw[Sem.run_bind,run_eqGuard_agg w .neq T xo yo xs a f];simp only[Result.andThen_ok];rw[run_neq_struct,run_equalIn_struct w 9999 T xs a d e,Jc 9998 xs a _ b g c];rfl
end
end Eng
end
section
namespace Eng
open Go.RowKit
section
variable {P:Program}{C:ao->Prop}{K:aq->Prop}
theorem asQ {E:(aq->Prop)->Prop}:GQ (.bool aw) aw E K=E K:=propext ⟨λx=>x.out,λx=>⟨x⟩⟩
theorem aqF {E:(aq->Prop)->Prop}:GQ (.bool au) aw E K=K undef:=propext ⟨λx=>x.out,λx=>⟨x⟩⟩
theorem arC {E:(aq->Prop)->Prop}:GQ (.bool au) au E K=E K:=propext ⟨λx=>x.out,λx=>⟨x⟩⟩
theorem atP {E:(aq->Prop)->Prop}:GQ (.bool aw) au E K=K undef:=propext ⟨λx=>x.out,λx=>⟨x⟩⟩
theorem CM {want:Bool}{E:(aq->Prop)->Prop}:GQ undef want E K=K undef:=propext ⟨λx=>x.out,λx=>⟨x⟩⟩
def gq:=And.intro @asQ (And.intro @aqF (And.intro @arC (And.intro @atP @CM)))
theorem sW {T:TypeId}{k:IntKind}{b:Int}(h:K (.int k (k.wrap (a+b)))):QDo P C (iQ .add T (.int k a) (.int k b)) K:=dY _ (λ_=>Fk) h
theorem Lu {T:TypeId}{k:IntKind}{b:Int}(h:K (.bool (ai (a < b)))):QDo P C (iQ .lss T (.int k a) (.int k b)) K:=dY _ (λ_=>cJ (by simp[binOp,Op.intCmp])) h
theorem afQ {T:TypeId}{k:IntKind}{b:Int}(h:K (.bool (ai (a<=b)))):QDo P C (iQ .leq T (.int k a) (.int k b)) K:=dY _ (λ_=>cJ (by simp[binOp,Op.intCmp])) h
theorem IM {T:TypeId}{k:IntKind}{b:Int}(h:K (.bool (ai (b < a)))):QDo P C (iQ .gtr T (.int k a) (.int k b)) K:=dY _ (λ_=>cJ (by simp[binOp,Op.intCmp])) h
theorem ajY {T:TypeId}{k:IntKind}{b:Int}(h:K (.bool (ai (b<=a)))):QDo P C (iQ .geq T (.int k a) (.int k b)) K:=dY _ (λ_=>cJ (by simp[binOp,Op.intCmp])) h
theorem q_eq {T:TypeId}{k:IntKind}{b:Int}(h:K (.bool (ai (a=b)))):QDo P C (mEq .eql T xo yo (.int k a) (.int k b)) K:=dY _ (λ_=>cJ (by simp[eqGuard,binOp,Op.intCmp,V4])) h
theorem Sc {c:Bool}{a b:aq}(h:K (if c then a else b)):QDo P C (iB (.bool c) a b) K:=dY _ (λ_=>by simp[iB,asBool]) h
theorem MZ {a b:aq}(h:K a):QDo P C (iB (.bool aw) a b) K:=Sc h
theorem F9 {a b:aq}(h:K b):QDo P C (iB (.bool au) a b) K:=Sc h
theorem Xo {T:TypeId}{cs:Array Bool}{a:List UInt8}(b:P.underlying T=ay .string)(h:K (ad (a.length:Int))):QDo P C (mB .len #[T] U cs #[ae a]) K:=dY _ (λ_=>ajE b) h
theorem p_do {m:Sem Next}(v:aq)(h:∀w,m.run P w=.ok (.value v) w)(k:K v):PDo P m K:=⟨v,h,k⟩
theorem arP {T:TypeId}{k:IntKind}{b:Int}(c:b≠0)(h:K (.int k (k.wrap (a.tdiv b)))):QDo P C (iQ .quo T (.int k a) (.int k b)) K:=dY _ (λ_=>arY c) h
theorem q_ix {T:TypeId}{k:IntKind}{i:Int}{a:List UInt8}{c:UInt8}(b:P.underlying T=ay .string)(d:0<=i)(e:a[i.toNat]?=ay c)(h:K (.int .u8 (c.toNat:Int))):QDo P C (mIx T (ae a) (.int k i)) K:=dY _ (λ_=>abS b d e) h
theorem ahV {T:TypeId}{a b:List UInt8}(h:K (.bool (ai (a≠b)))):QDo P C (mEq .neq T xo yo (ae a) (ae b)) K:=by
 refine dY _ (λ_=>cJ ?_) h;have e:(a==b)=ai (a=b):=by by_cases h:a=b<;>simp[h]
 simp[eqGuard,binOp,Op.stringOp,lF,e]
theorem atZ {T:TypeId}{a b:List UInt8}(h:K (.bool (ai (a=b)))):QDo P C (mEq .eql T xo yo (ae a) (ae b)) K:=by
 refine dY _ (λ_=>cJ ?_) h;have e:(a==b)=ai (a=b):=by by_cases h:a=b<;>simp[h]
 simp[eqGuard,binOp,Op.stringOp,lF,e]
theorem eI {S:TypeId}{k:IntKind}{n:Int}(a:(P.underlying S).isSome=aw)(b:P.underlying D=ay (.int k')):(tG S D (.int k n)).run P w=.ok (.value (.int k' (k'.wrap n))) w:=by
 cases h:P.underlying S with
|none=>rw[h] at a;cases a
|some d=>exact cJ (by simp[convert,run_underlying h,run_underlying b,Conv.intToInt])
theorem Me {T E:TypeId}{n:Nat}(h:P.underlying T=ay (.slice E))(b:Sl w v sz n cs):(mB .len #[T] U cb #[v]).run P w=.ok (.value (ad (n:Int))) w:=by
 obtain⟨_,a,cap,rfl,_⟩:=b;simp[mB,builtin,Builtin.len_,run_underlying h,goInt]
end
end Eng
end
section
namespace Eng
open Go.RowKit
theorem bT.perm {L':List Ent}(h:bT S w0 w L)(hp:L.Perm L'):bT S w0 w L':=
 ⟨h.grew,λe he=>h.all e (hp.mem_iff.2 he),(hp.pairwise_iff (λ{x y} a k b c=>a k c b)).1 h.apart⟩
theorem bT.front {A B C:List Ent}(h:bT S w0 w (A++(B++C))):bT S w0 w (B++(A++C)):=
 h.perm (by rw[<-auN,<-auN];exact List.Perm.append_right C aAk)
def CN (L0:Loop)(a df:Nat):List Ent:=[.obj a (lp L0 .ready ax),.obj df (.deferred (ay []))]
end Eng
end
section
open Eng Go.RowKit Go.ChangeShapes Go.WideShapes
inductive Ob where
|mk (k n g:Int) (s:List UInt8) (keys:List (List UInt8)) (kids:List Ob)
namespace Ob
def k:Ob->Int|.mk k _ _ _ _ _=>k
def n:Ob->Int|.mk _ n _ _ _ _=>n
def g:Ob->Int|.mk _ _ g _ _ _=>g
def s:Ob->List UInt8|.mk _ _ _ s _ _=>s
def keys:Ob->List (List UInt8)|.mk _ _ _ _ keys _=>keys
def kids:Ob->List Ob|.mk _ _ _ _ _ kids=>kids
 mutual
def wt:Ob->Nat
|.mk _ _ _ s keys kids=>6+s.length+Pl.tot keys+wts kids
def wts:List Ob->Nat
|[]=>0
|o::os=>wt o+wts os
end
end Ob
def SlA (A:Nat->Prop)(w:ao)(v:aq)(sz n:Nat)(cs:List aq):Prop:=Sl w v sz n cs∧(∀p l c,v=.slice (ay p) l c->0 < n->A p.block)∧∀a l c,v=.slice a l c->l<=c
 mutual
def OV (A:Nat->Prop)(w:ao):aq->Ob->Prop
|v,.mk k n g s keys kids=>∃vk vc cs,v=.agg #[ad k,ad n,ad g,ae s,vk,vc]∧SlA A w vk 1 keys.length (bI keys)∧SlA A w vc 6 kids.length cs∧OVs A w cs kids
def OVs (A:Nat->Prop)(w:ao):List aq->List Ob->Prop
|cs,[]=>cs=[]
|cs,o::os=>∃(a rest:List aq),cs=a++rest∧a.length=6∧OV A w (.agg a.toArray) o∧OVs A w rest os
end
def Kept (A:Nat->Prop)(w w':ao):Prop:=∀b,A b->w'.heap[b]?=w.heap[b]?
theorem Wo (h:Kept A w w'){p:Addr}(hp:A p.block)(a:w.cell? p=ay v):w'.cell? p=ay v:=by
 have:=h p.block hp;unfold World.cell? at a ⊢;rw[this];exact a
theorem SlA.kept {n:Nat}(h:SlA A w v sz n cs)(e:Kept A w w'):SlA A w' v sz n cs:=by
 obtain⟨⟨b,a,cap,rfl,f,g⟩,c,hC⟩:=h;refine⟨⟨b,a,cap,rfl,f,λp hp=>?_⟩,c,hC⟩;obtain⟨i,k⟩:=g p hp;refine⟨i,λj u d=>?_⟩;have l:0 < n:=by
  rcases awQ n with h|h
  ·subst h;rw[axP] at b;have:=(auV.1 d).1;omega
  ·exact h
 exact Wo e (c p n cap (by rw[hp]) l) (k j u d)
 mutual
theorem OV.kept {A:Nat->Prop}{w w':ao}(a:Kept A w w'):∀(o:Ob) (v:aq),OV A w v o->OV A w' v o
|.mk k n g s keys kids,v,h=>by
  rw[OV] at h ⊢;obtain⟨vk,vc,cs,b,c,d,e⟩:=h;exact⟨vk,vc,cs,b,c.kept a,d.kept a,OVs.kept a kids cs e⟩
theorem OVs.kept {A:Nat->Prop}{w w':ao}(b:Kept A w w'):∀(os:List Ob) (cs:List aq),OVs A w cs os->OVs A w' cs os
|[],cs,h=>by rw[OVs] at h ⊢;exact h
|o::os,cs,h=>by
  rw[OVs] at h ⊢;obtain⟨a,rest,he,c,d,e⟩:=h;exact⟨a,rest,he,c,OV.kept b o _ d,OVs.kept b os rest e⟩
end
 mutual
theorem OV.mono {A B:Nat->Prop}{w:ao}(a:∀b,A b->B b):∀(o:Ob) (v:aq),OV A w v o->OV B w v o
|.mk k n g s keys kids,v,h=>by
  rw[OV] at h ⊢;obtain⟨vk,vc,cs,j,d,f,m⟩:=h;exact⟨vk,vc,cs,j,⟨d.1,λp l c e i=>a _ (d.2.1 p l c e i),d.2.2⟩,⟨f.1,λp l c e i=>a _ (f.2.1 p l c e i),f.2.2⟩,OVs.mono a kids cs m⟩
theorem OVs.mono {A B:Nat->Prop}{w:ao}(c:∀b,A b->B b):∀(os:List Ob) (cs:List aq),OVs A w cs os->OVs B w cs os
|[],cs,h=>by rw[OVs] at h ⊢;exact h
|o::os,cs,h=>by
  rw[OVs] at h ⊢;obtain⟨a,rest,he,d,e,f⟩:=h;exact⟨a,rest,he,d,OV.mono c o _ e,OVs.mono c os rest f⟩
end
theorem OVs.len {A:Nat->Prop}{w:ao}:∀(os:List Ob) (cs:List aq),OVs A w cs os->cs.length=os.length*6
|[],cs,h=>by rw[OVs] at h;subst h;rfl
|o::os,cs,h=>by
  rw[OVs] at h;obtain⟨a,rest,rfl,b,_,c⟩:=h;rw[auH,b,OVs.len os rest c,auX];omega
theorem OVs.get {A:Nat->Prop}{w:ao}:∀(os:List Ob) (cs:List aq) (i:Nat) (hi:i < os.length),OVs A w cs os->∃a:List aq,a.length=6∧OV A w (.agg a.toArray) os[i]∧∀j v,a[j]?=ay v->cs[i*6+j]?=ay v
|[],cs,i,hi,h=>by simp at hi
|o::os,cs,0,hi,h=>by
  rw[OVs] at h;obtain⟨a,rest,rfl,d,e,f⟩:=h;refine⟨a,d,e,λj v c=>?_⟩;rw[axP,auP,awR (auV.1 c).1];exact c
|o::os,cs,i+1,hi,h=>by
  rw[OVs] at h;obtain⟨a,rest,rfl,d,e,f⟩:=h;obtain⟨b,g,k,l⟩:=OVs.get os rest i (by simpa using hi) f;refine⟨b,g,k,λj v c=>?_⟩;rw[awW om,d,show (i+1)*6+j - 6=i*6+j by omega];exact l j v c
theorem OVs.nil :OVs A w [] []:=by rw[OVs]
theorem SlA.OH {a:Addr}{len:Nat}(g:0 < sz)(i:cs.length=len*sz)(m:∀j u,cs[j]?=ay u->W.cell? (a.add j)=ay u)(o:∀b,b < W.heap.size->A b)(q:len<=cap):SlA A W (.slice (ay a) len cap) sz len cs:=by
 have plain:0 < len->a.spot=ax∧a.block < W.heap.size:=by
  intro f;have r:0 < cs.length:=by rw[i];exact Nat.mul_pos f g
  have d:=m 0 cs[0] (auO r);have s:a.add 0=a:=by simp[Addr.add]
  rw[s] at d;unfold World.cell? at d;split at d
  ·rename_i t
   have k:=eH t;split at d
   ·cases d
   ·rename_i v;exact⟨by simpa using v,k⟩
  ·cases d
 refine⟨⟨i,ay a,cap,rfl,(λh=>by cases h),λp hp=>?_⟩,λp l c e f=>?_,λa' l c e=>by injection e with _ e2 e3;omega⟩
 ·cases hp;refine⟨λh=>(plain h).1,λj u n=>?_⟩;have f:0 < len:=by
   rcases awQ len with h|h
   ·subst h;rw[axP] at i;have:=(auV.1 n).1;omega
   ·exact h
  have d:=m j u n;obtain⟨b,off,spot⟩:=a;have:=(plain f).1;simp only at this;subst this;rw[show (⟨b,off,ax⟩:Addr).add j=⟨b,off+j,ax⟩ from cS b off j] at d;exact d
 ·injection e with e _ _
  cases e;exact o _ (plain f).2
theorem SlA.nil (A:Nat->Prop)(w:ao)(sz cap:Nat):SlA A w (.slice ax 0 cap) sz 0 []:=⟨Sl.nil w sz cap,(λp l c e _=>by injection e with e _ _;cases e),λa l c e=>by injection e with _ e2 e3;omega⟩
end
section
open Go
namespace Vl
def used (k:Int):Option (Bool×Bool×Bool×Bool×Bool):=
 if k=0 then ay (au,au,au,au,au)
 else if k=1∨k=2∨k=3 then ay (aw,au,au,au,au)
 else if k=4∨k=5 then ay (au,au,aw,au,au)
 else if k=6 then ay (au,au,au,au,aw)
 else if k=7 then ay (au,au,au,aw,aw)
 else if k=8 then ay (aw,aw,au,au,au)
 else if k=9 then ay (au,au,aw,aw,aw)
 else ax
def gL (o:Ob):Bool:=
 match used o.k with
|none=>au
|some (n,g,s,ks,cs)=>(n||decide (o.n=0))&&(g||decide (o.g=0))&&(s||decide (o.s=[]))&&(ks||decide (o.keys=[]))&&(cs||decide (o.kids.length=0))
def fits (o:Ob):Bool:=
 if o.k=1 then ai (0<=o.n∧o.n<=1)
 else if o.k=2 then ai (-2147483647<=o.n∧o.n<=2147483647)
 else if o.k=3 then ai (-1073741824<=o.n∧o.n<=1073741824)
 else if o.k=8 then ai (1<=o.n∧o.n<=8191)&&ai (0<=o.g∧o.g<=65535)
 else aw
def long (k:Int):Nat:=if k=5 then 127 else if k=9 then 1048576 else 32767
def name (s:List UInt8):Bool:=ai (s.length<=127)&&ai ((0:UInt8) ∉ s)
def rQ:List UInt8:=[76,101,110,103,116,104]
abbrev less (a b:List UInt8):Bool:=Op.bytesLess a b
def AD (o:Ob)(i:Nat):Bool:=
 name (o.keys.getD i [])&&(ai (i=0)||less (o.keys.getD (i - 1) []) (o.keys.getD i []))&&!(ai (o.k=9)&&ai (o.keys.getD i []=rQ))&&ai ((o.kids.getD i (.mk 0 0 0 [] [] [])).k≠0)
def rising (o:Ob):Bool:=ai (o.keys.length=o.kids.length)&&(List.range o.keys.length).all (AD o)
def form (o:Ob):Bool:=(!(ai (o.k=5))||name o.s)&&(!(ai (o.k=7∨o.k=9))||rising o)
def why (d:Nat)(o:Ob):Int:=
 if 24 < d then 7
 else if gL o=au∨(o.k=9∧1 < d) then 10
 else if fits o=au then 2
 else if long o.k < o.s.length then 5
 else if 8191 < o.kids.length then 6
 else if form o=au then 3
 else 0
 mutual
def check (d:Nat):Ob->Int
|.mk k n g s keys kids=>if why d (.mk k n g s keys kids)≠0 then why d (.mk k n g s keys kids) else oA (d+1) kids
def oA (d:Nat):List Ob->Int
|[]=>0
|o::os=>if check d o≠0 then check d o else oA d os
end
theorem E9 (d:Nat)(o:Ob):check d o=if why d o≠0 then why d o else oA (d+1) o.kids:=by cases o;rw[check];rfl
 mutual
def size:Ob->Nat
|.mk _ _ _ s keys kids=>1+s.length / 50+(keys.map λk=>k.length / 50).sum+xK kids
def xK:List Ob->Nat
|[]=>0
|o::os=>size o+xK os
end
theorem size_eq (o:Ob):size o=1+o.s.length / 50+(o.keys.map λk=>k.length / 50).sum+xK o.kids:=by cases o;rw[size];rfl
theorem atK (l:List (List UInt8)):(l.map λk=>k.length / 50).sum<=Pl.tot l:=by
 induction l with
|nil=>simp
|cons a l b=>simp only[Pl.tot,avS,ayH] at b ⊢;omega
 mutual
theorem Wb:∀o:Ob,size o<=o.wt
|.mk k n g s keys kids=>by
  have:=Se kids;have:=atK keys;rw[size,Ob.wt];omega
theorem Se:∀os:List Ob,xK os<=Ob.wts os
|[]=>by rw[xK,Ob.wts];omega
|o::os=>by
  have:=Wb o;have:=Se os;rw[xK,Ob.wts];omega
end
end Vl
end
section
open Go
namespace Vl
theorem OI (a b:List UInt8):less a b=aw↔a < b:=by rw[less,bytesLess_eq,avK]
theorem rA {a b c:List UInt8}(h:less a b=aw)(k:less b c=aw):less a c=true:=by
 rw[OI] at *;exact List.lt_trans h k
theorem xU (a:List UInt8):less a a=false:=by
 cases h:less a a with
|false=>rfl
|true=>rw[OI] at h;exact absurd h (List.lt_irrefl _)
theorem Vh {a b:List UInt8}(h:less a b=au)(d:a≠b):less b a=true:=by
 have e:¬a < b:=by rw[<-OI,h];simp
 rw[OI];rcases Classical.em (b < a) with c|c
 ·exact c
 ·exact absurd (List.le_antisymm (List.not_lt.1 c) (List.not_lt.1 e)) d
def NT (l:List (List UInt8)):Prop:=l.Pairwise λa b=>less a b=aw
def place (l:List (List UInt8))(x:List UInt8):Nat:=(l.takeWhile λk=>less k x).length
def hit (l:List (List UInt8))(x:List UInt8):Bool:=ai (l[place l x]?=ay x)
theorem HS {α:Type}{p:α->Bool}:∀(l:List α) (i:Nat),i<=l.length->(∀m (h:m < l.length),m < i->p l[m]=aw)->(∀h:i < l.length,p l[i]=au)->(l.takeWhile p).length=i
|[],i,hi,_,_=>by simp at hi;simp[hi]
|a::l,0,_,_,h=>by
  have:=h sm;rw[aAG] at this;simp[aAH,this]
|a::l,i+1,hi,b,d=>by
  have c:=b 0 sm om;rw[aAG] at c;rw[aAH,c];simp only[if_true,auX];rw[HS l i (by simpa using hi) (λm hm e=>by
   have:=b (m+1) (by simpa using hm) om
   rwa [aAI] at this) (λh=>by
   have:=d (by simpa using h)
   rwa [aAI] at this)]
theorem xX (l:List (List UInt8))(x:List UInt8):place l x<=l.length:=(List.takeWhile_prefix _).length_le
theorem OC {l:List (List UInt8)}{x:List UInt8}(hi:i<=l.length)(a:∀m (h:m < l.length),m < i->less l[m] x=aw)(b:∀h:i < l.length,less l[i] x=au):place l x=i:=HS l i hi a b
theorem Ua {l:List (List UInt8)}{x:List UInt8}(h:m < place l x):less (l[m]'(awO h (xX l x))) x=true:=by
 unfold place at h;have hm:=List.all_takeWhile (l:=l) (p:=λk=>less k x);have b:(l.takeWhile λk=>less k x)[m]∈l.takeWhile λk=>less k x:=auS h;have a:=axJ.1 hm _ b;have c:(l.takeWhile λk=>less k x)[m]=l[m]'(awO h (xX l x)):=by
  have hp:(l.takeWhile λk=>less k x) <+: l:=List.takeWhile_prefix _;exact hp.getElem h
 rw[c] at a;exact a
theorem Z9 {l:List (List UInt8)}{x:List UInt8}(h:place l x < l.length):less l[place l x] x=false:=by
 unfold place at h ⊢
 induction l with
|nil=>simp at h
|cons a l c=>
  cases b:less a x with
 |false=>simp only[aAH,b];simpa using b
 |true=>
   simp only[aAH,b,if_true,auX] at h ⊢;rw[aAI];exact c (by simpa using h)
theorem uP {l:List (List UInt8)}(h:NT l)(a:i < j)(b:j < l.length):less (l[i]'(om)) l[j]=true:=ayX.1 h i j om b a
def ob0:Ob:=.mk 0 0 0 [] [] []
def keyed (o:Ob):Bool:=ai (o.k=7)||decide (o.k=9)
def get (o:Ob)(key:List UInt8):Option Ob:=if keyed o then (if o.keys.idxOf key < o.keys.length then o.kids[o.keys.idxOf key]? else ax) else ax
def put (o:Ob)(key:List UInt8)(v:Ob):Ob:=
 .mk o.k o.n o.g o.s (o.keys.take (place o.keys key)++key::o.keys.drop (place o.keys key+if hit o.keys key then 1 else 0)) (o.kids.take (place o.keys key)++v::o.kids.drop (place o.keys key+if hit o.keys key then 1 else 0))
def bY (key:List UInt8):List (List UInt8)->List Ob->List (List UInt8)×List Ob
|k::ks,c::cs=>if k=key then bY key ks cs else (k::(bY key ks cs).1,c::(bY key ks cs).2)
|_,_=>([],[])
def aR (o:Ob)(key:List UInt8):Ob:=.mk o.k o.n o.g o.s (bY key o.keys o.kids).1 (bY key o.keys o.kids).2
def right (o:Ob):Ob×Int:=if check 1 o≠0 then (ob0,check 1 o) else (o,0)
def set (o:Ob)(key:List UInt8)(v:Ob):Ob×Int:=
 if keyed o=au then (ob0,10) else if check 1 o≠0 then (ob0,check 1 o) else if v.k=0 then (aR o key,0) else right (put o key v)
theorem fM {o:Ob}(h:check d o=0)(g:keyed o=aw):NT o.keys∧o.keys.length=o.kids.length:=by
 rw[E9] at h;split at h
 ·rename_i hw;exact absurd h hw
 ·rename_i hw
  have hw:=awX.1 hw;unfold why at hw;split at hw
  ·cases hw
  split at hw
  ·cases hw
  split at hw
  ·cases hw
  split at hw
  ·cases hw
  split at hw
  ·cases hw
  split at hw
  ·cases hw
  rename_i a
  have a:form o=true:=by simpa using a
  have e:o.k=7∨o.k=9:=by
   unfold keyed at g;simpa using g
  have b:rising o=true:=by
   unfold form at a;simp only[auY] at a;have:=a.2;rw[auG e] at this;simpa using this
  unfold rising at b;simp only[auY,avK] at b;refine⟨?_,b.1⟩;have step:∀i,i+1 < o.keys.length->less (o.keys.getD i []) (o.keys.getD (i+1) [])=true:=by
   intro i hi;have:=axJ.1 b.2 (i+1) (awH.2 hi);unfold AD at this;simp only[auY,axS] at this;have:=this.1.1.2;rcases this with f|f
   ·have:=auW f;omega
   ·simpa using f
  have gd:∀i (h:i < o.keys.length),o.keys.getD i []=o.keys[i]:=λi h=>by rw[auK,auO h];rfl
  refine ayX.2 λi j hi c m=>?_;have:∀d,∀j (c:j < o.keys.length),j=i+1+d->less o.keys[i] o.keys[j]=true:=by
   intro d
   induction d with
  |zero=>
    intro j c he;have:=step i om;rw[gd i hi,gd (i+1) om] at this;subst he;exact this
  |succ d n=>
    intro j c he;have p:=n (i+1+d) om rfl;have l:=step (i+1+d) om;rw[gd _ om,gd _ om] at l;subst he;exact rA p l
  exact this (j - (i+1)) j c om
theorem rC {key:List UInt8}:∀{ks:List (List UInt8)} {cs:List Ob},ks.length=cs.length->key ∉ ks->bY key ks cs=(ks,cs)
|[],[],_,_=>rfl
|k::ks,c::cs,a,b=>by
  rw[bY,auB (λe=>b (by simp[e])),rC (by simpa using a) (λh=>b (by simp[h]))]
|[],_::_,a,_=>by simp at a
|_::_,[],a,_=>by simp at a
theorem TG {key:List UInt8}:∀{ks:List (List UInt8)} {cs:List Ob} {i:Nat},ks.length=cs.length->ks[i]?=ay key->(∀m (h:m < ks.length),m≠i->ks[m]≠key)->bY key ks cs=(ks.take i++ks.drop (i+1),cs.take i++cs.drop (i+1))
|[],[],_,_,h,_=>by simp at h
|k::ks,c::cs,0,a,h,b=>by
  simp only[ayW,ayK] at h;rw[bY,auC h,rC (by simpa using a)]
  ·simp
  ·intro hm;obtain⟨m,d,rfl⟩:=axX hm;exact b (m+1) (by simpa using d) om sm
|k::ks,c::cs,i+1,a,h,b=>by
  have e:=b 0 sm om;rw[aAG] at e;rw[bY,auB e,TG (i:=i) (by simpa using a) (by simpa using h) (λm hm f=>by
   have:=b (m+1) (by simpa using hm) om
   rwa [aAI] at this)]
  simp
|[],_::_,_,a,_,_=>by simp at a
|_::_,[],_,a,_,_=>by simp at a
theorem ahR {l:List (List UInt8)}(h:NT l)(hi:i < l.length)(b:j < l.length)(c:i≠j):l[i]≠l[j]:=by
 intro e;rcases avI i j with a|a
 ·have:=uP h a b;rw[e,xU] at this;cases this
 ·have:=uP h (show j < i by omega) hi;rw[e,xU] at this;cases this
theorem agV {l:List (List UInt8)}(h:NT l){x:List UInt8}(b:hit l x=au):x ∉ l:=by
 intro hm;obtain⟨m,a,rfl⟩:=axX hm;have hp:place l l[m]=m:=OC om (λj d c=>uP h c a) (λ_=>xU _);unfold hit at b;rw[hp,auO a] at b;simp at b
theorem U1 {o:Ob}(h:check d o=0)(i:keyed o=aw)(key:List UInt8):aR o key=if hit o.keys key then .mk o.k o.n o.g o.s (o.keys.take (place o.keys key)++o.keys.drop (place o.keys key+1)) (o.kids.take (place o.keys key)++o.kids.drop (place o.keys key+1)) else o:=by
 obtain⟨c,e⟩:=fM h i;cases f:hit o.keys key with
|true=>
  have hi:o.keys[place o.keys key]?=ay key:=auW f;have a:place o.keys key < o.keys.length:=(auV.1 hi).1;have j:o.keys[place o.keys key]=key:=(auV.1 hi).2;unfold aR;rw[TG e hi (λm hm b=>by rw[<-j];exact ahR c hm a b)];rfl
|false=>
  unfold aR;rw[rC e (agV c f)];cases o;rfl
end Vl
namespace Vl
theorem PR (l:List (List UInt8))(i:Nat):Pl.tot (l.take i)+Pl.tot (l.drop i)=Pl.tot l:=by
 rw[<-Pl.MO,avV]
theorem Rq:∀a b:List Ob,Ob.wts (a++b)=Ob.wts a+Ob.wts b
|[],b=>by rw[avU,Ob.wts];omega
|o::a,b=>by rw[axW,Ob.wts,Ob.wts,Rq a b];omega
theorem KA (l:List Ob)(i:Nat):Ob.wts (l.take i)+Ob.wts (l.drop i)=Ob.wts l:=by
 rw[<-Rq,avV]
theorem acJ (l:List (List UInt8))(i j:Nat)(h:i<=j):Pl.tot (l.drop j)<=Pl.tot (l.drop i):=by
 have:=PR (l.drop i) (j - i);rw[ayM,show i+(j - i)=j by omega] at this;omega
theorem ZG (l:List Ob)(i j:Nat)(h:i<=j):Ob.wts (l.drop j)<=Ob.wts (l.drop i):=by
 have:=KA (l.drop i) (j - i);rw[ayM,show i+(j - i)=j by omega] at this;omega
theorem kN (o:Ob):o.wt=6+o.s.length+Pl.tot o.keys+Ob.wts o.kids:=by cases o;rw[Ob.wt];rfl
theorem Ql (o:Ob)(key:List UInt8)(v:Ob):(put o key v).wt<=o.wt+(key.length+1)+v.wt:=by
 rw[kN (put o key v),kN o];rw[show (put o key v).s=o.s from rfl,show (put o key v).keys=o.keys.take (place o.keys key)++key::o.keys.drop (place o.keys key+if hit o.keys key then 1 else 0) from rfl,
  show (put o key v).kids=o.kids.take (place o.keys key)++v::o.kids.drop (place o.keys key+if hit o.keys key then 1 else 0) from rfl]
 rw[Pl.MO,Rq];have b:=PR o.keys (place o.keys key);have c:=acJ o.keys (place o.keys key) (place o.keys key+if hit o.keys key then 1 else 0) om;have d:=KA o.kids (place o.keys key);have e:=ZG o.kids (place o.keys key) (place o.keys key+if hit o.keys key then 1 else 0) om;have a:∀l,Pl.tot (key::l)=key.length+1+Pl.tot l:=λl=>by simp[Pl.tot]
 rw[a,Ob.wts];omega
theorem TV (key:List UInt8):∀(ks:List (List UInt8)) (cs:List Ob),Pl.tot (bY key ks cs).1<=Pl.tot ks∧Ob.wts (bY key ks cs).2<=Ob.wts cs
|[],cs=>by simp[bY,Pl.tot,Ob.wts]
|k::ks,[]=>by simp[bY,Pl.tot,Ob.wts]
|k::ks,c::cs=>by
  have b:∀a l,Pl.tot (a::l)=a.length+1+Pl.tot l:=λa l=>by simp[Pl.tot]
  obtain⟨d,e⟩:=TV key ks cs;rw[bY];split
  ·rw[b,Ob.wts];exact⟨om,om⟩
  ·rw[b,b,Ob.wts,Ob.wts];exact⟨om,om⟩
theorem kX (o:Ob)(key:List UInt8):(aR o key).wt<=o.wt:=by
 rw[kN (aR o key),kN o];have:=TV key o.keys o.kids;rw[show (aR o key).s=o.s from rfl,show (aR o key).keys=(bY key o.keys o.kids).1 from rfl,show (aR o key).kids=(bY key o.keys o.kids).2 from rfl];omega
theorem Zo (o:Ob):(right o).1.wt<=o.wt:=by
 unfold right;split
 ·show ob0.wt<=_;rw[kN ob0,kN o];show 6+0+Pl.tot []+Ob.wts []<=_;simp[Pl.tot,Ob.wts];omega
 ·exact auL _
theorem aeJ {o:Ob}:((get o key).getD ob0).wt<=o.wt:=by
 have a:ob0.wt<=o.wt:=by
  rw[kN ob0,kN o];show 6+0+Pl.tot []+Ob.wts []<=_;simp[Pl.tot,Ob.wts];omega
 unfold get;split
 ·split
  ·rcases b:o.kids[o.keys.idxOf key]? with _|x
   ·exact a
   ·obtain⟨hi,rfl⟩:=auV.1 b;have c:=KA o.kids (o.keys.idxOf key);rw[avX hi,Ob.wts] at c;rw[kN o];simp only[ayD];omega
  ·exact a
 ·exact a
theorem JC (o:Ob)(key:List UInt8)(v:Ob):(set o key v).1.wt<=o.wt+(key.length+1)+v.wt:=by
 have a:ob0.wt<=o.wt:=by
  rw[kN ob0,kN o];show 6+0+Pl.tot []+Ob.wts []<=_;simp[Pl.tot,Ob.wts];omega
 unfold set;split
 ·simp only;omega
 split
 ·simp only;omega
 split
 ·have:=kX o key;simp only;omega
 ·exact axO (Zo _) (Ql o key v)
end Vl
namespace Vl
def yK:List Ob->Bool
|k::_::r=>ai (k.k=5)&&yK r
|[k]=>ai (k.k=5)
|[]=>aw
def QZ (met:List (List UInt8))(o:Ob):List Ob->Ob×Int
|k::v::r=>if k.s∈met then (ob0,9) else QZ (met++[k.s]) (if v.k≠0 then put o k.s v else o) r
|_=>right o
def lI (ps:List Ob):Ob×Int:=if ps.length % 2≠0 then (ob0,1) else if yK ps=au then (ob0,1) else QZ [] (.mk 7 0 0 [] [] []) ps
theorem NC {o:Ob}{v:Ob}(h:NT o.keys)(u:o.keys.length=o.kids.length):NT (put o key v).keys∧(put o key v).keys.length=(put o key v).kids.length:=by
 have hp:=xX o.keys key;refine⟨?_,?_⟩
 ·show NT (o.keys.take (place o.keys key)++key::o.keys.drop (place o.keys key+if hit o.keys key then 1 else 0));have f:∀x∈o.keys.take (place o.keys key),less x key=true:=by
   intro x c;obtain⟨m,hm,rfl⟩:=axX c;rw[auM] at hm;rw[aAl];exact Ua om
  have g:∀x∈o.keys.drop (place o.keys key+if hit o.keys key then 1 else 0),less key x=true:=by
   intro x c;cases d:hit o.keys key with
  |true=>
    rw[d] at c;obtain⟨m,hm,rfl⟩:=axX c;simp only[if_true,auT] at hm;have hi:o.keys[place o.keys key]?=ay key:=auW d;have t:o.keys[place o.keys key]=key:=(auV.1 hi).2;have:=uP h (i:=place o.keys key) (j:=place o.keys key+1+m) om om;rw[t] at this;simpa using this
  |false=>
    rw[d] at c;obtain⟨m,hm,rfl⟩:=axX c;simp only[ayQ,if_false,auT] at hm;have k:place o.keys key < o.keys.length:=om
    have l:=Z9 k;have n:o.keys[place o.keys key]≠key:=by
     intro e;unfold hit at d;rw[auO k,e] at d;simp at d
    have q:=Vh l n;rcases awQ m with r|r
    ·subst r;simpa using q
    ·have:=uP h (i:=place o.keys key) (j:=place o.keys key+m) om om;simpa using rA q this
  refine ayL.2 ⟨h.sublist (aAT _ _),axD.2 ⟨g,h.sublist (List.drop_sublist _ _)⟩,λa s b p=>?_⟩;rcases auI.1 p with rfl|p
  ·exact f a s
  ·exact rA (f a s) (g b p)
 ·show (o.keys.take (place o.keys key)++key::o.keys.drop (place o.keys key+if hit o.keys key then 1 else 0)).length=(o.kids.take (place o.keys key)++v::o.kids.drop (place o.keys key+if hit o.keys key then 1 else 0)).length;simp only[auH,auM,auX,auT];omega
theorem OT {ps:List Ob}(h:i+1 < ps.length):yK (ps.drop i)=(ai ((ps[i]'(om)).k=5)&&yK (ps.drop (i+2))):=by
 rw[avX (show i < ps.length by omega),avX h,yK]
theorem Uq {ps:List Ob}{met:List (List UInt8)}{o:Ob}(h:i+1 < ps.length):QZ met o (ps.drop i)=if (ps[i]'(om)).s∈met then (ob0,9) else QZ (met++[(ps[i]'(om)).s]) (if ps[i+1].k≠0 then put o (ps[i]'(om)).s ps[i+1] else o) (ps.drop (i+2)):=by
 rw[avX (show i < ps.length by omega),avX h,QZ]
theorem ZE {ps:List Ob}(h:i+1 < ps.length):Ob.wts (ps.drop i)=(ps[i]'(om)).wt+ps[i+1].wt+Ob.wts (ps.drop (i+2)):=by
 rw[avX (show i < ps.length by omega),avX h,Ob.wts,Ob.wts,show i+1+1=i+2 from rfl];omega
end Vl
namespace Lx
open Oc
def eol (c:UInt8):Bool:=ai (c=13)||decide (c=10)
def aaP:Bool->List UInt8->Nat
|_,[]=>0
|true,c::t=>1+aaP (!eol c) t
|false,c::t=>if c=37 then 1+aaP aw t else if JP c then 1+aaP au t else 0
def skip (s:List UInt8)(k:Nat):Nat:=k+aaP au (s.drop k)
def ajA:List UInt8->Nat
|[]=>0
|c::t=>if c=10 then 1 else if c=13 then (if t.head?=ay 10 then 2 else 1) else 1+ajA t
def digit (c:UInt8):Int:=
 if 48<=c.toNat∧c.toNat<=57 then (c.toNat:Int) - 48
 else if 65<=c.toNat∧c.toNat<=70 then (c.toNat:Int) - 65+10
 else if 97<=c.toNat∧c.toNat<=102 then (c.toNat:Int) - 97+10
 else -1
def byte (a b:Int):UInt8:=UInt8.ofNat (16*a+b).toNat
end Lx
namespace Lx
open Oc
structure Tok where
 k:Int
 a:Int
 t:Int
 n:Int
 s:List UInt8
 deriving DecidableEq
def none_:Tok:=⟨0,0,0,0,[]⟩
def refused (e:Int):Tok×Int:=(none_,e)
def told (k a t:Int)(x:List UInt8)(most:Int):Tok×Int:=if most < (x.length:Int) then refused 5 else (⟨k,a,t,0,x⟩,0)
def runF:List UInt8->Nat
|[]=>0
|c::t=>if regular c then 1+runF t else 0
def run (s:List UInt8)(i:Nat):Nat:=i+runF (s.drop i)
def cut (s:List UInt8)(i j:Nat):List UInt8:=(s.drop i).take (j - i)
def aiE:List UInt8->Option (List UInt8)
|[]=>ay []
|c::t=>
  if c=35 then match t with
  |a::b::t=>if digit a < 0∨digit b < 0∨16*digit a+digit b=0 then ax else (aiE t).map (byte (digit a) (digit b)::·)
  |_=>ax
  else (aiE t).map (c::·)
def name (s:List UInt8)(at_:Nat):Tok×Int:=
 match aiE (cut s (at_+1) (run s (at_+1))) with
|none=>refused 3
|some x=>told 4 at_ (run s (at_+1)) x 127
def oct (c:UInt8):Bool:=ai (48<=c.toNat)&&ai (c.toNat<=55)
def octF:Nat->Nat->List UInt8->Nat×Nat
|0,n,_=>(n,0)
|_+1,n,[]=>(n,0)
|m+1,n,c::t=>if oct c then ((octF m (8*n+(c.toNat - 48)) t).1,(octF m (8*n+(c.toNat - 48)) t).2+1) else (n,0)
def escL (c:UInt8):Option UInt8:=if c=110 then ay 10 else if c=114 then ay 13 else if c=116 then ay 9 else if c=98 then ay 8 else if c=102 then ay 12 else ax
def escF:List UInt8->List UInt8×Nat
|[]=>([],0)
|c::t=>match escL c with
 |some b=>([b],1)
 |none=>if eol c then ([],ajA (c::t)) else if 0 < (octF 3 0 (c::t)).2 then ([UInt8.ofNat (octF 3 0 (c::t)).1],(octF 3 0 (c::t)).2) else ([c],1)
def RF:Nat->Nat->List UInt8->Option (List UInt8×Nat)
|_,_,[]=>ax
|k+1,o,_::t=>(RF k o t).map λr=>(r.1,r.2+1)
|0,o,c::t=>
  if eol c then (RF (ajA (c::t) - 1) o t).map λr=>(10::r.1,r.2+1)
  else if c=92 then if t=[] then ax else (RF (escF t).2 o t).map λr=>((escF t).1++r.1,r.2+1)
  else if c=40 then (RF 0 (o+1) t).map λr=>(c::r.1,r.2+1)
  else if c=41 then if o<=1 then ay ([],1) else (RF 0 (o - 1) t).map λr=>(c::r.1,r.2+1)
  else (RF 0 o t).map λr=>(c::r.1,r.2+1)
def text (s:List UInt8)(at_:Nat):Tok×Int:=
 match RF 0 1 (s.drop (at_+1)) with
|none=>refused 4
|some r=>told 3 at_ (at_+1+r.2:Nat) r.1 32767
def hexF:Int->List UInt8->(List UInt8×Nat) ⊕ Int
|_,[]=>.inr 4
|h,c::t=>
  if c=62 then .inl (if 0<=h then [byte h 0] else [],1)
  else if JP c then match hexF h t with|.inl r=>.inl (r.1,r.2+1)|.inr e=>.inr e
  else if digit c < 0 then .inr 3
  else if h < 0 then match hexF (digit c) t with|.inl r=>.inl (r.1,r.2+1)|.inr e=>.inr e
  else match hexF (-1) t with|.inl r=>.inl (byte h (digit c)::r.1,r.2+1)|.inr e=>.inr e
def hex (s:List UInt8)(at_:Nat):Tok×Int:=
 match hexF (-1) (s.drop (at_+1)) with
|.inr e=>refused e
|.inl r=>told 3 at_ (at_+1+r.2:Nat) r.1 32767
def sgn (c:UInt8):Bool:=ai (c=43)||decide (c=45)
def dig (c:UInt8):Bool:=ai (48<=c.toNat)&&ai (c.toNat<=57)
def PE:List UInt8->List UInt8
|[]=>[]
|c::t=>if sgn c then t else c::t
def ajU (t:List UInt8):Bool:=!(PE t).isEmpty&&(PE t).all dig
def val (n:Nat)(l:List UInt8):Nat:=l.foldl (λn c=>10*n+(c.toNat - 48)) n
def whole (t:List UInt8):Int×Int:=
 if 2147483647 < val 0 (PE t) then (0,2) else (if t.head?=ay 45 then -(val 0 (PE t):Int) else (val 0 (PE t):Int),0)
def arF (t:List UInt8)(a b:Int):Tok×Int:=
 if ajU t then (if (whole t).2≠0 then refused (whole t).2 else (⟨1,a,b,(whole t).1,[]⟩,0))
 else if t.contains 46∧(Fx.read t).2=0 then (⟨2,a,b,(Fx.read t).1,[]⟩,0)
 else if t.contains 46∧(Fx.read t).2=2 then refused 2
 else told 5 a b t 127
def word (s:List UInt8)(at_:Nat):Tok×Int:=arF (cut s at_ (run s at_)) at_ (run s at_)
def mark (s:List UInt8)(at_ n:Nat):Tok×Int:=(⟨6,at_,(at_+n:Nat),0,cut s at_ (at_+n)⟩,0)
def token (s:List UInt8)(a:Nat):Tok×Int:=
 match s.drop a with
|[]=>(⟨0,a,a,0,[]⟩,0)
|c::t=>
  if c=91∨c=93∨c=123∨c=125 then mark s a 1
  else if c=60 then (if t.head?=ay c then mark s a 2 else hex s a)
  else if c=62 then (if t.head?=ay c then mark s a 2 else refused 3)
  else if c=47 then name s a
  else if c=40 then text s a
  else if c=41 then refused 3
  else word s a
def next (s:List UInt8)(at_:Int):Tok×Int:=if at_ < 0∨(s.length:Int) < at_ then refused 1 else token s (skip s at_.toNat)
end Lx
end
end Go.Proofs.YtlgndjkieegnaaaGreatDoor


namespace Go.Proofs.YtlgndjkieegnaaaGreatDoor
variable{A S:Nat->Prop}{C:ao->Prop}{D U:TypeId}{K K':VWP}{L:List Eng.Ent}{L0:Loop}{P:Program}{PK PK2:PKT}{W w w' w0:ao}{a hi lo:Int}{args ca fa:Array aq}{b cap d f fuel i j m sz t:Nat}{cb:Array Bool}{cs cur new news xs:List aq}{e:Eng.Ent}{k':IntKind}{key:List UInt8}{q want y:Bool}{v v' v1 v2 vc vk:aq}{xo yo:Operand}{α β:Type}{σ:Eng.Sg}
section
namespace Eng
open Go.RowKit
def Ent.urow (T:TypeId)(sz:Nat)(v:aq)(n:Nat)(xs:List aq):Ent:=
 ⟨λk=>v.ownBlock=ay k,λw=>w.ownsRow 0 T sz v n xs,λ{w w'} h k=>by
  refine⟨h.1,?_⟩;rcases h.2 with b|⟨g,cap,cur,rfl,c,a,rest⟩
  ·exact .inl b
  ·exact .inr ⟨g,cap,cur,rfl,c,(k g rfl).trans a,rest⟩,λh k d=>(World.ownsRowF.lt (World.ownsRowF_of h) k d).2⟩
section
variable {S:Nat->Prop}{P:Program}{w:ao}{PK:PKT}{K:VWP}
theorem urow_row {T:TypeId}{n:Nat}(h:(Ent.urow T sz v n xs).is w):(Ent.row T sz v n xs).is w:=World.ownsRowF_of h
theorem Sl.urow {T:TypeId}{sz:Nat}{v:aq}{n:Nat}{xs:List aq}(h:(Ent.urow T sz v n xs).is w):Sl w v sz n xs:=Sl.row (urow_row h)
theorem bT.slU (a:bT S w0 w L)(i:Nat){T:TypeId}{n:Nat}(hi:L[i]?=ay (.urow T sz v n xs)):Sl w v sz n xs:=Sl.urow (a.at_ i hi)
theorem bT.nilU (a:bT S w0 w L)(E:TypeId)(sz:Nat):bT S w0 w (.urow E sz (.slice ax 0 0) 0 []::L):=by
 refine⟨a.grew,λe he=>?_,.cons (λf c k b=>by simp[Ent.urow,Value.ownBlock] at b) a.apart⟩;rcases auI.1 he with rfl|he
 ·exact⟨⟨sm,.inl ⟨rfl,rfl⟩⟩,λk b=>by simp[Ent.urow,Value.ownBlock] at b⟩
 ·exact a.all e he
theorem bT.toU {E:TypeId}(a:bT S w0 w (.cells b cs E::L))(sz n cap:Nat)(d:cs.length=cap*sz)(g:n<=cap)(i:cap<=9223372036854775807) :
  bT S w0 w (.urow E sz (bO b 0 n cap) n (cs.take (n*sz))::L):=by
 refine⟨a.grew,λe he=>?_,?_⟩
 ·rcases auI.1 he with rfl|he
  ·refine⟨⟨by rw[auM,d,avO (awC _ g)],.inr ⟨b,cap,cs.toArray,rfl,avG _,a.at_ 0 rfl,g,by simp only[maxLen];omega,by simpa using d,sm⟩⟩,λk c=>?_⟩;simp only[Ent.urow,Value.ownBlock,ayK] at c;exact (a.all (.cells b cs E) sm).2 k c.symm
  ·exact a.all e (by simp[he])
 ·refine .cons (λf h k c=>?_) (axD.1 a.apart).2;simp only[Ent.urow,Value.ownBlock,ayK] at c;exact (axD.1 a.apart).1 f h k c.symm
theorem Bl {T E:TypeId}{cs:Array Bool}{bytes n:Nat}(l:P.underlying T=ay (.slice E))(he:elB P E sz bytes=aw)(e:0 < sz)
  (c:w.ownsRow 0 E sz v n xs) (D:Sl w v2 sz m news) (F:∀u∈news,u.oneCell'=aw) (G:(n+m)*bytes<=140737488355328) (q:n+m<=140737488355328) :
  ∃v' w',(mB .append #[T,T] U cs #[v,v2]).run P w=.ok (.value v') w'∧Mf (.urow E sz v n xs) (.urow E sz v' (n+m) (xs++news)) w w':=by
 obtain⟨v',w',r,t⟩:=Ls (P:=P) (U:=U) (cs:=cs) l he e (World.ownsRowF_of c) D F G q;refine⟨v',w',r,t.grew,?_,t.new⟩;obtain⟨i,z,hi,I,s,x,y⟩:=mA he;obtain⟨o,a,cap,rfl,J,K⟩:=D;have A:n+m<=maxLen:=by simp only[maxLen];omega
 cases a with
|some p=>
  have L:∀j u,news[j]?=ay u->w.cell? (p.add j)=ay u:=by
   intro j u H;have f:j < news.length:=(auV.1 H).1;have hm:0 < m:=by
    rcases awQ m with h|h
    ·subst h;simp at o;rw[o] at f;simp at f
    ·exact h
   obtain⟨B,d⟩:=K p rfl;have:=B hm;obtain⟨b,off,spot⟩:=p;simp only at this d;subst this;rw[cS];exact d j u H
  obtain⟨v2,w2,M,N,O,Q⟩:=run_append_own (P:=P) w 0 T U E i z sz bytes l hi I s x y e v n xs c p m cap news o L F A G (avG _);have:(mB .append #[T,T] U cs #[v,.slice (ay p) m cap]).run P w=.ok (.value v2) w2:=by simp[mB,builtin,M]
  rw[this] at r;cases r;exact N
|none=>
  have h:=J rfl;subst h;have k:news=[]:=ayY (by simpa using o);subst k;have:(mB .append #[T,T] U cs #[v,.slice ax 0 cap]).run P w=.ok (.value v) w:=by
   rcases c.2 with ⟨rfl,rfl⟩|⟨g,R,cur,rfl,_,_,C,_⟩
   ·simp[mB,builtin,Builtin.append_,run_underlying l,sizeOf,typeInfo,hi,Builtin.lenOf,Builtin.firstCells]
   ·simp[mB,builtin,Builtin.append_,run_underlying l,sizeOf,typeInfo,hi,Builtin.lenOf,Builtin.firstCells,C,storeCells]
  rw[this] at r;cases r;rw[avA];exact c
theorem bZ (i:Nat){T E:TypeId}{cs:Array Bool}{bytes n:Nat}(d:P.underlying T=ay (.slice E))(he:elB P E sz bytes=aw)(a:0 < sz)
  (c:bT S w0 w L) (hi:L[i]?=ay (.urow E sz v n xs)) (e:Sl w v2 sz m news) (f:∀u∈news,u.oneCell'=aw) (g:(n+m)*bytes<=140737488355328) (b:n+m<=140737488355328)
  (k:∀v' w',bT S w0 w' (L.set i (.urow E sz v' (n+m) (xs++news)))->K v' w'):DoX P (mB .append #[T,T] U cs #[v,v2]) w PK K:=by
 obtain⟨v',w',r,t⟩:=Bl (cs:=cs) (U:=U) d he a (c.at_ i hi) e f g b;exact vZ r (k _ _ (c.turn i hi t))
theorem nX {E:TypeId}{n:Nat}(h:(Ent.urow E sz v n xs).is w)(a:0 < n):∃g cap,v=bO g 0 n cap:=by
 rcases (show w.ownsRow 0 E sz v n xs from h).2 with ⟨_,b⟩|⟨g,cap,cur,rfl,_⟩
 ·omega
 ·exact⟨g,cap,rfl⟩
theorem HD {T:TypeId}{g off:Nat}{cur:Array aq}{E:TypeId}{u:aq}(b:u.cells=new.toArray)(c:(P.info? T).map (·.size)=ay new.length)(d:∀x∈new,x.oneCell'=aw)
  (e:w.heap[g]?=ay (.cells cur E (0,0))) (f:off+new.length<=cur.size) :
  (Instr.storeAt T (af g off) u).run P w=.ok () (w.setRow g (cur.toList.take off++new++cur.toList.drop (off+new.length)).toArray):=by
 have a:=run_storeCells_at P g off E new 0 cur w e (by simpa using f) d;obtain⟨i,hi,h⟩:=awP.1 c;simp only[awF] at a;simp[Instr.storeAt,Instr.sureAddr,storeVar,b,sizeOf,typeInfo,hi,h,a]
theorem Cw (i:Nat){T E:TypeId}{g off n:Nat}{u:aq}(j:bT S w0 w L)(hi:L[i]?=ay (.urow E sz (bO g 0 n cap) n xs))
  (p:u.cells=new.toArray) (q:(P.info? T).map (·.size)=ay new.length) (r:∀x∈new,x.oneCell'=aw) (z:off+new.length<=n*sz)
  (k:∀w',bT S w0 w' (L.set i (.urow E sz (bO g 0 n cap) n (xs.take off++new++xs.drop (off+new.length))))->K undef w'):DoX P (aN T (af g off) u) w PK K:=by
 have a:w.ownsRow 0 E sz (bO g 0 n cap) n xs:=j.at_ i hi;rcases a.2 with ⟨s,_⟩|⟨A,m,cur,he,t,o,c,f,d,b⟩
 ·cases s
 cases he;have hle:n*sz<=cur.size:=by rw[d];exact awC _ c
 refine D1 (Kr (HD p q r o om)) (k _ ?_);refine j.put i hi (w':=w.setRow g _) ⟨rfl,rfl,rfl,by simp[World.setRow],λk _ h=>setRow_other w g k _ (λe=>h (by simp[Ent.urow,Value.ownBlock,e]))⟩ _ ?_ (λk h=>.inl h);have v:=a.1;have y:cur.toList.length=cap*sz:=by simpa using d
 refine⟨by simp only[auH,auM,auT];omega,.inr ⟨g,cap,_,rfl,t,setRow_heap w g cur _ E (0,0) o,c,f,?_,?_⟩⟩
 ·simp only[List.size_toArray,auH,auM,auT];omega
 ·subst b;rw[ayZ,avO om];simp only[auN];rw[aAJ,aAJ,avE (l:=cur.toList.take off) (by simp;omega),avE (l:=new) (by simp;omega)]
  congr 2
  rw[auM,avO om,List.drop_take]
  congr 1
  omega
end
end Eng
end
section
open Eng Go.RowKit Go.ChangeShapes Go.WideShapes
theorem vQ {H:Type}:∀(a b:List (DataW H)),Rows.uptoBulkAll (a++b)=Rows.uptoBulkAll a+Rows.uptoBulkAll b
|[],b=>by simp[Rows.uptoBulkAll]
|x::a,b=>by rw[axW,Rows.uptoBulkAll,vQ a b,Rows.uptoBulkAll];omega
theorem Px {H:Type}:∀a:List ByteArray,Rows.uptoBulkAll (strs (H:=H) a)=Pl.tot (a.map (·.data.toList))
|[]=>by simp[strs,Rows.uptoBulkAll,Pl.tot]
|s::a=>by
  have:=Px (H:=H) a;rw[show strs (H:=H) (s::a)=.lit (.string s.data.toList)::strs a from rfl,Rows.uptoBulkAll,this,Rows.uptoBulk];simp[Pl.tot]
theorem OVs.snoc {A:Nat->Prop}{w:ao}{a:List aq}{o:Ob}(c:a.length=6)(d:OV A w (.agg a.toArray) o):∀(os:List Ob) (cs:List aq),OVs A w cs os->OVs A w (cs++a) (os++[o])
|[],cs,h=>by
  rw[OVs] at h;subst h;rw[avU,avU,OVs];exact⟨a,[],sm,c,d,OVs.nil⟩
|p::os,cs,h=>by
  rw[OVs] at h;obtain⟨b,rest,rfl,e,f,g⟩:=h;rw[axW,OVs];exact⟨b,rest++a,sm,e,f,OVs.snoc c d os rest g⟩
theorem TZ (o:Ob):∀os:List Ob,Ob.wts (os++[o])=Ob.wts os+o.wt
|[]=>by simp[Ob.wts]
|p::os=>by rw[axW,Ob.wts,TZ o os,Ob.wts];omega
theorem SP (a:Addr)(m n:Nat):(a.add m).add n=a.add (m+n):=by
 unfold Addr.add;by_cases hm:m=0
 ·subst hm;simp
 ·by_cases b:n=0
  ·subst b;simp[hm]
  ·have:¬(m+n=0):=om
   simp[hm,b,awU]
theorem aoN {α:Type}:∀{l:List α},l.length=6->∃a b c d e f,l=[a,b,c,d,e,f]
|[a,b,c,d,e,f],_=>⟨a,b,c,d,e,f,rfl⟩
section
variable {H:Type}{enc:TypeId×aq->H}{W:ao}{sp:Nat->Bool}{held:Bool}
abbrev InW (W:ao):Nat->Prop:=λb=>b < W.heap.size
theorem Wn {x:DataW H×List MemPlace}(h:DataW.trod enc ah W 0 sp held fuel 22 cs=ay x) :
  ∃(v:aq) (e:List (List UInt8)),cs=[v]∧SlA (InW W) W v 1 e.length (bI e)∧Pl.tot e+1<=Rows.uptoBulk x.1:=by
 rcases open_strings auR auQ krx h with ⟨rfl,rfl⟩|⟨a,len,cap,d,rfl,_,i,hm,k,rfl,c,l⟩
 ·exact⟨_,[],rfl,SlA.nil _ _ _ _,by simp[Pl.tot,Rows.uptoBulk]⟩
 ·have m:len<=d.length:=by rw[k];split<;>omega
  refine⟨_,(d.take len).map (·.data.toList),rfl,?_,?_⟩
  ·have hlen:((d.take len).map (·.data.toList)).length=len:=by simp;omega
   rw[hlen];refine SlA.OH om (by simp[bI];omega) (λj u g=>?_) (λb n=>n) i;have f:j < len:=by
    have:=(auV.1 g).1;simp[bI] at this;omega
   rw[c j om,<-g];simp[bI,strV,axK,f,List.getD,auO (show j < d.length by omega)]
  ·simp only[Rows.uptoBulk];rw[Px];omega
set_option maxRecDepth 100000 in
theorem abZ:∀(fuel:Nat) (cs:List aq) (x:DataW H×List MemPlace),DataW.trod enc ah W 0 sp held fuel 25 cs=ay x ->
  ∃o:Ob,OV (InW W) W (.agg cs.toArray) o∧o.wt<=Rows.uptoBulk x.1∧cs.length=6:=by
 intro fuel
 induction fuel using Nat.strongRecOn with
|_ fuel U=>
  intro cs x h;obtain⟨xs,n,rfl,rfl,N,d,p⟩:=DataW.trod_struct underlying25 h;have O:Tryz.prog.cellsOf 25=6:=krx
  rw[O] at N;have d:xs.length=6:=d;obtain⟨x0,x1,x2,x3,x4,V,rfl⟩:=aoN d;obtain⟨v0,v1,v2,v3,v4,v5,rfl⟩:=aoN N;have P:=p 0 _ rfl;have e1:=p 1 _ rfl;have e2:=p 2 _ rfl;have e3:=p 3 _ rfl;have Q:=p 4 _ rfl;have R:=p 5 _ rfl;have k0:Tryz.prog.cellsOf 3=1:=krx
  have X:Tryz.prog.cellsOf 2=1:=krx
  have Y:Tryz.prog.cellsOf 9=1:=krx
  have Z:Tryz.prog.cellsOf 22=1:=krx
  have k5:Tryz.prog.cellsOf 23=1:=krx
  simp only[k0,X,Y,Z,k5,axB,aAm,azA,axY,ayW,avR] at P e1 e2 e3 Q R;obtain⟨k,v,rfl,_⟩:=DataW.trod_int avY P;obtain⟨m,hm,rfl,_⟩:=DataW.trod_int underlying2 e1;obtain⟨g,z,rfl,_⟩:=DataW.trod_int avY e2;obtain⟨s,A,rfl,_⟩:=DataW.trod_string auQ e3;obtain⟨vk,zs,e,B,a1⟩:=Wn Q
  injection v with v _
  injection hm with hm _
  injection z with z _
  injection A with A _
  injection e with e _
  subst v;subst hm;subst z;subst A;subst e;have kids:∃(cs:List aq) (os:List Ob),SlA (InW W) W v5 6 os.length cs∧OVs (InW W) W cs os∧Ob.wts os+1<=Rows.uptoBulk V.1:=by
   rcases DataW.trod_slice auU R with ⟨f,rfl⟩|⟨a,len,cap,elems,rest,n',rfl,f,rfl,_,C,a6,D,q,_,_⟩
   ·injection f with f _
    subst f;exact⟨[],[],SlA.nil _ _ _ _,OVs.nil,by simp[Ob.wts,Rows.uptoBulk]⟩
   ·injection f with f _
    subst f;rw[O] at q;have step:∀k,k<=len->∃(cs:List aq) (os:List Ob),os.length=k∧OVs (InW W) W cs os∧(∀j u,cs[j]?=ay u->W.cell? (a.add j)=ay u)∧Ob.wts os<=Rows.uptoBulkAll ((elems.take k).map (·.1)):=by
     intro k
     induction k with
    |zero=>intro _;exact⟨[],[],rfl,OVs.nil,(λj u i=>by simp at i),by simp[Ob.wts,Rows.uptoBulkAll]⟩
    |succ k E=>
      intro v;obtain⟨cs,os,w,r,F,S⟩:=E om;have t:k < elems.length:=om
      have y:=q k om;rw[auO t,azM] at y;obtain⟨T,G,I⟩:=y;obtain⟨o,ho,hw,J⟩:=U n' om T _ I;have c:=OVs.len os cs r;refine⟨cs++T,os++[o],by simp[w],OVs.snoc J ho os cs r,λj u i=>?_,?_⟩
      ·rcases avI j cs.length with l|l
       ·rw[awR l] at i;exact F j u i
       ·rw[awW l] at i;have K:j - cs.length < 6:=by
         have:=(auV.1 i).1;omega
        have:=(World.cells?_some G).2.2 (j - cs.length) K;rw[<-i,<-this,SP,show k*6+(j - cs.length)=j by omega]
      ·rw[TZ,avL t,avM,vQ];simp only[avS,axT,Rows.uptoBulkAll];omega
    obtain⟨cs,os,w,r,F,S⟩:=step len (auL _);have c:=OVs.len os cs r;refine⟨cs,os,?_,r,?_⟩
    ·rw[w];exact SlA.OH om (by rw[c,w]) F (λb y=>y) C
    ·rw[<-D,awD] at S;simp only[Rows.uptoBulk];omega
  obtain⟨cs,os,L,M,a7⟩:=kids;refine⟨.mk k m g s.data.toList zs os,?_,?_,rfl⟩
  ·rw[OV];exact⟨_,_,cs,rfl,B,L,M⟩
  ·simp only[Ob.wt,Rows.uptoBulk,avS,axT,Rows.uptoBulkAll];omega
end
end
section
namespace Eng
open Go.RowKit
structure Mem where
 A:Nat->Prop
 w:ao
 lt:∀b,A b->b < w.heap.size
def Mem.has (M:Mem)(w:ao):Prop:=∀b,M.A b->w.heap[b]?=M.w.heap[b]?
structure Mem.le (M N:Mem):Prop where
 A:∀b,M.A b->N.A b
 has:M.has N.w
def Mem.all (w:ao):Mem:=⟨λb=>b < w.heap.size,w,λ_ h=>h⟩
theorem Mem.aiN (w:ao):(Mem.all w).has w:=λ_ _=>rfl
theorem Mem.le_refl (M:Mem):M.le M:=⟨λ_ h=>h,λ_ _=>rfl⟩
theorem Mem.le_trans {M N O:Mem}(h:M.le N)(k:N.le O):M.le O:=⟨λb a=>k.A b (h.A b a),λb a=>(k.has b (h.A b a)).trans (h.has b a)⟩
theorem Mem.JJ {M N:Mem}(h:M.le N)(k:N.has w):M.has w:=λb a=>(k b (h.A b a)).trans (h.has b a)
theorem Mem.bd {M:Mem}(h:M.has w)(a:M.A b):b < w.heap.size:=by
 have c:=h b a;rw[Array.getElem?_eq_getElem (M.lt b a)] at c;exact eH c
theorem Mem.Pb {M:Mem}(h:M.has w)(k:Below w.heap.size w w'):M.has w':=λb a=>(k.block b (Mem.bd h a)).trans (h b a)
def Ent.mem (M:Mem):Ent:=⟨M.A,M.has,λh k b a=>(k b a).trans (h b a),λh k c=>Mem.bd h c⟩
structure Gives (M:Mem) (w w':ao) (N:Mem):Prop where
 le:M.le N
 has:N.has w'
 new:∀b,N.A b->M.A b∨w.heap.size<=b
 below:Below w.heap.size w w'
def jR (P:Program)(f:Nat)(args:Array aq)(M:Mem)(w:ao)(R:aq->Mem->Prop):Prop:=Ret P f args w (λv w'=>∃N,Gives M w w' N∧R v N)
section
variable {S:Nat->Prop}{P:Program}{w w0:ao}{L:List Ent}{PK:PKT}{K:VWP}
theorem bT.memS {M:Mem}(h:M.has w):bT M.A w w [.mem M]:=bT.lend (e:=.mem M) h
theorem bT.hasM {M:Mem}(a:bT S w0 w L)(i:Nat)(hi:L[i]?=ay (.mem M)):M.has w:=a.at_ i hi
theorem bT.asG {M N:Mem}(a:bT S w0 w L)(i:Nat)(hi:L[i]?=ay (.mem M))(g:Gives M w w' N):bT S w0 w' (L.set i (.mem N)):=
 a.turn i hi ⟨Ma g.below,g.has,g.new⟩
theorem bT.GC {c N:Mem}(a:bT c.A w w' L)(i:Nat)(hi:L[i]?=ay (.mem N))(hle:c.le N)(e:c.has w):Gives c w w' N:=by
 have hm:=a.all (.mem N) (ayC hi);refine⟨hle,hm.1,λb f=>hm.2 b f,a.grew.os,a.grew.tape,a.grew.output,a.grew.size,λk g=>?_⟩;by_cases d:c.A k
 ·rw[e k d];have h:w'.heap[k]?=N.w.heap[k]?:=hm.1 k (hle.A k d);rw[h];exact hle.has k d
 ·exact a.grew.block k g d
theorem bB {M:Mem}{R:aq->Mem->Prop}(a:M.has w)
  (h:∀K:Ending->ao->Prop,(∀(v:aq) (w':ao) (N:Mem) (L:List Ent) (i:Nat),bT M.A w w' L->L[i]?=ay (.mem N)->M.le N->R v N->K (.returned v) w')->Calls P f args w K):jR P f args M w R:=
 aX λK b=>h K λv w' N L i c hi hle d=>b v w' ⟨N,c.GC i hi hle a,d⟩
theorem bH {M:Mem}{R:aq->Mem->Prop}(a:bT S w0 w L)(i:Nat)(hi:L[i]?=ay (.mem M))(h:jR P f args M w R)
  (k:∀v N w',M.le N->R v N->bT S w0 w' (L.set i (.mem N))->K v w'):cR P f args w PK K:=
 Eh h λv w' ⟨N,g,r⟩=>k v N w' g.le r (a.asG i hi g)
theorem bT.freeze {M:Mem}(m:bT S w0 w (e::L))(i:Nat)(hi:L[i]?=ay (.mem M)) :
  ∃N:Mem,M.le N∧N.w=w∧(∀b,e.blk b->N.A b)∧bT S w0 w (L.set i (.mem N)):=by
 have he:=m.all e sm;have t:M.has w:=m.at_ (i+1) (by simpa using hi);have p:∀b,M.A b∨e.blk b->b < w.heap.size:=λb d=>d.elim (λh=>Mem.bd t h) (λh=>e.lt he.1 b h)
 let N:Mem:=⟨λb=>M.A b∨e.blk b,w,p⟩
 have q:i < L.length:=(auV.1 hi).1;have n:L[i]=.mem M:=(auV.1 hi).2;obtain⟨u,a2⟩:=axD.1 m.apart;have hp:=ayX.1 a2;have v:∀k,M.A k->(L[i]).blk k:=λk c=>by rw[n];exact c
 refine⟨N,⟨λb d=>.inl d,t⟩,rfl,λb d=>.inr d,m.grew,?_,?_⟩
 ·intro f y;obtain⟨j,x,rfl⟩:=axX y;rw[axC] at x;rw[aAh];split
  ·refine⟨λb _=>rfl,λk c=>?_⟩;rcases c with c|c
   ·exact (m.all (.mem M) (by rw[<-n];exact auZ _ (auS q))).2 k c
   ·exact he.2 k c
  ·exact m.all _ (auZ _ (auS x))
 ·rw[ayX];intro a b o d l k c;rw[axC] at o d;rw[aAh] at c;rw[aAh];split at c
  ·rename_i r
   subst r;rw[auB om];rcases c with c|c
   ·exact hp i b o d l k (v k c)
   ·exact u _ (auS d) k c
  ·split
   ·rename_i s
    subst s;intro g;rcases g with g|g
    ·exact hp a i o d l k c (v k g)
    ·exact u _ (auS o) k g c
   ·exact hp a b o d l k c
end
end Eng
open Eng Go.RowKit
theorem SlA.le {M N:Mem}(h:M.le N){v:aq}{sz n:Nat}{cs:List aq}(a:SlA M.A M.w v sz n cs):SlA N.A N.w v sz n cs:=by
 have:=a.kept (w':=N.w) h.has;exact⟨this.1,(λp l c e b=>h.A _ (this.2.1 p l c e b)),this.2.2⟩
theorem SlA.now {M:Mem}(h:M.has w){n:Nat}(a:SlA M.A M.w v sz n cs):Sl w v sz n cs:=(a.kept (w':=w) h).1
theorem OV.le {M N:Mem}(h:M.le N){v:aq}{o:Ob}(a:OV M.A M.w v o):OV N.A N.w v o:=OV.mono h.A o v (OV.kept h.has o v a)
theorem OVs.le {M N:Mem}(h:M.le N){cs:List aq}{os:List Ob}(a:OVs M.A M.w cs os):OVs N.A N.w cs os:=OVs.mono h.A os cs (OVs.kept h.has os cs a)
theorem OV.inw {M:Mem}(h:M.has w){o:Ob}(a:OV M.A M.w v o):OV (InW w) w v o:=OV.mono (λb c=>Mem.bd h c) o v (OV.kept h o v a)
end
section
namespace Eng
open Go.RowKit
section
variable {S:Nat->Prop}{P:Program}{w w0:ao}{L:List Ent}{PK:PKT}{K:VWP}
theorem aeE {T E:TypeId}{a:Option Addr}{n c b d:Nat}(h:P.underlying T=ay (.slice E)):DoX P (mEq .eql T xo yo (.slice a n c) (.slice ax b d)) w PK K=K (.bool a.isNone) w:=by
 refine gR ?_;simp[eqGuard,Lib.run_eql_slice_nil w T E a n c b d h]
theorem amI {T E:TypeId}{a:Option Addr}{n c b d:Nat}(h:P.underlying T=ay (.slice E)):DoX P (mEq .neq T xo yo (.slice a n c) (.slice ax b d)) w PK K=K (.bool (!a.isNone)) w:=by
 refine gR ?_;have:=Lib.run_equalIn_slice_nil (P:=P) w 9999 T E a n c b d h;simp[eqGuard,binOp,Op.equal,Op.maxDepth,this]
def wB (a:Option Addr)(l cap sz:Nat):Option Addr:=if cap=l then a else a.map (·.add (l*sz))
theorem gQ {off l:Nat}(h:l < cap):wB (ay ⟨b,off,ax⟩) l cap sz=ay ⟨b,off+l*sz,ax⟩:=by
 unfold wB;rw[auB om,aAn,cS]
theorem HT {a:Addr}:wB (ay ⟨a.block,a.off,ax⟩) 0 cap sz=ay ⟨a.block,a.off,ax⟩:=by
 unfold wB;split
 ·rfl
 ·rw[aAn,cS,axP,awF]
theorem dN {T E:TypeId}{k:IntKind}{a:Option Addr}{n:Nat}(h:P.underlying T=ay (.slice E))(b:(P.info? E).map (·.size)=ay sz)(d:0<=lo)(e:lo<=n) :
  (fJ T (.slice a n cap) (ay (.int k lo)) ax ax).run P w=.ok (.value (.slice (wB a lo.toNat cap sz) (n - lo.toNat) (cap - lo.toNat))) w:=by
 obtain⟨i,hi,f⟩:=awP.1 b;have he:P.elem T=E:=by simp[Program.elem,h]
 have c:P.underlying T=ay (.slice (P.elem T)):=by rw[he];exact h
 refine cJ ?_;rw[run_sliceAt_slice w T _ _ _ _ c,run_slice_l w T a n cap c k lo d e];simp[sizeOf,typeInfo,he,hi,f,sliced,wB]
theorem jJ {T E:TypeId}{k:IntKind}{a:Option Addr}{n:Nat}(h:P.underlying T=ay (.slice E))(b:(P.info? E).map (·.size)=ay sz)(e:0<=hi)(f:hi<=cap) :
  (fJ T (.slice a n cap) ax (ay (.int k hi)) ax).run P w=.ok (.value (.slice (wB a 0 cap sz) hi.toNat cap)) w:=by
 obtain⟨i,c,g⟩:=awP.1 b;have he:P.elem T=E:=by simp[Program.elem,h]
 have d:P.underlying T=ay (.slice (P.elem T)):=by rw[he];exact h
 refine cJ ?_;rw[run_sliceAt_slice w T _ _ _ _ d,run_slice_h w T a n cap d k hi e f];simp[sizeOf,typeInfo,he,c,g,sliced,wB]
theorem Qj {T E:TypeId}{k:IntKind}{a:Option Addr}{n:Nat}(h:P.underlying T=ay (.slice E))(b:(P.info? E).map (·.size)=ay sz)(e:0<=lo)(f:lo<=hi)(g:hi<=cap) :
  (fJ T (.slice a n cap) (ay (.int k lo)) (ay (.int k' hi)) ax).run P w=.ok (.value (.slice (wB a lo.toNat cap sz) (hi.toNat - lo.toNat) (cap - lo.toNat))) w:=by
 obtain⟨i,c,j⟩:=awP.1 b;have he:P.elem T=E:=by simp[Program.elem,h]
 have d:P.underlying T=ay (.slice (P.elem T)):=by rw[he];exact h
 refine cJ ?_;rw[run_sliceAt_slice w T _ _ _ _ d,run_slice_lh w T a n cap d k k' lo hi e f g];simp[sizeOf,typeInfo,he,c,j,sliced,wB]
theorem M3 {T E:TypeId}{k d:IntKind}{a:Option Addr}{n:Nat}{m:Int}(h:P.underlying T=ay (.slice E))(b:(P.info? E).map (·.size)=ay sz)(f:0<=lo)(g:lo<=hi)(j:hi<=m)(l:m<=cap) :
  (fJ T (.slice a n cap) (ay (.int k lo)) (ay (.int k' hi)) (ay (.int d m))).run P w=.ok (.value (.slice (wB a lo.toNat m.toNat sz) (hi.toNat - lo.toNat) (m.toNat - lo.toNat))) w:=by
 obtain⟨i,c,o⟩:=awP.1 b;have he:P.elem T=E:=by simp[Program.elem,h]
 have e:P.underlying T=ay (.slice (P.elem T)):=by rw[he];exact h
 refine cJ ?_;rw[run_sliceAt_slice w T _ _ _ _ e,run_slice_lhm w T a n cap e k k' d lo hi m f g j l];simp[sizeOf,typeInfo,he,c,o,sliced,wB]
theorem Hh {T E:TypeId}{a:Option Addr}{n:Nat}(h:P.underlying T=ay (.slice E)):(mB .len #[T] U cb #[.slice a n cap]).run P w=.ok (.value (ad (n:Int))) w:=by
 simp[mB,builtin,Builtin.len_,run_underlying h,goInt]
theorem Ti {T E:TypeId}{a:Option Addr}{n:Nat}(h:P.underlying T=ay (.slice E)):DoX P (mB .cap #[T] U cb #[.slice a n cap]) w PK K=K (ad (cap:Int)) w:=by
 refine aD ?_;simp[mB,builtin,Builtin.cap_,run_underlying h,goInt]
theorem Qy {T E:TypeId}{bytes n:Nat}{d e:IntKind}(j:P.underlying T=ay (.slice E))(he:elB P E sz bytes=aw)(p:bytes*n<=281474976710656)(q:n<=281474976710656)(l:bT S w0 w L)
  (k:∀(g:Nat) (w':ao) (f:List aq),f.length=n*sz->bT S w0 w' (.cells g f E::L)->K (bO g 0 n n) w'):DoX P (Ld T (.int d (n:Int)) (.int e (n:Int))) w PK K:=by
 obtain⟨i,z,hi,m,a,b,o⟩:=mA he;have c:(i.bytes:Int)*(n:Int)<=281474976710656:=by rw[b,<-Int.natCast_mul];omega
 have h:=run_make (P:=P) w T E i z j hi m d e n n om om c om;rw[auJ] at h;refine vZ (cJ h) (k _ _ (madeCells z.cells (n*i.size)).toList ?_ ?_)
 ·rw[Array.length_toList,size_madeCells,a]
 ·have:=l.alloc (madeCells z.cells (n*i.size)).toList E
  rwa [aBg] at this
theorem Jw {dT sT ty T E:TypeId}{g o dLen dCap:Nat}{a:Addr}{sLen sCap:Nat}{src:List aq}(hu:P.underlying dT=ay (.slice E))(e:(P.info? E).map (·.size)=ay sz)
  (h:w.heap[g]?=ay (.cells cur.toArray T (0,0))) (k:src.length=Nat.min sLen dLen*sz) (b:∀j v,src[j]?=ay v->w.cell? (a.add j)=ay v) (c:o+src.length<=cur.length) (l:∀v∈src,v.oneCell'=aw) :
  (mB .copy #[dT,sT] ty cb #[bO g o dLen dCap,.slice (ay a) sLen sCap]).run P w=.ok (.value (goInt (Nat.min sLen dLen))) (w.setRow g (cur.take o++src++cur.drop (o+src.length)).toArray):=by
 have f:=run_loadCells_list (P:=P) w a src b;have d:=run_storeCells_at P g o T src 0 cur.toArray w h (by simpa using c) l;obtain⟨i,hi,m⟩:=awP.1 e;rw[k] at f;simp only[awF] at d;simp[mB,builtin,Builtin.copy_,run_underlying hu,Builtin.lenOf,Builtin.firstCells,sizeOf,typeInfo,hi,m,f,d]
theorem Ct (i:Nat){dT sT ty T E:TypeId}{g o dLen dCap:Nat}{a:Addr}{sLen sCap:Nat}{src:List aq}(hu:P.underlying dT=ay (.slice E))(d:(P.info? E).map (·.size)=ay sz)
  (e:bT S w0 w L) (hi:L[i]?=ay (.cells g cur T)) (f:src.length=min sLen dLen*sz) (b:∀j v,src[j]?=ay v->w.cell? (a.add j)=ay v) (c:o+src.length<=cur.length) (h:∀v∈src,v.oneCell'=aw)
  (k:∀v' w',bT S w0 w' (L.set i (.cells g (cur.take o++src++cur.drop (o+src.length)) T))->K v' w') :
  DoX P (mB .copy #[dT,sT] ty cb #[bO g o dLen dCap,.slice (ay a) sLen sCap]) w PK K:=
 vZ (Jw hu d (e.at_ i hi) f b c h) (k _ _ (jG e i hi _))
theorem V8 {T o E:TypeId}{B p:IntKind}{g n bytes:Nat}{olds:List aq}(D:P.underlying T=ay (.slice E))(q:P.underlying o=ay (.int B))(he:elB P E sz bytes=aw)(F:0 < sz)
  (G:bT S w0 w L) (r:olds.length=n*sz) (hold:∀j u,olds[j]?=ay u->w.cell? ⟨g,0+j,ax⟩=ay u) (H:0 < m) (C:cap < n+m) (I:(n+m)*bytes<=140737488355328) (J:n+m<=140737488355328)
  (k:∀(b c:Nat) (a:List aq) (w':ao),n+m<=c->c<=9223372036854775807->a.length+n*sz=c*sz->bT S w0 w' (.cells b (olds++a) E::L)->K (bO b 0 (n+m) c) w') :
  DoX P (mB .append #[T,o] U cb #[bO g 0 n cap,.int p (m:Int)]) w PK K:=by
 obtain⟨i,z,hi,M,s,f,t⟩:=mA he;have d:(Builtin.firstCells i.size n (bO g 0 n cap)).run P w.drew=.ok olds.toArray w.drew:=by
  have N:=run_loadCells_list (P:=P) w.drew ⟨g,0,ax⟩ olds (λj v O=>by rw[cS];exact hold j v O);simp only[Builtin.firstCells,s,<-r];exact N
 have y:=grownCap_ge w (n+m) cap E;have hle:=grownCap_le_maxLen w (n+m) cap E (by simp only[maxLen];omega);have Q:=Lib.run_append_grow_zeros (P:=P) w T o U E i z p B D q hi M (ay ⟨g,0,ax⟩) n cap olds d m H om C om (by
   rw[f];have:m*bytes<=(n+m)*bytes:=awC _ om;omega) (by rw[f];exact growslice_fits C I)
 have h:∀x,(Builtin.zeroCells z.cells x).toList.length=x*sz:=by intro x;simp[Builtin.zeroCells,t]
 obtain⟨a,l⟩:∃a,a=(Builtin.zeroCells z.cells m).toList++(Builtin.zeroCells z.cells (grownCap w (n+m) cap E - (n+m))).toList:=⟨_,rfl⟩;have hlen:a.length+n*sz=grownCap w (n+m) cap E*sz:=by
  rw[l,auH,h,h,<-axE,<-axE]
  congr 1
  omega
 have key:=(G.drew).alloc (olds++a) E;have e:(olds++a).toArray=olds.toArray++Builtin.zeroCells z.cells m++Builtin.zeroCells z.cells (grownCap w (n+m) cap E - (n+m)):=by
  rw[l];simp
 have A:(mB .append #[T,o] U cb #[bO g 0 n cap,.int p (m:Int)]).run P w=.ok (.value (bO w.heap.size 0 (n+m) (grownCap w (n+m) cap E))) (w.drew.alloc (.cells (olds++a).toArray E)):=by
  rw[e];simp[mB,builtin,Q]
 exact vZ A (k w.heap.size _ a _ y (by simp only[maxLen] at hle;exact hle) hlen key)
theorem MB (i:Nat){T E:TypeId}{g n c bytes:Nat}{a:Addr}(q:P.underlying T=ay (.slice E))(he:elB P E sz bytes=aw)
  (o:bT S w0 w L) (hi:L[i]?=ay (.cells g cur E)) (r:news.length=m*sz) (b:∀j u,news[j]?=ay u->w.cell? (a.add j)=ay u) (s:∀u∈news,u.oneCell'=aw) (d:n+m<=cap) (f:n*sz+news.length<=cur.length)
  (k:∀w',bT S w0 w' (L.set i (.cells g (cur.take (n*sz)++news++cur.drop (n*sz+news.length)) E))->K (bO g 0 (n+m) cap) w') :
  DoX P (mB .append #[T,T] U cb #[bO g 0 n cap,.slice (ay a) m c]) w PK K:=by
 obtain⟨ii,z,h,y,e,t,v⟩:=mA he;have x:w.heap[g]?=ay (.cells cur.toArray E (0,0)):=o.at_ i hi;have p:=run_append_roomF (P:=P) w T U E ii q h g n cap cur.toArray (0,0) x (avG _) a m c news (by rw[e];exact r) b s d (by rw[e];simpa using f);rw[e] at p;have l:(mB .append #[T,T] U cb #[bO g 0 n cap,.slice (ay a) m c]).run P w=.ok (.value (bO g 0 (n+m) cap)) (w.setRow g (cur.take (n*sz)++news++cur.drop (n*sz+news.length)).toArray):=by
  simp[mB,builtin,p]
 exact vZ l (k _ (jG o i hi _))
def zB (P:Program)(E:TypeId):Bool:=
 match P.info? E with
|some i=>match i.zero with
 |some z=>z.cells.toList.all (·.oneCell')
 |none=>au
|none=>au
theorem SC (i:Nat){T E:TypeId}{g o n c bytes:Nat}(B:P.underlying T=ay (.slice E))(he:elB P E sz bytes=aw)(p:zB P E=aw)(G:0 < n)
  (u:bT S w0 w L) (hi:L[i]?=ay (.cells g cur E)) (b:o+n*sz<=cur.length)
  (k:∀v' w' v,v.length=n*sz->bT S w0 w' (L.set i (.cells g (cur.take o++v++cur.drop (o+n*sz)) E))->K v' w') :
  DoX P (mB .clear #[T] U cb #[bO g o n c]) w PK K:=by
 obtain⟨ii,z,d,e,C,D,q⟩:=mA he;have F:w.heap[g]?=ay (.cells cur.toArray E (0,0)):=u.at_ i hi;have f:∀x∈z.cells.toList,x.oneCell'=true:=by
  unfold zB at p;rw[d] at p;simp only[e] at p;exact axJ.1 p
 have a:(Builtin.zeroCells z.cells n).toList.length=n*sz:=by simp[Builtin.zeroCells,q]
 have r:∀x∈(Builtin.zeroCells z.cells n).toList,x.oneCell'=true:=by
  intro x y;simp only[Builtin.zeroCells,Array.toList_map,avN,Array.toList_range,awH] at y;obtain⟨j,A,rfl⟩:=y;have s:j % z.cells.size < z.cells.size:=axU _ (by
   rcases awQ z.cells.size with h|h
   ·rw[h] at A;simp at A
   ·exact h)
  rw[getElem!_pos z.cells (j % z.cells.size) s];exact f _ sm
 have l:=run_storeCells_at P g o E (Builtin.zeroCells z.cells n).toList 0 cur.toArray w F (by rw[a];simpa using b) r;simp only[awF] at l;obtain⟨m,rfl⟩:∃m,n=m+1:=⟨n - 1,om⟩;have t:(mB .clear #[T] U cb #[bO g o (m+1) c]).run P w=.ok (.value (.tuple #[])) (w.setRow g (cur.take o++(Builtin.zeroCells z.cells (m+1)).toList++cur.drop (o+(m+1)*sz)).toArray):=by
  simp[mB,builtin,Builtin.clear_,run_underlying B,zeroValue,typeInfo,d,e,l];rw[<-a];simp
 exact vZ t (k _ _ _ a (jG u i hi _))
theorem ajH {a:List aq}{off:Nat}(h:(cs.drop off).take a.length=a)(b:a[j]?=ay v):cs[off+j]?=ay v:=by
 rw[<-h] at b;rw[axK] at b;split at b
 ·rwa [ayB] at b
 ·cases b
theorem bT.X9 (d:bT S w0 w L)(i:Nat){E T:TypeId}(hi:L[i]?=ay (.cells b cs E))(off:Nat)(a:List aq)(c:(cs.drop off).take a.length=a)(e:FU P T=ay a.length):AtV P w T ⟨b,off,ax⟩ (.agg a.toArray):=
 AtV.agg e rfl λj v f=>d.cell i hi (off+j) (ajH c f)
theorem B9 (i:Nat){T:TypeId}{off:Nat}{E:TypeId}(a:bT S w0 w L)(hi:L[i]?=ay (.cells b cs E))(c:(P.info? T).map (·.size)=ay new.length)(d:∀v∈new,v.oneCell'=aw)(f:off+new.length<=cs.length)
  (k:∀w',bT S w0 w' (L.set i (.cells b (cs.take off++new++cs.drop (off+new.length)) E))->K undef w'):DoX P (aN T (af b off) (.agg new.toArray)) w PK K:=by
 have h:=HD (P:=P) (T:=T) (g:=b) (off:=off) (cur:=cs.toArray) (E:=E) (u:=.agg new.toArray) (new:=new) rfl c d (a.at_ i hi) (by simpa using f);refine D1 (Kr h) (k _ ?_);have e:(cs.toArray.toList.take off++new++cs.toArray.toList.drop (off+new.length)).toArray=(cs.take off++new++cs.drop (off+new.length)).toArray:=sm
 rw[e];exact jG a i hi _
theorem ZB {M N:Mem}{T:TypeId}{n:Nat}(hw:N.w=w)(d:∀b,(Ent.urow T sz v n xs).blk b->N.A b)(h:(Ent.urow T sz v n xs).is w):SlA N.A N.w v sz n xs:=by
 rw[hw];refine⟨Sl.urow h,λp l c e j=>d _ ?_,λa l c e=>?_⟩
 ·rcases (show w.ownsRow 0 T sz v n xs from h).2 with ⟨rfl,f⟩|⟨g,cap,cur,rfl,_⟩
  ·cases e
  ·injection e with e1 _ _
   injection e1 with e1
   rw[<-e1];rfl
 ·rcases (show w.ownsRow 0 T sz v n xs from h).2 with ⟨rfl,f⟩|⟨g,cap,cur,rfl,_,_,i,_⟩
  ·injection e with _ e2 e3;omega
  ·injection e with _ e2 e3;omega
theorem bT.bG {M:Mem}{T:TypeId}{n:Nat}(a:bT S w0 w (.urow T sz v n xs::L))(i:Nat)(hi:L[i]?=ay (.mem M)) :
  ∃N:Mem,M.le N∧SlA N.A N.w v sz n xs∧bT S w0 w (L.set i (.mem N)):=by
 have h:=a.at_ 0 rfl;obtain⟨N,b,c,d,e⟩:=a.freeze i hi;exact⟨N,b,ZB (M:=M) c d h,e⟩
end
end Eng
end
section
open Eng
namespace Eng
abbrev JT:=List aq->ao->Prop
abbrev KT:=Ending->ao->Prop
abbrev QH:=Exit->Sg->ao->Prop
abbrev FH:=Nat->JT
abbrev PH:=Sg->List aq->Sg->ao->FH->Prop
def cn (J:JT) (f:FH):FH:=λi=>cond (i==0) J (f (i - 1))
def zg:List Nat->List aq->Sg
 |k::ks,v::vs=>λi=>cond (i==k) v (zg ks vs i)
 |_,_=>λ_=>undef
def updH (σ:Sg) (d:Nat) (v:aq):Sg:=λi=>cond (i==d) v (σ i)
def putH (σ:Sg):Option Nat->aq->Sg
 |some d,v=>updH σ d v
 |none,_=>σ
def UE (σ:Sg):List Nat->List aq
 |[]=>[]
 |i::l=>σ i::UE σ l
def nh (k:Nat) (l:List Nat):Nat×List Nat×PH:=(k,l,λ_ _ _ _ _=>True)
def lkH (k:Nat) (F:List Nat->PH->Prop):List (Nat×List Nat×PH)->Prop
 |[]=>False
 |h::r=>bc (Nat.beq h.1 k) (F h.2.1 h.2.2) (lkH k F r)
def lnH (k:Nat):List (Nat×Nat)->Nat
 |[]=>999999
 |h::r=>bc (Nat.beq h.1 k) h.2 (lnH k r)
def tnQ (Q:QH) (K:Sg->ao->Prop):QH
 |.normal,σ,w=>K σ w
 |e,σ,w=>Q e σ w
def bkQ (id:Nat) (Q:QH):QH
 |.exit j,σ,w=>bc (Nat.beq j id) (Q .normal σ w) (Q (.exit j) σ w)
 |e,σ,w=>Q e σ w
def opH' (P:Program) (o:Oper) (σ:Sg) (w:ao) (K:KT) (k:VWP):Prop:=
 match o.op with
 |.move x | .assign x=>k (rd σ x) w
 |.call { callee:=.value (.func f),args,.. }=>cR P f (FP (rd σ) args) w (pk K) k
 |_=>DoX P (CQ (rd σ) o) w (pk K) k
def opsH (P:Program) (K:KT) (ops:Array Oper) (k:Sg->ao->Prop):List Oper->Sg->ao->Prop
 |[],σ,w=>k σ w
 |o::r,σ,w=>match o.guard with
  |none=>opH' P o σ w K (λv w=>opsH P K ops k r (putH σ o.dst v) w)
  |some (j,want)=>match KO ops j with
   |some d=>GDo (σ d) want (λE=>opH' P o σ w K E) w (λv w=>opsH P K ops k r (putH σ o.dst v) w)
   |none=>False
def opQ' (P:Program) (C:ao->Prop) (o:Oper) (σ:Sg) (k:aq->Prop):Prop:=
 match o.op with
 |.move x | .assign x=>k (rd σ x)
 |.call { callee:=.value (.func f),args,.. }=>Fj P C f (FP (rd σ) args) k
 |_=>QDo P C (CQ (rd σ) o) k
def opsQ (P:Program) (ops:Array Oper) (C:ao->Prop) (k:Sg->Prop):List Oper->Sg->Prop
 |[],σ=>k σ
 |o::r,σ=>match o.guard with
  |none=>opQ' P C o σ (λv=>opsQ P ops C k r (putH σ o.dst v))
  |some (j,want)=>match KO ops j with
   |some d=>GQ (σ d) want (λE=>opQ' P C o σ E) (λv=>opsQ P ops C k r (putH σ o.dst v))
   |none=>False
def pmN:Nat->PKT->PKT
 |0,p=>p
 |n+1,p=>pm1 (pmN n p)
def lkR (k:Nat) (F:List Nat->PH->Prop) (d:Prop):List (Nat×List Nat×PH)->Prop
 |[]=>d
 |h::r=>bc (Nat.beq h.1 k) (F h.2.1 h.2.2) (lkR k F d r)
def hdO (P:Program) (S:ao->Prop) (o:Oper) (σ:Sg) (k:aq->Prop):Prop:=
 match o.op with
 |.move x | .assign x=>k (rd σ x)
 |_=>HDo P S (CQ (rd σ) o) k
def hdH (P:Program) (S:ao->Prop) (ops:Array Oper) (o:Oper) (σ:Sg) (k:Sg->Prop):Prop:=
 match o.guard with
 |none=>hdO P S o σ (λv=>k (putH σ o.dst v))
 |some (j,t)=>match KO ops j with
  |some d=>GQ (σ d) t (λE=>hdO P S o σ E) (λv=>k (putH σ o.dst v))
  |none=>False
def stO (P:Program) (p:PKT) (o:Oper) (σ:Sg) (w:ao) (k:VWP):Prop:=
 match o.op with
 |.move x | .assign x=>k (rd σ x) w
 |.call { callee:=.value (.func f),args,.. }=>cR P f (FP (rd σ) args) w p k
 |_=>DoX P (CQ (rd σ) o) w p k
def stH (P:Program) (p:PKT) (ops:Array Oper) (o:Oper) (σ:Sg) (w:ao) (k:Sg->ao->Prop):Prop:=
 match o.guard with
 |none=>stO P p o σ w (λv w=>k (putH σ o.dst v) w)
 |some (j,t)=>match KO ops j with
  |some d=>GDo (σ d) t (λE=>stO P p o σ w E) w (λv w=>k (putH σ o.dst v) w)
  |none=>False
def sk:Nat->List Nat->List Nat
 |0,l=>l
 |_,[]=>[]
 |n+1,c::r=>bc (Nat.beq c 0) (sk n r) (bc (Nat.beq c 5) (sk (n+2) r) (sk (n+1) r))
def htH (P:Program) (ops:Array Oper) (S:ao->Prop) (p:PKT) (k:Sg->ao->Prop):Nat->List Nat->Sg->ao->Prop
 |0,_,_,_=>False
 |_,[],_,_=>False
 |n+1,c::r,σ,w=>bc (Nat.beq c 0) (k σ w) (bc (Nat.beq c 5) (htH P ops S p k n r σ w∧htH P ops S p k n (sk 1 r) σ w) (match ops[c / 5]? with
  |none=>False
  |some o=>bc (Nat.beq (c % 5) 1) (hdH P S ops o σ λσ=>htH P ops S p k n r σ w) (bc (Nat.beq (c % 5) 2) (hdH P (λ_=>True) ops o σ λσ=>htH P ops S p k n r σ w)
   (stH P p ops o σ w λσ w=>bc (Nat.beq (c % 5) 3) (S w∧htH P ops S p k n r σ w) (htH P ops S p k n r σ w)))))
def wpH (P:Program) (K:KT) (d:List (Nat×Nat)) (e:List (Nat×List Nat×PH)):Code->FH->QH->Sg->ao->Prop
 |.skip,_,Q,σ,w=>Q .normal σ w
 |.region id ops draw,f,Q,σ,w=>
  bc draw
   (lkR (5000+id) (λl p=>match l with
    |m::c::t=>Ay w (λS w=>htH P ops S (pmN m (pk K)) (λσ w=>bc (Nat.beq c 0) (Q .normal σ w) (p σ [] σ w f)) 999 t σ w)
    |_=>False)
   (bc (Nat.beq (lnH id d) ops.size)
    (oY w (λC=>opsQ P ops C (λσ=>∀w',C w'->Q .normal σ w') ops.toList σ))
    (oY w (λC=>opsQ P ops C (λσ=>∀w',C w'->opsH P K ops (λσ w=>Q .normal σ w) (ops.toList.drop (lnH id d)) σ w') (ops.toList.take (lnH id d)) σ))) e)
   (opsH P K ops (λσ w=>Q .normal σ w) ops.toList σ w)
 |.seq a b,f,Q,σ,w=>
  bc (Nat.ble (ways a) 1) (wpH P K d e a f (tnQ Q λσ w=>wpH P K d e b f Q σ w) σ w)
   (lkH (2 * keyOf b) (λg p=>Fq (λJ=>wpH P K d e a (cn J f) (tnQ Q λσ' w'=>J (UE σ' g) w') σ w) (λvs w'=>∀j,p σ vs j w' f)) e)
 |.cond c a b,f,Q,σ,w=>IfX (rd σ c) (wpH P K d e a f Q σ w) (wpH P K d e b f Q σ w)
 |.block id a,f,Q,σ,w=>wpH P K d e a f (bkQ id Q) σ w
 |.loop a,f,_,σ,w=>lkH (2 * keyOf a+1) (λg p=>Es (UE σ g) w (λvs w N=>∀j,p σ vs j w (cn N f))) e
 |.exit id,_,Q,σ,w=>Q (.exit id) σ w
 |.ret,_,Q,σ,w=>Q .ret σ w
 |_,_,_,_,_=>False
def hdJ:List JT->JT
 |[]=>λ_ _=>False
 |J::_=>J
def atH (P:Program) (K:KT) (e:List (Nat×Nat)) (d:List (Nat×List Nat×PH)):Code->Nat->List JT->FH->QH->Sg->ao->Prop
 |.seq a b,p,js,f,Q,σ,w=>
  bc (Nat.beq p 1) (wpH P K e d (.seq a b) f Q σ w)
   (bc (Nat.beq (p % 2) 0)
    (bc (Nat.ble (ways a) 1) (atH P K e d a (p / 2) js f (tnQ Q λσ w=>wpH P K e d b f Q σ w) σ w)
     (lkH (2 * keyOf b) (λg _=>atH P K e d a (p / 2) js.tail (cn (hdJ js) f) (tnQ Q λσ' w'=>hdJ js (UE σ' g) w') σ w) d))
    (atH P K e d b (p / 2) js f Q σ w))
 |.cond c a b,p,js,f,Q,σ,w=>
  bc (Nat.beq p 1) (wpH P K e d (.cond c a b) f Q σ w) (bc (Nat.beq (p % 2) 0) (atH P K e d a (p / 2) js f Q σ w) (atH P K e d b (p / 2) js f Q σ w))
 |.block id a,p,js,f,Q,σ,w=>bc (Nat.beq p 1) (wpH P K e d (.block id a) f Q σ w) (atH P K e d a p js f (bkQ id Q) σ w)
 |.loop a,p,js,f,Q,σ,w=>
  bc (Nat.beq p 1) (wpH P K e d (.loop a) f Q σ w)
   (lkH (2 * keyOf a+1) (λg _=>atH P K e d a (p / 2) js.tail (cn (hdJ js) f) (tnQ Q λσ' w'=>hdJ js (UE σ' g) w') σ w) d)
 |c,_,_,f,Q,σ,w=>wpH P K e d c f Q σ w
def allT:List ResultVar->Bool
 |[]=>aw
 |.tmp _::l=>allT l
 |_=>au
def abM (σ:Sg):List ResultVar->List aq
 |.tmp t::l=>σ t::abM σ l
 |_=>[]
def oneH (K:KT) (w:ao):List aq->Prop
 |[v]=>K (.returned v) w
 |l=>K (.returned (.tuple l.toArray)) w
def rvK (σ:Sg):List ResultVar->(List RV->Prop)->Prop
 |[],k=>k []
 |r::l,k=>rvK σ l λx=>k (RV.of σ r::x)
def topH (P:Program) (rs:List ResultVar) (K:KT):QH
 |.normal,σ,w=>bc (allT rs) (oneH K w (abM σ rs)) (rvK σ rs λl=>Bw P l w K)
 |.ret,σ,w=>bc (allT rs) (oneH K w (abM σ rs)) (rvK σ rs λl=>Bw P l w K)
 |_,_,_=>False
structure NfX (a b:Prop):Prop where
 mk ::
 out:a=b
theorem NfX.rf {a:Prop}:NfX a a:=⟨rfl⟩
theorem dxE  {m:Sem Next}    (h:∀v w,NfX (K v w) (K' v w)):NfX (DoX P m w PK K) (DoX P m w PK K'):=⟨by rw [funext λv=>funext λw=>(h v w).out]⟩
theorem cxE   {a:Array aq}    (h:∀v w,NfX (K v w) (K' v w)):NfX (cR P f a w PK K) (cR P f a w PK K'):=⟨by rw [funext λv=>funext λw=>(h v w).out]⟩
theorem gdE  {t:Bool} {E:(VWP)->Prop}   (h:∀v w,NfX (K v w) (K' v w)):NfX (GDo v t E w K) (GDo v t E w K'):=⟨by rw [funext λv=>funext λw=>(h v w).out]⟩
theorem qdE   {m:Sem Next} {K K':aq->Prop} (h:∀v,NfX (K v) (K' v)):NfX (QDo P C m K) (QDo P C m K'):=⟨by rw [funext λv=>(h v).out]⟩
theorem qcE    {a:Array aq} {K K':aq->Prop} (h:∀v,NfX (K v) (K' v)):NfX (Fj P C f a K) (Fj P C f a K'):=⟨by rw [funext λv=>(h v).out]⟩
theorem gqE  {t:Bool} {E:(aq->Prop)->Prop} {K K':aq->Prop} (h:∀v,NfX (K v) (K' v)):NfX (GQ v t E K) (GQ v t E K'):=⟨by rw [funext λv=>(h v).out]⟩
theorem ifE  {A a B b:Prop} (h:NfX A a) (k:NfX B b):NfX (IfX v A B) (IfX v a b):=⟨by rw [h.out,k.out]⟩
theorem joE {F a:JT->Prop} {R:JT} (h:∀J,NfX (F J) (a J)):NfX (Fq F R) (Fq a R):=⟨by rw [funext λJ=>(h J).out]⟩
theorem quE  {F a:(ao->Prop)->Prop} (h:∀C,NfX (F C) (a C)):NfX (oY w F) (oY w a):=⟨by rw [funext λC=>(h C).out]⟩
theorem awE  {p a:ao->Prop} (h:∀w,NfX (p w) (a w)):NfX (∀w,C w->p w) (∀w,C w->a w):=⟨by rw [funext λw=>(h w).out]⟩
theorem hoE  {S:ao->Prop} {m:Sem Next} {K K':aq->Prop} (h:∀v,NfX (K v) (K' v)):NfX (HDo P S m K) (HDo P S m K'):=⟨by rw [funext λv=>(h v).out]⟩
theorem hxE  {F a:(ao->Prop)->ao->Prop} (h:∀S w,NfX (F S w) (a S w)):NfX (Ay w F) (Ay w a):=⟨by rw [funext λS=>funext λw=>(h S w).out]⟩
theorem anE {A a B b:Prop} (h:NfX A a) (k:NfX B b):NfX (A∧B) (a∧b):=⟨by rw [h.out,k.out]⟩
theorem mpC {f:α->β}{a:α}{l:List α}:(a::l).map f=f a::l.map f:=rfl
theorem mpN {f:α->β}:([]:List α).map f=[]:=rfl
theorem omS {f:α->β}{a:α}:(ay a).map f=ay (f a):=rfl
theorem omN {f:α->β}:(ax:Option α).map f=none:=rfl
theorem tlA  (l:List α):l.toArray.toList=l:=rfl
theorem rd_t  :rd σ (.tmp t)=σ t:=rfl
theorem rd_c  :rd σ (.const v)=v:=rfl
theorem rd_g  {g:Nat}:rd σ (.global g)=af g 0:=rfl
theorem rd_f  :rd σ (.func f)=.func (.func f) #[] #[]:=rfl
abbrev nj:JT:=λ_ _=>False
abbrev nk:KT:=λ_ _=>False
def vg (v:List aq)(n:Nat):Value:=v.getD n undef
def nz (F:Func)(p:Nat)(js:List JT)(a:List (Nat×List Nat×PH))(b:List (Nat×Nat))(s:Sg)(w:ao)(K:KT){q r:Prop}
  (h:NfX (atH ah K b a (CX F) p js (λ_ _ _=>False) (topH ah F.results.toList K) s w) q:=by
    repeat' ((conv=>arg 1;whnf);first|(apply dxE;intro v w)|(apply cxE;intro v w)|(apply gdE;intro v w)|apply ifE|(apply joE;intro J)|(apply quE;intro C)|(apply qdE;intro v)|(apply qcE;intro v)|(apply gqE;intro v)|(apply awE;intro w)|(apply hoE;intro v)|(apply hxE;intro S w)|apply anE|exact NfX.rf))
  (c:q=r:=by dsimp only[opH',opQ',hdO,stO,CQ,rd_t,rd_c,rd_g,rd_f,updH,putH,zg,cn,UE,FP,tlA,mpC,mpN,cond_true,cond_false,Nat.reduceBEq,Nat.reduceSub,isEq,isLit,omS,omN,abM,bc,nh,hdJ,vg,RV.of]):Prop:=r
end Eng
abbrev iN (n:Int):Value:=.int .i64 n
def dx (m w K k):=DoX ah m w (pk K) k
def gtx (t m w K k):=GDo t aw (λE=>DoX ah m w (pk K) E) w k
def gfx (t m w K k):=GDo t au (λE=>DoX ah m w (pk K) E) w k
def ctx (t f a w K k):=GDo t aw (λE=>cR ah f a w (pk K) E) w k
def cfx (t f a w K k):=GDo t au (λE=>cR ah f a w (pk K) E) w k
def etx (t:aq)(u:aq)(w:ao)(k:aq->ao->Prop):=GDo t aw (λE=>E u w) w k
def efx (t:aq)(u:aq)(w:ao)(k:aq->ao->Prop):=GDo t au (λE=>E u w) w k
def lnx (T x w K k):=DoX ah (mB .len #[T] 3 #[au] #[x]) w (pk K) k
def ecx (o T n z t w K k):=DoX ah (mEq o T (.tmp n) (.const (ad z)) t (ad z)) w (pk K) k
def apx (T x y w K k):=DoX ah (mB .append #[T,T] T #[au,au] #[x,y]) w (pk K) k
def cx (f a w K k):=cR ah f a w (pk K) k
theorem cw{f:FuncId}{F:Func}{args:List aq}{K:KT}{S:Prop}(a:ah.funcs[f]?=ay F)(b:F.body=ay (CX F):=by rfl)(c:Nat.ble args.length F.ntmps=true:=by rfl)(e:wpX ah F.ntmps [] [] ax (CX F) (topQ ah F.results.toList K) (mP args) [] w=S:=by kernel_rfl)(h:S):Calls ah f args.toArray w K:=HW a b rfl rfl c (e▸h)
theorem cz A B{f:FuncId}{F:Func}{args:List aq}{w:ao}{K:KT}{S:Prop}(a:ah.funcs[f]?=ay F)(b:F.body=ay (CX F):=by rfl)(c:Nat.ble args.length F.ntmps=true:=by rfl)(e:wpX ah F.ntmps A B ax (CX F) (topQ ah F.results.toList K) (mP args) [] w=S:=by kernel_rfl)(h:S):Calls ah f args.toArray w K:=HW a b rfl rfl c (e▸h)
def ldx (T a w K k):=DoX ah (aH T a) w (pk K) k
def bnx (o T a b w K k):=DoX ah (iQ o T a b) w (pk K) k
def iax (T a i w K k):=DoX ah (mIA T a i) w (pk K) k
def fax (T a n w K k):=DoX ah (mFA T a n) w (pk K) k
def nlx (a w K k):=DoX ah (JL a) w (pk K) k
def exx (a n w K k):=DoX ah (Ag a n) w (pk K) k
def stx (T a v w K k):=DoX ah (aN T a v) w (pk K) k
def eqx (o T x y a b w K k):=DoX ah (mEq o T x y a b) w (pk K) k
def mbx (f t T b a w K k):=DoX ah (mB f t T b a) w (pk K) k
def slx (T a b c d w K k):=DoX ah (fJ T a b c d) w (pk K) k
def alx (T w K k):=DoX ah (fK T) w (pk K) k
def iG(t0 w)(K:KT):=nz f104 1 [] [] [] (zg [0] [t0]) w K
theorem nH{t0 w K}:iG t0 w K->Calls ah 104 #[t0] w K:=cw func104
def cF(t0 w)(K:KT):=nz f163 1 [] [] [] (zg [0] [t0]) w K
theorem eO{t0 w K}:cF t0 w K->Calls ah 163 #[t0] w K:=cw func163
def gX(b a e w)(K:KT):=
 slx 22 b (ay a) ax ax w K λH w=>lnx 22 e w K λc w=>ecx .eql 3 15 0 c w K λh w=>IfX h (K (.returned b) w) (lnx 22 b w K λf w=>eqx .eql 3 (.tmp 20) (.tmp 21) a f w K λi w=>IfX i (apx 22 b e w K λj w=>K (.returned j) w) (bnx .add 3 f c w K λk w=>mbx .cap #[22] 3 #[au] #[b] w K λl w=>bnx .gtr 3 k l w K λm w=>IfX m (slx 22 b ax (ay a) ax w K λn w=>bnx .add 3 f c w K λo w=>bnx .sub 3 o a w K λp w=>mbx .append #[22,3] 22 #[au,au] #[n,p] w K λg w=>slx 22 g (ay a) ax ax w K λq w=>mbx .copy #[22,22] 3 #[au,au] #[q,e] w K λI w=>oY w (λE=>QDo ah E (iQ .add 3 a c) λr=>QDo ah E (fJ 22 g (ay r) ax ax) λs=>QDo ah E (fJ 22 b (ay a) ax ax) λt=>
 ∀w,E w ->
 mbx .copy #[22,22] 3 #[au,au] #[s,t] w K λL w=>K (.returned g) w)) (bnx .add 3 f c w K λu w=>slx 22 b ax (ay u) ax w K λd w=>bnx .add 3 a c w K λv w=>slx 22 d (ay v) ax ax w K λx w=>dx (iO (.func (.func 202) #[] #[]) #[e,x]) w K λy w=>dx (mUn .not y) w K λz w=>IfX z (oY w (λJ=>QDo ah J (iQ .add 3 a c) λA=>QDo ah J (fJ 22 d (ay A) ax ax) λB=>QDo ah J (fJ 22 d (ay a) ax ax) λC=>
 ∀w,J w ->
 mbx .copy #[22,22] 3 #[au,au] #[B,C] w K λM w=>slx 22 d (ay a) ax ax w K λD w=>mbx .copy #[22,22] 3 #[au,au] #[D,e] w K λO w=>K (.returned d) w)) (slx 22 d (ay f) ax ax w K λF w=>mbx .copy #[22,22] 3 #[au,au] #[F,e] w K λP w=>slx 22 d (ay a) ax ax w K λG w=>cx 203 #[G,c] w K λQ w=>K (.returned d) w))))
theorem mJ{t0 t1 t2 w K}:gX t0 t1 t2 w K->Calls ah 164 #[t0,t1,t2] w K:=cw func164
def cE(b a e w)(K:KT):=
 slx 23 b (ay a) ax ax w K λH w=>lnx 23 e w K λc w=>ecx .eql 3 15 0 c w K λh w=>IfX h (K (.returned b) w) (lnx 23 b w K λf w=>eqx .eql 3 (.tmp 20) (.tmp 21) a f w K λi w=>IfX i (apx 23 b e w K λj w=>K (.returned j) w) (bnx .add 3 f c w K λk w=>mbx .cap #[23] 3 #[au] #[b] w K λl w=>bnx .gtr 3 k l w K λm w=>IfX m (slx 23 b ax (ay a) ax w K λn w=>bnx .add 3 f c w K λo w=>bnx .sub 3 o a w K λp w=>mbx .append #[23,3] 23 #[au,au] #[n,p] w K λg w=>slx 23 g (ay a) ax ax w K λq w=>mbx .copy #[23,23] 3 #[au,au] #[q,e] w K λI w=>oY w (λE=>QDo ah E (iQ .add 3 a c) λr=>QDo ah E (fJ 23 g (ay r) ax ax) λs=>QDo ah E (fJ 23 b (ay a) ax ax) λt=>
 ∀w,E w ->
 mbx .copy #[23,23] 3 #[au,au] #[s,t] w K λL w=>K (.returned g) w)) (bnx .add 3 f c w K λu w=>slx 23 b ax (ay u) ax w K λd w=>bnx .add 3 a c w K λv w=>slx 23 d (ay v) ax ax w K λx w=>dx (iO (.func (.func 204) #[] #[]) #[e,x]) w K λy w=>dx (mUn .not y) w K λz w=>IfX z (oY w (λJ=>QDo ah J (iQ .add 3 a c) λA=>QDo ah J (fJ 23 d (ay A) ax ax) λB=>QDo ah J (fJ 23 d (ay a) ax ax) λC=>
 ∀w,J w ->
 mbx .copy #[23,23] 3 #[au,au] #[B,C] w K λM w=>slx 23 d (ay a) ax ax w K λD w=>mbx .copy #[23,23] 3 #[au,au] #[D,e] w K λO w=>K (.returned d) w)) (slx 23 d (ay f) ax ax w K λF w=>mbx .copy #[23,23] 3 #[au,au] #[F,e] w K λP w=>slx 23 d (ay a) ax ax w K λG w=>cx 205 #[G,c] w K λQ w=>K (.returned d) w))))
theorem eJ{t0 t1 t2 w K}:cE t0 t1 t2 w K->Calls ah 165 #[t0,t1,t2] w K:=cw func165
def gY(t0 t1 t2 w)(K:KT):=nz f200 1 [] [] [(5,6)] (zg [0,1,2] [t0,t1,t2]) w K
theorem mK{t0 t1 t2 w K}:gY t0 t1 t2 w K->Calls ah 200 #[t0,t1,t2] w K:=cw func200
def cA(t0 t1 t2 w)(K:KT):=nz f201 1 [] [] [(5,6)] (zg [0,1,2] [t0,t1,t2]) w K
theorem eM{t0 t1 t2 w K}:cA t0 t1 t2 w K->Calls ah 201 #[t0,t1,t2] w K:=cw func201
def eR(t0 t1 t6 t7 t8 w)(N1:JT)(K:KT):=nz f161 39 [N1] [nh 7 [7,8]] [] (zg [0,1,6,7,8] [t0,t1,t6,t7,t8]) w K
def fG(t0 t1 w)(K:KT):=nz f161 1 [] [(7,[7,8],λs v j w f=>eR (s 0) (s 1) (s 6) (vg v 0) (vg v 1) w (f 0) K)] [] (zg [0,1] [t0,t1]) w K
theorem jK{t0 t1 w K}:fG t0 t1 w K->Calls ah 161 #[t0,t1] w K:=cz [] [(3,[7,8])] func161
def wC(t0 t1 w)(K:KT):=nz f198 1 [] [] [] (zg [0,1] [t0,t1]) w K
theorem CU{t0 t1 w K}:wC t0 t1 w K->Calls ah 198 #[t0,t1] w K:=cw func198
def uQ(t0 w)(K:KT):=nz f231 1 [] [] [] (zg [0] [t0]) w K
theorem Cf{t0 w K}:uQ t0 w K->Calls ah 231 #[t0] w K:=cw func231
def oF(t0 w)(K:KT):=nz f199 1 [] [] [] (zg [0] [t0]) w K
theorem wH{t0 w K}:oF t0 w K->Calls ah 199 #[t0] w K:=cw func199
end
section
open Eng Go.RowKit
theorem A7 (v:aq)(n:Nat)(cs:List aq)(w:ao)(e:Sl w v 1 n cs)(g:∀u∈cs,u.oneCell'=aw)(i:n<=1000000000000) :
  Ret ah 104 #[v] w (λv' w'=>Own w w' [.urow 9 1 v' n cs]):=by
 have d:=e;obtain⟨j,a,cap,rfl,h,k⟩:=e;refine aX λK f=>nH ?_;unfold iG nz;rw[aeE auR];cases a with
|none=>
  obtain rfl:=h rfl;obtain rfl:cs=[]:=ayY om;simp only[aBj,i_t];exact f _ _ ((Own.start w).nilU 9 1)
|some p=>
  simp only[aBk,i_f];refine bK (λb=>bO b 0 0 0) [] 9 (λ_=>by kernel_rfl) (Own.start w) λb l c=>?_;have c:=c.toU 1 0 0 sm om om;refine bZ 0 auR (show elB ah 9 1 16=aw by kernel_rfl) dc c rfl (c.Re d) g om om λv' w2 c=>?_;refine f _ _ ?_;simpa using c
theorem Hu (v:aq)(n:Nat)(cs:List aq)(w:ao)(e:Sl w v 6 n cs)(g:∀u∈cs,u.oneCell'=aw)(i:n<=1000000000000) :
  Ret ah 163 #[v] w (λv' w'=>Own w w' [.urow 25 6 v' n cs]):=by
 have d:=e;obtain⟨j,a,cap,rfl,h,k⟩:=e;refine aX λK f=>eO ?_;unfold cF nz;rw[aeE auU];cases a with
|none=>
  obtain rfl:=h rfl;obtain rfl:cs=[]:=ayY om;simp only[aBj,i_t];exact f _ _ ((Own.start w).nilU 25 6)
|some p=>
  simp only[aBk,i_f];refine bK (λb=>bO b 0 0 0) [] 25 (λ_=>by kernel_rfl) (Own.start w) λb l c=>?_;have c:=c.toU 6 0 0 sm om om;refine bZ 0 auU (show elB ah 25 6 88=aw by kernel_rfl) dc c rfl (c.Re d) g om om λv' w2 c=>?_;refine f _ _ ?_;simpa using c
theorem ov_s {a b:Addr}{c ca d cb:Nat}(f:a.block≠b.block){tA tB:TypeId}{kA kB:Nat}(g:w.shape? a.block=ay (tA,kA))(h:w.shape? b.block=ay (tB,kB))(i:kB≠0)(j:w.frozen? a=au)(k:w.frozen? { block:=a.block,off:=kA }=au) :
  (iO (.func (.func 202) #[] #[]) #[.slice (ay a) c ca,.slice (ay b) d cb]).run ah w=.ok (.value (.bool au)) w:=by
 have l:(callFunc 202 #[.slice (ay a) c ca,.slice (ay b) d cb]).run ah w=.ok (.value (.bool au)) w:=by
  rw[run_callFunc_extern (e:=Extern.SlicesOverlaps.overlaps #[22,22] #[4]) func202 krx krx krx krx];rw[Lib.run_overlaps_apart w 22 4 9 auR 1 (λw=>by kernel_rfl) a b c ca d cb f tA tB kA kB g h i j k];rfl
 simpa[iO,invoke,Deferred.ofValue,resolve] using l
theorem Ol (v:aq)(n:Nat)(xs:List aq)(k nb:Nat)(new:List aq)(w:ao)(hu:(Ent.urow 9 1 v n xs).is w)(q:w.heap[nb]?=ay (.cells new.toArray 9 (0,0)))(s:new.length=1)
  (D:¬(Ent.urow 9 1 v n xs).blk nb) (h1:∀u∈xs,u.oneCell'=aw) (S:∀u∈new,u.oneCell'=aw) (hk:k<=n) (hb:n<=100000000000) :
  Ret ah 164 #[v,ad (k:Int),bO nb 0 1 1] w
   (λv' w'=>∃e',e'=Ent.urow 9 1 v' (n+1) (xs.take (k*1)++new++xs.drop (k*1))∧Mf (.urow 9 1 v n xs) e' w w'):=by
 have r:xs.length=n*1:=(show w.ownsRow 0 9 1 v n xs from hu).1;have G:Sl w (bO nb 0 1 1) 1 1 new:=⟨om,ay ⟨nb,0,ax⟩,1,rfl,λh=>(by cases h),λp hp=>by cases hp;exact⟨λ_=>rfl,λj u f=>by rw[auP];exact aI (T:=9) q f⟩⟩;have d:=bT.lend hu;refine aX λK U=>mJ ?_;unfold gX dx bnx eqx mbx slx lnx ecx apx cx;have H:elB ah 9 1 16=true:=krx
 have i:(Tryz.prog.info? 9).map (·.size)=ay 1:=krx
 obtain⟨a,cap,rfl,a8⟩:∃a cap,v=.slice a n cap∧n<=cap:=by
  rcases (show w.ownsRow 0 9 1 v n xs from hu).2 with ⟨rfl,rfl⟩|⟨g,cap,cur,rfl,_,_,I,_⟩
  ·exact⟨ax,0,rfl,auL _⟩
  ·exact⟨_,cap,rfl,I⟩
 refine aD (dN auR i om om) |>.mpr ?_;rw[aZ auR G];simp only[rs,Int.natCast_one,Int.one_ne_zero,auF];rw[bW auR];simp only[rs];by_cases V:k=n
 ·subst V;simp only[auE,rs];refine bZ 0 auR H dc d rfl G S om om λv' w2 d=>?_;refine U _ _ ⟨_,rfl,?_⟩;have e:xs.take (k*1)++new++xs.drop (k*1)=xs++new:=by rw[avE om,awG om,avA]
  rw[e];exact bT.back (L:=[]) d
 have B:k < n:=om
 have J:¬(k:Int)=(n:Int):=om
 simp only[J,auF,rs];rcases (show w.ownsRow 0 9 1 (.slice a n cap) n xs from hu).2 with ⟨_,h0⟩|⟨g,b0,cur,he,b4,hg,I,M,N,l⟩
 ·omega
 injection he with X _ Y
 subst X;subst Y;rw[aA om om,Ti auR];simp only[rs];have Z:nb≠g:=λe=>D (by rw[e];rfl);have C:cur.toList.length=cap*1:=by simpa using N
 have E:bT (Ent.urow 9 1 (bO g 0 n cap) n xs).blk w w [.cells g cur.toList 9]:=
  d.turn 0 rfl ⟨I6.refl _ _,by show w.heap[g]?=_;rw[hg],λj f=>.inl (by simp only[Ent.cells] at f;subst f;rfl)⟩
 have a1:∀j u,xs[j]?=ay u->w.cell? ⟨g,0+j,ax⟩=ay u:=λj u f=>by
  rw[auP];exact E.cell 0 rfl j (by rw[<-l] at f;rw[axK] at f;split at f<;>first|exact f|cases f)
 have t:(xs.drop (k*1)).length=(n - k)*1:=by rw[auT,r,<-aAo]
 have O:∀u∈xs.drop (k*1),u.oneCell'=true:=λu hu=>h1 u (ayG hu);by_cases z:(cap:Int) < (n:Int)+1
 ·simp only[z,auE,rs];refine aD (jJ auR i om om) |>.mpr ?_;rw[show wB (ay (⟨g,0,ax⟩:Addr)) 0 cap 1=ay ⟨g,0,ax⟩ from HT (a:=⟨g,0,ax⟩),auJ];rw[aA (n:=(n:Int)+1 - k) om om,show (n:Int)+1 - k=((n+1 - k:Nat):Int) by omega];refine V8 (olds:=xs.take (k*1)) auR avY H dc E (by rw[auM,r,avO om]) (λj u f=>a1 j u (by rw[axK] at f;split at f<;>first|exact f|cases f)) om om om om λb c zs w2 P a6 b5 d=>?_;rw[show k+(n+1 - k)=n+1 by omega] at P ⊢;have m:(xs.take (k*1)).length=k*1:=by rw[auM,r,avO om]
  refine aD (dN auR i om om) |>.mpr ?_;rw[auJ,gQ om];have b1:b≠g:=by
   have:=(axD.1 d.apart).1 (.cells g cur.toList 9) sm;intro e;exact this b rfl e
  have Q:∀{W:ao} {b':Nat} {x y:List aq},bT (Ent.urow 9 1 (bO g 0 n cap) n xs).blk w W [.cells b' x 9,.cells g y 9]->W.heap[nb]?=ay (.cells new.toArray 9 (0,0)):=λh=>(h.grew.block nb (eH q) D).trans q;refine Ct 0 (src:=new) auR i d rfl ?_ (λj u f=>by rw[cS,auP];exact aI (T:=9) (Q d) f) ?_ S λ_ w3 d=>?_
  ·rw[s,avO om]
  ·rw[auH,m,s];omega
  refine quiet ?_;refine sW ?_;rw[aA om om,show (k:Int)+1=((k+1:Nat):Int) by omega];refine dY _ (λW=>dN auR i om om) ?_;refine dY _ (λW=>dN auR i om om) ?_;rw[auJ,auJ,gQ om,gQ om];intro w4 hw;have d:=d.grow hw;simp only[auP,awK m,ayN,m] at d;rw[show k*1+new.length - k*1=1 by omega,awG (show (xs.take (k*1)).length<=k*1+new.length by omega),avU] at d;refine Ct 0 (src:=xs.drop (k*1)) auR i d rfl ?_ (λj u f=>?_) ?_ O λ_ w5 d=>?_
  ·rw[t];congr 1;rw[avO om]
  ·rw[cS];refine d.cell 1 rfl (0+k*1+j) ?_;rw[ayB] at f;rw[auP];rw[<-l] at f;rw[axK] at f;split at f<;>first|exact f|cases f
  ·simp only[auH,auT,m,s,r];omega
  have A:((xs.take (k*1)++new++zs.drop 1).take (0+(k+1)*1)++xs.drop (k*1)++(xs.take (k*1)++new++zs.drop 1).drop (0+(k+1)*1+(xs.drop (k*1)).length))=(xs.take (k*1)++new++xs.drop (k*1))++(zs.drop 1).drop ((n - k)*1):=by
   rw[awK (show (xs.take (k*1)++new).length=0+(k+1)*1 by rw[auH,m,s];omega)];rw[ayN,awG (show (xs.take (k*1)++new).length<=_ by rw[auH,m,s,t];omega),avU]
   congr 2
   rw[auH,m,s,t];omega
  simp only[axF] at d;rw[A] at d;have d:=d.toU 1 (n+1) c (by simp only[auH,auT,m,s,r];omega) P a6;rw[awK (show (xs.take (k*1)++new++xs.drop (k*1)).length=(n+1)*1 by simp only[auH,auT,m,s,r];omega)] at d;exact U _ _ ⟨_,rfl,bT.back d⟩
 ·have o:n+1<=cap:=om
  simp only[z,auF,rs];rw[show (n:Int)+1=((n+1:Nat):Int) by omega];refine aD (jJ auR i om om) |>.mpr ?_;rw[show wB (ay (⟨g,0,ax⟩:Addr)) 0 cap 1=ay ⟨g,0,ax⟩ from HT (a:=⟨g,0,ax⟩),auJ];rw[aA (n:=(k:Int)+1) om om,show (k:Int)+1=((k+1:Nat):Int) by omega];refine aD (dN auR i om om) |>.mpr ?_;rw[auJ,gQ om];refine aD (ov_s (a:=⟨nb,0,ax⟩) (b:=⟨g,0+(k+1)*1,ax⟩) Z (tA:=9) (tB:=9) (kA:=new.length) (kB:=cur.size) (by simp[World.shape?,q]) (by simp[World.shape?,hg]) (by rw[N];omega) (by simp[World.frozen?,q]) (by simp[World.frozen?,q])) |>.mpr ?_;simp only[rs,avZ];refine quiet ?_;refine sW ?_;rw[aA om om,show (k:Int)+1=((k+1:Nat):Int) by omega];refine dY _ (λW=>dN auR i om om) ?_;refine dY _ (λW=>dN auR i om om) ?_;rw[auJ,auJ,gQ om,gQ om];intro w3 hw;have d:=E.grow hw;have F:∀j u,(xs.drop (k*1))[j]?=ay u->cur.toList[k*1+j]?=ay u:=λj u f=>by
   rw[ayB,<-l,axK] at f;split at f<;>first|exact f|cases f
  refine Ct 0 (src:=xs.drop (k*1)) auR i d rfl ?_ (λj u f=>?_) ?_ O λ_ w4 d=>?_
  ·rw[t];congr 1;rw[Nat.min_eq_right om];omega
  ·rw[cS,auP];exact d.cell 0 rfl _ (F j u f)
  ·rw[t,C];have:(n - k)*1+(k+1)*1=(n+1)*1:=by rw[<-axE];congr 1;omega
   have:(n+1)*1<=cap*1:=awC _ o;omega
  simp only[axF] at d;refine aD (dN auR i om om) |>.mpr ?_;rw[auJ,gQ om];have R:w4.heap[nb]?=ay (.cells new.toArray 9 (0,0)):=(d.grew.block nb (eH q) D).trans q;have b6:(k+1)*1<=cap*1:=awC _ om;have b2:(n+1)*1<=cap*1:=awC _ o;have b3:(n - k)*1+(k+1)*1=(n+1)*1:=by rw[<-axE];congr 1;omega
  refine Ct 0 (src:=new) auR i d rfl ?_ (λj u f=>by rw[cS,auP];exact aI (T:=9) R f) ?_ S λ_ w5 d=>?_
  ·rw[s,avO om]
  ·simp only[auH,auM,auT,C,s,t];omega
  simp only[axF] at d;have a7:cur.toList.take (k*1)=xs.take (k*1):=by
   rw[<-l,ayZ,avO (awC _ om)]
  have A:((cur.toList.take (0+(k+1)*1)++xs.drop (k*1)++cur.toList.drop (0+(k+1)*1+(xs.drop (k*1)).length)).take (0+k*1)++new++(cur.toList.take (0+(k+1)*1)++xs.drop (k*1)++cur.toList.drop (0+(k+1)*1+(xs.drop (k*1)).length)).drop (0+k*1+new.length))
   =(xs.take (k*1)++new++xs.drop (k*1))++cur.toList.drop (0+(k+1)*1+(xs.drop (k*1)).length):=by
   have B:(cur.toList.take (0+(k+1)*1)).length=0+(k+1)*1:=by rw[auM,C];omega
   rw[auN (cur.toList.take (0+(k+1)*1))];rw[aAU (by rw[B];omega),ayZ,avO om,auP,a7];rw[ayN,awG (show (cur.toList.take (0+(k+1)*1)).length<=k*1+new.length by rw[B,s];omega),avU];rw[show k*1+new.length - (cur.toList.take (0+(k+1)*1)).length=0 by rw[B,s];omega,axB];simp only[auP,auN]
  rw[A] at d;have d:=d.toU 1 (n+1) cap (by simp only[auH,auM,auT,C,s,r];omega) o (by simp only[maxLen] at M;exact M);rw[awK (show (xs.take (k*1)++new++xs.drop (k*1)).length=(n+1)*1 by simp only[auH,auM,auT,s,r];omega)] at d;exact U _ _ ⟨_,rfl,bT.back d⟩
theorem ov_o {a b:Addr}{c ca d cb:Nat}(f:a.block≠b.block){tA tB:TypeId}{kA kB:Nat}(g:w.shape? a.block=ay (tA,kA))(h:w.shape? b.block=ay (tB,kB))(i:kB≠0)(j:w.frozen? a=au)(k:w.frozen? { block:=a.block,off:=kA }=au) :
  (iO (.func (.func 204) #[] #[]) #[.slice (ay a) c ca,.slice (ay b) d cb]).run ah w=.ok (.value (.bool au)) w:=by
 have l:(callFunc 204 #[.slice (ay a) c ca,.slice (ay b) d cb]).run ah w=.ok (.value (.bool au)) w:=by
  rw[run_callFunc_extern (e:=Extern.SlicesOverlaps.overlaps #[23,23] #[4]) func204 krx krx krx krx];rw[Lib.run_overlaps_apart w 23 4 25 auU 6 (λw=>by kernel_rfl) a b c ca d cb f tA tB kA kB g h i j k];rfl
 simpa[iO,invoke,Deferred.ofValue,resolve] using l
theorem NB (v:aq)(n:Nat)(xs:List aq)(k nb:Nat)(new:List aq)(w:ao)(hu:(Ent.urow 25 6 v n xs).is w)(q:w.heap[nb]?=ay (.cells new.toArray 25 (0,0)))(s:new.length=6)
  (D:¬(Ent.urow 25 6 v n xs).blk nb) (h1:∀u∈xs,u.oneCell'=aw) (S:∀u∈new,u.oneCell'=aw) (hk:k<=n) (hb:n<=100000000000) :
  Ret ah 165 #[v,ad (k:Int),bO nb 0 1 1] w
   (λv' w'=>∃e',e'=Ent.urow 25 6 v' (n+1) (xs.take (k*6)++new++xs.drop (k*6))∧Mf (.urow 25 6 v n xs) e' w w'):=by
 have r:xs.length=n*6:=(show w.ownsRow 0 25 6 v n xs from hu).1;have G:Sl w (bO nb 0 1 1) 6 1 new:=⟨om,ay ⟨nb,0,ax⟩,1,rfl,λh=>(by cases h),λp hp=>by cases hp;exact⟨λ_=>rfl,λj u f=>by rw[auP];exact aI (T:=25) q f⟩⟩;have d:=bT.lend hu;refine aX λK U=>eJ ?_;unfold cE dx bnx eqx mbx slx lnx ecx apx cx;have H:elB ah 25 6 88=true:=krx
 have i:(Tryz.prog.info? 25).map (·.size)=ay 6:=krx
 obtain⟨a,cap,rfl,a8⟩:∃a cap,v=.slice a n cap∧n<=cap:=by
  rcases (show w.ownsRow 0 25 6 v n xs from hu).2 with ⟨rfl,rfl⟩|⟨g,cap,cur,rfl,_,_,I,_⟩
  ·exact⟨ax,0,rfl,auL _⟩
  ·exact⟨_,cap,rfl,I⟩
 refine aD (dN auU i om om) |>.mpr ?_;rw[aZ auU G];simp only[rs,Int.natCast_one,Int.one_ne_zero,auF];rw[bW auU];simp only[rs];by_cases V:k=n
 ·subst V;simp only[auE,rs];refine bZ 0 auU H dc d rfl G S om om λv' w2 d=>?_;refine U _ _ ⟨_,rfl,?_⟩;have e:xs.take (k*6)++new++xs.drop (k*6)=xs++new:=by rw[avE om,awG om,avA]
  rw[e];exact bT.back (L:=[]) d
 have B:k < n:=om
 have J:¬(k:Int)=(n:Int):=om
 simp only[J,auF,rs];rcases (show w.ownsRow 0 25 6 (.slice a n cap) n xs from hu).2 with ⟨_,h0⟩|⟨g,b0,cur,he,b4,hg,I,M,N,l⟩
 ·omega
 injection he with X _ Y
 subst X;subst Y;rw[aA om om,Ti auU];simp only[rs];have Z:nb≠g:=λe=>D (by rw[e];rfl);have C:cur.toList.length=cap*6:=by simpa using N
 have E:bT (Ent.urow 25 6 (bO g 0 n cap) n xs).blk w w [.cells g cur.toList 25]:=
  d.turn 0 rfl ⟨I6.refl _ _,by show w.heap[g]?=_;rw[hg],λj f=>.inl (by simp only[Ent.cells] at f;subst f;rfl)⟩
 have a1:∀j u,xs[j]?=ay u->w.cell? ⟨g,0+j,ax⟩=ay u:=λj u f=>by
  rw[auP];exact E.cell 0 rfl j (by rw[<-l] at f;rw[axK] at f;split at f<;>first|exact f|cases f)
 have t:(xs.drop (k*6)).length=(n - k)*6:=by rw[auT,r,<-aAo]
 have O:∀u∈xs.drop (k*6),u.oneCell'=true:=λu hu=>h1 u (ayG hu);by_cases z:(cap:Int) < (n:Int)+1
 ·simp only[z,auE,rs];refine aD (jJ auU i om om) |>.mpr ?_;rw[show wB (ay (⟨g,0,ax⟩:Addr)) 0 cap 6=ay ⟨g,0,ax⟩ from HT (a:=⟨g,0,ax⟩),auJ];rw[aA (n:=(n:Int)+1 - k) om om,show (n:Int)+1 - k=((n+1 - k:Nat):Int) by omega];refine V8 (olds:=xs.take (k*6)) auU avY H dc E (by rw[auM,r,avO om]) (λj u f=>a1 j u (by rw[axK] at f;split at f<;>first|exact f|cases f)) om om om om λb c zs w2 P a6 b5 d=>?_;rw[show k+(n+1 - k)=n+1 by omega] at P ⊢;have m:(xs.take (k*6)).length=k*6:=by rw[auM,r,avO om]
  refine aD (dN auU i om om) |>.mpr ?_;rw[auJ,gQ om];have b1:b≠g:=by
   have:=(axD.1 d.apart).1 (.cells g cur.toList 25) sm;intro e;exact this b rfl e
  have Q:∀{W:ao} {b':Nat} {x y:List aq},bT (Ent.urow 25 6 (bO g 0 n cap) n xs).blk w W [.cells b' x 25,.cells g y 25]->W.heap[nb]?=ay (.cells new.toArray 25 (0,0)):=λh=>(h.grew.block nb (eH q) D).trans q;refine Ct 0 (src:=new) auU i d rfl ?_ (λj u f=>by rw[cS,auP];exact aI (T:=25) (Q d) f) ?_ S λ_ w3 d=>?_
  ·rw[s,avO om]
  ·rw[auH,m,s];omega
  refine quiet ?_;refine sW ?_;rw[aA om om,show (k:Int)+1=((k+1:Nat):Int) by omega];refine dY _ (λW=>dN auU i om om) ?_;refine dY _ (λW=>dN auU i om om) ?_;rw[auJ,auJ,gQ om,gQ om];intro w4 hw;have d:=d.grow hw;simp only[auP,awK m,ayN,m] at d;rw[show k*6+new.length - k*6=6 by omega,awG (show (xs.take (k*6)).length<=k*6+new.length by omega),avU] at d;refine Ct 0 (src:=xs.drop (k*6)) auU i d rfl ?_ (λj u f=>?_) ?_ O λ_ w5 d=>?_
  ·rw[t];congr 1;rw[avO om]
  ·rw[cS];refine d.cell 1 rfl (0+k*6+j) ?_;rw[ayB] at f;rw[auP];rw[<-l] at f;rw[axK] at f;split at f<;>first|exact f|cases f
  ·simp only[auH,auT,m,s,r];omega
  have A:((xs.take (k*6)++new++zs.drop 6).take (0+(k+1)*6)++xs.drop (k*6)++(xs.take (k*6)++new++zs.drop 6).drop (0+(k+1)*6+(xs.drop (k*6)).length))=(xs.take (k*6)++new++xs.drop (k*6))++(zs.drop 6).drop ((n - k)*6):=by
   rw[awK (show (xs.take (k*6)++new).length=0+(k+1)*6 by rw[auH,m,s];omega)];rw[ayN,awG (show (xs.take (k*6)++new).length<=_ by rw[auH,m,s,t];omega),avU]
   congr 2
   rw[auH,m,s,t];omega
  simp only[axF] at d;rw[A] at d;have d:=d.toU 6 (n+1) c (by simp only[auH,auT,m,s,r];omega) P a6;rw[awK (show (xs.take (k*6)++new++xs.drop (k*6)).length=(n+1)*6 by simp only[auH,auT,m,s,r];omega)] at d;exact U _ _ ⟨_,rfl,bT.back d⟩
 ·have o:n+1<=cap:=om
  simp only[z,auF,rs];rw[show (n:Int)+1=((n+1:Nat):Int) by omega];refine aD (jJ auU i om om) |>.mpr ?_;rw[show wB (ay (⟨g,0,ax⟩:Addr)) 0 cap 6=ay ⟨g,0,ax⟩ from HT (a:=⟨g,0,ax⟩),auJ];rw[aA (n:=(k:Int)+1) om om,show (k:Int)+1=((k+1:Nat):Int) by omega];refine aD (dN auU i om om) |>.mpr ?_;rw[auJ,gQ om];refine aD (ov_o (a:=⟨nb,0,ax⟩) (b:=⟨g,0+(k+1)*6,ax⟩) Z (tA:=25) (tB:=25) (kA:=new.length) (kB:=cur.size) (by simp[World.shape?,q]) (by simp[World.shape?,hg]) (by rw[N];omega) (by simp[World.frozen?,q]) (by simp[World.frozen?,q])) |>.mpr ?_;simp only[rs,avZ];refine quiet ?_;refine sW ?_;rw[aA om om,show (k:Int)+1=((k+1:Nat):Int) by omega];refine dY _ (λW=>dN auU i om om) ?_;refine dY _ (λW=>dN auU i om om) ?_;rw[auJ,auJ,gQ om,gQ om];intro w3 hw;have d:=E.grow hw;have F:∀j u,(xs.drop (k*6))[j]?=ay u->cur.toList[k*6+j]?=ay u:=λj u f=>by
   rw[ayB,<-l,axK] at f;split at f<;>first|exact f|cases f
  refine Ct 0 (src:=xs.drop (k*6)) auU i d rfl ?_ (λj u f=>?_) ?_ O λ_ w4 d=>?_
  ·rw[t];congr 1;rw[Nat.min_eq_right om];omega
  ·rw[cS,auP];exact d.cell 0 rfl _ (F j u f)
  ·rw[t,C];have:(n - k)*6+(k+1)*6=(n+1)*6:=by rw[<-axE];congr 1;omega
   have:(n+1)*6<=cap*6:=awC _ o;omega
  simp only[axF] at d;refine aD (dN auU i om om) |>.mpr ?_;rw[auJ,gQ om];have R:w4.heap[nb]?=ay (.cells new.toArray 25 (0,0)):=(d.grew.block nb (eH q) D).trans q;have b6:(k+1)*6<=cap*6:=awC _ om;have b2:(n+1)*6<=cap*6:=awC _ o;have b3:(n - k)*6+(k+1)*6=(n+1)*6:=by rw[<-axE];congr 1;omega
  refine Ct 0 (src:=new) auU i d rfl ?_ (λj u f=>by rw[cS,auP];exact aI (T:=25) R f) ?_ S λ_ w5 d=>?_
  ·rw[s,avO om]
  ·simp only[auH,auM,auT,C,s,t];omega
  simp only[axF] at d;have a7:cur.toList.take (k*6)=xs.take (k*6):=by
   rw[<-l,ayZ,avO (awC _ om)]
  have A:((cur.toList.take (0+(k+1)*6)++xs.drop (k*6)++cur.toList.drop (0+(k+1)*6+(xs.drop (k*6)).length)).take (0+k*6)++new++(cur.toList.take (0+(k+1)*6)++xs.drop (k*6)++cur.toList.drop (0+(k+1)*6+(xs.drop (k*6)).length)).drop (0+k*6+new.length))
   =(xs.take (k*6)++new++xs.drop (k*6))++cur.toList.drop (0+(k+1)*6+(xs.drop (k*6)).length):=by
   have B:(cur.toList.take (0+(k+1)*6)).length=0+(k+1)*6:=by rw[auM,C];omega
   rw[auN (cur.toList.take (0+(k+1)*6))];rw[aAU (by rw[B];omega),ayZ,avO om,auP,a7];rw[ayN,awG (show (cur.toList.take (0+(k+1)*6)).length<=k*6+new.length by rw[B,s];omega),avU];rw[show k*6+new.length - (cur.toList.take (0+(k+1)*6)).length=0 by rw[B,s];omega,axB];simp only[auP,auN]
  rw[A] at d;have d:=d.toU 6 (n+1) cap (by simp only[auH,auM,auT,C,s,r];omega) o (by simp only[maxLen] at M;exact M);rw[awK (show (xs.take (k*6)++new++xs.drop (k*6)).length=(n+1)*6 by simp only[auH,auM,auT,s,r];omega)] at d;exact U _ _ ⟨_,rfl,bT.back d⟩
theorem Ot (v:aq)(n:Nat)(xs:List aq)(k:Nat)(w:ao)(hu:(Ent.urow 9 1 v n xs).is w)(F:∀u∈xs,u.oneCell'=aw)(O:k < n)(P:n<=100000000000) :
  Ret ah 200 #[v,ad (k:Int),ad ((k+1:Nat):Int)] w
   (λv' w'=>∃e',e'=Ent.urow 9 1 v' (n - 1) (xs.take (k*1)++xs.drop ((k+1)*1))∧Mf (.urow 9 1 v n xs) e' w w'):=by
 have d:xs.length=n*1:=(show w.ownsRow 0 9 1 v n xs from hu).1;have b:=bT.lend hu;refine aX λK G=>mK ?_;unfold gY nz;have o:elB ah 9 1 16=true:=krx
 have e:(Tryz.prog.info? 9).map (·.size)=ay 1:=krx
 rcases (show w.ownsRow 0 9 1 v n xs from hu).2 with ⟨_,Q⟩|⟨g,cap,cur,rfl,H,I,s,p,t,c⟩
 ·omega
 have l:cur.toList.length=cap*1:=by simpa using t
 have E:n*1<=cap*1:=awC _ s;have x:bT (Ent.urow 9 1 (bO g 0 n cap) n xs).blk w w [.cells g cur.toList 9]:=
  b.turn 0 rfl ⟨I6.refl _ _,by show w.heap[g]?=_;rw[I],λj i=>.inl (by simp only[Ent.cells] at i;subst i;rfl)⟩
 rw[bW auR];refine aD (M3 auR e om om om om) |>.mpr ?_;have y:¬(k:Int)=((k+1:Nat):Int):=om
 simp only[rs,y,auF];rw[bW auR];refine quiet ?_;refine dY _ (λW=>jJ auR e om om) ?_;refine dY _ (λW=>dN auR e om om) ?_;rw[show wB (ay (⟨g,0,ax⟩:Addr)) 0 cap 1=ay ⟨g,0,ax⟩ from HT (a:=⟨g,0,ax⟩),auJ,auJ];obtain⟨a,J,z⟩:∃a,wB (ay (⟨g,0,ax⟩:Addr)) (k+1) cap 1=ay a∧(k+1 < cap->a=⟨g,(k+1)*1,ax⟩):=by
  by_cases h:k+1 < cap
  ·exact⟨_,by rw[gQ h,auP],λ_=>rfl⟩
  ·exact⟨⟨g,0,ax⟩,by unfold wB;rw[auC om],λL=>absurd L h⟩
 rw[J];intro w3 hw;have b:=x.grow hw;have f:(xs.drop ((k+1)*1)).length=(n - (k+1))*1:=by rw[auT,d,<-aAo]
 have M:(k+1)*1<=n*1:=awC _ om;have q:k*1+(n - (k+1))*1=(n - 1)*1:=by rw[<-axE];congr 1;omega
 have N:(n - 1)*1+1=n*1:=by rw[<-awS];congr 1;omega
 refine MB 0 (news:=xs.drop ((k+1)*1)) auR o b rfl f (λj u i=>?_) (λu hu=>F u (ayG hu)) om (by rw[f,l];omega) λR b=>?_
 ·have A:j < (xs.drop ((k+1)*1)).length:=(auV.1 i).1;have B:k+1 < cap:=by
   rcases avI (k+1) n with h|h
   ·omega
   ·rw[f,show n - (k+1)=0 by omega] at A;omega
  rw[z B,cS];refine b.cell 0 rfl _ ?_;rw[ayB,<-c,axK] at i;split at i<;>first|exact i|cases i
 simp only[axF] at b;rw[bW auR];rw[show k+(n - (k+1))=n - 1 by omega];refine aD (Qj auR e om om om) |>.mpr ?_;rw[auJ,auJ,gQ om,auP,show n - (n - 1)=1 by omega];have C:cur.toList.take (k*1)=xs.take (k*1):=by
  rw[<-c,ayZ,avO (awC _ om)]
 have m:(xs.take (k*1)).length=k*1:=by rw[auM,d,avO om]
 rw[C] at b;have r:(xs.take (k*1)++xs.drop ((k+1)*1)).length=(n - 1)*1:=by rw[auH,m,f,q]
 refine SC 0 auR o (show zB ah 9=aw by kernel_rfl) om b rfl (by simp only[auH,auT,l,m,d];omega) λ_ S T D b=>?_;simp only[axF] at b;rw[awK r,auN (xs.take (k*1)++xs.drop ((k+1)*1))] at b;have b:=b.toU 1 (n - 1) cap (by simp only[auH,auT,l,m,d,D];omega) om (by simp only[maxLen] at p;exact p);rw[awK r] at b;exact G _ _ ⟨_,rfl,bT.back b⟩
theorem NS (v:aq)(n:Nat)(xs:List aq)(k:Nat)(w:ao)(hu:(Ent.urow 25 6 v n xs).is w)(F:∀u∈xs,u.oneCell'=aw)(O:k < n)(P:n<=100000000000) :
  Ret ah 201 #[v,ad (k:Int),ad ((k+1:Nat):Int)] w
   (λv' w'=>∃e',e'=Ent.urow 25 6 v' (n - 1) (xs.take (k*6)++xs.drop ((k+1)*6))∧Mf (.urow 25 6 v n xs) e' w w'):=by
 have d:xs.length=n*6:=(show w.ownsRow 0 25 6 v n xs from hu).1;have b:=bT.lend hu;refine aX λK G=>eM ?_;unfold cA nz;have o:elB ah 25 6 88=true:=krx
 have e:(Tryz.prog.info? 25).map (·.size)=ay 6:=krx
 rcases (show w.ownsRow 0 25 6 v n xs from hu).2 with ⟨_,Q⟩|⟨g,cap,cur,rfl,H,I,s,p,t,c⟩
 ·omega
 have l:cur.toList.length=cap*6:=by simpa using t
 have E:n*6<=cap*6:=awC _ s;have x:bT (Ent.urow 25 6 (bO g 0 n cap) n xs).blk w w [.cells g cur.toList 25]:=
  b.turn 0 rfl ⟨I6.refl _ _,by show w.heap[g]?=_;rw[I],λj i=>.inl (by simp only[Ent.cells] at i;subst i;rfl)⟩
 rw[bW auU];refine aD (M3 auU e om om om om) |>.mpr ?_;have y:¬(k:Int)=((k+1:Nat):Int):=om
 simp only[rs,y,auF];rw[bW auU];refine quiet ?_;refine dY _ (λW=>jJ auU e om om) ?_;refine dY _ (λW=>dN auU e om om) ?_;rw[show wB (ay (⟨g,0,ax⟩:Addr)) 0 cap 6=ay ⟨g,0,ax⟩ from HT (a:=⟨g,0,ax⟩),auJ,auJ];obtain⟨a,J,z⟩:∃a,wB (ay (⟨g,0,ax⟩:Addr)) (k+1) cap 6=ay a∧(k+1 < cap->a=⟨g,(k+1)*6,ax⟩):=by
  by_cases h:k+1 < cap
  ·exact⟨_,by rw[gQ h,auP],λ_=>rfl⟩
  ·exact⟨⟨g,0,ax⟩,by unfold wB;rw[auC om],λL=>absurd L h⟩
 rw[J];intro w3 hw;have b:=x.grow hw;have f:(xs.drop ((k+1)*6)).length=(n - (k+1))*6:=by rw[auT,d,<-aAo]
 have M:(k+1)*6<=n*6:=awC _ om;have q:k*6+(n - (k+1))*6=(n - 1)*6:=by rw[<-axE];congr 1;omega
 have N:(n - 1)*6+6=n*6:=by rw[<-awS];congr 1;omega
 refine MB 0 (news:=xs.drop ((k+1)*6)) auU o b rfl f (λj u i=>?_) (λu hu=>F u (ayG hu)) om (by rw[f,l];omega) λR b=>?_
 ·have A:j < (xs.drop ((k+1)*6)).length:=(auV.1 i).1;have B:k+1 < cap:=by
   rcases avI (k+1) n with h|h
   ·omega
   ·rw[f,show n - (k+1)=0 by omega] at A;omega
  rw[z B,cS];refine b.cell 0 rfl _ ?_;rw[ayB,<-c,axK] at i;split at i<;>first|exact i|cases i
 simp only[axF] at b;rw[bW auU];rw[show k+(n - (k+1))=n - 1 by omega];refine aD (Qj auU e om om om) |>.mpr ?_;rw[auJ,auJ,gQ om,auP,show n - (n - 1)=1 by omega];have C:cur.toList.take (k*6)=xs.take (k*6):=by
  rw[<-c,ayZ,avO (awC _ om)]
 have m:(xs.take (k*6)).length=k*6:=by rw[auM,d,avO om]
 rw[C] at b;have r:(xs.take (k*6)++xs.drop ((k+1)*6)).length=(n - 1)*6:=by rw[auH,m,f,q]
 refine SC 0 auU o (show zB ah 25=aw by kernel_rfl) om b rfl (by simp only[auH,auT,l,m,d];omega) λ_ S T D b=>?_;simp only[axF] at b;rw[awK r,auN (xs.take (k*6)++xs.drop ((k+1)*6))] at b;have b:=b.toU 6 (n - 1) cap (by simp only[auH,auT,l,m,d,D];omega) om (by simp only[maxLen] at p;exact p);rw[awK r] at b;exact G _ _ ⟨_,rfl,bT.back b⟩
end
section
open Eng
def Ke(t0 w)(K:KT):=nz f81 1 [] [] [] (zg [0] [t0]) w K
theorem LO{t0 w K}:Ke t0 w K->Calls ah 81 #[t0] w K:=cw func81
def H3(t0 w)(K:KT):=nz f82 1 [] [] [] (zg [0] [t0]) w K
theorem JS{t0 w K}:H3 t0 w K->Calls ah 82 #[t0] w K:=cw func82
def Gx(t0 w)(K:KT):=nz f83 1 [] [] [] (zg [0] [t0]) w K
theorem Iy{t0 w K}:Gx t0 w K->Calls ah 83 #[t0] w K:=cw func83
def EV(t0 w)(K:KT):=nz f123 1 [] [] [] (zg [0] [t0]) w K
theorem IL{t0 w K}:EV t0 w K->Calls ah 123 #[t0] w K:=cw func123
def F7(t0 w)(K:KT):=nz f101 1 [] [] [] (zg [0] [t0]) w K
theorem Io{t0 w K}:F7 t0 w K->Calls ah 101 #[t0] w K:=cw func101
def Db(t3 t6 w)(K:KT):=nz f124 63 [] [] [] (zg [3,6] [t3,t6]) w K
def Ht(t0 t1 t2 w)(K:KT):=nz f124 1 [] [(16,[],λs v j w f=>Db (s 3) (s 6) w K)] [] (zg [0,1,2] [t0,t1,t2]) w K
theorem Kt{t0 t1 t2 w K}:Ht t0 t1 t2 w K->Calls ah 124 #[t0,t1,t2] w K:=cz [(8,[])] [] func124
def Cd(t0 t1 w)(K:KT):=nz f162 1 [] [] [] (zg [0,1] [t0,t1]) w K
theorem Gt{t0 t1 w K}:Cd t0 t1 w K->Calls ah 162 #[t0,t1] w K:=cw func162
def DA(t3 t7 w)(a:JT)(K:KT):=nz f127 1887 [a] [nh 23 [3,7]] [] (zg [3,7] [t3,t7]) w K
def Dh(t0 t2 t3 t5 t6 t7 w)(a:JT)(K:KT):=nz f127 351 [a] [nh 23 [3,7],(24,[3],λs v j w f=>DA (vg v 0) (s 7) w (f 0) K)] [(18,7)] (zg [0,2,3,5,6,7] [t0,t2,t3,t5,t6,t7]) w K
def Dt(t0 t2 t3 t4 w)(N1:JT)(K:KT):=nz f127 43 [N1] [nh 9 [3,4],(23,[3,7],λs v j w f=>Dh (s 0) (s 2) (vg v 0) (s 5) (s 6) (vg v 1) w (f 0) K)] [] (zg [0,2,3,4] [t0,t2,t3,t4]) w K
def HR(t0 w)(K:KT):=nz f127 1 [] [(9,[3,4],λs v j w f=>Dt (s 0) (s 2) (vg v 0) (vg v 1) w (f 0) K)] [] (zg [0] [t0]) w K
theorem KI{t0 w K}:HR t0 w K->Calls ah 127 #[t0] w K:=cz [(12,[3])] [(4,[3,4]),(11,[3,7])] func127
def Kf(t0 t1 w)(K:KT):=nz f63 1 [] [] [] (zg [0,1] [t0,t1]) w K
theorem LD{t0 t1 w K}:Kf t0 t1 w K->Calls ah 63 #[t0,t1] w K:=cw func63
def KS(t0 t1 t2 w)(K:KT):=nz f84 1 [] [] [] (zg [0,1,2] [t0,t1,t2]) w K
theorem LX{t0 t1 t2 w K}:KS t0 t1 t2 w K->Calls ah 84 #[t0,t1,t2] w K:=cw func84
def Dz(t2 t4 w)(K:KT):=nz f122 7 [] [] [] (zg [2,4] [t2,t4]) w K
def Hq(t0 t1 w)(K:KT):=nz f122 1 [] [(10,[],λs v j w f=>Dz (s 2) (s 4) w K)] [] (zg [0,1] [t0,t1]) w K
theorem JG{t0 t1 w K}:Hq t0 t1 w K->Calls ah 122 #[t0,t1] w K:=cz [(5,[])] [] func122
def FX(t0 w)(K:KT):=nz f32 1 [] [] [] (zg [0] [t0]) w K
theorem Ii{t0 w K}:FX t0 w K->Calls ah 32 #[t0] w K:=cw func32
def BA(t0 w)(K:KT):=nz f70 1 [] [] [] (zg [0] [t0]) w K
theorem FY{t0 w K}:BA t0 w K->Calls ah 70 #[t0] w K:=cw func70
def vT(t2 t4 w)(K:KT):=nz f69 31 [] [] [] (zg [2,4] [t2,t4]) w K
def wE(t1 t2 t5 t23 t24 t25 w)(a b:JT)(K:KT):=nz f69 1367 [a,b] [nh 22 [],nh 13 [25]] [] (zg [1,2,5,23,24,25] [t1,t2,t5,t23,t24,t25]) w K
def BM(t0 t1 w)(K:KT):=nz f69 1 [] [(13,[25],λs v j w f=>wE (s 1) (s 2) (s 5) (s 23) (s 24) (vg v 0) w (f 1) (f 0) K),(22,[],λs v j w f=>vT (s 2) (s 4) w K)] [] (zg [0,1] [t0,t1]) w K
theorem FG{t0 t1 w K}:BM t0 t1 w K->Calls ah 69 #[t0,t1] w K:=cz [(11,[])] [(6,[25])] func69
def gM(t0 t1 t7 t8 w)(N1:JT)(K:KT):=nz f102 21 [N1] [nh 5 [8]] [] (zg [0,1,7,8] [t0,t1,t7,t8]) w K
def iM(t0 t1 w)(K:KT):=nz f102 1 [] [(5,[8],λs v j w f=>gM (s 0) (s 1) (s 7) (vg v 0) w (f 0) K)] [] (zg [0,1] [t0,t1]) w K
theorem nJ{t0 t1 w K}:iM t0 t1 w K->Calls ah 102 #[t0,t1] w K:=cz [] [(2,[8])] func102
end
section
open Eng Go.RowKit
theorem UJ:eS ah 9=true:=krx
theorem acM {l:List (List UInt8)}{x:List UInt8}(h:i < l.length)(a:x ∉ l.take i)(he:l[i]=x):l.idxOf x=i:=by
 have e:l=l.take i++(l[i]::l.drop (i+1)):=by
  rw[<-avX h,avV]
 rw[e,List.idxOf_append,auB a,he,List.idxOf_cons_self,auM];omega
theorem Vf (va:aq)(l:List (List UInt8))(x:List UInt8)(w:ao)(c:Sl w va 1 l.length (bI l))(f:l.length<=1099511627776) :
  Ret ah 102 #[va,ae x] w (λv w'=>v=ad (if l.idxOf x < l.length then (l.idxOf x:Int) else -1)∧w=w'):=by
 refine aX λK d=>nJ ?_;unfold iM nz;rw[aZ auR c];refine loop (λvs w'=>∃(i:Nat),vs=[ad i]∧i<=l.length∧x ∉ l.take i∧w=w') (λvs _=>l.length - n0 vs) ⟨0,rfl,om,sm,rfl⟩ ?_;rintro vs w2 ⟨i,rfl,hi,hm,rfl⟩ _;simp only[gM,gd,rs,nz];by_cases b:(i:Int) < (l.length:Int)
 ·have a:i < l.length:=om
  simp only[b,auE,rs];refine HI (ae (l[i])) auR krx c om (by rw[auJ];exact fF a) λq e=>?_;rw[aJ UJ e];simp only[rs];by_cases he:x=l[i]
  ·simp only[<-he,auE,rs];have:=acM a hm he.symm;exact d _ _ ⟨by rw[this,auC a],rfl⟩
  ·simp only[he,auF,rs];rw[aA om om];refine bC ⟨i+1,rfl,om,?_,rfl⟩ (by simp[n0,RowKit.intOf];omega);rw[List.take_add_one,auO a];simp only[Option.toList,avF,avD,not_or];exact⟨hm,he⟩
 ·simp only[b,auF,i_f];rw[avE om] at hm;exact d _ _ ⟨by rw[auB (by rw[aBl];exact hm)],rfl⟩
def obC (o:Ob)(vk vc:aq):List Value:=[ad o.k,ad o.n,ad o.g,ae o.s,vk,vc]
def obV (o:Ob)(vk vc:aq):Value:=.agg (obC o vk vc).toArray
def obE (b:Nat)(o:Ob)(vk vc:aq):Ent:=.cells b (obC o vk vc) 25
structure tE (A:Nat->Prop) (w:ao) (o:Ob) (vk vc:aq) (cs:List aq):Prop where
 keys:SlA A w vk 1 o.keys.length (bI o.keys)
 kids:SlA A w vc 6 o.kids.length cs
 all:OVs A w cs o.kids
theorem OV.open {o:Ob}(h:OV A w v o):∃vk vc cs,v=obV o vk vc∧tE A w o vk vc cs:=by
 cases o with
|mk k n g s keys kids=>
  rw[OV] at h;obtain⟨vk,vc,cs,rfl,a,b,c⟩:=h;exact⟨vk,vc,cs,rfl,a,b,c⟩
theorem tE.ov {o:Ob}(h:tE A w o vk vc cs):OV A w (obV o vk vc) o:=by
 cases o with
|mk k n g s keys kids=>
  rw[OV];exact⟨vk,vc,cs,rfl,h.keys,h.kids,h.all⟩
theorem tE.kept {A:Nat->Prop}{w w':ao}{o:Ob}{vk vc:aq}{cs:List aq}(h:tE A w o vk vc cs)(a:Kept A w w'):tE A w' o vk vc cs:=
 ⟨h.keys.kept a,h.kids.kept a,OVs.kept a _ _ h.all⟩
theorem Uw (a:∀b,A b->b < w.heap.size)(h:Below w.heap.size w w'):Kept A w w':=λb c=>h.block b (a b c)
theorem bT.keptIn (h:Own w0 w L):Kept (InW w0) w0 w:=Uw (λ_ h=>h) h.done
theorem OV.own {o:Ob}(h:OV (InW w0) w0 v o)(a:Own w0 w L):OV (InW w0) w v o:=OV.kept (bT.keptIn a) o v h
theorem OV.at_ {o:Ob}(h:OV (InW w0) w0 v o)(a:Own w0 w L):OV (InW w) w v o:=OV.mono (λ_ b=>awO b a.size) o v (h.own a)
theorem tE.own {o:Ob}(h:tE (InW w0) w0 o vk vc cs)(a:Own w0 w L):tE (InW w0) w o vk vc cs:=h.kept (bT.keptIn a)
theorem SlA.one {n:Nat}(h:SlA A w v sz n cs):v.oneCell'=true:=by
 obtain⟨⟨_,a,cap,rfl,_⟩,_⟩:=h;rfl
theorem fR:FU ah 25=ay 6:=krx
theorem Mk:(Tryz.prog.info? 25).map (·.size)=ay 6:=krx
theorem Zx:eS ah 23=true:=krx
theorem QU:eS ah 22=true:=krx
theorem nI65:eS ah 2=true:=krx
theorem aU:eS ah 3=true:=krx
theorem Gh:eS ah 9=true:=krx
theorem amP:nN ah 25 0=ay 0:=krx
theorem asH:nN ah 25 1=ay 1:=krx
theorem asI:nN ah 25 2=ay 2:=krx
theorem ajS:nN ah 25 3=ay 3:=krx
theorem aqE:nN ah 25 4=ay 4:=krx
theorem acG:nN ah 25 5=ay 5:=krx
section
variable {w:ao}{PK:PKT}{K:VWP}{S:Nat->Prop}{w0:ao}{L:List Ent}
theorem eG {off:Nat}:DoX ah (mFA 25 (af b off) 0) w PK K=K (af b off) w:=aW amP
theorem CT {off:Nat}:DoX ah (mFA 25 (af b off) 1) w PK K=K (af b (off+1)) w:=aW asH
theorem YU {off:Nat}:DoX ah (mFA 25 (af b off) 2) w PK K=K (af b (off+2)) w:=aW asI
theorem El {off:Nat}:DoX ah (mFA 25 (af b off) 3) w PK K=K (af b (off+3)) w:=aW ajS
theorem iZ {off:Nat}:DoX ah (mFA 25 (af b off) 4) w PK K=K (af b (off+4)) w:=aW aqE
theorem iR {off:Nat}:DoX ah (mFA 25 (af b off) 5) w PK K=K (af b (off+5)) w:=aW acG
theorem eQ (o:Ob)(a:vk.oneCell'=aw)(c:vc.oneCell'=aw)(d:bT S w0 w L)(k:∀b w',bT S w0 w' (obE b o vk vc::L)->K (af b 0) w'):DoX ah (GP 25 (obV o vk vc)) w PK K:=by
 cases vk<;>first|(cases a;done)|skip
 all_goals cases vc<;>first|(cases c;done)|exact bK (λb=>af b 0) (obC o _ _) 25 (λ_=>by kernel_rfl) d k
def ob0:Ob:=.mk 0 0 0 [] [] []
theorem dJ (a:bT S w0 w L)(k:∀b w',bT S w0 w' (obE b ob0 (.slice ax 0 0) (.slice ax 0 0)::L)->K (af b 0) w'):DoX ah (fK 25) w PK K:=
 bK (λb=>af b 0) (obC ob0 (.slice ax 0 0) (.slice ax 0 0)) 25 (λ_=>by kernel_rfl) a k
theorem iF (o:Ob)(b:vk.oneCell'=aw)(c:vc.oneCell'=aw):∀v∈obC o vk vc,v.oneCell'=true:=by
 intro v a;simp only[obC,auI,avP,or_false] at a;rcases a with rfl|rfl|rfl|rfl|rfl|rfl<;>first|rfl|assumption
theorem aT (i:Nat){o o':Ob}{vk' vc':aq}(a:vk'.oneCell'=aw)(c:vc'.oneCell'=aw)(d:bT S w0 w L)(hi:L[i]?=ay (obE b o vk vc))(k:∀w',bT S w0 w' (L.set i (obE b o' vk' vc'))->K undef w') :
  DoX ah (aN 25 (af b 0) (obV o' vk' vc')) w PK K:=jH i d hi (new:=obC o' vk' vc') Mk (iF o' a c) rfl k
theorem vE (a:bT S w0 w L)(i:Nat){o:Ob}(hi:L[i]?=ay (obE b o vk vc)):DoX ah (aH 3 (af b 0)) w PK K=K (ad o.k) w:=aJ aU (a.cell i hi 0 rfl)
theorem Ll (a:bT S w0 w L)(i:Nat){o:Ob}(hi:L[i]?=ay (obE b o vk vc)):DoX ah (aH 2 (af b (0+1))) w PK K=K (ad o.n) w:=aJ nI65 (a.cell i hi 1 rfl)
theorem ob_g (a:bT S w0 w L)(i:Nat){o:Ob}(hi:L[i]?=ay (obE b o vk vc)):DoX ah (aH 3 (af b (0+2))) w PK K=K (ad o.g) w:=aJ aU (a.cell i hi 2 rfl)
theorem NW (a:bT S w0 w L)(i:Nat){o:Ob}(hi:L[i]?=ay (obE b o vk vc)):DoX ah (aH 9 (af b (0+3))) w PK K=K (ae o.s) w:=aJ Gh (a.cell i hi 3 rfl)
theorem dZ (a:bT S w0 w L)(i:Nat){o:Ob}(hi:L[i]?=ay (obE b o vk vc)):DoX ah (aH 22 (af b (0+4))) w PK K=K vk w:=aJ QU (a.cell i hi 4 rfl)
theorem cQ (a:bT S w0 w L)(i:Nat){o:Ob}(hi:L[i]?=ay (obE b o vk vc)):DoX ah (aH 23 (af b (0+5))) w PK K=K vc w:=aJ Zx (a.cell i hi 5 rfl)
theorem jL (a:bT S w0 w L)(i:Nat){o:Ob}(hi:L[i]?=ay (obE b o vk vc)):DoX ah (aH 25 (af b 0)) w PK K=K (obV o vk vc) w:=EN (a.agg i hi fR)
theorem ahA {os:List Ob}(f:Sl w vc 6 os.length cs)(c:OVs A w cs os)(hi:i < os.length)
  (k:∀v,OV A w v os[i]->K v w):DoX ah (mIA 23 vc (ad (i:Int))) w PK λt w=>DoX ah (aH 25 t) w PK2 K:=by
 obtain⟨b,off,cap,rfl,g⟩:=bR f om;refine aD (cZ auU Mk om om) |>.mpr ?_;rw[auJ];obtain⟨a,h,e,d⟩:=OVs.get os cs i hi c;refine aD (aY (v:=.agg a.toArray) (AtV.agg fR h λj v l=>?_)) |>.mpr (k _ e);rw[awU];exact g _ _ (d j v l)
end
end
section
open Eng
def pG(t3 t27 t28 t29 w)(a:JT)(K:KT):=nz f24 87 [a] [nh 17 [3,29]] [] (zg [3,27,28,29] [t3,t27,t28,t29]) w K
def pB(t1 t3 t14 t15 t16 w)(N1:JT)(K:KT):=nz f24 43 [N1] [nh 7 [3,16],(17,[3,29],λs v j w f=>pG (vg v 0) (s 27) (s 28) (vg v 1) w (f 0) K)] [] (zg [1,3,14,15,16] [t1,t3,t14,t15,t16]) w K
def sI(t0 w)(K:KT):=nz f24 1 [] [(7,[3,16],λs v j w f=>pB (s 1) (vg v 0) (s 14) (s 15) (vg v 1) w (f 0) K)] [] (zg [0] [t0]) w K
theorem Ao{t0 w K}:sI t0 w K->Calls ah 24 #[t0] w K:=cz [] [(3,[3,16]),(8,[3,29])] func24
def qF(t0 w)(K:KT):=nz f55 1 [] [] [] (zg [0] [t0]) w K
theorem xY{t0 w K}:qF t0 w K->Calls ah 55 #[t0] w K:=cw func55
def tM(t0 w)(K:KT):=nz f50 1 [] [] [] (zg [0] [t0]) w K
theorem AZ{t0 w K}:tM t0 w K->Calls ah 50 #[t0] w K:=cw func50
def vB(t0 w)(K:KT):=nz f59 1 [] [] [] (zg [0] [t0]) w K
theorem Cq{t0 w K}:vB t0 w K->Calls ah 59 #[t0] w K:=cw func59
def iW(t1 t4 t15 w)(K:KT):=nz f128 509 [] [] [] (zg [1,4,15] [t1,t4,t15]) w K
def iX(t1 t4 t9 w)(K:KT):=nz f128 125 [] [(20,[15],λs v j w f=>iW (s 1) (s 4) (vg v 0) w K)] [] (zg [1,4,9] [t1,t4,t9]) w K
def sJ(t0 w)(K:KT):=nz f128 1 [] [(14,[9],λs v j w f=>iX (s 1) (s 4) (vg v 0) w K)] [] (zg [0] [t0]) w K
theorem Ar{t0 w K}:sJ t0 w K->Calls ah 128 #[t0] w K:=cz [(7,[9]),(10,[15])] [] func128
def sU(t0 w)(K:KT):=nz f129 1 [] [] [] (zg [0] [t0]) w K
theorem AA{t0 w K}:sU t0 w K->Calls ah 129 #[t0] w K:=cw func129
def rR(t0 w)(K:KT):=nz f130 1 [] [] [] (zg [0] [t0]) w K
theorem AR{t0 w K}:rR t0 w K->Calls ah 130 #[t0] w K:=cw func130
def rL(t0 t1 t2 t3 t4 w)(K:KT):=nz f166 1 [] [] [] (zg [0,1,2,3,4] [t0,t1,t2,t3,t4]) w K
theorem As{t0 t1 t2 t3 t4 w K}:rL t0 t1 t2 t3 t4 w K->Calls ah 166 #[t0,t1,t2,t3,t4] w K:=cw func166
def oX(t0 t3 w)(N1:JT)(K:KT):=nz f167 21 [N1] [nh 5 [3]] [] (zg [0,3] [t0,t3]) w K
def sM(t0 w)(K:KT):=nz f167 1 [] [(5,[3],λs v j w f=>oX (s 0) (vg v 0) w (f 0) K)] [] (zg [0] [t0]) w K
theorem Am{t0 w K}:sM t0 w K->Calls ah 167 #[t0] w K:=cz [] [(2,[3])] func167
def pD(t1 t27 t28 t29 w)(N1:JT)(K:KT):=nz f131 175 [N1] [nh 17 [29]] [] (zg [1,27,28,29] [t1,t27,t28,t29]) w K
def sG(t0 w)(K:KT):=nz f131 1 [] [(17,[29],λs v j w f=>pD (s 1) (s 27) (s 28) (vg v 0) w (f 0) K)] [] (zg [0] [t0]) w K
theorem Az{t0 w K}:sG t0 w K->Calls ah 131 #[t0] w K:=cz [] [(8,[29])] func131
def mM(t1 t40 t41 t42 w)(a:JT)(K:KT):=nz f90 1407 [a] [nh 29 [42]] [] (zg [1,40,41,42] [t1,t40,t41,t42]) w K
def qL(t0 t1 w)(K:KT):=nz f90 1 [] [(29,[42],λs v j w f=>mM (s 1) (s 40) (s 41) (vg v 0) w (f 0) K)] [(7,7)] (zg [0,1] [t0,t1]) w K
theorem yO{t0 t1 w K}:qL t0 t1 w K->Calls ah 90 #[t0,t1] w K:=cz [] [(14,[42])] func90
def pX(t0 w)(K:KT):=nz f47 1 [] [] [] (zg [0] [t0]) w K
theorem yS{t0 w K}:pX t0 w K->Calls ah 47 #[t0] w K:=cw func47
end
end Go.Proofs.YtlgndjkieegnaaaGreatDoor





namespace Go.Proofs.YtlgndjkieegnaaaGreatDoor
variable{A S:Nat->Prop}{C:ao->Prop}{D U:TypeId}{K K':VWP}{L:List Eng.Ent}{L0:Loop}{P:Program}{PK PK2:PKT}{W w w' w0:ao}{a hi lo:Int}{args ca fa:Array aq}{b cap d f fuel i j m sz t:Nat}{cb:Array Bool}{cs cur new news xs:List aq}{e:Eng.Ent}{k':IntKind}{key:List UInt8}{q want y:Bool}{v v' v1 v2 vc vk:aq}{xo yo:Operand}{α β:Type}{σ:Eng.Sg}
section
open Eng Go.RowKit
theorem tQ {x y:aq}(h:Ret P f args w (λv w'=>v=x∧Below w.heap.size w w'))(a:x=y)(b:Own w0 w L)
  (k:∀w',Own w0 w' L->K y w'):cR P f args w PK K:=by
 refine Eh h ?_;rintro v w' ⟨rfl,c⟩;rw[a];exact k _ (b.grow c)
end
section
namespace Eng
open Go.RowKit
def sel (c:Bool)(x:aq):Value:=bc c x undef
theorem aqD {x:aq}:sel aw x=x:=rfl
theorem arO {x:aq}:sel au x=undef:=rfl
section
variable {P:Program}{w:ao}{PK:PKT}{K:VWP}
theorem alH {v x:aq}{want:Bool}:GDo v want (λE=>E x w) w K=K (sel (lK v want) x) w:=by
 refine propext ⟨λh=>?_,λh=>⟨?_⟩⟩
 ·have:=h.out;cases hw:lK v want<;>rw[hw] at this<;>exact this
 ·cases hw:lK v want<;>rw[hw] at h<;>exact h
theorem D3 {c:Bool}{E a:(VWP)->Prop}(e:v=v')(b:lK v' want=c)(h:c=aw->∀d,E d=a d):GDo v want E w K=GDo v' want a w K:=by
 subst e;refine propext ⟨λx=>⟨?_⟩,λx=>⟨?_⟩⟩
 ·have:=x.out;subst b;cases hw:lK v want with
 |false=>rw[hw] at this;exact this
 |true=>rw[hw,aG] at this;rw[aG,<-h hw];exact this
 ·have:=x.out;subst b;cases hw:lK v want with
 |false=>rw[hw] at this;exact this
 |true=>rw[hw,aG] at this;rw[aG,h hw];exact this
theorem aiS {b:Bool}:lK (.bool b) aw=b:=by cases b<;>rfl
theorem aiZ {b:Bool}:lK (.bool b) au=!b:=by cases b<;>rfl
theorem Zi {c y:Bool}:lK (sel c (.bool y)) aw=(c&&y):=by cases c<;>cases y<;>rfl
theorem abC {c y:Bool}:lK (sel c (.bool y)) au=(c&&!y):=by cases c<;>cases y<;>rfl
theorem anU {b:Bool}:(aw&&b)=b:=rfl
theorem aoR {b:Bool}:(b&&aw)=b:=by cases b<;>rfl
theorem ZY {b y:Bool}:DoX P (iB (.bool b) (sel b (.bool y)) (.bool au)) w PK K=K (.bool (b&&y)) w:=by
 rw[Nb];cases b<;>rfl
theorem afP {b y:Bool}:DoX P (iB (.bool b) (.bool aw) (sel (!b) (.bool y))) w PK K=K (.bool (b||y)) w:=by
 rw[Nb];cases b<;>rfl
end
def gs:=And.intro @alH (And.intro @aiS (And.intro @aiZ (And.intro @ZY (And.intro @afP (And.intro @aqD (And.intro @arO (And.intro @Zi (And.intro @abC (And.intro @anU @aoR)))))))))
end Eng
end
section
open Eng Go.RowKit
 attribute [local congr] D3
theorem acS {T:TypeId}{n:Nat}:DoX ah (mEq .eql T xo yo (ad (n:Int)) (ad 0)) w PK K=K (.bool (ai (n=0))) w:=by
 rw[alN];congr 2;simp
theorem VN {T:TypeId}{s:List UInt8}:DoX ah (mEq .eql T xo yo (ae s) (.string ⟨#[]⟩)) w PK K=K (.bool (ai (s=[]))) w:=K3 (b:=[])
theorem aiU (l:List α):ai (((l.length:Nat):Int)=0)=ai (l=[]):=by cases l<;>simp;omega
theorem amH (l:List α):ai (((l.length:Nat):Int)=0)=ai (l.length=0):=by rw[decide_eq_decide];omega
theorem Xw (o:Ob)(vk vc:aq)(cs:List aq)(n g s l:Bool)(w:ao)(h:tE (InW w) w o vk vc cs):Ret ah 166 #[obV o vk vc,.bool n,.bool g,.bool s,.bool l] w
  (λv w'=>v=.bool ((n||decide (o.n=0))&&(g||decide (o.g=0))&&(s||decide (o.s=[]))&&(l||(ai (o.keys=[])&&ai (o.kids.length=0))))∧Below w.heap.size w w'):=by
 refine aX λK e=>As ?_;unfold rL nz;refine eQ o h.keys.one h.kids.one (Own.start w) λb c a=>?_;have d:=h.own a;have lk:∀{PK:PKT} {K:VWP},DoX ah (mB .len #[22] 3 #[au] #[vk]) c PK K=K (ad (o.keys.length:Int)) c:=aZ auR d.keys.1;have lc:∀{PK:PKT} {K:VWP},DoX ah (mB .len #[23] 3 #[au] #[vc]) c PK K=K (ad (o.kids.length:Int)) c:=aZ auU d.kids.1;simp +contextual only[rs,gs,CT,YU,El,iZ,iR,Ll a 0 rfl,ob_g a 0 rfl,NW a 0 rfl,dZ a 0 rfl,cQ a 0 rfl,lk,lc,acS,VN];refine e _ _ ⟨?_,a.done⟩;rw[aiU o.keys,amH o.kids]
theorem Sq (s:List UInt8)(w:ao)(k:s.length<=9223372036854775807):Ret ah 167 #[ae s] w (λv w'=>v=.bool (Vl.name s)∧w=w'):=by
 refine aX λK g=>Am ?_;unfold sM nz;refine loop (λvs w'=>∃(i:Nat),vs=[ad i]∧i<=s.length∧(0:UInt8) ∉ s.take i∧w=w') (λvs _=>s.length - n0 vs) ⟨0,rfl,om,sm,rfl⟩ ?_;rintro vs w2 ⟨i,rfl,hi,hm,rfl⟩ _;simp only[oX,gd,iU auQ,rs,nz];by_cases b:(i:Int) < (s.length:Int)
 ·have a:i < s.length:=om
  have j:∀{PK:PKT} {K:VWP},DoX ah (mIx 9 (ae s) (ad (i:Int))) w PK K=K (.int .u8 (s[i].toNat:Int)) w:=s_ix (c:=s[i]) auQ (Int.natCast_nonneg i) (by simp[a]);simp only[b,auE,rs,j];by_cases d:s[i]=0
  ·have e:(s[i].toNat:Int)=0:=by rw[d];rfl
   simp only[e,auE,i_t];have f:(0:UInt8)∈s:=d▸auS a;exact g _ _ ⟨by simp[Vl.name,f],rfl⟩
  ·have e:¬(s[i].toNat:Int)=0:=λh=>d (UInt8.toNat_inj.1 (by have:(0:UInt8).toNat=0:=rfl;omega));simp only[e,auF,i_f];rw[aA om om];refine bC ⟨i+1,rfl,om,?_,rfl⟩ (by simp[n0,RowKit.intOf];omega);rw[List.take_add_one,auO a];simp only[Option.toList,avF,avD,not_or];exact⟨hm,λe=>d e.symm⟩
 ·rw[avE om] at hm;simp only[b,auF,i_f];refine g _ _ ⟨?_,rfl⟩;rw[Vl.name,auG hm,aAV]
  congr 1
  rw[decide_eq_decide];omega
theorem Q8 (o:Ob)(v:aq)(w:ao)(h:OV (InW w) w v o):Ret ah 128 #[v] w (λv w'=>v=.bool (Vl.gL o)∧Below w.heap.size w w'):=by
 obtain⟨vk,vc,cs,rfl,r⟩:=h.open;refine aX λK i=>Ar ?_;unfold sJ nz;refine eQ o r.keys.one r.kids.one (Own.start w) λb q a=>?_;have j:=r.own a;have C:tE (InW q) q o vk vc cs:=⟨⟨j.keys.1,(λp l c e D=>awO (j.keys.2.1 p l c e D) a.size),j.keys.2.2⟩,⟨j.kids.1,(λp l c e D=>awO (j.kids.2.1 p l c e D) a.size),j.kids.2.2⟩,OVs.mono (λ_ H=>awO H a.size) _ _ j.all⟩;have zero:∀(n g s l:Bool) {K':VWP},(∀w',Own w w' [obE b o vk vc]->K' (.bool ((n||decide (o.n=0))&&(g||decide (o.g=0))&&(s||decide (o.s=[]))&&(l||(ai (o.keys=[])&&ai (o.kids.length=0))))) w') ->
   cR ah 166 #[obV o vk vc,.bool n,.bool g,.bool s,.bool l] q (pk K) K':=λn g s l {K'} E=>tQ (Xw o vk vc cs n g s l q C) rfl a E
 rw[eG,vE a 0 rfl];simp only[rs,jL a 0 rfl];by_cases k0:o.k=0
 ·simp only[k0,auE,i_t];refine zero _ _ _ _ λw2 a=>i _ _ ⟨?_,a.done⟩;simp[Vl.gL,Vl.used,k0,azB]
 simp only[k0,auF,i_f];refine join λJ m=>?_;by_cases d:o.k=1∨o.k=2∨o.k=3
 ·have:J [.bool aw] q:=by
   refine m _ _ λ_=>?_;simp only[iX,gd,i_t,jL a 0 rfl,nz];refine zero _ _ _ _ λw2 a=>i _ _ ⟨?_,a.done⟩;simp[Vl.gL,Vl.used,k0,d,azB]
  by_cases t:o.k=1
  ·simp only[t,auE,i_t];exact this
  by_cases u:o.k=2
  ·simp only[u,Int.reduceEq,auE,auF,i_t,i_f];exact this
  have x:o.k=3:=om
  simp only[x,Int.reduceEq,auE,auF,i_t,i_f];exact this
 have t:¬o.k=1:=λh=>d (.inl h);have u:¬o.k=2:=λh=>d (.inr (.inl h));have x:¬o.k=3:=λh=>d (.inr (.inr h));simp only[t,u,x,auF,i_f];refine m _ _ λ_=>?_;clear m;simp only[iX,gd,i_f,rs,nz];refine join λJ m=>?_;by_cases f:o.k=4∨o.k=5
 ·have:J [.bool aw] q:=by
   refine m _ _ λ_=>?_;simp only[iW,gd,i_t,jL a 0 rfl,nz];refine zero _ _ _ _ λw2 a=>i _ _ ⟨?_,a.done⟩;simp[Vl.gL,Vl.used,k0,t,u,x,f,azB]
  by_cases F:o.k=4
  ·simp only[F,auE,i_t];exact this
  have G:o.k=5:=om
  simp only[G,Int.reduceEq,auE,auF,i_t,i_f];exact this
 have F:¬o.k=4:=λh=>f (.inl h);have G:¬o.k=5:=λh=>f (.inr h);simp only[F,G,auF,i_f];refine m _ _ λ_=>?_;clear m;simp only[iW,gd,i_f,rs,jL a 0 rfl,nz];by_cases y:o.k=6
 ·simp only[y,auE,i_t];refine zero _ _ _ _ λw2 a=>?_;have lk:∀{PK:PKT} {K:VWP},DoX ah (mB .len #[22] 3 #[au] #[vk]) w2 PK K=K (ad (o.keys.length:Int)) w2:=aZ auR (r.own a).keys.1;simp +contextual only[rs,gs,iZ,dZ a 0 rfl,lk,acS];refine i _ _ ⟨?_,a.done⟩;rw[aiU o.keys];simp[Vl.gL,Vl.used,y,azB]
 by_cases z:o.k=7
 ·simp only[z,Int.reduceEq,auE,auF,i_t,i_f];refine zero _ _ _ _ λw2 a=>i _ _ ⟨?_,a.done⟩;simp[Vl.gL,Vl.used,z,azB]
 by_cases A:o.k=8
 ·simp only[A,Int.reduceEq,auE,auF,i_t,i_f];refine zero _ _ _ _ λw2 a=>i _ _ ⟨?_,a.done⟩;simp[Vl.gL,Vl.used,A,azB]
 by_cases B:o.k=9
 ·simp only[B,Int.reduceEq,auE,auF,i_t,i_f];refine zero _ _ _ _ λw2 a=>i _ _ ⟨?_,a.done⟩;simp[Vl.gL,Vl.used,B,azB]
 simp only[y,z,A,B,auF,i_f];refine i _ _ ⟨?_,a.done⟩;simp[Vl.gL,Vl.used,k0,d,f,y,z,A,B]
theorem WK (o:Ob)(v:aq)(w:ao)(h:OV (InW w) w v o):Ret ah 129 #[v] w (λv w'=>v=.bool (Vl.fits o)∧Below w.heap.size w w'):=by
 obtain⟨vk,vc,cs,rfl,i⟩:=h.open;refine aX λK e=>AA ?_;unfold sU nz;refine eQ o i.keys.one i.kids.one (Own.start w) λb j a=>?_;simp only[eG,vE a 0 rfl,rs];by_cases c:o.k=1
 ·simp +contextual only[c,auE,i_t,CT,Ll a 0 rfl,rs,gs,auE,auF,nn_t,nn_f];refine e _ _ ⟨?_,a.done⟩;rw[Vl.fits,auC c];congr 1;rw[aAK];simp;omega
 by_cases d:o.k=2
 ·simp +contextual only[d,Int.reduceEq,auE,auF,i_t,i_f,CT,Ll a 0 rfl,rs,gs,auE,auF,nn_t,nn_f];refine e _ _ ⟨?_,a.done⟩;rw[Vl.fits,auB c,auC d,azC]
 by_cases f:o.k=3
 ·simp +contextual only[f,Int.reduceEq,auE,auF,i_t,i_f,CT,Ll a 0 rfl,rs,gs,auE,auF,nn_t,nn_f];refine e _ _ ⟨?_,a.done⟩;rw[Vl.fits,auB c,auB d,auC f,azC]
 by_cases g:o.k=8
 ·simp +contextual only[g,Int.reduceEq,auE,auF,i_t,i_f,CT,YU,Ll a 0 rfl,ob_g a 0 rfl,rs,gs,auE,auF,nn_t,nn_f];refine e _ _ ⟨?_,a.done⟩;rw[Vl.fits,auB c,auB d,auB f,auC g,azC,azC,azB,azB]
 simp only[c,d,f,g,auF,i_f];refine e _ _ ⟨?_,a.done⟩;rw[Vl.fits,auB c,auB d,auB f,auB g]
theorem Vb (k:Int)(w:ao):Ret ah 130 #[ad k] w (λv w'=>v=ad (Vl.long k:Nat)∧w=w'):=by
 refine aX λK c=>AR ?_;unfold rR nz;simp only[rs];by_cases a:k=5
 ·simp only[a,auE,i_t];exact c _ _ ⟨by rw[a];rfl,rfl⟩
 by_cases b:k=9
 ·simp only[b,Int.reduceEq,auE,auF,i_t,i_f];exact c _ _ ⟨by rw[b];rfl,rfl⟩
 simp only[a,b,auF,i_f];exact c _ _ ⟨by rw[Vl.long,auB a,auB b];rfl,rfl⟩
end
section
namespace Eng
open Go.RowKit
theorem JD {c:Bool}{x:aq}:sel c (sel c x)=sel c x:=by cases c<;>rfl
theorem Zd {E:(VWP)->Prop}(h:lK v want=au):GDo v want E w K=K undef w:=by
 refine propext ⟨λx=>?_,λx=>⟨?_⟩⟩
 ·have:=x.out;rw[h] at this;exact this
 ·rw[h];exact x
theorem Yq:∀a b:List UInt8,(Op.bytesLess a b||a==b)=!(Op.bytesLess b a):=by
 intro a b;rw[bytesLess_eq,bytesLess_eq,aAK];simp only[axS,avK,beq_iff_eq,azJ,awY];constructor
 ·rintro (h|rfl)
  ·exactλd=>List.lt_asymm h d
  ·exact List.lt_irrefl _
 ·intro h;by_cases c:a < b
  ·exact .inl c
  ·exact .inr (List.le_antisymm (List.not_lt.1 h) (List.not_lt.1 c))
theorem Fw {b:Bool}:DoX P (iB (.bool (!b)) (.bool aw) (sel b (.bool y))) w PK K=K (.bool (!b||y)) w:=by
 rw[Nb];cases b<;>rfl
theorem alQ {r:Bool}{A B:Prop}(h:q=r)(k:IfX (.bool r) A B):IfX (.bool q) A B:=by subst h;exact k
end Eng
end
section
open Eng Go.RowKit
 attribute [local congr] D3
theorem tE.in_ {o:Ob}(h:tE (InW w0) w0 o vk vc cs)(b:Own w0 w L):tE (InW w) w o vk vc cs:=by
 have a:=h.own b;exact⟨⟨a.keys.1,(λp l c e d=>awO (a.keys.2.1 p l c e d) b.size),a.keys.2.2⟩,⟨a.kids.1,(λp l c e d=>awO (a.kids.2.1 p l c e d) b.size),a.kids.2.2⟩,OVs.mono (λ_ f=>awO f b.size) _ _ a.all⟩
theorem nP {p:Nat->Bool}(n:Nat):(List.range (n+1)).all p=((List.range n).all p&&p n):=by
 rw[azZ,List.all_append];simp
theorem EK {p:Nat->Bool}{n:Nat}(hp:p n=au)(a:n < m):(List.range m).all p=false:=by
 rw[<-Bool.not_eq_true];intro h;have:=axJ.1 h n (awH.2 a);rw[hp] at this;cases this
theorem Pf {os:List Ob}(h:Sl w vc 6 os.length cs)(c:OVs A w cs os)(hi:i < os.length) :
  ∃b off,(∀{PK:PKT} {K:VWP},DoX ah (mIA 23 vc (ad (i:Int))) w PK K=K (af b off) w)∧w.cell? ⟨b,off,ax⟩=ay (ad os[i].k):=by
 obtain⟨b,off,cap,rfl,j⟩:=bR h om;obtain⟨a,m,f,d⟩:=OVs.get os cs i hi c;refine⟨b,off+i*6,?_,?_⟩
 ·intro PK K;have:=cZ (P:=ah) (T:=23) (b:=b) (off:=off) (cap:=cap) (n:=os.length) (k:=.i64) (i:=(i:Int)) (w:=w) auU Mk om om;rw[auJ] at this;exact aD this
 ·obtain⟨vk,vc',l,g,_⟩:=f.open;have e:a=obC os[i] vk vc':=by
   injection g with g
   have:=congrArg Array.toList g;simpa using this
  have:=j (i*6+0) _ (d 0 (ad os[i].k) (by rw[e];rfl));simpa using this
theorem XS (o:Ob)(v:aq)(w:ao)(h:OV (InW w) w v o)(X:o.s.length<=9223372036854775807)(hb:o.keys.length<=9223372036854775807)(I:∀k∈o.keys,k.length<=9223372036854775807) :
  Ret ah 131 #[v] w (λv w'=>v=.bool (Vl.form o)∧Below w.heap.size w w'):=by
 obtain⟨vk,vc,cs,rfl,y⟩:=h.open;refine aX λK p=>Az ?_;unfold sG nz;refine eQ o y.keys.one y.kids.one (Own.start w) λb Y f=>?_;simp only[eG,vE f 0 rfl,rs];by_cases u:o.k=5
 ·simp only[u,auE,i_t,El,NW f 0 rfl];refine BJ (Sq o.s Y X) ?_;refine p _ _ ⟨?_,f.done⟩;simp[Vl.form,u]
 by_cases z:o.k=7∨o.k=9
 case neg=>
  have J:¬o.k=7:=λh=>z (.inl h);have M:¬o.k=9:=λh=>z (.inr h);simp only[u,J,M,ne_eq,awJ,auE,auF,rs,vE f 0 rfl];refine p _ _ ⟨?_,f.done⟩;simp[Vl.form,u,z]
 have lk:∀{W:ao} {L:List Ent},Own w W L->∀{PK:PKT} {K:VWP},DoX ah (mB .len #[22] 3 #[au] #[vk]) W PK K=K (ad (o.keys.length:Int)) W:=λf=>aZ auR (y.own f).keys.1;have lc:∀{W:ao} {L:List Ent},Own w W L->∀{PK:PKT} {K:VWP},DoX ah (mB .len #[23] 3 #[au] #[vc]) W PK K=K (ad (o.kids.length:Int)) W:=λf=>aZ auU (y.own f).kids.1;have Z:Vl.form o=Vl.rising o:=by simp[Vl.form,u,z]
 rw[Z] at p;simp +contextual only[u,auF,i_f,rs,gs,vE f 0 rfl,iZ,iR,dZ f 0 rfl,cQ f 0 rfl,lk f,lc f];refine alQ (r:=au) (by rcases z with h|h<;>simp[h]) ?_;rw[i_f];by_cases hlen:(o.keys.length:Int)≠(o.kids.length:Int)
 ·simp only[auG hlen,i_t];refine p _ _ ⟨?_,f.done⟩;have:¬o.keys.length=o.kids.length:=λe=>hlen (by rw[e]);simp[Vl.rising,this]
 have hle:o.keys.length=o.kids.length:=om
 simp only[auD hlen,i_f];have hR:Vl.rising o=(List.range o.keys.length).all (Vl.AD o):=by simp[Vl.rising,hle]
 rw[hR] at p;refine loop (λvs w'=>∃(i:Nat),vs=[ad i]∧i<=o.keys.length∧(List.range i).all (Vl.AD o)=aw∧Own w w' [obE b o vk vc]) (λvs _=>o.keys.length - n0 vs) ⟨0,rfl,om,sm,f⟩ ?_;rintro vs w2 ⟨i,rfl,hi,j,f⟩ _;simp only[pD,gd,rs,nz];by_cases A:(i:Int) < (o.keys.length:Int)
 ·have l:i < o.keys.length:=om
  simp only[A,auE,i_t];have m:=y.own f;refine HI (ae (o.keys[i])) auR krx m.keys.1 om (by rw[auJ];exact fF l) λq x=>?_;rw[aJ Gh x];refine BJ (Sq o.keys[i] w2 (I _ (auS l))) ?_;obtain⟨kb,B,C,O⟩:=Pf m.kids.1 m.all (show i < o.kids.length by omega);have D:∀{PK:PKT} {K:VWP},DoX ah (aH 3 (af kb B)) w2 PK K=K (ad o.kids[i].k) w2:=aJ aU O;have t:ai (0 < (i:Int))=aw->∃(E g:Nat),(∀{PK:PKT} {K:VWP},DoX ah (mIA 22 vk (ad (IntKind.wrap .i64 ((i:Int) - 1)))) w2 PK K=K (af E g) w2) ∧
    (∀{PK:PKT} {K:VWP},DoX ah (aH 9 (af E g)) w2 PK K=K (ae (o.keys.getD (i - 1) [])) w2):=by
   intro h;have h:=auW h;have U:i - 1 < o.keys.length:=om
   obtain⟨E,g,V,rfl,P⟩:=bR m.keys.1 (show 0 < o.keys.length by omega);refine⟨E,g+(i - 1),?_,?_⟩
   ·intro PK K;rw[aA om om];refine aD ?_;rw[cZ auR (show _=ay 1 by kernel_rfl) om om,show ((i:Int) - 1).toNat*1=i - 1 by omega]
   ·intro PK K;rw[auK,auO U];exact aJ Gh (P _ _ (fF U))
  have Q:o.keys.getD i []=o.keys[i]:=by rw[auK,auO l];rfl
  have R:o.kids.getD i (.mk 0 0 0 [] [] [])=o.kids[i]'(om):=by rw[auK,auO om];rfl
  have tail:∀(q:Bool) (N:Prop),q=!(Vl.AD o i)->(Vl.AD o i=aw->N)->IfX (.bool q) (K (.returned (.bool au)) w2) N:=by
   intro q N x hN;cases n:Vl.AD o i with
  |false=>
    rw[n] at x;subst x;rw[show (!au)=aw from rfl,i_t];exact p _ _ ⟨by rw[EK n l],f.done⟩
  |true=>
    rw[n] at x;subst x;rw[show (!aw)=au from rfl,i_f];exact hN n
  have F:Vl.AD o i=(Vl.name o.keys[i]&&(ai (i=0)||Vl.less (o.keys.getD (i - 1) []) o.keys[i])&&!(ai (o.k=9)&&ai (o.keys[i]=Vl.rQ))&&ai ((o.kids[i]'(om)).k≠0)):=by
   rw[Vl.AD,Q,R]
  by_cases G:i=0
  ·have H:ai (0 < (i:Int))=false:=by rw[awY];omega
   simp +contextual only[rs,gs,H,JD,Zd,Fw,aAL,aAM,aAp,Yq,eG,iR,vE f 0 rfl,cQ f 0 rfl,C,D,oG,p_f];refine tail _ _ ?_ λn=>?_
   ·rw[F,auG G];simp only[Bool.true_or,aAV,Vl.rQ,ne_eq,decide_not];generalize Vl.name o.keys[i]=a;generalize ai (o.k=9)=c;generalize ai ((o.kids[i]'(om)).k=0)=d;by_cases hL:o.keys[i]=[76,101,110,103,116,104]<;>simp only[hL,auE,auF]<;>cases a<;>cases c<;>cases d<;>rfl
   ·rw[aA om om];exact bC ⟨i+1,rfl,om,by rw[nP,j,n];rfl,f⟩ (by simp[n0,RowKit.intOf];omega)
  ·have H:ai (0 < (i:Int))=true:=by rw[decide_eq_true_iff];omega
   obtain⟨E,g,S,T⟩:=t H;simp +contextual only[rs,gs,H,JD,Zd,Fw,aAL,aAM,aAp,Yq,eG,iZ,iR,vE f 0 rfl,dZ f 0 rfl,cQ f 0 rfl,C,D,S,T,oG];refine tail _ _ ?_ λn=>?_
   ·rw[F,auD G];simp only[aAS,Vl.rQ,ne_eq,decide_not];generalize Vl.name o.keys[i]=a;generalize ai (o.k=9)=c;generalize ai ((o.kids[i]'(om)).k=0)=d;show _=!(_&&Op.bytesLess (o.keys.getD (i - 1) []) o.keys[i]&&_&&_);generalize Op.bytesLess (o.keys.getD (i - 1) []) o.keys[i]=e;by_cases hL:o.keys[i]=[76,101,110,103,116,104]<;>simp only[hL,auE,auF]<;>cases a<;>cases c<;>cases d<;>cases e<;>rfl
   ·rw[aA om om];exact bC ⟨i+1,rfl,om,by rw[nP,j,n];rfl,f⟩ (by simp[n0,RowKit.intOf];omega)
 ·simp only[A,auF,i_f];refine p _ _ ⟨?_,f.done⟩;rw[show o.keys.length=i by omega,j]
end
end Go.Proofs.YtlgndjkieegnaaaGreatDoor
