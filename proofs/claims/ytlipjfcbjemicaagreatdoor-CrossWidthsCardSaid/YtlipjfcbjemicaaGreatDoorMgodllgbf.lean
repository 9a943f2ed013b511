/- Texts that go together: EngD SBuild Shelf LibBld SPlain SFix SRef02 FixP FixR FixQ SStr LibCut FixT PlA PlB PlC LawKit2 LawKit3 EngT EngH EngI EngJ EngK ObA Plain05 Plain05B Plain05C Plain05D Plain03 Plain03B Plain03C Plain06 EngU ObB EngX EngY SSlc SlcA SMake SIdx OcIdx ObC SRef05 FixU FixV FixW FixX SLaw02 FixY EngG ObD EngW ObE ObF SVal ObG ObH. -/
import Derived.Test.YtlipjfcbjemicaaGreatDoorRows
import Derived.Shelf.Strings.Builder1
import Derived.Shelf.Strings.Builder2
import Derived.Shelf.Small.Strs
import Derived.Shelf.Small.Wraps
import Derived.Shelf.Strings.BuilderF
import Derived.Shelf.Strings.BuilderK
import Derived.Shelf.Strings.Builder2Cap
import Derived.Shelf.Strings.Search1
import Derived.Shelf.Strings.Prefix
import Derived.Shelf.Bits.Mul64
import Derived.Shelf.Strings.Repeat
import Derived.Shelf.Strings.BuilderCap
import Derived.Test.YtlipjfcbjemicaaGreatDoorProg
import Derived.Recover
import Derived.Shelf.Strings.SlTrimAscii
import Derived.Lib.Repeat
import Derived.SliceStrings
import Derived.Laws.StructEq
import Derived.Sort.Walk0
import Derived.Laws.CopyRow
import Derived.Lib.AppendZerosOnto
import Derived.Lib.SliceRun
import Derived.Lib.Overlaps
import Derived.Laws.Externs
import Derived.Laws.RangeAny
import Derived.Test.YtlipjfcbjemicaaGreatDoorMchdgllkl
set_option linter.defProp false
set_option linter.unusedSimpArgs false
set_option linter.unusedVariables false
set_option maxRecDepth 20000
open Go.Proofs.Tryz
open Go.Proofs.Tryz renaming prog->ah
open Option renaming some->ax,none->aw
open Bool renaming true->av,false->au
open Go renaming Value->aq,World->ao
open Decidable renaming decide->ai
namespace Go.Proofs
abbrev alV:=@underlying9
abbrev amA:=@underlying23
abbrev amD:=@underlying22
abbrev amF:=@underlying123
abbrev amJ:=@underlying53
abbrev anG:=@underlying3
abbrev anQ:=@underlying5
abbrev aoE:=@underlying341
abbrev aoU:=@underlying61
abbrev aqE:=@underlying20
abbrev aqY:=@underlying40
abbrev arG:=@underlying84
abbrev arS:=@underlying116
abbrev atF:=@underlying269
abbrev atG:=@underlying304
abbrev atI:=@underlying289
abbrev auC:=@underlying373
end Go.Proofs
namespace Go.Proofs.YtlipjfcbjemicaaGreatDoor
variable{A S:Nat->Prop}{C:ao->Prop}{D U:TypeId}{K K':VWP}{L:List Eng.Ent}{L0:Loop}{P:Program}{PK PK2:PKT}{R:Ending->FrameMode->ao->Prop}{W w w' w0:ao}{a hi lo:Int}{args ca fa:Array aq}{b cap d f i j m sz t:Nat}{cb:Array Bool}{cs cur new news xs:List aq}{e:Eng.Ent}{k':IntKind}{key:List UInt8}{q want y:Bool}{t0 v v' v1 v2 vc vk:aq}{u:FrameMode}{xo yo:Operand}{α β:Type}{σ:Eng.Sg}
section
namespace Eng
open Go.RowKit
theorem cK (b off n:Nat):(⟨b,off,aw⟩:Addr).add n=⟨b,off+n,aw⟩:=by unfold Addr.add;split<;>simp_all
def fOff (P:Program)(T:TypeId)(f:Nat):Option Nat:=
 match P.underlying T with
|some (.struct fs)=>match fs[f]? with
 |some fd=>match P.info? fd.type with
  |some i=>match i.size with
   |0=>aw
   |_+1=>ax fd.offset
  |none=>aw
 |none=>aw
|_=>aw
def elB (P:Program)(E:TypeId)(sz bytes:Nat):Bool:=
 match P.info? E with
|some i=>Nat.beq i.size sz&&Nat.beq i.bytes bytes&&(match i.zero with|some z=>Nat.beq z.cells.size sz|none=>au)
|none=>au
theorem jR {E:TypeId}{bytes:Nat}(h:elB P E sz bytes=av):∃i z,P.info? E=ax i∧i.zero=ax z∧i.size=sz∧i.bytes=bytes∧z.cells.size=sz:=by
 unfold elB at h;split at h
 ·rename_i i hi
  simp only[amB,Nat.beq_eq] at h;obtain⟨⟨b,c⟩,a⟩:=h;split at a
  ·rename_i z d;exact⟨i,z,hi,d,b,c,by simpa using a⟩
  ·cases a
 ·cases h
section
variable {S:Nat->Prop}{P:Program}{w:ao}{PK:PKT}{K:VWP}
theorem bC {T:TypeId}{off o:Nat}(h:fOff P T f=ax o):(mFA T (.pointer (ax ⟨b,off,aw⟩)) f).run P w=.ok (.value (.pointer (ax ⟨b,off+o,aw⟩))) w:=by
 unfold fOff at h;split at h
 ·rename_i fs hu
  split at h
  ·rename_i fd a
   split at h
   ·rename_i i hi
    cases c:i.size with
   |zero=>rw[c] at h;cases h
   |succ m=>
     rw[c] at h;simp only[apK] at h;subst h;refine cJ ?_;simp[Instr.fieldAt,run_underlying hu,a,Instr.sureAddr,fieldPlace,sizeOf,typeInfo,hi,c,cK]
   ·cases h
  ·cases h
 ·cases h
theorem aO {T:TypeId}{off o:Nat}(h:fOff P T f=ax o):DoX P (mFA T (.pointer (ax ⟨b,off,aw⟩)) f) w PK K=K (.pointer (ax ⟨b,off+o,aw⟩)) w:=aD (bC h)
theorem dL {a:Addr}:(mNil (.pointer (ax a))).run P w=.ok (.value (.pointer (ax a))) w:=by simp[mNil,execOp]
def bAnd (k:IntKind)(x y:Int):Int:=k.wrap ((BitVec.ofInt k.bits x &&& BitVec.ofInt k.bits y).toNat:Int)
def bOr (k:IntKind)(x y:Int):Int:=k.wrap ((BitVec.ofInt k.bits x ||| BitVec.ofInt k.bits y).toNat:Int)
theorem ZC {T:TypeId}{k:IntKind}{b:Int}:(mBin .and T (.int k a) (.int k b)).run P w=.ok (.value (.int k (bAnd k a b))) w:=cJ (by simp[binOp,Op.intBits,bAnd])
theorem r_or {T:TypeId}{k:IntKind}{b:Int}:(mBin .or T (.int k a) (.int k b)).run P w=.ok (.value (.int k (bOr k a b))) w:=cJ (by simp[binOp,Op.intBits,bOr])
theorem VB {T:TypeId}{k:IntKind}{b:Int}(h:0<=b):(mBin .shr T (.int k a) (.int k' b)).run P w=.ok (.value (.int k (a.fdiv (2 ^ (min b.toNat k.bits))))) w:=cJ (by
 have c:¬b < 0:=om
 simp[binOp,Op.shift,c])
theorem Y2 {T:TypeId}{k:IntKind}{b:Int}(h:0<=b):(mBin .shl T (.int k a) (.int k' b)).run P w=.ok (.value (.int k (k.wrap (a*2 ^ (min b.toNat k.bits))))) w:=cJ (by
 have c:¬b < 0:=om
 simp[binOp,Op.shift,c])
theorem T3 {T:TypeId}{k:IntKind}{b:Int}:DoX P (mBin .and T (.int k a) (.int k b)) w PK K=K (.int k (bAnd k a b)) w:=aD ZC
theorem b_or {T:TypeId}{k:IntKind}{b:Int}:DoX P (mBin .or T (.int k a) (.int k b)) w PK K=K (.int k (bOr k a b)) w:=aD r_or
theorem Hr {T:TypeId}{k:IntKind}{b:Int}(h:0<=b):DoX P (mBin .shr T (.int k a) (.int k' b)) w PK K=K (.int k (a.fdiv (2 ^ (min b.toNat k.bits)))) w:=aD (VB h)
theorem Fc {T:TypeId}{k:IntKind}{b:Int}(h:0<=b):DoX P (mBin .shl T (.int k a) (.int k' b)) w PK K=K (.int k (k.wrap (a*2 ^ (min b.toNat k.bits)))) w:=aD (Y2 h)
theorem VY {T:TypeId}{k:IntKind}{i:Int}{a:List UInt8}{c:UInt8}(h:P.underlying T=ax .string)(b:0<=i)(d:a[i.toNat]?=ax c):(mIx T (.string ⟨a.toArray⟩) (.int k i)).run P w=.ok (.value (.int .u8 (c.toNat:Int))) w:=by
 refine cJ ?_;have e:(⟨a.toArray⟩:ByteArray)[i.toNat]?=ax c:=by
  have f:i.toNat < a.length:=(alY.1 d).1;have g:i.toNat < (⟨a.toArray⟩:ByteArray).size:=by rw[dM];exact f
  rw[getElem?_pos (⟨a.toArray⟩:ByteArray) i.toNat g];have j:=(alY.1 d).2;rw[<-j];rfl
 simp only[Instr.index,asIntOf,run_underlying h,b,e];simp[b,e,run_underlying h]
theorem aiU {E:TypeId}{bytes:Nat}{T:TypeId}{i:TypeInfo}{z:aq}(r:P.underlying T=ax (.slice E))(hi:P.info? E=ax i)(C:i.zero=ax z)(h:i.size=sz)(l:i.bytes=bytes)(s:z.cells.size=sz)(t:0 < sz)
  {v v':aq} {w':ao} {n m c:Nat} {xs news:List aq} {a:Addr} (d:w.ownsRowF 0 E sz v n xs) (q:news.length=m*sz) (b:∀j u,news[j]?=ax u->w.cell? (a.add j)=ax u) (D:∀u∈news,u.oneCell'=av)
  (G:n+m<=9223372036854775807) (F:(n+m)*bytes<=140737488355328) (f:(Builtin.append_ #[T,T] U #[v,.slice (ax a) m c]).run P w=.ok v' w') :
  ∀k,v'.ownBlock=ax k->v.ownBlock=ax k∨w.heap.size<=k:=by
 intro k x;have o:n+m<=maxLen:=by simp only[maxLen];omega
 rcases d.2 with ⟨rfl,rfl⟩|⟨g,cap,cur,fz,rfl,H,I,y,J,K,A,B⟩
 ·obtain⟨v2,w2,L,M,N,O⟩:=run_append_ownF (P:=P) w w.heap.size T U E i z sz bytes r hi C h l s t (.slice aw 0 0) 0 xs ⟨d.1,.inl ⟨rfl,rfl⟩⟩ a m c news q b D o F (alP _);rw[L] at f;cases f;exact .inr (World.ownsRowF.lt M k x).1
 ·subst h;subst l;by_cases e:n+m<=cap
  ·have p:n*i.size+news.length<=cur.size:=by rw[q,A,<-aoA];exact anC _ e
   rw[run_append_roomF (P:=P) w T U E i r hi g n cap cur fz I y a m c news q b D e p] at f;cases f;exact .inl x
  ·have holds:∀j u,xs[j]?=ax u->w.cell? ((⟨g,0,aw⟩:Addr).add j)=ax u:=d.cells (g:=g) rfl;rw[run_append_grow (P:=P) w T U E i z r hi C ⟨g,0,aw⟩ n cap xs d.1 holds a m c news q b om om (growslice_fits om F)] at f;cases f;simp only[Value.ownBlock,apK] at x;exact .inr om
theorem Ie {T E:TypeId}{cs:Array Bool}{bytes n:Nat}(t:P.underlying T=ax (.slice E))(he:elB P E sz bytes=av)(f:0 < sz)
  (c:w.ownsRowF 0 E sz v n xs) (I:Sl w v2 sz m news) (B:∀u∈news,u.oneCell'=av) (C:(n+m)*bytes<=140737488355328) (J:n+m<=140737488355328) :
  ∃v' w',(mB .append #[T,T] U cs #[v,v2]).run P w=.ok (.value v') w'∧Turn (.row E sz v n xs) (.row E sz v' (n+m) (xs++news)) w w':=by
 obtain⟨i,z,hi,D,h,k,l⟩:=jR he;obtain⟨o,a,cap,rfl,K,L⟩:=I;have x:n+m<=maxLen:=by simp only[maxLen];omega
 have fin:∀(a:Addr),(∀j u,news[j]?=ax u->w.cell? (a.add j)=ax u)->∃v' w',(mB .append #[T,T] U cs #[v,.slice (ax a) m cap]).run P w=.ok (.value v') w'∧Turn (.row E sz v n xs) (.row E sz v' (n+m) (xs++news)) w w':=by
  intro a F;obtain⟨v',w',G,M,N,O⟩:=run_append_ownF (P:=P) w 0 T U E i z sz bytes t hi D h k l f v n xs c a m cap news o F B x C (amN _);refine⟨v',w',?_,TT N,M,aiU (P:=P) t hi D h k l f c o F B om C G⟩;simp[mB,builtin,G]
 cases a with
|some p=>
  refine fin p λj u H=>?_;have q:j < news.length:=(alY.1 H).1;have hm:0 < m:=by
   rcases anU m with r|r
   ·subst r;simp at o;rw[o] at q;simp at q
   ·exact r
  obtain⟨y,d⟩:=L p rfl;have:=y hm;obtain⟨b,off,spot⟩:=p;simp only at this d;subst this;rw[cK];exact d j u H
|none=>
  have r:=K rfl;subst r;have s:news=[]:=aqB (by simpa using o);subst s;refine⟨v,w,?_,by rw[amE];exact Turn.refl (e:=.row E sz v n xs) c⟩;rcases c.2 with ⟨rfl,rfl⟩|⟨g,Q,cur,fz,rfl,_,_,_,A,_⟩
  ·simp[mB,builtin,Builtin.append_,run_underlying t,sizeOf,typeInfo,hi,Builtin.lenOf,Builtin.firstCells]
  ·simp[mB,builtin,Builtin.append_,run_underlying t,sizeOf,typeInfo,hi,Builtin.lenOf,Builtin.firstCells,A,storeCells]
def roomy (v:aq):Prop:=∀a k,v≠.slice (ax a) k 0
theorem roomy_row {E:TypeId}{n:Nat}(h:w.ownsRowF 0 E sz v n xs)(l:0 < n):roomy v:=by
 intro a k c;rcases h.2 with ⟨rfl,_⟩|⟨g,cap,cur,fz,rfl,d,m,e,f,i,j,b⟩
 ·cases c
 ·injection c with o p c3
  omega
theorem wM (l:List UInt8):Lib.strCells ⟨l.toArray⟩=aP l:=by
 simp[Lib.strCells,aP]
theorem DI {T h E:TypeId}{cs:Array Bool}{n:Nat}{l:List UInt8}(s:P.underlying T=ax (.slice E))(hu:P.underlying h=ax .string)(he:elB P E 1 1=av)(W:P.underlying E=ax (.int .u8))
  (t:(P.info? E).bind (·.zero)=ax (.int .u8 0))
  (b:w.ownsRowF 0 E 1 v n xs) (L:n+l.length<=140737488355328) :
  ∃v' w',(mB .append #[T,h] U cs #[v,.string ⟨l.toArray⟩]).run P w=.ok (.value v') w'∧Turn (.row E 1 v n xs) (.row E 1 v' (n+l.length) (xs++aP l)) w w'∧(roomy v->roomy v'):=by
 obtain⟨i,z,hi,X,e,m,M⟩:=jR he;have o:i.zero=ax (.int .u8 0):=by rw[hi] at t;exact t
 have c:=dM l;have x:n+(⟨l.toArray⟩:ByteArray).size<=maxLen:=by rw[c];simp only[maxLen];omega
 obtain⟨v',w',f,A,N,O⟩:=Lib.run_append_own_stringF (P:=P) w 0 T h U E i s hu hi o e m v n xs b ⟨l.toArray⟩ x (by rw[c];omega) (amN _);rw[wM,c] at A;have B:roomy v->roomy v':=by
  intro Q a k y;rcases anU (n+l.length) with K|K
  ·rcases b.2 with ⟨rfl,_⟩|⟨g,cap,cur,fz,rfl,C,D,p,F,G,q,r⟩
   ·have:=O.2 ⟨rfl,by rw[c];omega⟩;rw[this] at y;cases y
   ·have d:n+(⟨l.toArray⟩:ByteArray).size<=cap:=by rw[c];omega
    rw[Lib.run_append_room_stringF (P:=P) w T h U E i s hu hi e g n cap cur fz D (by simpa using p) ⟨l.toArray⟩ d (by simp at q;omega)] at f
    injection f with H R
    rw[<-H] at y
    injection y with Y Z c3
    exact Q ⟨g,0,aw⟩ n (by rw[c3])
  ·exact roomy_row A K a k y
 refine⟨v',w',by simp[mB,builtin,f],⟨TT N,A,?_⟩,B⟩;intro k I;rcases b.2 with ⟨rfl,rfl⟩|⟨g,cap,cur,fz,rfl,C,D,p,F,G,q,r⟩
 ·obtain⟨v2,w2,S,V,q3,q4⟩:=Lib.run_append_own_stringF (P:=P) w w.heap.size T h U E i s hu hi o e m (.slice aw 0 0) 0 xs ⟨b.1,.inl ⟨rfl,rfl⟩⟩ ⟨l.toArray⟩ x (by rw[c];omega) (alP _);rw[S] at f;cases f;exact .inr (World.ownsRowF.lt V k I).1
 ·by_cases d:n+(⟨l.toArray⟩:ByteArray).size<=cap
  ·rw[Lib.run_append_room_stringF (P:=P) w T h U E i s hu hi e g n cap cur fz D (by simpa using p) ⟨l.toArray⟩ d (by simp at q;omega)] at f;cases f;exact .inl I
  ·have holds:∀j u,xs[j]?=ax u->w.cell? ((⟨g,0,aw⟩:Addr).add j)=ax u:=b.cells (g:=g) rfl;rw[Lib.run_append_grow_string (P:=P) w T h U E i (.int .u8 0) s hu hi o ⟨g,0,aw⟩ n cap xs (by rw[e];simpa using b.1) holds ⟨l.toArray⟩ om (by rw[c];omega) (by rw[m];exact growslice_fits om (by rw[c];omega))] at f;cases f;have J:ax w.heap.size=ax k:=I;cases J;exact .inr (alP _)
theorem OwnS.swap {f:Ent}(d:OwnS S w0 w (e::f::L)):OwnS S w0 w (f::e::L):=by
 obtain⟨i,a2⟩:=aoG.1 d.apart;obtain⟨a3,a4⟩:=aoG.1 a2;exact⟨d.grew,λg b=>d.all g (by simp only[alN] at b ⊢;rcases b with h|h|h<;>simp[h]),.cons (λg b k c a=>by
  rcases alN.1 b with rfl|b
  ·exact i f sm k a c
  ·exact a3 g b k c a) (.cons (λg b k c a=>i g (by simp[b]) k c a) a4)⟩
theorem Pz (i:Nat){R:aq->Ent->Prop}(a:OwnS S w0 w L)(hi:L[i]?=ax e)(h:Ret P f args w (λv w'=>∃e',R v e'∧Turn e e' w w'))
  (k:∀v e' w',R v e'->OwnS S w0 w' (L.set i e')->K v w'):CallX P f args w PK K:=
 Cj h λv w' ⟨e',b,c⟩=>k v e' w' b (a.turn i hi c)
theorem aM {R:aq->Prop}(a:OwnS S w0 w L)(h:Ret P f args w (λv w'=>R v∧Below w.heap.size w w'))
  (k:∀v w',R v->OwnS S w0 w' L->K v w'):CallX P f args w PK K:=
 Cj h λv w' ⟨b,c⟩=>k v w' b (a.grow c)
end
end Eng
end
end Go.Proofs.YtlipjfcbjemicaaGreatDoor

namespace Go.Proofs
open Go.Shelf
open Go.RowKit in
def Tryz.Oe:Go.Shelf.Ren:=⟨λ|137=>224|217=>257|266=>283|n=>n,λ|9=>9|5=>5|3=>3|n=>n,λ|n=>n⟩
theorem Tryz.aaK:Go.Proofs.Lays.n137 ah Tryz.Oe:={
 mixed:=krx
 f137:=Tryz.func224.trans (congrArg ax krx)
 f217:=Tryz.func257.trans (congrArg ax krx)
 f266:=Tryz.func283.trans (congrArg ax krx)
 t3:=anG
 a3:=Tryz.isAgg3
 z3:=Tryz.sizeOf3
 v3:=Tryz.zeroValue3
 t5:=anQ
 a5:=Tryz.isAgg5
 z5:=Tryz.sizeOf5
 v5:=Tryz.zeroValue5
 t9:=alV
 a9:=Tryz.isAgg9
 z9:=Tryz.sizeOf9
 v9:=Tryz.zeroValue9 }
open Go.RowKit in
theorem Tryz.strings_IndexByte (s:ByteArray)(c:Int)(w:ao) :
  Calls ah 224 #[.string s,.int .u8 c] w λe w'=>e=.returned (.int .i64 (Lib.indexByte s.data.toList c.toNat.toUInt8))∧w'=w:=Any.strings_IndexByte Tryz.aaK s c w
open Go.RowKit Go.Lib in
def Tryz.Ow:Go.Shelf.Ren:=⟨λ|212=>227|263=>259|264=>260|n=>n,λ|46=>84|51=>153|146=>263|53=>147|148=>265|n=>n,λ|n=>n⟩
theorem Tryz.Zm:Go.Proofs.Lays.n212 ah Tryz.Ow:={
 mixed:=krx
 f212:=Tryz.func227.trans (congrArg ax krx)
 f263:=Tryz.func259.trans (congrArg ax krx)
 f264:=Tryz.func260.trans (congrArg ax krx)
 t46:=arG
 a46:=Tryz.isAgg84
 z46:=Tryz.sizeOf84
 v46:=Tryz.zeroValue84
 t51:=underlying153
 a51:=Tryz.isAgg153
 z51:=Tryz.sizeOf153
 v51:=Tryz.zeroValue153
 t53:=underlying147
 a53:=Tryz.isAgg147
 z53:=Tryz.sizeOf147
 v53:=Tryz.zeroValue147
 t146:=underlying263
 a146:=Tryz.isAgg263
 z146:=Tryz.sizeOf263
 v146:=Tryz.zeroValue263
 t148:=underlying265
 a148:=Tryz.isAgg265
 z148:=Tryz.sizeOf265
 v148:=Tryz.zeroValue265 }
open Go.RowKit Go.Lib in
theorem Tryz.bits_Mul (x y:Nat)(a:x < 18446744073709551616)(b:y < 18446744073709551616)(w:ao) :
  Calls ah 227 #[.int .u64 x,.int .u64 y] w λe w'=>e=.returned (.tuple #[.int .u64 ((x*y / 18446744073709551616:Nat):Int),.int .u64 ((x*y % 18446744073709551616:Nat):Int)])∧w'=w:=Any.bits_Mul Tryz.Zm x y a b w
end Go.Proofs
namespace Go.Proofs.YtlipjfcbjemicaaGreatDoor
variable{A S:Nat->Prop}{C:ao->Prop}{D U:TypeId}{K K':VWP}{L:List Eng.Ent}{L0:Loop}{P:Program}{PK PK2:PKT}{R:Ending->FrameMode->ao->Prop}{W w w' w0:ao}{a hi lo:Int}{args ca fa:Array aq}{b cap d f i j m sz t:Nat}{cb:Array Bool}{cs cur new news xs:List aq}{e:Eng.Ent}{k':IntKind}{key:List UInt8}{q want y:Bool}{t0 v v' v1 v2 vc vk:aq}{u:FrameMode}{xo yo:Operand}{α β:Type}{σ:Eng.Sg}
section
open Eng Go.RowKit
theorem JV (a b:List UInt8):aP (a++b)=aP a++aP b:=by simp[aP]
end
end Go.Proofs.YtlipjfcbjemicaaGreatDoor







namespace Go.Proofs.YtlipjfcbjemicaaGreatDoor
variable{A S:Nat->Prop}{C:ao->Prop}{D U:TypeId}{K K':VWP}{L:List Eng.Ent}{L0:Loop}{P:Program}{PK PK2:PKT}{R:Ending->FrameMode->ao->Prop}{W w w' w0:ao}{a hi lo:Int}{args ca fa:Array aq}{b cap d f i j m sz t:Nat}{cb:Array Bool}{cs cur new news xs:List aq}{e:Eng.Ent}{k':IntKind}{key:List UInt8}{q want y:Bool}{t0 v v' v1 v2 vc vk:aq}{u:FrameMode}{xo yo:Operand}{α β:Type}{σ:Eng.Sg}
section
open Eng Go.RowKit
theorem OJ (c:UInt8):∀l:List UInt8,(Lib.indexByte l c=-1∧l.takeWhile (λx=>x != c)=l∧l.dropWhile (λx=>x != c)=[]) ∨
  ∃i:Nat,Lib.indexByte l c=i∧i < l.length∧l.takeWhile (λx=>x != c)=l.take i∧l.dropWhile (λx=>x != c)=l.drop i
|[]=>.inl ⟨rfl,rfl,rfl⟩
|b::l=>by
  by_cases h:b=c
  ·subst h;exact .inr ⟨0,by simp[Lib.indexByte],sm,sm,sm⟩
  ·have g:(b==c)=false:=by simpa using h
   have a:(b != c)=true:=by simpa using h
   rcases OJ c l with ⟨d,j,f⟩|⟨i,d,j,f,k⟩
   ·exact .inl ⟨by simp[Lib.indexByte,g,d],by simp[a,j],by simp[a,f]⟩
   ·refine .inr ⟨i+1,?_,by simp;omega,by simp[a,f],by simp[a,k]⟩;have e:((i:Int)==-1)=false:=sm
    simp only[Lib.indexByte,g,d,e,apT,if_false];omega
end
end Go.Proofs.YtlipjfcbjemicaaGreatDoor

namespace Go.Proofs.YtlipjfcbjemicaaGreatDoor
variable{A S:Nat->Prop}{C:ao->Prop}{D U:TypeId}{K K':VWP}{L:List Eng.Ent}{L0:Loop}{P:Program}{PK PK2:PKT}{R:Ending->FrameMode->ao->Prop}{W w w' w0:ao}{a hi lo:Int}{args ca fa:Array aq}{b cap d f i j m sz t:Nat}{cb:Array Bool}{cs cur new news xs:List aq}{e:Eng.Ent}{k':IntKind}{key:List UInt8}{q want y:Bool}{t0 v v' v1 v2 vc vk:aq}{u:FrameMode}{xo yo:Operand}{α β:Type}{σ:Eng.Sg}
section
open Eng Go.RowKit
theorem Kw (l:List UInt8)(c:UInt8)(w:ao):Ret ah 224 #[.string ⟨l.toArray⟩,.int .u8 c.toNat] w (λv w'=>v=.int .i64 (Lib.indexByte l c)∧w=w'):=by
 refine Calls.mono (Tryz.strings_IndexByte ⟨l.toArray⟩ c.toNat w) ?_;rintro e w' ⟨rfl,rfl⟩;refine retK ⟨?_,rfl⟩;simp
end
end Go.Proofs.YtlipjfcbjemicaaGreatDoor

namespace Go.Proofs.YtlipjfcbjemicaaGreatDoor
variable{A S:Nat->Prop}{C:ao->Prop}{D U:TypeId}{K K':VWP}{L:List Eng.Ent}{L0:Loop}{P:Program}{PK PK2:PKT}{R:Ending->FrameMode->ao->Prop}{W w w' w0:ao}{a hi lo:Int}{args ca fa:Array aq}{b cap d f i j m sz t:Nat}{cb:Array Bool}{cs cur new news xs:List aq}{e:Eng.Ent}{k':IntKind}{key:List UInt8}{q want y:Bool}{t0 v v' v1 v2 vc vk:aq}{u:FrameMode}{xo yo:Operand}{α β:Type}{σ:Eng.Sg}
section
open Eng Go.RowKit
def strV (p:List UInt8):Value:=.string ⟨p.toArray⟩
def bZ (ps:List (List UInt8)):List Value:=ps.map strV
theorem nX {ps:List (List UInt8)}(h:i < ps.length):(bZ ps)[i]?=ax (.string ⟨ps[i].toArray⟩):=by simp[bZ,strV,h]
end
section
open Eng Go.RowKit Go.ChangeShapes Go.WideShapes Go.ChangeAt
theorem xC {x:String×DataW Unit}{l:List (String×DataW Unit)}(h:laidMet P (x::l) W):laidMet P l W:=by
 obtain⟨ps,⟨g,t,cs,fuel,p,q,_,_,_,_,a,rfl⟩,c,d⟩:=h;exact⟨q,a,(List.nodup_append.1 c).2.1,λb off hm=>d b off (by simp[hm])⟩
end
end Go.Proofs.YtlipjfcbjemicaaGreatDoor

namespace Go.Proofs.YtlipjfcbjemicaaGreatDoor
variable{A S:Nat->Prop}{C:ao->Prop}{D U:TypeId}{K K':VWP}{L:List Eng.Ent}{L0:Loop}{P:Program}{PK PK2:PKT}{R:Ending->FrameMode->ao->Prop}{W w w' w0:ao}{a hi lo:Int}{args ca fa:Array aq}{b cap d f i j m sz t:Nat}{cb:Array Bool}{cs cur new news xs:List aq}{e:Eng.Ent}{k':IntKind}{key:List UInt8}{q want y:Bool}{t0 v v' v1 v2 vc vk:aq}{u:FrameMode}{xo yo:Operand}{α β:Type}{σ:Eng.Sg}
section
namespace Eng
open Go.RowKit
def aggN (P:Program)(T:TypeId):Option Nat:=
 match P.underlying T with
|some (.struct _)|some (.array _ _)=>(P.info? T).map (·.size)
|_=>aw
def AtV (P:Program)(w:ao)(T:TypeId)(a:Addr)(v:aq):Prop:=(loadVar T a).run P w=.ok v w
section
variable {S:Nat->Prop}{P:Program}{w:ao}{PK:PKT}{K:VWP}
theorem AtV.cell {T:TypeId}(b:eD P T=av){a:Addr}{v:aq}(h:w.cell? a=ax v):AtV P w T a v:=mU b h
theorem AtV.agg {T:TypeId}{n:Nat}(a:aggN P T=ax n){b off:Nat}{cs:List aq}(f:cs.length=n)(h:∀j v,cs[j]?=ax v->w.cell? ⟨b,off+j,aw⟩=ax v):AtV P w T ⟨b,off,aw⟩ (.agg cs.toArray):=by
 have d:=run_loadCells_list (P:=P) w ⟨b,off,aw⟩ cs (λj v g=>by rw[cK];exact h j v g);unfold aggN at a;subst f;unfold AtV;split at a
 ·rename_i fs hu
  obtain⟨i,hi,c⟩:=anP.1 a;simp[loadVar,isAgg,run_underlying hu,sizeOf,typeInfo,hi,c,d]
 ·rename_i k e hu
  obtain⟨i,hi,c⟩:=anP.1 a;simp[loadVar,isAgg,run_underlying hu,sizeOf,typeInfo,hi,c,d]
 ·cases a
theorem aW {T:TypeId}{a:Addr}(h:AtV P w T a v):(aH T (.pointer (ax a))).run P w=.ok (.value v) w:=by
 unfold AtV at h;exact cJ (by simp[Instr.loadAt,Instr.sureAddr,h])
theorem l_at {T:TypeId}{a:Addr}(h:AtV P w T a v):DoX P (aH T (.pointer (ax a))) w PK K=K v w:=aD (aW h)
theorem OwnS.agg {w0:ao}{L:List Ent}(a:OwnS S w0 w L)(i:Nat){b:Nat}{cs:List aq}{E T:TypeId}(hi:L[i]?=ax (.cells b cs E))(c:aggN P T=ax cs.length):AtV P w T ⟨b,0,aw⟩ (.agg cs.toArray):=
 AtV.agg c rfl λj v d=>by rw[alU];exact a.cell i hi j d
theorem KW {T:TypeId}{E:TypeId}(c:(P.info? T).map (·.size)=ax new.length)(d:∀v∈new,v.oneCell'=av)(e:cs.length=new.length)(h:w.heap[b]?=ax (.cells cs.toArray E (0,0))) :
  (Instr.storeAt T (.pointer (ax ⟨b,0,aw⟩)) (.agg new.toArray)).run P w=.ok () (w.setRow b new.toArray):=by
 have a:=run_storeCells_at P b 0 E new 0 cs.toArray w h (by simp;omega) d;obtain⟨i,hi,f⟩:=anP.1 c;have g:cs.toArray.toList.drop new.length=[]:=anR (by rw[<-e];exact alP _);simp only[anF,alU,apL,amZ,g,amE] at a;have j:(Value.agg new.toArray).cells=new.toArray:=rfl;simp[Instr.storeAt,Instr.sureAddr,storeVar,j,sizeOf,typeInfo,hi,f,a]
theorem gY (i:Nat){T:TypeId}{E:TypeId}(a:OwnS S w0 w L)(hi:L[i]?=ax (.cells b cs E))(c:(P.info? T).map (·.size)=ax new.length)(d:∀v∈new,v.oneCell'=av)(e:cs.length=new.length)
  (k:∀w',OwnS S w0 w' (L.set i (.cells b new E))->K undef w'):DoX P (aN T (.pointer (ax ⟨b,0,aw⟩)) (.agg new.toArray)) w PK K:=
 Bm (HP (KW c d e (a.at_ i hi))) (k _ (gK a i hi _))
theorem nS {T:TypeId}{a:List UInt8}{k:IntKind}(h:P.underlying T=ax .string)(b:0<=lo)(d:lo<=hi)(c:hi<=a.length) :
  (eG T (.string ⟨a.toArray⟩) (ax (.int k lo)) (ax (.int k' hi)) aw).run P w=.ok (.value (.string ⟨((a.drop lo.toNat).take (hi.toNat - lo.toNat)).toArray⟩)) w:=by
 refine cJ ?_;have e:(⟨a.toArray⟩:ByteArray).extract lo.toNat hi.toNat=⟨((a.drop lo.toNat).take (hi.toNat - lo.toNat)).toArray⟩:=by
  rw[GL (s:=(⟨a.toArray⟩:ByteArray).extract lo.toNat hi.toNat),Lib.extract_data]
 have g1:(0<=hi∧hi<=((a.length:Nat):Int)):=om
 have g2:(0<=lo∧lo<=((hi.toNat:Nat):Int)):=om
 simp only[Instr.sliceAt,Instr.slice,Instr.sliceBounds,Instr.sliceBound,asIntOf,run_underlying h,dM];have g3:lo<=max hi 0:=om
 simp[run_underlying h,dM,c,g3,b,g1.1,e]
theorem iC {a:RV}{K:Ending->ao->Prop}(b:a.read.run P w=.ok v1 w)(k:K (.returned v1) w):RetX P [a] w K:=
 ⟨_,by simp[B9,b],k⟩
theorem vO {a b:RV}{K:Ending->ao->Prop}(c:a.read.run P w=.ok v1 w)(d:b.read.run P w=.ok v2 w)(k:K (.returned (.tuple #[v1,v2])) w):RetX P [a,b] w K:=
 ⟨_,by simp[B9,c,d],k⟩
theorem OD {a b c:RV}{v3:aq}{K:Ending->ao->Prop}(d:a.read.run P w=.ok v1 w)(e:b.read.run P w=.ok v2 w)(f:c.read.run P w=.ok v3 w)(k:K (.returned (.tuple #[v1,v2,v3])) w):RetX P [a,b,c] w K:=
 ⟨_,by simp[B9,d,e,f],k⟩
theorem bI {T:TypeId}{a:Addr}(h:AtV P w T a v):(RV.cell (.pointer (ax a)) T).read.run P w=.ok v w:=by
 unfold AtV at h;simp[RV.read,asAddr,h]
theorem uI :(RV.val v).read.run P w=.ok v w:=by simp[RV.read]
end
end Eng
end
section
namespace Eng
open Go.RowKit
section
variable {S:Nat->Prop}{P:Program}{w w0:ao}{L:List Ent}{PK:PKT}{K:VWP}
theorem OwnS.join {L':List Ent}(h:OwnS S w0 w L)(k:OwnS NoB w w' L'):OwnS S w0 w' (L'++L):=by
 have d:=h.grow k.below;refine⟨d.grew,λe he=>?_,apM.2 ⟨k.apart,d.apart,λe he f i b l g=>?_⟩⟩
 ·rcases amK.1 he with he|he
  ·obtain⟨a,b⟩:=k.all e he;refine⟨a,λj m=>.inr ?_⟩;rcases b j m with c|c
   ·exact c.elim
   ·exact aoM h.size c
  ·exact d.all e he
 ·have n:=f.lt (h.mem i) b g;rcases (k.all e he).2 b l with c|c
  ·exact c
  ·omega
theorem aiM {l:Nat}{K:ao->Prop}(i:Nat)(a:OwnS S w0 w L)(hi:L[i]?=ax (.obj l (lp L0 .ready aw)))(k:∀w',OwnS S w0 w' (L.set i (.obj l (lp L0 .busy aw)))->K w'):BegX P l w K:=
 ⟨_,Ip (a.at_ i hi),k _ (F4 a i hi)⟩
theorem ajJ {l:Nat}{j:Option Code}{R:VWP}(i:Nat)(a:OwnS S w0 w L)(hi:L[i]?=ax (.obj l (lp L0 .busy aw)))(k:∀w',OwnS S w0 w' (L.set i (.obj l (lp L0 (if j.isNone then .ready else .done) j)))->R (.bool j.isNone) w'):EndX P l j w R:=
 ⟨_,_,Mo (a.at_ i hi),k _ (F4 a i hi)⟩
theorem ajZ {l:Nat}{args:List aq}{R:VWP}(h:Yld P l args w R)(k:∀v w',R v w'->K v w'):DoX P (fX (.func (.yield l) #[] #[]) args.toArray) w PK K:=by
 obtain⟨fn,tmps,a,b,c,d⟩:=h;have f:(fX (.func (.yield l) #[] #[]) args.toArray).run P w=.ok (.round l fn tmps a b) w:=by
  rw[<-c];simp[fX,invoke,Deferred.ofValue,resolve]
 refine⟨?_⟩;rw[f];refine⟨RoundIn.mono d ?_⟩;rintro e w' ⟨v,rfl,g⟩;exact k v w' g
theorem range {js:List (Option Code×(Nat->ao->Prop))}{B:Nat->List aq->ao->(VWP)->Prop}{np:Nat}(c:OwnS S w0 w L)(hp:cO P f=av)
  (h:∀(L0:Loop) (df a:Nat) (b:ao),OwnS S w0 b (.obj a (lp L0 .ready aw)::.obj df (.deferred (ax []))::L) ->
   (∀args W R,W.heap[a]?=ax (lp L0 .ready aw)->args.length=np->B a args W R->Yld P a args W R) ->
   Calls P f (fa++#[.func (.yield a) #[] #[]]++ca) b λe w3=>∃v st pd k,e=.returned v∧st≠.busy∧w3.heap[a]?=ax (lp L0 st pd)∧(pd,k)∈js∧k df (putO w3 a (lp L0 .exhausted pd))) :
  RangeX P aw np (.func (.func f) fa ca) w B js:=by
 refine⟨f,fa,ca,w.heap.size,w.alloc (.deferred (ax [])),rfl,hp,⟨rfl,rfl⟩,λL0 _ d=>?_⟩;exact h L0 w.heap.size (w.alloc (.deferred (ax []))).heap.size _ ((c.Qn _).Qn _) (λargs W R g i j=>d _ args W R g i j)
theorem aeP {rs:List RV}{K:Ending->ao->Prop}{df:Nat}(i:Nat)(a:OwnS S w0 w L)(hi:L[i]?=ax (.obj df (.deferred (ax []))))(k:∀w',OwnS S w0 w' (L.set i (.obj df (.deferred aw)))->RetD P rs w' K):EE P rs K [mkD df] .returning w:=by
 refine⟨(λh=>by cases h),df,_,rfl,?_,k _ (F4 a i hi)⟩;have h:w.heap[df]?=ax (.deferred (ax [])):=a.at_ i hi;simp[Instr.takeDeferred,getObj,setObj,Sem.run,h]
end
end Eng
end
section
namespace Eng
open Go.RowKit
def eqSh (P:Program):List Field->Option (List (Nat×Bool))
|[]=>ax []
|f::fs=>
  if f.name=="_" then aw
  else match P.underlying f.type with
  |some (.int _)=>(eqSh P fs).map ((f.offset,au)::·)
  |some .string=>(eqSh P fs).map ((f.offset,av)::·)
  |_=>aw
def Pn:Bool->Option aq->Option aq->Bool
|false,ax (.int k _),ax (.int k' _)=>ai (k=k')
|true,ax (.string _),ax (.string _)=>av
|_,_,_=>au
def BR:Option aq->Option aq->Bool
|some (.int _ a),ax (.int _ b)=>a==b
|some (.string a),ax (.string b)=>a.toList==b.toList
|_,_=>au
section
variable {P:Program}{w:ao}{PK:PKT}{K:VWP}
theorem F1 (d:Nat)(xs ys:Array aq):∀(fs:List Field) (sh:List (Nat×Bool)),eqSh P fs=ax sh->(sh.all λp=>Pn p.2 xs[p.1]? ys[p.1]?)=av ->
  (Op.eqFields (d+1) xs ys fs).run P w=.ok (sh.all λp=>BR xs[p.1]? ys[p.1]?) w
|[],sh,h,_=>by
  cases h;simp[Op.eqFields]
|f::fs,sh,h,hok=>by
  rw[eqSh] at h;split at h
  ·cases h
  ·rename_i hn
   have hn':f.name≠"_":=by simpa using hn
   split at h
   ·rename_i k hu
    obtain⟨sh',h',rfl⟩:=anP.1 h;simp only[asB,amB] at hok;obtain⟨h0,hok⟩:=hok;have ih:=F1 d xs ys fs sh' h' hok;cases hx:xs[f.offset]? with
   |none=>rw[hx] at h0;cases h0
   |some a=>
     cases hy:ys[f.offset]? with
    |none=>rw[hx,hy] at h0;cases a<;>cases h0
    |some b=>
      rw[hx,hy] at h0;cases a<;>cases b<;>first|(cases h0;done)|skip
      rename_i k1 a k2 b
      simp only[Pn,amU] at h0;subst h0;simp only[Op.eqFields,hn',ne_eq,apF,if_true,Sem.run_bind,part,isAgg,run_underlying hu,Result.andThen_ok,Sem.run_pure,apT,if_false,hx,hy,run_equalIn_int w d f.type k1 k a b hu,asB,BR];cases hab:(a==b)
      ·simp
      ·simp[ih];rfl
   ·rename_i hu
    obtain⟨sh',h',rfl⟩:=anP.1 h;simp only[asB,amB] at hok;obtain⟨h0,hok⟩:=hok;have ih:=F1 d xs ys fs sh' h' hok;cases hx:xs[f.offset]? with
   |none=>rw[hx] at h0;cases h0
   |some a=>
     cases hy:ys[f.offset]? with
    |none=>rw[hx,hy] at h0;cases a<;>cases h0
    |some b=>
      rw[hx,hy] at h0;cases a<;>cases b<;>first|(cases h0;done)|skip
      rename_i a b
      simp only[Op.eqFields,hn',ne_eq,apF,if_true,Sem.run_bind,part,isAgg,run_underlying hu,Result.andThen_ok,Sem.run_pure,apT,if_false,hx,hy,run_equalIn_string w d f.type a b hu,asB,BR];cases hab:(a.toList==b.toList)
      ·simp
      ·simp[ih];rfl
   ·cases h
def eqT (P:Program)(T:TypeId)(a:List (Nat×Bool)):Prop:=
 P.underlying T=ax (.struct (P.fieldsOf T))∧P.stoodInHeld T=au∧P.eqGuardType P.depth T=au∧eqSh P (P.fieldsOf T).toList=ax a
theorem MS {T:TypeId}{b:List (Nat×Bool)}(h:eqT P T b){xs a:Array aq}(c:(b.all λp=>Pn p.2 xs[p.1]? a[p.1]?)=av) :
  (mEq .eql T xo yo (.agg xs) (.agg a)).run P w=.ok (.value (.bool (b.all λp=>BR xs[p.1]? a[p.1]?))) w:=by
 obtain⟨d,e,f,g⟩:=h;refine cJ ?_;rw[Sem.run_bind,run_eqGuard_agg w .eql T xo yo xs a f];simp only[Result.andThen_ok];rw[run_eql_struct,run_equalIn_struct w 9999 T xs a d e,F1 9998 xs a _ b g c];rfl
theorem Ov {T:TypeId}{b:List (Nat×Bool)}(h:eqT P T b){xs a:Array aq}(c:(b.all λp=>Pn p.2 xs[p.1]? a[p.1]?)=av) :
  (mEq .neq T xo yo (.agg xs) (.agg a)).run P w=.ok (.value (.bool (!(b.all λp=>BR xs[p.1]? a[p.1]?)))) w:=by
 obtain⟨d,e,f,g⟩:=h;refine cJ ?_;rw[Sem.run_bind,run_eqGuard_agg w .neq T xo yo xs a f];simp only[Result.andThen_ok];rw[run_neq_struct,run_equalIn_struct w 9999 T xs a d e,F1 9998 xs a _ b g c];rfl
end
end Eng
end
section
namespace Eng
open Go.RowKit
section
variable {P:Program}{C:ao->Prop}{K:aq->Prop}
theorem adF {E:(aq->Prop)->Prop}:GQ (.bool av) av E K=E K:=propext ⟨λx=>x.out,λx=>⟨x⟩⟩
theorem abI {E:(aq->Prop)->Prop}:GQ (.bool au) av E K=K undef:=propext ⟨λx=>x.out,λx=>⟨x⟩⟩
theorem Mh {E:(aq->Prop)->Prop}:GQ (.bool au) au E K=E K:=propext ⟨λx=>x.out,λx=>⟨x⟩⟩
theorem aaW {E:(aq->Prop)->Prop}:GQ (.bool av) au E K=K undef:=propext ⟨λx=>x.out,λx=>⟨x⟩⟩
theorem D5 {want:Bool}{E:(aq->Prop)->Prop}:GQ undef want E K=K undef:=propext ⟨λx=>x.out,λx=>⟨x⟩⟩
def gq:=And.intro @adF (And.intro @abI (And.intro @Mh (And.intro @aaW @D5)))
theorem oY {T:TypeId}{k:IntKind}{b:Int}(h:K (.int k (k.wrap (a+b)))):QDo P C (mBin .add T (.int k a) (.int k b)) K:=q_do _ (λ_=>Ia) h
theorem DQ {T:TypeId}{k:IntKind}{b:Int}(h:K (.bool (ai (a < b)))):QDo P C (mBin .lss T (.int k a) (.int k b)) K:=q_do _ (λ_=>cJ (by simp[binOp,Op.intCmp])) h
theorem Z2 {T:TypeId}{k:IntKind}{b:Int}(h:K (.bool (ai (a<=b)))):QDo P C (mBin .leq T (.int k a) (.int k b)) K:=q_do _ (λ_=>cJ (by simp[binOp,Op.intCmp])) h
theorem yS {T:TypeId}{k:IntKind}{b:Int}(h:K (.bool (ai (b < a)))):QDo P C (mBin .gtr T (.int k a) (.int k b)) K:=q_do _ (λ_=>cJ (by simp[binOp,Op.intCmp])) h
theorem agS {T:TypeId}{k:IntKind}{b:Int}(h:K (.bool (ai (b<=a)))):QDo P C (mBin .geq T (.int k a) (.int k b)) K:=q_do _ (λ_=>cJ (by simp[binOp,Op.intCmp])) h
theorem q_eq {T:TypeId}{k:IntKind}{b:Int}(h:K (.bool (ai (a=b)))):QDo P C (mEq .eql T xo yo (.int k a) (.int k b)) K:=q_do _ (λ_=>cJ (by simp[eqGuard,binOp,Op.intCmp,Uh])) h
theorem YB {c:Bool}{a b:aq}(h:K (if c then a else b)):QDo P C (kH (.bool c) a b) K:=q_do _ (λ_=>by simp[kH,asBool]) h
theorem q_pt {a b:aq}(h:K a):QDo P C (kH (.bool av) a b) K:=YB h
theorem q_pf {a b:aq}(h:K b):QDo P C (kH (.bool au) a b) K:=YB h
theorem XM {T:TypeId}{cs:Array Bool}{a:List UInt8}(b:P.underlying T=ax .string)(h:K (.int .i64 (a.length:Int))):QDo P C (mB .len #[T] U cs #[.string ⟨a.toArray⟩]) K:=q_do _ (λ_=>ZW b) h
theorem p_do {m:Sem Next}(v:aq)(h:∀w,m.run P w=.ok (.value v) w)(k:K v):PDo P m K:=⟨v,h,k⟩
theorem ahX {T:TypeId}{k:IntKind}{b:Int}(c:b≠0)(h:K (.int k (k.wrap (a.tdiv b)))):QDo P C (mBin .quo T (.int k a) (.int k b)) K:=q_do _ (λ_=>aiF c) h
theorem q_ix {T:TypeId}{k:IntKind}{i:Int}{a:List UInt8}{c:UInt8}(b:P.underlying T=ax .string)(d:0<=i)(e:a[i.toNat]?=ax c)(h:K (.int .u8 (c.toNat:Int))):QDo P C (mIx T (.string ⟨a.toArray⟩) (.int k i)) K:=q_do _ (λ_=>VY b d e) h
theorem abH {T:TypeId}{a b:List UInt8}(h:K (.bool (ai (a≠b)))):QDo P C (mEq .neq T xo yo (.string ⟨a.toArray⟩) (.string ⟨b.toArray⟩)) K:=by
 refine q_do _ (λ_=>cJ ?_) h;have e:(a==b)=ai (a=b):=by by_cases h:a=b<;>simp[h]
 simp[eqGuard,binOp,Op.stringOp,kV,e]
theorem dU {S:TypeId}{k:IntKind}{n:Int}(a:(P.underlying S).isSome=av)(b:P.underlying D=ax (.int k')):(sE S D (.int k n)).run P w=.ok (.value (.int k' (k'.wrap n))) w:=by
 cases h:P.underlying S with
|none=>rw[h] at a;cases a
|some d=>exact cJ (by simp[convert,run_underlying h,run_underlying b,Conv.intToInt])
theorem Q1 {T E:TypeId}{n:Nat}(h:P.underlying T=ax (.slice E))(b:Sl w v sz n cs):(mB .len #[T] U cb #[v]).run P w=.ok (.value (.int .i64 (n:Int))) w:=by
 obtain⟨_,a,cap,rfl,_⟩:=b;simp[mB,builtin,Builtin.len_,run_underlying h,goInt]
end
end Eng
end
section
namespace Eng
open Go.RowKit
theorem OwnS.perm {L':List Ent}(h:OwnS S w0 w L)(hp:L.Perm L'):OwnS S w0 w L':=
 ⟨h.grew,λe he=>h.all e (hp.mem_iff.2 he),(hp.pairwise_iff (λ{x y} a k b c=>a k c b)).1 h.apart⟩
theorem OwnS.front {A B C:List Ent}(h:OwnS S w0 w (A++(B++C))):OwnS S w0 w (B++(A++C)):=
 h.perm (by rw[<-alS,<-alS];exact List.Perm.append_right C arH)
def Ai (L0:Loop)(a df:Nat):List Ent:=[.obj a (lp L0 .ready aw),.obj df (.deferred (ax []))]
end Eng
end
section
open Eng Go.RowKit Go.ChangeShapes Go.WideShapes
inductive Ob where
|mk (k n g:Int) (s:List UInt8) (keys:List (List UInt8)) (kids:List Ob)
namespace Ob
def k:Ob->Int|.mk k _ _ _ _ _=>k
def n:Ob->Int|.mk _ n _ _ _ _=>n
def g:Ob->Int|.mk _ _ g _ _ _=>g
def s:Ob->List UInt8|.mk _ _ _ s _ _=>s
def keys:Ob->List (List UInt8)|.mk _ _ _ _ keys _=>keys
def kids:Ob->List Ob|.mk _ _ _ _ _ kids=>kids
 mutual
def wt:Ob->Nat
|.mk _ _ _ s keys kids=>6+s.length+Pl.tot keys+wts kids
def wts:List Ob->Nat
|[]=>0
|o::os=>wt o+wts os
end
end Ob
def SlA (A:Nat->Prop)(w:ao)(v:aq)(sz n:Nat)(cs:List aq):Prop:=Sl w v sz n cs∧(∀p l c,v=.slice (ax p) l c->0 < n->A p.block)∧∀a l c,v=.slice a l c->l<=c
 mutual
def OV (A:Nat->Prop)(w:ao):aq->Ob->Prop
|v,.mk k n g s keys kids=>∃vk vc cs,v=.agg #[.int .i64 k,.int .i64 n,.int .i64 g,.string ⟨s.toArray⟩,vk,vc]∧SlA A w vk 1 keys.length (bZ keys)∧SlA A w vc 6 kids.length cs∧OVs A w cs kids
def OVs (A:Nat->Prop)(w:ao):List aq->List Ob->Prop
|cs,[]=>cs=[]
|cs,o::os=>∃(a rest:List aq),cs=a++rest∧a.length=6∧OV A w (.agg a.toArray) o∧OVs A w rest os
end
def Kept (A:Nat->Prop)(w w':ao):Prop:=∀b,A b->w'.heap[b]?=w.heap[b]?
theorem SL (h:Kept A w w'){p:Addr}(hp:A p.block)(a:w.cell? p=ax v):w'.cell? p=ax v:=by
 have:=h p.block hp;unfold World.cell? at a ⊢;rw[this];exact a
theorem SlA.kept {n:Nat}(h:SlA A w v sz n cs)(e:Kept A w w'):SlA A w' v sz n cs:=by
 obtain⟨⟨b,a,cap,rfl,f,g⟩,c,hC⟩:=h;refine⟨⟨b,a,cap,rfl,f,λp hp=>?_⟩,c,hC⟩;obtain⟨i,k⟩:=g p hp;refine⟨i,λj u d=>?_⟩;have l:0 < n:=by
  rcases anU n with h|h
  ·subst h;rw[aoO] at b;have:=(alY.1 d).1;omega
  ·exact h
 exact SL e (c p n cap (by rw[hp]) l) (k j u d)
 mutual
theorem OV.kept {A:Nat->Prop}{w w':ao}(a:Kept A w w'):∀(o:Ob) (v:aq),OV A w v o->OV A w' v o
|.mk k n g s keys kids,v,h=>by
  rw[OV] at h ⊢;obtain⟨vk,vc,cs,b,c,d,e⟩:=h;exact⟨vk,vc,cs,b,c.kept a,d.kept a,OVs.kept a kids cs e⟩
theorem OVs.kept {A:Nat->Prop}{w w':ao}(b:Kept A w w'):∀(os:List Ob) (cs:List aq),OVs A w cs os->OVs A w' cs os
|[],cs,h=>by rw[OVs] at h ⊢;exact h
|o::os,cs,h=>by
  rw[OVs] at h ⊢;obtain⟨a,rest,he,c,d,e⟩:=h;exact⟨a,rest,he,c,OV.kept b o _ d,OVs.kept b os rest e⟩
end
 mutual
theorem OV.mono {A B:Nat->Prop}{w:ao}(a:∀b,A b->B b):∀(o:Ob) (v:aq),OV A w v o->OV B w v o
|.mk k n g s keys kids,v,h=>by
  rw[OV] at h ⊢;obtain⟨vk,vc,cs,j,d,f,m⟩:=h;exact⟨vk,vc,cs,j,⟨d.1,λp l c e i=>a _ (d.2.1 p l c e i),d.2.2⟩,⟨f.1,λp l c e i=>a _ (f.2.1 p l c e i),f.2.2⟩,OVs.mono a kids cs m⟩
theorem OVs.mono {A B:Nat->Prop}{w:ao}(c:∀b,A b->B b):∀(os:List Ob) (cs:List aq),OVs A w cs os->OVs B w cs os
|[],cs,h=>by rw[OVs] at h ⊢;exact h
|o::os,cs,h=>by
  rw[OVs] at h ⊢;obtain⟨a,rest,he,d,e,f⟩:=h;exact⟨a,rest,he,d,OV.mono c o _ e,OVs.mono c os rest f⟩
end
theorem OVs.get {A:Nat->Prop}{w:ao}:∀(os:List Ob) (cs:List aq) (i:Nat) (hi:i < os.length),OVs A w cs os->∃a:List aq,a.length=6∧OV A w (.agg a.toArray) os[i]∧∀j v,a[j]?=ax v->cs[i*6+j]?=ax v
|[],cs,i,hi,h=>by simp at hi
|o::os,cs,0,hi,h=>by
  rw[OVs] at h;obtain⟨a,rest,rfl,d,e,f⟩:=h;refine⟨a,d,e,λj v c=>?_⟩;rw[aoO,alU,anV (alY.1 c).1];exact c
|o::os,cs,i+1,hi,h=>by
  rw[OVs] at h;obtain⟨a,rest,rfl,d,e,f⟩:=h;obtain⟨b,g,k,l⟩:=OVs.get os rest i (by simpa using hi) f;refine⟨b,g,k,λj v c=>?_⟩;rw[aoB om,d,show (i+1)*6+j - 6=i*6+j by omega];exact l j v c
theorem OVs.nil :OVs A w [] []:=by rw[OVs]
theorem SlA.W9 {a:Addr}{len:Nat}(g:0 < sz)(i:cs.length=len*sz)(m:∀j u,cs[j]?=ax u->W.cell? (a.add j)=ax u)(o:∀b,b < W.heap.size->A b)(q:len<=cap):SlA A W (.slice (ax a) len cap) sz len cs:=by
 have plain:0 < len->a.spot=aw∧a.block < W.heap.size:=by
  intro f;have r:0 < cs.length:=by rw[i];exact Nat.mul_pos f g
  have d:=m 0 cs[0] (alT r);have s:a.add 0=a:=by simp[Addr.add]
  rw[s] at d;unfold World.cell? at d;split at d
  ·rename_i t
   have k:=dV t;split at d
   ·cases d
   ·rename_i v;exact⟨by simpa using v,k⟩
  ·cases d
 refine⟨⟨i,ax a,cap,rfl,(λh=>by cases h),λp hp=>?_⟩,λp l c e f=>?_,λa' l c e=>by injection e with _ w x;omega⟩
 ·cases hp;refine⟨λh=>(plain h).1,λj u n=>?_⟩;have f:0 < len:=by
   rcases anU len with h|h
   ·subst h;rw[aoO] at i;have:=(alY.1 n).1;omega
   ·exact h
  have d:=m j u n;obtain⟨b,off,spot⟩:=a;have:=(plain f).1;simp only at this;subst this;rw[show (⟨b,off,aw⟩:Addr).add j=⟨b,off+j,aw⟩ from cK b off j] at d;exact d
 ·injection e with e _ _
  cases e;exact o _ (plain f).2
theorem SlA.nil (A:Nat->Prop)(w:ao)(sz cap:Nat):SlA A w (.slice aw 0 cap) sz 0 []:=⟨Sl.nil w sz cap,(λp l c e _=>by injection e with e _ _;cases e),λa l c e=>by injection e with _ b d;omega⟩
end
section
open Go
namespace Vl
def used (k:Int):Option (Bool×Bool×Bool×Bool×Bool):=
 if k=0 then ax (au,au,au,au,au)
 else if k=1∨k=2∨k=3 then ax (av,au,au,au,au)
 else if k=4∨k=5 then ax (au,au,av,au,au)
 else if k=6 then ax (au,au,au,au,av)
 else if k=7 then ax (au,au,au,av,av)
 else if k=8 then ax (av,av,au,au,au)
 else if k=9 then ax (au,au,av,av,av)
 else aw
def pN (o:Ob):Bool:=
 match used o.k with
|none=>au
|some (n,g,s,a,cs)=>(n||decide (o.n=0))&&(g||decide (o.g=0))&&(s||decide (o.s=[]))&&(a||decide (o.keys=[]))&&(cs||decide (o.kids.length=0))
def fits (o:Ob):Bool:=
 if o.k=1 then ai (0<=o.n∧o.n<=1)
 else if o.k=2 then ai (-2147483647<=o.n∧o.n<=2147483647)
 else if o.k=3 then ai (-1073741824<=o.n∧o.n<=1073741824)
 else if o.k=8 then ai (1<=o.n∧o.n<=8191)&&ai (0<=o.g∧o.g<=65535)
 else av
def long (k:Int):Nat:=if k=5 then 127 else if k=9 then 1048576 else 32767
def name (s:List UInt8):Bool:=ai (s.length<=127)&&ai ((0:UInt8) ∉ s)
def lenK:List UInt8:=[76,101,110,103,116,104]
abbrev less (a b:List UInt8):Bool:=Op.bytesLess a b
def GC (o:Ob)(i:Nat):Bool:=
 name (o.keys.getD i [])&&(ai (i=0)||less (o.keys.getD (i - 1) []) (o.keys.getD i []))&&!(ai (o.k=9)&&ai (o.keys.getD i []=lenK))&&ai ((o.kids.getD i (.mk 0 0 0 [] [] [])).k≠0)
def rising (o:Ob):Bool:=ai (o.keys.length=o.kids.length)&&(List.range o.keys.length).all (GC o)
def form (o:Ob):Bool:=(!(ai (o.k=5))||name o.s)&&(!(ai (o.k=7∨o.k=9))||rising o)
def why (d:Nat)(o:Ob):Int:=
 if 24 < d then 7
 else if pN o=au∨(o.k=9∧1 < d) then 10
 else if fits o=au then 2
 else if long o.k < o.s.length then 5
 else if 8191 < o.kids.length then 6
 else if form o=au then 3
 else 0
 mutual
def check (d:Nat):Ob->Int
|.mk k n g s keys kids=>if why d (.mk k n g s keys kids)≠0 then why d (.mk k n g s keys kids) else rK (d+1) kids
def rK (d:Nat):List Ob->Int
|[]=>0
|o::os=>if check d o≠0 then check d o else rK d os
end
theorem F3 (d:Nat)(o:Ob):check d o=if why d o≠0 then why d o else rK (d+1) o.kids:=by cases o;rw[check];rfl
end Vl
end
section
open Go
namespace Vl
theorem JU (a b:List UInt8):less a b=av↔a < b:=by rw[less,bytesLess_eq,amU]
theorem nQ {a b c:List UInt8}(h:less a b=av)(k:less b c=av):less a c=true:=by
 rw[JU] at *;exact List.lt_trans h k
theorem tP (a:List UInt8):less a a=false:=by
 cases h:less a a with
|false=>rfl
|true=>rw[JU] at h;exact absurd h (List.lt_irrefl _)
theorem RO {a b:List UInt8}(h:less a b=au)(d:a≠b):less b a=true:=by
 have e:¬a < b:=by rw[<-JU,h];simp
 rw[JU];rcases Classical.em (b < a) with c|c
 ·exact c
 ·exact absurd (List.le_antisymm (List.not_lt.1 c) (List.not_lt.1 e)) d
def Rise (l:List (List UInt8)):Prop:=l.Pairwise λa b=>less a b=av
def place (l:List (List UInt8))(x:List UInt8):Nat:=(l.takeWhile λk=>less k x).length
def hit (l:List (List UInt8))(x:List UInt8):Bool:=ai (l[place l x]?=ax x)
theorem EP {α:Type}{p:α->Bool}:∀(l:List α) (i:Nat),i<=l.length->(∀m (h:m < l.length),m < i->p l[m]=av)->(∀h:i < l.length,p l[i]=au)->(l.takeWhile p).length=i
|[],i,hi,_,_=>by simp at hi;simp[hi]
|a::l,0,_,_,h=>by
  have:=h sm;rw[asL] at this;simp[asC,this]
|a::l,i+1,hi,b,d=>by
  have c:=b 0 sm om;rw[asL] at c;rw[asC,c];simp only[if_true,amC];rw[EP l i (by simpa using hi) (λm hm e=>by
   have:=b (m+1) (by simpa using hm) om
   rwa [asM] at this) (λh=>by
   have:=d (by simpa using h)
   rwa [asM] at this)]
theorem zK (l:List (List UInt8))(x:List UInt8):place l x<=l.length:=(List.takeWhile_prefix _).length_le
theorem PS {l:List (List UInt8)}{x:List UInt8}(hi:i<=l.length)(a:∀m (h:m < l.length),m < i->less l[m] x=av)(b:∀h:i < l.length,less l[i] x=au):place l x=i:=EP l i hi a b
theorem PR {l:List (List UInt8)}{x:List UInt8}(h:m < place l x):less (l[m]'(aoN h (zK l x))) x=true:=by
 unfold place at h;have hm:=List.all_takeWhile (l:=l) (p:=λk=>less k x);have b:(l.takeWhile λk=>less k x)[m]∈l.takeWhile λk=>less k x:=alX h;have a:=aoF.1 hm _ b;have c:(l.takeWhile λk=>less k x)[m]=l[m]'(aoN h (zK l x)):=by
  have hp:(l.takeWhile λk=>less k x) <+: l:=List.takeWhile_prefix _;exact hp.getElem h
 rw[c] at a;exact a
theorem WV {l:List (List UInt8)}{x:List UInt8}(h:place l x < l.length):less l[place l x] x=false:=by
 unfold place at h ⊢
 induction l with
|nil=>simp at h
|cons a l c=>
  cases b:less a x with
 |false=>simp only[asC,b];simpa using b
 |true=>
   simp only[asC,b,if_true,amC] at h ⊢;rw[asM];exact c (by simpa using h)
theorem pS {l:List (List UInt8)}(h:Rise l)(a:i < j)(b:j < l.length):less (l[i]'(om)) l[j]=true:=apZ.1 h i j om b a
def ob0:Ob:=.mk 0 0 0 [] [] []
def keyed (o:Ob):Bool:=ai (o.k=7)||decide (o.k=9)
def get (o:Ob)(key:List UInt8):Option Ob:=if keyed o then (if o.keys.idxOf key < o.keys.length then o.kids[o.keys.idxOf key]? else aw) else aw
def put (o:Ob)(key:List UInt8)(v:Ob):Ob:=
 .mk o.k o.n o.g o.s (o.keys.take (place o.keys key)++key::o.keys.drop (place o.keys key+if hit o.keys key then 1 else 0)) (o.kids.take (place o.keys key)++v::o.kids.drop (place o.keys key+if hit o.keys key then 1 else 0))
def eM (key:List UInt8):List (List UInt8)->List Ob->List (List UInt8)×List Ob
|k::a,c::cs=>if k=key then eM key a cs else (k::(eM key a cs).1,c::(eM key a cs).2)
|_,_=>([],[])
def aQ (o:Ob)(key:List UInt8):Ob:=.mk o.k o.n o.g o.s (eM key o.keys o.kids).1 (eM key o.keys o.kids).2
def right (o:Ob):Ob×Int:=if check 1 o≠0 then (ob0,check 1 o) else (o,0)
def set (o:Ob)(key:List UInt8)(v:Ob):Ob×Int:=
 if keyed o=au then (ob0,10) else if check 1 o≠0 then (ob0,check 1 o) else if v.k=0 then (aQ o key,0) else right (put o key v)
theorem lE {o:Ob}(h:check d o=0)(g:keyed o=av):Rise o.keys∧o.keys.length=o.kids.length:=by
 rw[F3] at h;split at h
 ·rename_i hw;exact absurd h hw
 ·rename_i hw
  have hw:=aoP.1 hw;unfold why at hw;split at hw
  ·cases hw
  split at hw
  ·cases hw
  split at hw
  ·cases hw
  split at hw
  ·cases hw
  split at hw
  ·cases hw
  split at hw
  ·cases hw
  rename_i a
  have a:form o=true:=by simpa using a
  have e:o.k=7∨o.k=9:=by
   unfold keyed at g;simpa using g
  have b:rising o=true:=by
   unfold form at a;simp only[amB] at a;have:=a.2;rw[alM e] at this;simpa using this
  unfold rising at b;simp only[amB,amU] at b;refine⟨?_,b.1⟩;have step:∀i,i+1 < o.keys.length->less (o.keys.getD i []) (o.keys.getD (i+1) [])=true:=by
   intro i hi;have:=aoF.1 b.2 (i+1) (anJ.2 hi);unfold GC at this;simp only[amB,apC] at this;have:=this.1.1.2;rcases this with f|f
   ·have:=alZ f;omega
   ·simpa using f
  have gd:∀i (h:i < o.keys.length),o.keys.getD i []=o.keys[i]:=λi h=>by rw[alO,alT h];rfl
  refine apZ.2 λi j hi c m=>?_;have:∀d,∀j (c:j < o.keys.length),j=i+1+d->less o.keys[i] o.keys[j]=true:=by
   intro d
   induction d with
  |zero=>
    intro j c he;have:=step i om;rw[gd i hi,gd (i+1) om] at this;subst he;exact this
  |succ d n=>
    intro j c he;have p:=n (i+1+d) om rfl;have l:=step (i+1+d) om;rw[gd _ om,gd _ om] at l;subst he;exact nQ p l
  exact this (j - (i+1)) j c om
theorem Eg {key:List UInt8}:∀{a:List (List UInt8)} {cs:List Ob},a.length=cs.length->key ∉ a->eM key a cs=(a,cs)
|[],[],_,_=>rfl
|k::a,c::cs,b,d=>by
  rw[eM,alG (λe=>d (by simp[e])),Eg (by simpa using b) (λh=>d (by simp[h]))]
|[],_::_,b,_=>by simp at b
|_::_,[],b,_=>by simp at b
theorem Qi {key:List UInt8}:∀{a:List (List UInt8)} {cs:List Ob} {i:Nat},a.length=cs.length->a[i]?=ax key->(∀m (h:m < a.length),m≠i->a[m]≠key)->eM key a cs=(a.take i++a.drop (i+1),cs.take i++cs.drop (i+1))
|[],[],_,_,h,_=>by simp at h
|k::a,c::cs,0,b,h,d=>by
  simp only[aqR,apK] at h;rw[eM,alH h,Eg (by simpa using b)]
  ·simp
  ·intro hm;obtain⟨m,e,rfl⟩:=aoX hm;exact d (m+1) (by simpa using e) om sm
|k::a,c::cs,i+1,b,h,d=>by
  have f:=d 0 sm om;rw[asL] at f;rw[eM,alG f,Qi (i:=i) (by simpa using b) (by simpa using h) (λm hm g=>by
   have:=d (m+1) (by simpa using hm) om
   rwa [asM] at this)]
  simp
|[],_::_,_,b,_,_=>by simp at b
|_::_,[],_,b,_,_=>by simp at b
theorem Zf {l:List (List UInt8)}(h:Rise l)(hi:i < l.length)(b:j < l.length)(c:i≠j):l[i]≠l[j]:=by
 intro e;rcases amL i j with a|a
 ·have:=pS h a b;rw[e,tP] at this;cases this
 ·have:=pS h (show j < i by omega) hi;rw[e,tP] at this;cases this
theorem ZD {l:List (List UInt8)}(h:Rise l){x:List UInt8}(b:hit l x=au):x ∉ l:=by
 intro hm;obtain⟨m,a,rfl⟩:=aoX hm;have hp:place l l[m]=m:=PS om (λj d c=>pS h c a) (λ_=>tP _);unfold hit at b;rw[hp,alT a] at b;simp at b
theorem Rk {o:Ob}(h:check d o=0)(i:keyed o=av)(key:List UInt8):aQ o key=if hit o.keys key then .mk o.k o.n o.g o.s (o.keys.take (place o.keys key)++o.keys.drop (place o.keys key+1)) (o.kids.take (place o.keys key)++o.kids.drop (place o.keys key+1)) else o:=by
 obtain⟨c,e⟩:=lE h i;cases f:hit o.keys key with
|true=>
  have hi:o.keys[place o.keys key]?=ax key:=alZ f;have a:place o.keys key < o.keys.length:=(alY.1 hi).1;have j:o.keys[place o.keys key]=key:=(alY.1 hi).2;unfold aQ;rw[Qi e hi (λm hm b=>by rw[<-j];exact Zf c hm a b)];rfl
|false=>
  unfold aQ;rw[Eg e (ZD c f)];cases o;rfl
end Vl
end
section
open Go
namespace Vl
theorem MI (l:List (List UInt8))(i:Nat):Pl.tot (l.take i)+Pl.tot (l.drop i)=Pl.tot l:=by
 rw[<-Pl.IV,amX]
theorem NY:∀a b:List Ob,Ob.wts (a++b)=Ob.wts a+Ob.wts b
|[],b=>by rw[amZ,Ob.wts];omega
|o::a,b=>by rw[apE,Ob.wts,Ob.wts,NY a b];omega
theorem Hy (l:List Ob)(i:Nat):Ob.wts (l.take i)+Ob.wts (l.drop i)=Ob.wts l:=by
 rw[<-NY,amX]
theorem Wl (l:List (List UInt8))(i j:Nat)(h:i<=j):Pl.tot (l.drop j)<=Pl.tot (l.drop i):=by
 have:=MI (l.drop i) (j - i);rw[apN,show i+(j - i)=j by omega] at this;omega
theorem VE (l:List Ob)(i j:Nat)(h:i<=j):Ob.wts (l.drop j)<=Ob.wts (l.drop i):=by
 have:=Hy (l.drop i) (j - i);rw[apN,show i+(j - i)=j by omega] at this;omega
theorem lC (o:Ob):o.wt=6+o.s.length+Pl.tot o.keys+Ob.wts o.kids:=by cases o;rw[Ob.wt];rfl
theorem UO (o:Ob)(key:List UInt8)(v:Ob):(put o key v).wt<=o.wt+(key.length+1)+v.wt:=by
 rw[lC (put o key v),lC o];rw[show (put o key v).s=o.s from rfl,show (put o key v).keys=o.keys.take (place o.keys key)++key::o.keys.drop (place o.keys key+if hit o.keys key then 1 else 0) from rfl,
  show (put o key v).kids=o.kids.take (place o.keys key)++v::o.kids.drop (place o.keys key+if hit o.keys key then 1 else 0) from rfl]
 rw[Pl.IV,NY];have b:=MI o.keys (place o.keys key);have c:=Wl o.keys (place o.keys key) (place o.keys key+if hit o.keys key then 1 else 0) om;have d:=Hy o.kids (place o.keys key);have e:=VE o.kids (place o.keys key) (place o.keys key+if hit o.keys key then 1 else 0) om;have a:∀l,Pl.tot (key::l)=key.length+1+Pl.tot l:=λl=>by simp[Pl.tot]
 rw[a,Ob.wts];omega
theorem ON (key:List UInt8):∀(b:List (List UInt8)) (cs:List Ob),Pl.tot (eM key b cs).1<=Pl.tot b∧Ob.wts (eM key b cs).2<=Ob.wts cs
|[],cs=>by simp[eM,Pl.tot,Ob.wts]
|k::b,[]=>by simp[eM,Pl.tot,Ob.wts]
|k::b,c::cs=>by
  have d:∀a l,Pl.tot (a::l)=a.length+1+Pl.tot l:=λa l=>by simp[Pl.tot]
  obtain⟨e,f⟩:=ON key b cs;rw[eM];split
  ·rw[d,Ob.wts];exact⟨om,om⟩
  ·rw[d,d,Ob.wts,Ob.wts];exact⟨om,om⟩
theorem jA (o:Ob)(key:List UInt8):(aQ o key).wt<=o.wt:=by
 rw[lC (aQ o key),lC o];have:=ON key o.keys o.kids;rw[show (aQ o key).s=o.s from rfl,show (aQ o key).keys=(eM key o.keys o.kids).1 from rfl,show (aQ o key).kids=(eM key o.keys o.kids).2 from rfl];omega
theorem WZ (o:Ob):(right o).1.wt<=o.wt:=by
 unfold right;split
 ·show ob0.wt<=_;rw[lC ob0,lC o];show 6+0+Pl.tot []+Ob.wts []<=_;simp[Pl.tot,Ob.wts];omega
 ·exact alP _
theorem Yw {o:Ob}:((get o key).getD ob0).wt<=o.wt:=by
 have a:ob0.wt<=o.wt:=by
  rw[lC ob0,lC o];show 6+0+Pl.tot []+Ob.wts []<=_;simp[Pl.tot,Ob.wts];omega
 unfold get;split
 ·split
  ·rcases b:o.kids[o.keys.idxOf key]? with _|x
   ·exact a
   ·obtain⟨hi,rfl⟩:=alY.1 b;have c:=Hy o.kids (o.keys.idxOf key);rw[anB hi,Ob.wts] at c;rw[lC o];simp only[apA];omega
  ·exact a
 ·exact a
theorem Mb (o:Ob)(key:List UInt8)(v:Ob):(set o key v).1.wt<=o.wt+(key.length+1)+v.wt:=by
 have a:ob0.wt<=o.wt:=by
  rw[lC ob0,lC o];show 6+0+Pl.tot []+Ob.wts []<=_;simp[Pl.tot,Ob.wts];omega
 unfold set;split
 ·simp only;omega
 split
 ·simp only;omega
 split
 ·have:=jA o key;simp only;omega
 ·exact aoM (WZ _) (UO o key v)
end Vl
end
section
open Go
namespace Vl
def tT:List Ob->Bool
|k::_::r=>ai (k.k=5)&&tT r
|[k]=>ai (k.k=5)
|[]=>av
def NF (met:List (List UInt8))(o:Ob):List Ob->Ob×Int
|k::v::r=>if k.s∈met then (ob0,9) else NF (met++[k.s]) (if v.k≠0 then put o k.s v else o) r
|_=>right o
def dict (ps:List Ob):Ob×Int:=if ps.length % 2≠0 then (ob0,1) else if tT ps=au then (ob0,1) else NF [] (.mk 7 0 0 [] [] []) ps
theorem Ku {o:Ob}{v:Ob}(h:Rise o.keys)(u:o.keys.length=o.kids.length):Rise (put o key v).keys∧(put o key v).keys.length=(put o key v).kids.length:=by
 have hp:=zK o.keys key;refine⟨?_,?_⟩
 ·show Rise (o.keys.take (place o.keys key)++key::o.keys.drop (place o.keys key+if hit o.keys key then 1 else 0));have f:∀x∈o.keys.take (place o.keys key),less x key=true:=by
   intro x c;obtain⟨m,hm,rfl⟩:=aoX c;rw[alR] at hm;rw[arI];exact PR om
  have g:∀x∈o.keys.drop (place o.keys key+if hit o.keys key then 1 else 0),less key x=true:=by
   intro x c;cases d:hit o.keys key with
  |true=>
    rw[d] at c;obtain⟨m,hm,rfl⟩:=aoX c;simp only[if_true,alW] at hm;have hi:o.keys[place o.keys key]?=ax key:=alZ d;have t:o.keys[place o.keys key]=key:=(alY.1 hi).2;have:=pS h (i:=place o.keys key) (j:=place o.keys key+1+m) om om;rw[t] at this;simpa using this
  |false=>
    rw[d] at c;obtain⟨m,hm,rfl⟩:=aoX c;simp only[apT,if_false,alW] at hm;have k:place o.keys key < o.keys.length:=om
    have l:=WV k;have n:o.keys[place o.keys key]≠key:=by
     intro e;unfold hit at d;rw[alT k,e] at d;simp at d
    have q:=RO l n;rcases anU m with r|r
    ·subst r;simpa using q
    ·have:=pS h (i:=place o.keys key) (j:=place o.keys key+m) om om;simpa using nQ q this
  refine apM.2 ⟨h.sublist (asN _ _),aoG.2 ⟨g,h.sublist (List.drop_sublist _ _)⟩,λa s b p=>?_⟩;rcases alN.1 p with rfl|p
  ·exact f a s
  ·exact nQ (f a s) (g b p)
 ·show (o.keys.take (place o.keys key)++key::o.keys.drop (place o.keys key+if hit o.keys key then 1 else 0)).length=(o.kids.take (place o.keys key)++v::o.kids.drop (place o.keys key+if hit o.keys key then 1 else 0)).length;simp only[alI,alR,amC,alW];omega
theorem Lr {ps:List Ob}(h:i+1 < ps.length):tT (ps.drop i)=(ai ((ps[i]'(om)).k=5)&&tT (ps.drop (i+2))):=by
 rw[anB (show i < ps.length by omega),anB h,tT]
theorem Q8 {ps:List Ob}{met:List (List UInt8)}{o:Ob}(h:i+1 < ps.length):NF met o (ps.drop i)=if (ps[i]'(om)).s∈met then (ob0,9) else NF (met++[(ps[i]'(om)).s]) (if ps[i+1].k≠0 then put o (ps[i]'(om)).s ps[i+1] else o) (ps.drop (i+2)):=by
 rw[anB (show i < ps.length by omega),anB h,NF]
theorem Wf {ps:List Ob}(h:i+1 < ps.length):Ob.wts (ps.drop i)=(ps[i]'(om)).wt+ps[i+1].wt+Ob.wts (ps.drop (i+2)):=by
 rw[anB (show i < ps.length by omega),anB h,Ob.wts,Ob.wts,show i+1+1=i+2 from rfl];omega
end Vl
end
section
open Go
namespace Lx
open Oc
def eol (c:UInt8):Bool:=ai (c=13)||decide (c=10)
def V1:Bool->List UInt8->Nat
|_,[]=>0
|true,c::t=>1+V1 (!eol c) t
|false,c::t=>if c=37 then 1+V1 av t else if HL c then 1+V1 au t else 0
def skip (s:List UInt8)(k:Nat):Nat:=k+V1 au (s.drop k)
def Zi:List UInt8->Nat
|[]=>0
|c::t=>if c=10 then 1 else if c=13 then (if t.head?=ax 10 then 2 else 1) else 1+Zi t
def digit (c:UInt8):Int:=
 if 48<=c.toNat∧c.toNat<=57 then (c.toNat:Int) - 48
 else if 65<=c.toNat∧c.toNat<=70 then (c.toNat:Int) - 65+10
 else if 97<=c.toNat∧c.toNat<=102 then (c.toNat:Int) - 97+10
 else -1
def byte (a b:Int):UInt8:=UInt8.ofNat (16*a+b).toNat
end Lx
end
section
open Go
namespace Lx
open Oc
structure Tok where
 k:Int
 a:Int
 t:Int
 n:Int
 s:List UInt8
 deriving DecidableEq
def none_:Tok:=⟨0,0,0,0,[]⟩
def refused (e:Int):Tok×Int:=(none_,e)
def told (k a t:Int)(x:List UInt8)(most:Int):Tok×Int:=if most < (x.length:Int) then refused 5 else (⟨k,a,t,0,x⟩,0)
def runF:List UInt8->Nat
|[]=>0
|c::t=>if regular c then 1+runF t else 0
def run (s:List UInt8)(i:Nat):Nat:=i+runF (s.drop i)
def cut (s:List UInt8)(i j:Nat):List UInt8:=(s.drop i).take (j - i)
def aaI:List UInt8->Option (List UInt8)
|[]=>ax []
|c::t=>
  if c=35 then match t with
  |a::b::t=>if digit a < 0∨digit b < 0∨16*digit a+digit b=0 then aw else (aaI t).map (byte (digit a) (digit b)::·)
  |_=>aw
  else (aaI t).map (c::·)
def name (s:List UInt8)(at_:Nat):Tok×Int:=
 match aaI (cut s (at_+1) (run s (at_+1))) with
|none=>refused 3
|some x=>told 4 at_ (run s (at_+1)) x 127
def oct (c:UInt8):Bool:=ai (48<=c.toNat)&&ai (c.toNat<=55)
def octF:Nat->Nat->List UInt8->Nat×Nat
|0,n,_=>(n,0)
|_+1,n,[]=>(n,0)
|m+1,n,c::t=>if oct c then ((octF m (8*n+(c.toNat - 48)) t).1,(octF m (8*n+(c.toNat - 48)) t).2+1) else (n,0)
def escL (c:UInt8):Option UInt8:=if c=110 then ax 10 else if c=114 then ax 13 else if c=116 then ax 9 else if c=98 then ax 8 else if c=102 then ax 12 else aw
def escF:List UInt8->List UInt8×Nat
|[]=>([],0)
|c::t=>match escL c with
 |some b=>([b],1)
 |none=>if eol c then ([],Zi (c::t)) else if 0 < (octF 3 0 (c::t)).2 then ([UInt8.ofNat (octF 3 0 (c::t)).1],(octF 3 0 (c::t)).2) else ([c],1)
def Nv:Nat->Nat->List UInt8->Option (List UInt8×Nat)
|_,_,[]=>aw
|k+1,o,_::t=>(Nv k o t).map λr=>(r.1,r.2+1)
|0,o,c::t=>
  if eol c then (Nv (Zi (c::t) - 1) o t).map λr=>(10::r.1,r.2+1)
  else if c=92 then if t=[] then aw else (Nv (escF t).2 o t).map λr=>((escF t).1++r.1,r.2+1)
  else if c=40 then (Nv 0 (o+1) t).map λr=>(c::r.1,r.2+1)
  else if c=41 then if o<=1 then ax ([],1) else (Nv 0 (o - 1) t).map λr=>(c::r.1,r.2+1)
  else (Nv 0 o t).map λr=>(c::r.1,r.2+1)
def text (s:List UInt8)(at_:Nat):Tok×Int:=
 match Nv 0 1 (s.drop (at_+1)) with
|none=>refused 4
|some r=>told 3 at_ (at_+1+r.2:Nat) r.1 32767
def hexF:Int->List UInt8->(List UInt8×Nat) ⊕ Int
|_,[]=>.inr 4
|h,c::t=>
  if c=62 then .inl (if 0<=h then [byte h 0] else [],1)
  else if HL c then match hexF h t with|.inl r=>.inl (r.1,r.2+1)|.inr e=>.inr e
  else if digit c < 0 then .inr 3
  else if h < 0 then match hexF (digit c) t with|.inl r=>.inl (r.1,r.2+1)|.inr e=>.inr e
  else match hexF (-1) t with|.inl r=>.inl (byte h (digit c)::r.1,r.2+1)|.inr e=>.inr e
def hex (s:List UInt8)(at_:Nat):Tok×Int:=
 match hexF (-1) (s.drop (at_+1)) with
|.inr e=>refused e
|.inl r=>told 3 at_ (at_+1+r.2:Nat) r.1 32767
def sgn (c:UInt8):Bool:=ai (c=43)||decide (c=45)
def dig (c:UInt8):Bool:=ai (48<=c.toNat)&&ai (c.toNat<=57)
def Mj:List UInt8->List UInt8
|[]=>[]
|c::t=>if sgn c then t else c::t
def Zr (t:List UInt8):Bool:=!(Mj t).isEmpty&&(Mj t).all dig
def val (n:Nat)(l:List UInt8):Nat:=l.foldl (λn c=>10*n+(c.toNat - 48)) n
def whole (t:List UInt8):Int×Int:=
 if 2147483647 < val 0 (Mj t) then (0,2) else (if t.head?=ax 45 then -(val 0 (Mj t):Int) else (val 0 (Mj t):Int),0)
def aiI (t:List UInt8)(a b:Int):Tok×Int:=
 if Zr t then (if (whole t).2≠0 then refused (whole t).2 else (⟨1,a,b,(whole t).1,[]⟩,0))
 else if t.contains 46∧(Fx.read t).2=0 then (⟨2,a,b,(Fx.read t).1,[]⟩,0)
 else if t.contains 46∧(Fx.read t).2=2 then refused 2
 else told 5 a b t 127
def word (s:List UInt8)(at_:Nat):Tok×Int:=aiI (cut s at_ (run s at_)) at_ (run s at_)
def mark (s:List UInt8)(at_ n:Nat):Tok×Int:=(⟨6,at_,(at_+n:Nat),0,cut s at_ (at_+n)⟩,0)
def token (s:List UInt8)(a:Nat):Tok×Int:=
 match s.drop a with
|[]=>(⟨0,a,a,0,[]⟩,0)
|c::t=>
  if c=91∨c=93∨c=123∨c=125 then mark s a 1
  else if c=60 then (if t.head?=ax c then mark s a 2 else hex s a)
  else if c=62 then (if t.head?=ax c then mark s a 2 else refused 3)
  else if c=47 then name s a
  else if c=40 then text s a
  else if c=41 then refused 3
  else word s a
def next (s:List UInt8)(at_:Int):Tok×Int:=if at_ < 0∨(s.length:Int) < at_ then refused 1 else token s (skip s at_.toNat)
end Lx
end
end Go.Proofs.YtlipjfcbjemicaaGreatDoor


namespace Go.Proofs.YtlipjfcbjemicaaGreatDoor
variable{A S:Nat->Prop}{C:ao->Prop}{D U:TypeId}{K K':VWP}{L:List Eng.Ent}{L0:Loop}{P:Program}{PK PK2:PKT}{R:Ending->FrameMode->ao->Prop}{W w w' w0:ao}{a hi lo:Int}{args ca fa:Array aq}{b cap d f i j m sz t:Nat}{cb:Array Bool}{cs cur new news xs:List aq}{e:Eng.Ent}{k':IntKind}{key:List UInt8}{q want y:Bool}{t0 v v' v1 v2 vc vk:aq}{u:FrameMode}{xo yo:Operand}{α β:Type}{σ:Eng.Sg}
section
namespace Eng
open Go.RowKit
def Ent.urow (T:TypeId)(sz:Nat)(v:aq)(n:Nat)(xs:List aq):Ent:=
 ⟨λk=>v.ownBlock=ax k,λw=>w.ownsRow 0 T sz v n xs,λ{w w'} h k=>by
  refine⟨h.1,?_⟩;rcases h.2 with b|⟨g,cap,cur,rfl,c,a,rest⟩
  ·exact .inl b
  ·exact .inr ⟨g,cap,cur,rfl,c,(k g rfl).trans a,rest⟩,λh k d=>(World.ownsRowF.lt (World.ownsRowF_of h) k d).2⟩
section
variable {S:Nat->Prop}{P:Program}{w:ao}{PK:PKT}{K:VWP}
theorem urow_row {T:TypeId}{n:Nat}(h:(Ent.urow T sz v n xs).is w):(Ent.row T sz v n xs).is w:=World.ownsRowF_of h
theorem Sl.urow {T:TypeId}{sz:Nat}{v:aq}{n:Nat}{xs:List aq}(h:(Ent.urow T sz v n xs).is w):Sl w v sz n xs:=Sl.row (urow_row h)
theorem OwnS.slU (a:OwnS S w0 w L)(i:Nat){T:TypeId}{n:Nat}(hi:L[i]?=ax (.urow T sz v n xs)):Sl w v sz n xs:=Sl.urow (a.at_ i hi)
theorem OwnS.nilU (a:OwnS S w0 w L)(E:TypeId)(sz:Nat):OwnS S w0 w (.urow E sz (.slice aw 0 0) 0 []::L):=by
 refine⟨a.grew,λe he=>?_,.cons (λf c k b=>by simp[Ent.urow,Value.ownBlock] at b) a.apart⟩;rcases alN.1 he with rfl|he
 ·exact⟨⟨sm,.inl ⟨rfl,rfl⟩⟩,λk b=>by simp[Ent.urow,Value.ownBlock] at b⟩
 ·exact a.all e he
theorem OwnS.toU {E:TypeId}(a:OwnS S w0 w (.cells b cs E::L))(sz n cap:Nat)(d:cs.length=cap*sz)(g:n<=cap)(i:cap<=9223372036854775807) :
  OwnS S w0 w (.urow E sz (.slice (ax ⟨b,0,aw⟩) n cap) n (cs.take (n*sz))::L):=by
 refine⟨a.grew,λe he=>?_,?_⟩
 ·rcases alN.1 he with rfl|he
  ·refine⟨⟨by rw[alR,d,amQ (anC _ g)],.inr ⟨b,cap,cs.toArray,rfl,amN _,a.at_ 0 rfl,g,by simp only[maxLen];omega,by simpa using d,sm⟩⟩,λk c=>?_⟩;simp only[Ent.urow,Value.ownBlock,apK] at c;exact (a.all (.cells b cs E) sm).2 k c.symm
  ·exact a.all e (by simp[he])
 ·refine .cons (λf h k c=>?_) (aoG.1 a.apart).2;simp only[Ent.urow,Value.ownBlock,apK] at c;exact (aoG.1 a.apart).1 f h k c.symm
theorem wY {T E:TypeId}{cs:Array Bool}{bytes n:Nat}(l:P.underlying T=ax (.slice E))(he:elB P E sz bytes=av)(e:0 < sz)
  (c:w.ownsRow 0 E sz v n xs) (D:Sl w v2 sz m news) (F:∀u∈news,u.oneCell'=av) (G:(n+m)*bytes<=140737488355328) (q:n+m<=140737488355328) :
  ∃v' w',(mB .append #[T,T] U cs #[v,v2]).run P w=.ok (.value v') w'∧Turn (.urow E sz v n xs) (.urow E sz v' (n+m) (xs++news)) w w':=by
 obtain⟨v',w',r,t⟩:=Ie (P:=P) (U:=U) (cs:=cs) l he e (World.ownsRowF_of c) D F G q;refine⟨v',w',r,t.grew,?_,t.new⟩;obtain⟨i,z,hi,I,s,x,y⟩:=jR he;obtain⟨o,a,cap,rfl,J,K⟩:=D;have A:n+m<=maxLen:=by simp only[maxLen];omega
 cases a with
|some p=>
  have L:∀j u,news[j]?=ax u->w.cell? (p.add j)=ax u:=by
   intro j u H;have f:j < news.length:=(alY.1 H).1;have hm:0 < m:=by
    rcases anU m with h|h
    ·subst h;simp at o;rw[o] at f;simp at f
    ·exact h
   obtain⟨B,d⟩:=K p rfl;have:=B hm;obtain⟨b,off,spot⟩:=p;simp only at this d;subst this;rw[cK];exact d j u H
  obtain⟨v2,w2,M,N,O,Q⟩:=run_append_own (P:=P) w 0 T U E i z sz bytes l hi I s x y e v n xs c p m cap news o L F A G (amN _);have:(mB .append #[T,T] U cs #[v,.slice (ax p) m cap]).run P w=.ok (.value v2) w2:=by simp[mB,builtin,M]
  rw[this] at r;cases r;exact N
|none=>
  have h:=J rfl;subst h;have k:news=[]:=aqB (by simpa using o);subst k;have:(mB .append #[T,T] U cs #[v,.slice aw 0 cap]).run P w=.ok (.value v) w:=by
   rcases c.2 with ⟨rfl,rfl⟩|⟨g,R,cur,rfl,_,_,C,_⟩
   ·simp[mB,builtin,Builtin.append_,run_underlying l,sizeOf,typeInfo,hi,Builtin.lenOf,Builtin.firstCells]
   ·simp[mB,builtin,Builtin.append_,run_underlying l,sizeOf,typeInfo,hi,Builtin.lenOf,Builtin.firstCells,C,storeCells]
  rw[this] at r;cases r;rw[amE];exact c
theorem bR (i:Nat){T E:TypeId}{cs:Array Bool}{bytes n:Nat}(d:P.underlying T=ax (.slice E))(he:elB P E sz bytes=av)(a:0 < sz)
  (c:OwnS S w0 w L) (hi:L[i]?=ax (.urow E sz v n xs)) (e:Sl w v2 sz m news) (f:∀u∈news,u.oneCell'=av) (g:(n+m)*bytes<=140737488355328) (b:n+m<=140737488355328)
  (k:∀v' w',OwnS S w0 w' (L.set i (.urow E sz v' (n+m) (xs++news)))->K v' w'):DoX P (mB .append #[T,T] U cs #[v,v2]) w PK K:=by
 obtain⟨v',w',r,t⟩:=wY (cs:=cs) (U:=U) d he a (c.at_ i hi) e f g b;exact rS r (k _ _ (c.turn i hi t))
theorem mO {E:TypeId}{n:Nat}(h:(Ent.urow E sz v n xs).is w)(a:0 < n):∃g cap,v=.slice (ax ⟨g,0,aw⟩) n cap:=by
 rcases (show w.ownsRow 0 E sz v n xs from h).2 with ⟨_,b⟩|⟨g,cap,cur,rfl,_⟩
 ·omega
 ·exact⟨g,cap,rfl⟩
theorem EX {T:TypeId}{g off:Nat}{cur:Array aq}{E:TypeId}{u:aq}(b:u.cells=new.toArray)(c:(P.info? T).map (·.size)=ax new.length)(d:∀x∈new,x.oneCell'=av)
  (e:w.heap[g]?=ax (.cells cur E (0,0))) (f:off+new.length<=cur.size) :
  (Instr.storeAt T (.pointer (ax ⟨g,off,aw⟩)) u).run P w=.ok () (w.setRow g (cur.toList.take off++new++cur.toList.drop (off+new.length)).toArray):=by
 have a:=run_storeCells_at P g off E new 0 cur w e (by simpa using f) d;obtain⟨i,hi,h⟩:=anP.1 c;simp only[anF] at a;simp[Instr.storeAt,Instr.sureAddr,storeVar,b,sizeOf,typeInfo,hi,h,a]
theorem zP (i:Nat){T E:TypeId}{g off n:Nat}{u:aq}(j:OwnS S w0 w L)(hi:L[i]?=ax (.urow E sz (.slice (ax ⟨g,0,aw⟩) n cap) n xs))
  (p:u.cells=new.toArray) (q:(P.info? T).map (·.size)=ax new.length) (r:∀x∈new,x.oneCell'=av) (z:off+new.length<=n*sz)
  (k:∀w',OwnS S w0 w' (L.set i (.urow E sz (.slice (ax ⟨g,0,aw⟩) n cap) n (xs.take off++new++xs.drop (off+new.length))))->K undef w'):DoX P (aN T (.pointer (ax ⟨g,off,aw⟩)) u) w PK K:=by
 have a:w.ownsRow 0 E sz (.slice (ax ⟨g,0,aw⟩) n cap) n xs:=j.at_ i hi;rcases a.2 with ⟨s,_⟩|⟨A,m,cur,he,t,o,c,f,d,b⟩
 ·cases s
 cases he;have hle:n*sz<=cur.size:=by rw[d];exact anC _ c
 refine Bm (HP (EX p q r o om)) (k _ ?_);refine j.put i hi (w':=w.setRow g _) ⟨rfl,rfl,rfl,by simp[World.setRow],λk _ h=>setRow_other w g k _ (λe=>h (by simp[Ent.urow,Value.ownBlock,e]))⟩ _ ?_ (λk h=>.inl h);have v:=a.1;have y:cur.toList.length=cap*sz:=by simpa using d
 refine⟨by simp only[alI,alR,alW];omega,.inr ⟨g,cap,_,rfl,t,setRow_heap w g cur _ E (0,0) o,c,f,?_,?_⟩⟩
 ·simp only[List.size_toArray,alI,alR,alW];omega
 ·subst b;rw[aqC,amQ om];simp only[alS];rw[asD,asD,amP (l:=cur.toList.take off) (by simp;omega),amP (l:=new) (by simp;omega)]
  congr 2
  rw[alR,amQ om,List.drop_take]
  congr 1
  omega
end
end Eng
end
section
open Eng Go.RowKit Go.ChangeShapes Go.WideShapes
theorem Ao {H:Type}:∀(a b:List (DataW H)),Rows.uptoBulkAll (a++b)=Rows.uptoBulkAll a+Rows.uptoBulkAll b
|[],b=>by simp[Rows.uptoBulkAll]
|x::a,b=>by rw[apE,Rows.uptoBulkAll,Ao a b,Rows.uptoBulkAll];omega
theorem OVs.snoc {A:Nat->Prop}{w:ao}{a:List aq}{o:Ob}(c:a.length=6)(d:OV A w (.agg a.toArray) o):∀(os:List Ob) (cs:List aq),OVs A w cs os->OVs A w (cs++a) (os++[o])
|[],cs,h=>by
  rw[OVs] at h;subst h;rw[amZ,amZ,OVs];exact⟨a,[],sm,c,d,OVs.nil⟩
|p::os,cs,h=>by
  rw[OVs] at h;obtain⟨b,rest,rfl,e,f,g⟩:=h;rw[apE,OVs];exact⟨b,rest++a,sm,e,f,OVs.snoc c d os rest g⟩
theorem Vv (a:Addr)(m n:Nat):(a.add m).add n=a.add (m+n):=by
 unfold Addr.add;by_cases hm:m=0
 ·subst hm;simp
 ·by_cases b:n=0
  ·subst b;simp[hm]
  ·have:¬(m+n=0):=om
   simp[hm,b,anX]
section
variable {H:Type}{enc:TypeId×aq->H}{W:ao}{sp:Nat->Bool}{held:Bool}
abbrev InW (W:ao):Nat->Prop:=λb=>b < W.heap.size
end
end
section
namespace Eng
open Go.RowKit
structure Mem where
 A:Nat->Prop
 w:ao
 lt:∀b,A b->b < w.heap.size
def Mem.has (M:Mem)(w:ao):Prop:=∀b,M.A b->w.heap[b]?=M.w.heap[b]?
structure Mem.le (M N:Mem):Prop where
 A:∀b,M.A b->N.A b
 has:M.has N.w
def Mem.all (w:ao):Mem:=⟨λb=>b < w.heap.size,w,λ_ h=>h⟩
theorem Mem.Zt (w:ao):(Mem.all w).has w:=λ_ _=>rfl
theorem Mem.le_refl (M:Mem):M.le M:=⟨λ_ h=>h,λ_ _=>rfl⟩
theorem Mem.le_trans {M N O:Mem}(h:M.le N)(k:N.le O):M.le O:=⟨λb a=>k.A b (h.A b a),λb a=>(k.has b (h.A b a)).trans (h.has b a)⟩
theorem Mem.K4 {M N:Mem}(h:M.le N)(k:N.has w):M.has w:=λb a=>(k b (h.A b a)).trans (h.has b a)
theorem Mem.bd {M:Mem}(h:M.has w)(a:M.A b):b < w.heap.size:=by
 have c:=h b a;rw[Array.getElem?_eq_getElem (M.lt b a)] at c;exact dV c
theorem Mem.L5 {M:Mem}(h:M.has w)(k:Below w.heap.size w w'):M.has w':=λb a=>(k.block b (Mem.bd h a)).trans (h b a)
def Ent.mem (M:Mem):Ent:=⟨M.A,M.has,λh k b a=>(k b a).trans (h b a),λh k c=>Mem.bd h c⟩
structure Gives (M:Mem) (w w':ao) (N:Mem):Prop where
 le:M.le N
 has:N.has w'
 new:∀b,N.A b->M.A b∨w.heap.size<=b
 below:Below w.heap.size w w'
def RetM (P:Program)(f:Nat)(args:Array aq)(M:Mem)(w:ao)(R:aq->Mem->Prop):Prop:=Ret P f args w (λv w'=>∃N,Gives M w w' N∧R v N)
section
variable {S:Nat->Prop}{P:Program}{w w0:ao}{L:List Ent}{PK:PKT}{K:VWP}
theorem OwnS.memS {M:Mem}(h:M.has w):OwnS M.A w w [.mem M]:=OwnS.lend (e:=.mem M) h
theorem OwnS.hasM {M:Mem}(a:OwnS S w0 w L)(i:Nat)(hi:L[i]?=ax (.mem M)):M.has w:=a.at_ i hi
theorem OwnS.ahR {M N:Mem}(a:OwnS S w0 w L)(i:Nat)(hi:L[i]?=ax (.mem M))(g:Gives M w w' N):OwnS S w0 w' (L.set i (.mem N)):=
 a.turn i hi ⟨JC g.below,g.has,g.new⟩
theorem OwnS.JE {c N:Mem}(a:OwnS c.A w w' L)(i:Nat)(hi:L[i]?=ax (.mem N))(hle:c.le N)(e:c.has w):Gives c w w' N:=by
 have hm:=a.all (.mem N) (aoZ hi);refine⟨hle,hm.1,λb f=>hm.2 b f,a.grew.os,a.grew.tape,a.grew.output,a.grew.size,λk g=>?_⟩;by_cases d:c.A k
 ·rw[e k d];have h:w'.heap[k]?=N.w.heap[k]?:=hm.1 k (hle.A k d);rw[h];exact hle.has k d
 ·exact a.grew.block k g d
theorem bB {M:Mem}{R:aq->Mem->Prop}(a:M.has w)
  (h:∀K:Ending->ao->Prop,(∀(v:aq) (w':ao) (N:Mem) (L:List Ent) (i:Nat),OwnS M.A w w' L->L[i]?=ax (.mem N)->M.le N->R v N->K (.returned v) w')->Calls P f args w K):RetM P f args M w R:=
 aZ λK b=>h K λv w' N L i c hi hle d=>b v w' ⟨N,c.JE i hi hle a,d⟩
theorem bH {M:Mem}{R:aq->Mem->Prop}(a:OwnS S w0 w L)(i:Nat)(hi:L[i]?=ax (.mem M))(h:RetM P f args M w R)
  (k:∀v N w',M.le N->R v N->OwnS S w0 w' (L.set i (.mem N))->K v w'):CallX P f args w PK K:=
 Cj h λv w' ⟨N,g,r⟩=>k v N w' g.le r (a.ahR i hi g)
theorem OwnS.freeze {M:Mem}(m:OwnS S w0 w (e::L))(i:Nat)(hi:L[i]?=ax (.mem M)) :
  ∃N:Mem,M.le N∧N.w=w∧(∀b,e.blk b->N.A b)∧OwnS S w0 w (L.set i (.mem N)):=by
 have he:=m.all e sm;have t:M.has w:=m.at_ (i+1) (by simpa using hi);have p:∀b,M.A b∨e.blk b->b < w.heap.size:=λb d=>d.elim (λh=>Mem.bd t h) (λh=>e.lt he.1 b h)
 let N:Mem:=⟨λb=>M.A b∨e.blk b,w,p⟩
 have q:i < L.length:=(alY.1 hi).1;have n:L[i]=.mem M:=(alY.1 hi).2;obtain⟨u,a2⟩:=aoG.1 m.apart;have hp:=apZ.1 a2;have v:∀k,M.A k->(L[i]).blk k:=λk c=>by rw[n];exact c
 refine⟨N,⟨λb d=>.inl d,t⟩,rfl,λb d=>.inr d,m.grew,?_,?_⟩
 ·intro f y;obtain⟨j,x,rfl⟩:=aoX y;rw[anZ] at x;rw[arE];split
  ·refine⟨λb _=>rfl,λk c=>?_⟩;rcases c with c|c
   ·exact (m.all (.mem M) (by rw[<-n];exact amG _ (alX q))).2 k c
   ·exact he.2 k c
  ·exact m.all _ (amG _ (alX x))
 ·rw[apZ];intro a b o d l k c;rw[anZ] at o d;rw[arE] at c;rw[arE];split at c
  ·rename_i r
   subst r;rw[alG om];rcases c with c|c
   ·exact hp i b o d l k (v k c)
   ·exact u _ (alX d) k c
  ·split
   ·rename_i s
    subst s;intro g;rcases g with g|g
    ·exact hp a i o d l k c (v k g)
    ·exact u _ (alX o) k g c
   ·exact hp a b o d l k c
end
end Eng
open Eng Go.RowKit
theorem SlA.le {M N:Mem}(h:M.le N){v:aq}{sz n:Nat}{cs:List aq}(a:SlA M.A M.w v sz n cs):SlA N.A N.w v sz n cs:=by
 have:=a.kept (w':=N.w) h.has;exact⟨this.1,(λp l c e b=>h.A _ (this.2.1 p l c e b)),this.2.2⟩
theorem SlA.now {M:Mem}(h:M.has w){n:Nat}(a:SlA M.A M.w v sz n cs):Sl w v sz n cs:=(a.kept (w':=w) h).1
theorem OV.le {M N:Mem}(h:M.le N){v:aq}{o:Ob}(a:OV M.A M.w v o):OV N.A N.w v o:=OV.mono h.A o v (OV.kept h.has o v a)
theorem OVs.le {M N:Mem}(h:M.le N){cs:List aq}{os:List Ob}(a:OVs M.A M.w cs os):OVs N.A N.w cs os:=OVs.mono h.A os cs (OVs.kept h.has os cs a)
theorem OV.inw {M:Mem}(h:M.has w){o:Ob}(a:OV M.A M.w v o):OV (InW w) w v o:=OV.mono (λb c=>Mem.bd h c) o v (OV.kept h o v a)
end
section
namespace Eng
open Go.RowKit
section
variable {S:Nat->Prop}{P:Program}{w w0:ao}{L:List Ent}{PK:PKT}{K:VWP}
theorem X3 {T E:TypeId}{a:Option Addr}{n c b d:Nat}(h:P.underlying T=ax (.slice E)):DoX P (mEq .eql T xo yo (.slice a n c) (.slice aw b d)) w PK K=K (.bool a.isNone) w:=by
 refine fN ?_;simp[eqGuard,Lib.run_eql_slice_nil w T E a n c b d h]
theorem aeG {T E:TypeId}{a:Option Addr}{n c b d:Nat}(h:P.underlying T=ax (.slice E)):DoX P (mEq .neq T xo yo (.slice a n c) (.slice aw b d)) w PK K=K (.bool (!a.isNone)) w:=by
 refine fN ?_;have:=Lib.run_equalIn_slice_nil (P:=P) w 9999 T E a n c b d h;simp[eqGuard,binOp,Op.equal,Op.maxDepth,this]
def subA (a:Option Addr)(l cap sz:Nat):Option Addr:=if cap=l then a else a.map (·.add (l*sz))
theorem fJ {off l:Nat}(h:l < cap):subA (ax ⟨b,off,aw⟩) l cap sz=ax ⟨b,off+l*sz,aw⟩:=by
 unfold subA;rw[alG om,arJ,cK]
theorem EZ {a:Addr}:subA (ax ⟨a.block,a.off,aw⟩) 0 cap sz=ax ⟨a.block,a.off,aw⟩:=by
 unfold subA;split
 ·rfl
 ·rw[arJ,cK,aoO,anF]
theorem dS {T E:TypeId}{k:IntKind}{a:Option Addr}{n:Nat}(h:P.underlying T=ax (.slice E))(b:(P.info? E).map (·.size)=ax sz)(d:0<=lo)(e:lo<=n) :
  (eG T (.slice a n cap) (ax (.int k lo)) aw aw).run P w=.ok (.value (.slice (subA a lo.toNat cap sz) (n - lo.toNat) (cap - lo.toNat))) w:=by
 obtain⟨i,hi,f⟩:=anP.1 b;have he:P.elem T=E:=by simp[Program.elem,h]
 have c:P.underlying T=ax (.slice (P.elem T)):=by rw[he];exact h
 refine cJ ?_;rw[run_sliceAt_slice w T _ _ _ _ c,run_slice_l w T a n cap c k lo d e];simp[sizeOf,typeInfo,he,hi,f,sliced,subA]
theorem jM {T E:TypeId}{k:IntKind}{a:Option Addr}{n:Nat}(h:P.underlying T=ax (.slice E))(b:(P.info? E).map (·.size)=ax sz)(e:0<=hi)(f:hi<=cap) :
  (eG T (.slice a n cap) aw (ax (.int k hi)) aw).run P w=.ok (.value (.slice (subA a 0 cap sz) hi.toNat cap)) w:=by
 obtain⟨i,c,g⟩:=anP.1 b;have he:P.elem T=E:=by simp[Program.elem,h]
 have d:P.underlying T=ax (.slice (P.elem T)):=by rw[he];exact h
 refine cJ ?_;rw[run_sliceAt_slice w T _ _ _ _ d,run_slice_h w T a n cap d k hi e f];simp[sizeOf,typeInfo,he,c,g,sliced,subA]
theorem Md {T E:TypeId}{k:IntKind}{a:Option Addr}{n:Nat}(h:P.underlying T=ax (.slice E))(b:(P.info? E).map (·.size)=ax sz)(e:0<=lo)(f:lo<=hi)(g:hi<=cap) :
  (eG T (.slice a n cap) (ax (.int k lo)) (ax (.int k' hi)) aw).run P w=.ok (.value (.slice (subA a lo.toNat cap sz) (hi.toNat - lo.toNat) (cap - lo.toNat))) w:=by
 obtain⟨i,c,j⟩:=anP.1 b;have he:P.elem T=E:=by simp[Program.elem,h]
 have d:P.underlying T=ax (.slice (P.elem T)):=by rw[he];exact h
 refine cJ ?_;rw[run_sliceAt_slice w T _ _ _ _ d,run_slice_lh w T a n cap d k k' lo hi e f g];simp[sizeOf,typeInfo,he,c,j,sliced,subA]
theorem Jb {T E:TypeId}{k d:IntKind}{a:Option Addr}{n:Nat}{m:Int}(h:P.underlying T=ax (.slice E))(b:(P.info? E).map (·.size)=ax sz)(f:0<=lo)(g:lo<=hi)(j:hi<=m)(l:m<=cap) :
  (eG T (.slice a n cap) (ax (.int k lo)) (ax (.int k' hi)) (ax (.int d m))).run P w=.ok (.value (.slice (subA a lo.toNat m.toNat sz) (hi.toNat - lo.toNat) (m.toNat - lo.toNat))) w:=by
 obtain⟨i,c,o⟩:=anP.1 b;have he:P.elem T=E:=by simp[Program.elem,h]
 have e:P.underlying T=ax (.slice (P.elem T)):=by rw[he];exact h
 refine cJ ?_;rw[run_sliceAt_slice w T _ _ _ _ e,run_slice_lhm w T a n cap e k k' d lo hi m f g j l];simp[sizeOf,typeInfo,he,c,o,sliced,subA]
theorem JA {T E:TypeId}{a:Option Addr}{n:Nat}(h:P.underlying T=ax (.slice E)):(mB .len #[T] U cb #[.slice a n cap]).run P w=.ok (.value (.int .i64 (n:Int))) w:=by
 simp[mB,builtin,Builtin.len_,run_underlying h,goInt]
theorem PG {T E:TypeId}{a:Option Addr}{n:Nat}(h:P.underlying T=ax (.slice E)):DoX P (mB .cap #[T] U cb #[.slice a n cap]) w PK K=K (.int .i64 (cap:Int)) w:=by
 refine aD ?_;simp[mB,builtin,Builtin.cap_,run_underlying h,goInt]
theorem NQ {T E:TypeId}{bytes n:Nat}{d e:IntKind}(j:P.underlying T=ax (.slice E))(he:elB P E sz bytes=av)(p:bytes*n<=281474976710656)(q:n<=281474976710656)(l:OwnS S w0 w L)
  (k:∀(g:Nat) (w':ao) (f:List aq),f.length=n*sz->OwnS S w0 w' (.cells g f E::L)->K (.slice (ax ⟨g,0,aw⟩) n n) w'):DoX P (Hg T (.int d (n:Int)) (.int e (n:Int))) w PK K:=by
 obtain⟨i,z,hi,m,a,b,o⟩:=jR he;have c:(i.bytes:Int)*(n:Int)<=281474976710656:=by rw[b,<-Int.natCast_mul];omega
 have h:=run_make (P:=P) w T E i z j hi m d e n n om om c om;rw[alQ] at h;refine rS (cJ h) (k _ _ (madeCells z.cells (n*i.size)).toList ?_ ?_)
 ·rw[Array.length_toList,size_madeCells,a]
 ·have:=l.alloc (madeCells z.cells (n*i.size)).toList E
  rwa [atM] at this
theorem HE {dT sT ty T E:TypeId}{g o dLen dCap:Nat}{a:Addr}{sLen sCap:Nat}{src:List aq}(hu:P.underlying dT=ax (.slice E))(e:(P.info? E).map (·.size)=ax sz)
  (h:w.heap[g]?=ax (.cells cur.toArray T (0,0))) (k:src.length=Nat.min sLen dLen*sz) (b:∀j v,src[j]?=ax v->w.cell? (a.add j)=ax v) (c:o+src.length<=cur.length) (l:∀v∈src,v.oneCell'=av) :
  (mB .copy #[dT,sT] ty cb #[.slice (ax ⟨g,o,aw⟩) dLen dCap,.slice (ax a) sLen sCap]).run P w=.ok (.value (goInt (Nat.min sLen dLen))) (w.setRow g (cur.take o++src++cur.drop (o+src.length)).toArray):=by
 have f:=run_loadCells_list (P:=P) w a src b;have d:=run_storeCells_at P g o T src 0 cur.toArray w h (by simpa using c) l;obtain⟨i,hi,m⟩:=anP.1 e;rw[k] at f;simp only[anF] at d;simp[mB,builtin,Builtin.copy_,run_underlying hu,Builtin.lenOf,Builtin.firstCells,sizeOf,typeInfo,hi,m,f,d]
theorem xQ (i:Nat){dT sT ty T E:TypeId}{g o dLen dCap:Nat}{a:Addr}{sLen sCap:Nat}{src:List aq}(hu:P.underlying dT=ax (.slice E))(d:(P.info? E).map (·.size)=ax sz)
  (e:OwnS S w0 w L) (hi:L[i]?=ax (.cells g cur T)) (f:src.length=min sLen dLen*sz) (b:∀j v,src[j]?=ax v->w.cell? (a.add j)=ax v) (c:o+src.length<=cur.length) (h:∀v∈src,v.oneCell'=av)
  (k:∀v' w',OwnS S w0 w' (L.set i (.cells g (cur.take o++src++cur.drop (o+src.length)) T))->K v' w') :
  DoX P (mB .copy #[dT,sT] ty cb #[.slice (ax ⟨g,o,aw⟩) dLen dCap,.slice (ax a) sLen sCap]) w PK K:=
 rS (HE hu d (e.at_ i hi) f b c h) (k _ _ (gK e i hi _))
theorem Vb {T o E:TypeId}{B p:IntKind}{g n bytes:Nat}{olds:List aq}(D:P.underlying T=ax (.slice E))(q:P.underlying o=ax (.int B))(he:elB P E sz bytes=av)(F:0 < sz)
  (G:OwnS S w0 w L) (r:olds.length=n*sz) (hold:∀j u,olds[j]?=ax u->w.cell? ⟨g,0+j,aw⟩=ax u) (H:0 < m) (C:cap < n+m) (I:(n+m)*bytes<=140737488355328) (J:n+m<=140737488355328)
  (k:∀(b c:Nat) (a:List aq) (w':ao),n+m<=c->c<=9223372036854775807->a.length+n*sz=c*sz->OwnS S w0 w' (.cells b (olds++a) E::L)->K (.slice (ax ⟨b,0,aw⟩) (n+m) c) w') :
  DoX P (mB .append #[T,o] U cb #[.slice (ax ⟨g,0,aw⟩) n cap,.int p (m:Int)]) w PK K:=by
 obtain⟨i,z,hi,M,s,f,t⟩:=jR he;have d:(Builtin.firstCells i.size n (.slice (ax ⟨g,0,aw⟩) n cap)).run P w.drew=.ok olds.toArray w.drew:=by
  have N:=run_loadCells_list (P:=P) w.drew ⟨g,0,aw⟩ olds (λj v O=>by rw[cK];exact hold j v O);simp only[Builtin.firstCells,s,<-r];exact N
 have y:=grownCap_ge w (n+m) cap E;have hle:=grownCap_le_maxLen w (n+m) cap E (by simp only[maxLen];omega);have Q:=Lib.run_append_grow_zeros (P:=P) w T o U E i z p B D q hi M (ax ⟨g,0,aw⟩) n cap olds d m H om C om (by
   rw[f];have:m*bytes<=(n+m)*bytes:=anC _ om;omega) (by rw[f];exact growslice_fits C I)
 have h:∀x,(Builtin.zeroCells z.cells x).toList.length=x*sz:=by intro x;simp[Builtin.zeroCells,t]
 obtain⟨a,l⟩:∃a,a=(Builtin.zeroCells z.cells m).toList++(Builtin.zeroCells z.cells (grownCap w (n+m) cap E - (n+m))).toList:=⟨_,rfl⟩;have hlen:a.length+n*sz=grownCap w (n+m) cap E*sz:=by
  rw[l,alI,h,h,<-aoA,<-aoA]
  congr 1
  omega
 have key:=(G.drew).alloc (olds++a) E;have e:(olds++a).toArray=olds.toArray++Builtin.zeroCells z.cells m++Builtin.zeroCells z.cells (grownCap w (n+m) cap E - (n+m)):=by
  rw[l];simp
 have A:(mB .append #[T,o] U cb #[.slice (ax ⟨g,0,aw⟩) n cap,.int p (m:Int)]).run P w=.ok (.value (.slice (ax ⟨w.heap.size,0,aw⟩) (n+m) (grownCap w (n+m) cap E))) (w.drew.alloc (.cells (olds++a).toArray E)):=by
  rw[e];simp[mB,builtin,Q]
 exact rS A (k w.heap.size _ a _ y (by simp only[maxLen] at hle;exact hle) hlen key)
theorem ID (i:Nat){T E:TypeId}{g n c bytes:Nat}{a:Addr}(q:P.underlying T=ax (.slice E))(he:elB P E sz bytes=av)
  (o:OwnS S w0 w L) (hi:L[i]?=ax (.cells g cur E)) (r:news.length=m*sz) (b:∀j u,news[j]?=ax u->w.cell? (a.add j)=ax u) (s:∀u∈news,u.oneCell'=av) (d:n+m<=cap) (f:n*sz+news.length<=cur.length)
  (k:∀w',OwnS S w0 w' (L.set i (.cells g (cur.take (n*sz)++news++cur.drop (n*sz+news.length)) E))->K (.slice (ax ⟨g,0,aw⟩) (n+m) cap) w') :
  DoX P (mB .append #[T,T] U cb #[.slice (ax ⟨g,0,aw⟩) n cap,.slice (ax a) m c]) w PK K:=by
 obtain⟨ii,z,h,y,e,t,v⟩:=jR he;have x:w.heap[g]?=ax (.cells cur.toArray E (0,0)):=o.at_ i hi;have p:=run_append_roomF (P:=P) w T U E ii q h g n cap cur.toArray (0,0) x (amN _) a m c news (by rw[e];exact r) b s d (by rw[e];simpa using f);rw[e] at p;have l:(mB .append #[T,T] U cb #[.slice (ax ⟨g,0,aw⟩) n cap,.slice (ax a) m c]).run P w=.ok (.value (.slice (ax ⟨g,0,aw⟩) (n+m) cap)) (w.setRow g (cur.take (n*sz)++news++cur.drop (n*sz+news.length)).toArray):=by
  simp[mB,builtin,p]
 exact rS l (k _ (gK o i hi _))
def zB (P:Program)(E:TypeId):Bool:=
 match P.info? E with
|some i=>match i.zero with
 |some z=>z.cells.toList.all (·.oneCell')
 |none=>au
|none=>au
theorem OW (i:Nat){T E:TypeId}{g o n c bytes:Nat}(B:P.underlying T=ax (.slice E))(he:elB P E sz bytes=av)(p:zB P E=av)(G:0 < n)
  (u:OwnS S w0 w L) (hi:L[i]?=ax (.cells g cur E)) (b:o+n*sz<=cur.length)
  (k:∀v' w' v,v.length=n*sz->OwnS S w0 w' (L.set i (.cells g (cur.take o++v++cur.drop (o+n*sz)) E))->K v' w') :
  DoX P (mB .clear #[T] U cb #[.slice (ax ⟨g,o,aw⟩) n c]) w PK K:=by
 obtain⟨ii,z,d,e,C,D,q⟩:=jR he;have F:w.heap[g]?=ax (.cells cur.toArray E (0,0)):=u.at_ i hi;have f:∀x∈z.cells.toList,x.oneCell'=true:=by
  unfold zB at p;rw[d] at p;simp only[e] at p;exact aoF.1 p
 have a:(Builtin.zeroCells z.cells n).toList.length=n*sz:=by simp[Builtin.zeroCells,q]
 have r:∀x∈(Builtin.zeroCells z.cells n).toList,x.oneCell'=true:=by
  intro x y;simp only[Builtin.zeroCells,Array.toList_map,amM,Array.toList_range,anJ] at y;obtain⟨j,A,rfl⟩:=y;have s:j % z.cells.size < z.cells.size:=aoT _ (by
   rcases anU z.cells.size with h|h
   ·rw[h] at A;simp at A
   ·exact h)
  rw[getElem!_pos z.cells (j % z.cells.size) s];exact f _ sm
 have l:=run_storeCells_at P g o E (Builtin.zeroCells z.cells n).toList 0 cur.toArray w F (by rw[a];simpa using b) r;simp only[anF] at l;obtain⟨m,rfl⟩:∃m,n=m+1:=⟨n - 1,om⟩;have t:(mB .clear #[T] U cb #[.slice (ax ⟨g,o,aw⟩) (m+1) c]).run P w=.ok (.value (.tuple #[])) (w.setRow g (cur.take o++(Builtin.zeroCells z.cells (m+1)).toList++cur.drop (o+(m+1)*sz)).toArray):=by
  simp[mB,builtin,Builtin.clear_,run_underlying B,zeroValue,typeInfo,d,e,l];rw[<-a];simp
 exact rS t (k _ _ _ a (gK u i hi _))
theorem Zw {a:List aq}{off:Nat}(h:(cs.drop off).take a.length=a)(b:a[j]?=ax v):cs[off+j]?=ax v:=by
 rw[<-h] at b;rw[aoK] at b;split at b
 ·rwa [aoY] at b
 ·cases b
theorem OwnS.Th (d:OwnS S w0 w L)(i:Nat){E T:TypeId}(hi:L[i]?=ax (.cells b cs E))(off:Nat)(a:List aq)(c:(cs.drop off).take a.length=a)(e:aggN P T=ax a.length):AtV P w T ⟨b,off,aw⟩ (.agg a.toArray):=
 AtV.agg e rfl λj v f=>d.cell i hi (off+j) (Zw c f)
theorem xH (i:Nat){T:TypeId}{off:Nat}{E:TypeId}(a:OwnS S w0 w L)(hi:L[i]?=ax (.cells b cs E))(c:(P.info? T).map (·.size)=ax new.length)(d:∀v∈new,v.oneCell'=av)(f:off+new.length<=cs.length)
  (k:∀w',OwnS S w0 w' (L.set i (.cells b (cs.take off++new++cs.drop (off+new.length)) E))->K undef w'):DoX P (aN T (.pointer (ax ⟨b,off,aw⟩)) (.agg new.toArray)) w PK K:=by
 have h:=EX (P:=P) (T:=T) (g:=b) (off:=off) (cur:=cs.toArray) (E:=E) (u:=.agg new.toArray) (new:=new) rfl c d (a.at_ i hi) (by simpa using f);refine Bm (HP h) (k _ ?_);have e:(cs.toArray.toList.take off++new++cs.toArray.toList.drop (off+new.length)).toArray=(cs.take off++new++cs.drop (off+new.length)).toArray:=sm
 rw[e];exact gK a i hi _
theorem Wj {M N:Mem}{T:TypeId}{n:Nat}(hw:N.w=w)(f:∀b,(Ent.urow T sz v n xs).blk b->N.A b)(h:(Ent.urow T sz v n xs).is w):SlA N.A N.w v sz n xs:=by
 rw[hw];refine⟨Sl.urow h,λp l c e o=>f _ ?_,λa l c e=>?_⟩
 ·rcases (show w.ownsRow 0 T sz v n xs from h).2 with ⟨rfl,i⟩|⟨g,cap,cur,rfl,_⟩
  ·cases e
  ·injection e with d _ _
   injection d with d
   rw[<-d];rfl
 ·rcases (show w.ownsRow 0 T sz v n xs from h).2 with ⟨rfl,i⟩|⟨g,cap,cur,rfl,_,_,j,_⟩
  ·injection e with _ k m;omega
  ·injection e with _ k m;omega
theorem OwnS.bJ {M:Mem}{T:TypeId}{n:Nat}(a:OwnS S w0 w (.urow T sz v n xs::L))(i:Nat)(hi:L[i]?=ax (.mem M)) :
  ∃N:Mem,M.le N∧SlA N.A N.w v sz n xs∧OwnS S w0 w (L.set i (.mem N)):=by
 have h:=a.at_ 0 rfl;obtain⟨N,b,c,d,e⟩:=a.freeze i hi;exact⟨N,b,Wj (M:=M) c d h,e⟩
end
end Eng
end
section
open Eng
namespace Eng
abbrev JT:=List aq->ao->Prop
abbrev KT:=Ending->ao->Prop
abbrev QH:=Exit->Sg->ao->Prop
abbrev FH:=Nat->JT
abbrev PH:=Sg->List aq->Sg->ao->FH->Prop
def cn (J:JT) (f:FH):FH:=λi=>cond (i==0) J (f (i - 1))
def zg:List Nat->List aq->Sg
 |k::a,v::vs=>λi=>cond (i==k) v (zg a vs i)
 |_,_=>λ_=>undef
def updH (σ:Sg) (d:Nat) (v:aq):Sg:=λi=>cond (i==d) v (σ i)
def putH (σ:Sg):Option Nat->aq->Sg
 |some d,v=>updH σ d v
 |none,_=>σ
def Ru (σ:Sg):List Nat->List aq
 |[]=>[]
 |i::l=>σ i::Ru σ l
def nh (k:Nat) (l:List Nat):Nat×List Nat×PH:=(k,l,λ_ _ _ _ _=>True)
def lkH (k:Nat) (F:List Nat->PH->Prop):List (Nat×List Nat×PH)->Prop
 |[]=>False
 |h::r=>bc (Nat.beq h.1 k) (F h.2.1 h.2.2) (lkH k F r)
def lnH (k:Nat):List (Nat×Nat)->Nat
 |[]=>999999
 |h::r=>bc (Nat.beq h.1 k) h.2 (lnH k r)
def tnQ (Q:QH) (K:Sg->ao->Prop):QH
 |.normal,σ,w=>K σ w
 |e,σ,w=>Q e σ w
def bkQ (id:Nat) (Q:QH):QH
 |.exit j,σ,w=>bc (Nat.beq j id) (Q .normal σ w) (Q (.exit j) σ w)
 |e,σ,w=>Q e σ w
def opH' (P:Program) (o:Oper) (σ:Sg) (w:ao) (K:KT) (k:VWP):Prop:=
 match o.op with
 |.move x | .assign x=>k (rd σ x) w
 |.call { callee:=.value (.func f),args,.. }=>CallX P f (amap (rd σ) args) w (pk K) k
 |_=>DoX P (BU (rd σ) o) w (pk K) k
def opsH (P:Program) (K:KT) (ops:Array Oper) (k:Sg->ao->Prop):List Oper->Sg->ao->Prop
 |[],σ,w=>k σ w
 |o::r,σ,w=>match o.guard with
  |none=>opH' P o σ w K (λv w=>opsH P K ops k r (putH σ o.dst v) w)
  |some (j,want)=>match JX ops j with
   |some d=>GDo (σ d) want (λE=>opH' P o σ w K E) w (λv w=>opsH P K ops k r (putH σ o.dst v) w)
   |none=>False
def opQ' (P:Program) (C:ao->Prop) (o:Oper) (σ:Sg) (k:aq->Prop):Prop:=
 match o.op with
 |.move x | .assign x=>k (rd σ x)
 |.call { callee:=.value (.func f),args,.. }=>QCall P C f (amap (rd σ) args) k
 |_=>QDo P C (BU (rd σ) o) k
def opsQ (P:Program) (ops:Array Oper) (C:ao->Prop) (k:Sg->Prop):List Oper->Sg->Prop
 |[],σ=>k σ
 |o::r,σ=>match o.guard with
  |none=>opQ' P C o σ (λv=>opsQ P ops C k r (putH σ o.dst v))
  |some (j,want)=>match JX ops j with
   |some d=>GQ (σ d) want (λE=>opQ' P C o σ E) (λv=>opsQ P ops C k r (putH σ o.dst v))
   |none=>False
def wpH (P:Program) (K:KT) (d:List (Nat×Nat)) (e:List (Nat×List Nat×PH)):Code->FH->QH->Sg->ao->Prop
 |.skip,_,Q,σ,w=>Q .normal σ w
 |.region id ops draw,_,Q,σ,w=>
  bc draw
   (bc (Nat.beq (lnH id d) ops.size)
    (QuietX w (λC=>opsQ P ops C (λσ=>∀w',C w'->Q .normal σ w') ops.toList σ))
    (QuietX w (λC=>opsQ P ops C (λσ=>∀w',C w'->opsH P K ops (λσ w=>Q .normal σ w) (ops.toList.drop (lnH id d)) σ w') (ops.toList.take (lnH id d)) σ)))
   (opsH P K ops (λσ w=>Q .normal σ w) ops.toList σ w)
 |.seq a b,f,Q,σ,w=>
  bc (Nat.ble (ways a) 1) (wpH P K d e a f (tnQ Q λσ w=>wpH P K d e b f Q σ w) σ w)
   (lkH (2 * keyOf b) (λg p=>JoinX (λJ=>wpH P K d e a (cn J f) (tnQ Q λσ' w'=>J (Ru σ' g) w') σ w) (λvs w'=>∀j,p σ vs j w' f)) e)
 |.cond c a b,f,Q,σ,w=>IfX (rd σ c) (wpH P K d e a f Q σ w) (wpH P K d e b f Q σ w)
 |.block id a,f,Q,σ,w=>wpH P K d e a f (bkQ id Q) σ w
 |.loop a,f,_,σ,w=>lkH (2 * keyOf a+1) (λg p=>LoopX (Ru σ g) w (λvs w N=>∀j,p σ vs j w (cn N f))) e
 |.exit id,_,Q,σ,w=>Q (.exit id) σ w
 |.ret,_,Q,σ,w=>Q .ret σ w
 |_,_,_,_,_=>False
def hdJ:List JT->JT
 |[]=>λ_ _=>False
 |J::_=>J
def atH (P:Program) (K:KT) (e:List (Nat×Nat)) (d:List (Nat×List Nat×PH)):Code->Nat->List JT->FH->QH->Sg->ao->Prop
 |.seq a b,p,js,f,Q,σ,w=>
  bc (Nat.beq p 1) (wpH P K e d (.seq a b) f Q σ w)
   (bc (Nat.beq (p % 2) 0)
    (bc (Nat.ble (ways a) 1) (atH P K e d a (p / 2) js f (tnQ Q λσ w=>wpH P K e d b f Q σ w) σ w)
     (lkH (2 * keyOf b) (λg _=>atH P K e d a (p / 2) js.tail (cn (hdJ js) f) (tnQ Q λσ' w'=>hdJ js (Ru σ' g) w') σ w) d))
    (atH P K e d b (p / 2) js f Q σ w))
 |.cond c a b,p,js,f,Q,σ,w=>
  bc (Nat.beq p 1) (wpH P K e d (.cond c a b) f Q σ w) (bc (Nat.beq (p % 2) 0) (atH P K e d a (p / 2) js f Q σ w) (atH P K e d b (p / 2) js f Q σ w))
 |.block id a,p,js,f,Q,σ,w=>bc (Nat.beq p 1) (wpH P K e d (.block id a) f Q σ w) (atH P K e d a p js f (bkQ id Q) σ w)
 |.loop a,p,js,f,Q,σ,w=>
  bc (Nat.beq p 1) (wpH P K e d (.loop a) f Q σ w)
   (lkH (2 * keyOf a+1) (λg _=>atH P K e d a (p / 2) js.tail (cn (hdJ js) f) (tnQ Q λσ' w'=>hdJ js (Ru σ' g) w') σ w) d)
 |c,_,_,f,Q,σ,w=>wpH P K e d c f Q σ w
def allT:List ResultVar->Bool
 |[]=>av
 |.tmp _::l=>allT l
 |_=>au
def Xk (σ:Sg):List ResultVar->List aq
 |.tmp t::l=>σ t::Xk σ l
 |_=>[]
def oneH (K:KT) (w:ao):List aq->Prop
 |[v]=>K (.returned v) w
 |l=>K (.returned (.tuple l.toArray)) w
def rvK (σ:Sg):List ResultVar->(List RV->Prop)->Prop
 |[],k=>k []
 |r::l,k=>rvK σ l λx=>k (RV.of σ r::x)
def topH (P:Program) (rs:List ResultVar) (K:KT):QH
 |.normal,σ,w=>bc (allT rs) (oneH K w (Xk σ rs)) (rvK σ rs λl=>RetX P l w K)
 |.ret,σ,w=>bc (allT rs) (oneH K w (Xk σ rs)) (rvK σ rs λl=>RetX P l w K)
 |_,_,_=>False
structure NfX (a b:Prop):Prop where
 mk ::
 out:a=b
theorem NfX.rf {a:Prop}:NfX a a:=⟨rfl⟩
theorem dxE  {m:Sem Next}    (h:∀v w,NfX (K v w) (K' v w)):NfX (DoX P m w PK K) (DoX P m w PK K'):=⟨by rw [funext λv=>funext λw=>(h v w).out]⟩
theorem cxE   {a:Array aq}    (h:∀v w,NfX (K v w) (K' v w)):NfX (CallX P f a w PK K) (CallX P f a w PK K'):=⟨by rw [funext λv=>funext λw=>(h v w).out]⟩
theorem gdE  {t:Bool} {E:(VWP)->Prop}   (h:∀v w,NfX (K v w) (K' v w)):NfX (GDo v t E w K) (GDo v t E w K'):=⟨by rw [funext λv=>funext λw=>(h v w).out]⟩
theorem qdE   {m:Sem Next} {K K':aq->Prop} (h:∀v,NfX (K v) (K' v)):NfX (QDo P C m K) (QDo P C m K'):=⟨by rw [funext λv=>(h v).out]⟩
theorem qcE    {a:Array aq} {K K':aq->Prop} (h:∀v,NfX (K v) (K' v)):NfX (QCall P C f a K) (QCall P C f a K'):=⟨by rw [funext λv=>(h v).out]⟩
theorem gqE  {t:Bool} {E:(aq->Prop)->Prop} {K K':aq->Prop} (h:∀v,NfX (K v) (K' v)):NfX (GQ v t E K) (GQ v t E K'):=⟨by rw [funext λv=>(h v).out]⟩
theorem ifE  {A a B b:Prop} (h:NfX A a) (k:NfX B b):NfX (IfX v A B) (IfX v a b):=⟨by rw [h.out,k.out]⟩
theorem joE {F a:JT->Prop} {R:JT} (h:∀J,NfX (F J) (a J)):NfX (JoinX F R) (JoinX a R):=⟨by rw [funext λJ=>(h J).out]⟩
theorem quE  {F a:(ao->Prop)->Prop} (h:∀C,NfX (F C) (a C)):NfX (QuietX w F) (QuietX w a):=⟨by rw [funext λC=>(h C).out]⟩
theorem awE  {p a:ao->Prop} (h:∀w,NfX (p w) (a w)):NfX (∀w,C w->p w) (∀w,C w->a w):=⟨by rw [funext λw=>(h w).out]⟩
theorem mpC {f:α->β}{a:α}{l:List α}:(a::l).map f=f a::l.map f:=rfl
theorem mpN {f:α->β}:([]:List α).map f=[]:=rfl
theorem omS {f:α->β}{a:α}:(ax a).map f=ax (f a):=rfl
theorem omN {f:α->β}:(aw:Option α).map f=none:=rfl
theorem tlA  (l:List α):l.toArray.toList=l:=rfl
theorem rd_t  :rd σ (.tmp t)=σ t:=rfl
theorem rd_c  :rd σ (.const v)=v:=rfl
theorem rd_g  {g:Nat}:rd σ (.global g)=.pointer (ax ⟨g,0,aw⟩):=rfl
theorem rd_f  :rd σ (.func f)=.func (.func f) #[] #[]:=rfl
abbrev nj:JT:=λ_ _=>False
abbrev nk:KT:=λ_ _=>False
def vg (v:List aq)(n:Nat):Value:=v.getD n undef
def nz (F:Func)(p:Nat)(js:List JT)(a:List (Nat×List Nat×PH))(b:List (Nat×Nat))(s:Sg)(w:ao)(K:KT){q r:Prop}
  (h:NfX (atH ah K b a (A5 F) p js (λ_ _ _=>False) (topH ah F.results.toList K) s w) q:=by
    repeat' ((conv=>arg 1;whnf);first|(apply dxE;intro v w)|(apply cxE;intro v w)|(apply gdE;intro v w)|apply ifE|(apply joE;intro J)|(apply quE;intro C)|(apply qdE;intro v)|(apply qcE;intro v)|(apply gqE;intro v)|(apply awE;intro w)|exact NfX.rf))
  (c:q=r:=by dsimp only[opH',opQ',BU,rd_t,rd_c,rd_g,rd_f,updH,putH,zg,cn,Ru,amap,tlA,mpC,mpN,cond_true,cond_false,Nat.reduceBEq,Nat.reduceSub,isEq,isLit,omS,omN,Xk,bc,nh,hdJ,vg,RV.of]):Prop:=r
end Eng
abbrev iN (n:Int):Value:=.int .i64 n
def dx (m w K k):=DoX ah m w (pk K) k
def gtx (t m w K k):=GDo t av (λE=>DoX ah m w (pk K) E) w k
def gfx (t m w K k):=GDo t au (λE=>DoX ah m w (pk K) E) w k
def ctx (t f a w K k):=GDo t av (λE=>CallX ah f a w (pk K) E) w k
def cfx (t f a w K k):=GDo t au (λE=>CallX ah f a w (pk K) E) w k
def etx (t:aq)(u:aq)(w:ao)(k:aq->ao->Prop):=GDo t av (λE=>E u w) w k
def efx (t:aq)(u:aq)(w:ao)(k:aq->ao->Prop):=GDo t au (λE=>E u w) w k
def lnx (T x w K k):=DoX ah (mB .len #[T] 3 #[au] #[x]) w (pk K) k
def ecx (o T n z t w K k):=DoX ah (mEq o T (.tmp n) (.const (.int .i64 z)) t (.int .i64 z)) w (pk K) k
def apx (T x y w K k):=DoX ah (mB .append #[T,T] T #[au,au] #[x,y]) w (pk K) k
def cx (f a w K k):=CallX ah f a w (pk K) k
theorem cw{f:FuncId}{F:Func}{args:List aq}{K:KT}{S:Prop}(a:ah.funcs[f]?=ax F)(b:F.body=ax (A5 F):=by rfl)(c:Nat.ble args.length F.ntmps=true:=by rfl)(e:wpX ah F.ntmps [] [] aw (A5 F) (topQ ah F.results.toList K) (kI args) [] w=S:=by kernel_rfl)(h:S):Calls ah f args.toArray w K:=EF a b rfl rfl c (e▸h)
theorem cz A B{f:FuncId}{F:Func}{args:List aq}{w:ao}{K:KT}{S:Prop}(a:ah.funcs[f]?=ax F)(b:F.body=ax (A5 F):=by rfl)(c:Nat.ble args.length F.ntmps=true:=by rfl)(e:wpX ah F.ntmps A B aw (A5 F) (topQ ah F.results.toList K) (kI args) [] w=S:=by kernel_rfl)(h:S):Calls ah f args.toArray w K:=EF a b rfl rfl c (e▸h)
def ldx (T a w K k):=DoX ah (aH T a) w (pk K) k
def bnx (o T a b w K k):=DoX ah (mBin o T a b) w (pk K) k
def iax (T a i w K k):=DoX ah (mIA T a i) w (pk K) k
def fax (T a n w K k):=DoX ah (mFA T a n) w (pk K) k
def nlx (a w K k):=DoX ah (mNil a) w (pk K) k
def exx (a n w K k):=DoX ah (mExt a n) w (pk K) k
def stx (T a v w K k):=DoX ah (aN T a v) w (pk K) k
def eqx (o T x y a b w K k):=DoX ah (mEq o T x y a b) w (pk K) k
def mbx (f t T b a w K k):=DoX ah (mB f t T b a) w (pk K) k
def slx (T a b c d w K k):=DoX ah (eG T a b c d) w (pk K) k
def alx (T w K k):=DoX ah (iL T) w (pk K) k
def fY(t0 w)(K:KT):=nz f199 1 [] [] [] (zg [0] [t0]) w K
theorem kY{t0 w K}:fY t0 w K->Calls ah 199 #[t0] w K:=cw func199
def bY(t0 w)(K:KT):=nz f200 1 [] [] [] (zg [0] [t0]) w K
theorem dZ{t0 w K}:bY t0 w K->Calls ah 200 #[t0] w K:=cw func200
def fP(b a e w)(K:KT):=
 slx 22 b (ax a) aw aw w K λH w=>lnx 22 e w K λc w=>ecx .eql 3 15 0 c w K λh w=>IfX h (K (.returned b) w) (lnx 22 b w K λf w=>eqx .eql 3 (.tmp 20) (.tmp 21) a f w K λi w=>IfX i (apx 22 b e w K λj w=>K (.returned j) w) (bnx .add 3 f c w K λk w=>mbx .cap #[22] 3 #[au] #[b] w K λl w=>bnx .gtr 3 k l w K λm w=>IfX m (slx 22 b aw (ax a) aw w K λn w=>bnx .add 3 f c w K λo w=>bnx .sub 3 o a w K λp w=>mbx .append #[22,3] 22 #[au,au] #[n,p] w K λg w=>slx 22 g (ax a) aw aw w K λq w=>mbx .copy #[22,22] 3 #[au,au] #[q,e] w K λI w=>QuietX w (λE=>QDo ah E (mBin .add 3 a c) λr=>QDo ah E (eG 22 g (ax r) aw aw) λs=>QDo ah E (eG 22 b (ax a) aw aw) λt=>
 ∀w,E w ->
 mbx .copy #[22,22] 3 #[au,au] #[s,t] w K λL w=>K (.returned g) w)) (bnx .add 3 f c w K λu w=>slx 22 b aw (ax u) aw w K λd w=>bnx .add 3 a c w K λv w=>slx 22 d (ax v) aw aw w K λx w=>dx (fX (.func (.func 248) #[] #[]) #[e,x]) w K λy w=>dx (mUn .not y) w K λz w=>IfX z (QuietX w (λJ=>QDo ah J (mBin .add 3 a c) λA=>QDo ah J (eG 22 d (ax A) aw aw) λB=>QDo ah J (eG 22 d (ax a) aw aw) λC=>
 ∀w,J w ->
 mbx .copy #[22,22] 3 #[au,au] #[B,C] w K λM w=>slx 22 d (ax a) aw aw w K λD w=>mbx .copy #[22,22] 3 #[au,au] #[D,e] w K λO w=>K (.returned d) w)) (slx 22 d (ax f) aw aw w K λF w=>mbx .copy #[22,22] 3 #[au,au] #[F,e] w K λP w=>slx 22 d (ax a) aw aw w K λG w=>cx 249 #[G,c] w K λQ w=>K (.returned d) w))))
theorem kE{t0 t1 t2 w K}:fP t0 t1 t2 w K->Calls ah 201 #[t0,t1,t2] w K:=cw func201
def bT(b a e w)(K:KT):=
 slx 23 b (ax a) aw aw w K λH w=>lnx 23 e w K λc w=>ecx .eql 3 15 0 c w K λh w=>IfX h (K (.returned b) w) (lnx 23 b w K λf w=>eqx .eql 3 (.tmp 20) (.tmp 21) a f w K λi w=>IfX i (apx 23 b e w K λj w=>K (.returned j) w) (bnx .add 3 f c w K λk w=>mbx .cap #[23] 3 #[au] #[b] w K λl w=>bnx .gtr 3 k l w K λm w=>IfX m (slx 23 b aw (ax a) aw w K λn w=>bnx .add 3 f c w K λo w=>bnx .sub 3 o a w K λp w=>mbx .append #[23,3] 23 #[au,au] #[n,p] w K λg w=>slx 23 g (ax a) aw aw w K λq w=>mbx .copy #[23,23] 3 #[au,au] #[q,e] w K λI w=>QuietX w (λE=>QDo ah E (mBin .add 3 a c) λr=>QDo ah E (eG 23 g (ax r) aw aw) λs=>QDo ah E (eG 23 b (ax a) aw aw) λt=>
 ∀w,E w ->
 mbx .copy #[23,23] 3 #[au,au] #[s,t] w K λL w=>K (.returned g) w)) (bnx .add 3 f c w K λu w=>slx 23 b aw (ax u) aw w K λd w=>bnx .add 3 a c w K λv w=>slx 23 d (ax v) aw aw w K λx w=>dx (fX (.func (.func 250) #[] #[]) #[e,x]) w K λy w=>dx (mUn .not y) w K λz w=>IfX z (QuietX w (λJ=>QDo ah J (mBin .add 3 a c) λA=>QDo ah J (eG 23 d (ax A) aw aw) λB=>QDo ah J (eG 23 d (ax a) aw aw) λC=>
 ∀w,J w ->
 mbx .copy #[23,23] 3 #[au,au] #[B,C] w K λM w=>slx 23 d (ax a) aw aw w K λD w=>mbx .copy #[23,23] 3 #[au,au] #[D,e] w K λO w=>K (.returned d) w)) (slx 23 d (ax f) aw aw w K λF w=>mbx .copy #[23,23] 3 #[au,au] #[F,e] w K λP w=>slx 23 d (ax a) aw aw w K λG w=>cx 251 #[G,c] w K λQ w=>K (.returned d) w))))
theorem dW{t0 t1 t2 w K}:bT t0 t1 t2 w K->Calls ah 202 #[t0,t1,t2] w K:=cw func202
def fM(t0 t1 t2 w)(K:KT):=nz f219 1 [] [] [(5,6)] (zg [0,1,2] [t0,t1,t2]) w K
theorem kG{t0 t1 t2 w K}:fM t0 t1 t2 w K->Calls ah 219 #[t0,t1,t2] w K:=cw func219
def bU(t0 t1 t2 w)(K:KT):=nz f220 1 [] [] [(5,6)] (zg [0,1,2] [t0,t1,t2]) w K
theorem dX{t0 t1 t2 w K}:bU t0 t1 t2 w K->Calls ah 220 #[t0,t1,t2] w K:=cw func220
def eC(t0 t1 t6 t7 t8 w)(N1:JT)(K:KT):=nz f154 39 [N1] [nh 7 [7,8]] [] (zg [0,1,6,7,8] [t0,t1,t6,t7,t8]) w K
def eI(t0 t1 w)(K:KT):=nz f154 1 [] [(7,[7,8],λs v j w f=>eC (s 0) (s 1) (s 6) (vg v 0) (vg v 1) w (f 0) K)] [] (zg [0,1] [t0,t1]) w K
theorem gO{t0 t1 w K}:eI t0 t1 w K->Calls ah 154 #[t0,t1] w K:=cz [] [(3,[7,8])] func154
def sD(t0 t1 w)(K:KT):=nz f217 1 [] [] [] (zg [0,1] [t0,t1]) w K
theorem Ad{t0 t1 w K}:sD t0 t1 w K->Calls ah 217 #[t0,t1] w K:=cw func217
def pU(t0 w)(K:KT):=nz f256 1 [] [] [] (zg [0] [t0]) w K
theorem yW{t0 w K}:pU t0 w K->Calls ah 256 #[t0] w K:=cw func256
def mC(t0 w)(K:KT):=nz f218 1 [] [] [] (zg [0] [t0]) w K
theorem sC{t0 w K}:mC t0 w K->Calls ah 218 #[t0] w K:=cw func218
end
section
open Eng Go.RowKit
theorem xF (v:aq)(n:Nat)(cs:List aq)(w:ao)(e:Sl w v 1 n cs)(g:∀u∈cs,u.oneCell'=av)(i:n<=1000000000000) :
  Ret ah 199 #[v] w (λv' w'=>Own w w' [.urow 9 1 v' n cs]):=by
 have d:=e;obtain⟨j,a,cap,rfl,h,k⟩:=e;refine aZ λK f=>kY ?_;unfold fY nz;rw[X3 amD];cases a with
|none=>
  obtain rfl:=h rfl;obtain rfl:cs=[]:=aqB om;simp only[atP,i_t];exact f _ _ ((Own.start w).nilU 9 1)
|some p=>
  simp only[atQ,i_f];refine bA (λb=>.slice (ax ⟨b,0,aw⟩) 0 0) [] 9 (λ_=>by kernel_rfl) (Own.start w) λb l c=>?_;have c:=c.toU 1 0 0 sm om om;refine bR 0 amD (show elB ah 9 1 16=av by kernel_rfl) dc c rfl (c.UK d) g om om λv' w2 c=>?_;refine f _ _ ?_;simpa using c
theorem EC (v:aq)(n:Nat)(cs:List aq)(w:ao)(e:Sl w v 6 n cs)(g:∀u∈cs,u.oneCell'=av)(i:n<=1000000000000) :
  Ret ah 200 #[v] w (λv' w'=>Own w w' [.urow 25 6 v' n cs]):=by
 have d:=e;obtain⟨j,a,cap,rfl,h,k⟩:=e;refine aZ λK f=>dZ ?_;unfold bY nz;rw[X3 amA];cases a with
|none=>
  obtain rfl:=h rfl;obtain rfl:cs=[]:=aqB om;simp only[atP,i_t];exact f _ _ ((Own.start w).nilU 25 6)
|some p=>
  simp only[atQ,i_f];refine bA (λb=>.slice (ax ⟨b,0,aw⟩) 0 0) [] 25 (λ_=>by kernel_rfl) (Own.start w) λb l c=>?_;have c:=c.toU 6 0 0 sm om om;refine bR 0 amA (show elB ah 25 6 88=av by kernel_rfl) dc c rfl (c.UK d) g om om λv' w2 c=>?_;refine f _ _ ?_;simpa using c
theorem ov_s {a b:Addr}{c ca d cb:Nat}(f:a.block≠b.block){tA tB:TypeId}{kA kB:Nat}(g:w.shape? a.block=ax (tA,kA))(h:w.shape? b.block=ax (tB,kB))(i:kB≠0)(j:w.frozen? a=au)(k:w.frozen? { block:=a.block,off:=kA }=au) :
  (fX (.func (.func 248) #[] #[]) #[.slice (ax a) c ca,.slice (ax b) d cb]).run ah w=.ok (.value (.bool au)) w:=by
 have l:(callFunc 248 #[.slice (ax a) c ca,.slice (ax b) d cb]).run ah w=.ok (.value (.bool au)) w:=by
  rw[run_callFunc_extern (e:=Extern.SlicesOverlaps.overlaps #[22,22] #[4]) func248 krx krx krx krx];rw[Lib.run_overlaps_apart w 22 4 9 amD 1 (λw=>by kernel_rfl) a b c ca d cb f tA tB kA kB g h i j k];rfl
 simpa[fX,invoke,Deferred.ofValue,resolve] using l
theorem KB (v:aq)(n:Nat)(xs:List aq)(k nb:Nat)(new:List aq)(w:ao)(hu:(Ent.urow 9 1 v n xs).is w)(q:w.heap[nb]?=ax (.cells new.toArray 9 (0,0)))(s:new.length=1)
  (D:¬(Ent.urow 9 1 v n xs).blk nb) (h1:∀u∈xs,u.oneCell'=av) (S:∀u∈new,u.oneCell'=av) (hk:k<=n) (hb:n<=100000000000) :
  Ret ah 201 #[v,.int .i64 (k:Int),.slice (ax ⟨nb,0,aw⟩) 1 1] w
   (λv' w'=>∃e',e'=Ent.urow 9 1 v' (n+1) (xs.take (k*1)++new++xs.drop (k*1))∧Turn (.urow 9 1 v n xs) e' w w'):=by
 have r:xs.length=n*1:=(show w.ownsRow 0 9 1 v n xs from hu).1;have G:Sl w (.slice (ax ⟨nb,0,aw⟩) 1 1) 1 1 new:=⟨om,ax ⟨nb,0,aw⟩,1,rfl,λh=>(by cases h),λp hp=>by cases hp;exact⟨λ_=>rfl,λj u f=>by rw[alU];exact aI (T:=9) q f⟩⟩;have d:=OwnS.lend hu;refine aZ λK U=>kE ?_;unfold fP dx bnx eqx mbx slx lnx ecx apx cx;have H:elB ah 9 1 16=true:=krx
 have i:(Tryz.prog.info? 9).map (·.size)=ax 1:=krx
 obtain⟨a,cap,rfl,a8⟩:∃a cap,v=.slice a n cap∧n<=cap:=by
  rcases (show w.ownsRow 0 9 1 v n xs from hu).2 with ⟨rfl,rfl⟩|⟨g,cap,cur,rfl,_,_,I,_⟩
  ·exact⟨aw,0,rfl,alP _⟩
  ·exact⟨_,cap,rfl,I⟩
 refine aD (dS amD i om om) |>.mpr ?_;rw[bE amD G];simp only[rs,Int.natCast_one,Int.one_ne_zero,alL];rw[bQ amD];simp only[rs];by_cases V:k=n
 ·subst V;simp only[alK,rs];refine bR 0 amD H dc d rfl G S om om λv' w2 d=>?_;refine U _ _ ⟨_,rfl,?_⟩;have e:xs.take (k*1)++new++xs.drop (k*1)=xs++new:=by rw[amP om,anR om,amE]
  rw[e];exact OwnS.back (L:=[]) d
 have B:k < n:=om
 have J:¬(k:Int)=(n:Int):=om
 simp only[J,alL,rs];rcases (show w.ownsRow 0 9 1 (.slice a n cap) n xs from hu).2 with ⟨_,h0⟩|⟨g,b0,cur,he,b4,hg,I,M,N,l⟩
 ·omega
 injection he with X _ Y
 subst X;subst Y;rw[aA om om,PG amD];simp only[rs];have Z:nb≠g:=λe=>D (by rw[e];rfl);have C:cur.toList.length=cap*1:=by simpa using N
 have E:OwnS (Ent.urow 9 1 (.slice (ax ⟨g,0,aw⟩) n cap) n xs).blk w w [.cells g cur.toList 9]:=
  d.turn 0 rfl ⟨Grew.refl _ _,by show w.heap[g]?=_;rw[hg],λj f=>.inl (by simp only[Ent.cells] at f;subst f;rfl)⟩
 have a1:∀j u,xs[j]?=ax u->w.cell? ⟨g,0+j,aw⟩=ax u:=λj u f=>by
  rw[alU];exact E.cell 0 rfl j (by rw[<-l] at f;rw[aoK] at f;split at f<;>first|exact f|cases f)
 have t:(xs.drop (k*1)).length=(n - k)*1:=by rw[alW,r,<-arK]
 have O:∀u∈xs.drop (k*1),u.oneCell'=true:=λu hu=>h1 u (apI hu);by_cases z:(cap:Int) < (n:Int)+1
 ·simp only[z,alK,rs];refine aD (jM amD i om om) |>.mpr ?_;rw[show subA (ax (⟨g,0,aw⟩:Addr)) 0 cap 1=ax ⟨g,0,aw⟩ from EZ (a:=⟨g,0,aw⟩),alQ];rw[aA (n:=(n:Int)+1 - k) om om,show (n:Int)+1 - k=((n+1 - k:Nat):Int) by omega];refine Vb (olds:=xs.take (k*1)) amD anG H dc E (by rw[alR,r,amQ om]) (λj u f=>a1 j u (by rw[aoK] at f;split at f<;>first|exact f|cases f)) om om om om λb c zs w2 P a6 b5 d=>?_;rw[show k+(n+1 - k)=n+1 by omega] at P ⊢;have m:(xs.take (k*1)).length=k*1:=by rw[alR,r,amQ om]
  refine aD (dS amD i om om) |>.mpr ?_;rw[alQ,fJ om];have b1:b≠g:=by
   have:=(aoG.1 d.apart).1 (.cells g cur.toList 9) sm;intro e;exact this b rfl e
  have Q:∀{W:ao} {b':Nat} {x y:List aq},OwnS (Ent.urow 9 1 (.slice (ax ⟨g,0,aw⟩) n cap) n xs).blk w W [.cells b' x 9,.cells g y 9]->W.heap[nb]?=ax (.cells new.toArray 9 (0,0)):=λh=>(h.grew.block nb (dV q) D).trans q;refine xQ 0 (src:=new) amD i d rfl ?_ (λj u f=>by rw[cK,alU];exact aI (T:=9) (Q d) f) ?_ S λ_ w3 d=>?_
  ·rw[s,amQ om]
  ·rw[alI,m,s];omega
  refine quiet ?_;refine oY ?_;rw[aA om om,show (k:Int)+1=((k+1:Nat):Int) by omega];refine q_do _ (λW=>dS amD i om om) ?_;refine q_do _ (λW=>dS amD i om om) ?_;rw[alQ,alQ,fJ om,fJ om];intro w4 hw;have d:=d.grow hw;simp only[alU,anM m,apO,m] at d;rw[show k*1+new.length - k*1=1 by omega,anR (show (xs.take (k*1)).length<=k*1+new.length by omega),amZ] at d;refine xQ 0 (src:=xs.drop (k*1)) amD i d rfl ?_ (λj u f=>?_) ?_ O λ_ w5 d=>?_
  ·rw[t];congr 1;rw[amQ om]
  ·rw[cK];refine d.cell 1 rfl (0+k*1+j) ?_;rw[aoY] at f;rw[alU];rw[<-l] at f;rw[aoK] at f;split at f<;>first|exact f|cases f
  ·simp only[alI,alW,m,s,r];omega
  have A:((xs.take (k*1)++new++zs.drop 1).take (0+(k+1)*1)++xs.drop (k*1)++(xs.take (k*1)++new++zs.drop 1).drop (0+(k+1)*1+(xs.drop (k*1)).length))=(xs.take (k*1)++new++xs.drop (k*1))++(zs.drop 1).drop ((n - k)*1):=by
   rw[anM (show (xs.take (k*1)++new).length=0+(k+1)*1 by rw[alI,m,s];omega)];rw[apO,anR (show (xs.take (k*1)++new).length<=_ by rw[alI,m,s,t];omega),amZ]
   congr 2
   rw[alI,m,s,t];omega
  simp only[aoC] at d;rw[A] at d;have d:=d.toU 1 (n+1) c (by simp only[alI,alW,m,s,r];omega) P a6;rw[anM (show (xs.take (k*1)++new++xs.drop (k*1)).length=(n+1)*1 by simp only[alI,alW,m,s,r];omega)] at d;exact U _ _ ⟨_,rfl,OwnS.back d⟩
 ·have o:n+1<=cap:=om
  simp only[z,alL,rs];rw[show (n:Int)+1=((n+1:Nat):Int) by omega];refine aD (jM amD i om om) |>.mpr ?_;rw[show subA (ax (⟨g,0,aw⟩:Addr)) 0 cap 1=ax ⟨g,0,aw⟩ from EZ (a:=⟨g,0,aw⟩),alQ];rw[aA (n:=(k:Int)+1) om om,show (k:Int)+1=((k+1:Nat):Int) by omega];refine aD (dS amD i om om) |>.mpr ?_;rw[alQ,fJ om];refine aD (ov_s (a:=⟨nb,0,aw⟩) (b:=⟨g,0+(k+1)*1,aw⟩) Z (tA:=9) (tB:=9) (kA:=new.length) (kB:=cur.size) (by simp[World.shape?,q]) (by simp[World.shape?,hg]) (by rw[N];omega) (by simp[World.frozen?,q]) (by simp[World.frozen?,q])) |>.mpr ?_;simp only[rs,anK];refine quiet ?_;refine oY ?_;rw[aA om om,show (k:Int)+1=((k+1:Nat):Int) by omega];refine q_do _ (λW=>dS amD i om om) ?_;refine q_do _ (λW=>dS amD i om om) ?_;rw[alQ,alQ,fJ om,fJ om];intro w3 hw;have d:=E.grow hw;have F:∀j u,(xs.drop (k*1))[j]?=ax u->cur.toList[k*1+j]?=ax u:=λj u f=>by
   rw[aoY,<-l,aoK] at f;split at f<;>first|exact f|cases f
  refine xQ 0 (src:=xs.drop (k*1)) amD i d rfl ?_ (λj u f=>?_) ?_ O λ_ w4 d=>?_
  ·rw[t];congr 1;rw[Nat.min_eq_right om];omega
  ·rw[cK,alU];exact d.cell 0 rfl _ (F j u f)
  ·rw[t,C];have:(n - k)*1+(k+1)*1=(n+1)*1:=by rw[<-aoA];congr 1;omega
   have:(n+1)*1<=cap*1:=anC _ o;omega
  simp only[aoC] at d;refine aD (dS amD i om om) |>.mpr ?_;rw[alQ,fJ om];have R:w4.heap[nb]?=ax (.cells new.toArray 9 (0,0)):=(d.grew.block nb (dV q) D).trans q;have b6:(k+1)*1<=cap*1:=anC _ om;have b2:(n+1)*1<=cap*1:=anC _ o;have b3:(n - k)*1+(k+1)*1=(n+1)*1:=by rw[<-aoA];congr 1;omega
  refine xQ 0 (src:=new) amD i d rfl ?_ (λj u f=>by rw[cK,alU];exact aI (T:=9) R f) ?_ S λ_ w5 d=>?_
  ·rw[s,amQ om]
  ·simp only[alI,alR,alW,C,s,t];omega
  simp only[aoC] at d;have a7:cur.toList.take (k*1)=xs.take (k*1):=by
   rw[<-l,aqC,amQ (anC _ om)]
  have A:((cur.toList.take (0+(k+1)*1)++xs.drop (k*1)++cur.toList.drop (0+(k+1)*1+(xs.drop (k*1)).length)).take (0+k*1)++new++(cur.toList.take (0+(k+1)*1)++xs.drop (k*1)++cur.toList.drop (0+(k+1)*1+(xs.drop (k*1)).length)).drop (0+k*1+new.length))
   =(xs.take (k*1)++new++xs.drop (k*1))++cur.toList.drop (0+(k+1)*1+(xs.drop (k*1)).length):=by
   have B:(cur.toList.take (0+(k+1)*1)).length=0+(k+1)*1:=by rw[alR,C];omega
   rw[alS (cur.toList.take (0+(k+1)*1))];rw[asO (by rw[B];omega),aqC,amQ om,alU,a7];rw[apO,anR (show (cur.toList.take (0+(k+1)*1)).length<=k*1+new.length by rw[B,s];omega),amZ];rw[show k*1+new.length - (cur.toList.take (0+(k+1)*1)).length=0 by rw[B,s];omega,aoL];simp only[alU,alS]
  rw[A] at d;have d:=d.toU 1 (n+1) cap (by simp only[alI,alR,alW,C,s,r];omega) o (by simp only[maxLen] at M;exact M);rw[anM (show (xs.take (k*1)++new++xs.drop (k*1)).length=(n+1)*1 by simp only[alI,alR,alW,s,r];omega)] at d;exact U _ _ ⟨_,rfl,OwnS.back d⟩
theorem ov_o {a b:Addr}{c ca d cb:Nat}(f:a.block≠b.block){tA tB:TypeId}{kA kB:Nat}(g:w.shape? a.block=ax (tA,kA))(h:w.shape? b.block=ax (tB,kB))(i:kB≠0)(j:w.frozen? a=au)(k:w.frozen? { block:=a.block,off:=kA }=au) :
  (fX (.func (.func 250) #[] #[]) #[.slice (ax a) c ca,.slice (ax b) d cb]).run ah w=.ok (.value (.bool au)) w:=by
 have l:(callFunc 250 #[.slice (ax a) c ca,.slice (ax b) d cb]).run ah w=.ok (.value (.bool au)) w:=by
  rw[run_callFunc_extern (e:=Extern.SlicesOverlaps.overlaps #[23,23] #[4]) func250 krx krx krx krx];rw[Lib.run_overlaps_apart w 23 4 25 amA 6 (λw=>by kernel_rfl) a b c ca d cb f tA tB kA kB g h i j k];rfl
 simpa[fX,invoke,Deferred.ofValue,resolve] using l
theorem JR (v:aq)(n:Nat)(xs:List aq)(k nb:Nat)(new:List aq)(w:ao)(hu:(Ent.urow 25 6 v n xs).is w)(q:w.heap[nb]?=ax (.cells new.toArray 25 (0,0)))(s:new.length=6)
  (D:¬(Ent.urow 25 6 v n xs).blk nb) (h1:∀u∈xs,u.oneCell'=av) (S:∀u∈new,u.oneCell'=av) (hk:k<=n) (hb:n<=100000000000) :
  Ret ah 202 #[v,.int .i64 (k:Int),.slice (ax ⟨nb,0,aw⟩) 1 1] w
   (λv' w'=>∃e',e'=Ent.urow 25 6 v' (n+1) (xs.take (k*6)++new++xs.drop (k*6))∧Turn (.urow 25 6 v n xs) e' w w'):=by
 have r:xs.length=n*6:=(show w.ownsRow 0 25 6 v n xs from hu).1;have G:Sl w (.slice (ax ⟨nb,0,aw⟩) 1 1) 6 1 new:=⟨om,ax ⟨nb,0,aw⟩,1,rfl,λh=>(by cases h),λp hp=>by cases hp;exact⟨λ_=>rfl,λj u f=>by rw[alU];exact aI (T:=25) q f⟩⟩;have d:=OwnS.lend hu;refine aZ λK U=>dW ?_;unfold bT dx bnx eqx mbx slx lnx ecx apx cx;have H:elB ah 25 6 88=true:=krx
 have i:(Tryz.prog.info? 25).map (·.size)=ax 6:=krx
 obtain⟨a,cap,rfl,a8⟩:∃a cap,v=.slice a n cap∧n<=cap:=by
  rcases (show w.ownsRow 0 25 6 v n xs from hu).2 with ⟨rfl,rfl⟩|⟨g,cap,cur,rfl,_,_,I,_⟩
  ·exact⟨aw,0,rfl,alP _⟩
  ·exact⟨_,cap,rfl,I⟩
 refine aD (dS amA i om om) |>.mpr ?_;rw[bE amA G];simp only[rs,Int.natCast_one,Int.one_ne_zero,alL];rw[bQ amA];simp only[rs];by_cases V:k=n
 ·subst V;simp only[alK,rs];refine bR 0 amA H dc d rfl G S om om λv' w2 d=>?_;refine U _ _ ⟨_,rfl,?_⟩;have e:xs.take (k*6)++new++xs.drop (k*6)=xs++new:=by rw[amP om,anR om,amE]
  rw[e];exact OwnS.back (L:=[]) d
 have B:k < n:=om
 have J:¬(k:Int)=(n:Int):=om
 simp only[J,alL,rs];rcases (show w.ownsRow 0 25 6 (.slice a n cap) n xs from hu).2 with ⟨_,h0⟩|⟨g,b0,cur,he,b4,hg,I,M,N,l⟩
 ·omega
 injection he with X _ Y
 subst X;subst Y;rw[aA om om,PG amA];simp only[rs];have Z:nb≠g:=λe=>D (by rw[e];rfl);have C:cur.toList.length=cap*6:=by simpa using N
 have E:OwnS (Ent.urow 25 6 (.slice (ax ⟨g,0,aw⟩) n cap) n xs).blk w w [.cells g cur.toList 25]:=
  d.turn 0 rfl ⟨Grew.refl _ _,by show w.heap[g]?=_;rw[hg],λj f=>.inl (by simp only[Ent.cells] at f;subst f;rfl)⟩
 have a1:∀j u,xs[j]?=ax u->w.cell? ⟨g,0+j,aw⟩=ax u:=λj u f=>by
  rw[alU];exact E.cell 0 rfl j (by rw[<-l] at f;rw[aoK] at f;split at f<;>first|exact f|cases f)
 have t:(xs.drop (k*6)).length=(n - k)*6:=by rw[alW,r,<-arK]
 have O:∀u∈xs.drop (k*6),u.oneCell'=true:=λu hu=>h1 u (apI hu);by_cases z:(cap:Int) < (n:Int)+1
 ·simp only[z,alK,rs];refine aD (jM amA i om om) |>.mpr ?_;rw[show subA (ax (⟨g,0,aw⟩:Addr)) 0 cap 6=ax ⟨g,0,aw⟩ from EZ (a:=⟨g,0,aw⟩),alQ];rw[aA (n:=(n:Int)+1 - k) om om,show (n:Int)+1 - k=((n+1 - k:Nat):Int) by omega];refine Vb (olds:=xs.take (k*6)) amA anG H dc E (by rw[alR,r,amQ om]) (λj u f=>a1 j u (by rw[aoK] at f;split at f<;>first|exact f|cases f)) om om om om λb c zs w2 P a6 b5 d=>?_;rw[show k+(n+1 - k)=n+1 by omega] at P ⊢;have m:(xs.take (k*6)).length=k*6:=by rw[alR,r,amQ om]
  refine aD (dS amA i om om) |>.mpr ?_;rw[alQ,fJ om];have b1:b≠g:=by
   have:=(aoG.1 d.apart).1 (.cells g cur.toList 25) sm;intro e;exact this b rfl e
  have Q:∀{W:ao} {b':Nat} {x y:List aq},OwnS (Ent.urow 25 6 (.slice (ax ⟨g,0,aw⟩) n cap) n xs).blk w W [.cells b' x 25,.cells g y 25]->W.heap[nb]?=ax (.cells new.toArray 25 (0,0)):=λh=>(h.grew.block nb (dV q) D).trans q;refine xQ 0 (src:=new) amA i d rfl ?_ (λj u f=>by rw[cK,alU];exact aI (T:=25) (Q d) f) ?_ S λ_ w3 d=>?_
  ·rw[s,amQ om]
  ·rw[alI,m,s];omega
  refine quiet ?_;refine oY ?_;rw[aA om om,show (k:Int)+1=((k+1:Nat):Int) by omega];refine q_do _ (λW=>dS amA i om om) ?_;refine q_do _ (λW=>dS amA i om om) ?_;rw[alQ,alQ,fJ om,fJ om];intro w4 hw;have d:=d.grow hw;simp only[alU,anM m,apO,m] at d;rw[show k*6+new.length - k*6=6 by omega,anR (show (xs.take (k*6)).length<=k*6+new.length by omega),amZ] at d;refine xQ 0 (src:=xs.drop (k*6)) amA i d rfl ?_ (λj u f=>?_) ?_ O λ_ w5 d=>?_
  ·rw[t];congr 1;rw[amQ om]
  ·rw[cK];refine d.cell 1 rfl (0+k*6+j) ?_;rw[aoY] at f;rw[alU];rw[<-l] at f;rw[aoK] at f;split at f<;>first|exact f|cases f
  ·simp only[alI,alW,m,s,r];omega
  have A:((xs.take (k*6)++new++zs.drop 6).take (0+(k+1)*6)++xs.drop (k*6)++(xs.take (k*6)++new++zs.drop 6).drop (0+(k+1)*6+(xs.drop (k*6)).length))=(xs.take (k*6)++new++xs.drop (k*6))++(zs.drop 6).drop ((n - k)*6):=by
   rw[anM (show (xs.take (k*6)++new).length=0+(k+1)*6 by rw[alI,m,s];omega)];rw[apO,anR (show (xs.take (k*6)++new).length<=_ by rw[alI,m,s,t];omega),amZ]
   congr 2
   rw[alI,m,s,t];omega
  simp only[aoC] at d;rw[A] at d;have d:=d.toU 6 (n+1) c (by simp only[alI,alW,m,s,r];omega) P a6;rw[anM (show (xs.take (k*6)++new++xs.drop (k*6)).length=(n+1)*6 by simp only[alI,alW,m,s,r];omega)] at d;exact U _ _ ⟨_,rfl,OwnS.back d⟩
 ·have o:n+1<=cap:=om
  simp only[z,alL,rs];rw[show (n:Int)+1=((n+1:Nat):Int) by omega];refine aD (jM amA i om om) |>.mpr ?_;rw[show subA (ax (⟨g,0,aw⟩:Addr)) 0 cap 6=ax ⟨g,0,aw⟩ from EZ (a:=⟨g,0,aw⟩),alQ];rw[aA (n:=(k:Int)+1) om om,show (k:Int)+1=((k+1:Nat):Int) by omega];refine aD (dS amA i om om) |>.mpr ?_;rw[alQ,fJ om];refine aD (ov_o (a:=⟨nb,0,aw⟩) (b:=⟨g,0+(k+1)*6,aw⟩) Z (tA:=25) (tB:=25) (kA:=new.length) (kB:=cur.size) (by simp[World.shape?,q]) (by simp[World.shape?,hg]) (by rw[N];omega) (by simp[World.frozen?,q]) (by simp[World.frozen?,q])) |>.mpr ?_;simp only[rs,anK];refine quiet ?_;refine oY ?_;rw[aA om om,show (k:Int)+1=((k+1:Nat):Int) by omega];refine q_do _ (λW=>dS amA i om om) ?_;refine q_do _ (λW=>dS amA i om om) ?_;rw[alQ,alQ,fJ om,fJ om];intro w3 hw;have d:=E.grow hw;have F:∀j u,(xs.drop (k*6))[j]?=ax u->cur.toList[k*6+j]?=ax u:=λj u f=>by
   rw[aoY,<-l,aoK] at f;split at f<;>first|exact f|cases f
  refine xQ 0 (src:=xs.drop (k*6)) amA i d rfl ?_ (λj u f=>?_) ?_ O λ_ w4 d=>?_
  ·rw[t];congr 1;rw[Nat.min_eq_right om];omega
  ·rw[cK,alU];exact d.cell 0 rfl _ (F j u f)
  ·rw[t,C];have:(n - k)*6+(k+1)*6=(n+1)*6:=by rw[<-aoA];congr 1;omega
   have:(n+1)*6<=cap*6:=anC _ o;omega
  simp only[aoC] at d;refine aD (dS amA i om om) |>.mpr ?_;rw[alQ,fJ om];have R:w4.heap[nb]?=ax (.cells new.toArray 25 (0,0)):=(d.grew.block nb (dV q) D).trans q;have b6:(k+1)*6<=cap*6:=anC _ om;have b2:(n+1)*6<=cap*6:=anC _ o;have b3:(n - k)*6+(k+1)*6=(n+1)*6:=by rw[<-aoA];congr 1;omega
  refine xQ 0 (src:=new) amA i d rfl ?_ (λj u f=>by rw[cK,alU];exact aI (T:=25) R f) ?_ S λ_ w5 d=>?_
  ·rw[s,amQ om]
  ·simp only[alI,alR,alW,C,s,t];omega
  simp only[aoC] at d;have a7:cur.toList.take (k*6)=xs.take (k*6):=by
   rw[<-l,aqC,amQ (anC _ om)]
  have A:((cur.toList.take (0+(k+1)*6)++xs.drop (k*6)++cur.toList.drop (0+(k+1)*6+(xs.drop (k*6)).length)).take (0+k*6)++new++(cur.toList.take (0+(k+1)*6)++xs.drop (k*6)++cur.toList.drop (0+(k+1)*6+(xs.drop (k*6)).length)).drop (0+k*6+new.length))
   =(xs.take (k*6)++new++xs.drop (k*6))++cur.toList.drop (0+(k+1)*6+(xs.drop (k*6)).length):=by
   have B:(cur.toList.take (0+(k+1)*6)).length=0+(k+1)*6:=by rw[alR,C];omega
   rw[alS (cur.toList.take (0+(k+1)*6))];rw[asO (by rw[B];omega),aqC,amQ om,alU,a7];rw[apO,anR (show (cur.toList.take (0+(k+1)*6)).length<=k*6+new.length by rw[B,s];omega),amZ];rw[show k*6+new.length - (cur.toList.take (0+(k+1)*6)).length=0 by rw[B,s];omega,aoL];simp only[alU,alS]
  rw[A] at d;have d:=d.toU 6 (n+1) cap (by simp only[alI,alR,alW,C,s,r];omega) o (by simp only[maxLen] at M;exact M);rw[anM (show (xs.take (k*6)++new++xs.drop (k*6)).length=(n+1)*6 by simp only[alI,alR,alW,s,r];omega)] at d;exact U _ _ ⟨_,rfl,OwnS.back d⟩
theorem Km (v:aq)(n:Nat)(xs:List aq)(k:Nat)(w:ao)(hu:(Ent.urow 9 1 v n xs).is w)(F:∀u∈xs,u.oneCell'=av)(O:k < n)(P:n<=100000000000) :
  Ret ah 219 #[v,.int .i64 (k:Int),.int .i64 ((k+1:Nat):Int)] w
   (λv' w'=>∃e',e'=Ent.urow 9 1 v' (n - 1) (xs.take (k*1)++xs.drop ((k+1)*1))∧Turn (.urow 9 1 v n xs) e' w w'):=by
 have d:xs.length=n*1:=(show w.ownsRow 0 9 1 v n xs from hu).1;have b:=OwnS.lend hu;refine aZ λK G=>kG ?_;unfold fM nz;have o:elB ah 9 1 16=true:=krx
 have e:(Tryz.prog.info? 9).map (·.size)=ax 1:=krx
 rcases (show w.ownsRow 0 9 1 v n xs from hu).2 with ⟨_,Q⟩|⟨g,cap,cur,rfl,H,I,s,p,t,c⟩
 ·omega
 have l:cur.toList.length=cap*1:=by simpa using t
 have E:n*1<=cap*1:=anC _ s;have x:OwnS (Ent.urow 9 1 (.slice (ax ⟨g,0,aw⟩) n cap) n xs).blk w w [.cells g cur.toList 9]:=
  b.turn 0 rfl ⟨Grew.refl _ _,by show w.heap[g]?=_;rw[I],λj i=>.inl (by simp only[Ent.cells] at i;subst i;rfl)⟩
 rw[bQ amD];refine aD (Jb amD e om om om om) |>.mpr ?_;have y:¬(k:Int)=((k+1:Nat):Int):=om
 simp only[rs,y,alL];rw[bQ amD];refine quiet ?_;refine q_do _ (λW=>jM amD e om om) ?_;refine q_do _ (λW=>dS amD e om om) ?_;rw[show subA (ax (⟨g,0,aw⟩:Addr)) 0 cap 1=ax ⟨g,0,aw⟩ from EZ (a:=⟨g,0,aw⟩),alQ,alQ];obtain⟨a,J,z⟩:∃a,subA (ax (⟨g,0,aw⟩:Addr)) (k+1) cap 1=ax a∧(k+1 < cap->a=⟨g,(k+1)*1,aw⟩):=by
  by_cases h:k+1 < cap
  ·exact⟨_,by rw[fJ h,alU],λ_=>rfl⟩
  ·exact⟨⟨g,0,aw⟩,by unfold subA;rw[alH om],λL=>absurd L h⟩
 rw[J];intro w3 hw;have b:=x.grow hw;have f:(xs.drop ((k+1)*1)).length=(n - (k+1))*1:=by rw[alW,d,<-arK]
 have M:(k+1)*1<=n*1:=anC _ om;have q:k*1+(n - (k+1))*1=(n - 1)*1:=by rw[<-aoA];congr 1;omega
 have N:(n - 1)*1+1=n*1:=by rw[<-anS];congr 1;omega
 refine ID 0 (news:=xs.drop ((k+1)*1)) amD o b rfl f (λj u i=>?_) (λu hu=>F u (apI hu)) om (by rw[f,l];omega) λR b=>?_
 ·have A:j < (xs.drop ((k+1)*1)).length:=(alY.1 i).1;have B:k+1 < cap:=by
   rcases amL (k+1) n with h|h
   ·omega
   ·rw[f,show n - (k+1)=0 by omega] at A;omega
  rw[z B,cK];refine b.cell 0 rfl _ ?_;rw[aoY,<-c,aoK] at i;split at i<;>first|exact i|cases i
 simp only[aoC] at b;rw[bQ amD];rw[show k+(n - (k+1))=n - 1 by omega];refine aD (Md amD e om om om) |>.mpr ?_;rw[alQ,alQ,fJ om,alU,show n - (n - 1)=1 by omega];have C:cur.toList.take (k*1)=xs.take (k*1):=by
  rw[<-c,aqC,amQ (anC _ om)]
 have m:(xs.take (k*1)).length=k*1:=by rw[alR,d,amQ om]
 rw[C] at b;have r:(xs.take (k*1)++xs.drop ((k+1)*1)).length=(n - 1)*1:=by rw[alI,m,f,q]
 refine OW 0 amD o (show zB ah 9=av by kernel_rfl) om b rfl (by simp only[alI,alW,l,m,d];omega) λ_ S T D b=>?_;simp only[aoC] at b;rw[anM r,alS (xs.take (k*1)++xs.drop ((k+1)*1))] at b;have b:=b.toU 1 (n - 1) cap (by simp only[alI,alW,l,m,d,D];omega) om (by simp only[maxLen] at p;exact p);rw[anM r] at b;exact G _ _ ⟨_,rfl,OwnS.back b⟩
theorem Kt (v:aq)(n:Nat)(xs:List aq)(k:Nat)(w:ao)(hu:(Ent.urow 25 6 v n xs).is w)(F:∀u∈xs,u.oneCell'=av)(O:k < n)(P:n<=100000000000) :
  Ret ah 220 #[v,.int .i64 (k:Int),.int .i64 ((k+1:Nat):Int)] w
   (λv' w'=>∃e',e'=Ent.urow 25 6 v' (n - 1) (xs.take (k*6)++xs.drop ((k+1)*6))∧Turn (.urow 25 6 v n xs) e' w w'):=by
 have d:xs.length=n*6:=(show w.ownsRow 0 25 6 v n xs from hu).1;have b:=OwnS.lend hu;refine aZ λK G=>dX ?_;unfold bU nz;have o:elB ah 25 6 88=true:=krx
 have e:(Tryz.prog.info? 25).map (·.size)=ax 6:=krx
 rcases (show w.ownsRow 0 25 6 v n xs from hu).2 with ⟨_,Q⟩|⟨g,cap,cur,rfl,H,I,s,p,t,c⟩
 ·omega
 have l:cur.toList.length=cap*6:=by simpa using t
 have E:n*6<=cap*6:=anC _ s;have x:OwnS (Ent.urow 25 6 (.slice (ax ⟨g,0,aw⟩) n cap) n xs).blk w w [.cells g cur.toList 25]:=
  b.turn 0 rfl ⟨Grew.refl _ _,by show w.heap[g]?=_;rw[I],λj i=>.inl (by simp only[Ent.cells] at i;subst i;rfl)⟩
 rw[bQ amA];refine aD (Jb amA e om om om om) |>.mpr ?_;have y:¬(k:Int)=((k+1:Nat):Int):=om
 simp only[rs,y,alL];rw[bQ amA];refine quiet ?_;refine q_do _ (λW=>jM amA e om om) ?_;refine q_do _ (λW=>dS amA e om om) ?_;rw[show subA (ax (⟨g,0,aw⟩:Addr)) 0 cap 6=ax ⟨g,0,aw⟩ from EZ (a:=⟨g,0,aw⟩),alQ,alQ];obtain⟨a,J,z⟩:∃a,subA (ax (⟨g,0,aw⟩:Addr)) (k+1) cap 6=ax a∧(k+1 < cap->a=⟨g,(k+1)*6,aw⟩):=by
  by_cases h:k+1 < cap
  ·exact⟨_,by rw[fJ h,alU],λ_=>rfl⟩
  ·exact⟨⟨g,0,aw⟩,by unfold subA;rw[alH om],λL=>absurd L h⟩
 rw[J];intro w3 hw;have b:=x.grow hw;have f:(xs.drop ((k+1)*6)).length=(n - (k+1))*6:=by rw[alW,d,<-arK]
 have M:(k+1)*6<=n*6:=anC _ om;have q:k*6+(n - (k+1))*6=(n - 1)*6:=by rw[<-aoA];congr 1;omega
 have N:(n - 1)*6+6=n*6:=by rw[<-anS];congr 1;omega
 refine ID 0 (news:=xs.drop ((k+1)*6)) amA o b rfl f (λj u i=>?_) (λu hu=>F u (apI hu)) om (by rw[f,l];omega) λR b=>?_
 ·have A:j < (xs.drop ((k+1)*6)).length:=(alY.1 i).1;have B:k+1 < cap:=by
   rcases amL (k+1) n with h|h
   ·omega
   ·rw[f,show n - (k+1)=0 by omega] at A;omega
  rw[z B,cK];refine b.cell 0 rfl _ ?_;rw[aoY,<-c,aoK] at i;split at i<;>first|exact i|cases i
 simp only[aoC] at b;rw[bQ amA];rw[show k+(n - (k+1))=n - 1 by omega];refine aD (Md amA e om om om) |>.mpr ?_;rw[alQ,alQ,fJ om,alU,show n - (n - 1)=1 by omega];have C:cur.toList.take (k*6)=xs.take (k*6):=by
  rw[<-c,aqC,amQ (anC _ om)]
 have m:(xs.take (k*6)).length=k*6:=by rw[alR,d,amQ om]
 rw[C] at b;have r:(xs.take (k*6)++xs.drop ((k+1)*6)).length=(n - 1)*6:=by rw[alI,m,f,q]
 refine OW 0 amA o (show zB ah 25=av by kernel_rfl) om b rfl (by simp only[alI,alW,l,m,d];omega) λ_ S T D b=>?_;simp only[aoC] at b;rw[anM r,alS (xs.take (k*6)++xs.drop ((k+1)*6))] at b;have b:=b.toU 6 (n - 1) cap (by simp only[alI,alW,l,m,d,D];omega) om (by simp only[maxLen] at p;exact p);rw[anM r] at b;exact G _ _ ⟨_,rfl,OwnS.back b⟩
end
section
open Eng
def HN(t0 w)(K:KT):=nz f137 1 [] [] [] (zg [0] [t0]) w K
theorem Iy{t0 w K}:HN t0 w K->Calls ah 137 #[t0] w K:=cw func137
def EY(t0 w)(K:KT):=nz f69 1 [] [] [] (zg [0] [t0]) w K
theorem Gn{t0 w K}:EY t0 w K->Calls ah 69 #[t0] w K:=cw func69
def CB(t0 w)(K:KT):=nz f141 1 [] [] [] (zg [0] [t0]) w K
theorem FE{t0 w K}:CB t0 w K->Calls ah 141 #[t0] w K:=cw func141
def Cz(t0 w)(K:KT):=nz f139 1 [] [] [] (zg [0] [t0]) w K
theorem Fq{t0 w K}:Cz t0 w K->Calls ah 139 #[t0] w K:=cw func139
def CP(t0 w)(K:KT):=nz f138 1 [] [] [] (zg [0] [t0]) w K
theorem FB{t0 w K}:CP t0 w K->Calls ah 138 #[t0] w K:=cw func138
def Ay(t3 t6 w)(K:KT):=nz f140 63 [] [] [] (zg [3,6] [t3,t6]) w K
def E3(t0 t1 t2 w)(K:KT):=nz f140 1 [] [(16,[],λs v j w f=>Ay (s 3) (s 6) w K)] [] (zg [0,1,2] [t0,t1,t2]) w K
theorem Gr{t0 t1 t2 w K}:E3 t0 t1 t2 w K->Calls ah 140 #[t0,t1,t2] w K:=cz [(8,[])] [] func140
def xU(t0 t1 w)(K:KT):=nz f155 1 [] [] [] (zg [0,1] [t0,t1]) w K
theorem CT{t0 t1 w K}:xU t0 t1 w K->Calls ah 155 #[t0,t1] w K:=cw func155
def Ar(t3 t7 w)(a:JT)(K:KT):=nz f136 1887 [a] [nh 23 [3,7]] [] (zg [3,7] [t3,t7]) w K
def AU(t0 t2 t3 t5 t6 t7 w)(a:JT)(K:KT):=nz f136 351 [a] [nh 23 [3,7],(24,[3],λs v j w f=>Ar (vg v 0) (s 7) w (f 0) K)] [(18,7)] (zg [0,2,3,5,6,7] [t0,t2,t3,t5,t6,t7]) w K
def AM(t0 t2 t3 t4 w)(N1:JT)(K:KT):=nz f136 43 [N1] [nh 9 [3,4],(23,[3,7],λs v j w f=>AU (s 0) (s 2) (vg v 0) (s 5) (s 6) (vg v 1) w (f 0) K)] [] (zg [0,2,3,4] [t0,t2,t3,t4]) w K
def Et(t0 w)(K:KT):=nz f136 1 [] [(9,[3,4],λs v j w f=>AM (s 0) (s 2) (vg v 0) (vg v 1) w (f 0) K)] [] (zg [0] [t0]) w K
theorem GA{t0 w K}:Et t0 w K->Calls ah 136 #[t0] w K:=cz [(12,[3])] [(4,[3,4]),(11,[3,7])] func136
def Gv(t0 t1 w)(K:KT):=nz f146 1 [] [] [] (zg [0,1] [t0,t1]) w K
theorem IA{t0 t1 w K}:Gv t0 t1 w K->Calls ah 146 #[t0,t1] w K:=cw func146
def G1(t0 t1 t2 w)(K:KT):=nz f70 1 [] [] [] (zg [0,1,2] [t0,t1,t2]) w K
theorem Ir{t0 t1 t2 w K}:G1 t0 t1 t2 w K->Calls ah 70 #[t0,t1,t2] w K:=cw func70
def Be(t2 t4 w)(K:KT):=nz f88 7 [] [] [] (zg [2,4] [t2,t4]) w K
def ET(t0 t1 w)(K:KT):=nz f88 1 [] [(10,[],λs v j w f=>Be (s 2) (s 4) w K)] [] (zg [0,1] [t0,t1]) w K
theorem HT{t0 t1 w K}:ET t0 t1 w K->Calls ah 88 #[t0,t1] w K:=cz [(5,[])] [] func88
def BQ(t0 w)(K:KT):=nz f95 1 [] [] [] (zg [0] [t0]) w K
theorem FD{t0 w K}:BQ t0 w K->Calls ah 95 #[t0] w K:=cw func95
def xD(t0 w)(K:KT):=nz f164 1 [] [] [] (zg [0] [t0]) w K
theorem Dd{t0 w K}:xD t0 w K->Calls ah 164 #[t0] w K:=cw func164
def rF(t2 t4 w)(K:KT):=nz f163 31 [] [] [] (zg [2,4] [t2,t4]) w K
def sU(t1 t2 t5 t23 t24 t25 w)(a b:JT)(K:KT):=nz f163 1367 [a,b] [nh 22 [],nh 13 [25]] [] (zg [1,2,5,23,24,25] [t1,t2,t5,t23,t24,t25]) w K
def wS(t0 t1 w)(K:KT):=nz f163 1 [] [(13,[25],λs v j w f=>sU (s 1) (s 2) (s 5) (s 23) (s 24) (vg v 0) w (f 1) (f 0) K),(22,[],λs v j w f=>rF (s 2) (s 4) w K)] [] (zg [0,1] [t0,t1]) w K
theorem Dj{t0 t1 w K}:wS t0 t1 w K->Calls ah 163 #[t0,t1] w K:=cz [(11,[])] [(6,[25])] func163
end
section
open Eng
def fH(t0 t1 t7 t8 w)(N1:JT)(K:KT):=nz f207 21 [N1] [nh 5 [8]] [] (zg [0,1,7,8] [t0,t1,t7,t8]) w K
def fS(t0 t1 w)(K:KT):=nz f207 1 [] [(5,[8],λs v j w f=>fH (s 0) (s 1) (s 7) (vg v 0) w (f 0) K)] [] (zg [0,1] [t0,t1]) w K
theorem lA{t0 t1 w K}:fS t0 t1 w K->Calls ah 207 #[t0,t1] w K:=cz [] [(2,[8])] func207
end
section
open Eng Go.RowKit
theorem Wv:eD ah 9=true:=krx
theorem YG {l:List (List UInt8)}{x:List UInt8}(h:i < l.length)(a:x ∉ l.take i)(he:l[i]=x):l.idxOf x=i:=by
 have e:l=l.take i++(l[i]::l.drop (i+1)):=by
  rw[<-anB h,amX]
 rw[e,List.idxOf_append,alG a,he,List.idxOf_cons_self,alR];omega
theorem QJ (va:aq)(l:List (List UInt8))(x:List UInt8)(w:ao)(c:Sl w va 1 l.length (bZ l))(f:l.length<=1099511627776) :
  Ret ah 207 #[va,.string ⟨x.toArray⟩] w (λv w'=>v=.int .i64 (if l.idxOf x < l.length then (l.idxOf x:Int) else -1)∧w=w'):=by
 refine aZ λK d=>lA ?_;unfold fS nz;rw[bE amD c];refine loop (λvs w'=>∃(i:Nat),vs=[.int .i64 i]∧i<=l.length∧x ∉ l.take i∧w=w') (λvs _=>l.length - n0 vs) ⟨0,rfl,om,sm,rfl⟩ ?_;rintro vs w2 ⟨i,rfl,hi,hm,rfl⟩ _;simp only[fH,gd,rs,nz];by_cases b:(i:Int) < (l.length:Int)
 ·have a:i < l.length:=om
  simp only[b,alK,rs];refine LP (.string ⟨(l[i]).toArray⟩) amD krx c om (by rw[alQ];exact nX a) λq e=>?_;rw[aJ Wv e];simp only[rs];by_cases he:x=l[i]
  ·simp only[<-he,alK,rs];have:=YG a hm he.symm;exact d _ _ ⟨by rw[this,alH a],rfl⟩
  ·simp only[he,alL,rs];rw[aA om om];refine aY ⟨i+1,rfl,om,?_,rfl⟩ (by simp[n0,RowKit.intOf];omega);rw[List.take_add_one,alT a];simp only[Option.toList,amK,amH,not_or];exact⟨hm,he⟩
 ·simp only[b,alL,i_f];rw[amP om] at hm;exact d _ _ ⟨by rw[alG (by rw[atS];exact hm)],rfl⟩
end
section
open Eng Go.RowKit
def obC (o:Ob)(vk vc:aq):List Value:=[.int .i64 o.k,.int .i64 o.n,.int .i64 o.g,.string ⟨o.s.toArray⟩,vk,vc]
def obV (o:Ob)(vk vc:aq):Value:=.agg (obC o vk vc).toArray
def obE (b:Nat)(o:Ob)(vk vc:aq):Ent:=.cells b (obC o vk vc) 25
structure ObAt (A:Nat->Prop) (w:ao) (o:Ob) (vk vc:aq) (cs:List aq):Prop where
 keys:SlA A w vk 1 o.keys.length (bZ o.keys)
 kids:SlA A w vc 6 o.kids.length cs
 all:OVs A w cs o.kids
theorem OV.open {o:Ob}(h:OV A w v o):∃vk vc cs,v=obV o vk vc∧ObAt A w o vk vc cs:=by
 cases o with
|mk k n g s keys kids=>
  rw[OV] at h;obtain⟨vk,vc,cs,rfl,a,b,c⟩:=h;exact⟨vk,vc,cs,rfl,a,b,c⟩
theorem ObAt.ov {o:Ob}(h:ObAt A w o vk vc cs):OV A w (obV o vk vc) o:=by
 cases o with
|mk k n g s keys kids=>
  rw[OV];exact⟨vk,vc,cs,rfl,h.keys,h.kids,h.all⟩
theorem ObAt.kept {A:Nat->Prop}{w w':ao}{o:Ob}{vk vc:aq}{cs:List aq}(h:ObAt A w o vk vc cs)(a:Kept A w w'):ObAt A w' o vk vc cs:=
 ⟨h.keys.kept a,h.kids.kept a,OVs.kept a _ _ h.all⟩
theorem RA (a:∀b,A b->b < w.heap.size)(h:Below w.heap.size w w'):Kept A w w':=λb c=>h.block b (a b c)
theorem OwnS.keptIn (h:Own w0 w L):Kept (InW w0) w0 w:=RA (λ_ h=>h) h.done
theorem ObAt.own {o:Ob}(h:ObAt (InW w0) w0 o vk vc cs)(a:Own w0 w L):ObAt (InW w0) w o vk vc cs:=h.kept (OwnS.keptIn a)
theorem SlA.one {n:Nat}(h:SlA A w v sz n cs):v.oneCell'=true:=by
 obtain⟨⟨_,a,cap,rfl,_⟩,_⟩:=h;rfl
theorem lF:aggN ah 25=ax 6:=krx
theorem szOb:(Tryz.prog.info? 25).map (·.size)=ax 6:=krx
theorem aiW:eD ah 23=true:=krx
theorem QW:eD ah 22=true:=krx
theorem nI65:eD ah 2=true:=krx
theorem aU:eD ah 3=true:=krx
theorem Kc:eD ah 9=true:=krx
theorem akX:fOff ah 25 0=ax 0:=krx
theorem ajC:fOff ah 25 1=ax 1:=krx
theorem alE:fOff ah 25 2=ax 2:=krx
theorem adL:fOff ah 25 3=ax 3:=krx
theorem akW:fOff ah 25 4=ax 4:=krx
theorem aiG:fOff ah 25 5=ax 5:=krx
section
variable {w:ao}{PK:PKT}{K:VWP}{S:Nat->Prop}{w0:ao}{L:List Ent}
theorem fR {off:Nat}:DoX ah (mFA 25 (.pointer (ax ⟨b,off,aw⟩)) 0) w PK K=K (.pointer (ax ⟨b,off,aw⟩)) w:=aO akX
theorem Iu {off:Nat}:DoX ah (mFA 25 (.pointer (ax ⟨b,off,aw⟩)) 1) w PK K=K (.pointer (ax ⟨b,off+1,aw⟩)) w:=aO ajC
theorem abR {off:Nat}:DoX ah (mFA 25 (.pointer (ax ⟨b,off,aw⟩)) 2) w PK K=K (.pointer (ax ⟨b,off+2,aw⟩)) w:=aO alE
theorem G5 {off:Nat}:DoX ah (mFA 25 (.pointer (ax ⟨b,off,aw⟩)) 3) w PK K=K (.pointer (ax ⟨b,off+3,aw⟩)) w:=aO adL
theorem Af {off:Nat}:DoX ah (mFA 25 (.pointer (ax ⟨b,off,aw⟩)) 4) w PK K=K (.pointer (ax ⟨b,off+4,aw⟩)) w:=aO akW
theorem pF {off:Nat}:DoX ah (mFA 25 (.pointer (ax ⟨b,off,aw⟩)) 5) w PK K=K (.pointer (ax ⟨b,off+5,aw⟩)) w:=aO aiG
theorem iU (o:Ob)(a:vk.oneCell'=av)(c:vc.oneCell'=av)(d:OwnS S w0 w L)(k:∀b w',OwnS S w0 w' (obE b o vk vc::L)->K (.pointer (ax ⟨b,0,aw⟩)) w'):DoX ah (mBox 25 (obV o vk vc)) w PK K:=by
 cases vk<;>first|(cases a;done)|skip
 all_goals cases vc<;>first|(cases c;done)|exact bA (λb=>.pointer (ax ⟨b,0,aw⟩)) (obC o _ _) 25 (λ_=>by kernel_rfl) d k
def ob0:Ob:=.mk 0 0 0 [] [] []
theorem fO (a:OwnS S w0 w L)(k:∀b w',OwnS S w0 w' (obE b ob0 (.slice aw 0 0) (.slice aw 0 0)::L)->K (.pointer (ax ⟨b,0,aw⟩)) w'):DoX ah (iL 25) w PK K:=
 bA (λb=>.pointer (ax ⟨b,0,aw⟩)) (obC ob0 (.slice aw 0 0) (.slice aw 0 0)) 25 (λ_=>by kernel_rfl) a k
theorem kZ (o:Ob)(b:vk.oneCell'=av)(c:vc.oneCell'=av):∀v∈obC o vk vc,v.oneCell'=true:=by
 intro v a;simp only[obC,alN,anA,or_false] at a;rcases a with rfl|rfl|rfl|rfl|rfl|rfl<;>first|rfl|assumption
theorem bK (i:Nat){o o':Ob}{vk' vc':aq}(a:vk'.oneCell'=av)(c:vc'.oneCell'=av)(d:OwnS S w0 w L)(hi:L[i]?=ax (obE b o vk vc))(k:∀w',OwnS S w0 w' (L.set i (obE b o' vk' vc'))->K undef w') :
  DoX ah (aN 25 (.pointer (ax ⟨b,0,aw⟩)) (obV o' vk' vc')) w PK K:=gY i d hi (new:=obC o' vk' vc') szOb (kZ o' a c) rfl k
theorem ob_k (a:OwnS S w0 w L)(i:Nat){o:Ob}(hi:L[i]?=ax (obE b o vk vc)):DoX ah (aH 3 (.pointer (ax ⟨b,0,aw⟩))) w PK K=K (.int .i64 o.k) w:=aJ aU (a.cell i hi 0 rfl)
theorem ob_n (a:OwnS S w0 w L)(i:Nat){o:Ob}(hi:L[i]?=ax (obE b o vk vc)):DoX ah (aH 2 (.pointer (ax ⟨b,0+1,aw⟩))) w PK K=K (.int .i64 o.n) w:=aJ nI65 (a.cell i hi 1 rfl)
theorem ob_g (a:OwnS S w0 w L)(i:Nat){o:Ob}(hi:L[i]?=ax (obE b o vk vc)):DoX ah (aH 3 (.pointer (ax ⟨b,0+2,aw⟩))) w PK K=K (.int .i64 o.g) w:=aJ aU (a.cell i hi 2 rfl)
theorem ob_s (a:OwnS S w0 w L)(i:Nat){o:Ob}(hi:L[i]?=ax (obE b o vk vc)):DoX ah (aH 9 (.pointer (ax ⟨b,0+3,aw⟩))) w PK K=K (.string ⟨o.s.toArray⟩) w:=aJ Kc (a.cell i hi 3 rfl)
theorem oO (a:OwnS S w0 w L)(i:Nat){o:Ob}(hi:L[i]?=ax (obE b o vk vc)):DoX ah (aH 22 (.pointer (ax ⟨b,0+4,aw⟩))) w PK K=K vk w:=aJ QW (a.cell i hi 4 rfl)
theorem fL (a:OwnS S w0 w L)(i:Nat){o:Ob}(hi:L[i]?=ax (obE b o vk vc)):DoX ah (aH 23 (.pointer (ax ⟨b,0+5,aw⟩))) w PK K=K vc w:=aJ aiW (a.cell i hi 5 rfl)
theorem ob_v (a:OwnS S w0 w L)(i:Nat){o:Ob}(hi:L[i]?=ax (obE b o vk vc)):DoX ah (aH 25 (.pointer (ax ⟨b,0,aw⟩))) w PK K=K (obV o vk vc) w:=l_at (a.agg i hi lF)
theorem alF {os:List Ob}(f:Sl w vc 6 os.length cs)(c:OVs A w cs os)(hi:i < os.length)
  (k:∀v,OV A w v os[i]->K v w):DoX ah (mIA 23 vc (.int .i64 (i:Int))) w PK λt w=>DoX ah (aH 25 t) w PK2 K:=by
 obtain⟨b,off,cap,rfl,g⟩:=bX f om;refine aD (dY amA szOb om om) |>.mpr ?_;rw[alQ];obtain⟨a,h,e,d⟩:=OVs.get os cs i hi c;refine aD (aW (v:=.agg a.toArray) (AtV.agg lF h λj v l=>?_)) |>.mpr (k _ e);rw[anX];exact g _ _ (d j v l)
end
end
end Go.Proofs.YtlipjfcbjemicaaGreatDoor






namespace Go.Proofs.YtlipjfcbjemicaaGreatDoor
variable{A S:Nat->Prop}{C:ao->Prop}{D U:TypeId}{K K':VWP}{L:List Eng.Ent}{L0:Loop}{P:Program}{PK PK2:PKT}{R:Ending->FrameMode->ao->Prop}{W w w' w0:ao}{a hi lo:Int}{args ca fa:Array aq}{b cap d f i j m sz t:Nat}{cb:Array Bool}{cs cur new news xs:List aq}{e:Eng.Ent}{k':IntKind}{key:List UInt8}{q want y:Bool}{t0 v v' v1 v2 vc vk:aq}{u:FrameMode}{xo yo:Operand}{α β:Type}{σ:Eng.Sg}
section
open Eng Go.RowKit
theorem LL {x y:aq}(h:Ret P f args w (λv w'=>v=x∧Below w.heap.size w w'))(a:x=y)(b:Own w0 w L)
  (k:∀w',Own w0 w' L->K y w'):CallX P f args w PK K:=by
 refine Cj h ?_;rintro v w' ⟨rfl,c⟩;rw[a];exact k _ (b.grow c)
end
section
namespace Eng
open Go.RowKit
def sel (c:Bool)(x:aq):Value:=bc c x undef
theorem ahV {x:aq}:sel av x=x:=rfl
theorem aiC {x:aq}:sel au x=undef:=rfl
section
variable {P:Program}{w:ao}{PK:PKT}{K:VWP}
theorem adO {v x:aq}{want:Bool}:GDo v want (λE=>E x w) w K=K (sel (jJ v want) x) w:=by
 refine propext ⟨λh=>?_,λh=>⟨?_⟩⟩
 ·have:=h.out;cases hw:jJ v want<;>rw[hw] at this<;>exact this
 ·cases hw:jJ v want<;>rw[hw] at h<;>exact h
theorem Bt {c:Bool}{E a:(VWP)->Prop}(e:v=v')(b:jJ v' want=c)(h:c=av->∀d,E d=a d):GDo v want E w K=GDo v' want a w K:=by
 subst e;refine propext ⟨λx=>⟨?_⟩,λx=>⟨?_⟩⟩
 ·have:=x.out;subst b;cases hw:jJ v want with
 |false=>rw[hw] at this;exact this
 |true=>rw[hw,aF] at this;rw[aF,<-h hw];exact this
 ·have:=x.out;subst b;cases hw:jJ v want with
 |false=>rw[hw] at this;exact this
 |true=>rw[hw,aF] at this;rw[aF,h hw];exact this
theorem Zg {b:Bool}:jJ (.bool b) av=b:=by cases b<;>rfl
theorem Zx {b:Bool}:jJ (.bool b) au=!b:=by cases b<;>rfl
theorem VR {c y:Bool}:jJ (sel c (.bool y)) av=(c&&y):=by cases c<;>cases y<;>rfl
theorem We {c y:Bool}:jJ (sel c (.bool y)) au=(c&&!y):=by cases c<;>cases y<;>rfl
theorem afO {b:Bool}:(av&&b)=b:=rfl
theorem afT {b:Bool}:(b&&av)=b:=by cases b<;>rfl
theorem Xg {b y:Bool}:DoX P (kH (.bool b) (sel b (.bool y)) (.bool au)) w PK K=K (.bool (b&&y)) w:=by
 rw[Jl];cases b<;>rfl
theorem Z3 {b y:Bool}:DoX P (kH (.bool b) (.bool av) (sel (!b) (.bool y))) w PK K=K (.bool (b||y)) w:=by
 rw[Jl];cases b<;>rfl
end
def gs:=And.intro @adO (And.intro @Zg (And.intro @Zx (And.intro @Xg (And.intro @Z3 (And.intro @ahV (And.intro @aiC (And.intro @VR (And.intro @We (And.intro @afO @afT)))))))))
end Eng
end
section
open Eng Go.RowKit
 attribute [local congr] Bt
theorem WM {T:TypeId}{s:List UInt8}:DoX ah (mEq .eql T xo yo (.string ⟨s.toArray⟩) (.string ⟨#[]⟩)) w PK K=K (.bool (ai (s=[]))) w:=Ik (b:=[])
theorem akK (l:List α):ai (((l.length:Nat):Int)=0)=ai (l=[]):=by cases l<;>simp;omega
theorem aiD (l:List α):ai (((l.length:Nat):Int)=0)=ai (l.length=0):=by rw[decide_eq_decide];omega
end
section
namespace Eng
open Go.RowKit
theorem Nc {c:Bool}{x:aq}:sel c (sel c x)=sel c x:=by cases c<;>rfl
theorem Zq {E:(VWP)->Prop}(h:jJ v want=au):GDo v want E w K=K undef w:=by
 refine propext ⟨λx=>?_,λx=>⟨?_⟩⟩
 ·have:=x.out;rw[h] at this;exact this
 ·rw[h];exact x
theorem Kl {b:Bool}:DoX P (kH (.bool (!b)) (.bool av) (sel b (.bool y))) w PK K=K (.bool (!b||y)) w:=by
 rw[Jl];cases b<;>rfl
end Eng
end
section
open Eng Go.RowKit
 attribute [local congr] Bt
theorem ObAt.in_ {o:Ob}(h:ObAt (InW w0) w0 o vk vc cs)(b:Own w0 w L):ObAt (InW w) w o vk vc cs:=by
 have a:=h.own b;exact⟨⟨a.keys.1,(λp l c e d=>aoN (a.keys.2.1 p l c e d) b.size),a.keys.2.2⟩,⟨a.kids.1,(λp l c e d=>aoN (a.kids.2.1 p l c e d) b.size),a.kids.2.2⟩,OVs.mono (λ_ f=>aoN f b.size) _ _ a.all⟩
theorem Bc {p:Nat->Bool}(n:Nat):(List.range (n+1)).all p=((List.range n).all p&&p n):=by
 rw[aqT,List.all_append];simp
theorem KC {p:Nat->Bool}{n:Nat}(hp:p n=au)(a:n < m):(List.range m).all p=false:=by
 rw[<-Bool.not_eq_true];intro h;have:=aoF.1 h n (anJ.2 a);rw[hp] at this;cases this
theorem SY {os:List Ob}(h:Sl w vc 6 os.length cs)(c:OVs A w cs os)(hi:i < os.length) :
  ∃b off,(∀{PK:PKT} {K:VWP},DoX ah (mIA 23 vc (.int .i64 (i:Int))) w PK K=K (.pointer (ax ⟨b,off,aw⟩)) w)∧w.cell? ⟨b,off,aw⟩=ax (.int .i64 os[i].k):=by
 obtain⟨b,off,cap,rfl,j⟩:=bX h om;obtain⟨a,m,f,d⟩:=OVs.get os cs i hi c;refine⟨b,off+i*6,?_,?_⟩
 ·intro PK K;have:=dY (P:=ah) (T:=23) (b:=b) (off:=off) (cap:=cap) (n:=os.length) (k:=.i64) (i:=(i:Int)) (w:=w) amA szOb om om;rw[alQ] at this;exact aD this
 ·obtain⟨vk,vc',l,g,_⟩:=f.open;have e:a=obC os[i] vk vc':=by
   injection g with g
   have:=congrArg Array.toList g;simpa using this
  have:=j (i*6+0) _ (d 0 (.int .i64 os[i].k) (by rw[e];rfl));simpa using this
end
section
open Eng Go.RowKit
 attribute [local congr] Bt
theorem OwnS.aiP {w2 a:ao}{d e:List Ent}(f:Own w0 w2 d)(g:Own w0 a e):Kept (InW w0) w2 a:=λb c=>(g.done.block b c).trans (f.done.block b c).symm
theorem ObAt.later {w2 d:ao}{g i:List Ent}{o:Ob}(h:ObAt (InW w0) w2 o vk vc cs)(j:Own w0 w2 g)(b:Own w0 d i):ObAt (InW d) d o vk vc cs:=by
 have a:=h.kept (OwnS.aiP j b);exact⟨⟨a.keys.1,(λp l c e f=>aoN (a.keys.2.1 p l c e f) b.size),a.keys.2.2⟩,⟨a.kids.1,(λp l c e f=>aoN (a.kids.2.1 p l c e f) b.size),a.kids.2.2⟩,OVs.mono (λ_ k=>aoN k b.size) _ _ a.all⟩
theorem Ss:∀{l:List Ob} {o:Ob},o∈l->o.wt<=Ob.wts l
|a::l,o,h=>by
  rw[Ob.wts];rcases alN.1 h with rfl|h
  ·omega
  ·have:=Ss h;omega
theorem Ob.lC (o:Ob):o.wt=6+o.s.length+Pl.tot o.keys+Ob.wts o.kids:=by cases o;rw[Ob.wt];rfl
theorem Ob.PX (o:Ob):6<=o.wt:=by rw[o.lC];omega
theorem UB:∀l:List Ob,l.length*6<=Ob.wts l
|[]=>by simp
|a::l=>by
  have:=UB l;have:=a.PX;rw[Ob.wts,amC];omega
theorem Lz {o:Ob}(hi:i < o.kids.length):o.kids[i].wt < o.wt:=by
 have:=Ss (alX hi);rw[o.lC];omega
theorem NO (d:Nat)(l:List Ob)(i:Nat)(hi:i < l.length):Vl.rK d (l.drop i)=if Vl.check d l[i]≠0 then Vl.check d l[i] else Vl.rK d (l.drop (i+1)):=by
 rw[anB hi,Vl.rK]
theorem aaL {o:Ob}:o.keys.length<=o.wt:=by
 have h:∀l:List (List UInt8),l.length<=Pl.tot l:=by
  intro l
  induction l with
 |nil=>simp
 |cons a l b=>simp only[Pl.tot,anE,aqA,amC] at b ⊢;omega
 have:=h o.keys;rw[o.lC];omega
theorem qP {o:Ob}:o.kids.length<=o.wt:=by
 have:=UB o.kids;rw[o.lC];omega
theorem Y4 {o:Ob}(h:Vl.why d o≠0):Vl.check d o=Vl.why d o:=by rw[Vl.F3,alH h]
end
section
open Eng
def mZ(t0 t1 t2 w)(K:KT):=nz f254 1 [] [] [] (zg [0,1,2] [t0,t1,t2]) w K
theorem tK{t0 t1 t2 w K}:mZ t0 t1 t2 w K->Calls ah 254 #[t0,t1,t2] w K:=cw func254
def qB(t0 t1 t2 w)(K:KT):=nz f255 1 [] [] [] (zg [0,1,2] [t0,t1,t2]) w K
theorem xI{t0 t1 t2 w K}:qB t0 t1 t2 w K->Calls ah 255 #[t0,t1,t2] w K:=cw func255
def H5(t0 w)(K:KT):=nz f215 1 [] [] [] (zg [0] [t0]) w K
theorem Ii{t0 w K}:H5 t0 w K->Calls ah 215 #[t0] w K:=cw func215
def uW(t1 t13 t14 t15 w)(N1:JT)(K:KT):=nz f216 43 [N1] [nh 9 [15]] [] (zg [1,13,14,15] [t1,t13,t14,t15]) w K
def A3(t0 w)(K:KT):=nz f216 1 [] [(9,[15],λs v j w f=>uW (s 1) (s 13) (s 14) (vg v 0) w (f 0) K)] [] (zg [0] [t0]) w K
theorem DZ{t0 w K}:A3 t0 w K->Calls ah 216 #[t0] w K:=cz [] [(4,[15])] func216
def En(t0 w)(K:KT):=nz f213 1 [] [] [] (zg [0] [t0]) w K
theorem GO{t0 w K}:En t0 w K->Calls ah 213 #[t0] w K:=cw func213
def Dm(t0 w)(K:KT):=nz f214 1 [] [] [] (zg [0] [t0]) w K
theorem FO{t0 w K}:Dm t0 w K->Calls ah 214 #[t0] w K:=cw func214
def rD(t2 t4 t13 w)(K:KT):=nz f212 509 [] [] [] (zg [2,4,13] [t2,t4,t13]) w K
def rE(t2 t4 t8 w)(K:KT):=nz f212 125 [] [(20,[13],λs v j w f=>rD (s 2) (s 4) (vg v 0) w K)] [] (zg [2,4,8] [t2,t4,t8]) w K
def Ej(t0 w)(K:KT):=nz f212 1 [] [(14,[8],λs v j w f=>rE (s 2) (s 4) (vg v 0) w K)] [] (zg [0] [t0]) w K
theorem GI{t0 w K}:Ej t0 w K->Calls ah 212 #[t0] w K:=cz [(7,[8]),(10,[13])] [] func212
def EG(t0 t1 w)(K:KT):=nz f211 1 [] [] [] (zg [0,1] [t0,t1]) w K
theorem Hn{t0 t1 w K}:EG t0 t1 w K->Calls ah 211 #[t0,t1] w K:=cw func211
def oH(t1 t105 t106 t107 w)(N1:JT)(K:KT):=nz f153 1535 [N1] [nh 19 [107]] [] (zg [1,105,106,107] [t1,t105,t106,t107]) w K
def Ck(t0 t1 w)(K:KT):=nz f153 1 [] [(19,[107],λs v j w f=>oH (s 1) (s 105) (s 106) (vg v 0) w (f 0) K)] [] (zg [0,1] [t0,t1]) w K
theorem FJ{t0 t1 w K}:Ck t0 t1 w K->Calls ah 153 #[t0,t1] w K:=cz [] [(9,[107])] func153
def yT(t0 w)(K:KT):=nz f152 1 [] [] [] (zg [0] [t0]) w K
theorem CL{t0 w K}:yT t0 w K->Calls ah 152 #[t0] w K:=cw func152
def iT(c r w)(K:KT):=
 eqx .eql 20 (.tmp 4) (.const .nilIface) r .nilIface w K λd w=>IfX d (K (.returned (.tuple #[])) w) (dx (mTA r 20 223 av) w K λa w=>exx a 1 w K λe w=>exx a 0 w K λf w=>IfX e (alx 223 w K λb w=>stx 223 b f w K λ_ w=>fax 223 b 0 w K λg w=>ldx 30 g w K λh w=>stx 30 c h w K λ_ w=>K (.returned (.tuple #[])) w) (dx (Ev r) w K λ_ w=>K (.returned (.tuple #[])) w))
theorem Br (t0 r:aq)(w:ao)(K:Ending->ao->Prop):wpX ah 12 [] [] aw (Xy (A5 f210)) (topD ah [] K) (upd (kI [t0]) 4 r) [] w=iT t0 r w K:=krx
theorem nE (h:iT t0 (recV u) w (λe w=>R e (recM u) w)):CallsD ah 210 #[t0] u w R:=
 Aq func210 rfl rfl rfl rfl rfl rfl rfl rfl (Eq.mpr (Br t0 (recV u) w _) h)
def lB (a:Deferred)(b:aq)(K:Ending->ao->Prop):=pd ah [.cell b 30] K [a]
def AB(b w)(K:KT):=
 alx 30 w K λa w=>dx (NJ (.func 210) #[] #[a]) w K λc w=>DfrX (dfrV c #[]) (λd1=>DoX ah (fX b #[]) w (lB d1 a K) λd w=>DoX ah (aN 30 a (iN 0)) w (lB d1 a K) λ_ w=>Bp ah [.cell a 30] K [d1] .returning w)
theorem Dz{t0 w K}:AB t0 w K->Calls ah 151 #[t0] w K:=cw func151
def CY(t0 w)(K:KT):=nz f86 1 [] [] [] (zg [0] [t0]) w K
theorem Fk{t0 w K}:CY t0 w K->Calls ah 86 #[t0] w K:=cw func86
end
section
open Eng Go.RowKit
 attribute [local congr] Bt
theorem pM (n a b:Int)(w:ao):Ret ah 254 #[.int .i64 n,.int .i64 a,.int .i64 b] w (λv w'=>v=.bool (ai (a<=n)&&ai (n<=b))∧w=w'):=by
 refine aZ λK c=>tK ?_;unfold mZ nz;simp +contextual only[rs,gs];exact c _ _ ⟨rfl,rfl⟩
theorem M3 (n a b:Int)(w:ao):Ret ah 255 #[.int .i64 n,.int .i64 a,.int .i64 b] w (λv w'=>v=.bool (ai (a<=n)&&ai (n<=b))∧w=w'):=by
 refine aZ λK c=>xI ?_;unfold qB nz;simp +contextual only[rs,gs];exact c _ _ ⟨rfl,rfl⟩
theorem TM {p:UInt8->Bool}:∀(s:List UInt8),s.takeWhile p=s->∀x∈s,p x=av
|[],_,x,b=>by cases b
|a::s,h,x,b=>by
  rw[asC] at h;split at h
  ·rename_i c
   injection h with _ h
   rcases alN.1 b with rfl|b
   ·exact c
   ·exact TM s h x b
  ·cases h
theorem TG {p:UInt8->Bool}:∀(s:List UInt8) {a:UInt8} {t:List UInt8},s.dropWhile p=a::t->p a=au
|[],_,_,h=>by cases h
|b::s,a,t,h=>by
  rw[List.dropWhile_cons] at h;split at h
  ·exact TG s h
  ·rename_i c
   injection h with h _
   subst h;simpa using c
theorem Px (s:List UInt8)(w:ao):Ret ah 215 #[.string ⟨s.toArray⟩] w (λv w'=>v=.bool (Vl.name s)∧w=w'):=by
 refine aZ λK c=>Ii ?_;unfold H5 nz;rw[iJ alV,Vw];by_cases h:(s.length:Int)<=127
 ·have hi:∀{K':VWP},K' (.int .i64 (Lib.indexByte s 0)) w->CallX ah 224 #[.string ⟨s.toArray⟩,.int .u8 0] w (pk K) K':=λd=>c_eq (Kw s 0 w) d;simp only[h,alK,rs];refine hi ?_;simp only[rs];refine c _ _ ⟨?_,rfl⟩;rw[Vl.name,alM (show s.length<=127 by omega),Bool.true_and]
  congr 1
  rw[decide_eq_decide];rcases OJ 0 s with ⟨b,e,f⟩|⟨i,b,a,f,g⟩
  ·rw[b];refine⟨λ_ hm=>?_,λ_=>by decide⟩;have:=TM s e 0 hm;simp at this
  ·rw[b];refine⟨λh=>by omega,λhm=>absurd ?_ hm⟩;have j:s.drop i=s[i]::s.drop (i+1):=anB a;have k:s[i]=0:=by
    have:=TG s (g.trans j);simpa using this
   exact k▸alX a
 ·simp only[h,alL,rs,g_un];refine c _ _ ⟨?_,rfl⟩;rw[Vl.name,alJ (show ¬s.length<=127 by omega)];rfl
theorem On (o:Ob)(v:aq)(w:ao)(h:OV (InW w) w v o)(S:o.keys.length<=9223372036854775807) :
  Ret ah 216 #[v] w (λv w'=>v=.bool (Vl.rising o)∧Below w.heap.size w w'):=by
 obtain⟨vk,vc,cs,rfl,s⟩:=h.open;refine aZ λK C=>DZ ?_;unfold A3 nz;refine iU o s.keys.one s.kids.one (Own.start w) λb T f=>?_;have lk:∀{W:ao} {L:List Ent},Own w W L->∀{PK:PKT} {K:VWP},DoX ah (mB .len #[22] 3 #[au] #[vk]) W PK K=K (.int .i64 (o.keys.length:Int)) W:=λf=>bE amD (s.own f).keys.1;have lc:∀{W:ao} {L:List Ent},Own w W L->∀{PK:PKT} {K:VWP},DoX ah (mB .len #[23] 3 #[au] #[vc]) W PK K=K (.int .i64 (o.kids.length:Int)) W:=λf=>bE amA (s.own f).kids.1;simp only[rs,Af,pF,oO f 0 rfl,fL f 0 rfl,lk f,lc f];by_cases hlen:(o.keys.length:Int)≠(o.kids.length:Int)
 ·simp only[alM hlen,i_t];refine C _ _ ⟨?_,f.done⟩;have:¬o.keys.length=o.kids.length:=λe=>hlen (by rw[e]);simp[Vl.rising,this]
 have hle:o.keys.length=o.kids.length:=om
 simp only[alJ hlen,i_f];have P:Vl.rising o=(List.range o.keys.length).all (Vl.GC o):=by simp[Vl.rising,hle]
 rw[P] at C;refine loop (λvs w'=>∃(i:Nat),vs=[.int .i64 i]∧i<=o.keys.length∧(List.range i).all (Vl.GC o)=av∧Own w w' [obE b o vk vc]) (λvs _=>o.keys.length - n0 vs) ⟨0,rfl,om,sm,f⟩ ?_;rintro vs w2 ⟨i,rfl,hi,j,f⟩ _;simp only[uW,gd,rs,nz];by_cases t:(i:Int) < (o.keys.length:Int)
 ·have n:i < o.keys.length:=om
  simp only[t,alK,i_t];have l:=s.own f;refine LP (.string ⟨(o.keys[i]).toArray⟩) amD krx l.keys.1 om (by rw[alQ];exact nX n) λq r=>?_;rw[aJ Kc r];refine c_eq (Px o.keys[i] w2) ?_;obtain⟨Q,u,x,E⟩:=SY l.kids.1 l.all (show i < o.kids.length by omega);have y:∀{PK:PKT} {K:VWP},DoX ah (aH 3 (.pointer (ax ⟨Q,u,aw⟩))) w2 PK K=K (.int .i64 o.kids[i].k) w2:=aJ aU E;have p:ai (0 < (i:Int))=av->∃(z g:Nat),(∀{PK:PKT} {K:VWP},DoX ah (mIA 22 vk (.int .i64 (IntKind.wrap .i64 ((i:Int) - 1)))) w2 PK K=K (.pointer (ax ⟨z,g,aw⟩)) w2) ∧
    (∀{PK:PKT} {K:VWP},DoX ah (aH 9 (.pointer (ax ⟨z,g,aw⟩))) w2 PK K=K (.string ⟨(o.keys.getD (i - 1) []).toArray⟩) w2):=by
   intro h;have h:=alZ h;have M:i - 1 < o.keys.length:=om
   obtain⟨z,g,O,rfl,F⟩:=bX l.keys.1 (show 0 < o.keys.length by omega);refine⟨z,g+(i - 1),?_,?_⟩
   ·intro PK K;rw[aA om om];refine aD ?_;rw[dY amD (show _=ax 1 by kernel_rfl) om om,show ((i:Int) - 1).toNat*1=i - 1 by omega]
   ·intro PK K;rw[alO,alT M];exact aJ Kc (F _ _ (nX M))
  have G:o.keys.getD i []=o.keys[i]:=by rw[alO,alT n];rfl
  have H:o.kids.getD i (.mk 0 0 0 [] [] [])=o.kids[i]'(om):=by rw[alO,alT om];rfl
  have tail:∀(q:Bool) (N:Prop),q=!(Vl.GC o i)->(Vl.GC o i=av->N)->IfX (.bool q) (K (.returned (.bool au)) w2) N:=by
   intro q N r R;cases m:Vl.GC o i with
  |false=>
    rw[m] at r;subst r;rw[show (!au)=av from rfl,i_t];exact C _ _ ⟨by rw[KC m n],f.done⟩
  |true=>
    rw[m] at r;subst r;rw[show (!av)=au from rfl,i_f];exact R m
  have A:Vl.GC o i=(Vl.name o.keys[i]&&(ai (i=0)||Vl.less (o.keys.getD (i - 1) []) o.keys[i])&&!(ai (o.k=9)&&ai (o.keys[i]=Vl.lenK))&&ai ((o.kids[i]'(om)).k≠0)):=by
   rw[Vl.GC,G,H]
  by_cases B:i=0
  ·have D:ai (0 < (i:Int))=false:=by rw[apG];omega
   simp +contextual only[rs,gs,D,Nc,Zq,Kl,asP,Bool.not_not,arL,fR,pF,ob_k f 0 rfl,fL f 0 rfl,x,y,g_un,p_f];refine tail _ _ ?_ λm=>?_
   ·rw[A,alM B];simp only[Bool.true_or,Bool.and_true,Vl.lenK,ne_eq,decide_not];generalize Vl.name o.keys[i]=a;generalize ai (o.k=9)=c;generalize ai ((o.kids[i]'(om)).k=0)=d;by_cases hL:o.keys[i]=[76,101,110,103,116,104]<;>simp only[hL,alK,alL]<;>cases a<;>cases c<;>cases d<;>rfl
   ·rw[aA om om];exact aY ⟨i+1,rfl,om,by rw[Bc,j,m];rfl,f⟩ (by simp[n0,RowKit.intOf];omega)
  ·have D:ai (0 < (i:Int))=true:=by rw[decide_eq_true_iff];omega
   obtain⟨z,g,I,J⟩:=p D;simp +contextual only[rs,gs,D,Nc,Zq,Kl,asP,Bool.not_not,arL,fR,Af,pF,ob_k f 0 rfl,oO f 0 rfl,fL f 0 rfl,x,y,I,J,g_un];refine tail _ _ ?_ λm=>?_
   ·rw[A,alJ B];simp only[asK,Vl.lenK,ne_eq,decide_not];generalize Vl.name o.keys[i]=a;generalize ai (o.k=9)=c;generalize ai ((o.kids[i]'(om)).k=0)=d;show _=!(_&&Op.bytesLess (o.keys.getD (i - 1) []) o.keys[i]&&_&&_);generalize Op.bytesLess (o.keys.getD (i - 1) []) o.keys[i]=e;by_cases hL:o.keys[i]=[76,101,110,103,116,104]<;>simp only[hL,alK,alL]<;>cases a<;>cases c<;>cases d<;>cases e<;>rfl
   ·rw[aA om om];exact aY ⟨i+1,rfl,om,by rw[Bc,j,m];rfl,f⟩ (by simp[n0,RowKit.intOf];omega)
 ·simp only[t,alL,i_f];refine C _ _ ⟨?_,f.done⟩;rw[show o.keys.length=i by omega,j]
theorem UX (o:Ob)(v:aq)(w:ao)(h:OV (InW w) w v o):Ret ah 213 #[v] w (λv w'=>v=.bool (Vl.fits o)∧Below w.heap.size w w'):=by
 obtain⟨vk,vc,cs,rfl,l⟩:=h.open;refine aZ λK c=>GO ?_;unfold En nz;refine iU o l.keys.one l.kids.one (Own.start w) λb f a=>?_;simp only[fR,ob_k a 0 rfl,rs];by_cases d:o.k=1
 ·simp only[d,alK,i_t,Iu,ob_n a 0 rfl];refine c_eq (pM _ _ _ f) (c _ _ ⟨?_,a.done⟩);rw[Vl.fits,alH d,asE]
 by_cases e:o.k=2
 ·simp only[e,Int.reduceEq,alK,alL,i_t,i_f,Iu,ob_n a 0 rfl];refine c_eq (pM _ _ _ f) (c _ _ ⟨?_,a.done⟩);rw[Vl.fits,alG d,alH e,asE]
 by_cases i:o.k=3
 ·simp only[i,Int.reduceEq,alK,alL,i_t,i_f,Iu,ob_n a 0 rfl];refine c_eq (pM _ _ _ f) (c _ _ ⟨?_,a.done⟩);rw[Vl.fits,alG d,alG e,alH i,asE]
 by_cases j:o.k=8
 ·simp only[j,Int.reduceEq,alK,alL,i_t,i_f,Iu,ob_n a 0 rfl];refine c_eq (pM _ _ _ f) ?_;have p:Vl.fits o=(ai (1<=o.n)&&ai (o.n<=8191)&&(ai (0<=o.g)&&ai (o.g<=65535))):=by
   rw[Vl.fits,alG d,alG e,alG i,alH j,asE,asE]
  rw[p] at c;cases m:(ai (1<=o.n)&&ai (o.n<=8191)) with
 |false=>
   rw[m] at c;rw[g_ft,g_ft,g_ft,p_f];exact c _ _ ⟨rfl,a.done⟩
 |true=>
   rw[m] at c;rw[g_tt,abR,g_tt,ob_g a 0 rfl,g_tt];refine c_eq (M3 _ _ _ f) ?_;rw[p_t];exact c _ _ ⟨rfl,a.done⟩
 simp only[d,e,i,j,alL,i_f];refine c _ _ ⟨?_,a.done⟩;rw[Vl.fits,alG d,alG e,alG i,alG j]
def IE (o:Ob):Bool:=if o.k=4 then ai (o.s.length<=32767) else if o.k=5 then ai (o.s.length<=127) else ai (o.s.length<=1048576)
theorem QR (o:Ob)(v:aq)(w:ao)(h:OV (InW w) w v o):Ret ah 214 #[v] w (λv w'=>v=.bool (IE o)∧Below w.heap.size w w'):=by
 obtain⟨vk,vc,cs,rfl,f⟩:=h.open;refine aZ λK e=>FO ?_;unfold Dm nz;refine iU o f.keys.one f.kids.one (Own.start w) λb g a=>?_;simp only[fR,ob_k a 0 rfl,rs];have hi:∀m:Nat,ai ((o.s.length:Int)<=(m:Int))=ai (o.s.length<=m):=λm=>by rw[decide_eq_decide];omega
 by_cases c:o.k=4
 ·simp only[c,alK,i_t,G5,ob_s a 0 rfl,iJ alV,rs];refine e _ _ ⟨?_,a.done⟩;rw[IE,alH c,<-hi];rfl
 by_cases d:o.k=5
 ·simp only[d,Int.reduceEq,alK,alL,i_t,i_f,G5,ob_s a 0 rfl,iJ alV,rs];refine e _ _ ⟨?_,a.done⟩;rw[IE,alG c,alH d,<-hi];rfl
 simp only[c,d,alL,i_f,G5,ob_s a 0 rfl,iJ alV,rs];refine e _ _ ⟨?_,a.done⟩;rw[IE,alG c,alG d,<-hi];rfl
theorem Rz {o:Ob}(h:Vl.pN o=av):IE o=!ai (Vl.long o.k < o.s.length):=by
 have key:∀m:Nat,ai (o.s.length<=m)=!ai (m < o.s.length):=λm=>by
  rw[Bool.eq_iff_iff];simp
 unfold IE Vl.long;by_cases b:o.k=4
 ·rw[alH b,alG om,alG om,key]
 by_cases a:o.k=5
 ·rw[alG b,alH a,alH a,key]
 by_cases e:o.k=9
 ·rw[alG b,alG a,alG a,alH e,key]
 have f:o.s=[]:=by
  unfold Vl.pN Vl.used at h
  revert h
  split
  ·intro h;cases h
  ·rename_i n g s i cs he
   intro h;simp only[amB,apC,amU] at h;have d:s=false:=by
    revert he
    repeat' split
    all_goals (intro he;first|(cases he;done)|skip)
    all_goals (simp only[apK,apJ] at he;first|exact he.2.2.1.symm|omega)
   rcases h.1.1.2 with c|c
   ·rw[d] at c;cases c
   ·exact c
 rw[alG b,alG a,alG a,alG e,f];rfl
end
section
open Eng Go.RowKit
 attribute [local congr] Bt
def uC (u:Bool×Bool×Bool×Bool×Bool):List Value:=[.bool u.1,.bool u.2.1,.bool u.2.2.1,.bool u.2.2.2.1,.bool u.2.2.2.2]
def uV (u:Bool×Bool×Bool×Bool×Bool):Value:=.agg (uC u).toArray
def uE (b:Nat)(u:Bool×Bool×Bool×Bool×Bool):Ent:=.cells b (uC u) 225
def u0:Bool×Bool×Bool×Bool×Bool:=(au,au,au,au,au)
theorem aggU:aggN ah 225=ax 5:=krx
theorem szU:(Tryz.prog.info? 225).map (·.size)=ax 5:=krx
theorem acX (u:Bool×Bool×Bool×Bool×Bool):∀v∈uC u,v.oneCell'=true:=by
 intro v a;simp only[uC,alN,anA,or_false] at a;rcases a with rfl|rfl|rfl|rfl|rfl<;>rfl
theorem SI:eD ah 4=true:=krx
section
variable {w:ao}{PK:PKT}{K:VWP}{S:Nat->Prop}{w0:ao}{L:List Ent}
theorem ajG :DoX ah (mFA 225 (.pointer (ax ⟨b,0,aw⟩)) 0) w PK K=K (.pointer (ax ⟨b,0,aw⟩)) w:=aO (show fOff ah 225 0=ax 0 by kernel_rfl)
theorem akF :DoX ah (mFA 225 (.pointer (ax ⟨b,0,aw⟩)) 1) w PK K=K (.pointer (ax ⟨b,0+1,aw⟩)) w:=aO (show fOff ah 225 1=ax 1 by kernel_rfl)
theorem aiQ :DoX ah (mFA 225 (.pointer (ax ⟨b,0,aw⟩)) 2) w PK K=K (.pointer (ax ⟨b,0+2,aw⟩)) w:=aO (show fOff ah 225 2=ax 2 by kernel_rfl)
theorem ahY :DoX ah (mFA 225 (.pointer (ax ⟨b,0,aw⟩)) 3) w PK K=K (.pointer (ax ⟨b,0+3,aw⟩)) w:=aO (show fOff ah 225 3=ax 3 by kernel_rfl)
theorem ahB :DoX ah (mFA 225 (.pointer (ax ⟨b,0,aw⟩)) 4) w PK K=K (.pointer (ax ⟨b,0+4,aw⟩)) w:=aO (show fOff ah 225 4=ax 4 by kernel_rfl)
theorem adH (i:Nat){u:Bool×Bool×Bool×Bool×Bool}(a:Bool×Bool×Bool×Bool×Bool)(c:OwnS S w0 w L)(hi:L[i]?=ax (uE b u))(k:∀w',OwnS S w0 w' (L.set i (uE b a))->K undef w') :
  DoX ah (aN 225 (.pointer (ax ⟨b,0,aw⟩)) (uV a)) w PK K:=gY i c hi (new:=uC a) szU (acX a) rfl k
end
def aaN (k:Int):Value:=.tuple #[uV ((Vl.used k).getD u0),.bool (Vl.used k).isSome]
theorem SE (k:Int)(w:ao):Ret ah 212 #[.int .i64 k] w (λv w'=>v=aaN k∧Below w.heap.size w w'):=by
 refine aZ λK s=>GI ?_;unfold Ej nz;refine bA (λb=>.pointer (ax ⟨b,0,aw⟩)) (uC u0) 225 (λ_=>by kernel_rfl) (Own.start w) λb a f=>?_;have fin:∀(u:Bool×Bool×Bool×Bool×Bool) (ok:Bool),Vl.used k=(if ok then ax u else aw)->(ok=au->u=u0)->DoX ah (aN 225 (.pointer (ax ⟨b,0,aw⟩)) (uV u)) a (pk K) λ_ w=>
   RetX ah [.cell (.pointer (ax ⟨b,0,aw⟩)) 225,.val (.bool ok)] w K:=by
  intro u ok hu t;refine adH 0 u f rfl λw2 f=>?_;refine vO (bI (f.agg 0 rfl aggU)) uI (s _ _ ⟨?_,f.done⟩);rw[aaN,hu];cases ok with
 |true=>rfl
 |false=>rw[t rfl];rfl
 have r:∀{PK:PKT} {K:VWP},DoX ah (aS 225 #[]) a PK K=K (uV u0) a:=aD krx;have x:∀{PK:PKT} {K:VWP},DoX ah (aS 225 #[(0,.bool av)]) a PK K=K (uV (av,au,au,au,au)) a:=aD krx;have b2:∀{PK:PKT} {K:VWP},DoX ah (aS 225 #[(2,.bool av)]) a PK K=K (uV (au,au,av,au,au)) a:=aD krx;have b3:∀{PK:PKT} {K:VWP},DoX ah (aS 225 #[(4,.bool av)]) a PK K=K (uV (au,au,au,au,av)) a:=aD krx;have y:∀{PK:PKT} {K:VWP},DoX ah (aS 225 #[(3,.bool av),(4,.bool av)]) a PK K=K (uV (au,au,au,av,av)) a:=aD krx;have z:∀{PK:PKT} {K:VWP},DoX ah (aS 225 #[(0,.bool av),(1,.bool av)]) a PK K=K (uV (av,av,au,au,au)) a:=aD krx;have A:∀{PK:PKT} {K:VWP},DoX ah (aS 225 #[(2,.bool av),(3,.bool av),(4,.bool av)]) a PK K=K (uV (au,au,av,av,av)) a:=aD krx;simp only[rs];by_cases k0:k=0
 ·simp only[k0,alK,i_t,r];exact fin _ av (by simp[Vl.used,k0,u0]) sm
 simp only[k0,alL,i_f];refine join λJ e=>?_;by_cases c:k=1∨k=2∨k=3
 ·have:J [.bool av] a:=by
   refine e _ _ λ_=>?_;simp only[rE,gd,i_t,x,nz];exact fin _ av (by simp[Vl.used,k0,c]) sm
  by_cases g:k=1
  ·simp only[g,alK,i_t];exact this
  by_cases i:k=2
  ·simp only[i,Int.reduceEq,alK,alL,i_t,i_f];exact this
  have j:k=3:=om
  simp only[j,Int.reduceEq,alK,alL,i_t,i_f];exact this
 have g:¬k=1:=λh=>c (.inl h);have i:¬k=2:=λh=>c (.inr (.inl h));have j:¬k=3:=λh=>c (.inr (.inr h));simp only[g,i,j,alL,i_f];refine e _ _ λ_=>?_;clear e;simp only[rE,gd,i_f,rs,nz];refine join λJ e=>?_;by_cases d:k=4∨k=5
 ·have:J [.bool av] a:=by
   refine e _ _ λ_=>?_;simp only[rD,gd,i_t,b2,nz];exact fin _ av (by simp[Vl.used,k0,g,i,j,d]) sm
  by_cases p:k=4
  ·simp only[p,alK,i_t];exact this
  have q:k=5:=om
  simp only[q,Int.reduceEq,alK,alL,i_t,i_f];exact this
 have p:¬k=4:=λh=>d (.inl h);have q:¬k=5:=λh=>d (.inr h);simp only[p,q,alL,i_f];refine e _ _ λ_=>?_;clear e;simp only[rD,gd,i_f,rs,nz];by_cases l:k=6
 ·simp only[l,alK,i_t,b3];exact fin _ av (by simp[Vl.used,l]) sm
 by_cases m:k=7
 ·simp only[m,Int.reduceEq,alK,alL,i_t,i_f,y];exact fin _ av (by simp[Vl.used,m]) sm
 by_cases n:k=8
 ·simp only[n,Int.reduceEq,alK,alL,i_t,i_f,z];exact fin _ av (by simp[Vl.used,n]) sm
 by_cases o:k=9
 ·simp only[o,Int.reduceEq,alK,alL,i_t,i_f,A];exact fin _ av (by simp[Vl.used,o]) sm
 simp only[l,m,n,o,alL,i_f,r];exact fin _ au (by simp[Vl.used,k0,c,d,l,m,n,o]) sm
theorem Sa {k:Int}{n g s a cs:Bool}(h:Vl.used k=ax (n,g,s,a,cs)):a=ai (k=7∨k=9):=by
 revert h
 unfold Vl.used
 repeat' split
 all_goals (intro h;first|(cases h;done)|skip)
 all_goals simp only[apK,apJ] at h
 all_goals rw[<-h.2.2.2.1]
 all_goals symm
 all_goals first|(rw[apG];omega)|(rw[decide_eq_true_iff];omega)
abbrev badE (e:Int):PanicEntry:={ v:=.iface 223 (.agg #[.int .i64 e]),recovered:=au }
theorem AY {r:Bool}{e:Int}(h:q=r)(b:r=av->K (.tuple #[]) w)(a:r=au->PK [badE e] w):CallX ah 211 #[.bool q,.int .i64 e] w PK K:=by
 subst h;refine fG (Hn (K:=λe' w'=>(q=av->e'=.returned (.tuple #[])∧w'=w)∧(q=au->e'=.panicked [badE e]∧w'=w)) ?_) ?_
 ·unfold EG nz;cases q with
 |true=>
   rw[NB,show (!av)=au from rfl,i_f];exact⟨λ_=>⟨rfl,rfl⟩,λh=>by cases h⟩
 |false=>
   rw[NB,show (!au)=av from rfl,i_t];have c:∀{PK:PKT} {K:VWP},DoX ah (aS 223 #[(0,.int .i64 e)]) w PK K=K (.agg #[.int .i64 e]) w:=aD krx;rw[c,Kn (show lM ah 223=av by kernel_rfl),Gy];exact⟨λh=>(by cases h),λ_=>⟨rfl,rfl⟩⟩
 ·rintro e' w' ⟨d,f⟩;cases q with
 |true=>obtain⟨rfl,rfl⟩:=d rfl;exact b rfl
 |false=>obtain⟨rfl,rfl⟩:=f rfl;exact a rfl
end
end Go.Proofs.YtlipjfcbjemicaaGreatDoor
