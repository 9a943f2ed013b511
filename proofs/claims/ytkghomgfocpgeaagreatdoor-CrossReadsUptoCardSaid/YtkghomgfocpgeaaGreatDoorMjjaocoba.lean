/- Parts of the proof. -/
import Derived.Laws.RangeString
import Derived.Laws.BytesArg
import Derived.Test.YtkghomgfocpgeaaGreatDoorRows
import Derived.Shelf.Strings.Builder1
import Derived.Shelf.Strings.Builder2
import Derived.Shelf.Small.Strs
import Derived.Shelf.Small.Wraps
import Derived.Shelf.Strings.BuilderF
import Derived.Shelf.Strings.BuilderK
import Derived.Shelf.Strings.Builder2Cap
import Derived.Shelf.Strings.Search1
import Derived.Shelf.Strings.Prefix
import Derived.Shelf.Bits.Mul64
import Derived.Shelf.Strings.Repeat
import Derived.Shelf.Strings.BuilderCap
import Derived.Test.YtkghomgfocpgeaaGreatDoorProg
import Derived.Recover
import Derived.Shelf.Strings.SlTrimAscii
import Derived.Lib.Repeat
import Derived.SliceStrings
import Derived.Laws.StructEq
import Derived.Laws.CopyRow
import Derived.Lib.AppendZerosOnto
import Derived.Lib.SliceRun
import Derived.Lib.Overlaps
import Derived.Laws.Externs
import Derived.Sort.Walk0
import Derived.Laws.RangeAny
import Derived.Test.YtkghomgfocpgeaaGreatDoorMhfboacoo
set_option linter.all false
set_option maxRecDepth 20000
open Go.Proofs.Tryz
open Go.Proofs.Tryz renaming prog->ah
open Option renaming some->ax,none->aw
open Bool renaming true->av,false->au
open Go renaming Value->aq,World->ao
open Decidable renaming decide->ai
namespace Go.Proofs
abbrev auV:=@underlying9
abbrev avE:=@underlying70
abbrev avH:=@underlying22
abbrev avI:=@underlying23
abbrev avJ:=@underlying59
abbrev avN:=@underlying5
abbrev awM:=@underlying3
abbrev axD:=@underlying319
abbrev ayD:=@underlying20
abbrev ayF:=@underlying32
abbrev ayI:=@underlying88
abbrev azG:=@underlying75
abbrev aAo:=@underlying49
abbrev aAw:=@underlying157
abbrev aAM:=@underlying163
abbrev aA2:=@underlying247
abbrev aA3:=@underlying284
abbrev aBn:=@underlying351
abbrev aBr:=@underlying269
end Go.Proofs
namespace Go.Proofs.YtkghomgfocpgeaaGreatDoor
variable{A S:Nat->Prop}{B:Prop}{C:ao->Prop}{D E T1 U:TypeId}{K K':VWP}{L:List Eng.Ent}{L0:Loop}{P:Program}{PK PK2:PKT}{W w w' w0:ao}{a hi lo:Int}{args ca fa:Array aq}{b cap d f fuel i j m sz:Nat}{cb:Array Bool}{cs cur new news xs:List aq}{e:Eng.Ent}{k':IntKind}{q want y:Bool}{v v' v1 v2 vc vk:aq}{xo yo:Operand}{α β:Type}{σ:Eng.Sg}
section
namespace Eng
open Go.RowKit
def aM (l:List UInt8):List Value:=l.map λc=>.int .u8 (c.toNat:Int)
theorem gO (l:List UInt8):(aM l).length=l.length:=by simp[aM]
theorem gP {l:List UInt8}{c:UInt8}(h:l[i]?=ax c):(aM l)[i]?=ax (.int .u8 (c.toNat:Int)):=by simp[aM,h]
section
variable {S:Nat->Prop}{P:Program}{w:ao}{PK:PKT}{K:VWP}
theorem aiH {T:TypeId}{cs:Array Bool}{l:List UInt8}(h:P.underlying T=ax .string):(mB .len #[T] U cs #[ae l]).run P w=.ok (.value (ad (l.length:Int))) w:=by
 simp[mB,builtin,Builtin.len_,run_underlying h,goInt,cQ]
theorem adY {T:TypeId}{a:List UInt8}(h:P.underlying T=ax .string)(b:0<=hi)(c:hi<=a.length) :
  (cY T (ae a) aw (ax (.int k' hi)) aw).run P w=.ok (.value (ae (a.take hi.toNat))) w:=by
 refine cE ?_;have e:(⟨a.toArray⟩:ByteArray).extract 0 hi.toNat=⟨(a.take hi.toNat).toArray⟩:=by
  rw[IY (s:=(⟨a.toArray⟩:ByteArray).extract 0 hi.toNat),Lib.extract_data];simp
 simp only[Instr.sliceAt,Instr.slice,Instr.sliceBounds,Instr.sliceBound,asIntOf,run_underlying h,cQ];simp[run_underlying h,cQ,b,c,e]
theorem Vi {T2:TypeId}{k:IntKind}{b:Int}:DoX P (mB .min #[T1,T2] U cb #[.int k a,.int k' b]) w PK K=K (.int k (min a b)) w:=by
 refine aC ?_;have e:(if b < a then b else a)=min a b:=by split<;>omega
 simp[mB,builtin,Builtin.min_,Builtin.min2,e]
theorem mU {S:TypeId}{l:List UInt8}(j:P.underlying S=ax (.slice E))(he:P.underlying E=ax (.int .u8))(k:P.underlying D=ax .string)(h:Sl w v 1 l.length (aM l)):DoX P (nG S D v) w PK K=K (ae l) w:=by
 obtain⟨q,a,cap,rfl,n,o⟩:=h;cases a with
|none=>
  have g:=n rfl;have:l=[]:=ayT g;subst this;exact fG (run_convert_bytes_nil w S E j he _ _ D k)
|some p=>
  obtain⟨f,d⟩:=o p rfl;by_cases g:l=[]
  ·subst g;refine fG ?_;have m:(loadCells p 0).run P w=.ok (([]:List Int).map (Value.int .u8)).toArray w:=rfl;rw[show ([]:List UInt8).length=0 from rfl,run_convert_bytes_string w S D E _ 0 cap j he k,run_bytesToString w p 0 cap [] m];rfl
  replace f:=f (azU.2 g)
  obtain⟨b,off,spot⟩:=p;simp only at f d;subst f;have:=run_convert_bytes_arg (P:=P) w S E j he b off l.length cap (l.map λc=>(c.toNat:Int)) sm (λi hi=>by
   refine d i _ ?_;simp[aM,auX hi]) D k
  refine fG ?_;rw[this];have e:strOfNums (l.map λc=>(c.toNat:Int))=⟨l.toArray⟩:=by
   unfold strOfNums;rw[aAg]
   congr 2
   conv=>rhs;rw[<-List.map_id l]
   refine azV λc _=>?_;simp
  rw[e]
theorem Gi (c:dQ S w0 w L)(i:Nat){o o':Obj}(hi:L[i]?=ax (.obj b o)):dQ S w0 { w with heap:=w.heap.setIfInBounds b o' } (L.set i (.obj b o')):=by
 have h:w.heap[b]?=ax o:=c.at_ i hi;refine c.put i hi (w':={ w with heap:=w.heap.setIfInBounds b o' }) ⟨rfl,rfl,rfl,sm,λk _ a=>?_⟩ (.obj b o') ?_ (λk a=>.inl a)
 ·show (w.heap.setIfInBounds b o')[k]?=_;exact azH (λe=>a (by simp[Ent.obj,e]))
 ·show (w.heap.setIfInBounds b o')[b]?=_;exact aBt (dN h)
theorem x1_0 {a:aq}:DoX P (zt (.tuple #[a]) 0) w PK K=K a w:=gT (l:=[a]) rfl
theorem x2_0 {a b:aq}:DoX P (zt (.tuple #[a,b]) 0) w PK K=K a w:=gT (l:=[a,b]) rfl
theorem x2_1 {a b:aq}:DoX P (zt (.tuple #[a,b]) 1) w PK K=K b w:=gT (l:=[a,b]) rfl
theorem x3_0 {a b c:aq}:DoX P (zt (.tuple #[a,b,c]) 0) w PK K=K a w:=gT (l:=[a,b,c]) rfl
theorem x3_1 {a b c:aq}:DoX P (zt (.tuple #[a,b,c]) 1) w PK K=K b w:=gT (l:=[a,b,c]) rfl
theorem x3_2 {a b c:aq}:DoX P (zt (.tuple #[a,b,c]) 2) w PK K=K c w:=gT (l:=[a,b,c]) rfl
theorem x4_0 {a b c d:aq}:DoX P (zt (.tuple #[a,b,c,d]) 0) w PK K=K a w:=gT (l:=[a,b,c,d]) rfl
theorem x4_1 {a b c d:aq}:DoX P (zt (.tuple #[a,b,c,d]) 1) w PK K=K b w:=gT (l:=[a,b,c,d]) rfl
theorem x4_2 {a b c d:aq}:DoX P (zt (.tuple #[a,b,c,d]) 2) w PK K=K c w:=gT (l:=[a,b,c,d]) rfl
theorem x4_3 {a b c d:aq}:DoX P (zt (.tuple #[a,b,c,d]) 3) w PK K=K d w:=gT (l:=[a,b,c,d]) rfl
end
theorem iO {E:(VWP)->Prop}:GDo undef want E w K=K undef w:=propext ⟨λx=>x.out,λx=>⟨x⟩⟩
def ex:=And.intro @x1_0 (And.intro @x2_0 (And.intro @x2_1 (And.intro @x3_0 (And.intro @x3_1 (And.intro @x3_2 (And.intro @x4_0 (And.intro @x4_1 (And.intro @x4_2 @x4_3))))))))
theorem OU {n:Int}(a:0<=n)(b:n<=255):IntKind.wrap .u8 n=n:=IntWalk.u8_in n ⟨a,b⟩
theorem B8 {n:Int}(a:-2147483648<=n)(b:n<=2147483647):IntKind.wrap .i32 n=n:=IntWalk.i32_in n ⟨a,b⟩
theorem Wt {n:Int}(a:0<=n)(b:n<=18446744073709551615):IntKind.wrap .u64 n=n:=IntWalk.u64_in n ⟨a,b⟩
end Eng
end
section
namespace Eng
open Go.RowKit
theorem cM (b off n:Nat):(⟨b,off,aw⟩:Addr).add n=⟨b,off+n,aw⟩:=by unfold Addr.add;split<;>simp_all
def uM (P:Program)(T:TypeId)(f:Nat):Option Nat:=
 match P.underlying T with
|some (.struct fs)=>match fs[f]? with
 |some fd=>match P.info? fd.type with
  |some i=>match i.size with
   |0=>aw
   |_+1=>ax fd.offset
  |none=>aw
 |none=>aw
|_=>aw
def elB (P:Program)(E:TypeId)(sz bytes:Nat):Bool:=
 match P.info? E with
|some i=>Nat.beq i.size sz&&Nat.beq i.bytes bytes&&(match i.zero with|some z=>Nat.beq z.cells.size sz|none=>au)
|none=>au
theorem kL {bytes:Nat}(h:elB P E sz bytes=av):∃i z,P.info? E=ax i∧i.zero=ax z∧i.size=sz∧i.bytes=bytes∧z.cells.size=sz:=by
 unfold elB at h;split at h
 ·rename_i i hi
  simp only[avM,Nat.beq_eq] at h;obtain⟨⟨b,c⟩,a⟩:=h;split at a
  ·rename_i z d;exact⟨i,z,hi,d,b,c,by simpa using a⟩
  ·cases a
 ·cases h
section
variable {S:Nat->Prop}{P:Program}{w:ao}{PK:PKT}{K:VWP}
theorem bE {T:TypeId}{off o:Nat}(h:uM P T f=ax o):(mFA T (af b off) f).run P w=.ok (.value (af b (off+o))) w:=by
 unfold uM at h;split at h
 ·rename_i fs hu
  split at h
  ·rename_i fd a
   split at h
   ·rename_i i hi
    cases c:i.size with
   |zero=>rw[c] at h;cases h
   |succ m=>
     rw[c] at h;simp only[azB] at h;subst h;refine cE ?_;simp[Instr.fieldAt,run_underlying hu,a,Instr.sureAddr,fieldPlace,sizeOf,typeInfo,hi,c,cM]
   ·cases h
  ·cases h
 ·cases h
theorem aQ {T:TypeId}{off o:Nat}(h:uM P T f=ax o):DoX P (mFA T (af b off) f) w PK K=K (af b (off+o)) w:=aC (bE h)
theorem cS {a:Addr}:(GZ (.pointer (ax a))).run P w=.ok (.value (.pointer (ax a))) w:=by simp[GZ,execOp]
def IS (k:IntKind)(x y:Int):Int:=k.wrap ((BitVec.ofInt k.bits x &&& BitVec.ofInt k.bits y).toNat:Int)
def bOr (k:IntKind)(x y:Int):Int:=k.wrap ((BitVec.ofInt k.bits x ||| BitVec.ofInt k.bits y).toNat:Int)
theorem acL {T:TypeId}{k:IntKind}{b:Int}:(gS .and T (.int k a) (.int k b)).run P w=.ok (.value (.int k (IS k a b))) w:=cE (by simp[binOp,Op.intBits,IS])
theorem r_or {T:TypeId}{k:IntKind}{b:Int}:(gS .or T (.int k a) (.int k b)).run P w=.ok (.value (.int k (bOr k a b))) w:=cE (by simp[binOp,Op.intBits,bOr])
theorem aiY {T:TypeId}{k:IntKind}{b:Int}(h:0<=b):(gS .shr T (.int k a) (.int k' b)).run P w=.ok (.value (.int k (a.fdiv (2 ^ (min b.toNat k.bits))))) w:=cE (by
 have c:¬b < 0:=om
 simp[binOp,Op.shift,c])
theorem aiR {T:TypeId}{k:IntKind}{b:Int}(h:0<=b):(gS .shl T (.int k a) (.int k' b)).run P w=.ok (.value (.int k (k.wrap (a*2 ^ (min b.toNat k.bits))))) w:=cE (by
 have c:¬b < 0:=om
 simp[binOp,Op.shift,c])
theorem Y4 {T:TypeId}{k:IntKind}{b:Int}:DoX P (gS .and T (.int k a) (.int k b)) w PK K=K (.int k (IS k a b)) w:=aC acL
theorem b_or {T:TypeId}{k:IntKind}{b:Int}:DoX P (gS .or T (.int k a) (.int k b)) w PK K=K (.int k (bOr k a b)) w:=aC r_or
theorem F2 {T:TypeId}{k:IntKind}{b:Int}(h:0<=b):DoX P (gS .shr T (.int k a) (.int k' b)) w PK K=K (.int k (a.fdiv (2 ^ (min b.toNat k.bits)))) w:=aC (aiY h)
theorem Bi {T:TypeId}{k:IntKind}{b:Int}(h:0<=b):DoX P (gS .shl T (.int k a) (.int k' b)) w PK K=K (.int k (k.wrap (a*2 ^ (min b.toNat k.bits)))) w:=aC (aiR h)
theorem abM {T:TypeId}{k:IntKind}{i:Int}{a:List UInt8}{c:UInt8}(h:P.underlying T=ax .string)(b:0<=i)(d:a[i.toNat]?=ax c):(mIx T (ae a) (.int k i)).run P w=.ok (.value (.int .u8 (c.toNat:Int))) w:=by
 refine cE ?_;have e:(⟨a.toArray⟩:ByteArray)[i.toNat]?=ax c:=by
  have f:i.toNat < a.length:=(avL.1 d).1;have g:i.toNat < (⟨a.toArray⟩:ByteArray).size:=by rw[cQ];exact f
  rw[getElem?_pos (⟨a.toArray⟩:ByteArray) i.toNat g];have j:=(avL.1 d).2;rw[<-j];rfl
 simp only[Instr.index,asIntOf,run_underlying h,b,e];simp[b,e,run_underlying h]
theorem auH {bytes:Nat}{T:TypeId}{i:TypeInfo}{z:aq}(r:P.underlying T=ax (.slice E))(hi:P.info? E=ax i)(C:i.zero=ax z)(h:i.size=sz)(l:i.bytes=bytes)(s:z.cells.size=sz)(t:0 < sz)
  {v v':aq} {w':ao} {n m c:Nat} {xs news:List aq} {a:Addr} (d:w.ownsRowF 0 E sz v n xs) (q:news.length=m*sz) (b:∀j u,news[j]?=ax u->w.cell? (a.add j)=ax u) (D:∀u∈news,u.oneCell'=av)
  (G:n+m<=9223372036854775807) (F:(n+m)*bytes<=140737488355328) (f:(Builtin.append_ #[T,T] U #[v,.slice (ax a) m c]).run P w=.ok v' w') :
  ∀k,v'.ownBlock=ax k->v.ownBlock=ax k∨w.heap.size<=k:=by
 intro k x;have o:n+m<=maxLen:=by simp only[maxLen];omega
 rcases d.2 with ⟨rfl,rfl⟩|⟨g,cap,cur,fz,rfl,H,I,y,J,K,A,B⟩
 ·obtain⟨v2,w2,L,M,N,O⟩:=run_append_ownF (P:=P) w w.heap.size T U E i z sz bytes r hi C h l s t (.slice aw 0 0) 0 xs ⟨d.1,.inl ⟨rfl,rfl⟩⟩ a m c news q b D o F (auY _);rw[L] at f;cases f;exact .inr (World.ownsRowF.lt M k x).1
 ·subst h;subst l;by_cases e:n+m<=cap
  ·have p:n*i.size+news.length<=cur.size:=by rw[q,A,<-axY];exact awL _ e
   rw[run_append_roomF (P:=P) w T U E i r hi g n cap cur fz I y a m c news q b D e p] at f;cases f;exact .inl x
  ·have holds:∀j u,xs[j]?=ax u->w.cell? ((⟨g,0,aw⟩:Addr).add j)=ax u:=d.cells (g:=g) rfl;rw[run_append_grow (P:=P) w T U E i z r hi C ⟨g,0,aw⟩ n cap xs d.1 holds a m c news q b om om (growslice_fits om F)] at f;cases f;simp only[Value.ownBlock,azB] at x;exact .inr om
theorem M3 {T:TypeId}{cs:Array Bool}{bytes n:Nat}(t:P.underlying T=ax (.slice E))(he:elB P E sz bytes=av)(f:0 < sz)
  (c:w.ownsRowF 0 E sz v n xs) (I:Sl w v2 sz m news) (B:∀u∈news,u.oneCell'=av) (C:(n+m)*bytes<=140737488355328) (J:n+m<=140737488355328) :
  ∃v' w',(mB .append #[T,T] U cs #[v,v2]).run P w=.ok (.value v') w'∧IT (.row E sz v n xs) (.row E sz v' (n+m) (xs++news)) w w':=by
 obtain⟨i,z,hi,D,h,k,l⟩:=kL he;obtain⟨o,a,cap,rfl,K,L⟩:=I;have x:n+m<=maxLen:=by simp only[maxLen];omega
 have fin:∀(a:Addr),(∀j u,news[j]?=ax u->w.cell? (a.add j)=ax u)->∃v' w',(mB .append #[T,T] U cs #[v,.slice (ax a) m cap]).run P w=.ok (.value v') w'∧IT (.row E sz v n xs) (.row E sz v' (n+m) (xs++news)) w w':=by
  intro a F;obtain⟨v',w',G,M,N,O⟩:=run_append_ownF (P:=P) w 0 T U E i z sz bytes t hi D h k l f v n xs c a m cap news o F B x C (avK _);refine⟨v',w',?_,XN N,M,auH (P:=P) t hi D h k l f c o F B om C G⟩;simp[mB,builtin,G]
 cases a with
|some p=>
  refine fin p λj u H=>?_;have q:j < news.length:=(avL.1 H).1;have hm:0 < m:=by
   rcases axG m with r|r
   ·subst r;simp at o;rw[o] at q;simp at q
   ·exact r
  obtain⟨y,d⟩:=L p rfl;have:=y hm;obtain⟨b,off,spot⟩:=p;simp only at this d;subst this;rw[cM];exact d j u H
|none=>
  have r:=K rfl;subst r;have s:news=[]:=ayT (by simpa using o);subst s;refine⟨v,w,?_,by rw[awF];exact IT.refl (e:=.row E sz v n xs) c⟩;rcases c.2 with ⟨rfl,rfl⟩|⟨g,Q,cur,fz,rfl,_,_,_,A,_⟩
  ·simp[mB,builtin,Builtin.append_,run_underlying t,sizeOf,typeInfo,hi,Builtin.lenOf,Builtin.firstCells]
  ·simp[mB,builtin,Builtin.append_,run_underlying t,sizeOf,typeInfo,hi,Builtin.lenOf,Builtin.firstCells,A,storeCells]
def roomy (v:aq):Prop:=∀a k,v≠.slice (ax a) k 0
theorem roomy_row {n:Nat}(h:w.ownsRowF 0 E sz v n xs)(l:0 < n):roomy v:=by
 intro a k c;rcases h.2 with ⟨rfl,_⟩|⟨g,cap,cur,fz,rfl,d,m,e,f,i,j,b⟩
 ·cases c
 ·injection c with o p c3
  omega
theorem Da (l:List UInt8):Lib.strCells ⟨l.toArray⟩=aM l:=by
 simp[Lib.strCells,aM]
theorem Ia {T h:TypeId}{cs:Array Bool}{n:Nat}{l:List UInt8}(s:P.underlying T=ax (.slice E))(hu:P.underlying h=ax .string)(he:elB P E 1 1=av)(W:P.underlying E=ax (.int .u8))
  (t:(P.info? E).bind (·.zero)=ax (.int .u8 0))
  (b:w.ownsRowF 0 E 1 v n xs) (L:n+l.length<=140737488355328) :
  ∃v' w',(mB .append #[T,h] U cs #[v,ae l]).run P w=.ok (.value v') w'∧IT (.row E 1 v n xs) (.row E 1 v' (n+l.length) (xs++aM l)) w w'∧(roomy v->roomy v'):=by
 obtain⟨i,z,hi,X,e,m,M⟩:=kL he;have o:i.zero=ax (.int .u8 0):=by rw[hi] at t;exact t
 have c:=cQ l;have x:n+(⟨l.toArray⟩:ByteArray).size<=maxLen:=by rw[c];simp only[maxLen];omega
 obtain⟨v',w',f,A,N,O⟩:=Lib.run_append_own_stringF (P:=P) w 0 T h U E i s hu hi o e m v n xs b ⟨l.toArray⟩ x (by rw[c];omega) (avK _);rw[Da,c] at A;have B:roomy v->roomy v':=by
  intro Q a k y;rcases axG (n+l.length) with K|K
  ·rcases b.2 with ⟨rfl,_⟩|⟨g,cap,cur,fz,rfl,C,D,p,F,G,q,r⟩
   ·have:=O.2 ⟨rfl,by rw[c];omega⟩;rw[this] at y;cases y
   ·have d:n+(⟨l.toArray⟩:ByteArray).size<=cap:=by rw[c];omega
    rw[Lib.run_append_room_stringF (P:=P) w T h U E i s hu hi e g n cap cur fz D (by simpa using p) ⟨l.toArray⟩ d (by simp at q;omega)] at f
    injection f with H R
    rw[<-H] at y
    injection y with Y Z c3
    exact Q ⟨g,0,aw⟩ n (by rw[c3])
  ·exact roomy_row A K a k y
 refine⟨v',w',by simp[mB,builtin,f],⟨XN N,A,?_⟩,B⟩;intro k I;rcases b.2 with ⟨rfl,rfl⟩|⟨g,cap,cur,fz,rfl,C,D,p,F,G,q,r⟩
 ·obtain⟨v2,w2,S,V,q3,q4⟩:=Lib.run_append_own_stringF (P:=P) w w.heap.size T h U E i s hu hi o e m (.slice aw 0 0) 0 xs ⟨b.1,.inl ⟨rfl,rfl⟩⟩ ⟨l.toArray⟩ x (by rw[c];omega) (auY _);rw[S] at f;cases f;exact .inr (World.ownsRowF.lt V k I).1
 ·by_cases d:n+(⟨l.toArray⟩:ByteArray).size<=cap
  ·rw[Lib.run_append_room_stringF (P:=P) w T h U E i s hu hi e g n cap cur fz D (by simpa using p) ⟨l.toArray⟩ d (by simp at q;omega)] at f;cases f;exact .inl I
  ·have holds:∀j u,xs[j]?=ax u->w.cell? ((⟨g,0,aw⟩:Addr).add j)=ax u:=b.cells (g:=g) rfl;rw[Lib.run_append_grow_string (P:=P) w T h U E i (.int .u8 0) s hu hi o ⟨g,0,aw⟩ n cap xs (by rw[e];simpa using b.1) holds ⟨l.toArray⟩ om (by rw[c];omega) (by rw[m];exact growslice_fits om (by rw[c];omega))] at f;cases f;have J:ax w.heap.size=ax k:=I;cases J;exact .inr (auY _)
theorem dQ.swap {f:Ent}(d:dQ S w0 w (e::f::L)):dQ S w0 w (f::e::L):=by
 obtain⟨i,a2⟩:=ayC.1 d.apart;obtain⟨a3,a4⟩:=ayC.1 a2;exact⟨d.grew,λg b=>d.all g (by simp only[avB] at b ⊢;rcases b with h|h|h<;>simp[h]),.cons (λg b k c a=>by
  rcases avB.1 b with rfl|b
  ·exact i f sm k a c
  ·exact a3 g b k c a) (.cons (λg b k c a=>i g (by simp[b]) k c a) a4)⟩
theorem UK (i:Nat){R:aq->Ent->Prop}(a:dQ S w0 w L)(hi:L[i]?=ax e)(h:Ret P f args w (λv w'=>∃e',R v e'∧IT e e' w w'))
  (k:∀v e' w',R v e'->dQ S w0 w' (L.set i e')->K v w'):eN P f args w PK K:=
 Dv h λv w' ⟨e',b,c⟩=>k v e' w' b (a.turn i hi c)
theorem aI {R:aq->Prop}(a:dQ S w0 w L)(h:Ret P f args w (λv w'=>R v∧Below w.heap.size w w'))
  (k:∀v w',R v->dQ S w0 w' L->K v w'):eN P f args w PK K:=
 Dv h λv w' ⟨b,c⟩=>k v w' b (a.grow c)
end
end Eng
end
end Go.Proofs.YtkghomgfocpgeaaGreatDoor

namespace Go.Proofs
open Go.Shelf
open Go.RowKit in
def Tryz.RR:Go.Shelf.Ren:=⟨λ|137=>139|217=>176|266=>209|n=>n,λ|9=>9|5=>5|3=>3|n=>n,λ|n=>n⟩
theorem Tryz.aiW:Go.Proofs.Lays.n137 ah Tryz.RR:={
 mixed:=krx
 f137:=Tryz.func139.trans (congrArg ax krx)
 f217:=Tryz.func176.trans (congrArg ax krx)
 f266:=Tryz.func209.trans (congrArg ax krx)
 t3:=awM
 a3:=Tryz.isAgg3
 z3:=Tryz.sizeOf3
 v3:=Tryz.zeroValue3
 t5:=avN
 a5:=Tryz.isAgg5
 z5:=Tryz.sizeOf5
 v5:=Tryz.zeroValue5
 t9:=auV
 a9:=Tryz.isAgg9
 z9:=Tryz.sizeOf9
 v9:=Tryz.zeroValue9 }
open Go.RowKit in
theorem Tryz.strings_IndexByte (s:ByteArray)(c:Int)(w:ao) :
  Calls ah 139 #[.string s,.int .u8 c] w λe w'=>e=.returned (.int .i64 (Lib.indexByte s.data.toList c.toNat.toUInt8))∧w'=w:=Any.strings_IndexByte Tryz.aiW s c w
open Go.RowKit Go.Lib in
def Tryz.Si:Go.Shelf.Ren:=⟨λ|212=>188|263=>214|264=>215|n=>n,λ|46=>88|51=>163|146=>241|53=>157|148=>243|n=>n,λ|n=>n⟩
theorem Tryz.agJ:Go.Proofs.Lays.n212 ah Tryz.Si:={
 mixed:=krx
 f212:=Tryz.func188.trans (congrArg ax krx)
 f263:=Tryz.func214.trans (congrArg ax krx)
 f264:=Tryz.func215.trans (congrArg ax krx)
 t46:=ayI
 a46:=Tryz.isAgg88
 z46:=Tryz.sizeOf88
 v46:=Tryz.zeroValue88
 t51:=aAM
 a51:=Tryz.isAgg163
 z51:=Tryz.sizeOf163
 v51:=Tryz.zeroValue163
 t53:=aAw
 a53:=Tryz.isAgg157
 z53:=Tryz.sizeOf157
 v53:=Tryz.zeroValue157
 t146:=underlying241
 a146:=Tryz.isAgg241
 z146:=Tryz.sizeOf241
 v146:=Tryz.zeroValue241
 t148:=underlying243
 a148:=Tryz.isAgg243
 z148:=Tryz.sizeOf243
 v148:=Tryz.zeroValue243 }
open Go.RowKit Go.Lib in
theorem Tryz.bits_Mul (x y:Nat)(a:x < 18446744073709551616)(b:y < 18446744073709551616)(w:ao) :
  Calls ah 188 #[.int .u64 x,.int .u64 y] w λe w'=>e=.returned (.tuple #[.int .u64 ((x*y / 18446744073709551616:Nat):Int),.int .u64 ((x*y % 18446744073709551616:Nat):Int)])∧w'=w:=Any.bits_Mul Tryz.agJ x y a b w
def Tryz.Md:Go.Shelf.Ren:=⟨λ|105=>164|212=>188|99=>189|165=>190|166=>162|170=>191|169=>157|263=>214|264=>215|206=>216|240=>187|241=>217|276=>213|277=>238|n=>n,λ|9=>9|3=>3|4=>4|20=>20|0=>0|46=>88|109=>222|5=>5|72=>183|76=>200|51=>163|146=>241|53=>157|148=>243|70=>181|37=>70|75=>189|127=>221|164=>239|80=>193|n=>n,λ|n=>n⟩
theorem Tryz.akG:Go.Proofs.Lays.n105 ah Tryz.Md:={
 mixed:=krx
 f99:=Tryz.func189.trans (congrArg ax krx)
 f105:=Tryz.func164.trans (congrArg ax krx)
 f165:=Tryz.func190.trans (congrArg ax krx)
 f166:=Tryz.func162.trans (congrArg ax krx)
 f169:=Tryz.func157.trans (congrArg ax krx)
 f170:=Tryz.func191.trans (congrArg ax krx)
 f206:=Tryz.func216.trans (congrArg ax krx)
 f212:=Tryz.func188.trans (congrArg ax krx)
 f240:=Tryz.func187.trans (congrArg ax krx)
 f241:=Tryz.func217.trans (congrArg ax krx)
 f263:=Tryz.func214.trans (congrArg ax krx)
 f264:=Tryz.func215.trans (congrArg ax krx)
 f276:=Tryz.func213.trans (congrArg ax krx)
 f277:=Tryz.func238.trans (congrArg ax krx)
 t0:=underlying0
 a0:=Tryz.isAgg0
 z0:=Tryz.sizeOf0
 v0:=Tryz.zeroValue0
 t3:=awM
 a3:=Tryz.isAgg3
 z3:=Tryz.sizeOf3
 v3:=Tryz.zeroValue3
 t4:=underlying4
 a4:=Tryz.isAgg4
 z4:=Tryz.sizeOf4
 v4:=Tryz.zeroValue4
 t5:=avN
 a5:=Tryz.isAgg5
 z5:=Tryz.sizeOf5
 v5:=Tryz.zeroValue5
 t9:=auV
 a9:=Tryz.isAgg9
 z9:=Tryz.sizeOf9
 v9:=Tryz.zeroValue9
 t20:=ayD
 a20:=Tryz.isAgg20
 z20:=Tryz.sizeOf20
 v20:=Tryz.zeroValue20
 t37:=avE
 a37:=Tryz.isAgg70
 z37:=Tryz.sizeOf70
 v37:=Tryz.zeroValue70
 t46:=ayI
 a46:=Tryz.isAgg88
 z46:=Tryz.sizeOf88
 v46:=Tryz.zeroValue88
 t51:=aAM
 a51:=Tryz.isAgg163
 z51:=Tryz.sizeOf163
 v51:=Tryz.zeroValue163
 t53:=aAw
 a53:=Tryz.isAgg157
 z53:=Tryz.sizeOf157
 v53:=Tryz.zeroValue157
 t70:=underlying181
 a70:=Tryz.isAgg181
 z70:=Tryz.sizeOf181
 v70:=Tryz.zeroValue181
 t72:=underlying183
 a72:=Tryz.isAgg183
 z72:=Tryz.sizeOf183
 v72:=Tryz.zeroValue183
 t75:=underlying189
 a75:=Tryz.isAgg189
 z75:=Tryz.sizeOf189
 v75:=Tryz.zeroValue189
 t76:=underlying200
 a76:=Tryz.isAgg200
 z76:=Tryz.sizeOf200
 v76:=Tryz.zeroValue200
 t109:=underlying222
 a109:=Tryz.isAgg222
 z109:=Tryz.sizeOf222
 v109:=Tryz.zeroValue222
 t127:=underlying221
 a127:=Tryz.isAgg221
 z127:=Tryz.sizeOf221
 v127:=Tryz.zeroValue221
 t146:=underlying241
 a146:=Tryz.isAgg241
 z146:=Tryz.sizeOf241
 v146:=Tryz.zeroValue241
 t148:=underlying243
 a148:=Tryz.isAgg243
 z148:=Tryz.sizeOf243
 v148:=Tryz.zeroValue243
 t164:=underlying239
 a164:=Tryz.isAgg239
 z164:=Tryz.sizeOf239
 v164:=Tryz.zeroValue239 }
theorem Tryz.IV:Builder.Extra ah Tryz.Md:={
 sizeBuilder:=krx
 liesBuilder:=krx
 t5:=avN
 a5:=Tryz.isAgg5
 z5:=Tryz.sizeOf5
 v5:=Tryz.zeroValue5
 infoByte:=krx
 cellsByte:=krx
 sizeByte:=krx
 neB5:=by decide }
open Go.RowKit Go.Lib in
theorem Tryz.strings_Repeat (s:ByteArray)(c:Nat)(w:ao)(a:c<=9223372036854775807)(hlen:s.size*c<=140737488355328) :
  Calls ah 164 #[.string s,.int .i64 c] w λe w'=>e=.returned (.string ⟨(Lib.repeatL s.data.toList c).toArray⟩)∧Below w.heap.size w w':=Any.strings_Repeat Tryz.akG Tryz.IV s c w a hlen
end Go.Proofs
namespace Go.Proofs.YtkghomgfocpgeaaGreatDoor
variable{A S:Nat->Prop}{B:Prop}{C:ao->Prop}{D E T1 U:TypeId}{K K':VWP}{L:List Eng.Ent}{L0:Loop}{P:Program}{PK PK2:PKT}{W w w' w0:ao}{a hi lo:Int}{args ca fa:Array aq}{b cap d f fuel i j m sz:Nat}{cb:Array Bool}{cs cur new news xs:List aq}{e:Eng.Ent}{k':IntKind}{q want y:Bool}{v v' v1 v2 vc vk:aq}{xo yo:Operand}{α β:Type}{σ:Eng.Sg}
section
open Eng Go.RowKit
theorem PI (a b:List UInt8):aM (a++b)=aM a++aM b:=by simp[aM]
end
section
open Eng
namespace Eng
abbrev JT:=List aq->ao->Prop
abbrev KT:=Ending->ao->Prop
abbrev QH:=Exit->Sg->ao->Prop
abbrev FH:=Nat->JT
abbrev PH:=Sg->List aq->Sg->ao->FH->Prop
def cn (J:JT) (f:FH):FH:=λi=>cond (i==0) J (f (i - 1))
def zg:List Nat->List aq->Sg
 |k::a,v::vs=>λi=>cond (i==k) v (zg a vs i)
 |_,_=>λ_=>undef
def updH (σ:Sg) (d:Nat) (v:aq):Sg:=λi=>cond (i==d) v (σ i)
def putH (σ:Sg):Option Nat->aq->Sg
 |some d,v=>updH σ d v
 |none,_=>σ
def Wi (σ:Sg):List Nat->List aq
 |[]=>[]
 |i::l=>σ i::Wi σ l
def nh (k:Nat) (l:List Nat):Nat×List Nat×PH:=(k,l,λ_ _ _ _ _=>True)
def lkH (k:Nat) (F:List Nat->PH->Prop):List (Nat×List Nat×PH)->Prop
 |[]=>False
 |h::r=>bc (Nat.beq h.1 k) (F h.2.1 h.2.2) (lkH k F r)
def lnH (k:Nat):List (Nat×Nat)->Nat
 |[]=>999999
 |h::r=>bc (Nat.beq h.1 k) h.2 (lnH k r)
def tnQ (Q:QH) (K:Sg->ao->Prop):QH
 |.normal,σ,w=>K σ w
 |e,σ,w=>Q e σ w
def bkQ (id:Nat) (Q:QH):QH
 |.exit j,σ,w=>bc (Nat.beq j id) (Q .normal σ w) (Q (.exit j) σ w)
 |e,σ,w=>Q e σ w
def opH' (P:Program) (o:Oper) (σ:Sg) (w:ao) (K:KT) (k:VWP):Prop:=
 match o.op with
 |.move x | .assign x=>k (rd σ x) w
 |.call { callee:=.value (.func f),args,.. }=>eN P f (BH (rd σ) args) w (pk K) k
 |_=>DoX P (Ec (rd σ) o) w (pk K) k
def opsH (P:Program) (K:KT) (ops:Array Oper) (k:Sg->ao->Prop):List Oper->Sg->ao->Prop
 |[],σ,w=>k σ w
 |o::r,σ,w=>match o.guard with
  |none=>opH' P o σ w K (λv w=>opsH P K ops k r (putH σ o.dst v) w)
  |some (j,want)=>match Lc ops j with
   |some d=>GDo (σ d) want (λE=>opH' P o σ w K E) w (λv w=>opsH P K ops k r (putH σ o.dst v) w)
   |none=>False
def opQ' (P:Program) (C:ao->Prop) (o:Oper) (σ:Sg) (k:aq->Prop):Prop:=
 match o.op with
 |.move x | .assign x=>k (rd σ x)
 |.call { callee:=.value (.func f),args,.. }=>Eu P C f (BH (rd σ) args) k
 |_=>QDo P C (Ec (rd σ) o) k
def opsQ (P:Program) (ops:Array Oper) (C:ao->Prop) (k:Sg->Prop):List Oper->Sg->Prop
 |[],σ=>k σ
 |o::r,σ=>match o.guard with
  |none=>opQ' P C o σ (λv=>opsQ P ops C k r (putH σ o.dst v))
  |some (j,want)=>match Lc ops j with
   |some d=>GQ (σ d) want (λE=>opQ' P C o σ E) (λv=>opsQ P ops C k r (putH σ o.dst v))
   |none=>False
def pmN:Nat->PKT->PKT
 |0,p=>p
 |n+1,p=>pm1 (pmN n p)
def lkR (k:Nat) (F:List Nat->PH->Prop) (d:Prop):List (Nat×List Nat×PH)->Prop
 |[]=>d
 |h::r=>bc (Nat.beq h.1 k) (F h.2.1 h.2.2) (lkR k F d r)
def hdO (P:Program) (S:ao->Prop) (o:Oper) (σ:Sg) (k:aq->Prop):Prop:=
 match o.op with
 |.move x | .assign x=>k (rd σ x)
 |_=>HDo P S (Ec (rd σ) o) k
def hdH (P:Program) (S:ao->Prop) (ops:Array Oper) (o:Oper) (σ:Sg) (k:Sg->Prop):Prop:=
 match o.guard with
 |none=>hdO P S o σ (λv=>k (putH σ o.dst v))
 |some (j,t)=>match Lc ops j with
  |some d=>GQ (σ d) t (λE=>hdO P S o σ E) (λv=>k (putH σ o.dst v))
  |none=>False
def stO (P:Program) (p:PKT) (o:Oper) (σ:Sg) (w:ao) (k:VWP):Prop:=
 match o.op with
 |.move x | .assign x=>k (rd σ x) w
 |.call { callee:=.value (.func f),args,.. }=>eN P f (BH (rd σ) args) w p k
 |_=>DoX P (Ec (rd σ) o) w p k
def stH (P:Program) (p:PKT) (ops:Array Oper) (o:Oper) (σ:Sg) (w:ao) (k:Sg->ao->Prop):Prop:=
 match o.guard with
 |none=>stO P p o σ w (λv w=>k (putH σ o.dst v) w)
 |some (j,t)=>match Lc ops j with
  |some d=>GDo (σ d) t (λE=>stO P p o σ w E) w (λv w=>k (putH σ o.dst v) w)
  |none=>False
def sk:Nat->List Nat->List Nat
 |0,l=>l
 |_,[]=>[]
 |n+1,c::r=>bc (Nat.beq c 0) (sk n r) (bc (Nat.beq c 5) (sk (n+2) r) (sk (n+1) r))
def htH (P:Program) (ops:Array Oper) (S:ao->Prop) (p:PKT) (k:Sg->ao->Prop):Nat->List Nat->Sg->ao->Prop
 |0,_,_,_=>False
 |_,[],_,_=>False
 |n+1,c::r,σ,w=>bc (Nat.beq c 0) (k σ w) (bc (Nat.beq c 5) (htH P ops S p k n r σ w∧htH P ops S p k n (sk 1 r) σ w) (match ops[c / 5]? with
  |none=>False
  |some o=>bc (Nat.beq (c % 5) 1) (hdH P S ops o σ λσ=>htH P ops S p k n r σ w) (bc (Nat.beq (c % 5) 2) (hdH P (λ_=>True) ops o σ λσ=>htH P ops S p k n r σ w)
   (stH P p ops o σ w λσ w=>bc (Nat.beq (c % 5) 3) (S w∧htH P ops S p k n r σ w) (htH P ops S p k n r σ w)))))
def wpH (P:Program) (K:KT) (d:List (Nat×Nat)) (e:List (Nat×List Nat×PH)):Code->FH->QH->Sg->ao->Prop
 |.skip,_,Q,σ,w=>Q .normal σ w
 |.region id ops draw,f,Q,σ,w=>
  bc draw
   (lkR (5000+id) (λl p=>match l with
    |m::c::t=>AI w (λS w=>htH P ops S (pmN m (pk K)) (λσ w=>bc (Nat.beq c 0) (Q .normal σ w) (p σ [] σ w f)) 999 t σ w)
    |_=>False)
   (bc (Nat.beq (lnH id d) ops.size)
    (zp w (λC=>opsQ P ops C (λσ=>∀w',C w'->Q .normal σ w') ops.toList σ))
    (zp w (λC=>opsQ P ops C (λσ=>∀w',C w'->opsH P K ops (λσ w=>Q .normal σ w) (ops.toList.drop (lnH id d)) σ w') (ops.toList.take (lnH id d)) σ))) e)
   (opsH P K ops (λσ w=>Q .normal σ w) ops.toList σ w)
 |.seq a b,f,Q,σ,w=>
  bc (Nat.ble (ways a) 1) (wpH P K d e a f (tnQ Q λσ w=>wpH P K d e b f Q σ w) σ w)
   (lkH (2 * keyOf b) (λg p=>zP (λJ=>wpH P K d e a (cn J f) (tnQ Q λσ' w'=>J (Wi σ' g) w') σ w) (λvs w'=>∀j,p σ vs j w' f)) e)
 |.cond c a b,f,Q,σ,w=>IfX (rd σ c) (wpH P K d e a f Q σ w) (wpH P K d e b f Q σ w)
 |.block id a,f,Q,σ,w=>wpH P K d e a f (bkQ id Q) σ w
 |.loop a,f,_,σ,w=>lkH (2 * keyOf a+1) (λg p=>zr (Wi σ g) w (λvs w N=>∀j,p σ vs j w (cn N f))) e
 |.exit id,_,Q,σ,w=>Q (.exit id) σ w
 |.ret,_,Q,σ,w=>Q .ret σ w
 |_,_,_,_,_=>False
def hdJ:List JT->JT
 |[]=>λ_ _=>False
 |J::_=>J
def atH (P:Program) (K:KT) (e:List (Nat×Nat)) (d:List (Nat×List Nat×PH)):Code->Nat->List JT->FH->QH->Sg->ao->Prop
 |.seq a b,p,js,f,Q,σ,w=>
  bc (Nat.beq p 1) (wpH P K e d (.seq a b) f Q σ w)
   (bc (Nat.beq (p % 2) 0)
    (bc (Nat.ble (ways a) 1) (atH P K e d a (p / 2) js f (tnQ Q λσ w=>wpH P K e d b f Q σ w) σ w)
     (lkH (2 * keyOf b) (λg _=>atH P K e d a (p / 2) js.tail (cn (hdJ js) f) (tnQ Q λσ' w'=>hdJ js (Wi σ' g) w') σ w) d))
    (atH P K e d b (p / 2) js f Q σ w))
 |.cond c a b,p,js,f,Q,σ,w=>
  bc (Nat.beq p 1) (wpH P K e d (.cond c a b) f Q σ w) (bc (Nat.beq (p % 2) 0) (atH P K e d a (p / 2) js f Q σ w) (atH P K e d b (p / 2) js f Q σ w))
 |.block id a,p,js,f,Q,σ,w=>bc (Nat.beq p 1) (wpH P K e d (.block id a) f Q σ w) (atH P K e d a p js f (bkQ id Q) σ w)
 |.loop a,p,js,f,Q,σ,w=>
  bc (Nat.beq p 1) (wpH P K e d (.loop a) f Q σ w)
   (lkH (2 * keyOf a+1) (λg _=>atH P K e d a (p / 2) js.tail (cn (hdJ js) f) (tnQ Q λσ' w'=>hdJ js (Wi σ' g) w') σ w) d)
 |c,_,_,f,Q,σ,w=>wpH P K e d c f Q σ w
def allT:List ResultVar->Bool
 |[]=>av
 |.tmp _::l=>allT l
 |_=>au
def aaT (σ:Sg):List ResultVar->List aq
 |.tmp t::l=>σ t::aaT σ l
 |_=>[]
def oneH (K:KT) (w:ao):List aq->Prop
 |[v]=>K (.returned v) w
 |l=>K (.returned (.tuple l.toArray)) w
def rvK (σ:Sg):List ResultVar->(List RV->Prop)->Prop
 |[],k=>k []
 |r::l,k=>rvK σ l λx=>k (RV.of σ r::x)
def topH (P:Program) (rs:List ResultVar) (K:KT):QH
 |.normal,σ,w=>bc (allT rs) (oneH K w (aaT σ rs)) (rvK σ rs λl=>zu P l w K)
 |.ret,σ,w=>bc (allT rs) (oneH K w (aaT σ rs)) (rvK σ rs λl=>zu P l w K)
 |_,_,_=>False
structure NfX (a b:Prop):Prop where
 mk ::
 out:a=b
theorem NfX.rf {a:Prop}:NfX a a:=⟨rfl⟩
theorem dxE  {m:Sem Next}    (h:∀v w,NfX (K v w) (K' v w)):NfX (DoX P m w PK K) (DoX P m w PK K'):=⟨by rw [funext λv=>funext λw=>(h v w).out]⟩
theorem cxE   {a:Array aq}    (h:∀v w,NfX (K v w) (K' v w)):NfX (eN P f a w PK K) (eN P f a w PK K'):=⟨by rw [funext λv=>funext λw=>(h v w).out]⟩
theorem gdE  {t:Bool} {E:(VWP)->Prop}   (h:∀v w,NfX (K v w) (K' v w)):NfX (GDo v t E w K) (GDo v t E w K'):=⟨by rw [funext λv=>funext λw=>(h v w).out]⟩
theorem qdE   {m:Sem Next} {K K':aq->Prop} (h:∀v,NfX (K v) (K' v)):NfX (QDo P C m K) (QDo P C m K'):=⟨by rw [funext λv=>(h v).out]⟩
theorem qcE    {a:Array aq} {K K':aq->Prop} (h:∀v,NfX (K v) (K' v)):NfX (Eu P C f a K) (Eu P C f a K'):=⟨by rw [funext λv=>(h v).out]⟩
theorem gqE  {t:Bool} {E:(aq->Prop)->Prop} {K K':aq->Prop} (h:∀v,NfX (K v) (K' v)):NfX (GQ v t E K) (GQ v t E K'):=⟨by rw [funext λv=>(h v).out]⟩
theorem ifE  {A a b:Prop} (h:NfX A a) (k:NfX B b):NfX (IfX v A B) (IfX v a b):=⟨by rw [h.out,k.out]⟩
theorem joE {F a:JT->Prop} {R:JT} (h:∀J,NfX (F J) (a J)):NfX (zP F R) (zP a R):=⟨by rw [funext λJ=>(h J).out]⟩
theorem quE  {F a:(ao->Prop)->Prop} (h:∀C,NfX (F C) (a C)):NfX (zp w F) (zp w a):=⟨by rw [funext λC=>(h C).out]⟩
theorem awE  {p a:ao->Prop} (h:∀w,NfX (p w) (a w)):NfX (∀w,C w->p w) (∀w,C w->a w):=⟨by rw [funext λw=>(h w).out]⟩
theorem hoE  {S:ao->Prop} {m:Sem Next} {K K':aq->Prop} (h:∀v,NfX (K v) (K' v)):NfX (HDo P S m K) (HDo P S m K'):=⟨by rw [funext λv=>(h v).out]⟩
theorem hxE  {F a:(ao->Prop)->ao->Prop} (h:∀S w,NfX (F S w) (a S w)):NfX (AI w F) (AI w a):=⟨by rw [funext λS=>funext λw=>(h S w).out]⟩
theorem anE {A a b:Prop} (h:NfX A a) (k:NfX B b):NfX (A∧B) (a∧b):=⟨by rw [h.out,k.out]⟩
theorem mpC {f:α->β}{a:α}{l:List α}:(a::l).map f=f a::l.map f:=rfl
theorem mpN {f:α->β}:([]:List α).map f=[]:=rfl
theorem omS {f:α->β}{a:α}:(ax a).map f=ax (f a):=rfl
theorem omN {f:α->β}:(aw:Option α).map f=none:=rfl
theorem tlA  (l:List α):l.toArray.toList=l:=rfl
theorem rd_t  {t:Nat}:rd σ (.tmp t)=σ t:=rfl
theorem rd_c  :rd σ (.const v)=v:=rfl
theorem rd_g  {g:Nat}:rd σ (.global g)=af g 0:=rfl
theorem rd_f  :rd σ (.func f)=.func (.func f) #[] #[]:=rfl
abbrev nj:JT:=λ_ _=>False
abbrev nk:KT:=λ_ _=>False
def vg (v:List aq)(n:Nat):Value:=v.getD n undef
def nz (F:Func)(p:Nat)(js:List JT)(a:List (Nat×List Nat×PH))(b:List (Nat×Nat))(s:Sg)(w:ao)(K:KT){q r:Prop}
  (h:NfX (atH ah K b a (wG F) p js (λ_ _ _=>False) (topH ah F.results.toList K) s w) q:=by
    repeat' ((conv=>arg 1;whnf);first|(apply dxE;intro v w)|(apply cxE;intro v w)|(apply gdE;intro v w)|apply ifE|(apply joE;intro J)|(apply quE;intro C)|(apply qdE;intro v)|(apply qcE;intro v)|(apply gqE;intro v)|(apply awE;intro w)|(apply hoE;intro v)|(apply hxE;intro S w)|apply anE|exact NfX.rf))
  (c:q=r:=by dsimp only[opH',opQ',hdO,stO,Ec,rd_t,rd_c,rd_g,rd_f,updH,putH,zg,cn,Wi,BH,tlA,mpC,mpN,cond_true,cond_false,Nat.reduceBEq,Nat.reduceSub,isEq,isLit,omS,omN,aaT,bc,nh,hdJ,vg,RV.of]):Prop:=r
end Eng
abbrev iN (n:Int):Value:=.int .i64 n
def dx (m w K k):=DoX ah m w (pk K) k
def gtx (t m w K k):=GDo t av (λE=>DoX ah m w (pk K) E) w k
def gfx (t m w K k):=GDo t au (λE=>DoX ah m w (pk K) E) w k
def ctx (t f a w K k):=GDo t av (λE=>eN ah f a w (pk K) E) w k
def cfx (t f a w K k):=GDo t au (λE=>eN ah f a w (pk K) E) w k
def etx (t:aq)(u:aq)(w:ao)(k:aq->ao->Prop):=GDo t av (λE=>E u w) w k
def efx (t:aq)(u:aq)(w:ao)(k:aq->ao->Prop):=GDo t au (λE=>E u w) w k
def lnx (T x w K k):=DoX ah (mB .len #[T] 3 #[au] #[x]) w (pk K) k
def ecx (o T n z t w K k):=DoX ah (mEq o T (.tmp n) (.const (ad z)) t (ad z)) w (pk K) k
def apx (T x y w K k):=DoX ah (mB .append #[T,T] T #[au,au] #[x,y]) w (pk K) k
def cx (f a w K k):=eN ah f a w (pk K) k
theorem cw{f:FuncId}{F:Func}{args:List aq}{K:KT}{S:Prop}(a:ah.funcs[f]?=ax F)(b:F.body=ax (wG F):=by rfl)(c:Nat.ble args.length F.ntmps=true:=by rfl)(e:wpX ah F.ntmps [] [] aw (wG F) (topQ ah F.results.toList K) (jX args) [] w=S:=by kernel_rfl)(h:S)(d:Gq (wG F)=false:=by kernel_rfl):Calls ah f args.toArray w K:=Js a b rfl rfl c (e▸h) d
theorem cz A B{f:FuncId}{F:Func}{args:List aq}{w:ao}{K:KT}{S:Prop}(a:ah.funcs[f]?=ax F)(b:F.body=ax (wG F):=by rfl)(c:Nat.ble args.length F.ntmps=true:=by rfl)(e:wpX ah F.ntmps A B aw (wG F) (topQ ah F.results.toList K) (jX args) [] w=S:=by kernel_rfl)(h:S)(d:Gq (wG F)=false:=by kernel_rfl):Calls ah f args.toArray w K:=Js a b rfl rfl c (e▸h) d
def ldx (T a w K k):=DoX ah (aG T a) w (pk K) k
def bnx (o T a b w K k):=DoX ah (gS o T a b) w (pk K) k
def iax (T a i w K k):=DoX ah (mIA T a i) w (pk K) k
def fax (T a n w K k):=DoX ah (mFA T a n) w (pk K) k
def nlx (a w K k):=DoX ah (GZ a) w (pk K) k
def exx (a n w K k):=DoX ah (zt a n) w (pk K) k
def stx (T a v w K k):=DoX ah (aV T a v) w (pk K) k
def eqx (o T x y a b w K k):=DoX ah (mEq o T x y a b) w (pk K) k
def mbx (f t T b a w K k):=DoX ah (mB f t T b a) w (pk K) k
def slx (T a b c d w K k):=DoX ah (cY T a b c d) w (pk K) k
def alx (T w K k):=DoX ah (iM T) w (pk K) k
def GO(t0 w)(K:KT):=nz f152 1 [] [] [] (zg [0] [t0]) w K
theorem JO{t0 w K}:GO t0 w K->Calls ah 152 #[t0] w K:=cw func152
end
end Go.Proofs.YtkghomgfocpgeaaGreatDoor


namespace Go.Proofs.YtkghomgfocpgeaaGreatDoor
variable{A S:Nat->Prop}{B:Prop}{C:ao->Prop}{D E T1 U:TypeId}{K K':VWP}{L:List Eng.Ent}{L0:Loop}{P:Program}{PK PK2:PKT}{W w w' w0:ao}{a hi lo:Int}{args ca fa:Array aq}{b cap d f fuel i j m sz:Nat}{cb:Array Bool}{cs cur new news xs:List aq}{e:Eng.Ent}{k':IntKind}{q want y:Bool}{v v' v1 v2 vc vk:aq}{xo yo:Operand}{α β:Type}{σ:Eng.Sg}
section
open Eng Go.RowKit
def ints (a:List Int):List Value:=a.map (Value.int .i64)
end
end Go.Proofs.YtkghomgfocpgeaaGreatDoor



namespace Go.Proofs.YtkghomgfocpgeaaGreatDoor
variable{A S:Nat->Prop}{B:Prop}{C:ao->Prop}{D E T1 U:TypeId}{K K':VWP}{L:List Eng.Ent}{L0:Loop}{P:Program}{PK PK2:PKT}{W w w' w0:ao}{a hi lo:Int}{args ca fa:Array aq}{b cap d f fuel i j m sz:Nat}{cb:Array Bool}{cs cur new news xs:List aq}{e:Eng.Ent}{k':IntKind}{q want y:Bool}{v v' v1 v2 vc vk:aq}{xo yo:Operand}{α β:Type}{σ:Eng.Sg}
section
open Eng Go.RowKit
theorem UB (c:UInt8):∀l:List UInt8,(Lib.indexByte l c=-1∧l.takeWhile (λx=>x != c)=l∧l.dropWhile (λx=>x != c)=[]) ∨
  ∃i:Nat,Lib.indexByte l c=i∧i < l.length∧l.takeWhile (λx=>x != c)=l.take i∧l.dropWhile (λx=>x != c)=l.drop i
|[]=>.inl ⟨rfl,rfl,rfl⟩
|b::l=>by
  by_cases h:b=c
  ·subst h;exact .inr ⟨0,by simp[Lib.indexByte],sm,sm,sm⟩
  ·have g:(b==c)=false:=by simpa using h
   have a:(b != c)=true:=by simpa using h
   rcases UB c l with ⟨d,j,f⟩|⟨i,d,j,f,k⟩
   ·exact .inl ⟨by simp[Lib.indexByte,g,d],by simp[a,j],by simp[a,f]⟩
   ·refine .inr ⟨i+1,?_,by simp;omega,by simp[a,f],by simp[a,k]⟩;have e:((i:Int)==-1)=false:=sm
    simp only[Lib.indexByte,g,d,e,ayH,if_false];omega
end
end Go.Proofs.YtkghomgfocpgeaaGreatDoor

namespace Go.Proofs.YtkghomgfocpgeaaGreatDoor
variable{A S:Nat->Prop}{B:Prop}{C:ao->Prop}{D E T1 U:TypeId}{K K':VWP}{L:List Eng.Ent}{L0:Loop}{P:Program}{PK PK2:PKT}{W w w' w0:ao}{a hi lo:Int}{args ca fa:Array aq}{b cap d f fuel i j m sz:Nat}{cb:Array Bool}{cs cur new news xs:List aq}{e:Eng.Ent}{k':IntKind}{q want y:Bool}{v v' v1 v2 vc vk:aq}{xo yo:Operand}{α β:Type}{σ:Eng.Sg}
section
open Eng Go.RowKit
theorem G1 (l:List UInt8)(c:UInt8)(w:ao):Ret ah 139 #[ae l,.int .u8 c.toNat] w (λv w'=>v=ad (Lib.indexByte l c)∧w=w'):=by
 refine Calls.mono (Tryz.strings_IndexByte ⟨l.toArray⟩ c.toNat w) ?_;rintro e w' ⟨rfl,rfl⟩;refine xB ⟨?_,rfl⟩;simp
theorem Ro (c:UInt8)(w:ao):Ret ah 152 #[.int .u8 c.toNat] w (λv w'=>v=.bool (Oc.JV c)∧w=w'):=by
 refine aL λK a=>JO ?_;unfold GO nz;refine zq (G1 Oc.Yi c w) ?_;simp only[rs,Oc.AN];exact a _ _ ⟨rfl,rfl⟩
theorem repeatL_one (c:UInt8)(n:Nat):Lib.repeatL [c] n=List.replicate n c:=by
 induction n with
|zero=>rfl
|succ n a=>simp[Lib.repeatL,aBa,a]
theorem u8d (c:UInt8)(k:Int)(x:UInt8)(a:(x.toNat:Int)=k):ai ((c.toNat:Int)=k)=ai (c=x):=by
 by_cases h:c=x
 ·subst h;rw[auR a,auR rfl]
 ·rw[auQ h,auQ];intro b;exact h (aAh.1 om)
def strV (p:List UInt8):Value:=ae p
def bT (ps:List (List UInt8)):List Value:=ps.map strV
theorem eO {ps:List (List UInt8)}(h:i < ps.length):(bT ps)[i]?=ax (.string ⟨ps[i].toArray⟩):=by simp[bT,strV,h]
end
section
open Eng Go.RowKit Go.ChangeShapes Go.WideShapes Go.ChangeAt
theorem CR {x:String×DataW Unit}{l:List (String×DataW Unit)}(h:laidMet P (x::l) W):laidMet P l W:=by
 obtain⟨ps,⟨g,t,cs,fuel,p,q,_,_,_,_,a,rfl⟩,c,d⟩:=h;exact⟨q,a,(List.nodup_append.1 c).2.1,λb off hm=>d b off (by simp[hm])⟩
end
section
namespace Eng
open Go.RowKit
def By (P:Program)(T:TypeId):Option Nat:=
 match P.underlying T with
|some (.struct _)|some (.array _ _)=>(P.info? T).map (·.size)
|_=>aw
def AtV (P:Program)(w:ao)(T:TypeId)(a:Addr)(v:aq):Prop:=(loadVar T a).run P w=.ok v w
section
variable {S:Nat->Prop}{P:Program}{w:ao}{PK:PKT}{K:VWP}
theorem AtV.cell {T:TypeId}(b:dP P T=av){a:Addr}{v:aq}(h:w.cell? a=ax v):AtV P w T a v:=pA b h
theorem AtV.agg {T:TypeId}{n:Nat}(a:By P T=ax n){b off:Nat}{cs:List aq}(f:cs.length=n)(h:∀j v,cs[j]?=ax v->w.cell? ⟨b,off+j,aw⟩=ax v):AtV P w T ⟨b,off,aw⟩ (.agg cs.toArray):=by
 have d:=run_loadCells_list (P:=P) w ⟨b,off,aw⟩ cs (λj v g=>by rw[cM];exact h j v g);unfold By at a;subst f;unfold AtV;split at a
 ·rename_i fs hu
  obtain⟨i,hi,c⟩:=awZ.1 a;simp[loadVar,isAgg,run_underlying hu,sizeOf,typeInfo,hi,c,d]
 ·rename_i k e hu
  obtain⟨i,hi,c⟩:=awZ.1 a;simp[loadVar,isAgg,run_underlying hu,sizeOf,typeInfo,hi,c,d]
 ·cases a
theorem bC {T:TypeId}{a:Addr}(h:AtV P w T a v):(aG T (.pointer (ax a))).run P w=.ok (.value v) w:=by
 unfold AtV at h;exact cE (by simp[Instr.loadAt,Instr.sureAddr,h])
theorem AT {T:TypeId}{a:Addr}(h:AtV P w T a v):DoX P (aG T (.pointer (ax a))) w PK K=K v w:=aC (bC h)
theorem dQ.agg {w0:ao}{L:List Ent}(a:dQ S w0 w L)(i:Nat){b:Nat}{cs:List aq}{E T:TypeId}(hi:L[i]?=ax (.cells b cs E))(c:By P T=ax cs.length):AtV P w T ⟨b,0,aw⟩ (.agg cs.toArray):=
 AtV.agg c rfl λj v d=>by rw[avC];exact a.cell i hi j d
theorem Pf {T:TypeId}(c:(P.info? T).map (·.size)=ax new.length)(d:∀v∈new,v.oneCell'=av)(e:cs.length=new.length)(h:w.heap[b]?=ax (.cells cs.toArray E (0,0))) :
  (Instr.storeAt T (af b 0) (.agg new.toArray)).run P w=.ok () (w.setRow b new.toArray):=by
 have a:=run_storeCells_at P b 0 E new 0 cs.toArray w h (by simp;omega) d;obtain⟨i,hi,f⟩:=awZ.1 c;have g:cs.toArray.toList.drop new.length=[]:=awK (by rw[<-e];exact auY _);simp only[axA,avC,ayJ,awW,g,awF] at a;have j:(Value.agg new.toArray).cells=new.toArray:=rfl;simp[Instr.storeAt,Instr.sureAddr,storeVar,j,sizeOf,typeInfo,hi,f,a]
theorem gF (i:Nat){T:TypeId}(a:dQ S w0 w L)(hi:L[i]?=ax (.cells b cs E))(c:(P.info? T).map (·.size)=ax new.length)(d:∀v∈new,v.oneCell'=av)(e:cs.length=new.length)
  (k:∀w',dQ S w0 w' (L.set i (.cells b new E))->K undef w'):DoX P (aV T (af b 0) (.agg new.toArray)) w PK K:=
 Is (Og (Pf c d e (a.at_ i hi))) (k _ (gN a i hi _))
theorem jD {T:TypeId}{a:List UInt8}{k:IntKind}(h:P.underlying T=ax .string)(b:0<=lo)(d:lo<=hi)(c:hi<=a.length) :
  (cY T (ae a) (ax (.int k lo)) (ax (.int k' hi)) aw).run P w=.ok (.value (ae ((a.drop lo.toNat).take (hi.toNat - lo.toNat)))) w:=by
 refine cE ?_;have e:(⟨a.toArray⟩:ByteArray).extract lo.toNat hi.toNat=⟨((a.drop lo.toNat).take (hi.toNat - lo.toNat)).toArray⟩:=by
  rw[IY (s:=(⟨a.toArray⟩:ByteArray).extract lo.toNat hi.toNat),Lib.extract_data]
 have g1:(0<=hi∧hi<=((a.length:Nat):Int)):=om
 have g2:(0<=lo∧lo<=((hi.toNat:Nat):Int)):=om
 simp only[Instr.sliceAt,Instr.slice,Instr.sliceBounds,Instr.sliceBound,asIntOf,run_underlying h,cQ];have g3:lo<=max hi 0:=om
 simp[run_underlying h,cQ,c,g3,b,g1.1,e]
theorem PQ (h:Ret P f args w (λv' w'=>v'=v∧w=w'))(a:C w):Ret P f args w (λv' w'=>v'=v∧C w'):=
 h.mono λv' w' r=>⟨r.1,r.2▸a⟩
theorem aaA {a:ao}(h:Ret P f args w (λv' w'=>v'=v∧Below w.heap.size w w'))(b:Below a.heap.size a w):Ret P f args w (λv' w'=>v'=v∧Below a.heap.size a w'):=
 h.mono λv' w' r=>⟨r.1,(((Own.start a).grow b).grow r.2).done⟩
theorem gC {a:RV}{K:Ending->ao->Prop}(b:a.read.run P w=.ok v1 w)(k:K (.returned v1) w):zu P [a] w K:=
 ⟨_,by simp[HB,b],k⟩
theorem mP {a b:RV}{K:Ending->ao->Prop}(c:a.read.run P w=.ok v1 w)(d:b.read.run P w=.ok v2 w)(k:K (.returned (.tuple #[v1,v2])) w):zu P [a,b] w K:=
 ⟨_,by simp[HB,c,d],k⟩
theorem TZ {a b c:RV}{v3:aq}{K:Ending->ao->Prop}(d:a.read.run P w=.ok v1 w)(e:b.read.run P w=.ok v2 w)(f:c.read.run P w=.ok v3 w)(k:K (.returned (.tuple #[v1,v2,v3])) w):zu P [a,b,c] w K:=
 ⟨_,by simp[HB,d,e,f],k⟩
theorem bG {T:TypeId}{a:Addr}(h:AtV P w T a v):(RV.cell (.pointer (ax a)) T).read.run P w=.ok v w:=by
 unfold AtV at h;simp[RV.read,asAddr,h]
theorem pV :(RV.val v).read.run P w=.ok v w:=by simp[RV.read]
end
end Eng
end
section
namespace Eng
open Go.RowKit
section
variable {S:Nat->Prop}{P:Program}{w w0:ao}{L:List Ent}{PK:PKT}{K:VWP}
theorem dQ.join {L':List Ent}(h:dQ S w0 w L)(k:dQ NoB w w' L'):dQ S w0 w' (L'++L):=by
 have d:=h.grow k.below;refine⟨d.grew,λe he=>?_,List.pairwise_append.2 ⟨k.apart,d.apart,λe he f i b l g=>?_⟩⟩
 ·rcases avZ.1 he with he|he
  ·obtain⟨a,b⟩:=k.all e he;refine⟨a,λj m=>.inr ?_⟩;rcases b j m with c|c
   ·exact c.elim
   ·exact axN h.size c
  ·exact d.all e he
 ·have n:=f.lt (h.mem i) b g;rcases (k.all e he).2 b l with c|c
  ·exact c
  ·omega
theorem arH {l:Nat}{K:ao->Prop}(i:Nat)(a:dQ S w0 w L)(hi:L[i]?=ax (.obj l (lp L0 .ready aw)))(k:∀w',dQ S w0 w' (L.set i (.obj l (lp L0 .busy aw)))->K w'):BegX P l w K:=
 ⟨_,Nj (a.at_ i hi),k _ (Gi a i hi)⟩
theorem arE {l:Nat}{j:Option Code}{R:VWP}(i:Nat)(a:dQ S w0 w L)(hi:L[i]?=ax (.obj l (lp L0 .busy aw)))(k:∀w',dQ S w0 w' (L.set i (.obj l (lp L0 (if j.isNone then .ready else .done) j)))->R (.bool j.isNone) w'):EndX P l j w R:=
 ⟨_,_,QB (a.at_ i hi),k _ (Gi a i hi)⟩
theorem apB {l:Nat}{args:List aq}{R:VWP}{RP:PKT}(h:YldP P l args w R RP)(k:∀v w',R v w'->K v w')(f:∀c w',RP c w'->PK c w'):DoX P (fV (.func (.yield l) #[] #[]) args.toArray) w PK K:=by
 obtain⟨fn,tmps,a,b,g,i⟩:=h;have j:(fV (.func (.yield l) #[] #[]) args.toArray).run P w=.ok (.round l fn tmps a b) w:=by
  rw[<-g];simp[fV,invoke,Deferred.ofValue,resolve]
 refine⟨?_⟩;rw[j];refine⟨RoundIn.mono i ?_⟩;intro e w' d;cases e with
|returned v=>exact k v w' d
|panicked c=>exact f c w' d
|outgrown=>exact d
theorem apJ {js:List (Option Code×(Nat->ao->Prop))}{a:List PanicEntry->Nat->ao->Prop}{B:Nat->List aq->ao->(VWP)->(PKT)->Prop}{np:Nat}(d:dQ S w0 w L)(hp:cD P f=av)
  (h:∀(L0:Loop) (df lb:Nat) (b:ao),dQ S w0 b (.obj lb (lp L0 .ready aw)::.obj df (.deferred (ax []))::L) ->
   (∀args W R RP,W.heap[lb]?=ax (lp L0 .ready aw)->args.length=np->B lb args W R RP->YldP P lb args W R RP) ->
   Calls P f (fa++#[.func (.yield lb) #[] #[]]++ca) b λe w3=>(∃v st pd k,e=.returned v∧st≠.busy∧w3.heap[lb]?=ax (lp L0 st pd)∧(pd,k)∈js∧k df (KM w3 lb (lp L0 .exhausted pd)))∨∃c,e=.panicked c∧a c df w3) :
  RangeX P aw np (.func (.func f) fa ca) w B js a:=by
 refine⟨f,fa,ca,w.heap.size,w.alloc (.deferred (ax [])),rfl,hp,⟨rfl,rfl⟩,λL0 _ g=>?_⟩;exact h L0 w.heap.size (w.alloc (.deferred (ax []))).heap.size _ ((d.TV _).TV _) (λargs W R RP i j l=>g _ args W R RP i j l)
theorem anA {rs:List RV}{K:Ending->ao->Prop}{df:Nat}(i:Nat)(a:dQ S w0 w L)(hi:L[i]?=ax (.obj df (.deferred (ax []))))(k:∀w',dQ S w0 w' (L.set i (.obj df (.deferred aw)))->RetD P rs w' K):Hb P rs K [mkD df] .returning w:=by
 refine⟨(λh=>by cases h),df,_,rfl,?_,k _ (Gi a i hi)⟩;have h:w.heap[df]?=ax (.deferred (ax [])):=a.at_ i hi;simp[Instr.takeDeferred,getObj,setObj,Sem.run,h]
end
end Eng
end
section
namespace Eng
open Go.RowKit
def eqSh (P:Program):List Field->Option (List (Nat×Bool))
|[]=>ax []
|f::fs=>
  if f.name=="_" then aw
  else match P.underlying f.type with
  |some (.int _)=>(eqSh P fs).map ((f.offset,au)::·)
  |some .string=>(eqSh P fs).map ((f.offset,av)::·)
  |_=>aw
def UU:Bool->Option aq->Option aq->Bool
|false,ax (.int k _),ax (.int k' _)=>ai (k=k')
|true,ax (.string _),ax (.string _)=>av
|_,_,_=>au
def Hy:Option aq->Option aq->Bool
|some (.int _ a),ax (.int _ b)=>a==b
|some (.string a),ax (.string b)=>a.toList==b.toList
|_,_=>au
section
variable {P:Program}{w:ao}{PK:PKT}{K:VWP}
theorem KH (d:Nat)(xs ys:Array aq):∀(fs:List Field) (sh:List (Nat×Bool)),eqSh P fs=ax sh->(sh.all λp=>UU p.2 xs[p.1]? ys[p.1]?)=av ->
  (Op.eqFields (d+1) xs ys fs).run P w=.ok (sh.all λp=>Hy xs[p.1]? ys[p.1]?) w
|[],sh,h,_=>by
  cases h;simp[Op.eqFields]
|f::fs,sh,h,hok=>by
  rw[eqSh] at h;split at h
  ·cases h
  ·rename_i hn
   have hn':f.name≠"_":=by simpa using hn
   split at h
   ·rename_i k hu
    obtain⟨sh',h',rfl⟩:=awZ.1 h;simp only[aAv,avM] at hok;obtain⟨h0,hok⟩:=hok;have ih:=KH d xs ys fs sh' h' hok;cases hx:xs[f.offset]? with
   |none=>rw[hx] at h0;cases h0
   |some a=>
     cases hy:ys[f.offset]? with
    |none=>rw[hx,hy] at h0;cases a<;>cases h0
    |some b=>
      rw[hx,hy] at h0;cases a<;>cases b<;>first|(cases h0;done)|skip
      rename_i k1 a k2 b
      simp only[UU,awG] at h0;subst h0;simp only[Op.eqFields,hn',ne_eq,axB,if_true,Sem.run_bind,part,isAgg,run_underlying hu,Result.andThen_ok,Sem.run_pure,ayH,if_false,hx,hy,run_equalIn_int w d f.type k1 k a b hu,aAv,Hy];cases hab:(a==b)
      ·simp
      ·simp[ih];rfl
   ·rename_i hu
    obtain⟨sh',h',rfl⟩:=awZ.1 h;simp only[aAv,avM] at hok;obtain⟨h0,hok⟩:=hok;have ih:=KH d xs ys fs sh' h' hok;cases hx:xs[f.offset]? with
   |none=>rw[hx] at h0;cases h0
   |some a=>
     cases hy:ys[f.offset]? with
    |none=>rw[hx,hy] at h0;cases a<;>cases h0
    |some b=>
      rw[hx,hy] at h0;cases a<;>cases b<;>first|(cases h0;done)|skip
      rename_i a b
      simp only[Op.eqFields,hn',ne_eq,axB,if_true,Sem.run_bind,part,isAgg,run_underlying hu,Result.andThen_ok,Sem.run_pure,ayH,if_false,hx,hy,run_equalIn_string w d f.type a b hu,aAv,Hy];cases hab:(a.toList==b.toList)
      ·simp
      ·simp[ih];rfl
   ·cases h
def eqT (P:Program)(T:TypeId)(a:List (Nat×Bool)):Prop:=
 P.underlying T=ax (.struct (P.fieldsOf T))∧P.stoodInHeld T=au∧P.eqGuardType P.depth T=au∧eqSh P (P.fieldsOf T).toList=ax a
theorem RL {T:TypeId}{b:List (Nat×Bool)}(h:eqT P T b){xs a:Array aq}(c:(b.all λp=>UU p.2 xs[p.1]? a[p.1]?)=av) :
  (mEq .eql T xo yo (.agg xs) (.agg a)).run P w=.ok (.value (.bool (b.all λp=>Hy xs[p.1]? a[p.1]?))) w:=by
 obtain⟨d,e,f,g⟩:=h;refine cE ?_;rw[Sem.run_bind,run_eqGuard_agg w .eql T xo yo xs a f];simp only[Result.andThen_ok];rw[run_eql_struct,run_equalIn_struct w 9999 T xs a d e,KH 9998 xs a _ b g c];rfl
theorem Sx {T:TypeId}{b:List (Nat×Bool)}(h:eqT P T b){xs a:Array aq}(c:(b.all λp=>UU p.2 xs[p.1]? a[p.1]?)=av) :
  (mEq .neq T xo yo (.agg xs) (.agg a)).run P w=.ok (.value (.bool (!(b.all λp=>Hy xs[p.1]? a[p.1]?)))) w:=by
 obtain⟨d,e,f,g⟩:=h;refine cE ?_;rw[Sem.run_bind,run_eqGuard_agg w .neq T xo yo xs a f];simp only[Result.andThen_ok];rw[run_neq_struct,run_equalIn_struct w 9999 T xs a d e,KH 9998 xs a _ b g c];rfl
end
end Eng
end
section
namespace Eng
open Go.RowKit
section
variable {P:Program}{C:ao->Prop}{K:aq->Prop}
theorem aqS {E:(aq->Prop)->Prop}:GQ (.bool av) av E K=E K:=propext ⟨λx=>x.out,λx=>⟨x⟩⟩
theorem asC {E:(aq->Prop)->Prop}:GQ (.bool au) av E K=K undef:=propext ⟨λx=>x.out,λx=>⟨x⟩⟩
theorem arC {E:(aq->Prop)->Prop}:GQ (.bool au) au E K=E K:=propext ⟨λx=>x.out,λx=>⟨x⟩⟩
theorem atP {E:(aq->Prop)->Prop}:GQ (.bool av) au E K=K undef:=propext ⟨λx=>x.out,λx=>⟨x⟩⟩
theorem K4 {want:Bool}{E:(aq->Prop)->Prop}:GQ undef want E K=K undef:=propext ⟨λx=>x.out,λx=>⟨x⟩⟩
def gq:=And.intro @aqS (And.intro @asC (And.intro @arC (And.intro @atP @K4)))
theorem iR {T:TypeId}{k:IntKind}{b:Int}(h:K (.int k (k.wrap (a+b)))):QDo P C (gS .add T (.int k a) (.int k b)) K:=eZ _ (λ_=>Qz) h
theorem abF {T:TypeId}{k:IntKind}{b:Int}(h:K (.bool (ai (a < b)))):QDo P C (gS .lss T (.int k a) (.int k b)) K:=eZ _ (λ_=>cE (by simp[binOp,Op.intCmp])) h
theorem acJ {T:TypeId}{k:IntKind}{b:Int}(h:K (.bool (ai (a<=b)))):QDo P C (gS .leq T (.int k a) (.int k b)) K:=eZ _ (λ_=>cE (by simp[binOp,Op.intCmp])) h
theorem J6 {T:TypeId}{k:IntKind}{b:Int}(h:K (.bool (ai (b < a)))):QDo P C (gS .gtr T (.int k a) (.int k b)) K:=eZ _ (λ_=>cE (by simp[binOp,Op.intCmp])) h
theorem apR {T:TypeId}{k:IntKind}{b:Int}(h:K (.bool (ai (b<=a)))):QDo P C (gS .geq T (.int k a) (.int k b)) K:=eZ _ (λ_=>cE (by simp[binOp,Op.intCmp])) h
theorem q_eq {T:TypeId}{k:IntKind}{b:Int}(h:K (.bool (ai (a=b)))):QDo P C (mEq .eql T xo yo (.int k a) (.int k b)) K:=eZ _ (λ_=>cE (by simp[eqGuard,binOp,Op.intCmp,WB])) h
theorem q_ne {T:TypeId}{k:IntKind}{b:Int}(h:K (.bool (ai (a≠b)))):QDo P C (mEq .neq T xo yo (.int k a) (.int k b)) K:=eZ _ (λ_=>cE (by simp[eqGuard,binOp,Op.intCmp,YX])) h
theorem aeG {c:Bool}{a b:aq}(h:K (if c then a else b)):QDo P C (fK (.bool c) a b) K:=eZ _ (λ_=>by simp[fK,asBool]) h
theorem H8 {a b:aq}(h:K a):QDo P C (fK (.bool av) a b) K:=aeG h
theorem B0 {a b:aq}(h:K b):QDo P C (fK (.bool au) a b) K:=aeG h
theorem Yl {T:TypeId}{cs:Array Bool}{a:List UInt8}(b:P.underlying T=ax .string)(h:K (ad (a.length:Int))):QDo P C (mB .len #[T] U cs #[ae a]) K:=eZ _ (λ_=>aiH b) h
theorem p_do {m:Sem Next}(v:aq)(h:∀w,m.run P w=.ok (.value v) w)(k:K v):PDo P m K:=⟨v,h,k⟩
theorem aaI {T:TypeId}{k:IntKind}{b:Int}(c:b≠0)(h:K (.int k (k.wrap (a.tdiv b)))):QDo P C (gS .quo T (.int k a) (.int k b)) K:=eZ _ (λ_=>asP c) h
theorem aeC {T:TypeId}{k:IntKind}{b:Int}(c:b≠0)(h:K (.int k (a.tmod b))):QDo P C (gS .rem T (.int k a) (.int k b)) K:=eZ _ (λ_=>asB c) h
theorem q_ix {T:TypeId}{k:IntKind}{i:Int}{a:List UInt8}{c:UInt8}(b:P.underlying T=ax .string)(d:0<=i)(e:a[i.toNat]?=ax c)(h:K (.int .u8 (c.toNat:Int))):QDo P C (mIx T (ae a) (.int k i)) K:=eZ _ (λ_=>abM b d e) h
theorem abV {T:TypeId}{a b:List UInt8}(h:K (.bool (ai (a≠b)))):QDo P C (mEq .neq T xo yo (ae a) (ae b)) K:=by
 refine eZ _ (λ_=>cE ?_) h;have e:(a==b)=ai (a=b):=by by_cases h:a=b<;>simp[h]
 simp[eqGuard,binOp,Op.stringOp,mR,e]
theorem aZ {S:TypeId}{k:IntKind}{n:Int}(a:(P.underlying S).isSome=av)(b:P.underlying D=ax (.int k')):(nG S D (.int k n)).run P w=.ok (.value (.int k' (k'.wrap n))) w:=by
 cases h:P.underlying S with
|none=>rw[h] at a;cases a
|some d=>exact cE (by simp[convert,run_underlying h,run_underlying b,Conv.intToInt])
theorem Wn {T:TypeId}{n:Nat}(h:P.underlying T=ax (.slice E))(b:Sl w v sz n cs):(mB .len #[T] U cb #[v]).run P w=.ok (.value (ad (n:Int))) w:=by
 obtain⟨_,a,cap,rfl,_⟩:=b;simp[mB,builtin,Builtin.len_,run_underlying h,goInt]
end
end Eng
end
section
namespace Eng
open Go.RowKit
theorem dQ.perm {L':List Ent}(h:dQ S w0 w L)(hp:L.Perm L'):dQ S w0 w L':=
 ⟨h.grew,λe he=>h.all e (hp.mem_iff.2 he),(hp.pairwise_iff (λ{x y} a k b c=>a k c b)).1 h.apart⟩
theorem dQ.front {A B C:List Ent}(h:dQ S w0 w (A++(B++C))):dQ S w0 w (B++(A++C)):=
 h.perm (by rw[<-avO,<-avO];exact List.Perm.append_right C List.perm_append_comm)
def Er (L0:Loop)(lb df:Nat):List Ent:=[.obj lb (lp L0 .ready aw),.obj df (.deferred (ax []))]
end Eng
end
section
namespace Eng
open Go.RowKit
def Ent.urow (T:TypeId)(sz:Nat)(v:aq)(n:Nat)(xs:List aq):Ent:=
 ⟨λk=>v.ownBlock=ax k,λw=>w.ownsRow 0 T sz v n xs,λ{w w'} h k=>by
  refine⟨h.1,?_⟩;rcases h.2 with b|⟨g,cap,cur,rfl,c,a,rest⟩
  ·exact .inl b
  ·exact .inr ⟨g,cap,cur,rfl,c,(k g rfl).trans a,rest⟩,λh k d=>(World.ownsRowF.lt (World.ownsRowF_of h) k d).2⟩
section
variable {S:Nat->Prop}{P:Program}{w:ao}{PK:PKT}{K:VWP}
theorem urow_row {T:TypeId}{n:Nat}(h:(Ent.urow T sz v n xs).is w):(Ent.row T sz v n xs).is w:=World.ownsRowF_of h
theorem Sl.urow {T:TypeId}{sz:Nat}{v:aq}{n:Nat}{xs:List aq}(h:(Ent.urow T sz v n xs).is w):Sl w v sz n xs:=Sl.row (urow_row h)
theorem dQ.slU (a:dQ S w0 w L)(i:Nat){T:TypeId}{n:Nat}(hi:L[i]?=ax (.urow T sz v n xs)):Sl w v sz n xs:=Sl.urow (a.at_ i hi)
theorem dQ.nilU (a:dQ S w0 w L)(E:TypeId)(sz:Nat):dQ S w0 w (.urow E sz (.slice aw 0 0) 0 []::L):=by
 refine⟨a.grew,λe he=>?_,.cons (λf c k b=>by simp[Ent.urow,Value.ownBlock] at b) a.apart⟩;rcases avB.1 he with rfl|he
 ·exact⟨⟨sm,.inl ⟨rfl,rfl⟩⟩,λk b=>by simp[Ent.urow,Value.ownBlock] at b⟩
 ·exact a.all e he
theorem dQ.toU (a:dQ S w0 w (.cells b cs E::L))(sz n cap:Nat)(d:cs.length=cap*sz)(g:n<=cap)(i:cap<=9223372036854775807) :
  dQ S w0 w (.urow E sz (cW b 0 n cap) n (cs.take (n*sz))::L):=by
 refine⟨a.grew,λe he=>?_,?_⟩
 ·rcases avB.1 he with rfl|he
  ·refine⟨⟨by rw[avA,d,awB (awL _ g)],.inr ⟨b,cap,cs.toArray,rfl,avK _,a.at_ 0 rfl,g,by simp only[maxLen];omega,by simpa using d,sm⟩⟩,λk c=>?_⟩;simp only[Ent.urow,Value.ownBlock,azB] at c;exact (a.all (.cells b cs E) sm).2 k c.symm
  ·exact a.all e (by simp[he])
 ·refine .cons (λf h k c=>?_) (ayC.1 a.apart).2;simp only[Ent.urow,Value.ownBlock,azB] at c;exact (ayC.1 a.apart).1 f h k c.symm
theorem CD {T:TypeId}{cs:Array Bool}{bytes n:Nat}(l:P.underlying T=ax (.slice E))(he:elB P E sz bytes=av)(e:0 < sz)
  (c:w.ownsRow 0 E sz v n xs) (D:Sl w v2 sz m news) (F:∀u∈news,u.oneCell'=av) (G:(n+m)*bytes<=140737488355328) (q:n+m<=140737488355328) :
  ∃v' w',(mB .append #[T,T] U cs #[v,v2]).run P w=.ok (.value v') w'∧IT (.urow E sz v n xs) (.urow E sz v' (n+m) (xs++news)) w w':=by
 obtain⟨v',w',r,t⟩:=M3 (P:=P) (U:=U) (cs:=cs) l he e (World.ownsRowF_of c) D F G q;refine⟨v',w',r,t.grew,?_,t.new⟩;obtain⟨i,z,hi,I,s,x,y⟩:=kL he;obtain⟨o,a,cap,rfl,J,K⟩:=D;have A:n+m<=maxLen:=by simp only[maxLen];omega
 cases a with
|some p=>
  have L:∀j u,news[j]?=ax u->w.cell? (p.add j)=ax u:=by
   intro j u H;have f:j < news.length:=(avL.1 H).1;have hm:0 < m:=by
    rcases axG m with h|h
    ·subst h;simp at o;rw[o] at f;simp at f
    ·exact h
   obtain⟨B,d⟩:=K p rfl;have:=B hm;obtain⟨b,off,spot⟩:=p;simp only at this d;subst this;rw[cM];exact d j u H
  obtain⟨v2,w2,M,N,O,Q⟩:=run_append_own (P:=P) w 0 T U E i z sz bytes l hi I s x y e v n xs c p m cap news o L F A G (avK _);have:(mB .append #[T,T] U cs #[v,.slice (ax p) m cap]).run P w=.ok (.value v2) w2:=by simp[mB,builtin,M]
  rw[this] at r;cases r;exact N
|none=>
  have h:=J rfl;subst h;have k:news=[]:=ayT (by simpa using o);subst k;have:(mB .append #[T,T] U cs #[v,.slice aw 0 cap]).run P w=.ok (.value v) w:=by
   rcases c.2 with ⟨rfl,rfl⟩|⟨g,R,cur,rfl,_,_,C,_⟩
   ·simp[mB,builtin,Builtin.append_,run_underlying l,sizeOf,typeInfo,hi,Builtin.lenOf,Builtin.firstCells]
   ·simp[mB,builtin,Builtin.append_,run_underlying l,sizeOf,typeInfo,hi,Builtin.lenOf,Builtin.firstCells,C,storeCells]
  rw[this] at r;cases r;rw[awF];exact c
theorem bN (i:Nat){T:TypeId}{cs:Array Bool}{bytes n:Nat}(d:P.underlying T=ax (.slice E))(he:elB P E sz bytes=av)(a:0 < sz)
  (c:dQ S w0 w L) (hi:L[i]?=ax (.urow E sz v n xs)) (e:Sl w v2 sz m news) (f:∀u∈news,u.oneCell'=av) (g:(n+m)*bytes<=140737488355328) (b:n+m<=140737488355328)
  (k:∀v' w',dQ S w0 w' (L.set i (.urow E sz v' (n+m) (xs++news)))->K v' w'):DoX P (mB .append #[T,T] U cs #[v,v2]) w PK K:=by
 obtain⟨v',w',r,t⟩:=CD (cs:=cs) (U:=U) d he a (c.at_ i hi) e f g b;exact yO r (k _ _ (c.turn i hi t))
theorem rM {n:Nat}(h:(Ent.urow E sz v n xs).is w)(a:0 < n):∃g cap,v=cW g 0 n cap:=by
 rcases (show w.ownsRow 0 E sz v n xs from h).2 with ⟨_,b⟩|⟨g,cap,cur,rfl,_⟩
 ·omega
 ·exact⟨g,cap,rfl⟩
theorem Jm {T:TypeId}{g off:Nat}{cur:Array aq}{u:aq}(b:u.cells=new.toArray)(c:(P.info? T).map (·.size)=ax new.length)(d:∀x∈new,x.oneCell'=av)
  (e:w.heap[g]?=ax (.cells cur E (0,0))) (f:off+new.length<=cur.size) :
  (Instr.storeAt T (af g off) u).run P w=.ok () (w.setRow g (cur.toList.take off++new++cur.toList.drop (off+new.length)).toArray):=by
 have a:=run_storeCells_at P g off E new 0 cur w e (by simpa using f) d;obtain⟨i,hi,h⟩:=awZ.1 c;simp only[axA] at a;simp[Instr.storeAt,Instr.sureAddr,storeVar,b,sizeOf,typeInfo,hi,h,a]
theorem D4 (i:Nat){T:TypeId}{g off n:Nat}{u:aq}(j:dQ S w0 w L)(hi:L[i]?=ax (.urow E sz (cW g 0 n cap) n xs))
  (p:u.cells=new.toArray) (q:(P.info? T).map (·.size)=ax new.length) (r:∀x∈new,x.oneCell'=av) (z:off+new.length<=n*sz)
  (k:∀w',dQ S w0 w' (L.set i (.urow E sz (cW g 0 n cap) n (xs.take off++new++xs.drop (off+new.length))))->K undef w'):DoX P (aV T (af g off) u) w PK K:=by
 have a:w.ownsRow 0 E sz (cW g 0 n cap) n xs:=j.at_ i hi;rcases a.2 with ⟨s,_⟩|⟨A,m,cur,he,t,o,c,f,d,b⟩
 ·cases s
 cases he;have hle:n*sz<=cur.size:=by rw[d];exact awL _ c
 refine Is (Og (Jm p q r o om)) (k _ ?_);refine j.put i hi (w':=w.setRow g _) ⟨rfl,rfl,rfl,by simp[World.setRow],λk _ h=>setRow_other w g k _ (λe=>h (by simp[Ent.urow,Value.ownBlock,e]))⟩ _ ?_ (λk h=>.inl h);have v:=a.1;have y:cur.toList.length=cap*sz:=by simpa using d
 refine⟨by simp only[auU,avA,avF];omega,.inr ⟨g,cap,_,rfl,t,setRow_heap w g cur _ E (0,0) o,c,f,?_,?_⟩⟩
 ·simp only[List.size_toArray,auU,avA,avF];omega
 ·subst b;rw[ayK,awB om];simp only[avO];rw[aAN,aAN,avX (l:=cur.toList.take off) (by simp;omega),avX (l:=new) (by simp;omega)]
  congr 2
  rw[avA,awB om,List.drop_take]
  congr 1
  omega
end
end Eng
end
end Go.Proofs.YtkghomgfocpgeaaGreatDoor

namespace Go.Proofs.YtkghomgfocpgeaaGreatDoor
variable{A S:Nat->Prop}{B:Prop}{C:ao->Prop}{D E T1 U:TypeId}{K K':VWP}{L:List Eng.Ent}{L0:Loop}{P:Program}{PK PK2:PKT}{W w w' w0:ao}{a hi lo:Int}{args ca fa:Array aq}{b cap d f fuel i j m sz:Nat}{cb:Array Bool}{cs cur new news xs:List aq}{e:Eng.Ent}{k':IntKind}{q want y:Bool}{v v' v1 v2 vc vk:aq}{xo yo:Operand}{α β:Type}{σ:Eng.Sg}
section
open Eng Go.RowKit Go.ChangeShapes Go.WideShapes
inductive Ob where
|mk (k n g:Int) (s:List UInt8) (keys:List (List UInt8)) (kids:List Ob)
namespace Ob
def k:Ob->Int|.mk k _ _ _ _ _=>k
def n:Ob->Int|.mk _ n _ _ _ _=>n
def g:Ob->Int|.mk _ _ g _ _ _=>g
def s:Ob->List UInt8|.mk _ _ _ s _ _=>s
def keys:Ob->List (List UInt8)|.mk _ _ _ _ keys _=>keys
def kids:Ob->List Ob|.mk _ _ _ _ _ kids=>kids
 mutual
def wt:Ob->Nat
|.mk _ _ _ s keys kids=>6+s.length+Pl.tot keys+wts kids
def wts:List Ob->Nat
|[]=>0
|o::os=>wt o+wts os
end
end Ob
def SlA (A:Nat->Prop)(w:ao)(v:aq)(sz n:Nat)(cs:List aq):Prop:=Sl w v sz n cs∧(∀p l c,v=.slice (ax p) l c->0 < n->A p.block)∧∀a l c,v=.slice a l c->l<=c
 mutual
def OV (A:Nat->Prop)(w:ao):aq->Ob->Prop
|v,.mk k n g s keys kids=>∃vk vc cs,v=.agg #[ad k,ad n,ad g,ae s,vk,vc]∧SlA A w vk 1 keys.length (bT keys)∧SlA A w vc 6 kids.length cs∧OVs A w cs kids
def OVs (A:Nat->Prop)(w:ao):List aq->List Ob->Prop
|cs,[]=>cs=[]
|cs,o::os=>∃(a rest:List aq),cs=a++rest∧a.length=6∧OV A w (.agg a.toArray) o∧OVs A w rest os
end
def Kept (A:Nat->Prop)(w w':ao):Prop:=∀b,A b->w'.heap[b]?=w.heap[b]?
theorem YP (h:Kept A w w'){p:Addr}(hp:A p.block)(a:w.cell? p=ax v):w'.cell? p=ax v:=by
 have:=h p.block hp;unfold World.cell? at a ⊢;rw[this];exact a
theorem SlA.kept {n:Nat}(h:SlA A w v sz n cs)(e:Kept A w w'):SlA A w' v sz n cs:=by
 obtain⟨⟨b,a,cap,rfl,f,g⟩,c,hC⟩:=h;refine⟨⟨b,a,cap,rfl,f,λp hp=>?_⟩,c,hC⟩;obtain⟨i,k⟩:=g p hp;refine⟨i,λj u d=>?_⟩;have l:0 < n:=by
  rcases axG n with h|h
  ·subst h;rw[ayU] at b;have:=(avL.1 d).1;omega
  ·exact h
 exact YP e (c p n cap (by rw[hp]) l) (k j u d)
 mutual
theorem OV.kept {A:Nat->Prop}{w w':ao}(a:Kept A w w'):∀(o:Ob) (v:aq),OV A w v o->OV A w' v o
|.mk k n g s keys kids,v,h=>by
  rw[OV] at h ⊢;obtain⟨vk,vc,cs,b,c,d,e⟩:=h;exact⟨vk,vc,cs,b,c.kept a,d.kept a,OVs.kept a kids cs e⟩
theorem OVs.kept {A:Nat->Prop}{w w':ao}(b:Kept A w w'):∀(os:List Ob) (cs:List aq),OVs A w cs os->OVs A w' cs os
|[],cs,h=>by rw[OVs] at h ⊢;exact h
|o::os,cs,h=>by
  rw[OVs] at h ⊢;obtain⟨a,rest,he,c,d,e⟩:=h;exact⟨a,rest,he,c,OV.kept b o _ d,OVs.kept b os rest e⟩
end
 mutual
theorem OV.mono {A B:Nat->Prop}{w:ao}(a:∀b,A b->B b):∀(o:Ob) (v:aq),OV A w v o->OV B w v o
|.mk k n g s keys kids,v,h=>by
  rw[OV] at h ⊢;obtain⟨vk,vc,cs,j,d,f,m⟩:=h;exact⟨vk,vc,cs,j,⟨d.1,λp l c e i=>a _ (d.2.1 p l c e i),d.2.2⟩,⟨f.1,λp l c e i=>a _ (f.2.1 p l c e i),f.2.2⟩,OVs.mono a kids cs m⟩
theorem OVs.mono {A B:Nat->Prop}{w:ao}(c:∀b,A b->B b):∀(os:List Ob) (cs:List aq),OVs A w cs os->OVs B w cs os
|[],cs,h=>by rw[OVs] at h ⊢;exact h
|o::os,cs,h=>by
  rw[OVs] at h ⊢;obtain⟨a,rest,he,d,e,f⟩:=h;exact⟨a,rest,he,d,OV.mono c o _ e,OVs.mono c os rest f⟩
end
theorem OVs.len {A:Nat->Prop}{w:ao}:∀(os:List Ob) (cs:List aq),OVs A w cs os->cs.length=os.length*6
|[],cs,h=>by rw[OVs] at h;subst h;rfl
|o::os,cs,h=>by
  rw[OVs] at h;obtain⟨a,rest,rfl,b,_,c⟩:=h;rw[auU,b,OVs.len os rest c,avR];omega
theorem OVs.get {A:Nat->Prop}{w:ao}:∀(os:List Ob) (cs:List aq) (i:Nat) (hi:i < os.length),OVs A w cs os->∃a:List aq,a.length=6∧OV A w (.agg a.toArray) os[i]∧∀j v,a[j]?=ax v->cs[i*6+j]?=ax v
|[],cs,i,hi,h=>by simp at hi
|o::os,cs,0,hi,h=>by
  rw[OVs] at h;obtain⟨a,rest,rfl,d,e,f⟩:=h;refine⟨a,d,e,λj v c=>?_⟩;rw[ayU,avC,axO (avL.1 c).1];exact c
|o::os,cs,i+1,hi,h=>by
  rw[OVs] at h;obtain⟨a,rest,rfl,d,e,f⟩:=h;obtain⟨b,g,k,l⟩:=OVs.get os rest i (by simpa using hi) f;refine⟨b,g,k,λj v c=>?_⟩;rw[ayL om,d,show (i+1)*6+j - 6=i*6+j by omega];exact l j v c
theorem OVs.nil :OVs A w [] []:=by rw[OVs]
theorem SlA.TP {a:Addr}{len:Nat}(g:0 < sz)(i:cs.length=len*sz)(m:∀j u,cs[j]?=ax u->W.cell? (a.add j)=ax u)(o:∀b,b < W.heap.size->A b)(q:len<=cap):SlA A W (.slice (ax a) len cap) sz len cs:=by
 have plain:0 < len->a.spot=aw∧a.block < W.heap.size:=by
  intro f;have r:0 < cs.length:=by rw[i];exact Nat.mul_pos f g
  have d:=m 0 cs[0] (auX r);have s:a.add 0=a:=by simp[Addr.add]
  rw[s] at d;unfold World.cell? at d;split at d
  ·rename_i t
   have k:=dN t;split at d
   ·cases d
   ·rename_i v;exact⟨by simpa using v,k⟩
  ·cases d
 refine⟨⟨i,ax a,cap,rfl,(λh=>by cases h),λp hp=>?_⟩,λp l c e f=>?_,λa' l c e=>by injection e with _ w x;omega⟩
 ·cases hp;refine⟨λh=>(plain h).1,λj u n=>?_⟩;have f:0 < len:=by
   rcases axG len with h|h
   ·subst h;rw[ayU] at i;have:=(avL.1 n).1;omega
   ·exact h
  have d:=m j u n;obtain⟨b,off,spot⟩:=a;have:=(plain f).1;simp only at this;subst this;rw[show (⟨b,off,aw⟩:Addr).add j=⟨b,off+j,aw⟩ from cM b off j] at d;exact d
 ·injection e with e _ _
  cases e;exact o _ (plain f).2
theorem SlA.nil (A:Nat->Prop)(w:ao)(sz cap:Nat):SlA A w (.slice aw 0 cap) sz 0 []:=⟨Sl.nil w sz cap,(λp l c e _=>by injection e with e _ _;cases e),λa l c e=>by injection e with _ b d;omega⟩
end
section
open Eng Go.RowKit Go.ChangeShapes Go.WideShapes
theorem ED {H:Type}:∀(a b:List (DataW H)),Rows.uptoBulkAll (a++b)=Rows.uptoBulkAll a+Rows.uptoBulkAll b
|[],b=>by simp[Rows.uptoBulkAll]
|x::a,b=>by rw[ayP,Rows.uptoBulkAll,ED a b,Rows.uptoBulkAll];omega
theorem Re {H:Type}:∀a:List ByteArray,Rows.uptoBulkAll (strs (H:=H) a)=Pl.tot (a.map (·.data.toList))
|[]=>by simp[strs,Rows.uptoBulkAll,Pl.tot]
|s::a=>by
  have:=Re (H:=H) a;rw[show strs (H:=H) (s::a)=.lit (.string s.data.toList)::strs a from rfl,Rows.uptoBulkAll,this,Rows.uptoBulk];simp[Pl.tot]
theorem OVs.snoc {A:Nat->Prop}{w:ao}{a:List aq}{o:Ob}(c:a.length=6)(d:OV A w (.agg a.toArray) o):∀(os:List Ob) (cs:List aq),OVs A w cs os->OVs A w (cs++a) (os++[o])
|[],cs,h=>by
  rw[OVs] at h;subst h;rw[awW,awW,OVs];exact⟨a,[],sm,c,d,OVs.nil⟩
|p::os,cs,h=>by
  rw[OVs] at h;obtain⟨b,rest,rfl,e,f,g⟩:=h;rw[ayP,OVs];exact⟨b,rest++a,sm,e,f,OVs.snoc c d os rest g⟩
theorem UO (o:Ob):∀os:List Ob,Ob.wts (os++[o])=Ob.wts os+o.wt
|[]=>by simp[Ob.wts]
|p::os=>by rw[ayP,Ob.wts,UO o os,Ob.wts];omega
theorem adW (a:Addr)(m n:Nat):(a.add m).add n=a.add (m+n):=by
 unfold Addr.add;by_cases hm:m=0
 ·subst hm;simp
 ·by_cases b:n=0
  ·subst b;simp[hm]
  ·have:¬(m+n=0):=om
   simp[hm,b,axK]
theorem amX {α:Type}:∀{l:List α},l.length=6->∃a b c d e f,l=[a,b,c,d,e,f]
|[a,b,c,d,e,f],_=>⟨a,b,c,d,e,f,rfl⟩
section
variable {H:Type}{enc:TypeId×aq->H}{W:ao}{sp:Nat->Bool}{held:Bool}
abbrev InW (W:ao):Nat->Prop:=λb=>b < W.heap.size
theorem XG {x:DataW H×List MemPlace}(h:DataW.trod enc ah W 0 sp held fuel 22 cs=ax x) :
  ∃(v:aq) (e:List (List UInt8)),cs=[v]∧SlA (InW W) W v 1 e.length (bT e)∧Pl.tot e+1<=Rows.uptoBulk x.1:=by
 rcases open_strings avH auV krx h with ⟨rfl,rfl⟩|⟨a,len,cap,d,rfl,_,i,hm,k,rfl,c,l⟩
 ·exact⟨_,[],rfl,SlA.nil _ _ _ _,by simp[Pl.tot,Rows.uptoBulk]⟩
 ·have m:len<=d.length:=by rw[k];split<;>omega
  refine⟨_,(d.take len).map (·.data.toList),rfl,?_,?_⟩
  ·have hlen:((d.take len).map (·.data.toList)).length=len:=by simp;omega
   rw[hlen];refine SlA.TP om (by simp[bT];omega) (λj u g=>?_) (λb n=>n) i;have f:j < len:=by
    have:=(avL.1 g).1;simp[bT] at this;omega
   rw[c j om,<-g];simp[bT,strV,axS,f,List.getD,auX (show j < d.length by omega)]
  ·simp only[Rows.uptoBulk];rw[Re];omega
set_option maxRecDepth 100000 in
theorem aaJ:∀(fuel:Nat) (cs:List aq) (x:DataW H×List MemPlace),DataW.trod enc ah W 0 sp held fuel 25 cs=ax x ->
  ∃o:Ob,OV (InW W) W (.agg cs.toArray) o∧o.wt<=Rows.uptoBulk x.1∧cs.length=6:=by
 intro fuel
 induction fuel using Nat.strongRecOn with
|_ fuel Y=>
  intro cs x h;obtain⟨xs,n,rfl,rfl,N,d,p⟩:=DataW.trod_struct underlying25 h;have O:Tryz.prog.cellsOf 25=6:=krx
  rw[O] at N;have d:xs.length=6:=d;obtain⟨x0,x1,x2,x3,x4,Z,rfl⟩:=amX d;obtain⟨v0,v1,v2,v3,v4,v5,rfl⟩:=amX N;have P:=p 0 _ rfl;have Q:=p 1 _ rfl;have R:=p 2 _ rfl;have S:=p 3 _ rfl;have T:=p 4 _ rfl;have U:=p 5 _ rfl;have k0:Tryz.prog.cellsOf 3=1:=krx
  have k1:Tryz.prog.cellsOf 2=1:=krx
  have k3:Tryz.prog.cellsOf 9=1:=krx
  have k4:Tryz.prog.cellsOf 22=1:=krx
  have k5:Tryz.prog.cellsOf 23=1:=krx
  simp only[k0,k1,k3,k4,k5,ayS,aAx,aAy,ayJ,azT,awH] at P Q R S T U;obtain⟨k,v,rfl,_⟩:=DataW.trod_int awM P;obtain⟨m,hm,rfl,_⟩:=DataW.trod_int underlying2 Q;obtain⟨g,z,rfl,_⟩:=DataW.trod_int awM R;obtain⟨s,A,rfl,_⟩:=DataW.trod_string auV S;obtain⟨vk,zs,e,B,a1⟩:=XG T
  injection v with v _
  injection hm with hm _
  injection z with z _
  injection A with A _
  injection e with e _
  subst v;subst hm;subst z;subst A;subst e;have kids:∃(cs:List aq) (os:List Ob),SlA (InW W) W v5 6 os.length cs∧OVs (InW W) W cs os∧Ob.wts os+1<=Rows.uptoBulk Z.1:=by
   rcases DataW.trod_slice avI U with ⟨f,rfl⟩|⟨a,len,cap,elems,rest,n',rfl,f,rfl,_,C,a6,D,q,_,_⟩
   ·injection f with f _
    subst f;exact⟨[],[],SlA.nil _ _ _ _,OVs.nil,by simp[Ob.wts,Rows.uptoBulk]⟩
   ·injection f with f _
    subst f;rw[O] at q;have step:∀k,k<=len->∃(cs:List aq) (os:List Ob),os.length=k∧OVs (InW W) W cs os∧(∀j u,cs[j]?=ax u->W.cell? (a.add j)=ax u)∧Ob.wts os<=Rows.uptoBulkAll ((elems.take k).map (·.1)):=by
     intro k
     induction k with
    |zero=>intro _;exact⟨[],[],rfl,OVs.nil,(λj u i=>by simp at i),by simp[Ob.wts,Rows.uptoBulkAll]⟩
    |succ k E=>
      intro v;obtain⟨cs,os,w,r,F,V⟩:=E om;have t:k < elems.length:=om
      have y:=q k om;rw[auX t,azW] at y;obtain⟨X,G,I⟩:=y;obtain⟨o,ho,hw,J⟩:=Y n' om X _ I;have c:=OVs.len os cs r;refine⟨cs++X,os++[o],by simp[w],OVs.snoc J ho os cs r,λj u i=>?_,?_⟩
      ·rcases awO j cs.length with l|l
       ·rw[axO l] at i;exact F j u i
       ·rw[ayL l] at i;have K:j - cs.length < 6:=by
         have:=(avL.1 i).1;omega
        have:=(World.cells?_some G).2.2 (j - cs.length) K;rw[<-i,<-this,adW,show k*6+(j - cs.length)=j by omega]
      ·rw[UO,avP t,avT,ED];simp only[awY,ayZ,Rows.uptoBulkAll];omega
    obtain⟨cs,os,w,r,F,V⟩:=step len (auY _);have c:=OVs.len os cs r;refine⟨cs,os,?_,r,?_⟩
    ·rw[w];exact SlA.TP om (by rw[c,w]) F (λb y=>y) C
    ·rw[<-D,awI] at V;simp only[Rows.uptoBulk];omega
  obtain⟨cs,os,L,M,a7⟩:=kids;refine⟨.mk k m g s.data.toList zs os,?_,?_,rfl⟩
  ·rw[OV];exact⟨_,_,cs,rfl,B,L,M⟩
  ·simp only[Ob.wt,Rows.uptoBulk,awY,ayZ,Rows.uptoBulkAll];omega
end
end
section
namespace Eng
open Go.RowKit
structure Mem where
 A:Nat->Prop
 w:ao
 lt:∀b,A b->b < w.heap.size
def Mem.has (M:Mem)(w:ao):Prop:=∀b,M.A b->w.heap[b]?=M.w.heap[b]?
structure Mem.le (M N:Mem):Prop where
 A:∀b,M.A b->N.A b
 has:M.has N.w
def Mem.all (w:ao):Mem:=⟨λb=>b < w.heap.size,w,λ_ h=>h⟩
theorem Mem.ahA (w:ao):(Mem.all w).has w:=λ_ _=>rfl
theorem Mem.le_refl (M:Mem):M.le M:=⟨λ_ h=>h,λ_ _=>rfl⟩
theorem Mem.le_trans {M N O:Mem}(h:M.le N)(k:N.le O):M.le O:=⟨λb a=>k.A b (h.A b a),λb a=>(k.has b (h.A b a)).trans (h.has b a)⟩
theorem Mem.QO {M N:Mem}(h:M.le N)(k:N.has w):M.has w:=λb a=>(k b (h.A b a)).trans (h.has b a)
theorem Mem.bd {M:Mem}(h:M.has w)(a:M.A b):b < w.heap.size:=by
 have c:=h b a;rw[Array.getElem?_eq_getElem (M.lt b a)] at c;exact dN c
theorem Mem.Qs {M:Mem}(h:M.has w)(k:Below w.heap.size w w'):M.has w':=λb a=>(k.block b (Mem.bd h a)).trans (h b a)
def Ent.mem (M:Mem):Ent:=⟨M.A,M.has,λh k b a=>(k b a).trans (h b a),λh k c=>Mem.bd h c⟩
structure Gives (M:Mem) (w w':ao) (N:Mem):Prop where
 le:M.le N
 has:N.has w'
 new:∀b,N.A b->M.A b∨w.heap.size<=b
 below:Below w.heap.size w w'
def lA (P:Program)(f:Nat)(args:Array aq)(M:Mem)(w:ao)(R:aq->Mem->Prop):Prop:=Ret P f args w (λv w'=>∃N,Gives M w w' N∧R v N)
theorem lA.mono {P:Program}{f:Nat}{args:Array aq}{M:Mem}{w:ao}{R a:aq->Mem->Prop}(h:lA P f args M w R)(k:∀v N,M.le N->R v N->a v N):lA P f args M w a:=
 Ret.mono h λv w' ⟨N,g,r⟩=>⟨N,g,k v N g.le r⟩
section
variable {S:Nat->Prop}{P:Program}{w w0:ao}{L:List Ent}{PK:PKT}{K:VWP}
theorem dQ.memS {M:Mem}(h:M.has w):dQ M.A w w [.mem M]:=dQ.lend (e:=.mem M) h
theorem dQ.hasM {M:Mem}(a:dQ S w0 w L)(i:Nat)(hi:L[i]?=ax (.mem M)):M.has w:=a.at_ i hi
theorem dQ.atD {M N:Mem}(a:dQ S w0 w L)(i:Nat)(hi:L[i]?=ax (.mem M))(g:Gives M w w' N):dQ S w0 w' (L.set i (.mem N)):=
 a.turn i hi ⟨Nt g.below,g.has,g.new⟩
theorem dQ.FU {c N:Mem}(a:dQ c.A w w' L)(i:Nat)(hi:L[i]?=ax (.mem N))(hle:c.le N)(e:c.has w):Gives c w w' N:=by
 have hm:=a.all (.mem N) (ayQ hi);refine⟨hle,hm.1,λb f=>hm.2 b f,a.grew.os,a.grew.tape,a.grew.output,a.grew.size,λk g=>?_⟩;by_cases d:c.A k
 ·rw[e k d];have h:w'.heap[k]?=N.w.heap[k]?:=hm.1 k (hle.A k d);rw[h];exact hle.has k d
 ·exact a.grew.block k g d
theorem aO {M:Mem}{R:aq->Mem->Prop}(a:M.has w)
  (h:∀K:Ending->ao->Prop,(∀(v:aq) (w':ao) (N:Mem) (L:List Ent) (i:Nat),dQ M.A w w' L->L[i]?=ax (.mem N)->M.le N->R v N->K (.returned v) w')->Calls P f args w K):lA P f args M w R:=
 aL λK b=>h K λv w' N L i c hi hle d=>b v w' ⟨N,c.FU i hi hle a,d⟩
theorem aY {M:Mem}{R:aq->Mem->Prop}(a:dQ S w0 w L)(i:Nat)(hi:L[i]?=ax (.mem M))(h:lA P f args M w R)
  (k:∀v N w',M.le N->R v N->dQ S w0 w' (L.set i (.mem N))->K v w'):eN P f args w PK K:=
 Dv h λv w' ⟨N,g,r⟩=>k v N w' g.le r (a.atD i hi g)
theorem dQ.freeze {M:Mem}(m:dQ S w0 w (e::L))(i:Nat)(hi:L[i]?=ax (.mem M)) :
  ∃N:Mem,M.le N∧N.w=w∧(∀b,e.blk b->N.A b)∧dQ S w0 w (L.set i (.mem N)):=by
 have he:=m.all e sm;have t:M.has w:=m.at_ (i+1) (by simpa using hi);have p:∀b,M.A b∨e.blk b->b < w.heap.size:=λb d=>d.elim (λh=>Mem.bd t h) (λh=>e.lt he.1 b h)
 let N:Mem:=⟨λb=>M.A b∨e.blk b,w,p⟩
 have q:i < L.length:=(avL.1 hi).1;have n:L[i]=.mem M:=(avL.1 hi).2;obtain⟨u,a2⟩:=ayC.1 m.apart;have hp:=azJ.1 a2;have v:∀k,M.A k->(L[i]).blk k:=λk c=>by rw[n];exact c
 refine⟨N,⟨λb d=>.inl d,t⟩,rfl,λb d=>.inr d,m.grew,?_,?_⟩
 ·intro f y;obtain⟨j,x,rfl⟩:=axT y;rw[axM] at x;rw[aAf];split
  ·refine⟨λb _=>rfl,λk c=>?_⟩;rcases c with c|c
   ·exact (m.all (.mem M) (by rw[<-n];exact awR _ (avD q))).2 k c
   ·exact he.2 k c
  ·exact m.all _ (awR _ (avD x))
 ·rw[azJ];intro a b o d l k c;rw[axM] at o d;rw[aAf] at c;rw[aAf];split at c
  ·rename_i r
   subst r;rw[auO om];rcases c with c|c
   ·exact hp i b o d l k (v k c)
   ·exact u _ (avD d) k c
  ·split
   ·rename_i s
    subst s;intro g;rcases g with g|g
    ·exact hp a i o d l k c (v k g)
    ·exact u _ (avD o) k g c
   ·exact hp a b o d l k c
end
end Eng
open Eng Go.RowKit
theorem SlA.le {M N:Mem}(h:M.le N){v:aq}{sz n:Nat}{cs:List aq}(a:SlA M.A M.w v sz n cs):SlA N.A N.w v sz n cs:=by
 have:=a.kept (w':=N.w) h.has;exact⟨this.1,(λp l c e b=>h.A _ (this.2.1 p l c e b)),this.2.2⟩
theorem SlA.now {M:Mem}(h:M.has w){n:Nat}(a:SlA M.A M.w v sz n cs):Sl w v sz n cs:=(a.kept (w':=w) h).1
theorem OV.le {M N:Mem}(h:M.le N){v:aq}{o:Ob}(a:OV M.A M.w v o):OV N.A N.w v o:=OV.mono h.A o v (OV.kept h.has o v a)
theorem OVs.le {M N:Mem}(h:M.le N){cs:List aq}{os:List Ob}(a:OVs M.A M.w cs os):OVs N.A N.w cs os:=OVs.mono h.A os cs (OVs.kept h.has os cs a)
theorem OV.inw {M:Mem}(h:M.has w){o:Ob}(a:OV M.A M.w v o):OV (InW w) w v o:=OV.mono (λb c=>Mem.bd h c) o v (OV.kept h o v a)
end
section
namespace Eng
open Go.RowKit
section
variable {S:Nat->Prop}{P:Program}{w w0:ao}{L:List Ent}{PK:PKT}{K:VWP}
theorem afJ {T:TypeId}{a:Option Addr}{n c b d:Nat}(h:P.underlying T=ax (.slice E)):DoX P (mEq .eql T xo yo (.slice a n c) (.slice aw b d)) w PK K=K (.bool a.isNone) w:=by
 refine fG ?_;simp[eqGuard,Lib.run_eql_slice_nil w T E a n c b d h]
theorem akQ {T:TypeId}{a:Option Addr}{n c b d:Nat}(h:P.underlying T=ax (.slice E)):DoX P (mEq .neq T xo yo (.slice a n c) (.slice aw b d)) w PK K=K (.bool (!a.isNone)) w:=by
 refine fG ?_;have:=Lib.run_equalIn_slice_nil (P:=P) w 9999 T E a n c b d h;simp[eqGuard,binOp,Op.equal,Op.maxDepth,this]
def zx (a:Option Addr)(l cap sz:Nat):Option Addr:=if cap=l then a else a.map (·.add (l*sz))
theorem eT {off l:Nat}(h:l < cap):zx (ax ⟨b,off,aw⟩) l cap sz=ax ⟨b,off+l*sz,aw⟩:=by
 unfold zx;rw[auO om,aAi,cM]
theorem Jz {a:Addr}:zx (ax ⟨a.block,a.off,aw⟩) 0 cap sz=ax ⟨a.block,a.off,aw⟩:=by
 unfold zx;split
 ·rfl
 ·rw[aAi,cM,ayU,axA]
theorem cZ {T:TypeId}{k:IntKind}{a:Option Addr}{n:Nat}(h:P.underlying T=ax (.slice E))(b:(P.info? E).map (·.size)=ax sz)(d:0<=lo)(e:lo<=n) :
  (cY T (.slice a n cap) (ax (.int k lo)) aw aw).run P w=.ok (.value (.slice (zx a lo.toNat cap sz) (n - lo.toNat) (cap - lo.toNat))) w:=by
 obtain⟨i,hi,f⟩:=awZ.1 b;have he:P.elem T=E:=by simp[Program.elem,h]
 have c:P.underlying T=ax (.slice (P.elem T)):=by rw[he];exact h
 refine cE ?_;rw[run_sliceAt_slice w T _ _ _ _ c,run_slice_l w T a n cap c k lo d e];simp[sizeOf,typeInfo,he,hi,f,sliced,zx]
theorem iY {T:TypeId}{k:IntKind}{a:Option Addr}{n:Nat}(h:P.underlying T=ax (.slice E))(b:(P.info? E).map (·.size)=ax sz)(e:0<=hi)(f:hi<=cap) :
  (cY T (.slice a n cap) aw (ax (.int k hi)) aw).run P w=.ok (.value (.slice (zx a 0 cap sz) hi.toNat cap)) w:=by
 obtain⟨i,c,g⟩:=awZ.1 b;have he:P.elem T=E:=by simp[Program.elem,h]
 have d:P.underlying T=ax (.slice (P.elem T)):=by rw[he];exact h
 refine cE ?_;rw[run_sliceAt_slice w T _ _ _ _ d,run_slice_h w T a n cap d k hi e f];simp[sizeOf,typeInfo,he,c,g,sliced,zx]
theorem Ru {T:TypeId}{k:IntKind}{a:Option Addr}{n:Nat}(h:P.underlying T=ax (.slice E))(b:(P.info? E).map (·.size)=ax sz)(e:0<=lo)(f:lo<=hi)(g:hi<=cap) :
  (cY T (.slice a n cap) (ax (.int k lo)) (ax (.int k' hi)) aw).run P w=.ok (.value (.slice (zx a lo.toNat cap sz) (hi.toNat - lo.toNat) (cap - lo.toNat))) w:=by
 obtain⟨i,c,j⟩:=awZ.1 b;have he:P.elem T=E:=by simp[Program.elem,h]
 have d:P.underlying T=ax (.slice (P.elem T)):=by rw[he];exact h
 refine cE ?_;rw[run_sliceAt_slice w T _ _ _ _ d,run_slice_lh w T a n cap d k k' lo hi e f g];simp[sizeOf,typeInfo,he,c,j,sliced,zx]
theorem NT {T:TypeId}{k d:IntKind}{a:Option Addr}{n:Nat}{m:Int}(h:P.underlying T=ax (.slice E))(b:(P.info? E).map (·.size)=ax sz)(f:0<=lo)(g:lo<=hi)(j:hi<=m)(l:m<=cap) :
  (cY T (.slice a n cap) (ax (.int k lo)) (ax (.int k' hi)) (ax (.int d m))).run P w=.ok (.value (.slice (zx a lo.toNat m.toNat sz) (hi.toNat - lo.toNat) (m.toNat - lo.toNat))) w:=by
 obtain⟨i,c,o⟩:=awZ.1 b;have he:P.elem T=E:=by simp[Program.elem,h]
 have e:P.underlying T=ax (.slice (P.elem T)):=by rw[he];exact h
 refine cE ?_;rw[run_sliceAt_slice w T _ _ _ _ e,run_slice_lhm w T a n cap e k k' d lo hi m f g j l];simp[sizeOf,typeInfo,he,c,o,sliced,zx]
theorem NB {T:TypeId}{a:Option Addr}{n:Nat}(h:P.underlying T=ax (.slice E)):(mB .len #[T] U cb #[.slice a n cap]).run P w=.ok (.value (.int .i64 (n:Int))) w:=by
 simp[mB,builtin,Builtin.len_,run_underlying h,goInt]
theorem TF {T:TypeId}{a:Option Addr}{n:Nat}(h:P.underlying T=ax (.slice E)):DoX P (mB .cap #[T] U cb #[.slice a n cap]) w PK K=K (.int .i64 (cap:Int)) w:=by
 refine aC ?_;simp[mB,builtin,Builtin.cap_,run_underlying h,goInt]
theorem Tk {T:TypeId}{bytes n:Nat}{d e:IntKind}(j:P.underlying T=ax (.slice E))(he:elB P E sz bytes=av)(p:bytes*n<=281474976710656)(q:n<=281474976710656)(l:dQ S w0 w L)
  (k:∀(g:Nat) (w':ao) (f:List aq),f.length=n*sz->dQ S w0 w' (.cells g f E::L)->K (.slice (ax ⟨g,0,aw⟩) n n) w'):DoX P (IH T (.int d (n:Int)) (.int e (n:Int))) w PK K:=by
 obtain⟨i,z,hi,m,a,b,o⟩:=kL he;have c:(i.bytes:Int)*(n:Int)<=281474976710656:=by rw[b,<-Int.natCast_mul];omega
 have h:=run_make (P:=P) w T E i z j hi m d e n n om om c om;rw[auW] at h;refine yO (cE h) (k _ _ (madeCells z.cells (n*i.size)).toList ?_ ?_)
 ·rw[Array.length_toList,size_madeCells,a]
 ·have:=l.alloc (madeCells z.cells (n*i.size)).toList E
  rwa [aA8] at this
theorem LK {dT sT ty T:TypeId}{g o dLen dCap:Nat}{a:Addr}{sLen sCap:Nat}{src:List aq}(hu:P.underlying dT=ax (.slice E))(e:(P.info? E).map (·.size)=ax sz)
  (h:w.heap[g]?=ax (.cells cur.toArray T (0,0))) (k:src.length=Nat.min sLen dLen*sz) (b:∀j v,src[j]?=ax v->w.cell? (a.add j)=ax v) (c:o+src.length<=cur.length) (l:∀v∈src,v.oneCell'=av) :
  (mB .copy #[dT,sT] ty cb #[.slice (ax ⟨g,o,aw⟩) dLen dCap,.slice (ax a) sLen sCap]).run P w=.ok (.value (goInt (Nat.min sLen dLen))) (w.setRow g (cur.take o++src++cur.drop (o+src.length)).toArray):=by
 have f:=run_loadCells_list (P:=P) w a src b;have d:=run_storeCells_at P g o T src 0 cur.toArray w h (by simpa using c) l;obtain⟨i,hi,m⟩:=awZ.1 e;rw[k] at f;simp only[axA] at d;simp[mB,builtin,Builtin.copy_,run_underlying hu,Builtin.lenOf,Builtin.firstCells,sizeOf,typeInfo,hi,m,f,d]
theorem Cx (i:Nat){dT sT ty T:TypeId}{g o dLen dCap:Nat}{a:Addr}{sLen sCap:Nat}{src:List aq}(hu:P.underlying dT=ax (.slice E))(d:(P.info? E).map (·.size)=ax sz)
  (e:dQ S w0 w L) (hi:L[i]?=ax (.cells g cur T)) (f:src.length=min sLen dLen*sz) (b:∀j v,src[j]?=ax v->w.cell? (a.add j)=ax v) (c:o+src.length<=cur.length) (h:∀v∈src,v.oneCell'=av)
  (k:∀v' w',dQ S w0 w' (L.set i (.cells g (cur.take o++src++cur.drop (o+src.length)) T))->K v' w') :
  DoX P (mB .copy #[dT,sT] ty cb #[.slice (ax ⟨g,o,aw⟩) dLen dCap,.slice (ax a) sLen sCap]) w PK K:=
 yO (LK hu d (e.at_ i hi) f b c h) (k _ _ (gN e i hi _))
theorem YQ {T o:TypeId}{B p:IntKind}{g n bytes:Nat}{olds:List aq}(D:P.underlying T=ax (.slice E))(q:P.underlying o=ax (.int B))(he:elB P E sz bytes=av)(F:0 < sz)
  (G:dQ S w0 w L) (r:olds.length=n*sz) (hold:∀j u,olds[j]?=ax u->w.cell? ⟨g,0+j,aw⟩=ax u) (H:0 < m) (C:cap < n+m) (I:(n+m)*bytes<=140737488355328) (J:n+m<=140737488355328)
  (k:∀(b c:Nat) (a:List aq) (w':ao),n+m<=c->c<=9223372036854775807->a.length+n*sz=c*sz->dQ S w0 w' (.cells b (olds++a) E::L)->K (.slice (ax ⟨b,0,aw⟩) (n+m) c) w') :
  DoX P (mB .append #[T,o] U cb #[.slice (ax ⟨g,0,aw⟩) n cap,.int p (m:Int)]) w PK K:=by
 obtain⟨i,z,hi,M,s,f,t⟩:=kL he;have d:(Builtin.firstCells i.size n (.slice (ax ⟨g,0,aw⟩) n cap)).run P w.drew=.ok olds.toArray w.drew:=by
  have N:=run_loadCells_list (P:=P) w.drew ⟨g,0,aw⟩ olds (λj v O=>by rw[cM];exact hold j v O);simp only[Builtin.firstCells,s,<-r];exact N
 have y:=grownCap_ge w (n+m) cap E;have hle:=grownCap_le_maxLen w (n+m) cap E (by simp only[maxLen];omega);have Q:=Lib.run_append_grow_zeros (P:=P) w T o U E i z p B D q hi M (ax ⟨g,0,aw⟩) n cap olds d m H om C om (by
   rw[f];have:m*bytes<=(n+m)*bytes:=awL _ om;omega) (by rw[f];exact growslice_fits C I)
 have h:∀x,(Builtin.zeroCells z.cells x).toList.length=x*sz:=by intro x;simp[Builtin.zeroCells,t]
 obtain⟨a,l⟩:∃a,a=(Builtin.zeroCells z.cells m).toList++(Builtin.zeroCells z.cells (grownCap w (n+m) cap E - (n+m))).toList:=⟨_,rfl⟩;have hlen:a.length+n*sz=grownCap w (n+m) cap E*sz:=by
  rw[l,auU,h,h,<-axY,<-axY]
  congr 1
  omega
 have key:=(G.drew).alloc (olds++a) E;have e:(olds++a).toArray=olds.toArray++Builtin.zeroCells z.cells m++Builtin.zeroCells z.cells (grownCap w (n+m) cap E - (n+m)):=by
  rw[l];simp
 have A:(mB .append #[T,o] U cb #[.slice (ax ⟨g,0,aw⟩) n cap,.int p (m:Int)]).run P w=.ok (.value (.slice (ax ⟨w.heap.size,0,aw⟩) (n+m) (grownCap w (n+m) cap E))) (w.drew.alloc (.cells (olds++a).toArray E)):=by
  rw[e];simp[mB,builtin,Q]
 exact yO A (k w.heap.size _ a _ y (by simp only[maxLen] at hle;exact hle) hlen key)
theorem NG (i:Nat){T:TypeId}{g n c bytes:Nat}{a:Addr}(q:P.underlying T=ax (.slice E))(he:elB P E sz bytes=av)
  (o:dQ S w0 w L) (hi:L[i]?=ax (.cells g cur E)) (r:news.length=m*sz) (b:∀j u,news[j]?=ax u->w.cell? (a.add j)=ax u) (s:∀u∈news,u.oneCell'=av) (d:n+m<=cap) (f:n*sz+news.length<=cur.length)
  (k:∀w',dQ S w0 w' (L.set i (.cells g (cur.take (n*sz)++news++cur.drop (n*sz+news.length)) E))->K (.slice (ax ⟨g,0,aw⟩) (n+m) cap) w') :
  DoX P (mB .append #[T,T] U cb #[.slice (ax ⟨g,0,aw⟩) n cap,.slice (ax a) m c]) w PK K:=by
 obtain⟨ii,z,h,y,e,t,v⟩:=kL he;have x:w.heap[g]?=ax (.cells cur.toArray E (0,0)):=o.at_ i hi;have p:=run_append_roomF (P:=P) w T U E ii q h g n cap cur.toArray (0,0) x (avK _) a m c news (by rw[e];exact r) b s d (by rw[e];simpa using f);rw[e] at p;have l:(mB .append #[T,T] U cb #[.slice (ax ⟨g,0,aw⟩) n cap,.slice (ax a) m c]).run P w=.ok (.value (.slice (ax ⟨g,0,aw⟩) (n+m) cap)) (w.setRow g (cur.take (n*sz)++news++cur.drop (n*sz+news.length)).toArray):=by
  simp[mB,builtin,p]
 exact yO l (k _ (gN o i hi _))
def zB (P:Program)(E:TypeId):Bool:=
 match P.info? E with
|some i=>match i.zero with
 |some z=>z.cells.toList.all (·.oneCell')
 |none=>au
|none=>au
theorem Ty (i:Nat){T:TypeId}{g o n c bytes:Nat}(B:P.underlying T=ax (.slice E))(he:elB P E sz bytes=av)(p:zB P E=av)(G:0 < n)
  (u:dQ S w0 w L) (hi:L[i]?=ax (.cells g cur E)) (b:o+n*sz<=cur.length)
  (k:∀v' w' v,v.length=n*sz->dQ S w0 w' (L.set i (.cells g (cur.take o++v++cur.drop (o+n*sz)) E))->K v' w') :
  DoX P (mB .clear #[T] U cb #[.slice (ax ⟨g,o,aw⟩) n c]) w PK K:=by
 obtain⟨ii,z,d,e,C,D,q⟩:=kL he;have F:w.heap[g]?=ax (.cells cur.toArray E (0,0)):=u.at_ i hi;have f:∀x∈z.cells.toList,x.oneCell'=true:=by
  unfold zB at p;rw[d] at p;simp only[e] at p;exact axI.1 p
 have a:(Builtin.zeroCells z.cells n).toList.length=n*sz:=by simp[Builtin.zeroCells,q]
 have r:∀x∈(Builtin.zeroCells z.cells n).toList,x.oneCell'=true:=by
  intro x y;simp only[Builtin.zeroCells,Array.toList_map,awD,Array.toList_range,axE] at y;obtain⟨j,A,rfl⟩:=y;have s:j % z.cells.size < z.cells.size:=ayE _ (by
   rcases axG z.cells.size with h|h
   ·rw[h] at A;simp at A
   ·exact h)
  rw[getElem!_pos z.cells (j % z.cells.size) s];exact f _ sm
 have l:=run_storeCells_at P g o E (Builtin.zeroCells z.cells n).toList 0 cur.toArray w F (by rw[a];simpa using b) r;simp only[axA] at l;obtain⟨m,rfl⟩:∃m,n=m+1:=⟨n - 1,om⟩;have t:(mB .clear #[T] U cb #[.slice (ax ⟨g,o,aw⟩) (m+1) c]).run P w=.ok (.value (.tuple #[])) (w.setRow g (cur.take o++(Builtin.zeroCells z.cells (m+1)).toList++cur.drop (o+(m+1)*sz)).toArray):=by
  simp[mB,builtin,Builtin.clear_,run_underlying B,zeroValue,typeInfo,d,e,l];rw[<-a];simp
 exact yO t (k _ _ _ a (gN u i hi _))
theorem akF {a:List aq}{off:Nat}(h:(cs.drop off).take a.length=a)(b:a[j]?=ax v):cs[off+j]?=ax v:=by
 rw[<-h] at b;rw[axS] at b;split at b
 ·rwa [axJ] at b
 ·cases b
theorem dQ.Y3 (d:dQ S w0 w L)(i:Nat){T:TypeId}(hi:L[i]?=ax (.cells b cs E))(off:Nat)(a:List aq)(c:(cs.drop off).take a.length=a)(e:By P T=ax a.length):AtV P w T ⟨b,off,aw⟩ (.agg a.toArray):=
 AtV.agg e rfl λj v f=>d.cell i hi (off+j) (akF c f)
theorem CP (i:Nat){T:TypeId}{off:Nat}(a:dQ S w0 w L)(hi:L[i]?=ax (.cells b cs E))(c:(P.info? T).map (·.size)=ax new.length)(d:∀v∈new,v.oneCell'=av)(f:off+new.length<=cs.length)
  (k:∀w',dQ S w0 w' (L.set i (.cells b (cs.take off++new++cs.drop (off+new.length)) E))->K undef w'):DoX P (aV T (.pointer (ax ⟨b,off,aw⟩)) (.agg new.toArray)) w PK K:=by
 have h:=Jm (P:=P) (T:=T) (g:=b) (off:=off) (cur:=cs.toArray) (E:=E) (u:=.agg new.toArray) (new:=new) rfl c d (a.at_ i hi) (by simpa using f);refine Is (Og h) (k _ ?_);have e:(cs.toArray.toList.take off++new++cs.toArray.toList.drop (off+new.length)).toArray=(cs.take off++new++cs.drop (off+new.length)).toArray:=sm
 rw[e];exact gN a i hi _
theorem adB {M N:Mem}{T:TypeId}{n:Nat}(hw:N.w=w)(f:∀b,(Ent.urow T sz v n xs).blk b->N.A b)(h:(Ent.urow T sz v n xs).is w):SlA N.A N.w v sz n xs:=by
 rw[hw];refine⟨Sl.urow h,λp l c e o=>f _ ?_,λa l c e=>?_⟩
 ·rcases (show w.ownsRow 0 T sz v n xs from h).2 with ⟨rfl,i⟩|⟨g,cap,cur,rfl,_⟩
  ·cases e
  ·injection e with d _ _
   injection d with d
   rw[<-d];rfl
 ·rcases (show w.ownsRow 0 T sz v n xs from h).2 with ⟨rfl,i⟩|⟨g,cap,cur,rfl,_,_,j,_⟩
  ·injection e with _ k m;omega
  ·injection e with _ k m;omega
theorem dQ.bH {M:Mem}{T:TypeId}{n:Nat}(a:dQ S w0 w (.urow T sz v n xs::L))(i:Nat)(hi:L[i]?=ax (.mem M)) :
  ∃N:Mem,M.le N∧SlA N.A N.w v sz n xs∧dQ S w0 w (L.set i (.mem N)):=by
 have h:=a.at_ 0 rfl;obtain⟨N,b,c,d,e⟩:=a.freeze i hi;exact⟨N,b,adB (M:=M) c d h,e⟩
end
end Eng
end
section
open Eng
def fX(t0 w)(K:KT):=nz f81 1 [] [] [] (zg [0] [t0]) w K
theorem mV{t0 w K}:fX t0 w K->Calls ah 81 #[t0] w K:=cw func81
def cC(t0 w)(K:KT):=nz f142 1 [] [] [] (zg [0] [t0]) w K
theorem dJ{t0 w K}:cC t0 w K->Calls ah 142 #[t0] w K:=cw func142
def fH(b a e w)(K:KT):=
 slx 22 b (ax a) aw aw w K λH w=>lnx 22 e w K λc w=>ecx .eql 3 15 0 c w K λh w=>IfX h (K (.returned b) w) (lnx 22 b w K λf w=>eqx .eql 3 (.tmp 20) (.tmp 21) a f w K λi w=>IfX i (apx 22 b e w K λj w=>K (.returned j) w) (bnx .add 3 f c w K λk w=>mbx .cap #[22] 3 #[au] #[b] w K λl w=>bnx .gtr 3 k l w K λm w=>IfX m (slx 22 b aw (ax a) aw w K λn w=>bnx .add 3 f c w K λo w=>bnx .sub 3 o a w K λp w=>mbx .append #[22,3] 22 #[au,au] #[n,p] w K λg w=>slx 22 g (ax a) aw aw w K λq w=>mbx .copy #[22,22] 3 #[au,au] #[q,e] w K λI w=>zp w (λE=>QDo ah E (gS .add 3 a c) λr=>QDo ah E (cY 22 g (ax r) aw aw) λs=>QDo ah E (cY 22 b (ax a) aw aw) λt=>
 ∀w,E w ->
 mbx .copy #[22,22] 3 #[au,au] #[s,t] w K λL w=>K (.returned g) w)) (bnx .add 3 f c w K λu w=>slx 22 b aw (ax u) aw w K λd w=>bnx .add 3 a c w K λv w=>slx 22 d (ax v) aw aw w K λx w=>dx (fV (.func (.func 181) #[] #[]) #[e,x]) w K λy w=>dx (mUn .not y) w K λz w=>IfX z (zp w (λJ=>QDo ah J (gS .add 3 a c) λA=>QDo ah J (cY 22 d (ax A) aw aw) λB=>QDo ah J (cY 22 d (ax a) aw aw) λC=>
 ∀w,J w ->
 mbx .copy #[22,22] 3 #[au,au] #[B,C] w K λM w=>slx 22 d (ax a) aw aw w K λD w=>mbx .copy #[22,22] 3 #[au,au] #[D,e] w K λO w=>K (.returned d) w)) (slx 22 d (ax f) aw aw w K λF w=>mbx .copy #[22,22] 3 #[au,au] #[F,e] w K λP w=>slx 22 d (ax a) aw aw w K λG w=>cx 182 #[G,c] w K λQ w=>K (.returned d) w))))
theorem kZ{t0 t1 t2 w K}:fH t0 t1 t2 w K->Calls ah 143 #[t0,t1,t2] w K:=cw func143
def bY(b a e w)(K:KT):=
 slx 23 b (ax a) aw aw w K λH w=>lnx 23 e w K λc w=>ecx .eql 3 15 0 c w K λh w=>IfX h (K (.returned b) w) (lnx 23 b w K λf w=>eqx .eql 3 (.tmp 20) (.tmp 21) a f w K λi w=>IfX i (apx 23 b e w K λj w=>K (.returned j) w) (bnx .add 3 f c w K λk w=>mbx .cap #[23] 3 #[au] #[b] w K λl w=>bnx .gtr 3 k l w K λm w=>IfX m (slx 23 b aw (ax a) aw w K λn w=>bnx .add 3 f c w K λo w=>bnx .sub 3 o a w K λp w=>mbx .append #[23,3] 23 #[au,au] #[n,p] w K λg w=>slx 23 g (ax a) aw aw w K λq w=>mbx .copy #[23,23] 3 #[au,au] #[q,e] w K λI w=>zp w (λE=>QDo ah E (gS .add 3 a c) λr=>QDo ah E (cY 23 g (ax r) aw aw) λs=>QDo ah E (cY 23 b (ax a) aw aw) λt=>
 ∀w,E w ->
 mbx .copy #[23,23] 3 #[au,au] #[s,t] w K λL w=>K (.returned g) w)) (bnx .add 3 f c w K λu w=>slx 23 b aw (ax u) aw w K λd w=>bnx .add 3 a c w K λv w=>slx 23 d (ax v) aw aw w K λx w=>dx (fV (.func (.func 183) #[] #[]) #[e,x]) w K λy w=>dx (mUn .not y) w K λz w=>IfX z (zp w (λJ=>QDo ah J (gS .add 3 a c) λA=>QDo ah J (cY 23 d (ax A) aw aw) λB=>QDo ah J (cY 23 d (ax a) aw aw) λC=>
 ∀w,J w ->
 mbx .copy #[23,23] 3 #[au,au] #[B,C] w K λM w=>slx 23 d (ax a) aw aw w K λD w=>mbx .copy #[23,23] 3 #[au,au] #[D,e] w K λO w=>K (.returned d) w)) (slx 23 d (ax f) aw aw w K λF w=>mbx .copy #[23,23] 3 #[au,au] #[F,e] w K λP w=>slx 23 d (ax a) aw aw w K λG w=>cx 184 #[G,c] w K λQ w=>K (.returned d) w))))
theorem dH{t0 t1 t2 w K}:bY t0 t1 t2 w K->Calls ah 144 #[t0,t1,t2] w K:=cw func144
def fA(t0 t1 t2 w)(K:KT):=nz f179 1 [] [] [(5,6)] (zg [0,1,2] [t0,t1,t2]) w K
theorem lB{t0 t1 t2 w K}:fA t0 t1 t2 w K->Calls ah 179 #[t0,t1,t2] w K:=cw func179
def cB(t0 t1 t2 w)(K:KT):=nz f180 1 [] [] [(5,6)] (zg [0,1,2] [t0,t1,t2]) w K
theorem dI{t0 t1 t2 w K}:cB t0 t1 t2 w K->Calls ah 180 #[t0,t1,t2] w K:=cw func180
def dK(t0 t1 t6 t7 t8 w)(a:JT)(K:KT):=nz f140 39 [a] [nh 7 [7,8]] [] (zg [0,1,6,7,8] [t0,t1,t6,t7,t8]) w K
def dW(t0 t1 w)(K:KT):=nz f140 1 [] [(7,[7,8],λs v j w f=>dK (s 0) (s 1) (s 6) (vg v 0) (vg v 1) w (f 0) K)] [] (zg [0,1] [t0,t1]) w K
theorem gQ{t0 t1 w K}:dW t0 t1 w K->Calls ah 140 #[t0,t1] w K:=cz [] [(3,[7,8])] func140
def xW(t0 t1 w)(K:KT):=nz f177 1 [] [] [] (zg [0,1] [t0,t1]) w K
theorem El{t0 t1 w K}:xW t0 t1 w K->Calls ah 177 #[t0,t1] w K:=cw func177
def uW(t0 w)(K:KT):=nz f210 1 [] [] [] (zg [0] [t0]) w K
theorem B5{t0 w K}:uW t0 w K->Calls ah 210 #[t0] w K:=cw func210
def oK(t0 w)(K:KT):=nz f178 1 [] [] [] (zg [0] [t0]) w K
theorem xM{t0 w K}:oK t0 w K->Calls ah 178 #[t0] w K:=cw func178
end
section
open Eng Go.RowKit
theorem CI (v:aq)(n:Nat)(cs:List aq)(w:ao)(e:Sl w v 1 n cs)(g:∀u∈cs,u.oneCell'=av)(i:n<=1000000000000) :
  Ret ah 81 #[v] w (λv' w'=>Own w w' [.urow 9 1 v' n cs]):=by
 have d:=e;obtain⟨j,a,cap,rfl,h,k⟩:=e;refine aL λK f=>mV ?_;unfold fX nz;rw[afJ avH];cases a with
|none=>
  obtain rfl:=h rfl;obtain rfl:cs=[]:=ayT om;simp only[aBb,i_t];exact f _ _ ((Own.start w).nilU 9 1)
|some p=>
  simp only[aBc,i_f];refine bB (λb=>.slice (ax ⟨b,0,aw⟩) 0 0) [] 9 (λ_=>by kernel_rfl) (Own.start w) λb l c=>?_;have c:=c.toU 1 0 0 sm om om;refine bN 0 avH (show elB ah 9 1 16=av by kernel_rfl) dc c rfl (c.Tf d) g om om λv' w2 c=>?_;refine f _ _ ?_;simpa using c
theorem Je (v:aq)(n:Nat)(cs:List aq)(w:ao)(e:Sl w v 6 n cs)(g:∀u∈cs,u.oneCell'=av)(i:n<=1000000000000) :
  Ret ah 142 #[v] w (λv' w'=>Own w w' [.urow 25 6 v' n cs]):=by
 have d:=e;obtain⟨j,a,cap,rfl,h,k⟩:=e;refine aL λK f=>dJ ?_;unfold cC nz;rw[afJ avI];cases a with
|none=>
  obtain rfl:=h rfl;obtain rfl:cs=[]:=ayT om;simp only[aBb,i_t];exact f _ _ ((Own.start w).nilU 25 6)
|some p=>
  simp only[aBc,i_f];refine bB (λb=>.slice (ax ⟨b,0,aw⟩) 0 0) [] 25 (λ_=>by kernel_rfl) (Own.start w) λb l c=>?_;have c:=c.toU 6 0 0 sm om om;refine bN 0 avI (show elB ah 25 6 88=av by kernel_rfl) dc c rfl (c.Tf d) g om om λv' w2 c=>?_;refine f _ _ ?_;simpa using c
theorem ov_s {a b:Addr}{la ca lb cb:Nat}(c:a.block≠b.block){tA tB:TypeId}{kA kB:Nat}(d:w.shape? a.block=ax (tA,kA))(f:w.shape? b.block=ax (tB,kB))(g:kB≠0)(h:w.frozen? a=au)(i:w.frozen? { block:=a.block,off:=kA }=au) :
  (fV (.func (.func 181) #[] #[]) #[.slice (ax a) la ca,.slice (ax b) lb cb]).run ah w=.ok (.value (.bool au)) w:=by
 have j:(callFunc 181 #[.slice (ax a) la ca,.slice (ax b) lb cb]).run ah w=.ok (.value (.bool au)) w:=by
  rw[run_callFunc_extern (e:=Extern.SlicesOverlaps.overlaps #[22,22] #[4]) func181 krx krx krx krx];rw[Lib.run_overlaps_apart w 22 4 9 avH 1 (λw=>by kernel_rfl) a b la ca lb cb c tA tB kA kB d f g h i];rfl
 simpa[fV,invoke,Deferred.ofValue,resolve] using j
theorem Po (v:aq)(n:Nat)(xs:List aq)(k nb:Nat)(new:List aq)(w:ao)(hu:(Ent.urow 9 1 v n xs).is w)(q:w.heap[nb]?=ax (.cells new.toArray 9 (0,0)))(s:new.length=1)
  (D:¬(Ent.urow 9 1 v n xs).blk nb) (h1:∀u∈xs,u.oneCell'=av) (S:∀u∈new,u.oneCell'=av) (hk:k<=n) (hb:n<=100000000000) :
  Ret ah 143 #[v,.int .i64 (k:Int),.slice (ax ⟨nb,0,aw⟩) 1 1] w
   (λv' w'=>∃e',e'=Ent.urow 9 1 v' (n+1) (xs.take (k*1)++new++xs.drop (k*1))∧IT (.urow 9 1 v n xs) e' w w'):=by
 have r:xs.length=n*1:=(show w.ownsRow 0 9 1 v n xs from hu).1;have G:Sl w (.slice (ax ⟨nb,0,aw⟩) 1 1) 1 1 new:=⟨om,ax ⟨nb,0,aw⟩,1,rfl,λh=>(by cases h),λp hp=>by cases hp;exact⟨λ_=>rfl,λj u f=>by rw[avC];exact aJ (T:=9) q f⟩⟩;have d:=dQ.lend hu;refine aL λK U=>kZ ?_;unfold fH dx bnx eqx mbx slx lnx ecx apx cx;have H:elB ah 9 1 16=true:=krx
 have i:(Tryz.prog.info? 9).map (·.size)=ax 1:=krx
 obtain⟨a,cap,rfl,a8⟩:∃a cap,v=.slice a n cap∧n<=cap:=by
  rcases (show w.ownsRow 0 9 1 v n xs from hu).2 with ⟨rfl,rfl⟩|⟨g,cap,cur,rfl,_,_,I,_⟩
  ·exact⟨aw,0,rfl,auY _⟩
  ·exact⟨_,cap,rfl,I⟩
 refine aC (cZ avH i om om) |>.mpr ?_;rw[aS avH G];simp only[rs,Int.natCast_one,Int.one_ne_zero,auT];rw[bP avH];simp only[rs];by_cases V:k=n
 ·subst V;simp only[auS,rs];refine bN 0 avH H dc d rfl G S om om λv' w2 d=>?_;refine U _ _ ⟨_,rfl,?_⟩;have e:xs.take (k*1)++new++xs.drop (k*1)=xs++new:=by rw[avX om,awK om,awF]
  rw[e];exact dQ.back (L:=[]) d
 have B:k < n:=om
 have J:¬(k:Int)=(n:Int):=om
 simp only[J,auT,rs];rcases (show w.ownsRow 0 9 1 (.slice a n cap) n xs from hu).2 with ⟨_,h0⟩|⟨g,b0,cur,he,b4,hg,I,M,N,l⟩
 ·omega
 injection he with X _ Y
 subst X;subst Y;rw[aA om om,TF avH];simp only[rs];have Z:nb≠g:=λe=>D (by rw[e];rfl);have C:cur.toList.length=cap*1:=by simpa using N
 have E:dQ (Ent.urow 9 1 (.slice (ax ⟨g,0,aw⟩) n cap) n xs).blk w w [.cells g cur.toList 9]:=
  d.turn 0 rfl ⟨E0.refl _ _,by show w.heap[g]?=_;rw[hg],λj f=>.inl (by simp only[Ent.cells] at f;subst f;rfl)⟩
 have a1:∀j u,xs[j]?=ax u->w.cell? ⟨g,0+j,aw⟩=ax u:=λj u f=>by
  rw[avC];exact E.cell 0 rfl j (by rw[<-l] at f;rw[axS] at f;split at f<;>first|exact f|cases f)
 have t:(xs.drop (k*1)).length=(n - k)*1:=by rw[avF,r,<-aAj]
 have O:∀u∈xs.drop (k*1),u.oneCell'=true:=λu hu=>h1 u (ayR hu);by_cases z:(cap:Int) < (n:Int)+1
 ·simp only[z,auS,rs];refine aC (iY avH i om om) |>.mpr ?_;rw[show zx (ax (⟨g,0,aw⟩:Addr)) 0 cap 1=ax ⟨g,0,aw⟩ from Jz (a:=⟨g,0,aw⟩),auW];rw[aA (n:=(n:Int)+1 - k) om om,show (n:Int)+1 - k=((n+1 - k:Nat):Int) by omega];refine YQ (olds:=xs.take (k*1)) avH awM H dc E (by rw[avA,r,awB om]) (λj u f=>a1 j u (by rw[axS] at f;split at f<;>first|exact f|cases f)) om om om om λb c zs w2 P a6 b5 d=>?_;rw[show k+(n+1 - k)=n+1 by omega] at P ⊢;have m:(xs.take (k*1)).length=k*1:=by rw[avA,r,awB om]
  refine aC (cZ avH i om om) |>.mpr ?_;rw[auW,eT om];have b1:b≠g:=by
   have:=(ayC.1 d.apart).1 (.cells g cur.toList 9) sm;intro e;exact this b rfl e
  have Q:∀{W:ao} {b':Nat} {x y:List aq},dQ (Ent.urow 9 1 (.slice (ax ⟨g,0,aw⟩) n cap) n xs).blk w W [.cells b' x 9,.cells g y 9]->W.heap[nb]?=ax (.cells new.toArray 9 (0,0)):=λh=>(h.grew.block nb (dN q) D).trans q;refine Cx 0 (src:=new) avH i d rfl ?_ (λj u f=>by rw[cM,avC];exact aJ (T:=9) (Q d) f) ?_ S λ_ w3 d=>?_
  ·rw[s,awB om]
  ·rw[auU,m,s];omega
  refine quiet ?_;refine iR ?_;rw[aA om om,show (k:Int)+1=((k+1:Nat):Int) by omega];refine eZ _ (λW=>cZ avH i om om) ?_;refine eZ _ (λW=>cZ avH i om om) ?_;rw[auW,auW,eT om,eT om];intro w4 hw;have d:=d.grow hw;simp only[avC,axU m,ayV,m] at d;rw[show k*1+new.length - k*1=1 by omega,awK (show (xs.take (k*1)).length<=k*1+new.length by omega),awW] at d;refine Cx 0 (src:=xs.drop (k*1)) avH i d rfl ?_ (λj u f=>?_) ?_ O λ_ w5 d=>?_
  ·rw[t];congr 1;rw[awB om]
  ·rw[cM];refine d.cell 1 rfl (0+k*1+j) ?_;rw[axJ] at f;rw[avC];rw[<-l] at f;rw[axS] at f;split at f<;>first|exact f|cases f
  ·simp only[auU,avF,m,s,r];omega
  have A:((xs.take (k*1)++new++zs.drop 1).take (0+(k+1)*1)++xs.drop (k*1)++(xs.take (k*1)++new++zs.drop 1).drop (0+(k+1)*1+(xs.drop (k*1)).length))=(xs.take (k*1)++new++xs.drop (k*1))++(zs.drop 1).drop ((n - k)*1):=by
   rw[axU (show (xs.take (k*1)++new).length=0+(k+1)*1 by rw[auU,m,s];omega)];rw[ayV,awK (show (xs.take (k*1)++new).length<=_ by rw[auU,m,s,t];omega),awW]
   congr 2
   rw[auU,m,s,t];omega
  simp only[axV] at d;rw[A] at d;have d:=d.toU 1 (n+1) c (by simp only[auU,avF,m,s,r];omega) P a6;rw[axU (show (xs.take (k*1)++new++xs.drop (k*1)).length=(n+1)*1 by simp only[auU,avF,m,s,r];omega)] at d;exact U _ _ ⟨_,rfl,dQ.back d⟩
 ·have o:n+1<=cap:=om
  simp only[z,auT,rs];rw[show (n:Int)+1=((n+1:Nat):Int) by omega];refine aC (iY avH i om om) |>.mpr ?_;rw[show zx (ax (⟨g,0,aw⟩:Addr)) 0 cap 1=ax ⟨g,0,aw⟩ from Jz (a:=⟨g,0,aw⟩),auW];rw[aA (n:=(k:Int)+1) om om,show (k:Int)+1=((k+1:Nat):Int) by omega];refine aC (cZ avH i om om) |>.mpr ?_;rw[auW,eT om];refine aC (ov_s (a:=⟨nb,0,aw⟩) (b:=⟨g,0+(k+1)*1,aw⟩) Z (tA:=9) (tB:=9) (kA:=new.length) (kB:=cur.size) (by simp[World.shape?,q]) (by simp[World.shape?,hg]) (by rw[N];omega) (by simp[World.frozen?,q]) (by simp[World.frozen?,q])) |>.mpr ?_;simp only[rs,awA];refine quiet ?_;refine iR ?_;rw[aA om om,show (k:Int)+1=((k+1:Nat):Int) by omega];refine eZ _ (λW=>cZ avH i om om) ?_;refine eZ _ (λW=>cZ avH i om om) ?_;rw[auW,auW,eT om,eT om];intro w3 hw;have d:=E.grow hw;have F:∀j u,(xs.drop (k*1))[j]?=ax u->cur.toList[k*1+j]?=ax u:=λj u f=>by
   rw[axJ,<-l,axS] at f;split at f<;>first|exact f|cases f
  refine Cx 0 (src:=xs.drop (k*1)) avH i d rfl ?_ (λj u f=>?_) ?_ O λ_ w4 d=>?_
  ·rw[t];congr 1;rw[Nat.min_eq_right om];omega
  ·rw[cM,avC];exact d.cell 0 rfl _ (F j u f)
  ·rw[t,C];have:(n - k)*1+(k+1)*1=(n+1)*1:=by rw[<-axY];congr 1;omega
   have:(n+1)*1<=cap*1:=awL _ o;omega
  simp only[axV] at d;refine aC (cZ avH i om om) |>.mpr ?_;rw[auW,eT om];have R:w4.heap[nb]?=ax (.cells new.toArray 9 (0,0)):=(d.grew.block nb (dN q) D).trans q;have b6:(k+1)*1<=cap*1:=awL _ om;have b2:(n+1)*1<=cap*1:=awL _ o;have b3:(n - k)*1+(k+1)*1=(n+1)*1:=by rw[<-axY];congr 1;omega
  refine Cx 0 (src:=new) avH i d rfl ?_ (λj u f=>by rw[cM,avC];exact aJ (T:=9) R f) ?_ S λ_ w5 d=>?_
  ·rw[s,awB om]
  ·simp only[auU,avA,avF,C,s,t];omega
  simp only[axV] at d;have a7:cur.toList.take (k*1)=xs.take (k*1):=by
   rw[<-l,ayK,awB (awL _ om)]
  have A:((cur.toList.take (0+(k+1)*1)++xs.drop (k*1)++cur.toList.drop (0+(k+1)*1+(xs.drop (k*1)).length)).take (0+k*1)++new++(cur.toList.take (0+(k+1)*1)++xs.drop (k*1)++cur.toList.drop (0+(k+1)*1+(xs.drop (k*1)).length)).drop (0+k*1+new.length))
   =(xs.take (k*1)++new++xs.drop (k*1))++cur.toList.drop (0+(k+1)*1+(xs.drop (k*1)).length):=by
   have B:(cur.toList.take (0+(k+1)*1)).length=0+(k+1)*1:=by rw[avA,C];omega
   rw[avO (cur.toList.take (0+(k+1)*1))];rw[aBd (by rw[B];omega),ayK,awB om,avC,a7];rw[ayV,awK (show (cur.toList.take (0+(k+1)*1)).length<=k*1+new.length by rw[B,s];omega),awW];rw[show k*1+new.length - (cur.toList.take (0+(k+1)*1)).length=0 by rw[B,s];omega,ayS];simp only[avC,avO]
  rw[A] at d;have d:=d.toU 1 (n+1) cap (by simp only[auU,avA,avF,C,s,r];omega) o (by simp only[maxLen] at M;exact M);rw[axU (show (xs.take (k*1)++new++xs.drop (k*1)).length=(n+1)*1 by simp only[auU,avA,avF,s,r];omega)] at d;exact U _ _ ⟨_,rfl,dQ.back d⟩
theorem ov_o {a b:Addr}{la ca lb cb:Nat}(c:a.block≠b.block){tA tB:TypeId}{kA kB:Nat}(d:w.shape? a.block=ax (tA,kA))(f:w.shape? b.block=ax (tB,kB))(g:kB≠0)(h:w.frozen? a=au)(i:w.frozen? { block:=a.block,off:=kA }=au) :
  (fV (.func (.func 183) #[] #[]) #[.slice (ax a) la ca,.slice (ax b) lb cb]).run ah w=.ok (.value (.bool au)) w:=by
 have j:(callFunc 183 #[.slice (ax a) la ca,.slice (ax b) lb cb]).run ah w=.ok (.value (.bool au)) w:=by
  rw[run_callFunc_extern (e:=Extern.SlicesOverlaps.overlaps #[23,23] #[4]) func183 krx krx krx krx];rw[Lib.run_overlaps_apart w 23 4 25 avI 6 (λw=>by kernel_rfl) a b la ca lb cb c tA tB kA kB d f g h i];rfl
 simpa[fV,invoke,Deferred.ofValue,resolve] using j
theorem OJ (v:aq)(n:Nat)(xs:List aq)(k nb:Nat)(new:List aq)(w:ao)(hu:(Ent.urow 25 6 v n xs).is w)(q:w.heap[nb]?=ax (.cells new.toArray 25 (0,0)))(s:new.length=6)
  (D:¬(Ent.urow 25 6 v n xs).blk nb) (h1:∀u∈xs,u.oneCell'=av) (S:∀u∈new,u.oneCell'=av) (hk:k<=n) (hb:n<=100000000000) :
  Ret ah 144 #[v,.int .i64 (k:Int),.slice (ax ⟨nb,0,aw⟩) 1 1] w
   (λv' w'=>∃e',e'=Ent.urow 25 6 v' (n+1) (xs.take (k*6)++new++xs.drop (k*6))∧IT (.urow 25 6 v n xs) e' w w'):=by
 have r:xs.length=n*6:=(show w.ownsRow 0 25 6 v n xs from hu).1;have G:Sl w (.slice (ax ⟨nb,0,aw⟩) 1 1) 6 1 new:=⟨om,ax ⟨nb,0,aw⟩,1,rfl,λh=>(by cases h),λp hp=>by cases hp;exact⟨λ_=>rfl,λj u f=>by rw[avC];exact aJ (T:=25) q f⟩⟩;have d:=dQ.lend hu;refine aL λK U=>dH ?_;unfold bY dx bnx eqx mbx slx lnx ecx apx cx;have H:elB ah 25 6 88=true:=krx
 have i:(Tryz.prog.info? 25).map (·.size)=ax 6:=krx
 obtain⟨a,cap,rfl,a8⟩:∃a cap,v=.slice a n cap∧n<=cap:=by
  rcases (show w.ownsRow 0 25 6 v n xs from hu).2 with ⟨rfl,rfl⟩|⟨g,cap,cur,rfl,_,_,I,_⟩
  ·exact⟨aw,0,rfl,auY _⟩
  ·exact⟨_,cap,rfl,I⟩
 refine aC (cZ avI i om om) |>.mpr ?_;rw[aS avI G];simp only[rs,Int.natCast_one,Int.one_ne_zero,auT];rw[bP avI];simp only[rs];by_cases V:k=n
 ·subst V;simp only[auS,rs];refine bN 0 avI H dc d rfl G S om om λv' w2 d=>?_;refine U _ _ ⟨_,rfl,?_⟩;have e:xs.take (k*6)++new++xs.drop (k*6)=xs++new:=by rw[avX om,awK om,awF]
  rw[e];exact dQ.back (L:=[]) d
 have B:k < n:=om
 have J:¬(k:Int)=(n:Int):=om
 simp only[J,auT,rs];rcases (show w.ownsRow 0 25 6 (.slice a n cap) n xs from hu).2 with ⟨_,h0⟩|⟨g,b0,cur,he,b4,hg,I,M,N,l⟩
 ·omega
 injection he with X _ Y
 subst X;subst Y;rw[aA om om,TF avI];simp only[rs];have Z:nb≠g:=λe=>D (by rw[e];rfl);have C:cur.toList.length=cap*6:=by simpa using N
 have E:dQ (Ent.urow 25 6 (.slice (ax ⟨g,0,aw⟩) n cap) n xs).blk w w [.cells g cur.toList 25]:=
  d.turn 0 rfl ⟨E0.refl _ _,by show w.heap[g]?=_;rw[hg],λj f=>.inl (by simp only[Ent.cells] at f;subst f;rfl)⟩
 have a1:∀j u,xs[j]?=ax u->w.cell? ⟨g,0+j,aw⟩=ax u:=λj u f=>by
  rw[avC];exact E.cell 0 rfl j (by rw[<-l] at f;rw[axS] at f;split at f<;>first|exact f|cases f)
 have t:(xs.drop (k*6)).length=(n - k)*6:=by rw[avF,r,<-aAj]
 have O:∀u∈xs.drop (k*6),u.oneCell'=true:=λu hu=>h1 u (ayR hu);by_cases z:(cap:Int) < (n:Int)+1
 ·simp only[z,auS,rs];refine aC (iY avI i om om) |>.mpr ?_;rw[show zx (ax (⟨g,0,aw⟩:Addr)) 0 cap 6=ax ⟨g,0,aw⟩ from Jz (a:=⟨g,0,aw⟩),auW];rw[aA (n:=(n:Int)+1 - k) om om,show (n:Int)+1 - k=((n+1 - k:Nat):Int) by omega];refine YQ (olds:=xs.take (k*6)) avI awM H dc E (by rw[avA,r,awB om]) (λj u f=>a1 j u (by rw[axS] at f;split at f<;>first|exact f|cases f)) om om om om λb c zs w2 P a6 b5 d=>?_;rw[show k+(n+1 - k)=n+1 by omega] at P ⊢;have m:(xs.take (k*6)).length=k*6:=by rw[avA,r,awB om]
  refine aC (cZ avI i om om) |>.mpr ?_;rw[auW,eT om];have b1:b≠g:=by
   have:=(ayC.1 d.apart).1 (.cells g cur.toList 25) sm;intro e;exact this b rfl e
  have Q:∀{W:ao} {b':Nat} {x y:List aq},dQ (Ent.urow 25 6 (.slice (ax ⟨g,0,aw⟩) n cap) n xs).blk w W [.cells b' x 25,.cells g y 25]->W.heap[nb]?=ax (.cells new.toArray 25 (0,0)):=λh=>(h.grew.block nb (dN q) D).trans q;refine Cx 0 (src:=new) avI i d rfl ?_ (λj u f=>by rw[cM,avC];exact aJ (T:=25) (Q d) f) ?_ S λ_ w3 d=>?_
  ·rw[s,awB om]
  ·rw[auU,m,s];omega
  refine quiet ?_;refine iR ?_;rw[aA om om,show (k:Int)+1=((k+1:Nat):Int) by omega];refine eZ _ (λW=>cZ avI i om om) ?_;refine eZ _ (λW=>cZ avI i om om) ?_;rw[auW,auW,eT om,eT om];intro w4 hw;have d:=d.grow hw;simp only[avC,axU m,ayV,m] at d;rw[show k*6+new.length - k*6=6 by omega,awK (show (xs.take (k*6)).length<=k*6+new.length by omega),awW] at d;refine Cx 0 (src:=xs.drop (k*6)) avI i d rfl ?_ (λj u f=>?_) ?_ O λ_ w5 d=>?_
  ·rw[t];congr 1;rw[awB om]
  ·rw[cM];refine d.cell 1 rfl (0+k*6+j) ?_;rw[axJ] at f;rw[avC];rw[<-l] at f;rw[axS] at f;split at f<;>first|exact f|cases f
  ·simp only[auU,avF,m,s,r];omega
  have A:((xs.take (k*6)++new++zs.drop 6).take (0+(k+1)*6)++xs.drop (k*6)++(xs.take (k*6)++new++zs.drop 6).drop (0+(k+1)*6+(xs.drop (k*6)).length))=(xs.take (k*6)++new++xs.drop (k*6))++(zs.drop 6).drop ((n - k)*6):=by
   rw[axU (show (xs.take (k*6)++new).length=0+(k+1)*6 by rw[auU,m,s];omega)];rw[ayV,awK (show (xs.take (k*6)++new).length<=_ by rw[auU,m,s,t];omega),awW]
   congr 2
   rw[auU,m,s,t];omega
  simp only[axV] at d;rw[A] at d;have d:=d.toU 6 (n+1) c (by simp only[auU,avF,m,s,r];omega) P a6;rw[axU (show (xs.take (k*6)++new++xs.drop (k*6)).length=(n+1)*6 by simp only[auU,avF,m,s,r];omega)] at d;exact U _ _ ⟨_,rfl,dQ.back d⟩
 ·have o:n+1<=cap:=om
  simp only[z,auT,rs];rw[show (n:Int)+1=((n+1:Nat):Int) by omega];refine aC (iY avI i om om) |>.mpr ?_;rw[show zx (ax (⟨g,0,aw⟩:Addr)) 0 cap 6=ax ⟨g,0,aw⟩ from Jz (a:=⟨g,0,aw⟩),auW];rw[aA (n:=(k:Int)+1) om om,show (k:Int)+1=((k+1:Nat):Int) by omega];refine aC (cZ avI i om om) |>.mpr ?_;rw[auW,eT om];refine aC (ov_o (a:=⟨nb,0,aw⟩) (b:=⟨g,0+(k+1)*6,aw⟩) Z (tA:=25) (tB:=25) (kA:=new.length) (kB:=cur.size) (by simp[World.shape?,q]) (by simp[World.shape?,hg]) (by rw[N];omega) (by simp[World.frozen?,q]) (by simp[World.frozen?,q])) |>.mpr ?_;simp only[rs,awA];refine quiet ?_;refine iR ?_;rw[aA om om,show (k:Int)+1=((k+1:Nat):Int) by omega];refine eZ _ (λW=>cZ avI i om om) ?_;refine eZ _ (λW=>cZ avI i om om) ?_;rw[auW,auW,eT om,eT om];intro w3 hw;have d:=E.grow hw;have F:∀j u,(xs.drop (k*6))[j]?=ax u->cur.toList[k*6+j]?=ax u:=λj u f=>by
   rw[axJ,<-l,axS] at f;split at f<;>first|exact f|cases f
  refine Cx 0 (src:=xs.drop (k*6)) avI i d rfl ?_ (λj u f=>?_) ?_ O λ_ w4 d=>?_
  ·rw[t];congr 1;rw[Nat.min_eq_right om];omega
  ·rw[cM,avC];exact d.cell 0 rfl _ (F j u f)
  ·rw[t,C];have:(n - k)*6+(k+1)*6=(n+1)*6:=by rw[<-axY];congr 1;omega
   have:(n+1)*6<=cap*6:=awL _ o;omega
  simp only[axV] at d;refine aC (cZ avI i om om) |>.mpr ?_;rw[auW,eT om];have R:w4.heap[nb]?=ax (.cells new.toArray 25 (0,0)):=(d.grew.block nb (dN q) D).trans q;have b6:(k+1)*6<=cap*6:=awL _ om;have b2:(n+1)*6<=cap*6:=awL _ o;have b3:(n - k)*6+(k+1)*6=(n+1)*6:=by rw[<-axY];congr 1;omega
  refine Cx 0 (src:=new) avI i d rfl ?_ (λj u f=>by rw[cM,avC];exact aJ (T:=25) R f) ?_ S λ_ w5 d=>?_
  ·rw[s,awB om]
  ·simp only[auU,avA,avF,C,s,t];omega
  simp only[axV] at d;have a7:cur.toList.take (k*6)=xs.take (k*6):=by
   rw[<-l,ayK,awB (awL _ om)]
  have A:((cur.toList.take (0+(k+1)*6)++xs.drop (k*6)++cur.toList.drop (0+(k+1)*6+(xs.drop (k*6)).length)).take (0+k*6)++new++(cur.toList.take (0+(k+1)*6)++xs.drop (k*6)++cur.toList.drop (0+(k+1)*6+(xs.drop (k*6)).length)).drop (0+k*6+new.length))
   =(xs.take (k*6)++new++xs.drop (k*6))++cur.toList.drop (0+(k+1)*6+(xs.drop (k*6)).length):=by
   have B:(cur.toList.take (0+(k+1)*6)).length=0+(k+1)*6:=by rw[avA,C];omega
   rw[avO (cur.toList.take (0+(k+1)*6))];rw[aBd (by rw[B];omega),ayK,awB om,avC,a7];rw[ayV,awK (show (cur.toList.take (0+(k+1)*6)).length<=k*6+new.length by rw[B,s];omega),awW];rw[show k*6+new.length - (cur.toList.take (0+(k+1)*6)).length=0 by rw[B,s];omega,ayS];simp only[avC,avO]
  rw[A] at d;have d:=d.toU 6 (n+1) cap (by simp only[auU,avA,avF,C,s,r];omega) o (by simp only[maxLen] at M;exact M);rw[axU (show (xs.take (k*6)++new++xs.drop (k*6)).length=(n+1)*6 by simp only[auU,avA,avF,s,r];omega)] at d;exact U _ _ ⟨_,rfl,dQ.back d⟩
theorem Pp (v:aq)(n:Nat)(xs:List aq)(k:Nat)(w:ao)(hu:(Ent.urow 9 1 v n xs).is w)(F:∀u∈xs,u.oneCell'=av)(O:k < n)(P:n<=100000000000) :
  Ret ah 179 #[v,.int .i64 (k:Int),.int .i64 ((k+1:Nat):Int)] w
   (λv' w'=>∃e',e'=Ent.urow 9 1 v' (n - 1) (xs.take (k*1)++xs.drop ((k+1)*1))∧IT (.urow 9 1 v n xs) e' w w'):=by
 have d:xs.length=n*1:=(show w.ownsRow 0 9 1 v n xs from hu).1;have b:=dQ.lend hu;refine aL λK G=>lB ?_;unfold fA nz;have o:elB ah 9 1 16=true:=krx
 have e:(Tryz.prog.info? 9).map (·.size)=ax 1:=krx
 rcases (show w.ownsRow 0 9 1 v n xs from hu).2 with ⟨_,Q⟩|⟨g,cap,cur,rfl,H,I,s,p,t,c⟩
 ·omega
 have l:cur.toList.length=cap*1:=by simpa using t
 have E:n*1<=cap*1:=awL _ s;have x:dQ (Ent.urow 9 1 (.slice (ax ⟨g,0,aw⟩) n cap) n xs).blk w w [.cells g cur.toList 9]:=
  b.turn 0 rfl ⟨E0.refl _ _,by show w.heap[g]?=_;rw[I],λj i=>.inl (by simp only[Ent.cells] at i;subst i;rfl)⟩
 rw[bP avH];refine aC (NT avH e om om om om) |>.mpr ?_;have y:¬(k:Int)=((k+1:Nat):Int):=om
 simp only[rs,y,auT];rw[bP avH];refine quiet ?_;refine eZ _ (λW=>iY avH e om om) ?_;refine eZ _ (λW=>cZ avH e om om) ?_;rw[show zx (ax (⟨g,0,aw⟩:Addr)) 0 cap 1=ax ⟨g,0,aw⟩ from Jz (a:=⟨g,0,aw⟩),auW,auW];obtain⟨a,J,z⟩:∃a,zx (ax (⟨g,0,aw⟩:Addr)) (k+1) cap 1=ax a∧(k+1 < cap->a=⟨g,(k+1)*1,aw⟩):=by
  by_cases h:k+1 < cap
  ·exact⟨_,by rw[eT h,avC],λ_=>rfl⟩
  ·exact⟨⟨g,0,aw⟩,by unfold zx;rw[auP om],λL=>absurd L h⟩
 rw[J];intro w3 hw;have b:=x.grow hw;have f:(xs.drop ((k+1)*1)).length=(n - (k+1))*1:=by rw[avF,d,<-aAj]
 have M:(k+1)*1<=n*1:=awL _ om;have q:k*1+(n - (k+1))*1=(n - 1)*1:=by rw[<-axY];congr 1;omega
 have N:(n - 1)*1+1=n*1:=by rw[<-axZ];congr 1;omega
 refine NG 0 (news:=xs.drop ((k+1)*1)) avH o b rfl f (λj u i=>?_) (λu hu=>F u (ayR hu)) om (by rw[f,l];omega) λR b=>?_
 ·have A:j < (xs.drop ((k+1)*1)).length:=(avL.1 i).1;have B:k+1 < cap:=by
   rcases awO (k+1) n with h|h
   ·omega
   ·rw[f,show n - (k+1)=0 by omega] at A;omega
  rw[z B,cM];refine b.cell 0 rfl _ ?_;rw[axJ,<-c,axS] at i;split at i<;>first|exact i|cases i
 simp only[axV] at b;rw[bP avH];rw[show k+(n - (k+1))=n - 1 by omega];refine aC (Ru avH e om om om) |>.mpr ?_;rw[auW,auW,eT om,avC,show n - (n - 1)=1 by omega];have C:cur.toList.take (k*1)=xs.take (k*1):=by
  rw[<-c,ayK,awB (awL _ om)]
 have m:(xs.take (k*1)).length=k*1:=by rw[avA,d,awB om]
 rw[C] at b;have r:(xs.take (k*1)++xs.drop ((k+1)*1)).length=(n - 1)*1:=by rw[auU,m,f,q]
 refine Ty 0 avH o (show zB ah 9=av by kernel_rfl) om b rfl (by simp only[auU,avF,l,m,d];omega) λ_ S T D b=>?_;simp only[axV] at b;rw[axU r,avO (xs.take (k*1)++xs.drop ((k+1)*1))] at b;have b:=b.toU 1 (n - 1) cap (by simp only[auU,avF,l,m,d,D];omega) om (by simp only[maxLen] at p;exact p);rw[axU r] at b;exact G _ _ ⟨_,rfl,dQ.back b⟩
theorem PF (v:aq)(n:Nat)(xs:List aq)(k:Nat)(w:ao)(hu:(Ent.urow 25 6 v n xs).is w)(F:∀u∈xs,u.oneCell'=av)(O:k < n)(P:n<=100000000000) :
  Ret ah 180 #[v,.int .i64 (k:Int),.int .i64 ((k+1:Nat):Int)] w
   (λv' w'=>∃e',e'=Ent.urow 25 6 v' (n - 1) (xs.take (k*6)++xs.drop ((k+1)*6))∧IT (.urow 25 6 v n xs) e' w w'):=by
 have d:xs.length=n*6:=(show w.ownsRow 0 25 6 v n xs from hu).1;have b:=dQ.lend hu;refine aL λK G=>dI ?_;unfold cB nz;have o:elB ah 25 6 88=true:=krx
 have e:(Tryz.prog.info? 25).map (·.size)=ax 6:=krx
 rcases (show w.ownsRow 0 25 6 v n xs from hu).2 with ⟨_,Q⟩|⟨g,cap,cur,rfl,H,I,s,p,t,c⟩
 ·omega
 have l:cur.toList.length=cap*6:=by simpa using t
 have E:n*6<=cap*6:=awL _ s;have x:dQ (Ent.urow 25 6 (.slice (ax ⟨g,0,aw⟩) n cap) n xs).blk w w [.cells g cur.toList 25]:=
  b.turn 0 rfl ⟨E0.refl _ _,by show w.heap[g]?=_;rw[I],λj i=>.inl (by simp only[Ent.cells] at i;subst i;rfl)⟩
 rw[bP avI];refine aC (NT avI e om om om om) |>.mpr ?_;have y:¬(k:Int)=((k+1:Nat):Int):=om
 simp only[rs,y,auT];rw[bP avI];refine quiet ?_;refine eZ _ (λW=>iY avI e om om) ?_;refine eZ _ (λW=>cZ avI e om om) ?_;rw[show zx (ax (⟨g,0,aw⟩:Addr)) 0 cap 6=ax ⟨g,0,aw⟩ from Jz (a:=⟨g,0,aw⟩),auW,auW];obtain⟨a,J,z⟩:∃a,zx (ax (⟨g,0,aw⟩:Addr)) (k+1) cap 6=ax a∧(k+1 < cap->a=⟨g,(k+1)*6,aw⟩):=by
  by_cases h:k+1 < cap
  ·exact⟨_,by rw[eT h,avC],λ_=>rfl⟩
  ·exact⟨⟨g,0,aw⟩,by unfold zx;rw[auP om],λL=>absurd L h⟩
 rw[J];intro w3 hw;have b:=x.grow hw;have f:(xs.drop ((k+1)*6)).length=(n - (k+1))*6:=by rw[avF,d,<-aAj]
 have M:(k+1)*6<=n*6:=awL _ om;have q:k*6+(n - (k+1))*6=(n - 1)*6:=by rw[<-axY];congr 1;omega
 have N:(n - 1)*6+6=n*6:=by rw[<-axZ];congr 1;omega
 refine NG 0 (news:=xs.drop ((k+1)*6)) avI o b rfl f (λj u i=>?_) (λu hu=>F u (ayR hu)) om (by rw[f,l];omega) λR b=>?_
 ·have A:j < (xs.drop ((k+1)*6)).length:=(avL.1 i).1;have B:k+1 < cap:=by
   rcases awO (k+1) n with h|h
   ·omega
   ·rw[f,show n - (k+1)=0 by omega] at A;omega
  rw[z B,cM];refine b.cell 0 rfl _ ?_;rw[axJ,<-c,axS] at i;split at i<;>first|exact i|cases i
 simp only[axV] at b;rw[bP avI];rw[show k+(n - (k+1))=n - 1 by omega];refine aC (Ru avI e om om om) |>.mpr ?_;rw[auW,auW,eT om,avC,show n - (n - 1)=1 by omega];have C:cur.toList.take (k*6)=xs.take (k*6):=by
  rw[<-c,ayK,awB (awL _ om)]
 have m:(xs.take (k*6)).length=k*6:=by rw[avA,d,awB om]
 rw[C] at b;have r:(xs.take (k*6)++xs.drop ((k+1)*6)).length=(n - 1)*6:=by rw[auU,m,f,q]
 refine Ty 0 avI o (show zB ah 25=av by kernel_rfl) om b rfl (by simp only[auU,avF,l,m,d];omega) λ_ S T D b=>?_;simp only[axV] at b;rw[axU r,avO (xs.take (k*6)++xs.drop ((k+1)*6))] at b;have b:=b.toU 6 (n - 1) cap (by simp only[auU,avF,l,m,d,D];omega) om (by simp only[maxLen] at p;exact p);rw[axU r] at b;exact G _ _ ⟨_,rfl,dQ.back b⟩
end
section
open Eng
def LX(t0 w)(K:KT):=nz f62 1 [] [] [] (zg [0] [t0]) w K
theorem MU{t0 w K}:LX t0 w K->Calls ah 62 #[t0] w K:=cw func62
def I1(t0 w)(K:KT):=nz f63 1 [] [] [] (zg [0] [t0]) w K
theorem KQ{t0 w K}:I1 t0 w K->Calls ah 63 #[t0] w K:=cw func63
def Gj(t0 w)(K:KT):=nz f64 1 [] [] [] (zg [0] [t0]) w K
theorem Kb{t0 w K}:Gj t0 w K->Calls ah 64 #[t0] w K:=cw func64
def F5(t0 w)(K:KT):=nz f103 1 [] [] [] (zg [0] [t0]) w K
theorem Ku{t0 w K}:F5 t0 w K->Calls ah 103 #[t0] w K:=cw func103
def Gg(t0 w)(K:KT):=nz f71 1 [] [] [] (zg [0] [t0]) w K
theorem Kt{t0 w K}:Gg t0 w K->Calls ah 71 #[t0] w K:=cw func71
def E8(t3 t6 w)(K:KT):=nz f104 63 [] [] [] (zg [3,6] [t3,t6]) w K
def Jp(t0 t1 t2 w)(K:KT):=nz f104 1 [] [(16,[],λs v j w f=>E8 (s 3) (s 6) w K)] [] (zg [0,1,2] [t0,t1,t2]) w K
theorem ML{t0 t1 t2 w K}:Jp t0 t1 t2 w K->Calls ah 104 #[t0,t1,t2] w K:=cz [(8,[])] [] func104
def DF(t0 t1 w)(K:KT):=nz f141 1 [] [] [] (zg [0,1] [t0,t1]) w K
theorem GK{t0 t1 w K}:DF t0 t1 w K->Calls ah 141 #[t0,t1] w K:=cw func141
def E4(t3 t7 w)(a:JT)(K:KT):=nz f107 1887 [a] [nh 23 [3,7]] [] (zg [3,7] [t3,t7]) w K
def Fg(t0 t2 t3 t5 t6 t7 w)(a:JT)(K:KT):=nz f107 351 [a] [nh 23 [3,7],(24,[3],λs v j w f=>E4 (vg v 0) (s 7) w (f 0) K)] [(18,7)] (zg [0,2,3,5,6,7] [t0,t2,t3,t5,t6,t7]) w K
def EZ(t0 t2 t3 t4 w)(a:JT)(K:KT):=nz f107 43 [a] [nh 9 [3,4],(23,[3,7],λs v j w f=>Fg (s 0) (s 2) (vg v 0) (s 5) (s 6) (vg v 1) w (f 0) K)] [] (zg [0,2,3,4] [t0,t2,t3,t4]) w K
def Ja(t0 w)(K:KT):=nz f107 1 [] [(9,[3,4],λs v j w f=>EZ (s 0) (s 2) (vg v 0) (vg v 1) w (f 0) K)] [] (zg [0] [t0]) w K
theorem KZ{t0 w K}:Ja t0 w K->Calls ah 107 #[t0] w K:=cz [(12,[3])] [(4,[3,4]),(11,[3,7])] func107
def Lm(t0 t1 w)(K:KT):=nz f39 1 [] [] [] (zg [0,1] [t0,t1]) w K
theorem MS{t0 t1 w K}:Lm t0 t1 w K->Calls ah 39 #[t0,t1] w K:=cw func39
def LO(t0 t1 t2 w)(K:KT):=nz f65 1 [] [] [] (zg [0,1,2] [t0,t1,t2]) w K
theorem Nb{t0 t1 t2 w K}:LO t0 t1 t2 w K->Calls ah 65 #[t0,t1,t2] w K:=cw func65
def EV(t2 t4 w)(K:KT):=nz f102 7 [] [] [] (zg [2,4] [t2,t4]) w K
def JF(t0 t1 w)(K:KT):=nz f102 1 [] [(10,[],λs v j w f=>EV (s 2) (s 4) w K)] [] (zg [0,1] [t0,t1]) w K
theorem LU{t0 t1 w K}:JF t0 t1 w K->Calls ah 102 #[t0,t1] w K:=cz [(5,[])] [] func102
def GS(t0 w)(K:KT):=nz f21 1 [] [] [] (zg [0] [t0]) w K
theorem JK{t0 w K}:GS t0 w K->Calls ah 21 #[t0] w K:=cw func21
def CS(t0 w)(K:KT):=nz f48 1 [] [] [] (zg [0] [t0]) w K
theorem Gz{t0 w K}:CS t0 w K->Calls ah 48 #[t0] w K:=cw func48
def wV(t2 t4 w)(K:KT):=nz f47 31 [] [] [] (zg [2,4] [t2,t4]) w K
def yH(t1 t2 t5 t23 t24 t25 w)(a b:JT)(K:KT):=nz f47 1367 [a,b] [nh 22 [],nh 13 [25]] [] (zg [1,2,5,23,24,25] [t1,t2,t5,t23,t24,t25]) w K
def CM(t0 t1 w)(K:KT):=nz f47 1 [] [(13,[25],λs v j w f=>yH (s 1) (s 2) (s 5) (s 23) (s 24) (vg v 0) w (f 1) (f 0) K),(22,[],λs v j w f=>wV (s 2) (s 4) w K)] [] (zg [0,1] [t0,t1]) w K
theorem Hw{t0 t1 w K}:CM t0 t1 w K->Calls ah 47 #[t0,t1] w K:=cz [(11,[])] [(6,[25])] func47
end
section
open Go
namespace Vl
def used (k:Int):Option (Bool×Bool×Bool×Bool×Bool):=
 if k=0 then ax (au,au,au,au,au)
 else if k=1∨k=2∨k=3 then ax (av,au,au,au,au)
 else if k=4∨k=5 then ax (au,au,av,au,au)
 else if k=6 then ax (au,au,au,au,av)
 else if k=7 then ax (au,au,au,av,av)
 else if k=8 then ax (av,av,au,au,au)
 else if k=9 then ax (au,au,av,av,av)
 else aw
def fF (o:Ob):Bool:=
 match used o.k with
|none=>au
|some (n,g,s,a,cs)=>(n||decide (o.n=0))&&(g||decide (o.g=0))&&(s||decide (o.s=[]))&&(a||decide (o.keys=[]))&&(cs||decide (o.kids.length=0))
def fits (o:Ob):Bool:=
 if o.k=1 then ai (0<=o.n∧o.n<=1)
 else if o.k=2 then ai (-2147483647<=o.n∧o.n<=2147483647)
 else if o.k=3 then ai (-1073741824<=o.n∧o.n<=1073741824)
 else if o.k=8 then ai (1<=o.n∧o.n<=8191)&&ai (0<=o.g∧o.g<=65535)
 else av
def long (k:Int):Nat:=if k=5 then 127 else if k=9 then 1048576 else 32767
def name (s:List UInt8):Bool:=ai (s.length<=127)&&ai ((0:UInt8) ∉ s)
def Ax:List UInt8:=[76,101,110,103,116,104]
abbrev less (a b:List UInt8):Bool:=Op.bytesLess a b
def Bn (o:Ob)(i:Nat):Bool:=
 name (o.keys.getD i [])&&(ai (i=0)||less (o.keys.getD (i - 1) []) (o.keys.getD i []))&&!(ai (o.k=9)&&ai (o.keys.getD i []=Ax))&&ai ((o.kids.getD i (.mk 0 0 0 [] [] [])).k≠0)
def rising (o:Ob):Bool:=ai (o.keys.length=o.kids.length)&&(List.range o.keys.length).all (Bn o)
def form (o:Ob):Bool:=(!(ai (o.k=5))||name o.s)&&(!(ai (o.k=7∨o.k=9))||rising o)
def why (d:Nat)(o:Ob):Int:=
 if 24 < d then 7
 else if fF o=au∨(o.k=9∧1 < d) then 10
 else if fits o=au then 2
 else if long o.k < o.s.length then 5
 else if 8191 < o.kids.length then 6
 else if form o=au then 3
 else 0
 mutual
def check (d:Nat):Ob->Int
|.mk k n g s keys kids=>if why d (.mk k n g s keys kids)≠0 then why d (.mk k n g s keys kids) else nO (d+1) kids
def nO (d:Nat):List Ob->Int
|[]=>0
|o::os=>if check d o≠0 then check d o else nO d os
end
theorem HO (d:Nat)(o:Ob):check d o=if why d o≠0 then why d o else nO (d+1) o.kids:=by cases o;rw[check];rfl
 mutual
def size:Ob->Nat
|.mk _ _ _ s keys kids=>1+s.length / 50+(keys.map λk=>k.length / 50).sum+xR kids
def xR:List Ob->Nat
|[]=>0
|o::os=>size o+xR os
end
theorem size_eq (o:Ob):size o=1+o.s.length / 50+(o.keys.map λk=>k.length / 50).sum+xR o.kids:=by cases o;rw[size];rfl
theorem aqV (l:List (List UInt8)):(l.map λk=>k.length / 50).sum<=Pl.tot l:=by
 induction l with
|nil=>simp
|cons a l b=>simp only[Pl.tot,awY,azK] at b ⊢;omega
 mutual
theorem ZR:∀o:Ob,size o<=o.wt
|.mk k n g s keys kids=>by
  have:=Ui kids;have:=aqV keys;rw[size,Ob.wt];omega
theorem Ui:∀os:List Ob,xR os<=Ob.wts os
|[]=>by rw[xR,Ob.wts];omega
|o::os=>by
  have:=ZR o;have:=Ui os;rw[xR,Ob.wts];omega
end
end Vl
end
section
open Go
namespace Vl
theorem PR (a b:List UInt8):less a b=av↔a < b:=by rw[less,bytesLess_eq,awG]
theorem rE {a b c:List UInt8}(h:less a b=av)(k:less b c=av):less a c=true:=by
 rw[PR] at *;exact List.lt_trans h k
theorem FN (a:List UInt8):less a a=false:=by
 cases h:less a a with
|false=>rfl
|true=>rw[PR] at h;exact absurd h (List.lt_irrefl _)
theorem VK {a b:List UInt8}(h:less a b=au)(d:a≠b):less b a=true:=by
 have e:¬a < b:=by rw[<-PR,h];simp
 rw[PR];rcases Classical.em (b < a) with c|c
 ·exact c
 ·exact absurd (List.le_antisymm (List.not_lt.1 c) (List.not_lt.1 e)) d
def NK (l:List (List UInt8)):Prop:=l.Pairwise λa b=>less a b=av
def place (l:List (List UInt8))(x:List UInt8):Nat:=(l.takeWhile λk=>less k x).length
def hit (l:List (List UInt8))(x:List UInt8):Bool:=ai (l[place l x]?=ax x)
theorem Jy {α:Type}{p:α->Bool}:∀(l:List α) (i:Nat),i<=l.length->(∀m (h:m < l.length),m < i->p l[m]=av)->(∀h:i < l.length,p l[i]=au)->(l.takeWhile p).length=i
|[],i,hi,_,_=>by simp at hi;simp[hi]
|a::l,0,_,_,h=>by
  have:=h sm;rw[aAO] at this;simp[aAz,this]
|a::l,i+1,hi,b,d=>by
  have c:=b 0 sm om;rw[aAO] at c;rw[aAz,c];simp only[if_true,avR];rw[Jy l i (by simpa using hi) (λm hm e=>by
   have:=b (m+1) (by simpa using hm) om
   rwa [aAP] at this) (λh=>by
   have:=d (by simpa using h)
   rwa [aAP] at this)]
theorem KB (l:List (List UInt8))(x:List UInt8):place l x<=l.length:=(List.takeWhile_prefix _).length_le
theorem Ts {l:List (List UInt8)}{x:List UInt8}(hi:i<=l.length)(a:∀m (h:m < l.length),m < i->less l[m] x=av)(b:∀h:i < l.length,less l[i] x=au):place l x=i:=Jy l i hi a b
theorem acU {l:List (List UInt8)}{x:List UInt8}(h:m < place l x):less (l[m]'(axL h (KB l x))) x=true:=by
 unfold place at h;have hm:=List.all_takeWhile (l:=l) (p:=λk=>less k x);have b:(l.takeWhile λk=>less k x)[m]∈l.takeWhile λk=>less k x:=avD h;have a:=axI.1 hm _ b;have c:(l.takeWhile λk=>less k x)[m]=l[m]'(axL h (KB l x)):=by
  have hp:(l.takeWhile λk=>less k x) <+: l:=List.takeWhile_prefix _;exact hp.getElem h
 rw[c] at a;exact a
theorem aaZ {l:List (List UInt8)}{x:List UInt8}(h:place l x < l.length):less l[place l x] x=false:=by
 unfold place at h ⊢
 induction l with
|nil=>simp at h
|cons a l c=>
  cases b:less a x with
 |false=>simp only[aAz,b];simpa using b
 |true=>
   simp only[aAz,b,if_true,avR] at h ⊢;rw[aAP];exact c (by simpa using h)
theorem uF {l:List (List UInt8)}(h:NK l)(a:i < j)(b:j < l.length):less (l[i]'(om)) l[j]=true:=azJ.1 h i j om b a
def ob0:Ob:=.mk 0 0 0 [] [] []
def keyed (o:Ob):Bool:=ai (o.k=7)||decide (o.k=9)
def get (o:Ob)(key:List UInt8):Option Ob:=if keyed o then (if o.keys.idxOf key < o.keys.length then o.kids[o.keys.idxOf key]? else aw) else aw
def put (o:Ob)(key:List UInt8)(v:Ob):Ob:=
 .mk o.k o.n o.g o.s (o.keys.take (place o.keys key)++key::o.keys.drop (place o.keys key+if hit o.keys key then 1 else 0)) (o.kids.take (place o.keys key)++v::o.kids.drop (place o.keys key+if hit o.keys key then 1 else 0))
def fZ (key:List UInt8):List (List UInt8)->List Ob->List (List UInt8)×List Ob
|k::a,c::cs=>if k=key then fZ key a cs else (k::(fZ key a cs).1,c::(fZ key a cs).2)
|_,_=>([],[])
def bL (o:Ob)(key:List UInt8):Ob:=.mk o.k o.n o.g o.s (fZ key o.keys o.kids).1 (fZ key o.keys o.kids).2
def right (o:Ob):Ob×Int:=if check 1 o≠0 then (ob0,check 1 o) else (o,0)
def set (o:Ob)(key:List UInt8)(v:Ob):Ob×Int:=
 if keyed o=au then (ob0,10) else if check 1 o≠0 then (ob0,check 1 o) else if v.k=0 then (bL o key,0) else right (put o key v)
theorem DX {o:Ob}(h:check d o=0)(g:keyed o=av):NK o.keys∧o.keys.length=o.kids.length:=by
 rw[HO] at h;split at h
 ·rename_i hw;exact absurd h hw
 ·rename_i hw
  have hw:=aAA.1 hw;unfold why at hw;split at hw
  ·cases hw
  split at hw
  ·cases hw
  split at hw
  ·cases hw
  split at hw
  ·cases hw
  split at hw
  ·cases hw
  split at hw
  ·cases hw
  rename_i a
  have a:form o=true:=by simpa using a
  have e:o.k=7∨o.k=9:=by
   unfold keyed at g;simpa using g
  have b:rising o=true:=by
   unfold form at a;simp only[avM] at a;have:=a.2;rw[auR e] at this;simpa using this
  unfold rising at b;simp only[avM,awG] at b;refine⟨?_,b.1⟩;have step:∀i,i+1 < o.keys.length->less (o.keys.getD i []) (o.keys.getD (i+1) [])=true:=by
   intro i hi;have:=axI.1 b.2 (i+1) (axE.2 hi);unfold Bn at this;simp only[avM,axQ] at this;have:=this.1.1.2;rcases this with f|f
   ·have:=avG f;omega
   ·simpa using f
  have gd:∀i (h:i < o.keys.length),o.keys.getD i []=o.keys[i]:=λi h=>by rw[auZ,auX h];rfl
  refine azJ.2 λi j hi c m=>?_;have:∀d,∀j (c:j < o.keys.length),j=i+1+d->less o.keys[i] o.keys[j]=true:=by
   intro d
   induction d with
  |zero=>
    intro j c he;have:=step i om;rw[gd i hi,gd (i+1) om] at this;subst he;exact this
  |succ d n=>
    intro j c he;have p:=n (i+1+d) om rfl;have l:=step (i+1+d) om;rw[gd _ om,gd _ om] at l;subst he;exact rE p l
  exact this (j - (i+1)) j c om
theorem Ii {key:List UInt8}:∀{a:List (List UInt8)} {cs:List Ob},a.length=cs.length->key ∉ a->fZ key a cs=(a,cs)
|[],[],_,_=>rfl
|k::a,c::cs,b,d=>by
  rw[fZ,auO (λe=>d (by simp[e])),Ii (by simpa using b) (λh=>d (by simp[h]))]
|[],_::_,b,_=>by simp at b
|_::_,[],b,_=>by simp at b
theorem UX {key:List UInt8}:∀{a:List (List UInt8)} {cs:List Ob} {i:Nat},a.length=cs.length->a[i]?=ax key->(∀m (h:m < a.length),m≠i->a[m]≠key)->fZ key a cs=(a.take i++a.drop (i+1),cs.take i++cs.drop (i+1))
|[],[],_,_,h,_=>by simp at h
|k::a,c::cs,0,b,h,d=>by
  simp only[azT,azB] at h;rw[fZ,auP h,Ii (by simpa using b)]
  ·simp
  ·intro hm;obtain⟨m,e,rfl⟩:=axT hm;exact d (m+1) (by simpa using e) om sm
|k::a,c::cs,i+1,b,h,d=>by
  have f:=d 0 sm om;rw[aAO] at f;rw[fZ,auO f,UX (i:=i) (by simpa using b) (by simpa using h) (λm hm g=>by
   have:=d (m+1) (by simpa using hm) om
   rwa [aAP] at this)]
  simp
|[],_::_,_,b,_,_=>by simp at b
|_::_,[],_,b,_,_=>by simp at b
theorem aiM {l:List (List UInt8)}(h:NK l)(hi:i < l.length)(b:j < l.length)(c:i≠j):l[i]≠l[j]:=by
 intro e;rcases awO i j with a|a
 ·have:=uF h a b;rw[e,FN] at this;cases this
 ·have:=uF h (show j < i by omega) hi;rw[e,FN] at this;cases this
theorem ahQ {l:List (List UInt8)}(h:NK l){x:List UInt8}(b:hit l x=au):x ∉ l:=by
 intro hm;obtain⟨m,a,rfl⟩:=axT hm;have hp:place l l[m]=m:=Ts om (λj d c=>uF h c a) (λ_=>FN _);unfold hit at b;rw[hp,auX a] at b;simp at b
theorem Wk {o:Ob}(h:check d o=0)(i:keyed o=av)(key:List UInt8):bL o key=if hit o.keys key then .mk o.k o.n o.g o.s (o.keys.take (place o.keys key)++o.keys.drop (place o.keys key+1)) (o.kids.take (place o.keys key)++o.kids.drop (place o.keys key+1)) else o:=by
 obtain⟨c,e⟩:=DX h i;cases f:hit o.keys key with
|true=>
  have hi:o.keys[place o.keys key]?=ax key:=avG f;have a:place o.keys key < o.keys.length:=(avL.1 hi).1;have j:o.keys[place o.keys key]=key:=(avL.1 hi).2;unfold bL;rw[UX e hi (λm hm b=>by rw[<-j];exact aiM c hm a b)];rfl
|false=>
  unfold bL;rw[Ii e (ahQ c f)];cases o;rfl
end Vl
end
section
open Eng
def eS(t0 t1 t7 t8 w)(a:JT)(K:KT):=nz f72 21 [a] [nh 5 [8]] [] (zg [0,1,7,8] [t0,t1,t7,t8]) w K
def fW(t0 t1 w)(K:KT):=nz f72 1 [] [(5,[8],λs v j w f=>eS (s 0) (s 1) (s 7) (vg v 0) w (f 0) K)] [] (zg [0,1] [t0,t1]) w K
theorem nA{t0 t1 w K}:fW t0 t1 w K->Calls ah 72 #[t0,t1] w K:=cz [] [(2,[8])] func72
end
section
open Eng Go.RowKit
theorem aaV:dP ah 9=true:=krx
theorem aeD {l:List (List UInt8)}{x:List UInt8}(h:i < l.length)(a:x ∉ l.take i)(he:l[i]=x):l.idxOf x=i:=by
 have e:l=l.take i++(l[i]::l.drop (i+1)):=by
  rw[<-avW h,azL]
 rw[e,List.idxOf_append,auO a,he,List.idxOf_cons_self,avA];omega
theorem Vz (va:aq)(l:List (List UInt8))(x:List UInt8)(w:ao)(c:Sl w va 1 l.length (bT l))(f:l.length<=1099511627776) :
  Ret ah 72 #[va,.string ⟨x.toArray⟩] w (λv w'=>v=.int .i64 (if l.idxOf x < l.length then (l.idxOf x:Int) else -1)∧w=w'):=by
 refine aL λK d=>nA ?_;unfold fW nz;rw[aS avH c];refine loop (λvs w'=>∃(i:Nat),vs=[.int .i64 i]∧i<=l.length∧x ∉ l.take i∧w=w') (λvs _=>l.length - n0 vs) ⟨0,rfl,om,sm,rfl⟩ ?_;rintro vs w2 ⟨i,rfl,hi,hm,rfl⟩ _;simp only[eS,gd,rs,nz];by_cases b:(i:Int) < (l.length:Int)
 ·have a:i < l.length:=om
  simp only[b,auS,rs];refine Lt (.string ⟨(l[i]).toArray⟩) avH krx c om (by rw[auW];exact eO a) λq e=>?_;rw[aH aaV e];simp only[rs];by_cases he:x=l[i]
  ·simp only[<-he,auS,rs];have:=aeD a hm he.symm;exact d _ _ ⟨by rw[this,auP a],rfl⟩
  ·simp only[he,auT,rs];rw[aA om om];refine aU ⟨i+1,rfl,om,?_,rfl⟩ (by simp[n0,RowKit.intOf];omega);rw[aAQ,auX a];simp only[Option.toList,avZ,avV,not_or];exact⟨hm,he⟩
 ·simp only[b,auT,i_f];rw[avX om] at hm;exact d _ _ ⟨by rw[auO (by rw[aBe];exact hm)],rfl⟩
def obC (o:Ob)(vk vc:aq):List Value:=[.int .i64 o.k,.int .i64 o.n,.int .i64 o.g,.string ⟨o.s.toArray⟩,vk,vc]
def obV (o:Ob)(vk vc:aq):Value:=.agg (obC o vk vc).toArray
def obE (b:Nat)(o:Ob)(vk vc:aq):Ent:=.cells b (obC o vk vc) 25
structure zz (A:Nat->Prop) (w:ao) (o:Ob) (vk vc:aq) (cs:List aq):Prop where
 keys:SlA A w vk 1 o.keys.length (bT o.keys)
 kids:SlA A w vc 6 o.kids.length cs
 all:OVs A w cs o.kids
theorem OV.open {o:Ob}(h:OV A w v o):∃vk vc cs,v=obV o vk vc∧zz A w o vk vc cs:=by
 cases o with
|mk k n g s keys kids=>
  rw[OV] at h;obtain⟨vk,vc,cs,rfl,a,b,c⟩:=h;exact⟨vk,vc,cs,rfl,a,b,c⟩
theorem zz.ov {o:Ob}(h:zz A w o vk vc cs):OV A w (obV o vk vc) o:=by
 cases o with
|mk k n g s keys kids=>
  rw[OV];exact⟨vk,vc,cs,rfl,h.keys,h.kids,h.all⟩
theorem zz.kept {A:Nat->Prop}{w w':ao}{o:Ob}{vk vc:aq}{cs:List aq}(h:zz A w o vk vc cs)(a:Kept A w w'):zz A w' o vk vc cs:=
 ⟨h.keys.kept a,h.kids.kept a,OVs.kept a _ _ h.all⟩
theorem VO (a:∀b,A b->b < w.heap.size)(h:Below w.heap.size w w'):Kept A w w':=λb c=>h.block b (a b c)
theorem dQ.keptIn (h:Own w0 w L):Kept (InW w0) w0 w:=VO (λ_ h=>h) h.done
theorem OV.own {o:Ob}(h:OV (InW w0) w0 v o)(a:Own w0 w L):OV (InW w0) w v o:=OV.kept (dQ.keptIn a) o v h
theorem OV.at_ {o:Ob}(h:OV (InW w0) w0 v o)(a:Own w0 w L):OV (InW w) w v o:=OV.mono (λ_ b=>axL b a.size) o v (h.own a)
theorem zz.own {o:Ob}(h:zz (InW w0) w0 o vk vc cs)(a:Own w0 w L):zz (InW w0) w o vk vc cs:=h.kept (dQ.keptIn a)
theorem SlA.one {n:Nat}(h:SlA A w v sz n cs):v.oneCell'=true:=by
 obtain⟨⟨_,a,cap,rfl,_⟩,_⟩:=h;rfl
theorem mQ:By ah 25=ax 6:=krx
theorem Me:(Tryz.prog.info? 25).map (·.size)=ax 6:=krx
theorem asY:dP ah 23=true:=krx
theorem VE:dP ah 22=true:=krx
theorem nI65:dP ah 2=true:=krx
theorem aW:dP ah 3=true:=krx
theorem BZ:dP ah 9=true:=krx
theorem aoD:uM ah 25 0=ax 0:=krx
theorem asH:uM ah 25 1=ax 1:=krx
theorem arL:uM ah 25 2=ax 2:=krx
theorem agY:uM ah 25 3=ax 3:=krx
theorem atF:uM ah 25 4=ax 4:=krx
theorem arD:uM ah 25 5=ax 5:=krx
section
variable {w:ao}{PK:PKT}{K:VWP}{S:Nat->Prop}{w0:ao}{L:List Ent}
theorem cO {off:Nat}:DoX ah (mFA 25 (.pointer (ax ⟨b,off,aw⟩)) 0) w PK K=K (.pointer (ax ⟨b,off,aw⟩)) w:=aQ aoD
theorem oA {off:Nat}:DoX ah (mFA 25 (.pointer (ax ⟨b,off,aw⟩)) 1) w PK K=K (.pointer (ax ⟨b,off+1,aw⟩)) w:=aQ asH
theorem Yv {off:Nat}:DoX ah (mFA 25 (.pointer (ax ⟨b,off,aw⟩)) 2) w PK K=K (.pointer (ax ⟨b,off+2,aw⟩)) w:=aQ arL
theorem yK {off:Nat}:DoX ah (mFA 25 (.pointer (ax ⟨b,off,aw⟩)) 3) w PK K=K (.pointer (ax ⟨b,off+3,aw⟩)) w:=aQ agY
theorem qZ {off:Nat}:DoX ah (mFA 25 (.pointer (ax ⟨b,off,aw⟩)) 4) w PK K=K (.pointer (ax ⟨b,off+4,aw⟩)) w:=aQ atF
theorem eW {off:Nat}:DoX ah (mFA 25 (.pointer (ax ⟨b,off,aw⟩)) 5) w PK K=K (.pointer (ax ⟨b,off+5,aw⟩)) w:=aQ arD
theorem dD (o:Ob)(a:vk.oneCell'=av)(c:vc.oneCell'=av)(d:dQ S w0 w L)(k:∀b w',dQ S w0 w' (obE b o vk vc::L)->K (.pointer (ax ⟨b,0,aw⟩)) w'):DoX ah (AS 25 (obV o vk vc)) w PK K:=by
 cases vk<;>first|(cases a;done)|skip
 all_goals cases vc<;>first|(cases c;done)|exact bB (λb=>.pointer (ax ⟨b,0,aw⟩)) (obC o _ _) 25 (λ_=>by kernel_rfl) d k
def ob0:Ob:=.mk 0 0 0 [] [] []
theorem dF (a:dQ S w0 w L)(k:∀b w',dQ S w0 w' (obE b ob0 (.slice aw 0 0) (.slice aw 0 0)::L)->K (.pointer (ax ⟨b,0,aw⟩)) w'):DoX ah (iM 25) w PK K:=
 bB (λb=>.pointer (ax ⟨b,0,aw⟩)) (obC ob0 (.slice aw 0 0) (.slice aw 0 0)) 25 (λ_=>by kernel_rfl) a k
theorem mT (o:Ob)(b:vk.oneCell'=av)(c:vc.oneCell'=av):∀v∈obC o vk vc,v.oneCell'=true:=by
 intro v a;simp only[obC,avB,awS,or_false] at a;rcases a with rfl|rfl|rfl|rfl|rfl|rfl<;>first|rfl|assumption
theorem bK (i:Nat){o o':Ob}{vk' vc':aq}(a:vk'.oneCell'=av)(c:vc'.oneCell'=av)(d:dQ S w0 w L)(hi:L[i]?=ax (obE b o vk vc))(k:∀w',dQ S w0 w' (L.set i (obE b o' vk' vc'))->K undef w') :
  DoX ah (aV 25 (.pointer (ax ⟨b,0,aw⟩)) (obV o' vk' vc')) w PK K:=gF i d hi (new:=obC o' vk' vc') Me (mT o' a c) rfl k
theorem zn (a:dQ S w0 w L)(i:Nat){o:Ob}(hi:L[i]?=ax (obE b o vk vc)):DoX ah (aG 3 (.pointer (ax ⟨b,0,aw⟩))) w PK K=K (.int .i64 o.k) w:=aH aW (a.cell i hi 0 rfl)
theorem Dr (a:dQ S w0 w L)(i:Nat){o:Ob}(hi:L[i]?=ax (obE b o vk vc)):DoX ah (aG 2 (.pointer (ax ⟨b,0+1,aw⟩))) w PK K=K (.int .i64 o.n) w:=aH nI65 (a.cell i hi 1 rfl)
theorem ob_g (a:dQ S w0 w L)(i:Nat){o:Ob}(hi:L[i]?=ax (obE b o vk vc)):DoX ah (aG 3 (.pointer (ax ⟨b,0+2,aw⟩))) w PK K=K (.int .i64 o.g) w:=aH aW (a.cell i hi 2 rfl)
theorem I0 (a:dQ S w0 w L)(i:Nat){o:Ob}(hi:L[i]?=ax (obE b o vk vc)):DoX ah (aG 9 (.pointer (ax ⟨b,0+3,aw⟩))) w PK K=K (.string ⟨o.s.toArray⟩) w:=aH BZ (a.cell i hi 3 rfl)
theorem eP (a:dQ S w0 w L)(i:Nat){o:Ob}(hi:L[i]?=ax (obE b o vk vc)):DoX ah (aG 22 (.pointer (ax ⟨b,0+4,aw⟩))) w PK K=K vk w:=aH VE (a.cell i hi 4 rfl)
theorem bW (a:dQ S w0 w L)(i:Nat){o:Ob}(hi:L[i]?=ax (obE b o vk vc)):DoX ah (aG 23 (.pointer (ax ⟨b,0+5,aw⟩))) w PK K=K vc w:=aH asY (a.cell i hi 5 rfl)
theorem oV (a:dQ S w0 w L)(i:Nat){o:Ob}(hi:L[i]?=ax (obE b o vk vc)):DoX ah (aG 25 (.pointer (ax ⟨b,0,aw⟩))) w PK K=K (obV o vk vc) w:=AT (a.agg i hi mQ)
theorem ahX {os:List Ob}(f:Sl w vc 6 os.length cs)(c:OVs A w cs os)(hi:i < os.length)
  (k:∀v,OV A w v os[i]->K v w):DoX ah (mIA 23 vc (.int .i64 (i:Int))) w PK λt w=>DoX ah (aG 25 t) w PK2 K:=by
 obtain⟨b,off,cap,rfl,g⟩:=bQ f om;refine aC (cR avI Me om om) |>.mpr ?_;rw[auW];obtain⟨a,h,e,d⟩:=OVs.get os cs i hi c;refine aC (bC (v:=.agg a.toArray) (AtV.agg mQ h λj v l=>?_)) |>.mpr (k _ e);rw[axK];exact g _ _ (d j v l)
end
end
section
open Eng
def nV(t3 t27 t28 t29 w)(a:JT)(K:KT):=nz f10 87 [a] [nh 17 [3,29]] [] (zg [3,27,28,29] [t3,t27,t28,t29]) w K
def oQ(t1 t3 t14 t15 t16 w)(a:JT)(K:KT):=nz f10 43 [a] [nh 7 [3,16],(17,[3,29],λs v j w f=>nV (vg v 0) (s 27) (s 28) (vg v 1) w (f 0) K)] [] (zg [1,3,14,15,16] [t1,t3,t14,t15,t16]) w K
def rI(t0 w)(K:KT):=nz f10 1 [] [(7,[3,16],λs v j w f=>oQ (s 1) (vg v 0) (s 14) (s 15) (vg v 1) w (f 0) K)] [] (zg [0] [t0]) w K
theorem Bp{t0 w K}:rI t0 w K->Calls ah 10 #[t0] w K:=cz [] [(3,[3,16]),(8,[3,29])] func10
def gG(t1 t4 t15 w)(K:KT):=nz f121 509 [] [] [] (zg [1,4,15] [t1,t4,t15]) w K
def gE(t1 t4 t9 w)(K:KT):=nz f121 125 [] [(20,[15],λs v j w f=>gG (s 1) (s 4) (vg v 0) w K)] [] (zg [1,4,9] [t1,t4,t9]) w K
def sH(t0 w)(K:KT):=nz f121 1 [] [(14,[9],λs v j w f=>gE (s 1) (s 4) (vg v 0) w K)] [] (zg [0] [t0]) w K
theorem BM{t0 w K}:sH t0 w K->Calls ah 121 #[t0] w K:=cz [(7,[9]),(10,[15])] [] func121
def rT(t0 w)(K:KT):=nz f122 1 [] [] [] (zg [0] [t0]) w K
theorem BG{t0 w K}:rT t0 w K->Calls ah 122 #[t0] w K:=cw func122
def tE(t0 w)(K:KT):=nz f123 1 [] [] [] (zg [0] [t0]) w K
theorem BJ{t0 w K}:tE t0 w K->Calls ah 123 #[t0] w K:=cw func123
def rQ(t0 t1 t2 t3 t4 w)(K:KT):=nz f169 1 [] [] [] (zg [0,1,2,3,4] [t0,t1,t2,t3,t4]) w K
theorem Bh{t0 t1 t2 t3 t4 w K}:rQ t0 t1 t2 t3 t4 w K->Calls ah 169 #[t0,t1,t2,t3,t4] w K:=cw func169
def oT(t0 t3 w)(a:JT)(K:KT):=nz f170 21 [a] [nh 5 [3]] [] (zg [0,3] [t0,t3]) w K
def rZ(t0 w)(K:KT):=nz f170 1 [] [(5,[3],λs v j w f=>oT (s 0) (vg v 0) w (f 0) K)] [] (zg [0] [t0]) w K
theorem Bq{t0 w K}:rZ t0 w K->Calls ah 170 #[t0] w K:=cz [] [(2,[3])] func170
def oY(t1 t27 t28 t29 w)(a:JT)(K:KT):=nz f124 175 [a] [nh 17 [29]] [] (zg [1,27,28,29] [t1,t27,t28,t29]) w K
def sC(t0 w)(K:KT):=nz f124 1 [] [(17,[29],λs v j w f=>oY (s 1) (s 27) (s 28) (vg v 0) w (f 0) K)] [] (zg [0] [t0]) w K
theorem BO{t0 w K}:sC t0 w K->Calls ah 124 #[t0] w K:=cz [] [(8,[29])] func124
def mG(t1 t40 t41 t42 w)(a:JT)(K:KT):=nz f82 1407 [a] [nh 29 [42]] [] (zg [1,40,41,42] [t1,t40,t41,t42]) w K
def qV(t0 t1 w)(K:KT):=nz f82 1 [] [(29,[42],λs v j w f=>mG (s 1) (s 40) (s 41) (vg v 0) w (f 0) K)] [(7,7)] (zg [0,1] [t0,t1]) w K
theorem Ab{t0 t1 w K}:qV t0 t1 w K->Calls ah 82 #[t0,t1] w K:=cz [] [(14,[42])] func82
def qN(t0 w)(K:KT):=nz f49 1 [] [] [] (zg [0] [t0]) w K
theorem yY{t0 w K}:qN t0 w K->Calls ah 49 #[t0] w K:=cw func49
end
end Go.Proofs.YtkghomgfocpgeaaGreatDoor





namespace Go.Proofs.YtkghomgfocpgeaaGreatDoor
variable{A S:Nat->Prop}{B:Prop}{C:ao->Prop}{D E T1 U:TypeId}{K K':VWP}{L:List Eng.Ent}{L0:Loop}{P:Program}{PK PK2:PKT}{W w w' w0:ao}{a hi lo:Int}{args ca fa:Array aq}{b cap d f fuel i j m sz:Nat}{cb:Array Bool}{cs cur new news xs:List aq}{e:Eng.Ent}{k':IntKind}{q want y:Bool}{v v' v1 v2 vc vk:aq}{xo yo:Operand}{α β:Type}{σ:Eng.Sg}
section
open Eng Go.RowKit
theorem uT {x y:aq}(h:Ret P f args w (λv w'=>v=x∧Below w.heap.size w w'))(a:x=y)(b:Own w0 w L)
  (k:∀w',Own w0 w' L->K y w'):eN P f args w PK K:=by
 refine Dv h ?_;rintro v w' ⟨rfl,c⟩;rw[a];exact k _ (b.grow c)
end
section
namespace Eng
open Go.RowKit
def sel (c:Bool)(x:aq):Value:=bc c x undef
theorem arN {x:aq}:sel av x=x:=rfl
theorem arV {x:aq}:sel au x=undef:=rfl
section
variable {P:Program}{w:ao}{PK:PKT}{K:VWP}
theorem apN {v x:aq}{want:Bool}:GDo v want (λE=>E x w) w K=K (sel (jQ v want) x) w:=by
 refine propext ⟨λh=>?_,λh=>⟨?_⟩⟩
 ·have:=h.out;cases hw:jQ v want<;>rw[hw] at this<;>exact this
 ·cases hw:jQ v want<;>rw[hw] at h<;>exact h
theorem An {c:Bool}{E a:(VWP)->Prop}(e:v=v')(b:jQ v' want=c)(h:c=av->∀d,E d=a d):GDo v want E w K=GDo v' want a w K:=by
 subst e;refine propext ⟨λx=>⟨?_⟩,λx=>⟨?_⟩⟩
 ·have:=x.out;subst b;cases hw:jQ v want with
 |false=>rw[hw] at this;exact this
 |true=>rw[hw,aF] at this;rw[aF,<-h hw];exact this
 ·have:=x.out;subst b;cases hw:jQ v want with
 |false=>rw[hw] at this;exact this
 |true=>rw[hw,aF] at this;rw[aF,h hw];exact this
theorem akK {b:Bool}:jQ (.bool b) av=b:=by cases b<;>rfl
theorem ahN {b:Bool}:jQ (.bool b) au=!b:=by cases b<;>rfl
theorem acI {c y:Bool}:jQ (sel c (.bool y)) av=(c&&y):=by cases c<;>cases y<;>rfl
theorem abR {c y:Bool}:jQ (sel c (.bool y)) au=(c&&!y):=by cases c<;>cases y<;>rfl
theorem alB {b:Bool}:(av&&b)=b:=rfl
theorem anG {b:Bool}:(b&&av)=b:=by cases b<;>rfl
theorem abZ {b y:Bool}:DoX P (fK (.bool b) (sel b (.bool y)) (.bool au)) w PK K=K (.bool (b&&y)) w:=by
 rw[NX];cases b<;>rfl
theorem aiB {b y:Bool}:DoX P (fK (.bool b) (.bool av) (sel (!b) (.bool y))) w PK K=K (.bool (b||y)) w:=by
 rw[NX];cases b<;>rfl
end
def gs:=And.intro @apN (And.intro @akK (And.intro @ahN (And.intro @abZ (And.intro @aiB (And.intro @arN (And.intro @arV (And.intro @acI (And.intro @abR (And.intro @alB @anG)))))))))
end Eng
end
section
open Eng Go.RowKit
 attribute [local congr] An
theorem aeZ {T:TypeId}{n:Nat}:DoX ah (mEq .eql T xo yo (ad (n:Int)) (ad 0)) w PK K=K (.bool (ai (n=0))) w:=by
 rw[amK];congr 2;simp
theorem Vd {T:TypeId}{s:List UInt8}:DoX ah (mEq .eql T xo yo (ae s) (.string ⟨#[]⟩)) w PK K=K (.bool (ai (s=[]))) w:=M8 (b:=[])
theorem aiU (l:List α):ai (((l.length:Nat):Int)=0)=ai (l=[]):=by cases l<;>simp;omega
theorem amB (l:List α):ai (((l.length:Nat):Int)=0)=ai (l.length=0):=by rw[decide_eq_decide];omega
theorem YT (o:Ob)(vk vc:aq)(cs:List aq)(n g s l:Bool)(w:ao)(h:zz (InW w) w o vk vc cs):Ret ah 169 #[obV o vk vc,.bool n,.bool g,.bool s,.bool l] w
  (λv w'=>v=.bool ((n||decide (o.n=0))&&(g||decide (o.g=0))&&(s||decide (o.s=[]))&&(l||(ai (o.keys=[])&&ai (o.kids.length=0))))∧Below w.heap.size w w'):=by
 refine aL λK e=>Bh ?_;unfold rQ nz;refine dD o h.keys.one h.kids.one (Own.start w) λb c a=>?_;have d:=h.own a;have f:∀{PK:PKT} {K:VWP},DoX ah (mB .len #[22] 3 #[au] #[vk]) c PK K=K (ad (o.keys.length:Int)) c:=aS avH d.keys.1;have lc:∀{PK:PKT} {K:VWP},DoX ah (mB .len #[23] 3 #[au] #[vc]) c PK K=K (ad (o.kids.length:Int)) c:=aS avI d.kids.1;simp +contextual only[rs,gs,oA,Yv,yK,qZ,eW,Dr a 0 rfl,ob_g a 0 rfl,I0 a 0 rfl,eP a 0 rfl,bW a 0 rfl,f,lc,aeZ,Vd];refine e _ _ ⟨?_,a.done⟩;rw[aiU o.keys,amB o.kids]
theorem U3 (s:List UInt8)(w:ao)(k:s.length<=9223372036854775807):Ret ah 170 #[ae s] w (λv w'=>v=.bool (Vl.name s)∧w=w'):=by
 refine aL λK g=>Bq ?_;unfold rZ nz;refine loop (λvs w'=>∃(i:Nat),vs=[ad i]∧i<=s.length∧(0:UInt8) ∉ s.take i∧w=w') (λvs _=>s.length - n0 vs) ⟨0,rfl,om,sm,rfl⟩ ?_;rintro vs w2 ⟨i,rfl,hi,hm,rfl⟩ _;simp only[oT,gd,dE auV,rs,nz];by_cases b:(i:Int) < (s.length:Int)
 ·have a:i < s.length:=om
  have j:∀{PK:PKT} {K:VWP},DoX ah (mIx 9 (ae s) (ad (i:Int))) w PK K=K (.int .u8 (s[i].toNat:Int)) w:=H4 (c:=s[i]) auV (Int.natCast_nonneg i) (by simp[a]);simp only[b,auS,rs,j];by_cases d:s[i]=0
  ·have e:(s[i].toNat:Int)=0:=by rw[d];rfl
   simp only[e,auS,i_t];have f:(0:UInt8)∈s:=d▸avD a;exact g _ _ ⟨by simp[Vl.name,f],rfl⟩
  ·have e:¬(s[i].toNat:Int)=0:=λh=>d (aAh.1 (by have:(0:UInt8).toNat=0:=rfl;omega));simp only[e,auT,i_f];rw[aA om om];refine aU ⟨i+1,rfl,om,?_,rfl⟩ (by simp[n0,RowKit.intOf];omega);rw[aAQ,auX a];simp only[Option.toList,avZ,avV,not_or];exact⟨hm,λe=>d e.symm⟩
 ·rw[avX om] at hm;simp only[b,auT,i_f];refine g _ _ ⟨?_,rfl⟩;rw[Vl.name,auR hm,aAR]
  congr 1
  rw[decide_eq_decide];omega
theorem Tb (o:Ob)(v:aq)(w:ao)(h:OV (InW w) w v o):Ret ah 121 #[v] w (λv w'=>v=.bool (Vl.fF o)∧Below w.heap.size w w'):=by
 obtain⟨vk,vc,cs,rfl,r⟩:=h.open;refine aL λK i=>BM ?_;unfold sH nz;refine dD o r.keys.one r.kids.one (Own.start w) λb q a=>?_;have j:=r.own a;have C:zz (InW q) q o vk vc cs:=⟨⟨j.keys.1,(λp l c e D=>axL (j.keys.2.1 p l c e D) a.size),j.keys.2.2⟩,⟨j.kids.1,(λp l c e D=>axL (j.kids.2.1 p l c e D) a.size),j.kids.2.2⟩,OVs.mono (λ_ H=>axL H a.size) _ _ j.all⟩;have zero:∀(n g s l:Bool) {K':VWP},(∀w',Own w w' [obE b o vk vc]->K' (.bool ((n||decide (o.n=0))&&(g||decide (o.g=0))&&(s||decide (o.s=[]))&&(l||(ai (o.keys=[])&&ai (o.kids.length=0))))) w') ->
   eN ah 169 #[obV o vk vc,.bool n,.bool g,.bool s,.bool l] q (pk K) K':=λn g s l {K'} E=>uT (YT o vk vc cs n g s l q C) rfl a E
 rw[cO,zn a 0 rfl];simp only[rs,oV a 0 rfl];by_cases k0:o.k=0
 ·simp only[k0,auS,i_t];refine zero _ _ _ _ λw2 a=>i _ _ ⟨?_,a.done⟩;simp[Vl.fF,Vl.used,k0,azC]
 simp only[k0,auT,i_f];refine join λJ m=>?_;by_cases d:o.k=1∨o.k=2∨o.k=3
 ·have:J [.bool av] q:=by
   refine m _ _ λ_=>?_;simp only[gE,gd,i_t,oV a 0 rfl,nz];refine zero _ _ _ _ λw2 a=>i _ _ ⟨?_,a.done⟩;simp[Vl.fF,Vl.used,k0,d,azC]
  by_cases t:o.k=1
  ·simp only[t,auS,i_t];exact this
  by_cases u:o.k=2
  ·simp only[u,Int.reduceEq,auS,auT,i_t,i_f];exact this
  have x:o.k=3:=om
  simp only[x,Int.reduceEq,auS,auT,i_t,i_f];exact this
 have t:¬o.k=1:=λh=>d (.inl h);have u:¬o.k=2:=λh=>d (.inr (.inl h));have x:¬o.k=3:=λh=>d (.inr (.inr h));simp only[t,u,x,auT,i_f];refine m _ _ λ_=>?_;clear m;simp only[gE,gd,i_f,rs,nz];refine join λJ m=>?_;by_cases f:o.k=4∨o.k=5
 ·have:J [.bool av] q:=by
   refine m _ _ λ_=>?_;simp only[gG,gd,i_t,oV a 0 rfl,nz];refine zero _ _ _ _ λw2 a=>i _ _ ⟨?_,a.done⟩;simp[Vl.fF,Vl.used,k0,t,u,x,f,azC]
  by_cases F:o.k=4
  ·simp only[F,auS,i_t];exact this
  have G:o.k=5:=om
  simp only[G,Int.reduceEq,auS,auT,i_t,i_f];exact this
 have F:¬o.k=4:=λh=>f (.inl h);have G:¬o.k=5:=λh=>f (.inr h);simp only[F,G,auT,i_f];refine m _ _ λ_=>?_;clear m;simp only[gG,gd,i_f,rs,oV a 0 rfl,nz];by_cases y:o.k=6
 ·simp only[y,auS,i_t];refine zero _ _ _ _ λw2 a=>?_;have I:∀{PK:PKT} {K:VWP},DoX ah (mB .len #[22] 3 #[au] #[vk]) w2 PK K=K (ad (o.keys.length:Int)) w2:=aS avH (r.own a).keys.1;simp +contextual only[rs,gs,qZ,eP a 0 rfl,I,aeZ];refine i _ _ ⟨?_,a.done⟩;rw[aiU o.keys];simp[Vl.fF,Vl.used,y,azC]
 by_cases z:o.k=7
 ·simp only[z,Int.reduceEq,auS,auT,i_t,i_f];refine zero _ _ _ _ λw2 a=>i _ _ ⟨?_,a.done⟩;simp[Vl.fF,Vl.used,z,azC]
 by_cases A:o.k=8
 ·simp only[A,Int.reduceEq,auS,auT,i_t,i_f];refine zero _ _ _ _ λw2 a=>i _ _ ⟨?_,a.done⟩;simp[Vl.fF,Vl.used,A,azC]
 by_cases B:o.k=9
 ·simp only[B,Int.reduceEq,auS,auT,i_t,i_f];refine zero _ _ _ _ λw2 a=>i _ _ ⟨?_,a.done⟩;simp[Vl.fF,Vl.used,B,azC]
 simp only[y,z,A,B,auT,i_f];refine i _ _ ⟨?_,a.done⟩;simp[Vl.fF,Vl.used,k0,d,f,y,z,A,B]
theorem Yh (o:Ob)(v:aq)(w:ao)(h:OV (InW w) w v o):Ret ah 122 #[v] w (λv w'=>v=.bool (Vl.fits o)∧Below w.heap.size w w'):=by
 obtain⟨vk,vc,cs,rfl,i⟩:=h.open;refine aL λK e=>BG ?_;unfold rT nz;refine dD o i.keys.one i.kids.one (Own.start w) λb j a=>?_;simp only[cO,zn a 0 rfl,rs];by_cases c:o.k=1
 ·simp +contextual only[c,auS,i_t,oA,Dr a 0 rfl,rs,gs,auS,auT,nn_t,nn_f];refine e _ _ ⟨?_,a.done⟩;rw[Vl.fits,auP c];congr 1;rw[aAB];simp;omega
 by_cases d:o.k=2
 ·simp +contextual only[d,Int.reduceEq,auS,auT,i_t,i_f,oA,Dr a 0 rfl,rs,gs,auS,auT,nn_t,nn_f];refine e _ _ ⟨?_,a.done⟩;rw[Vl.fits,auO c,auP d,azD]
 by_cases f:o.k=3
 ·simp +contextual only[f,Int.reduceEq,auS,auT,i_t,i_f,oA,Dr a 0 rfl,rs,gs,auS,auT,nn_t,nn_f];refine e _ _ ⟨?_,a.done⟩;rw[Vl.fits,auO c,auO d,auP f,azD]
 by_cases g:o.k=8
 ·simp +contextual only[g,Int.reduceEq,auS,auT,i_t,i_f,oA,Yv,Dr a 0 rfl,ob_g a 0 rfl,rs,gs,auS,auT,nn_t,nn_f];refine e _ _ ⟨?_,a.done⟩;rw[Vl.fits,auO c,auO d,auO f,auP g,azD,azD,azC,azC]
 simp only[c,d,f,g,auT,i_f];refine e _ _ ⟨?_,a.done⟩;rw[Vl.fits,auO c,auO d,auO f,auO g]
theorem V8 (k:Int)(w:ao):Ret ah 123 #[ad k] w (λv w'=>v=ad (Vl.long k:Nat)∧w=w'):=by
 refine aL λK c=>BJ ?_;unfold tE nz;simp only[rs];by_cases a:k=5
 ·simp only[a,auS,i_t];exact c _ _ ⟨by rw[a];rfl,rfl⟩
 by_cases b:k=9
 ·simp only[b,Int.reduceEq,auS,auT,i_t,i_f];exact c _ _ ⟨by rw[b];rfl,rfl⟩
 simp only[a,b,auT,i_f];exact c _ _ ⟨by rw[Vl.long,auO a,auO b];rfl,rfl⟩
end
section
namespace Eng
open Go.RowKit
theorem LW {c:Bool}{x:aq}:sel c (sel c x)=sel c x:=by cases c<;>rfl
theorem Zm {E:(VWP)->Prop}(h:jQ v want=au):GDo v want E w K=K undef w:=by
 refine propext ⟨λx=>?_,λx=>⟨?_⟩⟩
 ·have:=x.out;rw[h] at this;exact this
 ·rw[h];exact x
theorem Xv:∀a b:List UInt8,(Op.bytesLess a b||a==b)=!(Op.bytesLess b a):=by
 intro a b;rw[bytesLess_eq,bytesLess_eq,aAB];simp only[axQ,awG,beq_iff_eq,aAr,awP];constructor
 ·rintro (h|rfl)
  ·exactλd=>List.lt_asymm h d
  ·exact List.lt_irrefl _
 ·intro h;by_cases c:a < b
  ·exact .inl c
  ·exact .inr (List.le_antisymm (List.not_lt.1 h) (List.not_lt.1 c))
theorem GD {b:Bool}:DoX P (fK (.bool (!b)) (.bool av) (sel b (.bool y))) w PK K=K (.bool (!b||y)) w:=by
 rw[NX];cases b<;>rfl
theorem alV {r:Bool}{A:Prop}(h:q=r)(k:IfX (.bool r) A B):IfX (.bool q) A B:=by subst h;exact k
end Eng
end
section
open Eng Go.RowKit
 attribute [local congr] An
theorem zz.in_ {o:Ob}(h:zz (InW w0) w0 o vk vc cs)(b:Own w0 w L):zz (InW w) w o vk vc cs:=by
 have a:=h.own b;exact⟨⟨a.keys.1,(λp l c e d=>axL (a.keys.2.1 p l c e d) b.size),a.keys.2.2⟩,⟨a.kids.1,(λp l c e d=>axL (a.kids.2.1 p l c e d) b.size),a.kids.2.2⟩,OVs.mono (λ_ f=>axL f b.size) _ _ a.all⟩
theorem nF {p:Nat->Bool}(n:Nat):(List.range (n+1)).all p=((List.range n).all p&&p n):=by
 rw[azM,List.all_append];simp
theorem Gc {p:Nat->Bool}{n:Nat}(hp:p n=au)(a:n < m):(List.range m).all p=false:=by
 rw[<-Bool.not_eq_true];intro h;have:=axI.1 h n (axE.2 a);rw[hp] at this;cases this
theorem QJ {os:List Ob}(h:Sl w vc 6 os.length cs)(c:OVs A w cs os)(hi:i < os.length) :
  ∃b off,(∀{PK:PKT} {K:VWP},DoX ah (mIA 23 vc (ad (i:Int))) w PK K=K (af b off) w)∧w.cell? ⟨b,off,aw⟩=ax (ad os[i].k):=by
 obtain⟨b,off,cap,rfl,j⟩:=bQ h om;obtain⟨a,m,f,d⟩:=OVs.get os cs i hi c;refine⟨b,off+i*6,?_,?_⟩
 ·intro PK K;have:=cR (P:=ah) (T:=23) (b:=b) (off:=off) (cap:=cap) (n:=os.length) (k:=.i64) (i:=(i:Int)) (w:=w) avI Me om om;rw[auW] at this;exact aC this
 ·obtain⟨vk,vc',l,g,_⟩:=f.open;have e:a=obC os[i] vk vc':=by
   injection g with g
   have:=congrArg Array.toList g;simpa using this
  have:=j (i*6+0) _ (d 0 (ad os[i].k) (by rw[e];rfl));simpa using this
theorem Xm (o:Ob)(v:aq)(w:ao)(h:OV (InW w) w v o)(X:o.s.length<=9223372036854775807)(hb:o.keys.length<=9223372036854775807)(I:∀k∈o.keys,k.length<=9223372036854775807) :
  Ret ah 124 #[v] w (λv w'=>v=.bool (Vl.form o)∧Below w.heap.size w w'):=by
 obtain⟨vk,vc,cs,rfl,y⟩:=h.open;refine aL λK p=>BO ?_;unfold sC nz;refine dD o y.keys.one y.kids.one (Own.start w) λb Y f=>?_;simp only[cO,zn f 0 rfl,rs];by_cases u:o.k=5
 ·simp only[u,auS,i_t,yK,I0 f 0 rfl];refine zq (U3 o.s Y X) ?_;refine p _ _ ⟨?_,f.done⟩;simp[Vl.form,u]
 by_cases z:o.k=7∨o.k=9
 case neg=>
  have J:¬o.k=7:=λh=>z (.inl h);have M:¬o.k=9:=λh=>z (.inr h);simp only[u,J,M,ne_eq,axB,auS,auT,rs,zn f 0 rfl];refine p _ _ ⟨?_,f.done⟩;simp[Vl.form,u,z]
 have Z:∀{W:ao} {L:List Ent},Own w W L->∀{PK:PKT} {K:VWP},DoX ah (mB .len #[22] 3 #[au] #[vk]) W PK K=K (ad (o.keys.length:Int)) W:=λf=>aS avH (y.own f).keys.1;have lc:∀{W:ao} {L:List Ent},Own w W L->∀{PK:PKT} {K:VWP},DoX ah (mB .len #[23] 3 #[au] #[vc]) W PK K=K (ad (o.kids.length:Int)) W:=λf=>aS avI (y.own f).kids.1;have hf:Vl.form o=Vl.rising o:=by simp[Vl.form,u,z]
 rw[hf] at p;simp +contextual only[u,auT,i_f,rs,gs,zn f 0 rfl,qZ,eW,eP f 0 rfl,bW f 0 rfl,Z f,lc f];refine alV (r:=au) (by rcases z with h|h<;>simp[h]) ?_;rw[i_f];by_cases hlen:(o.keys.length:Int)≠(o.kids.length:Int)
 ·simp only[auR hlen,i_t];refine p _ _ ⟨?_,f.done⟩;have:¬o.keys.length=o.kids.length:=λe=>hlen (by rw[e]);simp[Vl.rising,this]
 have hle:o.keys.length=o.kids.length:=om
 simp only[auQ hlen,i_f];have hR:Vl.rising o=(List.range o.keys.length).all (Vl.Bn o):=by simp[Vl.rising,hle]
 rw[hR] at p;refine loop (λvs w'=>∃(i:Nat),vs=[ad i]∧i<=o.keys.length∧(List.range i).all (Vl.Bn o)=av∧Own w w' [obE b o vk vc]) (λvs _=>o.keys.length - n0 vs) ⟨0,rfl,om,sm,f⟩ ?_;rintro vs w2 ⟨i,rfl,hi,j,f⟩ _;simp only[oY,gd,rs,nz];by_cases A:(i:Int) < (o.keys.length:Int)
 ·have l:i < o.keys.length:=om
  simp only[A,auS,i_t];have m:=y.own f;refine Lt (ae (o.keys[i])) avH krx m.keys.1 om (by rw[auW];exact eO l) λq x=>?_;rw[aH BZ x];refine zq (U3 o.keys[i] w2 (I _ (avD l))) ?_;obtain⟨kb,B,C,O⟩:=QJ m.kids.1 m.all (show i < o.kids.length by omega);have D:∀{PK:PKT} {K:VWP},DoX ah (aG 3 (af kb B)) w2 PK K=K (ad o.kids[i].k) w2:=aH aW O;have t:ai (0 < (i:Int))=av->∃(E g:Nat),(∀{PK:PKT} {K:VWP},DoX ah (mIA 22 vk (ad (IntKind.wrap .i64 ((i:Int) - 1)))) w2 PK K=K (af E g) w2) ∧
    (∀{PK:PKT} {K:VWP},DoX ah (aG 9 (af E g)) w2 PK K=K (ae (o.keys.getD (i - 1) [])) w2):=by
   intro h;have h:=avG h;have U:i - 1 < o.keys.length:=om
   obtain⟨E,g,V,rfl,P⟩:=bQ m.keys.1 (show 0 < o.keys.length by omega);refine⟨E,g+(i - 1),?_,?_⟩
   ·intro PK K;rw[aA om om];refine aC ?_;rw[cR avH (show _=ax 1 by kernel_rfl) om om,show ((i:Int) - 1).toNat*1=i - 1 by omega]
   ·intro PK K;rw[auZ,auX U];exact aH BZ (P _ _ (eO U))
  have Q:o.keys.getD i []=o.keys[i]:=by rw[auZ,auX l];rfl
  have R:o.kids.getD i (.mk 0 0 0 [] [] [])=o.kids[i]'(om):=by rw[auZ,auX om];rfl
  have tail:∀(q:Bool) (N:Prop),q=!(Vl.Bn o i)->(Vl.Bn o i=av->N)->IfX (.bool q) (K (.returned (.bool au)) w2) N:=by
   intro q N x hN;cases n:Vl.Bn o i with
  |false=>
    rw[n] at x;subst x;rw[show (!au)=av from rfl,i_t];exact p _ _ ⟨by rw[Gc n l],f.done⟩
  |true=>
    rw[n] at x;subst x;rw[show (!av)=au from rfl,i_f];exact hN n
  have F:Vl.Bn o i=(Vl.name o.keys[i]&&(ai (i=0)||Vl.less (o.keys.getD (i - 1) []) o.keys[i])&&!(ai (o.k=9)&&ai (o.keys[i]=Vl.Ax))&&ai ((o.kids[i]'(om)).k≠0)):=by
   rw[Vl.Bn,Q,R]
  by_cases G:i=0
  ·have H:ai (0 < (i:Int))=false:=by rw[awP];omega
   simp +contextual only[rs,gs,H,LW,Zm,GD,aAk,aAC,azX,Xv,cO,eW,zn f 0 rfl,bW f 0 rfl,C,D,iO,p_f];refine tail _ _ ?_ λn=>?_
   ·rw[F,auR G];simp only[Bool.true_or,aAR,Vl.Ax,ne_eq,decide_not];generalize Vl.name o.keys[i]=a;generalize ai (o.k=9)=c;generalize ai ((o.kids[i]'(om)).k=0)=d;by_cases hL:o.keys[i]=[76,101,110,103,116,104]<;>simp only[hL,auS,auT]<;>cases a<;>cases c<;>cases d<;>rfl
   ·rw[aA om om];exact aU ⟨i+1,rfl,om,by rw[nF,j,n];rfl,f⟩ (by simp[n0,RowKit.intOf];omega)
  ·have H:ai (0 < (i:Int))=true:=by rw[decide_eq_true_iff];omega
   obtain⟨E,g,S,T⟩:=t H;simp +contextual only[rs,gs,H,LW,Zm,GD,aAk,aAC,azX,Xv,cO,qZ,eW,zn f 0 rfl,eP f 0 rfl,bW f 0 rfl,C,D,S,T,iO];refine tail _ _ ?_ λn=>?_
   ·rw[F,auQ G];simp only[aAe,Vl.Ax,ne_eq,decide_not];generalize Vl.name o.keys[i]=a;generalize ai (o.k=9)=c;generalize ai ((o.kids[i]'(om)).k=0)=d;show _=!(_&&Op.bytesLess (o.keys.getD (i - 1) []) o.keys[i]&&_&&_);generalize Op.bytesLess (o.keys.getD (i - 1) []) o.keys[i]=e;by_cases hL:o.keys[i]=[76,101,110,103,116,104]<;>simp only[hL,auS,auT]<;>cases a<;>cases c<;>cases d<;>cases e<;>rfl
   ·rw[aA om om];exact aU ⟨i+1,rfl,om,by rw[nF,j,n];rfl,f⟩ (by simp[n0,RowKit.intOf];omega)
 ·simp only[A,auT,i_f];refine p _ _ ⟨?_,f.done⟩;rw[show o.keys.length=i by omega,j]
end
end Go.Proofs.YtkghomgfocpgeaaGreatDoor
