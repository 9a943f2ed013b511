/- Texts that go together: EngD SBuild Shelf LibBld SPlain SFix SRef02 FixP FixR FixQ SStr LibCut FixT PlA PlB PlC LawKit2 EngT EngH EngI EngJ EngK EngU LawKit3 ObA ObB EngX EngY EngZ EngAH EngAD SSlc SlcA SMake Plain05 Plain05B SIdx OcIdx ObC SRef05 FixU FixV FixW FixX SLaw02 FixY EngG ObD EngW ObE ObF SVal. -/
import Derived.Test.YtlipjfcbjemicaaGreatDoorRows
import Derived.Shelf.Strings.Builder1
import Derived.Shelf.Strings.Builder2
import Derived.Shelf.Small.Strs
import Derived.Shelf.Small.Wraps
import Derived.Shelf.Strings.BuilderF
import Derived.Shelf.Strings.BuilderK
import Derived.Shelf.Strings.Builder2Cap
import Derived.Shelf.Strings.Search1
import Derived.Shelf.Strings.Prefix
import Derived.Shelf.Bits.Mul64
import Derived.Shelf.Strings.Repeat
import Derived.Shelf.Strings.BuilderCap
import Derived.Test.YtlipjfcbjemicaaGreatDoorProg
import Derived.Recover
import Derived.Shelf.Strings.SlTrimAscii
import Derived.Lib.Repeat
import Derived.SliceStrings
import Derived.Laws.StructEq
import Derived.Laws.CopyRow
import Derived.Lib.AppendZerosOnto
import Derived.Lib.SliceRun
import Derived.Lib.Overlaps
import Derived.Laws.Externs
import Derived.Sort.Walk0
import Derived.Laws.RangeAny
import Derived.Test.YtlipjfcbjemicaaGreatDoorMbfgapega
set_option linter.defProp false
set_option linter.unusedSimpArgs false
set_option linter.unusedVariables false
set_option maxRecDepth 20000
open Go.Proofs.Tryz
open Go.Proofs.Tryz renaming prog->ah
open Option renaming some->aw,none->av
open Bool renaming true->au,false->aq
open Go renaming Value->ao,World->ak
open Decidable renaming decide->ai
namespace Go.Proofs
abbrev aoD:=@underlying9
abbrev aoK:=@underlying53
abbrev aoP:=@underlying5
abbrev aoQ:=@underlying123
abbrev aoT:=@underlying22
abbrev aoW:=@underlying23
abbrev apH:=@underlying3
abbrev aqT:=@underlying341
abbrev arW:=@underlying84
abbrev asH:=@underlying20
abbrev atS:=@underlying40
abbrev auB:=@underlying147
abbrev auC:=@underlying186
abbrev auY:=@underlying153
abbrev avR:=@underlying269
abbrev avS:=@underlying304
abbrev avT:=@underlying289
abbrev awA:=@underlying239
abbrev awB:=@underlying261
abbrev awK:=@underlying373
end Go.Proofs
namespace Go.Proofs.YtlipjfcbjemicaaGreatDoor
variable{A S:Nat->Prop}{C:ak->Prop}{D U U2:TypeId}{K K':VWP}{L:List Eng.Ent}{L0:Loop}{P:Program}{PK PK2:PKT}{W w w' w0:ak}{a hi lo:Int}{args:Array ao}{b cap d f i j m sz t:Nat}{c t0 v v' v1 v2 vc vk:ao}{cb:Array Bool}{cs cur new news xs:List ao}{k':IntKind}{u:FrameMode}{want y:Bool}{xo yo:Operand}{α β:Type}{σ:Eng.Sg}
section
namespace Eng
open Go.RowKit
theorem cK (b off n:Nat):(⟨b,off,av⟩:Addr).add n=⟨b,off+n,av⟩:=by unfold Addr.add;split<;>simp_all
def fOff (P:Program)(T:TypeId)(f:Nat):Option Nat:=
 match P.underlying T with
|some (.struct fs)=>match fs[f]? with
 |some fd=>match P.info? fd.type with
  |some i=>match i.size with
   |0=>av
   |_+1=>aw fd.offset
  |none=>av
 |none=>av
|_=>av
def elB (P:Program)(E:TypeId)(sz bytes:Nat):Bool:=
 match P.info? E with
|some i=>Nat.beq i.size sz&&Nat.beq i.bytes bytes&&(match i.zero with|some z=>Nat.beq z.cells.size sz|none=>aq)
|none=>aq
theorem jC {E:TypeId}{bytes:Nat}(h:elB P E sz bytes=au):∃i z,P.info? E=aw i∧i.zero=aw z∧i.size=sz∧i.bytes=bytes∧z.cells.size=sz:=by
 unfold elB at h;split at h
 ·rename_i i hi
  simp only[aoY,Nat.beq_eq] at h;obtain⟨⟨h1,h2⟩,h3⟩:=h;split at h3
  ·rename_i z hz;exact⟨i,z,hi,hz,h1,h2,by simpa using h3⟩
  ·cases h3
 ·cases h
section
variable {S:Nat->Prop}{P:Program}{w:ak}{PK:PKT}{K:VWP}
theorem bH {T:TypeId}{off o:Nat}(h:fOff P T f=aw o):(mFA T (.pointer (aw ⟨b,off,av⟩)) f).run P w=.ok (.value (.pointer (aw ⟨b,off+o,av⟩))) w:=by
 unfold fOff at h;split at h
 ·rename_i fs hu
  split at h
  ·rename_i fd hfd
   split at h
   ·rename_i i hi
    cases hs:i.size with
   |zero=>rw[hs] at h;cases h
   |succ m=>
     rw[hs] at h;simp only[arV] at h;subst h;refine bK ?_;simp[Instr.fieldAt,run_underlying hu,hfd,Instr.sureAddr,fieldPlace,sizeOf,typeInfo,hi,hs,cK]
   ·cases h
  ·cases h
 ·cases h
theorem aP {T:TypeId}{off o:Nat}(h:fOff P T f=aw o):DoX P (mFA T (.pointer (aw ⟨b,off,av⟩)) f) w PK K=K (.pointer (aw ⟨b,off+o,av⟩)) w:=aC (bH h)
theorem cN {a:Addr}:(mNil (.pointer (aw a))).run P w=.ok (.value (.pointer (aw a))) w:=by simp[mNil,execOp]
def bAnd (k:IntKind)(x y:Int):Int:=k.wrap ((BitVec.ofInt k.bits x &&& BitVec.ofInt k.bits y).toNat:Int)
def bOr (k:IntKind)(x y:Int):Int:=k.wrap ((BitVec.ofInt k.bits x ||| BitVec.ofInt k.bits y).toNat:Int)
theorem WU {T:TypeId}{k:IntKind}{b:Int}:(mBin .and T (.int k a) (.int k b)).run P w=.ok (.value (.int k (bAnd k a b))) w:=bK (by simp[binOp,Op.intBits,bAnd])
theorem r_or {T:TypeId}{k:IntKind}{b:Int}:(mBin .or T (.int k a) (.int k b)).run P w=.ok (.value (.int k (bOr k a b))) w:=bK (by simp[binOp,Op.intBits,bOr])
theorem XT {T:TypeId}{k:IntKind}{b:Int}(h:0<=b):(mBin .shr T (.int k a) (.int k' b)).run P w=.ok (.value (.int k (a.fdiv (2 ^ (min b.toNat k.bits))))) w:=bK (by
 have h':¬b < 0:=om
 simp[binOp,Op.shift,h'])
theorem abM {T:TypeId}{k:IntKind}{b:Int}(h:0<=b):(mBin .shl T (.int k a) (.int k' b)).run P w=.ok (.value (.int k (k.wrap (a*2 ^ (min b.toNat k.bits))))) w:=bK (by
 have h':¬b < 0:=om
 simp[binOp,Op.shift,h'])
theorem VH {T:TypeId}{k:IntKind}{b:Int}:DoX P (mBin .and T (.int k a) (.int k b)) w PK K=K (.int k (bAnd k a b)) w:=aC WU
theorem b_or {T:TypeId}{k:IntKind}{b:Int}:DoX P (mBin .or T (.int k a) (.int k b)) w PK K=K (.int k (bOr k a b)) w:=aC r_or
theorem FC {T:TypeId}{k:IntKind}{b:Int}(h:0<=b):DoX P (mBin .shr T (.int k a) (.int k' b)) w PK K=K (.int k (a.fdiv (2 ^ (min b.toNat k.bits)))) w:=aC (XT h)
theorem wC {T:TypeId}{k:IntKind}{b:Int}(h:0<=b):DoX P (mBin .shl T (.int k a) (.int k' b)) w PK K=K (.int k (k.wrap (a*2 ^ (min b.toNat k.bits)))) w:=aC (abM h)
theorem CE {T:TypeId}{k:IntKind}{i:Int}{a:List UInt8}{c:UInt8}(h:P.underlying T=aw .string)(h0:0<=i)(hc:a[i.toNat]?=aw c):(mIx T (.string ⟨a.toArray⟩) (.int k i)).run P w=.ok (.value (.int .u8 (c.toNat:Int))) w:=by
 refine bK ?_;have e:(⟨a.toArray⟩:ByteArray)[i.toNat]?=aw c:=by
  have hl:i.toNat < a.length:=(aoX.1 hc).1;have h1:i.toNat < (⟨a.toArray⟩:ByteArray).size:=by rw[cW];exact hl
  rw[getElem?_pos (⟨a.toArray⟩:ByteArray) i.toNat h1];have h2:=(aoX.1 hc).2;rw[<-h2];rfl
 simp only[Instr.index,asIntOf,run_underlying h,h0,e];simp[h0,e,run_underlying h]
theorem akC {E:TypeId}{bytes:Nat}{T:TypeId}{i:TypeInfo}{z:ao}(ht:P.underlying T=aw (.slice E))(hi:P.info? E=aw i)(hz:i.zero=aw z)(hi1:i.size=sz)(hi2:i.bytes=bytes)(hz1:z.cells.size=sz)(hsz:0 < sz)
  {v v':ao} {w':ak} {n m c:Nat} {xs news:List ao} {a:Addr} (hown:w.ownsRowF 0 E sz v n xs) (hl:news.length=m*sz) (hnews:∀j u,news[j]?=aw u->w.cell? (a.add j)=aw u) (h1:∀u∈news,u.oneCell'=au)
  (hmx:n+m<=9223372036854775807) (hb:(n+m)*bytes<=140737488355328) (hr:(Builtin.append_ #[T,T] U #[v,.slice (aw a) m c]).run P w=.ok v' w') :
  ∀k,v'.ownBlock=aw k->v.ownBlock=aw k∨w.heap.size<=k:=by
 intro k hk;have hmx':n+m<=maxLen:=by simp only[maxLen];omega
 rcases hown.2 with ⟨rfl,rfl⟩|⟨g,cap,cur,fz,rfl,hbg,hg,hfz,hnc,hcm,hcs,htake⟩
 ·obtain⟨v2,w2,r1,r2,r3,r4⟩:=run_append_ownF (P:=P) w w.heap.size T U E i z sz bytes ht hi hz hi1 hi2 hz1 hsz (.slice av 0 0) 0 xs ⟨hown.1,.inl ⟨rfl,rfl⟩⟩ a m c news hl hnews h1 hmx' hb (aoG _);rw[r1] at hr;cases hr;exact .inr (World.ownsRowF.lt r2 k hk).1
 ·subst hi1;subst hi2;by_cases hroom:n+m<=cap
  ·have hfit:n*i.size+news.length<=cur.size:=by rw[hl,hcs,<-arC];exact apQ _ hroom
   rw[run_append_roomF (P:=P) w T U E i ht hi g n cap cur fz hg hfz a m c news hl hnews h1 hroom hfit] at hr;cases hr;exact .inl hk
  ·have holds:∀j u,xs[j]?=aw u->w.cell? ((⟨g,0,av⟩:Addr).add j)=aw u:=hown.cells (g:=g) rfl;rw[run_append_grow (P:=P) w T U E i z ht hi hz ⟨g,0,av⟩ n cap xs hown.1 holds a m c news hl hnews om om (growslice_fits om hb)] at hr;cases hr;simp only[Value.ownBlock,arV] at hk;exact .inr om
theorem Dq {T E:TypeId}{cs:Array Bool}{bytes n:Nat}(ht:P.underlying T=aw (.slice E))(he:elB P E sz bytes=au)(hsz:0 < sz)
  (hown:w.ownsRowF 0 E sz v n xs) (hs:Sl w v2 sz m news) (h1:∀u∈news,u.oneCell'=au) (hb:(n+m)*bytes<=140737488355328) (hb2:n+m<=140737488355328) :
  ∃v' w',(mB .append #[T,T] U cs #[v,v2]).run P w=.ok (.value v') w'∧Turn (.row E sz v n xs) (.row E sz v' (n+m) (xs++news)) w w':=by
 obtain⟨i,z,hi,hz,hi1,hi2,hz1⟩:=jC he;obtain⟨hl,a,cap,rfl,hn,hc⟩:=hs;have hmx:n+m<=maxLen:=by simp only[maxLen];omega
 have fin:∀(a:Addr),(∀j u,news[j]?=aw u->w.cell? (a.add j)=aw u)->∃v' w',(mB .append #[T,T] U cs #[v,.slice (aw a) m cap]).run P w=.ok (.value v') w'∧Turn (.row E sz v n xs) (.row E sz v' (n+m) (xs++news)) w w':=by
  intro a hh;obtain⟨v',w',r1,r2,r3,r4⟩:=run_append_ownF (P:=P) w 0 T U E i z sz bytes ht hi hz hi1 hi2 hz1 hsz v n xs hown a m cap news hl hh h1 hmx hb (aoO _);refine⟨v',w',?_,Um r3,r2,akC (P:=P) ht hi hz hi1 hi2 hz1 hsz hown hl hh h1 om hb r1⟩;simp[mB,builtin,r1]
 cases a with
|some p=>
  refine fin p λj u hj=>?_;have hlt:j < news.length:=(aoX.1 hj).1;have hm:0 < m:=by
   rcases arF m with h0|h0
   ·subst h0;simp at hl;rw[hl] at hlt;simp at hlt
   ·exact h0
  obtain⟨hsp,hcell⟩:=hc p rfl;have:=hsp hm;obtain⟨b,off,spot⟩:=p;simp only at this hcell;subst this;rw[cK];exact hcell j u hj
|none=>
  have h0:=hn rfl;subst h0;have hnil:news=[]:=asG (by simpa using hl);subst hnil;refine⟨v,w,?_,by rw[aoV];exact Turn.refl (e:=.row E sz v n xs) hown⟩;rcases hown.2 with ⟨rfl,rfl⟩|⟨g,cp,cur,fz,rfl,_,_,_,hnc,_⟩
  ·simp[mB,builtin,Builtin.append_,run_underlying ht,sizeOf,typeInfo,hi,Builtin.lenOf,Builtin.firstCells]
  ·simp[mB,builtin,Builtin.append_,run_underlying ht,sizeOf,typeInfo,hi,Builtin.lenOf,Builtin.firstCells,hnc,storeCells]
theorem MC (i:Nat){T E:TypeId}{cs:Array Bool}{bytes n:Nat}(ht:P.underlying T=aw (.slice E))(he:elB P E sz bytes=au)(hsz:0 < sz)
  (ho:OwnS S w0 w L) (hi:L[i]?=aw (.row E sz v n xs)) (hs:Sl w v2 sz m news) (h1:∀u∈news,u.oneCell'=au) (hb:(n+m)*bytes<=140737488355328) (hb2:n+m<=140737488355328)
  (k:∀v' w',OwnS S w0 w' (L.set i (.row E sz v' (n+m) (xs++news)))->K v' w'):DoX P (mB .append #[T,T] U cs #[v,v2]) w PK K:=by
 obtain⟨v',w',r,t⟩:=Dq (cs:=cs) (U:=U) ht he hsz (ho.at_ i hi) hs h1 hb hb2;exact jV r (k _ _ (ho.turn i hi t))
def roomy (v:ao):Prop:=∀a k,v≠.slice (aw a) k 0
theorem O5:roomy (.slice av 0 0):=λ_ _ h=>by cases h
theorem roomy_row {E:TypeId}{n:Nat}(h:w.ownsRowF 0 E sz v n xs)(hn:0 < n):roomy v:=by
 intro a k hc;rcases h.2 with ⟨rfl,_⟩|⟨g,cap,cur,fz,rfl,hbg,hg,hfz,hnc,hcm,hcs,htake⟩
 ·cases hc
 ·injection hc with c1 c2 c3
  omega
theorem AU (l:List UInt8):Lib.strCells ⟨l.toArray⟩=aG l:=by
 simp[Lib.strCells,aG]
theorem wG {T E:TypeId}{cs:Array Bool}{n:Nat}{l:List UInt8}(ht:P.underlying T=aw (.slice E))(hu:P.underlying U2=aw .string)(he:elB P E 1 1=au)(h8:P.underlying E=aw (.int .u8))
  (hz8:(P.info? E).bind (·.zero)=aw (.int .u8 0))
  (hown:w.ownsRowF 0 E 1 v n xs) (hb2:n+l.length<=140737488355328) :
  ∃v' w',(mB .append #[T,U2] U cs #[v,.string ⟨l.toArray⟩]).run P w=.ok (.value v') w'∧Turn (.row E 1 v n xs) (.row E 1 v' (n+l.length) (xs++aG l)) w w'∧(roomy v->roomy v'):=by
 obtain⟨i,z,hi,hz,hi1,hi2,hz1⟩:=jC he;have hz0:i.zero=aw (.int .u8 0):=by rw[hi] at hz8;exact hz8
 have hsz:=cW l;have hmx:n+(⟨l.toArray⟩:ByteArray).size<=maxLen:=by rw[hsz];simp only[maxLen];omega
 obtain⟨v',w',r1,r2,r3,r4⟩:=Lib.run_append_own_stringF (P:=P) w 0 T U2 U E i ht hu hi hz0 hi1 hi2 v n xs hown ⟨l.toArray⟩ hmx (by rw[hsz];omega) (aoO _);rw[AU,hsz] at r2;have hro:roomy v->roomy v':=by
  intro hv a k hc;rcases arF (n+l.length) with h0|h0
  ·rcases hown.2 with ⟨rfl,_⟩|⟨g,cap,cur,fz,rfl,hbg,hg,hfz,hnc,hcm,hcs,htake⟩
   ·have:=r4.2 ⟨rfl,by rw[hsz];omega⟩;rw[this] at hc;cases hc
   ·have hroom:n+(⟨l.toArray⟩:ByteArray).size<=cap:=by rw[hsz];omega
    rw[Lib.run_append_room_stringF (P:=P) w T U2 U E i ht hu hi hi1 g n cap cur fz hg (by simpa using hfz) ⟨l.toArray⟩ hroom (by simp at hcs;omega)] at r1
    injection r1 with r1a r1b
    rw[<-r1a] at hc
    injection hc with c1 c2 c3
    exact hv ⟨g,0,av⟩ n (by rw[c3])
  ·exact roomy_row r2 h0 a k hc
 refine⟨v',w',by simp[mB,builtin,r1],⟨Um r3,r2,?_⟩,hro⟩;intro k hk;rcases hown.2 with ⟨rfl,rfl⟩|⟨g,cap,cur,fz,rfl,hbg,hg,hfz,hnc,hcm,hcs,htake⟩
 ·obtain⟨v2,w2,q1,q2,q3,q4⟩:=Lib.run_append_own_stringF (P:=P) w w.heap.size T U2 U E i ht hu hi hz0 hi1 hi2 (.slice av 0 0) 0 xs ⟨hown.1,.inl ⟨rfl,rfl⟩⟩ ⟨l.toArray⟩ hmx (by rw[hsz];omega) (aoG _);rw[q1] at r1;cases r1;exact .inr (World.ownsRowF.lt q2 k hk).1
 ·by_cases hroom:n+(⟨l.toArray⟩:ByteArray).size<=cap
  ·rw[Lib.run_append_room_stringF (P:=P) w T U2 U E i ht hu hi hi1 g n cap cur fz hg (by simpa using hfz) ⟨l.toArray⟩ hroom (by simp at hcs;omega)] at r1;cases r1;exact .inl hk
  ·have holds:∀j u,xs[j]?=aw u->w.cell? ((⟨g,0,av⟩:Addr).add j)=aw u:=hown.cells (g:=g) rfl;rw[Lib.run_append_grow_string (P:=P) w T U2 U E i (.int .u8 0) ht hu hi hz0 ⟨g,0,av⟩ n cap xs (by rw[hi1];simpa using hown.1) holds ⟨l.toArray⟩ om (by rw[hsz];omega) (by rw[hi2];exact growslice_fits om (by rw[hsz];omega))] at r1;cases r1;have hk':aw w.heap.size=aw k:=hk;cases hk';exact .inr (aoG _)
theorem Nt (i:Nat){T E:TypeId}{cs:Array Bool}{n:Nat}{l:List UInt8}(ht:P.underlying T=aw (.slice E))(hu:P.underlying U2=aw .string)(he:elB P E 1 1=au)(h8:P.underlying E=aw (.int .u8))
  (hz8:(P.info? E).bind (·.zero)=aw (.int .u8 0)) (ho:OwnS S w0 w L) (hi:L[i]?=aw (.row E 1 v n xs)) (hb2:n+l.length<=140737488355328)
  (k:∀v' w',(roomy v->roomy v')->OwnS S w0 w' (L.set i (.row E 1 v' (n+l.length) (xs++aG l)))->K v' w'):DoX P (mB .append #[T,U2] U cs #[v,.string ⟨l.toArray⟩]) w PK K:=by
 obtain⟨v',w',r,t,hc⟩:=wG (cs:=cs) (U:=U) ht hu he h8 hz8 (ho.at_ i hi) hb2;exact jV r (k _ _ hc (ho.turn i hi t))
theorem OwnS.UU (ho:OwnS S w0 w L)(E:TypeId)(sz:Nat):OwnS S w0 w (.row E sz (.slice av 0 0) 0 []::L):=by
 refine⟨ho.grew,λe he=>?_,.cons (λf hf k hk=>by simp[Ent.row,Value.ownBlock] at hk) ho.apart⟩;rcases aoM.1 he with rfl|he
 ·exact⟨World.ownsRowF_nil w 0 E sz,λk hk=>by simp[Ent.row,Value.ownBlock] at hk⟩
 ·exact ho.all e he
theorem OwnS.aaT (ho:OwnS S w0 w L)(i:Nat){T:TypeId}{n:Nat}(hi:L[i]?=aw (.row T sz v n xs)):Sl w v sz n xs:=Sl.row (ho.at_ i hi)
theorem ajN {T E:TypeId}{bytes c:Nat}{kl kc:IntKind}{x:Int}(hx:x=c)(ht:P.underlying T=aw (.slice E))(he:elB P E sz bytes=au)(hb:bytes*c<=281474976710656)(hc:c<=281474976710656)(ho:OwnS S w0 w L)
  (k:∀v w',OwnS S w0 w' (.row E sz v 0 []::L)->K v w'):DoX P (H4 T (.int kl 0) (.int kc x)) w PK K:=by
 subst hx;obtain⟨i,z,hi,hz,hi1,hi2,hz1⟩:=jC he;obtain⟨w',r1,r2,r3⟩:=run_make_own (P:=P) w w.heap.size T E i z sz ht hi hz hi1 kl kc c (by rw[hi2];exact hb) (by simp only[maxLen];omega) (aoG _);refine jV (bK r1) (k _ _ (ho.add r3 (.row E sz (.slice (aw ⟨w.heap.size,0,av⟩) 0 c) 0 []) ?_ (λk hk=>?_)))
 ·have:=World.ownsRowF_of r2;refine⟨this.1,?_⟩;rcases this.2 with h|⟨g,cp,cur,fz,h1,h2,h3⟩
  ·exact .inl h
  ·exact .inr ⟨g,cp,cur,fz,h1,aoO _,h3⟩
 ·have hk':aw w.heap.size=aw k:=hk;cases hk';exact aoG _
def Ent.bld (T E:TypeId)(b:Nat)(v:ao)(l:List UInt8):Ent:=
 ⟨λk=>k=b∨v.ownBlock=aw k,
  λw=>(∃p,(p=.pointer av∨p=.pointer (aw ⟨b,0,av⟩))∧w.heap[b]?=aw (.cells #[p,v] T (0,0)))∧w.ownsRowF 0 E 1 v l.length (aG l)∧v.ownBlock≠aw b∧roomy v,
  λ{w w'} h k=>⟨by obtain⟨p,hp,hb⟩:=h.1;exact⟨p,hp,(k b (.inl rfl)).trans hb⟩,(Ent.row E 1 v l.length (aG l)).keep h.2.1 (λj hj=>k j (.inr hj)),h.2.2⟩,
  λ{w} h k hk=>by
  rcases hk with rfl|hk
  ·obtain⟨p,hp,hb⟩:=h.1;exact dW hb
  ·exact (World.ownsRowF.lt h.2.1 k hk).2⟩
theorem OwnS.YC {T E:TypeId}{l:List UInt8}(ho:OwnS S w0 w (.bld T E b v l::L)) :
  ∃p,(p=.pointer av∨p=.pointer (aw ⟨b,0,av⟩))∧roomy v∧OwnS S w0 w (.cells b [p,v] T::.row E 1 v l.length (aG l)::L):=by
 have hm:=ho.all (.bld T E b v l) sm;obtain⟨⟨p,hp,hb⟩,hr,hne,hcap⟩:=hm.1;refine⟨p,hp,hcap,ho.grew,λe he=>?_,?_⟩
 ·rcases aoM.1 he with rfl|he
  ·exact⟨hb,λk hk=>hm.2 k (.inl hk)⟩
  ·rcases aoM.1 he with rfl|he
   ·exact⟨hr,λk hk=>hm.2 k (.inr hk)⟩
   ·exact ho.all e (by simp[he])
 ·obtain⟨h1,h2⟩:=aqR.1 ho.apart;refine .cons (λf hf k hk hk'=>?_) (.cons (λf hf k hk=>h1 f hf k (.inr hk)) h2);rcases aoM.1 hf with rfl|hf
  ·have hkb:k=b:=hk;rw[hkb] at hk';exact hne hk'
  ·exact h1 f hf k (.inl hk) hk'
theorem OwnS.Hl {T E:TypeId}{n:Nat}{p:ao}{l:List UInt8}(hp:p=.pointer av∨p=.pointer (aw ⟨b,0,av⟩))(hcap:roomy v)(ho:OwnS S w0 w (.cells b [p,v] T::.row E 1 v n (aG l)::L)) :
  OwnS S w0 w (.bld T E b v l::L):=by
 have h0:=ho.all (.cells b [p,v] T) sm;have h1:=ho.all (.row E 1 v n (aG l)) sm;obtain⟨a1,a2⟩:=aqR.1 ho.apart;obtain⟨a3,a4⟩:=aqR.1 a2;have hn:n=l.length:=by have:=h1.1.1;rw[cP] at this;omega
 subst hn;refine⟨ho.grew,λe he=>?_,.cons (λf hf k hk hk'=>?_) a4⟩
 ·rcases aoM.1 he with rfl|he
  ·refine⟨⟨⟨p,hp,h0.1⟩,h1.1,λhc=>a1 (.row E 1 v l.length (aG l)) sm b rfl hc,hcap⟩,λk hk=>?_⟩;rcases hk with hk|hk
   ·exact h0.2 k hk
   ·exact h1.2 k hk
  ·exact ho.all e (by simp[he])
 ·rcases hk with hk|hk
  ·exact a1 f (by simp[hf]) k hk hk'
  ·exact a3 f hf k hk hk'
theorem OwnS.swap {e f:Ent}(ho:OwnS S w0 w (e::f::L)):OwnS S w0 w (f::e::L):=by
 obtain⟨a1,a2⟩:=aqR.1 ho.apart;obtain⟨a3,a4⟩:=aqR.1 a2;exact⟨ho.grew,λg hg=>ho.all g (by simp only[aoM] at hg ⊢;rcases hg with h|h|h<;>simp[h]),.cons (λg hg k hk hk'=>by
  rcases aoM.1 hg with rfl|hg
  ·exact a1 f sm k hk' hk
  ·exact a3 g hg k hk hk') (.cons (λg hg k hk hk'=>a1 g (by simp[hg]) k hk hk') a4)⟩
theorem qR (i:Nat){e:Ent}{R:ao->Ent->Prop}(ho:OwnS S w0 w L)(hi:L[i]?=aw e)(h:Ret P f args w (λv w'=>∃e',R v e'∧Turn e e' w w'))
  (k:∀v e' w',R v e'->OwnS S w0 w' (L.set i e')->K v w'):CallX P f args w PK K:=
 Eh h λv w' ⟨e',hr,ht⟩=>k v e' w' hr (ho.turn i hi ht)
theorem aH {R:ao->Prop}(ho:OwnS S w0 w L)(h:Ret P f args w (λv w'=>R v∧Below w.heap.size w w'))
  (k:∀v w',R v->OwnS S w0 w' L->K v w'):CallX P f args w PK K:=
 Eh h λv w' ⟨hr,hb⟩=>k v w' hr (ho.grow hb)
end
end Eng
end
section
open Eng
namespace Eng
abbrev JT:=List ao->ak->Prop
abbrev KT:=Ending->ak->Prop
abbrev QH:=Exit->Sg->ak->Prop
abbrev FH:=Nat->JT
abbrev PH:=Sg->List ao->Sg->ak->FH->Prop
def cn (J:JT) (f:FH):FH:=λi=>cond (i==0) J (f (i - 1))
def zg:List Nat->List ao->Sg
 |k::ks,v::vs=>λi=>cond (i==k) v (zg ks vs i)
 |_,_=>λ_=>undef
def updH (σ:Sg) (d:Nat) (v:ao):Sg:=λi=>cond (i==d) v (σ i)
def putH (σ:Sg):Option Nat->ao->Sg
 |some d,v=>updH σ d v
 |none,_=>σ
def TY (σ:Sg):List Nat->List ao
 |[]=>[]
 |i::l=>σ i::TY σ l
def nh (k:Nat) (l:List Nat):Nat×List Nat×PH:=(k,l,λ_ _ _ _ _=>True)
def lkH (k:Nat) (F:List Nat->PH->Prop):List (Nat×List Nat×PH)->Prop
 |[]=>False
 |h::r=>bc (Nat.beq h.1 k) (F h.2.1 h.2.2) (lkH k F r)
def lnH (k:Nat):List (Nat×Nat)->Nat
 |[]=>999999
 |h::r=>bc (Nat.beq h.1 k) h.2 (lnH k r)
def tnQ (Q:QH) (K:Sg->ak->Prop):QH
 |.normal,σ,w=>K σ w
 |e,σ,w=>Q e σ w
def bkQ (id:Nat) (Q:QH):QH
 |.exit j,σ,w=>bc (Nat.beq j id) (Q .normal σ w) (Q (.exit j) σ w)
 |e,σ,w=>Q e σ w
def opH' (P:Program) (o:Oper) (σ:Sg) (w:ak) (K:KT) (k:VWP):Prop:=
 match o.op with
 |.move x | .assign x=>k (rd σ x) w
 |.call { callee:=.value (.func f),args,.. }=>CallX P f (amap (rd σ) args) w (pk K) k
 |_=>DoX P (Im (rd σ) o) w (pk K) k
def opsH (P:Program) (K:KT) (ops:Array Oper) (k:Sg->ak->Prop):List Oper->Sg->ak->Prop
 |[],σ,w=>k σ w
 |o::r,σ,w=>match o.guard with
  |none=>opH' P o σ w K (λv w=>opsH P K ops k r (putH σ o.dst v) w)
  |some (j,want)=>match NH ops j with
   |some d=>GDo (σ d) want (λE=>opH' P o σ w K E) w (λv w=>opsH P K ops k r (putH σ o.dst v) w)
   |none=>False
def opQ' (P:Program) (C:ak->Prop) (o:Oper) (σ:Sg) (k:ao->Prop):Prop:=
 match o.op with
 |.move x | .assign x=>k (rd σ x)
 |.call { callee:=.value (.func f),args,.. }=>QCall P C f (amap (rd σ) args) k
 |_=>QDo P C (Im (rd σ) o) k
def opsQ (P:Program) (ops:Array Oper) (C:ak->Prop) (k:Sg->Prop):List Oper->Sg->Prop
 |[],σ=>k σ
 |o::r,σ=>match o.guard with
  |none=>opQ' P C o σ (λv=>opsQ P ops C k r (putH σ o.dst v))
  |some (j,want)=>match NH ops j with
   |some d=>GQ (σ d) want (λE=>opQ' P C o σ E) (λv=>opsQ P ops C k r (putH σ o.dst v))
   |none=>False
def wpH (P:Program) (K:KT) (ar:List (Nat×Nat)) (hs:List (Nat×List Nat×PH)):Code->FH->QH->Sg->ak->Prop
 |.skip,_,Q,σ,w=>Q .normal σ w
 |.region id ops draw,_,Q,σ,w=>
  bc draw
   (bc (Nat.beq (lnH id ar) ops.size)
    (QuietX w (λC=>opsQ P ops C (λσ=>∀w',C w'->Q .normal σ w') ops.toList σ))
    (QuietX w (λC=>opsQ P ops C (λσ=>∀w',C w'->opsH P K ops (λσ w=>Q .normal σ w) (ops.toList.drop (lnH id ar)) σ w') (ops.toList.take (lnH id ar)) σ)))
   (opsH P K ops (λσ w=>Q .normal σ w) ops.toList σ w)
 |.seq a b,f,Q,σ,w=>
  bc (Nat.ble (ways a) 1) (wpH P K ar hs a f (tnQ Q λσ w=>wpH P K ar hs b f Q σ w) σ w)
   (lkH (2 * keyOf b) (λlv p=>JoinX (λJ=>wpH P K ar hs a (cn J f) (tnQ Q λσ' w'=>J (TY σ' lv) w') σ w) (λvs w'=>∀j,p σ vs j w' f)) hs)
 |.cond c a b,f,Q,σ,w=>IfX (rd σ c) (wpH P K ar hs a f Q σ w) (wpH P K ar hs b f Q σ w)
 |.block id a,f,Q,σ,w=>wpH P K ar hs a f (bkQ id Q) σ w
 |.loop a,f,_,σ,w=>lkH (2 * keyOf a+1) (λlv p=>LoopX (TY σ lv) w (λvs w N=>∀j,p σ vs j w (cn N f))) hs
 |.exit id,_,Q,σ,w=>Q (.exit id) σ w
 |.ret,_,Q,σ,w=>Q .ret σ w
 |_,_,_,_,_=>False
def hdJ:List JT->JT
 |[]=>λ_ _=>False
 |J::_=>J
def atH (P:Program) (K:KT) (ar:List (Nat×Nat)) (hs:List (Nat×List Nat×PH)):Code->Nat->List JT->FH->QH->Sg->ak->Prop
 |.seq a b,p,js,f,Q,σ,w=>
  bc (Nat.beq p 1) (wpH P K ar hs (.seq a b) f Q σ w)
   (bc (Nat.beq (p % 2) 0)
    (bc (Nat.ble (ways a) 1) (atH P K ar hs a (p / 2) js f (tnQ Q λσ w=>wpH P K ar hs b f Q σ w) σ w)
     (lkH (2 * keyOf b) (λlv _=>atH P K ar hs a (p / 2) js.tail (cn (hdJ js) f) (tnQ Q λσ' w'=>hdJ js (TY σ' lv) w') σ w) hs))
    (atH P K ar hs b (p / 2) js f Q σ w))
 |.cond c a b,p,js,f,Q,σ,w=>
  bc (Nat.beq p 1) (wpH P K ar hs (.cond c a b) f Q σ w) (bc (Nat.beq (p % 2) 0) (atH P K ar hs a (p / 2) js f Q σ w) (atH P K ar hs b (p / 2) js f Q σ w))
 |.block id a,p,js,f,Q,σ,w=>bc (Nat.beq p 1) (wpH P K ar hs (.block id a) f Q σ w) (atH P K ar hs a p js f (bkQ id Q) σ w)
 |.loop a,p,js,f,Q,σ,w=>
  bc (Nat.beq p 1) (wpH P K ar hs (.loop a) f Q σ w)
   (lkH (2 * keyOf a+1) (λlv _=>atH P K ar hs a (p / 2) js.tail (cn (hdJ js) f) (tnQ Q λσ' w'=>hdJ js (TY σ' lv) w') σ w) hs)
 |c,_,_,f,Q,σ,w=>wpH P K ar hs c f Q σ w
def allT:List ResultVar->Bool
 |[]=>au
 |.tmp _::l=>allT l
 |_=>aq
def XO (σ:Sg):List ResultVar->List ao
 |.tmp t::l=>σ t::XO σ l
 |_=>[]
def oneH (K:KT) (w:ak):List ao->Prop
 |[v]=>K (.returned v) w
 |l=>K (.returned (.tuple l.toArray)) w
def rvK (σ:Sg):List ResultVar->(List RV->Prop)->Prop
 |[],k=>k []
 |r::l,k=>rvK σ l λx=>k (RV.of σ r::x)
def topH (P:Program) (rs:List ResultVar) (K:KT):QH
 |.normal,σ,w=>bc (allT rs) (oneH K w (XO σ rs)) (rvK σ rs λl=>RetX P l w K)
 |.ret,σ,w=>bc (allT rs) (oneH K w (XO σ rs)) (rvK σ rs λl=>RetX P l w K)
 |_,_,_=>False
structure NfX (a b:Prop):Prop where
 mk ::
 out:a=b
theorem NfX.rf {a:Prop}:NfX a a:=⟨rfl⟩
theorem dxE  {m:Sem Next}    (h:∀v w,NfX (K v w) (K' v w)):NfX (DoX P m w PK K) (DoX P m w PK K'):=⟨by rw [funext λv=>funext λw=>(h v w).out]⟩
theorem cxE   {a:Array ao}    (h:∀v w,NfX (K v w) (K' v w)):NfX (CallX P f a w PK K) (CallX P f a w PK K'):=⟨by rw [funext λv=>funext λw=>(h v w).out]⟩
theorem gdE  {t:Bool} {E:(VWP)->Prop}   (h:∀v w,NfX (K v w) (K' v w)):NfX (GDo v t E w K) (GDo v t E w K'):=⟨by rw [funext λv=>funext λw=>(h v w).out]⟩
theorem qdE   {m:Sem Next} {K K':ao->Prop} (h:∀v,NfX (K v) (K' v)):NfX (QDo P C m K) (QDo P C m K'):=⟨by rw [funext λv=>(h v).out]⟩
theorem qcE    {a:Array ao} {K K':ao->Prop} (h:∀v,NfX (K v) (K' v)):NfX (QCall P C f a K) (QCall P C f a K'):=⟨by rw [funext λv=>(h v).out]⟩
theorem gqE  {t:Bool} {E:(ao->Prop)->Prop} {K K':ao->Prop} (h:∀v,NfX (K v) (K' v)):NfX (GQ v t E K) (GQ v t E K'):=⟨by rw [funext λv=>(h v).out]⟩
theorem ifE  {A A' B B':Prop} (h:NfX A A') (k:NfX B B'):NfX (IfX v A B) (IfX v A' B'):=⟨by rw [h.out,k.out]⟩
theorem joE {F F':JT->Prop} {R:JT} (h:∀J,NfX (F J) (F' J)):NfX (JoinX F R) (JoinX F' R):=⟨by rw [funext λJ=>(h J).out]⟩
theorem quE  {F F':(ak->Prop)->Prop} (h:∀C,NfX (F C) (F' C)):NfX (QuietX w F) (QuietX w F'):=⟨by rw [funext λC=>(h C).out]⟩
theorem awE  {p p':ak->Prop} (h:∀w,NfX (p w) (p' w)):NfX (∀w,C w->p w) (∀w,C w->p' w):=⟨by rw [funext λw=>(h w).out]⟩
theorem mpC {f:α->β}{a:α}{l:List α}:(a::l).map f=f a::l.map f:=rfl
theorem mpN {f:α->β}:([]:List α).map f=[]:=rfl
theorem omS {f:α->β}{a:α}:(aw a).map f=aw (f a):=rfl
theorem omN {f:α->β}:(av:Option α).map f=none:=rfl
theorem tlA  (l:List α):l.toArray.toList=l:=rfl
theorem rd_t  :rd σ (.tmp t)=σ t:=rfl
theorem rd_c  :rd σ (.const v)=v:=rfl
theorem rd_g  {g:Nat}:rd σ (.global g)=.pointer (aw ⟨g,0,av⟩):=rfl
theorem rd_f  :rd σ (.func f)=.func (.func f) #[] #[]:=rfl
abbrev nj:JT:=λ_ _=>False
abbrev nk:KT:=λ_ _=>False
def vg (v:List ao)(n:Nat):Value:=v.getD n undef
def nz (F:Func)(p:Nat)(js:List JT)(hs:List (Nat×List Nat×PH))(ar:List (Nat×Nat))(s:Sg)(w:ak)(K:KT){q r:Prop}
  (h:NfX (atH ah K ar hs (DD F) p js (λ_ _ _=>False) (topH ah F.results.toList K) s w) q:=by
    repeat' ((conv=>arg 1;whnf);first|(apply dxE;intro v w)|(apply cxE;intro v w)|(apply gdE;intro v w)|apply ifE|(apply joE;intro J)|(apply quE;intro C)|(apply qdE;intro v)|(apply qcE;intro v)|(apply gqE;intro v)|(apply awE;intro w)|exact NfX.rf))
  (h':q=r:=by dsimp only[opH',opQ',Im,rd_t,rd_c,rd_g,rd_f,updH,putH,zg,cn,TY,amap,tlA,mpC,mpN,cond_true,cond_false,Nat.reduceBEq,Nat.reduceSub,isEq,isLit,omS,omN,XO,bc,nh,hdJ,vg,RV.of]):Prop:=r
end Eng
abbrev iN (n:Int):Value:=.int .i64 n
def dx (m w K k):=DoX ah m w (pk K) k
def gtx (t m w K k):=GDo t au (λE=>DoX ah m w (pk K) E) w k
def gfx (t m w K k):=GDo t aq (λE=>DoX ah m w (pk K) E) w k
def ctx (t f a w K k):=GDo t au (λE=>CallX ah f a w (pk K) E) w k
def cfx (t f a w K k):=GDo t aq (λE=>CallX ah f a w (pk K) E) w k
def etx (t:ao)(u:ao)(w:ak)(k:ao->ak->Prop):=GDo t au (λE=>E u w) w k
def efx (t:ao)(u:ao)(w:ak)(k:ao->ak->Prop):=GDo t aq (λE=>E u w) w k
def lnx (T x w K k):=DoX ah (mB .len #[T] 3 #[aq] #[x]) w (pk K) k
def ecx (o T n z t w K k):=DoX ah (mEq o T (.tmp n) (.const (.int .i64 z)) t (.int .i64 z)) w (pk K) k
def apx (T x y w K k):=DoX ah (mB .append #[T,T] T #[aq,aq] #[x,y]) w (pk K) k
def cx (f a w K k):=CallX ah f a w (pk K) k
theorem cw{f:FuncId}{F:Func}{args:List ao}{K:KT}{S:Prop}(hf:ah.funcs[f]?=aw F)(hb:F.body=aw (DD F):=by rfl)(hl:Nat.ble args.length F.ntmps=true:=by rfl)(e:wpX ah F.ntmps [] [] av (DD F) (topQ ah F.results.toList K) (lQ args) [] w=S:=by kernel_rfl)(h:S):Calls ah f args.toArray w K:=He hf hb rfl rfl hl (e▸h)
theorem cz A B{f:FuncId}{F:Func}{args:List ao}{w:ak}{K:KT}{S:Prop}(hf:ah.funcs[f]?=aw F)(hb:F.body=aw (DD F):=by rfl)(hl:Nat.ble args.length F.ntmps=true:=by rfl)(e:wpX ah F.ntmps A B av (DD F) (topQ ah F.results.toList K) (lQ args) [] w=S:=by kernel_rfl)(h:S):Calls ah f args.toArray w K:=He hf hb rfl rfl hl (e▸h)
def ldx (T a w K k):=DoX ah (aJ T a) w (pk K) k
def bnx (o T a b w K k):=DoX ah (mBin o T a b) w (pk K) k
def iax (T a i w K k):=DoX ah (mIA T a i) w (pk K) k
def fax (T a n w K k):=DoX ah (mFA T a n) w (pk K) k
def nlx (a w K k):=DoX ah (mNil a) w (pk K) k
def exx (a n w K k):=DoX ah (mExt a n) w (pk K) k
def stx (T a v w K k):=DoX ah (aV T a v) w (pk K) k
def eqx (o T x y a b w K k):=DoX ah (mEq o T x y a b) w (pk K) k
def mbx (f t T b a w K k):=DoX ah (mB f t T b a) w (pk K) k
def slx (T a b c d w K k):=DoX ah (cM T a b c d) w (pk K) k
def alx (T w K k):=DoX ah (Dv T) w (pk K) k
def gN(a w)(K:KT):=
 nlx a w K λb w=>fax 188 b 0 w K λc w=>ldx 186 c w K λd w=>eqx .eql 186 (.tmp 5) (.const (.pointer av)) d (.pointer av) w K λe w=>IfX e (dx (fA 186 261 a) w K λf w=>dx (gK (.func (.func 258) #[] #[]) #[f]) w K λg w=>dx (fA 261 186 g) w K λh w=>nlx a w K λi w=>fax 188 i 0 w K λj w=>stx 186 j h w K λ_ w=>K (.returned (.tuple #[])) w) (nlx a w K λk w=>fax 188 k 0 w K λl w=>ldx 186 l w K λm w=>eqx .neq 186 (.tmp 17) (.tmp 18) m a w K λn w=>IfX n (False) (K (.returned (.tuple #[])) w))
theorem nP{t0 w K}:gN t0 w K->Calls ah 226 #[t0] w K:=cw func226
def gM(t0 t1 w)(K:KT):=nz f181 1 [] [] [] (zg [0,1] [t0,t1]) w K
theorem nH{t0 t1 w K}:gM t0 t1 w K->Calls ah 181 #[t0,t1] w K:=cw func181
def fR(t0 t1 w)(K:KT):=nz f187 1 [] [] [] (zg [0,1] [t0,t1]) w K
theorem kZ{t0 t1 w K}:fR t0 t1 w K->Calls ah 187 #[t0,t1] w K:=cw func187
def jQ(t0 w)(K:KT):=nz f182 1 [] [] [(1,10)] (zg [0] [t0]) w K
theorem qX{t0 w K}:jQ t0 w K->Calls ah 182 #[t0] w K:=cw func182
end
end Go.Proofs.YtlipjfcbjemicaaGreatDoor
namespace Go.Proofs
open Go.Shelf
open Go.RowKit in
def Tryz.Qe:Go.Shelf.Ren:=⟨λ|137=>224|217=>257|266=>283|n=>n,λ|9=>9|5=>5|3=>3|n=>n,λ|n=>n⟩
theorem Tryz.aeL:Go.Proofs.Lays.n137 ah Tryz.Qe:={
 mixed:=krx
 f137:=Tryz.func224.trans (congrArg aw krx)
 f217:=Tryz.func257.trans (congrArg aw krx)
 f266:=Tryz.func283.trans (congrArg aw krx)
 t3:=apH
 a3:=Tryz.isAgg3
 z3:=Tryz.sizeOf3
 v3:=Tryz.zeroValue3
 t5:=aoP
 a5:=Tryz.isAgg5
 z5:=Tryz.sizeOf5
 v5:=Tryz.zeroValue5
 t9:=aoD
 a9:=Tryz.isAgg9
 z9:=Tryz.sizeOf9
 v9:=Tryz.zeroValue9 }
open Go.RowKit in
theorem Tryz.strings_IndexByte (s:ByteArray)(c:Int)(w:ak) :
  Calls ah 224 #[.string s,.int .u8 c] w λe w'=>e=.returned (.int .i64 (Lib.indexByte s.data.toList c.toNat.toUInt8))∧w'=w:=Any.strings_IndexByte Tryz.aeL s c w
open Go.RowKit Go.Lib in
def Tryz.Qa:Go.Shelf.Ren:=⟨λ|212=>227|263=>259|264=>260|n=>n,λ|46=>84|51=>153|146=>263|53=>147|148=>265|n=>n,λ|n=>n⟩
theorem Tryz.abF:Go.Proofs.Lays.n212 ah Tryz.Qa:={
 mixed:=krx
 f212:=Tryz.func227.trans (congrArg aw krx)
 f263:=Tryz.func259.trans (congrArg aw krx)
 f264:=Tryz.func260.trans (congrArg aw krx)
 t46:=arW
 a46:=Tryz.isAgg84
 z46:=Tryz.sizeOf84
 v46:=Tryz.zeroValue84
 t51:=auY
 a51:=Tryz.isAgg153
 z51:=Tryz.sizeOf153
 v51:=Tryz.zeroValue153
 t53:=auB
 a53:=Tryz.isAgg147
 z53:=Tryz.sizeOf147
 v53:=Tryz.zeroValue147
 t146:=underlying263
 a146:=Tryz.isAgg263
 z146:=Tryz.sizeOf263
 v146:=Tryz.zeroValue263
 t148:=underlying265
 a148:=Tryz.isAgg265
 z148:=Tryz.sizeOf265
 v148:=Tryz.zeroValue265 }
open Go.RowKit Go.Lib in
theorem Tryz.bits_Mul (x y:Nat)(hx:x < 18446744073709551616)(hy:y < 18446744073709551616)(w:ak) :
  Calls ah 227 #[.int .u64 x,.int .u64 y] w λe w'=>e=.returned (.tuple #[.int .u64 ((x*y / 18446744073709551616:Nat):Int),.int .u64 ((x*y % 18446744073709551616:Nat):Int)])∧w'=w:=Any.bits_Mul Tryz.abF x y hx hy w
def Tryz.Jg:Go.Shelf.Ren:=⟨λ|105=>189|212=>227|99=>228|165=>229|166=>187|170=>230|169=>182|263=>259|264=>260|206=>261|240=>226|241=>262|276=>258|277=>284|n=>n,λ|9=>9|3=>3|4=>4|20=>20|0=>0|46=>84|109=>240|5=>5|72=>188|76=>205|51=>153|146=>263|53=>147|148=>265|70=>186|37=>53|75=>194|127=>239|164=>261|80=>198|n=>n,λ|n=>n⟩
theorem Tryz.acZ:Go.Proofs.Lays.n105 ah Tryz.Jg:={
 mixed:=krx
 f99:=Tryz.func228.trans (congrArg aw krx)
 f105:=Tryz.func189.trans (congrArg aw krx)
 f165:=Tryz.func229.trans (congrArg aw krx)
 f166:=Tryz.func187.trans (congrArg aw krx)
 f169:=Tryz.func182.trans (congrArg aw krx)
 f170:=Tryz.func230.trans (congrArg aw krx)
 f206:=Tryz.func261.trans (congrArg aw krx)
 f212:=Tryz.func227.trans (congrArg aw krx)
 f240:=Tryz.func226.trans (congrArg aw krx)
 f241:=Tryz.func262.trans (congrArg aw krx)
 f263:=Tryz.func259.trans (congrArg aw krx)
 f264:=Tryz.func260.trans (congrArg aw krx)
 f276:=Tryz.func258.trans (congrArg aw krx)
 f277:=Tryz.func284.trans (congrArg aw krx)
 t0:=underlying0
 a0:=Tryz.isAgg0
 z0:=Tryz.sizeOf0
 v0:=Tryz.zeroValue0
 t3:=apH
 a3:=Tryz.isAgg3
 z3:=Tryz.sizeOf3
 v3:=Tryz.zeroValue3
 t4:=underlying4
 a4:=Tryz.isAgg4
 z4:=Tryz.sizeOf4
 v4:=Tryz.zeroValue4
 t5:=aoP
 a5:=Tryz.isAgg5
 z5:=Tryz.sizeOf5
 v5:=Tryz.zeroValue5
 t9:=aoD
 a9:=Tryz.isAgg9
 z9:=Tryz.sizeOf9
 v9:=Tryz.zeroValue9
 t20:=asH
 a20:=Tryz.isAgg20
 z20:=Tryz.sizeOf20
 v20:=Tryz.zeroValue20
 t37:=aoK
 a37:=Tryz.isAgg53
 z37:=Tryz.sizeOf53
 v37:=Tryz.zeroValue53
 t46:=arW
 a46:=Tryz.isAgg84
 z46:=Tryz.sizeOf84
 v46:=Tryz.zeroValue84
 t51:=auY
 a51:=Tryz.isAgg153
 z51:=Tryz.sizeOf153
 v51:=Tryz.zeroValue153
 t53:=auB
 a53:=Tryz.isAgg147
 z53:=Tryz.sizeOf147
 v53:=Tryz.zeroValue147
 t70:=auC
 a70:=Tryz.isAgg186
 z70:=Tryz.sizeOf186
 v70:=Tryz.zeroValue186
 t72:=underlying188
 a72:=Tryz.isAgg188
 z72:=Tryz.sizeOf188
 v72:=Tryz.zeroValue188
 t75:=underlying194
 a75:=Tryz.isAgg194
 z75:=Tryz.sizeOf194
 v75:=Tryz.zeroValue194
 t76:=underlying205
 a76:=Tryz.isAgg205
 z76:=Tryz.sizeOf205
 v76:=Tryz.zeroValue205
 t109:=underlying240
 a109:=Tryz.isAgg240
 z109:=Tryz.sizeOf240
 v109:=Tryz.zeroValue240
 t127:=awA
 a127:=Tryz.isAgg239
 z127:=Tryz.sizeOf239
 v127:=Tryz.zeroValue239
 t146:=underlying263
 a146:=Tryz.isAgg263
 z146:=Tryz.sizeOf263
 v146:=Tryz.zeroValue263
 t148:=underlying265
 a148:=Tryz.isAgg265
 z148:=Tryz.sizeOf265
 v148:=Tryz.zeroValue265
 t164:=awB
 a164:=Tryz.isAgg261
 z164:=Tryz.sizeOf261
 v164:=Tryz.zeroValue261 }
theorem Tryz.Gm:Builder.Extra ah Tryz.Jg:={
 sizeBuilder:=krx
 liesBuilder:=krx
 t5:=aoP
 a5:=Tryz.isAgg5
 z5:=Tryz.sizeOf5
 v5:=Tryz.zeroValue5
 infoByte:=krx
 cellsByte:=krx
 sizeByte:=krx
 neB5:=by decide }
open Go.RowKit Go.Lib in
theorem Tryz.strings_Repeat (s:ByteArray)(c:Nat)(w:ak)(hc:c<=9223372036854775807)(hlen:s.size*c<=140737488355328) :
  Calls ah 189 #[.string s,.int .i64 c] w λe w'=>e=.returned (.string ⟨(Lib.repeatL s.data.toList c).toArray⟩)∧Below w.heap.size w w':=Any.strings_Repeat Tryz.acZ Tryz.Gm s c w hc hlen
end Go.Proofs
namespace Go.Proofs.YtlipjfcbjemicaaGreatDoor
variable{A S:Nat->Prop}{C:ak->Prop}{D U U2:TypeId}{K K':VWP}{L:List Eng.Ent}{L0:Loop}{P:Program}{PK PK2:PKT}{W w w' w0:ak}{a hi lo:Int}{args:Array ao}{b cap d f i j m sz t:Nat}{c t0 v v' v1 v2 vc vk:ao}{cb:Array Bool}{cs cur new news xs:List ao}{k':IntKind}{u:FrameMode}{want y:Bool}{xo yo:Operand}{α β:Type}{σ:Eng.Sg}
section
open Eng Go.RowKit
abbrev Bld (b:Nat)(v:ao)(l:List UInt8):Ent:=.bld 188 5 b v l
theorem kV (a b:List UInt8):aG (a++b)=aG a++aG b:=by simp[aG]
theorem GZ (l:List UInt8):∀u∈aG l,u.oneCell'=true:=by
 intro u hu;simp only[aG,apN] at hu;obtain⟨c,_,rfl⟩:=hu;rfl
theorem Ux {T:TypeId}{a:Option Addr}(h:P.underlying T=aw (.pointer U)) :
  DoX P (mEq .eql T xo (.const c) (.pointer a) (.pointer av)) w PK K=K (.bool a.isNone) w:=by
 refine fI ?_;have e:(eqGuard .eql T xo (.const c) (.pointer a) (.pointer av))=pure ():=by cases xo<;>rfl
 rw[e];have h2:∀d:Nat,(Op.equalIn (d+1) T (.pointer a) (.pointer av)).run P w=.ok a.isNone w:=λd=>by
  cases a<;>simp[Op.equalIn,run_underlying h]
 simp only[binOp];simp[Op.equal,Op.maxDepth,h2 9999]
theorem abN {T:TypeId}{a:Addr}(h:P.underlying T=aw (.pointer U))(hi:(P.info? U).isSome=au)(hg:eqGuard .neq T xo yo (.pointer (aw a)) (.pointer (aw a))=pure ()) :
  DoX P (mEq .neq T xo yo (.pointer (aw a)) (.pointer (aw a))) w PK K=K (.bool aq) w:=by
 obtain⟨j,hj⟩:=Option.isSome_iff_exists.1 hi;refine fI ?_;rw[hg];simp[Lib.run_neq_ptr_same w a h hj]
theorem FX {l:List UInt8}(h:(Bld b v l).is w):Ret ah 226 #[.pointer (aw ⟨b,0,av⟩)] w
  (λr w'=>∃e',(r=.tuple #[]∧e'=Bld b v l)∧Turn (Bld b v l) e' w w'):=by
 obtain⟨p,hp,hcap,ho⟩:=(OwnS.lend h).YC;refine aK λK hK=>nP ?_;unfold gN dx ldx fax nlx stx eqx;simp only[rs,aP (show fOff ah 188 0=aw 0 by kernel_rfl)];rw[aS krx (ho.cell 0 rfl 0 rfl)];rcases hp with rfl|rfl
 ·rw[Ux auC];simp only[auZ,rs];obtain⟨j,hj⟩:=Option.isSome_iff_exists.1 (show (Tryz.prog.info? 188).isSome=au by kernel_rfl);have hjs:j.size≠0:=by
   have:(Tryz.prog.info? 188).map (·.size)=aw 2:=krx
   rw[hj] at this;simp only[atG,arV] at this;omega
  have hsh:w.shape? b=aw (188,2):=by
   have hb:w.heap[b]?=aw (.cells #[.pointer av,v] 188 (0,0)):=ho.at_ 0 rfl;simp[World.shape?,hb]
  refine jV (bK (Lib.run_to_unsafe w ⟨b,0,av⟩ auC awB hj hjs hsh (by show 0 < 2;omega))) ?_;refine jV (show (gK (.func (.func 258) #[] #[]) #[.pointer (aw ⟨b,0,av⟩)]).run ah w=.ok (.value (.pointer (aw ⟨b,0,av⟩))) w by kernel_rfl) ?_;refine jV (bK (Lib.run_from_unsafe w ⟨b,0,av⟩ awB auC hj hsh krx)) ?_;refine aN 0 ho rfl krx rfl sm λw2 ho2=>?_;exact hK _ _ ⟨_,⟨rfl,rfl⟩,(OwnS.Hl (.inr rfl) hcap ho2).back⟩
 ·rw[Ux auC];simp only[avA,rs,aP (show fOff ah 188 0=aw 0 by kernel_rfl)];rw[aS krx (ho.cell 0 rfl 0 rfl)];rw[abN auC krx rfl];simp only[rs];exact hK _ _ ⟨_,⟨rfl,rfl⟩,(ho.Hl (.inr rfl) hcap).back⟩
theorem kR {l:List UInt8}{c:UInt8}(h:(Bld b v l).is w)(hl:l.length < 140737488355328):Ret ah 181 #[.pointer (aw ⟨b,0,av⟩),.int .u8 c.toNat] w
  (λr w'=>∃e',(r=.nilIface∧∃v',e'=Bld b v' (l++[c]))∧Turn (Bld b v l) e' w w'):=by
 refine aK λK hK=>nH ?_;unfold gM nz;refine qR 0 (OwnS.lend h) rfl (FX h) ?_;rintro _ _ w1 ⟨rfl,rfl⟩ ho1;obtain⟨p,hp,hcap,ho⟩:=OwnS.YC ho1;simp only[rs,aP (show fOff ah 188 1=aw 1 by kernel_rfl)];rw[aS krx (ho.cell 0 rfl 1 rfl)];refine bD (λb=>.slice (aw ⟨b,0,av⟩) 1 1) [.int .u8 c.toNat] 5 (λ_=>by kernel_rfl) ho λnb w2 h2=>?_;refine MC 2 aoK (show elB ah 5 1 1=au by kernel_rfl) dc h2 rfl (h2.sl 0 rfl 1 1 1 rfl) (GZ [c]) om om λv' w3 h3=>?_;refine aN 1 h3 rfl krx (by
  have:=h3.at_ 2 rfl;rcases this.2 with ⟨hv,_⟩|⟨_,_,_,_,hv,_⟩<;>rw[hv]<;>rfl) sm λw4 h4=>?_
 have h5:=h4.tail;have h6:OwnS (Bld b v l).blk w w4 (.cells b [p,v'] 188::.row 5 1 v' (l.length+1) (aG (l++[c]))::[]):=by
  rw[kV];exact h5
 exact hK _ _ ⟨_,⟨rfl,v',rfl⟩,(OwnS.Hl hp (roomy_row (h6.at_ 1 rfl) om) h6).back⟩
theorem Jb {l s:List UInt8}(h:(Bld b v l).is w)(hl:l.length+s.length<=140737488355328):Ret ah 187 #[.pointer (aw ⟨b,0,av⟩),.string ⟨s.toArray⟩] w
  (λr w'=>∃e',((∃x,r=.tuple #[x,.nilIface])∧∃v',e'=Bld b v' (l++s))∧Turn (Bld b v l) e' w w'):=by
 refine aK λK hK=>kZ ?_;unfold fR nz;refine qR 0 (OwnS.lend h) rfl (FX h) ?_;rintro _ _ w1 ⟨rfl,rfl⟩ ho1;obtain⟨p,hp,hcap,ho⟩:=OwnS.YC ho1;simp only[rs,aP (show fOff ah 188 1=aw 1 by kernel_rfl)];rw[aS krx (ho.cell 0 rfl 1 rfl)];refine Nt 1 aoK aoD (show elB ah 5 1 1=au by kernel_rfl) aoP krx ho rfl om λv' w3 hro h3=>?_;refine aN 0 h3 rfl krx (by
  have:=h3.at_ 1 rfl;rcases this.2 with ⟨hv,_⟩|⟨_,_,_,_,hv,_⟩<;>rw[hv]<;>rfl) sm λw4 h4=>?_
 rw[cL aoD];have h6:OwnS (Bld b v l).blk w w4 (.cells b [p,v'] 188::.row 5 1 v' (l.length+s.length) (aG (l++s))::[]):=by
  rw[kV];exact h4
 exact hK _ _ ⟨_,⟨⟨_,rfl⟩,v',rfl⟩,(OwnS.Hl hp (hro hcap) h6).back⟩
theorem Xl {E:TypeId}{g n:Nat}(h:w.ownsRowF 0 E 1 (.slice (aw ⟨g,0,av⟩) n cap) n xs)(hn0:n≠0) :
  Turn (.row E 1 (.slice (aw ⟨g,0,av⟩) n cap) n xs) (.row E 1 (.slice (aw ⟨g,0,av⟩) n cap) n xs) w (w.freeze ⟨g,0,av⟩ n):=by
 refine⟨?_,?_,λk hk=>.inl hk⟩
 ·unfold World.freeze;rw[anW hn0];refine⟨rfl,rfl,rfl,sm,λk hk hne=>?_⟩;have hkg:¬g=k:=λe=>hne (by show aw g=aw k;rw[e]);simp only[avB];rw[anW hkg]
 ·refine⟨h.1,?_⟩;unfold World.freeze;rw[anW hn0];rcases h.2 with ⟨hv,_⟩|⟨g',cap',cur,fz,hv,hbg,hg,hfz,rest⟩
  ·cases hv
  ·injection hv with ha _ hcap
   injection ha with ha
   injection ha with hgg _ _
   subst hgg;subst hcap;obtain⟨lo,hi⟩:=fz;refine .inr ⟨g,_,cur,(if lo==hi then (0,0+n) else (min lo 0,max hi (0+n))),rfl,hbg,?_,?_,rest⟩
   ·simp[avB,hg]
   ·simp only at hfz;split<;>simp<;>omega
theorem abV {n:Nat}{T:TypeId}{cs:Array Bool}{E:TypeId}(h:w.ownsRowF 0 E 1 v n xs)(hr:roomy v):∃q,(∀w':ak,(mB .unsafeSliceData #[T] U cs #[v]).run ah w'=.ok (.value (.pointer q)) w')∧(0 < n->∃g cap,v=.slice (aw ⟨g,0,av⟩) n cap∧q=aw ⟨g,0,av⟩):=by
 rcases h.2 with ⟨rfl,rfl⟩|⟨g,cap,cur,fz,rfl,hbg,hg,hfz,rest⟩
 ·exact⟨av,λw'=>by simp[mB,builtin,Lib.run_unsafeSliceData_nil],λh=>by omega⟩
 ·refine⟨aw ⟨g,0,av⟩,λw'=>?_,λ_=>⟨g,cap,rfl,rfl⟩⟩;have hc:cap≠0:=λe=>hr ⟨g,0,av⟩ n (by rw[e]);simp[mB,builtin,Lib.run_unsafeSliceData_row _ _ _ _ _ _ hc]
theorem Fi {l:List UInt8}(h:(Bld b v l).is w):Ret ah 182 #[.pointer (aw ⟨b,0,av⟩)] w
  (λr w'=>∃e',(r=.string ⟨l.toArray⟩∧e'=Bld b v l)∧Turn (Bld b v l) e' w w'):=by
 obtain⟨p,hp,hcap,ho⟩:=(OwnS.lend h).YC;refine aK λK hK=>qX ?_;unfold jQ nz;have hrow:w.ownsRowF 0 5 1 v l.length (aG l):=ho.at_ 1 rfl;obtain⟨q,hq,hq2⟩:=abV (T:=53) (U:=239) (cs:=#[aq]) hrow hcap;have hload:∀w',Below w.heap.size w w'->(aJ 53 (.pointer (aw ⟨b,0+1,av⟩))).run ah w'=.ok (.value v) w':=λw' hb=>aB krx ((ho.grow hb).cell 0 rfl 1 rfl);have hlen:∀w',Below w.heap.size w w'->(mB .len #[53] 3 #[aq] #[v]).run ah w'=.ok (.value (.int .i64 l.length)) w':=λw' hb=>by
  have hs:=(ho.grow hb).aaT 1 rfl;obtain⟨_,a,cp,rfl,_⟩:=hs;simp[mB,builtin,Builtin.len_,run_underlying aoK,goInt]
 refine quiet (q_do _ (λw=>cN) (q_do _ (λw=>bH (show fOff ah 188 1=aw 1 by kernel_rfl)) (q_at v hload (q_do _ hq (q_do _ (λw=>cN) (q_do _ (λw=>bH (show fOff ah 188 1=aw 1 by kernel_rfl)) (q_at v hload (q_at _ hlen ?_))))))));intro w2 hb2;have h2:=ho.grow hb2;rcases arF l.length with h0|h0
 ·have hl:l=[]:=asG h0;subst hl;refine jV (show (mB .unsafeString #[239,3] 9 #[aq,aq] #[.pointer q,.int .i64 0]).run ah w2=.ok (.value (.string ⟨([]:List UInt8).toArray⟩)) w2 by
   simp[mB,builtin,Lib.run_unsafeString_none];rfl) ?_
  exact hK _ _ ⟨_,⟨rfl,rfl⟩,(OwnS.Hl hp hcap h2).back⟩
 ·obtain⟨g,cap,rfl,rfl⟩:=hq2 h0;have hr2:w2.ownsRowF 0 5 1 (.slice (aw ⟨g,0,av⟩) l.length cap) l.length (aG l):=h2.at_ 1 rfl;have hne:l≠[]:=arI.1 h0;have hsh:∃cells,w2.shape? g=aw (5,cells)∧l.length<=cells∧l.length<=9223372036854775807:=by
   rcases hr2.2 with ⟨hv,_⟩|⟨g',cap',cur,fz,hv,hbg,hg,hfz,hnc,hcm,hcs,_⟩
   ·cases hv
   ·injection hv with ha _ hcap
    injection ha with ha
    injection ha with hgg _ _
    subst hgg;refine⟨cur.size,by simp[World.shape?,hg],om,?_⟩;simp only[maxLen] at hcm;omega
  obtain⟨cells,hsh,hle,h63⟩:=hsh;have hr:=Lib.run_unsafeString_row (P:=ah) w2 239 3 9 5 awA krx g cells hsh l hne hle h63 (λj x hj=>by
   have:=World.ownsRowF.cells hr2 (g:=g) rfl j (.int .u8 x.toNat) (fC hj);exact this)
  refine jV (show (mB .unsafeString #[239,3] 9 #[aq,aq] #[.pointer (aw ⟨g,0,av⟩),.int .i64 l.length]).run ah w2=.ok (.value (.string ⟨l.toArray⟩)) (w2.freeze ⟨g,0,av⟩ l.length) by
   simp[mB,builtin,hr]) ?_
  have h3:=h2.turn 1 rfl (Xl hr2 om);exact hK _ _ ⟨_,⟨rfl,rfl⟩,(OwnS.Hl hp hcap h3).back⟩
end
section
open Eng
def FU(b c d a w)(N1:JT)(K:KT):=
 bnx .lss 3 a d w K λe w=>IfX e (QuietX w (λC2=>QDo ah C2 (mIx 9 b a) λf=>QDo ah C2 (mBin .shr 5 f (.int .u64 4)) λg=>QDo ah C2 (mIx 9 (.string ⟨#[48,49,50,51,52,53,54,55,56,57,65,66,67,68,69,70]⟩) g) λh=>QDo ah C2 (mIx 9 b a) λi=>QDo ah C2 (mBin .and 5 i (.int .u8 15)) λj=>QDo ah C2 (mIx 9 (.string ⟨#[48,49,50,51,52,53,54,55,56,57,65,66,67,68,69,70]⟩) j) λk=>
 ∀w,C2 w ->
 DoX ah (bF 53 2 #[(0,h),(1,k)]) w (ax 5 (pk K)) λl w=>DoX ah (mB .append #[53,53] 53 #[aq,aq] #[c,l]) w (ax 5 (pk K)) λm w=>bnx .add 3 a (iN 1) w K λn w=>N1 [m,n] w)) (dx (fA 53 9 c) w K λo w=>K (.returned o) w)
def KA(t0 w)(K:KT):=nz f172 1 [] [(7,[3,11],λs v j w f=>FU (s 0) (vg v 0) (s 10) (vg v 1) w (f 0) K)] [] (zg [0] [t0]) w K
theorem KL{t0 w K}:KA t0 w K->Calls ah 172 #[t0] w K:=cz [] [(3,[3,11])] func172
def Fz(t0 w)(K:KT):=nz f177 1 [] [] [] (zg [0] [t0]) w K
theorem Ix{t0 w K}:Fz t0 w K->Calls ah 177 #[t0] w K:=cw func177
end
end Go.Proofs.YtlipjfcbjemicaaGreatDoor






namespace Go.Proofs.YtlipjfcbjemicaaGreatDoor
variable{A S:Nat->Prop}{C:ak->Prop}{D U U2:TypeId}{K K':VWP}{L:List Eng.Ent}{L0:Loop}{P:Program}{PK PK2:PKT}{W w w' w0:ak}{a hi lo:Int}{args:Array ao}{b cap d f i j m sz t:Nat}{c t0 v v' v1 v2 vc vk:ao}{cb:Array Bool}{cs cur new news xs:List ao}{k':IntKind}{u:FrameMode}{want y:Bool}{xo yo:Operand}{α β:Type}{σ:Eng.Sg}
section
open Eng Go.RowKit
theorem RY (c:UInt8):∀l:List UInt8,(Lib.indexByte l c=-1∧l.takeWhile (λx=>x != c)=l∧l.dropWhile (λx=>x != c)=[]) ∨
  ∃i:Nat,Lib.indexByte l c=i∧i < l.length∧l.takeWhile (λx=>x != c)=l.take i∧l.dropWhile (λx=>x != c)=l.drop i
|[]=>.inl ⟨rfl,rfl,rfl⟩
|b::l=>by
  by_cases h:b=c
  ·subst h;exact .inr ⟨0,by simp[Lib.indexByte],sm,sm,sm⟩
  ·have hb:(b==c)=false:=by simpa using h
   have hb2:(b != c)=true:=by simpa using h
   rcases RY c l with ⟨h1,h2,h3⟩|⟨i,h1,h2,h3,h4⟩
   ·exact .inl ⟨by simp[Lib.indexByte,hb,h1],by simp[hb2,h2],by simp[hb2,h3]⟩
   ·refine .inr ⟨i+1,?_,by simp;omega,by simp[hb2,h3],by simp[hb2,h4]⟩;have e:((i:Int)==-1)=false:=sm
    simp only[Lib.indexByte,hb,h1,e,asN,if_false];omega
end
end Go.Proofs.YtlipjfcbjemicaaGreatDoor

namespace Go.Proofs.YtlipjfcbjemicaaGreatDoor
variable{A S:Nat->Prop}{C:ak->Prop}{D U U2:TypeId}{K K':VWP}{L:List Eng.Ent}{L0:Loop}{P:Program}{PK PK2:PKT}{W w w' w0:ak}{a hi lo:Int}{args:Array ao}{b cap d f i j m sz t:Nat}{c t0 v v' v1 v2 vc vk:ao}{cb:Array Bool}{cs cur new news xs:List ao}{k':IntKind}{u:FrameMode}{want y:Bool}{xo yo:Operand}{α β:Type}{σ:Eng.Sg}
section
open Eng Go.RowKit
theorem F2 (l:List UInt8)(c:UInt8)(w:ak):Ret ah 224 #[.string ⟨l.toArray⟩,.int .u8 c.toNat] w (λv w'=>v=.int .i64 (Lib.indexByte l c)∧w=w'):=by
 refine Calls.mono (Tryz.strings_IndexByte ⟨l.toArray⟩ c.toNat w) ?_;rintro e w' ⟨rfl,rfl⟩;refine retK ⟨?_,rfl⟩;simp
theorem Pb (c:UInt8)(w:ak):Ret ah 177 #[.int .u8 c.toNat] w (λv w'=>v=.bool (Oc.AF c)∧w=w'):=by
 refine aK λK hK=>Ix ?_;unfold Fz nz;refine c_eq (F2 Oc.Vf c w) ?_;simp only[rs,Oc.zV];exact hK _ _ ⟨rfl,rfl⟩
theorem shr4 (c:UInt8):(c.toNat:Int).fdiv (2 ^ (min (4:Int).toNat IntKind.u8.bits))=((c.toNat / 16:Nat):Int):=by
 rw[awC _ dc];show ((c.toNat:Int) / 16)=_;omega
theorem Wh:∀n:Fin 256,bAnd .u8 (n.val:Int) 15=((n.val % 16:Nat):Int):=by decide +kernel
theorem akH (c:UInt8):bAnd .u8 (c.toNat:Int) 15=((c.toNat % 16:Nat):Int):=Wh ⟨c.toNat,c.toNat_lt⟩
theorem IP (k:IntKind){n:Nat}(h:n < 16)(w:ak):(mIx 9 (.string ⟨#[48,49,50,51,52,53,54,55,56,57,65,66,67,68,69,70]⟩) (.int k (n:Int))).run ah w=.ok (.value (.int .u8 (Oc.hexD n).toNat)) w:=
 CE (a:=Oc.hexs) (c:=Oc.hexD n) aoD om (by rw[aoF];exact Oc.YW h)
theorem acI (l:List UInt8)(w:ak)(hl:l.length<=1000000):Ret ah 172 #[.string ⟨l.toArray⟩] w (λv w'=>v=.string ⟨(Oc.hex l).toArray⟩∧Below w.heap.size w w'):=by
 refine aK λK hK=>KL ?_;unfold KA nz;rw[cL aoD];simp only[rs];rw[aA om om];refine ajN (c:=2*l.length) om aoK (show elB ah 5 1 1=au by kernel_rfl) om om (Own.start w) λv w1 h1=>?_;rw[cL aoD];refine loop (λvs w'=>∃(i:Nat) (v:ao),vs=[v,.int .i64 i]∧i<=l.length∧Own w w' [.row 5 1 v (2*i) (aG (Oc.hex (l.take i)))])
  (λvs _=>l.length - n1 vs) ⟨0,v,rfl,om,by simpa[Oc.hex,aG] using h1⟩ ?_
 rintro vs w2 ⟨i,v,rfl,hi,ho⟩ _;simp only[FU,gd,rs,iN,dx,bnx];by_cases hlt:(i:Int) < (l.length:Int)
 ·have hi2:i < l.length:=om
  have hc:l[(i:Int).toNat]?=aw l[i]:=by simp[hi2]
  have hd1:l[i].toNat / 16 < 16:=by have:=l[i].toNat_lt;omega
  have hd2:l[i].toNat % 16 < 16:=om
  simp only[hlt,aoA,rs];refine quiet (q_do _ (λw=>CE aoD om hc) (q_do _ (λw=>by rw[XT om,shr4]) (q_do _ (λw=>IP _ hd1 w)
   (q_do _ (λw=>CE aoD om hc) (q_do _ (λw=>by rw[WU,akH]) (q_do _ (λw=>IP _ hd2 w) ?_))))))
  intro w3 hb3;refine bD (λb=>.slice (aw ⟨b,0,av⟩) 2 2) (aG (Oc.hex1 l[i])) 5 (λ_=>by kernel_rfl) (ho.grow hb3) λnb w4 h4=>?_;refine MC 1 aoK (show elB ah 5 1 1=au by kernel_rfl) dc h4 rfl (h4.sl 0 rfl 1 2 2 rfl) (GZ _) om om λv' w5 h5=>?_;rw[aA om om];refine aQ ⟨i+1,v',rfl,om,?_⟩ (by simp[n1,RowKit.intOf];omega);have e:aG (Oc.hex (l.take (i+1)))=aG (Oc.hex (l.take i))++aG (Oc.hex1 l[i]):=by
   rw[apG hi2,Oc.Su,kV]
  rw[e];exact h5.tail
 ·have hi2:i=l.length:=om
  subst hi2;simp only[hlt,aoB,rs];have hs:=ho.aaT 0 rfl;rw[gO (l:=Oc.hex l) aoK aoP aoD (by rw[Oc.LV];simpa using hs)];exact hK _ _ ⟨rfl,ho.done⟩
end
section
open Eng Go.RowKit
theorem repeatL_one (c:UInt8)(n:Nat):Lib.repeatL [c] n=List.replicate n c:=by
 induction n with
|zero=>rfl
|succ n ih=>simp[Lib.repeatL,atI,ih]
theorem anU (n:Nat)(h:n < 256):((UInt8.ofNat n).toNat:Int)=(n:Int):=by rw[asI];omega
theorem DO {l:List UInt8}{n:Int}{k:Nat}(h:(Bld b v l).is w)(hl:l.length < 140737488355328)(hn:n=k)(hk:k < 256):Ret ah 181 #[.pointer (aw ⟨b,0,av⟩),.int .u8 n] w
  (λr w'=>∃e',(r=.nilIface∧∃v',e'=Bld b v' (l++[UInt8.ofNat k]))∧Turn (Bld b v l) e' w w'):=by
 have:=kR (c:=UInt8.ofNat k) h hl;rw[anU k hk,<-hn] at this;exact this
theorem u8d (c:UInt8)(k:Int)(x:UInt8)(hx:(x.toNat:Int)=k):ai ((c.toNat:Int)=k)=ai (c=x):=by
 by_cases h:c=x
 ·subst h;rw[anZ hx,anZ rfl]
 ·rw[anY h,anY];intro h2;exact h (asP.1 om)
end
section
open Eng Go.RowKit
def strV (p:List UInt8):Value:=.string ⟨p.toArray⟩
def cD (ps:List (List UInt8)):List Value:=ps.map strV
theorem jW {ps:List (List UInt8)}(h:i < ps.length):(cD ps)[i]?=aw (.string ⟨ps[i].toArray⟩):=by simp[cD,strV,h]
end
section
open Eng Go.RowKit Go.ChangeShapes Go.WideShapes Go.ChangeAt
theorem Cg {x:String×DataW Unit}{l:List (String×DataW Unit)}(h:laidMet P (x::l) W):laidMet P l W:=by
 obtain⟨ps,⟨g,t,cs,fuel,p,q,_,_,_,_,hr,rfl⟩,hn,hc⟩:=h;exact⟨q,hr,(List.nodup_append.1 hn).2.1,λb off hm=>hc b off (by simp[hm])⟩
end
section
namespace Eng
open Go.RowKit
def aggN (P:Program)(T:TypeId):Option Nat:=
 match P.underlying T with
|some (.struct _)|some (.array _ _)=>(P.info? T).map (·.size)
|_=>av
def AtV (P:Program)(w:ak)(T:TypeId)(a:Addr)(v:ao):Prop:=(loadVar T a).run P w=.ok v w
section
variable {S:Nat->Prop}{P:Program}{w:ak}{PK:PKT}{K:VWP}
theorem AtV.cell {T:TypeId}(ht:eM P T=au){a:Addr}{v:ao}(h:w.cell? a=aw v):AtV P w T a v:=oY ht h
theorem AtV.agg {T:TypeId}{n:Nat}(ht:aggN P T=aw n){b off:Nat}{cs:List ao}(hl:cs.length=n)(h:∀j v,cs[j]?=aw v->w.cell? ⟨b,off+j,av⟩=aw v):AtV P w T ⟨b,off,av⟩ (.agg cs.toArray):=by
 have hc:=run_loadCells_list (P:=P) w ⟨b,off,av⟩ cs (λj v hj=>by rw[cK];exact h j v hj);unfold aggN at ht;subst hl;unfold AtV;split at ht
 ·rename_i fs hu
  obtain⟨i,hi,h1⟩:=aqN.1 ht;simp[loadVar,isAgg,run_underlying hu,sizeOf,typeInfo,hi,h1,hc]
 ·rename_i k e hu
  obtain⟨i,hi,h1⟩:=aqN.1 ht;simp[loadVar,isAgg,run_underlying hu,sizeOf,typeInfo,hi,h1,hc]
 ·cases ht
theorem bE {T:TypeId}{a:Addr}(h:AtV P w T a v):(aJ T (.pointer (aw a))).run P w=.ok (.value v) w:=by
 unfold AtV at h;exact bK (by simp[Instr.loadAt,Instr.sureAddr,h])
theorem l_at {T:TypeId}{a:Addr}(h:AtV P w T a v):DoX P (aJ T (.pointer (aw a))) w PK K=K v w:=aC (bE h)
theorem OwnS.agg {w0:ak}{L:List Ent}(ho:OwnS S w0 w L)(i:Nat){b:Nat}{cs:List ao}{E T:TypeId}(hi:L[i]?=aw (.cells b cs E))(ht:aggN P T=aw cs.length):AtV P w T ⟨b,0,av⟩ (.agg cs.toArray):=
 AtV.agg ht rfl λj v hj=>by rw[aoN];exact ho.cell i hi j hj
theorem Nq {T:TypeId}{E:TypeId}(hs:(P.info? T).map (·.size)=aw new.length)(hv:∀v∈new,v.oneCell'=au)(hl:cs.length=new.length)(h:w.heap[b]?=aw (.cells cs.toArray E (0,0))) :
  (Instr.storeAt T (.pointer (aw ⟨b,0,av⟩)) (.agg new.toArray)).run P w=.ok () (w.setRow b new.toArray):=by
 have hst:=run_storeCells_at P b 0 E new 0 cs.toArray w h (by simp;omega) hv;obtain⟨i,hi,h1⟩:=aqN.1 hs;have hd:cs.toArray.toList.drop new.length=[]:=apR (by rw[<-hl];exact aoG _);simp only[apO,aoN,arP,apK,hd,aoV] at hst;have hc:(Value.agg new.toArray).cells=new.toArray:=rfl;simp[Instr.storeAt,Instr.sureAddr,storeVar,hc,sizeOf,typeInfo,hi,h1,hst]
theorem iL (i:Nat){T:TypeId}{E:TypeId}(ho:OwnS S w0 w L)(hi:L[i]?=aw (.cells b cs E))(hs:(P.info? T).map (·.size)=aw new.length)(hv:∀v∈new,v.oneCell'=au)(hl:cs.length=new.length)
  (k:∀w',OwnS S w0 w' (L.set i (.cells b new E))->K undef w'):DoX P (aV T (.pointer (aw ⟨b,0,av⟩)) (.agg new.toArray)) w PK K:=
 D4 (Jx (Nq hs hv hl (ho.at_ i hi))) (k _ (gX ho i hi _))
theorem jG {T:TypeId}{a:List UInt8}{k:IntKind}(h:P.underlying T=aw .string)(h0:0<=lo)(h1:lo<=hi)(h2:hi<=a.length) :
  (cM T (.string ⟨a.toArray⟩) (aw (.int k lo)) (aw (.int k' hi)) av).run P w=.ok (.value (.string ⟨((a.drop lo.toNat).take (hi.toNat - lo.toNat)).toArray⟩)) w:=by
 refine bK ?_;have e:(⟨a.toArray⟩:ByteArray).extract lo.toNat hi.toNat=⟨((a.drop lo.toNat).take (hi.toNat - lo.toNat)).toArray⟩:=by
  rw[KC (s:=(⟨a.toArray⟩:ByteArray).extract lo.toNat hi.toNat),Lib.extract_data]
 have g1:(0<=hi∧hi<=((a.length:Nat):Int)):=om
 have g2:(0<=lo∧lo<=((hi.toNat:Nat):Int)):=om
 simp only[Instr.sliceAt,Instr.slice,Instr.sliceBounds,Instr.sliceBound,asIntOf,run_underlying h,cW];have g3:lo<=max hi 0:=om
 simp[run_underlying h,cW,h2,g3,h0,g1.1,e]
theorem lK {r1:RV}{K:Ending->ak->Prop}(h1:r1.read.run P w=.ok v1 w)(k:K (.returned v1) w):RetX P [r1] w K:=
 ⟨_,by simp[Fj,h1],k⟩
theorem Fv {r1 r2:RV}{K:Ending->ak->Prop}(h1:r1.read.run P w=.ok v1 w)(h2:r2.read.run P w=.ok v2 w)(k:K (.returned (.tuple #[v1,v2])) w):RetX P [r1,r2] w K:=
 ⟨_,by simp[Fj,h1,h2],k⟩
theorem QZ {r1 r2 r3:RV}{v3:ao}{K:Ending->ak->Prop}(h1:r1.read.run P w=.ok v1 w)(h2:r2.read.run P w=.ok v2 w)(h3:r3.read.run P w=.ok v3 w)(k:K (.returned (.tuple #[v1,v2,v3])) w):RetX P [r1,r2,r3] w K:=
 ⟨_,by simp[Fj,h1,h2,h3],k⟩
theorem bN {T:TypeId}{a:Addr}(h:AtV P w T a v):(RV.cell (.pointer (aw a)) T).read.run P w=.ok v w:=by
 unfold AtV at h;simp[RV.read,asAddr,h]
theorem JH :(RV.val v).read.run P w=.ok v w:=by simp[RV.read]
end
end Eng
end
section
namespace Eng
open Go.RowKit
section
variable {S:Nat->Prop}{P:Program}{w w0:ak}{L:List Ent}{PK:PKT}{K:VWP}
theorem OwnS.join {L':List Ent}(h:OwnS S w0 w L)(k:OwnS NoB w w' L'):OwnS S w0 w' (L'++L):=by
 have h':=h.grow k.below;refine⟨h'.grew,λe he=>?_,asQ.2 ⟨k.apart,h'.apart,λe he f hf b hb hb'=>?_⟩⟩
 ·rcases apF.1 he with he|he
  ·obtain⟨a,b⟩:=k.all e he;refine⟨a,λj hj=>.inr ?_⟩;rcases b j hj with h1|h1
   ·exact h1.elim
   ·exact aqQ h.size h1
  ·exact h'.all e he
 ·have h2:=f.lt (h.mem hf) b hb';rcases (k.all e he).2 b hb with h1|h1
  ·exact h1
  ·omega
theorem anR {l:Nat}{K:ak->Prop}(i:Nat)(ho:OwnS S w0 w L)(hi:L[i]?=aw (.obj l (lp L0 .ready av)))(k:∀w',OwnS S w0 w' (L.set i (.obj l (lp L0 .busy av)))->K w'):BegX P l w K:=
 ⟨_,KM (ho.at_ i hi),k _ (IH ho i hi)⟩
theorem ajY {l:Nat}{j:Option Code}{R:VWP}(i:Nat)(ho:OwnS S w0 w L)(hi:L[i]?=aw (.obj l (lp L0 .busy av)))(k:∀w',OwnS S w0 w' (L.set i (.obj l (lp L0 (if j.isNone then .ready else .done) j)))->R (.bool j.isNone) w'):EndX P l j w R:=
 ⟨_,_,NR (ho.at_ i hi),k _ (IH ho i hi)⟩
theorem amL {l:Nat}{args:List ao}{R:VWP}(h:Yld P l args w R)(k:∀v w',R v w'->K v w'):DoX P (gK (.func (.yield l) #[] #[]) args.toArray) w PK K:=by
 obtain⟨fn,tmps,asn,bdy,h1,h2⟩:=h;have hr:(gK (.func (.yield l) #[] #[]) args.toArray).run P w=.ok (.round l fn tmps asn bdy) w:=by
  rw[<-h1];simp[gK,invoke,Deferred.ofValue,resolve]
 refine⟨?_⟩;rw[hr];refine⟨RoundIn.mono h2 ?_⟩;rintro e w' ⟨v,rfl,hv⟩;exact k v w' hv
theorem range {js:List (Option Code×(Nat->ak->Prop))}{B:Nat->List ao->ak->(VWP)->Prop}{np:Nat}{fa ca:Array ao}(ho:OwnS S w0 w L)(hp:bZ P f=au)
  (h:∀(L0:Loop) (df lb:Nat) (w1:ak),OwnS S w0 w1 (.obj lb (lp L0 .ready av)::.obj df (.deferred (aw []))::L) ->
   (∀args W R,W.heap[lb]?=aw (lp L0 .ready av)->args.length=np->B lb args W R->Yld P lb args W R) ->
   Calls P f (fa++#[.func (.yield lb) #[] #[]]++ca) w1 λe w3=>∃v st pd k,e=.returned v∧st≠.busy∧w3.heap[lb]?=aw (lp L0 st pd)∧(pd,k)∈js∧k df (putO w3 lb (lp L0 .exhausted pd))) :
  RangeX P av np (.func (.func f) fa ca) w B js:=by
 refine⟨f,fa,ca,w.heap.size,w.alloc (.deferred (aw [])),rfl,hp,⟨rfl,rfl⟩,λL0 _ hy=>?_⟩;exact h L0 w.heap.size (w.alloc (.deferred (aw []))).heap.size _ ((ho.SA _).SA _) (λargs W R h1 h2 h3=>hy _ args W R h1 h2 h3)
theorem aiS {rs:List RV}{K:Ending->ak->Prop}{df:Nat}(i:Nat)(ho:OwnS S w0 w L)(hi:L[i]?=aw (.obj df (.deferred (aw []))))(k:∀w',OwnS S w0 w' (L.set i (.obj df (.deferred av)))->RetD P rs w' K):Hj P rs K [mkD df] .returning w:=by
 refine⟨(λh=>by cases h),df,_,rfl,?_,k _ (IH ho i hi)⟩;have h:w.heap[df]?=aw (.deferred (aw [])):=ho.at_ i hi;simp[Instr.takeDeferred,getObj,setObj,Sem.run,h]
end
end Eng
end
section
namespace Eng
open Go.RowKit
def eqSh (P:Program):List Field->Option (List (Nat×Bool))
|[]=>aw []
|f::fs=>
  if f.name=="_" then av
  else match P.underlying f.type with
  |some (.int _)=>(eqSh P fs).map ((f.offset,aq)::·)
  |some .string=>(eqSh P fs).map ((f.offset,au)::·)
  |_=>av
def Ro:Bool->Option ao->Option ao->Bool
|false,aw (.int k _),aw (.int k' _)=>ai (k=k')
|true,aw (.string _),aw (.string _)=>au
|_,_,_=>aq
def JS:Option ao->Option ao->Bool
|some (.int _ a),aw (.int _ b)=>a==b
|some (.string a),aw (.string b)=>a.toList==b.toList
|_,_=>aq
section
variable {P:Program}{w:ak}{PK:PKT}{K:VWP}
theorem IB (d:Nat)(xs ys:Array ao):∀(fs:List Field) (sh:List (Nat×Bool)),eqSh P fs=aw sh->(sh.all λp=>Ro p.2 xs[p.1]? ys[p.1]?)=au ->
  (Op.eqFields (d+1) xs ys fs).run P w=.ok (sh.all λp=>JS xs[p.1]? ys[p.1]?) w
|[],sh,h,_=>by
  cases h;simp[Op.eqFields]
|f::fs,sh,h,hok=>by
  rw[eqSh] at h;split at h
  ·cases h
  ·rename_i hn
   have hn':f.name≠"_":=by simpa using hn
   split at h
   ·rename_i k hu
    obtain⟨sh',h',rfl⟩:=aqN.1 h;simp only[atZ,aoY] at hok;obtain⟨h0,hok⟩:=hok;have ih:=IB d xs ys fs sh' h' hok;cases hx:xs[f.offset]? with
   |none=>rw[hx] at h0;cases h0
   |some a=>
     cases hy:ys[f.offset]? with
    |none=>rw[hx,hy] at h0;cases a<;>cases h0
    |some b=>
      rw[hx,hy] at h0;cases a<;>cases b<;>first|(cases h0;done)|skip
      rename_i k1 a k2 b
      simp only[Ro,apY] at h0;subst h0;simp only[Op.eqFields,hn',ne_eq,arX,if_true,Sem.run_bind,part,isAgg,run_underlying hu,Result.andThen_ok,Sem.run_pure,asN,if_false,hx,hy,run_equalIn_int w d f.type k1 k a b hu,atZ,JS];cases hab:(a==b)
      ·simp
      ·simp[ih];rfl
   ·rename_i hu
    obtain⟨sh',h',rfl⟩:=aqN.1 h;simp only[atZ,aoY] at hok;obtain⟨h0,hok⟩:=hok;have ih:=IB d xs ys fs sh' h' hok;cases hx:xs[f.offset]? with
   |none=>rw[hx] at h0;cases h0
   |some a=>
     cases hy:ys[f.offset]? with
    |none=>rw[hx,hy] at h0;cases a<;>cases h0
    |some b=>
      rw[hx,hy] at h0;cases a<;>cases b<;>first|(cases h0;done)|skip
      rename_i a b
      simp only[Op.eqFields,hn',ne_eq,arX,if_true,Sem.run_bind,part,isAgg,run_underlying hu,Result.andThen_ok,Sem.run_pure,asN,if_false,hx,hy,run_equalIn_string w d f.type a b hu,atZ,JS];cases hab:(a.toList==b.toList)
      ·simp
      ·simp[ih];rfl
   ·cases h
def eqT (P:Program)(T:TypeId)(sh:List (Nat×Bool)):Prop:=
 P.underlying T=aw (.struct (P.fieldsOf T))∧P.stoodInHeld T=aq∧P.eqGuardType P.depth T=aq∧eqSh P (P.fieldsOf T).toList=aw sh
theorem PW {T:TypeId}{sh:List (Nat×Bool)}(h:eqT P T sh){xs ys:Array ao}(hok:(sh.all λp=>Ro p.2 xs[p.1]? ys[p.1]?)=au) :
  (mEq .eql T xo yo (.agg xs) (.agg ys)).run P w=.ok (.value (.bool (sh.all λp=>JS xs[p.1]? ys[p.1]?))) w:=by
 obtain⟨h1,h2,h3,h4⟩:=h;refine bK ?_;rw[Sem.run_bind,run_eqGuard_agg w .eql T xo yo xs ys h3];simp only[Result.andThen_ok];rw[run_eql_struct,run_equalIn_struct w 9999 T xs ys h1 h2,IB 9998 xs ys _ sh h4 hok];rfl
theorem P1 {T:TypeId}{sh:List (Nat×Bool)}(h:eqT P T sh){xs ys:Array ao}(hok:(sh.all λp=>Ro p.2 xs[p.1]? ys[p.1]?)=au) :
  (mEq .neq T xo yo (.agg xs) (.agg ys)).run P w=.ok (.value (.bool (!(sh.all λp=>JS xs[p.1]? ys[p.1]?)))) w:=by
 obtain⟨h1,h2,h3,h4⟩:=h;refine bK ?_;rw[Sem.run_bind,run_eqGuard_agg w .neq T xo yo xs ys h3];simp only[Result.andThen_ok];rw[run_neq_struct,run_equalIn_struct w 9999 T xs ys h1 h2,IB 9998 xs ys _ sh h4 hok];rfl
end
end Eng
end
section
namespace Eng
open Go.RowKit
section
variable {P:Program}{C:ak->Prop}{K:ao->Prop}
theorem amO {E:(ao->Prop)->Prop}:GQ (.bool au) au E K=E K:=propext ⟨λx=>x.out,λx=>⟨x⟩⟩
theorem alA {E:(ao->Prop)->Prop}:GQ (.bool aq) au E K=K undef:=propext ⟨λx=>x.out,λx=>⟨x⟩⟩
theorem amP {E:(ao->Prop)->Prop}:GQ (.bool aq) aq E K=E K:=propext ⟨λx=>x.out,λx=>⟨x⟩⟩
theorem anK {E:(ao->Prop)->Prop}:GQ (.bool au) aq E K=K undef:=propext ⟨λx=>x.out,λx=>⟨x⟩⟩
theorem aiG {want:Bool}{E:(ao->Prop)->Prop}:GQ undef want E K=K undef:=propext ⟨λx=>x.out,λx=>⟨x⟩⟩
def gq:=And.intro @amO (And.intro @alA (And.intro @amP (And.intro @anK @aiG)))
theorem iV {T:TypeId}{k:IntKind}{b:Int}(h:K (.int k (k.wrap (a+b)))):QDo P C (mBin .add T (.int k a) (.int k b)) K:=q_do _ (λ_=>OB) h
theorem Nj {T:TypeId}{k:IntKind}{b:Int}(h:K (.bool (ai (a < b)))):QDo P C (mBin .lss T (.int k a) (.int k b)) K:=q_do _ (λ_=>bK (by simp[binOp,Op.intCmp])) h
theorem Yx {T:TypeId}{k:IntKind}{b:Int}(h:K (.bool (ai (a<=b)))):QDo P C (mBin .leq T (.int k a) (.int k b)) K:=q_do _ (λ_=>bK (by simp[binOp,Op.intCmp])) h
theorem acK {T:TypeId}{k:IntKind}{b:Int}(h:K (.bool (ai (b < a)))):QDo P C (mBin .gtr T (.int k a) (.int k b)) K:=q_do _ (λ_=>bK (by simp[binOp,Op.intCmp])) h
theorem aiO {T:TypeId}{k:IntKind}{b:Int}(h:K (.bool (ai (b<=a)))):QDo P C (mBin .geq T (.int k a) (.int k b)) K:=q_do _ (λ_=>bK (by simp[binOp,Op.intCmp])) h
theorem q_eq {T:TypeId}{k:IntKind}{b:Int}(h:K (.bool (ai (a=b)))):QDo P C (mEq .eql T xo yo (.int k a) (.int k b)) K:=q_do _ (λ_=>bK (by simp[eqGuard,binOp,Op.intCmp,WB])) h
theorem q_ne {T:TypeId}{k:IntKind}{b:Int}(h:K (.bool (ai (a≠b)))):QDo P C (mEq .neq T xo yo (.int k a) (.int k b)) K:=q_do _ (λ_=>bK (by simp[eqGuard,binOp,Op.intCmp,Xf])) h
theorem Z9 {c:Bool}{a b:ao}(h:K (if c then a else b)):QDo P C (eH (.bool c) a b) K:=q_do _ (λ_=>by simp[eH,asBool]) h
theorem q_pt {a b:ao}(h:K a):QDo P C (eH (.bool au) a b) K:=Z9 h
theorem q_pf {a b:ao}(h:K b):QDo P C (eH (.bool aq) a b) K:=Z9 h
theorem Q7 {T:TypeId}{cs:Array Bool}{a:List UInt8}(ht:P.underlying T=aw .string)(h:K (.int .i64 (a.length:Int))):QDo P C (mB .len #[T] U cs #[.string ⟨a.toArray⟩]) K:=q_do _ (λ_=>acW ht) h
theorem p_do {m:Sem Next}(v:ao)(h:∀w,m.run P w=.ok (.value v) w)(k:K v):PDo P m K:=⟨v,h,k⟩
theorem YX {T:TypeId}{k:IntKind}{b:Int}(hb:b≠0)(h:K (.int k (k.wrap (a.tdiv b)))):QDo P C (mBin .quo T (.int k a) (.int k b)) K:=q_do _ (λ_=>agH hb) h
theorem YG {T:TypeId}{k:IntKind}{b:Int}(hb:b≠0)(h:K (.int k (a.tmod b))):QDo P C (mBin .rem T (.int k a) (.int k b)) K:=q_do _ (λ_=>ahH hb) h
theorem q_ix {T:TypeId}{k:IntKind}{i:Int}{a:List UInt8}{c:UInt8}(ht:P.underlying T=aw .string)(h0:0<=i)(hc:a[i.toNat]?=aw c)(h:K (.int .u8 (c.toNat:Int))):QDo P C (mIx T (.string ⟨a.toArray⟩) (.int k i)) K:=q_do _ (λ_=>CE ht h0 hc) h
theorem Y7 {T:TypeId}{a b:List UInt8}(h:K (.bool (ai (a≠b)))):QDo P C (mEq .neq T xo yo (.string ⟨a.toArray⟩) (.string ⟨b.toArray⟩)) K:=by
 refine q_do _ (λ_=>bK ?_) h;have e:(a==b)=ai (a=b):=by by_cases h:a=b<;>simp[h]
 simp[eqGuard,binOp,Op.stringOp,jK,e]
theorem aO {S:TypeId}{k:IntKind}{n:Int}(hs:(P.underlying S).isSome=au)(hd:P.underlying D=aw (.int k')):(fA S D (.int k n)).run P w=.ok (.value (.int k' (k'.wrap n))) w:=by
 cases h:P.underlying S with
|none=>rw[h] at hs;cases hs
|some d=>exact bK (by simp[convert,run_underlying h,run_underlying hd,Conv.intToInt])
end
end Eng
end
section
namespace Eng
open Go.RowKit
theorem OwnS.perm {L':List Ent}(h:OwnS S w0 w L)(hp:L.Perm L'):OwnS S w0 w L':=
 ⟨h.grew,λe he=>h.all e (hp.mem_iff.2 he),(hp.pairwise_iff (λ{x y} hxy k hy hx=>hxy k hx hy)).1 h.apart⟩
theorem OwnS.front {A B C:List Ent}(h:OwnS S w0 w (A++(B++C))):OwnS S w0 w (B++(A++C)):=
 h.perm (by rw[<-aoL,<-aoL];exact List.Perm.append_right C auD)
def KS (L0:Loop)(lb df:Nat):List Ent:=[.obj lb (lp L0 .ready av),.obj df (.deferred (aw []))]
def Seq (P:Program)(I:ak->Prop)(f:Nat)(fa ca:Array ao)(F:List Ent)(vs:List ao):Prop:=
 ∀(S:Nat->Prop) (w0 w1:ak) (L0:Loop) (lb df:Nat) (M0:List Ent) (R:Nat->List Ent->Prop) (K:Ending->ak->Prop),
  (∀(L:List Ent) (W:ak),OwnS S w0 W L->I W)->OwnS S w0 w1 (KS L0 lb df++(M0++F))->R 0 M0 ->
  (∀(k:Nat) (v:ao) (M X:List Ent) (W:ak),vs[k]?=aw v->R k M->OwnS S w0 W (KS L0 lb df++(M++X)) ->
   Yld P lb [v] W (λr W'=>(r=.bool au∧∃M',R (k+1) M'∧OwnS S w0 W' (KS L0 lb df++(M'++X)))∨(r=.bool aq∧K (.returned (.tuple #[])) W'))) ->
  (∀(M X:List Ent) (W:ak),R vs.length M->OwnS S w0 W (KS L0 lb df++(M++X))->K (.returned (.tuple #[])) W) ->
  Calls P f (fa++#[.func (.yield lb) #[] #[]]++ca) w1 K
end Eng
end
section
namespace Eng
open Go.RowKit
def Ent.urow (T:TypeId)(sz:Nat)(v:ao)(n:Nat)(xs:List ao):Ent:=
 ⟨λk=>v.ownBlock=aw k,λw=>w.ownsRow 0 T sz v n xs,λ{w w'} h k=>by
  refine⟨h.1,?_⟩;rcases h.2 with hn|⟨g,cap,cur,rfl,hb,hgg,rest⟩
  ·exact .inl hn
  ·exact .inr ⟨g,cap,cur,rfl,hb,(k g rfl).trans hgg,rest⟩,λh k hk=>(World.ownsRowF.lt (World.ownsRowF_of h) k hk).2⟩
section
variable {S:Nat->Prop}{P:Program}{w:ak}{PK:PKT}{K:VWP}
theorem urow_row {T:TypeId}{n:Nat}(h:(Ent.urow T sz v n xs).is w):(Ent.row T sz v n xs).is w:=World.ownsRowF_of h
theorem Sl.urow {T:TypeId}{sz:Nat}{v:ao}{n:Nat}{xs:List ao}(h:(Ent.urow T sz v n xs).is w):Sl w v sz n xs:=Sl.row (urow_row h)
theorem OwnS.slU (ho:OwnS S w0 w L)(i:Nat){T:TypeId}{n:Nat}(hi:L[i]?=aw (.urow T sz v n xs)):Sl w v sz n xs:=Sl.urow (ho.at_ i hi)
theorem OwnS.nilU (ho:OwnS S w0 w L)(E:TypeId)(sz:Nat):OwnS S w0 w (.urow E sz (.slice av 0 0) 0 []::L):=by
 refine⟨ho.grew,λe he=>?_,.cons (λf hf k hk=>by simp[Ent.urow,Value.ownBlock] at hk) ho.apart⟩;rcases aoM.1 he with rfl|he
 ·exact⟨⟨sm,.inl ⟨rfl,rfl⟩⟩,λk hk=>by simp[Ent.urow,Value.ownBlock] at hk⟩
 ·exact ho.all e he
theorem OwnS.toU {E:TypeId}(ho:OwnS S w0 w (.cells b cs E::L))(sz n cap:Nat)(hl:cs.length=cap*sz)(hn:n<=cap)(hc:cap<=9223372036854775807) :
  OwnS S w0 w (.urow E sz (.slice (aw ⟨b,0,av⟩) n cap) n (cs.take (n*sz))::L):=by
 refine⟨ho.grew,λe he=>?_,?_⟩
 ·rcases aoM.1 he with rfl|he
  ·refine⟨⟨by rw[aoH,hl,apI (apQ _ hn)],.inr ⟨b,cap,cs.toArray,rfl,aoO _,ho.at_ 0 rfl,hn,by simp only[maxLen];omega,by simpa using hl,sm⟩⟩,λk hk=>?_⟩;simp only[Ent.urow,Value.ownBlock,arV] at hk;exact (ho.all (.cells b cs E) sm).2 k hk.symm
  ·exact ho.all e (by simp[he])
 ·refine .cons (λf hf k hk=>?_) (aqR.1 ho.apart).2;simp only[Ent.urow,Value.ownBlock,arV] at hk;exact (aqR.1 ho.apart).1 f hf k hk.symm
theorem Cj {T E:TypeId}{cs:Array Bool}{bytes n:Nat}(ht:P.underlying T=aw (.slice E))(he:elB P E sz bytes=au)(hsz:0 < sz)
  (hown:w.ownsRow 0 E sz v n xs) (hs:Sl w v2 sz m news) (h1:∀u∈news,u.oneCell'=au) (hb:(n+m)*bytes<=140737488355328) (hb2:n+m<=140737488355328) :
  ∃v' w',(mB .append #[T,T] U cs #[v,v2]).run P w=.ok (.value v') w'∧Turn (.urow E sz v n xs) (.urow E sz v' (n+m) (xs++news)) w w':=by
 obtain⟨v',w',r,t⟩:=Dq (P:=P) (U:=U) (cs:=cs) ht he hsz (World.ownsRowF_of hown) hs h1 hb hb2;refine⟨v',w',r,t.grew,?_,t.new⟩;obtain⟨i,z,hi,hz,hi1,hi2,hz1⟩:=jC he;obtain⟨hl,a,cap,rfl,hn,hc⟩:=hs;have hmx:n+m<=maxLen:=by simp only[maxLen];omega
 cases a with
|some p=>
  have hh:∀j u,news[j]?=aw u->w.cell? (p.add j)=aw u:=by
   intro j u hj;have hlt:j < news.length:=(aoX.1 hj).1;have hm:0 < m:=by
    rcases arF m with h0|h0
    ·subst h0;simp at hl;rw[hl] at hlt;simp at hlt
    ·exact h0
   obtain⟨hsp,hcell⟩:=hc p rfl;have:=hsp hm;obtain⟨b,off,spot⟩:=p;simp only at this hcell;subst this;rw[cK];exact hcell j u hj
  obtain⟨v2,w2,r1,r2,r3,r4⟩:=run_append_own (P:=P) w 0 T U E i z sz bytes ht hi hz hi1 hi2 hz1 hsz v n xs hown p m cap news hl hh h1 hmx hb (aoO _);have:(mB .append #[T,T] U cs #[v,.slice (aw p) m cap]).run P w=.ok (.value v2) w2:=by simp[mB,builtin,r1]
  rw[this] at r;cases r;exact r2
|none=>
  have h0:=hn rfl;subst h0;have hnil:news=[]:=asG (by simpa using hl);subst hnil;have:(mB .append #[T,T] U cs #[v,.slice av 0 cap]).run P w=.ok (.value v) w:=by
   rcases hown.2 with ⟨rfl,rfl⟩|⟨g,cp,cur,rfl,_,_,hnc,_⟩
   ·simp[mB,builtin,Builtin.append_,run_underlying ht,sizeOf,typeInfo,hi,Builtin.lenOf,Builtin.firstCells]
   ·simp[mB,builtin,Builtin.append_,run_underlying ht,sizeOf,typeInfo,hi,Builtin.lenOf,Builtin.firstCells,hnc,storeCells]
  rw[this] at r;cases r;rw[aoV];exact hown
theorem aX (i:Nat){T E:TypeId}{cs:Array Bool}{bytes n:Nat}(ht:P.underlying T=aw (.slice E))(he:elB P E sz bytes=au)(hsz:0 < sz)
  (ho:OwnS S w0 w L) (hi:L[i]?=aw (.urow E sz v n xs)) (hs:Sl w v2 sz m news) (h1:∀u∈news,u.oneCell'=au) (hb:(n+m)*bytes<=140737488355328) (hb2:n+m<=140737488355328)
  (k:∀v' w',OwnS S w0 w' (L.set i (.urow E sz v' (n+m) (xs++news)))->K v' w'):DoX P (mB .append #[T,T] U cs #[v,v2]) w PK K:=by
 obtain⟨v',w',r,t⟩:=Cj (cs:=cs) (U:=U) ht he hsz (ho.at_ i hi) hs h1 hb hb2;exact jV r (k _ _ (ho.turn i hi t))
theorem rW {E:TypeId}{n:Nat}(h:(Ent.urow E sz v n xs).is w)(hn:0 < n):∃g cap,v=.slice (aw ⟨g,0,av⟩) n cap:=by
 rcases (show w.ownsRow 0 E sz v n xs from h).2 with ⟨_,h0⟩|⟨g,cap,cur,rfl,_⟩
 ·omega
 ·exact⟨g,cap,rfl⟩
theorem Hd {T:TypeId}{g off:Nat}{cur:Array ao}{E:TypeId}{u:ao}(hc:u.cells=new.toArray)(hs:(P.info? T).map (·.size)=aw new.length)(h1:∀x∈new,x.oneCell'=au)
  (hg:w.heap[g]?=aw (.cells cur E (0,0))) (hl:off+new.length<=cur.size) :
  (Instr.storeAt T (.pointer (aw ⟨g,off,av⟩)) u).run P w=.ok () (w.setRow g (cur.toList.take off++new++cur.toList.drop (off+new.length)).toArray):=by
 have hst:=run_storeCells_at P g off E new 0 cur w hg (by simpa using hl) h1;obtain⟨i,hi,h2⟩:=aqN.1 hs;simp only[apO] at hst;simp[Instr.storeAt,Instr.sureAddr,storeVar,hc,sizeOf,typeInfo,hi,h2,hst]
theorem FB (i:Nat){T E:TypeId}{g off n:Nat}{u:ao}(ho:OwnS S w0 w L)(hi:L[i]?=aw (.urow E sz (.slice (aw ⟨g,0,av⟩) n cap) n xs))
  (hc:u.cells=new.toArray) (hs:(P.info? T).map (·.size)=aw new.length) (h1:∀x∈new,x.oneCell'=au) (hl:off+new.length<=n*sz)
  (k:∀w',OwnS S w0 w' (L.set i (.urow E sz (.slice (aw ⟨g,0,av⟩) n cap) n (xs.take off++new++xs.drop (off+new.length))))->K undef w'):DoX P (aV T (.pointer (aw ⟨g,off,av⟩)) u) w PK K:=by
 have hown:w.ownsRow 0 E sz (.slice (aw ⟨g,0,av⟩) n cap) n xs:=ho.at_ i hi;rcases hown.2 with ⟨h0,_⟩|⟨g',cap',cur,he,hb,hg,hnc,hcm,hcs,htake⟩
 ·cases h0
 cases he;have hle:n*sz<=cur.size:=by rw[hcs];exact apQ _ hnc
 refine D4 (Jx (Hd hc hs h1 hg om)) (k _ ?_);refine ho.put i hi (w':=w.setRow g _) ⟨rfl,rfl,rfl,by simp[World.setRow],λk _ hk=>setRow_other w g k _ (λe=>hk (by simp[Ent.urow,Value.ownBlock,e]))⟩ _ ?_ (λk hk=>.inl hk);have hxl:=hown.1;have hcl:cur.toList.length=cap*sz:=by simpa using hcs
 refine⟨by simp only[aoC,aoH,aoJ];omega,.inr ⟨g,cap,_,rfl,hb,setRow_heap w g cur _ E (0,0) hg,hnc,hcm,?_,?_⟩⟩
 ·simp only[List.size_toArray,aoC,aoH,aoJ];omega
 ·subst htake;rw[asR,apI om];simp only[aoL];rw[avC,avC,apE (l:=cur.toList.take off) (by simp;omega),apE (l:=new) (by simp;omega)]
  congr 2
  rw[aoH,apI om,List.drop_take]
  congr 1
  omega
end
end Eng
end
end Go.Proofs.YtlipjfcbjemicaaGreatDoor

namespace Go.Proofs.YtlipjfcbjemicaaGreatDoor
variable{A S:Nat->Prop}{C:ak->Prop}{D U U2:TypeId}{K K':VWP}{L:List Eng.Ent}{L0:Loop}{P:Program}{PK PK2:PKT}{W w w' w0:ak}{a hi lo:Int}{args:Array ao}{b cap d f i j m sz t:Nat}{c t0 v v' v1 v2 vc vk:ao}{cb:Array Bool}{cs cur new news xs:List ao}{k':IntKind}{u:FrameMode}{want y:Bool}{xo yo:Operand}{α β:Type}{σ:Eng.Sg}
section
open Eng Go.RowKit Go.ChangeShapes Go.WideShapes
inductive Ob where
|mk (k n g:Int) (s:List UInt8) (keys:List (List UInt8)) (kids:List Ob)
namespace Ob
def k:Ob->Int|.mk k _ _ _ _ _=>k
def n:Ob->Int|.mk _ n _ _ _ _=>n
def g:Ob->Int|.mk _ _ g _ _ _=>g
def s:Ob->List UInt8|.mk _ _ _ s _ _=>s
def keys:Ob->List (List UInt8)|.mk _ _ _ _ keys _=>keys
def kids:Ob->List Ob|.mk _ _ _ _ _ kids=>kids
 mutual
def wt:Ob->Nat
|.mk _ _ _ s keys kids=>6+s.length+Pl.tot keys+wts kids
def wts:List Ob->Nat
|[]=>0
|o::os=>wt o+wts os
end
end Ob
def SlA (A:Nat->Prop)(w:ak)(v:ao)(sz n:Nat)(cs:List ao):Prop:=Sl w v sz n cs∧(∀p l c,v=.slice (aw p) l c->0 < n->A p.block)∧∀a l c,v=.slice a l c->l<=c
 mutual
def OV (A:Nat->Prop)(w:ak):ao->Ob->Prop
|v,.mk k n g s keys kids=>∃vk vc cs,v=.agg #[.int .i64 k,.int .i64 n,.int .i64 g,.string ⟨s.toArray⟩,vk,vc]∧SlA A w vk 1 keys.length (cD keys)∧SlA A w vc 6 kids.length cs∧OVs A w cs kids
def OVs (A:Nat->Prop)(w:ak):List ao->List Ob->Prop
|cs,[]=>cs=[]
|cs,o::os=>∃(a rest:List ao),cs=a++rest∧a.length=6∧OV A w (.agg a.toArray) o∧OVs A w rest os
end
def Kept (A:Nat->Prop)(w w':ak):Prop:=∀b,A b->w'.heap[b]?=w.heap[b]?
theorem VB (h:Kept A w w'){p:Addr}(hp:A p.block)(hc:w.cell? p=aw v):w'.cell? p=aw v:=by
 have:=h p.block hp;unfold World.cell? at hc ⊢;rw[this];exact hc
theorem SlA.kept {n:Nat}(h:SlA A w v sz n cs)(hk:Kept A w w'):SlA A w' v sz n cs:=by
 obtain⟨⟨hl,a,cap,rfl,h1,h2⟩,hA,hC⟩:=h;refine⟨⟨hl,a,cap,rfl,h1,λp hp=>?_⟩,hA,hC⟩;obtain⟨h3,h4⟩:=h2 p hp;refine⟨h3,λj u hj=>?_⟩;have hn:0 < n:=by
  rcases arF n with h|h
  ·subst h;rw[arJ] at hl;have:=(aoX.1 hj).1;omega
  ·exact h
 exact VB hk (hA p n cap (by rw[hp]) hn) (h4 j u hj)
 mutual
theorem OV.kept {A:Nat->Prop}{w w':ak}(hk:Kept A w w'):∀(o:Ob) (v:ao),OV A w v o->OV A w' v o
|.mk k n g s keys kids,v,h=>by
  rw[OV] at h ⊢;obtain⟨vk,vc,cs,hv,h1,h2,h3⟩:=h;exact⟨vk,vc,cs,hv,h1.kept hk,h2.kept hk,OVs.kept hk kids cs h3⟩
theorem OVs.kept {A:Nat->Prop}{w w':ak}(hk:Kept A w w'):∀(os:List Ob) (cs:List ao),OVs A w cs os->OVs A w' cs os
|[],cs,h=>by rw[OVs] at h ⊢;exact h
|o::os,cs,h=>by
  rw[OVs] at h ⊢;obtain⟨a,rest,he,hl,h1,h2⟩:=h;exact⟨a,rest,he,hl,OV.kept hk o _ h1,OVs.kept hk os rest h2⟩
end
 mutual
theorem OV.mono {A B:Nat->Prop}{w:ak}(hAB:∀b,A b->B b):∀(o:Ob) (v:ao),OV A w v o->OV B w v o
|.mk k n g s keys kids,v,h=>by
  rw[OV] at h ⊢;obtain⟨vk,vc,cs,hv,h1,h2,h3⟩:=h;exact⟨vk,vc,cs,hv,⟨h1.1,λp l c e hn=>hAB _ (h1.2.1 p l c e hn),h1.2.2⟩,⟨h2.1,λp l c e hn=>hAB _ (h2.2.1 p l c e hn),h2.2.2⟩,OVs.mono hAB kids cs h3⟩
theorem OVs.mono {A B:Nat->Prop}{w:ak}(hAB:∀b,A b->B b):∀(os:List Ob) (cs:List ao),OVs A w cs os->OVs B w cs os
|[],cs,h=>by rw[OVs] at h ⊢;exact h
|o::os,cs,h=>by
  rw[OVs] at h ⊢;obtain⟨a,rest,he,hl,h1,h2⟩:=h;exact⟨a,rest,he,hl,OV.mono hAB o _ h1,OVs.mono hAB os rest h2⟩
end
theorem OVs.get {A:Nat->Prop}{w:ak}:∀(os:List Ob) (cs:List ao) (i:Nat) (hi:i < os.length),OVs A w cs os->∃a:List ao,a.length=6∧OV A w (.agg a.toArray) os[i]∧∀j v,a[j]?=aw v->cs[i*6+j]?=aw v
|[],cs,i,hi,h=>by simp at hi
|o::os,cs,0,hi,h=>by
  rw[OVs] at h;obtain⟨a,rest,rfl,hl,h1,h2⟩:=h;refine⟨a,hl,h1,λj v hj=>?_⟩;rw[arJ,aoN,aqO (aoX.1 hj).1];exact hj
|o::os,cs,i+1,hi,h=>by
  rw[OVs] at h;obtain⟨a,rest,rfl,hl,h1,h2⟩:=h;obtain⟨b,hb,hv,hc⟩:=OVs.get os rest i (by simpa using hi) h2;refine⟨b,hb,hv,λj v hj=>?_⟩;rw[arD om,hl,show (i+1)*6+j - 6=i*6+j by omega];exact hc j v hj
theorem OVs.nil :OVs A w [] []:=by rw[OVs]
theorem SlA.nil (A:Nat->Prop)(w:ak)(sz cap:Nat):SlA A w (.slice av 0 cap) sz 0 []:=⟨Sl.nil w sz cap,(λp l c e _=>by injection e with e _ _;cases e),λa l c e=>by injection e with _ e2 e3;omega⟩
end
section
open Eng Go.RowKit Go.ChangeShapes Go.WideShapes
theorem OVs.snoc {A:Nat->Prop}{w:ak}{a:List ao}{o:Ob}(hl:a.length=6)(ho:OV A w (.agg a.toArray) o):∀(os:List Ob) (cs:List ao),OVs A w cs os->OVs A w (cs++a) (os++[o])
|[],cs,h=>by
  rw[OVs] at h;subst h;rw[apK,apK,OVs];exact⟨a,[],sm,hl,ho,OVs.nil⟩
|p::os,cs,h=>by
  rw[OVs] at h;obtain⟨b,rest,rfl,hb,h1,h2⟩:=h;rw[auN,OVs];exact⟨b,rest++a,sm,hb,h1,OVs.snoc hl ho os rest h2⟩
section
variable {H:Type}{enc:TypeId×ao->H}{W:ak}{sp:Nat->Bool}{held:Bool}
abbrev InW (W:ak):Nat->Prop:=λb=>b < W.heap.size
end
end
section
namespace Eng
open Go.RowKit
structure Mem where
 A:Nat->Prop
 w:ak
 lt:∀b,A b->b < w.heap.size
def Mem.has (M:Mem)(w:ak):Prop:=∀b,M.A b->w.heap[b]?=M.w.heap[b]?
structure Mem.le (M N:Mem):Prop where
 A:∀b,M.A b->N.A b
 has:M.has N.w
def Mem.all (w:ak):Mem:=⟨λb=>b < w.heap.size,w,λ_ h=>h⟩
theorem Mem.aaR (w:ak):(Mem.all w).has w:=λ_ _=>rfl
theorem Mem.le_refl (M:Mem):M.le M:=⟨λ_ h=>h,λ_ _=>rfl⟩
theorem Mem.le_trans {M N O:Mem}(h:M.le N)(k:N.le O):M.le O:=⟨λb hb=>k.A b (h.A b hb),λb hb=>(k.has b (h.A b hb)).trans (h.has b hb)⟩
theorem Mem.Ov {M N:Mem}(h:M.le N)(k:N.has w):M.has w:=λb hb=>(k b (h.A b hb)).trans (h.has b hb)
theorem Mem.bd {M:Mem}(h:M.has w)(hb:M.A b):b < w.heap.size:=by
 have h1:=h b hb;rw[Array.getElem?_eq_getElem (M.lt b hb)] at h1;exact dW h1
theorem Mem.O7 {M:Mem}(h:M.has w)(k:Below w.heap.size w w'):M.has w':=λb hb=>(k.block b (Mem.bd h hb)).trans (h b hb)
def Ent.mem (M:Mem):Ent:=⟨M.A,M.has,λh k b hb=>(k b hb).trans (h b hb),λh k hk=>Mem.bd h hk⟩
structure Gives (M:Mem) (w w':ak) (N:Mem):Prop where
 le:M.le N
 has:N.has w'
 new:∀b,N.A b->M.A b∨w.heap.size<=b
 below:Below w.heap.size w w'
def RetM (P:Program)(f:Nat)(args:Array ao)(M:Mem)(w:ak)(R:ao->Mem->Prop):Prop:=Ret P f args w (λv w'=>∃N,Gives M w w' N∧R v N)
theorem RetM.mono {P:Program}{f:Nat}{args:Array ao}{M:Mem}{w:ak}{R R':ao->Mem->Prop}(h:RetM P f args M w R)(k:∀v N,M.le N->R v N->R' v N):RetM P f args M w R':=
 Ret.mono h λv w' ⟨N,g,r⟩=>⟨N,g,k v N g.le r⟩
section
variable {S:Nat->Prop}{P:Program}{w w0:ak}{L:List Ent}{PK:PKT}{K:VWP}
theorem OwnS.memS {M:Mem}(h:M.has w):OwnS M.A w w [.mem M]:=OwnS.lend (e:=.mem M) h
theorem OwnS.hasM {M:Mem}(ho:OwnS S w0 w L)(i:Nat)(hi:L[i]?=aw (.mem M)):M.has w:=ho.at_ i hi
theorem OwnS.amC {M N:Mem}(ho:OwnS S w0 w L)(i:Nat)(hi:L[i]?=aw (.mem M))(g:Gives M w w' N):OwnS S w0 w' (L.set i (.mem N)):=
 ho.turn i hi ⟨LF g.below,g.has,g.new⟩
theorem OwnS.abK {M0 N:Mem}(ho:OwnS M0.A w w' L)(i:Nat)(hi:L[i]?=aw (.mem N))(hle:M0.le N)(h0:M0.has w):Gives M0 w w' N:=by
 have hm:=ho.all (.mem N) (arN hi);refine⟨hle,hm.1,λb hb=>hm.2 b hb,ho.grew.os,ho.grew.tape,ho.grew.output,ho.grew.size,λk hk=>?_⟩;by_cases hA:M0.A k
 ·rw[h0 k hA];have h1:w'.heap[k]?=N.w.heap[k]?:=hm.1 k (hle.A k hA);rw[h1];exact hle.has k hA
 ·exact ho.grew.block k hk hA
theorem aU {M:Mem}{R:ao->Mem->Prop}(hM:M.has w)
  (h:∀K:Ending->ak->Prop,(∀(v:ao) (w':ak) (N:Mem) (L:List Ent) (i:Nat),OwnS M.A w w' L->L[i]?=aw (.mem N)->M.le N->R v N->K (.returned v) w')->Calls P f args w K):RetM P f args M w R:=
 aK λK hK=>h K λv w' N L i ho hi hle hr=>hK v w' ⟨N,ho.abK i hi hle hM,hr⟩
theorem bI {M:Mem}{R:ao->Mem->Prop}(ho:OwnS S w0 w L)(i:Nat)(hi:L[i]?=aw (.mem M))(h:RetM P f args M w R)
  (k:∀v N w',M.le N->R v N->OwnS S w0 w' (L.set i (.mem N))->K v w'):CallX P f args w PK K:=
 Eh h λv w' ⟨N,g,r⟩=>k v N w' g.le r (ho.amC i hi g)
theorem OwnS.freeze {M:Mem}{e:Ent}(ho:OwnS S w0 w (e::L))(i:Nat)(hi:L[i]?=aw (.mem M)) :
  ∃N:Mem,M.le N∧N.w=w∧(∀b,e.blk b->N.A b)∧OwnS S w0 w (L.set i (.mem N)):=by
 have he:=ho.all e sm;have hM:M.has w:=ho.at_ (i+1) (by simpa using hi);have hlt:∀b,M.A b∨e.blk b->b < w.heap.size:=λb hb=>hb.elim (λh=>Mem.bd hM h) (λh=>e.lt he.1 b h)
 let N:Mem:=⟨λb=>M.A b∨e.blk b,w,hlt⟩
 have hil:i < L.length:=(aoX.1 hi).1;have hie:L[i]=.mem M:=(aoX.1 hi).2;obtain⟨a1,a2⟩:=aqR.1 ho.apart;have hp:=asM.1 a2;have bM:∀k,M.A k->(L[i]).blk k:=λk hk=>by rw[hie];exact hk
 refine⟨N,⟨λb hb=>.inl hb,hM⟩,rfl,λb hb=>.inr hb,ho.grew,?_,?_⟩
 ·intro f hf;obtain⟨j,hj,rfl⟩:=asF hf;rw[aqM] at hj;rw[atY];split
  ·refine⟨λb _=>rfl,λk hk=>?_⟩;rcases hk with hk|hk
   ·exact (ho.all (.mem M) (by rw[<-hie];exact apA _ (aoR hil))).2 k hk
   ·exact he.2 k hk
  ·exact ho.all _ (apA _ (aoR hj))
 ·rw[asM];intro a b ha hb hab k hk;rw[aqM] at ha hb;rw[atY] at hk;rw[atY];split at hk
  ·rename_i hia
   subst hia;rw[anW om];rcases hk with hk|hk
   ·exact hp i b ha hb hab k (bM k hk)
   ·exact a1 _ (aoR hb) k hk
  ·split
   ·rename_i hib
    subst hib;intro hk';rcases hk' with hk'|hk'
    ·exact hp a i ha hb hab k hk (bM k hk')
    ·exact a1 _ (aoR ha) k hk' hk
   ·exact hp a b ha hb hab k hk
end
end Eng
open Eng Go.RowKit
theorem SlA.le {M N:Mem}(h:M.le N){v:ao}{sz n:Nat}{cs:List ao}(hs:SlA M.A M.w v sz n cs):SlA N.A N.w v sz n cs:=by
 have:=hs.kept (w':=N.w) h.has;exact⟨this.1,(λp l c e hn=>h.A _ (this.2.1 p l c e hn)),this.2.2⟩
theorem SlA.now {M:Mem}(h:M.has w){n:Nat}(hs:SlA M.A M.w v sz n cs):Sl w v sz n cs:=(hs.kept (w':=w) h).1
theorem OV.le {M N:Mem}(h:M.le N){v:ao}{o:Ob}(hv:OV M.A M.w v o):OV N.A N.w v o:=OV.mono h.A o v (OV.kept h.has o v hv)
theorem OVs.le {M N:Mem}(h:M.le N){cs:List ao}{os:List Ob}(hv:OVs M.A M.w cs os):OVs N.A N.w cs os:=OVs.mono h.A os cs (OVs.kept h.has os cs hv)
theorem OV.inw {M:Mem}(h:M.has w){o:Ob}(hv:OV M.A M.w v o):OV (InW w) w v o:=OV.mono (λb hb=>Mem.bd h hb) o v (OV.kept h o v hv)
end
section
namespace Eng
open Go.RowKit
section
variable {S:Nat->Prop}{P:Program}{w w0:ak}{L:List Ent}{PK:PKT}{K:VWP}
theorem Z1 {T E:TypeId}{a:Option Addr}{n c n' c':Nat}(h:P.underlying T=aw (.slice E)):DoX P (mEq .eql T xo yo (.slice a n c) (.slice av n' c')) w PK K=K (.bool a.isNone) w:=by
 refine fI ?_;simp[eqGuard,Lib.run_eql_slice_nil w T E a n c n' c' h]
theorem agA {T E:TypeId}{a:Option Addr}{n c n' c':Nat}(h:P.underlying T=aw (.slice E)):DoX P (mEq .neq T xo yo (.slice a n c) (.slice av n' c')) w PK K=K (.bool (!a.isNone)) w:=by
 refine fI ?_;have:=Lib.run_equalIn_slice_nil (P:=P) w 9999 T E a n c n' c' h;simp[eqGuard,binOp,Op.equal,Op.maxDepth,this]
def subA (a:Option Addr)(l cap sz:Nat):Option Addr:=if cap=l then a else a.map (·.add (l*sz))
theorem fE {off l:Nat}(h:l < cap):subA (aw ⟨b,off,av⟩) l cap sz=aw ⟨b,off+l*sz,av⟩:=by
 unfold subA;rw[anW om,atG,cK]
theorem Hq {a:Addr}:subA (aw ⟨a.block,a.off,av⟩) 0 cap sz=aw ⟨a.block,a.off,av⟩:=by
 unfold subA;split
 ·rfl
 ·rw[atG,cK,arJ,apO]
theorem dG {T E:TypeId}{k:IntKind}{a:Option Addr}{n:Nat}(h:P.underlying T=aw (.slice E))(hsz:(P.info? E).map (·.size)=aw sz)(h0:0<=lo)(h1:lo<=n) :
  (cM T (.slice a n cap) (aw (.int k lo)) av av).run P w=.ok (.value (.slice (subA a lo.toNat cap sz) (n - lo.toNat) (cap - lo.toNat))) w:=by
 obtain⟨i,hi,h2⟩:=aqN.1 hsz;have he:P.elem T=E:=by simp[Program.elem,h]
 have ht:P.underlying T=aw (.slice (P.elem T)):=by rw[he];exact h
 refine bK ?_;rw[run_sliceAt_slice w T _ _ _ _ ht,run_slice_l w T a n cap ht k lo h0 h1];simp[sizeOf,typeInfo,he,hi,h2,sliced,subA]
theorem jB {T E:TypeId}{k:IntKind}{a:Option Addr}{n:Nat}(h:P.underlying T=aw (.slice E))(hsz:(P.info? E).map (·.size)=aw sz)(h0:0<=hi)(h1:hi<=cap) :
  (cM T (.slice a n cap) av (aw (.int k hi)) av).run P w=.ok (.value (.slice (subA a 0 cap sz) hi.toNat cap)) w:=by
 obtain⟨i,hi',h2⟩:=aqN.1 hsz;have he:P.elem T=E:=by simp[Program.elem,h]
 have ht:P.underlying T=aw (.slice (P.elem T)):=by rw[he];exact h
 refine bK ?_;rw[run_sliceAt_slice w T _ _ _ _ ht,run_slice_h w T a n cap ht k hi h0 h1];simp[sizeOf,typeInfo,he,hi',h2,sliced,subA]
theorem NV {T E:TypeId}{k:IntKind}{a:Option Addr}{n:Nat}(h:P.underlying T=aw (.slice E))(hsz:(P.info? E).map (·.size)=aw sz)(h0:0<=lo)(h1:lo<=hi)(h2:hi<=cap) :
  (cM T (.slice a n cap) (aw (.int k lo)) (aw (.int k' hi)) av).run P w=.ok (.value (.slice (subA a lo.toNat cap sz) (hi.toNat - lo.toNat) (cap - lo.toNat))) w:=by
 obtain⟨i,hi',h3⟩:=aqN.1 hsz;have he:P.elem T=E:=by simp[Program.elem,h]
 have ht:P.underlying T=aw (.slice (P.elem T)):=by rw[he];exact h
 refine bK ?_;rw[run_sliceAt_slice w T _ _ _ _ ht,run_slice_lh w T a n cap ht k k' lo hi h0 h1 h2];simp[sizeOf,typeInfo,he,hi',h3,sliced,subA]
theorem G9 {T E:TypeId}{k k2:IntKind}{a:Option Addr}{n:Nat}{m:Int}(h:P.underlying T=aw (.slice E))(hsz:(P.info? E).map (·.size)=aw sz)(h0:0<=lo)(h1:lo<=hi)(h2:hi<=m)(h3:m<=cap) :
  (cM T (.slice a n cap) (aw (.int k lo)) (aw (.int k' hi)) (aw (.int k2 m))).run P w=.ok (.value (.slice (subA a lo.toNat m.toNat sz) (hi.toNat - lo.toNat) (m.toNat - lo.toNat))) w:=by
 obtain⟨i,hi',h4⟩:=aqN.1 hsz;have he:P.elem T=E:=by simp[Program.elem,h]
 have ht:P.underlying T=aw (.slice (P.elem T)):=by rw[he];exact h
 refine bK ?_;rw[run_sliceAt_slice w T _ _ _ _ ht,run_slice_lhm w T a n cap ht k k' k2 lo hi m h0 h1 h2 h3];simp[sizeOf,typeInfo,he,hi',h4,sliced,subA]
theorem Gr {T E:TypeId}{a:Option Addr}{n:Nat}(h:P.underlying T=aw (.slice E)):(mB .len #[T] U cb #[.slice a n cap]).run P w=.ok (.value (.int .i64 (n:Int))) w:=by
 simp[mB,builtin,Builtin.len_,run_underlying h,goInt]
theorem RG {T E:TypeId}{a:Option Addr}{n:Nat}(h:P.underlying T=aw (.slice E)):DoX P (mB .cap #[T] U cb #[.slice a n cap]) w PK K=K (.int .i64 (cap:Int)) w:=by
 refine aC ?_;simp[mB,builtin,Builtin.cap_,run_underlying h,goInt]
theorem QU {T E:TypeId}{bytes n:Nat}{kl kc:IntKind}(ht:P.underlying T=aw (.slice E))(he:elB P E sz bytes=au)(hb:bytes*n<=281474976710656)(hn:n<=281474976710656)(ho:OwnS S w0 w L)
  (k:∀(g:Nat) (w':ak) (zs:List ao),zs.length=n*sz->OwnS S w0 w' (.cells g zs E::L)->K (.slice (aw ⟨g,0,av⟩) n n) w'):DoX P (H4 T (.int kl (n:Int)) (.int kc (n:Int))) w PK K:=by
 obtain⟨i,z,hi,hz,hi1,hi2,hz1⟩:=jC he;have hb':(i.bytes:Int)*(n:Int)<=281474976710656:=by rw[hi2,<-Int.natCast_mul];omega
 have hr:=run_make (P:=P) w T E i z ht hi hz kl kc n n om om hb' om;rw[aoF] at hr;refine jV (bK hr) (k _ _ (madeCells z.cells (n*i.size)).toList ?_ ?_)
 ·rw[Array.length_toList,size_madeCells,hi1]
 ·have:=ho.alloc (madeCells z.cells (n*i.size)).toList E
  rwa [avX] at this
theorem Kc {dT sT ty T E:TypeId}{g o dLen dCap:Nat}{a:Addr}{sLen sCap:Nat}{src:List ao}(hu:P.underlying dT=aw (.slice E))(hsz:(P.info? E).map (·.size)=aw sz)
  (hg:w.heap[g]?=aw (.cells cur.toArray T (0,0))) (hn:src.length=Nat.min sLen dLen*sz) (hsrc:∀j v,src[j]?=aw v->w.cell? (a.add j)=aw v) (hfit:o+src.length<=cur.length) (h1:∀v∈src,v.oneCell'=au) :
  (mB .copy #[dT,sT] ty cb #[.slice (aw ⟨g,o,av⟩) dLen dCap,.slice (aw a) sLen sCap]).run P w=.ok (.value (goInt (Nat.min sLen dLen))) (w.setRow g (cur.take o++src++cur.drop (o+src.length)).toArray):=by
 have hl:=run_loadCells_list (P:=P) w a src hsrc;have hst:=run_storeCells_at P g o T src 0 cur.toArray w hg (by simpa using hfit) h1;obtain⟨i,hi,h2⟩:=aqN.1 hsz;rw[hn] at hl;simp only[apO] at hst;simp[mB,builtin,Builtin.copy_,run_underlying hu,Builtin.lenOf,Builtin.firstCells,sizeOf,typeInfo,hi,h2,hl,hst]
theorem yH (i:Nat){dT sT ty T E:TypeId}{g o dLen dCap:Nat}{a:Addr}{sLen sCap:Nat}{src:List ao}(hu:P.underlying dT=aw (.slice E))(hsz:(P.info? E).map (·.size)=aw sz)
  (ho:OwnS S w0 w L) (hi:L[i]?=aw (.cells g cur T)) (hn:src.length=min sLen dLen*sz) (hsrc:∀j v,src[j]?=aw v->w.cell? (a.add j)=aw v) (hfit:o+src.length<=cur.length) (h1:∀v∈src,v.oneCell'=au)
  (k:∀v' w',OwnS S w0 w' (L.set i (.cells g (cur.take o++src++cur.drop (o+src.length)) T))->K v' w') :
  DoX P (mB .copy #[dT,sT] ty cb #[.slice (aw ⟨g,o,av⟩) dLen dCap,.slice (aw a) sLen sCap]) w PK K:=
 jV (Kc hu hsz (ho.at_ i hi) hn hsrc hfit h1) (k _ _ (gX ho i hi _))
theorem Wc {T tn E:TypeId}{kn kq:IntKind}{g n bytes:Nat}{olds:List ao}(ht:P.underlying T=aw (.slice E))(htn:P.underlying tn=aw (.int kn))(he:elB P E sz bytes=au)(hsz:0 < sz)
  (ho:OwnS S w0 w L) (hol:olds.length=n*sz) (hold:∀j u,olds[j]?=aw u->w.cell? ⟨g,0+j,av⟩=aw u) (h0:0 < m) (hg:cap < n+m) (hb:(n+m)*bytes<=140737488355328) (hb2:n+m<=140737488355328)
  (k:∀(b c:Nat) (zs:List ao) (w':ak),n+m<=c->c<=9223372036854775807->zs.length+n*sz=c*sz->OwnS S w0 w' (.cells b (olds++zs) E::L)->K (.slice (aw ⟨b,0,av⟩) (n+m) c) w') :
  DoX P (mB .append #[T,tn] U cb #[.slice (aw ⟨g,0,av⟩) n cap,.int kq (m:Int)]) w PK K:=by
 obtain⟨i,z,hi,hz,hi1,hi2,hz1⟩:=jC he;have hold':(Builtin.firstCells i.size n (.slice (aw ⟨g,0,av⟩) n cap)).run P w.drew=.ok olds.toArray w.drew:=by
  have hl:=run_loadCells_list (P:=P) w.drew ⟨g,0,av⟩ olds (λj v hj=>by rw[cK];exact hold j v hj);simp only[Builtin.firstCells,hi1,<-hol];exact hl
 have hge:=grownCap_ge w (n+m) cap E;have hle:=grownCap_le_maxLen w (n+m) cap E (by simp only[maxLen];omega);have hr:=Lib.run_append_grow_zeros (P:=P) w T tn U E i z kq kn ht htn hi hz (aw ⟨g,0,av⟩) n cap olds hold' m h0 om hg om (by
   rw[hi2];have:m*bytes<=(n+m)*bytes:=apQ _ om;omega) (by rw[hi2];exact growslice_fits hg hb)
 have hzc:∀x,(Builtin.zeroCells z.cells x).toList.length=x*sz:=by intro x;simp[Builtin.zeroCells,hz1]
 obtain⟨zs,hzs⟩:∃zs,zs=(Builtin.zeroCells z.cells m).toList++(Builtin.zeroCells z.cells (grownCap w (n+m) cap E - (n+m))).toList:=⟨_,rfl⟩;have hlen:zs.length+n*sz=grownCap w (n+m) cap E*sz:=by
  rw[hzs,aoC,hzc,hzc,<-arC,<-arC]
  congr 1
  omega
 have key:=(ho.drew).alloc (olds++zs) E;have e:(olds++zs).toArray=olds.toArray++Builtin.zeroCells z.cells m++Builtin.zeroCells z.cells (grownCap w (n+m) cap E - (n+m)):=by
  rw[hzs];simp
 have hr':(mB .append #[T,tn] U cb #[.slice (aw ⟨g,0,av⟩) n cap,.int kq (m:Int)]).run P w=.ok (.value (.slice (aw ⟨w.heap.size,0,av⟩) (n+m) (grownCap w (n+m) cap E))) (w.drew.alloc (.cells (olds++zs).toArray E)):=by
  rw[e];simp[mB,builtin,hr]
 exact jV hr' (k w.heap.size _ zs _ hge (by simp only[maxLen] at hle;exact hle) hlen key)
theorem LM (i:Nat){T E:TypeId}{g n c bytes:Nat}{a:Addr}(ht:P.underlying T=aw (.slice E))(he:elB P E sz bytes=au)
  (ho:OwnS S w0 w L) (hi:L[i]?=aw (.cells g cur E)) (hl:news.length=m*sz) (hnews:∀j u,news[j]?=aw u->w.cell? (a.add j)=aw u) (h1:∀u∈news,u.oneCell'=au) (hroom:n+m<=cap) (hfit:n*sz+news.length<=cur.length)
  (k:∀w',OwnS S w0 w' (L.set i (.cells g (cur.take (n*sz)++news++cur.drop (n*sz+news.length)) E))->K (.slice (aw ⟨g,0,av⟩) (n+m) cap) w') :
  DoX P (mB .append #[T,T] U cb #[.slice (aw ⟨g,0,av⟩) n cap,.slice (aw a) m c]) w PK K:=by
 obtain⟨ii,z,hii,hz,hi1,hi2,hz1⟩:=jC he;have hg:w.heap[g]?=aw (.cells cur.toArray E (0,0)):=ho.at_ i hi;have hr:=run_append_roomF (P:=P) w T U E ii ht hii g n cap cur.toArray (0,0) hg (aoO _) a m c news (by rw[hi1];exact hl) hnews h1 hroom (by rw[hi1];simpa using hfit);rw[hi1] at hr;have hr':(mB .append #[T,T] U cb #[.slice (aw ⟨g,0,av⟩) n cap,.slice (aw a) m c]).run P w=.ok (.value (.slice (aw ⟨g,0,av⟩) (n+m) cap)) (w.setRow g (cur.take (n*sz)++news++cur.drop (n*sz+news.length)).toArray):=by
  simp[mB,builtin,hr]
 exact jV hr' (k _ (gX ho i hi _))
def zB (P:Program)(E:TypeId):Bool:=
 match P.info? E with
|some i=>match i.zero with
 |some z=>z.cells.toList.all (·.oneCell')
 |none=>aq
|none=>aq
theorem Rt (i:Nat){T E:TypeId}{g o n c bytes:Nat}(ht:P.underlying T=aw (.slice E))(he:elB P E sz bytes=au)(hz:zB P E=au)(h0:0 < n)
  (ho:OwnS S w0 w L) (hi:L[i]?=aw (.cells g cur E)) (hfit:o+n*sz<=cur.length)
  (k:∀v' w' zs,zs.length=n*sz->OwnS S w0 w' (L.set i (.cells g (cur.take o++zs++cur.drop (o+n*sz)) E))->K v' w') :
  DoX P (mB .clear #[T] U cb #[.slice (aw ⟨g,o,av⟩) n c]) w PK K:=by
 obtain⟨ii,z,hii,hz',hi1,hi2,hz1⟩:=jC he;have hg:w.heap[g]?=aw (.cells cur.toArray E (0,0)):=ho.at_ i hi;have hone:∀x∈z.cells.toList,x.oneCell'=true:=by
  unfold zB at hz;rw[hii] at hz;simp only[hz'] at hz;exact aqU.1 hz
 have hzl:(Builtin.zeroCells z.cells n).toList.length=n*sz:=by simp[Builtin.zeroCells,hz1]
 have hzo:∀x∈(Builtin.zeroCells z.cells n).toList,x.oneCell'=true:=by
  intro x hx;simp only[Builtin.zeroCells,Array.toList_map,apN,Array.toList_range,apZ] at hx;obtain⟨j,hj,rfl⟩:=hx;have hjs:j % z.cells.size < z.cells.size:=aqW _ (by
   rcases arF z.cells.size with h|h
   ·rw[h] at hj;simp at hj
   ·exact h)
  rw[getElem!_pos z.cells (j % z.cells.size) hjs];exact hone _ sm
 have hst:=run_storeCells_at P g o E (Builtin.zeroCells z.cells n).toList 0 cur.toArray w hg (by rw[hzl];simpa using hfit) hzo;simp only[apO] at hst;obtain⟨m,rfl⟩:∃m,n=m+1:=⟨n - 1,om⟩;have hr':(mB .clear #[T] U cb #[.slice (aw ⟨g,o,av⟩) (m+1) c]).run P w=.ok (.value (.tuple #[])) (w.setRow g (cur.take o++(Builtin.zeroCells z.cells (m+1)).toList++cur.drop (o+(m+1)*sz)).toArray):=by
  simp[mB,builtin,Builtin.clear_,run_underlying ht,zeroValue,typeInfo,hii,hz',hst];rw[<-hzl];simp
 exact jV hr' (k _ _ _ hzl (gX ho i hi _))
theorem abS {cs':List ao}{off:Nat}(h:(cs.drop off).take cs'.length=cs')(hj:cs'[j]?=aw v):cs[off+j]?=aw v:=by
 rw[<-h] at hj;rw[arB] at hj;split at hj
 ·rwa [aqG] at hj
 ·cases hj
theorem OwnS.ajH (ho:OwnS S w0 w L)(i:Nat){E T:TypeId}(hi:L[i]?=aw (.cells b cs E))(off:Nat)(cs':List ao)(hcs:(cs.drop off).take cs'.length=cs')(ht:aggN P T=aw cs'.length):AtV P w T ⟨b,off,av⟩ (.agg cs'.toArray):=
 AtV.agg ht rfl λj v hj=>ho.cell i hi (off+j) (abS hcs hj)
theorem GI (i:Nat){T:TypeId}{off:Nat}{E:TypeId}(ho:OwnS S w0 w L)(hi:L[i]?=aw (.cells b cs E))(hs:(P.info? T).map (·.size)=aw new.length)(hv:∀v∈new,v.oneCell'=au)(hl:off+new.length<=cs.length)
  (k:∀w',OwnS S w0 w' (L.set i (.cells b (cs.take off++new++cs.drop (off+new.length)) E))->K undef w'):DoX P (aV T (.pointer (aw ⟨b,off,av⟩)) (.agg new.toArray)) w PK K:=by
 have hr:=Hd (P:=P) (T:=T) (g:=b) (off:=off) (cur:=cs.toArray) (E:=E) (u:=.agg new.toArray) (new:=new) rfl hs hv (ho.at_ i hi) (by simpa using hl);refine D4 (Jx hr) (k _ ?_);have e:(cs.toArray.toList.take off++new++cs.toArray.toList.drop (off+new.length)).toArray=(cs.take off++new++cs.drop (off+new.length)).toArray:=sm
 rw[e];exact gX ho i hi _
theorem YS {M N:Mem}{T:TypeId}{n:Nat}(hw:N.w=w)(hb:∀b,(Ent.urow T sz v n xs).blk b->N.A b)(h:(Ent.urow T sz v n xs).is w):SlA N.A N.w v sz n xs:=by
 rw[hw];refine⟨Sl.urow h,λp l c e hn=>hb _ ?_,λa l c e=>?_⟩
 ·rcases (show w.ownsRow 0 T sz v n xs from h).2 with ⟨rfl,h0⟩|⟨g,cap,cur,rfl,_⟩
  ·cases e
  ·injection e with e1 _ _
   injection e1 with e1
   rw[<-e1];rfl
 ·rcases (show w.ownsRow 0 T sz v n xs from h).2 with ⟨rfl,h0⟩|⟨g,cap,cur,rfl,_,_,hnc,_⟩
  ·injection e with _ e2 e3;omega
  ·injection e with _ e2 e3;omega
theorem OwnS.cI {M:Mem}{T:TypeId}{n:Nat}(ho:OwnS S w0 w (.urow T sz v n xs::L))(i:Nat)(hi:L[i]?=aw (.mem M)) :
  ∃N:Mem,M.le N∧SlA N.A N.w v sz n xs∧OwnS S w0 w (L.set i (.mem N)):=by
 have h:=ho.at_ 0 rfl;obtain⟨N,h1,h2,h3,h4⟩:=ho.freeze i hi;exact⟨N,h1,YS (M:=M) h2 h3 h,h4⟩
end
end Eng
end
section
namespace Eng
open Go.RowKit
def strK (k:List UInt8):Value:=.string ⟨k.toArray⟩
def TI (w:ak)(b:Nat)(al:List (List UInt8×ao)):Prop:=∃es clock,w.heap[b]?=aw (.map es clock)∧es.toList.map (λe=>(e.key,e.val))=al.map λp=>(strK p.1,p.2)
def Ent.map (b:Nat)(al:List (List UInt8×ao)):Ent:=⟨λk=>k=b,λw=>TI w b al,λ{w w'} h k=>by
  obtain⟨es,clock,h1,h2⟩:=h;exact⟨es,clock,(k b rfl).trans h1,h2⟩,λh k hk=>by
  obtain⟨es,clock,h1,h2⟩:=h;cases hk;exact dW h1⟩
def FL (al:List (List UInt8×ao))(k:List UInt8):Option Value:=(al.find? λp=>ai (p.1=k)).map (·.2)
theorem KD (k:List UInt8):∀(es:List MapEntry) (al:List (List UInt8×ao)) (i:Nat),es.map (λe=>(e.key,e.val))=al.map (λp=>(strK p.1,p.2)) ->
  ∃r,Instr.findNow .string (strK k) es i=aw r∧r.map (·.2)=FL al k
|[],[],i,_=>⟨av,rfl,rfl⟩
|e::es,p::al,i,h=>by
  simp only[aqL,atJ,asA] at h;obtain⟨⟨h1,h2⟩,h3⟩:=h;have hs:Instr.sameNow .string (strK k) e.key=aw (ai (k=p.1)):=by
   rw[h1];show aw ((⟨k.toArray⟩:ByteArray)==⟨p.1.toArray⟩)=_
   congr 1
   show (k.toArray==p.1.toArray)=_;by_cases hk:k=p.1<;>simp[hk]
  by_cases hk:k=p.1
  ·refine⟨aw (i,e.val),?_,?_⟩
   ·rw[Instr.findNow,hs];simp[hk]
   ·simp[FL,hk,h2]
  ·obtain⟨r,hr1,hr2⟩:=KD k es al (i+1) h3;refine⟨r,?_,?_⟩
   ·rw[Instr.findNow,hs];simp[hk,hr1]
   ·have hk':¬p.1=k:=λe=>hk e.symm;rw[hr2];simp[FL,hk']
|[],_::_,_,h=>by simp at h
|_::_,[],_,h=>by simp at h
section
variable {S:Nat->Prop}{P:Program}{w w0:ak}{L:List Ent}{PK:PKT}{K:VWP}
theorem Yc {T:TypeId}(ho:OwnS S w0 w L)(k:∀b w',OwnS S w0 w' (.map b []::L)->K (.map (aw b)) w'):DoX P (mMap T av) w PK K:=by
 have hr:(Instr.makeMap T av).run P w=.ok (.map (aw w.heap.size)) (w.alloc (.map #[] 0)):=rfl;exact jV (bK hr) (k _ _ (ho.add (World.grownBy_alloc w _ av) (.map w.heap.size []) ⟨#[],0,heap_alloc_new w _,rfl⟩ (λk hk=>by cases hk;exact aoG _)))
theorem tR {k:TypeId}{e:Bool}(hk:P.underlying k=aw .string)(x:List UInt8):(Instr.checkKey e 10000 k (strK x)).run P w=.ok () w:=by
 show (Instr.checkKey e (9999+1) k (strK x)).run P w=_;rw[Instr.checkKey];simp[run_underlying hk,strK]
theorem JP {k:TypeId}(hk:P.underlying k=aw .string)(x:List UInt8){es:List MapEntry}{al:List (List UInt8×ao)}(h:es.map (λe=>(e.key,e.val))=al.map (λp=>(strK p.1,p.2))) :
  ∃r,(Instr.findKey k (strK x) es).run P w=.ok r w∧r.map (·.2)=FL al x:=by
 obtain⟨r,h1,h2⟩:=KD x es al 0 h;refine⟨r,?_,h2⟩;simp[Instr.findKey,run_underlying hk,h1]
theorem Rz {T k e:TypeId}{ok:Bool}{al:List (List UInt8×ao)}{z:ao}(ht:P.underlying T=aw (.map k e))(hk:P.underlying k=aw .string)(hz:(P.info? e).bind (·.zero)=aw z)(h:TI w b al)(x:List UInt8) :
  (Wn T (.map (aw b)) (strK x) ok).run P w=.ok (.value (if ok then .tuple #[(FL al x).getD z,.bool (FL al x).isSome] else (FL al x).getD z)) w:=by
 obtain⟨es,clock,h1,h2⟩:=h;obtain⟨r,r1,r2⟩:=JP (P:=P) (w:=w) hk x h2;have hz':(zeroValue e).run P w=.ok z w:=by
  obtain⟨i,hi,hzi⟩:=auE.1 hz;simp[zeroValue,typeInfo,hi,hzi]
 refine bK ?_;rw[<-r2];cases r with
|none=>simp[Instr.lookup,run_underlying ht,getObj,Sem.run,h1,tR hk x,r1,hz']
|some p=>
  obtain⟨i,v⟩:=p;simp[Instr.lookup,run_underlying ht,getObj,Sem.run,h1,tR hk x,r1]
theorem YM (i:Nat){T k e:TypeId}{al:List (List UInt8×ao)}(ht:P.underlying T=aw (.map k e))(hk:P.underlying k=aw .string)(ho:OwnS S w0 w L)(hi:L[i]?=aw (.map b al))(x:List UInt8)(v:ao)(hn:FL al x=av)
  (kk:∀w',OwnS S w0 w' (L.set i (.map b (al++[(x,v)])))->K undef w'):DoX P (Vw T (.map (aw b)) (strK x) v) w PK K:=by
 obtain⟨es,clock,h1,h2⟩:=(show TI w b al from ho.at_ i hi);obtain⟨r,r1,r2⟩:=JP (P:=P) (w:=w) hk x h2;have hr0:r=none:=by
  cases r with
 |none=>rfl
 |some p=>rw[hn] at r2;cases r2
 subst hr0;have hr:(Instr.mapUpdate T (.map (aw b)) (strK x) v).run P w=.ok () { w with heap:=w.heap.setIfInBounds b (.map (es.push { key:=strK x,val:=v,born:=clock }) (clock+1)) }:=by
  simp[Instr.mapUpdate,run_underlying ht,getObj,setObj,Sem.run,h1,tR hk x,r1]
 refine D4 (Jx hr) (kk _ ?_);refine ho.put i hi (w':={ w with heap:=w.heap.setIfInBounds b _ }) ⟨rfl,rfl,rfl,sm,λk _ hk=>?_⟩ (.map b (al++[(x,v)])) ?_ (λk hk=>.inl hk)
 ·show (w.heap.setIfInBounds b _)[k]?=_;exact asL (λe=>hk (by simp[Ent.map,e]))
 ·refine⟨es.push { key:=strK x,val:=v,born:=clock },clock+1,?_,?_⟩
  ·show (w.heap.setIfInBounds b _)[b]?=_;exact avZ (dW h1)
  ·simp[h2]
end
end Eng
end
end Go.Proofs.YtlipjfcbjemicaaGreatDoor

namespace Go.Proofs.YtlipjfcbjemicaaGreatDoor
variable{A S:Nat->Prop}{C:ak->Prop}{D U U2:TypeId}{K K':VWP}{L:List Eng.Ent}{L0:Loop}{P:Program}{PK PK2:PKT}{W w w' w0:ak}{a hi lo:Int}{args:Array ao}{b cap d f i j m sz t:Nat}{c t0 v v' v1 v2 vc vk:ao}{cb:Array Bool}{cs cur new news xs:List ao}{k':IntKind}{u:FrameMode}{want y:Bool}{xo yo:Operand}{α β:Type}{σ:Eng.Sg}
section
namespace Eng
open Go.RowKit
section
variable {α:Type}{enc:α->List ao}{k:Nat}
theorem Sw (hk:∀x,(enc x).length=k):∀l:List α,(l.flatMap enc).length=l.length*k
|[]=>by simp
|x::l=>by rw[aqC,aoC,hk,Sw hk l,apB,aqX];omega
theorem NC (hk:∀x,(enc x).length=k):∀(l:List α) (j:Nat),(l.flatMap enc).drop (j*k)=(l.drop j).flatMap enc
|[],j=>by simp
|x::l,0=>by simp
|x::l,j+1=>by
  rw[aqC,avD,aqX,atE,asJ,hk,apR (by rw[hk];omega),asZ,NC hk l j,apK]
theorem CL (hk:∀x,(enc x).length=k){l:List α}(hj:j < l.length)(h:(enc l[j])[i]?=aw v):(l.flatMap enc)[j*k+i]?=aw v:=by
 have h1:((l.flatMap enc).drop (j*k))[i]?=aw v:=by
  rw[NC hk,apV hj,aqC,aqO (aoX.1 h).1];exact h
 rwa [aqG] at h1
theorem XL (h1:∀x,∀v∈enc x,v.oneCell'=au){l:List α}:∀v∈l.flatMap enc,v.oneCell'=true:=by
 intro v hv;obtain⟨x,_,hx⟩:=atK.1 hv;exact h1 x v hx
abbrev Ent.recs (T:TypeId)(enc:α->List ao)(k:Nat)(v:ao)(l:List α):Ent:=.urow T k v l.length (l.flatMap enc)
variable {S:Nat->Prop}{P:Program}{w w0:ak}{L:List Ent}{PK PK2:PKT}{K:VWP}
theorem rec_row (hk:∀x,(enc x).length=k){T E:TypeId}(ht:P.underlying T=aw (.slice E))(hz:(P.info? E).map (·.size)=aw k)(ha:aggN P E=aw k)(i:Nat){l:List α}(ho:OwnS S w0 w L)(hi:L[i]?=aw (.recs E enc k v l))(hj:j < l.length) :
  ∃g cap,v=.slice (aw ⟨g,0,av⟩) l.length cap∧(∀w,(mIA T v (.int .i64 (j:Int))).run P w=.ok (.value (.pointer (aw ⟨g,j*k,av⟩))) w) ∧
   (∀w',(Ent.recs E enc k v l).is w'->(aJ E (.pointer (aw ⟨g,j*k,av⟩))).run P w'=.ok (.value (.agg (enc l[j]).toArray)) w') ∧
   ∀w',(Ent.recs E enc k v l).is w'->∀m u,(enc l[j])[m]?=aw u->w'.cell? ⟨g,j*k+m,av⟩=aw u:=by
 obtain⟨g,cap,rfl⟩:=rW (ho.at_ i hi) om;have hcell:∀w',(Ent.recs E enc k (.slice (aw ⟨g,0,av⟩) l.length cap) l).is w'->∀m u,(enc l[j])[m]?=aw u->w'.cell? ⟨g,j*k+m,av⟩=aw u:=by
  intro w' h m u hm;obtain⟨b,off,cap',e,hc⟩:=bY (Sl.urow h) om;cases e;have:=hc _ _ (CL hk hj hm)
  rwa [aoN] at this
 refine⟨g,cap,rfl,λw=>?_,λw' h=>?_,hcell⟩
 ·refine (dZ ht hz om om).trans ?_;rw[aoF,aoN]
 ·exact bE (AtV.agg ha (hk _) λm u hm=>hcell w' h m u hm)
end
end Eng
end
section
open Eng
def gG(t0 w)(K:KT):=nz f199 1 [] [] [] (zg [0] [t0]) w K
theorem mS{t0 w K}:gG t0 w K->Calls ah 199 #[t0] w K:=cw func199
def bW(t0 w)(K:KT):=nz f200 1 [] [] [] (zg [0] [t0]) w K
theorem eA{t0 w K}:bW t0 w K->Calls ah 200 #[t0] w K:=cw func200
def fQ(b a e w)(K:KT):=
 slx 22 b (aw a) av av w K λH w=>lnx 22 e w K λc w=>ecx .eql 3 15 0 c w K λh w=>IfX h (K (.returned b) w) (lnx 22 b w K λf w=>eqx .eql 3 (.tmp 20) (.tmp 21) a f w K λi w=>IfX i (apx 22 b e w K λj w=>K (.returned j) w) (bnx .add 3 f c w K λk w=>mbx .cap #[22] 3 #[aq] #[b] w K λl w=>bnx .gtr 3 k l w K λm w=>IfX m (slx 22 b av (aw a) av w K λn w=>bnx .add 3 f c w K λo w=>bnx .sub 3 o a w K λp w=>mbx .append #[22,3] 22 #[aq,aq] #[n,p] w K λg w=>slx 22 g (aw a) av av w K λq w=>mbx .copy #[22,22] 3 #[aq,aq] #[q,e] w K λI w=>QuietX w (λC1=>QDo ah C1 (mBin .add 3 a c) λr=>QDo ah C1 (cM 22 g (aw r) av av) λs=>QDo ah C1 (cM 22 b (aw a) av av) λt=>
 ∀w,C1 w ->
 mbx .copy #[22,22] 3 #[aq,aq] #[s,t] w K λL w=>K (.returned g) w)) (bnx .add 3 f c w K λu w=>slx 22 b av (aw u) av w K λd w=>bnx .add 3 a c w K λv w=>slx 22 d (aw v) av av w K λx w=>dx (gK (.func (.func 248) #[] #[]) #[e,x]) w K λy w=>dx (mUn .not y) w K λz w=>IfX z (QuietX w (λC2=>QDo ah C2 (mBin .add 3 a c) λA=>QDo ah C2 (cM 22 d (aw A) av av) λB=>QDo ah C2 (cM 22 d (aw a) av av) λC=>
 ∀w,C2 w ->
 mbx .copy #[22,22] 3 #[aq,aq] #[B,C] w K λM w=>slx 22 d (aw a) av av w K λD w=>mbx .copy #[22,22] 3 #[aq,aq] #[D,e] w K λO w=>K (.returned d) w)) (slx 22 d (aw f) av av w K λF w=>mbx .copy #[22,22] 3 #[aq,aq] #[F,e] w K λP w=>slx 22 d (aw a) av av w K λG w=>cx 249 #[G,c] w K λQ w=>K (.returned d) w))))
theorem lC{t0 t1 t2 w K}:fQ t0 t1 t2 w K->Calls ah 201 #[t0,t1,t2] w K:=cw func201
def bU(b a e w)(K:KT):=
 slx 23 b (aw a) av av w K λH w=>lnx 23 e w K λc w=>ecx .eql 3 15 0 c w K λh w=>IfX h (K (.returned b) w) (lnx 23 b w K λf w=>eqx .eql 3 (.tmp 20) (.tmp 21) a f w K λi w=>IfX i (apx 23 b e w K λj w=>K (.returned j) w) (bnx .add 3 f c w K λk w=>mbx .cap #[23] 3 #[aq] #[b] w K λl w=>bnx .gtr 3 k l w K λm w=>IfX m (slx 23 b av (aw a) av w K λn w=>bnx .add 3 f c w K λo w=>bnx .sub 3 o a w K λp w=>mbx .append #[23,3] 23 #[aq,aq] #[n,p] w K λg w=>slx 23 g (aw a) av av w K λq w=>mbx .copy #[23,23] 3 #[aq,aq] #[q,e] w K λI w=>QuietX w (λC1=>QDo ah C1 (mBin .add 3 a c) λr=>QDo ah C1 (cM 23 g (aw r) av av) λs=>QDo ah C1 (cM 23 b (aw a) av av) λt=>
 ∀w,C1 w ->
 mbx .copy #[23,23] 3 #[aq,aq] #[s,t] w K λL w=>K (.returned g) w)) (bnx .add 3 f c w K λu w=>slx 23 b av (aw u) av w K λd w=>bnx .add 3 a c w K λv w=>slx 23 d (aw v) av av w K λx w=>dx (gK (.func (.func 250) #[] #[]) #[e,x]) w K λy w=>dx (mUn .not y) w K λz w=>IfX z (QuietX w (λC2=>QDo ah C2 (mBin .add 3 a c) λA=>QDo ah C2 (cM 23 d (aw A) av av) λB=>QDo ah C2 (cM 23 d (aw a) av av) λC=>
 ∀w,C2 w ->
 mbx .copy #[23,23] 3 #[aq,aq] #[B,C] w K λM w=>slx 23 d (aw a) av av w K λD w=>mbx .copy #[23,23] 3 #[aq,aq] #[D,e] w K λO w=>K (.returned d) w)) (slx 23 d (aw f) av av w K λF w=>mbx .copy #[23,23] 3 #[aq,aq] #[F,e] w K λP w=>slx 23 d (aw a) av av w K λG w=>cx 251 #[G,c] w K λQ w=>K (.returned d) w))))
theorem dX{t0 t1 t2 w K}:bU t0 t1 t2 w K->Calls ah 202 #[t0,t1,t2] w K:=cw func202
def fP(t0 t1 t2 w)(K:KT):=nz f219 1 [] [] [(5,6)] (zg [0,1,2] [t0,t1,t2]) w K
theorem lB{t0 t1 t2 w K}:fP t0 t1 t2 w K->Calls ah 219 #[t0,t1,t2] w K:=cw func219
def bV(t0 t1 t2 w)(K:KT):=nz f220 1 [] [] [(5,6)] (zg [0,1,2] [t0,t1,t2]) w K
theorem dY{t0 t1 t2 w K}:bV t0 t1 t2 w K->Calls ah 220 #[t0,t1,t2] w K:=cw func220
def eC(t0 t1 t6 t7 t8 w)(N1:JT)(K:KT):=nz f154 39 [N1] [nh 7 [7,8]] [] (zg [0,1,6,7,8] [t0,t1,t6,t7,t8]) w K
def eK(t0 t1 w)(K:KT):=nz f154 1 [] [(7,[7,8],λs v j w f=>eC (s 0) (s 1) (s 6) (vg v 0) (vg v 1) w (f 0) K)] [] (zg [0,1] [t0,t1]) w K
theorem iA{t0 t1 w K}:eK t0 t1 w K->Calls ah 154 #[t0,t1] w K:=cz [] [(3,[7,8])] func154
def wY(t0 t1 w)(K:KT):=nz f217 1 [] [] [] (zg [0,1] [t0,t1]) w K
theorem Dd{t0 t1 w K}:wY t0 t1 w K->Calls ah 217 #[t0,t1] w K:=cw func217
def tZ(t0 w)(K:KT):=nz f256 1 [] [] [] (zg [0] [t0]) w K
theorem AQ{t0 w K}:tZ t0 w K->Calls ah 256 #[t0] w K:=cw func256
def oC(t0 w)(K:KT):=nz f218 1 [] [] [] (zg [0] [t0]) w K
theorem wD{t0 w K}:oC t0 w K->Calls ah 218 #[t0] w K:=cw func218
end
section
open Eng Go.RowKit
theorem Cc (v:ao)(n:Nat)(cs:List ao)(w:ak)(hs:Sl w v 1 n cs)(h1:∀u∈cs,u.oneCell'=au)(hb:n<=1000000000000) :
  Ret ah 199 #[v] w (λv' w'=>Own w w' [.urow 9 1 v' n cs]):=by
 have hs':=hs;obtain⟨hl,a,cap,rfl,hn,hc⟩:=hs;refine aK λK hK=>mS ?_;unfold gG nz;rw[Z1 aoT];cases a with
|none=>
  obtain rfl:=hn rfl;obtain rfl:cs=[]:=asG om;simp only[auZ,i_t];exact hK _ _ ((Own.start w).nilU 9 1)
|some p=>
  simp only[avA,i_f];refine bD (λb=>.slice (aw ⟨b,0,av⟩) 0 0) [] 9 (λ_=>by kernel_rfl) (Own.start w) λb w1 ho=>?_;have ho:=ho.toU 1 0 0 sm om om;refine aX 0 aoT (show elB ah 9 1 16=au by kernel_rfl) dc ho rfl (ho.UZ hs') h1 om om λv' w2 ho=>?_;refine hK _ _ ?_;simpa using ho
theorem Hz (v:ao)(n:Nat)(cs:List ao)(w:ak)(hs:Sl w v 6 n cs)(h1:∀u∈cs,u.oneCell'=au)(hb:n<=1000000000000) :
  Ret ah 200 #[v] w (λv' w'=>Own w w' [.urow 25 6 v' n cs]):=by
 have hs':=hs;obtain⟨hl,a,cap,rfl,hn,hc⟩:=hs;refine aK λK hK=>eA ?_;unfold bW nz;rw[Z1 aoW];cases a with
|none=>
  obtain rfl:=hn rfl;obtain rfl:cs=[]:=asG om;simp only[auZ,i_t];exact hK _ _ ((Own.start w).nilU 25 6)
|some p=>
  simp only[avA,i_f];refine bD (λb=>.slice (aw ⟨b,0,av⟩) 0 0) [] 25 (λ_=>by kernel_rfl) (Own.start w) λb w1 ho=>?_;have ho:=ho.toU 6 0 0 sm om om;refine aX 0 aoW (show elB ah 25 6 88=au by kernel_rfl) dc ho rfl (ho.UZ hs') h1 om om λv' w2 ho=>?_;refine hK _ _ ?_;simpa using ho
theorem ov_s {a b:Addr}{la ca lb cb:Nat}(hne:a.block≠b.block){tA tB:TypeId}{kA kB:Nat}(hsa:w.shape? a.block=aw (tA,kA))(hsb:w.shape? b.block=aw (tB,kB))(hkB:kB≠0)(hfa:w.frozen? a=aq)(hfe:w.frozen? { block:=a.block,off:=kA }=aq) :
  (gK (.func (.func 248) #[] #[]) #[.slice (aw a) la ca,.slice (aw b) lb cb]).run ah w=.ok (.value (.bool aq)) w:=by
 have hx:(callFunc 248 #[.slice (aw a) la ca,.slice (aw b) lb cb]).run ah w=.ok (.value (.bool aq)) w:=by
  rw[run_callFunc_extern (e:=Extern.SlicesOverlaps.overlaps #[22,22] #[4]) func248 krx krx krx krx];rw[Lib.run_overlaps_apart w 22 4 9 aoT 1 (λw=>by kernel_rfl) a b la ca lb cb hne tA tB kA kB hsa hsb hkB hfa hfe];rfl
 simpa[gK,invoke,Deferred.ofValue,resolve] using hx
theorem MG (v:ao)(n:Nat)(xs:List ao)(k nb:Nat)(new:List ao)(w:ak)(hu:(Ent.urow 9 1 v n xs).is w)(hnb:w.heap[nb]?=aw (.cells new.toArray 9 (0,0)))(hl:new.length=1)
  (hne:¬(Ent.urow 9 1 v n xs).blk nb) (h1:∀u∈xs,u.oneCell'=au) (h2:∀u∈new,u.oneCell'=au) (hk:k<=n) (hb:n<=100000000000) :
  Ret ah 201 #[v,.int .i64 (k:Int),.slice (aw ⟨nb,0,av⟩) 1 1] w
   (λv' w'=>∃e',e'=Ent.urow 9 1 v' (n+1) (xs.take (k*1)++new++xs.drop (k*1))∧Turn (.urow 9 1 v n xs) e' w w'):=by
 have hxl:xs.length=n*1:=(show w.ownsRow 0 9 1 v n xs from hu).1;have hs2:Sl w (.slice (aw ⟨nb,0,av⟩) 1 1) 1 1 new:=⟨om,aw ⟨nb,0,av⟩,1,rfl,λh=>(by cases h),λp hp=>by cases hp;exact⟨λ_=>rfl,λj u hj=>by rw[aoN];exact aI (T:=9) hnb hj⟩⟩;have ho:=OwnS.lend hu;refine aK λK hK=>lC ?_;unfold fQ dx bnx eqx mbx slx lnx ecx apx cx;have hel:elB ah 9 1 16=true:=krx
 have hsz:(Tryz.prog.info? 9).map (·.size)=aw 1:=krx
 obtain⟨a,cap,rfl,hcap⟩:∃a cap,v=.slice a n cap∧n<=cap:=by
  rcases (show w.ownsRow 0 9 1 v n xs from hu).2 with ⟨rfl,rfl⟩|⟨g,cap,cur,rfl,_,_,hnc,_⟩
  ·exact⟨av,0,rfl,aoG _⟩
  ·exact⟨_,cap,rfl,hnc⟩
 refine aC (dG aoT hsz om om) |>.mpr ?_;rw[bB aoT hs2];simp only[rs,Int.natCast_one,Int.one_ne_zero,aoB];rw[bG aoT];simp only[rs];by_cases hkn:k=n
 ·subst hkn;simp only[aoA,rs];refine aX 0 aoT hel dc ho rfl hs2 h2 om om λv' w2 ho=>?_;refine hK _ _ ⟨_,rfl,?_⟩;have e:xs.take (k*1)++new++xs.drop (k*1)=xs++new:=by rw[apE om,apR om,aoV]
  rw[e];exact OwnS.back (L:=[]) ho
 have hlt:k < n:=om
 have hne':¬(k:Int)=(n:Int):=om
 simp only[hne',aoB,rs];rcases (show w.ownsRow 0 9 1 (.slice a n cap) n xs from hu).2 with ⟨_,h0⟩|⟨g,cap',cur,he,hbg,hg,hnc,hcm,hcs,htake⟩
 ·omega
 injection he with he1 _ he2
 subst he1;subst he2;rw[aA om om,RG aoT];simp only[rs];have hgn:nb≠g:=λe=>hne (by rw[e];rfl);have hcl:cur.toList.length=cap*1:=by simpa using hcs
 have hoc:OwnS (Ent.urow 9 1 (.slice (aw ⟨g,0,av⟩) n cap) n xs).blk w w [.cells g cur.toList 9]:=
  ho.turn 0 rfl ⟨Grew.refl _ _,by show w.heap[g]?=_;rw[hg],λj hj=>.inl (by simp only[Ent.cells] at hj;subst hj;rfl)⟩
 have hxc:∀j u,xs[j]?=aw u->w.cell? ⟨g,0+j,av⟩=aw u:=λj u hj=>by
  rw[aoN];exact hoc.cell 0 rfl j (by rw[<-htake] at hj;rw[arB] at hj;split at hj<;>first|exact hj|cases hj)
 have htl:(xs.drop (k*1)).length=(n - k)*1:=by rw[aoJ,hxl,<-auF]
 have h1t:∀u∈xs.drop (k*1),u.oneCell'=true:=λu hu=>h1 u (arZ hu);by_cases hroom:(cap:Int) < (n:Int)+1
 ·simp only[hroom,aoA,rs];refine aC (jB aoT hsz om om) |>.mpr ?_;rw[show subA (aw (⟨g,0,av⟩:Addr)) 0 cap 1=aw ⟨g,0,av⟩ from Hq (a:=⟨g,0,av⟩),aoF];rw[aA (n:=(n:Int)+1 - k) om om,show (n:Int)+1 - k=((n+1 - k:Nat):Int) by omega];refine Wc (olds:=xs.take (k*1)) aoT apH hel dc hoc (by rw[aoH,hxl,apI om]) (λj u hj=>hxc j u (by rw[arB] at hj;split at hj<;>first|exact hj|cases hj)) om om om om λb c zs w2 hc1 hc2 hzs ho=>?_;rw[show k+(n+1 - k)=n+1 by omega] at hc1 ⊢;have hol:(xs.take (k*1)).length=k*1:=by rw[aoH,hxl,apI om]
  refine aC (dG aoT hsz om om) |>.mpr ?_;rw[aoF,fE om];have hbg2:b≠g:=by
   have:=(aqR.1 ho.apart).1 (.cells g cur.toList 9) sm;intro e;exact this b rfl e
  have old2:∀{W:ak} {b':Nat} {x y:List ao},OwnS (Ent.urow 9 1 (.slice (aw ⟨g,0,av⟩) n cap) n xs).blk w W [.cells b' x 9,.cells g y 9]->W.heap[nb]?=aw (.cells new.toArray 9 (0,0)):=λh=>(h.grew.block nb (dW hnb) hne).trans hnb;refine yH 0 (src:=new) aoT hsz ho rfl ?_ (λj u hj=>by rw[cK,aoN];exact aI (T:=9) (old2 ho) hj) ?_ h2 λ_ w3 ho=>?_
  ·rw[hl,apI om]
  ·rw[aoC,hol,hl];omega
  refine quiet ?_;refine iV ?_;rw[aA om om,show (k:Int)+1=((k+1:Nat):Int) by omega];refine q_do _ (λW=>dG aoT hsz om om) ?_;refine q_do _ (λW=>dG aoT hsz om om) ?_;rw[aoF,aoF,fE om,fE om];intro w4 hw;have ho:=ho.grow hw;simp only[aoN,aqY hol,asJ,hol] at ho;rw[show k*1+new.length - k*1=1 by omega,apR (show (xs.take (k*1)).length<=k*1+new.length by omega),apK] at ho;refine yH 0 (src:=xs.drop (k*1)) aoT hsz ho rfl ?_ (λj u hj=>?_) ?_ h1t λ_ w5 ho=>?_
  ·rw[htl];congr 1;rw[apI om]
  ·rw[cK];refine ho.cell 1 rfl (0+k*1+j) ?_;rw[aqG] at hj;rw[aoN];rw[<-htake] at hj;rw[arB] at hj;split at hj<;>first|exact hj|cases hj
  ·simp only[aoC,aoJ,hol,hl,hxl];omega
  have hcur:((xs.take (k*1)++new++zs.drop 1).take (0+(k+1)*1)++xs.drop (k*1)++(xs.take (k*1)++new++zs.drop 1).drop (0+(k+1)*1+(xs.drop (k*1)).length))=(xs.take (k*1)++new++xs.drop (k*1))++(zs.drop 1).drop ((n - k)*1):=by
   rw[aqY (show (xs.take (k*1)++new).length=0+(k+1)*1 by rw[aoC,hol,hl];omega)];rw[asJ,apR (show (xs.take (k*1)++new).length<=_ by rw[aoC,hol,hl,htl];omega),apK]
   congr 2
   rw[aoC,hol,hl,htl];omega
  simp only[aqP] at ho;rw[hcur] at ho;have ho:=ho.toU 1 (n+1) c (by simp only[aoC,aoJ,hol,hl,hxl];omega) hc1 hc2;rw[aqY (show (xs.take (k*1)++new++xs.drop (k*1)).length=(n+1)*1 by simp only[aoC,aoJ,hol,hl,hxl];omega)] at ho;exact hK _ _ ⟨_,rfl,OwnS.back ho⟩
 ·have hroom':n+1<=cap:=om
  simp only[hroom,aoB,rs];rw[show (n:Int)+1=((n+1:Nat):Int) by omega];refine aC (jB aoT hsz om om) |>.mpr ?_;rw[show subA (aw (⟨g,0,av⟩:Addr)) 0 cap 1=aw ⟨g,0,av⟩ from Hq (a:=⟨g,0,av⟩),aoF];rw[aA (n:=(k:Int)+1) om om,show (k:Int)+1=((k+1:Nat):Int) by omega];refine aC (dG aoT hsz om om) |>.mpr ?_;rw[aoF,fE om];refine aC (ov_s (a:=⟨nb,0,av⟩) (b:=⟨g,0+(k+1)*1,av⟩) hgn (tA:=9) (tB:=9) (kA:=new.length) (kB:=cur.size) (by simp[World.shape?,hnb]) (by simp[World.shape?,hg]) (by rw[hcs];omega) (by simp[World.frozen?,hnb]) (by simp[World.frozen?,hnb])) |>.mpr ?_;simp only[rs,aqD];refine quiet ?_;refine iV ?_;rw[aA om om,show (k:Int)+1=((k+1:Nat):Int) by omega];refine q_do _ (λW=>dG aoT hsz om om) ?_;refine q_do _ (λW=>dG aoT hsz om om) ?_;rw[aoF,aoF,fE om,fE om];intro w3 hw;have ho:=hoc.grow hw;have hxcur:∀j u,(xs.drop (k*1))[j]?=aw u->cur.toList[k*1+j]?=aw u:=λj u hj=>by
   rw[aqG,<-htake,arB] at hj;split at hj<;>first|exact hj|cases hj
  refine yH 0 (src:=xs.drop (k*1)) aoT hsz ho rfl ?_ (λj u hj=>?_) ?_ h1t λ_ w4 ho=>?_
  ·rw[htl];congr 1;rw[Nat.min_eq_right om];omega
  ·rw[cK,aoN];exact ho.cell 0 rfl _ (hxcur j u hj)
  ·rw[htl,hcl];have:(n - k)*1+(k+1)*1=(n+1)*1:=by rw[<-arC];congr 1;omega
   have:(n+1)*1<=cap*1:=apQ _ hroom';omega
  simp only[aqP] at ho;refine aC (dG aoT hsz om om) |>.mpr ?_;rw[aoF,fE om];have hnew:w4.heap[nb]?=aw (.cells new.toArray 9 (0,0)):=(ho.grew.block nb (dW hnb) hne).trans hnb;have hkc:(k+1)*1<=cap*1:=apQ _ om;have hnc2:(n+1)*1<=cap*1:=apQ _ hroom';have hsum:(n - k)*1+(k+1)*1=(n+1)*1:=by rw[<-arC];congr 1;omega
  refine yH 0 (src:=new) aoT hsz ho rfl ?_ (λj u hj=>by rw[cK,aoN];exact aI (T:=9) hnew hj) ?_ h2 λ_ w5 ho=>?_
  ·rw[hl,apI om]
  ·simp only[aoC,aoH,aoJ,hcl,hl,htl];omega
  simp only[aqP] at ho;have hck:cur.toList.take (k*1)=xs.take (k*1):=by
   rw[<-htake,asR,apI (apQ _ om)]
  have hcur:((cur.toList.take (0+(k+1)*1)++xs.drop (k*1)++cur.toList.drop (0+(k+1)*1+(xs.drop (k*1)).length)).take (0+k*1)++new++(cur.toList.take (0+(k+1)*1)++xs.drop (k*1)++cur.toList.drop (0+(k+1)*1+(xs.drop (k*1)).length)).drop (0+k*1+new.length))
   =(xs.take (k*1)++new++xs.drop (k*1))++cur.toList.drop (0+(k+1)*1+(xs.drop (k*1)).length):=by
   have hlt:(cur.toList.take (0+(k+1)*1)).length=0+(k+1)*1:=by rw[aoH,hcl];omega
   rw[aoL (cur.toList.take (0+(k+1)*1))];rw[avE (by rw[hlt];omega),asR,apI om,aoN,hck];rw[asJ,apR (show (cur.toList.take (0+(k+1)*1)).length<=k*1+new.length by rw[hlt,hl];omega),apK];rw[show k*1+new.length - (cur.toList.take (0+(k+1)*1)).length=0 by rw[hlt,hl];omega,aqH];simp only[aoN,aoL]
  rw[hcur] at ho;have ho:=ho.toU 1 (n+1) cap (by simp only[aoC,aoH,aoJ,hcl,hl,hxl];omega) hroom' (by simp only[maxLen] at hcm;exact hcm);rw[aqY (show (xs.take (k*1)++new++xs.drop (k*1)).length=(n+1)*1 by simp only[aoC,aoH,aoJ,hl,hxl];omega)] at ho;exact hK _ _ ⟨_,rfl,OwnS.back ho⟩
theorem ov_o {a b:Addr}{la ca lb cb:Nat}(hne:a.block≠b.block){tA tB:TypeId}{kA kB:Nat}(hsa:w.shape? a.block=aw (tA,kA))(hsb:w.shape? b.block=aw (tB,kB))(hkB:kB≠0)(hfa:w.frozen? a=aq)(hfe:w.frozen? { block:=a.block,off:=kA }=aq) :
  (gK (.func (.func 250) #[] #[]) #[.slice (aw a) la ca,.slice (aw b) lb cb]).run ah w=.ok (.value (.bool aq)) w:=by
 have hx:(callFunc 250 #[.slice (aw a) la ca,.slice (aw b) lb cb]).run ah w=.ok (.value (.bool aq)) w:=by
  rw[run_callFunc_extern (e:=Extern.SlicesOverlaps.overlaps #[23,23] #[4]) func250 krx krx krx krx];rw[Lib.run_overlaps_apart w 23 4 25 aoW 6 (λw=>by kernel_rfl) a b la ca lb cb hne tA tB kA kB hsa hsb hkB hfa hfe];rfl
 simpa[gK,invoke,Deferred.ofValue,resolve] using hx
theorem Mx (v:ao)(n:Nat)(xs:List ao)(k nb:Nat)(new:List ao)(w:ak)(hu:(Ent.urow 25 6 v n xs).is w)(hnb:w.heap[nb]?=aw (.cells new.toArray 25 (0,0)))(hl:new.length=6)
  (hne:¬(Ent.urow 25 6 v n xs).blk nb) (h1:∀u∈xs,u.oneCell'=au) (h2:∀u∈new,u.oneCell'=au) (hk:k<=n) (hb:n<=100000000000) :
  Ret ah 202 #[v,.int .i64 (k:Int),.slice (aw ⟨nb,0,av⟩) 1 1] w
   (λv' w'=>∃e',e'=Ent.urow 25 6 v' (n+1) (xs.take (k*6)++new++xs.drop (k*6))∧Turn (.urow 25 6 v n xs) e' w w'):=by
 have hxl:xs.length=n*6:=(show w.ownsRow 0 25 6 v n xs from hu).1;have hs2:Sl w (.slice (aw ⟨nb,0,av⟩) 1 1) 6 1 new:=⟨om,aw ⟨nb,0,av⟩,1,rfl,λh=>(by cases h),λp hp=>by cases hp;exact⟨λ_=>rfl,λj u hj=>by rw[aoN];exact aI (T:=25) hnb hj⟩⟩;have ho:=OwnS.lend hu;refine aK λK hK=>dX ?_;unfold bU dx bnx eqx mbx slx lnx ecx apx cx;have hel:elB ah 25 6 88=true:=krx
 have hsz:(Tryz.prog.info? 25).map (·.size)=aw 6:=krx
 obtain⟨a,cap,rfl,hcap⟩:∃a cap,v=.slice a n cap∧n<=cap:=by
  rcases (show w.ownsRow 0 25 6 v n xs from hu).2 with ⟨rfl,rfl⟩|⟨g,cap,cur,rfl,_,_,hnc,_⟩
  ·exact⟨av,0,rfl,aoG _⟩
  ·exact⟨_,cap,rfl,hnc⟩
 refine aC (dG aoW hsz om om) |>.mpr ?_;rw[bB aoW hs2];simp only[rs,Int.natCast_one,Int.one_ne_zero,aoB];rw[bG aoW];simp only[rs];by_cases hkn:k=n
 ·subst hkn;simp only[aoA,rs];refine aX 0 aoW hel dc ho rfl hs2 h2 om om λv' w2 ho=>?_;refine hK _ _ ⟨_,rfl,?_⟩;have e:xs.take (k*6)++new++xs.drop (k*6)=xs++new:=by rw[apE om,apR om,aoV]
  rw[e];exact OwnS.back (L:=[]) ho
 have hlt:k < n:=om
 have hne':¬(k:Int)=(n:Int):=om
 simp only[hne',aoB,rs];rcases (show w.ownsRow 0 25 6 (.slice a n cap) n xs from hu).2 with ⟨_,h0⟩|⟨g,cap',cur,he,hbg,hg,hnc,hcm,hcs,htake⟩
 ·omega
 injection he with he1 _ he2
 subst he1;subst he2;rw[aA om om,RG aoW];simp only[rs];have hgn:nb≠g:=λe=>hne (by rw[e];rfl);have hcl:cur.toList.length=cap*6:=by simpa using hcs
 have hoc:OwnS (Ent.urow 25 6 (.slice (aw ⟨g,0,av⟩) n cap) n xs).blk w w [.cells g cur.toList 25]:=
  ho.turn 0 rfl ⟨Grew.refl _ _,by show w.heap[g]?=_;rw[hg],λj hj=>.inl (by simp only[Ent.cells] at hj;subst hj;rfl)⟩
 have hxc:∀j u,xs[j]?=aw u->w.cell? ⟨g,0+j,av⟩=aw u:=λj u hj=>by
  rw[aoN];exact hoc.cell 0 rfl j (by rw[<-htake] at hj;rw[arB] at hj;split at hj<;>first|exact hj|cases hj)
 have htl:(xs.drop (k*6)).length=(n - k)*6:=by rw[aoJ,hxl,<-auF]
 have h1t:∀u∈xs.drop (k*6),u.oneCell'=true:=λu hu=>h1 u (arZ hu);by_cases hroom:(cap:Int) < (n:Int)+1
 ·simp only[hroom,aoA,rs];refine aC (jB aoW hsz om om) |>.mpr ?_;rw[show subA (aw (⟨g,0,av⟩:Addr)) 0 cap 6=aw ⟨g,0,av⟩ from Hq (a:=⟨g,0,av⟩),aoF];rw[aA (n:=(n:Int)+1 - k) om om,show (n:Int)+1 - k=((n+1 - k:Nat):Int) by omega];refine Wc (olds:=xs.take (k*6)) aoW apH hel dc hoc (by rw[aoH,hxl,apI om]) (λj u hj=>hxc j u (by rw[arB] at hj;split at hj<;>first|exact hj|cases hj)) om om om om λb c zs w2 hc1 hc2 hzs ho=>?_;rw[show k+(n+1 - k)=n+1 by omega] at hc1 ⊢;have hol:(xs.take (k*6)).length=k*6:=by rw[aoH,hxl,apI om]
  refine aC (dG aoW hsz om om) |>.mpr ?_;rw[aoF,fE om];have hbg2:b≠g:=by
   have:=(aqR.1 ho.apart).1 (.cells g cur.toList 25) sm;intro e;exact this b rfl e
  have old2:∀{W:ak} {b':Nat} {x y:List ao},OwnS (Ent.urow 25 6 (.slice (aw ⟨g,0,av⟩) n cap) n xs).blk w W [.cells b' x 25,.cells g y 25]->W.heap[nb]?=aw (.cells new.toArray 25 (0,0)):=λh=>(h.grew.block nb (dW hnb) hne).trans hnb;refine yH 0 (src:=new) aoW hsz ho rfl ?_ (λj u hj=>by rw[cK,aoN];exact aI (T:=25) (old2 ho) hj) ?_ h2 λ_ w3 ho=>?_
  ·rw[hl,apI om]
  ·rw[aoC,hol,hl];omega
  refine quiet ?_;refine iV ?_;rw[aA om om,show (k:Int)+1=((k+1:Nat):Int) by omega];refine q_do _ (λW=>dG aoW hsz om om) ?_;refine q_do _ (λW=>dG aoW hsz om om) ?_;rw[aoF,aoF,fE om,fE om];intro w4 hw;have ho:=ho.grow hw;simp only[aoN,aqY hol,asJ,hol] at ho;rw[show k*6+new.length - k*6=6 by omega,apR (show (xs.take (k*6)).length<=k*6+new.length by omega),apK] at ho;refine yH 0 (src:=xs.drop (k*6)) aoW hsz ho rfl ?_ (λj u hj=>?_) ?_ h1t λ_ w5 ho=>?_
  ·rw[htl];congr 1;rw[apI om]
  ·rw[cK];refine ho.cell 1 rfl (0+k*6+j) ?_;rw[aqG] at hj;rw[aoN];rw[<-htake] at hj;rw[arB] at hj;split at hj<;>first|exact hj|cases hj
  ·simp only[aoC,aoJ,hol,hl,hxl];omega
  have hcur:((xs.take (k*6)++new++zs.drop 6).take (0+(k+1)*6)++xs.drop (k*6)++(xs.take (k*6)++new++zs.drop 6).drop (0+(k+1)*6+(xs.drop (k*6)).length))=(xs.take (k*6)++new++xs.drop (k*6))++(zs.drop 6).drop ((n - k)*6):=by
   rw[aqY (show (xs.take (k*6)++new).length=0+(k+1)*6 by rw[aoC,hol,hl];omega)];rw[asJ,apR (show (xs.take (k*6)++new).length<=_ by rw[aoC,hol,hl,htl];omega),apK]
   congr 2
   rw[aoC,hol,hl,htl];omega
  simp only[aqP] at ho;rw[hcur] at ho;have ho:=ho.toU 6 (n+1) c (by simp only[aoC,aoJ,hol,hl,hxl];omega) hc1 hc2;rw[aqY (show (xs.take (k*6)++new++xs.drop (k*6)).length=(n+1)*6 by simp only[aoC,aoJ,hol,hl,hxl];omega)] at ho;exact hK _ _ ⟨_,rfl,OwnS.back ho⟩
 ·have hroom':n+1<=cap:=om
  simp only[hroom,aoB,rs];rw[show (n:Int)+1=((n+1:Nat):Int) by omega];refine aC (jB aoW hsz om om) |>.mpr ?_;rw[show subA (aw (⟨g,0,av⟩:Addr)) 0 cap 6=aw ⟨g,0,av⟩ from Hq (a:=⟨g,0,av⟩),aoF];rw[aA (n:=(k:Int)+1) om om,show (k:Int)+1=((k+1:Nat):Int) by omega];refine aC (dG aoW hsz om om) |>.mpr ?_;rw[aoF,fE om];refine aC (ov_o (a:=⟨nb,0,av⟩) (b:=⟨g,0+(k+1)*6,av⟩) hgn (tA:=25) (tB:=25) (kA:=new.length) (kB:=cur.size) (by simp[World.shape?,hnb]) (by simp[World.shape?,hg]) (by rw[hcs];omega) (by simp[World.frozen?,hnb]) (by simp[World.frozen?,hnb])) |>.mpr ?_;simp only[rs,aqD];refine quiet ?_;refine iV ?_;rw[aA om om,show (k:Int)+1=((k+1:Nat):Int) by omega];refine q_do _ (λW=>dG aoW hsz om om) ?_;refine q_do _ (λW=>dG aoW hsz om om) ?_;rw[aoF,aoF,fE om,fE om];intro w3 hw;have ho:=hoc.grow hw;have hxcur:∀j u,(xs.drop (k*6))[j]?=aw u->cur.toList[k*6+j]?=aw u:=λj u hj=>by
   rw[aqG,<-htake,arB] at hj;split at hj<;>first|exact hj|cases hj
  refine yH 0 (src:=xs.drop (k*6)) aoW hsz ho rfl ?_ (λj u hj=>?_) ?_ h1t λ_ w4 ho=>?_
  ·rw[htl];congr 1;rw[Nat.min_eq_right om];omega
  ·rw[cK,aoN];exact ho.cell 0 rfl _ (hxcur j u hj)
  ·rw[htl,hcl];have:(n - k)*6+(k+1)*6=(n+1)*6:=by rw[<-arC];congr 1;omega
   have:(n+1)*6<=cap*6:=apQ _ hroom';omega
  simp only[aqP] at ho;refine aC (dG aoW hsz om om) |>.mpr ?_;rw[aoF,fE om];have hnew:w4.heap[nb]?=aw (.cells new.toArray 25 (0,0)):=(ho.grew.block nb (dW hnb) hne).trans hnb;have hkc:(k+1)*6<=cap*6:=apQ _ om;have hnc2:(n+1)*6<=cap*6:=apQ _ hroom';have hsum:(n - k)*6+(k+1)*6=(n+1)*6:=by rw[<-arC];congr 1;omega
  refine yH 0 (src:=new) aoW hsz ho rfl ?_ (λj u hj=>by rw[cK,aoN];exact aI (T:=25) hnew hj) ?_ h2 λ_ w5 ho=>?_
  ·rw[hl,apI om]
  ·simp only[aoC,aoH,aoJ,hcl,hl,htl];omega
  simp only[aqP] at ho;have hck:cur.toList.take (k*6)=xs.take (k*6):=by
   rw[<-htake,asR,apI (apQ _ om)]
  have hcur:((cur.toList.take (0+(k+1)*6)++xs.drop (k*6)++cur.toList.drop (0+(k+1)*6+(xs.drop (k*6)).length)).take (0+k*6)++new++(cur.toList.take (0+(k+1)*6)++xs.drop (k*6)++cur.toList.drop (0+(k+1)*6+(xs.drop (k*6)).length)).drop (0+k*6+new.length))
   =(xs.take (k*6)++new++xs.drop (k*6))++cur.toList.drop (0+(k+1)*6+(xs.drop (k*6)).length):=by
   have hlt:(cur.toList.take (0+(k+1)*6)).length=0+(k+1)*6:=by rw[aoH,hcl];omega
   rw[aoL (cur.toList.take (0+(k+1)*6))];rw[avE (by rw[hlt];omega),asR,apI om,aoN,hck];rw[asJ,apR (show (cur.toList.take (0+(k+1)*6)).length<=k*6+new.length by rw[hlt,hl];omega),apK];rw[show k*6+new.length - (cur.toList.take (0+(k+1)*6)).length=0 by rw[hlt,hl];omega,aqH];simp only[aoN,aoL]
  rw[hcur] at ho;have ho:=ho.toU 6 (n+1) cap (by simp only[aoC,aoH,aoJ,hcl,hl,hxl];omega) hroom' (by simp only[maxLen] at hcm;exact hcm);rw[aqY (show (xs.take (k*6)++new++xs.drop (k*6)).length=(n+1)*6 by simp only[aoC,aoH,aoJ,hl,hxl];omega)] at ho;exact hK _ _ ⟨_,rfl,OwnS.back ho⟩
theorem MH (v:ao)(n:Nat)(xs:List ao)(k:Nat)(w:ak)(hu:(Ent.urow 9 1 v n xs).is w)(h1:∀u∈xs,u.oneCell'=au)(hk:k < n)(hb:n<=100000000000) :
  Ret ah 219 #[v,.int .i64 (k:Int),.int .i64 ((k+1:Nat):Int)] w
   (λv' w'=>∃e',e'=Ent.urow 9 1 v' (n - 1) (xs.take (k*1)++xs.drop ((k+1)*1))∧Turn (.urow 9 1 v n xs) e' w w'):=by
 have hxl:xs.length=n*1:=(show w.ownsRow 0 9 1 v n xs from hu).1;have ho:=OwnS.lend hu;refine aK λK hK=>lB ?_;unfold fP nz;have hel:elB ah 9 1 16=true:=krx
 have hsz:(Tryz.prog.info? 9).map (·.size)=aw 1:=krx
 rcases (show w.ownsRow 0 9 1 v n xs from hu).2 with ⟨_,h0⟩|⟨g,cap,cur,rfl,hbg,hg,hnc,hcm,hcs,htake⟩
 ·omega
 have hcl:cur.toList.length=cap*1:=by simpa using hcs
 have hnc2:n*1<=cap*1:=apQ _ hnc;have hoc:OwnS (Ent.urow 9 1 (.slice (aw ⟨g,0,av⟩) n cap) n xs).blk w w [.cells g cur.toList 9]:=
  ho.turn 0 rfl ⟨Grew.refl _ _,by show w.heap[g]?=_;rw[hg],λj hj=>.inl (by simp only[Ent.cells] at hj;subst hj;rfl)⟩
 rw[bG aoT];refine aC (G9 aoT hsz om om om om) |>.mpr ?_;have hne:¬(k:Int)=((k+1:Nat):Int):=om
 simp only[rs,hne,aoB];rw[bG aoT];refine quiet ?_;refine q_do _ (λW=>jB aoT hsz om om) ?_;refine q_do _ (λW=>dG aoT hsz om om) ?_;rw[show subA (aw (⟨g,0,av⟩:Addr)) 0 cap 1=aw ⟨g,0,av⟩ from Hq (a:=⟨g,0,av⟩),aoF,aoF];obtain⟨a,ha,hac⟩:∃a,subA (aw (⟨g,0,av⟩:Addr)) (k+1) cap 1=aw a∧(k+1 < cap->a=⟨g,(k+1)*1,av⟩):=by
  by_cases h:k+1 < cap
  ·exact⟨_,by rw[fE h,aoN],λ_=>rfl⟩
  ·exact⟨⟨g,0,av⟩,by unfold subA;rw[anX om],λh'=>absurd h' h⟩
 rw[ha];intro w3 hw;have ho:=hoc.grow hw;have htl:(xs.drop ((k+1)*1)).length=(n - (k+1))*1:=by rw[aoJ,hxl,<-auF]
 have hkk:(k+1)*1<=n*1:=apQ _ om;have hsum:k*1+(n - (k+1))*1=(n - 1)*1:=by rw[<-arC];congr 1;omega
 have hn1:(n - 1)*1+1=n*1:=by rw[<-aqX];congr 1;omega
 refine LM 0 (news:=xs.drop ((k+1)*1)) aoT hel ho rfl htl (λj u hj=>?_) (λu hu=>h1 u (arZ hu)) om (by rw[htl,hcl];omega) λw4 ho=>?_
 ·have hjl:j < (xs.drop ((k+1)*1)).length:=(aoX.1 hj).1;have hlt:k+1 < cap:=by
   rcases apD (k+1) n with h|h
   ·omega
   ·rw[htl,show n - (k+1)=0 by omega] at hjl;omega
  rw[hac hlt,cK];refine ho.cell 0 rfl _ ?_;rw[aqG,<-htake,arB] at hj;split at hj<;>first|exact hj|cases hj
 simp only[aqP] at ho;rw[bG aoT];rw[show k+(n - (k+1))=n - 1 by omega];refine aC (NV aoT hsz om om om) |>.mpr ?_;rw[aoF,aoF,fE om,aoN,show n - (n - 1)=1 by omega];have hck:cur.toList.take (k*1)=xs.take (k*1):=by
  rw[<-htake,asR,apI (apQ _ om)]
 have hkl:(xs.take (k*1)).length=k*1:=by rw[aoH,hxl,apI om]
 rw[hck] at ho;have hal:(xs.take (k*1)++xs.drop ((k+1)*1)).length=(n - 1)*1:=by rw[aoC,hkl,htl,hsum]
 refine Rt 0 aoT hel (show zB ah 9=au by kernel_rfl) om ho rfl (by simp only[aoC,aoJ,hcl,hkl,hxl];omega) λ_ w5 zs hzs ho=>?_;simp only[aqP] at ho;rw[aqY hal,aoL (xs.take (k*1)++xs.drop ((k+1)*1))] at ho;have ho:=ho.toU 1 (n - 1) cap (by simp only[aoC,aoJ,hcl,hkl,hxl,hzs];omega) om (by simp only[maxLen] at hcm;exact hcm);rw[aqY hal] at ho;exact hK _ _ ⟨_,rfl,OwnS.back ho⟩
theorem MF (v:ao)(n:Nat)(xs:List ao)(k:Nat)(w:ak)(hu:(Ent.urow 25 6 v n xs).is w)(h1:∀u∈xs,u.oneCell'=au)(hk:k < n)(hb:n<=100000000000) :
  Ret ah 220 #[v,.int .i64 (k:Int),.int .i64 ((k+1:Nat):Int)] w
   (λv' w'=>∃e',e'=Ent.urow 25 6 v' (n - 1) (xs.take (k*6)++xs.drop ((k+1)*6))∧Turn (.urow 25 6 v n xs) e' w w'):=by
 have hxl:xs.length=n*6:=(show w.ownsRow 0 25 6 v n xs from hu).1;have ho:=OwnS.lend hu;refine aK λK hK=>dY ?_;unfold bV nz;have hel:elB ah 25 6 88=true:=krx
 have hsz:(Tryz.prog.info? 25).map (·.size)=aw 6:=krx
 rcases (show w.ownsRow 0 25 6 v n xs from hu).2 with ⟨_,h0⟩|⟨g,cap,cur,rfl,hbg,hg,hnc,hcm,hcs,htake⟩
 ·omega
 have hcl:cur.toList.length=cap*6:=by simpa using hcs
 have hnc2:n*6<=cap*6:=apQ _ hnc;have hoc:OwnS (Ent.urow 25 6 (.slice (aw ⟨g,0,av⟩) n cap) n xs).blk w w [.cells g cur.toList 25]:=
  ho.turn 0 rfl ⟨Grew.refl _ _,by show w.heap[g]?=_;rw[hg],λj hj=>.inl (by simp only[Ent.cells] at hj;subst hj;rfl)⟩
 rw[bG aoW];refine aC (G9 aoW hsz om om om om) |>.mpr ?_;have hne:¬(k:Int)=((k+1:Nat):Int):=om
 simp only[rs,hne,aoB];rw[bG aoW];refine quiet ?_;refine q_do _ (λW=>jB aoW hsz om om) ?_;refine q_do _ (λW=>dG aoW hsz om om) ?_;rw[show subA (aw (⟨g,0,av⟩:Addr)) 0 cap 6=aw ⟨g,0,av⟩ from Hq (a:=⟨g,0,av⟩),aoF,aoF];obtain⟨a,ha,hac⟩:∃a,subA (aw (⟨g,0,av⟩:Addr)) (k+1) cap 6=aw a∧(k+1 < cap->a=⟨g,(k+1)*6,av⟩):=by
  by_cases h:k+1 < cap
  ·exact⟨_,by rw[fE h,aoN],λ_=>rfl⟩
  ·exact⟨⟨g,0,av⟩,by unfold subA;rw[anX om],λh'=>absurd h' h⟩
 rw[ha];intro w3 hw;have ho:=hoc.grow hw;have htl:(xs.drop ((k+1)*6)).length=(n - (k+1))*6:=by rw[aoJ,hxl,<-auF]
 have hkk:(k+1)*6<=n*6:=apQ _ om;have hsum:k*6+(n - (k+1))*6=(n - 1)*6:=by rw[<-arC];congr 1;omega
 have hn1:(n - 1)*6+6=n*6:=by rw[<-aqX];congr 1;omega
 refine LM 0 (news:=xs.drop ((k+1)*6)) aoW hel ho rfl htl (λj u hj=>?_) (λu hu=>h1 u (arZ hu)) om (by rw[htl,hcl];omega) λw4 ho=>?_
 ·have hjl:j < (xs.drop ((k+1)*6)).length:=(aoX.1 hj).1;have hlt:k+1 < cap:=by
   rcases apD (k+1) n with h|h
   ·omega
   ·rw[htl,show n - (k+1)=0 by omega] at hjl;omega
  rw[hac hlt,cK];refine ho.cell 0 rfl _ ?_;rw[aqG,<-htake,arB] at hj;split at hj<;>first|exact hj|cases hj
 simp only[aqP] at ho;rw[bG aoW];rw[show k+(n - (k+1))=n - 1 by omega];refine aC (NV aoW hsz om om om) |>.mpr ?_;rw[aoF,aoF,fE om,aoN,show n - (n - 1)=1 by omega];have hck:cur.toList.take (k*6)=xs.take (k*6):=by
  rw[<-htake,asR,apI (apQ _ om)]
 have hkl:(xs.take (k*6)).length=k*6:=by rw[aoH,hxl,apI om]
 rw[hck] at ho;have hal:(xs.take (k*6)++xs.drop ((k+1)*6)).length=(n - 1)*6:=by rw[aoC,hkl,htl,hsum]
 refine Rt 0 aoW hel (show zB ah 25=au by kernel_rfl) om ho rfl (by simp only[aoC,aoJ,hcl,hkl,hxl];omega) λ_ w5 zs hzs ho=>?_;simp only[aqP] at ho;rw[aqY hal,aoL (xs.take (k*6)++xs.drop ((k+1)*6))] at ho;have ho:=ho.toU 6 (n - 1) cap (by simp only[aoC,aoJ,hcl,hkl,hxl,hzs];omega) om (by simp only[maxLen] at hcm;exact hcm);rw[aqY hal] at ho;exact hK _ _ ⟨_,rfl,OwnS.back ho⟩
end
section
open Eng
def Hk(t0 w)(K:KT):=nz f69 1 [] [] [] (zg [0] [t0]) w K
theorem Jl{t0 w K}:Hk t0 w K->Calls ah 69 #[t0] w K:=cw func69
def E9(t0 w)(K:KT):=nz f141 1 [] [] [] (zg [0] [t0]) w K
theorem Iq{t0 w K}:E9 t0 w K->Calls ah 141 #[t0] w K:=cw func141
def F3(t0 w)(K:KT):=nz f139 1 [] [] [] (zg [0] [t0]) w K
theorem Iv{t0 w K}:F3 t0 w K->Calls ah 139 #[t0] w K:=cw func139
def Fg(t0 w)(K:KT):=nz f138 1 [] [] [] (zg [0] [t0]) w K
theorem H3{t0 w K}:Fg t0 w K->Calls ah 138 #[t0] w K:=cw func138
def Dx(t3 t6 w)(K:KT):=nz f140 63 [] [] [] (zg [3,6] [t3,t6]) w K
def HC(t0 t1 t2 w)(K:KT):=nz f140 1 [] [(16,[],λs v j w f=>Dx (s 3) (s 6) w K)] [] (zg [0,1,2] [t0,t1,t2]) w K
theorem JU{t0 t1 t2 w K}:HC t0 t1 t2 w K->Calls ah 140 #[t0,t1,t2] w K:=cz [(8,[])] [] func140
def Br(t0 t1 w)(K:KT):=nz f155 1 [] [] [] (zg [0,1] [t0,t1]) w K
theorem EO{t0 t1 w K}:Br t0 t1 w K->Calls ah 155 #[t0,t1] w K:=cw func155
def I6(t0 t1 w)(K:KT):=nz f146 1 [] [] [] (zg [0,1] [t0,t1]) w K
theorem KH{t0 t1 w K}:I6 t0 t1 w K->Calls ah 146 #[t0,t1] w K:=cw func146
def I8(t0 t1 t2 w)(K:KT):=nz f70 1 [] [] [] (zg [0,1,2] [t0,t1,t2]) w K
theorem KX{t0 t1 t2 w K}:I8 t0 t1 t2 w K->Calls ah 70 #[t0,t1,t2] w K:=cw func70
def Dp(t2 t4 w)(K:KT):=nz f88 7 [] [] [] (zg [2,4] [t2,t4]) w K
def HD(t0 t1 w)(K:KT):=nz f88 1 [] [(10,[],λs v j w f=>Dp (s 2) (s 4) w K)] [] (zg [0,1] [t0,t1]) w K
theorem Kg{t0 t1 w K}:HD t0 t1 w K->Calls ah 88 #[t0,t1] w K:=cz [(5,[])] [] func88
def FP(t0 w)(K:KT):=nz f95 1 [] [] [] (zg [0] [t0]) w K
theorem Ip{t0 w K}:FP t0 w K->Calls ah 95 #[t0] w K:=cw func95
def B3(t0 w)(K:KT):=nz f164 1 [] [] [] (zg [0] [t0]) w K
theorem Fe{t0 w K}:B3 t0 w K->Calls ah 164 #[t0] w K:=cw func164
def vQ(t2 t4 w)(K:KT):=nz f163 31 [] [] [] (zg [2,4] [t2,t4]) w K
def vH(t1 t2 t5 t23 t24 t25 w)(J1 N2:JT)(K:KT):=nz f163 1367 [J1,N2] [nh 22 [],nh 13 [25]] [] (zg [1,2,5,23,24,25] [t1,t2,t5,t23,t24,t25]) w K
def Cb(t0 t1 w)(K:KT):=nz f163 1 [] [(13,[25],λs v j w f=>vH (s 1) (s 2) (s 5) (s 23) (s 24) (vg v 0) w (f 1) (f 0) K),(22,[],λs v j w f=>vQ (s 2) (s 4) w K)] [] (zg [0,1] [t0,t1]) w K
theorem ES{t0 t1 w K}:Cb t0 t1 w K->Calls ah 163 #[t0,t1] w K:=cz [(11,[])] [(6,[25])] func163
end
section
open Go
namespace Vl
def used (k:Int):Option (Bool×Bool×Bool×Bool×Bool):=
 if k=0 then aw (aq,aq,aq,aq,aq)
 else if k=1∨k=2∨k=3 then aw (au,aq,aq,aq,aq)
 else if k=4∨k=5 then aw (aq,aq,au,aq,aq)
 else if k=6 then aw (aq,aq,aq,aq,au)
 else if k=7 then aw (aq,aq,aq,au,au)
 else if k=8 then aw (au,au,aq,aq,aq)
 else if k=9 then aw (aq,aq,au,au,au)
 else av
def xF (o:Ob):Bool:=
 match used o.k with
|none=>aq
|some (n,g,s,ks,cs)=>(n||decide (o.n=0))&&(g||decide (o.g=0))&&(s||decide (o.s=[]))&&(ks||decide (o.keys=[]))&&(cs||decide (o.kids.length=0))
def fits (o:Ob):Bool:=
 if o.k=1 then ai (0<=o.n∧o.n<=1)
 else if o.k=2 then ai (-2147483647<=o.n∧o.n<=2147483647)
 else if o.k=3 then ai (-1073741824<=o.n∧o.n<=1073741824)
 else if o.k=8 then ai (1<=o.n∧o.n<=8191)&&ai (0<=o.g∧o.g<=65535)
 else au
def long (k:Int):Nat:=if k=5 then 127 else if k=9 then 1048576 else 32767
def name (s:List UInt8):Bool:=ai (s.length<=127)&&ai ((0:UInt8) ∉ s)
def lenK:List UInt8:=[76,101,110,103,116,104]
abbrev less (a b:List UInt8):Bool:=Op.bytesLess a b
def JX (o:Ob)(i:Nat):Bool:=
 name (o.keys.getD i [])&&(ai (i=0)||less (o.keys.getD (i - 1) []) (o.keys.getD i []))&&!(ai (o.k=9)&&ai (o.keys.getD i []=lenK))&&ai ((o.kids.getD i (.mk 0 0 0 [] [] [])).k≠0)
def rising (o:Ob):Bool:=ai (o.keys.length=o.kids.length)&&(List.range o.keys.length).all (JX o)
def form (o:Ob):Bool:=(!(ai (o.k=5))||name o.s)&&(!(ai (o.k=7∨o.k=9))||rising o)
def why (d:Nat)(o:Ob):Int:=
 if 24 < d then 7
 else if xF o=aq∨(o.k=9∧1 < d) then 10
 else if fits o=aq then 2
 else if long o.k < o.s.length then 5
 else if 8191 < o.kids.length then 6
 else if form o=aq then 3
 else 0
 mutual
def check (d:Nat):Ob->Int
|.mk k n g s keys kids=>if why d (.mk k n g s keys kids)≠0 then why d (.mk k n g s keys kids) else xG (d+1) kids
def xG (d:Nat):List Ob->Int
|[]=>0
|o::os=>if check d o≠0 then check d o else xG d os
end
theorem IM (d:Nat)(o:Ob):check d o=if why d o≠0 then why d o else xG (d+1) o.kids:=by cases o;rw[check];rfl
end Vl
end
section
open Go
namespace Vl
theorem Ub (a b:List UInt8):less a b=au↔a < b:=by rw[less,bytesLess_eq,apY]
theorem CI {a b c:List UInt8}(h:less a b=au)(k:less b c=au):less a c=true:=by
 rw[Ub] at *;exact List.lt_trans h k
theorem El (a:List UInt8):less a a=false:=by
 cases h:less a a with
|false=>rfl
|true=>rw[Ub] at h;exact absurd h (List.lt_irrefl _)
def Rise (l:List (List UInt8)):Prop:=l.Pairwise λa b=>less a b=au
def place (l:List (List UInt8))(x:List UInt8):Nat:=(l.takeWhile λk=>less k x).length
def hit (l:List (List UInt8))(x:List UInt8):Bool:=ai (l[place l x]?=aw x)
theorem Hy {α:Type}{p:α->Bool}:∀(l:List α) (i:Nat),i<=l.length->(∀m (h:m < l.length),m < i->p l[m]=au)->(∀h:i < l.length,p l[i]=aq)->(l.takeWhile p).length=i
|[],i,hi,_,_=>by simp at hi;simp[hi]
|a::l,0,_,_,h=>by
  have:=h sm;rw[avF] at this;simp[awD,this]
|a::l,i+1,hi,h1,h2=>by
  have h0:=h1 0 sm om;rw[avF] at h0;rw[awD,h0];simp only[if_true,apB];rw[Hy l i (by simpa using hi) (λm hm hmi=>by
   have:=h1 (m+1) (by simpa using hm) om
   rwa [awF] at this) (λh=>by
   have:=h2 (by simpa using h)
   rwa [awF] at this)]
theorem Ym (l:List (List UInt8))(x:List UInt8):place l x<=l.length:=(List.takeWhile_prefix _).length_le
theorem R4 {l:List (List UInt8)}{x:List UInt8}(hi:i<=l.length)(h1:∀m (h:m < l.length),m < i->less l[m] x=au)(h2:∀h:i < l.length,less l[i] x=aq):place l x=i:=Hy l i hi h1 h2
theorem CC {l:List (List UInt8)}(h:Rise l)(hij:i < j)(hj:j < l.length):less (l[i]'(om)) l[j]=true:=asM.1 h i j om hj hij
def ob0:Ob:=.mk 0 0 0 [] [] []
def keyed (o:Ob):Bool:=ai (o.k=7)||decide (o.k=9)
def get (o:Ob)(key:List UInt8):Option Ob:=if keyed o then (if o.keys.idxOf key < o.keys.length then o.kids[o.keys.idxOf key]? else av) else av
def put (o:Ob)(key:List UInt8)(v:Ob):Ob:=
 .mk o.k o.n o.g o.s (o.keys.take (place o.keys key)++key::o.keys.drop (place o.keys key+if hit o.keys key then 1 else 0)) (o.kids.take (place o.keys key)++v::o.kids.drop (place o.keys key+if hit o.keys key then 1 else 0))
def gH (key:List UInt8):List (List UInt8)->List Ob->List (List UInt8)×List Ob
|k::ks,c::cs=>if k=key then gH key ks cs else (k::(gH key ks cs).1,c::(gH key ks cs).2)
|_,_=>([],[])
def bC (o:Ob)(key:List UInt8):Ob:=.mk o.k o.n o.g o.s (gH key o.keys o.kids).1 (gH key o.keys o.kids).2
def right (o:Ob):Ob×Int:=if check 1 o≠0 then (ob0,check 1 o) else (o,0)
def set (o:Ob)(key:List UInt8)(v:Ob):Ob×Int:=
 if keyed o=aq then (ob0,10) else if check 1 o≠0 then (ob0,check 1 o) else if v.k=0 then (bC o key,0) else right (put o key v)
theorem Cy {o:Ob}(h:check d o=0)(hk:keyed o=au):Rise o.keys∧o.keys.length=o.kids.length:=by
 rw[IM] at h;split at h
 ·rename_i hw;exact absurd h hw
 ·rename_i hw
  have hw:=Classical.not_not.1 hw;unfold why at hw;split at hw
  ·cases hw
  split at hw
  ·cases hw
  split at hw
  ·cases hw
  split at hw
  ·cases hw
  split at hw
  ·cases hw
  split at hw
  ·cases hw
  rename_i hf
  have hf:form o=true:=by simpa using hf
  have h79:o.k=7∨o.k=9:=by
   unfold keyed at hk;simpa using hk
  have hr:rising o=true:=by
   unfold form at hf;simp only[aoY] at hf;have:=hf.2;rw[anZ h79] at this;simpa using this
  unfold rising at hr;simp only[aoY,apY] at hr;refine⟨?_,hr.1⟩;have step:∀i,i+1 < o.keys.length->less (o.keys.getD i []) (o.keys.getD (i+1) [])=true:=by
   intro i hi;have:=aqU.1 hr.2 (i+1) (apZ.2 hi);unfold JX at this;simp only[aoY,atD] at this;have:=this.1.1.2;rcases this with h0|h0
   ·have:=aoU h0;omega
   ·simpa using h0
  have gd:∀i (h:i < o.keys.length),o.keys.getD i []=o.keys[i]:=λi h=>by rw[aoE,aoI h];rfl
  refine asM.2 λi j hi hj hij=>?_;have:∀d,∀j (hj:j < o.keys.length),j=i+1+d->less o.keys[i] o.keys[j]=true:=by
   intro d
   induction d with
  |zero=>
    intro j hj he;have:=step i om;rw[gd i hi,gd (i+1) om] at this;subst he;exact this
  |succ d ih=>
    intro j hj he;have h1:=ih (i+1+d) om rfl;have h2:=step (i+1+d) om;rw[gd _ om,gd _ om] at h2;subst he;exact CI h1 h2
  exact this (j - (i+1)) j hj om
theorem Gw {key:List UInt8}:∀{ks:List (List UInt8)} {cs:List Ob},ks.length=cs.length->key ∉ ks->gH key ks cs=(ks,cs)
|[],[],_,_=>rfl
|k::ks,c::cs,hl,hn=>by
  rw[gH,anW (λe=>hn (by simp[e])),Gw (by simpa using hl) (λh=>hn (by simp[h]))]
|[],_::_,hl,_=>by simp at hl
|_::_,[],hl,_=>by simp at hl
theorem Rf {key:List UInt8}:∀{ks:List (List UInt8)} {cs:List Ob} {i:Nat},ks.length=cs.length->ks[i]?=aw key->(∀m (h:m < ks.length),m≠i->ks[m]≠key)->gH key ks cs=(ks.take i++ks.drop (i+1),cs.take i++cs.drop (i+1))
|[],[],_,_,h,_=>by simp at h
|k::ks,c::cs,0,hl,h,hn=>by
  simp only[atF,arV] at h;rw[gH,anX h,Gw (by simpa using hl)]
  ·simp
  ·intro hm;obtain⟨m,hml,rfl⟩:=asF hm;exact hn (m+1) (by simpa using hml) om sm
|k::ks,c::cs,i+1,hl,h,hn=>by
  have h0:=hn 0 sm om;rw[avF] at h0;rw[gH,anW h0,Rf (i:=i) (by simpa using hl) (by simpa using h) (λm hm hmi=>by
   have:=hn (m+1) (by simpa using hm) om
   rwa [awF] at this)]
  simp
|[],_::_,_,hl,_,_=>by simp at hl
|_::_,[],_,hl,_,_=>by simp at hl
theorem adO {l:List (List UInt8)}(h:Rise l)(hi:i < l.length)(hj:j < l.length)(hij:i≠j):l[i]≠l[j]:=by
 intro e;rcases apD i j with h1|h1
 ·have:=CC h h1 hj;rw[e,El] at this;cases this
 ·have:=CC h (show j < i by omega) hi;rw[e,El] at this;cases this
theorem acP {l:List (List UInt8)}(h:Rise l){x:List UInt8}(hh:hit l x=aq):x ∉ l:=by
 intro hm;obtain⟨m,hml,rfl⟩:=asF hm;have hp:place l l[m]=m:=R4 om (λj hj hjm=>CC h hjm hml) (λ_=>El _);unfold hit at hh;rw[hp,aoI hml] at hh;simp at hh
theorem Tm {o:Ob}(h:check d o=0)(hk:keyed o=au)(key:List UInt8):bC o key=if hit o.keys key then .mk o.k o.n o.g o.s (o.keys.take (place o.keys key)++o.keys.drop (place o.keys key+1)) (o.kids.take (place o.keys key)++o.kids.drop (place o.keys key+1)) else o:=by
 obtain⟨hr,hl⟩:=Cy h hk;cases hh:hit o.keys key with
|true=>
  have hi:o.keys[place o.keys key]?=aw key:=aoU hh;have hlt:place o.keys key < o.keys.length:=(aoX.1 hi).1;have hg:o.keys[place o.keys key]=key:=(aoX.1 hi).2;unfold bC;rw[Rf hl hi (λm hm hne=>by rw[<-hg];exact adO hr hm hlt hne)];rfl
|false=>
  unfold bC;rw[Gw hl (acP hr hh)];cases o;rfl
end Vl
end
section
open Eng
def fJ(t0 t1 t7 t8 w)(N1:JT)(K:KT):=nz f207 21 [N1] [nh 5 [8]] [] (zg [0,1,7,8] [t0,t1,t7,t8]) w K
def fZ(t0 t1 w)(K:KT):=nz f207 1 [] [(5,[8],λs v j w f=>fJ (s 0) (s 1) (s 7) (vg v 0) w (f 0) K)] [] (zg [0,1] [t0,t1]) w K
theorem nA{t0 t1 w K}:fZ t0 t1 w K->Calls ah 207 #[t0,t1] w K:=cz [] [(2,[8])] func207
end
section
open Eng Go.RowKit
theorem YB:eM ah 9=true:=krx
theorem ajF {l:List (List UInt8)}{x:List UInt8}(h:i < l.length)(hn:x ∉ l.take i)(he:l[i]=x):l.idxOf x=i:=by
 have e:l=l.take i++(l[i]::l.drop (i+1)):=by
  rw[<-apV h,apS]
 rw[e,List.idxOf_append,anW hn,he,List.idxOf_cons_self,aoH];omega
theorem TD (va:ao)(l:List (List UInt8))(x:List UInt8)(w:ak)(ha:Sl w va 1 l.length (cD l))(hl:l.length<=1099511627776) :
  Ret ah 207 #[va,.string ⟨x.toArray⟩] w (λv w'=>v=.int .i64 (if l.idxOf x < l.length then (l.idxOf x:Int) else -1)∧w=w'):=by
 refine aK λK hK=>nA ?_;unfold fZ nz;rw[bB aoT ha];refine loop (λvs w'=>∃(i:Nat),vs=[.int .i64 i]∧i<=l.length∧x ∉ l.take i∧w=w') (λvs _=>l.length - n0 vs) ⟨0,rfl,om,sm,rfl⟩ ?_;rintro vs w2 ⟨i,rfl,hi,hm,rfl⟩ _;simp only[fJ,gd,rs,nz];by_cases hlt:(i:Int) < (l.length:Int)
 ·have hi':i < l.length:=om
  simp only[hlt,aoA,rs];refine O6 (.string ⟨(l[i]).toArray⟩) aoT krx ha om (by rw[aoF];exact jW hi') λq hq=>?_;rw[aS YB hq];simp only[rs];by_cases he:x=l[i]
  ·simp only[<-he,aoA,rs];have:=ajF hi' hm he.symm;exact hK _ _ ⟨by rw[this,anX hi'],rfl⟩
  ·simp only[he,aoB,rs];rw[aA om om];refine aQ ⟨i+1,rfl,om,?_,rfl⟩ (by simp[n0,RowKit.intOf];omega);rw[List.take_add_one,aoI hi'];simp only[Option.toList,apF,aoZ,not_or];exact⟨hm,he⟩
 ·simp only[hlt,aoB,i_f];rw[apE om] at hm;exact hK _ _ ⟨by rw[anW (by rw[List.idxOf_lt_length_iff];exact hm)],rfl⟩
end
section
open Eng Go.RowKit
def obC (o:Ob)(vk vc:ao):List Value:=[.int .i64 o.k,.int .i64 o.n,.int .i64 o.g,.string ⟨o.s.toArray⟩,vk,vc]
def obV (o:Ob)(vk vc:ao):Value:=.agg (obC o vk vc).toArray
def obE (b:Nat)(o:Ob)(vk vc:ao):Ent:=.cells b (obC o vk vc) 25
structure ObAt (A:Nat->Prop) (w:ak) (o:Ob) (vk vc:ao) (cs:List ao):Prop where
 keys:SlA A w vk 1 o.keys.length (cD o.keys)
 kids:SlA A w vc 6 o.kids.length cs
 all:OVs A w cs o.kids
theorem OV.open {o:Ob}(h:OV A w v o):∃vk vc cs,v=obV o vk vc∧ObAt A w o vk vc cs:=by
 cases o with
|mk k n g s keys kids=>
  rw[OV] at h;obtain⟨vk,vc,cs,rfl,h1,h2,h3⟩:=h;exact⟨vk,vc,cs,rfl,h1,h2,h3⟩
theorem ObAt.ov {o:Ob}(h:ObAt A w o vk vc cs):OV A w (obV o vk vc) o:=by
 cases o with
|mk k n g s keys kids=>
  rw[OV];exact⟨vk,vc,cs,rfl,h.keys,h.kids,h.all⟩
theorem ObAt.kept {A:Nat->Prop}{w w':ak}{o:Ob}{vk vc:ao}{cs:List ao}(h:ObAt A w o vk vc cs)(hk:Kept A w w'):ObAt A w' o vk vc cs:=
 ⟨h.keys.kept hk,h.kids.kept hk,OVs.kept hk _ _ h.all⟩
theorem TZ (hA:∀b,A b->b < w.heap.size)(h:Below w.heap.size w w'):Kept A w w':=λb hb=>h.block b (hA b hb)
theorem OwnS.keptIn (h:Own w0 w L):Kept (InW w0) w0 w:=TZ (λ_ h=>h) h.done
theorem ObAt.own {o:Ob}(h:ObAt (InW w0) w0 o vk vc cs)(ho:Own w0 w L):ObAt (InW w0) w o vk vc cs:=h.kept (OwnS.keptIn ho)
theorem SlA.one {n:Nat}(h:SlA A w v sz n cs):v.oneCell'=true:=by
 obtain⟨⟨_,a,cap,rfl,_⟩,_⟩:=h;rfl
theorem Bl:aggN ah 25=aw 6:=krx
theorem szOb:(Tryz.prog.info? 25).map (·.size)=aw 6:=krx
theorem akJ:eM ah 23=true:=krx
theorem Qf:eM ah 22=true:=krx
theorem nI65:eM ah 2=true:=krx
theorem bP:eM ah 3=true:=krx
theorem X2:eM ah 9=true:=krx
theorem alQ:fOff ah 25 0=aw 0:=krx
theorem alB:fOff ah 25 1=aw 1:=krx
theorem amN:fOff ah 25 2=aw 2:=krx
theorem amX:fOff ah 25 3=aw 3:=krx
theorem aiK:fOff ah 25 4=aw 4:=krx
theorem anS:fOff ah 25 5=aw 5:=krx
section
variable {w:ak}{PK:PKT}{K:VWP}{S:Nat->Prop}{w0:ak}{L:List Ent}
theorem oL {off:Nat}:DoX ah (mFA 25 (.pointer (aw ⟨b,off,av⟩)) 0) w PK K=K (.pointer (aw ⟨b,off,av⟩)) w:=aP alQ
theorem PI {off:Nat}:DoX ah (mFA 25 (.pointer (aw ⟨b,off,av⟩)) 1) w PK K=K (.pointer (aw ⟨b,off+1,av⟩)) w:=aP alB
theorem aiY {off:Nat}:DoX ah (mFA 25 (.pointer (aw ⟨b,off,av⟩)) 2) w PK K=K (.pointer (aw ⟨b,off+2,av⟩)) w:=aP amN
theorem NB {off:Nat}:DoX ah (mFA 25 (.pointer (aw ⟨b,off,av⟩)) 3) w PK K=K (.pointer (aw ⟨b,off+3,av⟩)) w:=aP amX
theorem FR {off:Nat}:DoX ah (mFA 25 (.pointer (aw ⟨b,off,av⟩)) 4) w PK K=K (.pointer (aw ⟨b,off+4,av⟩)) w:=aP aiK
theorem yC {off:Nat}:DoX ah (mFA 25 (.pointer (aw ⟨b,off,av⟩)) 5) w PK K=K (.pointer (aw ⟨b,off+5,av⟩)) w:=aP anS
theorem mW (o:Ob)(hk:vk.oneCell'=au)(hc:vc.oneCell'=au)(ho:OwnS S w0 w L)(k:∀b w',OwnS S w0 w' (obE b o vk vc::L)->K (.pointer (aw ⟨b,0,av⟩)) w'):DoX ah (mBox 25 (obV o vk vc)) w PK K:=by
 cases vk<;>first|(cases hk;done)|skip
 all_goals cases vc<;>first|(cases hc;done)|exact bD (λb=>.pointer (aw ⟨b,0,av⟩)) (obC o _ _) 25 (λ_=>by kernel_rfl) ho k
def ob0:Ob:=.mk 0 0 0 [] [] []
theorem jH (ho:OwnS S w0 w L)(k:∀b w',OwnS S w0 w' (obE b ob0 (.slice av 0 0) (.slice av 0 0)::L)->K (.pointer (aw ⟨b,0,av⟩)) w'):DoX ah (Dv 25) w PK K:=
 bD (λb=>.pointer (aw ⟨b,0,av⟩)) (obC ob0 (.slice av 0 0) (.slice av 0 0)) 25 (λ_=>by kernel_rfl) ho k
theorem Kw (o:Ob)(hk:vk.oneCell'=au)(hc:vc.oneCell'=au):∀v∈obC o vk vc,v.oneCell'=true:=by
 intro v hv;simp only[obC,aoM,aqI,or_false] at hv;rcases hv with rfl|rfl|rfl|rfl|rfl|rfl<;>first|rfl|assumption
theorem cE (i:Nat){o o':Ob}{vk' vc':ao}(hk:vk'.oneCell'=au)(hc:vc'.oneCell'=au)(ho:OwnS S w0 w L)(hi:L[i]?=aw (obE b o vk vc))(k:∀w',OwnS S w0 w' (L.set i (obE b o' vk' vc'))->K undef w') :
  DoX ah (aV 25 (.pointer (aw ⟨b,0,av⟩)) (obV o' vk' vc')) w PK K:=iL i ho hi (new:=obC o' vk' vc') szOb (Kw o' hk hc) rfl k
theorem ob_k (ho:OwnS S w0 w L)(i:Nat){o:Ob}(hi:L[i]?=aw (obE b o vk vc)):DoX ah (aJ 3 (.pointer (aw ⟨b,0,av⟩))) w PK K=K (.int .i64 o.k) w:=aS bP (ho.cell i hi 0 rfl)
theorem ob_n (ho:OwnS S w0 w L)(i:Nat){o:Ob}(hi:L[i]?=aw (obE b o vk vc)):DoX ah (aJ 2 (.pointer (aw ⟨b,0+1,av⟩))) w PK K=K (.int .i64 o.n) w:=aS nI65 (ho.cell i hi 1 rfl)
theorem ob_g (ho:OwnS S w0 w L)(i:Nat){o:Ob}(hi:L[i]?=aw (obE b o vk vc)):DoX ah (aJ 3 (.pointer (aw ⟨b,0+2,av⟩))) w PK K=K (.int .i64 o.g) w:=aS bP (ho.cell i hi 2 rfl)
theorem ob_s (ho:OwnS S w0 w L)(i:Nat){o:Ob}(hi:L[i]?=aw (obE b o vk vc)):DoX ah (aJ 9 (.pointer (aw ⟨b,0+3,av⟩))) w PK K=K (.string ⟨o.s.toArray⟩) w:=aS X2 (ho.cell i hi 3 rfl)
theorem vD (ho:OwnS S w0 w L)(i:Nat){o:Ob}(hi:L[i]?=aw (obE b o vk vc)):DoX ah (aJ 22 (.pointer (aw ⟨b,0+4,av⟩))) w PK K=K vk w:=aS Qf (ho.cell i hi 4 rfl)
theorem gT (ho:OwnS S w0 w L)(i:Nat){o:Ob}(hi:L[i]?=aw (obE b o vk vc)):DoX ah (aJ 23 (.pointer (aw ⟨b,0+5,av⟩))) w PK K=K vc w:=aS akJ (ho.cell i hi 5 rfl)
theorem ob_v (ho:OwnS S w0 w L)(i:Nat){o:Ob}(hi:L[i]?=aw (obE b o vk vc)):DoX ah (aJ 25 (.pointer (aw ⟨b,0,av⟩))) w PK K=K (obV o vk vc) w:=l_at (ho.agg i hi Bl)
theorem alM {os:List Ob}(hs:Sl w vc 6 os.length cs)(hall:OVs A w cs os)(hi:i < os.length)
  (k:∀v,OV A w v os[i]->K v w):DoX ah (mIA 23 vc (.int .i64 (i:Int))) w PK λt w=>DoX ah (aJ 25 t) w PK2 K:=by
 obtain⟨b,off,cap,rfl,hc⟩:=bY hs om;refine aC (dZ aoW szOb om om) |>.mpr ?_;rw[aoF];obtain⟨a,hl,hov,hget⟩:=OVs.get os cs i hi hall;refine aC (bE (v:=.agg a.toArray) (AtV.agg Bl hl λj v hj=>?_)) |>.mpr (k _ hov);rw[arM];exact hc _ _ (hget j v hj)
end
end
section
open Eng
def pP(t0 w)(K:KT):=nz f50 1 [] [] [] (zg [0] [t0]) w K
theorem xY{t0 w K}:pP t0 w K->Calls ah 50 #[t0] w K:=cw func50
def uA(t0 w)(K:KT):=nz f51 1 [] [] [] (zg [0] [t0]) w K
theorem B1{t0 w K}:uA t0 w K->Calls ah 51 #[t0] w K:=cw func51
end
end Go.Proofs.YtlipjfcbjemicaaGreatDoor





namespace Go.Proofs.YtlipjfcbjemicaaGreatDoor
variable{A S:Nat->Prop}{C:ak->Prop}{D U U2:TypeId}{K K':VWP}{L:List Eng.Ent}{L0:Loop}{P:Program}{PK PK2:PKT}{W w w' w0:ak}{a hi lo:Int}{args:Array ao}{b cap d f i j m sz t:Nat}{c t0 v v' v1 v2 vc vk:ao}{cb:Array Bool}{cs cur new news xs:List ao}{k':IntKind}{u:FrameMode}{want y:Bool}{xo yo:Operand}{α β:Type}{σ:Eng.Sg}
section
open Eng Go.RowKit
theorem RW {x y:ao}(h:Ret P f args w (λv w'=>v=x∧Below w.heap.size w w'))(hx:x=y)(ho:Own w0 w L)
  (k:∀w',Own w0 w' L->K y w'):CallX P f args w PK K:=by
 refine Eh h ?_;rintro v w' ⟨rfl,hb⟩;rw[hx];exact k _ (ho.grow hb)
end
section
namespace Eng
open Go.RowKit
def sel (c:Bool)(x:ao):Value:=bc c x undef
theorem alN {x:ao}:sel au x=x:=rfl
theorem anT {x:ao}:sel aq x=undef:=rfl
section
variable {P:Program}{w:ak}{PK:PKT}{K:VWP}
theorem ahX {v x:ao}{want:Bool}:GDo v want (λE=>E x w) w K=K (sel (kF v want) x) w:=by
 refine propext ⟨λh=>?_,λh=>⟨?_⟩⟩
 ·have:=h.out;cases hw:kF v want<;>rw[hw] at this<;>exact this
 ·cases hw:kF v want<;>rw[hw] at h<;>exact h
theorem Ca {c:Bool}{E E':(VWP)->Prop}(hv:v=v')(hc:kF v' want=c)(h:c=au->∀K0,E K0=E' K0):GDo v want E w K=GDo v' want E' w K:=by
 subst hv;refine propext ⟨λx=>⟨?_⟩,λx=>⟨?_⟩⟩
 ·have:=x.out;subst hc;cases hw:kF v want with
 |false=>rw[hw] at this;exact this
 |true=>rw[hw,aF] at this;rw[aF,<-h hw];exact this
 ·have:=x.out;subst hc;cases hw:kF v want with
 |false=>rw[hw] at this;exact this
 |true=>rw[hw,aF] at this;rw[aF,h hw];exact this
theorem aaY {b:Bool}:kF (.bool b) au=b:=by cases b<;>rfl
theorem aeM {b:Bool}:kF (.bool b) aq=!b:=by cases b<;>rfl
theorem Zp {c y:Bool}:kF (sel c (.bool y)) au=(c&&y):=by cases c<;>cases y<;>rfl
theorem Zv {c y:Bool}:kF (sel c (.bool y)) aq=(c&&!y):=by cases c<;>cases y<;>rfl
theorem agO {b:Bool}:(au&&b)=b:=rfl
theorem agY {b:Bool}:(b&&au)=b:=by cases b<;>rfl
theorem YN {b y:Bool}:DoX P (eH (.bool b) (sel b (.bool y)) (.bool aq)) w PK K=K (.bool (b&&y)) w:=by
 rw[K7];cases b<;>rfl
theorem acV {b y:Bool}:DoX P (eH (.bool b) (.bool au) (sel (!b) (.bool y))) w PK K=K (.bool (b||y)) w:=by
 rw[K7];cases b<;>rfl
end
def gs:=And.intro @ahX (And.intro @aaY (And.intro @aeM (And.intro @YN (And.intro @acV (And.intro @alN (And.intro @anT (And.intro @Zp (And.intro @Zv (And.intro @agO @agY)))))))))
end Eng
end
section
open Eng Go.RowKit
 attribute [local congr] Ca
theorem Vs {T:TypeId}{s:List UInt8}:DoX ah (mEq .eql T xo yo (.string ⟨s.toArray⟩) (.string ⟨#[]⟩)) w PK K=K (.bool (ai (s=[]))) w:=KW (b:=[])
theorem alH (l:List α):ai (((l.length:Nat):Int)=0)=ai (l=[]):=by cases l<;>simp;omega
theorem anG (l:List α):ai (((l.length:Nat):Int)=0)=ai (l.length=0):=by rw[decide_eq_decide];omega
end
section
namespace Eng
open Go.RowKit
theorem Qj {c:Bool}{x:ao}:sel c (sel c x)=sel c x:=by cases c<;>rfl
theorem abP {E:(VWP)->Prop}(h:kF v want=aq):GDo v want E w K=K undef w:=by
 refine propext ⟨λx=>?_,λx=>⟨?_⟩⟩
 ·have:=x.out;rw[h] at this;exact this
 ·rw[h];exact x
theorem MB {b:Bool}:DoX P (eH (.bool (!b)) (.bool au) (sel b (.bool y))) w PK K=K (.bool (!b||y)) w:=by
 rw[K7];cases b<;>rfl
end Eng
end
section
open Eng Go.RowKit
 attribute [local congr] Ca
theorem ObAt.in_ {o:Ob}(h:ObAt (InW w0) w0 o vk vc cs)(ho:Own w0 w L):ObAt (InW w) w o vk vc cs:=by
 have hk:=h.own ho;exact⟨⟨hk.keys.1,(λp l c e hn=>arO (hk.keys.2.1 p l c e hn) ho.size),hk.keys.2.2⟩,⟨hk.kids.1,(λp l c e hn=>arO (hk.kids.2.1 p l c e hn) ho.size),hk.kids.2.2⟩,OVs.mono (λ_ hb=>arO hb ho.size) _ _ hk.all⟩
theorem DC {p:Nat->Bool}(n:Nat):(List.range (n+1)).all p=((List.range n).all p&&p n):=by
 rw[asS,List.all_append];simp
theorem M7 {p:Nat->Bool}{n:Nat}(hp:p n=aq)(hn:n < m):(List.range m).all p=false:=by
 rw[<-Bool.not_eq_true];intro h;have:=aqU.1 h n (apZ.2 hn);rw[hp] at this;cases this
theorem We {os:List Ob}(hs:Sl w vc 6 os.length cs)(hall:OVs A w cs os)(hi:i < os.length) :
  ∃b off,(∀{PK:PKT} {K:VWP},DoX ah (mIA 23 vc (.int .i64 (i:Int))) w PK K=K (.pointer (aw ⟨b,off,av⟩)) w)∧w.cell? ⟨b,off,av⟩=aw (.int .i64 os[i].k):=by
 obtain⟨b,off,cap,rfl,hc⟩:=bY hs om;obtain⟨a,hl,hov,hget⟩:=OVs.get os cs i hi hall;refine⟨b,off+i*6,?_,?_⟩
 ·intro PK K;have:=dZ (P:=ah) (T:=23) (b:=b) (off:=off) (cap:=cap) (n:=os.length) (k:=.i64) (i:=(i:Int)) (w:=w) aoW szOb om om;rw[aoF] at this;exact aC this
 ·obtain⟨vk,vc',cs',hv,_⟩:=hov.open;have e:a=obC os[i] vk vc':=by
   injection hv with hv
   have:=congrArg Array.toList hv;simpa using this
  have:=hc (i*6+0) _ (hget 0 (.int .i64 os[i].k) (by rw[e];rfl));simpa using this
end
section
open Eng Go.RowKit
 attribute [local congr] Ca
theorem OwnS.alL {w2 w4:ak}{L2 L4:List Ent}(h2:Own w0 w2 L2)(h4:Own w0 w4 L4):Kept (InW w0) w2 w4:=λb hb=>(h4.done.block b hb).trans (h2.done.block b hb).symm
theorem ObAt.later {w2 w4:ak}{L2 L4:List Ent}{o:Ob}(h:ObAt (InW w0) w2 o vk vc cs)(h2:Own w0 w2 L2)(h4:Own w0 w4 L4):ObAt (InW w4) w4 o vk vc cs:=by
 have hk:=h.kept (OwnS.alL h2 h4);exact⟨⟨hk.keys.1,(λp l c e hn=>arO (hk.keys.2.1 p l c e hn) h4.size),hk.keys.2.2⟩,⟨hk.kids.1,(λp l c e hn=>arO (hk.kids.2.1 p l c e hn) h4.size),hk.kids.2.2⟩,OVs.mono (λ_ hb=>arO hb h4.size) _ _ hk.all⟩
theorem V8:∀{l:List Ob} {o:Ob},o∈l->o.wt<=Ob.wts l
|a::l,o,h=>by
  rw[Ob.wts];rcases aoM.1 h with rfl|h
  ·omega
  ·have:=V8 h;omega
theorem Ob.HO (o:Ob):o.wt=6+o.s.length+Pl.tot o.keys+Ob.wts o.kids:=by cases o;rw[Ob.wt];rfl
theorem Ob.Xi (o:Ob):6<=o.wt:=by rw[o.HO];omega
theorem Vy:∀l:List Ob,l.length*6<=Ob.wts l
|[]=>by simp
|a::l=>by
  have:=Vy l;have:=a.Xi;rw[Ob.wts,apB];omega
theorem Pn {o:Ob}(hi:i < o.kids.length):o.kids[i].wt < o.wt:=by
 have:=V8 (aoR hi);rw[o.HO];omega
theorem Qg (d:Nat)(l:List Ob)(i:Nat)(hi:i < l.length):Vl.xG d (l.drop i)=if Vl.check d l[i]≠0 then Vl.check d l[i] else Vl.xG d (l.drop (i+1)):=by
 rw[apV hi,Vl.xG]
theorem aeN {o:Ob}:o.keys.length<=o.wt:=by
 have h:∀l:List (List UInt8),l.length<=Pl.tot l:=by
  intro l
  induction l with
 |nil=>simp
 |cons a l ih=>simp only[Pl.tot,aqL,asO,apB] at ih ⊢;omega
 have:=h o.keys;rw[o.HO];omega
theorem yU {o:Ob}:o.kids.length<=o.wt:=by
 have:=Vy o.kids;rw[o.HO];omega
theorem abW {o:Ob}(h:Vl.why d o≠0):Vl.check d o=Vl.why d o:=by rw[Vl.IM,anX h]
end
section
open Eng
def qI(t0 t1 t2 w)(K:KT):=nz f254 1 [] [] [] (zg [0,1,2] [t0,t1,t2]) w K
theorem yZ{t0 t1 t2 w K}:qI t0 t1 t2 w K->Calls ah 254 #[t0,t1,t2] w K:=cw func254
def tM(t0 t1 t2 w)(K:KT):=nz f255 1 [] [] [] (zg [0,1,2] [t0,t1,t2]) w K
theorem BH{t0 t1 t2 w K}:tM t0 t1 t2 w K->Calls ah 255 #[t0,t1,t2] w K:=cw func255
def Jy(t0 w)(K:KT):=nz f215 1 [] [] [] (zg [0] [t0]) w K
theorem K3{t0 w K}:Jy t0 w K->Calls ah 215 #[t0] w K:=cw func215
def zZ(t1 t13 t14 t15 w)(N1:JT)(K:KT):=nz f216 43 [N1] [nh 9 [15]] [] (zg [1,13,14,15] [t1,t13,t14,t15]) w K
def DG(t0 w)(K:KT):=nz f216 1 [] [(9,[15],λs v j w f=>zZ (s 1) (s 13) (s 14) (vg v 0) w (f 0) K)] [] (zg [0] [t0]) w K
theorem G3{t0 w K}:DG t0 w K->Calls ah 216 #[t0] w K:=cz [] [(4,[15])] func216
def HA(t0 w)(K:KT):=nz f213 1 [] [] [] (zg [0] [t0]) w K
theorem JK{t0 w K}:HA t0 w K->Calls ah 213 #[t0] w K:=cw func213
def E8(t0 w)(K:KT):=nz f214 1 [] [] [] (zg [0] [t0]) w K
theorem HP{t0 w K}:E8 t0 w K->Calls ah 214 #[t0] w K:=cw func214
def uW(t2 t4 t13 w)(K:KT):=nz f212 509 [] [] [] (zg [2,4,13] [t2,t4,t13]) w K
def vB(t2 t4 t8 w)(K:KT):=nz f212 125 [] [(20,[13],λs v j w f=>uW (s 2) (s 4) (vg v 0) w K)] [] (zg [2,4,8] [t2,t4,t8]) w K
def HH(t0 w)(K:KT):=nz f212 1 [] [(14,[8],λs v j w f=>vB (s 2) (s 4) (vg v 0) w K)] [] (zg [0] [t0]) w K
theorem Jn{t0 w K}:HH t0 w K->Calls ah 212 #[t0] w K:=cz [(7,[8]),(10,[13])] [] func212
def HI(t0 t1 w)(K:KT):=nz f211 1 [] [] [] (zg [0,1] [t0,t1]) w K
theorem JY{t0 t1 w K}:HI t0 t1 w K->Calls ah 211 #[t0,t1] w K:=cw func211
def qT(t1 t105 t106 t107 w)(N1:JT)(K:KT):=nz f153 1535 [N1] [nh 19 [107]] [] (zg [1,105,106,107] [t1,t105,t106,t107]) w K
def FK(t0 t1 w)(K:KT):=nz f153 1 [] [(19,[107],λs v j w f=>qT (s 1) (s 105) (s 106) (vg v 0) w (f 0) K)] [] (zg [0,1] [t0,t1]) w K
theorem HN{t0 t1 w K}:FK t0 t1 w K->Calls ah 153 #[t0,t1] w K:=cz [] [(9,[107])] func153
def BB(t0 w)(K:KT):=nz f152 1 [] [] [] (zg [0] [t0]) w K
theorem Ev{t0 w K}:BB t0 w K->Calls ah 152 #[t0] w K:=cw func152
def jA(c r w)(K:KT):=
 eqx .eql 20 (.tmp 4) (.const .nilIface) r .nilIface w K λd w=>IfX d (K (.returned (.tuple #[])) w) (dx (mTA r 20 223 au) w K λa w=>exx a 1 w K λe w=>exx a 0 w K λf w=>IfX e (alx 223 w K λb w=>stx 223 b f w K λ_ w=>fax 223 b 0 w K λg w=>ldx 30 g w K λh w=>stx 30 c h w K λ_ w=>K (.returned (.tuple #[])) w) (dx (Ho r) w K λ_ w=>K (.returned (.tuple #[])) w))
theorem DX (t0 r:ao)(w:ak)(K:Ending->ak->Prop):wpX ah 12 [] [] av (Zn (DD f210)) (topD ah [] K) (upd (lQ [t0]) 4 r) [] w=jA t0 r w K:=krx
theorem qJ {R:Ending->FrameMode->ak->Prop}(h:jA t0 (recV u) w (λe w=>R e (recM u) w)):CallsD ah 210 #[t0] u w R:=
 uQ func210 rfl rfl rfl rfl rfl rfl rfl rfl (Eq.mpr (DX t0 (recV u) w _) h)
def mX (x0:Deferred)(x1:ao)(K:Ending->ak->Prop):=pd ah [.cell x1 30] K [x0]
def DK(b w)(K:KT):=
 alx 30 w K λa w=>dx (TV (.func 210) #[] #[a]) w K λc w=>DfrX (dfrV c #[]) (λd1=>DoX ah (gK b #[]) w (mX d1 a K) λd w=>DoX ah (aV 30 a (iN 0)) w (mX d1 a K) λ_ w=>Ej ah [.cell a 30] K [d1] .returning w)
theorem GV{t0 w K}:DK t0 w K->Calls ah 151 #[t0] w K:=cw func151
def Eo(t0 w)(K:KT):=nz f86 1 [] [] [] (zg [0] [t0]) w K
theorem Io{t0 w K}:Eo t0 w K->Calls ah 86 #[t0] w K:=cw func86
end
end Go.Proofs.YtlipjfcbjemicaaGreatDoor
