/- Texts that go together: EngD SBuild Shelf LibBld SPlain SFix SRef02 FixP FixR FixQ SStr LibCut FixT PlA PlB PlC LawKit2 EngT EngH EngI EngJ EngK EngU LawKit3 ObA ObB EngX EngY EngZ EngAH EngAD SSlc SlcA SMake Plain05 Plain05B SIdx OcIdx ObC SRef05 FixU FixV FixW FixX SLaw02 FixY. -/
import Derived.Test.YtlipjfcbjemicaaGreatDoorRows
import Derived.Shelf.Strings.Builder1
import Derived.Shelf.Strings.Builder2
import Derived.Shelf.Small.Strs
import Derived.Shelf.Small.Wraps
import Derived.Shelf.Strings.BuilderF
import Derived.Shelf.Strings.BuilderK
import Derived.Shelf.Strings.Builder2Cap
import Derived.Shelf.Strings.Search1
import Derived.Shelf.Strings.Prefix
import Derived.Shelf.Bits.Mul64
import Derived.Shelf.Strings.Repeat
import Derived.Shelf.Strings.BuilderCap
import Derived.Test.YtlipjfcbjemicaaGreatDoorProg
import Derived.Recover
import Derived.Shelf.Strings.SlTrimAscii
import Derived.Lib.Repeat
import Derived.SliceStrings
import Derived.Laws.StructEq
import Derived.Laws.CopyRow
import Derived.Lib.AppendZerosOnto
import Derived.Lib.SliceRun
import Derived.Lib.Overlaps
import Derived.Laws.Externs
import Derived.Sort.Walk0
import Derived.Laws.RangeAny
import Derived.Test.YtlipjfcbjemicaaGreatDoorMmogppjjb
set_option linter.defProp false
set_option linter.unusedSimpArgs false
set_option linter.unusedVariables false
set_option maxRecDepth 20000
open Go.Proofs.Tryz (prog)
namespace Go.Proofs
abbrev ahF:=@Tryz.underlying9
abbrev ahM:=@Tryz.underlying22
abbrev ahN:=@Tryz.underlying23
abbrev ahS:=@Tryz.underlying123
abbrev ahX:=@Tryz.underlying53
abbrev aiL:=@Tryz.underlying5
abbrev aiX:=@Tryz.underlying3
abbrev ajR:=@Tryz.underlying341
abbrev alA:=@Tryz.underlying20
abbrev amM:=@Tryz.underlying40
abbrev amT:=@Tryz.underlying84
abbrev amU:=@Tryz.underlying186
abbrev anP:=@Tryz.underlying147
abbrev aoR:=@Tryz.underlying269
abbrev aoS:=@Tryz.underlying304
abbrev aoT:=@Tryz.underlying289
abbrev aoZ:=@Tryz.underlying153
abbrev apA:=@Tryz.underlying239
abbrev apB:=@Tryz.underlying261
abbrev apJ:=@Tryz.underlying373
end Go.Proofs
namespace Go.Proofs.YtlipjfcbjemicaaGreatDoor
variable{A S:Nat->Prop}{C:World->Prop}{D U U2:TypeId}{K K':VWP}{L:List Eng.Ent}{L0:Loop}{P:Program}{PK:PKT}{W w w' w0:World}{a hi lo:Int}{args:Array Value}{b cap d f fuel i j m sz t:Nat}{c v v1 v2 vc vk:Value}{cb:Array Bool}{cs cur new news xs:List Value}{e:Eng.Ent}{k':IntKind}{xo yo:Operand}{α β:Type}{σ:Eng.Sg}
section
namespace Eng
open Go.RowKit
theorem cC (b off n:Nat):(⟨b,off,none⟩:Addr).add n=⟨b,off+n,none⟩:=by unfold Addr.add;split<;>simp_all
def fOff (P:Program)(T:TypeId)(f:Nat):Option Nat:=
 match P.underlying T with
|some (.struct fs)=>match fs[f]? with
 |some fd=>match P.info? fd.type with
  |some i=>match i.size with
   |0=>none
   |_+1=>some fd.offset
  |none=>none
 |none=>none
|_=>none
def elB (P:Program)(E:TypeId)(sz bytes:Nat):Bool:=
 match P.info? E with
|some i=>Nat.beq i.size sz&&Nat.beq i.bytes bytes&&(match i.zero with|some z=>Nat.beq z.cells.size sz|none=>false)
|none=>false
theorem jC {E:TypeId}{bytes:Nat}(h:elB P E sz bytes=true):∃i z,P.info? E=some i∧i.zero=some z∧i.size=sz∧i.bytes=bytes∧z.cells.size=sz:=by
 unfold elB at h;split at h
 ·rename_i i hi
  simp only[ahR,Nat.beq_eq] at h;obtain⟨⟨h1,h2⟩,h3⟩:=h;split at h3
  ·rename_i z hz;exact⟨i,z,hi,hz,h1,h2,by simpa using h3⟩
  ·cases h3
 ·cases h
section
variable {S:Nat->Prop}{P:Program}{w:World}{PK:PKT}{K:VWP}
theorem bY {T:TypeId}{off o:Nat}(h:fOff P T f=some o):(mFA T (.pointer (some ⟨b,off,none⟩)) f).run P w=.ok (.value (.pointer (some ⟨b,off+o,none⟩))) w:=by
 unfold fOff at h;split at h
 ·rename_i fs hu
  split at h
  ·rename_i fd hfd
   split at h
   ·rename_i i hi
    cases hs:i.size with
   |zero=>rw[hs] at h;cases h
   |succ m=>
     rw[hs] at h;simp only[akR] at h;subst h;refine bL ?_;simp[Instr.fieldAt,run_underlying hu,hfd,Instr.sureAddr,fieldPlace,sizeOf,typeInfo,hi,hs,cC]
   ·cases h
  ·cases h
 ·cases h
theorem aK {T:TypeId}{off o:Nat}(h:fOff P T f=some o):DoX P (mFA T (.pointer (some ⟨b,off,none⟩)) f) w PK K=K (.pointer (some ⟨b,off+o,none⟩)) w:=aE (bY h)
theorem cM {a:Addr}:(mNil (.pointer (some a))).run P w=.ok (.value (.pointer (some a))) w:=by simp[mNil,execOp]
def bAnd (k:IntKind)(x y:Int):Int:=k.wrap ((BitVec.ofInt k.bits x &&& BitVec.ofInt k.bits y).toNat:Int)
def bOr (k:IntKind)(x y:Int):Int:=k.wrap ((BitVec.ofInt k.bits x ||| BitVec.ofInt k.bits y).toNat:Int)
theorem TZ {T:TypeId}{k:IntKind}{b:Int}:(mBin .and T (.int k a) (.int k b)).run P w=.ok (.value (.int k (bAnd k a b))) w:=bL (by simp[binOp,Op.intBits,bAnd])
theorem r_or {T:TypeId}{k:IntKind}{b:Int}:(mBin .or T (.int k a) (.int k b)).run P w=.ok (.value (.int k (bOr k a b))) w:=bL (by simp[binOp,Op.intBits,bOr])
theorem UE {T:TypeId}{k:IntKind}{b:Int}(h:0<=b):(mBin .shr T (.int k a) (.int k' b)).run P w=.ok (.value (.int k (a.fdiv (2 ^ (min b.toNat k.bits))))) w:=bL (by
 have h':¬b < 0:=om
 simp[binOp,Op.shift,h'])
theorem YJ {T:TypeId}{k:IntKind}{b:Int}(h:0<=b):(mBin .shl T (.int k a) (.int k' b)).run P w=.ok (.value (.int k (k.wrap (a*2 ^ (min b.toNat k.bits))))) w:=bL (by
 have h':¬b < 0:=om
 simp[binOp,Op.shift,h'])
theorem SV {T:TypeId}{k:IntKind}{b:Int}:DoX P (mBin .and T (.int k a) (.int k b)) w PK K=K (.int k (bAnd k a b)) w:=aE TZ
theorem b_or {T:TypeId}{k:IntKind}{b:Int}:DoX P (mBin .or T (.int k a) (.int k b)) w PK K=K (.int k (bOr k a b)) w:=aE r_or
theorem HA {T:TypeId}{k:IntKind}{b:Int}(h:0<=b):DoX P (mBin .shr T (.int k a) (.int k' b)) w PK K=K (.int k (a.fdiv (2 ^ (min b.toNat k.bits)))) w:=aE (UE h)
theorem CU {T:TypeId}{k:IntKind}{b:Int}(h:0<=b):DoX P (mBin .shl T (.int k a) (.int k' b)) w PK K=K (.int k (k.wrap (a*2 ^ (min b.toNat k.bits)))) w:=aE (YJ h)
theorem FL {T:TypeId}{k:IntKind}{i:Int}{a:List UInt8}{c:UInt8}(h:P.underlying T=some .string)(h0:0<=i)(hc:a[i.toNat]?=some c):(mIx T (.string ⟨a.toArray⟩) (.int k i)).run P w=.ok (.value (.int .u8 (c.toNat:Int))) w:=by
 refine bL ?_;have e:(⟨a.toArray⟩:ByteArray)[i.toNat]?=some c:=by
  have hl:i.toNat < a.length:=(ahQ.1 hc).1;have h1:i.toNat < (⟨a.toArray⟩:ByteArray).size:=by rw[dK];exact hl
  rw[getElem?_pos (⟨a.toArray⟩:ByteArray) i.toNat h1];have h2:=(ahQ.1 hc).2;rw[<-h2];rfl
 simp only[Instr.index,asIntOf,run_underlying h,h0,e];simp[h0,e,run_underlying h]
theorem afJ {E:TypeId}{bytes:Nat}{T:TypeId}{i:TypeInfo}{z:Value}(ht:P.underlying T=some (.slice E))(hi:P.info? E=some i)(hz:i.zero=some z)(hi1:i.size=sz)(hi2:i.bytes=bytes)(hz1:z.cells.size=sz)(hsz:0 < sz)
  {v v':Value} {w':World} {n m c:Nat} {xs news:List Value} {a:Addr} (hown:w.ownsRowF 0 E sz v n xs) (hl:news.length=m*sz) (hnews:∀j u,news[j]?=some u->w.cell? (a.add j)=some u) (h1:∀u∈news,u.oneCell'=true)
  (hmx:n+m<=9223372036854775807) (hb:(n+m)*bytes<=140737488355328) (hr:(Builtin.append_ #[T,T] U #[v,.slice (some a) m c]).run P w=.ok v' w') :
  ∀k,v'.ownBlock=some k->v.ownBlock=some k∨w.heap.size<=k:=by
 intro k hk;have hmx':n+m<=maxLen:=by simp only[maxLen];omega
 rcases hown.2 with ⟨rfl,rfl⟩|⟨g,cap,cur,fz,rfl,hbg,hg,hfz,hnc,hcm,hcs,htake⟩
 ·obtain⟨v2,w2,r1,r2,r3,r4⟩:=run_append_ownF (P:=P) w w.heap.size T U E i z sz bytes ht hi hz hi1 hi2 hz1 hsz (.slice none 0 0) 0 xs ⟨hown.1,.inl ⟨rfl,rfl⟩⟩ a m c news hl hnews h1 hmx' hb (ahD _);rw[r1] at hr;cases hr;exact .inr (World.ownsRowF.lt r2 k hk).1
 ·subst hi1;subst hi2;by_cases hroom:n+m<=cap
  ·have hfit:n*i.size+news.length<=cur.size:=by rw[hl,hcs,<-ajU];exact aiO _ hroom
   rw[run_append_roomF (P:=P) w T U E i ht hi g n cap cur fz hg hfz a m c news hl hnews h1 hroom hfit] at hr;cases hr;exact .inl hk
  ·have holds:∀j u,xs[j]?=some u->w.cell? ((⟨g,0,none⟩:Addr).add j)=some u:=hown.cells (g:=g) rfl;rw[run_append_grow (P:=P) w T U E i z ht hi hz ⟨g,0,none⟩ n cap xs hown.1 holds a m c news hl hnews om om (growslice_fits om hb)] at hr;cases hr;simp only[Value.ownBlock,akR] at hk;exact .inr om
theorem Ad {T E:TypeId}{cs:Array Bool}{bytes n:Nat}(ht:P.underlying T=some (.slice E))(he:elB P E sz bytes=true)(hsz:0 < sz)
  (hown:w.ownsRowF 0 E sz v n xs) (hs:Sl w v2 sz m news) (h1:∀u∈news,u.oneCell'=true) (hb:(n+m)*bytes<=140737488355328) (hb2:n+m<=140737488355328) :
  ∃v' w',(mB .append #[T,T] U cs #[v,v2]).run P w=.ok (.value v') w'∧Turn (.row E sz v n xs) (.row E sz v' (n+m) (xs++news)) w w':=by
 obtain⟨i,z,hi,hz,hi1,hi2,hz1⟩:=jC he;obtain⟨hl,a,cap,rfl,hn,hc⟩:=hs;have hmx:n+m<=maxLen:=by simp only[maxLen];omega
 have fin:∀(a:Addr),(∀j u,news[j]?=some u->w.cell? (a.add j)=some u)->∃v' w',(mB .append #[T,T] U cs #[v,.slice (some a) m cap]).run P w=.ok (.value v') w'∧Turn (.row E sz v n xs) (.row E sz v' (n+m) (xs++news)) w w':=by
  intro a hh;obtain⟨v',w',r1,r2,r3,r4⟩:=run_append_ownF (P:=P) w 0 T U E i z sz bytes ht hi hz hi1 hi2 hz1 hsz v n xs hown a m cap news hl hh h1 hmx hb (ahW _);refine⟨v',w',?_,SA r3,r2,afJ (P:=P) ht hi hz hi1 hi2 hz1 hsz hown hl hh h1 om hb r1⟩;simp[mB,builtin,r1]
 cases a with
|some p=>
  refine fin p fun j u hj=>?_;have hlt:j < news.length:=(ahQ.1 hj).1;have hm:0 < m:=by
   rcases ajV m with h0|h0
   ·subst h0;simp at hl;rw[hl] at hlt;simp at hlt
   ·exact h0
  obtain⟨hsp,hcell⟩:=hc p rfl;have:=hsp hm;obtain⟨b,off,spot⟩:=p;simp only at this hcell;subst this;rw[cC];exact hcell j u hj
|none=>
  have h0:=hn rfl;subst h0;have hnil:news=[]:=akY (by simpa using hl);subst hnil;refine⟨v,w,?_,by rw[ahV];exact Turn.refl (e:=.row E sz v n xs) hown⟩;rcases hown.2 with ⟨rfl,rfl⟩|⟨g,cp,cur,fz,rfl,_,_,_,hnc,_⟩
  ·simp[mB,builtin,Builtin.append_,run_underlying ht,sizeOf,typeInfo,hi,Builtin.lenOf,Builtin.firstCells]
  ·simp[mB,builtin,Builtin.append_,run_underlying ht,sizeOf,typeInfo,hi,Builtin.lenOf,Builtin.firstCells,hnc,storeCells]
theorem NQ (i:Nat){T E:TypeId}{cs:Array Bool}{bytes n:Nat}(ht:P.underlying T=some (.slice E))(he:elB P E sz bytes=true)(hsz:0 < sz)
  (ho:OwnS S w0 w L) (hi:L[i]?=some (.row E sz v n xs)) (hs:Sl w v2 sz m news) (h1:∀u∈news,u.oneCell'=true) (hb:(n+m)*bytes<=140737488355328) (hb2:n+m<=140737488355328)
  (k:∀v' w',OwnS S w0 w' (L.set i (.row E sz v' (n+m) (xs++news)))->K v' w'):DoX P (mB .append #[T,T] U cs #[v,v2]) w PK K:=by
 obtain⟨v',w',r,t⟩:=Ad (cs:=cs) (U:=U) ht he hsz (ho.at_ i hi) hs h1 hb hb2;exact jU r (k _ _ (ho.turn i hi t))
def roomy (v:Value):Prop:=∀a k,v≠.slice (some a) k 0
theorem K8:roomy (.slice none 0 0):=fun _ _ h=>by cases h
theorem roomy_row {E:TypeId}{n:Nat}(h:w.ownsRowF 0 E sz v n xs)(hn:0 < n):roomy v:=by
 intro a k hc;rcases h.2 with ⟨rfl,_⟩|⟨g,cap,cur,fz,rfl,hbg,hg,hfz,hnc,hcm,hcs,htake⟩
 ·cases hc
 ·injection hc with c1 c2 c3
  omega
theorem xL (l:List UInt8):Lib.strCells ⟨l.toArray⟩=aH l:=by
 simp[Lib.strCells,aH]
theorem rL {T E:TypeId}{cs:Array Bool}{n:Nat}{l:List UInt8}(ht:P.underlying T=some (.slice E))(hu:P.underlying U2=some .string)(he:elB P E 1 1=true)(h8:P.underlying E=some (.int .u8))
  (hz8:(P.info? E).bind (·.zero)=some (.int .u8 0))
  (hown:w.ownsRowF 0 E 1 v n xs) (hb2:n+l.length<=140737488355328) :
  ∃v' w',(mB .append #[T,U2] U cs #[v,.string ⟨l.toArray⟩]).run P w=.ok (.value v') w'∧Turn (.row E 1 v n xs) (.row E 1 v' (n+l.length) (xs++aH l)) w w'∧(roomy v->roomy v'):=by
 obtain⟨i,z,hi,hz,hi1,hi2,hz1⟩:=jC he;have hz0:i.zero=some (.int .u8 0):=by rw[hi] at hz8;exact hz8
 have hsz:=dK l;have hmx:n+(⟨l.toArray⟩:ByteArray).size<=maxLen:=by rw[hsz];simp only[maxLen];omega
 obtain⟨v',w',r1,r2,r3,r4⟩:=Lib.run_append_own_stringF (P:=P) w 0 T U2 U E i ht hu hi hz0 hi1 hi2 v n xs hown ⟨l.toArray⟩ hmx (by rw[hsz];omega) (ahW _);rw[xL,hsz] at r2;have hro:roomy v->roomy v':=by
  intro hv a k hc;rcases ajV (n+l.length) with h0|h0
  ·rcases hown.2 with ⟨rfl,_⟩|⟨g,cap,cur,fz,rfl,hbg,hg,hfz,hnc,hcm,hcs,htake⟩
   ·have:=r4.2 ⟨rfl,by rw[hsz];omega⟩;rw[this] at hc;cases hc
   ·have hroom:n+(⟨l.toArray⟩:ByteArray).size<=cap:=by rw[hsz];omega
    rw[Lib.run_append_room_stringF (P:=P) w T U2 U E i ht hu hi hi1 g n cap cur fz hg (by simpa using hfz) ⟨l.toArray⟩ hroom (by simp at hcs;omega)] at r1
    injection r1 with r1a r1b
    rw[<-r1a] at hc
    injection hc with c1 c2 c3
    exact hv ⟨g,0,none⟩ n (by rw[c3])
  ·exact roomy_row r2 h0 a k hc
 refine⟨v',w',by simp[mB,builtin,r1],⟨SA r3,r2,?_⟩,hro⟩;intro k hk;rcases hown.2 with ⟨rfl,rfl⟩|⟨g,cap,cur,fz,rfl,hbg,hg,hfz,hnc,hcm,hcs,htake⟩
 ·obtain⟨v2,w2,q1,q2,q3,q4⟩:=Lib.run_append_own_stringF (P:=P) w w.heap.size T U2 U E i ht hu hi hz0 hi1 hi2 (.slice none 0 0) 0 xs ⟨hown.1,.inl ⟨rfl,rfl⟩⟩ ⟨l.toArray⟩ hmx (by rw[hsz];omega) (ahD _);rw[q1] at r1;cases r1;exact .inr (World.ownsRowF.lt q2 k hk).1
 ·by_cases hroom:n+(⟨l.toArray⟩:ByteArray).size<=cap
  ·rw[Lib.run_append_room_stringF (P:=P) w T U2 U E i ht hu hi hi1 g n cap cur fz hg (by simpa using hfz) ⟨l.toArray⟩ hroom (by simp at hcs;omega)] at r1;cases r1;exact .inl hk
  ·have holds:∀j u,xs[j]?=some u->w.cell? ((⟨g,0,none⟩:Addr).add j)=some u:=hown.cells (g:=g) rfl;rw[Lib.run_append_grow_string (P:=P) w T U2 U E i (.int .u8 0) ht hu hi hz0 ⟨g,0,none⟩ n cap xs (by rw[hi1];simpa using hown.1) holds ⟨l.toArray⟩ om (by rw[hsz];omega) (by rw[hi2];exact growslice_fits om (by rw[hsz];omega))] at r1;cases r1;have hk':some w.heap.size=some k:=hk;cases hk';exact .inr (ahD _)
theorem KE (i:Nat){T E:TypeId}{cs:Array Bool}{n:Nat}{l:List UInt8}(ht:P.underlying T=some (.slice E))(hu:P.underlying U2=some .string)(he:elB P E 1 1=true)(h8:P.underlying E=some (.int .u8))
  (hz8:(P.info? E).bind (·.zero)=some (.int .u8 0)) (ho:OwnS S w0 w L) (hi:L[i]?=some (.row E 1 v n xs)) (hb2:n+l.length<=140737488355328)
  (k:∀v' w',(roomy v->roomy v')->OwnS S w0 w' (L.set i (.row E 1 v' (n+l.length) (xs++aH l)))->K v' w'):DoX P (mB .append #[T,U2] U cs #[v,.string ⟨l.toArray⟩]) w PK K:=by
 obtain⟨v',w',r,t,hc⟩:=rL (cs:=cs) (U:=U) ht hu he h8 hz8 (ho.at_ i hi) hb2;exact jU r (k _ _ hc (ho.turn i hi t))
theorem OwnS.WG (ho:OwnS S w0 w L)(E:TypeId)(sz:Nat):OwnS S w0 w (.row E sz (.slice none 0 0) 0 []::L):=by
 refine⟨ho.grew,fun e he=>?_,.cons (fun f hf k hk=>by simp[Ent.row,Value.ownBlock] at hk) ho.apart⟩;rcases ahG.1 he with rfl|he
 ·exact⟨World.ownsRowF_nil w 0 E sz,fun k hk=>by simp[Ent.row,Value.ownBlock] at hk⟩
 ·exact ho.all e he
theorem OwnS.abI (ho:OwnS S w0 w L)(i:Nat){T:TypeId}{n:Nat}(hi:L[i]?=some (.row T sz v n xs)):Sl w v sz n xs:=Sl.row (ho.at_ i hi)
theorem aaW {T E:TypeId}{bytes c:Nat}{kl kc:IntKind}{x:Int}(hx:x=c)(ht:P.underlying T=some (.slice E))(he:elB P E sz bytes=true)(hb:bytes*c<=281474976710656)(hc:c<=281474976710656)(ho:OwnS S w0 w L)
  (k:∀v w',OwnS S w0 w' (.row E sz v 0 []::L)->K v w'):DoX P (HM T (.int kl 0) (.int kc x)) w PK K:=by
 subst hx;obtain⟨i,z,hi,hz,hi1,hi2,hz1⟩:=jC he;obtain⟨w',r1,r2,r3⟩:=run_make_own (P:=P) w w.heap.size T E i z sz ht hi hz hi1 kl kc c (by rw[hi2];exact hb) (by simp only[maxLen];omega) (ahD _);refine jU (bL r1) (k _ _ (ho.add r3 (.row E sz (.slice (some ⟨w.heap.size,0,none⟩) 0 c) 0 []) ?_ (fun k hk=>?_)))
 ·have:=World.ownsRowF_of r2;refine⟨this.1,?_⟩;rcases this.2 with h|⟨g,cp,cur,fz,h1,h2,h3⟩
  ·exact .inl h
  ·exact .inr ⟨g,cp,cur,fz,h1,ahW _,h3⟩
 ·have hk':some w.heap.size=some k:=hk;cases hk';exact ahD _
def Ent.bld (T E:TypeId)(b:Nat)(v:Value)(l:List UInt8):Ent:=
 ⟨fun k=>k=b∨v.ownBlock=some k,
  fun w=>(∃p,(p=.pointer none∨p=.pointer (some ⟨b,0,none⟩))∧w.heap[b]?=some (.cells #[p,v] T (0,0)))∧w.ownsRowF 0 E 1 v l.length (aH l)∧v.ownBlock≠some b∧roomy v,
  fun {w w'} h k=>⟨by obtain⟨p,hp,hb⟩:=h.1;exact⟨p,hp,(k b (.inl rfl)).trans hb⟩,(Ent.row E 1 v l.length (aH l)).keep h.2.1 (fun j hj=>k j (.inr hj)),h.2.2⟩,
  fun {w} h k hk=>by
  rcases hk with rfl|hk
  ·obtain⟨p,hp,hb⟩:=h.1;exact dR hb
  ·exact (World.ownsRowF.lt h.2.1 k hk).2⟩
theorem OwnS.Ui {T E:TypeId}{l:List UInt8}(ho:OwnS S w0 w (.bld T E b v l::L)) :
  ∃p,(p=.pointer none∨p=.pointer (some ⟨b,0,none⟩))∧roomy v∧OwnS S w0 w (.cells b [p,v] T::.row E 1 v l.length (aH l)::L):=by
 have hm:=ho.all (.bld T E b v l) sm;obtain⟨⟨p,hp,hb⟩,hr,hne,hcap⟩:=hm.1;refine⟨p,hp,hcap,ho.grew,fun e he=>?_,?_⟩
 ·rcases ahG.1 he with rfl|he
  ·exact⟨hb,fun k hk=>hm.2 k (.inl hk)⟩
  ·rcases ahG.1 he with rfl|he
   ·exact⟨hr,fun k hk=>hm.2 k (.inr hk)⟩
   ·exact ho.all e (by simp[he])
 ·obtain⟨h1,h2⟩:=ajF.1 ho.apart;refine .cons (fun f hf k hk hk'=>?_) (.cons (fun f hf k hk=>h1 f hf k (.inr hk)) h2);rcases ahG.1 hf with rfl|hf
  ·have hkb:k=b:=hk;rw[hkb] at hk';exact hne hk'
  ·exact h1 f hf k (.inl hk) hk'
theorem OwnS.Ei {T E:TypeId}{n:Nat}{p:Value}{l:List UInt8}(hp:p=.pointer none∨p=.pointer (some ⟨b,0,none⟩))(hcap:roomy v)(ho:OwnS S w0 w (.cells b [p,v] T::.row E 1 v n (aH l)::L)) :
  OwnS S w0 w (.bld T E b v l::L):=by
 have h0:=ho.all (.cells b [p,v] T) sm;have h1:=ho.all (.row E 1 v n (aH l)) sm;obtain⟨a1,a2⟩:=ajF.1 ho.apart;obtain⟨a3,a4⟩:=ajF.1 a2;have hn:n=l.length:=by have:=h1.1.1;rw[fM] at this;omega
 subst hn;refine⟨ho.grew,fun e he=>?_,.cons (fun f hf k hk hk'=>?_) a4⟩
 ·rcases ahG.1 he with rfl|he
  ·refine⟨⟨⟨p,hp,h0.1⟩,h1.1,fun hc=>a1 (.row E 1 v l.length (aH l)) sm b rfl hc,hcap⟩,fun k hk=>?_⟩;rcases hk with hk|hk
   ·exact h0.2 k hk
   ·exact h1.2 k hk
  ·exact ho.all e (by simp[he])
 ·rcases hk with hk|hk
  ·exact a1 f (by simp[hf]) k hk hk'
  ·exact a3 f hf k hk hk'
theorem OwnS.swap {f:Ent}(ho:OwnS S w0 w (e::f::L)):OwnS S w0 w (f::e::L):=by
 obtain⟨a1,a2⟩:=ajF.1 ho.apart;obtain⟨a3,a4⟩:=ajF.1 a2;exact⟨ho.grew,fun g hg=>ho.all g (by simp only[ahG] at hg ⊢;rcases hg with h|h|h<;>simp[h]),.cons (fun g hg k hk hk'=>by
  rcases ahG.1 hg with rfl|hg
  ·exact a1 f sm k hk' hk
  ·exact a3 g hg k hk hk') (.cons (fun g hg k hk hk'=>a1 g (by simp[hg]) k hk hk') a4)⟩
theorem oK (i:Nat){R:Value->Ent->Prop}(ho:OwnS S w0 w L)(hi:L[i]?=some e)(h:Ret P f args w (fun v w'=>∃e',R v e'∧Turn e e' w w'))
  (k:∀v e' w',R v e'->OwnS S w0 w' (L.set i e')->K v w'):CallX P f args w PK K:=
 B5 h fun v w' ⟨e',hr,ht⟩=>k v e' w' hr (ho.turn i hi ht)
theorem aL {R:Value->Prop}(ho:OwnS S w0 w L)(h:Ret P f args w (fun v w'=>R v∧Below w.heap.size w w'))
  (k:∀v w',R v->OwnS S w0 w' L->K v w'):CallX P f args w PK K:=
 B5 h fun v w' ⟨hr,hb⟩=>k v w' hr (ho.grow hb)
end
end Eng
end
section
open Eng
namespace Eng
abbrev JT:=List Value->World->Prop
abbrev KT:=Ending->World->Prop
abbrev QH:=Exit->Sg->World->Prop
abbrev FH:=Nat->JT
abbrev PH:=Sg->List Value->Sg->World->FH->Prop
def cn (J:JT) (f:FH):FH:=fun i=>cond (i==0) J (f (i - 1))
def zg:List Nat->List Value->Sg
 |k::ks,v::vs=>fun i=>cond (i==k) v (zg ks vs i)
 |_,_=>fun _=>undef
def updH (σ:Sg) (d:Nat) (v:Value):Sg:=fun i=>cond (i==d) v (σ i)
def putH (σ:Sg):Option Nat->Value->Sg
 |some d,v=>updH σ d v
 |none,_=>σ
def Pe (σ:Sg):List Nat->List Value
 |[]=>[]
 |i::l=>σ i::Pe σ l
def nh (k:Nat) (l:List Nat):Nat×List Nat×PH:=(k,l,fun _ _ _ _ _=>True)
def lkH (k:Nat) (F:List Nat->PH->Prop):List (Nat×List Nat×PH)->Prop
 |[]=>False
 |h::r=>bc (Nat.beq h.1 k) (F h.2.1 h.2.2) (lkH k F r)
def lnH (k:Nat):List (Nat×Nat)->Nat
 |[]=>999999
 |h::r=>bc (Nat.beq h.1 k) h.2 (lnH k r)
def tnQ (Q:QH) (K:Sg->World->Prop):QH
 |.normal,σ,w=>K σ w
 |e,σ,w=>Q e σ w
def bkQ (id:Nat) (Q:QH):QH
 |.exit j,σ,w=>bc (Nat.beq j id) (Q .normal σ w) (Q (.exit j) σ w)
 |e,σ,w=>Q e σ w
def opH' (P:Program) (o:Oper) (σ:Sg) (w:World) (K:KT) (k:VWP):Prop:=
 match o.op with
 |.move x | .assign x=>k (rd σ x) w
 |.call { callee:=.value (.func f),args,.. }=>CallX P f (amap (rd σ) args) w (pk K) k
 |_=>DoX P (EV (rd σ) o) w (pk K) k
def opsH (P:Program) (K:KT) (ops:Array Oper) (k:Sg->World->Prop):List Oper->Sg->World->Prop
 |[],σ,w=>k σ w
 |o::r,σ,w=>match o.guard with
  |none=>opH' P o σ w K (fun v w=>opsH P K ops k r (putH σ o.dst v) w)
  |some (j,want)=>match KU ops j with
   |some d=>GDo (σ d) want (fun E=>opH' P o σ w K E) w (fun v w=>opsH P K ops k r (putH σ o.dst v) w)
   |none=>False
def opQ' (P:Program) (C:World->Prop) (o:Oper) (σ:Sg) (k:Value->Prop):Prop:=
 match o.op with
 |.move x | .assign x=>k (rd σ x)
 |.call { callee:=.value (.func f),args,.. }=>QCall P C f (amap (rd σ) args) k
 |_=>QDo P C (EV (rd σ) o) k
def opsQ (P:Program) (ops:Array Oper) (C:World->Prop) (k:Sg->Prop):List Oper->Sg->Prop
 |[],σ=>k σ
 |o::r,σ=>match o.guard with
  |none=>opQ' P C o σ (fun v=>opsQ P ops C k r (putH σ o.dst v))
  |some (j,want)=>match KU ops j with
   |some d=>GQ (σ d) want (fun E=>opQ' P C o σ E) (fun v=>opsQ P ops C k r (putH σ o.dst v))
   |none=>False
def wpH (P:Program) (K:KT) (ar:List (Nat×Nat)) (hs:List (Nat×List Nat×PH)):Code->FH->QH->Sg->World->Prop
 |.skip,_,Q,σ,w=>Q .normal σ w
 |.region id ops draw,_,Q,σ,w=>
  bc draw
   (bc (Nat.beq (lnH id ar) ops.size)
    (QuietX w (fun C=>opsQ P ops C (fun σ=>∀w',C w'->Q .normal σ w') ops.toList σ))
    (QuietX w (fun C=>opsQ P ops C (fun σ=>∀w',C w'->opsH P K ops (fun σ w=>Q .normal σ w) (ops.toList.drop (lnH id ar)) σ w') (ops.toList.take (lnH id ar)) σ)))
   (opsH P K ops (fun σ w=>Q .normal σ w) ops.toList σ w)
 |.seq a b,f,Q,σ,w=>
  bc (Nat.ble (ways a) 1) (wpH P K ar hs a f (tnQ Q fun σ w=>wpH P K ar hs b f Q σ w) σ w)
   (lkH (2 * keyOf b) (fun lv p=>JoinX (fun J=>wpH P K ar hs a (cn J f) (tnQ Q fun σ' w'=>J (Pe σ' lv) w') σ w) (fun vs w'=>∀j,p σ vs j w' f)) hs)
 |.cond c a b,f,Q,σ,w=>IfX (rd σ c) (wpH P K ar hs a f Q σ w) (wpH P K ar hs b f Q σ w)
 |.block id a,f,Q,σ,w=>wpH P K ar hs a f (bkQ id Q) σ w
 |.loop a,f,_,σ,w=>lkH (2 * keyOf a+1) (fun lv p=>LoopX (Pe σ lv) w (fun vs w N=>∀j,p σ vs j w (cn N f))) hs
 |.exit id,_,Q,σ,w=>Q (.exit id) σ w
 |.ret,_,Q,σ,w=>Q .ret σ w
 |_,_,_,_,_=>False
def hdJ:List JT->JT
 |[]=>fun _ _=>False
 |J::_=>J
def atH (P:Program) (K:KT) (ar:List (Nat×Nat)) (hs:List (Nat×List Nat×PH)):Code->Nat->List JT->FH->QH->Sg->World->Prop
 |.seq a b,p,js,f,Q,σ,w=>
  bc (Nat.beq p 1) (wpH P K ar hs (.seq a b) f Q σ w)
   (bc (Nat.beq (p % 2) 0)
    (bc (Nat.ble (ways a) 1) (atH P K ar hs a (p / 2) js f (tnQ Q fun σ w=>wpH P K ar hs b f Q σ w) σ w)
     (lkH (2 * keyOf b) (fun lv _=>atH P K ar hs a (p / 2) js.tail (cn (hdJ js) f) (tnQ Q fun σ' w'=>hdJ js (Pe σ' lv) w') σ w) hs))
    (atH P K ar hs b (p / 2) js f Q σ w))
 |.cond c a b,p,js,f,Q,σ,w=>
  bc (Nat.beq p 1) (wpH P K ar hs (.cond c a b) f Q σ w) (bc (Nat.beq (p % 2) 0) (atH P K ar hs a (p / 2) js f Q σ w) (atH P K ar hs b (p / 2) js f Q σ w))
 |.block id a,p,js,f,Q,σ,w=>bc (Nat.beq p 1) (wpH P K ar hs (.block id a) f Q σ w) (atH P K ar hs a p js f (bkQ id Q) σ w)
 |.loop a,p,js,f,Q,σ,w=>
  bc (Nat.beq p 1) (wpH P K ar hs (.loop a) f Q σ w)
   (lkH (2 * keyOf a+1) (fun lv _=>atH P K ar hs a (p / 2) js.tail (cn (hdJ js) f) (tnQ Q fun σ' w'=>hdJ js (Pe σ' lv) w') σ w) hs)
 |c,_,_,f,Q,σ,w=>wpH P K ar hs c f Q σ w
def allT:List ResultVar->Bool
 |[]=>true
 |.tmp _::l=>allT l
 |_=>false
def VW (σ:Sg):List ResultVar->List Value
 |.tmp t::l=>σ t::VW σ l
 |_=>[]
def oneH (K:KT) (w:World):List Value->Prop
 |[v]=>K (.returned v) w
 |l=>K (.returned (.tuple l.toArray)) w
def rvK (σ:Sg):List ResultVar->(List RV->Prop)->Prop
 |[],k=>k []
 |r::l,k=>rvK σ l fun x=>k (RV.of σ r::x)
def topH (P:Program) (rs:List ResultVar) (K:KT):QH
 |.normal,σ,w=>bc (allT rs) (oneH K w (VW σ rs)) (rvK σ rs fun l=>RetX P l w K)
 |.ret,σ,w=>bc (allT rs) (oneH K w (VW σ rs)) (rvK σ rs fun l=>RetX P l w K)
 |_,_,_=>False
structure NfX (a b:Prop):Prop where
 mk ::
 out:a=b
theorem NfX.rf {a:Prop}:NfX a a:=⟨rfl⟩
theorem dxE  {m:Sem Next}    (h:∀v w,NfX (K v w) (K' v w)):NfX (DoX P m w PK K) (DoX P m w PK K'):=⟨by rw [funext fun v=>funext fun w=>(h v w).out]⟩
theorem cxE   {a:Array Value}    (h:∀v w,NfX (K v w) (K' v w)):NfX (CallX P f a w PK K) (CallX P f a w PK K'):=⟨by rw [funext fun v=>funext fun w=>(h v w).out]⟩
theorem gdE  {t:Bool} {E:(VWP)->Prop}   (h:∀v w,NfX (K v w) (K' v w)):NfX (GDo v t E w K) (GDo v t E w K'):=⟨by rw [funext fun v=>funext fun w=>(h v w).out]⟩
theorem qdE   {m:Sem Next} {K K':Value->Prop} (h:∀v,NfX (K v) (K' v)):NfX (QDo P C m K) (QDo P C m K'):=⟨by rw [funext fun v=>(h v).out]⟩
theorem qcE    {a:Array Value} {K K':Value->Prop} (h:∀v,NfX (K v) (K' v)):NfX (QCall P C f a K) (QCall P C f a K'):=⟨by rw [funext fun v=>(h v).out]⟩
theorem gqE  {t:Bool} {E:(Value->Prop)->Prop} {K K':Value->Prop} (h:∀v,NfX (K v) (K' v)):NfX (GQ v t E K) (GQ v t E K'):=⟨by rw [funext fun v=>(h v).out]⟩
theorem ifE  {A A' B B':Prop} (h:NfX A A') (k:NfX B B'):NfX (IfX v A B) (IfX v A' B'):=⟨by rw [h.out,k.out]⟩
theorem joE {F F':JT->Prop} {R:JT} (h:∀J,NfX (F J) (F' J)):NfX (JoinX F R) (JoinX F' R):=⟨by rw [funext fun J=>(h J).out]⟩
theorem quE  {F F':(World->Prop)->Prop} (h:∀C,NfX (F C) (F' C)):NfX (QuietX w F) (QuietX w F'):=⟨by rw [funext fun C=>(h C).out]⟩
theorem awE  {p p':World->Prop} (h:∀w,NfX (p w) (p' w)):NfX (∀w,C w->p w) (∀w,C w->p' w):=⟨by rw [funext fun w=>(h w).out]⟩
theorem mpC {f:α->β}{a:α}{l:List α}:(a::l).map f=f a::l.map f:=rfl
theorem mpN {f:α->β}:([]:List α).map f=[]:=rfl
theorem omS {f:α->β}{a:α}:(some a).map f=some (f a):=rfl
theorem omN {f:α->β}:(none:Option α).map f=none:=rfl
theorem tlA  (l:List α):l.toArray.toList=l:=rfl
theorem rd_t  :rd σ (.tmp t)=σ t:=rfl
theorem rd_c  :rd σ (.const v)=v:=rfl
theorem rd_g  {g:Nat}:rd σ (.global g)=.pointer (some ⟨g,0,none⟩):=rfl
theorem rd_f  :rd σ (.func f)=.func (.func f) #[] #[]:=rfl
abbrev nj:JT:=fun _ _=>False
abbrev nk:KT:=fun _ _=>False
def vg (v:List Value)(n:Nat):Value:=v.getD n undef
def nz (F:Func)(p:Nat)(js:List JT)(hs:List (Nat×List Nat×PH))(ar:List (Nat×Nat))(s:Sg)(w:World)(K:KT){q r:Prop}
  (h:NfX (atH prog K ar hs (Ag F) p js (fun _ _ _=>False) (topH prog F.results.toList K) s w) q:=by
    repeat' ((conv=>arg 1;whnf);first|(apply dxE;intro v w)|(apply cxE;intro v w)|(apply gdE;intro v w)|apply ifE|(apply joE;intro J)|(apply quE;intro C)|(apply qdE;intro v)|(apply qcE;intro v)|(apply gqE;intro v)|(apply awE;intro w)|exact NfX.rf))
  (h':q=r:=by dsimp only[opH',opQ',EV,rd_t,rd_c,rd_g,rd_f,updH,putH,zg,cn,Pe,amap,tlA,mpC,mpN,cond_true,cond_false,Nat.reduceBEq,Nat.reduceSub,isEq,isLit,omS,omN,VW,bc,nh,hdJ,vg,RV.of]):Prop:=r
end Eng
abbrev iN (n:Int):Value:=.int .i64 n
def dx (m w K k):=DoX prog m w (pk K) k
def gtx (t m w K k):=GDo t true (fun E=>DoX prog m w (pk K) E) w k
def gfx (t m w K k):=GDo t false (fun E=>DoX prog m w (pk K) E) w k
def ctx (t f a w K k):=GDo t true (fun E=>CallX prog f a w (pk K) E) w k
def cfx (t f a w K k):=GDo t false (fun E=>CallX prog f a w (pk K) E) w k
def etx (t:Value)(u:Value)(w:World)(k:Value->World->Prop):=GDo t true (fun E=>E u w) w k
def efx (t:Value)(u:Value)(w:World)(k:Value->World->Prop):=GDo t false (fun E=>E u w) w k
def lnx (T x w K k):=DoX prog (mB .len #[T] 3 #[false] #[x]) w (pk K) k
def ecx (o T n z t w K k):=DoX prog (mEq o T (.tmp n) (.const (.int .i64 z)) t (.int .i64 z)) w (pk K) k
def apx (T x y w K k):=DoX prog (mB .append #[T,T] T #[false,false] #[x,y]) w (pk K) k
def cx (f a w K k):=CallX prog f a w (pk K) k
theorem cw{f:FuncId}{F:Func}{args:List Value}{K:KT}{S:Prop}(hf:prog.funcs[f]?=some F)(h:S)(hb:F.body=some (Ag F):=by rfl)(hl:Nat.ble args.length F.ntmps=true:=by rfl)(e:wpX prog F.ntmps [] [] none (Ag F) (topQ prog F.results.toList K) (jW args) [] w=S:=by kernel_rfl):Calls prog f args.toArray w K:=Ez hf hb rfl rfl hl (e▸h)
theorem cz A B{f:FuncId}{F:Func}{args:List Value}{w:World}{K:KT}{S:Prop}(hf:prog.funcs[f]?=some F)(h:S)(hb:F.body=some (Ag F):=by rfl)(hl:Nat.ble args.length F.ntmps=true:=by rfl)(e:wpX prog F.ntmps A B none (Ag F) (topQ prog F.results.toList K) (jW args) [] w=S:=by kernel_rfl):Calls prog f args.toArray w K:=Ez hf hb rfl rfl hl (e▸h)
def ldx (T a w K k):=DoX prog (aI T a) w (pk K) k
def bnx (o T a b w K k):=DoX prog (mBin o T a b) w (pk K) k
def iax (T a i w K k):=DoX prog (mIA T a i) w (pk K) k
def fax (T a n w K k):=DoX prog (mFA T a n) w (pk K) k
def nlx (a w K k):=DoX prog (mNil a) w (pk K) k
def exx (a n w K k):=DoX prog (mExt a n) w (pk K) k
def stx (T a v w K k):=DoX prog (aS T a v) w (pk K) k
def eqx (o T x y a b w K k):=DoX prog (mEq o T x y a b) w (pk K) k
def mbx (f t T b a w K k):=DoX prog (mB f t T b a) w (pk K) k
def slx (T a b c d w K k):=DoX prog (dB T a b c d) w (pk K) k
def alx (T w K k):=DoX prog (Da T) w (pk K) k
def gG(a w)(K:KT):=
 nlx a w K fun b w=>fax 188 b 0 w K fun c w=>ldx 186 c w K fun d w=>eqx .eql 186 (.tmp 5) (.const (.pointer none)) d (.pointer none) w K fun e w=>IfX e (dx (gL 186 261 a) w K fun f w=>dx (gI (.func (.func 258) #[] #[]) #[f]) w K fun g w=>dx (gL 261 186 g) w K fun h w=>nlx a w K fun i w=>fax 188 i 0 w K fun j w=>stx 186 j h w K fun _ w=>K (.returned (.tuple #[])) w) (nlx a w K fun k w=>fax 188 k 0 w K fun l w=>ldx 186 l w K fun m w=>eqx .neq 186 (.tmp 17) (.tmp 18) m a w K fun n w=>IfX n (False) (K (.returned (.tuple #[])) w))
theorem lI{t0 w K}(h:gG t0 w K):Calls prog 226 #[t0] w K:=cw Tryz.func226 h
def gJ(t0 t1 w)(K:KT):=nz Tryz.f181 1 [] [] [] (zg [0,1] [t0,t1]) w K
theorem kZ{t0 t1 w K}(h:gJ t0 t1 w K):Calls prog 181 #[t0,t1] w K:=cw Tryz.func181 h
def fQ(t0 t1 w)(K:KT):=nz Tryz.f187 1 [] [] [] (zg [0,1] [t0,t1]) w K
theorem jS{t0 t1 w K}(h:fQ t0 t1 w K):Calls prog 187 #[t0,t1] w K:=cw Tryz.func187 h
def iS(t0 w)(K:KT):=nz Tryz.f182 1 [] [] [(1,10)] (zg [0] [t0]) w K
theorem oD{t0 w K}(h:iS t0 w K):Calls prog 182 #[t0] w K:=cw Tryz.func182 h
end
end Go.Proofs.YtlipjfcbjemicaaGreatDoor
namespace Go.Proofs
open Go.Shelf
open Go.RowKit in
def Tryz.Me:Go.Shelf.Ren:=⟨fun|137=>224|217=>257|266=>283|n=>n,fun|9=>9|5=>5|3=>3|n=>n,fun|n=>n⟩
theorem Tryz.XZ:Go.Proofs.Lays.n137 prog Tryz.Me:={
 mixed:=krx
 f137:=Tryz.func224.trans (congrArg some krx)
 f217:=Tryz.func257.trans (congrArg some krx)
 f266:=Tryz.func283.trans (congrArg some krx)
 t3:=aiX
 a3:=Tryz.isAgg3
 z3:=Tryz.sizeOf3
 v3:=Tryz.zeroValue3
 t5:=aiL
 a5:=Tryz.isAgg5
 z5:=Tryz.sizeOf5
 v5:=Tryz.zeroValue5
 t9:=ahF
 a9:=Tryz.isAgg9
 z9:=Tryz.sizeOf9
 v9:=Tryz.zeroValue9 }
open Go.RowKit in
theorem Tryz.strings_IndexByte (s:ByteArray)(c:Int)(w:World) :
  Calls prog 224 #[.string s,.int .u8 c] w fun e w'=>e=.returned (.int .i64 (Lib.indexByte s.data.toList c.toNat.toUInt8))∧w'=w:=Any.strings_IndexByte Tryz.XZ s c w
open Go.RowKit Go.Lib in
def Tryz.Mp:Go.Shelf.Ren:=⟨fun|212=>227|263=>259|264=>260|n=>n,fun|46=>84|51=>153|146=>263|53=>147|148=>265|n=>n,fun|n=>n⟩
theorem Tryz.Yw:Go.Proofs.Lays.n212 prog Tryz.Mp:={
 mixed:=krx
 f212:=Tryz.func227.trans (congrArg some krx)
 f263:=Tryz.func259.trans (congrArg some krx)
 f264:=Tryz.func260.trans (congrArg some krx)
 t46:=amT
 a46:=Tryz.isAgg84
 z46:=Tryz.sizeOf84
 v46:=Tryz.zeroValue84
 t51:=aoZ
 a51:=Tryz.isAgg153
 z51:=Tryz.sizeOf153
 v51:=Tryz.zeroValue153
 t53:=anP
 a53:=Tryz.isAgg147
 z53:=Tryz.sizeOf147
 v53:=Tryz.zeroValue147
 t146:=Tryz.underlying263
 a146:=Tryz.isAgg263
 z146:=Tryz.sizeOf263
 v146:=Tryz.zeroValue263
 t148:=Tryz.underlying265
 a148:=Tryz.isAgg265
 z148:=Tryz.sizeOf265
 v148:=Tryz.zeroValue265 }
open Go.RowKit Go.Lib in
theorem Tryz.bits_Mul (x y:Nat)(hx:x < 18446744073709551616)(hy:y < 18446744073709551616)(w:World) :
  Calls prog 227 #[.int .u64 x,.int .u64 y] w fun e w'=>e=.returned (.tuple #[.int .u64 ((x*y / 18446744073709551616:Nat):Int),.int .u64 ((x*y % 18446744073709551616:Nat):Int)])∧w'=w:=Any.bits_Mul Tryz.Yw x y hx hy w
def Tryz.Hn:Go.Shelf.Ren:=⟨fun|105=>189|212=>227|99=>228|165=>229|166=>187|170=>230|169=>182|263=>259|264=>260|206=>261|240=>226|241=>262|276=>258|277=>284|n=>n,fun|9=>9|3=>3|4=>4|20=>20|0=>0|46=>84|109=>240|5=>5|72=>188|76=>205|51=>153|146=>263|53=>147|148=>265|70=>186|37=>53|75=>194|127=>239|164=>261|80=>198|n=>n,fun|n=>n⟩
theorem Tryz.Y2:Go.Proofs.Lays.n105 prog Tryz.Hn:={
 mixed:=krx
 f99:=Tryz.func228.trans (congrArg some krx)
 f105:=Tryz.func189.trans (congrArg some krx)
 f165:=Tryz.func229.trans (congrArg some krx)
 f166:=Tryz.func187.trans (congrArg some krx)
 f169:=Tryz.func182.trans (congrArg some krx)
 f170:=Tryz.func230.trans (congrArg some krx)
 f206:=Tryz.func261.trans (congrArg some krx)
 f212:=Tryz.func227.trans (congrArg some krx)
 f240:=Tryz.func226.trans (congrArg some krx)
 f241:=Tryz.func262.trans (congrArg some krx)
 f263:=Tryz.func259.trans (congrArg some krx)
 f264:=Tryz.func260.trans (congrArg some krx)
 f276:=Tryz.func258.trans (congrArg some krx)
 f277:=Tryz.func284.trans (congrArg some krx)
 t0:=Tryz.underlying0
 a0:=Tryz.isAgg0
 z0:=Tryz.sizeOf0
 v0:=Tryz.zeroValue0
 t3:=aiX
 a3:=Tryz.isAgg3
 z3:=Tryz.sizeOf3
 v3:=Tryz.zeroValue3
 t4:=Tryz.underlying4
 a4:=Tryz.isAgg4
 z4:=Tryz.sizeOf4
 v4:=Tryz.zeroValue4
 t5:=aiL
 a5:=Tryz.isAgg5
 z5:=Tryz.sizeOf5
 v5:=Tryz.zeroValue5
 t9:=ahF
 a9:=Tryz.isAgg9
 z9:=Tryz.sizeOf9
 v9:=Tryz.zeroValue9
 t20:=alA
 a20:=Tryz.isAgg20
 z20:=Tryz.sizeOf20
 v20:=Tryz.zeroValue20
 t37:=ahX
 a37:=Tryz.isAgg53
 z37:=Tryz.sizeOf53
 v37:=Tryz.zeroValue53
 t46:=amT
 a46:=Tryz.isAgg84
 z46:=Tryz.sizeOf84
 v46:=Tryz.zeroValue84
 t51:=aoZ
 a51:=Tryz.isAgg153
 z51:=Tryz.sizeOf153
 v51:=Tryz.zeroValue153
 t53:=anP
 a53:=Tryz.isAgg147
 z53:=Tryz.sizeOf147
 v53:=Tryz.zeroValue147
 t70:=amU
 a70:=Tryz.isAgg186
 z70:=Tryz.sizeOf186
 v70:=Tryz.zeroValue186
 t72:=Tryz.underlying188
 a72:=Tryz.isAgg188
 z72:=Tryz.sizeOf188
 v72:=Tryz.zeroValue188
 t75:=Tryz.underlying194
 a75:=Tryz.isAgg194
 z75:=Tryz.sizeOf194
 v75:=Tryz.zeroValue194
 t76:=Tryz.underlying205
 a76:=Tryz.isAgg205
 z76:=Tryz.sizeOf205
 v76:=Tryz.zeroValue205
 t109:=Tryz.underlying240
 a109:=Tryz.isAgg240
 z109:=Tryz.sizeOf240
 v109:=Tryz.zeroValue240
 t127:=apA
 a127:=Tryz.isAgg239
 z127:=Tryz.sizeOf239
 v127:=Tryz.zeroValue239
 t146:=Tryz.underlying263
 a146:=Tryz.isAgg263
 z146:=Tryz.sizeOf263
 v146:=Tryz.zeroValue263
 t148:=Tryz.underlying265
 a148:=Tryz.isAgg265
 z148:=Tryz.sizeOf265
 v148:=Tryz.zeroValue265
 t164:=apB
 a164:=Tryz.isAgg261
 z164:=Tryz.sizeOf261
 v164:=Tryz.zeroValue261 }
theorem Tryz.DT:Builder.Extra prog Tryz.Hn:={
 sizeBuilder:=krx
 liesBuilder:=krx
 t5:=aiL
 a5:=Tryz.isAgg5
 z5:=Tryz.sizeOf5
 v5:=Tryz.zeroValue5
 infoByte:=krx
 cellsByte:=krx
 sizeByte:=krx
 neB5:=by decide }
open Go.RowKit Go.Lib in
theorem Tryz.strings_Repeat (s:ByteArray)(c:Nat)(w:World)(hc:c<=9223372036854775807)(hlen:s.size*c<=140737488355328) :
  Calls prog 189 #[.string s,.int .i64 c] w fun e w'=>e=.returned (.string ⟨(Lib.repeatL s.data.toList c).toArray⟩)∧Below w.heap.size w w':=Any.strings_Repeat Tryz.Y2 Tryz.DT s c w hc hlen
end Go.Proofs
namespace Go.Proofs.YtlipjfcbjemicaaGreatDoor
variable{A S:Nat->Prop}{C:World->Prop}{D U U2:TypeId}{K K':VWP}{L:List Eng.Ent}{L0:Loop}{P:Program}{PK:PKT}{W w w' w0:World}{a hi lo:Int}{args:Array Value}{b cap d f fuel i j m sz t:Nat}{c v v1 v2 vc vk:Value}{cb:Array Bool}{cs cur new news xs:List Value}{e:Eng.Ent}{k':IntKind}{xo yo:Operand}{α β:Type}{σ:Eng.Sg}
section
open Eng Go.RowKit
abbrev Bld (b:Nat)(v:Value)(l:List UInt8):Ent:=.bld 188 5 b v l
theorem tX (a b:List UInt8):aH (a++b)=aH a++aH b:=by simp[aH]
theorem IH (l:List UInt8):∀u∈aH l,u.oneCell'=true:=by
 intro u hu;simp only[aH,aiD] at hu;obtain⟨c,_,rfl⟩:=hu;rfl
theorem Sd {T:TypeId}{a:Option Addr}(h:P.underlying T=some (.pointer U)) :
  DoX P (mEq .eql T xo (.const c) (.pointer a) (.pointer none)) w PK K=K (.bool a.isNone) w:=by
 refine fJ ?_;have e:(eqGuard .eql T xo (.const c) (.pointer a) (.pointer none))=pure ():=by cases xo<;>rfl
 rw[e];have h2:∀d:Nat,(Op.equalIn (d+1) T (.pointer a) (.pointer none)).run P w=.ok a.isNone w:=fun d=>by
  cases a<;>simp[Op.equalIn,run_underlying h]
 simp only[binOp];simp[Op.equal,Op.maxDepth,h2 9999]
theorem YI {T:TypeId}{a:Addr}(h:P.underlying T=some (.pointer U))(hi:(P.info? U).isSome=true)(hg:eqGuard .neq T xo yo (.pointer (some a)) (.pointer (some a))=pure ()) :
  DoX P (mEq .neq T xo yo (.pointer (some a)) (.pointer (some a))) w PK K=K (.bool false) w:=by
 obtain⟨j,hj⟩:=Option.isSome_iff_exists.1 hi;refine fJ ?_;rw[hg];simp[Lib.run_neq_ptr_same w a h hj]
theorem CM {l:List UInt8}(h:(Bld b v l).is w):Ret prog 226 #[.pointer (some ⟨b,0,none⟩)] w
  (fun r w'=>∃e',(r=.tuple #[]∧e'=Bld b v l)∧Turn (Bld b v l) e' w w'):=by
 obtain⟨p,hp,hcap,ho⟩:=(OwnS.lend h).Ui;refine aP fun K hK=>lI ?_;unfold gG dx ldx fax nlx stx eqx;simp only[rs,aK (show fOff prog 188 0=some 0 by kernel_rfl)];rw[aO krx (ho.cell 0 rfl 0 rfl)];rcases hp with rfl|rfl
 ·rw[Sd amU];simp only[aoD,rs];obtain⟨j,hj⟩:=Option.isSome_iff_exists.1 (show (Tryz.prog.info? 188).isSome=true by kernel_rfl);have hjs:j.size≠0:=by
   have:(Tryz.prog.info? 188).map (·.size)=some 2:=krx
   rw[hj] at this;simp only[amV,akR] at this;omega
  have hsh:w.shape? b=some (188,2):=by
   have hb:w.heap[b]?=some (.cells #[.pointer none,v] 188 (0,0)):=ho.at_ 0 rfl;simp[World.shape?,hb]
  refine jU (bL (Lib.run_to_unsafe w ⟨b,0,none⟩ amU apB hj hjs hsh (by show 0 < 2;omega))) ?_;refine jU (show (gI (.func (.func 258) #[] #[]) #[.pointer (some ⟨b,0,none⟩)]).run prog w=.ok (.value (.pointer (some ⟨b,0,none⟩))) w by kernel_rfl) ?_;refine jU (bL (Lib.run_from_unsafe w ⟨b,0,none⟩ apB amU hj hsh krx)) ?_;refine aN 0 ho rfl krx rfl sm fun w2 ho2=>?_;exact hK _ _ ⟨_,⟨rfl,rfl⟩,(OwnS.Ei (.inr rfl) hcap ho2).back⟩
 ·rw[Sd amU];simp only[aoE,rs,aK (show fOff prog 188 0=some 0 by kernel_rfl)];rw[aO krx (ho.cell 0 rfl 0 rfl)];rw[YI amU krx rfl];simp only[rs];exact hK _ _ ⟨_,⟨rfl,rfl⟩,(ho.Ei (.inr rfl) hcap).back⟩
theorem jM {l:List UInt8}{c:UInt8}(h:(Bld b v l).is w)(hl:l.length < 140737488355328):Ret prog 181 #[.pointer (some ⟨b,0,none⟩),.int .u8 c.toNat] w
  (fun r w'=>∃e',(r=.nilIface∧∃v',e'=Bld b v' (l++[c]))∧Turn (Bld b v l) e' w w'):=by
 refine aP fun K hK=>kZ ?_;unfold gJ nz;refine oK 0 (OwnS.lend h) rfl (CM h) ?_;rintro _ _ w1 ⟨rfl,rfl⟩ ho1;obtain⟨p,hp,hcap,ho⟩:=OwnS.Ui ho1;simp only[rs,aK (show fOff prog 188 1=some 1 by kernel_rfl)];rw[aO krx (ho.cell 0 rfl 1 rfl)];refine bC (fun b=>.slice (some ⟨b,0,none⟩) 1 1) [.int .u8 c.toNat] 5 (fun _=>by kernel_rfl) ho fun nb w2 h2=>?_;refine NQ 2 ahX (show elB prog 5 1 1=true by kernel_rfl) dc h2 rfl (h2.sl 0 rfl 1 1 1 rfl) (IH [c]) om om fun v' w3 h3=>?_;refine aN 1 h3 rfl krx (by
  have:=h3.at_ 2 rfl;rcases this.2 with ⟨hv,_⟩|⟨_,_,_,_,hv,_⟩<;>rw[hv]<;>rfl) sm fun w4 h4=>?_
 have h5:=h4.tail;have h6:OwnS (Bld b v l).blk w w4 (.cells b [p,v'] 188::.row 5 1 v' (l.length+1) (aH (l++[c]))::[]):=by
  rw[tX];exact h5
 exact hK _ _ ⟨_,⟨rfl,v',rfl⟩,(OwnS.Ei hp (roomy_row (h6.at_ 1 rfl) om) h6).back⟩
theorem Hd {l s:List UInt8}(h:(Bld b v l).is w)(hl:l.length+s.length<=140737488355328):Ret prog 187 #[.pointer (some ⟨b,0,none⟩),.string ⟨s.toArray⟩] w
  (fun r w'=>∃e',((∃x,r=.tuple #[x,.nilIface])∧∃v',e'=Bld b v' (l++s))∧Turn (Bld b v l) e' w w'):=by
 refine aP fun K hK=>jS ?_;unfold fQ nz;refine oK 0 (OwnS.lend h) rfl (CM h) ?_;rintro _ _ w1 ⟨rfl,rfl⟩ ho1;obtain⟨p,hp,hcap,ho⟩:=OwnS.Ui ho1;simp only[rs,aK (show fOff prog 188 1=some 1 by kernel_rfl)];rw[aO krx (ho.cell 0 rfl 1 rfl)];refine KE 1 ahX ahF (show elB prog 5 1 1=true by kernel_rfl) aiL krx ho rfl om fun v' w3 hro h3=>?_;refine aN 0 h3 rfl krx (by
  have:=h3.at_ 1 rfl;rcases this.2 with ⟨hv,_⟩|⟨_,_,_,_,hv,_⟩<;>rw[hv]<;>rfl) sm fun w4 h4=>?_
 rw[fP ahF];have h6:OwnS (Bld b v l).blk w w4 (.cells b [p,v'] 188::.row 5 1 v' (l.length+s.length) (aH (l++s))::[]):=by
  rw[tX];exact h4
 exact hK _ _ ⟨_,⟨⟨_,rfl⟩,v',rfl⟩,(OwnS.Ei hp (hro hcap) h6).back⟩
theorem Sp {E:TypeId}{g n:Nat}(h:w.ownsRowF 0 E 1 (.slice (some ⟨g,0,none⟩) n cap) n xs)(hn0:n≠0) :
  Turn (.row E 1 (.slice (some ⟨g,0,none⟩) n cap) n xs) (.row E 1 (.slice (some ⟨g,0,none⟩) n cap) n xs) w (w.freeze ⟨g,0,none⟩ n):=by
 refine⟨?_,?_,fun k hk=>.inl hk⟩
 ·unfold World.freeze;rw[agV hn0];refine⟨rfl,rfl,rfl,sm,fun k hk hne=>?_⟩;have hkg:¬g=k:=fun e=>hne (by show some g=some k;rw[e]);simp only[Array.getElem?_modify];rw[agV hkg]
 ·refine⟨h.1,?_⟩;unfold World.freeze;rw[agV hn0];rcases h.2 with ⟨hv,_⟩|⟨g',cap',cur,fz,hv,hbg,hg,hfz,rest⟩
  ·cases hv
  ·injection hv with ha _ hcap
   injection ha with ha
   injection ha with hgg _ _
   subst hgg;subst hcap;obtain⟨lo,hi⟩:=fz;refine .inr ⟨g,_,cur,(if lo==hi then (0,0+n) else (min lo 0,max hi (0+n))),rfl,hbg,?_,?_,rest⟩
   ·simp[Array.getElem?_modify,hg]
   ·simp only at hfz;split<;>simp<;>omega
theorem Yt {n:Nat}{T:TypeId}{cs:Array Bool}{E:TypeId}(h:w.ownsRowF 0 E 1 v n xs)(hr:roomy v):∃q,(∀w':World,(mB .unsafeSliceData #[T] U cs #[v]).run prog w'=.ok (.value (.pointer q)) w')∧(0 < n->∃g cap,v=.slice (some ⟨g,0,none⟩) n cap∧q=some ⟨g,0,none⟩):=by
 rcases h.2 with ⟨rfl,rfl⟩|⟨g,cap,cur,fz,rfl,hbg,hg,hfz,rest⟩
 ·exact⟨none,fun w'=>by simp[mB,builtin,Lib.run_unsafeSliceData_nil],fun h=>by omega⟩
 ·refine⟨some ⟨g,0,none⟩,fun w'=>?_,fun _=>⟨g,cap,rfl,rfl⟩⟩;have hc:cap≠0:=fun e=>hr ⟨g,0,none⟩ n (by rw[e]);simp[mB,builtin,Lib.run_unsafeSliceData_row _ _ _ _ _ _ hc]
theorem Ca {l:List UInt8}(h:(Bld b v l).is w):Ret prog 182 #[.pointer (some ⟨b,0,none⟩)] w
  (fun r w'=>∃e',(r=.string ⟨l.toArray⟩∧e'=Bld b v l)∧Turn (Bld b v l) e' w w'):=by
 obtain⟨p,hp,hcap,ho⟩:=(OwnS.lend h).Ui;refine aP fun K hK=>oD ?_;unfold iS nz;have hrow:w.ownsRowF 0 5 1 v l.length (aH l):=ho.at_ 1 rfl;obtain⟨q,hq,hq2⟩:=Yt (T:=53) (U:=239) (cs:=#[false]) hrow hcap;have hload:∀w',Below w.heap.size w w'->(aI 53 (.pointer (some ⟨b,0+1,none⟩))).run prog w'=.ok (.value v) w':=fun w' hb=>aB krx ((ho.grow hb).cell 0 rfl 1 rfl);have hlen:∀w',Below w.heap.size w w'->(mB .len #[53] 3 #[false] #[v]).run prog w'=.ok (.value (.int .i64 l.length)) w':=fun w' hb=>by
  have hs:=(ho.grow hb).abI 1 rfl;obtain⟨_,a,cp,rfl,_⟩:=hs;simp[mB,builtin,Builtin.len_,run_underlying ahX,goInt]
 refine quiet (q_do _ (fun w=>cM) (q_do _ (fun w=>bY (show fOff prog 188 1=some 1 by kernel_rfl)) (q_at v hload (q_do _ hq (q_do _ (fun w=>cM) (q_do _ (fun w=>bY (show fOff prog 188 1=some 1 by kernel_rfl)) (q_at v hload (q_at _ hlen ?_))))))));intro w2 hb2;have h2:=ho.grow hb2;rcases ajV l.length with h0|h0
 ·have hl:l=[]:=akY h0;subst hl;refine jU (show (mB .unsafeString #[239,3] 9 #[false,false] #[.pointer q,.int .i64 0]).run prog w2=.ok (.value (.string ⟨([]:List UInt8).toArray⟩)) w2 by
   simp[mB,builtin,Lib.run_unsafeString_none];rfl) ?_
  exact hK _ _ ⟨_,⟨rfl,rfl⟩,(OwnS.Ei hp hcap h2).back⟩
 ·obtain⟨g,cap,rfl,rfl⟩:=hq2 h0;have hr2:w2.ownsRowF 0 5 1 (.slice (some ⟨g,0,none⟩) l.length cap) l.length (aH l):=h2.at_ 1 rfl;have hne:l≠[]:=akN.1 h0;have hsh:∃cells,w2.shape? g=some (5,cells)∧l.length<=cells∧l.length<=9223372036854775807:=by
   rcases hr2.2 with ⟨hv,_⟩|⟨g',cap',cur,fz,hv,hbg,hg,hfz,hnc,hcm,hcs,_⟩
   ·cases hv
   ·injection hv with ha _ hcap
    injection ha with ha
    injection ha with hgg _ _
    subst hgg;refine⟨cur.size,by simp[World.shape?,hg],om,?_⟩;simp only[maxLen] at hcm;omega
  obtain⟨cells,hsh,hle,h63⟩:=hsh;have hr:=Lib.run_unsafeString_row (P:=prog) w2 239 3 9 5 apA krx g cells hsh l hne hle h63 (fun j x hj=>by
   have:=World.ownsRowF.cells hr2 (g:=g) rfl j (.int .u8 x.toNat) (gQ hj);exact this)
  refine jU (show (mB .unsafeString #[239,3] 9 #[false,false] #[.pointer (some ⟨g,0,none⟩),.int .i64 l.length]).run prog w2=.ok (.value (.string ⟨l.toArray⟩)) (w2.freeze ⟨g,0,none⟩ l.length) by
   simp[mB,builtin,hr]) ?_
  have h3:=h2.turn 1 rfl (Sp hr2 om);exact hK _ _ ⟨_,⟨rfl,rfl⟩,(OwnS.Ei hp hcap h3).back⟩
end
section
open Eng
def CG(b c d a w)(N1:JT)(K:KT):=
 bnx .lss 3 a d w K fun e w=>IfX e (QuietX w (fun C2=>QDo prog C2 (mIx 9 b a) fun f=>QDo prog C2 (mBin .shr 5 f (.int .u64 4)) fun g=>QDo prog C2 (mIx 9 (.string ⟨#[48,49,50,51,52,53,54,55,56,57,65,66,67,68,69,70]⟩) g) fun h=>QDo prog C2 (mIx 9 b a) fun i=>QDo prog C2 (mBin .and 5 i (.int .u8 15)) fun j=>QDo prog C2 (mIx 9 (.string ⟨#[48,49,50,51,52,53,54,55,56,57,65,66,67,68,69,70]⟩) j) fun k=>
 ∀w,C2 w ->
 DoX prog (bN 53 2 #[(0,h),(1,k)]) w (pm1 (pm1 (pm1 (pm1 (pm1 (pk K)))))) fun l w=>DoX prog (mB .append #[53,53] 53 #[false,false] #[c,l]) w (pm1 (pm1 (pm1 (pm1 (pm1 (pk K)))))) fun m w=>bnx .add 3 a (iN 1) w K fun n w=>N1 [m,n] w)) (dx (gL 53 9 c) w K fun o w=>K (.returned o) w)
def GX(t0 w)(K:KT):=nz Tryz.f172 1 [] [(7,[3,11],fun s v j w f=>CG (s 0) (vg v 0) (s 10) (vg v 1) w (f 0) K)] [] (zg [0] [t0]) w K
theorem Hv{t0 w K}(h:GX t0 w K):Calls prog 172 #[t0] w K:=cz [] [(3,[3,11])] Tryz.func172 h
def CA(t0 w)(K:KT):=nz Tryz.f177 1 [] [] [] (zg [0] [t0]) w K
theorem Fe{t0 w K}(h:CA t0 w K):Calls prog 177 #[t0] w K:=cw Tryz.func177 h
end
end Go.Proofs.YtlipjfcbjemicaaGreatDoor






namespace Go.Proofs.YtlipjfcbjemicaaGreatDoor
variable{A S:Nat->Prop}{C:World->Prop}{D U U2:TypeId}{K K':VWP}{L:List Eng.Ent}{L0:Loop}{P:Program}{PK:PKT}{W w w' w0:World}{a hi lo:Int}{args:Array Value}{b cap d f fuel i j m sz t:Nat}{c v v1 v2 vc vk:Value}{cb:Array Bool}{cs cur new news xs:List Value}{e:Eng.Ent}{k':IntKind}{xo yo:Operand}{α β:Type}{σ:Eng.Sg}
section
open Eng Go.RowKit
theorem NY (c:UInt8):∀l:List UInt8,(Lib.indexByte l c=-1∧l.takeWhile (fun x=>x != c)=l∧l.dropWhile (fun x=>x != c)=[]) ∨
  ∃i:Nat,Lib.indexByte l c=i∧i < l.length∧l.takeWhile (fun x=>x != c)=l.take i∧l.dropWhile (fun x=>x != c)=l.drop i
|[]=>.inl ⟨rfl,rfl,rfl⟩
|b::l=>by
  by_cases h:b=c
  ·subst h;exact .inr ⟨0,by simp[Lib.indexByte],sm,sm,sm⟩
  ·have hb:(b==c)=false:=by simpa using h
   have hb2:(b != c)=true:=by simpa using h
   rcases NY c l with ⟨h1,h2,h3⟩|⟨i,h1,h2,h3,h4⟩
   ·exact .inl ⟨by simp[Lib.indexByte,hb,h1],by simp[hb2,h2],by simp[hb2,h3]⟩
   ·refine .inr ⟨i+1,?_,by simp;omega,by simp[hb2,h3],by simp[hb2,h4]⟩;have e:((i:Int)==-1)=false:=sm
    simp only[Lib.indexByte,hb,h1,e,alV,if_false];omega
end
end Go.Proofs.YtlipjfcbjemicaaGreatDoor

namespace Go.Proofs.YtlipjfcbjemicaaGreatDoor
variable{A S:Nat->Prop}{C:World->Prop}{D U U2:TypeId}{K K':VWP}{L:List Eng.Ent}{L0:Loop}{P:Program}{PK:PKT}{W w w' w0:World}{a hi lo:Int}{args:Array Value}{b cap d f fuel i j m sz t:Nat}{c v v1 v2 vc vk:Value}{cb:Array Bool}{cs cur new news xs:List Value}{e:Eng.Ent}{k':IntKind}{xo yo:Operand}{α β:Type}{σ:Eng.Sg}
section
open Eng Go.RowKit
theorem BP (l:List UInt8)(c:UInt8)(w:World):Ret prog 224 #[.string ⟨l.toArray⟩,.int .u8 c.toNat] w (fun v w'=>v=.int .i64 (Lib.indexByte l c)∧w=w'):=by
 refine Calls.mono (Tryz.strings_IndexByte ⟨l.toArray⟩ c.toNat w) ?_;rintro e w' ⟨rfl,rfl⟩;refine retK ⟨?_,rfl⟩;simp
theorem KR (c:UInt8)(w:World):Ret prog 177 #[.int .u8 c.toNat] w (fun v w'=>v=.bool (Oc.Bk c)∧w=w'):=by
 refine aP fun K hK=>Fe ?_;unfold CA nz;refine c_eq (BP Oc.Wj c w) ?_;simp only[rs,Oc.vC];exact hK _ _ ⟨rfl,rfl⟩
theorem shr4 (c:UInt8):(c.toNat:Int).fdiv (2 ^ (min (4:Int).toNat IntKind.u8.bits))=((c.toNat / 16:Nat):Int):=by
 rw[apC _ dc];show ((c.toNat:Int) / 16)=_;omega
theorem R9:∀n:Fin 256,bAnd .u8 (n.val:Int) 15=((n.val % 16:Nat):Int):=by decide +kernel
theorem afZ (c:UInt8):bAnd .u8 (c.toNat:Int) 15=((c.toNat % 16:Nat):Int):=R9 ⟨c.toNat,c.toNat_lt⟩
theorem NS (k:IntKind){n:Nat}(h:n < 16)(w:World):(mIx 9 (.string ⟨#[48,49,50,51,52,53,54,55,56,57,65,66,67,68,69,70]⟩) (.int k (n:Int))).run prog w=.ok (.value (.int .u8 (Oc.hexD n).toNat)) w:=
 FL (a:=Oc.hexs) (c:=Oc.hexD n) ahF om (by rw[ahI];exact Oc.VC h)
theorem Xe (l:List UInt8)(w:World)(hl:l.length<=1000000):Ret prog 172 #[.string ⟨l.toArray⟩] w (fun v w'=>v=.string ⟨(Oc.hex l).toArray⟩∧Below w.heap.size w w'):=by
 refine aP fun K hK=>Hv ?_;unfold GX nz;rw[fP ahF];simp only[rs];rw[aA om om];refine aaW (c:=2*l.length) om ahX (show elB prog 5 1 1=true by kernel_rfl) om om (Own.start w) fun v w1 h1=>?_;rw[fP ahF];refine loop (fun vs w'=>∃(i:Nat) (v:Value),vs=[v,.int .i64 i]∧i<=l.length∧Own w w' [.row 5 1 v (2*i) (aH (Oc.hex (l.take i)))])
  (fun vs _=>l.length - n1 vs) ⟨0,v,rfl,om,by simpa[Oc.hex,aH] using h1⟩ ?_
 rintro vs w2 ⟨i,v,rfl,hi,ho⟩ _;simp only[CG,gd,rs,iN,dx,bnx];by_cases hlt:(i:Int) < (l.length:Int)
 ·have hi2:i < l.length:=om
  have hc:l[(i:Int).toNat]?=some l[i]:=by simp[hi2]
  have hd1:l[i].toNat / 16 < 16:=by have:=l[i].toNat_lt;omega
  have hd2:l[i].toNat % 16 < 16:=om
  simp only[hlt,agY,rs];refine quiet (q_do _ (fun w=>FL ahF om hc) (q_do _ (fun w=>by rw[UE om,shr4]) (q_do _ (fun w=>NS _ hd1 w)
   (q_do _ (fun w=>FL ahF om hc) (q_do _ (fun w=>by rw[TZ,afZ]) (q_do _ (fun w=>NS _ hd2 w) ?_))))))
  intro w3 hb3;refine bC (fun b=>.slice (some ⟨b,0,none⟩) 2 2) (aH (Oc.hex1 l[i])) 5 (fun _=>by kernel_rfl) (ho.grow hb3) fun nb w4 h4=>?_;refine NQ 1 ahX (show elB prog 5 1 1=true by kernel_rfl) dc h4 rfl (h4.sl 0 rfl 1 2 2 rfl) (IH _) om om fun v' w5 h5=>?_;rw[aA om om];refine aY ⟨i+1,v',rfl,om,?_⟩ (by simp[n1,RowKit.intOf];omega);have e:aH (Oc.hex (l.take (i+1)))=aH (Oc.hex (l.take i))++aH (Oc.hex1 l[i]):=by
   rw[aiG hi2,Oc.T3,tX]
  rw[e];exact h5.tail
 ·have hi2:i=l.length:=om
  subst hi2;simp only[hlt,agX,rs];have hs:=ho.abI 0 rfl;rw[My (l:=Oc.hex l) ahX aiL ahF (by rw[Oc.Pq];simpa using hs)];exact hK _ _ ⟨rfl,ho.done⟩
end
section
open Eng Go.RowKit
theorem adJ (n:Nat)(h:n < 256):((UInt8.ofNat n).toNat:Int)=(n:Int):=by rw[akW];omega
theorem AL {l:List UInt8}{n:Int}{k:Nat}(h:(Bld b v l).is w)(hl:l.length < 140737488355328)(hn:n=k)(hk:k < 256):Ret prog 181 #[.pointer (some ⟨b,0,none⟩),.int .u8 n] w
  (fun r w'=>∃e',(r=.nilIface∧∃v',e'=Bld b v' (l++[UInt8.ofNat k]))∧Turn (Bld b v l) e' w w'):=by
 have:=jM (c:=UInt8.ofNat k) h hl;rw[adJ k hk,<-hn] at this;exact this
end
section
open Eng Go.RowKit
def strV (p:List UInt8):Value:=.string ⟨p.toArray⟩
def bG (ps:List (List UInt8)):List Value:=ps.map strV
theorem eM {ps:List (List UInt8)}(h:i < ps.length):(bG ps)[i]?=some (.string ⟨ps[i].toArray⟩):=by simp[bG,strV,h]
end
section
open Eng Go.RowKit Go.ChangeShapes Go.WideShapes Go.ChangeAt
theorem yE {x:String×DataW Unit}{l:List (String×DataW Unit)}(h:laidMet P (x::l) W):laidMet P l W:=by
 obtain⟨ps,⟨g,t,cs,fuel,p,q,_,_,_,_,hr,rfl⟩,hn,hc⟩:=h;exact⟨q,hr,(List.nodup_append.1 hn).2.1,fun b off hm=>hc b off (by simp[hm])⟩
end
section
namespace Eng
open Go.RowKit
def aggN (P:Program)(T:TypeId):Option Nat:=
 match P.underlying T with
|some (.struct _)|some (.array _ _)=>(P.info? T).map (·.size)
|_=>none
def AtV (P:Program)(w:World)(T:TypeId)(a:Addr)(v:Value):Prop:=(loadVar T a).run P w=.ok v w
section
variable {S:Nat->Prop}{P:Program}{w:World}{PK:PKT}{K:VWP}
theorem AtV.cell {T:TypeId}(ht:eF P T=true){a:Addr}{v:Value}(h:w.cell? a=some v):AtV P w T a v:=mE ht h
theorem AtV.agg {T:TypeId}{n:Nat}(ht:aggN P T=some n){b off:Nat}{cs:List Value}(hl:cs.length=n)(h:∀j v,cs[j]?=some v->w.cell? ⟨b,off+j,none⟩=some v):AtV P w T ⟨b,off,none⟩ (.agg cs.toArray):=by
 have hc:=run_loadCells_list (P:=P) w ⟨b,off,none⟩ cs (fun j v hj=>by rw[cC];exact h j v hj);unfold aggN at ht;subst hl;unfold AtV;split at ht
 ·rename_i fs hu
  obtain⟨i,hi,h1⟩:=ajN.1 ht;simp[loadVar,isAgg,run_underlying hu,sizeOf,typeInfo,hi,h1,hc]
 ·rename_i k e hu
  obtain⟨i,hi,h1⟩:=ajN.1 ht;simp[loadVar,isAgg,run_underlying hu,sizeOf,typeInfo,hi,h1,hc]
 ·cases ht
theorem bI {T:TypeId}{a:Addr}(h:AtV P w T a v):(aI T (.pointer (some a))).run P w=.ok (.value v) w:=by
 unfold AtV at h;exact bL (by simp[Instr.loadAt,Instr.sureAddr,h])
theorem l_at {T:TypeId}{a:Addr}(h:AtV P w T a v):DoX P (aI T (.pointer (some a))) w PK K=K v w:=aE (bI h)
theorem OwnS.agg {w0:World}{L:List Ent}(ho:OwnS S w0 w L)(i:Nat){b:Nat}{cs:List Value}{E T:TypeId}(hi:L[i]?=some (.cells b cs E))(ht:aggN P T=some cs.length):AtV P w T ⟨b,0,none⟩ (.agg cs.toArray):=
 AtV.agg ht rfl fun j v hj=>by rw[ahJ];exact ho.cell i hi j hj
theorem I7 {T:TypeId}{E:TypeId}(hs:(P.info? T).map (·.size)=some new.length)(hv:∀v∈new,v.oneCell'=true)(hl:cs.length=new.length)(h:w.heap[b]?=some (.cells cs.toArray E (0,0))) :
  (Instr.storeAt T (.pointer (some ⟨b,0,none⟩)) (.agg new.toArray)).run P w=.ok () (w.setRow b new.toArray):=by
 have hst:=run_storeCells_at P b 0 E new 0 cs.toArray w h (by simp;omega) hv;obtain⟨i,hi,h1⟩:=ajN.1 hs;have hd:cs.toArray.toList.drop new.length=[]:=ajC (by rw[<-hl];exact ahD _);simp only[aiZ,ahJ,akS,aiM,hd,ahV] at hst;have hc:(Value.agg new.toArray).cells=new.toArray:=rfl;simp[Instr.storeAt,Instr.sureAddr,storeVar,hc,sizeOf,typeInfo,hi,h1,hst]
theorem iE (i:Nat){T:TypeId}{E:TypeId}(ho:OwnS S w0 w L)(hi:L[i]?=some (.cells b cs E))(hs:(P.info? T).map (·.size)=some new.length)(hv:∀v∈new,v.oneCell'=true)(hl:cs.length=new.length)
  (k:∀w',OwnS S w0 w' (L.set i (.cells b new E))->K undef w'):DoX P (aS T (.pointer (some ⟨b,0,none⟩)) (.agg new.toArray)) w PK K:=
 DF (IC (I7 hs hv hl (ho.at_ i hi))) (k _ (gP ho i hi _))
theorem sW {T:TypeId}{a:List UInt8}{k:IntKind}(h:P.underlying T=some .string)(h0:0<=lo)(h1:lo<=hi)(h2:hi<=a.length) :
  (dB T (.string ⟨a.toArray⟩) (some (.int k lo)) (some (.int k' hi)) none).run P w=.ok (.value (.string ⟨((a.drop lo.toNat).take (hi.toNat - lo.toNat)).toArray⟩)) w:=by
 refine bL ?_;have e:(⟨a.toArray⟩:ByteArray).extract lo.toNat hi.toNat=⟨((a.drop lo.toNat).take (hi.toNat - lo.toNat)).toArray⟩:=by
  rw[J9 (s:=(⟨a.toArray⟩:ByteArray).extract lo.toNat hi.toNat),Lib.extract_data]
 have g1:(0<=hi∧hi<=((a.length:Nat):Int)):=om
 have g2:(0<=lo∧lo<=((hi.toNat:Nat):Int)):=om
 simp only[Instr.sliceAt,Instr.slice,Instr.sliceBounds,Instr.sliceBound,asIntOf,run_underlying h,dK];have g3:lo<=max hi 0:=om
 simp[run_underlying h,dK,h2,g3,h0,g1.1,e]
theorem U4 (h:Ret P f args w (fun v' w'=>v'=v∧w=w'))(hb:C w):Ret P f args w (fun v' w'=>v'=v∧C w'):=
 h.mono fun v' w' r=>⟨r.1,r.2▸hb⟩
theorem T9 {w1:World}(h:Ret P f args w (fun v' w'=>v'=v∧Below w.heap.size w w'))(hb:Below w1.heap.size w1 w):Ret P f args w (fun v' w'=>v'=v∧Below w1.heap.size w1 w'):=
 h.mono fun v' w' r=>⟨r.1,(((Own.start w1).grow hb).grow r.2).done⟩
theorem iW {r1:RV}{K:Ending->World->Prop}(h1:r1.read.run P w=.ok v1 w)(k:K (.returned v1) w):RetX P [r1] w K:=
 ⟨_,by simp[Cv,h1],k⟩
theorem Bp {r1 r2:RV}{K:Ending->World->Prop}(h1:r1.read.run P w=.ok v1 w)(h2:r2.read.run P w=.ok v2 w)(k:K (.returned (.tuple #[v1,v2])) w):RetX P [r1,r2] w K:=
 ⟨_,by simp[Cv,h1,h2],k⟩
theorem Ok {r1 r2 r3:RV}{v3:Value}{K:Ending->World->Prop}(h1:r1.read.run P w=.ok v1 w)(h2:r2.read.run P w=.ok v2 w)(h3:r3.read.run P w=.ok v3 w)(k:K (.returned (.tuple #[v1,v2,v3])) w):RetX P [r1,r2,r3] w K:=
 ⟨_,by simp[Cv,h1,h2,h3],k⟩
theorem bH {T:TypeId}{a:Addr}(h:AtV P w T a v):(RV.cell (.pointer (some a)) T).read.run P w=.ok v w:=by
 unfold AtV at h;simp[RV.read,asAddr,h]
theorem F2 :(RV.val v).read.run P w=.ok v w:=by simp[RV.read]
end
end Eng
end
section
namespace Eng
open Go.RowKit
section
variable {S:Nat->Prop}{P:Program}{w w0:World}{L:List Ent}{PK:PKT}{K:VWP}
theorem OwnS.join {L':List Ent}(h:OwnS S w0 w L)(k:OwnS NoB w w' L'):OwnS S w0 w' (L'++L):=by
 have h':=h.grow k.below;refine⟨h'.grew,fun e he=>?_,alB.2 ⟨k.apart,h'.apart,fun e he f hf b hb hb'=>?_⟩⟩
 ·rcases aiC.1 he with he|he
  ·obtain⟨a,b⟩:=k.all e he;refine⟨a,fun j hj=>.inr ?_⟩;rcases b j hj with h1|h1
   ·exact h1.elim
   ·exact ajZ h.size h1
  ·exact h'.all e he
 ·have h2:=f.lt (h.mem hf) b hb';rcases (k.all e he).2 b hb with h1|h1
  ·exact h1
  ·omega
theorem aeG {l:Nat}{K:World->Prop}(i:Nat)(ho:OwnS S w0 w L)(hi:L[i]?=some (.obj l (lp L0 .ready none)))(k:∀w',OwnS S w0 w' (L.set i (.obj l (lp L0 .busy none)))->K w'):BegX P l w K:=
 ⟨_,HF (ho.at_ i hi),k _ (FE ho i hi)⟩
theorem abG {l:Nat}{j:Option Code}{R:VWP}(i:Nat)(ho:OwnS S w0 w L)(hi:L[i]?=some (.obj l (lp L0 .busy none)))(k:∀w',OwnS S w0 w' (L.set i (.obj l (lp L0 (if j.isNone then .ready else .done) j)))->R (.bool j.isNone) w'):EndX P l j w R:=
 ⟨_,_,Lg (ho.at_ i hi),k _ (FE ho i hi)⟩
theorem adC {l:Nat}{args:List Value}{R:VWP}(h:Yld P l args w R)(k:∀v w',R v w'->K v w'):DoX P (gI (.func (.yield l) #[] #[]) args.toArray) w PK K:=by
 obtain⟨fn,tmps,asn,bdy,h1,h2⟩:=h;have hr:(gI (.func (.yield l) #[] #[]) args.toArray).run P w=.ok (.round l fn tmps asn bdy) w:=by
  rw[<-h1];simp[gI,invoke,Deferred.ofValue,resolve]
 refine⟨?_⟩;rw[hr];refine⟨RoundIn.mono h2 ?_⟩;rintro e w' ⟨v,rfl,hv⟩;exact k v w' hv
theorem range {js:List (Option Code×(Nat->World->Prop))}{B:Nat->List Value->World->(VWP)->Prop}{np:Nat}{fa ca:Array Value}(ho:OwnS S w0 w L)(hp:bZ P f=true)
  (h:∀(L0:Loop) (df lb:Nat) (w1:World),OwnS S w0 w1 (.obj lb (lp L0 .ready none)::.obj df (.deferred (some []))::L) ->
   (∀args W R,W.heap[lb]?=some (lp L0 .ready none)->args.length=np->B lb args W R->Yld P lb args W R) ->
   Calls P f (fa++#[.func (.yield lb) #[] #[]]++ca) w1 fun e w3=>∃v st pd k,e=.returned v∧st≠.busy∧w3.heap[lb]?=some (lp L0 st pd)∧(pd,k)∈js∧k df (putO w3 lb (lp L0 .exhausted pd))) :
  RangeX P none np (.func (.func f) fa ca) w B js:=by
 refine⟨f,fa,ca,w.heap.size,w.alloc (.deferred (some [])),rfl,hp,⟨rfl,rfl⟩,fun L0 _ hy=>?_⟩;exact h L0 w.heap.size (w.alloc (.deferred (some []))).heap.size _ ((ho.O8 _).O8 _) (fun args W R h1 h2 h3=>hy _ args W R h1 h2 h3)
theorem ZF {rs:List RV}{K:Ending->World->Prop}{df:Nat}(i:Nat)(ho:OwnS S w0 w L)(hi:L[i]?=some (.obj df (.deferred (some []))))(k:∀w',OwnS S w0 w' (L.set i (.obj df (.deferred none)))->RetD P rs w' K):Eo P rs K [mkD df] .returning w:=by
 refine⟨(fun h=>by cases h),df,_,rfl,?_,k _ (FE ho i hi)⟩;have h:w.heap[df]?=some (.deferred (some [])):=ho.at_ i hi;simp[Instr.takeDeferred,getObj,setObj,Sem.run,h]
end
end Eng
end
section
namespace Eng
open Go.RowKit
def eqSh (P:Program):List Field->Option (List (Nat×Bool))
|[]=>some []
|f::fs=>
  if f.name=="_" then none
  else match P.underlying f.type with
  |some (.int _)=>(eqSh P fs).map ((f.offset,false)::·)
  |some .string=>(eqSh P fs).map ((f.offset,true)::·)
  |_=>none
def Nb:Bool->Option Value->Option Value->Bool
|false,some (.int k _),some (.int k' _)=>decide (k=k')
|true,some (.string _),some (.string _)=>true
|_,_,_=>false
def Gb:Option Value->Option Value->Bool
|some (.int _ a),some (.int _ b)=>a==b
|some (.string a),some (.string b)=>a.toList==b.toList
|_,_=>false
section
variable {P:Program}{w:World}{PK:PKT}{K:VWP}
theorem FJ (d:Nat)(xs ys:Array Value):∀(fs:List Field) (sh:List (Nat×Bool)),eqSh P fs=some sh->(sh.all fun p=>Nb p.2 xs[p.1]? ys[p.1]?)=true ->
  (Op.eqFields (d+1) xs ys fs).run P w=.ok (sh.all fun p=>Gb xs[p.1]? ys[p.1]?) w
|[],sh,h,_=>by
  cases h;simp[Op.eqFields]
|f::fs,sh,h,hok=>by
  rw[eqSh] at h;split at h
  ·cases h
  ·rename_i hn
   have hn':f.name≠"_":=by simpa using hn
   split at h
   ·rename_i k hu
    obtain⟨sh',h',rfl⟩:=ajN.1 h;simp only[anO,ahR] at hok;obtain⟨h0,hok⟩:=hok;have ih:=FJ d xs ys fs sh' h' hok;cases hx:xs[f.offset]? with
   |none=>rw[hx] at h0;cases h0
   |some a=>
     cases hy:ys[f.offset]? with
    |none=>rw[hx,hy] at h0;cases a<;>cases h0
    |some b=>
      rw[hx,hy] at h0;cases a<;>cases b<;>first|(cases h0;done)|skip
      rename_i k1 a k2 b
      simp only[Nb,aiI] at h0;subst h0;simp only[Op.eqFields,hn',ne_eq,akI,if_true,Sem.run_bind,part,isAgg,run_underlying hu,Result.andThen_ok,Sem.run_pure,alV,if_false,hx,hy,run_equalIn_int w d f.type k1 k a b hu,anO,Gb];cases hab:(a==b)
      ·simp
      ·simp[ih];rfl
   ·rename_i hu
    obtain⟨sh',h',rfl⟩:=ajN.1 h;simp only[anO,ahR] at hok;obtain⟨h0,hok⟩:=hok;have ih:=FJ d xs ys fs sh' h' hok;cases hx:xs[f.offset]? with
   |none=>rw[hx] at h0;cases h0
   |some a=>
     cases hy:ys[f.offset]? with
    |none=>rw[hx,hy] at h0;cases a<;>cases h0
    |some b=>
      rw[hx,hy] at h0;cases a<;>cases b<;>first|(cases h0;done)|skip
      rename_i a b
      simp only[Op.eqFields,hn',ne_eq,akI,if_true,Sem.run_bind,part,isAgg,run_underlying hu,Result.andThen_ok,Sem.run_pure,alV,if_false,hx,hy,run_equalIn_string w d f.type a b hu,anO,Gb];cases hab:(a.toList==b.toList)
      ·simp
      ·simp[ih];rfl
   ·cases h
def eqT (P:Program)(T:TypeId)(sh:List (Nat×Bool)):Prop:=
 P.underlying T=some (.struct (P.fieldsOf T))∧P.stoodInHeld T=false∧P.eqGuardType P.depth T=false∧eqSh P (P.fieldsOf T).toList=some sh
theorem MV {T:TypeId}{sh:List (Nat×Bool)}(h:eqT P T sh){xs ys:Array Value}(hok:(sh.all fun p=>Nb p.2 xs[p.1]? ys[p.1]?)=true) :
  (mEq .eql T xo yo (.agg xs) (.agg ys)).run P w=.ok (.value (.bool (sh.all fun p=>Gb xs[p.1]? ys[p.1]?))) w:=by
 obtain⟨h1,h2,h3,h4⟩:=h;refine bL ?_;rw[Sem.run_bind,run_eqGuard_agg w .eql T xo yo xs ys h3];simp only[Result.andThen_ok];rw[run_eql_struct,run_equalIn_struct w 9999 T xs ys h1 h2,FJ 9998 xs ys _ sh h4 hok];rfl
theorem MM {T:TypeId}{sh:List (Nat×Bool)}(h:eqT P T sh){xs ys:Array Value}(hok:(sh.all fun p=>Nb p.2 xs[p.1]? ys[p.1]?)=true) :
  (mEq .neq T xo yo (.agg xs) (.agg ys)).run P w=.ok (.value (.bool (!(sh.all fun p=>Gb xs[p.1]? ys[p.1]?)))) w:=by
 obtain⟨h1,h2,h3,h4⟩:=h;refine bL ?_;rw[Sem.run_bind,run_eqGuard_agg w .neq T xo yo xs ys h3];simp only[Result.andThen_ok];rw[run_neq_struct,run_equalIn_struct w 9999 T xs ys h1 h2,FJ 9998 xs ys _ sh h4 hok];rfl
end
end Eng
end
section
namespace Eng
open Go.RowKit
section
variable {P:Program}{C:World->Prop}{K:Value->Prop}
theorem afV {E:(Value->Prop)->Prop}:GQ (.bool true) true E K=E K:=propext ⟨fun x=>x.out,fun x=>⟨x⟩⟩
theorem adB {E:(Value->Prop)->Prop}:GQ (.bool false) true E K=K undef:=propext ⟨fun x=>x.out,fun x=>⟨x⟩⟩
theorem agN {E:(Value->Prop)->Prop}:GQ (.bool false) false E K=E K:=propext ⟨fun x=>x.out,fun x=>⟨x⟩⟩
theorem aeQ {E:(Value->Prop)->Prop}:GQ (.bool true) false E K=K undef:=propext ⟨fun x=>x.out,fun x=>⟨x⟩⟩
theorem acG {want:Bool}{E:(Value->Prop)->Prop}:GQ undef want E K=K undef:=propext ⟨fun x=>x.out,fun x=>⟨x⟩⟩
def gq:=And.intro @afV (And.intro @adB (And.intro @agN (And.intro @aeQ @acG)))
theorem qQ {T:TypeId}{k:IntKind}{b:Int}(h:K (.int k (k.wrap (a+b)))):QDo P C (mBin .add T (.int k a) (.int k b)) K:=q_do _ (fun _=>PW) h
theorem LU {T:TypeId}{k:IntKind}{b:Int}(h:K (.bool (decide (a < b)))):QDo P C (mBin .lss T (.int k a) (.int k b)) K:=q_do _ (fun _=>bL (by simp[binOp,Op.intCmp])) h
theorem Vk {T:TypeId}{k:IntKind}{b:Int}(h:K (.bool (decide (a<=b)))):QDo P C (mBin .leq T (.int k a) (.int k b)) K:=q_do _ (fun _=>bL (by simp[binOp,Op.intCmp])) h
theorem XL {T:TypeId}{k:IntKind}{b:Int}(h:K (.bool (decide (b < a)))):QDo P C (mBin .gtr T (.int k a) (.int k b)) K:=q_do _ (fun _=>bL (by simp[binOp,Op.intCmp])) h
theorem Zk {T:TypeId}{k:IntKind}{b:Int}(h:K (.bool (decide (b<=a)))):QDo P C (mBin .geq T (.int k a) (.int k b)) K:=q_do _ (fun _=>bL (by simp[binOp,Op.intCmp])) h
theorem q_eq {T:TypeId}{k:IntKind}{b:Int}(h:K (.bool (decide (a=b)))):QDo P C (mEq .eql T xo yo (.int k a) (.int k b)) K:=q_do _ (fun _=>bL (by simp[eqGuard,binOp,Op.intCmp,TR])) h
theorem WO {c:Bool}{a b:Value}(h:K (if c then a else b)):QDo P C (eS (.bool c) a b) K:=q_do _ (fun _=>by simp[eS,asBool]) h
theorem q_pt {a b:Value}(h:K a):QDo P C (eS (.bool true) a b) K:=WO h
theorem q_pf {a b:Value}(h:K b):QDo P C (eS (.bool false) a b) K:=WO h
theorem O9 {T:TypeId}{cs:Array Bool}{a:List UInt8}(ht:P.underlying T=some .string)(h:K (.int .i64 (a.length:Int))):QDo P C (mB .len #[T] U cs #[.string ⟨a.toArray⟩]) K:=q_do _ (fun _=>XY ht) h
theorem p_do {m:Sem Next}(v:Value)(h:∀w,m.run P w=.ok (.value v) w)(k:K v):PDo P m K:=⟨v,h,k⟩
theorem adG {T:TypeId}{k:IntKind}{b:Int}(hb:b≠0)(h:K (.int k (k.wrap (a.tdiv b)))):QDo P C (mBin .quo T (.int k a) (.int k b)) K:=q_do _ (fun _=>aeL hb) h
theorem q_ix {T:TypeId}{k:IntKind}{i:Int}{a:List UInt8}{c:UInt8}(ht:P.underlying T=some .string)(h0:0<=i)(hc:a[i.toNat]?=some c)(h:K (.int .u8 (c.toNat:Int))):QDo P C (mIx T (.string ⟨a.toArray⟩) (.int k i)) K:=q_do _ (fun _=>FL ht h0 hc) h
theorem Xb {T:TypeId}{a b:List UInt8}(h:K (.bool (decide (a≠b)))):QDo P C (mEq .neq T xo yo (.string ⟨a.toArray⟩) (.string ⟨b.toArray⟩)) K:=by
 refine q_do _ (fun _=>bL ?_) h;have e:(a==b)=decide (a=b):=by by_cases h:a=b<;>simp[h]
 simp[eqGuard,binOp,Op.stringOp,iP,e]
theorem bO {S:TypeId}{k:IntKind}{n:Int}(hs:(P.underlying S).isSome=true)(hd:P.underlying D=some (.int k')):(gL S D (.int k n)).run P w=.ok (.value (.int k' (k'.wrap n))) w:=by
 cases h:P.underlying S with
|none=>rw[h] at hs;cases hs
|some d=>exact bL (by simp[convert,run_underlying h,run_underlying hd,Conv.intToInt])
end
end Eng
end
section
namespace Eng
open Go.RowKit
theorem OwnS.perm {L':List Ent}(h:OwnS S w0 w L)(hp:L.Perm L'):OwnS S w0 w L':=
 ⟨h.grew,fun e he=>h.all e (hp.mem_iff.2 he),(hp.pairwise_iff (fun {x y} hxy k hy hx=>hxy k hx hy)).1 h.apart⟩
theorem OwnS.front {A B C:List Ent}(h:OwnS S w0 w (A++(B++C))):OwnS S w0 w (B++(A++C)):=
 h.perm (by rw[<-ahK,<-ahK];exact List.Perm.append_right C amW)
def Hx (L0:Loop)(lb df:Nat):List Ent:=[.obj lb (lp L0 .ready none),.obj df (.deferred (some []))]
def Seq (P:Program)(I:World->Prop)(f:Nat)(fa ca:Array Value)(F:List Ent)(vs:List Value):Prop:=
 ∀(S:Nat->Prop) (w0 w1:World) (L0:Loop) (lb df:Nat) (M0:List Ent) (R:Nat->List Ent->Prop) (K:Ending->World->Prop),
  (∀(L:List Ent) (W:World),OwnS S w0 W L->I W)->OwnS S w0 w1 (Hx L0 lb df++(M0++F))->R 0 M0 ->
  (∀(k:Nat) (v:Value) (M X:List Ent) (W:World),vs[k]?=some v->R k M->OwnS S w0 W (Hx L0 lb df++(M++X)) ->
   Yld P lb [v] W (fun r W'=>(r=.bool true∧∃M',R (k+1) M'∧OwnS S w0 W' (Hx L0 lb df++(M'++X)))∨(r=.bool false∧K (.returned (.tuple #[])) W'))) ->
  (∀(M X:List Ent) (W:World),R vs.length M->OwnS S w0 W (Hx L0 lb df++(M++X))->K (.returned (.tuple #[])) W) ->
  Calls P f (fa++#[.func (.yield lb) #[] #[]]++ca) w1 K
end Eng
end
section
namespace Eng
open Go.RowKit
def Ent.urow (T:TypeId)(sz:Nat)(v:Value)(n:Nat)(xs:List Value):Ent:=
 ⟨fun k=>v.ownBlock=some k,fun w=>w.ownsRow 0 T sz v n xs,fun {w w'} h k=>by
  refine⟨h.1,?_⟩;rcases h.2 with hn|⟨g,cap,cur,rfl,hb,hgg,rest⟩
  ·exact .inl hn
  ·exact .inr ⟨g,cap,cur,rfl,hb,(k g rfl).trans hgg,rest⟩,fun h k hk=>(World.ownsRowF.lt (World.ownsRowF_of h) k hk).2⟩
section
variable {S:Nat->Prop}{P:Program}{w:World}{PK:PKT}{K:VWP}
theorem urow_row {T:TypeId}{n:Nat}(h:(Ent.urow T sz v n xs).is w):(Ent.row T sz v n xs).is w:=World.ownsRowF_of h
theorem Sl.urow {T:TypeId}{sz:Nat}{v:Value}{n:Nat}{xs:List Value}(h:(Ent.urow T sz v n xs).is w):Sl w v sz n xs:=Sl.row (urow_row h)
theorem OwnS.slU (ho:OwnS S w0 w L)(i:Nat){T:TypeId}{n:Nat}(hi:L[i]?=some (.urow T sz v n xs)):Sl w v sz n xs:=Sl.urow (ho.at_ i hi)
theorem OwnS.nilU (ho:OwnS S w0 w L)(E:TypeId)(sz:Nat):OwnS S w0 w (.urow E sz (.slice none 0 0) 0 []::L):=by
 refine⟨ho.grew,fun e he=>?_,.cons (fun f hf k hk=>by simp[Ent.urow,Value.ownBlock] at hk) ho.apart⟩;rcases ahG.1 he with rfl|he
 ·exact⟨⟨sm,.inl ⟨rfl,rfl⟩⟩,fun k hk=>by simp[Ent.urow,Value.ownBlock] at hk⟩
 ·exact ho.all e he
theorem OwnS.toU {E:TypeId}(ho:OwnS S w0 w (.cells b cs E::L))(sz n cap:Nat)(hl:cs.length=cap*sz)(hn:n<=cap)(hc:cap<=9223372036854775807) :
  OwnS S w0 w (.urow E sz (.slice (some ⟨b,0,none⟩) n cap) n (cs.take (n*sz))::L):=by
 refine⟨ho.grew,fun e he=>?_,?_⟩
 ·rcases ahG.1 he with rfl|he
  ·refine⟨⟨by rw[ahE,hl,aiH (aiO _ hn)],.inr ⟨b,cap,cs.toArray,rfl,ahW _,ho.at_ 0 rfl,hn,by simp only[maxLen];omega,by simpa using hl,sm⟩⟩,fun k hk=>?_⟩;simp only[Ent.urow,Value.ownBlock,akR] at hk;exact (ho.all (.cells b cs E) sm).2 k hk.symm
  ·exact ho.all e (by simp[he])
 ·refine .cons (fun f hf k hk=>?_) (ajF.1 ho.apart).2;simp only[Ent.urow,Value.ownBlock,akR] at hk;exact (ajF.1 ho.apart).1 f hf k hk.symm
theorem yJ {T E:TypeId}{cs:Array Bool}{bytes n:Nat}(ht:P.underlying T=some (.slice E))(he:elB P E sz bytes=true)(hsz:0 < sz)
  (hown:w.ownsRow 0 E sz v n xs) (hs:Sl w v2 sz m news) (h1:∀u∈news,u.oneCell'=true) (hb:(n+m)*bytes<=140737488355328) (hb2:n+m<=140737488355328) :
  ∃v' w',(mB .append #[T,T] U cs #[v,v2]).run P w=.ok (.value v') w'∧Turn (.urow E sz v n xs) (.urow E sz v' (n+m) (xs++news)) w w':=by
 obtain⟨v',w',r,t⟩:=Ad (P:=P) (U:=U) (cs:=cs) ht he hsz (World.ownsRowF_of hown) hs h1 hb hb2;refine⟨v',w',r,t.grew,?_,t.new⟩;obtain⟨i,z,hi,hz,hi1,hi2,hz1⟩:=jC he;obtain⟨hl,a,cap,rfl,hn,hc⟩:=hs;have hmx:n+m<=maxLen:=by simp only[maxLen];omega
 cases a with
|some p=>
  have hh:∀j u,news[j]?=some u->w.cell? (p.add j)=some u:=by
   intro j u hj;have hlt:j < news.length:=(ahQ.1 hj).1;have hm:0 < m:=by
    rcases ajV m with h0|h0
    ·subst h0;simp at hl;rw[hl] at hlt;simp at hlt
    ·exact h0
   obtain⟨hsp,hcell⟩:=hc p rfl;have:=hsp hm;obtain⟨b,off,spot⟩:=p;simp only at this hcell;subst this;rw[cC];exact hcell j u hj
  obtain⟨v2,w2,r1,r2,r3,r4⟩:=run_append_own (P:=P) w 0 T U E i z sz bytes ht hi hz hi1 hi2 hz1 hsz v n xs hown p m cap news hl hh h1 hmx hb (ahW _);have:(mB .append #[T,T] U cs #[v,.slice (some p) m cap]).run P w=.ok (.value v2) w2:=by simp[mB,builtin,r1]
  rw[this] at r;cases r;exact r2
|none=>
  have h0:=hn rfl;subst h0;have hnil:news=[]:=akY (by simpa using hl);subst hnil;have:(mB .append #[T,T] U cs #[v,.slice none 0 cap]).run P w=.ok (.value v) w:=by
   rcases hown.2 with ⟨rfl,rfl⟩|⟨g,cp,cur,rfl,_,_,hnc,_⟩
   ·simp[mB,builtin,Builtin.append_,run_underlying ht,sizeOf,typeInfo,hi,Builtin.lenOf,Builtin.firstCells]
   ·simp[mB,builtin,Builtin.append_,run_underlying ht,sizeOf,typeInfo,hi,Builtin.lenOf,Builtin.firstCells,hnc,storeCells]
  rw[this] at r;cases r;rw[ahV];exact hown
theorem cL (i:Nat){T E:TypeId}{cs:Array Bool}{bytes n:Nat}(ht:P.underlying T=some (.slice E))(he:elB P E sz bytes=true)(hsz:0 < sz)
  (ho:OwnS S w0 w L) (hi:L[i]?=some (.urow E sz v n xs)) (hs:Sl w v2 sz m news) (h1:∀u∈news,u.oneCell'=true) (hb:(n+m)*bytes<=140737488355328) (hb2:n+m<=140737488355328)
  (k:∀v' w',OwnS S w0 w' (L.set i (.urow E sz v' (n+m) (xs++news)))->K v' w'):DoX P (mB .append #[T,T] U cs #[v,v2]) w PK K:=by
 obtain⟨v',w',r,t⟩:=yJ (cs:=cs) (U:=U) ht he hsz (ho.at_ i hi) hs h1 hb hb2;exact jU r (k _ _ (ho.turn i hi t))
theorem oN {E:TypeId}{n:Nat}(h:(Ent.urow E sz v n xs).is w)(hn:0 < n):∃g cap,v=.slice (some ⟨g,0,none⟩) n cap:=by
 rcases (show w.ownsRow 0 E sz v n xs from h).2 with ⟨_,h0⟩|⟨g,cap,cur,rfl,_⟩
 ·omega
 ·exact⟨g,cap,rfl⟩
theorem Et {T:TypeId}{g off:Nat}{cur:Array Value}{E:TypeId}{u:Value}(hc:u.cells=new.toArray)(hs:(P.info? T).map (·.size)=some new.length)(h1:∀x∈new,x.oneCell'=true)
  (hg:w.heap[g]?=some (.cells cur E (0,0))) (hl:off+new.length<=cur.size) :
  (Instr.storeAt T (.pointer (some ⟨g,off,none⟩)) u).run P w=.ok () (w.setRow g (cur.toList.take off++new++cur.toList.drop (off+new.length)).toArray):=by
 have hst:=run_storeCells_at P g off E new 0 cur w hg (by simpa using hl) h1;obtain⟨i,hi,h2⟩:=ajN.1 hs;simp only[aiZ] at hst;simp[Instr.storeAt,Instr.sureAddr,storeVar,hc,sizeOf,typeInfo,hi,h2,hst]
theorem Cb (i:Nat){T E:TypeId}{g off n:Nat}{u:Value}(ho:OwnS S w0 w L)(hi:L[i]?=some (.urow E sz (.slice (some ⟨g,0,none⟩) n cap) n xs))
  (hc:u.cells=new.toArray) (hs:(P.info? T).map (·.size)=some new.length) (h1:∀x∈new,x.oneCell'=true) (hl:off+new.length<=n*sz)
  (k:∀w',OwnS S w0 w' (L.set i (.urow E sz (.slice (some ⟨g,0,none⟩) n cap) n (xs.take off++new++xs.drop (off+new.length))))->K undef w'):DoX P (aS T (.pointer (some ⟨g,off,none⟩)) u) w PK K:=by
 have hown:w.ownsRow 0 E sz (.slice (some ⟨g,0,none⟩) n cap) n xs:=ho.at_ i hi;rcases hown.2 with ⟨h0,_⟩|⟨g',cap',cur,he,hb,hg,hnc,hcm,hcs,htake⟩
 ·cases h0
 cases he;have hle:n*sz<=cur.size:=by rw[hcs];exact aiO _ hnc
 refine DF (IC (Et hc hs h1 hg om)) (k _ ?_);refine ho.put i hi (w':=w.setRow g _) ⟨rfl,rfl,rfl,by simp[World.setRow],fun k _ hk=>setRow_other w g k _ (fun e=>hk (by simp[Ent.urow,Value.ownBlock,e]))⟩ _ ?_ (fun k hk=>.inl hk);have hxl:=hown.1;have hcl:cur.toList.length=cap*sz:=by simpa using hcs
 refine⟨by simp only[agZ,ahE,ahL];omega,.inr ⟨g,cap,_,rfl,hb,setRow_heap w g cur _ E (0,0) hg,hnc,hcm,?_,?_⟩⟩
 ·simp only[List.size_toArray,agZ,ahE,ahL];omega
 ·subst htake;rw[alM,aiH om];simp only[ahK];rw[aoF,aoF,aiF (l:=cur.toList.take off) (by simp;omega),aiF (l:=new) (by simp;omega)]
  congr 2
  rw[ahE,aiH om,List.drop_take]
  congr 1
  omega
end
end Eng
end
section
open Eng Go.RowKit
theorem J6 {n:Int}(h:(Lit.int .u8 n).wf=true):0<=n∧n<=255:=by
 simp only[Lit.wf,ahR,aiI] at h;exact h
end
section
open Eng Go.RowKit Go.ChangeShapes Go.WideShapes
inductive Ob where
|mk (k n g:Int) (s:List UInt8) (keys:List (List UInt8)) (kids:List Ob)
namespace Ob
def k:Ob->Int|.mk k _ _ _ _ _=>k
def n:Ob->Int|.mk _ n _ _ _ _=>n
def g:Ob->Int|.mk _ _ g _ _ _=>g
def s:Ob->List UInt8|.mk _ _ _ s _ _=>s
def keys:Ob->List (List UInt8)|.mk _ _ _ _ keys _=>keys
def kids:Ob->List Ob|.mk _ _ _ _ _ kids=>kids
 mutual
def wt:Ob->Nat
|.mk _ _ _ s keys kids=>6+s.length+Pl.tot keys+wts kids
def wts:List Ob->Nat
|[]=>0
|o::os=>wt o+wts os
end
end Ob
def SlA (A:Nat->Prop)(w:World)(v:Value)(sz n:Nat)(cs:List Value):Prop:=Sl w v sz n cs∧(∀p l c,v=.slice (some p) l c->0 < n->A p.block)∧∀a l c,v=.slice a l c->l<=c
 mutual
def OV (A:Nat->Prop)(w:World):Value->Ob->Prop
|v,.mk k n g s keys kids=>∃vk vc cs,v=.agg #[.int .i64 k,.int .i64 n,.int .i64 g,.string ⟨s.toArray⟩,vk,vc]∧SlA A w vk 1 keys.length (bG keys)∧SlA A w vc 6 kids.length cs∧OVs A w cs kids
def OVs (A:Nat->Prop)(w:World):List Value->List Ob->Prop
|cs,[]=>cs=[]
|cs,o::os=>∃(a rest:List Value),cs=a++rest∧a.length=6∧OV A w (.agg a.toArray) o∧OVs A w rest os
end
def Kept (A:Nat->Prop)(w w':World):Prop:=∀b,A b->w'.heap[b]?=w.heap[b]?
theorem Tz (h:Kept A w w'){p:Addr}(hp:A p.block)(hc:w.cell? p=some v):w'.cell? p=some v:=by
 have:=h p.block hp;unfold World.cell? at hc ⊢;rw[this];exact hc
theorem SlA.kept {n:Nat}(h:SlA A w v sz n cs)(hk:Kept A w w'):SlA A w' v sz n cs:=by
 obtain⟨⟨hl,a,cap,rfl,h1,h2⟩,hA,hC⟩:=h;refine⟨⟨hl,a,cap,rfl,h1,fun p hp=>?_⟩,hA,hC⟩;obtain⟨h3,h4⟩:=h2 p hp;refine⟨h3,fun j u hj=>?_⟩;have hn:0 < n:=by
  rcases ajV n with h|h
  ·subst h;rw[akD] at hl;have:=(ahQ.1 hj).1;omega
  ·exact h
 exact Tz hk (hA p n cap (by rw[hp]) hn) (h4 j u hj)
 mutual
theorem OV.kept {A:Nat->Prop}{w w':World}(hk:Kept A w w'):∀(o:Ob) (v:Value),OV A w v o->OV A w' v o
|.mk k n g s keys kids,v,h=>by
  rw[OV] at h ⊢;obtain⟨vk,vc,cs,hv,h1,h2,h3⟩:=h;exact⟨vk,vc,cs,hv,h1.kept hk,h2.kept hk,OVs.kept hk kids cs h3⟩
theorem OVs.kept {A:Nat->Prop}{w w':World}(hk:Kept A w w'):∀(os:List Ob) (cs:List Value),OVs A w cs os->OVs A w' cs os
|[],cs,h=>by rw[OVs] at h ⊢;exact h
|o::os,cs,h=>by
  rw[OVs] at h ⊢;obtain⟨a,rest,he,hl,h1,h2⟩:=h;exact⟨a,rest,he,hl,OV.kept hk o _ h1,OVs.kept hk os rest h2⟩
end
 mutual
theorem OV.mono {A B:Nat->Prop}{w:World}(hAB:∀b,A b->B b):∀(o:Ob) (v:Value),OV A w v o->OV B w v o
|.mk k n g s keys kids,v,h=>by
  rw[OV] at h ⊢;obtain⟨vk,vc,cs,hv,h1,h2,h3⟩:=h;exact⟨vk,vc,cs,hv,⟨h1.1,fun p l c e hn=>hAB _ (h1.2.1 p l c e hn),h1.2.2⟩,⟨h2.1,fun p l c e hn=>hAB _ (h2.2.1 p l c e hn),h2.2.2⟩,OVs.mono hAB kids cs h3⟩
theorem OVs.mono {A B:Nat->Prop}{w:World}(hAB:∀b,A b->B b):∀(os:List Ob) (cs:List Value),OVs A w cs os->OVs B w cs os
|[],cs,h=>by rw[OVs] at h ⊢;exact h
|o::os,cs,h=>by
  rw[OVs] at h ⊢;obtain⟨a,rest,he,hl,h1,h2⟩:=h;exact⟨a,rest,he,hl,OV.mono hAB o _ h1,OVs.mono hAB os rest h2⟩
end
theorem OVs.len {A:Nat->Prop}{w:World}:∀(os:List Ob) (cs:List Value),OVs A w cs os->cs.length=os.length*6
|[],cs,h=>by rw[OVs] at h;subst h;rfl
|o::os,cs,h=>by
  rw[OVs] at h;obtain⟨a,rest,rfl,hl,_,h2⟩:=h;rw[agZ,hl,OVs.len os rest h2,ahU];omega
theorem OVs.get {A:Nat->Prop}{w:World}:∀(os:List Ob) (cs:List Value) (i:Nat) (hi:i < os.length),OVs A w cs os->∃a:List Value,a.length=6∧OV A w (.agg a.toArray) os[i]∧∀j v,a[j]?=some v->cs[i*6+j]?=some v
|[],cs,i,hi,h=>by simp at hi
|o::os,cs,0,hi,h=>by
  rw[OVs] at h;obtain⟨a,rest,rfl,hl,h1,h2⟩:=h;refine⟨a,hl,h1,fun j v hj=>?_⟩;rw[akD,ahJ,ajA (ahQ.1 hj).1];exact hj
|o::os,cs,i+1,hi,h=>by
  rw[OVs] at h;obtain⟨a,rest,rfl,hl,h1,h2⟩:=h;obtain⟨b,hb,hv,hc⟩:=OVs.get os rest i (by simpa using hi) h2;refine⟨b,hb,hv,fun j v hj=>?_⟩;rw[ajO om,hl,show (i+1)*6+j - 6=i*6+j by omega];exact hc j v hj
theorem OVs.nil :OVs A w [] []:=by rw[OVs]
theorem SlA.JD {a:Addr}{len:Nat}(hsz:0 < sz)(hl:cs.length=len*sz)(hc:∀j u,cs[j]?=some u->W.cell? (a.add j)=some u)(hA:∀b,b < W.heap.size->A b)(hlc:len<=cap):SlA A W (.slice (some a) len cap) sz len cs:=by
 have plain:0 < len->a.spot=none∧a.block < W.heap.size:=by
  intro hn;have h0:0 < cs.length:=by rw[hl];exact Nat.mul_pos hn hsz
  have h1:=hc 0 cs[0] (ahH h0);have e0:a.add 0=a:=by simp[Addr.add]
  rw[e0] at h1;unfold World.cell? at h1;split at h1
  ·rename_i hb
   have hlt:=dR hb;split at h1
   ·cases h1
   ·rename_i hh;exact⟨by simpa using hh,hlt⟩
  ·cases h1
 refine⟨⟨hl,some a,cap,rfl,(fun h=>by cases h),fun p hp=>?_⟩,fun p l c e hn=>?_,fun a' l c e=>by injection e with _ e2 e3;omega⟩
 ·cases hp;refine⟨fun h=>(plain h).1,fun j u hj=>?_⟩;have hn:0 < len:=by
   rcases ajV len with h|h
   ·subst h;rw[akD] at hl;have:=(ahQ.1 hj).1;omega
   ·exact h
  have h1:=hc j u hj;obtain⟨b,off,spot⟩:=a;have:=(plain hn).1;simp only at this;subst this;rw[show (⟨b,off,none⟩:Addr).add j=⟨b,off+j,none⟩ from cC b off j] at h1;exact h1
 ·injection e with e _ _
  cases e;exact hA _ (plain hn).2
theorem SlA.nil (A:Nat->Prop)(w:World)(sz cap:Nat):SlA A w (.slice none 0 cap) sz 0 []:=⟨Sl.nil w sz cap,(fun p l c e _=>by injection e with e _ _;cases e),fun a l c e=>by injection e with _ e2 e3;omega⟩
end
section
open Eng Go.RowKit Go.ChangeShapes Go.WideShapes
theorem qN {H:Type}:∀(a b:List (DataW H)),Rows.uptoBulkAll (a++b)=Rows.uptoBulkAll a+Rows.uptoBulkAll b
|[],b=>by simp[Rows.uptoBulkAll]
|x::a,b=>by rw[akU,Rows.uptoBulkAll,qN a b,Rows.uptoBulkAll];omega
theorem Lu {H:Type}:∀ss:List ByteArray,Rows.uptoBulkAll (strs (H:=H) ss)=Pl.tot (ss.map (·.data.toList))
|[]=>by simp[strs,Rows.uptoBulkAll,Pl.tot]
|s::ss=>by
  have:=Lu (H:=H) ss;rw[show strs (H:=H) (s::ss)=.lit (.string s.data.toList)::strs ss from rfl,Rows.uptoBulkAll,this,Rows.uptoBulk];simp[Pl.tot]
theorem OVs.snoc {A:Nat->Prop}{w:World}{a:List Value}{o:Ob}(hl:a.length=6)(ho:OV A w (.agg a.toArray) o):∀(os:List Ob) (cs:List Value),OVs A w cs os->OVs A w (cs++a) (os++[o])
|[],cs,h=>by
  rw[OVs] at h;subst h;rw[aiM,aiM,OVs];exact⟨a,[],sm,hl,ho,OVs.nil⟩
|p::os,cs,h=>by
  rw[OVs] at h;obtain⟨b,rest,rfl,hb,h1,h2⟩:=h;rw[akU,OVs];exact⟨b,rest++a,sm,hb,h1,OVs.snoc hl ho os rest h2⟩
theorem Nd (o:Ob):∀os:List Ob,Ob.wts (os++[o])=Ob.wts os+o.wt
|[]=>by simp[Ob.wts]
|p::os=>by rw[akU,Ob.wts,Nd o os,Ob.wts];omega
theorem NZ (a:Addr)(m n:Nat):(a.add m).add n=a.add (m+n):=by
 unfold Addr.add;by_cases hm:m=0
 ·subst hm;simp
 ·by_cases hn:n=0
  ·subst hn;simp[hm]
  ·have:¬(m+n=0):=om
   simp[hm,hn,akL]
theorem Z7 {α:Type}:∀{l:List α},l.length=6->∃a b c d e f,l=[a,b,c,d,e,f]
|[a,b,c,d,e,f],_=>⟨a,b,c,d,e,f,rfl⟩
section
variable {H:Type}{enc:TypeId×Value->H}{W:World}{sp:Nat->Bool}{held:Bool}
abbrev InW (W:World):Nat->Prop:=fun b=>b < W.heap.size
theorem QP {x:DataW H×List MemPlace}(h:DataW.trod enc prog W 0 sp held fuel 22 cs=some x) :
  ∃(v:Value) (zs:List (List UInt8)),cs=[v]∧SlA (InW W) W v 1 zs.length (bG zs)∧Pl.tot zs+1<=Rows.uptoBulk x.1:=by
 rcases open_strings ahM ahF krx h with ⟨rfl,rfl⟩|⟨a,len,cap,ss,rfl,_,hl,hm,hz,rfl,hcell,hsz⟩
 ·exact⟨_,[],rfl,SlA.nil _ _ _ _,by simp[Pl.tot,Rows.uptoBulk]⟩
 ·have hlz:len<=ss.length:=by rw[hz];split<;>omega
  refine⟨_,(ss.take len).map (·.data.toList),rfl,?_,?_⟩
  ·have hlen:((ss.take len).map (·.data.toList)).length=len:=by simp;omega
   rw[hlen];refine SlA.JD om (by simp[bG];omega) (fun j u hj=>?_) (fun b hb=>hb) hl;have hjl:j < len:=by
    have:=(ahQ.1 hj).1;simp[bG] at this;omega
   rw[hcell j om,<-hj];simp[bG,strV,ajT,hjl,List.getD,ahH (show j < ss.length by omega)]
  ·simp only[Rows.uptoBulk];rw[Lu];omega
set_option maxRecDepth 100000 in
theorem VZ:∀(fuel:Nat) (cs:List Value) (x:DataW H×List MemPlace),DataW.trod enc prog W 0 sp held fuel 25 cs=some x ->
  ∃o:Ob,OV (InW W) W (.agg cs.toArray) o∧o.wt<=Rows.uptoBulk x.1∧cs.length=6:=by
 intro fuel
 induction fuel using Nat.strongRecOn with
|_ fuel ih=>
  intro cs x h;obtain⟨xs,n,rfl,rfl,hl,hxl,hf⟩:=DataW.trod_struct Tryz.underlying25 h;have c6:Tryz.prog.cellsOf 25=6:=krx
  rw[c6] at hl;have hxl:xs.length=6:=hxl;obtain⟨x0,x1,x2,x3,x4,x5,rfl⟩:=Z7 hxl;obtain⟨v0,v1,v2,v3,v4,v5,rfl⟩:=Z7 hl;have e0:=hf 0 _ rfl;have e1:=hf 1 _ rfl;have e2:=hf 2 _ rfl;have e3:=hf 3 _ rfl;have e4:=hf 4 _ rfl;have e5:=hf 5 _ rfl;have k0:Tryz.prog.cellsOf 3=1:=krx
  have k1:Tryz.prog.cellsOf 2=1:=krx
  have k3:Tryz.prog.cellsOf 9=1:=krx
  have k4:Tryz.prog.cellsOf 22=1:=krx
  have k5:Tryz.prog.cellsOf 23=1:=krx
  simp only[k0,k1,k3,k4,k5,ajL,aoG,amE,akS,amD,aiP] at e0 e1 e2 e3 e4 e5;obtain⟨k,hk,rfl,_⟩:=DataW.trod_int aiX e0;obtain⟨m,hm,rfl,_⟩:=DataW.trod_int Tryz.underlying2 e1;obtain⟨g,hg,rfl,_⟩:=DataW.trod_int aiX e2;obtain⟨s,hs,rfl,_⟩:=DataW.trod_string ahF e3;obtain⟨vk,zs,hvk,hsk,hbk⟩:=QP e4
  injection hk with hk _
  injection hm with hm _
  injection hg with hg _
  injection hs with hs _
  injection hvk with hvk _
  subst hk;subst hm;subst hg;subst hs;subst hvk;have kids:∃(cs:List Value) (os:List Ob),SlA (InW W) W v5 6 os.length cs∧OVs (InW W) W cs os∧Ob.wts os+1<=Rows.uptoBulk x5.1:=by
   rcases DataW.trod_slice ahN e5 with ⟨hc,rfl⟩|⟨a,len,cap,elems,rest,n',rfl,hc,rfl,_,hlc,hcm,hel,hat,_,_⟩
   ·injection hc with hc _
    subst hc;exact⟨[],[],SlA.nil _ _ _ _,OVs.nil,by simp[Ob.wts,Rows.uptoBulk]⟩
   ·injection hc with hc _
    subst hc;rw[c6] at hat;have step:∀k,k<=len->∃(cs:List Value) (os:List Ob),os.length=k∧OVs (InW W) W cs os∧(∀j u,cs[j]?=some u->W.cell? (a.add j)=some u)∧Ob.wts os<=Rows.uptoBulkAll ((elems.take k).map (·.1)):=by
     intro k
     induction k with
    |zero=>intro _;exact⟨[],[],rfl,OVs.nil,(fun j u hj=>by simp at hj),by simp[Ob.wts,Rows.uptoBulkAll]⟩
    |succ k ihk=>
      intro hk;obtain⟨cs,os,h1,h2,h3,h4⟩:=ihk om;have hki:k < elems.length:=om
      have hb:=hat k om;rw[ahH hki,alX] at hb;obtain⟨ck,hck,htr⟩:=hb;obtain⟨o,ho,hw,hlo⟩:=ih n' om ck _ htr;have hcsl:=OVs.len os cs h2;refine⟨cs++ck,os++[o],by simp[h1],OVs.snoc hlo ho os cs h2,fun j u hj=>?_,?_⟩
      ·rcases ahY j cs.length with hj1|hj1
       ·rw[ajA hj1] at hj;exact h3 j u hj
       ·rw[ajO hj1] at hj;have hj6:j - cs.length < 6:=by
         have:=(ahQ.1 hj).1;omega
        have:=(World.cells?_some hck).2.2 (j - cs.length) hj6;rw[<-hj,<-this,NZ,show k*6+(j - cs.length)=j by omega]
      ·rw[Nd,aiG hki,aiN,qN];simp only[aiW,alI,Rows.uptoBulkAll];omega
    obtain⟨cs,os,h1,h2,h3,h4⟩:=step len (ahD _);have hcsl:=OVs.len os cs h2;refine⟨cs,os,?_,h2,?_⟩
    ·rw[h1];exact SlA.JD om (by rw[hcsl,h1]) h3 (fun b hb=>hb) hlc
    ·rw[<-hel,ajG] at h4;simp only[Rows.uptoBulk];omega
  obtain⟨cs,os,hsl,hov,hbo⟩:=kids;refine⟨.mk k m g s.data.toList zs os,?_,?_,rfl⟩
  ·rw[OV];exact⟨_,_,cs,rfl,hsk,hsl,hov⟩
  ·simp only[Ob.wt,Rows.uptoBulk,aiW,alI,Rows.uptoBulkAll];omega
end
end
section
namespace Eng
open Go.RowKit
structure Mem where
 A:Nat->Prop
 w:World
 lt:∀b,A b->b < w.heap.size
def Mem.has (M:Mem)(w:World):Prop:=∀b,M.A b->w.heap[b]?=M.w.heap[b]?
structure Mem.le (M N:Mem):Prop where
 A:∀b,M.A b->N.A b
 has:M.has N.w
def Mem.all (w:World):Mem:=⟨fun b=>b < w.heap.size,w,fun _ h=>h⟩
theorem Mem.Y6 (w:World):(Mem.all w).has w:=fun _ _=>rfl
theorem Mem.le_refl (M:Mem):M.le M:=⟨fun _ h=>h,fun _ _=>rfl⟩
theorem Mem.le_trans {M N O:Mem}(h:M.le N)(k:N.le O):M.le O:=⟨fun b hb=>k.A b (h.A b hb),fun b hb=>(k.has b (h.A b hb)).trans (h.has b hb)⟩
theorem Mem.Lo {M N:Mem}(h:M.le N)(k:N.has w):M.has w:=fun b hb=>(k b (h.A b hb)).trans (h.has b hb)
theorem Mem.bd {M:Mem}(h:M.has w)(hb:M.A b):b < w.heap.size:=by
 have h1:=h b hb;rw[Array.getElem?_eq_getElem (M.lt b hb)] at h1;exact dR h1
theorem Mem.LB {M:Mem}(h:M.has w)(k:Below w.heap.size w w'):M.has w':=fun b hb=>(k.block b (Mem.bd h hb)).trans (h b hb)
def Ent.mem (M:Mem):Ent:=⟨M.A,M.has,fun h k b hb=>(k b hb).trans (h b hb),fun h k hk=>Mem.bd h hk⟩
structure Gives (M:Mem) (w w':World) (N:Mem):Prop where
 le:M.le N
 has:N.has w'
 new:∀b,N.A b->M.A b∨w.heap.size<=b
 below:Below w.heap.size w w'
def RetM (P:Program)(f:Nat)(args:Array Value)(M:Mem)(w:World)(R:Value->Mem->Prop):Prop:=Ret P f args w (fun v w'=>∃N,Gives M w w' N∧R v N)
theorem RetM.mono {P:Program}{f:Nat}{args:Array Value}{M:Mem}{w:World}{R R':Value->Mem->Prop}(h:RetM P f args M w R)(k:∀v N,M.le N->R v N->R' v N):RetM P f args M w R':=
 Ret.mono h fun v w' ⟨N,g,r⟩=>⟨N,g,k v N g.le r⟩
section
variable {S:Nat->Prop}{P:Program}{w w0:World}{L:List Ent}{PK:PKT}{K:VWP}
theorem OwnS.memS {M:Mem}(h:M.has w):OwnS M.A w w [.mem M]:=OwnS.lend (e:=.mem M) h
theorem OwnS.hasM {M:Mem}(ho:OwnS S w0 w L)(i:Nat)(hi:L[i]?=some (.mem M)):M.has w:=ho.at_ i hi
theorem OwnS.acZ {M N:Mem}(ho:OwnS S w0 w L)(i:Nat)(hi:L[i]?=some (.mem M))(g:Gives M w w' N):OwnS S w0 w' (L.set i (.mem N)):=
 ho.turn i hi ⟨Ia g.below,g.has,g.new⟩
theorem OwnS.Xm {M0 N:Mem}(ho:OwnS M0.A w w' L)(i:Nat)(hi:L[i]?=some (.mem N))(hle:M0.le N)(h0:M0.has w):Gives M0 w w' N:=by
 have hm:=ho.all (.mem N) (akM hi);refine⟨hle,hm.1,fun b hb=>hm.2 b hb,ho.grew.os,ho.grew.tape,ho.grew.output,ho.grew.size,fun k hk=>?_⟩;by_cases hA:M0.A k
 ·rw[h0 k hA];have h1:w'.heap[k]?=N.w.heap[k]?:=hm.1 k (hle.A k hA);rw[h1];exact hle.has k hA
 ·exact ho.grew.block k hk hA
theorem aT {M:Mem}{R:Value->Mem->Prop}(hM:M.has w)
  (h:∀K:Ending->World->Prop,(∀(v:Value) (w':World) (N:Mem) (L:List Ent) (i:Nat),OwnS M.A w w' L->L[i]?=some (.mem N)->M.le N->R v N->K (.returned v) w')->Calls P f args w K):RetM P f args M w R:=
 aP fun K hK=>h K fun v w' N L i ho hi hle hr=>hK v w' ⟨N,ho.Xm i hi hle hM,hr⟩
theorem bF {M:Mem}{R:Value->Mem->Prop}(ho:OwnS S w0 w L)(i:Nat)(hi:L[i]?=some (.mem M))(h:RetM P f args M w R)
  (k:∀v N w',M.le N->R v N->OwnS S w0 w' (L.set i (.mem N))->K v w'):CallX P f args w PK K:=
 B5 h fun v w' ⟨N,g,r⟩=>k v N w' g.le r (ho.acZ i hi g)
theorem OwnS.freeze {M:Mem}(ho:OwnS S w0 w (e::L))(i:Nat)(hi:L[i]?=some (.mem M)) :
  ∃N:Mem,M.le N∧N.w=w∧(∀b,e.blk b->N.A b)∧OwnS S w0 w (L.set i (.mem N)):=by
 have he:=ho.all e sm;have hM:M.has w:=ho.at_ (i+1) (by simpa using hi);have hlt:∀b,M.A b∨e.blk b->b < w.heap.size:=fun b hb=>hb.elim (fun h=>Mem.bd hM h) (fun h=>e.lt he.1 b h)
 let N:Mem:=⟨fun b=>M.A b∨e.blk b,w,hlt⟩
 have hil:i < L.length:=(ahQ.1 hi).1;have hie:L[i]=.mem M:=(ahQ.1 hi).2;obtain⟨a1,a2⟩:=ajF.1 ho.apart;have hp:=alL.1 a2;have bM:∀k,M.A k->(L[i]).blk k:=fun k hk=>by rw[hie];exact hk
 refine⟨N,⟨fun b hb=>.inl hb,hM⟩,rfl,fun b hb=>.inr hb,ho.grew,?_,?_⟩
 ·intro f hf;obtain⟨j,hj,rfl⟩:=akH hf;rw[ajM] at hj;rw[amS];split
  ·refine⟨fun b _=>rfl,fun k hk=>?_⟩;rcases hk with hk|hk
   ·exact (ho.all (.mem M) (by rw[<-hie];exact aiB _ (ahP hil))).2 k hk
   ·exact he.2 k hk
  ·exact ho.all _ (aiB _ (ahP hj))
 ·rw[alL];intro a b ha hb hab k hk;rw[ajM] at ha hb;rw[amS] at hk;rw[amS];split at hk
  ·rename_i hia
   subst hia;rw[agV om];rcases hk with hk|hk
   ·exact hp i b ha hb hab k (bM k hk)
   ·exact a1 _ (ahP hb) k hk
  ·split
   ·rename_i hib
    subst hib;intro hk';rcases hk' with hk'|hk'
    ·exact hp a i ha hb hab k hk (bM k hk')
    ·exact a1 _ (ahP ha) k hk' hk
   ·exact hp a b ha hb hab k hk
end
end Eng
open Eng Go.RowKit
theorem SlA.le {M N:Mem}(h:M.le N){v:Value}{sz n:Nat}{cs:List Value}(hs:SlA M.A M.w v sz n cs):SlA N.A N.w v sz n cs:=by
 have:=hs.kept (w':=N.w) h.has;exact⟨this.1,(fun p l c e hn=>h.A _ (this.2.1 p l c e hn)),this.2.2⟩
theorem SlA.now {M:Mem}(h:M.has w){n:Nat}(hs:SlA M.A M.w v sz n cs):Sl w v sz n cs:=(hs.kept (w':=w) h).1
theorem OV.le {M N:Mem}(h:M.le N){v:Value}{o:Ob}(hv:OV M.A M.w v o):OV N.A N.w v o:=OV.mono h.A o v (OV.kept h.has o v hv)
theorem OVs.le {M N:Mem}(h:M.le N){cs:List Value}{os:List Ob}(hv:OVs M.A M.w cs os):OVs N.A N.w cs os:=OVs.mono h.A os cs (OVs.kept h.has os cs hv)
theorem OV.inw {M:Mem}(h:M.has w){o:Ob}(hv:OV M.A M.w v o):OV (InW w) w v o:=OV.mono (fun b hb=>Mem.bd h hb) o v (OV.kept h o v hv)
end
section
namespace Eng
open Go.RowKit
section
variable {S:Nat->Prop}{P:Program}{w w0:World}{L:List Ent}{PK:PKT}{K:VWP}
theorem Wh {T E:TypeId}{a:Option Addr}{n c n' c':Nat}(h:P.underlying T=some (.slice E)):DoX P (mEq .eql T xo yo (.slice a n c) (.slice none n' c')) w PK K=K (.bool a.isNone) w:=by
 refine fJ ?_;simp[eqGuard,Lib.run_eql_slice_nil w T E a n c n' c' h]
theorem Z6 {T E:TypeId}{a:Option Addr}{n c n' c':Nat}(h:P.underlying T=some (.slice E)):DoX P (mEq .neq T xo yo (.slice a n c) (.slice none n' c')) w PK K=K (.bool (!a.isNone)) w:=by
 refine fJ ?_;have:=Lib.run_equalIn_slice_nil (P:=P) w 9999 T E a n c n' c' h;simp[eqGuard,binOp,Op.equal,Op.maxDepth,this]
def subA (a:Option Addr)(l cap sz:Nat):Option Addr:=if cap=l then a else a.map (·.add (l*sz))
theorem fC {off l:Nat}(h:l < cap):subA (some ⟨b,off,none⟩) l cap sz=some ⟨b,off+l*sz,none⟩:=by
 unfold subA;rw[agV om,amV,cC]
theorem Ey {a:Addr}:subA (some ⟨a.block,a.off,none⟩) 0 cap sz=some ⟨a.block,a.off,none⟩:=by
 unfold subA;split
 ·rfl
 ·rw[amV,cC,akD,aiZ]
theorem dJ {T E:TypeId}{k:IntKind}{a:Option Addr}{n:Nat}(h:P.underlying T=some (.slice E))(hsz:(P.info? E).map (·.size)=some sz)(h0:0<=lo)(h1:lo<=n) :
  (dB T (.slice a n cap) (some (.int k lo)) none none).run P w=.ok (.value (.slice (subA a lo.toNat cap sz) (n - lo.toNat) (cap - lo.toNat))) w:=by
 obtain⟨i,hi,h2⟩:=ajN.1 hsz;have he:P.elem T=E:=by simp[Program.elem,h]
 have ht:P.underlying T=some (.slice (P.elem T)):=by rw[he];exact h
 refine bL ?_;rw[run_sliceAt_slice w T _ _ _ _ ht,run_slice_l w T a n cap ht k lo h0 h1];simp[sizeOf,typeInfo,he,hi,h2,sliced,subA]
theorem jD {T E:TypeId}{k:IntKind}{a:Option Addr}{n:Nat}(h:P.underlying T=some (.slice E))(hsz:(P.info? E).map (·.size)=some sz)(h0:0<=hi)(h1:hi<=cap) :
  (dB T (.slice a n cap) none (some (.int k hi)) none).run P w=.ok (.value (.slice (subA a 0 cap sz) hi.toNat cap)) w:=by
 obtain⟨i,hi',h2⟩:=ajN.1 hsz;have he:P.elem T=E:=by simp[Program.elem,h]
 have ht:P.underlying T=some (.slice (P.elem T)):=by rw[he];exact h
 refine bL ?_;rw[run_sliceAt_slice w T _ _ _ _ ht,run_slice_h w T a n cap ht k hi h0 h1];simp[sizeOf,typeInfo,he,hi',h2,sliced,subA]
theorem Lz {T E:TypeId}{k:IntKind}{a:Option Addr}{n:Nat}(h:P.underlying T=some (.slice E))(hsz:(P.info? E).map (·.size)=some sz)(h0:0<=lo)(h1:lo<=hi)(h2:hi<=cap) :
  (dB T (.slice a n cap) (some (.int k lo)) (some (.int k' hi)) none).run P w=.ok (.value (.slice (subA a lo.toNat cap sz) (hi.toNat - lo.toNat) (cap - lo.toNat))) w:=by
 obtain⟨i,hi',h3⟩:=ajN.1 hsz;have he:P.elem T=E:=by simp[Program.elem,h]
 have ht:P.underlying T=some (.slice (P.elem T)):=by rw[he];exact h
 refine bL ?_;rw[run_sliceAt_slice w T _ _ _ _ ht,run_slice_lh w T a n cap ht k k' lo hi h0 h1 h2];simp[sizeOf,typeInfo,he,hi',h3,sliced,subA]
theorem DY {T E:TypeId}{k k2:IntKind}{a:Option Addr}{n:Nat}{m:Int}(h:P.underlying T=some (.slice E))(hsz:(P.info? E).map (·.size)=some sz)(h0:0<=lo)(h1:lo<=hi)(h2:hi<=m)(h3:m<=cap) :
  (dB T (.slice a n cap) (some (.int k lo)) (some (.int k' hi)) (some (.int k2 m))).run P w=.ok (.value (.slice (subA a lo.toNat m.toNat sz) (hi.toNat - lo.toNat) (m.toNat - lo.toNat))) w:=by
 obtain⟨i,hi',h4⟩:=ajN.1 hsz;have he:P.elem T=E:=by simp[Program.elem,h]
 have ht:P.underlying T=some (.slice (P.elem T)):=by rw[he];exact h
 refine bL ?_;rw[run_sliceAt_slice w T _ _ _ _ ht,run_slice_lhm w T a n cap ht k k' k2 lo hi m h0 h1 h2 h3];simp[sizeOf,typeInfo,he,hi',h4,sliced,subA]
theorem Dy {T E:TypeId}{a:Option Addr}{n:Nat}(h:P.underlying T=some (.slice E)):(mB .len #[T] U cb #[.slice a n cap]).run P w=.ok (.value (.int .i64 (n:Int))) w:=by
 simp[mB,builtin,Builtin.len_,run_underlying h,goInt]
theorem OR {T E:TypeId}{a:Option Addr}{n:Nat}(h:P.underlying T=some (.slice E)):DoX P (mB .cap #[T] U cb #[.slice a n cap]) w PK K=K (.int .i64 (cap:Int)) w:=by
 refine aE ?_;simp[mB,builtin,Builtin.cap_,run_underlying h,goInt]
theorem Ts {T E:TypeId}{bytes n:Nat}{kl kc:IntKind}(ht:P.underlying T=some (.slice E))(he:elB P E sz bytes=true)(hb:bytes*n<=281474976710656)(hn:n<=281474976710656)(ho:OwnS S w0 w L)
  (k:∀(g:Nat) (w':World) (zs:List Value),zs.length=n*sz->OwnS S w0 w' (.cells g zs E::L)->K (.slice (some ⟨g,0,none⟩) n n) w'):DoX P (HM T (.int kl (n:Int)) (.int kc (n:Int))) w PK K:=by
 obtain⟨i,z,hi,hz,hi1,hi2,hz1⟩:=jC he;have hb':(i.bytes:Int)*(n:Int)<=281474976710656:=by rw[hi2,<-Int.natCast_mul];omega
 have hr:=run_make (P:=P) w T E i z ht hi hz kl kc n n om om hb' om;rw[ahI] at hr;refine jU (bL hr) (k _ _ (madeCells z.cells (n*i.size)).toList ?_ ?_)
 ·rw[Array.length_toList,size_madeCells,hi1]
 ·have:=ho.alloc (madeCells z.cells (n*i.size)).toList E
  rwa [Array.toArray_toList] at this
theorem GG {dT sT ty T E:TypeId}{g o dLen dCap:Nat}{a:Addr}{sLen sCap:Nat}{src:List Value}(hu:P.underlying dT=some (.slice E))(hsz:(P.info? E).map (·.size)=some sz)
  (hg:w.heap[g]?=some (.cells cur.toArray T (0,0))) (hn:src.length=Nat.min sLen dLen*sz) (hsrc:∀j v,src[j]?=some v->w.cell? (a.add j)=some v) (hfit:o+src.length<=cur.length) (h1:∀v∈src,v.oneCell'=true) :
  (mB .copy #[dT,sT] ty cb #[.slice (some ⟨g,o,none⟩) dLen dCap,.slice (some a) sLen sCap]).run P w=.ok (.value (goInt (Nat.min sLen dLen))) (w.setRow g (cur.take o++src++cur.drop (o+src.length)).toArray):=by
 have hl:=run_loadCells_list (P:=P) w a src hsrc;have hst:=run_storeCells_at P g o T src 0 cur.toArray w hg (by simpa using hfit) h1;obtain⟨i,hi,h2⟩:=ajN.1 hsz;rw[hn] at hl;simp only[aiZ] at hst;simp[mB,builtin,Builtin.copy_,run_underlying hu,Builtin.lenOf,Builtin.firstCells,sizeOf,typeInfo,hi,h2,hl,hst]
theorem tO (i:Nat){dT sT ty T E:TypeId}{g o dLen dCap:Nat}{a:Addr}{sLen sCap:Nat}{src:List Value}(hu:P.underlying dT=some (.slice E))(hsz:(P.info? E).map (·.size)=some sz)
  (ho:OwnS S w0 w L) (hi:L[i]?=some (.cells g cur T)) (hn:src.length=min sLen dLen*sz) (hsrc:∀j v,src[j]?=some v->w.cell? (a.add j)=some v) (hfit:o+src.length<=cur.length) (h1:∀v∈src,v.oneCell'=true)
  (k:∀v' w',OwnS S w0 w' (L.set i (.cells g (cur.take o++src++cur.drop (o+src.length)) T))->K v' w') :
  DoX P (mB .copy #[dT,sT] ty cb #[.slice (some ⟨g,o,none⟩) dLen dCap,.slice (some a) sLen sCap]) w PK K:=
 jU (GG hu hsz (ho.at_ i hi) hn hsrc hfit h1) (k _ _ (gP ho i hi _))
theorem SP {T tn E:TypeId}{kn kq:IntKind}{g n bytes:Nat}{olds:List Value}(ht:P.underlying T=some (.slice E))(htn:P.underlying tn=some (.int kn))(he:elB P E sz bytes=true)(hsz:0 < sz)
  (ho:OwnS S w0 w L) (hol:olds.length=n*sz) (hold:∀j u,olds[j]?=some u->w.cell? ⟨g,0+j,none⟩=some u) (h0:0 < m) (hg:cap < n+m) (hb:(n+m)*bytes<=140737488355328) (hb2:n+m<=140737488355328)
  (k:∀(b c:Nat) (zs:List Value) (w':World),n+m<=c->c<=9223372036854775807->zs.length+n*sz=c*sz->OwnS S w0 w' (.cells b (olds++zs) E::L)->K (.slice (some ⟨b,0,none⟩) (n+m) c) w') :
  DoX P (mB .append #[T,tn] U cb #[.slice (some ⟨g,0,none⟩) n cap,.int kq (m:Int)]) w PK K:=by
 obtain⟨i,z,hi,hz,hi1,hi2,hz1⟩:=jC he;have hold':(Builtin.firstCells i.size n (.slice (some ⟨g,0,none⟩) n cap)).run P w.drew=.ok olds.toArray w.drew:=by
  have hl:=run_loadCells_list (P:=P) w.drew ⟨g,0,none⟩ olds (fun j v hj=>by rw[cC];exact hold j v hj);simp only[Builtin.firstCells,hi1,<-hol];exact hl
 have hge:=grownCap_ge w (n+m) cap E;have hle:=grownCap_le_maxLen w (n+m) cap E (by simp only[maxLen];omega);have hr:=Lib.run_append_grow_zeros (P:=P) w T tn U E i z kq kn ht htn hi hz (some ⟨g,0,none⟩) n cap olds hold' m h0 om hg om (by
   rw[hi2];have:m*bytes<=(n+m)*bytes:=aiO _ om;omega) (by rw[hi2];exact growslice_fits hg hb)
 have hzc:∀x,(Builtin.zeroCells z.cells x).toList.length=x*sz:=by intro x;simp[Builtin.zeroCells,hz1]
 obtain⟨zs,hzs⟩:∃zs,zs=(Builtin.zeroCells z.cells m).toList++(Builtin.zeroCells z.cells (grownCap w (n+m) cap E - (n+m))).toList:=⟨_,rfl⟩;have hlen:zs.length+n*sz=grownCap w (n+m) cap E*sz:=by
  rw[hzs,agZ,hzc,hzc,<-ajU,<-ajU]
  congr 1
  omega
 have key:=(ho.drew).alloc (olds++zs) E;have e:(olds++zs).toArray=olds.toArray++Builtin.zeroCells z.cells m++Builtin.zeroCells z.cells (grownCap w (n+m) cap E - (n+m)):=by
  rw[hzs];simp
 have hr':(mB .append #[T,tn] U cb #[.slice (some ⟨g,0,none⟩) n cap,.int kq (m:Int)]).run P w=.ok (.value (.slice (some ⟨w.heap.size,0,none⟩) (n+m) (grownCap w (n+m) cap E))) (w.drew.alloc (.cells (olds++zs).toArray E)):=by
  rw[e];simp[mB,builtin,hr]
 exact jU hr' (k w.heap.size _ zs _ hge (by simp only[maxLen] at hle;exact hle) hlen key)
theorem IJ (i:Nat){T E:TypeId}{g n c bytes:Nat}{a:Addr}(ht:P.underlying T=some (.slice E))(he:elB P E sz bytes=true)
  (ho:OwnS S w0 w L) (hi:L[i]?=some (.cells g cur E)) (hl:news.length=m*sz) (hnews:∀j u,news[j]?=some u->w.cell? (a.add j)=some u) (h1:∀u∈news,u.oneCell'=true) (hroom:n+m<=cap) (hfit:n*sz+news.length<=cur.length)
  (k:∀w',OwnS S w0 w' (L.set i (.cells g (cur.take (n*sz)++news++cur.drop (n*sz+news.length)) E))->K (.slice (some ⟨g,0,none⟩) (n+m) cap) w') :
  DoX P (mB .append #[T,T] U cb #[.slice (some ⟨g,0,none⟩) n cap,.slice (some a) m c]) w PK K:=by
 obtain⟨ii,z,hii,hz,hi1,hi2,hz1⟩:=jC he;have hg:w.heap[g]?=some (.cells cur.toArray E (0,0)):=ho.at_ i hi;have hr:=run_append_roomF (P:=P) w T U E ii ht hii g n cap cur.toArray (0,0) hg (ahW _) a m c news (by rw[hi1];exact hl) hnews h1 hroom (by rw[hi1];simpa using hfit);rw[hi1] at hr;have hr':(mB .append #[T,T] U cb #[.slice (some ⟨g,0,none⟩) n cap,.slice (some a) m c]).run P w=.ok (.value (.slice (some ⟨g,0,none⟩) (n+m) cap)) (w.setRow g (cur.take (n*sz)++news++cur.drop (n*sz+news.length)).toArray):=by
  simp[mB,builtin,hr]
 exact jU hr' (k _ (gP ho i hi _))
def zB (P:Program)(E:TypeId):Bool:=
 match P.info? E with
|some i=>match i.zero with
 |some z=>z.cells.toList.all (·.oneCell')
 |none=>false
|none=>false
theorem Nw (i:Nat){T E:TypeId}{g o n c bytes:Nat}(ht:P.underlying T=some (.slice E))(he:elB P E sz bytes=true)(hz:zB P E=true)(h0:0 < n)
  (ho:OwnS S w0 w L) (hi:L[i]?=some (.cells g cur E)) (hfit:o+n*sz<=cur.length)
  (k:∀v' w' zs,zs.length=n*sz->OwnS S w0 w' (L.set i (.cells g (cur.take o++zs++cur.drop (o+n*sz)) E))->K v' w') :
  DoX P (mB .clear #[T] U cb #[.slice (some ⟨g,o,none⟩) n c]) w PK K:=by
 obtain⟨ii,z,hii,hz',hi1,hi2,hz1⟩:=jC he;have hg:w.heap[g]?=some (.cells cur.toArray E (0,0)):=ho.at_ i hi;have hone:∀x∈z.cells.toList,x.oneCell'=true:=by
  unfold zB at hz;rw[hii] at hz;simp only[hz'] at hz;exact ajS.1 hz
 have hzl:(Builtin.zeroCells z.cells n).toList.length=n*sz:=by simp[Builtin.zeroCells,hz1]
 have hzo:∀x∈(Builtin.zeroCells z.cells n).toList,x.oneCell'=true:=by
  intro x hx;simp only[Builtin.zeroCells,Array.toList_map,aiD,Array.toList_range,aiV] at hx;obtain⟨j,hj,rfl⟩:=hx;have hjs:j % z.cells.size < z.cells.size:=ajW _ (by
   rcases ajV z.cells.size with h|h
   ·rw[h] at hj;simp at hj
   ·exact h)
  rw[getElem!_pos z.cells (j % z.cells.size) hjs];exact hone _ sm
 have hst:=run_storeCells_at P g o E (Builtin.zeroCells z.cells n).toList 0 cur.toArray w hg (by rw[hzl];simpa using hfit) hzo;simp only[aiZ] at hst;obtain⟨m,rfl⟩:∃m,n=m+1:=⟨n - 1,om⟩;have hr':(mB .clear #[T] U cb #[.slice (some ⟨g,o,none⟩) (m+1) c]).run P w=.ok (.value (.tuple #[])) (w.setRow g (cur.take o++(Builtin.zeroCells z.cells (m+1)).toList++cur.drop (o+(m+1)*sz)).toArray):=by
  simp[mB,builtin,Builtin.clear_,run_underlying ht,zeroValue,typeInfo,hii,hz',hst];rw[<-hzl];simp
 exact jU hr' (k _ _ _ hzl (gP ho i hi _))
theorem YZ {cs':List Value}{off:Nat}(h:(cs.drop off).take cs'.length=cs')(hj:cs'[j]?=some v):cs[off+j]?=some v:=by
 rw[<-h] at hj;rw[ajT] at hj;split at hj
 ·rwa [akG] at hj
 ·cases hj
theorem OwnS.acK (ho:OwnS S w0 w L)(i:Nat){E T:TypeId}(hi:L[i]?=some (.cells b cs E))(off:Nat)(cs':List Value)(hcs:(cs.drop off).take cs'.length=cs')(ht:aggN P T=some cs'.length):AtV P w T ⟨b,off,none⟩ (.agg cs'.toArray):=
 AtV.agg ht rfl fun j v hj=>ho.cell i hi (off+j) (YZ hcs hj)
theorem D1 (i:Nat){T:TypeId}{off:Nat}{E:TypeId}(ho:OwnS S w0 w L)(hi:L[i]?=some (.cells b cs E))(hs:(P.info? T).map (·.size)=some new.length)(hv:∀v∈new,v.oneCell'=true)(hl:off+new.length<=cs.length)
  (k:∀w',OwnS S w0 w' (L.set i (.cells b (cs.take off++new++cs.drop (off+new.length)) E))->K undef w'):DoX P (aS T (.pointer (some ⟨b,off,none⟩)) (.agg new.toArray)) w PK K:=by
 have hr:=Et (P:=P) (T:=T) (g:=b) (off:=off) (cur:=cs.toArray) (E:=E) (u:=.agg new.toArray) (new:=new) rfl hs hv (ho.at_ i hi) (by simpa using hl);refine DF (IC hr) (k _ ?_);have e:(cs.toArray.toList.take off++new++cs.toArray.toList.drop (off+new.length)).toArray=(cs.take off++new++cs.drop (off+new.length)).toArray:=sm
 rw[e];exact gP ho i hi _
theorem Uh {M N:Mem}{T:TypeId}{n:Nat}(hw:N.w=w)(hb:∀b,(Ent.urow T sz v n xs).blk b->N.A b)(h:(Ent.urow T sz v n xs).is w):SlA N.A N.w v sz n xs:=by
 rw[hw];refine⟨Sl.urow h,fun p l c e hn=>hb _ ?_,fun a l c e=>?_⟩
 ·rcases (show w.ownsRow 0 T sz v n xs from h).2 with ⟨rfl,h0⟩|⟨g,cap,cur,rfl,_⟩
  ·cases e
  ·injection e with e1 _ _
   injection e1 with e1
   rw[<-e1];rfl
 ·rcases (show w.ownsRow 0 T sz v n xs from h).2 with ⟨rfl,h0⟩|⟨g,cap,cur,rfl,_,_,hnc,_⟩
  ·injection e with _ e2 e3;omega
  ·injection e with _ e2 e3;omega
theorem OwnS.cG {M:Mem}{T:TypeId}{n:Nat}(ho:OwnS S w0 w (.urow T sz v n xs::L))(i:Nat)(hi:L[i]?=some (.mem M)) :
  ∃N:Mem,M.le N∧SlA N.A N.w v sz n xs∧OwnS S w0 w (L.set i (.mem N)):=by
 have h:=ho.at_ 0 rfl;obtain⟨N,h1,h2,h3,h4⟩:=ho.freeze i hi;exact⟨N,h1,Uh (M:=M) h2 h3 h,h4⟩
end
end Eng
end
section
namespace Eng
open Go.RowKit
def strK (k:List UInt8):Value:=.string ⟨k.toArray⟩
def PN (w:World)(b:Nat)(al:List (List UInt8×Value)):Prop:=∃es clock,w.heap[b]?=some (.map es clock)∧es.toList.map (fun e=>(e.key,e.val))=al.map fun p=>(strK p.1,p.2)
def Ent.map (b:Nat)(al:List (List UInt8×Value)):Ent:=⟨fun k=>k=b,fun w=>PN w b al,fun {w w'} h k=>by
  obtain⟨es,clock,h1,h2⟩:=h;exact⟨es,clock,(k b rfl).trans h1,h2⟩,fun h k hk=>by
  obtain⟨es,clock,h1,h2⟩:=h;cases hk;exact dR h1⟩
def Bn (al:List (List UInt8×Value))(k:List UInt8):Option Value:=(al.find? fun p=>decide (p.1=k)).map (·.2)
theorem F9 (k:List UInt8):∀(es:List MapEntry) (al:List (List UInt8×Value)) (i:Nat),es.map (fun e=>(e.key,e.val))=al.map (fun p=>(strK p.1,p.2)) ->
  ∃r,Instr.findNow .string (strK k) es i=some r∧r.map (·.2)=Bn al k
|[],[],i,_=>⟨none,rfl,rfl⟩
|e::es,p::al,i,h=>by
  simp only[aiW,amF,akV] at h;obtain⟨⟨h1,h2⟩,h3⟩:=h;have hs:Instr.sameNow .string (strK k) e.key=some (decide (k=p.1)):=by
   rw[h1];show some ((⟨k.toArray⟩:ByteArray)==⟨p.1.toArray⟩)=_
   congr 1
   show (k.toArray==p.1.toArray)=_;by_cases hk:k=p.1<;>simp[hk]
  by_cases hk:k=p.1
  ·refine⟨some (i,e.val),?_,?_⟩
   ·rw[Instr.findNow,hs];simp[hk]
   ·simp[Bn,hk,h2]
  ·obtain⟨r,hr1,hr2⟩:=F9 k es al (i+1) h3;refine⟨r,?_,?_⟩
   ·rw[Instr.findNow,hs];simp[hk,hr1]
   ·have hk':¬p.1=k:=fun e=>hk e.symm;rw[hr2];simp[Bn,hk']
|[],_::_,_,h=>by simp at h
|_::_,[],_,h=>by simp at h
section
variable {S:Nat->Prop}{P:Program}{w w0:World}{L:List Ent}{PK:PKT}{K:VWP}
theorem Uz {T:TypeId}(ho:OwnS S w0 w L)(k:∀b w',OwnS S w0 w' (.map b []::L)->K (.map (some b)) w'):DoX P (mMap T none) w PK K:=by
 have hr:(Instr.makeMap T none).run P w=.ok (.map (some w.heap.size)) (w.alloc (.map #[] 0)):=rfl;exact jU (bL hr) (k _ _ (ho.add (World.grownBy_alloc w _ none) (.map w.heap.size []) ⟨#[],0,heap_alloc_new w _,rfl⟩ (fun k hk=>by cases hk;exact ahD _)))
theorem pE {k:TypeId}{e:Bool}(hk:P.underlying k=some .string)(x:List UInt8):(Instr.checkKey e 10000 k (strK x)).run P w=.ok () w:=by
 show (Instr.checkKey e (9999+1) k (strK x)).run P w=_;rw[Instr.checkKey];simp[run_underlying hk,strK]
theorem FU {k:TypeId}(hk:P.underlying k=some .string)(x:List UInt8){es:List MapEntry}{al:List (List UInt8×Value)}(h:es.map (fun e=>(e.key,e.val))=al.map (fun p=>(strK p.1,p.2))) :
  ∃r,(Instr.findKey k (strK x) es).run P w=.ok r w∧r.map (·.2)=Bn al x:=by
 obtain⟨r,h1,h2⟩:=F9 x es al 0 h;refine⟨r,?_,h2⟩;simp[Instr.findKey,run_underlying hk,h1]
theorem OA {T k e:TypeId}{ok:Bool}{al:List (List UInt8×Value)}{z:Value}(ht:P.underlying T=some (.map k e))(hk:P.underlying k=some .string)(hz:(P.info? e).bind (·.zero)=some z)(h:PN w b al)(x:List UInt8) :
  (Ru T (.map (some b)) (strK x) ok).run P w=.ok (.value (if ok then .tuple #[(Bn al x).getD z,.bool (Bn al x).isSome] else (Bn al x).getD z)) w:=by
 obtain⟨es,clock,h1,h2⟩:=h;obtain⟨r,r1,r2⟩:=FU (P:=P) (w:=w) hk x h2;have hz':(zeroValue e).run P w=.ok z w:=by
  obtain⟨i,hi,hzi⟩:=alX.1 hz;simp[zeroValue,typeInfo,hi,hzi]
 refine bL ?_;rw[<-r2];cases r with
|none=>simp[Instr.lookup,run_underlying ht,getObj,Sem.run,h1,pE hk x,r1,hz']
|some p=>
  obtain⟨i,v⟩:=p;simp[Instr.lookup,run_underlying ht,getObj,Sem.run,h1,pE hk x,r1]
theorem Ua (i:Nat){T k e:TypeId}{al:List (List UInt8×Value)}(ht:P.underlying T=some (.map k e))(hk:P.underlying k=some .string)(ho:OwnS S w0 w L)(hi:L[i]?=some (.map b al))(x:List UInt8)(v:Value)(hn:Bn al x=none)
  (kk:∀w',OwnS S w0 w' (L.set i (.map b (al++[(x,v)])))->K undef w'):DoX P (Q8 T (.map (some b)) (strK x) v) w PK K:=by
 obtain⟨es,clock,h1,h2⟩:=(show PN w b al from ho.at_ i hi);obtain⟨r,r1,r2⟩:=FU (P:=P) (w:=w) hk x h2;have hr0:r=none:=by
  cases r with
 |none=>rfl
 |some p=>rw[hn] at r2;cases r2
 subst hr0;have hr:(Instr.mapUpdate T (.map (some b)) (strK x) v).run P w=.ok () { w with heap:=w.heap.setIfInBounds b (.map (es.push { key:=strK x,val:=v,born:=clock }) (clock+1)) }:=by
  simp[Instr.mapUpdate,run_underlying ht,getObj,setObj,Sem.run,h1,pE hk x,r1]
 refine DF (IC hr) (kk _ ?_);refine ho.put i hi (w':={ w with heap:=w.heap.setIfInBounds b _ }) ⟨rfl,rfl,rfl,sm,fun k _ hk=>?_⟩ (.map b (al++[(x,v)])) ?_ (fun k hk=>.inl hk)
 ·show (w.heap.setIfInBounds b _)[k]?=_;exact alJ (fun e=>hk (by simp[Ent.map,e]))
 ·refine⟨es.push { key:=strK x,val:=v,born:=clock },clock+1,?_,?_⟩
  ·show (w.heap.setIfInBounds b _)[b]?=_;exact aoY (dR h1)
  ·simp[h2]
end
end Eng
end
end Go.Proofs.YtlipjfcbjemicaaGreatDoor

namespace Go.Proofs.YtlipjfcbjemicaaGreatDoor
variable{A S:Nat->Prop}{C:World->Prop}{D U U2:TypeId}{K K':VWP}{L:List Eng.Ent}{L0:Loop}{P:Program}{PK:PKT}{W w w' w0:World}{a hi lo:Int}{args:Array Value}{b cap d f fuel i j m sz t:Nat}{c v v1 v2 vc vk:Value}{cb:Array Bool}{cs cur new news xs:List Value}{e:Eng.Ent}{k':IntKind}{xo yo:Operand}{α β:Type}{σ:Eng.Sg}
section
namespace Eng
open Go.RowKit
section
variable {α:Type}{enc:α->List Value}{k:Nat}
theorem NN (hk:∀x,(enc x).length=k):∀l:List α,(l.flatMap enc).length=l.length*k
|[]=>by simp
|x::l=>by rw[aiT,agZ,hk,NN hk l,ahU,akA];omega
theorem K4 (hk:∀x,(enc x).length=k):∀(l:List α) (j:Nat),(l.flatMap enc).drop (j*k)=(l.drop j).flatMap enc
|[],j=>by simp
|x::l,0=>by simp
|x::l,j+1=>by
  rw[aiT,aoG,akA,amQ,alC,hk,ajC (by rw[hk];omega),amX,K4 hk l j,aiM]
theorem zK (hk:∀x,(enc x).length=k){l:List α}(hj:j < l.length)(h:(enc l[j])[i]?=some v):(l.flatMap enc)[j*k+i]?=some v:=by
 have h1:((l.flatMap enc).drop (j*k))[i]?=some v:=by
  rw[K4 hk,ajB hj,aiT,ajA (ahQ.1 h).1];exact h
 rwa [akG] at h1
theorem VM (h1:∀x,∀v∈enc x,v.oneCell'=true){l:List α}:∀v∈l.flatMap enc,v.oneCell'=true:=by
 intro v hv;obtain⟨x,_,hx⟩:=amG.1 hv;exact h1 x v hx
abbrev Ent.recs (T:TypeId)(enc:α->List Value)(k:Nat)(v:Value)(l:List α):Ent:=.urow T k v l.length (l.flatMap enc)
variable {S:Nat->Prop}{P:Program}{w w0:World}{L:List Ent}{PK PK2:PKT}{K:VWP}
theorem rec_row (hk:∀x,(enc x).length=k){T E:TypeId}(ht:P.underlying T=some (.slice E))(hz:(P.info? E).map (·.size)=some k)(ha:aggN P E=some k)(i:Nat){l:List α}(ho:OwnS S w0 w L)(hi:L[i]?=some (.recs E enc k v l))(hj:j < l.length) :
  ∃g cap,v=.slice (some ⟨g,0,none⟩) l.length cap∧(∀w,(mIA T v (.int .i64 (j:Int))).run P w=.ok (.value (.pointer (some ⟨g,j*k,none⟩))) w) ∧
   (∀w',(Ent.recs E enc k v l).is w'->(aI E (.pointer (some ⟨g,j*k,none⟩))).run P w'=.ok (.value (.agg (enc l[j]).toArray)) w') ∧
   ∀w',(Ent.recs E enc k v l).is w'->∀m u,(enc l[j])[m]?=some u->w'.cell? ⟨g,j*k+m,none⟩=some u:=by
 obtain⟨g,cap,rfl⟩:=oN (ho.at_ i hi) om;have hcell:∀w',(Ent.recs E enc k (.slice (some ⟨g,0,none⟩) l.length cap) l).is w'->∀m u,(enc l[j])[m]?=some u->w'.cell? ⟨g,j*k+m,none⟩=some u:=by
  intro w' h m u hm;obtain⟨b,off,cap',e,hc⟩:=cB (Sl.urow h) om;cases e;have:=hc _ _ (zK hk hj hm)
  rwa [ahJ] at this
 refine⟨g,cap,rfl,fun w=>?_,fun w' h=>?_,hcell⟩
 ·refine (eE ht hz om om).trans ?_;rw[ahI,ahJ]
 ·exact bI (AtV.agg ha (hk _) fun m u hm=>hcell w' h m u hm)
end
end Eng
end
section
open Eng
def fU(t0 w)(K:KT):=nz Tryz.f199 1 [] [] [] (zg [0] [t0]) w K
theorem kP{t0 w K}(h:fU t0 w K):Calls prog 199 #[t0] w K:=cw Tryz.func199 h
def bU(t0 w)(K:KT):=nz Tryz.f200 1 [] [] [] (zg [0] [t0]) w K
theorem dX{t0 w K}(h:bU t0 w K):Calls prog 200 #[t0] w K:=cw Tryz.func200 h
def fS(b a e w)(K:KT):=
 slx 22 b (some a) none none w K fun H w=>lnx 22 e w K fun c w=>ecx .eql 3 15 0 c w K fun h w=>IfX h (K (.returned b) w) (lnx 22 b w K fun f w=>eqx .eql 3 (.tmp 20) (.tmp 21) a f w K fun i w=>IfX i (apx 22 b e w K fun j w=>K (.returned j) w) (bnx .add 3 f c w K fun k w=>mbx .cap #[22] 3 #[false] #[b] w K fun l w=>bnx .gtr 3 k l w K fun m w=>IfX m (slx 22 b none (some a) none w K fun n w=>bnx .add 3 f c w K fun o w=>bnx .sub 3 o a w K fun p w=>mbx .append #[22,3] 22 #[false,false] #[n,p] w K fun g w=>slx 22 g (some a) none none w K fun q w=>mbx .copy #[22,22] 3 #[false,false] #[q,e] w K fun I w=>QuietX w (fun C1=>QDo prog C1 (mBin .add 3 a c) fun r=>QDo prog C1 (dB 22 g (some r) none none) fun s=>QDo prog C1 (dB 22 b (some a) none none) fun t=>
 ∀w,C1 w ->
 mbx .copy #[22,22] 3 #[false,false] #[s,t] w K fun L w=>K (.returned g) w)) (bnx .add 3 f c w K fun u w=>slx 22 b none (some u) none w K fun d w=>bnx .add 3 a c w K fun v w=>slx 22 d (some v) none none w K fun x w=>dx (gI (.func (.func 248) #[] #[]) #[e,x]) w K fun y w=>dx (mUn .not y) w K fun z w=>IfX z (QuietX w (fun C2=>QDo prog C2 (mBin .add 3 a c) fun A=>QDo prog C2 (dB 22 d (some A) none none) fun B=>QDo prog C2 (dB 22 d (some a) none none) fun C=>
 ∀w,C2 w ->
 mbx .copy #[22,22] 3 #[false,false] #[B,C] w K fun M w=>slx 22 d (some a) none none w K fun D w=>mbx .copy #[22,22] 3 #[false,false] #[D,e] w K fun O w=>K (.returned d) w)) (slx 22 d (some f) none none w K fun F w=>mbx .copy #[22,22] 3 #[false,false] #[F,e] w K fun P w=>slx 22 d (some a) none none w K fun G w=>cx 249 #[G,c] w K fun Q w=>K (.returned d) w))))
theorem jT{t0 t1 t2 w K}(h:fS t0 t1 t2 w K):Calls prog 201 #[t0,t1,t2] w K:=cw Tryz.func201 h
def bP(b a e w)(K:KT):=
 slx 23 b (some a) none none w K fun H w=>lnx 23 e w K fun c w=>ecx .eql 3 15 0 c w K fun h w=>IfX h (K (.returned b) w) (lnx 23 b w K fun f w=>eqx .eql 3 (.tmp 20) (.tmp 21) a f w K fun i w=>IfX i (apx 23 b e w K fun j w=>K (.returned j) w) (bnx .add 3 f c w K fun k w=>mbx .cap #[23] 3 #[false] #[b] w K fun l w=>bnx .gtr 3 k l w K fun m w=>IfX m (slx 23 b none (some a) none w K fun n w=>bnx .add 3 f c w K fun o w=>bnx .sub 3 o a w K fun p w=>mbx .append #[23,3] 23 #[false,false] #[n,p] w K fun g w=>slx 23 g (some a) none none w K fun q w=>mbx .copy #[23,23] 3 #[false,false] #[q,e] w K fun I w=>QuietX w (fun C1=>QDo prog C1 (mBin .add 3 a c) fun r=>QDo prog C1 (dB 23 g (some r) none none) fun s=>QDo prog C1 (dB 23 b (some a) none none) fun t=>
 ∀w,C1 w ->
 mbx .copy #[23,23] 3 #[false,false] #[s,t] w K fun L w=>K (.returned g) w)) (bnx .add 3 f c w K fun u w=>slx 23 b none (some u) none w K fun d w=>bnx .add 3 a c w K fun v w=>slx 23 d (some v) none none w K fun x w=>dx (gI (.func (.func 250) #[] #[]) #[e,x]) w K fun y w=>dx (mUn .not y) w K fun z w=>IfX z (QuietX w (fun C2=>QDo prog C2 (mBin .add 3 a c) fun A=>QDo prog C2 (dB 23 d (some A) none none) fun B=>QDo prog C2 (dB 23 d (some a) none none) fun C=>
 ∀w,C2 w ->
 mbx .copy #[23,23] 3 #[false,false] #[B,C] w K fun M w=>slx 23 d (some a) none none w K fun D w=>mbx .copy #[23,23] 3 #[false,false] #[D,e] w K fun O w=>K (.returned d) w)) (slx 23 d (some f) none none w K fun F w=>mbx .copy #[23,23] 3 #[false,false] #[F,e] w K fun P w=>slx 23 d (some a) none none w K fun G w=>cx 251 #[G,c] w K fun Q w=>K (.returned d) w))))
theorem dS{t0 t1 t2 w K}(h:bP t0 t1 t2 w K):Calls prog 202 #[t0,t1,t2] w K:=cw Tryz.func202 h
def fR(t0 t1 t2 w)(K:KT):=nz Tryz.f219 1 [] [] [(5,6)] (zg [0,1,2] [t0,t1,t2]) w K
theorem jR{t0 t1 t2 w K}(h:fR t0 t1 t2 w K):Calls prog 219 #[t0,t1,t2] w K:=cw Tryz.func219 h
def bS(t0 t1 t2 w)(K:KT):=nz Tryz.f220 1 [] [] [(5,6)] (zg [0,1,2] [t0,t1,t2]) w K
theorem dV{t0 t1 t2 w K}(h:bS t0 t1 t2 w K):Calls prog 220 #[t0,t1,t2] w K:=cw Tryz.func220 h
def dY(t0 t1 t6 t7 t8 w)(N1:JT)(K:KT):=nz Tryz.f154 39 [N1] [nh 7 [7,8]] [] (zg [0,1,6,7,8] [t0,t1,t6,t7,t8]) w K
def eG(t0 t1 w)(K:KT):=nz Tryz.f154 1 [] [(7,[7,8],fun s v j w f=>dY (s 0) (s 1) (s 6) (vg v 0) (vg v 1) w (f 0) K)] [] (zg [0,1] [t0,t1]) w K
theorem gN{t0 t1 w K}(h:eG t0 t1 w K):Calls prog 154 #[t0,t1] w K:=cz [] [(3,[7,8])] Tryz.func154 h
def sJ(t0 t1 w)(K:KT):=nz Tryz.f217 1 [] [] [] (zg [0,1] [t0,t1]) w K
theorem zV{t0 t1 w K}(h:sJ t0 t1 w K):Calls prog 217 #[t0,t1] w K:=cw Tryz.func217 h
def pT(t0 w)(K:KT):=nz Tryz.f256 1 [] [] [] (zg [0] [t0]) w K
theorem xV{t0 w K}(h:pT t0 w K):Calls prog 256 #[t0] w K:=cw Tryz.func256 h
def lM(t0 w)(K:KT):=nz Tryz.f218 1 [] [] [] (zg [0] [t0]) w K
theorem sA{t0 w K}(h:lM t0 w K):Calls prog 218 #[t0] w K:=cw Tryz.func218 h
end
section
open Eng Go.RowKit
theorem wZ (v:Value)(n:Nat)(cs:List Value)(w:World)(hs:Sl w v 1 n cs)(h1:∀u∈cs,u.oneCell'=true)(hb:n<=1000000000000) :
  Ret prog 199 #[v] w (fun v' w'=>Own w w' [.urow 9 1 v' n cs]):=by
 have hs':=hs;obtain⟨hl,a,cap,rfl,hn,hc⟩:=hs;refine aP fun K hK=>kP ?_;unfold fU nz;rw[Wh ahM];cases a with
|none=>
  obtain rfl:=hn rfl;obtain rfl:cs=[]:=akY om;simp only[aoD,i_t];exact hK _ _ ((Own.start w).nilU 9 1)
|some p=>
  simp only[aoE,i_f];refine bC (fun b=>.slice (some ⟨b,0,none⟩) 0 0) [] 9 (fun _=>by kernel_rfl) (Own.start w) fun b w1 ho=>?_;have ho:=ho.toU 1 0 0 sm om om;refine cL 0 ahM (show elB prog 9 1 16=true by kernel_rfl) dc ho rfl (ho.VV hs') h1 om om fun v' w2 ho=>?_;refine hK _ _ ?_;simpa using ho
theorem Ep (v:Value)(n:Nat)(cs:List Value)(w:World)(hs:Sl w v 6 n cs)(h1:∀u∈cs,u.oneCell'=true)(hb:n<=1000000000000) :
  Ret prog 200 #[v] w (fun v' w'=>Own w w' [.urow 25 6 v' n cs]):=by
 have hs':=hs;obtain⟨hl,a,cap,rfl,hn,hc⟩:=hs;refine aP fun K hK=>dX ?_;unfold bU nz;rw[Wh ahN];cases a with
|none=>
  obtain rfl:=hn rfl;obtain rfl:cs=[]:=akY om;simp only[aoD,i_t];exact hK _ _ ((Own.start w).nilU 25 6)
|some p=>
  simp only[aoE,i_f];refine bC (fun b=>.slice (some ⟨b,0,none⟩) 0 0) [] 25 (fun _=>by kernel_rfl) (Own.start w) fun b w1 ho=>?_;have ho:=ho.toU 6 0 0 sm om om;refine cL 0 ahN (show elB prog 25 6 88=true by kernel_rfl) dc ho rfl (ho.VV hs') h1 om om fun v' w2 ho=>?_;refine hK _ _ ?_;simpa using ho
theorem ov_s {a b:Addr}{la ca lb cb:Nat}(hne:a.block≠b.block){tA tB:TypeId}{kA kB:Nat}(hsa:w.shape? a.block=some (tA,kA))(hsb:w.shape? b.block=some (tB,kB))(hkB:kB≠0)(hfa:w.frozen? a=false)(hfe:w.frozen? { block:=a.block,off:=kA }=false) :
  (gI (.func (.func 248) #[] #[]) #[.slice (some a) la ca,.slice (some b) lb cb]).run prog w=.ok (.value (.bool false)) w:=by
 have hx:(callFunc 248 #[.slice (some a) la ca,.slice (some b) lb cb]).run prog w=.ok (.value (.bool false)) w:=by
  rw[run_callFunc_extern (e:=Extern.SlicesOverlaps.overlaps #[22,22] #[4]) Tryz.func248 krx krx krx krx];rw[Lib.run_overlaps_apart w 22 4 9 ahM 1 (fun w=>by kernel_rfl) a b la ca lb cb hne tA tB kA kB hsa hsb hkB hfa hfe];rfl
 simpa[gI,invoke,Deferred.ofValue,resolve] using hx
theorem IY (v:Value)(n:Nat)(xs:List Value)(k nb:Nat)(new:List Value)(w:World)(hu:(Ent.urow 9 1 v n xs).is w)(hnb:w.heap[nb]?=some (.cells new.toArray 9 (0,0)))(hl:new.length=1)
  (hne:¬(Ent.urow 9 1 v n xs).blk nb) (h1:∀u∈xs,u.oneCell'=true) (h2:∀u∈new,u.oneCell'=true) (hk:k<=n) (hb:n<=100000000000) :
  Ret prog 201 #[v,.int .i64 (k:Int),.slice (some ⟨nb,0,none⟩) 1 1] w
   (fun v' w'=>∃e',e'=Ent.urow 9 1 v' (n+1) (xs.take (k*1)++new++xs.drop (k*1))∧Turn (.urow 9 1 v n xs) e' w w'):=by
 have hxl:xs.length=n*1:=(show w.ownsRow 0 9 1 v n xs from hu).1;have hs2:Sl w (.slice (some ⟨nb,0,none⟩) 1 1) 1 1 new:=⟨om,some ⟨nb,0,none⟩,1,rfl,fun h=>(by cases h),fun p hp=>by cases hp;exact⟨fun _=>rfl,fun j u hj=>by rw[ahJ];exact aG (T:=9) hnb hj⟩⟩;have ho:=OwnS.lend hu;refine aP fun K hK=>jT ?_;unfold fS dx bnx eqx mbx slx lnx ecx apx cx;have hel:elB prog 9 1 16=true:=krx
 have hsz:(Tryz.prog.info? 9).map (·.size)=some 1:=krx
 obtain⟨a,cap,rfl,hcap⟩:∃a cap,v=.slice a n cap∧n<=cap:=by
  rcases (show w.ownsRow 0 9 1 v n xs from hu).2 with ⟨rfl,rfl⟩|⟨g,cap,cur,rfl,_,_,hnc,_⟩
  ·exact⟨none,0,rfl,ahD _⟩
  ·exact⟨_,cap,rfl,hnc⟩
 refine aE (dJ ahM hsz om om) |>.mpr ?_;rw[bB ahM hs2];simp only[rs,Int.natCast_one,Int.one_ne_zero,agX];rw[bA ahM];simp only[rs];by_cases hkn:k=n
 ·subst hkn;simp only[agY,rs];refine cL 0 ahM hel dc ho rfl hs2 h2 om om fun v' w2 ho=>?_;refine hK _ _ ⟨_,rfl,?_⟩;have e:xs.take (k*1)++new++xs.drop (k*1)=xs++new:=by rw[aiF om,ajC om,ahV]
  rw[e];exact OwnS.back (L:=[]) ho
 have hlt:k < n:=om
 have hne':¬(k:Int)=(n:Int):=om
 simp only[hne',agX,rs];rcases (show w.ownsRow 0 9 1 (.slice a n cap) n xs from hu).2 with ⟨_,h0⟩|⟨g,cap',cur,he,hbg,hg,hnc,hcm,hcs,htake⟩
 ·omega
 injection he with he1 _ he2
 subst he1;subst he2;rw[aA om om,OR ahM];simp only[rs];have hgn:nb≠g:=fun e=>hne (by rw[e];rfl);have hcl:cur.toList.length=cap*1:=by simpa using hcs
 have hoc:OwnS (Ent.urow 9 1 (.slice (some ⟨g,0,none⟩) n cap) n xs).blk w w [.cells g cur.toList 9]:=
  ho.turn 0 rfl ⟨Grew.refl _ _,by show w.heap[g]?=_;rw[hg],fun j hj=>.inl (by simp only[Ent.cells] at hj;subst hj;rfl)⟩
 have hxc:∀j u,xs[j]?=some u->w.cell? ⟨g,0+j,none⟩=some u:=fun j u hj=>by
  rw[ahJ];exact hoc.cell 0 rfl j (by rw[<-htake] at hj;rw[ajT] at hj;split at hj<;>first|exact hj|cases hj)
 have htl:(xs.drop (k*1)).length=(n - k)*1:=by rw[ahL,hxl,<-amY]
 have h1t:∀u∈xs.drop (k*1),u.oneCell'=true:=fun u hu=>h1 u (akQ hu);by_cases hroom:(cap:Int) < (n:Int)+1
 ·simp only[hroom,agY,rs];refine aE (jD ahM hsz om om) |>.mpr ?_;rw[show subA (some (⟨g,0,none⟩:Addr)) 0 cap 1=some ⟨g,0,none⟩ from Ey (a:=⟨g,0,none⟩),ahI];rw[aA (n:=(n:Int)+1 - k) om om,show (n:Int)+1 - k=((n+1 - k:Nat):Int) by omega];refine SP (olds:=xs.take (k*1)) ahM aiX hel dc hoc (by rw[ahE,hxl,aiH om]) (fun j u hj=>hxc j u (by rw[ajT] at hj;split at hj<;>first|exact hj|cases hj)) om om om om fun b c zs w2 hc1 hc2 hzs ho=>?_;rw[show k+(n+1 - k)=n+1 by omega] at hc1 ⊢;have hol:(xs.take (k*1)).length=k*1:=by rw[ahE,hxl,aiH om]
  refine aE (dJ ahM hsz om om) |>.mpr ?_;rw[ahI,fC om];have hbg2:b≠g:=by
   have:=(ajF.1 ho.apart).1 (.cells g cur.toList 9) sm;intro e;exact this b rfl e
  have old2:∀{W:World} {b':Nat} {x y:List Value},OwnS (Ent.urow 9 1 (.slice (some ⟨g,0,none⟩) n cap) n xs).blk w W [.cells b' x 9,.cells g y 9]->W.heap[nb]?=some (.cells new.toArray 9 (0,0)):=fun h=>(h.grew.block nb (dR hnb) hne).trans hnb;refine tO 0 (src:=new) ahM hsz ho rfl ?_ (fun j u hj=>by rw[cC,ahJ];exact aG (T:=9) (old2 ho) hj) ?_ h2 fun _ w3 ho=>?_
  ·rw[hl,aiH om]
  ·rw[agZ,hol,hl];omega
  refine quiet ?_;refine qQ ?_;rw[aA om om,show (k:Int)+1=((k+1:Nat):Int) by omega];refine q_do _ (fun W=>dJ ahM hsz om om) ?_;refine q_do _ (fun W=>dJ ahM hsz om om) ?_;rw[ahI,ahI,fC om,fC om];intro w4 hw;have ho:=ho.grow hw;simp only[ahJ,ajP hol,alC,hol] at ho;rw[show k*1+new.length - k*1=1 by omega,ajC (show (xs.take (k*1)).length<=k*1+new.length by omega),aiM] at ho;refine tO 0 (src:=xs.drop (k*1)) ahM hsz ho rfl ?_ (fun j u hj=>?_) ?_ h1t fun _ w5 ho=>?_
  ·rw[htl];congr 1;rw[aiH om]
  ·rw[cC];refine ho.cell 1 rfl (0+k*1+j) ?_;rw[akG] at hj;rw[ahJ];rw[<-htake] at hj;rw[ajT] at hj;split at hj<;>first|exact hj|cases hj
  ·simp only[agZ,ahL,hol,hl,hxl];omega
  have hcur:((xs.take (k*1)++new++zs.drop 1).take (0+(k+1)*1)++xs.drop (k*1)++(xs.take (k*1)++new++zs.drop 1).drop (0+(k+1)*1+(xs.drop (k*1)).length))=(xs.take (k*1)++new++xs.drop (k*1))++(zs.drop 1).drop ((n - k)*1):=by
   rw[ajP (show (xs.take (k*1)++new).length=0+(k+1)*1 by rw[agZ,hol,hl];omega)];rw[alC,ajC (show (xs.take (k*1)++new).length<=_ by rw[agZ,hol,hl,htl];omega),aiM]
   congr 2
   rw[agZ,hol,hl,htl];omega
  simp only[ajX] at ho;rw[hcur] at ho;have ho:=ho.toU 1 (n+1) c (by simp only[agZ,ahL,hol,hl,hxl];omega) hc1 hc2;rw[ajP (show (xs.take (k*1)++new++xs.drop (k*1)).length=(n+1)*1 by simp only[agZ,ahL,hol,hl,hxl];omega)] at ho;exact hK _ _ ⟨_,rfl,OwnS.back ho⟩
 ·have hroom':n+1<=cap:=om
  simp only[hroom,agX,rs];rw[show (n:Int)+1=((n+1:Nat):Int) by omega];refine aE (jD ahM hsz om om) |>.mpr ?_;rw[show subA (some (⟨g,0,none⟩:Addr)) 0 cap 1=some ⟨g,0,none⟩ from Ey (a:=⟨g,0,none⟩),ahI];rw[aA (n:=(k:Int)+1) om om,show (k:Int)+1=((k+1:Nat):Int) by omega];refine aE (dJ ahM hsz om om) |>.mpr ?_;rw[ahI,fC om];refine aE (ov_s (a:=⟨nb,0,none⟩) (b:=⟨g,0+(k+1)*1,none⟩) hgn (tA:=9) (tB:=9) (kA:=new.length) (kB:=cur.size) (by simp[World.shape?,hnb]) (by simp[World.shape?,hg]) (by rw[hcs];omega) (by simp[World.frozen?,hnb]) (by simp[World.frozen?,hnb])) |>.mpr ?_;simp only[rs,aiR];refine quiet ?_;refine qQ ?_;rw[aA om om,show (k:Int)+1=((k+1:Nat):Int) by omega];refine q_do _ (fun W=>dJ ahM hsz om om) ?_;refine q_do _ (fun W=>dJ ahM hsz om om) ?_;rw[ahI,ahI,fC om,fC om];intro w3 hw;have ho:=hoc.grow hw;have hxcur:∀j u,(xs.drop (k*1))[j]?=some u->cur.toList[k*1+j]?=some u:=fun j u hj=>by
   rw[akG,<-htake,ajT] at hj;split at hj<;>first|exact hj|cases hj
  refine tO 0 (src:=xs.drop (k*1)) ahM hsz ho rfl ?_ (fun j u hj=>?_) ?_ h1t fun _ w4 ho=>?_
  ·rw[htl];congr 1;rw[Nat.min_eq_right om];omega
  ·rw[cC,ahJ];exact ho.cell 0 rfl _ (hxcur j u hj)
  ·rw[htl,hcl];have:(n - k)*1+(k+1)*1=(n+1)*1:=by rw[<-ajU];congr 1;omega
   have:(n+1)*1<=cap*1:=aiO _ hroom';omega
  simp only[ajX] at ho;refine aE (dJ ahM hsz om om) |>.mpr ?_;rw[ahI,fC om];have hnew:w4.heap[nb]?=some (.cells new.toArray 9 (0,0)):=(ho.grew.block nb (dR hnb) hne).trans hnb;have hkc:(k+1)*1<=cap*1:=aiO _ om;have hnc2:(n+1)*1<=cap*1:=aiO _ hroom';have hsum:(n - k)*1+(k+1)*1=(n+1)*1:=by rw[<-ajU];congr 1;omega
  refine tO 0 (src:=new) ahM hsz ho rfl ?_ (fun j u hj=>by rw[cC,ahJ];exact aG (T:=9) hnew hj) ?_ h2 fun _ w5 ho=>?_
  ·rw[hl,aiH om]
  ·simp only[agZ,ahE,ahL,hcl,hl,htl];omega
  simp only[ajX] at ho;have hck:cur.toList.take (k*1)=xs.take (k*1):=by
   rw[<-htake,alM,aiH (aiO _ om)]
  have hcur:((cur.toList.take (0+(k+1)*1)++xs.drop (k*1)++cur.toList.drop (0+(k+1)*1+(xs.drop (k*1)).length)).take (0+k*1)++new++(cur.toList.take (0+(k+1)*1)++xs.drop (k*1)++cur.toList.drop (0+(k+1)*1+(xs.drop (k*1)).length)).drop (0+k*1+new.length))
   =(xs.take (k*1)++new++xs.drop (k*1))++cur.toList.drop (0+(k+1)*1+(xs.drop (k*1)).length):=by
   have hlt:(cur.toList.take (0+(k+1)*1)).length=0+(k+1)*1:=by rw[ahE,hcl];omega
   rw[ahK (cur.toList.take (0+(k+1)*1))];rw[aoH (by rw[hlt];omega),alM,aiH om,ahJ,hck];rw[alC,ajC (show (cur.toList.take (0+(k+1)*1)).length<=k*1+new.length by rw[hlt,hl];omega),aiM];rw[show k*1+new.length - (cur.toList.take (0+(k+1)*1)).length=0 by rw[hlt,hl];omega,ajL];simp only[ahJ,ahK]
  rw[hcur] at ho;have ho:=ho.toU 1 (n+1) cap (by simp only[agZ,ahE,ahL,hcl,hl,hxl];omega) hroom' (by simp only[maxLen] at hcm;exact hcm);rw[ajP (show (xs.take (k*1)++new++xs.drop (k*1)).length=(n+1)*1 by simp only[agZ,ahE,ahL,hl,hxl];omega)] at ho;exact hK _ _ ⟨_,rfl,OwnS.back ho⟩
theorem ov_o {a b:Addr}{la ca lb cb:Nat}(hne:a.block≠b.block){tA tB:TypeId}{kA kB:Nat}(hsa:w.shape? a.block=some (tA,kA))(hsb:w.shape? b.block=some (tB,kB))(hkB:kB≠0)(hfa:w.frozen? a=false)(hfe:w.frozen? { block:=a.block,off:=kA }=false) :
  (gI (.func (.func 250) #[] #[]) #[.slice (some a) la ca,.slice (some b) lb cb]).run prog w=.ok (.value (.bool false)) w:=by
 have hx:(callFunc 250 #[.slice (some a) la ca,.slice (some b) lb cb]).run prog w=.ok (.value (.bool false)) w:=by
  rw[run_callFunc_extern (e:=Extern.SlicesOverlaps.overlaps #[23,23] #[4]) Tryz.func250 krx krx krx krx];rw[Lib.run_overlaps_apart w 23 4 25 ahN 6 (fun w=>by kernel_rfl) a b la ca lb cb hne tA tB kA kB hsa hsb hkB hfa hfe];rfl
 simpa[gI,invoke,Deferred.ofValue,resolve] using hx
theorem JL (v:Value)(n:Nat)(xs:List Value)(k nb:Nat)(new:List Value)(w:World)(hu:(Ent.urow 25 6 v n xs).is w)(hnb:w.heap[nb]?=some (.cells new.toArray 25 (0,0)))(hl:new.length=6)
  (hne:¬(Ent.urow 25 6 v n xs).blk nb) (h1:∀u∈xs,u.oneCell'=true) (h2:∀u∈new,u.oneCell'=true) (hk:k<=n) (hb:n<=100000000000) :
  Ret prog 202 #[v,.int .i64 (k:Int),.slice (some ⟨nb,0,none⟩) 1 1] w
   (fun v' w'=>∃e',e'=Ent.urow 25 6 v' (n+1) (xs.take (k*6)++new++xs.drop (k*6))∧Turn (.urow 25 6 v n xs) e' w w'):=by
 have hxl:xs.length=n*6:=(show w.ownsRow 0 25 6 v n xs from hu).1;have hs2:Sl w (.slice (some ⟨nb,0,none⟩) 1 1) 6 1 new:=⟨om,some ⟨nb,0,none⟩,1,rfl,fun h=>(by cases h),fun p hp=>by cases hp;exact⟨fun _=>rfl,fun j u hj=>by rw[ahJ];exact aG (T:=25) hnb hj⟩⟩;have ho:=OwnS.lend hu;refine aP fun K hK=>dS ?_;unfold bP dx bnx eqx mbx slx lnx ecx apx cx;have hel:elB prog 25 6 88=true:=krx
 have hsz:(Tryz.prog.info? 25).map (·.size)=some 6:=krx
 obtain⟨a,cap,rfl,hcap⟩:∃a cap,v=.slice a n cap∧n<=cap:=by
  rcases (show w.ownsRow 0 25 6 v n xs from hu).2 with ⟨rfl,rfl⟩|⟨g,cap,cur,rfl,_,_,hnc,_⟩
  ·exact⟨none,0,rfl,ahD _⟩
  ·exact⟨_,cap,rfl,hnc⟩
 refine aE (dJ ahN hsz om om) |>.mpr ?_;rw[bB ahN hs2];simp only[rs,Int.natCast_one,Int.one_ne_zero,agX];rw[bA ahN];simp only[rs];by_cases hkn:k=n
 ·subst hkn;simp only[agY,rs];refine cL 0 ahN hel dc ho rfl hs2 h2 om om fun v' w2 ho=>?_;refine hK _ _ ⟨_,rfl,?_⟩;have e:xs.take (k*6)++new++xs.drop (k*6)=xs++new:=by rw[aiF om,ajC om,ahV]
  rw[e];exact OwnS.back (L:=[]) ho
 have hlt:k < n:=om
 have hne':¬(k:Int)=(n:Int):=om
 simp only[hne',agX,rs];rcases (show w.ownsRow 0 25 6 (.slice a n cap) n xs from hu).2 with ⟨_,h0⟩|⟨g,cap',cur,he,hbg,hg,hnc,hcm,hcs,htake⟩
 ·omega
 injection he with he1 _ he2
 subst he1;subst he2;rw[aA om om,OR ahN];simp only[rs];have hgn:nb≠g:=fun e=>hne (by rw[e];rfl);have hcl:cur.toList.length=cap*6:=by simpa using hcs
 have hoc:OwnS (Ent.urow 25 6 (.slice (some ⟨g,0,none⟩) n cap) n xs).blk w w [.cells g cur.toList 25]:=
  ho.turn 0 rfl ⟨Grew.refl _ _,by show w.heap[g]?=_;rw[hg],fun j hj=>.inl (by simp only[Ent.cells] at hj;subst hj;rfl)⟩
 have hxc:∀j u,xs[j]?=some u->w.cell? ⟨g,0+j,none⟩=some u:=fun j u hj=>by
  rw[ahJ];exact hoc.cell 0 rfl j (by rw[<-htake] at hj;rw[ajT] at hj;split at hj<;>first|exact hj|cases hj)
 have htl:(xs.drop (k*6)).length=(n - k)*6:=by rw[ahL,hxl,<-amY]
 have h1t:∀u∈xs.drop (k*6),u.oneCell'=true:=fun u hu=>h1 u (akQ hu);by_cases hroom:(cap:Int) < (n:Int)+1
 ·simp only[hroom,agY,rs];refine aE (jD ahN hsz om om) |>.mpr ?_;rw[show subA (some (⟨g,0,none⟩:Addr)) 0 cap 6=some ⟨g,0,none⟩ from Ey (a:=⟨g,0,none⟩),ahI];rw[aA (n:=(n:Int)+1 - k) om om,show (n:Int)+1 - k=((n+1 - k:Nat):Int) by omega];refine SP (olds:=xs.take (k*6)) ahN aiX hel dc hoc (by rw[ahE,hxl,aiH om]) (fun j u hj=>hxc j u (by rw[ajT] at hj;split at hj<;>first|exact hj|cases hj)) om om om om fun b c zs w2 hc1 hc2 hzs ho=>?_;rw[show k+(n+1 - k)=n+1 by omega] at hc1 ⊢;have hol:(xs.take (k*6)).length=k*6:=by rw[ahE,hxl,aiH om]
  refine aE (dJ ahN hsz om om) |>.mpr ?_;rw[ahI,fC om];have hbg2:b≠g:=by
   have:=(ajF.1 ho.apart).1 (.cells g cur.toList 25) sm;intro e;exact this b rfl e
  have old2:∀{W:World} {b':Nat} {x y:List Value},OwnS (Ent.urow 25 6 (.slice (some ⟨g,0,none⟩) n cap) n xs).blk w W [.cells b' x 25,.cells g y 25]->W.heap[nb]?=some (.cells new.toArray 25 (0,0)):=fun h=>(h.grew.block nb (dR hnb) hne).trans hnb;refine tO 0 (src:=new) ahN hsz ho rfl ?_ (fun j u hj=>by rw[cC,ahJ];exact aG (T:=25) (old2 ho) hj) ?_ h2 fun _ w3 ho=>?_
  ·rw[hl,aiH om]
  ·rw[agZ,hol,hl];omega
  refine quiet ?_;refine qQ ?_;rw[aA om om,show (k:Int)+1=((k+1:Nat):Int) by omega];refine q_do _ (fun W=>dJ ahN hsz om om) ?_;refine q_do _ (fun W=>dJ ahN hsz om om) ?_;rw[ahI,ahI,fC om,fC om];intro w4 hw;have ho:=ho.grow hw;simp only[ahJ,ajP hol,alC,hol] at ho;rw[show k*6+new.length - k*6=6 by omega,ajC (show (xs.take (k*6)).length<=k*6+new.length by omega),aiM] at ho;refine tO 0 (src:=xs.drop (k*6)) ahN hsz ho rfl ?_ (fun j u hj=>?_) ?_ h1t fun _ w5 ho=>?_
  ·rw[htl];congr 1;rw[aiH om]
  ·rw[cC];refine ho.cell 1 rfl (0+k*6+j) ?_;rw[akG] at hj;rw[ahJ];rw[<-htake] at hj;rw[ajT] at hj;split at hj<;>first|exact hj|cases hj
  ·simp only[agZ,ahL,hol,hl,hxl];omega
  have hcur:((xs.take (k*6)++new++zs.drop 6).take (0+(k+1)*6)++xs.drop (k*6)++(xs.take (k*6)++new++zs.drop 6).drop (0+(k+1)*6+(xs.drop (k*6)).length))=(xs.take (k*6)++new++xs.drop (k*6))++(zs.drop 6).drop ((n - k)*6):=by
   rw[ajP (show (xs.take (k*6)++new).length=0+(k+1)*6 by rw[agZ,hol,hl];omega)];rw[alC,ajC (show (xs.take (k*6)++new).length<=_ by rw[agZ,hol,hl,htl];omega),aiM]
   congr 2
   rw[agZ,hol,hl,htl];omega
  simp only[ajX] at ho;rw[hcur] at ho;have ho:=ho.toU 6 (n+1) c (by simp only[agZ,ahL,hol,hl,hxl];omega) hc1 hc2;rw[ajP (show (xs.take (k*6)++new++xs.drop (k*6)).length=(n+1)*6 by simp only[agZ,ahL,hol,hl,hxl];omega)] at ho;exact hK _ _ ⟨_,rfl,OwnS.back ho⟩
 ·have hroom':n+1<=cap:=om
  simp only[hroom,agX,rs];rw[show (n:Int)+1=((n+1:Nat):Int) by omega];refine aE (jD ahN hsz om om) |>.mpr ?_;rw[show subA (some (⟨g,0,none⟩:Addr)) 0 cap 6=some ⟨g,0,none⟩ from Ey (a:=⟨g,0,none⟩),ahI];rw[aA (n:=(k:Int)+1) om om,show (k:Int)+1=((k+1:Nat):Int) by omega];refine aE (dJ ahN hsz om om) |>.mpr ?_;rw[ahI,fC om];refine aE (ov_o (a:=⟨nb,0,none⟩) (b:=⟨g,0+(k+1)*6,none⟩) hgn (tA:=25) (tB:=25) (kA:=new.length) (kB:=cur.size) (by simp[World.shape?,hnb]) (by simp[World.shape?,hg]) (by rw[hcs];omega) (by simp[World.frozen?,hnb]) (by simp[World.frozen?,hnb])) |>.mpr ?_;simp only[rs,aiR];refine quiet ?_;refine qQ ?_;rw[aA om om,show (k:Int)+1=((k+1:Nat):Int) by omega];refine q_do _ (fun W=>dJ ahN hsz om om) ?_;refine q_do _ (fun W=>dJ ahN hsz om om) ?_;rw[ahI,ahI,fC om,fC om];intro w3 hw;have ho:=hoc.grow hw;have hxcur:∀j u,(xs.drop (k*6))[j]?=some u->cur.toList[k*6+j]?=some u:=fun j u hj=>by
   rw[akG,<-htake,ajT] at hj;split at hj<;>first|exact hj|cases hj
  refine tO 0 (src:=xs.drop (k*6)) ahN hsz ho rfl ?_ (fun j u hj=>?_) ?_ h1t fun _ w4 ho=>?_
  ·rw[htl];congr 1;rw[Nat.min_eq_right om];omega
  ·rw[cC,ahJ];exact ho.cell 0 rfl _ (hxcur j u hj)
  ·rw[htl,hcl];have:(n - k)*6+(k+1)*6=(n+1)*6:=by rw[<-ajU];congr 1;omega
   have:(n+1)*6<=cap*6:=aiO _ hroom';omega
  simp only[ajX] at ho;refine aE (dJ ahN hsz om om) |>.mpr ?_;rw[ahI,fC om];have hnew:w4.heap[nb]?=some (.cells new.toArray 25 (0,0)):=(ho.grew.block nb (dR hnb) hne).trans hnb;have hkc:(k+1)*6<=cap*6:=aiO _ om;have hnc2:(n+1)*6<=cap*6:=aiO _ hroom';have hsum:(n - k)*6+(k+1)*6=(n+1)*6:=by rw[<-ajU];congr 1;omega
  refine tO 0 (src:=new) ahN hsz ho rfl ?_ (fun j u hj=>by rw[cC,ahJ];exact aG (T:=25) hnew hj) ?_ h2 fun _ w5 ho=>?_
  ·rw[hl,aiH om]
  ·simp only[agZ,ahE,ahL,hcl,hl,htl];omega
  simp only[ajX] at ho;have hck:cur.toList.take (k*6)=xs.take (k*6):=by
   rw[<-htake,alM,aiH (aiO _ om)]
  have hcur:((cur.toList.take (0+(k+1)*6)++xs.drop (k*6)++cur.toList.drop (0+(k+1)*6+(xs.drop (k*6)).length)).take (0+k*6)++new++(cur.toList.take (0+(k+1)*6)++xs.drop (k*6)++cur.toList.drop (0+(k+1)*6+(xs.drop (k*6)).length)).drop (0+k*6+new.length))
   =(xs.take (k*6)++new++xs.drop (k*6))++cur.toList.drop (0+(k+1)*6+(xs.drop (k*6)).length):=by
   have hlt:(cur.toList.take (0+(k+1)*6)).length=0+(k+1)*6:=by rw[ahE,hcl];omega
   rw[ahK (cur.toList.take (0+(k+1)*6))];rw[aoH (by rw[hlt];omega),alM,aiH om,ahJ,hck];rw[alC,ajC (show (cur.toList.take (0+(k+1)*6)).length<=k*6+new.length by rw[hlt,hl];omega),aiM];rw[show k*6+new.length - (cur.toList.take (0+(k+1)*6)).length=0 by rw[hlt,hl];omega,ajL];simp only[ahJ,ahK]
  rw[hcur] at ho;have ho:=ho.toU 6 (n+1) cap (by simp only[agZ,ahE,ahL,hcl,hl,hxl];omega) hroom' (by simp only[maxLen] at hcm;exact hcm);rw[ajP (show (xs.take (k*6)++new++xs.drop (k*6)).length=(n+1)*6 by simp only[agZ,ahE,ahL,hl,hxl];omega)] at ho;exact hK _ _ ⟨_,rfl,OwnS.back ho⟩
theorem JJ (v:Value)(n:Nat)(xs:List Value)(k:Nat)(w:World)(hu:(Ent.urow 9 1 v n xs).is w)(h1:∀u∈xs,u.oneCell'=true)(hk:k < n)(hb:n<=100000000000) :
  Ret prog 219 #[v,.int .i64 (k:Int),.int .i64 ((k+1:Nat):Int)] w
   (fun v' w'=>∃e',e'=Ent.urow 9 1 v' (n - 1) (xs.take (k*1)++xs.drop ((k+1)*1))∧Turn (.urow 9 1 v n xs) e' w w'):=by
 have hxl:xs.length=n*1:=(show w.ownsRow 0 9 1 v n xs from hu).1;have ho:=OwnS.lend hu;refine aP fun K hK=>jR ?_;unfold fR nz;have hel:elB prog 9 1 16=true:=krx
 have hsz:(Tryz.prog.info? 9).map (·.size)=some 1:=krx
 rcases (show w.ownsRow 0 9 1 v n xs from hu).2 with ⟨_,h0⟩|⟨g,cap,cur,rfl,hbg,hg,hnc,hcm,hcs,htake⟩
 ·omega
 have hcl:cur.toList.length=cap*1:=by simpa using hcs
 have hnc2:n*1<=cap*1:=aiO _ hnc;have hoc:OwnS (Ent.urow 9 1 (.slice (some ⟨g,0,none⟩) n cap) n xs).blk w w [.cells g cur.toList 9]:=
  ho.turn 0 rfl ⟨Grew.refl _ _,by show w.heap[g]?=_;rw[hg],fun j hj=>.inl (by simp only[Ent.cells] at hj;subst hj;rfl)⟩
 rw[bA ahM];refine aE (DY ahM hsz om om om om) |>.mpr ?_;have hne:¬(k:Int)=((k+1:Nat):Int):=om
 simp only[rs,hne,agX];rw[bA ahM];refine quiet ?_;refine q_do _ (fun W=>jD ahM hsz om om) ?_;refine q_do _ (fun W=>dJ ahM hsz om om) ?_;rw[show subA (some (⟨g,0,none⟩:Addr)) 0 cap 1=some ⟨g,0,none⟩ from Ey (a:=⟨g,0,none⟩),ahI,ahI];obtain⟨a,ha,hac⟩:∃a,subA (some (⟨g,0,none⟩:Addr)) (k+1) cap 1=some a∧(k+1 < cap->a=⟨g,(k+1)*1,none⟩):=by
  by_cases h:k+1 < cap
  ·exact⟨_,by rw[fC h,ahJ],fun _=>rfl⟩
  ·exact⟨⟨g,0,none⟩,by unfold subA;rw[agW om],fun h'=>absurd h' h⟩
 rw[ha];intro w3 hw;have ho:=hoc.grow hw;have htl:(xs.drop ((k+1)*1)).length=(n - (k+1))*1:=by rw[ahL,hxl,<-amY]
 have hkk:(k+1)*1<=n*1:=aiO _ om;have hsum:k*1+(n - (k+1))*1=(n - 1)*1:=by rw[<-ajU];congr 1;omega
 have hn1:(n - 1)*1+1=n*1:=by rw[<-akA];congr 1;omega
 refine IJ 0 (news:=xs.drop ((k+1)*1)) ahM hel ho rfl htl (fun j u hj=>?_) (fun u hu=>h1 u (akQ hu)) om (by rw[htl,hcl];omega) fun w4 ho=>?_
 ·have hjl:j < (xs.drop ((k+1)*1)).length:=(ahQ.1 hj).1;have hlt:k+1 < cap:=by
   rcases ahY (k+1) n with h|h
   ·omega
   ·rw[htl,show n - (k+1)=0 by omega] at hjl;omega
  rw[hac hlt,cC];refine ho.cell 0 rfl _ ?_;rw[akG,<-htake,ajT] at hj;split at hj<;>first|exact hj|cases hj
 simp only[ajX] at ho;rw[bA ahM];rw[show k+(n - (k+1))=n - 1 by omega];refine aE (Lz ahM hsz om om om) |>.mpr ?_;rw[ahI,ahI,fC om,ahJ,show n - (n - 1)=1 by omega];have hck:cur.toList.take (k*1)=xs.take (k*1):=by
  rw[<-htake,alM,aiH (aiO _ om)]
 have hkl:(xs.take (k*1)).length=k*1:=by rw[ahE,hxl,aiH om]
 rw[hck] at ho;have hal:(xs.take (k*1)++xs.drop ((k+1)*1)).length=(n - 1)*1:=by rw[agZ,hkl,htl,hsum]
 refine Nw 0 ahM hel (show zB prog 9=true by kernel_rfl) om ho rfl (by simp only[agZ,ahL,hcl,hkl,hxl];omega) fun _ w5 zs hzs ho=>?_;simp only[ajX] at ho;rw[ajP hal,ahK (xs.take (k*1)++xs.drop ((k+1)*1))] at ho;have ho:=ho.toU 1 (n - 1) cap (by simp only[agZ,ahL,hcl,hkl,hxl,hzs];omega) om (by simp only[maxLen] at hcm;exact hcm);rw[ajP hal] at ho;exact hK _ _ ⟨_,rfl,OwnS.back ho⟩
theorem JB (v:Value)(n:Nat)(xs:List Value)(k:Nat)(w:World)(hu:(Ent.urow 25 6 v n xs).is w)(h1:∀u∈xs,u.oneCell'=true)(hk:k < n)(hb:n<=100000000000) :
  Ret prog 220 #[v,.int .i64 (k:Int),.int .i64 ((k+1:Nat):Int)] w
   (fun v' w'=>∃e',e'=Ent.urow 25 6 v' (n - 1) (xs.take (k*6)++xs.drop ((k+1)*6))∧Turn (.urow 25 6 v n xs) e' w w'):=by
 have hxl:xs.length=n*6:=(show w.ownsRow 0 25 6 v n xs from hu).1;have ho:=OwnS.lend hu;refine aP fun K hK=>dV ?_;unfold bS nz;have hel:elB prog 25 6 88=true:=krx
 have hsz:(Tryz.prog.info? 25).map (·.size)=some 6:=krx
 rcases (show w.ownsRow 0 25 6 v n xs from hu).2 with ⟨_,h0⟩|⟨g,cap,cur,rfl,hbg,hg,hnc,hcm,hcs,htake⟩
 ·omega
 have hcl:cur.toList.length=cap*6:=by simpa using hcs
 have hnc2:n*6<=cap*6:=aiO _ hnc;have hoc:OwnS (Ent.urow 25 6 (.slice (some ⟨g,0,none⟩) n cap) n xs).blk w w [.cells g cur.toList 25]:=
  ho.turn 0 rfl ⟨Grew.refl _ _,by show w.heap[g]?=_;rw[hg],fun j hj=>.inl (by simp only[Ent.cells] at hj;subst hj;rfl)⟩
 rw[bA ahN];refine aE (DY ahN hsz om om om om) |>.mpr ?_;have hne:¬(k:Int)=((k+1:Nat):Int):=om
 simp only[rs,hne,agX];rw[bA ahN];refine quiet ?_;refine q_do _ (fun W=>jD ahN hsz om om) ?_;refine q_do _ (fun W=>dJ ahN hsz om om) ?_;rw[show subA (some (⟨g,0,none⟩:Addr)) 0 cap 6=some ⟨g,0,none⟩ from Ey (a:=⟨g,0,none⟩),ahI,ahI];obtain⟨a,ha,hac⟩:∃a,subA (some (⟨g,0,none⟩:Addr)) (k+1) cap 6=some a∧(k+1 < cap->a=⟨g,(k+1)*6,none⟩):=by
  by_cases h:k+1 < cap
  ·exact⟨_,by rw[fC h,ahJ],fun _=>rfl⟩
  ·exact⟨⟨g,0,none⟩,by unfold subA;rw[agW om],fun h'=>absurd h' h⟩
 rw[ha];intro w3 hw;have ho:=hoc.grow hw;have htl:(xs.drop ((k+1)*6)).length=(n - (k+1))*6:=by rw[ahL,hxl,<-amY]
 have hkk:(k+1)*6<=n*6:=aiO _ om;have hsum:k*6+(n - (k+1))*6=(n - 1)*6:=by rw[<-ajU];congr 1;omega
 have hn1:(n - 1)*6+6=n*6:=by rw[<-akA];congr 1;omega
 refine IJ 0 (news:=xs.drop ((k+1)*6)) ahN hel ho rfl htl (fun j u hj=>?_) (fun u hu=>h1 u (akQ hu)) om (by rw[htl,hcl];omega) fun w4 ho=>?_
 ·have hjl:j < (xs.drop ((k+1)*6)).length:=(ahQ.1 hj).1;have hlt:k+1 < cap:=by
   rcases ahY (k+1) n with h|h
   ·omega
   ·rw[htl,show n - (k+1)=0 by omega] at hjl;omega
  rw[hac hlt,cC];refine ho.cell 0 rfl _ ?_;rw[akG,<-htake,ajT] at hj;split at hj<;>first|exact hj|cases hj
 simp only[ajX] at ho;rw[bA ahN];rw[show k+(n - (k+1))=n - 1 by omega];refine aE (Lz ahN hsz om om om) |>.mpr ?_;rw[ahI,ahI,fC om,ahJ,show n - (n - 1)=1 by omega];have hck:cur.toList.take (k*6)=xs.take (k*6):=by
  rw[<-htake,alM,aiH (aiO _ om)]
 have hkl:(xs.take (k*6)).length=k*6:=by rw[ahE,hxl,aiH om]
 rw[hck] at ho;have hal:(xs.take (k*6)++xs.drop ((k+1)*6)).length=(n - 1)*6:=by rw[agZ,hkl,htl,hsum]
 refine Nw 0 ahN hel (show zB prog 25=true by kernel_rfl) om ho rfl (by simp only[agZ,ahL,hcl,hkl,hxl];omega) fun _ w5 zs hzs ho=>?_;simp only[ajX] at ho;rw[ajP hal,ahK (xs.take (k*6)++xs.drop ((k+1)*6))] at ho;have ho:=ho.toU 6 (n - 1) cap (by simp only[agZ,ahL,hcl,hkl,hxl,hzs];omega) om (by simp only[maxLen] at hcm;exact hcm);rw[ajP hal] at ho;exact hK _ _ ⟨_,rfl,OwnS.back ho⟩
end
section
open Eng
def Eh(t0 w)(K:KT):=nz Tryz.f69 1 [] [] [] (zg [0] [t0]) w K
theorem Gg{t0 w K}(h:Eh t0 w K):Calls prog 69 #[t0] w K:=cw Tryz.func69 h
def CX(t0 w)(K:KT):=nz Tryz.f141 1 [] [] [] (zg [0] [t0]) w K
theorem EG{t0 w K}(h:CX t0 w K):Calls prog 141 #[t0] w K:=cw Tryz.func141 h
def CD(t0 w)(K:KT):=nz Tryz.f139 1 [] [] [] (zg [0] [t0]) w K
theorem E3{t0 w K}(h:CD t0 w K):Calls prog 139 #[t0] w K:=cw Tryz.func139 h
def Cy(t0 w)(K:KT):=nz Tryz.f138 1 [] [] [] (zg [0] [t0]) w K
theorem E4{t0 w K}(h:Cy t0 w K):Calls prog 138 #[t0] w K:=cw Tryz.func138 h
def As(t3 t6 w)(K:KT):=nz Tryz.f140 63 [] [] [] (zg [3,6] [t3,t6]) w K
def EB(t0 t1 t2 w)(K:KT):=nz Tryz.f140 1 [] [(16,[],fun s v j w f=>As (s 3) (s 6) w K)] [] (zg [0,1,2] [t0,t1,t2]) w K
theorem Gn{t0 t1 t2 w K}(h:EB t0 t1 t2 w K):Calls prog 140 #[t0,t1,t2] w K:=cz [(8,[])] [] Tryz.func140 h
def xF(t0 t1 w)(K:KT):=nz Tryz.f155 1 [] [] [] (zg [0,1] [t0,t1]) w K
theorem BJ{t0 t1 w K}(h:xF t0 t1 w K):Calls prog 155 #[t0,t1] w K:=cw Tryz.func155 h
def Ge(t0 t1 w)(K:KT):=nz Tryz.f146 1 [] [] [] (zg [0,1] [t0,t1]) w K
theorem Hw{t0 t1 w K}(h:Ge t0 t1 w K):Calls prog 146 #[t0,t1] w K:=cw Tryz.func146 h
def Gp(t0 t1 t2 w)(K:KT):=nz Tryz.f70 1 [] [] [] (zg [0,1,2] [t0,t1,t2]) w K
theorem HP{t0 t1 t2 w K}(h:Gp t0 t1 t2 w K):Calls prog 70 #[t0,t1,t2] w K:=cw Tryz.func70 h
def Av(t2 t4 w)(K:KT):=nz Tryz.f88 7 [] [] [] (zg [2,4] [t2,t4]) w K
def En(t0 t1 w)(K:KT):=nz Tryz.f88 1 [] [(10,[],fun s v j w f=>Av (s 2) (s 4) w K)] [] (zg [0,1] [t0,t1]) w K
theorem F7{t0 t1 w K}(h:En t0 t1 w K):Calls prog 88 #[t0,t1] w K:=cz [(5,[])] [] Tryz.func88 h
def C6(t0 w)(K:KT):=nz Tryz.f95 1 [] [] [] (zg [0] [t0]) w K
theorem E5{t0 w K}(h:C6 t0 w K):Calls prog 95 #[t0] w K:=cw Tryz.func95 h
def wQ(t0 w)(K:KT):=nz Tryz.f164 1 [] [] [] (zg [0] [t0]) w K
theorem Bo{t0 w K}(h:wQ t0 w K):Calls prog 164 #[t0] w K:=cw Tryz.func164 h
def sF(t2 t4 w)(K:KT):=nz Tryz.f163 31 [] [] [] (zg [2,4] [t2,t4]) w K
def rV(t1 t2 t5 t23 t24 t25 w)(J1 N2:JT)(K:KT):=nz Tryz.f163 1367 [J1,N2] [nh 22 [],nh 13 [25]] [] (zg [1,2,5,23,24,25] [t1,t2,t5,t23,t24,t25]) w K
def yR(t0 t1 w)(K:KT):=nz Tryz.f163 1 [] [(13,[25],fun s v j w f=>rV (s 1) (s 2) (s 5) (s 23) (s 24) (vg v 0) w (f 1) (f 0) K),(22,[],fun s v j w f=>sF (s 2) (s 4) w K)] [] (zg [0,1] [t0,t1]) w K
theorem Dg{t0 t1 w K}(h:yR t0 t1 w K):Calls prog 163 #[t0,t1] w K:=cz [(11,[])] [(6,[25])] Tryz.func163 h
end
section
open Go
namespace Vl
def used (k:Int):Option (Bool×Bool×Bool×Bool×Bool):=
 if k=0 then some (false,false,false,false,false)
 else if k=1∨k=2∨k=3 then some (true,false,false,false,false)
 else if k=4∨k=5 then some (false,false,true,false,false)
 else if k=6 then some (false,false,false,false,true)
 else if k=7 then some (false,false,false,true,true)
 else if k=8 then some (true,true,false,false,false)
 else if k=9 then some (false,false,true,true,true)
 else none
def fL (o:Ob):Bool:=
 match used o.k with
|none=>false
|some (n,g,s,ks,cs)=>(n||decide (o.n=0))&&(g||decide (o.g=0))&&(s||decide (o.s=[]))&&(ks||decide (o.keys=[]))&&(cs||decide (o.kids.length=0))
def fits (o:Ob):Bool:=
 if o.k=1 then decide (0<=o.n∧o.n<=1)
 else if o.k=2 then decide (-2147483647<=o.n∧o.n<=2147483647)
 else if o.k=3 then decide (-1073741824<=o.n∧o.n<=1073741824)
 else if o.k=8 then decide (1<=o.n∧o.n<=8191)&&decide (0<=o.g∧o.g<=65535)
 else true
def long (k:Int):Nat:=if k=5 then 127 else if k=9 then 1048576 else 32767
def name (s:List UInt8):Bool:=decide (s.length<=127)&&decide ((0:UInt8) ∉ s)
def lenK:List UInt8:=[76,101,110,103,116,104]
abbrev less (a b:List UInt8):Bool:=Op.bytesLess a b
def vX (o:Ob)(i:Nat):Bool:=
 name (o.keys.getD i [])&&(decide (i=0)||less (o.keys.getD (i - 1) []) (o.keys.getD i []))&&!(decide (o.k=9)&&decide (o.keys.getD i []=lenK))&&decide ((o.kids.getD i (.mk 0 0 0 [] [] [])).k≠0)
def rising (o:Ob):Bool:=decide (o.keys.length=o.kids.length)&&(List.range o.keys.length).all (vX o)
def form (o:Ob):Bool:=(!(decide (o.k=5))||name o.s)&&(!(decide (o.k=7∨o.k=9))||rising o)
def why (d:Nat)(o:Ob):Int:=
 if 24 < d then 7
 else if fL o=false∨(o.k=9∧1 < d) then 10
 else if fits o=false then 2
 else if long o.k < o.s.length then 5
 else if 8191 < o.kids.length then 6
 else if form o=false then 3
 else 0
 mutual
def check (d:Nat):Ob->Int
|.mk k n g s keys kids=>if why d (.mk k n g s keys kids)≠0 then why d (.mk k n g s keys kids) else lS (d+1) kids
def lS (d:Nat):List Ob->Int
|[]=>0
|o::os=>if check d o≠0 then check d o else lS d os
end
theorem Ce (d:Nat)(o:Ob):check d o=if why d o≠0 then why d o else lS (d+1) o.kids:=by cases o;rw[check];rfl
 mutual
def size:Ob->Nat
|.mk _ _ _ s keys kids=>1+s.length / 50+(keys.map fun k=>k.length / 50).sum+oY kids
def oY:List Ob->Nat
|[]=>0
|o::os=>size o+oY os
end
theorem size_eq (o:Ob):size o=1+o.s.length / 50+(o.keys.map fun k=>k.length / 50).sum+oY o.kids:=by cases o;rw[size];rfl
theorem aeU (l:List (List UInt8)):(l.map fun k=>k.length / 50).sum<=Pl.tot l:=by
 induction l with
|nil=>simp
|cons a l ih=>simp only[Pl.tot,aiW,akX] at ih ⊢;omega
 mutual
theorem Sw:∀o:Ob,size o<=o.wt
|.mk k n g s keys kids=>by
  have:=OP kids;have:=aeU keys;rw[size,Ob.wt];omega
theorem OP:∀os:List Ob,oY os<=Ob.wts os
|[]=>by rw[oY,Ob.wts];omega
|o::os=>by
  have:=Sw o;have:=OP os;rw[oY,Ob.wts];omega
end
end Vl
end
section
open Go
namespace Vl
theorem Ju (a b:List UInt8):less a b=true↔a < b:=by rw[less,bytesLess_eq,aiI]
theorem nH {a b c:List UInt8}(h:less a b=true)(k:less b c=true):less a c=true:=by
 rw[Ju] at *;exact List.lt_trans h k
theorem sV (a:List UInt8):less a a=false:=by
 cases h:less a a with
|false=>rfl
|true=>rw[Ju] at h;exact absurd h (List.lt_irrefl _)
theorem Pv {a b:List UInt8}(h:less a b=false)(h':a≠b):less b a=true:=by
 have h1:¬a < b:=by rw[<-Ju,h];simp
 rw[Ju];rcases Classical.em (b < a) with h2|h2
 ·exact h2
 ·exact absurd (List.le_antisymm (List.not_lt.1 h2) (List.not_lt.1 h1)) h'
def Rise (l:List (List UInt8)):Prop:=l.Pairwise fun a b=>less a b=true
def place (l:List (List UInt8))(x:List UInt8):Nat:=(l.takeWhile fun k=>less k x).length
def hit (l:List (List UInt8))(x:List UInt8):Bool:=decide (l[place l x]?=some x)
theorem Em {α:Type}{p:α->Bool}:∀(l:List α) (i:Nat),i<=l.length->(∀m (h:m < l.length),m < i->p l[m]=true)->(∀h:i < l.length,p l[i]=false)->(l.takeWhile p).length=i
|[],i,hi,_,_=>by simp at hi;simp[hi]
|a::l,0,_,_,h=>by
  have:=h sm;rw[anQ] at this;simp[anR,this]
|a::l,i+1,hi,h1,h2=>by
  have h0:=h1 0 sm om;rw[anQ] at h0;rw[anR,h0];simp only[if_true,ahU];rw[Em l i (by simpa using hi) (fun m hm hmi=>by
   have:=h1 (m+1) (by simpa using hm) om
   rwa [anS] at this) (fun h=>by
   have:=h2 (by simpa using h)
   rwa [anS] at this)]
theorem zH (l:List (List UInt8))(x:List UInt8):place l x<=l.length:=(List.takeWhile_prefix _).length_le
theorem Nv {l:List (List UInt8)}{x:List UInt8}(hi:i<=l.length)(h1:∀m (h:m < l.length),m < i->less l[m] x=true)(h2:∀h:i < l.length,less l[i] x=false):place l x=i:=Em l i hi h1 h2
theorem Na {l:List (List UInt8)}{x:List UInt8}(h:m < place l x):less (l[m]'(ajE h (zH l x))) x=true:=by
 unfold place at h;have hm:=List.all_takeWhile (l:=l) (p:=fun k=>less k x);have h1:(l.takeWhile fun k=>less k x)[m]∈l.takeWhile fun k=>less k x:=ahP h;have h2:=ajS.1 hm _ h1;have h3:(l.takeWhile fun k=>less k x)[m]=l[m]'(ajE h (zH l x)):=by
  have hp:(l.takeWhile fun k=>less k x) <+: l:=List.takeWhile_prefix _;exact hp.getElem h
 rw[h3] at h2;exact h2
theorem Va {l:List (List UInt8)}{x:List UInt8}(h:place l x < l.length):less l[place l x] x=false:=by
 unfold place at h ⊢
 induction l with
|nil=>simp at h
|cons a l ih=>
  cases ha:less a x with
 |false=>simp only[anR,ha];simpa using ha
 |true=>
   simp only[anR,ha,if_true,ahU] at h ⊢;rw[anS];exact ih (by simpa using h)
theorem pO {l:List (List UInt8)}(h:Rise l)(hij:i < j)(hj:j < l.length):less (l[i]'(om)) l[j]=true:=alL.1 h i j om hj hij
def ob0:Ob:=.mk 0 0 0 [] [] []
def keyed (o:Ob):Bool:=decide (o.k=7)||decide (o.k=9)
def get (o:Ob)(key:List UInt8):Option Ob:=if keyed o then (if o.keys.idxOf key < o.keys.length then o.kids[o.keys.idxOf key]? else none) else none
def put (o:Ob)(key:List UInt8)(v:Ob):Ob:=
 .mk o.k o.n o.g o.s (o.keys.take (place o.keys key)++key::o.keys.drop (place o.keys key+if hit o.keys key then 1 else 0)) (o.kids.take (place o.keys key)++v::o.kids.drop (place o.keys key+if hit o.keys key then 1 else 0))
def cN (key:List UInt8):List (List UInt8)->List Ob->List (List UInt8)×List Ob
|k::ks,c::cs=>if k=key then cN key ks cs else (k::(cN key ks cs).1,c::(cN key ks cs).2)
|_,_=>([],[])
def aJ (o:Ob)(key:List UInt8):Ob:=.mk o.k o.n o.g o.s (cN key o.keys o.kids).1 (cN key o.keys o.kids).2
def right (o:Ob):Ob×Int:=if check 1 o≠0 then (ob0,check 1 o) else (o,0)
def set (o:Ob)(key:List UInt8)(v:Ob):Ob×Int:=
 if keyed o=false then (ob0,10) else if check 1 o≠0 then (ob0,check 1 o) else if v.k=0 then (aJ o key,0) else right (put o key v)
theorem kN {o:Ob}(h:check d o=0)(hk:keyed o=true):Rise o.keys∧o.keys.length=o.kids.length:=by
 rw[Ce] at h;split at h
 ·rename_i hw;exact absurd h hw
 ·rename_i hw
  have hw:=anT.1 hw;unfold why at hw;split at hw
  ·cases hw
  split at hw
  ·cases hw
  split at hw
  ·cases hw
  split at hw
  ·cases hw
  split at hw
  ·cases hw
  split at hw
  ·cases hw
  rename_i hf
  have hf:form o=true:=by simpa using hf
  have h79:o.k=7∨o.k=9:=by
   unfold keyed at hk;simpa using hk
  have hr:rising o=true:=by
   unfold form at hf;simp only[ahR] at hf;have:=hf.2;rw[ahB h79] at this;simpa using this
  unfold rising at hr;simp only[ahR,aiI] at hr;refine⟨?_,hr.1⟩;have step:∀i,i+1 < o.keys.length->less (o.keys.getD i []) (o.keys.getD (i+1) [])=true:=by
   intro i hi;have:=ajS.1 hr.2 (i+1) (aiV.2 hi);unfold vX at this;simp only[ahR,alH] at this;have:=this.1.1.2;rcases this with h0|h0
   ·have:=ahO h0;omega
   ·simpa using h0
  have gd:∀i (h:i < o.keys.length),o.keys.getD i []=o.keys[i]:=fun i h=>by rw[ahC,ahH h];rfl
  refine alL.2 fun i j hi hj hij=>?_;have:∀d,∀j (hj:j < o.keys.length),j=i+1+d->less o.keys[i] o.keys[j]=true:=by
   intro d
   induction d with
  |zero=>
    intro j hj he;have:=step i om;rw[gd i hi,gd (i+1) om] at this;subst he;exact this
  |succ d ih=>
    intro j hj he;have h1:=ih (i+1+d) om rfl;have h2:=step (i+1+d) om;rw[gd _ om,gd _ om] at h2;subst he;exact nH h1 h2
  exact this (j - (i+1)) j hj om
theorem D5 {key:List UInt8}:∀{ks:List (List UInt8)} {cs:List Ob},ks.length=cs.length->key ∉ ks->cN key ks cs=(ks,cs)
|[],[],_,_=>rfl
|k::ks,c::cs,hl,hn=>by
  rw[cN,agV (fun e=>hn (by simp[e])),D5 (by simpa using hl) (fun h=>hn (by simp[h]))]
|[],_::_,hl,_=>by simp at hl
|_::_,[],hl,_=>by simp at hl
theorem OD {key:List UInt8}:∀{ks:List (List UInt8)} {cs:List Ob} {i:Nat},ks.length=cs.length->ks[i]?=some key->(∀m (h:m < ks.length),m≠i->ks[m]≠key)->cN key ks cs=(ks.take i++ks.drop (i+1),cs.take i++cs.drop (i+1))
|[],[],_,_,h,_=>by simp at h
|k::ks,c::cs,0,hl,h,hn=>by
  simp only[amD,akR] at h;rw[cN,agW h,D5 (by simpa using hl)]
  ·simp
  ·intro hm;obtain⟨m,hml,rfl⟩:=akH hm;exact hn (m+1) (by simpa using hml) om sm
|k::ks,c::cs,i+1,hl,h,hn=>by
  have h0:=hn 0 sm om;rw[anQ] at h0;rw[cN,agV h0,OD (i:=i) (by simpa using hl) (by simpa using h) (fun m hm hmi=>by
   have:=hn (m+1) (by simpa using hm) om
   rwa [anS] at this)]
  simp
|[],_::_,_,hl,_,_=>by simp at hl
|_::_,[],_,hl,_,_=>by simp at hl
theorem YB {l:List (List UInt8)}(h:Rise l)(hi:i < l.length)(hj:j < l.length)(hij:i≠j):l[i]≠l[j]:=by
 intro e;rcases ahY i j with h1|h1
 ·have:=pO h h1 hj;rw[e,sV] at this;cases this
 ·have:=pO h (show j < i by omega) hi;rw[e,sV] at this;cases this
theorem XK {l:List (List UInt8)}(h:Rise l){x:List UInt8}(hh:hit l x=false):x ∉ l:=by
 intro hm;obtain⟨m,hml,rfl⟩:=akH hm;have hp:place l l[m]=m:=Nv om (fun j hj hjm=>pO h hjm hml) (fun _=>sV _);unfold hit at hh;rw[hp,ahH hml] at hh;simp at hh
theorem PA {o:Ob}(h:check d o=0)(hk:keyed o=true)(key:List UInt8):aJ o key=if hit o.keys key then .mk o.k o.n o.g o.s (o.keys.take (place o.keys key)++o.keys.drop (place o.keys key+1)) (o.kids.take (place o.keys key)++o.kids.drop (place o.keys key+1)) else o:=by
 obtain⟨hr,hl⟩:=kN h hk;cases hh:hit o.keys key with
|true=>
  have hi:o.keys[place o.keys key]?=some key:=ahO hh;have hlt:place o.keys key < o.keys.length:=(ahQ.1 hi).1;have hg:o.keys[place o.keys key]=key:=(ahQ.1 hi).2;unfold aJ;rw[OD hl hi (fun m hm hne=>by rw[<-hg];exact YB hr hm hlt hne)];rfl
|false=>
  unfold aJ;rw[D5 hl (XK hr hh)];cases o;rfl
end Vl
end
section
open Eng
def fK(t0 t1 t7 t8 w)(N1:JT)(K:KT):=nz Tryz.f207 21 [N1] [nh 5 [8]] [] (zg [0,1,7,8] [t0,t1,t7,t8]) w K
def fW(t0 t1 w)(K:KT):=nz Tryz.f207 1 [] [(5,[8],fun s v j w f=>fK (s 0) (s 1) (s 7) (vg v 0) w (f 0) K)] [] (zg [0,1] [t0,t1]) w K
theorem kO{t0 t1 w K}(h:fW t0 t1 w K):Calls prog 207 #[t0,t1] w K:=cz [] [(2,[8])] Tryz.func207 h
end
section
open Eng Go.RowKit
theorem Ul:eF prog 9=true:=krx
theorem WY {l:List (List UInt8)}{x:List UInt8}(h:i < l.length)(hn:x ∉ l.take i)(he:l[i]=x):l.idxOf x=i:=by
 have e:l=l.take i++(l[i]::l.drop (i+1)):=by
  rw[<-ajB h,aiJ]
 rw[e,List.idxOf_append,agV hn,he,List.idxOf_cons_self,ahE];omega
theorem P4 (va:Value)(l:List (List UInt8))(x:List UInt8)(w:World)(ha:Sl w va 1 l.length (bG l))(hl:l.length<=1099511627776) :
  Ret prog 207 #[va,.string ⟨x.toArray⟩] w (fun v w'=>v=.int .i64 (if l.idxOf x < l.length then (l.idxOf x:Int) else -1)∧w=w'):=by
 refine aP fun K hK=>kO ?_;unfold fW nz;rw[bB ahM ha];refine loop (fun vs w'=>∃(i:Nat),vs=[.int .i64 i]∧i<=l.length∧x ∉ l.take i∧w=w') (fun vs _=>l.length - n0 vs) ⟨0,rfl,om,sm,rfl⟩ ?_;rintro vs w2 ⟨i,rfl,hi,hm,rfl⟩ _;simp only[fK,gd,rs,nz];by_cases hlt:(i:Int) < (l.length:Int)
 ·have hi':i < l.length:=om
  simp only[hlt,agY,rs];refine Gz (.string ⟨(l[i]).toArray⟩) ahM krx ha om (by rw[ahI];exact eM hi') fun q hq=>?_;rw[aO Ul hq];simp only[rs];by_cases he:x=l[i]
  ·simp only[<-he,agY,rs];have:=WY hi' hm he.symm;exact hK _ _ ⟨by rw[this,agW hi'],rfl⟩
  ·simp only[he,agX,rs];rw[aA om om];refine aY ⟨i+1,rfl,om,?_,rfl⟩ (by simp[n0,RowKit.intOf];omega);rw[List.take_add_one,ahH hi'];simp only[Option.toList,aiC,aiA,not_or];exact⟨hm,he⟩
 ·simp only[hlt,agX,i_f];rw[aiF om] at hm;exact hK _ _ ⟨by rw[agV (by rw[apD];exact hm)],rfl⟩
end
section
open Eng Go.RowKit
def obC (o:Ob)(vk vc:Value):List Value:=[.int .i64 o.k,.int .i64 o.n,.int .i64 o.g,.string ⟨o.s.toArray⟩,vk,vc]
def obV (o:Ob)(vk vc:Value):Value:=.agg (obC o vk vc).toArray
def obE (b:Nat)(o:Ob)(vk vc:Value):Ent:=.cells b (obC o vk vc) 25
structure ObAt (A:Nat->Prop) (w:World) (o:Ob) (vk vc:Value) (cs:List Value):Prop where
 keys:SlA A w vk 1 o.keys.length (bG o.keys)
 kids:SlA A w vc 6 o.kids.length cs
 all:OVs A w cs o.kids
theorem OV.open {o:Ob}(h:OV A w v o):∃vk vc cs,v=obV o vk vc∧ObAt A w o vk vc cs:=by
 cases o with
|mk k n g s keys kids=>
  rw[OV] at h;obtain⟨vk,vc,cs,rfl,h1,h2,h3⟩:=h;exact⟨vk,vc,cs,rfl,h1,h2,h3⟩
theorem ObAt.ov {o:Ob}(h:ObAt A w o vk vc cs):OV A w (obV o vk vc) o:=by
 cases o with
|mk k n g s keys kids=>
  rw[OV];exact⟨vk,vc,cs,rfl,h.keys,h.kids,h.all⟩
theorem ObAt.kept {A:Nat->Prop}{w w':World}{o:Ob}{vk vc:Value}{cs:List Value}(h:ObAt A w o vk vc cs)(hk:Kept A w w'):ObAt A w' o vk vc cs:=
 ⟨h.keys.kept hk,h.kids.kept hk,OVs.kept hk _ _ h.all⟩
theorem Pn (hA:∀b,A b->b < w.heap.size)(h:Below w.heap.size w w'):Kept A w w':=fun b hb=>h.block b (hA b hb)
theorem OwnS.keptIn (h:Own w0 w L):Kept (InW w0) w0 w:=Pn (fun _ h=>h) h.done
theorem OV.own {o:Ob}(h:OV (InW w0) w0 v o)(ho:Own w0 w L):OV (InW w0) w v o:=OV.kept (OwnS.keptIn ho) o v h
theorem OV.at_ {o:Ob}(h:OV (InW w0) w0 v o)(ho:Own w0 w L):OV (InW w) w v o:=OV.mono (fun _ hb=>ajE hb ho.size) o v (h.own ho)
theorem ObAt.own {o:Ob}(h:ObAt (InW w0) w0 o vk vc cs)(ho:Own w0 w L):ObAt (InW w0) w o vk vc cs:=h.kept (OwnS.keptIn ho)
theorem SlA.one {n:Nat}(h:SlA A w v sz n cs):v.oneCell'=true:=by
 obtain⟨⟨_,a,cap,rfl,_⟩,_⟩:=h;rfl
theorem tI:aggN prog 25=some 6:=krx
theorem szOb:(Tryz.prog.info? 25).map (·.size)=some 6:=krx
theorem agM:eF prog 23=true:=krx
theorem Mn:eF prog 22=true:=krx
theorem nI65:eF prog 2=true:=krx
theorem cI:eF prog 3=true:=krx
theorem HI:eF prog 9=true:=krx
theorem acB:fOff prog 25 0=some 0:=krx
theorem afB:fOff prog 25 1=some 1:=krx
theorem adV:fOff prog 25 2=some 2:=krx
theorem Zd:fOff prog 25 3=some 3:=krx
theorem acS:fOff prog 25 4=some 4:=krx
theorem adD:fOff prog 25 5=some 5:=krx
section
variable {w:World}{PK:PKT}{K:VWP}{S:Nat->Prop}{w0:World}{L:List Ent}
theorem fI {off:Nat}:DoX prog (mFA 25 (.pointer (some ⟨b,off,none⟩)) 0) w PK K=K (.pointer (some ⟨b,off,none⟩)) w:=aK acB
theorem DI {off:Nat}:DoX prog (mFA 25 (.pointer (some ⟨b,off,none⟩)) 1) w PK K=K (.pointer (some ⟨b,off+1,none⟩)) w:=aK afB
theorem Se {off:Nat}:DoX prog (mFA 25 (.pointer (some ⟨b,off,none⟩)) 2) w PK K=K (.pointer (some ⟨b,off+2,none⟩)) w:=aK adV
theorem C5 {off:Nat}:DoX prog (mFA 25 (.pointer (some ⟨b,off,none⟩)) 3) w PK K=K (.pointer (some ⟨b,off+3,none⟩)) w:=aK Zd
theorem mJ {off:Nat}:DoX prog (mFA 25 (.pointer (some ⟨b,off,none⟩)) 4) w PK K=K (.pointer (some ⟨b,off+4,none⟩)) w:=aK acS
theorem jP {off:Nat}:DoX prog (mFA 25 (.pointer (some ⟨b,off,none⟩)) 5) w PK K=K (.pointer (some ⟨b,off+5,none⟩)) w:=aK adD
theorem eW (o:Ob)(hk:vk.oneCell'=true)(hc:vc.oneCell'=true)(ho:OwnS S w0 w L)(k:∀b w',OwnS S w0 w' (obE b o vk vc::L)->K (.pointer (some ⟨b,0,none⟩)) w'):DoX prog (mBox 25 (obV o vk vc)) w PK K:=by
 cases vk<;>first|(cases hk;done)|skip
 all_goals cases vc<;>first|(cases hc;done)|exact bC (fun b=>.pointer (some ⟨b,0,none⟩)) (obC o _ _) 25 (fun _=>by kernel_rfl) ho k
def ob0:Ob:=.mk 0 0 0 [] [] []
theorem eX (ho:OwnS S w0 w L)(k:∀b w',OwnS S w0 w' (obE b ob0 (.slice none 0 0) (.slice none 0 0)::L)->K (.pointer (some ⟨b,0,none⟩)) w'):DoX prog (Da 25) w PK K:=
 bC (fun b=>.pointer (some ⟨b,0,none⟩)) (obC ob0 (.slice none 0 0) (.slice none 0 0)) 25 (fun _=>by kernel_rfl) ho k
theorem DG (o:Ob)(hk:vk.oneCell'=true)(hc:vc.oneCell'=true):∀v∈obC o vk vc,v.oneCell'=true:=by
 intro v hv;simp only[obC,ahG,ajH,or_false] at hv;rcases hv with rfl|rfl|rfl|rfl|rfl|rfl<;>first|rfl|assumption
theorem bD (i:Nat){o o':Ob}{vk' vc':Value}(hk:vk'.oneCell'=true)(hc:vc'.oneCell'=true)(ho:OwnS S w0 w L)(hi:L[i]?=some (obE b o vk vc))(k:∀w',OwnS S w0 w' (L.set i (obE b o' vk' vc'))->K undef w') :
  DoX prog (aS 25 (.pointer (some ⟨b,0,none⟩)) (obV o' vk' vc')) w PK K:=iE i ho hi (new:=obC o' vk' vc') szOb (DG o' hk hc) rfl k
theorem ob_k (ho:OwnS S w0 w L)(i:Nat){o:Ob}(hi:L[i]?=some (obE b o vk vc)):DoX prog (aI 3 (.pointer (some ⟨b,0,none⟩))) w PK K=K (.int .i64 o.k) w:=aO cI (ho.cell i hi 0 rfl)
theorem ob_n (ho:OwnS S w0 w L)(i:Nat){o:Ob}(hi:L[i]?=some (obE b o vk vc)):DoX prog (aI 2 (.pointer (some ⟨b,0+1,none⟩))) w PK K=K (.int .i64 o.n) w:=aO nI65 (ho.cell i hi 1 rfl)
theorem ob_g (ho:OwnS S w0 w L)(i:Nat){o:Ob}(hi:L[i]?=some (obE b o vk vc)):DoX prog (aI 3 (.pointer (some ⟨b,0+2,none⟩))) w PK K=K (.int .i64 o.g) w:=aO cI (ho.cell i hi 2 rfl)
theorem ob_s (ho:OwnS S w0 w L)(i:Nat){o:Ob}(hi:L[i]?=some (obE b o vk vc)):DoX prog (aI 9 (.pointer (some ⟨b,0+3,none⟩))) w PK K=K (.string ⟨o.s.toArray⟩) w:=aO HI (ho.cell i hi 3 rfl)
theorem eR (ho:OwnS S w0 w L)(i:Nat){o:Ob}(hi:L[i]?=some (obE b o vk vc)):DoX prog (aI 22 (.pointer (some ⟨b,0+4,none⟩))) w PK K=K vk w:=aO Mn (ho.cell i hi 4 rfl)
theorem cZ (ho:OwnS S w0 w L)(i:Nat){o:Ob}(hi:L[i]?=some (obE b o vk vc)):DoX prog (aI 23 (.pointer (some ⟨b,0+5,none⟩))) w PK K=K vc w:=aO agM (ho.cell i hi 5 rfl)
theorem ob_v (ho:OwnS S w0 w L)(i:Nat){o:Ob}(hi:L[i]?=some (obE b o vk vc)):DoX prog (aI 25 (.pointer (some ⟨b,0,none⟩))) w PK K=K (obV o vk vc) w:=l_at (ho.agg i hi tI)
theorem Ym {os:List Ob}{PK2:PKT}(hs:Sl w vc 6 os.length cs)(hall:OVs A w cs os)(hi:i < os.length)
  (k:∀v,OV A w v os[i]->K v w):DoX prog (mIA 23 vc (.int .i64 (i:Int))) w PK fun t w=>DoX prog (aI 25 t) w PK2 K:=by
 obtain⟨b,off,cap,rfl,hc⟩:=cB hs om;refine aE (eE ahN szOb om om) |>.mpr ?_;rw[ahI];obtain⟨a,hl,hov,hget⟩:=OVs.get os cs i hi hall;refine aE (bI (v:=.agg a.toArray) (AtV.agg tI hl fun j v hj=>?_)) |>.mpr (k _ hov);rw[akL];exact hc _ _ (hget j v hj)
end
end
section
open Eng
def kX(t3 t27 t28 t29 w)(N2:JT)(K:KT):=nz Tryz.f49 87 [N2] [nh 17 [3,29]] [] (zg [3,27,28,29] [t3,t27,t28,t29]) w K
def kV(t1 t3 t14 t15 t16 w)(N1:JT)(K:KT):=nz Tryz.f49 43 [N1] [nh 7 [3,16],(17,[3,29],fun s v j w f=>kX (vg v 0) (s 27) (s 28) (vg v 1) w (f 0) K)] [] (zg [1,3,14,15,16] [t1,t3,t14,t15,t16]) w K
def oR(t0 w)(K:KT):=nz Tryz.f49 1 [] [(7,[3,16],fun s v j w f=>kV (s 1) (vg v 0) (s 14) (s 15) (vg v 1) w (f 0) K)] [] (zg [0] [t0]) w K
theorem vT{t0 w K}(h:oR t0 w K):Calls prog 49 #[t0] w K:=cz [] [(3,[3,16]),(8,[3,29])] Tryz.func49 h
def mR(t0 w)(K:KT):=nz Tryz.f50 1 [] [] [] (zg [0] [t0]) w K
theorem tY{t0 w K}(h:mR t0 w K):Calls prog 50 #[t0] w K:=cw Tryz.func50 h
def pY(t0 w)(K:KT):=nz Tryz.f51 1 [] [] [] (zg [0] [t0]) w K
theorem wM{t0 w K}(h:pY t0 w K):Calls prog 51 #[t0] w K:=cw Tryz.func51 h
def gF(t1 t4 t15 w)(K:KT):=nz Tryz.f203 509 [] [] [] (zg [1,4,15] [t1,t4,t15]) w K
def gE(t1 t4 t9 w)(K:KT):=nz Tryz.f203 125 [] [(20,[15],fun s v j w f=>gF (s 1) (s 4) (vg v 0) w K)] [] (zg [1,4,9] [t1,t4,t9]) w K
def oL(t0 w)(K:KT):=nz Tryz.f203 1 [] [(14,[9],fun s v j w f=>gE (s 1) (s 4) (vg v 0) w K)] [] (zg [0] [t0]) w K
theorem vM{t0 w K}(h:oL t0 w K):Calls prog 203 #[t0] w K:=cz [(7,[9]),(10,[15])] [] Tryz.func203 h
def oE(t0 w)(K:KT):=nz Tryz.f204 1 [] [] [] (zg [0] [t0]) w K
theorem vY{t0 w K}(h:oE t0 w K):Calls prog 204 #[t0] w K:=cw Tryz.func204 h
def nT(t0 w)(K:KT):=nz Tryz.f205 1 [] [] [] (zg [0] [t0]) w K
theorem vU{t0 w K}(h:nT t0 w K):Calls prog 205 #[t0] w K:=cw Tryz.func205 h
def nQ(t0 t1 t2 t3 t4 w)(K:KT):=nz Tryz.f252 1 [] [] [] (zg [0,1,2,3,4] [t0,t1,t2,t3,t4]) w K
theorem vV{t0 t1 t2 t3 t4 w K}(h:nQ t0 t1 t2 t3 t4 w K):Calls prog 252 #[t0,t1,t2,t3,t4] w K:=cw Tryz.func252 h
def lN(t0 t3 w)(N1:JT)(K:KT):=nz Tryz.f253 21 [N1] [nh 5 [3]] [] (zg [0,3] [t0,t3]) w K
def oT(t0 w)(K:KT):=nz Tryz.f253 1 [] [(5,[3],fun s v j w f=>lN (s 0) (vg v 0) w (f 0) K)] [] (zg [0] [t0]) w K
theorem vQ{t0 w K}(h:oT t0 w K):Calls prog 253 #[t0] w K:=cz [] [(2,[3])] Tryz.func253 h
def lP(t1 t27 t28 t29 w)(N1:JT)(K:KT):=nz Tryz.f206 175 [N1] [nh 17 [29]] [] (zg [1,27,28,29] [t1,t27,t28,t29]) w K
def nM(t0 w)(K:KT):=nz Tryz.f206 1 [] [(17,[29],fun s v j w f=>lP (s 1) (s 27) (s 28) (vg v 0) w (f 0) K)] [] (zg [0] [t0]) w K
theorem vL{t0 w K}(h:nM t0 w K):Calls prog 206 #[t0] w K:=cz [] [(8,[29])] Tryz.func206 h
def kF(t1 t40 t41 t42 w)(N2:JT)(K:KT):=nz Tryz.f143 1407 [N2] [nh 29 [42]] [] (zg [1,40,41,42] [t1,t40,t41,t42]) w K
def mZ(t0 t1 w)(K:KT):=nz Tryz.f143 1 [] [(29,[42],fun s v j w f=>kF (s 1) (s 40) (s 41) (vg v 0) w (f 0) K)] [(7,7)] (zg [0,1] [t0,t1]) w K
theorem tE{t0 t1 w K}(h:mZ t0 t1 w K):Calls prog 143 #[t0,t1] w K:=cz [] [(14,[42])] Tryz.func143 h
def mO(t0 w)(K:KT):=nz Tryz.f74 1 [] [] [] (zg [0] [t0]) w K
theorem tF{t0 w K}(h:mO t0 w K):Calls prog 74 #[t0] w K:=cw Tryz.func74 h
end
end Go.Proofs.YtlipjfcbjemicaaGreatDoor





namespace Go.Proofs.YtlipjfcbjemicaaGreatDoor
variable{A S:Nat->Prop}{C:World->Prop}{D U U2:TypeId}{K K':VWP}{L:List Eng.Ent}{L0:Loop}{P:Program}{PK:PKT}{W w w' w0:World}{a hi lo:Int}{args:Array Value}{b cap d f fuel i j m sz t:Nat}{c v v1 v2 vc vk:Value}{cb:Array Bool}{cs cur new news xs:List Value}{e:Eng.Ent}{k':IntKind}{xo yo:Operand}{α β:Type}{σ:Eng.Sg}
section
open Eng Go.RowKit
theorem rN {x y:Value}(h:Ret P f args w (fun v w'=>v=x∧Below w.heap.size w w'))(hx:x=y)(ho:Own w0 w L)
  (k:∀w',Own w0 w' L->K y w'):CallX P f args w PK K:=by
 refine B5 h ?_;rintro v w' ⟨rfl,hb⟩;rw[hx];exact k _ (ho.grow hb)
end
end Go.Proofs.YtlipjfcbjemicaaGreatDoor
