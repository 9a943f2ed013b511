/- Texts that go together: EngD SBuild Shelf LibBld SPlain SFix SRef02 FixP FixR FixQ SStr LibCut FixT PlA PlB PlC LawKit2 LawKit3 EngT EngH EngI EngJ EngK ObA Plain05 Plain05B Plain05C Plain05D Plain03 Plain03B Plain03C Plain06 EngU. -/
import Derived.Test.YtkejpieaafeblaaGreatDoorRows
import Derived.Shelf.Strings.Builder1
import Derived.Shelf.Strings.Builder2
import Derived.Shelf.Strings.Trim
import Derived.Shelf.Small.Utf8
import Derived.Shelf.Small.Bits
import Derived.Shelf.Small.Strs
import Derived.Shelf.Strings.BuilderF
import Derived.Shelf.Strings.BuilderK
import Derived.Shelf.Strings.Builder2Cap
import Derived.Shelf.Strconv.Itoa0
import Derived.Shelf.Strconv.Itoa1
import Derived.Shelf.LaysM
import Derived.Shelf.Strconv.Itoa2
import Derived.Shelf.Strconv.Itoa3
import Derived.Shelf.Strconv.Itoa4
import Derived.Shelf.Strings.Search1
import Derived.Shelf.Strings.Search2
import Derived.Shelf.Strings.Search3
import Derived.Shelf.Strings.Cut
import Derived.Shelf.Strings.Shaped
import Derived.Shelf.Sort.Plain
import Derived.Shelf.Strings.Prefix
import Derived.Shelf.Strings.Runes
import Derived.Shelf.Strings.AsciiSet
import Derived.Shelf.Unicode.DecodeSlow
import Derived.Shelf.Strings.BuilderCap
import Derived.Shelf.Slices.In.SortNone
import Derived.Test.YtkejpieaafeblaaGreatDoorProg
import Derived.Recover
import Derived.Shelf.Strings.SlTrimAscii
import Derived.Lib.Repeat
import Derived.SliceStrings
import Derived.Laws.StructEq
import Derived.Sort.Walk0
import Derived.Test.YtkejpieaafeblaaGreatDoorMfgajbapg
set_option linter.defProp false
set_option linter.unusedSimpArgs false
set_option linter.unusedVariables false
set_option maxRecDepth 20000
open Go.Proofs.Tryz (prog)
namespace Go.Proofs
abbrev Ym:=@Tryz.underlying9
abbrev Yn:=@Tryz.underlying22
abbrev Yt:=@Tryz.underlying23
abbrev YR:=@Tryz.underlying3
abbrev YV:=@Tryz.underlying5
abbrev Y3:=@Tryz.underlying76
abbrev ZG:=@Tryz.underlying4
abbrev ZH:=@Tryz.underlying20
abbrev ZZ:=@Tryz.underlying139
abbrev Z5:=@Tryz.underlying2
abbrev aaK:=@Tryz.underlying0
abbrev aaL:=@Tryz.underlying75
abbrev abD:=@Tryz.underlying224
abbrev abK:=@Tryz.underlying215
abbrev acA:=@Tryz.underlying152
abbrev acB:=@Tryz.underlying228
abbrev acC:=@Tryz.underlying204
abbrev acD:=@Tryz.underlying205
abbrev acE:=@Tryz.underlying245
abbrev acF:=@Tryz.underlying208
abbrev acG:=@Tryz.underlying247
abbrev acH:=@Tryz.underlying248
abbrev acI:=@Tryz.underlying183
end Go.Proofs
namespace Go.Proofs.YtkejpieaafeblaaGreatDoor
section
namespace Eng
open Go.RowKit
theorem cS (b off n:Nat):(⟨b,off,none⟩:Addr).add n=⟨b,off+n,none⟩:=by unfold Addr.add;split<;>simp_all
def fOff (P:Program)(T:TypeId)(f:Nat):Option Nat:=
 match P.underlying T with
|some (.struct fs)=>match fs[f]? with
 |some fd=>match P.info? fd.type with
  |some i=>match i.size with
   |0=>none
   |_+1=>some fd.offset
  |none=>none
 |none=>none
|_=>none
def elB (P:Program)(E:TypeId)(sz bytes:Nat):Bool:=
 match P.info? E with
|some i=>Nat.beq i.size sz&&Nat.beq i.bytes bytes&&(match i.zero with|some z=>Nat.beq z.cells.size sz|none=>false)
|none=>false
theorem sV {P:Program}{E:TypeId}{sz bytes:Nat}(h:elB P E sz bytes=true):∃i z,P.info? E=some i∧i.zero=some z∧i.size=sz∧i.bytes=bytes∧z.cells.size=sz:=by
 unfold elB at h;split at h
 ·rename_i i hi
  simp only[Ys,Nat.beq_eq] at h;obtain⟨⟨h1,h2⟩,h3⟩:=h;split at h3
  ·rename_i z hz;exact⟨i,z,hi,hz,h1,h2,by simpa using h3⟩
  ·cases h3
 ·cases h
section
variable {S:Nat→Prop}{P:Program}{w:World}{PK:PKT}{K:VWP}
theorem bC {T:TypeId}{f b off o:Nat}(h:fOff P T f=some o):(mFA T (.pointer (some ⟨b,off,none⟩)) f).run P w=.ok (.value (.pointer (some ⟨b,off+o,none⟩))) w:=by
 unfold fOff at h;split at h
 ·rename_i fs hu
  split at h
  ·rename_i fd hfd
   split at h
   ·rename_i i hi
    cases hs:i.size with
   |zero=>rw[hs] at h;cases h
   |succ m=>
     rw[hs] at h;simp only[Zu] at h;subst h;refine bW ?_;simp[Instr.fieldAt,run_underlying hu,hfd,Instr.sureAddr,fieldPlace,sizeOf,typeInfo,hi,hs,cS]
   ·cases h
  ·cases h
 ·cases h
theorem dJ {T:TypeId}{f b off o:Nat}(h:fOff P T f=some o):DoX P (mFA T (.pointer (some ⟨b,off,none⟩)) f) w PK K=K (.pointer (some ⟨b,off+o,none⟩)) w:=aU (bC h)
theorem eY {a:Addr}:(mNil (.pointer (some a))).run P w=.ok (.value (.pointer (some a))) w:=by simp[mNil,execOp]
def bAnd (k:IntKind)(x y:Int):Int:=k.wrap ((BitVec.ofInt k.bits x &&& BitVec.ofInt k.bits y).toNat:Int)
def bOr (k:IntKind)(x y:Int):Int:=k.wrap ((BitVec.ofInt k.bits x ||| BitVec.ofInt k.bits y).toNat:Int)
theorem Ya {T:TypeId}{k:IntKind}{a b:Int}:(mBin .and T (.int k a) (.int k b)).run P w=.ok (.value (.int k (bAnd k a b))) w:=bW (by simp[binOp,Op.intBits,bAnd])
theorem r_or {T:TypeId}{k:IntKind}{a b:Int}:(mBin .or T (.int k a) (.int k b)).run P w=.ok (.value (.int k (bOr k a b))) w:=bW (by simp[binOp,Op.intBits,bOr])
theorem VW {T:TypeId}{k k':IntKind}{a b:Int}(h:0≤b):(mBin .shr T (.int k a) (.int k' b)).run P w=.ok (.value (.int k (a.fdiv (2 ^ (min b.toNat k.bits))))) w:=bW (by
 have h':¬b < 0:=by omega
 simp[binOp,Op.shift,h'])
theorem X6 {T:TypeId}{k k':IntKind}{a b:Int}(h:0≤b):(mBin .shl T (.int k a) (.int k' b)).run P w=.ok (.value (.int k (k.wrap (a*2 ^ (min b.toNat k.bits))))) w:=bW (by
 have h':¬b < 0:=by omega
 simp[binOp,Op.shift,h'])
theorem b_or {T:TypeId}{k:IntKind}{a b:Int}:DoX P (mBin .or T (.int k a) (.int k b)) w PK K=K (.int k (bOr k a b)) w:=aU r_or
theorem XD {T:TypeId}{k k':IntKind}{a b:Int}(h:0≤b):DoX P (mBin .shr T (.int k a) (.int k' b)) w PK K=K (.int k (a.fdiv (2 ^ (min b.toNat k.bits)))) w:=aU (VW h)
theorem Vc {T:TypeId}{k k':IntKind}{a b:Int}(h:0≤b):DoX P (mBin .shl T (.int k a) (.int k' b)) w PK K=K (.int k (k.wrap (a*2 ^ (min b.toNat k.bits)))) w:=aU (X6 h)
theorem gE {T:TypeId}{k:IntKind}{i:Int}{a:List UInt8}{c:UInt8}(h:P.underlying T=some .string)(h0:0≤i)(hc:a[i.toNat]?=some c):(mIx T (.string ⟨a.toArray⟩) (.int k i)).run P w=.ok (.value (.int .u8 (c.toNat:Int))) w:=by
 refine bW ?_;have e:(⟨a.toArray⟩:ByteArray)[i.toNat]?=some c:=by
  have hl:i.toNat < a.length:=(Yy.1 hc).1;have h1:i.toNat < (⟨a.toArray⟩:ByteArray).size:=by rw[bS];exact hl
  rw[getElem?_pos (⟨a.toArray⟩:ByteArray) i.toNat h1];have h2:=(Yy.1 hc).2;rw[←h2];rfl
 simp only[Instr.index,asIntOf,run_underlying h,h0,e];simp[h0,e,run_underlying h]
theorem X8 {E:TypeId}{sz bytes:Nat}{T U:TypeId}{i:TypeInfo}{z:Value}(ht:P.underlying T=some (.slice E))(hi:P.info? E=some i)(hz:i.zero=some z)(hi1:i.size=sz)(hi2:i.bytes=bytes)(hz1:z.cells.size=sz)(hsz:0 < sz)
  {v v':Value} {w':World} {n m c:Nat} {xs news:List Value} {a:Addr} (hown:w.ownsRowF 0 E sz v n xs) (hl:news.length=m*sz) (hnews:∀j u,news[j]?=some u→w.cell? (a.add j)=some u) (h1:∀u∈news,u.oneCell'=true)
  (hmx:n+m≤9223372036854775807) (hb:(n+m)*bytes≤140737488355328) (hr:(Builtin.append_ #[T,T] U #[v,.slice (some a) m c]).run P w=.ok v' w') :
  ∀k,v'.ownBlock=some k→v.ownBlock=some k∨w.heap.size≤k:=by
 intro k hk;have hmx':n+m≤maxLen:=by simp only[maxLen];omega
 rcases hown.2 with ⟨rfl,rfl⟩|⟨g,cap,cur,fz,rfl,hbg,hg,hfz,hnc,hcm,hcs,htake⟩
 ·obtain⟨v2,w2,r1,r2,r3,r4⟩:=run_append_ownF (P:=P) w w.heap.size T U E i z sz bytes ht hi hz hi1 hi2 hz1 hsz (.slice none 0 0) 0 xs ⟨hown.1,.inl ⟨rfl,rfl⟩⟩ a m c news hl hnews h1 hmx' hb (Yw _);rw[r1] at hr;cases hr;exact .inr (World.ownsRowF.lt r2 k hk).1
 ·subst hi1;subst hi2;by_cases hroom:n+m≤cap
  ·have hfit:n*i.size+news.length≤cur.size:=by rw[hl,hcs,←ZP];exact YU _ hroom
   rw[run_append_roomF (P:=P) w T U E i ht hi g n cap cur fz hg hfz a m c news hl hnews h1 hroom hfit] at hr;cases hr;exact .inl hk
  ·have holds:∀j u,xs[j]?=some u→w.cell? ((⟨g,0,none⟩:Addr).add j)=some u:=hown.cells (g:=g) rfl;rw[run_append_grow (P:=P) w T U E i z ht hi hz ⟨g,0,none⟩ n cap xs hown.1 holds a m c news hl hnews (by omega) (by omega) (growslice_fits (by omega) hb)] at hr;cases hr;simp only[Value.ownBlock,Zu] at hk;exact .inr (by omega)
theorem CL {T E U:TypeId}{cs:Array Bool}{v v2:Value}{sz bytes n m:Nat}{xs news:List Value}(ht:P.underlying T=some (.slice E))(he:elB P E sz bytes=true)(hsz:0 < sz)
  (hown:w.ownsRowF 0 E sz v n xs) (hs:Sl w v2 sz m news) (h1:∀u∈news,u.oneCell'=true) (hb:(n+m)*bytes≤140737488355328) (hb2:n+m≤140737488355328) :
  ∃v' w',(mB .append #[T,T] U cs #[v,v2]).run P w=.ok (.value v') w'∧Turn (.row E sz v n xs) (.row E sz v' (n+m) (xs++news)) w w':=by
 obtain⟨i,z,hi,hz,hi1,hi2,hz1⟩:=sV he;obtain⟨hl,a,cap,rfl,hn,hc⟩:=hs;have hmx:n+m≤maxLen:=by simp only[maxLen];omega
 have fin:∀(a:Addr),(∀j u,news[j]?=some u→w.cell? (a.add j)=some u)→∃v' w',(mB .append #[T,T] U cs #[v,.slice (some a) m cap]).run P w=.ok (.value v') w'∧Turn (.row E sz v n xs) (.row E sz v' (n+m) (xs++news)) w w':=by
  intro a hh;obtain⟨v',w',r1,r2,r3,r4⟩:=run_append_ownF (P:=P) w 0 T U E i z sz bytes ht hi hz hi1 hi2 hz1 hsz v n xs hown a m cap news hl hh h1 hmx hb (ZF _);refine⟨v',w',?_,Qp r3,r2,X8 (P:=P) ht hi hz hi1 hi2 hz1 hsz hown hl hh h1 (by omega) hb r1⟩;simp[mB,builtin,r1]
 cases a with
|some p=>
  refine fin p fun j u hj=>?_;have hlt:j < news.length:=(Yy.1 hj).1;have hm:0 < m:=by
   rcases Zd m with h0|h0
   ·subst h0;simp at hl;rw[hl] at hlt;simp at hlt
   ·exact h0
  obtain⟨hsp,hcell⟩:=hc p rfl;have:=hsp hm;obtain⟨b,off,spot⟩:=p;simp only at this hcell;subst this;rw[cS];exact hcell j u hj
|none=>
  have h0:=hn rfl;subst h0;have hnil:news=[]:=ZO (by simpa using hl);subst hnil;refine⟨v,w,?_,by rw[YQ];exact Turn.refl (e:=.row E sz v n xs) hown⟩;rcases hown.2 with ⟨rfl,rfl⟩|⟨g,cp,cur,fz,rfl,_,_,_,hnc,_⟩
  ·simp[mB,builtin,Builtin.append_,run_underlying ht,sizeOf,typeInfo,hi,Builtin.lenOf,Builtin.firstCells]
  ·simp[mB,builtin,Builtin.append_,run_underlying ht,sizeOf,typeInfo,hi,Builtin.lenOf,Builtin.firstCells,hnc,storeCells]
theorem GJ {w0:World}{L:List Ent}(i:Nat){T E U:TypeId}{cs:Array Bool}{v v2:Value}{sz bytes n m:Nat}{xs news:List Value}(ht:P.underlying T=some (.slice E))(he:elB P E sz bytes=true)(hsz:0 < sz)
  (ho:OwnS S w0 w L) (hi:L[i]?=some (.row E sz v n xs)) (hs:Sl w v2 sz m news) (h1:∀u∈news,u.oneCell'=true) (hb:(n+m)*bytes≤140737488355328) (hb2:n+m≤140737488355328)
  (k:∀v' w',OwnS S w0 w' (L.set i (.row E sz v' (n+m) (xs++news)))→K v' w'):DoX P (mB .append #[T,T] U cs #[v,v2]) w PK K:=by
 obtain⟨v',w',r,t⟩:=CL (cs:=cs) (U:=U) ht he hsz (ho.at_ i hi) hs h1 hb hb2;exact pQ r (k _ _ (ho.turn i hi t))
def roomy (v:Value):Prop:=∀a k,v≠.slice (some a) k 0
theorem Hp:roomy (.slice none 0 0):=fun _ _ h=>by cases h
theorem roomy_row {E:TypeId}{sz:Nat}{v:Value}{n:Nat}{xs:List Value}(h:w.ownsRowF 0 E sz v n xs)(hn:0 < n):roomy v:=by
 intro a k hc;rcases h.2 with ⟨rfl,_⟩|⟨g,cap,cur,fz,rfl,hbg,hg,hfz,hnc,hcm,hcs,htake⟩
 ·cases hc
 ·injection hc with c1 c2 c3
  omega
theorem Hb (l:List UInt8):Lib.strCells ⟨l.toArray⟩=bZ l:=by
 simp[Lib.strCells,bZ]
theorem E8 {T U2 E U:TypeId}{cs:Array Bool}{v:Value}{n:Nat}{xs:List Value}{l:List UInt8}(ht:P.underlying T=some (.slice E))(hu:P.underlying U2=some .string)(he:elB P E 1 1=true)(h8:P.underlying E=some (.int .u8))
  (hz8:(P.info? E).bind (·.zero)=some (.int .u8 0))
  (hown:w.ownsRowF 0 E 1 v n xs) (hb2:n+l.length≤140737488355328) :
  ∃v' w',(mB .append #[T,U2] U cs #[v,.string ⟨l.toArray⟩]).run P w=.ok (.value v') w'∧Turn (.row E 1 v n xs) (.row E 1 v' (n+l.length) (xs++bZ l)) w w'∧(roomy v→roomy v'):=by
 obtain⟨i,z,hi,hz,hi1,hi2,hz1⟩:=sV he;have hz0:i.zero=some (.int .u8 0):=by rw[hi] at hz8;exact hz8
 have hsz:=bS l;have hmx:n+(⟨l.toArray⟩:ByteArray).size≤maxLen:=by rw[hsz];simp only[maxLen];omega
 obtain⟨v',w',r1,r2,r3,r4⟩:=Lib.run_append_own_stringF (P:=P) w 0 T U2 U E i ht hu hi hz0 hi1 hi2 v n xs hown ⟨l.toArray⟩ hmx (by rw[hsz];omega) (ZF _);rw[Hb,hsz] at r2;have hro:roomy v→roomy v':=by
  intro hv a k hc;rcases Zd (n+l.length) with h0|h0
  ·rcases hown.2 with ⟨rfl,_⟩|⟨g,cap,cur,fz,rfl,hbg,hg,hfz,hnc,hcm,hcs,htake⟩
   ·have:=r4.2 ⟨rfl,by rw[hsz];omega⟩;rw[this] at hc;cases hc
   ·have hroom:n+(⟨l.toArray⟩:ByteArray).size≤cap:=by rw[hsz];omega
    rw[Lib.run_append_room_stringF (P:=P) w T U2 U E i ht hu hi hi1 g n cap cur fz hg (by simpa using hfz) ⟨l.toArray⟩ hroom (by simp at hcs;omega)] at r1
    injection r1 with r1a r1b
    rw[←r1a] at hc
    injection hc with c1 c2 c3
    exact hv ⟨g,0,none⟩ n (by rw[c3])
  ·exact roomy_row r2 h0 a k hc
 refine⟨v',w',by simp[mB,builtin,r1],⟨Qp r3,r2,?_⟩,hro⟩;intro k hk;rcases hown.2 with ⟨rfl,rfl⟩|⟨g,cap,cur,fz,rfl,hbg,hg,hfz,hnc,hcm,hcs,htake⟩
 ·obtain⟨v2,w2,q1,q2,q3,q4⟩:=Lib.run_append_own_stringF (P:=P) w w.heap.size T U2 U E i ht hu hi hz0 hi1 hi2 (.slice none 0 0) 0 xs ⟨hown.1,.inl ⟨rfl,rfl⟩⟩ ⟨l.toArray⟩ hmx (by rw[hsz];omega) (Yw _);rw[q1] at r1;cases r1;exact .inr (World.ownsRowF.lt q2 k hk).1
 ·by_cases hroom:n+(⟨l.toArray⟩:ByteArray).size≤cap
  ·rw[Lib.run_append_room_stringF (P:=P) w T U2 U E i ht hu hi hi1 g n cap cur fz hg (by simpa using hfz) ⟨l.toArray⟩ hroom (by simp at hcs;omega)] at r1;cases r1;exact .inl hk
  ·have holds:∀j u,xs[j]?=some u→w.cell? ((⟨g,0,none⟩:Addr).add j)=some u:=hown.cells (g:=g) rfl;rw[Lib.run_append_grow_string (P:=P) w T U2 U E i (.int .u8 0) ht hu hi hz0 ⟨g,0,none⟩ n cap xs (by rw[hi1];simpa using hown.1) holds ⟨l.toArray⟩ (by omega) (by rw[hsz];omega) (by rw[hi2];exact growslice_fits (by omega) (by rw[hsz];omega))] at r1;cases r1;have hk':some w.heap.size=some k:=hk;cases hk';exact .inr (Yw _)
theorem FR {w0:World}{L:List Ent}(i:Nat){T U2 E U:TypeId}{cs:Array Bool}{v:Value}{n:Nat}{xs:List Value}{l:List UInt8}(ht:P.underlying T=some (.slice E))(hu:P.underlying U2=some .string)(he:elB P E 1 1=true)(h8:P.underlying E=some (.int .u8))
  (hz8:(P.info? E).bind (·.zero)=some (.int .u8 0)) (ho:OwnS S w0 w L) (hi:L[i]?=some (.row E 1 v n xs)) (hb2:n+l.length≤140737488355328)
  (k:∀v' w',(roomy v→roomy v')→OwnS S w0 w' (L.set i (.row E 1 v' (n+l.length) (xs++bZ l)))→K v' w'):DoX P (mB .append #[T,U2] U cs #[v,.string ⟨l.toArray⟩]) w PK K:=by
 obtain⟨v',w',r,t,hc⟩:=E8 (cs:=cs) (U:=U) ht hu he h8 hz8 (ho.at_ i hi) hb2;exact pQ r (k _ _ hc (ho.turn i hi t))
theorem OwnS.uG {w0:World}{L:List Ent}(ho:OwnS S w0 w L)(E:TypeId)(sz:Nat):OwnS S w0 w (.row E sz (.slice none 0 0) 0 []::L):=by
 refine⟨ho.grew,fun e he=>?_,.cons (fun f hf k hk=>by simp[Ent.row,Value.ownBlock] at hk) ho.apart⟩;rcases Yq.1 he with rfl|he
 ·exact⟨World.ownsRowF_nil w 0 E sz,fun k hk=>by simp[Ent.row,Value.ownBlock] at hk⟩
 ·exact ho.all e he
theorem OwnS.D5 {w0:World}{L:List Ent}(ho:OwnS S w0 w L)(i:Nat){T:TypeId}{sz:Nat}{v:Value}{n:Nat}{xs:List Value}(hi:L[i]?=some (.row T sz v n xs)):Sl w v sz n xs:=Sl.row (ho.at_ i hi)
theorem OwnS.QT {w0:World}{L:List Ent}{b:Nat}{cs:List Value}{E:TypeId}(ho:OwnS S w0 w (.cells b cs E::L))(sz n cap:Nat)(hl:cs.length=cap*sz)(hn:n≤cap)(hc:cap≤9223372036854775807) :
  OwnS S w0 w (.row E sz (.slice (some ⟨b,0,none⟩) n cap) n (cs.take (n*sz))::L):=by
 refine⟨ho.grew,fun e he=>?_,?_⟩
 ·rcases Yq.1 he with rfl|he
  ·refine⟨⟨by rw[YC,hl,YM (YU _ hn)],.inr ⟨b,cap,cs.toArray,(0,0),rfl,ZF _,ho.at_ 0 rfl,ZF _,hn,by simp only[maxLen];omega,by simpa using hl,by simp⟩⟩,fun k hk=>?_⟩;simp only[Ent.row,Value.ownBlock,Zu] at hk;exact (ho.all (.cells b cs E) (by simp)).2 k hk.symm
  ·exact ho.all e (by simp[he])
 ·refine .cons (fun f hf k hk=>?_) (YT.1 ho.apart).2;simp only[Ent.row,Value.ownBlock,Zu] at hk;exact (YT.1 ho.apart).1 f hf k hk.symm
theorem Ul {w0:World}{L:List Ent}{T E:TypeId}{sz bytes c:Nat}{kl kc:IntKind}{x:Int}(hx:x=c)(ht:P.underlying T=some (.slice E))(he:elB P E sz bytes=true)(hb:bytes*c≤281474976710656)(hc:c≤281474976710656)(ho:OwnS S w0 w L)
  (k:∀v w',OwnS S w0 w' (.row E sz v 0 []::L)→K v w'):DoX P (P6 T (.int kl 0) (.int kc x)) w PK K:=by
 subst hx;obtain⟨i,z,hi,hz,hi1,hi2,hz1⟩:=sV he;obtain⟨w',r1,r2,r3⟩:=run_make_own (P:=P) w w.heap.size T E i z sz ht hi hz hi1 kl kc c (by rw[hi2];exact hb) (by simp only[maxLen];omega) (Yw _);refine pQ (bW r1) (k _ _ (ho.add r3 (.row E sz (.slice (some ⟨w.heap.size,0,none⟩) 0 c) 0 []) ?_ (fun k hk=>?_)))
 ·have:=World.ownsRowF_of r2;refine⟨this.1,?_⟩;rcases this.2 with h|⟨g,cp,cur,fz,h1,h2,h3⟩
  ·exact .inl h
  ·exact .inr ⟨g,cp,cur,fz,h1,ZF _,h3⟩
 ·have hk':some w.heap.size=some k:=hk;cases hk';exact Yw _
def Ent.bld (T E:TypeId)(b:Nat)(v:Value)(l:List UInt8):Ent:=
 ⟨fun k=>k=b∨v.ownBlock=some k,
  fun w=>(∃p,(p=.pointer none∨p=.pointer (some ⟨b,0,none⟩))∧w.heap[b]?=some (.cells #[p,v] T (0,0)))∧w.ownsRowF 0 E 1 v l.length (bZ l)∧v.ownBlock≠some b∧roomy v,
  fun {w w'} h k=>⟨by obtain⟨p,hp,hb⟩:=h.1;exact⟨p,hp,(k b (.inl rfl)).trans hb⟩,(Ent.row E 1 v l.length (bZ l)).keep h.2.1 (fun j hj=>k j (.inr hj)),h.2.2⟩,
  fun {w} h k hk=>by
  rcases hk with rfl|hk
  ·obtain⟨p,hp,hb⟩:=h.1;exact dW hb
  ·exact (World.ownsRowF.lt h.2.1 k hk).2⟩
theorem OwnS.TN {w0:World}{L:List Ent}{T E:TypeId}{b:Nat}{v:Value}{l:List UInt8}(ho:OwnS S w0 w (.bld T E b v l::L)) :
  ∃p,(p=.pointer none∨p=.pointer (some ⟨b,0,none⟩))∧roomy v∧OwnS S w0 w (.cells b [p,v] T::.row E 1 v l.length (bZ l)::L):=by
 have hm:=ho.all (.bld T E b v l) (by simp);obtain⟨⟨p,hp,hb⟩,hr,hne,hcap⟩:=hm.1;refine⟨p,hp,hcap,ho.grew,fun e he=>?_,?_⟩
 ·rcases Yq.1 he with rfl|he
  ·exact⟨hb,fun k hk=>hm.2 k (.inl hk)⟩
  ·rcases Yq.1 he with rfl|he
   ·exact⟨hr,fun k hk=>hm.2 k (.inr hk)⟩
   ·exact ho.all e (by simp[he])
 ·obtain⟨h1,h2⟩:=YT.1 ho.apart;refine .cons (fun f hf k hk hk'=>?_) (.cons (fun f hf k hk=>h1 f hf k (.inr hk)) h2);rcases Yq.1 hf with rfl|hf
  ·have hkb:k=b:=hk;rw[hkb] at hk';exact hne hk'
  ·exact h1 f hf k (.inl hk) hk'
theorem OwnS.Eb {w0:World}{L:List Ent}{T E:TypeId}{b n:Nat}{p v:Value}{l:List UInt8}(hp:p=.pointer none∨p=.pointer (some ⟨b,0,none⟩))(hcap:roomy v)(ho:OwnS S w0 w (.cells b [p,v] T::.row E 1 v n (bZ l)::L)) :
  OwnS S w0 w (.bld T E b v l::L):=by
 have h0:=ho.all (.cells b [p,v] T) (by simp);have h1:=ho.all (.row E 1 v n (bZ l)) (by simp);obtain⟨a1,a2⟩:=YT.1 ho.apart;obtain⟨a3,a4⟩:=YT.1 a2;have hn:n=l.length:=by have:=h1.1.1;rw[DM] at this;omega
 subst hn;refine⟨ho.grew,fun e he=>?_,.cons (fun f hf k hk hk'=>?_) a4⟩
 ·rcases Yq.1 he with rfl|he
  ·refine⟨⟨⟨p,hp,h0.1⟩,h1.1,fun hc=>a1 (.row E 1 v l.length (bZ l)) (by simp) b rfl hc,hcap⟩,fun k hk=>?_⟩;rcases hk with hk|hk
   ·exact h0.2 k hk
   ·exact h1.2 k hk
  ·exact ho.all e (by simp[he])
 ·rcases hk with hk|hk
  ·exact a1 f (by simp[hf]) k hk hk'
  ·exact a3 f hf k hk hk'
theorem OwnS.swap {w0:World}{e f:Ent}{L:List Ent}(ho:OwnS S w0 w (e::f::L)):OwnS S w0 w (f::e::L):=by
 obtain⟨a1,a2⟩:=YT.1 ho.apart;obtain⟨a3,a4⟩:=YT.1 a2;exact⟨ho.grew,fun g hg=>ho.all g (by simp only[Yq] at hg ⊢;rcases hg with h|h|h<;>simp[h]),.cons (fun g hg k hk hk'=>by
  rcases Yq.1 hg with rfl|hg
  ·exact a1 f (by simp) k hk' hk
  ·exact a3 g hg k hk hk') (.cons (fun g hg k hk hk'=>a1 g (by simp[hg]) k hk hk') a4)⟩
theorem eB {w0:World}{L:List Ent}(i:Nat){f:Nat}{args:Array Value}{e:Ent}{R:Value→Ent→Prop}(ho:OwnS S w0 w L)(hi:L[i]?=some e)(h:Ret P f args w (fun v w'=>∃e',R v e'∧Turn e e' w w'))
  (k:∀v e' w',R v e'→OwnS S w0 w' (L.set i e')→K v w'):CallX P f args w PK K:=
 dS h fun v w' ⟨e',hr,ht⟩=>k v e' w' hr (ho.turn i hi ht)
theorem aP {w0:World}{L:List Ent}{f:Nat}{args:Array Value}{R:Value→Prop}(ho:OwnS S w0 w L)(h:Ret P f args w (fun v w'=>R v∧Below w.heap.size w w'))
  (k:∀v w',R v→OwnS S w0 w' L→K v w'):CallX P f args w PK K:=
 dS h fun v w' ⟨hr,hb⟩=>k v w' hr (ho.grow hb)
end
end Eng
end
section
open Eng
abbrev KT:=Ending→World→Prop
abbrev JT:=List Value→World→Prop
abbrev iN (n:Int):Value:=.int .i64 n
def dx (m w K k):=DoX prog m w (pk K) k
def gtx (t m w K k):=GDo t true (fun E=>DoX prog m w (pk K) E) w k
def gfx (t m w K k):=GDo t false (fun E=>DoX prog m w (pk K) E) w k
def ctx (t f a w K k):=GDo t true (fun E=>CallX prog f a w (pk K) E) w k
def cfx (t f a w K k):=GDo t false (fun E=>CallX prog f a w (pk K) E) w k
def etx (t:Value)(u:Value)(w:World)(k:Value→World→Prop):=GDo t true (fun E=>E u w) w k
def efx (t:Value)(u:Value)(w:World)(k:Value→World→Prop):=GDo t false (fun E=>E u w) w k
def cx (f a w K k):=CallX prog f a w (pk K) k
theorem cw{f:FuncId}{F:Func}{args:List Value}{w:World}{K:Ending→World→Prop}{S:Prop}(hf:prog.funcs[f]?=some F)(hb:F.body=some (aY F))(hl:Nat.ble args.length F.ntmps=true)(e:wpX prog F.ntmps [] [] none (aY F) (topQ prog F.results.toList K) (aR args) [] w=S)(h:S):Calls prog f args.toArray w K:=aE hf hb rfl rfl hl (e▸h)
def fZ(t0 w)(K:KT):=
 dx (mNil t0) w K fun t3 w=>dx (mFA 78 t3 0) w K fun t4 w=>dx (aA 75 t4) w K fun t5 w=>dx (mEq .eql 75 (.tmp 5) (.const (.pointer none)) t5 (.pointer none)) w K fun t6 w=>IfX t6 (dx (cH 75 152 t0) w K fun t9 w=>dx (eO (.func (.func 127) #[] #[]) #[t9]) w K fun t10 w=>dx (cH 152 75 t10) w K fun t11 w=>dx (mNil t0) w K fun t12 w=>dx (mFA 78 t12 0) w K fun t13 w=>dx (aC 75 t13 t11) w K fun _ w=>K (.returned (.tuple #[])) w) (dx (mNil t0) w K fun t15 w=>dx (mFA 78 t15 0) w K fun t16 w=>dx (aA 75 t16) w K fun t17 w=>dx (mEq .neq 75 (.tmp 17) (.tmp 18) t17 t0) w K fun t19 w=>IfX t19 (False) (K (.returned (.tuple #[])) w))
theorem mQ{t0 w K}(h:fZ t0 w K):Calls prog 82 #[t0] w K:=cw Tryz.func82 rfl rfl (by kernel_rfl) h
def fN(t0 t1 w)(K:KT):=
 cx 82 #[t0] w K fun t6 w=>dx (mNil t0) w K fun t9 w=>dx (mFA 78 t9 1) w K fun t10 w=>dx (aA 76 t10) w K fun t11 w=>dx (aS 76 1 #[(0,t1)]) w K fun t13 w=>dx (mB .append #[76,76] 76 #[false,false] #[t11,t13]) w K fun t14 w=>dx (mNil t0) w K fun t15 w=>dx (mFA 78 t15 1) w K fun t16 w=>dx (aC 76 t16 t14) w K fun _ w=>K (.returned .nilIface) w
theorem nH{t0 t1 w K}(h:fN t0 t1 w K):Calls prog 84 #[t0,t1] w K:=cw Tryz.func84 rfl rfl (by kernel_rfl) h
def eS(t0 t1 w)(K:KT):=
 cx 82 #[t0] w K fun t7 w=>dx (mNil t0) w K fun t10 w=>dx (mFA 78 t10 1) w K fun t11 w=>dx (aA 76 t11) w K fun t12 w=>dx (mB .append #[76,9] 76 #[false,false] #[t12,t1]) w K fun t14 w=>dx (mNil t0) w K fun t15 w=>dx (mFA 78 t15 1) w K fun t16 w=>dx (aC 76 t16 t14) w K fun _ w=>dx (mB .len #[9] 3 #[false] #[t1]) w K fun t18 w=>K (.returned (.tuple #[t18,.nilIface])) w
theorem lA{t0 t1 w K}(h:eS t0 t1 w K):Calls prog 43 #[t0,t1] w K:=cw Tryz.func43 rfl rfl (by kernel_rfl) h
def jL(t0 w)(K:KT):=
 QuietX w (fun C1=>QDo prog C1 (mNil t0) fun t4=>QDo prog C1 (mFA 78 t4 1) fun t5=>QDo prog C1 (aA 76 t5) fun t6=>QDo prog C1 (mB .unsafeSliceData #[76] 123 #[false] #[t6]) fun t7=>QDo prog C1 (mNil t0) fun t9=>QDo prog C1 (mFA 78 t9 1) fun t10=>QDo prog C1 (aA 76 t10) fun t11=>QDo prog C1 (mB .len #[76] 3 #[false] #[t11]) fun t12=>
 ∀w,C1 w →
 dx (mB .unsafeString #[123,3] 9 #[false,false] #[t7,t12]) w K fun t13 w=>K (.returned t13) w)
theorem pX{t0 w K}(h:jL t0 w K):Calls prog 51 #[t0] w K:=cw Tryz.func51 rfl rfl (by kernel_rfl) h
end
end Go.Proofs.YtkejpieaafeblaaGreatDoor
namespace Go.Proofs
open Go.Shelf
open Go.RowKit in
open Go.RowKit in
open Go.RowKit in
open Go.RowKit in
def Tryz.GS:Go.Shelf.Ren:=⟨fun|165=>243|240=>82|241=>263|276=>127|277=>273|n=>n,fun|70=>75|3=>3|0=>0|4=>4|9=>9|20=>20|72=>78|37=>76|164=>152|5=>5|n=>n,fun|n=>n⟩
theorem Tryz.UM:Go.Proofs.Lays.n165 prog Tryz.GS:={
 mixed:=by kernel_rfl
 f165:=Tryz.func243.trans (congrArg some (by kernel_rfl))
 f240:=Tryz.func82.trans (congrArg some (by kernel_rfl))
 f241:=Tryz.func263.trans (congrArg some (by kernel_rfl))
 f276:=Tryz.func127.trans (congrArg some (by kernel_rfl))
 f277:=Tryz.func273.trans (congrArg some (by kernel_rfl))
 t0:=aaK
 a0:=Tryz.isAgg0
 z0:=Tryz.sizeOf0
 v0:=Tryz.zeroValue0
 t3:=YR
 a3:=Tryz.isAgg3
 z3:=Tryz.sizeOf3
 v3:=Tryz.zeroValue3
 t4:=ZG
 a4:=Tryz.isAgg4
 z4:=Tryz.sizeOf4
 v4:=Tryz.zeroValue4
 t9:=Ym
 a9:=Tryz.isAgg9
 z9:=Tryz.sizeOf9
 v9:=Tryz.zeroValue9
 t20:=ZH
 a20:=Tryz.isAgg20
 z20:=Tryz.sizeOf20
 v20:=Tryz.zeroValue20
 t37:=Y3
 a37:=Tryz.isAgg76
 z37:=Tryz.sizeOf76
 v37:=Tryz.zeroValue76
 t70:=aaL
 a70:=Tryz.isAgg75
 z70:=Tryz.sizeOf75
 v70:=Tryz.zeroValue75
 t72:=Tryz.underlying78
 a72:=Tryz.isAgg78
 z72:=Tryz.sizeOf78
 v72:=Tryz.zeroValue78
 t164:=acA
 a164:=Tryz.isAgg152
 z164:=Tryz.sizeOf152
 v164:=Tryz.zeroValue152 }
theorem Tryz.EJ:Builder.Extra prog Tryz.GS:={
 sizeBuilder:=by kernel_rfl
 liesBuilder:=by kernel_rfl
 t5:=YV
 a5:=Tryz.isAgg5
 z5:=Tryz.sizeOf5
 v5:=Tryz.zeroValue5
 infoByte:=by kernel_rfl
 cellsByte:=by kernel_rfl
 sizeByte:=by kernel_rfl
 neB5:=by decide }
open Go.RowKit in
open Go.RowKit in
open Go.RowKit in
def Tryz.Nc:Go.Shelf.Ren:=⟨fun|161=>171|231=>223|227=>224|233=>225|235=>226|228=>253|197=>254|151=>255|260=>267|152=>268|137=>168|119=>283|224=>271|225=>270|217=>222|266=>252|n=>n,fun|9=>9|4=>4|3=>3|5=>5|117=>205|116=>204|0=>0|124=>208|105=>228|21=>21|119=>245|46=>139|139=>248|138=>247|n=>n,fun|3=>4|4=>5|n=>n⟩
theorem Tryz.Vz:Go.Proofs.Lays.n161 prog Tryz.Nc:={
 mixed:=by kernel_rfl
 f119:=Tryz.func283.trans (congrArg some (by kernel_rfl))
 f137:=Tryz.func168.trans (congrArg some (by kernel_rfl))
 f151:=Tryz.func255.trans (congrArg some (by kernel_rfl))
 f152:=Tryz.func268.trans (congrArg some (by kernel_rfl))
 f161:=Tryz.func171.trans (congrArg some (by kernel_rfl))
 f197:=Tryz.func254.trans (congrArg some (by kernel_rfl))
 f217:=Tryz.func222.trans (congrArg some (by kernel_rfl))
 f224:=Tryz.func271.trans (congrArg some (by kernel_rfl))
 f225:=Tryz.func270.trans (congrArg some (by kernel_rfl))
 f227:=Tryz.func224.trans (congrArg some (by kernel_rfl))
 f228:=Tryz.func253.trans (congrArg some (by kernel_rfl))
 f231:=Tryz.func223.trans (congrArg some (by kernel_rfl))
 f233:=Tryz.func225.trans (congrArg some (by kernel_rfl))
 f235:=Tryz.func226.trans (congrArg some (by kernel_rfl))
 f260:=Tryz.func267.trans (congrArg some (by kernel_rfl))
 f266:=Tryz.func252.trans (congrArg some (by kernel_rfl))
 t0:=aaK
 a0:=Tryz.isAgg0
 z0:=Tryz.sizeOf0
 v0:=Tryz.zeroValue0
 t3:=YR
 a3:=Tryz.isAgg3
 z3:=Tryz.sizeOf3
 v3:=Tryz.zeroValue3
 t4:=ZG
 a4:=Tryz.isAgg4
 z4:=Tryz.sizeOf4
 v4:=Tryz.zeroValue4
 t5:=YV
 a5:=Tryz.isAgg5
 z5:=Tryz.sizeOf5
 v5:=Tryz.zeroValue5
 t9:=Ym
 a9:=Tryz.isAgg9
 z9:=Tryz.sizeOf9
 v9:=Tryz.zeroValue9
 t21:=Tryz.underlying21
 a21:=Tryz.isAgg21
 z21:=Tryz.sizeOf21
 v21:=Tryz.zeroValue21
 t46:=ZZ
 a46:=Tryz.isAgg139
 z46:=Tryz.sizeOf139
 v46:=Tryz.zeroValue139
 t105:=acB
 a105:=Tryz.isAgg228
 z105:=Tryz.sizeOf228
 v105:=Tryz.zeroValue228
 t116:=acC
 a116:=Tryz.isAgg204
 z116:=Tryz.sizeOf204
 t117:=acD
 a117:=Tryz.isAgg205
 z117:=Tryz.sizeOf205
 v117:=Tryz.zeroValue205
 t119:=acE
 a119:=Tryz.isAgg245
 z119:=Tryz.sizeOf245
 t124:=acF
 a124:=Tryz.isAgg208
 z124:=Tryz.sizeOf208
 v124:=Tryz.zeroValue208
 t138:=acG
 a138:=Tryz.isAgg247
 z138:=Tryz.sizeOf247
 v138:=Tryz.zeroValue247
 t139:=acH
 a139:=Tryz.isAgg248
 z139:=Tryz.sizeOf248
 v139:=Tryz.zeroValue248
 g3:=by kernel_rfl
 g4:=by kernel_rfl }
open Go.RowKit in
def Tryz.MS:Go.Shelf.Ren:=⟨fun|162=>177|232=>227|227=>224|234=>228|236=>229|228=>253|271=>256|151=>255|120=>269|197=>254|152=>268|260=>267|137=>168|119=>283|224=>271|225=>270|217=>222|266=>252|n=>n,fun|9=>9|4=>4|3=>3|5=>5|117=>205|116=>204|0=>0|124=>208|21=>21|105=>228|46=>139|119=>245|139=>248|138=>247|n=>n,fun|3=>4|4=>5|n=>n⟩
theorem Tryz.Vm:Go.Proofs.Lays.n162 prog Tryz.MS:={
 mixed:=by kernel_rfl
 f119:=Tryz.func283.trans (congrArg some (by kernel_rfl))
 f120:=Tryz.func269.trans (congrArg some (by kernel_rfl))
 f137:=Tryz.func168.trans (congrArg some (by kernel_rfl))
 f151:=Tryz.func255.trans (congrArg some (by kernel_rfl))
 f152:=Tryz.func268.trans (congrArg some (by kernel_rfl))
 f162:=Tryz.func177.trans (congrArg some (by kernel_rfl))
 f197:=Tryz.func254.trans (congrArg some (by kernel_rfl))
 f217:=Tryz.func222.trans (congrArg some (by kernel_rfl))
 f224:=Tryz.func271.trans (congrArg some (by kernel_rfl))
 f225:=Tryz.func270.trans (congrArg some (by kernel_rfl))
 f227:=Tryz.func224.trans (congrArg some (by kernel_rfl))
 f228:=Tryz.func253.trans (congrArg some (by kernel_rfl))
 f232:=Tryz.func227.trans (congrArg some (by kernel_rfl))
 f234:=Tryz.func228.trans (congrArg some (by kernel_rfl))
 f236:=Tryz.func229.trans (congrArg some (by kernel_rfl))
 f260:=Tryz.func267.trans (congrArg some (by kernel_rfl))
 f266:=Tryz.func252.trans (congrArg some (by kernel_rfl))
 f271:=Tryz.func256.trans (congrArg some (by kernel_rfl))
 t0:=aaK
 a0:=Tryz.isAgg0
 z0:=Tryz.sizeOf0
 v0:=Tryz.zeroValue0
 t3:=YR
 a3:=Tryz.isAgg3
 z3:=Tryz.sizeOf3
 v3:=Tryz.zeroValue3
 t4:=ZG
 a4:=Tryz.isAgg4
 z4:=Tryz.sizeOf4
 v4:=Tryz.zeroValue4
 t5:=YV
 a5:=Tryz.isAgg5
 z5:=Tryz.sizeOf5
 v5:=Tryz.zeroValue5
 t9:=Ym
 a9:=Tryz.isAgg9
 z9:=Tryz.sizeOf9
 v9:=Tryz.zeroValue9
 t21:=Tryz.underlying21
 a21:=Tryz.isAgg21
 z21:=Tryz.sizeOf21
 v21:=Tryz.zeroValue21
 t46:=ZZ
 a46:=Tryz.isAgg139
 z46:=Tryz.sizeOf139
 v46:=Tryz.zeroValue139
 t105:=acB
 a105:=Tryz.isAgg228
 z105:=Tryz.sizeOf228
 v105:=Tryz.zeroValue228
 t116:=acC
 a116:=Tryz.isAgg204
 z116:=Tryz.sizeOf204
 t117:=acD
 a117:=Tryz.isAgg205
 z117:=Tryz.sizeOf205
 v117:=Tryz.zeroValue205
 t119:=acE
 a119:=Tryz.isAgg245
 z119:=Tryz.sizeOf245
 t124:=acF
 a124:=Tryz.isAgg208
 z124:=Tryz.sizeOf208
 v124:=Tryz.zeroValue208
 t138:=acG
 a138:=Tryz.isAgg247
 z138:=Tryz.sizeOf247
 v138:=Tryz.zeroValue247
 t139:=acH
 a139:=Tryz.isAgg248
 z139:=Tryz.sizeOf248
 v139:=Tryz.zeroValue248
 g3:=by kernel_rfl
 g4:=by kernel_rfl }
open Go.RowKit in
theorem Tryz.strings_TrimRight_one (s:ByteArray)(c:UInt8)(hc:c.toNat < 128)(w:World)(hs:s.size≤9223372036854775807) :
  Calls prog 177 #[.string s,.string ⟨#[c]⟩] w fun e w'=>e=.returned (.string ⟨(Lib.trimRightB s.data.toList c).toArray⟩)∧w'=w:=Any.strings_TrimRight_one Tryz.Vm s c hc w hs
def Tryz.M1:Go.Shelf.Ren:=⟨fun|160=>172|232=>227|231=>223|227=>224|234=>228|233=>225|236=>229|235=>226|228=>253|271=>256|151=>255|197=>254|120=>269|152=>268|260=>267|137=>168|119=>283|224=>271|225=>270|217=>222|266=>252|n=>n,fun|9=>9|4=>4|3=>3|5=>5|117=>205|116=>204|0=>0|124=>208|21=>21|105=>228|46=>139|119=>245|139=>248|138=>247|n=>n,fun|3=>4|4=>5|n=>n⟩
theorem Tryz.Vv:Go.Proofs.Lays.n160 prog Tryz.M1:={
 mixed:=by kernel_rfl
 f119:=Tryz.func283.trans (congrArg some (by kernel_rfl))
 f120:=Tryz.func269.trans (congrArg some (by kernel_rfl))
 f137:=Tryz.func168.trans (congrArg some (by kernel_rfl))
 f151:=Tryz.func255.trans (congrArg some (by kernel_rfl))
 f152:=Tryz.func268.trans (congrArg some (by kernel_rfl))
 f160:=Tryz.func172.trans (congrArg some (by kernel_rfl))
 f197:=Tryz.func254.trans (congrArg some (by kernel_rfl))
 f217:=Tryz.func222.trans (congrArg some (by kernel_rfl))
 f224:=Tryz.func271.trans (congrArg some (by kernel_rfl))
 f225:=Tryz.func270.trans (congrArg some (by kernel_rfl))
 f227:=Tryz.func224.trans (congrArg some (by kernel_rfl))
 f228:=Tryz.func253.trans (congrArg some (by kernel_rfl))
 f231:=Tryz.func223.trans (congrArg some (by kernel_rfl))
 f232:=Tryz.func227.trans (congrArg some (by kernel_rfl))
 f233:=Tryz.func225.trans (congrArg some (by kernel_rfl))
 f234:=Tryz.func228.trans (congrArg some (by kernel_rfl))
 f235:=Tryz.func226.trans (congrArg some (by kernel_rfl))
 f236:=Tryz.func229.trans (congrArg some (by kernel_rfl))
 f260:=Tryz.func267.trans (congrArg some (by kernel_rfl))
 f266:=Tryz.func252.trans (congrArg some (by kernel_rfl))
 f271:=Tryz.func256.trans (congrArg some (by kernel_rfl))
 t0:=aaK
 a0:=Tryz.isAgg0
 z0:=Tryz.sizeOf0
 v0:=Tryz.zeroValue0
 t3:=YR
 a3:=Tryz.isAgg3
 z3:=Tryz.sizeOf3
 v3:=Tryz.zeroValue3
 t4:=ZG
 a4:=Tryz.isAgg4
 z4:=Tryz.sizeOf4
 v4:=Tryz.zeroValue4
 t5:=YV
 a5:=Tryz.isAgg5
 z5:=Tryz.sizeOf5
 v5:=Tryz.zeroValue5
 t9:=Ym
 a9:=Tryz.isAgg9
 z9:=Tryz.sizeOf9
 v9:=Tryz.zeroValue9
 t21:=Tryz.underlying21
 a21:=Tryz.isAgg21
 z21:=Tryz.sizeOf21
 v21:=Tryz.zeroValue21
 t46:=ZZ
 a46:=Tryz.isAgg139
 z46:=Tryz.sizeOf139
 v46:=Tryz.zeroValue139
 t105:=acB
 a105:=Tryz.isAgg228
 z105:=Tryz.sizeOf228
 v105:=Tryz.zeroValue228
 t116:=acC
 a116:=Tryz.isAgg204
 z116:=Tryz.sizeOf204
 t117:=acD
 a117:=Tryz.isAgg205
 z117:=Tryz.sizeOf205
 v117:=Tryz.zeroValue205
 t119:=acE
 a119:=Tryz.isAgg245
 z119:=Tryz.sizeOf245
 t124:=acF
 a124:=Tryz.isAgg208
 z124:=Tryz.sizeOf208
 v124:=Tryz.zeroValue208
 t138:=acG
 a138:=Tryz.isAgg247
 z138:=Tryz.sizeOf247
 v138:=Tryz.zeroValue247
 t139:=acH
 a139:=Tryz.isAgg248
 z139:=Tryz.sizeOf248
 v139:=Tryz.zeroValue248
 g3:=by kernel_rfl
 g4:=by kernel_rfl }
open Go.RowKit in
def Tryz.MQ:Go.Shelf.Ren:=⟨fun|137=>168|217=>222|266=>252|n=>n,fun|9=>9|5=>5|3=>3|n=>n,fun|n=>n⟩
theorem Tryz.Vd:Go.Proofs.Lays.n137 prog Tryz.MQ:={
 mixed:=by kernel_rfl
 f137:=Tryz.func168.trans (congrArg some (by kernel_rfl))
 f217:=Tryz.func222.trans (congrArg some (by kernel_rfl))
 f266:=Tryz.func252.trans (congrArg some (by kernel_rfl))
 t3:=YR
 a3:=Tryz.isAgg3
 z3:=Tryz.sizeOf3
 v3:=Tryz.zeroValue3
 t5:=YV
 a5:=Tryz.isAgg5
 z5:=Tryz.sizeOf5
 v5:=Tryz.zeroValue5
 t9:=Ym
 a9:=Tryz.isAgg9
 z9:=Tryz.sizeOf9
 v9:=Tryz.zeroValue9 }
open Go.RowKit in
theorem Tryz.strings_IndexByte (s:ByteArray)(c:Int)(w:World) :
  Calls prog 168 #[.string s,.int .u8 c] w fun e w'=>e=.returned (.int .i64 (Lib.indexByte s.data.toList c.toNat.toUInt8))∧w'=w:=Any.strings_IndexByte Tryz.Vd s c w
open Go.RowKit in
open Go.RowKit in
open Go.RowKit in
open Go.RowKit in
open Go.RowKit in
open Go.RowKit in
open Go.RowKit in
open Go.RowKit in
theorem Tryz.Builder_Grow_fresh_cap (B b n:Nat)(w:World)(hB:B≤b)(hbk:w.heap[b]?=some (.cells #[.pointer none,.slice none 0 0] 78 (0,0)))(hBw:B≤w.heap.size)(hn:n≤281474976710656) :
  Calls prog 243 #[.pointer (some ⟨b,0,none⟩),.int .i64 n] w fun e w'=>e=.returned (.tuple #[])∧(Lib.BuilderAt 78 5 B b (.pointer (some ⟨b,0,none⟩)) [] w'∧Below B w w')∧∃p cap,w'.cell? ⟨b,1,none⟩=some (.slice p 0 cap)∧n≤cap:=Any.Builder_Grow_fresh_cap Tryz.UM Tryz.EJ B b n w hB hbk hBw hn
open Go.Lib in
open Go.Lib in
open Go.Lib in
open Go.Lib in
open Go.RowKit Go.Sort Go.Lib in
open Go.RowKit Go.Sort Go.Lib in
open Go.RowKit Go.Sort Go.Lib in
def Tryz.LI:Go.Shelf.Ren:=⟨fun|173=>85|246=>129|283=>179|284=>180|285=>181|286=>182|129=>234|317=>233|318=>235|319=>236|320=>237|337=>258|338=>259|n=>n,fun|2=>2|3=>3|9=>9|4=>4|171=>182|0=>0|53=>183|37=>76|5=>5|173=>186|212=>214|51=>215|20=>20|213=>216|46=>139|232=>235|233=>236|n=>n,fun|17=>0|18=>2|19=>3|n=>n⟩
theorem Tryz.Ts:Go.Proofs.LaysM.n173 prog Tryz.LI:={
 mixed:=by kernel_rfl
 f129:=Tryz.func234.trans (congrArg some (by kernel_rfl))
 f173:=Tryz.func85.trans (congrArg some (by kernel_rfl))
 f246:=Tryz.func129.trans (congrArg some (by kernel_rfl))
 f283:=Tryz.func179.trans (congrArg some (by kernel_rfl))
 f284:=Tryz.func180.trans (congrArg some (by kernel_rfl))
 f285:=Tryz.func181.trans (congrArg some (by kernel_rfl))
 f286:=Tryz.func182.trans (congrArg some (by kernel_rfl))
 f317:=Tryz.func233.trans (congrArg some (by kernel_rfl))
 f318:=Tryz.func235.trans (congrArg some (by kernel_rfl))
 f319:=Tryz.func236.trans (congrArg some (by kernel_rfl))
 f320:=Tryz.func237.trans (congrArg some (by kernel_rfl))
 f337:=Tryz.func258.trans (congrArg some (by kernel_rfl))
 f338:=Tryz.func259.trans (congrArg some (by kernel_rfl))
 t0:=aaK
 a0:=Tryz.isAgg0
 z0:=Tryz.sizeOf0
 v0:=Tryz.zeroValue0
 t2:=Z5
 a2:=Tryz.isAgg2
 z2:=Tryz.sizeOf2
 v2:=Tryz.zeroValue2
 t3:=YR
 a3:=Tryz.isAgg3
 z3:=Tryz.sizeOf3
 v3:=Tryz.zeroValue3
 t4:=ZG
 a4:=Tryz.isAgg4
 z4:=Tryz.sizeOf4
 v4:=Tryz.zeroValue4
 t5:=YV
 a5:=Tryz.isAgg5
 z5:=Tryz.sizeOf5
 v5:=Tryz.zeroValue5
 t9:=Ym
 a9:=Tryz.isAgg9
 z9:=Tryz.sizeOf9
 v9:=Tryz.zeroValue9
 t20:=ZH
 a20:=Tryz.isAgg20
 z20:=Tryz.sizeOf20
 v20:=Tryz.zeroValue20
 t37:=Y3
 a37:=Tryz.isAgg76
 z37:=Tryz.sizeOf76
 v37:=Tryz.zeroValue76
 t46:=ZZ
 a46:=Tryz.isAgg139
 z46:=Tryz.sizeOf139
 v46:=Tryz.zeroValue139
 t51:=abK
 a51:=Tryz.isAgg215
 z51:=Tryz.sizeOf215
 v51:=Tryz.zeroValue215
 t53:=acI
 a53:=Tryz.isAgg183
 z53:=Tryz.sizeOf183
 v53:=Tryz.zeroValue183
 t171:=Tryz.underlying182
 a171:=Tryz.isAgg182
 z171:=Tryz.sizeOf182
 v171:=Tryz.zeroValue182
 t173:=Tryz.underlying186
 a173:=Tryz.isAgg186
 z173:=Tryz.sizeOf186
 v173:=Tryz.zeroValue186
 t212:=Tryz.underlying214
 a212:=Tryz.isAgg214
 z212:=Tryz.sizeOf214
 v212:=Tryz.zeroValue214
 t213:=Tryz.underlying216
 a213:=Tryz.isAgg216
 z213:=Tryz.sizeOf216
 t232:=Tryz.underlying235
 a232:=Tryz.isAgg235
 z232:=Tryz.sizeOf235
 v232:=Tryz.zeroValue235
 t233:=Tryz.underlying236
 a233:=Tryz.isAgg236
 z233:=Tryz.sizeOf236
 v233:=Tryz.zeroValue236
 g17:=by kernel_rfl
 g18:=by kernel_rfl
 g19:=by kernel_rfl
 i0:=by kernel_rfl
 i2:=by kernel_rfl
 i3:=by kernel_rfl
 i4:=by kernel_rfl
 i5:=by kernel_rfl
 i9:=by kernel_rfl
 i20:=by kernel_rfl
 i37:=by kernel_rfl
 i46:=by kernel_rfl
 i51:=by kernel_rfl
 i53:=by kernel_rfl
 i171:=by kernel_rfl
 i173:=by kernel_rfl
 i212:=by kernel_rfl
 i232:=by kernel_rfl
 i233:=by kernel_rfl
 m17:=by kernel_rfl
 m18:=by kernel_rfl
 m19:=by kernel_rfl }
open Go.RowKit Go.Sort Go.Lib in
theorem Tryz.strconv_FormatInt_10 (n:Int)(h0:-9223372036854775808≤n)(h1:n≤9223372036854775807)(w:World)(htab:Lib.TabIs prog w "internal/strconv.uint64pow10" .u64 Lib.pow10Tab) :
  Calls prog 85 #[.int .i64 n,.int .i64 10] w fun e w'=>e=.returned (.string ⟨(Lib.itoa n).toArray⟩)∧∃k os,w'=grow (w.drewN k) os:=Any.strconv_FormatInt_10 Tryz.Ts n h0 h1 w htab
open Go.RowKit Go.Sort Go.Lib in
open Go.RowKit Go.Lib in
open Go.RowKit Go.Lib in
open Go.RowKit Go.Lib in
def Tryz.My:Go.Shelf.Ren:=⟨fun|219=>257|217=>222|225=>270|224=>271|267=>272|266=>252|314=>284|n=>n,fun|9=>9|3=>3|4=>4|5=>5|46=>139|146=>250|51=>215|n=>n,fun|1=>1|n=>n⟩
theorem Tryz.VM:Go.Proofs.Lays.n219 prog Tryz.My:={
 mixed:=by kernel_rfl
 f217:=Tryz.func222.trans (congrArg some (by kernel_rfl))
 f219:=Tryz.func257.trans (congrArg some (by kernel_rfl))
 f224:=Tryz.func271.trans (congrArg some (by kernel_rfl))
 f225:=Tryz.func270.trans (congrArg some (by kernel_rfl))
 f266:=Tryz.func252.trans (congrArg some (by kernel_rfl))
 f267:=Tryz.func272.trans (congrArg some (by kernel_rfl))
 f314:=Tryz.func284.trans (congrArg some (by kernel_rfl))
 t3:=YR
 a3:=Tryz.isAgg3
 z3:=Tryz.sizeOf3
 v3:=Tryz.zeroValue3
 t4:=ZG
 a4:=Tryz.isAgg4
 z4:=Tryz.sizeOf4
 v4:=Tryz.zeroValue4
 t5:=YV
 a5:=Tryz.isAgg5
 z5:=Tryz.sizeOf5
 v5:=Tryz.zeroValue5
 t9:=Ym
 a9:=Tryz.isAgg9
 z9:=Tryz.sizeOf9
 v9:=Tryz.zeroValue9
 t46:=ZZ
 a46:=Tryz.isAgg139
 z46:=Tryz.sizeOf139
 v46:=Tryz.zeroValue139
 t51:=abK
 a51:=Tryz.isAgg215
 z51:=Tryz.sizeOf215
 v51:=Tryz.zeroValue215
 t146:=Tryz.underlying250
 a146:=Tryz.isAgg250
 z146:=Tryz.sizeOf250
 v146:=Tryz.zeroValue250
 g1:=by kernel_rfl }
open Go.RowKit Go.Lib in
theorem Tryz.stringslite_Index_one (s:ByteArray)(c:UInt8)(w:World) :
  Calls prog 257 #[.string s,.string ⟨#[c]⟩] w fun e w'=>e=.returned (.int .i64 (Lib.indexByte s.data.toList c))∧w'=w:=Any.stringslite_Index_one Tryz.VM s c w
open Go.RowKit Go.Lib in
open Go.RowKit Go.Lib in
open Go.RowKit Go.Lib in
def Tryz.MR:Go.Shelf.Ren:=⟨fun|144=>173|143=>230|219=>257|217=>222|225=>270|224=>271|267=>272|266=>252|314=>284|n=>n,fun|9=>9|4=>4|3=>3|5=>5|46=>139|146=>250|51=>215|n=>n,fun|1=>1|n=>n⟩
theorem Tryz.UG:Go.Proofs.Lays.n144 prog Tryz.MR:={
 mixed:=by kernel_rfl
 f143:=Tryz.func230.trans (congrArg some (by kernel_rfl))
 f144:=Tryz.func173.trans (congrArg some (by kernel_rfl))
 f217:=Tryz.func222.trans (congrArg some (by kernel_rfl))
 f219:=Tryz.func257.trans (congrArg some (by kernel_rfl))
 f224:=Tryz.func271.trans (congrArg some (by kernel_rfl))
 f225:=Tryz.func270.trans (congrArg some (by kernel_rfl))
 f266:=Tryz.func252.trans (congrArg some (by kernel_rfl))
 f267:=Tryz.func272.trans (congrArg some (by kernel_rfl))
 f314:=Tryz.func284.trans (congrArg some (by kernel_rfl))
 t3:=YR
 a3:=Tryz.isAgg3
 z3:=Tryz.sizeOf3
 v3:=Tryz.zeroValue3
 t4:=ZG
 a4:=Tryz.isAgg4
 z4:=Tryz.sizeOf4
 v4:=Tryz.zeroValue4
 t5:=YV
 a5:=Tryz.isAgg5
 z5:=Tryz.sizeOf5
 v5:=Tryz.zeroValue5
 t9:=Ym
 a9:=Tryz.isAgg9
 z9:=Tryz.sizeOf9
 v9:=Tryz.zeroValue9
 t46:=ZZ
 a46:=Tryz.isAgg139
 z46:=Tryz.sizeOf139
 v46:=Tryz.zeroValue139
 t51:=abK
 a51:=Tryz.isAgg215
 z51:=Tryz.sizeOf215
 v51:=Tryz.zeroValue215
 t146:=Tryz.underlying250
 a146:=Tryz.isAgg250
 z146:=Tryz.sizeOf250
 v146:=Tryz.zeroValue250
 g1:=by kernel_rfl }
open Go.RowKit Go.Lib in
theorem Tryz.strings_Contains_one (s:ByteArray)(c:UInt8)(w:World) :
  Calls prog 173 #[.string s,.string ⟨#[c]⟩] w fun e w'=>e=.returned (.bool (decide (0≤Lib.indexByte s.data.toList c)))∧w'=w:=Any.strings_Contains_one Tryz.UG s c w
open Go.RowKit Go.Lib in
open Go.RowKit Go.Lib in
open Go.RowKit Go.Lib in
def Tryz.Ma:Go.Shelf.Ren:=⟨fun|190=>249|125=>266|258=>265|128=>282|129=>234|302=>274|303=>275|304=>276|305=>277|306=>278|307=>279|308=>183|309=>280|310=>281|333=>285|329=>286|330=>287|334=>288|335=>289|336=>238|344=>290|n=>n,fun|31=>22|9=>9|3=>3|46=>139|0=>0|51=>215|53=>183|4=>4|183=>240|182=>239|131=>144|5=>5|218=>252|222=>256|228=>258|229=>54|n=>n,fun|n=>n⟩
theorem Tryz.R3:Go.Proofs.Lays.n190 prog Tryz.Ma:={
 mixed:=by kernel_rfl
 f125:=Tryz.func266.trans (congrArg some (by kernel_rfl))
 f128:=Tryz.func282.trans (congrArg some (by kernel_rfl))
 f129:=Tryz.func234.trans (congrArg some (by kernel_rfl))
 f190:=Tryz.func249.trans (congrArg some (by kernel_rfl))
 f258:=Tryz.func265.trans (congrArg some (by kernel_rfl))
 f302:=Tryz.func274.trans (congrArg some (by kernel_rfl))
 f303:=Tryz.func275.trans (congrArg some (by kernel_rfl))
 f304:=Tryz.func276.trans (congrArg some (by kernel_rfl))
 f305:=Tryz.func277.trans (congrArg some (by kernel_rfl))
 f306:=Tryz.func278.trans (congrArg some (by kernel_rfl))
 f307:=Tryz.func279.trans (congrArg some (by kernel_rfl))
 f308:=Tryz.func183.trans (congrArg some (by kernel_rfl))
 f309:=Tryz.func280.trans (congrArg some (by kernel_rfl))
 f310:=Tryz.func281.trans (congrArg some (by kernel_rfl))
 f329:=Tryz.func286.trans (congrArg some (by kernel_rfl))
 f330:=Tryz.func287.trans (congrArg some (by kernel_rfl))
 f333:=Tryz.func285.trans (congrArg some (by kernel_rfl))
 f334:=Tryz.func288.trans (congrArg some (by kernel_rfl))
 f335:=Tryz.func289.trans (congrArg some (by kernel_rfl))
 f336:=Tryz.func238.trans (congrArg some (by kernel_rfl))
 f344:=Tryz.func290.trans (congrArg some (by kernel_rfl))
 t0:=aaK
 a0:=Tryz.isAgg0
 z0:=Tryz.sizeOf0
 v0:=Tryz.zeroValue0
 t3:=YR
 a3:=Tryz.isAgg3
 z3:=Tryz.sizeOf3
 v3:=Tryz.zeroValue3
 t4:=ZG
 a4:=Tryz.isAgg4
 z4:=Tryz.sizeOf4
 v4:=Tryz.zeroValue4
 t5:=YV
 a5:=Tryz.isAgg5
 z5:=Tryz.sizeOf5
 v5:=Tryz.zeroValue5
 t9:=Ym
 a9:=Tryz.isAgg9
 z9:=Tryz.sizeOf9
 v9:=Tryz.zeroValue9
 t31:=Yn
 a31:=Tryz.isAgg22
 z31:=Tryz.sizeOf22
 v31:=Tryz.zeroValue22
 t46:=ZZ
 a46:=Tryz.isAgg139
 z46:=Tryz.sizeOf139
 v46:=Tryz.zeroValue139
 t51:=abK
 a51:=Tryz.isAgg215
 z51:=Tryz.sizeOf215
 v51:=Tryz.zeroValue215
 t53:=acI
 a53:=Tryz.isAgg183
 z53:=Tryz.sizeOf183
 v53:=Tryz.zeroValue183
 t131:=Tryz.underlying144
 a131:=Tryz.isAgg144
 z131:=Tryz.sizeOf144
 v131:=Tryz.zeroValue144
 t182:=Tryz.underlying239
 a182:=Tryz.isAgg239
 z182:=Tryz.sizeOf239
 v182:=Tryz.zeroValue239
 t183:=Tryz.underlying240
 a183:=Tryz.isAgg240
 z183:=Tryz.sizeOf240
 v183:=Tryz.zeroValue240
 t218:=Tryz.underlying252
 a218:=Tryz.isAgg252
 z218:=Tryz.sizeOf252
 v218:=Tryz.zeroValue252
 t222:=Tryz.underlying256
 a222:=Tryz.isAgg256
 z222:=Tryz.sizeOf256
 v222:=Tryz.zeroValue256
 t228:=Tryz.underlying258
 a228:=Tryz.isAgg258
 z228:=Tryz.sizeOf258
 v228:=Tryz.zeroValue258
 t229:=Tryz.underlying54
 a229:=Tryz.isAgg54
 z229:=Tryz.sizeOf54
 v229:=Tryz.zeroValue54 }
open Go.Sort Go.RowKit in
theorem Tryz.slices_Sort_string (blk off cap:Nat)(ss:List (List UInt8))(w:World)(hH:Holds encStr w blk off ss.toArray)(hblk:blk < w.heap.size)(hsz:ss.length < 4611686018427387904) :
  Calls prog 249 #[.slice (some ⟨blk,off,none⟩) ss.length cap] w fun e w'=>
   e=.returned (.tuple #[])∧∃n os,w'=grow (putRow encStr (Sort.ahead w n) blk off (ss.mergeSort fun x y=>decide (x≤y)).toArray) os:=Any.slices_Sort_string Tryz.R3 blk off cap ss w hH hblk hsz
open Go.RowKit Go.Lib in
def Tryz.Py:Go.Shelf.Ren:=⟨fun|99=>115|206=>169|n=>n,fun|9=>9|4=>4|3=>3|n=>n,fun|n=>n⟩
theorem Tryz.WC:Go.Proofs.Lays.n99 prog Tryz.Py:={
 mixed:=by kernel_rfl
 f99:=Tryz.func115.trans (congrArg some (by kernel_rfl))
 f206:=Tryz.func169.trans (congrArg some (by kernel_rfl))
 t3:=YR
 a3:=Tryz.isAgg3
 z3:=Tryz.sizeOf3
 v3:=Tryz.zeroValue3
 t4:=ZG
 a4:=Tryz.isAgg4
 z4:=Tryz.sizeOf4
 v4:=Tryz.zeroValue4
 t9:=Ym
 a9:=Tryz.isAgg9
 z9:=Tryz.sizeOf9
 v9:=Tryz.zeroValue9 }
open Go.RowKit Go.Lib in
theorem Tryz.strings_HasPrefix (s p:ByteArray)(w:World) :
  Calls prog 115 #[.string s,.string p] w fun e w'=>e=.returned (.bool (Lib.hasPrefix s.data.toList p.data.toList))∧w'=w:=Any.strings_HasPrefix Tryz.WC s p w
open Go.RowKit Go.Lib in
open Go.RowKit Go.Sort in
theorem Tryz.slices_Sort_string_none (p:Option Addr)(cap:Nat)(w:World) :
  Calls prog 249 #[.slice p 0 cap] w fun e w'=>e=.returned (.tuple #[])∧w'=w:=Any.slices_Sort_string_none Tryz.R3 p cap w
end Go.Proofs
namespace Go.Proofs.YtkejpieaafeblaaGreatDoor
section
open Eng Go.RowKit
abbrev Bld (b:Nat)(v:Value)(l:List UInt8):Ent:=.bld 78 5 b v l
theorem jY (a b:List UInt8):bZ (a++b)=bZ a++bZ b:=by simp[bZ]
theorem Fg (l:List UInt8):∀u∈bZ l,u.oneCell'=true:=by
 intro u hu;simp only[bZ,YN] at hu;obtain⟨c,_,rfl⟩:=hu;rfl
theorem Qo {P:Program}{T U:TypeId}{xo:Operand}{a:Option Addr}{c:Value}{w:World}{PK:PKT}{K:VWP}(h:P.underlying T=some (.pointer U)) :
  DoX P (mEq .eql T xo (.const c) (.pointer a) (.pointer none)) w PK K=K (.bool a.isNone) w:=by
 refine eJ ?_;have e:(eqGuard .eql T xo (.const c) (.pointer a) (.pointer none))=pure ():=by cases xo<;>rfl
 rw[e];have h2:∀d:Nat,(Op.equalIn (d+1) T (.pointer a) (.pointer none)).run P w=.ok a.isNone w:=fun d=>by
  cases a<;>simp[Op.equalIn,run_underlying h]
 simp only[binOp];simp[Op.equal,Op.maxDepth,h2 9999]
theorem US {P:Program}{T U:TypeId}{xo yo:Operand}{a:Addr}{w:World}{PK:PKT}{K:VWP}(h:P.underlying T=some (.pointer U))(hi:(P.info? U).isSome=true)(hg:eqGuard .neq T xo yo (.pointer (some a)) (.pointer (some a))=pure ()) :
  DoX P (mEq .neq T xo yo (.pointer (some a)) (.pointer (some a))) w PK K=K (.bool false) w:=by
 obtain⟨j,hj⟩:=Option.isSome_iff_exists.1 hi;refine eJ ?_;rw[hg];simp[Lib.run_neq_ptr_same w a h hj]
theorem Ee {b:Nat}{v:Value}{l:List UInt8}{w:World}(h:(Bld b v l).is w):Ret prog 82 #[.pointer (some ⟨b,0,none⟩)] w
  (fun r w'=>∃e',(r=.tuple #[]∧e'=Bld b v l)∧Turn (Bld b v l) e' w w'):=by
 obtain⟨p,hp,hcap,ho⟩:=(OwnS.lend h).TN;refine aO fun K hK=>mQ ?_;unfold fZ dx;simp only[rs,dJ (show fOff prog 78 0=some 0 by kernel_rfl)];rw[bE (by kernel_rfl) (ho.cell 0 rfl 0 rfl)];rcases hp with rfl|rfl
 ·rw[Qo aaL];simp only[abL,rs];obtain⟨j,hj⟩:=Option.isSome_iff_exists.1 (show (Tryz.prog.info? 78).isSome=true by kernel_rfl);have hjs:j.size≠0:=by
   have:(Tryz.prog.info? 78).map (·.size)=some 2:=by kernel_rfl
   rw[hj] at this;simp only[Zv,Zu] at this;omega
  have hsh:w.shape? b=some (78,2):=by
   have hb:w.heap[b]?=some (.cells #[.pointer none,v] 78 (0,0)):=ho.at_ 0 rfl;simp[World.shape?,hb]
  refine pQ (bW (Lib.run_to_unsafe w ⟨b,0,none⟩ aaL acA hj hjs hsh (by show 0 < 2;omega))) ?_;refine pQ (show (eO (.func (.func 127) #[] #[]) #[.pointer (some ⟨b,0,none⟩)]).run prog w=.ok (.value (.pointer (some ⟨b,0,none⟩))) w by kernel_rfl) ?_;refine pQ (bW (Lib.run_from_unsafe w ⟨b,0,none⟩ acA aaL hj hsh (by kernel_rfl))) ?_;refine aW 0 ho rfl (by kernel_rfl) rfl (by simp) fun w2 ho2=>?_;exact hK _ _ ⟨_,⟨rfl,rfl⟩,(OwnS.Eb (.inr rfl) hcap ho2).back⟩
 ·rw[Qo aaL];simp only[abM,rs,dJ (show fOff prog 78 0=some 0 by kernel_rfl)];rw[bE (by kernel_rfl) (ho.cell 0 rfl 0 rfl)];rw[US aaL (by kernel_rfl) rfl];simp only[rs];exact hK _ _ ⟨_,⟨rfl,rfl⟩,(ho.Eb (.inr rfl) hcap).back⟩
theorem kM {b:Nat}{v:Value}{l:List UInt8}{c:UInt8}{w:World}(h:(Bld b v l).is w)(hl:l.length < 140737488355328):Ret prog 84 #[.pointer (some ⟨b,0,none⟩),.int .u8 c.toNat] w
  (fun r w'=>∃e',(r=.nilIface∧∃v',e'=Bld b v' (l++[c]))∧Turn (Bld b v l) e' w w'):=by
 refine aO fun K hK=>nH ?_;unfold fN dx cx;refine eB 0 (OwnS.lend h) rfl (Ee h) ?_;rintro _ _ w1 ⟨rfl,rfl⟩ ho1;obtain⟨p,hp,hcap,ho⟩:=OwnS.TN ho1;simp only[rs,dJ (show fOff prog 78 1=some 1 by kernel_rfl)];rw[bE (by kernel_rfl) (ho.cell 0 rfl 1 rfl)];refine cI (fun b=>.slice (some ⟨b,0,none⟩) 1 1) [.int .u8 c.toNat] 5 (fun _=>by kernel_rfl) ho fun nb w2 h2=>?_;refine GJ 2 Y3 (show elB prog 5 1 1=true by kernel_rfl) (by decide) h2 rfl (h2.sl 0 rfl 1 1 1 rfl) (Fg [c]) (by omega) (by omega) fun v' w3 h3=>?_;refine aW 1 h3 rfl (by kernel_rfl) (by
  have:=h3.at_ 2 rfl;rcases this.2 with ⟨hv,_⟩|⟨_,_,_,_,hv,_⟩<;>rw[hv]<;>rfl) (by simp) fun w4 h4=>?_
 have h5:=h4.tail;have h6:OwnS (Bld b v l).blk w w4 (.cells b [p,v'] 78::.row 5 1 v' (l.length+1) (bZ (l++[c]))::[]):=by
  rw[jY];exact h5
 exact hK _ _ ⟨_,⟨rfl,v',rfl⟩,(OwnS.Eb hp (roomy_row (h6.at_ 1 rfl) (by omega)) h6).back⟩
theorem cG {b:Nat}{v:Value}{l s:List UInt8}{w:World}(h:(Bld b v l).is w)(hl:l.length+s.length≤140737488355328):Ret prog 43 #[.pointer (some ⟨b,0,none⟩),.string ⟨s.toArray⟩] w
  (fun r w'=>∃e',((∃x,r=.tuple #[x,.nilIface])∧∃v',e'=Bld b v' (l++s))∧Turn (Bld b v l) e' w w'):=by
 refine aO fun K hK=>lA ?_;unfold eS dx cx;refine eB 0 (OwnS.lend h) rfl (Ee h) ?_;rintro _ _ w1 ⟨rfl,rfl⟩ ho1;obtain⟨p,hp,hcap,ho⟩:=OwnS.TN ho1;simp only[rs,dJ (show fOff prog 78 1=some 1 by kernel_rfl)];rw[bE (by kernel_rfl) (ho.cell 0 rfl 1 rfl)];refine FR 1 Y3 Ym (show elB prog 5 1 1=true by kernel_rfl) YV (by kernel_rfl) ho rfl (by omega) fun v' w3 hro h3=>?_;refine aW 0 h3 rfl (by kernel_rfl) (by
  have:=h3.at_ 1 rfl;rcases this.2 with ⟨hv,_⟩|⟨_,_,_,_,hv,_⟩<;>rw[hv]<;>rfl) (by simp) fun w4 h4=>?_
 rw[bF Ym];have h6:OwnS (Bld b v l).blk w w4 (.cells b [p,v'] 78::.row 5 1 v' (l.length+s.length) (bZ (l++s))::[]):=by
  rw[jY];exact h4
 exact hK _ _ ⟨_,⟨⟨_,rfl⟩,v',rfl⟩,(OwnS.Eb hp (hro hcap) h6).back⟩
theorem Q7 {E:TypeId}{g n cap:Nat}{xs:List Value}{w:World}(h:w.ownsRowF 0 E 1 (.slice (some ⟨g,0,none⟩) n cap) n xs)(hn0:n≠0) :
  Turn (.row E 1 (.slice (some ⟨g,0,none⟩) n cap) n xs) (.row E 1 (.slice (some ⟨g,0,none⟩) n cap) n xs) w (w.freeze ⟨g,0,none⟩ n):=by
 refine⟨?_,?_,fun k hk=>.inl hk⟩
 ·unfold World.freeze;rw[Yg hn0];refine⟨rfl,rfl,rfl,by simp,fun k hk hne=>?_⟩;have hkg:¬g=k:=fun e=>hne (by show some g=some k;rw[e]);simp only[acJ];rw[Yg hkg]
 ·refine⟨h.1,?_⟩;unfold World.freeze;rw[Yg hn0];rcases h.2 with ⟨hv,_⟩|⟨g',cap',cur,fz,hv,hbg,hg,hfz,rest⟩
  ·cases hv
  ·injection hv with ha _ hcap
   injection ha with ha
   injection ha with hgg _ _
   subst hgg;subst hcap;obtain⟨lo,hi⟩:=fz;refine .inr ⟨g,_,cur,(if lo==hi then (0,0+n) else (min lo 0,max hi (0+n))),rfl,hbg,?_,?_,rest⟩
   ·simp[acJ,hg]
   ·simp only at hfz;split<;>simp<;>omega
theorem U8 {v:Value}{n:Nat}{T U:TypeId}{cs:Array Bool}{w:World}{E:TypeId}{xs:List Value}(h:w.ownsRowF 0 E 1 v n xs)(hr:roomy v):∃q,(∀w':World,(mB .unsafeSliceData #[T] U cs #[v]).run prog w'=.ok (.value (.pointer q)) w')∧(0 < n→∃g cap,v=.slice (some ⟨g,0,none⟩) n cap∧q=some ⟨g,0,none⟩):=by
 rcases h.2 with ⟨rfl,rfl⟩|⟨g,cap,cur,fz,rfl,hbg,hg,hfz,rest⟩
 ·exact⟨none,fun w'=>by simp[mB,builtin,Lib.run_unsafeSliceData_nil],fun h=>by omega⟩
 ·refine⟨some ⟨g,0,none⟩,fun w'=>?_,fun _=>⟨g,cap,rfl,rfl⟩⟩;have hc:cap≠0:=fun e=>hr ⟨g,0,none⟩ n (by rw[e]);simp[mB,builtin,Lib.run_unsafeSliceData_row _ _ _ _ _ _ hc]
theorem pT {b:Nat}{v:Value}{l:List UInt8}{w:World}(h:(Bld b v l).is w):Ret prog 51 #[.pointer (some ⟨b,0,none⟩)] w
  (fun r w'=>∃e',(r=.string ⟨l.toArray⟩∧e'=Bld b v l)∧Turn (Bld b v l) e' w w'):=by
 obtain⟨p,hp,hcap,ho⟩:=(OwnS.lend h).TN;refine aO fun K hK=>pX ?_;unfold jL dx;have hrow:w.ownsRowF 0 5 1 v l.length (bZ l):=ho.at_ 1 rfl;obtain⟨q,hq,hq2⟩:=U8 (T:=76) (U:=123) (cs:=#[false]) hrow hcap;have hload:∀w',Below w.heap.size w w'→(aA 76 (.pointer (some ⟨b,0+1,none⟩))).run prog w'=.ok (.value v) w':=fun w' hb=>aL (by kernel_rfl) ((ho.grow hb).cell 0 rfl 1 rfl);have hlen:∀w',Below w.heap.size w w'→(mB .len #[76] 3 #[false] #[v]).run prog w'=.ok (.value (.int .i64 l.length)) w':=fun w' hb=>by
  have hs:=(ho.grow hb).D5 1 rfl;obtain⟨_,a,cp,rfl,_⟩:=hs;simp[mB,builtin,Builtin.len_,run_underlying Y3,goInt]
 refine quiet (q_do _ (fun w=>eY) (q_do _ (fun w=>bC (show fOff prog 78 1=some 1 by kernel_rfl)) (q_at v hload (q_do _ hq (q_do _ (fun w=>eY) (q_do _ (fun w=>bC (show fOff prog 78 1=some 1 by kernel_rfl)) (q_at v hload (q_at _ hlen ?_))))))));intro w2 hb2;have h2:=ho.grow hb2;rcases Zd l.length with h0|h0
 ·have hl:l=[]:=ZO h0;subst hl;refine pQ (show (mB .unsafeString #[123,3] 9 #[false,false] #[.pointer q,.int .i64 0]).run prog w2=.ok (.value (.string ⟨([]:List UInt8).toArray⟩)) w2 by
   simp[mB,builtin,Lib.run_unsafeString_none];rfl) ?_
  exact hK _ _ ⟨_,⟨rfl,rfl⟩,(OwnS.Eb hp hcap h2).back⟩
 ·obtain⟨g,cap,rfl,rfl⟩:=hq2 h0;have hr2:w2.ownsRowF 0 5 1 (.slice (some ⟨g,0,none⟩) l.length cap) l.length (bZ l):=h2.at_ 1 rfl;have hne:l≠[]:=ZY.1 h0;have hsh:∃cells,w2.shape? g=some (5,cells)∧l.length≤cells∧l.length≤9223372036854775807:=by
   rcases hr2.2 with ⟨hv,_⟩|⟨g',cap',cur,fz,hv,hbg,hg,hfz,hnc,hcm,hcs,_⟩
   ·cases hv
   ·injection hv with ha _ hcap
    injection ha with ha
    injection ha with hgg _ _
    subst hgg;refine⟨cur.size,by simp[World.shape?,hg],by omega,?_⟩;simp only[maxLen] at hcm;omega
  obtain⟨cells,hsh,hle,h63⟩:=hsh;have hr:=Lib.run_unsafeString_row (P:=prog) w2 123 3 9 5 Tryz.underlying123 (by kernel_rfl) g cells hsh l hne hle h63 (fun j x hj=>by
   have:=World.ownsRowF.cells hr2 (g:=g) rfl j (.int .u8 x.toNat) (Pe hj);exact this)
  refine pQ (show (mB .unsafeString #[123,3] 9 #[false,false] #[.pointer (some ⟨g,0,none⟩),.int .i64 l.length]).run prog w2=.ok (.value (.string ⟨l.toArray⟩)) (w2.freeze ⟨g,0,none⟩ l.length) by
   simp[mB,builtin,hr]) ?_
  have h3:=h2.turn 1 rfl (Q7 hr2 (by omega));exact hK _ _ ⟨_,⟨rfl,rfl⟩,(OwnS.Eb hp hcap h3).back⟩
theorem Sr {b n:Nat}{w0 w1:World}(ho:Own w0 w1 [.cells b [.pointer none,.slice none 0 0] 78])(h0:0 < n)(hn:n≤281474976710656):Ret prog 243 #[.pointer (some ⟨b,0,none⟩),.int .i64 n] w1
  (fun r w2=>r=.tuple #[]∧∃v,Own w0 w2 [Bld b v []]):=by
 have hbk:w1.heap[b]?=some (.cells #[.pointer none,.slice none 0 0] 78 (0,0)):=ho.at_ 0 rfl;have hB:w0.heap.size≤b:=((ho.all (.cells b [.pointer none,.slice none 0 0] 78) (by simp)).2 b rfl).elim (fun x=>x.elim) id;refine Calls.mono (Tryz.Builder_Grow_fresh_cap w0.heap.size b n w1 hB hbk ho.size hn) ?_;rintro e w2 ⟨rfl,⟨⟨_,v,hb,hrow,hne⟩,hbl⟩,p,cap,hcell,hcap⟩;refine retK ⟨rfl,v,?_⟩;have hv:v=.slice p 0 cap:=by
  rw[Lib.cell_of_heap hb] at hcell;simpa using hcell
 refine⟨⟨hbl.os.trans ho.grew.os,hbl.tape.trans ho.grew.tape,hbl.output.trans ho.grew.output,Zb ho.size hbl.size,fun k hk hk2=>(hbl.block k hk).trans (ho.grew.block k hk hk2)⟩,fun e he=>?_,List.pairwise_singleton _ _⟩;rw[Zs] at he;subst he;refine⟨⟨⟨_,.inr rfl,hb⟩,⟨hrow.1,?_⟩,hne,fun a k hc=>?_⟩,fun k hk=>.inr ?_⟩
 ·rcases hrow.2 with h|⟨g,cp,cur,h1,h2,h3,h4⟩
  ·exact .inl h
  ·exact .inr ⟨g,cp,cur,(0,0),h1,ZF _,h3,ZF _,h4⟩
 ·rw[hv] at hc
  injection hc with c1 c2 c3
  omega
 ·rcases hk with hk|hk
  ·rw[hk];exact hB
  ·rcases hrow.2 with ⟨h,_⟩|⟨g,cp,cur,h1,h2,h3,h4⟩
   ·rw[h] at hk;cases hk
   ·rw[h1] at hk;cases hk;exact h2
end
section
open Eng
def Hq(t0 w)(K:KT):=
 dx (mBin .lss 2 t0 (iN (-2147483647))) w K fun t5 w=>efx t5 t0 w fun t7 w=>gfx t5 (mBin .gtr 2 t7 (iN 2147483647)) w K fun t8 w=>dx (aF t5 (.bool true) t8) w K fun t9 w=>IfX t9 (K (.returned (.tuple #[(.string ⟨#[]⟩),(iN 2)])) w) (cx 85 #[t0,(iN 10)] w K fun t11 w=>K (.returned (.tuple #[t11,(iN 0)])) w)
theorem IL{t0 w K}(h:Hq t0 w K):Calls prog 46 #[t0] w K:=cw Tryz.func46 rfl rfl (by kernel_rfl) h
def FJ(t0 w)(K:KT):=
 dx (mBin .lss 2 t0 (iN (-1073741824))) w K fun t5 w=>efx t5 t0 w fun t7 w=>gfx t5 (mBin .gtr 2 t7 (iN 1073741824)) w K fun t8 w=>dx (aF t5 (.bool true) t8) w K fun t9 w=>IfX t9 (K (.returned (.tuple #[(.string ⟨#[]⟩),(iN 2)])) w) (cx 241 #[t0] w K fun t11 w=>K (.returned (.tuple #[t11,(iN 0)])) w)
theorem Hc{t0 w K}(h:FJ t0 w K):Calls prog 191 #[t0] w K:=cw Tryz.func191 rfl rfl (by kernel_rfl) h
def Cz(t0 w)(K:KT):=
 dx (mB .len #[9] 3 #[false] #[t0]) w K fun t5 w=>dx (mBin .gtr 3 t5 (iN 32767)) w K fun t6 w=>IfX t6 (K (.returned (.tuple #[(.string ⟨#[]⟩),(iN 5)])) w) (cx 193 #[(.string ⟨#[40]⟩),t0,(.string ⟨#[41]⟩),(.func (.func 242) #[] #[])] w K fun t8 w=>K (.returned (.tuple #[t8,(iN 0)])) w)
theorem Es{t0 w K}(h:Cz t0 w K):Calls prog 192 #[t0] w K:=cw Tryz.func192 rfl rfl (by kernel_rfl) h
def FY(t0 w)(K:KT):=
 dx (mB .len #[9] 3 #[false] #[t0]) w K fun t6 w=>dx (mBin .gtr 3 t6 (iN 127)) w K fun t7 w=>IfX t7 (K (.returned (.tuple #[(.string ⟨#[]⟩),(iN 5)])) w) (cx 168 #[t0,(.int .u8 0)] w K fun t10 w=>dx (mBin .geq 3 t10 (iN 0)) w K fun t11 w=>IfX t11 (K (.returned (.tuple #[(.string ⟨#[]⟩),(iN 3)])) w) (cx 193 #[(.string ⟨#[47]⟩),t0,(.string ⟨#[]⟩),(.func (.func 194) #[] #[])] w K fun t13 w=>K (.returned (.tuple #[t13,(iN 0)])) w))
theorem HK{t0 w K}(h:FY t0 w K):Calls prog 140 #[t0] w K:=cw Tryz.func140 rfl rfl (by kernel_rfl) h
def CN(t4 t9 w)(N1:JT)(K:KT):=
 dx (mBin .add 3 t9 (iN 1)) w K fun t34 w=>N1 [t4,t34] w
def CC(t3 t6 w)(J2:JT)(K:KT):=
 cx 43 #[t3,t6] w K fun t28 w=>dx (mB .len #[9] 3 #[false] #[t6]) w K fun t31 w=>dx (mBin .sub 3 t31 (iN 1)) w K fun t32 w=>dx (mIx 9 t6 t32) w K fun t33 w=>J2 [t33] w
def CF(t3 t4 t7 t8 t9 w)(N1:JT)(K:KT):=
 dx (mBin .lss 3 t9 t8) w K fun t10 w=>IfX t10 (JoinX (fun J2=>dx (mIA 22 t7 t9) w K fun t11 w=>dx (aA 9 t11) w K fun t12 w=>dx (mEq .eql 9 (.tmp 13) (.const (.string ⟨#[]⟩)) t12 (.string ⟨#[]⟩)) w K fun t14 w=>IfX t14 (J2 [t4] w) (JoinX (fun J3=>cx 83 #[t4] w K fun t16 w=>efx t16 t4 w fun t18 w=>gfx t16 (mEq .eql 5 (.tmp 18) (.const (.int .u8 47)) t18 (.int .u8 47)) w K fun t19 w=>dx (aF t16 (.bool true) t19) w K fun t20 w=>etx t20 t12 w fun t22 w=>gtx t20 (mIx 9 t22 (iN 0)) w K fun t23 w=>ctx t20 83 #[t23] w K fun t24 w=>dx (aF t20 t24 (.bool false)) w K fun t25 w=>IfX t25 (cx 84 #[t3,(.int .u8 32)] w K fun t26 w=>J3 [] w) (J3 [] w)) (fun vs3 w=>∀_:Sg,CC t3 t12 w J2 K))) (fun vs2 w=>∀_:Sg,CN (vs2.getD 0 undef) t9 w N1 K)) (cx 51 #[t3] w K fun t35 w=>K (.returned t35) w)
def A4(t0 w)(K:KT):=
 dx (aM 78) w K fun t3 w=>dx (mB .len #[22] 3 #[false] #[t0]) w K fun t8 w=>LoopX [(.int .u8 32),(iN 0)] w (fun vs1 w N1=>∀_:Sg,CF t3 (vs1.getD 0 undef) t0 t8 (vs1.getD 1 undef) w N1 K)
theorem HX (t0:Value)(w:World)(K:Ending→World→Prop):wpX prog 36 [(9,[]),(11,[4])] [(4,[4,9])] none (aY Tryz.f44) (topQ prog [.tmp 2] K) (aR [t0]) [] w=A4 t0 w K:=by kernel_rfl
theorem Hz {t0:Value}{w:World}{K:Ending→World→Prop}(h:A4 t0 w K):Calls prog 44 #[t0] w K:=
 aE Tryz.func44 rfl rfl rfl rfl (Eq.mpr (HX t0 w K) h)
def AU(t1 t2 t3 t9 t23 t24 w)(N1:JT)(K:KT):=
 dx (mBin .lss 3 t24 t23) w K fun t25 w=>IfX t25 (dx (mIx 9 t1 t24) w K fun t30 w=>dx (eO t3 #[t9,t30]) w K fun t31 w=>dx (mBin .add 3 t24 (iN 1)) w K fun t32 w=>N1 [t32] w) (cx 43 #[t9,t2] w K fun t34 w=>cx 51 #[t9] w K fun t35 w=>K (.returned t35) w)
def wG(t0 t1 t2 t3 w)(K:KT):=
 dx (aM 78) w K fun t9 w=>dx (mB .len #[9] 3 #[false] #[t0]) w K fun t12 w=>dx (mB .len #[9] 3 #[false] #[t1]) w K fun t14 w=>dx (mBin .add 3 t12 t14) w K fun t15 w=>dx (mB .len #[9] 3 #[false] #[t2]) w K fun t17 w=>dx (mBin .add 3 t15 t17) w K fun t18 w=>cx 243 #[t9,t18] w K fun t19 w=>cx 43 #[t9,t0] w K fun t21 w=>dx (mB .len #[9] 3 #[false] #[t1]) w K fun t23 w=>LoopX [(iN 0)] w (fun vs1 w N1=>∀_:Sg,AU t1 t2 t3 t9 t23 (vs1.getD 0 undef) w N1 K)
theorem Ge (t0 t1 t2 t3:Value)(w:World)(K:Ending→World→Prop):wpX prog 36 [] [(5,[24])] none (aY Tryz.f193) (topQ prog [.tmp 8] K) (aR [t0,t1,t2,t3]) [] w=wG t0 t1 t2 t3 w K:=by kernel_rfl
theorem Gi {t0 t1 t2 t3:Value}{w:World}{K:Ending→World→Prop}(h:wG t0 t1 t2 t3 w K):Calls prog 193 #[t0,t1,t2,t3] w K:=
 aE Tryz.func193 rfl rfl rfl rfl (Eq.mpr (Ge t0 t1 t2 t3 w K) h)
def jU(t0 t1 t34 t35 w)(N1:JT)(K:KT):=
 dx (mBin .lss 3 t35 (iN 3)) w K fun t36 w=>IfX t36 (dx (mIx 219 t34 t35) w K fun t37 w=>dx (mBin .quo 5 t1 t37) w K fun t41 w=>dx (mBin .rem 5 t41 (.int .u8 8)) w K fun t42 w=>dx (mBin .add 5 (.int .u8 48) t42) w K fun t43 w=>cx 84 #[t0,t43] w K fun t44 w=>dx (mBin .add 3 t35 (iN 1)) w K fun t45 w=>N1 [t45] w) (K (.returned (.tuple #[])) w)
def oM(t0 t1 w)(K:KT):=
 dx (mEq .eql 5 (.tmp 10) (.const (.int .u8 40)) t1 (.int .u8 40)) w K fun t11 w=>efx t11 t1 w fun t13 w=>gfx t11 (mEq .eql 5 (.tmp 13) (.const (.int .u8 41)) t13 (.int .u8 41)) w K fun t14 w=>dx (aF t11 (.bool true) t14) w K fun t15 w=>efx t15 t1 w fun t17 w=>gfx t15 (mEq .eql 5 (.tmp 17) (.const (.int .u8 92)) t17 (.int .u8 92)) w K fun t18 w=>dx (aF t15 (.bool true) t18) w K fun t19 w=>IfX t19 (cx 84 #[t0,(.int .u8 92)] w K fun t21 w=>cx 84 #[t0,t1] w K fun t24 w=>K (.returned (.tuple #[])) w) (dx (mBin .lss 5 t1 (.int .u8 32)) w K fun t27 w=>efx t27 t1 w fun t29 w=>gfx t27 (mBin .gtr 5 t29 (.int .u8 126)) w K fun t30 w=>dx (aF t27 (.bool true) t30) w K fun t31 w=>IfX t31 (cx 84 #[t0,(.int .u8 92)] w K fun t33 w=>dx (aJ 219 #[(0,(.int .u8 64)),(1,(.int .u8 8)),(2,(.int .u8 1))]) w K fun t34 w=>LoopX [(iN 0)] w (fun vs1 w N1=>∀_:Sg,jU t0 t1 t34 (vs1.getD 0 undef) w N1 K)) (cx 84 #[t0,t1] w K fun t8 w=>K (.returned (.tuple #[])) w))
theorem CU (t0 t1:Value)(w:World)(K:Ending→World→Prop):wpX prog 46 [] [(7,[35])] none (aY Tryz.f242) (topQ prog [] K) (aR [t0,t1]) [] w=oM t0 t1 w K:=by kernel_rfl
theorem Dc {t0 t1:Value}{w:World}{K:Ending→World→Prop}(h:oM t0 t1 w K):Calls prog 242 #[t0,t1] w K:=
 aE Tryz.func242 rfl rfl rfl rfl (Eq.mpr (CU t0 t1 w K) h)
def CR(t0 t1 w)(K:KT):=
 dx (mBin .gtr 5 t1 (.int .u8 32)) w K fun t5 w=>etx t5 t1 w fun t7 w=>gtx t5 (mBin .leq 5 t7 (.int .u8 126)) w K fun t8 w=>dx (aF t5 t8 (.bool false)) w K fun t9 w=>etx t9 t1 w fun t11 w=>gtx t9 (mEq .neq 5 (.tmp 11) (.const (.int .u8 35)) t11 (.int .u8 35)) w K fun t12 w=>dx (aF t9 t12 (.bool false)) w K fun t13 w=>etx t13 t1 w fun t15 w=>ctx t13 128 #[t15] w K fun t16 w=>gtx t13 (mUn .not t16) w K fun t17 w=>dx (aF t13 t17 (.bool false)) w K fun t18 w=>IfX t18 (cx 84 #[t0,t1] w K fun t21 w=>K (.returned (.tuple #[])) w) (dx (aS 76 1 #[(0,t1)]) w K fun t24 w=>dx (cH 76 9 t24) w K fun t25 w=>cx 195 #[t25] w K fun t26 w=>dx (mBin .add 9 (.string ⟨#[35]⟩) t26) w K fun t27 w=>cx 43 #[t0,t27] w K fun t28 w=>K (.returned (.tuple #[])) w)
theorem Ey{t0 t1 w K}(h:CR t0 t1 w K):Calls prog 194 #[t0,t1] w K:=cw Tryz.func194 rfl rfl (by kernel_rfl) h
def Ed(t0 t3 t10 t11 w)(N1:JT)(K:KT):=
 dx (mBin .lss 3 t11 t10) w K fun t12 w=>IfX t12 (QuietX w (fun C2=>QDo prog C2 (mIx 9 t0 t11) fun t17=>QDo prog C2 (mBin .shr 5 t17 (.int .u64 4)) fun t18=>QDo prog C2 (mIx 9 (.string ⟨#[48,49,50,51,52,53,54,55,56,57,65,66,67,68,69,70]⟩) t18) fun t19=>QDo prog C2 (mIx 9 t0 t11) fun t22=>QDo prog C2 (mBin .and 5 t22 (.int .u8 15)) fun t23=>QDo prog C2 (mIx 9 (.string ⟨#[48,49,50,51,52,53,54,55,56,57,65,66,67,68,69,70]⟩) t23) fun t24=>
 ∀w,C2 w →
 DoX prog (aS 76 2 #[(0,t19),(1,t24)]) w (pm1 (pm1 (pm1 (pm1 (pm1 (pk K)))))) fun t25 w=>DoX prog (mB .append #[76,76] 76 #[false,false] #[t3,t25]) w (pm1 (pm1 (pm1 (pm1 (pm1 (pk K)))))) fun t26 w=>dx (mBin .add 3 t11 (iN 1)) w K fun t27 w=>N1 [t26,t27] w)) (dx (cH 76 9 t3) w K fun t29 w=>K (.returned t29) w)
def Df(t0 w)(K:KT):=
 dx (mB .len #[9] 3 #[false] #[t0]) w K fun t6 w=>dx (mBin .mul 3 (iN 2) t6) w K fun t7 w=>dx (P6 76 (iN 0) t7) w K fun t8 w=>dx (mB .len #[9] 3 #[false] #[t0]) w K fun t10 w=>LoopX [t8,(iN 0)] w (fun vs1 w N1=>∀_:Sg,Ed t0 (vs1.getD 0 undef) t10 (vs1.getD 1 undef) w N1 K)
theorem Jd (t0:Value)(w:World)(K:Ending→World→Prop):wpX prog 30 [] [(3,[3,11])] none (aY Tryz.f195) (topQ prog [.tmp 2] K) (aR [t0]) [] w=Df t0 w K:=by kernel_rfl
theorem IJ {t0:Value}{w:World}{K:Ending→World→Prop}(h:Df t0 w K):Calls prog 195 #[t0] w K:=
 aE Tryz.func195 rfl rfl rfl rfl (Eq.mpr (Jd t0 w K) h)
def Em(t0 w)(K:KT):=
 cx 168 #[(.string ⟨#[40,41,60,62,91,93,123,125,47,37]⟩),t0] w K fun t4 w=>dx (mBin .geq 3 t4 (iN 0)) w K fun t5 w=>K (.returned t5) w
theorem Gn{t0 w K}(h:Em t0 w K):Calls prog 128 #[t0] w K:=cw Tryz.func128 rfl rfl (by kernel_rfl) h
def Bn(t0 w)(K:KT):=
 cx 114 #[t0] w K fun t4 w=>dx (mUn .not t4) w K fun t5 w=>etx t5 t0 w fun t7 w=>ctx t5 128 #[t7] w K fun t8 w=>gtx t5 (mUn .not t8) w K fun t9 w=>dx (aF t5 t9 (.bool false)) w K fun t10 w=>K (.returned t10) w
theorem D7{t0 w K}(h:Bn t0 w K):Calls prog 83 #[t0] w K:=cw Tryz.func83 rfl rfl (by kernel_rfl) h
def DV(t0 w)(K:KT):=
 cx 168 #[(.string ⟨#[0,9,10,12,13,32]⟩),t0] w K fun t4 w=>dx (mBin .geq 3 t4 (iN 0)) w K fun t5 w=>K (.returned t5) w
theorem Gs{t0 w K}(h:DV t0 w K):Calls prog 114 #[t0] w K:=cw Tryz.func114 rfl rfl (by kernel_rfl) h
end
section
open Eng
def B2(t0 t1 r w)(K:KT):=
 dx (mEq .eql 20 (.tmp 7) (.const .nilIface) r .nilIface) w K fun t9 w=>IfX t9 (K (.returned (.tuple #[])) w) (dx (mTA r 20 210 true) w K fun t10 w=>dx (mExt t10 1) w K fun t11 w=>dx (mExt t10 0) w K fun t12 w=>IfX t11 (dx (mNil t0) w K fun t16 w=>dx (aC 2 t16 (iN 0)) w K fun _ w=>dx (mNil t1) w K fun t17 w=>dx (aC 30 t17 t12) w K fun _ w=>K (.returned (.tuple #[])) w) (dx (jP r) w K fun _ w=>K (.returned (.tuple #[])) w))
theorem Kb (t0 t1 r:Value)(w:World)(K:Ending→World→Prop):wpX prog 18 [] [] none (Kl (aY Tryz.f174)) (topD prog [] K) (upd (aR [t0,t1]) 7 r) [] w=B2 t0 t1 r w K:=by kernel_rfl
theorem CG {t0 t1:Value}{u:FrameMode}{w:World}{R:Ending→FrameMode→World→Prop}(h:B2 t0 t1 (recV u) w (fun e w=>R e (recM u) w)):CallsD prog 174 #[t0,t1] u w R:=
 tY Tryz.func174 rfl rfl rfl rfl rfl rfl rfl rfl (Eq.mpr (Kb t0 t1 (recV u) w _) h)
def Fv(t0 w)(K:KT):=
 dx (mBin .geq 2 t0 (iN (-1073741824))) w K fun t4 w=>etx t4 t0 w fun t6 w=>gtx t4 (mBin .leq 2 t6 (iN 1073741824)) w K fun t7 w=>dx (aF t4 t7 (.bool false)) w K fun t8 w=>K (.returned t8) w
theorem ID{t0 w K}(h:Fv t0 w K):Calls prog 232 #[t0] w K:=cw Tryz.func232 rfl rfl (by kernel_rfl) h
def Bh(t6 w)(N1:JT)(K:KT):=
 dx (mBin .add 3 t6 (iN 1)) w K fun t14 w=>N1 [t14] w
def Bb(t4 t5 t6 w)(N1:JT)(K:KT):=
 dx (mBin .lss 3 t6 t5) w K fun t7 w=>IfX t7 (JoinX (fun J2=>dx (mIA 211 t4 t6) w K fun t8 w=>dx (aA 2 t8) w K fun t9 w=>cx 232 #[t9] w K fun t11 w=>dx (mUn .not t11) w K fun t12 w=>IfX t12 (dx (sP 210 (iN 2)) w K fun t13 w=>dx (jP t13) w K fun _ w=>J2 [] w) (J2 [] w)) (fun vs2 w=>∀_:Sg,Bh t6 w N1 K)) (K (.returned (.tuple #[])) w)
def yC(t0 w)(K:KT):=
 dx (mB .len #[211] 3 #[false] #[t0]) w K fun t5 w=>LoopX [(iN 0)] w (fun vs1 w N1=>∀_:Sg,Bb t0 t5 (vs1.getD 0 undef) w N1 K)
theorem Gf (t0:Value)(w:World)(K:Ending→World→Prop):wpX prog 15 [(5,[])] [(1,[6])] none (aY Tryz.f178) (topQ prog [] K) (aR [t0]) [] w=yC t0 w K:=by kernel_rfl
theorem Gl {t0:Value}{w:World}{K:Ending→World→Prop}(h:yC t0 w K):Calls prog 178 #[t0] w K:=
 aE Tryz.func178 rfl rfl rfl rfl (Eq.mpr (Gf t0 w K) h)
def HF(t0 t1 t5 w)(N1:JT)(K:KT):=
 dx (mBin .gtr 2 t0 (iN 0)) w K fun t7 w=>efx t7 t5 w fun t9 w=>gfx t7 (mB .len #[9] 3 #[false] #[t9]) w K fun t10 w=>efx t7 t1 w fun t11 w=>gfx t7 (mBin .lss 3 t10 t11) w K fun t12 w=>dx (aF t7 (.bool true) t12) w K fun t13 w=>IfX t13 (dx (mBin .rem 2 t0 (iN 10)) w K fun t15 w=>dx (mBin .add 2 (iN 48) t15) w K fun t16 w=>dx (cH 2 5 t16) w K fun t17 w=>dx (aS 76 1 #[(0,t17)]) w K fun t18 w=>dx (cH 76 9 t18) w K fun t19 w=>dx (mBin .add 9 t19 t5) w K fun t21 w=>dx (mBin .quo 2 t0 (iN 10)) w K fun t23 w=>N1 [t23,t21] w) (K (.returned t5) w)
def S_fix_row(t0 t1 w)(K:KT):=
 LoopX [t0,(.string ⟨#[]⟩)] w (fun vs1 w N1=>∀_:Sg,HF (vs1.getD 0 undef) t1 (vs1.getD 1 undef) w N1 K)
theorem Lp (t0 t1:Value)(w:World)(K:Ending→World→Prop):wpX prog 25 [] [(2,[0,5])] none (aY Tryz.f262) (topQ prog [.tmp 4] K) (aR [t0,t1]) [] w=S_fix_row t0 t1 w K:=by kernel_rfl
theorem LR {t0 t1:Value}{w:World}{K:Ending→World→Prop}(h:S_fix_row t0 t1 w K):Calls prog 262 #[t0,t1] w K:=
 aE Tryz.func262 rfl rfl rfl rfl (Eq.mpr (Lp t0 t1 w K) h)
def Fy(t3 t4 t5 w)(K:KT):=
 dx (mBin .add 9 t3 t4) w K fun t24 w=>dx (mBin .add 9 t24 (.string ⟨#[46]⟩)) w K fun t25 w=>dx (mBin .add 9 t25 t5) w K fun t27 w=>K (.returned t27) w
def AE(t0 t3 w)(K:KT):=
 dx (mBin .quo 2 t0 (iN 10000)) w K fun t14 w=>cx 262 #[t14,(iN 1)] w K fun t15 w=>dx (mBin .rem 2 t0 (iN 10000)) w K fun t17 w=>cx 262 #[t17,(iN 4)] w K fun t18 w=>cx 177 #[t18,(.string ⟨#[48]⟩)] w K fun t19 w=>JoinX (fun J2=>dx (mEq .eql 9 (.tmp 20) (.const (.string ⟨#[]⟩)) t19 (.string ⟨#[]⟩)) w K fun t21 w=>IfX t21 (J2 [(.string ⟨#[48]⟩)] w) (J2 [t19] w)) (fun vs2 w=>∀_:Sg,Fy t3 t15 (vs2.getD 0 undef) w K)
def Ez(t0 w)(K:KT):=
 cx 232 #[t0] w K fun t7 w=>dx (mUn .not t7) w K fun t8 w=>IfX t8 (K (.returned (.string ⟨#[]⟩)) w) (JoinX (fun J1=>dx (mBin .lss 2 t0 (iN 0)) w K fun t10 w=>IfX t10 (dx (mUn .neg t0) w K fun t12 w=>J1 [t12,(.string ⟨#[45]⟩)] w) (J1 [t0,(.string ⟨#[]⟩)] w)) (fun vs1 w=>∀_:Sg,AE (vs1.getD 0 undef) (vs1.getD 1 undef) w K))
theorem KH (t0:Value)(w:World)(K:Ending→World→Prop):wpX prog 28 [(6,[0,3]),(10,[5])] [] none (aY Tryz.f241) (topQ prog [.tmp 2] K) (aR [t0]) [] w=Ez t0 w K:=by kernel_rfl
theorem JY {t0:Value}{w:World}{K:Ending→World→Prop}(h:Ez t0 w K):Calls prog 241 #[t0] w K:=
 aE Tryz.func241 rfl rfl rfl rfl (Eq.mpr (KH t0 w K) h)
def Fi(t0 w)(K:KT):=
 cx 172 #[t0,(.string ⟨#[48,49,50,51,52,53,54,55,56,57]⟩)] w K fun t4 w=>dx (mEq .eql 9 (.tmp 4) (.const (.string ⟨#[]⟩)) t4 (.string ⟨#[]⟩)) w K fun t5 w=>K (.returned t5) w
theorem HO{t0 w K}(h:Fi t0 w K):Calls prog 176 #[t0] w K:=cw Tryz.func176 rfl rfl (by kernel_rfl) h
def aD (x0:Value)(x1:Value)(K:Ending→World→Prop):=pd prog [.cell x0 2,.cell x1 30] K [{ target:=.fn (.func 174) #[],args:=#[x0,x1] }]
def FU(t2 t3 w)(K:KT):=
 DoX prog (aA 2 t2) w (aD t2 t3 K) fun t93 w=>DoX prog (aS 211 1 #[(0,t93)]) w (aD t2 t3 K) fun t94 w=>CallX prog 178 #[t94] w (aD t2 t3 K) fun t95 w=>DoX prog (aA 2 t2) w (aD t2 t3 K) fun t96 w=>DoX prog (aC 2 t2 t96) w (aD t2 t3 K) fun _ w=>DoX prog (aC 30 t3 (iN 0)) w (aD t2 t3 K) fun _ w=>kR prog [.cell t2 2,.cell t3 30] K [{ target:=.fn (.func 174) #[],args:=#[t2,t3] }] .returning w
def AW(t2 t3 t4 w)(K:KT):=
 JoinX (fun J5=>IfX t4 (DoX prog (aA 2 t2) w (aD t2 t3 K) fun t91 w=>DoX prog (mUn .neg t91) w (aD t2 t3 K) fun t92 w=>DoX prog (aC 2 t2 t92) w (aD t2 t3 K) fun _ w=>AtX [{ target:=.fn (.func 174) #[],args:=#[t2,t3] }] [{ target:=.fn (.func 174) #[],args:=#[t2,t3] }] (J5 [] w)) (AtX [{ target:=.fn (.func 174) #[],args:=#[t2,t3] }] [{ target:=.fn (.func 174) #[],args:=#[t2,t3] }] (J5 [] w))) (fun vs5 w=>∀_:Sg,FU t2 t3 w K)
def FL(t2 t3 t4 t6 t62 w)(N3:JT)(K:KT):=
 DoX prog (Ll t62 true 0) w (aD t2 t3 K) fun t63 w=>DoX prog (mExt t63 0) w (aD t2 t3 K) fun t64 w=>IfX t64 (DoX prog (mExt t63 2) w (aD t2 t3 K) fun t65 w=>DoX prog (aA 2 t2) w (aD t2 t3 K) fun t66 w=>DoX prog (mBin .mul 2 (iN 10) t66) w (aD t2 t3 K) fun t67 w=>DoX prog (mBin .sub 21 t65 (.int .i32 48)) w (aD t2 t3 K) fun t69 w=>DoX prog (cH 21 2 t69) w (aD t2 t3 K) fun t70 w=>DoX prog (mBin .add 2 t67 t70) w (aD t2 t3 K) fun t71 w=>DoX prog (aC 2 t2 t71) w (aD t2 t3 K) fun _ w=>AtX [{ target:=.fn (.func 174) #[],args:=#[t2,t3] }] [{ target:=.fn (.func 174) #[],args:=#[t2,t3] }] (N3 [] w)) (DoX prog (aT 9 t6 (some (iN 4)) none none) w (aD t2 t3 K) fun t73 w=>CallX prog 177 #[t73,(.string ⟨#[48]⟩)] w (aD t2 t3 K) fun t74 w=>JoinX (fun J4=>etx t4 t74 w fun t77 w=>GDo t4 true (fun E=>DoX prog (mBin .gtr 9 t77 (.string ⟨#[53]⟩)) w (aD t2 t3 K) E) w fun t78 w=>DoX prog (aF t4 t78 (.bool false)) w (aD t2 t3 K) fun t79 w=>efx t79 t4 w fun t81 w=>GDo t79 false (fun E=>DoX prog (mUn .not t81) w (aD t2 t3 K) E) w fun t82 w=>efx t79 t82 w fun t83 w=>etx t83 t74 w fun t84 w=>GDo t83 true (fun E=>DoX prog (mBin .geq 9 t84 (.string ⟨#[53]⟩)) w (aD t2 t3 K) E) w fun t85 w=>GDo t79 false (fun E=>DoX prog (aF t83 t85 (.bool false)) w (aD t2 t3 K) E) w fun t86 w=>DoX prog (aF t79 (.bool true) t86) w (aD t2 t3 K) fun t87 w=>IfX t87 (DoX prog (aA 2 t2) w (aD t2 t3 K) fun t88 w=>DoX prog (mBin .add 2 t88 (iN 1)) w (aD t2 t3 K) fun t89 w=>DoX prog (aC 2 t2 t89) w (aD t2 t3 K) fun _ w=>AtX [{ target:=.fn (.func 174) #[],args:=#[t2,t3] }] [{ target:=.fn (.func 174) #[],args:=#[t2,t3] }] (J4 [] w)) (AtX [{ target:=.fn (.func 174) #[],args:=#[t2,t3] }] [{ target:=.fn (.func 174) #[],args:=#[t2,t3] }] (J4 [] w))) (fun vs4 w=>∀_:Sg,AW t2 t3 t4 w K))
def Br(t2 t3 t4 t6 t46 w)(N2:JT)(K:KT):=
 DoX prog (Ll t46 true 0) w (aD t2 t3 K) fun t47 w=>DoX prog (mExt t47 0) w (aD t2 t3 K) fun t48 w=>IfX t48 (DoX prog (mExt t47 2) w (aD t2 t3 K) fun t49 w=>DoX prog (aA 2 t2) w (aD t2 t3 K) fun t50 w=>DoX prog (mBin .mul 2 (iN 10) t50) w (aD t2 t3 K) fun t51 w=>DoX prog (mBin .sub 21 t49 (.int .i32 48)) w (aD t2 t3 K) fun t53 w=>DoX prog (cH 21 2 t53) w (aD t2 t3 K) fun t54 w=>DoX prog (mBin .add 2 t51 t54) w (aD t2 t3 K) fun t55 w=>DoX prog (aC 2 t2 t55) w (aD t2 t3 K) fun _ w=>DoX prog (aA 2 t2) w (aD t2 t3 K) fun t56 w=>DoX prog (mBin .gtr 2 t56 (iN 1073741824)) w (aD t2 t3 K) fun t57 w=>IfX t57 (DoX prog (aC 2 t2 (iN 0)) w (aD t2 t3 K) fun _ w=>DoX prog (aC 30 t3 (iN 2)) w (aD t2 t3 K) fun _ w=>kR prog [.cell t2 2,.cell t3 30] K [{ target:=.fn (.func 174) #[],args:=#[t2,t3] }] .returning w) (AtX [{ target:=.fn (.func 174) #[],args:=#[t2,t3] }] [{ target:=.fn (.func 174) #[],args:=#[t2,t3] }] (N2 [] w))) (DoX prog (mBin .add 9 t6 (.string ⟨#[48,48,48,48,48]⟩)) w (aD t2 t3 K) fun t59 w=>DoX prog (aT 9 t59 none (some (iN 4)) none) w (aD t2 t3 K) fun t61 w=>DoX prog (DB 9 t61) w (aD t2 t3 K) fun t62 w=>LoopX [] w (fun vs3 w N3=>∀_:Sg,FL t2 t3 t4 t59 t62 w N3 K))
def AM(t0 t2 t3 t4 w)(K:KT):=
 CallX prog 175 #[t0,(.string ⟨#[46]⟩)] w (aD t2 t3 K) fun t27 w=>DoX prog (mExt t27 0) w (aD t2 t3 K) fun t28 w=>DoX prog (mExt t27 1) w (aD t2 t3 K) fun t29 w=>DoX prog (mExt t27 2) w (aD t2 t3 K) fun t30 w=>DoX prog (mBin .add 9 t28 t29) w (aD t2 t3 K) fun t33 w=>DoX prog (mEq .eql 9 (.tmp 33) (.const (.string ⟨#[]⟩)) t33 (.string ⟨#[]⟩)) w (aD t2 t3 K) fun t34 w=>efx t34 t28 w fun t36 w=>GDo t34 false (fun E=>CallX prog 176 #[t36] w (aD t2 t3 K) E) w fun t37 w=>GDo t34 false (fun E=>DoX prog (mUn .not t37) w (aD t2 t3 K) E) w fun t38 w=>DoX prog (aF t34 (.bool true) t38) w (aD t2 t3 K) fun t39 w=>efx t39 t29 w fun t41 w=>GDo t39 false (fun E=>CallX prog 176 #[t41] w (aD t2 t3 K) E) w fun t42 w=>GDo t39 false (fun E=>DoX prog (mUn .not t42) w (aD t2 t3 K) E) w fun t43 w=>DoX prog (aF t39 (.bool true) t43) w (aD t2 t3 K) fun t44 w=>IfX t44 (DoX prog (aC 2 t2 (iN 0)) w (aD t2 t3 K) fun _ w=>DoX prog (aC 30 t3 (iN 3)) w (aD t2 t3 K) fun _ w=>kR prog [.cell t2 2,.cell t3 30] K [{ target:=.fn (.func 174) #[],args:=#[t2,t3] }] .returning w) (DoX prog (DB 9 t28) w (aD t2 t3 K) fun t46 w=>LoopX [] w (fun vs2 w N2=>∀_:Sg,Br t2 t3 t4 t29 t46 w N2 K))
def Fb(t0 w)(K:KT):=
 dx (aM 2) w K fun t2 w=>dx (aM 30) w K fun t3 w=>DoX prog (mB .len #[9] 3 #[false] #[t0]) w (aD t2 t3 K) fun t14 w=>DoX prog (mBin .gtr 3 t14 (iN 40)) w (aD t2 t3 K) fun t15 w=>IfX t15 (DoX prog (aC 2 t2 (iN 0)) w (aD t2 t3 K) fun _ w=>DoX prog (aC 30 t3 (iN 3)) w (aD t2 t3 K) fun _ w=>kR prog [.cell t2 2,.cell t3 30] K [{ target:=.fn (.func 174) #[],args:=#[t2,t3] }] .returning w) (CallX prog 115 #[t0,(.string ⟨#[45]⟩)] w (aD t2 t3 K) fun t17 w=>JoinX (fun J1=>efx t17 t0 w fun t20 w=>GDo t17 false (fun E=>CallX prog 115 #[t20,(.string ⟨#[43]⟩)] w (aD t2 t3 K) E) w fun t21 w=>DoX prog (aF t17 (.bool true) t21) w (aD t2 t3 K) fun t22 w=>IfX t22 (DoX prog (aT 9 t0 (some (iN 1)) none none) w (aD t2 t3 K) fun t24 w=>AtX [{ target:=.fn (.func 174) #[],args:=#[t2,t3] }] [{ target:=.fn (.func 174) #[],args:=#[t2,t3] }] (J1 [t24] w)) (AtX [{ target:=.fn (.func 174) #[],args:=#[t2,t3] }] [{ target:=.fn (.func 174) #[],args:=#[t2,t3] }] (J1 [t0] w))) (fun vs1 w=>∀_:Sg,AM (vs1.getD 0 undef) t2 t3 t17 w K))
theorem KO (t0:Value)(w:World)(K:Ending→World→Prop):wpX prog 97 [(7,[0]),(24,[]),(26,[])] [(11,[]),(18,[])] none (aY Tryz.f124) (topQ prog [.cell 2 2,.cell 3 30] K) (aR [t0]) [] w=Fb t0 w K:=by kernel_rfl
theorem Ku {t0:Value}{w:World}{K:Ending→World→Prop}(h:Fb t0 w K):Calls prog 124 #[t0] w K:=
 aE Tryz.func124 rfl rfl rfl rfl (Eq.mpr (KO t0 w K) h)
end
section
open Eng
def oE(t0 w)(K:KT):=
 dx (mBin .geq 2 t0 (iN (-1073741824))) w K fun t4 w=>etx t4 t0 w fun t6 w=>gtx t4 (mBin .leq 2 t6 (iN 1073741824)) w K fun t7 w=>dx (aF t4 t7 (.bool false)) w K fun t8 w=>K (.returned t8) w
theorem vJ{t0 w K}(h:oE t0 w K):Calls prog 251 #[t0] w K:=cw Tryz.func251 rfl rfl (by kernel_rfl) h
def kJ(t0 t1 t5 w)(N1:JT)(K:KT):=
 dx (mBin .gtr 2 t0 (iN 0)) w K fun t7 w=>efx t7 t5 w fun t9 w=>gfx t7 (mB .len #[9] 3 #[false] #[t9]) w K fun t10 w=>efx t7 t1 w fun t11 w=>gfx t7 (mBin .lss 3 t10 t11) w K fun t12 w=>dx (aF t7 (.bool true) t12) w K fun t13 w=>IfX t13 (dx (mBin .rem 2 t0 (iN 10)) w K fun t15 w=>dx (mBin .add 2 (iN 48) t15) w K fun t16 w=>dx (cH 2 5 t16) w K fun t17 w=>dx (aS 76 1 #[(0,t17)]) w K fun t18 w=>dx (cH 76 9 t18) w K fun t19 w=>dx (mBin .add 9 t19 t5) w K fun t21 w=>dx (mBin .quo 2 t0 (iN 10)) w K fun t23 w=>N1 [t23,t21] w) (K (.returned t5) w)
def fQ(t0 t1 w)(K:KT):=
 LoopX [t0,(.string ⟨#[]⟩)] w (fun vs1 w N1=>∀_:Sg,kJ (vs1.getD 0 undef) t1 (vs1.getD 1 undef) w N1 K)
theorem uH (t0 t1:Value)(w:World)(K:Ending→World→Prop):wpX prog 25 [] [(2,[0,5])] none (aY Tryz.f264) (topQ prog [.tmp 4] K) (aR [t0,t1]) [] w=fQ t0 t1 w K:=by kernel_rfl
theorem uW {t0 t1:Value}{w:World}{K:Ending→World→Prop}(h:fQ t0 t1 w K):Calls prog 264 #[t0,t1] w K:=
 aE Tryz.func264 rfl rfl rfl rfl (Eq.mpr (uH t0 t1 w K) h)
def nE(t0 t3 t4 w)(N2:JT)(K:KT):=
 dx (mB .len #[9] 3 #[false] #[t4]) w K fun t16 w=>dx (mBin .gtr 3 t16 (iN 1)) w K fun t17 w=>etx t17 t4 w fun t19 w=>etx t17 t4 w fun t20 w=>gtx t17 (mB .len #[9] 3 #[false] #[t20]) w K fun t21 w=>gtx t17 (mBin .sub 3 t21 (iN 1)) w K fun t22 w=>gtx t17 (mIx 9 t19 t22) w K fun t23 w=>gtx t17 (mEq .eql 5 (.tmp 23) (.const (.int .u8 48)) t23 (.int .u8 48)) w K fun t24 w=>dx (aF t17 t24 (.bool false)) w K fun t25 w=>IfX t25 (dx (mB .len #[9] 3 #[false] #[t4]) w K fun t28 w=>dx (mBin .sub 3 t28 (iN 1)) w K fun t29 w=>dx (aT 9 t4 none (some t29) none) w K fun t30 w=>N2 [t30] w) (dx (mBin .quo 2 t0 (iN 10000)) w K fun t33 w=>cx 264 #[t33,(iN 1)] w K fun t34 w=>dx (mBin .add 9 t3 t34) w K fun t35 w=>dx (mBin .add 9 t35 (.string ⟨#[46]⟩)) w K fun t36 w=>dx (mBin .add 9 t36 t4) w K fun t38 w=>K (.returned t38) w)
def fR(t0 t3 w)(K:KT):=
 dx (mBin .rem 2 t0 (iN 10000)) w K fun t13 w=>cx 264 #[t13,(iN 4)] w K fun t14 w=>LoopX [t14] w (fun vs2 w N2=>∀_:Sg,nE t0 t3 (vs2.getD 0 undef) w N2 K)
def iM(t0 w)(K:KT):=
 cx 251 #[t0] w K fun t6 w=>dx (mUn .not t6) w K fun t7 w=>IfX t7 (K (.returned (.string ⟨#[]⟩)) w) (JoinX (fun J1=>dx (mBin .lss 2 t0 (iN 0)) w K fun t9 w=>IfX t9 (dx (mUn .neg t0) w K fun t11 w=>J1 [t11,(.string ⟨#[45]⟩)] w) (J1 [t0,(.string ⟨#[]⟩)] w)) (fun vs1 w=>∀_:Sg,fR (vs1.getD 0 undef) (vs1.getD 1 undef) w K))
theorem Av (t0:Value)(w:World)(K:Ending→World→Prop):wpX prog 39 [(7,[0,3])] [(8,[4])] none (aY Tryz.f245) (topQ prog [.tmp 2] K) (aR [t0]) [] w=iM t0 w K:=by kernel_rfl
theorem yN {t0:Value}{w:World}{K:Ending→World→Prop}(h:iM t0 w K):Calls prog 245 #[t0] w K:=
 aE Tryz.func245 rfl rfl rfl rfl (Eq.mpr (Av t0 w K) h)
def nB(t7 t8 t9 t10 w)(N2:JT)(K:KT):=
 dx (mBin .add 3 t10 (iN 1)) w K fun t36 w=>N2 [t7,t8,t9,t36] w
def mL(t0 t6 t7 t8 t9 t10 w)(N2:JT)(K:KT):=
 dx (mB .len #[9] 3 #[false] #[t0]) w K fun t33 w=>dx (mBin .lss 3 t10 t33) w K fun t34 w=>IfX t34 (JoinX (fun J3=>dx (mIx 9 t0 t10) w K fun t39 w=>dx (mEq .eql 5 (.tmp 39) (.const (.int .u8 46)) t39 (.int .u8 46)) w K fun t40 w=>etx t40 t9 w fun t42 w=>gtx t40 (mUn .not t42) w K fun t43 w=>dx (aF t40 t43 (.bool false)) w K fun t44 w=>IfX t44 (J3 [t7,t8,(.bool true)] w) (dx (mIx 9 t0 t10) w K fun t47 w=>dx (mBin .lss 5 t47 (.int .u8 48)) w K fun t48 w=>efx t48 t0 w fun t50 w=>efx t48 t10 w fun t51 w=>gfx t48 (mIx 9 t50 t51) w K fun t52 w=>gfx t48 (mBin .gtr 5 t52 (.int .u8 57)) w K fun t53 w=>dx (aF t48 (.bool true) t53) w K fun t54 w=>IfX t54 (K (.returned (.tuple #[(.string ⟨#[]⟩),(.string ⟨#[]⟩),(.bool false),(.bool false)])) w) (IfX t9 (dx (mBin .add 3 t10 (iN 1)) w K fun t60 w=>dx (aT 9 t0 (some t10) (some t60) none) w K fun t61 w=>dx (mBin .add 9 t8 t61) w K fun t62 w=>J3 [t7,t62,t9] w) (dx (mBin .add 3 t10 (iN 1)) w K fun t67 w=>dx (aT 9 t0 (some t10) (some t67) none) w K fun t68 w=>dx (mBin .add 9 t7 t68) w K fun t69 w=>J3 [t69,t8,t9] w)))) (fun vs3 w=>∀_:Sg,nB (vs3.getD 0 undef) (vs3.getD 1 undef) (vs3.getD 2 undef) t10 w N2 K)) (dx (mB .len #[9] 3 #[false] #[t7]) w K fun t74 w=>dx (mB .len #[9] 3 #[false] #[t8]) w K fun t76 w=>dx (mBin .add 3 t74 t76) w K fun t77 w=>dx (mBin .gtr 3 t77 (iN 0)) w K fun t78 w=>K (.returned (.tuple #[t7,t8,t6,t78])) w)
def fW(t0 t6 w)(K:KT):=
 LoopX [(.string ⟨#[]⟩),(.string ⟨#[]⟩),(.bool false),(iN 0)] w (fun vs2 w N2=>∀_:Sg,mL t0 t6 (vs2.getD 0 undef) (vs2.getD 1 undef) (vs2.getD 2 undef) (vs2.getD 3 undef) w N2 K)
def iT(t0 w)(K:KT):=
 dx (mB .len #[9] 3 #[false] #[t0]) w K fun t12 w=>dx (mBin .gtr 3 t12 (iN 40)) w K fun t13 w=>IfX t13 (K (.returned (.tuple #[(.string ⟨#[]⟩),(.string ⟨#[]⟩),(.bool false),(.bool false)])) w) (JoinX (fun J1=>dx (mEq .neq 9 (.tmp 14) (.const (.string ⟨#[]⟩)) t0 (.string ⟨#[]⟩)) w K fun t15 w=>etx t15 t0 w fun t17 w=>gtx t15 (mIx 9 t17 (iN 0)) w K fun t18 w=>gtx t15 (mEq .eql 5 (.tmp 18) (.const (.int .u8 43)) t18 (.int .u8 43)) w K fun t19 w=>etx t15 t19 w fun t20 w=>efx t20 t0 w fun t21 w=>gfx t20 (mIx 9 t21 (iN 0)) w K fun t22 w=>gfx t20 (mEq .eql 5 (.tmp 22) (.const (.int .u8 45)) t22 (.int .u8 45)) w K fun t23 w=>gtx t15 (aF t20 (.bool true) t23) w K fun t24 w=>dx (aF t15 t24 (.bool false)) w K fun t25 w=>IfX t25 (dx (mIx 9 t0 (iN 0)) w K fun t27 w=>dx (mEq .eql 5 (.tmp 27) (.const (.int .u8 45)) t27 (.int .u8 45)) w K fun t28 w=>dx (aT 9 t0 (some (iN 1)) none none) w K fun t30 w=>J1 [t30,t28] w) (J1 [t0,(.bool false)] w)) (fun vs1 w=>∀_:Sg,fW (vs1.getD 0 undef) (vs1.getD 1 undef) w K))
theorem An (t0:Value)(w:World)(K:Ending→World→Prop):wpX prog 79 [(7,[0,6]),(10,[7,8,9])] [(9,[7,8,9,10])] none (aY Tryz.f250) (topQ prog [.tmp 2,.tmp 3,.tmp 4,.tmp 5] K) (aR [t0]) [] w=iT t0 w K:=by kernel_rfl
theorem Ap {t0:Value}{w:World}{K:Ending→World→Prop}(h:iT t0 w K):Calls prog 250 #[t0] w K:=
 aE Tryz.func250 rfl rfl rfl rfl (Eq.mpr (An t0 w K) h)
def fP(t8 w)(K:KT):=
 cx 251 #[t8] w K fun t84 w=>dx (mUn .not t84) w K fun t85 w=>IfX t85 (K (.returned (.tuple #[(iN 0),(iN 2)])) w) (K (.returned (.tuple #[t8,(iN 0)])) w)
def fJ(t6 t8 w)(K:KT):=
 JoinX (fun J6=>IfX t6 (dx (mUn .neg t8) w K fun t82 w=>J6 [t82] w) (J6 [t8] w)) (fun vs6 w=>∀_:Sg,fP (vs6.getD 0 undef) w K)
def fU(t6 t8 t12 w)(K:KT):=
 JoinX (fun J5=>IfX t12 (dx (mBin .add 2 t8 (iN 1)) w K fun t79 w=>J5 [t79] w) (J5 [t8] w)) (fun vs5 w=>∀_:Sg,fJ t6 (vs5.getD 0 undef) w K)
def mU(t11 t13 t14 w)(J3 N4:JT)(K:KT):=
 dx (mB .len #[9] 3 #[false] #[t11]) w K fun t65 w=>dx (mBin .lss 3 t14 t65) w K fun t66 w=>IfX t66 (efx t13 t11 w fun t71 w=>efx t13 t14 w fun t72 w=>gfx t13 (mIx 9 t71 t72) w K fun t73 w=>gfx t13 (mBin .gtr 5 t73 (.int .u8 48)) w K fun t74 w=>dx (aF t13 (.bool true) t74) w K fun t75 w=>dx (mBin .add 3 t14 (iN 1)) w K fun t68 w=>N4 [t75,t68] w) (J3 [t13] w)
def fV(t6 t8 t11 w)(K:KT):=
 dx (mEq .neq 9 (.tmp 49) (.const (.string ⟨#[]⟩)) t11 (.string ⟨#[]⟩)) w K fun t50 w=>etx t50 t11 w fun t52 w=>gtx t50 (mIx 9 t52 (iN 0)) w K fun t53 w=>gtx t50 (mBin .geq 5 t53 (.int .u8 53)) w K fun t54 w=>dx (aF t50 t54 (.bool false)) w K fun t55 w=>JoinX (fun J3=>etx t55 t6 w fun t58 w=>dx (aF t55 t58 (.bool false)) w K fun t59 w=>IfX t59 (dx (mIx 9 t11 (iN 0)) w K fun t61 w=>dx (mBin .gtr 5 t61 (.int .u8 53)) w K fun t62 w=>LoopX [t62,(iN 1)] w (fun vs4 w N4=>∀_:Sg,mU t11 (vs4.getD 0 undef) (vs4.getD 1 undef) w J3 N4 K)) (J3 [t55] w)) (fun vs3 w=>∀_:Sg,fU t6 t8 (vs3.getD 0 undef) w K)
def nC(t5 t6 t8 t9 t10 w)(N1:JT)(K:KT):=
 dx (mB .len #[9] 3 #[false] #[t9]) w K fun t31 w=>dx (mBin .lss 3 t10 t31) w K fun t32 w=>IfX t32 (dx (mBin .mul 2 (iN 10) t8) w K fun t36 w=>dx (mIx 9 t9 t10) w K fun t39 w=>dx (mBin .sub 5 t39 (.int .u8 48)) w K fun t40 w=>dx (cH 5 2 t40) w K fun t41 w=>dx (mBin .add 2 t36 t41) w K fun t42 w=>dx (mB .min #[2,2] 2 #[false,true] #[t42,(iN 1099511627776)]) w K fun t43 w=>dx (mBin .add 3 t10 (iN 1)) w K fun t34 w=>N1 [t43,t34] w) (JoinX (fun J2=>dx (mB .len #[9] 3 #[false] #[t5]) w K fun t45 w=>dx (mBin .gtr 3 t45 (iN 4)) w K fun t46 w=>IfX t46 (dx (aT 9 t5 (some (iN 4)) none none) w K fun t48 w=>J2 [t48] w) (J2 [(.string ⟨#[]⟩)] w)) (fun vs2 w=>∀_:Sg,fV t6 t8 (vs2.getD 0 undef) w K))
def iZ(t0 w)(K:KT):=
 cx 250 #[t0] w K fun t17 w=>dx (mExt t17 0) w K fun t18 w=>dx (mExt t17 1) w K fun t19 w=>dx (mExt t17 2) w K fun t20 w=>dx (mExt t17 3) w K fun t21 w=>dx (mUn .not t21) w K fun t23 w=>IfX t23 (K (.returned (.tuple #[(iN 0),(iN 3)])) w) (dx (mBin .add 9 t19 (.string ⟨#[48,48,48,48]⟩)) w K fun t26 w=>dx (aT 9 t26 none (some (iN 4)) none) w K fun t27 w=>dx (mBin .add 9 t18 t27) w K fun t28 w=>LoopX [(iN 0),(iN 0)] w (fun vs1 w N1=>∀_:Sg,nC t19 t20 (vs1.getD 0 undef) t28 (vs1.getD 1 undef) w N1 K))
theorem Ao (t0:Value)(w:World)(K:Ending→World→Prop):wpX prog 87 [(13,[11]),(21,[12]),(23,[8]),(25,[8])] [(7,[8,10]),(17,[13,14])] none (aY Tryz.f221) (topQ prog [.tmp 2,.tmp 3] K) (aR [t0]) [] w=iZ t0 w K:=by kernel_rfl
theorem yS {t0:Value}{w:World}{K:Ending→World→Prop}(h:iZ t0 w K):Calls prog 221 #[t0] w K:=
 aE Tryz.func221 rfl rfl rfl rfl (Eq.mpr (Ao t0 w K) h)
end
section
open Eng Go.RowKit
theorem Jr (n:Int)(w:World):Ret prog 232 #[.int .i64 n] w (fun v w'=>v=.bool (Fx.okB n)∧w=w'):=by
 refine aO fun K hK=>ID ?_;unfold Fv iN dx gtx etx;by_cases h:-1073741824≤n<;>simp only[rs,h,Yj,Yi]<;>exact hK _ _ ⟨by simp[Fx.okB,h],rfl⟩
def ints (zs:List Int):List Value:=zs.map (Value.int .i64)
theorem SJ {zs:List Int}{k:Nat}(h:k < zs.length):(ints zs)[k]?=some (.int .i64 zs[k]):=by simp[ints,h]
theorem SI (zs:List Int)(k:Nat)(h:k < zs.length):(zs.take (k+1)).all Fx.okB=((zs.take k).all Fx.okB&&Fx.okB zs[k]):=by
 rw[YL h,aaM];simp
theorem MT (v:Value)(zs:List Int)(w:World)(hs:Sl w v 1 zs.length (ints zs))(hn:zs.length≤9223372036854775806)(K:Ending→World→Prop)
  (hk:zs.all Fx.okB=true→K (.returned (.tuple #[])) w) (hp:zs.all Fx.okB=false→K (.panicked [{ v:=.iface 210 (.int .i64 2),recovered:=false }]) w) :
  Calls prog 178 #[v] w K:=by
 refine Gl ?_;unfold yC iN dx;simp only[bY Tryz.underlying211 hs];refine loop (fun vs w'=>w'=w∧∃k:Nat,k≤zs.length∧vs=[.int .i64 k]∧(zs.take k).all Fx.okB=true) (fun vs _=>zs.length - n0 vs) ⟨rfl,0,by omega,rfl,by simp⟩ ?_;rintro vs w' ⟨rfl,k,hkl,rfl,hall⟩ _;simp only[Bb,gd,rs,iN,dx,cx];by_cases hlt:k < zs.length
 ·have hlt':(k:Int) < (zs.length:Int):=by omega
  simp only[rs,hlt',Yj];refine join fun J hJ=>?_;refine Bs (.int .i64 zs[k]) Tryz.underlying211 (by kernel_rfl) hs (by omega) (by rw[Yo];exact SJ hlt) fun p hpc=>?_;simp only[bE (show dX prog 2=true by kernel_rfl) hpc];refine c_eq (Jr _ _) ?_;have ht:=SI zs k hlt;cases hb:Fx.okB zs[k] with
 |true=>
   simp only[rs];refine hJ _ _ fun _=>?_;simp only[Bh,rs,iN,dx];rw[aB (by omega) (by omega)];exact bO ⟨rfl,k+1,hlt,by simp,by rw[ht,hall,hb];rfl⟩ (by simp[n0,RowKit.intOf];omega)
 |false=>
   simp only[rs,JU (show mH prog 210=true by kernel_rfl)];refine hp ?_;have:(zs.take (k+1)).all Fx.okB=false:=by rw[ht,hb];simp
   rw[←Zc (k+1) zs,aaM,this];rfl
 ·have hlt':¬(k:Int) < (zs.length:Int):=by omega
  simp only[rs,hlt',Yi];exact hk (by rw[YO (by omega)] at hall;exact hall)
end
section
open Eng Go.RowKit
def PL (vs:List Value):Nat:=match vs.getD 1 undef with|.string s=>s.size|_=>0
theorem GI {a:Value}{l:List UInt8}{t:List Value}:PL (a::.string ⟨l.toArray⟩::t)=l.length:=by simp[PL,bS]
theorem Qv (n least:Nat)(w:World)(hn:n < 4611686018427387904)(hl:least≤4):Ret prog 262 #[.int .i64 n,.int .i64 least] w (fun v w'=>v=.string ⟨(Fx.row n least).toArray⟩∧Below w.heap.size w w'):=by
 refine aO fun K hK=>LR ?_;unfold S_fix_row;refine loop (fun vs w'=>∃(f n':Nat) (s:List UInt8),vs=[.int .i64 n',.string ⟨s.toArray⟩]∧Fx.rowF f n' least s=Fx.row n least∧n' < 10 ^ f∧n' < 4611686018427387904∧least≤s.length+f∧s.length+f=64∧Own w w' [])
  (fun vs _=>64 - PL vs) ⟨64,n,[],rfl,rfl,by omega,hn,by simp;omega,by simp,Own.start w⟩ ?_
 rintro vs w' ⟨f,n',s,rfl,hr,hn',hn2,hl',hs,ho⟩ _;simp only[HF,gd,rs,iN,dx,gfx,efx];have step:0 < n'∨s.length < least→DoX prog (mBin .rem 2 (.int .i64 n') (.int .i64 10)) w' (pk K) fun t15 ww=>
   DoX prog (mBin .add 2 (.int .i64 48) t15) ww (pk K) fun t16 ww=>
   DoX prog (cH 2 5 t16) ww (pk K) fun t17 ww=>
   DoX prog (aS 76 1 #[(0,t17)]) ww (pk K) fun t18 ww=>
   DoX prog (cH 76 9 t18) ww (pk K) fun t19 ww=>
   DoX prog (mBin .add 9 t19 (.string ⟨s.toArray⟩)) ww (pk K) fun t21 ww=>
   DoX prog (mBin .quo 2 (.int .i64 n') (.int .i64 10)) ww (pk K) fun t23 ww=>
   (MZ (fun vs w'=>∃(f n':Nat) (s:List UInt8),vs=[.int .i64 n',.string ⟨s.toArray⟩]∧Fx.rowF f n' least s=Fx.row n least∧n' < 10 ^ f∧n' < 4611686018427387904∧least≤s.length+f∧s.length+f=64∧Own w w' [])
  (fun vs _=>64 - PL vs) [.int .i64 n',.string ⟨s.toArray⟩] w') [t23,t21] ww:=by
  intro hstep;cases f with
 |zero=>simp only[Nat.pow_zero] at hn';omega
 |succ f=>
   rw[Fx.rowF,Yh hstep] at hr;have e1:(n':Int).tmod 10=((n' % 10:Nat):Int):=by rw[Zl (by omega)];omega
   have e2:(n':Int).tdiv 10=((n' / 10:Nat):Int):=by rw[Zw (by omega)];omega
   have e3:((48:Int)+((n' % 10:Nat):Int))=(((Fx.dg (n' % 10)).toNat:Nat):Int):=by rw[Fx.GM (by omega)];omega
   have e4:=Fx.GM (k:=n' % 10) (by omega);simp only[EC (show (10:Int)≠0 by omega),Gr (show (10:Int)≠0 by omega),rs,e1,e2,e3];rw[aB (by omega) (by omega),F8 (show (Tryz.prog.underlying 2).isSome=true by kernel_rfl) YV,cZ (by omega) (by omega)];refine cI (fun b=>.slice (some ⟨b,0,none⟩) 1 1) [.int .u8 (Fx.dg (n' % 10)).toNat] 5 (fun _=>by kernel_rfl) ho fun b w4 h4=>?_;rw[EO (l:=[Fx.dg (n' % 10)]) Y3 YV Ym (h4.sl 0 rfl 1 1 1 rfl),kW (by simp;omega),aB (by omega) (by omega)];refine bO ⟨f,n' / 10,Fx.dg (n' % 10)::s,rfl,hr,by rw[Nat.pow_succ] at hn';omega,by omega,by simp;omega,by simp;omega,h4.tail⟩ (by rw[GI,GI];simp;omega)
 by_cases h0:(0:Int) < (n':Int)
 ·simp only[rs,h0,Yj];exact step (.inl (by omega))
 ·simp only[rs,h0,Yi,bF Ym];by_cases h1:(s.length:Int) < (least:Int)
  ·simp only[rs,h1,Yj];exact step (.inr (by omega))
  ·simp only[rs,h1,Yi];refine hK _ _ ⟨?_,ho.done⟩;cases f with
  |zero=>rw[←hr];rfl
  |succ f=>rw[Fx.rowF,Yg (by omega)] at hr;rw[hr]
theorem JA (n least:Nat)(w:World)(hn:n < 4611686018427387904)(hl:least≤4):Ret prog 264 #[.int .i64 n,.int .i64 least] w (fun v w'=>v=.string ⟨(Fx.row n least).toArray⟩∧Below w.heap.size w w'):=by
 refine aO fun K hK=>uW ?_;unfold fQ;refine loop (fun vs w'=>∃(f n':Nat) (s:List UInt8),vs=[.int .i64 n',.string ⟨s.toArray⟩]∧Fx.rowF f n' least s=Fx.row n least∧n' < 10 ^ f∧n' < 4611686018427387904∧least≤s.length+f∧s.length+f=64∧Own w w' [])
  (fun vs _=>64 - PL vs) ⟨64,n,[],rfl,rfl,by omega,hn,by simp;omega,by simp,Own.start w⟩ ?_
 rintro vs w' ⟨f,n',s,rfl,hr,hn',hn2,hl',hs,ho⟩ _;simp only[kJ,gd,rs,iN,dx,gfx,efx];have step:0 < n'∨s.length < least→DoX prog (mBin .rem 2 (.int .i64 n') (.int .i64 10)) w' (pk K) fun t15 ww=>
   DoX prog (mBin .add 2 (.int .i64 48) t15) ww (pk K) fun t16 ww=>
   DoX prog (cH 2 5 t16) ww (pk K) fun t17 ww=>
   DoX prog (aS 76 1 #[(0,t17)]) ww (pk K) fun t18 ww=>
   DoX prog (cH 76 9 t18) ww (pk K) fun t19 ww=>
   DoX prog (mBin .add 9 t19 (.string ⟨s.toArray⟩)) ww (pk K) fun t21 ww=>
   DoX prog (mBin .quo 2 (.int .i64 n') (.int .i64 10)) ww (pk K) fun t23 ww=>
   (MZ (fun vs w'=>∃(f n':Nat) (s:List UInt8),vs=[.int .i64 n',.string ⟨s.toArray⟩]∧Fx.rowF f n' least s=Fx.row n least∧n' < 10 ^ f∧n' < 4611686018427387904∧least≤s.length+f∧s.length+f=64∧Own w w' [])
  (fun vs _=>64 - PL vs) [.int .i64 n',.string ⟨s.toArray⟩] w') [t23,t21] ww:=by
  intro hstep;cases f with
 |zero=>simp only[Nat.pow_zero] at hn';omega
 |succ f=>
   rw[Fx.rowF,Yh hstep] at hr;have e1:(n':Int).tmod 10=((n' % 10:Nat):Int):=by rw[Zl (by omega)];omega
   have e2:(n':Int).tdiv 10=((n' / 10:Nat):Int):=by rw[Zw (by omega)];omega
   have e3:((48:Int)+((n' % 10:Nat):Int))=(((Fx.dg (n' % 10)).toNat:Nat):Int):=by rw[Fx.GM (by omega)];omega
   have e4:=Fx.GM (k:=n' % 10) (by omega);simp only[EC (show (10:Int)≠0 by omega),Gr (show (10:Int)≠0 by omega),rs,e1,e2,e3];rw[aB (by omega) (by omega),F8 (show (Tryz.prog.underlying 2).isSome=true by kernel_rfl) YV,cZ (by omega) (by omega)];refine cI (fun b=>.slice (some ⟨b,0,none⟩) 1 1) [.int .u8 (Fx.dg (n' % 10)).toNat] 5 (fun _=>by kernel_rfl) ho fun b w4 h4=>?_;rw[EO (l:=[Fx.dg (n' % 10)]) Y3 YV Ym (h4.sl 0 rfl 1 1 1 rfl),kW (by simp;omega),aB (by omega) (by omega)];refine bO ⟨f,n' / 10,Fx.dg (n' % 10)::s,rfl,hr,by rw[Nat.pow_succ] at hn';omega,by omega,by simp;omega,by simp;omega,h4.tail⟩ (by rw[GI,GI];simp;omega)
 by_cases h0:(0:Int) < (n':Int)
 ·simp only[rs,h0,Yj];exact step (.inl (by omega))
 ·simp only[rs,h0,Yi,bF Ym];by_cases h1:(s.length:Int) < (least:Int)
  ·simp only[rs,h1,Yj];exact step (.inr (by omega))
  ·simp only[rs,h1,Yi];refine hK _ _ ⟨?_,ho.done⟩;cases f with
  |zero=>rw[←hr];rfl
  |succ f=>rw[Fx.rowF,Yg (by omega)] at hr;rw[hr]
end
section
open Eng Go.RowKit
abbrev WM (t4 t5:Value):Deferred:={ target:=.fn (.func 174) #[],args:=#[t4,t5] }
abbrev SK (e:Int):PanicEntry:={ v:=.iface 210 (.int .i64 e),recovered:=false }
theorem Jp:dN prog 174=true:=by kernel_rfl
theorem Qt (p q:Addr)(w:World):CallsD prog 174 #[.pointer (some p),.pointer (some q)] .returning w (fun e u' w'=>e=.returned (.tuple #[])∧u'=.returning∧w=w'):=by
 refine CG ?_;simp only[B2,recV,recM,MB ZH,rs,iN,dx];simp
theorem KQ {w0 w:World}{L:List Ent}(i j:Nat){b1 b2:Nat}{n e:Int}(h:Own w0 w L)(h1:L[i]?=some (.cells b1 [.int .i64 n] 2))(h2:L[j]?=some (.cells b2 [.int .i64 e] 30))(K:Ending→World→Prop)
  (hk:∀w',Below w0.heap.size w0 w'→K (.returned (.tuple #[.int .i64 n,.int .i64 e])) w') :
  kR prog [.cell (.pointer (some ⟨b1,0,none⟩)) 2,.cell (.pointer (some ⟨b2,0,none⟩)) 30] K [WM (.pointer (some ⟨b1,0,none⟩)) (.pointer (some ⟨b2,0,none⟩))] .returning w:=by
 refine JL (by simp) Jp ((Qt _ _ w).mono ?_);rintro e' u' w' ⟨rfl,rfl,rfl⟩;exact Lz (by kernel_rfl) (by kernel_rfl) (h.cell i h1 0 rfl) (h.cell j h2 0 rfl) (hk _ h.done)
theorem TT {w0 w:World}{b1 b2:Nat}{n e0 e:Int}(h:Own w0 w [.cells b2 [.int .i64 e0] 30,.cells b1 [.int .i64 n] 2])(K:Ending→World→Prop)
  (hk:∀w',Below w0.heap.size w0 w'→K (.returned (.tuple #[.int .i64 0,.int .i64 e])) w') :
  kR prog [.cell (.pointer (some ⟨b1,0,none⟩)) 2,.cell (.pointer (some ⟨b2,0,none⟩)) 30] K [WM (.pointer (some ⟨b1,0,none⟩)) (.pointer (some ⟨b2,0,none⟩))] (.panicking [SK e]) w:=by
 refine JL (by simp) Jp (CG ?_);simp only[B2,recV,recM,Nk ZH,rs,Ti (show mH prog 210=true by kernel_rfl),
  Di (show [Value.int .i64 e,Value.bool true][1]?=some (Value.bool true) from rfl),Di (show [Value.int .i64 e,Value.bool true][0]?=some (Value.int .i64 e) from rfl),iN,dx]
 refine aW 1 h rfl (by kernel_rfl) rfl (by simp) fun w1 h1=>?_;refine aW 0 h1 rfl (by kernel_rfl) rfl (by simp) fun w2 h2=>?_;exact Lz (by kernel_rfl) (by kernel_rfl) (h2.cell 1 rfl 0 rfl) (h2.cell 0 rfl 0 rfl) (hk _ h2.done)
abbrev pair (x:Int×Int):Value:=.tuple #[.int .i64 x.1,.int .i64 x.2]
theorem Us {n:Int}(h:Fx.okB n=true):-1073741824≤n∧n≤1073741824:=by simpa[Fx.okB] using h
end
section
open Eng
def Eh(t0 t1 w)(K:KT):=
 cx 231 #[t0,t1] w K fun t9 w=>dx (mExt t9 0) w K fun t10 w=>dx (mExt t9 1) w K fun t11 w=>dx (mExt t9 2) w K fun t12 w=>K (.returned (.tuple #[t10,t11,t12])) w
theorem F7{t0 t1 w K}(h:Eh t0 t1 w K):Calls prog 175 #[t0,t1] w K:=cw Tryz.func175 rfl rfl (by kernel_rfl) h
def gG(t0 t1 w)(K:KT):=
 cx 257 #[t0,t1] w K fun t10 w=>dx (mBin .geq 3 t10 (iN 0)) w K fun t12 w=>IfX t12 (QuietX w (fun C1=>QDo prog C1 (aT 9 t0 none (some t10) none) fun t15=>QDo prog C1 (mB .len #[9] 3 #[false] #[t1]) fun t19=>QDo prog C1 (mBin .add 3 t10 t19) fun t20=>QDo prog C1 (aT 9 t0 (some t20) none none) fun t21=>
 ∀w,C1 w →
 K (.returned (.tuple #[t15,t21,(.bool true)])) w)) (K (.returned (.tuple #[t0,(.string ⟨#[]⟩),(.bool false)])) w)
theorem oO{t0 t1 w K}(h:gG t0 t1 w K):Calls prog 231 #[t0,t1] w K:=cw Tryz.func231 rfl rfl (by kernel_rfl) h
end
section
open Eng Go.RowKit
theorem GC (c:UInt8):∀l:List UInt8,(Lib.indexByte l c=-1∧l.takeWhile (fun x=>x != c)=l∧l.dropWhile (fun x=>x != c)=[]) ∨
  ∃i:Nat,Lib.indexByte l c=i∧i < l.length∧l.takeWhile (fun x=>x != c)=l.take i∧l.dropWhile (fun x=>x != c)=l.drop i
|[]=>.inl ⟨rfl,rfl,rfl⟩
|b::l=>by
  by_cases h:b=c
  ·subst h;exact .inr ⟨0,by simp[Lib.indexByte],by simp,by simp,by simp⟩
  ·have hb:(b==c)=false:=by simpa using h
   have hb2:(b != c)=true:=by simpa using h
   rcases GC c l with ⟨h1,h2,h3⟩|⟨i,h1,h2,h3,h4⟩
   ·exact .inl ⟨by simp[Lib.indexByte,hb,h1],by simp[hb2,h2],by simp[hb2,h3]⟩
   ·refine .inr ⟨i+1,?_,by simp;omega,by simp[hb2,h3],by simp[hb2,h4]⟩;have e:((i:Int)==-1)=false:=by simp
    simp only[Lib.indexByte,hb,h1,e,ZJ,if_false];omega
theorem U9 (s:List UInt8)(c:UInt8)(w:World)(hs:s.length≤4611686018427387904):Ret prog 175 #[.string ⟨s.toArray⟩,.string ⟨#[c]⟩] w
  (fun v w'=>(∃b,v=.tuple #[.string ⟨(s.takeWhile (fun x=>x != c)).toArray⟩,.string ⟨((s.dropWhile (fun x=>x != c)).drop 1).toArray⟩,.bool b])∧Below w.heap.size w w'):=by
 have inner:Ret prog 231 #[.string ⟨s.toArray⟩,.string ⟨#[c]⟩] w
   (fun v w'=>(∃b,v=.tuple #[.string ⟨(s.takeWhile (fun x=>x != c)).toArray⟩,.string ⟨((s.dropWhile (fun x=>x != c)).drop 1).toArray⟩,.bool b])∧Below w.heap.size w w'):=by
  refine aO fun K hK=>oO ?_;unfold gG iN dx cx;refine Gg (Tryz.stringslite_Index_one ⟨s.toArray⟩ c w) ?_;rintro e w' ⟨rfl,rfl⟩;simp only[Cont,rs];rcases GC c s with ⟨h1,h2,h3⟩|⟨i,h1,h2,h3,h4⟩
  ·rw[h1];simp only[show ¬((0:Int)≤-1) by omega,Yi,rs];exact hK _ _ ⟨⟨false,by rw[h2,h3];rfl⟩,Below.refl _ _⟩
  ·rw[h1];have e0:(0:Int)≤(i:Int):=by omega
   simp only[e0,Yj,rs];refine quiet (q_do (.string ⟨(s.take i).toArray⟩) (fun w=>?_) (q_do (.int .i64 1) (fun w=>?_) (q_do _ (fun w=>EX) (q_do (.string ⟨(s.drop (i+1)).toArray⟩) (fun w=>?_) ?_))))
   ·rw[Ud Ym (by omega) (by omega)];simp
   ·exact Ki (l:=[c]) Ym
   ·rw[aB (by omega) (by omega),NX Ym (by omega) (by omega)];rw[show ((i:Int)+1).toNat=i+1 by omega]
   ·intro wc hw;exact hK _ _ ⟨⟨true,by rw[h3,h4,Z6]⟩,hw⟩
 refine aO fun K hK=>F7 ?_;unfold Eh dx cx;refine dS inner ?_;rintro v w' ⟨⟨b,rfl⟩,hb⟩;simp only[ex];exact hK _ _ ⟨⟨b,rfl⟩,hb⟩
theorem D1 (s:List UInt8)(c:UInt8)(hc:c.toNat < 128)(w:World)(hs:s.length≤9223372036854775807):Ret prog 177 #[.string ⟨s.toArray⟩,.string ⟨#[c]⟩] w
  (fun v w'=>v=.string ⟨(Lib.trimRightB s c).toArray⟩∧w=w'):=
 Calls.mono (Tryz.strings_TrimRight_one ⟨s.toArray⟩ c hc w (by rw[bS];exact hs)) (by rintro e w' ⟨rfl,rfl⟩;exact retK ⟨rfl,rfl⟩)
theorem wX (s p:List UInt8)(w:World):Ret prog 115 #[.string ⟨s.toArray⟩,.string ⟨p.toArray⟩] w (fun v w'=>v=.bool (p.isPrefixOf s)∧w=w'):=
 Calls.mono (Tryz.strings_HasPrefix ⟨s.toArray⟩ ⟨p.toArray⟩ w) (by rintro e w' ⟨rfl,rfl⟩;exact retK ⟨rfl,rfl⟩)
theorem OD (s cs:List UInt8)(w:World)(hs:s.length≤9223372036854775807)(hcs:cs.length < 4294967281)(ha:cs.all (fun c=>decide (c.toNat < 128))=true):Ret prog 172 #[.string ⟨s.toArray⟩,.string ⟨cs.toArray⟩] w
  (fun v w'=>v=.string ⟨(Lib.trimS s cs).toArray⟩∧Below w.heap.size w w'):=
 Calls.mono (Any.strings_Trim_laid Tryz.Vv (by kernel_rfl) ⟨s.toArray⟩ ⟨cs.toArray⟩ w (by rw[bS];exact hs) (by rw[bS];exact hcs)
  (fun j b hj=>by
   have:=YI.1 ha b (Zh hj);simpa using this)) (by rintro e w' ⟨rfl,h⟩;exact retK ⟨rfl,h⟩)
end
section
open Eng Go.RowKit
theorem Lk (q:List UInt8):Fx.tr (q++[48])=Fx.tr q:=Fx.NA q 1
theorem Ru (q:List UInt8)(c:UInt8)(h:c≠48):Fx.tr (q++[c])=q++[c]:=by
 have hb:(c==48)=false:=by simpa using h
 simp[Fx.tr,Lib.trimRightB,hb]
theorem Jh {n:Int}(h:0≤n):n.tmod 10000=((n.natAbs % 10000:Nat):Int):=by rw[Zl h];omega
theorem Jv {n:Int}(h:0≤n):n.tdiv 10000=((n.natAbs / 10000:Nat):Int):=by rw[Zw h];omega
theorem QI (n:Int)(w:World):Ret prog 241 #[.int .i64 n] w (fun v w'=>v=.string ⟨(Fx.text n).toArray⟩∧Below w.heap.size w w'):=by
 refine aO fun K hK=>JY ?_;unfold Ez iN dx cx;refine dS (Jr n w) ?_;rintro v w1 ⟨rfl,rfl⟩;by_cases ho:Fx.okB n=true
 ·have hb:=Us ho;simp only[ho,rs];have main:∀(m:Int) (sg:List UInt8),0≤m→m.natAbs=n.natAbs→sg=(if n < 0 then [45] else [])→AE (.int .i64 m) (.string ⟨sg.toArray⟩) w K:=by
   intro m sg h0 hm hsg;have hm2:m≤1073741824:=by omega
   unfold AE iN dx cx;simp only[Gr (show (10000:Int)≠0 by omega),EC (show (10000:Int)≠0 by omega),Jv h0,Jh h0];rw[aB (by omega) (by omega)];refine dS (Qv (m.natAbs / 10000) 1 w (by omega) (by omega)) ?_;rintro v w2 ⟨rfl,b2⟩;refine dS (Qv (m.natAbs % 10000) 4 w2 (by omega) (by omega)) ?_;rintro v w3 ⟨rfl,b3⟩;refine dS (D1 (Fx.row (m.natAbs % 10000) 4) 48 (by decide) w3 (by have:=Fx.E3 (m.natAbs % 10000) 4;omega)) ?_;rintro v w4 ⟨rfl,rfl⟩;have hlen:=Fx.E3 (m.natAbs / 10000) 1;have hfl:=Fx.HP n.natAbs;have hsl:sg.length≤1:=by rw[hsg];split<;>simp
   refine join fun J hJ=>?_;have fin:J [.string ⟨(Fx.KY n.natAbs).toArray⟩] w3:=by
    refine hJ _ _ fun _=>?_;simp only[Fy,gd,dx];rw[kW (by omega),kW (b:=[46]) (by simp;omega),kW (by simp;omega)];refine hK _ _ ⟨?_,b2.trans (b3.mono b2.size)⟩;rw[Fx.text,Yh ho,hsg,hm]
   change DoX _ (mEq .eql _ _ _ (.string ⟨(Fx.tr (Fx.row (m.natAbs % 10000) 4)).toArray⟩) (.string ⟨([]:List UInt8).toArray⟩)) _ _ _;by_cases ht:Fx.tr (Fx.row (n.natAbs % 10000) 4)=[]
   ·simp only[IY,hm,ht,Yj,rs];rw[Fx.KY,Yh ht] at fin;exact fin
   ·simp only[IY,hm,ht,Yi,rs];rw[Fx.KY,Yg ht] at fin;exact fin
  refine join fun J hJ=>?_;by_cases hn:n < 0
  ·simp only[rs,hn,Yj];rw[aB (by omega) (by omega)];exact hJ _ _ fun _=>main (-n) [45] (by omega) (by omega) (by rw[Yh hn])
  ·simp only[rs,hn,Yi];exact hJ _ _ fun _=>main n [] (by omega) rfl (by rw[Yg hn])
 ·have ho':Fx.okB n=false:=by simpa using ho
  simp only[ho',rs];exact hK _ _ ⟨by rw[Fx.text,Yg ho],Below.refl _ _⟩
theorem G2 (n:Int)(w:World):Ret prog 251 #[.int .i64 n] w (fun v w'=>v=.bool (Fx.okB n)∧w=w'):=by
 refine aO fun K hK=>vJ ?_;unfold oE iN dx gtx etx;by_cases h:-1073741824≤n<;>simp only[rs,h,Yj,Yi]<;>exact hK _ _ ⟨by simp[Fx.okB,h],rfl⟩
def UZ (vs:List Value):Nat:=match vs.getD 0 undef with|.string s=>s.size|_=>0
theorem Nn {l:List UInt8}{t:List Value}:UZ (.string ⟨l.toArray⟩::t)=l.length:=by simp[UZ,bS]
theorem R6 (n:Int)(w:World):Ret prog 245 #[.int .i64 n] w (fun v w'=>v=.string ⟨(Fx.text n).toArray⟩∧Below w.heap.size w w'):=by
 refine aO fun K hK=>yN ?_;unfold iM iN dx cx;refine dS (G2 n w) ?_;rintro v w1 ⟨rfl,rfl⟩;by_cases ho:Fx.okB n=true
 ·have hb:=Us ho;simp only[ho,rs];have main:∀(m:Int) (sg:List UInt8),0≤m→m.natAbs=n.natAbs→sg=(if n < 0 then [45] else [])→fR (.int .i64 m) (.string ⟨sg.toArray⟩) w K:=by
   intro m sg h0 hm hsg;have hm2:m≤1073741824:=by omega
   have hlen:=Fx.E3 (m.natAbs / 10000) 1;have hfl:=Fx.HP n.natAbs;have hsl:sg.length≤1:=by rw[hsg];split<;>simp
   unfold fR iN dx cx;simp only[EC (show (10000:Int)≠0 by omega),Jh h0];refine dS (JA (m.natAbs % 10000) 4 w (by omega) (by omega)) ?_;rintro v w2 ⟨rfl,b2⟩;refine loop (fun vs w'=>∃p:List UInt8,vs=[.string ⟨p.toArray⟩]∧(if Fx.tr p=[] then [48] else Fx.tr p)=Fx.KY n.natAbs∧p.length≤64∧1≤p.length∧Below w.heap.size w w') (fun vs _=>UZ vs)
    ⟨Fx.row (m.natAbs % 10000) 4,rfl,by rw[hm];rfl,Fx.E3 _ _,Fx.Vo _ _ (by omega),b2⟩ ?_
   rintro vs w3 ⟨p,rfl,hp,hpl,hp1,b3⟩ _;simp only[nE,gd,bF Ym,rs,iN,dx,gtx,etx,cx];have fin:p=Fx.KY n.natAbs→DoX prog (mBin .quo 2 (.int .i64 m) (.int .i64 10000)) w3 (pk K) fun t33 w=>
     CallX prog 264 #[t33,(.int .i64 1)] w (pk K) fun t34 w=>
     DoX prog (mBin .add 9 (.string ⟨sg.toArray⟩) t34) w (pk K) fun t35 w=>
     DoX prog (mBin .add 9 t35 (.string ⟨#[46]⟩)) w (pk K) fun t36 w=>
     DoX prog (mBin .add 9 t36 (.string ⟨p.toArray⟩)) w (pk K) fun t38 w=>
     K (.returned t38) w:=by
    intro hpe;simp only[Gr (show (10000:Int)≠0 by omega),Jv h0];rw[aB (by omega) (by omega)];refine dS (JA (m.natAbs / 10000) 1 w3 (by omega) (by omega)) ?_;rintro v w4 ⟨rfl,b4⟩;rw[kW (by omega),kW (b:=[46]) (by simp;omega),kW (by simp;omega)];refine hK _ _ ⟨?_,b3.trans (b4.mono b3.size)⟩;rw[Fx.text,Yh ho,hsg,hm,hpe]
   have hne:p≠[]:=by intro e;rw[e] at hp1;simp at hp1
   obtain⟨q,c,rfl⟩:∃q c,p=q++[c]:=⟨p.dropLast,p.getLast hne,(List.dropLast_concat_getLast hne).symm⟩;have hql:(q++[c]).length=q.length+1:=by simp
   by_cases h1:0 < q.length
   ·have h1':(1:Int) < (((q++[c]).length:Nat):Int):=by omega
    simp only[h1',Yj,rs,bF Ym];rw[aB (by omega) (by omega),s_ix (c:=c) Ym (by omega) (by
     rw[show ((((q++[c]).length:Nat):Int) - 1).toNat=q.length by omega];simp)]
    by_cases hc:c=48
    ·subst hc;simp only[show (((48:UInt8).toNat:Nat):Int)=48 from rfl,Yj,rs];rw[RN Ym (by omega) (by omega)];refine bO ⟨q,?_,by rw[←hp,Lk],by omega,h1,b3⟩ (by rw[Nn,Nn];simp);have e:((((q++[(48:UInt8)]).length:Nat):Int) - 1).toNat=q.length:=by omega
     rw[e];simp
    ·have hc':¬((c.toNat:Int)=48):=by
      intro e;exact hc (ZK.1 (show c.toNat=48 by omega))
     simp only[hc',Yi,rs];refine fin ?_;rw[←hp,Ru q c hc,Yg (by simp)]
   ·have h1':¬(1:Int) < (((q++[c]).length:Nat):Int):=by omega
    have hq:q=[]:=ZO (by omega);subst hq;simp only[h1',Yi,rs];refine fin ?_;rw[←hp];by_cases hc:c=48
    ·subst hc;rfl
    ·rw[Ru [] c hc,Yg (by simp)]
  refine join fun J hJ=>?_;by_cases hn:n < 0
  ·simp only[rs,hn,Yj];rw[aB (by omega) (by omega)];exact hJ _ _ fun _=>main (-n) [45] (by omega) (by omega) (by rw[Yh hn])
  ·simp only[rs,hn,Yi];exact hJ _ _ fun _=>main n [] (by omega) rfl (by rw[Yg hn])
 ·have ho':Fx.okB n=false:=by simpa using ho
  simp only[ho',rs];exact hK _ _ ⟨by rw[Fx.text,Yg ho],Below.refl _ _⟩
theorem DJ (c:UInt8):([48,49,50,51,52,53,54,55,56,57]:List UInt8).contains c=Fx.cT c:=by
 rw[aaN];simp[Fx.cT,←ZK];omega
theorem dropWhile_nil {p:UInt8→Bool}:∀l:List UInt8,l.dropWhile p=[]↔l.all p=true
|[]=>by simp
|c::t=>by
  by_cases h:p c=true
  ·simp[h,dropWhile_nil t]
  ·simp[h]
theorem DC {p:UInt8→Bool}:∀l:List UInt8,(l.dropWhile p).all p=l.all p
|[]=>rfl
|c::t=>by
  by_cases h:p c=true
  ·simp[h,DC t]
  ·simp[h]
theorem L6 (l:List UInt8):(Lib.trimS l [48,49,50,51,52,53,54,55,56,57]=[])↔l.all Fx.cT=true:=by
 have e:(([48,49,50,51,52,53,54,55,56,57]:List UInt8).contains ·)=Fx.cT:=funext DJ;rw[Lib.trimS,Lib.trimLeftS,Lib.trimRightS];simp only[e];rw[dropWhile_nil,List.all_reverse,DC,List.all_reverse]
theorem G3 (l:List UInt8)(w:World)(hl:l.length≤9223372036854775807):Ret prog 176 #[.string ⟨l.toArray⟩] w (fun v w'=>v=.bool (l.all Fx.cT)∧Below w.heap.size w w'):=by
 refine aO fun K hK=>HO ?_;unfold Fi dx cx;refine dS (OD l [48,49,50,51,52,53,54,55,56,57] w hl (by decide) (by decide)) ?_;rintro v w1 ⟨rfl,b1⟩;change DoX _ (mEq .eql _ _ _ _ (.string ⟨([]:List UInt8).toArray⟩)) _ _ _;rw[IY];refine hK _ _ ⟨?_,b1⟩;have:=L6 l;by_cases h:l.all Fx.cT=true
 ·rw[h,Yk (this.2 h)]
 ·rw[Yl (fun e=>h (this.1 e))];simpa using h
end
section
open Eng Go.RowKit
abbrev Tb (w:World):Prop:=Lib.TabIs prog w "internal/strconv.uint64pow10" .u64 Lib.pow10Tab
theorem kH (l:List UInt8)(c:UInt8)(w:World):Ret prog 168 #[.string ⟨l.toArray⟩,.int .u8 c.toNat] w (fun v w'=>v=.int .i64 (Lib.indexByte l c)∧w=w'):=by
 refine Calls.mono (Tryz.strings_IndexByte ⟨l.toArray⟩ c.toNat w) ?_;rintro e w' ⟨rfl,rfl⟩;refine retK ⟨?_,rfl⟩;simp
theorem Hk (c:UInt8)(w:World):Ret prog 114 #[.int .u8 c.toNat] w (fun v w'=>v=.bool (Oc.rX c)∧w=w'):=by
 refine aO fun K hK=>Gs ?_;unfold DV iN dx cx;refine c_eq (kH Oc.Oj c w) ?_;simp only[rs,Oc.iC];exact hK _ _ ⟨rfl,rfl⟩
theorem K1 (c:UInt8)(w:World):Ret prog 128 #[.int .u8 c.toNat] w (fun v w'=>v=.bool (Oc.K5 c)∧w=w'):=by
 refine aO fun K hK=>Gn ?_;unfold Em iN dx cx;refine c_eq (kH Oc.Ol c w) ?_;simp only[rs,Oc.iC];exact hK _ _ ⟨rfl,rfl⟩
theorem CS (c:UInt8)(w:World):Ret prog 83 #[.int .u8 c.toNat] w (fun v w'=>v=.bool (Oc.regular c)∧w=w'):=by
 refine aO fun K hK=>D7 ?_;unfold Bn dx gtx ctx etx cx;refine c_eq (Hk c w) ?_;cases hw:Oc.rX c with
|true=>simp only[rs];exact hK _ _ ⟨by simp[Oc.regular,hw],rfl⟩
|false=>
  simp only[rs];refine c_eq (K1 c w) ?_;simp only[rs];exact hK _ _ ⟨by simp[Oc.regular,hw],rfl⟩
theorem shr4 (c:UInt8):(c.toNat:Int).fdiv (2 ^ (min (4:Int).toNat IntKind.u8.bits))=((c.toNat / 16:Nat):Int):=by
 rw[Int.fdiv_eq_ediv_of_nonneg _ (by decide)];show ((c.toNat:Int) / 16)=_;omega
theorem QG:∀n:Fin 256,bAnd .u8 (n.val:Int) 15=((n.val % 16:Nat):Int):=by decide +kernel
theorem Xd (c:UInt8):bAnd .u8 (c.toNat:Int) 15=((c.toNat % 16:Nat):Int):=QG ⟨c.toNat,c.toNat_lt⟩
theorem Gx (k:IntKind){n:Nat}(h:n < 16)(w:World):(mIx 9 (.string ⟨#[48,49,50,51,52,53,54,55,56,57,65,66,67,68,69,70]⟩) (.int k (n:Int))).run prog w=.ok (.value (.int .u8 (Oc.hexD n).toNat)) w:=
 gE (a:=Oc.hexs) (c:=Oc.hexD n) Ym (by omega) (by rw[Yo];exact Oc.S9 h)
theorem VK (l:List UInt8)(w:World)(hl:l.length≤1000000):Ret prog 195 #[.string ⟨l.toArray⟩] w (fun v w'=>v=.string ⟨(Oc.hex l).toArray⟩∧Below w.heap.size w w'):=by
 refine aO fun K hK=>IJ ?_;unfold Df iN dx;rw[bF Ym];simp only[rs];rw[aB (by omega) (by omega)];refine Ul (c:=2*l.length) (by omega) Y3 (show elB prog 5 1 1=true by kernel_rfl) (by omega) (by omega) (Own.start w) fun v w1 h1=>?_;rw[bF Ym];refine loop (fun vs w'=>∃(i:Nat) (v:Value),vs=[v,.int .i64 i]∧i≤l.length∧Own w w' [.row 5 1 v (2*i) (bZ (Oc.hex (l.take i)))])
  (fun vs _=>l.length - n1 vs) ⟨0,v,rfl,by omega,by simpa[Oc.hex,bZ] using h1⟩ ?_
 rintro vs w2 ⟨i,v,rfl,hi,ho⟩ _;simp only[Ed,gd,rs,iN,dx];by_cases hlt:(i:Int) < (l.length:Int)
 ·have hi2:i < l.length:=by omega
  have hc:l[(i:Int).toNat]?=some l[i]:=by simp[hi2]
  have hd1:l[i].toNat / 16 < 16:=by have:=l[i].toNat_lt;omega
  have hd2:l[i].toNat % 16 < 16:=by omega
  simp only[hlt,Yj,rs];refine quiet (q_do _ (fun w=>gE Ym (by omega) hc) (q_do _ (fun w=>by rw[VW (by omega),shr4]) (q_do _ (fun w=>Gx _ hd1 w)
   (q_do _ (fun w=>gE Ym (by omega) hc) (q_do _ (fun w=>by rw[Ya,Xd]) (q_do _ (fun w=>Gx _ hd2 w) ?_))))))
  intro w3 hb3;refine cI (fun b=>.slice (some ⟨b,0,none⟩) 2 2) (bZ (Oc.hex1 l[i])) 5 (fun _=>by kernel_rfl) (ho.grow hb3) fun nb w4 h4=>?_;refine GJ 1 Y3 (show elB prog 5 1 1=true by kernel_rfl) (by decide) h4 rfl (h4.sl 0 rfl 1 2 2 rfl) (Fg _) (by omega) (by omega) fun v' w5 h5=>?_;rw[aB (by omega) (by omega)];refine bO ⟨i+1,v',rfl,by omega,?_⟩ (by simp[n1,RowKit.intOf];omega);have e:bZ (Oc.hex (l.take (i+1)))=bZ (Oc.hex (l.take i))++bZ (Oc.hex1 l[i]):=by
   rw[YL hi2,Oc.Nu,jY]
  rw[e];exact h5.tail
 ·have hi2:i=l.length:=by omega
  subst hi2;simp only[hlt,Yi,rs];have hs:=ho.D5 0 rfl;rw[EO (l:=Oc.hex l) Y3 YV Ym (by rw[Oc.B1];simpa using hs)];exact hK _ _ ⟨rfl,ho.done⟩
theorem SB (w:World)(k:Nat)(os:Array Obj):Below w.heap.size w (Go.Sort.grow (w.drewN k) os):=
 ⟨rfl,rfl,rfl,by simp[Go.Sort.grow],fun i hi=>by simp[Go.Sort.grow,Array.getElem?_append,hi]⟩
theorem GF (n:Int)(h0:-9223372036854775808≤n)(h1:n≤9223372036854775807):(Lib.itoa n).length≤21:=Lib.itoa_length_le n h0 h1
theorem DA (n:Int)(w:World)(ht:Tb w):Ret prog 46 #[.int .i64 n] w (fun v w'=>v=.tuple #[.string ⟨(Pl.pInt n).1.toArray⟩,.int .i64 (Pl.pInt n).2]∧Below w.heap.size w w'):=by
 refine aO fun K hK=>IL ?_;unfold Hq iN dx gfx efx cx;by_cases h1:n < -2147483647
 ·simp only[rs,h1,Yj];exact hK _ _ ⟨by rw[Pl.pInt,Yg (by omega)],Below.refl _ _⟩
 ·simp only[rs,h1,Yi];by_cases h2:2147483647 < n
  ·simp only[rs,h2,Yj];exact hK _ _ ⟨by rw[Pl.pInt,Yg (by omega)],Below.refl _ _⟩
  ·simp only[rs,h2,Yi];refine Gg (Tryz.strconv_FormatInt_10 n (by omega) (by omega) w ht) ?_;rintro e w' ⟨rfl,k,os,rfl⟩;exact hK _ _ ⟨by rw[Pl.pInt,Yh (by omega)],SB _ _ _⟩
theorem Qd (n:Int)(w:World):Ret prog 191 #[.int .i64 n] w (fun v w'=>v=.tuple #[.string ⟨(Pl.EV n).1.toArray⟩,.int .i64 (Pl.EV n).2]∧Below w.heap.size w w'):=by
 refine aO fun K hK=>Hc ?_;unfold FJ iN dx gfx efx cx;by_cases h1:n < -1073741824
 ·simp only[rs,h1,Yj];exact hK _ _ ⟨by rw[Pl.EV,Yg (by simp[Fx.okB];omega)],Below.refl _ _⟩
 ·simp only[rs,h1,Yi];by_cases h2:1073741824 < n
  ·simp only[rs,h2,Yj];exact hK _ _ ⟨by rw[Pl.EV,Yg (by simp[Fx.okB];omega)],Below.refl _ _⟩
  ·simp only[rs,h2,Yi];refine dS (QI n w) ?_;rintro _ w' ⟨rfl,hb⟩;exact hK _ _ ⟨by rw[Pl.EV,Yh (by simp[Fx.okB];omega)],hb⟩
end
section
open Eng Go.RowKit
def Each (F:Nat)(f:UInt8→List UInt8):Prop:=∀(b:Nat) (v:Value) (l:List UInt8) (c:UInt8) (w:World),(Bld b v l).is w→l.length≤1000000 →
 Ret prog F #[.pointer (some ⟨b,0,none⟩),.int .u8 c.toNat] w (fun r w'=>∃e',(∃v',e'=Bld b v' (l++f c))∧Turn (Bld b v l) e' w w')
theorem K3 (op s en:List UInt8)(F:Nat)(f:UInt8→List UInt8)(hF:dN prog F=true)(he:Each F f)(hf:∀c,(f c).length≤4)(h1:op.length=1)(h2:en.length≤1)(h3:s.length≤40000)(w:World) :
  Ret prog 193 #[.string ⟨op.toArray⟩,.string ⟨s.toArray⟩,.string ⟨en.toArray⟩,.func (.func F) #[] #[]] w (fun v w'=>v=.string ⟨(op++s.flatMap f++en).toArray⟩∧Below w.heap.size w w'):=by
 refine aO fun K hK=>Gi ?_;unfold wG iN dx cx;refine cI (fun b=>.pointer (some ⟨b,0,none⟩)) [.pointer none,.slice none 0 0] 78 (fun _=>by kernel_rfl) (Own.start w) fun b w1 ho=>?_;simp only[bF Ym,rs];rw[aB (n:=(op.length:Int)+s.length) (by omega) (by omega),aB (by omega) (by omega)];rw[show ((op.length:Int)+s.length+en.length)=((op.length+s.length+en.length:Nat):Int) by omega];refine dS (Sr ho (by omega) (by omega)) ?_;rintro _ w2 ⟨rfl,v,ho2⟩;refine eB 0 ho2 rfl (cG (ho2.at_ 0 rfl) (by simp;omega)) ?_;rintro _ _ w3 ⟨_,v3,rfl⟩ ho3;refine loop (fun vs w'=>∃(i:Nat) (v:Value),vs=[.int .i64 i]∧i≤s.length∧Own w w' [Bld b v (op++(s.take i).flatMap f)])
  (fun vs _=>s.length - n0 vs) ⟨0,v3,rfl,by omega,by simpa using ho3⟩ ?_
 rintro vs w4 ⟨i,v4,rfl,hi,ho4⟩ _;simp only[AU,gd,rs,iN,dx,cx];by_cases hlt:(i:Int) < (s.length:Int)
 ·have hi2:i < s.length:=by omega
  simp only[hlt,Yj,rs];rw[s_ix (c:=s[i]) Ym (by omega) (by simp[hi2])];have hfl:=Pl.xA f 4 hf (s.take i);have htk:(s.take i).length≤s.length:=by rw[YC];omega
  refine QJ hF (eB 0 ho4 rfl (R:=fun _ e'=>∃v',e'=Bld b v' (op++(s.take i).flatMap f++f s[i])) (he b v4 _ s[i] w4 (ho4.at_ 0 rfl) (by simp only[Yp];omega)) ?_);rintro _ _ w5 ⟨v5,rfl⟩ ho5;rw[aB (by omega) (by omega)];refine bO ⟨i+1,v5,rfl,by omega,?_⟩ (by simp[n0,RowKit.intOf];omega);rw[YL hi2,Pl.GW,←YD];exact ho5
 ·have hi2:i=s.length:=by omega
  subst hi2;simp only[hlt,Yi,rs];rw[Ze] at ho4;have hfl:=Pl.xA f 4 hf s;refine eB 0 ho4 rfl (cG (ho4.at_ 0 rfl) (by simp only[Yp];omega)) ?_;rintro _ _ w5 ⟨_,v5,rfl⟩ ho5;refine eB 0 ho5 rfl (pT (ho5.at_ 0 rfl)) ?_;rintro _ _ w6 ⟨rfl,rfl⟩ ho6;exact hK _ _ ⟨rfl,ho6.done⟩
theorem TV (n:Nat)(h:n < 256):((UInt8.ofNat n).toNat:Int)=(n:Int):=by rw[aaJ];omega
theorem gY {b:Nat}{v:Value}{l:List UInt8}{n:Int}{k:Nat}{w:World}(h:(Bld b v l).is w)(hl:l.length < 140737488355328)(hn:n=k)(hk:k < 256):Ret prog 84 #[.pointer (some ⟨b,0,none⟩),.int .u8 n] w
  (fun r w'=>∃e',(r=.nilIface∧∃v',e'=Bld b v' (l++[UInt8.ofNat k]))∧Turn (Bld b v l) e' w w'):=by
 have:=kM (c:=UInt8.ofNat k) h hl;rw[TV k hk,←hn] at this;exact this
theorem u8d (c:UInt8)(k:Int)(x:UInt8)(hx:(x.toNat:Int)=k):decide ((c.toNat:Int)=k)=decide (c=x):=by
 by_cases h:c=x
 ·subst h;rw[Yk hx,Yk rfl]
 ·rw[Yl h,Yl];intro h2;exact h (ZK.1 (by omega))
theorem Kz {b:Nat}{l:List UInt8}{c:UInt8}{w0 w:World}{v:Value}{S:Nat→Prop}(d:Nat)(i:Nat)(hd:d=64∨d=8∨d=1)(hi:(mIx 219 (.agg #[.int .u8 64,.int .u8 8,.int .u8 1]) (.int .i64 (i:Int))).run prog w=.ok (.value (.int .u8 (d:Int))) w)
  {t0:Value} {K:VWP} {PK:PKT} (ho:OwnS S w0 w [Bld b v l]) (hl:l.length < 140737488355328) (hi3:i < 3)
  (hk:∀v' w',OwnS S w0 w' [Bld b v' (l++[UInt8.ofNat (48+c.toNat / d % 8)])]→K (.int .i64 ((i+1:Nat):Int)) w') :
  DoX prog (mIx 219 (.agg #[.int .u8 64,.int .u8 8,.int .u8 1]) (.int .i64 (i:Int))) w PK fun t37 w=>
   DoX prog (mBin .quo 5 (.int .u8 c.toNat) t37) w PK fun t41 w=>
   DoX prog (mBin .rem 5 t41 (.int .u8 8)) w PK fun t42 w=>
   DoX prog (mBin .add 5 (.int .u8 48) t42) w PK fun t43 w=>
   CallX prog 84 #[.pointer (some ⟨b,0,none⟩),t43] w PK fun t44 w=>
   DoX prog (mBin .add 3 (.int .i64 (i:Int)) (.int .i64 1)) w PK K:=by
 have h256:=c.toNat_lt;have hq:((c.toNat:Int).tdiv d)=((c.toNat / d:Nat):Int):=by rw[Zw (by omega)];rcases hd with rfl|rfl|rfl<;>omega
 have hq2:c.toNat / d < 256:=Nat.lt_of_le_of_lt (Nat.div_le_self _ _) h256;have hr:(((c.toNat / d:Nat):Int).tmod 8)=((c.toNat / d % 8:Nat):Int):=by rw[Zl (by exact Zp _)];omega
 refine pQ hi ?_;have hq3:(0:Int)≤((c.toNat / d:Nat):Int):=Zp _;rw[Gr (by omega),hq,cZ hq3 (by omega),EC (by omega),hr,qD,cZ (by omega) (by omega)];refine eB 0 ho rfl (gY (k:=48+c.toNat / d % 8) (ho.at_ 0 rfl) hl (by omega) (by omega)) ?_;rintro _ _ w5 ⟨rfl,v5,rfl⟩ ho5;rw[qD,aB (by omega) (by omega),show ((i:Int)+1)=((i+1:Nat):Int) by omega];exact hk _ _ ho5
theorem Si:Each 242 Pl.esc:=by
 intro b v l c w h hl;refine aO fun K hK=>Dc ?_;unfold oM iN dx gfx efx cx;have ho:=OwnS.lend h;have done:∀{v':Value} {w':World} {e':Ent},OwnS (Bld b v l).blk w w' [e']→(∃v',e'=Bld b v' (l++Pl.esc c))→K (.returned (.tuple #[])) w':=fun hx he=>hK _ _ ⟨_,he,hx.back⟩;have two:(c=40∨c=41∨c=92)→CallX prog 84 #[.pointer (some ⟨b,0,none⟩),(.int .u8 92)] w (pk K) fun t21 w=>
   CallX prog 84 #[.pointer (some ⟨b,0,none⟩),.int .u8 c.toNat] w (pk K) fun t24 w=>K (.returned (.tuple #[])) w:=by
  intro hc;refine eB 0 ho rfl (gY (k:=92) h (by omega) rfl (by omega)) ?_;rintro _ _ w1 ⟨rfl,v1,rfl⟩ ho1;refine eB 0 ho1 rfl (kM (c:=c) (ho1.at_ 0 rfl) (by simp;omega)) ?_;rintro _ _ w2 ⟨rfl,v2,rfl⟩ ho2;exact done (v':=v2) ho2 ⟨v2,by rw[Pl.esc,Yh hc,YD];rfl⟩
 have e1:=u8d c 40 40 rfl;have e2:=u8d c 41 41 rfl;have e3:=u8d c 92 92 rfl;by_cases h1:c=40
 ·simp only[rs,e1,Yk h1,g_un];exact two (by simp[h1])
 ·simp only[rs,e1,Yl h1,g_un];by_cases h2:c=41
  ·simp only[rs,e2,Yk h2,g_un];exact two (by simp[h2])
  ·simp only[rs,e2,Yl h2,g_un];by_cases h3:c=92
   ·simp only[rs,e3,Yk h3,g_un];exact two (by simp[h3])
   ·simp only[rs,e3,Yl h3,g_un];have hn:¬(c=40∨c=41∨c=92):=by simp[h1,h2,h3]
    have oct:(c.toNat < 32∨126 < c.toNat)→CallX prog 84 #[.pointer (some ⟨b,0,none⟩),(.int .u8 92)] w (pk K) fun t33 w=>
      DoX prog (aJ 219 #[(0,(.int .u8 64)),(1,(.int .u8 8)),(2,(.int .u8 1))]) w (pk K) fun t34 w=>
      LoopX [(.int .i64 0)] w (fun vs1 w N1=>∀_:Sg,jU (.pointer (some ⟨b,0,none⟩)) (.int .u8 c.toNat) t34 (vs1.getD 0 undef) w N1 K):=by
     intro hc;refine eB 0 ho rfl (gY (k:=92) h (by omega) rfl (by omega)) ?_;rintro _ _ w1 ⟨rfl,v1,rfl⟩ ho1;refine pQ (w':=w1) (v:=.agg #[.int .u8 64,.int .u8 8,.int .u8 1]) (by kernel_rfl) ?_;refine loop (fun vs w'=>∃(i:Nat) (v':Value),vs=[.int .i64 i]∧i≤3∧OwnS (Bld b v l).blk w w' [Bld b v' (l++(Pl.oct c).take (i+1))])
      (fun vs _=>3 - n0 vs) ⟨0,v1,rfl,by omega,by simpa[Pl.oct] using ho1⟩ ?_
     rintro vs w2 ⟨i,v2,rfl,hi,ho2⟩ _;simp only[jU,gd,iN,dx,cx];rw[oL];by_cases hlt:(i:Int) < 3
     ·simp only[hlt,Yj,i_t];have hi3:i=0∨i=1∨i=2:=by omega
      have h256:=c.toNat_lt;rcases hi3 with rfl|rfl|rfl
      ·refine Kz (t0:=undef) 64 0 (.inl rfl) (by kernel_rfl) ho2 (by simp[Pl.oct];omega) (by omega) fun v' w' h'=>?_;refine bO ⟨1,v',rfl,by omega,?_⟩ (by simp[n0,RowKit.intOf]);have e:c.toNat / 64 % 8=c.toNat / 64:=by omega
       rw[e,YD] at h';exact h'
      ·refine Kz (t0:=undef) 8 1 (.inr (.inl rfl)) (by kernel_rfl) ho2 (by simp[Pl.oct];omega) (by omega) fun v' w' h'=>?_;refine bO ⟨2,v',rfl,by omega,?_⟩ (by simp[n0,RowKit.intOf]);rw[YD] at h';exact h'
      ·refine Kz (t0:=undef) 1 2 (.inr (.inr rfl)) (by kernel_rfl) ho2 (by simp[Pl.oct];omega) (by omega) fun v' w' h'=>?_;refine bO ⟨3,v',rfl,by omega,?_⟩ (by simp[n0,RowKit.intOf]);rw[Nat.div_one,YD] at h';exact h'
     ·have hi3:i=3:=by omega
      subst hi3;simp only[hlt,Yi,i_f];refine done (v':=v2) ho2 ⟨v2,?_⟩;rw[Pl.esc,Yg hn,Yh hc];rfl
    by_cases h4:(c.toNat:Int) < 32
    ·simp only[rs,h4,Yj,g_un];exact oct (.inl (by omega))
    ·simp only[rs,h4,Yi,g_un];by_cases h5:(126:Int) < (c.toNat:Int)
     ·simp only[rs,h5,Yj,g_un];exact oct (.inr (by omega))
     ·simp only[rs,h5,Yi,g_un];refine eB 0 ho rfl (kM (c:=c) h (by omega)) ?_;rintro _ _ w1 ⟨rfl,v1,rfl⟩ ho1;exact done (v':=v1) ho1 ⟨v1,by rw[Pl.esc,Yg hn,Yg (by omega)]⟩
theorem Tx (l:List UInt8)(w:World)(hl:l.length≤1000000):Ret prog 192 #[.string ⟨l.toArray⟩] w (fun v w'=>v=.tuple #[.string ⟨(Pl.pStr l).1.toArray⟩,.int .i64 (Pl.pStr l).2]∧Below w.heap.size w w'):=by
 refine aO fun K hK=>Es ?_;unfold Cz iN dx cx;rw[bF Ym];by_cases h1:(32767:Int) < l.length
 ·simp only[rs,h1,Yj];exact hK _ _ ⟨by rw[Pl.pStr,Yh (by omega)],Below.refl _ _⟩
 ·simp only[rs,h1,Yi];refine dS (K3 [40] l [41] _ Pl.esc (by kernel_rfl) Si (fun c=>(Pl.Mw c).2) rfl (by simp) (by omega) w) ?_;rintro _ w' ⟨rfl,hb⟩;exact hK _ _ ⟨by rw[Pl.pStr,Yg (by omega)];rfl,hb⟩
theorem Sh:Each 194 Pl.nmc:=by
 intro b v l c w h hl;refine aO fun K hK=>Ey ?_;unfold CR dx gtx ctx etx cx;have ho:=OwnS.lend h;have yes:Pl.nmOk c=true→CallX prog 84 #[.pointer (some ⟨b,0,none⟩),.int .u8 c.toNat] w (pk K) fun t21 w=>K (.returned (.tuple #[])) w:=by
  intro hc;refine eB 0 ho rfl (kM (c:=c) h (by omega)) ?_;rintro _ _ w1 ⟨rfl,v1,rfl⟩ ho1;exact hK _ _ ⟨_,⟨v1,by rw[Pl.nmc,Yh hc]⟩,ho1.back⟩
 have no:Pl.nmOk c=false→DoX prog (aS 76 1 #[(0,.int .u8 c.toNat)]) w (pk K) fun t24 w=>
   DoX prog (cH 76 9 t24) w (pk K) fun t25 w=>
   CallX prog 195 #[t25] w (pk K) fun t26 w=>
   DoX prog (mBin .add 9 (.string ⟨#[35]⟩) t26) w (pk K) fun t27 w=>
   CallX prog 43 #[.pointer (some ⟨b,0,none⟩),t27] w (pk K) fun t28 w=>K (.returned (.tuple #[])) w:=by
  intro hc;refine cI (fun b=>.slice (some ⟨b,0,none⟩) 1 1) [.int .u8 c.toNat] 5 (fun _=>by kernel_rfl) ho fun nb w1 h1=>?_;rw[EO (l:=[c]) Y3 YV Ym (h1.sl 0 rfl 1 1 1 rfl)];refine aP h1.tail (R:=fun v=>v=.string ⟨(Oc.hex [c]).toArray⟩) (VK [c] w1 (by simp)) ?_;rintro _ w2 rfl ho2;change DoX prog (mBin .add 9 (.string ⟨([35]:List UInt8).toArray⟩) (.string ⟨(Oc.hex [c]).toArray⟩)) _ _ _;have hx:=Oc.B1 [c];rw[kW (by simp only[Yr,YG] at hx ⊢;omega)];refine eB 0 ho2 rfl (cG (ho2.at_ 0 rfl) (by simp only[Yp,Yr,YG] at hx ⊢;omega)) ?_;rintro _ _ w3 ⟨_,v1,rfl⟩ ho3;exact hK _ _ ⟨_,⟨v1,by rw[Pl.nmc,Yg (by simp[hc])]⟩,ho3.back⟩
 by_cases h1:(32:Int) < (c.toNat:Int)
 ·simp only[rs,h1,Yj];by_cases h2:(c.toNat:Int)≤126
  ·simp only[rs,h2,Yj];have e3:decide ((c.toNat:Int)≠35)=decide (c≠35):=by
    have:=u8d c 35 35 rfl;by_cases hc:c=35
    ·subst hc;rfl
    ·rw[Yl hc] at this;rw[Yk hc,Yk (Y5 this)]
   by_cases h3:c≠35
   ·simp only[rs,e3,Yk h3];refine c_eq (K1 c w) ?_;cases hd:Oc.K5 c with
   |true=>simp only[rs];exact no (by simp[Pl.nmOk,hd])
   |false=>simp only[rs];exact yes (by simp[Pl.nmOk,hd,h3];omega)
   ·simp only[rs,e3,Yl h3,g_un];exact no (by simp at h3;simp[Pl.nmOk,h3])
  ·simp only[rs,h2,Yi,g_un];exact no (by simp[Pl.nmOk];omega)
 ·simp only[rs,h1,Yi,g_un];exact no (by simp[Pl.nmOk];omega)
theorem Le (l:List UInt8)(w:World):Ret prog 140 #[.string ⟨l.toArray⟩] w (fun v w'=>v=.tuple #[.string ⟨(Pl.rI l).1.toArray⟩,.int .i64 (Pl.rI l).2]∧Below w.heap.size w w'):=by
 refine aO fun K hK=>HK ?_;unfold FY iN dx cx;rw[bF Ym];by_cases h1:(127:Int) < l.length
 ·simp only[rs,h1,Yj];exact hK _ _ ⟨by rw[Pl.rI,Yh (by omega)],Below.refl _ _⟩
 ·simp only[rs,h1,Yi];refine c_eq (kH l 0 w) ?_;simp only[rs,Oc.iC];cases h2:l.contains 0 with
 |true=>simp only[rs];exact hK _ _ ⟨by rw[Pl.rI,Yg (by omega),Yh h2],Below.refl _ _⟩
 |false=>
   simp only[rs];refine dS (K3 [47] l [] _ Pl.nmc (by kernel_rfl) Sh (fun c=>Zb (Pl.MU c).2 (by omega)) rfl (by simp) (by omega) w) ?_;rintro _ w' ⟨rfl,hb⟩;exact hK _ _ ⟨by rw[Pl.rI,Yg (by omega),Yg (by simp at h2;simp[h2]),YQ];rfl,hb⟩
end
section
open Eng Go.RowKit
def strV (p:List UInt8):Value:=.string ⟨p.toArray⟩
def bB (ps:List (List UInt8)):List Value:=ps.map strV
theorem Bf (ps:List (List UInt8)):(bB ps).length=ps.length:=by simp[bB]
theorem cD {ps:List (List UInt8)}{i:Nat}(h:i < ps.length):(bB ps)[i]?=some (.string ⟨ps[i].toArray⟩):=by simp[bB,strV,h]
theorem LA (ps:List (List UInt8))(v:Value)(w:World)(hs:Sl w v 1 ps.length (bB ps))(hb:Pl.tot ps≤1000000000000) :
  Ret prog 44 #[v] w (fun r w'=>r=.string ⟨(Pl.join ps).toArray⟩∧Below w.heap.size w w'):=by
 refine aO fun K hK=>Hz ?_;unfold A4 iN dx;refine cI (fun b=>.pointer (some ⟨b,0,none⟩)) [.pointer none,.slice none 0 0] 78 (fun _=>by kernel_rfl) (Own.start w) fun b w1 ho=>?_;rw[bY Yn (ho.Pv hs)];have hB0:∃v0,Own w w1 [Bld b v0 []]:=by
  have h1:=(ho.uG 5 1).swap;exact⟨_,OwnS.Eb (l:=[]) (.inl rfl) Hp h1⟩
 obtain⟨v0,ho0⟩:=hB0;have hlen:=Pl.dU ps;refine loop (fun vs w'=>∃(i:Nat) (bv:Value),vs=[.int .u8 (Pl.fH (Pl.join (ps.take i))).toNat,.int .i64 i]∧i≤ps.length∧Own w w' [Bld b bv (Pl.join (ps.take i))])
  (fun vs _=>ps.length - n1 vs) ⟨0,v0,rfl,by omega,ho0⟩ ?_
 rintro vs w2 ⟨i,bv,rfl,hi,ho2⟩ _;simp only[CF,gd,iN,dx,gtx,gfx,ctx,etx,efx,cx];rw[oL];by_cases hlt:(i:Int) < (ps.length:Int)
 ·have hi2:i < ps.length:=by omega
  simp only[hlt,Yj,i_t];have hgt:=Pl.RL ps i hi2;have hjl:=Pl.KI (ps.take i);generalize hacc:Pl.join (ps.take i)=acc at *;have hnext:Pl.join (ps.take (i+1))=Pl.glue acc ps[i]:=by rw[YL hi2,Pl.LY,hacc]
  refine join fun J2 hJ2=>?_;refine Bs (.string ⟨ps[i].toArray⟩) Yn (by kernel_rfl) (ho2.Pv hs) (by omega) (by rw[Yo];exact cD hi2) fun p hp=>?_;rw[bE (by kernel_rfl) hp];have fin:∀(bv':Value) (w':World),Own w w' [Bld b bv' (Pl.glue acc ps[i])]→J2 [.int .u8 (Pl.fH (Pl.glue acc ps[i])).toNat] w':=by
   intro bv' w' h';refine hJ2 _ _ fun _=>?_;simp only[CN,gd,rs,iN,dx];rw[aB (by omega) (by omega)];refine bO ⟨i+1,bv',by rw[hnext];rfl,by omega,by rw[hnext];exact h'⟩ (by simp[n1,RowKit.intOf];omega)
  change DoX prog (mEq .eql _ _ _ _ (.string ⟨([]:List UInt8).toArray⟩)) _ _ _;rw[IY];by_cases hp0:ps[i]=[]
  ·simp only[Yk hp0,rs];have:=fin bv w2 (by rw[hp0];exact ho2);rw[hp0] at this;exact this
  ·simp only[Yl hp0,rs];obtain⟨c,t,hct⟩:∃c t,ps[i]=c::t:=by
    cases h:ps[i] with
   |nil=>exact absurd h hp0
   |cons c t=>exact⟨c,t,rfl⟩
   refine join fun J3 hJ3=>?_;have last:∀(acc':List UInt8) (bv':Value) (w':World),Own w w' [Bld b bv' acc']→acc'.length≤acc.length+1→acc'++ps[i]=Pl.glue acc ps[i]→J3 [] w':=by
    intro acc' bv' w' h' hl' he;refine hJ3 _ _ fun _=>?_;simp only[CC,iN,dx,cx];refine eB 0 h' rfl (cG (h'.at_ 0 rfl) (by omega)) ?_;rintro _ _ w3 ⟨_,v3,rfl⟩ ho3;rw[bF Ym,O6];have hpos:0 < ps[i].length:=ZY.2 hp0;rw[aB (by omega) (by omega),s_ix (c:=Pl.fH ps[i]) Ym (by omega) (by
     rw[show (((ps[i].length:Nat):Int) - 1).toNat=ps[i].length - 1 by omega];exact Pl.KS _ hp0)]
    rw[←Pl.O5 acc _ hp0];refine fin v3 w3 ?_;rw[←he];exact ho3
   refine c_eq (CS _ w2) ?_;have put:((Oc.regular (Pl.fH acc)||decide (Pl.fH acc=47))&&Oc.regular c)=true→CallX prog 84 #[.pointer (some ⟨b,0,none⟩),(.int .u8 32)] w2 (pk K) fun t26 w=>J3 [] w:=by
    intro hc;refine eB 0 ho2 rfl (gY (k:=32) (ho2.at_ 0 rfl) (by omega) rfl (by omega)) ?_;rintro _ _ w3 ⟨rfl,v3,rfl⟩ ho3;refine last _ v3 w3 ho3 (by simp) ?_;rw[hct];simp only[Pl.glue];rw[Yh hc];rfl
   have skip:((Oc.regular (Pl.fH acc)||decide (Pl.fH acc=47))&&Oc.regular c)=false→J3 [] w2:=by
    intro hc;refine last acc bv w2 ho2 (by omega) ?_;rw[hct];simp only[Pl.glue];rw[Yg (by simp[hc])]
   have hix:∀{PK K},DoX prog (mIx 9 (.string ⟨ps[i].toArray⟩) (.int .i64 0)) w2 PK K=K (.int .u8 c.toNat) w2:=fun {PK K}=>s_ix (c:=c) Ym (by omega) (by rw[hct];rfl);have e47:=u8d (Pl.fH acc) 47 47 rfl;have rest:(Oc.regular (Pl.fH acc)||decide (Pl.fH acc=47))=true→CallX prog 83 #[.int .u8 c.toNat] w2 (pk K) fun t25 w=>
     IfX t25 (CallX prog 84 #[.pointer (some ⟨b,0,none⟩),(.int .u8 32)] w (pk K) fun t26 w=>J3 [] w) (J3 [] w):=by
    intro hr;refine c_eq (CS c w2) ?_;cases hc:Oc.regular c with
   |true=>simp only[rs];exact put (by simp[hr,hc])
   |false=>simp only[rs];exact skip (by simp[hc])
   cases hr:Oc.regular (Pl.fH acc) with
  |true=>
    simp only[rs,g_un,hix];exact rest (by simp[hr])
  |false=>
    simp only[rs,e47];by_cases h47:Pl.fH acc=47
    ·simp only[Yk h47,rs,hix];exact rest (by simp[h47])
    ·simp only[Yl h47,rs,g_un];exact skip (by simp[hr,h47])
 ·have hi2:i=ps.length:=by omega
  subst hi2;simp only[hlt,Yi,i_f];rw[Ze] at ho2;refine eB 0 ho2 rfl (pT (ho2.at_ 0 rfl)) ?_;rintro _ _ w6 ⟨rfl,rfl⟩ ho6;exact hK _ _ ⟨rfl,ho6.done⟩
end
section
open Eng Go.RowKit Go.ChangeShapes Go.WideShapes Go.ChangeAt
theorem FZ {P:Program}{x:String×DataW Unit}{l:List (String×DataW Unit)}{W:World}(h:laidMet P (x::l) W):laidMet P l W:=by
 obtain⟨ps,⟨g,t,cs,fuel,p,q,_,_,_,_,hr,rfl⟩,hn,hc⟩:=h;exact⟨q,hr,(abN.1 hn).2.1,fun b off hm=>hc b off (by simp[hm])⟩
end
end Go.Proofs.YtkejpieaafeblaaGreatDoor

namespace Go.Proofs.YtkejpieaafeblaaGreatDoor
section
namespace Eng
open Go.RowKit
def aggN (P:Program)(T:TypeId):Option Nat:=
 match P.underlying T with
|some (.struct _)|some (.array _ _)=>(P.info? T).map (·.size)
|_=>none
def AtV (P:Program)(w:World)(T:TypeId)(a:Addr)(v:Value):Prop:=(loadVar T a).run P w=.ok v w
section
variable {S:Nat→Prop}{P:Program}{w:World}{PK:PKT}{K:VWP}
theorem AtV.cell {T:TypeId}(ht:dX P T=true){a:Addr}{v:Value}(h:w.cell? a=some v):AtV P w T a v:=eR ht h
theorem AtV.agg {T:TypeId}{n:Nat}(ht:aggN P T=some n){b off:Nat}{cs:List Value}(hl:cs.length=n)(h:∀j v,cs[j]?=some v→w.cell? ⟨b,off+j,none⟩=some v):AtV P w T ⟨b,off,none⟩ (.agg cs.toArray):=by
 have hc:=run_loadCells_list (P:=P) w ⟨b,off,none⟩ cs (fun j v hj=>by rw[cS];exact h j v hj);unfold aggN at ht;subst hl;unfold AtV;split at ht
 ·rename_i fs hu
  obtain⟨i,hi,h1⟩:=Zj.1 ht;simp[loadVar,isAgg,run_underlying hu,sizeOf,typeInfo,hi,h1,hc]
 ·rename_i k e hu
  obtain⟨i,hi,h1⟩:=Zj.1 ht;simp[loadVar,isAgg,run_underlying hu,sizeOf,typeInfo,hi,h1,hc]
 ·cases ht
theorem dH {T:TypeId}{a:Addr}{v:Value}(h:AtV P w T a v):(aA T (.pointer (some a))).run P w=.ok (.value v) w:=by
 unfold AtV at h;exact bW (by simp[Instr.loadAt,Instr.sureAddr,h])
theorem l_at {T:TypeId}{a:Addr}{v:Value}(h:AtV P w T a v):DoX P (aA T (.pointer (some a))) w PK K=K v w:=aU (dH h)
theorem OwnS.agg {w0:World}{L:List Ent}(ho:OwnS S w0 w L)(i:Nat){b:Nat}{cs:List Value}{E T:TypeId}(hi:L[i]?=some (.cells b cs E))(ht:aggN P T=some cs.length):AtV P w T ⟨b,0,none⟩ (.agg cs.toArray):=
 AtV.agg ht rfl fun j v hj=>by rw[Yu];exact ho.cell i hi j hj
theorem J7 {T:TypeId}{b:Nat}{cs new:List Value}{E:TypeId}(hs:(P.info? T).map (·.size)=some new.length)(hv:∀v∈new,v.oneCell'=true)(hl:cs.length=new.length)(h:w.heap[b]?=some (.cells cs.toArray E (0,0))) :
  (Instr.storeAt T (.pointer (some ⟨b,0,none⟩)) (.agg new.toArray)).run P w=.ok () (w.setRow b new.toArray):=by
 have hst:=run_storeCells_at P b 0 E new 0 cs.toArray w h (by simp;omega) hv;obtain⟨i,hi,h1⟩:=Zj.1 hs;have hd:cs.toArray.toList.drop new.length=[]:=YP (by rw[←hl];exact Yw _);simp only[aaI,Yu,Z7,Y6,hd,YQ] at hst;have hc:(Value.agg new.toArray).cells=new.toArray:=rfl;simp[Instr.storeAt,Instr.sureAddr,storeVar,hc,sizeOf,typeInfo,hi,h1,hst]
theorem HE {w0:World}{L:List Ent}(i:Nat){T:TypeId}{b:Nat}{cs new:List Value}{E:TypeId}(ho:OwnS S w0 w L)(hi:L[i]?=some (.cells b cs E))(hs:(P.info? T).map (·.size)=some new.length)(hv:∀v∈new,v.oneCell'=true)(hl:cs.length=new.length)
  (k:∀w',OwnS S w0 w' (L.set i (.cells b new E))→K undef w'):DoX P (aC T (.pointer (some ⟨b,0,none⟩)) (.agg new.toArray)) w PK K:=
 HS (L3 (J7 hs hv hl (ho.at_ i hi))) (k _ (pV ho i hi _))
theorem wE {T:TypeId}{a:List UInt8}{k k':IntKind}{lo hi:Int}(h:P.underlying T=some .string)(h0:0≤lo)(h1:lo≤hi)(h2:hi≤a.length) :
  (aT T (.string ⟨a.toArray⟩) (some (.int k lo)) (some (.int k' hi)) none).run P w=.ok (.value (.string ⟨((a.drop lo.toNat).take (hi.toNat - lo.toNat)).toArray⟩)) w:=by
 refine bW ?_;have e:(⟨a.toArray⟩:ByteArray).extract lo.toNat hi.toNat=⟨((a.drop lo.toNat).take (hi.toNat - lo.toNat)).toArray⟩:=by
  rw[ES (s:=(⟨a.toArray⟩:ByteArray).extract lo.toNat hi.toNat),Lib.extract_data]
 have g1:(0≤hi∧hi≤((a.length:Nat):Int)):=by omega
 have g2:(0≤lo∧lo≤((hi.toNat:Nat):Int)):=by omega
 simp only[Instr.sliceAt,Instr.slice,Instr.sliceBounds,Instr.sliceBound,asIntOf,run_underlying h,bS];have g3:lo≤max hi 0:=by omega
 simp[run_underlying h,bS,h2,g3,h0,g1.1,e]
theorem mF {f:Nat}{args:Array Value}{v:Value}{C:World→Prop}(h:Ret P f args w (fun v' w'=>v'=v∧w=w'))(hb:C w):Ret P f args w (fun v' w'=>v'=v∧C w'):=
 h.mono fun v' w' r=>⟨r.1,r.2▸hb⟩
theorem TS {f:Nat}{args:Array Value}{v:Value}{w1:World}(h:Ret P f args w (fun v' w'=>v'=v∧Below w.heap.size w w'))(hb:Below w1.heap.size w1 w):Ret P f args w (fun v' w'=>v'=v∧Below w1.heap.size w1 w'):=
 h.mono fun v' w' r=>⟨r.1,(((Own.start w1).grow hb).grow r.2).done⟩
theorem eG {r1:RV}{v1:Value}{K:Ending→World→Prop}(h1:r1.read.run P w=.ok v1 w)(k:K (.returned v1) w):RetX P [r1] w K:=
 ⟨_,by simp[AJ,h1],k⟩
theorem yF {r1 r2:RV}{v1 v2:Value}{K:Ending→World→Prop}(h1:r1.read.run P w=.ok v1 w)(h2:r2.read.run P w=.ok v2 w)(k:K (.returned (.tuple #[v1,v2])) w):RetX P [r1,r2] w K:=
 ⟨_,by simp[AJ,h1,h2],k⟩
theorem yK {r1 r2 r3:RV}{v1 v2 v3:Value}{K:Ending→World→Prop}(h1:r1.read.run P w=.ok v1 w)(h2:r2.read.run P w=.ok v2 w)(h3:r3.read.run P w=.ok v3 w)(k:K (.returned (.tuple #[v1,v2,v3])) w):RetX P [r1,r2,r3] w K:=
 ⟨_,by simp[AJ,h1,h2,h3],k⟩
theorem aX {T:TypeId}{a:Addr}{v:Value}(h:AtV P w T a v):(RV.cell (.pointer (some a)) T).read.run P w=.ok v w:=by
 unfold AtV at h;simp[RV.read,asAddr,h]
theorem eF {v:Value}:(RV.val v).read.run P w=.ok v w:=by simp[RV.read]
end
end Eng
end
section
namespace Eng
open Go.RowKit
section
variable {S:Nat→Prop}{P:Program}{w w0:World}{L:List Ent}{PK:PKT}{K:VWP}
theorem OwnS.join {w':World}{L':List Ent}(h:OwnS S w0 w L)(k:OwnS NoB w w' L'):OwnS S w0 w' (L'++L):=by
 have h':=h.grow k.below;refine⟨h'.grew,fun e he=>?_,List.pairwise_append.2 ⟨k.apart,h'.apart,fun e he f hf b hb hb'=>?_⟩⟩
 ·rcases YZ.1 he with he|he
  ·obtain⟨a,b⟩:=k.all e he;refine⟨a,fun j hj=>.inr ?_⟩;rcases b j hj with h1|h1
   ·exact h1.elim
   ·exact Zb h.size h1
  ·exact h'.all e he
 ·have h2:=f.lt (h.mem hf) b hb';rcases (k.all e he).2 b hb with h1|h1
  ·exact h1
  ·omega
theorem XJ {l:Nat}{L0:Loop}{K:World→Prop}(i:Nat)(ho:OwnS S w0 w L)(hi:L[i]?=some (.obj l (lp L0 .ready none)))(k:∀w',OwnS S w0 w' (L.set i (.obj l (lp L0 .busy none)))→K w'):BegX P l w K:=
 ⟨_,I4 (ho.at_ i hi),k _ (BZ ho i hi)⟩
theorem Xv {l:Nat}{L0:Loop}{j:Option Code}{R:VWP}(i:Nat)(ho:OwnS S w0 w L)(hi:L[i]?=some (.obj l (lp L0 .busy none)))(k:∀w',OwnS S w0 w' (L.set i (.obj l (lp L0 (if j.isNone then .ready else .done) j)))→R (.bool j.isNone) w'):EndX P l j w R:=
 ⟨_,_,Lg (ho.at_ i hi),k _ (BZ ho i hi)⟩
theorem XP {l:Nat}{args:List Value}{R:VWP}(h:Yld P l args w R)(k:∀v w',R v w'→K v w'):DoX P (eO (.func (.yield l) #[] #[]) args.toArray) w PK K:=by
 obtain⟨fn,tmps,asn,bdy,h1,h2⟩:=h;have hr:(eO (.func (.yield l) #[] #[]) args.toArray).run P w=.ok (.round l fn tmps asn bdy) w:=by
  rw[←h1];simp[eO,invoke,Deferred.ofValue,resolve]
 refine⟨?_⟩;rw[hr];refine⟨RoundIn.mono h2 ?_⟩;rintro e w' ⟨v,rfl,hv⟩;exact k v w' hv
theorem range {js:List (Option Code×(Nat→World→Prop))}{B:Nat→List Value→World→(VWP)→Prop}{np f:Nat}{fa ca:Array Value}(ho:OwnS S w0 w L)(hp:dN P f=true)
  (h:∀(L0:Loop) (df lb:Nat) (w1:World),OwnS S w0 w1 (.obj lb (lp L0 .ready none)::.obj df (.deferred (some []))::L) →
   (∀args W R,W.heap[lb]?=some (lp L0 .ready none)→args.length=np→B lb args W R→Yld P lb args W R) →
   Calls P f (fa++#[.func (.yield lb) #[] #[]]++ca) w1 fun e w3=>∃v st pd k,e=.returned v∧st≠.busy∧w3.heap[lb]?=some (lp L0 st pd)∧(pd,k)∈js∧k df (putO w3 lb (lp L0 .exhausted pd))) :
  RangeX P none np (.func (.func f) fa ca) w B js:=by
 refine⟨f,fa,ca,w.heap.size,w.alloc (.deferred (some [])),rfl,hp,⟨rfl,rfl⟩,fun L0 _ hy=>?_⟩;exact h L0 w.heap.size (w.alloc (.deferred (some []))).heap.size _ ((ho.GP _).GP _) (fun args W R h1 h2 h3=>hy _ args W R h1 h2 h3)
theorem WO {rs:List RV}{K:Ending→World→Prop}{df:Nat}(i:Nat)(ho:OwnS S w0 w L)(hi:L[i]?=some (.obj df (.deferred (some []))))(k:∀w',OwnS S w0 w' (L.set i (.obj df (.deferred none)))→RetD P rs w' K):F1 P rs K [mkD df] .returning w:=by
 refine⟨(fun h=>by cases h),df,_,rfl,?_,k _ (BZ ho i hi)⟩;have h:w.heap[df]?=some (.deferred (some [])):=ho.at_ i hi;simp[Instr.takeDeferred,getObj,setObj,Sem.run,h]
end
end Eng
end
end Go.Proofs.YtkejpieaafeblaaGreatDoor

namespace Go.Proofs.YtkejpieaafeblaaGreatDoor
section
namespace Eng
open Go.RowKit
section
variable {P:Program}{C:World→Prop}{K:Value→Prop}
theorem Yb {E:(Value→Prop)→Prop}:GQ (.bool true) true E K=E K:=propext ⟨fun x=>x.out,fun x=>⟨x⟩⟩
theorem XW {E:(Value→Prop)→Prop}:GQ (.bool false) true E K=K undef:=propext ⟨fun x=>x.out,fun x=>⟨x⟩⟩
theorem XN {E:(Value→Prop)→Prop}:GQ (.bool false) false E K=E K:=propext ⟨fun x=>x.out,fun x=>⟨x⟩⟩
theorem X5 {E:(Value→Prop)→Prop}:GQ (.bool true) false E K=K undef:=propext ⟨fun x=>x.out,fun x=>⟨x⟩⟩
theorem P4 {want:Bool}{E:(Value→Prop)→Prop}:GQ undef want E K=K undef:=propext ⟨fun x=>x.out,fun x=>⟨x⟩⟩
def gq:=And.intro @Yb (And.intro @XW (And.intro @XN (And.intro @X5 @P4)))
theorem TB {T:TypeId}{k:IntKind}{a b:Int}(h:K (.int k (k.wrap (a+b)))):QDo P C (mBin .add T (.int k a) (.int k b)) K:=q_do _ (fun _=>EX) h
theorem XE {T:TypeId}{k:IntKind}{a b:Int}(h:K (.bool (decide (a < b)))):QDo P C (mBin .lss T (.int k a) (.int k b)) K:=q_do _ (fun _=>bW (by simp[binOp,Op.intCmp])) h
theorem XR {T:TypeId}{k:IntKind}{a b:Int}(h:K (.bool (decide (b < a)))):QDo P C (mBin .gtr T (.int k a) (.int k b)) K:=q_do _ (fun _=>bW (by simp[binOp,Op.intCmp])) h
theorem q_eq {T:TypeId}{xo yo:Operand}{k:IntKind}{a b:Int}(h:K (.bool (decide (a=b)))):QDo P C (mEq .eql T xo yo (.int k a) (.int k b)) K:=q_do _ (fun _=>bW (by simp[eqGuard,binOp,Op.intCmp,Q2])) h
theorem q_ne {T:TypeId}{xo yo:Operand}{k:IntKind}{a b:Int}(h:K (.bool (decide (a≠b)))):QDo P C (mEq .neq T xo yo (.int k a) (.int k b)) K:=q_do _ (fun _=>bW (by simp[eqGuard,binOp,Op.intCmp,Rc])) h
theorem OA {c:Bool}{a b:Value}(h:K (if c then a else b)):QDo P C (aF (.bool c) a b) K:=q_do _ (fun _=>by simp[aF,asBool]) h
theorem q_pt {a b:Value}(h:K a):QDo P C (aF (.bool true) a b) K:=OA h
theorem q_pf {a b:Value}(h:K b):QDo P C (aF (.bool false) a b) K:=OA h
theorem Uo {T U:TypeId}{cs:Array Bool}{a:List UInt8}(ht:P.underlying T=some .string)(h:K (.int .i64 (a.length:Int))):QDo P C (mB .len #[T] U cs #[.string ⟨a.toArray⟩]) K:=q_do _ (fun _=>Ki ht) h
theorem p_do {m:Sem Next}(v:Value)(h:∀w,m.run P w=.ok (.value v) w)(k:K v):PDo P m K:=⟨v,h,k⟩
theorem nA {w:World}{T:TypeId}{a b:List UInt8}(h:a.length+b.length≤9223372036854775807):(mBin .add T (.string ⟨a.toArray⟩) (.string ⟨b.toArray⟩)).run P w=.ok (.value (.string ⟨(a++b).toArray⟩)) w:=by
 refine bW ?_;have e:IntKind.i64.max=9223372036854775807:=rfl;have e2:¬(((⟨a.toArray⟩:ByteArray).size+(⟨b.toArray⟩:ByteArray).size:Nat):Int)>IntKind.i64.max:=by rw[bS,bS,e];omega
 simp only[binOp,Op.stringOp,Yg e2,Jf];rfl
theorem Ww {T:TypeId}{xo yo:Operand}{a b:List UInt8}(h:K (.bool (decide (a≠b)))):QDo P C (mEq .neq T xo yo (.string ⟨a.toArray⟩) (.string ⟨b.toArray⟩)) K:=by
 refine q_do _ (fun _=>bW ?_) h;have e:(a==b)=decide (a=b):=by by_cases h:a=b<;>simp[h]
 simp[eqGuard,binOp,Op.stringOp,gA,e]
theorem SA {T:TypeId}{xo yo:Operand}{a b:List UInt8}(h:K (.bool (decide (a=b)))):QDo P C (mEq .eql T xo yo (.string ⟨a.toArray⟩) (.string ⟨b.toArray⟩)) K:=by
 refine q_do _ (fun _=>bW ?_) h;have e:(a==b)=decide (a=b):=by by_cases h:a=b<;>simp[h]
 simp[eqGuard,binOp,Op.stringOp,gA,e]
theorem Pd {T U E:TypeId}{w:World}{cb:Array Bool}{v:Value}{sz n:Nat}{cs:List Value}(h:P.underlying T=some (.slice E))(hs:Sl w v sz n cs):(mB .len #[T] U cb #[v]).run P w=.ok (.value (.int .i64 (n:Int))) w:=by
 obtain⟨_,a,cap,rfl,_⟩:=hs;simp[mB,builtin,Builtin.len_,run_underlying h,goInt]
end
end Eng
end
section
namespace Eng
open Go.RowKit
theorem OwnS.perm {S:Nat→Prop}{w0 w:World}{L L':List Ent}(h:OwnS S w0 w L)(hp:L.Perm L'):OwnS S w0 w L':=
 ⟨h.grew,fun e he=>h.all e (hp.mem_iff.2 he),(hp.pairwise_iff (fun {x y} hxy k hy hx=>hxy k hx hy)).1 h.apart⟩
theorem OwnS.front {S:Nat→Prop}{w0 w:World}{A B C:List Ent}(h:OwnS S w0 w (A++(B++C))):OwnS S w0 w (B++(A++C)):=
 h.perm (by rw[←YD,←YD];exact List.Perm.append_right C Z8)
def sO (L0:Loop)(lb df:Nat):List Ent:=[.obj lb (lp L0 .ready none),.obj df (.deferred (some []))]
def Seq (P:Program)(I:World→Prop)(f:Nat)(fa ca:Array Value)(F:List Ent)(vs:List Value):Prop:=
 ∀(S:Nat→Prop) (w0 w1:World) (L0:Loop) (lb df:Nat) (M0:List Ent) (R:Nat→List Ent→Prop) (K:Ending→World→Prop),
  (∀(L:List Ent) (W:World),OwnS S w0 W L→I W)→OwnS S w0 w1 (sO L0 lb df++(M0++F))→R 0 M0 →
  (∀(k:Nat) (v:Value) (M X:List Ent) (W:World),vs[k]?=some v→R k M→OwnS S w0 W (sO L0 lb df++(M++X)) →
   Yld P lb [v] W (fun r W'=>(r=.bool true∧∃M',R (k+1) M'∧OwnS S w0 W' (sO L0 lb df++(M'++X)))∨(r=.bool false∧K (.returned (.tuple #[])) W'))) →
  (∀(M X:List Ent) (W:World),R vs.length M→OwnS S w0 W (sO L0 lb df++(M++X))→K (.returned (.tuple #[])) W) →
  Calls P f (fa++#[.func (.yield lb) #[] #[]]++ca) w1 K
end Eng
end
section
open Eng Go.RowKit Go.ChangeShapes Go.WideShapes
inductive Ob where
|mk (k n g:Int) (s:List UInt8) (keys:List (List UInt8)) (kids:List Ob)
namespace Ob
def k:Ob→Int|.mk k _ _ _ _ _=>k
def n:Ob→Int|.mk _ n _ _ _ _=>n
def g:Ob→Int|.mk _ _ g _ _ _=>g
def s:Ob→List UInt8|.mk _ _ _ s _ _=>s
def keys:Ob→List (List UInt8)|.mk _ _ _ _ keys _=>keys
def kids:Ob→List Ob|.mk _ _ _ _ _ kids=>kids
 mutual
def wt:Ob→Nat
|.mk _ _ _ s keys kids=>6+s.length+Pl.tot keys+wts kids
def wts:List Ob→Nat
|[]=>0
|o::os=>wt o+wts os
end
end Ob
def SlA (A:Nat→Prop)(w:World)(v:Value)(sz n:Nat)(cs:List Value):Prop:=Sl w v sz n cs∧(∀p l c,v=.slice (some p) l c→0 < n→A p.block)∧∀a l c,v=.slice a l c→l≤c
 mutual
def OV (A:Nat→Prop)(w:World):Value→Ob→Prop
|v,.mk k n g s keys kids=>∃vk vc cs,v=.agg #[.int .i64 k,.int .i64 n,.int .i64 g,.string ⟨s.toArray⟩,vk,vc]∧SlA A w vk 1 keys.length (bB keys)∧SlA A w vc 6 kids.length cs∧OVs A w cs kids
def OVs (A:Nat→Prop)(w:World):List Value→List Ob→Prop
|cs,[]=>cs=[]
|cs,o::os=>∃(a rest:List Value),cs=a++rest∧a.length=6∧OV A w (.agg a.toArray) o∧OVs A w rest os
end
def Kept (A:Nat→Prop)(w w':World):Prop:=∀b,A b→w'.heap[b]?=w.heap[b]?
theorem Rf {A:Nat→Prop}{w w':World}(h:Kept A w w'){p:Addr}{v:Value}(hp:A p.block)(hc:w.cell? p=some v):w'.cell? p=some v:=by
 have:=h p.block hp;unfold World.cell? at hc ⊢;rw[this];exact hc
theorem SlA.kept {A:Nat→Prop}{w w':World}{v:Value}{sz n:Nat}{cs:List Value}(h:SlA A w v sz n cs)(hk:Kept A w w'):SlA A w' v sz n cs:=by
 obtain⟨⟨hl,a,cap,rfl,h1,h2⟩,hA,hC⟩:=h;refine⟨⟨hl,a,cap,rfl,h1,fun p hp=>?_⟩,hA,hC⟩;obtain⟨h3,h4⟩:=h2 p hp;refine⟨h3,fun j u hj=>?_⟩;have hn:0 < n:=by
  rcases Zd n with h|h
  ·subst h;rw[Z1] at hl;have:=(Yy.1 hj).1;omega
  ·exact h
 exact Rf hk (hA p n cap (by rw[hp]) hn) (h4 j u hj)
 mutual
theorem OV.kept {A:Nat→Prop}{w w':World}(hk:Kept A w w'):∀(o:Ob) (v:Value),OV A w v o→OV A w' v o
|.mk k n g s keys kids,v,h=>by
  rw[OV] at h ⊢;obtain⟨vk,vc,cs,hv,h1,h2,h3⟩:=h;exact⟨vk,vc,cs,hv,h1.kept hk,h2.kept hk,OVs.kept hk kids cs h3⟩
theorem OVs.kept {A:Nat→Prop}{w w':World}(hk:Kept A w w'):∀(os:List Ob) (cs:List Value),OVs A w cs os→OVs A w' cs os
|[],cs,h=>by rw[OVs] at h ⊢;exact h
|o::os,cs,h=>by
  rw[OVs] at h ⊢;obtain⟨a,rest,he,hl,h1,h2⟩:=h;exact⟨a,rest,he,hl,OV.kept hk o _ h1,OVs.kept hk os rest h2⟩
end
 mutual
theorem OV.mono {A B:Nat→Prop}{w:World}(hAB:∀b,A b→B b):∀(o:Ob) (v:Value),OV A w v o→OV B w v o
|.mk k n g s keys kids,v,h=>by
  rw[OV] at h ⊢;obtain⟨vk,vc,cs,hv,h1,h2,h3⟩:=h;exact⟨vk,vc,cs,hv,⟨h1.1,fun p l c e hn=>hAB _ (h1.2.1 p l c e hn),h1.2.2⟩,⟨h2.1,fun p l c e hn=>hAB _ (h2.2.1 p l c e hn),h2.2.2⟩,OVs.mono hAB kids cs h3⟩
theorem OVs.mono {A B:Nat→Prop}{w:World}(hAB:∀b,A b→B b):∀(os:List Ob) (cs:List Value),OVs A w cs os→OVs B w cs os
|[],cs,h=>by rw[OVs] at h ⊢;exact h
|o::os,cs,h=>by
  rw[OVs] at h ⊢;obtain⟨a,rest,he,hl,h1,h2⟩:=h;exact⟨a,rest,he,hl,OV.mono hAB o _ h1,OVs.mono hAB os rest h2⟩
end
theorem OVs.len {A:Nat→Prop}{w:World}:∀(os:List Ob) (cs:List Value),OVs A w cs os→cs.length=os.length*6
|[],cs,h=>by rw[OVs] at h;subst h;rfl
|o::os,cs,h=>by
  rw[OVs] at h;obtain⟨a,rest,rfl,hl,_,h2⟩:=h;rw[Yp,hl,OVs.len os rest h2,Yr];omega
theorem OVs.get {A:Nat→Prop}{w:World}:∀(os:List Ob) (cs:List Value) (i:Nat) (hi:i < os.length),OVs A w cs os→∃a:List Value,a.length=6∧OV A w (.agg a.toArray) os[i]∧∀j v,a[j]?=some v→cs[i*6+j]?=some v
|[],cs,i,hi,h=>by simp at hi
|o::os,cs,0,hi,h=>by
  rw[OVs] at h;obtain⟨a,rest,rfl,hl,h1,h2⟩:=h;refine⟨a,hl,h1,fun j v hj=>?_⟩;rw[Z1,Yu,Z9 (Yy.1 hj).1];exact hj
|o::os,cs,i+1,hi,h=>by
  rw[OVs] at h;obtain⟨a,rest,rfl,hl,h1,h2⟩:=h;obtain⟨b,hb,hv,hc⟩:=OVs.get os rest i (by simpa using hi) h2;refine⟨b,hb,hv,fun j v hj=>?_⟩;rw[Z2 (by omega),hl,show (i+1)*6+j - 6=i*6+j by omega];exact hc j v hj
theorem OVs.nil {A:Nat→Prop}{w:World}:OVs A w [] []:=by rw[OVs]
theorem SlA.NB {A:Nat→Prop}{W:World}{a:Addr}{len cap sz:Nat}{cs:List Value}(hsz:0 < sz)(hl:cs.length=len*sz)(hc:∀j u,cs[j]?=some u→W.cell? (a.add j)=some u)(hA:∀b,b < W.heap.size→A b)(hlc:len≤cap):SlA A W (.slice (some a) len cap) sz len cs:=by
 have plain:0 < len→a.spot=none∧a.block < W.heap.size:=by
  intro hn;have h0:0 < cs.length:=by rw[hl];exact Nat.mul_pos hn hsz
  have h1:=hc 0 cs[0] (YB h0);have e0:a.add 0=a:=by simp[Addr.add]
  rw[e0] at h1;unfold World.cell? at h1;split at h1
  ·rename_i hb
   have hlt:=dW hb;split at h1
   ·cases h1
   ·rename_i hh;exact⟨by simpa using hh,hlt⟩
  ·cases h1
 refine⟨⟨hl,some a,cap,rfl,(fun h=>by cases h),fun p hp=>?_⟩,fun p l c e hn=>?_,fun a' l c e=>by injection e with _ e2 e3;omega⟩
 ·cases hp;refine⟨fun h=>(plain h).1,fun j u hj=>?_⟩;have hn:0 < len:=by
   rcases Zd len with h|h
   ·subst h;rw[Z1] at hl;have:=(Yy.1 hj).1;omega
   ·exact h
  have h1:=hc j u hj;obtain⟨b,off,spot⟩:=a;have:=(plain hn).1;simp only at this;subst this;rw[show (⟨b,off,none⟩:Addr).add j=⟨b,off+j,none⟩ from cS b off j] at h1;exact h1
 ·injection e with e _ _
  cases e;exact hA _ (plain hn).2
theorem SlA.nil (A:Nat→Prop)(w:World)(sz cap:Nat):SlA A w (.slice none 0 cap) sz 0 []:=⟨Sl.nil w sz cap,(fun p l c e _=>by injection e with e _ _;cases e),fun a l c e=>by injection e with _ e2 e3;omega⟩
end
section
open Go
namespace Vl
def used (k:Int):Option (Bool×Bool×Bool×Bool×Bool):=
 if k=0 then some (false,false,false,false,false)
 else if k=1∨k=2∨k=3 then some (true,false,false,false,false)
 else if k=4∨k=5 then some (false,false,true,false,false)
 else if k=6 then some (false,false,false,false,true)
 else if k=7 then some (false,false,false,true,true)
 else if k=8 then some (true,true,false,false,false)
 else if k=9 then some (false,false,true,true,true)
 else none
def eA (o:Ob):Bool:=
 match used o.k with
|none=>false
|some (n,g,s,ks,cs)=>(n||decide (o.n=0))&&(g||decide (o.g=0))&&(s||decide (o.s=[]))&&(ks||decide (o.keys=[]))&&(cs||decide (o.kids.length=0))
def fits (o:Ob):Bool:=
 if o.k=1 then decide (0≤o.n∧o.n≤1)
 else if o.k=2 then decide (-2147483647≤o.n∧o.n≤2147483647)
 else if o.k=3 then decide (-1073741824≤o.n∧o.n≤1073741824)
 else if o.k=8 then decide (1≤o.n∧o.n≤8191)&&decide (0≤o.g∧o.g≤65535)
 else true
def long (k:Int):Nat:=if k=5 then 127 else if k=9 then 1048576 else 32767
def name (s:List UInt8):Bool:=decide (s.length≤127)&&decide ((0:UInt8) ∉ s)
def lenK:List UInt8:=[76,101,110,103,116,104]
abbrev less (a b:List UInt8):Bool:=Op.bytesLess a b
def zZ (o:Ob)(i:Nat):Bool:=
 name (o.keys.getD i [])&&(decide (i=0)||less (o.keys.getD (i - 1) []) (o.keys.getD i []))&&!(decide (o.k=9)&&decide (o.keys.getD i []=lenK))&&decide ((o.kids.getD i (.mk 0 0 0 [] [] [])).k≠0)
def rising (o:Ob):Bool:=decide (o.keys.length=o.kids.length)&&(List.range o.keys.length).all (zZ o)
def form (o:Ob):Bool:=(!(decide (o.k=5))||name o.s)&&(!(decide (o.k=7∨o.k=9))||rising o)
def why (d:Nat)(o:Ob):Int:=
 if 24 < d then 7
 else if eA o=false∨(o.k=9∧1 < d) then 10
 else if fits o=false then 2
 else if long o.k < o.s.length then 5
 else if 8191 < o.kids.length then 6
 else if form o=false then 3
 else 0
 mutual
def check (d:Nat):Ob→Int
|.mk k n g s keys kids=>if why d (.mk k n g s keys kids)≠0 then why d (.mk k n g s keys kids) else lO (d+1) kids
def lO (d:Nat):List Ob→Int
|[]=>0
|o::os=>if check d o≠0 then check d o else lO d os
end
theorem wA (d:Nat)(o:Ob):check d o=if why d o≠0 then why d o else lO (d+1) o.kids:=by cases o;rw[check];rfl
 mutual
def size:Ob→Nat
|.mk _ _ _ s keys kids=>1+s.length / 50+(keys.map fun k=>k.length / 50).sum+uN kids
def uN:List Ob→Nat
|[]=>0
|o::os=>size o+uN os
end
theorem size_eq (o:Ob):size o=1+o.s.length / 50+(o.keys.map fun k=>k.length / 50).sum+uN o.kids:=by cases o;rw[size];rfl
theorem XU (l:List (List UInt8)):(l.map fun k=>k.length / 50).sum≤Pl.tot l:=by
 induction l with
|nil=>simp
|cons a l ih=>simp only[Pl.tot,Y1,Z4] at ih ⊢;omega
 mutual
theorem Q5:∀o:Ob,size o≤o.wt
|.mk k n g s keys kids=>by
  have:=OC kids;have:=XU keys;rw[size,Ob.wt];omega
theorem OC:∀os:List Ob,uN os≤Ob.wts os
|[]=>by rw[uN,Ob.wts];omega
|o::os=>by
  have:=Q5 o;have:=OC os;rw[uN,Ob.wts];omega
end
end Vl
end
section
open Go
namespace Vl
theorem Il (a b:List UInt8):less a b=true↔a < b:=by rw[less,bytesLess_eq,Yx]
theorem jN {a b c:List UInt8}(h:less a b=true)(k:less b c=true):less a c=true:=by
 rw[Il] at *;exact List.lt_trans h k
theorem xK (a:List UInt8):less a a=false:=by
 cases h:less a a with
|false=>rfl
|true=>rw[Il] at h;exact absurd h (List.lt_irrefl _)
theorem Jo {a b:List UInt8}(h:less a b=false)(h':a≠b):less b a=true:=by
 have h1:¬a < b:=by rw[←Il,h];simp
 rw[Il];rcases Classical.em (b < a) with h2|h2
 ·exact h2
 ·exact absurd (List.le_antisymm (List.not_lt.1 h2) (List.not_lt.1 h1)) h'
theorem Pn {a b:List UInt8}(h:less a b=true):less b a=false:=by
 cases h':less b a with
|false=>rfl
|true=>have:=jN h h';rw[xK] at this;cases this
def Rise (l:List (List UInt8)):Prop:=l.Pairwise fun a b=>less a b=true
def place (l:List (List UInt8))(x:List UInt8):Nat:=(l.takeWhile fun k=>less k x).length
def hit (l:List (List UInt8))(x:List UInt8):Bool:=decide (l[place l x]?=some x)
theorem Fq {α:Type}{p:α→Bool}:∀(l:List α) (i:Nat),i≤l.length→(∀m (h:m < l.length),m < i→p l[m]=true)→(∀h:i < l.length,p l[i]=false)→(l.takeWhile p).length=i
|[],i,hi,_,_=>by simp at hi;simp[hi]
|a::l,0,_,_,h=>by
  have:=h (by simp);rw[abO] at this;simp[abA,this]
|a::l,i+1,hi,h1,h2=>by
  have h0:=h1 0 (by simp) (by omega);rw[abO] at h0;rw[abA,h0];simp only[if_true,Yr];rw[Fq l i (by simpa using hi) (fun m hm hmi=>by
   have:=h1 (m+1) (by simpa using hm) (by omega)
   rwa [aaO] at this) (fun h=>by
   have:=h2 (by simpa using h)
   rwa [aaO] at this)]
theorem DX (l:List (List UInt8))(x:List UInt8):place l x≤l.length:=(List.takeWhile_prefix _).length_le
theorem GD {l:List (List UInt8)}{x:List UInt8}{i:Nat}(hi:i≤l.length)(h1:∀m (h:m < l.length),m < i→less l[m] x=true)(h2:∀h:i < l.length,less l[i] x=false):place l x=i:=Fq l i hi h1 h2
theorem TD {l:List (List UInt8)}{x:List UInt8}{m:Nat}(h:m < place l x):less (l[m]'(Y4 h (DX l x))) x=true:=by
 unfold place at h;have hm:=List.all_takeWhile (l:=l) (p:=fun k=>less k x);have h1:(l.takeWhile fun k=>less k x)[m]∈l.takeWhile fun k=>less k x:=YH h;have h2:=YI.1 hm _ h1;have h3:(l.takeWhile fun k=>less k x)[m]=l[m]'(Y4 h (DX l x)):=by
  have hp:(l.takeWhile fun k=>less k x) <+: l:=List.takeWhile_prefix _;exact hp.getElem h
 rw[h3] at h2;exact h2
theorem Uf {l:List (List UInt8)}{x:List UInt8}(h:place l x < l.length):less l[place l x] x=false:=by
 unfold place at h ⊢
 induction l with
|nil=>simp at h
|cons a l ih=>
  cases ha:less a x with
 |false=>simp only[abA,ha];simpa using ha
 |true=>
   simp only[abA,ha,if_true,Yr] at h ⊢;rw[aaO];exact ih (by simpa using h)
theorem pS {l:List (List UInt8)}(h:Rise l){i j:Nat}(hij:i < j)(hj:j < l.length):less (l[i]'(by omega)) l[j]=true:=ZX.1 h i j (by omega) hj hij
def ob0:Ob:=.mk 0 0 0 [] [] []
def keyed (o:Ob):Bool:=decide (o.k=7)||decide (o.k=9)
def get (o:Ob)(key:List UInt8):Option Ob:=if keyed o then (if o.keys.idxOf key < o.keys.length then o.kids[o.keys.idxOf key]? else none) else none
def put (o:Ob)(key:List UInt8)(v:Ob):Ob:=
 .mk o.k o.n o.g o.s (o.keys.take (place o.keys key)++key::o.keys.drop (place o.keys key+if hit o.keys key then 1 else 0)) (o.kids.take (place o.keys key)++v::o.kids.drop (place o.keys key+if hit o.keys key then 1 else 0))
def cB (key:List UInt8):List (List UInt8)→List Ob→List (List UInt8)×List Ob
|k::ks,c::cs=>if k=key then cB key ks cs else (k::(cB key ks cs).1,c::(cB key ks cs).2)
|_,_=>([],[])
def bD (o:Ob)(key:List UInt8):Ob:=.mk o.k o.n o.g o.s (cB key o.keys o.kids).1 (cB key o.keys o.kids).2
def right (o:Ob):Ob×Int:=if check 1 o≠0 then (ob0,check 1 o) else (o,0)
def set (o:Ob)(key:List UInt8)(v:Ob):Ob×Int:=
 if keyed o=false then (ob0,10) else if check 1 o≠0 then (ob0,check 1 o) else if v.k=0 then (bD o key,0) else right (put o key v)
theorem mD {d:Nat}{o:Ob}(h:check d o=0)(hk:keyed o=true):Rise o.keys∧o.keys.length=o.kids.length:=by
 rw[wA] at h;split at h
 ·rename_i hw;exact absurd h hw
 ·rename_i hw
  have hw:=YA.1 hw;unfold why at hw;split at hw
  ·cases hw
  split at hw
  ·cases hw
  split at hw
  ·cases hw
  split at hw
  ·cases hw
  split at hw
  ·cases hw
  split at hw
  ·cases hw
  rename_i hf
  have hf:form o=true:=by simpa using hf
  have h79:o.k=7∨o.k=9:=by
   unfold keyed at hk;simpa using hk
  have hr:rising o=true:=by
   unfold form at hf;simp only[Ys] at hf;have:=hf.2;rw[Yk h79] at this;simpa using this
  unfold rising at hr;simp only[Ys,Yx] at hr;refine⟨?_,hr.1⟩;have step:∀i,i+1 < o.keys.length→less (o.keys.getD i []) (o.keys.getD (i+1) [])=true:=by
   intro i hi;have:=YI.1 hr.2 (i+1) (Z3.2 hi);unfold zZ at this;simp only[Ys,ZB] at this;have:=this.1.1.2;rcases this with h0|h0
   ·have:=YF h0;omega
   ·simpa using h0
  have gd:∀i (h:i < o.keys.length),o.keys.getD i []=o.keys[i]:=fun i h=>by rw[Zn,YB h];rfl
  refine ZX.2 fun i j hi hj hij=>?_;have:∀d,∀j (hj:j < o.keys.length),j=i+1+d→less o.keys[i] o.keys[j]=true:=by
   intro d
   induction d with
  |zero=>
    intro j hj he;have:=step i (by omega);rw[gd i hi,gd (i+1) (by omega)] at this;subst he;exact this
  |succ d ih=>
    intro j hj he;have h1:=ih (i+1+d) (by omega) rfl;have h2:=step (i+1+d) (by omega);rw[gd _ (by omega),gd _ (by omega)] at h2;subst he;exact jN h1 h2
  exact this (j - (i+1)) j hj (by omega)
theorem Ew {key:List UInt8}:∀{ks:List (List UInt8)} {cs:List Ob},ks.length=cs.length→key ∉ ks→cB key ks cs=(ks,cs)
|[],[],_,_=>rfl
|k::ks,c::cs,hl,hn=>by
  rw[cB,Yg (fun e=>hn (by simp[e])),Ew (by simpa using hl) (fun h=>hn (by simp[h]))]
|[],_::_,hl,_=>by simp at hl
|_::_,[],hl,_=>by simp at hl
theorem NL {key:List UInt8}:∀{ks:List (List UInt8)} {cs:List Ob} {i:Nat},ks.length=cs.length→ks[i]?=some key→(∀m (h:m < ks.length),m≠i→ks[m]≠key)→cB key ks cs=(ks.take i++ks.drop (i+1),cs.take i++cs.drop (i+1))
|[],[],_,_,h,_=>by simp at h
|k::ks,c::cs,0,hl,h,hn=>by
  simp only[aaG,Zu] at h;rw[cB,Yh h,Ew (by simpa using hl)]
  ·simp
  ·intro hm;obtain⟨m,hml,rfl⟩:=ZC hm;exact hn (m+1) (by simpa using hml) (by omega) (by simp)
|k::ks,c::cs,i+1,hl,h,hn=>by
  have h0:=hn 0 (by simp) (by omega);rw[abO] at h0;rw[cB,Yg h0,NL (i:=i) (by simpa using hl) (by simpa using h) (fun m hm hmi=>by
   have:=hn (m+1) (by simpa using hm) (by omega)
   rwa [aaO] at this)]
  simp
|[],_::_,_,hl,_,_=>by simp at hl
|_::_,[],_,hl,_,_=>by simp at hl
theorem VE {l:List (List UInt8)}(h:Rise l){i j:Nat}(hi:i < l.length)(hj:j < l.length)(hij:i≠j):l[i]≠l[j]:=by
 intro e;rcases YS i j with h1|h1
 ·have:=pS h h1 hj;rw[e,xK] at this;cases this
 ·have:=pS h (show j < i by omega) hi;rw[e,xK] at this;cases this
theorem UP {l:List (List UInt8)}(h:Rise l){x:List UInt8}(hh:hit l x=false):x ∉ l:=by
 intro hm;obtain⟨m,hml,rfl⟩:=ZC hm;have hp:place l l[m]=m:=GD (by omega) (fun j hj hjm=>pS h hjm hml) (fun _=>xK _);unfold hit at hh;rw[hp,YB hml] at hh;simp at hh
theorem PA {o:Ob}{d:Nat}(h:check d o=0)(hk:keyed o=true)(key:List UInt8):bD o key=if hit o.keys key then .mk o.k o.n o.g o.s (o.keys.take (place o.keys key)++o.keys.drop (place o.keys key+1)) (o.kids.take (place o.keys key)++o.kids.drop (place o.keys key+1)) else o:=by
 obtain⟨hr,hl⟩:=mD h hk;cases hh:hit o.keys key with
|true=>
  have hi:o.keys[place o.keys key]?=some key:=YF hh;have hlt:place o.keys key < o.keys.length:=(Yy.1 hi).1;have hg:o.keys[place o.keys key]=key:=(Yy.1 hi).2;unfold bD;rw[NL hl hi (fun m hm hne=>by rw[←hg];exact VE hr hm hlt hne)];rfl
|false=>
  unfold bD;rw[Ew hl (UP hr hh)];cases o;rfl
end Vl
end
section
open Go
namespace Vl
theorem L9 (l:List (List UInt8))(i:Nat):Pl.tot (l.take i)+Pl.tot (l.drop i)=Pl.tot l:=by
 rw[←Pl.dV,Zc]
theorem KK:∀a b:List Ob,Ob.wts (a++b)=Ob.wts a+Ob.wts b
|[],b=>by rw[Y6,Ob.wts];omega
|o::a,b=>by rw[YY,Ob.wts,Ob.wts,KK a b];omega
theorem IB (l:List Ob)(i:Nat):Ob.wts (l.take i)+Ob.wts (l.drop i)=Ob.wts l:=by
 rw[←KK,Zc]
theorem Sq (l:List (List UInt8))(i j:Nat)(h:i≤j):Pl.tot (l.drop j)≤Pl.tot (l.drop i):=by
 have:=L9 (l.drop i) (j - i);rw[Z6,show i+(j - i)=j by omega] at this;omega
theorem Ta (l:List Ob)(i j:Nat)(h:i≤j):Ob.wts (l.drop j)≤Ob.wts (l.drop i):=by
 have:=IB (l.drop i) (j - i);rw[Z6,show i+(j - i)=j by omega] at this;omega
theorem kY (o:Ob):o.wt=6+o.s.length+Pl.tot o.keys+Ob.wts o.kids:=by cases o;rw[Ob.wt];rfl
theorem L8 (o:Ob)(key:List UInt8)(v:Ob):(put o key v).wt≤o.wt+(key.length+1)+v.wt:=by
 rw[kY (put o key v),kY o];rw[show (put o key v).s=o.s from rfl,show (put o key v).keys=o.keys.take (place o.keys key)++key::o.keys.drop (place o.keys key+if hit o.keys key then 1 else 0) from rfl,
  show (put o key v).kids=o.kids.take (place o.keys key)++v::o.kids.drop (place o.keys key+if hit o.keys key then 1 else 0) from rfl]
 rw[Pl.dV,KK];have h1:=L9 o.keys (place o.keys key);have h2:=Sq o.keys (place o.keys key) (place o.keys key+if hit o.keys key then 1 else 0) (by omega);have h3:=IB o.kids (place o.keys key);have h4:=Ta o.kids (place o.keys key) (place o.keys key+if hit o.keys key then 1 else 0) (by omega);have h5:∀l,Pl.tot (key::l)=key.length+1+Pl.tot l:=fun l=>by simp[Pl.tot]
 rw[h5,Ob.wts];omega
theorem Oq (key:List UInt8):∀(ks:List (List UInt8)) (cs:List Ob),Pl.tot (cB key ks cs).1≤Pl.tot ks∧Ob.wts (cB key ks cs).2≤Ob.wts cs
|[],cs=>by simp[cB,Pl.tot,Ob.wts]
|k::ks,[]=>by simp[cB,Pl.tot,Ob.wts]
|k::ks,c::cs=>by
  have h5:∀a l,Pl.tot (a::l)=a.length+1+Pl.tot l:=fun a l=>by simp[Pl.tot]
  obtain⟨h1,h2⟩:=Oq key ks cs;rw[cB];split
  ·rw[h5,Ob.wts];exact⟨by omega,by omega⟩
  ·rw[h5,h5,Ob.wts,Ob.wts];exact⟨by omega,by omega⟩
theorem Ca (o:Ob)(key:List UInt8):(bD o key).wt≤o.wt:=by
 rw[kY (bD o key),kY o];have:=Oq key o.keys o.kids;rw[show (bD o key).s=o.s from rfl,show (bD o key).keys=(cB key o.keys o.kids).1 from rfl,show (bD o key).kids=(cB key o.keys o.kids).2 from rfl];omega
theorem Tp (o:Ob):(right o).1.wt≤o.wt:=by
 unfold right;split
 ·show ob0.wt≤_;rw[kY ob0,kY o];show 6+0+Pl.tot []+Ob.wts []≤_;simp[Pl.tot,Ob.wts];omega
 ·exact Yw _
theorem Wi {o:Ob}{key:List UInt8}:((get o key).getD ob0).wt≤o.wt:=by
 have h0:ob0.wt≤o.wt:=by
  rw[kY ob0,kY o];show 6+0+Pl.tot []+Ob.wts []≤_;simp[Pl.tot,Ob.wts];omega
 unfold get;split
 ·split
  ·rcases hx:o.kids[o.keys.idxOf key]? with _|x
   ·exact h0
   ·obtain⟨hi,rfl⟩:=Yy.1 hx;have h1:=IB o.kids (o.keys.idxOf key);rw[Zt hi,Ob.wts] at h1;rw[kY o];simp only[ZQ];omega
  ·exact h0
 ·exact h0
theorem Wp (o:Ob)(key:List UInt8)(v:Ob):(set o key v).1.wt≤o.wt+(key.length+1)+v.wt:=by
 have h0:ob0.wt≤o.wt:=by
  rw[kY ob0,kY o];show 6+0+Pl.tot []+Ob.wts []≤_;simp[Pl.tot,Ob.wts];omega
 unfold set;split
 ·simp only;omega
 split
 ·simp only;omega
 split
 ·have:=Ca o key;simp only;omega
 ·exact Zb (Tp _) (L8 o key v)
end Vl
end
section
open Go
namespace Vl
theorem Kd {o:Ob}{key:List UInt8}{v:Ob}(h:Rise o.keys)(hl:o.keys.length=o.kids.length):Rise (put o key v).keys∧(put o key v).keys.length=(put o key v).kids.length:=by
 have hp:=DX o.keys key;refine⟨?_,?_⟩
 ·show Rise (o.keys.take (place o.keys key)++key::o.keys.drop (place o.keys key+if hit o.keys key then 1 else 0));have hlo:∀x∈o.keys.take (place o.keys key),less x key=true:=by
   intro x hx;obtain⟨m,hm,rfl⟩:=ZC hx;rw[YC] at hm;rw[List.getElem_take];exact TD (by omega)
  have hhi:∀x∈o.keys.drop (place o.keys key+if hit o.keys key then 1 else 0),less key x=true:=by
   intro x hx;cases hh:hit o.keys key with
  |true=>
    rw[hh] at hx;obtain⟨m,hm,rfl⟩:=ZC hx;simp only[if_true,Yv] at hm;have hi:o.keys[place o.keys key]?=some key:=YF hh;have hg:o.keys[place o.keys key]=key:=(Yy.1 hi).2;have:=pS h (i:=place o.keys key) (j:=place o.keys key+1+m) (by omega) (by omega);rw[hg] at this;simpa using this
  |false=>
    rw[hh] at hx;obtain⟨m,hm,rfl⟩:=ZC hx;simp only[ZJ,if_false,Yv] at hm;have hlt:place o.keys key < o.keys.length:=by omega
    have hge:=Uf hlt;have hne:o.keys[place o.keys key]≠key:=by
     intro e;unfold hit at hh;rw[YB hlt,e] at hh;simp at hh
    have hk:=Jo hge hne;rcases Zd m with h0|h0
    ·subst h0;simpa using hk
    ·have:=pS h (i:=place o.keys key) (j:=place o.keys key+m) (by omega) (by omega);simpa using jN hk this
  refine List.pairwise_append.2 ⟨h.sublist (List.take_sublist _ _),YT.2 ⟨hhi,h.sublist (List.drop_sublist _ _)⟩,fun a ha b hb=>?_⟩;rcases Yq.1 hb with rfl|hb
  ·exact hlo a ha
  ·exact jN (hlo a ha) (hhi b hb)
 ·show (o.keys.take (place o.keys key)++key::o.keys.drop (place o.keys key+if hit o.keys key then 1 else 0)).length=(o.kids.take (place o.keys key)++v::o.kids.drop (place o.keys key+if hit o.keys key then 1 else 0)).length;simp only[Yp,YC,Yr,Yv];omega
end Vl
end
section
open Go
namespace Lx
open Oc
def eol (c:UInt8):Bool:=decide (c=13)||decide (c=10)
def dD:Bool→List UInt8→Nat
|_,[]=>0
|true,c::t=>1+dD (!eol c) t
|false,c::t=>if c=37 then 1+dD true t else if rX c then 1+dD false t else 0
def skip (s:List UInt8)(k:Nat):Nat:=k+dD false (s.drop k)
def Ek (s:List UInt8)(k:Int):Int:=if k < 0∨(s.length:Int) < k then k else ((skip s k.toNat:Nat):Int)
def dF:List UInt8→Nat
|[]=>0
|c::t=>if c=10 then 1 else if c=13 then (if t.head?=some 10 then 2 else 1) else 1+dF t
def line (s:List UInt8)(k:Nat):Nat:=k+dF (s.drop k)
theorem GG:∀(b:Bool) (l:List UInt8),dD b l≤l.length
|_,[]=>by simp[dD]
|true,c::t=>by have:=GG (!eol c) t;simp only[dD,Yr];omega
|false,c::t=>by
  have h1:=GG true t;have h2:=GG false t;simp only[dD,Yr];split
  ·omega
  ·split<;>omega
theorem Ej:∀l:List UInt8,dF l≤l.length
|[]=>by simp[dF]
|c::t=>by
  have:=Ej t;simp only[dF,Yr];split
  ·omega
  ·split
   ·split
    ·rename_i h
     cases t with
    |nil=>cases h
    |cons d t=>simp
    ·omega
   ·omega
theorem Dn (c:UInt8)(t:List UInt8):1≤dF (c::t):=by
 simp only[dF];split
 ·omega
 ·split
  ·split<;>omega
  ·omega
theorem MX (s:List UInt8){k:Nat}(h:k≤s.length):skip s k≤s.length:=by
 have:=GG false (s.drop k);rw[Yv] at this;unfold skip;omega
theorem drop_cons {s:List UInt8}{i:Nat}(h:i < s.length):s.drop i=s[i]::s.drop (i+1):=Zt h
theorem Jk:∀l:List UInt8,dD true l=dF l+dD false (l.drop (dF l))
|[]=>by simp[dD,dF]
|c::t=>by
  have ih:=Jk t;by_cases h1:c=10
  ·subst h1;simp[dD,dF,eol]
  ·by_cases h2:c=13
   ·subst h2;simp only[dD,dF,eol,h1,Yj,abB,YE,if_true,if_false];cases t with
   |nil=>simp[dD]
   |cons d t=>
     by_cases h3:d=10
     ·subst h3;simp[dD,rX,Oj];omega
     ·have:¬(some d=some 10):=by simpa using h3
      simp[this]
   ·have he:eol c=false:=by simp[eol,h1,h2]
    simp only[dD,dF,he,h1,h2,YJ,if_false];rw[ih,aaC 1 (dF t),Zx];omega
def digit (c:UInt8):Int:=
 if 48≤c.toNat∧c.toNat≤57 then (c.toNat:Int) - 48
 else if 65≤c.toNat∧c.toNat≤70 then (c.toNat:Int) - 65+10
 else if 97≤c.toNat∧c.toNat≤102 then (c.toNat:Int) - 97+10
 else -1
theorem pP (c:UInt8):-1≤digit c∧digit c≤15:=by
 unfold digit;split
 ·omega
 ·split
  ·omega
  ·split<;>omega
def byte (a b:Int):UInt8:=UInt8.ofNat (16*a+b).toNat
def unhex:List UInt8→Option (List UInt8)
|[]=>some []
|[_]=>none
|a::b::t=>if digit a < 0∨digit b < 0 then none else (unhex t).map (byte (digit a) (digit b)::·)
def DQ (l:List UInt8):List UInt8×Int:=match unhex l with|some x=>(x,0)|none=>([],3)
end Lx
end
section
open Go
namespace Lx
open Oc
structure Tok where
 k:Int
 a:Int
 t:Int
 n:Int
 s:List UInt8
 deriving DecidableEq
def none_:Tok:=⟨0,0,0,0,[]⟩
def refused (e:Int):Tok×Int:=(none_,e)
def told (k a t:Int)(x:List UInt8)(most:Int):Tok×Int:=if most < (x.length:Int) then refused 5 else (⟨k,a,t,0,x⟩,0)
def runF:List UInt8→Nat
|[]=>0
|c::t=>if regular c then 1+runF t else 0
def run (s:List UInt8)(i:Nat):Nat:=i+runF (s.drop i)
theorem QF:∀l:List UInt8,runF l≤l.length
|[]=>by simp[runF]
|c::t=>by
  have:=QF t;simp only[runF,Yr];split<;>omega
theorem Jg (s:List UInt8){k:Nat}(h:k≤s.length):run s k≤s.length:=by
 have:=QF (s.drop k);rw[Yv] at this;unfold run;omega
def cut (s:List UInt8)(i j:Nat):List UInt8:=(s.drop i).take (j - i)
def fA:List UInt8→Option (List UInt8)
|[]=>some []
|c::t=>
  if c=35 then match t with
  |a::b::t=>if digit a < 0∨digit b < 0∨16*digit a+digit b=0 then none else (fA t).map (byte (digit a) (digit b)::·)
  |_=>none
  else (fA t).map (c::·)
theorem KU {c:UInt8}{t:List UInt8}(h:¬c=35):fA (c::t)=(fA t).map (c::·):=by
 cases t with
|nil=>simp[fA,h]
|cons a t=>cases t<;>simp[fA,h]
def name (s:List UInt8)(at_:Nat):Tok×Int:=
 match fA (cut s (at_+1) (run s (at_+1))) with
|none=>refused 3
|some x=>told 4 at_ (run s (at_+1)) x 127
def oct (c:UInt8):Bool:=decide (48≤c.toNat)&&decide (c.toNat≤55)
def octF:Nat→Nat→List UInt8→Nat×Nat
|0,n,_=>(n,0)
|_+1,n,[]=>(n,0)
|m+1,n,c::t=>if oct c then ((octF m (8*n+(c.toNat - 48)) t).1,(octF m (8*n+(c.toNat - 48)) t).2+1) else (n,0)
def escL (c:UInt8):Option UInt8:=if c=110 then some 10 else if c=114 then some 13 else if c=116 then some 9 else if c=98 then some 8 else if c=102 then some 12 else none
def escF:List UInt8→List UInt8×Nat
|[]=>([],0)
|c::t=>match escL c with
 |some b=>([b],1)
 |none=>if eol c then ([],dF (c::t)) else if 0 < (octF 3 0 (c::t)).2 then ([UInt8.ofNat (octF 3 0 (c::t)).1],(octF 3 0 (c::t)).2) else ([c],1)
def cE:Nat→Nat→List UInt8→Option (List UInt8×Nat)
|_,_,[]=>none
|k+1,o,_::t=>(cE k o t).map fun r=>(r.1,r.2+1)
|0,o,c::t=>
  if eol c then (cE (dF (c::t) - 1) o t).map fun r=>(10::r.1,r.2+1)
  else if c=92 then if t=[] then none else (cE (escF t).2 o t).map fun r=>((escF t).1++r.1,r.2+1)
  else if c=40 then (cE 0 (o+1) t).map fun r=>(c::r.1,r.2+1)
  else if c=41 then if o≤1 then some ([],1) else (cE 0 (o - 1) t).map fun r=>(c::r.1,r.2+1)
  else (cE 0 o t).map fun r=>(c::r.1,r.2+1)
theorem EZ:∀(k o:Nat) (l:List UInt8),k≤l.length→cE k o l=(cE 0 o (l.drop k)).map fun r=>(r.1,r.2+k)
|0,o,l,_=>by simp
|k+1,o,[],h=>by simp at h
|k+1,o,c::t,h=>by
  have ih:=EZ k o t (by simpa using h);simp only[cE,ih,Zx,YW]
  congr 1
theorem QQ:∀(m n:Nat) (l:List UInt8),(octF m n l).2≤l.length∧(octF m n l).2≤m
|0,n,l=>by simp[octF]
|m+1,n,[]=>by simp[octF]
|m+1,n,c::t=>by
  have:=QQ m (8*n+(c.toNat - 48)) t;simp only[octF];split<;>simp<;>omega
theorem MP (l:List UInt8):(escF l).2≤l.length:=by
 cases l with
|nil=>simp[escF]
|cons c t=>
  simp only[escF];split
  ·simp
  ·split
   ·exact Ej _
   ·split
    ·exact (QQ _ _ _).1
    ·simp
def text (s:List UInt8)(at_:Nat):Tok×Int:=
 match cE 0 1 (s.drop (at_+1)) with
|none=>refused 4
|some r=>told 3 at_ (at_+1+r.2:Nat) r.1 32767
def hexF:Int→List UInt8→(List UInt8×Nat) ⊕ Int
|_,[]=>.inr 4
|h,c::t=>
  if c=62 then .inl (if 0≤h then [byte h 0] else [],1)
  else if rX c then match hexF h t with|.inl r=>.inl (r.1,r.2+1)|.inr e=>.inr e
  else if digit c < 0 then .inr 3
  else if h < 0 then match hexF (digit c) t with|.inl r=>.inl (r.1,r.2+1)|.inr e=>.inr e
  else match hexF (-1) t with|.inl r=>.inl (byte h (digit c)::r.1,r.2+1)|.inr e=>.inr e
def hex (s:List UInt8)(at_:Nat):Tok×Int:=
 match hexF (-1) (s.drop (at_+1)) with
|.inr e=>refused e
|.inl r=>told 3 at_ (at_+1+r.2:Nat) r.1 32767
def sgn (c:UInt8):Bool:=decide (c=43)||decide (c=45)
def dig (c:UInt8):Bool:=decide (48≤c.toNat)&&decide (c.toNat≤57)
def bH:List UInt8→List UInt8
|[]=>[]
|c::t=>if sgn c then t else c::t
def dA (t:List UInt8):Bool:=!(bH t).isEmpty&&(bH t).all dig
def val (n:Nat)(l:List UInt8):Nat:=l.foldl (fun n c=>10*n+(c.toNat - 48)) n
def whole (t:List UInt8):Int×Int:=
 if 2147483647 < val 0 (bH t) then (0,2) else (if t.head?=some 45 then -(val 0 (bH t):Int) else (val 0 (bH t):Int),0)
def rY (t:List UInt8)(a b:Int):Tok×Int:=
 if dA t then (if (whole t).2≠0 then refused (whole t).2 else (⟨1,a,b,(whole t).1,[]⟩,0))
 else if t.contains 46∧(Fx.read t).2=0 then (⟨2,a,b,(Fx.read t).1,[]⟩,0)
 else if t.contains 46∧(Fx.read t).2=2 then refused 2
 else told 5 a b t 127
def word (s:List UInt8)(at_:Nat):Tok×Int:=rY (cut s at_ (run s at_)) at_ (run s at_)
def mark (s:List UInt8)(at_ n:Nat):Tok×Int:=(⟨6,at_,(at_+n:Nat),0,cut s at_ (at_+n)⟩,0)
def token (s:List UInt8)(a:Nat):Tok×Int:=
 match s.drop a with
|[]=>(⟨0,a,a,0,[]⟩,0)
|c::t=>
  if c=91∨c=93∨c=123∨c=125 then mark s a 1
  else if c=60 then (if t.head?=some c then mark s a 2 else hex s a)
  else if c=62 then (if t.head?=some c then mark s a 2 else refused 3)
  else if c=47 then name s a
  else if c=40 then text s a
  else if c=41 then refused 3
  else word s a
def next (s:List UInt8)(at_:Int):Tok×Int:=if at_ < 0∨(s.length:Int) < at_ then refused 1 else token s (skip s at_.toNat)
end Lx
end
section
open Go
namespace Lx
open Oc
theorem P9:∀(l:List UInt8) (h:Int) (r:List UInt8×Nat),hexF h l=.inl r→1≤r.2∧r.2≤l.length
|[],_,r,h=>by rw[hexF] at h;cases h
|c::t,h,r,he=>by
  rw[hexF] at he;have step:∀h',(∀r,hexF h' t=.inl r→1≤r.2∧r.2≤t.length):=fun h' r hr=>P9 t h' r hr;split at he
  ·cases he;simp
  ·split at he
   ·cases hh:hexF h t with
   |inr e=>rw[hh] at he;cases he
   |inl q=>rw[hh] at he;cases he;have:=step _ q hh;simp;omega
   ·split at he
    ·cases he
    ·split at he
     ·cases hh:hexF (digit c) t with
     |inr e=>rw[hh] at he;cases he
     |inl q=>rw[hh] at he;cases he;have:=step _ q hh;simp;omega
     ·cases hh:hexF (-1) t with
     |inr e=>rw[hh] at he;cases he
     |inl q=>rw[hh] at he;cases he;have:=step _ q hh;simp;omega
theorem Dx:∀(l:List UInt8) (k o:Nat) (r:List UInt8×Nat),cE k o l=some r→1≤r.2∧r.2≤l.length
|[],k,o,r,h=>by
  cases k<;>(rw[cE] at h;cases h)
|c::t,k+1,o,r,h=>by
  rw[cE] at h;cases hh:cE k o t with
 |none=>rw[hh] at h;cases h
 |some q=>rw[hh] at h;cases h;have:=Dx t k o q hh;simp;omega
|c::t,0,o,r,h=>by
  rw[cE] at h;have step:∀(k o:Nat) (f:List UInt8→List UInt8),(cE k o t).map (fun r=>(f r.1,r.2+1))=some r→1≤r.2∧r.2≤(c::t).length:=by
   intro k o f h;cases hh:cE k o t with
  |none=>rw[hh] at h;cases h
  |some q=>rw[hh] at h;cases h;have:=Dx t k o q hh;simp;omega
  split at h
  ·exact step _ _ _ h
  ·split at h
   ·split at h
    ·cases h
    ·exact step _ _ _ h
   ·split at h
    ·exact step _ _ (fun x=>c::x) h
    ·split at h
     ·split at h
      ·cases h;simp
      ·exact step _ _ (fun x=>c::x) h
     ·exact step _ _ (fun x=>c::x) h
theorem EN {k a t:Int}{x:List UInt8}{m:Int}(h:(told k a t x m).2=0):told k a t x m=(⟨k,a,t,0,x⟩,0):=by
 unfold told at h ⊢;split
 ·rename_i hh;rw[Yh hh] at h;cases h
 ·rfl
theorem BU:∀(b:Bool) (l:List UInt8),dD false (l.drop (dD b l))=0
|_,[]=>by simp[dD]
|true,c::t=>by
  simp only[dD];rw[aaC,Zx];exact BU _ t
|false,c::t=>by
  simp only[dD];split
  ·rw[aaC,Zx];exact BU _ t
  ·split
   ·rw[aaC,Zx];exact BU _ t
   ·rename_i h1 h2
    rw[ZV,dD,Yg h1,Yg h2]
theorem Qf (s:List UInt8)(k:Nat):dD false (s.drop (skip s k))=0:=by
 have:=BU false (s.drop k);rw[Z6] at this;exact this
theorem Rp {c:UInt8}{t:List UInt8}(h:dD false (c::t)=0):c≠37∧rX c=false:=by
 rw[dD] at h;split at h
 ·omega
 ·rename_i h1
  split at h
  ·omega
  ·rename_i h2
   exact⟨h1,by simpa using h2⟩
theorem PQ (c:UInt8)(hw:rX c=false)(h1:¬(c=91∨c=93∨c=123∨c=125))(h2:c≠60)(h3:c≠62)(h4:c≠47)(h5:c≠40)(h6:c≠41)(h7:c≠37):regular c=true:=by
 have g1:¬c=91:=fun e=>h1 (.inl e);have g2:¬c=93:=fun e=>h1 (.inr (.inl e));have g3:¬c=123:=fun e=>h1 (.inr (.inr (.inl e)));have g4:¬c=125:=fun e=>h1 (.inr (.inr (.inr e)));simp[regular,hw,K5,Ol,g1,g2,g3,g4,h2,h3,h4,h5,h6,h7]
theorem NT {t:List UInt8}{a r:Int}(h:(rY t a r).2=0):(rY t a r).1.k≠0∧(rY t a r).1.a=a∧(rY t a r).1.t=r:=by
 unfold rY at h ⊢;split at h
 ·rename_i h1
  rw[Yh h1];split at h
  ·rename_i h2;exact absurd h h2
  ·rename_i h2;rw[Yg h2];exact⟨by simp,rfl,rfl⟩
 ·rename_i h1
  rw[Yg h1];split at h
  ·rename_i h2;rw[Yh h2];exact⟨by simp,rfl,rfl⟩
  ·rename_i h2
   rw[Yg h2];split at h
   ·cases h
   ·rename_i h3
    rw[Yg h3,EN h];exact⟨by simp,rfl,rfl⟩
theorem TG {s:List UInt8}{a:Nat}(ha:a < s.length)(hsk:dD false (s.drop a)=0)(h:(token s a).2=0):(token s a).1.k≠0∧(token s a).1.a=a∧(a:Int) < (token s a).1.t∧(token s a).1.t≤s.length:=by
 have hd:=drop_cons ha;have hT:token s a=if s[a]=91∨s[a]=93∨s[a]=123∨s[a]=125 then mark s a 1
  else if s[a]=60 then (if (s.drop (a+1)).head?=some s[a] then mark s a 2 else hex s a)
  else if s[a]=62 then (if (s.drop (a+1)).head?=some s[a] then mark s a 2 else refused 3)
  else if s[a]=47 then name s a
  else if s[a]=40 then text s a
  else if s[a]=41 then refused 3
  else word s a:=by rw[token,hd]
 rw[hd] at hsk;obtain⟨h37,hw⟩:=Rp hsk;have two:(s.drop (a+1)).head?=some s[a]→a+2≤s.length:=by
  intro h;cases hdd:s.drop (a+1) with
 |nil=>rw[hdd] at h;cases h
 |cons x t=>
   have:=congrArg List.length hdd;simp at this;omega
 rw[hT] at h ⊢;by_cases g0:s[a]=91∨s[a]=93∨s[a]=123∨s[a]=125
 ·rw[Yh g0];exact⟨by simp[mark],rfl,by simp only[mark];omega,by simp only[mark];omega⟩
 rw[Yg g0] at h ⊢;by_cases g1:s[a]=60
 ·rw[Yh g1] at h ⊢;by_cases g:(s.drop (a+1)).head?=some s[a]
  ·have:=two g;rw[Yh g];exact⟨by simp[mark],rfl,by simp only[mark];omega,by simp only[mark];omega⟩
  ·rw[Yg g] at h ⊢;unfold hex at h ⊢;cases hh:hexF (-1) (s.drop (a+1)) with
  |inr e=>
    rw[hh] at h;exfalso;have:∀(l:List UInt8) (x e:Int),hexF x l=.inr e→e≠0:=by
     intro l
     induction l with
    |nil=>intro x e he;rw[hexF] at he;cases he;decide
    |cons c t ih=>
      intro x e he;rw[hexF] at he;split at he
      ·cases he
      ·split at he
       ·cases hq:hexF x t with
       |inl r=>rw[hq] at he;cases he
       |inr e'=>rw[hq] at he;cases he;exact ih _ _ hq
       ·split at he
        ·cases he;decide
        ·split at he
         ·cases hq:hexF (digit c) t with
         |inl r=>rw[hq] at he;cases he
         |inr e'=>rw[hq] at he;cases he;exact ih _ _ hq
         ·cases hq:hexF (-1) t with
         |inl r=>rw[hq] at he;cases he
         |inr e'=>rw[hq] at he;cases he;exact ih _ _ hq
    exact this _ _ _ hh h
  |inl r=>
    rw[hh] at h;simp only at h ⊢;have:=P9 _ _ _ hh;rw[Yv] at this;rw[EN h];exact⟨by simp,rfl,by simp only;omega,by simp only;omega⟩
 rw[Yg g1] at h ⊢;by_cases g2:s[a]=62
 ·rw[Yh g2] at h ⊢;by_cases g:(s.drop (a+1)).head?=some s[a]
  ·have:=two g;rw[Yh g];exact⟨by simp[mark],rfl,by simp only[mark];omega,by simp only[mark];omega⟩
  ·rw[Yg g] at h;cases h
 rw[Yg g2] at h ⊢;by_cases g3:s[a]=47
 ·rw[Yh g3] at h ⊢;have hto:=Jg s (show a+1≤s.length by omega);have hto2:a+1≤run s (a+1):=by unfold run;omega
  unfold name at h ⊢;cases hh:fA (cut s (a+1) (run s (a+1))) with
 |none=>rw[hh] at h;cases h
 |some x=>
   rw[hh] at h;simp only at h ⊢;rw[EN h];exact⟨by simp,rfl,by simp only;omega,by simp only;omega⟩
 rw[Yg g3] at h ⊢;by_cases g4:s[a]=40
 ·rw[Yh g4] at h ⊢;unfold text at h ⊢;cases hh:cE 0 1 (s.drop (a+1)) with
 |none=>rw[hh] at h;cases h
 |some r=>
   rw[hh] at h;simp only at h ⊢;have:=Dx _ _ _ _ hh;rw[Yv] at this;rw[EN h];exact⟨by simp,rfl,by simp only;omega,by simp only;omega⟩
 rw[Yg g4] at h ⊢;by_cases g5:s[a]=41
 ·rw[Yh g5] at h;cases h
 rw[Yg g5] at h ⊢;have hreg:=PQ s[a] hw g0 g1 g2 g3 g4 g5 h37;have hto:=Jg s (show a≤s.length by omega);have hto2:a < run s a:=by unfold run;rw[hd,runF,Yh hreg];omega
 obtain⟨k1,k2,k3⟩:=NT h;exact⟨k1,k2,by rw[show (word s a).1.t=_ from k3];omega,by rw[show (word s a).1.t=_ from k3];omega⟩
theorem eE {s:List UInt8}{i:Int}(h:(next s i).2=0)(hk:(next s i).1.k≠0):0≤i∧i≤s.length∧(next s i).1.a=skip s i.toNat∧(next s i).1.a < (next s i).1.t∧(next s i).1.t≤s.length:=by
 unfold next at h hk ⊢
 split
 ·rename_i hh;rw[Yh hh] at h;cases h
 ·rename_i hh
  rw[Yg hh] at h hk;have hle:=MX s (k:=i.toNat) (by omega);rcases YS (skip s i.toNat) s.length with h1|h1
  ·have:=TG h1 (Qf s i.toNat) h;exact⟨by omega,by omega,this.2.1,by rw[this.2.1];exact this.2.2.1,this.2.2.2⟩
  ·exfalso;rw[token,YP h1] at hk;exact hk rfl
theorem eW (s:List UInt8)(k:Nat):k≤skip s k:=by unfold skip;omega
end Lx
end
section
open Go
namespace Ps
open Lx (next Tok)
abbrev R:=Ob×Int×Int
def bad (e:Int):R:=(Vl.ob0,0,e)
def tru:List UInt8:=[116,114,117,101]
def fal:List UInt8:=[102,97,108,115,101]
def nul:List UInt8:=[110,117,108,108]
def bG (t:Tok):Bool:=
 if t.k=6 then decide (t.s=[91])||decide (t.s=[60,60]) else !decide (t.k=0)&&(!decide (t.k=5)||decide (t.s=tru)||decide (t.s=fal)||decide (t.s=nul))
def ref (s:List UInt8)(t:Tok):Option (Int×Int):=
 if t.n < 1∨8191 < t.n then none
 else if (next s t.t).2≠0∨(next s t.t).1.k≠1∨(next s t.t).1.n < 0∨65535 < (next s t.t).1.n then none
 else if (next s (next s t.t).1.t).2=0∧(next s (next s t.t).1.t).1.k=5∧(next s (next s t.t).1.t).1.s=[82] then some ((next s t.t).1.n,(next s (next s t.t).1.t).1.t)
 else none
def leaf (s:List UInt8)(t:Tok):R:=
 if t.k=1 then match ref s t with
 |some p=>(.mk 8 t.n p.1 [] [] [],p.2,0)
 |none=>(.mk 2 t.n 0 [] [] [],t.t,0)
 else if t.k=2 then (.mk 3 t.n 0 [] [] [],t.t,0)
 else if t.k=3 then (.mk 4 0 0 t.s [] [],t.t,0)
 else if t.k=4 then (.mk 5 0 0 t.s [] [],t.t,0)
 else if t.s=nul then (Vl.ob0,t.t,0)
 else (.mk 1 (if t.s=tru then 1 else 0) 0 [] [] [],t.t,0)
def arr (s:List UInt8)(ok:Bool)(sub:Int→R):Nat→Int→List Ob→R
|0,_,_=>bad 99
|m+1,at_,acc=>
  if (next s at_).2=0∧(next s at_).1.k=6∧(next s at_).1.s=[93] then (.mk 6 0 0 [] [] acc,(next s at_).1.t,0)
  else if (next s at_).2=0∧acc.length=8191∧bG (next s at_).1=true∧ok=true then bad 6
  else if (next s at_).2≠0 then bad (next s at_).2
  else if (sub at_).2.2≠0 then bad (sub at_).2.2
  else arr s ok sub m (sub at_).2.1 (acc++[(sub at_).1])
def join (o:Ob)(k:List UInt8)(v:Ob):Ob:=if v.k≠0 then Vl.put o k v else o
def dict (s:List UInt8)(sub:Int→R):Nat→Int→Ob→List (List UInt8)→R
|0,_,_,_=>bad 99
|m+1,at_,o,met=>
  if (next s at_).2≠0 then bad (next s at_).2
  else if (next s at_).1.k=6∧(next s at_).1.s=[62,62] then (o,(next s at_).1.t,0)
  else if (next s at_).1.k=0 then bad 4
  else if (next s at_).1.k≠4 then bad 3
  else if (next s at_).1.s∈met then bad 9
  else if met.length=8191 then bad 6
  else if (sub (next s at_).1.t).2.2≠0 then bad (sub (next s at_).1.t).2.2
  else dict s sub m (sub (next s at_).1.t).2.1 (join o (next s at_).1.s (sub (next s at_).1.t).1) (met++[(next s at_).1.s])
def dE:Ob:=.mk 7 0 0 [] [] []
def obj (s:List UInt8):Nat→Int→R
|n,at_=>
  if (next s at_).2≠0 then bad (next s at_).2
  else if (next s at_).1.k=0 then bad 4
  else if bG (next s at_).1=false then bad 3
  else match n with
  |0=>bad 7
  |n+1=>
    if (next s at_).1.k≠6 then leaf s (next s at_).1
    else if (next s at_).1.s=[91] then arr s (decide (n≠0)) (obj s n) (s.length+1) (next s at_).1.t []
    else dict s (obj s n) (s.length+1) (next s at_).1.t dE []
def object (s:List UInt8)(at_:Int):R:=if at_ < 0∨(s.length:Int) < at_ then bad 1 else obj s 24 at_
theorem Uv {s:List UInt8}{t:Tok}{p:Int×Int}(h:ref s t=some p):t.t < p.2∧p.2≤s.length∧1≤t.n∧t.n≤8191∧0≤p.1∧p.1≤65535:=by
 unfold ref at h;split at h
 ·cases h
 rename_i h0
 split at h
 ·cases h
 rename_i h1
 split at h
 ·rename_i h2
  simp only[not_or,YA] at h1;cases h;have b1:=Lx.eE h1.1 (by rw[h1.2.1];decide);have b2:=Lx.eE h2.1 (by rw[h2.2.1];decide);have:=Lx.eW s t.t.toNat;have:=Lx.eW s (next s t.t).1.t.toNat;simp only;omega
 ·cases h
theorem RO {s:List UInt8}{at_:Int}(h0:(next s at_).2=0)(hk:(next s at_).1.k≠0):(leaf s (next s at_).1).2.2=0∧at_ < (leaf s (next s at_).1).2.1∧(leaf s (next s at_).1).2.1≤s.length:=by
 have b:=Lx.eE h0 hk;have:=Lx.eW s at_.toNat;unfold leaf;split
 ·cases hr:ref s (next s at_).1 with
 |some p=>
   have:=Uv hr;exact⟨rfl,by show at_ < p.2;omega,by show p.2≤_;omega⟩
 |none=>exact⟨rfl,by show at_ < (next s at_).1.t;omega,b.2.2.2.2⟩
 all_goals (repeat' split)<;>exact⟨rfl,by show at_ < (next s at_).1.t;omega,b.2.2.2.2⟩
def Good (s:List UInt8)(sub:Int→R):Prop:=∀a,(sub a).2.2=0→a < (sub a).2.1∧(sub a).2.1≤s.length
theorem UB {s:List UInt8}{ok:Bool}{sub:Int→R}(hg:Good s sub):∀(m:Nat) (a:Int) (acc:List Ob),(arr s ok sub m a acc).2.2=0→a < (arr s ok sub m a acc).2.1∧(arr s ok sub m a acc).2.1≤s.length
|0,a,acc,h=>by simp[arr,bad] at h
|m+1,a,acc,h=>by
  rw[arr] at h ⊢;split at h
  ·rename_i h1
   rw[Yh h1];have b:=Lx.eE h1.1 (by rw[h1.2.1];decide);have:=Lx.eW s a.toNat;exact⟨by show a < (next s a).1.t;omega,b.2.2.2.2⟩
  rename_i h1
  rw[Yg h1];split at h
  ·simp[bad] at h
  rename_i h2
  rw[Yg h2];split at h
  ·rename_i h3;exact absurd h h3
  rename_i h3
  rw[Yg h3];split at h
  ·rename_i h4;exact absurd h h4
  rename_i h4
  rw[Yg h4];have b:=hg a (YA.1 h4);have c:=UB hg m _ _ h;exact⟨by omega,c.2⟩
theorem RP {s:List UInt8}{sub:Int→R}(hg:Good s sub):∀(m:Nat) (a:Int) (o:Ob) (met:List (List UInt8)),(dict s sub m a o met).2.2=0→a < (dict s sub m a o met).2.1∧(dict s sub m a o met).2.1≤s.length
|0,a,o,met,h=>by simp[dict,bad] at h
|m+1,a,o,met,h=>by
  rw[dict] at h ⊢;split at h
  ·rename_i h1;exact absurd h h1
  rename_i h1
  rw[Yg h1];have h1:=YA.1 h1;split at h
  ·rename_i h2
   rw[Yh h2];have b:=Lx.eE h1 (by rw[h2.1];decide);have:=Lx.eW s a.toNat;exact⟨by show a < (next s a).1.t;omega,b.2.2.2.2⟩
  rename_i h2
  rw[Yg h2];split at h
  ·simp[bad] at h
  rename_i h3
  rw[Yg h3];split at h
  ·simp[bad] at h
  rename_i h4
  rw[Yg h4];split at h
  ·simp[bad] at h
  rename_i h5
  rw[Yg h5];split at h
  ·simp[bad] at h
  rename_i h6
  rw[Yg h6];split at h
  ·rename_i h7;exact absurd h h7
  rename_i h7
  rw[Yg h7];have b:=Lx.eE h1 h3;have:=Lx.eW s a.toNat;have b2:=hg _ (YA.1 h7);have c:=RP hg m _ _ _ h;exact⟨by omega,c.2⟩
theorem KC (s:List UInt8):∀n,Good s (obj s n):=by
 intro n
 induction n with
|zero=>
  intro a h;rw[obj] at h;split at h
  ·rename_i h1;exact absurd h h1
  split at h
  ·simp[bad] at h
  split at h
  ·simp[bad] at h
  ·simp[bad] at h
|succ n ih=>
  intro a h;rw[obj] at h ⊢;split at h
  ·rename_i h1;exact absurd h h1
  rename_i h1
  rw[Yg h1];have h1:=YA.1 h1;split at h
  ·simp[bad] at h
  rename_i h2
  rw[Yg h2];split at h
  ·simp[bad] at h
  rename_i h3
  rw[Yg h3];have b:=Lx.eE h1 h2;have:=Lx.eW s a.toNat
  try simp only at h ⊢
  split at h
  ·rename_i h4
   rw[Yh h4];exact (RO h1 h2).2
  rename_i h4
  rw[Yg h4];split at h
  ·rename_i h5
   rw[Yh h5];have c:=UB ih _ _ _ h;exact⟨by omega,c.2⟩
  ·rename_i h5
   rw[Yg h5];have c:=RP ih _ _ _ _ h;exact⟨by omega,c.2⟩
theorem Dv {s:List UInt8}{n:Nat}{a:Int}(h:(obj s n a).2.2=0):a < (obj s n a).2.1∧(obj s n a).2.1≤s.length:=KC s n a h
end Ps
end
section
namespace Eng
open Go.RowKit
def Ent.urow (T:TypeId)(sz:Nat)(v:Value)(n:Nat)(xs:List Value):Ent:=
 ⟨fun k=>v.ownBlock=some k,fun w=>w.ownsRow 0 T sz v n xs,fun {w w'} h k=>by
  refine⟨h.1,?_⟩;rcases h.2 with hn|⟨g,cap,cur,rfl,hb,hgg,rest⟩
  ·exact .inl hn
  ·exact .inr ⟨g,cap,cur,rfl,hb,(k g rfl).trans hgg,rest⟩,fun h k hk=>(World.ownsRowF.lt (World.ownsRowF_of h) k hk).2⟩
section
variable {S:Nat→Prop}{P:Program}{w:World}{PK:PKT}{K:VWP}
theorem urow_row {T:TypeId}{sz:Nat}{v:Value}{n:Nat}{xs:List Value}(h:(Ent.urow T sz v n xs).is w):(Ent.row T sz v n xs).is w:=World.ownsRowF_of h
theorem Sl.urow {T:TypeId}{sz:Nat}{v:Value}{n:Nat}{xs:List Value}(h:(Ent.urow T sz v n xs).is w):Sl w v sz n xs:=Sl.row (urow_row h)
theorem OwnS.slU {w0:World}{L:List Ent}(ho:OwnS S w0 w L)(i:Nat){T:TypeId}{sz:Nat}{v:Value}{n:Nat}{xs:List Value}(hi:L[i]?=some (.urow T sz v n xs)):Sl w v sz n xs:=Sl.urow (ho.at_ i hi)
theorem OwnS.nilU {w0:World}{L:List Ent}(ho:OwnS S w0 w L)(E:TypeId)(sz:Nat):OwnS S w0 w (.urow E sz (.slice none 0 0) 0 []::L):=by
 refine⟨ho.grew,fun e he=>?_,.cons (fun f hf k hk=>by simp[Ent.urow,Value.ownBlock] at hk) ho.apart⟩;rcases Yq.1 he with rfl|he
 ·exact⟨⟨by simp,.inl ⟨rfl,rfl⟩⟩,fun k hk=>by simp[Ent.urow,Value.ownBlock] at hk⟩
 ·exact ho.all e he
theorem OwnS.toU {w0:World}{L:List Ent}{b:Nat}{cs:List Value}{E:TypeId}(ho:OwnS S w0 w (.cells b cs E::L))(sz n cap:Nat)(hl:cs.length=cap*sz)(hn:n≤cap)(hc:cap≤9223372036854775807) :
  OwnS S w0 w (.urow E sz (.slice (some ⟨b,0,none⟩) n cap) n (cs.take (n*sz))::L):=by
 refine⟨ho.grew,fun e he=>?_,?_⟩
 ·rcases Yq.1 he with rfl|he
  ·refine⟨⟨by rw[YC,hl,YM (YU _ hn)],.inr ⟨b,cap,cs.toArray,rfl,ZF _,ho.at_ 0 rfl,hn,by simp only[maxLen];omega,by simpa using hl,by simp⟩⟩,fun k hk=>?_⟩;simp only[Ent.urow,Value.ownBlock,Zu] at hk;exact (ho.all (.cells b cs E) (by simp)).2 k hk.symm
  ·exact ho.all e (by simp[he])
 ·refine .cons (fun f hf k hk=>?_) (YT.1 ho.apart).2;simp only[Ent.urow,Value.ownBlock,Zu] at hk;exact (YT.1 ho.apart).1 f hf k hk.symm
theorem H6 {T E U:TypeId}{cs:Array Bool}{v v2:Value}{sz bytes n m:Nat}{xs news:List Value}(ht:P.underlying T=some (.slice E))(he:elB P E sz bytes=true)(hsz:0 < sz)
  (hown:w.ownsRow 0 E sz v n xs) (hs:Sl w v2 sz m news) (h1:∀u∈news,u.oneCell'=true) (hb:(n+m)*bytes≤140737488355328) (hb2:n+m≤140737488355328) :
  ∃v' w',(mB .append #[T,T] U cs #[v,v2]).run P w=.ok (.value v') w'∧Turn (.urow E sz v n xs) (.urow E sz v' (n+m) (xs++news)) w w':=by
 obtain⟨v',w',r,t⟩:=CL (P:=P) (U:=U) (cs:=cs) ht he hsz (World.ownsRowF_of hown) hs h1 hb hb2;refine⟨v',w',r,t.grew,?_,t.new⟩;obtain⟨i,z,hi,hz,hi1,hi2,hz1⟩:=sV he;obtain⟨hl,a,cap,rfl,hn,hc⟩:=hs;have hmx:n+m≤maxLen:=by simp only[maxLen];omega
 cases a with
|some p=>
  have hh:∀j u,news[j]?=some u→w.cell? (p.add j)=some u:=by
   intro j u hj;have hlt:j < news.length:=(Yy.1 hj).1;have hm:0 < m:=by
    rcases Zd m with h0|h0
    ·subst h0;simp at hl;rw[hl] at hlt;simp at hlt
    ·exact h0
   obtain⟨hsp,hcell⟩:=hc p rfl;have:=hsp hm;obtain⟨b,off,spot⟩:=p;simp only at this hcell;subst this;rw[cS];exact hcell j u hj
  obtain⟨v2,w2,r1,r2,r3,r4⟩:=run_append_own (P:=P) w 0 T U E i z sz bytes ht hi hz hi1 hi2 hz1 hsz v n xs hown p m cap news hl hh h1 hmx hb (ZF _);have:(mB .append #[T,T] U cs #[v,.slice (some p) m cap]).run P w=.ok (.value v2) w2:=by simp[mB,builtin,r1]
  rw[this] at r;cases r;exact r2
|none=>
  have h0:=hn rfl;subst h0;have hnil:news=[]:=ZO (by simpa using hl);subst hnil;have:(mB .append #[T,T] U cs #[v,.slice none 0 cap]).run P w=.ok (.value v) w:=by
   rcases hown.2 with ⟨rfl,rfl⟩|⟨g,cp,cur,rfl,_,_,hnc,_⟩
   ·simp[mB,builtin,Builtin.append_,run_underlying ht,sizeOf,typeInfo,hi,Builtin.lenOf,Builtin.firstCells]
   ·simp[mB,builtin,Builtin.append_,run_underlying ht,sizeOf,typeInfo,hi,Builtin.lenOf,Builtin.firstCells,hnc,storeCells]
  rw[this] at r;cases r;rw[YQ];exact hown
theorem vA {w0:World}{L:List Ent}(i:Nat){T E U:TypeId}{cs:Array Bool}{v v2:Value}{sz bytes n m:Nat}{xs news:List Value}(ht:P.underlying T=some (.slice E))(he:elB P E sz bytes=true)(hsz:0 < sz)
  (ho:OwnS S w0 w L) (hi:L[i]?=some (.urow E sz v n xs)) (hs:Sl w v2 sz m news) (h1:∀u∈news,u.oneCell'=true) (hb:(n+m)*bytes≤140737488355328) (hb2:n+m≤140737488355328)
  (k:∀v' w',OwnS S w0 w' (L.set i (.urow E sz v' (n+m) (xs++news)))→K v' w'):DoX P (mB .append #[T,T] U cs #[v,v2]) w PK K:=by
 obtain⟨v',w',r,t⟩:=H6 (cs:=cs) (U:=U) ht he hsz (ho.at_ i hi) hs h1 hb hb2;exact pQ r (k _ _ (ho.turn i hi t))
theorem qE {E:TypeId}{sz n:Nat}{v:Value}{xs:List Value}(h:(Ent.urow E sz v n xs).is w)(hn:0 < n):∃g cap,v=.slice (some ⟨g,0,none⟩) n cap:=by
 rcases (show w.ownsRow 0 E sz v n xs from h).2 with ⟨_,h0⟩|⟨g,cap,cur,rfl,_⟩
 ·omega
 ·exact⟨g,cap,rfl⟩
theorem Fk {T:TypeId}{g off:Nat}{cur:Array Value}{E:TypeId}{u:Value}{new:List Value}(hc:u.cells=new.toArray)(hs:(P.info? T).map (·.size)=some new.length)(h1:∀x∈new,x.oneCell'=true)
  (hg:w.heap[g]?=some (.cells cur E (0,0))) (hl:off+new.length≤cur.size) :
  (Instr.storeAt T (.pointer (some ⟨g,off,none⟩)) u).run P w=.ok () (w.setRow g (cur.toList.take off++new++cur.toList.drop (off+new.length)).toArray):=by
 have hst:=run_storeCells_at P g off E new 0 cur w hg (by simpa using hl) h1;obtain⟨i,hi,h2⟩:=Zj.1 hs;simp only[aaI] at hst;simp[Instr.storeAt,Instr.sureAddr,storeVar,hc,sizeOf,typeInfo,hi,h2,hst]
theorem BX {w0:World}{L:List Ent}(i:Nat){T E:TypeId}{g off n cap sz:Nat}{xs new:List Value}{u:Value}(ho:OwnS S w0 w L)(hi:L[i]?=some (.urow E sz (.slice (some ⟨g,0,none⟩) n cap) n xs))
  (hc:u.cells=new.toArray) (hs:(P.info? T).map (·.size)=some new.length) (h1:∀x∈new,x.oneCell'=true) (hl:off+new.length≤n*sz)
  (k:∀w',OwnS S w0 w' (L.set i (.urow E sz (.slice (some ⟨g,0,none⟩) n cap) n (xs.take off++new++xs.drop (off+new.length))))→K undef w'):DoX P (aC T (.pointer (some ⟨g,off,none⟩)) u) w PK K:=by
 have hown:w.ownsRow 0 E sz (.slice (some ⟨g,0,none⟩) n cap) n xs:=ho.at_ i hi;rcases hown.2 with ⟨h0,_⟩|⟨g',cap',cur,he,hb,hg,hnc,hcm,hcs,htake⟩
 ·cases h0
 cases he;have hle:n*sz≤cur.size:=by rw[hcs];exact YU _ hnc
 refine HS (L3 (Fk hc hs h1 hg (by omega))) (k _ ?_);refine ho.put i hi (w':=w.setRow g _) ⟨rfl,rfl,rfl,by simp[World.setRow],fun k _ hk=>setRow_other w g k _ (fun e=>hk (by simp[Ent.urow,Value.ownBlock,e]))⟩ _ ?_ (fun k hk=>.inl hk);have hxl:=hown.1;have hcl:cur.toList.length=cap*sz:=by simpa using hcs
 refine⟨by simp only[Yp,YC,Yv];omega,.inr ⟨g,cap,_,rfl,hb,setRow_heap w g cur _ E (0,0) hg,hnc,hcm,?_,?_⟩⟩
 ·simp only[List.size_toArray,Yp,YC,Yv];omega
 ·subst htake;rw[aaA,YM (by omega)];simp only[YD];rw[List.take_append,List.take_append,YO (l:=cur.toList.take off) (by simp;omega),YO (l:=new) (by simp;omega)]
  congr 2
  rw[YC,YM (by omega),List.drop_take]
  congr 1
  omega
end
end Eng
end
end Go.Proofs.YtkejpieaafeblaaGreatDoor
