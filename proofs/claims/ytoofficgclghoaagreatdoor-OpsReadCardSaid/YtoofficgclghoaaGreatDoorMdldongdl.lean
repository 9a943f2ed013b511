/- Texts that go together: EngD SBuild Shelf LibBld SPlain SFix SRef02 FixP FixR FixQ SStr LibCut FixT PlA PlB PlC LawKit2 LawKit3 EngT EngH EngI EngJ EngK ObA ObB KdA EngU ObC Plain05 SRef05 FixU FixV FixW FixX SLaw02 FixY EngG. -/
import Derived.Test.YtoofficgclghoaaGreatDoorRows
import Derived.Shelf.Strings.Builder1
import Derived.Shelf.Strings.Builder2
import Derived.Shelf.Strings.Trim
import Derived.Shelf.Small.Utf8
import Derived.Shelf.Small.Bits
import Derived.Shelf.Small.Strs
import Derived.Shelf.Strings.BuilderF
import Derived.Shelf.Strings.BuilderK
import Derived.Shelf.Strings.Builder2Cap
import Derived.Shelf.Strconv.Itoa0
import Derived.Shelf.Strconv.Itoa1
import Derived.Shelf.LaysM
import Derived.Shelf.Strconv.Itoa2
import Derived.Shelf.Strconv.Itoa3
import Derived.Shelf.Strconv.Itoa4
import Derived.Shelf.Strings.Search1
import Derived.Shelf.Strings.Search2
import Derived.Shelf.Strings.Search3
import Derived.Shelf.Strings.Cut
import Derived.Shelf.Strings.Shaped
import Derived.Shelf.Sort.Plain
import Derived.Shelf.Strings.Prefix
import Derived.Shelf.Strings.Fields
import Derived.Shelf.Strings.SplitShaped
import Derived.Shelf.Unicode.Latin
import Derived.Shelf.Strings.Runes
import Derived.Shelf.Strings.AsciiSet
import Derived.Shelf.Unicode.DecodeSlow
import Derived.Shelf.Unicode.Is16White
import Derived.Shelf.Unicode.IsSpaceAny
import Derived.Shelf.Unicode.Is16Any
import Derived.Shelf.Unicode.Is32Any
import Derived.Shelf.Unicode.ExclAny
import Derived.Shelf.Strings.BuilderCap
import Derived.Shelf.Slices.In.SortNone
import Derived.Test.YtoofficgclghoaaGreatDoorProg
import Derived.Recover
import Derived.Shelf.Strings.SlTrimAscii
import Derived.Lib.Repeat
import Derived.SliceStrings
import Derived.Laws.StructEq
import Derived.Laws.RangeAny
import Derived.Test.YtoofficgclghoaaGreatDoorMlengaipi
set_option linter.defProp false
set_option linter.unusedSimpArgs false
set_option linter.unusedVariables false
set_option maxRecDepth 20000
open Go.Proofs.Tryz (prog)
namespace Go.Proofs.YtoofficgclghoaaGreatDoor
section
namespace Eng
open Go.RowKit
theorem Er (b off n:Nat):(⟨b,off,none⟩:Addr).add n=⟨b,off+n,none⟩:=by unfold Addr.add;split<;>simp_all
def fOff (P:Program)(T:TypeId)(f:Nat):Option Nat:=
 match P.underlying T with
|some (.struct fs)=>match fs[f]? with
 |some fd=>match P.info? fd.type with
  |some i=>match i.size with
   |0=>none
   |_+1=>some fd.offset
  |none=>none
 |none=>none
|_=>none
def elB (P:Program)(E:TypeId)(sz bytes:Nat):Bool:=
 match P.info? E with
|some i=>Nat.beq i.size sz&&Nat.beq i.bytes bytes&&(match i.zero with|some z=>Nat.beq z.cells.size sz|none=>false)
|none=>false
theorem En {P:Program}{E:TypeId}{sz bytes:Nat}(h:elB P E sz bytes=true):∃i z,P.info? E=some i∧i.zero=some z∧i.size=sz∧i.bytes=bytes∧z.cells.size=sz:=by
 unfold elB at h;split at h
 ·rename_i i hi
  simp only[Bool.and_eq_true,Nat.beq_eq] at h;obtain⟨⟨h1,h2⟩,h3⟩:=h;split at h3
  ·rename_i z hz;exact⟨i,z,hi,hz,h1,h2,by simpa using h3⟩
  ·cases h3
 ·cases h
section
variable {S:Nat→Prop}{P:Program}{w:World}{PK:PKT}{K:VWP}
theorem aY {T:TypeId}{f b off o:Nat}(h:fOff P T f=some o):(mFA T (.pointer (some ⟨b,off,none⟩)) f).run P w=.ok (.value (.pointer (some ⟨b,off+o,none⟩))) w:=by
 unfold fOff at h;split at h
 ·rename_i fs hu
  split at h
  ·rename_i fd hfd
   split at h
   ·rename_i i hi
    cases hs:i.size with
   |zero=>rw[hs] at h;cases h
   |succ m=>
     rw[hs] at h;simp only[Option.some.injEq] at h;subst h;refine cK ?_;simp[Instr.fieldAt,run_underlying hu,hfd,Instr.sureAddr,fieldPlace,sizeOf,typeInfo,hi,hs,Er]
   ·cases h
  ·cases h
 ·cases h
theorem cF {T:TypeId}{f b off o:Nat}(h:fOff P T f=some o):DoX P (mFA T (.pointer (some ⟨b,off,none⟩)) f) w PK K=K (.pointer (some ⟨b,off+o,none⟩)) w:=aT (aY h)
theorem dT {a:Addr}:(mNil (.pointer (some a))).run P w=.ok (.value (.pointer (some a))) w:=by simp[mNil,execOp]
def bAnd (k:IntKind)(x y:Int):Int:=k.wrap ((BitVec.ofInt k.bits x &&& BitVec.ofInt k.bits y).toNat:Int)
def bOr (k:IntKind)(x y:Int):Int:=k.wrap ((BitVec.ofInt k.bits x ||| BitVec.ofInt k.bits y).toNat:Int)
theorem Wp {T:TypeId}{k:IntKind}{a b:Int}:(mBin .and T (.int k a) (.int k b)).run P w=.ok (.value (.int k (bAnd k a b))) w:=cK (by simp[binOp,Op.intBits,bAnd])
theorem r_or {T:TypeId}{k:IntKind}{a b:Int}:(mBin .or T (.int k a) (.int k b)).run P w=.ok (.value (.int k (bOr k a b))) w:=cK (by simp[binOp,Op.intBits,bOr])
theorem Wm {T:TypeId}{k k':IntKind}{a b:Int}(h:0≤b):(mBin .shr T (.int k a) (.int k' b)).run P w=.ok (.value (.int k (a.fdiv (2 ^ (min b.toNat k.bits))))) w:=cK (by
 have h':¬b < 0:=by omega
 simp[binOp,Op.shift,h'])
theorem VL {T:TypeId}{k k':IntKind}{a b:Int}(h:0≤b):(mBin .shl T (.int k a) (.int k' b)).run P w=.ok (.value (.int k (k.wrap (a*2 ^ (min b.toNat k.bits))))) w:=cK (by
 have h':¬b < 0:=by omega
 simp[binOp,Op.shift,h'])
theorem b_or {T:TypeId}{k:IntKind}{a b:Int}:DoX P (mBin .or T (.int k a) (.int k b)) w PK K=K (.int k (bOr k a b)) w:=aT r_or
theorem T9 {T:TypeId}{k k':IntKind}{a b:Int}(h:0≤b):DoX P (mBin .shl T (.int k a) (.int k' b)) w PK K=K (.int k (k.wrap (a*2 ^ (min b.toNat k.bits)))) w:=aT (VL h)
theorem nS {T:TypeId}{k:IntKind}{i:Int}{a:List UInt8}{c:UInt8}(h:P.underlying T=some .string)(h0:0≤i)(hc:a[i.toNat]?=some c):(mIx T (.string ⟨a.toArray⟩) (.int k i)).run P w=.ok (.value (.int .u8 (c.toNat:Int))) w:=by
 refine cK ?_;have e:(⟨a.toArray⟩:ByteArray)[i.toNat]?=some c:=by
  have hl:i.toNat < a.length:=(List.getElem?_eq_some_iff.1 hc).1;have h1:i.toNat < (⟨a.toArray⟩:ByteArray).size:=by rw[bO];exact hl
  rw[getElem?_pos (⟨a.toArray⟩:ByteArray) i.toNat h1];have h2:=(List.getElem?_eq_some_iff.1 hc).2;rw[←h2];rfl
 simp only[Instr.index,asIntOf,run_underlying h,h0,e];simp[h0,e,run_underlying h]
theorem VN {E:TypeId}{sz bytes:Nat}{T U:TypeId}{i:TypeInfo}{z:Value}(ht:P.underlying T=some (.slice E))(hi:P.info? E=some i)(hz:i.zero=some z)(hi1:i.size=sz)(hi2:i.bytes=bytes)(hz1:z.cells.size=sz)(hsz:0 < sz)
  {v v':Value} {w':World} {n m c:Nat} {xs news:List Value} {a:Addr} (hown:w.ownsRowF 0 E sz v n xs) (hl:news.length=m*sz) (hnews:∀j u,news[j]?=some u→w.cell? (a.add j)=some u) (h1:∀u∈news,u.oneCell'=true)
  (hmx:n+m≤9223372036854775807) (hb:(n+m)*bytes≤140737488355328) (hr:(Builtin.append_ #[T,T] U #[v,.slice (some a) m c]).run P w=.ok v' w') :
  ∀k,v'.ownBlock=some k→v.ownBlock=some k∨w.heap.size≤k:=by
 intro k hk;have hmx':n+m≤maxLen:=by simp only[maxLen];omega
 rcases hown.2 with ⟨rfl,rfl⟩|⟨g,cap,cur,fz,rfl,hbg,hg,hfz,hnc,hcm,hcs,htake⟩
 ·obtain⟨v2,w2,r1,r2,r3,r4⟩:=run_append_ownF (P:=P) w w.heap.size T U E i z sz bytes ht hi hz hi1 hi2 hz1 hsz (.slice none 0 0) 0 xs ⟨hown.1,.inl ⟨rfl,rfl⟩⟩ a m c news hl hnews h1 hmx' hb (Nat.le_refl _);rw[r1] at hr;cases hr;exact .inr (World.ownsRowF.lt r2 k hk).1
 ·subst hi1;subst hi2;by_cases hroom:n+m≤cap
  ·have hfit:n*i.size+news.length≤cur.size:=by rw[hl,hcs,←Nat.add_mul];exact Nat.mul_le_mul_right _ hroom
   rw[run_append_roomF (P:=P) w T U E i ht hi g n cap cur fz hg hfz a m c news hl hnews h1 hroom hfit] at hr;cases hr;exact .inl hk
  ·have holds:∀j u,xs[j]?=some u→w.cell? ((⟨g,0,none⟩:Addr).add j)=some u:=hown.cells (g:=g) rfl;rw[run_append_grow (P:=P) w T U E i z ht hi hz ⟨g,0,none⟩ n cap xs hown.1 holds a m c news hl hnews (by omega) (by omega) (growslice_fits (by omega) hb)] at hr;cases hr;simp only[Value.ownBlock,Option.some.injEq] at hk;exact .inr (by omega)
theorem AJ {T E U:TypeId}{cs:Array Bool}{v v2:Value}{sz bytes n m:Nat}{xs news:List Value}(ht:P.underlying T=some (.slice E))(he:elB P E sz bytes=true)(hsz:0 < sz)
  (hown:w.ownsRowF 0 E sz v n xs) (hs:Sl w v2 sz m news) (h1:∀u∈news,u.oneCell'=true) (hb:(n+m)*bytes≤140737488355328) (hb2:n+m≤140737488355328) :
  ∃v' w',(mB .append #[T,T] U cs #[v,v2]).run P w=.ok (.value v') w'∧Turn (.row E sz v n xs) (.row E sz v' (n+m) (xs++news)) w w':=by
 obtain⟨i,z,hi,hz,hi1,hi2,hz1⟩:=En he;obtain⟨hl,a,cap,rfl,hn,hc⟩:=hs;have hmx:n+m≤maxLen:=by simp only[maxLen];omega
 have fin:∀(a:Addr),(∀j u,news[j]?=some u→w.cell? (a.add j)=some u)→∃v' w',(mB .append #[T,T] U cs #[v,.slice (some a) m cap]).run P w=.ok (.value v') w'∧Turn (.row E sz v n xs) (.row E sz v' (n+m) (xs++news)) w w':=by
  intro a hh;obtain⟨v',w',r1,r2,r3,r4⟩:=run_append_ownF (P:=P) w 0 T U E i z sz bytes ht hi hz hi1 hi2 hz1 hsz v n xs hown a m cap news hl hh h1 hmx hb (Nat.zero_le _);refine⟨v',w',?_,Oz r3,r2,VN (P:=P) ht hi hz hi1 hi2 hz1 hsz hown hl hh h1 (by omega) hb r1⟩;simp[mB,builtin,r1]
 cases a with
|some p=>
  refine fin p fun j u hj=>?_;have hlt:j < news.length:=(List.getElem?_eq_some_iff.1 hj).1;have hm:0 < m:=by
   rcases Nat.eq_zero_or_pos m with h0|h0
   ·subst h0;simp at hl;rw[hl] at hlt;simp at hlt
   ·exact h0
  obtain⟨hsp,hcell⟩:=hc p rfl;have:=hsp hm;obtain⟨b,off,spot⟩:=p;simp only at this hcell;subst this;rw[Er];exact hcell j u hj
|none=>
  have h0:=hn rfl;subst h0;have hnil:news=[]:=List.eq_nil_of_length_eq_zero (by simpa using hl);subst hnil;refine⟨v,w,?_,by rw[List.append_nil];exact Turn.refl (e:=.row E sz v n xs) hown⟩;rcases hown.2 with ⟨rfl,rfl⟩|⟨g,cp,cur,fz,rfl,_,_,_,hnc,_⟩
  ·simp[mB,builtin,Builtin.append_,run_underlying ht,sizeOf,typeInfo,hi,Builtin.lenOf,Builtin.firstCells]
  ·simp[mB,builtin,Builtin.append_,run_underlying ht,sizeOf,typeInfo,hi,Builtin.lenOf,Builtin.firstCells,hnc,storeCells]
theorem EJ {w0:World}{L:List Ent}(i:Nat){T E U:TypeId}{cs:Array Bool}{v v2:Value}{sz bytes n m:Nat}{xs news:List Value}(ht:P.underlying T=some (.slice E))(he:elB P E sz bytes=true)(hsz:0 < sz)
  (ho:OwnS S w0 w L) (hi:L[i]?=some (.row E sz v n xs)) (hs:Sl w v2 sz m news) (h1:∀u∈news,u.oneCell'=true) (hb:(n+m)*bytes≤140737488355328) (hb2:n+m≤140737488355328)
  (k:∀v' w',OwnS S w0 w' (L.set i (.row E sz v' (n+m) (xs++news)))→K v' w'):DoX P (mB .append #[T,T] U cs #[v,v2]) w PK K:=by
 obtain⟨v',w',r,t⟩:=AJ (cs:=cs) (U:=U) ht he hsz (ho.at_ i hi) hs h1 hb hb2;exact tN r (k _ _ (ho.turn i hi t))
def roomy (v:Value):Prop:=∀a k,v≠.slice (some a) k 0
theorem EO:roomy (.slice none 0 0):=fun _ _ h=>by cases h
theorem roomy_row {E:TypeId}{sz:Nat}{v:Value}{n:Nat}{xs:List Value}(h:w.ownsRowF 0 E sz v n xs)(hn:0 < n):roomy v:=by
 intro a k hc;rcases h.2 with ⟨rfl,_⟩|⟨g,cap,cur,fz,rfl,hbg,hg,hfz,hnc,hcm,hcs,htake⟩
 ·cases hc
 ·injection hc with c1 c2 c3
  omega
theorem FX (l:List UInt8):Lib.strCells ⟨l.toArray⟩=bS l:=by
 simp[Lib.strCells,bS]
theorem CK {T U2 E U:TypeId}{cs:Array Bool}{v:Value}{n:Nat}{xs:List Value}{l:List UInt8}(ht:P.underlying T=some (.slice E))(hu:P.underlying U2=some .string)(he:elB P E 1 1=true)(h8:P.underlying E=some (.int .u8))
  (hz8:(P.info? E).bind (·.zero)=some (.int .u8 0))
  (hown:w.ownsRowF 0 E 1 v n xs) (hb2:n+l.length≤140737488355328) :
  ∃v' w',(mB .append #[T,U2] U cs #[v,.string ⟨l.toArray⟩]).run P w=.ok (.value v') w'∧Turn (.row E 1 v n xs) (.row E 1 v' (n+l.length) (xs++bS l)) w w'∧(roomy v→roomy v'):=by
 obtain⟨i,z,hi,hz,hi1,hi2,hz1⟩:=En he;have hz0:i.zero=some (.int .u8 0):=by rw[hi] at hz8;exact hz8
 have hsz:=bO l;have hmx:n+(⟨l.toArray⟩:ByteArray).size≤maxLen:=by rw[hsz];simp only[maxLen];omega
 obtain⟨v',w',r1,r2,r3,r4⟩:=Lib.run_append_own_stringF (P:=P) w 0 T U2 U E i ht hu hi hz0 hi1 hi2 v n xs hown ⟨l.toArray⟩ hmx (by rw[hsz];omega) (Nat.zero_le _);rw[FX,hsz] at r2;have hro:roomy v→roomy v':=by
  intro hv a k hc;rcases Nat.eq_zero_or_pos (n+l.length) with h0|h0
  ·rcases hown.2 with ⟨rfl,_⟩|⟨g,cap,cur,fz,rfl,hbg,hg,hfz,hnc,hcm,hcs,htake⟩
   ·have:=r4.2 ⟨rfl,by rw[hsz];omega⟩;rw[this] at hc;cases hc
   ·have hroom:n+(⟨l.toArray⟩:ByteArray).size≤cap:=by rw[hsz];omega
    rw[Lib.run_append_room_stringF (P:=P) w T U2 U E i ht hu hi hi1 g n cap cur fz hg (by simpa using hfz) ⟨l.toArray⟩ hroom (by simp at hcs;omega)] at r1
    injection r1 with r1a r1b
    rw[←r1a] at hc
    injection hc with c1 c2 c3
    exact hv ⟨g,0,none⟩ n (by rw[c3])
  ·exact roomy_row r2 h0 a k hc
 refine⟨v',w',by simp[mB,builtin,r1],⟨Oz r3,r2,?_⟩,hro⟩;intro k hk;rcases hown.2 with ⟨rfl,rfl⟩|⟨g,cap,cur,fz,rfl,hbg,hg,hfz,hnc,hcm,hcs,htake⟩
 ·obtain⟨v2,w2,q1,q2,q3,q4⟩:=Lib.run_append_own_stringF (P:=P) w w.heap.size T U2 U E i ht hu hi hz0 hi1 hi2 (.slice none 0 0) 0 xs ⟨hown.1,.inl ⟨rfl,rfl⟩⟩ ⟨l.toArray⟩ hmx (by rw[hsz];omega) (Nat.le_refl _);rw[q1] at r1;cases r1;exact .inr (World.ownsRowF.lt q2 k hk).1
 ·by_cases hroom:n+(⟨l.toArray⟩:ByteArray).size≤cap
  ·rw[Lib.run_append_room_stringF (P:=P) w T U2 U E i ht hu hi hi1 g n cap cur fz hg (by simpa using hfz) ⟨l.toArray⟩ hroom (by simp at hcs;omega)] at r1;cases r1;exact .inl hk
  ·have holds:∀j u,xs[j]?=some u→w.cell? ((⟨g,0,none⟩:Addr).add j)=some u:=hown.cells (g:=g) rfl;rw[Lib.run_append_grow_string (P:=P) w T U2 U E i (.int .u8 0) ht hu hi hz0 ⟨g,0,none⟩ n cap xs (by rw[hi1];simpa using hown.1) holds ⟨l.toArray⟩ (by omega) (by rw[hsz];omega) (by rw[hi2];exact growslice_fits (by omega) (by rw[hsz];omega))] at r1;cases r1;have hk':some w.heap.size=some k:=hk;cases hk';exact .inr (Nat.le_refl _)
theorem DG {w0:World}{L:List Ent}(i:Nat){T U2 E U:TypeId}{cs:Array Bool}{v:Value}{n:Nat}{xs:List Value}{l:List UInt8}(ht:P.underlying T=some (.slice E))(hu:P.underlying U2=some .string)(he:elB P E 1 1=true)(h8:P.underlying E=some (.int .u8))
  (hz8:(P.info? E).bind (·.zero)=some (.int .u8 0)) (ho:OwnS S w0 w L) (hi:L[i]?=some (.row E 1 v n xs)) (hb2:n+l.length≤140737488355328)
  (k:∀v' w',(roomy v→roomy v')→OwnS S w0 w' (L.set i (.row E 1 v' (n+l.length) (xs++bS l)))→K v' w'):DoX P (mB .append #[T,U2] U cs #[v,.string ⟨l.toArray⟩]) w PK K:=by
 obtain⟨v',w',r,t,hc⟩:=CK (cs:=cs) (U:=U) ht hu he h8 hz8 (ho.at_ i hi) hb2;exact tN r (k _ _ hc (ho.turn i hi t))
theorem OwnS.Az {w0:World}{L:List Ent}(ho:OwnS S w0 w L)(E:TypeId)(sz:Nat):OwnS S w0 w (.row E sz (.slice none 0 0) 0 []::L):=by
 refine⟨ho.grew,fun e he=>?_,.cons (fun f hf k hk=>by simp[Ent.row,Value.ownBlock] at hk) ho.apart⟩;rcases List.mem_cons.1 he with rfl|he
 ·exact⟨World.ownsRowF_nil w 0 E sz,fun k hk=>by simp[Ent.row,Value.ownBlock] at hk⟩
 ·exact ho.all e he
theorem OwnS.Dh {w0:World}{L:List Ent}(ho:OwnS S w0 w L)(i:Nat){T:TypeId}{sz:Nat}{v:Value}{n:Nat}{xs:List Value}(hi:L[i]?=some (.row T sz v n xs)):Sl w v sz n xs:=Sl.row (ho.at_ i hi)
theorem OwnS.Si {w0:World}{L:List Ent}{b:Nat}{cs:List Value}{E:TypeId}(ho:OwnS S w0 w (.cells b cs E::L))(sz n cap:Nat)(hl:cs.length=cap*sz)(hn:n≤cap)(hc:cap≤9223372036854775807) :
  OwnS S w0 w (.row E sz (.slice (some ⟨b,0,none⟩) n cap) n (cs.take (n*sz))::L):=by
 refine⟨ho.grew,fun e he=>?_,?_⟩
 ·rcases List.mem_cons.1 he with rfl|he
  ·refine⟨⟨by rw[List.length_take,hl,Nat.min_eq_left (Nat.mul_le_mul_right _ hn)],.inr ⟨b,cap,cs.toArray,(0,0),rfl,Nat.zero_le _,ho.at_ 0 rfl,Nat.zero_le _,hn,by simp only[maxLen];omega,by simpa using hl,by simp⟩⟩,fun k hk=>?_⟩;simp only[Ent.row,Value.ownBlock,Option.some.injEq] at hk;exact (ho.all (.cells b cs E) (by simp)).2 k hk.symm
  ·exact ho.all e (by simp[he])
 ·refine .cons (fun f hf k hk=>?_) (List.pairwise_cons.1 ho.apart).2;simp only[Ent.row,Value.ownBlock,Option.some.injEq] at hk;exact (List.pairwise_cons.1 ho.apart).1 f hf k hk.symm
theorem SP {w0:World}{L:List Ent}{T E:TypeId}{sz bytes c:Nat}{kl kc:IntKind}{x:Int}(hx:x=c)(ht:P.underlying T=some (.slice E))(he:elB P E sz bytes=true)(hb:bytes*c≤281474976710656)(hc:c≤281474976710656)(ho:OwnS S w0 w L)
  (k:∀v w',OwnS S w0 w' (.row E sz v 0 []::L)→K v w'):DoX P (Ri T (.int kl 0) (.int kc x)) w PK K:=by
 subst hx;obtain⟨i,z,hi,hz,hi1,hi2,hz1⟩:=En he;obtain⟨w',r1,r2,r3⟩:=run_make_own (P:=P) w w.heap.size T E i z sz ht hi hz hi1 kl kc c (by rw[hi2];exact hb) (by simp only[maxLen];omega) (Nat.le_refl _);refine tN (cK r1) (k _ _ (ho.add r3 (.row E sz (.slice (some ⟨w.heap.size,0,none⟩) 0 c) 0 []) ?_ (fun k hk=>?_)))
 ·have:=World.ownsRowF_of r2;refine⟨this.1,?_⟩;rcases this.2 with h|⟨g,cp,cur,fz,h1,h2,h3⟩
  ·exact .inl h
  ·exact .inr ⟨g,cp,cur,fz,h1,Nat.zero_le _,h3⟩
 ·have hk':some w.heap.size=some k:=hk;cases hk';exact Nat.le_refl _
def Ent.bld (T E:TypeId)(b:Nat)(v:Value)(l:List UInt8):Ent:=
 ⟨fun k=>k=b∨v.ownBlock=some k,
  fun w=>(∃p,(p=.pointer none∨p=.pointer (some ⟨b,0,none⟩))∧w.heap[b]?=some (.cells #[p,v] T (0,0)))∧w.ownsRowF 0 E 1 v l.length (bS l)∧v.ownBlock≠some b∧roomy v,
  fun {w w'} h k=>⟨by obtain⟨p,hp,hb⟩:=h.1;exact⟨p,hp,(k b (.inl rfl)).trans hb⟩,(Ent.row E 1 v l.length (bS l)).keep h.2.1 (fun j hj=>k j (.inr hj)),h.2.2⟩,
  fun {w} h k hk=>by
  rcases hk with rfl|hk
  ·obtain⟨p,hp,hb⟩:=h.1;exact jE hb
  ·exact (World.ownsRowF.lt h.2.1 k hk).2⟩
theorem OwnS.Rk {w0:World}{L:List Ent}{T E:TypeId}{b:Nat}{v:Value}{l:List UInt8}(ho:OwnS S w0 w (.bld T E b v l::L)) :
  ∃p,(p=.pointer none∨p=.pointer (some ⟨b,0,none⟩))∧roomy v∧OwnS S w0 w (.cells b [p,v] T::.row E 1 v l.length (bS l)::L):=by
 have hm:=ho.all (.bld T E b v l) (by simp);obtain⟨⟨p,hp,hb⟩,hr,hne,hcap⟩:=hm.1;refine⟨p,hp,hcap,ho.grew,fun e he=>?_,?_⟩
 ·rcases List.mem_cons.1 he with rfl|he
  ·exact⟨hb,fun k hk=>hm.2 k (.inl hk)⟩
  ·rcases List.mem_cons.1 he with rfl|he
   ·exact⟨hr,fun k hk=>hm.2 k (.inr hk)⟩
   ·exact ho.all e (by simp[he])
 ·obtain⟨h1,h2⟩:=List.pairwise_cons.1 ho.apart;refine .cons (fun f hf k hk hk'=>?_) (.cons (fun f hf k hk=>h1 f hf k (.inr hk)) h2);rcases List.mem_cons.1 hf with rfl|hf
  ·have hkb:k=b:=hk;rw[hkb] at hk';exact hne hk'
  ·exact h1 f hf k (.inl hk) hk'
theorem OwnS.B3 {w0:World}{L:List Ent}{T E:TypeId}{b n:Nat}{p v:Value}{l:List UInt8}(hp:p=.pointer none∨p=.pointer (some ⟨b,0,none⟩))(hcap:roomy v)(ho:OwnS S w0 w (.cells b [p,v] T::.row E 1 v n (bS l)::L)) :
  OwnS S w0 w (.bld T E b v l::L):=by
 have h0:=ho.all (.cells b [p,v] T) (by simp);have h1:=ho.all (.row E 1 v n (bS l)) (by simp);obtain⟨a1,a2⟩:=List.pairwise_cons.1 ho.apart;obtain⟨a3,a4⟩:=List.pairwise_cons.1 a2;have hn:n=l.length:=by have:=h1.1.1;rw[B5] at this;omega
 subst hn;refine⟨ho.grew,fun e he=>?_,.cons (fun f hf k hk hk'=>?_) a4⟩
 ·rcases List.mem_cons.1 he with rfl|he
  ·refine⟨⟨⟨p,hp,h0.1⟩,h1.1,fun hc=>a1 (.row E 1 v l.length (bS l)) (by simp) b rfl hc,hcap⟩,fun k hk=>?_⟩;rcases hk with hk|hk
   ·exact h0.2 k hk
   ·exact h1.2 k hk
  ·exact ho.all e (by simp[he])
 ·rcases hk with hk|hk
  ·exact a1 f (by simp[hf]) k hk hk'
  ·exact a3 f hf k hk hk'
theorem OwnS.swap {w0:World}{e f:Ent}{L:List Ent}(ho:OwnS S w0 w (e::f::L)):OwnS S w0 w (f::e::L):=by
 obtain⟨a1,a2⟩:=List.pairwise_cons.1 ho.apart;obtain⟨a3,a4⟩:=List.pairwise_cons.1 a2;exact⟨ho.grew,fun g hg=>ho.all g (by simp only[List.mem_cons] at hg ⊢;rcases hg with h|h|h<;>simp[h]),.cons (fun g hg k hk hk'=>by
  rcases List.mem_cons.1 hg with rfl|hg
  ·exact a1 f (by simp) k hk' hk
  ·exact a3 g hg k hk hk') (.cons (fun g hg k hk hk'=>a1 g (by simp[hg]) k hk hk') a4)⟩
theorem fI {w0:World}{L:List Ent}(i:Nat){f:Nat}{args:Array Value}{e:Ent}{R:Value→Ent→Prop}(ho:OwnS S w0 w L)(hi:L[i]?=some e)(h:Ret P f args w (fun v w'=>∃e',R v e'∧Turn e e' w w'))
  (k:∀v e' w',R v e'→OwnS S w0 w' (L.set i e')→K v w'):CallX P f args w PK K:=
 dV h fun v w' ⟨e',hr,ht⟩=>k v e' w' hr (ho.turn i hi ht)
theorem aS {w0:World}{L:List Ent}{f:Nat}{args:Array Value}{R:Value→Prop}(ho:OwnS S w0 w L)(h:Ret P f args w (fun v w'=>R v∧Below w.heap.size w w'))
  (k:∀v w',R v→OwnS S w0 w' L→K v w'):CallX P f args w PK K:=
 dV h fun v w' ⟨hr,hb⟩=>k v w' hr (ho.grow hb)
end
end Eng
end
section
open Eng
def cZ (t0:Value)(w:World)(K:Ending→World→Prop):Prop:=
 DoX prog (mNil t0) w (pk K) fun t3 w=>
 DoX prog (mFA 68 t3 0) w (pk K) fun t4 w=>
 DoX prog (aB 65 t4) w (pk K) fun t5 w=>
 DoX prog (mEq .eql 65 (.tmp 5) (.const (.pointer none)) t5 (.pointer none)) w (pk K) fun t6 w=>
 IfX t6 (DoX prog (cP 65 120 t0) w (pk K) fun t9 w=>
 DoX prog (jI (.func (.func 89) #[] #[]) #[t9]) w (pk K) fun t10 w=>
 DoX prog (cP 120 65 t10) w (pk K) fun t11 w=>
 DoX prog (mNil t0) w (pk K) fun t12 w=>
 DoX prog (mFA 68 t12 0) w (pk K) fun t13 w=>
 DoX prog (aD 65 t13 t11) w (pk K) fun _ w=>
 K (.returned (.tuple #[])) w) (DoX prog (mNil t0) w (pk K) fun t15 w=>
 DoX prog (mFA 68 t15 0) w (pk K) fun t16 w=>
 DoX prog (aB 65 t16) w (pk K) fun t17 w=>
 DoX prog (mEq .neq 65 (.tmp 17) (.tmp 18) t17 t0) w (pk K) fun t19 w=>
 IfX t19 (False) (K (.returned (.tuple #[])) w))
theorem lV (t0:Value)(w:World)(K:Ending→World→Prop):wpX prog 20 [] [] none (aK Tryz.f52) (topQ prog [] K) (aJ [t0]) [] w=cZ t0 w K:=by kernel_rfl
theorem lW {t0:Value}{w:World}{K:Ending→World→Prop}(h:cZ t0 w K):Calls prog 52 #[t0] w K:=
 aA Tryz.func52 rfl rfl rfl rfl (Eq.mpr (lV t0 w K) h)
def dB (t0 t1:Value)(w:World)(K:Ending→World→Prop):Prop:=
 CallX prog 52 #[t0] w (pk K) fun t6 w=>
 DoX prog (mNil t0) w (pk K) fun t9 w=>
 DoX prog (mFA 68 t9 1) w (pk K) fun t10 w=>
 DoX prog (aB 66 t10) w (pk K) fun t11 w=>
 DoX prog (aP 66 1 #[(0,t1)]) w (pk K) fun t13 w=>
 DoX prog (mB .append #[66,66] 66 #[false,false] #[t11,t13]) w (pk K) fun t14 w=>
 DoX prog (mNil t0) w (pk K) fun t15 w=>
 DoX prog (mFA 68 t15 1) w (pk K) fun t16 w=>
 DoX prog (aD 66 t16 t14) w (pk K) fun _ w=>
 K (.returned .nilIface) w
theorem lI (t0 t1:Value)(w:World)(K:Ending→World→Prop):wpX prog 17 [] [] none (aK Tryz.f54) (topQ prog [.tmp 4] K) (aJ [t0,t1]) [] w=dB t0 t1 w K:=by kernel_rfl
theorem mT {t0 t1:Value}{w:World}{K:Ending→World→Prop}(h:dB t0 t1 w K):Calls prog 54 #[t0,t1] w K:=
 aA Tryz.func54 rfl rfl rfl rfl (Eq.mpr (lI t0 t1 w K) h)
def cL (t0 t1:Value)(w:World)(K:Ending→World→Prop):Prop:=
 CallX prog 52 #[t0] w (pk K) fun t7 w=>
 DoX prog (mNil t0) w (pk K) fun t10 w=>
 DoX prog (mFA 68 t10 1) w (pk K) fun t11 w=>
 DoX prog (aB 66 t11) w (pk K) fun t12 w=>
 DoX prog (mB .append #[66,9] 66 #[false,false] #[t12,t1]) w (pk K) fun t14 w=>
 DoX prog (mNil t0) w (pk K) fun t15 w=>
 DoX prog (mFA 68 t15 1) w (pk K) fun t16 w=>
 DoX prog (aD 66 t16 t14) w (pk K) fun _ w=>
 DoX prog (mB .len #[9] 3 #[false] #[t1]) w (pk K) fun t18 w=>
 K (.returned (.tuple #[t18,.nilIface])) w
theorem kD (t0 t1:Value)(w:World)(K:Ending→World→Prop):wpX prog 19 [] [] none (aK Tryz.f27) (topQ prog [.tmp 4,.tmp 5] K) (aJ [t0,t1]) [] w=cL t0 t1 w K:=by kernel_rfl
theorem kB {t0 t1:Value}{w:World}{K:Ending→World→Prop}(h:cL t0 t1 w K):Calls prog 27 #[t0,t1] w K:=
 aA Tryz.func27 rfl rfl rfl rfl (Eq.mpr (kD t0 t1 w K) h)
def dO (t0:Value)(w:World)(K:Ending→World→Prop):Prop:=
 QuietX w (fun C1=>
 QDo prog C1 (mNil t0) fun t4=>
 QDo prog C1 (mFA 68 t4 1) fun t5=>
 QDo prog C1 (aB 66 t5) fun t6=>
 QDo prog C1 (mB .unsafeSliceData #[66] 98 #[false] #[t6]) fun t7=>
 QDo prog C1 (mNil t0) fun t9=>
 QDo prog C1 (mFA 68 t9 1) fun t10=>
 QDo prog C1 (aB 66 t10) fun t11=>
 QDo prog C1 (mB .len #[66] 3 #[false] #[t11]) fun t12=>
 ∀w,C1 w →
 DoX prog (mB .unsafeString #[98,3] 9 #[false,false] #[t7,t12]) w (pk K) fun t13 w=>
 K (.returned t13) w)
theorem oT (t0:Value)(w:World)(K:Ending→World→Prop):wpX prog 14 [] [] none (aK Tryz.f30) (topQ prog [.tmp 2] K) (aJ [t0]) [] w=dO t0 w K:=by kernel_rfl
theorem pI {t0:Value}{w:World}{K:Ending→World→Prop}(h:dO t0 w K):Calls prog 30 #[t0] w K:=
 aA Tryz.func30 rfl rfl rfl rfl (Eq.mpr (oT t0 w K) h)
end
end Go.Proofs.YtoofficgclghoaaGreatDoor
namespace Go.Proofs
open Go.Shelf
open Go.RowKit in
open Go.RowKit in
open Go.RowKit in
open Go.RowKit in
def Tryz.E5:Go.Shelf.Ren:=⟨fun|165=>130|240=>52|241=>157|276=>89|277=>183|n=>n,fun|70=>65|3=>3|0=>0|4=>4|9=>9|20=>20|72=>68|37=>66|164=>120|5=>5|n=>n,fun|n=>n⟩
theorem Tryz.Tp:Go.Proofs.Lays.n165 prog Tryz.E5:={
 mixed:=by kernel_rfl
 f165:=Tryz.func130.trans (congrArg some (by kernel_rfl))
 f240:=Tryz.func52.trans (congrArg some (by kernel_rfl))
 f241:=Tryz.func157.trans (congrArg some (by kernel_rfl))
 f276:=Tryz.func89.trans (congrArg some (by kernel_rfl))
 f277:=Tryz.func183.trans (congrArg some (by kernel_rfl))
 t0:=Tryz.underlying0
 a0:=Tryz.isAgg0
 z0:=Tryz.sizeOf0
 v0:=Tryz.zeroValue0
 t3:=Tryz.underlying3
 a3:=Tryz.isAgg3
 z3:=Tryz.sizeOf3
 v3:=Tryz.zeroValue3
 t4:=Tryz.underlying4
 a4:=Tryz.isAgg4
 z4:=Tryz.sizeOf4
 v4:=Tryz.zeroValue4
 t9:=Tryz.underlying9
 a9:=Tryz.isAgg9
 z9:=Tryz.sizeOf9
 v9:=Tryz.zeroValue9
 t20:=Tryz.underlying20
 a20:=Tryz.isAgg20
 z20:=Tryz.sizeOf20
 v20:=Tryz.zeroValue20
 t37:=Tryz.underlying66
 a37:=Tryz.isAgg66
 z37:=Tryz.sizeOf66
 v37:=Tryz.zeroValue66
 t70:=Tryz.underlying65
 a70:=Tryz.isAgg65
 z70:=Tryz.sizeOf65
 v70:=Tryz.zeroValue65
 t72:=Tryz.underlying68
 a72:=Tryz.isAgg68
 z72:=Tryz.sizeOf68
 v72:=Tryz.zeroValue68
 t164:=Tryz.underlying120
 a164:=Tryz.isAgg120
 z164:=Tryz.sizeOf120
 v164:=Tryz.zeroValue120 }
theorem Tryz.Cr:Builder.Extra prog Tryz.E5:={
 sizeBuilder:=by kernel_rfl
 liesBuilder:=by kernel_rfl
 t5:=Tryz.underlying5
 a5:=Tryz.isAgg5
 z5:=Tryz.sizeOf5
 v5:=Tryz.zeroValue5
 infoByte:=by kernel_rfl
 cellsByte:=by kernel_rfl
 sizeByte:=by kernel_rfl
 neB5:=by decide }
open Go.RowKit in
open Go.RowKit in
open Go.RowKit in
def Tryz.LH:Go.Shelf.Ren:=⟨fun|161=>163|231=>187|227=>188|233=>189|235=>190|228=>213|197=>214|151=>215|260=>228|152=>229|137=>92|119=>239|224=>232|225=>231|217=>129|266=>156|n=>n,fun|9=>9|4=>4|3=>3|5=>5|117=>213|116=>212|0=>0|124=>216|105=>232|21=>21|119=>101|46=>161|139=>255|138=>254|n=>n,fun|3=>4|4=>5|n=>n⟩
theorem Tryz.Ud:Go.Proofs.Lays.n161 prog Tryz.LH:={
 mixed:=by kernel_rfl
 f119:=Tryz.func239.trans (congrArg some (by kernel_rfl))
 f137:=Tryz.func92.trans (congrArg some (by kernel_rfl))
 f151:=Tryz.func215.trans (congrArg some (by kernel_rfl))
 f152:=Tryz.func229.trans (congrArg some (by kernel_rfl))
 f161:=Tryz.func163.trans (congrArg some (by kernel_rfl))
 f197:=Tryz.func214.trans (congrArg some (by kernel_rfl))
 f217:=Tryz.func129.trans (congrArg some (by kernel_rfl))
 f224:=Tryz.func232.trans (congrArg some (by kernel_rfl))
 f225:=Tryz.func231.trans (congrArg some (by kernel_rfl))
 f227:=Tryz.func188.trans (congrArg some (by kernel_rfl))
 f228:=Tryz.func213.trans (congrArg some (by kernel_rfl))
 f231:=Tryz.func187.trans (congrArg some (by kernel_rfl))
 f233:=Tryz.func189.trans (congrArg some (by kernel_rfl))
 f235:=Tryz.func190.trans (congrArg some (by kernel_rfl))
 f260:=Tryz.func228.trans (congrArg some (by kernel_rfl))
 f266:=Tryz.func156.trans (congrArg some (by kernel_rfl))
 t0:=Tryz.underlying0
 a0:=Tryz.isAgg0
 z0:=Tryz.sizeOf0
 v0:=Tryz.zeroValue0
 t3:=Tryz.underlying3
 a3:=Tryz.isAgg3
 z3:=Tryz.sizeOf3
 v3:=Tryz.zeroValue3
 t4:=Tryz.underlying4
 a4:=Tryz.isAgg4
 z4:=Tryz.sizeOf4
 v4:=Tryz.zeroValue4
 t5:=Tryz.underlying5
 a5:=Tryz.isAgg5
 z5:=Tryz.sizeOf5
 v5:=Tryz.zeroValue5
 t9:=Tryz.underlying9
 a9:=Tryz.isAgg9
 z9:=Tryz.sizeOf9
 v9:=Tryz.zeroValue9
 t21:=Tryz.underlying21
 a21:=Tryz.isAgg21
 z21:=Tryz.sizeOf21
 v21:=Tryz.zeroValue21
 t46:=Tryz.underlying161
 a46:=Tryz.isAgg161
 z46:=Tryz.sizeOf161
 v46:=Tryz.zeroValue161
 t105:=Tryz.underlying232
 a105:=Tryz.isAgg232
 z105:=Tryz.sizeOf232
 v105:=Tryz.zeroValue232
 t116:=Tryz.underlying212
 a116:=Tryz.isAgg212
 z116:=Tryz.sizeOf212
 t117:=Tryz.underlying213
 a117:=Tryz.isAgg213
 z117:=Tryz.sizeOf213
 v117:=Tryz.zeroValue213
 t119:=Tryz.underlying101
 a119:=Tryz.isAgg101
 z119:=Tryz.sizeOf101
 t124:=Tryz.underlying216
 a124:=Tryz.isAgg216
 z124:=Tryz.sizeOf216
 v124:=Tryz.zeroValue216
 t138:=Tryz.underlying254
 a138:=Tryz.isAgg254
 z138:=Tryz.sizeOf254
 v138:=Tryz.zeroValue254
 t139:=Tryz.underlying255
 a139:=Tryz.isAgg255
 z139:=Tryz.sizeOf255
 v139:=Tryz.zeroValue255
 g3:=by kernel_rfl
 g4:=by kernel_rfl }
open Go.RowKit in
def Tryz.Lr:Go.Shelf.Ren:=⟨fun|162=>169|232=>191|227=>188|234=>192|236=>193|228=>213|271=>216|151=>215|120=>230|197=>214|152=>229|260=>228|137=>92|119=>239|224=>232|225=>231|217=>129|266=>156|n=>n,fun|9=>9|4=>4|3=>3|5=>5|117=>213|116=>212|0=>0|124=>216|21=>21|105=>232|46=>161|119=>101|139=>255|138=>254|n=>n,fun|3=>4|4=>5|n=>n⟩
theorem Tryz.Te:Go.Proofs.Lays.n162 prog Tryz.Lr:={
 mixed:=by kernel_rfl
 f119:=Tryz.func239.trans (congrArg some (by kernel_rfl))
 f120:=Tryz.func230.trans (congrArg some (by kernel_rfl))
 f137:=Tryz.func92.trans (congrArg some (by kernel_rfl))
 f151:=Tryz.func215.trans (congrArg some (by kernel_rfl))
 f152:=Tryz.func229.trans (congrArg some (by kernel_rfl))
 f162:=Tryz.func169.trans (congrArg some (by kernel_rfl))
 f197:=Tryz.func214.trans (congrArg some (by kernel_rfl))
 f217:=Tryz.func129.trans (congrArg some (by kernel_rfl))
 f224:=Tryz.func232.trans (congrArg some (by kernel_rfl))
 f225:=Tryz.func231.trans (congrArg some (by kernel_rfl))
 f227:=Tryz.func188.trans (congrArg some (by kernel_rfl))
 f228:=Tryz.func213.trans (congrArg some (by kernel_rfl))
 f232:=Tryz.func191.trans (congrArg some (by kernel_rfl))
 f234:=Tryz.func192.trans (congrArg some (by kernel_rfl))
 f236:=Tryz.func193.trans (congrArg some (by kernel_rfl))
 f260:=Tryz.func228.trans (congrArg some (by kernel_rfl))
 f266:=Tryz.func156.trans (congrArg some (by kernel_rfl))
 f271:=Tryz.func216.trans (congrArg some (by kernel_rfl))
 t0:=Tryz.underlying0
 a0:=Tryz.isAgg0
 z0:=Tryz.sizeOf0
 v0:=Tryz.zeroValue0
 t3:=Tryz.underlying3
 a3:=Tryz.isAgg3
 z3:=Tryz.sizeOf3
 v3:=Tryz.zeroValue3
 t4:=Tryz.underlying4
 a4:=Tryz.isAgg4
 z4:=Tryz.sizeOf4
 v4:=Tryz.zeroValue4
 t5:=Tryz.underlying5
 a5:=Tryz.isAgg5
 z5:=Tryz.sizeOf5
 v5:=Tryz.zeroValue5
 t9:=Tryz.underlying9
 a9:=Tryz.isAgg9
 z9:=Tryz.sizeOf9
 v9:=Tryz.zeroValue9
 t21:=Tryz.underlying21
 a21:=Tryz.isAgg21
 z21:=Tryz.sizeOf21
 v21:=Tryz.zeroValue21
 t46:=Tryz.underlying161
 a46:=Tryz.isAgg161
 z46:=Tryz.sizeOf161
 v46:=Tryz.zeroValue161
 t105:=Tryz.underlying232
 a105:=Tryz.isAgg232
 z105:=Tryz.sizeOf232
 v105:=Tryz.zeroValue232
 t116:=Tryz.underlying212
 a116:=Tryz.isAgg212
 z116:=Tryz.sizeOf212
 t117:=Tryz.underlying213
 a117:=Tryz.isAgg213
 z117:=Tryz.sizeOf213
 v117:=Tryz.zeroValue213
 t119:=Tryz.underlying101
 a119:=Tryz.isAgg101
 z119:=Tryz.sizeOf101
 t124:=Tryz.underlying216
 a124:=Tryz.isAgg216
 z124:=Tryz.sizeOf216
 v124:=Tryz.zeroValue216
 t138:=Tryz.underlying254
 a138:=Tryz.isAgg254
 z138:=Tryz.sizeOf254
 v138:=Tryz.zeroValue254
 t139:=Tryz.underlying255
 a139:=Tryz.isAgg255
 z139:=Tryz.sizeOf255
 v139:=Tryz.zeroValue255
 g3:=by kernel_rfl
 g4:=by kernel_rfl }
open Go.RowKit in
theorem Tryz.strings_TrimRight_one (s:ByteArray)(c:UInt8)(hc:c.toNat < 128)(w:World)(hs:s.size≤9223372036854775807) :
  Calls prog 169 #[.string s,.string ⟨#[c]⟩] w fun e w'=>e=.returned (.string ⟨(Lib.trimRightB s.data.toList c).toArray⟩)∧w'=w:=Any.strings_TrimRight_one Tryz.Te s c hc w hs
def Tryz.LB:Go.Shelf.Ren:=⟨fun|160=>164|232=>191|231=>187|227=>188|234=>192|233=>189|236=>193|235=>190|228=>213|271=>216|151=>215|197=>214|120=>230|152=>229|260=>228|137=>92|119=>239|224=>232|225=>231|217=>129|266=>156|n=>n,fun|9=>9|4=>4|3=>3|5=>5|117=>213|116=>212|0=>0|124=>216|21=>21|105=>232|46=>161|119=>101|139=>255|138=>254|n=>n,fun|3=>4|4=>5|n=>n⟩
theorem Tryz.T4:Go.Proofs.Lays.n160 prog Tryz.LB:={
 mixed:=by kernel_rfl
 f119:=Tryz.func239.trans (congrArg some (by kernel_rfl))
 f120:=Tryz.func230.trans (congrArg some (by kernel_rfl))
 f137:=Tryz.func92.trans (congrArg some (by kernel_rfl))
 f151:=Tryz.func215.trans (congrArg some (by kernel_rfl))
 f152:=Tryz.func229.trans (congrArg some (by kernel_rfl))
 f160:=Tryz.func164.trans (congrArg some (by kernel_rfl))
 f197:=Tryz.func214.trans (congrArg some (by kernel_rfl))
 f217:=Tryz.func129.trans (congrArg some (by kernel_rfl))
 f224:=Tryz.func232.trans (congrArg some (by kernel_rfl))
 f225:=Tryz.func231.trans (congrArg some (by kernel_rfl))
 f227:=Tryz.func188.trans (congrArg some (by kernel_rfl))
 f228:=Tryz.func213.trans (congrArg some (by kernel_rfl))
 f231:=Tryz.func187.trans (congrArg some (by kernel_rfl))
 f232:=Tryz.func191.trans (congrArg some (by kernel_rfl))
 f233:=Tryz.func189.trans (congrArg some (by kernel_rfl))
 f234:=Tryz.func192.trans (congrArg some (by kernel_rfl))
 f235:=Tryz.func190.trans (congrArg some (by kernel_rfl))
 f236:=Tryz.func193.trans (congrArg some (by kernel_rfl))
 f260:=Tryz.func228.trans (congrArg some (by kernel_rfl))
 f266:=Tryz.func156.trans (congrArg some (by kernel_rfl))
 f271:=Tryz.func216.trans (congrArg some (by kernel_rfl))
 t0:=Tryz.underlying0
 a0:=Tryz.isAgg0
 z0:=Tryz.sizeOf0
 v0:=Tryz.zeroValue0
 t3:=Tryz.underlying3
 a3:=Tryz.isAgg3
 z3:=Tryz.sizeOf3
 v3:=Tryz.zeroValue3
 t4:=Tryz.underlying4
 a4:=Tryz.isAgg4
 z4:=Tryz.sizeOf4
 v4:=Tryz.zeroValue4
 t5:=Tryz.underlying5
 a5:=Tryz.isAgg5
 z5:=Tryz.sizeOf5
 v5:=Tryz.zeroValue5
 t9:=Tryz.underlying9
 a9:=Tryz.isAgg9
 z9:=Tryz.sizeOf9
 v9:=Tryz.zeroValue9
 t21:=Tryz.underlying21
 a21:=Tryz.isAgg21
 z21:=Tryz.sizeOf21
 v21:=Tryz.zeroValue21
 t46:=Tryz.underlying161
 a46:=Tryz.isAgg161
 z46:=Tryz.sizeOf161
 v46:=Tryz.zeroValue161
 t105:=Tryz.underlying232
 a105:=Tryz.isAgg232
 z105:=Tryz.sizeOf232
 v105:=Tryz.zeroValue232
 t116:=Tryz.underlying212
 a116:=Tryz.isAgg212
 z116:=Tryz.sizeOf212
 t117:=Tryz.underlying213
 a117:=Tryz.isAgg213
 z117:=Tryz.sizeOf213
 v117:=Tryz.zeroValue213
 t119:=Tryz.underlying101
 a119:=Tryz.isAgg101
 z119:=Tryz.sizeOf101
 t124:=Tryz.underlying216
 a124:=Tryz.isAgg216
 z124:=Tryz.sizeOf216
 v124:=Tryz.zeroValue216
 t138:=Tryz.underlying254
 a138:=Tryz.isAgg254
 z138:=Tryz.sizeOf254
 v138:=Tryz.zeroValue254
 t139:=Tryz.underlying255
 a139:=Tryz.isAgg255
 z139:=Tryz.sizeOf255
 v139:=Tryz.zeroValue255
 g3:=by kernel_rfl
 g4:=by kernel_rfl }
open Go.RowKit in
def Tryz.KH:Go.Shelf.Ren:=⟨fun|137=>92|217=>129|266=>156|n=>n,fun|9=>9|5=>5|3=>3|n=>n,fun|n=>n⟩
theorem Tryz.T6:Go.Proofs.Lays.n137 prog Tryz.KH:={
 mixed:=by kernel_rfl
 f137:=Tryz.func92.trans (congrArg some (by kernel_rfl))
 f217:=Tryz.func129.trans (congrArg some (by kernel_rfl))
 f266:=Tryz.func156.trans (congrArg some (by kernel_rfl))
 t3:=Tryz.underlying3
 a3:=Tryz.isAgg3
 z3:=Tryz.sizeOf3
 v3:=Tryz.zeroValue3
 t5:=Tryz.underlying5
 a5:=Tryz.isAgg5
 z5:=Tryz.sizeOf5
 v5:=Tryz.zeroValue5
 t9:=Tryz.underlying9
 a9:=Tryz.isAgg9
 z9:=Tryz.sizeOf9
 v9:=Tryz.zeroValue9 }
open Go.RowKit in
theorem Tryz.strings_IndexByte (s:ByteArray)(c:Int)(w:World) :
  Calls prog 92 #[.string s,.int .u8 c] w fun e w'=>e=.returned (.int .i64 (Lib.indexByte s.data.toList c.toNat.toUInt8))∧w'=w:=Any.strings_IndexByte Tryz.T6 s c w
open Go.RowKit in
open Go.RowKit in
open Go.RowKit in
open Go.RowKit in
open Go.RowKit in
open Go.RowKit in
open Go.RowKit in
open Go.RowKit in
theorem Tryz.Builder_Grow_fresh_cap (B b n:Nat)(w:World)(hB:B≤b)(hbk:w.heap[b]?=some (.cells #[.pointer none,.slice none 0 0] 68 (0,0)))(hBw:B≤w.heap.size)(hn:n≤281474976710656) :
  Calls prog 130 #[.pointer (some ⟨b,0,none⟩),.int .i64 n] w fun e w'=>e=.returned (.tuple #[])∧(Lib.BuilderAt 68 5 B b (.pointer (some ⟨b,0,none⟩)) [] w'∧Below B w w')∧∃p cap,w'.cell? ⟨b,1,none⟩=some (.slice p 0 cap)∧n≤cap:=Any.Builder_Grow_fresh_cap Tryz.Tp Tryz.Cr B b n w hB hbk hBw hn
open Go.Lib in
open Go.Lib in
open Go.Lib in
open Go.Lib in
open Go.RowKit Go.Sort Go.Lib in
open Go.RowKit Go.Sort Go.Lib in
open Go.RowKit Go.Sort Go.Lib in
def Tryz.Kj:Go.Shelf.Ren:=⟨fun|173=>184|246=>211|283=>224|284=>225|285=>226|286=>227|129=>207|317=>235|318=>236|319=>237|320=>238|337=>241|338=>242|n=>n,fun|2=>2|3=>3|9=>9|4=>4|171=>242|0=>0|53=>228|37=>66|5=>5|173=>244|212=>251|51=>132|20=>20|213=>252|46=>161|232=>258|233=>259|n=>n,fun|17=>3|18=>6|19=>7|n=>n⟩
theorem Tryz.RS:Go.Proofs.LaysM.n173 prog Tryz.Kj:={
 mixed:=by kernel_rfl
 f129:=Tryz.func207.trans (congrArg some (by kernel_rfl))
 f173:=Tryz.func184.trans (congrArg some (by kernel_rfl))
 f246:=Tryz.func211.trans (congrArg some (by kernel_rfl))
 f283:=Tryz.func224.trans (congrArg some (by kernel_rfl))
 f284:=Tryz.func225.trans (congrArg some (by kernel_rfl))
 f285:=Tryz.func226.trans (congrArg some (by kernel_rfl))
 f286:=Tryz.func227.trans (congrArg some (by kernel_rfl))
 f317:=Tryz.func235.trans (congrArg some (by kernel_rfl))
 f318:=Tryz.func236.trans (congrArg some (by kernel_rfl))
 f319:=Tryz.func237.trans (congrArg some (by kernel_rfl))
 f320:=Tryz.func238.trans (congrArg some (by kernel_rfl))
 f337:=Tryz.func241.trans (congrArg some (by kernel_rfl))
 f338:=Tryz.func242.trans (congrArg some (by kernel_rfl))
 t0:=Tryz.underlying0
 a0:=Tryz.isAgg0
 z0:=Tryz.sizeOf0
 v0:=Tryz.zeroValue0
 t2:=Tryz.underlying2
 a2:=Tryz.isAgg2
 z2:=Tryz.sizeOf2
 v2:=Tryz.zeroValue2
 t3:=Tryz.underlying3
 a3:=Tryz.isAgg3
 z3:=Tryz.sizeOf3
 v3:=Tryz.zeroValue3
 t4:=Tryz.underlying4
 a4:=Tryz.isAgg4
 z4:=Tryz.sizeOf4
 v4:=Tryz.zeroValue4
 t5:=Tryz.underlying5
 a5:=Tryz.isAgg5
 z5:=Tryz.sizeOf5
 v5:=Tryz.zeroValue5
 t9:=Tryz.underlying9
 a9:=Tryz.isAgg9
 z9:=Tryz.sizeOf9
 v9:=Tryz.zeroValue9
 t20:=Tryz.underlying20
 a20:=Tryz.isAgg20
 z20:=Tryz.sizeOf20
 v20:=Tryz.zeroValue20
 t37:=Tryz.underlying66
 a37:=Tryz.isAgg66
 z37:=Tryz.sizeOf66
 v37:=Tryz.zeroValue66
 t46:=Tryz.underlying161
 a46:=Tryz.isAgg161
 z46:=Tryz.sizeOf161
 v46:=Tryz.zeroValue161
 t51:=Tryz.underlying132
 a51:=Tryz.isAgg132
 z51:=Tryz.sizeOf132
 v51:=Tryz.zeroValue132
 t53:=Tryz.underlying228
 a53:=Tryz.isAgg228
 z53:=Tryz.sizeOf228
 v53:=Tryz.zeroValue228
 t171:=Tryz.underlying242
 a171:=Tryz.isAgg242
 z171:=Tryz.sizeOf242
 v171:=Tryz.zeroValue242
 t173:=Tryz.underlying244
 a173:=Tryz.isAgg244
 z173:=Tryz.sizeOf244
 v173:=Tryz.zeroValue244
 t212:=Tryz.underlying251
 a212:=Tryz.isAgg251
 z212:=Tryz.sizeOf251
 v212:=Tryz.zeroValue251
 t213:=Tryz.underlying252
 a213:=Tryz.isAgg252
 z213:=Tryz.sizeOf252
 t232:=Tryz.underlying258
 a232:=Tryz.isAgg258
 z232:=Tryz.sizeOf258
 v232:=Tryz.zeroValue258
 t233:=Tryz.underlying259
 a233:=Tryz.isAgg259
 z233:=Tryz.sizeOf259
 v233:=Tryz.zeroValue259
 g17:=by kernel_rfl
 g18:=by kernel_rfl
 g19:=by kernel_rfl
 i0:=by kernel_rfl
 i2:=by kernel_rfl
 i3:=by kernel_rfl
 i4:=by kernel_rfl
 i5:=by kernel_rfl
 i9:=by kernel_rfl
 i20:=by kernel_rfl
 i37:=by kernel_rfl
 i46:=by kernel_rfl
 i51:=by kernel_rfl
 i53:=by kernel_rfl
 i171:=by kernel_rfl
 i173:=by kernel_rfl
 i212:=by kernel_rfl
 i232:=by kernel_rfl
 i233:=by kernel_rfl
 m17:=by kernel_rfl
 m18:=by kernel_rfl
 m19:=by kernel_rfl }
open Go.RowKit Go.Sort Go.Lib in
theorem Tryz.strconv_FormatInt_10 (n:Int)(h0:-9223372036854775808≤n)(h1:n≤9223372036854775807)(w:World)(htab:Lib.TabIs prog w "internal/strconv.uint64pow10" .u64 Lib.pow10Tab) :
  Calls prog 184 #[.int .i64 n,.int .i64 10] w fun e w'=>e=.returned (.string ⟨(Lib.itoa n).toArray⟩)∧∃k os,w'=grow (w.drewN k) os:=Any.strconv_FormatInt_10 Tryz.RS n h0 h1 w htab
open Go.RowKit Go.Sort Go.Lib in
open Go.RowKit Go.Lib in
open Go.RowKit Go.Lib in
open Go.RowKit Go.Lib in
def Tryz.Lk:Go.Shelf.Ren:=⟨fun|219=>217|217=>129|225=>231|224=>232|267=>233|266=>156|314=>240|n=>n,fun|9=>9|3=>3|4=>4|5=>5|46=>161|146=>256|51=>132|n=>n,fun|1=>2|n=>n⟩
theorem Tryz.Tf:Go.Proofs.Lays.n219 prog Tryz.Lk:={
 mixed:=by kernel_rfl
 f217:=Tryz.func129.trans (congrArg some (by kernel_rfl))
 f219:=Tryz.func217.trans (congrArg some (by kernel_rfl))
 f224:=Tryz.func232.trans (congrArg some (by kernel_rfl))
 f225:=Tryz.func231.trans (congrArg some (by kernel_rfl))
 f266:=Tryz.func156.trans (congrArg some (by kernel_rfl))
 f267:=Tryz.func233.trans (congrArg some (by kernel_rfl))
 f314:=Tryz.func240.trans (congrArg some (by kernel_rfl))
 t3:=Tryz.underlying3
 a3:=Tryz.isAgg3
 z3:=Tryz.sizeOf3
 v3:=Tryz.zeroValue3
 t4:=Tryz.underlying4
 a4:=Tryz.isAgg4
 z4:=Tryz.sizeOf4
 v4:=Tryz.zeroValue4
 t5:=Tryz.underlying5
 a5:=Tryz.isAgg5
 z5:=Tryz.sizeOf5
 v5:=Tryz.zeroValue5
 t9:=Tryz.underlying9
 a9:=Tryz.isAgg9
 z9:=Tryz.sizeOf9
 v9:=Tryz.zeroValue9
 t46:=Tryz.underlying161
 a46:=Tryz.isAgg161
 z46:=Tryz.sizeOf161
 v46:=Tryz.zeroValue161
 t51:=Tryz.underlying132
 a51:=Tryz.isAgg132
 z51:=Tryz.sizeOf132
 v51:=Tryz.zeroValue132
 t146:=Tryz.underlying256
 a146:=Tryz.isAgg256
 z146:=Tryz.sizeOf256
 v146:=Tryz.zeroValue256
 g1:=by kernel_rfl }
open Go.RowKit Go.Lib in
theorem Tryz.stringslite_Index_one (s:ByteArray)(c:UInt8)(w:World) :
  Calls prog 217 #[.string s,.string ⟨#[c]⟩] w fun e w'=>e=.returned (.int .i64 (Lib.indexByte s.data.toList c))∧w'=w:=Any.stringslite_Index_one Tryz.Tf s c w
open Go.RowKit Go.Lib in
open Go.RowKit Go.Lib in
open Go.RowKit Go.Lib in
def Tryz.KU:Go.Shelf.Ren:=⟨fun|144=>165|143=>194|219=>217|217=>129|225=>231|224=>232|267=>233|266=>156|314=>240|n=>n,fun|9=>9|4=>4|3=>3|5=>5|46=>161|146=>256|51=>132|n=>n,fun|1=>2|n=>n⟩
theorem Tryz.T8:Go.Proofs.Lays.n144 prog Tryz.KU:={
 mixed:=by kernel_rfl
 f143:=Tryz.func194.trans (congrArg some (by kernel_rfl))
 f144:=Tryz.func165.trans (congrArg some (by kernel_rfl))
 f217:=Tryz.func129.trans (congrArg some (by kernel_rfl))
 f219:=Tryz.func217.trans (congrArg some (by kernel_rfl))
 f224:=Tryz.func232.trans (congrArg some (by kernel_rfl))
 f225:=Tryz.func231.trans (congrArg some (by kernel_rfl))
 f266:=Tryz.func156.trans (congrArg some (by kernel_rfl))
 f267:=Tryz.func233.trans (congrArg some (by kernel_rfl))
 f314:=Tryz.func240.trans (congrArg some (by kernel_rfl))
 t3:=Tryz.underlying3
 a3:=Tryz.isAgg3
 z3:=Tryz.sizeOf3
 v3:=Tryz.zeroValue3
 t4:=Tryz.underlying4
 a4:=Tryz.isAgg4
 z4:=Tryz.sizeOf4
 v4:=Tryz.zeroValue4
 t5:=Tryz.underlying5
 a5:=Tryz.isAgg5
 z5:=Tryz.sizeOf5
 v5:=Tryz.zeroValue5
 t9:=Tryz.underlying9
 a9:=Tryz.isAgg9
 z9:=Tryz.sizeOf9
 v9:=Tryz.zeroValue9
 t46:=Tryz.underlying161
 a46:=Tryz.isAgg161
 z46:=Tryz.sizeOf161
 v46:=Tryz.zeroValue161
 t51:=Tryz.underlying132
 a51:=Tryz.isAgg132
 z51:=Tryz.sizeOf132
 v51:=Tryz.zeroValue132
 t146:=Tryz.underlying256
 a146:=Tryz.isAgg256
 z146:=Tryz.sizeOf256
 v146:=Tryz.zeroValue256
 g1:=by kernel_rfl }
open Go.RowKit Go.Lib in
theorem Tryz.strings_Contains_one (s:ByteArray)(c:UInt8)(w:World) :
  Calls prog 165 #[.string s,.string ⟨#[c]⟩] w fun e w'=>e=.returned (.bool (decide (0≤Lib.indexByte s.data.toList c)))∧w'=w:=Any.strings_Contains_one Tryz.T8 s c w
open Go.RowKit Go.Lib in
open Go.RowKit Go.Lib in
open Go.RowKit Go.Lib in
def Tryz.KD:Go.Shelf.Ren:=⟨fun|190=>148|125=>172|258=>171|128=>206|129=>207|302=>197|303=>198|304=>199|305=>200|306=>201|307=>202|308=>203|309=>204|310=>205|333=>218|329=>219|330=>220|334=>221|335=>222|336=>223|344=>234|n=>n,fun|31=>39|9=>9|3=>3|46=>161|0=>0|51=>132|53=>228|4=>4|183=>221|182=>220|131=>178|5=>5|218=>235|222=>239|228=>247|229=>248|n=>n,fun|n=>n⟩
theorem Tryz.Qi:Go.Proofs.Lays.n190 prog Tryz.KD:={
 mixed:=by kernel_rfl
 f125:=Tryz.func172.trans (congrArg some (by kernel_rfl))
 f128:=Tryz.func206.trans (congrArg some (by kernel_rfl))
 f129:=Tryz.func207.trans (congrArg some (by kernel_rfl))
 f190:=Tryz.func148.trans (congrArg some (by kernel_rfl))
 f258:=Tryz.func171.trans (congrArg some (by kernel_rfl))
 f302:=Tryz.func197.trans (congrArg some (by kernel_rfl))
 f303:=Tryz.func198.trans (congrArg some (by kernel_rfl))
 f304:=Tryz.func199.trans (congrArg some (by kernel_rfl))
 f305:=Tryz.func200.trans (congrArg some (by kernel_rfl))
 f306:=Tryz.func201.trans (congrArg some (by kernel_rfl))
 f307:=Tryz.func202.trans (congrArg some (by kernel_rfl))
 f308:=Tryz.func203.trans (congrArg some (by kernel_rfl))
 f309:=Tryz.func204.trans (congrArg some (by kernel_rfl))
 f310:=Tryz.func205.trans (congrArg some (by kernel_rfl))
 f329:=Tryz.func219.trans (congrArg some (by kernel_rfl))
 f330:=Tryz.func220.trans (congrArg some (by kernel_rfl))
 f333:=Tryz.func218.trans (congrArg some (by kernel_rfl))
 f334:=Tryz.func221.trans (congrArg some (by kernel_rfl))
 f335:=Tryz.func222.trans (congrArg some (by kernel_rfl))
 f336:=Tryz.func223.trans (congrArg some (by kernel_rfl))
 f344:=Tryz.func234.trans (congrArg some (by kernel_rfl))
 t0:=Tryz.underlying0
 a0:=Tryz.isAgg0
 z0:=Tryz.sizeOf0
 v0:=Tryz.zeroValue0
 t3:=Tryz.underlying3
 a3:=Tryz.isAgg3
 z3:=Tryz.sizeOf3
 v3:=Tryz.zeroValue3
 t4:=Tryz.underlying4
 a4:=Tryz.isAgg4
 z4:=Tryz.sizeOf4
 v4:=Tryz.zeroValue4
 t5:=Tryz.underlying5
 a5:=Tryz.isAgg5
 z5:=Tryz.sizeOf5
 v5:=Tryz.zeroValue5
 t9:=Tryz.underlying9
 a9:=Tryz.isAgg9
 z9:=Tryz.sizeOf9
 v9:=Tryz.zeroValue9
 t31:=Tryz.underlying39
 a31:=Tryz.isAgg39
 z31:=Tryz.sizeOf39
 v31:=Tryz.zeroValue39
 t46:=Tryz.underlying161
 a46:=Tryz.isAgg161
 z46:=Tryz.sizeOf161
 v46:=Tryz.zeroValue161
 t51:=Tryz.underlying132
 a51:=Tryz.isAgg132
 z51:=Tryz.sizeOf132
 v51:=Tryz.zeroValue132
 t53:=Tryz.underlying228
 a53:=Tryz.isAgg228
 z53:=Tryz.sizeOf228
 v53:=Tryz.zeroValue228
 t131:=Tryz.underlying178
 a131:=Tryz.isAgg178
 z131:=Tryz.sizeOf178
 v131:=Tryz.zeroValue178
 t182:=Tryz.underlying220
 a182:=Tryz.isAgg220
 z182:=Tryz.sizeOf220
 v182:=Tryz.zeroValue220
 t183:=Tryz.underlying221
 a183:=Tryz.isAgg221
 z183:=Tryz.sizeOf221
 v183:=Tryz.zeroValue221
 t218:=Tryz.underlying235
 a218:=Tryz.isAgg235
 z218:=Tryz.sizeOf235
 v218:=Tryz.zeroValue235
 t222:=Tryz.underlying239
 a222:=Tryz.isAgg239
 z222:=Tryz.sizeOf239
 v222:=Tryz.zeroValue239
 t228:=Tryz.underlying247
 a228:=Tryz.isAgg247
 z228:=Tryz.sizeOf247
 v228:=Tryz.zeroValue247
 t229:=Tryz.underlying248
 a229:=Tryz.isAgg248
 z229:=Tryz.sizeOf248
 v229:=Tryz.zeroValue248 }
open Go.Sort Go.RowKit in
theorem Tryz.slices_Sort_string (blk off cap:Nat)(ss:List (List UInt8))(w:World)(hH:Holds encStr w blk off ss.toArray)(hblk:blk < w.heap.size)(hsz:ss.length < 4611686018427387904) :
  Calls prog 148 #[.slice (some ⟨blk,off,none⟩) ss.length cap] w fun e w'=>
   e=.returned (.tuple #[])∧∃n os,w'=grow (putRow encStr (Sort.ahead w n) blk off (ss.mergeSort fun x y=>decide (x≤y)).toArray) os:=Any.slices_Sort_string Tryz.Qi blk off cap ss w hH hblk hsz
open Go.RowKit Go.Lib in
def Tryz.NI:Go.Shelf.Ren:=⟨fun|99=>137|206=>161|n=>n,fun|9=>9|4=>4|3=>3|n=>n,fun|n=>n⟩
theorem Tryz.Uz:Go.Proofs.Lays.n99 prog Tryz.NI:={
 mixed:=by kernel_rfl
 f99:=Tryz.func137.trans (congrArg some (by kernel_rfl))
 f206:=Tryz.func161.trans (congrArg some (by kernel_rfl))
 t3:=Tryz.underlying3
 a3:=Tryz.isAgg3
 z3:=Tryz.sizeOf3
 v3:=Tryz.zeroValue3
 t4:=Tryz.underlying4
 a4:=Tryz.isAgg4
 z4:=Tryz.sizeOf4
 v4:=Tryz.zeroValue4
 t9:=Tryz.underlying9
 a9:=Tryz.isAgg9
 z9:=Tryz.sizeOf9
 v9:=Tryz.zeroValue9 }
open Go.RowKit Go.Lib in
theorem Tryz.strings_HasPrefix (s p:ByteArray)(w:World) :
  Calls prog 137 #[.string s,.string p] w fun e w'=>e=.returned (.bool (Lib.hasPrefix s.data.toList p.data.toList))∧w'=w:=Any.strings_HasPrefix Tryz.Uz s p w
def Tryz.Lh:Go.Shelf.Ren:=⟨fun|157=>33|229=>59|199=>60|261=>98|311=>135|312=>136|n=>n,fun|9=>9|31=>39|3=>3|5=>5|4=>4|119=>101|0=>0|40=>103|152=>129|21=>21|154=>131|51=>132|141=>134|196=>168|193=>165|198=>171|49=>169|194=>166|201=>174|226=>193|46=>161|227=>194|n=>n,fun|0=>0|6=>1|n=>n⟩
theorem Tryz.Uc:Go.Proofs.Lays.n157 prog Tryz.Lh:={
 mixed:=by kernel_rfl
 f157:=Tryz.func33.trans (congrArg some (by kernel_rfl))
 f199:=Tryz.func60.trans (congrArg some (by kernel_rfl))
 f229:=Tryz.func59.trans (congrArg some (by kernel_rfl))
 f261:=Tryz.func98.trans (congrArg some (by kernel_rfl))
 f311:=Tryz.func135.trans (congrArg some (by kernel_rfl))
 f312:=Tryz.func136.trans (congrArg some (by kernel_rfl))
 t0:=Tryz.underlying0
 a0:=Tryz.isAgg0
 z0:=Tryz.sizeOf0
 v0:=Tryz.zeroValue0
 t3:=Tryz.underlying3
 a3:=Tryz.isAgg3
 z3:=Tryz.sizeOf3
 v3:=Tryz.zeroValue3
 t4:=Tryz.underlying4
 a4:=Tryz.isAgg4
 z4:=Tryz.sizeOf4
 v4:=Tryz.zeroValue4
 t5:=Tryz.underlying5
 a5:=Tryz.isAgg5
 z5:=Tryz.sizeOf5
 v5:=Tryz.zeroValue5
 t9:=Tryz.underlying9
 a9:=Tryz.isAgg9
 z9:=Tryz.sizeOf9
 v9:=Tryz.zeroValue9
 t21:=Tryz.underlying21
 a21:=Tryz.isAgg21
 z21:=Tryz.sizeOf21
 v21:=Tryz.zeroValue21
 t31:=Tryz.underlying39
 a31:=Tryz.isAgg39
 z31:=Tryz.sizeOf39
 v31:=Tryz.zeroValue39
 t40:=Tryz.underlying103
 a40:=Tryz.isAgg103
 z40:=Tryz.sizeOf103
 v40:=Tryz.zeroValue103
 t46:=Tryz.underlying161
 a46:=Tryz.isAgg161
 z46:=Tryz.sizeOf161
 v46:=Tryz.zeroValue161
 t49:=Tryz.underlying169
 a49:=Tryz.isAgg169
 z49:=Tryz.sizeOf169
 v49:=Tryz.zeroValue169
 t51:=Tryz.underlying132
 a51:=Tryz.isAgg132
 z51:=Tryz.sizeOf132
 v51:=Tryz.zeroValue132
 t119:=Tryz.underlying101
 a119:=Tryz.isAgg101
 z119:=Tryz.sizeOf101
 t141:=Tryz.underlying134
 a141:=Tryz.isAgg134
 z141:=Tryz.sizeOf134
 v141:=Tryz.zeroValue134
 t152:=Tryz.underlying129
 a152:=Tryz.isAgg129
 z152:=Tryz.sizeOf129
 v152:=Tryz.zeroValue129
 t154:=Tryz.underlying131
 a154:=Tryz.isAgg131
 z154:=Tryz.sizeOf131
 v154:=Tryz.zeroValue131
 t193:=Tryz.underlying165
 a193:=Tryz.isAgg165
 z193:=Tryz.sizeOf165
 v193:=Tryz.zeroValue165
 t194:=Tryz.underlying166
 a194:=Tryz.isAgg166
 z194:=Tryz.sizeOf166
 v194:=Tryz.zeroValue166
 t196:=Tryz.underlying168
 a196:=Tryz.isAgg168
 z196:=Tryz.sizeOf168
 v196:=Tryz.zeroValue168
 t198:=Tryz.underlying171
 a198:=Tryz.isAgg171
 z198:=Tryz.sizeOf171
 v198:=Tryz.zeroValue171
 t201:=Tryz.underlying174
 a201:=Tryz.isAgg174
 z201:=Tryz.sizeOf174
 v201:=Tryz.zeroValue174
 t226:=Tryz.underlying193
 a226:=Tryz.isAgg193
 z226:=Tryz.sizeOf193
 v226:=Tryz.zeroValue193
 t227:=Tryz.underlying194
 a227:=Tryz.isAgg194
 z227:=Tryz.sizeOf194
 v227:=Tryz.zeroValue194
 g0:=by kernel_rfl
 g6:=by kernel_rfl }
open Go.RowKit Go.Lib in
theorem Tryz.strings_Fields (s:ByteArray)(w:World)(hs:s.size < 4294967281)(hascii:∀(j:Nat) b,s.data.toList[j]?=some b→b.toNat < 128)(htab:Lib.TabIs prog w "strings.asciiSpace" .u8 Lib.asciiSpaceTab) :
  Calls prog 33 #[.string s] w fun e w'=>
   e=.returned (.slice (some ⟨w.heap.size,0,none⟩) (Lib.fields s.data.toList).length (Lib.fields s.data.toList).length)∧w'=w.alloc (.cells ((Lib.fields s.data.toList).map fun l=>Value.string ⟨l.toArray⟩).toArray 9):=Any.strings_Fields Tryz.Uc (by kernel_rfl) (by kernel_rfl) s w hs hascii htab
open Go.RowKit Go.Lib in
open Go.RowKit Go.Lib in
open Go.RowKit Go.Lib in
open Go.RowKit Go.Lib in
open Go.RowKit Go.Sort in
theorem Tryz.slices_Sort_string_none (p:Option Addr)(cap:Nat)(w:World) :
  Calls prog 148 #[.slice p 0 cap] w fun e w'=>e=.returned (.tuple #[])∧w'=w:=Any.slices_Sort_string_none Tryz.Qi p cap w
end Go.Proofs
namespace Go.Proofs.YtoofficgclghoaaGreatDoor
section
open Eng Go.RowKit
abbrev Bld (b:Nat)(v:Value)(l:List UInt8):Ent:=.bld 68 5 b v l
theorem jQ (a b:List UInt8):bS (a++b)=bS a++bS b:=by simp[bS]
theorem CS (l:List UInt8):∀u∈bS l,u.oneCell'=true:=by
 intro u hu;simp only[bS,List.mem_map] at hu;obtain⟨c,_,rfl⟩:=hu;rfl
theorem P3 {P:Program}{T U:TypeId}{xo:Operand}{a:Option Addr}{c:Value}{w:World}{PK:PKT}{K:VWP}(h:P.underlying T=some (.pointer U)) :
  DoX P (mEq .eql T xo (.const c) (.pointer a) (.pointer none)) w PK K=K (.bool a.isNone) w:=by
 refine eJ ?_;have e:(eqGuard .eql T xo (.const c) (.pointer a) (.pointer none))=pure ():=by cases xo<;>rfl
 rw[e];have h2:∀d:Nat,(Op.equalIn (d+1) T (.pointer a) (.pointer none)).run P w=.ok a.isNone w:=fun d=>by
  cases a<;>simp[Op.equalIn,run_underlying h]
 simp only[binOp];simp[Op.equal,Op.maxDepth,h2 9999]
theorem TK {P:Program}{T U:TypeId}{xo yo:Operand}{a:Addr}{w:World}{PK:PKT}{K:VWP}(h:P.underlying T=some (.pointer U))(hi:(P.info? U).isSome=true)(hg:eqGuard .neq T xo yo (.pointer (some a)) (.pointer (some a))=pure ()) :
  DoX P (mEq .neq T xo yo (.pointer (some a)) (.pointer (some a))) w PK K=K (.bool false) w:=by
 obtain⟨j,hj⟩:=Option.isSome_iff_exists.1 hi;refine eJ ?_;rw[hg];simp[Lib.run_neq_ptr_same w a h hj]
theorem BP {b:Nat}{v:Value}{l:List UInt8}{w:World}(h:(Bld b v l).is w):Ret prog 52 #[.pointer (some ⟨b,0,none⟩)] w
  (fun r w'=>∃e',(r=.tuple #[]∧e'=Bld b v l)∧Turn (Bld b v l) e' w w'):=by
 obtain⟨p,hp,hcap,ho⟩:=(OwnS.lend h).Rk;refine aO fun K hK=>lW ?_;unfold cZ;simp only[rs,cF (show fOff prog 68 0=some 0 by kernel_rfl)];rw[aW (by kernel_rfl) (ho.cell 0 rfl 0 rfl)];rcases hp with rfl|rfl
 ·rw[P3 Tryz.underlying65];simp only[Option.isNone_none,rs];obtain⟨j,hj⟩:=Option.isSome_iff_exists.1 (show (Tryz.prog.info? 68).isSome=true by kernel_rfl);have hjs:j.size≠0:=by
   have:(Tryz.prog.info? 68).map (·.size)=some 2:=by kernel_rfl
   rw[hj] at this;simp only[Option.map_some,Option.some.injEq] at this;omega
  have hsh:w.shape? b=some (68,2):=by
   have hb:w.heap[b]?=some (.cells #[.pointer none,v] 68 (0,0)):=ho.at_ 0 rfl;simp[World.shape?,hb]
  refine tN (cK (Lib.run_to_unsafe w ⟨b,0,none⟩ Tryz.underlying65 Tryz.underlying120 hj hjs hsh (by show 0 < 2;omega))) ?_;refine tN (show (jI (.func (.func 89) #[] #[]) #[.pointer (some ⟨b,0,none⟩)]).run prog w=.ok (.value (.pointer (some ⟨b,0,none⟩))) w by kernel_rfl) ?_;refine tN (cK (Lib.run_from_unsafe w ⟨b,0,none⟩ Tryz.underlying120 Tryz.underlying65 hj hsh (by kernel_rfl))) ?_;refine bI 0 ho rfl (by kernel_rfl) rfl (by simp) fun w2 ho2=>?_;exact hK _ _ ⟨_,⟨rfl,rfl⟩,(OwnS.B3 (.inr rfl) hcap ho2).back⟩
 ·rw[P3 Tryz.underlying65];simp only[Option.isNone_some,rs,cF (show fOff prog 68 0=some 0 by kernel_rfl)];rw[aW (by kernel_rfl) (ho.cell 0 rfl 0 rfl)];rw[TK Tryz.underlying65 (by kernel_rfl) rfl];simp only[rs];exact hK _ _ ⟨_,⟨rfl,rfl⟩,(ho.B3 (.inr rfl) hcap).back⟩
theorem jW {b:Nat}{v:Value}{l:List UInt8}{c:UInt8}{w:World}(h:(Bld b v l).is w)(hl:l.length < 140737488355328):Ret prog 54 #[.pointer (some ⟨b,0,none⟩),.int .u8 c.toNat] w
  (fun r w'=>∃e',(r=.nilIface∧∃v',e'=Bld b v' (l++[c]))∧Turn (Bld b v l) e' w w'):=by
 refine aO fun K hK=>mT ?_;unfold dB;refine fI 0 (OwnS.lend h) rfl (BP h) ?_;rintro _ _ w1 ⟨rfl,rfl⟩ ho1;obtain⟨p,hp,hcap,ho⟩:=OwnS.Rk ho1;simp only[rs,cF (show fOff prog 68 1=some 1 by kernel_rfl)];rw[aW (by kernel_rfl) (ho.cell 0 rfl 1 rfl)];refine dD (fun b=>.slice (some ⟨b,0,none⟩) 1 1) [.int .u8 c.toNat] 5 (fun _=>by kernel_rfl) ho fun nb w2 h2=>?_;refine EJ 2 Tryz.underlying66 (show elB prog 5 1 1=true by kernel_rfl) (by decide) h2 rfl (h2.sl 0 rfl 1 1 1 rfl) (CS [c]) (by omega) (by omega) fun v' w3 h3=>?_;refine bI 1 h3 rfl (by kernel_rfl) (by
  have:=h3.at_ 2 rfl;rcases this.2 with ⟨hv,_⟩|⟨_,_,_,_,hv,_⟩<;>rw[hv]<;>rfl) (by simp) fun w4 h4=>?_
 have h5:=h4.tail;have h6:OwnS (Bld b v l).blk w w4 (.cells b [p,v'] 68::.row 5 1 v' (l.length+1) (bS (l++[c]))::[]):=by
  rw[jQ];exact h5
 exact hK _ _ ⟨_,⟨rfl,v',rfl⟩,(OwnS.B3 hp (roomy_row (h6.at_ 1 rfl) (by omega)) h6).back⟩
theorem cV {b:Nat}{v:Value}{l s:List UInt8}{w:World}(h:(Bld b v l).is w)(hl:l.length+s.length≤140737488355328):Ret prog 27 #[.pointer (some ⟨b,0,none⟩),.string ⟨s.toArray⟩] w
  (fun r w'=>∃e',((∃x,r=.tuple #[x,.nilIface])∧∃v',e'=Bld b v' (l++s))∧Turn (Bld b v l) e' w w'):=by
 refine aO fun K hK=>kB ?_;unfold cL;refine fI 0 (OwnS.lend h) rfl (BP h) ?_;rintro _ _ w1 ⟨rfl,rfl⟩ ho1;obtain⟨p,hp,hcap,ho⟩:=OwnS.Rk ho1;simp only[rs,cF (show fOff prog 68 1=some 1 by kernel_rfl)];rw[aW (by kernel_rfl) (ho.cell 0 rfl 1 rfl)];refine DG 1 Tryz.underlying66 Tryz.underlying9 (show elB prog 5 1 1=true by kernel_rfl) Tryz.underlying5 (by kernel_rfl) ho rfl (by omega) fun v' w3 hro h3=>?_;refine bI 0 h3 rfl (by kernel_rfl) (by
  have:=h3.at_ 1 rfl;rcases this.2 with ⟨hv,_⟩|⟨_,_,_,_,hv,_⟩<;>rw[hv]<;>rfl) (by simp) fun w4 h4=>?_
 rw[bD Tryz.underlying9];have h6:OwnS (Bld b v l).blk w w4 (.cells b [p,v'] 68::.row 5 1 v' (l.length+s.length) (bS (l++s))::[]):=by
  rw[jQ];exact h4
 exact hK _ _ ⟨_,⟨⟨_,rfl⟩,v',rfl⟩,(OwnS.B3 hp (hro hcap) h6).back⟩
theorem PY {E:TypeId}{g n cap:Nat}{xs:List Value}{w:World}(h:w.ownsRowF 0 E 1 (.slice (some ⟨g,0,none⟩) n cap) n xs)(hn0:n≠0) :
  Turn (.row E 1 (.slice (some ⟨g,0,none⟩) n cap) n xs) (.row E 1 (.slice (some ⟨g,0,none⟩) n cap) n xs) w (w.freeze ⟨g,0,none⟩ n):=by
 refine⟨?_,?_,fun k hk=>.inl hk⟩
 ·unfold World.freeze;rw[if_neg hn0];refine⟨rfl,rfl,rfl,by simp,fun k hk hne=>?_⟩;have hkg:¬g=k:=fun e=>hne (by show some g=some k;rw[e]);simp only[Array.getElem?_modify];rw[if_neg hkg]
 ·refine⟨h.1,?_⟩;unfold World.freeze;rw[if_neg hn0];rcases h.2 with ⟨hv,_⟩|⟨g',cap',cur,fz,hv,hbg,hg,hfz,rest⟩
  ·cases hv
  ·injection hv with ha _ hcap
   injection ha with ha
   injection ha with hgg _ _
   subst hgg;subst hcap;obtain⟨lo,hi⟩:=fz;refine .inr ⟨g,_,cur,(if lo==hi then (0,0+n) else (min lo 0,max hi (0+n))),rfl,hbg,?_,?_,rest⟩
   ·simp[Array.getElem?_modify,hg]
   ·simp only at hfz;split<;>simp<;>omega
theorem Th {v:Value}{n:Nat}{T U:TypeId}{cs:Array Bool}{w:World}{E:TypeId}{xs:List Value}(h:w.ownsRowF 0 E 1 v n xs)(hr:roomy v):∃q,(∀w':World,(mB .unsafeSliceData #[T] U cs #[v]).run prog w'=.ok (.value (.pointer q)) w')∧(0 < n→∃g cap,v=.slice (some ⟨g,0,none⟩) n cap∧q=some ⟨g,0,none⟩):=by
 rcases h.2 with ⟨rfl,rfl⟩|⟨g,cap,cur,fz,rfl,hbg,hg,hfz,rest⟩
 ·exact⟨none,fun w'=>by simp[mB,builtin,Lib.run_unsafeSliceData_nil],fun h=>by omega⟩
 ·refine⟨some ⟨g,0,none⟩,fun w'=>?_,fun _=>⟨g,cap,rfl,rfl⟩⟩;have hc:cap≠0:=fun e=>hr ⟨g,0,none⟩ n (by rw[e]);simp[mB,builtin,Lib.run_unsafeSliceData_row _ _ _ _ _ _ hc]
theorem nR {b:Nat}{v:Value}{l:List UInt8}{w:World}(h:(Bld b v l).is w):Ret prog 30 #[.pointer (some ⟨b,0,none⟩)] w
  (fun r w'=>∃e',(r=.string ⟨l.toArray⟩∧e'=Bld b v l)∧Turn (Bld b v l) e' w w'):=by
 obtain⟨p,hp,hcap,ho⟩:=(OwnS.lend h).Rk;refine aO fun K hK=>pI ?_;unfold dO;have hrow:w.ownsRowF 0 5 1 v l.length (bS l):=ho.at_ 1 rfl;obtain⟨q,hq,hq2⟩:=Th (T:=66) (U:=98) (cs:=#[false]) hrow hcap;have hload:∀w',Below w.heap.size w w'→(aB 66 (.pointer (some ⟨b,0+1,none⟩))).run prog w'=.ok (.value v) w':=fun w' hb=>aM (by kernel_rfl) ((ho.grow hb).cell 0 rfl 1 rfl);have hlen:∀w',Below w.heap.size w w'→(mB .len #[66] 3 #[false] #[v]).run prog w'=.ok (.value (.int .i64 l.length)) w':=fun w' hb=>by
  have hs:=(ho.grow hb).Dh 1 rfl;obtain⟨_,a,cp,rfl,_⟩:=hs;simp[mB,builtin,Builtin.len_,run_underlying Tryz.underlying66,goInt]
 refine quiet (q_do _ (fun w=>dT) (q_do _ (fun w=>aY (show fOff prog 68 1=some 1 by kernel_rfl)) (q_at v hload (q_do _ hq (q_do _ (fun w=>dT) (q_do _ (fun w=>aY (show fOff prog 68 1=some 1 by kernel_rfl)) (q_at v hload (q_at _ hlen ?_))))))));intro w2 hb2;have h2:=ho.grow hb2;rcases Nat.eq_zero_or_pos l.length with h0|h0
 ·have hl:l=[]:=List.eq_nil_of_length_eq_zero h0;subst hl;refine tN (show (mB .unsafeString #[98,3] 9 #[false,false] #[.pointer q,.int .i64 0]).run prog w2=.ok (.value (.string ⟨([]:List UInt8).toArray⟩)) w2 by
   simp[mB,builtin,Lib.run_unsafeString_none];rfl) ?_
  exact hK _ _ ⟨_,⟨rfl,rfl⟩,(OwnS.B3 hp hcap h2).back⟩
 ·obtain⟨g,cap,rfl,rfl⟩:=hq2 h0;have hr2:w2.ownsRowF 0 5 1 (.slice (some ⟨g,0,none⟩) l.length cap) l.length (bS l):=h2.at_ 1 rfl;have hne:l≠[]:=List.length_pos_iff.1 h0;have hsh:∃cells,w2.shape? g=some (5,cells)∧l.length≤cells∧l.length≤9223372036854775807:=by
   rcases hr2.2 with ⟨hv,_⟩|⟨g',cap',cur,fz,hv,hbg,hg,hfz,hnc,hcm,hcs,_⟩
   ·cases hv
   ·injection hv with ha _ hcap
    injection ha with ha
    injection ha with hgg _ _
    subst hgg;refine⟨cur.size,by simp[World.shape?,hg],by omega,?_⟩;simp only[maxLen] at hcm;omega
  obtain⟨cells,hsh,hle,h63⟩:=hsh;have hr:=Lib.run_unsafeString_row (P:=prog) w2 98 3 9 5 Tryz.underlying98 (by kernel_rfl) g cells hsh l hne hle h63 (fun j x hj=>by
   have:=World.ownsRowF.cells hr2 (g:=g) rfl j (.int .u8 x.toNat) (Ny hj);exact this)
  refine tN (show (mB .unsafeString #[98,3] 9 #[false,false] #[.pointer (some ⟨g,0,none⟩),.int .i64 l.length]).run prog w2=.ok (.value (.string ⟨l.toArray⟩)) (w2.freeze ⟨g,0,none⟩ l.length) by
   simp[mB,builtin,hr]) ?_
  have h3:=h2.turn 1 rfl (PY hr2 (by omega));exact hK _ _ ⟨_,⟨rfl,rfl⟩,(OwnS.B3 hp hcap h3).back⟩
theorem Rs {b n:Nat}{w0 w1:World}(ho:Own w0 w1 [.cells b [.pointer none,.slice none 0 0] 68])(h0:0 < n)(hn:n≤281474976710656):Ret prog 130 #[.pointer (some ⟨b,0,none⟩),.int .i64 n] w1
  (fun r w2=>r=.tuple #[]∧∃v,Own w0 w2 [Bld b v []]):=by
 have hbk:w1.heap[b]?=some (.cells #[.pointer none,.slice none 0 0] 68 (0,0)):=ho.at_ 0 rfl;have hB:w0.heap.size≤b:=((ho.all (.cells b [.pointer none,.slice none 0 0] 68) (by simp)).2 b rfl).elim (fun x=>x.elim) id;refine Calls.mono (Tryz.Builder_Grow_fresh_cap w0.heap.size b n w1 hB hbk ho.size hn) ?_;rintro e w2 ⟨rfl,⟨⟨_,v,hb,hrow,hne⟩,hbl⟩,p,cap,hcell,hcap⟩;refine retK ⟨rfl,v,?_⟩;have hv:v=.slice p 0 cap:=by
  rw[Lib.cell_of_heap hb] at hcell;simpa using hcell
 refine⟨⟨hbl.os.trans ho.grew.os,hbl.tape.trans ho.grew.tape,hbl.output.trans ho.grew.output,Nat.le_trans ho.size hbl.size,fun k hk hk2=>(hbl.block k hk).trans (ho.grew.block k hk hk2)⟩,fun e he=>?_,List.pairwise_singleton _ _⟩;rw[List.mem_singleton] at he;subst he;refine⟨⟨⟨_,.inr rfl,hb⟩,⟨hrow.1,?_⟩,hne,fun a k hc=>?_⟩,fun k hk=>.inr ?_⟩
 ·rcases hrow.2 with h|⟨g,cp,cur,h1,h2,h3,h4⟩
  ·exact .inl h
  ·exact .inr ⟨g,cp,cur,(0,0),h1,Nat.zero_le _,h3,Nat.zero_le _,h4⟩
 ·rw[hv] at hc
  injection hc with c1 c2 c3
  omega
 ·rcases hk with hk|hk
  ·rw[hk];exact hB
  ·rcases hrow.2 with ⟨h,_⟩|⟨g,cp,cur,h1,h2,h3,h4⟩
   ·rw[h] at hk;cases hk
   ·rw[h1] at hk;cases hk;exact h2
end
section
open Eng
def AO (t0:Value)(w:World)(K:Ending→World→Prop):Prop:=
 DoX prog (mBin .lss 2 t0 (.int .i64 (-2147483647))) w (pk K) fun t5 w=>
 GDo t5 false (fun E=>E t0 w) w fun t7 w=>
 GDo t5 false (fun E=>DoX prog (mBin .gtr 2 t7 (.int .i64 2147483647)) w (pk K) E) w fun t8 w=>
 DoX prog (aL t5 (.bool true) t8) w (pk K) fun t9 w=>
 IfX t9 (K (.returned (.tuple #[(.string ⟨#[]⟩),(.int .i64 2)])) w) (CallX prog 184 #[t0,(.int .i64 10)] w (pk K) fun t11 w=>
 K (.returned (.tuple #[t11,(.int .i64 0)])) w)
theorem GP (t0:Value)(w:World)(K:Ending→World→Prop):wpX prog 12 [] [] none (aK Tryz.f158) (topQ prog [.tmp 2,.tmp 3] K) (aJ [t0]) [] w=AO t0 w K:=by kernel_rfl
theorem GU {t0:Value}{w:World}{K:Ending→World→Prop}(h:AO t0 w K):Calls prog 158 #[t0] w K:=
 aA Tryz.func158 rfl rfl rfl rfl (Eq.mpr (GP t0 w K) h)
def yF (t0:Value)(w:World)(K:Ending→World→Prop):Prop:=
 DoX prog (mBin .lss 2 t0 (.int .i64 (-1073741824))) w (pk K) fun t5 w=>
 GDo t5 false (fun E=>E t0 w) w fun t7 w=>
 GDo t5 false (fun E=>DoX prog (mBin .gtr 2 t7 (.int .i64 1073741824)) w (pk K) E) w fun t8 w=>
 DoX prog (aL t5 (.bool true) t8) w (pk K) fun t9 w=>
 IfX t9 (K (.returned (.tuple #[(.string ⟨#[]⟩),(.int .i64 2)])) w) (CallX prog 185 #[t0] w (pk K) fun t11 w=>
 K (.returned (.tuple #[t11,(.int .i64 0)])) w)
theorem Fo (t0:Value)(w:World)(K:Ending→World→Prop):wpX prog 12 [] [] none (aK Tryz.f159) (topQ prog [.tmp 2,.tmp 3] K) (aJ [t0]) [] w=yF t0 w K:=by kernel_rfl
theorem FK {t0:Value}{w:World}{K:Ending→World→Prop}(h:yF t0 w K):Calls prog 159 #[t0] w K:=
 aA Tryz.func159 rfl rfl rfl rfl (Eq.mpr (Fo t0 w K) h)
def qY (t0:Value)(w:World)(K:Ending→World→Prop):Prop:=
 DoX prog (mB .len #[9] 3 #[false] #[t0]) w (pk K) fun t5 w=>
 DoX prog (mBin .gtr 3 t5 (.int .i64 32767)) w (pk K) fun t6 w=>
 IfX t6 (K (.returned (.tuple #[(.string ⟨#[]⟩),(.int .i64 5)])) w) (CallX prog 93 #[(.string ⟨#[40]⟩),t0,(.string ⟨#[41]⟩),(.func (.func 186) #[] #[])] w (pk K) fun t8 w=>
 K (.returned (.tuple #[t8,(.int .i64 0)])) w)
theorem Dg (t0:Value)(w:World)(K:Ending→World→Prop):wpX prog 9 [] [] none (aK Tryz.f160) (topQ prog [.tmp 2,.tmp 3] K) (aJ [t0]) [] w=qY t0 w K:=by kernel_rfl
theorem C9 {t0:Value}{w:World}{K:Ending→World→Prop}(h:qY t0 w K):Calls prog 160 #[t0] w K:=
 aA Tryz.func160 rfl rfl rfl rfl (Eq.mpr (Dg t0 w K) h)
def xQ (t0:Value)(w:World)(K:Ending→World→Prop):Prop:=
 DoX prog (mB .len #[9] 3 #[false] #[t0]) w (pk K) fun t6 w=>
 DoX prog (mBin .gtr 3 t6 (.int .i64 127)) w (pk K) fun t7 w=>
 IfX t7 (K (.returned (.tuple #[(.string ⟨#[]⟩),(.int .i64 5)])) w) (CallX prog 92 #[t0,(.int .u8 0)] w (pk K) fun t10 w=>
 DoX prog (mBin .geq 3 t10 (.int .i64 0)) w (pk K) fun t11 w=>
 IfX t11 (K (.returned (.tuple #[(.string ⟨#[]⟩),(.int .i64 3)])) w) (CallX prog 93 #[(.string ⟨#[47]⟩),t0,(.string ⟨#[]⟩),(.func (.func 94) #[] #[])] w (pk K) fun t13 w=>
 K (.returned (.tuple #[t13,(.int .i64 0)])) w))
theorem E2 (t0:Value)(w:World)(K:Ending→World→Prop):wpX prog 14 [] [] none (aK Tryz.f55) (topQ prog [.tmp 2,.tmp 3] K) (aJ [t0]) [] w=xQ t0 w K:=by kernel_rfl
theorem Gh {t0:Value}{w:World}{K:Ending→World→Prop}(h:xQ t0 w K):Calls prog 55 #[t0] w K:=
 aA Tryz.func55 rfl rfl rfl rfl (Eq.mpr (E2 t0 w K) h)
def AH (t4 t9:Value)(w:World)(N1:List Value→World→Prop)(K:Ending→World→Prop):Prop:=
 DoX prog (mBin .add 3 t9 (.int .i64 1)) w (pk K) fun t34 w=>
 N1 [t4,t34] w
def AA (t3 t6:Value)(w:World)(J2:List Value→World→Prop)(K:Ending→World→Prop):Prop:=
 CallX prog 27 #[t3,t6] w (pk K) fun t28 w=>
 DoX prog (mB .len #[9] 3 #[false] #[t6]) w (pk K) fun t31 w=>
 DoX prog (mBin .sub 3 t31 (.int .i64 1)) w (pk K) fun t32 w=>
 DoX prog (mIx 9 t6 t32) w (pk K) fun t33 w=>
 J2 [t33] w
def AD (t3 t4 t7 t8 t9:Value)(w:World)(N1:List Value→World→Prop)(K:Ending→World→Prop):Prop:=
 DoX prog (mBin .lss 3 t9 t8) w (pk K) fun t10 w=>
 IfX t10 (JoinX (fun J2=>
 DoX prog (mIA 39 t7 t9) w (pk K) fun t11 w=>
 DoX prog (aB 9 t11) w (pk K) fun t12 w=>
 DoX prog (mEq .eql 9 (.tmp 13) (.const (.string ⟨#[]⟩)) t12 (.string ⟨#[]⟩)) w (pk K) fun t14 w=>
 IfX t14 (J2 [t4] w) (JoinX (fun J3=>
 CallX prog 53 #[t4] w (pk K) fun t16 w=>
 GDo t16 false (fun E=>E t4 w) w fun t18 w=>
 GDo t16 false (fun E=>DoX prog (mEq .eql 5 (.tmp 18) (.const (.int .u8 47)) t18 (.int .u8 47)) w (pk K) E) w fun t19 w=>
 DoX prog (aL t16 (.bool true) t19) w (pk K) fun t20 w=>
 GDo t20 true (fun E=>E t12 w) w fun t22 w=>
 GDo t20 true (fun E=>DoX prog (mIx 9 t22 (.int .i64 0)) w (pk K) E) w fun t23 w=>
 GDo t20 true (fun E=>CallX prog 53 #[t23] w (pk K) E) w fun t24 w=>
 DoX prog (aL t20 t24 (.bool false)) w (pk K) fun t25 w=>
 IfX t25 (CallX prog 54 #[t3,(.int .u8 32)] w (pk K) fun t26 w=>
 J3 [] w) (J3 [] w)) (fun vs3 w=>∀_:Sg,AA t3 t12 w J2 K))) (fun vs2 w=>∀_:Sg,AH (vs2.getD 0 undef) t9 w N1 K)) (CallX prog 30 #[t3] w (pk K) fun t35 w=>
 K (.returned t35) w)
def yL (t0:Value)(w:World)(K:Ending→World→Prop):Prop:=
 DoX prog (aN 68) w (pk K) fun t3 w=>
 DoX prog (mB .len #[39] 3 #[false] #[t0]) w (pk K) fun t8 w=>
 LoopX [(.int .u8 32),(.int .i64 0)] w (fun vs1 w N1=>∀_:Sg,AD t3 (vs1.getD 0 undef) t0 t8 (vs1.getD 1 undef) w N1 K)
theorem Gn (t0:Value)(w:World)(K:Ending→World→Prop):wpX prog 36 [(9,[]),(11,[4])] [(4,[4,9])] none (aK Tryz.f28) (topQ prog [.tmp 2] K) (aJ [t0]) [] w=yL t0 w K:=by kernel_rfl
theorem FP {t0:Value}{w:World}{K:Ending→World→Prop}(h:yL t0 w K):Calls prog 28 #[t0] w K:=
 aA Tryz.func28 rfl rfl rfl rfl (Eq.mpr (Gn t0 w K) h)
def xL (t1 t2 t3 t9 t23 t24:Value)(w:World)(N1:List Value→World→Prop)(K:Ending→World→Prop):Prop:=
 DoX prog (mBin .lss 3 t24 t23) w (pk K) fun t25 w=>
 IfX t25 (DoX prog (mIx 9 t1 t24) w (pk K) fun t30 w=>
 DoX prog (jI t3 #[t9,t30]) w (pk K) fun t31 w=>
 DoX prog (mBin .add 3 t24 (.int .i64 1)) w (pk K) fun t32 w=>
 N1 [t32] w) (CallX prog 27 #[t9,t2] w (pk K) fun t34 w=>
 CallX prog 30 #[t9] w (pk K) fun t35 w=>
 K (.returned t35) w)
def tD (t0 t1 t2 t3:Value)(w:World)(K:Ending→World→Prop):Prop:=
 DoX prog (aN 68) w (pk K) fun t9 w=>
 DoX prog (mB .len #[9] 3 #[false] #[t0]) w (pk K) fun t12 w=>
 DoX prog (mB .len #[9] 3 #[false] #[t1]) w (pk K) fun t14 w=>
 DoX prog (mBin .add 3 t12 t14) w (pk K) fun t15 w=>
 DoX prog (mB .len #[9] 3 #[false] #[t2]) w (pk K) fun t17 w=>
 DoX prog (mBin .add 3 t15 t17) w (pk K) fun t18 w=>
 CallX prog 130 #[t9,t18] w (pk K) fun t19 w=>
 CallX prog 27 #[t9,t0] w (pk K) fun t21 w=>
 DoX prog (mB .len #[9] 3 #[false] #[t1]) w (pk K) fun t23 w=>
 LoopX [(.int .i64 0)] w (fun vs1 w N1=>∀_:Sg,xL t1 t2 t3 t9 t23 (vs1.getD 0 undef) w N1 K)
theorem D1 (t0 t1 t2 t3:Value)(w:World)(K:Ending→World→Prop):wpX prog 36 [] [(5,[24])] none (aK Tryz.f93) (topQ prog [.tmp 8] K) (aJ [t0,t1,t2,t3]) [] w=tD t0 t1 t2 t3 w K:=by kernel_rfl
theorem D6 {t0 t1 t2 t3:Value}{w:World}{K:Ending→World→Prop}(h:tD t0 t1 t2 t3 w K):Calls prog 93 #[t0,t1,t2,t3] w K:=
 aA Tryz.func93 rfl rfl rfl rfl (Eq.mpr (D1 t0 t1 t2 t3 w K) h)
def jH (t0 t1 t34 t35:Value)(w:World)(N1:List Value→World→Prop)(K:Ending→World→Prop):Prop:=
 DoX prog (mBin .lss 3 t35 (.int .i64 3)) w (pk K) fun t36 w=>
 IfX t36 (DoX prog (mIx 209 t34 t35) w (pk K) fun t37 w=>
 DoX prog (mBin .quo 5 t1 t37) w (pk K) fun t41 w=>
 DoX prog (mBin .rem 5 t41 (.int .u8 8)) w (pk K) fun t42 w=>
 DoX prog (mBin .add 5 (.int .u8 48) t42) w (pk K) fun t43 w=>
 CallX prog 54 #[t0,t43] w (pk K) fun t44 w=>
 DoX prog (mBin .add 3 t35 (.int .i64 1)) w (pk K) fun t45 w=>
 N1 [t45] w) (K (.returned (.tuple #[])) w)
def nA (t0 t1:Value)(w:World)(K:Ending→World→Prop):Prop:=
 DoX prog (mEq .eql 5 (.tmp 10) (.const (.int .u8 40)) t1 (.int .u8 40)) w (pk K) fun t11 w=>
 GDo t11 false (fun E=>E t1 w) w fun t13 w=>
 GDo t11 false (fun E=>DoX prog (mEq .eql 5 (.tmp 13) (.const (.int .u8 41)) t13 (.int .u8 41)) w (pk K) E) w fun t14 w=>
 DoX prog (aL t11 (.bool true) t14) w (pk K) fun t15 w=>
 GDo t15 false (fun E=>E t1 w) w fun t17 w=>
 GDo t15 false (fun E=>DoX prog (mEq .eql 5 (.tmp 17) (.const (.int .u8 92)) t17 (.int .u8 92)) w (pk K) E) w fun t18 w=>
 DoX prog (aL t15 (.bool true) t18) w (pk K) fun t19 w=>
 IfX t19 (CallX prog 54 #[t0,(.int .u8 92)] w (pk K) fun t21 w=>
 CallX prog 54 #[t0,t1] w (pk K) fun t24 w=>
 K (.returned (.tuple #[])) w) (DoX prog (mBin .lss 5 t1 (.int .u8 32)) w (pk K) fun t27 w=>
 GDo t27 false (fun E=>E t1 w) w fun t29 w=>
 GDo t27 false (fun E=>DoX prog (mBin .gtr 5 t29 (.int .u8 126)) w (pk K) E) w fun t30 w=>
 DoX prog (aL t27 (.bool true) t30) w (pk K) fun t31 w=>
 IfX t31 (CallX prog 54 #[t0,(.int .u8 92)] w (pk K) fun t33 w=>
 DoX prog (aG 209 #[(0,(.int .u8 64)),(1,(.int .u8 8)),(2,(.int .u8 1))]) w (pk K) fun t34 w=>
 LoopX [(.int .i64 0)] w (fun vs1 w N1=>∀_:Sg,jH t0 t1 t34 (vs1.getD 0 undef) w N1 K)) (CallX prog 54 #[t0,t1] w (pk K) fun t8 w=>
 K (.returned (.tuple #[])) w))
theorem A7 (t0 t1:Value)(w:World)(K:Ending→World→Prop):wpX prog 46 [] [(7,[35])] none (aK Tryz.f186) (topQ prog [] K) (aJ [t0,t1]) [] w=nA t0 t1 w K:=by kernel_rfl
theorem A4 {t0 t1:Value}{w:World}{K:Ending→World→Prop}(h:nA t0 t1 w K):Calls prog 186 #[t0,t1] w K:=
 aA Tryz.func186 rfl rfl rfl rfl (Eq.mpr (A7 t0 t1 w K) h)
def qW (t0 t1:Value)(w:World)(K:Ending→World→Prop):Prop:=
 DoX prog (mBin .gtr 5 t1 (.int .u8 32)) w (pk K) fun t5 w=>
 GDo t5 true (fun E=>E t1 w) w fun t7 w=>
 GDo t5 true (fun E=>DoX prog (mBin .leq 5 t7 (.int .u8 126)) w (pk K) E) w fun t8 w=>
 DoX prog (aL t5 t8 (.bool false)) w (pk K) fun t9 w=>
 GDo t9 true (fun E=>E t1 w) w fun t11 w=>
 GDo t9 true (fun E=>DoX prog (mEq .neq 5 (.tmp 11) (.const (.int .u8 35)) t11 (.int .u8 35)) w (pk K) E) w fun t12 w=>
 DoX prog (aL t9 t12 (.bool false)) w (pk K) fun t13 w=>
 GDo t13 true (fun E=>E t1 w) w fun t15 w=>
 GDo t13 true (fun E=>CallX prog 91 #[t15] w (pk K) E) w fun t16 w=>
 GDo t13 true (fun E=>DoX prog (mUn .not t16) w (pk K) E) w fun t17 w=>
 DoX prog (aL t13 t17 (.bool false)) w (pk K) fun t18 w=>
 IfX t18 (CallX prog 54 #[t0,t1] w (pk K) fun t21 w=>
 K (.returned (.tuple #[])) w) (DoX prog (aP 66 1 #[(0,t1)]) w (pk K) fun t24 w=>
 DoX prog (cP 66 9 t24) w (pk K) fun t25 w=>
 CallX prog 95 #[t25] w (pk K) fun t26 w=>
 DoX prog (mBin .add 9 (.string ⟨#[35]⟩) t26) w (pk K) fun t27 w=>
 CallX prog 27 #[t0,t27] w (pk K) fun t28 w=>
 K (.returned (.tuple #[])) w)
theorem CJ (t0 t1:Value)(w:World)(K:Ending→World→Prop):wpX prog 29 [] [] none (aK Tryz.f94) (topQ prog [] K) (aJ [t0,t1]) [] w=qW t0 t1 w K:=by kernel_rfl
theorem Di {t0 t1:Value}{w:World}{K:Ending→World→Prop}(h:qW t0 t1 w K):Calls prog 94 #[t0,t1] w K:=
 aA Tryz.func94 rfl rfl rfl rfl (Eq.mpr (CJ t0 t1 w K) h)
def BS (t0 t3 t10 t11:Value)(w:World)(N1:List Value→World→Prop)(K:Ending→World→Prop):Prop:=
 DoX prog (mBin .lss 3 t11 t10) w (pk K) fun t12 w=>
 IfX t12 (QuietX w (fun C2=>
 QDo prog C2 (mIx 9 t0 t11) fun t17=>
 QDo prog C2 (mBin .shr 5 t17 (.int .u64 4)) fun t18=>
 QDo prog C2 (mIx 9 (.string ⟨#[48,49,50,51,52,53,54,55,56,57,65,66,67,68,69,70]⟩) t18) fun t19=>
 QDo prog C2 (mIx 9 t0 t11) fun t22=>
 QDo prog C2 (mBin .and 5 t22 (.int .u8 15)) fun t23=>
 QDo prog C2 (mIx 9 (.string ⟨#[48,49,50,51,52,53,54,55,56,57,65,66,67,68,69,70]⟩) t23) fun t24=>
 ∀w,C2 w →
 DoX prog (aP 66 2 #[(0,t19),(1,t24)]) w (pm1 (pm1 (pm1 (pm1 (pm1 (pk K)))))) fun t25 w=>
 DoX prog (mB .append #[66,66] 66 #[false,false] #[t3,t25]) w (pm1 (pm1 (pm1 (pm1 (pm1 (pk K)))))) fun t26 w=>
 DoX prog (mBin .add 3 t11 (.int .i64 1)) w (pk K) fun t27 w=>
 N1 [t26,t27] w)) (DoX prog (cP 66 9 t3) w (pk K) fun t29 w=>
 K (.returned t29) w)
def Be (t0:Value)(w:World)(K:Ending→World→Prop):Prop:=
 DoX prog (mB .len #[9] 3 #[false] #[t0]) w (pk K) fun t6 w=>
 DoX prog (mBin .mul 3 (.int .i64 2) t6) w (pk K) fun t7 w=>
 DoX prog (Ri 66 (.int .i64 0) t7) w (pk K) fun t8 w=>
 DoX prog (mB .len #[9] 3 #[false] #[t0]) w (pk K) fun t10 w=>
 LoopX [t8,(.int .i64 0)] w (fun vs1 w N1=>∀_:Sg,BS t0 (vs1.getD 0 undef) t10 (vs1.getD 1 undef) w N1 K)
theorem GM (t0:Value)(w:World)(K:Ending→World→Prop):wpX prog 30 [] [(3,[3,11])] none (aK Tryz.f95) (topQ prog [.tmp 2] K) (aJ [t0]) [] w=Be t0 w K:=by kernel_rfl
theorem GW {t0:Value}{w:World}{K:Ending→World→Prop}(h:Be t0 w K):Calls prog 95 #[t0] w K:=
 aA Tryz.func95 rfl rfl rfl rfl (Eq.mpr (GM t0 w K) h)
def tS (t0:Value)(w:World)(K:Ending→World→Prop):Prop:=
 CallX prog 92 #[(.string ⟨#[40,41,60,62,91,93,123,125,47,37]⟩),t0] w (pk K) fun t4 w=>
 DoX prog (mBin .geq 3 t4 (.int .i64 0)) w (pk K) fun t5 w=>
 K (.returned t5) w
theorem D4 (t0:Value)(w:World)(K:Ending→World→Prop):wpX prog 6 [] [] none (aK Tryz.f91) (topQ prog [.tmp 2] K) (aJ [t0]) [] w=tS t0 w K:=by kernel_rfl
theorem DR {t0:Value}{w:World}{K:Ending→World→Prop}(h:tS t0 w K):Calls prog 91 #[t0] w K:=
 aA Tryz.func91 rfl rfl rfl rfl (Eq.mpr (D4 t0 w K) h)
def pE (t0:Value)(w:World)(K:Ending→World→Prop):Prop:=
 CallX prog 90 #[t0] w (pk K) fun t4 w=>
 DoX prog (mUn .not t4) w (pk K) fun t5 w=>
 GDo t5 true (fun E=>E t0 w) w fun t7 w=>
 GDo t5 true (fun E=>CallX prog 91 #[t7] w (pk K) E) w fun t8 w=>
 GDo t5 true (fun E=>DoX prog (mUn .not t8) w (pk K) E) w fun t9 w=>
 DoX prog (aL t5 t9 (.bool false)) w (pk K) fun t10 w=>
 K (.returned t10) w
theorem B8 (t0:Value)(w:World)(K:Ending→World→Prop):wpX prog 11 [] [] none (aK Tryz.f53) (topQ prog [.tmp 2] K) (aJ [t0]) [] w=pE t0 w K:=by kernel_rfl
theorem Bv {t0:Value}{w:World}{K:Ending→World→Prop}(h:pE t0 w K):Calls prog 53 #[t0] w K:=
 aA Tryz.func53 rfl rfl rfl rfl (Eq.mpr (B8 t0 w K) h)
def uM (t0:Value)(w:World)(K:Ending→World→Prop):Prop:=
 CallX prog 92 #[(.string ⟨#[0,9,10,12,13,32]⟩),t0] w (pk K) fun t4 w=>
 DoX prog (mBin .geq 3 t4 (.int .i64 0)) w (pk K) fun t5 w=>
 K (.returned t5) w
theorem El (t0:Value)(w:World)(K:Ending→World→Prop):wpX prog 6 [] [] none (aK Tryz.f90) (topQ prog [.tmp 2] K) (aJ [t0]) [] w=uM t0 w K:=by kernel_rfl
theorem D7 {t0:Value}{w:World}{K:Ending→World→Prop}(h:uM t0 w K):Calls prog 90 #[t0] w K:=
 aA Tryz.func90 rfl rfl rfl rfl (Eq.mpr (El t0 w K) h)
end
section
open Eng
def zW (t0 t1 r:Value)(w:World)(K:Ending→World→Prop):Prop:=
 DoX prog (mEq .eql 20 (.tmp 7) (.const .nilIface) r .nilIface) w (pk K) fun t9 w=>
 IfX t9 (K (.returned (.tuple #[])) w) (DoX prog (mTA r 20 218 true) w (pk K) fun t10 w=>
 DoX prog (mExt t10 1) w (pk K) fun t11 w=>
 DoX prog (mExt t10 0) w (pk K) fun t12 w=>
 IfX t11 (DoX prog (mNil t0) w (pk K) fun t16 w=>
 DoX prog (aD 2 t16 (.int .i64 0)) w (pk K) fun _ w=>
 DoX prog (mNil t1) w (pk K) fun t17 w=>
 DoX prog (aD 24 t17 t12) w (pk K) fun _ w=>
 K (.returned (.tuple #[])) w) (DoX prog (iT r) w (pk K) fun _ w=>
 K (.returned (.tuple #[])) w))
theorem Ja (t0 t1 r:Value)(w:World)(K:Ending→World→Prop):wpX prog 18 [] [] none (RJ (aK Tryz.f166)) (topD prog [] K) (upd (aJ [t0,t1]) 7 r) [] w=zW t0 t1 r w K:=by kernel_rfl
theorem AK {t0 t1:Value}{u:FrameMode}{w:World}{R:Ending→FrameMode→World→Prop}(h:zW t0 t1 (recV u) w (fun e w=>R e (recM u) w)):CallsD prog 166 #[t0,t1] u w R:=
 lH Tryz.func166 rfl rfl rfl rfl rfl rfl rfl rfl (Eq.mpr (Ja t0 t1 (recV u) w _) h)
def yW (t0:Value)(w:World)(K:Ending→World→Prop):Prop:=
 DoX prog (mBin .geq 2 t0 (.int .i64 (-1073741824))) w (pk K) fun t4 w=>
 GDo t4 true (fun E=>E t0 w) w fun t6 w=>
 GDo t4 true (fun E=>DoX prog (mBin .leq 2 t6 (.int .i64 1073741824)) w (pk K) E) w fun t7 w=>
 DoX prog (aL t4 t7 (.bool false)) w (pk K) fun t8 w=>
 K (.returned t8) w
theorem Fj (t0:Value)(w:World)(K:Ending→World→Prop):wpX prog 9 [] [] none (aK Tryz.f196) (topQ prog [.tmp 2] K) (aJ [t0]) [] w=yW t0 w K:=by kernel_rfl
theorem EM {t0:Value}{w:World}{K:Ending→World→Prop}(h:yW t0 w K):Calls prog 196 #[t0] w K:=
 aA Tryz.func196 rfl rfl rfl rfl (Eq.mpr (Fj t0 w K) h)
def xS (t6:Value)(w:World)(N1:List Value→World→Prop)(K:Ending→World→Prop):Prop:=
 DoX prog (mBin .add 3 t6 (.int .i64 1)) w (pk K) fun t14 w=>
 N1 [t14] w
def zJ (t4 t5 t6:Value)(w:World)(N1:List Value→World→Prop)(K:Ending→World→Prop):Prop:=
 DoX prog (mBin .lss 3 t6 t5) w (pk K) fun t7 w=>
 IfX t7 (JoinX (fun J2=>
 DoX prog (mIA 36 t4 t6) w (pk K) fun t8 w=>
 DoX prog (aB 2 t8) w (pk K) fun t9 w=>
 CallX prog 196 #[t9] w (pk K) fun t11 w=>
 DoX prog (mUn .not t11) w (pk K) fun t12 w=>
 IfX t12 (DoX prog (pU 218 (.int .i64 2)) w (pk K) fun t13 w=>
 DoX prog (iT t13) w (pk K) fun _ w=>
 J2 [] w) (J2 [] w)) (fun vs2 w=>∀_:Sg,xS t6 w N1 K)) (K (.returned (.tuple #[])) w)
def sS (t0:Value)(w:World)(K:Ending→World→Prop):Prop:=
 DoX prog (mB .len #[36] 3 #[false] #[t0]) w (pk K) fun t5 w=>
 LoopX [(.int .i64 0)] w (fun vs1 w N1=>∀_:Sg,zJ t0 t5 (vs1.getD 0 undef) w N1 K)
theorem Eh (t0:Value)(w:World)(K:Ending→World→Prop):wpX prog 15 [(5,[])] [(1,[6])] none (aK Tryz.f170) (topQ prog [] K) (aJ [t0]) [] w=sS t0 w K:=by kernel_rfl
theorem DS {t0:Value}{w:World}{K:Ending→World→Prop}(h:sS t0 w K):Calls prog 170 #[t0] w K:=
 aA Tryz.func170 rfl rfl rfl rfl (Eq.mpr (Eh t0 w K) h)
def FY (t0 t1 t5:Value)(w:World)(N1:List Value→World→Prop)(K:Ending→World→Prop):Prop:=
 DoX prog (mBin .gtr 2 t0 (.int .i64 0)) w (pk K) fun t7 w=>
 GDo t7 false (fun E=>E t5 w) w fun t9 w=>
 GDo t7 false (fun E=>DoX prog (mB .len #[9] 3 #[false] #[t9]) w (pk K) E) w fun t10 w=>
 GDo t7 false (fun E=>E t1 w) w fun t11 w=>
 GDo t7 false (fun E=>DoX prog (mBin .lss 3 t10 t11) w (pk K) E) w fun t12 w=>
 DoX prog (aL t7 (.bool true) t12) w (pk K) fun t13 w=>
 IfX t13 (DoX prog (mBin .rem 2 t0 (.int .i64 10)) w (pk K) fun t15 w=>
 DoX prog (mBin .add 2 (.int .i64 48) t15) w (pk K) fun t16 w=>
 DoX prog (cP 2 5 t16) w (pk K) fun t17 w=>
 DoX prog (aP 66 1 #[(0,t17)]) w (pk K) fun t18 w=>
 DoX prog (cP 66 9 t18) w (pk K) fun t19 w=>
 DoX prog (mBin .add 9 t19 t5) w (pk K) fun t21 w=>
 DoX prog (mBin .quo 2 t0 (.int .i64 10)) w (pk K) fun t23 w=>
 N1 [t23,t21] w) (K (.returned t5) w)
def S_fix_row (t0 t1:Value)(w:World)(K:Ending→World→Prop):Prop:=
 LoopX [t0,(.string ⟨#[]⟩)] w (fun vs1 w N1=>∀_:Sg,FY (vs1.getD 0 undef) t1 (vs1.getD 1 undef) w N1 K)
theorem Jl (t0 t1:Value)(w:World)(K:Ending→World→Prop):wpX prog 25 [] [(2,[0,5])] none (aK Tryz.f212) (topQ prog [.tmp 4] K) (aJ [t0,t1]) [] w=S_fix_row t0 t1 w K:=by kernel_rfl
theorem Jq {t0 t1:Value}{w:World}{K:Ending→World→Prop}(h:S_fix_row t0 t1 w K):Calls prog 212 #[t0,t1] w K:=
 aA Tryz.func212 rfl rfl rfl rfl (Eq.mpr (Jl t0 t1 w K) h)
def DH (t3 t4 t5:Value)(w:World)(K:Ending→World→Prop):Prop:=
 DoX prog (mBin .add 9 t3 t4) w (pk K) fun t24 w=>
 DoX prog (mBin .add 9 t24 (.string ⟨#[46]⟩)) w (pk K) fun t25 w=>
 DoX prog (mBin .add 9 t25 t5) w (pk K) fun t27 w=>
 K (.returned t27) w
def yZ (t0 t3:Value)(w:World)(K:Ending→World→Prop):Prop:=
 DoX prog (mBin .quo 2 t0 (.int .i64 10000)) w (pk K) fun t14 w=>
 CallX prog 212 #[t14,(.int .i64 1)] w (pk K) fun t15 w=>
 DoX prog (mBin .rem 2 t0 (.int .i64 10000)) w (pk K) fun t17 w=>
 CallX prog 212 #[t17,(.int .i64 4)] w (pk K) fun t18 w=>
 CallX prog 169 #[t18,(.string ⟨#[48]⟩)] w (pk K) fun t19 w=>
 JoinX (fun J2=>
 DoX prog (mEq .eql 9 (.tmp 20) (.const (.string ⟨#[]⟩)) t19 (.string ⟨#[]⟩)) w (pk K) fun t21 w=>
 IfX t21 (J2 [(.string ⟨#[48]⟩)] w) (J2 [t19] w)) (fun vs2 w=>∀_:Sg,DH t3 t15 (vs2.getD 0 undef) w K)
def CF (t0:Value)(w:World)(K:Ending→World→Prop):Prop:=
 CallX prog 196 #[t0] w (pk K) fun t7 w=>
 DoX prog (mUn .not t7) w (pk K) fun t8 w=>
 IfX t8 (K (.returned (.string ⟨#[]⟩)) w) (JoinX (fun J1=>
 DoX prog (mBin .lss 2 t0 (.int .i64 0)) w (pk K) fun t10 w=>
 IfX t10 (DoX prog (mUn .neg t0) w (pk K) fun t12 w=>
 J1 [t12,(.string ⟨#[45]⟩)] w) (J1 [t0,(.string ⟨#[]⟩)] w)) (fun vs1 w=>∀_:Sg,yZ (vs1.getD 0 undef) (vs1.getD 1 undef) w K))
theorem H6 (t0:Value)(w:World)(K:Ending→World→Prop):wpX prog 28 [(6,[0,3]),(10,[5])] [] none (aK Tryz.f185) (topQ prog [.tmp 2] K) (aJ [t0]) [] w=CF t0 w K:=by kernel_rfl
theorem IG {t0:Value}{w:World}{K:Ending→World→Prop}(h:CF t0 w K):Calls prog 185 #[t0] w K:=
 aA Tryz.func185 rfl rfl rfl rfl (Eq.mpr (H6 t0 w K) h)
def yI (t0:Value)(w:World)(K:Ending→World→Prop):Prop:=
 CallX prog 164 #[t0,(.string ⟨#[48,49,50,51,52,53,54,55,56,57]⟩)] w (pk K) fun t4 w=>
 DoX prog (mEq .eql 9 (.tmp 4) (.const (.string ⟨#[]⟩)) t4 (.string ⟨#[]⟩)) w (pk K) fun t5 w=>
 K (.returned t5) w
theorem F1 (t0:Value)(w:World)(K:Ending→World→Prop):wpX prog 6 [] [] none (aK Tryz.f168) (topQ prog [.tmp 2] K) (aJ [t0]) [] w=yI t0 w K:=by kernel_rfl
theorem Ft {t0:Value}{w:World}{K:Ending→World→Prop}(h:yI t0 w K):Calls prog 168 #[t0] w K:=
 aA Tryz.func168 rfl rfl rfl rfl (Eq.mpr (F1 t0 w K) h)
def aF (x0:Value)(x1:Value)(K:Ending→World→Prop):=pd prog [.cell x0 2,.cell x1 24] K [{ target:=.fn (.func 166) #[],args:=#[x0,x1] }]
def Dz (t2 t3:Value)(w:World)(K:Ending→World→Prop):Prop:=
 DoX prog (aB 2 t2) w (aF t2 t3 K) fun t93 w=>
 DoX prog (aP 36 1 #[(0,t93)]) w (aF t2 t3 K) fun t94 w=>
 CallX prog 170 #[t94] w (aF t2 t3 K) fun t95 w=>
 DoX prog (aB 2 t2) w (aF t2 t3 K) fun t96 w=>
 DoX prog (aD 2 t2 t96) w (aF t2 t3 K) fun _ w=>
 DoX prog (aD 24 t3 (.int .i64 0)) w (aF t2 t3 K) fun _ w=>
 oO prog [.cell t2 2,.cell t3 24] K [{ target:=.fn (.func 166) #[],args:=#[t2,t3] }] .returning w
def yM (t2 t3 t4:Value)(w:World)(K:Ending→World→Prop):Prop:=
 JoinX (fun J5=>
 IfX t4 (DoX prog (aB 2 t2) w (aF t2 t3 K) fun t91 w=>
 DoX prog (mUn .neg t91) w (aF t2 t3 K) fun t92 w=>
 DoX prog (aD 2 t2 t92) w (aF t2 t3 K) fun _ w=>
 AtX [{ target:=.fn (.func 166) #[],args:=#[t2,t3] }] [{ target:=.fn (.func 166) #[],args:=#[t2,t3] }] (J5 [] w)) (AtX [{ target:=.fn (.func 166) #[],args:=#[t2,t3] }] [{ target:=.fn (.func 166) #[],args:=#[t2,t3] }] (J5 [] w))) (fun vs5 w=>∀_:Sg,Dz t2 t3 w K)
def DI (t2 t3 t4 t6 t62:Value)(w:World)(N3:List Value→World→Prop)(K:Ending→World→Prop):Prop:=
 DoX prog (GS t62 true 0) w (aF t2 t3 K) fun t63 w=>
 DoX prog (mExt t63 0) w (aF t2 t3 K) fun t64 w=>
 IfX t64 (DoX prog (mExt t63 2) w (aF t2 t3 K) fun t65 w=>
 DoX prog (aB 2 t2) w (aF t2 t3 K) fun t66 w=>
 DoX prog (mBin .mul 2 (.int .i64 10) t66) w (aF t2 t3 K) fun t67 w=>
 DoX prog (mBin .sub 21 t65 (.int .i32 48)) w (aF t2 t3 K) fun t69 w=>
 DoX prog (cP 21 2 t69) w (aF t2 t3 K) fun t70 w=>
 DoX prog (mBin .add 2 t67 t70) w (aF t2 t3 K) fun t71 w=>
 DoX prog (aD 2 t2 t71) w (aF t2 t3 K) fun _ w=>
 AtX [{ target:=.fn (.func 166) #[],args:=#[t2,t3] }] [{ target:=.fn (.func 166) #[],args:=#[t2,t3] }] (N3 [] w)) (DoX prog (bT 9 t6 (some (.int .i64 4)) none none) w (aF t2 t3 K) fun t73 w=>
 CallX prog 169 #[t73,(.string ⟨#[48]⟩)] w (aF t2 t3 K) fun t74 w=>
 JoinX (fun J4=>
 GDo t4 true (fun E=>E t74 w) w fun t77 w=>
 GDo t4 true (fun E=>DoX prog (mBin .gtr 9 t77 (.string ⟨#[53]⟩)) w (aF t2 t3 K) E) w fun t78 w=>
 DoX prog (aL t4 t78 (.bool false)) w (aF t2 t3 K) fun t79 w=>
 GDo t79 false (fun E=>E t4 w) w fun t81 w=>
 GDo t79 false (fun E=>DoX prog (mUn .not t81) w (aF t2 t3 K) E) w fun t82 w=>
 GDo t79 false (fun E=>E t82 w) w fun t83 w=>
 GDo t83 true (fun E=>E t74 w) w fun t84 w=>
 GDo t83 true (fun E=>DoX prog (mBin .geq 9 t84 (.string ⟨#[53]⟩)) w (aF t2 t3 K) E) w fun t85 w=>
 GDo t79 false (fun E=>DoX prog (aL t83 t85 (.bool false)) w (aF t2 t3 K) E) w fun t86 w=>
 DoX prog (aL t79 (.bool true) t86) w (aF t2 t3 K) fun t87 w=>
 IfX t87 (DoX prog (aB 2 t2) w (aF t2 t3 K) fun t88 w=>
 DoX prog (mBin .add 2 t88 (.int .i64 1)) w (aF t2 t3 K) fun t89 w=>
 DoX prog (aD 2 t2 t89) w (aF t2 t3 K) fun _ w=>
 AtX [{ target:=.fn (.func 166) #[],args:=#[t2,t3] }] [{ target:=.fn (.func 166) #[],args:=#[t2,t3] }] (J4 [] w)) (AtX [{ target:=.fn (.func 166) #[],args:=#[t2,t3] }] [{ target:=.fn (.func 166) #[],args:=#[t2,t3] }] (J4 [] w))) (fun vs4 w=>∀_:Sg,yM t2 t3 t4 w K))
def yH (t2 t3 t4 t6 t46:Value)(w:World)(N2:List Value→World→Prop)(K:Ending→World→Prop):Prop:=
 DoX prog (GS t46 true 0) w (aF t2 t3 K) fun t47 w=>
 DoX prog (mExt t47 0) w (aF t2 t3 K) fun t48 w=>
 IfX t48 (DoX prog (mExt t47 2) w (aF t2 t3 K) fun t49 w=>
 DoX prog (aB 2 t2) w (aF t2 t3 K) fun t50 w=>
 DoX prog (mBin .mul 2 (.int .i64 10) t50) w (aF t2 t3 K) fun t51 w=>
 DoX prog (mBin .sub 21 t49 (.int .i32 48)) w (aF t2 t3 K) fun t53 w=>
 DoX prog (cP 21 2 t53) w (aF t2 t3 K) fun t54 w=>
 DoX prog (mBin .add 2 t51 t54) w (aF t2 t3 K) fun t55 w=>
 DoX prog (aD 2 t2 t55) w (aF t2 t3 K) fun _ w=>
 DoX prog (aB 2 t2) w (aF t2 t3 K) fun t56 w=>
 DoX prog (mBin .gtr 2 t56 (.int .i64 1073741824)) w (aF t2 t3 K) fun t57 w=>
 IfX t57 (DoX prog (aD 2 t2 (.int .i64 0)) w (aF t2 t3 K) fun _ w=>
 DoX prog (aD 24 t3 (.int .i64 2)) w (aF t2 t3 K) fun _ w=>
 oO prog [.cell t2 2,.cell t3 24] K [{ target:=.fn (.func 166) #[],args:=#[t2,t3] }] .returning w) (AtX [{ target:=.fn (.func 166) #[],args:=#[t2,t3] }] [{ target:=.fn (.func 166) #[],args:=#[t2,t3] }] (N2 [] w))) (DoX prog (mBin .add 9 t6 (.string ⟨#[48,48,48,48,48]⟩)) w (aF t2 t3 K) fun t59 w=>
 DoX prog (bT 9 t59 none (some (.int .i64 4)) none) w (aF t2 t3 K) fun t61 w=>
 DoX prog (uR 9 t61) w (aF t2 t3 K) fun t62 w=>
 LoopX [] w (fun vs3 w N3=>∀_:Sg,DI t2 t3 t4 t59 t62 w N3 K))
def yN (t0 t2 t3 t4:Value)(w:World)(K:Ending→World→Prop):Prop:=
 CallX prog 167 #[t0,(.string ⟨#[46]⟩)] w (aF t2 t3 K) fun t27 w=>
 DoX prog (mExt t27 0) w (aF t2 t3 K) fun t28 w=>
 DoX prog (mExt t27 1) w (aF t2 t3 K) fun t29 w=>
 DoX prog (mExt t27 2) w (aF t2 t3 K) fun t30 w=>
 DoX prog (mBin .add 9 t28 t29) w (aF t2 t3 K) fun t33 w=>
 DoX prog (mEq .eql 9 (.tmp 33) (.const (.string ⟨#[]⟩)) t33 (.string ⟨#[]⟩)) w (aF t2 t3 K) fun t34 w=>
 GDo t34 false (fun E=>E t28 w) w fun t36 w=>
 GDo t34 false (fun E=>CallX prog 168 #[t36] w (aF t2 t3 K) E) w fun t37 w=>
 GDo t34 false (fun E=>DoX prog (mUn .not t37) w (aF t2 t3 K) E) w fun t38 w=>
 DoX prog (aL t34 (.bool true) t38) w (aF t2 t3 K) fun t39 w=>
 GDo t39 false (fun E=>E t29 w) w fun t41 w=>
 GDo t39 false (fun E=>CallX prog 168 #[t41] w (aF t2 t3 K) E) w fun t42 w=>
 GDo t39 false (fun E=>DoX prog (mUn .not t42) w (aF t2 t3 K) E) w fun t43 w=>
 DoX prog (aL t39 (.bool true) t43) w (aF t2 t3 K) fun t44 w=>
 IfX t44 (DoX prog (aD 2 t2 (.int .i64 0)) w (aF t2 t3 K) fun _ w=>
 DoX prog (aD 24 t3 (.int .i64 3)) w (aF t2 t3 K) fun _ w=>
 oO prog [.cell t2 2,.cell t3 24] K [{ target:=.fn (.func 166) #[],args:=#[t2,t3] }] .returning w) (DoX prog (uR 9 t28) w (aF t2 t3 K) fun t46 w=>
 LoopX [] w (fun vs2 w N2=>∀_:Sg,yH t2 t3 t4 t29 t46 w N2 K))
def Dl (t0:Value)(w:World)(K:Ending→World→Prop):Prop:=
 DoX prog (aN 2) w (pk K) fun t2 w=>
 DoX prog (aN 24) w (pk K) fun t3 w=>
 DoX prog (mB .len #[9] 3 #[false] #[t0]) w (aF t2 t3 K) fun t14 w=>
 DoX prog (mBin .gtr 3 t14 (.int .i64 40)) w (aF t2 t3 K) fun t15 w=>
 IfX t15 (DoX prog (aD 2 t2 (.int .i64 0)) w (aF t2 t3 K) fun _ w=>
 DoX prog (aD 24 t3 (.int .i64 3)) w (aF t2 t3 K) fun _ w=>
 oO prog [.cell t2 2,.cell t3 24] K [{ target:=.fn (.func 166) #[],args:=#[t2,t3] }] .returning w) (CallX prog 137 #[t0,(.string ⟨#[45]⟩)] w (aF t2 t3 K) fun t17 w=>
 JoinX (fun J1=>
 GDo t17 false (fun E=>E t0 w) w fun t20 w=>
 GDo t17 false (fun E=>CallX prog 137 #[t20,(.string ⟨#[43]⟩)] w (aF t2 t3 K) E) w fun t21 w=>
 DoX prog (aL t17 (.bool true) t21) w (aF t2 t3 K) fun t22 w=>
 IfX t22 (DoX prog (bT 9 t0 (some (.int .i64 1)) none none) w (aF t2 t3 K) fun t24 w=>
 AtX [{ target:=.fn (.func 166) #[],args:=#[t2,t3] }] [{ target:=.fn (.func 166) #[],args:=#[t2,t3] }] (J1 [t24] w)) (AtX [{ target:=.fn (.func 166) #[],args:=#[t2,t3] }] [{ target:=.fn (.func 166) #[],args:=#[t2,t3] }] (J1 [t0] w))) (fun vs1 w=>∀_:Sg,yN (vs1.getD 0 undef) t2 t3 t17 w K))
theorem IM (t0:Value)(w:World)(K:Ending→World→Prop):wpX prog 97 [(7,[0]),(24,[]),(26,[])] [(11,[]),(18,[])] none (aK Tryz.f146) (topQ prog [.cell 2 2,.cell 3 24] K) (aJ [t0]) [] w=Dl t0 w K:=by kernel_rfl
theorem Iy {t0:Value}{w:World}{K:Ending→World→Prop}(h:Dl t0 w K):Calls prog 146 #[t0] w K:=
 aA Tryz.func146 rfl rfl rfl rfl (Eq.mpr (IM t0 w K) h)
end
section
open Eng
def fB (t0:Value)(w:World)(K:Ending→World→Prop):Prop:=
 DoX prog (mBin .geq 2 t0 (.int .i64 (-1073741824))) w (pk K) fun t4 w=>
 GDo t4 true (fun E=>E t0 w) w fun t6 w=>
 GDo t4 true (fun E=>DoX prog (mBin .leq 2 t6 (.int .i64 1073741824)) w (pk K) E) w fun t7 w=>
 DoX prog (aL t4 t7 (.bool false)) w (pk K) fun t8 w=>
 K (.returned t8) w
theorem rS (t0:Value)(w:World)(K:Ending→World→Prop):wpX prog 9 [] [] none (aK Tryz.f154) (topQ prog [.tmp 2] K) (aJ [t0]) [] w=fB t0 w K:=by kernel_rfl
theorem rO {t0:Value}{w:World}{K:Ending→World→Prop}(h:fB t0 w K):Calls prog 154 #[t0] w K:=
 aA Tryz.func154 rfl rfl rfl rfl (Eq.mpr (rS t0 w K) h)
def lS (t7 t8 t9 t10:Value)(w:World)(N2:List Value→World→Prop)(K:Ending→World→Prop):Prop:=
 DoX prog (mBin .add 3 t10 (.int .i64 1)) w (pk K) fun t36 w=>
 N2 [t7,t8,t9,t36] w
def mO (t0 t6 t7 t8 t9 t10:Value)(w:World)(N2:List Value→World→Prop)(K:Ending→World→Prop):Prop:=
 DoX prog (mB .len #[9] 3 #[false] #[t0]) w (pk K) fun t33 w=>
 DoX prog (mBin .lss 3 t10 t33) w (pk K) fun t34 w=>
 IfX t34 (JoinX (fun J3=>
 DoX prog (mIx 9 t0 t10) w (pk K) fun t39 w=>
 DoX prog (mEq .eql 5 (.tmp 39) (.const (.int .u8 46)) t39 (.int .u8 46)) w (pk K) fun t40 w=>
 GDo t40 true (fun E=>E t9 w) w fun t42 w=>
 GDo t40 true (fun E=>DoX prog (mUn .not t42) w (pk K) E) w fun t43 w=>
 DoX prog (aL t40 t43 (.bool false)) w (pk K) fun t44 w=>
 IfX t44 (J3 [t7,t8,(.bool true)] w) (DoX prog (mIx 9 t0 t10) w (pk K) fun t47 w=>
 DoX prog (mBin .lss 5 t47 (.int .u8 48)) w (pk K) fun t48 w=>
 GDo t48 false (fun E=>E t0 w) w fun t50 w=>
 GDo t48 false (fun E=>E t10 w) w fun t51 w=>
 GDo t48 false (fun E=>DoX prog (mIx 9 t50 t51) w (pk K) E) w fun t52 w=>
 GDo t48 false (fun E=>DoX prog (mBin .gtr 5 t52 (.int .u8 57)) w (pk K) E) w fun t53 w=>
 DoX prog (aL t48 (.bool true) t53) w (pk K) fun t54 w=>
 IfX t54 (K (.returned (.tuple #[(.string ⟨#[]⟩),(.string ⟨#[]⟩),(.bool false),(.bool false)])) w) (IfX t9 (DoX prog (mBin .add 3 t10 (.int .i64 1)) w (pk K) fun t60 w=>
 DoX prog (bT 9 t0 (some t10) (some t60) none) w (pk K) fun t61 w=>
 DoX prog (mBin .add 9 t8 t61) w (pk K) fun t62 w=>
 J3 [t7,t62,t9] w) (DoX prog (mBin .add 3 t10 (.int .i64 1)) w (pk K) fun t67 w=>
 DoX prog (bT 9 t0 (some t10) (some t67) none) w (pk K) fun t68 w=>
 DoX prog (mBin .add 9 t7 t68) w (pk K) fun t69 w=>
 J3 [t69,t8,t9] w)))) (fun vs3 w=>∀_:Sg,lS (vs3.getD 0 undef) (vs3.getD 1 undef) (vs3.getD 2 undef) t10 w N2 K)) (DoX prog (mB .len #[9] 3 #[false] #[t7]) w (pk K) fun t74 w=>
 DoX prog (mB .len #[9] 3 #[false] #[t8]) w (pk K) fun t76 w=>
 DoX prog (mBin .add 3 t74 t76) w (pk K) fun t77 w=>
 DoX prog (mBin .gtr 3 t77 (.int .i64 0)) w (pk K) fun t78 w=>
 K (.returned (.tuple #[t7,t8,t6,t78])) w)
def eY (t0 t6:Value)(w:World)(K:Ending→World→Prop):Prop:=
 LoopX [(.string ⟨#[]⟩),(.string ⟨#[]⟩),(.bool false),(.int .i64 0)] w (fun vs2 w N2=>∀_:Sg,mO t0 t6 (vs2.getD 0 undef) (vs2.getD 1 undef) (vs2.getD 2 undef) (vs2.getD 3 undef) w N2 K)
def iJ (t0:Value)(w:World)(K:Ending→World→Prop):Prop:=
 DoX prog (mB .len #[9] 3 #[false] #[t0]) w (pk K) fun t12 w=>
 DoX prog (mBin .gtr 3 t12 (.int .i64 40)) w (pk K) fun t13 w=>
 IfX t13 (K (.returned (.tuple #[(.string ⟨#[]⟩),(.string ⟨#[]⟩),(.bool false),(.bool false)])) w) (JoinX (fun J1=>
 DoX prog (mEq .neq 9 (.tmp 14) (.const (.string ⟨#[]⟩)) t0 (.string ⟨#[]⟩)) w (pk K) fun t15 w=>
 GDo t15 true (fun E=>E t0 w) w fun t17 w=>
 GDo t15 true (fun E=>DoX prog (mIx 9 t17 (.int .i64 0)) w (pk K) E) w fun t18 w=>
 GDo t15 true (fun E=>DoX prog (mEq .eql 5 (.tmp 18) (.const (.int .u8 43)) t18 (.int .u8 43)) w (pk K) E) w fun t19 w=>
 GDo t15 true (fun E=>E t19 w) w fun t20 w=>
 GDo t20 false (fun E=>E t0 w) w fun t21 w=>
 GDo t20 false (fun E=>DoX prog (mIx 9 t21 (.int .i64 0)) w (pk K) E) w fun t22 w=>
 GDo t20 false (fun E=>DoX prog (mEq .eql 5 (.tmp 22) (.const (.int .u8 45)) t22 (.int .u8 45)) w (pk K) E) w fun t23 w=>
 GDo t15 true (fun E=>DoX prog (aL t20 (.bool true) t23) w (pk K) E) w fun t24 w=>
 DoX prog (aL t15 t24 (.bool false)) w (pk K) fun t25 w=>
 IfX t25 (DoX prog (mIx 9 t0 (.int .i64 0)) w (pk K) fun t27 w=>
 DoX prog (mEq .eql 5 (.tmp 27) (.const (.int .u8 45)) t27 (.int .u8 45)) w (pk K) fun t28 w=>
 DoX prog (bT 9 t0 (some (.int .i64 1)) none none) w (pk K) fun t30 w=>
 J1 [t30,t28] w) (J1 [t0,(.bool false)] w)) (fun vs1 w=>∀_:Sg,eY (vs1.getD 0 undef) (vs1.getD 1 undef) w K))
theorem wG (t0:Value)(w:World)(K:Ending→World→Prop):wpX prog 79 [(7,[0,6]),(10,[7,8,9])] [(9,[7,8,9,10])] none (aK Tryz.f153) (topQ prog [.tmp 2,.tmp 3,.tmp 4,.tmp 5] K) (aJ [t0]) [] w=iJ t0 w K:=by kernel_rfl
theorem vF {t0:Value}{w:World}{K:Ending→World→Prop}(h:iJ t0 w K):Calls prog 153 #[t0] w K:=
 aA Tryz.func153 rfl rfl rfl rfl (Eq.mpr (wG t0 w K) h)
def eN (t8:Value)(w:World)(K:Ending→World→Prop):Prop:=
 CallX prog 154 #[t8] w (pk K) fun t84 w=>
 DoX prog (mUn .not t84) w (pk K) fun t85 w=>
 IfX t85 (K (.returned (.tuple #[(.int .i64 0),(.int .i64 2)])) w) (K (.returned (.tuple #[t8,(.int .i64 0)])) w)
def eR (t6 t8:Value)(w:World)(K:Ending→World→Prop):Prop:=
 JoinX (fun J6=>
 IfX t6 (DoX prog (mUn .neg t8) w (pk K) fun t82 w=>
 J6 [t82] w) (J6 [t8] w)) (fun vs6 w=>∀_:Sg,eN (vs6.getD 0 undef) w K)
def fC (t6 t8 t12:Value)(w:World)(K:Ending→World→Prop):Prop:=
 JoinX (fun J5=>
 IfX t12 (DoX prog (mBin .add 2 t8 (.int .i64 1)) w (pk K) fun t79 w=>
 J5 [t79] w) (J5 [t8] w)) (fun vs5 w=>∀_:Sg,eR t6 (vs5.getD 0 undef) w K)
def mQ (t11 t13 t14:Value)(w:World)(J3 N4:List Value→World→Prop)(K:Ending→World→Prop):Prop:=
 DoX prog (mB .len #[9] 3 #[false] #[t11]) w (pk K) fun t65 w=>
 DoX prog (mBin .lss 3 t14 t65) w (pk K) fun t66 w=>
 IfX t66 (GDo t13 false (fun E=>E t11 w) w fun t71 w=>
 GDo t13 false (fun E=>E t14 w) w fun t72 w=>
 GDo t13 false (fun E=>DoX prog (mIx 9 t71 t72) w (pk K) E) w fun t73 w=>
 GDo t13 false (fun E=>DoX prog (mBin .gtr 5 t73 (.int .u8 48)) w (pk K) E) w fun t74 w=>
 DoX prog (aL t13 (.bool true) t74) w (pk K) fun t75 w=>
 DoX prog (mBin .add 3 t14 (.int .i64 1)) w (pk K) fun t68 w=>
 N4 [t75,t68] w) (J3 [t13] w)
def eX (t6 t8 t11:Value)(w:World)(K:Ending→World→Prop):Prop:=
 DoX prog (mEq .neq 9 (.tmp 49) (.const (.string ⟨#[]⟩)) t11 (.string ⟨#[]⟩)) w (pk K) fun t50 w=>
 GDo t50 true (fun E=>E t11 w) w fun t52 w=>
 GDo t50 true (fun E=>DoX prog (mIx 9 t52 (.int .i64 0)) w (pk K) E) w fun t53 w=>
 GDo t50 true (fun E=>DoX prog (mBin .geq 5 t53 (.int .u8 53)) w (pk K) E) w fun t54 w=>
 DoX prog (aL t50 t54 (.bool false)) w (pk K) fun t55 w=>
 JoinX (fun J3=>
 GDo t55 true (fun E=>E t6 w) w fun t58 w=>
 DoX prog (aL t55 t58 (.bool false)) w (pk K) fun t59 w=>
 IfX t59 (DoX prog (mIx 9 t11 (.int .i64 0)) w (pk K) fun t61 w=>
 DoX prog (mBin .gtr 5 t61 (.int .u8 53)) w (pk K) fun t62 w=>
 LoopX [t62,(.int .i64 1)] w (fun vs4 w N4=>∀_:Sg,mQ t11 (vs4.getD 0 undef) (vs4.getD 1 undef) w J3 N4 K)) (J3 [t55] w)) (fun vs3 w=>∀_:Sg,fC t6 t8 (vs3.getD 0 undef) w K)
def lL (t5 t6 t8 t9 t10:Value)(w:World)(N1:List Value→World→Prop)(K:Ending→World→Prop):Prop:=
 DoX prog (mB .len #[9] 3 #[false] #[t9]) w (pk K) fun t31 w=>
 DoX prog (mBin .lss 3 t10 t31) w (pk K) fun t32 w=>
 IfX t32 (DoX prog (mBin .mul 2 (.int .i64 10) t8) w (pk K) fun t36 w=>
 DoX prog (mIx 9 t9 t10) w (pk K) fun t39 w=>
 DoX prog (mBin .sub 5 t39 (.int .u8 48)) w (pk K) fun t40 w=>
 DoX prog (cP 5 2 t40) w (pk K) fun t41 w=>
 DoX prog (mBin .add 2 t36 t41) w (pk K) fun t42 w=>
 DoX prog (mB .min #[2,2] 2 #[false,true] #[t42,(.int .i64 1099511627776)]) w (pk K) fun t43 w=>
 DoX prog (mBin .add 3 t10 (.int .i64 1)) w (pk K) fun t34 w=>
 N1 [t43,t34] w) (JoinX (fun J2=>
 DoX prog (mB .len #[9] 3 #[false] #[t5]) w (pk K) fun t45 w=>
 DoX prog (mBin .gtr 3 t45 (.int .i64 4)) w (pk K) fun t46 w=>
 IfX t46 (DoX prog (bT 9 t5 (some (.int .i64 4)) none none) w (pk K) fun t48 w=>
 J2 [t48] w) (J2 [(.string ⟨#[]⟩)] w)) (fun vs2 w=>∀_:Sg,eX t6 t8 (vs2.getD 0 undef) w K))
def gM (t0:Value)(w:World)(K:Ending→World→Prop):Prop:=
 CallX prog 153 #[t0] w (pk K) fun t17 w=>
 DoX prog (mExt t17 0) w (pk K) fun t18 w=>
 DoX prog (mExt t17 1) w (pk K) fun t19 w=>
 DoX prog (mExt t17 2) w (pk K) fun t20 w=>
 DoX prog (mExt t17 3) w (pk K) fun t21 w=>
 DoX prog (mUn .not t21) w (pk K) fun t23 w=>
 IfX t23 (K (.returned (.tuple #[(.int .i64 0),(.int .i64 3)])) w) (DoX prog (mBin .add 9 t19 (.string ⟨#[48,48,48,48]⟩)) w (pk K) fun t26 w=>
 DoX prog (bT 9 t26 none (some (.int .i64 4)) none) w (pk K) fun t27 w=>
 DoX prog (mBin .add 9 t18 t27) w (pk K) fun t28 w=>
 LoopX [(.int .i64 0),(.int .i64 0)] w (fun vs1 w N1=>∀_:Sg,lL t19 t20 (vs1.getD 0 undef) t28 (vs1.getD 1 undef) w N1 K))
theorem vT (t0:Value)(w:World)(K:Ending→World→Prop):wpX prog 87 [(13,[11]),(21,[12]),(23,[8]),(25,[8])] [(7,[8,10]),(17,[13,14])] none (aK Tryz.f119) (topQ prog [.tmp 2,.tmp 3] K) (aJ [t0]) [] w=gM t0 w K:=by kernel_rfl
theorem vP {t0:Value}{w:World}{K:Ending→World→Prop}(h:gM t0 w K):Calls prog 119 #[t0] w K:=
 aA Tryz.func119 rfl rfl rfl rfl (Eq.mpr (vT t0 w K) h)
end
section
open Eng Go.RowKit
theorem HE (n:Int)(w:World):Ret prog 196 #[.int .i64 n] w (fun v w'=>v=.bool (Fx.okB n)∧w=w'):=by
 refine aO fun K hK=>EM ?_;unfold yW;by_cases h:-1073741824≤n<;>simp only[rs,h,decide_true,decide_false]<;>exact hK _ _ ⟨by simp[Fx.okB,h],rfl⟩
def ints (zs:List Int):List Value:=zs.map (Value.int .i64)
theorem Q8 {zs:List Int}{k:Nat}(h:k < zs.length):(ints zs)[k]?=some (.int .i64 zs[k]):=by simp[ints,h]
theorem RZ (zs:List Int)(k:Nat)(h:k < zs.length):(zs.take (k+1)).all Fx.okB=((zs.take k).all Fx.okB&&Fx.okB zs[k]):=by
 rw[List.take_succ_eq_append_getElem h,List.all_append];simp
theorem K7 (v:Value)(zs:List Int)(w:World)(hs:Sl w v 1 zs.length (ints zs))(hn:zs.length≤9223372036854775806)(K:Ending→World→Prop)
  (hk:zs.all Fx.okB=true→K (.returned (.tuple #[])) w) (hp:zs.all Fx.okB=false→K (.panicked [{ v:=.iface 218 (.int .i64 2),recovered:=false }]) w) :
  Calls prog 170 #[v] w K:=by
 refine DS ?_;unfold sS;simp only[bF Tryz.underlying36 hs];refine loop (fun vs w'=>w'=w∧∃k:Nat,k≤zs.length∧vs=[.int .i64 k]∧(zs.take k).all Fx.okB=true) (fun vs _=>zs.length - n0 vs) ⟨rfl,0,by omega,rfl,by simp⟩ ?_;rintro vs w' ⟨rfl,k,hkl,rfl,hall⟩ _;simp only[zJ,gd,rs];by_cases hlt:k < zs.length
 ·have hlt':(k:Int) < (zs.length:Int):=by omega
  simp only[rs,hlt',decide_true];refine join fun J hJ=>?_;refine JZ (.int .i64 zs[k]) Tryz.underlying36 (by kernel_rfl) hs (by omega) (by rw[Int.toNat_natCast];exact Q8 hlt) fun p hpc=>?_;simp only[aW (show dF prog 2=true by kernel_rfl) hpc];refine c_eq (HE _ _) ?_;have ht:=RZ zs k hlt;cases hb:Fx.okB zs[k] with
 |true=>
   simp only[rs];refine hJ _ _ fun _=>?_;simp only[xS,rs];rw[aC (by omega) (by omega)];exact bG ⟨rfl,k+1,hlt,by simp,by rw[ht,hall,hb];rfl⟩ (by simp[n0,RowKit.intOf];omega)
 |false=>
   simp only[rs,Jg (show lG prog 218=true by kernel_rfl)];refine hp ?_;have:(zs.take (k+1)).all Fx.okB=false:=by rw[ht,hb];simp
   rw[←List.take_append_drop (k+1) zs,List.all_append,this];rfl
 ·have hlt':¬(k:Int) < (zs.length:Int):=by omega
  simp only[rs,hlt',decide_false];exact hk (by rw[List.take_of_length_le (by omega)] at hall;exact hall)
end
section
open Eng Go.RowKit
def R2 (vs:List Value):Nat:=match vs.getD 1 undef with|.string s=>s.size|_=>0
theorem MF {a:Value}{l:List UInt8}{t:List Value}:R2 (a::.string ⟨l.toArray⟩::t)=l.length:=by simp[R2,bO]
theorem Pj (n least:Nat)(w:World)(hn:n < 4611686018427387904)(hl:least≤4):Ret prog 212 #[.int .i64 n,.int .i64 least] w (fun v w'=>v=.string ⟨(Fx.row n least).toArray⟩∧Below w.heap.size w w'):=by
 refine aO fun K hK=>Jq ?_;unfold S_fix_row;refine loop (fun vs w'=>∃(f n':Nat) (s:List UInt8),vs=[.int .i64 n',.string ⟨s.toArray⟩]∧Fx.rowF f n' least s=Fx.row n least∧n' < 10 ^ f∧n' < 4611686018427387904∧least≤s.length+f∧s.length+f=64∧Own w w' [])
  (fun vs _=>64 - R2 vs) ⟨64,n,[],rfl,rfl,by omega,hn,by simp;omega,by simp,Own.start w⟩ ?_
 rintro vs w' ⟨f,n',s,rfl,hr,hn',hn2,hl',hs,ho⟩ _;simp only[FY,gd,rs];have step:0 < n'∨s.length < least→DoX prog (mBin .rem 2 (.int .i64 n') (.int .i64 10)) w' (pk K) fun t15 ww=>
   DoX prog (mBin .add 2 (.int .i64 48) t15) ww (pk K) fun t16 ww=>
   DoX prog (cP 2 5 t16) ww (pk K) fun t17 ww=>
   DoX prog (aP 66 1 #[(0,t17)]) ww (pk K) fun t18 ww=>
   DoX prog (cP 66 9 t18) ww (pk K) fun t19 ww=>
   DoX prog (mBin .add 9 t19 (.string ⟨s.toArray⟩)) ww (pk K) fun t21 ww=>
   DoX prog (mBin .quo 2 (.int .i64 n') (.int .i64 10)) ww (pk K) fun t23 ww=>
   (Je (fun vs w'=>∃(f n':Nat) (s:List UInt8),vs=[.int .i64 n',.string ⟨s.toArray⟩]∧Fx.rowF f n' least s=Fx.row n least∧n' < 10 ^ f∧n' < 4611686018427387904∧least≤s.length+f∧s.length+f=64∧Own w w' [])
  (fun vs _=>64 - R2 vs) [.int .i64 n',.string ⟨s.toArray⟩] w') [t23,t21] ww:=by
  intro hstep;cases f with
 |zero=>simp only[Nat.pow_zero] at hn';omega
 |succ f=>
   rw[Fx.rowF,if_pos hstep] at hr;have e1:(n':Int).tmod 10=((n' % 10:Nat):Int):=by rw[Int.tmod_eq_emod_of_nonneg (by omega)];omega
   have e2:(n':Int).tdiv 10=((n' / 10:Nat):Int):=by rw[Int.tdiv_eq_ediv_of_nonneg (by omega)];omega
   have e3:((48:Int)+((n' % 10:Nat):Int))=(((Fx.dg (n' % 10)).toNat:Nat):Int):=by rw[Fx.L1 (by omega)];omega
   have e4:=Fx.L1 (k:=n' % 10) (by omega);simp only[Ll (show (10:Int)≠0 by omega),Rj (show (10:Int)≠0 by omega),rs,e1,e2,e3];rw[aC (by omega) (by omega),H4 (show (Tryz.prog.underlying 2).isSome=true by kernel_rfl) Tryz.underlying5,gH (by omega) (by omega)];refine dD (fun b=>.slice (some ⟨b,0,none⟩) 1 1) [.int .u8 (Fx.dg (n' % 10)).toNat] 5 (fun _=>by kernel_rfl) ho fun b w4 h4=>?_;rw[EZ (l:=[Fx.dg (n' % 10)]) Tryz.underlying66 Tryz.underlying5 Tryz.underlying9 (h4.sl 0 rfl 1 1 1 rfl),Cp (by simp;omega),aC (by omega) (by omega)];refine bG ⟨f,n' / 10,Fx.dg (n' % 10)::s,rfl,hr,by rw[Nat.pow_succ] at hn';omega,by omega,by simp;omega,by simp;omega,h4.tail⟩ (by rw[MF,MF];simp;omega)
 by_cases h0:(0:Int) < (n':Int)
 ·simp only[rs,h0,decide_true];exact step (.inl (by omega))
 ·simp only[rs,h0,decide_false,bD Tryz.underlying9];by_cases h1:(s.length:Int) < (least:Int)
  ·simp only[rs,h1,decide_true];exact step (.inr (by omega))
  ·simp only[rs,h1,decide_false];refine hK _ _ ⟨?_,ho.done⟩;cases f with
  |zero=>rw[←hr];rfl
  |succ f=>rw[Fx.rowF,if_neg (by omega)] at hr;rw[hr]
end
section
open Eng Go.RowKit
abbrev UK (t4 t5:Value):Deferred:={ target:=.fn (.func 166) #[],args:=#[t4,t5] }
abbrev QL (e:Int):PanicEntry:={ v:=.iface 218 (.int .i64 e),recovered:=false }
theorem Hz:dQ prog 166=true:=by kernel_rfl
theorem PB (p q:Addr)(w:World):CallsD prog 166 #[.pointer (some p),.pointer (some q)] .returning w (fun e u' w'=>e=.returned (.tuple #[])∧u'=.returning∧w=w'):=by
 refine AK ?_;simp only[zW,recV,recM,M1 Tryz.underlying20,rs];simp
theorem HK {w0 w:World}{L:List Ent}(i j:Nat){b1 b2:Nat}{n e:Int}(h:Own w0 w L)(h1:L[i]?=some (.cells b1 [.int .i64 n] 2))(h2:L[j]?=some (.cells b2 [.int .i64 e] 24))(K:Ending→World→Prop)
  (hk:∀w',Below w0.heap.size w0 w'→K (.returned (.tuple #[.int .i64 n,.int .i64 e])) w') :
  oO prog [.cell (.pointer (some ⟨b1,0,none⟩)) 2,.cell (.pointer (some ⟨b2,0,none⟩)) 24] K [UK (.pointer (some ⟨b1,0,none⟩)) (.pointer (some ⟨b2,0,none⟩))] .returning w:=by
 refine Hh (by simp) Hz ((PB _ _ w).mono ?_);rintro e' u' w' ⟨rfl,rfl,rfl⟩;exact Kq (by kernel_rfl) (by kernel_rfl) (h.cell i h1 0 rfl) (h.cell j h2 0 rfl) (hk _ h.done)
theorem RA {w0 w:World}{b1 b2:Nat}{n e0 e:Int}(h:Own w0 w [.cells b2 [.int .i64 e0] 24,.cells b1 [.int .i64 n] 2])(K:Ending→World→Prop)
  (hk:∀w',Below w0.heap.size w0 w'→K (.returned (.tuple #[.int .i64 0,.int .i64 e])) w') :
  oO prog [.cell (.pointer (some ⟨b1,0,none⟩)) 2,.cell (.pointer (some ⟨b2,0,none⟩)) 24] K [UK (.pointer (some ⟨b1,0,none⟩)) (.pointer (some ⟨b2,0,none⟩))] (.panicking [QL e]) w:=by
 refine Hh (by simp) Hz (AK ?_);simp only[zW,recV,recM,L7 Tryz.underlying20,rs,R6 (show lG prog 218=true by kernel_rfl),
  Bs (show [Value.int .i64 e,Value.bool true][1]?=some (Value.bool true) from rfl),Bs (show [Value.int .i64 e,Value.bool true][0]?=some (Value.int .i64 e) from rfl)]
 refine bI 1 h rfl (by kernel_rfl) rfl (by simp) fun w1 h1=>?_;refine bI 0 h1 rfl (by kernel_rfl) rfl (by simp) fun w2 h2=>?_;exact Kq (by kernel_rfl) (by kernel_rfl) (h2.cell 1 rfl 0 rfl) (h2.cell 0 rfl 0 rfl) (hk _ h2.done)
abbrev pair (x:Int×Int):Value:=.tuple #[.int .i64 x.1,.int .i64 x.2]
theorem Vi {n:Int}(h:Fx.okB n=true):-1073741824≤n∧n≤1073741824:=by simpa[Fx.okB] using h
end
section
open Eng
def uG (t0 t1:Value)(w:World)(K:Ending→World→Prop):Prop:=
 CallX prog 195 #[t0,t1] w (pk K) fun t9 w=>
 DoX prog (mExt t9 0) w (pk K) fun t10 w=>
 DoX prog (mExt t9 1) w (pk K) fun t11 w=>
 DoX prog (mExt t9 2) w (pk K) fun t12 w=>
 K (.returned (.tuple #[t10,t11,t12])) w
theorem Eb (t0 t1:Value)(w:World)(K:Ending→World→Prop):wpX prog 13 [] [] none (aK Tryz.f167) (topQ prog [.tmp 4,.tmp 5,.tmp 6] K) (aJ [t0,t1]) [] w=uG t0 t1 w K:=by kernel_rfl
theorem Ed {t0 t1:Value}{w:World}{K:Ending→World→Prop}(h:uG t0 t1 w K):Calls prog 167 #[t0,t1] w K:=
 aA Tryz.func167 rfl rfl rfl rfl (Eq.mpr (Eb t0 t1 w K) h)
def dG (t0 t1:Value)(w:World)(K:Ending→World→Prop):Prop:=
 CallX prog 217 #[t0,t1] w (pk K) fun t10 w=>
 DoX prog (mBin .geq 3 t10 (.int .i64 0)) w (pk K) fun t12 w=>
 IfX t12 (QuietX w (fun C1=>
 QDo prog C1 (bT 9 t0 none (some t10) none) fun t15=>
 QDo prog C1 (mB .len #[9] 3 #[false] #[t1]) fun t19=>
 QDo prog C1 (mBin .add 3 t10 t19) fun t20=>
 QDo prog C1 (bT 9 t0 (some t20) none none) fun t21=>
 ∀w,C1 w →
 K (.returned (.tuple #[t15,t21,(.bool true)])) w)) (K (.returned (.tuple #[t0,(.string ⟨#[]⟩),(.bool false)])) w)
theorem nB (t0 t1:Value)(w:World)(K:Ending→World→Prop):wpX prog 23 [] [] none (aK Tryz.f195) (topQ prog [.tmp 4,.tmp 5,.tmp 6] K) (aJ [t0,t1]) [] w=dG t0 t1 w K:=by kernel_rfl
theorem mW {t0 t1:Value}{w:World}{K:Ending→World→Prop}(h:dG t0 t1 w K):Calls prog 195 #[t0,t1] w K:=
 aA Tryz.func195 rfl rfl rfl rfl (Eq.mpr (nB t0 t1 w K) h)
end
section
open Eng Go.RowKit
theorem Eu (c:UInt8):∀l:List UInt8,(Lib.indexByte l c=-1∧l.takeWhile (fun x=>x != c)=l∧l.dropWhile (fun x=>x != c)=[]) ∨
  ∃i:Nat,Lib.indexByte l c=i∧i < l.length∧l.takeWhile (fun x=>x != c)=l.take i∧l.dropWhile (fun x=>x != c)=l.drop i
|[]=>.inl ⟨rfl,rfl,rfl⟩
|b::l=>by
  by_cases h:b=c
  ·subst h;exact .inr ⟨0,by simp[Lib.indexByte],by simp,by simp,by simp⟩
  ·have hb:(b==c)=false:=by simpa using h
   have hb2:(b != c)=true:=by simpa using h
   rcases Eu c l with ⟨h1,h2,h3⟩|⟨i,h1,h2,h3,h4⟩
   ·exact .inl ⟨by simp[Lib.indexByte,hb,h1],by simp[hb2,h2],by simp[hb2,h3]⟩
   ·refine .inr ⟨i+1,?_,by simp;omega,by simp[hb2,h3],by simp[hb2,h4]⟩;have e:((i:Int)==-1)=false:=by simp
    simp only[Lib.indexByte,hb,h1,e,Bool.false_eq_true,if_false];omega
theorem Tc (s:List UInt8)(c:UInt8)(w:World)(hs:s.length≤4611686018427387904):Ret prog 167 #[.string ⟨s.toArray⟩,.string ⟨#[c]⟩] w
  (fun v w'=>(∃b,v=.tuple #[.string ⟨(s.takeWhile (fun x=>x != c)).toArray⟩,.string ⟨((s.dropWhile (fun x=>x != c)).drop 1).toArray⟩,.bool b])∧Below w.heap.size w w'):=by
 have inner:Ret prog 195 #[.string ⟨s.toArray⟩,.string ⟨#[c]⟩] w
   (fun v w'=>(∃b,v=.tuple #[.string ⟨(s.takeWhile (fun x=>x != c)).toArray⟩,.string ⟨((s.dropWhile (fun x=>x != c)).drop 1).toArray⟩,.bool b])∧Below w.heap.size w w'):=by
  refine aO fun K hK=>mW ?_;unfold dG;refine D3 (Tryz.stringslite_Index_one ⟨s.toArray⟩ c w) ?_;rintro e w' ⟨rfl,rfl⟩;simp only[Cont,rs];rcases Eu c s with ⟨h1,h2,h3⟩|⟨i,h1,h2,h3,h4⟩
  ·rw[h1];simp only[show ¬((0:Int)≤-1) by omega,decide_false,rs];exact hK _ _ ⟨⟨false,by rw[h2,h3];rfl⟩,Below.refl _ _⟩
  ·rw[h1];have e0:(0:Int)≤(i:Int):=by omega
   simp only[e0,decide_true,rs];refine quiet (q_do (.string ⟨(s.take i).toArray⟩) (fun w=>?_) (q_do (.int .i64 1) (fun w=>?_) (q_do _ (fun w=>Eg) (q_do (.string ⟨(s.drop (i+1)).toArray⟩) (fun w=>?_) ?_))))
   ·rw[Sd Tryz.underlying9 (by omega) (by omega)];simp
   ·exact O7 (l:=[c]) Tryz.underlying9
   ·rw[aC (by omega) (by omega),RH Tryz.underlying9 (by omega) (by omega)];rw[show ((i:Int)+1).toNat=i+1 by omega]
   ·intro wc hw;exact hK _ _ ⟨⟨true,by rw[h3,h4,List.drop_drop]⟩,hw⟩
 refine aO fun K hK=>Ed ?_;unfold uG;refine dV inner ?_;rintro v w' ⟨⟨b,rfl⟩,hb⟩;simp only[ex];exact hK _ _ ⟨⟨b,rfl⟩,hb⟩
theorem BW (s:List UInt8)(c:UInt8)(hc:c.toNat < 128)(w:World)(hs:s.length≤9223372036854775807):Ret prog 169 #[.string ⟨s.toArray⟩,.string ⟨#[c]⟩] w
  (fun v w'=>v=.string ⟨(Lib.trimRightB s c).toArray⟩∧w=w'):=
 Calls.mono (Tryz.strings_TrimRight_one ⟨s.toArray⟩ c hc w (by rw[bO];exact hs)) (by rintro e w' ⟨rfl,rfl⟩;exact retK ⟨rfl,rfl⟩)
theorem tT (s p:List UInt8)(w:World):Ret prog 137 #[.string ⟨s.toArray⟩,.string ⟨p.toArray⟩] w (fun v w'=>v=.bool (p.isPrefixOf s)∧w=w'):=
 Calls.mono (Tryz.strings_HasPrefix ⟨s.toArray⟩ ⟨p.toArray⟩ w) (by rintro e w' ⟨rfl,rfl⟩;exact retK ⟨rfl,rfl⟩)
theorem Mt (s cs:List UInt8)(w:World)(hs:s.length≤9223372036854775807)(hcs:cs.length < 4294967281)(ha:cs.all (fun c=>decide (c.toNat < 128))=true):Ret prog 164 #[.string ⟨s.toArray⟩,.string ⟨cs.toArray⟩] w
  (fun v w'=>v=.string ⟨(Lib.trimS s cs).toArray⟩∧Below w.heap.size w w'):=
 Calls.mono (Any.strings_Trim_laid Tryz.T4 (by kernel_rfl) ⟨s.toArray⟩ ⟨cs.toArray⟩ w (by rw[bO];exact hs) (by rw[bO];exact hcs)
  (fun j b hj=>by
   have:=List.all_eq_true.1 ha b (List.mem_of_getElem? hj);simpa using this)) (by rintro e w' ⟨rfl,h⟩;exact retK ⟨rfl,h⟩)
end
section
open Eng Go.RowKit
theorem NT {n:Int}(h:0≤n):n.tmod 10000=((n.natAbs % 10000:Nat):Int):=by rw[Int.tmod_eq_emod_of_nonneg h];omega
theorem NX {n:Int}(h:0≤n):n.tdiv 10000=((n.natAbs / 10000:Nat):Int):=by rw[Int.tdiv_eq_ediv_of_nonneg h];omega
theorem QA (n:Int)(w:World):Ret prog 185 #[.int .i64 n] w (fun v w'=>v=.string ⟨(Fx.text n).toArray⟩∧Below w.heap.size w w'):=by
 refine aO fun K hK=>IG ?_;unfold CF;refine dV (HE n w) ?_;rintro v w1 ⟨rfl,rfl⟩;by_cases ho:Fx.okB n=true
 ·have hb:=Vi ho;simp only[ho,rs];have main:∀(m:Int) (sg:List UInt8),0≤m→m.natAbs=n.natAbs→sg=(if n < 0 then [45] else [])→yZ (.int .i64 m) (.string ⟨sg.toArray⟩) w K:=by
   intro m sg h0 hm hsg;have hm2:m≤1073741824:=by omega
   unfold yZ;simp only[Rj (show (10000:Int)≠0 by omega),Ll (show (10000:Int)≠0 by omega),NX h0,NT h0];rw[aC (by omega) (by omega)];refine dV (Pj (m.natAbs / 10000) 1 w (by omega) (by omega)) ?_;rintro v w2 ⟨rfl,b2⟩;refine dV (Pj (m.natAbs % 10000) 4 w2 (by omega) (by omega)) ?_;rintro v w3 ⟨rfl,b3⟩;refine dV (BW (Fx.row (m.natAbs % 10000) 4) 48 (by decide) w3 (by have:=Fx.HN (m.natAbs % 10000) 4;omega)) ?_;rintro v w4 ⟨rfl,rfl⟩;have hlen:=Fx.HN (m.natAbs / 10000) 1;have hfl:=Fx.JL n.natAbs;have hsl:sg.length≤1:=by rw[hsg];split<;>simp
   refine join fun J hJ=>?_;have fin:J [.string ⟨(Fx.NV n.natAbs).toArray⟩] w3:=by
    refine hJ _ _ fun _=>?_;simp only[DH,gd];rw[Cp (by omega),Cp (b:=[46]) (by simp;omega),Cp (by simp;omega)];refine hK _ _ ⟨?_,b2.trans (b3.mono b2.size)⟩;rw[Fx.text,if_pos ho,hsg,hm]
   change DoX _ (mEq .eql _ _ _ (.string ⟨(Fx.tr (Fx.row (m.natAbs % 10000) 4)).toArray⟩) (.string ⟨([]:List UInt8).toArray⟩)) _ _ _;by_cases ht:Fx.tr (Fx.row (n.natAbs % 10000) 4)=[]
   ·simp only[Ke,hm,ht,decide_true,rs];rw[Fx.NV,if_pos ht] at fin;exact fin
   ·simp only[Ke,hm,ht,decide_false,rs];rw[Fx.NV,if_neg ht] at fin;exact fin
  refine join fun J hJ=>?_;by_cases hn:n < 0
  ·simp only[rs,hn,decide_true];rw[aC (by omega) (by omega)];exact hJ _ _ fun _=>main (-n) [45] (by omega) (by omega) (by rw[if_pos hn])
  ·simp only[rs,hn,decide_false];exact hJ _ _ fun _=>main n [] (by omega) rfl (by rw[if_neg hn])
 ·have ho':Fx.okB n=false:=by simpa using ho
  simp only[ho',rs];exact hK _ _ ⟨by rw[Fx.text,if_neg ho],Below.refl _ _⟩
theorem K1 (n:Int)(w:World):Ret prog 154 #[.int .i64 n] w (fun v w'=>v=.bool (Fx.okB n)∧w=w'):=by
 refine aO fun K hK=>rO ?_;unfold fB;by_cases h:-1073741824≤n<;>simp only[rs,h,decide_true,decide_false]<;>exact hK _ _ ⟨by simp[Fx.okB,h],rfl⟩
theorem Bp (c:UInt8):([48,49,50,51,52,53,54,55,56,57]:List UInt8).contains c=Fx.cW c:=by
 rw[Bool.eq_iff_iff];simp[Fx.cW,←UInt8.toNat_inj];omega
theorem dropWhile_nil {p:UInt8→Bool}:∀l:List UInt8,l.dropWhile p=[]↔l.all p=true
|[]=>by simp
|c::t=>by
  by_cases h:p c=true
  ·simp[h,dropWhile_nil t]
  ·simp[h]
theorem Bx {p:UInt8→Bool}:∀l:List UInt8,(l.dropWhile p).all p=l.all p
|[]=>rfl
|c::t=>by
  by_cases h:p c=true
  ·simp[h,Bx t]
  ·simp[h]
theorem J9 (l:List UInt8):(Lib.trimS l [48,49,50,51,52,53,54,55,56,57]=[])↔l.all Fx.cW=true:=by
 have e:(([48,49,50,51,52,53,54,55,56,57]:List UInt8).contains ·)=Fx.cW:=funext Bp;rw[Lib.trimS,Lib.trimLeftS,Lib.trimRightS];simp only[e];rw[dropWhile_nil,List.all_reverse,Bx,List.all_reverse]
theorem Fv (l:List UInt8)(w:World)(hl:l.length≤9223372036854775807):Ret prog 168 #[.string ⟨l.toArray⟩] w (fun v w'=>v=.bool (l.all Fx.cW)∧Below w.heap.size w w'):=by
 refine aO fun K hK=>Ft ?_;unfold yI;refine dV (Mt l [48,49,50,51,52,53,54,55,56,57] w hl (by decide) (by decide)) ?_;rintro v w1 ⟨rfl,b1⟩;change DoX _ (mEq .eql _ _ _ _ (.string ⟨([]:List UInt8).toArray⟩)) _ _ _;rw[Ke];refine hK _ _ ⟨?_,b1⟩;have:=J9 l;by_cases h:l.all Fx.cW=true
 ·rw[h,decide_eq_true (this.2 h)]
 ·rw[decide_eq_false (fun e=>h (this.1 e))];simpa using h
end
section
open Eng Go.RowKit
abbrev Tb (w:World):Prop:=Lib.TabIs prog w "internal/strconv.uint64pow10" .u64 Lib.pow10Tab
theorem jO (l:List UInt8)(c:UInt8)(w:World):Ret prog 92 #[.string ⟨l.toArray⟩,.int .u8 c.toNat] w (fun v w'=>v=.int .i64 (Lib.indexByte l c)∧w=w'):=by
 refine Calls.mono (Tryz.strings_IndexByte ⟨l.toArray⟩ c.toNat w) ?_;rintro e w' ⟨rfl,rfl⟩;refine retK ⟨?_,rfl⟩;simp
theorem rH (c:UInt8)(w:World):Ret prog 90 #[.int .u8 c.toNat] w (fun v w'=>v=.bool (Oc.gE c)∧w=w'):=by
 refine aO fun K hK=>D7 ?_;unfold uM;refine c_eq (jO Oc.MC c w) ?_;simp only[rs,Oc.gI];exact hK _ _ ⟨rfl,rfl⟩
theorem Jr (c:UInt8)(w:World):Ret prog 91 #[.int .u8 c.toNat] w (fun v w'=>v=.bool (Oc.K6 c)∧w=w'):=by
 refine aO fun K hK=>DR ?_;unfold tS;refine c_eq (jO Oc.ME c w) ?_;simp only[rs,Oc.gI];exact hK _ _ ⟨rfl,rfl⟩
theorem AQ (c:UInt8)(w:World):Ret prog 53 #[.int .u8 c.toNat] w (fun v w'=>v=.bool (Oc.regular c)∧w=w'):=by
 refine aO fun K hK=>Bv ?_;unfold pE;refine c_eq (rH c w) ?_;cases hw:Oc.gE c with
|true=>simp only[rs];exact hK _ _ ⟨by simp[Oc.regular,hw],rfl⟩
|false=>
  simp only[rs];refine c_eq (Jr c w) ?_;simp only[rs];exact hK _ _ ⟨by simp[Oc.regular,hw],rfl⟩
theorem shr4 (c:UInt8):(c.toNat:Int).fdiv (2 ^ (min (4:Int).toNat IntKind.u8.bits))=((c.toNat / 16:Nat):Int):=by
 rw[Int.fdiv_eq_ediv_of_nonneg _ (by decide)];show ((c.toNat:Int) / 16)=_;omega
theorem OG:∀n:Fin 256,bAnd .u8 (n.val:Int) 15=((n.val % 16:Nat):Int):=by decide +kernel
theorem Wd (c:UInt8):bAnd .u8 (c.toNat:Int) 15=((c.toNat % 16:Nat):Int):=OG ⟨c.toNat,c.toNat_lt⟩
theorem Mq (k:IntKind){n:Nat}(h:n < 16)(w:World):(mIx 9 (.string ⟨#[48,49,50,51,52,53,54,55,56,57,65,66,67,68,69,70]⟩) (.int k (n:Int))).run prog w=.ok (.value (.int .u8 (Oc.hexD n).toNat)) w:=
 nS (a:=Oc.hexs) (c:=Oc.hexD n) Tryz.underlying9 (by omega) (by rw[Int.toNat_natCast];exact Oc.QO h)
theorem Tg (l:List UInt8)(w:World)(hl:l.length≤1000000):Ret prog 95 #[.string ⟨l.toArray⟩] w (fun v w'=>v=.string ⟨(Oc.hex l).toArray⟩∧Below w.heap.size w w'):=by
 refine aO fun K hK=>GW ?_;unfold Be;rw[bD Tryz.underlying9];simp only[rs];rw[aC (by omega) (by omega)];refine SP (c:=2*l.length) (by omega) Tryz.underlying66 (show elB prog 5 1 1=true by kernel_rfl) (by omega) (by omega) (Own.start w) fun v w1 h1=>?_;rw[bD Tryz.underlying9];refine loop (fun vs w'=>∃(i:Nat) (v:Value),vs=[v,.int .i64 i]∧i≤l.length∧Own w w' [.row 5 1 v (2*i) (bS (Oc.hex (l.take i)))])
  (fun vs _=>l.length - n1 vs) ⟨0,v,rfl,by omega,by simpa[Oc.hex,bS] using h1⟩ ?_
 rintro vs w2 ⟨i,v,rfl,hi,ho⟩ _;simp only[BS,gd,rs];by_cases hlt:(i:Int) < (l.length:Int)
 ·have hi2:i < l.length:=by omega
  have hc:l[(i:Int).toNat]?=some l[i]:=by simp[hi2]
  have hd1:l[i].toNat / 16 < 16:=by have:=l[i].toNat_lt;omega
  have hd2:l[i].toNat % 16 < 16:=by omega
  simp only[hlt,decide_true,rs];refine quiet (q_do _ (fun w=>nS Tryz.underlying9 (by omega) hc) (q_do _ (fun w=>by rw[Wm (by omega),shr4]) (q_do _ (fun w=>Mq _ hd1 w)
   (q_do _ (fun w=>nS Tryz.underlying9 (by omega) hc) (q_do _ (fun w=>by rw[Wp,Wd]) (q_do _ (fun w=>Mq _ hd2 w) ?_))))))
  intro w3 hb3;refine dD (fun b=>.slice (some ⟨b,0,none⟩) 2 2) (bS (Oc.hex1 l[i])) 5 (fun _=>by kernel_rfl) (ho.grow hb3) fun nb w4 h4=>?_;refine EJ 1 Tryz.underlying66 (show elB prog 5 1 1=true by kernel_rfl) (by decide) h4 rfl (h4.sl 0 rfl 1 2 2 rfl) (CS _) (by omega) (by omega) fun v' w5 h5=>?_;rw[aC (by omega) (by omega)];refine bG ⟨i+1,v',rfl,by omega,?_⟩ (by simp[n1,RowKit.intOf];omega);have e:bS (Oc.hex (l.take (i+1)))=bS (Oc.hex (l.take i))++bS (Oc.hex1 l[i]):=by
   rw[List.take_succ_eq_append_getElem hi2,Oc.QS,jQ]
  rw[e];exact h5.tail
 ·have hi2:i=l.length:=by omega
  subst hi2;simp only[hlt,decide_false,rs];have hs:=ho.Dh 0 rfl;rw[EZ (l:=Oc.hex l) Tryz.underlying66 Tryz.underlying5 Tryz.underlying9 (by rw[Oc.Ht];simpa using hs)];exact hK _ _ ⟨rfl,ho.done⟩
theorem QI (w:World)(k:Nat)(os:Array Obj):Below w.heap.size w (Go.Sort.grow (w.drewN k) os):=
 ⟨rfl,rfl,rfl,by simp[Go.Sort.grow],fun i hi=>by simp[Go.Sort.grow,Array.getElem?_append,hi]⟩
theorem IX (n:Int)(w:World)(ht:Tb w):Ret prog 158 #[.int .i64 n] w (fun v w'=>v=.tuple #[.string ⟨(Pl.pInt n).1.toArray⟩,.int .i64 (Pl.pInt n).2]∧Below w.heap.size w w'):=by
 refine aO fun K hK=>GU ?_;unfold AO;by_cases h1:n < -2147483647
 ·simp only[rs,h1,decide_true];exact hK _ _ ⟨by rw[Pl.pInt,if_neg (by omega)],Below.refl _ _⟩
 ·simp only[rs,h1,decide_false];by_cases h2:2147483647 < n
  ·simp only[rs,h2,decide_true];exact hK _ _ ⟨by rw[Pl.pInt,if_neg (by omega)],Below.refl _ _⟩
  ·simp only[rs,h2,decide_false];refine D3 (Tryz.strconv_FormatInt_10 n (by omega) (by omega) w ht) ?_;rintro e w' ⟨rfl,k,os,rfl⟩;exact hK _ _ ⟨by rw[Pl.pInt,if_pos (by omega)],QI _ _ _⟩
theorem O3 (n:Int)(w:World):Ret prog 159 #[.int .i64 n] w (fun v w'=>v=.tuple #[.string ⟨(Pl.JW n).1.toArray⟩,.int .i64 (Pl.JW n).2]∧Below w.heap.size w w'):=by
 refine aO fun K hK=>FK ?_;unfold yF;by_cases h1:n < -1073741824
 ·simp only[rs,h1,decide_true];exact hK _ _ ⟨by rw[Pl.JW,if_neg (by simp[Fx.okB];omega)],Below.refl _ _⟩
 ·simp only[rs,h1,decide_false];by_cases h2:1073741824 < n
  ·simp only[rs,h2,decide_true];exact hK _ _ ⟨by rw[Pl.JW,if_neg (by simp[Fx.okB];omega)],Below.refl _ _⟩
  ·simp only[rs,h2,decide_false];refine dV (QA n w) ?_;rintro _ w' ⟨rfl,hb⟩;exact hK _ _ ⟨by rw[Pl.JW,if_pos (by simp[Fx.okB];omega)],hb⟩
end
section
open Eng Go.RowKit
def Each (F:Nat)(f:UInt8→List UInt8):Prop:=∀(b:Nat) (v:Value) (l:List UInt8) (c:UInt8) (w:World),(Bld b v l).is w→l.length≤1000000 →
 Ret prog F #[.pointer (some ⟨b,0,none⟩),.int .u8 c.toNat] w (fun r w'=>∃e',(∃v',e'=Bld b v' (l++f c))∧Turn (Bld b v l) e' w w')
theorem Kr (op s en:List UInt8)(F:Nat)(f:UInt8→List UInt8)(hF:dQ prog F=true)(he:Each F f)(hf:∀c,(f c).length≤4)(h1:op.length=1)(h2:en.length≤1)(h3:s.length≤40000)(w:World) :
  Ret prog 93 #[.string ⟨op.toArray⟩,.string ⟨s.toArray⟩,.string ⟨en.toArray⟩,.func (.func F) #[] #[]] w (fun v w'=>v=.string ⟨(op++s.flatMap f++en).toArray⟩∧Below w.heap.size w w'):=by
 refine aO fun K hK=>D6 ?_;unfold tD;refine dD (fun b=>.pointer (some ⟨b,0,none⟩)) [.pointer none,.slice none 0 0] 68 (fun _=>by kernel_rfl) (Own.start w) fun b w1 ho=>?_;simp only[bD Tryz.underlying9,rs];rw[aC (n:=(op.length:Int)+s.length) (by omega) (by omega),aC (by omega) (by omega)];rw[show ((op.length:Int)+s.length+en.length)=((op.length+s.length+en.length:Nat):Int) by omega];refine dV (Rs ho (by omega) (by omega)) ?_;rintro _ w2 ⟨rfl,v,ho2⟩;refine fI 0 ho2 rfl (cV (ho2.at_ 0 rfl) (by simp;omega)) ?_;rintro _ _ w3 ⟨_,v3,rfl⟩ ho3;refine loop (fun vs w'=>∃(i:Nat) (v:Value),vs=[.int .i64 i]∧i≤s.length∧Own w w' [Bld b v (op++(s.take i).flatMap f)])
  (fun vs _=>s.length - n0 vs) ⟨0,v3,rfl,by omega,by simpa using ho3⟩ ?_
 rintro vs w4 ⟨i,v4,rfl,hi,ho4⟩ _;simp only[xL,gd,rs];by_cases hlt:(i:Int) < (s.length:Int)
 ·have hi2:i < s.length:=by omega
  simp only[hlt,decide_true,rs];rw[s_ix (c:=s[i]) Tryz.underlying9 (by omega) (by simp[hi2])];have hfl:=Pl.Ca f 4 hf (s.take i);have htk:(s.take i).length≤s.length:=by rw[List.length_take];omega
  refine PR hF (fI 0 ho4 rfl (R:=fun _ e'=>∃v',e'=Bld b v' (op++(s.take i).flatMap f++f s[i])) (he b v4 _ s[i] w4 (ho4.at_ 0 rfl) (by simp only[List.length_append];omega)) ?_);rintro _ _ w5 ⟨v5,rfl⟩ ho5;rw[aC (by omega) (by omega)];refine bG ⟨i+1,v5,rfl,by omega,?_⟩ (by simp[n0,RowKit.intOf];omega);rw[List.take_succ_eq_append_getElem hi2,Pl.Qw,←List.append_assoc];exact ho5
 ·have hi2:i=s.length:=by omega
  subst hi2;simp only[hlt,decide_false,rs];rw[List.take_length] at ho4;have hfl:=Pl.Ca f 4 hf s;refine fI 0 ho4 rfl (cV (ho4.at_ 0 rfl) (by simp only[List.length_append];omega)) ?_;rintro _ _ w5 ⟨_,v5,rfl⟩ ho5;refine fI 0 ho5 rfl (nR (ho5.at_ 0 rfl)) ?_;rintro _ _ w6 ⟨rfl,rfl⟩ ho6;exact hK _ _ ⟨rfl,ho6.done⟩
theorem V8 (n:Nat)(h:n < 256):((UInt8.ofNat n).toNat:Int)=(n:Int):=by rw[UInt8.toNat_ofNat'];omega
theorem gB {b:Nat}{v:Value}{l:List UInt8}{n:Int}{k:Nat}{w:World}(h:(Bld b v l).is w)(hl:l.length < 140737488355328)(hn:n=k)(hk:k < 256):Ret prog 54 #[.pointer (some ⟨b,0,none⟩),.int .u8 n] w
  (fun r w'=>∃e',(r=.nilIface∧∃v',e'=Bld b v' (l++[UInt8.ofNat k]))∧Turn (Bld b v l) e' w w'):=by
 have:=jW (c:=UInt8.ofNat k) h hl;rw[V8 k hk,←hn] at this;exact this
theorem u8d (c:UInt8)(k:Int)(x:UInt8)(hx:(x.toNat:Int)=k):decide ((c.toNat:Int)=k)=decide (c=x):=by
 by_cases h:c=x
 ·subst h;rw[decide_eq_true hx,decide_eq_true rfl]
 ·rw[decide_eq_false h,decide_eq_false];intro h2;exact h (UInt8.toNat_inj.1 (by omega))
theorem Ih {b:Nat}{l:List UInt8}{c:UInt8}{w0 w:World}{v:Value}{S:Nat→Prop}(d:Nat)(i:Nat)(hd:d=64∨d=8∨d=1)(hi:(mIx 209 (.agg #[.int .u8 64,.int .u8 8,.int .u8 1]) (.int .i64 (i:Int))).run prog w=.ok (.value (.int .u8 (d:Int))) w)
  {t0:Value} {K:VWP} {PK:PKT} (ho:OwnS S w0 w [Bld b v l]) (hl:l.length < 140737488355328) (hi3:i < 3)
  (hk:∀v' w',OwnS S w0 w' [Bld b v' (l++[UInt8.ofNat (48+c.toNat / d % 8)])]→K (.int .i64 ((i+1:Nat):Int)) w') :
  DoX prog (mIx 209 (.agg #[.int .u8 64,.int .u8 8,.int .u8 1]) (.int .i64 (i:Int))) w PK fun t37 w=>
   DoX prog (mBin .quo 5 (.int .u8 c.toNat) t37) w PK fun t41 w=>
   DoX prog (mBin .rem 5 t41 (.int .u8 8)) w PK fun t42 w=>
   DoX prog (mBin .add 5 (.int .u8 48) t42) w PK fun t43 w=>
   CallX prog 54 #[.pointer (some ⟨b,0,none⟩),t43] w PK fun t44 w=>
   DoX prog (mBin .add 3 (.int .i64 (i:Int)) (.int .i64 1)) w PK K:=by
 have h256:=c.toNat_lt;have hq:((c.toNat:Int).tdiv d)=((c.toNat / d:Nat):Int):=by rw[Int.tdiv_eq_ediv_of_nonneg (by omega)];rcases hd with rfl|rfl|rfl<;>omega
 have hq2:c.toNat / d < 256:=Nat.lt_of_le_of_lt (Nat.div_le_self _ _) h256;have hr:(((c.toNat / d:Nat):Int).tmod 8)=((c.toNat / d % 8:Nat):Int):=by rw[Int.tmod_eq_emod_of_nonneg (by exact Int.natCast_nonneg _)];omega
 refine tN hi ?_;have hq3:(0:Int)≤((c.toNat / d:Nat):Int):=Int.natCast_nonneg _;rw[Rj (by omega),hq,gH hq3 (by omega),Ll (by omega),hr,CX,gH (by omega) (by omega)];refine fI 0 ho rfl (gB (k:=48+c.toNat / d % 8) (ho.at_ 0 rfl) hl (by omega) (by omega)) ?_;rintro _ _ w5 ⟨rfl,v5,rfl⟩ ho5;rw[CX,aC (by omega) (by omega),show ((i:Int)+1)=((i+1:Nat):Int) by omega];exact hk _ _ ho5
theorem RY:Each 186 Pl.esc:=by
 intro b v l c w h hl;refine aO fun K hK=>A4 ?_;unfold nA;have ho:=OwnS.lend h;have done:∀{v':Value} {w':World} {e':Ent},OwnS (Bld b v l).blk w w' [e']→(∃v',e'=Bld b v' (l++Pl.esc c))→K (.returned (.tuple #[])) w':=fun hx he=>hK _ _ ⟨_,he,hx.back⟩;have two:(c=40∨c=41∨c=92)→CallX prog 54 #[.pointer (some ⟨b,0,none⟩),(.int .u8 92)] w (pk K) fun t21 w=>
   CallX prog 54 #[.pointer (some ⟨b,0,none⟩),.int .u8 c.toNat] w (pk K) fun t24 w=>K (.returned (.tuple #[])) w:=by
  intro hc;refine fI 0 ho rfl (gB (k:=92) h (by omega) rfl (by omega)) ?_;rintro _ _ w1 ⟨rfl,v1,rfl⟩ ho1;refine fI 0 ho1 rfl (jW (c:=c) (ho1.at_ 0 rfl) (by simp;omega)) ?_;rintro _ _ w2 ⟨rfl,v2,rfl⟩ ho2;exact done (v':=v2) ho2 ⟨v2,by rw[Pl.esc,if_pos hc,List.append_assoc];rfl⟩
 have e1:=u8d c 40 40 rfl;have e2:=u8d c 41 41 rfl;have e3:=u8d c 92 92 rfl;by_cases h1:c=40
 ·simp only[rs,e1,decide_eq_true h1,g_un];exact two (by simp[h1])
 ·simp only[rs,e1,decide_eq_false h1,g_un];by_cases h2:c=41
  ·simp only[rs,e2,decide_eq_true h2,g_un];exact two (by simp[h2])
  ·simp only[rs,e2,decide_eq_false h2,g_un];by_cases h3:c=92
   ·simp only[rs,e3,decide_eq_true h3,g_un];exact two (by simp[h3])
   ·simp only[rs,e3,decide_eq_false h3,g_un];have hn:¬(c=40∨c=41∨c=92):=by simp[h1,h2,h3]
    have oct:(c.toNat < 32∨126 < c.toNat)→CallX prog 54 #[.pointer (some ⟨b,0,none⟩),(.int .u8 92)] w (pk K) fun t33 w=>
      DoX prog (aG 209 #[(0,(.int .u8 64)),(1,(.int .u8 8)),(2,(.int .u8 1))]) w (pk K) fun t34 w=>
      LoopX [(.int .i64 0)] w (fun vs1 w N1=>∀_:Sg,jH (.pointer (some ⟨b,0,none⟩)) (.int .u8 c.toNat) t34 (vs1.getD 0 undef) w N1 K):=by
     intro hc;refine fI 0 ho rfl (gB (k:=92) h (by omega) rfl (by omega)) ?_;rintro _ _ w1 ⟨rfl,v1,rfl⟩ ho1;refine tN (w':=w1) (v:=.agg #[.int .u8 64,.int .u8 8,.int .u8 1]) (by kernel_rfl) ?_;refine loop (fun vs w'=>∃(i:Nat) (v':Value),vs=[.int .i64 i]∧i≤3∧OwnS (Bld b v l).blk w w' [Bld b v' (l++(Pl.oct c).take (i+1))])
      (fun vs _=>3 - n0 vs) ⟨0,v1,rfl,by omega,by simpa[Pl.oct] using ho1⟩ ?_
     rintro vs w2 ⟨i,v2,rfl,hi,ho2⟩ _;simp only[jH,gd];rw[rF];by_cases hlt:(i:Int) < 3
     ·simp only[hlt,decide_true,i_t];have hi3:i=0∨i=1∨i=2:=by omega
      have h256:=c.toNat_lt;rcases hi3 with rfl|rfl|rfl
      ·refine Ih (t0:=undef) 64 0 (.inl rfl) (by kernel_rfl) ho2 (by simp[Pl.oct];omega) (by omega) fun v' w' h'=>?_;refine bG ⟨1,v',rfl,by omega,?_⟩ (by simp[n0,RowKit.intOf]);have e:c.toNat / 64 % 8=c.toNat / 64:=by omega
       rw[e,List.append_assoc] at h';exact h'
      ·refine Ih (t0:=undef) 8 1 (.inr (.inl rfl)) (by kernel_rfl) ho2 (by simp[Pl.oct];omega) (by omega) fun v' w' h'=>?_;refine bG ⟨2,v',rfl,by omega,?_⟩ (by simp[n0,RowKit.intOf]);rw[List.append_assoc] at h';exact h'
      ·refine Ih (t0:=undef) 1 2 (.inr (.inr rfl)) (by kernel_rfl) ho2 (by simp[Pl.oct];omega) (by omega) fun v' w' h'=>?_;refine bG ⟨3,v',rfl,by omega,?_⟩ (by simp[n0,RowKit.intOf]);rw[Nat.div_one,List.append_assoc] at h';exact h'
     ·have hi3:i=3:=by omega
      subst hi3;simp only[hlt,decide_false,i_f];refine done (v':=v2) ho2 ⟨v2,?_⟩;rw[Pl.esc,if_neg hn,if_pos hc];rfl
    by_cases h4:(c.toNat:Int) < 32
    ·simp only[rs,h4,decide_true,g_un];exact oct (.inl (by omega))
    ·simp only[rs,h4,decide_false,g_un];by_cases h5:(126:Int) < (c.toNat:Int)
     ·simp only[rs,h5,decide_true,g_un];exact oct (.inr (by omega))
     ·simp only[rs,h5,decide_false,g_un];refine fI 0 ho rfl (jW (c:=c) h (by omega)) ?_;rintro _ _ w1 ⟨rfl,v1,rfl⟩ ho1;exact done (v':=v1) ho1 ⟨v1,by rw[Pl.esc,if_neg hn,if_neg (by omega)]⟩
theorem Sj (l:List UInt8)(w:World)(hl:l.length≤1000000):Ret prog 160 #[.string ⟨l.toArray⟩] w (fun v w'=>v=.tuple #[.string ⟨(Pl.pStr l).1.toArray⟩,.int .i64 (Pl.pStr l).2]∧Below w.heap.size w w'):=by
 refine aO fun K hK=>C9 ?_;unfold qY;rw[bD Tryz.underlying9];by_cases h1:(32767:Int) < l.length
 ·simp only[rs,h1,decide_true];exact hK _ _ ⟨by rw[Pl.pStr,if_pos (by omega)],Below.refl _ _⟩
 ·simp only[rs,h1,decide_false];refine dV (Kr [40] l [41] _ Pl.esc (by kernel_rfl) RY (fun c=>(Pl.P4 c).2) rfl (by simp) (by omega) w) ?_;rintro _ w' ⟨rfl,hb⟩;exact hK _ _ ⟨by rw[Pl.pStr,if_neg (by omega)];rfl,hb⟩
theorem SF:Each 94 Pl.nmc:=by
 intro b v l c w h hl;refine aO fun K hK=>Di ?_;unfold qW;have ho:=OwnS.lend h;have yes:Pl.nmOk c=true→CallX prog 54 #[.pointer (some ⟨b,0,none⟩),.int .u8 c.toNat] w (pk K) fun t21 w=>K (.returned (.tuple #[])) w:=by
  intro hc;refine fI 0 ho rfl (jW (c:=c) h (by omega)) ?_;rintro _ _ w1 ⟨rfl,v1,rfl⟩ ho1;exact hK _ _ ⟨_,⟨v1,by rw[Pl.nmc,if_pos hc]⟩,ho1.back⟩
 have no:Pl.nmOk c=false→DoX prog (aP 66 1 #[(0,.int .u8 c.toNat)]) w (pk K) fun t24 w=>
   DoX prog (cP 66 9 t24) w (pk K) fun t25 w=>
   CallX prog 95 #[t25] w (pk K) fun t26 w=>
   DoX prog (mBin .add 9 (.string ⟨#[35]⟩) t26) w (pk K) fun t27 w=>
   CallX prog 27 #[.pointer (some ⟨b,0,none⟩),t27] w (pk K) fun t28 w=>K (.returned (.tuple #[])) w:=by
  intro hc;refine dD (fun b=>.slice (some ⟨b,0,none⟩) 1 1) [.int .u8 c.toNat] 5 (fun _=>by kernel_rfl) ho fun nb w1 h1=>?_;rw[EZ (l:=[c]) Tryz.underlying66 Tryz.underlying5 Tryz.underlying9 (h1.sl 0 rfl 1 1 1 rfl)];refine aS h1.tail (R:=fun v=>v=.string ⟨(Oc.hex [c]).toArray⟩) (Tg [c] w1 (by simp)) ?_;rintro _ w2 rfl ho2;change DoX prog (mBin .add 9 (.string ⟨([35]:List UInt8).toArray⟩) (.string ⟨(Oc.hex [c]).toArray⟩)) _ _ _;have hx:=Oc.Ht [c];rw[Cp (by simp only[List.length_cons,List.length_nil] at hx ⊢;omega)];refine fI 0 ho2 rfl (cV (ho2.at_ 0 rfl) (by simp only[List.length_append,List.length_cons,List.length_nil] at hx ⊢;omega)) ?_;rintro _ _ w3 ⟨_,v1,rfl⟩ ho3;exact hK _ _ ⟨_,⟨v1,by rw[Pl.nmc,if_neg (by simp[hc])]⟩,ho3.back⟩
 by_cases h1:(32:Int) < (c.toNat:Int)
 ·simp only[rs,h1,decide_true];by_cases h2:(c.toNat:Int)≤126
  ·simp only[rs,h2,decide_true];have e3:decide ((c.toNat:Int)≠35)=decide (c≠35):=by
    have:=u8d c 35 35 rfl;by_cases hc:c=35
    ·subst hc;rfl
    ·rw[decide_eq_false hc] at this;rw[decide_eq_true hc,decide_eq_true (of_decide_eq_false this)]
   by_cases h3:c≠35
   ·simp only[rs,e3,decide_eq_true h3];refine c_eq (Jr c w) ?_;cases hd:Oc.K6 c with
   |true=>simp only[rs];exact no (by simp[Pl.nmOk,hd])
   |false=>simp only[rs];exact yes (by simp[Pl.nmOk,hd,h3];omega)
   ·simp only[rs,e3,decide_eq_false h3,g_un];exact no (by simp at h3;simp[Pl.nmOk,h3])
  ·simp only[rs,h2,decide_false,g_un];exact no (by simp[Pl.nmOk];omega)
 ·simp only[rs,h1,decide_false,g_un];exact no (by simp[Pl.nmOk];omega)
theorem Fa (l:List UInt8)(w:World):Ret prog 55 #[.string ⟨l.toArray⟩] w (fun v w'=>v=.tuple #[.string ⟨(Pl.xF l).1.toArray⟩,.int .i64 (Pl.xF l).2]∧Below w.heap.size w w'):=by
 refine aO fun K hK=>Gh ?_;unfold xQ;rw[bD Tryz.underlying9];by_cases h1:(127:Int) < l.length
 ·simp only[rs,h1,decide_true];exact hK _ _ ⟨by rw[Pl.xF,if_pos (by omega)],Below.refl _ _⟩
 ·simp only[rs,h1,decide_false];refine c_eq (jO l 0 w) ?_;simp only[rs,Oc.gI];cases h2:l.contains 0 with
 |true=>simp only[rs];exact hK _ _ ⟨by rw[Pl.xF,if_neg (by omega),if_pos h2],Below.refl _ _⟩
 |false=>
   simp only[rs];refine dV (Kr [47] l [] _ Pl.nmc (by kernel_rfl) SF (fun c=>Nat.le_trans (Pl.P2 c).2 (by omega)) rfl (by simp) (by omega) w) ?_;rintro _ w' ⟨rfl,hb⟩;exact hK _ _ ⟨by rw[Pl.xF,if_neg (by omega),if_neg (by simp at h2;simp[h2]),List.append_nil];rfl,hb⟩
end
section
open Eng Go.RowKit
def strV (p:List UInt8):Value:=.string ⟨p.toArray⟩
def bR (ps:List (List UInt8)):List Value:=ps.map strV
theorem mS (ps:List (List UInt8)):(bR ps).length=ps.length:=by simp[bR]
theorem eB {ps:List (List UInt8)}{i:Nat}(h:i < ps.length):(bR ps)[i]?=some (.string ⟨ps[i].toArray⟩):=by simp[bR,strV,h]
theorem Ku (ps:List (List UInt8))(v:Value)(w:World)(hs:Sl w v 1 ps.length (bR ps))(hb:Pl.tot ps≤1000000000000) :
  Ret prog 28 #[v] w (fun r w'=>r=.string ⟨(Pl.join ps).toArray⟩∧Below w.heap.size w w'):=by
 refine aO fun K hK=>FP ?_;unfold yL;refine dD (fun b=>.pointer (some ⟨b,0,none⟩)) [.pointer none,.slice none 0 0] 68 (fun _=>by kernel_rfl) (Own.start w) fun b w1 ho=>?_;rw[bF Tryz.underlying39 (ho.Sv hs)];have hB0:∃v0,Own w w1 [Bld b v0 []]:=by
  have h1:=(ho.Az 5 1).swap;exact⟨_,OwnS.B3 (l:=[]) (.inl rfl) EO h1⟩
 obtain⟨v0,ho0⟩:=hB0;have hlen:=Pl.Cm ps;refine loop (fun vs w'=>∃(i:Nat) (bv:Value),vs=[.int .u8 (Pl.pM (Pl.join (ps.take i))).toNat,.int .i64 i]∧i≤ps.length∧Own w w' [Bld b bv (Pl.join (ps.take i))])
  (fun vs _=>ps.length - n1 vs) ⟨0,v0,rfl,by omega,ho0⟩ ?_
 rintro vs w2 ⟨i,bv,rfl,hi,ho2⟩ _;simp only[AD,gd];rw[rF];by_cases hlt:(i:Int) < (ps.length:Int)
 ·have hi2:i < ps.length:=by omega
  simp only[hlt,decide_true,i_t];have hgt:=Pl.TU ps i hi2;have hjl:=Pl.Ey (ps.take i);generalize hacc:Pl.join (ps.take i)=acc at *;have hnext:Pl.join (ps.take (i+1))=Pl.glue acc ps[i]:=by rw[List.take_succ_eq_append_getElem hi2,Pl.OT,hacc]
  refine join fun J2 hJ2=>?_;refine JZ (.string ⟨ps[i].toArray⟩) Tryz.underlying39 (by kernel_rfl) (ho2.Sv hs) (by omega) (by rw[Int.toNat_natCast];exact eB hi2) fun p hp=>?_;rw[aW (by kernel_rfl) hp];have fin:∀(bv':Value) (w':World),Own w w' [Bld b bv' (Pl.glue acc ps[i])]→J2 [.int .u8 (Pl.pM (Pl.glue acc ps[i])).toNat] w':=by
   intro bv' w' h';refine hJ2 _ _ fun _=>?_;simp only[AH,gd,rs];rw[aC (by omega) (by omega)];refine bG ⟨i+1,bv',by rw[hnext];rfl,by omega,by rw[hnext];exact h'⟩ (by simp[n1,RowKit.intOf];omega)
  change DoX prog (mEq .eql _ _ _ _ (.string ⟨([]:List UInt8).toArray⟩)) _ _ _;rw[Ke];by_cases hp0:ps[i]=[]
  ·simp only[decide_eq_true hp0,rs];have:=fin bv w2 (by rw[hp0];exact ho2);rw[hp0] at this;exact this
  ·simp only[decide_eq_false hp0,rs];obtain⟨c,t,hct⟩:∃c t,ps[i]=c::t:=by
    cases h:ps[i] with
   |nil=>exact absurd h hp0
   |cons c t=>exact⟨c,t,rfl⟩
   refine join fun J3 hJ3=>?_;have last:∀(acc':List UInt8) (bv':Value) (w':World),Own w w' [Bld b bv' acc']→acc'.length≤acc.length+1→acc'++ps[i]=Pl.glue acc ps[i]→J3 [] w':=by
    intro acc' bv' w' h' hl' he;refine hJ3 _ _ fun _=>?_;simp only[AA];refine fI 0 h' rfl (cV (h'.at_ 0 rfl) (by omega)) ?_;rintro _ _ w3 ⟨_,v3,rfl⟩ ho3;rw[bD Tryz.underlying9,PX];have hpos:0 < ps[i].length:=List.length_pos_iff.2 hp0;rw[aC (by omega) (by omega),s_ix (c:=Pl.pM ps[i]) Tryz.underlying9 (by omega) (by
     rw[show (((ps[i].length:Nat):Int) - 1).toNat=ps[i].length - 1 by omega];exact Pl.Rn _ hp0)]
    rw[←Pl.Nd acc _ hp0];refine fin v3 w3 ?_;rw[←he];exact ho3
   refine c_eq (AQ _ w2) ?_;have put:((Oc.regular (Pl.pM acc)||decide (Pl.pM acc=47))&&Oc.regular c)=true→CallX prog 54 #[.pointer (some ⟨b,0,none⟩),(.int .u8 32)] w2 (pk K) fun t26 w=>J3 [] w:=by
    intro hc;refine fI 0 ho2 rfl (gB (k:=32) (ho2.at_ 0 rfl) (by omega) rfl (by omega)) ?_;rintro _ _ w3 ⟨rfl,v3,rfl⟩ ho3;refine last _ v3 w3 ho3 (by simp) ?_;rw[hct];simp only[Pl.glue];rw[if_pos hc];rfl
   have skip:((Oc.regular (Pl.pM acc)||decide (Pl.pM acc=47))&&Oc.regular c)=false→J3 [] w2:=by
    intro hc;refine last acc bv w2 ho2 (by omega) ?_;rw[hct];simp only[Pl.glue];rw[if_neg (by simp[hc])]
   have hix:∀{PK K},DoX prog (mIx 9 (.string ⟨ps[i].toArray⟩) (.int .i64 0)) w2 PK K=K (.int .u8 c.toNat) w2:=fun {PK K}=>s_ix (c:=c) Tryz.underlying9 (by omega) (by rw[hct];rfl);have e47:=u8d (Pl.pM acc) 47 47 rfl;have rest:(Oc.regular (Pl.pM acc)||decide (Pl.pM acc=47))=true→CallX prog 53 #[.int .u8 c.toNat] w2 (pk K) fun t25 w=>
     IfX t25 (CallX prog 54 #[.pointer (some ⟨b,0,none⟩),(.int .u8 32)] w (pk K) fun t26 w=>J3 [] w) (J3 [] w):=by
    intro hr;refine c_eq (AQ c w2) ?_;cases hc:Oc.regular c with
   |true=>simp only[rs];exact put (by simp[hr,hc])
   |false=>simp only[rs];exact skip (by simp[hc])
   cases hr:Oc.regular (Pl.pM acc) with
  |true=>
    simp only[rs,g_un,hix];exact rest (by simp[hr])
  |false=>
    simp only[rs,e47];by_cases h47:Pl.pM acc=47
    ·simp only[decide_eq_true h47,rs,hix];exact rest (by simp[h47])
    ·simp only[decide_eq_false h47,rs,g_un];exact skip (by simp[hr,h47])
 ·have hi2:i=ps.length:=by omega
  subst hi2;simp only[hlt,decide_false,i_f];rw[List.take_length] at ho2;refine fI 0 ho2 rfl (nR (ho2.at_ 0 rfl)) ?_;rintro _ _ w6 ⟨rfl,rfl⟩ ho6;exact hK _ _ ⟨rfl,ho6.done⟩
end
section
open Eng Go.RowKit Go.ChangeShapes Go.WideShapes Go.ChangeAt
theorem eV {P:Program}{x:String×DataW Unit}{l:List (String×DataW Unit)}{W:World}(h:laidMet P (x::l) W):laidMet P l W:=by
 obtain⟨ps,⟨g,t,cs,fuel,p,q,_,_,_,_,hr,rfl⟩,hn,hc⟩:=h;exact⟨q,hr,(List.nodup_append.1 hn).2.1,fun b off hm=>hc b off (by simp[hm])⟩
end
end Go.Proofs.YtoofficgclghoaaGreatDoor

namespace Go.Proofs.YtoofficgclghoaaGreatDoor
section
namespace Eng
open Go.RowKit
def aggN (P:Program)(T:TypeId):Option Nat:=
 match P.underlying T with
|some (.struct _)|some (.array _ _)=>(P.info? T).map (·.size)
|_=>none
def AtV (P:Program)(w:World)(T:TypeId)(a:Addr)(v:Value):Prop:=(loadVar T a).run P w=.ok v w
section
variable {S:Nat→Prop}{P:Program}{w:World}{PK:PKT}{K:VWP}
theorem AtV.cell {T:TypeId}(ht:dF P T=true){a:Addr}{v:Value}(h:w.cell? a=some v):AtV P w T a v:=eA ht h
theorem AtV.agg {T:TypeId}{n:Nat}(ht:aggN P T=some n){b off:Nat}{cs:List Value}(hl:cs.length=n)(h:∀j v,cs[j]?=some v→w.cell? ⟨b,off+j,none⟩=some v):AtV P w T ⟨b,off,none⟩ (.agg cs.toArray):=by
 have hc:=run_loadCells_list (P:=P) w ⟨b,off,none⟩ cs (fun j v hj=>by rw[Er];exact h j v hj);unfold aggN at ht;subst hl;unfold AtV;split at ht
 ·rename_i fs hu
  obtain⟨i,hi,h1⟩:=Option.map_eq_some_iff.1 ht;simp[loadVar,isAgg,run_underlying hu,sizeOf,typeInfo,hi,h1,hc]
 ·rename_i k e hu
  obtain⟨i,hi,h1⟩:=Option.map_eq_some_iff.1 ht;simp[loadVar,isAgg,run_underlying hu,sizeOf,typeInfo,hi,h1,hc]
 ·cases ht
theorem bL {T:TypeId}{a:Addr}{v:Value}(h:AtV P w T a v):(aB T (.pointer (some a))).run P w=.ok (.value v) w:=by
 unfold AtV at h;exact cK (by simp[Instr.loadAt,Instr.sureAddr,h])
theorem l_at {T:TypeId}{a:Addr}{v:Value}(h:AtV P w T a v):DoX P (aB T (.pointer (some a))) w PK K=K v w:=aT (bL h)
theorem OwnS.agg {w0:World}{L:List Ent}(ho:OwnS S w0 w L)(i:Nat){b:Nat}{cs:List Value}{E T:TypeId}(hi:L[i]?=some (.cells b cs E))(ht:aggN P T=some cs.length):AtV P w T ⟨b,0,none⟩ (.agg cs.toArray):=
 AtV.agg ht rfl fun j v hj=>by rw[Nat.zero_add];exact ho.cell i hi j hj
theorem Iu {T:TypeId}{b:Nat}{cs new:List Value}{E:TypeId}(hs:(P.info? T).map (·.size)=some new.length)(hv:∀v∈new,v.oneCell'=true)(hl:cs.length=new.length)(h:w.heap[b]?=some (.cells cs.toArray E (0,0))) :
  (Instr.storeAt T (.pointer (some ⟨b,0,none⟩)) (.agg new.toArray)).run P w=.ok () (w.setRow b new.toArray):=by
 have hst:=run_storeCells_at P b 0 E new 0 cs.toArray w h (by simp;omega) hv;obtain⟨i,hi,h1⟩:=Option.map_eq_some_iff.1 hs;have hd:cs.toArray.toList.drop new.length=[]:=List.drop_eq_nil_of_le (by rw[←hl];exact Nat.le_refl _);simp only[Nat.add_zero,Nat.zero_add,List.take_zero,List.nil_append,hd,List.append_nil] at hst;have hc:(Value.agg new.toArray).cells=new.toArray:=rfl;simp[Instr.storeAt,Instr.sureAddr,storeVar,hc,sizeOf,typeInfo,hi,h1,hst]
theorem Bq {w0:World}{L:List Ent}(i:Nat){T:TypeId}{b:Nat}{cs new:List Value}{E:TypeId}(ho:OwnS S w0 w L)(hi:L[i]?=some (.cells b cs E))(hs:(P.info? T).map (·.size)=some new.length)(hv:∀v∈new,v.oneCell'=true)(hl:cs.length=new.length)
  (k:∀w',OwnS S w0 w' (L.set i (.cells b new E))→K undef w'):DoX P (aD T (.pointer (some ⟨b,0,none⟩)) (.agg new.toArray)) w PK K:=
 IH (MB (Iu hs hv hl (ho.at_ i hi))) (k _ (He ho i hi _))
theorem sW {T:TypeId}{a:List UInt8}{k k':IntKind}{lo hi:Int}(h:P.underlying T=some .string)(h0:0≤lo)(h1:lo≤hi)(h2:hi≤a.length) :
  (bT T (.string ⟨a.toArray⟩) (some (.int k lo)) (some (.int k' hi)) none).run P w=.ok (.value (.string ⟨((a.drop lo.toNat).take (hi.toNat - lo.toNat)).toArray⟩)) w:=by
 refine cK ?_;have e:(⟨a.toArray⟩:ByteArray).extract lo.toNat hi.toNat=⟨((a.drop lo.toNat).take (hi.toNat - lo.toNat)).toArray⟩:=by
  rw[CC (s:=(⟨a.toArray⟩:ByteArray).extract lo.toNat hi.toNat),Lib.extract_data]
 have g1:(0≤hi∧hi≤((a.length:Nat):Int)):=by omega
 have g2:(0≤lo∧lo≤((hi.toNat:Nat):Int)):=by omega
 simp only[Instr.sliceAt,Instr.slice,Instr.sliceBounds,Instr.sliceBound,asIntOf,run_underlying h,bO];have g3:lo≤max hi 0:=by omega
 simp[run_underlying h,bO,h2,g3,h0,g1.1,e]
theorem uN {f:Nat}{args:Array Value}{v:Value}{C:World→Prop}(h:Ret P f args w (fun v' w'=>v'=v∧w=w'))(hb:C w):Ret P f args w (fun v' w'=>v'=v∧C w'):=
 h.mono fun v' w' r=>⟨r.1,r.2▸hb⟩
theorem EE {f:Nat}{args:Array Value}{v:Value}{w1:World}(h:Ret P f args w (fun v' w'=>v'=v∧Below w.heap.size w w'))(hb:Below w1.heap.size w1 w):Ret P f args w (fun v' w'=>v'=v∧Below w1.heap.size w1 w'):=
 h.mono fun v' w' r=>⟨r.1,(((Own.start w1).grow hb).grow r.2).done⟩
theorem iW {r1:RV}{v1:Value}{K:Ending→World→Prop}(h1:r1.read.run P w=.ok v1 w)(k:K (.returned v1) w):RetX P [r1] w K:=
 ⟨_,by simp[Ay,h1],k⟩
theorem uU {r1 r2:RV}{v1 v2:Value}{K:Ending→World→Prop}(h1:r1.read.run P w=.ok v1 w)(h2:r2.read.run P w=.ok v2 w)(k:K (.returned (.tuple #[v1,v2])) w):RetX P [r1,r2] w K:=
 ⟨_,by simp[Ay,h1,h2],k⟩
theorem BA {r1 r2 r3:RV}{v1 v2 v3:Value}{K:Ending→World→Prop}(h1:r1.read.run P w=.ok v1 w)(h2:r2.read.run P w=.ok v2 w)(h3:r3.read.run P w=.ok v3 w)(k:K (.returned (.tuple #[v1,v2,v3])) w):RetX P [r1,r2,r3] w K:=
 ⟨_,by simp[Ay,h1,h2,h3],k⟩
theorem bC {T:TypeId}{a:Addr}{v:Value}(h:AtV P w T a v):(RV.cell (.pointer (some a)) T).read.run P w=.ok v w:=by
 unfold AtV at h;simp[RV.read,asAddr,h]
theorem dR {v:Value}:(RV.val v).read.run P w=.ok v w:=by simp[RV.read]
end
end Eng
end
section
namespace Eng
open Go.RowKit
section
variable {S:Nat→Prop}{P:Program}{w w0:World}{L:List Ent}{PK:PKT}{K:VWP}
theorem OwnS.join {w':World}{L':List Ent}(h:OwnS S w0 w L)(k:OwnS NoB w w' L'):OwnS S w0 w' (L'++L):=by
 have h':=h.grow k.below;refine⟨h'.grew,fun e he=>?_,List.pairwise_append.2 ⟨k.apart,h'.apart,fun e he f hf b hb hb'=>?_⟩⟩
 ·rcases List.mem_append.1 he with he|he
  ·obtain⟨a,b⟩:=k.all e he;refine⟨a,fun j hj=>.inr ?_⟩;rcases b j hj with h1|h1
   ·exact h1.elim
   ·exact Nat.le_trans h.size h1
  ·exact h'.all e he
 ·have h2:=f.lt (h.mem hf) b hb';rcases (k.all e he).2 b hb with h1|h1
  ·exact h1
  ·omega
theorem Vs {l:Nat}{L0:Loop}{K:World→Prop}(i:Nat)(ho:OwnS S w0 w L)(hi:L[i]?=some (.obj l (lp L0 .ready none)))(k:∀w',OwnS S w0 w' (L.set i (.obj l (lp L0 .busy none)))→K w'):BegX P l w K:=
 ⟨_,Gv (ho.at_ i hi),k _ (zN ho i hi)⟩
theorem Wb {l:Nat}{L0:Loop}{j:Option Code}{R:VWP}(i:Nat)(ho:OwnS S w0 w L)(hi:L[i]?=some (.obj l (lp L0 .busy none)))(k:∀w',OwnS S w0 w' (L.set i (.obj l (lp L0 (if j.isNone then .ready else .done) j)))→R (.bool j.isNone) w'):EndX P l j w R:=
 ⟨_,_,Ju (ho.at_ i hi),k _ (zN ho i hi)⟩
theorem Wl {l:Nat}{args:List Value}{R:VWP}(h:Yld P l args w R)(k:∀v w',R v w'→K v w'):DoX P (jI (.func (.yield l) #[] #[]) args.toArray) w PK K:=by
 obtain⟨fn,tmps,asn,bdy,h1,h2⟩:=h;have hr:(jI (.func (.yield l) #[] #[]) args.toArray).run P w=.ok (.round l fn tmps asn bdy) w:=by
  rw[←h1];simp[jI,invoke,Deferred.ofValue,resolve]
 refine⟨?_⟩;rw[hr];refine⟨RoundIn.mono h2 ?_⟩;rintro e w' ⟨v,rfl,hv⟩;exact k v w' hv
theorem range {js:List (Option Code×(Nat→World→Prop))}{B:Nat→List Value→World→(VWP)→Prop}{np f:Nat}{fa ca:Array Value}(ho:OwnS S w0 w L)(hp:dQ P f=true)
  (h:∀(L0:Loop) (df lb:Nat) (w1:World),OwnS S w0 w1 (.obj lb (lp L0 .ready none)::.obj df (.deferred (some []))::L) →
   (∀args W R,W.heap[lb]?=some (lp L0 .ready none)→args.length=np→B lb args W R→Yld P lb args W R) →
   Calls P f (fa++#[.func (.yield lb) #[] #[]]++ca) w1 fun e w3=>∃v st pd k,e=.returned v∧st≠.busy∧w3.heap[lb]?=some (lp L0 st pd)∧(pd,k)∈js∧k df (putO w3 lb (lp L0 .exhausted pd))) :
  RangeX P none np (.func (.func f) fa ca) w B js:=by
 refine⟨f,fa,ca,w.heap.size,w.alloc (.deferred (some [])),rfl,hp,⟨rfl,rfl⟩,fun L0 _ hy=>?_⟩;exact h L0 w.heap.size (w.alloc (.deferred (some []))).heap.size _ ((ho.Em _).Em _) (fun args W R h1 h2 h3=>hy _ args W R h1 h2 h3)
theorem U5 {rs:List RV}{K:Ending→World→Prop}{df:Nat}(i:Nat)(ho:OwnS S w0 w L)(hi:L[i]?=some (.obj df (.deferred (some []))))(k:∀w',OwnS S w0 w' (L.set i (.obj df (.deferred none)))→RetD P rs w' K):Dq P rs K [mkD df] .returning w:=by
 refine⟨(fun h=>by cases h),df,_,rfl,?_,k _ (zN ho i hi)⟩;have h:w.heap[df]?=some (.deferred (some [])):=ho.at_ i hi;simp[Instr.takeDeferred,getObj,setObj,Sem.run,h]
end
end Eng
end
section
namespace Eng
open Go.RowKit
def eqSh (P:Program):List Field→Option (List (Nat×Bool))
|[]=>some []
|f::fs=>
  if f.name=="_" then none
  else match P.underlying f.type with
  |some (.int _)=>(eqSh P fs).map ((f.offset,false)::·)
  |some .string=>(eqSh P fs).map ((f.offset,true)::·)
  |_=>none
def OQ:Bool→Option Value→Option Value→Bool
|false,some (.int k _),some (.int k' _)=>decide (k=k')
|true,some (.string _),some (.string _)=>true
|_,_,_=>false
def Hl:Option Value→Option Value→Bool
|some (.int _ a),some (.int _ b)=>a==b
|some (.string a),some (.string b)=>a.toList==b.toList
|_,_=>false
section
variable {P:Program}{w:World}{PK:PKT}{K:VWP}
theorem H8 (d:Nat)(xs ys:Array Value):∀(fs:List Field) (sh:List (Nat×Bool)),eqSh P fs=some sh→(sh.all fun p=>OQ p.2 xs[p.1]? ys[p.1]?)=true →
  (Op.eqFields (d+1) xs ys fs).run P w=.ok (sh.all fun p=>Hl xs[p.1]? ys[p.1]?) w
|[],sh,h,_=>by
  cases h;simp[Op.eqFields]
|f::fs,sh,h,hok=>by
  rw[eqSh] at h;split at h
  ·cases h
  ·rename_i hn
   have hn':f.name≠"_":=by simpa using hn
   split at h
   ·rename_i k hu
    obtain⟨sh',h',rfl⟩:=Option.map_eq_some_iff.1 h;simp only[List.all_cons,Bool.and_eq_true] at hok;obtain⟨h0,hok⟩:=hok;have ih:=H8 d xs ys fs sh' h' hok;cases hx:xs[f.offset]? with
   |none=>rw[hx] at h0;cases h0
   |some a=>
     cases hy:ys[f.offset]? with
    |none=>rw[hx,hy] at h0;cases a<;>cases h0
    |some b=>
      rw[hx,hy] at h0;cases a<;>cases b<;>first|(cases h0;done)|skip
      rename_i k1 a k2 b
      simp only[OQ,decide_eq_true_eq] at h0;subst h0;simp only[Op.eqFields,hn',ne_eq,not_false_eq_true,if_true,Sem.run_bind,part,isAgg,run_underlying hu,Result.andThen_ok,Sem.run_pure,Bool.false_eq_true,if_false,hx,hy,run_equalIn_int w d f.type k1 k a b hu,List.all_cons,Hl];cases hab:(a==b)
      ·simp
      ·simp[ih];rfl
   ·rename_i hu
    obtain⟨sh',h',rfl⟩:=Option.map_eq_some_iff.1 h;simp only[List.all_cons,Bool.and_eq_true] at hok;obtain⟨h0,hok⟩:=hok;have ih:=H8 d xs ys fs sh' h' hok;cases hx:xs[f.offset]? with
   |none=>rw[hx] at h0;cases h0
   |some a=>
     cases hy:ys[f.offset]? with
    |none=>rw[hx,hy] at h0;cases a<;>cases h0
    |some b=>
      rw[hx,hy] at h0;cases a<;>cases b<;>first|(cases h0;done)|skip
      rename_i a b
      simp only[Op.eqFields,hn',ne_eq,not_false_eq_true,if_true,Sem.run_bind,part,isAgg,run_underlying hu,Result.andThen_ok,Sem.run_pure,Bool.false_eq_true,if_false,hx,hy,run_equalIn_string w d f.type a b hu,List.all_cons,Hl];cases hab:(a.toList==b.toList)
      ·simp
      ·simp[ih];rfl
   ·cases h
def eqT (P:Program)(T:TypeId)(sh:List (Nat×Bool)):Prop:=
 P.underlying T=some (.struct (P.fieldsOf T))∧P.stoodInHeld T=false∧P.eqGuardType P.depth T=false∧eqSh P (P.fieldsOf T).toList=some sh
theorem Lc {T:TypeId}{sh:List (Nat×Bool)}(h:eqT P T sh){xo yo:Operand}{xs ys:Array Value}(hok:(sh.all fun p=>OQ p.2 xs[p.1]? ys[p.1]?)=true) :
  (mEq .eql T xo yo (.agg xs) (.agg ys)).run P w=.ok (.value (.bool (sh.all fun p=>Hl xs[p.1]? ys[p.1]?))) w:=by
 obtain⟨h1,h2,h3,h4⟩:=h;refine cK ?_;rw[Sem.run_bind,run_eqGuard_agg w .eql T xo yo xs ys h3];simp only[Result.andThen_ok];rw[run_eql_struct,run_equalIn_struct w 9999 T xs ys h1 h2,H8 9998 xs ys _ sh h4 hok];rfl
end
end Eng
end
section
namespace Eng
open Go.RowKit
section
variable {P:Program}{C:World→Prop}{K:Value→Prop}
theorem Vv {E:(Value→Prop)→Prop}:GQ (.bool true) true E K=E K:=propext ⟨fun x=>x.out,fun x=>⟨x⟩⟩
theorem Vt {E:(Value→Prop)→Prop}:GQ (.bool false) true E K=K undef:=propext ⟨fun x=>x.out,fun x=>⟨x⟩⟩
theorem Wh {E:(Value→Prop)→Prop}:GQ (.bool false) false E K=E K:=propext ⟨fun x=>x.out,fun x=>⟨x⟩⟩
theorem VG {E:(Value→Prop)→Prop}:GQ (.bool true) false E K=K undef:=propext ⟨fun x=>x.out,fun x=>⟨x⟩⟩
theorem Ns {want:Bool}{E:(Value→Prop)→Prop}:GQ undef want E K=K undef:=propext ⟨fun x=>x.out,fun x=>⟨x⟩⟩
def gq:=And.intro @Vv (And.intro @Vt (And.intro @Wh (And.intro @VG @Ns)))
theorem UN {T:TypeId}{k:IntKind}{a b:Int}(h:K (.bool (decide (a < b)))):QDo P C (mBin .lss T (.int k a) (.int k b)) K:=q_do _ (fun _=>cK (by simp[binOp,Op.intCmp])) h
theorem q_eq {T:TypeId}{xo yo:Operand}{k:IntKind}{a b:Int}(h:K (.bool (decide (a=b)))):QDo P C (mEq .eql T xo yo (.int k a) (.int k b)) K:=q_do _ (fun _=>cK (by simp[eqGuard,binOp,Op.intCmp,Qs])) h
theorem q_ne {T:TypeId}{xo yo:Operand}{k:IntKind}{a b:Int}(h:K (.bool (decide (a≠b)))):QDo P C (mEq .neq T xo yo (.int k a) (.int k b)) K:=q_do _ (fun _=>cK (by simp[eqGuard,binOp,Op.intCmp,O4])) h
theorem SS {c:Bool}{a b:Value}(h:K (if c then a else b)):QDo P C (aL (.bool c) a b) K:=q_do _ (fun _=>by simp[aL,asBool]) h
theorem q_pt {a b:Value}(h:K a):QDo P C (aL (.bool true) a b) K:=SS h
theorem q_pf {a b:Value}(h:K b):QDo P C (aL (.bool false) a b) K:=SS h
theorem SW {T U:TypeId}{cs:Array Bool}{a:List UInt8}(ht:P.underlying T=some .string)(h:K (.int .i64 (a.length:Int))):QDo P C (mB .len #[T] U cs #[.string ⟨a.toArray⟩]) K:=q_do _ (fun _=>O7 ht) h
theorem TB {T:TypeId}{xo yo:Operand}{a b:List UInt8}(h:K (.bool (decide (a≠b)))):QDo P C (mEq .neq T xo yo (.string ⟨a.toArray⟩) (.string ⟨b.toArray⟩)) K:=by
 refine q_do _ (fun _=>cK ?_) h;have e:(a==b)=decide (a=b):=by by_cases h:a=b<;>simp[h]
 simp[eqGuard,binOp,Op.stringOp,fH,e]
theorem TV {T:TypeId}{xo yo:Operand}{a b:List UInt8}(h:K (.bool (decide (a=b)))):QDo P C (mEq .eql T xo yo (.string ⟨a.toArray⟩) (.string ⟨b.toArray⟩)) K:=by
 refine q_do _ (fun _=>cK ?_) h;have e:(a==b)=decide (a=b):=by by_cases h:a=b<;>simp[h]
 simp[eqGuard,binOp,Op.stringOp,fH,e]
end
end Eng
end
section
namespace Eng
open Go.RowKit
theorem OwnS.perm {S:Nat→Prop}{w0 w:World}{L L':List Ent}(h:OwnS S w0 w L)(hp:L.Perm L'):OwnS S w0 w L':=
 ⟨h.grew,fun e he=>h.all e (hp.mem_iff.2 he),(hp.pairwise_iff (fun {x y} hxy k hy hx=>hxy k hx hy)).1 h.apart⟩
theorem OwnS.front {S:Nat→Prop}{w0 w:World}{A B C:List Ent}(h:OwnS S w0 w (A++(B++C))):OwnS S w0 w (B++(A++C)):=
 h.perm (by rw[←List.append_assoc,←List.append_assoc];exact List.Perm.append_right C List.perm_append_comm)
def pQ (L0:Loop)(lb df:Nat):List Ent:=[.obj lb (lp L0 .ready none),.obj df (.deferred (some []))]
def Seq (P:Program)(I:World→Prop)(f:Nat)(fa ca:Array Value)(F:List Ent)(vs:List Value):Prop:=
 ∀(S:Nat→Prop) (w0 w1:World) (L0:Loop) (lb df:Nat) (M0:List Ent) (R:Nat→List Ent→Prop) (K:Ending→World→Prop),
  (∀(L:List Ent) (W:World),OwnS S w0 W L→I W)→OwnS S w0 w1 (pQ L0 lb df++(M0++F))→R 0 M0 →
  (∀(k:Nat) (v:Value) (M X:List Ent) (W:World),vs[k]?=some v→R k M→OwnS S w0 W (pQ L0 lb df++(M++X)) →
   Yld P lb [v] W (fun r W'=>(r=.bool true∧∃M',R (k+1) M'∧OwnS S w0 W' (pQ L0 lb df++(M'++X)))∨(r=.bool false∧K (.returned (.tuple #[])) W'))) →
  (∀(M X:List Ent) (W:World),R vs.length M→OwnS S w0 W (pQ L0 lb df++(M++X))→K (.returned (.tuple #[])) W) →
  Calls P f (fa++#[.func (.yield lb) #[] #[]]++ca) w1 K
end Eng
end
section
open Eng Go.RowKit Go.ChangeShapes Go.WideShapes
inductive Ob where
|mk (k n g:Int) (s:List UInt8) (keys:List (List UInt8)) (kids:List Ob)
namespace Ob
def k:Ob→Int|.mk k _ _ _ _ _=>k
def n:Ob→Int|.mk _ n _ _ _ _=>n
def g:Ob→Int|.mk _ _ g _ _ _=>g
def s:Ob→List UInt8|.mk _ _ _ s _ _=>s
def keys:Ob→List (List UInt8)|.mk _ _ _ _ keys _=>keys
def kids:Ob→List Ob|.mk _ _ _ _ _ kids=>kids
 mutual
def wt:Ob→Nat
|.mk _ _ _ s keys kids=>6+s.length+Pl.tot keys+wts kids
def wts:List Ob→Nat
|[]=>0
|o::os=>wt o+wts os
end
end Ob
def SlA (A:Nat→Prop)(w:World)(v:Value)(sz n:Nat)(cs:List Value):Prop:=Sl w v sz n cs∧(∀p l c,v=.slice (some p) l c→0 < n→A p.block)∧∀a l c,v=.slice a l c→l≤c
 mutual
def OV (A:Nat→Prop)(w:World):Value→Ob→Prop
|v,.mk k n g s keys kids=>∃vk vc cs,v=.agg #[.int .i64 k,.int .i64 n,.int .i64 g,.string ⟨s.toArray⟩,vk,vc]∧SlA A w vk 1 keys.length (bR keys)∧SlA A w vc 6 kids.length cs∧OVs A w cs kids
def OVs (A:Nat→Prop)(w:World):List Value→List Ob→Prop
|cs,[]=>cs=[]
|cs,o::os=>∃(a rest:List Value),cs=a++rest∧a.length=6∧OV A w (.agg a.toArray) o∧OVs A w rest os
end
def Kept (A:Nat→Prop)(w w':World):Prop:=∀b,A b→w'.heap[b]?=w.heap[b]?
theorem Pd {A:Nat→Prop}{w w':World}(h:Kept A w w'){p:Addr}{v:Value}(hp:A p.block)(hc:w.cell? p=some v):w'.cell? p=some v:=by
 have:=h p.block hp;unfold World.cell? at hc ⊢;rw[this];exact hc
theorem SlA.kept {A:Nat→Prop}{w w':World}{v:Value}{sz n:Nat}{cs:List Value}(h:SlA A w v sz n cs)(hk:Kept A w w'):SlA A w' v sz n cs:=by
 obtain⟨⟨hl,a,cap,rfl,h1,h2⟩,hA,hC⟩:=h;refine⟨⟨hl,a,cap,rfl,h1,fun p hp=>?_⟩,hA,hC⟩;obtain⟨h3,h4⟩:=h2 p hp;refine⟨h3,fun j u hj=>?_⟩;have hn:0 < n:=by
  rcases Nat.eq_zero_or_pos n with h|h
  ·subst h;rw[Nat.zero_mul] at hl;have:=(List.getElem?_eq_some_iff.1 hj).1;omega
  ·exact h
 exact Pd hk (hA p n cap (by rw[hp]) hn) (h4 j u hj)
 mutual
theorem OV.kept {A:Nat→Prop}{w w':World}(hk:Kept A w w'):∀(o:Ob) (v:Value),OV A w v o→OV A w' v o
|.mk k n g s keys kids,v,h=>by
  rw[OV] at h ⊢;obtain⟨vk,vc,cs,hv,h1,h2,h3⟩:=h;exact⟨vk,vc,cs,hv,h1.kept hk,h2.kept hk,OVs.kept hk kids cs h3⟩
theorem OVs.kept {A:Nat→Prop}{w w':World}(hk:Kept A w w'):∀(os:List Ob) (cs:List Value),OVs A w cs os→OVs A w' cs os
|[],cs,h=>by rw[OVs] at h ⊢;exact h
|o::os,cs,h=>by
  rw[OVs] at h ⊢;obtain⟨a,rest,he,hl,h1,h2⟩:=h;exact⟨a,rest,he,hl,OV.kept hk o _ h1,OVs.kept hk os rest h2⟩
end
 mutual
theorem OV.mono {A B:Nat→Prop}{w:World}(hAB:∀b,A b→B b):∀(o:Ob) (v:Value),OV A w v o→OV B w v o
|.mk k n g s keys kids,v,h=>by
  rw[OV] at h ⊢;obtain⟨vk,vc,cs,hv,h1,h2,h3⟩:=h;exact⟨vk,vc,cs,hv,⟨h1.1,fun p l c e hn=>hAB _ (h1.2.1 p l c e hn),h1.2.2⟩,⟨h2.1,fun p l c e hn=>hAB _ (h2.2.1 p l c e hn),h2.2.2⟩,OVs.mono hAB kids cs h3⟩
theorem OVs.mono {A B:Nat→Prop}{w:World}(hAB:∀b,A b→B b):∀(os:List Ob) (cs:List Value),OVs A w cs os→OVs B w cs os
|[],cs,h=>by rw[OVs] at h ⊢;exact h
|o::os,cs,h=>by
  rw[OVs] at h ⊢;obtain⟨a,rest,he,hl,h1,h2⟩:=h;exact⟨a,rest,he,hl,OV.mono hAB o _ h1,OVs.mono hAB os rest h2⟩
end
theorem OVs.get {A:Nat→Prop}{w:World}:∀(os:List Ob) (cs:List Value) (i:Nat) (hi:i < os.length),OVs A w cs os→∃a:List Value,a.length=6∧OV A w (.agg a.toArray) os[i]∧∀j v,a[j]?=some v→cs[i*6+j]?=some v
|[],cs,i,hi,h=>by simp at hi
|o::os,cs,0,hi,h=>by
  rw[OVs] at h;obtain⟨a,rest,rfl,hl,h1,h2⟩:=h;refine⟨a,hl,h1,fun j v hj=>?_⟩;rw[Nat.zero_mul,Nat.zero_add,List.getElem?_append_left (List.getElem?_eq_some_iff.1 hj).1];exact hj
|o::os,cs,i+1,hi,h=>by
  rw[OVs] at h;obtain⟨a,rest,rfl,hl,h1,h2⟩:=h;obtain⟨b,hb,hv,hc⟩:=OVs.get os rest i (by simpa using hi) h2;refine⟨b,hb,hv,fun j v hj=>?_⟩;rw[List.getElem?_append_right (by omega),hl,show (i+1)*6+j - 6=i*6+j by omega];exact hc j v hj
theorem OVs.nil {A:Nat→Prop}{w:World}:OVs A w [] []:=by rw[OVs]
theorem SlA.nil (A:Nat→Prop)(w:World)(sz cap:Nat):SlA A w (.slice none 0 cap) sz 0 []:=⟨Sl.nil w sz cap,(fun p l c e _=>by injection e with e _ _;cases e),fun a l c e=>by injection e with _ e2 e3;omega⟩
end
section
open Eng Go.RowKit Go.ChangeShapes Go.WideShapes
section
variable {H:Type}{enc:TypeId×Value→H}{W:World}{sp:Nat→Bool}{held:Bool}
abbrev InW (W:World):Nat→Prop:=fun b=>b < W.heap.size
end
end
section
open Eng Go.RowKit Go.ChangeShapes Go.WideShapes
inductive Rws {α:Type} (R:List Value→α→Prop):List Value→List α→Prop
|nil:Rws R [] []
|cons {a rest:List Value} {x:α} {xs:List α}:R a x→Rws R rest xs→Rws R (a++rest) (x::xs)
section
variable {α:Type}{R R':List Value→α→Prop}
theorem Rws.snoc {a:List Value}{x:α}(hx:R a x):∀{cs:List Value} {xs:List α},Rws R cs xs→Rws R (cs++a) (xs++[x])
|_,_,.nil=>by
  have:=Rws.cons hx (Rws.nil (R:=R));simpa using this
|_,_,.cons h t=>by
  rw[List.append_assoc,List.cons_append];exact .cons h (Rws.snoc hx t)
theorem Rws.mono (h:∀a x,R a x→R' a x):∀{cs:List Value} {xs:List α},Rws R cs xs→Rws R' cs xs
|_,_,.nil=>.nil
|_,_,.cons hx t=>.cons (h _ _ hx) (Rws.mono h t)
theorem Rws.get {n:Nat}(hn:∀a x,R a x→a.length=n):∀{cs:List Value} {xs:List α} (i:Nat) (hi:i < xs.length),Rws R cs xs→∃a,R a xs[i]∧∀j v,a[j]?=some v→cs[i*n+j]?=some v
|_,_,i,hi,.nil=>by simp at hi
|_,_,0,_,.cons (a:=a) (rest:=rest) hx t=>⟨a,hx,fun j v hj=>by
  rw[Nat.zero_mul,Nat.zero_add,List.getElem?_append_left (List.getElem?_eq_some_iff.1 hj).1];exact hj⟩
|_,_,i+1,hi,.cons (a:=a) (rest:=rest) hx t=>by
  obtain⟨b,hb,hc⟩:=Rws.get hn i (by simpa using hi) t;have hl:=hn _ _ hx;refine⟨b,hb,fun j v hj=>?_⟩;have e:(i+1)*n+j=a.length+(i*n+j):=by rw[hl,Nat.add_mul];omega
  rw[e,List.getElem?_append_right (by omega),show a.length+(i*n+j) - a.length=i*n+j by omega];exact hc j v hj
end
section
variable {H:Type}{enc:TypeId×Value→H}{W:World}{sp:Nat→Bool}{held:Bool}
end
end
section
namespace Eng
open Go.RowKit
def Ent.urow (T:TypeId)(sz:Nat)(v:Value)(n:Nat)(xs:List Value):Ent:=
 ⟨fun k=>v.ownBlock=some k,fun w=>w.ownsRow 0 T sz v n xs,fun {w w'} h k=>by
  refine⟨h.1,?_⟩;rcases h.2 with hn|⟨g,cap,cur,rfl,hb,hgg,rest⟩
  ·exact .inl hn
  ·exact .inr ⟨g,cap,cur,rfl,hb,(k g rfl).trans hgg,rest⟩,fun h k hk=>(World.ownsRowF.lt (World.ownsRowF_of h) k hk).2⟩
section
variable {S:Nat→Prop}{P:Program}{w:World}{PK:PKT}{K:VWP}
theorem urow_row {T:TypeId}{sz:Nat}{v:Value}{n:Nat}{xs:List Value}(h:(Ent.urow T sz v n xs).is w):(Ent.row T sz v n xs).is w:=World.ownsRowF_of h
theorem Sl.urow {T:TypeId}{sz:Nat}{v:Value}{n:Nat}{xs:List Value}(h:(Ent.urow T sz v n xs).is w):Sl w v sz n xs:=Sl.row (urow_row h)
theorem OwnS.slU {w0:World}{L:List Ent}(ho:OwnS S w0 w L)(i:Nat){T:TypeId}{sz:Nat}{v:Value}{n:Nat}{xs:List Value}(hi:L[i]?=some (.urow T sz v n xs)):Sl w v sz n xs:=Sl.urow (ho.at_ i hi)
theorem OwnS.nilU {w0:World}{L:List Ent}(ho:OwnS S w0 w L)(E:TypeId)(sz:Nat):OwnS S w0 w (.urow E sz (.slice none 0 0) 0 []::L):=by
 refine⟨ho.grew,fun e he=>?_,.cons (fun f hf k hk=>by simp[Ent.urow,Value.ownBlock] at hk) ho.apart⟩;rcases List.mem_cons.1 he with rfl|he
 ·exact⟨⟨by simp,.inl ⟨rfl,rfl⟩⟩,fun k hk=>by simp[Ent.urow,Value.ownBlock] at hk⟩
 ·exact ho.all e he
theorem OwnS.toU {w0:World}{L:List Ent}{b:Nat}{cs:List Value}{E:TypeId}(ho:OwnS S w0 w (.cells b cs E::L))(sz n cap:Nat)(hl:cs.length=cap*sz)(hn:n≤cap)(hc:cap≤9223372036854775807) :
  OwnS S w0 w (.urow E sz (.slice (some ⟨b,0,none⟩) n cap) n (cs.take (n*sz))::L):=by
 refine⟨ho.grew,fun e he=>?_,?_⟩
 ·rcases List.mem_cons.1 he with rfl|he
  ·refine⟨⟨by rw[List.length_take,hl,Nat.min_eq_left (Nat.mul_le_mul_right _ hn)],.inr ⟨b,cap,cs.toArray,rfl,Nat.zero_le _,ho.at_ 0 rfl,hn,by simp only[maxLen];omega,by simpa using hl,by simp⟩⟩,fun k hk=>?_⟩;simp only[Ent.urow,Value.ownBlock,Option.some.injEq] at hk;exact (ho.all (.cells b cs E) (by simp)).2 k hk.symm
  ·exact ho.all e (by simp[he])
 ·refine .cons (fun f hf k hk=>?_) (List.pairwise_cons.1 ho.apart).2;simp only[Ent.urow,Value.ownBlock,Option.some.injEq] at hk;exact (List.pairwise_cons.1 ho.apart).1 f hf k hk.symm
theorem Fu {T E U:TypeId}{cs:Array Bool}{v v2:Value}{sz bytes n m:Nat}{xs news:List Value}(ht:P.underlying T=some (.slice E))(he:elB P E sz bytes=true)(hsz:0 < sz)
  (hown:w.ownsRow 0 E sz v n xs) (hs:Sl w v2 sz m news) (h1:∀u∈news,u.oneCell'=true) (hb:(n+m)*bytes≤140737488355328) (hb2:n+m≤140737488355328) :
  ∃v' w',(mB .append #[T,T] U cs #[v,v2]).run P w=.ok (.value v') w'∧Turn (.urow E sz v n xs) (.urow E sz v' (n+m) (xs++news)) w w':=by
 obtain⟨v',w',r,t⟩:=AJ (P:=P) (U:=U) (cs:=cs) ht he hsz (World.ownsRowF_of hown) hs h1 hb hb2;refine⟨v',w',r,t.grew,?_,t.new⟩;obtain⟨i,z,hi,hz,hi1,hi2,hz1⟩:=En he;obtain⟨hl,a,cap,rfl,hn,hc⟩:=hs;have hmx:n+m≤maxLen:=by simp only[maxLen];omega
 cases a with
|some p=>
  have hh:∀j u,news[j]?=some u→w.cell? (p.add j)=some u:=by
   intro j u hj;have hlt:j < news.length:=(List.getElem?_eq_some_iff.1 hj).1;have hm:0 < m:=by
    rcases Nat.eq_zero_or_pos m with h0|h0
    ·subst h0;simp at hl;rw[hl] at hlt;simp at hlt
    ·exact h0
   obtain⟨hsp,hcell⟩:=hc p rfl;have:=hsp hm;obtain⟨b,off,spot⟩:=p;simp only at this hcell;subst this;rw[Er];exact hcell j u hj
  obtain⟨v2,w2,r1,r2,r3,r4⟩:=run_append_own (P:=P) w 0 T U E i z sz bytes ht hi hz hi1 hi2 hz1 hsz v n xs hown p m cap news hl hh h1 hmx hb (Nat.zero_le _);have:(mB .append #[T,T] U cs #[v,.slice (some p) m cap]).run P w=.ok (.value v2) w2:=by simp[mB,builtin,r1]
  rw[this] at r;cases r;exact r2
|none=>
  have h0:=hn rfl;subst h0;have hnil:news=[]:=List.eq_nil_of_length_eq_zero (by simpa using hl);subst hnil;have:(mB .append #[T,T] U cs #[v,.slice none 0 cap]).run P w=.ok (.value v) w:=by
   rcases hown.2 with ⟨rfl,rfl⟩|⟨g,cp,cur,rfl,_,_,hnc,_⟩
   ·simp[mB,builtin,Builtin.append_,run_underlying ht,sizeOf,typeInfo,hi,Builtin.lenOf,Builtin.firstCells]
   ·simp[mB,builtin,Builtin.append_,run_underlying ht,sizeOf,typeInfo,hi,Builtin.lenOf,Builtin.firstCells,hnc,storeCells]
  rw[this] at r;cases r;rw[List.append_nil];exact hown
theorem Bt {w0:World}{L:List Ent}(i:Nat){T E U:TypeId}{cs:Array Bool}{v v2:Value}{sz bytes n m:Nat}{xs news:List Value}(ht:P.underlying T=some (.slice E))(he:elB P E sz bytes=true)(hsz:0 < sz)
  (ho:OwnS S w0 w L) (hi:L[i]?=some (.urow E sz v n xs)) (hs:Sl w v2 sz m news) (h1:∀u∈news,u.oneCell'=true) (hb:(n+m)*bytes≤140737488355328) (hb2:n+m≤140737488355328)
  (k:∀v' w',OwnS S w0 w' (L.set i (.urow E sz v' (n+m) (xs++news)))→K v' w'):DoX P (mB .append #[T,T] U cs #[v,v2]) w PK K:=by
 obtain⟨v',w',r,t⟩:=Fu (cs:=cs) (U:=U) ht he hsz (ho.at_ i hi) hs h1 hb hb2;exact tN r (k _ _ (ho.turn i hi t))
theorem rB {E:TypeId}{sz n:Nat}{v:Value}{xs:List Value}(h:(Ent.urow E sz v n xs).is w)(hn:0 < n):∃g cap,v=.slice (some ⟨g,0,none⟩) n cap:=by
 rcases (show w.ownsRow 0 E sz v n xs from h).2 with ⟨_,h0⟩|⟨g,cap,cur,rfl,_⟩
 ·omega
 ·exact⟨g,cap,rfl⟩
theorem Jz {T:TypeId}{g off:Nat}{cur:Array Value}{E:TypeId}{u:Value}{new:List Value}(hc:u.cells=new.toArray)(hs:(P.info? T).map (·.size)=some new.length)(h1:∀x∈new,x.oneCell'=true)
  (hg:w.heap[g]?=some (.cells cur E (0,0))) (hl:off+new.length≤cur.size) :
  (Instr.storeAt T (.pointer (some ⟨g,off,none⟩)) u).run P w=.ok () (w.setRow g (cur.toList.take off++new++cur.toList.drop (off+new.length)).toArray):=by
 have hst:=run_storeCells_at P g off E new 0 cur w hg (by simpa using hl) h1;obtain⟨i,hi,h2⟩:=Option.map_eq_some_iff.1 hs;simp only[Nat.add_zero] at hst;simp[Instr.storeAt,Instr.sureAddr,storeVar,hc,sizeOf,typeInfo,hi,h2,hst]
theorem Ev {w0:World}{L:List Ent}(i:Nat){T E:TypeId}{g off n cap sz:Nat}{xs new:List Value}{u:Value}(ho:OwnS S w0 w L)(hi:L[i]?=some (.urow E sz (.slice (some ⟨g,0,none⟩) n cap) n xs))
  (hc:u.cells=new.toArray) (hs:(P.info? T).map (·.size)=some new.length) (h1:∀x∈new,x.oneCell'=true) (hl:off+new.length≤n*sz)
  (k:∀w',OwnS S w0 w' (L.set i (.urow E sz (.slice (some ⟨g,0,none⟩) n cap) n (xs.take off++new++xs.drop (off+new.length))))→K undef w'):DoX P (aD T (.pointer (some ⟨g,off,none⟩)) u) w PK K:=by
 have hown:w.ownsRow 0 E sz (.slice (some ⟨g,0,none⟩) n cap) n xs:=ho.at_ i hi;rcases hown.2 with ⟨h0,_⟩|⟨g',cap',cur,he,hb,hg,hnc,hcm,hcs,htake⟩
 ·cases h0
 cases he;have hle:n*sz≤cur.size:=by rw[hcs];exact Nat.mul_le_mul_right _ hnc
 refine IH (MB (Jz hc hs h1 hg (by omega))) (k _ ?_);refine ho.put i hi (w':=w.setRow g _) ⟨rfl,rfl,rfl,by simp[World.setRow],fun k _ hk=>setRow_other w g k _ (fun e=>hk (by simp[Ent.urow,Value.ownBlock,e]))⟩ _ ?_ (fun k hk=>.inl hk);have hxl:=hown.1;have hcl:cur.toList.length=cap*sz:=by simpa using hcs
 refine⟨by simp only[List.length_append,List.length_take,List.length_drop];omega,.inr ⟨g,cap,_,rfl,hb,setRow_heap w g cur _ E (0,0) hg,hnc,hcm,?_,?_⟩⟩
 ·simp only[List.size_toArray,List.length_append,List.length_take,List.length_drop];omega
 ·subst htake;rw[List.take_take,Nat.min_eq_left (by omega)];simp only[List.append_assoc];rw[List.take_append,List.take_append,List.take_of_length_le (l:=cur.toList.take off) (by simp;omega),List.take_of_length_le (l:=new) (by simp;omega)]
  congr 2
  rw[List.length_take,Nat.min_eq_left (by omega),List.drop_take]
  congr 1
  omega
end
end Eng
end
section
open Eng Go.RowKit
def obC (o:Ob)(vk vc:Value):List Value:=[.int .i64 o.k,.int .i64 o.n,.int .i64 o.g,.string ⟨o.s.toArray⟩,vk,vc]
def obV (o:Ob)(vk vc:Value):Value:=.agg (obC o vk vc).toArray
def obE (b:Nat)(o:Ob)(vk vc:Value):Ent:=.cells b (obC o vk vc) 42
structure ObAt (A:Nat→Prop) (w:World) (o:Ob) (vk vc:Value) (cs:List Value):Prop where
 keys:SlA A w vk 1 o.keys.length (bR o.keys)
 kids:SlA A w vc 6 o.kids.length cs
 all:OVs A w cs o.kids
theorem OV.open {A:Nat→Prop}{w:World}{v:Value}{o:Ob}(h:OV A w v o):∃vk vc cs,v=obV o vk vc∧ObAt A w o vk vc cs:=by
 cases o with
|mk k n g s keys kids=>
  rw[OV] at h;obtain⟨vk,vc,cs,rfl,h1,h2,h3⟩:=h;exact⟨vk,vc,cs,rfl,h1,h2,h3⟩
theorem ObAt.ov {A:Nat→Prop}{w:World}{o:Ob}{vk vc:Value}{cs:List Value}(h:ObAt A w o vk vc cs):OV A w (obV o vk vc) o:=by
 cases o with
|mk k n g s keys kids=>
  rw[OV];exact⟨vk,vc,cs,rfl,h.keys,h.kids,h.all⟩
theorem ObAt.kept {A:Nat→Prop}{w w':World}{o:Ob}{vk vc:Value}{cs:List Value}(h:ObAt A w o vk vc cs)(hk:Kept A w w'):ObAt A w' o vk vc cs:=
 ⟨h.keys.kept hk,h.kids.kept hk,OVs.kept hk _ _ h.all⟩
theorem Of {A:Nat→Prop}{w w':World}(hA:∀b,A b→b < w.heap.size)(h:Below w.heap.size w w'):Kept A w w':=fun b hb=>h.block b (hA b hb)
theorem OwnS.keptIn {w0 w:World}{L:List Ent}(h:Own w0 w L):Kept (InW w0) w0 w:=Of (fun _ h=>h) h.done
theorem OV.own {w0 w:World}{L:List Ent}{v:Value}{o:Ob}(h:OV (InW w0) w0 v o)(ho:Own w0 w L):OV (InW w0) w v o:=OV.kept (OwnS.keptIn ho) o v h
theorem OV.at_ {w0 w:World}{L:List Ent}{v:Value}{o:Ob}(h:OV (InW w0) w0 v o)(ho:Own w0 w L):OV (InW w) w v o:=OV.mono (fun _ hb=>Nat.lt_of_lt_of_le hb ho.size) o v (h.own ho)
theorem ObAt.own {w0 w:World}{L:List Ent}{o:Ob}{vk vc:Value}{cs:List Value}(h:ObAt (InW w0) w0 o vk vc cs)(ho:Own w0 w L):ObAt (InW w0) w o vk vc cs:=h.kept (OwnS.keptIn ho)
theorem SlA.one {A:Nat→Prop}{w:World}{v:Value}{sz n:Nat}{cs:List Value}(h:SlA A w v sz n cs):v.oneCell'=true:=by
 obtain⟨⟨_,a,cap,rfl,_⟩,_⟩:=h;rfl
theorem eU:aggN prog 42=some 6:=by kernel_rfl
theorem szOb:(Tryz.prog.info? 42).map (·.size)=some 6:=by kernel_rfl
theorem BO:dF prog 40=true:=by kernel_rfl
theorem Js:dF prog 39=true:=by kernel_rfl
theorem nI65:dF prog 2=true:=by kernel_rfl
theorem F2:dF prog 3=true:=by kernel_rfl
theorem mZ:dF prog 9=true:=by kernel_rfl
theorem Wi:fOff prog 42 0=some 0:=by kernel_rfl
theorem VF:fOff prog 42 1=some 1:=by kernel_rfl
theorem Vy:fOff prog 42 2=some 2:=by kernel_rfl
theorem Vq:fOff prog 42 3=some 3:=by kernel_rfl
theorem Pe:fOff prog 42 4=some 4:=by kernel_rfl
theorem Lt:fOff prog 42 5=some 5:=by kernel_rfl
section
variable {w:World}{PK:PKT}{K:VWP}{S:Nat→Prop}{w0:World}{L:List Ent}
theorem oG {b off:Nat}:DoX prog (mFA 42 (.pointer (some ⟨b,off,none⟩)) 0) w PK K=K (.pointer (some ⟨b,off,none⟩)) w:=cF Wi
theorem IQ {b off:Nat}:DoX prog (mFA 42 (.pointer (some ⟨b,off,none⟩)) 1) w PK K=K (.pointer (some ⟨b,off+1,none⟩)) w:=cF VF
theorem QQ {b off:Nat}:DoX prog (mFA 42 (.pointer (some ⟨b,off,none⟩)) 2) w PK K=K (.pointer (some ⟨b,off+2,none⟩)) w:=cF Vy
theorem K8 {b off:Nat}:DoX prog (mFA 42 (.pointer (some ⟨b,off,none⟩)) 3) w PK K=K (.pointer (some ⟨b,off+3,none⟩)) w:=cF Vq
theorem nT {b off:Nat}:DoX prog (mFA 42 (.pointer (some ⟨b,off,none⟩)) 4) w PK K=K (.pointer (some ⟨b,off+4,none⟩)) w:=cF Pe
theorem mH {b off:Nat}:DoX prog (mFA 42 (.pointer (some ⟨b,off,none⟩)) 5) w PK K=K (.pointer (some ⟨b,off+5,none⟩)) w:=cF Lt
theorem rR (o:Ob){vk vc:Value}(hk:vk.oneCell'=true)(hc:vc.oneCell'=true)(ho:OwnS S w0 w L)(k:∀b w',OwnS S w0 w' (obE b o vk vc::L)→K (.pointer (some ⟨b,0,none⟩)) w'):DoX prog (mBox 42 (obV o vk vc)) w PK K:=by
 cases vk<;>first|(cases hk;done)|skip
 all_goals cases vc<;>first|(cases hc;done)|exact dD (fun b=>.pointer (some ⟨b,0,none⟩)) (obC o _ _) 42 (fun _=>by kernel_rfl) ho k
def ob0:Ob:=.mk 0 0 0 [] [] []
theorem bU (ho:OwnS S w0 w L)(k:∀b w',OwnS S w0 w' (obE b ob0 (.slice none 0 0) (.slice none 0 0)::L)→K (.pointer (some ⟨b,0,none⟩)) w'):DoX prog (aN 42) w PK K:=
 dD (fun b=>.pointer (some ⟨b,0,none⟩)) (obC ob0 (.slice none 0 0) (.slice none 0 0)) 42 (fun _=>by kernel_rfl) ho k
theorem oV (o:Ob){vk vc:Value}(hk:vk.oneCell'=true)(hc:vc.oneCell'=true):∀v∈obC o vk vc,v.oneCell'=true:=by
 intro v hv;simp only[obC,List.mem_cons,List.not_mem_nil,or_false] at hv;rcases hv with rfl|rfl|rfl|rfl|rfl|rfl<;>first|rfl|assumption
theorem bA (i:Nat){b:Nat}{o o':Ob}{vk vc vk' vc':Value}(hk:vk'.oneCell'=true)(hc:vc'.oneCell'=true)(ho:OwnS S w0 w L)(hi:L[i]?=some (obE b o vk vc))(k:∀w',OwnS S w0 w' (L.set i (obE b o' vk' vc'))→K undef w') :
  DoX prog (aD 42 (.pointer (some ⟨b,0,none⟩)) (obV o' vk' vc')) w PK K:=Bq i ho hi (new:=obC o' vk' vc') szOb (oV o' hk hc) rfl k
theorem ob_k (ho:OwnS S w0 w L)(i:Nat){b:Nat}{o:Ob}{vk vc:Value}(hi:L[i]?=some (obE b o vk vc)):DoX prog (aB 3 (.pointer (some ⟨b,0,none⟩))) w PK K=K (.int .i64 o.k) w:=aW F2 (ho.cell i hi 0 rfl)
theorem ob_n (ho:OwnS S w0 w L)(i:Nat){b:Nat}{o:Ob}{vk vc:Value}(hi:L[i]?=some (obE b o vk vc)):DoX prog (aB 2 (.pointer (some ⟨b,0+1,none⟩))) w PK K=K (.int .i64 o.n) w:=aW nI65 (ho.cell i hi 1 rfl)
theorem ob_g (ho:OwnS S w0 w L)(i:Nat){b:Nat}{o:Ob}{vk vc:Value}(hi:L[i]?=some (obE b o vk vc)):DoX prog (aB 3 (.pointer (some ⟨b,0+2,none⟩))) w PK K=K (.int .i64 o.g) w:=aW F2 (ho.cell i hi 2 rfl)
theorem ob_s (ho:OwnS S w0 w L)(i:Nat){b:Nat}{o:Ob}{vk vc:Value}(hi:L[i]?=some (obE b o vk vc)):DoX prog (aB 9 (.pointer (some ⟨b,0+3,none⟩))) w PK K=K (.string ⟨o.s.toArray⟩) w:=aW mZ (ho.cell i hi 3 rfl)
theorem dN (ho:OwnS S w0 w L)(i:Nat){b:Nat}{o:Ob}{vk vc:Value}(hi:L[i]?=some (obE b o vk vc)):DoX prog (aB 39 (.pointer (some ⟨b,0+4,none⟩))) w PK K=K vk w:=aW Js (ho.cell i hi 4 rfl)
theorem cX (ho:OwnS S w0 w L)(i:Nat){b:Nat}{o:Ob}{vk vc:Value}(hi:L[i]?=some (obE b o vk vc)):DoX prog (aB 40 (.pointer (some ⟨b,0+5,none⟩))) w PK K=K vc w:=aW BO (ho.cell i hi 5 rfl)
theorem ob_v (ho:OwnS S w0 w L)(i:Nat){b:Nat}{o:Ob}{vk vc:Value}(hi:L[i]?=some (obE b o vk vc)):DoX prog (aB 42 (.pointer (some ⟨b,0,none⟩))) w PK K=K (obV o vk vc) w:=l_at (ho.agg i hi eU)
theorem GB {A:Nat→Prop}{vc:Value}{os:List Ob}{cs:List Value}{K:VWP}{PK2:PKT}(hs:Sl w vc 6 os.length cs)(hall:OVs A w cs os){i:Nat}(hi:i < os.length)
  (k:∀v,OV A w v os[i]→K v w):DoX prog (mIA 40 vc (.int .i64 (i:Int))) w PK fun t w=>DoX prog (aB 42 t) w PK2 K:=by
 obtain⟨b,off,cap,rfl,hc⟩:=gA hs (by omega);refine aT (nM Tryz.underlying40 szOb (by omega) (by omega)) |>.mpr ?_;rw[Int.toNat_natCast];obtain⟨a,hl,hov,hget⟩:=OVs.get os cs i hi hall;refine aT (bL (v:=.agg a.toArray) (AtV.agg eU hl fun j v hj=>?_)) |>.mpr (k _ hov);rw[Nat.add_assoc];exact hc _ _ (hget j v hj)
end
end
section
open Go
namespace Vl
def used (k:Int):Option (Bool×Bool×Bool×Bool×Bool):=
 if k=0 then some (false,false,false,false,false)
 else if k=1∨k=2∨k=3 then some (true,false,false,false,false)
 else if k=4∨k=5 then some (false,false,true,false,false)
 else if k=6 then some (false,false,false,false,true)
 else if k=7 then some (false,false,false,true,true)
 else if k=8 then some (true,true,false,false,false)
 else if k=9 then some (false,false,true,true,true)
 else none
def oF (o:Ob):Bool:=
 match used o.k with
|none=>false
|some (n,g,s,ks,cs)=>(n||decide (o.n=0))&&(g||decide (o.g=0))&&(s||decide (o.s=[]))&&(ks||decide (o.keys=[]))&&(cs||decide (o.kids.length=0))
def fits (o:Ob):Bool:=
 if o.k=1 then decide (0≤o.n∧o.n≤1)
 else if o.k=2 then decide (-2147483647≤o.n∧o.n≤2147483647)
 else if o.k=3 then decide (-1073741824≤o.n∧o.n≤1073741824)
 else if o.k=8 then decide (1≤o.n∧o.n≤8191)&&decide (0≤o.g∧o.g≤65535)
 else true
def long (k:Int):Nat:=if k=5 then 127 else if k=9 then 1048576 else 32767
def name (s:List UInt8):Bool:=decide (s.length≤127)&&decide ((0:UInt8) ∉ s)
def lenK:List UInt8:=[76,101,110,103,116,104]
abbrev less (a b:List UInt8):Bool:=Op.bytesLess a b
def Gt (o:Ob)(i:Nat):Bool:=
 name (o.keys.getD i [])&&(decide (i=0)||less (o.keys.getD (i - 1) []) (o.keys.getD i []))&&!(decide (o.k=9)&&decide (o.keys.getD i []=lenK))&&decide ((o.kids.getD i (.mk 0 0 0 [] [] [])).k≠0)
def rising (o:Ob):Bool:=decide (o.keys.length=o.kids.length)&&(List.range o.keys.length).all (Gt o)
def form (o:Ob):Bool:=(!(decide (o.k=5))||name o.s)&&(!(decide (o.k=7∨o.k=9))||rising o)
def why (d:Nat)(o:Ob):Int:=
 if 24 < d then 7
 else if oF o=false∨(o.k=9∧1 < d) then 10
 else if fits o=false then 2
 else if long o.k < o.s.length then 5
 else if 8191 < o.kids.length then 6
 else if form o=false then 3
 else 0
 mutual
def check (d:Nat):Ob→Int
|.mk k n g s keys kids=>if why d (.mk k n g s keys kids)≠0 then why d (.mk k n g s keys kids) else pS (d+1) kids
def pS (d:Nat):List Ob→Int
|[]=>0
|o::os=>if check d o≠0 then check d o else pS d os
end
theorem Bo (d:Nat)(o:Ob):check d o=if why d o≠0 then why d o else pS (d+1) o.kids:=by cases o;rw[check];rfl
end Vl
end
section
open Eng
def jD (t0:Value)(w:World)(K:Ending→World→Prop):Prop:=
 DoX prog (aN 42) w (pk K) fun t2 w=>
 DoX prog (aG 42 #[(0,(.int .i64 5)),(3,t0)]) w (pk K) fun t4 w=>
 DoX prog (aD 42 t2 t4) w (pk K) fun _ w=>
 RetX prog [.cell t2 42] w K
theorem xV (t0:Value)(w:World)(K:Ending→World→Prop):wpX prog 5 [] [] none (aK Tryz.f78) (topQ prog [.cell 2 42] K) (aJ [t0]) [] w=jD t0 w K:=by kernel_rfl
theorem xB {t0:Value}{w:World}{K:Ending→World→Prop}(h:jD t0 w K):Calls prog 78 #[t0] w K:=
 aA Tryz.func78 rfl rfl rfl rfl (Eq.mpr (xV t0 w K) h)
def iD (t0:Value)(w:World)(K:Ending→World→Prop):Prop:=
 DoX prog (aN 42) w (pk K) fun t2 w=>
 DoX prog (aG 42 #[(0,(.int .i64 4)),(3,t0)]) w (pk K) fun t4 w=>
 DoX prog (aD 42 t2 t4) w (pk K) fun _ w=>
 RetX prog [.cell t2 42] w K
theorem vJ (t0:Value)(w:World)(K:Ending→World→Prop):wpX prog 5 [] [] none (aK Tryz.f77) (topQ prog [.cell 2 42] K) (aJ [t0]) [] w=iD t0 w K:=by kernel_rfl
theorem vK {t0:Value}{w:World}{K:Ending→World→Prop}(h:iD t0 w K):Calls prog 77 #[t0] w K:=
 aA Tryz.func77 rfl rfl rfl rfl (Eq.mpr (vJ t0 w K) h)
def jB (t0 t1:Value)(w:World)(K:Ending→World→Prop):Prop:=
 DoX prog (aN 42) w (pk K) fun t4 w=>
 DoX prog (aG 42 #[(0,(.int .i64 8)),(1,t0),(2,t1)]) w (pk K) fun t7 w=>
 DoX prog (aD 42 t4 t7) w (pk K) fun _ w=>
 RetX prog [.cell t4 42] w K
theorem xZ (t0 t1:Value)(w:World)(K:Ending→World→Prop):wpX prog 8 [] [] none (aK Tryz.f74) (topQ prog [.cell 4 42] K) (aJ [t0,t1]) [] w=jB t0 t1 w K:=by kernel_rfl
theorem yV {t0 t1:Value}{w:World}{K:Ending→World→Prop}(h:jB t0 t1 w K):Calls prog 74 #[t0,t1] w K:=
 aA Tryz.func74 rfl rfl rfl rfl (Eq.mpr (xZ t0 t1 w K) h)
def jJ (t0:Value)(w:World)(K:Ending→World→Prop):Prop:=
 DoX prog (aN 42) w (pk K) fun t2 w=>
 DoX prog (aG 42 #[(0,(.int .i64 2)),(1,t0)]) w (pk K) fun t4 w=>
 DoX prog (aD 42 t2 t4) w (pk K) fun _ w=>
 RetX prog [.cell t2 42] w K
theorem xR (t0:Value)(w:World)(K:Ending→World→Prop):wpX prog 5 [] [] none (aK Tryz.f75) (topQ prog [.cell 2 42] K) (aJ [t0]) [] w=jJ t0 w K:=by kernel_rfl
theorem yR {t0:Value}{w:World}{K:Ending→World→Prop}(h:jJ t0 w K):Calls prog 75 #[t0] w K:=
 aA Tryz.func75 rfl rfl rfl rfl (Eq.mpr (xR t0 w K) h)
def iF (t0:Value)(w:World)(K:Ending→World→Prop):Prop:=
 DoX prog (aN 42) w (pk K) fun t2 w=>
 DoX prog (aG 42 #[(0,(.int .i64 3)),(1,t0)]) w (pk K) fun t4 w=>
 DoX prog (aD 42 t2 t4) w (pk K) fun _ w=>
 RetX prog [.cell t2 42] w K
theorem wB (t0:Value)(w:World)(K:Ending→World→Prop):wpX prog 5 [] [] none (aK Tryz.f76) (topQ prog [.cell 2 42] K) (aJ [t0]) [] w=iF t0 w K:=by kernel_rfl
theorem wI {t0:Value}{w:World}{K:Ending→World→Prop}(h:iF t0 w K):Calls prog 76 #[t0] w K:=
 aA Tryz.func76 rfl rfl rfl rfl (Eq.mpr (wB t0 w K) h)
def gO (t0:Value)(w:World)(K:Ending→World→Prop):Prop:=
 DoX prog (aN 42) w (pk K) fun t2 w=>
 IfX t0 (DoX prog (aG 42 #[(0,(.int .i64 1)),(1,(.int .i64 1))]) w (pk K) fun t4 w=>
 DoX prog (aD 42 t2 t4) w (pk K) fun _ w=>
 RetX prog [.cell t2 42] w K) (DoX prog (aG 42 #[(0,(.int .i64 1))]) w (pk K) fun t5 w=>
 DoX prog (aD 42 t2 t5) w (pk K) fun _ w=>
 RetX prog [.cell t2 42] w K)
theorem wO (t0:Value)(w:World)(K:Ending→World→Prop):wpX prog 6 [] [] none (aK Tryz.f79) (topQ prog [.cell 2 42] K) (aJ [t0]) [] w=gO t0 w K:=by kernel_rfl
theorem vV {t0:Value}{w:World}{K:Ending→World→Prop}(h:gO t0 w K):Calls prog 79 #[t0] w K:=
 aA Tryz.func79 rfl rfl rfl rfl (Eq.mpr (wO t0 w K) h)
end
section
open Eng Go.RowKit
theorem u8i (c:UInt8)(k:Nat)(d:UInt8)(hd:d.toNat=k):((c.toNat:Int)=(k:Int))↔c=d:=by
 rw[←UInt8.toNat_inj,hd];omega
theorem Q6 (s:List UInt8)(w:World)(hs:s.length≤4611686018427387904):Ret prog 153 #[.string ⟨s.toArray⟩] w
  (fun v w'=>(∃(a b:List UInt8) (m:Bool),v=.tuple #[.string ⟨a.toArray⟩,.string ⟨b.toArray⟩,.bool m,.bool (Fx.form s)]∧(Fx.form s=true→a=Fx.whole (Fx.body s)∧b=Fx.part (Fx.body s)∧m=Fx.minus s))∧w=w'):=by
 refine aO fun K hK=>vF ?_;unfold iJ;simp only[bD Tryz.underlying9,rs];by_cases h40:(40:Int) < (s.length:Int)
 ·simp only[h40,decide_true,rs];have hf:Fx.form s=false:=by rw[Fx.form,decide_eq_false (by omega),Bool.false_and,Bool.false_and,Bool.false_and]
  exact hK _ _ ⟨⟨[],[],false,by rw[hf],by rw[hf];intro h;cases h⟩,rfl⟩
 ·simp only[h40,decide_false,rs];have main:∀(l:List UInt8) (m:Bool),l=Fx.body s→m=Fx.minus s→l.length≤s.length→eY (.string ⟨l.toArray⟩) (.bool m) w K:=by
   intro l m hl hm hls;unfold eY;have hscan:=Fx.Hy l [];refine loop (fun vs w'=>∃(a b:List UInt8) (pt:Bool) (k:Nat),vs=[.string ⟨a.toArray⟩,.string ⟨b.toArray⟩,.bool pt,.int .i64 k]∧k≤l.length∧a.length+b.length≤k∧Fx.scan (l.drop k) a b pt=Fx.scan l [] [] false∧w=w')
    (fun vs _=>l.length - (RowKit.intOf (vs.getD 3 undef)).toNat) ⟨[],[],false,0,rfl,by omega,by simp,by simp,rfl⟩ ?_
   rintro vs w' ⟨a,b,pt,k,rfl,hk,hab,hsc,rfl⟩ _;simp only[mO,gd,bD Tryz.underlying9,rs];by_cases hlt:k < l.length
   ·have hlt':(k:Int) < (l.length:Int):=by omega
    simp only[hlt',decide_true,rs];have hd:l.drop k=l[k]::l.drop (k+1):=(List.getElem_cons_drop hlt).symm;have hg:l[(k:Int).toNat]?=some l[k]:=by rw[Int.toNat_natCast];exact List.getElem?_eq_getElem hlt
    rw[hd] at hsc;generalize l[k]=c at *;have hsl:((l.drop (k:Int).toNat).take (((k:Int)+1).toNat - (k:Int).toNat))=[c]:=by
     rw[Int.toNat_natCast,hd,show ((k:Int)+1).toNat - k=1 by omega];rfl
    refine join fun J hJ=>?_;have next:∀(a' b':List UInt8) (pt':Bool),a'.length+b'.length≤k+1→Fx.scan (l.drop (k+1)) a' b' pt'=Fx.scan l [] [] false→J [.string ⟨a'.toArray⟩,.string ⟨b'.toArray⟩,.bool pt'] w:=by
     intro a' b' pt' h1 h2;refine hJ _ _ fun _=>?_;simp only[lS,gd,rs];rw[aC (by omega) (by omega)];exact bG ⟨a',b',pt',k+1,by simp,by omega,h1,h2,rfl⟩ (by simp[RowKit.intOf];omega)
    simp only[s_ix Tryz.underlying9 (show (0:Int)≤(k:Int) by omega) hg,rs];have rest:¬(c=46∧pt=false)→Fx.cW c=true→IfX (.bool pt) (DoX prog (bT 9 (.string ⟨l.toArray⟩) (some (.int .i64 k)) (some (.int .i64 (k+1))) none) w (pk K) fun t61 ww=>
      DoX prog (mBin .add 9 (.string ⟨b.toArray⟩) t61) ww (pk K) fun t62 ww=>
      J [.string ⟨a.toArray⟩,t62,.bool pt] ww) (DoX prog (bT 9 (.string ⟨l.toArray⟩) (some (.int .i64 k)) (some (.int .i64 (k+1))) none) w (pk K) fun t68 ww=>
      DoX prog (mBin .add 9 (.string ⟨a.toArray⟩) t68) ww (pk K) fun t69 ww=>
      J [t69,.string ⟨b.toArray⟩,.bool pt] ww):=by
     intro hn hdg;cases pt with
    |true=>
      simp only[rs];rw[Ic Tryz.underlying9 (by omega) (by omega) (by omega),hsl,Cp (by simp;omega)];refine next a (b++[c]) true (by simp;omega) ?_
      rw[←hsc,Fx.scan,if_pos hdg]
    |false=>
      simp only[rs];rw[Ic Tryz.underlying9 (by omega) (by omega) (by omega),hsl,Cp (by simp;omega)];refine next (a++[c]) b false (by simp;omega) ?_
      have hc:c≠46:=fun e=>hn ⟨e,rfl⟩;rw[←hsc,Fx.scan,if_neg hc,if_pos hdg]
    have fail:Fx.scan l [] [] false=none→K (.returned (.tuple #[.string ⟨#[]⟩,.string ⟨#[]⟩,.bool false,.bool false])) w:=by
     intro hno;have hf:Fx.form s=false:=by
      rw[hscan] at hno;have hall:((Fx.whole l).all Fx.cW&&(Fx.part l).all Fx.cW)=false:=by
       cases hh:((Fx.whole l).all Fx.cW&&(Fx.part l).all Fx.cW) with
      |false=>rfl
      |true=>rw[hh] at hno;cases hno
      rw[hl] at hall;rw[Fx.form,Bool.and_assoc (decide _),hall,Bool.and_false,Bool.false_and]
     exact hK _ _ ⟨⟨[],[],false,by rw[hf],by rw[hf];intro h;cases h⟩,rfl⟩
    by_cases hc:c=46
    ·subst hc;simp only[show (((46:UInt8).toNat:Nat):Int)=46 from rfl,decide_true,rs];cases pt with
    |false=>
      simp only[rs];refine next a b true (by omega) ?_
      rw[←hsc,Fx.scan,if_pos rfl]
    |true=>
      simp only[rs,show ((46:Int) < 48) by omega,decide_true];refine fail ?_;rw[←hsc,Fx.scan];rfl
    ·have hc':¬((c.toNat:Int)=46):=fun e=>hc ((u8i c 46 46 rfl).1 e);simp only[hc',decide_false,rs];by_cases hdg:Fx.cW c=true
     ·have hdb:=Fx.gF hdg;simp only[show ¬((c.toNat:Int) < 48) by omega,show ¬((57:Int) < (c.toNat:Int)) by omega,decide_false,rs,s_ix Tryz.underlying9 (show (0:Int)≤(k:Int) by omega) hg];rw[aC (by omega) (by omega)];exact rest (fun e=>hc e.1) hdg
     ·have hnd:Fx.scan l [] [] false=none:=by
       rw[←hsc];cases pt with
      |true=>rw[Fx.scan,if_neg hdg]
      |false=>rw[Fx.scan,if_neg hc,if_neg hdg]
      have hdb:(c.toNat:Int) < 48∨(57:Int) < (c.toNat:Int):=by
       simp[Fx.cW] at hdg;omega
      by_cases h48:(c.toNat:Int) < 48
      ·simp only[h48,decide_true,rs];exact fail hnd
      ·have h57:(57:Int) < (c.toNat:Int):=by omega
       simp only[h48,h57,decide_true,decide_false,rs,s_ix Tryz.underlying9 (show (0:Int)≤(k:Int) by omega) hg];exact fail hnd
   ·have hlt':¬(k:Int) < (l.length:Int):=by omega
    simp only[hlt',decide_false,rs];rw[aC (by omega) (by omega)];have hd:l.drop k=[]:=List.drop_eq_nil_of_le (by omega);have he:Fx.scan [] a b pt=some (a,b):=by cases pt<;>rfl
    rw[hd,he,hscan] at hsc;have hall:((Fx.whole l).all Fx.cW&&(Fx.part l).all Fx.cW)=true:=by
     cases hh:((Fx.whole l).all Fx.cW&&(Fx.part l).all Fx.cW) with
    |true=>rfl
    |false=>rw[hh] at hsc;cases hsc
    rw[if_pos hall] at hsc;simp only[List.nil_append,Option.some.injEq,Prod.mk.injEq] at hsc;obtain⟨rfl,rfl⟩:=hsc;have hf:Fx.form s=decide ((0:Int) < ((Fx.whole l).length:Int)+((Fx.part l).length:Int)):=by
     rw[Fx.form,←hl,Bool.and_assoc (decide _),hall,Bool.and_true,decide_eq_true (show s.length≤40 by omega),Bool.true_and,decide_eq_decide];omega
    exact hK _ _ ⟨⟨_,_,_,by rw[hf],fun _=>⟨by rw[hl],by rw[hl],hm⟩⟩,rfl⟩
  refine join fun J hJ=>?_;cases s with
 |nil=>
   simp only[ne_eq,not_true_eq_false,decide_false,rs,g_un];refine hJ _ _ fun _=>?_;exact main [] false rfl rfl (by simp)
 |cons c t=>
   have hix:(c::t)[(0:Int).toNat]?=some c:=rfl;simp only[ne_eq,reduceCtorEq,not_false_eq_true,decide_true,rs,s_ix Tryz.underlying9 (show (0:Int)≤0 by omega) hix];by_cases h43:c=43
   ·subst h43;simp only[show (((43:UInt8).toNat:Nat):Int)=43 from rfl,show ¬((43:Int)=45) by omega,decide_true,decide_false,rs,s_ix Tryz.underlying9 (show (0:Int)≤0 by omega) hix];rw[B2 Tryz.underlying9 (by omega) (by simp;omega)];exact hJ _ _ fun _=>main t false rfl rfl (by simp)
   ·have h43':¬((c.toNat:Int)=43):=fun e=>h43 ((u8i c 43 43 rfl).1 e);simp only[h43',decide_false,rs];by_cases h45:c=45
    ·subst h45;simp only[show (((45:UInt8).toNat:Nat):Int)=45 from rfl,decide_true,rs,s_ix Tryz.underlying9 (show (0:Int)≤0 by omega) hix];rw[B2 Tryz.underlying9 (by omega) (by simp;omega)];exact hJ _ _ fun _=>main t true rfl rfl (by simp)
    ·have h45':¬((c.toNat:Int)=45):=fun e=>h45 ((u8i c 45 45 rfl).1 e);simp only[h45',decide_false,rs,s_ix Tryz.underlying9 (show (0:Int)≤0 by omega) hix];refine hJ _ _ fun _=>?_;exact main (c::t) false (by rw[Fx.body,if_neg (by simp[h43,h45])]) (by rw[Fx.minus,decide_eq_false h45]) (by simp)
end
section
open Eng Go.RowKit
theorem FD {x:Int}(h:1073741824 < x∨x < -1073741824):Fx.ans x=(0,2):=by
 have:Fx.okB x=false:=by simp[Fx.okB];omega
 rw[Fx.ans,this];rfl
theorem Hg {s:List UInt8}(h:Fx.form s=true):s.length≤40∧(Fx.whole (Fx.body s)).all Fx.cW=true∧(Fx.part (Fx.body s)).all Fx.cW=true:=by
 simp only[Fx.form,Bool.and_eq_true,decide_eq_true_eq] at h;exact⟨h.1.1.1,h.1.1.2,h.1.2⟩
theorem Ss {s:List UInt8}(h:Fx.form s=true):Fx.ans (if Fx.minus s then -(Fx.cap 0 (Fx.whole (Fx.body s)++Fx.four (Fx.part (Fx.body s)))+(if Fx.more ((Fx.part (Fx.body s)).drop 4) (Fx.minus s) then 1 else 0))
  else Fx.cap 0 (Fx.whole (Fx.body s)++Fx.four (Fx.part (Fx.body s)))+(if Fx.more ((Fx.part (Fx.body s)).drop 4) (Fx.minus s) then 1 else 0))=Fx.read s:=by
 obtain⟨_,hw,hp⟩:=Hg h;have hall:(Fx.whole (Fx.body s)++Fx.four (Fx.part (Fx.body s))).all Fx.cW=true:=by rw[List.all_append,hw,Fx.Ez hp];rfl
 rw[Fx.read,if_pos h,Fx.mag,Fx.Ox _ 0 0 hall (by omega) (by omega),Fx.CA];have h1:=Fx.EP _ 0 hw (by omega);have h2:=Fx.val4 (Fx.four (Fx.part (Fx.body s))) (Fx.val 0 (Fx.whole (Fx.body s))) (Fx.sE _) (Fx.Ez hp);generalize Fx.val 0 (Fx.whole (Fx.body s))=W at *;generalize Fx.val W (Fx.four (Fx.part (Fx.body s)))=V at *;have hm:∀x:Bool,0≤(if x then (1:Int) else 0)∧(if x then (1:Int) else 0)≤1:=by intro x;cases x<;>simp
 have hm':=hm (Fx.more ((Fx.part (Fx.body s)).drop 4) (Fx.minus s));generalize (if Fx.more ((Fx.part (Fx.body s)).drop 4) (Fx.minus s) then (1:Int) else 0)=e at *;by_cases hW:W>1073741824
 ·rw[if_pos hW];split<;>exact FD (by omega)
 ·rw[if_neg hW];by_cases hV:V≤1099511627776
  ·rw[show min V 1099511627776=V by omega]
  ·split
   ·rw[FD (x:=-(min V 1099511627776+e)) (by omega),FD (by omega)]
   ·rw[FD (x:=(min V 1099511627776+e)) (by omega),FD (by omega)]
theorem Ql (s:List UInt8)(w:World)(hs:s.length≤4611686018427387904):Ret prog 119 #[.string ⟨s.toArray⟩] w (fun v w'=>v=pair (Fx.read s)∧Below w.heap.size w w'):=by
 refine aO fun K hK=>vP ?_;unfold gM;refine dV (Q6 s w hs) ?_;rintro v w1 ⟨⟨a,b,m,rfl,hf⟩,rfl⟩;simp only[ex,rs];by_cases ho:Fx.form s=true
 ·obtain⟨rfl,rfl,rfl⟩:=hf ho;obtain⟨h40,hw,hp⟩:=Hg ho;have hbl:(Fx.body s).length≤s.length:=by
   cases s with
  |nil=>simp[Fx.body]
  |cons c t=>rw[Fx.body];split<;>simp
  have hwl:(Fx.whole (Fx.body s)).length≤(Fx.body s).length:=by
   have:=(List.takeWhile_sublist (fun c=>c != 46) (l:=Fx.body s)).length_le;exact this
  have hpl:(Fx.part (Fx.body s)).length≤(Fx.body s).length:=by
   have:=(List.dropWhile_sublist (fun c=>c != 46) (l:=Fx.body s)).length_le;rw[Fx.part,List.length_drop];omega
  have href:=Ss ho;rw[ho];simp only[rs];have hall:(Fx.whole (Fx.body s)++Fx.four (Fx.part (Fx.body s))).all Fx.cW=true:=by rw[List.all_append,hw,Fx.Ez hp];rfl
  rw[Cp (b:=[48,48,48,48]) (by simp;omega),SX Tryz.underlying9 (by omega) (by simp;omega)];change DoX _ (mBin .add _ _ (.string ⟨(Fx.four (Fx.part (Fx.body s))).toArray⟩)) _ _ _;rw[Cp (by rw[Fx.sE];omega)];have hal:(Fx.whole (Fx.body s)++Fx.four (Fx.part (Fx.body s))).length≤44:=by rw[List.length_append,Fx.sE];omega
  generalize Fx.whole (Fx.body s)++Fx.four (Fx.part (Fx.body s))=all at *;generalize Fx.part (Fx.body s)=part at *;generalize Fx.minus s=neg at *;refine loop (fun vs w'=>∃k:Nat,k≤all.length∧vs=[.int .i64 (Fx.cap 0 (all.take k)),.int .i64 k]∧w=w') (fun vs _=>all.length - n1 vs) ⟨0,by omega,rfl,rfl⟩ ?_;rintro vs w' ⟨k,hk,rfl,rfl⟩ _;simp only[lL,gd,bD Tryz.underlying9,rs];have hcb:=Fx.Vb (all.take k) (by
   rw[List.all_eq_true] at hall ⊢;exact fun x hx=>hall x (List.mem_of_mem_take hx))
  by_cases hlt:k < all.length
  ·have hlt':(k:Int) < (all.length:Int):=by omega
   have hdg:=Fx.gF (List.all_eq_true.1 hall all[k] (List.getElem_mem hlt));simp only[hlt',decide_true,rs];rw[s_ix (c:=all[k]) Tryz.underlying9 (by omega) (by rw[Int.toNat_natCast];exact List.getElem?_eq_getElem hlt)];simp only[rs];rw[gH (by omega) (by omega),H4 (show (Tryz.prog.underlying 5).isSome=true by kernel_rfl) Tryz.underlying2];simp only[rs,UD];rw[aC (n:=((all[k].toNat:Nat):Int) - 48) (by omega) (by omega),aC (n:=10*_) (by omega) (by omega),aC (by omega) (by omega),aC (by omega) (by omega)];refine bG ⟨k+1,by omega,?_,rfl⟩ (by simp[n1,RowKit.intOf];omega);rw[Fx.Q7 0 all k hlt];rfl
  ·have hlt':¬(k:Int) < (all.length:Int):=by omega
   simp only[hlt',decide_false,rs];rw[List.take_of_length_le (by omega)] at hcb ⊢;generalize Fx.cap 0 all=n at *;refine join fun J0 hJ0=>?_;have afterMore:∀b:Bool,b=Fx.more (part.drop 4) neg→fC (.bool neg) (.int .i64 n) (.bool b) w K:=by
    intro b hb;subst hb;rw[fC];refine join fun J3 hJ3=>?_;have h5:∀m:Int,0≤m→m≤1099511627777→m=n+(if Fx.more (part.drop 4) neg then 1 else 0)→eR (.bool neg) (.int .i64 m) w K:=by
     intro m m0 m1 hm;rw[eR];refine join fun J4 hJ4=>?_;have h6:∀q:Int,q=(if neg then -m else m)→eN (.int .i64 q) w K:=by
      intro q hq;rw[eN];refine dV (K1 q w) ?_;rintro v w4 ⟨rfl,rfl⟩;have hres:Fx.read s=Fx.ans q:=by rw[←href,hq,hm]
      cases hq2:Fx.okB q with
     |true=>
       simp only[rs];refine hK _ _ ⟨?_,Below.refl _ _⟩;rw[hres,Fx.ans,hq2];rfl
     |false=>
       simp only[rs];refine hK _ _ ⟨?_,Below.refl _ _⟩;rw[hres,Fx.ans,hq2];rfl
     cases neg with
    |true=>
      simp only[rs];rw[aC (by omega) (by omega)];refine hJ4 _ _ fun _=>?_;exact h6 (-m) rfl
    |false=>
      simp only[rs];refine hJ4 _ _ fun _=>?_;exact h6 m rfl
    cases hmo:Fx.more (part.drop 4) neg with
   |true=>
     simp only[rs];rw[aC (by omega) (by omega)];refine hJ3 _ _ fun _=>?_;exact h5 (n+1) (by omega) (by omega) (by rw[hmo];rfl)
   |false=>
     simp only[rs];refine hJ3 _ _ fun _=>?_;exact h5 n (by omega) (by omega) (by rw[hmo];simp)
   have h1:∀rest:List UInt8,rest=part.drop 4→eX (.bool neg) (.int .i64 n) (.string ⟨rest.toArray⟩) w K:=by
    intro rest hr;rw[←hr] at afterMore;have hrl:rest.length≤40:=by rw[hr,List.length_drop];omega
    simp only[eX,rs];cases rest with
   |nil=>
     simp only[ne_eq,not_true_eq_false,decide_false,rs,g_un];refine join fun J2 hJ2=>?_;refine hJ2 _ _ fun _=>?_;exact afterMore false rfl
   |cons c t=>
     have hix:(c::t)[(0:Int).toNat]?=some c:=rfl;simp only[ne_eq,reduceCtorEq,not_false_eq_true,decide_true,rs,s_ix Tryz.underlying9 (show (0:Int)≤0 by omega) hix];refine join fun J2 hJ2=>?_;by_cases h5:(53:Int)≤(c.toNat:Int)
     ·simp only[h5,decide_true,rs];have h5':decide (53≤c.toNat)=true:=by simp;omega
      cases neg with
     |false=>
       simp only[rs];refine hJ2 _ _ fun _=>?_;exact afterMore true (by rw[Fx.more,h5'];rfl)
     |true=>
       simp only[rs,s_ix Tryz.underlying9 (show (0:Int)≤0 by omega) hix];refine loop (fun vs w'=>∃j:Nat,j≤t.length∧vs=[.bool (decide (53 < c.toNat)||(t.take j).any (fun c=>decide (48 < c.toNat))),.int .i64 ((j:Int)+1)]∧w=w') (fun vs _=>t.length+1 - n1 vs) ⟨0,by omega,by simp;omega,rfl⟩ ?_;rintro vs w' ⟨j,hj,rfl,rfl⟩ _;simp only[mQ,gd,bD Tryz.underlying9,rs];have hlc:((c::t).length:Int)=(t.length:Int)+1:=by simp
       have hjx:(c::t)[((j:Int)+1).toNat]?=t[j]?:=by rw[show ((j:Int)+1).toNat=j+1 by omega];rfl
       rw[hlc];by_cases hjt:j < t.length
       ·have hjt':(j:Int)+1 < (t.length:Int)+1:=by omega
        have hjx2:(c::t)[((j:Int)+1).toNat]?=some t[j]:=by rw[hjx];exact List.getElem?_eq_getElem hjt
        have htk:(t.take (j+1)).any (fun c=>decide (48 < c.toNat))=((t.take j).any (fun c=>decide (48 < c.toNat))||decide (48 < t[j].toNat)):=by
         rw[List.take_succ_eq_append_getElem hjt,List.any_append];simp
        simp only[hjt',decide_true,rs];cases hb:(decide (53 < c.toNat)||(t.take j).any (fun c=>decide (48 < c.toNat))) with
       |true=>
         simp only[rs,g_un];rw[aC (by omega) (by omega)];refine bG ⟨j+1,by omega,?_,rfl⟩ (by simp[n1,RowKit.intOf];omega);rw[htk,←Bool.or_assoc,hb];rfl
       |false=>
         simp only[rs,s_ix Tryz.underlying9 (show (0:Int)≤(j:Int)+1 by omega) hjx2];rw[aC (by omega) (by omega)];refine bG ⟨j+1,by omega,?_,rfl⟩ (by simp[n1,RowKit.intOf];omega);rw[htk,←Bool.or_assoc,hb,Bool.false_or];have:decide ((48:Int) < (t[j].toNat:Int))=decide (48 < t[j].toNat):=by rw[decide_eq_decide];omega
         rw[this];simp
       ·have hjt':¬(j:Int)+1 < (t.length:Int)+1:=by omega
        simp only[hjt',decide_false,rs];refine hJ2 _ _ fun _=>?_;refine afterMore _ ?_;rw[Fx.more,h5',List.take_of_length_le (by omega)];rfl
     ·simp only[h5,decide_false,rs,g_un];have h5':decide (53≤c.toNat)=false:=by simp;omega
      refine hJ2 _ _ fun _=>?_;exact afterMore false (by rw[Fx.more,h5'];rfl)
   by_cases h4:(4:Int) < (part.length:Int)
   ·simp only[h4,decide_true,rs];rw[B2 Tryz.underlying9 (by omega) (by omega)];refine hJ0 _ _ fun _=>?_;exact h1 (part.drop 4) rfl
   ·simp only[h4,decide_false,rs];refine hJ0 _ _ fun _=>?_;exact h1 [] (List.drop_eq_nil_of_le (by omega)).symm
 ·have ho':Fx.form s=false:=by simpa using ho
  rw[ho'];simp only[rs];exact hK _ _ ⟨by rw[Fx.read,if_neg ho],Below.refl _ _⟩
end
section
open Eng Go.RowKit
theorem KP (s:List UInt8):Fx.minus s=([45]:List UInt8).isPrefixOf s∧Fx.body s=(if ([45]:List UInt8).isPrefixOf s||([43]:List UInt8).isPrefixOf s then s.drop 1 else s)∧(([45]:List UInt8).isPrefixOf s||([43]:List UInt8).isPrefixOf s→1≤s.length):=by
 cases s with
|nil=>exact⟨rfl,rfl,fun h=>(by cases h)⟩
|cons c t=>
  have e1:([45]:List UInt8).isPrefixOf (c::t)=decide (c=45):=by
   simp only[List.isPrefixOf,Bool.and_true];by_cases h:c=45
   ·subst h;rfl
   ·rw[decide_eq_false h];simp;exact fun e=>h e.symm
  have e2:([43]:List UInt8).isPrefixOf (c::t)=decide (c=43):=by
   simp only[List.isPrefixOf,Bool.and_true];by_cases h:c=43
   ·subst h;rfl
   ·rw[decide_eq_false h];simp;exact fun e=>h e.symm
  rw[e1,e2];refine⟨rfl,?_,fun _=>by simp⟩;rw[Fx.body];by_cases h1:c=45<;>by_cases h2:c=43<;>simp[h1,h2]
theorem tY {w0 w:World}{L:List Ent}(h:Own w0 w L)(i:Nat){b:Nat}{s:ByteArray}{p:Nat}(hi:L[i]?=some (.obj b (.stringIter s p))):w.iterPos b=p:=by
 have:w.heap[b]?=some (.stringIter s p):=h.at_ i hi;simp[World.iterPos,this]
theorem Py (w0 w:World)(b1 b2:Nat)(m:Int)(neg:Bool)(h0:0≤m)(h1:m≤1152921504606846976)(h:Own w0 w [.cells b2 [.int .i64 0] 24,.cells b1 [.int .i64 m] 2])(K:Ending→World→Prop)
  (hk:∀w',Below w0.heap.size w0 w'→K (.returned (pair (Fx.ans (if neg then -m else m)))) w') :
  yM (.pointer (some ⟨b1,0,none⟩)) (.pointer (some ⟨b2,0,none⟩)) (.bool neg) w K:=by
 rw[yM];refine join fun J hJ=>?_;have fin:∀(q:Int) (w1:World),q=(if neg then -m else m)→Own w0 w1 [.cells b2 [.int .i64 0] 24,.cells b1 [.int .i64 q] 2]→J [] w1:=by
  intro q w1 hq ho;refine hJ _ _ fun _=>?_;rw[Dz,aW (show dF prog 2=true by kernel_rfl) (ho.cell 1 rfl 0 rfl)];refine dD (fun b=>.slice (some ⟨b,0,none⟩) 1 1) [.int .i64 q] 2 (fun _=>by kernel_rfl) ho fun b3 w3 h3=>?_;refine D3 (K7 _ [q] w3 (h3.sl 0 rfl 1 1 1 rfl) (by simp) _ (fun hok=>?_) (fun hbad=>?_)) (fun _ _ h=>h)
  ·have hok':Fx.okB q=true:=by simpa using hok
   simp only[Cont];rw[aW (show dF prog 2=true by kernel_rfl) (h3.cell 2 rfl 0 rfl)];refine bI 2 h3 rfl (by kernel_rfl) rfl (by simp) fun w4 h4=>?_;refine bI 1 h4 rfl (by kernel_rfl) rfl (by simp) fun w5 h5=>?_;refine HK 2 1 h5 rfl rfl K (fun w' hb=>?_);have:=hk w' hb;rw[←hq,Fx.ans,if_pos hok'] at this;exact this
  ·have hbad':Fx.okB q=false:=by simpa using hbad
   refine RA h3.tail K (fun w' hb=>?_);have:=hk w' hb;rw[←hq,Fx.ans,hbad'] at this;exact this
 cases neg with
|true=>
  simp only[rs,aW (show dF prog 2=true by kernel_rfl) (h.cell 1 rfl 0 rfl)];rw[aC (by omega) (by omega)];refine bI 1 h rfl (by kernel_rfl) rfl (by simp) fun w4 h4=>?_;exact AtX.mk rfl (fin (-m) w4 rfl h4)
|false=>
  simp only[rs];exact AtX.mk rfl (fin m w rfl h)
theorem Qd (s:List UInt8)(w:World)(hs:s.length≤4611686018427387904):Ret prog 146 #[.string ⟨s.toArray⟩] w (fun v w'=>v=pair (Fx.read s)∧Below w.heap.size w w'):=by
 refine aO fun K hK=>Iy ?_;unfold Dl;refine dD (fun b=>.pointer (some ⟨b,0,none⟩)) [.int .i64 0] 2 (fun _=>by kernel_rfl) (Own.start w) fun b1 w1 h1=>?_;refine dD (fun b=>.pointer (some ⟨b,0,none⟩)) [.int .i64 0] 24 (fun _=>by kernel_rfl) h1 fun b2 w2 h2=>?_;simp only[bD Tryz.underlying9,rs];have bad3:Fx.form s=false→∀w',Below w.heap.size w w'→K (.returned (.tuple #[.int .i64 0,.int .i64 3])) w':=by
  intro hf w' hb;exact hK _ _ ⟨by rw[Fx.read,hf];rfl,hb⟩
 by_cases h40:(40:Int) < (s.length:Int)
 ·simp only[h40,decide_true,rs];refine bI 1 h2 rfl (by kernel_rfl) rfl (by simp) fun w4 h4=>?_;refine bI 0 h4 rfl (by kernel_rfl) rfl (by simp) fun w5 h5=>?_;refine HK 1 0 h5 rfl rfl K (bad3 ?_);rw[Fx.form,decide_eq_false (by omega),Bool.false_and,Bool.false_and,Bool.false_and]
 ·simp only[h40,decide_false,rs];obtain⟨hmin,hbody,hpos⟩:=KP s;refine dV (tT s [45] w2) ?_;rintro v w3 ⟨rfl,rfl⟩;have hlen:(Fx.body s).length≤s.length:=by
   rw[hbody];split
   ·rw[List.length_drop];omega
   ·omega
  have main:yN (.string ⟨(Fx.body s).toArray⟩) (.pointer (some ⟨b1,0,none⟩)) (.pointer (some ⟨b2,0,none⟩)) (.bool (Fx.minus s)) w2 K:=by
   rw[yN];have hcut:Ret prog 167 #[.string ⟨(Fx.body s).toArray⟩,.string ⟨#[46]⟩] w2 (fun v w'=>(∃b,v=.tuple #[.string ⟨(Fx.whole (Fx.body s)).toArray⟩,.string ⟨(Fx.part (Fx.body s)).toArray⟩,.bool b])∧Below w2.heap.size w2 w'):=Tc (Fx.body s) 46 w2 (by omega);refine dV hcut ?_;rintro v w3 ⟨⟨fnd,rfl⟩,b3⟩;have hform:Fx.form s=((Fx.whole (Fx.body s)).all Fx.cW&&(Fx.part (Fx.body s)).all Fx.cW&&decide (0 < (Fx.whole (Fx.body s)).length+(Fx.part (Fx.body s)).length)):=by
    rw[Fx.form,decide_eq_true (show s.length≤40 by omega),Bool.true_and]
   have hread:Fx.form s=true→Fx.read s=if Fx.val 0 (Fx.whole (Fx.body s))>1073741824 then (0,2) else Fx.ans (if Fx.minus s then - Fx.mag s else Fx.mag s):=fun h=>by rw[Fx.read,if_pos h]
   have hmag:Fx.mag s=Fx.val (Fx.val 0 (Fx.whole (Fx.body s))) (Fx.four (Fx.part (Fx.body s)))+(if Fx.more ((Fx.part (Fx.body s)).drop 4) (Fx.minus s) then 1 else 0):=rfl;have hwl:(Fx.whole (Fx.body s)).length≤(Fx.body s).length:=by
    have:=(List.takeWhile_sublist (fun c=>c != 46) (l:=Fx.body s)).length_le;exact this
   have hpl:(Fx.part (Fx.body s)).length≤(Fx.body s).length:=by
    have:=(List.dropWhile_sublist (fun c=>c != 46) (l:=Fx.body s)).length_le;rw[Fx.part,List.length_drop];omega
   generalize Fx.whole (Fx.body s)=wh at *;generalize Fx.part (Fx.body s)=part at *;simp only[ex];rw[Cp (by omega)];have h3:=h2.grow b3;simp only[rs];have good:Fx.form s=true→∀w4,Own w w4 [.cells b2 [.int .i64 0] 24,.cells b1 [.int .i64 0] 2] →
     DoX prog (uR 9 (.string ⟨wh.toArray⟩)) w4 (aF (.pointer (some ⟨b1,0,none⟩)) (.pointer (some ⟨b2,0,none⟩)) K) fun t46 ww=>
     LoopX [] ww (fun vs2 w N2=>∀_:Sg,yH (.pointer (some ⟨b1,0,none⟩)) (.pointer (some ⟨b2,0,none⟩)) (.bool (Fx.minus s)) (.string ⟨part.toArray⟩) t46 w N2 K):=by
    intro hf w4 h4;have hread2:=hread hf;have hdw:wh.all Fx.cW=true∧part.all Fx.cW=true:=by
     rw[hform] at hf;simp only[Bool.and_eq_true] at hf;exact hf.1
    refine IY Tryz.underlying9 h4 fun b5 w5 h5=>?_;refine loop (fun vs w'=>∃k:Nat,k≤wh.length∧vs=[]∧Fx.val 0 (wh.take k)≤1073741824∧Own w w' [.obj b5 (.stringIter ⟨wh.toArray⟩ k),.cells b2 [.int .i64 0] 24,.cells b1 [.int .i64 (Fx.val 0 (wh.take k))] 2])
     (fun vs w'=>wh.length - w'.iterPos b5) ⟨0,by omega,rfl,by simp[Fx.val],h5⟩ ?_
    rintro vs w6 ⟨k,hk,rfl,hv,ho⟩ _;have hip:=tY ho 0 rfl;rw[yH];have hv0:=Fx.EP (wh.take k) 0 (by
     rw[List.all_eq_true];exact fun x hx=>List.all_eq_true.1 hdw.1 x (List.mem_of_mem_take hx)) (by omega)
    by_cases hlt:k < wh.length
    ·have hdg:=Fx.gF (List.all_eq_true.1 hdw.1 wh[k] (List.getElem_mem hlt));refine Mg 0 ho rfl (List.getElem?_eq_getElem hlt) (by omega) fun w7 h7=>?_;simp only[ex,rs,aW (show dF prog 2=true by kernel_rfl) (h7.cell 2 rfl 0 rfl)];rw[Ge (by omega) (by omega),H4 (show (Tryz.prog.underlying 21).isSome=true by kernel_rfl) Tryz.underlying2];simp only[rs];rw[aC (n:=((wh[k].toNat:Nat):Int) - 48) (by omega) (by omega),aC (n:=10*_) (by omega) (by omega),aC (by omega) (by omega)];refine bI 2 h7 rfl (by kernel_rfl) rfl (by simp) fun w8 h8=>?_;rw[aW (show dF prog 2=true by kernel_rfl) (h8.cell 2 rfl 0 rfl)];simp only[rs];have hvt:=Fx.Mi 0 wh k hlt;by_cases hbig:(1073741824:Int) < 10*Fx.val 0 (wh.take k)+((wh[k].toNat:Int) - 48)
     ·simp only[hbig,decide_true,rs];refine bI 2 h8 rfl (by kernel_rfl) rfl (by simp) fun w9 h9=>?_;refine bI 1 h9 rfl (by kernel_rfl) rfl (by simp) fun wa ha=>?_;refine HK 2 1 ha rfl rfl K (fun w' hb=>hK _ _ ⟨?_,hb⟩);have hge:=Fx.EP (wh.drop (k+1)) (Fx.val 0 (wh.take (k+1))) (by
       rw[List.all_eq_true];exact fun x hx=>List.all_eq_true.1 hdw.1 x (List.mem_of_mem_drop hx)) (by omega)
      rw[←Fx.CA,List.take_append_drop] at hge;rw[hread2,if_pos (by omega)]
     ·simp only[hbig,decide_false,rs];refine AtX.mk rfl (bG ⟨k+1,by omega,rfl,by omega,?_⟩ ?_)
      ·rw[hvt];exact h8
      ·show wh.length - w8.iterPos b5 < wh.length - w6.iterPos b5;rw[hip,tY h8 0 rfl];omega
    ·rw[zT 0 ho rfl (by omega)];simp only[ex,rs];have hke:wh.take k=wh:=List.take_of_length_le (by omega);rw[hke] at ho hv hv0;rw[Cp (b:=[48,48,48,48,48]) (by simp;omega),SX Tryz.underlying9 (by omega) (by simp;omega)];rw[show (4:Int).toNat=4 from rfl,Fx.OD];rw[if_neg (by omega)] at hread2;have h4d:=Fx.Ez hdw.2;have h4l:=Fx.sE part;have hval4:=Fx.val4 (Fx.four part) (Fx.val 0 wh) h4l h4d;refine IY Tryz.underlying9 (ho.tail) fun b7 w7 h7=>?_;generalize Fx.val 0 wh=V at *;generalize hfr:Fx.four part=fr at *;refine loop (fun vs w'=>∃k:Nat,k≤fr.length∧vs=[]∧Own w w' [.obj b7 (.stringIter ⟨fr.toArray⟩ k),.cells b2 [.int .i64 0] 24,.cells b1 [.int .i64 (Fx.val V (fr.take k))] 2])
      (fun vs w'=>fr.length - w'.iterPos b7) ⟨0,by omega,rfl,h7⟩ ?_
     rintro vs w8 ⟨j,hj,rfl,ho2⟩ _;have hip2:=tY ho2 0 rfl;rw[DI];by_cases hjt:j < fr.length
     ·have hdg:=Fx.gF (List.all_eq_true.1 h4d fr[j] (List.getElem_mem hjt));have hvj0:=Fx.EP (fr.take j) V (by
       rw[List.all_eq_true];exact fun x hx=>List.all_eq_true.1 h4d x (List.mem_of_mem_take hx)) hv0
      have hvj1:=Fx.EP (fr.drop j) (Fx.val V (fr.take j)) (by
       rw[List.all_eq_true];exact fun x hx=>List.all_eq_true.1 h4d x (List.mem_of_mem_drop hx)) (by omega)
      rw[←Fx.CA,List.take_append_drop] at hvj1;refine Mg 0 ho2 rfl (List.getElem?_eq_getElem hjt) (by omega) fun w9 h9=>?_;simp only[ex,rs,aW (show dF prog 2=true by kernel_rfl) (h9.cell 2 rfl 0 rfl)];rw[Ge (by omega) (by omega),H4 (show (Tryz.prog.underlying 21).isSome=true by kernel_rfl) Tryz.underlying2];simp only[rs];rw[aC (n:=((fr[j].toNat:Nat):Int) - 48) (by omega) (by omega),aC (n:=10*_) (by omega) (by omega),aC (by omega) (by omega)];refine bI 2 h9 rfl (by kernel_rfl) rfl (by simp) fun wa ha=>?_;refine AtX.mk rfl (bG ⟨j+1,by omega,rfl,?_⟩ ?_)
      ·rw[Fx.Mi V fr j hjt];exact ha
      ·show fr.length - wa.iterPos b7 < fr.length - w8.iterPos b7;rw[hip2,tY ha 0 rfl];omega
     ·rw[zT 0 ho2 rfl (by omega)];simp only[ex,rs];have hje:fr.take j=fr:=List.take_of_length_le (by omega);rw[hje] at ho2;rw[B2 Tryz.underlying9 (by omega) (by simp;omega),show (4:Int).toNat=4 from rfl];have htr:Ret prog 169 #[.string ⟨((part++[48,48,48,48,48]).drop 4).toArray⟩,.string ⟨#[48]⟩] w8 (fun v w'=>v=.string ⟨(Fx.tr (part.drop 4)).toArray⟩∧w8=w'):=by
       rw[←Fx.Tw];exact BW _ 48 (by decide) w8 (by rw[List.length_drop];simp;omega)
      refine dV htr ?_;rintro v w9 ⟨rfl,rfl⟩;have hmr:=Fx.TJ (part.drop 4) (Fx.minus s) (by
       rw[List.all_eq_true];exact fun x hx=>List.all_eq_true.1 hdw.2 x (List.mem_of_mem_drop hx))
      generalize Fx.tr (part.drop 4)=r at *;generalize Fx.more (part.drop 4) (Fx.minus s)=more at *;refine join fun J hJ=>?_;have fin:∀(m:Int) (wb:World),m=Fx.mag s→Own w wb [.obj b7 (.stringIter ⟨fr.toArray⟩ j),.cells b2 [.int .i64 0] 24,.cells b1 [.int .i64 m] 2]→J [] wb:=by
       intro m wb hm hob;refine hJ _ _ fun _=>?_;have hm01:m=Fx.val V fr∨m=Fx.val V fr+1:=by
        rw[hm,hmag];cases more<;>simp
       refine Py w wb b1 b2 m (Fx.minus s) (by omega) (by omega) hob.tail K (fun w' hb=>hK _ _ ⟨?_,hb⟩);rw[hread2,hm]
      have wayT:more=true→DoX prog (aB 2 (.pointer (some ⟨b1,0,none⟩))) w8 (aF (.pointer (some ⟨b1,0,none⟩)) (.pointer (some ⟨b2,0,none⟩)) K) fun t88 ww=>
        DoX prog (mBin .add 2 t88 (.int .i64 1)) ww (aF (.pointer (some ⟨b1,0,none⟩)) (.pointer (some ⟨b2,0,none⟩)) K) fun t89 ww=>
        DoX prog (aD 2 (.pointer (some ⟨b1,0,none⟩)) t89) ww (aF (.pointer (some ⟨b1,0,none⟩)) (.pointer (some ⟨b2,0,none⟩)) K) fun _ ww=>
        AtX [{ target:=.fn (.func 166) #[],args:=#[.pointer (some ⟨b1,0,none⟩),.pointer (some ⟨b2,0,none⟩)] }] [{ target:=.fn (.func 166) #[],args:=#[.pointer (some ⟨b1,0,none⟩),.pointer (some ⟨b2,0,none⟩)] }] (J [] ww):=by
       intro hmo;rw[aW (show dF prog 2=true by kernel_rfl) (ho2.cell 2 rfl 0 rfl)];simp only[rs];rw[aC (by omega) (by omega)];refine bI 2 ho2 rfl (by kernel_rfl) rfl (by simp) fun wb hb=>?_;exact AtX.mk rfl (fin (Fx.val V fr+1) wb (by rw[hmag,hmo];rfl) hb)
      have wayF:more=false→J [] w8:=by
       intro hmo;exact fin (Fx.val V fr) w8 (by rw[hmag,hmo];simp) ho2
      cases hn:Fx.minus s with
     |true=>
       rw[hn] at hmr;simp only[if_true] at hmr;simp only[rs];rw[←hmr];cases more with
      |true=>simp only[rs,g_un];exact wayT rfl
      |false=>simp only[rs,g_un];exact AtX.mk rfl (wayF rfl)
     |false=>
       rw[hn] at hmr;simp only[Bool.false_eq_true,if_false] at hmr;simp only[rs];rw[←hmr];cases more with
      |true=>simp only[rs,g_un];exact wayT rfl
      |false=>simp only[rs,g_un];exact AtX.mk rfl (wayF rfl)
   have bad:Fx.form s=false→∀w4,Own w w4 [.cells b2 [.int .i64 0] 24,.cells b1 [.int .i64 0] 2] →
     DoX prog (aD 2 (.pointer (some ⟨b1,0,none⟩)) (.int .i64 0)) w4 (aF (.pointer (some ⟨b1,0,none⟩)) (.pointer (some ⟨b2,0,none⟩)) K) fun _ ww=>
     DoX prog (aD 24 (.pointer (some ⟨b2,0,none⟩)) (.int .i64 3)) ww (aF (.pointer (some ⟨b1,0,none⟩)) (.pointer (some ⟨b2,0,none⟩)) K) fun _ ww=>
     oO prog [.cell (.pointer (some ⟨b1,0,none⟩)) 2,.cell (.pointer (some ⟨b2,0,none⟩)) 24] K [{ target:=.fn (.func 166) #[],args:=#[.pointer (some ⟨b1,0,none⟩),.pointer (some ⟨b2,0,none⟩)] }] .returning ww:=by
    intro hf w4 h4;refine bI 1 h4 rfl (by kernel_rfl) rfl (by simp) fun w5 h5=>?_;refine bI 0 h5 rfl (by kernel_rfl) rfl (by simp) fun w6 h6=>?_;exact HK 1 0 h6 rfl rfl K (bad3 hf)
   by_cases hemp:wh++part=[]
   ·simp only[Ke,hemp,decide_true,rs,g_un];refine bad ?_ _ h3;rw[hform];have:wh=[]∧part=[]:=by simpa using hemp
    rw[this.1,this.2];rfl
   ·simp only[Ke,hemp,decide_false,rs,g_un];have hne:0 < wh.length+part.length:=by
     rw[←List.length_append];exact List.length_pos_iff.2 hemp
    refine dV (Fv wh w3 (by omega)) ?_;rintro v w4 ⟨rfl,b4⟩;have h4:=h3.grow b4;cases hd1:wh.all Fx.cW with
   |false=>
     simp only[rs,g_un];refine bad ?_ _ h4;rw[hform,hd1];rfl
   |true=>
     simp only[rs,g_un];refine dV (Fv part w4 (by omega)) ?_;rintro v w5 ⟨rfl,b5⟩;have h5:=h4.grow b5;cases hd2:part.all Fx.cW with
    |false=>
      simp only[rs,g_un];refine bad ?_ _ h5;rw[hform,hd1,hd2];rfl
    |true=>
      simp only[rs,g_un];refine good ?_ _ h5;rw[hform,hd1,hd2,decide_eq_true hne];rfl
  refine join fun J hJ=>?_;have goJ:∀l:List UInt8,l=Fx.body s→J [.string ⟨l.toArray⟩] w2:=by
   intro l hl;refine hJ _ _ fun _=>?_;rw[hl,←hmin];exact main
  cases hm45:([45]:List UInt8).isPrefixOf s with
 |true=>
   rw[hm45,Bool.true_or,if_pos rfl] at hbody;simp only[rs,g_un];rw[B2 Tryz.underlying9 (by omega) (by have:=hpos (by rw[hm45];rfl);omega)];exact AtX.mk rfl (goJ (s.drop 1) hbody.symm)
 |false=>
   simp only[rs];refine dV (tT s [43] w2) ?_;rintro v w4 ⟨rfl,rfl⟩;rw[hm45,Bool.false_or] at hbody;cases hm43:([43]:List UInt8).isPrefixOf s with
  |true=>
    rw[hm43,if_pos rfl] at hbody;simp only[rs];rw[B2 Tryz.underlying9 (by omega) (by have:=hpos (by rw[hm43,Bool.or_true]);omega)];exact AtX.mk rfl (goJ (s.drop 1) hbody.symm)
  |false=>
    rw[hm43] at hbody;simp only[rs];exact AtX.mk rfl (goJ s (by rw[hbody];simp))
end
end Go.Proofs.YtoofficgclghoaaGreatDoor


namespace Go.Proofs.YtoofficgclghoaaGreatDoor
section
open Eng Go.RowKit
theorem dE {P:Program}{f:Nat}{args:Array Value}{w0 w:World}{L:List Ent}{PK:PKT}{K:VWP}{x y:Value}(h:Ret P f args w (fun v w'=>v=x∧Below w.heap.size w w'))(hx:x=y)(ho:Own w0 w L)
  (k:∀w',Own w0 w' L→K y w'):CallX P f args w PK K:=by
 refine dV h ?_;rintro v w' ⟨rfl,hb⟩;rw[hx];exact k _ (ho.grow hb)
end
section
namespace Eng
open Go.RowKit
def sel (c:Bool)(x:Value):Value:=bc c x undef
theorem Wt {x:Value}:sel true x=x:=rfl
theorem VC {x:Value}:sel false x=undef:=rfl
section
variable {P:Program}{w:World}{PK:PKT}{K:VWP}
theorem U1 {v x:Value}{want:Bool}:GDo v want (fun E=>E x w) w K=K (sel (jM v want) x) w:=by
 refine propext ⟨fun h=>?_,fun h=>⟨?_⟩⟩
 ·have:=h.out;cases hw:jM v want<;>rw[hw] at this<;>exact this
 ·cases hw:jM v want<;>rw[hw] at h<;>exact h
theorem iA {v v':Value}{want c:Bool}{E E':(VWP)→Prop}(hv:v=v')(hc:jM v' want=c)(h:c=true→∀K0,E K0=E' K0):GDo v want E w K=GDo v' want E' w K:=by
 subst hv;refine propext ⟨fun x=>⟨?_⟩,fun x=>⟨?_⟩⟩
 ·have:=x.out;subst hc;cases hw:jM v want with
 |false=>rw[hw] at this;exact this
 |true=>rw[hw,aI] at this;rw[aI,←h hw];exact this
 ·have:=x.out;subst hc;cases hw:jM v want with
 |false=>rw[hw] at this;exact this
 |true=>rw[hw,aI] at this;rw[aI,h hw];exact this
theorem Ty {b:Bool}:jM (.bool b) true=b:=by cases b<;>rfl
theorem TE {b:Bool}:jM (.bool b) false=!b:=by cases b<;>rfl
theorem Rx {c y:Bool}:jM (sel c (.bool y)) true=(c&&y):=by cases c<;>cases y<;>rfl
theorem RI {c y:Bool}:jM (sel c (.bool y)) false=(c&&!y):=by cases c<;>cases y<;>rfl
theorem Va {b:Bool}:(true&&b)=b:=rfl
theorem UW {b:Bool}:(b&&true)=b:=by cases b<;>rfl
theorem Q2 {b y:Bool}:DoX P (aL (.bool b) (sel b (.bool y)) (.bool false)) w PK K=K (.bool (b&&y)) w:=by
 rw[Hw];cases b<;>rfl
theorem TN {b y:Bool}:DoX P (aL (.bool b) (.bool true) (sel (!b) (.bool y))) w PK K=K (.bool (b||y)) w:=by
 rw[Hw];cases b<;>rfl
end
def gs:=And.intro @U1 (And.intro @Ty (And.intro @TE (And.intro @Q2 (And.intro @TN (And.intro @Wt (And.intro @VC (And.intro @Rx (And.intro @RI (And.intro @Va @UW)))))))))
end Eng
end
end Go.Proofs.YtoofficgclghoaaGreatDoor
