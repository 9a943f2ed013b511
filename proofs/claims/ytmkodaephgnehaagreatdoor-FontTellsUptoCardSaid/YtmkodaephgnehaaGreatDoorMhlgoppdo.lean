/- Texts that go together: EngD SBuild Shelf LibBld SPlain SFix SRef02 FixP FixR FixQ SStr LibCut FixT PlA PlB PlC LawKit2 Plain46 Plain47 Plain04B Plain38 SRef04 PlR PlS EngG FixU FixV FixW FixX SLaw02 FixY SLaw04 PlT EngT EngH EngI EngJ EngK EngU LawKit3 ObA ObB EngX EngY SLabel SRef38 SCut LbA SSlc SlcA SMake Plain05 Plain05B SIdx OcIdx ObC SRef05 ObD EngW ObE ObF SVal ObG ObH ObI MkA SMake5 Plain07 SRef07 Plain03. -/
import Derived.Test.YtmkodaephgnehaaGreatDoorRows
import Derived.Shelf.Strings.Builder1
import Derived.Shelf.Strings.Builder2
import Derived.Shelf.Strings.OnBuilder
import Derived.Shelf.Strings.Trim
import Derived.Shelf.Small.Utf8
import Derived.Shelf.Small.Bits
import Derived.Shelf.Small.Strs
import Derived.Shelf.Small.Wraps
import Derived.Shelf.Strings.BuilderF
import Derived.Shelf.Strings.BuilderK
import Derived.Shelf.Strings.Builder2Cap
import Derived.Shelf.Strconv.Itoa0
import Derived.Shelf.Strings.Search1
import Derived.Shelf.Strings.Search2
import Derived.Shelf.Strings.Search3
import Derived.Shelf.Strings.Cut
import Derived.Shelf.LaysM
import Derived.Shelf.Strings.Shaped
import Derived.Shelf.Sort.Plain
import Derived.Shelf.Strings.Prefix
import Derived.Shelf.Strings.Fields
import Derived.Shelf.Strings.SplitShaped
import Derived.Shelf.Unicode.Latin
import Derived.Shelf.Strings.Runes
import Derived.Shelf.Strings.AsciiSet
import Derived.Shelf.Bits.Mul64
import Derived.Shelf.Strings.Repeat
import Derived.Shelf.Unicode.DecodeSlow
import Derived.Shelf.Unicode.DecodeAny
import Derived.Shelf.Unicode.Is16White
import Derived.Shelf.Unicode.IsSpaceAny
import Derived.Shelf.Unicode.Is16Any
import Derived.Shelf.Unicode.Is32Any
import Derived.Shelf.Unicode.ExclAny
import Derived.Shelf.Strings.BuilderCap
import Derived.Shelf.Slices.In.SortNone
import Derived.Test.YtmkodaephgnehaaGreatDoorProg
import Derived.Recover
import Derived.Shelf.Strings.SlTrimAscii
import Derived.Lib.Repeat
import Derived.SliceStrings
import Derived.Lib.MapLaws
import Derived.Lib.ValidLaws
import Derived.Lib.QuoteLoop
import Derived.Lib.Case
import Derived.Laws.RangeAny
import Derived.Lib.SmallJoins
import Derived.Laws.StructEq
import Derived.Laws.CopyRow
import Derived.Lib.AppendZerosOnto
import Derived.Lib.SliceRun
import Derived.Lib.Overlaps
import Derived.Laws.Externs
import Derived.Sort.Walk0
import Derived.Test.YtmkodaephgnehaaGreatDoorMejpblbll
set_option linter.defProp false
set_option linter.unusedSimpArgs false
set_option linter.unusedVariables false
set_option maxRecDepth 20000
open Go.Proofs.Tryz (prog)
namespace Go.Proofs.YtmkodaephgnehaaGreatDoor
section
namespace Eng
open Go.RowKit
theorem add_none (b off n:Nat):(⟨b,off,none⟩:Addr).add n=⟨b,off+n,none⟩:=by unfold Addr.add;split<;>simp_all
def fOff (P:Program)(T:TypeId)(f:Nat):Option Nat:=
 match P.underlying T with
|some (.struct fs)=>match fs[f]? with
 |some fd=>match P.info? fd.type with
  |some i=>match i.size with
   |0=>none
   |_+1=>some fd.offset
  |none=>none
 |none=>none
|_=>none
def elB (P:Program)(E:TypeId)(sz bytes:Nat):Bool:=
 match P.info? E with
|some i=>Nat.beq i.size sz&&Nat.beq i.bytes bytes&&(match i.zero with|some z=>Nat.beq z.cells.size sz|none=>false)
|none=>false
theorem elB_spec {P:Program}{E:TypeId}{sz bytes:Nat}(h:elB P E sz bytes=true):∃i z,P.info? E=some i∧i.zero=some z∧i.size=sz∧i.bytes=bytes∧z.cells.size=sz:=by
 unfold elB at h;split at h
 ·rename_i i hi
  simp only[Bool.and_eq_true,Nat.beq_eq] at h;obtain⟨⟨h1,h2⟩,h3⟩:=h;split at h3
  ·rename_i z hz;exact⟨i,z,hi,hz,h1,h2,by simpa using h3⟩
  ·cases h3
 ·cases h
section
variable {S:Nat→Prop}{P:Program}{w:World}{PK:PKT}{K:VWP}
theorem run_fa {T:TypeId}{f b off o:Nat}(h:fOff P T f=some o):(mFA T (.pointer (some ⟨b,off,none⟩)) f).run P w=.ok (.value (.pointer (some ⟨b,off+o,none⟩))) w:=by
 unfold fOff at h;split at h
 ·rename_i fs hu
  split at h
  ·rename_i fd hfd
   split at h
   ·rename_i i hi
    cases hs:i.size with
   |zero=>rw[hs] at h;cases h
   |succ m=>
     rw[hs] at h;simp only[Option.some.injEq] at h;subst h;refine mv_run ?_;simp[Instr.fieldAt,run_underlying hu,hfd,Instr.sureAddr,fieldPlace,sizeOf,typeInfo,hi,hs,add_none]
   ·cases h
  ·cases h
 ·cases h
theorem f_addr {T:TypeId}{f b off o:Nat}(h:fOff P T f=some o):DoX P (mFA T (.pointer (some ⟨b,off,none⟩)) f) w PK K=K (.pointer (some ⟨b,off+o,none⟩)) w:=do_eq (run_fa h)
def bAnd (k:IntKind)(x y:Int):Int:=k.wrap ((BitVec.ofInt k.bits x &&& BitVec.ofInt k.bits y).toNat:Int)
def bOr (k:IntKind)(x y:Int):Int:=k.wrap ((BitVec.ofInt k.bits x ||| BitVec.ofInt k.bits y).toNat:Int)
theorem r_and {T:TypeId}{k:IntKind}{a b:Int}:(mBin .and T (.int k a) (.int k b)).run P w=.ok (.value (.int k (bAnd k a b))) w:=mv_run (by simp[binOp,Op.intBits,bAnd])
theorem r_or {T:TypeId}{k:IntKind}{a b:Int}:(mBin .or T (.int k a) (.int k b)).run P w=.ok (.value (.int k (bOr k a b))) w:=mv_run (by simp[binOp,Op.intBits,bOr])
theorem r_shr {T:TypeId}{k k':IntKind}{a b:Int}(h:0≤b):(mBin .shr T (.int k a) (.int k' b)).run P w=.ok (.value (.int k (a.fdiv (2 ^ (min b.toNat k.bits))))) w:=mv_run (by
 have h':¬b < 0:=by omega
 simp[binOp,Op.shift,h'])
theorem r_shl {T:TypeId}{k k':IntKind}{a b:Int}(h:0≤b):(mBin .shl T (.int k a) (.int k' b)).run P w=.ok (.value (.int k (k.wrap (a*2 ^ (min b.toNat k.bits))))) w:=mv_run (by
 have h':¬b < 0:=by omega
 simp[binOp,Op.shift,h'])
theorem b_and {T:TypeId}{k:IntKind}{a b:Int}:DoX P (mBin .and T (.int k a) (.int k b)) w PK K=K (.int k (bAnd k a b)) w:=do_eq r_and
theorem b_or {T:TypeId}{k:IntKind}{a b:Int}:DoX P (mBin .or T (.int k a) (.int k b)) w PK K=K (.int k (bOr k a b)) w:=do_eq r_or
theorem b_shr {T:TypeId}{k k':IntKind}{a b:Int}(h:0≤b):DoX P (mBin .shr T (.int k a) (.int k' b)) w PK K=K (.int k (a.fdiv (2 ^ (min b.toNat k.bits)))) w:=do_eq (r_shr h)
theorem b_shl {T:TypeId}{k k':IntKind}{a b:Int}(h:0≤b):DoX P (mBin .shl T (.int k a) (.int k' b)) w PK K=K (.int k (k.wrap (a*2 ^ (min b.toNat k.bits)))) w:=do_eq (r_shl h)
theorem run_s_ix {T:TypeId}{k:IntKind}{i:Int}{a:List UInt8}{c:UInt8}(h:P.underlying T=some .string)(h0:0≤i)(hc:a[i.toNat]?=some c):(mIx T (.string ⟨a.toArray⟩) (.int k i)).run P w=.ok (.value (.int .u8 (c.toNat:Int))) w:=by
 refine mv_run ?_;have e:(⟨a.toArray⟩:ByteArray)[i.toNat]?=some c:=by
  have hl:i.toNat < a.length:=(List.getElem?_eq_some_iff.1 hc).1;have h1:i.toNat < (⟨a.toArray⟩:ByteArray).size:=by rw[str_size];exact hl
  rw[getElem?_pos (⟨a.toArray⟩:ByteArray) i.toNat h1];have h2:=(List.getElem?_eq_some_iff.1 hc).2;rw[←h2];rfl
 simp only[Instr.index,asIntOf,run_underlying h,h0,e];simp[h0,e,run_underlying h]
theorem newer {E:TypeId}{sz bytes:Nat}{T U:TypeId}{i:TypeInfo}{z:Value}(ht:P.underlying T=some (.slice E))(hi:P.info? E=some i)(hz:i.zero=some z)(hi1:i.size=sz)(hi2:i.bytes=bytes)(hz1:z.cells.size=sz)(hsz:0 < sz)
  {v v':Value} {w':World} {n m c:Nat} {xs news:List Value} {a:Addr} (hown:w.ownsRowF 0 E sz v n xs) (hl:news.length=m*sz) (hnews:∀j u,news[j]?=some u→w.cell? (a.add j)=some u) (h1:∀u∈news,u.oneCell'=true)
  (hmx:n+m≤9223372036854775807) (hb:(n+m)*bytes≤140737488355328) (hr:(Builtin.append_ #[T,T] U #[v,.slice (some a) m c]).run P w=.ok v' w') :
  ∀k,v'.ownBlock=some k→v.ownBlock=some k∨w.heap.size≤k:=by
 intro k hk;have hmx':n+m≤maxLen:=by simp only[maxLen];omega
 rcases hown.2 with ⟨rfl,rfl⟩|⟨g,cap,cur,fz,rfl,hbg,hg,hfz,hnc,hcm,hcs,htake⟩
 ·obtain⟨v2,w2,r1,r2,r3,r4⟩:=run_append_ownF (P:=P) w w.heap.size T U E i z sz bytes ht hi hz hi1 hi2 hz1 hsz (.slice none 0 0) 0 xs ⟨hown.1,.inl ⟨rfl,rfl⟩⟩ a m c news hl hnews h1 hmx' hb (Nat.le_refl _);rw[r1] at hr;cases hr;exact .inr (World.ownsRowF.lt r2 k hk).1
 ·subst hi1;subst hi2;by_cases hroom:n+m≤cap
  ·have hfit:n*i.size+news.length≤cur.size:=by rw[hl,hcs,←Nat.add_mul];exact Nat.mul_le_mul_right _ hroom
   rw[run_append_roomF (P:=P) w T U E i ht hi g n cap cur fz hg hfz a m c news hl hnews h1 hroom hfit] at hr;cases hr;exact .inl hk
  ·have holds:∀j u,xs[j]?=some u→w.cell? ((⟨g,0,none⟩:Addr).add j)=some u:=hown.cells (g:=g) rfl;rw[run_append_grow (P:=P) w T U E i z ht hi hz ⟨g,0,none⟩ n cap xs hown.1 holds a m c news hl hnews (by omega) (by omega) (growslice_fits (by omega) hb)] at hr;cases hr;simp only[Value.ownBlock,Option.some.injEq] at hk;exact .inr (by omega)
theorem run_append_any {T E U:TypeId}{cs:Array Bool}{v v2:Value}{sz bytes n m:Nat}{xs news:List Value}(ht:P.underlying T=some (.slice E))(he:elB P E sz bytes=true)(hsz:0 < sz)
  (hown:w.ownsRowF 0 E sz v n xs) (hs:Sl w v2 sz m news) (h1:∀u∈news,u.oneCell'=true) (hb:(n+m)*bytes≤140737488355328) (hb2:n+m≤140737488355328) :
  ∃v' w',(mB .append #[T,T] U cs #[v,v2]).run P w=.ok (.value v') w'∧Turn (.row E sz v n xs) (.row E sz v' (n+m) (xs++news)) w w':=by
 obtain⟨i,z,hi,hz,hi1,hi2,hz1⟩:=elB_spec he;obtain⟨hl,a,cap,rfl,hn,hc⟩:=hs;have hmx:n+m≤maxLen:=by simp only[maxLen];omega
 have fin:∀(a:Addr),(∀j u,news[j]?=some u→w.cell? (a.add j)=some u)→∃v' w',(mB .append #[T,T] U cs #[v,.slice (some a) m cap]).run P w=.ok (.value v') w'∧Turn (.row E sz v n xs) (.row E sz v' (n+m) (xs++news)) w w':=by
  intro a hh;obtain⟨v',w',r1,r2,r3,r4⟩:=run_append_ownF (P:=P) w 0 T U E i z sz bytes ht hi hz hi1 hi2 hz1 hsz v n xs hown a m cap news hl hh h1 hmx hb (Nat.zero_le _);refine⟨v',w',?_,grew_by r3,r2,newer (P:=P) ht hi hz hi1 hi2 hz1 hsz hown hl hh h1 (by omega) hb r1⟩;simp[mB,builtin,r1]
 cases a with
|some p=>
  refine fin p fun j u hj=>?_;have hlt:j < news.length:=(List.getElem?_eq_some_iff.1 hj).1;have hm:0 < m:=by
   rcases Nat.eq_zero_or_pos m with h0|h0
   ·subst h0;simp at hl;rw[hl] at hlt;simp at hlt
   ·exact h0
  obtain⟨hsp,hcell⟩:=hc p rfl;have:=hsp hm;obtain⟨b,off,spot⟩:=p;simp only at this hcell;subst this;rw[add_none];exact hcell j u hj
|none=>
  have h0:=hn rfl;subst h0;have hnil:news=[]:=List.eq_nil_of_length_eq_zero (by simpa using hl);subst hnil;refine⟨v,w,?_,by rw[List.append_nil];exact Turn.refl (e:=.row E sz v n xs) hown⟩;rcases hown.2 with ⟨rfl,rfl⟩|⟨g,cp,cur,fz,rfl,_,_,_,hnc,_⟩
  ·simp[mB,builtin,Builtin.append_,run_underlying ht,sizeOf,typeInfo,hi,Builtin.lenOf,Builtin.firstCells]
  ·simp[mB,builtin,Builtin.append_,run_underlying ht,sizeOf,typeInfo,hi,Builtin.lenOf,Builtin.firstCells,hnc,storeCells]
theorem o_append {w0:World}{L:List Ent}(i:Nat){T E U:TypeId}{cs:Array Bool}{v v2:Value}{sz bytes n m:Nat}{xs news:List Value}(ht:P.underlying T=some (.slice E))(he:elB P E sz bytes=true)(hsz:0 < sz)
  (ho:OwnS S w0 w L) (hi:L[i]?=some (.row E sz v n xs)) (hs:Sl w v2 sz m news) (h1:∀u∈news,u.oneCell'=true) (hb:(n+m)*bytes≤140737488355328) (hb2:n+m≤140737488355328)
  (k:∀v' w',OwnS S w0 w' (L.set i (.row E sz v' (n+m) (xs++news)))→K v' w'):DoX P (mB .append #[T,T] U cs #[v,v2]) w PK K:=by
 obtain⟨v',w',r,t⟩:=run_append_any (cs:=cs) (U:=U) ht he hsz (ho.at_ i hi) hs h1 hb hb2;exact do_ok r (k _ _ (ho.turn i hi t))
theorem OwnS.nilRow {w0:World}{L:List Ent}(ho:OwnS S w0 w L)(E:TypeId)(sz:Nat):OwnS S w0 w (.row E sz (.slice none 0 0) 0 []::L):=by
 refine⟨ho.grew,fun e he=>?_,.cons (fun f hf k hk=>by simp[Ent.row,Value.ownBlock] at hk) ho.apart⟩;rcases List.mem_cons.1 he with rfl|he
 ·exact⟨World.ownsRowF_nil w 0 E sz,fun k hk=>by simp[Ent.row,Value.ownBlock] at hk⟩
 ·exact ho.all e he
theorem OwnS.slRow {w0:World}{L:List Ent}(ho:OwnS S w0 w L)(i:Nat){T:TypeId}{sz:Nat}{v:Value}{n:Nat}{xs:List Value}(hi:L[i]?=some (.row T sz v n xs)):Sl w v sz n xs:=Sl.row (ho.at_ i hi)
theorem OwnS.toRow {w0:World}{L:List Ent}{b:Nat}{cs:List Value}{E:TypeId}(ho:OwnS S w0 w (.cells b cs E::L))(sz n cap:Nat)(hl:cs.length=cap*sz)(hn:n≤cap)(hc:cap≤9223372036854775807) :
  OwnS S w0 w (.row E sz (.slice (some ⟨b,0,none⟩) n cap) n (cs.take (n*sz))::L):=by
 refine⟨ho.grew,fun e he=>?_,?_⟩
 ·rcases List.mem_cons.1 he with rfl|he
  ·refine⟨⟨by rw[List.length_take,hl,Nat.min_eq_left (Nat.mul_le_mul_right _ hn)],.inr ⟨b,cap,cs.toArray,(0,0),rfl,Nat.zero_le _,ho.at_ 0 rfl,Nat.zero_le _,hn,by simp only[maxLen];omega,by simpa using hl,by simp⟩⟩,fun k hk=>?_⟩;simp only[Ent.row,Value.ownBlock,Option.some.injEq] at hk;exact (ho.all (.cells b cs E) (by simp)).2 k hk.symm
  ·exact ho.all e (by simp[he])
 ·refine .cons (fun f hf k hk=>?_) (List.pairwise_cons.1 ho.apart).2;simp only[Ent.row,Value.ownBlock,Option.some.injEq] at hk;exact (List.pairwise_cons.1 ho.apart).1 f hf k hk.symm
theorem OwnS.swap {w0:World}{e f:Ent}{L:List Ent}(ho:OwnS S w0 w (e::f::L)):OwnS S w0 w (f::e::L):=by
 obtain⟨a1,a2⟩:=List.pairwise_cons.1 ho.apart;obtain⟨a3,a4⟩:=List.pairwise_cons.1 a2;exact⟨ho.grew,fun g hg=>ho.all g (by simp only[List.mem_cons] at hg ⊢;rcases hg with h|h|h<;>simp[h]),.cons (fun g hg k hk hk'=>by
  rcases List.mem_cons.1 hg with rfl|hg
  ·exact a1 f (by simp) k hk' hk
  ·exact a3 g hg k hk hk') (.cons (fun g hg k hk hk'=>a1 g (by simp[hg]) k hk hk') a4)⟩
theorem c_turn {w0:World}{L:List Ent}(i:Nat){f:Nat}{args:Array Value}{e:Ent}{R:Value→Ent→Prop}(ho:OwnS S w0 w L)(hi:L[i]?=some e)(h:Ret P f args w (fun v w'=>∃e',R v e'∧Turn e e' w w'))
  (k:∀v e' w',R v e'→OwnS S w0 w' (L.set i e')→K v w'):CallX P f args w PK K:=
 c_ret h fun v w' ⟨e',hr,ht⟩=>k v e' w' hr (ho.turn i hi ht)
theorem c_below {w0:World}{L:List Ent}{f:Nat}{args:Array Value}{R:Value→Prop}(ho:OwnS S w0 w L)(h:Ret P f args w (fun v w'=>R v∧Below w.heap.size w w'))
  (k:∀v w',R v→OwnS S w0 w' L→K v w'):CallX P f args w PK K:=
 c_ret h fun v w' ⟨hr,hb⟩=>k v w' hr (ho.grow hb)
end
end Eng
end
end Go.Proofs.YtmkodaephgnehaaGreatDoor

namespace Go.Proofs
open Go.Shelf
open Go.RowKit in
def Tryz.lays137_ren:Go.Shelf.Ren:=⟨fun|137=>91|217=>126|266=>158|n=>n,fun|9=>9|5=>5|3=>3|n=>n,fun|n=>n⟩
theorem Tryz.lays137:Go.Proofs.Lays.n137 prog Tryz.lays137_ren:={
 mixed:=by kernel_rfl
 f137:=Tryz.func91.trans (congrArg some (by kernel_rfl))
 f217:=Tryz.func126.trans (congrArg some (by kernel_rfl))
 f266:=Tryz.func158.trans (congrArg some (by kernel_rfl))
 t3:=Tryz.underlying3
 a3:=Tryz.isAgg3
 z3:=Tryz.sizeOf3
 v3:=Tryz.zeroValue3
 t5:=Tryz.underlying5
 a5:=Tryz.isAgg5
 z5:=Tryz.sizeOf5
 v5:=Tryz.zeroValue5
 t9:=Tryz.underlying9
 a9:=Tryz.isAgg9
 z9:=Tryz.sizeOf9
 v9:=Tryz.zeroValue9 }
open Go.RowKit in
theorem Tryz.strings_IndexByte (s:ByteArray)(c:Int)(w:World) :
  Calls prog 91 #[.string s,.int .u8 c] w fun e w'=>e=.returned (.int .i64 (Lib.indexByte s.data.toList c.toNat.toUInt8))∧w'=w:=Any.strings_IndexByte Tryz.lays137 s c w
open Go.RowKit Go.Lib in
def Tryz.lays206_ren:Go.Shelf.Ren:=⟨fun|206=>125|n=>n,fun|9=>9|4=>4|3=>3|n=>n,fun|n=>n⟩
theorem Tryz.lays206:Go.Proofs.Lays.n206 prog Tryz.lays206_ren:={
 mixed:=by kernel_rfl
 f206:=Tryz.func125.trans (congrArg some (by kernel_rfl))
 t3:=Tryz.underlying3
 a3:=Tryz.isAgg3
 z3:=Tryz.sizeOf3
 v3:=Tryz.zeroValue3
 t4:=Tryz.underlying4
 a4:=Tryz.isAgg4
 z4:=Tryz.sizeOf4
 v4:=Tryz.zeroValue4
 t9:=Tryz.underlying9
 a9:=Tryz.isAgg9
 z9:=Tryz.sizeOf9
 v9:=Tryz.zeroValue9 }
open Go.RowKit Go.Lib in
theorem Tryz.stringslite_HasPrefix (s p:ByteArray)(w:World) :
  Calls prog 125 #[.string s,.string p] w fun e w'=>e=.returned (.bool (Lib.hasPrefix s.data.toList p.data.toList))∧w'=w:=Any.stringslite_HasPrefix Tryz.lays206 s p w
open Go.RowKit Go.Lib in
def Tryz.lays157_ren:Go.Shelf.Ren:=⟨fun|157=>36|229=>63|199=>64|261=>94|311=>128|312=>129|n=>n,fun|9=>9|31=>23|3=>3|5=>5|4=>4|119=>103|0=>0|40=>105|152=>135|21=>21|154=>137|51=>138|141=>140|196=>186|193=>183|198=>189|49=>187|194=>184|201=>192|226=>227|46=>58|227=>228|n=>n,fun|0=>0|6=>3|n=>n⟩
theorem Tryz.lays157:Go.Proofs.Lays.n157 prog Tryz.lays157_ren:={
 mixed:=by kernel_rfl
 f157:=Tryz.func36.trans (congrArg some (by kernel_rfl))
 f199:=Tryz.func64.trans (congrArg some (by kernel_rfl))
 f229:=Tryz.func63.trans (congrArg some (by kernel_rfl))
 f261:=Tryz.func94.trans (congrArg some (by kernel_rfl))
 f311:=Tryz.func128.trans (congrArg some (by kernel_rfl))
 f312:=Tryz.func129.trans (congrArg some (by kernel_rfl))
 t0:=Tryz.underlying0
 a0:=Tryz.isAgg0
 z0:=Tryz.sizeOf0
 v0:=Tryz.zeroValue0
 t3:=Tryz.underlying3
 a3:=Tryz.isAgg3
 z3:=Tryz.sizeOf3
 v3:=Tryz.zeroValue3
 t4:=Tryz.underlying4
 a4:=Tryz.isAgg4
 z4:=Tryz.sizeOf4
 v4:=Tryz.zeroValue4
 t5:=Tryz.underlying5
 a5:=Tryz.isAgg5
 z5:=Tryz.sizeOf5
 v5:=Tryz.zeroValue5
 t9:=Tryz.underlying9
 a9:=Tryz.isAgg9
 z9:=Tryz.sizeOf9
 v9:=Tryz.zeroValue9
 t21:=Tryz.underlying21
 a21:=Tryz.isAgg21
 z21:=Tryz.sizeOf21
 v21:=Tryz.zeroValue21
 t31:=Tryz.underlying23
 a31:=Tryz.isAgg23
 z31:=Tryz.sizeOf23
 v31:=Tryz.zeroValue23
 t40:=Tryz.underlying105
 a40:=Tryz.isAgg105
 z40:=Tryz.sizeOf105
 v40:=Tryz.zeroValue105
 t46:=Tryz.underlying58
 a46:=Tryz.isAgg58
 z46:=Tryz.sizeOf58
 v46:=Tryz.zeroValue58
 t49:=Tryz.underlying187
 a49:=Tryz.isAgg187
 z49:=Tryz.sizeOf187
 v49:=Tryz.zeroValue187
 t51:=Tryz.underlying138
 a51:=Tryz.isAgg138
 z51:=Tryz.sizeOf138
 v51:=Tryz.zeroValue138
 t119:=Tryz.underlying103
 a119:=Tryz.isAgg103
 z119:=Tryz.sizeOf103
 t141:=Tryz.underlying140
 a141:=Tryz.isAgg140
 z141:=Tryz.sizeOf140
 v141:=Tryz.zeroValue140
 t152:=Tryz.underlying135
 a152:=Tryz.isAgg135
 z152:=Tryz.sizeOf135
 v152:=Tryz.zeroValue135
 t154:=Tryz.underlying137
 a154:=Tryz.isAgg137
 z154:=Tryz.sizeOf137
 v154:=Tryz.zeroValue137
 t193:=Tryz.underlying183
 a193:=Tryz.isAgg183
 z193:=Tryz.sizeOf183
 v193:=Tryz.zeroValue183
 t194:=Tryz.underlying184
 a194:=Tryz.isAgg184
 z194:=Tryz.sizeOf184
 v194:=Tryz.zeroValue184
 t196:=Tryz.underlying186
 a196:=Tryz.isAgg186
 z196:=Tryz.sizeOf186
 v196:=Tryz.zeroValue186
 t198:=Tryz.underlying189
 a198:=Tryz.isAgg189
 z198:=Tryz.sizeOf189
 v198:=Tryz.zeroValue189
 t201:=Tryz.underlying192
 a201:=Tryz.isAgg192
 z201:=Tryz.sizeOf192
 v201:=Tryz.zeroValue192
 t226:=Tryz.underlying227
 a226:=Tryz.isAgg227
 z226:=Tryz.sizeOf227
 v226:=Tryz.zeroValue227
 t227:=Tryz.underlying228
 a227:=Tryz.isAgg228
 z227:=Tryz.sizeOf228
 v227:=Tryz.zeroValue228
 g0:=by kernel_rfl
 g6:=by kernel_rfl }
open Go.RowKit Go.Lib in
theorem Tryz.strings_Fields (s:ByteArray)(w:World)(hs:s.size < 4294967281)(hascii:∀(j:Nat) b,s.data.toList[j]?=some b→b.toNat < 128)(htab:Lib.TabIs prog w "strings.asciiSpace" .u8 Lib.asciiSpaceTab) :
  Calls prog 36 #[.string s] w fun e w'=>
   e=.returned (.slice (some ⟨w.heap.size,0,none⟩) (Lib.fields s.data.toList).length (Lib.fields s.data.toList).length)∧w'=w.alloc (.cells ((Lib.fields s.data.toList).map fun l=>Value.string ⟨l.toArray⟩).toArray 9):=Any.strings_Fields Tryz.lays157 (by kernel_rfl) (by kernel_rfl) s w hs hascii htab
end Go.Proofs
namespace Go.Proofs.YtmkodaephgnehaaGreatDoor
section
open Eng Go.RowKit
theorem bytesV_append (a b:List UInt8):bytesV (a++b)=bytesV a++bytesV b:=by simp[bytesV]
theorem bytesV_one (l:List UInt8):∀u∈bytesV l,u.oneCell'=true:=by
 intro u hu;simp only[bytesV,List.mem_map] at hu;obtain⟨c,_,rfl⟩:=hu;rfl
end
end Go.Proofs.YtmkodaephgnehaaGreatDoor







namespace Go.Proofs.YtmkodaephgnehaaGreatDoor
section
open Eng Go.RowKit
theorem ix_cases (c:UInt8):∀l:List UInt8,(Lib.indexByte l c=-1∧l.takeWhile (fun x=>x != c)=l∧l.dropWhile (fun x=>x != c)=[]) ∨
  ∃i:Nat,Lib.indexByte l c=i∧i < l.length∧l.takeWhile (fun x=>x != c)=l.take i∧l.dropWhile (fun x=>x != c)=l.drop i
|[]=>.inl ⟨rfl,rfl,rfl⟩
|b::l=>by
  by_cases h:b=c
  ·subst h;exact .inr ⟨0,by simp[Lib.indexByte],by simp,by simp,by simp⟩
  ·have hb:(b==c)=false:=by simpa using h
   have hb2:(b != c)=true:=by simpa using h
   rcases ix_cases c l with ⟨h1,h2,h3⟩|⟨i,h1,h2,h3,h4⟩
   ·exact .inl ⟨by simp[Lib.indexByte,hb,h1],by simp[hb2,h2],by simp[hb2,h3]⟩
   ·refine .inr ⟨i+1,?_,by simp;omega,by simp[hb2,h3],by simp[hb2,h4]⟩;have e:((i:Int)==-1)=false:=by simp
    simp only[Lib.indexByte,hb,h1,e,Bool.false_eq_true,if_false];omega
end
end Go.Proofs.YtmkodaephgnehaaGreatDoor

namespace Go.Proofs.YtmkodaephgnehaaGreatDoor
section
open Eng Go.RowKit
theorem indexByte_ret (l:List UInt8)(c:UInt8)(w:World):Ret prog 91 #[.string ⟨l.toArray⟩,.int .u8 c.toNat] w (fun v w'=>v=.int .i64 (Lib.indexByte l c)∧w=w'):=by
 refine Calls.mono (Tryz.strings_IndexByte ⟨l.toArray⟩ c.toNat w) ?_;rintro e w' ⟨rfl,rfl⟩;refine retK ⟨?_,rfl⟩;simp
end
end Go.Proofs.YtmkodaephgnehaaGreatDoor

namespace Go.Proofs.YtmkodaephgnehaaGreatDoor
section
open Eng Go.RowKit
def strV (p:List UInt8):Value:=.string ⟨p.toArray⟩
def strsV (ps:List (List UInt8)):List Value:=ps.map strV
theorem strsV_length (ps:List (List UInt8)):(strsV ps).length=ps.length:=by simp[strsV]
theorem strsV_get {ps:List (List UInt8)}{i:Nat}(h:i < ps.length):(strsV ps)[i]?=some (.string ⟨ps[i].toArray⟩):=by simp[strsV,strV,h]
end
section
open Eng Go.RowKit Go.ChangeShapes Go.WideShapes Go.ChangeAt
theorem laidMet_tail {P:Program}{x:String×DataW Unit}{l:List (String×DataW Unit)}{W:World}(h:laidMet P (x::l) W):laidMet P l W:=by
 obtain⟨ps,⟨g,t,cs,fuel,p,q,_,_,_,_,hr,rfl⟩,hn,hc⟩:=h;exact⟨q,hr,(List.nodup_append.1 hn).2.1,fun b off hm=>hc b off (by simp[hm])⟩
end
section
open Go
namespace Cm
def runesF:Nat→List UInt8→List Nat
|0,_=>[]
|n+1,l=>if l=[] then [] else (Lib.decodeL l).1::runesF n (l.drop (Lib.decodeL l).2)
def runes (l:List UInt8):List Nat:=runesF l.length l
def be (n:Nat):List UInt8:=[UInt8.ofNat (n / 256),UInt8.ofNat (n % 256)]
def unit (c:Nat):List UInt8:=if 65536≤c then be (55296+(c - 65536) / 1024)++be (56320+(c - 65536) % 1024) else be c
def units (l:List UInt8):List UInt8:=(runes l).flatMap unit
def two (a b:UInt8):Nat:=256*a.toNat+b.toNat
def low (u:Nat):Bool:=decide (56320≤u)&&decide (u≤57343)
def high (u:Nat):Bool:=decide (55296≤u)&&decide (u≤56319)
def sign:List UInt8→Option (List Nat)
|a::b::c::d::t=>
  if low (two a b) then none
  else if high (two a b) then (if low (two c d) then (sign t).map fun l=>(65536+1024*(two a b - 55296)+(two c d - 56320))::l else none)
  else (sign (c::d::t)).map fun l=>two a b::l
|[a,b,c]=>if low (two a b)||high (two a b) then none else (sign [c]).map fun l=>two a b::l
|[a,b]=>if low (two a b)||high (two a b) then none else some [two a b]
|_=>some []
def enc (l:List Nat):List UInt8:=l.flatMap fun r:Nat=>Lib.encodeRune (r:Int)
def utf (s:List UInt8):List UInt8×Int:=if s.length % 2=1 then ([],3) else match sign s with
|none=>([],3)
|some l=>(enc l,0)
abbrev Mp:=Int×List UInt8
def checkG (most:Int)(last:Option Int):List Mp→Int
|[]=>0
|x::l=>if x.1 < 0∨most < x.1 then 2 else if Lib.validD x.2=false then 3 else if 512 < (units x.2).length then 5 else if last=some x.1 then 9 else if last.any (fun n=>decide (x.1 < n)) then 1 else checkG most (some x.1) l
def most (wide:Bool):Int:=if wide then 65535 else 255
def check (l:List Mp)(wide:Bool):Int:=if 4096 < l.length then 6 else checkG (most wide) none l
def find (l:List Mp)(n:Int):Option Mp:=l.find? fun x=>decide (x.1=n)
theorem runesF_fuel:∀(n m:Nat) (l:List UInt8),l.length≤n→l.length≤m→runesF n l=runesF m l
|0,m,l,hn,_=>by
  have:l=[]:=List.eq_nil_of_length_eq_zero (by omega);subst this;cases m<;>simp[runesF]
|n+1,0,l,_,hm=>by
  have:l=[]:=List.eq_nil_of_length_eq_zero (by omega);subst this;simp[runesF]
|n+1,m+1,l,hn,hm=>by
  by_cases hl:l=[]
  ·simp[runesF,hl]
  ·simp only[runesF,if_neg hl];have h1:=Lib.decodeL_width l;rw[runesF_fuel n m _ (by rw[List.length_drop];omega) (by rw[List.length_drop];omega)]
theorem runes_nil:runes []=[]:=rfl
theorem runes_step {l:List UInt8}(hl:l≠[]):runes l=(Lib.decodeL l).1::runes (l.drop (Lib.decodeL l).2):=by
 have h0:0 < l.length:=List.length_pos_iff.2 hl;have h1:=Lib.decodeL_width l;obtain⟨n,hn⟩:∃n,l.length=n+1:=⟨l.length - 1,by omega⟩;unfold runes;rw[hn,runesF,if_neg hl];rw[runesF_fuel n _ _ (by rw[List.length_drop];omega) (Nat.le_refl _)]
theorem units_step {l:List UInt8}(hl:l≠[]):units l=unit (Lib.decodeL l).1++units (l.drop (Lib.decodeL l).2):=by
 unfold units;rw[runes_step hl,List.flatMap_cons]
theorem decodeL_ok (l:List UInt8):(Lib.decodeL l).1 < 55296∨(57343 < (Lib.decodeL l).1∧(Lib.decodeL l).1≤1114111):=by
 rw[Lib.decodeL_N];exact Lib.decodeN_valid _ _ _ _ _ (UInt8.toNat_lt _)
def okR (c:Nat):Prop:=c < 55296∨(57343 < c∧c≤1114111)
theorem runes_ok (n:Nat):∀l:List UInt8,l.length≤n→∀c∈runes l,okR c:=by
 induction n with
|zero=>intro l hn c hc;rw[List.eq_nil_of_length_eq_zero (by omega:l.length=0)] at hc;cases hc
|succ n ih=>
  intro l hn c hc;by_cases hl:l=[]
  ·subst hl;cases hc
  ·rw[runes_step hl] at hc;have h1:=Lib.decodeL_width l;rcases List.mem_cons.1 hc with rfl|h
   ·exact decodeL_ok l
   ·exact ih _ (by rw[List.length_drop];omega) c h
theorem two_be {n:Nat}(h:n < 65536):two (UInt8.ofNat (n / 256)) (UInt8.ofNat (n % 256))=n:=by
 unfold two;rw[UInt8.toNat_ofNat',UInt8.toNat_ofNat'];omega
theorem be_len (n:Nat):(be n).length=2:=rfl
theorem unit_len (c:Nat):(unit c).length=if 65536≤c then 4 else 2:=by unfold unit;split<;>simp[be]
theorem flat_even:∀l:List Nat,(l.flatMap unit).length % 2=0
|[]=>rfl
|c::l=>by
  have:=flat_even l;rw[List.flatMap_cons,List.length_append,unit_len];split<;>omega
theorem sign_two {a b:UInt8}{t:List UInt8}(h1:low (two a b)=false)(h2:high (two a b)=false)(ht:t.length % 2=0):sign (a::b::t)=(sign t).map fun l=>two a b::l:=by
 match t,ht with
|[],_=>simp[sign,h1,h2]
|c::d::t,_=>simp[sign,h1,h2]
theorem sign_unit {c:Nat}(h:okR c){t:List UInt8}(ht:t.length % 2=0):sign (unit c++t)=(sign t).map fun l=>c::l:=by
 unfold okR at h;unfold unit;by_cases hc:65536≤c
 ·rw[if_pos hc];have e1:=two_be (n:=55296+(c - 65536) / 1024) (by omega);have e2:=two_be (n:=56320+(c - 65536) % 1024) (by omega);simp only[be,List.cons_append,List.nil_append,sign,e1,e2];have l1:low (55296+(c - 65536) / 1024)=false:=by simp[low];omega
  have l2:high (55296+(c - 65536) / 1024)=true:=by simp[high];omega
  have l3:low (56320+(c - 65536) % 1024)=true:=by simp[low];omega
  rw[l1,l2,l3];simp only[Bool.false_eq_true,if_false,if_true];have e:65536+1024*(55296+(c - 65536) / 1024 - 55296)+(56320+(c - 65536) % 1024 - 56320)=c:=by omega
  rw[e]
 ·rw[if_neg hc];have e1:=two_be (n:=c) (by omega);simp only[be,List.cons_append,List.nil_append];rw[sign_two (by rw[e1];simp[low];omega) (by rw[e1];simp[high];omega) ht,e1]
theorem sign_flat:∀l:List Nat,(∀c∈l,okR c)→sign (l.flatMap unit)=some l
|[],_=>rfl
|c::l,h=>by
  rw[List.flatMap_cons,sign_unit (h c (by simp)) (flat_even l),sign_flat l fun x hx=>h x (by simp[hx])];rfl
theorem sign_units (l:List UInt8):sign (units l)=some (runes l):=sign_flat _ (runes_ok _ l (Nat.le_refl _))
theorem utf_units (l:List UInt8):utf (units l)=(enc (runes l),0):=by
 unfold utf;rw[if_neg (by have:=flat_even (runes l);unfold units;omega),sign_units]
theorem enc_runes (n:Nat):∀l:List UInt8,l.length≤n→(enc (runes l)=l↔Lib.validD l=true):=by
 induction n with
|zero=>intro l hn;rw[List.eq_nil_of_length_eq_zero (by omega:l.length=0)];simp[runes_nil,enc,Lib.validD_nil]
|succ n ih=>
  intro l hn;by_cases hl:l=[]
  ·subst hl;simp[runes_nil,enc,Lib.validD_nil]
  ·have h1:=Lib.decodeL_width l;rw[runes_step hl,Lib.validD_step l hl];have e:enc ((Lib.decodeL l).1::runes (l.drop (Lib.decodeL l).2))=Lib.encodeRune ((Lib.decodeL l).1:Int)++enc (runes (l.drop (Lib.decodeL l).2)):=by unfold enc;rw[List.flatMap_cons]
   rw[e];by_cases hv:(Lib.decodeL l).1=65533∧(Lib.decodeL l).2=1
   ·rw[if_pos hv];simp only[Bool.false_eq_true,iff_false];intro hc;rw[hv.1] at hc;have e3:Lib.encodeRune ((65533:Nat):Int)=[239,191,189]:=by decide
    rw[e3] at hc;have:Lib.decodeL l=(65533,3):=by
     rw[←hc,Lib.decodeL_N];simp[Lib.decodeN]
    rw[this] at hv;exact absurd hv.2 (by decide)
   ·rw[if_neg hv,Lib.encode_decode l hl hv];have:=ih (l.drop (Lib.decodeL l).2) (by rw[List.length_drop];omega);rw[←this];constructor
    ·intro h;have:=congrArg (List.drop (Lib.decodeL l).2) h;rw[List.drop_left' (by rw[List.length_take];have:=Lib.decodeL_le l hl;omega)] at this;exact this
    ·intro h;rw[h,List.take_append_drop]
theorem utf_valid (l:List UInt8):(decide ((utf (units l)).2=0)&&decide ((utf (units l)).1=l))=Lib.validD l:=by
 rw[utf_units];have:=enc_runes _ l (Nat.le_refl _);cases h:Lib.validD l
 ·rw[h] at this;simp only[decide_true,Bool.true_and];exact decide_eq_false fun hc=>by have:=this.1 hc;cases this
 ·rw[h] at this;simp only[decide_true,Bool.true_and];exact decide_eq_true (this.2 rfl)
theorem runes_len (n:Nat):∀l:List UInt8,l.length≤n→(runes l).length≤l.length:=by
 induction n with
|zero=>intro l hn;rw[List.eq_nil_of_length_eq_zero (by omega:l.length=0)];simp[runes_nil]
|succ n ih=>
  intro l hn;by_cases hl:l=[]
  ·subst hl;simp[runes_nil]
  ·have h1:=Lib.decodeL_width l;have h2:=Lib.decodeL_le l hl;rw[runes_step hl];have:=ih (l.drop (Lib.decodeL l).2) (by rw[List.length_drop];omega);rw[List.length_drop] at this;simp only[List.length_cons];omega
theorem units_le (l:List UInt8):(units l).length≤4*l.length:=by
 have h1:=runes_len _ l (Nat.le_refl _);have h2:∀r:List Nat,(r.flatMap unit).length≤4*r.length:=by
  intro r
  induction r with
 |nil=>simp
 |cons c r ih=>rw[List.flatMap_cons,List.length_append,unit_len,List.length_cons];split<;>omega
 have:=h2 (runes l);unfold units;omega
end Cm
end
section
open Go
structure Ft where
 name:List UInt8
 wide:Bool
 first:Int
 widths:List Int
 missing:Int
 names:List (List UInt8)
 maps:List Cm.Mp
namespace Fo
def signs:List (List UInt8):=[[115,112,97,99,101],[101,120,99,108,97,109],[113,117,111,116,101,100,98,108],[110,117,109,98,101,114,115,105,103,110],[100,111,108,108,97,114],[112,101,114,99,101,110,116],[97,109,112,101,114,115,97,110,100],[113,117,111,116,101,115,105,110,103,108,101],[112,97,114,101,110,108,101,102,116],[112,97,114,101,110,114,105,103,104,116],[97,115,116,101,114,105,115,107],[112,108,117,115],[99,111,109,109,97],[104,121,112,104,101,110],[112,101,114,105,111,100],[115,108,97,115,104],[122,101,114,111],[111,110,101],[116,119,111],[116,104,114,101,101],[102,111,117,114],[102,105,118,101],[115,105,120],[115,101,118,101,110],[101,105,103,104,116],[110,105,110,101],[99,111,108,111,110],[115,101,109,105,99,111,108,111,110],[108,101,115,115],[101,113,117,97,108],[103,114,101,97,116,101,114],[113,117,101,115,116,105,111,110],[97,116]]
def between:List (List UInt8):=[[98,114,97,99,107,101,116,108,101,102,116],[98,97,99,107,115,108,97,115,104],[98,114,97,99,107,101,116,114,105,103,104,116],[97,115,99,105,105,99,105,114,99,117,109],[117,110,100,101,114,115,99,111,114,101],[103,114,97,118,101]]
def last:List (List UInt8):=[[98,114,97,99,101,108,101,102,116],[98,97,114],[98,114,97,99,101,114,105,103,104,116],[97,115,99,105,105,116,105,108,100,101]]
def letters (a:Nat):List (List UInt8):=(List.range 26).map fun i=>[UInt8.ofNat (a+i)]
def usual:List (List UInt8):=List.replicate 32 []++(signs++(letters 65++(between++(letters 97++(last++List.replicate 129 [])))))
def dig (c:UInt8):Int:=if 48≤c.toNat∧c.toNat≤57 then (c.toNat:Int) - 48 else if 65≤c.toNat∧c.toNat≤70 then (c.toNat:Int) - 55 else -1
def uniG (n:Int):List UInt8→Option Int
|[]=>some n
|c::l=>if dig c < 0 then none else uniG (16*n+dig c) l
def uniR (n:Int):List UInt8:=if n=0∨(55296≤n∧n≤57343) then [] else Lib.encodeRune n
def uniK:List UInt8:=[117,110,105]
def uni (s:List UInt8):List UInt8:=if s.length=7∧s.take 3=uniK then (match uniG 0 (s.drop 3) with|none=>[]|some n=>uniR n) else []
def sign (s:List UInt8):List UInt8:=if s=[] then [] else if usual.findIdx (fun x=>decide (x=s)) < 256 then [UInt8.ofNat (usual.findIdx fun x=>decide (x=s))] else uni s
def named (s:List UInt8)(least:Nat):Bool:=decide (least≤s.length)&&decide (s.length≤127)&&s.all fun c=>decide (c≠0)
def wid (n:Int):Bool:=decide (0≤n)&&decide (n≤100000)
def room (wide:Bool):Int:=if wide then 65536 else 256
def may (f:Ft):Bool:=
 named f.name 1&&decide (0≤f.first)&&decide (f.widths.length≤4096)&&decide (f.first+f.widths.length≤room f.wide)&&wid f.missing&&f.widths.all wid &&
  (decide (f.names=[])||(!f.wide&&decide (f.names.length=256)))&&f.names.all fun s=>named s 0
def check (f:Ft):Int:=if may f=false then 1 else Cm.check f.maps f.wide
def width (f:Ft)(c:Int):Int:=if c < f.first∨(f.widths.length:Int)≤c - f.first then f.missing else f.widths.getD (c - f.first).toNat 0
def pairs:List UInt8→List Int
|a::b::t=>(256*(a.toNat:Int)+b.toNat)::pairs t
|_=>[]
def codes (f:Ft)(s:List UInt8):List Int×Int:=if f.wide=false then (s.map fun c=>(c.toNat:Int),0) else if s.length % 2≠0 then ([],3) else (pairs s,0)
def names (f:Ft):List (List UInt8):=if f.names=[] then usual else f.names
def say (f:Ft)(c:Int):List UInt8:=match Cm.find f.maps c with
|some x=>x.2
|none=>if f.wide=true∨c < 0∨((names f).length:Int)≤c then [] else sign ((names f).getD c.toNat [])
theorem usual_len:usual.length=256:=by decide +kernel
end Fo
end
end Go.Proofs.YtmkodaephgnehaaGreatDoor

namespace Go.Proofs.YtmkodaephgnehaaGreatDoor
section
open Go
structure Lx where
 off:Int
 sty:List UInt8
 pre:List UInt8
 first:Int
 deriving DecidableEq
namespace Lb
end Lb
end
end Go.Proofs.YtmkodaephgnehaaGreatDoor

namespace Go.Proofs.YtmkodaephgnehaaGreatDoor
section
open Eng Go.RowKit
abbrev BRow (v:Value)(l:List UInt8):Ent:=.row 5 1 v l.length (bytesV l)
theorem o_appB {S:Nat→Prop}{w0 w:World}{L:List Ent}{v:Value}{l m:List UInt8}{parts:Array (Nat×Value)}{n:Nat}{cs:Array Bool}{PK PK2:PKT}{K:VWP}
  (hm:∀w,(mBuildS 41 n parts).run prog w=.ok (.value (.slice (some ⟨w.heap.size,0,none⟩) m.length m.length)) (w.alloc (.cells (bytesV m).toArray 5)))
  (ho:OwnS S w0 w (BRow v l::L)) (hb:l.length+m.length≤140737488355328) (k:∀v' w',OwnS S w0 w' (BRow v' (l++m)::L)→K v' w') :
  DoX prog (mBuildS 41 n parts) w PK fun t w=>DoX prog (mB .append #[41,41] 41 cs #[v,t]) w PK2 K:=by
 refine o_new (fun b=>.slice (some ⟨b,0,none⟩) m.length m.length) (bytesV m) 5 hm ho fun nb w4 h4=>?_;refine o_append 1 Tryz.underlying41 (show elB prog 5 1 1=true by kernel_rfl) (by decide) h4 rfl (h4.sl 0 rfl 1 m.length m.length (by rw[bytesV_length,Nat.mul_one])) (bytesV_one _) (by omega) (by omega) fun v' w5 h5=>?_;refine k v' w5 ?_;have e:BRow v' (l++m)=.row 5 1 v' (l.length+m.length) (bytesV l++bytesV m):=by
  rw[BRow,bytesV_append,List.length_append]
 rw[e];exact h5.tail
theorem o_strB {S:Nat→Prop}{w0 w:World}{L:List Ent}{v:Value}{l:List UInt8}{PK:PKT}{K:VWP}(i:Nat)(ho:OwnS S w0 w L)(hi:L[i]?=some (BRow v l)) :
  DoX prog (mConv 41 9 v) w PK K=K (.string ⟨l.toArray⟩) w:=
 c_bytes (l:=l) Tryz.underlying41 Tryz.underlying5 Tryz.underlying9 (ho.slRow i hi)
end
end Go.Proofs.YtmkodaephgnehaaGreatDoor

namespace Go.Proofs.YtmkodaephgnehaaGreatDoor
section
namespace Eng
open Go.RowKit
def sel (c:Bool)(x:Value):Value:=bc c x undef
theorem sel_t {x:Value}:sel true x=x:=rfl
theorem sel_f {x:Value}:sel false x=undef:=rfl
section
variable {P:Program}{w:World}{PK:PKT}{K:VWP}
theorem g_move {v x:Value}{want:Bool}:GDo v want (fun E=>E x w) w K=K (sel (wants v want) x) w:=by
 refine propext ⟨fun h=>?_,fun h=>⟨?_⟩⟩
 ·have:=h.out;cases hw:wants v want<;>rw[hw] at this<;>exact this
 ·cases hw:wants v want<;>rw[hw] at h<;>exact h
theorem g_congr {v v':Value}{want c:Bool}{E E':(VWP)→Prop}(hv:v=v')(hc:wants v' want=c)(h:c=true→∀K0,E K0=E' K0):GDo v want E w K=GDo v' want E' w K:=by
 subst hv;refine propext ⟨fun x=>⟨?_⟩,fun x=>⟨?_⟩⟩
 ·have:=x.out;subst hc;cases hw:wants v want with
 |false=>rw[hw] at this;exact this
 |true=>rw[hw,bc_true] at this;rw[bc_true,←h hw];exact this
 ·have:=x.out;subst hc;cases hw:wants v want with
 |false=>rw[hw] at this;exact this
 |true=>rw[hw,bc_true] at this;rw[bc_true,h hw];exact this
theorem wants_t {b:Bool}:wants (.bool b) true=b:=by cases b<;>rfl
theorem wants_f {b:Bool}:wants (.bool b) false=!b:=by cases b<;>rfl
theorem wants_st {c y:Bool}:wants (sel c (.bool y)) true=(c&&y):=by cases c<;>cases y<;>rfl
theorem wants_sf {c y:Bool}:wants (sel c (.bool y)) false=(c&&!y):=by cases c<;>cases y<;>rfl
theorem b_tand {b:Bool}:(true&&b)=b:=rfl
theorem b_andt {b:Bool}:(b&&true)=b:=by cases b<;>rfl
theorem pick_and {b y:Bool}:DoX P (mPick (.bool b) (sel b (.bool y)) (.bool false)) w PK K=K (.bool (b&&y)) w:=by
 rw[p_pick];cases b<;>rfl
theorem pick_or {b y:Bool}:DoX P (mPick (.bool b) (.bool true) (sel (!b) (.bool y))) w PK K=K (.bool (b||y)) w:=by
 rw[p_pick];cases b<;>rfl
theorem run_eq_bool {T:TypeId}{a b:Bool}(h:P.underlying T=some .bool):(Op.equal T (.bool a) (.bool b)).run P w=.ok (a==b) w:=by
 show (Op.equalIn (9999+1) T (.bool a) (.bool b)).run P w=_;rw[Op.equalIn];simp[run_underlying h]
theorem e_bool {T:TypeId}{xo yo:Operand}{a b:Bool}(h:P.underlying T=some .bool):DoX P (mEq .eql T xo yo (.bool a) (.bool b)) w PK K=K (.bool (a==b)) w:=mv_do (by simp[eqGuard,binOp,run_eq_bool h])
end
def gs:=And.intro @g_move (And.intro @wants_t (And.intro @wants_f (And.intro @pick_and (And.intro @pick_or (And.intro @sel_t (And.intro @sel_f (And.intro @wants_st (And.intro @wants_sf (And.intro @b_tand @b_andt)))))))))
end Eng
end
end Go.Proofs.YtmkodaephgnehaaGreatDoor





namespace Go.Proofs.YtmkodaephgnehaaGreatDoor
section
open Eng Go.RowKit
theorem c_told {P:Program}{f:Nat}{args:Array Value}{w0 w:World}{L:List Ent}{PK:PKT}{K:VWP}{x y:Value}(h:Ret P f args w (fun v w'=>v=x∧Below w.heap.size w w'))(hx:x=y)(ho:Own w0 w L)
  (k:∀w',Own w0 w' L→K y w'):CallX P f args w PK K:=by
 refine c_ret h ?_;rintro v w' ⟨rfl,hb⟩;rw[hx];exact k _ (ho.grow hb)
end
end Go.Proofs.YtmkodaephgnehaaGreatDoor


namespace Go.Proofs.YtmkodaephgnehaaGreatDoor
section
namespace Eng
open Go.RowKit
def aggN (P:Program)(T:TypeId):Option Nat:=
 match P.underlying T with
|some (.struct _)|some (.array _ _)=>(P.info? T).map (·.size)
|_=>none
def AtV (P:Program)(w:World)(T:TypeId)(a:Addr)(v:Value):Prop:=(loadVar T a).run P w=.ok v w
section
variable {S:Nat→Prop}{P:Program}{w:World}{PK:PKT}{K:VWP}
theorem AtV.agg {T:TypeId}{n:Nat}(ht:aggN P T=some n){b off:Nat}{cs:List Value}(hl:cs.length=n)(h:∀j v,cs[j]?=some v→w.cell? ⟨b,off+j,none⟩=some v):AtV P w T ⟨b,off,none⟩ (.agg cs.toArray):=by
 have hc:=run_loadCells_list (P:=P) w ⟨b,off,none⟩ cs (fun j v hj=>by rw[add_none];exact h j v hj);unfold aggN at ht;subst hl;unfold AtV;split at ht
 ·rename_i fs hu
  obtain⟨i,hi,h1⟩:=Option.map_eq_some_iff.1 ht;simp[loadVar,isAgg,run_underlying hu,sizeOf,typeInfo,hi,h1,hc]
 ·rename_i k e hu
  obtain⟨i,hi,h1⟩:=Option.map_eq_some_iff.1 ht;simp[loadVar,isAgg,run_underlying hu,sizeOf,typeInfo,hi,h1,hc]
 ·cases ht
theorem run_load_at {T:TypeId}{a:Addr}{v:Value}(h:AtV P w T a v):(mLoad T (.pointer (some a))).run P w=.ok (.value v) w:=by
 unfold AtV at h;exact mv_run (by simp[Instr.loadAt,Instr.sureAddr,h])
theorem l_at {T:TypeId}{a:Addr}{v:Value}(h:AtV P w T a v):DoX P (mLoad T (.pointer (some a))) w PK K=K v w:=do_eq (run_load_at h)
theorem OwnS.agg {w0:World}{L:List Ent}(ho:OwnS S w0 w L)(i:Nat){b:Nat}{cs:List Value}{E T:TypeId}(hi:L[i]?=some (.cells b cs E))(ht:aggN P T=some cs.length):AtV P w T ⟨b,0,none⟩ (.agg cs.toArray):=
 AtV.agg ht rfl fun j v hj=>by rw[Nat.zero_add];exact ho.cell i hi j hj
theorem run_store_agg {T:TypeId}{b:Nat}{cs new:List Value}{E:TypeId}(hs:(P.info? T).map (·.size)=some new.length)(hv:∀v∈new,v.oneCell'=true)(hl:cs.length=new.length)(h:w.heap[b]?=some (.cells cs.toArray E (0,0))) :
  (Instr.storeAt T (.pointer (some ⟨b,0,none⟩)) (.agg new.toArray)).run P w=.ok () (w.setRow b new.toArray):=by
 have hst:=run_storeCells_at P b 0 E new 0 cs.toArray w h (by simp;omega) hv;obtain⟨i,hi,h1⟩:=Option.map_eq_some_iff.1 hs;have hd:cs.toArray.toList.drop new.length=[]:=List.drop_eq_nil_of_le (by rw[←hl];exact Nat.le_refl _);simp only[Nat.add_zero,Nat.zero_add,List.take_zero,List.nil_append,hd,List.append_nil] at hst;have hc:(Value.agg new.toArray).cells=new.toArray:=rfl;simp[Instr.storeAt,Instr.sureAddr,storeVar,hc,sizeOf,typeInfo,hi,h1,hst]
theorem o_put {w0:World}{L:List Ent}(i:Nat){T:TypeId}{b:Nat}{cs new:List Value}{E:TypeId}(ho:OwnS S w0 w L)(hi:L[i]?=some (.cells b cs E))(hs:(P.info? T).map (·.size)=some new.length)(hv:∀v∈new,v.oneCell'=true)(hl:cs.length=new.length)
  (k:∀w',OwnS S w0 w' (L.set i (.cells b new E))→K undef w'):DoX P (mStore T (.pointer (some ⟨b,0,none⟩)) (.agg new.toArray)) w PK K:=
 do_skip (mu_run (run_store_agg hs hv hl (ho.at_ i hi))) (k _ (setRow_own ho i hi _))
theorem ret_v1 {r1:RV}{v1:Value}{K:Ending→World→Prop}(h1:r1.read.run P w=.ok v1 w)(k:K (.returned v1) w):RetX P [r1] w K:=
 ⟨_,by simp[resRun,h1],k⟩
theorem ret_v2 {r1 r2:RV}{v1 v2:Value}{K:Ending→World→Prop}(h1:r1.read.run P w=.ok v1 w)(h2:r2.read.run P w=.ok v2 w)(k:K (.returned (.tuple #[v1,v2])) w):RetX P [r1,r2] w K:=
 ⟨_,by simp[resRun,h1,h2],k⟩
theorem ret_v3 {r1 r2 r3:RV}{v1 v2 v3:Value}{K:Ending→World→Prop}(h1:r1.read.run P w=.ok v1 w)(h2:r2.read.run P w=.ok v2 w)(h3:r3.read.run P w=.ok v3 w)(k:K (.returned (.tuple #[v1,v2,v3])) w):RetX P [r1,r2,r3] w K:=
 ⟨_,by simp[resRun,h1,h2,h3],k⟩
theorem rv_cell {T:TypeId}{a:Addr}{v:Value}(h:AtV P w T a v):(RV.cell (.pointer (some a)) T).read.run P w=.ok v w:=by
 unfold AtV at h;simp[RV.read,asAddr,h]
theorem rv_val {v:Value}:(RV.val v).read.run P w=.ok v w:=by simp[RV.read]
end
end Eng
end
section
namespace Eng
open Go.RowKit
section
variable {S:Nat→Prop}{P:Program}{w w0:World}{L:List Ent}{PK:PKT}{K:VWP}
theorem OwnS.join {w':World}{L':List Ent}(h:OwnS S w0 w L)(k:OwnS NoB w w' L'):OwnS S w0 w' (L'++L):=by
 have h':=h.grow k.below;refine⟨h'.grew,fun e he=>?_,List.pairwise_append.2 ⟨k.apart,h'.apart,fun e he f hf b hb hb'=>?_⟩⟩
 ·rcases List.mem_append.1 he with he|he
  ·obtain⟨a,b⟩:=k.all e he;refine⟨a,fun j hj=>.inr ?_⟩;rcases b j hj with h1|h1
   ·exact h1.elim
   ·exact Nat.le_trans h.size h1
  ·exact h'.all e he
 ·have h2:=f.lt (h.mem hf) b hb';rcases (k.all e he).2 b hb with h1|h1
  ·exact h1
  ·omega
end
end Eng
end
end Go.Proofs.YtmkodaephgnehaaGreatDoor

namespace Go.Proofs.YtmkodaephgnehaaGreatDoor
section
namespace Eng
open Go.RowKit
section
variable {P:Program}{C:World→Prop}{K:Value→Prop}
theorem gq_tt {E:(Value→Prop)→Prop}:GQ (.bool true) true E K=E K:=propext ⟨fun x=>x.out,fun x=>⟨x⟩⟩
theorem gq_ft {E:(Value→Prop)→Prop}:GQ (.bool false) true E K=K undef:=propext ⟨fun x=>x.out,fun x=>⟨x⟩⟩
theorem gq_ff {E:(Value→Prop)→Prop}:GQ (.bool false) false E K=E K:=propext ⟨fun x=>x.out,fun x=>⟨x⟩⟩
theorem gq_tf {E:(Value→Prop)→Prop}:GQ (.bool true) false E K=K undef:=propext ⟨fun x=>x.out,fun x=>⟨x⟩⟩
theorem gq_un {want:Bool}{E:(Value→Prop)→Prop}:GQ undef want E K=K undef:=propext ⟨fun x=>x.out,fun x=>⟨x⟩⟩
def gq:=And.intro @gq_tt (And.intro @gq_ft (And.intro @gq_ff (And.intro @gq_tf @gq_un)))
theorem q_add {T:TypeId}{k:IntKind}{a b:Int}(h:K (.int k (k.wrap (a+b)))):QDo P C (mBin .add T (.int k a) (.int k b)) K:=q_do _ (fun _=>r_add) h
theorem q_lss {T:TypeId}{k:IntKind}{a b:Int}(h:K (.bool (decide (a < b)))):QDo P C (mBin .lss T (.int k a) (.int k b)) K:=q_do _ (fun _=>mv_run (by simp[binOp,Op.intCmp])) h
theorem q_leq {T:TypeId}{k:IntKind}{a b:Int}(h:K (.bool (decide (a≤b)))):QDo P C (mBin .leq T (.int k a) (.int k b)) K:=q_do _ (fun _=>mv_run (by simp[binOp,Op.intCmp])) h
theorem q_gtr {T:TypeId}{k:IntKind}{a b:Int}(h:K (.bool (decide (b < a)))):QDo P C (mBin .gtr T (.int k a) (.int k b)) K:=q_do _ (fun _=>mv_run (by simp[binOp,Op.intCmp])) h
theorem q_eq {T:TypeId}{xo yo:Operand}{k:IntKind}{a b:Int}(h:K (.bool (decide (a=b)))):QDo P C (mEq .eql T xo yo (.int k a) (.int k b)) K:=q_do _ (fun _=>mv_run (by simp[eqGuard,binOp,Op.intCmp,int_beq])) h
theorem q_ne {T:TypeId}{xo yo:Operand}{k:IntKind}{a b:Int}(h:K (.bool (decide (a≠b)))):QDo P C (mEq .neq T xo yo (.int k a) (.int k b)) K:=q_do _ (fun _=>mv_run (by simp[eqGuard,binOp,Op.intCmp,int_bne])) h
theorem q_pick {c:Bool}{a b:Value}(h:K (if c then a else b)):QDo P C (mPick (.bool c) a b) K:=q_do _ (fun _=>by simp[mPick,asBool]) h
theorem q_pt {a b:Value}(h:K a):QDo P C (mPick (.bool true) a b) K:=q_pick h
theorem q_pf {a b:Value}(h:K b):QDo P C (mPick (.bool false) a b) K:=q_pick h
theorem q_sne {T:TypeId}{xo yo:Operand}{a b:List UInt8}(h:K (.bool (decide (a≠b)))):QDo P C (mEq .neq T xo yo (.string ⟨a.toArray⟩) (.string ⟨b.toArray⟩)) K:=by
 refine q_do _ (fun _=>mv_run ?_) h;have e:(a==b)=decide (a=b):=by by_cases h:a=b<;>simp[h]
 simp[eqGuard,binOp,Op.stringOp,str_toList,e]
theorem q_seq {T:TypeId}{xo yo:Operand}{a b:List UInt8}(h:K (.bool (decide (a=b)))):QDo P C (mEq .eql T xo yo (.string ⟨a.toArray⟩) (.string ⟨b.toArray⟩)) K:=by
 refine q_do _ (fun _=>mv_run ?_) h;have e:(a==b)=decide (a=b):=by by_cases h:a=b<;>simp[h]
 simp[eqGuard,binOp,Op.stringOp,str_toList,e]
theorem run_c_int {w:World}{S D:TypeId}{k k':IntKind}{n:Int}(hs:(P.underlying S).isSome=true)(hd:P.underlying D=some (.int k')):(mConv S D (.int k n)).run P w=.ok (.value (.int k' (k'.wrap n))) w:=by
 cases h:P.underlying S with
|none=>rw[h] at hs;cases hs
|some d=>exact mv_run (by simp[convert,run_underlying h,run_underlying hd,Conv.intToInt])
end
end Eng
end
section
namespace Eng
open Go.RowKit
theorem OwnS.perm {S:Nat→Prop}{w0 w:World}{L L':List Ent}(h:OwnS S w0 w L)(hp:L.Perm L'):OwnS S w0 w L':=
 ⟨h.grew,fun e he=>h.all e (hp.mem_iff.2 he),(hp.pairwise_iff (fun {x y} hxy k hy hx=>hxy k hx hy)).1 h.apart⟩
theorem OwnS.front {S:Nat→Prop}{w0 w:World}{A B C:List Ent}(h:OwnS S w0 w (A++(B++C))):OwnS S w0 w (B++(A++C)):=
 h.perm (by rw[←List.append_assoc,←List.append_assoc];exact List.Perm.append_right C List.perm_append_comm)
end Eng
end
section
namespace Eng
open Go.RowKit
def Ent.urow (T:TypeId)(sz:Nat)(v:Value)(n:Nat)(xs:List Value):Ent:=
 ⟨fun k=>v.ownBlock=some k,fun w=>w.ownsRow 0 T sz v n xs,fun {w w'} h k=>by
  refine⟨h.1,?_⟩;rcases h.2 with hn|⟨g,cap,cur,rfl,hb,hgg,rest⟩
  ·exact .inl hn
  ·exact .inr ⟨g,cap,cur,rfl,hb,(k g rfl).trans hgg,rest⟩,fun h k hk=>(World.ownsRowF.lt (World.ownsRowF_of h) k hk).2⟩
section
variable {S:Nat→Prop}{P:Program}{w:World}{PK:PKT}{K:VWP}
theorem urow_row {T:TypeId}{sz:Nat}{v:Value}{n:Nat}{xs:List Value}(h:(Ent.urow T sz v n xs).is w):(Ent.row T sz v n xs).is w:=World.ownsRowF_of h
theorem Sl.urow {T:TypeId}{sz:Nat}{v:Value}{n:Nat}{xs:List Value}(h:(Ent.urow T sz v n xs).is w):Sl w v sz n xs:=Sl.row (urow_row h)
theorem OwnS.slU {w0:World}{L:List Ent}(ho:OwnS S w0 w L)(i:Nat){T:TypeId}{sz:Nat}{v:Value}{n:Nat}{xs:List Value}(hi:L[i]?=some (.urow T sz v n xs)):Sl w v sz n xs:=Sl.urow (ho.at_ i hi)
theorem OwnS.nilU {w0:World}{L:List Ent}(ho:OwnS S w0 w L)(E:TypeId)(sz:Nat):OwnS S w0 w (.urow E sz (.slice none 0 0) 0 []::L):=by
 refine⟨ho.grew,fun e he=>?_,.cons (fun f hf k hk=>by simp[Ent.urow,Value.ownBlock] at hk) ho.apart⟩;rcases List.mem_cons.1 he with rfl|he
 ·exact⟨⟨by simp,.inl ⟨rfl,rfl⟩⟩,fun k hk=>by simp[Ent.urow,Value.ownBlock] at hk⟩
 ·exact ho.all e he
theorem OwnS.toU {w0:World}{L:List Ent}{b:Nat}{cs:List Value}{E:TypeId}(ho:OwnS S w0 w (.cells b cs E::L))(sz n cap:Nat)(hl:cs.length=cap*sz)(hn:n≤cap)(hc:cap≤9223372036854775807) :
  OwnS S w0 w (.urow E sz (.slice (some ⟨b,0,none⟩) n cap) n (cs.take (n*sz))::L):=by
 refine⟨ho.grew,fun e he=>?_,?_⟩
 ·rcases List.mem_cons.1 he with rfl|he
  ·refine⟨⟨by rw[List.length_take,hl,Nat.min_eq_left (Nat.mul_le_mul_right _ hn)],.inr ⟨b,cap,cs.toArray,rfl,Nat.zero_le _,ho.at_ 0 rfl,hn,by simp only[maxLen];omega,by simpa using hl,by simp⟩⟩,fun k hk=>?_⟩;simp only[Ent.urow,Value.ownBlock,Option.some.injEq] at hk;exact (ho.all (.cells b cs E) (by simp)).2 k hk.symm
  ·exact ho.all e (by simp[he])
 ·refine .cons (fun f hf k hk=>?_) (List.pairwise_cons.1 ho.apart).2;simp only[Ent.urow,Value.ownBlock,Option.some.injEq] at hk;exact (List.pairwise_cons.1 ho.apart).1 f hf k hk.symm
theorem run_append_anyU {T E U:TypeId}{cs:Array Bool}{v v2:Value}{sz bytes n m:Nat}{xs news:List Value}(ht:P.underlying T=some (.slice E))(he:elB P E sz bytes=true)(hsz:0 < sz)
  (hown:w.ownsRow 0 E sz v n xs) (hs:Sl w v2 sz m news) (h1:∀u∈news,u.oneCell'=true) (hb:(n+m)*bytes≤140737488355328) (hb2:n+m≤140737488355328) :
  ∃v' w',(mB .append #[T,T] U cs #[v,v2]).run P w=.ok (.value v') w'∧Turn (.urow E sz v n xs) (.urow E sz v' (n+m) (xs++news)) w w':=by
 obtain⟨v',w',r,t⟩:=run_append_any (P:=P) (U:=U) (cs:=cs) ht he hsz (World.ownsRowF_of hown) hs h1 hb hb2;refine⟨v',w',r,t.grew,?_,t.new⟩;obtain⟨i,z,hi,hz,hi1,hi2,hz1⟩:=elB_spec he;obtain⟨hl,a,cap,rfl,hn,hc⟩:=hs;have hmx:n+m≤maxLen:=by simp only[maxLen];omega
 cases a with
|some p=>
  have hh:∀j u,news[j]?=some u→w.cell? (p.add j)=some u:=by
   intro j u hj;have hlt:j < news.length:=(List.getElem?_eq_some_iff.1 hj).1;have hm:0 < m:=by
    rcases Nat.eq_zero_or_pos m with h0|h0
    ·subst h0;simp at hl;rw[hl] at hlt;simp at hlt
    ·exact h0
   obtain⟨hsp,hcell⟩:=hc p rfl;have:=hsp hm;obtain⟨b,off,spot⟩:=p;simp only at this hcell;subst this;rw[add_none];exact hcell j u hj
  obtain⟨v2,w2,r1,r2,r3,r4⟩:=run_append_own (P:=P) w 0 T U E i z sz bytes ht hi hz hi1 hi2 hz1 hsz v n xs hown p m cap news hl hh h1 hmx hb (Nat.zero_le _);have:(mB .append #[T,T] U cs #[v,.slice (some p) m cap]).run P w=.ok (.value v2) w2:=by simp[mB,builtin,r1]
  rw[this] at r;cases r;exact r2
|none=>
  have h0:=hn rfl;subst h0;have hnil:news=[]:=List.eq_nil_of_length_eq_zero (by simpa using hl);subst hnil;have:(mB .append #[T,T] U cs #[v,.slice none 0 cap]).run P w=.ok (.value v) w:=by
   rcases hown.2 with ⟨rfl,rfl⟩|⟨g,cp,cur,rfl,_,_,hnc,_⟩
   ·simp[mB,builtin,Builtin.append_,run_underlying ht,sizeOf,typeInfo,hi,Builtin.lenOf,Builtin.firstCells]
   ·simp[mB,builtin,Builtin.append_,run_underlying ht,sizeOf,typeInfo,hi,Builtin.lenOf,Builtin.firstCells,hnc,storeCells]
  rw[this] at r;cases r;rw[List.append_nil];exact hown
theorem o_appendU {w0:World}{L:List Ent}(i:Nat){T E U:TypeId}{cs:Array Bool}{v v2:Value}{sz bytes n m:Nat}{xs news:List Value}(ht:P.underlying T=some (.slice E))(he:elB P E sz bytes=true)(hsz:0 < sz)
  (ho:OwnS S w0 w L) (hi:L[i]?=some (.urow E sz v n xs)) (hs:Sl w v2 sz m news) (h1:∀u∈news,u.oneCell'=true) (hb:(n+m)*bytes≤140737488355328) (hb2:n+m≤140737488355328)
  (k:∀v' w',OwnS S w0 w' (L.set i (.urow E sz v' (n+m) (xs++news)))→K v' w'):DoX P (mB .append #[T,T] U cs #[v,v2]) w PK K:=by
 obtain⟨v',w',r,t⟩:=run_append_anyU (cs:=cs) (U:=U) ht he hsz (ho.at_ i hi) hs h1 hb hb2;exact do_ok r (k _ _ (ho.turn i hi t))
theorem urow_open {E:TypeId}{sz n:Nat}{v:Value}{xs:List Value}(h:(Ent.urow E sz v n xs).is w)(hn:0 < n):∃g cap,v=.slice (some ⟨g,0,none⟩) n cap:=by
 rcases (show w.ownsRow 0 E sz v n xs from h).2 with ⟨_,h0⟩|⟨g,cap,cur,rfl,_⟩
 ·omega
 ·exact⟨g,cap,rfl⟩
theorem run_store_in {T:TypeId}{g off:Nat}{cur:Array Value}{E:TypeId}{u:Value}{new:List Value}(hc:u.cells=new.toArray)(hs:(P.info? T).map (·.size)=some new.length)(h1:∀x∈new,x.oneCell'=true)
  (hg:w.heap[g]?=some (.cells cur E (0,0))) (hl:off+new.length≤cur.size) :
  (Instr.storeAt T (.pointer (some ⟨g,off,none⟩)) u).run P w=.ok () (w.setRow g (cur.toList.take off++new++cur.toList.drop (off+new.length)).toArray):=by
 have hst:=run_storeCells_at P g off E new 0 cur w hg (by simpa using hl) h1;obtain⟨i,hi,h2⟩:=Option.map_eq_some_iff.1 hs;simp only[Nat.add_zero] at hst;simp[Instr.storeAt,Instr.sureAddr,storeVar,hc,sizeOf,typeInfo,hi,h2,hst]
theorem o_storeU {w0:World}{L:List Ent}(i:Nat){T E:TypeId}{g off n cap sz:Nat}{xs new:List Value}{u:Value}(ho:OwnS S w0 w L)(hi:L[i]?=some (.urow E sz (.slice (some ⟨g,0,none⟩) n cap) n xs))
  (hc:u.cells=new.toArray) (hs:(P.info? T).map (·.size)=some new.length) (h1:∀x∈new,x.oneCell'=true) (hl:off+new.length≤n*sz)
  (k:∀w',OwnS S w0 w' (L.set i (.urow E sz (.slice (some ⟨g,0,none⟩) n cap) n (xs.take off++new++xs.drop (off+new.length))))→K undef w'):DoX P (mStore T (.pointer (some ⟨g,off,none⟩)) u) w PK K:=by
 have hown:w.ownsRow 0 E sz (.slice (some ⟨g,0,none⟩) n cap) n xs:=ho.at_ i hi;rcases hown.2 with ⟨h0,_⟩|⟨g',cap',cur,he,hb,hg,hnc,hcm,hcs,htake⟩
 ·cases h0
 cases he;have hle:n*sz≤cur.size:=by rw[hcs];exact Nat.mul_le_mul_right _ hnc
 refine do_skip (mu_run (run_store_in hc hs h1 hg (by omega))) (k _ ?_);refine ho.put i hi (w':=w.setRow g _) ⟨rfl,rfl,rfl,by simp[World.setRow],fun k _ hk=>setRow_other w g k _ (fun e=>hk (by simp[Ent.urow,Value.ownBlock,e]))⟩ _ ?_ (fun k hk=>.inl hk);have hxl:=hown.1;have hcl:cur.toList.length=cap*sz:=by simpa using hcs
 refine⟨by simp only[List.length_append,List.length_take,List.length_drop];omega,.inr ⟨g,cap,_,rfl,hb,setRow_heap w g cur _ E (0,0) hg,hnc,hcm,?_,?_⟩⟩
 ·simp only[List.size_toArray,List.length_append,List.length_take,List.length_drop];omega
 ·subst htake;rw[List.take_take,Nat.min_eq_left (by omega)];simp only[List.append_assoc];rw[List.take_append,List.take_append,List.take_of_length_le (l:=cur.toList.take off) (by simp;omega),List.take_of_length_le (l:=new) (by simp;omega)]
  congr 2
  rw[List.length_take,Nat.min_eq_left (by omega),List.drop_take]
  congr 1
  omega
end
end Eng
end
end Go.Proofs.YtmkodaephgnehaaGreatDoor

namespace Go.Proofs.YtmkodaephgnehaaGreatDoor
section
open Eng Go.RowKit Go.ChangeShapes Go.WideShapes
inductive Ob where
|mk (k n g:Int) (s:List UInt8) (keys:List (List UInt8)) (kids:List Ob)
namespace Ob
def k:Ob→Int|.mk k _ _ _ _ _=>k
def n:Ob→Int|.mk _ n _ _ _ _=>n
def g:Ob→Int|.mk _ _ g _ _ _=>g
def s:Ob→List UInt8|.mk _ _ _ s _ _=>s
def keys:Ob→List (List UInt8)|.mk _ _ _ _ keys _=>keys
def kids:Ob→List Ob|.mk _ _ _ _ _ kids=>kids
 mutual
def wt:Ob→Nat
|.mk _ _ _ s keys kids=>6+s.length+Pl.tot keys+wts kids
def wts:List Ob→Nat
|[]=>0
|o::os=>wt o+wts os
end
end Ob
def SlA (A:Nat→Prop)(w:World)(v:Value)(sz n:Nat)(cs:List Value):Prop:=Sl w v sz n cs∧(∀p l c,v=.slice (some p) l c→0 < n→A p.block)∧∀a l c,v=.slice a l c→l≤c
 mutual
def OV (A:Nat→Prop)(w:World):Value→Ob→Prop
|v,.mk k n g s keys kids=>∃vk vc cs,v=.agg #[.int .i64 k,.int .i64 n,.int .i64 g,.string ⟨s.toArray⟩,vk,vc]∧SlA A w vk 1 keys.length (strsV keys)∧SlA A w vc 6 kids.length cs∧OVs A w cs kids
def OVs (A:Nat→Prop)(w:World):List Value→List Ob→Prop
|cs,[]=>cs=[]
|cs,o::os=>∃(a rest:List Value),cs=a++rest∧a.length=6∧OV A w (.agg a.toArray) o∧OVs A w rest os
end
def Kept (A:Nat→Prop)(w w':World):Prop:=∀b,A b→w'.heap[b]?=w.heap[b]?
theorem cell_kept {A:Nat→Prop}{w w':World}(h:Kept A w w'){p:Addr}{v:Value}(hp:A p.block)(hc:w.cell? p=some v):w'.cell? p=some v:=by
 have:=h p.block hp;unfold World.cell? at hc ⊢;rw[this];exact hc
theorem SlA.kept {A:Nat→Prop}{w w':World}{v:Value}{sz n:Nat}{cs:List Value}(h:SlA A w v sz n cs)(hk:Kept A w w'):SlA A w' v sz n cs:=by
 obtain⟨⟨hl,a,cap,rfl,h1,h2⟩,hA,hC⟩:=h;refine⟨⟨hl,a,cap,rfl,h1,fun p hp=>?_⟩,hA,hC⟩;obtain⟨h3,h4⟩:=h2 p hp;refine⟨h3,fun j u hj=>?_⟩;have hn:0 < n:=by
  rcases Nat.eq_zero_or_pos n with h|h
  ·subst h;rw[Nat.zero_mul] at hl;have:=(List.getElem?_eq_some_iff.1 hj).1;omega
  ·exact h
 exact cell_kept hk (hA p n cap (by rw[hp]) hn) (h4 j u hj)
 mutual
theorem OV.kept {A:Nat→Prop}{w w':World}(hk:Kept A w w'):∀(o:Ob) (v:Value),OV A w v o→OV A w' v o
|.mk k n g s keys kids,v,h=>by
  rw[OV] at h ⊢;obtain⟨vk,vc,cs,hv,h1,h2,h3⟩:=h;exact⟨vk,vc,cs,hv,h1.kept hk,h2.kept hk,OVs.kept hk kids cs h3⟩
theorem OVs.kept {A:Nat→Prop}{w w':World}(hk:Kept A w w'):∀(os:List Ob) (cs:List Value),OVs A w cs os→OVs A w' cs os
|[],cs,h=>by rw[OVs] at h ⊢;exact h
|o::os,cs,h=>by
  rw[OVs] at h ⊢;obtain⟨a,rest,he,hl,h1,h2⟩:=h;exact⟨a,rest,he,hl,OV.kept hk o _ h1,OVs.kept hk os rest h2⟩
end
 mutual
theorem OV.mono {A B:Nat→Prop}{w:World}(hAB:∀b,A b→B b):∀(o:Ob) (v:Value),OV A w v o→OV B w v o
|.mk k n g s keys kids,v,h=>by
  rw[OV] at h ⊢;obtain⟨vk,vc,cs,hv,h1,h2,h3⟩:=h;exact⟨vk,vc,cs,hv,⟨h1.1,fun p l c e hn=>hAB _ (h1.2.1 p l c e hn),h1.2.2⟩,⟨h2.1,fun p l c e hn=>hAB _ (h2.2.1 p l c e hn),h2.2.2⟩,OVs.mono hAB kids cs h3⟩
theorem OVs.mono {A B:Nat→Prop}{w:World}(hAB:∀b,A b→B b):∀(os:List Ob) (cs:List Value),OVs A w cs os→OVs B w cs os
|[],cs,h=>by rw[OVs] at h ⊢;exact h
|o::os,cs,h=>by
  rw[OVs] at h ⊢;obtain⟨a,rest,he,hl,h1,h2⟩:=h;exact⟨a,rest,he,hl,OV.mono hAB o _ h1,OVs.mono hAB os rest h2⟩
end
theorem OVs.get {A:Nat→Prop}{w:World}:∀(os:List Ob) (cs:List Value) (i:Nat) (hi:i < os.length),OVs A w cs os→∃a:List Value,a.length=6∧OV A w (.agg a.toArray) os[i]∧∀j v,a[j]?=some v→cs[i*6+j]?=some v
|[],cs,i,hi,h=>by simp at hi
|o::os,cs,0,hi,h=>by
  rw[OVs] at h;obtain⟨a,rest,rfl,hl,h1,h2⟩:=h;refine⟨a,hl,h1,fun j v hj=>?_⟩;rw[Nat.zero_mul,Nat.zero_add,List.getElem?_append_left (List.getElem?_eq_some_iff.1 hj).1];exact hj
|o::os,cs,i+1,hi,h=>by
  rw[OVs] at h;obtain⟨a,rest,rfl,hl,h1,h2⟩:=h;obtain⟨b,hb,hv,hc⟩:=OVs.get os rest i (by simpa using hi) h2;refine⟨b,hb,hv,fun j v hj=>?_⟩;rw[List.getElem?_append_right (by omega),hl,show (i+1)*6+j - 6=i*6+j by omega];exact hc j v hj
theorem OVs.nil {A:Nat→Prop}{w:World}:OVs A w [] []:=by rw[OVs]
theorem SlA.of_cells {A:Nat→Prop}{W:World}{a:Addr}{len cap sz:Nat}{cs:List Value}(hsz:0 < sz)(hl:cs.length=len*sz)(hc:∀j u,cs[j]?=some u→W.cell? (a.add j)=some u)(hA:∀b,b < W.heap.size→A b)(hlc:len≤cap):SlA A W (.slice (some a) len cap) sz len cs:=by
 have plain:0 < len→a.spot=none∧a.block < W.heap.size:=by
  intro hn;have h0:0 < cs.length:=by rw[hl];exact Nat.mul_pos hn hsz
  have h1:=hc 0 cs[0] (List.getElem?_eq_getElem h0);have e0:a.add 0=a:=by simp[Addr.add]
  rw[e0] at h1;unfold World.cell? at h1;split at h1
  ·rename_i hb
   have hlt:=lt_of_get hb;split at h1
   ·cases h1
   ·rename_i hh;exact⟨by simpa using hh,hlt⟩
  ·cases h1
 refine⟨⟨hl,some a,cap,rfl,(fun h=>by cases h),fun p hp=>?_⟩,fun p l c e hn=>?_,fun a' l c e=>by injection e with _ e2 e3;omega⟩
 ·cases hp;refine⟨fun h=>(plain h).1,fun j u hj=>?_⟩;have hn:0 < len:=by
   rcases Nat.eq_zero_or_pos len with h|h
   ·subst h;rw[Nat.zero_mul] at hl;have:=(List.getElem?_eq_some_iff.1 hj).1;omega
   ·exact h
  have h1:=hc j u hj;obtain⟨b,off,spot⟩:=a;have:=(plain hn).1;simp only at this;subst this;rw[show (⟨b,off,none⟩:Addr).add j=⟨b,off+j,none⟩ from add_none b off j] at h1;exact h1
 ·injection e with e _ _
  cases e;exact hA _ (plain hn).2
theorem SlA.nil (A:Nat→Prop)(w:World)(sz cap:Nat):SlA A w (.slice none 0 cap) sz 0 []:=⟨Sl.nil w sz cap,(fun p l c e _=>by injection e with e _ _;cases e),fun a l c e=>by injection e with _ e2 e3;omega⟩
end
section
open Eng Go.RowKit Go.ChangeShapes Go.WideShapes
theorem bulkAll_append {H:Type}:∀(a b:List (DataW H)),Rows.uptoBulkAll (a++b)=Rows.uptoBulkAll a+Rows.uptoBulkAll b
|[],b=>by simp[Rows.uptoBulkAll]
|x::a,b=>by rw[List.cons_append,Rows.uptoBulkAll,bulkAll_append a b,Rows.uptoBulkAll];omega
theorem OVs.snoc {A:Nat→Prop}{w:World}{a:List Value}{o:Ob}(hl:a.length=6)(ho:OV A w (.agg a.toArray) o):∀(os:List Ob) (cs:List Value),OVs A w cs os→OVs A w (cs++a) (os++[o])
|[],cs,h=>by
  rw[OVs] at h;subst h;rw[List.nil_append,List.nil_append,OVs];exact⟨a,[],by simp,hl,ho,OVs.nil⟩
|p::os,cs,h=>by
  rw[OVs] at h;obtain⟨b,rest,rfl,hb,h1,h2⟩:=h;rw[List.cons_append,OVs];exact⟨b,rest++a,by simp,hb,h1,OVs.snoc hl ho os rest h2⟩
theorem addr_add (a:Addr)(m n:Nat):(a.add m).add n=a.add (m+n):=by
 unfold Addr.add;by_cases hm:m=0
 ·subst hm;simp
 ·by_cases hn:n=0
  ·subst hn;simp[hm]
  ·have:¬(m+n=0):=by omega
   simp[hm,hn,Nat.add_assoc]
section
variable {H:Type}{enc:TypeId×Value→H}{W:World}{sp:Nat→Bool}{held:Bool}
abbrev InW (W:World):Nat→Prop:=fun b=>b < W.heap.size
end
end
section
namespace Eng
open Go.RowKit
structure Mem where
 A:Nat→Prop
 w:World
 lt:∀b,A b→b < w.heap.size
def Mem.has (M:Mem)(w:World):Prop:=∀b,M.A b→w.heap[b]?=M.w.heap[b]?
structure Mem.le (M N:Mem):Prop where
 A:∀b,M.A b→N.A b
 has:M.has N.w
def Mem.all (w:World):Mem:=⟨fun b=>b < w.heap.size,w,fun _ h=>h⟩
theorem Mem.all_has (w:World):(Mem.all w).has w:=fun _ _=>rfl
theorem Mem.le_refl (M:Mem):M.le M:=⟨fun _ h=>h,fun _ _=>rfl⟩
theorem Mem.le_trans {M N O:Mem}(h:M.le N)(k:N.le O):M.le O:=⟨fun b hb=>k.A b (h.A b hb),fun b hb=>(k.has b (h.A b hb)).trans (h.has b hb)⟩
theorem Mem.has_of {M N:Mem}{w:World}(h:M.le N)(k:N.has w):M.has w:=fun b hb=>(k b (h.A b hb)).trans (h.has b hb)
theorem Mem.bd {M:Mem}{w:World}(h:M.has w){b:Nat}(hb:M.A b):b < w.heap.size:=by
 have h1:=h b hb;rw[Array.getElem?_eq_getElem (M.lt b hb)] at h1;exact lt_of_get h1
theorem Mem.has_below {M:Mem}{w w':World}(h:M.has w)(k:Below w.heap.size w w'):M.has w':=fun b hb=>(k.block b (Mem.bd h hb)).trans (h b hb)
def Ent.mem (M:Mem):Ent:=⟨M.A,M.has,fun h k b hb=>(k b hb).trans (h b hb),fun h k hk=>Mem.bd h hk⟩
structure Gives (M:Mem) (w w':World) (N:Mem):Prop where
 le:M.le N
 has:N.has w'
 new:∀b,N.A b→M.A b∨w.heap.size≤b
 below:Below w.heap.size w w'
def RetM (P:Program)(f:Nat)(args:Array Value)(M:Mem)(w:World)(R:Value→Mem→Prop):Prop:=Ret P f args w (fun v w'=>∃N,Gives M w w' N∧R v N)
section
variable {S:Nat→Prop}{P:Program}{w w0:World}{L:List Ent}{PK:PKT}{K:VWP}
theorem OwnS.memS {M:Mem}(h:M.has w):OwnS M.A w w [.mem M]:=OwnS.lend (e:=.mem M) h
theorem OwnS.hasM {M:Mem}(ho:OwnS S w0 w L)(i:Nat)(hi:L[i]?=some (.mem M)):M.has w:=ho.at_ i hi
theorem OwnS.gives {M N:Mem}{w':World}(ho:OwnS S w0 w L)(i:Nat)(hi:L[i]?=some (.mem M))(g:Gives M w w' N):OwnS S w0 w' (L.set i (.mem N)):=
 ho.turn i hi ⟨grew_below g.below,g.has,g.new⟩
theorem OwnS.toGives {M0 N:Mem}{w':World}(ho:OwnS M0.A w w' L)(i:Nat)(hi:L[i]?=some (.mem N))(hle:M0.le N)(h0:M0.has w):Gives M0 w w' N:=by
 have hm:=ho.all (.mem N) (List.mem_of_getElem? hi);refine⟨hle,hm.1,fun b hb=>hm.2 b hb,ho.grew.os,ho.grew.tape,ho.grew.output,ho.grew.size,fun k hk=>?_⟩;by_cases hA:M0.A k
 ·rw[h0 k hA];have h1:w'.heap[k]?=N.w.heap[k]?:=hm.1 k (hle.A k hA);rw[h1];exact hle.has k hA
 ·exact ho.grew.block k hk hA
theorem retM_of {f:Nat}{args:Array Value}{M:Mem}{R:Value→Mem→Prop}(hM:M.has w)
  (h:∀K:Ending→World→Prop,(∀(v:Value) (w':World) (N:Mem) (L:List Ent) (i:Nat),OwnS M.A w w' L→L[i]?=some (.mem N)→M.le N→R v N→K (.returned v) w')→Calls P f args w K):RetM P f args M w R:=
 ret_of fun K hK=>h K fun v w' N L i ho hi hle hr=>hK v w' ⟨N,ho.toGives i hi hle hM,hr⟩
theorem c_mem {f:Nat}{args:Array Value}{M:Mem}{R:Value→Mem→Prop}(ho:OwnS S w0 w L)(i:Nat)(hi:L[i]?=some (.mem M))(h:RetM P f args M w R)
  (k:∀v N w',M.le N→R v N→OwnS S w0 w' (L.set i (.mem N))→K v w'):CallX P f args w PK K:=
 c_ret h fun v w' ⟨N,g,r⟩=>k v N w' g.le r (ho.gives i hi g)
theorem OwnS.freeze {M:Mem}{e:Ent}(ho:OwnS S w0 w (e::L))(i:Nat)(hi:L[i]?=some (.mem M)) :
  ∃N:Mem,M.le N∧N.w=w∧(∀b,e.blk b→N.A b)∧OwnS S w0 w (L.set i (.mem N)):=by
 have he:=ho.all e (by simp);have hM:M.has w:=ho.at_ (i+1) (by simpa using hi);have hlt:∀b,M.A b∨e.blk b→b < w.heap.size:=fun b hb=>hb.elim (fun h=>Mem.bd hM h) (fun h=>e.lt he.1 b h)
 let N:Mem:=⟨fun b=>M.A b∨e.blk b,w,hlt⟩
 have hil:i < L.length:=(List.getElem?_eq_some_iff.1 hi).1;have hie:L[i]=.mem M:=(List.getElem?_eq_some_iff.1 hi).2;obtain⟨a1,a2⟩:=List.pairwise_cons.1 ho.apart;have hp:=List.pairwise_iff_getElem.1 a2;have bM:∀k,M.A k→(L[i]).blk k:=fun k hk=>by rw[hie];exact hk
 refine⟨N,⟨fun b hb=>.inl hb,hM⟩,rfl,fun b hb=>.inr hb,ho.grew,?_,?_⟩
 ·intro f hf;obtain⟨j,hj,rfl⟩:=List.getElem_of_mem hf;rw[List.length_set] at hj;rw[List.getElem_set];split
  ·refine⟨fun b _=>rfl,fun k hk=>?_⟩;rcases hk with hk|hk
   ·exact (ho.all (.mem M) (by rw[←hie];exact List.mem_cons_of_mem _ (List.getElem_mem hil))).2 k hk
   ·exact he.2 k hk
  ·exact ho.all _ (List.mem_cons_of_mem _ (List.getElem_mem hj))
 ·rw[List.pairwise_iff_getElem];intro a b ha hb hab k hk;rw[List.length_set] at ha hb;rw[List.getElem_set] at hk;rw[List.getElem_set];split at hk
  ·rename_i hia
   subst hia;rw[if_neg (by omega)];rcases hk with hk|hk
   ·exact hp i b ha hb hab k (bM k hk)
   ·exact a1 _ (List.getElem_mem hb) k hk
  ·split
   ·rename_i hib
    subst hib;intro hk';rcases hk' with hk'|hk'
    ·exact hp a i ha hb hab k hk (bM k hk')
    ·exact a1 _ (List.getElem_mem ha) k hk' hk
   ·exact hp a b ha hb hab k hk
end
end Eng
open Eng Go.RowKit
theorem SlA.le {M N:Mem}(h:M.le N){v:Value}{sz n:Nat}{cs:List Value}(hs:SlA M.A M.w v sz n cs):SlA N.A N.w v sz n cs:=by
 have:=hs.kept (w':=N.w) h.has;exact⟨this.1,(fun p l c e hn=>h.A _ (this.2.1 p l c e hn)),this.2.2⟩
theorem SlA.now {M:Mem}{w:World}(h:M.has w){v:Value}{sz n:Nat}{cs:List Value}(hs:SlA M.A M.w v sz n cs):Sl w v sz n cs:=(hs.kept (w':=w) h).1
theorem OV.le {M N:Mem}(h:M.le N){v:Value}{o:Ob}(hv:OV M.A M.w v o):OV N.A N.w v o:=OV.mono h.A o v (OV.kept h.has o v hv)
theorem OVs.le {M N:Mem}(h:M.le N){cs:List Value}{os:List Ob}(hv:OVs M.A M.w cs os):OVs N.A N.w cs os:=OVs.mono h.A os cs (OVs.kept h.has os cs hv)
theorem OV.inw {M:Mem}{w:World}(h:M.has w){v:Value}{o:Ob}(hv:OV M.A M.w v o):OV (InW w) w v o:=OV.mono (fun b hb=>Mem.bd h hb) o v (OV.kept h o v hv)
end
section
namespace Eng
open Go.RowKit
section
variable {S:Nat→Prop}{P:Program}{w w0:World}{L:List Ent}{PK:PKT}{K:VWP}
theorem e_nilS {T E:TypeId}{xo yo:Operand}{a:Option Addr}{n c n' c':Nat}(h:P.underlying T=some (.slice E)):DoX P (mEq .eql T xo yo (.slice a n c) (.slice none n' c')) w PK K=K (.bool a.isNone) w:=by
 refine mv_do ?_;simp[eqGuard,Lib.run_eql_slice_nil w T E a n c n' c' h]
theorem n_nilS {T E:TypeId}{xo yo:Operand}{a:Option Addr}{n c n' c':Nat}(h:P.underlying T=some (.slice E)):DoX P (mEq .neq T xo yo (.slice a n c) (.slice none n' c')) w PK K=K (.bool (!a.isNone)) w:=by
 refine mv_do ?_;have:=Lib.run_equalIn_slice_nil (P:=P) w 9999 T E a n c n' c' h;simp[eqGuard,binOp,Op.equal,Op.maxDepth,this]
def subA (a:Option Addr)(l cap sz:Nat):Option Addr:=if cap=l then a else a.map (·.add (l*sz))
theorem subA_in {b off l cap sz:Nat}(h:l < cap):subA (some ⟨b,off,none⟩) l cap sz=some ⟨b,off+l*sz,none⟩:=by
 unfold subA;rw[if_neg (by omega),Option.map_some,add_none]
theorem subA_0 {a:Addr}{cap sz:Nat}:subA (some ⟨a.block,a.off,none⟩) 0 cap sz=some ⟨a.block,a.off,none⟩:=by
 unfold subA;split
 ·rfl
 ·rw[Option.map_some,add_none,Nat.zero_mul,Nat.add_zero]
theorem run_sl_l {T E:TypeId}{k:IntKind}{a:Option Addr}{n cap sz:Nat}{lo:Int}(h:P.underlying T=some (.slice E))(hsz:(P.info? E).map (·.size)=some sz)(h0:0≤lo)(h1:lo≤n) :
  (mSlice T (.slice a n cap) (some (.int k lo)) none none).run P w=.ok (.value (.slice (subA a lo.toNat cap sz) (n - lo.toNat) (cap - lo.toNat))) w:=by
 obtain⟨i,hi,h2⟩:=Option.map_eq_some_iff.1 hsz;have he:P.elem T=E:=by simp[Program.elem,h]
 have ht:P.underlying T=some (.slice (P.elem T)):=by rw[he];exact h
 refine mv_run ?_;rw[run_sliceAt_slice w T _ _ _ _ ht,run_slice_l w T a n cap ht k lo h0 h1];simp[sizeOf,typeInfo,he,hi,h2,sliced,subA]
theorem run_sl_h {T E:TypeId}{k:IntKind}{a:Option Addr}{n cap sz:Nat}{hi:Int}(h:P.underlying T=some (.slice E))(hsz:(P.info? E).map (·.size)=some sz)(h0:0≤hi)(h1:hi≤cap) :
  (mSlice T (.slice a n cap) none (some (.int k hi)) none).run P w=.ok (.value (.slice (subA a 0 cap sz) hi.toNat cap)) w:=by
 obtain⟨i,hi',h2⟩:=Option.map_eq_some_iff.1 hsz;have he:P.elem T=E:=by simp[Program.elem,h]
 have ht:P.underlying T=some (.slice (P.elem T)):=by rw[he];exact h
 refine mv_run ?_;rw[run_sliceAt_slice w T _ _ _ _ ht,run_slice_h w T a n cap ht k hi h0 h1];simp[sizeOf,typeInfo,he,hi',h2,sliced,subA]
theorem cap_sl {T U E:TypeId}{cb:Array Bool}{a:Option Addr}{n cap:Nat}(h:P.underlying T=some (.slice E)):DoX P (mB .cap #[T] U cb #[.slice a n cap]) w PK K=K (.int .i64 (cap:Int)) w:=by
 refine do_eq ?_;simp[mB,builtin,Builtin.cap_,run_underlying h,goInt]
theorem o_makeN {T E:TypeId}{sz bytes n:Nat}{kl kc:IntKind}(ht:P.underlying T=some (.slice E))(he:elB P E sz bytes=true)(hb:bytes*n≤281474976710656)(hn:n≤281474976710656)(ho:OwnS S w0 w L)
  (k:∀(g:Nat) (w':World) (zs:List Value),zs.length=n*sz→OwnS S w0 w' (.cells g zs E::L)→K (.slice (some ⟨g,0,none⟩) n n) w'):DoX P (mMake T (.int kl (n:Int)) (.int kc (n:Int))) w PK K:=by
 obtain⟨i,z,hi,hz,hi1,hi2,hz1⟩:=elB_spec he;have hb':(i.bytes:Int)*(n:Int)≤281474976710656:=by rw[hi2,←Int.natCast_mul];omega
 have hr:=run_make (P:=P) w T E i z ht hi hz kl kc n n (by omega) (by omega) hb' (by omega);rw[Int.toNat_natCast] at hr;refine do_ok (mv_run hr) (k _ _ (madeCells z.cells (n*i.size)).toList ?_ ?_)
 ·rw[Array.length_toList,size_madeCells,hi1]
 ·have:=ho.alloc (madeCells z.cells (n*i.size)).toList E
  rwa [Array.toArray_toList] at this
theorem run_copyC {dT sT ty T E:TypeId}{cb:Array Bool}{g o dLen dCap sz:Nat}{a:Addr}{sLen sCap:Nat}{cur src:List Value}(hu:P.underlying dT=some (.slice E))(hsz:(P.info? E).map (·.size)=some sz)
  (hg:w.heap[g]?=some (.cells cur.toArray T (0,0))) (hn:src.length=Nat.min sLen dLen*sz) (hsrc:∀j v,src[j]?=some v→w.cell? (a.add j)=some v) (hfit:o+src.length≤cur.length) (h1:∀v∈src,v.oneCell'=true) :
  (mB .copy #[dT,sT] ty cb #[.slice (some ⟨g,o,none⟩) dLen dCap,.slice (some a) sLen sCap]).run P w=.ok (.value (goInt (Nat.min sLen dLen))) (w.setRow g (cur.take o++src++cur.drop (o+src.length)).toArray):=by
 have hl:=run_loadCells_list (P:=P) w a src hsrc;have hst:=run_storeCells_at P g o T src 0 cur.toArray w hg (by simpa using hfit) h1;obtain⟨i,hi,h2⟩:=Option.map_eq_some_iff.1 hsz;rw[hn] at hl;simp only[Nat.add_zero] at hst;simp[mB,builtin,Builtin.copy_,run_underlying hu,Builtin.lenOf,Builtin.firstCells,sizeOf,typeInfo,hi,h2,hl,hst]
theorem o_copyC (i:Nat){dT sT ty T E:TypeId}{cb:Array Bool}{g o dLen dCap sz:Nat}{a:Addr}{sLen sCap:Nat}{cur src:List Value}(hu:P.underlying dT=some (.slice E))(hsz:(P.info? E).map (·.size)=some sz)
  (ho:OwnS S w0 w L) (hi:L[i]?=some (.cells g cur T)) (hn:src.length=min sLen dLen*sz) (hsrc:∀j v,src[j]?=some v→w.cell? (a.add j)=some v) (hfit:o+src.length≤cur.length) (h1:∀v∈src,v.oneCell'=true)
  (k:∀v' w',OwnS S w0 w' (L.set i (.cells g (cur.take o++src++cur.drop (o+src.length)) T))→K v' w') :
  DoX P (mB .copy #[dT,sT] ty cb #[.slice (some ⟨g,o,none⟩) dLen dCap,.slice (some a) sLen sCap]) w PK K:=
 do_ok (run_copyC hu hsz (ho.at_ i hi) hn hsrc hfit h1) (k _ _ (setRow_own ho i hi _))
theorem o_growZ {T tn U E:TypeId}{cb:Array Bool}{kn kq:IntKind}{g n cap m sz bytes:Nat}{olds:List Value}(ht:P.underlying T=some (.slice E))(htn:P.underlying tn=some (.int kn))(he:elB P E sz bytes=true)(hsz:0 < sz)
  (ho:OwnS S w0 w L) (hol:olds.length=n*sz) (hold:∀j u,olds[j]?=some u→w.cell? ⟨g,0+j,none⟩=some u) (h0:0 < m) (hg:cap < n+m) (hb:(n+m)*bytes≤140737488355328) (hb2:n+m≤140737488355328)
  (k:∀(b c:Nat) (zs:List Value) (w':World),n+m≤c→c≤9223372036854775807→zs.length+n*sz=c*sz→OwnS S w0 w' (.cells b (olds++zs) E::L)→K (.slice (some ⟨b,0,none⟩) (n+m) c) w') :
  DoX P (mB .append #[T,tn] U cb #[.slice (some ⟨g,0,none⟩) n cap,.int kq (m:Int)]) w PK K:=by
 obtain⟨i,z,hi,hz,hi1,hi2,hz1⟩:=elB_spec he;have hold':(Builtin.firstCells i.size n (.slice (some ⟨g,0,none⟩) n cap)).run P w.drew=.ok olds.toArray w.drew:=by
  have hl:=run_loadCells_list (P:=P) w.drew ⟨g,0,none⟩ olds (fun j v hj=>by rw[add_none];exact hold j v hj);simp only[Builtin.firstCells,hi1,←hol];exact hl
 have hge:=grownCap_ge w (n+m) cap E;have hle:=grownCap_le_maxLen w (n+m) cap E (by simp only[maxLen];omega);have hr:=Lib.run_append_grow_zeros (P:=P) w T tn U E i z kq kn ht htn hi hz (some ⟨g,0,none⟩) n cap olds hold' m h0 (by omega) hg (by omega) (by
   rw[hi2];have:m*bytes≤(n+m)*bytes:=Nat.mul_le_mul_right _ (by omega);omega) (by rw[hi2];exact growslice_fits hg hb)
 have hzc:∀x,(Builtin.zeroCells z.cells x).toList.length=x*sz:=by intro x;simp[Builtin.zeroCells,hz1]
 obtain⟨zs,hzs⟩:∃zs,zs=(Builtin.zeroCells z.cells m).toList++(Builtin.zeroCells z.cells (grownCap w (n+m) cap E - (n+m))).toList:=⟨_,rfl⟩;have hlen:zs.length+n*sz=grownCap w (n+m) cap E*sz:=by
  rw[hzs,List.length_append,hzc,hzc,←Nat.add_mul,←Nat.add_mul]
  congr 1
  omega
 have key:=(ho.drew).alloc (olds++zs) E;have e:(olds++zs).toArray=olds.toArray++Builtin.zeroCells z.cells m++Builtin.zeroCells z.cells (grownCap w (n+m) cap E - (n+m)):=by
  rw[hzs];simp
 have hr':(mB .append #[T,tn] U cb #[.slice (some ⟨g,0,none⟩) n cap,.int kq (m:Int)]).run P w=.ok (.value (.slice (some ⟨w.heap.size,0,none⟩) (n+m) (grownCap w (n+m) cap E))) (w.drew.alloc (.cells (olds++zs).toArray E)):=by
  rw[e];simp[mB,builtin,hr]
 exact do_ok hr' (k w.heap.size _ zs _ hge (by simp only[maxLen] at hle;exact hle) hlen key)
theorem sub_get {cs cs':List Value}{off j:Nat}{v:Value}(h:(cs.drop off).take cs'.length=cs')(hj:cs'[j]?=some v):cs[off+j]?=some v:=by
 rw[←h] at hj;rw[List.getElem?_take] at hj;split at hj
 ·rwa [List.getElem?_drop] at hj
 ·cases hj
theorem OwnS.subAgg (ho:OwnS S w0 w L)(i:Nat){b:Nat}{cs:List Value}{E T:TypeId}(hi:L[i]?=some (.cells b cs E))(off:Nat)(cs':List Value)(hcs:(cs.drop off).take cs'.length=cs')(ht:aggN P T=some cs'.length):AtV P w T ⟨b,off,none⟩ (.agg cs'.toArray):=
 AtV.agg ht rfl fun j v hj=>ho.cell i hi (off+j) (sub_get hcs hj)
theorem o_putAt (i:Nat){T:TypeId}{b off:Nat}{cs new:List Value}{E:TypeId}(ho:OwnS S w0 w L)(hi:L[i]?=some (.cells b cs E))(hs:(P.info? T).map (·.size)=some new.length)(hv:∀v∈new,v.oneCell'=true)(hl:off+new.length≤cs.length)
  (k:∀w',OwnS S w0 w' (L.set i (.cells b (cs.take off++new++cs.drop (off+new.length)) E))→K undef w'):DoX P (mStore T (.pointer (some ⟨b,off,none⟩)) (.agg new.toArray)) w PK K:=by
 have hr:=run_store_in (P:=P) (T:=T) (g:=b) (off:=off) (cur:=cs.toArray) (E:=E) (u:=.agg new.toArray) (new:=new) rfl hs hv (ho.at_ i hi) (by simpa using hl);refine do_skip (mu_run hr) (k _ ?_);have e:(cs.toArray.toList.take off++new++cs.toArray.toList.drop (off+new.length)).toArray=(cs.take off++new++cs.drop (off+new.length)).toArray:=by simp
 rw[e];exact setRow_own ho i hi _
theorem mem_urow {M N:Mem}{T:TypeId}{sz:Nat}{v:Value}{n:Nat}{xs:List Value}(hw:N.w=w)(hb:∀b,(Ent.urow T sz v n xs).blk b→N.A b)(h:(Ent.urow T sz v n xs).is w):SlA N.A N.w v sz n xs:=by
 rw[hw];refine⟨Sl.urow h,fun p l c e hn=>hb _ ?_,fun a l c e=>?_⟩
 ·rcases (show w.ownsRow 0 T sz v n xs from h).2 with ⟨rfl,h0⟩|⟨g,cap,cur,rfl,_⟩
  ·cases e
  ·injection e with e1 _ _
   injection e1 with e1
   rw[←e1];rfl
 ·rcases (show w.ownsRow 0 T sz v n xs from h).2 with ⟨rfl,h0⟩|⟨g,cap,cur,rfl,_,_,hnc,_⟩
  ·injection e with _ e2 e3;omega
  ·injection e with _ e2 e3;omega
theorem OwnS.freezeU {M:Mem}{T:TypeId}{sz:Nat}{v:Value}{n:Nat}{xs:List Value}(ho:OwnS S w0 w (.urow T sz v n xs::L))(i:Nat)(hi:L[i]?=some (.mem M)) :
  ∃N:Mem,M.le N∧SlA N.A N.w v sz n xs∧OwnS S w0 w (L.set i (.mem N)):=by
 have h:=ho.at_ 0 rfl;obtain⟨N,h1,h2,h3,h4⟩:=ho.freeze i hi;exact⟨N,h1,mem_urow (M:=M) h2 h3 h,h4⟩
end
end Eng
end
end Go.Proofs.YtmkodaephgnehaaGreatDoor



namespace Go.Proofs.YtmkodaephgnehaaGreatDoor
section
open Eng Go.RowKit
theorem ret_calls {f:Nat}{args:Array Value}{w:World}{v:Value}(h:Calls prog f args w fun e w'=>e=.returned v∧Below w.heap.size w w'):Ret prog f args w (fun v' w'=>v'=v∧Below w.heap.size w w'):=
 Calls.mono h fun e w' ⟨he,hb⟩=>⟨v,he,rfl,hb⟩
theorem lb_b1 {n:Int}(w:World)(c:UInt8)(h:(c.toNat:Int)=n):(mBuildS 41 1 #[(0,.int .u8 n)]).run prog w=.ok (.value (.slice (some ⟨w.heap.size,0,none⟩) [c].length [c].length)) (w.alloc (.cells (bytesV [c]).toArray 5)):=by
 subst h;kernel_rfl
theorem lb_str1 {w w0:World}{PK:PKT}{K:VWP}{S:Nat→Prop}{L:List Ent}{n:Int}(c:UInt8)(h:(c.toNat:Int)=n)(ho:OwnS S w0 w L)(k:∀w',OwnS S w0 w' L→K (.string ⟨#[c]⟩) w') :
  DoX prog (mBuildS 41 1 #[(0,.int .u8 n)]) w PK (fun t w=>DoX prog (mConv 41 9 t) w PK K):=by
 refine o_new (fun b=>.slice (some ⟨b,0,none⟩) 1 1) (bytesV [c]) 5 (fun w=>lb_b1 w c h) ho fun b w1 ho=>?_;rw[c_bytes (l:=[c]) Tryz.underlying41 Tryz.underlying5 Tryz.underlying9 (ho.sl 0 rfl 1 1 1 rfl)];exact k _ ho.tail
theorem lb_c8 {w:World}{PK:PKT}{K:VWP}{n:Int}:DoX prog (mConv 3 5 (.int .i64 n)) w PK K=K (.int .u8 (IntKind.wrap .u8 n)) w:=
 c_int (show (Tryz.prog.underlying 3).isSome=true by kernel_rfl) Tryz.underlying5
end
section
open Eng
def S_slices_Clone_string_string (t0:Value)(w:World)(K:Ending→World→Prop):Prop:=
 DoX prog (mEq .eql 23 (.tmp 3) (.const (.slice none 0 0)) t0 (.slice none 0 0)) w (pk K) fun t4 w=>
 IfX t4 (K (.returned (.slice none 0 0)) w) (DoX prog (mBuildS 23 0 #[]) w (pk K) fun t5 w=>
 DoX prog (mB .append #[23,23] 23 #[false,false] #[t5,t0]) w (pk K) fun t7 w=>
 K (.returned t7) w)
theorem S_slices_Clone_string_string_eq (t0:Value)(w:World)(K:Ending→World→Prop):wpX prog 8 [] [] none (bodyOf Tryz.f148) (topQ prog [.tmp 2] K) (startX [t0]) [] w=S_slices_Clone_string_string t0 w K:=by kernel_rfl
theorem S_slices_Clone_string_string_ok {t0:Value}{w:World}{K:Ending→World→Prop}(h:S_slices_Clone_string_string t0 w K):Calls prog 148 #[t0] w K:=
 calls_of_wpX Tryz.func148 rfl rfl rfl rfl (Eq.mpr (S_slices_Clone_string_string_eq t0 w K) h)
def S_slices_Clone_foliant_api_Object_foliant_api_Object (t0:Value)(w:World)(K:Ending→World→Prop):Prop:=
 DoX prog (mEq .eql 46 (.tmp 3) (.const (.slice none 0 0)) t0 (.slice none 0 0)) w (pk K) fun t4 w=>
 IfX t4 (K (.returned (.slice none 0 0)) w) (DoX prog (mBuildS 46 0 #[]) w (pk K) fun t5 w=>
 DoX prog (mB .append #[46,46] 46 #[false,false] #[t5,t0]) w (pk K) fun t7 w=>
 K (.returned t7) w)
theorem S_slices_Clone_foliant_api_Object_foliant_api_Object_eq (t0:Value)(w:World)(K:Ending→World→Prop):wpX prog 8 [] [] none (bodyOf Tryz.f150) (topQ prog [.tmp 2] K) (startX [t0]) [] w=S_slices_Clone_foliant_api_Object_foliant_api_Object t0 w K:=by kernel_rfl
theorem S_slices_Clone_foliant_api_Object_foliant_api_Object_ok {t0:Value}{w:World}{K:Ending→World→Prop}(h:S_slices_Clone_foliant_api_Object_foliant_api_Object t0 w K):Calls prog 150 #[t0] w K:=
 calls_of_wpX Tryz.func150 rfl rfl rfl rfl (Eq.mpr (S_slices_Clone_foliant_api_Object_foliant_api_Object_eq t0 w K) h)
def S_slices_Insert_string_string (t0 t1 t2:Value)(w:World)(K:Ending→World→Prop):Prop:=
 DoX prog (mSlice 23 t0 (some t1) none none) w (pk K) fun t12 w=>
 DoX prog (mB .len #[23] 3 #[false] #[t2]) w (pk K) fun t14 w=>
 DoX prog (mEq .eql 3 (.tmp 15) (.const (.int .i64 0)) t14 (.int .i64 0)) w (pk K) fun t16 w=>
 IfX t16 (K (.returned t0) w) (DoX prog (mB .len #[23] 3 #[false] #[t0]) w (pk K) fun t19 w=>
 DoX prog (mEq .eql 3 (.tmp 20) (.tmp 21) t1 t19) w (pk K) fun t22 w=>
 IfX t22 (DoX prog (mB .append #[23,23] 23 #[false,false] #[t0,t2]) w (pk K) fun t25 w=>
 K (.returned t25) w) (DoX prog (mBin .add 3 t19 t14) w (pk K) fun t28 w=>
 DoX prog (mB .cap #[23] 3 #[false] #[t0]) w (pk K) fun t30 w=>
 DoX prog (mBin .gtr 3 t28 t30) w (pk K) fun t31 w=>
 IfX t31 (DoX prog (mSlice 23 t0 none (some t1) none) w (pk K) fun t34 w=>
 DoX prog (mBin .add 3 t19 t14) w (pk K) fun t37 w=>
 DoX prog (mBin .sub 3 t37 t1) w (pk K) fun t39 w=>
 DoX prog (mB .append #[23,3] 23 #[false,false] #[t34,t39]) w (pk K) fun t40 w=>
 DoX prog (mSlice 23 t40 (some t1) none none) w (pk K) fun t43 w=>
 DoX prog (mB .copy #[23,23] 3 #[false,false] #[t43,t2]) w (pk K) fun t45 w=>
 QuietX w (fun C1=>
 QDo prog C1 (mBin .add 3 t1 t14) fun t49=>
 QDo prog C1 (mSlice 23 t40 (some t49) none none) fun t50=>
 QDo prog C1 (mSlice 23 t0 (some t1) none none) fun t53=>
 ∀w,C1 w →
 DoX prog (mB .copy #[23,23] 3 #[false,false] #[t50,t53]) w (pk K) fun t54 w=>
 K (.returned t40) w)) (DoX prog (mBin .add 3 t19 t14) w (pk K) fun t59 w=>
 DoX prog (mSlice 23 t0 none (some t59) none) w (pk K) fun t60 w=>
 DoX prog (mBin .add 3 t1 t14) w (pk K) fun t65 w=>
 DoX prog (mSlice 23 t60 (some t65) none none) w (pk K) fun t66 w=>
 DoX prog (mCallV (.func (.func 169) #[] #[]) #[t2,t66]) w (pk K) fun t67 w=>
 DoX prog (mUn .not t67) w (pk K) fun t68 w=>
 IfX t68 (QuietX w (fun C2=>
 QDo prog C2 (mBin .add 3 t1 t14) fun t72=>
 QDo prog C2 (mSlice 23 t60 (some t72) none none) fun t73=>
 QDo prog C2 (mSlice 23 t60 (some t1) none none) fun t76=>
 ∀w,C2 w →
 DoX prog (mB .copy #[23,23] 3 #[false,false] #[t73,t76]) w (pk K) fun t77 w=>
 DoX prog (mSlice 23 t60 (some t1) none none) w (pk K) fun t80 w=>
 DoX prog (mB .copy #[23,23] 3 #[false,false] #[t80,t2]) w (pk K) fun t82 w=>
 K (.returned t60) w)) (DoX prog (mSlice 23 t60 (some t19) none none) w (pk K) fun t86 w=>
 DoX prog (mB .copy #[23,23] 3 #[false,false] #[t86,t2]) w (pk K) fun t88 w=>
 DoX prog (mSlice 23 t60 (some t1) none none) w (pk K) fun t91 w=>
 CallX prog 170 #[t91,t14] w (pk K) fun t93 w=>
 K (.returned t60) w))))
theorem S_slices_Insert_string_string_eq (t0 t1 t2:Value)(w:World)(K:Ending→World→Prop):wpX prog 95 [] [] none (bodyOf Tryz.f151) (topQ prog [.tmp 6] K) (startX [t0,t1,t2]) [] w=S_slices_Insert_string_string t0 t1 t2 w K:=by kernel_rfl
theorem S_slices_Insert_string_string_ok {t0 t1 t2:Value}{w:World}{K:Ending→World→Prop}(h:S_slices_Insert_string_string t0 t1 t2 w K):Calls prog 151 #[t0,t1,t2] w K:=
 calls_of_wpX Tryz.func151 rfl rfl rfl rfl (Eq.mpr (S_slices_Insert_string_string_eq t0 t1 t2 w K) h)
def S_slices_Insert_foliant_api_Object_foliant_api_Object (t0 t1 t2:Value)(w:World)(K:Ending→World→Prop):Prop:=
 DoX prog (mSlice 46 t0 (some t1) none none) w (pk K) fun t12 w=>
 DoX prog (mB .len #[46] 3 #[false] #[t2]) w (pk K) fun t14 w=>
 DoX prog (mEq .eql 3 (.tmp 15) (.const (.int .i64 0)) t14 (.int .i64 0)) w (pk K) fun t16 w=>
 IfX t16 (K (.returned t0) w) (DoX prog (mB .len #[46] 3 #[false] #[t0]) w (pk K) fun t19 w=>
 DoX prog (mEq .eql 3 (.tmp 20) (.tmp 21) t1 t19) w (pk K) fun t22 w=>
 IfX t22 (DoX prog (mB .append #[46,46] 46 #[false,false] #[t0,t2]) w (pk K) fun t25 w=>
 K (.returned t25) w) (DoX prog (mBin .add 3 t19 t14) w (pk K) fun t28 w=>
 DoX prog (mB .cap #[46] 3 #[false] #[t0]) w (pk K) fun t30 w=>
 DoX prog (mBin .gtr 3 t28 t30) w (pk K) fun t31 w=>
 IfX t31 (DoX prog (mSlice 46 t0 none (some t1) none) w (pk K) fun t34 w=>
 DoX prog (mBin .add 3 t19 t14) w (pk K) fun t37 w=>
 DoX prog (mBin .sub 3 t37 t1) w (pk K) fun t39 w=>
 DoX prog (mB .append #[46,3] 46 #[false,false] #[t34,t39]) w (pk K) fun t40 w=>
 DoX prog (mSlice 46 t40 (some t1) none none) w (pk K) fun t43 w=>
 DoX prog (mB .copy #[46,46] 3 #[false,false] #[t43,t2]) w (pk K) fun t45 w=>
 QuietX w (fun C1=>
 QDo prog C1 (mBin .add 3 t1 t14) fun t49=>
 QDo prog C1 (mSlice 46 t40 (some t49) none none) fun t50=>
 QDo prog C1 (mSlice 46 t0 (some t1) none none) fun t53=>
 ∀w,C1 w →
 DoX prog (mB .copy #[46,46] 3 #[false,false] #[t50,t53]) w (pk K) fun t54 w=>
 K (.returned t40) w)) (DoX prog (mBin .add 3 t19 t14) w (pk K) fun t59 w=>
 DoX prog (mSlice 46 t0 none (some t59) none) w (pk K) fun t60 w=>
 DoX prog (mBin .add 3 t1 t14) w (pk K) fun t65 w=>
 DoX prog (mSlice 46 t60 (some t65) none none) w (pk K) fun t66 w=>
 DoX prog (mCallV (.func (.func 171) #[] #[]) #[t2,t66]) w (pk K) fun t67 w=>
 DoX prog (mUn .not t67) w (pk K) fun t68 w=>
 IfX t68 (QuietX w (fun C2=>
 QDo prog C2 (mBin .add 3 t1 t14) fun t72=>
 QDo prog C2 (mSlice 46 t60 (some t72) none none) fun t73=>
 QDo prog C2 (mSlice 46 t60 (some t1) none none) fun t76=>
 ∀w,C2 w →
 DoX prog (mB .copy #[46,46] 3 #[false,false] #[t73,t76]) w (pk K) fun t77 w=>
 DoX prog (mSlice 46 t60 (some t1) none none) w (pk K) fun t80 w=>
 DoX prog (mB .copy #[46,46] 3 #[false,false] #[t80,t2]) w (pk K) fun t82 w=>
 K (.returned t60) w)) (DoX prog (mSlice 46 t60 (some t19) none none) w (pk K) fun t86 w=>
 DoX prog (mB .copy #[46,46] 3 #[false,false] #[t86,t2]) w (pk K) fun t88 w=>
 DoX prog (mSlice 46 t60 (some t1) none none) w (pk K) fun t91 w=>
 CallX prog 172 #[t91,t14] w (pk K) fun t93 w=>
 K (.returned t60) w))))
theorem S_slices_Insert_foliant_api_Object_foliant_api_Object_eq (t0 t1 t2:Value)(w:World)(K:Ending→World→Prop):wpX prog 95 [] [] none (bodyOf Tryz.f152) (topQ prog [.tmp 6] K) (startX [t0,t1,t2]) [] w=S_slices_Insert_foliant_api_Object_foliant_api_Object t0 t1 t2 w K:=by kernel_rfl
theorem S_slices_Insert_foliant_api_Object_foliant_api_Object_ok {t0 t1 t2:Value}{w:World}{K:Ending→World→Prop}(h:S_slices_Insert_foliant_api_Object_foliant_api_Object t0 t1 t2 w K):Calls prog 152 #[t0,t1,t2] w K:=
 calls_of_wpX Tryz.func152 rfl rfl rfl rfl (Eq.mpr (S_slices_Insert_foliant_api_Object_foliant_api_Object_eq t0 t1 t2 w K) h)
def S_slices_BinarySearch_string_string_0 (t0 t1 t6 t7 t8:Value)(w:World)(N1:List Value→World→Prop)(K:Ending→World→Prop):Prop:=
 DoX prog (mBin .lss 3 t7 t8) w (pk K) fun t15 w=>
 IfX t15 (DoX prog (mBin .add 3 t7 t8) w (pk K) fun t18 w=>
 DoX prog (mConv 3 58 t18) w (pk K) fun t19 w=>
 DoX prog (mBin .shr 58 t19 (.int .u64 1)) w (pk K) fun t20 w=>
 DoX prog (mConv 58 3 t20) w (pk K) fun t21 w=>
 DoX prog (mIA 23 t0 t21) w (pk K) fun t24 w=>
 DoX prog (mLoad 9 t24) w (pk K) fun t25 w=>
 CallX prog 145 #[t25,t1] w (pk K) fun t27 w=>
 IfX t27 (DoX prog (mBin .add 3 t21 (.int .i64 1)) w (pk K) fun t29 w=>
 N1 [t29,t8] w) (N1 [t7,t21] w)) (DoX prog (mBin .lss 3 t7 t6) w (pk K) fun t34 w=>
 GDo t34 true (fun E=>E t0 w) w fun t36 w=>
 GDo t34 true (fun E=>E t7 w) w fun t37 w=>
 GDo t34 true (fun E=>DoX prog (mIA 23 t36 t37) w (pk K) E) w fun t38 w=>
 GDo t34 true (fun E=>DoX prog (mLoad 9 t38) w (pk K) E) w fun t39 w=>
 GDo t34 true (fun E=>E t1 w) w fun t40 w=>
 GDo t34 true (fun E=>DoX prog (mEq .eql 9 (.tmp 39) (.tmp 40) t39 t40) w (pk K) E) w fun t41 w=>
 GDo t34 true (fun E=>E t41 w) w fun t42 w=>
 GDo t42 false (fun E=>E t0 w) w fun t43 w=>
 GDo t42 false (fun E=>E t7 w) w fun t44 w=>
 GDo t42 false (fun E=>DoX prog (mIA 23 t43 t44) w (pk K) E) w fun t45 w=>
 GDo t42 false (fun E=>DoX prog (mLoad 9 t45) w (pk K) E) w fun t46 w=>
 GDo t42 false (fun E=>CallX prog 146 #[t46] w (pk K) E) w fun t47 w=>
 GDo t42 false (fun E=>E t47 w) w fun t48 w=>
 GDo t48 true (fun E=>E t1 w) w fun t49 w=>
 GDo t48 true (fun E=>CallX prog 146 #[t49] w (pk K) E) w fun t50 w=>
 GDo t42 false (fun E=>DoX prog (mPick t48 t50 (.bool false)) w (pk K) E) w fun t51 w=>
 GDo t34 true (fun E=>DoX prog (mPick t42 (.bool true) t51) w (pk K) E) w fun t52 w=>
 DoX prog (mPick t34 t52 (.bool false)) w (pk K) fun t53 w=>
 K (.returned (.tuple #[t7,t53])) w)
def S_slices_BinarySearch_string_string (t0 t1:Value)(w:World)(K:Ending→World→Prop):Prop:=
 DoX prog (mB .len #[23] 3 #[false] #[t0]) w (pk K) fun t11 w=>
 LoopX [(.int .i64 0),t11] w (fun vs1 w N1=>∀_:Sg,S_slices_BinarySearch_string_string_0 t0 t1 t11 (vs1.getD 0 undef) (vs1.getD 1 undef) w N1 K)
theorem S_slices_BinarySearch_string_string_eq (t0 t1:Value)(w:World)(K:Ending→World→Prop):wpX prog 54 [] [(3,[7,8])] none (bodyOf Tryz.f111) (topQ prog [.tmp 4,.tmp 5] K) (startX [t0,t1]) [] w=S_slices_BinarySearch_string_string t0 t1 w K:=by kernel_rfl
theorem S_slices_BinarySearch_string_string_ok {t0 t1:Value}{w:World}{K:Ending→World→Prop}(h:S_slices_BinarySearch_string_string t0 t1 w K):Calls prog 111 #[t0,t1] w K:=
 calls_of_wpX Tryz.func111 rfl rfl rfl rfl (Eq.mpr (S_slices_BinarySearch_string_string_eq t0 t1 w K) h)
def S_slices_Contains_string_string (t0 t1:Value)(w:World)(K:Ending→World→Prop):Prop:=
 CallX prog 131 #[t0,t1] w (pk K) fun t7 w=>
 DoX prog (mBin .geq 3 t7 (.int .i64 0)) w (pk K) fun t8 w=>
 K (.returned t8) w
theorem S_slices_Contains_string_string_eq (t0 t1:Value)(w:World)(K:Ending→World→Prop):wpX prog 9 [] [] none (bodyOf Tryz.f97) (topQ prog [.tmp 4] K) (startX [t0,t1]) [] w=S_slices_Contains_string_string t0 t1 w K:=by kernel_rfl
theorem S_slices_Contains_string_string_ok {t0 t1:Value}{w:World}{K:Ending→World→Prop}(h:S_slices_Contains_string_string t0 t1 w K):Calls prog 97 #[t0,t1] w K:=
 calls_of_wpX Tryz.func97 rfl rfl rfl rfl (Eq.mpr (S_slices_Contains_string_string_eq t0 t1 w K) h)
def S_cmp_Less_string (t0 t1:Value)(w:World)(K:Ending→World→Prop):Prop:=
 CallX prog 168 #[t0] w (pk K) fun t6 w=>
 GDo t6 true (fun E=>E t1 w) w fun t8 w=>
 GDo t6 true (fun E=>CallX prog 168 #[t8] w (pk K) E) w fun t9 w=>
 GDo t6 true (fun E=>DoX prog (mUn .not t9) w (pk K) E) w fun t10 w=>
 DoX prog (mPick t6 t10 (.bool false)) w (pk K) fun t11 w=>
 GDo t11 false (fun E=>E t0 w) w fun t13 w=>
 GDo t11 false (fun E=>E t1 w) w fun t14 w=>
 GDo t11 false (fun E=>DoX prog (mBin .lss 9 t13 t14) w (pk K) E) w fun t15 w=>
 DoX prog (mPick t11 (.bool true) t15) w (pk K) fun t16 w=>
 K (.returned t16) w
theorem S_cmp_Less_string_eq (t0 t1:Value)(w:World)(K:Ending→World→Prop):wpX prog 17 [] [] none (bodyOf Tryz.f145) (topQ prog [.tmp 4] K) (startX [t0,t1]) [] w=S_cmp_Less_string t0 t1 w K:=by kernel_rfl
theorem S_cmp_Less_string_ok {t0 t1:Value}{w:World}{K:Ending→World→Prop}(h:S_cmp_Less_string t0 t1 w K):Calls prog 145 #[t0,t1] w K:=
 calls_of_wpX Tryz.func145 rfl rfl rfl rfl (Eq.mpr (S_cmp_Less_string_eq t0 t1 w K) h)
def S_cmp_isNaN_string (t0:Value)(w:World)(K:Ending→World→Prop):Prop:=
 DoX prog (mEq .neq 9 (.tmp 3) (.tmp 4) t0 t0) w (pk K) fun t5 w=>
 K (.returned t5) w
theorem S_cmp_isNaN_string_eq (t0:Value)(w:World)(K:Ending→World→Prop):wpX prog 6 [] [] none (bodyOf Tryz.f168) (topQ prog [.tmp 2] K) (startX [t0]) [] w=S_cmp_isNaN_string t0 w K:=by kernel_rfl
theorem S_cmp_isNaN_string_ok {t0:Value}{w:World}{K:Ending→World→Prop}(h:S_cmp_isNaN_string t0 w K):Calls prog 168 #[t0] w K:=
 calls_of_wpX Tryz.func168 rfl rfl rfl rfl (Eq.mpr (S_cmp_isNaN_string_eq t0 w K) h)
def S_slices_isNaN_string (t0:Value)(w:World)(K:Ending→World→Prop):Prop:=
 DoX prog (mEq .neq 9 (.tmp 3) (.tmp 4) t0 t0) w (pk K) fun t5 w=>
 K (.returned t5) w
theorem S_slices_isNaN_string_eq (t0:Value)(w:World)(K:Ending→World→Prop):wpX prog 6 [] [] none (bodyOf Tryz.f146) (topQ prog [.tmp 2] K) (startX [t0]) [] w=S_slices_isNaN_string t0 w K:=by kernel_rfl
theorem S_slices_isNaN_string_ok {t0:Value}{w:World}{K:Ending→World→Prop}(h:S_slices_isNaN_string t0 w K):Calls prog 146 #[t0] w K:=
 calls_of_wpX Tryz.func146 rfl rfl rfl rfl (Eq.mpr (S_slices_isNaN_string_eq t0 w K) h)
end
section
open Eng Go.RowKit
theorem sclone_s_ret (v:Value)(n:Nat)(cs:List Value)(w:World)(hs:Sl w v 1 n cs)(h1:∀u∈cs,u.oneCell'=true)(hb:n≤1000000000000) :
  Ret prog 148 #[v] w (fun v' w'=>Own w w' [.urow 9 1 v' n cs]):=by
 have hs':=hs;obtain⟨hl,a,cap,rfl,hn,hc⟩:=hs;refine ret_of fun K hK=>S_slices_Clone_string_string_ok ?_;unfold S_slices_Clone_string_string;rw[e_nilS Tryz.underlying23];cases a with
|none=>
  obtain rfl:=hn rfl;obtain rfl:cs=[]:=List.eq_nil_of_length_eq_zero (by omega);simp only[Option.isNone_none,i_t];exact hK _ _ ((Own.start w).nilU 9 1)
|some p=>
  simp only[Option.isNone_some,i_f];refine o_new (fun b=>.slice (some ⟨b,0,none⟩) 0 0) [] 9 (fun _=>by kernel_rfl) (Own.start w) fun b w1 ho=>?_;have ho:=ho.toU 1 0 0 (by simp) (by omega) (by omega);refine o_appendU 0 Tryz.underlying23 (show elB prog 9 1 16=true by kernel_rfl) (by decide) ho rfl (ho.oldSl hs') h1 (by omega) (by omega) fun v' w2 ho=>?_;refine hK _ _ ?_;simpa using ho
theorem sclone_o_ret (v:Value)(n:Nat)(cs:List Value)(w:World)(hs:Sl w v 6 n cs)(h1:∀u∈cs,u.oneCell'=true)(hb:n≤1000000000000) :
  Ret prog 150 #[v] w (fun v' w'=>Own w w' [.urow 48 6 v' n cs]):=by
 have hs':=hs;obtain⟨hl,a,cap,rfl,hn,hc⟩:=hs;refine ret_of fun K hK=>S_slices_Clone_foliant_api_Object_foliant_api_Object_ok ?_;unfold S_slices_Clone_foliant_api_Object_foliant_api_Object;rw[e_nilS Tryz.underlying46];cases a with
|none=>
  obtain rfl:=hn rfl;obtain rfl:cs=[]:=List.eq_nil_of_length_eq_zero (by omega);simp only[Option.isNone_none,i_t];exact hK _ _ ((Own.start w).nilU 48 6)
|some p=>
  simp only[Option.isNone_some,i_f];refine o_new (fun b=>.slice (some ⟨b,0,none⟩) 0 0) [] 48 (fun _=>by kernel_rfl) (Own.start w) fun b w1 ho=>?_;have ho:=ho.toU 6 0 0 (by simp) (by omega) (by omega);refine o_appendU 0 Tryz.underlying46 (show elB prog 48 6 88=true by kernel_rfl) (by decide) ho rfl (ho.oldSl hs') h1 (by omega) (by omega) fun v' w2 ho=>?_;refine hK _ _ ?_;simpa using ho
theorem ov_s {w:World}{a b:Addr}{la ca lb cb:Nat}(hne:a.block≠b.block){tA tB:TypeId}{kA kB:Nat}(hsa:w.shape? a.block=some (tA,kA))(hsb:w.shape? b.block=some (tB,kB))(hkB:kB≠0)(hfa:w.frozen? a=false)(hfe:w.frozen? { block:=a.block,off:=kA }=false) :
  (mCallV (.func (.func 169) #[] #[]) #[.slice (some a) la ca,.slice (some b) lb cb]).run prog w=.ok (.value (.bool false)) w:=by
 have hx:(callFunc 169 #[.slice (some a) la ca,.slice (some b) lb cb]).run prog w=.ok (.value (.bool false)) w:=by
  rw[run_callFunc_extern (e:=Extern.SlicesOverlaps.overlaps #[23,23] #[4]) Tryz.func169 (by kernel_rfl) (by kernel_rfl) (by kernel_rfl) (by kernel_rfl)];rw[Lib.run_overlaps_apart w 23 4 9 Tryz.underlying23 1 (fun w=>by kernel_rfl) a b la ca lb cb hne tA tB kA kB hsa hsb hkB hfa hfe];rfl
 simpa[mCallV,invoke,Deferred.ofValue,resolve] using hx
theorem sinsert_s_ret (v:Value)(n:Nat)(xs:List Value)(k nb:Nat)(new:List Value)(w:World)(hu:(Ent.urow 9 1 v n xs).is w)(hnb:w.heap[nb]?=some (.cells new.toArray 9 (0,0)))(hl:new.length=1)
  (hne:¬(Ent.urow 9 1 v n xs).blk nb) (h1:∀u∈xs,u.oneCell'=true) (h2:∀u∈new,u.oneCell'=true) (hk:k≤n) (hb:n≤100000000000) :
  Ret prog 151 #[v,.int .i64 (k:Int),.slice (some ⟨nb,0,none⟩) 1 1] w
   (fun v' w'=>∃e',e'=Ent.urow 9 1 v' (n+1) (xs.take (k*1)++new++xs.drop (k*1))∧Turn (.urow 9 1 v n xs) e' w w'):=by
 have hxl:xs.length=n*1:=(show w.ownsRow 0 9 1 v n xs from hu).1;have hs2:Sl w (.slice (some ⟨nb,0,none⟩) 1 1) 1 1 new:=⟨by omega,some ⟨nb,0,none⟩,1,rfl,fun h=>(by cases h),fun p hp=>by cases hp;exact⟨fun _=>rfl,fun j u hj=>by rw[Nat.zero_add];exact cells_cell (T:=9) hnb hj⟩⟩;have ho:=OwnS.lend hu;refine ret_of fun K hK=>S_slices_Insert_string_string_ok ?_;unfold S_slices_Insert_string_string;have hel:elB prog 9 1 16=true:=by kernel_rfl
 have hsz:(Tryz.prog.info? 9).map (·.size)=some 1:=by kernel_rfl
 obtain⟨a,cap,rfl,hcap⟩:∃a cap,v=.slice a n cap∧n≤cap:=by
  rcases (show w.ownsRow 0 9 1 v n xs from hu).2 with ⟨rfl,rfl⟩|⟨g,cap,cur,rfl,_,_,hnc,_⟩
  ·exact⟨none,0,rfl,Nat.le_refl _⟩
  ·exact⟨_,cap,rfl,hnc⟩
 refine do_eq (run_sl_l Tryz.underlying23 hsz (by omega) (by omega)) |>.mpr ?_;rw[sl_len Tryz.underlying23 hs2];simp only[rs,Int.natCast_one,Int.one_ne_zero,decide_false];rw[sl_len_any Tryz.underlying23];simp only[rs];by_cases hkn:k=n
 ·subst hkn;simp only[decide_true,rs];refine o_appendU 0 Tryz.underlying23 hel (by decide) ho rfl hs2 h2 (by omega) (by omega) fun v' w2 ho=>?_;refine hK _ _ ⟨_,rfl,?_⟩;have e:xs.take (k*1)++new++xs.drop (k*1)=xs++new:=by rw[List.take_of_length_le (by omega),List.drop_eq_nil_of_le (by omega),List.append_nil]
  rw[e];exact OwnS.back (L:=[]) ho
 have hlt:k < n:=by omega
 have hne':¬(k:Int)=(n:Int):=by omega
 simp only[hne',decide_false,rs];rcases (show w.ownsRow 0 9 1 (.slice a n cap) n xs from hu).2 with ⟨_,h0⟩|⟨g,cap',cur,he,hbg,hg,hnc,hcm,hcs,htake⟩
 ·omega
 injection he with he1 _ he2
 subst he1;subst he2;rw[wrap64_id (by omega) (by omega),cap_sl Tryz.underlying23];simp only[rs];have hgn:nb≠g:=fun e=>hne (by rw[e];rfl);have hcl:cur.toList.length=cap*1:=by simpa using hcs
 have hoc:OwnS (Ent.urow 9 1 (.slice (some ⟨g,0,none⟩) n cap) n xs).blk w w [.cells g cur.toList 9]:=
  ho.turn 0 rfl ⟨Grew.refl _ _,by show w.heap[g]?=_;rw[hg],fun j hj=>.inl (by simp only[Ent.cells] at hj;subst hj;rfl)⟩
 have hxc:∀j u,xs[j]?=some u→w.cell? ⟨g,0+j,none⟩=some u:=fun j u hj=>by
  rw[Nat.zero_add];exact hoc.cell 0 rfl j (by rw[←htake] at hj;rw[List.getElem?_take] at hj;split at hj<;>first|exact hj|cases hj)
 have htl:(xs.drop (k*1)).length=(n - k)*1:=by rw[List.length_drop,hxl,←Nat.mul_sub_right_distrib]
 have h1t:∀u∈xs.drop (k*1),u.oneCell'=true:=fun u hu=>h1 u (List.mem_of_mem_drop hu);by_cases hroom:(cap:Int) < (n:Int)+1
 ·simp only[hroom,decide_true,rs];refine do_eq (run_sl_h Tryz.underlying23 hsz (by omega) (by omega)) |>.mpr ?_;rw[show subA (some (⟨g,0,none⟩:Addr)) 0 cap 1=some ⟨g,0,none⟩ from subA_0 (a:=⟨g,0,none⟩),Int.toNat_natCast];rw[wrap64_id (n:=(n:Int)+1 - k) (by omega) (by omega),show (n:Int)+1 - k=((n+1 - k:Nat):Int) by omega];refine o_growZ (olds:=xs.take (k*1)) Tryz.underlying23 Tryz.underlying3 hel (by decide) hoc (by rw[List.length_take,hxl,Nat.min_eq_left (by omega)]) (fun j u hj=>hxc j u (by rw[List.getElem?_take] at hj;split at hj<;>first|exact hj|cases hj)) (by omega) (by omega) (by omega) (by omega) fun b c zs w2 hc1 hc2 hzs ho=>?_;rw[show k+(n+1 - k)=n+1 by omega] at hc1 ⊢;have hol:(xs.take (k*1)).length=k*1:=by rw[List.length_take,hxl,Nat.min_eq_left (by omega)]
  refine do_eq (run_sl_l Tryz.underlying23 hsz (by omega) (by omega)) |>.mpr ?_;rw[Int.toNat_natCast,subA_in (by omega)];have hbg2:b≠g:=by
   have:=(List.pairwise_cons.1 ho.apart).1 (.cells g cur.toList 9) (by simp);intro e;exact this b rfl e
  have old2:∀{W:World} {b':Nat} {x y:List Value},OwnS (Ent.urow 9 1 (.slice (some ⟨g,0,none⟩) n cap) n xs).blk w W [.cells b' x 9,.cells g y 9]→W.heap[nb]?=some (.cells new.toArray 9 (0,0)):=fun h=>(h.grew.block nb (lt_of_get hnb) hne).trans hnb;refine o_copyC 0 (src:=new) Tryz.underlying23 hsz ho rfl ?_ (fun j u hj=>by rw[add_none,Nat.zero_add];exact cells_cell (T:=9) (old2 ho) hj) ?_ h2 fun _ w3 ho=>?_
  ·rw[hl,Nat.min_eq_left (by omega)]
  ·rw[List.length_append,hol,hl];omega
  refine quiet ?_;refine q_add ?_;rw[wrap64_id (by omega) (by omega),show (k:Int)+1=((k+1:Nat):Int) by omega];refine q_do _ (fun W=>run_sl_l Tryz.underlying23 hsz (by omega) (by omega)) ?_;refine q_do _ (fun W=>run_sl_l Tryz.underlying23 hsz (by omega) (by omega)) ?_;rw[Int.toNat_natCast,Int.toNat_natCast,subA_in (by omega),subA_in (by omega)];intro w4 hw;have ho:=ho.grow hw;simp only[Nat.zero_add,List.take_left' hol,List.drop_append,hol] at ho;rw[show k*1+new.length - k*1=1 by omega,List.drop_eq_nil_of_le (show (xs.take (k*1)).length≤k*1+new.length by omega),List.nil_append] at ho;refine o_copyC 0 (src:=xs.drop (k*1)) Tryz.underlying23 hsz ho rfl ?_ (fun j u hj=>?_) ?_ h1t fun _ w5 ho=>?_
  ·rw[htl];congr 1;rw[Nat.min_eq_left (by omega)]
  ·rw[add_none];refine ho.cell 1 rfl (0+k*1+j) ?_;rw[List.getElem?_drop] at hj;rw[Nat.zero_add];rw[←htake] at hj;rw[List.getElem?_take] at hj;split at hj<;>first|exact hj|cases hj
  ·simp only[List.length_append,List.length_drop,hol,hl,hxl];omega
  have hcur:((xs.take (k*1)++new++zs.drop 1).take (0+(k+1)*1)++xs.drop (k*1)++(xs.take (k*1)++new++zs.drop 1).drop (0+(k+1)*1+(xs.drop (k*1)).length))=(xs.take (k*1)++new++xs.drop (k*1))++(zs.drop 1).drop ((n - k)*1):=by
   rw[List.take_left' (show (xs.take (k*1)++new).length=0+(k+1)*1 by rw[List.length_append,hol,hl];omega)];rw[List.drop_append,List.drop_eq_nil_of_le (show (xs.take (k*1)++new).length≤_ by rw[List.length_append,hol,hl,htl];omega),List.nil_append]
   congr 2
   rw[List.length_append,hol,hl,htl];omega
  simp only[List.set_cons_zero] at ho;rw[hcur] at ho;have ho:=ho.toU 1 (n+1) c (by simp only[List.length_append,List.length_drop,hol,hl,hxl];omega) hc1 hc2;rw[List.take_left' (show (xs.take (k*1)++new++xs.drop (k*1)).length=(n+1)*1 by simp only[List.length_append,List.length_drop,hol,hl,hxl];omega)] at ho;exact hK _ _ ⟨_,rfl,OwnS.back ho⟩
 ·have hroom':n+1≤cap:=by omega
  simp only[hroom,decide_false,rs];rw[show (n:Int)+1=((n+1:Nat):Int) by omega];refine do_eq (run_sl_h Tryz.underlying23 hsz (by omega) (by omega)) |>.mpr ?_;rw[show subA (some (⟨g,0,none⟩:Addr)) 0 cap 1=some ⟨g,0,none⟩ from subA_0 (a:=⟨g,0,none⟩),Int.toNat_natCast];rw[wrap64_id (n:=(k:Int)+1) (by omega) (by omega),show (k:Int)+1=((k+1:Nat):Int) by omega];refine do_eq (run_sl_l Tryz.underlying23 hsz (by omega) (by omega)) |>.mpr ?_;rw[Int.toNat_natCast,subA_in (by omega)];refine do_eq (ov_s (a:=⟨nb,0,none⟩) (b:=⟨g,0+(k+1)*1,none⟩) hgn (tA:=9) (tB:=9) (kA:=new.length) (kB:=cur.size) (by simp[World.shape?,hnb]) (by simp[World.shape?,hg]) (by rw[hcs];omega) (by simp[World.frozen?,hnb]) (by simp[World.frozen?,hnb])) |>.mpr ?_;simp only[rs,Bool.not_false];refine quiet ?_;refine q_add ?_;rw[wrap64_id (by omega) (by omega),show (k:Int)+1=((k+1:Nat):Int) by omega];refine q_do _ (fun W=>run_sl_l Tryz.underlying23 hsz (by omega) (by omega)) ?_;refine q_do _ (fun W=>run_sl_l Tryz.underlying23 hsz (by omega) (by omega)) ?_;rw[Int.toNat_natCast,Int.toNat_natCast,subA_in (by omega),subA_in (by omega)];intro w3 hw;have ho:=hoc.grow hw;have hxcur:∀j u,(xs.drop (k*1))[j]?=some u→cur.toList[k*1+j]?=some u:=fun j u hj=>by
   rw[List.getElem?_drop,←htake,List.getElem?_take] at hj;split at hj<;>first|exact hj|cases hj
  refine o_copyC 0 (src:=xs.drop (k*1)) Tryz.underlying23 hsz ho rfl ?_ (fun j u hj=>?_) ?_ h1t fun _ w4 ho=>?_
  ·rw[htl];congr 1;rw[Nat.min_eq_right (by omega)];omega
  ·rw[add_none,Nat.zero_add];exact ho.cell 0 rfl _ (hxcur j u hj)
  ·rw[htl,hcl];have:(n - k)*1+(k+1)*1=(n+1)*1:=by rw[←Nat.add_mul];congr 1;omega
   have:(n+1)*1≤cap*1:=Nat.mul_le_mul_right _ hroom';omega
  simp only[List.set_cons_zero] at ho;refine do_eq (run_sl_l Tryz.underlying23 hsz (by omega) (by omega)) |>.mpr ?_;rw[Int.toNat_natCast,subA_in (by omega)];have hnew:w4.heap[nb]?=some (.cells new.toArray 9 (0,0)):=(ho.grew.block nb (lt_of_get hnb) hne).trans hnb;have hkc:(k+1)*1≤cap*1:=Nat.mul_le_mul_right _ (by omega);have hnc2:(n+1)*1≤cap*1:=Nat.mul_le_mul_right _ hroom';have hsum:(n - k)*1+(k+1)*1=(n+1)*1:=by rw[←Nat.add_mul];congr 1;omega
  refine o_copyC 0 (src:=new) Tryz.underlying23 hsz ho rfl ?_ (fun j u hj=>by rw[add_none,Nat.zero_add];exact cells_cell (T:=9) hnew hj) ?_ h2 fun _ w5 ho=>?_
  ·rw[hl,Nat.min_eq_left (by omega)]
  ·simp only[List.length_append,List.length_take,List.length_drop,hcl,hl,htl];omega
  simp only[List.set_cons_zero] at ho;have hck:cur.toList.take (k*1)=xs.take (k*1):=by
   rw[←htake,List.take_take,Nat.min_eq_left (Nat.mul_le_mul_right _ (by omega))]
  have hcur:((cur.toList.take (0+(k+1)*1)++xs.drop (k*1)++cur.toList.drop (0+(k+1)*1+(xs.drop (k*1)).length)).take (0+k*1)++new++(cur.toList.take (0+(k+1)*1)++xs.drop (k*1)++cur.toList.drop (0+(k+1)*1+(xs.drop (k*1)).length)).drop (0+k*1+new.length))
   =(xs.take (k*1)++new++xs.drop (k*1))++cur.toList.drop (0+(k+1)*1+(xs.drop (k*1)).length):=by
   have hlt:(cur.toList.take (0+(k+1)*1)).length=0+(k+1)*1:=by rw[List.length_take,hcl];omega
   rw[List.append_assoc (cur.toList.take (0+(k+1)*1))];rw[List.take_append_of_le_length (by rw[hlt];omega),List.take_take,Nat.min_eq_left (by omega),Nat.zero_add,hck];rw[List.drop_append,List.drop_eq_nil_of_le (show (cur.toList.take (0+(k+1)*1)).length≤k*1+new.length by rw[hlt,hl];omega),List.nil_append];rw[show k*1+new.length - (cur.toList.take (0+(k+1)*1)).length=0 by rw[hlt,hl];omega,List.drop_zero];simp only[Nat.zero_add,List.append_assoc]
  rw[hcur] at ho;have ho:=ho.toU 1 (n+1) cap (by simp only[List.length_append,List.length_take,List.length_drop,hcl,hl,hxl];omega) hroom' (by simp only[maxLen] at hcm;exact hcm);rw[List.take_left' (show (xs.take (k*1)++new++xs.drop (k*1)).length=(n+1)*1 by simp only[List.length_append,List.length_take,List.length_drop,hl,hxl];omega)] at ho;exact hK _ _ ⟨_,rfl,OwnS.back ho⟩
theorem ov_o {w:World}{a b:Addr}{la ca lb cb:Nat}(hne:a.block≠b.block){tA tB:TypeId}{kA kB:Nat}(hsa:w.shape? a.block=some (tA,kA))(hsb:w.shape? b.block=some (tB,kB))(hkB:kB≠0)(hfa:w.frozen? a=false)(hfe:w.frozen? { block:=a.block,off:=kA }=false) :
  (mCallV (.func (.func 171) #[] #[]) #[.slice (some a) la ca,.slice (some b) lb cb]).run prog w=.ok (.value (.bool false)) w:=by
 have hx:(callFunc 171 #[.slice (some a) la ca,.slice (some b) lb cb]).run prog w=.ok (.value (.bool false)) w:=by
  rw[run_callFunc_extern (e:=Extern.SlicesOverlaps.overlaps #[46,46] #[4]) Tryz.func171 (by kernel_rfl) (by kernel_rfl) (by kernel_rfl) (by kernel_rfl)];rw[Lib.run_overlaps_apart w 46 4 48 Tryz.underlying46 6 (fun w=>by kernel_rfl) a b la ca lb cb hne tA tB kA kB hsa hsb hkB hfa hfe];rfl
 simpa[mCallV,invoke,Deferred.ofValue,resolve] using hx
theorem sinsert_o_ret (v:Value)(n:Nat)(xs:List Value)(k nb:Nat)(new:List Value)(w:World)(hu:(Ent.urow 48 6 v n xs).is w)(hnb:w.heap[nb]?=some (.cells new.toArray 48 (0,0)))(hl:new.length=6)
  (hne:¬(Ent.urow 48 6 v n xs).blk nb) (h1:∀u∈xs,u.oneCell'=true) (h2:∀u∈new,u.oneCell'=true) (hk:k≤n) (hb:n≤100000000000) :
  Ret prog 152 #[v,.int .i64 (k:Int),.slice (some ⟨nb,0,none⟩) 1 1] w
   (fun v' w'=>∃e',e'=Ent.urow 48 6 v' (n+1) (xs.take (k*6)++new++xs.drop (k*6))∧Turn (.urow 48 6 v n xs) e' w w'):=by
 have hxl:xs.length=n*6:=(show w.ownsRow 0 48 6 v n xs from hu).1;have hs2:Sl w (.slice (some ⟨nb,0,none⟩) 1 1) 6 1 new:=⟨by omega,some ⟨nb,0,none⟩,1,rfl,fun h=>(by cases h),fun p hp=>by cases hp;exact⟨fun _=>rfl,fun j u hj=>by rw[Nat.zero_add];exact cells_cell (T:=48) hnb hj⟩⟩;have ho:=OwnS.lend hu;refine ret_of fun K hK=>S_slices_Insert_foliant_api_Object_foliant_api_Object_ok ?_;unfold S_slices_Insert_foliant_api_Object_foliant_api_Object;have hel:elB prog 48 6 88=true:=by kernel_rfl
 have hsz:(Tryz.prog.info? 48).map (·.size)=some 6:=by kernel_rfl
 obtain⟨a,cap,rfl,hcap⟩:∃a cap,v=.slice a n cap∧n≤cap:=by
  rcases (show w.ownsRow 0 48 6 v n xs from hu).2 with ⟨rfl,rfl⟩|⟨g,cap,cur,rfl,_,_,hnc,_⟩
  ·exact⟨none,0,rfl,Nat.le_refl _⟩
  ·exact⟨_,cap,rfl,hnc⟩
 refine do_eq (run_sl_l Tryz.underlying46 hsz (by omega) (by omega)) |>.mpr ?_;rw[sl_len Tryz.underlying46 hs2];simp only[rs,Int.natCast_one,Int.one_ne_zero,decide_false];rw[sl_len_any Tryz.underlying46];simp only[rs];by_cases hkn:k=n
 ·subst hkn;simp only[decide_true,rs];refine o_appendU 0 Tryz.underlying46 hel (by decide) ho rfl hs2 h2 (by omega) (by omega) fun v' w2 ho=>?_;refine hK _ _ ⟨_,rfl,?_⟩;have e:xs.take (k*6)++new++xs.drop (k*6)=xs++new:=by rw[List.take_of_length_le (by omega),List.drop_eq_nil_of_le (by omega),List.append_nil]
  rw[e];exact OwnS.back (L:=[]) ho
 have hlt:k < n:=by omega
 have hne':¬(k:Int)=(n:Int):=by omega
 simp only[hne',decide_false,rs];rcases (show w.ownsRow 0 48 6 (.slice a n cap) n xs from hu).2 with ⟨_,h0⟩|⟨g,cap',cur,he,hbg,hg,hnc,hcm,hcs,htake⟩
 ·omega
 injection he with he1 _ he2
 subst he1;subst he2;rw[wrap64_id (by omega) (by omega),cap_sl Tryz.underlying46];simp only[rs];have hgn:nb≠g:=fun e=>hne (by rw[e];rfl);have hcl:cur.toList.length=cap*6:=by simpa using hcs
 have hoc:OwnS (Ent.urow 48 6 (.slice (some ⟨g,0,none⟩) n cap) n xs).blk w w [.cells g cur.toList 48]:=
  ho.turn 0 rfl ⟨Grew.refl _ _,by show w.heap[g]?=_;rw[hg],fun j hj=>.inl (by simp only[Ent.cells] at hj;subst hj;rfl)⟩
 have hxc:∀j u,xs[j]?=some u→w.cell? ⟨g,0+j,none⟩=some u:=fun j u hj=>by
  rw[Nat.zero_add];exact hoc.cell 0 rfl j (by rw[←htake] at hj;rw[List.getElem?_take] at hj;split at hj<;>first|exact hj|cases hj)
 have htl:(xs.drop (k*6)).length=(n - k)*6:=by rw[List.length_drop,hxl,←Nat.mul_sub_right_distrib]
 have h1t:∀u∈xs.drop (k*6),u.oneCell'=true:=fun u hu=>h1 u (List.mem_of_mem_drop hu);by_cases hroom:(cap:Int) < (n:Int)+1
 ·simp only[hroom,decide_true,rs];refine do_eq (run_sl_h Tryz.underlying46 hsz (by omega) (by omega)) |>.mpr ?_;rw[show subA (some (⟨g,0,none⟩:Addr)) 0 cap 6=some ⟨g,0,none⟩ from subA_0 (a:=⟨g,0,none⟩),Int.toNat_natCast];rw[wrap64_id (n:=(n:Int)+1 - k) (by omega) (by omega),show (n:Int)+1 - k=((n+1 - k:Nat):Int) by omega];refine o_growZ (olds:=xs.take (k*6)) Tryz.underlying46 Tryz.underlying3 hel (by decide) hoc (by rw[List.length_take,hxl,Nat.min_eq_left (by omega)]) (fun j u hj=>hxc j u (by rw[List.getElem?_take] at hj;split at hj<;>first|exact hj|cases hj)) (by omega) (by omega) (by omega) (by omega) fun b c zs w2 hc1 hc2 hzs ho=>?_;rw[show k+(n+1 - k)=n+1 by omega] at hc1 ⊢;have hol:(xs.take (k*6)).length=k*6:=by rw[List.length_take,hxl,Nat.min_eq_left (by omega)]
  refine do_eq (run_sl_l Tryz.underlying46 hsz (by omega) (by omega)) |>.mpr ?_;rw[Int.toNat_natCast,subA_in (by omega)];have hbg2:b≠g:=by
   have:=(List.pairwise_cons.1 ho.apart).1 (.cells g cur.toList 48) (by simp);intro e;exact this b rfl e
  have old2:∀{W:World} {b':Nat} {x y:List Value},OwnS (Ent.urow 48 6 (.slice (some ⟨g,0,none⟩) n cap) n xs).blk w W [.cells b' x 48,.cells g y 48]→W.heap[nb]?=some (.cells new.toArray 48 (0,0)):=fun h=>(h.grew.block nb (lt_of_get hnb) hne).trans hnb;refine o_copyC 0 (src:=new) Tryz.underlying46 hsz ho rfl ?_ (fun j u hj=>by rw[add_none,Nat.zero_add];exact cells_cell (T:=48) (old2 ho) hj) ?_ h2 fun _ w3 ho=>?_
  ·rw[hl,Nat.min_eq_left (by omega)]
  ·rw[List.length_append,hol,hl];omega
  refine quiet ?_;refine q_add ?_;rw[wrap64_id (by omega) (by omega),show (k:Int)+1=((k+1:Nat):Int) by omega];refine q_do _ (fun W=>run_sl_l Tryz.underlying46 hsz (by omega) (by omega)) ?_;refine q_do _ (fun W=>run_sl_l Tryz.underlying46 hsz (by omega) (by omega)) ?_;rw[Int.toNat_natCast,Int.toNat_natCast,subA_in (by omega),subA_in (by omega)];intro w4 hw;have ho:=ho.grow hw;simp only[Nat.zero_add,List.take_left' hol,List.drop_append,hol] at ho;rw[show k*6+new.length - k*6=6 by omega,List.drop_eq_nil_of_le (show (xs.take (k*6)).length≤k*6+new.length by omega),List.nil_append] at ho;refine o_copyC 0 (src:=xs.drop (k*6)) Tryz.underlying46 hsz ho rfl ?_ (fun j u hj=>?_) ?_ h1t fun _ w5 ho=>?_
  ·rw[htl];congr 1;rw[Nat.min_eq_left (by omega)]
  ·rw[add_none];refine ho.cell 1 rfl (0+k*6+j) ?_;rw[List.getElem?_drop] at hj;rw[Nat.zero_add];rw[←htake] at hj;rw[List.getElem?_take] at hj;split at hj<;>first|exact hj|cases hj
  ·simp only[List.length_append,List.length_drop,hol,hl,hxl];omega
  have hcur:((xs.take (k*6)++new++zs.drop 6).take (0+(k+1)*6)++xs.drop (k*6)++(xs.take (k*6)++new++zs.drop 6).drop (0+(k+1)*6+(xs.drop (k*6)).length))=(xs.take (k*6)++new++xs.drop (k*6))++(zs.drop 6).drop ((n - k)*6):=by
   rw[List.take_left' (show (xs.take (k*6)++new).length=0+(k+1)*6 by rw[List.length_append,hol,hl];omega)];rw[List.drop_append,List.drop_eq_nil_of_le (show (xs.take (k*6)++new).length≤_ by rw[List.length_append,hol,hl,htl];omega),List.nil_append]
   congr 2
   rw[List.length_append,hol,hl,htl];omega
  simp only[List.set_cons_zero] at ho;rw[hcur] at ho;have ho:=ho.toU 6 (n+1) c (by simp only[List.length_append,List.length_drop,hol,hl,hxl];omega) hc1 hc2;rw[List.take_left' (show (xs.take (k*6)++new++xs.drop (k*6)).length=(n+1)*6 by simp only[List.length_append,List.length_drop,hol,hl,hxl];omega)] at ho;exact hK _ _ ⟨_,rfl,OwnS.back ho⟩
 ·have hroom':n+1≤cap:=by omega
  simp only[hroom,decide_false,rs];rw[show (n:Int)+1=((n+1:Nat):Int) by omega];refine do_eq (run_sl_h Tryz.underlying46 hsz (by omega) (by omega)) |>.mpr ?_;rw[show subA (some (⟨g,0,none⟩:Addr)) 0 cap 6=some ⟨g,0,none⟩ from subA_0 (a:=⟨g,0,none⟩),Int.toNat_natCast];rw[wrap64_id (n:=(k:Int)+1) (by omega) (by omega),show (k:Int)+1=((k+1:Nat):Int) by omega];refine do_eq (run_sl_l Tryz.underlying46 hsz (by omega) (by omega)) |>.mpr ?_;rw[Int.toNat_natCast,subA_in (by omega)];refine do_eq (ov_o (a:=⟨nb,0,none⟩) (b:=⟨g,0+(k+1)*6,none⟩) hgn (tA:=48) (tB:=48) (kA:=new.length) (kB:=cur.size) (by simp[World.shape?,hnb]) (by simp[World.shape?,hg]) (by rw[hcs];omega) (by simp[World.frozen?,hnb]) (by simp[World.frozen?,hnb])) |>.mpr ?_;simp only[rs,Bool.not_false];refine quiet ?_;refine q_add ?_;rw[wrap64_id (by omega) (by omega),show (k:Int)+1=((k+1:Nat):Int) by omega];refine q_do _ (fun W=>run_sl_l Tryz.underlying46 hsz (by omega) (by omega)) ?_;refine q_do _ (fun W=>run_sl_l Tryz.underlying46 hsz (by omega) (by omega)) ?_;rw[Int.toNat_natCast,Int.toNat_natCast,subA_in (by omega),subA_in (by omega)];intro w3 hw;have ho:=hoc.grow hw;have hxcur:∀j u,(xs.drop (k*6))[j]?=some u→cur.toList[k*6+j]?=some u:=fun j u hj=>by
   rw[List.getElem?_drop,←htake,List.getElem?_take] at hj;split at hj<;>first|exact hj|cases hj
  refine o_copyC 0 (src:=xs.drop (k*6)) Tryz.underlying46 hsz ho rfl ?_ (fun j u hj=>?_) ?_ h1t fun _ w4 ho=>?_
  ·rw[htl];congr 1;rw[Nat.min_eq_right (by omega)];omega
  ·rw[add_none,Nat.zero_add];exact ho.cell 0 rfl _ (hxcur j u hj)
  ·rw[htl,hcl];have:(n - k)*6+(k+1)*6=(n+1)*6:=by rw[←Nat.add_mul];congr 1;omega
   have:(n+1)*6≤cap*6:=Nat.mul_le_mul_right _ hroom';omega
  simp only[List.set_cons_zero] at ho;refine do_eq (run_sl_l Tryz.underlying46 hsz (by omega) (by omega)) |>.mpr ?_;rw[Int.toNat_natCast,subA_in (by omega)];have hnew:w4.heap[nb]?=some (.cells new.toArray 48 (0,0)):=(ho.grew.block nb (lt_of_get hnb) hne).trans hnb;have hkc:(k+1)*6≤cap*6:=Nat.mul_le_mul_right _ (by omega);have hnc2:(n+1)*6≤cap*6:=Nat.mul_le_mul_right _ hroom';have hsum:(n - k)*6+(k+1)*6=(n+1)*6:=by rw[←Nat.add_mul];congr 1;omega
  refine o_copyC 0 (src:=new) Tryz.underlying46 hsz ho rfl ?_ (fun j u hj=>by rw[add_none,Nat.zero_add];exact cells_cell (T:=48) hnew hj) ?_ h2 fun _ w5 ho=>?_
  ·rw[hl,Nat.min_eq_left (by omega)]
  ·simp only[List.length_append,List.length_take,List.length_drop,hcl,hl,htl];omega
  simp only[List.set_cons_zero] at ho;have hck:cur.toList.take (k*6)=xs.take (k*6):=by
   rw[←htake,List.take_take,Nat.min_eq_left (Nat.mul_le_mul_right _ (by omega))]
  have hcur:((cur.toList.take (0+(k+1)*6)++xs.drop (k*6)++cur.toList.drop (0+(k+1)*6+(xs.drop (k*6)).length)).take (0+k*6)++new++(cur.toList.take (0+(k+1)*6)++xs.drop (k*6)++cur.toList.drop (0+(k+1)*6+(xs.drop (k*6)).length)).drop (0+k*6+new.length))
   =(xs.take (k*6)++new++xs.drop (k*6))++cur.toList.drop (0+(k+1)*6+(xs.drop (k*6)).length):=by
   have hlt:(cur.toList.take (0+(k+1)*6)).length=0+(k+1)*6:=by rw[List.length_take,hcl];omega
   rw[List.append_assoc (cur.toList.take (0+(k+1)*6))];rw[List.take_append_of_le_length (by rw[hlt];omega),List.take_take,Nat.min_eq_left (by omega),Nat.zero_add,hck];rw[List.drop_append,List.drop_eq_nil_of_le (show (cur.toList.take (0+(k+1)*6)).length≤k*6+new.length by rw[hlt,hl];omega),List.nil_append];rw[show k*6+new.length - (cur.toList.take (0+(k+1)*6)).length=0 by rw[hlt,hl];omega,List.drop_zero];simp only[Nat.zero_add,List.append_assoc]
  rw[hcur] at ho;have ho:=ho.toU 6 (n+1) cap (by simp only[List.length_append,List.length_take,List.length_drop,hcl,hl,hxl];omega) hroom' (by simp only[maxLen] at hcm;exact hcm);rw[List.take_left' (show (xs.take (k*6)++new++xs.drop (k*6)).length=(n+1)*6 by simp only[List.length_append,List.length_take,List.length_drop,hl,hxl];omega)] at ho;exact hK _ _ ⟨_,rfl,OwnS.back ho⟩
end
section
open Eng
def S_value_Int (t0:Value)(w:World)(K:Ending→World→Prop):Prop:=
 DoX prog (mAlloc 48) w (pk K) fun t2 w=>
 DoX prog (mBuild 48 #[(0,(.int .i64 2)),(1,t0)]) w (pk K) fun t4 w=>
 DoX prog (mStore 48 t2 t4) w (pk K) fun _ w=>
 RetX prog [.cell t2 48] w K
theorem S_value_Int_eq (t0:Value)(w:World)(K:Ending→World→Prop):wpX prog 5 [] [] none (bodyOf Tryz.f67) (topQ prog [.cell 2 48] K) (startX [t0]) [] w=S_value_Int t0 w K:=by kernel_rfl
theorem S_value_Int_ok {t0:Value}{w:World}{K:Ending→World→Prop}(h:S_value_Int t0 w K):Calls prog 67 #[t0] w K:=
 calls_of_wpX Tryz.func67 rfl rfl rfl rfl (Eq.mpr (S_value_Int_eq t0 w K) h)
def S_value_Name (t0:Value)(w:World)(K:Ending→World→Prop):Prop:=
 DoX prog (mAlloc 48) w (pk K) fun t2 w=>
 DoX prog (mBuild 48 #[(0,(.int .i64 5)),(3,t0)]) w (pk K) fun t4 w=>
 DoX prog (mStore 48 t2 t4) w (pk K) fun _ w=>
 RetX prog [.cell t2 48] w K
theorem S_value_Name_eq (t0:Value)(w:World)(K:Ending→World→Prop):wpX prog 5 [] [] none (bodyOf Tryz.f70) (topQ prog [.cell 2 48] K) (startX [t0]) [] w=S_value_Name t0 w K:=by kernel_rfl
theorem S_value_Name_ok {t0:Value}{w:World}{K:Ending→World→Prop}(h:S_value_Name t0 w K):Calls prog 70 #[t0] w K:=
 calls_of_wpX Tryz.func70 rfl rfl rfl rfl (Eq.mpr (S_value_Name_eq t0 w K) h)
def S_value_Array (t0:Value)(w:World)(K:Ending→World→Prop):Prop:=
 DoX prog (mAlloc 48) w (pk K) fun t2 w=>
 DoX prog (mBuild 48 #[(0,(.int .i64 6)),(5,t0)]) w (pk K) fun t4 w=>
 CallX prog 82 #[t4] w (pk K) fun t5 w=>
 DoX prog (mStore 48 t2 t5) w (pk K) fun _ w=>
 RetX prog [.cell t2 48] w K
theorem S_value_Array_eq (t0:Value)(w:World)(K:Ending→World→Prop):wpX prog 6 [] [] none (bodyOf Tryz.f68) (topQ prog [.cell 2 48] K) (startX [t0]) [] w=S_value_Array t0 w K:=by kernel_rfl
theorem S_value_Array_ok {t0:Value}{w:World}{K:Ending→World→Prop}(h:S_value_Array t0 w K):Calls prog 68 #[t0] w K:=
 calls_of_wpX Tryz.func68 rfl rfl rfl rfl (Eq.mpr (S_value_Array_eq t0 w K) h)
def S_value_sound (t0:Value)(w:World)(K:Ending→World→Prop):Prop:=
 DoX prog (mBox 48 t0) w (pk K) fun t1 w=>
 DoX prog (mAlloc 48) w (pk K) fun t2 w=>
 DoX prog (mLoad 48 t1) w (pk K) fun t5 w=>
 CallX prog 78 #[t5] w (pk K) fun t6 w=>
 DoX prog (mEq .neq 30 (.tmp 7) (.const (.int .i64 0)) t6 (.int .i64 0)) w (pk K) fun t8 w=>
 IfX t8 (DoX prog (mBuild 48 #[]) w (pk K) fun t9 w=>
 DoX prog (mStore 48 t2 t9) w (pk K) fun _ w=>
 RetX prog [.cell t2 48,.val t6] w K) (DoX prog (mLoad 48 t1) w (pk K) fun t11 w=>
 DoX prog (mStore 48 t2 t11) w (pk K) fun _ w=>
 RetX prog [.cell t2 48,.val (.int .i64 0)] w K)
theorem S_value_sound_eq (t0:Value)(w:World)(K:Ending→World→Prop):wpX prog 12 [] [] none (bodyOf Tryz.f80) (topQ prog [.cell 2 48,.tmp 3] K) (startX [t0]) [] w=S_value_sound t0 w K:=by kernel_rfl
theorem S_value_sound_ok {t0:Value}{w:World}{K:Ending→World→Prop}(h:S_value_sound t0 w K):Calls prog 80 #[t0] w K:=
 calls_of_wpX Tryz.func80 rfl rfl rfl rfl (Eq.mpr (S_value_sound_eq t0 w K) h)
def S_value_keyed (t0:Value)(w:World)(K:Ending→World→Prop):Prop:=
 DoX prog (mBox 48 t0) w (pk K) fun t1 w=>
 DoX prog (mFA 48 t1 0) w (pk K) fun t3 w=>
 DoX prog (mLoad 3 t3) w (pk K) fun t4 w=>
 DoX prog (mEq .eql 3 (.tmp 4) (.const (.int .i64 7)) t4 (.int .i64 7)) w (pk K) fun t5 w=>
 GDo t5 false (fun E=>DoX prog (mFA 48 t1 0) w (pk K) E) w fun t7 w=>
 GDo t5 false (fun E=>DoX prog (mLoad 3 t7) w (pk K) E) w fun t8 w=>
 GDo t5 false (fun E=>DoX prog (mEq .eql 3 (.tmp 8) (.const (.int .i64 9)) t8 (.int .i64 9)) w (pk K) E) w fun t9 w=>
 DoX prog (mPick t5 (.bool true) t9) w (pk K) fun t10 w=>
 K (.returned t10) w
theorem S_value_keyed_eq (t0:Value)(w:World)(K:Ending→World→Prop):wpX prog 11 [] [] none (bodyOf Tryz.f110) (topQ prog [.tmp 2] K) (startX [t0]) [] w=S_value_keyed t0 w K:=by kernel_rfl
theorem S_value_keyed_ok {t0:Value}{w:World}{K:Ending→World→Prop}(h:S_value_keyed t0 w K):Calls prog 110 #[t0] w K:=
 calls_of_wpX Tryz.func110 rfl rfl rfl rfl (Eq.mpr (S_value_keyed_eq t0 w K) h)
def S_value_with_0 (t3 t6:Value)(w:World)(K:Ending→World→Prop):Prop:=
 DoX prog (mLoad 48 t3) w (pk K) fun t44 w=>
 DoX prog (mStore 48 t6 t44) w (pk K) fun _ w=>
 RetX prog [.cell t6 48] w K
def S_value_with (t0 t1 t2:Value)(w:World)(K:Ending→World→Prop):Prop:=
 DoX prog (mBox 48 t0) w (pk K) fun t3 w=>
 DoX prog (mBox 48 t2) w (pk K) fun t5 w=>
 DoX prog (mAlloc 48) w (pk K) fun t6 w=>
 DoX prog (mFA 48 t3 4) w (pk K) fun t10 w=>
 DoX prog (mLoad 23 t10) w (pk K) fun t11 w=>
 CallX prog 111 #[t11,t1] w (pk K) fun t13 w=>
 DoX prog (mExt t13 0) w (pk K) fun t14 w=>
 DoX prog (mExt t13 1) w (pk K) fun t15 w=>
 DoX prog (mFA 48 t3 4) w (pk K) fun t16 w=>
 DoX prog (mLoad 23 t16) w (pk K) fun t17 w=>
 CallX prog 148 #[t17] w (pk K) fun t18 w=>
 DoX prog (mFA 48 t3 4) w (pk K) fun t19 w=>
 DoX prog (mStore 23 t19 t18) w (pk K) fun _ w=>
 DoX prog (mFA 48 t3 5) w (pk K) fun t20 w=>
 DoX prog (mLoad 46 t20) w (pk K) fun t21 w=>
 CallX prog 150 #[t21] w (pk K) fun t22 w=>
 DoX prog (mFA 48 t3 5) w (pk K) fun t23 w=>
 DoX prog (mStore 46 t23 t22) w (pk K) fun _ w=>
 JoinX (fun J1=>
 IfX t15 (DoX prog (mFA 48 t3 5) w (pk K) fun t25 w=>
 DoX prog (mLoad 46 t25) w (pk K) fun t26 w=>
 DoX prog (mLoad 48 t5) w (pk K) fun t28 w=>
 DoX prog (mIA 46 t26 t14) w (pk K) fun t29 w=>
 DoX prog (mStore 48 t29 t28) w (pk K) fun _ w=>
 J1 [] w) (DoX prog (mFA 48 t3 4) w (pk K) fun t30 w=>
 DoX prog (mLoad 23 t30) w (pk K) fun t31 w=>
 DoX prog (mBuildS 23 1 #[(0,t1)]) w (pk K) fun t34 w=>
 CallX prog 151 #[t31,t14,t34] w (pk K) fun t35 w=>
 DoX prog (mFA 48 t3 4) w (pk K) fun t36 w=>
 DoX prog (mStore 23 t36 t35) w (pk K) fun _ w=>
 DoX prog (mFA 48 t3 5) w (pk K) fun t37 w=>
 DoX prog (mLoad 46 t37) w (pk K) fun t38 w=>
 DoX prog (mLoad 48 t5) w (pk K) fun t40 w=>
 DoX prog (mBuildS 46 1 #[(0,t40)]) w (pk K) fun t41 w=>
 CallX prog 152 #[t38,t14,t41] w (pk K) fun t42 w=>
 DoX prog (mFA 48 t3 5) w (pk K) fun t43 w=>
 DoX prog (mStore 46 t43 t42) w (pk K) fun _ w=>
 J1 [] w)) (fun vs1 w=>∀_:Sg,S_value_with_0 t3 t6 w K)
theorem S_value_with_eq (t0 t1 t2:Value)(w:World)(K:Ending→World→Prop):wpX prog 45 [(8,[])] [] none (bodyOf Tryz.f113) (topQ prog [.cell 6 48] K) (startX [t0,t1,t2]) [] w=S_value_with t0 t1 t2 w K:=by kernel_rfl
theorem S_value_with_ok {t0 t1 t2:Value}{w:World}{K:Ending→World→Prop}(h:S_value_with t0 t1 t2 w K):Calls prog 113 #[t0,t1,t2] w K:=
 calls_of_wpX Tryz.func113 rfl rfl rfl rfl (Eq.mpr (S_value_with_eq t0 t1 t2 w K) h)
def S_value_Dict_2 (t3 t7:Value)(w:World)(N2:List Value→World→Prop)(K:Ending→World→Prop):Prop:=
 DoX prog (mBin .add 3 t7 (.int .i64 2)) w (pk K) fun t34 w=>
 N2 [t3,t34] w
def S_value_Dict_1 (t0 t2 t3 t5 t6 t7:Value)(w:World)(N2:List Value→World→Prop)(K:Ending→World→Prop):Prop:=
 DoX prog (mB .len #[46] 3 #[false] #[t0]) w (pk K) fun t31 w=>
 DoX prog (mBin .lss 3 t7 t31) w (pk K) fun t32 w=>
 IfX t32 (JoinX (fun J3=>
 DoX prog (mIA 46 t0 t7) w (pk K) fun t37 w=>
 DoX prog (mFA 48 t37 3) w (pk K) fun t38 w=>
 DoX prog (mLoad 9 t38) w (pk K) fun t39 w=>
 DoX prog (mLook 165 t6 t39 false) w (pk K) fun t42 w=>
 IfX t42 (DoX prog (mBuild 48 #[]) w (pk K) fun t43 w=>
 DoX prog (mStore 48 t2 t43) w (pk K) fun _ w=>
 RetX prog [.cell t2 48,.val (.int .i64 9)] w K) (DoX prog (mMapU 165 t6 t39 (.bool true)) w (pk K) fun _ w=>
 DoX prog (mBin .add 3 t7 (.int .i64 1)) w (pk K) fun t48 w=>
 DoX prog (mIA 46 t0 t48) w (pk K) fun t49 w=>
 DoX prog (mFA 48 t49 0) w (pk K) fun t50 w=>
 DoX prog (mLoad 3 t50) w (pk K) fun t51 w=>
 DoX prog (mEq .neq 3 (.tmp 51) (.const (.int .i64 0)) t51 (.int .i64 0)) w (pk K) fun t52 w=>
 IfX t52 (QuietX w (fun C4=>
 QDo prog C4 (mLoad 48 t5) fun t53=>
 QDo prog C4 (mBin .add 3 t7 (.int .i64 1)) fun t57=>
 QDo prog C4 (mIA 46 t0 t57) fun t58=>
 QDo prog C4 (mLoad 48 t58) fun t59=>
 ∀w,C4 w →
 CallX prog 113 #[t53,t39,t59] w (pk K) fun t60 w=>
 DoX prog (mStore 48 t5 t60) w (pk K) fun _ w=>
 J3 [t3] w)) (J3 [t3] w))) (fun vs3 w=>∀_:Sg,S_value_Dict_2 (vs3.getD 0 undef) t7 w N2 K)) (DoX prog (mLoad 48 t5) w (pk K) fun t61 w=>
 CallX prog 82 #[t61] w (pk K) fun t62 w=>
 CallX prog 80 #[t62] w (pk K) fun t63 w=>
 DoX prog (mExt t63 0) w (pk K) fun t64 w=>
 DoX prog (mExt t63 1) w (pk K) fun t65 w=>
 DoX prog (mStore 48 t2 t64) w (pk K) fun _ w=>
 RetX prog [.cell t2 48,.val t65] w K)
def S_value_Dict_0 (t0 t2 t3 t4:Value)(w:World)(N1:List Value→World→Prop)(K:Ending→World→Prop):Prop:=
 DoX prog (mB .len #[46] 3 #[false] #[t0]) w (pk K) fun t16 w=>
 DoX prog (mBin .lss 3 t4 t16) w (pk K) fun t17 w=>
 IfX t17 (DoX prog (mIA 46 t0 t4) w (pk K) fun t22 w=>
 DoX prog (mFA 48 t22 0) w (pk K) fun t23 w=>
 DoX prog (mLoad 3 t23) w (pk K) fun t24 w=>
 DoX prog (mEq .neq 3 (.tmp 24) (.const (.int .i64 5)) t24 (.int .i64 5)) w (pk K) fun t25 w=>
 IfX t25 (DoX prog (mBuild 48 #[]) w (pk K) fun t26 w=>
 DoX prog (mStore 48 t2 t26) w (pk K) fun _ w=>
 RetX prog [.cell t2 48,.val (.int .i64 1)] w K) (DoX prog (mBin .add 3 t4 (.int .i64 2)) w (pk K) fun t19 w=>
 N1 [t3,t19] w)) (DoX prog (mBuild 48 #[(0,(.int .i64 7))]) w (pk K) fun t27 w=>
 DoX prog (mAlloc 48) w (pk K) fun t5 w=>
 DoX prog (mStore 48 t5 t27) w (pk K) fun _ w=>
 DoX prog (mMap 165 none) w (pk K) fun t28 w=>
 LoopX [t3,(.int .i64 0)] w (fun vs2 w N2=>∀_:Sg,S_value_Dict_1 t0 t2 (vs2.getD 0 undef) t5 t28 (vs2.getD 1 undef) w N2 K))
def S_value_Dict (t0:Value)(w:World)(K:Ending→World→Prop):Prop:=
 DoX prog (mAlloc 48) w (pk K) fun t2 w=>
 DoX prog (mB .len #[46] 3 #[false] #[t0]) w (pk K) fun t10 w=>
 DoX prog (mBin .rem 3 t10 (.int .i64 2)) w (pk K) fun t11 w=>
 DoX prog (mEq .neq 3 (.tmp 11) (.const (.int .i64 0)) t11 (.int .i64 0)) w (pk K) fun t12 w=>
 IfX t12 (DoX prog (mBuild 48 #[]) w (pk K) fun t13 w=>
 DoX prog (mStore 48 t2 t13) w (pk K) fun _ w=>
 RetX prog [.cell t2 48,.val (.int .i64 1)] w K) (LoopX [(.int .i64 0),(.int .i64 0)] w (fun vs1 w N1=>∀_:Sg,S_value_Dict_0 t0 t2 (vs1.getD 0 undef) (vs1.getD 1 undef) w N1 K))
theorem S_value_Dict_eq (t0:Value)(w:World)(K:Ending→World→Prop):wpX prog 66 [(12,[3])] [(4,[3,4]),(11,[3,7])] none (bodyOf Tryz.f81) (topQ prog [.cell 2 48,.tmp 3] K) (startX [t0]) [] w=S_value_Dict t0 w K:=by kernel_rfl
theorem S_value_Dict_ok {t0:Value}{w:World}{K:Ending→World→Prop}(h:S_value_Dict t0 w K):Calls prog 81 #[t0] w K:=
 calls_of_wpX Tryz.func81 rfl rfl rfl rfl (Eq.mpr (S_value_Dict_eq t0 w K) h)
def S_value_Get (t0 t1:Value)(w:World)(K:Ending→World→Prop):Prop:=
 DoX prog (mBox 48 t0) w (pk K) fun t2 w=>
 DoX prog (mAlloc 48) w (pk K) fun t4 w=>
 DoX prog (mLoad 48 t2) w (pk K) fun t7 w=>
 CallX prog 110 #[t7] w (pk K) fun t8 w=>
 DoX prog (mUn .not t8) w (pk K) fun t9 w=>
 IfX t9 (DoX prog (mBuild 48 #[]) w (pk K) fun t10 w=>
 DoX prog (mStore 48 t4 t10) w (pk K) fun _ w=>
 RetX prog [.cell t4 48,.val (.bool false)] w K) (DoX prog (mFA 48 t2 4) w (pk K) fun t11 w=>
 DoX prog (mLoad 23 t11) w (pk K) fun t12 w=>
 CallX prog 131 #[t12,t1] w (pk K) fun t14 w=>
 DoX prog (mBin .lss 3 t14 (.int .i64 0)) w (pk K) fun t16 w=>
 GDo t16 false (fun E=>E t14 w) w fun t18 w=>
 GDo t16 false (fun E=>DoX prog (mFA 48 t2 5) w (pk K) E) w fun t19 w=>
 GDo t16 false (fun E=>DoX prog (mLoad 46 t19) w (pk K) E) w fun t20 w=>
 GDo t16 false (fun E=>DoX prog (mB .len #[46] 3 #[false] #[t20]) w (pk K) E) w fun t21 w=>
 GDo t16 false (fun E=>DoX prog (mBin .geq 3 t18 t21) w (pk K) E) w fun t22 w=>
 DoX prog (mPick t16 (.bool true) t22) w (pk K) fun t23 w=>
 IfX t23 (DoX prog (mBuild 48 #[]) w (pk K) fun t24 w=>
 DoX prog (mStore 48 t4 t24) w (pk K) fun _ w=>
 RetX prog [.cell t4 48,.val (.bool false)] w K) (DoX prog (mFA 48 t2 5) w (pk K) fun t25 w=>
 DoX prog (mLoad 46 t25) w (pk K) fun t26 w=>
 DoX prog (mIA 46 t26 t14) w (pk K) fun t28 w=>
 DoX prog (mLoad 48 t28) w (pk K) fun t29 w=>
 CallX prog 82 #[t29] w (pk K) fun t30 w=>
 DoX prog (mStore 48 t4 t30) w (pk K) fun _ w=>
 RetX prog [.cell t4 48,.val (.bool true)] w K))
theorem S_value_Get_eq (t0 t1:Value)(w:World)(K:Ending→World→Prop):wpX prog 31 [] [] none (bodyOf Tryz.f99) (topQ prog [.cell 4 48,.tmp 5] K) (startX [t0,t1]) [] w=S_value_Get t0 t1 w K:=by kernel_rfl
theorem S_value_Get_ok {t0 t1:Value}{w:World}{K:Ending→World→Prop}(h:S_value_Get t0 t1 w K):Calls prog 99 #[t0,t1] w K:=
 calls_of_wpX Tryz.func99 rfl rfl rfl rfl (Eq.mpr (S_value_Get_eq t0 t1 w K) h)
def S_value_Clone (t0:Value)(w:World)(K:Ending→World→Prop):Prop:=
 DoX prog (mBox 48 t0) w (pk K) fun t1 w=>
 DoX prog (mAlloc 48) w (pk K) fun t2 w=>
 DoX prog (mLoad 48 t1) w (pk K) fun t3 w=>
 CallX prog 114 #[t3,(.func (.func 115) #[] #[])] w (pk K) fun t4 w=>
 DoX prog (mStore 48 t2 t4) w (pk K) fun _ w=>
 RetX prog [.cell t2 48] w K
theorem S_value_Clone_eq (t0:Value)(w:World)(K:Ending→World→Prop):wpX prog 5 [] [] none (bodyOf Tryz.f82) (topQ prog [.cell 2 48] K) (startX [t0]) [] w=S_value_Clone t0 w K:=by kernel_rfl
theorem S_value_Clone_ok {t0:Value}{w:World}{K:Ending→World→Prop}(h:S_value_Clone t0 w K):Calls prog 82 #[t0] w K:=
 calls_of_wpX Tryz.func82 rfl rfl rfl rfl (Eq.mpr (S_value_Clone_eq t0 w K) h)
def S_value_Clone_1 (t0:Value)(w:World)(K:Ending→World→Prop):Prop:=
 DoX prog (mBox 48 t0) w (pk K) fun t1 w=>
 DoX prog (mAlloc 48) w (pk K) fun t2 w=>
 DoX prog (mLoad 48 t1) w (pk K) fun t3 w=>
 DoX prog (mStore 48 t2 t3) w (pk K) fun _ w=>
 RetX prog [.cell t2 48] w K
theorem S_value_Clone_1_eq (t0:Value)(w:World)(K:Ending→World→Prop):wpX prog 4 [] [] none (bodyOf Tryz.f115) (topQ prog [.cell 2 48] K) (startX [t0]) [] w=S_value_Clone_1 t0 w K:=by kernel_rfl
theorem S_value_Clone_1_ok {t0:Value}{w:World}{K:Ending→World→Prop}(h:S_value_Clone_1 t0 w K):Calls prog 115 #[t0] w K:=
 calls_of_wpX Tryz.func115 rfl rfl rfl rfl (Eq.mpr (S_value_Clone_1_eq t0 w K) h)
def S_value_changed_1 (t2 t4:Value)(w:World)(K:Ending→World→Prop):Prop:=
 DoX prog (mLoad 48 t2) w (pk K) fun t39 w=>
 DoX prog (mStore 48 t4 t39) w (pk K) fun _ w=>
 RetX prog [.cell t4 48] w K
def S_value_changed_0 (t1 t2 t5 t23 t24 t25:Value)(w:World)(J1 N2:List Value→World→Prop)(K:Ending→World→Prop):Prop:=
 DoX prog (mBin .lss 3 t25 t24) w (pk K) fun t26 w=>
 IfX t26 (DoX prog (mIA 46 t23 t25) w (pk K) fun t28 w=>
 DoX prog (mLoad 48 t28) w (pk K) fun t29 w=>
 DoX prog (mAlloc 48) w (pk K) fun t7 w=>
 DoX prog (mStore 48 t7 t29) w (pk K) fun _ w=>
 DoX prog (mLoad 48 t7) w (pk K) fun t32 w=>
 CallX prog 114 #[t32,t1] w (pk K) fun t34 w=>
 DoX prog (mIA 46 t5 t25) w (pk K) fun t35 w=>
 DoX prog (mStore 48 t35 t34) w (pk K) fun _ w=>
 DoX prog (mBin .add 3 t25 (.int .i64 1)) w (pk K) fun t36 w=>
 N2 [t36] w) (DoX prog (mFA 48 t2 5) w (pk K) fun t38 w=>
 DoX prog (mStore 46 t38 t5) w (pk K) fun _ w=>
 J1 [] w)
def S_value_changed (t0 t1:Value)(w:World)(K:Ending→World→Prop):Prop:=
 DoX prog (mBox 48 t0) w (pk K) fun t2 w=>
 DoX prog (mAlloc 48) w (pk K) fun t4 w=>
 DoX prog (mLoad 48 t2) w (pk K) fun t9 w=>
 DoX prog (mCallV t1 #[t9]) w (pk K) fun t10 w=>
 DoX prog (mStore 48 t2 t10) w (pk K) fun _ w=>
 DoX prog (mFA 48 t2 4) w (pk K) fun t11 w=>
 DoX prog (mLoad 23 t11) w (pk K) fun t12 w=>
 CallX prog 148 #[t12] w (pk K) fun t13 w=>
 DoX prog (mFA 48 t2 4) w (pk K) fun t14 w=>
 DoX prog (mStore 23 t14 t13) w (pk K) fun _ w=>
 JoinX (fun J1=>
 DoX prog (mFA 48 t2 5) w (pk K) fun t15 w=>
 DoX prog (mLoad 46 t15) w (pk K) fun t16 w=>
 DoX prog (mEq .neq 46 (.tmp 16) (.const (.slice none 0 0)) t16 (.slice none 0 0)) w (pk K) fun t17 w=>
 IfX t17 (DoX prog (mFA 48 t2 5) w (pk K) fun t18 w=>
 DoX prog (mLoad 46 t18) w (pk K) fun t19 w=>
 DoX prog (mB .len #[46] 3 #[false] #[t19]) w (pk K) fun t20 w=>
 DoX prog (mMake 46 t20 t20) w (pk K) fun t21 w=>
 DoX prog (mFA 48 t2 5) w (pk K) fun t22 w=>
 DoX prog (mLoad 46 t22) w (pk K) fun t23 w=>
 DoX prog (mB .len #[46] 3 #[false] #[t23]) w (pk K) fun t24 w=>
 LoopX [(.int .i64 0)] w (fun vs2 w N2=>∀_:Sg,S_value_changed_0 t1 t2 t21 t23 t24 (vs2.getD 0 undef) w J1 N2 K)) (J1 [] w)) (fun vs1 w=>∀_:Sg,S_value_changed_1 t2 t4 w K)
theorem S_value_changed_eq (t0 t1:Value)(w:World)(K:Ending→World→Prop):wpX prog 40 [(11,[])] [(6,[25])] none (bodyOf Tryz.f114) (topQ prog [.cell 4 48] K) (startX [t0,t1]) [] w=S_value_changed t0 t1 w K:=by kernel_rfl
theorem S_value_changed_ok {t0 t1:Value}{w:World}{K:Ending→World→Prop}(h:S_value_changed t0 t1 w K):Calls prog 114 #[t0,t1] w K:=
 calls_of_wpX Tryz.func114 rfl rfl rfl rfl (Eq.mpr (S_value_changed_eq t0 t1 w K) h)
end
section
open Go
namespace Vl
def used (k:Int):Option (Bool×Bool×Bool×Bool×Bool):=
 if k=0 then some (false,false,false,false,false)
 else if k=1∨k=2∨k=3 then some (true,false,false,false,false)
 else if k=4∨k=5 then some (false,false,true,false,false)
 else if k=6 then some (false,false,false,false,true)
 else if k=7 then some (false,false,false,true,true)
 else if k=8 then some (true,true,false,false,false)
 else if k=9 then some (false,false,true,true,true)
 else none
def usesOk (o:Ob):Bool:=
 match used o.k with
|none=>false
|some (n,g,s,ks,cs)=>(n||decide (o.n=0))&&(g||decide (o.g=0))&&(s||decide (o.s=[]))&&(ks||decide (o.keys=[]))&&(cs||decide (o.kids.length=0))
def fits (o:Ob):Bool:=
 if o.k=1 then decide (0≤o.n∧o.n≤1)
 else if o.k=2 then decide (-2147483647≤o.n∧o.n≤2147483647)
 else if o.k=3 then decide (-1073741824≤o.n∧o.n≤1073741824)
 else if o.k=8 then decide (1≤o.n∧o.n≤8191)&&decide (0≤o.g∧o.g≤65535)
 else true
def long (k:Int):Nat:=if k=5 then 127 else if k=9 then 1048576 else 32767
def name (s:List UInt8):Bool:=decide (s.length≤127)&&decide ((0:UInt8) ∉ s)
def lenK:List UInt8:=[76,101,110,103,116,104]
abbrev less (a b:List UInt8):Bool:=Op.bytesLess a b
def keyAt (o:Ob)(i:Nat):Bool:=
 name (o.keys.getD i [])&&(decide (i=0)||less (o.keys.getD (i - 1) []) (o.keys.getD i []))&&!(decide (o.k=9)&&decide (o.keys.getD i []=lenK))&&decide ((o.kids.getD i (.mk 0 0 0 [] [] [])).k≠0)
def rising (o:Ob):Bool:=decide (o.keys.length=o.kids.length)&&(List.range o.keys.length).all (keyAt o)
def form (o:Ob):Bool:=(!(decide (o.k=5))||name o.s)&&(!(decide (o.k=7∨o.k=9))||rising o)
def why (d:Nat)(o:Ob):Int:=
 if 24 < d then 7
 else if usesOk o=false∨(o.k=9∧1 < d) then 10
 else if fits o=false then 2
 else if long o.k < o.s.length then 5
 else if 8191 < o.kids.length then 6
 else if form o=false then 3
 else 0
 mutual
def check (d:Nat):Ob→Int
|.mk k n g s keys kids=>if why d (.mk k n g s keys kids)≠0 then why d (.mk k n g s keys kids) else checks (d+1) kids
def checks (d:Nat):List Ob→Int
|[]=>0
|o::os=>if check d o≠0 then check d o else checks d os
end
theorem check_eq (d:Nat)(o:Ob):check d o=if why d o≠0 then why d o else checks (d+1) o.kids:=by cases o;rw[check];rfl
end Vl
end
section
open Go
namespace Vl
theorem less_lt (a b:List UInt8):less a b=true↔a < b:=by rw[less,bytesLess_eq,decide_eq_true_eq]
theorem less_trans {a b c:List UInt8}(h:less a b=true)(k:less b c=true):less a c=true:=by
 rw[less_lt] at *;exact List.lt_trans h k
theorem less_irrefl (a:List UInt8):less a a=false:=by
 cases h:less a a with
|false=>rfl
|true=>rw[less_lt] at h;exact absurd h (List.lt_irrefl _)
theorem less_total {a b:List UInt8}(h:less a b=false)(h':a≠b):less b a=true:=by
 have h1:¬a < b:=by rw[←less_lt,h];simp
 rw[less_lt];rcases Classical.em (b < a) with h2|h2
 ·exact h2
 ·exact absurd (List.le_antisymm (List.not_lt.1 h2) (List.not_lt.1 h1)) h'
def Rise (l:List (List UInt8)):Prop:=l.Pairwise fun a b=>less a b=true
def place (l:List (List UInt8))(x:List UInt8):Nat:=(l.takeWhile fun k=>less k x).length
def hit (l:List (List UInt8))(x:List UInt8):Bool:=decide (l[place l x]?=some x)
theorem takeWhile_at {α:Type}{p:α→Bool}:∀(l:List α) (i:Nat),i≤l.length→(∀m (h:m < l.length),m < i→p l[m]=true)→(∀h:i < l.length,p l[i]=false)→(l.takeWhile p).length=i
|[],i,hi,_,_=>by simp at hi;simp[hi]
|a::l,0,_,_,h=>by
  have:=h (by simp);rw[List.getElem_cons_zero] at this;simp[List.takeWhile_cons,this]
|a::l,i+1,hi,h1,h2=>by
  have h0:=h1 0 (by simp) (by omega);rw[List.getElem_cons_zero] at h0;rw[List.takeWhile_cons,h0];simp only[if_true,List.length_cons];rw[takeWhile_at l i (by simpa using hi) (fun m hm hmi=>by
   have:=h1 (m+1) (by simpa using hm) (by omega)
   rwa [List.getElem_cons_succ] at this) (fun h=>by
   have:=h2 (by simpa using h)
   rwa [List.getElem_cons_succ] at this)]
theorem place_le (l:List (List UInt8))(x:List UInt8):place l x≤l.length:=(List.takeWhile_prefix _).length_le
theorem place_at {l:List (List UInt8)}{x:List UInt8}{i:Nat}(hi:i≤l.length)(h1:∀m (h:m < l.length),m < i→less l[m] x=true)(h2:∀h:i < l.length,less l[i] x=false):place l x=i:=takeWhile_at l i hi h1 h2
theorem place_lt {l:List (List UInt8)}{x:List UInt8}{m:Nat}(h:m < place l x):less (l[m]'(Nat.lt_of_lt_of_le h (place_le l x))) x=true:=by
 unfold place at h;have hm:=List.all_takeWhile (l:=l) (p:=fun k=>less k x);have h1:(l.takeWhile fun k=>less k x)[m]∈l.takeWhile fun k=>less k x:=List.getElem_mem h;have h2:=List.all_eq_true.1 hm _ h1;have h3:(l.takeWhile fun k=>less k x)[m]=l[m]'(Nat.lt_of_lt_of_le h (place_le l x)):=by
  have hp:(l.takeWhile fun k=>less k x) <+: l:=List.takeWhile_prefix _;exact hp.getElem h
 rw[h3] at h2;exact h2
theorem place_ge {l:List (List UInt8)}{x:List UInt8}(h:place l x < l.length):less l[place l x] x=false:=by
 unfold place at h ⊢
 induction l with
|nil=>simp at h
|cons a l ih=>
  cases ha:less a x with
 |false=>simp only[List.takeWhile_cons,ha];simpa using ha
 |true=>
   simp only[List.takeWhile_cons,ha,if_true,List.length_cons] at h ⊢;rw[List.getElem_cons_succ];exact ih (by simpa using h)
theorem rise_get {l:List (List UInt8)}(h:Rise l){i j:Nat}(hij:i < j)(hj:j < l.length):less (l[i]'(by omega)) l[j]=true:=List.pairwise_iff_getElem.1 h i j (by omega) hj hij
def ob0:Ob:=.mk 0 0 0 [] [] []
def keyed (o:Ob):Bool:=decide (o.k=7)||decide (o.k=9)
def get (o:Ob)(key:List UInt8):Option Ob:=if keyed o then (if o.keys.idxOf key < o.keys.length then o.kids[o.keys.idxOf key]? else none) else none
def put (o:Ob)(key:List UInt8)(v:Ob):Ob:=
 .mk o.k o.n o.g o.s (o.keys.take (place o.keys key)++key::o.keys.drop (place o.keys key+if hit o.keys key then 1 else 0)) (o.kids.take (place o.keys key)++v::o.kids.drop (place o.keys key+if hit o.keys key then 1 else 0))
def right (o:Ob):Ob×Int:=if check 1 o≠0 then (ob0,check 1 o) else (o,0)
theorem valid_keys {d:Nat}{o:Ob}(h:check d o=0)(hk:keyed o=true):Rise o.keys∧o.keys.length=o.kids.length:=by
 rw[check_eq] at h;split at h
 ·rename_i hw;exact absurd h hw
 ·rename_i hw
  have hw:=Classical.not_not.1 hw;unfold why at hw;split at hw
  ·cases hw
  split at hw
  ·cases hw
  split at hw
  ·cases hw
  split at hw
  ·cases hw
  split at hw
  ·cases hw
  split at hw
  ·cases hw
  rename_i hf
  have hf:form o=true:=by simpa using hf
  have h79:o.k=7∨o.k=9:=by
   unfold keyed at hk;simpa using hk
  have hr:rising o=true:=by
   unfold form at hf;simp only[Bool.and_eq_true] at hf;have:=hf.2;rw[decide_eq_true h79] at this;simpa using this
  unfold rising at hr;simp only[Bool.and_eq_true,decide_eq_true_eq] at hr;refine⟨?_,hr.1⟩;have step:∀i,i+1 < o.keys.length→less (o.keys.getD i []) (o.keys.getD (i+1) [])=true:=by
   intro i hi;have:=List.all_eq_true.1 hr.2 (i+1) (List.mem_range.2 hi);unfold keyAt at this;simp only[Bool.and_eq_true,Bool.or_eq_true] at this;have:=this.1.1.2;rcases this with h0|h0
   ·have:=of_decide_eq_true h0;omega
   ·simpa using h0
  have gd:∀i (h:i < o.keys.length),o.keys.getD i []=o.keys[i]:=fun i h=>by rw[List.getD_eq_getElem?_getD,List.getElem?_eq_getElem h];rfl
  refine List.pairwise_iff_getElem.2 fun i j hi hj hij=>?_;have:∀d,∀j (hj:j < o.keys.length),j=i+1+d→less o.keys[i] o.keys[j]=true:=by
   intro d
   induction d with
  |zero=>
    intro j hj he;have:=step i (by omega);rw[gd i hi,gd (i+1) (by omega)] at this;subst he;exact this
  |succ d ih=>
    intro j hj he;have h1:=ih (i+1+d) (by omega) rfl;have h2:=step (i+1+d) (by omega);rw[gd _ (by omega),gd _ (by omega)] at h2;subst he;exact less_trans h1 h2
  exact this (j - (i+1)) j hj (by omega)
end Vl
end
section
open Eng
def S_slices_Index_string_string_0 (t0 t1 t7 t8:Value)(w:World)(N1:List Value→World→Prop)(K:Ending→World→Prop):Prop:=
 DoX prog (mBin .lss 3 t8 t7) w (pk K) fun t9 w=>
 IfX t9 (DoX prog (mIA 23 t0 t8) w (pk K) fun t14 w=>
 DoX prog (mLoad 9 t14) w (pk K) fun t15 w=>
 DoX prog (mEq .eql 9 (.tmp 11) (.tmp 15) t1 t15) w (pk K) fun t16 w=>
 IfX t16 (K (.returned t8) w) (DoX prog (mBin .add 3 t8 (.int .i64 1)) w (pk K) fun t18 w=>
 N1 [t18] w)) (K (.returned (.int .i64 (-1))) w)
def S_slices_Index_string_string (t0 t1:Value)(w:World)(K:Ending→World→Prop):Prop:=
 DoX prog (mB .len #[23] 3 #[false] #[t0]) w (pk K) fun t7 w=>
 LoopX [(.int .i64 0)] w (fun vs1 w N1=>∀_:Sg,S_slices_Index_string_string_0 t0 t1 t7 (vs1.getD 0 undef) w N1 K)
theorem S_slices_Index_string_string_eq (t0 t1:Value)(w:World)(K:Ending→World→Prop):wpX prog 19 [] [(2,[8])] none (bodyOf Tryz.f131) (topQ prog [.tmp 4] K) (startX [t0,t1]) [] w=S_slices_Index_string_string t0 t1 w K:=by kernel_rfl
theorem S_slices_Index_string_string_ok {t0 t1:Value}{w:World}{K:Ending→World→Prop}(h:S_slices_Index_string_string t0 t1 w K):Calls prog 131 #[t0,t1] w K:=
 calls_of_wpX Tryz.func131 rfl rfl rfl rfl (Eq.mpr (S_slices_Index_string_string_eq t0 t1 w K) h)
end
section
open Eng Go.RowKit
theorem nStrI:notAgg prog 9=true:=by kernel_rfl
theorem idx_at {l:List (List UInt8)}{x:List UInt8}{i:Nat}(h:i < l.length)(hn:x ∉ l.take i)(he:l[i]=x):l.idxOf x=i:=by
 have e:l=l.take i++(l[i]::l.drop (i+1)):=by
  rw[←List.drop_eq_getElem_cons h,List.take_append_drop]
 rw[e,List.idxOf_append,if_neg hn,he,List.idxOf_cons_self,List.length_take];omega
theorem sindex_ret (va:Value)(l:List (List UInt8))(x:List UInt8)(w:World)(ha:Sl w va 1 l.length (strsV l))(hl:l.length≤1099511627776) :
  Ret prog 131 #[va,.string ⟨x.toArray⟩] w (fun v w'=>v=.int .i64 (if l.idxOf x < l.length then (l.idxOf x:Int) else -1)∧w=w'):=by
 refine ret_of fun K hK=>S_slices_Index_string_string_ok ?_;unfold S_slices_Index_string_string;rw[sl_len Tryz.underlying23 ha];refine loop (fun vs w'=>∃(i:Nat),vs=[.int .i64 i]∧i≤l.length∧x ∉ l.take i∧w=w') (fun vs _=>l.length - n0 vs) ⟨0,rfl,by omega,by simp,rfl⟩ ?_;rintro vs w2 ⟨i,rfl,hi,hm,rfl⟩ _;simp only[S_slices_Index_string_string_0,gd,rs];by_cases hlt:(i:Int) < (l.length:Int)
 ·have hi':i < l.length:=by omega
  simp only[hlt,decide_true,rs];refine sl_ia1 (.string ⟨(l[i]).toArray⟩) Tryz.underlying23 (by kernel_rfl) ha (by omega) (by rw[Int.toNat_natCast];exact strsV_get hi') fun q hq=>?_;rw[l_cell nStrI hq];simp only[rs];by_cases he:x=l[i]
  ·simp only[←he,decide_true,rs];have:=idx_at hi' hm he.symm;exact hK _ _ ⟨by rw[this,if_pos hi'],rfl⟩
  ·simp only[he,decide_false,rs];rw[wrap64_id (by omega) (by omega)];refine nextX ⟨i+1,rfl,by omega,?_,rfl⟩ (by simp[n0,RowKit.intOf];omega);rw[List.take_add_one,List.getElem?_eq_getElem hi'];simp only[Option.toList,List.mem_append,List.mem_singleton,not_or];exact⟨hm,he⟩
 ·simp only[hlt,decide_false,i_f];rw[List.take_of_length_le (by omega)] at hm;exact hK _ _ ⟨by rw[if_neg (by rw[List.idxOf_lt_length_iff];exact hm)],rfl⟩
end
section
open Eng Go.RowKit
def obC (o:Ob)(vk vc:Value):List Value:=[.int .i64 o.k,.int .i64 o.n,.int .i64 o.g,.string ⟨o.s.toArray⟩,vk,vc]
def obV (o:Ob)(vk vc:Value):Value:=.agg (obC o vk vc).toArray
def obE (b:Nat)(o:Ob)(vk vc:Value):Ent:=.cells b (obC o vk vc) 48
structure ObAt (A:Nat→Prop) (w:World) (o:Ob) (vk vc:Value) (cs:List Value):Prop where
 keys:SlA A w vk 1 o.keys.length (strsV o.keys)
 kids:SlA A w vc 6 o.kids.length cs
 all:OVs A w cs o.kids
theorem OV.open {A:Nat→Prop}{w:World}{v:Value}{o:Ob}(h:OV A w v o):∃vk vc cs,v=obV o vk vc∧ObAt A w o vk vc cs:=by
 cases o with
|mk k n g s keys kids=>
  rw[OV] at h;obtain⟨vk,vc,cs,rfl,h1,h2,h3⟩:=h;exact⟨vk,vc,cs,rfl,h1,h2,h3⟩
theorem ObAt.ov {A:Nat→Prop}{w:World}{o:Ob}{vk vc:Value}{cs:List Value}(h:ObAt A w o vk vc cs):OV A w (obV o vk vc) o:=by
 cases o with
|mk k n g s keys kids=>
  rw[OV];exact⟨vk,vc,cs,rfl,h.keys,h.kids,h.all⟩
theorem ObAt.kept {A:Nat→Prop}{w w':World}{o:Ob}{vk vc:Value}{cs:List Value}(h:ObAt A w o vk vc cs)(hk:Kept A w w'):ObAt A w' o vk vc cs:=
 ⟨h.keys.kept hk,h.kids.kept hk,OVs.kept hk _ _ h.all⟩
theorem kept_below {A:Nat→Prop}{w w':World}(hA:∀b,A b→b < w.heap.size)(h:Below w.heap.size w w'):Kept A w w':=fun b hb=>h.block b (hA b hb)
theorem OwnS.keptIn {w0 w:World}{L:List Ent}(h:Own w0 w L):Kept (InW w0) w0 w:=kept_below (fun _ h=>h) h.done
theorem ObAt.own {w0 w:World}{L:List Ent}{o:Ob}{vk vc:Value}{cs:List Value}(h:ObAt (InW w0) w0 o vk vc cs)(ho:Own w0 w L):ObAt (InW w0) w o vk vc cs:=h.kept (OwnS.keptIn ho)
theorem SlA.one {A:Nat→Prop}{w:World}{v:Value}{sz n:Nat}{cs:List Value}(h:SlA A w v sz n cs):v.oneCell'=true:=by
 obtain⟨⟨_,a,cap,rfl,_⟩,_⟩:=h;rfl
theorem aggOb:aggN prog 48=some 6:=by kernel_rfl
theorem szOb:(Tryz.prog.info? 48).map (·.size)=some 6:=by kernel_rfl
theorem nSlOb:notAgg prog 46=true:=by kernel_rfl
theorem nSlS5:notAgg prog 23=true:=by kernel_rfl
theorem nI65:notAgg prog 2=true:=by kernel_rfl
theorem nInt5:notAgg prog 3=true:=by kernel_rfl
theorem nStr5:notAgg prog 9=true:=by kernel_rfl
theorem fo_o0:fOff prog 48 0=some 0:=by kernel_rfl
theorem fo_o1:fOff prog 48 1=some 1:=by kernel_rfl
theorem fo_o2:fOff prog 48 2=some 2:=by kernel_rfl
theorem fo_o3:fOff prog 48 3=some 3:=by kernel_rfl
theorem fo_o4:fOff prog 48 4=some 4:=by kernel_rfl
theorem fo_o5:fOff prog 48 5=some 5:=by kernel_rfl
section
variable {w:World}{PK:PKT}{K:VWP}{S:Nat→Prop}{w0:World}{L:List Ent}
theorem fa_o0 {b off:Nat}:DoX prog (mFA 48 (.pointer (some ⟨b,off,none⟩)) 0) w PK K=K (.pointer (some ⟨b,off,none⟩)) w:=f_addr fo_o0
theorem fa_o1 {b off:Nat}:DoX prog (mFA 48 (.pointer (some ⟨b,off,none⟩)) 1) w PK K=K (.pointer (some ⟨b,off+1,none⟩)) w:=f_addr fo_o1
theorem fa_o2 {b off:Nat}:DoX prog (mFA 48 (.pointer (some ⟨b,off,none⟩)) 2) w PK K=K (.pointer (some ⟨b,off+2,none⟩)) w:=f_addr fo_o2
theorem fa_o3 {b off:Nat}:DoX prog (mFA 48 (.pointer (some ⟨b,off,none⟩)) 3) w PK K=K (.pointer (some ⟨b,off+3,none⟩)) w:=f_addr fo_o3
theorem fa_o4 {b off:Nat}:DoX prog (mFA 48 (.pointer (some ⟨b,off,none⟩)) 4) w PK K=K (.pointer (some ⟨b,off+4,none⟩)) w:=f_addr fo_o4
theorem fa_o5 {b off:Nat}:DoX prog (mFA 48 (.pointer (some ⟨b,off,none⟩)) 5) w PK K=K (.pointer (some ⟨b,off+5,none⟩)) w:=f_addr fo_o5
theorem o_obb (o:Ob){vk vc:Value}(hk:vk.oneCell'=true)(hc:vc.oneCell'=true)(ho:OwnS S w0 w L)(k:∀b w',OwnS S w0 w' (obE b o vk vc::L)→K (.pointer (some ⟨b,0,none⟩)) w'):DoX prog (mBox 48 (obV o vk vc)) w PK K:=by
 cases vk<;>first|(cases hk;done)|skip
 all_goals cases vc<;>first|(cases hc;done)|exact o_new (fun b=>.pointer (some ⟨b,0,none⟩)) (obC o _ _) 48 (fun _=>by kernel_rfl) ho k
def ob0:Ob:=.mk 0 0 0 [] [] []
theorem o_oba (ho:OwnS S w0 w L)(k:∀b w',OwnS S w0 w' (obE b ob0 (.slice none 0 0) (.slice none 0 0)::L)→K (.pointer (some ⟨b,0,none⟩)) w'):DoX prog (mAlloc 48) w PK K:=
 o_new (fun b=>.pointer (some ⟨b,0,none⟩)) (obC ob0 (.slice none 0 0) (.slice none 0 0)) 48 (fun _=>by kernel_rfl) ho k
theorem obC_one (o:Ob){vk vc:Value}(hk:vk.oneCell'=true)(hc:vc.oneCell'=true):∀v∈obC o vk vc,v.oneCell'=true:=by
 intro v hv;simp only[obC,List.mem_cons,List.not_mem_nil,or_false] at hv;rcases hv with rfl|rfl|rfl|rfl|rfl|rfl<;>first|rfl|assumption
theorem ob_put (i:Nat){b:Nat}{o o':Ob}{vk vc vk' vc':Value}(hk:vk'.oneCell'=true)(hc:vc'.oneCell'=true)(ho:OwnS S w0 w L)(hi:L[i]?=some (obE b o vk vc))(k:∀w',OwnS S w0 w' (L.set i (obE b o' vk' vc'))→K undef w') :
  DoX prog (mStore 48 (.pointer (some ⟨b,0,none⟩)) (obV o' vk' vc')) w PK K:=o_put i ho hi (new:=obC o' vk' vc') szOb (obC_one o' hk hc) rfl k
theorem ob_k (ho:OwnS S w0 w L)(i:Nat){b:Nat}{o:Ob}{vk vc:Value}(hi:L[i]?=some (obE b o vk vc)):DoX prog (mLoad 3 (.pointer (some ⟨b,0,none⟩))) w PK K=K (.int .i64 o.k) w:=l_cell nInt5 (ho.cell i hi 0 rfl)
theorem ob_n (ho:OwnS S w0 w L)(i:Nat){b:Nat}{o:Ob}{vk vc:Value}(hi:L[i]?=some (obE b o vk vc)):DoX prog (mLoad 2 (.pointer (some ⟨b,0+1,none⟩))) w PK K=K (.int .i64 o.n) w:=l_cell nI65 (ho.cell i hi 1 rfl)
theorem ob_g (ho:OwnS S w0 w L)(i:Nat){b:Nat}{o:Ob}{vk vc:Value}(hi:L[i]?=some (obE b o vk vc)):DoX prog (mLoad 3 (.pointer (some ⟨b,0+2,none⟩))) w PK K=K (.int .i64 o.g) w:=l_cell nInt5 (ho.cell i hi 2 rfl)
theorem ob_s (ho:OwnS S w0 w L)(i:Nat){b:Nat}{o:Ob}{vk vc:Value}(hi:L[i]?=some (obE b o vk vc)):DoX prog (mLoad 9 (.pointer (some ⟨b,0+3,none⟩))) w PK K=K (.string ⟨o.s.toArray⟩) w:=l_cell nStr5 (ho.cell i hi 3 rfl)
theorem ob_keys (ho:OwnS S w0 w L)(i:Nat){b:Nat}{o:Ob}{vk vc:Value}(hi:L[i]?=some (obE b o vk vc)):DoX prog (mLoad 23 (.pointer (some ⟨b,0+4,none⟩))) w PK K=K vk w:=l_cell nSlS5 (ho.cell i hi 4 rfl)
theorem ob_kids (ho:OwnS S w0 w L)(i:Nat){b:Nat}{o:Ob}{vk vc:Value}(hi:L[i]?=some (obE b o vk vc)):DoX prog (mLoad 46 (.pointer (some ⟨b,0+5,none⟩))) w PK K=K vc w:=l_cell nSlOb (ho.cell i hi 5 rfl)
theorem ob_v (ho:OwnS S w0 w L)(i:Nat){b:Nat}{o:Ob}{vk vc:Value}(hi:L[i]?=some (obE b o vk vc)):DoX prog (mLoad 48 (.pointer (some ⟨b,0,none⟩))) w PK K=K (obV o vk vc) w:=l_at (ho.agg i hi aggOb)
theorem ob_ia {A:Nat→Prop}{vc:Value}{os:List Ob}{cs:List Value}{K:VWP}{PK2:PKT}(hs:Sl w vc 6 os.length cs)(hall:OVs A w cs os){i:Nat}(hi:i < os.length)
  (k:∀v,OV A w v os[i]→K v w):DoX prog (mIA 46 vc (.int .i64 (i:Int))) w PK fun t w=>DoX prog (mLoad 48 t) w PK2 K:=by
 obtain⟨b,off,cap,rfl,hc⟩:=sl_open hs (by omega);refine do_eq (run_ia Tryz.underlying46 szOb (by omega) (by omega)) |>.mpr ?_;rw[Int.toNat_natCast];obtain⟨a,hl,hov,hget⟩:=OVs.get os cs i hi hall;refine do_eq (run_load_at (v:=.agg a.toArray) (AtV.agg aggOb hl fun j v hj=>?_)) |>.mpr (k _ hov);rw[Nat.add_assoc];exact hc _ _ (hget j v hj)
end
end
section
open Eng
def S_foliantref05_Key (t0:Value)(w:World)(K:Ending→World→Prop):Prop:=
 DoX prog (mAlloc 48) w (pk K) fun t2 w=>
 DoX prog (mBuild 48 #[(0,(.int .i64 5)),(3,t0)]) w (pk K) fun t4 w=>
 DoX prog (mStore 48 t2 t4) w (pk K) fun _ w=>
 RetX prog [.cell t2 48] w K
theorem S_foliantref05_Key_eq (t0:Value)(w:World)(K:Ending→World→Prop):wpX prog 5 [] [] none (bodyOf Tryz.f46) (topQ prog [.cell 2 48] K) (startX [t0]) [] w=S_foliantref05_Key t0 w K:=by kernel_rfl
theorem S_foliantref05_Key_ok {t0:Value}{w:World}{K:Ending→World→Prop}(h:S_foliantref05_Key t0 w K):Calls prog 46 #[t0] w K:=
 calls_of_wpX Tryz.func46 rfl rfl rfl rfl (Eq.mpr (S_foliantref05_Key_eq t0 w K) h)
def S_foliantref05_Ref (t0 t1:Value)(w:World)(K:Ending→World→Prop):Prop:=
 DoX prog (mAlloc 48) w (pk K) fun t4 w=>
 DoX prog (mBuild 48 #[(0,(.int .i64 8)),(1,t0),(2,t1)]) w (pk K) fun t7 w=>
 DoX prog (mStore 48 t4 t7) w (pk K) fun _ w=>
 RetX prog [.cell t4 48] w K
theorem S_foliantref05_Ref_eq (t0 t1:Value)(w:World)(K:Ending→World→Prop):wpX prog 8 [] [] none (bodyOf Tryz.f47) (topQ prog [.cell 4 48] K) (startX [t0,t1]) [] w=S_foliantref05_Ref t0 t1 w K:=by kernel_rfl
theorem S_foliantref05_Ref_ok {t0 t1:Value}{w:World}{K:Ending→World→Prop}(h:S_foliantref05_Ref t0 t1 w K):Calls prog 47 #[t0,t1] w K:=
 calls_of_wpX Tryz.func47 rfl rfl rfl rfl (Eq.mpr (S_foliantref05_Ref_eq t0 t1 w K) h)
def S_foliantref05_Null (w:World)(K:Ending→World→Prop):Prop:=
 DoX prog (mAlloc 48) w (pk K) fun t0 w=>
 DoX prog (mBuild 48 #[]) w (pk K) fun t1 w=>
 DoX prog (mStore 48 t0 t1) w (pk K) fun _ w=>
 RetX prog [.cell t0 48] w K
theorem S_foliantref05_Null_eq (w:World)(K:Ending→World→Prop):wpX prog 2 [] [] none (bodyOf Tryz.f24) (topQ prog [.cell 0 48] K) (startX []) [] w=S_foliantref05_Null w K:=by kernel_rfl
theorem S_foliantref05_Null_ok {w:World}{K:Ending→World→Prop}(h:S_foliantref05_Null w K):Calls prog 24 #[] w K:=
 calls_of_wpX Tryz.func24 rfl rfl rfl rfl (Eq.mpr (S_foliantref05_Null_eq w K) h)
end
section
open Eng Go.RowKit
 attribute [local congr] g_congr
theorem e_nil {T:TypeId}{xo yo:Operand}{s:List UInt8}{w:World}{PK:PKT}{K:VWP}:DoX prog (mEq .eql T xo yo (.string ⟨s.toArray⟩) (.string ⟨#[]⟩)) w PK K=K (.bool (decide (s=[]))) w:=e_str (b:=[])
theorem ilen0 {α:Type}(l:List α):decide (((l.length:Nat):Int)=0)=decide (l=[]):=by cases l<;>simp;omega
theorem ilenN {α:Type}(l:List α):decide (((l.length:Nat):Int)=0)=decide (l.length=0):=by rw[decide_eq_decide];omega
end
section
namespace Eng
open Go.RowKit
theorem sel_sel {c:Bool}{x:Value}:sel c (sel c x)=sel c x:=by cases c<;>rfl
theorem g_off {v:Value}{want:Bool}{E:(VWP)→Prop}{w:World}{K:VWP}(h:wants v want=false):GDo v want E w K=K undef w:=by
 refine propext ⟨fun x=>?_,fun x=>⟨?_⟩⟩
 ·have:=x.out;rw[h] at this;exact this
 ·rw[h];exact x
theorem pick_orn {P:Program}{b y:Bool}{w:World}{PK:PKT}{K:VWP}:DoX P (mPick (.bool (!b)) (.bool true) (sel b (.bool y))) w PK K=K (.bool (!b||y)) w:=by
 rw[p_pick];cases b<;>rfl
end Eng
end
section
open Eng Go.RowKit
 attribute [local congr] g_congr
theorem ObAt.in_ {w0 w:World}{L:List Ent}{o:Ob}{vk vc:Value}{cs:List Value}(h:ObAt (InW w0) w0 o vk vc cs)(ho:Own w0 w L):ObAt (InW w) w o vk vc cs:=by
 have hk:=h.own ho;exact⟨⟨hk.keys.1,(fun p l c e hn=>Nat.lt_of_lt_of_le (hk.keys.2.1 p l c e hn) ho.size),hk.keys.2.2⟩,⟨hk.kids.1,(fun p l c e hn=>Nat.lt_of_lt_of_le (hk.kids.2.1 p l c e hn) ho.size),hk.kids.2.2⟩,OVs.mono (fun _ hb=>Nat.lt_of_lt_of_le hb ho.size) _ _ hk.all⟩
theorem range_all_succ {p:Nat→Bool}(n:Nat):(List.range (n+1)).all p=((List.range n).all p&&p n):=by
 rw[List.range_succ,List.all_append];simp
theorem range_all_not {p:Nat→Bool}{n m:Nat}(hp:p n=false)(hn:n < m):(List.range m).all p=false:=by
 rw[←Bool.not_eq_true];intro h;have:=List.all_eq_true.1 h n (List.mem_range.2 hn);rw[hp] at this;cases this
theorem run_kid_k {A:Nat→Prop}{w:World}{vc:Value}{os:List Ob}{cs:List Value}(hs:Sl w vc 6 os.length cs)(hall:OVs A w cs os){i:Nat}(hi:i < os.length) :
  ∃b off,(∀{PK:PKT} {K:VWP},DoX prog (mIA 46 vc (.int .i64 (i:Int))) w PK K=K (.pointer (some ⟨b,off,none⟩)) w)∧w.cell? ⟨b,off,none⟩=some (.int .i64 os[i].k):=by
 obtain⟨b,off,cap,rfl,hc⟩:=sl_open hs (by omega);obtain⟨a,hl,hov,hget⟩:=OVs.get os cs i hi hall;refine⟨b,off+i*6,?_,?_⟩
 ·intro PK K;have:=run_ia (P:=prog) (T:=46) (b:=b) (off:=off) (cap:=cap) (n:=os.length) (k:=.i64) (i:=(i:Int)) (w:=w) Tryz.underlying46 szOb (by omega) (by omega);rw[Int.toNat_natCast] at this;exact do_eq this
 ·obtain⟨vk,vc',cs',hv,_⟩:=hov.open;have e:a=obC os[i] vk vc':=by
   injection hv with hv
   have:=congrArg Array.toList hv;simpa using this
  have:=hc (i*6+0) _ (hget 0 (.int .i64 os[i].k) (by rw[e];rfl));simpa using this
end
section
open Eng Go.RowKit
 attribute [local congr] g_congr
theorem OwnS.kept2 {w0 w2 w4:World}{L2 L4:List Ent}(h2:Own w0 w2 L2)(h4:Own w0 w4 L4):Kept (InW w0) w2 w4:=fun b hb=>(h4.done.block b hb).trans (h2.done.block b hb).symm
theorem ObAt.later {w0 w2 w4:World}{L2 L4:List Ent}{o:Ob}{vk vc:Value}{cs:List Value}(h:ObAt (InW w0) w2 o vk vc cs)(h2:Own w0 w2 L2)(h4:Own w0 w4 L4):ObAt (InW w4) w4 o vk vc cs:=by
 have hk:=h.kept (OwnS.kept2 h2 h4);exact⟨⟨hk.keys.1,(fun p l c e hn=>Nat.lt_of_lt_of_le (hk.keys.2.1 p l c e hn) h4.size),hk.keys.2.2⟩,⟨hk.kids.1,(fun p l c e hn=>Nat.lt_of_lt_of_le (hk.kids.2.1 p l c e hn) h4.size),hk.kids.2.2⟩,OVs.mono (fun _ hb=>Nat.lt_of_lt_of_le hb h4.size) _ _ hk.all⟩
theorem wts_mem:∀{l:List Ob} {o:Ob},o∈l→o.wt≤Ob.wts l
|a::l,o,h=>by
  rw[Ob.wts];rcases List.mem_cons.1 h with rfl|h
  ·omega
  ·have:=wts_mem h;omega
theorem Ob.wt_eq (o:Ob):o.wt=6+o.s.length+Pl.tot o.keys+Ob.wts o.kids:=by cases o;rw[Ob.wt];rfl
theorem Ob.wt_pos (o:Ob):6≤o.wt:=by rw[o.wt_eq];omega
theorem kid_wt {o:Ob}{i:Nat}(hi:i < o.kids.length):o.kids[i].wt < o.wt:=by
 have:=wts_mem (List.getElem_mem hi);rw[o.wt_eq];omega
theorem checks_drop (d:Nat)(l:List Ob)(i:Nat)(hi:i < l.length):Vl.checks d (l.drop i)=if Vl.check d l[i]≠0 then Vl.check d l[i] else Vl.checks d (l.drop (i+1)):=by
 rw[List.drop_eq_getElem_cons hi,Vl.checks]
theorem key_len {o:Ob}:o.keys.length≤o.wt:=by
 have h:∀l:List (List UInt8),l.length≤Pl.tot l:=by
  intro l
  induction l with
 |nil=>simp
 |cons a l ih=>simp only[Pl.tot,List.map_cons,List.sum_cons,List.length_cons] at ih ⊢;omega
 have:=h o.keys;rw[o.wt_eq];omega
theorem why_pos {d:Nat}{o:Ob}(h:Vl.why d o≠0):Vl.check d o=Vl.why d o:=by rw[Vl.check_eq,if_pos h]
end
section
open Eng
def S_value_within_int64 (t0 t1 t2:Value)(w:World)(K:Ending→World→Prop):Prop:=
 DoX prog (mBin .leq 2 t1 t0) w (pk K) fun t9 w=>
 GDo t9 true (fun E=>E t0 w) w fun t11 w=>
 GDo t9 true (fun E=>E t2 w) w fun t12 w=>
 GDo t9 true (fun E=>DoX prog (mBin .leq 2 t11 t12) w (pk K) E) w fun t13 w=>
 DoX prog (mPick t9 t13 (.bool false)) w (pk K) fun t14 w=>
 K (.returned t14) w
theorem S_value_within_int64_eq (t0 t1 t2:Value)(w:World)(K:Ending→World→Prop):wpX prog 15 [] [] none (bodyOf Tryz.f166) (topQ prog [.tmp 6] K) (startX [t0,t1,t2]) [] w=S_value_within_int64 t0 t1 t2 w K:=by kernel_rfl
theorem S_value_within_int64_ok {t0 t1 t2:Value}{w:World}{K:Ending→World→Prop}(h:S_value_within_int64 t0 t1 t2 w K):Calls prog 166 #[t0,t1,t2] w K:=
 calls_of_wpX Tryz.func166 rfl rfl rfl rfl (Eq.mpr (S_value_within_int64_eq t0 t1 t2 w K) h)
def S_value_within_int (t0 t1 t2:Value)(w:World)(K:Ending→World→Prop):Prop:=
 DoX prog (mBin .leq 3 t1 t0) w (pk K) fun t9 w=>
 GDo t9 true (fun E=>E t0 w) w fun t11 w=>
 GDo t9 true (fun E=>E t2 w) w fun t12 w=>
 GDo t9 true (fun E=>DoX prog (mBin .leq 3 t11 t12) w (pk K) E) w fun t13 w=>
 DoX prog (mPick t9 t13 (.bool false)) w (pk K) fun t14 w=>
 K (.returned t14) w
theorem S_value_within_int_eq (t0 t1 t2:Value)(w:World)(K:Ending→World→Prop):wpX prog 15 [] [] none (bodyOf Tryz.f167) (topQ prog [.tmp 6] K) (startX [t0,t1,t2]) [] w=S_value_within_int t0 t1 t2 w K:=by kernel_rfl
theorem S_value_within_int_ok {t0 t1 t2:Value}{w:World}{K:Ending→World→Prop}(h:S_value_within_int t0 t1 t2 w K):Calls prog 167 #[t0,t1,t2] w K:=
 calls_of_wpX Tryz.func167 rfl rfl rfl rfl (Eq.mpr (S_value_within_int_eq t0 t1 t2 w K) h)
def S_value_key (t0:Value)(w:World)(K:Ending→World→Prop):Prop:=
 DoX prog (mB .len #[9] 3 #[false] #[t0]) w (pk K) fun t4 w=>
 DoX prog (mBin .leq 3 t4 (.int .i64 127)) w (pk K) fun t5 w=>
 GDo t5 true (fun E=>E t0 w) w fun t7 w=>
 GDo t5 true (fun E=>CallX prog 91 #[t7,(.int .u8 0)] w (pk K) E) w fun t8 w=>
 GDo t5 true (fun E=>DoX prog (mBin .lss 3 t8 (.int .i64 0)) w (pk K) E) w fun t9 w=>
 DoX prog (mPick t5 t9 (.bool false)) w (pk K) fun t10 w=>
 K (.returned t10) w
theorem S_value_key_eq (t0:Value)(w:World)(K:Ending→World→Prop):wpX prog 11 [] [] none (bodyOf Tryz.f143) (topQ prog [.tmp 2] K) (startX [t0]) [] w=S_value_key t0 w K:=by kernel_rfl
theorem S_value_key_ok {t0:Value}{w:World}{K:Ending→World→Prop}(h:S_value_key t0 w K):Calls prog 143 #[t0] w K:=
 calls_of_wpX Tryz.func143 rfl rfl rfl rfl (Eq.mpr (S_value_key_eq t0 w K) h)
def S_value_rising_0 (t1 t13 t14 t15:Value)(w:World)(N1:List Value→World→Prop)(K:Ending→World→Prop):Prop:=
 DoX prog (mBin .lss 3 t15 t14) w (pk K) fun t16 w=>
 IfX t16 (DoX prog (mIA 23 t13 t15) w (pk K) fun t18 w=>
 DoX prog (mLoad 9 t18) w (pk K) fun t19 w=>
 CallX prog 143 #[t19] w (pk K) fun t21 w=>
 DoX prog (mUn .not t21) w (pk K) fun t22 w=>
 GDo t22 false (fun E=>E t15 w) w fun t24 w=>
 GDo t22 false (fun E=>DoX prog (mBin .gtr 3 t24 (.int .i64 0)) w (pk K) E) w fun t25 w=>
 GDo t22 false (fun E=>E t25 w) w fun t26 w=>
 GDo t26 true (fun E=>DoX prog (mFA 48 t1 4) w (pk K) E) w fun t27 w=>
 GDo t26 true (fun E=>DoX prog (mLoad 23 t27) w (pk K) E) w fun t28 w=>
 GDo t26 true (fun E=>E t15 w) w fun t29 w=>
 GDo t26 true (fun E=>DoX prog (mBin .sub 3 t29 (.int .i64 1)) w (pk K) E) w fun t30 w=>
 GDo t26 true (fun E=>DoX prog (mIA 23 t28 t30) w (pk K) E) w fun t31 w=>
 GDo t26 true (fun E=>DoX prog (mLoad 9 t31) w (pk K) E) w fun t32 w=>
 GDo t26 true (fun E=>E t19 w) w fun t33 w=>
 GDo t26 true (fun E=>DoX prog (mBin .geq 9 t32 t33) w (pk K) E) w fun t34 w=>
 GDo t22 false (fun E=>DoX prog (mPick t26 t34 (.bool false)) w (pk K) E) w fun t35 w=>
 DoX prog (mPick t22 (.bool true) t35) w (pk K) fun t36 w=>
 GDo t36 false (fun E=>DoX prog (mFA 48 t1 0) w (pk K) E) w fun t38 w=>
 GDo t36 false (fun E=>DoX prog (mLoad 3 t38) w (pk K) E) w fun t39 w=>
 GDo t36 false (fun E=>DoX prog (mEq .eql 3 (.tmp 39) (.const (.int .i64 9)) t39 (.int .i64 9)) w (pk K) E) w fun t40 w=>
 GDo t36 false (fun E=>E t40 w) w fun t41 w=>
 GDo t41 true (fun E=>E t19 w) w fun t42 w=>
 GDo t41 true (fun E=>DoX prog (mEq .eql 9 (.tmp 42) (.const (.string ⟨#[76,101,110,103,116,104]⟩)) t42 (.string ⟨#[76,101,110,103,116,104]⟩)) w (pk K) E) w fun t43 w=>
 GDo t36 false (fun E=>DoX prog (mPick t41 t43 (.bool false)) w (pk K) E) w fun t44 w=>
 DoX prog (mPick t36 (.bool true) t44) w (pk K) fun t45 w=>
 GDo t45 false (fun E=>DoX prog (mFA 48 t1 5) w (pk K) E) w fun t47 w=>
 GDo t45 false (fun E=>DoX prog (mLoad 46 t47) w (pk K) E) w fun t48 w=>
 GDo t45 false (fun E=>E t15 w) w fun t49 w=>
 GDo t45 false (fun E=>DoX prog (mIA 46 t48 t49) w (pk K) E) w fun t50 w=>
 GDo t45 false (fun E=>DoX prog (mFA 48 t50 0) w (pk K) E) w fun t51 w=>
 GDo t45 false (fun E=>DoX prog (mLoad 3 t51) w (pk K) E) w fun t52 w=>
 GDo t45 false (fun E=>DoX prog (mEq .eql 3 (.tmp 52) (.const (.int .i64 0)) t52 (.int .i64 0)) w (pk K) E) w fun t53 w=>
 DoX prog (mPick t45 (.bool true) t53) w (pk K) fun t54 w=>
 IfX t54 (K (.returned (.bool false)) w) (DoX prog (mBin .add 3 t15 (.int .i64 1)) w (pk K) fun t55 w=>
 N1 [t55] w)) (K (.returned (.bool true)) w)
def S_value_rising (t0:Value)(w:World)(K:Ending→World→Prop):Prop:=
 DoX prog (mBox 48 t0) w (pk K) fun t1 w=>
 DoX prog (mFA 48 t1 4) w (pk K) fun t5 w=>
 DoX prog (mLoad 23 t5) w (pk K) fun t6 w=>
 DoX prog (mB .len #[23] 3 #[false] #[t6]) w (pk K) fun t7 w=>
 DoX prog (mFA 48 t1 5) w (pk K) fun t8 w=>
 DoX prog (mLoad 46 t8) w (pk K) fun t9 w=>
 DoX prog (mB .len #[46] 3 #[false] #[t9]) w (pk K) fun t10 w=>
 DoX prog (mEq .neq 3 (.tmp 7) (.tmp 10) t7 t10) w (pk K) fun t11 w=>
 IfX t11 (K (.returned (.bool false)) w) (DoX prog (mFA 48 t1 4) w (pk K) fun t12 w=>
 DoX prog (mLoad 23 t12) w (pk K) fun t13 w=>
 DoX prog (mB .len #[23] 3 #[false] #[t13]) w (pk K) fun t14 w=>
 LoopX [(.int .i64 0)] w (fun vs1 w N1=>∀_:Sg,S_value_rising_0 t1 t13 t14 (vs1.getD 0 undef) w N1 K))
theorem S_value_rising_eq (t0:Value)(w:World)(K:Ending→World→Prop):wpX prog 56 [] [(4,[15])] none (bodyOf Tryz.f144) (topQ prog [.tmp 2] K) (startX [t0]) [] w=S_value_rising t0 w K:=by kernel_rfl
theorem S_value_rising_ok {t0:Value}{w:World}{K:Ending→World→Prop}(h:S_value_rising t0 w K):Calls prog 144 #[t0] w K:=
 calls_of_wpX Tryz.func144 rfl rfl rfl rfl (Eq.mpr (S_value_rising_eq t0 w K) h)
def S_value_fits (t0:Value)(w:World)(K:Ending→World→Prop):Prop:=
 DoX prog (mBox 48 t0) w (pk K) fun t1 w=>
 DoX prog (mFA 48 t1 0) w (pk K) fun t3 w=>
 DoX prog (mLoad 3 t3) w (pk K) fun t4 w=>
 DoX prog (mEq .eql 3 (.tmp 4) (.const (.int .i64 1)) t4 (.int .i64 1)) w (pk K) fun t6 w=>
 IfX t6 (DoX prog (mFA 48 t1 1) w (pk K) fun t7 w=>
 DoX prog (mLoad 2 t7) w (pk K) fun t8 w=>
 CallX prog 166 #[t8,(.int .i64 0),(.int .i64 1)] w (pk K) fun t9 w=>
 K (.returned t9) w) (DoX prog (mEq .eql 3 (.tmp 4) (.const (.int .i64 2)) t4 (.int .i64 2)) w (pk K) fun t11 w=>
 IfX t11 (DoX prog (mFA 48 t1 1) w (pk K) fun t12 w=>
 DoX prog (mLoad 2 t12) w (pk K) fun t13 w=>
 CallX prog 166 #[t13,(.int .i64 (-2147483647)),(.int .i64 2147483647)] w (pk K) fun t14 w=>
 K (.returned t14) w) (DoX prog (mEq .eql 3 (.tmp 4) (.const (.int .i64 3)) t4 (.int .i64 3)) w (pk K) fun t16 w=>
 IfX t16 (DoX prog (mFA 48 t1 1) w (pk K) fun t17 w=>
 DoX prog (mLoad 2 t17) w (pk K) fun t18 w=>
 CallX prog 166 #[t18,(.int .i64 (-1073741824)),(.int .i64 1073741824)] w (pk K) fun t19 w=>
 K (.returned t19) w) (DoX prog (mEq .eql 3 (.tmp 4) (.const (.int .i64 8)) t4 (.int .i64 8)) w (pk K) fun t21 w=>
 IfX t21 (DoX prog (mFA 48 t1 1) w (pk K) fun t22 w=>
 DoX prog (mLoad 2 t22) w (pk K) fun t23 w=>
 CallX prog 166 #[t23,(.int .i64 1),(.int .i64 8191)] w (pk K) fun t24 w=>
 GDo t24 true (fun E=>DoX prog (mFA 48 t1 2) w (pk K) E) w fun t26 w=>
 GDo t24 true (fun E=>DoX prog (mLoad 3 t26) w (pk K) E) w fun t27 w=>
 GDo t24 true (fun E=>CallX prog 167 #[t27,(.int .i64 0),(.int .i64 65535)] w (pk K) E) w fun t28 w=>
 DoX prog (mPick t24 t28 (.bool false)) w (pk K) fun t29 w=>
 K (.returned t29) w) (K (.returned (.bool true)) w))))
theorem S_value_fits_eq (t0:Value)(w:World)(K:Ending→World→Prop):wpX prog 30 [] [] none (bodyOf Tryz.f141) (topQ prog [.tmp 2] K) (startX [t0]) [] w=S_value_fits t0 w K:=by kernel_rfl
theorem S_value_fits_ok {t0:Value}{w:World}{K:Ending→World→Prop}(h:S_value_fits t0 w K):Calls prog 141 #[t0] w K:=
 calls_of_wpX Tryz.func141 rfl rfl rfl rfl (Eq.mpr (S_value_fits_eq t0 w K) h)
def S_value_short (t0:Value)(w:World)(K:Ending→World→Prop):Prop:=
 DoX prog (mBox 48 t0) w (pk K) fun t1 w=>
 DoX prog (mFA 48 t1 0) w (pk K) fun t3 w=>
 DoX prog (mLoad 3 t3) w (pk K) fun t4 w=>
 DoX prog (mEq .eql 3 (.tmp 4) (.const (.int .i64 4)) t4 (.int .i64 4)) w (pk K) fun t6 w=>
 IfX t6 (DoX prog (mFA 48 t1 3) w (pk K) fun t7 w=>
 DoX prog (mLoad 9 t7) w (pk K) fun t8 w=>
 DoX prog (mB .len #[9] 3 #[false] #[t8]) w (pk K) fun t9 w=>
 DoX prog (mBin .leq 3 t9 (.int .i64 32767)) w (pk K) fun t10 w=>
 K (.returned t10) w) (DoX prog (mEq .eql 3 (.tmp 4) (.const (.int .i64 5)) t4 (.int .i64 5)) w (pk K) fun t12 w=>
 IfX t12 (DoX prog (mFA 48 t1 3) w (pk K) fun t13 w=>
 DoX prog (mLoad 9 t13) w (pk K) fun t14 w=>
 DoX prog (mB .len #[9] 3 #[false] #[t14]) w (pk K) fun t15 w=>
 DoX prog (mBin .leq 3 t15 (.int .i64 127)) w (pk K) fun t16 w=>
 K (.returned t16) w) (DoX prog (mFA 48 t1 3) w (pk K) fun t17 w=>
 DoX prog (mLoad 9 t17) w (pk K) fun t18 w=>
 DoX prog (mB .len #[9] 3 #[false] #[t18]) w (pk K) fun t19 w=>
 DoX prog (mBin .leq 3 t19 (.int .i64 1048576)) w (pk K) fun t20 w=>
 K (.returned t20) w))
theorem S_value_short_eq (t0:Value)(w:World)(K:Ending→World→Prop):wpX prog 21 [] [] none (bodyOf Tryz.f142) (topQ prog [.tmp 2] K) (startX [t0]) [] w=S_value_short t0 w K:=by kernel_rfl
theorem S_value_short_ok {t0:Value}{w:World}{K:Ending→World→Prop}(h:S_value_short t0 w K):Calls prog 142 #[t0] w K:=
 calls_of_wpX Tryz.func142 rfl rfl rfl rfl (Eq.mpr (S_value_short_eq t0 w K) h)
def S_value_used_1 (t2 t4 t13:Value)(w:World)(K:Ending→World→Prop):Prop:=
 IfX t13 (DoX prog (mBuild 203 #[(2,(.bool true))]) w (pk K) fun t16 w=>
 DoX prog (mStore 203 t2 t16) w (pk K) fun _ w=>
 RetX prog [.cell t2 203,.val (.bool true)] w K) (DoX prog (mEq .eql 3 (.tmp 4) (.const (.int .i64 6)) t4 (.int .i64 6)) w (pk K) fun t18 w=>
 IfX t18 (DoX prog (mBuild 203 #[(4,(.bool true))]) w (pk K) fun t19 w=>
 DoX prog (mStore 203 t2 t19) w (pk K) fun _ w=>
 RetX prog [.cell t2 203,.val (.bool true)] w K) (DoX prog (mEq .eql 3 (.tmp 4) (.const (.int .i64 7)) t4 (.int .i64 7)) w (pk K) fun t21 w=>
 IfX t21 (DoX prog (mBuild 203 #[(3,(.bool true)),(4,(.bool true))]) w (pk K) fun t22 w=>
 DoX prog (mStore 203 t2 t22) w (pk K) fun _ w=>
 RetX prog [.cell t2 203,.val (.bool true)] w K) (DoX prog (mEq .eql 3 (.tmp 4) (.const (.int .i64 8)) t4 (.int .i64 8)) w (pk K) fun t24 w=>
 IfX t24 (DoX prog (mBuild 203 #[(0,(.bool true)),(1,(.bool true))]) w (pk K) fun t25 w=>
 DoX prog (mStore 203 t2 t25) w (pk K) fun _ w=>
 RetX prog [.cell t2 203,.val (.bool true)] w K) (DoX prog (mEq .eql 3 (.tmp 4) (.const (.int .i64 9)) t4 (.int .i64 9)) w (pk K) fun t27 w=>
 IfX t27 (DoX prog (mBuild 203 #[(2,(.bool true)),(3,(.bool true)),(4,(.bool true))]) w (pk K) fun t28 w=>
 DoX prog (mStore 203 t2 t28) w (pk K) fun _ w=>
 RetX prog [.cell t2 203,.val (.bool true)] w K) (DoX prog (mBuild 203 #[]) w (pk K) fun t29 w=>
 DoX prog (mStore 203 t2 t29) w (pk K) fun _ w=>
 RetX prog [.cell t2 203,.val (.bool false)] w K)))))
def S_value_used_0 (t2 t4 t8:Value)(w:World)(K:Ending→World→Prop):Prop:=
 IfX t8 (DoX prog (mBuild 203 #[(0,(.bool true))]) w (pk K) fun t12 w=>
 DoX prog (mStore 203 t2 t12) w (pk K) fun _ w=>
 RetX prog [.cell t2 203,.val (.bool true)] w K) (JoinX (fun J2=>
 DoX prog (mEq .eql 3 (.tmp 4) (.const (.int .i64 4)) t4 (.int .i64 4)) w (pk K) fun t14 w=>
 IfX t14 (J2 [t14] w) (DoX prog (mEq .eql 3 (.tmp 4) (.const (.int .i64 5)) t4 (.int .i64 5)) w (pk K) fun t15 w=>
 J2 [t15] w)) (fun vs2 w=>∀_:Sg,S_value_used_1 t2 t4 (vs2.getD 0 undef) w K))
def S_value_used (t0:Value)(w:World)(K:Ending→World→Prop):Prop:=
 DoX prog (mAlloc 203) w (pk K) fun t2 w=>
 DoX prog (mEq .eql 3 (.tmp 4) (.const (.int .i64 0)) t0 (.int .i64 0)) w (pk K) fun t6 w=>
 IfX t6 (DoX prog (mBuild 203 #[]) w (pk K) fun t7 w=>
 DoX prog (mStore 203 t2 t7) w (pk K) fun _ w=>
 RetX prog [.cell t2 203,.val (.bool true)] w K) (JoinX (fun J1=>
 DoX prog (mEq .eql 3 (.tmp 4) (.const (.int .i64 1)) t0 (.int .i64 1)) w (pk K) fun t9 w=>
 IfX t9 (J1 [t9] w) (DoX prog (mEq .eql 3 (.tmp 4) (.const (.int .i64 2)) t0 (.int .i64 2)) w (pk K) fun t10 w=>
 IfX t10 (J1 [t10] w) (DoX prog (mEq .eql 3 (.tmp 4) (.const (.int .i64 3)) t0 (.int .i64 3)) w (pk K) fun t11 w=>
 J1 [t11] w))) (fun vs1 w=>∀_:Sg,S_value_used_0 t2 t0 (vs1.getD 0 undef) w K))
theorem S_value_used_eq (t0:Value)(w:World)(K:Ending→World→Prop):wpX prog 30 [(7,[8]),(10,[13])] [] none (bodyOf Tryz.f140) (topQ prog [.cell 2 203,.tmp 3] K) (startX [t0]) [] w=S_value_used t0 w K:=by kernel_rfl
theorem S_value_used_ok {t0:Value}{w:World}{K:Ending→World→Prop}(h:S_value_used t0 w K):Calls prog 140 #[t0] w K:=
 calls_of_wpX Tryz.func140 rfl rfl rfl rfl (Eq.mpr (S_value_used_eq t0 w K) h)
def S_value_must (t0 t1:Value)(w:World)(K:Ending→World→Prop):Prop:=
 DoX prog (mUn .not t0) w (pk K) fun t5 w=>
 IfX t5 (DoX prog (mBuild 200 #[(0,t1)]) w (pk K) fun t7 w=>
 DoX prog (mIface 200 t7) w (pk K) fun t8 w=>
 DoX prog (mPanic t8) w (pk K) fun _ w=>
 K (.returned (.tuple #[])) w) (K (.returned (.tuple #[])) w)
theorem S_value_must_eq (t0 t1:Value)(w:World)(K:Ending→World→Prop):wpX prog 9 [] [] none (bodyOf Tryz.f139) (topQ prog [] K) (startX [t0,t1]) [] w=S_value_must t0 t1 w K:=by kernel_rfl
theorem S_value_must_ok {t0 t1:Value}{w:World}{K:Ending→World→Prop}(h:S_value_must t0 t1 w K):Calls prog 139 #[t0,t1] w K:=
 calls_of_wpX Tryz.func139 rfl rfl rfl rfl (Eq.mpr (S_value_must_eq t0 t1 w K) h)
def S_value_check_0 (t1 t105 t106 t107:Value)(w:World)(N1:List Value→World→Prop)(K:Ending→World→Prop):Prop:=
 DoX prog (mBin .lss 3 t107 t106) w (pk K) fun t108 w=>
 IfX t108 (DoX prog (mIA 46 t105 t107) w (pk K) fun t109 w=>
 DoX prog (mLoad 48 t109) w (pk K) fun t110 w=>
 DoX prog (mAlloc 48) w (pk K) fun t7 w=>
 DoX prog (mStore 48 t7 t110) w (pk K) fun _ w=>
 DoX prog (mLoad 48 t7) w (pk K) fun t111 w=>
 DoX prog (mBin .add 3 t1 (.int .i64 1)) w (pk K) fun t113 w=>
 CallX prog 109 #[t111,t113] w (pk K) fun t114 w=>
 DoX prog (mBin .add 3 t107 (.int .i64 1)) w (pk K) fun t115 w=>
 N1 [t115] w) (K (.returned (.tuple #[])) w)
def S_value_check (t0 t1:Value)(w:World)(K:Ending→World→Prop):Prop:=
 DoX prog (mBox 48 t0) w (pk K) fun t2 w=>
 DoX prog (mBin .leq 3 t1 (.int .i64 24)) w (pk K) fun t9 w=>
 CallX prog 139 #[t9,(.int .i64 7)] w (pk K) fun t10 w=>
 DoX prog (mFA 48 t2 0) w (pk K) fun t12 w=>
 DoX prog (mLoad 3 t12) w (pk K) fun t13 w=>
 CallX prog 140 #[t13] w (pk K) fun t14 w=>
 DoX prog (mExt t14 0) w (pk K) fun t15 w=>
 DoX prog (mExt t14 1) w (pk K) fun t16 w=>
 DoX prog (mAlloc 203) w (pk K) fun t4 w=>
 DoX prog (mStore 203 t4 t15) w (pk K) fun _ w=>
 GDo t16 true (fun E=>DoX prog (mFA 203 t4 0) w (pk K) E) w fun t19 w=>
 GDo t16 true (fun E=>DoX prog (mLoad 4 t19) w (pk K) E) w fun t20 w=>
 GDo t16 true (fun E=>E t20 w) w fun t21 w=>
 GDo t21 false (fun E=>DoX prog (mFA 48 t2 1) w (pk K) E) w fun t22 w=>
 GDo t21 false (fun E=>DoX prog (mLoad 2 t22) w (pk K) E) w fun t23 w=>
 GDo t21 false (fun E=>DoX prog (mEq .eql 2 (.tmp 23) (.const (.int .i64 0)) t23 (.int .i64 0)) w (pk K) E) w fun t24 w=>
 GDo t16 true (fun E=>DoX prog (mPick t21 (.bool true) t24) w (pk K) E) w fun t25 w=>
 DoX prog (mPick t16 t25 (.bool false)) w (pk K) fun t26 w=>
 GDo t26 true (fun E=>DoX prog (mFA 203 t4 1) w (pk K) E) w fun t28 w=>
 GDo t26 true (fun E=>DoX prog (mLoad 4 t28) w (pk K) E) w fun t29 w=>
 GDo t26 true (fun E=>E t29 w) w fun t30 w=>
 GDo t30 false (fun E=>DoX prog (mFA 48 t2 2) w (pk K) E) w fun t31 w=>
 GDo t30 false (fun E=>DoX prog (mLoad 3 t31) w (pk K) E) w fun t32 w=>
 GDo t30 false (fun E=>DoX prog (mEq .eql 3 (.tmp 32) (.const (.int .i64 0)) t32 (.int .i64 0)) w (pk K) E) w fun t33 w=>
 GDo t26 true (fun E=>DoX prog (mPick t30 (.bool true) t33) w (pk K) E) w fun t34 w=>
 DoX prog (mPick t26 t34 (.bool false)) w (pk K) fun t35 w=>
 GDo t35 true (fun E=>DoX prog (mFA 203 t4 2) w (pk K) E) w fun t37 w=>
 GDo t35 true (fun E=>DoX prog (mLoad 4 t37) w (pk K) E) w fun t38 w=>
 GDo t35 true (fun E=>E t38 w) w fun t39 w=>
 GDo t39 false (fun E=>DoX prog (mFA 48 t2 3) w (pk K) E) w fun t40 w=>
 GDo t39 false (fun E=>DoX prog (mLoad 9 t40) w (pk K) E) w fun t41 w=>
 GDo t39 false (fun E=>DoX prog (mEq .eql 9 (.tmp 41) (.const (.string ⟨#[]⟩)) t41 (.string ⟨#[]⟩)) w (pk K) E) w fun t42 w=>
 GDo t35 true (fun E=>DoX prog (mPick t39 (.bool true) t42) w (pk K) E) w fun t43 w=>
 DoX prog (mPick t35 t43 (.bool false)) w (pk K) fun t44 w=>
 GDo t44 true (fun E=>DoX prog (mFA 203 t4 3) w (pk K) E) w fun t46 w=>
 GDo t44 true (fun E=>DoX prog (mLoad 4 t46) w (pk K) E) w fun t47 w=>
 GDo t44 true (fun E=>E t47 w) w fun t48 w=>
 GDo t48 false (fun E=>DoX prog (mFA 48 t2 4) w (pk K) E) w fun t49 w=>
 GDo t48 false (fun E=>DoX prog (mLoad 23 t49) w (pk K) E) w fun t50 w=>
 GDo t48 false (fun E=>DoX prog (mB .len #[23] 3 #[false] #[t50]) w (pk K) E) w fun t51 w=>
 GDo t48 false (fun E=>DoX prog (mEq .eql 3 (.tmp 51) (.const (.int .i64 0)) t51 (.int .i64 0)) w (pk K) E) w fun t52 w=>
 GDo t44 true (fun E=>DoX prog (mPick t48 (.bool true) t52) w (pk K) E) w fun t53 w=>
 DoX prog (mPick t44 t53 (.bool false)) w (pk K) fun t54 w=>
 GDo t54 true (fun E=>DoX prog (mFA 203 t4 4) w (pk K) E) w fun t56 w=>
 GDo t54 true (fun E=>DoX prog (mLoad 4 t56) w (pk K) E) w fun t57 w=>
 GDo t54 true (fun E=>E t57 w) w fun t58 w=>
 GDo t58 false (fun E=>DoX prog (mFA 48 t2 5) w (pk K) E) w fun t59 w=>
 GDo t58 false (fun E=>DoX prog (mLoad 46 t59) w (pk K) E) w fun t60 w=>
 GDo t58 false (fun E=>DoX prog (mB .len #[46] 3 #[false] #[t60]) w (pk K) E) w fun t61 w=>
 GDo t58 false (fun E=>DoX prog (mEq .eql 3 (.tmp 61) (.const (.int .i64 0)) t61 (.int .i64 0)) w (pk K) E) w fun t62 w=>
 GDo t54 true (fun E=>DoX prog (mPick t58 (.bool true) t62) w (pk K) E) w fun t63 w=>
 DoX prog (mPick t54 t63 (.bool false)) w (pk K) fun t64 w=>
 GDo t64 true (fun E=>E t1 w) w fun t66 w=>
 GDo t64 true (fun E=>DoX prog (mEq .eql 3 (.tmp 66) (.const (.int .i64 1)) t66 (.int .i64 1)) w (pk K) E) w fun t67 w=>
 GDo t64 true (fun E=>E t67 w) w fun t68 w=>
 GDo t68 false (fun E=>DoX prog (mFA 48 t2 0) w (pk K) E) w fun t69 w=>
 GDo t68 false (fun E=>DoX prog (mLoad 3 t69) w (pk K) E) w fun t70 w=>
 GDo t68 false (fun E=>DoX prog (mEq .neq 3 (.tmp 70) (.const (.int .i64 9)) t70 (.int .i64 9)) w (pk K) E) w fun t71 w=>
 GDo t64 true (fun E=>DoX prog (mPick t68 (.bool true) t71) w (pk K) E) w fun t72 w=>
 DoX prog (mPick t64 t72 (.bool false)) w (pk K) fun t73 w=>
 CallX prog 139 #[t73,(.int .i64 10)] w (pk K) fun t74 w=>
 DoX prog (mLoad 48 t2) w (pk K) fun t75 w=>
 CallX prog 141 #[t75] w (pk K) fun t76 w=>
 CallX prog 139 #[t76,(.int .i64 2)] w (pk K) fun t77 w=>
 DoX prog (mLoad 48 t2) w (pk K) fun t78 w=>
 CallX prog 142 #[t78] w (pk K) fun t79 w=>
 CallX prog 139 #[t79,(.int .i64 5)] w (pk K) fun t80 w=>
 DoX prog (mFA 48 t2 5) w (pk K) fun t81 w=>
 DoX prog (mLoad 46 t81) w (pk K) fun t82 w=>
 DoX prog (mB .len #[46] 3 #[false] #[t82]) w (pk K) fun t83 w=>
 DoX prog (mBin .leq 3 t83 (.int .i64 8191)) w (pk K) fun t84 w=>
 CallX prog 139 #[t84,(.int .i64 6)] w (pk K) fun t85 w=>
 DoX prog (mFA 48 t2 0) w (pk K) fun t86 w=>
 DoX prog (mLoad 3 t86) w (pk K) fun t87 w=>
 DoX prog (mEq .neq 3 (.tmp 87) (.const (.int .i64 5)) t87 (.int .i64 5)) w (pk K) fun t88 w=>
 GDo t88 false (fun E=>DoX prog (mFA 48 t2 3) w (pk K) E) w fun t90 w=>
 GDo t88 false (fun E=>DoX prog (mLoad 9 t90) w (pk K) E) w fun t91 w=>
 GDo t88 false (fun E=>CallX prog 143 #[t91] w (pk K) E) w fun t92 w=>
 DoX prog (mPick t88 (.bool true) t92) w (pk K) fun t93 w=>
 GDo t93 true (fun E=>DoX prog (mFA 203 t4 3) w (pk K) E) w fun t95 w=>
 GDo t93 true (fun E=>DoX prog (mLoad 4 t95) w (pk K) E) w fun t96 w=>
 GDo t93 true (fun E=>DoX prog (mUn .not t96) w (pk K) E) w fun t97 w=>
 GDo t93 true (fun E=>E t97 w) w fun t98 w=>
 GDo t98 false (fun E=>DoX prog (mLoad 48 t2) w (pk K) E) w fun t99 w=>
 GDo t98 false (fun E=>CallX prog 144 #[t99] w (pk K) E) w fun t100 w=>
 GDo t93 true (fun E=>DoX prog (mPick t98 (.bool true) t100) w (pk K) E) w fun t101 w=>
 DoX prog (mPick t93 t101 (.bool false)) w (pk K) fun t102 w=>
 CallX prog 139 #[t102,(.int .i64 3)] w (pk K) fun t103 w=>
 DoX prog (mFA 48 t2 5) w (pk K) fun t104 w=>
 DoX prog (mLoad 46 t104) w (pk K) fun t105 w=>
 DoX prog (mB .len #[46] 3 #[false] #[t105]) w (pk K) fun t106 w=>
 LoopX [(.int .i64 0)] w (fun vs1 w N1=>∀_:Sg,S_value_check_0 t1 t105 t106 (vs1.getD 0 undef) w N1 K)
theorem S_value_check_eq (t0 t1:Value)(w:World)(K:Ending→World→Prop):wpX prog 116 [] [(9,[107])] none (bodyOf Tryz.f109) (topQ prog [] K) (startX [t0,t1]) [] w=S_value_check t0 t1 w K:=by kernel_rfl
theorem S_value_check_ok {t0 t1:Value}{w:World}{K:Ending→World→Prop}(h:S_value_check t0 t1 w K):Calls prog 109 #[t0,t1] w K:=
 calls_of_wpX Tryz.func109 rfl rfl rfl rfl (Eq.mpr (S_value_check_eq t0 t1 w K) h)
def S_value_Check_1 (t0:Value)(w:World)(K:Ending→World→Prop):Prop:=
 DoX prog (mLoad 48 t0) w (pk K) fun t1 w=>
 CallX prog 109 #[t1,(.int .i64 1)] w (pk K) fun t2 w=>
 K (.returned (.tuple #[])) w
theorem S_value_Check_1_eq (t0:Value)(w:World)(K:Ending→World→Prop):wpX prog 3 [] [] none (bodyOf Tryz.f108) (topQ prog [] K) (startX [t0]) [] w=S_value_Check_1 t0 w K:=by kernel_rfl
theorem S_value_Check_1_ok {t0:Value}{w:World}{K:Ending→World→Prop}(h:S_value_Check_1 t0 w K):Calls prog 108 #[t0] w K:=
 calls_of_wpX Tryz.func108 rfl rfl rfl rfl (Eq.mpr (S_value_Check_1_eq t0 w K) h)
def S_value_caught_1 (t0 r:Value)(w:World)(K:Ending→World→Prop):Prop:=
 DoX prog (mEq .eql 20 (.tmp 4) (.const .nilIface) r .nilIface) w (pk K) fun t6 w=>
 IfX t6 (K (.returned (.tuple #[])) w) (DoX prog (mTA r 20 200 true) w (pk K) fun t7 w=>
 DoX prog (mExt t7 1) w (pk K) fun t8 w=>
 DoX prog (mExt t7 0) w (pk K) fun t9 w=>
 IfX t8 (DoX prog (mAlloc 200) w (pk K) fun t2 w=>
 DoX prog (mStore 200 t2 t9) w (pk K) fun _ w=>
 DoX prog (mFA 200 t2 0) w (pk K) fun t10 w=>
 DoX prog (mLoad 30 t10) w (pk K) fun t11 w=>
 DoX prog (mStore 30 t0 t11) w (pk K) fun _ w=>
 K (.returned (.tuple #[])) w) (DoX prog (mPanic r) w (pk K) fun _ w=>
 K (.returned (.tuple #[])) w))
theorem S_value_caught_1_eq (t0 r:Value)(w:World)(K:Ending→World→Prop):wpX prog 12 [] [] none (sndOf (bodyOf Tryz.f138)) (topD prog [] K) (upd (startX [t0]) 4 r) [] w=S_value_caught_1 t0 r w K:=by kernel_rfl
theorem S_value_caught_1_dok {t0:Value}{u:FrameMode}{w:World}{R:Ending→FrameMode→World→Prop}(h:S_value_caught_1 t0 (recV u) w (fun e w=>R e (recM u) w)):CallsD prog 138 #[t0] u w R:=
 callsD_recover Tryz.func138 rfl rfl rfl rfl rfl rfl rfl rfl (Eq.mpr (S_value_caught_1_eq t0 (recV u) w _) h)
def S_value_caught_p0 (x0:Deferred)(x1:Value)(K:Ending→World→Prop):=pd prog [.cell x1 30] K [x0]
def S_value_caught (t0:Value)(w:World)(K:Ending→World→Prop):Prop:=
 DoX prog (mAlloc 30) w (pk K) fun t2 w=>
 DoX prog (mFunc (.func 138) #[] #[t2]) w (pk K) fun t3 w=>
 DfrX (dfrV t3 #[]) (fun d1=>
 DoX prog (mCallV t0 #[]) w (S_value_caught_p0 d1 t2 K) fun t5 w=>
 DoX prog (mStore 30 t2 (.int .i64 0)) w (S_value_caught_p0 d1 t2 K) fun _ w=>
 Leave prog [.cell t2 30] K [d1] .returning w)
theorem S_value_caught_eq (t0:Value)(w:World)(K:Ending→World→Prop):wpX prog 6 [] [] none (bodyOf Tryz.f107) (topQ prog [.cell 2 30] K) (startX [t0]) [] w=S_value_caught t0 w K:=by kernel_rfl
theorem S_value_caught_ok {t0:Value}{w:World}{K:Ending→World→Prop}(h:S_value_caught t0 w K):Calls prog 107 #[t0] w K:=
 calls_of_wpX Tryz.func107 rfl rfl rfl rfl (Eq.mpr (S_value_caught_eq t0 w K) h)
def S_value_Check (t0:Value)(w:World)(K:Ending→World→Prop):Prop:=
 DoX prog (mBox 48 t0) w (pk K) fun t1 w=>
 DoX prog (mFunc (.func 108) #[] #[t1]) w (pk K) fun t3 w=>
 CallX prog 107 #[t3] w (pk K) fun t4 w=>
 K (.returned t4) w
theorem S_value_Check_eq (t0:Value)(w:World)(K:Ending→World→Prop):wpX prog 5 [] [] none (bodyOf Tryz.f78) (topQ prog [.tmp 2] K) (startX [t0]) [] w=S_value_Check t0 w K:=by kernel_rfl
theorem S_value_Check_ok {t0:Value}{w:World}{K:Ending→World→Prop}(h:S_value_Check t0 w K):Calls prog 78 #[t0] w K:=
 calls_of_wpX Tryz.func78 rfl rfl rfl rfl (Eq.mpr (S_value_Check_eq t0 w K) h)
end
section
open Eng Go.RowKit
 attribute [local congr] g_congr
theorem within64_ret (n a b:Int)(w:World):Ret prog 166 #[.int .i64 n,.int .i64 a,.int .i64 b] w (fun v w'=>v=.bool (decide (a≤n)&&decide (n≤b))∧w=w'):=by
 refine ret_of fun K hK=>S_value_within_int64_ok ?_;unfold S_value_within_int64;simp +contextual only[rs,gs];exact hK _ _ ⟨rfl,rfl⟩
theorem withinI_ret (n a b:Int)(w:World):Ret prog 167 #[.int .i64 n,.int .i64 a,.int .i64 b] w (fun v w'=>v=.bool (decide (a≤n)&&decide (n≤b))∧w=w'):=by
 refine ret_of fun K hK=>S_value_within_int_ok ?_;unfold S_value_within_int;simp +contextual only[rs,gs];exact hK _ _ ⟨rfl,rfl⟩
theorem tw_self {p:UInt8→Bool}:∀(s:List UInt8),s.takeWhile p=s→∀x∈s,p x=true
|[],_,x,hx=>by cases hx
|a::s,h,x,hx=>by
  rw[List.takeWhile_cons] at h;split at h
  ·rename_i ha
   injection h with _ h
   rcases List.mem_cons.1 hx with rfl|hx
   ·exact ha
   ·exact tw_self s h x hx
  ·cases h
theorem dw_head {p:UInt8→Bool}:∀(s:List UInt8) {a:UInt8} {t:List UInt8},s.dropWhile p=a::t→p a=false
|[],_,_,h=>by cases h
|b::s,a,t,h=>by
  rw[List.dropWhile_cons] at h;split at h
  ·exact dw_head s h
  ·rename_i hb
   injection h with h _
   subst h;simpa using hb
theorem vkey_ret (s:List UInt8)(w:World):Ret prog 143 #[.string ⟨s.toArray⟩] w (fun v w'=>v=.bool (Vl.name s)∧w=w'):=by
 refine ret_of fun K hK=>S_value_key_ok ?_;unfold S_value_key;rw[s_len Tryz.underlying9,b_leq];by_cases h:(s.length:Int)≤127
 ·have hi:∀{K':VWP},K' (.int .i64 (Lib.indexByte s 0)) w→CallX prog 91 #[.string ⟨s.toArray⟩,.int .u8 0] w (pk K) K':=fun hk=>c_eq (indexByte_ret s 0 w) hk;simp only[h,decide_true,rs];refine hi ?_;simp only[rs];refine hK _ _ ⟨?_,rfl⟩;rw[Vl.name,decide_eq_true (show s.length≤127 by omega),Bool.true_and]
  congr 1
  rw[decide_eq_decide];rcases ix_cases 0 s with ⟨h1,h2,h3⟩|⟨i,h1,hil,h3,h4⟩
  ·rw[h1];refine⟨fun _ hm=>?_,fun _=>by decide⟩;have:=tw_self s h2 0 hm;simp at this
  ·rw[h1];refine⟨fun h=>by omega,fun hm=>absurd ?_ hm⟩;have hd:s.drop i=s[i]::s.drop (i+1):=List.drop_eq_getElem_cons hil;have h0:s[i]=0:=by
    have:=dw_head s (h4.trans hd);simpa using this
   exact h0▸List.getElem_mem hil
 ·simp only[h,decide_false,rs,g_un];refine hK _ _ ⟨?_,rfl⟩;rw[Vl.name,decide_eq_false (show ¬s.length≤127 by omega)];rfl
theorem vrising_ret (o:Ob)(v:Value)(w:World)(h:OV (InW w) w v o)(hb:o.keys.length≤9223372036854775807) :
  Ret prog 144 #[v] w (fun v w'=>v=.bool (Vl.rising o)∧Below w.heap.size w w'):=by
 obtain⟨vk,vc,cs,rfl,ha⟩:=h.open;refine ret_of fun K hK=>S_value_rising_ok ?_;unfold S_value_rising;refine o_obb o ha.keys.one ha.kids.one (Own.start w) fun b w1 ho=>?_;have lk:∀{W:World} {L:List Ent},Own w W L→∀{PK:PKT} {K:VWP},DoX prog (mB .len #[23] 3 #[false] #[vk]) W PK K=K (.int .i64 (o.keys.length:Int)) W:=fun ho=>sl_len Tryz.underlying23 (ha.own ho).keys.1;have lc:∀{W:World} {L:List Ent},Own w W L→∀{PK:PKT} {K:VWP},DoX prog (mB .len #[46] 3 #[false] #[vc]) W PK K=K (.int .i64 (o.kids.length:Int)) W:=fun ho=>sl_len Tryz.underlying46 (ha.own ho).kids.1;simp only[rs,fa_o4,fa_o5,ob_keys ho 0 rfl,ob_kids ho 0 rfl,lk ho,lc ho];by_cases hlen:(o.keys.length:Int)≠(o.kids.length:Int)
 ·simp only[decide_eq_true hlen,i_t];refine hK _ _ ⟨?_,ho.done⟩;have:¬o.keys.length=o.kids.length:=fun e=>hlen (by rw[e]);simp[Vl.rising,this]
 have hle:o.keys.length=o.kids.length:=by omega
 simp only[decide_eq_false hlen,i_f];have hR:Vl.rising o=(List.range o.keys.length).all (Vl.keyAt o):=by simp[Vl.rising,hle]
 rw[hR] at hK;refine loop (fun vs w'=>∃(i:Nat),vs=[.int .i64 i]∧i≤o.keys.length∧(List.range i).all (Vl.keyAt o)=true∧Own w w' [obE b o vk vc]) (fun vs _=>o.keys.length - n0 vs) ⟨0,rfl,by omega,by simp,ho⟩ ?_;rintro vs w2 ⟨i,rfl,hi,hall,ho⟩ _;simp only[S_value_rising_0,gd,rs];by_cases hlt:(i:Int) < (o.keys.length:Int)
 ·have hi':i < o.keys.length:=by omega
  simp only[hlt,decide_true,i_t];have ho2:=ha.own ho;refine sl_ia1 (.string ⟨(o.keys[i]).toArray⟩) Tryz.underlying23 (by kernel_rfl) ho2.keys.1 (by omega) (by rw[Int.toNat_natCast];exact strsV_get hi') fun q hq=>?_;rw[l_cell nStr5 hq];refine c_eq (vkey_ret o.keys[i] w2) ?_;obtain⟨kb,koff,hia,hkc⟩:=run_kid_k ho2.kids.1 ho2.all (show i < o.kids.length by omega);have hlk:∀{PK:PKT} {K:VWP},DoX prog (mLoad 3 (.pointer (some ⟨kb,koff,none⟩))) w2 PK K=K (.int .i64 o.kids[i].k) w2:=l_cell nInt5 hkc;have hprev:decide (0 < (i:Int))=true→∃(b' off':Nat),(∀{PK:PKT} {K:VWP},DoX prog (mIA 23 vk (.int .i64 (IntKind.wrap .i64 ((i:Int) - 1)))) w2 PK K=K (.pointer (some ⟨b',off',none⟩)) w2) ∧
    (∀{PK:PKT} {K:VWP},DoX prog (mLoad 9 (.pointer (some ⟨b',off',none⟩))) w2 PK K=K (.string ⟨(o.keys.getD (i - 1) []).toArray⟩) w2):=by
   intro h;have h:=of_decide_eq_true h;have hj:i - 1 < o.keys.length:=by omega
   obtain⟨b',off',cap',rfl,hc'⟩:=sl_open ho2.keys.1 (show 0 < o.keys.length by omega);refine⟨b',off'+(i - 1),?_,?_⟩
   ·intro PK K;rw[wrap64_id (by omega) (by omega)];refine do_eq ?_;rw[run_ia Tryz.underlying23 (show _=some 1 by kernel_rfl) (by omega) (by omega),show ((i:Int) - 1).toNat*1=i - 1 by omega]
   ·intro PK K;rw[List.getD_eq_getElem?_getD,List.getElem?_eq_getElem hj];exact l_cell nStr5 (hc' _ _ (strsV_get hj))
  have hgi:o.keys.getD i []=o.keys[i]:=by rw[List.getD_eq_getElem?_getD,List.getElem?_eq_getElem hi'];rfl
  have hgk:o.kids.getD i (.mk 0 0 0 [] [] [])=o.kids[i]'(by omega):=by rw[List.getD_eq_getElem?_getD,List.getElem?_eq_getElem (by omega)];rfl
  have tail:∀(q:Bool) (N:Prop),q=!(Vl.keyAt o i)→(Vl.keyAt o i=true→N)→IfX (.bool q) (K (.returned (.bool false)) w2) N:=by
   intro q N hq hN;cases hk:Vl.keyAt o i with
  |false=>
    rw[hk] at hq;subst hq;rw[show (!false)=true from rfl,i_t];exact hK _ _ ⟨by rw[range_all_not hk hi'],ho.done⟩
  |true=>
    rw[hk] at hq;subst hq;rw[show (!true)=false from rfl,i_f];exact hN hk
  have hki:Vl.keyAt o i=(Vl.name o.keys[i]&&(decide (i=0)||Vl.less (o.keys.getD (i - 1) []) o.keys[i])&&!(decide (o.k=9)&&decide (o.keys[i]=Vl.lenK))&&decide ((o.kids[i]'(by omega)).k≠0)):=by
   rw[Vl.keyAt,hgi,hgk]
  by_cases hi0:i=0
  ·have hz:decide (0 < (i:Int))=false:=by rw[decide_eq_false_iff_not];omega
   simp +contextual only[rs,gs,hz,sel_sel,g_off,pick_orn,Bool.and_false,Bool.not_not,Bool.or_false,fa_o0,fa_o5,ob_k ho 0 rfl,ob_kids ho 0 rfl,hia,hlk,g_un,p_f];refine tail _ _ ?_ fun hk=>?_
   ·rw[hki,decide_eq_true hi0];simp only[Bool.true_or,Bool.and_true,Vl.lenK,ne_eq,decide_not];generalize Vl.name o.keys[i]=a;generalize decide (o.k=9)=c;generalize decide ((o.kids[i]'(by omega)).k=0)=d;by_cases hL:o.keys[i]=[76,101,110,103,116,104]<;>simp only[hL,decide_true,decide_false]<;>cases a<;>cases c<;>cases d<;>rfl
   ·rw[wrap64_id (by omega) (by omega)];exact nextX ⟨i+1,rfl,by omega,by rw[range_all_succ,hall,hk];rfl,ho⟩ (by simp[n0,RowKit.intOf];omega)
  ·have hz:decide (0 < (i:Int))=true:=by rw[decide_eq_true_iff];omega
   obtain⟨b',off',hpa,hpl⟩:=hprev hz;simp +contextual only[rs,gs,hz,sel_sel,g_off,pick_orn,Bool.and_false,Bool.not_not,Bool.or_false,fa_o0,fa_o4,fa_o5,ob_k ho 0 rfl,ob_keys ho 0 rfl,ob_kids ho 0 rfl,hia,hlk,hpa,hpl,g_un];refine tail _ _ ?_ fun hk=>?_
   ·rw[hki,decide_eq_false hi0];simp only[Bool.false_or,Vl.lenK,ne_eq,decide_not];generalize Vl.name o.keys[i]=a;generalize decide (o.k=9)=c;generalize decide ((o.kids[i]'(by omega)).k=0)=d;show _=!(_&&Op.bytesLess (o.keys.getD (i - 1) []) o.keys[i]&&_&&_);generalize Op.bytesLess (o.keys.getD (i - 1) []) o.keys[i]=e;by_cases hL:o.keys[i]=[76,101,110,103,116,104]<;>simp only[hL,decide_true,decide_false]<;>cases a<;>cases c<;>cases d<;>cases e<;>rfl
   ·rw[wrap64_id (by omega) (by omega)];exact nextX ⟨i+1,rfl,by omega,by rw[range_all_succ,hall,hk];rfl,ho⟩ (by simp[n0,RowKit.intOf];omega)
 ·simp only[hlt,decide_false,i_f];refine hK _ _ ⟨?_,ho.done⟩;rw[show o.keys.length=i by omega,hall]
theorem vfits_ret (o:Ob)(v:Value)(w:World)(h:OV (InW w) w v o):Ret prog 141 #[v] w (fun v w'=>v=.bool (Vl.fits o)∧Below w.heap.size w w'):=by
 obtain⟨vk,vc,cs,rfl,ha⟩:=h.open;refine ret_of fun K hK=>S_value_fits_ok ?_;unfold S_value_fits;refine o_obb o ha.keys.one ha.kids.one (Own.start w) fun b w1 ho=>?_;simp only[fa_o0,ob_k ho 0 rfl,rs];by_cases k1:o.k=1
 ·simp only[k1,decide_true,i_t,fa_o1,ob_n ho 0 rfl];refine c_eq (within64_ret _ _ _ w1) (hK _ _ ⟨?_,ho.done⟩);rw[Vl.fits,if_pos k1,Bool.decide_and]
 by_cases k2:o.k=2
 ·simp only[k2,Int.reduceEq,decide_true,decide_false,i_t,i_f,fa_o1,ob_n ho 0 rfl];refine c_eq (within64_ret _ _ _ w1) (hK _ _ ⟨?_,ho.done⟩);rw[Vl.fits,if_neg k1,if_pos k2,Bool.decide_and]
 by_cases k3:o.k=3
 ·simp only[k3,Int.reduceEq,decide_true,decide_false,i_t,i_f,fa_o1,ob_n ho 0 rfl];refine c_eq (within64_ret _ _ _ w1) (hK _ _ ⟨?_,ho.done⟩);rw[Vl.fits,if_neg k1,if_neg k2,if_pos k3,Bool.decide_and]
 by_cases k8:o.k=8
 ·simp only[k8,Int.reduceEq,decide_true,decide_false,i_t,i_f,fa_o1,ob_n ho 0 rfl];refine c_eq (within64_ret _ _ _ w1) ?_;have hf:Vl.fits o=(decide (1≤o.n)&&decide (o.n≤8191)&&(decide (0≤o.g)&&decide (o.g≤65535))):=by
   rw[Vl.fits,if_neg k1,if_neg k2,if_neg k3,if_pos k8,Bool.decide_and,Bool.decide_and]
  rw[hf] at hK;cases hc:(decide (1≤o.n)&&decide (o.n≤8191)) with
 |false=>
   rw[hc] at hK;rw[g_ft,g_ft,g_ft,p_f];exact hK _ _ ⟨rfl,ho.done⟩
 |true=>
   rw[hc] at hK;rw[g_tt,fa_o2,g_tt,ob_g ho 0 rfl,g_tt];refine c_eq (withinI_ret _ _ _ w1) ?_;rw[p_t];exact hK _ _ ⟨rfl,ho.done⟩
 simp only[k1,k2,k3,k8,decide_false,i_f];refine hK _ _ ⟨?_,ho.done⟩;rw[Vl.fits,if_neg k1,if_neg k2,if_neg k3,if_neg k8]
def vShort (o:Ob):Bool:=if o.k=4 then decide (o.s.length≤32767) else if o.k=5 then decide (o.s.length≤127) else decide (o.s.length≤1048576)
theorem vshort_ret (o:Ob)(v:Value)(w:World)(h:OV (InW w) w v o):Ret prog 142 #[v] w (fun v w'=>v=.bool (vShort o)∧Below w.heap.size w w'):=by
 obtain⟨vk,vc,cs,rfl,ha⟩:=h.open;refine ret_of fun K hK=>S_value_short_ok ?_;unfold S_value_short;refine o_obb o ha.keys.one ha.kids.one (Own.start w) fun b w1 ho=>?_;simp only[fa_o0,ob_k ho 0 rfl,rs];have hi:∀m:Nat,decide ((o.s.length:Int)≤(m:Int))=decide (o.s.length≤m):=fun m=>by rw[decide_eq_decide];omega
 by_cases k4:o.k=4
 ·simp only[k4,decide_true,i_t,fa_o3,ob_s ho 0 rfl,s_len Tryz.underlying9,rs];refine hK _ _ ⟨?_,ho.done⟩;rw[vShort,if_pos k4,←hi];rfl
 by_cases k5:o.k=5
 ·simp only[k5,Int.reduceEq,decide_true,decide_false,i_t,i_f,fa_o3,ob_s ho 0 rfl,s_len Tryz.underlying9,rs];refine hK _ _ ⟨?_,ho.done⟩;rw[vShort,if_neg k4,if_pos k5,←hi];rfl
 simp only[k4,k5,decide_false,i_f,fa_o3,ob_s ho 0 rfl,s_len Tryz.underlying9,rs];refine hK _ _ ⟨?_,ho.done⟩;rw[vShort,if_neg k4,if_neg k5,←hi];rfl
theorem short_long {o:Ob}(h:Vl.usesOk o=true):vShort o=!decide (Vl.long o.k < o.s.length):=by
 have key:∀m:Nat,decide (o.s.length≤m)=!decide (m < o.s.length):=fun m=>by
  rw[Bool.eq_iff_iff];simp
 unfold vShort Vl.long;by_cases k4:o.k=4
 ·rw[if_pos k4,if_neg (by omega),if_neg (by omega),key]
 by_cases k5:o.k=5
 ·rw[if_neg k4,if_pos k5,if_pos k5,key]
 by_cases k9:o.k=9
 ·rw[if_neg k4,if_neg k5,if_neg k5,if_pos k9,key]
 have hs:o.s=[]:=by
  unfold Vl.usesOk Vl.used at h
  revert h
  split
  ·intro h;cases h
  ·rename_i n g s ks cs he
   intro h;simp only[Bool.and_eq_true,Bool.or_eq_true,decide_eq_true_eq] at h;have hsf:s=false:=by
    revert he
    repeat' split
    all_goals (intro he;first|(cases he;done)|skip)
    all_goals (simp only[Option.some.injEq,Prod.mk.injEq] at he;first|exact he.2.2.1.symm|omega)
   rcases h.1.1.2 with h1|h1
   ·rw[hsf] at h1;cases h1
   ·exact h1
 rw[if_neg k4,if_neg k5,if_neg k5,if_neg k9,hs];rfl
end
section
open Eng Go.RowKit
 attribute [local congr] g_congr
def uC (u:Bool×Bool×Bool×Bool×Bool):List Value:=[.bool u.1,.bool u.2.1,.bool u.2.2.1,.bool u.2.2.2.1,.bool u.2.2.2.2]
def uV (u:Bool×Bool×Bool×Bool×Bool):Value:=.agg (uC u).toArray
def uE (b:Nat)(u:Bool×Bool×Bool×Bool×Bool):Ent:=.cells b (uC u) 203
def u0:Bool×Bool×Bool×Bool×Bool:=(false,false,false,false,false)
theorem aggU:aggN prog 203=some 5:=by kernel_rfl
theorem szU:(Tryz.prog.info? 203).map (·.size)=some 5:=by kernel_rfl
theorem uC_one (u:Bool×Bool×Bool×Bool×Bool):∀v∈uC u,v.oneCell'=true:=by
 intro v hv;simp only[uC,List.mem_cons,List.not_mem_nil,or_false] at hv;rcases hv with rfl|rfl|rfl|rfl|rfl<;>rfl
theorem nBool:notAgg prog 4=true:=by kernel_rfl
section
variable {w:World}{PK:PKT}{K:VWP}{S:Nat→Prop}{w0:World}{L:List Ent}
theorem fa_u0 {b:Nat}:DoX prog (mFA 203 (.pointer (some ⟨b,0,none⟩)) 0) w PK K=K (.pointer (some ⟨b,0,none⟩)) w:=f_addr (show fOff prog 203 0=some 0 by kernel_rfl)
theorem fa_u1 {b:Nat}:DoX prog (mFA 203 (.pointer (some ⟨b,0,none⟩)) 1) w PK K=K (.pointer (some ⟨b,0+1,none⟩)) w:=f_addr (show fOff prog 203 1=some 1 by kernel_rfl)
theorem fa_u2 {b:Nat}:DoX prog (mFA 203 (.pointer (some ⟨b,0,none⟩)) 2) w PK K=K (.pointer (some ⟨b,0+2,none⟩)) w:=f_addr (show fOff prog 203 2=some 2 by kernel_rfl)
theorem fa_u3 {b:Nat}:DoX prog (mFA 203 (.pointer (some ⟨b,0,none⟩)) 3) w PK K=K (.pointer (some ⟨b,0+3,none⟩)) w:=f_addr (show fOff prog 203 3=some 3 by kernel_rfl)
theorem fa_u4 {b:Nat}:DoX prog (mFA 203 (.pointer (some ⟨b,0,none⟩)) 4) w PK K=K (.pointer (some ⟨b,0+4,none⟩)) w:=f_addr (show fOff prog 203 4=some 4 by kernel_rfl)
theorem u_put (i:Nat){b:Nat}{u:Bool×Bool×Bool×Bool×Bool}(u':Bool×Bool×Bool×Bool×Bool)(ho:OwnS S w0 w L)(hi:L[i]?=some (uE b u))(k:∀w',OwnS S w0 w' (L.set i (uE b u'))→K undef w') :
  DoX prog (mStore 203 (.pointer (some ⟨b,0,none⟩)) (uV u')) w PK K:=o_put i ho hi (new:=uC u') szU (uC_one u') rfl k
end
def usedV (k:Int):Value:=.tuple #[uV ((Vl.used k).getD u0),.bool (Vl.used k).isSome]
theorem vused_ret (k:Int)(w:World):Ret prog 140 #[.int .i64 k] w (fun v w'=>v=usedV k∧Below w.heap.size w w'):=by
 refine ret_of fun K hK=>S_value_used_ok ?_;unfold S_value_used;refine o_new (fun b=>.pointer (some ⟨b,0,none⟩)) (uC u0) 203 (fun _=>by kernel_rfl) (Own.start w) fun b w1 ho=>?_;have fin:∀(u:Bool×Bool×Bool×Bool×Bool) (ok:Bool),Vl.used k=(if ok then some u else none)→(ok=false→u=u0)→DoX prog (mStore 203 (.pointer (some ⟨b,0,none⟩)) (uV u)) w1 (pk K) fun _ w=>
   RetX prog [.cell (.pointer (some ⟨b,0,none⟩)) 203,.val (.bool ok)] w K:=by
  intro u ok hu h0;refine u_put 0 u ho rfl fun w2 ho=>?_;refine ret_v2 (rv_cell (ho.agg 0 rfl aggU)) rv_val (hK _ _ ⟨?_,ho.done⟩);rw[usedV,hu];cases ok with
 |true=>rfl
 |false=>rw[h0 rfl];rfl
 have b0:∀{PK:PKT} {K:VWP},DoX prog (mBuild 203 #[]) w1 PK K=K (uV u0) w1:=do_eq (by kernel_rfl);have b1:∀{PK:PKT} {K:VWP},DoX prog (mBuild 203 #[(0,.bool true)]) w1 PK K=K (uV (true,false,false,false,false)) w1:=do_eq (by kernel_rfl);have b2:∀{PK:PKT} {K:VWP},DoX prog (mBuild 203 #[(2,.bool true)]) w1 PK K=K (uV (false,false,true,false,false)) w1:=do_eq (by kernel_rfl);have b3:∀{PK:PKT} {K:VWP},DoX prog (mBuild 203 #[(4,.bool true)]) w1 PK K=K (uV (false,false,false,false,true)) w1:=do_eq (by kernel_rfl);have b4:∀{PK:PKT} {K:VWP},DoX prog (mBuild 203 #[(3,.bool true),(4,.bool true)]) w1 PK K=K (uV (false,false,false,true,true)) w1:=do_eq (by kernel_rfl);have b5:∀{PK:PKT} {K:VWP},DoX prog (mBuild 203 #[(0,.bool true),(1,.bool true)]) w1 PK K=K (uV (true,true,false,false,false)) w1:=do_eq (by kernel_rfl);have b6:∀{PK:PKT} {K:VWP},DoX prog (mBuild 203 #[(2,.bool true),(3,.bool true),(4,.bool true)]) w1 PK K=K (uV (false,false,true,true,true)) w1:=do_eq (by kernel_rfl);simp only[rs];by_cases k0:k=0
 ·simp only[k0,decide_true,i_t,b0];exact fin _ true (by simp[Vl.used,k0,u0]) (by simp)
 simp only[k0,decide_false,i_f];refine join fun J hJ=>?_;by_cases k123:k=1∨k=2∨k=3
 ·have:J [.bool true] w1:=by
   refine hJ _ _ fun _=>?_;simp only[S_value_used_0,gd,i_t,b1];exact fin _ true (by simp[Vl.used,k0,k123]) (by simp)
  by_cases k1:k=1
  ·simp only[k1,decide_true,i_t];exact this
  by_cases k2:k=2
  ·simp only[k2,Int.reduceEq,decide_true,decide_false,i_t,i_f];exact this
  have k3:k=3:=by omega
  simp only[k3,Int.reduceEq,decide_true,decide_false,i_t,i_f];exact this
 have k1:¬k=1:=fun h=>k123 (.inl h);have k2:¬k=2:=fun h=>k123 (.inr (.inl h));have k3:¬k=3:=fun h=>k123 (.inr (.inr h));simp only[k1,k2,k3,decide_false,i_f];refine hJ _ _ fun _=>?_;clear hJ;simp only[S_value_used_0,gd,i_f,rs];refine join fun J hJ=>?_;by_cases k45:k=4∨k=5
 ·have:J [.bool true] w1:=by
   refine hJ _ _ fun _=>?_;simp only[S_value_used_1,gd,i_t,b2];exact fin _ true (by simp[Vl.used,k0,k1,k2,k3,k45]) (by simp)
  by_cases k4:k=4
  ·simp only[k4,decide_true,i_t];exact this
  have k5:k=5:=by omega
  simp only[k5,Int.reduceEq,decide_true,decide_false,i_t,i_f];exact this
 have k4:¬k=4:=fun h=>k45 (.inl h);have k5:¬k=5:=fun h=>k45 (.inr h);simp only[k4,k5,decide_false,i_f];refine hJ _ _ fun _=>?_;clear hJ;simp only[S_value_used_1,gd,i_f,rs];by_cases k6:k=6
 ·simp only[k6,decide_true,i_t,b3];exact fin _ true (by simp[Vl.used,k6]) (by simp)
 by_cases k7:k=7
 ·simp only[k7,Int.reduceEq,decide_true,decide_false,i_t,i_f,b4];exact fin _ true (by simp[Vl.used,k7]) (by simp)
 by_cases k8:k=8
 ·simp only[k8,Int.reduceEq,decide_true,decide_false,i_t,i_f,b5];exact fin _ true (by simp[Vl.used,k8]) (by simp)
 by_cases k9:k=9
 ·simp only[k9,Int.reduceEq,decide_true,decide_false,i_t,i_f,b6];exact fin _ true (by simp[Vl.used,k9]) (by simp)
 simp only[k6,k7,k8,k9,decide_false,i_f,b0];exact fin _ false (by simp[Vl.used,k0,k123,k45,k6,k7,k8,k9]) (by simp)
theorem used_keys {k:Int}{n g s ks cs:Bool}(h:Vl.used k=some (n,g,s,ks,cs)):ks=decide (k=7∨k=9):=by
 revert h
 unfold Vl.used
 repeat' split
 all_goals (intro h;first|(cases h;done)|skip)
 all_goals simp only[Option.some.injEq,Prod.mk.injEq] at h
 all_goals rw[←h.2.2.2.1]
 all_goals symm
 all_goals first|(rw[decide_eq_false_iff_not];omega)|(rw[decide_eq_true_iff];omega)
abbrev badE (e:Int):PanicEntry:={ v:=.iface 200 (.agg #[.int .i64 e]),recovered:=false }
theorem c_must {q r:Bool}{e:Int}{w:World}{PK:PKT}{K:VWP}(h:q=r)(hok:r=true→K (.tuple #[]) w)(hbad:r=false→PK [badE e] w):CallX prog 139 #[.bool q,.int .i64 e] w PK K:=by
 subst h;refine c_any (S_value_must_ok (K:=fun e' w'=>(q=true→e'=.returned (.tuple #[])∧w'=w)∧(q=false→e'=.panicked [badE e]∧w'=w)) ?_) ?_
 ·unfold S_value_must;cases q with
 |true=>
   rw[u_not,show (!true)=false from rfl,i_f];exact⟨fun _=>⟨rfl,rfl⟩,fun h=>by cases h⟩
 |false=>
   rw[u_not,show (!false)=true from rfl,i_t];have hb:∀{PK:PKT} {K:VWP},DoX prog (mBuild 200 #[(0,.int .i64 e)]) w PK K=K (.agg #[.int .i64 e]) w:=do_eq (by kernel_rfl);rw[hb,m_iface (show notIface prog 200=true by kernel_rfl),m_panic];exact⟨fun h=>(by cases h),fun _=>⟨rfl,rfl⟩⟩
 ·rintro e' w' ⟨h1,h2⟩;cases q with
 |true=>obtain⟨rfl,rfl⟩:=h1 rfl;exact hok rfl
 |false=>obtain⟨rfl,rfl⟩:=h2 rfl;exact hbad rfl
end
section
open Eng Go.RowKit
 attribute [local congr] g_congr
theorem vcheck_any (n:Nat):∀(o:Ob) (v:Value) (d:Nat) (w:World) (K:Ending→World→Prop),o.wt≤n→OV (InW w) w v o→o.wt≤4611686018427387904→1≤d→d≤1000 →
  (Vl.check d o=0→∀w',Below w.heap.size w w'→K (.returned (.tuple #[])) w')→(Vl.check d o≠0→∀w',Below w.heap.size w w'→K (.panicked [badE (Vl.check d o)]) w') →
  Calls prog 109 #[v,.int .i64 (d:Int)] w K:=by
 induction n with
|zero=>intro o v d w K h;have:=o.wt_pos;omega
|succ n ih=>
 intro o v d w K hn hov hb hd1 hd hok hbad;obtain⟨vk,vc,cs,rfl,ha⟩:=hov.open;refine S_value_check_ok ?_;unfold S_value_check;refine o_obb o ha.keys.one ha.kids.one (Own.start w) fun b w1 ho=>?_;have out:∀(e:Int) (W:World) (L:List Ent),Own w W L→Vl.why d o=e→e≠0→(pk K) [badE e] W:=by
  intro e W L ho h1 h2;have h3:Vl.check d o=e:=by rw[why_pos (by rw[h1];exact h2),h1]
  rw[h3] at hbad;exact hbad h2 W ho.done
 rw[b_leq];refine c_must (r:=decide (d≤24)) (by rw[decide_eq_decide];omega) (fun h24=>?_) fun h24=>out 7 w1 _ ho (by rw[Vl.why,if_pos (by have:=of_decide_eq_false h24;omega)]) (by decide);have h24':¬24 < d:=by have:=of_decide_eq_true h24;omega
 rw[fa_o0,ob_k ho 0 rfl];refine c_told (vused_ret o.k w1) rfl ho fun w2 ho=>?_;simp only[usedV,ex];refine o_new (fun b=>.pointer (some ⟨b,0,none⟩)) (uC u0) 203 (fun _=>by kernel_rfl) ho fun b4 w3 ho=>?_;refine u_put 0 ((Vl.used o.k).getD u0) ho rfl fun w4 ho=>?_;have ho:Own w w4 [uE b4 ((Vl.used o.k).getD u0),obE b o vk vc]:=ho;have bad10:(Vl.usesOk o=false∨(o.k=9∧1 < d))→(pk K) [badE 10] w4:=fun h=>out 10 w4 _ ho (by rw[Vl.why,if_neg h24',if_pos h]) (by decide);have lk:∀{W:World} {L:List Ent},Own w W L→∀{PK:PKT} {K:VWP},DoX prog (mB .len #[23] 3 #[false] #[vk]) W PK K=K (.int .i64 (o.keys.length:Int)) W:=fun ho=>sl_len Tryz.underlying23 (ha.own ho).keys.1;have lc:∀{W:World} {L:List Ent},Own w W L→∀{PK:PKT} {K:VWP},DoX prog (mB .len #[46] 3 #[false] #[vc]) W PK K=K (.int .i64 (o.kids.length:Int)) W:=fun ho=>sl_len Tryz.underlying46 (ha.own ho).kids.1;cases hu:Vl.used o.k with
|none=>
  have hb10:=bad10 (.inl (by rw[Vl.usesOk,hu]));simp only[Option.isSome_none,rs,g_un];exact c_must (r:=false) rfl (fun h=>by cases h) fun _=>hb10
|some u=>
 obtain⟨un,ug,us,uks,ucs⟩:=u;rw[hu,Option.getD_some] at ho;have hUo:Vl.usesOk o=((un||decide (o.n=0))&&(ug||decide (o.g=0))&&(us||decide (o.s=[]))&&(uks||decide (o.keys=[]))&&(ucs||decide (o.kids.length=0))):=by rw[Vl.usesOk,hu]
 have l0:∀{PK:PKT} {K:VWP},DoX prog (mLoad 4 (.pointer (some ⟨b4,0,none⟩))) w4 PK K=K (.bool un) w4:=l_cell nBool (ho.cell 0 rfl 0 rfl);have l1:∀{PK:PKT} {K:VWP},DoX prog (mLoad 4 (.pointer (some ⟨b4,0+1,none⟩))) w4 PK K=K (.bool ug) w4:=l_cell nBool (ho.cell 0 rfl 1 rfl);have l2:∀{PK:PKT} {K:VWP},DoX prog (mLoad 4 (.pointer (some ⟨b4,0+2,none⟩))) w4 PK K=K (.bool us) w4:=l_cell nBool (ho.cell 0 rfl 2 rfl);have l3:∀{W:World} {L:List Ent},Own w W (uE b4 (un,ug,us,uks,ucs)::L)→∀{PK:PKT} {K:VWP},DoX prog (mLoad 4 (.pointer (some ⟨b4,0+3,none⟩))) W PK K=K (.bool uks) W:=fun ho=>l_cell nBool (ho.cell 0 rfl 3 rfl);have l4:∀{PK:PKT} {K:VWP},DoX prog (mLoad 4 (.pointer (some ⟨b4,0+4,none⟩))) w4 PK K=K (.bool ucs) w4:=l_cell nBool (ho.cell 0 rfl 4 rfl);simp +contextual only[Option.isSome_some,rs,gs,sel_sel,g_off,pick_orn,Bool.and_false,Bool.not_not,Bool.or_false,fa_u0,fa_u1,fa_u2,fa_u3,fa_u4,l0,l1,l2,l3 ho,l4,fa_o0,fa_o1,fa_o2,fa_o3,fa_o4,fa_o5,ob_k ho 1 rfl,ob_n ho 1 rfl,ob_g ho 1 rfl,ob_s ho 1 rfl,ob_keys ho 1 rfl,ob_kids ho 1 rfl,lk ho,lc ho,e_nil];refine c_must (r:=Vl.usesOk o&&!(decide (o.k=9)&&decide (1 < d))) ?_ (fun hq=>?_) fun hq=>?_
 ·rw[hUo,ilen0 o.keys,ilenN o.kids]
  congr 1
  by_cases h9:o.k=9
  ·simp only[h9,ne_eq,not_true,decide_false,Bool.or_false,decide_true,Bool.true_and];rw[Bool.eq_iff_iff];simp;omega
  ·simp only[h9,ne_eq,not_false_eq_true,decide_true,Bool.or_true,decide_false,Bool.false_and,Bool.not_false]
 rotate_left
 ·refine bad10 ?_;rw[Bool.and_eq_false_iff] at hq;rcases hq with h|h
  ·exact .inl h
  ·right;have:(decide (o.k=9)&&decide (1 < d))=true:=by simpa using h
   rw[Bool.and_eq_true] at this;exact⟨of_decide_eq_true this.1,of_decide_eq_true this.2⟩
 rw[Bool.and_eq_true] at hq;obtain⟨huo,hq9⟩:=hq;have hno:¬(Vl.usesOk o=false∨(o.k=9∧1 < d)):=by
  rintro (h|⟨h1,h2⟩)
  ·rw[huo] at h;cases h
  ·rw[decide_eq_true h1,decide_eq_true h2] at hq9;cases hq9
 rw[ob_v ho 1 rfl];refine c_told (vfits_ret o _ w4 (ha.in_ ho).ov) rfl ho fun w5 ho=>?_;refine c_must (r:=Vl.fits o) rfl (fun hfi=>?_) fun hfi=>out 2 w5 _ ho (by rw[Vl.why,if_neg h24',if_neg hno,if_pos hfi]) (by decide);have hfi':¬Vl.fits o=false:=by rw[hfi];decide
 rw[ob_v ho 1 rfl];refine c_told (vshort_ret o _ w5 (ha.in_ ho).ov) rfl ho fun w6 ho=>?_;refine c_must (r:=!decide (Vl.long o.k < o.s.length)) (short_long huo) (fun hlo=>?_) fun hlo=>out 5 w6 _ ho (by rw[Vl.why,if_neg h24',if_neg hno,if_neg hfi',if_pos (by simpa using hlo)]) (by decide);have hlo':¬Vl.long o.k < o.s.length:=by simpa using hlo
 rw[ob_kids ho 1 rfl,lc ho,b_leq];refine c_must (r:=decide (o.kids.length≤8191)) (by rw[decide_eq_decide];omega) (fun hm=>?_) fun hm=>out 6 w6 _ ho (by rw[Vl.why,if_neg h24',if_neg hno,if_neg hfi',if_neg hlo',if_pos (by have:=of_decide_eq_false hm;omega)]) (by decide);have hm':¬8191 < o.kids.length:=by have:=of_decide_eq_true hm;omega
 rw[ob_k ho 1 rfl,n_int];have huk:=used_keys hu
 -- behind the form: the kids
 have rest:∀(W:World),Vl.form o=true→Own w W [uE b4 (un,ug,us,uks,ucs),obE b o vk vc] →
   DoX prog (mLoad 46 (.pointer (some ⟨b,0+5,none⟩))) W (pk K) fun t105 w=>
   DoX prog (mB .len #[46] 3 #[false] #[t105]) w (pk K) fun t106 w=>
   LoopX [(.int .i64 0)] w (fun vs1 w N1=>∀_:Sg,S_value_check_0 (.int .i64 (d:Int)) t105 t106 (vs1.getD 0 undef) w N1 K):=by
  intro W hfo ho;have hw0:Vl.why d o=0:=by rw[Vl.why,if_neg h24',if_neg hno,if_neg hfi',if_neg hlo',if_neg hm',if_neg (by rw[hfo];decide)]
  have hch:Vl.check d o=Vl.checks (d+1) o.kids:=by rw[Vl.check_eq,if_neg (by simp[hw0])]
  rw[hch] at hok hbad;rw[ob_kids ho 1 rfl,lc ho];refine loop (fun vs w'=>∃(i:Nat),vs=[.int .i64 i]∧i≤o.kids.length∧Vl.checks (d+1) o.kids=Vl.checks (d+1) (o.kids.drop i)∧Own w w' [uE b4 (un,ug,us,uks,ucs),obE b o vk vc]) (fun vs _=>o.kids.length - n0 vs) ⟨0,rfl,by omega,rfl,ho⟩ ?_;rintro vs w6 ⟨i,rfl,hi,hT,ho⟩ _;rw[hT] at hok hbad;simp only[S_value_check_0,gd,rs];by_cases hlt:(i:Int) < (o.kids.length:Int)
  ·have hi':i < o.kids.length:=by omega
   simp only[hlt,decide_true,i_t];rw[checks_drop _ _ _ hi'] at hok hbad hT;have hai:=ha.own ho;refine ob_ia hai.kids.1 hai.all hi' fun v hv=>?_;obtain⟨vk',vc',cs',rfl,hkid⟩:=hv.open;have ho6:=ho;refine o_oba ho fun b7 w7 ho=>?_;refine ob_put 0 hkid.keys.one hkid.kids.one ho rfl fun w8 ho=>?_;have ho:Own w w8 [obE b7 o.kids[i] vk' vc',uE b4 (un,ug,us,uks,ucs),obE b o vk vc]:=ho;rw[ob_v ho 0 rfl,wrap64_id (by omega) (by omega),show (d:Int)+1=((d+1:Nat):Int) by omega];have hkw:=kid_wt hi';refine c_any (ih o.kids[i] _ (d+1) w8 _ (by omega) (hkid.later ho6 ho).ov (by omega) (by omega) (by omega) (fun hc0 w9 hb9=>?_) (fun hc0 w9 hb9=>?_)) (fun _ _ h=>h)
   ·have ho:=ho.grow hb9;rw[if_neg (by simp[hc0])] at hT;simp only[Cont,rs];rw[wrap64_id (by omega) (by omega)];exact nextX ⟨i+1,rfl,by omega,hT,ho.tail⟩ (by simp[n0,RowKit.intOf];omega)
   ·rw[if_pos hc0] at hbad;exact hbad hc0 w9 (ho.grow hb9).done
  ·simp only[hlt,decide_false,i_f];rw[List.drop_of_length_le (by omega),Vl.checks] at hok;exact hok rfl w6 ho.done
 have bad3:∀(W:World) (L:List Ent),Own w W L→Vl.form o=false→(pk K) [badE 3] W:=fun W L ho h=>out 3 W _ ho (by rw[Vl.why,if_neg h24',if_neg hno,if_neg hfi',if_neg hlo',if_neg hm',if_pos h]) (by decide);by_cases k5:o.k=5
 ·have k79:¬(o.k=7∨o.k=9):=by omega
  have hks:uks=false:=by rw[huk,decide_eq_false k79]
  have hf:Vl.form o=Vl.name o.s:=by simp[Vl.form,k5]
  rw[show decide (o.k≠5)=false by rw[decide_eq_false_iff_not];omega,g_ff,ob_s ho 1 rfl,g_ff];refine c_eq (vkey_ret o.s w6) ?_;rw[p_f];cases hnm:Vl.name o.s with
 |false=>
   rw[g_ft,g_ft,show sel (wants (Value.bool false) true) undef=undef from rfl,g_un,g_un,g_ft,p_f];exact c_must (r:=false) rfl (fun h=>by cases h) fun _=>bad3 w6 _ ho (by rw[hf,hnm])
 |true=>
   rw[g_tt,l3 ho,hks,g_tt,u_not,show (!false)=true from rfl,show sel (wants (Value.bool true) true) (Value.bool true)=.bool true from rfl,g_tf,g_tf,g_tt,p_t,p_t];exact c_must (r:=true) rfl (fun _=>rest w6 (by rw[hf,hnm]) ho) fun h=>by cases h
 ·rw[show decide (o.k≠5)=true by rw[decide_eq_true_iff];exact k5,g_tf,g_tf,p_t,g_tt,l3 ho,g_tt,u_not];cases hks:uks with
 |false=>
   have k79:¬(o.k=7∨o.k=9):=by rw[huk,decide_eq_false_iff_not] at hks;exact hks
   rw[show (!false)=true from rfl,show sel (wants (Value.bool true) true) (Value.bool true)=.bool true from rfl,g_tf,g_tf,g_tt,p_t,p_t];rw[hks] at ho rest;exact c_must (r:=true) rfl (fun _=>rest w6 (by simp[Vl.form,k5,k79]) ho) fun h=>by cases h
 |true=>
   have k79:o.k=7∨o.k=9:=by rw[huk,decide_eq_true_iff] at hks;exact hks
   have hf:Vl.form o=Vl.rising o:=by simp[Vl.form,k5,k79]
   rw[show (!true)=false from rfl,show sel (wants (Value.bool true) true) (Value.bool false)=.bool false from rfl,g_ff,ob_v ho 1 rfl,g_ff];refine c_told (vrising_ret o _ w6 (ha.in_ ho).ov (by have:=key_len (o:=o);omega)) rfl ho fun w7 ho=>?_;rw[g_tt,p_f,p_t];rw[hks] at ho rest;exact c_must (r:=Vl.form o) hf.symm (fun hfo=>rest w7 hfo ho) fun h=>bad3 w7 _ ho h
theorem caught_plain:plainB prog 138=true:=by kernel_rfl
theorem leave_fn {rs:List RV}{K:Ending→World→Prop}{f:Nat}{args caps:Array Value}{ds:List Deferred}{u:FrameMode}(hu:u≠.run)(hp:plainB prog f=true){w:World}
  (h:CallsD prog f (args++caps) u w fun
   |.returned _,u',w'=>Leave prog rs K ds (settle u') w'
   |.panicked chain,u',w'=>Leave prog rs K ds (raised u' chain) w'
   |.outgrown,_,_=>False):Leave prog rs K ({ target:=.fn (.func f) caps,args:=args }::ds) u w:=
 ⟨hu,.func f,caps,f,args++caps,rfl,by simpa[invoke] using plain_run hp _ w,h⟩
theorem run_plain:plainB prog 108=true:=by kernel_rfl
abbrev nErr5:notAgg prog 30=true:=by kernel_rfl
theorem vCheck_ret (o:Ob)(v:Value)(w:World)(h:OV (InW w) w v o)(hb:o.wt≤4611686018427387904):Ret prog 78 #[v] w (fun v w'=>v=.int .i64 (Vl.check 1 o)∧Below w.heap.size w w'):=by
 refine ret_of fun K hK=>S_value_Check_ok ?_;obtain⟨vk,vc,cs,rfl,ha⟩:=h.open;unfold S_value_Check;refine o_obb o ha.keys.one ha.kids.one (Own.start w) fun b w1 ho=>?_;rw[m_func];refine c_any (S_value_caught_ok (K:=fun e w'=>e=.returned (.int .i64 (Vl.check 1 o))∧Below w.heap.size w w') ?_) ?_
 rotate_left
 ·rintro e w' ⟨rfl,hb'⟩;exact hK _ _ ⟨rfl,hb'⟩
 unfold S_value_caught;refine o_new (fun b=>.pointer (some ⟨b,0,none⟩)) [.int .i64 0] 30 (fun _=>by kernel_rfl) ho fun b2 w2 ho=>?_;rw[m_func];refine⟨_,rfl,?_⟩;refine c_val run_plain ?_;show CallX prog _ #[.pointer (some ⟨b,0,none⟩)] _ _ _;refine c_any (S_value_Check_1_ok (K:=fun e w'=>(Vl.check 1 o=0→e=.returned (.tuple #[])∧Below w2.heap.size w2 w')∧(Vl.check 1 o≠0→e=.panicked [badE (Vl.check 1 o)]∧Below w2.heap.size w2 w')) ?_) ?_
 ·unfold S_value_Check_1;rw[ob_v ho 1 rfl];refine c_any (vcheck_any o.wt o _ 1 w2 (fun e w'=>(Vl.check 1 o=0→e=.returned (.tuple #[])∧Below w2.heap.size w2 w')∧(Vl.check 1 o≠0→e=.panicked [badE (Vl.check 1 o)]∧Below w2.heap.size w2 w')) (Nat.le_refl _) (ha.in_ ho).ov hb (by omega) (by omega)
   (fun h0 w' hb'=>⟨fun _=>⟨rfl,hb'⟩,fun h=>absurd h0 h⟩) (fun h0 w' hb'=>⟨fun h=>absurd h h0,fun _=>⟨rfl,hb'⟩⟩)) ?_
  rintro e w' ⟨h1,h2⟩;by_cases h0:Vl.check 1 o=0
  ·obtain⟨rfl,hb'⟩:=h1 h0;exact⟨fun _=>⟨rfl,hb'⟩,fun h=>absurd h0 h⟩
  ·obtain⟨rfl,hb'⟩:=h2 h0;exact⟨fun h=>absurd h h0,fun _=>⟨rfl,hb'⟩⟩
 rintro e w' ⟨h1,h2⟩;by_cases h0:Vl.check 1 o=0
 ·obtain⟨rfl,hb'⟩:=h1 h0;simp only[Cont];have ho:=ho.grow hb';refine o_store 0 ho rfl (by kernel_rfl) rfl (by simp) fun w4 ho=>?_;refine leave_fn (by simp) caught_plain (S_value_caught_1_dok ?_);simp only[S_value_caught_1,recV,recM,Eng.e_nil Tryz.underlying20,rs];refine ret_cell1 nErr5 (ho.cell 0 rfl 0 rfl) (And.intro ?_ ho.done);rw[h0]
 ·obtain⟨rfl,hb'⟩:=h2 h0;simp only[Cont,S_value_caught_p0,pd];have ho:=ho.grow hb';refine leave_fn (by simp) caught_plain (S_value_caught_1_dok ?_);simp only[S_value_caught_1,recV,recM,Eng.e_some Tryz.underlying20,rs,t_hit (show notIface prog 200=true by kernel_rfl),
   x_ext (show [Value.agg #[.int .i64 (Vl.check 1 o)],Value.bool true][1]?=some (Value.bool true) from rfl),x_ext (show [Value.agg #[.int .i64 (Vl.check 1 o)],Value.bool true][0]?=some (Value.agg #[.int .i64 (Vl.check 1 o)]) from rfl)]
  refine o_new (fun b=>.pointer (some ⟨b,0,none⟩)) [.int .i64 0] 200 (fun _=>by kernel_rfl) ho fun b5 w5 ho=>?_;refine o_put 0 ho rfl (new:=[.int .i64 (Vl.check 1 o)]) (show (Tryz.prog.info? 200).map (·.size)=some 1 by kernel_rfl) (by simp;rfl) rfl fun w6 ho=>?_;rw[f_addr (show fOff prog 200 0=some 0 by kernel_rfl),l_cell nErr5 (ho.cell 0 rfl 0 rfl)];refine o_store 1 ho rfl (by kernel_rfl) rfl (by simp) fun w7 ho=>?_;exact ret_cell1 nErr5 (ho.cell 1 rfl 0 rfl) (And.intro rfl ho.done)
end
section
open Eng Go.RowKit
theorem isnanC_ret (x:List UInt8)(w:World):Ret prog 168 #[.string ⟨x.toArray⟩] w (fun v w'=>v=.bool false∧w=w'):=by
 refine ret_of fun K hK=>S_cmp_isNaN_string_ok ?_;unfold S_cmp_isNaN_string;rw[n_str];exact hK _ _ ⟨by simp,rfl⟩
theorem isnanS_ret (x:List UInt8)(w:World):Ret prog 146 #[.string ⟨x.toArray⟩] w (fun v w'=>v=.bool false∧w=w'):=by
 refine ret_of fun K hK=>S_slices_isNaN_string_ok ?_;unfold S_slices_isNaN_string;rw[n_str];exact hK _ _ ⟨by simp,rfl⟩
theorem cless_ret (x y:List UInt8)(w:World):Ret prog 145 #[.string ⟨x.toArray⟩,.string ⟨y.toArray⟩] w (fun v w'=>v=.bool (Vl.less x y)∧w=w'):=by
 refine ret_of fun K hK=>S_cmp_Less_string_ok ?_;unfold S_cmp_Less_string;refine c_eq (isnanC_ret x w) ?_;simp only[rs,s_lss];exact hK _ _ ⟨rfl,rfl⟩
theorem shr1 {a:Int}(h0:0≤a)(h1:a≤4611686018427387904):Int.fdiv (IntKind.wrap .u64 a) (2 ^ (min (1:Int).toNat IntKind.u64.bits))=a / 2:=by
 rw[wrapu64_id h0 (by omega)];show Int.fdiv a 2=a / 2;rw[Int.fdiv_eq_ediv_of_nonneg _ (by omega)]
theorem bsearch_ret (va:Value)(l:List (List UInt8))(x:List UInt8)(w:World)(ha:Sl w va 1 l.length (strsV l))(hr:Vl.Rise l)(hl:l.length≤1099511627776) :
  Ret prog 111 #[va,.string ⟨x.toArray⟩] w (fun v w'=>v=.tuple #[.int .i64 (Vl.place l x:Nat),.bool (Vl.hit l x)]∧w=w'):=by
 refine ret_of fun K hK=>S_slices_BinarySearch_string_string_ok ?_;unfold S_slices_BinarySearch_string_string;rw[sl_len Tryz.underlying23 ha];refine loop (fun vs w'=>∃(i j:Nat),vs=[.int .i64 i,.int .i64 j]∧i≤j∧j≤l.length∧(∀m (h:m < l.length),m < i→Vl.less l[m] x=true)∧(∀m (h:m < l.length),j≤m→Vl.less l[m] x=false)∧w=w') (fun vs _=>n1 vs - n0 vs)
  ⟨0,l.length,rfl,by omega,by omega,fun m _ h=>by omega,fun m h1 h2=>by omega,rfl⟩ ?_
 rintro vs w2 ⟨i,j,rfl,hij,hj,hlo,hhi,rfl⟩ _;simp only[S_slices_BinarySearch_string_string_0,gd,rs];by_cases hlt:(i:Int) < (j:Int)
 ·simp only[hlt,decide_true,i_t];rw[wrap64_id (by omega) (by omega),c_int (show (Tryz.prog.underlying 3).isSome=true by kernel_rfl) Tryz.underlying58,b_shr (by omega),shr1 (by omega) (by omega),
   c_int (show (Tryz.prog.underlying 58).isSome=true by kernel_rfl) Tryz.underlying3,wrap64_id (by omega) (by omega)]
  obtain⟨h,hh⟩:∃h:Nat,((i:Int)+(j:Int)) / 2=(h:Int):=⟨(i+j) / 2,by omega⟩;rw[hh];have h1:i≤h:=by omega
  have h2:h < j:=by omega
  have h3:h < l.length:=by omega
  refine sl_ia1 (.string ⟨(l[h]).toArray⟩) Tryz.underlying23 (by kernel_rfl) ha (by omega) (by rw[Int.toNat_natCast];exact strsV_get h3) fun q hq=>?_;rw[l_cell nStrI hq];refine c_eq (cless_ret l[h] x w) ?_;cases hc:Vl.less l[h] x with
 |true=>
   simp only[rs];rw[wrap64_id (by omega) (by omega)];refine nextX ⟨h+1,j,rfl,by omega,by omega,fun m hm hmi=>?_,hhi,rfl⟩ (by simp[n0,n1,RowKit.intOf];omega);rcases Nat.lt_or_ge m h with h4|h4
   ·exact Vl.less_trans (Vl.rise_get hr h4 h3) hc
   ·have:m=h:=by omega
    subst this;exact hc
 |false=>
   simp only[rs];refine nextX ⟨i,h,rfl,by omega,by omega,hlo,fun m hm hmi=>?_,rfl⟩ (by simp[n0,n1,RowKit.intOf];omega);rcases Nat.lt_or_ge h m with h4|h4
   ·cases hm2:Vl.less l[m] x with
   |false=>rfl
   |true=>have:=Vl.less_trans (Vl.rise_get hr h4 hm) hm2;rw[hc] at this;cases this
   ·have:m=h:=by omega
    subst this;exact hc
 ·have he:i=j:=by omega
  subst he;simp only[hlt,decide_false,i_f];have hp:Vl.place l x=i:=Vl.place_at hj hlo (fun h=>hhi i h (Nat.le_refl _));by_cases hn:(i:Int) < (l.length:Int)
  ·have hi':i < l.length:=by omega
   simp only[hn,decide_true,rs];refine sl_ia1 (.string ⟨(l[i]).toArray⟩) Tryz.underlying23 (by kernel_rfl) ha (by omega) (by rw[Int.toNat_natCast];exact strsV_get hi') fun q hq=>?_;rw[l_cell nStrI hq];simp only[rs];by_cases hx:l[i]=x
   ·simp only[hx,decide_true,rs,g_un];refine hK _ _ ⟨?_,rfl⟩;rw[hp];unfold Vl.hit;rw[hp,List.getElem?_eq_getElem hi',hx];simp
   ·simp only[hx,decide_false,rs];refine sl_ia1 (.string ⟨(l[i]).toArray⟩) Tryz.underlying23 (by kernel_rfl) ha (by omega) (by rw[Int.toNat_natCast];exact strsV_get hi') fun q hq=>?_;rw[l_cell nStrI hq];refine c_eq (isnanS_ret l[i] w) ?_;simp only[rs];refine hK _ _ ⟨?_,rfl⟩;rw[hp];unfold Vl.hit;rw[hp,List.getElem?_eq_getElem hi'];simp[hx]
  ·simp only[hn,decide_false,rs,g_un];refine hK _ _ ⟨?_,rfl⟩;rw[hp];unfold Vl.hit;rw[hp,List.getElem?_eq_none (by omega)];simp
end
end Go.Proofs.YtmkodaephgnehaaGreatDoor

namespace Go.Proofs.YtmkodaephgnehaaGreatDoor
section
open Go
theorem Ob.len_wts:∀os:List Ob,os.length≤Ob.wts os
|[]=>by simp
|o::os=>by
  have:=Ob.len_wts os;have:1≤o.wt:=by cases o;rw[Ob.wt];omega
  rw[Ob.wts,List.length_cons];omega
namespace Wr
end Wr
end
end Go.Proofs.YtmkodaephgnehaaGreatDoor

namespace Go.Proofs.YtmkodaephgnehaaGreatDoor
section
open Go
namespace Lx
open Oc
def eol (c:UInt8):Bool:=decide (c=13)||decide (c=10)
def skipF:Bool→List UInt8→Nat
|_,[]=>0
|true,c::t=>1+skipF (!eol c) t
|false,c::t=>if c=37 then 1+skipF true t else if white c then 1+skipF false t else 0
def skip (s:List UInt8)(k:Nat):Nat:=k+skipF false (s.drop k)
def lineF:List UInt8→Nat
|[]=>0
|c::t=>if c=10 then 1 else if c=13 then (if t.head?=some 10 then 2 else 1) else 1+lineF t
theorem drop_cons {s:List UInt8}{i:Nat}(h:i < s.length):s.drop i=s[i]::s.drop (i+1):=List.drop_eq_getElem_cons h
def digit (c:UInt8):Int:=
 if 48≤c.toNat∧c.toNat≤57 then (c.toNat:Int) - 48
 else if 65≤c.toNat∧c.toNat≤70 then (c.toNat:Int) - 65+10
 else if 97≤c.toNat∧c.toNat≤102 then (c.toNat:Int) - 97+10
 else -1
theorem digit_bd (c:UInt8):-1≤digit c∧digit c≤15:=by
 unfold digit;split
 ·omega
 ·split
  ·omega
  ·split<;>omega
def byte (a b:Int):UInt8:=UInt8.ofNat (16*a+b).toNat
end Lx
end
end Go.Proofs.YtmkodaephgnehaaGreatDoor
