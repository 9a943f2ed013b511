/- Texts that go together: EngS EngD SBuild Shelf LibBld SPlain SFix SRef02 FixP FixR FixQ SStr LibCut FixT PlA PlB PlC LawKit2 LawKit3 EngT EngH EngI EngJ EngK ObA Plain05 Plain05B Plain05C Plain05D Plain03 Plain03B Plain03C Plain06 EngU ObB EngX. -/
import Derived.Laws.RangeString
import Derived.Laws.BytesArg
import Derived.Test.YtkejpieaafeblaaGreatDoorRows
import Derived.Shelf.Strings.Builder1
import Derived.Shelf.Strings.Builder2
import Derived.Shelf.Strings.Trim
import Derived.Shelf.Small.Utf8
import Derived.Shelf.Small.Bits
import Derived.Shelf.Small.Strs
import Derived.Shelf.Strings.BuilderF
import Derived.Shelf.Strings.BuilderK
import Derived.Shelf.Strings.Builder2Cap
import Derived.Shelf.Strconv.Itoa0
import Derived.Shelf.Strconv.Itoa1
import Derived.Shelf.LaysM
import Derived.Shelf.Strconv.Itoa2
import Derived.Shelf.Strconv.Itoa3
import Derived.Shelf.Strconv.Itoa4
import Derived.Shelf.Strings.Search1
import Derived.Shelf.Strings.Search2
import Derived.Shelf.Strings.Search3
import Derived.Shelf.Strings.Cut
import Derived.Shelf.Strings.Shaped
import Derived.Shelf.Sort.Plain
import Derived.Shelf.Strings.Prefix
import Derived.Shelf.Strings.Runes
import Derived.Shelf.Strings.AsciiSet
import Derived.Shelf.Unicode.DecodeSlow
import Derived.Shelf.Strings.BuilderCap
import Derived.Shelf.Slices.In.SortNone
import Derived.Test.YtkejpieaafeblaaGreatDoorProg
import Derived.Recover
import Derived.Shelf.Strings.SlTrimAscii
import Derived.Lib.Repeat
import Derived.SliceStrings
import Derived.Laws.StructEq
import Derived.Sort.Walk0
import Derived.Test.YtkejpieaafeblaaGreatDoorMbcfnphka
set_option linter.defProp false
set_option linter.unusedSimpArgs false
set_option linter.unusedVariables false
set_option maxRecDepth 20000
open Go.Proofs.Tryz (prog)
namespace Go.Proofs.YtkejpieaafeblaaGreatDoor
section
namespace Eng
open Go.RowKit
def bytesV (l:List UInt8):List Value:=l.map fun c=>.int .u8 (c.toNat:Int)
theorem bytesV_length (l:List UInt8):(bytesV l).length=l.length:=by simp[bytesV]
theorem bytesV_get {l:List UInt8}{i:Nat}{c:UInt8}(h:l[i]?=some c):(bytesV l)[i]?=some (.int .u8 (c.toNat:Int)):=by simp[bytesV,h]
section
variable {S:Nat→Prop}{P:Program}{w:World}{PK:PKT}{K:VWP}
theorem run_len {T U:TypeId}{cs:Array Bool}{l:List UInt8}(h:P.underlying T=some .string):(mB .len #[T] U cs #[.string ⟨l.toArray⟩]).run P w=.ok (.value (.int .i64 (l.length:Int))) w:=by
 simp[mB,builtin,Builtin.len_,run_underlying h,goInt,str_size]
theorem run_from {T:TypeId}{a:List UInt8}{k:IntKind}{lo:Int}(h:P.underlying T=some .string)(h0:0≤lo)(h1:lo≤a.length) :
  (mSlice T (.string ⟨a.toArray⟩) (some (.int k lo)) none none).run P w=.ok (.value (.string ⟨(a.drop lo.toNat).toArray⟩)) w:=by
 refine mv_run ?_;have e:(⟨a.toArray⟩:ByteArray).extract lo.toNat a.length=⟨(a.drop lo.toNat).toArray⟩:=by
  rw[str_ext (s:=(⟨a.toArray⟩:ByteArray).extract lo.toNat a.length),Lib.extract_data];rw[List.take_of_length_le (by simp)]
 simp only[Instr.sliceAt,Instr.slice,Instr.sliceBounds,Instr.sliceBound,asIntOf,run_underlying h,str_size];simp[run_underlying h,str_size,h0,h1,e]
theorem run_upto {T:TypeId}{a:List UInt8}{k':IntKind}{hi:Int}(h:P.underlying T=some .string)(h1:0≤hi)(h2:hi≤a.length) :
  (mSlice T (.string ⟨a.toArray⟩) none (some (.int k' hi)) none).run P w=.ok (.value (.string ⟨(a.take hi.toNat).toArray⟩)) w:=by
 refine mv_run ?_;have e:(⟨a.toArray⟩:ByteArray).extract 0 hi.toNat=⟨(a.take hi.toNat).toArray⟩:=by
  rw[str_ext (s:=(⟨a.toArray⟩:ByteArray).extract 0 hi.toNat),Lib.extract_data];simp
 simp only[Instr.sliceAt,Instr.slice,Instr.sliceBounds,Instr.sliceBound,asIntOf,run_underlying h,str_size];simp[run_underlying h,str_size,h1,h2,e]
theorem m_min {T1 T2 U:TypeId}{cb:Array Bool}{k k':IntKind}{a b:Int}:DoX P (mB .min #[T1,T2] U cb #[.int k a,.int k' b]) w PK K=K (.int k (min a b)) w:=by
 refine do_eq ?_;have e:(if b < a then b else a)=min a b:=by split<;>omega
 simp[mB,builtin,Builtin.min_,Builtin.min2,e]
theorem c_bytes {S D E:TypeId}{v:Value}{l:List UInt8}(hs:P.underlying S=some (.slice E))(he:P.underlying E=some (.int .u8))(hd:P.underlying D=some .string)(h:Sl w v 1 l.length (bytesV l)):DoX P (mConv S D v) w PK K=K (.string ⟨l.toArray⟩) w:=by
 obtain⟨hl,a,cap,rfl,hn,hc⟩:=h;cases a with
|none=>
  have h0:=hn rfl;have:l=[]:=List.eq_nil_of_length_eq_zero h0;subst this;exact mv_do (run_convert_bytes_nil w S E hs he _ _ D hd)
|some p=>
  obtain⟨hsp,hcell⟩:=hc p rfl;by_cases h0:l=[]
  ·subst h0;refine mv_do ?_;have hl0:(loadCells p 0).run P w=.ok (([]:List Int).map (Value.int .u8)).toArray w:=rfl;rw[show ([]:List UInt8).length=0 from rfl,run_convert_bytes_string w S D E _ 0 cap hs he hd,run_bytesToString w p 0 cap [] hl0];rfl
  replace hsp:=hsp (List.length_pos_iff.2 h0)
  obtain⟨b,off,spot⟩:=p;simp only at hsp hcell;subst hsp;have:=run_convert_bytes_arg (P:=P) w S E hs he b off l.length cap (l.map fun c=>(c.toNat:Int)) (by simp) (fun i hi=>by
   refine hcell i _ ?_;simp[bytesV,List.getElem?_eq_getElem hi]) D hd
  refine mv_do ?_;rw[this];have e:strOfNums (l.map fun c=>(c.toNat:Int))=⟨l.toArray⟩:=by
   unfold strOfNums;rw[List.map_map]
   congr 2
   conv=>rhs;rw[←List.map_id l]
   refine List.map_congr_left fun c _=>?_;simp
  rw[e]
theorem o_range {T:TypeId}{l:List UInt8}{w0:World}{L:List Ent}(h:P.underlying T=some .string)(ho:OwnS S w0 w L)
  (k:∀b w',OwnS S w0 w' (.obj b (.stringIter ⟨l.toArray⟩ 0)::L)→K (.pointer (some ⟨b,0,none⟩)) w'):DoX P (mRange T (.string ⟨l.toArray⟩)) w PK K:=
 do_ok (mv_run (run_range_string w T _ h)) (k _ _ (ho.allocObj _))
theorem run_next_at {s:ByteArray}{pos b:Nat}{ty:TypeId}(hb:w.heap[b]?=some (.stringIter s pos))(h:pos < s.size)(ha:(s[pos]'h).toNat < 128) :
  (Instr.next (.pointer (some ⟨b,0,none⟩)) true ty).run P w=.ok (.tuple #[.bool true,.int .i64 pos,.int .i32 (s[pos]'h).toNat]) { w with heap:=w.heap.setIfInBounds b (.stringIter s (pos+1)) }:=by
 simp only[Instr.next,getObj,setObj,Sem.run_bind,Sem.run,hb,Result.andThen,h,if_true,decode_ascii s pos h ha];simp[goInt,Sem.run,hb]
theorem put_iter {w0:World}{L:List Ent}(ho:OwnS S w0 w L)(i:Nat){b:Nat}{o o':Obj}(hi:L[i]?=some (.obj b o)):OwnS S w0 { w with heap:=w.heap.setIfInBounds b o' } (L.set i (.obj b o')):=by
 have h:w.heap[b]?=some o:=ho.at_ i hi;refine ho.put i hi (w':={ w with heap:=w.heap.setIfInBounds b o' }) ⟨rfl,rfl,rfl,by simp,fun k _ hk=>?_⟩ (.obj b o') ?_ (fun k hk=>.inl hk)
 ·show (w.heap.setIfInBounds b o')[k]?=_;exact Array.getElem?_setIfInBounds_ne (fun e=>hk (by simp[Ent.obj,e]))
 ·show (w.heap.setIfInBounds b o')[b]?=_;exact Array.getElem?_setIfInBounds_self_of_lt (lt_of_get h)
theorem o_next {w0:World}{L:List Ent}(i:Nat){ty:TypeId}{b pos:Nat}{l:List UInt8}{c:UInt8}(ho:OwnS S w0 w L)(hi:L[i]?=some (.obj b (.stringIter ⟨l.toArray⟩ pos)))(hc:l[pos]?=some c)(ha:c.toNat < 128)
  (k:∀w',OwnS S w0 w' (L.set i (.obj b (.stringIter ⟨l.toArray⟩ (pos+1))))→K (.tuple #[.bool true,.int .i64 pos,.int .i32 (c.toNat:Int)]) w'):DoX P (mNext (.pointer (some ⟨b,0,none⟩)) true ty) w PK K:=by
 have hl:pos < l.length:=(List.getElem?_eq_some_iff.1 hc).1;have h1:pos < (⟨l.toArray⟩:ByteArray).size:=by rw[str_size];exact hl
 have hg:(⟨l.toArray⟩:ByteArray)[pos]'h1=c:=(List.getElem?_eq_some_iff.1 hc).2;have hr:=run_next_at (P:=P) (ty:=ty) (ho.at_ i hi) h1 (by rw[hg];exact ha);rw[hg] at hr;exact do_ok (mv_run hr) (k _ (put_iter ho i hi))
theorem o_next_end {w0:World}{L:List Ent}(i:Nat){ty:TypeId}{b pos:Nat}{l:List UInt8}(ho:OwnS S w0 w L)(hi:L[i]?=some (.obj b (.stringIter ⟨l.toArray⟩ pos)))(hc:l.length≤pos) :
  DoX P (mNext (.pointer (some ⟨b,0,none⟩)) true ty) w PK K=K (.tuple #[.bool false]) w:=by
 have h:w.heap[b]?=some (.stringIter ⟨l.toArray⟩ pos):=ho.at_ i hi;have h1:¬pos < (⟨l.toArray⟩:ByteArray).size:=by rw[str_size];omega
 refine mv_do ?_;simp[Instr.next,getObj,Sem.run,h,h1]
theorem x1_0 {a:Value}:DoX P (mExt (.tuple #[a]) 0) w PK K=K a w:=x_ext (l:=[a]) rfl
theorem x2_0 {a b:Value}:DoX P (mExt (.tuple #[a,b]) 0) w PK K=K a w:=x_ext (l:=[a,b]) rfl
theorem x2_1 {a b:Value}:DoX P (mExt (.tuple #[a,b]) 1) w PK K=K b w:=x_ext (l:=[a,b]) rfl
theorem x3_0 {a b c:Value}:DoX P (mExt (.tuple #[a,b,c]) 0) w PK K=K a w:=x_ext (l:=[a,b,c]) rfl
theorem x3_1 {a b c:Value}:DoX P (mExt (.tuple #[a,b,c]) 1) w PK K=K b w:=x_ext (l:=[a,b,c]) rfl
theorem x3_2 {a b c:Value}:DoX P (mExt (.tuple #[a,b,c]) 2) w PK K=K c w:=x_ext (l:=[a,b,c]) rfl
theorem x4_0 {a b c d:Value}:DoX P (mExt (.tuple #[a,b,c,d]) 0) w PK K=K a w:=x_ext (l:=[a,b,c,d]) rfl
theorem x4_1 {a b c d:Value}:DoX P (mExt (.tuple #[a,b,c,d]) 1) w PK K=K b w:=x_ext (l:=[a,b,c,d]) rfl
theorem x4_2 {a b c d:Value}:DoX P (mExt (.tuple #[a,b,c,d]) 2) w PK K=K c w:=x_ext (l:=[a,b,c,d]) rfl
theorem x4_3 {a b c d:Value}:DoX P (mExt (.tuple #[a,b,c,d]) 3) w PK K=K d w:=x_ext (l:=[a,b,c,d]) rfl
end
theorem g_un {want:Bool}{E:(VWP)→Prop}{w:World}{K:VWP}:GDo undef want E w K=K undef w:=propext ⟨fun x=>x.out,fun x=>⟨x⟩⟩
def ex:=And.intro @x1_0 (And.intro @x2_0 (And.intro @x2_1 (And.intro @x3_0 (And.intro @x3_1 (And.intro @x3_2 (And.intro @x4_0 (And.intro @x4_1 (And.intro @x4_2 @x4_3))))))))
theorem wrap8_id {n:Int}(h1:0≤n)(h2:n≤255):IntKind.wrap .u8 n=n:=IntWalk.u8_in n ⟨h1,h2⟩
theorem wrap32_id {n:Int}(h1:-2147483648≤n)(h2:n≤2147483647):IntKind.wrap .i32 n=n:=IntWalk.i32_in n ⟨h1,h2⟩
theorem wrapu64_id {n:Int}(h1:0≤n)(h2:n≤18446744073709551615):IntKind.wrap .u64 n=n:=IntWalk.u64_in n ⟨h1,h2⟩
end Eng
end
section
namespace Eng
open Go.RowKit
theorem add_none (b off n:Nat):(⟨b,off,none⟩:Addr).add n=⟨b,off+n,none⟩:=by unfold Addr.add;split<;>simp_all
def fOff (P:Program)(T:TypeId)(f:Nat):Option Nat:=
 match P.underlying T with
|some (.struct fs)=>match fs[f]? with
 |some fd=>match P.info? fd.type with
  |some i=>match i.size with
   |0=>none
   |_+1=>some fd.offset
  |none=>none
 |none=>none
|_=>none
def elB (P:Program)(E:TypeId)(sz bytes:Nat):Bool:=
 match P.info? E with
|some i=>Nat.beq i.size sz&&Nat.beq i.bytes bytes&&(match i.zero with|some z=>Nat.beq z.cells.size sz|none=>false)
|none=>false
theorem elB_spec {P:Program}{E:TypeId}{sz bytes:Nat}(h:elB P E sz bytes=true):∃i z,P.info? E=some i∧i.zero=some z∧i.size=sz∧i.bytes=bytes∧z.cells.size=sz:=by
 unfold elB at h;split at h
 ·rename_i i hi
  simp only[Bool.and_eq_true,Nat.beq_eq] at h;obtain⟨⟨h1,h2⟩,h3⟩:=h;split at h3
  ·rename_i z hz;exact⟨i,z,hi,hz,h1,h2,by simpa using h3⟩
  ·cases h3
 ·cases h
section
variable {S:Nat→Prop}{P:Program}{w:World}{PK:PKT}{K:VWP}
theorem run_fa {T:TypeId}{f b off o:Nat}(h:fOff P T f=some o):(mFA T (.pointer (some ⟨b,off,none⟩)) f).run P w=.ok (.value (.pointer (some ⟨b,off+o,none⟩))) w:=by
 unfold fOff at h;split at h
 ·rename_i fs hu
  split at h
  ·rename_i fd hfd
   split at h
   ·rename_i i hi
    cases hs:i.size with
   |zero=>rw[hs] at h;cases h
   |succ m=>
     rw[hs] at h;simp only[Option.some.injEq] at h;subst h;refine mv_run ?_;simp[Instr.fieldAt,run_underlying hu,hfd,Instr.sureAddr,fieldPlace,sizeOf,typeInfo,hi,hs,add_none]
   ·cases h
  ·cases h
 ·cases h
theorem f_addr {T:TypeId}{f b off o:Nat}(h:fOff P T f=some o):DoX P (mFA T (.pointer (some ⟨b,off,none⟩)) f) w PK K=K (.pointer (some ⟨b,off+o,none⟩)) w:=do_eq (run_fa h)
theorem run_nil {a:Addr}:(mNil (.pointer (some a))).run P w=.ok (.value (.pointer (some a))) w:=by simp[mNil,execOp]
def bAnd (k:IntKind)(x y:Int):Int:=k.wrap ((BitVec.ofInt k.bits x &&& BitVec.ofInt k.bits y).toNat:Int)
def bOr (k:IntKind)(x y:Int):Int:=k.wrap ((BitVec.ofInt k.bits x ||| BitVec.ofInt k.bits y).toNat:Int)
theorem r_and {T:TypeId}{k:IntKind}{a b:Int}:(mBin .and T (.int k a) (.int k b)).run P w=.ok (.value (.int k (bAnd k a b))) w:=mv_run (by simp[binOp,Op.intBits,bAnd])
theorem r_or {T:TypeId}{k:IntKind}{a b:Int}:(mBin .or T (.int k a) (.int k b)).run P w=.ok (.value (.int k (bOr k a b))) w:=mv_run (by simp[binOp,Op.intBits,bOr])
theorem r_shr {T:TypeId}{k k':IntKind}{a b:Int}(h:0≤b):(mBin .shr T (.int k a) (.int k' b)).run P w=.ok (.value (.int k (a.fdiv (2 ^ (min b.toNat k.bits))))) w:=mv_run (by
 have h':¬b < 0:=by omega
 simp[binOp,Op.shift,h'])
theorem r_shl {T:TypeId}{k k':IntKind}{a b:Int}(h:0≤b):(mBin .shl T (.int k a) (.int k' b)).run P w=.ok (.value (.int k (k.wrap (a*2 ^ (min b.toNat k.bits))))) w:=mv_run (by
 have h':¬b < 0:=by omega
 simp[binOp,Op.shift,h'])
theorem b_or {T:TypeId}{k:IntKind}{a b:Int}:DoX P (mBin .or T (.int k a) (.int k b)) w PK K=K (.int k (bOr k a b)) w:=do_eq r_or
theorem b_shr {T:TypeId}{k k':IntKind}{a b:Int}(h:0≤b):DoX P (mBin .shr T (.int k a) (.int k' b)) w PK K=K (.int k (a.fdiv (2 ^ (min b.toNat k.bits)))) w:=do_eq (r_shr h)
theorem b_shl {T:TypeId}{k k':IntKind}{a b:Int}(h:0≤b):DoX P (mBin .shl T (.int k a) (.int k' b)) w PK K=K (.int k (k.wrap (a*2 ^ (min b.toNat k.bits)))) w:=do_eq (r_shl h)
theorem run_s_ix {T:TypeId}{k:IntKind}{i:Int}{a:List UInt8}{c:UInt8}(h:P.underlying T=some .string)(h0:0≤i)(hc:a[i.toNat]?=some c):(mIx T (.string ⟨a.toArray⟩) (.int k i)).run P w=.ok (.value (.int .u8 (c.toNat:Int))) w:=by
 refine mv_run ?_;have e:(⟨a.toArray⟩:ByteArray)[i.toNat]?=some c:=by
  have hl:i.toNat < a.length:=(List.getElem?_eq_some_iff.1 hc).1;have h1:i.toNat < (⟨a.toArray⟩:ByteArray).size:=by rw[str_size];exact hl
  rw[getElem?_pos (⟨a.toArray⟩:ByteArray) i.toNat h1];have h2:=(List.getElem?_eq_some_iff.1 hc).2;rw[←h2];rfl
 simp only[Instr.index,asIntOf,run_underlying h,h0,e];simp[h0,e,run_underlying h]
theorem newer {E:TypeId}{sz bytes:Nat}{T U:TypeId}{i:TypeInfo}{z:Value}(ht:P.underlying T=some (.slice E))(hi:P.info? E=some i)(hz:i.zero=some z)(hi1:i.size=sz)(hi2:i.bytes=bytes)(hz1:z.cells.size=sz)(hsz:0 < sz)
  {v v':Value} {w':World} {n m c:Nat} {xs news:List Value} {a:Addr} (hown:w.ownsRowF 0 E sz v n xs) (hl:news.length=m*sz) (hnews:∀j u,news[j]?=some u→w.cell? (a.add j)=some u) (h1:∀u∈news,u.oneCell'=true)
  (hmx:n+m≤9223372036854775807) (hb:(n+m)*bytes≤140737488355328) (hr:(Builtin.append_ #[T,T] U #[v,.slice (some a) m c]).run P w=.ok v' w') :
  ∀k,v'.ownBlock=some k→v.ownBlock=some k∨w.heap.size≤k:=by
 intro k hk;have hmx':n+m≤maxLen:=by simp only[maxLen];omega
 rcases hown.2 with ⟨rfl,rfl⟩|⟨g,cap,cur,fz,rfl,hbg,hg,hfz,hnc,hcm,hcs,htake⟩
 ·obtain⟨v2,w2,r1,r2,r3,r4⟩:=run_append_ownF (P:=P) w w.heap.size T U E i z sz bytes ht hi hz hi1 hi2 hz1 hsz (.slice none 0 0) 0 xs ⟨hown.1,.inl ⟨rfl,rfl⟩⟩ a m c news hl hnews h1 hmx' hb (Nat.le_refl _);rw[r1] at hr;cases hr;exact .inr (World.ownsRowF.lt r2 k hk).1
 ·subst hi1;subst hi2;by_cases hroom:n+m≤cap
  ·have hfit:n*i.size+news.length≤cur.size:=by rw[hl,hcs,←Nat.add_mul];exact Nat.mul_le_mul_right _ hroom
   rw[run_append_roomF (P:=P) w T U E i ht hi g n cap cur fz hg hfz a m c news hl hnews h1 hroom hfit] at hr;cases hr;exact .inl hk
  ·have holds:∀j u,xs[j]?=some u→w.cell? ((⟨g,0,none⟩:Addr).add j)=some u:=hown.cells (g:=g) rfl;rw[run_append_grow (P:=P) w T U E i z ht hi hz ⟨g,0,none⟩ n cap xs hown.1 holds a m c news hl hnews (by omega) (by omega) (growslice_fits (by omega) hb)] at hr;cases hr;simp only[Value.ownBlock,Option.some.injEq] at hk;exact .inr (by omega)
theorem run_append_any {T E U:TypeId}{cs:Array Bool}{v v2:Value}{sz bytes n m:Nat}{xs news:List Value}(ht:P.underlying T=some (.slice E))(he:elB P E sz bytes=true)(hsz:0 < sz)
  (hown:w.ownsRowF 0 E sz v n xs) (hs:Sl w v2 sz m news) (h1:∀u∈news,u.oneCell'=true) (hb:(n+m)*bytes≤140737488355328) (hb2:n+m≤140737488355328) :
  ∃v' w',(mB .append #[T,T] U cs #[v,v2]).run P w=.ok (.value v') w'∧Turn (.row E sz v n xs) (.row E sz v' (n+m) (xs++news)) w w':=by
 obtain⟨i,z,hi,hz,hi1,hi2,hz1⟩:=elB_spec he;obtain⟨hl,a,cap,rfl,hn,hc⟩:=hs;have hmx:n+m≤maxLen:=by simp only[maxLen];omega
 have fin:∀(a:Addr),(∀j u,news[j]?=some u→w.cell? (a.add j)=some u)→∃v' w',(mB .append #[T,T] U cs #[v,.slice (some a) m cap]).run P w=.ok (.value v') w'∧Turn (.row E sz v n xs) (.row E sz v' (n+m) (xs++news)) w w':=by
  intro a hh;obtain⟨v',w',r1,r2,r3,r4⟩:=run_append_ownF (P:=P) w 0 T U E i z sz bytes ht hi hz hi1 hi2 hz1 hsz v n xs hown a m cap news hl hh h1 hmx hb (Nat.zero_le _);refine⟨v',w',?_,grew_by r3,r2,newer (P:=P) ht hi hz hi1 hi2 hz1 hsz hown hl hh h1 (by omega) hb r1⟩;simp[mB,builtin,r1]
 cases a with
|some p=>
  refine fin p fun j u hj=>?_;have hlt:j < news.length:=(List.getElem?_eq_some_iff.1 hj).1;have hm:0 < m:=by
   rcases Nat.eq_zero_or_pos m with h0|h0
   ·subst h0;simp at hl;rw[hl] at hlt;simp at hlt
   ·exact h0
  obtain⟨hsp,hcell⟩:=hc p rfl;have:=hsp hm;obtain⟨b,off,spot⟩:=p;simp only at this hcell;subst this;rw[add_none];exact hcell j u hj
|none=>
  have h0:=hn rfl;subst h0;have hnil:news=[]:=List.eq_nil_of_length_eq_zero (by simpa using hl);subst hnil;refine⟨v,w,?_,by rw[List.append_nil];exact Turn.refl (e:=.row E sz v n xs) hown⟩;rcases hown.2 with ⟨rfl,rfl⟩|⟨g,cp,cur,fz,rfl,_,_,_,hnc,_⟩
  ·simp[mB,builtin,Builtin.append_,run_underlying ht,sizeOf,typeInfo,hi,Builtin.lenOf,Builtin.firstCells]
  ·simp[mB,builtin,Builtin.append_,run_underlying ht,sizeOf,typeInfo,hi,Builtin.lenOf,Builtin.firstCells,hnc,storeCells]
theorem o_append {w0:World}{L:List Ent}(i:Nat){T E U:TypeId}{cs:Array Bool}{v v2:Value}{sz bytes n m:Nat}{xs news:List Value}(ht:P.underlying T=some (.slice E))(he:elB P E sz bytes=true)(hsz:0 < sz)
  (ho:OwnS S w0 w L) (hi:L[i]?=some (.row E sz v n xs)) (hs:Sl w v2 sz m news) (h1:∀u∈news,u.oneCell'=true) (hb:(n+m)*bytes≤140737488355328) (hb2:n+m≤140737488355328)
  (k:∀v' w',OwnS S w0 w' (L.set i (.row E sz v' (n+m) (xs++news)))→K v' w'):DoX P (mB .append #[T,T] U cs #[v,v2]) w PK K:=by
 obtain⟨v',w',r,t⟩:=run_append_any (cs:=cs) (U:=U) ht he hsz (ho.at_ i hi) hs h1 hb hb2;exact do_ok r (k _ _ (ho.turn i hi t))
def roomy (v:Value):Prop:=∀a k,v≠.slice (some a) k 0
theorem roomy_nil:roomy (.slice none 0 0):=fun _ _ h=>by cases h
theorem roomy_row {E:TypeId}{sz:Nat}{v:Value}{n:Nat}{xs:List Value}(h:w.ownsRowF 0 E sz v n xs)(hn:0 < n):roomy v:=by
 intro a k hc;rcases h.2 with ⟨rfl,_⟩|⟨g,cap,cur,fz,rfl,hbg,hg,hfz,hnc,hcm,hcs,htake⟩
 ·cases hc
 ·injection hc with c1 c2 c3
  omega
theorem strCells_bytesV (l:List UInt8):Lib.strCells ⟨l.toArray⟩=bytesV l:=by
 simp[Lib.strCells,bytesV]
theorem run_append_string {T U2 E U:TypeId}{cs:Array Bool}{v:Value}{n:Nat}{xs:List Value}{l:List UInt8}(ht:P.underlying T=some (.slice E))(hu:P.underlying U2=some .string)(he:elB P E 1 1=true)(h8:P.underlying E=some (.int .u8))
  (hz8:(P.info? E).bind (·.zero)=some (.int .u8 0))
  (hown:w.ownsRowF 0 E 1 v n xs) (hb2:n+l.length≤140737488355328) :
  ∃v' w',(mB .append #[T,U2] U cs #[v,.string ⟨l.toArray⟩]).run P w=.ok (.value v') w'∧Turn (.row E 1 v n xs) (.row E 1 v' (n+l.length) (xs++bytesV l)) w w'∧(roomy v→roomy v'):=by
 obtain⟨i,z,hi,hz,hi1,hi2,hz1⟩:=elB_spec he;have hz0:i.zero=some (.int .u8 0):=by rw[hi] at hz8;exact hz8
 have hsz:=str_size l;have hmx:n+(⟨l.toArray⟩:ByteArray).size≤maxLen:=by rw[hsz];simp only[maxLen];omega
 obtain⟨v',w',r1,r2,r3,r4⟩:=Lib.run_append_own_stringF (P:=P) w 0 T U2 U E i ht hu hi hz0 hi1 hi2 v n xs hown ⟨l.toArray⟩ hmx (by rw[hsz];omega) (Nat.zero_le _);rw[strCells_bytesV,hsz] at r2;have hro:roomy v→roomy v':=by
  intro hv a k hc;rcases Nat.eq_zero_or_pos (n+l.length) with h0|h0
  ·rcases hown.2 with ⟨rfl,_⟩|⟨g,cap,cur,fz,rfl,hbg,hg,hfz,hnc,hcm,hcs,htake⟩
   ·have:=r4.2 ⟨rfl,by rw[hsz];omega⟩;rw[this] at hc;cases hc
   ·have hroom:n+(⟨l.toArray⟩:ByteArray).size≤cap:=by rw[hsz];omega
    rw[Lib.run_append_room_stringF (P:=P) w T U2 U E i ht hu hi hi1 g n cap cur fz hg (by simpa using hfz) ⟨l.toArray⟩ hroom (by simp at hcs;omega)] at r1
    injection r1 with r1a r1b
    rw[←r1a] at hc
    injection hc with c1 c2 c3
    exact hv ⟨g,0,none⟩ n (by rw[c3])
  ·exact roomy_row r2 h0 a k hc
 refine⟨v',w',by simp[mB,builtin,r1],⟨grew_by r3,r2,?_⟩,hro⟩;intro k hk;rcases hown.2 with ⟨rfl,rfl⟩|⟨g,cap,cur,fz,rfl,hbg,hg,hfz,hnc,hcm,hcs,htake⟩
 ·obtain⟨v2,w2,q1,q2,q3,q4⟩:=Lib.run_append_own_stringF (P:=P) w w.heap.size T U2 U E i ht hu hi hz0 hi1 hi2 (.slice none 0 0) 0 xs ⟨hown.1,.inl ⟨rfl,rfl⟩⟩ ⟨l.toArray⟩ hmx (by rw[hsz];omega) (Nat.le_refl _);rw[q1] at r1;cases r1;exact .inr (World.ownsRowF.lt q2 k hk).1
 ·by_cases hroom:n+(⟨l.toArray⟩:ByteArray).size≤cap
  ·rw[Lib.run_append_room_stringF (P:=P) w T U2 U E i ht hu hi hi1 g n cap cur fz hg (by simpa using hfz) ⟨l.toArray⟩ hroom (by simp at hcs;omega)] at r1;cases r1;exact .inl hk
  ·have holds:∀j u,xs[j]?=some u→w.cell? ((⟨g,0,none⟩:Addr).add j)=some u:=hown.cells (g:=g) rfl;rw[Lib.run_append_grow_string (P:=P) w T U2 U E i (.int .u8 0) ht hu hi hz0 ⟨g,0,none⟩ n cap xs (by rw[hi1];simpa using hown.1) holds ⟨l.toArray⟩ (by omega) (by rw[hsz];omega) (by rw[hi2];exact growslice_fits (by omega) (by rw[hsz];omega))] at r1;cases r1;have hk':some w.heap.size=some k:=hk;cases hk';exact .inr (Nat.le_refl _)
theorem o_append_str {w0:World}{L:List Ent}(i:Nat){T U2 E U:TypeId}{cs:Array Bool}{v:Value}{n:Nat}{xs:List Value}{l:List UInt8}(ht:P.underlying T=some (.slice E))(hu:P.underlying U2=some .string)(he:elB P E 1 1=true)(h8:P.underlying E=some (.int .u8))
  (hz8:(P.info? E).bind (·.zero)=some (.int .u8 0)) (ho:OwnS S w0 w L) (hi:L[i]?=some (.row E 1 v n xs)) (hb2:n+l.length≤140737488355328)
  (k:∀v' w',(roomy v→roomy v')→OwnS S w0 w' (L.set i (.row E 1 v' (n+l.length) (xs++bytesV l)))→K v' w'):DoX P (mB .append #[T,U2] U cs #[v,.string ⟨l.toArray⟩]) w PK K:=by
 obtain⟨v',w',r,t,hc⟩:=run_append_string (cs:=cs) (U:=U) ht hu he h8 hz8 (ho.at_ i hi) hb2;exact do_ok r (k _ _ hc (ho.turn i hi t))
theorem OwnS.nilRow {w0:World}{L:List Ent}(ho:OwnS S w0 w L)(E:TypeId)(sz:Nat):OwnS S w0 w (.row E sz (.slice none 0 0) 0 []::L):=by
 refine⟨ho.grew,fun e he=>?_,.cons (fun f hf k hk=>by simp[Ent.row,Value.ownBlock] at hk) ho.apart⟩;rcases List.mem_cons.1 he with rfl|he
 ·exact⟨World.ownsRowF_nil w 0 E sz,fun k hk=>by simp[Ent.row,Value.ownBlock] at hk⟩
 ·exact ho.all e he
theorem OwnS.slRow {w0:World}{L:List Ent}(ho:OwnS S w0 w L)(i:Nat){T:TypeId}{sz:Nat}{v:Value}{n:Nat}{xs:List Value}(hi:L[i]?=some (.row T sz v n xs)):Sl w v sz n xs:=Sl.row (ho.at_ i hi)
theorem OwnS.toRow {w0:World}{L:List Ent}{b:Nat}{cs:List Value}{E:TypeId}(ho:OwnS S w0 w (.cells b cs E::L))(sz n cap:Nat)(hl:cs.length=cap*sz)(hn:n≤cap)(hc:cap≤9223372036854775807) :
  OwnS S w0 w (.row E sz (.slice (some ⟨b,0,none⟩) n cap) n (cs.take (n*sz))::L):=by
 refine⟨ho.grew,fun e he=>?_,?_⟩
 ·rcases List.mem_cons.1 he with rfl|he
  ·refine⟨⟨by rw[List.length_take,hl,Nat.min_eq_left (Nat.mul_le_mul_right _ hn)],.inr ⟨b,cap,cs.toArray,(0,0),rfl,Nat.zero_le _,ho.at_ 0 rfl,Nat.zero_le _,hn,by simp only[maxLen];omega,by simpa using hl,by simp⟩⟩,fun k hk=>?_⟩;simp only[Ent.row,Value.ownBlock,Option.some.injEq] at hk;exact (ho.all (.cells b cs E) (by simp)).2 k hk.symm
  ·exact ho.all e (by simp[he])
 ·refine .cons (fun f hf k hk=>?_) (List.pairwise_cons.1 ho.apart).2;simp only[Ent.row,Value.ownBlock,Option.some.injEq] at hk;exact (List.pairwise_cons.1 ho.apart).1 f hf k hk.symm
theorem o_make {w0:World}{L:List Ent}{T E:TypeId}{sz bytes c:Nat}{kl kc:IntKind}{x:Int}(hx:x=c)(ht:P.underlying T=some (.slice E))(he:elB P E sz bytes=true)(hb:bytes*c≤281474976710656)(hc:c≤281474976710656)(ho:OwnS S w0 w L)
  (k:∀v w',OwnS S w0 w' (.row E sz v 0 []::L)→K v w'):DoX P (mMake T (.int kl 0) (.int kc x)) w PK K:=by
 subst hx;obtain⟨i,z,hi,hz,hi1,hi2,hz1⟩:=elB_spec he;obtain⟨w',r1,r2,r3⟩:=run_make_own (P:=P) w w.heap.size T E i z sz ht hi hz hi1 kl kc c (by rw[hi2];exact hb) (by simp only[maxLen];omega) (Nat.le_refl _);refine do_ok (mv_run r1) (k _ _ (ho.add r3 (.row E sz (.slice (some ⟨w.heap.size,0,none⟩) 0 c) 0 []) ?_ (fun k hk=>?_)))
 ·have:=World.ownsRowF_of r2;refine⟨this.1,?_⟩;rcases this.2 with h|⟨g,cp,cur,fz,h1,h2,h3⟩
  ·exact .inl h
  ·exact .inr ⟨g,cp,cur,fz,h1,Nat.zero_le _,h3⟩
 ·have hk':some w.heap.size=some k:=hk;cases hk';exact Nat.le_refl _
def Ent.bld (T E:TypeId)(b:Nat)(v:Value)(l:List UInt8):Ent:=
 ⟨fun k=>k=b∨v.ownBlock=some k,
  fun w=>(∃p,(p=.pointer none∨p=.pointer (some ⟨b,0,none⟩))∧w.heap[b]?=some (.cells #[p,v] T (0,0)))∧w.ownsRowF 0 E 1 v l.length (bytesV l)∧v.ownBlock≠some b∧roomy v,
  fun {w w'} h k=>⟨by obtain⟨p,hp,hb⟩:=h.1;exact⟨p,hp,(k b (.inl rfl)).trans hb⟩,(Ent.row E 1 v l.length (bytesV l)).keep h.2.1 (fun j hj=>k j (.inr hj)),h.2.2⟩,
  fun {w} h k hk=>by
  rcases hk with rfl|hk
  ·obtain⟨p,hp,hb⟩:=h.1;exact lt_of_get hb
  ·exact (World.ownsRowF.lt h.2.1 k hk).2⟩
theorem OwnS.openB {w0:World}{L:List Ent}{T E:TypeId}{b:Nat}{v:Value}{l:List UInt8}(ho:OwnS S w0 w (.bld T E b v l::L)) :
  ∃p,(p=.pointer none∨p=.pointer (some ⟨b,0,none⟩))∧roomy v∧OwnS S w0 w (.cells b [p,v] T::.row E 1 v l.length (bytesV l)::L):=by
 have hm:=ho.all (.bld T E b v l) (by simp);obtain⟨⟨p,hp,hb⟩,hr,hne,hcap⟩:=hm.1;refine⟨p,hp,hcap,ho.grew,fun e he=>?_,?_⟩
 ·rcases List.mem_cons.1 he with rfl|he
  ·exact⟨hb,fun k hk=>hm.2 k (.inl hk)⟩
  ·rcases List.mem_cons.1 he with rfl|he
   ·exact⟨hr,fun k hk=>hm.2 k (.inr hk)⟩
   ·exact ho.all e (by simp[he])
 ·obtain⟨h1,h2⟩:=List.pairwise_cons.1 ho.apart;refine .cons (fun f hf k hk hk'=>?_) (.cons (fun f hf k hk=>h1 f hf k (.inr hk)) h2);rcases List.mem_cons.1 hf with rfl|hf
  ·have hkb:k=b:=hk;rw[hkb] at hk';exact hne hk'
  ·exact h1 f hf k (.inl hk) hk'
theorem OwnS.closeB {w0:World}{L:List Ent}{T E:TypeId}{b n:Nat}{p v:Value}{l:List UInt8}(hp:p=.pointer none∨p=.pointer (some ⟨b,0,none⟩))(hcap:roomy v)(ho:OwnS S w0 w (.cells b [p,v] T::.row E 1 v n (bytesV l)::L)) :
  OwnS S w0 w (.bld T E b v l::L):=by
 have h0:=ho.all (.cells b [p,v] T) (by simp);have h1:=ho.all (.row E 1 v n (bytesV l)) (by simp);obtain⟨a1,a2⟩:=List.pairwise_cons.1 ho.apart;obtain⟨a3,a4⟩:=List.pairwise_cons.1 a2;have hn:n=l.length:=by have:=h1.1.1;rw[bytesV_length] at this;omega
 subst hn;refine⟨ho.grew,fun e he=>?_,.cons (fun f hf k hk hk'=>?_) a4⟩
 ·rcases List.mem_cons.1 he with rfl|he
  ·refine⟨⟨⟨p,hp,h0.1⟩,h1.1,fun hc=>a1 (.row E 1 v l.length (bytesV l)) (by simp) b rfl hc,hcap⟩,fun k hk=>?_⟩;rcases hk with hk|hk
   ·exact h0.2 k hk
   ·exact h1.2 k hk
  ·exact ho.all e (by simp[he])
 ·rcases hk with hk|hk
  ·exact a1 f (by simp[hf]) k hk hk'
  ·exact a3 f hf k hk hk'
theorem OwnS.swap {w0:World}{e f:Ent}{L:List Ent}(ho:OwnS S w0 w (e::f::L)):OwnS S w0 w (f::e::L):=by
 obtain⟨a1,a2⟩:=List.pairwise_cons.1 ho.apart;obtain⟨a3,a4⟩:=List.pairwise_cons.1 a2;exact⟨ho.grew,fun g hg=>ho.all g (by simp only[List.mem_cons] at hg ⊢;rcases hg with h|h|h<;>simp[h]),.cons (fun g hg k hk hk'=>by
  rcases List.mem_cons.1 hg with rfl|hg
  ·exact a1 f (by simp) k hk' hk
  ·exact a3 g hg k hk hk') (.cons (fun g hg k hk hk'=>a1 g (by simp[hg]) k hk hk') a4)⟩
theorem c_turn {w0:World}{L:List Ent}(i:Nat){f:Nat}{args:Array Value}{e:Ent}{R:Value→Ent→Prop}(ho:OwnS S w0 w L)(hi:L[i]?=some e)(h:Ret P f args w (fun v w'=>∃e',R v e'∧Turn e e' w w'))
  (k:∀v e' w',R v e'→OwnS S w0 w' (L.set i e')→K v w'):CallX P f args w PK K:=
 c_ret h fun v w' ⟨e',hr,ht⟩=>k v e' w' hr (ho.turn i hi ht)
theorem c_below {w0:World}{L:List Ent}{f:Nat}{args:Array Value}{R:Value→Prop}(ho:OwnS S w0 w L)(h:Ret P f args w (fun v w'=>R v∧Below w.heap.size w w'))
  (k:∀v w',R v→OwnS S w0 w' L→K v w'):CallX P f args w PK K:=
 c_ret h fun v w' ⟨hr,hb⟩=>k v w' hr (ho.grow hb)
end
end Eng
end
section
open Eng
def S_strings_Builder_copyCheck (t0:Value)(w:World)(K:Ending→World→Prop):Prop:=
 DoX prog (mNil t0) w (pk K) fun t3 w=>
 DoX prog (mFA 78 t3 0) w (pk K) fun t4 w=>
 DoX prog (mLoad 75 t4) w (pk K) fun t5 w=>
 DoX prog (mEq .eql 75 (.tmp 5) (.const (.pointer none)) t5 (.pointer none)) w (pk K) fun t6 w=>
 IfX t6 (DoX prog (mConv 75 152 t0) w (pk K) fun t9 w=>
 DoX prog (mCallV (.func (.func 127) #[] #[]) #[t9]) w (pk K) fun t10 w=>
 DoX prog (mConv 152 75 t10) w (pk K) fun t11 w=>
 DoX prog (mNil t0) w (pk K) fun t12 w=>
 DoX prog (mFA 78 t12 0) w (pk K) fun t13 w=>
 DoX prog (mStore 75 t13 t11) w (pk K) fun _ w=>
 K (.returned (.tuple #[])) w) (DoX prog (mNil t0) w (pk K) fun t15 w=>
 DoX prog (mFA 78 t15 0) w (pk K) fun t16 w=>
 DoX prog (mLoad 75 t16) w (pk K) fun t17 w=>
 DoX prog (mEq .neq 75 (.tmp 17) (.tmp 18) t17 t0) w (pk K) fun t19 w=>
 IfX t19 (False) (K (.returned (.tuple #[])) w))
theorem S_strings_Builder_copyCheck_eq (t0:Value)(w:World)(K:Ending→World→Prop):wpX prog 20 [] [] none (bodyOf Tryz.f82) (topQ prog [] K) (startX [t0]) [] w=S_strings_Builder_copyCheck t0 w K:=by kernel_rfl
theorem S_strings_Builder_copyCheck_ok {t0:Value}{w:World}{K:Ending→World→Prop}(h:S_strings_Builder_copyCheck t0 w K):Calls prog 82 #[t0] w K:=
 calls_of_wpX Tryz.func82 rfl rfl rfl rfl (Eq.mpr (S_strings_Builder_copyCheck_eq t0 w K) h)
def S_strings_Builder_WriteByte (t0 t1:Value)(w:World)(K:Ending→World→Prop):Prop:=
 CallX prog 82 #[t0] w (pk K) fun t6 w=>
 DoX prog (mNil t0) w (pk K) fun t9 w=>
 DoX prog (mFA 78 t9 1) w (pk K) fun t10 w=>
 DoX prog (mLoad 76 t10) w (pk K) fun t11 w=>
 DoX prog (mBuildS 76 1 #[(0,t1)]) w (pk K) fun t13 w=>
 DoX prog (mB .append #[76,76] 76 #[false,false] #[t11,t13]) w (pk K) fun t14 w=>
 DoX prog (mNil t0) w (pk K) fun t15 w=>
 DoX prog (mFA 78 t15 1) w (pk K) fun t16 w=>
 DoX prog (mStore 76 t16 t14) w (pk K) fun _ w=>
 K (.returned .nilIface) w
theorem S_strings_Builder_WriteByte_eq (t0 t1:Value)(w:World)(K:Ending→World→Prop):wpX prog 17 [] [] none (bodyOf Tryz.f84) (topQ prog [.tmp 4] K) (startX [t0,t1]) [] w=S_strings_Builder_WriteByte t0 t1 w K:=by kernel_rfl
theorem S_strings_Builder_WriteByte_ok {t0 t1:Value}{w:World}{K:Ending→World→Prop}(h:S_strings_Builder_WriteByte t0 t1 w K):Calls prog 84 #[t0,t1] w K:=
 calls_of_wpX Tryz.func84 rfl rfl rfl rfl (Eq.mpr (S_strings_Builder_WriteByte_eq t0 t1 w K) h)
def S_strings_Builder_WriteString (t0 t1:Value)(w:World)(K:Ending→World→Prop):Prop:=
 CallX prog 82 #[t0] w (pk K) fun t7 w=>
 DoX prog (mNil t0) w (pk K) fun t10 w=>
 DoX prog (mFA 78 t10 1) w (pk K) fun t11 w=>
 DoX prog (mLoad 76 t11) w (pk K) fun t12 w=>
 DoX prog (mB .append #[76,9] 76 #[false,false] #[t12,t1]) w (pk K) fun t14 w=>
 DoX prog (mNil t0) w (pk K) fun t15 w=>
 DoX prog (mFA 78 t15 1) w (pk K) fun t16 w=>
 DoX prog (mStore 76 t16 t14) w (pk K) fun _ w=>
 DoX prog (mB .len #[9] 3 #[false] #[t1]) w (pk K) fun t18 w=>
 K (.returned (.tuple #[t18,.nilIface])) w
theorem S_strings_Builder_WriteString_eq (t0 t1:Value)(w:World)(K:Ending→World→Prop):wpX prog 19 [] [] none (bodyOf Tryz.f43) (topQ prog [.tmp 4,.tmp 5] K) (startX [t0,t1]) [] w=S_strings_Builder_WriteString t0 t1 w K:=by kernel_rfl
theorem S_strings_Builder_WriteString_ok {t0 t1:Value}{w:World}{K:Ending→World→Prop}(h:S_strings_Builder_WriteString t0 t1 w K):Calls prog 43 #[t0,t1] w K:=
 calls_of_wpX Tryz.func43 rfl rfl rfl rfl (Eq.mpr (S_strings_Builder_WriteString_eq t0 t1 w K) h)
def S_strings_Builder_String (t0:Value)(w:World)(K:Ending→World→Prop):Prop:=
 QuietX w (fun C1=>
 QDo prog C1 (mNil t0) fun t4=>
 QDo prog C1 (mFA 78 t4 1) fun t5=>
 QDo prog C1 (mLoad 76 t5) fun t6=>
 QDo prog C1 (mB .unsafeSliceData #[76] 123 #[false] #[t6]) fun t7=>
 QDo prog C1 (mNil t0) fun t9=>
 QDo prog C1 (mFA 78 t9 1) fun t10=>
 QDo prog C1 (mLoad 76 t10) fun t11=>
 QDo prog C1 (mB .len #[76] 3 #[false] #[t11]) fun t12=>
 ∀w,C1 w →
 DoX prog (mB .unsafeString #[123,3] 9 #[false,false] #[t7,t12]) w (pk K) fun t13 w=>
 K (.returned t13) w)
theorem S_strings_Builder_String_eq (t0:Value)(w:World)(K:Ending→World→Prop):wpX prog 14 [] [] none (bodyOf Tryz.f51) (topQ prog [.tmp 2] K) (startX [t0]) [] w=S_strings_Builder_String t0 w K:=by kernel_rfl
theorem S_strings_Builder_String_ok {t0:Value}{w:World}{K:Ending→World→Prop}(h:S_strings_Builder_String t0 w K):Calls prog 51 #[t0] w K:=
 calls_of_wpX Tryz.func51 rfl rfl rfl rfl (Eq.mpr (S_strings_Builder_String_eq t0 w K) h)
end
end Go.Proofs.YtkejpieaafeblaaGreatDoor
namespace Go.Proofs
open Go.Shelf
open Go.RowKit in
open Go.RowKit in
open Go.RowKit in
open Go.RowKit in
def Tryz.lays165_ren:Go.Shelf.Ren:=⟨fun|165=>243|240=>82|241=>263|276=>127|277=>273|n=>n,fun|70=>75|3=>3|0=>0|4=>4|9=>9|20=>20|72=>78|37=>76|164=>152|5=>5|n=>n,fun|n=>n⟩
theorem Tryz.lays165:Go.Proofs.Lays.n165 prog Tryz.lays165_ren:={
 mixed:=by kernel_rfl
 f165:=Tryz.func243.trans (congrArg some (by kernel_rfl))
 f240:=Tryz.func82.trans (congrArg some (by kernel_rfl))
 f241:=Tryz.func263.trans (congrArg some (by kernel_rfl))
 f276:=Tryz.func127.trans (congrArg some (by kernel_rfl))
 f277:=Tryz.func273.trans (congrArg some (by kernel_rfl))
 t0:=Tryz.underlying0
 a0:=Tryz.isAgg0
 z0:=Tryz.sizeOf0
 v0:=Tryz.zeroValue0
 t3:=Tryz.underlying3
 a3:=Tryz.isAgg3
 z3:=Tryz.sizeOf3
 v3:=Tryz.zeroValue3
 t4:=Tryz.underlying4
 a4:=Tryz.isAgg4
 z4:=Tryz.sizeOf4
 v4:=Tryz.zeroValue4
 t9:=Tryz.underlying9
 a9:=Tryz.isAgg9
 z9:=Tryz.sizeOf9
 v9:=Tryz.zeroValue9
 t20:=Tryz.underlying20
 a20:=Tryz.isAgg20
 z20:=Tryz.sizeOf20
 v20:=Tryz.zeroValue20
 t37:=Tryz.underlying76
 a37:=Tryz.isAgg76
 z37:=Tryz.sizeOf76
 v37:=Tryz.zeroValue76
 t70:=Tryz.underlying75
 a70:=Tryz.isAgg75
 z70:=Tryz.sizeOf75
 v70:=Tryz.zeroValue75
 t72:=Tryz.underlying78
 a72:=Tryz.isAgg78
 z72:=Tryz.sizeOf78
 v72:=Tryz.zeroValue78
 t164:=Tryz.underlying152
 a164:=Tryz.isAgg152
 z164:=Tryz.sizeOf152
 v164:=Tryz.zeroValue152 }
theorem Tryz.Builder_Extra_165:Builder.Extra prog Tryz.lays165_ren:={
 sizeBuilder:=by kernel_rfl
 liesBuilder:=by kernel_rfl
 t5:=Tryz.underlying5
 a5:=Tryz.isAgg5
 z5:=Tryz.sizeOf5
 v5:=Tryz.zeroValue5
 infoByte:=by kernel_rfl
 cellsByte:=by kernel_rfl
 sizeByte:=by kernel_rfl
 neB5:=by decide }
open Go.RowKit in
open Go.RowKit in
open Go.RowKit in
def Tryz.lays161_ren:Go.Shelf.Ren:=⟨fun|161=>171|231=>223|227=>224|233=>225|235=>226|228=>253|197=>254|151=>255|260=>267|152=>268|137=>168|119=>283|224=>271|225=>270|217=>222|266=>252|n=>n,fun|9=>9|4=>4|3=>3|5=>5|117=>205|116=>204|0=>0|124=>208|105=>228|21=>21|119=>245|46=>139|139=>248|138=>247|n=>n,fun|3=>4|4=>5|n=>n⟩
theorem Tryz.lays161:Go.Proofs.Lays.n161 prog Tryz.lays161_ren:={
 mixed:=by kernel_rfl
 f119:=Tryz.func283.trans (congrArg some (by kernel_rfl))
 f137:=Tryz.func168.trans (congrArg some (by kernel_rfl))
 f151:=Tryz.func255.trans (congrArg some (by kernel_rfl))
 f152:=Tryz.func268.trans (congrArg some (by kernel_rfl))
 f161:=Tryz.func171.trans (congrArg some (by kernel_rfl))
 f197:=Tryz.func254.trans (congrArg some (by kernel_rfl))
 f217:=Tryz.func222.trans (congrArg some (by kernel_rfl))
 f224:=Tryz.func271.trans (congrArg some (by kernel_rfl))
 f225:=Tryz.func270.trans (congrArg some (by kernel_rfl))
 f227:=Tryz.func224.trans (congrArg some (by kernel_rfl))
 f228:=Tryz.func253.trans (congrArg some (by kernel_rfl))
 f231:=Tryz.func223.trans (congrArg some (by kernel_rfl))
 f233:=Tryz.func225.trans (congrArg some (by kernel_rfl))
 f235:=Tryz.func226.trans (congrArg some (by kernel_rfl))
 f260:=Tryz.func267.trans (congrArg some (by kernel_rfl))
 f266:=Tryz.func252.trans (congrArg some (by kernel_rfl))
 t0:=Tryz.underlying0
 a0:=Tryz.isAgg0
 z0:=Tryz.sizeOf0
 v0:=Tryz.zeroValue0
 t3:=Tryz.underlying3
 a3:=Tryz.isAgg3
 z3:=Tryz.sizeOf3
 v3:=Tryz.zeroValue3
 t4:=Tryz.underlying4
 a4:=Tryz.isAgg4
 z4:=Tryz.sizeOf4
 v4:=Tryz.zeroValue4
 t5:=Tryz.underlying5
 a5:=Tryz.isAgg5
 z5:=Tryz.sizeOf5
 v5:=Tryz.zeroValue5
 t9:=Tryz.underlying9
 a9:=Tryz.isAgg9
 z9:=Tryz.sizeOf9
 v9:=Tryz.zeroValue9
 t21:=Tryz.underlying21
 a21:=Tryz.isAgg21
 z21:=Tryz.sizeOf21
 v21:=Tryz.zeroValue21
 t46:=Tryz.underlying139
 a46:=Tryz.isAgg139
 z46:=Tryz.sizeOf139
 v46:=Tryz.zeroValue139
 t105:=Tryz.underlying228
 a105:=Tryz.isAgg228
 z105:=Tryz.sizeOf228
 v105:=Tryz.zeroValue228
 t116:=Tryz.underlying204
 a116:=Tryz.isAgg204
 z116:=Tryz.sizeOf204
 t117:=Tryz.underlying205
 a117:=Tryz.isAgg205
 z117:=Tryz.sizeOf205
 v117:=Tryz.zeroValue205
 t119:=Tryz.underlying245
 a119:=Tryz.isAgg245
 z119:=Tryz.sizeOf245
 t124:=Tryz.underlying208
 a124:=Tryz.isAgg208
 z124:=Tryz.sizeOf208
 v124:=Tryz.zeroValue208
 t138:=Tryz.underlying247
 a138:=Tryz.isAgg247
 z138:=Tryz.sizeOf247
 v138:=Tryz.zeroValue247
 t139:=Tryz.underlying248
 a139:=Tryz.isAgg248
 z139:=Tryz.sizeOf248
 v139:=Tryz.zeroValue248
 g3:=by kernel_rfl
 g4:=by kernel_rfl }
open Go.RowKit in
def Tryz.lays162_ren:Go.Shelf.Ren:=⟨fun|162=>177|232=>227|227=>224|234=>228|236=>229|228=>253|271=>256|151=>255|120=>269|197=>254|152=>268|260=>267|137=>168|119=>283|224=>271|225=>270|217=>222|266=>252|n=>n,fun|9=>9|4=>4|3=>3|5=>5|117=>205|116=>204|0=>0|124=>208|21=>21|105=>228|46=>139|119=>245|139=>248|138=>247|n=>n,fun|3=>4|4=>5|n=>n⟩
theorem Tryz.lays162:Go.Proofs.Lays.n162 prog Tryz.lays162_ren:={
 mixed:=by kernel_rfl
 f119:=Tryz.func283.trans (congrArg some (by kernel_rfl))
 f120:=Tryz.func269.trans (congrArg some (by kernel_rfl))
 f137:=Tryz.func168.trans (congrArg some (by kernel_rfl))
 f151:=Tryz.func255.trans (congrArg some (by kernel_rfl))
 f152:=Tryz.func268.trans (congrArg some (by kernel_rfl))
 f162:=Tryz.func177.trans (congrArg some (by kernel_rfl))
 f197:=Tryz.func254.trans (congrArg some (by kernel_rfl))
 f217:=Tryz.func222.trans (congrArg some (by kernel_rfl))
 f224:=Tryz.func271.trans (congrArg some (by kernel_rfl))
 f225:=Tryz.func270.trans (congrArg some (by kernel_rfl))
 f227:=Tryz.func224.trans (congrArg some (by kernel_rfl))
 f228:=Tryz.func253.trans (congrArg some (by kernel_rfl))
 f232:=Tryz.func227.trans (congrArg some (by kernel_rfl))
 f234:=Tryz.func228.trans (congrArg some (by kernel_rfl))
 f236:=Tryz.func229.trans (congrArg some (by kernel_rfl))
 f260:=Tryz.func267.trans (congrArg some (by kernel_rfl))
 f266:=Tryz.func252.trans (congrArg some (by kernel_rfl))
 f271:=Tryz.func256.trans (congrArg some (by kernel_rfl))
 t0:=Tryz.underlying0
 a0:=Tryz.isAgg0
 z0:=Tryz.sizeOf0
 v0:=Tryz.zeroValue0
 t3:=Tryz.underlying3
 a3:=Tryz.isAgg3
 z3:=Tryz.sizeOf3
 v3:=Tryz.zeroValue3
 t4:=Tryz.underlying4
 a4:=Tryz.isAgg4
 z4:=Tryz.sizeOf4
 v4:=Tryz.zeroValue4
 t5:=Tryz.underlying5
 a5:=Tryz.isAgg5
 z5:=Tryz.sizeOf5
 v5:=Tryz.zeroValue5
 t9:=Tryz.underlying9
 a9:=Tryz.isAgg9
 z9:=Tryz.sizeOf9
 v9:=Tryz.zeroValue9
 t21:=Tryz.underlying21
 a21:=Tryz.isAgg21
 z21:=Tryz.sizeOf21
 v21:=Tryz.zeroValue21
 t46:=Tryz.underlying139
 a46:=Tryz.isAgg139
 z46:=Tryz.sizeOf139
 v46:=Tryz.zeroValue139
 t105:=Tryz.underlying228
 a105:=Tryz.isAgg228
 z105:=Tryz.sizeOf228
 v105:=Tryz.zeroValue228
 t116:=Tryz.underlying204
 a116:=Tryz.isAgg204
 z116:=Tryz.sizeOf204
 t117:=Tryz.underlying205
 a117:=Tryz.isAgg205
 z117:=Tryz.sizeOf205
 v117:=Tryz.zeroValue205
 t119:=Tryz.underlying245
 a119:=Tryz.isAgg245
 z119:=Tryz.sizeOf245
 t124:=Tryz.underlying208
 a124:=Tryz.isAgg208
 z124:=Tryz.sizeOf208
 v124:=Tryz.zeroValue208
 t138:=Tryz.underlying247
 a138:=Tryz.isAgg247
 z138:=Tryz.sizeOf247
 v138:=Tryz.zeroValue247
 t139:=Tryz.underlying248
 a139:=Tryz.isAgg248
 z139:=Tryz.sizeOf248
 v139:=Tryz.zeroValue248
 g3:=by kernel_rfl
 g4:=by kernel_rfl }
open Go.RowKit in
theorem Tryz.strings_TrimRight_one (s:ByteArray)(c:UInt8)(hc:c.toNat < 128)(w:World)(hs:s.size≤9223372036854775807) :
  Calls prog 177 #[.string s,.string ⟨#[c]⟩] w fun e w'=>e=.returned (.string ⟨(Lib.trimRightB s.data.toList c).toArray⟩)∧w'=w:=Any.strings_TrimRight_one Tryz.lays162 s c hc w hs
def Tryz.lays160_ren:Go.Shelf.Ren:=⟨fun|160=>172|232=>227|231=>223|227=>224|234=>228|233=>225|236=>229|235=>226|228=>253|271=>256|151=>255|197=>254|120=>269|152=>268|260=>267|137=>168|119=>283|224=>271|225=>270|217=>222|266=>252|n=>n,fun|9=>9|4=>4|3=>3|5=>5|117=>205|116=>204|0=>0|124=>208|21=>21|105=>228|46=>139|119=>245|139=>248|138=>247|n=>n,fun|3=>4|4=>5|n=>n⟩
theorem Tryz.lays160:Go.Proofs.Lays.n160 prog Tryz.lays160_ren:={
 mixed:=by kernel_rfl
 f119:=Tryz.func283.trans (congrArg some (by kernel_rfl))
 f120:=Tryz.func269.trans (congrArg some (by kernel_rfl))
 f137:=Tryz.func168.trans (congrArg some (by kernel_rfl))
 f151:=Tryz.func255.trans (congrArg some (by kernel_rfl))
 f152:=Tryz.func268.trans (congrArg some (by kernel_rfl))
 f160:=Tryz.func172.trans (congrArg some (by kernel_rfl))
 f197:=Tryz.func254.trans (congrArg some (by kernel_rfl))
 f217:=Tryz.func222.trans (congrArg some (by kernel_rfl))
 f224:=Tryz.func271.trans (congrArg some (by kernel_rfl))
 f225:=Tryz.func270.trans (congrArg some (by kernel_rfl))
 f227:=Tryz.func224.trans (congrArg some (by kernel_rfl))
 f228:=Tryz.func253.trans (congrArg some (by kernel_rfl))
 f231:=Tryz.func223.trans (congrArg some (by kernel_rfl))
 f232:=Tryz.func227.trans (congrArg some (by kernel_rfl))
 f233:=Tryz.func225.trans (congrArg some (by kernel_rfl))
 f234:=Tryz.func228.trans (congrArg some (by kernel_rfl))
 f235:=Tryz.func226.trans (congrArg some (by kernel_rfl))
 f236:=Tryz.func229.trans (congrArg some (by kernel_rfl))
 f260:=Tryz.func267.trans (congrArg some (by kernel_rfl))
 f266:=Tryz.func252.trans (congrArg some (by kernel_rfl))
 f271:=Tryz.func256.trans (congrArg some (by kernel_rfl))
 t0:=Tryz.underlying0
 a0:=Tryz.isAgg0
 z0:=Tryz.sizeOf0
 v0:=Tryz.zeroValue0
 t3:=Tryz.underlying3
 a3:=Tryz.isAgg3
 z3:=Tryz.sizeOf3
 v3:=Tryz.zeroValue3
 t4:=Tryz.underlying4
 a4:=Tryz.isAgg4
 z4:=Tryz.sizeOf4
 v4:=Tryz.zeroValue4
 t5:=Tryz.underlying5
 a5:=Tryz.isAgg5
 z5:=Tryz.sizeOf5
 v5:=Tryz.zeroValue5
 t9:=Tryz.underlying9
 a9:=Tryz.isAgg9
 z9:=Tryz.sizeOf9
 v9:=Tryz.zeroValue9
 t21:=Tryz.underlying21
 a21:=Tryz.isAgg21
 z21:=Tryz.sizeOf21
 v21:=Tryz.zeroValue21
 t46:=Tryz.underlying139
 a46:=Tryz.isAgg139
 z46:=Tryz.sizeOf139
 v46:=Tryz.zeroValue139
 t105:=Tryz.underlying228
 a105:=Tryz.isAgg228
 z105:=Tryz.sizeOf228
 v105:=Tryz.zeroValue228
 t116:=Tryz.underlying204
 a116:=Tryz.isAgg204
 z116:=Tryz.sizeOf204
 t117:=Tryz.underlying205
 a117:=Tryz.isAgg205
 z117:=Tryz.sizeOf205
 v117:=Tryz.zeroValue205
 t119:=Tryz.underlying245
 a119:=Tryz.isAgg245
 z119:=Tryz.sizeOf245
 t124:=Tryz.underlying208
 a124:=Tryz.isAgg208
 z124:=Tryz.sizeOf208
 v124:=Tryz.zeroValue208
 t138:=Tryz.underlying247
 a138:=Tryz.isAgg247
 z138:=Tryz.sizeOf247
 v138:=Tryz.zeroValue247
 t139:=Tryz.underlying248
 a139:=Tryz.isAgg248
 z139:=Tryz.sizeOf248
 v139:=Tryz.zeroValue248
 g3:=by kernel_rfl
 g4:=by kernel_rfl }
open Go.RowKit in
def Tryz.lays137_ren:Go.Shelf.Ren:=⟨fun|137=>168|217=>222|266=>252|n=>n,fun|9=>9|5=>5|3=>3|n=>n,fun|n=>n⟩
theorem Tryz.lays137:Go.Proofs.Lays.n137 prog Tryz.lays137_ren:={
 mixed:=by kernel_rfl
 f137:=Tryz.func168.trans (congrArg some (by kernel_rfl))
 f217:=Tryz.func222.trans (congrArg some (by kernel_rfl))
 f266:=Tryz.func252.trans (congrArg some (by kernel_rfl))
 t3:=Tryz.underlying3
 a3:=Tryz.isAgg3
 z3:=Tryz.sizeOf3
 v3:=Tryz.zeroValue3
 t5:=Tryz.underlying5
 a5:=Tryz.isAgg5
 z5:=Tryz.sizeOf5
 v5:=Tryz.zeroValue5
 t9:=Tryz.underlying9
 a9:=Tryz.isAgg9
 z9:=Tryz.sizeOf9
 v9:=Tryz.zeroValue9 }
open Go.RowKit in
theorem Tryz.strings_IndexByte (s:ByteArray)(c:Int)(w:World) :
  Calls prog 168 #[.string s,.int .u8 c] w fun e w'=>e=.returned (.int .i64 (Lib.indexByte s.data.toList c.toNat.toUInt8))∧w'=w:=Any.strings_IndexByte Tryz.lays137 s c w
open Go.RowKit in
open Go.RowKit in
open Go.RowKit in
open Go.RowKit in
open Go.RowKit in
open Go.RowKit in
open Go.RowKit in
open Go.RowKit in
theorem Tryz.Builder_Grow_fresh_cap (B b n:Nat)(w:World)(hB:B≤b)(hbk:w.heap[b]?=some (.cells #[.pointer none,.slice none 0 0] 78 (0,0)))(hBw:B≤w.heap.size)(hn:n≤281474976710656) :
  Calls prog 243 #[.pointer (some ⟨b,0,none⟩),.int .i64 n] w fun e w'=>e=.returned (.tuple #[])∧(Lib.BuilderAt 78 5 B b (.pointer (some ⟨b,0,none⟩)) [] w'∧Below B w w')∧∃p cap,w'.cell? ⟨b,1,none⟩=some (.slice p 0 cap)∧n≤cap:=Any.Builder_Grow_fresh_cap Tryz.lays165 Tryz.Builder_Extra_165 B b n w hB hbk hBw hn
open Go.Lib in
open Go.Lib in
open Go.Lib in
open Go.Lib in
open Go.RowKit Go.Sort Go.Lib in
open Go.RowKit Go.Sort Go.Lib in
open Go.RowKit Go.Sort Go.Lib in
def Tryz.laysM173_ren:Go.Shelf.Ren:=⟨fun|173=>85|246=>129|283=>179|284=>180|285=>181|286=>182|129=>234|317=>233|318=>235|319=>236|320=>237|337=>258|338=>259|n=>n,fun|2=>2|3=>3|9=>9|4=>4|171=>182|0=>0|53=>183|37=>76|5=>5|173=>186|212=>214|51=>215|20=>20|213=>216|46=>139|232=>235|233=>236|n=>n,fun|17=>0|18=>2|19=>3|n=>n⟩
theorem Tryz.laysM173:Go.Proofs.LaysM.n173 prog Tryz.laysM173_ren:={
 mixed:=by kernel_rfl
 f129:=Tryz.func234.trans (congrArg some (by kernel_rfl))
 f173:=Tryz.func85.trans (congrArg some (by kernel_rfl))
 f246:=Tryz.func129.trans (congrArg some (by kernel_rfl))
 f283:=Tryz.func179.trans (congrArg some (by kernel_rfl))
 f284:=Tryz.func180.trans (congrArg some (by kernel_rfl))
 f285:=Tryz.func181.trans (congrArg some (by kernel_rfl))
 f286:=Tryz.func182.trans (congrArg some (by kernel_rfl))
 f317:=Tryz.func233.trans (congrArg some (by kernel_rfl))
 f318:=Tryz.func235.trans (congrArg some (by kernel_rfl))
 f319:=Tryz.func236.trans (congrArg some (by kernel_rfl))
 f320:=Tryz.func237.trans (congrArg some (by kernel_rfl))
 f337:=Tryz.func258.trans (congrArg some (by kernel_rfl))
 f338:=Tryz.func259.trans (congrArg some (by kernel_rfl))
 t0:=Tryz.underlying0
 a0:=Tryz.isAgg0
 z0:=Tryz.sizeOf0
 v0:=Tryz.zeroValue0
 t2:=Tryz.underlying2
 a2:=Tryz.isAgg2
 z2:=Tryz.sizeOf2
 v2:=Tryz.zeroValue2
 t3:=Tryz.underlying3
 a3:=Tryz.isAgg3
 z3:=Tryz.sizeOf3
 v3:=Tryz.zeroValue3
 t4:=Tryz.underlying4
 a4:=Tryz.isAgg4
 z4:=Tryz.sizeOf4
 v4:=Tryz.zeroValue4
 t5:=Tryz.underlying5
 a5:=Tryz.isAgg5
 z5:=Tryz.sizeOf5
 v5:=Tryz.zeroValue5
 t9:=Tryz.underlying9
 a9:=Tryz.isAgg9
 z9:=Tryz.sizeOf9
 v9:=Tryz.zeroValue9
 t20:=Tryz.underlying20
 a20:=Tryz.isAgg20
 z20:=Tryz.sizeOf20
 v20:=Tryz.zeroValue20
 t37:=Tryz.underlying76
 a37:=Tryz.isAgg76
 z37:=Tryz.sizeOf76
 v37:=Tryz.zeroValue76
 t46:=Tryz.underlying139
 a46:=Tryz.isAgg139
 z46:=Tryz.sizeOf139
 v46:=Tryz.zeroValue139
 t51:=Tryz.underlying215
 a51:=Tryz.isAgg215
 z51:=Tryz.sizeOf215
 v51:=Tryz.zeroValue215
 t53:=Tryz.underlying183
 a53:=Tryz.isAgg183
 z53:=Tryz.sizeOf183
 v53:=Tryz.zeroValue183
 t171:=Tryz.underlying182
 a171:=Tryz.isAgg182
 z171:=Tryz.sizeOf182
 v171:=Tryz.zeroValue182
 t173:=Tryz.underlying186
 a173:=Tryz.isAgg186
 z173:=Tryz.sizeOf186
 v173:=Tryz.zeroValue186
 t212:=Tryz.underlying214
 a212:=Tryz.isAgg214
 z212:=Tryz.sizeOf214
 v212:=Tryz.zeroValue214
 t213:=Tryz.underlying216
 a213:=Tryz.isAgg216
 z213:=Tryz.sizeOf216
 t232:=Tryz.underlying235
 a232:=Tryz.isAgg235
 z232:=Tryz.sizeOf235
 v232:=Tryz.zeroValue235
 t233:=Tryz.underlying236
 a233:=Tryz.isAgg236
 z233:=Tryz.sizeOf236
 v233:=Tryz.zeroValue236
 g17:=by kernel_rfl
 g18:=by kernel_rfl
 g19:=by kernel_rfl
 i0:=by kernel_rfl
 i2:=by kernel_rfl
 i3:=by kernel_rfl
 i4:=by kernel_rfl
 i5:=by kernel_rfl
 i9:=by kernel_rfl
 i20:=by kernel_rfl
 i37:=by kernel_rfl
 i46:=by kernel_rfl
 i51:=by kernel_rfl
 i53:=by kernel_rfl
 i171:=by kernel_rfl
 i173:=by kernel_rfl
 i212:=by kernel_rfl
 i232:=by kernel_rfl
 i233:=by kernel_rfl
 m17:=by kernel_rfl
 m18:=by kernel_rfl
 m19:=by kernel_rfl }
open Go.RowKit Go.Sort Go.Lib in
theorem Tryz.strconv_FormatInt_10 (n:Int)(h0:-9223372036854775808≤n)(h1:n≤9223372036854775807)(w:World)(htab:Lib.TabIs prog w "internal/strconv.uint64pow10" .u64 Lib.pow10Tab) :
  Calls prog 85 #[.int .i64 n,.int .i64 10] w fun e w'=>e=.returned (.string ⟨(Lib.itoa n).toArray⟩)∧∃k os,w'=grow (w.drewN k) os:=Any.strconv_FormatInt_10 Tryz.laysM173 n h0 h1 w htab
open Go.RowKit Go.Sort Go.Lib in
open Go.RowKit Go.Lib in
open Go.RowKit Go.Lib in
open Go.RowKit Go.Lib in
def Tryz.lays219_ren:Go.Shelf.Ren:=⟨fun|219=>257|217=>222|225=>270|224=>271|267=>272|266=>252|314=>284|n=>n,fun|9=>9|3=>3|4=>4|5=>5|46=>139|146=>250|51=>215|n=>n,fun|1=>1|n=>n⟩
theorem Tryz.lays219:Go.Proofs.Lays.n219 prog Tryz.lays219_ren:={
 mixed:=by kernel_rfl
 f217:=Tryz.func222.trans (congrArg some (by kernel_rfl))
 f219:=Tryz.func257.trans (congrArg some (by kernel_rfl))
 f224:=Tryz.func271.trans (congrArg some (by kernel_rfl))
 f225:=Tryz.func270.trans (congrArg some (by kernel_rfl))
 f266:=Tryz.func252.trans (congrArg some (by kernel_rfl))
 f267:=Tryz.func272.trans (congrArg some (by kernel_rfl))
 f314:=Tryz.func284.trans (congrArg some (by kernel_rfl))
 t3:=Tryz.underlying3
 a3:=Tryz.isAgg3
 z3:=Tryz.sizeOf3
 v3:=Tryz.zeroValue3
 t4:=Tryz.underlying4
 a4:=Tryz.isAgg4
 z4:=Tryz.sizeOf4
 v4:=Tryz.zeroValue4
 t5:=Tryz.underlying5
 a5:=Tryz.isAgg5
 z5:=Tryz.sizeOf5
 v5:=Tryz.zeroValue5
 t9:=Tryz.underlying9
 a9:=Tryz.isAgg9
 z9:=Tryz.sizeOf9
 v9:=Tryz.zeroValue9
 t46:=Tryz.underlying139
 a46:=Tryz.isAgg139
 z46:=Tryz.sizeOf139
 v46:=Tryz.zeroValue139
 t51:=Tryz.underlying215
 a51:=Tryz.isAgg215
 z51:=Tryz.sizeOf215
 v51:=Tryz.zeroValue215
 t146:=Tryz.underlying250
 a146:=Tryz.isAgg250
 z146:=Tryz.sizeOf250
 v146:=Tryz.zeroValue250
 g1:=by kernel_rfl }
open Go.RowKit Go.Lib in
theorem Tryz.stringslite_Index_one (s:ByteArray)(c:UInt8)(w:World) :
  Calls prog 257 #[.string s,.string ⟨#[c]⟩] w fun e w'=>e=.returned (.int .i64 (Lib.indexByte s.data.toList c))∧w'=w:=Any.stringslite_Index_one Tryz.lays219 s c w
open Go.RowKit Go.Lib in
open Go.RowKit Go.Lib in
open Go.RowKit Go.Lib in
def Tryz.lays144_ren:Go.Shelf.Ren:=⟨fun|144=>173|143=>230|219=>257|217=>222|225=>270|224=>271|267=>272|266=>252|314=>284|n=>n,fun|9=>9|4=>4|3=>3|5=>5|46=>139|146=>250|51=>215|n=>n,fun|1=>1|n=>n⟩
theorem Tryz.lays144:Go.Proofs.Lays.n144 prog Tryz.lays144_ren:={
 mixed:=by kernel_rfl
 f143:=Tryz.func230.trans (congrArg some (by kernel_rfl))
 f144:=Tryz.func173.trans (congrArg some (by kernel_rfl))
 f217:=Tryz.func222.trans (congrArg some (by kernel_rfl))
 f219:=Tryz.func257.trans (congrArg some (by kernel_rfl))
 f224:=Tryz.func271.trans (congrArg some (by kernel_rfl))
 f225:=Tryz.func270.trans (congrArg some (by kernel_rfl))
 f266:=Tryz.func252.trans (congrArg some (by kernel_rfl))
 f267:=Tryz.func272.trans (congrArg some (by kernel_rfl))
 f314:=Tryz.func284.trans (congrArg some (by kernel_rfl))
 t3:=Tryz.underlying3
 a3:=Tryz.isAgg3
 z3:=Tryz.sizeOf3
 v3:=Tryz.zeroValue3
 t4:=Tryz.underlying4
 a4:=Tryz.isAgg4
 z4:=Tryz.sizeOf4
 v4:=Tryz.zeroValue4
 t5:=Tryz.underlying5
 a5:=Tryz.isAgg5
 z5:=Tryz.sizeOf5
 v5:=Tryz.zeroValue5
 t9:=Tryz.underlying9
 a9:=Tryz.isAgg9
 z9:=Tryz.sizeOf9
 v9:=Tryz.zeroValue9
 t46:=Tryz.underlying139
 a46:=Tryz.isAgg139
 z46:=Tryz.sizeOf139
 v46:=Tryz.zeroValue139
 t51:=Tryz.underlying215
 a51:=Tryz.isAgg215
 z51:=Tryz.sizeOf215
 v51:=Tryz.zeroValue215
 t146:=Tryz.underlying250
 a146:=Tryz.isAgg250
 z146:=Tryz.sizeOf250
 v146:=Tryz.zeroValue250
 g1:=by kernel_rfl }
open Go.RowKit Go.Lib in
theorem Tryz.strings_Contains_one (s:ByteArray)(c:UInt8)(w:World) :
  Calls prog 173 #[.string s,.string ⟨#[c]⟩] w fun e w'=>e=.returned (.bool (decide (0≤Lib.indexByte s.data.toList c)))∧w'=w:=Any.strings_Contains_one Tryz.lays144 s c w
open Go.RowKit Go.Lib in
open Go.RowKit Go.Lib in
open Go.RowKit Go.Lib in
def Tryz.lays190_ren:Go.Shelf.Ren:=⟨fun|190=>249|125=>266|258=>265|128=>282|129=>234|302=>274|303=>275|304=>276|305=>277|306=>278|307=>279|308=>183|309=>280|310=>281|333=>285|329=>286|330=>287|334=>288|335=>289|336=>238|344=>290|n=>n,fun|31=>22|9=>9|3=>3|46=>139|0=>0|51=>215|53=>183|4=>4|183=>240|182=>239|131=>144|5=>5|218=>252|222=>256|228=>258|229=>54|n=>n,fun|n=>n⟩
theorem Tryz.lays190:Go.Proofs.Lays.n190 prog Tryz.lays190_ren:={
 mixed:=by kernel_rfl
 f125:=Tryz.func266.trans (congrArg some (by kernel_rfl))
 f128:=Tryz.func282.trans (congrArg some (by kernel_rfl))
 f129:=Tryz.func234.trans (congrArg some (by kernel_rfl))
 f190:=Tryz.func249.trans (congrArg some (by kernel_rfl))
 f258:=Tryz.func265.trans (congrArg some (by kernel_rfl))
 f302:=Tryz.func274.trans (congrArg some (by kernel_rfl))
 f303:=Tryz.func275.trans (congrArg some (by kernel_rfl))
 f304:=Tryz.func276.trans (congrArg some (by kernel_rfl))
 f305:=Tryz.func277.trans (congrArg some (by kernel_rfl))
 f306:=Tryz.func278.trans (congrArg some (by kernel_rfl))
 f307:=Tryz.func279.trans (congrArg some (by kernel_rfl))
 f308:=Tryz.func183.trans (congrArg some (by kernel_rfl))
 f309:=Tryz.func280.trans (congrArg some (by kernel_rfl))
 f310:=Tryz.func281.trans (congrArg some (by kernel_rfl))
 f329:=Tryz.func286.trans (congrArg some (by kernel_rfl))
 f330:=Tryz.func287.trans (congrArg some (by kernel_rfl))
 f333:=Tryz.func285.trans (congrArg some (by kernel_rfl))
 f334:=Tryz.func288.trans (congrArg some (by kernel_rfl))
 f335:=Tryz.func289.trans (congrArg some (by kernel_rfl))
 f336:=Tryz.func238.trans (congrArg some (by kernel_rfl))
 f344:=Tryz.func290.trans (congrArg some (by kernel_rfl))
 t0:=Tryz.underlying0
 a0:=Tryz.isAgg0
 z0:=Tryz.sizeOf0
 v0:=Tryz.zeroValue0
 t3:=Tryz.underlying3
 a3:=Tryz.isAgg3
 z3:=Tryz.sizeOf3
 v3:=Tryz.zeroValue3
 t4:=Tryz.underlying4
 a4:=Tryz.isAgg4
 z4:=Tryz.sizeOf4
 v4:=Tryz.zeroValue4
 t5:=Tryz.underlying5
 a5:=Tryz.isAgg5
 z5:=Tryz.sizeOf5
 v5:=Tryz.zeroValue5
 t9:=Tryz.underlying9
 a9:=Tryz.isAgg9
 z9:=Tryz.sizeOf9
 v9:=Tryz.zeroValue9
 t31:=Tryz.underlying22
 a31:=Tryz.isAgg22
 z31:=Tryz.sizeOf22
 v31:=Tryz.zeroValue22
 t46:=Tryz.underlying139
 a46:=Tryz.isAgg139
 z46:=Tryz.sizeOf139
 v46:=Tryz.zeroValue139
 t51:=Tryz.underlying215
 a51:=Tryz.isAgg215
 z51:=Tryz.sizeOf215
 v51:=Tryz.zeroValue215
 t53:=Tryz.underlying183
 a53:=Tryz.isAgg183
 z53:=Tryz.sizeOf183
 v53:=Tryz.zeroValue183
 t131:=Tryz.underlying144
 a131:=Tryz.isAgg144
 z131:=Tryz.sizeOf144
 v131:=Tryz.zeroValue144
 t182:=Tryz.underlying239
 a182:=Tryz.isAgg239
 z182:=Tryz.sizeOf239
 v182:=Tryz.zeroValue239
 t183:=Tryz.underlying240
 a183:=Tryz.isAgg240
 z183:=Tryz.sizeOf240
 v183:=Tryz.zeroValue240
 t218:=Tryz.underlying252
 a218:=Tryz.isAgg252
 z218:=Tryz.sizeOf252
 v218:=Tryz.zeroValue252
 t222:=Tryz.underlying256
 a222:=Tryz.isAgg256
 z222:=Tryz.sizeOf256
 v222:=Tryz.zeroValue256
 t228:=Tryz.underlying258
 a228:=Tryz.isAgg258
 z228:=Tryz.sizeOf258
 v228:=Tryz.zeroValue258
 t229:=Tryz.underlying54
 a229:=Tryz.isAgg54
 z229:=Tryz.sizeOf54
 v229:=Tryz.zeroValue54 }
open Go.Sort Go.RowKit in
theorem Tryz.slices_Sort_string (blk off cap:Nat)(ss:List (List UInt8))(w:World)(hH:Holds encStr w blk off ss.toArray)(hblk:blk < w.heap.size)(hsz:ss.length < 4611686018427387904) :
  Calls prog 249 #[.slice (some ⟨blk,off,none⟩) ss.length cap] w fun e w'=>
   e=.returned (.tuple #[])∧∃n os,w'=grow (putRow encStr (Sort.ahead w n) blk off (ss.mergeSort fun x y=>decide (x≤y)).toArray) os:=Any.slices_Sort_string Tryz.lays190 blk off cap ss w hH hblk hsz
open Go.RowKit Go.Lib in
def Tryz.lays99_ren:Go.Shelf.Ren:=⟨fun|99=>115|206=>169|n=>n,fun|9=>9|4=>4|3=>3|n=>n,fun|n=>n⟩
theorem Tryz.lays99:Go.Proofs.Lays.n99 prog Tryz.lays99_ren:={
 mixed:=by kernel_rfl
 f99:=Tryz.func115.trans (congrArg some (by kernel_rfl))
 f206:=Tryz.func169.trans (congrArg some (by kernel_rfl))
 t3:=Tryz.underlying3
 a3:=Tryz.isAgg3
 z3:=Tryz.sizeOf3
 v3:=Tryz.zeroValue3
 t4:=Tryz.underlying4
 a4:=Tryz.isAgg4
 z4:=Tryz.sizeOf4
 v4:=Tryz.zeroValue4
 t9:=Tryz.underlying9
 a9:=Tryz.isAgg9
 z9:=Tryz.sizeOf9
 v9:=Tryz.zeroValue9 }
open Go.RowKit Go.Lib in
theorem Tryz.strings_HasPrefix (s p:ByteArray)(w:World) :
  Calls prog 115 #[.string s,.string p] w fun e w'=>e=.returned (.bool (Lib.hasPrefix s.data.toList p.data.toList))∧w'=w:=Any.strings_HasPrefix Tryz.lays99 s p w
open Go.RowKit Go.Lib in
open Go.RowKit Go.Sort in
theorem Tryz.slices_Sort_string_none (p:Option Addr)(cap:Nat)(w:World) :
  Calls prog 249 #[.slice p 0 cap] w fun e w'=>e=.returned (.tuple #[])∧w'=w:=Any.slices_Sort_string_none Tryz.lays190 p cap w
end Go.Proofs
namespace Go.Proofs.YtkejpieaafeblaaGreatDoor
section
open Eng Go.RowKit
abbrev Bld (b:Nat)(v:Value)(l:List UInt8):Ent:=.bld 78 5 b v l
theorem bytesV_append (a b:List UInt8):bytesV (a++b)=bytesV a++bytesV b:=by simp[bytesV]
theorem bytesV_one (l:List UInt8):∀u∈bytesV l,u.oneCell'=true:=by
 intro u hu;simp only[bytesV,List.mem_map] at hu;obtain⟨c,_,rfl⟩:=hu;rfl
theorem e_pnone {P:Program}{T U:TypeId}{xo:Operand}{a:Option Addr}{c:Value}{w:World}{PK:PKT}{K:VWP}(h:P.underlying T=some (.pointer U)) :
  DoX P (mEq .eql T xo (.const c) (.pointer a) (.pointer none)) w PK K=K (.bool a.isNone) w:=by
 refine mv_do ?_;have e:(eqGuard .eql T xo (.const c) (.pointer a) (.pointer none))=pure ():=by cases xo<;>rfl
 rw[e];have h2:∀d:Nat,(Op.equalIn (d+1) T (.pointer a) (.pointer none)).run P w=.ok a.isNone w:=fun d=>by
  cases a<;>simp[Op.equalIn,run_underlying h]
 simp only[binOp];simp[Op.equal,Op.maxDepth,h2 9999]
theorem n_psame {P:Program}{T U:TypeId}{xo yo:Operand}{a:Addr}{w:World}{PK:PKT}{K:VWP}(h:P.underlying T=some (.pointer U))(hi:(P.info? U).isSome=true)(hg:eqGuard .neq T xo yo (.pointer (some a)) (.pointer (some a))=pure ()) :
  DoX P (mEq .neq T xo yo (.pointer (some a)) (.pointer (some a))) w PK K=K (.bool false) w:=by
 obtain⟨j,hj⟩:=Option.isSome_iff_exists.1 hi;refine mv_do ?_;rw[hg];simp[Lib.run_neq_ptr_same w a h hj]
theorem copyCheck_ret {b:Nat}{v:Value}{l:List UInt8}{w:World}(h:(Bld b v l).is w):Ret prog 82 #[.pointer (some ⟨b,0,none⟩)] w
  (fun r w'=>∃e',(r=.tuple #[]∧e'=Bld b v l)∧Turn (Bld b v l) e' w w'):=by
 obtain⟨p,hp,hcap,ho⟩:=(OwnS.lend h).openB;refine ret_of fun K hK=>S_strings_Builder_copyCheck_ok ?_;unfold S_strings_Builder_copyCheck;simp only[rs,f_addr (show fOff prog 78 0=some 0 by kernel_rfl)];rw[l_cell (by kernel_rfl) (ho.cell 0 rfl 0 rfl)];rcases hp with rfl|rfl
 ·rw[e_pnone Tryz.underlying75];simp only[Option.isNone_none,rs];obtain⟨j,hj⟩:=Option.isSome_iff_exists.1 (show (Tryz.prog.info? 78).isSome=true by kernel_rfl);have hjs:j.size≠0:=by
   have:(Tryz.prog.info? 78).map (·.size)=some 2:=by kernel_rfl
   rw[hj] at this;simp only[Option.map_some,Option.some.injEq] at this;omega
  have hsh:w.shape? b=some (78,2):=by
   have hb:w.heap[b]?=some (.cells #[.pointer none,v] 78 (0,0)):=ho.at_ 0 rfl;simp[World.shape?,hb]
  refine do_ok (mv_run (Lib.run_to_unsafe w ⟨b,0,none⟩ Tryz.underlying75 Tryz.underlying152 hj hjs hsh (by show 0 < 2;omega))) ?_;refine do_ok (show (mCallV (.func (.func 127) #[] #[]) #[.pointer (some ⟨b,0,none⟩)]).run prog w=.ok (.value (.pointer (some ⟨b,0,none⟩))) w by kernel_rfl) ?_;refine do_ok (mv_run (Lib.run_from_unsafe w ⟨b,0,none⟩ Tryz.underlying152 Tryz.underlying75 hj hsh (by kernel_rfl))) ?_;refine o_store 0 ho rfl (by kernel_rfl) rfl (by simp) fun w2 ho2=>?_;exact hK _ _ ⟨_,⟨rfl,rfl⟩,(OwnS.closeB (.inr rfl) hcap ho2).back⟩
 ·rw[e_pnone Tryz.underlying75];simp only[Option.isNone_some,rs,f_addr (show fOff prog 78 0=some 0 by kernel_rfl)];rw[l_cell (by kernel_rfl) (ho.cell 0 rfl 0 rfl)];rw[n_psame Tryz.underlying75 (by kernel_rfl) rfl];simp only[rs];exact hK _ _ ⟨_,⟨rfl,rfl⟩,(ho.closeB (.inr rfl) hcap).back⟩
theorem writeByte_ret {b:Nat}{v:Value}{l:List UInt8}{c:UInt8}{w:World}(h:(Bld b v l).is w)(hl:l.length < 140737488355328):Ret prog 84 #[.pointer (some ⟨b,0,none⟩),.int .u8 c.toNat] w
  (fun r w'=>∃e',(r=.nilIface∧∃v',e'=Bld b v' (l++[c]))∧Turn (Bld b v l) e' w w'):=by
 refine ret_of fun K hK=>S_strings_Builder_WriteByte_ok ?_;unfold S_strings_Builder_WriteByte;refine c_turn 0 (OwnS.lend h) rfl (copyCheck_ret h) ?_;rintro _ _ w1 ⟨rfl,rfl⟩ ho1;obtain⟨p,hp,hcap,ho⟩:=OwnS.openB ho1;simp only[rs,f_addr (show fOff prog 78 1=some 1 by kernel_rfl)];rw[l_cell (by kernel_rfl) (ho.cell 0 rfl 1 rfl)];refine o_new (fun b=>.slice (some ⟨b,0,none⟩) 1 1) [.int .u8 c.toNat] 5 (fun _=>by kernel_rfl) ho fun nb w2 h2=>?_;refine o_append 2 Tryz.underlying76 (show elB prog 5 1 1=true by kernel_rfl) (by decide) h2 rfl (h2.sl 0 rfl 1 1 1 rfl) (bytesV_one [c]) (by omega) (by omega) fun v' w3 h3=>?_;refine o_store 1 h3 rfl (by kernel_rfl) (by
  have:=h3.at_ 2 rfl;rcases this.2 with ⟨hv,_⟩|⟨_,_,_,_,hv,_⟩<;>rw[hv]<;>rfl) (by simp) fun w4 h4=>?_
 have h5:=h4.tail;have h6:OwnS (Bld b v l).blk w w4 (.cells b [p,v'] 78::.row 5 1 v' (l.length+1) (bytesV (l++[c]))::[]):=by
  rw[bytesV_append];exact h5
 exact hK _ _ ⟨_,⟨rfl,v',rfl⟩,(OwnS.closeB hp (roomy_row (h6.at_ 1 rfl) (by omega)) h6).back⟩
theorem writeString_ret {b:Nat}{v:Value}{l s:List UInt8}{w:World}(h:(Bld b v l).is w)(hl:l.length+s.length≤140737488355328):Ret prog 43 #[.pointer (some ⟨b,0,none⟩),.string ⟨s.toArray⟩] w
  (fun r w'=>∃e',((∃x,r=.tuple #[x,.nilIface])∧∃v',e'=Bld b v' (l++s))∧Turn (Bld b v l) e' w w'):=by
 refine ret_of fun K hK=>S_strings_Builder_WriteString_ok ?_;unfold S_strings_Builder_WriteString;refine c_turn 0 (OwnS.lend h) rfl (copyCheck_ret h) ?_;rintro _ _ w1 ⟨rfl,rfl⟩ ho1;obtain⟨p,hp,hcap,ho⟩:=OwnS.openB ho1;simp only[rs,f_addr (show fOff prog 78 1=some 1 by kernel_rfl)];rw[l_cell (by kernel_rfl) (ho.cell 0 rfl 1 rfl)];refine o_append_str 1 Tryz.underlying76 Tryz.underlying9 (show elB prog 5 1 1=true by kernel_rfl) Tryz.underlying5 (by kernel_rfl) ho rfl (by omega) fun v' w3 hro h3=>?_;refine o_store 0 h3 rfl (by kernel_rfl) (by
  have:=h3.at_ 1 rfl;rcases this.2 with ⟨hv,_⟩|⟨_,_,_,_,hv,_⟩<;>rw[hv]<;>rfl) (by simp) fun w4 h4=>?_
 rw[s_len Tryz.underlying9];have h6:OwnS (Bld b v l).blk w w4 (.cells b [p,v'] 78::.row 5 1 v' (l.length+s.length) (bytesV (l++s))::[]):=by
  rw[bytesV_append];exact h4
 exact hK _ _ ⟨_,⟨⟨_,rfl⟩,v',rfl⟩,(OwnS.closeB hp (hro hcap) h6).back⟩
theorem row_froze {E:TypeId}{g n cap:Nat}{xs:List Value}{w:World}(h:w.ownsRowF 0 E 1 (.slice (some ⟨g,0,none⟩) n cap) n xs)(hn0:n≠0) :
  Turn (.row E 1 (.slice (some ⟨g,0,none⟩) n cap) n xs) (.row E 1 (.slice (some ⟨g,0,none⟩) n cap) n xs) w (w.freeze ⟨g,0,none⟩ n):=by
 refine⟨?_,?_,fun k hk=>.inl hk⟩
 ·unfold World.freeze;rw[if_neg hn0];refine⟨rfl,rfl,rfl,by simp,fun k hk hne=>?_⟩;have hkg:¬g=k:=fun e=>hne (by show some g=some k;rw[e]);simp only[Array.getElem?_modify];rw[if_neg hkg]
 ·refine⟨h.1,?_⟩;unfold World.freeze;rw[if_neg hn0];rcases h.2 with ⟨hv,_⟩|⟨g',cap',cur,fz,hv,hbg,hg,hfz,rest⟩
  ·cases hv
  ·injection hv with ha _ hcap
   injection ha with ha
   injection ha with hgg _ _
   subst hgg;subst hcap;obtain⟨lo,hi⟩:=fz;refine .inr ⟨g,_,cur,(if lo==hi then (0,0+n) else (min lo 0,max hi (0+n))),rfl,hbg,?_,?_,rest⟩
   ·simp[Array.getElem?_modify,hg]
   ·simp only at hfz;split<;>simp<;>omega
theorem run_usd {v:Value}{n:Nat}{T U:TypeId}{cs:Array Bool}{w:World}{E:TypeId}{xs:List Value}(h:w.ownsRowF 0 E 1 v n xs)(hr:roomy v):∃q,(∀w':World,(mB .unsafeSliceData #[T] U cs #[v]).run prog w'=.ok (.value (.pointer q)) w')∧(0 < n→∃g cap,v=.slice (some ⟨g,0,none⟩) n cap∧q=some ⟨g,0,none⟩):=by
 rcases h.2 with ⟨rfl,rfl⟩|⟨g,cap,cur,fz,rfl,hbg,hg,hfz,rest⟩
 ·exact⟨none,fun w'=>by simp[mB,builtin,Lib.run_unsafeSliceData_nil],fun h=>by omega⟩
 ·refine⟨some ⟨g,0,none⟩,fun w'=>?_,fun _=>⟨g,cap,rfl,rfl⟩⟩;have hc:cap≠0:=fun e=>hr ⟨g,0,none⟩ n (by rw[e]);simp[mB,builtin,Lib.run_unsafeSliceData_row _ _ _ _ _ _ hc]
theorem bldString_ret {b:Nat}{v:Value}{l:List UInt8}{w:World}(h:(Bld b v l).is w):Ret prog 51 #[.pointer (some ⟨b,0,none⟩)] w
  (fun r w'=>∃e',(r=.string ⟨l.toArray⟩∧e'=Bld b v l)∧Turn (Bld b v l) e' w w'):=by
 obtain⟨p,hp,hcap,ho⟩:=(OwnS.lend h).openB;refine ret_of fun K hK=>S_strings_Builder_String_ok ?_;unfold S_strings_Builder_String;have hrow:w.ownsRowF 0 5 1 v l.length (bytesV l):=ho.at_ 1 rfl;obtain⟨q,hq,hq2⟩:=run_usd (T:=76) (U:=123) (cs:=#[false]) hrow hcap;have hload:∀w',Below w.heap.size w w'→(mLoad 76 (.pointer (some ⟨b,0+1,none⟩))).run prog w'=.ok (.value v) w':=fun w' hb=>run_load_cell (by kernel_rfl) ((ho.grow hb).cell 0 rfl 1 rfl);have hlen:∀w',Below w.heap.size w w'→(mB .len #[76] 3 #[false] #[v]).run prog w'=.ok (.value (.int .i64 l.length)) w':=fun w' hb=>by
  have hs:=(ho.grow hb).slRow 1 rfl;obtain⟨_,a,cp,rfl,_⟩:=hs;simp[mB,builtin,Builtin.len_,run_underlying Tryz.underlying76,goInt]
 refine quiet (q_do _ (fun w=>run_nil) (q_do _ (fun w=>run_fa (show fOff prog 78 1=some 1 by kernel_rfl)) (q_at v hload (q_do _ hq (q_do _ (fun w=>run_nil) (q_do _ (fun w=>run_fa (show fOff prog 78 1=some 1 by kernel_rfl)) (q_at v hload (q_at _ hlen ?_))))))));intro w2 hb2;have h2:=ho.grow hb2;rcases Nat.eq_zero_or_pos l.length with h0|h0
 ·have hl:l=[]:=List.eq_nil_of_length_eq_zero h0;subst hl;refine do_ok (show (mB .unsafeString #[123,3] 9 #[false,false] #[.pointer q,.int .i64 0]).run prog w2=.ok (.value (.string ⟨([]:List UInt8).toArray⟩)) w2 by
   simp[mB,builtin,Lib.run_unsafeString_none];rfl) ?_
  exact hK _ _ ⟨_,⟨rfl,rfl⟩,(OwnS.closeB hp hcap h2).back⟩
 ·obtain⟨g,cap,rfl,rfl⟩:=hq2 h0;have hr2:w2.ownsRowF 0 5 1 (.slice (some ⟨g,0,none⟩) l.length cap) l.length (bytesV l):=h2.at_ 1 rfl;have hne:l≠[]:=List.length_pos_iff.1 h0;have hsh:∃cells,w2.shape? g=some (5,cells)∧l.length≤cells∧l.length≤9223372036854775807:=by
   rcases hr2.2 with ⟨hv,_⟩|⟨g',cap',cur,fz,hv,hbg,hg,hfz,hnc,hcm,hcs,_⟩
   ·cases hv
   ·injection hv with ha _ hcap
    injection ha with ha
    injection ha with hgg _ _
    subst hgg;refine⟨cur.size,by simp[World.shape?,hg],by omega,?_⟩;simp only[maxLen] at hcm;omega
  obtain⟨cells,hsh,hle,h63⟩:=hsh;have hr:=Lib.run_unsafeString_row (P:=prog) w2 123 3 9 5 Tryz.underlying123 (by kernel_rfl) g cells hsh l hne hle h63 (fun j x hj=>by
   have:=World.ownsRowF.cells hr2 (g:=g) rfl j (.int .u8 x.toNat) (bytesV_get hj);exact this)
  refine do_ok (show (mB .unsafeString #[123,3] 9 #[false,false] #[.pointer (some ⟨g,0,none⟩),.int .i64 l.length]).run prog w2=.ok (.value (.string ⟨l.toArray⟩)) (w2.freeze ⟨g,0,none⟩ l.length) by
   simp[mB,builtin,hr]) ?_
  have h3:=h2.turn 1 rfl (row_froze hr2 (by omega));exact hK _ _ ⟨_,⟨rfl,rfl⟩,(OwnS.closeB hp hcap h3).back⟩
theorem grow_ret {b n:Nat}{w0 w1:World}(ho:Own w0 w1 [.cells b [.pointer none,.slice none 0 0] 78])(h0:0 < n)(hn:n≤281474976710656):Ret prog 243 #[.pointer (some ⟨b,0,none⟩),.int .i64 n] w1
  (fun r w2=>r=.tuple #[]∧∃v,Own w0 w2 [Bld b v []]):=by
 have hbk:w1.heap[b]?=some (.cells #[.pointer none,.slice none 0 0] 78 (0,0)):=ho.at_ 0 rfl;have hB:w0.heap.size≤b:=((ho.all (.cells b [.pointer none,.slice none 0 0] 78) (by simp)).2 b rfl).elim (fun x=>x.elim) id;refine Calls.mono (Tryz.Builder_Grow_fresh_cap w0.heap.size b n w1 hB hbk ho.size hn) ?_;rintro e w2 ⟨rfl,⟨⟨_,v,hb,hrow,hne⟩,hbl⟩,p,cap,hcell,hcap⟩;refine retK ⟨rfl,v,?_⟩;have hv:v=.slice p 0 cap:=by
  rw[Lib.cell_of_heap hb] at hcell;simpa using hcell
 refine⟨⟨hbl.os.trans ho.grew.os,hbl.tape.trans ho.grew.tape,hbl.output.trans ho.grew.output,Nat.le_trans ho.size hbl.size,fun k hk hk2=>(hbl.block k hk).trans (ho.grew.block k hk hk2)⟩,fun e he=>?_,List.pairwise_singleton _ _⟩;rw[List.mem_singleton] at he;subst he;refine⟨⟨⟨_,.inr rfl,hb⟩,⟨hrow.1,?_⟩,hne,fun a k hc=>?_⟩,fun k hk=>.inr ?_⟩
 ·rcases hrow.2 with h|⟨g,cp,cur,h1,h2,h3,h4⟩
  ·exact .inl h
  ·exact .inr ⟨g,cp,cur,(0,0),h1,Nat.zero_le _,h3,Nat.zero_le _,h4⟩
 ·rw[hv] at hc
  injection hc with c1 c2 c3
  omega
 ·rcases hk with hk|hk
  ·rw[hk];exact hB
  ·rcases hrow.2 with ⟨h,_⟩|⟨g,cp,cur,h1,h2,h3,h4⟩
   ·rw[h] at hk;cases hk
   ·rw[h1] at hk;cases hk;exact h2
end
section
open Eng
def S_plain_Int (t0:Value)(w:World)(K:Ending→World→Prop):Prop:=
 DoX prog (mBin .lss 2 t0 (.int .i64 (-2147483647))) w (pk K) fun t5 w=>
 GDo t5 false (fun E=>E t0 w) w fun t7 w=>
 GDo t5 false (fun E=>DoX prog (mBin .gtr 2 t7 (.int .i64 2147483647)) w (pk K) E) w fun t8 w=>
 DoX prog (mPick t5 (.bool true) t8) w (pk K) fun t9 w=>
 IfX t9 (K (.returned (.tuple #[(.string ⟨#[]⟩),(.int .i64 2)])) w) (CallX prog 85 #[t0,(.int .i64 10)] w (pk K) fun t11 w=>
 K (.returned (.tuple #[t11,(.int .i64 0)])) w)
theorem S_plain_Int_eq (t0:Value)(w:World)(K:Ending→World→Prop):wpX prog 12 [] [] none (bodyOf Tryz.f46) (topQ prog [.tmp 2,.tmp 3] K) (startX [t0]) [] w=S_plain_Int t0 w K:=by kernel_rfl
theorem S_plain_Int_ok {t0:Value}{w:World}{K:Ending→World→Prop}(h:S_plain_Int t0 w K):Calls prog 46 #[t0] w K:=
 calls_of_wpX Tryz.func46 rfl rfl rfl rfl (Eq.mpr (S_plain_Int_eq t0 w K) h)
def S_plain_Real (t0:Value)(w:World)(K:Ending→World→Prop):Prop:=
 DoX prog (mBin .lss 2 t0 (.int .i64 (-1073741824))) w (pk K) fun t5 w=>
 GDo t5 false (fun E=>E t0 w) w fun t7 w=>
 GDo t5 false (fun E=>DoX prog (mBin .gtr 2 t7 (.int .i64 1073741824)) w (pk K) E) w fun t8 w=>
 DoX prog (mPick t5 (.bool true) t8) w (pk K) fun t9 w=>
 IfX t9 (K (.returned (.tuple #[(.string ⟨#[]⟩),(.int .i64 2)])) w) (CallX prog 241 #[t0] w (pk K) fun t11 w=>
 K (.returned (.tuple #[t11,(.int .i64 0)])) w)
theorem S_plain_Real_eq (t0:Value)(w:World)(K:Ending→World→Prop):wpX prog 12 [] [] none (bodyOf Tryz.f191) (topQ prog [.tmp 2,.tmp 3] K) (startX [t0]) [] w=S_plain_Real t0 w K:=by kernel_rfl
theorem S_plain_Real_ok {t0:Value}{w:World}{K:Ending→World→Prop}(h:S_plain_Real t0 w K):Calls prog 191 #[t0] w K:=
 calls_of_wpX Tryz.func191 rfl rfl rfl rfl (Eq.mpr (S_plain_Real_eq t0 w K) h)
def S_plain_String (t0:Value)(w:World)(K:Ending→World→Prop):Prop:=
 DoX prog (mB .len #[9] 3 #[false] #[t0]) w (pk K) fun t5 w=>
 DoX prog (mBin .gtr 3 t5 (.int .i64 32767)) w (pk K) fun t6 w=>
 IfX t6 (K (.returned (.tuple #[(.string ⟨#[]⟩),(.int .i64 5)])) w) (CallX prog 193 #[(.string ⟨#[40]⟩),t0,(.string ⟨#[41]⟩),(.func (.func 242) #[] #[])] w (pk K) fun t8 w=>
 K (.returned (.tuple #[t8,(.int .i64 0)])) w)
theorem S_plain_String_eq (t0:Value)(w:World)(K:Ending→World→Prop):wpX prog 9 [] [] none (bodyOf Tryz.f192) (topQ prog [.tmp 2,.tmp 3] K) (startX [t0]) [] w=S_plain_String t0 w K:=by kernel_rfl
theorem S_plain_String_ok {t0:Value}{w:World}{K:Ending→World→Prop}(h:S_plain_String t0 w K):Calls prog 192 #[t0] w K:=
 calls_of_wpX Tryz.func192 rfl rfl rfl rfl (Eq.mpr (S_plain_String_eq t0 w K) h)
def S_plain_Name (t0:Value)(w:World)(K:Ending→World→Prop):Prop:=
 DoX prog (mB .len #[9] 3 #[false] #[t0]) w (pk K) fun t6 w=>
 DoX prog (mBin .gtr 3 t6 (.int .i64 127)) w (pk K) fun t7 w=>
 IfX t7 (K (.returned (.tuple #[(.string ⟨#[]⟩),(.int .i64 5)])) w) (CallX prog 168 #[t0,(.int .u8 0)] w (pk K) fun t10 w=>
 DoX prog (mBin .geq 3 t10 (.int .i64 0)) w (pk K) fun t11 w=>
 IfX t11 (K (.returned (.tuple #[(.string ⟨#[]⟩),(.int .i64 3)])) w) (CallX prog 193 #[(.string ⟨#[47]⟩),t0,(.string ⟨#[]⟩),(.func (.func 194) #[] #[])] w (pk K) fun t13 w=>
 K (.returned (.tuple #[t13,(.int .i64 0)])) w))
theorem S_plain_Name_eq (t0:Value)(w:World)(K:Ending→World→Prop):wpX prog 14 [] [] none (bodyOf Tryz.f140) (topQ prog [.tmp 2,.tmp 3] K) (startX [t0]) [] w=S_plain_Name t0 w K:=by kernel_rfl
theorem S_plain_Name_ok {t0:Value}{w:World}{K:Ending→World→Prop}(h:S_plain_Name t0 w K):Calls prog 140 #[t0] w K:=
 calls_of_wpX Tryz.func140 rfl rfl rfl rfl (Eq.mpr (S_plain_Name_eq t0 w K) h)
def S_plain_Join_2 (t4 t9:Value)(w:World)(N1:List Value→World→Prop)(K:Ending→World→Prop):Prop:=
 DoX prog (mBin .add 3 t9 (.int .i64 1)) w (pk K) fun t34 w=>
 N1 [t4,t34] w
def S_plain_Join_1 (t3 t6:Value)(w:World)(J2:List Value→World→Prop)(K:Ending→World→Prop):Prop:=
 CallX prog 43 #[t3,t6] w (pk K) fun t28 w=>
 DoX prog (mB .len #[9] 3 #[false] #[t6]) w (pk K) fun t31 w=>
 DoX prog (mBin .sub 3 t31 (.int .i64 1)) w (pk K) fun t32 w=>
 DoX prog (mIx 9 t6 t32) w (pk K) fun t33 w=>
 J2 [t33] w
def S_plain_Join_0 (t3 t4 t7 t8 t9:Value)(w:World)(N1:List Value→World→Prop)(K:Ending→World→Prop):Prop:=
 DoX prog (mBin .lss 3 t9 t8) w (pk K) fun t10 w=>
 IfX t10 (JoinX (fun J2=>
 DoX prog (mIA 22 t7 t9) w (pk K) fun t11 w=>
 DoX prog (mLoad 9 t11) w (pk K) fun t12 w=>
 DoX prog (mEq .eql 9 (.tmp 13) (.const (.string ⟨#[]⟩)) t12 (.string ⟨#[]⟩)) w (pk K) fun t14 w=>
 IfX t14 (J2 [t4] w) (JoinX (fun J3=>
 CallX prog 83 #[t4] w (pk K) fun t16 w=>
 GDo t16 false (fun E=>E t4 w) w fun t18 w=>
 GDo t16 false (fun E=>DoX prog (mEq .eql 5 (.tmp 18) (.const (.int .u8 47)) t18 (.int .u8 47)) w (pk K) E) w fun t19 w=>
 DoX prog (mPick t16 (.bool true) t19) w (pk K) fun t20 w=>
 GDo t20 true (fun E=>E t12 w) w fun t22 w=>
 GDo t20 true (fun E=>DoX prog (mIx 9 t22 (.int .i64 0)) w (pk K) E) w fun t23 w=>
 GDo t20 true (fun E=>CallX prog 83 #[t23] w (pk K) E) w fun t24 w=>
 DoX prog (mPick t20 t24 (.bool false)) w (pk K) fun t25 w=>
 IfX t25 (CallX prog 84 #[t3,(.int .u8 32)] w (pk K) fun t26 w=>
 J3 [] w) (J3 [] w)) (fun vs3 w=>∀_:Sg,S_plain_Join_1 t3 t12 w J2 K))) (fun vs2 w=>∀_:Sg,S_plain_Join_2 (vs2.getD 0 undef) t9 w N1 K)) (CallX prog 51 #[t3] w (pk K) fun t35 w=>
 K (.returned t35) w)
def S_plain_Join (t0:Value)(w:World)(K:Ending→World→Prop):Prop:=
 DoX prog (mAlloc 78) w (pk K) fun t3 w=>
 DoX prog (mB .len #[22] 3 #[false] #[t0]) w (pk K) fun t8 w=>
 LoopX [(.int .u8 32),(.int .i64 0)] w (fun vs1 w N1=>∀_:Sg,S_plain_Join_0 t3 (vs1.getD 0 undef) t0 t8 (vs1.getD 1 undef) w N1 K)
theorem S_plain_Join_eq (t0:Value)(w:World)(K:Ending→World→Prop):wpX prog 36 [(9,[]),(11,[4])] [(4,[4,9])] none (bodyOf Tryz.f44) (topQ prog [.tmp 2] K) (startX [t0]) [] w=S_plain_Join t0 w K:=by kernel_rfl
theorem S_plain_Join_ok {t0:Value}{w:World}{K:Ending→World→Prop}(h:S_plain_Join t0 w K):Calls prog 44 #[t0] w K:=
 calls_of_wpX Tryz.func44 rfl rfl rfl rfl (Eq.mpr (S_plain_Join_eq t0 w K) h)
def S_plain_write_0 (t1 t2 t3 t9 t23 t24:Value)(w:World)(N1:List Value→World→Prop)(K:Ending→World→Prop):Prop:=
 DoX prog (mBin .lss 3 t24 t23) w (pk K) fun t25 w=>
 IfX t25 (DoX prog (mIx 9 t1 t24) w (pk K) fun t30 w=>
 DoX prog (mCallV t3 #[t9,t30]) w (pk K) fun t31 w=>
 DoX prog (mBin .add 3 t24 (.int .i64 1)) w (pk K) fun t32 w=>
 N1 [t32] w) (CallX prog 43 #[t9,t2] w (pk K) fun t34 w=>
 CallX prog 51 #[t9] w (pk K) fun t35 w=>
 K (.returned t35) w)
def S_plain_write (t0 t1 t2 t3:Value)(w:World)(K:Ending→World→Prop):Prop:=
 DoX prog (mAlloc 78) w (pk K) fun t9 w=>
 DoX prog (mB .len #[9] 3 #[false] #[t0]) w (pk K) fun t12 w=>
 DoX prog (mB .len #[9] 3 #[false] #[t1]) w (pk K) fun t14 w=>
 DoX prog (mBin .add 3 t12 t14) w (pk K) fun t15 w=>
 DoX prog (mB .len #[9] 3 #[false] #[t2]) w (pk K) fun t17 w=>
 DoX prog (mBin .add 3 t15 t17) w (pk K) fun t18 w=>
 CallX prog 243 #[t9,t18] w (pk K) fun t19 w=>
 CallX prog 43 #[t9,t0] w (pk K) fun t21 w=>
 DoX prog (mB .len #[9] 3 #[false] #[t1]) w (pk K) fun t23 w=>
 LoopX [(.int .i64 0)] w (fun vs1 w N1=>∀_:Sg,S_plain_write_0 t1 t2 t3 t9 t23 (vs1.getD 0 undef) w N1 K)
theorem S_plain_write_eq (t0 t1 t2 t3:Value)(w:World)(K:Ending→World→Prop):wpX prog 36 [] [(5,[24])] none (bodyOf Tryz.f193) (topQ prog [.tmp 8] K) (startX [t0,t1,t2,t3]) [] w=S_plain_write t0 t1 t2 t3 w K:=by kernel_rfl
theorem S_plain_write_ok {t0 t1 t2 t3:Value}{w:World}{K:Ending→World→Prop}(h:S_plain_write t0 t1 t2 t3 w K):Calls prog 193 #[t0,t1,t2,t3] w K:=
 calls_of_wpX Tryz.func193 rfl rfl rfl rfl (Eq.mpr (S_plain_write_eq t0 t1 t2 t3 w K) h)
def S_plain_String_1_0 (t0 t1 t34 t35:Value)(w:World)(N1:List Value→World→Prop)(K:Ending→World→Prop):Prop:=
 DoX prog (mBin .lss 3 t35 (.int .i64 3)) w (pk K) fun t36 w=>
 IfX t36 (DoX prog (mIx 219 t34 t35) w (pk K) fun t37 w=>
 DoX prog (mBin .quo 5 t1 t37) w (pk K) fun t41 w=>
 DoX prog (mBin .rem 5 t41 (.int .u8 8)) w (pk K) fun t42 w=>
 DoX prog (mBin .add 5 (.int .u8 48) t42) w (pk K) fun t43 w=>
 CallX prog 84 #[t0,t43] w (pk K) fun t44 w=>
 DoX prog (mBin .add 3 t35 (.int .i64 1)) w (pk K) fun t45 w=>
 N1 [t45] w) (K (.returned (.tuple #[])) w)
def S_plain_String_1 (t0 t1:Value)(w:World)(K:Ending→World→Prop):Prop:=
 DoX prog (mEq .eql 5 (.tmp 10) (.const (.int .u8 40)) t1 (.int .u8 40)) w (pk K) fun t11 w=>
 GDo t11 false (fun E=>E t1 w) w fun t13 w=>
 GDo t11 false (fun E=>DoX prog (mEq .eql 5 (.tmp 13) (.const (.int .u8 41)) t13 (.int .u8 41)) w (pk K) E) w fun t14 w=>
 DoX prog (mPick t11 (.bool true) t14) w (pk K) fun t15 w=>
 GDo t15 false (fun E=>E t1 w) w fun t17 w=>
 GDo t15 false (fun E=>DoX prog (mEq .eql 5 (.tmp 17) (.const (.int .u8 92)) t17 (.int .u8 92)) w (pk K) E) w fun t18 w=>
 DoX prog (mPick t15 (.bool true) t18) w (pk K) fun t19 w=>
 IfX t19 (CallX prog 84 #[t0,(.int .u8 92)] w (pk K) fun t21 w=>
 CallX prog 84 #[t0,t1] w (pk K) fun t24 w=>
 K (.returned (.tuple #[])) w) (DoX prog (mBin .lss 5 t1 (.int .u8 32)) w (pk K) fun t27 w=>
 GDo t27 false (fun E=>E t1 w) w fun t29 w=>
 GDo t27 false (fun E=>DoX prog (mBin .gtr 5 t29 (.int .u8 126)) w (pk K) E) w fun t30 w=>
 DoX prog (mPick t27 (.bool true) t30) w (pk K) fun t31 w=>
 IfX t31 (CallX prog 84 #[t0,(.int .u8 92)] w (pk K) fun t33 w=>
 DoX prog (mBuild 219 #[(0,(.int .u8 64)),(1,(.int .u8 8)),(2,(.int .u8 1))]) w (pk K) fun t34 w=>
 LoopX [(.int .i64 0)] w (fun vs1 w N1=>∀_:Sg,S_plain_String_1_0 t0 t1 t34 (vs1.getD 0 undef) w N1 K)) (CallX prog 84 #[t0,t1] w (pk K) fun t8 w=>
 K (.returned (.tuple #[])) w))
theorem S_plain_String_1_eq (t0 t1:Value)(w:World)(K:Ending→World→Prop):wpX prog 46 [] [(7,[35])] none (bodyOf Tryz.f242) (topQ prog [] K) (startX [t0,t1]) [] w=S_plain_String_1 t0 t1 w K:=by kernel_rfl
theorem S_plain_String_1_ok {t0 t1:Value}{w:World}{K:Ending→World→Prop}(h:S_plain_String_1 t0 t1 w K):Calls prog 242 #[t0,t1] w K:=
 calls_of_wpX Tryz.func242 rfl rfl rfl rfl (Eq.mpr (S_plain_String_1_eq t0 t1 w K) h)
def S_plain_Name_1 (t0 t1:Value)(w:World)(K:Ending→World→Prop):Prop:=
 DoX prog (mBin .gtr 5 t1 (.int .u8 32)) w (pk K) fun t5 w=>
 GDo t5 true (fun E=>E t1 w) w fun t7 w=>
 GDo t5 true (fun E=>DoX prog (mBin .leq 5 t7 (.int .u8 126)) w (pk K) E) w fun t8 w=>
 DoX prog (mPick t5 t8 (.bool false)) w (pk K) fun t9 w=>
 GDo t9 true (fun E=>E t1 w) w fun t11 w=>
 GDo t9 true (fun E=>DoX prog (mEq .neq 5 (.tmp 11) (.const (.int .u8 35)) t11 (.int .u8 35)) w (pk K) E) w fun t12 w=>
 DoX prog (mPick t9 t12 (.bool false)) w (pk K) fun t13 w=>
 GDo t13 true (fun E=>E t1 w) w fun t15 w=>
 GDo t13 true (fun E=>CallX prog 128 #[t15] w (pk K) E) w fun t16 w=>
 GDo t13 true (fun E=>DoX prog (mUn .not t16) w (pk K) E) w fun t17 w=>
 DoX prog (mPick t13 t17 (.bool false)) w (pk K) fun t18 w=>
 IfX t18 (CallX prog 84 #[t0,t1] w (pk K) fun t21 w=>
 K (.returned (.tuple #[])) w) (DoX prog (mBuildS 76 1 #[(0,t1)]) w (pk K) fun t24 w=>
 DoX prog (mConv 76 9 t24) w (pk K) fun t25 w=>
 CallX prog 195 #[t25] w (pk K) fun t26 w=>
 DoX prog (mBin .add 9 (.string ⟨#[35]⟩) t26) w (pk K) fun t27 w=>
 CallX prog 43 #[t0,t27] w (pk K) fun t28 w=>
 K (.returned (.tuple #[])) w)
theorem S_plain_Name_1_eq (t0 t1:Value)(w:World)(K:Ending→World→Prop):wpX prog 29 [] [] none (bodyOf Tryz.f194) (topQ prog [] K) (startX [t0,t1]) [] w=S_plain_Name_1 t0 t1 w K:=by kernel_rfl
theorem S_plain_Name_1_ok {t0 t1:Value}{w:World}{K:Ending→World→Prop}(h:S_plain_Name_1 t0 t1 w K):Calls prog 194 #[t0,t1] w K:=
 calls_of_wpX Tryz.func194 rfl rfl rfl rfl (Eq.mpr (S_plain_Name_1_eq t0 t1 w K) h)
def S_octet_Hex_0 (t0 t3 t10 t11:Value)(w:World)(N1:List Value→World→Prop)(K:Ending→World→Prop):Prop:=
 DoX prog (mBin .lss 3 t11 t10) w (pk K) fun t12 w=>
 IfX t12 (QuietX w (fun C2=>
 QDo prog C2 (mIx 9 t0 t11) fun t17=>
 QDo prog C2 (mBin .shr 5 t17 (.int .u64 4)) fun t18=>
 QDo prog C2 (mIx 9 (.string ⟨#[48,49,50,51,52,53,54,55,56,57,65,66,67,68,69,70]⟩) t18) fun t19=>
 QDo prog C2 (mIx 9 t0 t11) fun t22=>
 QDo prog C2 (mBin .and 5 t22 (.int .u8 15)) fun t23=>
 QDo prog C2 (mIx 9 (.string ⟨#[48,49,50,51,52,53,54,55,56,57,65,66,67,68,69,70]⟩) t23) fun t24=>
 ∀w,C2 w →
 DoX prog (mBuildS 76 2 #[(0,t19),(1,t24)]) w (pm1 (pm1 (pm1 (pm1 (pm1 (pk K)))))) fun t25 w=>
 DoX prog (mB .append #[76,76] 76 #[false,false] #[t3,t25]) w (pm1 (pm1 (pm1 (pm1 (pm1 (pk K)))))) fun t26 w=>
 DoX prog (mBin .add 3 t11 (.int .i64 1)) w (pk K) fun t27 w=>
 N1 [t26,t27] w)) (DoX prog (mConv 76 9 t3) w (pk K) fun t29 w=>
 K (.returned t29) w)
def S_octet_Hex (t0:Value)(w:World)(K:Ending→World→Prop):Prop:=
 DoX prog (mB .len #[9] 3 #[false] #[t0]) w (pk K) fun t6 w=>
 DoX prog (mBin .mul 3 (.int .i64 2) t6) w (pk K) fun t7 w=>
 DoX prog (mMake 76 (.int .i64 0) t7) w (pk K) fun t8 w=>
 DoX prog (mB .len #[9] 3 #[false] #[t0]) w (pk K) fun t10 w=>
 LoopX [t8,(.int .i64 0)] w (fun vs1 w N1=>∀_:Sg,S_octet_Hex_0 t0 (vs1.getD 0 undef) t10 (vs1.getD 1 undef) w N1 K)
theorem S_octet_Hex_eq (t0:Value)(w:World)(K:Ending→World→Prop):wpX prog 30 [] [(3,[3,11])] none (bodyOf Tryz.f195) (topQ prog [.tmp 2] K) (startX [t0]) [] w=S_octet_Hex t0 w K:=by kernel_rfl
theorem S_octet_Hex_ok {t0:Value}{w:World}{K:Ending→World→Prop}(h:S_octet_Hex t0 w K):Calls prog 195 #[t0] w K:=
 calls_of_wpX Tryz.func195 rfl rfl rfl rfl (Eq.mpr (S_octet_Hex_eq t0 w K) h)
def S_octet_Delim (t0:Value)(w:World)(K:Ending→World→Prop):Prop:=
 CallX prog 168 #[(.string ⟨#[40,41,60,62,91,93,123,125,47,37]⟩),t0] w (pk K) fun t4 w=>
 DoX prog (mBin .geq 3 t4 (.int .i64 0)) w (pk K) fun t5 w=>
 K (.returned t5) w
theorem S_octet_Delim_eq (t0:Value)(w:World)(K:Ending→World→Prop):wpX prog 6 [] [] none (bodyOf Tryz.f128) (topQ prog [.tmp 2] K) (startX [t0]) [] w=S_octet_Delim t0 w K:=by kernel_rfl
theorem S_octet_Delim_ok {t0:Value}{w:World}{K:Ending→World→Prop}(h:S_octet_Delim t0 w K):Calls prog 128 #[t0] w K:=
 calls_of_wpX Tryz.func128 rfl rfl rfl rfl (Eq.mpr (S_octet_Delim_eq t0 w K) h)
def S_octet_Regular (t0:Value)(w:World)(K:Ending→World→Prop):Prop:=
 CallX prog 114 #[t0] w (pk K) fun t4 w=>
 DoX prog (mUn .not t4) w (pk K) fun t5 w=>
 GDo t5 true (fun E=>E t0 w) w fun t7 w=>
 GDo t5 true (fun E=>CallX prog 128 #[t7] w (pk K) E) w fun t8 w=>
 GDo t5 true (fun E=>DoX prog (mUn .not t8) w (pk K) E) w fun t9 w=>
 DoX prog (mPick t5 t9 (.bool false)) w (pk K) fun t10 w=>
 K (.returned t10) w
theorem S_octet_Regular_eq (t0:Value)(w:World)(K:Ending→World→Prop):wpX prog 11 [] [] none (bodyOf Tryz.f83) (topQ prog [.tmp 2] K) (startX [t0]) [] w=S_octet_Regular t0 w K:=by kernel_rfl
theorem S_octet_Regular_ok {t0:Value}{w:World}{K:Ending→World→Prop}(h:S_octet_Regular t0 w K):Calls prog 83 #[t0] w K:=
 calls_of_wpX Tryz.func83 rfl rfl rfl rfl (Eq.mpr (S_octet_Regular_eq t0 w K) h)
def S_octet_White (t0:Value)(w:World)(K:Ending→World→Prop):Prop:=
 CallX prog 168 #[(.string ⟨#[0,9,10,12,13,32]⟩),t0] w (pk K) fun t4 w=>
 DoX prog (mBin .geq 3 t4 (.int .i64 0)) w (pk K) fun t5 w=>
 K (.returned t5) w
theorem S_octet_White_eq (t0:Value)(w:World)(K:Ending→World→Prop):wpX prog 6 [] [] none (bodyOf Tryz.f114) (topQ prog [.tmp 2] K) (startX [t0]) [] w=S_octet_White t0 w K:=by kernel_rfl
theorem S_octet_White_ok {t0:Value}{w:World}{K:Ending→World→Prop}(h:S_octet_White t0 w K):Calls prog 114 #[t0] w K:=
 calls_of_wpX Tryz.func114 rfl rfl rfl rfl (Eq.mpr (S_octet_White_eq t0 w K) h)
end
section
open Eng
def S_fix_face (t0 t1 r:Value)(w:World)(K:Ending→World→Prop):Prop:=
 DoX prog (mEq .eql 20 (.tmp 7) (.const .nilIface) r .nilIface) w (pk K) fun t9 w=>
 IfX t9 (K (.returned (.tuple #[])) w) (DoX prog (mTA r 20 210 true) w (pk K) fun t10 w=>
 DoX prog (mExt t10 1) w (pk K) fun t11 w=>
 DoX prog (mExt t10 0) w (pk K) fun t12 w=>
 IfX t11 (DoX prog (mNil t0) w (pk K) fun t16 w=>
 DoX prog (mStore 2 t16 (.int .i64 0)) w (pk K) fun _ w=>
 DoX prog (mNil t1) w (pk K) fun t17 w=>
 DoX prog (mStore 30 t17 t12) w (pk K) fun _ w=>
 K (.returned (.tuple #[])) w) (DoX prog (mPanic r) w (pk K) fun _ w=>
 K (.returned (.tuple #[])) w))
theorem S_fix_face_eq (t0 t1 r:Value)(w:World)(K:Ending→World→Prop):wpX prog 18 [] [] none (sndOf (bodyOf Tryz.f174)) (topD prog [] K) (upd (startX [t0,t1]) 7 r) [] w=S_fix_face t0 t1 r w K:=by kernel_rfl
theorem S_fix_face_dok {t0 t1:Value}{u:FrameMode}{w:World}{R:Ending→FrameMode→World→Prop}(h:S_fix_face t0 t1 (recV u) w (fun e w=>R e (recM u) w)):CallsD prog 174 #[t0,t1] u w R:=
 callsD_recover Tryz.func174 rfl rfl rfl rfl rfl rfl rfl rfl (Eq.mpr (S_fix_face_eq t0 t1 (recV u) w _) h)
def S_fix_within (t0:Value)(w:World)(K:Ending→World→Prop):Prop:=
 DoX prog (mBin .geq 2 t0 (.int .i64 (-1073741824))) w (pk K) fun t4 w=>
 GDo t4 true (fun E=>E t0 w) w fun t6 w=>
 GDo t4 true (fun E=>DoX prog (mBin .leq 2 t6 (.int .i64 1073741824)) w (pk K) E) w fun t7 w=>
 DoX prog (mPick t4 t7 (.bool false)) w (pk K) fun t8 w=>
 K (.returned t8) w
theorem S_fix_within_eq (t0:Value)(w:World)(K:Ending→World→Prop):wpX prog 9 [] [] none (bodyOf Tryz.f232) (topQ prog [.tmp 2] K) (startX [t0]) [] w=S_fix_within t0 w K:=by kernel_rfl
theorem S_fix_within_ok {t0:Value}{w:World}{K:Ending→World→Prop}(h:S_fix_within t0 w K):Calls prog 232 #[t0] w K:=
 calls_of_wpX Tryz.func232 rfl rfl rfl rfl (Eq.mpr (S_fix_within_eq t0 w K) h)
def S_fix_bounded_1 (t6:Value)(w:World)(N1:List Value→World→Prop)(K:Ending→World→Prop):Prop:=
 DoX prog (mBin .add 3 t6 (.int .i64 1)) w (pk K) fun t14 w=>
 N1 [t14] w
def S_fix_bounded_0 (t4 t5 t6:Value)(w:World)(N1:List Value→World→Prop)(K:Ending→World→Prop):Prop:=
 DoX prog (mBin .lss 3 t6 t5) w (pk K) fun t7 w=>
 IfX t7 (JoinX (fun J2=>
 DoX prog (mIA 211 t4 t6) w (pk K) fun t8 w=>
 DoX prog (mLoad 2 t8) w (pk K) fun t9 w=>
 CallX prog 232 #[t9] w (pk K) fun t11 w=>
 DoX prog (mUn .not t11) w (pk K) fun t12 w=>
 IfX t12 (DoX prog (mIface 210 (.int .i64 2)) w (pk K) fun t13 w=>
 DoX prog (mPanic t13) w (pk K) fun _ w=>
 J2 [] w) (J2 [] w)) (fun vs2 w=>∀_:Sg,S_fix_bounded_1 t6 w N1 K)) (K (.returned (.tuple #[])) w)
def S_fix_bounded (t0:Value)(w:World)(K:Ending→World→Prop):Prop:=
 DoX prog (mB .len #[211] 3 #[false] #[t0]) w (pk K) fun t5 w=>
 LoopX [(.int .i64 0)] w (fun vs1 w N1=>∀_:Sg,S_fix_bounded_0 t0 t5 (vs1.getD 0 undef) w N1 K)
theorem S_fix_bounded_eq (t0:Value)(w:World)(K:Ending→World→Prop):wpX prog 15 [(5,[])] [(1,[6])] none (bodyOf Tryz.f178) (topQ prog [] K) (startX [t0]) [] w=S_fix_bounded t0 w K:=by kernel_rfl
theorem S_fix_bounded_ok {t0:Value}{w:World}{K:Ending→World→Prop}(h:S_fix_bounded t0 w K):Calls prog 178 #[t0] w K:=
 calls_of_wpX Tryz.func178 rfl rfl rfl rfl (Eq.mpr (S_fix_bounded_eq t0 w K) h)
def S_fix_row_0 (t0 t1 t5:Value)(w:World)(N1:List Value→World→Prop)(K:Ending→World→Prop):Prop:=
 DoX prog (mBin .gtr 2 t0 (.int .i64 0)) w (pk K) fun t7 w=>
 GDo t7 false (fun E=>E t5 w) w fun t9 w=>
 GDo t7 false (fun E=>DoX prog (mB .len #[9] 3 #[false] #[t9]) w (pk K) E) w fun t10 w=>
 GDo t7 false (fun E=>E t1 w) w fun t11 w=>
 GDo t7 false (fun E=>DoX prog (mBin .lss 3 t10 t11) w (pk K) E) w fun t12 w=>
 DoX prog (mPick t7 (.bool true) t12) w (pk K) fun t13 w=>
 IfX t13 (DoX prog (mBin .rem 2 t0 (.int .i64 10)) w (pk K) fun t15 w=>
 DoX prog (mBin .add 2 (.int .i64 48) t15) w (pk K) fun t16 w=>
 DoX prog (mConv 2 5 t16) w (pk K) fun t17 w=>
 DoX prog (mBuildS 76 1 #[(0,t17)]) w (pk K) fun t18 w=>
 DoX prog (mConv 76 9 t18) w (pk K) fun t19 w=>
 DoX prog (mBin .add 9 t19 t5) w (pk K) fun t21 w=>
 DoX prog (mBin .quo 2 t0 (.int .i64 10)) w (pk K) fun t23 w=>
 N1 [t23,t21] w) (K (.returned t5) w)
def S_fix_row (t0 t1:Value)(w:World)(K:Ending→World→Prop):Prop:=
 LoopX [t0,(.string ⟨#[]⟩)] w (fun vs1 w N1=>∀_:Sg,S_fix_row_0 (vs1.getD 0 undef) t1 (vs1.getD 1 undef) w N1 K)
theorem S_fix_row_eq (t0 t1:Value)(w:World)(K:Ending→World→Prop):wpX prog 25 [] [(2,[0,5])] none (bodyOf Tryz.f262) (topQ prog [.tmp 4] K) (startX [t0,t1]) [] w=S_fix_row t0 t1 w K:=by kernel_rfl
theorem S_fix_row_ok {t0 t1:Value}{w:World}{K:Ending→World→Prop}(h:S_fix_row t0 t1 w K):Calls prog 262 #[t0,t1] w K:=
 calls_of_wpX Tryz.func262 rfl rfl rfl rfl (Eq.mpr (S_fix_row_eq t0 t1 w K) h)
def S_fix_Text_1 (t3 t4 t5:Value)(w:World)(K:Ending→World→Prop):Prop:=
 DoX prog (mBin .add 9 t3 t4) w (pk K) fun t24 w=>
 DoX prog (mBin .add 9 t24 (.string ⟨#[46]⟩)) w (pk K) fun t25 w=>
 DoX prog (mBin .add 9 t25 t5) w (pk K) fun t27 w=>
 K (.returned t27) w
def S_fix_Text_0 (t0 t3:Value)(w:World)(K:Ending→World→Prop):Prop:=
 DoX prog (mBin .quo 2 t0 (.int .i64 10000)) w (pk K) fun t14 w=>
 CallX prog 262 #[t14,(.int .i64 1)] w (pk K) fun t15 w=>
 DoX prog (mBin .rem 2 t0 (.int .i64 10000)) w (pk K) fun t17 w=>
 CallX prog 262 #[t17,(.int .i64 4)] w (pk K) fun t18 w=>
 CallX prog 177 #[t18,(.string ⟨#[48]⟩)] w (pk K) fun t19 w=>
 JoinX (fun J2=>
 DoX prog (mEq .eql 9 (.tmp 20) (.const (.string ⟨#[]⟩)) t19 (.string ⟨#[]⟩)) w (pk K) fun t21 w=>
 IfX t21 (J2 [(.string ⟨#[48]⟩)] w) (J2 [t19] w)) (fun vs2 w=>∀_:Sg,S_fix_Text_1 t3 t15 (vs2.getD 0 undef) w K)
def S_fix_Text (t0:Value)(w:World)(K:Ending→World→Prop):Prop:=
 CallX prog 232 #[t0] w (pk K) fun t7 w=>
 DoX prog (mUn .not t7) w (pk K) fun t8 w=>
 IfX t8 (K (.returned (.string ⟨#[]⟩)) w) (JoinX (fun J1=>
 DoX prog (mBin .lss 2 t0 (.int .i64 0)) w (pk K) fun t10 w=>
 IfX t10 (DoX prog (mUn .neg t0) w (pk K) fun t12 w=>
 J1 [t12,(.string ⟨#[45]⟩)] w) (J1 [t0,(.string ⟨#[]⟩)] w)) (fun vs1 w=>∀_:Sg,S_fix_Text_0 (vs1.getD 0 undef) (vs1.getD 1 undef) w K))
theorem S_fix_Text_eq (t0:Value)(w:World)(K:Ending→World→Prop):wpX prog 28 [(6,[0,3]),(10,[5])] [] none (bodyOf Tryz.f241) (topQ prog [.tmp 2] K) (startX [t0]) [] w=S_fix_Text t0 w K:=by kernel_rfl
theorem S_fix_Text_ok {t0:Value}{w:World}{K:Ending→World→Prop}(h:S_fix_Text t0 w K):Calls prog 241 #[t0] w K:=
 calls_of_wpX Tryz.func241 rfl rfl rfl rfl (Eq.mpr (S_fix_Text_eq t0 w K) h)
def S_fix_digits (t0:Value)(w:World)(K:Ending→World→Prop):Prop:=
 CallX prog 172 #[t0,(.string ⟨#[48,49,50,51,52,53,54,55,56,57]⟩)] w (pk K) fun t4 w=>
 DoX prog (mEq .eql 9 (.tmp 4) (.const (.string ⟨#[]⟩)) t4 (.string ⟨#[]⟩)) w (pk K) fun t5 w=>
 K (.returned t5) w
theorem S_fix_digits_eq (t0:Value)(w:World)(K:Ending→World→Prop):wpX prog 6 [] [] none (bodyOf Tryz.f176) (topQ prog [.tmp 2] K) (startX [t0]) [] w=S_fix_digits t0 w K:=by kernel_rfl
theorem S_fix_digits_ok {t0:Value}{w:World}{K:Ending→World→Prop}(h:S_fix_digits t0 w K):Calls prog 176 #[t0] w K:=
 calls_of_wpX Tryz.func176 rfl rfl rfl rfl (Eq.mpr (S_fix_digits_eq t0 w K) h)
def S_fix_Read_p0 (x0:Value)(x1:Value)(K:Ending→World→Prop):=pd prog [.cell x0 2,.cell x1 30] K [{ target:=.fn (.func 174) #[],args:=#[x0,x1] }]
def S_fix_Read_4 (t2 t3:Value)(w:World)(K:Ending→World→Prop):Prop:=
 DoX prog (mLoad 2 t2) w (S_fix_Read_p0 t2 t3 K) fun t93 w=>
 DoX prog (mBuildS 211 1 #[(0,t93)]) w (S_fix_Read_p0 t2 t3 K) fun t94 w=>
 CallX prog 178 #[t94] w (S_fix_Read_p0 t2 t3 K) fun t95 w=>
 DoX prog (mLoad 2 t2) w (S_fix_Read_p0 t2 t3 K) fun t96 w=>
 DoX prog (mStore 2 t2 t96) w (S_fix_Read_p0 t2 t3 K) fun _ w=>
 DoX prog (mStore 30 t3 (.int .i64 0)) w (S_fix_Read_p0 t2 t3 K) fun _ w=>
 Leave prog [.cell t2 2,.cell t3 30] K [{ target:=.fn (.func 174) #[],args:=#[t2,t3] }] .returning w
def S_fix_Read_3 (t2 t3 t4:Value)(w:World)(K:Ending→World→Prop):Prop:=
 JoinX (fun J5=>
 IfX t4 (DoX prog (mLoad 2 t2) w (S_fix_Read_p0 t2 t3 K) fun t91 w=>
 DoX prog (mUn .neg t91) w (S_fix_Read_p0 t2 t3 K) fun t92 w=>
 DoX prog (mStore 2 t2 t92) w (S_fix_Read_p0 t2 t3 K) fun _ w=>
 AtX [{ target:=.fn (.func 174) #[],args:=#[t2,t3] }] [{ target:=.fn (.func 174) #[],args:=#[t2,t3] }] (J5 [] w)) (AtX [{ target:=.fn (.func 174) #[],args:=#[t2,t3] }] [{ target:=.fn (.func 174) #[],args:=#[t2,t3] }] (J5 [] w))) (fun vs5 w=>∀_:Sg,S_fix_Read_4 t2 t3 w K)
def S_fix_Read_2 (t2 t3 t4 t6 t62:Value)(w:World)(N3:List Value→World→Prop)(K:Ending→World→Prop):Prop:=
 DoX prog (mNext t62 true 0) w (S_fix_Read_p0 t2 t3 K) fun t63 w=>
 DoX prog (mExt t63 0) w (S_fix_Read_p0 t2 t3 K) fun t64 w=>
 IfX t64 (DoX prog (mExt t63 2) w (S_fix_Read_p0 t2 t3 K) fun t65 w=>
 DoX prog (mLoad 2 t2) w (S_fix_Read_p0 t2 t3 K) fun t66 w=>
 DoX prog (mBin .mul 2 (.int .i64 10) t66) w (S_fix_Read_p0 t2 t3 K) fun t67 w=>
 DoX prog (mBin .sub 21 t65 (.int .i32 48)) w (S_fix_Read_p0 t2 t3 K) fun t69 w=>
 DoX prog (mConv 21 2 t69) w (S_fix_Read_p0 t2 t3 K) fun t70 w=>
 DoX prog (mBin .add 2 t67 t70) w (S_fix_Read_p0 t2 t3 K) fun t71 w=>
 DoX prog (mStore 2 t2 t71) w (S_fix_Read_p0 t2 t3 K) fun _ w=>
 AtX [{ target:=.fn (.func 174) #[],args:=#[t2,t3] }] [{ target:=.fn (.func 174) #[],args:=#[t2,t3] }] (N3 [] w)) (DoX prog (mSlice 9 t6 (some (.int .i64 4)) none none) w (S_fix_Read_p0 t2 t3 K) fun t73 w=>
 CallX prog 177 #[t73,(.string ⟨#[48]⟩)] w (S_fix_Read_p0 t2 t3 K) fun t74 w=>
 JoinX (fun J4=>
 GDo t4 true (fun E=>E t74 w) w fun t77 w=>
 GDo t4 true (fun E=>DoX prog (mBin .gtr 9 t77 (.string ⟨#[53]⟩)) w (S_fix_Read_p0 t2 t3 K) E) w fun t78 w=>
 DoX prog (mPick t4 t78 (.bool false)) w (S_fix_Read_p0 t2 t3 K) fun t79 w=>
 GDo t79 false (fun E=>E t4 w) w fun t81 w=>
 GDo t79 false (fun E=>DoX prog (mUn .not t81) w (S_fix_Read_p0 t2 t3 K) E) w fun t82 w=>
 GDo t79 false (fun E=>E t82 w) w fun t83 w=>
 GDo t83 true (fun E=>E t74 w) w fun t84 w=>
 GDo t83 true (fun E=>DoX prog (mBin .geq 9 t84 (.string ⟨#[53]⟩)) w (S_fix_Read_p0 t2 t3 K) E) w fun t85 w=>
 GDo t79 false (fun E=>DoX prog (mPick t83 t85 (.bool false)) w (S_fix_Read_p0 t2 t3 K) E) w fun t86 w=>
 DoX prog (mPick t79 (.bool true) t86) w (S_fix_Read_p0 t2 t3 K) fun t87 w=>
 IfX t87 (DoX prog (mLoad 2 t2) w (S_fix_Read_p0 t2 t3 K) fun t88 w=>
 DoX prog (mBin .add 2 t88 (.int .i64 1)) w (S_fix_Read_p0 t2 t3 K) fun t89 w=>
 DoX prog (mStore 2 t2 t89) w (S_fix_Read_p0 t2 t3 K) fun _ w=>
 AtX [{ target:=.fn (.func 174) #[],args:=#[t2,t3] }] [{ target:=.fn (.func 174) #[],args:=#[t2,t3] }] (J4 [] w)) (AtX [{ target:=.fn (.func 174) #[],args:=#[t2,t3] }] [{ target:=.fn (.func 174) #[],args:=#[t2,t3] }] (J4 [] w))) (fun vs4 w=>∀_:Sg,S_fix_Read_3 t2 t3 t4 w K))
def S_fix_Read_1 (t2 t3 t4 t6 t46:Value)(w:World)(N2:List Value→World→Prop)(K:Ending→World→Prop):Prop:=
 DoX prog (mNext t46 true 0) w (S_fix_Read_p0 t2 t3 K) fun t47 w=>
 DoX prog (mExt t47 0) w (S_fix_Read_p0 t2 t3 K) fun t48 w=>
 IfX t48 (DoX prog (mExt t47 2) w (S_fix_Read_p0 t2 t3 K) fun t49 w=>
 DoX prog (mLoad 2 t2) w (S_fix_Read_p0 t2 t3 K) fun t50 w=>
 DoX prog (mBin .mul 2 (.int .i64 10) t50) w (S_fix_Read_p0 t2 t3 K) fun t51 w=>
 DoX prog (mBin .sub 21 t49 (.int .i32 48)) w (S_fix_Read_p0 t2 t3 K) fun t53 w=>
 DoX prog (mConv 21 2 t53) w (S_fix_Read_p0 t2 t3 K) fun t54 w=>
 DoX prog (mBin .add 2 t51 t54) w (S_fix_Read_p0 t2 t3 K) fun t55 w=>
 DoX prog (mStore 2 t2 t55) w (S_fix_Read_p0 t2 t3 K) fun _ w=>
 DoX prog (mLoad 2 t2) w (S_fix_Read_p0 t2 t3 K) fun t56 w=>
 DoX prog (mBin .gtr 2 t56 (.int .i64 1073741824)) w (S_fix_Read_p0 t2 t3 K) fun t57 w=>
 IfX t57 (DoX prog (mStore 2 t2 (.int .i64 0)) w (S_fix_Read_p0 t2 t3 K) fun _ w=>
 DoX prog (mStore 30 t3 (.int .i64 2)) w (S_fix_Read_p0 t2 t3 K) fun _ w=>
 Leave prog [.cell t2 2,.cell t3 30] K [{ target:=.fn (.func 174) #[],args:=#[t2,t3] }] .returning w) (AtX [{ target:=.fn (.func 174) #[],args:=#[t2,t3] }] [{ target:=.fn (.func 174) #[],args:=#[t2,t3] }] (N2 [] w))) (DoX prog (mBin .add 9 t6 (.string ⟨#[48,48,48,48,48]⟩)) w (S_fix_Read_p0 t2 t3 K) fun t59 w=>
 DoX prog (mSlice 9 t59 none (some (.int .i64 4)) none) w (S_fix_Read_p0 t2 t3 K) fun t61 w=>
 DoX prog (mRange 9 t61) w (S_fix_Read_p0 t2 t3 K) fun t62 w=>
 LoopX [] w (fun vs3 w N3=>∀_:Sg,S_fix_Read_2 t2 t3 t4 t59 t62 w N3 K))
def S_fix_Read_0 (t0 t2 t3 t4:Value)(w:World)(K:Ending→World→Prop):Prop:=
 CallX prog 175 #[t0,(.string ⟨#[46]⟩)] w (S_fix_Read_p0 t2 t3 K) fun t27 w=>
 DoX prog (mExt t27 0) w (S_fix_Read_p0 t2 t3 K) fun t28 w=>
 DoX prog (mExt t27 1) w (S_fix_Read_p0 t2 t3 K) fun t29 w=>
 DoX prog (mExt t27 2) w (S_fix_Read_p0 t2 t3 K) fun t30 w=>
 DoX prog (mBin .add 9 t28 t29) w (S_fix_Read_p0 t2 t3 K) fun t33 w=>
 DoX prog (mEq .eql 9 (.tmp 33) (.const (.string ⟨#[]⟩)) t33 (.string ⟨#[]⟩)) w (S_fix_Read_p0 t2 t3 K) fun t34 w=>
 GDo t34 false (fun E=>E t28 w) w fun t36 w=>
 GDo t34 false (fun E=>CallX prog 176 #[t36] w (S_fix_Read_p0 t2 t3 K) E) w fun t37 w=>
 GDo t34 false (fun E=>DoX prog (mUn .not t37) w (S_fix_Read_p0 t2 t3 K) E) w fun t38 w=>
 DoX prog (mPick t34 (.bool true) t38) w (S_fix_Read_p0 t2 t3 K) fun t39 w=>
 GDo t39 false (fun E=>E t29 w) w fun t41 w=>
 GDo t39 false (fun E=>CallX prog 176 #[t41] w (S_fix_Read_p0 t2 t3 K) E) w fun t42 w=>
 GDo t39 false (fun E=>DoX prog (mUn .not t42) w (S_fix_Read_p0 t2 t3 K) E) w fun t43 w=>
 DoX prog (mPick t39 (.bool true) t43) w (S_fix_Read_p0 t2 t3 K) fun t44 w=>
 IfX t44 (DoX prog (mStore 2 t2 (.int .i64 0)) w (S_fix_Read_p0 t2 t3 K) fun _ w=>
 DoX prog (mStore 30 t3 (.int .i64 3)) w (S_fix_Read_p0 t2 t3 K) fun _ w=>
 Leave prog [.cell t2 2,.cell t3 30] K [{ target:=.fn (.func 174) #[],args:=#[t2,t3] }] .returning w) (DoX prog (mRange 9 t28) w (S_fix_Read_p0 t2 t3 K) fun t46 w=>
 LoopX [] w (fun vs2 w N2=>∀_:Sg,S_fix_Read_1 t2 t3 t4 t29 t46 w N2 K))
def S_fix_Read (t0:Value)(w:World)(K:Ending→World→Prop):Prop:=
 DoX prog (mAlloc 2) w (pk K) fun t2 w=>
 DoX prog (mAlloc 30) w (pk K) fun t3 w=>
 DoX prog (mB .len #[9] 3 #[false] #[t0]) w (S_fix_Read_p0 t2 t3 K) fun t14 w=>
 DoX prog (mBin .gtr 3 t14 (.int .i64 40)) w (S_fix_Read_p0 t2 t3 K) fun t15 w=>
 IfX t15 (DoX prog (mStore 2 t2 (.int .i64 0)) w (S_fix_Read_p0 t2 t3 K) fun _ w=>
 DoX prog (mStore 30 t3 (.int .i64 3)) w (S_fix_Read_p0 t2 t3 K) fun _ w=>
 Leave prog [.cell t2 2,.cell t3 30] K [{ target:=.fn (.func 174) #[],args:=#[t2,t3] }] .returning w) (CallX prog 115 #[t0,(.string ⟨#[45]⟩)] w (S_fix_Read_p0 t2 t3 K) fun t17 w=>
 JoinX (fun J1=>
 GDo t17 false (fun E=>E t0 w) w fun t20 w=>
 GDo t17 false (fun E=>CallX prog 115 #[t20,(.string ⟨#[43]⟩)] w (S_fix_Read_p0 t2 t3 K) E) w fun t21 w=>
 DoX prog (mPick t17 (.bool true) t21) w (S_fix_Read_p0 t2 t3 K) fun t22 w=>
 IfX t22 (DoX prog (mSlice 9 t0 (some (.int .i64 1)) none none) w (S_fix_Read_p0 t2 t3 K) fun t24 w=>
 AtX [{ target:=.fn (.func 174) #[],args:=#[t2,t3] }] [{ target:=.fn (.func 174) #[],args:=#[t2,t3] }] (J1 [t24] w)) (AtX [{ target:=.fn (.func 174) #[],args:=#[t2,t3] }] [{ target:=.fn (.func 174) #[],args:=#[t2,t3] }] (J1 [t0] w))) (fun vs1 w=>∀_:Sg,S_fix_Read_0 (vs1.getD 0 undef) t2 t3 t17 w K))
theorem S_fix_Read_eq (t0:Value)(w:World)(K:Ending→World→Prop):wpX prog 97 [(7,[0]),(24,[]),(26,[])] [(11,[]),(18,[])] none (bodyOf Tryz.f124) (topQ prog [.cell 2 2,.cell 3 30] K) (startX [t0]) [] w=S_fix_Read t0 w K:=by kernel_rfl
theorem S_fix_Read_ok {t0:Value}{w:World}{K:Ending→World→Prop}(h:S_fix_Read t0 w K):Calls prog 124 #[t0] w K:=
 calls_of_wpX Tryz.func124 rfl rfl rfl rfl (Eq.mpr (S_fix_Read_eq t0 w K) h)
end
end Go.Proofs.YtkejpieaafeblaaGreatDoor

namespace Go.Proofs.YtkejpieaafeblaaGreatDoor
section
open Eng Go.RowKit
theorem within_ret (n:Int)(w:World):Ret prog 232 #[.int .i64 n] w (fun v w'=>v=.bool (Fx.okB n)∧w=w'):=by
 refine ret_of fun K hK=>S_fix_within_ok ?_;unfold S_fix_within;by_cases h:-1073741824≤n<;>simp only[rs,h,decide_true,decide_false]<;>exact hK _ _ ⟨by simp[Fx.okB,h],rfl⟩
def ints (zs:List Int):List Value:=zs.map (Value.int .i64)
theorem ints_get {zs:List Int}{k:Nat}(h:k < zs.length):(ints zs)[k]?=some (.int .i64 zs[k]):=by simp[ints,h]
theorem take_all (zs:List Int)(k:Nat)(h:k < zs.length):(zs.take (k+1)).all Fx.okB=((zs.take k).all Fx.okB&&Fx.okB zs[k]):=by
 rw[List.take_succ_eq_append_getElem h,List.all_append];simp
theorem bounded_any (v:Value)(zs:List Int)(w:World)(hs:Sl w v 1 zs.length (ints zs))(hn:zs.length≤9223372036854775806)(K:Ending→World→Prop)
  (hk:zs.all Fx.okB=true→K (.returned (.tuple #[])) w) (hp:zs.all Fx.okB=false→K (.panicked [{ v:=.iface 210 (.int .i64 2),recovered:=false }]) w) :
  Calls prog 178 #[v] w K:=by
 refine S_fix_bounded_ok ?_;unfold S_fix_bounded;simp only[sl_len Tryz.underlying211 hs];refine loop (fun vs w'=>w'=w∧∃k:Nat,k≤zs.length∧vs=[.int .i64 k]∧(zs.take k).all Fx.okB=true) (fun vs _=>zs.length - n0 vs) ⟨rfl,0,by omega,rfl,by simp⟩ ?_;rintro vs w' ⟨rfl,k,hkl,rfl,hall⟩ _;simp only[S_fix_bounded_0,gd,rs];by_cases hlt:k < zs.length
 ·have hlt':(k:Int) < (zs.length:Int):=by omega
  simp only[rs,hlt',decide_true];refine join fun J hJ=>?_;refine sl_ia1 (.int .i64 zs[k]) Tryz.underlying211 (by kernel_rfl) hs (by omega) (by rw[Int.toNat_natCast];exact ints_get hlt) fun p hpc=>?_;simp only[l_cell (show notAgg prog 2=true by kernel_rfl) hpc];refine c_eq (within_ret _ _) ?_;have ht:=take_all zs k hlt;cases hb:Fx.okB zs[k] with
 |true=>
   simp only[rs];refine hJ _ _ fun _=>?_;simp only[S_fix_bounded_1,rs];rw[wrap64_id (by omega) (by omega)];exact nextX ⟨rfl,k+1,hlt,by simp,by rw[ht,hall,hb];rfl⟩ (by simp[n0,RowKit.intOf];omega)
 |false=>
   simp only[rs,m_iface (show notIface prog 210=true by kernel_rfl)];refine hp ?_;have:(zs.take (k+1)).all Fx.okB=false:=by rw[ht,hb];simp
   rw[←List.take_append_drop (k+1) zs,List.all_append,this];rfl
 ·have hlt':¬(k:Int) < (zs.length:Int):=by omega
  simp only[rs,hlt',decide_false];exact hk (by rw[List.take_of_length_le (by omega)] at hall;exact hall)
end
section
open Eng Go.RowKit
def slen1 (vs:List Value):Nat:=match vs.getD 1 undef with|.string s=>s.size|_=>0
theorem slen1_mk {a:Value}{l:List UInt8}{t:List Value}:slen1 (a::.string ⟨l.toArray⟩::t)=l.length:=by simp[slen1,str_size]
theorem row_ret (n least:Nat)(w:World)(hn:n < 4611686018427387904)(hl:least≤4):Ret prog 262 #[.int .i64 n,.int .i64 least] w (fun v w'=>v=.string ⟨(Fx.row n least).toArray⟩∧Below w.heap.size w w'):=by
 refine ret_of fun K hK=>S_fix_row_ok ?_;unfold S_fix_row;refine loop (fun vs w'=>∃(f n':Nat) (s:List UInt8),vs=[.int .i64 n',.string ⟨s.toArray⟩]∧Fx.rowF f n' least s=Fx.row n least∧n' < 10 ^ f∧n' < 4611686018427387904∧least≤s.length+f∧s.length+f=64∧Own w w' [])
  (fun vs _=>64 - slen1 vs) ⟨64,n,[],rfl,rfl,by omega,hn,by simp;omega,by simp,Own.start w⟩ ?_
 rintro vs w' ⟨f,n',s,rfl,hr,hn',hn2,hl',hs,ho⟩ _;simp only[S_fix_row_0,gd,rs];have step:0 < n'∨s.length < least→DoX prog (mBin .rem 2 (.int .i64 n') (.int .i64 10)) w' (pk K) fun t15 ww=>
   DoX prog (mBin .add 2 (.int .i64 48) t15) ww (pk K) fun t16 ww=>
   DoX prog (mConv 2 5 t16) ww (pk K) fun t17 ww=>
   DoX prog (mBuildS 76 1 #[(0,t17)]) ww (pk K) fun t18 ww=>
   DoX prog (mConv 76 9 t18) ww (pk K) fun t19 ww=>
   DoX prog (mBin .add 9 t19 (.string ⟨s.toArray⟩)) ww (pk K) fun t21 ww=>
   DoX prog (mBin .quo 2 (.int .i64 n') (.int .i64 10)) ww (pk K) fun t23 ww=>
   (NextX (fun vs w'=>∃(f n':Nat) (s:List UInt8),vs=[.int .i64 n',.string ⟨s.toArray⟩]∧Fx.rowF f n' least s=Fx.row n least∧n' < 10 ^ f∧n' < 4611686018427387904∧least≤s.length+f∧s.length+f=64∧Own w w' [])
  (fun vs _=>64 - slen1 vs) [.int .i64 n',.string ⟨s.toArray⟩] w') [t23,t21] ww:=by
  intro hstep;cases f with
 |zero=>simp only[Nat.pow_zero] at hn';omega
 |succ f=>
   rw[Fx.rowF,if_pos hstep] at hr;have e1:(n':Int).tmod 10=((n' % 10:Nat):Int):=by rw[Int.tmod_eq_emod_of_nonneg (by omega)];omega
   have e2:(n':Int).tdiv 10=((n' / 10:Nat):Int):=by rw[Int.tdiv_eq_ediv_of_nonneg (by omega)];omega
   have e3:((48:Int)+((n' % 10:Nat):Int))=(((Fx.dg (n' % 10)).toNat:Nat):Int):=by rw[Fx.dg_toNat (by omega)];omega
   have e4:=Fx.dg_toNat (k:=n' % 10) (by omega);simp only[b_rem (show (10:Int)≠0 by omega),b_quo (show (10:Int)≠0 by omega),rs,e1,e2,e3];rw[wrap64_id (by omega) (by omega),c_int (show (Tryz.prog.underlying 2).isSome=true by kernel_rfl) Tryz.underlying5,wrap8_id (by omega) (by omega)];refine o_new (fun b=>.slice (some ⟨b,0,none⟩) 1 1) [.int .u8 (Fx.dg (n' % 10)).toNat] 5 (fun _=>by kernel_rfl) ho fun b w4 h4=>?_;rw[c_bytes (l:=[Fx.dg (n' % 10)]) Tryz.underlying76 Tryz.underlying5 Tryz.underlying9 (h4.sl 0 rfl 1 1 1 rfl),s_add (by simp;omega),wrap64_id (by omega) (by omega)];refine nextX ⟨f,n' / 10,Fx.dg (n' % 10)::s,rfl,hr,by rw[Nat.pow_succ] at hn';omega,by omega,by simp;omega,by simp;omega,h4.tail⟩ (by rw[slen1_mk,slen1_mk];simp;omega)
 by_cases h0:(0:Int) < (n':Int)
 ·simp only[rs,h0,decide_true];exact step (.inl (by omega))
 ·simp only[rs,h0,decide_false,s_len Tryz.underlying9];by_cases h1:(s.length:Int) < (least:Int)
  ·simp only[rs,h1,decide_true];exact step (.inr (by omega))
  ·simp only[rs,h1,decide_false];refine hK _ _ ⟨?_,ho.done⟩;cases f with
  |zero=>rw[←hr];rfl
  |succ f=>rw[Fx.rowF,if_neg (by omega)] at hr;rw[hr]
end
section
open Eng Go.RowKit
abbrev faceD (t4 t5:Value):Deferred:={ target:=.fn (.func 174) #[],args:=#[t4,t5] }
abbrev refusedE (e:Int):PanicEntry:={ v:=.iface 210 (.int .i64 e),recovered:=false }
theorem face_plain:plainB prog 174=true:=by kernel_rfl
theorem face_idle (p q:Addr)(w:World):CallsD prog 174 #[.pointer (some p),.pointer (some q)] .returning w (fun e u' w'=>e=.returned (.tuple #[])∧u'=.returning∧w=w'):=by
 refine S_fix_face_dok ?_;simp only[S_fix_face,recV,recM,e_nil Tryz.underlying20,rs];simp
theorem door_ok {w0 w:World}{L:List Ent}(i j:Nat){b1 b2:Nat}{n e:Int}(h:Own w0 w L)(h1:L[i]?=some (.cells b1 [.int .i64 n] 2))(h2:L[j]?=some (.cells b2 [.int .i64 e] 30))(K:Ending→World→Prop)
  (hk:∀w',Below w0.heap.size w0 w'→K (.returned (.tuple #[.int .i64 n,.int .i64 e])) w') :
  Leave prog [.cell (.pointer (some ⟨b1,0,none⟩)) 2,.cell (.pointer (some ⟨b2,0,none⟩)) 30] K [faceD (.pointer (some ⟨b1,0,none⟩)) (.pointer (some ⟨b2,0,none⟩))] .returning w:=by
 refine leave_func (by simp) face_plain ((face_idle _ _ w).mono ?_);rintro e' u' w' ⟨rfl,rfl,rfl⟩;exact ret_cell2 (by kernel_rfl) (by kernel_rfl) (h.cell i h1 0 rfl) (h.cell j h2 0 rfl) (hk _ h.done)
theorem door_bad {w0 w:World}{b1 b2:Nat}{n e0 e:Int}(h:Own w0 w [.cells b2 [.int .i64 e0] 30,.cells b1 [.int .i64 n] 2])(K:Ending→World→Prop)
  (hk:∀w',Below w0.heap.size w0 w'→K (.returned (.tuple #[.int .i64 0,.int .i64 e])) w') :
  Leave prog [.cell (.pointer (some ⟨b1,0,none⟩)) 2,.cell (.pointer (some ⟨b2,0,none⟩)) 30] K [faceD (.pointer (some ⟨b1,0,none⟩)) (.pointer (some ⟨b2,0,none⟩))] (.panicking [refusedE e]) w:=by
 refine leave_func (by simp) face_plain (S_fix_face_dok ?_);simp only[S_fix_face,recV,recM,e_some Tryz.underlying20,rs,t_hit (show notIface prog 210=true by kernel_rfl),
  x_ext (show [Value.int .i64 e,Value.bool true][1]?=some (Value.bool true) from rfl),x_ext (show [Value.int .i64 e,Value.bool true][0]?=some (Value.int .i64 e) from rfl)]
 refine o_store 1 h rfl (by kernel_rfl) rfl (by simp) fun w1 h1=>?_;refine o_store 0 h1 rfl (by kernel_rfl) rfl (by simp) fun w2 h2=>?_;exact ret_cell2 (by kernel_rfl) (by kernel_rfl) (h2.cell 1 rfl 0 rfl) (h2.cell 0 rfl 0 rfl) (hk _ h2.done)
abbrev pair (x:Int×Int):Value:=.tuple #[.int .i64 x.1,.int .i64 x.2]
theorem okB_bd {n:Int}(h:Fx.okB n=true):-1073741824≤n∧n≤1073741824:=by simpa[Fx.okB] using h
end
section
open Eng
def S_strings_Cut (t0 t1:Value)(w:World)(K:Ending→World→Prop):Prop:=
 CallX prog 231 #[t0,t1] w (pk K) fun t9 w=>
 DoX prog (mExt t9 0) w (pk K) fun t10 w=>
 DoX prog (mExt t9 1) w (pk K) fun t11 w=>
 DoX prog (mExt t9 2) w (pk K) fun t12 w=>
 K (.returned (.tuple #[t10,t11,t12])) w
theorem S_strings_Cut_eq (t0 t1:Value)(w:World)(K:Ending→World→Prop):wpX prog 13 [] [] none (bodyOf Tryz.f175) (topQ prog [.tmp 4,.tmp 5,.tmp 6] K) (startX [t0,t1]) [] w=S_strings_Cut t0 t1 w K:=by kernel_rfl
theorem S_strings_Cut_ok {t0 t1:Value}{w:World}{K:Ending→World→Prop}(h:S_strings_Cut t0 t1 w K):Calls prog 175 #[t0,t1] w K:=
 calls_of_wpX Tryz.func175 rfl rfl rfl rfl (Eq.mpr (S_strings_Cut_eq t0 t1 w K) h)
def S_internal_stringslite_Cut (t0 t1:Value)(w:World)(K:Ending→World→Prop):Prop:=
 CallX prog 257 #[t0,t1] w (pk K) fun t10 w=>
 DoX prog (mBin .geq 3 t10 (.int .i64 0)) w (pk K) fun t12 w=>
 IfX t12 (QuietX w (fun C1=>
 QDo prog C1 (mSlice 9 t0 none (some t10) none) fun t15=>
 QDo prog C1 (mB .len #[9] 3 #[false] #[t1]) fun t19=>
 QDo prog C1 (mBin .add 3 t10 t19) fun t20=>
 QDo prog C1 (mSlice 9 t0 (some t20) none none) fun t21=>
 ∀w,C1 w →
 K (.returned (.tuple #[t15,t21,(.bool true)])) w)) (K (.returned (.tuple #[t0,(.string ⟨#[]⟩),(.bool false)])) w)
theorem S_internal_stringslite_Cut_eq (t0 t1:Value)(w:World)(K:Ending→World→Prop):wpX prog 23 [] [] none (bodyOf Tryz.f231) (topQ prog [.tmp 4,.tmp 5,.tmp 6] K) (startX [t0,t1]) [] w=S_internal_stringslite_Cut t0 t1 w K:=by kernel_rfl
theorem S_internal_stringslite_Cut_ok {t0 t1:Value}{w:World}{K:Ending→World→Prop}(h:S_internal_stringslite_Cut t0 t1 w K):Calls prog 231 #[t0,t1] w K:=
 calls_of_wpX Tryz.func231 rfl rfl rfl rfl (Eq.mpr (S_internal_stringslite_Cut_eq t0 t1 w K) h)
end
section
open Eng Go.RowKit
theorem ix_cases (c:UInt8):∀l:List UInt8,(Lib.indexByte l c=-1∧l.takeWhile (fun x=>x != c)=l∧l.dropWhile (fun x=>x != c)=[]) ∨
  ∃i:Nat,Lib.indexByte l c=i∧i < l.length∧l.takeWhile (fun x=>x != c)=l.take i∧l.dropWhile (fun x=>x != c)=l.drop i
|[]=>.inl ⟨rfl,rfl,rfl⟩
|b::l=>by
  by_cases h:b=c
  ·subst h;exact .inr ⟨0,by simp[Lib.indexByte],by simp,by simp,by simp⟩
  ·have hb:(b==c)=false:=by simpa using h
   have hb2:(b != c)=true:=by simpa using h
   rcases ix_cases c l with ⟨h1,h2,h3⟩|⟨i,h1,h2,h3,h4⟩
   ·exact .inl ⟨by simp[Lib.indexByte,hb,h1],by simp[hb2,h2],by simp[hb2,h3]⟩
   ·refine .inr ⟨i+1,?_,by simp;omega,by simp[hb2,h3],by simp[hb2,h4]⟩;have e:((i:Int)==-1)=false:=by simp
    simp only[Lib.indexByte,hb,h1,e,Bool.false_eq_true,if_false];omega
theorem cut_ret (s:List UInt8)(c:UInt8)(w:World)(hs:s.length≤4611686018427387904):Ret prog 175 #[.string ⟨s.toArray⟩,.string ⟨#[c]⟩] w
  (fun v w'=>(∃b,v=.tuple #[.string ⟨(s.takeWhile (fun x=>x != c)).toArray⟩,.string ⟨((s.dropWhile (fun x=>x != c)).drop 1).toArray⟩,.bool b])∧Below w.heap.size w w'):=by
 have inner:Ret prog 231 #[.string ⟨s.toArray⟩,.string ⟨#[c]⟩] w
   (fun v w'=>(∃b,v=.tuple #[.string ⟨(s.takeWhile (fun x=>x != c)).toArray⟩,.string ⟨((s.dropWhile (fun x=>x != c)).drop 1).toArray⟩,.bool b])∧Below w.heap.size w w'):=by
  refine ret_of fun K hK=>S_internal_stringslite_Cut_ok ?_;unfold S_internal_stringslite_Cut;refine c_any (Tryz.stringslite_Index_one ⟨s.toArray⟩ c w) ?_;rintro e w' ⟨rfl,rfl⟩;simp only[Cont,rs];rcases ix_cases c s with ⟨h1,h2,h3⟩|⟨i,h1,h2,h3,h4⟩
  ·rw[h1];simp only[show ¬((0:Int)≤-1) by omega,decide_false,rs];exact hK _ _ ⟨⟨false,by rw[h2,h3];rfl⟩,Below.refl _ _⟩
  ·rw[h1];have e0:(0:Int)≤(i:Int):=by omega
   simp only[e0,decide_true,rs];refine quiet (q_do (.string ⟨(s.take i).toArray⟩) (fun w=>?_) (q_do (.int .i64 1) (fun w=>?_) (q_do _ (fun w=>r_add) (q_do (.string ⟨(s.drop (i+1)).toArray⟩) (fun w=>?_) ?_))))
   ·rw[run_upto Tryz.underlying9 (by omega) (by omega)];simp
   ·exact run_len (l:=[c]) Tryz.underlying9
   ·rw[wrap64_id (by omega) (by omega),run_from Tryz.underlying9 (by omega) (by omega)];rw[show ((i:Int)+1).toNat=i+1 by omega]
   ·intro wc hw;exact hK _ _ ⟨⟨true,by rw[h3,h4,List.drop_drop]⟩,hw⟩
 refine ret_of fun K hK=>S_strings_Cut_ok ?_;unfold S_strings_Cut;refine c_ret inner ?_;rintro v w' ⟨⟨b,rfl⟩,hb⟩;simp only[ex];exact hK _ _ ⟨⟨b,rfl⟩,hb⟩
theorem trimRight_ret (s:List UInt8)(c:UInt8)(hc:c.toNat < 128)(w:World)(hs:s.length≤9223372036854775807):Ret prog 177 #[.string ⟨s.toArray⟩,.string ⟨#[c]⟩] w
  (fun v w'=>v=.string ⟨(Lib.trimRightB s c).toArray⟩∧w=w'):=
 Calls.mono (Tryz.strings_TrimRight_one ⟨s.toArray⟩ c hc w (by rw[str_size];exact hs)) (by rintro e w' ⟨rfl,rfl⟩;exact retK ⟨rfl,rfl⟩)
theorem hasPrefix_ret (s p:List UInt8)(w:World):Ret prog 115 #[.string ⟨s.toArray⟩,.string ⟨p.toArray⟩] w (fun v w'=>v=.bool (p.isPrefixOf s)∧w=w'):=
 Calls.mono (Tryz.strings_HasPrefix ⟨s.toArray⟩ ⟨p.toArray⟩ w) (by rintro e w' ⟨rfl,rfl⟩;exact retK ⟨rfl,rfl⟩)
theorem trim_ret (s cs:List UInt8)(w:World)(hs:s.length≤9223372036854775807)(hcs:cs.length < 4294967281)(ha:cs.all (fun c=>decide (c.toNat < 128))=true):Ret prog 172 #[.string ⟨s.toArray⟩,.string ⟨cs.toArray⟩] w
  (fun v w'=>v=.string ⟨(Lib.trimS s cs).toArray⟩∧Below w.heap.size w w'):=
 Calls.mono (Any.strings_Trim_laid Tryz.lays160 (by kernel_rfl) ⟨s.toArray⟩ ⟨cs.toArray⟩ w (by rw[str_size];exact hs) (by rw[str_size];exact hcs)
  (fun j b hj=>by
   have:=List.all_eq_true.1 ha b (List.mem_of_getElem? hj);simpa using this)) (by rintro e w' ⟨rfl,h⟩;exact retK ⟨rfl,h⟩)
end
section
open Eng Go.RowKit
theorem natAbs_mod {n:Int}(h:0≤n):n.tmod 10000=((n.natAbs % 10000:Nat):Int):=by rw[Int.tmod_eq_emod_of_nonneg h];omega
theorem natAbs_div {n:Int}(h:0≤n):n.tdiv 10000=((n.natAbs / 10000:Nat):Int):=by rw[Int.tdiv_eq_ediv_of_nonneg h];omega
theorem ptext_ret (n:Int)(w:World):Ret prog 241 #[.int .i64 n] w (fun v w'=>v=.string ⟨(Fx.text n).toArray⟩∧Below w.heap.size w w'):=by
 refine ret_of fun K hK=>S_fix_Text_ok ?_;unfold S_fix_Text;refine c_ret (within_ret n w) ?_;rintro v w1 ⟨rfl,rfl⟩;by_cases ho:Fx.okB n=true
 ·have hb:=okB_bd ho;simp only[ho,rs];have main:∀(m:Int) (sg:List UInt8),0≤m→m.natAbs=n.natAbs→sg=(if n < 0 then [45] else [])→S_fix_Text_0 (.int .i64 m) (.string ⟨sg.toArray⟩) w K:=by
   intro m sg h0 hm hsg;have hm2:m≤1073741824:=by omega
   unfold S_fix_Text_0;simp only[b_quo (show (10000:Int)≠0 by omega),b_rem (show (10000:Int)≠0 by omega),natAbs_div h0,natAbs_mod h0];rw[wrap64_id (by omega) (by omega)];refine c_ret (row_ret (m.natAbs / 10000) 1 w (by omega) (by omega)) ?_;rintro v w2 ⟨rfl,b2⟩;refine c_ret (row_ret (m.natAbs % 10000) 4 w2 (by omega) (by omega)) ?_;rintro v w3 ⟨rfl,b3⟩;refine c_ret (trimRight_ret (Fx.row (m.natAbs % 10000) 4) 48 (by decide) w3 (by have:=Fx.row_len (m.natAbs % 10000) 4;omega)) ?_;rintro v w4 ⟨rfl,rfl⟩;have hlen:=Fx.row_len (m.natAbs / 10000) 1;have hfl:=Fx.fpart_len n.natAbs;have hsl:sg.length≤1:=by rw[hsg];split<;>simp
   refine join fun J hJ=>?_;have fin:J [.string ⟨(Fx.fpart n.natAbs).toArray⟩] w3:=by
    refine hJ _ _ fun _=>?_;simp only[S_fix_Text_1,gd];rw[s_add (by omega),s_add (b:=[46]) (by simp;omega),s_add (by simp;omega)];refine hK _ _ ⟨?_,b2.trans (b3.mono b2.size)⟩;rw[Fx.text,if_pos ho,hsg,hm]
   change DoX _ (mEq .eql _ _ _ (.string ⟨(Fx.tr (Fx.row (m.natAbs % 10000) 4)).toArray⟩) (.string ⟨([]:List UInt8).toArray⟩)) _ _ _;by_cases ht:Fx.tr (Fx.row (n.natAbs % 10000) 4)=[]
   ·simp only[e_str,hm,ht,decide_true,rs];rw[Fx.fpart,if_pos ht] at fin;exact fin
   ·simp only[e_str,hm,ht,decide_false,rs];rw[Fx.fpart,if_neg ht] at fin;exact fin
  refine join fun J hJ=>?_;by_cases hn:n < 0
  ·simp only[rs,hn,decide_true];rw[wrap64_id (by omega) (by omega)];exact hJ _ _ fun _=>main (-n) [45] (by omega) (by omega) (by rw[if_pos hn])
  ·simp only[rs,hn,decide_false];exact hJ _ _ fun _=>main n [] (by omega) rfl (by rw[if_neg hn])
 ·have ho':Fx.okB n=false:=by simpa using ho
  simp only[ho',rs];exact hK _ _ ⟨by rw[Fx.text,if_neg ho],Below.refl _ _⟩
theorem digs_contains (c:UInt8):([48,49,50,51,52,53,54,55,56,57]:List UInt8).contains c=Fx.isDig c:=by
 rw[Bool.eq_iff_iff];simp[Fx.isDig,←UInt8.toNat_inj];omega
theorem dropWhile_nil {p:UInt8→Bool}:∀l:List UInt8,l.dropWhile p=[]↔l.all p=true
|[]=>by simp
|c::t=>by
  by_cases h:p c=true
  ·simp[h,dropWhile_nil t]
  ·simp[h]
theorem dropWhile_all {p:UInt8→Bool}:∀l:List UInt8,(l.dropWhile p).all p=l.all p
|[]=>rfl
|c::t=>by
  by_cases h:p c=true
  ·simp[h,dropWhile_all t]
  ·simp[h]
theorem trimS_nil (l:List UInt8):(Lib.trimS l [48,49,50,51,52,53,54,55,56,57]=[])↔l.all Fx.isDig=true:=by
 have e:(([48,49,50,51,52,53,54,55,56,57]:List UInt8).contains ·)=Fx.isDig:=funext digs_contains;rw[Lib.trimS,Lib.trimLeftS,Lib.trimRightS];simp only[e];rw[dropWhile_nil,List.all_reverse,dropWhile_all,List.all_reverse]
theorem pdigits_ret (l:List UInt8)(w:World)(hl:l.length≤9223372036854775807):Ret prog 176 #[.string ⟨l.toArray⟩] w (fun v w'=>v=.bool (l.all Fx.isDig)∧Below w.heap.size w w'):=by
 refine ret_of fun K hK=>S_fix_digits_ok ?_;unfold S_fix_digits;refine c_ret (trim_ret l [48,49,50,51,52,53,54,55,56,57] w hl (by decide) (by decide)) ?_;rintro v w1 ⟨rfl,b1⟩;change DoX _ (mEq .eql _ _ _ _ (.string ⟨([]:List UInt8).toArray⟩)) _ _ _;rw[e_str];refine hK _ _ ⟨?_,b1⟩;have:=trimS_nil l;by_cases h:l.all Fx.isDig=true
 ·rw[h,decide_eq_true (this.2 h)]
 ·rw[decide_eq_false (fun e=>h (this.1 e))];simpa using h
end
section
open Eng Go.RowKit
abbrev Tb (w:World):Prop:=Lib.TabIs prog w "internal/strconv.uint64pow10" .u64 Lib.pow10Tab
theorem indexByte_ret (l:List UInt8)(c:UInt8)(w:World):Ret prog 168 #[.string ⟨l.toArray⟩,.int .u8 c.toNat] w (fun v w'=>v=.int .i64 (Lib.indexByte l c)∧w=w'):=by
 refine Calls.mono (Tryz.strings_IndexByte ⟨l.toArray⟩ c.toNat w) ?_;rintro e w' ⟨rfl,rfl⟩;refine retK ⟨?_,rfl⟩;simp
theorem white_ret (c:UInt8)(w:World):Ret prog 114 #[.int .u8 c.toNat] w (fun v w'=>v=.bool (Oc.white c)∧w=w'):=by
 refine ret_of fun K hK=>S_octet_White_ok ?_;unfold S_octet_White;refine c_eq (indexByte_ret Oc.whites c w) ?_;simp only[rs,Oc.indexByte_nonneg];exact hK _ _ ⟨rfl,rfl⟩
theorem delim_ret (c:UInt8)(w:World):Ret prog 128 #[.int .u8 c.toNat] w (fun v w'=>v=.bool (Oc.delim c)∧w=w'):=by
 refine ret_of fun K hK=>S_octet_Delim_ok ?_;unfold S_octet_Delim;refine c_eq (indexByte_ret Oc.delims c w) ?_;simp only[rs,Oc.indexByte_nonneg];exact hK _ _ ⟨rfl,rfl⟩
theorem regular_ret (c:UInt8)(w:World):Ret prog 83 #[.int .u8 c.toNat] w (fun v w'=>v=.bool (Oc.regular c)∧w=w'):=by
 refine ret_of fun K hK=>S_octet_Regular_ok ?_;unfold S_octet_Regular;refine c_eq (white_ret c w) ?_;cases hw:Oc.white c with
|true=>simp only[rs];exact hK _ _ ⟨by simp[Oc.regular,hw],rfl⟩
|false=>
  simp only[rs];refine c_eq (delim_ret c w) ?_;simp only[rs];exact hK _ _ ⟨by simp[Oc.regular,hw],rfl⟩
theorem shr4 (c:UInt8):(c.toNat:Int).fdiv (2 ^ (min (4:Int).toNat IntKind.u8.bits))=((c.toNat / 16:Nat):Int):=by
 rw[Int.fdiv_eq_ediv_of_nonneg _ (by decide)];show ((c.toNat:Int) / 16)=_;omega
theorem and15_fin:∀n:Fin 256,bAnd .u8 (n.val:Int) 15=((n.val % 16:Nat):Int):=by decide +kernel
theorem and15 (c:UInt8):bAnd .u8 (c.toNat:Int) 15=((c.toNat % 16:Nat):Int):=and15_fin ⟨c.toNat,c.toNat_lt⟩
theorem hexD_get (k:IntKind){n:Nat}(h:n < 16)(w:World):(mIx 9 (.string ⟨#[48,49,50,51,52,53,54,55,56,57,65,66,67,68,69,70]⟩) (.int k (n:Int))).run prog w=.ok (.value (.int .u8 (Oc.hexD n).toNat)) w:=
 run_s_ix (a:=Oc.hexs) (c:=Oc.hexD n) Tryz.underlying9 (by omega) (by rw[Int.toNat_natCast];exact Oc.hexs_get h)
theorem hex_ret (l:List UInt8)(w:World)(hl:l.length≤1000000):Ret prog 195 #[.string ⟨l.toArray⟩] w (fun v w'=>v=.string ⟨(Oc.hex l).toArray⟩∧Below w.heap.size w w'):=by
 refine ret_of fun K hK=>S_octet_Hex_ok ?_;unfold S_octet_Hex;rw[s_len Tryz.underlying9];simp only[rs];rw[wrap64_id (by omega) (by omega)];refine o_make (c:=2*l.length) (by omega) Tryz.underlying76 (show elB prog 5 1 1=true by kernel_rfl) (by omega) (by omega) (Own.start w) fun v w1 h1=>?_;rw[s_len Tryz.underlying9];refine loop (fun vs w'=>∃(i:Nat) (v:Value),vs=[v,.int .i64 i]∧i≤l.length∧Own w w' [.row 5 1 v (2*i) (bytesV (Oc.hex (l.take i)))])
  (fun vs _=>l.length - n1 vs) ⟨0,v,rfl,by omega,by simpa[Oc.hex,bytesV] using h1⟩ ?_
 rintro vs w2 ⟨i,v,rfl,hi,ho⟩ _;simp only[S_octet_Hex_0,gd,rs];by_cases hlt:(i:Int) < (l.length:Int)
 ·have hi2:i < l.length:=by omega
  have hc:l[(i:Int).toNat]?=some l[i]:=by simp[hi2]
  have hd1:l[i].toNat / 16 < 16:=by have:=l[i].toNat_lt;omega
  have hd2:l[i].toNat % 16 < 16:=by omega
  simp only[hlt,decide_true,rs];refine quiet (q_do _ (fun w=>run_s_ix Tryz.underlying9 (by omega) hc) (q_do _ (fun w=>by rw[r_shr (by omega),shr4]) (q_do _ (fun w=>hexD_get _ hd1 w)
   (q_do _ (fun w=>run_s_ix Tryz.underlying9 (by omega) hc) (q_do _ (fun w=>by rw[r_and,and15]) (q_do _ (fun w=>hexD_get _ hd2 w) ?_))))))
  intro w3 hb3;refine o_new (fun b=>.slice (some ⟨b,0,none⟩) 2 2) (bytesV (Oc.hex1 l[i])) 5 (fun _=>by kernel_rfl) (ho.grow hb3) fun nb w4 h4=>?_;refine o_append 1 Tryz.underlying76 (show elB prog 5 1 1=true by kernel_rfl) (by decide) h4 rfl (h4.sl 0 rfl 1 2 2 rfl) (bytesV_one _) (by omega) (by omega) fun v' w5 h5=>?_;rw[wrap64_id (by omega) (by omega)];refine nextX ⟨i+1,v',rfl,by omega,?_⟩ (by simp[n1,RowKit.intOf];omega);have e:bytesV (Oc.hex (l.take (i+1)))=bytesV (Oc.hex (l.take i))++bytesV (Oc.hex1 l[i]):=by
   rw[List.take_succ_eq_append_getElem hi2,Oc.hex_snoc,bytesV_append]
  rw[e];exact h5.tail
 ·have hi2:i=l.length:=by omega
  subst hi2;simp only[hlt,decide_false,rs];have hs:=ho.slRow 0 rfl;rw[c_bytes (l:=Oc.hex l) Tryz.underlying76 Tryz.underlying5 Tryz.underlying9 (by rw[Oc.hex_length];simpa using hs)];exact hK _ _ ⟨rfl,ho.done⟩
theorem below_gr (w:World)(k:Nat)(os:Array Obj):Below w.heap.size w (Go.Sort.grow (w.drewN k) os):=
 ⟨rfl,rfl,rfl,by simp[Go.Sort.grow],fun i hi=>by simp[Go.Sort.grow,Array.getElem?_append,hi]⟩
theorem itoa_len (n:Int)(h0:-9223372036854775808≤n)(h1:n≤9223372036854775807):(Lib.itoa n).length≤21:=Lib.itoa_length_le n h0 h1
theorem pint_ret (n:Int)(w:World)(ht:Tb w):Ret prog 46 #[.int .i64 n] w (fun v w'=>v=.tuple #[.string ⟨(Pl.pInt n).1.toArray⟩,.int .i64 (Pl.pInt n).2]∧Below w.heap.size w w'):=by
 refine ret_of fun K hK=>S_plain_Int_ok ?_;unfold S_plain_Int;by_cases h1:n < -2147483647
 ·simp only[rs,h1,decide_true];exact hK _ _ ⟨by rw[Pl.pInt,if_neg (by omega)],Below.refl _ _⟩
 ·simp only[rs,h1,decide_false];by_cases h2:2147483647 < n
  ·simp only[rs,h2,decide_true];exact hK _ _ ⟨by rw[Pl.pInt,if_neg (by omega)],Below.refl _ _⟩
  ·simp only[rs,h2,decide_false];refine c_any (Tryz.strconv_FormatInt_10 n (by omega) (by omega) w ht) ?_;rintro e w' ⟨rfl,k,os,rfl⟩;exact hK _ _ ⟨by rw[Pl.pInt,if_pos (by omega)],below_gr _ _ _⟩
theorem preal_ret (n:Int)(w:World):Ret prog 191 #[.int .i64 n] w (fun v w'=>v=.tuple #[.string ⟨(Pl.pReal n).1.toArray⟩,.int .i64 (Pl.pReal n).2]∧Below w.heap.size w w'):=by
 refine ret_of fun K hK=>S_plain_Real_ok ?_;unfold S_plain_Real;by_cases h1:n < -1073741824
 ·simp only[rs,h1,decide_true];exact hK _ _ ⟨by rw[Pl.pReal,if_neg (by simp[Fx.okB];omega)],Below.refl _ _⟩
 ·simp only[rs,h1,decide_false];by_cases h2:1073741824 < n
  ·simp only[rs,h2,decide_true];exact hK _ _ ⟨by rw[Pl.pReal,if_neg (by simp[Fx.okB];omega)],Below.refl _ _⟩
  ·simp only[rs,h2,decide_false];refine c_ret (ptext_ret n w) ?_;rintro _ w' ⟨rfl,hb⟩;exact hK _ _ ⟨by rw[Pl.pReal,if_pos (by simp[Fx.okB];omega)],hb⟩
end
section
open Eng Go.RowKit
def Each (F:Nat)(f:UInt8→List UInt8):Prop:=∀(b:Nat) (v:Value) (l:List UInt8) (c:UInt8) (w:World),(Bld b v l).is w→l.length≤1000000 →
 Ret prog F #[.pointer (some ⟨b,0,none⟩),.int .u8 c.toNat] w (fun r w'=>∃e',(∃v',e'=Bld b v' (l++f c))∧Turn (Bld b v l) e' w w')
theorem write_ret (op s en:List UInt8)(F:Nat)(f:UInt8→List UInt8)(hF:plainB prog F=true)(he:Each F f)(hf:∀c,(f c).length≤4)(h1:op.length=1)(h2:en.length≤1)(h3:s.length≤40000)(w:World) :
  Ret prog 193 #[.string ⟨op.toArray⟩,.string ⟨s.toArray⟩,.string ⟨en.toArray⟩,.func (.func F) #[] #[]] w (fun v w'=>v=.string ⟨(op++s.flatMap f++en).toArray⟩∧Below w.heap.size w w'):=by
 refine ret_of fun K hK=>S_plain_write_ok ?_;unfold S_plain_write;refine o_new (fun b=>.pointer (some ⟨b,0,none⟩)) [.pointer none,.slice none 0 0] 78 (fun _=>by kernel_rfl) (Own.start w) fun b w1 ho=>?_;simp only[s_len Tryz.underlying9,rs];rw[wrap64_id (n:=(op.length:Int)+s.length) (by omega) (by omega),wrap64_id (by omega) (by omega)];rw[show ((op.length:Int)+s.length+en.length)=((op.length+s.length+en.length:Nat):Int) by omega];refine c_ret (grow_ret ho (by omega) (by omega)) ?_;rintro _ w2 ⟨rfl,v,ho2⟩;refine c_turn 0 ho2 rfl (writeString_ret (ho2.at_ 0 rfl) (by simp;omega)) ?_;rintro _ _ w3 ⟨_,v3,rfl⟩ ho3;refine loop (fun vs w'=>∃(i:Nat) (v:Value),vs=[.int .i64 i]∧i≤s.length∧Own w w' [Bld b v (op++(s.take i).flatMap f)])
  (fun vs _=>s.length - n0 vs) ⟨0,v3,rfl,by omega,by simpa using ho3⟩ ?_
 rintro vs w4 ⟨i,v4,rfl,hi,ho4⟩ _;simp only[S_plain_write_0,gd,rs];by_cases hlt:(i:Int) < (s.length:Int)
 ·have hi2:i < s.length:=by omega
  simp only[hlt,decide_true,rs];rw[s_ix (c:=s[i]) Tryz.underlying9 (by omega) (by simp[hi2])];have hfl:=Pl.flat_len f 4 hf (s.take i);have htk:(s.take i).length≤s.length:=by rw[List.length_take];omega
  refine c_val hF (c_turn 0 ho4 rfl (R:=fun _ e'=>∃v',e'=Bld b v' (op++(s.take i).flatMap f++f s[i])) (he b v4 _ s[i] w4 (ho4.at_ 0 rfl) (by simp only[List.length_append];omega)) ?_);rintro _ _ w5 ⟨v5,rfl⟩ ho5;rw[wrap64_id (by omega) (by omega)];refine nextX ⟨i+1,v5,rfl,by omega,?_⟩ (by simp[n0,RowKit.intOf];omega);rw[List.take_succ_eq_append_getElem hi2,Pl.flat_snoc,←List.append_assoc];exact ho5
 ·have hi2:i=s.length:=by omega
  subst hi2;simp only[hlt,decide_false,rs];rw[List.take_length] at ho4;have hfl:=Pl.flat_len f 4 hf s;refine c_turn 0 ho4 rfl (writeString_ret (ho4.at_ 0 rfl) (by simp only[List.length_append];omega)) ?_;rintro _ _ w5 ⟨_,v5,rfl⟩ ho5;refine c_turn 0 ho5 rfl (bldString_ret (ho5.at_ 0 rfl)) ?_;rintro _ _ w6 ⟨rfl,rfl⟩ ho6;exact hK _ _ ⟨rfl,ho6.done⟩
theorem u8_of (n:Nat)(h:n < 256):((UInt8.ofNat n).toNat:Int)=(n:Int):=by rw[UInt8.toNat_ofNat'];omega
theorem writeByteN_ret {b:Nat}{v:Value}{l:List UInt8}{n:Int}{k:Nat}{w:World}(h:(Bld b v l).is w)(hl:l.length < 140737488355328)(hn:n=k)(hk:k < 256):Ret prog 84 #[.pointer (some ⟨b,0,none⟩),.int .u8 n] w
  (fun r w'=>∃e',(r=.nilIface∧∃v',e'=Bld b v' (l++[UInt8.ofNat k]))∧Turn (Bld b v l) e' w w'):=by
 have:=writeByte_ret (c:=UInt8.ofNat k) h hl;rw[u8_of k hk,←hn] at this;exact this
theorem u8d (c:UInt8)(k:Int)(x:UInt8)(hx:(x.toNat:Int)=k):decide ((c.toNat:Int)=k)=decide (c=x):=by
 by_cases h:c=x
 ·subst h;rw[decide_eq_true hx,decide_eq_true rfl]
 ·rw[decide_eq_false h,decide_eq_false];intro h2;exact h (UInt8.toNat_inj.1 (by omega))
theorem octd_ret {b:Nat}{l:List UInt8}{c:UInt8}{w0 w:World}{v:Value}{S:Nat→Prop}(d:Nat)(i:Nat)(hd:d=64∨d=8∨d=1)(hi:(mIx 219 (.agg #[.int .u8 64,.int .u8 8,.int .u8 1]) (.int .i64 (i:Int))).run prog w=.ok (.value (.int .u8 (d:Int))) w)
  {t0:Value} {K:VWP} {PK:PKT} (ho:OwnS S w0 w [Bld b v l]) (hl:l.length < 140737488355328) (hi3:i < 3)
  (hk:∀v' w',OwnS S w0 w' [Bld b v' (l++[UInt8.ofNat (48+c.toNat / d % 8)])]→K (.int .i64 ((i+1:Nat):Int)) w') :
  DoX prog (mIx 219 (.agg #[.int .u8 64,.int .u8 8,.int .u8 1]) (.int .i64 (i:Int))) w PK fun t37 w=>
   DoX prog (mBin .quo 5 (.int .u8 c.toNat) t37) w PK fun t41 w=>
   DoX prog (mBin .rem 5 t41 (.int .u8 8)) w PK fun t42 w=>
   DoX prog (mBin .add 5 (.int .u8 48) t42) w PK fun t43 w=>
   CallX prog 84 #[.pointer (some ⟨b,0,none⟩),t43] w PK fun t44 w=>
   DoX prog (mBin .add 3 (.int .i64 (i:Int)) (.int .i64 1)) w PK K:=by
 have h256:=c.toNat_lt;have hq:((c.toNat:Int).tdiv d)=((c.toNat / d:Nat):Int):=by rw[Int.tdiv_eq_ediv_of_nonneg (by omega)];rcases hd with rfl|rfl|rfl<;>omega
 have hq2:c.toNat / d < 256:=Nat.lt_of_le_of_lt (Nat.div_le_self _ _) h256;have hr:(((c.toNat / d:Nat):Int).tmod 8)=((c.toNat / d % 8:Nat):Int):=by rw[Int.tmod_eq_emod_of_nonneg (by exact Int.natCast_nonneg _)];omega
 refine do_ok hi ?_;have hq3:(0:Int)≤((c.toNat / d:Nat):Int):=Int.natCast_nonneg _;rw[b_quo (by omega),hq,wrap8_id hq3 (by omega),b_rem (by omega),hr,b_add,wrap8_id (by omega) (by omega)];refine c_turn 0 ho rfl (writeByteN_ret (k:=48+c.toNat / d % 8) (ho.at_ 0 rfl) hl (by omega) (by omega)) ?_;rintro _ _ w5 ⟨rfl,v5,rfl⟩ ho5;rw[b_add,wrap64_id (by omega) (by omega),show ((i:Int)+1)=((i+1:Nat):Int) by omega];exact hk _ _ ho5
theorem each_esc:Each 242 Pl.esc:=by
 intro b v l c w h hl;refine ret_of fun K hK=>S_plain_String_1_ok ?_;unfold S_plain_String_1;have ho:=OwnS.lend h;have done:∀{v':Value} {w':World} {e':Ent},OwnS (Bld b v l).blk w w' [e']→(∃v',e'=Bld b v' (l++Pl.esc c))→K (.returned (.tuple #[])) w':=fun hx he=>hK _ _ ⟨_,he,hx.back⟩;have two:(c=40∨c=41∨c=92)→CallX prog 84 #[.pointer (some ⟨b,0,none⟩),(.int .u8 92)] w (pk K) fun t21 w=>
   CallX prog 84 #[.pointer (some ⟨b,0,none⟩),.int .u8 c.toNat] w (pk K) fun t24 w=>K (.returned (.tuple #[])) w:=by
  intro hc;refine c_turn 0 ho rfl (writeByteN_ret (k:=92) h (by omega) rfl (by omega)) ?_;rintro _ _ w1 ⟨rfl,v1,rfl⟩ ho1;refine c_turn 0 ho1 rfl (writeByte_ret (c:=c) (ho1.at_ 0 rfl) (by simp;omega)) ?_;rintro _ _ w2 ⟨rfl,v2,rfl⟩ ho2;exact done (v':=v2) ho2 ⟨v2,by rw[Pl.esc,if_pos hc,List.append_assoc];rfl⟩
 have e1:=u8d c 40 40 rfl;have e2:=u8d c 41 41 rfl;have e3:=u8d c 92 92 rfl;by_cases h1:c=40
 ·simp only[rs,e1,decide_eq_true h1,g_un];exact two (by simp[h1])
 ·simp only[rs,e1,decide_eq_false h1,g_un];by_cases h2:c=41
  ·simp only[rs,e2,decide_eq_true h2,g_un];exact two (by simp[h2])
  ·simp only[rs,e2,decide_eq_false h2,g_un];by_cases h3:c=92
   ·simp only[rs,e3,decide_eq_true h3,g_un];exact two (by simp[h3])
   ·simp only[rs,e3,decide_eq_false h3,g_un];have hn:¬(c=40∨c=41∨c=92):=by simp[h1,h2,h3]
    have oct:(c.toNat < 32∨126 < c.toNat)→CallX prog 84 #[.pointer (some ⟨b,0,none⟩),(.int .u8 92)] w (pk K) fun t33 w=>
      DoX prog (mBuild 219 #[(0,(.int .u8 64)),(1,(.int .u8 8)),(2,(.int .u8 1))]) w (pk K) fun t34 w=>
      LoopX [(.int .i64 0)] w (fun vs1 w N1=>∀_:Sg,S_plain_String_1_0 (.pointer (some ⟨b,0,none⟩)) (.int .u8 c.toNat) t34 (vs1.getD 0 undef) w N1 K):=by
     intro hc;refine c_turn 0 ho rfl (writeByteN_ret (k:=92) h (by omega) rfl (by omega)) ?_;rintro _ _ w1 ⟨rfl,v1,rfl⟩ ho1;refine do_ok (w':=w1) (v:=.agg #[.int .u8 64,.int .u8 8,.int .u8 1]) (by kernel_rfl) ?_;refine loop (fun vs w'=>∃(i:Nat) (v':Value),vs=[.int .i64 i]∧i≤3∧OwnS (Bld b v l).blk w w' [Bld b v' (l++(Pl.oct c).take (i+1))])
      (fun vs _=>3 - n0 vs) ⟨0,v1,rfl,by omega,by simpa[Pl.oct] using ho1⟩ ?_
     rintro vs w2 ⟨i,v2,rfl,hi,ho2⟩ _;simp only[S_plain_String_1_0,gd];rw[b_lss];by_cases hlt:(i:Int) < 3
     ·simp only[hlt,decide_true,i_t];have hi3:i=0∨i=1∨i=2:=by omega
      have h256:=c.toNat_lt;rcases hi3 with rfl|rfl|rfl
      ·refine octd_ret (t0:=undef) 64 0 (.inl rfl) (by kernel_rfl) ho2 (by simp[Pl.oct];omega) (by omega) fun v' w' h'=>?_;refine nextX ⟨1,v',rfl,by omega,?_⟩ (by simp[n0,RowKit.intOf]);have e:c.toNat / 64 % 8=c.toNat / 64:=by omega
       rw[e,List.append_assoc] at h';exact h'
      ·refine octd_ret (t0:=undef) 8 1 (.inr (.inl rfl)) (by kernel_rfl) ho2 (by simp[Pl.oct];omega) (by omega) fun v' w' h'=>?_;refine nextX ⟨2,v',rfl,by omega,?_⟩ (by simp[n0,RowKit.intOf]);rw[List.append_assoc] at h';exact h'
      ·refine octd_ret (t0:=undef) 1 2 (.inr (.inr rfl)) (by kernel_rfl) ho2 (by simp[Pl.oct];omega) (by omega) fun v' w' h'=>?_;refine nextX ⟨3,v',rfl,by omega,?_⟩ (by simp[n0,RowKit.intOf]);rw[Nat.div_one,List.append_assoc] at h';exact h'
     ·have hi3:i=3:=by omega
      subst hi3;simp only[hlt,decide_false,i_f];refine done (v':=v2) ho2 ⟨v2,?_⟩;rw[Pl.esc,if_neg hn,if_pos hc];rfl
    by_cases h4:(c.toNat:Int) < 32
    ·simp only[rs,h4,decide_true,g_un];exact oct (.inl (by omega))
    ·simp only[rs,h4,decide_false,g_un];by_cases h5:(126:Int) < (c.toNat:Int)
     ·simp only[rs,h5,decide_true,g_un];exact oct (.inr (by omega))
     ·simp only[rs,h5,decide_false,g_un];refine c_turn 0 ho rfl (writeByte_ret (c:=c) h (by omega)) ?_;rintro _ _ w1 ⟨rfl,v1,rfl⟩ ho1;exact done (v':=v1) ho1 ⟨v1,by rw[Pl.esc,if_neg hn,if_neg (by omega)]⟩
theorem pstr_ret (l:List UInt8)(w:World)(hl:l.length≤1000000):Ret prog 192 #[.string ⟨l.toArray⟩] w (fun v w'=>v=.tuple #[.string ⟨(Pl.pStr l).1.toArray⟩,.int .i64 (Pl.pStr l).2]∧Below w.heap.size w w'):=by
 refine ret_of fun K hK=>S_plain_String_ok ?_;unfold S_plain_String;rw[s_len Tryz.underlying9];by_cases h1:(32767:Int) < l.length
 ·simp only[rs,h1,decide_true];exact hK _ _ ⟨by rw[Pl.pStr,if_pos (by omega)],Below.refl _ _⟩
 ·simp only[rs,h1,decide_false];refine c_ret (write_ret [40] l [41] _ Pl.esc (by kernel_rfl) each_esc (fun c=>(Pl.esc_len c).2) rfl (by simp) (by omega) w) ?_;rintro _ w' ⟨rfl,hb⟩;exact hK _ _ ⟨by rw[Pl.pStr,if_neg (by omega)];rfl,hb⟩
theorem each_nmc:Each 194 Pl.nmc:=by
 intro b v l c w h hl;refine ret_of fun K hK=>S_plain_Name_1_ok ?_;unfold S_plain_Name_1;have ho:=OwnS.lend h;have yes:Pl.nmOk c=true→CallX prog 84 #[.pointer (some ⟨b,0,none⟩),.int .u8 c.toNat] w (pk K) fun t21 w=>K (.returned (.tuple #[])) w:=by
  intro hc;refine c_turn 0 ho rfl (writeByte_ret (c:=c) h (by omega)) ?_;rintro _ _ w1 ⟨rfl,v1,rfl⟩ ho1;exact hK _ _ ⟨_,⟨v1,by rw[Pl.nmc,if_pos hc]⟩,ho1.back⟩
 have no:Pl.nmOk c=false→DoX prog (mBuildS 76 1 #[(0,.int .u8 c.toNat)]) w (pk K) fun t24 w=>
   DoX prog (mConv 76 9 t24) w (pk K) fun t25 w=>
   CallX prog 195 #[t25] w (pk K) fun t26 w=>
   DoX prog (mBin .add 9 (.string ⟨#[35]⟩) t26) w (pk K) fun t27 w=>
   CallX prog 43 #[.pointer (some ⟨b,0,none⟩),t27] w (pk K) fun t28 w=>K (.returned (.tuple #[])) w:=by
  intro hc;refine o_new (fun b=>.slice (some ⟨b,0,none⟩) 1 1) [.int .u8 c.toNat] 5 (fun _=>by kernel_rfl) ho fun nb w1 h1=>?_;rw[c_bytes (l:=[c]) Tryz.underlying76 Tryz.underlying5 Tryz.underlying9 (h1.sl 0 rfl 1 1 1 rfl)];refine c_below h1.tail (R:=fun v=>v=.string ⟨(Oc.hex [c]).toArray⟩) (hex_ret [c] w1 (by simp)) ?_;rintro _ w2 rfl ho2;change DoX prog (mBin .add 9 (.string ⟨([35]:List UInt8).toArray⟩) (.string ⟨(Oc.hex [c]).toArray⟩)) _ _ _;have hx:=Oc.hex_length [c];rw[s_add (by simp only[List.length_cons,List.length_nil] at hx ⊢;omega)];refine c_turn 0 ho2 rfl (writeString_ret (ho2.at_ 0 rfl) (by simp only[List.length_append,List.length_cons,List.length_nil] at hx ⊢;omega)) ?_;rintro _ _ w3 ⟨_,v1,rfl⟩ ho3;exact hK _ _ ⟨_,⟨v1,by rw[Pl.nmc,if_neg (by simp[hc])]⟩,ho3.back⟩
 by_cases h1:(32:Int) < (c.toNat:Int)
 ·simp only[rs,h1,decide_true];by_cases h2:(c.toNat:Int)≤126
  ·simp only[rs,h2,decide_true];have e3:decide ((c.toNat:Int)≠35)=decide (c≠35):=by
    have:=u8d c 35 35 rfl;by_cases hc:c=35
    ·subst hc;rfl
    ·rw[decide_eq_false hc] at this;rw[decide_eq_true hc,decide_eq_true (of_decide_eq_false this)]
   by_cases h3:c≠35
   ·simp only[rs,e3,decide_eq_true h3];refine c_eq (delim_ret c w) ?_;cases hd:Oc.delim c with
   |true=>simp only[rs];exact no (by simp[Pl.nmOk,hd])
   |false=>simp only[rs];exact yes (by simp[Pl.nmOk,hd,h3];omega)
   ·simp only[rs,e3,decide_eq_false h3,g_un];exact no (by simp at h3;simp[Pl.nmOk,h3])
  ·simp only[rs,h2,decide_false,g_un];exact no (by simp[Pl.nmOk];omega)
 ·simp only[rs,h1,decide_false,g_un];exact no (by simp[Pl.nmOk];omega)
theorem pname_ret (l:List UInt8)(w:World):Ret prog 140 #[.string ⟨l.toArray⟩] w (fun v w'=>v=.tuple #[.string ⟨(Pl.pName l).1.toArray⟩,.int .i64 (Pl.pName l).2]∧Below w.heap.size w w'):=by
 refine ret_of fun K hK=>S_plain_Name_ok ?_;unfold S_plain_Name;rw[s_len Tryz.underlying9];by_cases h1:(127:Int) < l.length
 ·simp only[rs,h1,decide_true];exact hK _ _ ⟨by rw[Pl.pName,if_pos (by omega)],Below.refl _ _⟩
 ·simp only[rs,h1,decide_false];refine c_eq (indexByte_ret l 0 w) ?_;simp only[rs,Oc.indexByte_nonneg];cases h2:l.contains 0 with
 |true=>simp only[rs];exact hK _ _ ⟨by rw[Pl.pName,if_neg (by omega),if_pos h2],Below.refl _ _⟩
 |false=>
   simp only[rs];refine c_ret (write_ret [47] l [] _ Pl.nmc (by kernel_rfl) each_nmc (fun c=>Nat.le_trans (Pl.nmc_len c).2 (by omega)) rfl (by simp) (by omega) w) ?_;rintro _ w' ⟨rfl,hb⟩;exact hK _ _ ⟨by rw[Pl.pName,if_neg (by omega),if_neg (by simp at h2;simp[h2]),List.append_nil];rfl,hb⟩
end
section
open Eng Go.RowKit
def strV (p:List UInt8):Value:=.string ⟨p.toArray⟩
def strsV (ps:List (List UInt8)):List Value:=ps.map strV
theorem strsV_length (ps:List (List UInt8)):(strsV ps).length=ps.length:=by simp[strsV]
theorem strsV_get {ps:List (List UInt8)}{i:Nat}(h:i < ps.length):(strsV ps)[i]?=some (.string ⟨ps[i].toArray⟩):=by simp[strsV,strV,h]
theorem pjoin_ret (ps:List (List UInt8))(v:Value)(w:World)(hs:Sl w v 1 ps.length (strsV ps))(hb:Pl.tot ps≤1000000000000) :
  Ret prog 44 #[v] w (fun r w'=>r=.string ⟨(Pl.join ps).toArray⟩∧Below w.heap.size w w'):=by
 refine ret_of fun K hK=>S_plain_Join_ok ?_;unfold S_plain_Join;refine o_new (fun b=>.pointer (some ⟨b,0,none⟩)) [.pointer none,.slice none 0 0] 78 (fun _=>by kernel_rfl) (Own.start w) fun b w1 ho=>?_;rw[sl_len Tryz.underlying22 (ho.oldSl hs)];have hB0:∃v0,Own w w1 [Bld b v0 []]:=by
  have h1:=(ho.nilRow 5 1).swap;exact⟨_,OwnS.closeB (l:=[]) (.inl rfl) roomy_nil h1⟩
 obtain⟨v0,ho0⟩:=hB0;have hlen:=Pl.length_tot ps;refine loop (fun vs w'=>∃(i:Nat) (bv:Value),vs=[.int .u8 (Pl.lastC (Pl.join (ps.take i))).toNat,.int .i64 i]∧i≤ps.length∧Own w w' [Bld b bv (Pl.join (ps.take i))])
  (fun vs _=>ps.length - n1 vs) ⟨0,v0,rfl,by omega,ho0⟩ ?_
 rintro vs w2 ⟨i,bv,rfl,hi,ho2⟩ _;simp only[S_plain_Join_0,gd];rw[b_lss];by_cases hlt:(i:Int) < (ps.length:Int)
 ·have hi2:i < ps.length:=by omega
  simp only[hlt,decide_true,i_t];have hgt:=Pl.get_tot ps i hi2;have hjl:=Pl.join_len (ps.take i);generalize hacc:Pl.join (ps.take i)=acc at *;have hnext:Pl.join (ps.take (i+1))=Pl.glue acc ps[i]:=by rw[List.take_succ_eq_append_getElem hi2,Pl.join_snoc,hacc]
  refine join fun J2 hJ2=>?_;refine sl_ia1 (.string ⟨ps[i].toArray⟩) Tryz.underlying22 (by kernel_rfl) (ho2.oldSl hs) (by omega) (by rw[Int.toNat_natCast];exact strsV_get hi2) fun p hp=>?_;rw[l_cell (by kernel_rfl) hp];have fin:∀(bv':Value) (w':World),Own w w' [Bld b bv' (Pl.glue acc ps[i])]→J2 [.int .u8 (Pl.lastC (Pl.glue acc ps[i])).toNat] w':=by
   intro bv' w' h';refine hJ2 _ _ fun _=>?_;simp only[S_plain_Join_2,gd,rs];rw[wrap64_id (by omega) (by omega)];refine nextX ⟨i+1,bv',by rw[hnext];rfl,by omega,by rw[hnext];exact h'⟩ (by simp[n1,RowKit.intOf];omega)
  change DoX prog (mEq .eql _ _ _ _ (.string ⟨([]:List UInt8).toArray⟩)) _ _ _;rw[e_str];by_cases hp0:ps[i]=[]
  ·simp only[decide_eq_true hp0,rs];have:=fin bv w2 (by rw[hp0];exact ho2);rw[hp0] at this;exact this
  ·simp only[decide_eq_false hp0,rs];obtain⟨c,t,hct⟩:∃c t,ps[i]=c::t:=by
    cases h:ps[i] with
   |nil=>exact absurd h hp0
   |cons c t=>exact⟨c,t,rfl⟩
   refine join fun J3 hJ3=>?_;have last:∀(acc':List UInt8) (bv':Value) (w':World),Own w w' [Bld b bv' acc']→acc'.length≤acc.length+1→acc'++ps[i]=Pl.glue acc ps[i]→J3 [] w':=by
    intro acc' bv' w' h' hl' he;refine hJ3 _ _ fun _=>?_;simp only[S_plain_Join_1];refine c_turn 0 h' rfl (writeString_ret (h'.at_ 0 rfl) (by omega)) ?_;rintro _ _ w3 ⟨_,v3,rfl⟩ ho3;rw[s_len Tryz.underlying9,b_sub];have hpos:0 < ps[i].length:=List.length_pos_iff.2 hp0;rw[wrap64_id (by omega) (by omega),s_ix (c:=Pl.lastC ps[i]) Tryz.underlying9 (by omega) (by
     rw[show (((ps[i].length:Nat):Int) - 1).toNat=ps[i].length - 1 by omega];exact Pl.last_get _ hp0)]
    rw[←Pl.lastC_glue acc _ hp0];refine fin v3 w3 ?_;rw[←he];exact ho3
   refine c_eq (regular_ret _ w2) ?_;have put:((Oc.regular (Pl.lastC acc)||decide (Pl.lastC acc=47))&&Oc.regular c)=true→CallX prog 84 #[.pointer (some ⟨b,0,none⟩),(.int .u8 32)] w2 (pk K) fun t26 w=>J3 [] w:=by
    intro hc;refine c_turn 0 ho2 rfl (writeByteN_ret (k:=32) (ho2.at_ 0 rfl) (by omega) rfl (by omega)) ?_;rintro _ _ w3 ⟨rfl,v3,rfl⟩ ho3;refine last _ v3 w3 ho3 (by simp) ?_;rw[hct];simp only[Pl.glue];rw[if_pos hc];rfl
   have skip:((Oc.regular (Pl.lastC acc)||decide (Pl.lastC acc=47))&&Oc.regular c)=false→J3 [] w2:=by
    intro hc;refine last acc bv w2 ho2 (by omega) ?_;rw[hct];simp only[Pl.glue];rw[if_neg (by simp[hc])]
   have hix:∀{PK K},DoX prog (mIx 9 (.string ⟨ps[i].toArray⟩) (.int .i64 0)) w2 PK K=K (.int .u8 c.toNat) w2:=fun {PK K}=>s_ix (c:=c) Tryz.underlying9 (by omega) (by rw[hct];rfl);have e47:=u8d (Pl.lastC acc) 47 47 rfl;have rest:(Oc.regular (Pl.lastC acc)||decide (Pl.lastC acc=47))=true→CallX prog 83 #[.int .u8 c.toNat] w2 (pk K) fun t25 w=>
     IfX t25 (CallX prog 84 #[.pointer (some ⟨b,0,none⟩),(.int .u8 32)] w (pk K) fun t26 w=>J3 [] w) (J3 [] w):=by
    intro hr;refine c_eq (regular_ret c w2) ?_;cases hc:Oc.regular c with
   |true=>simp only[rs];exact put (by simp[hr,hc])
   |false=>simp only[rs];exact skip (by simp[hc])
   cases hr:Oc.regular (Pl.lastC acc) with
  |true=>
    simp only[rs,g_un,hix];exact rest (by simp[hr])
  |false=>
    simp only[rs,e47];by_cases h47:Pl.lastC acc=47
    ·simp only[decide_eq_true h47,rs,hix];exact rest (by simp[h47])
    ·simp only[decide_eq_false h47,rs,g_un];exact skip (by simp[hr,h47])
 ·have hi2:i=ps.length:=by omega
  subst hi2;simp only[hlt,decide_false,i_f];rw[List.take_length] at ho2;refine c_turn 0 ho2 rfl (bldString_ret (ho2.at_ 0 rfl)) ?_;rintro _ _ w6 ⟨rfl,rfl⟩ ho6;exact hK _ _ ⟨rfl,ho6.done⟩
end
section
open Eng Go.RowKit Go.ChangeShapes Go.WideShapes Go.ChangeAt
theorem laidMet_tail {P:Program}{x:String×DataW Unit}{l:List (String×DataW Unit)}{W:World}(h:laidMet P (x::l) W):laidMet P l W:=by
 obtain⟨ps,⟨g,t,cs,fuel,p,q,_,_,_,_,hr,rfl⟩,hn,hc⟩:=h;exact⟨q,hr,(List.nodup_append.1 hn).2.1,fun b off hm=>hc b off (by simp[hm])⟩
end
end Go.Proofs.YtkejpieaafeblaaGreatDoor

namespace Go.Proofs.YtkejpieaafeblaaGreatDoor
section
namespace Eng
open Go.RowKit
def aggN (P:Program)(T:TypeId):Option Nat:=
 match P.underlying T with
|some (.struct _)|some (.array _ _)=>(P.info? T).map (·.size)
|_=>none
def AtV (P:Program)(w:World)(T:TypeId)(a:Addr)(v:Value):Prop:=(loadVar T a).run P w=.ok v w
section
variable {S:Nat→Prop}{P:Program}{w:World}{PK:PKT}{K:VWP}
theorem AtV.cell {T:TypeId}(ht:notAgg P T=true){a:Addr}{v:Value}(h:w.cell? a=some v):AtV P w T a v:=run_loadVar_cell ht h
theorem AtV.agg {T:TypeId}{n:Nat}(ht:aggN P T=some n){b off:Nat}{cs:List Value}(hl:cs.length=n)(h:∀j v,cs[j]?=some v→w.cell? ⟨b,off+j,none⟩=some v):AtV P w T ⟨b,off,none⟩ (.agg cs.toArray):=by
 have hc:=run_loadCells_list (P:=P) w ⟨b,off,none⟩ cs (fun j v hj=>by rw[add_none];exact h j v hj);unfold aggN at ht;subst hl;unfold AtV;split at ht
 ·rename_i fs hu
  obtain⟨i,hi,h1⟩:=Option.map_eq_some_iff.1 ht;simp[loadVar,isAgg,run_underlying hu,sizeOf,typeInfo,hi,h1,hc]
 ·rename_i k e hu
  obtain⟨i,hi,h1⟩:=Option.map_eq_some_iff.1 ht;simp[loadVar,isAgg,run_underlying hu,sizeOf,typeInfo,hi,h1,hc]
 ·cases ht
theorem run_load_at {T:TypeId}{a:Addr}{v:Value}(h:AtV P w T a v):(mLoad T (.pointer (some a))).run P w=.ok (.value v) w:=by
 unfold AtV at h;exact mv_run (by simp[Instr.loadAt,Instr.sureAddr,h])
theorem l_at {T:TypeId}{a:Addr}{v:Value}(h:AtV P w T a v):DoX P (mLoad T (.pointer (some a))) w PK K=K v w:=do_eq (run_load_at h)
theorem OwnS.agg {w0:World}{L:List Ent}(ho:OwnS S w0 w L)(i:Nat){b:Nat}{cs:List Value}{E T:TypeId}(hi:L[i]?=some (.cells b cs E))(ht:aggN P T=some cs.length):AtV P w T ⟨b,0,none⟩ (.agg cs.toArray):=
 AtV.agg ht rfl fun j v hj=>by rw[Nat.zero_add];exact ho.cell i hi j hj
theorem run_store_agg {T:TypeId}{b:Nat}{cs new:List Value}{E:TypeId}(hs:(P.info? T).map (·.size)=some new.length)(hv:∀v∈new,v.oneCell'=true)(hl:cs.length=new.length)(h:w.heap[b]?=some (.cells cs.toArray E (0,0))) :
  (Instr.storeAt T (.pointer (some ⟨b,0,none⟩)) (.agg new.toArray)).run P w=.ok () (w.setRow b new.toArray):=by
 have hst:=run_storeCells_at P b 0 E new 0 cs.toArray w h (by simp;omega) hv;obtain⟨i,hi,h1⟩:=Option.map_eq_some_iff.1 hs;have hd:cs.toArray.toList.drop new.length=[]:=List.drop_eq_nil_of_le (by rw[←hl];exact Nat.le_refl _);simp only[Nat.add_zero,Nat.zero_add,List.take_zero,List.nil_append,hd,List.append_nil] at hst;have hc:(Value.agg new.toArray).cells=new.toArray:=rfl;simp[Instr.storeAt,Instr.sureAddr,storeVar,hc,sizeOf,typeInfo,hi,h1,hst]
theorem o_put {w0:World}{L:List Ent}(i:Nat){T:TypeId}{b:Nat}{cs new:List Value}{E:TypeId}(ho:OwnS S w0 w L)(hi:L[i]?=some (.cells b cs E))(hs:(P.info? T).map (·.size)=some new.length)(hv:∀v∈new,v.oneCell'=true)(hl:cs.length=new.length)
  (k:∀w',OwnS S w0 w' (L.set i (.cells b new E))→K undef w'):DoX P (mStore T (.pointer (some ⟨b,0,none⟩)) (.agg new.toArray)) w PK K:=
 do_skip (mu_run (run_store_agg hs hv hl (ho.at_ i hi))) (k _ (setRow_own ho i hi _))
theorem run_s_slice {T:TypeId}{a:List UInt8}{k k':IntKind}{lo hi:Int}(h:P.underlying T=some .string)(h0:0≤lo)(h1:lo≤hi)(h2:hi≤a.length) :
  (mSlice T (.string ⟨a.toArray⟩) (some (.int k lo)) (some (.int k' hi)) none).run P w=.ok (.value (.string ⟨((a.drop lo.toNat).take (hi.toNat - lo.toNat)).toArray⟩)) w:=by
 refine mv_run ?_;have e:(⟨a.toArray⟩:ByteArray).extract lo.toNat hi.toNat=⟨((a.drop lo.toNat).take (hi.toNat - lo.toNat)).toArray⟩:=by
  rw[str_ext (s:=(⟨a.toArray⟩:ByteArray).extract lo.toNat hi.toNat),Lib.extract_data]
 have g1:(0≤hi∧hi≤((a.length:Nat):Int)):=by omega
 have g2:(0≤lo∧lo≤((hi.toNat:Nat):Int)):=by omega
 simp only[Instr.sliceAt,Instr.slice,Instr.sliceBounds,Instr.sliceBound,asIntOf,run_underlying h,str_size];have g3:lo≤max hi 0:=by omega
 simp[run_underlying h,str_size,h2,g3,h0,g1.1,e]
theorem ret_same {f:Nat}{args:Array Value}{v:Value}{C:World→Prop}(h:Ret P f args w (fun v' w'=>v'=v∧w=w'))(hb:C w):Ret P f args w (fun v' w'=>v'=v∧C w'):=
 h.mono fun v' w' r=>⟨r.1,r.2▸hb⟩
theorem ret_grew {f:Nat}{args:Array Value}{v:Value}{w1:World}(h:Ret P f args w (fun v' w'=>v'=v∧Below w.heap.size w w'))(hb:Below w1.heap.size w1 w):Ret P f args w (fun v' w'=>v'=v∧Below w1.heap.size w1 w'):=
 h.mono fun v' w' r=>⟨r.1,(((Own.start w1).grow hb).grow r.2).done⟩
theorem ret_v1 {r1:RV}{v1:Value}{K:Ending→World→Prop}(h1:r1.read.run P w=.ok v1 w)(k:K (.returned v1) w):RetX P [r1] w K:=
 ⟨_,by simp[resRun,h1],k⟩
theorem ret_v2 {r1 r2:RV}{v1 v2:Value}{K:Ending→World→Prop}(h1:r1.read.run P w=.ok v1 w)(h2:r2.read.run P w=.ok v2 w)(k:K (.returned (.tuple #[v1,v2])) w):RetX P [r1,r2] w K:=
 ⟨_,by simp[resRun,h1,h2],k⟩
theorem ret_v3 {r1 r2 r3:RV}{v1 v2 v3:Value}{K:Ending→World→Prop}(h1:r1.read.run P w=.ok v1 w)(h2:r2.read.run P w=.ok v2 w)(h3:r3.read.run P w=.ok v3 w)(k:K (.returned (.tuple #[v1,v2,v3])) w):RetX P [r1,r2,r3] w K:=
 ⟨_,by simp[resRun,h1,h2,h3],k⟩
theorem rv_cell {T:TypeId}{a:Addr}{v:Value}(h:AtV P w T a v):(RV.cell (.pointer (some a)) T).read.run P w=.ok v w:=by
 unfold AtV at h;simp[RV.read,asAddr,h]
theorem rv_val {v:Value}:(RV.val v).read.run P w=.ok v w:=by simp[RV.read]
end
end Eng
end
section
namespace Eng
open Go.RowKit
section
variable {S:Nat→Prop}{P:Program}{w w0:World}{L:List Ent}{PK:PKT}{K:VWP}
theorem OwnS.join {w':World}{L':List Ent}(h:OwnS S w0 w L)(k:OwnS NoB w w' L'):OwnS S w0 w' (L'++L):=by
 have h':=h.grow k.below;refine⟨h'.grew,fun e he=>?_,List.pairwise_append.2 ⟨k.apart,h'.apart,fun e he f hf b hb hb'=>?_⟩⟩
 ·rcases List.mem_append.1 he with he|he
  ·obtain⟨a,b⟩:=k.all e he;refine⟨a,fun j hj=>.inr ?_⟩;rcases b j hj with h1|h1
   ·exact h1.elim
   ·exact Nat.le_trans h.size h1
  ·exact h'.all e he
 ·have h2:=f.lt (h.mem hf) b hb';rcases (k.all e he).2 b hb with h1|h1
  ·exact h1
  ·omega
theorem o_beg {l:Nat}{L0:Loop}{K:World→Prop}(i:Nat)(ho:OwnS S w0 w L)(hi:L[i]?=some (.obj l (lp L0 .ready none)))(k:∀w',OwnS S w0 w' (L.set i (.obj l (lp L0 .busy none)))→K w'):BegX P l w K:=
 ⟨_,run_beginRound (ho.at_ i hi),k _ (put_iter ho i hi)⟩
theorem o_end {l:Nat}{L0:Loop}{j:Option Code}{R:VWP}(i:Nat)(ho:OwnS S w0 w L)(hi:L[i]?=some (.obj l (lp L0 .busy none)))(k:∀w',OwnS S w0 w' (L.set i (.obj l (lp L0 (if j.isNone then .ready else .done) j)))→R (.bool j.isNone) w'):EndX P l j w R:=
 ⟨_,_,run_endRound (ho.at_ i hi),k _ (put_iter ho i hi)⟩
theorem c_yld {l:Nat}{args:List Value}{R:VWP}(h:Yld P l args w R)(k:∀v w',R v w'→K v w'):DoX P (mCallV (.func (.yield l) #[] #[]) args.toArray) w PK K:=by
 obtain⟨fn,tmps,asn,bdy,h1,h2⟩:=h;have hr:(mCallV (.func (.yield l) #[] #[]) args.toArray).run P w=.ok (.round l fn tmps asn bdy) w:=by
  rw[←h1];simp[mCallV,invoke,Deferred.ofValue,resolve]
 refine⟨?_⟩;rw[hr];refine⟨RoundIn.mono h2 ?_⟩;rintro e w' ⟨v,rfl,hv⟩;exact k v w' hv
theorem range {js:List (Option Code×(Nat→World→Prop))}{B:Nat→List Value→World→(VWP)→Prop}{np f:Nat}{fa ca:Array Value}(ho:OwnS S w0 w L)(hp:plainB P f=true)
  (h:∀(L0:Loop) (df lb:Nat) (w1:World),OwnS S w0 w1 (.obj lb (lp L0 .ready none)::.obj df (.deferred (some []))::L) →
   (∀args W R,W.heap[lb]?=some (lp L0 .ready none)→args.length=np→B lb args W R→Yld P lb args W R) →
   Calls P f (fa++#[.func (.yield lb) #[] #[]]++ca) w1 fun e w3=>∃v st pd k,e=.returned v∧st≠.busy∧w3.heap[lb]?=some (lp L0 st pd)∧(pd,k)∈js∧k df (putO w3 lb (lp L0 .exhausted pd))) :
  RangeX P none np (.func (.func f) fa ca) w B js:=by
 refine⟨f,fa,ca,w.heap.size,w.alloc (.deferred (some [])),rfl,hp,⟨rfl,rfl⟩,fun L0 _ hy=>?_⟩;exact h L0 w.heap.size (w.alloc (.deferred (some []))).heap.size _ ((ho.allocObj _).allocObj _) (fun args W R h1 h2 h3=>hy _ args W R h1 h2 h3)
theorem leave1 {rs:List RV}{K:Ending→World→Prop}{df:Nat}(i:Nat)(ho:OwnS S w0 w L)(hi:L[i]?=some (.obj df (.deferred (some []))))(k:∀w',OwnS S w0 w' (L.set i (.obj df (.deferred none)))→RetD P rs w' K):LeaveM P rs K [mkD df] .returning w:=by
 refine⟨(fun h=>by cases h),df,_,rfl,?_,k _ (put_iter ho i hi)⟩;have h:w.heap[df]?=some (.deferred (some [])):=ho.at_ i hi;simp[Instr.takeDeferred,getObj,setObj,Sem.run,h]
end
end Eng
end
end Go.Proofs.YtkejpieaafeblaaGreatDoor

namespace Go.Proofs.YtkejpieaafeblaaGreatDoor
section
namespace Eng
open Go.RowKit
section
variable {P:Program}{C:World→Prop}{K:Value→Prop}
theorem gq_tt {E:(Value→Prop)→Prop}:GQ (.bool true) true E K=E K:=propext ⟨fun x=>x.out,fun x=>⟨x⟩⟩
theorem gq_ft {E:(Value→Prop)→Prop}:GQ (.bool false) true E K=K undef:=propext ⟨fun x=>x.out,fun x=>⟨x⟩⟩
theorem gq_ff {E:(Value→Prop)→Prop}:GQ (.bool false) false E K=E K:=propext ⟨fun x=>x.out,fun x=>⟨x⟩⟩
theorem gq_tf {E:(Value→Prop)→Prop}:GQ (.bool true) false E K=K undef:=propext ⟨fun x=>x.out,fun x=>⟨x⟩⟩
theorem gq_un {want:Bool}{E:(Value→Prop)→Prop}:GQ undef want E K=K undef:=propext ⟨fun x=>x.out,fun x=>⟨x⟩⟩
def gq:=And.intro @gq_tt (And.intro @gq_ft (And.intro @gq_ff (And.intro @gq_tf @gq_un)))
theorem q_add {T:TypeId}{k:IntKind}{a b:Int}(h:K (.int k (k.wrap (a+b)))):QDo P C (mBin .add T (.int k a) (.int k b)) K:=q_do _ (fun _=>r_add) h
theorem q_ne {T:TypeId}{xo yo:Operand}{k:IntKind}{a b:Int}(h:K (.bool (decide (a≠b)))):QDo P C (mEq .neq T xo yo (.int k a) (.int k b)) K:=q_do _ (fun _=>mv_run (by simp[eqGuard,binOp,Op.intCmp,int_bne])) h
theorem q_pick {c:Bool}{a b:Value}(h:K (if c then a else b)):QDo P C (mPick (.bool c) a b) K:=q_do _ (fun _=>by simp[mPick,asBool]) h
theorem q_pf {a b:Value}(h:K b):QDo P C (mPick (.bool false) a b) K:=q_pick h
theorem q_slen {T U:TypeId}{cs:Array Bool}{a:List UInt8}(ht:P.underlying T=some .string)(h:K (.int .i64 (a.length:Int))):QDo P C (mB .len #[T] U cs #[.string ⟨a.toArray⟩]) K:=q_do _ (fun _=>run_len ht) h
theorem run_s_add {w:World}{T:TypeId}{a b:List UInt8}(h:a.length+b.length≤9223372036854775807):(mBin .add T (.string ⟨a.toArray⟩) (.string ⟨b.toArray⟩)).run P w=.ok (.value (.string ⟨(a++b).toArray⟩)) w:=by
 refine mv_run ?_;have e:IntKind.i64.max=9223372036854775807:=rfl;have e2:¬(((⟨a.toArray⟩:ByteArray).size+(⟨b.toArray⟩:ByteArray).size:Nat):Int)>IntKind.i64.max:=by rw[str_size,str_size,e];omega
 simp only[binOp,Op.stringOp,if_neg e2,str_append];rfl
theorem q_sne {T:TypeId}{xo yo:Operand}{a b:List UInt8}(h:K (.bool (decide (a≠b)))):QDo P C (mEq .neq T xo yo (.string ⟨a.toArray⟩) (.string ⟨b.toArray⟩)) K:=by
 refine q_do _ (fun _=>mv_run ?_) h;have e:(a==b)=decide (a=b):=by by_cases h:a=b<;>simp[h]
 simp[eqGuard,binOp,Op.stringOp,str_toList,e]
theorem run_sl_len {T U E:TypeId}{w:World}{cb:Array Bool}{v:Value}{sz n:Nat}{cs:List Value}(h:P.underlying T=some (.slice E))(hs:Sl w v sz n cs):(mB .len #[T] U cb #[v]).run P w=.ok (.value (.int .i64 (n:Int))) w:=by
 obtain⟨_,a,cap,rfl,_⟩:=hs;simp[mB,builtin,Builtin.len_,run_underlying h,goInt]
end
end Eng
end
section
namespace Eng
open Go.RowKit
theorem OwnS.perm {S:Nat→Prop}{w0 w:World}{L L':List Ent}(h:OwnS S w0 w L)(hp:L.Perm L'):OwnS S w0 w L':=
 ⟨h.grew,fun e he=>h.all e (hp.mem_iff.2 he),(hp.pairwise_iff (fun {x y} hxy k hy hx=>hxy k hx hy)).1 h.apart⟩
theorem OwnS.front {S:Nat→Prop}{w0 w:World}{A B C:List Ent}(h:OwnS S w0 w (A++(B++C))):OwnS S w0 w (B++(A++C)):=
 h.perm (by rw[←List.append_assoc,←List.append_assoc];exact List.Perm.append_right C List.perm_append_comm)
def loopE (L0:Loop)(lb df:Nat):List Ent:=[.obj lb (lp L0 .ready none),.obj df (.deferred (some []))]
def Seq (P:Program)(I:World→Prop)(f:Nat)(fa ca:Array Value)(F:List Ent)(vs:List Value):Prop:=
 ∀(S:Nat→Prop) (w0 w1:World) (L0:Loop) (lb df:Nat) (M0:List Ent) (R:Nat→List Ent→Prop) (K:Ending→World→Prop),
  (∀(L:List Ent) (W:World),OwnS S w0 W L→I W)→OwnS S w0 w1 (loopE L0 lb df++(M0++F))→R 0 M0 →
  (∀(k:Nat) (v:Value) (M X:List Ent) (W:World),vs[k]?=some v→R k M→OwnS S w0 W (loopE L0 lb df++(M++X)) →
   Yld P lb [v] W (fun r W'=>(r=.bool true∧∃M',R (k+1) M'∧OwnS S w0 W' (loopE L0 lb df++(M'++X)))∨(r=.bool false∧K (.returned (.tuple #[])) W'))) →
  (∀(M X:List Ent) (W:World),R vs.length M→OwnS S w0 W (loopE L0 lb df++(M++X))→K (.returned (.tuple #[])) W) →
  Calls P f (fa++#[.func (.yield lb) #[] #[]]++ca) w1 K
end Eng
end
section
open Eng Go.RowKit Go.ChangeShapes Go.WideShapes
inductive Ob where
|mk (k n g:Int) (s:List UInt8) (keys:List (List UInt8)) (kids:List Ob)
namespace Ob
def k:Ob→Int|.mk k _ _ _ _ _=>k
def n:Ob→Int|.mk _ n _ _ _ _=>n
def g:Ob→Int|.mk _ _ g _ _ _=>g
def s:Ob→List UInt8|.mk _ _ _ s _ _=>s
def keys:Ob→List (List UInt8)|.mk _ _ _ _ keys _=>keys
def kids:Ob→List Ob|.mk _ _ _ _ _ kids=>kids
 mutual
def wt:Ob→Nat
|.mk _ _ _ s keys kids=>6+s.length+Pl.tot keys+wts kids
def wts:List Ob→Nat
|[]=>0
|o::os=>wt o+wts os
end
end Ob
def SlA (A:Nat→Prop)(w:World)(v:Value)(sz n:Nat)(cs:List Value):Prop:=Sl w v sz n cs∧(∀p l c,v=.slice (some p) l c→0 < n→A p.block)∧∀a l c,v=.slice a l c→l≤c
 mutual
def OV (A:Nat→Prop)(w:World):Value→Ob→Prop
|v,.mk k n g s keys kids=>∃vk vc cs,v=.agg #[.int .i64 k,.int .i64 n,.int .i64 g,.string ⟨s.toArray⟩,vk,vc]∧SlA A w vk 1 keys.length (strsV keys)∧SlA A w vc 6 kids.length cs∧OVs A w cs kids
def OVs (A:Nat→Prop)(w:World):List Value→List Ob→Prop
|cs,[]=>cs=[]
|cs,o::os=>∃(a rest:List Value),cs=a++rest∧a.length=6∧OV A w (.agg a.toArray) o∧OVs A w rest os
end
def Kept (A:Nat→Prop)(w w':World):Prop:=∀b,A b→w'.heap[b]?=w.heap[b]?
theorem cell_kept {A:Nat→Prop}{w w':World}(h:Kept A w w'){p:Addr}{v:Value}(hp:A p.block)(hc:w.cell? p=some v):w'.cell? p=some v:=by
 have:=h p.block hp;unfold World.cell? at hc ⊢;rw[this];exact hc
theorem SlA.kept {A:Nat→Prop}{w w':World}{v:Value}{sz n:Nat}{cs:List Value}(h:SlA A w v sz n cs)(hk:Kept A w w'):SlA A w' v sz n cs:=by
 obtain⟨⟨hl,a,cap,rfl,h1,h2⟩,hA,hC⟩:=h;refine⟨⟨hl,a,cap,rfl,h1,fun p hp=>?_⟩,hA,hC⟩;obtain⟨h3,h4⟩:=h2 p hp;refine⟨h3,fun j u hj=>?_⟩;have hn:0 < n:=by
  rcases Nat.eq_zero_or_pos n with h|h
  ·subst h;rw[Nat.zero_mul] at hl;have:=(List.getElem?_eq_some_iff.1 hj).1;omega
  ·exact h
 exact cell_kept hk (hA p n cap (by rw[hp]) hn) (h4 j u hj)
 mutual
theorem OV.kept {A:Nat→Prop}{w w':World}(hk:Kept A w w'):∀(o:Ob) (v:Value),OV A w v o→OV A w' v o
|.mk k n g s keys kids,v,h=>by
  rw[OV] at h ⊢;obtain⟨vk,vc,cs,hv,h1,h2,h3⟩:=h;exact⟨vk,vc,cs,hv,h1.kept hk,h2.kept hk,OVs.kept hk kids cs h3⟩
theorem OVs.kept {A:Nat→Prop}{w w':World}(hk:Kept A w w'):∀(os:List Ob) (cs:List Value),OVs A w cs os→OVs A w' cs os
|[],cs,h=>by rw[OVs] at h ⊢;exact h
|o::os,cs,h=>by
  rw[OVs] at h ⊢;obtain⟨a,rest,he,hl,h1,h2⟩:=h;exact⟨a,rest,he,hl,OV.kept hk o _ h1,OVs.kept hk os rest h2⟩
end
 mutual
theorem OV.mono {A B:Nat→Prop}{w:World}(hAB:∀b,A b→B b):∀(o:Ob) (v:Value),OV A w v o→OV B w v o
|.mk k n g s keys kids,v,h=>by
  rw[OV] at h ⊢;obtain⟨vk,vc,cs,hv,h1,h2,h3⟩:=h;exact⟨vk,vc,cs,hv,⟨h1.1,fun p l c e hn=>hAB _ (h1.2.1 p l c e hn),h1.2.2⟩,⟨h2.1,fun p l c e hn=>hAB _ (h2.2.1 p l c e hn),h2.2.2⟩,OVs.mono hAB kids cs h3⟩
theorem OVs.mono {A B:Nat→Prop}{w:World}(hAB:∀b,A b→B b):∀(os:List Ob) (cs:List Value),OVs A w cs os→OVs B w cs os
|[],cs,h=>by rw[OVs] at h ⊢;exact h
|o::os,cs,h=>by
  rw[OVs] at h ⊢;obtain⟨a,rest,he,hl,h1,h2⟩:=h;exact⟨a,rest,he,hl,OV.mono hAB o _ h1,OVs.mono hAB os rest h2⟩
end
theorem OVs.len {A:Nat→Prop}{w:World}:∀(os:List Ob) (cs:List Value),OVs A w cs os→cs.length=os.length*6
|[],cs,h=>by rw[OVs] at h;subst h;rfl
|o::os,cs,h=>by
  rw[OVs] at h;obtain⟨a,rest,rfl,hl,_,h2⟩:=h;rw[List.length_append,hl,OVs.len os rest h2,List.length_cons];omega
theorem OVs.get {A:Nat→Prop}{w:World}:∀(os:List Ob) (cs:List Value) (i:Nat) (hi:i < os.length),OVs A w cs os→∃a:List Value,a.length=6∧OV A w (.agg a.toArray) os[i]∧∀j v,a[j]?=some v→cs[i*6+j]?=some v
|[],cs,i,hi,h=>by simp at hi
|o::os,cs,0,hi,h=>by
  rw[OVs] at h;obtain⟨a,rest,rfl,hl,h1,h2⟩:=h;refine⟨a,hl,h1,fun j v hj=>?_⟩;rw[Nat.zero_mul,Nat.zero_add,List.getElem?_append_left (List.getElem?_eq_some_iff.1 hj).1];exact hj
|o::os,cs,i+1,hi,h=>by
  rw[OVs] at h;obtain⟨a,rest,rfl,hl,h1,h2⟩:=h;obtain⟨b,hb,hv,hc⟩:=OVs.get os rest i (by simpa using hi) h2;refine⟨b,hb,hv,fun j v hj=>?_⟩;rw[List.getElem?_append_right (by omega),hl,show (i+1)*6+j - 6=i*6+j by omega];exact hc j v hj
theorem OVs.nil {A:Nat→Prop}{w:World}:OVs A w [] []:=by rw[OVs]
theorem SlA.of_cells {A:Nat→Prop}{W:World}{a:Addr}{len cap sz:Nat}{cs:List Value}(hsz:0 < sz)(hl:cs.length=len*sz)(hc:∀j u,cs[j]?=some u→W.cell? (a.add j)=some u)(hA:∀b,b < W.heap.size→A b)(hlc:len≤cap):SlA A W (.slice (some a) len cap) sz len cs:=by
 have plain:0 < len→a.spot=none∧a.block < W.heap.size:=by
  intro hn;have h0:0 < cs.length:=by rw[hl];exact Nat.mul_pos hn hsz
  have h1:=hc 0 cs[0] (List.getElem?_eq_getElem h0);have e0:a.add 0=a:=by simp[Addr.add]
  rw[e0] at h1;unfold World.cell? at h1;split at h1
  ·rename_i hb
   have hlt:=lt_of_get hb;split at h1
   ·cases h1
   ·rename_i hh;exact⟨by simpa using hh,hlt⟩
  ·cases h1
 refine⟨⟨hl,some a,cap,rfl,(fun h=>by cases h),fun p hp=>?_⟩,fun p l c e hn=>?_,fun a' l c e=>by injection e with _ e2 e3;omega⟩
 ·cases hp;refine⟨fun h=>(plain h).1,fun j u hj=>?_⟩;have hn:0 < len:=by
   rcases Nat.eq_zero_or_pos len with h|h
   ·subst h;rw[Nat.zero_mul] at hl;have:=(List.getElem?_eq_some_iff.1 hj).1;omega
   ·exact h
  have h1:=hc j u hj;obtain⟨b,off,spot⟩:=a;have:=(plain hn).1;simp only at this;subst this;rw[show (⟨b,off,none⟩:Addr).add j=⟨b,off+j,none⟩ from add_none b off j] at h1;exact h1
 ·injection e with e _ _
  cases e;exact hA _ (plain hn).2
theorem SlA.nil (A:Nat→Prop)(w:World)(sz cap:Nat):SlA A w (.slice none 0 cap) sz 0 []:=⟨Sl.nil w sz cap,(fun p l c e _=>by injection e with e _ _;cases e),fun a l c e=>by injection e with _ e2 e3;omega⟩
end
section
open Go
namespace Vl
def used (k:Int):Option (Bool×Bool×Bool×Bool×Bool):=
 if k=0 then some (false,false,false,false,false)
 else if k=1∨k=2∨k=3 then some (true,false,false,false,false)
 else if k=4∨k=5 then some (false,false,true,false,false)
 else if k=6 then some (false,false,false,false,true)
 else if k=7 then some (false,false,false,true,true)
 else if k=8 then some (true,true,false,false,false)
 else if k=9 then some (false,false,true,true,true)
 else none
def usesOk (o:Ob):Bool:=
 match used o.k with
|none=>false
|some (n,g,s,ks,cs)=>(n||decide (o.n=0))&&(g||decide (o.g=0))&&(s||decide (o.s=[]))&&(ks||decide (o.keys=[]))&&(cs||decide (o.kids.length=0))
def fits (o:Ob):Bool:=
 if o.k=1 then decide (0≤o.n∧o.n≤1)
 else if o.k=2 then decide (-2147483647≤o.n∧o.n≤2147483647)
 else if o.k=3 then decide (-1073741824≤o.n∧o.n≤1073741824)
 else if o.k=8 then decide (1≤o.n∧o.n≤8191)&&decide (0≤o.g∧o.g≤65535)
 else true
def long (k:Int):Nat:=if k=5 then 127 else if k=9 then 1048576 else 32767
def name (s:List UInt8):Bool:=decide (s.length≤127)&&decide ((0:UInt8) ∉ s)
def lenK:List UInt8:=[76,101,110,103,116,104]
abbrev less (a b:List UInt8):Bool:=Op.bytesLess a b
def keyAt (o:Ob)(i:Nat):Bool:=
 name (o.keys.getD i [])&&(decide (i=0)||less (o.keys.getD (i - 1) []) (o.keys.getD i []))&&!(decide (o.k=9)&&decide (o.keys.getD i []=lenK))&&decide ((o.kids.getD i (.mk 0 0 0 [] [] [])).k≠0)
def rising (o:Ob):Bool:=decide (o.keys.length=o.kids.length)&&(List.range o.keys.length).all (keyAt o)
def form (o:Ob):Bool:=(!(decide (o.k=5))||name o.s)&&(!(decide (o.k=7∨o.k=9))||rising o)
def why (d:Nat)(o:Ob):Int:=
 if 24 < d then 7
 else if usesOk o=false∨(o.k=9∧1 < d) then 10
 else if fits o=false then 2
 else if long o.k < o.s.length then 5
 else if 8191 < o.kids.length then 6
 else if form o=false then 3
 else 0
 mutual
def check (d:Nat):Ob→Int
|.mk k n g s keys kids=>if why d (.mk k n g s keys kids)≠0 then why d (.mk k n g s keys kids) else checks (d+1) kids
def checks (d:Nat):List Ob→Int
|[]=>0
|o::os=>if check d o≠0 then check d o else checks d os
end
theorem check_eq (d:Nat)(o:Ob):check d o=if why d o≠0 then why d o else checks (d+1) o.kids:=by cases o;rw[check];rfl
 mutual
def size:Ob→Nat
|.mk _ _ _ s keys kids=>1+s.length / 50+(keys.map fun k=>k.length / 50).sum+sizes kids
def sizes:List Ob→Nat
|[]=>0
|o::os=>size o+sizes os
end
theorem size_eq (o:Ob):size o=1+o.s.length / 50+(o.keys.map fun k=>k.length / 50).sum+sizes o.kids:=by cases o;rw[size];rfl
theorem tot50 (l:List (List UInt8)):(l.map fun k=>k.length / 50).sum≤Pl.tot l:=by
 induction l with
|nil=>simp
|cons a l ih=>simp only[Pl.tot,List.map_cons,List.sum_cons] at ih ⊢;omega
 mutual
theorem size_wt:∀o:Ob,size o≤o.wt
|.mk k n g s keys kids=>by
  have:=sizes_wt kids;have:=tot50 keys;rw[size,Ob.wt];omega
theorem sizes_wt:∀os:List Ob,sizes os≤Ob.wts os
|[]=>by rw[sizes,Ob.wts];omega
|o::os=>by
  have:=size_wt o;have:=sizes_wt os;rw[sizes,Ob.wts];omega
end
end Vl
end
section
open Go
namespace Vl
theorem less_lt (a b:List UInt8):less a b=true↔a < b:=by rw[less,bytesLess_eq,decide_eq_true_eq]
theorem less_trans {a b c:List UInt8}(h:less a b=true)(k:less b c=true):less a c=true:=by
 rw[less_lt] at *;exact List.lt_trans h k
theorem less_irrefl (a:List UInt8):less a a=false:=by
 cases h:less a a with
|false=>rfl
|true=>rw[less_lt] at h;exact absurd h (List.lt_irrefl _)
theorem less_total {a b:List UInt8}(h:less a b=false)(h':a≠b):less b a=true:=by
 have h1:¬a < b:=by rw[←less_lt,h];simp
 rw[less_lt];rcases Classical.em (b < a) with h2|h2
 ·exact h2
 ·exact absurd (List.le_antisymm (List.not_lt.1 h2) (List.not_lt.1 h1)) h'
def Rise (l:List (List UInt8)):Prop:=l.Pairwise fun a b=>less a b=true
def place (l:List (List UInt8))(x:List UInt8):Nat:=(l.takeWhile fun k=>less k x).length
def hit (l:List (List UInt8))(x:List UInt8):Bool:=decide (l[place l x]?=some x)
theorem takeWhile_at {α:Type}{p:α→Bool}:∀(l:List α) (i:Nat),i≤l.length→(∀m (h:m < l.length),m < i→p l[m]=true)→(∀h:i < l.length,p l[i]=false)→(l.takeWhile p).length=i
|[],i,hi,_,_=>by simp at hi;simp[hi]
|a::l,0,_,_,h=>by
  have:=h (by simp);rw[List.getElem_cons_zero] at this;simp[List.takeWhile_cons,this]
|a::l,i+1,hi,h1,h2=>by
  have h0:=h1 0 (by simp) (by omega);rw[List.getElem_cons_zero] at h0;rw[List.takeWhile_cons,h0];simp only[if_true,List.length_cons];rw[takeWhile_at l i (by simpa using hi) (fun m hm hmi=>by
   have:=h1 (m+1) (by simpa using hm) (by omega)
   rwa [List.getElem_cons_succ] at this) (fun h=>by
   have:=h2 (by simpa using h)
   rwa [List.getElem_cons_succ] at this)]
theorem place_le (l:List (List UInt8))(x:List UInt8):place l x≤l.length:=(List.takeWhile_prefix _).length_le
theorem place_at {l:List (List UInt8)}{x:List UInt8}{i:Nat}(hi:i≤l.length)(h1:∀m (h:m < l.length),m < i→less l[m] x=true)(h2:∀h:i < l.length,less l[i] x=false):place l x=i:=takeWhile_at l i hi h1 h2
theorem place_lt {l:List (List UInt8)}{x:List UInt8}{m:Nat}(h:m < place l x):less (l[m]'(Nat.lt_of_lt_of_le h (place_le l x))) x=true:=by
 unfold place at h;have hm:=List.all_takeWhile (l:=l) (p:=fun k=>less k x);have h1:(l.takeWhile fun k=>less k x)[m]∈l.takeWhile fun k=>less k x:=List.getElem_mem h;have h2:=List.all_eq_true.1 hm _ h1;have h3:(l.takeWhile fun k=>less k x)[m]=l[m]'(Nat.lt_of_lt_of_le h (place_le l x)):=by
  have hp:(l.takeWhile fun k=>less k x) <+: l:=List.takeWhile_prefix _;exact hp.getElem h
 rw[h3] at h2;exact h2
theorem place_ge {l:List (List UInt8)}{x:List UInt8}(h:place l x < l.length):less l[place l x] x=false:=by
 unfold place at h ⊢
 induction l with
|nil=>simp at h
|cons a l ih=>
  cases ha:less a x with
 |false=>simp only[List.takeWhile_cons,ha];simpa using ha
 |true=>
   simp only[List.takeWhile_cons,ha,if_true,List.length_cons] at h ⊢;rw[List.getElem_cons_succ];exact ih (by simpa using h)
theorem rise_get {l:List (List UInt8)}(h:Rise l){i j:Nat}(hij:i < j)(hj:j < l.length):less (l[i]'(by omega)) l[j]=true:=List.pairwise_iff_getElem.1 h i j (by omega) hj hij
def ob0:Ob:=.mk 0 0 0 [] [] []
def keyed (o:Ob):Bool:=decide (o.k=7)||decide (o.k=9)
def get (o:Ob)(key:List UInt8):Option Ob:=if keyed o then (if o.keys.idxOf key < o.keys.length then o.kids[o.keys.idxOf key]? else none) else none
def put (o:Ob)(key:List UInt8)(v:Ob):Ob:=
 .mk o.k o.n o.g o.s (o.keys.take (place o.keys key)++key::o.keys.drop (place o.keys key+if hit o.keys key then 1 else 0)) (o.kids.take (place o.keys key)++v::o.kids.drop (place o.keys key+if hit o.keys key then 1 else 0))
def dropK (key:List UInt8):List (List UInt8)→List Ob→List (List UInt8)×List Ob
|k::ks,c::cs=>if k=key then dropK key ks cs else (k::(dropK key ks cs).1,c::(dropK key ks cs).2)
|_,_=>([],[])
def without (o:Ob)(key:List UInt8):Ob:=.mk o.k o.n o.g o.s (dropK key o.keys o.kids).1 (dropK key o.keys o.kids).2
def right (o:Ob):Ob×Int:=if check 1 o≠0 then (ob0,check 1 o) else (o,0)
def set (o:Ob)(key:List UInt8)(v:Ob):Ob×Int:=
 if keyed o=false then (ob0,10) else if check 1 o≠0 then (ob0,check 1 o) else if v.k=0 then (without o key,0) else right (put o key v)
theorem valid_keys {d:Nat}{o:Ob}(h:check d o=0)(hk:keyed o=true):Rise o.keys∧o.keys.length=o.kids.length:=by
 rw[check_eq] at h;split at h
 ·rename_i hw;exact absurd h hw
 ·rename_i hw
  have hw:=Classical.not_not.1 hw;unfold why at hw;split at hw
  ·cases hw
  split at hw
  ·cases hw
  split at hw
  ·cases hw
  split at hw
  ·cases hw
  split at hw
  ·cases hw
  split at hw
  ·cases hw
  rename_i hf
  have hf:form o=true:=by simpa using hf
  have h79:o.k=7∨o.k=9:=by
   unfold keyed at hk;simpa using hk
  have hr:rising o=true:=by
   unfold form at hf;simp only[Bool.and_eq_true] at hf;have:=hf.2;rw[decide_eq_true h79] at this;simpa using this
  unfold rising at hr;simp only[Bool.and_eq_true,decide_eq_true_eq] at hr;refine⟨?_,hr.1⟩;have step:∀i,i+1 < o.keys.length→less (o.keys.getD i []) (o.keys.getD (i+1) [])=true:=by
   intro i hi;have:=List.all_eq_true.1 hr.2 (i+1) (List.mem_range.2 hi);unfold keyAt at this;simp only[Bool.and_eq_true,Bool.or_eq_true] at this;have:=this.1.1.2;rcases this with h0|h0
   ·have:=of_decide_eq_true h0;omega
   ·simpa using h0
  have gd:∀i (h:i < o.keys.length),o.keys.getD i []=o.keys[i]:=fun i h=>by rw[List.getD_eq_getElem?_getD,List.getElem?_eq_getElem h];rfl
  refine List.pairwise_iff_getElem.2 fun i j hi hj hij=>?_;have:∀d,∀j (hj:j < o.keys.length),j=i+1+d→less o.keys[i] o.keys[j]=true:=by
   intro d
   induction d with
  |zero=>
    intro j hj he;have:=step i (by omega);rw[gd i hi,gd (i+1) (by omega)] at this;subst he;exact this
  |succ d ih=>
    intro j hj he;have h1:=ih (i+1+d) (by omega) rfl;have h2:=step (i+1+d) (by omega);rw[gd _ (by omega),gd _ (by omega)] at h2;subst he;exact less_trans h1 h2
  exact this (j - (i+1)) j hj (by omega)
theorem dropK_none {key:List UInt8}:∀{ks:List (List UInt8)} {cs:List Ob},ks.length=cs.length→key ∉ ks→dropK key ks cs=(ks,cs)
|[],[],_,_=>rfl
|k::ks,c::cs,hl,hn=>by
  rw[dropK,if_neg (fun e=>hn (by simp[e])),dropK_none (by simpa using hl) (fun h=>hn (by simp[h]))]
|[],_::_,hl,_=>by simp at hl
|_::_,[],hl,_=>by simp at hl
theorem dropK_at {key:List UInt8}:∀{ks:List (List UInt8)} {cs:List Ob} {i:Nat},ks.length=cs.length→ks[i]?=some key→(∀m (h:m < ks.length),m≠i→ks[m]≠key)→dropK key ks cs=(ks.take i++ks.drop (i+1),cs.take i++cs.drop (i+1))
|[],[],_,_,h,_=>by simp at h
|k::ks,c::cs,0,hl,h,hn=>by
  simp only[List.getElem?_cons_zero,Option.some.injEq] at h;rw[dropK,if_pos h,dropK_none (by simpa using hl)]
  ·simp
  ·intro hm;obtain⟨m,hml,rfl⟩:=List.getElem_of_mem hm;exact hn (m+1) (by simpa using hml) (by omega) (by simp)
|k::ks,c::cs,i+1,hl,h,hn=>by
  have h0:=hn 0 (by simp) (by omega);rw[List.getElem_cons_zero] at h0;rw[dropK,if_neg h0,dropK_at (i:=i) (by simpa using hl) (by simpa using h) (fun m hm hmi=>by
   have:=hn (m+1) (by simpa using hm) (by omega)
   rwa [List.getElem_cons_succ] at this)]
  simp
|[],_::_,_,hl,_,_=>by simp at hl
|_::_,[],_,hl,_,_=>by simp at hl
theorem rise_ne {l:List (List UInt8)}(h:Rise l){i j:Nat}(hi:i < l.length)(hj:j < l.length)(hij:i≠j):l[i]≠l[j]:=by
 intro e;rcases Nat.lt_or_ge i j with h1|h1
 ·have:=rise_get h h1 hj;rw[e,less_irrefl] at this;cases this
 ·have:=rise_get h (show j < i by omega) hi;rw[e,less_irrefl] at this;cases this
theorem not_hit {l:List (List UInt8)}(h:Rise l){x:List UInt8}(hh:hit l x=false):x ∉ l:=by
 intro hm;obtain⟨m,hml,rfl⟩:=List.getElem_of_mem hm;have hp:place l l[m]=m:=place_at (by omega) (fun j hj hjm=>rise_get h hjm hml) (fun _=>less_irrefl _);unfold hit at hh;rw[hp,List.getElem?_eq_getElem hml] at hh;simp at hh
theorem dropK_rise {o:Ob}{d:Nat}(h:check d o=0)(hk:keyed o=true)(key:List UInt8):without o key=if hit o.keys key then .mk o.k o.n o.g o.s (o.keys.take (place o.keys key)++o.keys.drop (place o.keys key+1)) (o.kids.take (place o.keys key)++o.kids.drop (place o.keys key+1)) else o:=by
 obtain⟨hr,hl⟩:=valid_keys h hk;cases hh:hit o.keys key with
|true=>
  have hi:o.keys[place o.keys key]?=some key:=of_decide_eq_true hh;have hlt:place o.keys key < o.keys.length:=(List.getElem?_eq_some_iff.1 hi).1;have hg:o.keys[place o.keys key]=key:=(List.getElem?_eq_some_iff.1 hi).2;unfold without;rw[dropK_at hl hi (fun m hm hne=>by rw[←hg];exact rise_ne hr hm hlt hne)];rfl
|false=>
  unfold without;rw[dropK_none hl (not_hit hr hh)];cases o;rfl
end Vl
end
section
open Go
namespace Vl
theorem tot_split (l:List (List UInt8))(i:Nat):Pl.tot (l.take i)+Pl.tot (l.drop i)=Pl.tot l:=by
 rw[←Pl.tot_append,List.take_append_drop]
theorem wts_app:∀a b:List Ob,Ob.wts (a++b)=Ob.wts a+Ob.wts b
|[],b=>by rw[List.nil_append,Ob.wts];omega
|o::a,b=>by rw[List.cons_append,Ob.wts,Ob.wts,wts_app a b];omega
theorem wts_split (l:List Ob)(i:Nat):Ob.wts (l.take i)+Ob.wts (l.drop i)=Ob.wts l:=by
 rw[←wts_app,List.take_append_drop]
theorem drop_tot (l:List (List UInt8))(i j:Nat)(h:i≤j):Pl.tot (l.drop j)≤Pl.tot (l.drop i):=by
 have:=tot_split (l.drop i) (j - i);rw[List.drop_drop,show i+(j - i)=j by omega] at this;omega
theorem drop_wts (l:List Ob)(i j:Nat)(h:i≤j):Ob.wts (l.drop j)≤Ob.wts (l.drop i):=by
 have:=wts_split (l.drop i) (j - i);rw[List.drop_drop,show i+(j - i)=j by omega] at this;omega
theorem wt_eq (o:Ob):o.wt=6+o.s.length+Pl.tot o.keys+Ob.wts o.kids:=by cases o;rw[Ob.wt];rfl
theorem put_wt (o:Ob)(key:List UInt8)(v:Ob):(put o key v).wt≤o.wt+(key.length+1)+v.wt:=by
 rw[wt_eq (put o key v),wt_eq o];rw[show (put o key v).s=o.s from rfl,show (put o key v).keys=o.keys.take (place o.keys key)++key::o.keys.drop (place o.keys key+if hit o.keys key then 1 else 0) from rfl,
  show (put o key v).kids=o.kids.take (place o.keys key)++v::o.kids.drop (place o.keys key+if hit o.keys key then 1 else 0) from rfl]
 rw[Pl.tot_append,wts_app];have h1:=tot_split o.keys (place o.keys key);have h2:=drop_tot o.keys (place o.keys key) (place o.keys key+if hit o.keys key then 1 else 0) (by omega);have h3:=wts_split o.kids (place o.keys key);have h4:=drop_wts o.kids (place o.keys key) (place o.keys key+if hit o.keys key then 1 else 0) (by omega);have h5:∀l,Pl.tot (key::l)=key.length+1+Pl.tot l:=fun l=>by simp[Pl.tot]
 rw[h5,Ob.wts];omega
theorem dropK_wt (key:List UInt8):∀(ks:List (List UInt8)) (cs:List Ob),Pl.tot (dropK key ks cs).1≤Pl.tot ks∧Ob.wts (dropK key ks cs).2≤Ob.wts cs
|[],cs=>by simp[dropK,Pl.tot,Ob.wts]
|k::ks,[]=>by simp[dropK,Pl.tot,Ob.wts]
|k::ks,c::cs=>by
  have h5:∀a l,Pl.tot (a::l)=a.length+1+Pl.tot l:=fun a l=>by simp[Pl.tot]
  obtain⟨h1,h2⟩:=dropK_wt key ks cs;rw[dropK];split
  ·rw[h5,Ob.wts];exact⟨by omega,by omega⟩
  ·rw[h5,h5,Ob.wts,Ob.wts];exact⟨by omega,by omega⟩
theorem without_wt (o:Ob)(key:List UInt8):(without o key).wt≤o.wt:=by
 rw[wt_eq (without o key),wt_eq o];have:=dropK_wt key o.keys o.kids;rw[show (without o key).s=o.s from rfl,show (without o key).keys=(dropK key o.keys o.kids).1 from rfl,show (without o key).kids=(dropK key o.keys o.kids).2 from rfl];omega
theorem right_wt (o:Ob):(right o).1.wt≤o.wt:=by
 unfold right;split
 ·show ob0.wt≤_;rw[wt_eq ob0,wt_eq o];show 6+0+Pl.tot []+Ob.wts []≤_;simp[Pl.tot,Ob.wts];omega
 ·exact Nat.le_refl _
theorem set_wt (o:Ob)(key:List UInt8)(v:Ob):(set o key v).1.wt≤o.wt+(key.length+1)+v.wt:=by
 have h0:ob0.wt≤o.wt:=by
  rw[wt_eq ob0,wt_eq o];show 6+0+Pl.tot []+Ob.wts []≤_;simp[Pl.tot,Ob.wts];omega
 unfold set;split
 ·simp only;omega
 split
 ·simp only;omega
 split
 ·have:=without_wt o key;simp only;omega
 ·exact Nat.le_trans (right_wt _) (put_wt o key v)
end Vl
end
section
open Go
namespace Vl
theorem rise_put {o:Ob}{key:List UInt8}{v:Ob}(h:Rise o.keys)(hl:o.keys.length=o.kids.length):Rise (put o key v).keys∧(put o key v).keys.length=(put o key v).kids.length:=by
 have hp:=place_le o.keys key;refine⟨?_,?_⟩
 ·show Rise (o.keys.take (place o.keys key)++key::o.keys.drop (place o.keys key+if hit o.keys key then 1 else 0));have hlo:∀x∈o.keys.take (place o.keys key),less x key=true:=by
   intro x hx;obtain⟨m,hm,rfl⟩:=List.getElem_of_mem hx;rw[List.length_take] at hm;rw[List.getElem_take];exact place_lt (by omega)
  have hhi:∀x∈o.keys.drop (place o.keys key+if hit o.keys key then 1 else 0),less key x=true:=by
   intro x hx;cases hh:hit o.keys key with
  |true=>
    rw[hh] at hx;obtain⟨m,hm,rfl⟩:=List.getElem_of_mem hx;simp only[if_true,List.length_drop] at hm;have hi:o.keys[place o.keys key]?=some key:=of_decide_eq_true hh;have hg:o.keys[place o.keys key]=key:=(List.getElem?_eq_some_iff.1 hi).2;have:=rise_get h (i:=place o.keys key) (j:=place o.keys key+1+m) (by omega) (by omega);rw[hg] at this;simpa using this
  |false=>
    rw[hh] at hx;obtain⟨m,hm,rfl⟩:=List.getElem_of_mem hx;simp only[Bool.false_eq_true,if_false,List.length_drop] at hm;have hlt:place o.keys key < o.keys.length:=by omega
    have hge:=place_ge hlt;have hne:o.keys[place o.keys key]≠key:=by
     intro e;unfold hit at hh;rw[List.getElem?_eq_getElem hlt,e] at hh;simp at hh
    have hk:=less_total hge hne;rcases Nat.eq_zero_or_pos m with h0|h0
    ·subst h0;simpa using hk
    ·have:=rise_get h (i:=place o.keys key) (j:=place o.keys key+m) (by omega) (by omega);simpa using less_trans hk this
  refine List.pairwise_append.2 ⟨h.sublist (List.take_sublist _ _),List.pairwise_cons.2 ⟨hhi,h.sublist (List.drop_sublist _ _)⟩,fun a ha b hb=>?_⟩;rcases List.mem_cons.1 hb with rfl|hb
  ·exact hlo a ha
  ·exact less_trans (hlo a ha) (hhi b hb)
 ·show (o.keys.take (place o.keys key)++key::o.keys.drop (place o.keys key+if hit o.keys key then 1 else 0)).length=(o.kids.take (place o.keys key)++v::o.kids.drop (place o.keys key+if hit o.keys key then 1 else 0)).length;simp only[List.length_append,List.length_take,List.length_cons,List.length_drop];omega
end Vl
end
section
open Go
namespace Lx
open Oc
def eol (c:UInt8):Bool:=decide (c=13)||decide (c=10)
def skipF:Bool→List UInt8→Nat
|_,[]=>0
|true,c::t=>1+skipF (!eol c) t
|false,c::t=>if c=37 then 1+skipF true t else if white c then 1+skipF false t else 0
def skip (s:List UInt8)(k:Nat):Nat:=k+skipF false (s.drop k)
def skipI (s:List UInt8)(k:Int):Int:=if k < 0∨(s.length:Int) < k then k else ((skip s k.toNat:Nat):Int)
def lineF:List UInt8→Nat
|[]=>0
|c::t=>if c=10 then 1 else if c=13 then (if t.head?=some 10 then 2 else 1) else 1+lineF t
def line (s:List UInt8)(k:Nat):Nat:=k+lineF (s.drop k)
theorem skipF_le:∀(b:Bool) (l:List UInt8),skipF b l≤l.length
|_,[]=>by simp[skipF]
|true,c::t=>by have:=skipF_le (!eol c) t;simp only[skipF,List.length_cons];omega
|false,c::t=>by
  have h1:=skipF_le true t;have h2:=skipF_le false t;simp only[skipF,List.length_cons];split
  ·omega
  ·split<;>omega
theorem lineF_le:∀l:List UInt8,lineF l≤l.length
|[]=>by simp[lineF]
|c::t=>by
  have:=lineF_le t;simp only[lineF,List.length_cons];split
  ·omega
  ·split
   ·split
    ·rename_i h
     cases t with
    |nil=>cases h
    |cons d t=>simp
    ·omega
   ·omega
theorem lineF_pos (c:UInt8)(t:List UInt8):1≤lineF (c::t):=by
 simp only[lineF];split
 ·omega
 ·split
  ·split<;>omega
  ·omega
theorem skip_le (s:List UInt8){k:Nat}(h:k≤s.length):skip s k≤s.length:=by
 have:=skipF_le false (s.drop k);rw[List.length_drop] at this;unfold skip;omega
theorem drop_cons {s:List UInt8}{i:Nat}(h:i < s.length):s.drop i=s[i]::s.drop (i+1):=List.drop_eq_getElem_cons h
def digit (c:UInt8):Int:=
 if 48≤c.toNat∧c.toNat≤57 then (c.toNat:Int) - 48
 else if 65≤c.toNat∧c.toNat≤70 then (c.toNat:Int) - 65+10
 else if 97≤c.toNat∧c.toNat≤102 then (c.toNat:Int) - 97+10
 else -1
theorem digit_bd (c:UInt8):-1≤digit c∧digit c≤15:=by
 unfold digit;split
 ·omega
 ·split
  ·omega
  ·split<;>omega
def byte (a b:Int):UInt8:=UInt8.ofNat (16*a+b).toNat
def unhex:List UInt8→Option (List UInt8)
|[]=>some []
|[_]=>none
|a::b::t=>if digit a < 0∨digit b < 0 then none else (unhex t).map (byte (digit a) (digit b)::·)
def unhexE (l:List UInt8):List UInt8×Int:=match unhex l with|some x=>(x,0)|none=>([],3)
end Lx
end
section
open Go
namespace Lx
open Oc
structure Tok where
 k:Int
 a:Int
 t:Int
 n:Int
 s:List UInt8
 deriving DecidableEq
def none_:Tok:=⟨0,0,0,0,[]⟩
def refused (e:Int):Tok×Int:=(none_,e)
def told (k a t:Int)(x:List UInt8)(most:Int):Tok×Int:=if most < (x.length:Int) then refused 5 else (⟨k,a,t,0,x⟩,0)
def runF:List UInt8→Nat
|[]=>0
|c::t=>if regular c then 1+runF t else 0
def run (s:List UInt8)(i:Nat):Nat:=i+runF (s.drop i)
theorem runF_le:∀l:List UInt8,runF l≤l.length
|[]=>by simp[runF]
|c::t=>by
  have:=runF_le t;simp only[runF,List.length_cons];split<;>omega
theorem run_le (s:List UInt8){k:Nat}(h:k≤s.length):run s k≤s.length:=by
 have:=runF_le (s.drop k);rw[List.length_drop] at this;unfold run;omega
def cut (s:List UInt8)(i j:Nat):List UInt8:=(s.drop i).take (j - i)
def nameF:List UInt8→Option (List UInt8)
|[]=>some []
|c::t=>
  if c=35 then match t with
  |a::b::t=>if digit a < 0∨digit b < 0∨16*digit a+digit b=0 then none else (nameF t).map (byte (digit a) (digit b)::·)
  |_=>none
  else (nameF t).map (c::·)
theorem nameF_ne {c:UInt8}{t:List UInt8}(h:¬c=35):nameF (c::t)=(nameF t).map (c::·):=by
 cases t with
|nil=>simp[nameF,h]
|cons a t=>cases t<;>simp[nameF,h]
def name (s:List UInt8)(at_:Nat):Tok×Int:=
 match nameF (cut s (at_+1) (run s (at_+1))) with
|none=>refused 3
|some x=>told 4 at_ (run s (at_+1)) x 127
def oct (c:UInt8):Bool:=decide (48≤c.toNat)&&decide (c.toNat≤55)
def octF:Nat→Nat→List UInt8→Nat×Nat
|0,n,_=>(n,0)
|_+1,n,[]=>(n,0)
|m+1,n,c::t=>if oct c then ((octF m (8*n+(c.toNat - 48)) t).1,(octF m (8*n+(c.toNat - 48)) t).2+1) else (n,0)
def escL (c:UInt8):Option UInt8:=if c=110 then some 10 else if c=114 then some 13 else if c=116 then some 9 else if c=98 then some 8 else if c=102 then some 12 else none
def escF:List UInt8→List UInt8×Nat
|[]=>([],0)
|c::t=>match escL c with
 |some b=>([b],1)
 |none=>if eol c then ([],lineF (c::t)) else if 0 < (octF 3 0 (c::t)).2 then ([UInt8.ofNat (octF 3 0 (c::t)).1],(octF 3 0 (c::t)).2) else ([c],1)
def textG:Nat→Nat→List UInt8→Option (List UInt8×Nat)
|_,_,[]=>none
|k+1,o,_::t=>(textG k o t).map fun r=>(r.1,r.2+1)
|0,o,c::t=>
  if eol c then (textG (lineF (c::t) - 1) o t).map fun r=>(10::r.1,r.2+1)
  else if c=92 then if t=[] then none else (textG (escF t).2 o t).map fun r=>((escF t).1++r.1,r.2+1)
  else if c=40 then (textG 0 (o+1) t).map fun r=>(c::r.1,r.2+1)
  else if c=41 then if o≤1 then some ([],1) else (textG 0 (o - 1) t).map fun r=>(c::r.1,r.2+1)
  else (textG 0 o t).map fun r=>(c::r.1,r.2+1)
theorem textG_skip:∀(k o:Nat) (l:List UInt8),k≤l.length→textG k o l=(textG 0 o (l.drop k)).map fun r=>(r.1,r.2+k)
|0,o,l,_=>by simp
|k+1,o,[],h=>by simp at h
|k+1,o,c::t,h=>by
  have ih:=textG_skip k o t (by simpa using h);simp only[textG,ih,List.drop_succ_cons,Option.map_map]
  congr 1
theorem octF_le:∀(m n:Nat) (l:List UInt8),(octF m n l).2≤l.length∧(octF m n l).2≤m
|0,n,l=>by simp[octF]
|m+1,n,[]=>by simp[octF]
|m+1,n,c::t=>by
  have:=octF_le m (8*n+(c.toNat - 48)) t;simp only[octF];split<;>simp<;>omega
theorem escF_le (l:List UInt8):(escF l).2≤l.length:=by
 cases l with
|nil=>simp[escF]
|cons c t=>
  simp only[escF];split
  ·simp
  ·split
   ·exact lineF_le _
   ·split
    ·exact (octF_le _ _ _).1
    ·simp
def text (s:List UInt8)(at_:Nat):Tok×Int:=
 match textG 0 1 (s.drop (at_+1)) with
|none=>refused 4
|some r=>told 3 at_ (at_+1+r.2:Nat) r.1 32767
def hexF:Int→List UInt8→(List UInt8×Nat) ⊕ Int
|_,[]=>.inr 4
|h,c::t=>
  if c=62 then .inl (if 0≤h then [byte h 0] else [],1)
  else if white c then match hexF h t with|.inl r=>.inl (r.1,r.2+1)|.inr e=>.inr e
  else if digit c < 0 then .inr 3
  else if h < 0 then match hexF (digit c) t with|.inl r=>.inl (r.1,r.2+1)|.inr e=>.inr e
  else match hexF (-1) t with|.inl r=>.inl (byte h (digit c)::r.1,r.2+1)|.inr e=>.inr e
def hex (s:List UInt8)(at_:Nat):Tok×Int:=
 match hexF (-1) (s.drop (at_+1)) with
|.inr e=>refused e
|.inl r=>told 3 at_ (at_+1+r.2:Nat) r.1 32767
def sgn (c:UInt8):Bool:=decide (c=43)||decide (c=45)
def dig (c:UInt8):Bool:=decide (48≤c.toNat)&&decide (c.toNat≤57)
def unsign:List UInt8→List UInt8
|[]=>[]
|c::t=>if sgn c then t else c::t
def intForm (t:List UInt8):Bool:=!(unsign t).isEmpty&&(unsign t).all dig
def val (n:Nat)(l:List UInt8):Nat:=l.foldl (fun n c=>10*n+(c.toNat - 48)) n
def whole (t:List UInt8):Int×Int:=
 if 2147483647 < val 0 (unsign t) then (0,2) else (if t.head?=some 45 then -(val 0 (unsign t):Int) else (val 0 (unsign t):Int),0)
def wordT (t:List UInt8)(a b:Int):Tok×Int:=
 if intForm t then (if (whole t).2≠0 then refused (whole t).2 else (⟨1,a,b,(whole t).1,[]⟩,0))
 else if t.contains 46∧(Fx.read t).2=0 then (⟨2,a,b,(Fx.read t).1,[]⟩,0)
 else if t.contains 46∧(Fx.read t).2=2 then refused 2
 else told 5 a b t 127
def word (s:List UInt8)(at_:Nat):Tok×Int:=wordT (cut s at_ (run s at_)) at_ (run s at_)
def mark (s:List UInt8)(at_ n:Nat):Tok×Int:=(⟨6,at_,(at_+n:Nat),0,cut s at_ (at_+n)⟩,0)
def token (s:List UInt8)(a:Nat):Tok×Int:=
 match s.drop a with
|[]=>(⟨0,a,a,0,[]⟩,0)
|c::t=>
  if c=91∨c=93∨c=123∨c=125 then mark s a 1
  else if c=60 then (if t.head?=some c then mark s a 2 else hex s a)
  else if c=62 then (if t.head?=some c then mark s a 2 else refused 3)
  else if c=47 then name s a
  else if c=40 then text s a
  else if c=41 then refused 3
  else word s a
def next (s:List UInt8)(at_:Int):Tok×Int:=if at_ < 0∨(s.length:Int) < at_ then refused 1 else token s (skip s at_.toNat)
end Lx
end
section
open Go
namespace Lx
open Oc
theorem hexF_le:∀(l:List UInt8) (h:Int) (r:List UInt8×Nat),hexF h l=.inl r→1≤r.2∧r.2≤l.length
|[],_,r,h=>by rw[hexF] at h;cases h
|c::t,h,r,he=>by
  rw[hexF] at he;have step:∀h',(∀r,hexF h' t=.inl r→1≤r.2∧r.2≤t.length):=fun h' r hr=>hexF_le t h' r hr;split at he
  ·cases he;simp
  ·split at he
   ·cases hh:hexF h t with
   |inr e=>rw[hh] at he;cases he
   |inl q=>rw[hh] at he;cases he;have:=step _ q hh;simp;omega
   ·split at he
    ·cases he
    ·split at he
     ·cases hh:hexF (digit c) t with
     |inr e=>rw[hh] at he;cases he
     |inl q=>rw[hh] at he;cases he;have:=step _ q hh;simp;omega
     ·cases hh:hexF (-1) t with
     |inr e=>rw[hh] at he;cases he
     |inl q=>rw[hh] at he;cases he;have:=step _ q hh;simp;omega
theorem textG_le:∀(l:List UInt8) (k o:Nat) (r:List UInt8×Nat),textG k o l=some r→1≤r.2∧r.2≤l.length
|[],k,o,r,h=>by
  cases k<;>(rw[textG] at h;cases h)
|c::t,k+1,o,r,h=>by
  rw[textG] at h;cases hh:textG k o t with
 |none=>rw[hh] at h;cases h
 |some q=>rw[hh] at h;cases h;have:=textG_le t k o q hh;simp;omega
|c::t,0,o,r,h=>by
  rw[textG] at h;have step:∀(k o:Nat) (f:List UInt8→List UInt8),(textG k o t).map (fun r=>(f r.1,r.2+1))=some r→1≤r.2∧r.2≤(c::t).length:=by
   intro k o f h;cases hh:textG k o t with
  |none=>rw[hh] at h;cases h
  |some q=>rw[hh] at h;cases h;have:=textG_le t k o q hh;simp;omega
  split at h
  ·exact step _ _ _ h
  ·split at h
   ·split at h
    ·cases h
    ·exact step _ _ _ h
   ·split at h
    ·exact step _ _ (fun x=>c::x) h
    ·split at h
     ·split at h
      ·cases h;simp
      ·exact step _ _ (fun x=>c::x) h
     ·exact step _ _ (fun x=>c::x) h
theorem told_ok {k a t:Int}{x:List UInt8}{m:Int}(h:(told k a t x m).2=0):told k a t x m=(⟨k,a,t,0,x⟩,0):=by
 unfold told at h ⊢;split
 ·rename_i hh;rw[if_pos hh] at h;cases h
 ·rfl
theorem skipF_stop:∀(b:Bool) (l:List UInt8),skipF false (l.drop (skipF b l))=0
|_,[]=>by simp[skipF]
|true,c::t=>by
  simp only[skipF];rw[Nat.add_comm,List.drop_succ_cons];exact skipF_stop _ t
|false,c::t=>by
  simp only[skipF];split
  ·rw[Nat.add_comm,List.drop_succ_cons];exact skipF_stop _ t
  ·split
   ·rw[Nat.add_comm,List.drop_succ_cons];exact skipF_stop _ t
   ·rename_i h1 h2
    rw[List.drop_zero,skipF,if_neg h1,if_neg h2]
theorem skip_stop (s:List UInt8)(k:Nat):skipF false (s.drop (skip s k))=0:=by
 have:=skipF_stop false (s.drop k);rw[List.drop_drop] at this;exact this
theorem stop_head {c:UInt8}{t:List UInt8}(h:skipF false (c::t)=0):c≠37∧white c=false:=by
 rw[skipF] at h;split at h
 ·omega
 ·rename_i h1
  split at h
  ·omega
  ·rename_i h2
   exact⟨h1,by simpa using h2⟩
theorem regular_of (c:UInt8)(hw:white c=false)(h1:¬(c=91∨c=93∨c=123∨c=125))(h2:c≠60)(h3:c≠62)(h4:c≠47)(h5:c≠40)(h6:c≠41)(h7:c≠37):regular c=true:=by
 have g1:¬c=91:=fun e=>h1 (.inl e);have g2:¬c=93:=fun e=>h1 (.inr (.inl e));have g3:¬c=123:=fun e=>h1 (.inr (.inr (.inl e)));have g4:¬c=125:=fun e=>h1 (.inr (.inr (.inr e)));simp[regular,hw,delim,delims,g1,g2,g3,g4,h2,h3,h4,h5,h6,h7]
theorem wordT_ok {t:List UInt8}{a r:Int}(h:(wordT t a r).2=0):(wordT t a r).1.k≠0∧(wordT t a r).1.a=a∧(wordT t a r).1.t=r:=by
 unfold wordT at h ⊢;split at h
 ·rename_i h1
  rw[if_pos h1];split at h
  ·rename_i h2;exact absurd h h2
  ·rename_i h2;rw[if_neg h2];exact⟨by simp,rfl,rfl⟩
 ·rename_i h1
  rw[if_neg h1];split at h
  ·rename_i h2;rw[if_pos h2];exact⟨by simp,rfl,rfl⟩
  ·rename_i h2
   rw[if_neg h2];split at h
   ·cases h
   ·rename_i h3
    rw[if_neg h3,told_ok h];exact⟨by simp,rfl,rfl⟩
theorem token_bd {s:List UInt8}{a:Nat}(ha:a < s.length)(hsk:skipF false (s.drop a)=0)(h:(token s a).2=0):(token s a).1.k≠0∧(token s a).1.a=a∧(a:Int) < (token s a).1.t∧(token s a).1.t≤s.length:=by
 have hd:=drop_cons ha;have hT:token s a=if s[a]=91∨s[a]=93∨s[a]=123∨s[a]=125 then mark s a 1
  else if s[a]=60 then (if (s.drop (a+1)).head?=some s[a] then mark s a 2 else hex s a)
  else if s[a]=62 then (if (s.drop (a+1)).head?=some s[a] then mark s a 2 else refused 3)
  else if s[a]=47 then name s a
  else if s[a]=40 then text s a
  else if s[a]=41 then refused 3
  else word s a:=by rw[token,hd]
 rw[hd] at hsk;obtain⟨h37,hw⟩:=stop_head hsk;have two:(s.drop (a+1)).head?=some s[a]→a+2≤s.length:=by
  intro h;cases hdd:s.drop (a+1) with
 |nil=>rw[hdd] at h;cases h
 |cons x t=>
   have:=congrArg List.length hdd;simp at this;omega
 rw[hT] at h ⊢;by_cases g0:s[a]=91∨s[a]=93∨s[a]=123∨s[a]=125
 ·rw[if_pos g0];exact⟨by simp[mark],rfl,by simp only[mark];omega,by simp only[mark];omega⟩
 rw[if_neg g0] at h ⊢;by_cases g1:s[a]=60
 ·rw[if_pos g1] at h ⊢;by_cases g:(s.drop (a+1)).head?=some s[a]
  ·have:=two g;rw[if_pos g];exact⟨by simp[mark],rfl,by simp only[mark];omega,by simp only[mark];omega⟩
  ·rw[if_neg g] at h ⊢;unfold hex at h ⊢;cases hh:hexF (-1) (s.drop (a+1)) with
  |inr e=>
    rw[hh] at h;exfalso;have:∀(l:List UInt8) (x e:Int),hexF x l=.inr e→e≠0:=by
     intro l
     induction l with
    |nil=>intro x e he;rw[hexF] at he;cases he;decide
    |cons c t ih=>
      intro x e he;rw[hexF] at he;split at he
      ·cases he
      ·split at he
       ·cases hq:hexF x t with
       |inl r=>rw[hq] at he;cases he
       |inr e'=>rw[hq] at he;cases he;exact ih _ _ hq
       ·split at he
        ·cases he;decide
        ·split at he
         ·cases hq:hexF (digit c) t with
         |inl r=>rw[hq] at he;cases he
         |inr e'=>rw[hq] at he;cases he;exact ih _ _ hq
         ·cases hq:hexF (-1) t with
         |inl r=>rw[hq] at he;cases he
         |inr e'=>rw[hq] at he;cases he;exact ih _ _ hq
    exact this _ _ _ hh h
  |inl r=>
    rw[hh] at h;simp only at h ⊢;have:=hexF_le _ _ _ hh;rw[List.length_drop] at this;rw[told_ok h];exact⟨by simp,rfl,by simp only;omega,by simp only;omega⟩
 rw[if_neg g1] at h ⊢;by_cases g2:s[a]=62
 ·rw[if_pos g2] at h ⊢;by_cases g:(s.drop (a+1)).head?=some s[a]
  ·have:=two g;rw[if_pos g];exact⟨by simp[mark],rfl,by simp only[mark];omega,by simp only[mark];omega⟩
  ·rw[if_neg g] at h;cases h
 rw[if_neg g2] at h ⊢;by_cases g3:s[a]=47
 ·rw[if_pos g3] at h ⊢;have hto:=run_le s (show a+1≤s.length by omega);have hto2:a+1≤run s (a+1):=by unfold run;omega
  unfold name at h ⊢;cases hh:nameF (cut s (a+1) (run s (a+1))) with
 |none=>rw[hh] at h;cases h
 |some x=>
   rw[hh] at h;simp only at h ⊢;rw[told_ok h];exact⟨by simp,rfl,by simp only;omega,by simp only;omega⟩
 rw[if_neg g3] at h ⊢;by_cases g4:s[a]=40
 ·rw[if_pos g4] at h ⊢;unfold text at h ⊢;cases hh:textG 0 1 (s.drop (a+1)) with
 |none=>rw[hh] at h;cases h
 |some r=>
   rw[hh] at h;simp only at h ⊢;have:=textG_le _ _ _ _ hh;rw[List.length_drop] at this;rw[told_ok h];exact⟨by simp,rfl,by simp only;omega,by simp only;omega⟩
 rw[if_neg g4] at h ⊢;by_cases g5:s[a]=41
 ·rw[if_pos g5] at h;cases h
 rw[if_neg g5] at h ⊢;have hreg:=regular_of s[a] hw g0 g1 g2 g3 g4 g5 h37;have hto:=run_le s (show a≤s.length by omega);have hto2:a < run s a:=by unfold run;rw[hd,runF,if_pos hreg];omega
 obtain⟨k1,k2,k3⟩:=wordT_ok h;exact⟨k1,k2,by rw[show (word s a).1.t=_ from k3];omega,by rw[show (word s a).1.t=_ from k3];omega⟩
theorem next_bd {s:List UInt8}{i:Int}(h:(next s i).2=0)(hk:(next s i).1.k≠0):0≤i∧i≤s.length∧(next s i).1.a=skip s i.toNat∧(next s i).1.a < (next s i).1.t∧(next s i).1.t≤s.length:=by
 unfold next at h hk ⊢
 split
 ·rename_i hh;rw[if_pos hh] at h;cases h
 ·rename_i hh
  rw[if_neg hh] at h hk;have hle:=skip_le s (k:=i.toNat) (by omega);rcases Nat.lt_or_ge (skip s i.toNat) s.length with h1|h1
  ·have:=token_bd h1 (skip_stop s i.toNat) h;exact⟨by omega,by omega,this.2.1,by rw[this.2.1];exact this.2.2.1,this.2.2.2⟩
  ·exfalso;rw[token,List.drop_eq_nil_of_le h1] at hk;exact hk rfl
theorem skip_ge (s:List UInt8)(k:Nat):k≤skip s k:=by unfold skip;omega
end Lx
end
section
open Go
namespace Ps
open Lx (next Tok)
abbrev R:=Ob×Int×Int
def bad (e:Int):R:=(Vl.ob0,0,e)
def tru:List UInt8:=[116,114,117,101]
def fal:List UInt8:=[102,97,108,115,101]
def nul:List UInt8:=[110,117,108,108]
def begins (t:Tok):Bool:=
 if t.k=6 then decide (t.s=[91])||decide (t.s=[60,60]) else !decide (t.k=0)&&(!decide (t.k=5)||decide (t.s=tru)||decide (t.s=fal)||decide (t.s=nul))
def ref (s:List UInt8)(t:Tok):Option (Int×Int):=
 if t.n < 1∨8191 < t.n then none
 else if (next s t.t).2≠0∨(next s t.t).1.k≠1∨(next s t.t).1.n < 0∨65535 < (next s t.t).1.n then none
 else if (next s (next s t.t).1.t).2=0∧(next s (next s t.t).1.t).1.k=5∧(next s (next s t.t).1.t).1.s=[82] then some ((next s t.t).1.n,(next s (next s t.t).1.t).1.t)
 else none
def leaf (s:List UInt8)(t:Tok):R:=
 if t.k=1 then match ref s t with
 |some p=>(.mk 8 t.n p.1 [] [] [],p.2,0)
 |none=>(.mk 2 t.n 0 [] [] [],t.t,0)
 else if t.k=2 then (.mk 3 t.n 0 [] [] [],t.t,0)
 else if t.k=3 then (.mk 4 0 0 t.s [] [],t.t,0)
 else if t.k=4 then (.mk 5 0 0 t.s [] [],t.t,0)
 else if t.s=nul then (Vl.ob0,t.t,0)
 else (.mk 1 (if t.s=tru then 1 else 0) 0 [] [] [],t.t,0)
def arr (s:List UInt8)(ok:Bool)(sub:Int→R):Nat→Int→List Ob→R
|0,_,_=>bad 99
|m+1,at_,acc=>
  if (next s at_).2=0∧(next s at_).1.k=6∧(next s at_).1.s=[93] then (.mk 6 0 0 [] [] acc,(next s at_).1.t,0)
  else if (next s at_).2=0∧acc.length=8191∧begins (next s at_).1=true∧ok=true then bad 6
  else if (next s at_).2≠0 then bad (next s at_).2
  else if (sub at_).2.2≠0 then bad (sub at_).2.2
  else arr s ok sub m (sub at_).2.1 (acc++[(sub at_).1])
def join (o:Ob)(k:List UInt8)(v:Ob):Ob:=if v.k≠0 then Vl.put o k v else o
def dict (s:List UInt8)(sub:Int→R):Nat→Int→Ob→List (List UInt8)→R
|0,_,_,_=>bad 99
|m+1,at_,o,met=>
  if (next s at_).2≠0 then bad (next s at_).2
  else if (next s at_).1.k=6∧(next s at_).1.s=[62,62] then (o,(next s at_).1.t,0)
  else if (next s at_).1.k=0 then bad 4
  else if (next s at_).1.k≠4 then bad 3
  else if (next s at_).1.s∈met then bad 9
  else if met.length=8191 then bad 6
  else if (sub (next s at_).1.t).2.2≠0 then bad (sub (next s at_).1.t).2.2
  else dict s sub m (sub (next s at_).1.t).2.1 (join o (next s at_).1.s (sub (next s at_).1.t).1) (met++[(next s at_).1.s])
def dict0:Ob:=.mk 7 0 0 [] [] []
def obj (s:List UInt8):Nat→Int→R
|n,at_=>
  if (next s at_).2≠0 then bad (next s at_).2
  else if (next s at_).1.k=0 then bad 4
  else if begins (next s at_).1=false then bad 3
  else match n with
  |0=>bad 7
  |n+1=>
    if (next s at_).1.k≠6 then leaf s (next s at_).1
    else if (next s at_).1.s=[91] then arr s (decide (n≠0)) (obj s n) (s.length+1) (next s at_).1.t []
    else dict s (obj s n) (s.length+1) (next s at_).1.t dict0 []
def object (s:List UInt8)(at_:Int):R:=if at_ < 0∨(s.length:Int) < at_ then bad 1 else obj s 24 at_
theorem ref_bd {s:List UInt8}{t:Tok}{p:Int×Int}(h:ref s t=some p):t.t < p.2∧p.2≤s.length∧1≤t.n∧t.n≤8191∧0≤p.1∧p.1≤65535:=by
 unfold ref at h;split at h
 ·cases h
 rename_i h0
 split at h
 ·cases h
 rename_i h1
 split at h
 ·rename_i h2
  simp only[not_or,Classical.not_not] at h1;cases h;have b1:=Lx.next_bd h1.1 (by rw[h1.2.1];decide);have b2:=Lx.next_bd h2.1 (by rw[h2.2.1];decide);have:=Lx.skip_ge s t.t.toNat;have:=Lx.skip_ge s (next s t.t).1.t.toNat;simp only;omega
 ·cases h
theorem leaf_bd {s:List UInt8}{at_:Int}(h0:(next s at_).2=0)(hk:(next s at_).1.k≠0):(leaf s (next s at_).1).2.2=0∧at_ < (leaf s (next s at_).1).2.1∧(leaf s (next s at_).1).2.1≤s.length:=by
 have b:=Lx.next_bd h0 hk;have:=Lx.skip_ge s at_.toNat;unfold leaf;split
 ·cases hr:ref s (next s at_).1 with
 |some p=>
   have:=ref_bd hr;exact⟨rfl,by show at_ < p.2;omega,by show p.2≤_;omega⟩
 |none=>exact⟨rfl,by show at_ < (next s at_).1.t;omega,b.2.2.2.2⟩
 all_goals (repeat' split)<;>exact⟨rfl,by show at_ < (next s at_).1.t;omega,b.2.2.2.2⟩
def Good (s:List UInt8)(sub:Int→R):Prop:=∀a,(sub a).2.2=0→a < (sub a).2.1∧(sub a).2.1≤s.length
theorem arr_bd {s:List UInt8}{ok:Bool}{sub:Int→R}(hg:Good s sub):∀(m:Nat) (a:Int) (acc:List Ob),(arr s ok sub m a acc).2.2=0→a < (arr s ok sub m a acc).2.1∧(arr s ok sub m a acc).2.1≤s.length
|0,a,acc,h=>by simp[arr,bad] at h
|m+1,a,acc,h=>by
  rw[arr] at h ⊢;split at h
  ·rename_i h1
   rw[if_pos h1];have b:=Lx.next_bd h1.1 (by rw[h1.2.1];decide);have:=Lx.skip_ge s a.toNat;exact⟨by show a < (next s a).1.t;omega,b.2.2.2.2⟩
  rename_i h1
  rw[if_neg h1];split at h
  ·simp[bad] at h
  rename_i h2
  rw[if_neg h2];split at h
  ·rename_i h3;exact absurd h h3
  rename_i h3
  rw[if_neg h3];split at h
  ·rename_i h4;exact absurd h h4
  rename_i h4
  rw[if_neg h4];have b:=hg a (Classical.not_not.1 h4);have c:=arr_bd hg m _ _ h;exact⟨by omega,c.2⟩
theorem dict_bd {s:List UInt8}{sub:Int→R}(hg:Good s sub):∀(m:Nat) (a:Int) (o:Ob) (met:List (List UInt8)),(dict s sub m a o met).2.2=0→a < (dict s sub m a o met).2.1∧(dict s sub m a o met).2.1≤s.length
|0,a,o,met,h=>by simp[dict,bad] at h
|m+1,a,o,met,h=>by
  rw[dict] at h ⊢;split at h
  ·rename_i h1;exact absurd h h1
  rename_i h1
  rw[if_neg h1];have h1:=Classical.not_not.1 h1;split at h
  ·rename_i h2
   rw[if_pos h2];have b:=Lx.next_bd h1 (by rw[h2.1];decide);have:=Lx.skip_ge s a.toNat;exact⟨by show a < (next s a).1.t;omega,b.2.2.2.2⟩
  rename_i h2
  rw[if_neg h2];split at h
  ·simp[bad] at h
  rename_i h3
  rw[if_neg h3];split at h
  ·simp[bad] at h
  rename_i h4
  rw[if_neg h4];split at h
  ·simp[bad] at h
  rename_i h5
  rw[if_neg h5];split at h
  ·simp[bad] at h
  rename_i h6
  rw[if_neg h6];split at h
  ·rename_i h7;exact absurd h h7
  rename_i h7
  rw[if_neg h7];have b:=Lx.next_bd h1 h3;have:=Lx.skip_ge s a.toNat;have b2:=hg _ (Classical.not_not.1 h7);have c:=dict_bd hg m _ _ _ h;exact⟨by omega,c.2⟩
theorem obj_good (s:List UInt8):∀n,Good s (obj s n):=by
 intro n
 induction n with
|zero=>
  intro a h;rw[obj] at h;split at h
  ·rename_i h1;exact absurd h h1
  split at h
  ·simp[bad] at h
  split at h
  ·simp[bad] at h
  ·simp[bad] at h
|succ n ih=>
  intro a h;rw[obj] at h ⊢;split at h
  ·rename_i h1;exact absurd h h1
  rename_i h1
  rw[if_neg h1];have h1:=Classical.not_not.1 h1;split at h
  ·simp[bad] at h
  rename_i h2
  rw[if_neg h2];split at h
  ·simp[bad] at h
  rename_i h3
  rw[if_neg h3];have b:=Lx.next_bd h1 h2;have:=Lx.skip_ge s a.toNat
  try simp only at h ⊢
  split at h
  ·rename_i h4
   rw[if_pos h4];exact (leaf_bd h1 h2).2
  rename_i h4
  rw[if_neg h4];split at h
  ·rename_i h5
   rw[if_pos h5];have c:=arr_bd ih _ _ _ h;exact⟨by omega,c.2⟩
  ·rename_i h5
   rw[if_neg h5];have c:=dict_bd ih _ _ _ _ h;exact⟨by omega,c.2⟩
theorem obj_bd {s:List UInt8}{n:Nat}{a:Int}(h:(obj s n a).2.2=0):a < (obj s n a).2.1∧(obj s n a).2.1≤s.length:=obj_good s n a h
end Ps
end
section
namespace Eng
open Go.RowKit
def Ent.urow (T:TypeId)(sz:Nat)(v:Value)(n:Nat)(xs:List Value):Ent:=
 ⟨fun k=>v.ownBlock=some k,fun w=>w.ownsRow 0 T sz v n xs,fun {w w'} h k=>by
  refine⟨h.1,?_⟩;rcases h.2 with hn|⟨g,cap,cur,rfl,hb,hgg,rest⟩
  ·exact .inl hn
  ·exact .inr ⟨g,cap,cur,rfl,hb,(k g rfl).trans hgg,rest⟩,fun h k hk=>(World.ownsRowF.lt (World.ownsRowF_of h) k hk).2⟩
section
variable {S:Nat→Prop}{P:Program}{w:World}{PK:PKT}{K:VWP}
theorem urow_row {T:TypeId}{sz:Nat}{v:Value}{n:Nat}{xs:List Value}(h:(Ent.urow T sz v n xs).is w):(Ent.row T sz v n xs).is w:=World.ownsRowF_of h
theorem Sl.urow {T:TypeId}{sz:Nat}{v:Value}{n:Nat}{xs:List Value}(h:(Ent.urow T sz v n xs).is w):Sl w v sz n xs:=Sl.row (urow_row h)
theorem OwnS.slU {w0:World}{L:List Ent}(ho:OwnS S w0 w L)(i:Nat){T:TypeId}{sz:Nat}{v:Value}{n:Nat}{xs:List Value}(hi:L[i]?=some (.urow T sz v n xs)):Sl w v sz n xs:=Sl.urow (ho.at_ i hi)
theorem OwnS.nilU {w0:World}{L:List Ent}(ho:OwnS S w0 w L)(E:TypeId)(sz:Nat):OwnS S w0 w (.urow E sz (.slice none 0 0) 0 []::L):=by
 refine⟨ho.grew,fun e he=>?_,.cons (fun f hf k hk=>by simp[Ent.urow,Value.ownBlock] at hk) ho.apart⟩;rcases List.mem_cons.1 he with rfl|he
 ·exact⟨⟨by simp,.inl ⟨rfl,rfl⟩⟩,fun k hk=>by simp[Ent.urow,Value.ownBlock] at hk⟩
 ·exact ho.all e he
theorem OwnS.toU {w0:World}{L:List Ent}{b:Nat}{cs:List Value}{E:TypeId}(ho:OwnS S w0 w (.cells b cs E::L))(sz n cap:Nat)(hl:cs.length=cap*sz)(hn:n≤cap)(hc:cap≤9223372036854775807) :
  OwnS S w0 w (.urow E sz (.slice (some ⟨b,0,none⟩) n cap) n (cs.take (n*sz))::L):=by
 refine⟨ho.grew,fun e he=>?_,?_⟩
 ·rcases List.mem_cons.1 he with rfl|he
  ·refine⟨⟨by rw[List.length_take,hl,Nat.min_eq_left (Nat.mul_le_mul_right _ hn)],.inr ⟨b,cap,cs.toArray,rfl,Nat.zero_le _,ho.at_ 0 rfl,hn,by simp only[maxLen];omega,by simpa using hl,by simp⟩⟩,fun k hk=>?_⟩;simp only[Ent.urow,Value.ownBlock,Option.some.injEq] at hk;exact (ho.all (.cells b cs E) (by simp)).2 k hk.symm
  ·exact ho.all e (by simp[he])
 ·refine .cons (fun f hf k hk=>?_) (List.pairwise_cons.1 ho.apart).2;simp only[Ent.urow,Value.ownBlock,Option.some.injEq] at hk;exact (List.pairwise_cons.1 ho.apart).1 f hf k hk.symm
theorem run_append_anyU {T E U:TypeId}{cs:Array Bool}{v v2:Value}{sz bytes n m:Nat}{xs news:List Value}(ht:P.underlying T=some (.slice E))(he:elB P E sz bytes=true)(hsz:0 < sz)
  (hown:w.ownsRow 0 E sz v n xs) (hs:Sl w v2 sz m news) (h1:∀u∈news,u.oneCell'=true) (hb:(n+m)*bytes≤140737488355328) (hb2:n+m≤140737488355328) :
  ∃v' w',(mB .append #[T,T] U cs #[v,v2]).run P w=.ok (.value v') w'∧Turn (.urow E sz v n xs) (.urow E sz v' (n+m) (xs++news)) w w':=by
 obtain⟨v',w',r,t⟩:=run_append_any (P:=P) (U:=U) (cs:=cs) ht he hsz (World.ownsRowF_of hown) hs h1 hb hb2;refine⟨v',w',r,t.grew,?_,t.new⟩;obtain⟨i,z,hi,hz,hi1,hi2,hz1⟩:=elB_spec he;obtain⟨hl,a,cap,rfl,hn,hc⟩:=hs;have hmx:n+m≤maxLen:=by simp only[maxLen];omega
 cases a with
|some p=>
  have hh:∀j u,news[j]?=some u→w.cell? (p.add j)=some u:=by
   intro j u hj;have hlt:j < news.length:=(List.getElem?_eq_some_iff.1 hj).1;have hm:0 < m:=by
    rcases Nat.eq_zero_or_pos m with h0|h0
    ·subst h0;simp at hl;rw[hl] at hlt;simp at hlt
    ·exact h0
   obtain⟨hsp,hcell⟩:=hc p rfl;have:=hsp hm;obtain⟨b,off,spot⟩:=p;simp only at this hcell;subst this;rw[add_none];exact hcell j u hj
  obtain⟨v2,w2,r1,r2,r3,r4⟩:=run_append_own (P:=P) w 0 T U E i z sz bytes ht hi hz hi1 hi2 hz1 hsz v n xs hown p m cap news hl hh h1 hmx hb (Nat.zero_le _);have:(mB .append #[T,T] U cs #[v,.slice (some p) m cap]).run P w=.ok (.value v2) w2:=by simp[mB,builtin,r1]
  rw[this] at r;cases r;exact r2
|none=>
  have h0:=hn rfl;subst h0;have hnil:news=[]:=List.eq_nil_of_length_eq_zero (by simpa using hl);subst hnil;have:(mB .append #[T,T] U cs #[v,.slice none 0 cap]).run P w=.ok (.value v) w:=by
   rcases hown.2 with ⟨rfl,rfl⟩|⟨g,cp,cur,rfl,_,_,hnc,_⟩
   ·simp[mB,builtin,Builtin.append_,run_underlying ht,sizeOf,typeInfo,hi,Builtin.lenOf,Builtin.firstCells]
   ·simp[mB,builtin,Builtin.append_,run_underlying ht,sizeOf,typeInfo,hi,Builtin.lenOf,Builtin.firstCells,hnc,storeCells]
  rw[this] at r;cases r;rw[List.append_nil];exact hown
theorem o_appendU {w0:World}{L:List Ent}(i:Nat){T E U:TypeId}{cs:Array Bool}{v v2:Value}{sz bytes n m:Nat}{xs news:List Value}(ht:P.underlying T=some (.slice E))(he:elB P E sz bytes=true)(hsz:0 < sz)
  (ho:OwnS S w0 w L) (hi:L[i]?=some (.urow E sz v n xs)) (hs:Sl w v2 sz m news) (h1:∀u∈news,u.oneCell'=true) (hb:(n+m)*bytes≤140737488355328) (hb2:n+m≤140737488355328)
  (k:∀v' w',OwnS S w0 w' (L.set i (.urow E sz v' (n+m) (xs++news)))→K v' w'):DoX P (mB .append #[T,T] U cs #[v,v2]) w PK K:=by
 obtain⟨v',w',r,t⟩:=run_append_anyU (cs:=cs) (U:=U) ht he hsz (ho.at_ i hi) hs h1 hb hb2;exact do_ok r (k _ _ (ho.turn i hi t))
theorem urow_open {E:TypeId}{sz n:Nat}{v:Value}{xs:List Value}(h:(Ent.urow E sz v n xs).is w)(hn:0 < n):∃g cap,v=.slice (some ⟨g,0,none⟩) n cap:=by
 rcases (show w.ownsRow 0 E sz v n xs from h).2 with ⟨_,h0⟩|⟨g,cap,cur,rfl,_⟩
 ·omega
 ·exact⟨g,cap,rfl⟩
theorem run_store_in {T:TypeId}{g off:Nat}{cur:Array Value}{E:TypeId}{u:Value}{new:List Value}(hc:u.cells=new.toArray)(hs:(P.info? T).map (·.size)=some new.length)(h1:∀x∈new,x.oneCell'=true)
  (hg:w.heap[g]?=some (.cells cur E (0,0))) (hl:off+new.length≤cur.size) :
  (Instr.storeAt T (.pointer (some ⟨g,off,none⟩)) u).run P w=.ok () (w.setRow g (cur.toList.take off++new++cur.toList.drop (off+new.length)).toArray):=by
 have hst:=run_storeCells_at P g off E new 0 cur w hg (by simpa using hl) h1;obtain⟨i,hi,h2⟩:=Option.map_eq_some_iff.1 hs;simp only[Nat.add_zero] at hst;simp[Instr.storeAt,Instr.sureAddr,storeVar,hc,sizeOf,typeInfo,hi,h2,hst]
theorem o_storeU {w0:World}{L:List Ent}(i:Nat){T E:TypeId}{g off n cap sz:Nat}{xs new:List Value}{u:Value}(ho:OwnS S w0 w L)(hi:L[i]?=some (.urow E sz (.slice (some ⟨g,0,none⟩) n cap) n xs))
  (hc:u.cells=new.toArray) (hs:(P.info? T).map (·.size)=some new.length) (h1:∀x∈new,x.oneCell'=true) (hl:off+new.length≤n*sz)
  (k:∀w',OwnS S w0 w' (L.set i (.urow E sz (.slice (some ⟨g,0,none⟩) n cap) n (xs.take off++new++xs.drop (off+new.length))))→K undef w'):DoX P (mStore T (.pointer (some ⟨g,off,none⟩)) u) w PK K:=by
 have hown:w.ownsRow 0 E sz (.slice (some ⟨g,0,none⟩) n cap) n xs:=ho.at_ i hi;rcases hown.2 with ⟨h0,_⟩|⟨g',cap',cur,he,hb,hg,hnc,hcm,hcs,htake⟩
 ·cases h0
 cases he;have hle:n*sz≤cur.size:=by rw[hcs];exact Nat.mul_le_mul_right _ hnc
 refine do_skip (mu_run (run_store_in hc hs h1 hg (by omega))) (k _ ?_);refine ho.put i hi (w':=w.setRow g _) ⟨rfl,rfl,rfl,by simp[World.setRow],fun k _ hk=>setRow_other w g k _ (fun e=>hk (by simp[Ent.urow,Value.ownBlock,e]))⟩ _ ?_ (fun k hk=>.inl hk);have hxl:=hown.1;have hcl:cur.toList.length=cap*sz:=by simpa using hcs
 refine⟨by simp only[List.length_append,List.length_take,List.length_drop];omega,.inr ⟨g,cap,_,rfl,hb,setRow_heap w g cur _ E (0,0) hg,hnc,hcm,?_,?_⟩⟩
 ·simp only[List.size_toArray,List.length_append,List.length_take,List.length_drop];omega
 ·subst htake;rw[List.take_take,Nat.min_eq_left (by omega)];simp only[List.append_assoc];rw[List.take_append,List.take_append,List.take_of_length_le (l:=cur.toList.take off) (by simp;omega),List.take_of_length_le (l:=new) (by simp;omega)]
  congr 2
  rw[List.length_take,Nat.min_eq_left (by omega),List.drop_take]
  congr 1
  omega
end
end Eng
end
section
open Eng Go.RowKit Go.ChangeShapes Go.WideShapes
theorem bulkAll_append {H:Type}:∀(a b:List (DataW H)),Rows.uptoBulkAll (a++b)=Rows.uptoBulkAll a+Rows.uptoBulkAll b
|[],b=>by simp[Rows.uptoBulkAll]
|x::a,b=>by rw[List.cons_append,Rows.uptoBulkAll,bulkAll_append a b,Rows.uptoBulkAll];omega
theorem bulk_strs {H:Type}:∀ss:List ByteArray,Rows.uptoBulkAll (strs (H:=H) ss)=Pl.tot (ss.map (·.data.toList))
|[]=>by simp[strs,Rows.uptoBulkAll,Pl.tot]
|s::ss=>by
  have:=bulk_strs (H:=H) ss;rw[show strs (H:=H) (s::ss)=.lit (.string s.data.toList)::strs ss from rfl,Rows.uptoBulkAll,this,Rows.uptoBulk];simp[Pl.tot]
theorem OVs.snoc {A:Nat→Prop}{w:World}{a:List Value}{o:Ob}(hl:a.length=6)(ho:OV A w (.agg a.toArray) o):∀(os:List Ob) (cs:List Value),OVs A w cs os→OVs A w (cs++a) (os++[o])
|[],cs,h=>by
  rw[OVs] at h;subst h;rw[List.nil_append,List.nil_append,OVs];exact⟨a,[],by simp,hl,ho,OVs.nil⟩
|p::os,cs,h=>by
  rw[OVs] at h;obtain⟨b,rest,rfl,hb,h1,h2⟩:=h;rw[List.cons_append,OVs];exact⟨b,rest++a,by simp,hb,h1,OVs.snoc hl ho os rest h2⟩
theorem wts_snoc (o:Ob):∀os:List Ob,Ob.wts (os++[o])=Ob.wts os+o.wt
|[]=>by simp[Ob.wts]
|p::os=>by rw[List.cons_append,Ob.wts,wts_snoc o os,Ob.wts];omega
theorem addr_add (a:Addr)(m n:Nat):(a.add m).add n=a.add (m+n):=by
 unfold Addr.add;by_cases hm:m=0
 ·subst hm;simp
 ·by_cases hn:n=0
  ·subst hn;simp[hm]
  ·have:¬(m+n=0):=by omega
   simp[hm,hn,Nat.add_assoc]
theorem list6 {α:Type}:∀{l:List α},l.length=6→∃a b c d e f,l=[a,b,c,d,e,f]
|[a,b,c,d,e,f],_=>⟨a,b,c,d,e,f,rfl⟩
section
variable {H:Type}{enc:TypeId×Value→H}{W:World}{sp:Nat→Bool}{held:Bool}
abbrev InW (W:World):Nat→Prop:=fun b=>b < W.heap.size
theorem open_keys {fuel:Nat}{cs:List Value}{x:DataW H×List MemPlace}(h:DataW.trod enc prog W 0 sp held fuel 22 cs=some x) :
  ∃(v:Value) (zs:List (List UInt8)),cs=[v]∧SlA (InW W) W v 1 zs.length (strsV zs)∧Pl.tot zs+1≤Rows.uptoBulk x.1:=by
 rcases open_strings Tryz.underlying22 Tryz.underlying9 (by kernel_rfl) h with ⟨rfl,rfl⟩|⟨a,len,cap,ss,rfl,_,hl,hm,hz,rfl,hcell,hsz⟩
 ·exact⟨_,[],rfl,SlA.nil _ _ _ _,by simp[Pl.tot,Rows.uptoBulk]⟩
 ·have hlz:len≤ss.length:=by rw[hz];split<;>omega
  refine⟨_,(ss.take len).map (·.data.toList),rfl,?_,?_⟩
  ·have hlen:((ss.take len).map (·.data.toList)).length=len:=by simp;omega
   rw[hlen];refine SlA.of_cells (by omega) (by simp[strsV];omega) (fun j u hj=>?_) (fun b hb=>hb) hl;have hjl:j < len:=by
    have:=(List.getElem?_eq_some_iff.1 hj).1;simp[strsV] at this;omega
   rw[hcell j (by omega),←hj];simp[strsV,strV,List.getElem?_take,hjl,List.getD,List.getElem?_eq_getElem (show j < ss.length by omega)]
  ·simp only[Rows.uptoBulk];rw[bulk_strs];omega
set_option maxRecDepth 100000 in
theorem open_obj:∀(fuel:Nat) (cs:List Value) (x:DataW H×List MemPlace),DataW.trod enc prog W 0 sp held fuel 25 cs=some x →
  ∃o:Ob,OV (InW W) W (.agg cs.toArray) o∧o.wt≤Rows.uptoBulk x.1∧cs.length=6:=by
 intro fuel
 induction fuel using Nat.strongRecOn with
|_ fuel ih=>
  intro cs x h;obtain⟨xs,n,rfl,rfl,hl,hxl,hf⟩:=DataW.trod_struct Tryz.underlying25 h;have c6:Tryz.prog.cellsOf 25=6:=by kernel_rfl
  rw[c6] at hl;have hxl:xs.length=6:=hxl;obtain⟨x0,x1,x2,x3,x4,x5,rfl⟩:=list6 hxl;obtain⟨v0,v1,v2,v3,v4,v5,rfl⟩:=list6 hl;have e0:=hf 0 _ rfl;have e1:=hf 1 _ rfl;have e2:=hf 2 _ rfl;have e3:=hf 3 _ rfl;have e4:=hf 4 _ rfl;have e5:=hf 5 _ rfl;have k0:Tryz.prog.cellsOf 3=1:=by kernel_rfl
  have k1:Tryz.prog.cellsOf 2=1:=by kernel_rfl
  have k3:Tryz.prog.cellsOf 9=1:=by kernel_rfl
  have k4:Tryz.prog.cellsOf 22=1:=by kernel_rfl
  have k5:Tryz.prog.cellsOf 23=1:=by kernel_rfl
  simp only[k0,k1,k3,k4,k5,List.drop_zero,List.drop_succ_cons,List.take_succ_cons,List.take_zero,List.getElem?_cons_zero,List.getElem?_cons_succ] at e0 e1 e2 e3 e4 e5;obtain⟨k,hk,rfl,_⟩:=DataW.trod_int Tryz.underlying3 e0;obtain⟨m,hm,rfl,_⟩:=DataW.trod_int Tryz.underlying2 e1;obtain⟨g,hg,rfl,_⟩:=DataW.trod_int Tryz.underlying3 e2;obtain⟨s,hs,rfl,_⟩:=DataW.trod_string Tryz.underlying9 e3;obtain⟨vk,zs,hvk,hsk,hbk⟩:=open_keys e4
  injection hk with hk _
  injection hm with hm _
  injection hg with hg _
  injection hs with hs _
  injection hvk with hvk _
  subst hk;subst hm;subst hg;subst hs;subst hvk;have kids:∃(cs:List Value) (os:List Ob),SlA (InW W) W v5 6 os.length cs∧OVs (InW W) W cs os∧Ob.wts os+1≤Rows.uptoBulk x5.1:=by
   rcases DataW.trod_slice Tryz.underlying23 e5 with ⟨hc,rfl⟩|⟨a,len,cap,elems,rest,n',rfl,hc,rfl,_,hlc,hcm,hel,hat,_,_⟩
   ·injection hc with hc _
    subst hc;exact⟨[],[],SlA.nil _ _ _ _,OVs.nil,by simp[Ob.wts,Rows.uptoBulk]⟩
   ·injection hc with hc _
    subst hc;rw[c6] at hat;have step:∀k,k≤len→∃(cs:List Value) (os:List Ob),os.length=k∧OVs (InW W) W cs os∧(∀j u,cs[j]?=some u→W.cell? (a.add j)=some u)∧Ob.wts os≤Rows.uptoBulkAll ((elems.take k).map (·.1)):=by
     intro k
     induction k with
    |zero=>intro _;exact⟨[],[],rfl,OVs.nil,(fun j u hj=>by simp at hj),by simp[Ob.wts,Rows.uptoBulkAll]⟩
    |succ k ihk=>
      intro hk;obtain⟨cs,os,h1,h2,h3,h4⟩:=ihk (by omega);have hki:k < elems.length:=by omega
      have hb:=hat k (by omega);rw[List.getElem?_eq_getElem hki,Option.bind_eq_some_iff] at hb;obtain⟨ck,hck,htr⟩:=hb;obtain⟨o,ho,hw,hlo⟩:=ih n' (by omega) ck _ htr;have hcsl:=OVs.len os cs h2;refine⟨cs++ck,os++[o],by simp[h1],OVs.snoc hlo ho os cs h2,fun j u hj=>?_,?_⟩
      ·rcases Nat.lt_or_ge j cs.length with hj1|hj1
       ·rw[List.getElem?_append_left hj1] at hj;exact h3 j u hj
       ·rw[List.getElem?_append_right hj1] at hj;have hj6:j - cs.length < 6:=by
         have:=(List.getElem?_eq_some_iff.1 hj).1;omega
        have:=(World.cells?_some hck).2.2 (j - cs.length) hj6;rw[←hj,←this,addr_add,show k*6+(j - cs.length)=j by omega]
      ·rw[wts_snoc,List.take_succ_eq_append_getElem hki,List.map_append,bulkAll_append];simp only[List.map_cons,List.map_nil,Rows.uptoBulkAll];omega
    obtain⟨cs,os,h1,h2,h3,h4⟩:=step len (Nat.le_refl _);have hcsl:=OVs.len os cs h2;refine⟨cs,os,?_,h2,?_⟩
    ·rw[h1];exact SlA.of_cells (by omega) (by rw[hcsl,h1]) h3 (fun b hb=>hb) hlc
    ·rw[←hel,List.take_length] at h4;simp only[Rows.uptoBulk];omega
  obtain⟨cs,os,hsl,hov,hbo⟩:=kids;refine⟨.mk k m g s.data.toList zs os,?_,?_,rfl⟩
  ·rw[OV];exact⟨_,_,cs,rfl,hsk,hsl,hov⟩
  ·simp only[Ob.wt,Rows.uptoBulk,List.map_cons,List.map_nil,Rows.uptoBulkAll];omega
end
end
section
namespace Eng
open Go.RowKit
structure Mem where
 A:Nat→Prop
 w:World
 lt:∀b,A b→b < w.heap.size
def Mem.has (M:Mem)(w:World):Prop:=∀b,M.A b→w.heap[b]?=M.w.heap[b]?
structure Mem.le (M N:Mem):Prop where
 A:∀b,M.A b→N.A b
 has:M.has N.w
def Mem.all (w:World):Mem:=⟨fun b=>b < w.heap.size,w,fun _ h=>h⟩
theorem Mem.all_has (w:World):(Mem.all w).has w:=fun _ _=>rfl
theorem Mem.le_refl (M:Mem):M.le M:=⟨fun _ h=>h,fun _ _=>rfl⟩
theorem Mem.le_trans {M N O:Mem}(h:M.le N)(k:N.le O):M.le O:=⟨fun b hb=>k.A b (h.A b hb),fun b hb=>(k.has b (h.A b hb)).trans (h.has b hb)⟩
theorem Mem.has_of {M N:Mem}{w:World}(h:M.le N)(k:N.has w):M.has w:=fun b hb=>(k b (h.A b hb)).trans (h.has b hb)
theorem Mem.bd {M:Mem}{w:World}(h:M.has w){b:Nat}(hb:M.A b):b < w.heap.size:=by
 have h1:=h b hb;rw[Array.getElem?_eq_getElem (M.lt b hb)] at h1;exact lt_of_get h1
def Ent.mem (M:Mem):Ent:=⟨M.A,M.has,fun h k b hb=>(k b hb).trans (h b hb),fun h k hk=>Mem.bd h hk⟩
structure Gives (M:Mem) (w w':World) (N:Mem):Prop where
 le:M.le N
 has:N.has w'
 new:∀b,N.A b→M.A b∨w.heap.size≤b
 below:Below w.heap.size w w'
def RetM (P:Program)(f:Nat)(args:Array Value)(M:Mem)(w:World)(R:Value→Mem→Prop):Prop:=Ret P f args w (fun v w'=>∃N,Gives M w w' N∧R v N)
section
variable {S:Nat→Prop}{P:Program}{w w0:World}{L:List Ent}{PK:PKT}{K:VWP}
theorem OwnS.memS {M:Mem}(h:M.has w):OwnS M.A w w [.mem M]:=OwnS.lend (e:=.mem M) h
theorem OwnS.hasM {M:Mem}(ho:OwnS S w0 w L)(i:Nat)(hi:L[i]?=some (.mem M)):M.has w:=ho.at_ i hi
theorem OwnS.gives {M N:Mem}{w':World}(ho:OwnS S w0 w L)(i:Nat)(hi:L[i]?=some (.mem M))(g:Gives M w w' N):OwnS S w0 w' (L.set i (.mem N)):=
 ho.turn i hi ⟨grew_below g.below,g.has,g.new⟩
theorem OwnS.toGives {M0 N:Mem}{w':World}(ho:OwnS M0.A w w' L)(i:Nat)(hi:L[i]?=some (.mem N))(hle:M0.le N)(h0:M0.has w):Gives M0 w w' N:=by
 have hm:=ho.all (.mem N) (List.mem_of_getElem? hi);refine⟨hle,hm.1,fun b hb=>hm.2 b hb,ho.grew.os,ho.grew.tape,ho.grew.output,ho.grew.size,fun k hk=>?_⟩;by_cases hA:M0.A k
 ·rw[h0 k hA];have h1:w'.heap[k]?=N.w.heap[k]?:=hm.1 k (hle.A k hA);rw[h1];exact hle.has k hA
 ·exact ho.grew.block k hk hA
theorem retM_of {f:Nat}{args:Array Value}{M:Mem}{R:Value→Mem→Prop}(hM:M.has w)
  (h:∀K:Ending→World→Prop,(∀(v:Value) (w':World) (N:Mem) (L:List Ent) (i:Nat),OwnS M.A w w' L→L[i]?=some (.mem N)→M.le N→R v N→K (.returned v) w')→Calls P f args w K):RetM P f args M w R:=
 ret_of fun K hK=>h K fun v w' N L i ho hi hle hr=>hK v w' ⟨N,ho.toGives i hi hle hM,hr⟩
theorem c_mem {f:Nat}{args:Array Value}{M:Mem}{R:Value→Mem→Prop}(ho:OwnS S w0 w L)(i:Nat)(hi:L[i]?=some (.mem M))(h:RetM P f args M w R)
  (k:∀v N w',M.le N→R v N→OwnS S w0 w' (L.set i (.mem N))→K v w'):CallX P f args w PK K:=
 c_ret h fun v w' ⟨N,g,r⟩=>k v N w' g.le r (ho.gives i hi g)
theorem OwnS.freeze {M:Mem}{e:Ent}(ho:OwnS S w0 w (e::L))(i:Nat)(hi:L[i]?=some (.mem M)) :
  ∃N:Mem,M.le N∧N.w=w∧(∀b,e.blk b→N.A b)∧OwnS S w0 w (L.set i (.mem N)):=by
 have he:=ho.all e (by simp);have hM:M.has w:=ho.at_ (i+1) (by simpa using hi);have hlt:∀b,M.A b∨e.blk b→b < w.heap.size:=fun b hb=>hb.elim (fun h=>Mem.bd hM h) (fun h=>e.lt he.1 b h)
 let N:Mem:=⟨fun b=>M.A b∨e.blk b,w,hlt⟩
 have hil:i < L.length:=(List.getElem?_eq_some_iff.1 hi).1;have hie:L[i]=.mem M:=(List.getElem?_eq_some_iff.1 hi).2;obtain⟨a1,a2⟩:=List.pairwise_cons.1 ho.apart;have hp:=List.pairwise_iff_getElem.1 a2;have bM:∀k,M.A k→(L[i]).blk k:=fun k hk=>by rw[hie];exact hk
 refine⟨N,⟨fun b hb=>.inl hb,hM⟩,rfl,fun b hb=>.inr hb,ho.grew,?_,?_⟩
 ·intro f hf;obtain⟨j,hj,rfl⟩:=List.getElem_of_mem hf;rw[List.length_set] at hj;rw[List.getElem_set];split
  ·refine⟨fun b _=>rfl,fun k hk=>?_⟩;rcases hk with hk|hk
   ·exact (ho.all (.mem M) (by rw[←hie];exact List.mem_cons_of_mem _ (List.getElem_mem hil))).2 k hk
   ·exact he.2 k hk
  ·exact ho.all _ (List.mem_cons_of_mem _ (List.getElem_mem hj))
 ·rw[List.pairwise_iff_getElem];intro a b ha hb hab k hk;rw[List.length_set] at ha hb;rw[List.getElem_set] at hk;rw[List.getElem_set];split at hk
  ·rename_i hia
   subst hia;rw[if_neg (by omega)];rcases hk with hk|hk
   ·exact hp i b ha hb hab k (bM k hk)
   ·exact a1 _ (List.getElem_mem hb) k hk
  ·split
   ·rename_i hib
    subst hib;intro hk';rcases hk' with hk'|hk'
    ·exact hp a i ha hb hab k hk (bM k hk')
    ·exact a1 _ (List.getElem_mem ha) k hk' hk
   ·exact hp a b ha hb hab k hk
end
end Eng
open Eng Go.RowKit
theorem SlA.le {M N:Mem}(h:M.le N){v:Value}{sz n:Nat}{cs:List Value}(hs:SlA M.A M.w v sz n cs):SlA N.A N.w v sz n cs:=by
 have:=hs.kept (w':=N.w) h.has;exact⟨this.1,(fun p l c e hn=>h.A _ (this.2.1 p l c e hn)),this.2.2⟩
theorem SlA.now {M:Mem}{w:World}(h:M.has w){v:Value}{sz n:Nat}{cs:List Value}(hs:SlA M.A M.w v sz n cs):Sl w v sz n cs:=(hs.kept (w':=w) h).1
theorem OV.le {M N:Mem}(h:M.le N){v:Value}{o:Ob}(hv:OV M.A M.w v o):OV N.A N.w v o:=OV.mono h.A o v (OV.kept h.has o v hv)
theorem OVs.le {M N:Mem}(h:M.le N){cs:List Value}{os:List Ob}(hv:OVs M.A M.w cs os):OVs N.A N.w cs os:=OVs.mono h.A os cs (OVs.kept h.has os cs hv)
theorem OV.inw {M:Mem}{w:World}(h:M.has w){v:Value}{o:Ob}(hv:OV M.A M.w v o):OV (InW w) w v o:=OV.mono (fun b hb=>Mem.bd h hb) o v (OV.kept h o v hv)
end
end Go.Proofs.YtkejpieaafeblaaGreatDoor
