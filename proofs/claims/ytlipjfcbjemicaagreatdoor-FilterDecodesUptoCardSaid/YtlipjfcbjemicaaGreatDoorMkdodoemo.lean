/- Texts that go together: SBuild Shelf LibBld SPlain SFix SRef02 FixP FixR FixQ SStr LibCut FixT PlA PlB PlC LawKit2 EngT EngH EngI EngJ EngK EngU LawKit3 ObA ObB EngX EngY EngZ EngAH EngAD SSlc SlcA SMake Plain05 Plain05B SIdx OcIdx ObC SRef05 FixU FixV FixW FixX SLaw02 FixY EngG ObD EngW ObE ObF SVal ObG. -/
import Derived.Test.YtlipjfcbjemicaaGreatDoorRows
import Derived.Shelf.Strings.Builder1
import Derived.Shelf.Strings.Builder2
import Derived.Shelf.Small.Strs
import Derived.Shelf.Small.Wraps
import Derived.Shelf.Strings.BuilderF
import Derived.Shelf.Strings.BuilderK
import Derived.Shelf.Strings.Builder2Cap
import Derived.Shelf.Strings.Search1
import Derived.Shelf.Strings.Prefix
import Derived.Shelf.Bits.Mul64
import Derived.Shelf.Strings.Repeat
import Derived.Shelf.Strings.BuilderCap
import Derived.Test.YtlipjfcbjemicaaGreatDoorProg
import Derived.Recover
import Derived.Shelf.Strings.SlTrimAscii
import Derived.Lib.Repeat
import Derived.SliceStrings
import Derived.Laws.StructEq
import Derived.Laws.CopyRow
import Derived.Lib.AppendZerosOnto
import Derived.Lib.SliceRun
import Derived.Lib.Overlaps
import Derived.Laws.Externs
import Derived.Sort.Walk0
import Derived.Laws.RangeAny
import Derived.Test.YtlipjfcbjemicaaGreatDoorMmaflihpg
set_option linter.defProp false
set_option linter.unusedSimpArgs false
set_option linter.unusedVariables false
set_option maxRecDepth 20000
open Go.Proofs.Tryz (prog)
namespace Go.Proofs.YtlipjfcbjemicaaGreatDoor
section
open Eng
abbrev KT:=Ending→World→Prop
abbrev JT:=List Value→World→Prop
abbrev iN (n:Int):Value:=.int .i64 n
def dx (m w K k):=DoX prog m w (pk K) k
def gtx (t m w K k):=GDo t true (fun E=>DoX prog m w (pk K) E) w k
def gfx (t m w K k):=GDo t false (fun E=>DoX prog m w (pk K) E) w k
def ctx (t f a w K k):=GDo t true (fun E=>CallX prog f a w (pk K) E) w k
def cfx (t f a w K k):=GDo t false (fun E=>CallX prog f a w (pk K) E) w k
def etx (t:Value)(u:Value)(w:World)(k:Value→World→Prop):=GDo t true (fun E=>E u w) w k
def efx (t:Value)(u:Value)(w:World)(k:Value→World→Prop):=GDo t false (fun E=>E u w) w k
def cx (f a w K k):=CallX prog f a w (pk K) k
theorem cw{f:FuncId}{F:Func}{args:List Value}{w:World}{K:Ending→World→Prop}{S:Prop}(hf:prog.funcs[f]?=some F)(hb:F.body=some (bodyOf F))(hl:Nat.ble args.length F.ntmps=true)(e:wpX prog F.ntmps [] [] none (bodyOf F) (topQ prog F.results.toList K) (startX args) [] w=S)(h:S):Calls prog f args.toArray w K:=calls_of_wpX hf hb rfl rfl hl (e▸h)
def S_strings_Builder_copyCheck(t0 w)(K:KT):=
 dx (mNil t0) w K fun t3 w=>dx (mFA 188 t3 0) w K fun t4 w=>dx (mLoad 186 t4) w K fun t5 w=>dx (mEq .eql 186 (.tmp 5) (.const (.pointer none)) t5 (.pointer none)) w K fun t6 w=>IfX t6 (dx (mConv 186 261 t0) w K fun t9 w=>dx (mCallV (.func (.func 258) #[] #[]) #[t9]) w K fun t10 w=>dx (mConv 261 186 t10) w K fun t11 w=>dx (mNil t0) w K fun t12 w=>dx (mFA 188 t12 0) w K fun t13 w=>dx (mStore 186 t13 t11) w K fun _ w=>K (.returned (.tuple #[])) w) (dx (mNil t0) w K fun t15 w=>dx (mFA 188 t15 0) w K fun t16 w=>dx (mLoad 186 t16) w K fun t17 w=>dx (mEq .neq 186 (.tmp 17) (.tmp 18) t17 t0) w K fun t19 w=>IfX t19 (False) (K (.returned (.tuple #[])) w))
theorem S_strings_Builder_copyCheck_ok{t0 w K}(h:S_strings_Builder_copyCheck t0 w K):Calls prog 226 #[t0] w K:=cw Tryz.func226 rfl rfl (by kernel_rfl) h
def S_strings_Builder_WriteByte(t0 t1 w)(K:KT):=
 cx 226 #[t0] w K fun t6 w=>dx (mNil t0) w K fun t9 w=>dx (mFA 188 t9 1) w K fun t10 w=>dx (mLoad 53 t10) w K fun t11 w=>dx (mBuildS 53 1 #[(0,t1)]) w K fun t13 w=>dx (mB .append #[53,53] 53 #[false,false] #[t11,t13]) w K fun t14 w=>dx (mNil t0) w K fun t15 w=>dx (mFA 188 t15 1) w K fun t16 w=>dx (mStore 53 t16 t14) w K fun _ w=>K (.returned .nilIface) w
theorem S_strings_Builder_WriteByte_ok{t0 t1 w K}(h:S_strings_Builder_WriteByte t0 t1 w K):Calls prog 181 #[t0,t1] w K:=cw Tryz.func181 rfl rfl (by kernel_rfl) h
def S_strings_Builder_WriteString(t0 t1 w)(K:KT):=
 cx 226 #[t0] w K fun t7 w=>dx (mNil t0) w K fun t10 w=>dx (mFA 188 t10 1) w K fun t11 w=>dx (mLoad 53 t11) w K fun t12 w=>dx (mB .append #[53,9] 53 #[false,false] #[t12,t1]) w K fun t14 w=>dx (mNil t0) w K fun t15 w=>dx (mFA 188 t15 1) w K fun t16 w=>dx (mStore 53 t16 t14) w K fun _ w=>dx (mB .len #[9] 3 #[false] #[t1]) w K fun t18 w=>K (.returned (.tuple #[t18,.nilIface])) w
theorem S_strings_Builder_WriteString_ok{t0 t1 w K}(h:S_strings_Builder_WriteString t0 t1 w K):Calls prog 187 #[t0,t1] w K:=cw Tryz.func187 rfl rfl (by kernel_rfl) h
def S_strings_Builder_String(t0 w)(K:KT):=
 QuietX w (fun C1=>QDo prog C1 (mNil t0) fun t4=>QDo prog C1 (mFA 188 t4 1) fun t5=>QDo prog C1 (mLoad 53 t5) fun t6=>QDo prog C1 (mB .unsafeSliceData #[53] 239 #[false] #[t6]) fun t7=>QDo prog C1 (mNil t0) fun t9=>QDo prog C1 (mFA 188 t9 1) fun t10=>QDo prog C1 (mLoad 53 t10) fun t11=>QDo prog C1 (mB .len #[53] 3 #[false] #[t11]) fun t12=>
 ∀w,C1 w →
 dx (mB .unsafeString #[239,3] 9 #[false,false] #[t7,t12]) w K fun t13 w=>K (.returned t13) w)
theorem S_strings_Builder_String_ok{t0 w K}(h:S_strings_Builder_String t0 w K):Calls prog 182 #[t0] w K:=cw Tryz.func182 rfl rfl (by kernel_rfl) h
end
end Go.Proofs.YtlipjfcbjemicaaGreatDoor
namespace Go.Proofs
open Go.Shelf
open Go.RowKit in
def Tryz.lays137_ren:Go.Shelf.Ren:=⟨fun|137=>224|217=>257|266=>283|n=>n,fun|9=>9|5=>5|3=>3|n=>n,fun|n=>n⟩
theorem Tryz.lays137:Go.Proofs.Lays.n137 prog Tryz.lays137_ren:={
 mixed:=by kernel_rfl
 f137:=Tryz.func224.trans (congrArg some (by kernel_rfl))
 f217:=Tryz.func257.trans (congrArg some (by kernel_rfl))
 f266:=Tryz.func283.trans (congrArg some (by kernel_rfl))
 t3:=Tryz.underlying3
 a3:=Tryz.isAgg3
 z3:=Tryz.sizeOf3
 v3:=Tryz.zeroValue3
 t5:=Tryz.underlying5
 a5:=Tryz.isAgg5
 z5:=Tryz.sizeOf5
 v5:=Tryz.zeroValue5
 t9:=Tryz.underlying9
 a9:=Tryz.isAgg9
 z9:=Tryz.sizeOf9
 v9:=Tryz.zeroValue9 }
open Go.RowKit in
theorem Tryz.strings_IndexByte (s:ByteArray)(c:Int)(w:World) :
  Calls prog 224 #[.string s,.int .u8 c] w fun e w'=>e=.returned (.int .i64 (Lib.indexByte s.data.toList c.toNat.toUInt8))∧w'=w:=Any.strings_IndexByte Tryz.lays137 s c w
open Go.RowKit Go.Lib in
def Tryz.lays212_ren:Go.Shelf.Ren:=⟨fun|212=>227|263=>259|264=>260|n=>n,fun|46=>84|51=>153|146=>263|53=>147|148=>265|n=>n,fun|n=>n⟩
theorem Tryz.lays212:Go.Proofs.Lays.n212 prog Tryz.lays212_ren:={
 mixed:=by kernel_rfl
 f212:=Tryz.func227.trans (congrArg some (by kernel_rfl))
 f263:=Tryz.func259.trans (congrArg some (by kernel_rfl))
 f264:=Tryz.func260.trans (congrArg some (by kernel_rfl))
 t46:=Tryz.underlying84
 a46:=Tryz.isAgg84
 z46:=Tryz.sizeOf84
 v46:=Tryz.zeroValue84
 t51:=Tryz.underlying153
 a51:=Tryz.isAgg153
 z51:=Tryz.sizeOf153
 v51:=Tryz.zeroValue153
 t53:=Tryz.underlying147
 a53:=Tryz.isAgg147
 z53:=Tryz.sizeOf147
 v53:=Tryz.zeroValue147
 t146:=Tryz.underlying263
 a146:=Tryz.isAgg263
 z146:=Tryz.sizeOf263
 v146:=Tryz.zeroValue263
 t148:=Tryz.underlying265
 a148:=Tryz.isAgg265
 z148:=Tryz.sizeOf265
 v148:=Tryz.zeroValue265 }
open Go.RowKit Go.Lib in
theorem Tryz.bits_Mul (x y:Nat)(hx:x < 18446744073709551616)(hy:y < 18446744073709551616)(w:World) :
  Calls prog 227 #[.int .u64 x,.int .u64 y] w fun e w'=>e=.returned (.tuple #[.int .u64 ((x*y / 18446744073709551616:Nat):Int),.int .u64 ((x*y % 18446744073709551616:Nat):Int)])∧w'=w:=Any.bits_Mul Tryz.lays212 x y hx hy w
def Tryz.lays105_ren:Go.Shelf.Ren:=⟨fun|105=>189|212=>227|99=>228|165=>229|166=>187|170=>230|169=>182|263=>259|264=>260|206=>261|240=>226|241=>262|276=>258|277=>284|n=>n,fun|9=>9|3=>3|4=>4|20=>20|0=>0|46=>84|109=>240|5=>5|72=>188|76=>205|51=>153|146=>263|53=>147|148=>265|70=>186|37=>53|75=>194|127=>239|164=>261|80=>198|n=>n,fun|n=>n⟩
theorem Tryz.lays105:Go.Proofs.Lays.n105 prog Tryz.lays105_ren:={
 mixed:=by kernel_rfl
 f99:=Tryz.func228.trans (congrArg some (by kernel_rfl))
 f105:=Tryz.func189.trans (congrArg some (by kernel_rfl))
 f165:=Tryz.func229.trans (congrArg some (by kernel_rfl))
 f166:=Tryz.func187.trans (congrArg some (by kernel_rfl))
 f169:=Tryz.func182.trans (congrArg some (by kernel_rfl))
 f170:=Tryz.func230.trans (congrArg some (by kernel_rfl))
 f206:=Tryz.func261.trans (congrArg some (by kernel_rfl))
 f212:=Tryz.func227.trans (congrArg some (by kernel_rfl))
 f240:=Tryz.func226.trans (congrArg some (by kernel_rfl))
 f241:=Tryz.func262.trans (congrArg some (by kernel_rfl))
 f263:=Tryz.func259.trans (congrArg some (by kernel_rfl))
 f264:=Tryz.func260.trans (congrArg some (by kernel_rfl))
 f276:=Tryz.func258.trans (congrArg some (by kernel_rfl))
 f277:=Tryz.func284.trans (congrArg some (by kernel_rfl))
 t0:=Tryz.underlying0
 a0:=Tryz.isAgg0
 z0:=Tryz.sizeOf0
 v0:=Tryz.zeroValue0
 t3:=Tryz.underlying3
 a3:=Tryz.isAgg3
 z3:=Tryz.sizeOf3
 v3:=Tryz.zeroValue3
 t4:=Tryz.underlying4
 a4:=Tryz.isAgg4
 z4:=Tryz.sizeOf4
 v4:=Tryz.zeroValue4
 t5:=Tryz.underlying5
 a5:=Tryz.isAgg5
 z5:=Tryz.sizeOf5
 v5:=Tryz.zeroValue5
 t9:=Tryz.underlying9
 a9:=Tryz.isAgg9
 z9:=Tryz.sizeOf9
 v9:=Tryz.zeroValue9
 t20:=Tryz.underlying20
 a20:=Tryz.isAgg20
 z20:=Tryz.sizeOf20
 v20:=Tryz.zeroValue20
 t37:=Tryz.underlying53
 a37:=Tryz.isAgg53
 z37:=Tryz.sizeOf53
 v37:=Tryz.zeroValue53
 t46:=Tryz.underlying84
 a46:=Tryz.isAgg84
 z46:=Tryz.sizeOf84
 v46:=Tryz.zeroValue84
 t51:=Tryz.underlying153
 a51:=Tryz.isAgg153
 z51:=Tryz.sizeOf153
 v51:=Tryz.zeroValue153
 t53:=Tryz.underlying147
 a53:=Tryz.isAgg147
 z53:=Tryz.sizeOf147
 v53:=Tryz.zeroValue147
 t70:=Tryz.underlying186
 a70:=Tryz.isAgg186
 z70:=Tryz.sizeOf186
 v70:=Tryz.zeroValue186
 t72:=Tryz.underlying188
 a72:=Tryz.isAgg188
 z72:=Tryz.sizeOf188
 v72:=Tryz.zeroValue188
 t75:=Tryz.underlying194
 a75:=Tryz.isAgg194
 z75:=Tryz.sizeOf194
 v75:=Tryz.zeroValue194
 t76:=Tryz.underlying205
 a76:=Tryz.isAgg205
 z76:=Tryz.sizeOf205
 v76:=Tryz.zeroValue205
 t109:=Tryz.underlying240
 a109:=Tryz.isAgg240
 z109:=Tryz.sizeOf240
 v109:=Tryz.zeroValue240
 t127:=Tryz.underlying239
 a127:=Tryz.isAgg239
 z127:=Tryz.sizeOf239
 v127:=Tryz.zeroValue239
 t146:=Tryz.underlying263
 a146:=Tryz.isAgg263
 z146:=Tryz.sizeOf263
 v146:=Tryz.zeroValue263
 t148:=Tryz.underlying265
 a148:=Tryz.isAgg265
 z148:=Tryz.sizeOf265
 v148:=Tryz.zeroValue265
 t164:=Tryz.underlying261
 a164:=Tryz.isAgg261
 z164:=Tryz.sizeOf261
 v164:=Tryz.zeroValue261 }
theorem Tryz.Builder_Extra_105:Builder.Extra prog Tryz.lays105_ren:={
 sizeBuilder:=by kernel_rfl
 liesBuilder:=by kernel_rfl
 t5:=Tryz.underlying5
 a5:=Tryz.isAgg5
 z5:=Tryz.sizeOf5
 v5:=Tryz.zeroValue5
 infoByte:=by kernel_rfl
 cellsByte:=by kernel_rfl
 sizeByte:=by kernel_rfl
 neB5:=by decide }
open Go.RowKit Go.Lib in
theorem Tryz.strings_Repeat (s:ByteArray)(c:Nat)(w:World)(hc:c≤9223372036854775807)(hlen:s.size*c≤140737488355328) :
  Calls prog 189 #[.string s,.int .i64 c] w fun e w'=>e=.returned (.string ⟨(Lib.repeatL s.data.toList c).toArray⟩)∧Below w.heap.size w w':=Any.strings_Repeat Tryz.lays105 Tryz.Builder_Extra_105 s c w hc hlen
end Go.Proofs
namespace Go.Proofs.YtlipjfcbjemicaaGreatDoor
section
open Eng Go.RowKit
abbrev Bld (b:Nat)(v:Value)(l:List UInt8):Ent:=.bld 188 5 b v l
theorem bytesV_append (a b:List UInt8):bytesV (a++b)=bytesV a++bytesV b:=by simp[bytesV]
theorem bytesV_one (l:List UInt8):∀u∈bytesV l,u.oneCell'=true:=by
 intro u hu;simp only[bytesV,List.mem_map] at hu;obtain⟨c,_,rfl⟩:=hu;rfl
theorem e_pnone {P:Program}{T U:TypeId}{xo:Operand}{a:Option Addr}{c:Value}{w:World}{PK:PKT}{K:VWP}(h:P.underlying T=some (.pointer U)) :
  DoX P (mEq .eql T xo (.const c) (.pointer a) (.pointer none)) w PK K=K (.bool a.isNone) w:=by
 refine mv_do ?_;have e:(eqGuard .eql T xo (.const c) (.pointer a) (.pointer none))=pure ():=by cases xo<;>rfl
 rw[e];have h2:∀d:Nat,(Op.equalIn (d+1) T (.pointer a) (.pointer none)).run P w=.ok a.isNone w:=fun d=>by
  cases a<;>simp[Op.equalIn,run_underlying h]
 simp only[binOp];simp[Op.equal,Op.maxDepth,h2 9999]
theorem n_psame {P:Program}{T U:TypeId}{xo yo:Operand}{a:Addr}{w:World}{PK:PKT}{K:VWP}(h:P.underlying T=some (.pointer U))(hi:(P.info? U).isSome=true)(hg:eqGuard .neq T xo yo (.pointer (some a)) (.pointer (some a))=pure ()) :
  DoX P (mEq .neq T xo yo (.pointer (some a)) (.pointer (some a))) w PK K=K (.bool false) w:=by
 obtain⟨j,hj⟩:=Option.isSome_iff_exists.1 hi;refine mv_do ?_;rw[hg];simp[Lib.run_neq_ptr_same w a h hj]
theorem copyCheck_ret {b:Nat}{v:Value}{l:List UInt8}{w:World}(h:(Bld b v l).is w):Ret prog 226 #[.pointer (some ⟨b,0,none⟩)] w
  (fun r w'=>∃e',(r=.tuple #[]∧e'=Bld b v l)∧Turn (Bld b v l) e' w w'):=by
 obtain⟨p,hp,hcap,ho⟩:=(OwnS.lend h).openB;refine ret_of fun K hK=>S_strings_Builder_copyCheck_ok ?_;unfold S_strings_Builder_copyCheck dx;simp only[rs,f_addr (show fOff prog 188 0=some 0 by kernel_rfl)];rw[l_cell (by kernel_rfl) (ho.cell 0 rfl 0 rfl)];rcases hp with rfl|rfl
 ·rw[e_pnone Tryz.underlying186];simp only[Option.isNone_none,rs];obtain⟨j,hj⟩:=Option.isSome_iff_exists.1 (show (Tryz.prog.info? 188).isSome=true by kernel_rfl);have hjs:j.size≠0:=by
   have:(Tryz.prog.info? 188).map (·.size)=some 2:=by kernel_rfl
   rw[hj] at this;simp only[Option.map_some,Option.some.injEq] at this;omega
  have hsh:w.shape? b=some (188,2):=by
   have hb:w.heap[b]?=some (.cells #[.pointer none,v] 188 (0,0)):=ho.at_ 0 rfl;simp[World.shape?,hb]
  refine do_ok (mv_run (Lib.run_to_unsafe w ⟨b,0,none⟩ Tryz.underlying186 Tryz.underlying261 hj hjs hsh (by show 0 < 2;omega))) ?_;refine do_ok (show (mCallV (.func (.func 258) #[] #[]) #[.pointer (some ⟨b,0,none⟩)]).run prog w=.ok (.value (.pointer (some ⟨b,0,none⟩))) w by kernel_rfl) ?_;refine do_ok (mv_run (Lib.run_from_unsafe w ⟨b,0,none⟩ Tryz.underlying261 Tryz.underlying186 hj hsh (by kernel_rfl))) ?_;refine o_store 0 ho rfl (by kernel_rfl) rfl (by simp) fun w2 ho2=>?_;exact hK _ _ ⟨_,⟨rfl,rfl⟩,(OwnS.closeB (.inr rfl) hcap ho2).back⟩
 ·rw[e_pnone Tryz.underlying186];simp only[Option.isNone_some,rs,f_addr (show fOff prog 188 0=some 0 by kernel_rfl)];rw[l_cell (by kernel_rfl) (ho.cell 0 rfl 0 rfl)];rw[n_psame Tryz.underlying186 (by kernel_rfl) rfl];simp only[rs];exact hK _ _ ⟨_,⟨rfl,rfl⟩,(ho.closeB (.inr rfl) hcap).back⟩
theorem writeByte_ret {b:Nat}{v:Value}{l:List UInt8}{c:UInt8}{w:World}(h:(Bld b v l).is w)(hl:l.length < 140737488355328):Ret prog 181 #[.pointer (some ⟨b,0,none⟩),.int .u8 c.toNat] w
  (fun r w'=>∃e',(r=.nilIface∧∃v',e'=Bld b v' (l++[c]))∧Turn (Bld b v l) e' w w'):=by
 refine ret_of fun K hK=>S_strings_Builder_WriteByte_ok ?_;unfold S_strings_Builder_WriteByte dx cx;refine c_turn 0 (OwnS.lend h) rfl (copyCheck_ret h) ?_;rintro _ _ w1 ⟨rfl,rfl⟩ ho1;obtain⟨p,hp,hcap,ho⟩:=OwnS.openB ho1;simp only[rs,f_addr (show fOff prog 188 1=some 1 by kernel_rfl)];rw[l_cell (by kernel_rfl) (ho.cell 0 rfl 1 rfl)];refine o_new (fun b=>.slice (some ⟨b,0,none⟩) 1 1) [.int .u8 c.toNat] 5 (fun _=>by kernel_rfl) ho fun nb w2 h2=>?_;refine o_append 2 Tryz.underlying53 (show elB prog 5 1 1=true by kernel_rfl) (by decide) h2 rfl (h2.sl 0 rfl 1 1 1 rfl) (bytesV_one [c]) (by omega) (by omega) fun v' w3 h3=>?_;refine o_store 1 h3 rfl (by kernel_rfl) (by
  have:=h3.at_ 2 rfl;rcases this.2 with ⟨hv,_⟩|⟨_,_,_,_,hv,_⟩<;>rw[hv]<;>rfl) (by simp) fun w4 h4=>?_
 have h5:=h4.tail;have h6:OwnS (Bld b v l).blk w w4 (.cells b [p,v'] 188::.row 5 1 v' (l.length+1) (bytesV (l++[c]))::[]):=by
  rw[bytesV_append];exact h5
 exact hK _ _ ⟨_,⟨rfl,v',rfl⟩,(OwnS.closeB hp (roomy_row (h6.at_ 1 rfl) (by omega)) h6).back⟩
theorem writeString_ret {b:Nat}{v:Value}{l s:List UInt8}{w:World}(h:(Bld b v l).is w)(hl:l.length+s.length≤140737488355328):Ret prog 187 #[.pointer (some ⟨b,0,none⟩),.string ⟨s.toArray⟩] w
  (fun r w'=>∃e',((∃x,r=.tuple #[x,.nilIface])∧∃v',e'=Bld b v' (l++s))∧Turn (Bld b v l) e' w w'):=by
 refine ret_of fun K hK=>S_strings_Builder_WriteString_ok ?_;unfold S_strings_Builder_WriteString dx cx;refine c_turn 0 (OwnS.lend h) rfl (copyCheck_ret h) ?_;rintro _ _ w1 ⟨rfl,rfl⟩ ho1;obtain⟨p,hp,hcap,ho⟩:=OwnS.openB ho1;simp only[rs,f_addr (show fOff prog 188 1=some 1 by kernel_rfl)];rw[l_cell (by kernel_rfl) (ho.cell 0 rfl 1 rfl)];refine o_append_str 1 Tryz.underlying53 Tryz.underlying9 (show elB prog 5 1 1=true by kernel_rfl) Tryz.underlying5 (by kernel_rfl) ho rfl (by omega) fun v' w3 hro h3=>?_;refine o_store 0 h3 rfl (by kernel_rfl) (by
  have:=h3.at_ 1 rfl;rcases this.2 with ⟨hv,_⟩|⟨_,_,_,_,hv,_⟩<;>rw[hv]<;>rfl) (by simp) fun w4 h4=>?_
 rw[s_len Tryz.underlying9];have h6:OwnS (Bld b v l).blk w w4 (.cells b [p,v'] 188::.row 5 1 v' (l.length+s.length) (bytesV (l++s))::[]):=by
  rw[bytesV_append];exact h4
 exact hK _ _ ⟨_,⟨⟨_,rfl⟩,v',rfl⟩,(OwnS.closeB hp (hro hcap) h6).back⟩
theorem row_froze {E:TypeId}{g n cap:Nat}{xs:List Value}{w:World}(h:w.ownsRowF 0 E 1 (.slice (some ⟨g,0,none⟩) n cap) n xs)(hn0:n≠0) :
  Turn (.row E 1 (.slice (some ⟨g,0,none⟩) n cap) n xs) (.row E 1 (.slice (some ⟨g,0,none⟩) n cap) n xs) w (w.freeze ⟨g,0,none⟩ n):=by
 refine⟨?_,?_,fun k hk=>.inl hk⟩
 ·unfold World.freeze;rw[if_neg hn0];refine⟨rfl,rfl,rfl,by simp,fun k hk hne=>?_⟩;have hkg:¬g=k:=fun e=>hne (by show some g=some k;rw[e]);simp only[Array.getElem?_modify];rw[if_neg hkg]
 ·refine⟨h.1,?_⟩;unfold World.freeze;rw[if_neg hn0];rcases h.2 with ⟨hv,_⟩|⟨g',cap',cur,fz,hv,hbg,hg,hfz,rest⟩
  ·cases hv
  ·injection hv with ha _ hcap
   injection ha with ha
   injection ha with hgg _ _
   subst hgg;subst hcap;obtain⟨lo,hi⟩:=fz;refine .inr ⟨g,_,cur,(if lo==hi then (0,0+n) else (min lo 0,max hi (0+n))),rfl,hbg,?_,?_,rest⟩
   ·simp[Array.getElem?_modify,hg]
   ·simp only at hfz;split<;>simp<;>omega
theorem run_usd {v:Value}{n:Nat}{T U:TypeId}{cs:Array Bool}{w:World}{E:TypeId}{xs:List Value}(h:w.ownsRowF 0 E 1 v n xs)(hr:roomy v):∃q,(∀w':World,(mB .unsafeSliceData #[T] U cs #[v]).run prog w'=.ok (.value (.pointer q)) w')∧(0 < n→∃g cap,v=.slice (some ⟨g,0,none⟩) n cap∧q=some ⟨g,0,none⟩):=by
 rcases h.2 with ⟨rfl,rfl⟩|⟨g,cap,cur,fz,rfl,hbg,hg,hfz,rest⟩
 ·exact⟨none,fun w'=>by simp[mB,builtin,Lib.run_unsafeSliceData_nil],fun h=>by omega⟩
 ·refine⟨some ⟨g,0,none⟩,fun w'=>?_,fun _=>⟨g,cap,rfl,rfl⟩⟩;have hc:cap≠0:=fun e=>hr ⟨g,0,none⟩ n (by rw[e]);simp[mB,builtin,Lib.run_unsafeSliceData_row _ _ _ _ _ _ hc]
theorem bldString_ret {b:Nat}{v:Value}{l:List UInt8}{w:World}(h:(Bld b v l).is w):Ret prog 182 #[.pointer (some ⟨b,0,none⟩)] w
  (fun r w'=>∃e',(r=.string ⟨l.toArray⟩∧e'=Bld b v l)∧Turn (Bld b v l) e' w w'):=by
 obtain⟨p,hp,hcap,ho⟩:=(OwnS.lend h).openB;refine ret_of fun K hK=>S_strings_Builder_String_ok ?_;unfold S_strings_Builder_String dx;have hrow:w.ownsRowF 0 5 1 v l.length (bytesV l):=ho.at_ 1 rfl;obtain⟨q,hq,hq2⟩:=run_usd (T:=53) (U:=239) (cs:=#[false]) hrow hcap;have hload:∀w',Below w.heap.size w w'→(mLoad 53 (.pointer (some ⟨b,0+1,none⟩))).run prog w'=.ok (.value v) w':=fun w' hb=>run_load_cell (by kernel_rfl) ((ho.grow hb).cell 0 rfl 1 rfl);have hlen:∀w',Below w.heap.size w w'→(mB .len #[53] 3 #[false] #[v]).run prog w'=.ok (.value (.int .i64 l.length)) w':=fun w' hb=>by
  have hs:=(ho.grow hb).slRow 1 rfl;obtain⟨_,a,cp,rfl,_⟩:=hs;simp[mB,builtin,Builtin.len_,run_underlying Tryz.underlying53,goInt]
 refine quiet (q_do _ (fun w=>run_nil) (q_do _ (fun w=>run_fa (show fOff prog 188 1=some 1 by kernel_rfl)) (q_at v hload (q_do _ hq (q_do _ (fun w=>run_nil) (q_do _ (fun w=>run_fa (show fOff prog 188 1=some 1 by kernel_rfl)) (q_at v hload (q_at _ hlen ?_))))))));intro w2 hb2;have h2:=ho.grow hb2;rcases Nat.eq_zero_or_pos l.length with h0|h0
 ·have hl:l=[]:=List.eq_nil_of_length_eq_zero h0;subst hl;refine do_ok (show (mB .unsafeString #[239,3] 9 #[false,false] #[.pointer q,.int .i64 0]).run prog w2=.ok (.value (.string ⟨([]:List UInt8).toArray⟩)) w2 by
   simp[mB,builtin,Lib.run_unsafeString_none];rfl) ?_
  exact hK _ _ ⟨_,⟨rfl,rfl⟩,(OwnS.closeB hp hcap h2).back⟩
 ·obtain⟨g,cap,rfl,rfl⟩:=hq2 h0;have hr2:w2.ownsRowF 0 5 1 (.slice (some ⟨g,0,none⟩) l.length cap) l.length (bytesV l):=h2.at_ 1 rfl;have hne:l≠[]:=List.length_pos_iff.1 h0;have hsh:∃cells,w2.shape? g=some (5,cells)∧l.length≤cells∧l.length≤9223372036854775807:=by
   rcases hr2.2 with ⟨hv,_⟩|⟨g',cap',cur,fz,hv,hbg,hg,hfz,hnc,hcm,hcs,_⟩
   ·cases hv
   ·injection hv with ha _ hcap
    injection ha with ha
    injection ha with hgg _ _
    subst hgg;refine⟨cur.size,by simp[World.shape?,hg],by omega,?_⟩;simp only[maxLen] at hcm;omega
  obtain⟨cells,hsh,hle,h63⟩:=hsh;have hr:=Lib.run_unsafeString_row (P:=prog) w2 239 3 9 5 Tryz.underlying239 (by kernel_rfl) g cells hsh l hne hle h63 (fun j x hj=>by
   have:=World.ownsRowF.cells hr2 (g:=g) rfl j (.int .u8 x.toNat) (bytesV_get hj);exact this)
  refine do_ok (show (mB .unsafeString #[239,3] 9 #[false,false] #[.pointer (some ⟨g,0,none⟩),.int .i64 l.length]).run prog w2=.ok (.value (.string ⟨l.toArray⟩)) (w2.freeze ⟨g,0,none⟩ l.length) by
   simp[mB,builtin,hr]) ?_
  have h3:=h2.turn 1 rfl (row_froze hr2 (by omega));exact hK _ _ ⟨_,⟨rfl,rfl⟩,(OwnS.closeB hp hcap h3).back⟩
end
section
open Eng
def S_octet_Hex_0(t0 t3 t10 t11 w)(N1:JT)(K:KT):=
 dx (mBin .lss 3 t11 t10) w K fun t12 w=>IfX t12 (QuietX w (fun C2=>QDo prog C2 (mIx 9 t0 t11) fun t17=>QDo prog C2 (mBin .shr 5 t17 (.int .u64 4)) fun t18=>QDo prog C2 (mIx 9 (.string ⟨#[48,49,50,51,52,53,54,55,56,57,65,66,67,68,69,70]⟩) t18) fun t19=>QDo prog C2 (mIx 9 t0 t11) fun t22=>QDo prog C2 (mBin .and 5 t22 (.int .u8 15)) fun t23=>QDo prog C2 (mIx 9 (.string ⟨#[48,49,50,51,52,53,54,55,56,57,65,66,67,68,69,70]⟩) t23) fun t24=>
 ∀w,C2 w →
 DoX prog (mBuildS 53 2 #[(0,t19),(1,t24)]) w (pm1 (pm1 (pm1 (pm1 (pm1 (pk K)))))) fun t25 w=>DoX prog (mB .append #[53,53] 53 #[false,false] #[t3,t25]) w (pm1 (pm1 (pm1 (pm1 (pm1 (pk K)))))) fun t26 w=>dx (mBin .add 3 t11 (iN 1)) w K fun t27 w=>N1 [t26,t27] w)) (dx (mConv 53 9 t3) w K fun t29 w=>K (.returned t29) w)
def S_octet_Hex(t0 w)(K:KT):=
 dx (mB .len #[9] 3 #[false] #[t0]) w K fun t6 w=>dx (mBin .mul 3 (iN 2) t6) w K fun t7 w=>dx (mMake 53 (iN 0) t7) w K fun t8 w=>dx (mB .len #[9] 3 #[false] #[t0]) w K fun t10 w=>LoopX [t8,(iN 0)] w (fun vs1 w N1=>∀_:Sg,S_octet_Hex_0 t0 (vs1.getD 0 undef) t10 (vs1.getD 1 undef) w N1 K)
theorem S_octet_Hex_eq (t0:Value)(w:World)(K:Ending→World→Prop):wpX prog 30 [] [(3,[3,11])] none (bodyOf Tryz.f172) (topQ prog [.tmp 2] K) (startX [t0]) [] w=S_octet_Hex t0 w K:=by kernel_rfl
theorem S_octet_Hex_ok {t0:Value}{w:World}{K:Ending→World→Prop}(h:S_octet_Hex t0 w K):Calls prog 172 #[t0] w K:=
 calls_of_wpX Tryz.func172 rfl rfl rfl rfl (Eq.mpr (S_octet_Hex_eq t0 w K) h)
def S_octet_White(t0 w)(K:KT):=
 cx 224 #[(.string ⟨#[0,9,10,12,13,32]⟩),t0] w K fun t4 w=>dx (mBin .geq 3 t4 (iN 0)) w K fun t5 w=>K (.returned t5) w
theorem S_octet_White_ok{t0 w K}(h:S_octet_White t0 w K):Calls prog 177 #[t0] w K:=cw Tryz.func177 rfl rfl (by kernel_rfl) h
end
end Go.Proofs.YtlipjfcbjemicaaGreatDoor






namespace Go.Proofs.YtlipjfcbjemicaaGreatDoor
section
open Eng Go.RowKit
theorem ix_cases (c:UInt8):∀l:List UInt8,(Lib.indexByte l c=-1∧l.takeWhile (fun x=>x != c)=l∧l.dropWhile (fun x=>x != c)=[]) ∨
  ∃i:Nat,Lib.indexByte l c=i∧i < l.length∧l.takeWhile (fun x=>x != c)=l.take i∧l.dropWhile (fun x=>x != c)=l.drop i
|[]=>.inl ⟨rfl,rfl,rfl⟩
|b::l=>by
  by_cases h:b=c
  ·subst h;exact .inr ⟨0,by simp[Lib.indexByte],by simp,by simp,by simp⟩
  ·have hb:(b==c)=false:=by simpa using h
   have hb2:(b != c)=true:=by simpa using h
   rcases ix_cases c l with ⟨h1,h2,h3⟩|⟨i,h1,h2,h3,h4⟩
   ·exact .inl ⟨by simp[Lib.indexByte,hb,h1],by simp[hb2,h2],by simp[hb2,h3]⟩
   ·refine .inr ⟨i+1,?_,by simp;omega,by simp[hb2,h3],by simp[hb2,h4]⟩;have e:((i:Int)==-1)=false:=by simp
    simp only[Lib.indexByte,hb,h1,e,Bool.false_eq_true,if_false];omega
end
end Go.Proofs.YtlipjfcbjemicaaGreatDoor

namespace Go.Proofs.YtlipjfcbjemicaaGreatDoor
section
open Eng Go.RowKit
theorem indexByte_ret (l:List UInt8)(c:UInt8)(w:World):Ret prog 224 #[.string ⟨l.toArray⟩,.int .u8 c.toNat] w (fun v w'=>v=.int .i64 (Lib.indexByte l c)∧w=w'):=by
 refine Calls.mono (Tryz.strings_IndexByte ⟨l.toArray⟩ c.toNat w) ?_;rintro e w' ⟨rfl,rfl⟩;refine retK ⟨?_,rfl⟩;simp
theorem white_ret (c:UInt8)(w:World):Ret prog 177 #[.int .u8 c.toNat] w (fun v w'=>v=.bool (Oc.white c)∧w=w'):=by
 refine ret_of fun K hK=>S_octet_White_ok ?_;unfold S_octet_White iN dx cx;refine c_eq (indexByte_ret Oc.whites c w) ?_;simp only[rs,Oc.indexByte_nonneg];exact hK _ _ ⟨rfl,rfl⟩
theorem shr4 (c:UInt8):(c.toNat:Int).fdiv (2 ^ (min (4:Int).toNat IntKind.u8.bits))=((c.toNat / 16:Nat):Int):=by
 rw[Int.fdiv_eq_ediv_of_nonneg _ (by decide)];show ((c.toNat:Int) / 16)=_;omega
theorem and15_fin:∀n:Fin 256,bAnd .u8 (n.val:Int) 15=((n.val % 16:Nat):Int):=by decide +kernel
theorem and15 (c:UInt8):bAnd .u8 (c.toNat:Int) 15=((c.toNat % 16:Nat):Int):=and15_fin ⟨c.toNat,c.toNat_lt⟩
theorem hexD_get (k:IntKind){n:Nat}(h:n < 16)(w:World):(mIx 9 (.string ⟨#[48,49,50,51,52,53,54,55,56,57,65,66,67,68,69,70]⟩) (.int k (n:Int))).run prog w=.ok (.value (.int .u8 (Oc.hexD n).toNat)) w:=
 run_s_ix (a:=Oc.hexs) (c:=Oc.hexD n) Tryz.underlying9 (by omega) (by rw[Int.toNat_natCast];exact Oc.hexs_get h)
theorem hex_ret (l:List UInt8)(w:World)(hl:l.length≤1000000):Ret prog 172 #[.string ⟨l.toArray⟩] w (fun v w'=>v=.string ⟨(Oc.hex l).toArray⟩∧Below w.heap.size w w'):=by
 refine ret_of fun K hK=>S_octet_Hex_ok ?_;unfold S_octet_Hex iN dx;rw[s_len Tryz.underlying9];simp only[rs];rw[wrap64_id (by omega) (by omega)];refine o_make (c:=2*l.length) (by omega) Tryz.underlying53 (show elB prog 5 1 1=true by kernel_rfl) (by omega) (by omega) (Own.start w) fun v w1 h1=>?_;rw[s_len Tryz.underlying9];refine loop (fun vs w'=>∃(i:Nat) (v:Value),vs=[v,.int .i64 i]∧i≤l.length∧Own w w' [.row 5 1 v (2*i) (bytesV (Oc.hex (l.take i)))])
  (fun vs _=>l.length - n1 vs) ⟨0,v,rfl,by omega,by simpa[Oc.hex,bytesV] using h1⟩ ?_
 rintro vs w2 ⟨i,v,rfl,hi,ho⟩ _;simp only[S_octet_Hex_0,gd,rs,iN,dx];by_cases hlt:(i:Int) < (l.length:Int)
 ·have hi2:i < l.length:=by omega
  have hc:l[(i:Int).toNat]?=some l[i]:=by simp[hi2]
  have hd1:l[i].toNat / 16 < 16:=by have:=l[i].toNat_lt;omega
  have hd2:l[i].toNat % 16 < 16:=by omega
  simp only[hlt,decide_true,rs];refine quiet (q_do _ (fun w=>run_s_ix Tryz.underlying9 (by omega) hc) (q_do _ (fun w=>by rw[r_shr (by omega),shr4]) (q_do _ (fun w=>hexD_get _ hd1 w)
   (q_do _ (fun w=>run_s_ix Tryz.underlying9 (by omega) hc) (q_do _ (fun w=>by rw[r_and,and15]) (q_do _ (fun w=>hexD_get _ hd2 w) ?_))))))
  intro w3 hb3;refine o_new (fun b=>.slice (some ⟨b,0,none⟩) 2 2) (bytesV (Oc.hex1 l[i])) 5 (fun _=>by kernel_rfl) (ho.grow hb3) fun nb w4 h4=>?_;refine o_append 1 Tryz.underlying53 (show elB prog 5 1 1=true by kernel_rfl) (by decide) h4 rfl (h4.sl 0 rfl 1 2 2 rfl) (bytesV_one _) (by omega) (by omega) fun v' w5 h5=>?_;rw[wrap64_id (by omega) (by omega)];refine nextX ⟨i+1,v',rfl,by omega,?_⟩ (by simp[n1,RowKit.intOf];omega);have e:bytesV (Oc.hex (l.take (i+1)))=bytesV (Oc.hex (l.take i))++bytesV (Oc.hex1 l[i]):=by
   rw[List.take_succ_eq_append_getElem hi2,Oc.hex_snoc,bytesV_append]
  rw[e];exact h5.tail
 ·have hi2:i=l.length:=by omega
  subst hi2;simp only[hlt,decide_false,rs];have hs:=ho.slRow 0 rfl;rw[c_bytes (l:=Oc.hex l) Tryz.underlying53 Tryz.underlying5 Tryz.underlying9 (by rw[Oc.hex_length];simpa using hs)];exact hK _ _ ⟨rfl,ho.done⟩
end
section
open Eng Go.RowKit
theorem repeatL_one (c:UInt8)(n:Nat):Lib.repeatL [c] n=List.replicate n c:=by
 induction n with
|zero=>rfl
|succ n ih=>simp[Lib.repeatL,List.replicate_succ,ih]
theorem u8_of (n:Nat)(h:n < 256):((UInt8.ofNat n).toNat:Int)=(n:Int):=by rw[UInt8.toNat_ofNat'];omega
theorem writeByteN_ret {b:Nat}{v:Value}{l:List UInt8}{n:Int}{k:Nat}{w:World}(h:(Bld b v l).is w)(hl:l.length < 140737488355328)(hn:n=k)(hk:k < 256):Ret prog 181 #[.pointer (some ⟨b,0,none⟩),.int .u8 n] w
  (fun r w'=>∃e',(r=.nilIface∧∃v',e'=Bld b v' (l++[UInt8.ofNat k]))∧Turn (Bld b v l) e' w w'):=by
 have:=writeByte_ret (c:=UInt8.ofNat k) h hl;rw[u8_of k hk,←hn] at this;exact this
theorem u8d (c:UInt8)(k:Int)(x:UInt8)(hx:(x.toNat:Int)=k):decide ((c.toNat:Int)=k)=decide (c=x):=by
 by_cases h:c=x
 ·subst h;rw[decide_eq_true hx,decide_eq_true rfl]
 ·rw[decide_eq_false h,decide_eq_false];intro h2;exact h (UInt8.toNat_inj.1 (by omega))
end
section
open Eng Go.RowKit
def strV (p:List UInt8):Value:=.string ⟨p.toArray⟩
def strsV (ps:List (List UInt8)):List Value:=ps.map strV
theorem strsV_get {ps:List (List UInt8)}{i:Nat}(h:i < ps.length):(strsV ps)[i]?=some (.string ⟨ps[i].toArray⟩):=by simp[strsV,strV,h]
end
section
open Eng Go.RowKit Go.ChangeShapes Go.WideShapes Go.ChangeAt
theorem laidMet_tail {P:Program}{x:String×DataW Unit}{l:List (String×DataW Unit)}{W:World}(h:laidMet P (x::l) W):laidMet P l W:=by
 obtain⟨ps,⟨g,t,cs,fuel,p,q,_,_,_,_,hr,rfl⟩,hn,hc⟩:=h;exact⟨q,hr,(List.nodup_append.1 hn).2.1,fun b off hm=>hc b off (by simp[hm])⟩
end
section
namespace Eng
open Go.RowKit
def aggN (P:Program)(T:TypeId):Option Nat:=
 match P.underlying T with
|some (.struct _)|some (.array _ _)=>(P.info? T).map (·.size)
|_=>none
def AtV (P:Program)(w:World)(T:TypeId)(a:Addr)(v:Value):Prop:=(loadVar T a).run P w=.ok v w
section
variable {S:Nat→Prop}{P:Program}{w:World}{PK:PKT}{K:VWP}
theorem AtV.cell {T:TypeId}(ht:notAgg P T=true){a:Addr}{v:Value}(h:w.cell? a=some v):AtV P w T a v:=run_loadVar_cell ht h
theorem AtV.agg {T:TypeId}{n:Nat}(ht:aggN P T=some n){b off:Nat}{cs:List Value}(hl:cs.length=n)(h:∀j v,cs[j]?=some v→w.cell? ⟨b,off+j,none⟩=some v):AtV P w T ⟨b,off,none⟩ (.agg cs.toArray):=by
 have hc:=run_loadCells_list (P:=P) w ⟨b,off,none⟩ cs (fun j v hj=>by rw[add_none];exact h j v hj);unfold aggN at ht;subst hl;unfold AtV;split at ht
 ·rename_i fs hu
  obtain⟨i,hi,h1⟩:=Option.map_eq_some_iff.1 ht;simp[loadVar,isAgg,run_underlying hu,sizeOf,typeInfo,hi,h1,hc]
 ·rename_i k e hu
  obtain⟨i,hi,h1⟩:=Option.map_eq_some_iff.1 ht;simp[loadVar,isAgg,run_underlying hu,sizeOf,typeInfo,hi,h1,hc]
 ·cases ht
theorem run_load_at {T:TypeId}{a:Addr}{v:Value}(h:AtV P w T a v):(mLoad T (.pointer (some a))).run P w=.ok (.value v) w:=by
 unfold AtV at h;exact mv_run (by simp[Instr.loadAt,Instr.sureAddr,h])
theorem l_at {T:TypeId}{a:Addr}{v:Value}(h:AtV P w T a v):DoX P (mLoad T (.pointer (some a))) w PK K=K v w:=do_eq (run_load_at h)
theorem OwnS.agg {w0:World}{L:List Ent}(ho:OwnS S w0 w L)(i:Nat){b:Nat}{cs:List Value}{E T:TypeId}(hi:L[i]?=some (.cells b cs E))(ht:aggN P T=some cs.length):AtV P w T ⟨b,0,none⟩ (.agg cs.toArray):=
 AtV.agg ht rfl fun j v hj=>by rw[Nat.zero_add];exact ho.cell i hi j hj
theorem run_store_agg {T:TypeId}{b:Nat}{cs new:List Value}{E:TypeId}(hs:(P.info? T).map (·.size)=some new.length)(hv:∀v∈new,v.oneCell'=true)(hl:cs.length=new.length)(h:w.heap[b]?=some (.cells cs.toArray E (0,0))) :
  (Instr.storeAt T (.pointer (some ⟨b,0,none⟩)) (.agg new.toArray)).run P w=.ok () (w.setRow b new.toArray):=by
 have hst:=run_storeCells_at P b 0 E new 0 cs.toArray w h (by simp;omega) hv;obtain⟨i,hi,h1⟩:=Option.map_eq_some_iff.1 hs;have hd:cs.toArray.toList.drop new.length=[]:=List.drop_eq_nil_of_le (by rw[←hl];exact Nat.le_refl _);simp only[Nat.add_zero,Nat.zero_add,List.take_zero,List.nil_append,hd,List.append_nil] at hst;have hc:(Value.agg new.toArray).cells=new.toArray:=rfl;simp[Instr.storeAt,Instr.sureAddr,storeVar,hc,sizeOf,typeInfo,hi,h1,hst]
theorem o_put {w0:World}{L:List Ent}(i:Nat){T:TypeId}{b:Nat}{cs new:List Value}{E:TypeId}(ho:OwnS S w0 w L)(hi:L[i]?=some (.cells b cs E))(hs:(P.info? T).map (·.size)=some new.length)(hv:∀v∈new,v.oneCell'=true)(hl:cs.length=new.length)
  (k:∀w',OwnS S w0 w' (L.set i (.cells b new E))→K undef w'):DoX P (mStore T (.pointer (some ⟨b,0,none⟩)) (.agg new.toArray)) w PK K:=
 do_skip (mu_run (run_store_agg hs hv hl (ho.at_ i hi))) (k _ (setRow_own ho i hi _))
theorem run_s_slice {T:TypeId}{a:List UInt8}{k k':IntKind}{lo hi:Int}(h:P.underlying T=some .string)(h0:0≤lo)(h1:lo≤hi)(h2:hi≤a.length) :
  (mSlice T (.string ⟨a.toArray⟩) (some (.int k lo)) (some (.int k' hi)) none).run P w=.ok (.value (.string ⟨((a.drop lo.toNat).take (hi.toNat - lo.toNat)).toArray⟩)) w:=by
 refine mv_run ?_;have e:(⟨a.toArray⟩:ByteArray).extract lo.toNat hi.toNat=⟨((a.drop lo.toNat).take (hi.toNat - lo.toNat)).toArray⟩:=by
  rw[str_ext (s:=(⟨a.toArray⟩:ByteArray).extract lo.toNat hi.toNat),Lib.extract_data]
 have g1:(0≤hi∧hi≤((a.length:Nat):Int)):=by omega
 have g2:(0≤lo∧lo≤((hi.toNat:Nat):Int)):=by omega
 simp only[Instr.sliceAt,Instr.slice,Instr.sliceBounds,Instr.sliceBound,asIntOf,run_underlying h,str_size];have g3:lo≤max hi 0:=by omega
 simp[run_underlying h,str_size,h2,g3,h0,g1.1,e]
theorem ret_v1 {r1:RV}{v1:Value}{K:Ending→World→Prop}(h1:r1.read.run P w=.ok v1 w)(k:K (.returned v1) w):RetX P [r1] w K:=
 ⟨_,by simp[resRun,h1],k⟩
theorem ret_v2 {r1 r2:RV}{v1 v2:Value}{K:Ending→World→Prop}(h1:r1.read.run P w=.ok v1 w)(h2:r2.read.run P w=.ok v2 w)(k:K (.returned (.tuple #[v1,v2])) w):RetX P [r1,r2] w K:=
 ⟨_,by simp[resRun,h1,h2],k⟩
theorem ret_v3 {r1 r2 r3:RV}{v1 v2 v3:Value}{K:Ending→World→Prop}(h1:r1.read.run P w=.ok v1 w)(h2:r2.read.run P w=.ok v2 w)(h3:r3.read.run P w=.ok v3 w)(k:K (.returned (.tuple #[v1,v2,v3])) w):RetX P [r1,r2,r3] w K:=
 ⟨_,by simp[resRun,h1,h2,h3],k⟩
theorem rv_cell {T:TypeId}{a:Addr}{v:Value}(h:AtV P w T a v):(RV.cell (.pointer (some a)) T).read.run P w=.ok v w:=by
 unfold AtV at h;simp[RV.read,asAddr,h]
theorem rv_val {v:Value}:(RV.val v).read.run P w=.ok v w:=by simp[RV.read]
end
end Eng
end
section
namespace Eng
open Go.RowKit
section
variable {S:Nat→Prop}{P:Program}{w w0:World}{L:List Ent}{PK:PKT}{K:VWP}
theorem OwnS.join {w':World}{L':List Ent}(h:OwnS S w0 w L)(k:OwnS NoB w w' L'):OwnS S w0 w' (L'++L):=by
 have h':=h.grow k.below;refine⟨h'.grew,fun e he=>?_,List.pairwise_append.2 ⟨k.apart,h'.apart,fun e he f hf b hb hb'=>?_⟩⟩
 ·rcases List.mem_append.1 he with he|he
  ·obtain⟨a,b⟩:=k.all e he;refine⟨a,fun j hj=>.inr ?_⟩;rcases b j hj with h1|h1
   ·exact h1.elim
   ·exact Nat.le_trans h.size h1
  ·exact h'.all e he
 ·have h2:=f.lt (h.mem hf) b hb';rcases (k.all e he).2 b hb with h1|h1
  ·exact h1
  ·omega
end
end Eng
end
section
namespace Eng
open Go.RowKit
def eqSh (P:Program):List Field→Option (List (Nat×Bool))
|[]=>some []
|f::fs=>
  if f.name=="_" then none
  else match P.underlying f.type with
  |some (.int _)=>(eqSh P fs).map ((f.offset,false)::·)
  |some .string=>(eqSh P fs).map ((f.offset,true)::·)
  |_=>none
def cellOk:Bool→Option Value→Option Value→Bool
|false,some (.int k _),some (.int k' _)=>decide (k=k')
|true,some (.string _),some (.string _)=>true
|_,_,_=>false
def cellEq:Option Value→Option Value→Bool
|some (.int _ a),some (.int _ b)=>a==b
|some (.string a),some (.string b)=>a.toList==b.toList
|_,_=>false
section
variable {P:Program}{w:World}{PK:PKT}{K:VWP}
theorem run_eqSh (d:Nat)(xs ys:Array Value):∀(fs:List Field) (sh:List (Nat×Bool)),eqSh P fs=some sh→(sh.all fun p=>cellOk p.2 xs[p.1]? ys[p.1]?)=true →
  (Op.eqFields (d+1) xs ys fs).run P w=.ok (sh.all fun p=>cellEq xs[p.1]? ys[p.1]?) w
|[],sh,h,_=>by
  cases h;simp[Op.eqFields]
|f::fs,sh,h,hok=>by
  rw[eqSh] at h;split at h
  ·cases h
  ·rename_i hn
   have hn':f.name≠"_":=by simpa using hn
   split at h
   ·rename_i k hu
    obtain⟨sh',h',rfl⟩:=Option.map_eq_some_iff.1 h;simp only[List.all_cons,Bool.and_eq_true] at hok;obtain⟨h0,hok⟩:=hok;have ih:=run_eqSh d xs ys fs sh' h' hok;cases hx:xs[f.offset]? with
   |none=>rw[hx] at h0;cases h0
   |some a=>
     cases hy:ys[f.offset]? with
    |none=>rw[hx,hy] at h0;cases a<;>cases h0
    |some b=>
      rw[hx,hy] at h0;cases a<;>cases b<;>first|(cases h0;done)|skip
      rename_i k1 a k2 b
      simp only[cellOk,decide_eq_true_eq] at h0;subst h0;simp only[Op.eqFields,hn',ne_eq,not_false_eq_true,if_true,Sem.run_bind,part,isAgg,run_underlying hu,Result.andThen_ok,Sem.run_pure,Bool.false_eq_true,if_false,hx,hy,run_equalIn_int w d f.type k1 k a b hu,List.all_cons,cellEq];cases hab:(a==b)
      ·simp
      ·simp[ih];rfl
   ·rename_i hu
    obtain⟨sh',h',rfl⟩:=Option.map_eq_some_iff.1 h;simp only[List.all_cons,Bool.and_eq_true] at hok;obtain⟨h0,hok⟩:=hok;have ih:=run_eqSh d xs ys fs sh' h' hok;cases hx:xs[f.offset]? with
   |none=>rw[hx] at h0;cases h0
   |some a=>
     cases hy:ys[f.offset]? with
    |none=>rw[hx,hy] at h0;cases a<;>cases h0
    |some b=>
      rw[hx,hy] at h0;cases a<;>cases b<;>first|(cases h0;done)|skip
      rename_i a b
      simp only[Op.eqFields,hn',ne_eq,not_false_eq_true,if_true,Sem.run_bind,part,isAgg,run_underlying hu,Result.andThen_ok,Sem.run_pure,Bool.false_eq_true,if_false,hx,hy,run_equalIn_string w d f.type a b hu,List.all_cons,cellEq];cases hab:(a.toList==b.toList)
      ·simp
      ·simp[ih];rfl
   ·cases h
def eqT (P:Program)(T:TypeId)(sh:List (Nat×Bool)):Prop:=
 P.underlying T=some (.struct (P.fieldsOf T))∧P.stoodInHeld T=false∧P.eqGuardType P.depth T=false∧eqSh P (P.fieldsOf T).toList=some sh
theorem run_eql_agg {T:TypeId}{sh:List (Nat×Bool)}(h:eqT P T sh){xo yo:Operand}{xs ys:Array Value}(hok:(sh.all fun p=>cellOk p.2 xs[p.1]? ys[p.1]?)=true) :
  (mEq .eql T xo yo (.agg xs) (.agg ys)).run P w=.ok (.value (.bool (sh.all fun p=>cellEq xs[p.1]? ys[p.1]?))) w:=by
 obtain⟨h1,h2,h3,h4⟩:=h;refine mv_run ?_;rw[Sem.run_bind,run_eqGuard_agg w .eql T xo yo xs ys h3];simp only[Result.andThen_ok];rw[run_eql_struct,run_equalIn_struct w 9999 T xs ys h1 h2,run_eqSh 9998 xs ys _ sh h4 hok];rfl
theorem run_neq_agg {T:TypeId}{sh:List (Nat×Bool)}(h:eqT P T sh){xo yo:Operand}{xs ys:Array Value}(hok:(sh.all fun p=>cellOk p.2 xs[p.1]? ys[p.1]?)=true) :
  (mEq .neq T xo yo (.agg xs) (.agg ys)).run P w=.ok (.value (.bool (!(sh.all fun p=>cellEq xs[p.1]? ys[p.1]?)))) w:=by
 obtain⟨h1,h2,h3,h4⟩:=h;refine mv_run ?_;rw[Sem.run_bind,run_eqGuard_agg w .neq T xo yo xs ys h3];simp only[Result.andThen_ok];rw[run_neq_struct,run_equalIn_struct w 9999 T xs ys h1 h2,run_eqSh 9998 xs ys _ sh h4 hok];rfl
end
end Eng
end
section
namespace Eng
open Go.RowKit
section
variable {P:Program}{C:World→Prop}{K:Value→Prop}
theorem gq_tt {E:(Value→Prop)→Prop}:GQ (.bool true) true E K=E K:=propext ⟨fun x=>x.out,fun x=>⟨x⟩⟩
theorem gq_ft {E:(Value→Prop)→Prop}:GQ (.bool false) true E K=K undef:=propext ⟨fun x=>x.out,fun x=>⟨x⟩⟩
theorem gq_ff {E:(Value→Prop)→Prop}:GQ (.bool false) false E K=E K:=propext ⟨fun x=>x.out,fun x=>⟨x⟩⟩
theorem gq_tf {E:(Value→Prop)→Prop}:GQ (.bool true) false E K=K undef:=propext ⟨fun x=>x.out,fun x=>⟨x⟩⟩
theorem gq_un {want:Bool}{E:(Value→Prop)→Prop}:GQ undef want E K=K undef:=propext ⟨fun x=>x.out,fun x=>⟨x⟩⟩
def gq:=And.intro @gq_tt (And.intro @gq_ft (And.intro @gq_ff (And.intro @gq_tf @gq_un)))
theorem q_add {T:TypeId}{k:IntKind}{a b:Int}(h:K (.int k (k.wrap (a+b)))):QDo P C (mBin .add T (.int k a) (.int k b)) K:=q_do _ (fun _=>r_add) h
theorem q_lss {T:TypeId}{k:IntKind}{a b:Int}(h:K (.bool (decide (a < b)))):QDo P C (mBin .lss T (.int k a) (.int k b)) K:=q_do _ (fun _=>mv_run (by simp[binOp,Op.intCmp])) h
theorem q_leq {T:TypeId}{k:IntKind}{a b:Int}(h:K (.bool (decide (a≤b)))):QDo P C (mBin .leq T (.int k a) (.int k b)) K:=q_do _ (fun _=>mv_run (by simp[binOp,Op.intCmp])) h
theorem q_gtr {T:TypeId}{k:IntKind}{a b:Int}(h:K (.bool (decide (b < a)))):QDo P C (mBin .gtr T (.int k a) (.int k b)) K:=q_do _ (fun _=>mv_run (by simp[binOp,Op.intCmp])) h
theorem q_geq {T:TypeId}{k:IntKind}{a b:Int}(h:K (.bool (decide (b≤a)))):QDo P C (mBin .geq T (.int k a) (.int k b)) K:=q_do _ (fun _=>mv_run (by simp[binOp,Op.intCmp])) h
theorem q_eq {T:TypeId}{xo yo:Operand}{k:IntKind}{a b:Int}(h:K (.bool (decide (a=b)))):QDo P C (mEq .eql T xo yo (.int k a) (.int k b)) K:=q_do _ (fun _=>mv_run (by simp[eqGuard,binOp,Op.intCmp,int_beq])) h
theorem q_ne {T:TypeId}{xo yo:Operand}{k:IntKind}{a b:Int}(h:K (.bool (decide (a≠b)))):QDo P C (mEq .neq T xo yo (.int k a) (.int k b)) K:=q_do _ (fun _=>mv_run (by simp[eqGuard,binOp,Op.intCmp,int_bne])) h
theorem q_pick {c:Bool}{a b:Value}(h:K (if c then a else b)):QDo P C (mPick (.bool c) a b) K:=q_do _ (fun _=>by simp[mPick,asBool]) h
theorem q_pt {a b:Value}(h:K a):QDo P C (mPick (.bool true) a b) K:=q_pick h
theorem q_pf {a b:Value}(h:K b):QDo P C (mPick (.bool false) a b) K:=q_pick h
theorem q_slen {T U:TypeId}{cs:Array Bool}{a:List UInt8}(ht:P.underlying T=some .string)(h:K (.int .i64 (a.length:Int))):QDo P C (mB .len #[T] U cs #[.string ⟨a.toArray⟩]) K:=q_do _ (fun _=>run_len ht) h
theorem q_quo {T:TypeId}{k:IntKind}{a b:Int}(hb:b≠0)(h:K (.int k (k.wrap (a.tdiv b)))):QDo P C (mBin .quo T (.int k a) (.int k b)) K:=q_do _ (fun _=>r_quo hb) h
theorem q_rem {T:TypeId}{k:IntKind}{a b:Int}(hb:b≠0)(h:K (.int k (a.tmod b))):QDo P C (mBin .rem T (.int k a) (.int k b)) K:=q_do _ (fun _=>r_rem hb) h
theorem q_ix {T:TypeId}{k:IntKind}{i:Int}{a:List UInt8}{c:UInt8}(ht:P.underlying T=some .string)(h0:0≤i)(hc:a[i.toNat]?=some c)(h:K (.int .u8 (c.toNat:Int))):QDo P C (mIx T (.string ⟨a.toArray⟩) (.int k i)) K:=q_do _ (fun _=>run_s_ix ht h0 hc) h
theorem q_sne {T:TypeId}{xo yo:Operand}{a b:List UInt8}(h:K (.bool (decide (a≠b)))):QDo P C (mEq .neq T xo yo (.string ⟨a.toArray⟩) (.string ⟨b.toArray⟩)) K:=by
 refine q_do _ (fun _=>mv_run ?_) h;have e:(a==b)=decide (a=b):=by by_cases h:a=b<;>simp[h]
 simp[eqGuard,binOp,Op.stringOp,str_toList,e]
theorem run_c_int {w:World}{S D:TypeId}{k k':IntKind}{n:Int}(hs:(P.underlying S).isSome=true)(hd:P.underlying D=some (.int k')):(mConv S D (.int k n)).run P w=.ok (.value (.int k' (k'.wrap n))) w:=by
 cases h:P.underlying S with
|none=>rw[h] at hs;cases hs
|some d=>exact mv_run (by simp[convert,run_underlying h,run_underlying hd,Conv.intToInt])
end
end Eng
end
section
namespace Eng
open Go.RowKit
theorem OwnS.perm {S:Nat→Prop}{w0 w:World}{L L':List Ent}(h:OwnS S w0 w L)(hp:L.Perm L'):OwnS S w0 w L':=
 ⟨h.grew,fun e he=>h.all e (hp.mem_iff.2 he),(hp.pairwise_iff (fun {x y} hxy k hy hx=>hxy k hx hy)).1 h.apart⟩
theorem OwnS.front {S:Nat→Prop}{w0 w:World}{A B C:List Ent}(h:OwnS S w0 w (A++(B++C))):OwnS S w0 w (B++(A++C)):=
 h.perm (by rw[←List.append_assoc,←List.append_assoc];exact List.Perm.append_right C List.perm_append_comm)
end Eng
end
section
namespace Eng
open Go.RowKit
def Ent.urow (T:TypeId)(sz:Nat)(v:Value)(n:Nat)(xs:List Value):Ent:=
 ⟨fun k=>v.ownBlock=some k,fun w=>w.ownsRow 0 T sz v n xs,fun {w w'} h k=>by
  refine⟨h.1,?_⟩;rcases h.2 with hn|⟨g,cap,cur,rfl,hb,hgg,rest⟩
  ·exact .inl hn
  ·exact .inr ⟨g,cap,cur,rfl,hb,(k g rfl).trans hgg,rest⟩,fun h k hk=>(World.ownsRowF.lt (World.ownsRowF_of h) k hk).2⟩
section
variable {S:Nat→Prop}{P:Program}{w:World}{PK:PKT}{K:VWP}
theorem urow_row {T:TypeId}{sz:Nat}{v:Value}{n:Nat}{xs:List Value}(h:(Ent.urow T sz v n xs).is w):(Ent.row T sz v n xs).is w:=World.ownsRowF_of h
theorem Sl.urow {T:TypeId}{sz:Nat}{v:Value}{n:Nat}{xs:List Value}(h:(Ent.urow T sz v n xs).is w):Sl w v sz n xs:=Sl.row (urow_row h)
theorem OwnS.slU {w0:World}{L:List Ent}(ho:OwnS S w0 w L)(i:Nat){T:TypeId}{sz:Nat}{v:Value}{n:Nat}{xs:List Value}(hi:L[i]?=some (.urow T sz v n xs)):Sl w v sz n xs:=Sl.urow (ho.at_ i hi)
theorem OwnS.nilU {w0:World}{L:List Ent}(ho:OwnS S w0 w L)(E:TypeId)(sz:Nat):OwnS S w0 w (.urow E sz (.slice none 0 0) 0 []::L):=by
 refine⟨ho.grew,fun e he=>?_,.cons (fun f hf k hk=>by simp[Ent.urow,Value.ownBlock] at hk) ho.apart⟩;rcases List.mem_cons.1 he with rfl|he
 ·exact⟨⟨by simp,.inl ⟨rfl,rfl⟩⟩,fun k hk=>by simp[Ent.urow,Value.ownBlock] at hk⟩
 ·exact ho.all e he
theorem OwnS.toU {w0:World}{L:List Ent}{b:Nat}{cs:List Value}{E:TypeId}(ho:OwnS S w0 w (.cells b cs E::L))(sz n cap:Nat)(hl:cs.length=cap*sz)(hn:n≤cap)(hc:cap≤9223372036854775807) :
  OwnS S w0 w (.urow E sz (.slice (some ⟨b,0,none⟩) n cap) n (cs.take (n*sz))::L):=by
 refine⟨ho.grew,fun e he=>?_,?_⟩
 ·rcases List.mem_cons.1 he with rfl|he
  ·refine⟨⟨by rw[List.length_take,hl,Nat.min_eq_left (Nat.mul_le_mul_right _ hn)],.inr ⟨b,cap,cs.toArray,rfl,Nat.zero_le _,ho.at_ 0 rfl,hn,by simp only[maxLen];omega,by simpa using hl,by simp⟩⟩,fun k hk=>?_⟩;simp only[Ent.urow,Value.ownBlock,Option.some.injEq] at hk;exact (ho.all (.cells b cs E) (by simp)).2 k hk.symm
  ·exact ho.all e (by simp[he])
 ·refine .cons (fun f hf k hk=>?_) (List.pairwise_cons.1 ho.apart).2;simp only[Ent.urow,Value.ownBlock,Option.some.injEq] at hk;exact (List.pairwise_cons.1 ho.apart).1 f hf k hk.symm
theorem run_append_anyU {T E U:TypeId}{cs:Array Bool}{v v2:Value}{sz bytes n m:Nat}{xs news:List Value}(ht:P.underlying T=some (.slice E))(he:elB P E sz bytes=true)(hsz:0 < sz)
  (hown:w.ownsRow 0 E sz v n xs) (hs:Sl w v2 sz m news) (h1:∀u∈news,u.oneCell'=true) (hb:(n+m)*bytes≤140737488355328) (hb2:n+m≤140737488355328) :
  ∃v' w',(mB .append #[T,T] U cs #[v,v2]).run P w=.ok (.value v') w'∧Turn (.urow E sz v n xs) (.urow E sz v' (n+m) (xs++news)) w w':=by
 obtain⟨v',w',r,t⟩:=run_append_any (P:=P) (U:=U) (cs:=cs) ht he hsz (World.ownsRowF_of hown) hs h1 hb hb2;refine⟨v',w',r,t.grew,?_,t.new⟩;obtain⟨i,z,hi,hz,hi1,hi2,hz1⟩:=elB_spec he;obtain⟨hl,a,cap,rfl,hn,hc⟩:=hs;have hmx:n+m≤maxLen:=by simp only[maxLen];omega
 cases a with
|some p=>
  have hh:∀j u,news[j]?=some u→w.cell? (p.add j)=some u:=by
   intro j u hj;have hlt:j < news.length:=(List.getElem?_eq_some_iff.1 hj).1;have hm:0 < m:=by
    rcases Nat.eq_zero_or_pos m with h0|h0
    ·subst h0;simp at hl;rw[hl] at hlt;simp at hlt
    ·exact h0
   obtain⟨hsp,hcell⟩:=hc p rfl;have:=hsp hm;obtain⟨b,off,spot⟩:=p;simp only at this hcell;subst this;rw[add_none];exact hcell j u hj
  obtain⟨v2,w2,r1,r2,r3,r4⟩:=run_append_own (P:=P) w 0 T U E i z sz bytes ht hi hz hi1 hi2 hz1 hsz v n xs hown p m cap news hl hh h1 hmx hb (Nat.zero_le _);have:(mB .append #[T,T] U cs #[v,.slice (some p) m cap]).run P w=.ok (.value v2) w2:=by simp[mB,builtin,r1]
  rw[this] at r;cases r;exact r2
|none=>
  have h0:=hn rfl;subst h0;have hnil:news=[]:=List.eq_nil_of_length_eq_zero (by simpa using hl);subst hnil;have:(mB .append #[T,T] U cs #[v,.slice none 0 cap]).run P w=.ok (.value v) w:=by
   rcases hown.2 with ⟨rfl,rfl⟩|⟨g,cp,cur,rfl,_,_,hnc,_⟩
   ·simp[mB,builtin,Builtin.append_,run_underlying ht,sizeOf,typeInfo,hi,Builtin.lenOf,Builtin.firstCells]
   ·simp[mB,builtin,Builtin.append_,run_underlying ht,sizeOf,typeInfo,hi,Builtin.lenOf,Builtin.firstCells,hnc,storeCells]
  rw[this] at r;cases r;rw[List.append_nil];exact hown
theorem o_appendU {w0:World}{L:List Ent}(i:Nat){T E U:TypeId}{cs:Array Bool}{v v2:Value}{sz bytes n m:Nat}{xs news:List Value}(ht:P.underlying T=some (.slice E))(he:elB P E sz bytes=true)(hsz:0 < sz)
  (ho:OwnS S w0 w L) (hi:L[i]?=some (.urow E sz v n xs)) (hs:Sl w v2 sz m news) (h1:∀u∈news,u.oneCell'=true) (hb:(n+m)*bytes≤140737488355328) (hb2:n+m≤140737488355328)
  (k:∀v' w',OwnS S w0 w' (L.set i (.urow E sz v' (n+m) (xs++news)))→K v' w'):DoX P (mB .append #[T,T] U cs #[v,v2]) w PK K:=by
 obtain⟨v',w',r,t⟩:=run_append_anyU (cs:=cs) (U:=U) ht he hsz (ho.at_ i hi) hs h1 hb hb2;exact do_ok r (k _ _ (ho.turn i hi t))
theorem urow_open {E:TypeId}{sz n:Nat}{v:Value}{xs:List Value}(h:(Ent.urow E sz v n xs).is w)(hn:0 < n):∃g cap,v=.slice (some ⟨g,0,none⟩) n cap:=by
 rcases (show w.ownsRow 0 E sz v n xs from h).2 with ⟨_,h0⟩|⟨g,cap,cur,rfl,_⟩
 ·omega
 ·exact⟨g,cap,rfl⟩
theorem run_store_in {T:TypeId}{g off:Nat}{cur:Array Value}{E:TypeId}{u:Value}{new:List Value}(hc:u.cells=new.toArray)(hs:(P.info? T).map (·.size)=some new.length)(h1:∀x∈new,x.oneCell'=true)
  (hg:w.heap[g]?=some (.cells cur E (0,0))) (hl:off+new.length≤cur.size) :
  (Instr.storeAt T (.pointer (some ⟨g,off,none⟩)) u).run P w=.ok () (w.setRow g (cur.toList.take off++new++cur.toList.drop (off+new.length)).toArray):=by
 have hst:=run_storeCells_at P g off E new 0 cur w hg (by simpa using hl) h1;obtain⟨i,hi,h2⟩:=Option.map_eq_some_iff.1 hs;simp only[Nat.add_zero] at hst;simp[Instr.storeAt,Instr.sureAddr,storeVar,hc,sizeOf,typeInfo,hi,h2,hst]
theorem o_storeU {w0:World}{L:List Ent}(i:Nat){T E:TypeId}{g off n cap sz:Nat}{xs new:List Value}{u:Value}(ho:OwnS S w0 w L)(hi:L[i]?=some (.urow E sz (.slice (some ⟨g,0,none⟩) n cap) n xs))
  (hc:u.cells=new.toArray) (hs:(P.info? T).map (·.size)=some new.length) (h1:∀x∈new,x.oneCell'=true) (hl:off+new.length≤n*sz)
  (k:∀w',OwnS S w0 w' (L.set i (.urow E sz (.slice (some ⟨g,0,none⟩) n cap) n (xs.take off++new++xs.drop (off+new.length))))→K undef w'):DoX P (mStore T (.pointer (some ⟨g,off,none⟩)) u) w PK K:=by
 have hown:w.ownsRow 0 E sz (.slice (some ⟨g,0,none⟩) n cap) n xs:=ho.at_ i hi;rcases hown.2 with ⟨h0,_⟩|⟨g',cap',cur,he,hb,hg,hnc,hcm,hcs,htake⟩
 ·cases h0
 cases he;have hle:n*sz≤cur.size:=by rw[hcs];exact Nat.mul_le_mul_right _ hnc
 refine do_skip (mu_run (run_store_in hc hs h1 hg (by omega))) (k _ ?_);refine ho.put i hi (w':=w.setRow g _) ⟨rfl,rfl,rfl,by simp[World.setRow],fun k _ hk=>setRow_other w g k _ (fun e=>hk (by simp[Ent.urow,Value.ownBlock,e]))⟩ _ ?_ (fun k hk=>.inl hk);have hxl:=hown.1;have hcl:cur.toList.length=cap*sz:=by simpa using hcs
 refine⟨by simp only[List.length_append,List.length_take,List.length_drop];omega,.inr ⟨g,cap,_,rfl,hb,setRow_heap w g cur _ E (0,0) hg,hnc,hcm,?_,?_⟩⟩
 ·simp only[List.size_toArray,List.length_append,List.length_take,List.length_drop];omega
 ·subst htake;rw[List.take_take,Nat.min_eq_left (by omega)];simp only[List.append_assoc];rw[List.take_append,List.take_append,List.take_of_length_le (l:=cur.toList.take off) (by simp;omega),List.take_of_length_le (l:=new) (by simp;omega)]
  congr 2
  rw[List.length_take,Nat.min_eq_left (by omega),List.drop_take]
  congr 1
  omega
end
end Eng
end
end Go.Proofs.YtlipjfcbjemicaaGreatDoor

namespace Go.Proofs.YtlipjfcbjemicaaGreatDoor
section
open Eng Go.RowKit Go.ChangeShapes Go.WideShapes
inductive Ob where
|mk (k n g:Int) (s:List UInt8) (keys:List (List UInt8)) (kids:List Ob)
namespace Ob
def k:Ob→Int|.mk k _ _ _ _ _=>k
def n:Ob→Int|.mk _ n _ _ _ _=>n
def g:Ob→Int|.mk _ _ g _ _ _=>g
def s:Ob→List UInt8|.mk _ _ _ s _ _=>s
def keys:Ob→List (List UInt8)|.mk _ _ _ _ keys _=>keys
def kids:Ob→List Ob|.mk _ _ _ _ _ kids=>kids
 mutual
def wt:Ob→Nat
|.mk _ _ _ s keys kids=>6+s.length+Pl.tot keys+wts kids
def wts:List Ob→Nat
|[]=>0
|o::os=>wt o+wts os
end
end Ob
def SlA (A:Nat→Prop)(w:World)(v:Value)(sz n:Nat)(cs:List Value):Prop:=Sl w v sz n cs∧(∀p l c,v=.slice (some p) l c→0 < n→A p.block)∧∀a l c,v=.slice a l c→l≤c
 mutual
def OV (A:Nat→Prop)(w:World):Value→Ob→Prop
|v,.mk k n g s keys kids=>∃vk vc cs,v=.agg #[.int .i64 k,.int .i64 n,.int .i64 g,.string ⟨s.toArray⟩,vk,vc]∧SlA A w vk 1 keys.length (strsV keys)∧SlA A w vc 6 kids.length cs∧OVs A w cs kids
def OVs (A:Nat→Prop)(w:World):List Value→List Ob→Prop
|cs,[]=>cs=[]
|cs,o::os=>∃(a rest:List Value),cs=a++rest∧a.length=6∧OV A w (.agg a.toArray) o∧OVs A w rest os
end
def Kept (A:Nat→Prop)(w w':World):Prop:=∀b,A b→w'.heap[b]?=w.heap[b]?
theorem cell_kept {A:Nat→Prop}{w w':World}(h:Kept A w w'){p:Addr}{v:Value}(hp:A p.block)(hc:w.cell? p=some v):w'.cell? p=some v:=by
 have:=h p.block hp;unfold World.cell? at hc ⊢;rw[this];exact hc
theorem SlA.kept {A:Nat→Prop}{w w':World}{v:Value}{sz n:Nat}{cs:List Value}(h:SlA A w v sz n cs)(hk:Kept A w w'):SlA A w' v sz n cs:=by
 obtain⟨⟨hl,a,cap,rfl,h1,h2⟩,hA,hC⟩:=h;refine⟨⟨hl,a,cap,rfl,h1,fun p hp=>?_⟩,hA,hC⟩;obtain⟨h3,h4⟩:=h2 p hp;refine⟨h3,fun j u hj=>?_⟩;have hn:0 < n:=by
  rcases Nat.eq_zero_or_pos n with h|h
  ·subst h;rw[Nat.zero_mul] at hl;have:=(List.getElem?_eq_some_iff.1 hj).1;omega
  ·exact h
 exact cell_kept hk (hA p n cap (by rw[hp]) hn) (h4 j u hj)
 mutual
theorem OV.kept {A:Nat→Prop}{w w':World}(hk:Kept A w w'):∀(o:Ob) (v:Value),OV A w v o→OV A w' v o
|.mk k n g s keys kids,v,h=>by
  rw[OV] at h ⊢;obtain⟨vk,vc,cs,hv,h1,h2,h3⟩:=h;exact⟨vk,vc,cs,hv,h1.kept hk,h2.kept hk,OVs.kept hk kids cs h3⟩
theorem OVs.kept {A:Nat→Prop}{w w':World}(hk:Kept A w w'):∀(os:List Ob) (cs:List Value),OVs A w cs os→OVs A w' cs os
|[],cs,h=>by rw[OVs] at h ⊢;exact h
|o::os,cs,h=>by
  rw[OVs] at h ⊢;obtain⟨a,rest,he,hl,h1,h2⟩:=h;exact⟨a,rest,he,hl,OV.kept hk o _ h1,OVs.kept hk os rest h2⟩
end
 mutual
theorem OV.mono {A B:Nat→Prop}{w:World}(hAB:∀b,A b→B b):∀(o:Ob) (v:Value),OV A w v o→OV B w v o
|.mk k n g s keys kids,v,h=>by
  rw[OV] at h ⊢;obtain⟨vk,vc,cs,hv,h1,h2,h3⟩:=h;exact⟨vk,vc,cs,hv,⟨h1.1,fun p l c e hn=>hAB _ (h1.2.1 p l c e hn),h1.2.2⟩,⟨h2.1,fun p l c e hn=>hAB _ (h2.2.1 p l c e hn),h2.2.2⟩,OVs.mono hAB kids cs h3⟩
theorem OVs.mono {A B:Nat→Prop}{w:World}(hAB:∀b,A b→B b):∀(os:List Ob) (cs:List Value),OVs A w cs os→OVs B w cs os
|[],cs,h=>by rw[OVs] at h ⊢;exact h
|o::os,cs,h=>by
  rw[OVs] at h ⊢;obtain⟨a,rest,he,hl,h1,h2⟩:=h;exact⟨a,rest,he,hl,OV.mono hAB o _ h1,OVs.mono hAB os rest h2⟩
end
theorem OVs.len {A:Nat→Prop}{w:World}:∀(os:List Ob) (cs:List Value),OVs A w cs os→cs.length=os.length*6
|[],cs,h=>by rw[OVs] at h;subst h;rfl
|o::os,cs,h=>by
  rw[OVs] at h;obtain⟨a,rest,rfl,hl,_,h2⟩:=h;rw[List.length_append,hl,OVs.len os rest h2,List.length_cons];omega
theorem OVs.get {A:Nat→Prop}{w:World}:∀(os:List Ob) (cs:List Value) (i:Nat) (hi:i < os.length),OVs A w cs os→∃a:List Value,a.length=6∧OV A w (.agg a.toArray) os[i]∧∀j v,a[j]?=some v→cs[i*6+j]?=some v
|[],cs,i,hi,h=>by simp at hi
|o::os,cs,0,hi,h=>by
  rw[OVs] at h;obtain⟨a,rest,rfl,hl,h1,h2⟩:=h;refine⟨a,hl,h1,fun j v hj=>?_⟩;rw[Nat.zero_mul,Nat.zero_add,List.getElem?_append_left (List.getElem?_eq_some_iff.1 hj).1];exact hj
|o::os,cs,i+1,hi,h=>by
  rw[OVs] at h;obtain⟨a,rest,rfl,hl,h1,h2⟩:=h;obtain⟨b,hb,hv,hc⟩:=OVs.get os rest i (by simpa using hi) h2;refine⟨b,hb,hv,fun j v hj=>?_⟩;rw[List.getElem?_append_right (by omega),hl,show (i+1)*6+j - 6=i*6+j by omega];exact hc j v hj
theorem OVs.nil {A:Nat→Prop}{w:World}:OVs A w [] []:=by rw[OVs]
theorem SlA.of_cells {A:Nat→Prop}{W:World}{a:Addr}{len cap sz:Nat}{cs:List Value}(hsz:0 < sz)(hl:cs.length=len*sz)(hc:∀j u,cs[j]?=some u→W.cell? (a.add j)=some u)(hA:∀b,b < W.heap.size→A b)(hlc:len≤cap):SlA A W (.slice (some a) len cap) sz len cs:=by
 have plain:0 < len→a.spot=none∧a.block < W.heap.size:=by
  intro hn;have h0:0 < cs.length:=by rw[hl];exact Nat.mul_pos hn hsz
  have h1:=hc 0 cs[0] (List.getElem?_eq_getElem h0);have e0:a.add 0=a:=by simp[Addr.add]
  rw[e0] at h1;unfold World.cell? at h1;split at h1
  ·rename_i hb
   have hlt:=lt_of_get hb;split at h1
   ·cases h1
   ·rename_i hh;exact⟨by simpa using hh,hlt⟩
  ·cases h1
 refine⟨⟨hl,some a,cap,rfl,(fun h=>by cases h),fun p hp=>?_⟩,fun p l c e hn=>?_,fun a' l c e=>by injection e with _ e2 e3;omega⟩
 ·cases hp;refine⟨fun h=>(plain h).1,fun j u hj=>?_⟩;have hn:0 < len:=by
   rcases Nat.eq_zero_or_pos len with h|h
   ·subst h;rw[Nat.zero_mul] at hl;have:=(List.getElem?_eq_some_iff.1 hj).1;omega
   ·exact h
  have h1:=hc j u hj;obtain⟨b,off,spot⟩:=a;have:=(plain hn).1;simp only at this;subst this;rw[show (⟨b,off,none⟩:Addr).add j=⟨b,off+j,none⟩ from add_none b off j] at h1;exact h1
 ·injection e with e _ _
  cases e;exact hA _ (plain hn).2
theorem SlA.nil (A:Nat→Prop)(w:World)(sz cap:Nat):SlA A w (.slice none 0 cap) sz 0 []:=⟨Sl.nil w sz cap,(fun p l c e _=>by injection e with e _ _;cases e),fun a l c e=>by injection e with _ e2 e3;omega⟩
end
section
open Eng Go.RowKit Go.ChangeShapes Go.WideShapes
theorem bulkAll_append {H:Type}:∀(a b:List (DataW H)),Rows.uptoBulkAll (a++b)=Rows.uptoBulkAll a+Rows.uptoBulkAll b
|[],b=>by simp[Rows.uptoBulkAll]
|x::a,b=>by rw[List.cons_append,Rows.uptoBulkAll,bulkAll_append a b,Rows.uptoBulkAll];omega
theorem bulk_strs {H:Type}:∀ss:List ByteArray,Rows.uptoBulkAll (strs (H:=H) ss)=Pl.tot (ss.map (·.data.toList))
|[]=>by simp[strs,Rows.uptoBulkAll,Pl.tot]
|s::ss=>by
  have:=bulk_strs (H:=H) ss;rw[show strs (H:=H) (s::ss)=.lit (.string s.data.toList)::strs ss from rfl,Rows.uptoBulkAll,this,Rows.uptoBulk];simp[Pl.tot]
theorem OVs.snoc {A:Nat→Prop}{w:World}{a:List Value}{o:Ob}(hl:a.length=6)(ho:OV A w (.agg a.toArray) o):∀(os:List Ob) (cs:List Value),OVs A w cs os→OVs A w (cs++a) (os++[o])
|[],cs,h=>by
  rw[OVs] at h;subst h;rw[List.nil_append,List.nil_append,OVs];exact⟨a,[],by simp,hl,ho,OVs.nil⟩
|p::os,cs,h=>by
  rw[OVs] at h;obtain⟨b,rest,rfl,hb,h1,h2⟩:=h;rw[List.cons_append,OVs];exact⟨b,rest++a,by simp,hb,h1,OVs.snoc hl ho os rest h2⟩
theorem wts_snoc (o:Ob):∀os:List Ob,Ob.wts (os++[o])=Ob.wts os+o.wt
|[]=>by simp[Ob.wts]
|p::os=>by rw[List.cons_append,Ob.wts,wts_snoc o os,Ob.wts];omega
theorem addr_add (a:Addr)(m n:Nat):(a.add m).add n=a.add (m+n):=by
 unfold Addr.add;by_cases hm:m=0
 ·subst hm;simp
 ·by_cases hn:n=0
  ·subst hn;simp[hm]
  ·have:¬(m+n=0):=by omega
   simp[hm,hn,Nat.add_assoc]
theorem list6 {α:Type}:∀{l:List α},l.length=6→∃a b c d e f,l=[a,b,c,d,e,f]
|[a,b,c,d,e,f],_=>⟨a,b,c,d,e,f,rfl⟩
section
variable {H:Type}{enc:TypeId×Value→H}{W:World}{sp:Nat→Bool}{held:Bool}
abbrev InW (W:World):Nat→Prop:=fun b=>b < W.heap.size
theorem open_keys {fuel:Nat}{cs:List Value}{x:DataW H×List MemPlace}(h:DataW.trod enc prog W 0 sp held fuel 22 cs=some x) :
  ∃(v:Value) (zs:List (List UInt8)),cs=[v]∧SlA (InW W) W v 1 zs.length (strsV zs)∧Pl.tot zs+1≤Rows.uptoBulk x.1:=by
 rcases open_strings Tryz.underlying22 Tryz.underlying9 (by kernel_rfl) h with ⟨rfl,rfl⟩|⟨a,len,cap,ss,rfl,_,hl,hm,hz,rfl,hcell,hsz⟩
 ·exact⟨_,[],rfl,SlA.nil _ _ _ _,by simp[Pl.tot,Rows.uptoBulk]⟩
 ·have hlz:len≤ss.length:=by rw[hz];split<;>omega
  refine⟨_,(ss.take len).map (·.data.toList),rfl,?_,?_⟩
  ·have hlen:((ss.take len).map (·.data.toList)).length=len:=by simp;omega
   rw[hlen];refine SlA.of_cells (by omega) (by simp[strsV];omega) (fun j u hj=>?_) (fun b hb=>hb) hl;have hjl:j < len:=by
    have:=(List.getElem?_eq_some_iff.1 hj).1;simp[strsV] at this;omega
   rw[hcell j (by omega),←hj];simp[strsV,strV,List.getElem?_take,hjl,List.getD,List.getElem?_eq_getElem (show j < ss.length by omega)]
  ·simp only[Rows.uptoBulk];rw[bulk_strs];omega
set_option maxRecDepth 100000 in
theorem open_obj:∀(fuel:Nat) (cs:List Value) (x:DataW H×List MemPlace),DataW.trod enc prog W 0 sp held fuel 25 cs=some x →
  ∃o:Ob,OV (InW W) W (.agg cs.toArray) o∧o.wt≤Rows.uptoBulk x.1∧cs.length=6:=by
 intro fuel
 induction fuel using Nat.strongRecOn with
|_ fuel ih=>
  intro cs x h;obtain⟨xs,n,rfl,rfl,hl,hxl,hf⟩:=DataW.trod_struct Tryz.underlying25 h;have c6:Tryz.prog.cellsOf 25=6:=by kernel_rfl
  rw[c6] at hl;have hxl:xs.length=6:=hxl;obtain⟨x0,x1,x2,x3,x4,x5,rfl⟩:=list6 hxl;obtain⟨v0,v1,v2,v3,v4,v5,rfl⟩:=list6 hl;have e0:=hf 0 _ rfl;have e1:=hf 1 _ rfl;have e2:=hf 2 _ rfl;have e3:=hf 3 _ rfl;have e4:=hf 4 _ rfl;have e5:=hf 5 _ rfl;have k0:Tryz.prog.cellsOf 3=1:=by kernel_rfl
  have k1:Tryz.prog.cellsOf 2=1:=by kernel_rfl
  have k3:Tryz.prog.cellsOf 9=1:=by kernel_rfl
  have k4:Tryz.prog.cellsOf 22=1:=by kernel_rfl
  have k5:Tryz.prog.cellsOf 23=1:=by kernel_rfl
  simp only[k0,k1,k3,k4,k5,List.drop_zero,List.drop_succ_cons,List.take_succ_cons,List.take_zero,List.getElem?_cons_zero,List.getElem?_cons_succ] at e0 e1 e2 e3 e4 e5;obtain⟨k,hk,rfl,_⟩:=DataW.trod_int Tryz.underlying3 e0;obtain⟨m,hm,rfl,_⟩:=DataW.trod_int Tryz.underlying2 e1;obtain⟨g,hg,rfl,_⟩:=DataW.trod_int Tryz.underlying3 e2;obtain⟨s,hs,rfl,_⟩:=DataW.trod_string Tryz.underlying9 e3;obtain⟨vk,zs,hvk,hsk,hbk⟩:=open_keys e4
  injection hk with hk _
  injection hm with hm _
  injection hg with hg _
  injection hs with hs _
  injection hvk with hvk _
  subst hk;subst hm;subst hg;subst hs;subst hvk;have kids:∃(cs:List Value) (os:List Ob),SlA (InW W) W v5 6 os.length cs∧OVs (InW W) W cs os∧Ob.wts os+1≤Rows.uptoBulk x5.1:=by
   rcases DataW.trod_slice Tryz.underlying23 e5 with ⟨hc,rfl⟩|⟨a,len,cap,elems,rest,n',rfl,hc,rfl,_,hlc,hcm,hel,hat,_,_⟩
   ·injection hc with hc _
    subst hc;exact⟨[],[],SlA.nil _ _ _ _,OVs.nil,by simp[Ob.wts,Rows.uptoBulk]⟩
   ·injection hc with hc _
    subst hc;rw[c6] at hat;have step:∀k,k≤len→∃(cs:List Value) (os:List Ob),os.length=k∧OVs (InW W) W cs os∧(∀j u,cs[j]?=some u→W.cell? (a.add j)=some u)∧Ob.wts os≤Rows.uptoBulkAll ((elems.take k).map (·.1)):=by
     intro k
     induction k with
    |zero=>intro _;exact⟨[],[],rfl,OVs.nil,(fun j u hj=>by simp at hj),by simp[Ob.wts,Rows.uptoBulkAll]⟩
    |succ k ihk=>
      intro hk;obtain⟨cs,os,h1,h2,h3,h4⟩:=ihk (by omega);have hki:k < elems.length:=by omega
      have hb:=hat k (by omega);rw[List.getElem?_eq_getElem hki,Option.bind_eq_some_iff] at hb;obtain⟨ck,hck,htr⟩:=hb;obtain⟨o,ho,hw,hlo⟩:=ih n' (by omega) ck _ htr;have hcsl:=OVs.len os cs h2;refine⟨cs++ck,os++[o],by simp[h1],OVs.snoc hlo ho os cs h2,fun j u hj=>?_,?_⟩
      ·rcases Nat.lt_or_ge j cs.length with hj1|hj1
       ·rw[List.getElem?_append_left hj1] at hj;exact h3 j u hj
       ·rw[List.getElem?_append_right hj1] at hj;have hj6:j - cs.length < 6:=by
         have:=(List.getElem?_eq_some_iff.1 hj).1;omega
        have:=(World.cells?_some hck).2.2 (j - cs.length) hj6;rw[←hj,←this,addr_add,show k*6+(j - cs.length)=j by omega]
      ·rw[wts_snoc,List.take_succ_eq_append_getElem hki,List.map_append,bulkAll_append];simp only[List.map_cons,List.map_nil,Rows.uptoBulkAll];omega
    obtain⟨cs,os,h1,h2,h3,h4⟩:=step len (Nat.le_refl _);have hcsl:=OVs.len os cs h2;refine⟨cs,os,?_,h2,?_⟩
    ·rw[h1];exact SlA.of_cells (by omega) (by rw[hcsl,h1]) h3 (fun b hb=>hb) hlc
    ·rw[←hel,List.take_length] at h4;simp only[Rows.uptoBulk];omega
  obtain⟨cs,os,hsl,hov,hbo⟩:=kids;refine⟨.mk k m g s.data.toList zs os,?_,?_,rfl⟩
  ·rw[OV];exact⟨_,_,cs,rfl,hsk,hsl,hov⟩
  ·simp only[Ob.wt,Rows.uptoBulk,List.map_cons,List.map_nil,Rows.uptoBulkAll];omega
end
end
section
namespace Eng
open Go.RowKit
structure Mem where
 A:Nat→Prop
 w:World
 lt:∀b,A b→b < w.heap.size
def Mem.has (M:Mem)(w:World):Prop:=∀b,M.A b→w.heap[b]?=M.w.heap[b]?
structure Mem.le (M N:Mem):Prop where
 A:∀b,M.A b→N.A b
 has:M.has N.w
def Mem.all (w:World):Mem:=⟨fun b=>b < w.heap.size,w,fun _ h=>h⟩
theorem Mem.all_has (w:World):(Mem.all w).has w:=fun _ _=>rfl
theorem Mem.le_refl (M:Mem):M.le M:=⟨fun _ h=>h,fun _ _=>rfl⟩
theorem Mem.le_trans {M N O:Mem}(h:M.le N)(k:N.le O):M.le O:=⟨fun b hb=>k.A b (h.A b hb),fun b hb=>(k.has b (h.A b hb)).trans (h.has b hb)⟩
theorem Mem.bd {M:Mem}{w:World}(h:M.has w){b:Nat}(hb:M.A b):b < w.heap.size:=by
 have h1:=h b hb;rw[Array.getElem?_eq_getElem (M.lt b hb)] at h1;exact lt_of_get h1
def Ent.mem (M:Mem):Ent:=⟨M.A,M.has,fun h k b hb=>(k b hb).trans (h b hb),fun h k hk=>Mem.bd h hk⟩
structure Gives (M:Mem) (w w':World) (N:Mem):Prop where
 le:M.le N
 has:N.has w'
 new:∀b,N.A b→M.A b∨w.heap.size≤b
 below:Below w.heap.size w w'
def RetM (P:Program)(f:Nat)(args:Array Value)(M:Mem)(w:World)(R:Value→Mem→Prop):Prop:=Ret P f args w (fun v w'=>∃N,Gives M w w' N∧R v N)
theorem RetM.mono {P:Program}{f:Nat}{args:Array Value}{M:Mem}{w:World}{R R':Value→Mem→Prop}(h:RetM P f args M w R)(k:∀v N,M.le N→R v N→R' v N):RetM P f args M w R':=
 Ret.mono h fun v w' ⟨N,g,r⟩=>⟨N,g,k v N g.le r⟩
section
variable {S:Nat→Prop}{P:Program}{w w0:World}{L:List Ent}{PK:PKT}{K:VWP}
theorem OwnS.memS {M:Mem}(h:M.has w):OwnS M.A w w [.mem M]:=OwnS.lend (e:=.mem M) h
theorem OwnS.hasM {M:Mem}(ho:OwnS S w0 w L)(i:Nat)(hi:L[i]?=some (.mem M)):M.has w:=ho.at_ i hi
theorem OwnS.gives {M N:Mem}{w':World}(ho:OwnS S w0 w L)(i:Nat)(hi:L[i]?=some (.mem M))(g:Gives M w w' N):OwnS S w0 w' (L.set i (.mem N)):=
 ho.turn i hi ⟨grew_below g.below,g.has,g.new⟩
theorem OwnS.toGives {M0 N:Mem}{w':World}(ho:OwnS M0.A w w' L)(i:Nat)(hi:L[i]?=some (.mem N))(hle:M0.le N)(h0:M0.has w):Gives M0 w w' N:=by
 have hm:=ho.all (.mem N) (List.mem_of_getElem? hi);refine⟨hle,hm.1,fun b hb=>hm.2 b hb,ho.grew.os,ho.grew.tape,ho.grew.output,ho.grew.size,fun k hk=>?_⟩;by_cases hA:M0.A k
 ·rw[h0 k hA];have h1:w'.heap[k]?=N.w.heap[k]?:=hm.1 k (hle.A k hA);rw[h1];exact hle.has k hA
 ·exact ho.grew.block k hk hA
theorem retM_of {f:Nat}{args:Array Value}{M:Mem}{R:Value→Mem→Prop}(hM:M.has w)
  (h:∀K:Ending→World→Prop,(∀(v:Value) (w':World) (N:Mem) (L:List Ent) (i:Nat),OwnS M.A w w' L→L[i]?=some (.mem N)→M.le N→R v N→K (.returned v) w')→Calls P f args w K):RetM P f args M w R:=
 ret_of fun K hK=>h K fun v w' N L i ho hi hle hr=>hK v w' ⟨N,ho.toGives i hi hle hM,hr⟩
theorem c_mem {f:Nat}{args:Array Value}{M:Mem}{R:Value→Mem→Prop}(ho:OwnS S w0 w L)(i:Nat)(hi:L[i]?=some (.mem M))(h:RetM P f args M w R)
  (k:∀v N w',M.le N→R v N→OwnS S w0 w' (L.set i (.mem N))→K v w'):CallX P f args w PK K:=
 c_ret h fun v w' ⟨N,g,r⟩=>k v N w' g.le r (ho.gives i hi g)
theorem OwnS.freeze {M:Mem}{e:Ent}(ho:OwnS S w0 w (e::L))(i:Nat)(hi:L[i]?=some (.mem M)) :
  ∃N:Mem,M.le N∧N.w=w∧(∀b,e.blk b→N.A b)∧OwnS S w0 w (L.set i (.mem N)):=by
 have he:=ho.all e (by simp);have hM:M.has w:=ho.at_ (i+1) (by simpa using hi);have hlt:∀b,M.A b∨e.blk b→b < w.heap.size:=fun b hb=>hb.elim (fun h=>Mem.bd hM h) (fun h=>e.lt he.1 b h)
 let N:Mem:=⟨fun b=>M.A b∨e.blk b,w,hlt⟩
 have hil:i < L.length:=(List.getElem?_eq_some_iff.1 hi).1;have hie:L[i]=.mem M:=(List.getElem?_eq_some_iff.1 hi).2;obtain⟨a1,a2⟩:=List.pairwise_cons.1 ho.apart;have hp:=List.pairwise_iff_getElem.1 a2;have bM:∀k,M.A k→(L[i]).blk k:=fun k hk=>by rw[hie];exact hk
 refine⟨N,⟨fun b hb=>.inl hb,hM⟩,rfl,fun b hb=>.inr hb,ho.grew,?_,?_⟩
 ·intro f hf;obtain⟨j,hj,rfl⟩:=List.getElem_of_mem hf;rw[List.length_set] at hj;rw[List.getElem_set];split
  ·refine⟨fun b _=>rfl,fun k hk=>?_⟩;rcases hk with hk|hk
   ·exact (ho.all (.mem M) (by rw[←hie];exact List.mem_cons_of_mem _ (List.getElem_mem hil))).2 k hk
   ·exact he.2 k hk
  ·exact ho.all _ (List.mem_cons_of_mem _ (List.getElem_mem hj))
 ·rw[List.pairwise_iff_getElem];intro a b ha hb hab k hk;rw[List.length_set] at ha hb;rw[List.getElem_set] at hk;rw[List.getElem_set];split at hk
  ·rename_i hia
   subst hia;rw[if_neg (by omega)];rcases hk with hk|hk
   ·exact hp i b ha hb hab k (bM k hk)
   ·exact a1 _ (List.getElem_mem hb) k hk
  ·split
   ·rename_i hib
    subst hib;intro hk';rcases hk' with hk'|hk'
    ·exact hp a i ha hb hab k hk (bM k hk')
    ·exact a1 _ (List.getElem_mem ha) k hk' hk
   ·exact hp a b ha hb hab k hk
end
end Eng
open Eng Go.RowKit
theorem SlA.le {M N:Mem}(h:M.le N){v:Value}{sz n:Nat}{cs:List Value}(hs:SlA M.A M.w v sz n cs):SlA N.A N.w v sz n cs:=by
 have:=hs.kept (w':=N.w) h.has;exact⟨this.1,(fun p l c e hn=>h.A _ (this.2.1 p l c e hn)),this.2.2⟩
theorem SlA.now {M:Mem}{w:World}(h:M.has w){v:Value}{sz n:Nat}{cs:List Value}(hs:SlA M.A M.w v sz n cs):Sl w v sz n cs:=(hs.kept (w':=w) h).1
theorem OV.le {M N:Mem}(h:M.le N){v:Value}{o:Ob}(hv:OV M.A M.w v o):OV N.A N.w v o:=OV.mono h.A o v (OV.kept h.has o v hv)
theorem OVs.le {M N:Mem}(h:M.le N){cs:List Value}{os:List Ob}(hv:OVs M.A M.w cs os):OVs N.A N.w cs os:=OVs.mono h.A os cs (OVs.kept h.has os cs hv)
theorem OV.inw {M:Mem}{w:World}(h:M.has w){v:Value}{o:Ob}(hv:OV M.A M.w v o):OV (InW w) w v o:=OV.mono (fun b hb=>Mem.bd h hb) o v (OV.kept h o v hv)
end
section
namespace Eng
open Go.RowKit
section
variable {S:Nat→Prop}{P:Program}{w w0:World}{L:List Ent}{PK:PKT}{K:VWP}
theorem e_nilS {T E:TypeId}{xo yo:Operand}{a:Option Addr}{n c n' c':Nat}(h:P.underlying T=some (.slice E)):DoX P (mEq .eql T xo yo (.slice a n c) (.slice none n' c')) w PK K=K (.bool a.isNone) w:=by
 refine mv_do ?_;simp[eqGuard,Lib.run_eql_slice_nil w T E a n c n' c' h]
theorem n_nilS {T E:TypeId}{xo yo:Operand}{a:Option Addr}{n c n' c':Nat}(h:P.underlying T=some (.slice E)):DoX P (mEq .neq T xo yo (.slice a n c) (.slice none n' c')) w PK K=K (.bool (!a.isNone)) w:=by
 refine mv_do ?_;have:=Lib.run_equalIn_slice_nil (P:=P) w 9999 T E a n c n' c' h;simp[eqGuard,binOp,Op.equal,Op.maxDepth,this]
def subA (a:Option Addr)(l cap sz:Nat):Option Addr:=if cap=l then a else a.map (·.add (l*sz))
theorem subA_in {b off l cap sz:Nat}(h:l < cap):subA (some ⟨b,off,none⟩) l cap sz=some ⟨b,off+l*sz,none⟩:=by
 unfold subA;rw[if_neg (by omega),Option.map_some,add_none]
theorem subA_0 {a:Addr}{cap sz:Nat}:subA (some ⟨a.block,a.off,none⟩) 0 cap sz=some ⟨a.block,a.off,none⟩:=by
 unfold subA;split
 ·rfl
 ·rw[Option.map_some,add_none,Nat.zero_mul,Nat.add_zero]
theorem run_sl_l {T E:TypeId}{k:IntKind}{a:Option Addr}{n cap sz:Nat}{lo:Int}(h:P.underlying T=some (.slice E))(hsz:(P.info? E).map (·.size)=some sz)(h0:0≤lo)(h1:lo≤n) :
  (mSlice T (.slice a n cap) (some (.int k lo)) none none).run P w=.ok (.value (.slice (subA a lo.toNat cap sz) (n - lo.toNat) (cap - lo.toNat))) w:=by
 obtain⟨i,hi,h2⟩:=Option.map_eq_some_iff.1 hsz;have he:P.elem T=E:=by simp[Program.elem,h]
 have ht:P.underlying T=some (.slice (P.elem T)):=by rw[he];exact h
 refine mv_run ?_;rw[run_sliceAt_slice w T _ _ _ _ ht,run_slice_l w T a n cap ht k lo h0 h1];simp[sizeOf,typeInfo,he,hi,h2,sliced,subA]
theorem run_sl_h {T E:TypeId}{k:IntKind}{a:Option Addr}{n cap sz:Nat}{hi:Int}(h:P.underlying T=some (.slice E))(hsz:(P.info? E).map (·.size)=some sz)(h0:0≤hi)(h1:hi≤cap) :
  (mSlice T (.slice a n cap) none (some (.int k hi)) none).run P w=.ok (.value (.slice (subA a 0 cap sz) hi.toNat cap)) w:=by
 obtain⟨i,hi',h2⟩:=Option.map_eq_some_iff.1 hsz;have he:P.elem T=E:=by simp[Program.elem,h]
 have ht:P.underlying T=some (.slice (P.elem T)):=by rw[he];exact h
 refine mv_run ?_;rw[run_sliceAt_slice w T _ _ _ _ ht,run_slice_h w T a n cap ht k hi h0 h1];simp[sizeOf,typeInfo,he,hi',h2,sliced,subA]
theorem run_sl_lh {T E:TypeId}{k k':IntKind}{a:Option Addr}{n cap sz:Nat}{lo hi:Int}(h:P.underlying T=some (.slice E))(hsz:(P.info? E).map (·.size)=some sz)(h0:0≤lo)(h1:lo≤hi)(h2:hi≤cap) :
  (mSlice T (.slice a n cap) (some (.int k lo)) (some (.int k' hi)) none).run P w=.ok (.value (.slice (subA a lo.toNat cap sz) (hi.toNat - lo.toNat) (cap - lo.toNat))) w:=by
 obtain⟨i,hi',h3⟩:=Option.map_eq_some_iff.1 hsz;have he:P.elem T=E:=by simp[Program.elem,h]
 have ht:P.underlying T=some (.slice (P.elem T)):=by rw[he];exact h
 refine mv_run ?_;rw[run_sliceAt_slice w T _ _ _ _ ht,run_slice_lh w T a n cap ht k k' lo hi h0 h1 h2];simp[sizeOf,typeInfo,he,hi',h3,sliced,subA]
theorem run_sl_lhm {T E:TypeId}{k k' k2:IntKind}{a:Option Addr}{n cap sz:Nat}{lo hi m:Int}(h:P.underlying T=some (.slice E))(hsz:(P.info? E).map (·.size)=some sz)(h0:0≤lo)(h1:lo≤hi)(h2:hi≤m)(h3:m≤cap) :
  (mSlice T (.slice a n cap) (some (.int k lo)) (some (.int k' hi)) (some (.int k2 m))).run P w=.ok (.value (.slice (subA a lo.toNat m.toNat sz) (hi.toNat - lo.toNat) (m.toNat - lo.toNat))) w:=by
 obtain⟨i,hi',h4⟩:=Option.map_eq_some_iff.1 hsz;have he:P.elem T=E:=by simp[Program.elem,h]
 have ht:P.underlying T=some (.slice (P.elem T)):=by rw[he];exact h
 refine mv_run ?_;rw[run_sliceAt_slice w T _ _ _ _ ht,run_slice_lhm w T a n cap ht k k' k2 lo hi m h0 h1 h2 h3];simp[sizeOf,typeInfo,he,hi',h4,sliced,subA]
theorem cap_sl {T U E:TypeId}{cb:Array Bool}{a:Option Addr}{n cap:Nat}(h:P.underlying T=some (.slice E)):DoX P (mB .cap #[T] U cb #[.slice a n cap]) w PK K=K (.int .i64 (cap:Int)) w:=by
 refine do_eq ?_;simp[mB,builtin,Builtin.cap_,run_underlying h,goInt]
theorem o_makeN {T E:TypeId}{sz bytes n:Nat}{kl kc:IntKind}(ht:P.underlying T=some (.slice E))(he:elB P E sz bytes=true)(hb:bytes*n≤281474976710656)(hn:n≤281474976710656)(ho:OwnS S w0 w L)
  (k:∀(g:Nat) (w':World) (zs:List Value),zs.length=n*sz→OwnS S w0 w' (.cells g zs E::L)→K (.slice (some ⟨g,0,none⟩) n n) w'):DoX P (mMake T (.int kl (n:Int)) (.int kc (n:Int))) w PK K:=by
 obtain⟨i,z,hi,hz,hi1,hi2,hz1⟩:=elB_spec he;have hb':(i.bytes:Int)*(n:Int)≤281474976710656:=by rw[hi2,←Int.natCast_mul];omega
 have hr:=run_make (P:=P) w T E i z ht hi hz kl kc n n (by omega) (by omega) hb' (by omega);rw[Int.toNat_natCast] at hr;refine do_ok (mv_run hr) (k _ _ (madeCells z.cells (n*i.size)).toList ?_ ?_)
 ·rw[Array.length_toList,size_madeCells,hi1]
 ·have:=ho.alloc (madeCells z.cells (n*i.size)).toList E
  rwa [Array.toArray_toList] at this
theorem run_copyC {dT sT ty T E:TypeId}{cb:Array Bool}{g o dLen dCap sz:Nat}{a:Addr}{sLen sCap:Nat}{cur src:List Value}(hu:P.underlying dT=some (.slice E))(hsz:(P.info? E).map (·.size)=some sz)
  (hg:w.heap[g]?=some (.cells cur.toArray T (0,0))) (hn:src.length=Nat.min sLen dLen*sz) (hsrc:∀j v,src[j]?=some v→w.cell? (a.add j)=some v) (hfit:o+src.length≤cur.length) (h1:∀v∈src,v.oneCell'=true) :
  (mB .copy #[dT,sT] ty cb #[.slice (some ⟨g,o,none⟩) dLen dCap,.slice (some a) sLen sCap]).run P w=.ok (.value (goInt (Nat.min sLen dLen))) (w.setRow g (cur.take o++src++cur.drop (o+src.length)).toArray):=by
 have hl:=run_loadCells_list (P:=P) w a src hsrc;have hst:=run_storeCells_at P g o T src 0 cur.toArray w hg (by simpa using hfit) h1;obtain⟨i,hi,h2⟩:=Option.map_eq_some_iff.1 hsz;rw[hn] at hl;simp only[Nat.add_zero] at hst;simp[mB,builtin,Builtin.copy_,run_underlying hu,Builtin.lenOf,Builtin.firstCells,sizeOf,typeInfo,hi,h2,hl,hst]
theorem o_copyC (i:Nat){dT sT ty T E:TypeId}{cb:Array Bool}{g o dLen dCap sz:Nat}{a:Addr}{sLen sCap:Nat}{cur src:List Value}(hu:P.underlying dT=some (.slice E))(hsz:(P.info? E).map (·.size)=some sz)
  (ho:OwnS S w0 w L) (hi:L[i]?=some (.cells g cur T)) (hn:src.length=min sLen dLen*sz) (hsrc:∀j v,src[j]?=some v→w.cell? (a.add j)=some v) (hfit:o+src.length≤cur.length) (h1:∀v∈src,v.oneCell'=true)
  (k:∀v' w',OwnS S w0 w' (L.set i (.cells g (cur.take o++src++cur.drop (o+src.length)) T))→K v' w') :
  DoX P (mB .copy #[dT,sT] ty cb #[.slice (some ⟨g,o,none⟩) dLen dCap,.slice (some a) sLen sCap]) w PK K:=
 do_ok (run_copyC hu hsz (ho.at_ i hi) hn hsrc hfit h1) (k _ _ (setRow_own ho i hi _))
theorem o_growZ {T tn U E:TypeId}{cb:Array Bool}{kn kq:IntKind}{g n cap m sz bytes:Nat}{olds:List Value}(ht:P.underlying T=some (.slice E))(htn:P.underlying tn=some (.int kn))(he:elB P E sz bytes=true)(hsz:0 < sz)
  (ho:OwnS S w0 w L) (hol:olds.length=n*sz) (hold:∀j u,olds[j]?=some u→w.cell? ⟨g,0+j,none⟩=some u) (h0:0 < m) (hg:cap < n+m) (hb:(n+m)*bytes≤140737488355328) (hb2:n+m≤140737488355328)
  (k:∀(b c:Nat) (zs:List Value) (w':World),n+m≤c→c≤9223372036854775807→zs.length+n*sz=c*sz→OwnS S w0 w' (.cells b (olds++zs) E::L)→K (.slice (some ⟨b,0,none⟩) (n+m) c) w') :
  DoX P (mB .append #[T,tn] U cb #[.slice (some ⟨g,0,none⟩) n cap,.int kq (m:Int)]) w PK K:=by
 obtain⟨i,z,hi,hz,hi1,hi2,hz1⟩:=elB_spec he;have hold':(Builtin.firstCells i.size n (.slice (some ⟨g,0,none⟩) n cap)).run P w.drew=.ok olds.toArray w.drew:=by
  have hl:=run_loadCells_list (P:=P) w.drew ⟨g,0,none⟩ olds (fun j v hj=>by rw[add_none];exact hold j v hj);simp only[Builtin.firstCells,hi1,←hol];exact hl
 have hge:=grownCap_ge w (n+m) cap E;have hle:=grownCap_le_maxLen w (n+m) cap E (by simp only[maxLen];omega);have hr:=Lib.run_append_grow_zeros (P:=P) w T tn U E i z kq kn ht htn hi hz (some ⟨g,0,none⟩) n cap olds hold' m h0 (by omega) hg (by omega) (by
   rw[hi2];have:m*bytes≤(n+m)*bytes:=Nat.mul_le_mul_right _ (by omega);omega) (by rw[hi2];exact growslice_fits hg hb)
 have hzc:∀x,(Builtin.zeroCells z.cells x).toList.length=x*sz:=by intro x;simp[Builtin.zeroCells,hz1]
 obtain⟨zs,hzs⟩:∃zs,zs=(Builtin.zeroCells z.cells m).toList++(Builtin.zeroCells z.cells (grownCap w (n+m) cap E - (n+m))).toList:=⟨_,rfl⟩;have hlen:zs.length+n*sz=grownCap w (n+m) cap E*sz:=by
  rw[hzs,List.length_append,hzc,hzc,←Nat.add_mul,←Nat.add_mul]
  congr 1
  omega
 have key:=(ho.drew).alloc (olds++zs) E;have e:(olds++zs).toArray=olds.toArray++Builtin.zeroCells z.cells m++Builtin.zeroCells z.cells (grownCap w (n+m) cap E - (n+m)):=by
  rw[hzs];simp
 have hr':(mB .append #[T,tn] U cb #[.slice (some ⟨g,0,none⟩) n cap,.int kq (m:Int)]).run P w=.ok (.value (.slice (some ⟨w.heap.size,0,none⟩) (n+m) (grownCap w (n+m) cap E))) (w.drew.alloc (.cells (olds++zs).toArray E)):=by
  rw[e];simp[mB,builtin,hr]
 exact do_ok hr' (k w.heap.size _ zs _ hge (by simp only[maxLen] at hle;exact hle) hlen key)
theorem o_appRoomC (i:Nat){T E U:TypeId}{cb:Array Bool}{g n cap m c sz bytes:Nat}{a:Addr}{cur news:List Value}(ht:P.underlying T=some (.slice E))(he:elB P E sz bytes=true)
  (ho:OwnS S w0 w L) (hi:L[i]?=some (.cells g cur E)) (hl:news.length=m*sz) (hnews:∀j u,news[j]?=some u→w.cell? (a.add j)=some u) (h1:∀u∈news,u.oneCell'=true) (hroom:n+m≤cap) (hfit:n*sz+news.length≤cur.length)
  (k:∀w',OwnS S w0 w' (L.set i (.cells g (cur.take (n*sz)++news++cur.drop (n*sz+news.length)) E))→K (.slice (some ⟨g,0,none⟩) (n+m) cap) w') :
  DoX P (mB .append #[T,T] U cb #[.slice (some ⟨g,0,none⟩) n cap,.slice (some a) m c]) w PK K:=by
 obtain⟨ii,z,hii,hz,hi1,hi2,hz1⟩:=elB_spec he;have hg:w.heap[g]?=some (.cells cur.toArray E (0,0)):=ho.at_ i hi;have hr:=run_append_roomF (P:=P) w T U E ii ht hii g n cap cur.toArray (0,0) hg (Nat.zero_le _) a m c news (by rw[hi1];exact hl) hnews h1 hroom (by rw[hi1];simpa using hfit);rw[hi1] at hr;have hr':(mB .append #[T,T] U cb #[.slice (some ⟨g,0,none⟩) n cap,.slice (some a) m c]).run P w=.ok (.value (.slice (some ⟨g,0,none⟩) (n+m) cap)) (w.setRow g (cur.take (n*sz)++news++cur.drop (n*sz+news.length)).toArray):=by
  simp[mB,builtin,hr]
 exact do_ok hr' (k _ (setRow_own ho i hi _))
def zB (P:Program)(E:TypeId):Bool:=
 match P.info? E with
|some i=>match i.zero with
 |some z=>z.cells.toList.all (·.oneCell')
 |none=>false
|none=>false
theorem o_clearC (i:Nat){T E U:TypeId}{cb:Array Bool}{g o n c sz bytes:Nat}{cur:List Value}(ht:P.underlying T=some (.slice E))(he:elB P E sz bytes=true)(hz:zB P E=true)(h0:0 < n)
  (ho:OwnS S w0 w L) (hi:L[i]?=some (.cells g cur E)) (hfit:o+n*sz≤cur.length)
  (k:∀v' w' zs,zs.length=n*sz→OwnS S w0 w' (L.set i (.cells g (cur.take o++zs++cur.drop (o+n*sz)) E))→K v' w') :
  DoX P (mB .clear #[T] U cb #[.slice (some ⟨g,o,none⟩) n c]) w PK K:=by
 obtain⟨ii,z,hii,hz',hi1,hi2,hz1⟩:=elB_spec he;have hg:w.heap[g]?=some (.cells cur.toArray E (0,0)):=ho.at_ i hi;have hone:∀x∈z.cells.toList,x.oneCell'=true:=by
  unfold zB at hz;rw[hii] at hz;simp only[hz'] at hz;exact List.all_eq_true.1 hz
 have hzl:(Builtin.zeroCells z.cells n).toList.length=n*sz:=by simp[Builtin.zeroCells,hz1]
 have hzo:∀x∈(Builtin.zeroCells z.cells n).toList,x.oneCell'=true:=by
  intro x hx;simp only[Builtin.zeroCells,Array.toList_map,List.mem_map,Array.toList_range,List.mem_range] at hx;obtain⟨j,hj,rfl⟩:=hx;have hjs:j % z.cells.size < z.cells.size:=Nat.mod_lt _ (by
   rcases Nat.eq_zero_or_pos z.cells.size with h|h
   ·rw[h] at hj;simp at hj
   ·exact h)
  rw[getElem!_pos z.cells (j % z.cells.size) hjs];exact hone _ (by simp)
 have hst:=run_storeCells_at P g o E (Builtin.zeroCells z.cells n).toList 0 cur.toArray w hg (by rw[hzl];simpa using hfit) hzo;simp only[Nat.add_zero] at hst;obtain⟨m,rfl⟩:∃m,n=m+1:=⟨n - 1,by omega⟩;have hr':(mB .clear #[T] U cb #[.slice (some ⟨g,o,none⟩) (m+1) c]).run P w=.ok (.value (.tuple #[])) (w.setRow g (cur.take o++(Builtin.zeroCells z.cells (m+1)).toList++cur.drop (o+(m+1)*sz)).toArray):=by
  simp[mB,builtin,Builtin.clear_,run_underlying ht,zeroValue,typeInfo,hii,hz',hst];rw[←hzl];simp
 exact do_ok hr' (k _ _ _ hzl (setRow_own ho i hi _))
theorem sub_get {cs cs':List Value}{off j:Nat}{v:Value}(h:(cs.drop off).take cs'.length=cs')(hj:cs'[j]?=some v):cs[off+j]?=some v:=by
 rw[←h] at hj;rw[List.getElem?_take] at hj;split at hj
 ·rwa [List.getElem?_drop] at hj
 ·cases hj
theorem OwnS.subAgg (ho:OwnS S w0 w L)(i:Nat){b:Nat}{cs:List Value}{E T:TypeId}(hi:L[i]?=some (.cells b cs E))(off:Nat)(cs':List Value)(hcs:(cs.drop off).take cs'.length=cs')(ht:aggN P T=some cs'.length):AtV P w T ⟨b,off,none⟩ (.agg cs'.toArray):=
 AtV.agg ht rfl fun j v hj=>ho.cell i hi (off+j) (sub_get hcs hj)
theorem o_putAt (i:Nat){T:TypeId}{b off:Nat}{cs new:List Value}{E:TypeId}(ho:OwnS S w0 w L)(hi:L[i]?=some (.cells b cs E))(hs:(P.info? T).map (·.size)=some new.length)(hv:∀v∈new,v.oneCell'=true)(hl:off+new.length≤cs.length)
  (k:∀w',OwnS S w0 w' (L.set i (.cells b (cs.take off++new++cs.drop (off+new.length)) E))→K undef w'):DoX P (mStore T (.pointer (some ⟨b,off,none⟩)) (.agg new.toArray)) w PK K:=by
 have hr:=run_store_in (P:=P) (T:=T) (g:=b) (off:=off) (cur:=cs.toArray) (E:=E) (u:=.agg new.toArray) (new:=new) rfl hs hv (ho.at_ i hi) (by simpa using hl);refine do_skip (mu_run hr) (k _ ?_);have e:(cs.toArray.toList.take off++new++cs.toArray.toList.drop (off+new.length)).toArray=(cs.take off++new++cs.drop (off+new.length)).toArray:=by simp
 rw[e];exact setRow_own ho i hi _
theorem mem_urow {M N:Mem}{T:TypeId}{sz:Nat}{v:Value}{n:Nat}{xs:List Value}(hw:N.w=w)(hb:∀b,(Ent.urow T sz v n xs).blk b→N.A b)(h:(Ent.urow T sz v n xs).is w):SlA N.A N.w v sz n xs:=by
 rw[hw];refine⟨Sl.urow h,fun p l c e hn=>hb _ ?_,fun a l c e=>?_⟩
 ·rcases (show w.ownsRow 0 T sz v n xs from h).2 with ⟨rfl,h0⟩|⟨g,cap,cur,rfl,_⟩
  ·cases e
  ·injection e with e1 _ _
   injection e1 with e1
   rw[←e1];rfl
 ·rcases (show w.ownsRow 0 T sz v n xs from h).2 with ⟨rfl,h0⟩|⟨g,cap,cur,rfl,_,_,hnc,_⟩
  ·injection e with _ e2 e3;omega
  ·injection e with _ e2 e3;omega
theorem OwnS.freezeU {M:Mem}{T:TypeId}{sz:Nat}{v:Value}{n:Nat}{xs:List Value}(ho:OwnS S w0 w (.urow T sz v n xs::L))(i:Nat)(hi:L[i]?=some (.mem M)) :
  ∃N:Mem,M.le N∧SlA N.A N.w v sz n xs∧OwnS S w0 w (L.set i (.mem N)):=by
 have h:=ho.at_ 0 rfl;obtain⟨N,h1,h2,h3,h4⟩:=ho.freeze i hi;exact⟨N,h1,mem_urow (M:=M) h2 h3 h,h4⟩
end
end Eng
end
end Go.Proofs.YtlipjfcbjemicaaGreatDoor


namespace Go.Proofs.YtlipjfcbjemicaaGreatDoor
section
namespace Eng
open Go.RowKit
section
variable {α:Type}{enc:α→List Value}{k:Nat}
theorem flat_drop (hk:∀x,(enc x).length=k):∀(l:List α) (j:Nat),(l.flatMap enc).drop (j*k)=(l.drop j).flatMap enc
|[],j=>by simp
|x::l,0=>by simp
|x::l,j+1=>by
  rw[List.flatMap_cons,List.drop_succ_cons,Nat.succ_mul,Nat.add_comm,List.drop_append,hk,List.drop_eq_nil_of_le (by rw[hk];omega),Nat.add_sub_cancel_left,flat_drop hk l j,List.nil_append]
theorem flat_get (hk:∀x,(enc x).length=k){l:List α}{j:Nat}(hj:j < l.length){i:Nat}{v:Value}(h:(enc l[j])[i]?=some v):(l.flatMap enc)[j*k+i]?=some v:=by
 have h1:((l.flatMap enc).drop (j*k))[i]?=some v:=by
  rw[flat_drop hk,List.drop_eq_getElem_cons hj,List.flatMap_cons,List.getElem?_append_left (List.getElem?_eq_some_iff.1 h).1];exact h
 rwa [List.getElem?_drop] at h1
abbrev Ent.recs (T:TypeId)(enc:α→List Value)(k:Nat)(v:Value)(l:List α):Ent:=.urow T k v l.length (l.flatMap enc)
variable {S:Nat→Prop}{P:Program}{w w0:World}{L:List Ent}{PK PK2:PKT}{K:VWP}
theorem rec_row (hk:∀x,(enc x).length=k){T E:TypeId}(ht:P.underlying T=some (.slice E))(hz:(P.info? E).map (·.size)=some k)(ha:aggN P E=some k)(i:Nat){v:Value}{l:List α}(ho:OwnS S w0 w L)(hi:L[i]?=some (.recs E enc k v l)){j:Nat}(hj:j < l.length) :
  ∃g cap,v=.slice (some ⟨g,0,none⟩) l.length cap∧(∀w,(mIA T v (.int .i64 (j:Int))).run P w=.ok (.value (.pointer (some ⟨g,j*k,none⟩))) w) ∧
   (∀w',(Ent.recs E enc k v l).is w'→(mLoad E (.pointer (some ⟨g,j*k,none⟩))).run P w'=.ok (.value (.agg (enc l[j]).toArray)) w') ∧
   ∀w',(Ent.recs E enc k v l).is w'→∀m u,(enc l[j])[m]?=some u→w'.cell? ⟨g,j*k+m,none⟩=some u:=by
 obtain⟨g,cap,rfl⟩:=urow_open (ho.at_ i hi) (by omega);have hcell:∀w',(Ent.recs E enc k (.slice (some ⟨g,0,none⟩) l.length cap) l).is w'→∀m u,(enc l[j])[m]?=some u→w'.cell? ⟨g,j*k+m,none⟩=some u:=by
  intro w' h m u hm;obtain⟨b,off,cap',e,hc⟩:=sl_open (Sl.urow h) (by omega);cases e;have:=hc _ _ (flat_get hk hj hm)
  rwa [Nat.zero_add] at this
 refine⟨g,cap,rfl,fun w=>?_,fun w' h=>?_,hcell⟩
 ·refine (run_ia ht hz (by omega) (by omega)).trans ?_;rw[Int.toNat_natCast,Nat.zero_add]
 ·exact run_load_at (AtV.agg ha (hk _) fun m u hm=>hcell w' h m u hm)
end
end Eng
end
section
open Eng
def S_slices_Clone_string_string(t0 w)(K:KT):=
 dx (mEq .eql 22 (.tmp 3) (.const (.slice none 0 0)) t0 (.slice none 0 0)) w K fun t4 w=>IfX t4 (K (.returned (.slice none 0 0)) w) (dx (mBuildS 22 0 #[]) w K fun t5 w=>dx (mB .append #[22,22] 22 #[false,false] #[t5,t0]) w K fun t7 w=>K (.returned t7) w)
theorem S_slices_Clone_string_string_ok{t0 w K}(h:S_slices_Clone_string_string t0 w K):Calls prog 199 #[t0] w K:=cw Tryz.func199 rfl rfl (by kernel_rfl) h
def S_slices_Clone_foliant_api_Object_foliant_api_Object(t0 w)(K:KT):=
 dx (mEq .eql 23 (.tmp 3) (.const (.slice none 0 0)) t0 (.slice none 0 0)) w K fun t4 w=>IfX t4 (K (.returned (.slice none 0 0)) w) (dx (mBuildS 23 0 #[]) w K fun t5 w=>dx (mB .append #[23,23] 23 #[false,false] #[t5,t0]) w K fun t7 w=>K (.returned t7) w)
theorem S_slices_Clone_foliant_api_Object_foliant_api_Object_ok{t0 w K}(h:S_slices_Clone_foliant_api_Object_foliant_api_Object t0 w K):Calls prog 200 #[t0] w K:=cw Tryz.func200 rfl rfl (by kernel_rfl) h
def S_slices_Insert_string_string(t0 t1 t2 w)(K:KT):=
 dx (mSlice 22 t0 (some t1) none none) w K fun t12 w=>dx (mB .len #[22] 3 #[false] #[t2]) w K fun t14 w=>dx (mEq .eql 3 (.tmp 15) (.const (iN 0)) t14 (iN 0)) w K fun t16 w=>IfX t16 (K (.returned t0) w) (dx (mB .len #[22] 3 #[false] #[t0]) w K fun t19 w=>dx (mEq .eql 3 (.tmp 20) (.tmp 21) t1 t19) w K fun t22 w=>IfX t22 (dx (mB .append #[22,22] 22 #[false,false] #[t0,t2]) w K fun t25 w=>K (.returned t25) w) (dx (mBin .add 3 t19 t14) w K fun t28 w=>dx (mB .cap #[22] 3 #[false] #[t0]) w K fun t30 w=>dx (mBin .gtr 3 t28 t30) w K fun t31 w=>IfX t31 (dx (mSlice 22 t0 none (some t1) none) w K fun t34 w=>dx (mBin .add 3 t19 t14) w K fun t37 w=>dx (mBin .sub 3 t37 t1) w K fun t39 w=>dx (mB .append #[22,3] 22 #[false,false] #[t34,t39]) w K fun t40 w=>dx (mSlice 22 t40 (some t1) none none) w K fun t43 w=>dx (mB .copy #[22,22] 3 #[false,false] #[t43,t2]) w K fun t45 w=>QuietX w (fun C1=>QDo prog C1 (mBin .add 3 t1 t14) fun t49=>QDo prog C1 (mSlice 22 t40 (some t49) none none) fun t50=>QDo prog C1 (mSlice 22 t0 (some t1) none none) fun t53=>
 ∀w,C1 w →
 dx (mB .copy #[22,22] 3 #[false,false] #[t50,t53]) w K fun t54 w=>K (.returned t40) w)) (dx (mBin .add 3 t19 t14) w K fun t59 w=>dx (mSlice 22 t0 none (some t59) none) w K fun t60 w=>dx (mBin .add 3 t1 t14) w K fun t65 w=>dx (mSlice 22 t60 (some t65) none none) w K fun t66 w=>dx (mCallV (.func (.func 248) #[] #[]) #[t2,t66]) w K fun t67 w=>dx (mUn .not t67) w K fun t68 w=>IfX t68 (QuietX w (fun C2=>QDo prog C2 (mBin .add 3 t1 t14) fun t72=>QDo prog C2 (mSlice 22 t60 (some t72) none none) fun t73=>QDo prog C2 (mSlice 22 t60 (some t1) none none) fun t76=>
 ∀w,C2 w →
 dx (mB .copy #[22,22] 3 #[false,false] #[t73,t76]) w K fun t77 w=>dx (mSlice 22 t60 (some t1) none none) w K fun t80 w=>dx (mB .copy #[22,22] 3 #[false,false] #[t80,t2]) w K fun t82 w=>K (.returned t60) w)) (dx (mSlice 22 t60 (some t19) none none) w K fun t86 w=>dx (mB .copy #[22,22] 3 #[false,false] #[t86,t2]) w K fun t88 w=>dx (mSlice 22 t60 (some t1) none none) w K fun t91 w=>cx 249 #[t91,t14] w K fun t93 w=>K (.returned t60) w))))
theorem S_slices_Insert_string_string_ok{t0 t1 t2 w K}(h:S_slices_Insert_string_string t0 t1 t2 w K):Calls prog 201 #[t0,t1,t2] w K:=cw Tryz.func201 rfl rfl (by kernel_rfl) h
def S_slices_Insert_foliant_api_Object_foliant_api_Object(t0 t1 t2 w)(K:KT):=
 dx (mSlice 23 t0 (some t1) none none) w K fun t12 w=>dx (mB .len #[23] 3 #[false] #[t2]) w K fun t14 w=>dx (mEq .eql 3 (.tmp 15) (.const (iN 0)) t14 (iN 0)) w K fun t16 w=>IfX t16 (K (.returned t0) w) (dx (mB .len #[23] 3 #[false] #[t0]) w K fun t19 w=>dx (mEq .eql 3 (.tmp 20) (.tmp 21) t1 t19) w K fun t22 w=>IfX t22 (dx (mB .append #[23,23] 23 #[false,false] #[t0,t2]) w K fun t25 w=>K (.returned t25) w) (dx (mBin .add 3 t19 t14) w K fun t28 w=>dx (mB .cap #[23] 3 #[false] #[t0]) w K fun t30 w=>dx (mBin .gtr 3 t28 t30) w K fun t31 w=>IfX t31 (dx (mSlice 23 t0 none (some t1) none) w K fun t34 w=>dx (mBin .add 3 t19 t14) w K fun t37 w=>dx (mBin .sub 3 t37 t1) w K fun t39 w=>dx (mB .append #[23,3] 23 #[false,false] #[t34,t39]) w K fun t40 w=>dx (mSlice 23 t40 (some t1) none none) w K fun t43 w=>dx (mB .copy #[23,23] 3 #[false,false] #[t43,t2]) w K fun t45 w=>QuietX w (fun C1=>QDo prog C1 (mBin .add 3 t1 t14) fun t49=>QDo prog C1 (mSlice 23 t40 (some t49) none none) fun t50=>QDo prog C1 (mSlice 23 t0 (some t1) none none) fun t53=>
 ∀w,C1 w →
 dx (mB .copy #[23,23] 3 #[false,false] #[t50,t53]) w K fun t54 w=>K (.returned t40) w)) (dx (mBin .add 3 t19 t14) w K fun t59 w=>dx (mSlice 23 t0 none (some t59) none) w K fun t60 w=>dx (mBin .add 3 t1 t14) w K fun t65 w=>dx (mSlice 23 t60 (some t65) none none) w K fun t66 w=>dx (mCallV (.func (.func 250) #[] #[]) #[t2,t66]) w K fun t67 w=>dx (mUn .not t67) w K fun t68 w=>IfX t68 (QuietX w (fun C2=>QDo prog C2 (mBin .add 3 t1 t14) fun t72=>QDo prog C2 (mSlice 23 t60 (some t72) none none) fun t73=>QDo prog C2 (mSlice 23 t60 (some t1) none none) fun t76=>
 ∀w,C2 w →
 dx (mB .copy #[23,23] 3 #[false,false] #[t73,t76]) w K fun t77 w=>dx (mSlice 23 t60 (some t1) none none) w K fun t80 w=>dx (mB .copy #[23,23] 3 #[false,false] #[t80,t2]) w K fun t82 w=>K (.returned t60) w)) (dx (mSlice 23 t60 (some t19) none none) w K fun t86 w=>dx (mB .copy #[23,23] 3 #[false,false] #[t86,t2]) w K fun t88 w=>dx (mSlice 23 t60 (some t1) none none) w K fun t91 w=>cx 251 #[t91,t14] w K fun t93 w=>K (.returned t60) w))))
theorem S_slices_Insert_foliant_api_Object_foliant_api_Object_ok{t0 t1 t2 w K}(h:S_slices_Insert_foliant_api_Object_foliant_api_Object t0 t1 t2 w K):Calls prog 202 #[t0,t1,t2] w K:=cw Tryz.func202 rfl rfl (by kernel_rfl) h
def S_slices_Delete_string_string(t0 t1 t2 w)(K:KT):=
 dx (mB .len #[22] 3 #[false] #[t0]) w K fun t12 w=>dx (mSlice 22 t0 (some t1) (some t2) (some t12)) w K fun t13 w=>dx (mEq .eql 3 (.tmp 14) (.tmp 15) t1 t2) w K fun t16 w=>IfX t16 (K (.returned t0) w) (dx (mB .len #[22] 3 #[false] #[t0]) w K fun t19 w=>QuietX w (fun C1=>QDo prog C1 (mSlice 22 t0 none (some t1) none) fun t22=>QDo prog C1 (mSlice 22 t0 (some t2) none none) fun t25=>
 ∀w,C1 w →
 dx (mB .append #[22,22] 22 #[false,false] #[t22,t25]) w K fun t26 w=>dx (mB .len #[22] 3 #[false] #[t26]) w K fun t29 w=>dx (mSlice 22 t26 (some t29) (some t19) none) w K fun t31 w=>dx (mB .clear #[22] 0 #[false] #[t31]) w K fun _ w=>K (.returned t26) w))
theorem S_slices_Delete_string_string_ok{t0 t1 t2 w K}(h:S_slices_Delete_string_string t0 t1 t2 w K):Calls prog 219 #[t0,t1,t2] w K:=cw Tryz.func219 rfl rfl (by kernel_rfl) h
def S_slices_Delete_foliant_api_Object_foliant_api_Object(t0 t1 t2 w)(K:KT):=
 dx (mB .len #[23] 3 #[false] #[t0]) w K fun t12 w=>dx (mSlice 23 t0 (some t1) (some t2) (some t12)) w K fun t13 w=>dx (mEq .eql 3 (.tmp 14) (.tmp 15) t1 t2) w K fun t16 w=>IfX t16 (K (.returned t0) w) (dx (mB .len #[23] 3 #[false] #[t0]) w K fun t19 w=>QuietX w (fun C1=>QDo prog C1 (mSlice 23 t0 none (some t1) none) fun t22=>QDo prog C1 (mSlice 23 t0 (some t2) none none) fun t25=>
 ∀w,C1 w →
 dx (mB .append #[23,23] 23 #[false,false] #[t22,t25]) w K fun t26 w=>dx (mB .len #[23] 3 #[false] #[t26]) w K fun t29 w=>dx (mSlice 23 t26 (some t29) (some t19) none) w K fun t31 w=>dx (mB .clear #[23] 0 #[false] #[t31]) w K fun _ w=>K (.returned t26) w))
theorem S_slices_Delete_foliant_api_Object_foliant_api_Object_ok{t0 t1 t2 w K}(h:S_slices_Delete_foliant_api_Object_foliant_api_Object t0 t1 t2 w K):Calls prog 220 #[t0,t1,t2] w K:=cw Tryz.func220 rfl rfl (by kernel_rfl) h
def S_slices_BinarySearch_string_string_0(t0 t1 t6 t7 t8 w)(N1:JT)(K:KT):=
 dx (mBin .lss 3 t7 t8) w K fun t15 w=>IfX t15 (dx (mBin .add 3 t7 t8) w K fun t18 w=>dx (mConv 3 84 t18) w K fun t19 w=>dx (mBin .shr 84 t19 (.int .u64 1)) w K fun t20 w=>dx (mConv 84 3 t20) w K fun t21 w=>dx (mIA 22 t0 t21) w K fun t24 w=>dx (mLoad 9 t24) w K fun t25 w=>cx 217 #[t25,t1] w K fun t27 w=>IfX t27 (dx (mBin .add 3 t21 (iN 1)) w K fun t29 w=>N1 [t29,t8] w) (N1 [t7,t21] w)) (dx (mBin .lss 3 t7 t6) w K fun t34 w=>etx t34 t0 w fun t36 w=>etx t34 t7 w fun t37 w=>gtx t34 (mIA 22 t36 t37) w K fun t38 w=>gtx t34 (mLoad 9 t38) w K fun t39 w=>etx t34 t1 w fun t40 w=>gtx t34 (mEq .eql 9 (.tmp 39) (.tmp 40) t39 t40) w K fun t41 w=>etx t34 t41 w fun t42 w=>efx t42 t0 w fun t43 w=>efx t42 t7 w fun t44 w=>gfx t42 (mIA 22 t43 t44) w K fun t45 w=>gfx t42 (mLoad 9 t45) w K fun t46 w=>cfx t42 218 #[t46] w K fun t47 w=>efx t42 t47 w fun t48 w=>etx t48 t1 w fun t49 w=>ctx t48 218 #[t49] w K fun t50 w=>gfx t42 (mPick t48 t50 (.bool false)) w K fun t51 w=>gtx t34 (mPick t42 (.bool true) t51) w K fun t52 w=>dx (mPick t34 t52 (.bool false)) w K fun t53 w=>K (.returned (.tuple #[t7,t53])) w)
def S_slices_BinarySearch_string_string(t0 t1 w)(K:KT):=
 dx (mB .len #[22] 3 #[false] #[t0]) w K fun t11 w=>LoopX [(iN 0),t11] w (fun vs1 w N1=>∀_:Sg,S_slices_BinarySearch_string_string_0 t0 t1 t11 (vs1.getD 0 undef) (vs1.getD 1 undef) w N1 K)
theorem S_slices_BinarySearch_string_string_eq (t0 t1:Value)(w:World)(K:Ending→World→Prop):wpX prog 54 [] [(3,[7,8])] none (bodyOf Tryz.f154) (topQ prog [.tmp 4,.tmp 5] K) (startX [t0,t1]) [] w=S_slices_BinarySearch_string_string t0 t1 w K:=by kernel_rfl
theorem S_slices_BinarySearch_string_string_ok {t0 t1:Value}{w:World}{K:Ending→World→Prop}(h:S_slices_BinarySearch_string_string t0 t1 w K):Calls prog 154 #[t0,t1] w K:=
 calls_of_wpX Tryz.func154 rfl rfl rfl rfl (Eq.mpr (S_slices_BinarySearch_string_string_eq t0 t1 w K) h)
def S_cmp_Less_string(t0 t1 w)(K:KT):=
 cx 256 #[t0] w K fun t6 w=>etx t6 t1 w fun t8 w=>ctx t6 256 #[t8] w K fun t9 w=>gtx t6 (mUn .not t9) w K fun t10 w=>dx (mPick t6 t10 (.bool false)) w K fun t11 w=>efx t11 t0 w fun t13 w=>efx t11 t1 w fun t14 w=>gfx t11 (mBin .lss 9 t13 t14) w K fun t15 w=>dx (mPick t11 (.bool true) t15) w K fun t16 w=>K (.returned t16) w
theorem S_cmp_Less_string_ok{t0 t1 w K}(h:S_cmp_Less_string t0 t1 w K):Calls prog 217 #[t0,t1] w K:=cw Tryz.func217 rfl rfl (by kernel_rfl) h
def S_cmp_isNaN_string(t0 w)(K:KT):=
 dx (mEq .neq 9 (.tmp 3) (.tmp 4) t0 t0) w K fun t5 w=>K (.returned t5) w
theorem S_cmp_isNaN_string_ok{t0 w K}(h:S_cmp_isNaN_string t0 w K):Calls prog 256 #[t0] w K:=cw Tryz.func256 rfl rfl (by kernel_rfl) h
def S_slices_isNaN_string(t0 w)(K:KT):=
 dx (mEq .neq 9 (.tmp 3) (.tmp 4) t0 t0) w K fun t5 w=>K (.returned t5) w
theorem S_slices_isNaN_string_ok{t0 w K}(h:S_slices_isNaN_string t0 w K):Calls prog 218 #[t0] w K:=cw Tryz.func218 rfl rfl (by kernel_rfl) h
end
section
open Eng Go.RowKit
theorem sclone_s_ret (v:Value)(n:Nat)(cs:List Value)(w:World)(hs:Sl w v 1 n cs)(h1:∀u∈cs,u.oneCell'=true)(hb:n≤1000000000000) :
  Ret prog 199 #[v] w (fun v' w'=>Own w w' [.urow 9 1 v' n cs]):=by
 have hs':=hs;obtain⟨hl,a,cap,rfl,hn,hc⟩:=hs;refine ret_of fun K hK=>S_slices_Clone_string_string_ok ?_;unfold S_slices_Clone_string_string dx;rw[e_nilS Tryz.underlying22];cases a with
|none=>
  obtain rfl:=hn rfl;obtain rfl:cs=[]:=List.eq_nil_of_length_eq_zero (by omega);simp only[Option.isNone_none,i_t];exact hK _ _ ((Own.start w).nilU 9 1)
|some p=>
  simp only[Option.isNone_some,i_f];refine o_new (fun b=>.slice (some ⟨b,0,none⟩) 0 0) [] 9 (fun _=>by kernel_rfl) (Own.start w) fun b w1 ho=>?_;have ho:=ho.toU 1 0 0 (by simp) (by omega) (by omega);refine o_appendU 0 Tryz.underlying22 (show elB prog 9 1 16=true by kernel_rfl) (by decide) ho rfl (ho.oldSl hs') h1 (by omega) (by omega) fun v' w2 ho=>?_;refine hK _ _ ?_;simpa using ho
theorem sclone_o_ret (v:Value)(n:Nat)(cs:List Value)(w:World)(hs:Sl w v 6 n cs)(h1:∀u∈cs,u.oneCell'=true)(hb:n≤1000000000000) :
  Ret prog 200 #[v] w (fun v' w'=>Own w w' [.urow 25 6 v' n cs]):=by
 have hs':=hs;obtain⟨hl,a,cap,rfl,hn,hc⟩:=hs;refine ret_of fun K hK=>S_slices_Clone_foliant_api_Object_foliant_api_Object_ok ?_;unfold S_slices_Clone_foliant_api_Object_foliant_api_Object dx;rw[e_nilS Tryz.underlying23];cases a with
|none=>
  obtain rfl:=hn rfl;obtain rfl:cs=[]:=List.eq_nil_of_length_eq_zero (by omega);simp only[Option.isNone_none,i_t];exact hK _ _ ((Own.start w).nilU 25 6)
|some p=>
  simp only[Option.isNone_some,i_f];refine o_new (fun b=>.slice (some ⟨b,0,none⟩) 0 0) [] 25 (fun _=>by kernel_rfl) (Own.start w) fun b w1 ho=>?_;have ho:=ho.toU 6 0 0 (by simp) (by omega) (by omega);refine o_appendU 0 Tryz.underlying23 (show elB prog 25 6 88=true by kernel_rfl) (by decide) ho rfl (ho.oldSl hs') h1 (by omega) (by omega) fun v' w2 ho=>?_;refine hK _ _ ?_;simpa using ho
theorem ov_s {w:World}{a b:Addr}{la ca lb cb:Nat}(hne:a.block≠b.block){tA tB:TypeId}{kA kB:Nat}(hsa:w.shape? a.block=some (tA,kA))(hsb:w.shape? b.block=some (tB,kB))(hkB:kB≠0)(hfa:w.frozen? a=false)(hfe:w.frozen? { block:=a.block,off:=kA }=false) :
  (mCallV (.func (.func 248) #[] #[]) #[.slice (some a) la ca,.slice (some b) lb cb]).run prog w=.ok (.value (.bool false)) w:=by
 have hx:(callFunc 248 #[.slice (some a) la ca,.slice (some b) lb cb]).run prog w=.ok (.value (.bool false)) w:=by
  rw[run_callFunc_extern (e:=Extern.SlicesOverlaps.overlaps #[22,22] #[4]) Tryz.func248 (by kernel_rfl) (by kernel_rfl) (by kernel_rfl) (by kernel_rfl)];rw[Lib.run_overlaps_apart w 22 4 9 Tryz.underlying22 1 (fun w=>by kernel_rfl) a b la ca lb cb hne tA tB kA kB hsa hsb hkB hfa hfe];rfl
 simpa[mCallV,invoke,Deferred.ofValue,resolve] using hx
theorem sinsert_s_ret (v:Value)(n:Nat)(xs:List Value)(k nb:Nat)(new:List Value)(w:World)(hu:(Ent.urow 9 1 v n xs).is w)(hnb:w.heap[nb]?=some (.cells new.toArray 9 (0,0)))(hl:new.length=1)
  (hne:¬(Ent.urow 9 1 v n xs).blk nb) (h1:∀u∈xs,u.oneCell'=true) (h2:∀u∈new,u.oneCell'=true) (hk:k≤n) (hb:n≤100000000000) :
  Ret prog 201 #[v,.int .i64 (k:Int),.slice (some ⟨nb,0,none⟩) 1 1] w
   (fun v' w'=>∃e',e'=Ent.urow 9 1 v' (n+1) (xs.take (k*1)++new++xs.drop (k*1))∧Turn (.urow 9 1 v n xs) e' w w'):=by
 have hxl:xs.length=n*1:=(show w.ownsRow 0 9 1 v n xs from hu).1;have hs2:Sl w (.slice (some ⟨nb,0,none⟩) 1 1) 1 1 new:=⟨by omega,some ⟨nb,0,none⟩,1,rfl,fun h=>(by cases h),fun p hp=>by cases hp;exact⟨fun _=>rfl,fun j u hj=>by rw[Nat.zero_add];exact cells_cell (T:=9) hnb hj⟩⟩;have ho:=OwnS.lend hu;refine ret_of fun K hK=>S_slices_Insert_string_string_ok ?_;unfold S_slices_Insert_string_string iN dx cx;have hel:elB prog 9 1 16=true:=by kernel_rfl
 have hsz:(Tryz.prog.info? 9).map (·.size)=some 1:=by kernel_rfl
 obtain⟨a,cap,rfl,hcap⟩:∃a cap,v=.slice a n cap∧n≤cap:=by
  rcases (show w.ownsRow 0 9 1 v n xs from hu).2 with ⟨rfl,rfl⟩|⟨g,cap,cur,rfl,_,_,hnc,_⟩
  ·exact⟨none,0,rfl,Nat.le_refl _⟩
  ·exact⟨_,cap,rfl,hnc⟩
 refine do_eq (run_sl_l Tryz.underlying22 hsz (by omega) (by omega)) |>.mpr ?_;rw[sl_len Tryz.underlying22 hs2];simp only[rs,Int.natCast_one,Int.one_ne_zero,decide_false];rw[sl_len_any Tryz.underlying22];simp only[rs];by_cases hkn:k=n
 ·subst hkn;simp only[decide_true,rs];refine o_appendU 0 Tryz.underlying22 hel (by decide) ho rfl hs2 h2 (by omega) (by omega) fun v' w2 ho=>?_;refine hK _ _ ⟨_,rfl,?_⟩;have e:xs.take (k*1)++new++xs.drop (k*1)=xs++new:=by rw[List.take_of_length_le (by omega),List.drop_eq_nil_of_le (by omega),List.append_nil]
  rw[e];exact OwnS.back (L:=[]) ho
 have hlt:k < n:=by omega
 have hne':¬(k:Int)=(n:Int):=by omega
 simp only[hne',decide_false,rs];rcases (show w.ownsRow 0 9 1 (.slice a n cap) n xs from hu).2 with ⟨_,h0⟩|⟨g,cap',cur,he,hbg,hg,hnc,hcm,hcs,htake⟩
 ·omega
 injection he with he1 _ he2
 subst he1;subst he2;rw[wrap64_id (by omega) (by omega),cap_sl Tryz.underlying22];simp only[rs];have hgn:nb≠g:=fun e=>hne (by rw[e];rfl);have hcl:cur.toList.length=cap*1:=by simpa using hcs
 have hoc:OwnS (Ent.urow 9 1 (.slice (some ⟨g,0,none⟩) n cap) n xs).blk w w [.cells g cur.toList 9]:=
  ho.turn 0 rfl ⟨Grew.refl _ _,by show w.heap[g]?=_;rw[hg],fun j hj=>.inl (by simp only[Ent.cells] at hj;subst hj;rfl)⟩
 have hxc:∀j u,xs[j]?=some u→w.cell? ⟨g,0+j,none⟩=some u:=fun j u hj=>by
  rw[Nat.zero_add];exact hoc.cell 0 rfl j (by rw[←htake] at hj;rw[List.getElem?_take] at hj;split at hj<;>first|exact hj|cases hj)
 have htl:(xs.drop (k*1)).length=(n - k)*1:=by rw[List.length_drop,hxl,←Nat.mul_sub_right_distrib]
 have h1t:∀u∈xs.drop (k*1),u.oneCell'=true:=fun u hu=>h1 u (List.mem_of_mem_drop hu);by_cases hroom:(cap:Int) < (n:Int)+1
 ·simp only[hroom,decide_true,rs];refine do_eq (run_sl_h Tryz.underlying22 hsz (by omega) (by omega)) |>.mpr ?_;rw[show subA (some (⟨g,0,none⟩:Addr)) 0 cap 1=some ⟨g,0,none⟩ from subA_0 (a:=⟨g,0,none⟩),Int.toNat_natCast];rw[wrap64_id (n:=(n:Int)+1 - k) (by omega) (by omega),show (n:Int)+1 - k=((n+1 - k:Nat):Int) by omega];refine o_growZ (olds:=xs.take (k*1)) Tryz.underlying22 Tryz.underlying3 hel (by decide) hoc (by rw[List.length_take,hxl,Nat.min_eq_left (by omega)]) (fun j u hj=>hxc j u (by rw[List.getElem?_take] at hj;split at hj<;>first|exact hj|cases hj)) (by omega) (by omega) (by omega) (by omega) fun b c zs w2 hc1 hc2 hzs ho=>?_;rw[show k+(n+1 - k)=n+1 by omega] at hc1 ⊢;have hol:(xs.take (k*1)).length=k*1:=by rw[List.length_take,hxl,Nat.min_eq_left (by omega)]
  refine do_eq (run_sl_l Tryz.underlying22 hsz (by omega) (by omega)) |>.mpr ?_;rw[Int.toNat_natCast,subA_in (by omega)];have hbg2:b≠g:=by
   have:=(List.pairwise_cons.1 ho.apart).1 (.cells g cur.toList 9) (by simp);intro e;exact this b rfl e
  have old2:∀{W:World} {b':Nat} {x y:List Value},OwnS (Ent.urow 9 1 (.slice (some ⟨g,0,none⟩) n cap) n xs).blk w W [.cells b' x 9,.cells g y 9]→W.heap[nb]?=some (.cells new.toArray 9 (0,0)):=fun h=>(h.grew.block nb (lt_of_get hnb) hne).trans hnb;refine o_copyC 0 (src:=new) Tryz.underlying22 hsz ho rfl ?_ (fun j u hj=>by rw[add_none,Nat.zero_add];exact cells_cell (T:=9) (old2 ho) hj) ?_ h2 fun _ w3 ho=>?_
  ·rw[hl,Nat.min_eq_left (by omega)]
  ·rw[List.length_append,hol,hl];omega
  refine quiet ?_;refine q_add ?_;rw[wrap64_id (by omega) (by omega),show (k:Int)+1=((k+1:Nat):Int) by omega];refine q_do _ (fun W=>run_sl_l Tryz.underlying22 hsz (by omega) (by omega)) ?_;refine q_do _ (fun W=>run_sl_l Tryz.underlying22 hsz (by omega) (by omega)) ?_;rw[Int.toNat_natCast,Int.toNat_natCast,subA_in (by omega),subA_in (by omega)];intro w4 hw;have ho:=ho.grow hw;simp only[Nat.zero_add,List.take_left' hol,List.drop_append,hol] at ho;rw[show k*1+new.length - k*1=1 by omega,List.drop_eq_nil_of_le (show (xs.take (k*1)).length≤k*1+new.length by omega),List.nil_append] at ho;refine o_copyC 0 (src:=xs.drop (k*1)) Tryz.underlying22 hsz ho rfl ?_ (fun j u hj=>?_) ?_ h1t fun _ w5 ho=>?_
  ·rw[htl];congr 1;rw[Nat.min_eq_left (by omega)]
  ·rw[add_none];refine ho.cell 1 rfl (0+k*1+j) ?_;rw[List.getElem?_drop] at hj;rw[Nat.zero_add];rw[←htake] at hj;rw[List.getElem?_take] at hj;split at hj<;>first|exact hj|cases hj
  ·simp only[List.length_append,List.length_drop,hol,hl,hxl];omega
  have hcur:((xs.take (k*1)++new++zs.drop 1).take (0+(k+1)*1)++xs.drop (k*1)++(xs.take (k*1)++new++zs.drop 1).drop (0+(k+1)*1+(xs.drop (k*1)).length))=(xs.take (k*1)++new++xs.drop (k*1))++(zs.drop 1).drop ((n - k)*1):=by
   rw[List.take_left' (show (xs.take (k*1)++new).length=0+(k+1)*1 by rw[List.length_append,hol,hl];omega)];rw[List.drop_append,List.drop_eq_nil_of_le (show (xs.take (k*1)++new).length≤_ by rw[List.length_append,hol,hl,htl];omega),List.nil_append]
   congr 2
   rw[List.length_append,hol,hl,htl];omega
  simp only[List.set_cons_zero] at ho;rw[hcur] at ho;have ho:=ho.toU 1 (n+1) c (by simp only[List.length_append,List.length_drop,hol,hl,hxl];omega) hc1 hc2;rw[List.take_left' (show (xs.take (k*1)++new++xs.drop (k*1)).length=(n+1)*1 by simp only[List.length_append,List.length_drop,hol,hl,hxl];omega)] at ho;exact hK _ _ ⟨_,rfl,OwnS.back ho⟩
 ·have hroom':n+1≤cap:=by omega
  simp only[hroom,decide_false,rs];rw[show (n:Int)+1=((n+1:Nat):Int) by omega];refine do_eq (run_sl_h Tryz.underlying22 hsz (by omega) (by omega)) |>.mpr ?_;rw[show subA (some (⟨g,0,none⟩:Addr)) 0 cap 1=some ⟨g,0,none⟩ from subA_0 (a:=⟨g,0,none⟩),Int.toNat_natCast];rw[wrap64_id (n:=(k:Int)+1) (by omega) (by omega),show (k:Int)+1=((k+1:Nat):Int) by omega];refine do_eq (run_sl_l Tryz.underlying22 hsz (by omega) (by omega)) |>.mpr ?_;rw[Int.toNat_natCast,subA_in (by omega)];refine do_eq (ov_s (a:=⟨nb,0,none⟩) (b:=⟨g,0+(k+1)*1,none⟩) hgn (tA:=9) (tB:=9) (kA:=new.length) (kB:=cur.size) (by simp[World.shape?,hnb]) (by simp[World.shape?,hg]) (by rw[hcs];omega) (by simp[World.frozen?,hnb]) (by simp[World.frozen?,hnb])) |>.mpr ?_;simp only[rs,Bool.not_false];refine quiet ?_;refine q_add ?_;rw[wrap64_id (by omega) (by omega),show (k:Int)+1=((k+1:Nat):Int) by omega];refine q_do _ (fun W=>run_sl_l Tryz.underlying22 hsz (by omega) (by omega)) ?_;refine q_do _ (fun W=>run_sl_l Tryz.underlying22 hsz (by omega) (by omega)) ?_;rw[Int.toNat_natCast,Int.toNat_natCast,subA_in (by omega),subA_in (by omega)];intro w3 hw;have ho:=hoc.grow hw;have hxcur:∀j u,(xs.drop (k*1))[j]?=some u→cur.toList[k*1+j]?=some u:=fun j u hj=>by
   rw[List.getElem?_drop,←htake,List.getElem?_take] at hj;split at hj<;>first|exact hj|cases hj
  refine o_copyC 0 (src:=xs.drop (k*1)) Tryz.underlying22 hsz ho rfl ?_ (fun j u hj=>?_) ?_ h1t fun _ w4 ho=>?_
  ·rw[htl];congr 1;rw[Nat.min_eq_right (by omega)];omega
  ·rw[add_none,Nat.zero_add];exact ho.cell 0 rfl _ (hxcur j u hj)
  ·rw[htl,hcl];have:(n - k)*1+(k+1)*1=(n+1)*1:=by rw[←Nat.add_mul];congr 1;omega
   have:(n+1)*1≤cap*1:=Nat.mul_le_mul_right _ hroom';omega
  simp only[List.set_cons_zero] at ho;refine do_eq (run_sl_l Tryz.underlying22 hsz (by omega) (by omega)) |>.mpr ?_;rw[Int.toNat_natCast,subA_in (by omega)];have hnew:w4.heap[nb]?=some (.cells new.toArray 9 (0,0)):=(ho.grew.block nb (lt_of_get hnb) hne).trans hnb;have hkc:(k+1)*1≤cap*1:=Nat.mul_le_mul_right _ (by omega);have hnc2:(n+1)*1≤cap*1:=Nat.mul_le_mul_right _ hroom';have hsum:(n - k)*1+(k+1)*1=(n+1)*1:=by rw[←Nat.add_mul];congr 1;omega
  refine o_copyC 0 (src:=new) Tryz.underlying22 hsz ho rfl ?_ (fun j u hj=>by rw[add_none,Nat.zero_add];exact cells_cell (T:=9) hnew hj) ?_ h2 fun _ w5 ho=>?_
  ·rw[hl,Nat.min_eq_left (by omega)]
  ·simp only[List.length_append,List.length_take,List.length_drop,hcl,hl,htl];omega
  simp only[List.set_cons_zero] at ho;have hck:cur.toList.take (k*1)=xs.take (k*1):=by
   rw[←htake,List.take_take,Nat.min_eq_left (Nat.mul_le_mul_right _ (by omega))]
  have hcur:((cur.toList.take (0+(k+1)*1)++xs.drop (k*1)++cur.toList.drop (0+(k+1)*1+(xs.drop (k*1)).length)).take (0+k*1)++new++(cur.toList.take (0+(k+1)*1)++xs.drop (k*1)++cur.toList.drop (0+(k+1)*1+(xs.drop (k*1)).length)).drop (0+k*1+new.length))
   =(xs.take (k*1)++new++xs.drop (k*1))++cur.toList.drop (0+(k+1)*1+(xs.drop (k*1)).length):=by
   have hlt:(cur.toList.take (0+(k+1)*1)).length=0+(k+1)*1:=by rw[List.length_take,hcl];omega
   rw[List.append_assoc (cur.toList.take (0+(k+1)*1))];rw[List.take_append_of_le_length (by rw[hlt];omega),List.take_take,Nat.min_eq_left (by omega),Nat.zero_add,hck];rw[List.drop_append,List.drop_eq_nil_of_le (show (cur.toList.take (0+(k+1)*1)).length≤k*1+new.length by rw[hlt,hl];omega),List.nil_append];rw[show k*1+new.length - (cur.toList.take (0+(k+1)*1)).length=0 by rw[hlt,hl];omega,List.drop_zero];simp only[Nat.zero_add,List.append_assoc]
  rw[hcur] at ho;have ho:=ho.toU 1 (n+1) cap (by simp only[List.length_append,List.length_take,List.length_drop,hcl,hl,hxl];omega) hroom' (by simp only[maxLen] at hcm;exact hcm);rw[List.take_left' (show (xs.take (k*1)++new++xs.drop (k*1)).length=(n+1)*1 by simp only[List.length_append,List.length_take,List.length_drop,hl,hxl];omega)] at ho;exact hK _ _ ⟨_,rfl,OwnS.back ho⟩
theorem ov_o {w:World}{a b:Addr}{la ca lb cb:Nat}(hne:a.block≠b.block){tA tB:TypeId}{kA kB:Nat}(hsa:w.shape? a.block=some (tA,kA))(hsb:w.shape? b.block=some (tB,kB))(hkB:kB≠0)(hfa:w.frozen? a=false)(hfe:w.frozen? { block:=a.block,off:=kA }=false) :
  (mCallV (.func (.func 250) #[] #[]) #[.slice (some a) la ca,.slice (some b) lb cb]).run prog w=.ok (.value (.bool false)) w:=by
 have hx:(callFunc 250 #[.slice (some a) la ca,.slice (some b) lb cb]).run prog w=.ok (.value (.bool false)) w:=by
  rw[run_callFunc_extern (e:=Extern.SlicesOverlaps.overlaps #[23,23] #[4]) Tryz.func250 (by kernel_rfl) (by kernel_rfl) (by kernel_rfl) (by kernel_rfl)];rw[Lib.run_overlaps_apart w 23 4 25 Tryz.underlying23 6 (fun w=>by kernel_rfl) a b la ca lb cb hne tA tB kA kB hsa hsb hkB hfa hfe];rfl
 simpa[mCallV,invoke,Deferred.ofValue,resolve] using hx
theorem sinsert_o_ret (v:Value)(n:Nat)(xs:List Value)(k nb:Nat)(new:List Value)(w:World)(hu:(Ent.urow 25 6 v n xs).is w)(hnb:w.heap[nb]?=some (.cells new.toArray 25 (0,0)))(hl:new.length=6)
  (hne:¬(Ent.urow 25 6 v n xs).blk nb) (h1:∀u∈xs,u.oneCell'=true) (h2:∀u∈new,u.oneCell'=true) (hk:k≤n) (hb:n≤100000000000) :
  Ret prog 202 #[v,.int .i64 (k:Int),.slice (some ⟨nb,0,none⟩) 1 1] w
   (fun v' w'=>∃e',e'=Ent.urow 25 6 v' (n+1) (xs.take (k*6)++new++xs.drop (k*6))∧Turn (.urow 25 6 v n xs) e' w w'):=by
 have hxl:xs.length=n*6:=(show w.ownsRow 0 25 6 v n xs from hu).1;have hs2:Sl w (.slice (some ⟨nb,0,none⟩) 1 1) 6 1 new:=⟨by omega,some ⟨nb,0,none⟩,1,rfl,fun h=>(by cases h),fun p hp=>by cases hp;exact⟨fun _=>rfl,fun j u hj=>by rw[Nat.zero_add];exact cells_cell (T:=25) hnb hj⟩⟩;have ho:=OwnS.lend hu;refine ret_of fun K hK=>S_slices_Insert_foliant_api_Object_foliant_api_Object_ok ?_;unfold S_slices_Insert_foliant_api_Object_foliant_api_Object iN dx cx;have hel:elB prog 25 6 88=true:=by kernel_rfl
 have hsz:(Tryz.prog.info? 25).map (·.size)=some 6:=by kernel_rfl
 obtain⟨a,cap,rfl,hcap⟩:∃a cap,v=.slice a n cap∧n≤cap:=by
  rcases (show w.ownsRow 0 25 6 v n xs from hu).2 with ⟨rfl,rfl⟩|⟨g,cap,cur,rfl,_,_,hnc,_⟩
  ·exact⟨none,0,rfl,Nat.le_refl _⟩
  ·exact⟨_,cap,rfl,hnc⟩
 refine do_eq (run_sl_l Tryz.underlying23 hsz (by omega) (by omega)) |>.mpr ?_;rw[sl_len Tryz.underlying23 hs2];simp only[rs,Int.natCast_one,Int.one_ne_zero,decide_false];rw[sl_len_any Tryz.underlying23];simp only[rs];by_cases hkn:k=n
 ·subst hkn;simp only[decide_true,rs];refine o_appendU 0 Tryz.underlying23 hel (by decide) ho rfl hs2 h2 (by omega) (by omega) fun v' w2 ho=>?_;refine hK _ _ ⟨_,rfl,?_⟩;have e:xs.take (k*6)++new++xs.drop (k*6)=xs++new:=by rw[List.take_of_length_le (by omega),List.drop_eq_nil_of_le (by omega),List.append_nil]
  rw[e];exact OwnS.back (L:=[]) ho
 have hlt:k < n:=by omega
 have hne':¬(k:Int)=(n:Int):=by omega
 simp only[hne',decide_false,rs];rcases (show w.ownsRow 0 25 6 (.slice a n cap) n xs from hu).2 with ⟨_,h0⟩|⟨g,cap',cur,he,hbg,hg,hnc,hcm,hcs,htake⟩
 ·omega
 injection he with he1 _ he2
 subst he1;subst he2;rw[wrap64_id (by omega) (by omega),cap_sl Tryz.underlying23];simp only[rs];have hgn:nb≠g:=fun e=>hne (by rw[e];rfl);have hcl:cur.toList.length=cap*6:=by simpa using hcs
 have hoc:OwnS (Ent.urow 25 6 (.slice (some ⟨g,0,none⟩) n cap) n xs).blk w w [.cells g cur.toList 25]:=
  ho.turn 0 rfl ⟨Grew.refl _ _,by show w.heap[g]?=_;rw[hg],fun j hj=>.inl (by simp only[Ent.cells] at hj;subst hj;rfl)⟩
 have hxc:∀j u,xs[j]?=some u→w.cell? ⟨g,0+j,none⟩=some u:=fun j u hj=>by
  rw[Nat.zero_add];exact hoc.cell 0 rfl j (by rw[←htake] at hj;rw[List.getElem?_take] at hj;split at hj<;>first|exact hj|cases hj)
 have htl:(xs.drop (k*6)).length=(n - k)*6:=by rw[List.length_drop,hxl,←Nat.mul_sub_right_distrib]
 have h1t:∀u∈xs.drop (k*6),u.oneCell'=true:=fun u hu=>h1 u (List.mem_of_mem_drop hu);by_cases hroom:(cap:Int) < (n:Int)+1
 ·simp only[hroom,decide_true,rs];refine do_eq (run_sl_h Tryz.underlying23 hsz (by omega) (by omega)) |>.mpr ?_;rw[show subA (some (⟨g,0,none⟩:Addr)) 0 cap 6=some ⟨g,0,none⟩ from subA_0 (a:=⟨g,0,none⟩),Int.toNat_natCast];rw[wrap64_id (n:=(n:Int)+1 - k) (by omega) (by omega),show (n:Int)+1 - k=((n+1 - k:Nat):Int) by omega];refine o_growZ (olds:=xs.take (k*6)) Tryz.underlying23 Tryz.underlying3 hel (by decide) hoc (by rw[List.length_take,hxl,Nat.min_eq_left (by omega)]) (fun j u hj=>hxc j u (by rw[List.getElem?_take] at hj;split at hj<;>first|exact hj|cases hj)) (by omega) (by omega) (by omega) (by omega) fun b c zs w2 hc1 hc2 hzs ho=>?_;rw[show k+(n+1 - k)=n+1 by omega] at hc1 ⊢;have hol:(xs.take (k*6)).length=k*6:=by rw[List.length_take,hxl,Nat.min_eq_left (by omega)]
  refine do_eq (run_sl_l Tryz.underlying23 hsz (by omega) (by omega)) |>.mpr ?_;rw[Int.toNat_natCast,subA_in (by omega)];have hbg2:b≠g:=by
   have:=(List.pairwise_cons.1 ho.apart).1 (.cells g cur.toList 25) (by simp);intro e;exact this b rfl e
  have old2:∀{W:World} {b':Nat} {x y:List Value},OwnS (Ent.urow 25 6 (.slice (some ⟨g,0,none⟩) n cap) n xs).blk w W [.cells b' x 25,.cells g y 25]→W.heap[nb]?=some (.cells new.toArray 25 (0,0)):=fun h=>(h.grew.block nb (lt_of_get hnb) hne).trans hnb;refine o_copyC 0 (src:=new) Tryz.underlying23 hsz ho rfl ?_ (fun j u hj=>by rw[add_none,Nat.zero_add];exact cells_cell (T:=25) (old2 ho) hj) ?_ h2 fun _ w3 ho=>?_
  ·rw[hl,Nat.min_eq_left (by omega)]
  ·rw[List.length_append,hol,hl];omega
  refine quiet ?_;refine q_add ?_;rw[wrap64_id (by omega) (by omega),show (k:Int)+1=((k+1:Nat):Int) by omega];refine q_do _ (fun W=>run_sl_l Tryz.underlying23 hsz (by omega) (by omega)) ?_;refine q_do _ (fun W=>run_sl_l Tryz.underlying23 hsz (by omega) (by omega)) ?_;rw[Int.toNat_natCast,Int.toNat_natCast,subA_in (by omega),subA_in (by omega)];intro w4 hw;have ho:=ho.grow hw;simp only[Nat.zero_add,List.take_left' hol,List.drop_append,hol] at ho;rw[show k*6+new.length - k*6=6 by omega,List.drop_eq_nil_of_le (show (xs.take (k*6)).length≤k*6+new.length by omega),List.nil_append] at ho;refine o_copyC 0 (src:=xs.drop (k*6)) Tryz.underlying23 hsz ho rfl ?_ (fun j u hj=>?_) ?_ h1t fun _ w5 ho=>?_
  ·rw[htl];congr 1;rw[Nat.min_eq_left (by omega)]
  ·rw[add_none];refine ho.cell 1 rfl (0+k*6+j) ?_;rw[List.getElem?_drop] at hj;rw[Nat.zero_add];rw[←htake] at hj;rw[List.getElem?_take] at hj;split at hj<;>first|exact hj|cases hj
  ·simp only[List.length_append,List.length_drop,hol,hl,hxl];omega
  have hcur:((xs.take (k*6)++new++zs.drop 6).take (0+(k+1)*6)++xs.drop (k*6)++(xs.take (k*6)++new++zs.drop 6).drop (0+(k+1)*6+(xs.drop (k*6)).length))=(xs.take (k*6)++new++xs.drop (k*6))++(zs.drop 6).drop ((n - k)*6):=by
   rw[List.take_left' (show (xs.take (k*6)++new).length=0+(k+1)*6 by rw[List.length_append,hol,hl];omega)];rw[List.drop_append,List.drop_eq_nil_of_le (show (xs.take (k*6)++new).length≤_ by rw[List.length_append,hol,hl,htl];omega),List.nil_append]
   congr 2
   rw[List.length_append,hol,hl,htl];omega
  simp only[List.set_cons_zero] at ho;rw[hcur] at ho;have ho:=ho.toU 6 (n+1) c (by simp only[List.length_append,List.length_drop,hol,hl,hxl];omega) hc1 hc2;rw[List.take_left' (show (xs.take (k*6)++new++xs.drop (k*6)).length=(n+1)*6 by simp only[List.length_append,List.length_drop,hol,hl,hxl];omega)] at ho;exact hK _ _ ⟨_,rfl,OwnS.back ho⟩
 ·have hroom':n+1≤cap:=by omega
  simp only[hroom,decide_false,rs];rw[show (n:Int)+1=((n+1:Nat):Int) by omega];refine do_eq (run_sl_h Tryz.underlying23 hsz (by omega) (by omega)) |>.mpr ?_;rw[show subA (some (⟨g,0,none⟩:Addr)) 0 cap 6=some ⟨g,0,none⟩ from subA_0 (a:=⟨g,0,none⟩),Int.toNat_natCast];rw[wrap64_id (n:=(k:Int)+1) (by omega) (by omega),show (k:Int)+1=((k+1:Nat):Int) by omega];refine do_eq (run_sl_l Tryz.underlying23 hsz (by omega) (by omega)) |>.mpr ?_;rw[Int.toNat_natCast,subA_in (by omega)];refine do_eq (ov_o (a:=⟨nb,0,none⟩) (b:=⟨g,0+(k+1)*6,none⟩) hgn (tA:=25) (tB:=25) (kA:=new.length) (kB:=cur.size) (by simp[World.shape?,hnb]) (by simp[World.shape?,hg]) (by rw[hcs];omega) (by simp[World.frozen?,hnb]) (by simp[World.frozen?,hnb])) |>.mpr ?_;simp only[rs,Bool.not_false];refine quiet ?_;refine q_add ?_;rw[wrap64_id (by omega) (by omega),show (k:Int)+1=((k+1:Nat):Int) by omega];refine q_do _ (fun W=>run_sl_l Tryz.underlying23 hsz (by omega) (by omega)) ?_;refine q_do _ (fun W=>run_sl_l Tryz.underlying23 hsz (by omega) (by omega)) ?_;rw[Int.toNat_natCast,Int.toNat_natCast,subA_in (by omega),subA_in (by omega)];intro w3 hw;have ho:=hoc.grow hw;have hxcur:∀j u,(xs.drop (k*6))[j]?=some u→cur.toList[k*6+j]?=some u:=fun j u hj=>by
   rw[List.getElem?_drop,←htake,List.getElem?_take] at hj;split at hj<;>first|exact hj|cases hj
  refine o_copyC 0 (src:=xs.drop (k*6)) Tryz.underlying23 hsz ho rfl ?_ (fun j u hj=>?_) ?_ h1t fun _ w4 ho=>?_
  ·rw[htl];congr 1;rw[Nat.min_eq_right (by omega)];omega
  ·rw[add_none,Nat.zero_add];exact ho.cell 0 rfl _ (hxcur j u hj)
  ·rw[htl,hcl];have:(n - k)*6+(k+1)*6=(n+1)*6:=by rw[←Nat.add_mul];congr 1;omega
   have:(n+1)*6≤cap*6:=Nat.mul_le_mul_right _ hroom';omega
  simp only[List.set_cons_zero] at ho;refine do_eq (run_sl_l Tryz.underlying23 hsz (by omega) (by omega)) |>.mpr ?_;rw[Int.toNat_natCast,subA_in (by omega)];have hnew:w4.heap[nb]?=some (.cells new.toArray 25 (0,0)):=(ho.grew.block nb (lt_of_get hnb) hne).trans hnb;have hkc:(k+1)*6≤cap*6:=Nat.mul_le_mul_right _ (by omega);have hnc2:(n+1)*6≤cap*6:=Nat.mul_le_mul_right _ hroom';have hsum:(n - k)*6+(k+1)*6=(n+1)*6:=by rw[←Nat.add_mul];congr 1;omega
  refine o_copyC 0 (src:=new) Tryz.underlying23 hsz ho rfl ?_ (fun j u hj=>by rw[add_none,Nat.zero_add];exact cells_cell (T:=25) hnew hj) ?_ h2 fun _ w5 ho=>?_
  ·rw[hl,Nat.min_eq_left (by omega)]
  ·simp only[List.length_append,List.length_take,List.length_drop,hcl,hl,htl];omega
  simp only[List.set_cons_zero] at ho;have hck:cur.toList.take (k*6)=xs.take (k*6):=by
   rw[←htake,List.take_take,Nat.min_eq_left (Nat.mul_le_mul_right _ (by omega))]
  have hcur:((cur.toList.take (0+(k+1)*6)++xs.drop (k*6)++cur.toList.drop (0+(k+1)*6+(xs.drop (k*6)).length)).take (0+k*6)++new++(cur.toList.take (0+(k+1)*6)++xs.drop (k*6)++cur.toList.drop (0+(k+1)*6+(xs.drop (k*6)).length)).drop (0+k*6+new.length))
   =(xs.take (k*6)++new++xs.drop (k*6))++cur.toList.drop (0+(k+1)*6+(xs.drop (k*6)).length):=by
   have hlt:(cur.toList.take (0+(k+1)*6)).length=0+(k+1)*6:=by rw[List.length_take,hcl];omega
   rw[List.append_assoc (cur.toList.take (0+(k+1)*6))];rw[List.take_append_of_le_length (by rw[hlt];omega),List.take_take,Nat.min_eq_left (by omega),Nat.zero_add,hck];rw[List.drop_append,List.drop_eq_nil_of_le (show (cur.toList.take (0+(k+1)*6)).length≤k*6+new.length by rw[hlt,hl];omega),List.nil_append];rw[show k*6+new.length - (cur.toList.take (0+(k+1)*6)).length=0 by rw[hlt,hl];omega,List.drop_zero];simp only[Nat.zero_add,List.append_assoc]
  rw[hcur] at ho;have ho:=ho.toU 6 (n+1) cap (by simp only[List.length_append,List.length_take,List.length_drop,hcl,hl,hxl];omega) hroom' (by simp only[maxLen] at hcm;exact hcm);rw[List.take_left' (show (xs.take (k*6)++new++xs.drop (k*6)).length=(n+1)*6 by simp only[List.length_append,List.length_take,List.length_drop,hl,hxl];omega)] at ho;exact hK _ _ ⟨_,rfl,OwnS.back ho⟩
theorem sdelete_s_ret (v:Value)(n:Nat)(xs:List Value)(k:Nat)(w:World)(hu:(Ent.urow 9 1 v n xs).is w)(h1:∀u∈xs,u.oneCell'=true)(hk:k < n)(hb:n≤100000000000) :
  Ret prog 219 #[v,.int .i64 (k:Int),.int .i64 ((k+1:Nat):Int)] w
   (fun v' w'=>∃e',e'=Ent.urow 9 1 v' (n - 1) (xs.take (k*1)++xs.drop ((k+1)*1))∧Turn (.urow 9 1 v n xs) e' w w'):=by
 have hxl:xs.length=n*1:=(show w.ownsRow 0 9 1 v n xs from hu).1;have ho:=OwnS.lend hu;refine ret_of fun K hK=>S_slices_Delete_string_string_ok ?_;unfold S_slices_Delete_string_string dx;have hel:elB prog 9 1 16=true:=by kernel_rfl
 have hsz:(Tryz.prog.info? 9).map (·.size)=some 1:=by kernel_rfl
 rcases (show w.ownsRow 0 9 1 v n xs from hu).2 with ⟨_,h0⟩|⟨g,cap,cur,rfl,hbg,hg,hnc,hcm,hcs,htake⟩
 ·omega
 have hcl:cur.toList.length=cap*1:=by simpa using hcs
 have hnc2:n*1≤cap*1:=Nat.mul_le_mul_right _ hnc;have hoc:OwnS (Ent.urow 9 1 (.slice (some ⟨g,0,none⟩) n cap) n xs).blk w w [.cells g cur.toList 9]:=
  ho.turn 0 rfl ⟨Grew.refl _ _,by show w.heap[g]?=_;rw[hg],fun j hj=>.inl (by simp only[Ent.cells] at hj;subst hj;rfl)⟩
 rw[sl_len_any Tryz.underlying22];refine do_eq (run_sl_lhm Tryz.underlying22 hsz (by omega) (by omega) (by omega) (by omega)) |>.mpr ?_;have hne:¬(k:Int)=((k+1:Nat):Int):=by omega
 simp only[rs,hne,decide_false];rw[sl_len_any Tryz.underlying22];refine quiet ?_;refine q_do _ (fun W=>run_sl_h Tryz.underlying22 hsz (by omega) (by omega)) ?_;refine q_do _ (fun W=>run_sl_l Tryz.underlying22 hsz (by omega) (by omega)) ?_;rw[show subA (some (⟨g,0,none⟩:Addr)) 0 cap 1=some ⟨g,0,none⟩ from subA_0 (a:=⟨g,0,none⟩),Int.toNat_natCast,Int.toNat_natCast];obtain⟨a,ha,hac⟩:∃a,subA (some (⟨g,0,none⟩:Addr)) (k+1) cap 1=some a∧(k+1 < cap→a=⟨g,(k+1)*1,none⟩):=by
  by_cases h:k+1 < cap
  ·exact⟨_,by rw[subA_in h,Nat.zero_add],fun _=>rfl⟩
  ·exact⟨⟨g,0,none⟩,by unfold subA;rw[if_pos (by omega)],fun h'=>absurd h' h⟩
 rw[ha];intro w3 hw;have ho:=hoc.grow hw;have htl:(xs.drop ((k+1)*1)).length=(n - (k+1))*1:=by rw[List.length_drop,hxl,←Nat.mul_sub_right_distrib]
 have hkk:(k+1)*1≤n*1:=Nat.mul_le_mul_right _ (by omega);have hsum:k*1+(n - (k+1))*1=(n - 1)*1:=by rw[←Nat.add_mul];congr 1;omega
 have hn1:(n - 1)*1+1=n*1:=by rw[←Nat.succ_mul];congr 1;omega
 refine o_appRoomC 0 (news:=xs.drop ((k+1)*1)) Tryz.underlying22 hel ho rfl htl (fun j u hj=>?_) (fun u hu=>h1 u (List.mem_of_mem_drop hu)) (by omega) (by rw[htl,hcl];omega) fun w4 ho=>?_
 ·have hjl:j < (xs.drop ((k+1)*1)).length:=(List.getElem?_eq_some_iff.1 hj).1;have hlt:k+1 < cap:=by
   rcases Nat.lt_or_ge (k+1) n with h|h
   ·omega
   ·rw[htl,show n - (k+1)=0 by omega] at hjl;omega
  rw[hac hlt,add_none];refine ho.cell 0 rfl _ ?_;rw[List.getElem?_drop,←htake,List.getElem?_take] at hj;split at hj<;>first|exact hj|cases hj
 simp only[List.set_cons_zero] at ho;rw[sl_len_any Tryz.underlying22];rw[show k+(n - (k+1))=n - 1 by omega];refine do_eq (run_sl_lh Tryz.underlying22 hsz (by omega) (by omega) (by omega)) |>.mpr ?_;rw[Int.toNat_natCast,Int.toNat_natCast,subA_in (by omega),Nat.zero_add,show n - (n - 1)=1 by omega];have hck:cur.toList.take (k*1)=xs.take (k*1):=by
  rw[←htake,List.take_take,Nat.min_eq_left (Nat.mul_le_mul_right _ (by omega))]
 have hkl:(xs.take (k*1)).length=k*1:=by rw[List.length_take,hxl,Nat.min_eq_left (by omega)]
 rw[hck] at ho;have hal:(xs.take (k*1)++xs.drop ((k+1)*1)).length=(n - 1)*1:=by rw[List.length_append,hkl,htl,hsum]
 refine o_clearC 0 Tryz.underlying22 hel (show zB prog 9=true by kernel_rfl) (by omega) ho rfl (by simp only[List.length_append,List.length_drop,hcl,hkl,hxl];omega) fun _ w5 zs hzs ho=>?_;simp only[List.set_cons_zero] at ho;rw[List.take_left' hal,List.append_assoc (xs.take (k*1)++xs.drop ((k+1)*1))] at ho;have ho:=ho.toU 1 (n - 1) cap (by simp only[List.length_append,List.length_drop,hcl,hkl,hxl,hzs];omega) (by omega) (by simp only[maxLen] at hcm;exact hcm);rw[List.take_left' hal] at ho;exact hK _ _ ⟨_,rfl,OwnS.back ho⟩
theorem sdelete_o_ret (v:Value)(n:Nat)(xs:List Value)(k:Nat)(w:World)(hu:(Ent.urow 25 6 v n xs).is w)(h1:∀u∈xs,u.oneCell'=true)(hk:k < n)(hb:n≤100000000000) :
  Ret prog 220 #[v,.int .i64 (k:Int),.int .i64 ((k+1:Nat):Int)] w
   (fun v' w'=>∃e',e'=Ent.urow 25 6 v' (n - 1) (xs.take (k*6)++xs.drop ((k+1)*6))∧Turn (.urow 25 6 v n xs) e' w w'):=by
 have hxl:xs.length=n*6:=(show w.ownsRow 0 25 6 v n xs from hu).1;have ho:=OwnS.lend hu;refine ret_of fun K hK=>S_slices_Delete_foliant_api_Object_foliant_api_Object_ok ?_;unfold S_slices_Delete_foliant_api_Object_foliant_api_Object dx;have hel:elB prog 25 6 88=true:=by kernel_rfl
 have hsz:(Tryz.prog.info? 25).map (·.size)=some 6:=by kernel_rfl
 rcases (show w.ownsRow 0 25 6 v n xs from hu).2 with ⟨_,h0⟩|⟨g,cap,cur,rfl,hbg,hg,hnc,hcm,hcs,htake⟩
 ·omega
 have hcl:cur.toList.length=cap*6:=by simpa using hcs
 have hnc2:n*6≤cap*6:=Nat.mul_le_mul_right _ hnc;have hoc:OwnS (Ent.urow 25 6 (.slice (some ⟨g,0,none⟩) n cap) n xs).blk w w [.cells g cur.toList 25]:=
  ho.turn 0 rfl ⟨Grew.refl _ _,by show w.heap[g]?=_;rw[hg],fun j hj=>.inl (by simp only[Ent.cells] at hj;subst hj;rfl)⟩
 rw[sl_len_any Tryz.underlying23];refine do_eq (run_sl_lhm Tryz.underlying23 hsz (by omega) (by omega) (by omega) (by omega)) |>.mpr ?_;have hne:¬(k:Int)=((k+1:Nat):Int):=by omega
 simp only[rs,hne,decide_false];rw[sl_len_any Tryz.underlying23];refine quiet ?_;refine q_do _ (fun W=>run_sl_h Tryz.underlying23 hsz (by omega) (by omega)) ?_;refine q_do _ (fun W=>run_sl_l Tryz.underlying23 hsz (by omega) (by omega)) ?_;rw[show subA (some (⟨g,0,none⟩:Addr)) 0 cap 6=some ⟨g,0,none⟩ from subA_0 (a:=⟨g,0,none⟩),Int.toNat_natCast,Int.toNat_natCast];obtain⟨a,ha,hac⟩:∃a,subA (some (⟨g,0,none⟩:Addr)) (k+1) cap 6=some a∧(k+1 < cap→a=⟨g,(k+1)*6,none⟩):=by
  by_cases h:k+1 < cap
  ·exact⟨_,by rw[subA_in h,Nat.zero_add],fun _=>rfl⟩
  ·exact⟨⟨g,0,none⟩,by unfold subA;rw[if_pos (by omega)],fun h'=>absurd h' h⟩
 rw[ha];intro w3 hw;have ho:=hoc.grow hw;have htl:(xs.drop ((k+1)*6)).length=(n - (k+1))*6:=by rw[List.length_drop,hxl,←Nat.mul_sub_right_distrib]
 have hkk:(k+1)*6≤n*6:=Nat.mul_le_mul_right _ (by omega);have hsum:k*6+(n - (k+1))*6=(n - 1)*6:=by rw[←Nat.add_mul];congr 1;omega
 have hn1:(n - 1)*6+6=n*6:=by rw[←Nat.succ_mul];congr 1;omega
 refine o_appRoomC 0 (news:=xs.drop ((k+1)*6)) Tryz.underlying23 hel ho rfl htl (fun j u hj=>?_) (fun u hu=>h1 u (List.mem_of_mem_drop hu)) (by omega) (by rw[htl,hcl];omega) fun w4 ho=>?_
 ·have hjl:j < (xs.drop ((k+1)*6)).length:=(List.getElem?_eq_some_iff.1 hj).1;have hlt:k+1 < cap:=by
   rcases Nat.lt_or_ge (k+1) n with h|h
   ·omega
   ·rw[htl,show n - (k+1)=0 by omega] at hjl;omega
  rw[hac hlt,add_none];refine ho.cell 0 rfl _ ?_;rw[List.getElem?_drop,←htake,List.getElem?_take] at hj;split at hj<;>first|exact hj|cases hj
 simp only[List.set_cons_zero] at ho;rw[sl_len_any Tryz.underlying23];rw[show k+(n - (k+1))=n - 1 by omega];refine do_eq (run_sl_lh Tryz.underlying23 hsz (by omega) (by omega) (by omega)) |>.mpr ?_;rw[Int.toNat_natCast,Int.toNat_natCast,subA_in (by omega),Nat.zero_add,show n - (n - 1)=1 by omega];have hck:cur.toList.take (k*6)=xs.take (k*6):=by
  rw[←htake,List.take_take,Nat.min_eq_left (Nat.mul_le_mul_right _ (by omega))]
 have hkl:(xs.take (k*6)).length=k*6:=by rw[List.length_take,hxl,Nat.min_eq_left (by omega)]
 rw[hck] at ho;have hal:(xs.take (k*6)++xs.drop ((k+1)*6)).length=(n - 1)*6:=by rw[List.length_append,hkl,htl,hsum]
 refine o_clearC 0 Tryz.underlying23 hel (show zB prog 25=true by kernel_rfl) (by omega) ho rfl (by simp only[List.length_append,List.length_drop,hcl,hkl,hxl];omega) fun _ w5 zs hzs ho=>?_;simp only[List.set_cons_zero] at ho;rw[List.take_left' hal,List.append_assoc (xs.take (k*6)++xs.drop ((k+1)*6))] at ho;have ho:=ho.toU 6 (n - 1) cap (by simp only[List.length_append,List.length_drop,hcl,hkl,hxl,hzs];omega) (by omega) (by simp only[maxLen] at hcm;exact hcm);rw[List.take_left' hal] at ho;exact hK _ _ ⟨_,rfl,OwnS.back ho⟩
end
section
open Eng
def S_value_Name(t0 w)(K:KT):=
 dx (mAlloc 25) w K fun t2 w=>dx (mBuild 25 #[(0,(iN 5)),(3,t0)]) w K fun t4 w=>dx (mStore 25 t2 t4) w K fun _ w=>RetX prog [.cell t2 25] w K
theorem S_value_Name_ok{t0 w K}(h:S_value_Name t0 w K):Calls prog 69 #[t0] w K:=cw Tryz.func69 rfl rfl (by kernel_rfl) h
def S_value_Array(t0 w)(K:KT):=
 dx (mAlloc 25) w K fun t2 w=>dx (mBuild 25 #[(0,(iN 6)),(5,t0)]) w K fun t4 w=>cx 95 #[t4] w K fun t5 w=>dx (mStore 25 t2 t5) w K fun _ w=>RetX prog [.cell t2 25] w K
theorem S_value_Array_ok{t0 w K}(h:S_value_Array t0 w K):Calls prog 141 #[t0] w K:=cw Tryz.func141 rfl rfl (by kernel_rfl) h
def S_value_sound(t0 w)(K:KT):=
 dx (mBox 25 t0) w K fun t1 w=>dx (mAlloc 25) w K fun t2 w=>dx (mLoad 25 t1) w K fun t5 w=>cx 86 #[t5] w K fun t6 w=>dx (mEq .neq 30 (.tmp 7) (.const (iN 0)) t6 (iN 0)) w K fun t8 w=>IfX t8 (dx (mBuild 25 #[]) w K fun t9 w=>dx (mStore 25 t2 t9) w K fun _ w=>RetX prog [.cell t2 25,.val t6] w K) (dx (mLoad 25 t1) w K fun t11 w=>dx (mStore 25 t2 t11) w K fun _ w=>RetX prog [.cell t2 25,.val (iN 0)] w K)
theorem S_value_sound_ok{t0 w K}(h:S_value_sound t0 w K):Calls prog 139 #[t0] w K:=cw Tryz.func139 rfl rfl (by kernel_rfl) h
def S_value_keyed(t0 w)(K:KT):=
 dx (mBox 25 t0) w K fun t1 w=>dx (mFA 25 t1 0) w K fun t3 w=>dx (mLoad 3 t3) w K fun t4 w=>dx (mEq .eql 3 (.tmp 4) (.const (iN 7)) t4 (iN 7)) w K fun t5 w=>gfx t5 (mFA 25 t1 0) w K fun t7 w=>gfx t5 (mLoad 3 t7) w K fun t8 w=>gfx t5 (mEq .eql 3 (.tmp 8) (.const (iN 9)) t8 (iN 9)) w K fun t9 w=>dx (mPick t5 (.bool true) t9) w K fun t10 w=>K (.returned t10) w
theorem S_value_keyed_ok{t0 w K}(h:S_value_keyed t0 w K):Calls prog 138 #[t0] w K:=cw Tryz.func138 rfl rfl (by kernel_rfl) h
def S_value_with_0(t3 t6 w)(K:KT):=
 dx (mLoad 25 t3) w K fun t44 w=>dx (mStore 25 t6 t44) w K fun _ w=>RetX prog [.cell t6 25] w K
def S_value_with(t0 t1 t2 w)(K:KT):=
 dx (mBox 25 t0) w K fun t3 w=>dx (mBox 25 t2) w K fun t5 w=>dx (mAlloc 25) w K fun t6 w=>dx (mFA 25 t3 4) w K fun t10 w=>dx (mLoad 22 t10) w K fun t11 w=>cx 154 #[t11,t1] w K fun t13 w=>dx (mExt t13 0) w K fun t14 w=>dx (mExt t13 1) w K fun t15 w=>dx (mFA 25 t3 4) w K fun t16 w=>dx (mLoad 22 t16) w K fun t17 w=>cx 199 #[t17] w K fun t18 w=>dx (mFA 25 t3 4) w K fun t19 w=>dx (mStore 22 t19 t18) w K fun _ w=>dx (mFA 25 t3 5) w K fun t20 w=>dx (mLoad 23 t20) w K fun t21 w=>cx 200 #[t21] w K fun t22 w=>dx (mFA 25 t3 5) w K fun t23 w=>dx (mStore 23 t23 t22) w K fun _ w=>JoinX (fun J1=>IfX t15 (dx (mFA 25 t3 5) w K fun t25 w=>dx (mLoad 23 t25) w K fun t26 w=>dx (mLoad 25 t5) w K fun t28 w=>dx (mIA 23 t26 t14) w K fun t29 w=>dx (mStore 25 t29 t28) w K fun _ w=>J1 [] w) (dx (mFA 25 t3 4) w K fun t30 w=>dx (mLoad 22 t30) w K fun t31 w=>dx (mBuildS 22 1 #[(0,t1)]) w K fun t34 w=>cx 201 #[t31,t14,t34] w K fun t35 w=>dx (mFA 25 t3 4) w K fun t36 w=>dx (mStore 22 t36 t35) w K fun _ w=>dx (mFA 25 t3 5) w K fun t37 w=>dx (mLoad 23 t37) w K fun t38 w=>dx (mLoad 25 t5) w K fun t40 w=>dx (mBuildS 23 1 #[(0,t40)]) w K fun t41 w=>cx 202 #[t38,t14,t41] w K fun t42 w=>dx (mFA 25 t3 5) w K fun t43 w=>dx (mStore 23 t43 t42) w K fun _ w=>J1 [] w)) (fun vs1 w=>∀_:Sg,S_value_with_0 t3 t6 w K)
theorem S_value_with_eq (t0 t1 t2:Value)(w:World)(K:Ending→World→Prop):wpX prog 45 [(8,[])] [] none (bodyOf Tryz.f140) (topQ prog [.cell 6 25] K) (startX [t0,t1,t2]) [] w=S_value_with t0 t1 t2 w K:=by kernel_rfl
theorem S_value_with_ok {t0 t1 t2:Value}{w:World}{K:Ending→World→Prop}(h:S_value_with t0 t1 t2 w K):Calls prog 140 #[t0,t1,t2] w K:=
 calls_of_wpX Tryz.func140 rfl rfl rfl rfl (Eq.mpr (S_value_with_eq t0 t1 t2 w K) h)
def S_value_without(t0 t1 w)(K:KT):=
 dx (mBox 25 t0) w K fun t2 w=>dx (mAlloc 25) w K fun t4 w=>dx (mFA 25 t2 4) w K fun t5 w=>dx (mLoad 22 t5) w K fun t6 w=>cx 199 #[t6] w K fun t7 w=>dx (mBin .add 3 t1 (iN 1)) w K fun t10 w=>cx 219 #[t7,t1,t10] w K fun t11 w=>dx (mFA 25 t2 4) w K fun t12 w=>dx (mStore 22 t12 t11) w K fun _ w=>dx (mFA 25 t2 5) w K fun t13 w=>dx (mLoad 23 t13) w K fun t14 w=>cx 200 #[t14] w K fun t15 w=>dx (mBin .add 3 t1 (iN 1)) w K fun t18 w=>cx 220 #[t15,t1,t18] w K fun t19 w=>dx (mFA 25 t2 5) w K fun t20 w=>dx (mStore 23 t20 t19) w K fun _ w=>dx (mLoad 25 t2) w K fun t21 w=>dx (mStore 25 t4 t21) w K fun _ w=>RetX prog [.cell t4 25] w K
theorem S_value_without_ok{t0 t1 w K}(h:S_value_without t0 t1 w K):Calls prog 155 #[t0,t1] w K:=cw Tryz.func155 rfl rfl (by kernel_rfl) h
def S_value_Get(t0 t1 w)(K:KT):=
 dx (mBox 25 t0) w K fun t2 w=>dx (mAlloc 25) w K fun t4 w=>dx (mLoad 25 t2) w K fun t7 w=>cx 138 #[t7] w K fun t8 w=>dx (mUn .not t8) w K fun t9 w=>IfX t9 (dx (mBuild 25 #[]) w K fun t10 w=>dx (mStore 25 t4 t10) w K fun _ w=>RetX prog [.cell t4 25,.val (.bool false)] w K) (dx (mFA 25 t2 4) w K fun t11 w=>dx (mLoad 22 t11) w K fun t12 w=>cx 207 #[t12,t1] w K fun t14 w=>dx (mBin .lss 3 t14 (iN 0)) w K fun t16 w=>efx t16 t14 w fun t18 w=>gfx t16 (mFA 25 t2 5) w K fun t19 w=>gfx t16 (mLoad 23 t19) w K fun t20 w=>gfx t16 (mB .len #[23] 3 #[false] #[t20]) w K fun t21 w=>gfx t16 (mBin .geq 3 t18 t21) w K fun t22 w=>dx (mPick t16 (.bool true) t22) w K fun t23 w=>IfX t23 (dx (mBuild 25 #[]) w K fun t24 w=>dx (mStore 25 t4 t24) w K fun _ w=>RetX prog [.cell t4 25,.val (.bool false)] w K) (dx (mFA 25 t2 5) w K fun t25 w=>dx (mLoad 23 t25) w K fun t26 w=>dx (mIA 23 t26 t14) w K fun t28 w=>dx (mLoad 25 t28) w K fun t29 w=>cx 95 #[t29] w K fun t30 w=>dx (mStore 25 t4 t30) w K fun _ w=>RetX prog [.cell t4 25,.val (.bool true)] w K))
theorem S_value_Get_ok{t0 t1 w K}(h:S_value_Get t0 t1 w K):Calls prog 146 #[t0,t1] w K:=cw Tryz.func146 rfl rfl (by kernel_rfl) h
def S_value_Set(t0 t1 t2 w)(K:KT):=
 dx (mBox 25 t0) w K fun t3 w=>dx (mBox 25 t2) w K fun t5 w=>dx (mAlloc 25) w K fun t6 w=>dx (mLoad 25 t3) w K fun t9 w=>cx 138 #[t9] w K fun t10 w=>dx (mUn .not t10) w K fun t11 w=>IfX t11 (dx (mBuild 25 #[]) w K fun t12 w=>dx (mStore 25 t6 t12) w K fun _ w=>RetX prog [.cell t6 25,.val (iN 10)] w K) (dx (mLoad 25 t3) w K fun t13 w=>cx 86 #[t13] w K fun t14 w=>dx (mEq .neq 30 (.tmp 15) (.const (iN 0)) t14 (iN 0)) w K fun t16 w=>IfX t16 (dx (mBuild 25 #[]) w K fun t17 w=>dx (mStore 25 t6 t17) w K fun _ w=>RetX prog [.cell t6 25,.val t14] w K) (dx (mFA 25 t5 0) w K fun t19 w=>dx (mLoad 3 t19) w K fun t20 w=>dx (mEq .eql 3 (.tmp 20) (.const (iN 0)) t20 (iN 0)) w K fun t21 w=>IfX t21 (dx (mLoad 25 t3) w K fun t22 w=>cx 88 #[t22,t1] w K fun t24 w=>dx (mStore 25 t6 t24) w K fun _ w=>RetX prog [.cell t6 25,.val (iN 0)] w K) (dx (mLoad 25 t3) w K fun t25 w=>dx (mLoad 25 t5) w K fun t27 w=>cx 140 #[t25,t1,t27] w K fun t28 w=>cx 95 #[t28] w K fun t29 w=>cx 139 #[t29] w K fun t30 w=>dx (mExt t30 0) w K fun t31 w=>dx (mExt t30 1) w K fun t32 w=>dx (mStore 25 t6 t31) w K fun _ w=>RetX prog [.cell t6 25,.val t32] w K)))
theorem S_value_Set_ok{t0 t1 t2 w K}(h:S_value_Set t0 t1 t2 w K):Calls prog 70 #[t0,t1,t2] w K:=cw Tryz.func70 rfl rfl (by kernel_rfl) h
def S_value_Drop_0(t2 t4 w)(K:KT):=
 dx (mLoad 25 t2) w K fun t25 w=>cx 95 #[t25] w K fun t26 w=>dx (mStore 25 t4 t26) w K fun _ w=>RetX prog [.cell t4 25] w K
def S_value_Drop(t0 t1 w)(K:KT):=
 dx (mBox 25 t0) w K fun t2 w=>dx (mAlloc 25) w K fun t4 w=>JoinX (fun J1=>dx (mLoad 25 t2) w K fun t7 w=>cx 138 #[t7] w K fun t8 w=>gtx t8 (mLoad 25 t2) w K fun t10 w=>ctx t8 86 #[t10] w K fun t11 w=>gtx t8 (mEq .eql 30 (.tmp 11) (.const (iN 0)) t11 (iN 0)) w K fun t12 w=>dx (mPick t8 t12 (.bool false)) w K fun t13 w=>IfX t13 (dx (mFA 25 t2 4) w K fun t15 w=>dx (mLoad 22 t15) w K fun t16 w=>cx 154 #[t16,t1] w K fun t18 w=>dx (mExt t18 0) w K fun t19 w=>dx (mExt t18 1) w K fun t20 w=>IfX t20 (dx (mLoad 25 t2) w K fun t22 w=>cx 155 #[t22,t19] w K fun t24 w=>dx (mStore 25 t2 t24) w K fun _ w=>J1 [] w) (J1 [] w)) (J1 [] w)) (fun vs1 w=>∀_:Sg,S_value_Drop_0 t2 t4 w K)
theorem S_value_Drop_eq (t0 t1:Value)(w:World)(K:Ending→World→Prop):wpX prog 27 [(5,[])] [] none (bodyOf Tryz.f88) (topQ prog [.cell 4 25] K) (startX [t0,t1]) [] w=S_value_Drop t0 t1 w K:=by kernel_rfl
theorem S_value_Drop_ok {t0 t1:Value}{w:World}{K:Ending→World→Prop}(h:S_value_Drop t0 t1 w K):Calls prog 88 #[t0,t1] w K:=
 calls_of_wpX Tryz.func88 rfl rfl rfl rfl (Eq.mpr (S_value_Drop_eq t0 t1 w K) h)
def S_value_Clone(t0 w)(K:KT):=
 dx (mBox 25 t0) w K fun t1 w=>dx (mAlloc 25) w K fun t2 w=>dx (mLoad 25 t1) w K fun t3 w=>cx 163 #[t3,(.func (.func 164) #[] #[])] w K fun t4 w=>dx (mStore 25 t2 t4) w K fun _ w=>RetX prog [.cell t2 25] w K
theorem S_value_Clone_ok{t0 w K}(h:S_value_Clone t0 w K):Calls prog 95 #[t0] w K:=cw Tryz.func95 rfl rfl (by kernel_rfl) h
def S_value_Clone_1(t0 w)(K:KT):=
 dx (mBox 25 t0) w K fun t1 w=>dx (mAlloc 25) w K fun t2 w=>dx (mLoad 25 t1) w K fun t3 w=>dx (mStore 25 t2 t3) w K fun _ w=>RetX prog [.cell t2 25] w K
theorem S_value_Clone_1_ok{t0 w K}(h:S_value_Clone_1 t0 w K):Calls prog 164 #[t0] w K:=cw Tryz.func164 rfl rfl (by kernel_rfl) h
def S_value_changed_1(t2 t4 w)(K:KT):=
 dx (mLoad 25 t2) w K fun t39 w=>dx (mStore 25 t4 t39) w K fun _ w=>RetX prog [.cell t4 25] w K
def S_value_changed_0(t1 t2 t5 t23 t24 t25 w)(J1 N2:JT)(K:KT):=
 dx (mBin .lss 3 t25 t24) w K fun t26 w=>IfX t26 (dx (mIA 23 t23 t25) w K fun t28 w=>dx (mLoad 25 t28) w K fun t29 w=>dx (mAlloc 25) w K fun t7 w=>dx (mStore 25 t7 t29) w K fun _ w=>dx (mLoad 25 t7) w K fun t32 w=>cx 163 #[t32,t1] w K fun t34 w=>dx (mIA 23 t5 t25) w K fun t35 w=>dx (mStore 25 t35 t34) w K fun _ w=>dx (mBin .add 3 t25 (iN 1)) w K fun t36 w=>N2 [t36] w) (dx (mFA 25 t2 5) w K fun t38 w=>dx (mStore 23 t38 t5) w K fun _ w=>J1 [] w)
def S_value_changed(t0 t1 w)(K:KT):=
 dx (mBox 25 t0) w K fun t2 w=>dx (mAlloc 25) w K fun t4 w=>dx (mLoad 25 t2) w K fun t9 w=>dx (mCallV t1 #[t9]) w K fun t10 w=>dx (mStore 25 t2 t10) w K fun _ w=>dx (mFA 25 t2 4) w K fun t11 w=>dx (mLoad 22 t11) w K fun t12 w=>cx 199 #[t12] w K fun t13 w=>dx (mFA 25 t2 4) w K fun t14 w=>dx (mStore 22 t14 t13) w K fun _ w=>JoinX (fun J1=>dx (mFA 25 t2 5) w K fun t15 w=>dx (mLoad 23 t15) w K fun t16 w=>dx (mEq .neq 23 (.tmp 16) (.const (.slice none 0 0)) t16 (.slice none 0 0)) w K fun t17 w=>IfX t17 (dx (mFA 25 t2 5) w K fun t18 w=>dx (mLoad 23 t18) w K fun t19 w=>dx (mB .len #[23] 3 #[false] #[t19]) w K fun t20 w=>dx (mMake 23 t20 t20) w K fun t21 w=>dx (mFA 25 t2 5) w K fun t22 w=>dx (mLoad 23 t22) w K fun t23 w=>dx (mB .len #[23] 3 #[false] #[t23]) w K fun t24 w=>LoopX [(iN 0)] w (fun vs2 w N2=>∀_:Sg,S_value_changed_0 t1 t2 t21 t23 t24 (vs2.getD 0 undef) w J1 N2 K)) (J1 [] w)) (fun vs1 w=>∀_:Sg,S_value_changed_1 t2 t4 w K)
theorem S_value_changed_eq (t0 t1:Value)(w:World)(K:Ending→World→Prop):wpX prog 40 [(11,[])] [(6,[25])] none (bodyOf Tryz.f163) (topQ prog [.cell 4 25] K) (startX [t0,t1]) [] w=S_value_changed t0 t1 w K:=by kernel_rfl
theorem S_value_changed_ok {t0 t1:Value}{w:World}{K:Ending→World→Prop}(h:S_value_changed t0 t1 w K):Calls prog 163 #[t0,t1] w K:=
 calls_of_wpX Tryz.func163 rfl rfl rfl rfl (Eq.mpr (S_value_changed_eq t0 t1 w K) h)
end
section
open Go
namespace Vl
def used (k:Int):Option (Bool×Bool×Bool×Bool×Bool):=
 if k=0 then some (false,false,false,false,false)
 else if k=1∨k=2∨k=3 then some (true,false,false,false,false)
 else if k=4∨k=5 then some (false,false,true,false,false)
 else if k=6 then some (false,false,false,false,true)
 else if k=7 then some (false,false,false,true,true)
 else if k=8 then some (true,true,false,false,false)
 else if k=9 then some (false,false,true,true,true)
 else none
def usesOk (o:Ob):Bool:=
 match used o.k with
|none=>false
|some (n,g,s,ks,cs)=>(n||decide (o.n=0))&&(g||decide (o.g=0))&&(s||decide (o.s=[]))&&(ks||decide (o.keys=[]))&&(cs||decide (o.kids.length=0))
def fits (o:Ob):Bool:=
 if o.k=1 then decide (0≤o.n∧o.n≤1)
 else if o.k=2 then decide (-2147483647≤o.n∧o.n≤2147483647)
 else if o.k=3 then decide (-1073741824≤o.n∧o.n≤1073741824)
 else if o.k=8 then decide (1≤o.n∧o.n≤8191)&&decide (0≤o.g∧o.g≤65535)
 else true
def long (k:Int):Nat:=if k=5 then 127 else if k=9 then 1048576 else 32767
def name (s:List UInt8):Bool:=decide (s.length≤127)&&decide ((0:UInt8) ∉ s)
def lenK:List UInt8:=[76,101,110,103,116,104]
abbrev less (a b:List UInt8):Bool:=Op.bytesLess a b
def keyAt (o:Ob)(i:Nat):Bool:=
 name (o.keys.getD i [])&&(decide (i=0)||less (o.keys.getD (i - 1) []) (o.keys.getD i []))&&!(decide (o.k=9)&&decide (o.keys.getD i []=lenK))&&decide ((o.kids.getD i (.mk 0 0 0 [] [] [])).k≠0)
def rising (o:Ob):Bool:=decide (o.keys.length=o.kids.length)&&(List.range o.keys.length).all (keyAt o)
def form (o:Ob):Bool:=(!(decide (o.k=5))||name o.s)&&(!(decide (o.k=7∨o.k=9))||rising o)
def why (d:Nat)(o:Ob):Int:=
 if 24 < d then 7
 else if usesOk o=false∨(o.k=9∧1 < d) then 10
 else if fits o=false then 2
 else if long o.k < o.s.length then 5
 else if 8191 < o.kids.length then 6
 else if form o=false then 3
 else 0
 mutual
def check (d:Nat):Ob→Int
|.mk k n g s keys kids=>if why d (.mk k n g s keys kids)≠0 then why d (.mk k n g s keys kids) else checks (d+1) kids
def checks (d:Nat):List Ob→Int
|[]=>0
|o::os=>if check d o≠0 then check d o else checks d os
end
theorem check_eq (d:Nat)(o:Ob):check d o=if why d o≠0 then why d o else checks (d+1) o.kids:=by cases o;rw[check];rfl
 mutual
def size:Ob→Nat
|.mk _ _ _ s keys kids=>1+s.length / 50+(keys.map fun k=>k.length / 50).sum+sizes kids
def sizes:List Ob→Nat
|[]=>0
|o::os=>size o+sizes os
end
theorem size_eq (o:Ob):size o=1+o.s.length / 50+(o.keys.map fun k=>k.length / 50).sum+sizes o.kids:=by cases o;rw[size];rfl
theorem tot50 (l:List (List UInt8)):(l.map fun k=>k.length / 50).sum≤Pl.tot l:=by
 induction l with
|nil=>simp
|cons a l ih=>simp only[Pl.tot,List.map_cons,List.sum_cons] at ih ⊢;omega
 mutual
theorem size_wt:∀o:Ob,size o≤o.wt
|.mk k n g s keys kids=>by
  have:=sizes_wt kids;have:=tot50 keys;rw[size,Ob.wt];omega
theorem sizes_wt:∀os:List Ob,sizes os≤Ob.wts os
|[]=>by rw[sizes,Ob.wts];omega
|o::os=>by
  have:=size_wt o;have:=sizes_wt os;rw[sizes,Ob.wts];omega
end
end Vl
end
section
open Go
namespace Vl
theorem less_lt (a b:List UInt8):less a b=true↔a < b:=by rw[less,bytesLess_eq,decide_eq_true_eq]
theorem less_trans {a b c:List UInt8}(h:less a b=true)(k:less b c=true):less a c=true:=by
 rw[less_lt] at *;exact List.lt_trans h k
theorem less_irrefl (a:List UInt8):less a a=false:=by
 cases h:less a a with
|false=>rfl
|true=>rw[less_lt] at h;exact absurd h (List.lt_irrefl _)
def Rise (l:List (List UInt8)):Prop:=l.Pairwise fun a b=>less a b=true
def place (l:List (List UInt8))(x:List UInt8):Nat:=(l.takeWhile fun k=>less k x).length
def hit (l:List (List UInt8))(x:List UInt8):Bool:=decide (l[place l x]?=some x)
theorem takeWhile_at {α:Type}{p:α→Bool}:∀(l:List α) (i:Nat),i≤l.length→(∀m (h:m < l.length),m < i→p l[m]=true)→(∀h:i < l.length,p l[i]=false)→(l.takeWhile p).length=i
|[],i,hi,_,_=>by simp at hi;simp[hi]
|a::l,0,_,_,h=>by
  have:=h (by simp);rw[List.getElem_cons_zero] at this;simp[List.takeWhile_cons,this]
|a::l,i+1,hi,h1,h2=>by
  have h0:=h1 0 (by simp) (by omega);rw[List.getElem_cons_zero] at h0;rw[List.takeWhile_cons,h0];simp only[if_true,List.length_cons];rw[takeWhile_at l i (by simpa using hi) (fun m hm hmi=>by
   have:=h1 (m+1) (by simpa using hm) (by omega)
   rwa [List.getElem_cons_succ] at this) (fun h=>by
   have:=h2 (by simpa using h)
   rwa [List.getElem_cons_succ] at this)]
theorem place_le (l:List (List UInt8))(x:List UInt8):place l x≤l.length:=(List.takeWhile_prefix _).length_le
theorem place_at {l:List (List UInt8)}{x:List UInt8}{i:Nat}(hi:i≤l.length)(h1:∀m (h:m < l.length),m < i→less l[m] x=true)(h2:∀h:i < l.length,less l[i] x=false):place l x=i:=takeWhile_at l i hi h1 h2
theorem rise_get {l:List (List UInt8)}(h:Rise l){i j:Nat}(hij:i < j)(hj:j < l.length):less (l[i]'(by omega)) l[j]=true:=List.pairwise_iff_getElem.1 h i j (by omega) hj hij
def ob0:Ob:=.mk 0 0 0 [] [] []
def keyed (o:Ob):Bool:=decide (o.k=7)||decide (o.k=9)
def get (o:Ob)(key:List UInt8):Option Ob:=if keyed o then (if o.keys.idxOf key < o.keys.length then o.kids[o.keys.idxOf key]? else none) else none
def put (o:Ob)(key:List UInt8)(v:Ob):Ob:=
 .mk o.k o.n o.g o.s (o.keys.take (place o.keys key)++key::o.keys.drop (place o.keys key+if hit o.keys key then 1 else 0)) (o.kids.take (place o.keys key)++v::o.kids.drop (place o.keys key+if hit o.keys key then 1 else 0))
def dropK (key:List UInt8):List (List UInt8)→List Ob→List (List UInt8)×List Ob
|k::ks,c::cs=>if k=key then dropK key ks cs else (k::(dropK key ks cs).1,c::(dropK key ks cs).2)
|_,_=>([],[])
def without (o:Ob)(key:List UInt8):Ob:=.mk o.k o.n o.g o.s (dropK key o.keys o.kids).1 (dropK key o.keys o.kids).2
def right (o:Ob):Ob×Int:=if check 1 o≠0 then (ob0,check 1 o) else (o,0)
def set (o:Ob)(key:List UInt8)(v:Ob):Ob×Int:=
 if keyed o=false then (ob0,10) else if check 1 o≠0 then (ob0,check 1 o) else if v.k=0 then (without o key,0) else right (put o key v)
theorem valid_keys {d:Nat}{o:Ob}(h:check d o=0)(hk:keyed o=true):Rise o.keys∧o.keys.length=o.kids.length:=by
 rw[check_eq] at h;split at h
 ·rename_i hw;exact absurd h hw
 ·rename_i hw
  have hw:=Classical.not_not.1 hw;unfold why at hw;split at hw
  ·cases hw
  split at hw
  ·cases hw
  split at hw
  ·cases hw
  split at hw
  ·cases hw
  split at hw
  ·cases hw
  split at hw
  ·cases hw
  rename_i hf
  have hf:form o=true:=by simpa using hf
  have h79:o.k=7∨o.k=9:=by
   unfold keyed at hk;simpa using hk
  have hr:rising o=true:=by
   unfold form at hf;simp only[Bool.and_eq_true] at hf;have:=hf.2;rw[decide_eq_true h79] at this;simpa using this
  unfold rising at hr;simp only[Bool.and_eq_true,decide_eq_true_eq] at hr;refine⟨?_,hr.1⟩;have step:∀i,i+1 < o.keys.length→less (o.keys.getD i []) (o.keys.getD (i+1) [])=true:=by
   intro i hi;have:=List.all_eq_true.1 hr.2 (i+1) (List.mem_range.2 hi);unfold keyAt at this;simp only[Bool.and_eq_true,Bool.or_eq_true] at this;have:=this.1.1.2;rcases this with h0|h0
   ·have:=of_decide_eq_true h0;omega
   ·simpa using h0
  have gd:∀i (h:i < o.keys.length),o.keys.getD i []=o.keys[i]:=fun i h=>by rw[List.getD_eq_getElem?_getD,List.getElem?_eq_getElem h];rfl
  refine List.pairwise_iff_getElem.2 fun i j hi hj hij=>?_;have:∀d,∀j (hj:j < o.keys.length),j=i+1+d→less o.keys[i] o.keys[j]=true:=by
   intro d
   induction d with
  |zero=>
    intro j hj he;have:=step i (by omega);rw[gd i hi,gd (i+1) (by omega)] at this;subst he;exact this
  |succ d ih=>
    intro j hj he;have h1:=ih (i+1+d) (by omega) rfl;have h2:=step (i+1+d) (by omega);rw[gd _ (by omega),gd _ (by omega)] at h2;subst he;exact less_trans h1 h2
  exact this (j - (i+1)) j hj (by omega)
theorem dropK_none {key:List UInt8}:∀{ks:List (List UInt8)} {cs:List Ob},ks.length=cs.length→key ∉ ks→dropK key ks cs=(ks,cs)
|[],[],_,_=>rfl
|k::ks,c::cs,hl,hn=>by
  rw[dropK,if_neg (fun e=>hn (by simp[e])),dropK_none (by simpa using hl) (fun h=>hn (by simp[h]))]
|[],_::_,hl,_=>by simp at hl
|_::_,[],hl,_=>by simp at hl
theorem dropK_at {key:List UInt8}:∀{ks:List (List UInt8)} {cs:List Ob} {i:Nat},ks.length=cs.length→ks[i]?=some key→(∀m (h:m < ks.length),m≠i→ks[m]≠key)→dropK key ks cs=(ks.take i++ks.drop (i+1),cs.take i++cs.drop (i+1))
|[],[],_,_,h,_=>by simp at h
|k::ks,c::cs,0,hl,h,hn=>by
  simp only[List.getElem?_cons_zero,Option.some.injEq] at h;rw[dropK,if_pos h,dropK_none (by simpa using hl)]
  ·simp
  ·intro hm;obtain⟨m,hml,rfl⟩:=List.getElem_of_mem hm;exact hn (m+1) (by simpa using hml) (by omega) (by simp)
|k::ks,c::cs,i+1,hl,h,hn=>by
  have h0:=hn 0 (by simp) (by omega);rw[List.getElem_cons_zero] at h0;rw[dropK,if_neg h0,dropK_at (i:=i) (by simpa using hl) (by simpa using h) (fun m hm hmi=>by
   have:=hn (m+1) (by simpa using hm) (by omega)
   rwa [List.getElem_cons_succ] at this)]
  simp
|[],_::_,_,hl,_,_=>by simp at hl
|_::_,[],_,hl,_,_=>by simp at hl
theorem rise_ne {l:List (List UInt8)}(h:Rise l){i j:Nat}(hi:i < l.length)(hj:j < l.length)(hij:i≠j):l[i]≠l[j]:=by
 intro e;rcases Nat.lt_or_ge i j with h1|h1
 ·have:=rise_get h h1 hj;rw[e,less_irrefl] at this;cases this
 ·have:=rise_get h (show j < i by omega) hi;rw[e,less_irrefl] at this;cases this
theorem not_hit {l:List (List UInt8)}(h:Rise l){x:List UInt8}(hh:hit l x=false):x ∉ l:=by
 intro hm;obtain⟨m,hml,rfl⟩:=List.getElem_of_mem hm;have hp:place l l[m]=m:=place_at (by omega) (fun j hj hjm=>rise_get h hjm hml) (fun _=>less_irrefl _);unfold hit at hh;rw[hp,List.getElem?_eq_getElem hml] at hh;simp at hh
theorem dropK_rise {o:Ob}{d:Nat}(h:check d o=0)(hk:keyed o=true)(key:List UInt8):without o key=if hit o.keys key then .mk o.k o.n o.g o.s (o.keys.take (place o.keys key)++o.keys.drop (place o.keys key+1)) (o.kids.take (place o.keys key)++o.kids.drop (place o.keys key+1)) else o:=by
 obtain⟨hr,hl⟩:=valid_keys h hk;cases hh:hit o.keys key with
|true=>
  have hi:o.keys[place o.keys key]?=some key:=of_decide_eq_true hh;have hlt:place o.keys key < o.keys.length:=(List.getElem?_eq_some_iff.1 hi).1;have hg:o.keys[place o.keys key]=key:=(List.getElem?_eq_some_iff.1 hi).2;unfold without;rw[dropK_at hl hi (fun m hm hne=>by rw[←hg];exact rise_ne hr hm hlt hne)];rfl
|false=>
  unfold without;rw[dropK_none hl (not_hit hr hh)];cases o;rfl
end Vl
end
section
open Eng
def S_slices_Index_string_string_0(t0 t1 t7 t8 w)(N1:JT)(K:KT):=
 dx (mBin .lss 3 t8 t7) w K fun t9 w=>IfX t9 (dx (mIA 22 t0 t8) w K fun t14 w=>dx (mLoad 9 t14) w K fun t15 w=>dx (mEq .eql 9 (.tmp 11) (.tmp 15) t1 t15) w K fun t16 w=>IfX t16 (K (.returned t8) w) (dx (mBin .add 3 t8 (iN 1)) w K fun t18 w=>N1 [t18] w)) (K (.returned (iN (-1))) w)
def S_slices_Index_string_string(t0 t1 w)(K:KT):=
 dx (mB .len #[22] 3 #[false] #[t0]) w K fun t7 w=>LoopX [(iN 0)] w (fun vs1 w N1=>∀_:Sg,S_slices_Index_string_string_0 t0 t1 t7 (vs1.getD 0 undef) w N1 K)
theorem S_slices_Index_string_string_eq (t0 t1:Value)(w:World)(K:Ending→World→Prop):wpX prog 19 [] [(2,[8])] none (bodyOf Tryz.f207) (topQ prog [.tmp 4] K) (startX [t0,t1]) [] w=S_slices_Index_string_string t0 t1 w K:=by kernel_rfl
theorem S_slices_Index_string_string_ok {t0 t1:Value}{w:World}{K:Ending→World→Prop}(h:S_slices_Index_string_string t0 t1 w K):Calls prog 207 #[t0,t1] w K:=
 calls_of_wpX Tryz.func207 rfl rfl rfl rfl (Eq.mpr (S_slices_Index_string_string_eq t0 t1 w K) h)
end
section
open Eng Go.RowKit
theorem nStrI:notAgg prog 9=true:=by kernel_rfl
theorem idx_at {l:List (List UInt8)}{x:List UInt8}{i:Nat}(h:i < l.length)(hn:x ∉ l.take i)(he:l[i]=x):l.idxOf x=i:=by
 have e:l=l.take i++(l[i]::l.drop (i+1)):=by
  rw[←List.drop_eq_getElem_cons h,List.take_append_drop]
 rw[e,List.idxOf_append,if_neg hn,he,List.idxOf_cons_self,List.length_take];omega
theorem sindex_ret (va:Value)(l:List (List UInt8))(x:List UInt8)(w:World)(ha:Sl w va 1 l.length (strsV l))(hl:l.length≤1099511627776) :
  Ret prog 207 #[va,.string ⟨x.toArray⟩] w (fun v w'=>v=.int .i64 (if l.idxOf x < l.length then (l.idxOf x:Int) else -1)∧w=w'):=by
 refine ret_of fun K hK=>S_slices_Index_string_string_ok ?_;unfold S_slices_Index_string_string iN dx;rw[sl_len Tryz.underlying22 ha];refine loop (fun vs w'=>∃(i:Nat),vs=[.int .i64 i]∧i≤l.length∧x ∉ l.take i∧w=w') (fun vs _=>l.length - n0 vs) ⟨0,rfl,by omega,by simp,rfl⟩ ?_;rintro vs w2 ⟨i,rfl,hi,hm,rfl⟩ _;simp only[S_slices_Index_string_string_0,gd,rs,iN,dx];by_cases hlt:(i:Int) < (l.length:Int)
 ·have hi':i < l.length:=by omega
  simp only[hlt,decide_true,rs];refine sl_ia1 (.string ⟨(l[i]).toArray⟩) Tryz.underlying22 (by kernel_rfl) ha (by omega) (by rw[Int.toNat_natCast];exact strsV_get hi') fun q hq=>?_;rw[l_cell nStrI hq];simp only[rs];by_cases he:x=l[i]
  ·simp only[←he,decide_true,rs];have:=idx_at hi' hm he.symm;exact hK _ _ ⟨by rw[this,if_pos hi'],rfl⟩
  ·simp only[he,decide_false,rs];rw[wrap64_id (by omega) (by omega)];refine nextX ⟨i+1,rfl,by omega,?_,rfl⟩ (by simp[n0,RowKit.intOf];omega);rw[List.take_add_one,List.getElem?_eq_getElem hi'];simp only[Option.toList,List.mem_append,List.mem_singleton,not_or];exact⟨hm,he⟩
 ·simp only[hlt,decide_false,i_f];rw[List.take_of_length_le (by omega)] at hm;exact hK _ _ ⟨by rw[if_neg (by rw[List.idxOf_lt_length_iff];exact hm)],rfl⟩
end
section
open Eng Go.RowKit
def obC (o:Ob)(vk vc:Value):List Value:=[.int .i64 o.k,.int .i64 o.n,.int .i64 o.g,.string ⟨o.s.toArray⟩,vk,vc]
def obV (o:Ob)(vk vc:Value):Value:=.agg (obC o vk vc).toArray
def obE (b:Nat)(o:Ob)(vk vc:Value):Ent:=.cells b (obC o vk vc) 25
structure ObAt (A:Nat→Prop) (w:World) (o:Ob) (vk vc:Value) (cs:List Value):Prop where
 keys:SlA A w vk 1 o.keys.length (strsV o.keys)
 kids:SlA A w vc 6 o.kids.length cs
 all:OVs A w cs o.kids
theorem OV.open {A:Nat→Prop}{w:World}{v:Value}{o:Ob}(h:OV A w v o):∃vk vc cs,v=obV o vk vc∧ObAt A w o vk vc cs:=by
 cases o with
|mk k n g s keys kids=>
  rw[OV] at h;obtain⟨vk,vc,cs,rfl,h1,h2,h3⟩:=h;exact⟨vk,vc,cs,rfl,h1,h2,h3⟩
theorem ObAt.ov {A:Nat→Prop}{w:World}{o:Ob}{vk vc:Value}{cs:List Value}(h:ObAt A w o vk vc cs):OV A w (obV o vk vc) o:=by
 cases o with
|mk k n g s keys kids=>
  rw[OV];exact⟨vk,vc,cs,rfl,h.keys,h.kids,h.all⟩
theorem ObAt.kept {A:Nat→Prop}{w w':World}{o:Ob}{vk vc:Value}{cs:List Value}(h:ObAt A w o vk vc cs)(hk:Kept A w w'):ObAt A w' o vk vc cs:=
 ⟨h.keys.kept hk,h.kids.kept hk,OVs.kept hk _ _ h.all⟩
theorem kept_below {A:Nat→Prop}{w w':World}(hA:∀b,A b→b < w.heap.size)(h:Below w.heap.size w w'):Kept A w w':=fun b hb=>h.block b (hA b hb)
theorem OwnS.keptIn {w0 w:World}{L:List Ent}(h:Own w0 w L):Kept (InW w0) w0 w:=kept_below (fun _ h=>h) h.done
theorem ObAt.own {w0 w:World}{L:List Ent}{o:Ob}{vk vc:Value}{cs:List Value}(h:ObAt (InW w0) w0 o vk vc cs)(ho:Own w0 w L):ObAt (InW w0) w o vk vc cs:=h.kept (OwnS.keptIn ho)
theorem SlA.one {A:Nat→Prop}{w:World}{v:Value}{sz n:Nat}{cs:List Value}(h:SlA A w v sz n cs):v.oneCell'=true:=by
 obtain⟨⟨_,a,cap,rfl,_⟩,_⟩:=h;rfl
theorem aggOb:aggN prog 25=some 6:=by kernel_rfl
theorem szOb:(Tryz.prog.info? 25).map (·.size)=some 6:=by kernel_rfl
theorem nSlOb:notAgg prog 23=true:=by kernel_rfl
theorem nSlS5:notAgg prog 22=true:=by kernel_rfl
theorem nI65:notAgg prog 2=true:=by kernel_rfl
theorem nInt5:notAgg prog 3=true:=by kernel_rfl
theorem nStr5:notAgg prog 9=true:=by kernel_rfl
theorem fo_o0:fOff prog 25 0=some 0:=by kernel_rfl
theorem fo_o1:fOff prog 25 1=some 1:=by kernel_rfl
theorem fo_o2:fOff prog 25 2=some 2:=by kernel_rfl
theorem fo_o3:fOff prog 25 3=some 3:=by kernel_rfl
theorem fo_o4:fOff prog 25 4=some 4:=by kernel_rfl
theorem fo_o5:fOff prog 25 5=some 5:=by kernel_rfl
section
variable {w:World}{PK:PKT}{K:VWP}{S:Nat→Prop}{w0:World}{L:List Ent}
theorem fa_o0 {b off:Nat}:DoX prog (mFA 25 (.pointer (some ⟨b,off,none⟩)) 0) w PK K=K (.pointer (some ⟨b,off,none⟩)) w:=f_addr fo_o0
theorem fa_o1 {b off:Nat}:DoX prog (mFA 25 (.pointer (some ⟨b,off,none⟩)) 1) w PK K=K (.pointer (some ⟨b,off+1,none⟩)) w:=f_addr fo_o1
theorem fa_o2 {b off:Nat}:DoX prog (mFA 25 (.pointer (some ⟨b,off,none⟩)) 2) w PK K=K (.pointer (some ⟨b,off+2,none⟩)) w:=f_addr fo_o2
theorem fa_o3 {b off:Nat}:DoX prog (mFA 25 (.pointer (some ⟨b,off,none⟩)) 3) w PK K=K (.pointer (some ⟨b,off+3,none⟩)) w:=f_addr fo_o3
theorem fa_o4 {b off:Nat}:DoX prog (mFA 25 (.pointer (some ⟨b,off,none⟩)) 4) w PK K=K (.pointer (some ⟨b,off+4,none⟩)) w:=f_addr fo_o4
theorem fa_o5 {b off:Nat}:DoX prog (mFA 25 (.pointer (some ⟨b,off,none⟩)) 5) w PK K=K (.pointer (some ⟨b,off+5,none⟩)) w:=f_addr fo_o5
theorem o_obb (o:Ob){vk vc:Value}(hk:vk.oneCell'=true)(hc:vc.oneCell'=true)(ho:OwnS S w0 w L)(k:∀b w',OwnS S w0 w' (obE b o vk vc::L)→K (.pointer (some ⟨b,0,none⟩)) w'):DoX prog (mBox 25 (obV o vk vc)) w PK K:=by
 cases vk<;>first|(cases hk;done)|skip
 all_goals cases vc<;>first|(cases hc;done)|exact o_new (fun b=>.pointer (some ⟨b,0,none⟩)) (obC o _ _) 25 (fun _=>by kernel_rfl) ho k
def ob0:Ob:=.mk 0 0 0 [] [] []
theorem o_oba (ho:OwnS S w0 w L)(k:∀b w',OwnS S w0 w' (obE b ob0 (.slice none 0 0) (.slice none 0 0)::L)→K (.pointer (some ⟨b,0,none⟩)) w'):DoX prog (mAlloc 25) w PK K:=
 o_new (fun b=>.pointer (some ⟨b,0,none⟩)) (obC ob0 (.slice none 0 0) (.slice none 0 0)) 25 (fun _=>by kernel_rfl) ho k
theorem obC_one (o:Ob){vk vc:Value}(hk:vk.oneCell'=true)(hc:vc.oneCell'=true):∀v∈obC o vk vc,v.oneCell'=true:=by
 intro v hv;simp only[obC,List.mem_cons,List.not_mem_nil,or_false] at hv;rcases hv with rfl|rfl|rfl|rfl|rfl|rfl<;>first|rfl|assumption
theorem ob_put (i:Nat){b:Nat}{o o':Ob}{vk vc vk' vc':Value}(hk:vk'.oneCell'=true)(hc:vc'.oneCell'=true)(ho:OwnS S w0 w L)(hi:L[i]?=some (obE b o vk vc))(k:∀w',OwnS S w0 w' (L.set i (obE b o' vk' vc'))→K undef w') :
  DoX prog (mStore 25 (.pointer (some ⟨b,0,none⟩)) (obV o' vk' vc')) w PK K:=o_put i ho hi (new:=obC o' vk' vc') szOb (obC_one o' hk hc) rfl k
theorem ob_k (ho:OwnS S w0 w L)(i:Nat){b:Nat}{o:Ob}{vk vc:Value}(hi:L[i]?=some (obE b o vk vc)):DoX prog (mLoad 3 (.pointer (some ⟨b,0,none⟩))) w PK K=K (.int .i64 o.k) w:=l_cell nInt5 (ho.cell i hi 0 rfl)
theorem ob_n (ho:OwnS S w0 w L)(i:Nat){b:Nat}{o:Ob}{vk vc:Value}(hi:L[i]?=some (obE b o vk vc)):DoX prog (mLoad 2 (.pointer (some ⟨b,0+1,none⟩))) w PK K=K (.int .i64 o.n) w:=l_cell nI65 (ho.cell i hi 1 rfl)
theorem ob_g (ho:OwnS S w0 w L)(i:Nat){b:Nat}{o:Ob}{vk vc:Value}(hi:L[i]?=some (obE b o vk vc)):DoX prog (mLoad 3 (.pointer (some ⟨b,0+2,none⟩))) w PK K=K (.int .i64 o.g) w:=l_cell nInt5 (ho.cell i hi 2 rfl)
theorem ob_s (ho:OwnS S w0 w L)(i:Nat){b:Nat}{o:Ob}{vk vc:Value}(hi:L[i]?=some (obE b o vk vc)):DoX prog (mLoad 9 (.pointer (some ⟨b,0+3,none⟩))) w PK K=K (.string ⟨o.s.toArray⟩) w:=l_cell nStr5 (ho.cell i hi 3 rfl)
theorem ob_keys (ho:OwnS S w0 w L)(i:Nat){b:Nat}{o:Ob}{vk vc:Value}(hi:L[i]?=some (obE b o vk vc)):DoX prog (mLoad 22 (.pointer (some ⟨b,0+4,none⟩))) w PK K=K vk w:=l_cell nSlS5 (ho.cell i hi 4 rfl)
theorem ob_kids (ho:OwnS S w0 w L)(i:Nat){b:Nat}{o:Ob}{vk vc:Value}(hi:L[i]?=some (obE b o vk vc)):DoX prog (mLoad 23 (.pointer (some ⟨b,0+5,none⟩))) w PK K=K vc w:=l_cell nSlOb (ho.cell i hi 5 rfl)
theorem ob_v (ho:OwnS S w0 w L)(i:Nat){b:Nat}{o:Ob}{vk vc:Value}(hi:L[i]?=some (obE b o vk vc)):DoX prog (mLoad 25 (.pointer (some ⟨b,0,none⟩))) w PK K=K (obV o vk vc) w:=l_at (ho.agg i hi aggOb)
theorem ob_ia {A:Nat→Prop}{vc:Value}{os:List Ob}{cs:List Value}{K:VWP}{PK2:PKT}(hs:Sl w vc 6 os.length cs)(hall:OVs A w cs os){i:Nat}(hi:i < os.length)
  (k:∀v,OV A w v os[i]→K v w):DoX prog (mIA 23 vc (.int .i64 (i:Int))) w PK fun t w=>DoX prog (mLoad 25 t) w PK2 K:=by
 obtain⟨b,off,cap,rfl,hc⟩:=sl_open hs (by omega);refine do_eq (run_ia Tryz.underlying23 szOb (by omega) (by omega)) |>.mpr ?_;rw[Int.toNat_natCast];obtain⟨a,hl,hov,hget⟩:=OVs.get os cs i hi hall;refine do_eq (run_load_at (v:=.agg a.toArray) (AtV.agg aggOb hl fun j v hj=>?_)) |>.mpr (k _ hov);rw[Nat.add_assoc];exact hc _ _ (hget j v hj)
end
end
section
open Eng
def S_foliantref05_Size_1(t3 t27 t28 t29 w)(N2:JT)(K:KT):=
 dx (mBin .lss 3 t29 t28) w K fun t30 w=>IfX t30 (dx (mIA 23 t27 t29) w K fun t31 w=>dx (mLoad 25 t31) w K fun t32 w=>dx (mAlloc 25) w K fun t7 w=>dx (mStore 25 t7 t32) w K fun _ w=>dx (mLoad 25 t7) w K fun t34 w=>cx 49 #[t34] w K fun t35 w=>dx (mBin .add 3 t3 t35) w K fun t36 w=>dx (mBin .add 3 t29 (iN 1)) w K fun t37 w=>N2 [t36,t37] w) (K (.returned t3) w)
def S_foliantref05_Size_0(t1 t3 t14 t15 t16 w)(N1:JT)(K:KT):=
 dx (mBin .lss 3 t16 t15) w K fun t17 w=>IfX t17 (dx (mIA 22 t14 t16) w K fun t18 w=>dx (mLoad 9 t18) w K fun t19 w=>dx (mB .len #[9] 3 #[false] #[t19]) w K fun t22 w=>dx (mBin .quo 3 t22 (iN 50)) w K fun t23 w=>dx (mBin .add 3 t3 t23) w K fun t24 w=>dx (mBin .add 3 t16 (iN 1)) w K fun t25 w=>N1 [t24,t25] w) (dx (mFA 25 t1 5) w K fun t26 w=>dx (mLoad 23 t26) w K fun t27 w=>dx (mB .len #[23] 3 #[false] #[t27]) w K fun t28 w=>LoopX [t3,(iN 0)] w (fun vs2 w N2=>∀_:Sg,S_foliantref05_Size_1 (vs2.getD 0 undef) t27 t28 (vs2.getD 1 undef) w N2 K))
def S_foliantref05_Size(t0 w)(K:KT):=
 dx (mBox 25 t0) w K fun t1 w=>dx (mFA 25 t1 3) w K fun t8 w=>dx (mLoad 9 t8) w K fun t9 w=>dx (mB .len #[9] 3 #[false] #[t9]) w K fun t10 w=>dx (mBin .quo 3 t10 (iN 50)) w K fun t11 w=>dx (mBin .add 3 (iN 1) t11) w K fun t12 w=>dx (mFA 25 t1 4) w K fun t13 w=>dx (mLoad 22 t13) w K fun t14 w=>dx (mB .len #[22] 3 #[false] #[t14]) w K fun t15 w=>LoopX [t12,(iN 0)] w (fun vs1 w N1=>∀_:Sg,S_foliantref05_Size_0 t1 (vs1.getD 0 undef) t14 t15 (vs1.getD 1 undef) w N1 K)
theorem S_foliantref05_Size_eq (t0:Value)(w:World)(K:Ending→World→Prop):wpX prog 39 [] [(3,[3,16]),(8,[3,29])] none (bodyOf Tryz.f49) (topQ prog [.tmp 2] K) (startX [t0]) [] w=S_foliantref05_Size t0 w K:=by kernel_rfl
theorem S_foliantref05_Size_ok {t0:Value}{w:World}{K:Ending→World→Prop}(h:S_foliantref05_Size t0 w K):Calls prog 49 #[t0] w K:=
 calls_of_wpX Tryz.func49 rfl rfl rfl rfl (Eq.mpr (S_foliantref05_Size_eq t0 w K) h)
def S_foliantref05_Array(t0 w)(K:KT):=
 dx (mAlloc 25) w K fun t2 w=>dx (mBuild 25 #[(0,(iN 6)),(5,t0)]) w K fun t4 w=>dx (mStore 25 t2 t4) w K fun _ w=>RetX prog [.cell t2 25] w K
theorem S_foliantref05_Array_ok{t0 w K}(h:S_foliantref05_Array t0 w K):Calls prog 50 #[t0] w K:=cw Tryz.func50 rfl rfl (by kernel_rfl) h
def S_foliantref05_Key(t0 w)(K:KT):=
 dx (mAlloc 25) w K fun t2 w=>dx (mBuild 25 #[(0,(iN 5)),(3,t0)]) w K fun t4 w=>dx (mStore 25 t2 t4) w K fun _ w=>RetX prog [.cell t2 25] w K
theorem S_foliantref05_Key_ok{t0 w K}(h:S_foliantref05_Key t0 w K):Calls prog 51 #[t0] w K:=cw Tryz.func51 rfl rfl (by kernel_rfl) h
end
end Go.Proofs.YtlipjfcbjemicaaGreatDoor





namespace Go.Proofs.YtlipjfcbjemicaaGreatDoor
section
open Eng Go.RowKit
theorem c_told {P:Program}{f:Nat}{args:Array Value}{w0 w:World}{L:List Ent}{PK:PKT}{K:VWP}{x y:Value}(h:Ret P f args w (fun v w'=>v=x∧Below w.heap.size w w'))(hx:x=y)(ho:Own w0 w L)
  (k:∀w',Own w0 w' L→K y w'):CallX P f args w PK K:=by
 refine c_ret h ?_;rintro v w' ⟨rfl,hb⟩;rw[hx];exact k _ (ho.grow hb)
end
section
namespace Eng
open Go.RowKit
def sel (c:Bool)(x:Value):Value:=bc c x undef
theorem sel_t {x:Value}:sel true x=x:=rfl
theorem sel_f {x:Value}:sel false x=undef:=rfl
section
variable {P:Program}{w:World}{PK:PKT}{K:VWP}
theorem g_move {v x:Value}{want:Bool}:GDo v want (fun E=>E x w) w K=K (sel (wants v want) x) w:=by
 refine propext ⟨fun h=>?_,fun h=>⟨?_⟩⟩
 ·have:=h.out;cases hw:wants v want<;>rw[hw] at this<;>exact this
 ·cases hw:wants v want<;>rw[hw] at h<;>exact h
theorem g_congr {v v':Value}{want c:Bool}{E E':(VWP)→Prop}(hv:v=v')(hc:wants v' want=c)(h:c=true→∀K0,E K0=E' K0):GDo v want E w K=GDo v' want E' w K:=by
 subst hv;refine propext ⟨fun x=>⟨?_⟩,fun x=>⟨?_⟩⟩
 ·have:=x.out;subst hc;cases hw:wants v want with
 |false=>rw[hw] at this;exact this
 |true=>rw[hw,bc_true] at this;rw[bc_true,←h hw];exact this
 ·have:=x.out;subst hc;cases hw:wants v want with
 |false=>rw[hw] at this;exact this
 |true=>rw[hw,bc_true] at this;rw[bc_true,h hw];exact this
theorem wants_t {b:Bool}:wants (.bool b) true=b:=by cases b<;>rfl
theorem wants_f {b:Bool}:wants (.bool b) false=!b:=by cases b<;>rfl
theorem wants_st {c y:Bool}:wants (sel c (.bool y)) true=(c&&y):=by cases c<;>cases y<;>rfl
theorem wants_sf {c y:Bool}:wants (sel c (.bool y)) false=(c&&!y):=by cases c<;>cases y<;>rfl
theorem b_tand {b:Bool}:(true&&b)=b:=rfl
theorem b_andt {b:Bool}:(b&&true)=b:=by cases b<;>rfl
theorem pick_and {b y:Bool}:DoX P (mPick (.bool b) (sel b (.bool y)) (.bool false)) w PK K=K (.bool (b&&y)) w:=by
 rw[p_pick];cases b<;>rfl
theorem pick_or {b y:Bool}:DoX P (mPick (.bool b) (.bool true) (sel (!b) (.bool y))) w PK K=K (.bool (b||y)) w:=by
 rw[p_pick];cases b<;>rfl
end
def gs:=And.intro @g_move (And.intro @wants_t (And.intro @wants_f (And.intro @pick_and (And.intro @pick_or (And.intro @sel_t (And.intro @sel_f (And.intro @wants_st (And.intro @wants_sf (And.intro @b_tand @b_andt)))))))))
end Eng
end
section
open Eng Go.RowKit
 attribute [local congr] g_congr
theorem e_nil {T:TypeId}{xo yo:Operand}{s:List UInt8}{w:World}{PK:PKT}{K:VWP}:DoX prog (mEq .eql T xo yo (.string ⟨s.toArray⟩) (.string ⟨#[]⟩)) w PK K=K (.bool (decide (s=[]))) w:=e_str (b:=[])
theorem ilen0 {α:Type}(l:List α):decide (((l.length:Nat):Int)=0)=decide (l=[]):=by cases l<;>simp;omega
theorem ilenN {α:Type}(l:List α):decide (((l.length:Nat):Int)=0)=decide (l.length=0):=by rw[decide_eq_decide];omega
end
section
namespace Eng
open Go.RowKit
theorem sel_sel {c:Bool}{x:Value}:sel c (sel c x)=sel c x:=by cases c<;>rfl
theorem g_off {v:Value}{want:Bool}{E:(VWP)→Prop}{w:World}{K:VWP}(h:wants v want=false):GDo v want E w K=K undef w:=by
 refine propext ⟨fun x=>?_,fun x=>⟨?_⟩⟩
 ·have:=x.out;rw[h] at this;exact this
 ·rw[h];exact x
theorem pick_orn {P:Program}{b y:Bool}{w:World}{PK:PKT}{K:VWP}:DoX P (mPick (.bool (!b)) (.bool true) (sel b (.bool y))) w PK K=K (.bool (!b||y)) w:=by
 rw[p_pick];cases b<;>rfl
end Eng
end
section
open Eng Go.RowKit
 attribute [local congr] g_congr
theorem ObAt.in_ {w0 w:World}{L:List Ent}{o:Ob}{vk vc:Value}{cs:List Value}(h:ObAt (InW w0) w0 o vk vc cs)(ho:Own w0 w L):ObAt (InW w) w o vk vc cs:=by
 have hk:=h.own ho;exact⟨⟨hk.keys.1,(fun p l c e hn=>Nat.lt_of_lt_of_le (hk.keys.2.1 p l c e hn) ho.size),hk.keys.2.2⟩,⟨hk.kids.1,(fun p l c e hn=>Nat.lt_of_lt_of_le (hk.kids.2.1 p l c e hn) ho.size),hk.kids.2.2⟩,OVs.mono (fun _ hb=>Nat.lt_of_lt_of_le hb ho.size) _ _ hk.all⟩
theorem range_all_succ {p:Nat→Bool}(n:Nat):(List.range (n+1)).all p=((List.range n).all p&&p n):=by
 rw[List.range_succ,List.all_append];simp
theorem range_all_not {p:Nat→Bool}{n m:Nat}(hp:p n=false)(hn:n < m):(List.range m).all p=false:=by
 rw[←Bool.not_eq_true];intro h;have:=List.all_eq_true.1 h n (List.mem_range.2 hn);rw[hp] at this;cases this
theorem run_kid_k {A:Nat→Prop}{w:World}{vc:Value}{os:List Ob}{cs:List Value}(hs:Sl w vc 6 os.length cs)(hall:OVs A w cs os){i:Nat}(hi:i < os.length) :
  ∃b off,(∀{PK:PKT} {K:VWP},DoX prog (mIA 23 vc (.int .i64 (i:Int))) w PK K=K (.pointer (some ⟨b,off,none⟩)) w)∧w.cell? ⟨b,off,none⟩=some (.int .i64 os[i].k):=by
 obtain⟨b,off,cap,rfl,hc⟩:=sl_open hs (by omega);obtain⟨a,hl,hov,hget⟩:=OVs.get os cs i hi hall;refine⟨b,off+i*6,?_,?_⟩
 ·intro PK K;have:=run_ia (P:=prog) (T:=23) (b:=b) (off:=off) (cap:=cap) (n:=os.length) (k:=.i64) (i:=(i:Int)) (w:=w) Tryz.underlying23 szOb (by omega) (by omega);rw[Int.toNat_natCast] at this;exact do_eq this
 ·obtain⟨vk,vc',cs',hv,_⟩:=hov.open;have e:a=obC os[i] vk vc':=by
   injection hv with hv
   have:=congrArg Array.toList hv;simpa using this
  have:=hc (i*6+0) _ (hget 0 (.int .i64 os[i].k) (by rw[e];rfl));simpa using this
end
section
open Eng Go.RowKit
 attribute [local congr] g_congr
theorem OwnS.kept2 {w0 w2 w4:World}{L2 L4:List Ent}(h2:Own w0 w2 L2)(h4:Own w0 w4 L4):Kept (InW w0) w2 w4:=fun b hb=>(h4.done.block b hb).trans (h2.done.block b hb).symm
theorem ObAt.later {w0 w2 w4:World}{L2 L4:List Ent}{o:Ob}{vk vc:Value}{cs:List Value}(h:ObAt (InW w0) w2 o vk vc cs)(h2:Own w0 w2 L2)(h4:Own w0 w4 L4):ObAt (InW w4) w4 o vk vc cs:=by
 have hk:=h.kept (OwnS.kept2 h2 h4);exact⟨⟨hk.keys.1,(fun p l c e hn=>Nat.lt_of_lt_of_le (hk.keys.2.1 p l c e hn) h4.size),hk.keys.2.2⟩,⟨hk.kids.1,(fun p l c e hn=>Nat.lt_of_lt_of_le (hk.kids.2.1 p l c e hn) h4.size),hk.kids.2.2⟩,OVs.mono (fun _ hb=>Nat.lt_of_lt_of_le hb h4.size) _ _ hk.all⟩
theorem tot_mem:∀{l:List (List UInt8)} {k:List UInt8},k∈l→k.length≤Pl.tot l
|a::l,k,h=>by
  simp only[Pl.tot,List.map_cons,List.sum_cons];rcases List.mem_cons.1 h with rfl|h
  ·omega
  ·have:=tot_mem h;simp only[Pl.tot] at this;omega
theorem wts_mem:∀{l:List Ob} {o:Ob},o∈l→o.wt≤Ob.wts l
|a::l,o,h=>by
  rw[Ob.wts];rcases List.mem_cons.1 h with rfl|h
  ·omega
  ·have:=wts_mem h;omega
theorem Ob.wt_eq (o:Ob):o.wt=6+o.s.length+Pl.tot o.keys+Ob.wts o.kids:=by cases o;rw[Ob.wt];rfl
theorem Ob.wt_pos (o:Ob):6≤o.wt:=by rw[o.wt_eq];omega
theorem wts_len:∀l:List Ob,l.length*6≤Ob.wts l
|[]=>by simp
|a::l=>by
  have:=wts_len l;have:=a.wt_pos;rw[Ob.wts,List.length_cons];omega
theorem kid_wt {o:Ob}{i:Nat}(hi:i < o.kids.length):o.kids[i].wt < o.wt:=by
 have:=wts_mem (List.getElem_mem hi);rw[o.wt_eq];omega
theorem checks_drop (d:Nat)(l:List Ob)(i:Nat)(hi:i < l.length):Vl.checks d (l.drop i)=if Vl.check d l[i]≠0 then Vl.check d l[i] else Vl.checks d (l.drop (i+1)):=by
 rw[List.drop_eq_getElem_cons hi,Vl.checks]
theorem key_len {o:Ob}:o.keys.length≤o.wt:=by
 have h:∀l:List (List UInt8),l.length≤Pl.tot l:=by
  intro l
  induction l with
 |nil=>simp
 |cons a l ih=>simp only[Pl.tot,List.map_cons,List.sum_cons,List.length_cons] at ih ⊢;omega
 have:=h o.keys;rw[o.wt_eq];omega
theorem kids_len {o:Ob}:o.kids.length≤o.wt:=by
 have:=wts_len o.kids;rw[o.wt_eq];omega
theorem s_len05 {o:Ob}:o.s.length≤o.wt:=by rw[o.wt_eq];omega
theorem keys_mem {o:Ob}{k:List UInt8}(h:k∈o.keys):k.length≤o.wt:=by
 have:=tot_mem h;rw[o.wt_eq];omega
theorem why_pos {d:Nat}{o:Ob}(h:Vl.why d o≠0):Vl.check d o=Vl.why d o:=by rw[Vl.check_eq,if_pos h]
theorem sizes_drop (l:List Ob)(i:Nat)(hi:i < l.length):Vl.sizes (l.take (i+1))=Vl.sizes (l.take i)+Vl.size l[i]:=by
 have h:∀(l:List Ob) (o:Ob),Vl.sizes (l++[o])=Vl.sizes l+Vl.size o:=by
  intro l o
  induction l with
 |nil=>simp[Vl.sizes]
 |cons a l ih=>rw[List.cons_append,Vl.sizes,ih,Vl.sizes];omega
 rw[List.take_succ_eq_append_getElem hi,h]
theorem sizes_take (l:List Ob)(i:Nat):Vl.sizes (l.take i)≤Vl.sizes l:=by
 induction l generalizing i with
|nil=>simp
|cons a l ih=>
  cases i with
 |zero=>simp[Vl.sizes]
 |succ i=>rw[List.take_succ_cons,Vl.sizes,Vl.sizes];have:=ih i;omega
theorem rsize_ret (n:Nat):∀(o:Ob) (v:Value) (w:World),o.wt≤n→OV (InW w) w v o→o.wt≤4611686018427387904 →
  Ret prog 49 #[v] w (fun v w'=>v=.int .i64 (Vl.size o:Nat)∧Below w.heap.size w w'):=by
 induction n with
|zero=>intro o v w h;have:=o.wt_pos;omega
|succ n ih=>
 intro o v w hn hov hb;obtain⟨vk,vc,cs,rfl,ha⟩:=hov.open;refine ret_of fun K hK=>S_foliantref05_Size_ok ?_;unfold S_foliantref05_Size iN dx;refine o_obb o ha.keys.one ha.kids.one (Own.start w) fun b w1 ho=>?_;have hsl:=s_len05 (o:=o);have hkl:=key_len (o:=o);have hcl:=kids_len (o:=o);have hsz:=Vl.size_wt o;have htd:∀m:Nat,(m:Int).tdiv 50=((m / 50:Nat):Int):=fun m=>by rw[Int.tdiv_eq_ediv_of_nonneg (by omega)];omega
 have lk:∀{W:World} {L:List Ent},Own w W L→∀{PK:PKT} {K:VWP},DoX prog (mB .len #[22] 3 #[false] #[vk]) W PK K=K (.int .i64 (o.keys.length:Int)) W:=fun ho=>sl_len Tryz.underlying22 (ha.own ho).keys.1;have lc:∀{W:World} {L:List Ent},Own w W L→∀{PK:PKT} {K:VWP},DoX prog (mB .len #[23] 3 #[false] #[vc]) W PK K=K (.int .i64 (o.kids.length:Int)) W:=fun ho=>sl_len Tryz.underlying23 (ha.own ho).kids.1;rw[fa_o3,ob_s ho 0 rfl,s_len Tryz.underlying9,b_quo (by decide),htd,wrap64_id (by omega) (by omega),b_add,wrap64_id (by omega) (by omega),fa_o4,ob_keys ho 0 rfl,lk ho];have ht50:∀i,((o.keys.take i).map fun k=>k.length / 50).sum≤(o.keys.map fun k=>k.length / 50).sum:=by
  intro i
  conv=>rhs;rw[←List.take_append_drop i o.keys,List.map_append,List.sum_append]
  omega
 have hse:=Vl.size_eq o;refine loop (fun vs w'=>∃(i:Nat) (m:Int),vs=[.int .i64 m,.int .i64 i]∧i≤o.keys.length∧m=((1+o.s.length / 50+((o.keys.take i).map fun k=>k.length / 50).sum:Nat):Int)∧Own w w' [obE b o vk vc]) (fun vs _=>o.keys.length - n1 vs) ⟨0,_,rfl,by omega,by simp,ho⟩ ?_;rintro vs w2 ⟨i,m,rfl,hi,rfl,ho⟩ _;have h5i:=ht50 i;simp only[S_foliantref05_Size_0,gd,rs,iN,dx];by_cases hlt:(i:Int) < (o.keys.length:Int)
 ·have hi':i < o.keys.length:=by omega
  simp only[hlt,decide_true,i_t];refine sl_ia1 (.string ⟨(o.keys[i]).toArray⟩) Tryz.underlying22 (by kernel_rfl) (ha.own ho).keys.1 (by omega) (by rw[Int.toNat_natCast];exact strsV_get hi') fun q hq=>?_;have hkm:=keys_mem (List.getElem_mem hi');have h5s:=ht50 (i+1);have hss:((o.keys.take (i+1)).map fun k=>k.length / 50).sum=((o.keys.take i).map fun k=>k.length / 50).sum+o.keys[i].length / 50:=by
   rw[List.take_succ_eq_append_getElem hi',List.map_append,List.sum_append];simp
  rw[l_cell nStr5 hq,s_len Tryz.underlying9,b_quo (by decide),htd,wrap64_id (n:=((o.keys[i].length / 50:Nat):Int)) (by omega) (by omega)];simp only[rs];rw[wrap64_id (by omega) (by omega),wrap64_id (by omega) (by omega)];exact nextX ⟨i+1,_,rfl,by omega,by rw[hss];omega,ho⟩ (by simp[n1,RowKit.intOf];omega)
 simp only[hlt,decide_false,i_f,fa_o5,ob_kids ho 0 rfl,lc ho];have hik:i=o.keys.length:=by omega
 subst hik;rw[List.take_length];refine loop (fun vs w'=>∃(i:Nat) (m:Int),vs=[.int .i64 m,.int .i64 i]∧i≤o.kids.length∧m=((1+o.s.length / 50+(o.keys.map fun k=>k.length / 50).sum+Vl.sizes (o.kids.take i):Nat):Int)∧Own w w' [obE b o vk vc]) (fun vs _=>o.kids.length - n1 vs) ⟨0,_,rfl,by omega,by simp[Vl.sizes],ho⟩ ?_;rintro vs w3 ⟨i,m,rfl,hi2,rfl,ho⟩ _;simp only[S_foliantref05_Size_1,gd,rs,iN,dx,cx];have hst:=sizes_take o.kids i;by_cases hlt:(i:Int) < (o.kids.length:Int)
 ·have hi':i < o.kids.length:=by omega
  simp only[hlt,decide_true,i_t];have hai:=ha.own ho;refine ob_ia hai.kids.1 hai.all hi' fun v hv=>?_;obtain⟨vk',vc',cs',rfl,hkid⟩:=hv.open;have ho6:=ho;refine o_oba ho fun b7 w7 ho=>?_;refine ob_put 0 hkid.keys.one hkid.kids.one ho rfl fun w8 ho=>?_;have ho:Own w w8 [obE b7 o.kids[i] vk' vc',obE b o vk vc]:=ho;rw[ob_v ho 0 rfl];have hkw:=kid_wt hi';refine c_told (ih o.kids[i] _ w8 (by omega) (hkid.later ho6 ho).ov (by omega)) rfl ho fun w9 ho=>?_;have hsd:=sizes_drop o.kids i hi';have hst2:=sizes_take o.kids (i+1);simp only[rs];rw[wrap64_id (by omega) (by omega),wrap64_id (by omega) (by omega)];exact nextX ⟨i+1,_,rfl,by omega,by rw[hsd];omega,ho.tail⟩ (by simp[n1,RowKit.intOf];omega)
 ·simp only[hlt,decide_false,i_f];rw[List.take_of_length_le (by omega)];refine hK _ _ ⟨?_,ho.done⟩;rw[hse]
end
section
open Eng
def S_value_within_int64(t0 t1 t2 w)(K:KT):=
 dx (mBin .leq 2 t1 t0) w K fun t9 w=>etx t9 t0 w fun t11 w=>etx t9 t2 w fun t12 w=>gtx t9 (mBin .leq 2 t11 t12) w K fun t13 w=>dx (mPick t9 t13 (.bool false)) w K fun t14 w=>K (.returned t14) w
theorem S_value_within_int64_ok{t0 t1 t2 w K}(h:S_value_within_int64 t0 t1 t2 w K):Calls prog 254 #[t0,t1,t2] w K:=cw Tryz.func254 rfl rfl (by kernel_rfl) h
def S_value_within_int(t0 t1 t2 w)(K:KT):=
 dx (mBin .leq 3 t1 t0) w K fun t9 w=>etx t9 t0 w fun t11 w=>etx t9 t2 w fun t12 w=>gtx t9 (mBin .leq 3 t11 t12) w K fun t13 w=>dx (mPick t9 t13 (.bool false)) w K fun t14 w=>K (.returned t14) w
theorem S_value_within_int_ok{t0 t1 t2 w K}(h:S_value_within_int t0 t1 t2 w K):Calls prog 255 #[t0,t1,t2] w K:=cw Tryz.func255 rfl rfl (by kernel_rfl) h
def S_value_key(t0 w)(K:KT):=
 dx (mB .len #[9] 3 #[false] #[t0]) w K fun t4 w=>dx (mBin .leq 3 t4 (iN 127)) w K fun t5 w=>etx t5 t0 w fun t7 w=>ctx t5 224 #[t7,(.int .u8 0)] w K fun t8 w=>gtx t5 (mBin .lss 3 t8 (iN 0)) w K fun t9 w=>dx (mPick t5 t9 (.bool false)) w K fun t10 w=>K (.returned t10) w
theorem S_value_key_ok{t0 w K}(h:S_value_key t0 w K):Calls prog 215 #[t0] w K:=cw Tryz.func215 rfl rfl (by kernel_rfl) h
def S_value_rising_0(t1 t13 t14 t15 w)(N1:JT)(K:KT):=
 dx (mBin .lss 3 t15 t14) w K fun t16 w=>IfX t16 (dx (mIA 22 t13 t15) w K fun t18 w=>dx (mLoad 9 t18) w K fun t19 w=>cx 215 #[t19] w K fun t21 w=>dx (mUn .not t21) w K fun t22 w=>efx t22 t15 w fun t24 w=>gfx t22 (mBin .gtr 3 t24 (iN 0)) w K fun t25 w=>efx t22 t25 w fun t26 w=>gtx t26 (mFA 25 t1 4) w K fun t27 w=>gtx t26 (mLoad 22 t27) w K fun t28 w=>etx t26 t15 w fun t29 w=>gtx t26 (mBin .sub 3 t29 (iN 1)) w K fun t30 w=>gtx t26 (mIA 22 t28 t30) w K fun t31 w=>gtx t26 (mLoad 9 t31) w K fun t32 w=>etx t26 t19 w fun t33 w=>gtx t26 (mBin .geq 9 t32 t33) w K fun t34 w=>gfx t22 (mPick t26 t34 (.bool false)) w K fun t35 w=>dx (mPick t22 (.bool true) t35) w K fun t36 w=>gfx t36 (mFA 25 t1 0) w K fun t38 w=>gfx t36 (mLoad 3 t38) w K fun t39 w=>gfx t36 (mEq .eql 3 (.tmp 39) (.const (iN 9)) t39 (iN 9)) w K fun t40 w=>efx t36 t40 w fun t41 w=>etx t41 t19 w fun t42 w=>gtx t41 (mEq .eql 9 (.tmp 42) (.const (.string ⟨#[76,101,110,103,116,104]⟩)) t42 (.string ⟨#[76,101,110,103,116,104]⟩)) w K fun t43 w=>gfx t36 (mPick t41 t43 (.bool false)) w K fun t44 w=>dx (mPick t36 (.bool true) t44) w K fun t45 w=>gfx t45 (mFA 25 t1 5) w K fun t47 w=>gfx t45 (mLoad 23 t47) w K fun t48 w=>efx t45 t15 w fun t49 w=>gfx t45 (mIA 23 t48 t49) w K fun t50 w=>gfx t45 (mFA 25 t50 0) w K fun t51 w=>gfx t45 (mLoad 3 t51) w K fun t52 w=>gfx t45 (mEq .eql 3 (.tmp 52) (.const (iN 0)) t52 (iN 0)) w K fun t53 w=>dx (mPick t45 (.bool true) t53) w K fun t54 w=>IfX t54 (K (.returned (.bool false)) w) (dx (mBin .add 3 t15 (iN 1)) w K fun t55 w=>N1 [t55] w)) (K (.returned (.bool true)) w)
def S_value_rising(t0 w)(K:KT):=
 dx (mBox 25 t0) w K fun t1 w=>dx (mFA 25 t1 4) w K fun t5 w=>dx (mLoad 22 t5) w K fun t6 w=>dx (mB .len #[22] 3 #[false] #[t6]) w K fun t7 w=>dx (mFA 25 t1 5) w K fun t8 w=>dx (mLoad 23 t8) w K fun t9 w=>dx (mB .len #[23] 3 #[false] #[t9]) w K fun t10 w=>dx (mEq .neq 3 (.tmp 7) (.tmp 10) t7 t10) w K fun t11 w=>IfX t11 (K (.returned (.bool false)) w) (dx (mFA 25 t1 4) w K fun t12 w=>dx (mLoad 22 t12) w K fun t13 w=>dx (mB .len #[22] 3 #[false] #[t13]) w K fun t14 w=>LoopX [(iN 0)] w (fun vs1 w N1=>∀_:Sg,S_value_rising_0 t1 t13 t14 (vs1.getD 0 undef) w N1 K))
theorem S_value_rising_eq (t0:Value)(w:World)(K:Ending→World→Prop):wpX prog 56 [] [(4,[15])] none (bodyOf Tryz.f216) (topQ prog [.tmp 2] K) (startX [t0]) [] w=S_value_rising t0 w K:=by kernel_rfl
theorem S_value_rising_ok {t0:Value}{w:World}{K:Ending→World→Prop}(h:S_value_rising t0 w K):Calls prog 216 #[t0] w K:=
 calls_of_wpX Tryz.func216 rfl rfl rfl rfl (Eq.mpr (S_value_rising_eq t0 w K) h)
def S_value_fits(t0 w)(K:KT):=
 dx (mBox 25 t0) w K fun t1 w=>dx (mFA 25 t1 0) w K fun t3 w=>dx (mLoad 3 t3) w K fun t4 w=>dx (mEq .eql 3 (.tmp 4) (.const (iN 1)) t4 (iN 1)) w K fun t6 w=>IfX t6 (dx (mFA 25 t1 1) w K fun t7 w=>dx (mLoad 2 t7) w K fun t8 w=>cx 254 #[t8,(iN 0),(iN 1)] w K fun t9 w=>K (.returned t9) w) (dx (mEq .eql 3 (.tmp 4) (.const (iN 2)) t4 (iN 2)) w K fun t11 w=>IfX t11 (dx (mFA 25 t1 1) w K fun t12 w=>dx (mLoad 2 t12) w K fun t13 w=>cx 254 #[t13,(iN (-2147483647)),(iN 2147483647)] w K fun t14 w=>K (.returned t14) w) (dx (mEq .eql 3 (.tmp 4) (.const (iN 3)) t4 (iN 3)) w K fun t16 w=>IfX t16 (dx (mFA 25 t1 1) w K fun t17 w=>dx (mLoad 2 t17) w K fun t18 w=>cx 254 #[t18,(iN (-1073741824)),(iN 1073741824)] w K fun t19 w=>K (.returned t19) w) (dx (mEq .eql 3 (.tmp 4) (.const (iN 8)) t4 (iN 8)) w K fun t21 w=>IfX t21 (dx (mFA 25 t1 1) w K fun t22 w=>dx (mLoad 2 t22) w K fun t23 w=>cx 254 #[t23,(iN 1),(iN 8191)] w K fun t24 w=>gtx t24 (mFA 25 t1 2) w K fun t26 w=>gtx t24 (mLoad 3 t26) w K fun t27 w=>ctx t24 255 #[t27,(iN 0),(iN 65535)] w K fun t28 w=>dx (mPick t24 t28 (.bool false)) w K fun t29 w=>K (.returned t29) w) (K (.returned (.bool true)) w))))
theorem S_value_fits_ok{t0 w K}(h:S_value_fits t0 w K):Calls prog 213 #[t0] w K:=cw Tryz.func213 rfl rfl (by kernel_rfl) h
def S_value_short(t0 w)(K:KT):=
 dx (mBox 25 t0) w K fun t1 w=>dx (mFA 25 t1 0) w K fun t3 w=>dx (mLoad 3 t3) w K fun t4 w=>dx (mEq .eql 3 (.tmp 4) (.const (iN 4)) t4 (iN 4)) w K fun t6 w=>IfX t6 (dx (mFA 25 t1 3) w K fun t7 w=>dx (mLoad 9 t7) w K fun t8 w=>dx (mB .len #[9] 3 #[false] #[t8]) w K fun t9 w=>dx (mBin .leq 3 t9 (iN 32767)) w K fun t10 w=>K (.returned t10) w) (dx (mEq .eql 3 (.tmp 4) (.const (iN 5)) t4 (iN 5)) w K fun t12 w=>IfX t12 (dx (mFA 25 t1 3) w K fun t13 w=>dx (mLoad 9 t13) w K fun t14 w=>dx (mB .len #[9] 3 #[false] #[t14]) w K fun t15 w=>dx (mBin .leq 3 t15 (iN 127)) w K fun t16 w=>K (.returned t16) w) (dx (mFA 25 t1 3) w K fun t17 w=>dx (mLoad 9 t17) w K fun t18 w=>dx (mB .len #[9] 3 #[false] #[t18]) w K fun t19 w=>dx (mBin .leq 3 t19 (iN 1048576)) w K fun t20 w=>K (.returned t20) w))
theorem S_value_short_ok{t0 w K}(h:S_value_short t0 w K):Calls prog 214 #[t0] w K:=cw Tryz.func214 rfl rfl (by kernel_rfl) h
def S_value_used_1(t2 t4 t13 w)(K:KT):=
 IfX t13 (dx (mBuild 225 #[(2,(.bool true))]) w K fun t16 w=>dx (mStore 225 t2 t16) w K fun _ w=>RetX prog [.cell t2 225,.val (.bool true)] w K) (dx (mEq .eql 3 (.tmp 4) (.const (iN 6)) t4 (iN 6)) w K fun t18 w=>IfX t18 (dx (mBuild 225 #[(4,(.bool true))]) w K fun t19 w=>dx (mStore 225 t2 t19) w K fun _ w=>RetX prog [.cell t2 225,.val (.bool true)] w K) (dx (mEq .eql 3 (.tmp 4) (.const (iN 7)) t4 (iN 7)) w K fun t21 w=>IfX t21 (dx (mBuild 225 #[(3,(.bool true)),(4,(.bool true))]) w K fun t22 w=>dx (mStore 225 t2 t22) w K fun _ w=>RetX prog [.cell t2 225,.val (.bool true)] w K) (dx (mEq .eql 3 (.tmp 4) (.const (iN 8)) t4 (iN 8)) w K fun t24 w=>IfX t24 (dx (mBuild 225 #[(0,(.bool true)),(1,(.bool true))]) w K fun t25 w=>dx (mStore 225 t2 t25) w K fun _ w=>RetX prog [.cell t2 225,.val (.bool true)] w K) (dx (mEq .eql 3 (.tmp 4) (.const (iN 9)) t4 (iN 9)) w K fun t27 w=>IfX t27 (dx (mBuild 225 #[(2,(.bool true)),(3,(.bool true)),(4,(.bool true))]) w K fun t28 w=>dx (mStore 225 t2 t28) w K fun _ w=>RetX prog [.cell t2 225,.val (.bool true)] w K) (dx (mBuild 225 #[]) w K fun t29 w=>dx (mStore 225 t2 t29) w K fun _ w=>RetX prog [.cell t2 225,.val (.bool false)] w K)))))
def S_value_used_0(t2 t4 t8 w)(K:KT):=
 IfX t8 (dx (mBuild 225 #[(0,(.bool true))]) w K fun t12 w=>dx (mStore 225 t2 t12) w K fun _ w=>RetX prog [.cell t2 225,.val (.bool true)] w K) (JoinX (fun J2=>dx (mEq .eql 3 (.tmp 4) (.const (iN 4)) t4 (iN 4)) w K fun t14 w=>IfX t14 (J2 [t14] w) (dx (mEq .eql 3 (.tmp 4) (.const (iN 5)) t4 (iN 5)) w K fun t15 w=>J2 [t15] w)) (fun vs2 w=>∀_:Sg,S_value_used_1 t2 t4 (vs2.getD 0 undef) w K))
def S_value_used(t0 w)(K:KT):=
 dx (mAlloc 225) w K fun t2 w=>dx (mEq .eql 3 (.tmp 4) (.const (iN 0)) t0 (iN 0)) w K fun t6 w=>IfX t6 (dx (mBuild 225 #[]) w K fun t7 w=>dx (mStore 225 t2 t7) w K fun _ w=>RetX prog [.cell t2 225,.val (.bool true)] w K) (JoinX (fun J1=>dx (mEq .eql 3 (.tmp 4) (.const (iN 1)) t0 (iN 1)) w K fun t9 w=>IfX t9 (J1 [t9] w) (dx (mEq .eql 3 (.tmp 4) (.const (iN 2)) t0 (iN 2)) w K fun t10 w=>IfX t10 (J1 [t10] w) (dx (mEq .eql 3 (.tmp 4) (.const (iN 3)) t0 (iN 3)) w K fun t11 w=>J1 [t11] w))) (fun vs1 w=>∀_:Sg,S_value_used_0 t2 t0 (vs1.getD 0 undef) w K))
theorem S_value_used_eq (t0:Value)(w:World)(K:Ending→World→Prop):wpX prog 30 [(7,[8]),(10,[13])] [] none (bodyOf Tryz.f212) (topQ prog [.cell 2 225,.tmp 3] K) (startX [t0]) [] w=S_value_used t0 w K:=by kernel_rfl
theorem S_value_used_ok {t0:Value}{w:World}{K:Ending→World→Prop}(h:S_value_used t0 w K):Calls prog 212 #[t0] w K:=
 calls_of_wpX Tryz.func212 rfl rfl rfl rfl (Eq.mpr (S_value_used_eq t0 w K) h)
def S_value_must(t0 t1 w)(K:KT):=
 dx (mUn .not t0) w K fun t5 w=>IfX t5 (dx (mBuild 223 #[(0,t1)]) w K fun t7 w=>dx (mIface 223 t7) w K fun t8 w=>dx (mPanic t8) w K fun _ w=>K (.returned (.tuple #[])) w) (K (.returned (.tuple #[])) w)
theorem S_value_must_ok{t0 t1 w K}(h:S_value_must t0 t1 w K):Calls prog 211 #[t0,t1] w K:=cw Tryz.func211 rfl rfl (by kernel_rfl) h
def S_value_check_0(t1 t105 t106 t107 w)(N1:JT)(K:KT):=
 dx (mBin .lss 3 t107 t106) w K fun t108 w=>IfX t108 (dx (mIA 23 t105 t107) w K fun t109 w=>dx (mLoad 25 t109) w K fun t110 w=>dx (mAlloc 25) w K fun t7 w=>dx (mStore 25 t7 t110) w K fun _ w=>dx (mLoad 25 t7) w K fun t111 w=>dx (mBin .add 3 t1 (iN 1)) w K fun t113 w=>cx 153 #[t111,t113] w K fun t114 w=>dx (mBin .add 3 t107 (iN 1)) w K fun t115 w=>N1 [t115] w) (K (.returned (.tuple #[])) w)
def S_value_check(t0 t1 w)(K:KT):=
 dx (mBox 25 t0) w K fun t2 w=>dx (mBin .leq 3 t1 (iN 24)) w K fun t9 w=>cx 211 #[t9,(iN 7)] w K fun t10 w=>dx (mFA 25 t2 0) w K fun t12 w=>dx (mLoad 3 t12) w K fun t13 w=>cx 212 #[t13] w K fun t14 w=>dx (mExt t14 0) w K fun t15 w=>dx (mExt t14 1) w K fun t16 w=>dx (mAlloc 225) w K fun t4 w=>dx (mStore 225 t4 t15) w K fun _ w=>gtx t16 (mFA 225 t4 0) w K fun t19 w=>gtx t16 (mLoad 4 t19) w K fun t20 w=>etx t16 t20 w fun t21 w=>gfx t21 (mFA 25 t2 1) w K fun t22 w=>gfx t21 (mLoad 2 t22) w K fun t23 w=>gfx t21 (mEq .eql 2 (.tmp 23) (.const (iN 0)) t23 (iN 0)) w K fun t24 w=>gtx t16 (mPick t21 (.bool true) t24) w K fun t25 w=>dx (mPick t16 t25 (.bool false)) w K fun t26 w=>gtx t26 (mFA 225 t4 1) w K fun t28 w=>gtx t26 (mLoad 4 t28) w K fun t29 w=>etx t26 t29 w fun t30 w=>gfx t30 (mFA 25 t2 2) w K fun t31 w=>gfx t30 (mLoad 3 t31) w K fun t32 w=>gfx t30 (mEq .eql 3 (.tmp 32) (.const (iN 0)) t32 (iN 0)) w K fun t33 w=>gtx t26 (mPick t30 (.bool true) t33) w K fun t34 w=>dx (mPick t26 t34 (.bool false)) w K fun t35 w=>gtx t35 (mFA 225 t4 2) w K fun t37 w=>gtx t35 (mLoad 4 t37) w K fun t38 w=>etx t35 t38 w fun t39 w=>gfx t39 (mFA 25 t2 3) w K fun t40 w=>gfx t39 (mLoad 9 t40) w K fun t41 w=>gfx t39 (mEq .eql 9 (.tmp 41) (.const (.string ⟨#[]⟩)) t41 (.string ⟨#[]⟩)) w K fun t42 w=>gtx t35 (mPick t39 (.bool true) t42) w K fun t43 w=>dx (mPick t35 t43 (.bool false)) w K fun t44 w=>gtx t44 (mFA 225 t4 3) w K fun t46 w=>gtx t44 (mLoad 4 t46) w K fun t47 w=>etx t44 t47 w fun t48 w=>gfx t48 (mFA 25 t2 4) w K fun t49 w=>gfx t48 (mLoad 22 t49) w K fun t50 w=>gfx t48 (mB .len #[22] 3 #[false] #[t50]) w K fun t51 w=>gfx t48 (mEq .eql 3 (.tmp 51) (.const (iN 0)) t51 (iN 0)) w K fun t52 w=>gtx t44 (mPick t48 (.bool true) t52) w K fun t53 w=>dx (mPick t44 t53 (.bool false)) w K fun t54 w=>gtx t54 (mFA 225 t4 4) w K fun t56 w=>gtx t54 (mLoad 4 t56) w K fun t57 w=>etx t54 t57 w fun t58 w=>gfx t58 (mFA 25 t2 5) w K fun t59 w=>gfx t58 (mLoad 23 t59) w K fun t60 w=>gfx t58 (mB .len #[23] 3 #[false] #[t60]) w K fun t61 w=>gfx t58 (mEq .eql 3 (.tmp 61) (.const (iN 0)) t61 (iN 0)) w K fun t62 w=>gtx t54 (mPick t58 (.bool true) t62) w K fun t63 w=>dx (mPick t54 t63 (.bool false)) w K fun t64 w=>etx t64 t1 w fun t66 w=>gtx t64 (mEq .eql 3 (.tmp 66) (.const (iN 1)) t66 (iN 1)) w K fun t67 w=>etx t64 t67 w fun t68 w=>gfx t68 (mFA 25 t2 0) w K fun t69 w=>gfx t68 (mLoad 3 t69) w K fun t70 w=>gfx t68 (mEq .neq 3 (.tmp 70) (.const (iN 9)) t70 (iN 9)) w K fun t71 w=>gtx t64 (mPick t68 (.bool true) t71) w K fun t72 w=>dx (mPick t64 t72 (.bool false)) w K fun t73 w=>cx 211 #[t73,(iN 10)] w K fun t74 w=>dx (mLoad 25 t2) w K fun t75 w=>cx 213 #[t75] w K fun t76 w=>cx 211 #[t76,(iN 2)] w K fun t77 w=>dx (mLoad 25 t2) w K fun t78 w=>cx 214 #[t78] w K fun t79 w=>cx 211 #[t79,(iN 5)] w K fun t80 w=>dx (mFA 25 t2 5) w K fun t81 w=>dx (mLoad 23 t81) w K fun t82 w=>dx (mB .len #[23] 3 #[false] #[t82]) w K fun t83 w=>dx (mBin .leq 3 t83 (iN 8191)) w K fun t84 w=>cx 211 #[t84,(iN 6)] w K fun t85 w=>dx (mFA 25 t2 0) w K fun t86 w=>dx (mLoad 3 t86) w K fun t87 w=>dx (mEq .neq 3 (.tmp 87) (.const (iN 5)) t87 (iN 5)) w K fun t88 w=>gfx t88 (mFA 25 t2 3) w K fun t90 w=>gfx t88 (mLoad 9 t90) w K fun t91 w=>cfx t88 215 #[t91] w K fun t92 w=>dx (mPick t88 (.bool true) t92) w K fun t93 w=>gtx t93 (mFA 225 t4 3) w K fun t95 w=>gtx t93 (mLoad 4 t95) w K fun t96 w=>gtx t93 (mUn .not t96) w K fun t97 w=>etx t93 t97 w fun t98 w=>gfx t98 (mLoad 25 t2) w K fun t99 w=>cfx t98 216 #[t99] w K fun t100 w=>gtx t93 (mPick t98 (.bool true) t100) w K fun t101 w=>dx (mPick t93 t101 (.bool false)) w K fun t102 w=>cx 211 #[t102,(iN 3)] w K fun t103 w=>dx (mFA 25 t2 5) w K fun t104 w=>dx (mLoad 23 t104) w K fun t105 w=>dx (mB .len #[23] 3 #[false] #[t105]) w K fun t106 w=>LoopX [(iN 0)] w (fun vs1 w N1=>∀_:Sg,S_value_check_0 t1 t105 t106 (vs1.getD 0 undef) w N1 K)
theorem S_value_check_eq (t0 t1:Value)(w:World)(K:Ending→World→Prop):wpX prog 116 [] [(9,[107])] none (bodyOf Tryz.f153) (topQ prog [] K) (startX [t0,t1]) [] w=S_value_check t0 t1 w K:=by kernel_rfl
theorem S_value_check_ok {t0 t1:Value}{w:World}{K:Ending→World→Prop}(h:S_value_check t0 t1 w K):Calls prog 153 #[t0,t1] w K:=
 calls_of_wpX Tryz.func153 rfl rfl rfl rfl (Eq.mpr (S_value_check_eq t0 t1 w K) h)
def S_value_Check_1(t0 w)(K:KT):=
 dx (mLoad 25 t0) w K fun t1 w=>cx 153 #[t1,(iN 1)] w K fun t2 w=>K (.returned (.tuple #[])) w
theorem S_value_Check_1_ok{t0 w K}(h:S_value_Check_1 t0 w K):Calls prog 152 #[t0] w K:=cw Tryz.func152 rfl rfl (by kernel_rfl) h
def S_value_caught_1(t0 r w)(K:KT):=
 dx (mEq .eql 20 (.tmp 4) (.const .nilIface) r .nilIface) w K fun t6 w=>IfX t6 (K (.returned (.tuple #[])) w) (dx (mTA r 20 223 true) w K fun t7 w=>dx (mExt t7 1) w K fun t8 w=>dx (mExt t7 0) w K fun t9 w=>IfX t8 (dx (mAlloc 223) w K fun t2 w=>dx (mStore 223 t2 t9) w K fun _ w=>dx (mFA 223 t2 0) w K fun t10 w=>dx (mLoad 30 t10) w K fun t11 w=>dx (mStore 30 t0 t11) w K fun _ w=>K (.returned (.tuple #[])) w) (dx (mPanic r) w K fun _ w=>K (.returned (.tuple #[])) w))
theorem S_value_caught_1_eq (t0 r:Value)(w:World)(K:Ending→World→Prop):wpX prog 12 [] [] none (sndOf (bodyOf Tryz.f210)) (topD prog [] K) (upd (startX [t0]) 4 r) [] w=S_value_caught_1 t0 r w K:=by kernel_rfl
theorem S_value_caught_1_dok {t0:Value}{u:FrameMode}{w:World}{R:Ending→FrameMode→World→Prop}(h:S_value_caught_1 t0 (recV u) w (fun e w=>R e (recM u) w)):CallsD prog 210 #[t0] u w R:=
 callsD_recover Tryz.func210 rfl rfl rfl rfl rfl rfl rfl rfl (Eq.mpr (S_value_caught_1_eq t0 (recV u) w _) h)
def S_value_caught_p0 (x0:Deferred)(x1:Value)(K:Ending→World→Prop):=pd prog [.cell x1 30] K [x0]
def S_value_caught(t0 w)(K:KT):=
 dx (mAlloc 30) w K fun t2 w=>dx (mFunc (.func 210) #[] #[t2]) w K fun t3 w=>DfrX (dfrV t3 #[]) (fun d1=>DoX prog (mCallV t0 #[]) w (S_value_caught_p0 d1 t2 K) fun t5 w=>DoX prog (mStore 30 t2 (iN 0)) w (S_value_caught_p0 d1 t2 K) fun _ w=>Leave prog [.cell t2 30] K [d1] .returning w)
theorem S_value_caught_ok{t0 w K}(h:S_value_caught t0 w K):Calls prog 151 #[t0] w K:=cw Tryz.func151 rfl rfl (by kernel_rfl) h
def S_value_Check(t0 w)(K:KT):=
 dx (mBox 25 t0) w K fun t1 w=>dx (mFunc (.func 152) #[] #[t1]) w K fun t3 w=>cx 151 #[t3] w K fun t4 w=>K (.returned t4) w
theorem S_value_Check_ok{t0 w K}(h:S_value_Check t0 w K):Calls prog 86 #[t0] w K:=cw Tryz.func86 rfl rfl (by kernel_rfl) h
end
section
open Eng Go.RowKit
 attribute [local congr] g_congr
theorem within64_ret (n a b:Int)(w:World):Ret prog 254 #[.int .i64 n,.int .i64 a,.int .i64 b] w (fun v w'=>v=.bool (decide (a≤n)&&decide (n≤b))∧w=w'):=by
 refine ret_of fun K hK=>S_value_within_int64_ok ?_;unfold S_value_within_int64 dx gtx etx;simp +contextual only[rs,gs];exact hK _ _ ⟨rfl,rfl⟩
theorem withinI_ret (n a b:Int)(w:World):Ret prog 255 #[.int .i64 n,.int .i64 a,.int .i64 b] w (fun v w'=>v=.bool (decide (a≤n)&&decide (n≤b))∧w=w'):=by
 refine ret_of fun K hK=>S_value_within_int_ok ?_;unfold S_value_within_int dx gtx etx;simp +contextual only[rs,gs];exact hK _ _ ⟨rfl,rfl⟩
theorem tw_self {p:UInt8→Bool}:∀(s:List UInt8),s.takeWhile p=s→∀x∈s,p x=true
|[],_,x,hx=>by cases hx
|a::s,h,x,hx=>by
  rw[List.takeWhile_cons] at h;split at h
  ·rename_i ha
   injection h with _ h
   rcases List.mem_cons.1 hx with rfl|hx
   ·exact ha
   ·exact tw_self s h x hx
  ·cases h
theorem dw_head {p:UInt8→Bool}:∀(s:List UInt8) {a:UInt8} {t:List UInt8},s.dropWhile p=a::t→p a=false
|[],_,_,h=>by cases h
|b::s,a,t,h=>by
  rw[List.dropWhile_cons] at h;split at h
  ·exact dw_head s h
  ·rename_i hb
   injection h with h _
   subst h;simpa using hb
theorem vkey_ret (s:List UInt8)(w:World):Ret prog 215 #[.string ⟨s.toArray⟩] w (fun v w'=>v=.bool (Vl.name s)∧w=w'):=by
 refine ret_of fun K hK=>S_value_key_ok ?_;unfold S_value_key iN dx gtx ctx etx;rw[s_len Tryz.underlying9,b_leq];by_cases h:(s.length:Int)≤127
 ·have hi:∀{K':VWP},K' (.int .i64 (Lib.indexByte s 0)) w→CallX prog 224 #[.string ⟨s.toArray⟩,.int .u8 0] w (pk K) K':=fun hk=>c_eq (indexByte_ret s 0 w) hk;simp only[h,decide_true,rs];refine hi ?_;simp only[rs];refine hK _ _ ⟨?_,rfl⟩;rw[Vl.name,decide_eq_true (show s.length≤127 by omega),Bool.true_and]
  congr 1
  rw[decide_eq_decide];rcases ix_cases 0 s with ⟨h1,h2,h3⟩|⟨i,h1,hil,h3,h4⟩
  ·rw[h1];refine⟨fun _ hm=>?_,fun _=>by decide⟩;have:=tw_self s h2 0 hm;simp at this
  ·rw[h1];refine⟨fun h=>by omega,fun hm=>absurd ?_ hm⟩;have hd:s.drop i=s[i]::s.drop (i+1):=List.drop_eq_getElem_cons hil;have h0:s[i]=0:=by
    have:=dw_head s (h4.trans hd);simpa using this
   exact h0▸List.getElem_mem hil
 ·simp only[h,decide_false,rs,g_un];refine hK _ _ ⟨?_,rfl⟩;rw[Vl.name,decide_eq_false (show ¬s.length≤127 by omega)];rfl
theorem vrising_ret (o:Ob)(v:Value)(w:World)(h:OV (InW w) w v o)(hb:o.keys.length≤9223372036854775807) :
  Ret prog 216 #[v] w (fun v w'=>v=.bool (Vl.rising o)∧Below w.heap.size w w'):=by
 obtain⟨vk,vc,cs,rfl,ha⟩:=h.open;refine ret_of fun K hK=>S_value_rising_ok ?_;unfold S_value_rising iN dx;refine o_obb o ha.keys.one ha.kids.one (Own.start w) fun b w1 ho=>?_;have lk:∀{W:World} {L:List Ent},Own w W L→∀{PK:PKT} {K:VWP},DoX prog (mB .len #[22] 3 #[false] #[vk]) W PK K=K (.int .i64 (o.keys.length:Int)) W:=fun ho=>sl_len Tryz.underlying22 (ha.own ho).keys.1;have lc:∀{W:World} {L:List Ent},Own w W L→∀{PK:PKT} {K:VWP},DoX prog (mB .len #[23] 3 #[false] #[vc]) W PK K=K (.int .i64 (o.kids.length:Int)) W:=fun ho=>sl_len Tryz.underlying23 (ha.own ho).kids.1;simp only[rs,fa_o4,fa_o5,ob_keys ho 0 rfl,ob_kids ho 0 rfl,lk ho,lc ho];by_cases hlen:(o.keys.length:Int)≠(o.kids.length:Int)
 ·simp only[decide_eq_true hlen,i_t];refine hK _ _ ⟨?_,ho.done⟩;have:¬o.keys.length=o.kids.length:=fun e=>hlen (by rw[e]);simp[Vl.rising,this]
 have hle:o.keys.length=o.kids.length:=by omega
 simp only[decide_eq_false hlen,i_f];have hR:Vl.rising o=(List.range o.keys.length).all (Vl.keyAt o):=by simp[Vl.rising,hle]
 rw[hR] at hK;refine loop (fun vs w'=>∃(i:Nat),vs=[.int .i64 i]∧i≤o.keys.length∧(List.range i).all (Vl.keyAt o)=true∧Own w w' [obE b o vk vc]) (fun vs _=>o.keys.length - n0 vs) ⟨0,rfl,by omega,by simp,ho⟩ ?_;rintro vs w2 ⟨i,rfl,hi,hall,ho⟩ _;simp only[S_value_rising_0,gd,rs,iN,dx,gtx,gfx,etx,efx,cx];by_cases hlt:(i:Int) < (o.keys.length:Int)
 ·have hi':i < o.keys.length:=by omega
  simp only[hlt,decide_true,i_t];have ho2:=ha.own ho;refine sl_ia1 (.string ⟨(o.keys[i]).toArray⟩) Tryz.underlying22 (by kernel_rfl) ho2.keys.1 (by omega) (by rw[Int.toNat_natCast];exact strsV_get hi') fun q hq=>?_;rw[l_cell nStr5 hq];refine c_eq (vkey_ret o.keys[i] w2) ?_;obtain⟨kb,koff,hia,hkc⟩:=run_kid_k ho2.kids.1 ho2.all (show i < o.kids.length by omega);have hlk:∀{PK:PKT} {K:VWP},DoX prog (mLoad 3 (.pointer (some ⟨kb,koff,none⟩))) w2 PK K=K (.int .i64 o.kids[i].k) w2:=l_cell nInt5 hkc;have hprev:decide (0 < (i:Int))=true→∃(b' off':Nat),(∀{PK:PKT} {K:VWP},DoX prog (mIA 22 vk (.int .i64 (IntKind.wrap .i64 ((i:Int) - 1)))) w2 PK K=K (.pointer (some ⟨b',off',none⟩)) w2) ∧
    (∀{PK:PKT} {K:VWP},DoX prog (mLoad 9 (.pointer (some ⟨b',off',none⟩))) w2 PK K=K (.string ⟨(o.keys.getD (i - 1) []).toArray⟩) w2):=by
   intro h;have h:=of_decide_eq_true h;have hj:i - 1 < o.keys.length:=by omega
   obtain⟨b',off',cap',rfl,hc'⟩:=sl_open ho2.keys.1 (show 0 < o.keys.length by omega);refine⟨b',off'+(i - 1),?_,?_⟩
   ·intro PK K;rw[wrap64_id (by omega) (by omega)];refine do_eq ?_;rw[run_ia Tryz.underlying22 (show _=some 1 by kernel_rfl) (by omega) (by omega),show ((i:Int) - 1).toNat*1=i - 1 by omega]
   ·intro PK K;rw[List.getD_eq_getElem?_getD,List.getElem?_eq_getElem hj];exact l_cell nStr5 (hc' _ _ (strsV_get hj))
  have hgi:o.keys.getD i []=o.keys[i]:=by rw[List.getD_eq_getElem?_getD,List.getElem?_eq_getElem hi'];rfl
  have hgk:o.kids.getD i (.mk 0 0 0 [] [] [])=o.kids[i]'(by omega):=by rw[List.getD_eq_getElem?_getD,List.getElem?_eq_getElem (by omega)];rfl
  have tail:∀(q:Bool) (N:Prop),q=!(Vl.keyAt o i)→(Vl.keyAt o i=true→N)→IfX (.bool q) (K (.returned (.bool false)) w2) N:=by
   intro q N hq hN;cases hk:Vl.keyAt o i with
  |false=>
    rw[hk] at hq;subst hq;rw[show (!false)=true from rfl,i_t];exact hK _ _ ⟨by rw[range_all_not hk hi'],ho.done⟩
  |true=>
    rw[hk] at hq;subst hq;rw[show (!true)=false from rfl,i_f];exact hN hk
  have hki:Vl.keyAt o i=(Vl.name o.keys[i]&&(decide (i=0)||Vl.less (o.keys.getD (i - 1) []) o.keys[i])&&!(decide (o.k=9)&&decide (o.keys[i]=Vl.lenK))&&decide ((o.kids[i]'(by omega)).k≠0)):=by
   rw[Vl.keyAt,hgi,hgk]
  by_cases hi0:i=0
  ·have hz:decide (0 < (i:Int))=false:=by rw[decide_eq_false_iff_not];omega
   simp +contextual only[rs,gs,hz,sel_sel,g_off,pick_orn,Bool.and_false,Bool.not_not,Bool.or_false,fa_o0,fa_o5,ob_k ho 0 rfl,ob_kids ho 0 rfl,hia,hlk,g_un,p_f];refine tail _ _ ?_ fun hk=>?_
   ·rw[hki,decide_eq_true hi0];simp only[Bool.true_or,Bool.and_true,Vl.lenK,ne_eq,decide_not];generalize Vl.name o.keys[i]=a;generalize decide (o.k=9)=c;generalize decide ((o.kids[i]'(by omega)).k=0)=d;by_cases hL:o.keys[i]=[76,101,110,103,116,104]<;>simp only[hL,decide_true,decide_false]<;>cases a<;>cases c<;>cases d<;>rfl
   ·rw[wrap64_id (by omega) (by omega)];exact nextX ⟨i+1,rfl,by omega,by rw[range_all_succ,hall,hk];rfl,ho⟩ (by simp[n0,RowKit.intOf];omega)
  ·have hz:decide (0 < (i:Int))=true:=by rw[decide_eq_true_iff];omega
   obtain⟨b',off',hpa,hpl⟩:=hprev hz;simp +contextual only[rs,gs,hz,sel_sel,g_off,pick_orn,Bool.and_false,Bool.not_not,Bool.or_false,fa_o0,fa_o4,fa_o5,ob_k ho 0 rfl,ob_keys ho 0 rfl,ob_kids ho 0 rfl,hia,hlk,hpa,hpl,g_un];refine tail _ _ ?_ fun hk=>?_
   ·rw[hki,decide_eq_false hi0];simp only[Bool.false_or,Vl.lenK,ne_eq,decide_not];generalize Vl.name o.keys[i]=a;generalize decide (o.k=9)=c;generalize decide ((o.kids[i]'(by omega)).k=0)=d;show _=!(_&&Op.bytesLess (o.keys.getD (i - 1) []) o.keys[i]&&_&&_);generalize Op.bytesLess (o.keys.getD (i - 1) []) o.keys[i]=e;by_cases hL:o.keys[i]=[76,101,110,103,116,104]<;>simp only[hL,decide_true,decide_false]<;>cases a<;>cases c<;>cases d<;>cases e<;>rfl
   ·rw[wrap64_id (by omega) (by omega)];exact nextX ⟨i+1,rfl,by omega,by rw[range_all_succ,hall,hk];rfl,ho⟩ (by simp[n0,RowKit.intOf];omega)
 ·simp only[hlt,decide_false,i_f];refine hK _ _ ⟨?_,ho.done⟩;rw[show o.keys.length=i by omega,hall]
theorem vfits_ret (o:Ob)(v:Value)(w:World)(h:OV (InW w) w v o):Ret prog 213 #[v] w (fun v w'=>v=.bool (Vl.fits o)∧Below w.heap.size w w'):=by
 obtain⟨vk,vc,cs,rfl,ha⟩:=h.open;refine ret_of fun K hK=>S_value_fits_ok ?_;unfold S_value_fits iN dx gtx ctx cx;refine o_obb o ha.keys.one ha.kids.one (Own.start w) fun b w1 ho=>?_;simp only[fa_o0,ob_k ho 0 rfl,rs];by_cases k1:o.k=1
 ·simp only[k1,decide_true,i_t,fa_o1,ob_n ho 0 rfl];refine c_eq (within64_ret _ _ _ w1) (hK _ _ ⟨?_,ho.done⟩);rw[Vl.fits,if_pos k1,Bool.decide_and]
 by_cases k2:o.k=2
 ·simp only[k2,Int.reduceEq,decide_true,decide_false,i_t,i_f,fa_o1,ob_n ho 0 rfl];refine c_eq (within64_ret _ _ _ w1) (hK _ _ ⟨?_,ho.done⟩);rw[Vl.fits,if_neg k1,if_pos k2,Bool.decide_and]
 by_cases k3:o.k=3
 ·simp only[k3,Int.reduceEq,decide_true,decide_false,i_t,i_f,fa_o1,ob_n ho 0 rfl];refine c_eq (within64_ret _ _ _ w1) (hK _ _ ⟨?_,ho.done⟩);rw[Vl.fits,if_neg k1,if_neg k2,if_pos k3,Bool.decide_and]
 by_cases k8:o.k=8
 ·simp only[k8,Int.reduceEq,decide_true,decide_false,i_t,i_f,fa_o1,ob_n ho 0 rfl];refine c_eq (within64_ret _ _ _ w1) ?_;have hf:Vl.fits o=(decide (1≤o.n)&&decide (o.n≤8191)&&(decide (0≤o.g)&&decide (o.g≤65535))):=by
   rw[Vl.fits,if_neg k1,if_neg k2,if_neg k3,if_pos k8,Bool.decide_and,Bool.decide_and]
  rw[hf] at hK;cases hc:(decide (1≤o.n)&&decide (o.n≤8191)) with
 |false=>
   rw[hc] at hK;rw[g_ft,g_ft,g_ft,p_f];exact hK _ _ ⟨rfl,ho.done⟩
 |true=>
   rw[hc] at hK;rw[g_tt,fa_o2,g_tt,ob_g ho 0 rfl,g_tt];refine c_eq (withinI_ret _ _ _ w1) ?_;rw[p_t];exact hK _ _ ⟨rfl,ho.done⟩
 simp only[k1,k2,k3,k8,decide_false,i_f];refine hK _ _ ⟨?_,ho.done⟩;rw[Vl.fits,if_neg k1,if_neg k2,if_neg k3,if_neg k8]
def vShort (o:Ob):Bool:=if o.k=4 then decide (o.s.length≤32767) else if o.k=5 then decide (o.s.length≤127) else decide (o.s.length≤1048576)
theorem vshort_ret (o:Ob)(v:Value)(w:World)(h:OV (InW w) w v o):Ret prog 214 #[v] w (fun v w'=>v=.bool (vShort o)∧Below w.heap.size w w'):=by
 obtain⟨vk,vc,cs,rfl,ha⟩:=h.open;refine ret_of fun K hK=>S_value_short_ok ?_;unfold S_value_short iN dx;refine o_obb o ha.keys.one ha.kids.one (Own.start w) fun b w1 ho=>?_;simp only[fa_o0,ob_k ho 0 rfl,rs];have hi:∀m:Nat,decide ((o.s.length:Int)≤(m:Int))=decide (o.s.length≤m):=fun m=>by rw[decide_eq_decide];omega
 by_cases k4:o.k=4
 ·simp only[k4,decide_true,i_t,fa_o3,ob_s ho 0 rfl,s_len Tryz.underlying9,rs];refine hK _ _ ⟨?_,ho.done⟩;rw[vShort,if_pos k4,←hi];rfl
 by_cases k5:o.k=5
 ·simp only[k5,Int.reduceEq,decide_true,decide_false,i_t,i_f,fa_o3,ob_s ho 0 rfl,s_len Tryz.underlying9,rs];refine hK _ _ ⟨?_,ho.done⟩;rw[vShort,if_neg k4,if_pos k5,←hi];rfl
 simp only[k4,k5,decide_false,i_f,fa_o3,ob_s ho 0 rfl,s_len Tryz.underlying9,rs];refine hK _ _ ⟨?_,ho.done⟩;rw[vShort,if_neg k4,if_neg k5,←hi];rfl
theorem short_long {o:Ob}(h:Vl.usesOk o=true):vShort o=!decide (Vl.long o.k < o.s.length):=by
 have key:∀m:Nat,decide (o.s.length≤m)=!decide (m < o.s.length):=fun m=>by
  rw[Bool.eq_iff_iff];simp
 unfold vShort Vl.long;by_cases k4:o.k=4
 ·rw[if_pos k4,if_neg (by omega),if_neg (by omega),key]
 by_cases k5:o.k=5
 ·rw[if_neg k4,if_pos k5,if_pos k5,key]
 by_cases k9:o.k=9
 ·rw[if_neg k4,if_neg k5,if_neg k5,if_pos k9,key]
 have hs:o.s=[]:=by
  unfold Vl.usesOk Vl.used at h
  revert h
  split
  ·intro h;cases h
  ·rename_i n g s ks cs he
   intro h;simp only[Bool.and_eq_true,Bool.or_eq_true,decide_eq_true_eq] at h;have hsf:s=false:=by
    revert he
    repeat' split
    all_goals (intro he;first|(cases he;done)|skip)
    all_goals (simp only[Option.some.injEq,Prod.mk.injEq] at he;first|exact he.2.2.1.symm|omega)
   rcases h.1.1.2 with h1|h1
   ·rw[hsf] at h1;cases h1
   ·exact h1
 rw[if_neg k4,if_neg k5,if_neg k5,if_neg k9,hs];rfl
end
end Go.Proofs.YtlipjfcbjemicaaGreatDoor
