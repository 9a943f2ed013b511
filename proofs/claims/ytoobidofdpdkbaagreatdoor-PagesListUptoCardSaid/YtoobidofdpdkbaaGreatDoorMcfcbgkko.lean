/- Texts that go together: LibBld SPlain SFix SRef02 FixP FixR FixQ SStr LibCut FixT PlA PlB PlC LawKit2 EngT EngH EngI EngJ EngK EngU LawKit3 ObA ObB EngX EngY EngZ EngAH EngAD SSlc SlcA SMake Plain05 Plain05B SIdx OcIdx ObC SRef05 FixU FixV FixW FixX SLaw02 FixY EngG ObD EngW ObE ObF SVal ObG ObH ObI MkA SMake5 Plain07 SRef07 SRef04 PlR PlS Plain03 Plain03B Plain03C Plain03D Plain03E Plain04B Plain03F Plain03G Plain17 Plain17B Plain55 SOct LxA SLex LxB LxC LxD LxE LxF LxG LxH LxI SRef03 LxR SHead SRef17 HdA LxS LxT LxU LxV LxW LxX LxY LxZ LxAA LxAB LxAC SLaw04 PlT LxAD SLaw03 LxAE HdB HdC SLaw17 HdD SRef55 ScA ObJ. -/
import Derived.Test.YtoobidofdpdkbaaGreatDoorRows
import Derived.Recover
import Derived.Shelf.Strings.SlTrimAscii
import Derived.Lib.Repeat
import Derived.SliceStrings
import Derived.Laws.StructEq
import Derived.Laws.CopyRow
import Derived.Lib.AppendZerosOnto
import Derived.Lib.SliceRun
import Derived.Lib.Overlaps
import Derived.Laws.Externs
import Derived.Sort.Walk0
import Derived.Laws.RangeAny
import Derived.Lib.IndexMore
import Derived.Lib.LastIndexLaws
import Derived.Lib.SmallJoins
import Derived.Test.YtoobidofdpdkbaaGreatDoorMcacjffhi
set_option linter.defProp false
set_option linter.unusedSimpArgs false
set_option linter.unusedVariables false
set_option maxRecDepth 20000
open Go.Proofs.Tryz (prog)
namespace Go.Proofs.YtoobidofdpdkbaaGreatDoor
section
open Eng Go.RowKit
abbrev Bld (b:Nat)(v:Value)(l:List UInt8):Ent:=.bld 104 5 b v l
theorem bytesV_append (a b:List UInt8):bytesV (a++b)=bytesV a++bytesV b:=by simp[bytesV]
theorem bytesV_one (l:List UInt8):∀u∈bytesV l,u.oneCell'=true:=by
 intro u hu;simp only[bytesV,List.mem_map] at hu;obtain⟨c,_,rfl⟩:=hu;rfl
theorem e_pnone {P:Program}{T U:TypeId}{xo:Operand}{a:Option Addr}{c:Value}{w:World}{PK:PKT}{K:VWP}(h:P.underlying T=some (.pointer U)) :
  DoX P (mEq .eql T xo (.const c) (.pointer a) (.pointer none)) w PK K=K (.bool a.isNone) w:=by
 refine mv_do ?_;have e:(eqGuard .eql T xo (.const c) (.pointer a) (.pointer none))=pure ():=by cases xo<;>rfl
 rw[e];have h2:∀d:Nat,(Op.equalIn (d+1) T (.pointer a) (.pointer none)).run P w=.ok a.isNone w:=fun d=>by
  cases a<;>simp[Op.equalIn,run_underlying h]
 simp only[binOp];simp[Op.equal,Op.maxDepth,h2 9999]
theorem n_psame {P:Program}{T U:TypeId}{xo yo:Operand}{a:Addr}{w:World}{PK:PKT}{K:VWP}(h:P.underlying T=some (.pointer U))(hi:(P.info? U).isSome=true)(hg:eqGuard .neq T xo yo (.pointer (some a)) (.pointer (some a))=pure ()) :
  DoX P (mEq .neq T xo yo (.pointer (some a)) (.pointer (some a))) w PK K=K (.bool false) w:=by
 obtain⟨j,hj⟩:=Option.isSome_iff_exists.1 hi;refine mv_do ?_;rw[hg];simp[Lib.run_neq_ptr_same w a h hj]
theorem copyCheck_ret {b:Nat}{v:Value}{l:List UInt8}{w:World}(h:(Bld b v l).is w):Ret prog 88 #[.pointer (some ⟨b,0,none⟩)] w
  (fun r w'=>∃e',(r=.tuple #[]∧e'=Bld b v l)∧Turn (Bld b v l) e' w w'):=by
 obtain⟨p,hp,hcap,ho⟩:=(OwnS.lend h).openB;refine ret_of fun K hK=>S_strings_Builder_copyCheck_ok ?_;unfold S_strings_Builder_copyCheck;simp only[rs,f_addr (show fOff prog 104 0=some 0 by kernel_rfl)];rw[l_cell (by kernel_rfl) (ho.cell 0 rfl 0 rfl)];rcases hp with rfl|rfl
 ·rw[e_pnone Tryz.underlying101];simp only[Option.isNone_none,rs];obtain⟨j,hj⟩:=Option.isSome_iff_exists.1 (show (Tryz.prog.info? 104).isSome=true by kernel_rfl);have hjs:j.size≠0:=by
   have:(Tryz.prog.info? 104).map (·.size)=some 2:=by kernel_rfl
   rw[hj] at this;simp only[Option.map_some,Option.some.injEq] at this;omega
  have hsh:w.shape? b=some (104,2):=by
   have hb:w.heap[b]?=some (.cells #[.pointer none,v] 104 (0,0)):=ho.at_ 0 rfl;simp[World.shape?,hb]
  refine do_ok (mv_run (Lib.run_to_unsafe w ⟨b,0,none⟩ Tryz.underlying101 Tryz.underlying172 hj hjs hsh (by show 0 < 2;omega))) ?_;refine do_ok (show (mCallV (.func (.func 114) #[] #[]) #[.pointer (some ⟨b,0,none⟩)]).run prog w=.ok (.value (.pointer (some ⟨b,0,none⟩))) w by kernel_rfl) ?_;refine do_ok (mv_run (Lib.run_from_unsafe w ⟨b,0,none⟩ Tryz.underlying172 Tryz.underlying101 hj hsh (by kernel_rfl))) ?_;refine o_store 0 ho rfl (by kernel_rfl) rfl (by simp) fun w2 ho2=>?_;exact hK _ _ ⟨_,⟨rfl,rfl⟩,(OwnS.closeB (.inr rfl) hcap ho2).back⟩
 ·rw[e_pnone Tryz.underlying101];simp only[Option.isNone_some,rs,f_addr (show fOff prog 104 0=some 0 by kernel_rfl)];rw[l_cell (by kernel_rfl) (ho.cell 0 rfl 0 rfl)];rw[n_psame Tryz.underlying101 (by kernel_rfl) rfl];simp only[rs];exact hK _ _ ⟨_,⟨rfl,rfl⟩,(ho.closeB (.inr rfl) hcap).back⟩
theorem writeByte_ret {b:Nat}{v:Value}{l:List UInt8}{c:UInt8}{w:World}(h:(Bld b v l).is w)(hl:l.length < 140737488355328):Ret prog 60 #[.pointer (some ⟨b,0,none⟩),.int .u8 c.toNat] w
  (fun r w'=>∃e',(r=.nilIface∧∃v',e'=Bld b v' (l++[c]))∧Turn (Bld b v l) e' w w'):=by
 refine ret_of fun K hK=>S_strings_Builder_WriteByte_ok ?_;unfold S_strings_Builder_WriteByte;refine c_turn 0 (OwnS.lend h) rfl (copyCheck_ret h) ?_;rintro _ _ w1 ⟨rfl,rfl⟩ ho1;obtain⟨p,hp,hcap,ho⟩:=OwnS.openB ho1;simp only[rs,f_addr (show fOff prog 104 1=some 1 by kernel_rfl)];rw[l_cell (by kernel_rfl) (ho.cell 0 rfl 1 rfl)];refine o_new (fun b=>.slice (some ⟨b,0,none⟩) 1 1) [.int .u8 c.toNat] 5 (fun _=>by kernel_rfl) ho fun nb w2 h2=>?_;refine o_append 2 Tryz.underlying102 (show elB prog 5 1 1=true by kernel_rfl) (by decide) h2 rfl (h2.sl 0 rfl 1 1 1 rfl) (bytesV_one [c]) (by omega) (by omega) fun v' w3 h3=>?_;refine o_store 1 h3 rfl (by kernel_rfl) (by
  have:=h3.at_ 2 rfl;rcases this.2 with ⟨hv,_⟩|⟨_,_,_,_,hv,_⟩<;>rw[hv]<;>rfl) (by simp) fun w4 h4=>?_
 have h5:=h4.tail;have h6:OwnS (Bld b v l).blk w w4 (.cells b [p,v'] 104::.row 5 1 v' (l.length+1) (bytesV (l++[c]))::[]):=by
  rw[bytesV_append];exact h5
 exact hK _ _ ⟨_,⟨rfl,v',rfl⟩,(OwnS.closeB hp (roomy_row (h6.at_ 1 rfl) (by omega)) h6).back⟩
theorem writeString_ret {b:Nat}{v:Value}{l s:List UInt8}{w:World}(h:(Bld b v l).is w)(hl:l.length+s.length≤140737488355328):Ret prog 61 #[.pointer (some ⟨b,0,none⟩),.string ⟨s.toArray⟩] w
  (fun r w'=>∃e',((∃x,r=.tuple #[x,.nilIface])∧∃v',e'=Bld b v' (l++s))∧Turn (Bld b v l) e' w w'):=by
 refine ret_of fun K hK=>S_strings_Builder_WriteString_ok ?_;unfold S_strings_Builder_WriteString;refine c_turn 0 (OwnS.lend h) rfl (copyCheck_ret h) ?_;rintro _ _ w1 ⟨rfl,rfl⟩ ho1;obtain⟨p,hp,hcap,ho⟩:=OwnS.openB ho1;simp only[rs,f_addr (show fOff prog 104 1=some 1 by kernel_rfl)];rw[l_cell (by kernel_rfl) (ho.cell 0 rfl 1 rfl)];refine o_append_str 1 Tryz.underlying102 Tryz.underlying9 (show elB prog 5 1 1=true by kernel_rfl) Tryz.underlying5 (by kernel_rfl) ho rfl (by omega) fun v' w3 hro h3=>?_;refine o_store 0 h3 rfl (by kernel_rfl) (by
  have:=h3.at_ 1 rfl;rcases this.2 with ⟨hv,_⟩|⟨_,_,_,_,hv,_⟩<;>rw[hv]<;>rfl) (by simp) fun w4 h4=>?_
 rw[s_len Tryz.underlying9];have h6:OwnS (Bld b v l).blk w w4 (.cells b [p,v'] 104::.row 5 1 v' (l.length+s.length) (bytesV (l++s))::[]):=by
  rw[bytesV_append];exact h4
 exact hK _ _ ⟨_,⟨⟨_,rfl⟩,v',rfl⟩,(OwnS.closeB hp (hro hcap) h6).back⟩
theorem row_froze {E:TypeId}{g n cap:Nat}{xs:List Value}{w:World}(h:w.ownsRowF 0 E 1 (.slice (some ⟨g,0,none⟩) n cap) n xs)(hn0:n≠0) :
  Turn (.row E 1 (.slice (some ⟨g,0,none⟩) n cap) n xs) (.row E 1 (.slice (some ⟨g,0,none⟩) n cap) n xs) w (w.freeze ⟨g,0,none⟩ n):=by
 refine⟨?_,?_,fun k hk=>.inl hk⟩
 ·unfold World.freeze;rw[if_neg hn0];refine⟨rfl,rfl,rfl,by simp,fun k hk hne=>?_⟩;have hkg:¬g=k:=fun e=>hne (by show some g=some k;rw[e]);simp only[Array.getElem?_modify];rw[if_neg hkg]
 ·refine⟨h.1,?_⟩;unfold World.freeze;rw[if_neg hn0];rcases h.2 with ⟨hv,_⟩|⟨g',cap',cur,fz,hv,hbg,hg,hfz,rest⟩
  ·cases hv
  ·injection hv with ha _ hcap
   injection ha with ha
   injection ha with hgg _ _
   subst hgg;subst hcap;obtain⟨lo,hi⟩:=fz;refine .inr ⟨g,_,cur,(if lo==hi then (0,0+n) else (min lo 0,max hi (0+n))),rfl,hbg,?_,?_,rest⟩
   ·simp[Array.getElem?_modify,hg]
   ·simp only at hfz;split<;>simp<;>omega
theorem run_usd {v:Value}{n:Nat}{T U:TypeId}{cs:Array Bool}{w:World}{E:TypeId}{xs:List Value}(h:w.ownsRowF 0 E 1 v n xs)(hr:roomy v):∃q,(∀w':World,(mB .unsafeSliceData #[T] U cs #[v]).run prog w'=.ok (.value (.pointer q)) w')∧(0 < n→∃g cap,v=.slice (some ⟨g,0,none⟩) n cap∧q=some ⟨g,0,none⟩):=by
 rcases h.2 with ⟨rfl,rfl⟩|⟨g,cap,cur,fz,rfl,hbg,hg,hfz,rest⟩
 ·exact⟨none,fun w'=>by simp[mB,builtin,Lib.run_unsafeSliceData_nil],fun h=>by omega⟩
 ·refine⟨some ⟨g,0,none⟩,fun w'=>?_,fun _=>⟨g,cap,rfl,rfl⟩⟩;have hc:cap≠0:=fun e=>hr ⟨g,0,none⟩ n (by rw[e]);simp[mB,builtin,Lib.run_unsafeSliceData_row _ _ _ _ _ _ hc]
theorem bldString_ret {b:Nat}{v:Value}{l:List UInt8}{w:World}(h:(Bld b v l).is w):Ret prog 63 #[.pointer (some ⟨b,0,none⟩)] w
  (fun r w'=>∃e',(r=.string ⟨l.toArray⟩∧e'=Bld b v l)∧Turn (Bld b v l) e' w w'):=by
 obtain⟨p,hp,hcap,ho⟩:=(OwnS.lend h).openB;refine ret_of fun K hK=>S_strings_Builder_String_ok ?_;unfold S_strings_Builder_String;have hrow:w.ownsRowF 0 5 1 v l.length (bytesV l):=ho.at_ 1 rfl;obtain⟨q,hq,hq2⟩:=run_usd (T:=102) (U:=148) (cs:=#[false]) hrow hcap;have hload:∀w',Below w.heap.size w w'→(mLoad 102 (.pointer (some ⟨b,0+1,none⟩))).run prog w'=.ok (.value v) w':=fun w' hb=>run_load_cell (by kernel_rfl) ((ho.grow hb).cell 0 rfl 1 rfl);have hlen:∀w',Below w.heap.size w w'→(mB .len #[102] 3 #[false] #[v]).run prog w'=.ok (.value (.int .i64 l.length)) w':=fun w' hb=>by
  have hs:=(ho.grow hb).slRow 1 rfl;obtain⟨_,a,cp,rfl,_⟩:=hs;simp[mB,builtin,Builtin.len_,run_underlying Tryz.underlying102,goInt]
 refine quiet (q_do _ (fun w=>run_nil) (q_do _ (fun w=>run_fa (show fOff prog 104 1=some 1 by kernel_rfl)) (q_at v hload (q_do _ hq (q_do _ (fun w=>run_nil) (q_do _ (fun w=>run_fa (show fOff prog 104 1=some 1 by kernel_rfl)) (q_at v hload (q_at _ hlen ?_))))))));intro w2 hb2;have h2:=ho.grow hb2;rcases Nat.eq_zero_or_pos l.length with h0|h0
 ·have hl:l=[]:=List.eq_nil_of_length_eq_zero h0;subst hl;refine do_ok (show (mB .unsafeString #[148,3] 9 #[false,false] #[.pointer q,.int .i64 0]).run prog w2=.ok (.value (.string ⟨([]:List UInt8).toArray⟩)) w2 by
   simp[mB,builtin,Lib.run_unsafeString_none];rfl) ?_
  exact hK _ _ ⟨_,⟨rfl,rfl⟩,(OwnS.closeB hp hcap h2).back⟩
 ·obtain⟨g,cap,rfl,rfl⟩:=hq2 h0;have hr2:w2.ownsRowF 0 5 1 (.slice (some ⟨g,0,none⟩) l.length cap) l.length (bytesV l):=h2.at_ 1 rfl;have hne:l≠[]:=List.length_pos_iff.1 h0;have hsh:∃cells,w2.shape? g=some (5,cells)∧l.length≤cells∧l.length≤9223372036854775807:=by
   rcases hr2.2 with ⟨hv,_⟩|⟨g',cap',cur,fz,hv,hbg,hg,hfz,hnc,hcm,hcs,_⟩
   ·cases hv
   ·injection hv with ha _ hcap
    injection ha with ha
    injection ha with hgg _ _
    subst hgg;refine⟨cur.size,by simp[World.shape?,hg],by omega,?_⟩;simp only[maxLen] at hcm;omega
  obtain⟨cells,hsh,hle,h63⟩:=hsh;have hr:=Lib.run_unsafeString_row (P:=prog) w2 148 3 9 5 Tryz.underlying148 (by kernel_rfl) g cells hsh l hne hle h63 (fun j x hj=>by
   have:=World.ownsRowF.cells hr2 (g:=g) rfl j (.int .u8 x.toNat) (bytesV_get hj);exact this)
  refine do_ok (show (mB .unsafeString #[148,3] 9 #[false,false] #[.pointer (some ⟨g,0,none⟩),.int .i64 l.length]).run prog w2=.ok (.value (.string ⟨l.toArray⟩)) (w2.freeze ⟨g,0,none⟩ l.length) by
   simp[mB,builtin,hr]) ?_
  have h3:=h2.turn 1 rfl (row_froze hr2 (by omega));exact hK _ _ ⟨_,⟨rfl,rfl⟩,(OwnS.closeB hp hcap h3).back⟩
end
end Go.Proofs.YtoobidofdpdkbaaGreatDoor







namespace Go.Proofs.YtoobidofdpdkbaaGreatDoor
section
open Eng Go.RowKit
theorem ix_cases (c:UInt8):∀l:List UInt8,(Lib.indexByte l c=-1∧l.takeWhile (fun x=>x != c)=l∧l.dropWhile (fun x=>x != c)=[]) ∨
  ∃i:Nat,Lib.indexByte l c=i∧i < l.length∧l.takeWhile (fun x=>x != c)=l.take i∧l.dropWhile (fun x=>x != c)=l.drop i
|[]=>.inl ⟨rfl,rfl,rfl⟩
|b::l=>by
  by_cases h:b=c
  ·subst h;exact .inr ⟨0,by simp[Lib.indexByte],by simp,by simp,by simp⟩
  ·have hb:(b==c)=false:=by simpa using h
   have hb2:(b != c)=true:=by simpa using h
   rcases ix_cases c l with ⟨h1,h2,h3⟩|⟨i,h1,h2,h3,h4⟩
   ·exact .inl ⟨by simp[Lib.indexByte,hb,h1],by simp[hb2,h2],by simp[hb2,h3]⟩
   ·refine .inr ⟨i+1,?_,by simp;omega,by simp[hb2,h3],by simp[hb2,h4]⟩;have e:((i:Int)==-1)=false:=by simp
    simp only[Lib.indexByte,hb,h1,e,Bool.false_eq_true,if_false];omega
end
end Go.Proofs.YtoobidofdpdkbaaGreatDoor

namespace Go.Proofs.YtoobidofdpdkbaaGreatDoor
section
open Eng Go.RowKit
theorem indexByte_ret (l:List UInt8)(c:UInt8)(w:World):Ret prog 174 #[.string ⟨l.toArray⟩,.int .u8 c.toNat] w (fun v w'=>v=.int .i64 (Lib.indexByte l c)∧w=w'):=by
 refine Calls.mono (Tryz.strings_IndexByte ⟨l.toArray⟩ c.toNat w) ?_;rintro e w' ⟨rfl,rfl⟩;refine retK ⟨?_,rfl⟩;simp
end
section
open Eng Go.RowKit
theorem u8_of (n:Nat)(h:n < 256):((UInt8.ofNat n).toNat:Int)=(n:Int):=by rw[UInt8.toNat_ofNat'];omega
theorem writeByteN_ret {b:Nat}{v:Value}{l:List UInt8}{n:Int}{k:Nat}{w:World}(h:(Bld b v l).is w)(hl:l.length < 140737488355328)(hn:n=k)(hk:k < 256):Ret prog 60 #[.pointer (some ⟨b,0,none⟩),.int .u8 n] w
  (fun r w'=>∃e',(r=.nilIface∧∃v',e'=Bld b v' (l++[UInt8.ofNat k]))∧Turn (Bld b v l) e' w w'):=by
 have:=writeByte_ret (c:=UInt8.ofNat k) h hl;rw[u8_of k hk,←hn] at this;exact this
end
section
open Eng Go.RowKit
def strV (p:List UInt8):Value:=.string ⟨p.toArray⟩
def strsV (ps:List (List UInt8)):List Value:=ps.map strV
theorem strsV_get {ps:List (List UInt8)}{i:Nat}(h:i < ps.length):(strsV ps)[i]?=some (.string ⟨ps[i].toArray⟩):=by simp[strsV,strV,h]
end
end Go.Proofs.YtoobidofdpdkbaaGreatDoor

namespace Go.Proofs.YtoobidofdpdkbaaGreatDoor
section
namespace Eng
open Go.RowKit
def aggN (P:Program)(T:TypeId):Option Nat:=
 match P.underlying T with
|some (.struct _)|some (.array _ _)=>(P.info? T).map (·.size)
|_=>none
def AtV (P:Program)(w:World)(T:TypeId)(a:Addr)(v:Value):Prop:=(loadVar T a).run P w=.ok v w
section
variable {S:Nat→Prop}{P:Program}{w:World}{PK:PKT}{K:VWP}
theorem AtV.cell {T:TypeId}(ht:notAgg P T=true){a:Addr}{v:Value}(h:w.cell? a=some v):AtV P w T a v:=run_loadVar_cell ht h
theorem AtV.agg {T:TypeId}{n:Nat}(ht:aggN P T=some n){b off:Nat}{cs:List Value}(hl:cs.length=n)(h:∀j v,cs[j]?=some v→w.cell? ⟨b,off+j,none⟩=some v):AtV P w T ⟨b,off,none⟩ (.agg cs.toArray):=by
 have hc:=run_loadCells_list (P:=P) w ⟨b,off,none⟩ cs (fun j v hj=>by rw[add_none];exact h j v hj);unfold aggN at ht;subst hl;unfold AtV;split at ht
 ·rename_i fs hu
  obtain⟨i,hi,h1⟩:=Option.map_eq_some_iff.1 ht;simp[loadVar,isAgg,run_underlying hu,sizeOf,typeInfo,hi,h1,hc]
 ·rename_i k e hu
  obtain⟨i,hi,h1⟩:=Option.map_eq_some_iff.1 ht;simp[loadVar,isAgg,run_underlying hu,sizeOf,typeInfo,hi,h1,hc]
 ·cases ht
theorem run_load_at {T:TypeId}{a:Addr}{v:Value}(h:AtV P w T a v):(mLoad T (.pointer (some a))).run P w=.ok (.value v) w:=by
 unfold AtV at h;exact mv_run (by simp[Instr.loadAt,Instr.sureAddr,h])
theorem l_at {T:TypeId}{a:Addr}{v:Value}(h:AtV P w T a v):DoX P (mLoad T (.pointer (some a))) w PK K=K v w:=do_eq (run_load_at h)
theorem OwnS.agg {w0:World}{L:List Ent}(ho:OwnS S w0 w L)(i:Nat){b:Nat}{cs:List Value}{E T:TypeId}(hi:L[i]?=some (.cells b cs E))(ht:aggN P T=some cs.length):AtV P w T ⟨b,0,none⟩ (.agg cs.toArray):=
 AtV.agg ht rfl fun j v hj=>by rw[Nat.zero_add];exact ho.cell i hi j hj
theorem run_store_agg {T:TypeId}{b:Nat}{cs new:List Value}{E:TypeId}(hs:(P.info? T).map (·.size)=some new.length)(hv:∀v∈new,v.oneCell'=true)(hl:cs.length=new.length)(h:w.heap[b]?=some (.cells cs.toArray E (0,0))) :
  (Instr.storeAt T (.pointer (some ⟨b,0,none⟩)) (.agg new.toArray)).run P w=.ok () (w.setRow b new.toArray):=by
 have hst:=run_storeCells_at P b 0 E new 0 cs.toArray w h (by simp;omega) hv;obtain⟨i,hi,h1⟩:=Option.map_eq_some_iff.1 hs;have hd:cs.toArray.toList.drop new.length=[]:=List.drop_eq_nil_of_le (by rw[←hl];exact Nat.le_refl _);simp only[Nat.add_zero,Nat.zero_add,List.take_zero,List.nil_append,hd,List.append_nil] at hst;have hc:(Value.agg new.toArray).cells=new.toArray:=rfl;simp[Instr.storeAt,Instr.sureAddr,storeVar,hc,sizeOf,typeInfo,hi,h1,hst]
theorem o_put {w0:World}{L:List Ent}(i:Nat){T:TypeId}{b:Nat}{cs new:List Value}{E:TypeId}(ho:OwnS S w0 w L)(hi:L[i]?=some (.cells b cs E))(hs:(P.info? T).map (·.size)=some new.length)(hv:∀v∈new,v.oneCell'=true)(hl:cs.length=new.length)
  (k:∀w',OwnS S w0 w' (L.set i (.cells b new E))→K undef w'):DoX P (mStore T (.pointer (some ⟨b,0,none⟩)) (.agg new.toArray)) w PK K:=
 do_skip (mu_run (run_store_agg hs hv hl (ho.at_ i hi))) (k _ (setRow_own ho i hi _))
theorem ret_same {f:Nat}{args:Array Value}{v:Value}{C:World→Prop}(h:Ret P f args w (fun v' w'=>v'=v∧w=w'))(hb:C w):Ret P f args w (fun v' w'=>v'=v∧C w'):=
 h.mono fun v' w' r=>⟨r.1,r.2▸hb⟩
theorem ret_grew {f:Nat}{args:Array Value}{v:Value}{w1:World}(h:Ret P f args w (fun v' w'=>v'=v∧Below w.heap.size w w'))(hb:Below w1.heap.size w1 w):Ret P f args w (fun v' w'=>v'=v∧Below w1.heap.size w1 w'):=
 h.mono fun v' w' r=>⟨r.1,(((Own.start w1).grow hb).grow r.2).done⟩
theorem ret_v1 {r1:RV}{v1:Value}{K:Ending→World→Prop}(h1:r1.read.run P w=.ok v1 w)(k:K (.returned v1) w):RetX P [r1] w K:=
 ⟨_,by simp[resRun,h1],k⟩
theorem ret_v2 {r1 r2:RV}{v1 v2:Value}{K:Ending→World→Prop}(h1:r1.read.run P w=.ok v1 w)(h2:r2.read.run P w=.ok v2 w)(k:K (.returned (.tuple #[v1,v2])) w):RetX P [r1,r2] w K:=
 ⟨_,by simp[resRun,h1,h2],k⟩
theorem ret_v3 {r1 r2 r3:RV}{v1 v2 v3:Value}{K:Ending→World→Prop}(h1:r1.read.run P w=.ok v1 w)(h2:r2.read.run P w=.ok v2 w)(h3:r3.read.run P w=.ok v3 w)(k:K (.returned (.tuple #[v1,v2,v3])) w):RetX P [r1,r2,r3] w K:=
 ⟨_,by simp[resRun,h1,h2,h3],k⟩
theorem rv_cell {T:TypeId}{a:Addr}{v:Value}(h:AtV P w T a v):(RV.cell (.pointer (some a)) T).read.run P w=.ok v w:=by
 unfold AtV at h;simp[RV.read,asAddr,h]
theorem rv_val {v:Value}:(RV.val v).read.run P w=.ok v w:=by simp[RV.read]
end
end Eng
end
section
namespace Eng
open Go.RowKit
section
variable {S:Nat→Prop}{P:Program}{w w0:World}{L:List Ent}{PK:PKT}{K:VWP}
theorem OwnS.join {w':World}{L':List Ent}(h:OwnS S w0 w L)(k:OwnS NoB w w' L'):OwnS S w0 w' (L'++L):=by
 have h':=h.grow k.below;refine⟨h'.grew,fun e he=>?_,List.pairwise_append.2 ⟨k.apart,h'.apart,fun e he f hf b hb hb'=>?_⟩⟩
 ·rcases List.mem_append.1 he with he|he
  ·obtain⟨a,b⟩:=k.all e he;refine⟨a,fun j hj=>.inr ?_⟩;rcases b j hj with h1|h1
   ·exact h1.elim
   ·exact Nat.le_trans h.size h1
  ·exact h'.all e he
 ·have h2:=f.lt (h.mem hf) b hb';rcases (k.all e he).2 b hb with h1|h1
  ·exact h1
  ·omega
theorem o_beg {l:Nat}{L0:Loop}{K:World→Prop}(i:Nat)(ho:OwnS S w0 w L)(hi:L[i]?=some (.obj l (lp L0 .ready none)))(k:∀w',OwnS S w0 w' (L.set i (.obj l (lp L0 .busy none)))→K w'):BegX P l w K:=
 ⟨_,run_beginRound (ho.at_ i hi),k _ (put_iter ho i hi)⟩
theorem o_end {l:Nat}{L0:Loop}{j:Option Code}{R:VWP}(i:Nat)(ho:OwnS S w0 w L)(hi:L[i]?=some (.obj l (lp L0 .busy none)))(k:∀w',OwnS S w0 w' (L.set i (.obj l (lp L0 (if j.isNone then .ready else .done) j)))→R (.bool j.isNone) w'):EndX P l j w R:=
 ⟨_,_,run_endRound (ho.at_ i hi),k _ (put_iter ho i hi)⟩
theorem c_yld {l:Nat}{args:List Value}{R:VWP}(h:Yld P l args w R)(k:∀v w',R v w'→K v w'):DoX P (mCallV (.func (.yield l) #[] #[]) args.toArray) w PK K:=by
 obtain⟨fn,tmps,asn,bdy,h1,h2⟩:=h;have hr:(mCallV (.func (.yield l) #[] #[]) args.toArray).run P w=.ok (.round l fn tmps asn bdy) w:=by
  rw[←h1];simp[mCallV,invoke,Deferred.ofValue,resolve]
 refine⟨?_⟩;rw[hr];refine⟨RoundIn.mono h2 ?_⟩;rintro e w' ⟨v,rfl,hv⟩;exact k v w' hv
theorem range {js:List (Option Code×(Nat→World→Prop))}{B:Nat→List Value→World→(VWP)→Prop}{np f:Nat}{fa ca:Array Value}(ho:OwnS S w0 w L)(hp:plainB P f=true)
  (h:∀(L0:Loop) (df lb:Nat) (w1:World),OwnS S w0 w1 (.obj lb (lp L0 .ready none)::.obj df (.deferred (some []))::L) →
   (∀args W R,W.heap[lb]?=some (lp L0 .ready none)→args.length=np→B lb args W R→Yld P lb args W R) →
   Calls P f (fa++#[.func (.yield lb) #[] #[]]++ca) w1 fun e w3=>∃v st pd k,e=.returned v∧st≠.busy∧w3.heap[lb]?=some (lp L0 st pd)∧(pd,k)∈js∧k df (putO w3 lb (lp L0 .exhausted pd))) :
  RangeX P none np (.func (.func f) fa ca) w B js:=by
 refine⟨f,fa,ca,w.heap.size,w.alloc (.deferred (some [])),rfl,hp,⟨rfl,rfl⟩,fun L0 _ hy=>?_⟩;exact h L0 w.heap.size (w.alloc (.deferred (some []))).heap.size _ ((ho.allocObj _).allocObj _) (fun args W R h1 h2 h3=>hy _ args W R h1 h2 h3)
theorem leave1 {rs:List RV}{K:Ending→World→Prop}{df:Nat}(i:Nat)(ho:OwnS S w0 w L)(hi:L[i]?=some (.obj df (.deferred (some []))))(k:∀w',OwnS S w0 w' (L.set i (.obj df (.deferred none)))→RetD P rs w' K):LeaveM P rs K [mkD df] .returning w:=by
 refine⟨(fun h=>by cases h),df,_,rfl,?_,k _ (put_iter ho i hi)⟩;have h:w.heap[df]?=some (.deferred (some [])):=ho.at_ i hi;simp[Instr.takeDeferred,getObj,setObj,Sem.run,h]
end
end Eng
end
section
namespace Eng
open Go.RowKit
def eqSh (P:Program):List Field→Option (List (Nat×Bool))
|[]=>some []
|f::fs=>
  if f.name=="_" then none
  else match P.underlying f.type with
  |some (.int _)=>(eqSh P fs).map ((f.offset,false)::·)
  |some .string=>(eqSh P fs).map ((f.offset,true)::·)
  |_=>none
def cellOk:Bool→Option Value→Option Value→Bool
|false,some (.int k _),some (.int k' _)=>decide (k=k')
|true,some (.string _),some (.string _)=>true
|_,_,_=>false
def cellEq:Option Value→Option Value→Bool
|some (.int _ a),some (.int _ b)=>a==b
|some (.string a),some (.string b)=>a.toList==b.toList
|_,_=>false
section
variable {P:Program}{w:World}{PK:PKT}{K:VWP}
theorem run_eqSh (d:Nat)(xs ys:Array Value):∀(fs:List Field) (sh:List (Nat×Bool)),eqSh P fs=some sh→(sh.all fun p=>cellOk p.2 xs[p.1]? ys[p.1]?)=true →
  (Op.eqFields (d+1) xs ys fs).run P w=.ok (sh.all fun p=>cellEq xs[p.1]? ys[p.1]?) w
|[],sh,h,_=>by
  cases h;simp[Op.eqFields]
|f::fs,sh,h,hok=>by
  rw[eqSh] at h;split at h
  ·cases h
  ·rename_i hn
   have hn':f.name≠"_":=by simpa using hn
   split at h
   ·rename_i k hu
    obtain⟨sh',h',rfl⟩:=Option.map_eq_some_iff.1 h;simp only[List.all_cons,Bool.and_eq_true] at hok;obtain⟨h0,hok⟩:=hok;have ih:=run_eqSh d xs ys fs sh' h' hok;cases hx:xs[f.offset]? with
   |none=>rw[hx] at h0;cases h0
   |some a=>
     cases hy:ys[f.offset]? with
    |none=>rw[hx,hy] at h0;cases a<;>cases h0
    |some b=>
      rw[hx,hy] at h0;cases a<;>cases b<;>first|(cases h0;done)|skip
      rename_i k1 a k2 b
      simp only[cellOk,decide_eq_true_eq] at h0;subst h0;simp only[Op.eqFields,hn',ne_eq,not_false_eq_true,if_true,Sem.run_bind,part,isAgg,run_underlying hu,Result.andThen_ok,Sem.run_pure,Bool.false_eq_true,if_false,hx,hy,run_equalIn_int w d f.type k1 k a b hu,List.all_cons,cellEq];cases hab:(a==b)
      ·simp
      ·simp[ih];rfl
   ·rename_i hu
    obtain⟨sh',h',rfl⟩:=Option.map_eq_some_iff.1 h;simp only[List.all_cons,Bool.and_eq_true] at hok;obtain⟨h0,hok⟩:=hok;have ih:=run_eqSh d xs ys fs sh' h' hok;cases hx:xs[f.offset]? with
   |none=>rw[hx] at h0;cases h0
   |some a=>
     cases hy:ys[f.offset]? with
    |none=>rw[hx,hy] at h0;cases a<;>cases h0
    |some b=>
      rw[hx,hy] at h0;cases a<;>cases b<;>first|(cases h0;done)|skip
      rename_i a b
      simp only[Op.eqFields,hn',ne_eq,not_false_eq_true,if_true,Sem.run_bind,part,isAgg,run_underlying hu,Result.andThen_ok,Sem.run_pure,Bool.false_eq_true,if_false,hx,hy,run_equalIn_string w d f.type a b hu,List.all_cons,cellEq];cases hab:(a.toList==b.toList)
      ·simp
      ·simp[ih];rfl
   ·cases h
def eqT (P:Program)(T:TypeId)(sh:List (Nat×Bool)):Prop:=
 P.underlying T=some (.struct (P.fieldsOf T))∧P.stoodInHeld T=false∧P.eqGuardType P.depth T=false∧eqSh P (P.fieldsOf T).toList=some sh
theorem run_eql_agg {T:TypeId}{sh:List (Nat×Bool)}(h:eqT P T sh){xo yo:Operand}{xs ys:Array Value}(hok:(sh.all fun p=>cellOk p.2 xs[p.1]? ys[p.1]?)=true) :
  (mEq .eql T xo yo (.agg xs) (.agg ys)).run P w=.ok (.value (.bool (sh.all fun p=>cellEq xs[p.1]? ys[p.1]?))) w:=by
 obtain⟨h1,h2,h3,h4⟩:=h;refine mv_run ?_;rw[Sem.run_bind,run_eqGuard_agg w .eql T xo yo xs ys h3];simp only[Result.andThen_ok];rw[run_eql_struct,run_equalIn_struct w 9999 T xs ys h1 h2,run_eqSh 9998 xs ys _ sh h4 hok];rfl
end
end Eng
end
section
namespace Eng
open Go.RowKit
section
variable {P:Program}{C:World→Prop}{K:Value→Prop}
theorem gq_tt {E:(Value→Prop)→Prop}:GQ (.bool true) true E K=E K:=propext ⟨fun x=>x.out,fun x=>⟨x⟩⟩
theorem gq_ft {E:(Value→Prop)→Prop}:GQ (.bool false) true E K=K undef:=propext ⟨fun x=>x.out,fun x=>⟨x⟩⟩
theorem gq_ff {E:(Value→Prop)→Prop}:GQ (.bool false) false E K=E K:=propext ⟨fun x=>x.out,fun x=>⟨x⟩⟩
theorem gq_tf {E:(Value→Prop)→Prop}:GQ (.bool true) false E K=K undef:=propext ⟨fun x=>x.out,fun x=>⟨x⟩⟩
theorem gq_un {want:Bool}{E:(Value→Prop)→Prop}:GQ undef want E K=K undef:=propext ⟨fun x=>x.out,fun x=>⟨x⟩⟩
def gq:=And.intro @gq_tt (And.intro @gq_ft (And.intro @gq_ff (And.intro @gq_tf @gq_un)))
theorem q_add {T:TypeId}{k:IntKind}{a b:Int}(h:K (.int k (k.wrap (a+b)))):QDo P C (mBin .add T (.int k a) (.int k b)) K:=q_do _ (fun _=>r_add) h
theorem q_lss {T:TypeId}{k:IntKind}{a b:Int}(h:K (.bool (decide (a < b)))):QDo P C (mBin .lss T (.int k a) (.int k b)) K:=q_do _ (fun _=>mv_run (by simp[binOp,Op.intCmp])) h
theorem q_leq {T:TypeId}{k:IntKind}{a b:Int}(h:K (.bool (decide (a≤b)))):QDo P C (mBin .leq T (.int k a) (.int k b)) K:=q_do _ (fun _=>mv_run (by simp[binOp,Op.intCmp])) h
theorem q_gtr {T:TypeId}{k:IntKind}{a b:Int}(h:K (.bool (decide (b < a)))):QDo P C (mBin .gtr T (.int k a) (.int k b)) K:=q_do _ (fun _=>mv_run (by simp[binOp,Op.intCmp])) h
theorem q_eq {T:TypeId}{xo yo:Operand}{k:IntKind}{a b:Int}(h:K (.bool (decide (a=b)))):QDo P C (mEq .eql T xo yo (.int k a) (.int k b)) K:=q_do _ (fun _=>mv_run (by simp[eqGuard,binOp,Op.intCmp,int_beq])) h
theorem q_ne {T:TypeId}{xo yo:Operand}{k:IntKind}{a b:Int}(h:K (.bool (decide (a≠b)))):QDo P C (mEq .neq T xo yo (.int k a) (.int k b)) K:=q_do _ (fun _=>mv_run (by simp[eqGuard,binOp,Op.intCmp,int_bne])) h
theorem q_pick {c:Bool}{a b:Value}(h:K (if c then a else b)):QDo P C (mPick (.bool c) a b) K:=q_do _ (fun _=>by simp[mPick,asBool]) h
theorem q_pt {a b:Value}(h:K a):QDo P C (mPick (.bool true) a b) K:=q_pick h
theorem q_pf {a b:Value}(h:K b):QDo P C (mPick (.bool false) a b) K:=q_pick h
theorem q_slen {T U:TypeId}{cs:Array Bool}{a:List UInt8}(ht:P.underlying T=some .string)(h:K (.int .i64 (a.length:Int))):QDo P C (mB .len #[T] U cs #[.string ⟨a.toArray⟩]) K:=q_do _ (fun _=>run_len ht) h
theorem q_sne {T:TypeId}{xo yo:Operand}{a b:List UInt8}(h:K (.bool (decide (a≠b)))):QDo P C (mEq .neq T xo yo (.string ⟨a.toArray⟩) (.string ⟨b.toArray⟩)) K:=by
 refine q_do _ (fun _=>mv_run ?_) h;have e:(a==b)=decide (a=b):=by by_cases h:a=b<;>simp[h]
 simp[eqGuard,binOp,Op.stringOp,str_toList,e]
theorem q_seq {T:TypeId}{xo yo:Operand}{a b:List UInt8}(h:K (.bool (decide (a=b)))):QDo P C (mEq .eql T xo yo (.string ⟨a.toArray⟩) (.string ⟨b.toArray⟩)) K:=by
 refine q_do _ (fun _=>mv_run ?_) h;have e:(a==b)=decide (a=b):=by by_cases h:a=b<;>simp[h]
 simp[eqGuard,binOp,Op.stringOp,str_toList,e]
end
end Eng
end
section
namespace Eng
open Go.RowKit
theorem OwnS.perm {S:Nat→Prop}{w0 w:World}{L L':List Ent}(h:OwnS S w0 w L)(hp:L.Perm L'):OwnS S w0 w L':=
 ⟨h.grew,fun e he=>h.all e (hp.mem_iff.2 he),(hp.pairwise_iff (fun {x y} hxy k hy hx=>hxy k hx hy)).1 h.apart⟩
theorem OwnS.front {S:Nat→Prop}{w0 w:World}{A B C:List Ent}(h:OwnS S w0 w (A++(B++C))):OwnS S w0 w (B++(A++C)):=
 h.perm (by rw[←List.append_assoc,←List.append_assoc];exact List.Perm.append_right C List.perm_append_comm)
end Eng
end
section
namespace Eng
open Go.RowKit
def Ent.urow (T:TypeId)(sz:Nat)(v:Value)(n:Nat)(xs:List Value):Ent:=
 ⟨fun k=>v.ownBlock=some k,fun w=>w.ownsRow 0 T sz v n xs,fun {w w'} h k=>by
  refine⟨h.1,?_⟩;rcases h.2 with hn|⟨g,cap,cur,rfl,hb,hgg,rest⟩
  ·exact .inl hn
  ·exact .inr ⟨g,cap,cur,rfl,hb,(k g rfl).trans hgg,rest⟩,fun h k hk=>(World.ownsRowF.lt (World.ownsRowF_of h) k hk).2⟩
section
variable {S:Nat→Prop}{P:Program}{w:World}{PK:PKT}{K:VWP}
theorem urow_row {T:TypeId}{sz:Nat}{v:Value}{n:Nat}{xs:List Value}(h:(Ent.urow T sz v n xs).is w):(Ent.row T sz v n xs).is w:=World.ownsRowF_of h
theorem Sl.urow {T:TypeId}{sz:Nat}{v:Value}{n:Nat}{xs:List Value}(h:(Ent.urow T sz v n xs).is w):Sl w v sz n xs:=Sl.row (urow_row h)
theorem OwnS.nilU {w0:World}{L:List Ent}(ho:OwnS S w0 w L)(E:TypeId)(sz:Nat):OwnS S w0 w (.urow E sz (.slice none 0 0) 0 []::L):=by
 refine⟨ho.grew,fun e he=>?_,.cons (fun f hf k hk=>by simp[Ent.urow,Value.ownBlock] at hk) ho.apart⟩;rcases List.mem_cons.1 he with rfl|he
 ·exact⟨⟨by simp,.inl ⟨rfl,rfl⟩⟩,fun k hk=>by simp[Ent.urow,Value.ownBlock] at hk⟩
 ·exact ho.all e he
theorem OwnS.toU {w0:World}{L:List Ent}{b:Nat}{cs:List Value}{E:TypeId}(ho:OwnS S w0 w (.cells b cs E::L))(sz n cap:Nat)(hl:cs.length=cap*sz)(hn:n≤cap)(hc:cap≤9223372036854775807) :
  OwnS S w0 w (.urow E sz (.slice (some ⟨b,0,none⟩) n cap) n (cs.take (n*sz))::L):=by
 refine⟨ho.grew,fun e he=>?_,?_⟩
 ·rcases List.mem_cons.1 he with rfl|he
  ·refine⟨⟨by rw[List.length_take,hl,Nat.min_eq_left (Nat.mul_le_mul_right _ hn)],.inr ⟨b,cap,cs.toArray,rfl,Nat.zero_le _,ho.at_ 0 rfl,hn,by simp only[maxLen];omega,by simpa using hl,by simp⟩⟩,fun k hk=>?_⟩;simp only[Ent.urow,Value.ownBlock,Option.some.injEq] at hk;exact (ho.all (.cells b cs E) (by simp)).2 k hk.symm
  ·exact ho.all e (by simp[he])
 ·refine .cons (fun f hf k hk=>?_) (List.pairwise_cons.1 ho.apart).2;simp only[Ent.urow,Value.ownBlock,Option.some.injEq] at hk;exact (List.pairwise_cons.1 ho.apart).1 f hf k hk.symm
theorem run_append_anyU {T E U:TypeId}{cs:Array Bool}{v v2:Value}{sz bytes n m:Nat}{xs news:List Value}(ht:P.underlying T=some (.slice E))(he:elB P E sz bytes=true)(hsz:0 < sz)
  (hown:w.ownsRow 0 E sz v n xs) (hs:Sl w v2 sz m news) (h1:∀u∈news,u.oneCell'=true) (hb:(n+m)*bytes≤140737488355328) (hb2:n+m≤140737488355328) :
  ∃v' w',(mB .append #[T,T] U cs #[v,v2]).run P w=.ok (.value v') w'∧Turn (.urow E sz v n xs) (.urow E sz v' (n+m) (xs++news)) w w':=by
 obtain⟨v',w',r,t⟩:=run_append_any (P:=P) (U:=U) (cs:=cs) ht he hsz (World.ownsRowF_of hown) hs h1 hb hb2;refine⟨v',w',r,t.grew,?_,t.new⟩;obtain⟨i,z,hi,hz,hi1,hi2,hz1⟩:=elB_spec he;obtain⟨hl,a,cap,rfl,hn,hc⟩:=hs;have hmx:n+m≤maxLen:=by simp only[maxLen];omega
 cases a with
|some p=>
  have hh:∀j u,news[j]?=some u→w.cell? (p.add j)=some u:=by
   intro j u hj;have hlt:j < news.length:=(List.getElem?_eq_some_iff.1 hj).1;have hm:0 < m:=by
    rcases Nat.eq_zero_or_pos m with h0|h0
    ·subst h0;simp at hl;rw[hl] at hlt;simp at hlt
    ·exact h0
   obtain⟨hsp,hcell⟩:=hc p rfl;have:=hsp hm;obtain⟨b,off,spot⟩:=p;simp only at this hcell;subst this;rw[add_none];exact hcell j u hj
  obtain⟨v2,w2,r1,r2,r3,r4⟩:=run_append_own (P:=P) w 0 T U E i z sz bytes ht hi hz hi1 hi2 hz1 hsz v n xs hown p m cap news hl hh h1 hmx hb (Nat.zero_le _);have:(mB .append #[T,T] U cs #[v,.slice (some p) m cap]).run P w=.ok (.value v2) w2:=by simp[mB,builtin,r1]
  rw[this] at r;cases r;exact r2
|none=>
  have h0:=hn rfl;subst h0;have hnil:news=[]:=List.eq_nil_of_length_eq_zero (by simpa using hl);subst hnil;have:(mB .append #[T,T] U cs #[v,.slice none 0 cap]).run P w=.ok (.value v) w:=by
   rcases hown.2 with ⟨rfl,rfl⟩|⟨g,cp,cur,rfl,_,_,hnc,_⟩
   ·simp[mB,builtin,Builtin.append_,run_underlying ht,sizeOf,typeInfo,hi,Builtin.lenOf,Builtin.firstCells]
   ·simp[mB,builtin,Builtin.append_,run_underlying ht,sizeOf,typeInfo,hi,Builtin.lenOf,Builtin.firstCells,hnc,storeCells]
  rw[this] at r;cases r;rw[List.append_nil];exact hown
theorem o_appendU {w0:World}{L:List Ent}(i:Nat){T E U:TypeId}{cs:Array Bool}{v v2:Value}{sz bytes n m:Nat}{xs news:List Value}(ht:P.underlying T=some (.slice E))(he:elB P E sz bytes=true)(hsz:0 < sz)
  (ho:OwnS S w0 w L) (hi:L[i]?=some (.urow E sz v n xs)) (hs:Sl w v2 sz m news) (h1:∀u∈news,u.oneCell'=true) (hb:(n+m)*bytes≤140737488355328) (hb2:n+m≤140737488355328)
  (k:∀v' w',OwnS S w0 w' (L.set i (.urow E sz v' (n+m) (xs++news)))→K v' w'):DoX P (mB .append #[T,T] U cs #[v,v2]) w PK K:=by
 obtain⟨v',w',r,t⟩:=run_append_anyU (cs:=cs) (U:=U) ht he hsz (ho.at_ i hi) hs h1 hb hb2;exact do_ok r (k _ _ (ho.turn i hi t))
theorem run_store_in {T:TypeId}{g off:Nat}{cur:Array Value}{E:TypeId}{u:Value}{new:List Value}(hc:u.cells=new.toArray)(hs:(P.info? T).map (·.size)=some new.length)(h1:∀x∈new,x.oneCell'=true)
  (hg:w.heap[g]?=some (.cells cur E (0,0))) (hl:off+new.length≤cur.size) :
  (Instr.storeAt T (.pointer (some ⟨g,off,none⟩)) u).run P w=.ok () (w.setRow g (cur.toList.take off++new++cur.toList.drop (off+new.length)).toArray):=by
 have hst:=run_storeCells_at P g off E new 0 cur w hg (by simpa using hl) h1;obtain⟨i,hi,h2⟩:=Option.map_eq_some_iff.1 hs;simp only[Nat.add_zero] at hst;simp[Instr.storeAt,Instr.sureAddr,storeVar,hc,sizeOf,typeInfo,hi,h2,hst]
theorem o_storeU {w0:World}{L:List Ent}(i:Nat){T E:TypeId}{g off n cap sz:Nat}{xs new:List Value}{u:Value}(ho:OwnS S w0 w L)(hi:L[i]?=some (.urow E sz (.slice (some ⟨g,0,none⟩) n cap) n xs))
  (hc:u.cells=new.toArray) (hs:(P.info? T).map (·.size)=some new.length) (h1:∀x∈new,x.oneCell'=true) (hl:off+new.length≤n*sz)
  (k:∀w',OwnS S w0 w' (L.set i (.urow E sz (.slice (some ⟨g,0,none⟩) n cap) n (xs.take off++new++xs.drop (off+new.length))))→K undef w'):DoX P (mStore T (.pointer (some ⟨g,off,none⟩)) u) w PK K:=by
 have hown:w.ownsRow 0 E sz (.slice (some ⟨g,0,none⟩) n cap) n xs:=ho.at_ i hi;rcases hown.2 with ⟨h0,_⟩|⟨g',cap',cur,he,hb,hg,hnc,hcm,hcs,htake⟩
 ·cases h0
 cases he;have hle:n*sz≤cur.size:=by rw[hcs];exact Nat.mul_le_mul_right _ hnc
 refine do_skip (mu_run (run_store_in hc hs h1 hg (by omega))) (k _ ?_);refine ho.put i hi (w':=w.setRow g _) ⟨rfl,rfl,rfl,by simp[World.setRow],fun k _ hk=>setRow_other w g k _ (fun e=>hk (by simp[Ent.urow,Value.ownBlock,e]))⟩ _ ?_ (fun k hk=>.inl hk);have hxl:=hown.1;have hcl:cur.toList.length=cap*sz:=by simpa using hcs
 refine⟨by simp only[List.length_append,List.length_take,List.length_drop];omega,.inr ⟨g,cap,_,rfl,hb,setRow_heap w g cur _ E (0,0) hg,hnc,hcm,?_,?_⟩⟩
 ·simp only[List.size_toArray,List.length_append,List.length_take,List.length_drop];omega
 ·subst htake;rw[List.take_take,Nat.min_eq_left (by omega)];simp only[List.append_assoc];rw[List.take_append,List.take_append,List.take_of_length_le (l:=cur.toList.take off) (by simp;omega),List.take_of_length_le (l:=new) (by simp;omega)]
  congr 2
  rw[List.length_take,Nat.min_eq_left (by omega),List.drop_take]
  congr 1
  omega
end
end Eng
end
end Go.Proofs.YtoobidofdpdkbaaGreatDoor

namespace Go.Proofs.YtoobidofdpdkbaaGreatDoor
section
open Eng Go.RowKit Go.ChangeShapes Go.WideShapes
inductive Ob where
|mk (k n g:Int) (s:List UInt8) (keys:List (List UInt8)) (kids:List Ob)
namespace Ob
def k:Ob→Int|.mk k _ _ _ _ _=>k
def n:Ob→Int|.mk _ n _ _ _ _=>n
def g:Ob→Int|.mk _ _ g _ _ _=>g
def s:Ob→List UInt8|.mk _ _ _ s _ _=>s
def keys:Ob→List (List UInt8)|.mk _ _ _ _ keys _=>keys
def kids:Ob→List Ob|.mk _ _ _ _ _ kids=>kids
 mutual
def wt:Ob→Nat
|.mk _ _ _ s keys kids=>6+s.length+Pl.tot keys+wts kids
def wts:List Ob→Nat
|[]=>0
|o::os=>wt o+wts os
end
end Ob
def SlA (A:Nat→Prop)(w:World)(v:Value)(sz n:Nat)(cs:List Value):Prop:=Sl w v sz n cs∧(∀p l c,v=.slice (some p) l c→0 < n→A p.block)∧∀a l c,v=.slice a l c→l≤c
 mutual
def OV (A:Nat→Prop)(w:World):Value→Ob→Prop
|v,.mk k n g s keys kids=>∃vk vc cs,v=.agg #[.int .i64 k,.int .i64 n,.int .i64 g,.string ⟨s.toArray⟩,vk,vc]∧SlA A w vk 1 keys.length (strsV keys)∧SlA A w vc 6 kids.length cs∧OVs A w cs kids
def OVs (A:Nat→Prop)(w:World):List Value→List Ob→Prop
|cs,[]=>cs=[]
|cs,o::os=>∃(a rest:List Value),cs=a++rest∧a.length=6∧OV A w (.agg a.toArray) o∧OVs A w rest os
end
def Kept (A:Nat→Prop)(w w':World):Prop:=∀b,A b→w'.heap[b]?=w.heap[b]?
theorem cell_kept {A:Nat→Prop}{w w':World}(h:Kept A w w'){p:Addr}{v:Value}(hp:A p.block)(hc:w.cell? p=some v):w'.cell? p=some v:=by
 have:=h p.block hp;unfold World.cell? at hc ⊢;rw[this];exact hc
theorem SlA.kept {A:Nat→Prop}{w w':World}{v:Value}{sz n:Nat}{cs:List Value}(h:SlA A w v sz n cs)(hk:Kept A w w'):SlA A w' v sz n cs:=by
 obtain⟨⟨hl,a,cap,rfl,h1,h2⟩,hA,hC⟩:=h;refine⟨⟨hl,a,cap,rfl,h1,fun p hp=>?_⟩,hA,hC⟩;obtain⟨h3,h4⟩:=h2 p hp;refine⟨h3,fun j u hj=>?_⟩;have hn:0 < n:=by
  rcases Nat.eq_zero_or_pos n with h|h
  ·subst h;rw[Nat.zero_mul] at hl;have:=(List.getElem?_eq_some_iff.1 hj).1;omega
  ·exact h
 exact cell_kept hk (hA p n cap (by rw[hp]) hn) (h4 j u hj)
 mutual
theorem OV.kept {A:Nat→Prop}{w w':World}(hk:Kept A w w'):∀(o:Ob) (v:Value),OV A w v o→OV A w' v o
|.mk k n g s keys kids,v,h=>by
  rw[OV] at h ⊢;obtain⟨vk,vc,cs,hv,h1,h2,h3⟩:=h;exact⟨vk,vc,cs,hv,h1.kept hk,h2.kept hk,OVs.kept hk kids cs h3⟩
theorem OVs.kept {A:Nat→Prop}{w w':World}(hk:Kept A w w'):∀(os:List Ob) (cs:List Value),OVs A w cs os→OVs A w' cs os
|[],cs,h=>by rw[OVs] at h ⊢;exact h
|o::os,cs,h=>by
  rw[OVs] at h ⊢;obtain⟨a,rest,he,hl,h1,h2⟩:=h;exact⟨a,rest,he,hl,OV.kept hk o _ h1,OVs.kept hk os rest h2⟩
end
 mutual
theorem OV.mono {A B:Nat→Prop}{w:World}(hAB:∀b,A b→B b):∀(o:Ob) (v:Value),OV A w v o→OV B w v o
|.mk k n g s keys kids,v,h=>by
  rw[OV] at h ⊢;obtain⟨vk,vc,cs,hv,h1,h2,h3⟩:=h;exact⟨vk,vc,cs,hv,⟨h1.1,fun p l c e hn=>hAB _ (h1.2.1 p l c e hn),h1.2.2⟩,⟨h2.1,fun p l c e hn=>hAB _ (h2.2.1 p l c e hn),h2.2.2⟩,OVs.mono hAB kids cs h3⟩
theorem OVs.mono {A B:Nat→Prop}{w:World}(hAB:∀b,A b→B b):∀(os:List Ob) (cs:List Value),OVs A w cs os→OVs B w cs os
|[],cs,h=>by rw[OVs] at h ⊢;exact h
|o::os,cs,h=>by
  rw[OVs] at h ⊢;obtain⟨a,rest,he,hl,h1,h2⟩:=h;exact⟨a,rest,he,hl,OV.mono hAB o _ h1,OVs.mono hAB os rest h2⟩
end
theorem OVs.len {A:Nat→Prop}{w:World}:∀(os:List Ob) (cs:List Value),OVs A w cs os→cs.length=os.length*6
|[],cs,h=>by rw[OVs] at h;subst h;rfl
|o::os,cs,h=>by
  rw[OVs] at h;obtain⟨a,rest,rfl,hl,_,h2⟩:=h;rw[List.length_append,hl,OVs.len os rest h2,List.length_cons];omega
theorem OVs.get {A:Nat→Prop}{w:World}:∀(os:List Ob) (cs:List Value) (i:Nat) (hi:i < os.length),OVs A w cs os→∃a:List Value,a.length=6∧OV A w (.agg a.toArray) os[i]∧∀j v,a[j]?=some v→cs[i*6+j]?=some v
|[],cs,i,hi,h=>by simp at hi
|o::os,cs,0,hi,h=>by
  rw[OVs] at h;obtain⟨a,rest,rfl,hl,h1,h2⟩:=h;refine⟨a,hl,h1,fun j v hj=>?_⟩;rw[Nat.zero_mul,Nat.zero_add,List.getElem?_append_left (List.getElem?_eq_some_iff.1 hj).1];exact hj
|o::os,cs,i+1,hi,h=>by
  rw[OVs] at h;obtain⟨a,rest,rfl,hl,h1,h2⟩:=h;obtain⟨b,hb,hv,hc⟩:=OVs.get os rest i (by simpa using hi) h2;refine⟨b,hb,hv,fun j v hj=>?_⟩;rw[List.getElem?_append_right (by omega),hl,show (i+1)*6+j - 6=i*6+j by omega];exact hc j v hj
theorem OVs.nil {A:Nat→Prop}{w:World}:OVs A w [] []:=by rw[OVs]
theorem SlA.of_cells {A:Nat→Prop}{W:World}{a:Addr}{len cap sz:Nat}{cs:List Value}(hsz:0 < sz)(hl:cs.length=len*sz)(hc:∀j u,cs[j]?=some u→W.cell? (a.add j)=some u)(hA:∀b,b < W.heap.size→A b)(hlc:len≤cap):SlA A W (.slice (some a) len cap) sz len cs:=by
 have plain:0 < len→a.spot=none∧a.block < W.heap.size:=by
  intro hn;have h0:0 < cs.length:=by rw[hl];exact Nat.mul_pos hn hsz
  have h1:=hc 0 cs[0] (List.getElem?_eq_getElem h0);have e0:a.add 0=a:=by simp[Addr.add]
  rw[e0] at h1;unfold World.cell? at h1;split at h1
  ·rename_i hb
   have hlt:=lt_of_get hb;split at h1
   ·cases h1
   ·rename_i hh;exact⟨by simpa using hh,hlt⟩
  ·cases h1
 refine⟨⟨hl,some a,cap,rfl,(fun h=>by cases h),fun p hp=>?_⟩,fun p l c e hn=>?_,fun a' l c e=>by injection e with _ e2 e3;omega⟩
 ·cases hp;refine⟨fun h=>(plain h).1,fun j u hj=>?_⟩;have hn:0 < len:=by
   rcases Nat.eq_zero_or_pos len with h|h
   ·subst h;rw[Nat.zero_mul] at hl;have:=(List.getElem?_eq_some_iff.1 hj).1;omega
   ·exact h
  have h1:=hc j u hj;obtain⟨b,off,spot⟩:=a;have:=(plain hn).1;simp only at this;subst this;rw[show (⟨b,off,none⟩:Addr).add j=⟨b,off+j,none⟩ from add_none b off j] at h1;exact h1
 ·injection e with e _ _
  cases e;exact hA _ (plain hn).2
theorem SlA.nil (A:Nat→Prop)(w:World)(sz cap:Nat):SlA A w (.slice none 0 cap) sz 0 []:=⟨Sl.nil w sz cap,(fun p l c e _=>by injection e with e _ _;cases e),fun a l c e=>by injection e with _ e2 e3;omega⟩
end
section
open Eng Go.RowKit Go.ChangeShapes Go.WideShapes
theorem bulkAll_append {H:Type}:∀(a b:List (DataW H)),Rows.uptoBulkAll (a++b)=Rows.uptoBulkAll a+Rows.uptoBulkAll b
|[],b=>by simp[Rows.uptoBulkAll]
|x::a,b=>by rw[List.cons_append,Rows.uptoBulkAll,bulkAll_append a b,Rows.uptoBulkAll];omega
theorem bulk_strs {H:Type}:∀ss:List ByteArray,Rows.uptoBulkAll (strs (H:=H) ss)=Pl.tot (ss.map (·.data.toList))
|[]=>by simp[strs,Rows.uptoBulkAll,Pl.tot]
|s::ss=>by
  have:=bulk_strs (H:=H) ss;rw[show strs (H:=H) (s::ss)=.lit (.string s.data.toList)::strs ss from rfl,Rows.uptoBulkAll,this,Rows.uptoBulk];simp[Pl.tot]
theorem OVs.snoc {A:Nat→Prop}{w:World}{a:List Value}{o:Ob}(hl:a.length=6)(ho:OV A w (.agg a.toArray) o):∀(os:List Ob) (cs:List Value),OVs A w cs os→OVs A w (cs++a) (os++[o])
|[],cs,h=>by
  rw[OVs] at h;subst h;rw[List.nil_append,List.nil_append,OVs];exact⟨a,[],by simp,hl,ho,OVs.nil⟩
|p::os,cs,h=>by
  rw[OVs] at h;obtain⟨b,rest,rfl,hb,h1,h2⟩:=h;rw[List.cons_append,OVs];exact⟨b,rest++a,by simp,hb,h1,OVs.snoc hl ho os rest h2⟩
theorem wts_snoc (o:Ob):∀os:List Ob,Ob.wts (os++[o])=Ob.wts os+o.wt
|[]=>by simp[Ob.wts]
|p::os=>by rw[List.cons_append,Ob.wts,wts_snoc o os,Ob.wts];omega
theorem addr_add (a:Addr)(m n:Nat):(a.add m).add n=a.add (m+n):=by
 unfold Addr.add;by_cases hm:m=0
 ·subst hm;simp
 ·by_cases hn:n=0
  ·subst hn;simp[hm]
  ·have:¬(m+n=0):=by omega
   simp[hm,hn,Nat.add_assoc]
theorem list6 {α:Type}:∀{l:List α},l.length=6→∃a b c d e f,l=[a,b,c,d,e,f]
|[a,b,c,d,e,f],_=>⟨a,b,c,d,e,f,rfl⟩
section
variable {H:Type}{enc:TypeId×Value→H}{W:World}{sp:Nat→Bool}{held:Bool}
abbrev InW (W:World):Nat→Prop:=fun b=>b < W.heap.size
theorem open_keys {fuel:Nat}{cs:List Value}{x:DataW H×List MemPlace}(h:DataW.trod enc prog W 0 sp held fuel 23 cs=some x) :
  ∃(v:Value) (zs:List (List UInt8)),cs=[v]∧SlA (InW W) W v 1 zs.length (strsV zs)∧Pl.tot zs+1≤Rows.uptoBulk x.1:=by
 rcases open_strings Tryz.underlying23 Tryz.underlying9 (by kernel_rfl) h with ⟨rfl,rfl⟩|⟨a,len,cap,ss,rfl,_,hl,hm,hz,rfl,hcell,hsz⟩
 ·exact⟨_,[],rfl,SlA.nil _ _ _ _,by simp[Pl.tot,Rows.uptoBulk]⟩
 ·have hlz:len≤ss.length:=by rw[hz];split<;>omega
  refine⟨_,(ss.take len).map (·.data.toList),rfl,?_,?_⟩
  ·have hlen:((ss.take len).map (·.data.toList)).length=len:=by simp;omega
   rw[hlen];refine SlA.of_cells (by omega) (by simp[strsV];omega) (fun j u hj=>?_) (fun b hb=>hb) hl;have hjl:j < len:=by
    have:=(List.getElem?_eq_some_iff.1 hj).1;simp[strsV] at this;omega
   rw[hcell j (by omega),←hj];simp[strsV,strV,List.getElem?_take,hjl,List.getD,List.getElem?_eq_getElem (show j < ss.length by omega)]
  ·simp only[Rows.uptoBulk];rw[bulk_strs];omega
set_option maxRecDepth 100000 in
theorem open_obj:∀(fuel:Nat) (cs:List Value) (x:DataW H×List MemPlace),DataW.trod enc prog W 0 sp held fuel 26 cs=some x →
  ∃o:Ob,OV (InW W) W (.agg cs.toArray) o∧o.wt≤Rows.uptoBulk x.1∧cs.length=6:=by
 intro fuel
 induction fuel using Nat.strongRecOn with
|_ fuel ih=>
  intro cs x h;obtain⟨xs,n,rfl,rfl,hl,hxl,hf⟩:=DataW.trod_struct Tryz.underlying26 h;have c6:Tryz.prog.cellsOf 26=6:=by kernel_rfl
  rw[c6] at hl;have hxl:xs.length=6:=hxl;obtain⟨x0,x1,x2,x3,x4,x5,rfl⟩:=list6 hxl;obtain⟨v0,v1,v2,v3,v4,v5,rfl⟩:=list6 hl;have e0:=hf 0 _ rfl;have e1:=hf 1 _ rfl;have e2:=hf 2 _ rfl;have e3:=hf 3 _ rfl;have e4:=hf 4 _ rfl;have e5:=hf 5 _ rfl;have k0:Tryz.prog.cellsOf 3=1:=by kernel_rfl
  have k1:Tryz.prog.cellsOf 2=1:=by kernel_rfl
  have k3:Tryz.prog.cellsOf 9=1:=by kernel_rfl
  have k4:Tryz.prog.cellsOf 23=1:=by kernel_rfl
  have k5:Tryz.prog.cellsOf 24=1:=by kernel_rfl
  simp only[k0,k1,k3,k4,k5,List.drop_zero,List.drop_succ_cons,List.take_succ_cons,List.take_zero,List.getElem?_cons_zero,List.getElem?_cons_succ] at e0 e1 e2 e3 e4 e5;obtain⟨k,hk,rfl,_⟩:=DataW.trod_int Tryz.underlying3 e0;obtain⟨m,hm,rfl,_⟩:=DataW.trod_int Tryz.underlying2 e1;obtain⟨g,hg,rfl,_⟩:=DataW.trod_int Tryz.underlying3 e2;obtain⟨s,hs,rfl,_⟩:=DataW.trod_string Tryz.underlying9 e3;obtain⟨vk,zs,hvk,hsk,hbk⟩:=open_keys e4
  injection hk with hk _
  injection hm with hm _
  injection hg with hg _
  injection hs with hs _
  injection hvk with hvk _
  subst hk;subst hm;subst hg;subst hs;subst hvk;have kids:∃(cs:List Value) (os:List Ob),SlA (InW W) W v5 6 os.length cs∧OVs (InW W) W cs os∧Ob.wts os+1≤Rows.uptoBulk x5.1:=by
   rcases DataW.trod_slice Tryz.underlying24 e5 with ⟨hc,rfl⟩|⟨a,len,cap,elems,rest,n',rfl,hc,rfl,_,hlc,hcm,hel,hat,_,_⟩
   ·injection hc with hc _
    subst hc;exact⟨[],[],SlA.nil _ _ _ _,OVs.nil,by simp[Ob.wts,Rows.uptoBulk]⟩
   ·injection hc with hc _
    subst hc;rw[c6] at hat;have step:∀k,k≤len→∃(cs:List Value) (os:List Ob),os.length=k∧OVs (InW W) W cs os∧(∀j u,cs[j]?=some u→W.cell? (a.add j)=some u)∧Ob.wts os≤Rows.uptoBulkAll ((elems.take k).map (·.1)):=by
     intro k
     induction k with
    |zero=>intro _;exact⟨[],[],rfl,OVs.nil,(fun j u hj=>by simp at hj),by simp[Ob.wts,Rows.uptoBulkAll]⟩
    |succ k ihk=>
      intro hk;obtain⟨cs,os,h1,h2,h3,h4⟩:=ihk (by omega);have hki:k < elems.length:=by omega
      have hb:=hat k (by omega);rw[List.getElem?_eq_getElem hki,Option.bind_eq_some_iff] at hb;obtain⟨ck,hck,htr⟩:=hb;obtain⟨o,ho,hw,hlo⟩:=ih n' (by omega) ck _ htr;have hcsl:=OVs.len os cs h2;refine⟨cs++ck,os++[o],by simp[h1],OVs.snoc hlo ho os cs h2,fun j u hj=>?_,?_⟩
      ·rcases Nat.lt_or_ge j cs.length with hj1|hj1
       ·rw[List.getElem?_append_left hj1] at hj;exact h3 j u hj
       ·rw[List.getElem?_append_right hj1] at hj;have hj6:j - cs.length < 6:=by
         have:=(List.getElem?_eq_some_iff.1 hj).1;omega
        have:=(World.cells?_some hck).2.2 (j - cs.length) hj6;rw[←hj,←this,addr_add,show k*6+(j - cs.length)=j by omega]
      ·rw[wts_snoc,List.take_succ_eq_append_getElem hki,List.map_append,bulkAll_append];simp only[List.map_cons,List.map_nil,Rows.uptoBulkAll];omega
    obtain⟨cs,os,h1,h2,h3,h4⟩:=step len (Nat.le_refl _);have hcsl:=OVs.len os cs h2;refine⟨cs,os,?_,h2,?_⟩
    ·rw[h1];exact SlA.of_cells (by omega) (by rw[hcsl,h1]) h3 (fun b hb=>hb) hlc
    ·rw[←hel,List.take_length] at h4;simp only[Rows.uptoBulk];omega
  obtain⟨cs,os,hsl,hov,hbo⟩:=kids;refine⟨.mk k m g s.data.toList zs os,?_,?_,rfl⟩
  ·rw[OV];exact⟨_,_,cs,rfl,hsk,hsl,hov⟩
  ·simp only[Ob.wt,Rows.uptoBulk,List.map_cons,List.map_nil,Rows.uptoBulkAll];omega
end
end
section
namespace Eng
open Go.RowKit
structure Mem where
 A:Nat→Prop
 w:World
 lt:∀b,A b→b < w.heap.size
def Mem.has (M:Mem)(w:World):Prop:=∀b,M.A b→w.heap[b]?=M.w.heap[b]?
structure Mem.le (M N:Mem):Prop where
 A:∀b,M.A b→N.A b
 has:M.has N.w
def Mem.all (w:World):Mem:=⟨fun b=>b < w.heap.size,w,fun _ h=>h⟩
theorem Mem.all_has (w:World):(Mem.all w).has w:=fun _ _=>rfl
theorem Mem.le_refl (M:Mem):M.le M:=⟨fun _ h=>h,fun _ _=>rfl⟩
theorem Mem.le_trans {M N O:Mem}(h:M.le N)(k:N.le O):M.le O:=⟨fun b hb=>k.A b (h.A b hb),fun b hb=>(k.has b (h.A b hb)).trans (h.has b hb)⟩
theorem Mem.has_of {M N:Mem}{w:World}(h:M.le N)(k:N.has w):M.has w:=fun b hb=>(k b (h.A b hb)).trans (h.has b hb)
theorem Mem.bd {M:Mem}{w:World}(h:M.has w){b:Nat}(hb:M.A b):b < w.heap.size:=by
 have h1:=h b hb;rw[Array.getElem?_eq_getElem (M.lt b hb)] at h1;exact lt_of_get h1
theorem Mem.has_below {M:Mem}{w w':World}(h:M.has w)(k:Below w.heap.size w w'):M.has w':=fun b hb=>(k.block b (Mem.bd h hb)).trans (h b hb)
def Ent.mem (M:Mem):Ent:=⟨M.A,M.has,fun h k b hb=>(k b hb).trans (h b hb),fun h k hk=>Mem.bd h hk⟩
structure Gives (M:Mem) (w w':World) (N:Mem):Prop where
 le:M.le N
 has:N.has w'
 new:∀b,N.A b→M.A b∨w.heap.size≤b
 below:Below w.heap.size w w'
def RetM (P:Program)(f:Nat)(args:Array Value)(M:Mem)(w:World)(R:Value→Mem→Prop):Prop:=Ret P f args w (fun v w'=>∃N,Gives M w w' N∧R v N)
section
variable {S:Nat→Prop}{P:Program}{w w0:World}{L:List Ent}{PK:PKT}{K:VWP}
theorem OwnS.memS {M:Mem}(h:M.has w):OwnS M.A w w [.mem M]:=OwnS.lend (e:=.mem M) h
theorem OwnS.hasM {M:Mem}(ho:OwnS S w0 w L)(i:Nat)(hi:L[i]?=some (.mem M)):M.has w:=ho.at_ i hi
theorem OwnS.gives {M N:Mem}{w':World}(ho:OwnS S w0 w L)(i:Nat)(hi:L[i]?=some (.mem M))(g:Gives M w w' N):OwnS S w0 w' (L.set i (.mem N)):=
 ho.turn i hi ⟨grew_below g.below,g.has,g.new⟩
theorem OwnS.toGives {M0 N:Mem}{w':World}(ho:OwnS M0.A w w' L)(i:Nat)(hi:L[i]?=some (.mem N))(hle:M0.le N)(h0:M0.has w):Gives M0 w w' N:=by
 have hm:=ho.all (.mem N) (List.mem_of_getElem? hi);refine⟨hle,hm.1,fun b hb=>hm.2 b hb,ho.grew.os,ho.grew.tape,ho.grew.output,ho.grew.size,fun k hk=>?_⟩;by_cases hA:M0.A k
 ·rw[h0 k hA];have h1:w'.heap[k]?=N.w.heap[k]?:=hm.1 k (hle.A k hA);rw[h1];exact hle.has k hA
 ·exact ho.grew.block k hk hA
theorem retM_of {f:Nat}{args:Array Value}{M:Mem}{R:Value→Mem→Prop}(hM:M.has w)
  (h:∀K:Ending→World→Prop,(∀(v:Value) (w':World) (N:Mem) (L:List Ent) (i:Nat),OwnS M.A w w' L→L[i]?=some (.mem N)→M.le N→R v N→K (.returned v) w')→Calls P f args w K):RetM P f args M w R:=
 ret_of fun K hK=>h K fun v w' N L i ho hi hle hr=>hK v w' ⟨N,ho.toGives i hi hle hM,hr⟩
theorem c_mem {f:Nat}{args:Array Value}{M:Mem}{R:Value→Mem→Prop}(ho:OwnS S w0 w L)(i:Nat)(hi:L[i]?=some (.mem M))(h:RetM P f args M w R)
  (k:∀v N w',M.le N→R v N→OwnS S w0 w' (L.set i (.mem N))→K v w'):CallX P f args w PK K:=
 c_ret h fun v w' ⟨N,g,r⟩=>k v N w' g.le r (ho.gives i hi g)
theorem OwnS.freeze {M:Mem}{e:Ent}(ho:OwnS S w0 w (e::L))(i:Nat)(hi:L[i]?=some (.mem M)) :
  ∃N:Mem,M.le N∧N.w=w∧(∀b,e.blk b→N.A b)∧OwnS S w0 w (L.set i (.mem N)):=by
 have he:=ho.all e (by simp);have hM:M.has w:=ho.at_ (i+1) (by simpa using hi);have hlt:∀b,M.A b∨e.blk b→b < w.heap.size:=fun b hb=>hb.elim (fun h=>Mem.bd hM h) (fun h=>e.lt he.1 b h)
 let N:Mem:=⟨fun b=>M.A b∨e.blk b,w,hlt⟩
 have hil:i < L.length:=(List.getElem?_eq_some_iff.1 hi).1;have hie:L[i]=.mem M:=(List.getElem?_eq_some_iff.1 hi).2;obtain⟨a1,a2⟩:=List.pairwise_cons.1 ho.apart;have hp:=List.pairwise_iff_getElem.1 a2;have bM:∀k,M.A k→(L[i]).blk k:=fun k hk=>by rw[hie];exact hk
 refine⟨N,⟨fun b hb=>.inl hb,hM⟩,rfl,fun b hb=>.inr hb,ho.grew,?_,?_⟩
 ·intro f hf;obtain⟨j,hj,rfl⟩:=List.getElem_of_mem hf;rw[List.length_set] at hj;rw[List.getElem_set];split
  ·refine⟨fun b _=>rfl,fun k hk=>?_⟩;rcases hk with hk|hk
   ·exact (ho.all (.mem M) (by rw[←hie];exact List.mem_cons_of_mem _ (List.getElem_mem hil))).2 k hk
   ·exact he.2 k hk
  ·exact ho.all _ (List.mem_cons_of_mem _ (List.getElem_mem hj))
 ·rw[List.pairwise_iff_getElem];intro a b ha hb hab k hk;rw[List.length_set] at ha hb;rw[List.getElem_set] at hk;rw[List.getElem_set];split at hk
  ·rename_i hia
   subst hia;rw[if_neg (by omega)];rcases hk with hk|hk
   ·exact hp i b ha hb hab k (bM k hk)
   ·exact a1 _ (List.getElem_mem hb) k hk
  ·split
   ·rename_i hib
    subst hib;intro hk';rcases hk' with hk'|hk'
    ·exact hp a i ha hb hab k hk (bM k hk')
    ·exact a1 _ (List.getElem_mem ha) k hk' hk
   ·exact hp a b ha hb hab k hk
end
end Eng
open Eng Go.RowKit
theorem SlA.le {M N:Mem}(h:M.le N){v:Value}{sz n:Nat}{cs:List Value}(hs:SlA M.A M.w v sz n cs):SlA N.A N.w v sz n cs:=by
 have:=hs.kept (w':=N.w) h.has;exact⟨this.1,(fun p l c e hn=>h.A _ (this.2.1 p l c e hn)),this.2.2⟩
theorem SlA.now {M:Mem}{w:World}(h:M.has w){v:Value}{sz n:Nat}{cs:List Value}(hs:SlA M.A M.w v sz n cs):Sl w v sz n cs:=(hs.kept (w':=w) h).1
theorem OV.le {M N:Mem}(h:M.le N){v:Value}{o:Ob}(hv:OV M.A M.w v o):OV N.A N.w v o:=OV.mono h.A o v (OV.kept h.has o v hv)
theorem OVs.le {M N:Mem}(h:M.le N){cs:List Value}{os:List Ob}(hv:OVs M.A M.w cs os):OVs N.A N.w cs os:=OVs.mono h.A os cs (OVs.kept h.has os cs hv)
theorem OV.inw {M:Mem}{w:World}(h:M.has w){v:Value}{o:Ob}(hv:OV M.A M.w v o):OV (InW w) w v o:=OV.mono (fun b hb=>Mem.bd h hb) o v (OV.kept h o v hv)
end
section
namespace Eng
open Go.RowKit
section
variable {S:Nat→Prop}{P:Program}{w w0:World}{L:List Ent}{PK:PKT}{K:VWP}
theorem e_nilS {T E:TypeId}{xo yo:Operand}{a:Option Addr}{n c n' c':Nat}(h:P.underlying T=some (.slice E)):DoX P (mEq .eql T xo yo (.slice a n c) (.slice none n' c')) w PK K=K (.bool a.isNone) w:=by
 refine mv_do ?_;simp[eqGuard,Lib.run_eql_slice_nil w T E a n c n' c' h]
theorem n_nilS {T E:TypeId}{xo yo:Operand}{a:Option Addr}{n c n' c':Nat}(h:P.underlying T=some (.slice E)):DoX P (mEq .neq T xo yo (.slice a n c) (.slice none n' c')) w PK K=K (.bool (!a.isNone)) w:=by
 refine mv_do ?_;have:=Lib.run_equalIn_slice_nil (P:=P) w 9999 T E a n c n' c' h;simp[eqGuard,binOp,Op.equal,Op.maxDepth,this]
def subA (a:Option Addr)(l cap sz:Nat):Option Addr:=if cap=l then a else a.map (·.add (l*sz))
theorem run_sl_l {T E:TypeId}{k:IntKind}{a:Option Addr}{n cap sz:Nat}{lo:Int}(h:P.underlying T=some (.slice E))(hsz:(P.info? E).map (·.size)=some sz)(h0:0≤lo)(h1:lo≤n) :
  (mSlice T (.slice a n cap) (some (.int k lo)) none none).run P w=.ok (.value (.slice (subA a lo.toNat cap sz) (n - lo.toNat) (cap - lo.toNat))) w:=by
 obtain⟨i,hi,h2⟩:=Option.map_eq_some_iff.1 hsz;have he:P.elem T=E:=by simp[Program.elem,h]
 have ht:P.underlying T=some (.slice (P.elem T)):=by rw[he];exact h
 refine mv_run ?_;rw[run_sliceAt_slice w T _ _ _ _ ht,run_slice_l w T a n cap ht k lo h0 h1];simp[sizeOf,typeInfo,he,hi,h2,sliced,subA]
theorem run_sl_h {T E:TypeId}{k:IntKind}{a:Option Addr}{n cap sz:Nat}{hi:Int}(h:P.underlying T=some (.slice E))(hsz:(P.info? E).map (·.size)=some sz)(h0:0≤hi)(h1:hi≤cap) :
  (mSlice T (.slice a n cap) none (some (.int k hi)) none).run P w=.ok (.value (.slice (subA a 0 cap sz) hi.toNat cap)) w:=by
 obtain⟨i,hi',h2⟩:=Option.map_eq_some_iff.1 hsz;have he:P.elem T=E:=by simp[Program.elem,h]
 have ht:P.underlying T=some (.slice (P.elem T)):=by rw[he];exact h
 refine mv_run ?_;rw[run_sliceAt_slice w T _ _ _ _ ht,run_slice_h w T a n cap ht k hi h0 h1];simp[sizeOf,typeInfo,he,hi',h2,sliced,subA]
theorem run_len_sl {T U E:TypeId}{cb:Array Bool}{a:Option Addr}{n cap:Nat}(h:P.underlying T=some (.slice E)):(mB .len #[T] U cb #[.slice a n cap]).run P w=.ok (.value (.int .i64 (n:Int))) w:=by
 simp[mB,builtin,Builtin.len_,run_underlying h,goInt]
theorem o_makeN {T E:TypeId}{sz bytes n:Nat}{kl kc:IntKind}(ht:P.underlying T=some (.slice E))(he:elB P E sz bytes=true)(hb:bytes*n≤281474976710656)(hn:n≤281474976710656)(ho:OwnS S w0 w L)
  (k:∀(g:Nat) (w':World) (zs:List Value),zs.length=n*sz→OwnS S w0 w' (.cells g zs E::L)→K (.slice (some ⟨g,0,none⟩) n n) w'):DoX P (mMake T (.int kl (n:Int)) (.int kc (n:Int))) w PK K:=by
 obtain⟨i,z,hi,hz,hi1,hi2,hz1⟩:=elB_spec he;have hb':(i.bytes:Int)*(n:Int)≤281474976710656:=by rw[hi2,←Int.natCast_mul];omega
 have hr:=run_make (P:=P) w T E i z ht hi hz kl kc n n (by omega) (by omega) hb' (by omega);rw[Int.toNat_natCast] at hr;refine do_ok (mv_run hr) (k _ _ (madeCells z.cells (n*i.size)).toList ?_ ?_)
 ·rw[Array.length_toList,size_madeCells,hi1]
 ·have:=ho.alloc (madeCells z.cells (n*i.size)).toList E
  rwa [Array.toArray_toList] at this
theorem sub_get {cs cs':List Value}{off j:Nat}{v:Value}(h:(cs.drop off).take cs'.length=cs')(hj:cs'[j]?=some v):cs[off+j]?=some v:=by
 rw[←h] at hj;rw[List.getElem?_take] at hj;split at hj
 ·rwa [List.getElem?_drop] at hj
 ·cases hj
theorem OwnS.subAgg (ho:OwnS S w0 w L)(i:Nat){b:Nat}{cs:List Value}{E T:TypeId}(hi:L[i]?=some (.cells b cs E))(off:Nat)(cs':List Value)(hcs:(cs.drop off).take cs'.length=cs')(ht:aggN P T=some cs'.length):AtV P w T ⟨b,off,none⟩ (.agg cs'.toArray):=
 AtV.agg ht rfl fun j v hj=>ho.cell i hi (off+j) (sub_get hcs hj)
theorem o_putAt (i:Nat){T:TypeId}{b off:Nat}{cs new:List Value}{E:TypeId}(ho:OwnS S w0 w L)(hi:L[i]?=some (.cells b cs E))(hs:(P.info? T).map (·.size)=some new.length)(hv:∀v∈new,v.oneCell'=true)(hl:off+new.length≤cs.length)
  (k:∀w',OwnS S w0 w' (L.set i (.cells b (cs.take off++new++cs.drop (off+new.length)) E))→K undef w'):DoX P (mStore T (.pointer (some ⟨b,off,none⟩)) (.agg new.toArray)) w PK K:=by
 have hr:=run_store_in (P:=P) (T:=T) (g:=b) (off:=off) (cur:=cs.toArray) (E:=E) (u:=.agg new.toArray) (new:=new) rfl hs hv (ho.at_ i hi) (by simpa using hl);refine do_skip (mu_run hr) (k _ ?_);have e:(cs.toArray.toList.take off++new++cs.toArray.toList.drop (off+new.length)).toArray=(cs.take off++new++cs.drop (off+new.length)).toArray:=by simp
 rw[e];exact setRow_own ho i hi _
theorem mem_urow {M N:Mem}{T:TypeId}{sz:Nat}{v:Value}{n:Nat}{xs:List Value}(hw:N.w=w)(hb:∀b,(Ent.urow T sz v n xs).blk b→N.A b)(h:(Ent.urow T sz v n xs).is w):SlA N.A N.w v sz n xs:=by
 rw[hw];refine⟨Sl.urow h,fun p l c e hn=>hb _ ?_,fun a l c e=>?_⟩
 ·rcases (show w.ownsRow 0 T sz v n xs from h).2 with ⟨rfl,h0⟩|⟨g,cap,cur,rfl,_⟩
  ·cases e
  ·injection e with e1 _ _
   injection e1 with e1
   rw[←e1];rfl
 ·rcases (show w.ownsRow 0 T sz v n xs from h).2 with ⟨rfl,h0⟩|⟨g,cap,cur,rfl,_,_,hnc,_⟩
  ·injection e with _ e2 e3;omega
  ·injection e with _ e2 e3;omega
theorem OwnS.freezeU {M:Mem}{T:TypeId}{sz:Nat}{v:Value}{n:Nat}{xs:List Value}(ho:OwnS S w0 w (.urow T sz v n xs::L))(i:Nat)(hi:L[i]?=some (.mem M)) :
  ∃N:Mem,M.le N∧SlA N.A N.w v sz n xs∧OwnS S w0 w (L.set i (.mem N)):=by
 have h:=ho.at_ 0 rfl;obtain⟨N,h1,h2,h3,h4⟩:=ho.freeze i hi;exact⟨N,h1,mem_urow (M:=M) h2 h3 h,h4⟩
end
end Eng
end
end Go.Proofs.YtoobidofdpdkbaaGreatDoor

namespace Go.Proofs.YtoobidofdpdkbaaGreatDoor
section
namespace Eng
open Go.RowKit
def SetIs (w:World)(b:Nat)(l:List Int):Prop:=∃es clock,w.heap[b]?=some (.map es clock)∧es.toList.map (fun e=>(e.key,e.val))=l.map fun n=>(Value.int .i64 n,Value.bool true)
def Ent.seti (b:Nat)(l:List Int):Ent:=⟨fun k=>k=b,fun w=>SetIs w b l,fun {w w'} h k=>by
  obtain⟨es,clock,h1,h2⟩:=h;exact⟨es,clock,(k b rfl).trans h1,h2⟩,fun h k hk=>by
  obtain⟨es,clock,h1,h2⟩:=h;cases hk;exact lt_of_get h1⟩
theorem findNow_set (n:Int):∀(es:List MapEntry) (l:List Int) (i:Nat),es.map (fun e=>(e.key,e.val))=l.map (fun n=>(Value.int .i64 n,Value.bool true)) →
  ∃r,Instr.findNow (.int .i64) (.int .i64 n) es i=some r∧r.map (·.2)=if n∈l then some (Value.bool true) else none
|[],[],i,_=>⟨none,rfl,by simp⟩
|e::es,p::l,i,h=>by
  simp only[List.map_cons,List.cons.injEq,Prod.mk.injEq] at h;obtain⟨⟨h1,h2⟩,h3⟩:=h;have hs:Instr.sameNow (.int .i64) (.int .i64 n) e.key=some (n==p):=by
   rw[h1];simp[Instr.sameNow]
  by_cases hk:n=p
  ·subst hk;refine⟨some (i,e.val),?_,?_⟩
   ·rw[Instr.findNow,hs];simp
   ·simp[h2]
  ·obtain⟨r,hr1,hr2⟩:=findNow_set n es l (i+1) h3;refine⟨r,?_,?_⟩
   ·have hb:(n==p)=false:=by simpa using hk
    rw[Instr.findNow,hs,hb];exact hr1
   ·rw[hr2];simp[hk]
|[],_::_,_,h=>by simp at h
|_::_,[],_,h=>by simp at h
section
variable {S:Nat→Prop}{P:Program}{w w0:World}{L:List Ent}{PK:PKT}{K:VWP}
theorem o_setNew {T:TypeId}(ho:OwnS S w0 w L)(k:∀b w',OwnS S w0 w' (.seti b []::L)→K (.map (some b)) w'):DoX P (mMap T none) w PK K:=by
 have hr:(Instr.makeMap T none).run P w=.ok (.map (some w.heap.size)) (w.alloc (.map #[] 0)):=rfl;exact do_ok (mv_run hr) (k _ _ (ho.add (World.grownBy_alloc w _ none) (.seti w.heap.size []) ⟨#[],0,heap_alloc_new w _,rfl⟩ (fun k hk=>by cases hk;exact Nat.le_refl _)))
theorem run_checkSet {k:TypeId}{e:Bool}(hk:P.underlying k=some (.int .i64))(n:Int):(Instr.checkKey e 10000 k (.int .i64 n)).run P w=.ok () w:=by
 show (Instr.checkKey e (9999+1) k _).run P w=_;rw[Instr.checkKey];simp[run_underlying hk]
theorem run_findSet {k:TypeId}(hk:P.underlying k=some (.int .i64))(n:Int){es:List MapEntry}{l:List Int}(h:es.map (fun e=>(e.key,e.val))=l.map (fun n=>(Value.int .i64 n,Value.bool true))) :
  ∃r,(Instr.findKey k (.int .i64 n) es).run P w=.ok r w∧r.map (·.2)=if n∈l then some (Value.bool true) else none:=by
 obtain⟨r,h1,h2⟩:=findNow_set n es l 0 h;refine⟨r,?_,h2⟩;simp[Instr.findKey,run_underlying hk,h1]
theorem run_inSet {T k e:TypeId}{b:Nat}{l:List Int}(ht:P.underlying T=some (.map k e))(hk:P.underlying k=some (.int .i64))(hz:(P.info? e).bind (·.zero)=some (.bool false))(h:SetIs w b l)(n:Int) :
  (mLook T (.map (some b)) (.int .i64 n) false).run P w=.ok (.value (.bool (decide (n∈l)))) w:=by
 obtain⟨es,clock,h1,h2⟩:=h;obtain⟨r,r1,r2⟩:=run_findSet (P:=P) (w:=w) hk n h2;have hz':(zeroValue e).run P w=.ok (.bool false) w:=by
  obtain⟨i,hi,hzi⟩:=Option.bind_eq_some_iff.1 hz;simp[zeroValue,typeInfo,hi,hzi]
 refine mv_run ?_;by_cases hn:n∈l
 ·rw[if_pos hn] at r2;cases r with
 |none=>cases r2
 |some p=>
   obtain⟨i,v⟩:=p;have hv:v=.bool true:=by simpa using r2
   subst hv;simp[Instr.lookup,run_underlying ht,getObj,Sem.run,h1,run_checkSet hk n,r1,hn]
 ·rw[if_neg hn] at r2;cases r with
 |none=>simp[Instr.lookup,run_underlying ht,getObj,Sem.run,h1,run_checkSet hk n,r1,hz',hn]
 |some p=>cases r2
theorem run_setLen {T U k e:TypeId}{cb:Array Bool}{b:Nat}{l:List Int}(ht:P.underlying T=some (.map k e))(h:SetIs w b l):(mB .len #[T] U cb #[.map (some b)]).run P w=.ok (.value (.int .i64 (l.length:Int))) w:=by
 obtain⟨es,clock,h1,h2⟩:=h;have hl:es.size=l.length:=by
  have:=congrArg List.length h2;simpa using this
 simp[mB,builtin,Builtin.len_,run_underlying ht,goInt,getObj,Sem.run,h1,hl]
theorem o_setAdd (i:Nat){T k e:TypeId}{b:Nat}{l:List Int}(ht:P.underlying T=some (.map k e))(hk:P.underlying k=some (.int .i64))(ho:OwnS S w0 w L)(hi:L[i]?=some (.seti b l))(n:Int)(hn:n ∉ l)
  (kk:∀w',OwnS S w0 w' (L.set i (.seti b (l++[n])))→K undef w'):DoX P (mMapU T (.map (some b)) (.int .i64 n) (.bool true)) w PK K:=by
 obtain⟨es,clock,h1,h2⟩:=(show SetIs w b l from ho.at_ i hi);obtain⟨r,r1,r2⟩:=run_findSet (P:=P) (w:=w) hk n h2;have hr0:r=none:=by
  cases r with
 |none=>rfl
 |some p=>rw[if_neg hn] at r2;cases r2
 subst hr0;have hr:(Instr.mapUpdate T (.map (some b)) (.int .i64 n) (.bool true)).run P w=.ok () { w with heap:=w.heap.setIfInBounds b (.map (es.push { key:=.int .i64 n,val:=.bool true,born:=clock }) (clock+1)) }:=by
  simp[Instr.mapUpdate,run_underlying ht,getObj,setObj,Sem.run,h1,run_checkSet hk n,r1]
 refine do_skip (mu_run hr) (kk _ ?_);refine ho.put i hi (w':={ w with heap:=w.heap.setIfInBounds b _ }) ⟨rfl,rfl,rfl,by simp,fun k _ hk=>?_⟩ (.seti b (l++[n])) ?_ (fun k hk=>.inl hk)
 ·show (w.heap.setIfInBounds b _)[k]?=_;exact Array.getElem?_setIfInBounds_ne (fun e=>hk (by simp[Ent.seti,e]))
 ·refine⟨es.push { key:=.int .i64 n,val:=.bool true,born:=clock },clock+1,?_,?_⟩
  ·show (w.heap.setIfInBounds b _)[b]?=_;exact Array.getElem?_setIfInBounds_self_of_lt (lt_of_get h1)
  ·simp[h2]
end
end Eng
end
section
namespace Eng
open Go.RowKit
section
variable {α:Type}{enc:α→List Value}{k:Nat}
theorem flat_len (hk:∀x,(enc x).length=k):∀l:List α,(l.flatMap enc).length=l.length*k
|[]=>by simp
|x::l=>by rw[List.flatMap_cons,List.length_append,hk,flat_len hk l,List.length_cons,Nat.succ_mul];omega
variable {S:Nat→Prop}{P:Program}{w w0:World}{L:List Ent}{PK PK2:PKT}{K:VWP}
end
end Eng
end
section
open Eng
def S_slices_Clone_string_string (t0:Value)(w:World)(K:Ending→World→Prop):Prop:=
 DoX prog (mEq .eql 23 (.tmp 3) (.const (.slice none 0 0)) t0 (.slice none 0 0)) w (pk K) fun t4 w=>
 IfX t4 (K (.returned (.slice none 0 0)) w) (DoX prog (mBuildS 23 0 #[]) w (pk K) fun t5 w=>
 DoX prog (mB .append #[23,23] 23 #[false,false] #[t5,t0]) w (pk K) fun t7 w=>
 K (.returned t7) w)
theorem S_slices_Clone_string_string_eq (t0:Value)(w:World)(K:Ending→World→Prop):wpX prog 8 [] [] none (bodyOf Tryz.f123) (topQ prog [.tmp 2] K) (startX [t0]) [] w=S_slices_Clone_string_string t0 w K:=by kernel_rfl
theorem S_slices_Clone_string_string_ok {t0:Value}{w:World}{K:Ending→World→Prop}(h:S_slices_Clone_string_string t0 w K):Calls prog 123 #[t0] w K:=
 calls_of_wpX Tryz.func123 rfl rfl rfl rfl (Eq.mpr (S_slices_Clone_string_string_eq t0 w K) h)
def S_slices_Contains_string_string (t0 t1:Value)(w:World)(K:Ending→World→Prop):Prop:=
 CallX prog 106 #[t0,t1] w (pk K) fun t7 w=>
 DoX prog (mBin .geq 3 t7 (.int .i64 0)) w (pk K) fun t8 w=>
 K (.returned t8) w
theorem S_slices_Contains_string_string_eq (t0 t1:Value)(w:World)(K:Ending→World→Prop):wpX prog 9 [] [] none (bodyOf Tryz.f118) (topQ prog [.tmp 4] K) (startX [t0,t1]) [] w=S_slices_Contains_string_string t0 t1 w K:=by kernel_rfl
theorem S_slices_Contains_string_string_ok {t0 t1:Value}{w:World}{K:Ending→World→Prop}(h:S_slices_Contains_string_string t0 t1 w K):Calls prog 118 #[t0,t1] w K:=
 calls_of_wpX Tryz.func118 rfl rfl rfl rfl (Eq.mpr (S_slices_Contains_string_string_eq t0 t1 w K) h)
end
section
open Eng Go.RowKit
theorem sclone_s_ret (v:Value)(n:Nat)(cs:List Value)(w:World)(hs:Sl w v 1 n cs)(h1:∀u∈cs,u.oneCell'=true)(hb:n≤1000000000000) :
  Ret prog 123 #[v] w (fun v' w'=>Own w w' [.urow 9 1 v' n cs]):=by
 have hs':=hs;obtain⟨hl,a,cap,rfl,hn,hc⟩:=hs;refine ret_of fun K hK=>S_slices_Clone_string_string_ok ?_;unfold S_slices_Clone_string_string;rw[e_nilS Tryz.underlying23];cases a with
|none=>
  obtain rfl:=hn rfl;obtain rfl:cs=[]:=List.eq_nil_of_length_eq_zero (by omega);simp only[Option.isNone_none,i_t];exact hK _ _ ((Own.start w).nilU 9 1)
|some p=>
  simp only[Option.isNone_some,i_f];refine o_new (fun b=>.slice (some ⟨b,0,none⟩) 0 0) [] 9 (fun _=>by kernel_rfl) (Own.start w) fun b w1 ho=>?_;have ho:=ho.toU 1 0 0 (by simp) (by omega) (by omega);refine o_appendU 0 Tryz.underlying23 (show elB prog 9 1 16=true by kernel_rfl) (by decide) ho rfl (ho.oldSl hs') h1 (by omega) (by omega) fun v' w2 ho=>?_;refine hK _ _ ?_;simpa using ho
end
section
open Eng
def S_value_keyed (t0:Value)(w:World)(K:Ending→World→Prop):Prop:=
 DoX prog (mBox 26 t0) w (pk K) fun t1 w=>
 DoX prog (mFA 26 t1 0) w (pk K) fun t3 w=>
 DoX prog (mLoad 3 t3) w (pk K) fun t4 w=>
 DoX prog (mEq .eql 3 (.tmp 4) (.const (.int .i64 7)) t4 (.int .i64 7)) w (pk K) fun t5 w=>
 GDo t5 false (fun E=>DoX prog (mFA 26 t1 0) w (pk K) E) w fun t7 w=>
 GDo t5 false (fun E=>DoX prog (mLoad 3 t7) w (pk K) E) w fun t8 w=>
 GDo t5 false (fun E=>DoX prog (mEq .eql 3 (.tmp 8) (.const (.int .i64 9)) t8 (.int .i64 9)) w (pk K) E) w fun t9 w=>
 DoX prog (mPick t5 (.bool true) t9) w (pk K) fun t10 w=>
 K (.returned t10) w
theorem S_value_keyed_eq (t0:Value)(w:World)(K:Ending→World→Prop):wpX prog 11 [] [] none (bodyOf Tryz.f105) (topQ prog [.tmp 2] K) (startX [t0]) [] w=S_value_keyed t0 w K:=by kernel_rfl
theorem S_value_keyed_ok {t0:Value}{w:World}{K:Ending→World→Prop}(h:S_value_keyed t0 w K):Calls prog 105 #[t0] w K:=
 calls_of_wpX Tryz.func105 rfl rfl rfl rfl (Eq.mpr (S_value_keyed_eq t0 w K) h)
def S_value_Get (t0 t1:Value)(w:World)(K:Ending→World→Prop):Prop:=
 DoX prog (mBox 26 t0) w (pk K) fun t2 w=>
 DoX prog (mAlloc 26) w (pk K) fun t4 w=>
 DoX prog (mLoad 26 t2) w (pk K) fun t7 w=>
 CallX prog 105 #[t7] w (pk K) fun t8 w=>
 DoX prog (mUn .not t8) w (pk K) fun t9 w=>
 IfX t9 (DoX prog (mBuild 26 #[]) w (pk K) fun t10 w=>
 DoX prog (mStore 26 t4 t10) w (pk K) fun _ w=>
 RetX prog [.cell t4 26,.val (.bool false)] w K) (DoX prog (mFA 26 t2 4) w (pk K) fun t11 w=>
 DoX prog (mLoad 23 t11) w (pk K) fun t12 w=>
 CallX prog 106 #[t12,t1] w (pk K) fun t14 w=>
 DoX prog (mBin .lss 3 t14 (.int .i64 0)) w (pk K) fun t16 w=>
 GDo t16 false (fun E=>E t14 w) w fun t18 w=>
 GDo t16 false (fun E=>DoX prog (mFA 26 t2 5) w (pk K) E) w fun t19 w=>
 GDo t16 false (fun E=>DoX prog (mLoad 24 t19) w (pk K) E) w fun t20 w=>
 GDo t16 false (fun E=>DoX prog (mB .len #[24] 3 #[false] #[t20]) w (pk K) E) w fun t21 w=>
 GDo t16 false (fun E=>DoX prog (mBin .geq 3 t18 t21) w (pk K) E) w fun t22 w=>
 DoX prog (mPick t16 (.bool true) t22) w (pk K) fun t23 w=>
 IfX t23 (DoX prog (mBuild 26 #[]) w (pk K) fun t24 w=>
 DoX prog (mStore 26 t4 t24) w (pk K) fun _ w=>
 RetX prog [.cell t4 26,.val (.bool false)] w K) (DoX prog (mFA 26 t2 5) w (pk K) fun t25 w=>
 DoX prog (mLoad 24 t25) w (pk K) fun t26 w=>
 DoX prog (mIA 24 t26 t14) w (pk K) fun t28 w=>
 DoX prog (mLoad 26 t28) w (pk K) fun t29 w=>
 CallX prog 72 #[t29] w (pk K) fun t30 w=>
 DoX prog (mStore 26 t4 t30) w (pk K) fun _ w=>
 RetX prog [.cell t4 26,.val (.bool true)] w K))
theorem S_value_Get_eq (t0 t1:Value)(w:World)(K:Ending→World→Prop):wpX prog 31 [] [] none (bodyOf Tryz.f85) (topQ prog [.cell 4 26,.tmp 5] K) (startX [t0,t1]) [] w=S_value_Get t0 t1 w K:=by kernel_rfl
theorem S_value_Get_ok {t0 t1:Value}{w:World}{K:Ending→World→Prop}(h:S_value_Get t0 t1 w K):Calls prog 85 #[t0,t1] w K:=
 calls_of_wpX Tryz.func85 rfl rfl rfl rfl (Eq.mpr (S_value_Get_eq t0 t1 w K) h)
def S_value_Clone (t0:Value)(w:World)(K:Ending→World→Prop):Prop:=
 DoX prog (mBox 26 t0) w (pk K) fun t1 w=>
 DoX prog (mAlloc 26) w (pk K) fun t2 w=>
 DoX prog (mLoad 26 t1) w (pk K) fun t3 w=>
 CallX prog 98 #[t3,(.func (.func 99) #[] #[])] w (pk K) fun t4 w=>
 DoX prog (mStore 26 t2 t4) w (pk K) fun _ w=>
 RetX prog [.cell t2 26] w K
theorem S_value_Clone_eq (t0:Value)(w:World)(K:Ending→World→Prop):wpX prog 5 [] [] none (bodyOf Tryz.f72) (topQ prog [.cell 2 26] K) (startX [t0]) [] w=S_value_Clone t0 w K:=by kernel_rfl
theorem S_value_Clone_ok {t0:Value}{w:World}{K:Ending→World→Prop}(h:S_value_Clone t0 w K):Calls prog 72 #[t0] w K:=
 calls_of_wpX Tryz.func72 rfl rfl rfl rfl (Eq.mpr (S_value_Clone_eq t0 w K) h)
def S_value_Clone_1 (t0:Value)(w:World)(K:Ending→World→Prop):Prop:=
 DoX prog (mBox 26 t0) w (pk K) fun t1 w=>
 DoX prog (mAlloc 26) w (pk K) fun t2 w=>
 DoX prog (mLoad 26 t1) w (pk K) fun t3 w=>
 DoX prog (mStore 26 t2 t3) w (pk K) fun _ w=>
 RetX prog [.cell t2 26] w K
theorem S_value_Clone_1_eq (t0:Value)(w:World)(K:Ending→World→Prop):wpX prog 4 [] [] none (bodyOf Tryz.f99) (topQ prog [.cell 2 26] K) (startX [t0]) [] w=S_value_Clone_1 t0 w K:=by kernel_rfl
theorem S_value_Clone_1_ok {t0:Value}{w:World}{K:Ending→World→Prop}(h:S_value_Clone_1 t0 w K):Calls prog 99 #[t0] w K:=
 calls_of_wpX Tryz.func99 rfl rfl rfl rfl (Eq.mpr (S_value_Clone_1_eq t0 w K) h)
def S_value_changed_1 (t2 t4:Value)(w:World)(K:Ending→World→Prop):Prop:=
 DoX prog (mLoad 26 t2) w (pk K) fun t39 w=>
 DoX prog (mStore 26 t4 t39) w (pk K) fun _ w=>
 RetX prog [.cell t4 26] w K
def S_value_changed_0 (t1 t2 t5 t23 t24 t25:Value)(w:World)(J1 N2:List Value→World→Prop)(K:Ending→World→Prop):Prop:=
 DoX prog (mBin .lss 3 t25 t24) w (pk K) fun t26 w=>
 IfX t26 (DoX prog (mIA 24 t23 t25) w (pk K) fun t28 w=>
 DoX prog (mLoad 26 t28) w (pk K) fun t29 w=>
 DoX prog (mAlloc 26) w (pk K) fun t7 w=>
 DoX prog (mStore 26 t7 t29) w (pk K) fun _ w=>
 DoX prog (mLoad 26 t7) w (pk K) fun t32 w=>
 CallX prog 98 #[t32,t1] w (pk K) fun t34 w=>
 DoX prog (mIA 24 t5 t25) w (pk K) fun t35 w=>
 DoX prog (mStore 26 t35 t34) w (pk K) fun _ w=>
 DoX prog (mBin .add 3 t25 (.int .i64 1)) w (pk K) fun t36 w=>
 N2 [t36] w) (DoX prog (mFA 26 t2 5) w (pk K) fun t38 w=>
 DoX prog (mStore 24 t38 t5) w (pk K) fun _ w=>
 J1 [] w)
def S_value_changed (t0 t1:Value)(w:World)(K:Ending→World→Prop):Prop:=
 DoX prog (mBox 26 t0) w (pk K) fun t2 w=>
 DoX prog (mAlloc 26) w (pk K) fun t4 w=>
 DoX prog (mLoad 26 t2) w (pk K) fun t9 w=>
 DoX prog (mCallV t1 #[t9]) w (pk K) fun t10 w=>
 DoX prog (mStore 26 t2 t10) w (pk K) fun _ w=>
 DoX prog (mFA 26 t2 4) w (pk K) fun t11 w=>
 DoX prog (mLoad 23 t11) w (pk K) fun t12 w=>
 CallX prog 123 #[t12] w (pk K) fun t13 w=>
 DoX prog (mFA 26 t2 4) w (pk K) fun t14 w=>
 DoX prog (mStore 23 t14 t13) w (pk K) fun _ w=>
 JoinX (fun J1=>
 DoX prog (mFA 26 t2 5) w (pk K) fun t15 w=>
 DoX prog (mLoad 24 t15) w (pk K) fun t16 w=>
 DoX prog (mEq .neq 24 (.tmp 16) (.const (.slice none 0 0)) t16 (.slice none 0 0)) w (pk K) fun t17 w=>
 IfX t17 (DoX prog (mFA 26 t2 5) w (pk K) fun t18 w=>
 DoX prog (mLoad 24 t18) w (pk K) fun t19 w=>
 DoX prog (mB .len #[24] 3 #[false] #[t19]) w (pk K) fun t20 w=>
 DoX prog (mMake 24 t20 t20) w (pk K) fun t21 w=>
 DoX prog (mFA 26 t2 5) w (pk K) fun t22 w=>
 DoX prog (mLoad 24 t22) w (pk K) fun t23 w=>
 DoX prog (mB .len #[24] 3 #[false] #[t23]) w (pk K) fun t24 w=>
 LoopX [(.int .i64 0)] w (fun vs2 w N2=>∀_:Sg,S_value_changed_0 t1 t2 t21 t23 t24 (vs2.getD 0 undef) w J1 N2 K)) (J1 [] w)) (fun vs1 w=>∀_:Sg,S_value_changed_1 t2 t4 w K)
theorem S_value_changed_eq (t0 t1:Value)(w:World)(K:Ending→World→Prop):wpX prog 40 [(11,[])] [(6,[25])] none (bodyOf Tryz.f98) (topQ prog [.cell 4 26] K) (startX [t0,t1]) [] w=S_value_changed t0 t1 w K:=by kernel_rfl
theorem S_value_changed_ok {t0 t1:Value}{w:World}{K:Ending→World→Prop}(h:S_value_changed t0 t1 w K):Calls prog 98 #[t0,t1] w K:=
 calls_of_wpX Tryz.func98 rfl rfl rfl rfl (Eq.mpr (S_value_changed_eq t0 t1 w K) h)
end
section
open Go
namespace Vl
def used (k:Int):Option (Bool×Bool×Bool×Bool×Bool):=
 if k=0 then some (false,false,false,false,false)
 else if k=1∨k=2∨k=3 then some (true,false,false,false,false)
 else if k=4∨k=5 then some (false,false,true,false,false)
 else if k=6 then some (false,false,false,false,true)
 else if k=7 then some (false,false,false,true,true)
 else if k=8 then some (true,true,false,false,false)
 else if k=9 then some (false,false,true,true,true)
 else none
def usesOk (o:Ob):Bool:=
 match used o.k with
|none=>false
|some (n,g,s,ks,cs)=>(n||decide (o.n=0))&&(g||decide (o.g=0))&&(s||decide (o.s=[]))&&(ks||decide (o.keys=[]))&&(cs||decide (o.kids.length=0))
def fits (o:Ob):Bool:=
 if o.k=1 then decide (0≤o.n∧o.n≤1)
 else if o.k=2 then decide (-2147483647≤o.n∧o.n≤2147483647)
 else if o.k=3 then decide (-1073741824≤o.n∧o.n≤1073741824)
 else if o.k=8 then decide (1≤o.n∧o.n≤8191)&&decide (0≤o.g∧o.g≤65535)
 else true
def long (k:Int):Nat:=if k=5 then 127 else if k=9 then 1048576 else 32767
def name (s:List UInt8):Bool:=decide (s.length≤127)&&decide ((0:UInt8) ∉ s)
def lenK:List UInt8:=[76,101,110,103,116,104]
abbrev less (a b:List UInt8):Bool:=Op.bytesLess a b
def keyAt (o:Ob)(i:Nat):Bool:=
 name (o.keys.getD i [])&&(decide (i=0)||less (o.keys.getD (i - 1) []) (o.keys.getD i []))&&!(decide (o.k=9)&&decide (o.keys.getD i []=lenK))&&decide ((o.kids.getD i (.mk 0 0 0 [] [] [])).k≠0)
def rising (o:Ob):Bool:=decide (o.keys.length=o.kids.length)&&(List.range o.keys.length).all (keyAt o)
def form (o:Ob):Bool:=(!(decide (o.k=5))||name o.s)&&(!(decide (o.k=7∨o.k=9))||rising o)
def why (d:Nat)(o:Ob):Int:=
 if 24 < d then 7
 else if usesOk o=false∨(o.k=9∧1 < d) then 10
 else if fits o=false then 2
 else if long o.k < o.s.length then 5
 else if 8191 < o.kids.length then 6
 else if form o=false then 3
 else 0
 mutual
def check (d:Nat):Ob→Int
|.mk k n g s keys kids=>if why d (.mk k n g s keys kids)≠0 then why d (.mk k n g s keys kids) else checks (d+1) kids
def checks (d:Nat):List Ob→Int
|[]=>0
|o::os=>if check d o≠0 then check d o else checks d os
end
theorem check_eq (d:Nat)(o:Ob):check d o=if why d o≠0 then why d o else checks (d+1) o.kids:=by cases o;rw[check];rfl
 mutual
def size:Ob→Nat
|.mk _ _ _ s keys kids=>1+s.length / 50+(keys.map fun k=>k.length / 50).sum+sizes kids
def sizes:List Ob→Nat
|[]=>0
|o::os=>size o+sizes os
end
theorem size_eq (o:Ob):size o=1+o.s.length / 50+(o.keys.map fun k=>k.length / 50).sum+sizes o.kids:=by cases o;rw[size];rfl
theorem tot50 (l:List (List UInt8)):(l.map fun k=>k.length / 50).sum≤Pl.tot l:=by
 induction l with
|nil=>simp
|cons a l ih=>simp only[Pl.tot,List.map_cons,List.sum_cons] at ih ⊢;omega
 mutual
theorem size_wt:∀o:Ob,size o≤o.wt
|.mk k n g s keys kids=>by
  have:=sizes_wt kids;have:=tot50 keys;rw[size,Ob.wt];omega
theorem sizes_wt:∀os:List Ob,sizes os≤Ob.wts os
|[]=>by rw[sizes,Ob.wts];omega
|o::os=>by
  have:=size_wt o;have:=sizes_wt os;rw[sizes,Ob.wts];omega
end
end Vl
end
section
open Go
namespace Vl
def place (l:List (List UInt8))(x:List UInt8):Nat:=(l.takeWhile fun k=>less k x).length
def hit (l:List (List UInt8))(x:List UInt8):Bool:=decide (l[place l x]?=some x)
theorem takeWhile_at {α:Type}{p:α→Bool}:∀(l:List α) (i:Nat),i≤l.length→(∀m (h:m < l.length),m < i→p l[m]=true)→(∀h:i < l.length,p l[i]=false)→(l.takeWhile p).length=i
|[],i,hi,_,_=>by simp at hi;simp[hi]
|a::l,0,_,_,h=>by
  have:=h (by simp);rw[List.getElem_cons_zero] at this;simp[List.takeWhile_cons,this]
|a::l,i+1,hi,h1,h2=>by
  have h0:=h1 0 (by simp) (by omega);rw[List.getElem_cons_zero] at h0;rw[List.takeWhile_cons,h0];simp only[if_true,List.length_cons];rw[takeWhile_at l i (by simpa using hi) (fun m hm hmi=>by
   have:=h1 (m+1) (by simpa using hm) (by omega)
   rwa [List.getElem_cons_succ] at this) (fun h=>by
   have:=h2 (by simpa using h)
   rwa [List.getElem_cons_succ] at this)]
theorem place_le (l:List (List UInt8))(x:List UInt8):place l x≤l.length:=(List.takeWhile_prefix _).length_le
theorem place_at {l:List (List UInt8)}{x:List UInt8}{i:Nat}(hi:i≤l.length)(h1:∀m (h:m < l.length),m < i→less l[m] x=true)(h2:∀h:i < l.length,less l[i] x=false):place l x=i:=takeWhile_at l i hi h1 h2
def ob0:Ob:=.mk 0 0 0 [] [] []
def keyed (o:Ob):Bool:=decide (o.k=7)||decide (o.k=9)
def get (o:Ob)(key:List UInt8):Option Ob:=if keyed o then (if o.keys.idxOf key < o.keys.length then o.kids[o.keys.idxOf key]? else none) else none
def put (o:Ob)(key:List UInt8)(v:Ob):Ob:=
 .mk o.k o.n o.g o.s (o.keys.take (place o.keys key)++key::o.keys.drop (place o.keys key+if hit o.keys key then 1 else 0)) (o.kids.take (place o.keys key)++v::o.kids.drop (place o.keys key+if hit o.keys key then 1 else 0))
def right (o:Ob):Ob×Int:=if check 1 o≠0 then (ob0,check 1 o) else (o,0)
end Vl
end
section
open Eng
def S_slices_Index_string_string_0 (t0 t1 t7 t8:Value)(w:World)(N1:List Value→World→Prop)(K:Ending→World→Prop):Prop:=
 DoX prog (mBin .lss 3 t8 t7) w (pk K) fun t9 w=>
 IfX t9 (DoX prog (mIA 23 t0 t8) w (pk K) fun t14 w=>
 DoX prog (mLoad 9 t14) w (pk K) fun t15 w=>
 DoX prog (mEq .eql 9 (.tmp 11) (.tmp 15) t1 t15) w (pk K) fun t16 w=>
 IfX t16 (K (.returned t8) w) (DoX prog (mBin .add 3 t8 (.int .i64 1)) w (pk K) fun t18 w=>
 N1 [t18] w)) (K (.returned (.int .i64 (-1))) w)
def S_slices_Index_string_string (t0 t1:Value)(w:World)(K:Ending→World→Prop):Prop:=
 DoX prog (mB .len #[23] 3 #[false] #[t0]) w (pk K) fun t7 w=>
 LoopX [(.int .i64 0)] w (fun vs1 w N1=>∀_:Sg,S_slices_Index_string_string_0 t0 t1 t7 (vs1.getD 0 undef) w N1 K)
theorem S_slices_Index_string_string_eq (t0 t1:Value)(w:World)(K:Ending→World→Prop):wpX prog 19 [] [(2,[8])] none (bodyOf Tryz.f106) (topQ prog [.tmp 4] K) (startX [t0,t1]) [] w=S_slices_Index_string_string t0 t1 w K:=by kernel_rfl
theorem S_slices_Index_string_string_ok {t0 t1:Value}{w:World}{K:Ending→World→Prop}(h:S_slices_Index_string_string t0 t1 w K):Calls prog 106 #[t0,t1] w K:=
 calls_of_wpX Tryz.func106 rfl rfl rfl rfl (Eq.mpr (S_slices_Index_string_string_eq t0 t1 w K) h)
end
section
open Eng Go.RowKit
theorem nStrI:notAgg prog 9=true:=by kernel_rfl
theorem idx_at {l:List (List UInt8)}{x:List UInt8}{i:Nat}(h:i < l.length)(hn:x ∉ l.take i)(he:l[i]=x):l.idxOf x=i:=by
 have e:l=l.take i++(l[i]::l.drop (i+1)):=by
  rw[←List.drop_eq_getElem_cons h,List.take_append_drop]
 rw[e,List.idxOf_append,if_neg hn,he,List.idxOf_cons_self,List.length_take];omega
theorem sindex_ret (va:Value)(l:List (List UInt8))(x:List UInt8)(w:World)(ha:Sl w va 1 l.length (strsV l))(hl:l.length≤1099511627776) :
  Ret prog 106 #[va,.string ⟨x.toArray⟩] w (fun v w'=>v=.int .i64 (if l.idxOf x < l.length then (l.idxOf x:Int) else -1)∧w=w'):=by
 refine ret_of fun K hK=>S_slices_Index_string_string_ok ?_;unfold S_slices_Index_string_string;rw[sl_len Tryz.underlying23 ha];refine loop (fun vs w'=>∃(i:Nat),vs=[.int .i64 i]∧i≤l.length∧x ∉ l.take i∧w=w') (fun vs _=>l.length - n0 vs) ⟨0,rfl,by omega,by simp,rfl⟩ ?_;rintro vs w2 ⟨i,rfl,hi,hm,rfl⟩ _;simp only[S_slices_Index_string_string_0,gd,rs];by_cases hlt:(i:Int) < (l.length:Int)
 ·have hi':i < l.length:=by omega
  simp only[hlt,decide_true,rs];refine sl_ia1 (.string ⟨(l[i]).toArray⟩) Tryz.underlying23 (by kernel_rfl) ha (by omega) (by rw[Int.toNat_natCast];exact strsV_get hi') fun q hq=>?_;rw[l_cell nStrI hq];simp only[rs];by_cases he:x=l[i]
  ·simp only[←he,decide_true,rs];have:=idx_at hi' hm he.symm;exact hK _ _ ⟨by rw[this,if_pos hi'],rfl⟩
  ·simp only[he,decide_false,rs];rw[wrap64_id (by omega) (by omega)];refine nextX ⟨i+1,rfl,by omega,?_,rfl⟩ (by simp[n0,RowKit.intOf];omega);rw[List.take_add_one,List.getElem?_eq_getElem hi'];simp only[Option.toList,List.mem_append,List.mem_singleton,not_or];exact⟨hm,he⟩
 ·simp only[hlt,decide_false,i_f];rw[List.take_of_length_le (by omega)] at hm;exact hK _ _ ⟨by rw[if_neg (by rw[List.idxOf_lt_length_iff];exact hm)],rfl⟩
end
section
open Eng Go.RowKit
def obC (o:Ob)(vk vc:Value):List Value:=[.int .i64 o.k,.int .i64 o.n,.int .i64 o.g,.string ⟨o.s.toArray⟩,vk,vc]
def obV (o:Ob)(vk vc:Value):Value:=.agg (obC o vk vc).toArray
def obE (b:Nat)(o:Ob)(vk vc:Value):Ent:=.cells b (obC o vk vc) 26
structure ObAt (A:Nat→Prop) (w:World) (o:Ob) (vk vc:Value) (cs:List Value):Prop where
 keys:SlA A w vk 1 o.keys.length (strsV o.keys)
 kids:SlA A w vc 6 o.kids.length cs
 all:OVs A w cs o.kids
theorem OV.open {A:Nat→Prop}{w:World}{v:Value}{o:Ob}(h:OV A w v o):∃vk vc cs,v=obV o vk vc∧ObAt A w o vk vc cs:=by
 cases o with
|mk k n g s keys kids=>
  rw[OV] at h;obtain⟨vk,vc,cs,rfl,h1,h2,h3⟩:=h;exact⟨vk,vc,cs,rfl,h1,h2,h3⟩
theorem ObAt.ov {A:Nat→Prop}{w:World}{o:Ob}{vk vc:Value}{cs:List Value}(h:ObAt A w o vk vc cs):OV A w (obV o vk vc) o:=by
 cases o with
|mk k n g s keys kids=>
  rw[OV];exact⟨vk,vc,cs,rfl,h.keys,h.kids,h.all⟩
theorem ObAt.kept {A:Nat→Prop}{w w':World}{o:Ob}{vk vc:Value}{cs:List Value}(h:ObAt A w o vk vc cs)(hk:Kept A w w'):ObAt A w' o vk vc cs:=
 ⟨h.keys.kept hk,h.kids.kept hk,OVs.kept hk _ _ h.all⟩
theorem kept_below {A:Nat→Prop}{w w':World}(hA:∀b,A b→b < w.heap.size)(h:Below w.heap.size w w'):Kept A w w':=fun b hb=>h.block b (hA b hb)
theorem OwnS.keptIn {w0 w:World}{L:List Ent}(h:Own w0 w L):Kept (InW w0) w0 w:=kept_below (fun _ h=>h) h.done
theorem OV.own {w0 w:World}{L:List Ent}{v:Value}{o:Ob}(h:OV (InW w0) w0 v o)(ho:Own w0 w L):OV (InW w0) w v o:=OV.kept (OwnS.keptIn ho) o v h
theorem OV.at_ {w0 w:World}{L:List Ent}{v:Value}{o:Ob}(h:OV (InW w0) w0 v o)(ho:Own w0 w L):OV (InW w) w v o:=OV.mono (fun _ hb=>Nat.lt_of_lt_of_le hb ho.size) o v (h.own ho)
theorem ObAt.own {w0 w:World}{L:List Ent}{o:Ob}{vk vc:Value}{cs:List Value}(h:ObAt (InW w0) w0 o vk vc cs)(ho:Own w0 w L):ObAt (InW w0) w o vk vc cs:=h.kept (OwnS.keptIn ho)
theorem SlA.one {A:Nat→Prop}{w:World}{v:Value}{sz n:Nat}{cs:List Value}(h:SlA A w v sz n cs):v.oneCell'=true:=by
 obtain⟨⟨_,a,cap,rfl,_⟩,_⟩:=h;rfl
theorem aggOb:aggN prog 26=some 6:=by kernel_rfl
theorem szOb:(Tryz.prog.info? 26).map (·.size)=some 6:=by kernel_rfl
theorem nSlOb:notAgg prog 24=true:=by kernel_rfl
theorem nSlS5:notAgg prog 23=true:=by kernel_rfl
theorem nI65:notAgg prog 2=true:=by kernel_rfl
theorem nInt5:notAgg prog 3=true:=by kernel_rfl
theorem nStr5:notAgg prog 9=true:=by kernel_rfl
theorem fo_o0:fOff prog 26 0=some 0:=by kernel_rfl
theorem fo_o1:fOff prog 26 1=some 1:=by kernel_rfl
theorem fo_o2:fOff prog 26 2=some 2:=by kernel_rfl
theorem fo_o3:fOff prog 26 3=some 3:=by kernel_rfl
theorem fo_o4:fOff prog 26 4=some 4:=by kernel_rfl
theorem fo_o5:fOff prog 26 5=some 5:=by kernel_rfl
section
variable {w:World}{PK:PKT}{K:VWP}{S:Nat→Prop}{w0:World}{L:List Ent}
theorem fa_o0 {b off:Nat}:DoX prog (mFA 26 (.pointer (some ⟨b,off,none⟩)) 0) w PK K=K (.pointer (some ⟨b,off,none⟩)) w:=f_addr fo_o0
theorem fa_o1 {b off:Nat}:DoX prog (mFA 26 (.pointer (some ⟨b,off,none⟩)) 1) w PK K=K (.pointer (some ⟨b,off+1,none⟩)) w:=f_addr fo_o1
theorem fa_o2 {b off:Nat}:DoX prog (mFA 26 (.pointer (some ⟨b,off,none⟩)) 2) w PK K=K (.pointer (some ⟨b,off+2,none⟩)) w:=f_addr fo_o2
theorem fa_o3 {b off:Nat}:DoX prog (mFA 26 (.pointer (some ⟨b,off,none⟩)) 3) w PK K=K (.pointer (some ⟨b,off+3,none⟩)) w:=f_addr fo_o3
theorem fa_o4 {b off:Nat}:DoX prog (mFA 26 (.pointer (some ⟨b,off,none⟩)) 4) w PK K=K (.pointer (some ⟨b,off+4,none⟩)) w:=f_addr fo_o4
theorem fa_o5 {b off:Nat}:DoX prog (mFA 26 (.pointer (some ⟨b,off,none⟩)) 5) w PK K=K (.pointer (some ⟨b,off+5,none⟩)) w:=f_addr fo_o5
theorem o_obb (o:Ob){vk vc:Value}(hk:vk.oneCell'=true)(hc:vc.oneCell'=true)(ho:OwnS S w0 w L)(k:∀b w',OwnS S w0 w' (obE b o vk vc::L)→K (.pointer (some ⟨b,0,none⟩)) w'):DoX prog (mBox 26 (obV o vk vc)) w PK K:=by
 cases vk<;>first|(cases hk;done)|skip
 all_goals cases vc<;>first|(cases hc;done)|exact o_new (fun b=>.pointer (some ⟨b,0,none⟩)) (obC o _ _) 26 (fun _=>by kernel_rfl) ho k
def ob0:Ob:=.mk 0 0 0 [] [] []
theorem o_oba (ho:OwnS S w0 w L)(k:∀b w',OwnS S w0 w' (obE b ob0 (.slice none 0 0) (.slice none 0 0)::L)→K (.pointer (some ⟨b,0,none⟩)) w'):DoX prog (mAlloc 26) w PK K:=
 o_new (fun b=>.pointer (some ⟨b,0,none⟩)) (obC ob0 (.slice none 0 0) (.slice none 0 0)) 26 (fun _=>by kernel_rfl) ho k
theorem obC_one (o:Ob){vk vc:Value}(hk:vk.oneCell'=true)(hc:vc.oneCell'=true):∀v∈obC o vk vc,v.oneCell'=true:=by
 intro v hv;simp only[obC,List.mem_cons,List.not_mem_nil,or_false] at hv;rcases hv with rfl|rfl|rfl|rfl|rfl|rfl<;>first|rfl|assumption
theorem ob_put (i:Nat){b:Nat}{o o':Ob}{vk vc vk' vc':Value}(hk:vk'.oneCell'=true)(hc:vc'.oneCell'=true)(ho:OwnS S w0 w L)(hi:L[i]?=some (obE b o vk vc))(k:∀w',OwnS S w0 w' (L.set i (obE b o' vk' vc'))→K undef w') :
  DoX prog (mStore 26 (.pointer (some ⟨b,0,none⟩)) (obV o' vk' vc')) w PK K:=o_put i ho hi (new:=obC o' vk' vc') szOb (obC_one o' hk hc) rfl k
theorem ob_k (ho:OwnS S w0 w L)(i:Nat){b:Nat}{o:Ob}{vk vc:Value}(hi:L[i]?=some (obE b o vk vc)):DoX prog (mLoad 3 (.pointer (some ⟨b,0,none⟩))) w PK K=K (.int .i64 o.k) w:=l_cell nInt5 (ho.cell i hi 0 rfl)
theorem ob_n (ho:OwnS S w0 w L)(i:Nat){b:Nat}{o:Ob}{vk vc:Value}(hi:L[i]?=some (obE b o vk vc)):DoX prog (mLoad 2 (.pointer (some ⟨b,0+1,none⟩))) w PK K=K (.int .i64 o.n) w:=l_cell nI65 (ho.cell i hi 1 rfl)
theorem ob_g (ho:OwnS S w0 w L)(i:Nat){b:Nat}{o:Ob}{vk vc:Value}(hi:L[i]?=some (obE b o vk vc)):DoX prog (mLoad 3 (.pointer (some ⟨b,0+2,none⟩))) w PK K=K (.int .i64 o.g) w:=l_cell nInt5 (ho.cell i hi 2 rfl)
theorem ob_s (ho:OwnS S w0 w L)(i:Nat){b:Nat}{o:Ob}{vk vc:Value}(hi:L[i]?=some (obE b o vk vc)):DoX prog (mLoad 9 (.pointer (some ⟨b,0+3,none⟩))) w PK K=K (.string ⟨o.s.toArray⟩) w:=l_cell nStr5 (ho.cell i hi 3 rfl)
theorem ob_keys (ho:OwnS S w0 w L)(i:Nat){b:Nat}{o:Ob}{vk vc:Value}(hi:L[i]?=some (obE b o vk vc)):DoX prog (mLoad 23 (.pointer (some ⟨b,0+4,none⟩))) w PK K=K vk w:=l_cell nSlS5 (ho.cell i hi 4 rfl)
theorem ob_kids (ho:OwnS S w0 w L)(i:Nat){b:Nat}{o:Ob}{vk vc:Value}(hi:L[i]?=some (obE b o vk vc)):DoX prog (mLoad 24 (.pointer (some ⟨b,0+5,none⟩))) w PK K=K vc w:=l_cell nSlOb (ho.cell i hi 5 rfl)
theorem ob_v (ho:OwnS S w0 w L)(i:Nat){b:Nat}{o:Ob}{vk vc:Value}(hi:L[i]?=some (obE b o vk vc)):DoX prog (mLoad 26 (.pointer (some ⟨b,0,none⟩))) w PK K=K (obV o vk vc) w:=l_at (ho.agg i hi aggOb)
theorem ob_ia {A:Nat→Prop}{vc:Value}{os:List Ob}{cs:List Value}{K:VWP}{PK2:PKT}(hs:Sl w vc 6 os.length cs)(hall:OVs A w cs os){i:Nat}(hi:i < os.length)
  (k:∀v,OV A w v os[i]→K v w):DoX prog (mIA 24 vc (.int .i64 (i:Int))) w PK fun t w=>DoX prog (mLoad 26 t) w PK2 K:=by
 obtain⟨b,off,cap,rfl,hc⟩:=sl_open hs (by omega);refine do_eq (run_ia Tryz.underlying24 szOb (by omega) (by omega)) |>.mpr ?_;rw[Int.toNat_natCast];obtain⟨a,hl,hov,hget⟩:=OVs.get os cs i hi hall;refine do_eq (run_load_at (v:=.agg a.toArray) (AtV.agg aggOb hl fun j v hj=>?_)) |>.mpr (k _ hov);rw[Nat.add_assoc];exact hc _ _ (hget j v hj)
end
end
section
open Eng
def S_foliantref05_Size_1 (t3 t27 t28 t29:Value)(w:World)(N2:List Value→World→Prop)(K:Ending→World→Prop):Prop:=
 DoX prog (mBin .lss 3 t29 t28) w (pk K) fun t30 w=>
 IfX t30 (DoX prog (mIA 24 t27 t29) w (pk K) fun t31 w=>
 DoX prog (mLoad 26 t31) w (pk K) fun t32 w=>
 DoX prog (mAlloc 26) w (pk K) fun t7 w=>
 DoX prog (mStore 26 t7 t32) w (pk K) fun _ w=>
 DoX prog (mLoad 26 t7) w (pk K) fun t34 w=>
 CallX prog 17 #[t34] w (pk K) fun t35 w=>
 DoX prog (mBin .add 3 t3 t35) w (pk K) fun t36 w=>
 DoX prog (mBin .add 3 t29 (.int .i64 1)) w (pk K) fun t37 w=>
 N2 [t36,t37] w) (K (.returned t3) w)
def S_foliantref05_Size_0 (t1 t3 t14 t15 t16:Value)(w:World)(N1:List Value→World→Prop)(K:Ending→World→Prop):Prop:=
 DoX prog (mBin .lss 3 t16 t15) w (pk K) fun t17 w=>
 IfX t17 (DoX prog (mIA 23 t14 t16) w (pk K) fun t18 w=>
 DoX prog (mLoad 9 t18) w (pk K) fun t19 w=>
 DoX prog (mB .len #[9] 3 #[false] #[t19]) w (pk K) fun t22 w=>
 DoX prog (mBin .quo 3 t22 (.int .i64 50)) w (pk K) fun t23 w=>
 DoX prog (mBin .add 3 t3 t23) w (pk K) fun t24 w=>
 DoX prog (mBin .add 3 t16 (.int .i64 1)) w (pk K) fun t25 w=>
 N1 [t24,t25] w) (DoX prog (mFA 26 t1 5) w (pk K) fun t26 w=>
 DoX prog (mLoad 24 t26) w (pk K) fun t27 w=>
 DoX prog (mB .len #[24] 3 #[false] #[t27]) w (pk K) fun t28 w=>
 LoopX [t3,(.int .i64 0)] w (fun vs2 w N2=>∀_:Sg,S_foliantref05_Size_1 (vs2.getD 0 undef) t27 t28 (vs2.getD 1 undef) w N2 K))
def S_foliantref05_Size (t0:Value)(w:World)(K:Ending→World→Prop):Prop:=
 DoX prog (mBox 26 t0) w (pk K) fun t1 w=>
 DoX prog (mFA 26 t1 3) w (pk K) fun t8 w=>
 DoX prog (mLoad 9 t8) w (pk K) fun t9 w=>
 DoX prog (mB .len #[9] 3 #[false] #[t9]) w (pk K) fun t10 w=>
 DoX prog (mBin .quo 3 t10 (.int .i64 50)) w (pk K) fun t11 w=>
 DoX prog (mBin .add 3 (.int .i64 1) t11) w (pk K) fun t12 w=>
 DoX prog (mFA 26 t1 4) w (pk K) fun t13 w=>
 DoX prog (mLoad 23 t13) w (pk K) fun t14 w=>
 DoX prog (mB .len #[23] 3 #[false] #[t14]) w (pk K) fun t15 w=>
 LoopX [t12,(.int .i64 0)] w (fun vs1 w N1=>∀_:Sg,S_foliantref05_Size_0 t1 (vs1.getD 0 undef) t14 t15 (vs1.getD 1 undef) w N1 K)
theorem S_foliantref05_Size_eq (t0:Value)(w:World)(K:Ending→World→Prop):wpX prog 39 [] [(3,[3,16]),(8,[3,29])] none (bodyOf Tryz.f17) (topQ prog [.tmp 2] K) (startX [t0]) [] w=S_foliantref05_Size t0 w K:=by kernel_rfl
theorem S_foliantref05_Size_ok {t0:Value}{w:World}{K:Ending→World→Prop}(h:S_foliantref05_Size t0 w K):Calls prog 17 #[t0] w K:=
 calls_of_wpX Tryz.func17 rfl rfl rfl rfl (Eq.mpr (S_foliantref05_Size_eq t0 w K) h)
def S_foliantref05_Array (t0:Value)(w:World)(K:Ending→World→Prop):Prop:=
 DoX prog (mAlloc 26) w (pk K) fun t2 w=>
 DoX prog (mBuild 26 #[(0,(.int .i64 6)),(5,t0)]) w (pk K) fun t4 w=>
 DoX prog (mStore 26 t2 t4) w (pk K) fun _ w=>
 RetX prog [.cell t2 26] w K
theorem S_foliantref05_Array_eq (t0:Value)(w:World)(K:Ending→World→Prop):wpX prog 5 [] [] none (bodyOf Tryz.f24) (topQ prog [.cell 2 26] K) (startX [t0]) [] w=S_foliantref05_Array t0 w K:=by kernel_rfl
theorem S_foliantref05_Array_ok {t0:Value}{w:World}{K:Ending→World→Prop}(h:S_foliantref05_Array t0 w K):Calls prog 24 #[t0] w K:=
 calls_of_wpX Tryz.func24 rfl rfl rfl rfl (Eq.mpr (S_foliantref05_Array_eq t0 w K) h)
def S_foliantref05_Key (t0:Value)(w:World)(K:Ending→World→Prop):Prop:=
 DoX prog (mAlloc 26) w (pk K) fun t2 w=>
 DoX prog (mBuild 26 #[(0,(.int .i64 5)),(3,t0)]) w (pk K) fun t4 w=>
 DoX prog (mStore 26 t2 t4) w (pk K) fun _ w=>
 RetX prog [.cell t2 26] w K
theorem S_foliantref05_Key_eq (t0:Value)(w:World)(K:Ending→World→Prop):wpX prog 5 [] [] none (bodyOf Tryz.f84) (topQ prog [.cell 2 26] K) (startX [t0]) [] w=S_foliantref05_Key t0 w K:=by kernel_rfl
theorem S_foliantref05_Key_ok {t0:Value}{w:World}{K:Ending→World→Prop}(h:S_foliantref05_Key t0 w K):Calls prog 84 #[t0] w K:=
 calls_of_wpX Tryz.func84 rfl rfl rfl rfl (Eq.mpr (S_foliantref05_Key_eq t0 w K) h)
def S_foliantref05_Ref (t0 t1:Value)(w:World)(K:Ending→World→Prop):Prop:=
 DoX prog (mAlloc 26) w (pk K) fun t4 w=>
 DoX prog (mBuild 26 #[(0,(.int .i64 8)),(1,t0),(2,t1)]) w (pk K) fun t7 w=>
 DoX prog (mStore 26 t4 t7) w (pk K) fun _ w=>
 RetX prog [.cell t4 26] w K
theorem S_foliantref05_Ref_eq (t0 t1:Value)(w:World)(K:Ending→World→Prop):wpX prog 8 [] [] none (bodyOf Tryz.f31) (topQ prog [.cell 4 26] K) (startX [t0,t1]) [] w=S_foliantref05_Ref t0 t1 w K:=by kernel_rfl
theorem S_foliantref05_Ref_ok {t0 t1:Value}{w:World}{K:Ending→World→Prop}(h:S_foliantref05_Ref t0 t1 w K):Calls prog 31 #[t0,t1] w K:=
 calls_of_wpX Tryz.func31 rfl rfl rfl rfl (Eq.mpr (S_foliantref05_Ref_eq t0 t1 w K) h)
def S_foliantref05_Int (t0:Value)(w:World)(K:Ending→World→Prop):Prop:=
 DoX prog (mAlloc 26) w (pk K) fun t2 w=>
 DoX prog (mBuild 26 #[(0,(.int .i64 2)),(1,t0)]) w (pk K) fun t4 w=>
 DoX prog (mStore 26 t2 t4) w (pk K) fun _ w=>
 RetX prog [.cell t2 26] w K
theorem S_foliantref05_Int_eq (t0:Value)(w:World)(K:Ending→World→Prop):wpX prog 5 [] [] none (bodyOf Tryz.f26) (topQ prog [.cell 2 26] K) (startX [t0]) [] w=S_foliantref05_Int t0 w K:=by kernel_rfl
theorem S_foliantref05_Int_ok {t0:Value}{w:World}{K:Ending→World→Prop}(h:S_foliantref05_Int t0 w K):Calls prog 26 #[t0] w K:=
 calls_of_wpX Tryz.func26 rfl rfl rfl rfl (Eq.mpr (S_foliantref05_Int_eq t0 w K) h)
def S_foliantref05_Null (w:World)(K:Ending→World→Prop):Prop:=
 DoX prog (mAlloc 26) w (pk K) fun t0 w=>
 DoX prog (mBuild 26 #[]) w (pk K) fun t1 w=>
 DoX prog (mStore 26 t0 t1) w (pk K) fun _ w=>
 RetX prog [.cell t0 26] w K
theorem S_foliantref05_Null_eq (w:World)(K:Ending→World→Prop):wpX prog 2 [] [] none (bodyOf Tryz.f97) (topQ prog [.cell 0 26] K) (startX []) [] w=S_foliantref05_Null w K:=by kernel_rfl
theorem S_foliantref05_Null_ok {w:World}{K:Ending→World→Prop}(h:S_foliantref05_Null w K):Calls prog 97 #[] w K:=
 calls_of_wpX Tryz.func97 rfl rfl rfl rfl (Eq.mpr (S_foliantref05_Null_eq w K) h)
def S_foliantref05_uses_1 (t1 t4 t15:Value)(w:World)(K:Ending→World→Prop):Prop:=
 IfX t15 (DoX prog (mLoad 26 t1) w (pk K) fun t18 w=>
 CallX prog 124 #[t18,(.bool false),(.bool false),(.bool true),(.bool false)] w (pk K) fun t19 w=>
 K (.returned t19) w) (DoX prog (mEq .eql 3 (.tmp 4) (.const (.int .i64 6)) t4 (.int .i64 6)) w (pk K) fun t21 w=>
 IfX t21 (DoX prog (mLoad 26 t1) w (pk K) fun t22 w=>
 CallX prog 124 #[t22,(.bool false),(.bool false),(.bool false),(.bool true)] w (pk K) fun t23 w=>
 GDo t23 true (fun E=>DoX prog (mFA 26 t1 4) w (pk K) E) w fun t25 w=>
 GDo t23 true (fun E=>DoX prog (mLoad 23 t25) w (pk K) E) w fun t26 w=>
 GDo t23 true (fun E=>DoX prog (mB .len #[23] 3 #[false] #[t26]) w (pk K) E) w fun t27 w=>
 GDo t23 true (fun E=>DoX prog (mEq .eql 3 (.tmp 27) (.const (.int .i64 0)) t27 (.int .i64 0)) w (pk K) E) w fun t28 w=>
 DoX prog (mPick t23 t28 (.bool false)) w (pk K) fun t29 w=>
 K (.returned t29) w) (DoX prog (mEq .eql 3 (.tmp 4) (.const (.int .i64 7)) t4 (.int .i64 7)) w (pk K) fun t31 w=>
 IfX t31 (DoX prog (mLoad 26 t1) w (pk K) fun t32 w=>
 CallX prog 124 #[t32,(.bool false),(.bool false),(.bool false),(.bool true)] w (pk K) fun t33 w=>
 K (.returned t33) w) (DoX prog (mEq .eql 3 (.tmp 4) (.const (.int .i64 8)) t4 (.int .i64 8)) w (pk K) fun t35 w=>
 IfX t35 (DoX prog (mLoad 26 t1) w (pk K) fun t36 w=>
 CallX prog 124 #[t36,(.bool true),(.bool true),(.bool false),(.bool false)] w (pk K) fun t37 w=>
 K (.returned t37) w) (DoX prog (mEq .eql 3 (.tmp 4) (.const (.int .i64 9)) t4 (.int .i64 9)) w (pk K) fun t39 w=>
 IfX t39 (DoX prog (mLoad 26 t1) w (pk K) fun t40 w=>
 CallX prog 124 #[t40,(.bool false),(.bool false),(.bool true),(.bool true)] w (pk K) fun t41 w=>
 K (.returned t41) w) (K (.returned (.bool false)) w)))))
def S_foliantref05_uses_0 (t1 t4 t9:Value)(w:World)(K:Ending→World→Prop):Prop:=
 IfX t9 (DoX prog (mLoad 26 t1) w (pk K) fun t13 w=>
 CallX prog 124 #[t13,(.bool true),(.bool false),(.bool false),(.bool false)] w (pk K) fun t14 w=>
 K (.returned t14) w) (JoinX (fun J2=>
 DoX prog (mEq .eql 3 (.tmp 4) (.const (.int .i64 4)) t4 (.int .i64 4)) w (pk K) fun t16 w=>
 IfX t16 (J2 [t16] w) (DoX prog (mEq .eql 3 (.tmp 4) (.const (.int .i64 5)) t4 (.int .i64 5)) w (pk K) fun t17 w=>
 J2 [t17] w)) (fun vs2 w=>∀_:Sg,S_foliantref05_uses_1 t1 t4 (vs2.getD 0 undef) w K))
def S_foliantref05_uses (t0:Value)(w:World)(K:Ending→World→Prop):Prop:=
 DoX prog (mBox 26 t0) w (pk K) fun t1 w=>
 DoX prog (mFA 26 t1 0) w (pk K) fun t3 w=>
 DoX prog (mLoad 3 t3) w (pk K) fun t4 w=>
 DoX prog (mEq .eql 3 (.tmp 4) (.const (.int .i64 0)) t4 (.int .i64 0)) w (pk K) fun t6 w=>
 IfX t6 (DoX prog (mLoad 26 t1) w (pk K) fun t7 w=>
 CallX prog 124 #[t7,(.bool false),(.bool false),(.bool false),(.bool false)] w (pk K) fun t8 w=>
 K (.returned t8) w) (JoinX (fun J1=>
 DoX prog (mEq .eql 3 (.tmp 4) (.const (.int .i64 1)) t4 (.int .i64 1)) w (pk K) fun t10 w=>
 IfX t10 (J1 [t10] w) (DoX prog (mEq .eql 3 (.tmp 4) (.const (.int .i64 2)) t4 (.int .i64 2)) w (pk K) fun t11 w=>
 IfX t11 (J1 [t11] w) (DoX prog (mEq .eql 3 (.tmp 4) (.const (.int .i64 3)) t4 (.int .i64 3)) w (pk K) fun t12 w=>
 J1 [t12] w))) (fun vs1 w=>∀_:Sg,S_foliantref05_uses_0 t1 t4 (vs1.getD 0 undef) w K))
theorem S_foliantref05_uses_eq (t0:Value)(w:World)(K:Ending→World→Prop):wpX prog 42 [(7,[9]),(10,[15])] [] none (bodyOf Tryz.f100) (topQ prog [.tmp 2] K) (startX [t0]) [] w=S_foliantref05_uses t0 w K:=by kernel_rfl
theorem S_foliantref05_uses_ok {t0:Value}{w:World}{K:Ending→World→Prop}(h:S_foliantref05_uses t0 w K):Calls prog 100 #[t0] w K:=
 calls_of_wpX Tryz.func100 rfl rfl rfl rfl (Eq.mpr (S_foliantref05_uses_eq t0 w K) h)
def S_foliantref05_fits (t0:Value)(w:World)(K:Ending→World→Prop):Prop:=
 DoX prog (mBox 26 t0) w (pk K) fun t1 w=>
 DoX prog (mFA 26 t1 0) w (pk K) fun t3 w=>
 DoX prog (mLoad 3 t3) w (pk K) fun t4 w=>
 DoX prog (mEq .eql 3 (.tmp 4) (.const (.int .i64 1)) t4 (.int .i64 1)) w (pk K) fun t6 w=>
 IfX t6 (DoX prog (mFA 26 t1 1) w (pk K) fun t7 w=>
 DoX prog (mLoad 2 t7) w (pk K) fun t8 w=>
 DoX prog (mEq .eql 2 (.tmp 8) (.const (.int .i64 0)) t8 (.int .i64 0)) w (pk K) fun t9 w=>
 GDo t9 false (fun E=>DoX prog (mFA 26 t1 1) w (pk K) E) w fun t11 w=>
 GDo t9 false (fun E=>DoX prog (mLoad 2 t11) w (pk K) E) w fun t12 w=>
 GDo t9 false (fun E=>DoX prog (mEq .eql 2 (.tmp 12) (.const (.int .i64 1)) t12 (.int .i64 1)) w (pk K) E) w fun t13 w=>
 DoX prog (mPick t9 (.bool true) t13) w (pk K) fun t14 w=>
 K (.returned t14) w) (DoX prog (mEq .eql 3 (.tmp 4) (.const (.int .i64 2)) t4 (.int .i64 2)) w (pk K) fun t16 w=>
 IfX t16 (DoX prog (mFA 26 t1 1) w (pk K) fun t17 w=>
 DoX prog (mLoad 2 t17) w (pk K) fun t18 w=>
 DoX prog (mBin .geq 2 t18 (.int .i64 (-2147483647))) w (pk K) fun t19 w=>
 GDo t19 true (fun E=>DoX prog (mFA 26 t1 1) w (pk K) E) w fun t21 w=>
 GDo t19 true (fun E=>DoX prog (mLoad 2 t21) w (pk K) E) w fun t22 w=>
 GDo t19 true (fun E=>DoX prog (mBin .leq 2 t22 (.int .i64 2147483647)) w (pk K) E) w fun t23 w=>
 DoX prog (mPick t19 t23 (.bool false)) w (pk K) fun t24 w=>
 K (.returned t24) w) (DoX prog (mEq .eql 3 (.tmp 4) (.const (.int .i64 3)) t4 (.int .i64 3)) w (pk K) fun t26 w=>
 IfX t26 (DoX prog (mFA 26 t1 1) w (pk K) fun t27 w=>
 DoX prog (mLoad 2 t27) w (pk K) fun t28 w=>
 DoX prog (mBin .geq 2 t28 (.int .i64 (-1073741824))) w (pk K) fun t29 w=>
 GDo t29 true (fun E=>DoX prog (mFA 26 t1 1) w (pk K) E) w fun t31 w=>
 GDo t29 true (fun E=>DoX prog (mLoad 2 t31) w (pk K) E) w fun t32 w=>
 GDo t29 true (fun E=>DoX prog (mBin .leq 2 t32 (.int .i64 1073741824)) w (pk K) E) w fun t33 w=>
 DoX prog (mPick t29 t33 (.bool false)) w (pk K) fun t34 w=>
 K (.returned t34) w) (DoX prog (mEq .eql 3 (.tmp 4) (.const (.int .i64 8)) t4 (.int .i64 8)) w (pk K) fun t36 w=>
 IfX t36 (DoX prog (mFA 26 t1 1) w (pk K) fun t37 w=>
 DoX prog (mLoad 2 t37) w (pk K) fun t38 w=>
 DoX prog (mBin .geq 2 t38 (.int .i64 1)) w (pk K) fun t39 w=>
 GDo t39 true (fun E=>DoX prog (mFA 26 t1 1) w (pk K) E) w fun t41 w=>
 GDo t39 true (fun E=>DoX prog (mLoad 2 t41) w (pk K) E) w fun t42 w=>
 GDo t39 true (fun E=>DoX prog (mBin .leq 2 t42 (.int .i64 8191)) w (pk K) E) w fun t43 w=>
 DoX prog (mPick t39 t43 (.bool false)) w (pk K) fun t44 w=>
 GDo t44 true (fun E=>DoX prog (mFA 26 t1 2) w (pk K) E) w fun t46 w=>
 GDo t44 true (fun E=>DoX prog (mLoad 3 t46) w (pk K) E) w fun t47 w=>
 GDo t44 true (fun E=>DoX prog (mBin .geq 3 t47 (.int .i64 0)) w (pk K) E) w fun t48 w=>
 DoX prog (mPick t44 t48 (.bool false)) w (pk K) fun t49 w=>
 GDo t49 true (fun E=>DoX prog (mFA 26 t1 2) w (pk K) E) w fun t51 w=>
 GDo t49 true (fun E=>DoX prog (mLoad 3 t51) w (pk K) E) w fun t52 w=>
 GDo t49 true (fun E=>DoX prog (mBin .leq 3 t52 (.int .i64 65535)) w (pk K) E) w fun t53 w=>
 DoX prog (mPick t49 t53 (.bool false)) w (pk K) fun t54 w=>
 K (.returned t54) w) (K (.returned (.bool true)) w))))
theorem S_foliantref05_fits_eq (t0:Value)(w:World)(K:Ending→World→Prop):wpX prog 55 [] [] none (bodyOf Tryz.f101) (topQ prog [.tmp 2] K) (startX [t0]) [] w=S_foliantref05_fits t0 w K:=by kernel_rfl
theorem S_foliantref05_fits_ok {t0:Value}{w:World}{K:Ending→World→Prop}(h:S_foliantref05_fits t0 w K):Calls prog 101 #[t0] w K:=
 calls_of_wpX Tryz.func101 rfl rfl rfl rfl (Eq.mpr (S_foliantref05_fits_eq t0 w K) h)
def S_foliantref05_long (t0:Value)(w:World)(K:Ending→World→Prop):Prop:=
 DoX prog (mEq .eql 3 (.tmp 3) (.const (.int .i64 5)) t0 (.int .i64 5)) w (pk K) fun t4 w=>
 IfX t4 (K (.returned (.int .i64 127)) w) (DoX prog (mEq .eql 3 (.tmp 5) (.const (.int .i64 9)) t0 (.int .i64 9)) w (pk K) fun t6 w=>
 IfX t6 (K (.returned (.int .i64 1048576)) w) (K (.returned (.int .i64 32767)) w))
theorem S_foliantref05_long_eq (t0:Value)(w:World)(K:Ending→World→Prop):wpX prog 7 [] [] none (bodyOf Tryz.f102) (topQ prog [.tmp 2] K) (startX [t0]) [] w=S_foliantref05_long t0 w K:=by kernel_rfl
theorem S_foliantref05_long_ok {t0:Value}{w:World}{K:Ending→World→Prop}(h:S_foliantref05_long t0 w K):Calls prog 102 #[t0] w K:=
 calls_of_wpX Tryz.func102 rfl rfl rfl rfl (Eq.mpr (S_foliantref05_long_eq t0 w K) h)
def S_foliantref05_zero (t0 t1 t2 t3 t4:Value)(w:World)(K:Ending→World→Prop):Prop:=
 DoX prog (mBox 26 t0) w (pk K) fun t5 w=>
 GDo t1 false (fun E=>DoX prog (mFA 26 t5 1) w (pk K) E) w fun t13 w=>
 GDo t1 false (fun E=>DoX prog (mLoad 2 t13) w (pk K) E) w fun t14 w=>
 GDo t1 false (fun E=>DoX prog (mEq .eql 2 (.tmp 14) (.const (.int .i64 0)) t14 (.int .i64 0)) w (pk K) E) w fun t15 w=>
 DoX prog (mPick t1 (.bool true) t15) w (pk K) fun t16 w=>
 GDo t16 true (fun E=>E t2 w) w fun t18 w=>
 GDo t16 true (fun E=>E t18 w) w fun t19 w=>
 GDo t19 false (fun E=>DoX prog (mFA 26 t5 2) w (pk K) E) w fun t20 w=>
 GDo t19 false (fun E=>DoX prog (mLoad 3 t20) w (pk K) E) w fun t21 w=>
 GDo t19 false (fun E=>DoX prog (mEq .eql 3 (.tmp 21) (.const (.int .i64 0)) t21 (.int .i64 0)) w (pk K) E) w fun t22 w=>
 GDo t16 true (fun E=>DoX prog (mPick t19 (.bool true) t22) w (pk K) E) w fun t23 w=>
 DoX prog (mPick t16 t23 (.bool false)) w (pk K) fun t24 w=>
 GDo t24 true (fun E=>E t3 w) w fun t26 w=>
 GDo t24 true (fun E=>E t26 w) w fun t27 w=>
 GDo t27 false (fun E=>DoX prog (mFA 26 t5 3) w (pk K) E) w fun t28 w=>
 GDo t27 false (fun E=>DoX prog (mLoad 9 t28) w (pk K) E) w fun t29 w=>
 GDo t27 false (fun E=>DoX prog (mEq .eql 9 (.tmp 29) (.const (.string ⟨#[]⟩)) t29 (.string ⟨#[]⟩)) w (pk K) E) w fun t30 w=>
 GDo t24 true (fun E=>DoX prog (mPick t27 (.bool true) t30) w (pk K) E) w fun t31 w=>
 DoX prog (mPick t24 t31 (.bool false)) w (pk K) fun t32 w=>
 GDo t32 true (fun E=>E t4 w) w fun t34 w=>
 GDo t32 true (fun E=>E t34 w) w fun t35 w=>
 GDo t35 false (fun E=>DoX prog (mFA 26 t5 4) w (pk K) E) w fun t36 w=>
 GDo t35 false (fun E=>DoX prog (mLoad 23 t36) w (pk K) E) w fun t37 w=>
 GDo t35 false (fun E=>DoX prog (mB .len #[23] 3 #[false] #[t37]) w (pk K) E) w fun t38 w=>
 GDo t35 false (fun E=>DoX prog (mEq .eql 3 (.tmp 38) (.const (.int .i64 0)) t38 (.int .i64 0)) w (pk K) E) w fun t39 w=>
 GDo t35 false (fun E=>E t39 w) w fun t40 w=>
 GDo t40 true (fun E=>DoX prog (mFA 26 t5 5) w (pk K) E) w fun t41 w=>
 GDo t40 true (fun E=>DoX prog (mLoad 24 t41) w (pk K) E) w fun t42 w=>
 GDo t40 true (fun E=>DoX prog (mB .len #[24] 3 #[false] #[t42]) w (pk K) E) w fun t43 w=>
 GDo t40 true (fun E=>DoX prog (mEq .eql 3 (.tmp 43) (.const (.int .i64 0)) t43 (.int .i64 0)) w (pk K) E) w fun t44 w=>
 GDo t35 false (fun E=>DoX prog (mPick t40 t44 (.bool false)) w (pk K) E) w fun t45 w=>
 GDo t32 true (fun E=>DoX prog (mPick t35 (.bool true) t45) w (pk K) E) w fun t46 w=>
 DoX prog (mPick t32 t46 (.bool false)) w (pk K) fun t47 w=>
 K (.returned t47) w
theorem S_foliantref05_zero_eq (t0 t1 t2 t3 t4:Value)(w:World)(K:Ending→World→Prop):wpX prog 48 [] [] none (bodyOf Tryz.f124) (topQ prog [.tmp 10] K) (startX [t0,t1,t2,t3,t4]) [] w=S_foliantref05_zero t0 t1 t2 t3 t4 w K:=by kernel_rfl
theorem S_foliantref05_zero_ok {t0 t1 t2 t3 t4:Value}{w:World}{K:Ending→World→Prop}(h:S_foliantref05_zero t0 t1 t2 t3 t4 w K):Calls prog 124 #[t0,t1,t2,t3,t4] w K:=
 calls_of_wpX Tryz.func124 rfl rfl rfl rfl (Eq.mpr (S_foliantref05_zero_eq t0 t1 t2 t3 t4 w K) h)
def S_foliantref05_Name_0 (t0 t3:Value)(w:World)(N1:List Value→World→Prop)(K:Ending→World→Prop):Prop:=
 DoX prog (mB .len #[9] 3 #[false] #[t0]) w (pk K) fun t6 w=>
 DoX prog (mBin .lss 3 t3 t6) w (pk K) fun t7 w=>
 IfX t7 (DoX prog (mIx 9 t0 t3) w (pk K) fun t12 w=>
 DoX prog (mEq .eql 5 (.tmp 12) (.const (.int .u8 0)) t12 (.int .u8 0)) w (pk K) fun t13 w=>
 IfX t13 (K (.returned (.bool false)) w) (DoX prog (mBin .add 3 t3 (.int .i64 1)) w (pk K) fun t9 w=>
 N1 [t9] w)) (DoX prog (mB .len #[9] 3 #[false] #[t0]) w (pk K) fun t15 w=>
 DoX prog (mBin .leq 3 t15 (.int .i64 127)) w (pk K) fun t16 w=>
 K (.returned t16) w)
def S_foliantref05_Name (t0:Value)(w:World)(K:Ending→World→Prop):Prop:=
 LoopX [(.int .i64 0)] w (fun vs1 w N1=>∀_:Sg,S_foliantref05_Name_0 t0 (vs1.getD 0 undef) w N1 K)
theorem S_foliantref05_Name_eq (t0:Value)(w:World)(K:Ending→World→Prop):wpX prog 17 [] [(2,[3])] none (bodyOf Tryz.f125) (topQ prog [.tmp 2] K) (startX [t0]) [] w=S_foliantref05_Name t0 w K:=by kernel_rfl
theorem S_foliantref05_Name_ok {t0:Value}{w:World}{K:Ending→World→Prop}(h:S_foliantref05_Name t0 w K):Calls prog 125 #[t0] w K:=
 calls_of_wpX Tryz.func125 rfl rfl rfl rfl (Eq.mpr (S_foliantref05_Name_eq t0 w K) h)
def S_foliantref05_keys_0 (t1 t27 t28 t29:Value)(w:World)(N1:List Value→World→Prop)(K:Ending→World→Prop):Prop:=
 DoX prog (mBin .lss 3 t29 t28) w (pk K) fun t30 w=>
 IfX t30 (DoX prog (mIA 23 t27 t29) w (pk K) fun t32 w=>
 DoX prog (mLoad 9 t32) w (pk K) fun t33 w=>
 CallX prog 125 #[t33] w (pk K) fun t35 w=>
 DoX prog (mUn .not t35) w (pk K) fun t36 w=>
 GDo t36 false (fun E=>E t29 w) w fun t38 w=>
 GDo t36 false (fun E=>DoX prog (mBin .gtr 3 t38 (.int .i64 0)) w (pk K) E) w fun t39 w=>
 GDo t36 false (fun E=>E t39 w) w fun t40 w=>
 GDo t40 true (fun E=>E t33 w) w fun t41 w=>
 GDo t40 true (fun E=>DoX prog (mFA 26 t1 4) w (pk K) E) w fun t42 w=>
 GDo t40 true (fun E=>DoX prog (mLoad 23 t42) w (pk K) E) w fun t43 w=>
 GDo t40 true (fun E=>E t29 w) w fun t44 w=>
 GDo t40 true (fun E=>DoX prog (mBin .sub 3 t44 (.int .i64 1)) w (pk K) E) w fun t45 w=>
 GDo t40 true (fun E=>DoX prog (mIA 23 t43 t45) w (pk K) E) w fun t46 w=>
 GDo t40 true (fun E=>DoX prog (mLoad 9 t46) w (pk K) E) w fun t47 w=>
 GDo t40 true (fun E=>DoX prog (mBin .leq 9 t41 t47) w (pk K) E) w fun t48 w=>
 GDo t36 false (fun E=>DoX prog (mPick t40 t48 (.bool false)) w (pk K) E) w fun t49 w=>
 DoX prog (mPick t36 (.bool true) t49) w (pk K) fun t50 w=>
 GDo t50 false (fun E=>E t33 w) w fun t52 w=>
 GDo t50 false (fun E=>DoX prog (mEq .eql 9 (.tmp 52) (.const (.string ⟨#[76,101,110,103,116,104]⟩)) t52 (.string ⟨#[76,101,110,103,116,104]⟩)) w (pk K) E) w fun t53 w=>
 GDo t50 false (fun E=>E t53 w) w fun t54 w=>
 GDo t54 true (fun E=>DoX prog (mFA 26 t1 0) w (pk K) E) w fun t55 w=>
 GDo t54 true (fun E=>DoX prog (mLoad 3 t55) w (pk K) E) w fun t56 w=>
 GDo t54 true (fun E=>DoX prog (mEq .eql 3 (.tmp 56) (.const (.int .i64 9)) t56 (.int .i64 9)) w (pk K) E) w fun t57 w=>
 GDo t50 false (fun E=>DoX prog (mPick t54 t57 (.bool false)) w (pk K) E) w fun t58 w=>
 DoX prog (mPick t50 (.bool true) t58) w (pk K) fun t59 w=>
 GDo t59 false (fun E=>DoX prog (mFA 26 t1 5) w (pk K) E) w fun t61 w=>
 GDo t59 false (fun E=>DoX prog (mLoad 24 t61) w (pk K) E) w fun t62 w=>
 GDo t59 false (fun E=>E t29 w) w fun t63 w=>
 GDo t59 false (fun E=>DoX prog (mIA 24 t62 t63) w (pk K) E) w fun t64 w=>
 GDo t59 false (fun E=>DoX prog (mFA 26 t64 0) w (pk K) E) w fun t65 w=>
 GDo t59 false (fun E=>DoX prog (mLoad 3 t65) w (pk K) E) w fun t66 w=>
 GDo t59 false (fun E=>DoX prog (mEq .eql 3 (.tmp 66) (.const (.int .i64 0)) t66 (.int .i64 0)) w (pk K) E) w fun t67 w=>
 DoX prog (mPick t59 (.bool true) t67) w (pk K) fun t68 w=>
 IfX t68 (K (.returned (.bool false)) w) (DoX prog (mBin .add 3 t29 (.int .i64 1)) w (pk K) fun t69 w=>
 N1 [t69] w)) (K (.returned (.bool true)) w)
def S_foliantref05_keys (t0:Value)(w:World)(K:Ending→World→Prop):Prop:=
 DoX prog (mBox 26 t0) w (pk K) fun t1 w=>
 DoX prog (mFA 26 t1 0) w (pk K) fun t5 w=>
 DoX prog (mLoad 3 t5) w (pk K) fun t6 w=>
 DoX prog (mEq .eql 3 (.tmp 6) (.const (.int .i64 5)) t6 (.int .i64 5)) w (pk K) fun t7 w=>
 IfX t7 (DoX prog (mFA 26 t1 3) w (pk K) fun t8 w=>
 DoX prog (mLoad 9 t8) w (pk K) fun t9 w=>
 CallX prog 125 #[t9] w (pk K) fun t10 w=>
 K (.returned t10) w) (DoX prog (mFA 26 t1 0) w (pk K) fun t11 w=>
 DoX prog (mLoad 3 t11) w (pk K) fun t12 w=>
 DoX prog (mEq .neq 3 (.tmp 12) (.const (.int .i64 7)) t12 (.int .i64 7)) w (pk K) fun t13 w=>
 GDo t13 true (fun E=>DoX prog (mFA 26 t1 0) w (pk K) E) w fun t15 w=>
 GDo t13 true (fun E=>DoX prog (mLoad 3 t15) w (pk K) E) w fun t16 w=>
 GDo t13 true (fun E=>DoX prog (mEq .neq 3 (.tmp 16) (.const (.int .i64 9)) t16 (.int .i64 9)) w (pk K) E) w fun t17 w=>
 DoX prog (mPick t13 t17 (.bool false)) w (pk K) fun t18 w=>
 IfX t18 (K (.returned (.bool true)) w) (DoX prog (mFA 26 t1 4) w (pk K) fun t19 w=>
 DoX prog (mLoad 23 t19) w (pk K) fun t20 w=>
 DoX prog (mB .len #[23] 3 #[false] #[t20]) w (pk K) fun t21 w=>
 DoX prog (mFA 26 t1 5) w (pk K) fun t22 w=>
 DoX prog (mLoad 24 t22) w (pk K) fun t23 w=>
 DoX prog (mB .len #[24] 3 #[false] #[t23]) w (pk K) fun t24 w=>
 DoX prog (mEq .neq 3 (.tmp 21) (.tmp 24) t21 t24) w (pk K) fun t25 w=>
 IfX t25 (K (.returned (.bool false)) w) (DoX prog (mFA 26 t1 4) w (pk K) fun t26 w=>
 DoX prog (mLoad 23 t26) w (pk K) fun t27 w=>
 DoX prog (mB .len #[23] 3 #[false] #[t27]) w (pk K) fun t28 w=>
 LoopX [(.int .i64 0)] w (fun vs1 w N1=>∀_:Sg,S_foliantref05_keys_0 t1 t27 t28 (vs1.getD 0 undef) w N1 K))))
theorem S_foliantref05_keys_eq (t0:Value)(w:World)(K:Ending→World→Prop):wpX prog 70 [] [(8,[29])] none (bodyOf Tryz.f103) (topQ prog [.tmp 2] K) (startX [t0]) [] w=S_foliantref05_keys t0 w K:=by kernel_rfl
theorem S_foliantref05_keys_ok {t0:Value}{w:World}{K:Ending→World→Prop}(h:S_foliantref05_keys t0 w K):Calls prog 103 #[t0] w K:=
 calls_of_wpX Tryz.func103 rfl rfl rfl rfl (Eq.mpr (S_foliantref05_keys_eq t0 w K) h)
def S_foliantref05_check_0 (t1 t40 t41 t42:Value)(w:World)(N2:List Value→World→Prop)(K:Ending→World→Prop):Prop:=
 DoX prog (mBin .lss 3 t42 t41) w (pk K) fun t43 w=>
 IfX t43 (DoX prog (mIA 24 t40 t42) w (pk K) fun t44 w=>
 DoX prog (mLoad 26 t44) w (pk K) fun t45 w=>
 DoX prog (mAlloc 26) w (pk K) fun t6 w=>
 DoX prog (mStore 26 t6 t45) w (pk K) fun _ w=>
 DoX prog (mLoad 26 t6) w (pk K) fun t46 w=>
 DoX prog (mBin .add 3 t1 (.int .i64 1)) w (pk K) fun t48 w=>
 CallX prog 78 #[t46,t48] w (pk K) fun t49 w=>
 DoX prog (mEq .neq 32 (.tmp 50) (.const (.int .i64 0)) t49 (.int .i64 0)) w (pk K) fun t51 w=>
 IfX t51 (K (.returned t49) w) (DoX prog (mBin .add 3 t42 (.int .i64 1)) w (pk K) fun t53 w=>
 N2 [t53] w)) (K (.returned (.int .i64 0)) w)
def S_foliantref05_check (t0 t1:Value)(w:World)(K:Ending→World→Prop):Prop:=
 DoX prog (mBox 26 t0) w (pk K) fun t2 w=>
 DoX prog (mBin .gtr 3 t1 (.int .i64 24)) w (pk K) fun t9 w=>
 IfX t9 (K (.returned (.int .i64 7)) w) (DoX prog (mLoad 26 t2) w (pk K) fun t10 w=>
 CallX prog 100 #[t10] w (pk K) fun t11 w=>
 DoX prog (mUn .not t11) w (pk K) fun t12 w=>
 GDo t12 false (fun E=>DoX prog (mFA 26 t2 0) w (pk K) E) w fun t14 w=>
 GDo t12 false (fun E=>DoX prog (mLoad 3 t14) w (pk K) E) w fun t15 w=>
 GDo t12 false (fun E=>DoX prog (mEq .eql 3 (.tmp 15) (.const (.int .i64 9)) t15 (.int .i64 9)) w (pk K) E) w fun t16 w=>
 GDo t12 false (fun E=>E t16 w) w fun t17 w=>
 GDo t17 true (fun E=>E t1 w) w fun t18 w=>
 GDo t17 true (fun E=>DoX prog (mBin .gtr 3 t18 (.int .i64 1)) w (pk K) E) w fun t19 w=>
 GDo t12 false (fun E=>DoX prog (mPick t17 t19 (.bool false)) w (pk K) E) w fun t20 w=>
 DoX prog (mPick t12 (.bool true) t20) w (pk K) fun t21 w=>
 IfX t21 (K (.returned (.int .i64 10)) w) (DoX prog (mLoad 26 t2) w (pk K) fun t22 w=>
 CallX prog 101 #[t22] w (pk K) fun t23 w=>
 DoX prog (mUn .not t23) w (pk K) fun t24 w=>
 IfX t24 (K (.returned (.int .i64 2)) w) (QuietX w (fun C1=>
 QDo prog C1 (mFA 26 t2 3) fun t25=>
 QDo prog C1 (mLoad 9 t25) fun t26=>
 QDo prog C1 (mB .len #[9] 3 #[false] #[t26]) fun t27=>
 QDo prog C1 (mFA 26 t2 0) fun t28=>
 QDo prog C1 (mLoad 3 t28) fun t29=>
 QCall prog C1 102 #[t29] fun t30=>
 QDo prog C1 (mBin .gtr 3 t27 t30) fun t31=>
 ∀w,C1 w →
 IfX t31 (K (.returned (.int .i64 5)) w) (DoX prog (mFA 26 t2 5) w (pk K) fun t32 w=>
 DoX prog (mLoad 24 t32) w (pk K) fun t33 w=>
 DoX prog (mB .len #[24] 3 #[false] #[t33]) w (pk K) fun t34 w=>
 DoX prog (mBin .gtr 3 t34 (.int .i64 8191)) w (pk K) fun t35 w=>
 IfX t35 (K (.returned (.int .i64 6)) w) (DoX prog (mLoad 26 t2) w (pk K) fun t36 w=>
 CallX prog 103 #[t36] w (pk K) fun t37 w=>
 DoX prog (mUn .not t37) w (pk K) fun t38 w=>
 IfX t38 (K (.returned (.int .i64 3)) w) (DoX prog (mFA 26 t2 5) w (pk K) fun t39 w=>
 DoX prog (mLoad 24 t39) w (pk K) fun t40 w=>
 DoX prog (mB .len #[24] 3 #[false] #[t40]) w (pk K) fun t41 w=>
 LoopX [(.int .i64 0)] w (fun vs2 w N2=>∀_:Sg,S_foliantref05_check_0 t1 t40 t41 (vs2.getD 0 undef) w N2 K))))))))
theorem S_foliantref05_check_eq (t0 t1:Value)(w:World)(K:Ending→World→Prop):wpX prog 54 [] [(14,[42])] none (bodyOf Tryz.f78) (topQ prog [.tmp 4] K) (startX [t0,t1]) [] w=S_foliantref05_check t0 t1 w K:=by kernel_rfl
theorem S_foliantref05_check_ok {t0 t1:Value}{w:World}{K:Ending→World→Prop}(h:S_foliantref05_check t0 t1 w K):Calls prog 78 #[t0,t1] w K:=
 calls_of_wpX Tryz.func78 rfl rfl rfl rfl (Eq.mpr (S_foliantref05_check_eq t0 t1 w K) h)
def S_foliantref05_Check (t0:Value)(w:World)(K:Ending→World→Prop):Prop:=
 DoX prog (mBox 26 t0) w (pk K) fun t1 w=>
 DoX prog (mLoad 26 t1) w (pk K) fun t3 w=>
 CallX prog 78 #[t3,(.int .i64 1)] w (pk K) fun t4 w=>
 K (.returned t4) w
theorem S_foliantref05_Check_eq (t0:Value)(w:World)(K:Ending→World→Prop):wpX prog 5 [] [] none (bodyOf Tryz.f45) (topQ prog [.tmp 2] K) (startX [t0]) [] w=S_foliantref05_Check t0 w K:=by kernel_rfl
theorem S_foliantref05_Check_ok {t0:Value}{w:World}{K:Ending→World→Prop}(h:S_foliantref05_Check t0 w K):Calls prog 45 #[t0] w K:=
 calls_of_wpX Tryz.func45 rfl rfl rfl rfl (Eq.mpr (S_foliantref05_Check_eq t0 w K) h)
end
end Go.Proofs.YtoobidofdpdkbaaGreatDoor





namespace Go.Proofs.YtoobidofdpdkbaaGreatDoor
section
open Eng Go.RowKit
theorem c_told {P:Program}{f:Nat}{args:Array Value}{w0 w:World}{L:List Ent}{PK:PKT}{K:VWP}{x y:Value}(h:Ret P f args w (fun v w'=>v=x∧Below w.heap.size w w'))(hx:x=y)(ho:Own w0 w L)
  (k:∀w',Own w0 w' L→K y w'):CallX P f args w PK K:=by
 refine c_ret h ?_;rintro v w' ⟨rfl,hb⟩;rw[hx];exact k _ (ho.grow hb)
end
section
namespace Eng
open Go.RowKit
def sel (c:Bool)(x:Value):Value:=bc c x undef
theorem sel_t {x:Value}:sel true x=x:=rfl
theorem sel_f {x:Value}:sel false x=undef:=rfl
section
variable {P:Program}{w:World}{PK:PKT}{K:VWP}
theorem g_move {v x:Value}{want:Bool}:GDo v want (fun E=>E x w) w K=K (sel (wants v want) x) w:=by
 refine propext ⟨fun h=>?_,fun h=>⟨?_⟩⟩
 ·have:=h.out;cases hw:wants v want<;>rw[hw] at this<;>exact this
 ·cases hw:wants v want<;>rw[hw] at h<;>exact h
theorem g_congr {v v':Value}{want c:Bool}{E E':(VWP)→Prop}(hv:v=v')(hc:wants v' want=c)(h:c=true→∀K0,E K0=E' K0):GDo v want E w K=GDo v' want E' w K:=by
 subst hv;refine propext ⟨fun x=>⟨?_⟩,fun x=>⟨?_⟩⟩
 ·have:=x.out;subst hc;cases hw:wants v want with
 |false=>rw[hw] at this;exact this
 |true=>rw[hw,bc_true] at this;rw[bc_true,←h hw];exact this
 ·have:=x.out;subst hc;cases hw:wants v want with
 |false=>rw[hw] at this;exact this
 |true=>rw[hw,bc_true] at this;rw[bc_true,h hw];exact this
theorem wants_t {b:Bool}:wants (.bool b) true=b:=by cases b<;>rfl
theorem wants_f {b:Bool}:wants (.bool b) false=!b:=by cases b<;>rfl
theorem wants_st {c y:Bool}:wants (sel c (.bool y)) true=(c&&y):=by cases c<;>cases y<;>rfl
theorem wants_sf {c y:Bool}:wants (sel c (.bool y)) false=(c&&!y):=by cases c<;>cases y<;>rfl
theorem b_tand {b:Bool}:(true&&b)=b:=rfl
theorem b_andt {b:Bool}:(b&&true)=b:=by cases b<;>rfl
theorem pick_and {b y:Bool}:DoX P (mPick (.bool b) (sel b (.bool y)) (.bool false)) w PK K=K (.bool (b&&y)) w:=by
 rw[p_pick];cases b<;>rfl
theorem pick_or {b y:Bool}:DoX P (mPick (.bool b) (.bool true) (sel (!b) (.bool y))) w PK K=K (.bool (b||y)) w:=by
 rw[p_pick];cases b<;>rfl
theorem run_eq_bool {T:TypeId}{a b:Bool}(h:P.underlying T=some .bool):(Op.equal T (.bool a) (.bool b)).run P w=.ok (a==b) w:=by
 show (Op.equalIn (9999+1) T (.bool a) (.bool b)).run P w=_;rw[Op.equalIn];simp[run_underlying h]
theorem e_bool {T:TypeId}{xo yo:Operand}{a b:Bool}(h:P.underlying T=some .bool):DoX P (mEq .eql T xo yo (.bool a) (.bool b)) w PK K=K (.bool (a==b)) w:=mv_do (by simp[eqGuard,binOp,run_eq_bool h])
end
def gs:=And.intro @g_move (And.intro @wants_t (And.intro @wants_f (And.intro @pick_and (And.intro @pick_or (And.intro @sel_t (And.intro @sel_f (And.intro @wants_st (And.intro @wants_sf (And.intro @b_tand @b_andt)))))))))
end Eng
end
section
open Eng Go.RowKit
 attribute [local congr] g_congr
theorem e_int0 {T:TypeId}{xo yo:Operand}{n:Nat}{w:World}{PK:PKT}{K:VWP}:DoX prog (mEq .eql T xo yo (.int .i64 (n:Int)) (.int .i64 0)) w PK K=K (.bool (decide (n=0))) w:=by
 rw[e_int];congr 2;simp
theorem e_nil {T:TypeId}{xo yo:Operand}{s:List UInt8}{w:World}{PK:PKT}{K:VWP}:DoX prog (mEq .eql T xo yo (.string ⟨s.toArray⟩) (.string ⟨#[]⟩)) w PK K=K (.bool (decide (s=[]))) w:=e_str (b:=[])
theorem ilen0 {α:Type}(l:List α):decide (((l.length:Nat):Int)=0)=decide (l=[]):=by cases l<;>simp;omega
theorem ilenN {α:Type}(l:List α):decide (((l.length:Nat):Int)=0)=decide (l.length=0):=by rw[decide_eq_decide];omega
theorem rzero_ret (o:Ob)(vk vc:Value)(cs:List Value)(n g s l:Bool)(w:World)(h:ObAt (InW w) w o vk vc cs):Ret prog 124 #[obV o vk vc,.bool n,.bool g,.bool s,.bool l] w
  (fun v w'=>v=.bool ((n||decide (o.n=0))&&(g||decide (o.g=0))&&(s||decide (o.s=[]))&&(l||(decide (o.keys=[])&&decide (o.kids.length=0))))∧Below w.heap.size w w'):=by
 refine ret_of fun K hK=>S_foliantref05_zero_ok ?_;unfold S_foliantref05_zero;refine o_obb o h.keys.one h.kids.one (Own.start w) fun b w1 ho=>?_;have hk:=h.own ho;have lk:∀{PK:PKT} {K:VWP},DoX prog (mB .len #[23] 3 #[false] #[vk]) w1 PK K=K (.int .i64 (o.keys.length:Int)) w1:=sl_len Tryz.underlying23 hk.keys.1;have lc:∀{PK:PKT} {K:VWP},DoX prog (mB .len #[24] 3 #[false] #[vc]) w1 PK K=K (.int .i64 (o.kids.length:Int)) w1:=sl_len Tryz.underlying24 hk.kids.1;simp +contextual only[rs,gs,fa_o1,fa_o2,fa_o3,fa_o4,fa_o5,ob_n ho 0 rfl,ob_g ho 0 rfl,ob_s ho 0 rfl,ob_keys ho 0 rfl,ob_kids ho 0 rfl,lk,lc,e_int0,e_nil];refine hK _ _ ⟨?_,ho.done⟩;rw[ilen0 o.keys,ilenN o.kids]
theorem rnm5_ret (s:List UInt8)(w:World)(hs:s.length≤9223372036854775807):Ret prog 125 #[.string ⟨s.toArray⟩] w (fun v w'=>v=.bool (Vl.name s)∧w=w'):=by
 refine ret_of fun K hK=>S_foliantref05_Name_ok ?_;unfold S_foliantref05_Name;refine loop (fun vs w'=>∃(i:Nat),vs=[.int .i64 i]∧i≤s.length∧(0:UInt8) ∉ s.take i∧w=w') (fun vs _=>s.length - n0 vs) ⟨0,rfl,by omega,by simp,rfl⟩ ?_;rintro vs w2 ⟨i,rfl,hi,hm,rfl⟩ _;simp only[S_foliantref05_Name_0,gd,s_len Tryz.underlying9,rs];by_cases hlt:(i:Int) < (s.length:Int)
 ·have hi':i < s.length:=by omega
  have hx:∀{PK:PKT} {K:VWP},DoX prog (mIx 9 (.string ⟨s.toArray⟩) (.int .i64 (i:Int))) w PK K=K (.int .u8 (s[i].toNat:Int)) w:=s_ix (c:=s[i]) Tryz.underlying9 (Int.natCast_nonneg i) (by simp[hi']);simp only[hlt,decide_true,rs,hx];by_cases h0:s[i]=0
  ·have e:(s[i].toNat:Int)=0:=by rw[h0];rfl
   simp only[e,decide_true,i_t];have hm0:(0:UInt8)∈s:=h0▸List.getElem_mem hi';exact hK _ _ ⟨by simp[Vl.name,hm0],rfl⟩
  ·have e:¬(s[i].toNat:Int)=0:=fun h=>h0 (UInt8.toNat_inj.1 (by have:(0:UInt8).toNat=0:=rfl;omega));simp only[e,decide_false,i_f];rw[wrap64_id (by omega) (by omega)];refine nextX ⟨i+1,rfl,by omega,?_,rfl⟩ (by simp[n0,RowKit.intOf];omega);rw[List.take_add_one,List.getElem?_eq_getElem hi'];simp only[Option.toList,List.mem_append,List.mem_singleton,not_or];exact⟨hm,fun e=>h0 e.symm⟩
 ·rw[List.take_of_length_le (by omega)] at hm;simp only[hlt,decide_false,i_f];refine hK _ _ ⟨?_,rfl⟩;rw[Vl.name,decide_eq_true hm,Bool.and_true]
  congr 1
  rw[decide_eq_decide];omega
theorem ruses05_ret (o:Ob)(v:Value)(w:World)(h:OV (InW w) w v o):Ret prog 100 #[v] w (fun v w'=>v=.bool (Vl.usesOk o)∧Below w.heap.size w w'):=by
 obtain⟨vk,vc,cs,rfl,ha⟩:=h.open;refine ret_of fun K hK=>S_foliantref05_uses_ok ?_;unfold S_foliantref05_uses;refine o_obb o ha.keys.one ha.kids.one (Own.start w) fun b w1 ho=>?_;have hk:=ha.own ho;have hk1:ObAt (InW w1) w1 o vk vc cs:=⟨⟨hk.keys.1,(fun p l c e hn=>Nat.lt_of_lt_of_le (hk.keys.2.1 p l c e hn) ho.size),hk.keys.2.2⟩,⟨hk.kids.1,(fun p l c e hn=>Nat.lt_of_lt_of_le (hk.kids.2.1 p l c e hn) ho.size),hk.kids.2.2⟩,OVs.mono (fun _ hb=>Nat.lt_of_lt_of_le hb ho.size) _ _ hk.all⟩;have zero:∀(n g s l:Bool) {K':VWP},(∀w',Own w w' [obE b o vk vc]→K' (.bool ((n||decide (o.n=0))&&(g||decide (o.g=0))&&(s||decide (o.s=[]))&&(l||(decide (o.keys=[])&&decide (o.kids.length=0))))) w') →
   CallX prog 124 #[obV o vk vc,.bool n,.bool g,.bool s,.bool l] w1 (pk K) K':=fun n g s l {K'} hk'=>c_told (rzero_ret o vk vc cs n g s l w1 hk1) rfl ho hk'
 rw[fa_o0,ob_k ho 0 rfl];simp only[rs,ob_v ho 0 rfl];by_cases k0:o.k=0
 ·simp only[k0,decide_true,i_t];refine zero _ _ _ _ fun w2 ho=>hK _ _ ⟨?_,ho.done⟩;simp[Vl.usesOk,Vl.used,k0,Bool.and_assoc]
 simp only[k0,decide_false,i_f];refine join fun J hJ=>?_;by_cases k123:o.k=1∨o.k=2∨o.k=3
 ·have:J [.bool true] w1:=by
   refine hJ _ _ fun _=>?_;simp only[S_foliantref05_uses_0,gd,i_t,ob_v ho 0 rfl];refine zero _ _ _ _ fun w2 ho=>hK _ _ ⟨?_,ho.done⟩;simp[Vl.usesOk,Vl.used,k0,k123,Bool.and_assoc]
  by_cases k1:o.k=1
  ·simp only[k1,decide_true,i_t];exact this
  by_cases k2:o.k=2
  ·simp only[k2,Int.reduceEq,decide_true,decide_false,i_t,i_f];exact this
  have k3:o.k=3:=by omega
  simp only[k3,Int.reduceEq,decide_true,decide_false,i_t,i_f];exact this
 have k1:¬o.k=1:=fun h=>k123 (.inl h);have k2:¬o.k=2:=fun h=>k123 (.inr (.inl h));have k3:¬o.k=3:=fun h=>k123 (.inr (.inr h));simp only[k1,k2,k3,decide_false,i_f];refine hJ _ _ fun _=>?_;clear hJ;simp only[S_foliantref05_uses_0,gd,i_f,rs];refine join fun J hJ=>?_;by_cases k45:o.k=4∨o.k=5
 ·have:J [.bool true] w1:=by
   refine hJ _ _ fun _=>?_;simp only[S_foliantref05_uses_1,gd,i_t,ob_v ho 0 rfl];refine zero _ _ _ _ fun w2 ho=>hK _ _ ⟨?_,ho.done⟩;simp[Vl.usesOk,Vl.used,k0,k1,k2,k3,k45,Bool.and_assoc]
  by_cases k4:o.k=4
  ·simp only[k4,decide_true,i_t];exact this
  have k5:o.k=5:=by omega
  simp only[k5,Int.reduceEq,decide_true,decide_false,i_t,i_f];exact this
 have k4:¬o.k=4:=fun h=>k45 (.inl h);have k5:¬o.k=5:=fun h=>k45 (.inr h);simp only[k4,k5,decide_false,i_f];refine hJ _ _ fun _=>?_;clear hJ;simp only[S_foliantref05_uses_1,gd,i_f,rs,ob_v ho 0 rfl];by_cases k6:o.k=6
 ·simp only[k6,decide_true,i_t];refine zero _ _ _ _ fun w2 ho=>?_;have lk:∀{PK:PKT} {K:VWP},DoX prog (mB .len #[23] 3 #[false] #[vk]) w2 PK K=K (.int .i64 (o.keys.length:Int)) w2:=sl_len Tryz.underlying23 (ha.own ho).keys.1;simp +contextual only[rs,gs,fa_o4,ob_keys ho 0 rfl,lk,e_int0];refine hK _ _ ⟨?_,ho.done⟩;rw[ilen0 o.keys];simp[Vl.usesOk,Vl.used,k6,Bool.and_assoc]
 by_cases k7:o.k=7
 ·simp only[k7,Int.reduceEq,decide_true,decide_false,i_t,i_f];refine zero _ _ _ _ fun w2 ho=>hK _ _ ⟨?_,ho.done⟩;simp[Vl.usesOk,Vl.used,k7,Bool.and_assoc]
 by_cases k8:o.k=8
 ·simp only[k8,Int.reduceEq,decide_true,decide_false,i_t,i_f];refine zero _ _ _ _ fun w2 ho=>hK _ _ ⟨?_,ho.done⟩;simp[Vl.usesOk,Vl.used,k8,Bool.and_assoc]
 by_cases k9:o.k=9
 ·simp only[k9,Int.reduceEq,decide_true,decide_false,i_t,i_f];refine zero _ _ _ _ fun w2 ho=>hK _ _ ⟨?_,ho.done⟩;simp[Vl.usesOk,Vl.used,k9,Bool.and_assoc]
 simp only[k6,k7,k8,k9,decide_false,i_f];refine hK _ _ ⟨?_,ho.done⟩;simp[Vl.usesOk,Vl.used,k0,k123,k45,k6,k7,k8,k9]
theorem rfits_ret (o:Ob)(v:Value)(w:World)(h:OV (InW w) w v o):Ret prog 101 #[v] w (fun v w'=>v=.bool (Vl.fits o)∧Below w.heap.size w w'):=by
 obtain⟨vk,vc,cs,rfl,ha⟩:=h.open;refine ret_of fun K hK=>S_foliantref05_fits_ok ?_;unfold S_foliantref05_fits;refine o_obb o ha.keys.one ha.kids.one (Own.start w) fun b w1 ho=>?_;simp only[fa_o0,ob_k ho 0 rfl,rs];by_cases k1:o.k=1
 ·simp +contextual only[k1,decide_true,i_t,fa_o1,ob_n ho 0 rfl,rs,gs,decide_true,decide_false,nn_t,nn_f];refine hK _ _ ⟨?_,ho.done⟩;rw[Vl.fits,if_pos k1];congr 1;rw[Bool.eq_iff_iff];simp;omega
 by_cases k2:o.k=2
 ·simp +contextual only[k2,Int.reduceEq,decide_true,decide_false,i_t,i_f,fa_o1,ob_n ho 0 rfl,rs,gs,decide_true,decide_false,nn_t,nn_f];refine hK _ _ ⟨?_,ho.done⟩;rw[Vl.fits,if_neg k1,if_pos k2,Bool.decide_and]
 by_cases k3:o.k=3
 ·simp +contextual only[k3,Int.reduceEq,decide_true,decide_false,i_t,i_f,fa_o1,ob_n ho 0 rfl,rs,gs,decide_true,decide_false,nn_t,nn_f];refine hK _ _ ⟨?_,ho.done⟩;rw[Vl.fits,if_neg k1,if_neg k2,if_pos k3,Bool.decide_and]
 by_cases k8:o.k=8
 ·simp +contextual only[k8,Int.reduceEq,decide_true,decide_false,i_t,i_f,fa_o1,fa_o2,ob_n ho 0 rfl,ob_g ho 0 rfl,rs,gs,decide_true,decide_false,nn_t,nn_f];refine hK _ _ ⟨?_,ho.done⟩;rw[Vl.fits,if_neg k1,if_neg k2,if_neg k3,if_pos k8,Bool.decide_and,Bool.decide_and,Bool.and_assoc,Bool.and_assoc]
 simp only[k1,k2,k3,k8,decide_false,i_f];refine hK _ _ ⟨?_,ho.done⟩;rw[Vl.fits,if_neg k1,if_neg k2,if_neg k3,if_neg k8]
theorem rlong5_ret (k:Int)(w:World):Ret prog 102 #[.int .i64 k] w (fun v w'=>v=.int .i64 (Vl.long k:Nat)∧w=w'):=by
 refine ret_of fun K hK=>S_foliantref05_long_ok ?_;unfold S_foliantref05_long;simp only[rs];by_cases k5:k=5
 ·simp only[k5,decide_true,i_t];exact hK _ _ ⟨by rw[k5];rfl,rfl⟩
 by_cases k9:k=9
 ·simp only[k9,Int.reduceEq,decide_true,decide_false,i_t,i_f];exact hK _ _ ⟨by rw[k9];rfl,rfl⟩
 simp only[k5,k9,decide_false,i_f];exact hK _ _ ⟨by rw[Vl.long,if_neg k5,if_neg k9];rfl,rfl⟩
end
section
namespace Eng
open Go.RowKit
theorem sel_sel {c:Bool}{x:Value}:sel c (sel c x)=sel c x:=by cases c<;>rfl
theorem g_off {v:Value}{want:Bool}{E:(VWP)→Prop}{w:World}{K:VWP}(h:wants v want=false):GDo v want E w K=K undef w:=by
 refine propext ⟨fun x=>?_,fun x=>⟨?_⟩⟩
 ·have:=x.out;rw[h] at this;exact this
 ·rw[h];exact x
theorem less_ge:∀a b:List UInt8,(Op.bytesLess a b||a==b)=!(Op.bytesLess b a):=by
 intro a b;rw[bytesLess_eq,bytesLess_eq,Bool.eq_iff_iff];simp only[Bool.or_eq_true,decide_eq_true_eq,beq_iff_eq,Bool.not_eq_true',decide_eq_false_iff_not];constructor
 ·rintro (h|rfl)
  ·exact fun h'=>List.lt_asymm h h'
  ·exact List.lt_irrefl _
 ·intro h;by_cases h1:a < b
  ·exact .inl h1
  ·exact .inr (List.le_antisymm (List.not_lt.1 h) (List.not_lt.1 h1))
theorem pick_orn {P:Program}{b y:Bool}{w:World}{PK:PKT}{K:VWP}:DoX P (mPick (.bool (!b)) (.bool true) (sel b (.bool y))) w PK K=K (.bool (!b||y)) w:=by
 rw[p_pick];cases b<;>rfl
theorem ifx_of {q r:Bool}{A B:Prop}(h:q=r)(k:IfX (.bool r) A B):IfX (.bool q) A B:=by subst h;exact k
end Eng
end
section
open Eng Go.RowKit
 attribute [local congr] g_congr
theorem ObAt.in_ {w0 w:World}{L:List Ent}{o:Ob}{vk vc:Value}{cs:List Value}(h:ObAt (InW w0) w0 o vk vc cs)(ho:Own w0 w L):ObAt (InW w) w o vk vc cs:=by
 have hk:=h.own ho;exact⟨⟨hk.keys.1,(fun p l c e hn=>Nat.lt_of_lt_of_le (hk.keys.2.1 p l c e hn) ho.size),hk.keys.2.2⟩,⟨hk.kids.1,(fun p l c e hn=>Nat.lt_of_lt_of_le (hk.kids.2.1 p l c e hn) ho.size),hk.kids.2.2⟩,OVs.mono (fun _ hb=>Nat.lt_of_lt_of_le hb ho.size) _ _ hk.all⟩
theorem range_all_succ {p:Nat→Bool}(n:Nat):(List.range (n+1)).all p=((List.range n).all p&&p n):=by
 rw[List.range_succ,List.all_append];simp
theorem range_all_not {p:Nat→Bool}{n m:Nat}(hp:p n=false)(hn:n < m):(List.range m).all p=false:=by
 rw[←Bool.not_eq_true];intro h;have:=List.all_eq_true.1 h n (List.mem_range.2 hn);rw[hp] at this;cases this
theorem run_kid_k {A:Nat→Prop}{w:World}{vc:Value}{os:List Ob}{cs:List Value}(hs:Sl w vc 6 os.length cs)(hall:OVs A w cs os){i:Nat}(hi:i < os.length) :
  ∃b off,(∀{PK:PKT} {K:VWP},DoX prog (mIA 24 vc (.int .i64 (i:Int))) w PK K=K (.pointer (some ⟨b,off,none⟩)) w)∧w.cell? ⟨b,off,none⟩=some (.int .i64 os[i].k):=by
 obtain⟨b,off,cap,rfl,hc⟩:=sl_open hs (by omega);obtain⟨a,hl,hov,hget⟩:=OVs.get os cs i hi hall;refine⟨b,off+i*6,?_,?_⟩
 ·intro PK K;have:=run_ia (P:=prog) (T:=24) (b:=b) (off:=off) (cap:=cap) (n:=os.length) (k:=.i64) (i:=(i:Int)) (w:=w) Tryz.underlying24 szOb (by omega) (by omega);rw[Int.toNat_natCast] at this;exact do_eq this
 ·obtain⟨vk,vc',cs',hv,_⟩:=hov.open;have e:a=obC os[i] vk vc':=by
   injection hv with hv
   have:=congrArg Array.toList hv;simpa using this
  have:=hc (i*6+0) _ (hget 0 (.int .i64 os[i].k) (by rw[e];rfl));simpa using this
theorem rkeys_ret (o:Ob)(v:Value)(w:World)(h:OV (InW w) w v o)(hs:o.s.length≤9223372036854775807)(hb:o.keys.length≤9223372036854775807)(hks:∀k∈o.keys,k.length≤9223372036854775807) :
  Ret prog 103 #[v] w (fun v w'=>v=.bool (Vl.form o)∧Below w.heap.size w w'):=by
 obtain⟨vk,vc,cs,rfl,ha⟩:=h.open;refine ret_of fun K hK=>S_foliantref05_keys_ok ?_;unfold S_foliantref05_keys;refine o_obb o ha.keys.one ha.kids.one (Own.start w) fun b w1 ho=>?_;simp only[fa_o0,ob_k ho 0 rfl,rs];by_cases k5:o.k=5
 ·simp only[k5,decide_true,i_t,fa_o3,ob_s ho 0 rfl];refine c_eq (rnm5_ret o.s w1 hs) ?_;refine hK _ _ ⟨?_,ho.done⟩;simp[Vl.form,k5]
 by_cases k7:o.k=7∨o.k=9
 case neg=>
  have k7':¬o.k=7:=fun h=>k7 (.inl h);have k9':¬o.k=9:=fun h=>k7 (.inr h);simp only[k5,k7',k9',ne_eq,not_false_eq_true,decide_true,decide_false,rs,ob_k ho 0 rfl];refine hK _ _ ⟨?_,ho.done⟩;simp[Vl.form,k5,k7]
 have lk:∀{W:World} {L:List Ent},Own w W L→∀{PK:PKT} {K:VWP},DoX prog (mB .len #[23] 3 #[false] #[vk]) W PK K=K (.int .i64 (o.keys.length:Int)) W:=fun ho=>sl_len Tryz.underlying23 (ha.own ho).keys.1;have lc:∀{W:World} {L:List Ent},Own w W L→∀{PK:PKT} {K:VWP},DoX prog (mB .len #[24] 3 #[false] #[vc]) W PK K=K (.int .i64 (o.kids.length:Int)) W:=fun ho=>sl_len Tryz.underlying24 (ha.own ho).kids.1;have hf:Vl.form o=Vl.rising o:=by simp[Vl.form,k5,k7]
 rw[hf] at hK;simp +contextual only[k5,decide_false,i_f,rs,gs,ob_k ho 0 rfl,fa_o4,fa_o5,ob_keys ho 0 rfl,ob_kids ho 0 rfl,lk ho,lc ho];refine ifx_of (r:=false) (by rcases k7 with h|h<;>simp[h]) ?_;rw[i_f];by_cases hlen:(o.keys.length:Int)≠(o.kids.length:Int)
 ·simp only[decide_eq_true hlen,i_t];refine hK _ _ ⟨?_,ho.done⟩;have:¬o.keys.length=o.kids.length:=fun e=>hlen (by rw[e]);simp[Vl.rising,this]
 have hle:o.keys.length=o.kids.length:=by omega
 simp only[decide_eq_false hlen,i_f];have hR:Vl.rising o=(List.range o.keys.length).all (Vl.keyAt o):=by simp[Vl.rising,hle]
 rw[hR] at hK;refine loop (fun vs w'=>∃(i:Nat),vs=[.int .i64 i]∧i≤o.keys.length∧(List.range i).all (Vl.keyAt o)=true∧Own w w' [obE b o vk vc]) (fun vs _=>o.keys.length - n0 vs) ⟨0,rfl,by omega,by simp,ho⟩ ?_;rintro vs w2 ⟨i,rfl,hi,hall,ho⟩ _;simp only[S_foliantref05_keys_0,gd,rs];by_cases hlt:(i:Int) < (o.keys.length:Int)
 ·have hi':i < o.keys.length:=by omega
  simp only[hlt,decide_true,i_t];have ho2:=ha.own ho;refine sl_ia1 (.string ⟨(o.keys[i]).toArray⟩) Tryz.underlying23 (by kernel_rfl) ho2.keys.1 (by omega) (by rw[Int.toNat_natCast];exact strsV_get hi') fun q hq=>?_;rw[l_cell nStr5 hq];refine c_eq (rnm5_ret o.keys[i] w2 (hks _ (List.getElem_mem hi'))) ?_;obtain⟨kb,koff,hia,hkc⟩:=run_kid_k ho2.kids.1 ho2.all (show i < o.kids.length by omega);have hlk:∀{PK:PKT} {K:VWP},DoX prog (mLoad 3 (.pointer (some ⟨kb,koff,none⟩))) w2 PK K=K (.int .i64 o.kids[i].k) w2:=l_cell nInt5 hkc;have hprev:decide (0 < (i:Int))=true→∃(b' off':Nat),(∀{PK:PKT} {K:VWP},DoX prog (mIA 23 vk (.int .i64 (IntKind.wrap .i64 ((i:Int) - 1)))) w2 PK K=K (.pointer (some ⟨b',off',none⟩)) w2) ∧
    (∀{PK:PKT} {K:VWP},DoX prog (mLoad 9 (.pointer (some ⟨b',off',none⟩))) w2 PK K=K (.string ⟨(o.keys.getD (i - 1) []).toArray⟩) w2):=by
   intro h;have h:=of_decide_eq_true h;have hj:i - 1 < o.keys.length:=by omega
   obtain⟨b',off',cap',rfl,hc'⟩:=sl_open ho2.keys.1 (show 0 < o.keys.length by omega);refine⟨b',off'+(i - 1),?_,?_⟩
   ·intro PK K;rw[wrap64_id (by omega) (by omega)];refine do_eq ?_;rw[run_ia Tryz.underlying23 (show _=some 1 by kernel_rfl) (by omega) (by omega),show ((i:Int) - 1).toNat*1=i - 1 by omega]
   ·intro PK K;rw[List.getD_eq_getElem?_getD,List.getElem?_eq_getElem hj];exact l_cell nStr5 (hc' _ _ (strsV_get hj))
  have hgi:o.keys.getD i []=o.keys[i]:=by rw[List.getD_eq_getElem?_getD,List.getElem?_eq_getElem hi'];rfl
  have hgk:o.kids.getD i (.mk 0 0 0 [] [] [])=o.kids[i]'(by omega):=by rw[List.getD_eq_getElem?_getD,List.getElem?_eq_getElem (by omega)];rfl
  have tail:∀(q:Bool) (N:Prop),q=!(Vl.keyAt o i)→(Vl.keyAt o i=true→N)→IfX (.bool q) (K (.returned (.bool false)) w2) N:=by
   intro q N hq hN;cases hk:Vl.keyAt o i with
  |false=>
    rw[hk] at hq;subst hq;rw[show (!false)=true from rfl,i_t];exact hK _ _ ⟨by rw[range_all_not hk hi'],ho.done⟩
  |true=>
    rw[hk] at hq;subst hq;rw[show (!true)=false from rfl,i_f];exact hN hk
  have hki:Vl.keyAt o i=(Vl.name o.keys[i]&&(decide (i=0)||Vl.less (o.keys.getD (i - 1) []) o.keys[i])&&!(decide (o.k=9)&&decide (o.keys[i]=Vl.lenK))&&decide ((o.kids[i]'(by omega)).k≠0)):=by
   rw[Vl.keyAt,hgi,hgk]
  by_cases hi0:i=0
  ·have hz:decide (0 < (i:Int))=false:=by rw[decide_eq_false_iff_not];omega
   simp +contextual only[rs,gs,hz,sel_sel,g_off,pick_orn,Bool.and_false,Bool.not_not,Bool.or_false,less_ge,fa_o0,fa_o5,ob_k ho 0 rfl,ob_kids ho 0 rfl,hia,hlk,g_un,p_f];refine tail _ _ ?_ fun hk=>?_
   ·rw[hki,decide_eq_true hi0];simp only[Bool.true_or,Bool.and_true,Vl.lenK,ne_eq,decide_not];generalize Vl.name o.keys[i]=a;generalize decide (o.k=9)=c;generalize decide ((o.kids[i]'(by omega)).k=0)=d;by_cases hL:o.keys[i]=[76,101,110,103,116,104]<;>simp only[hL,decide_true,decide_false]<;>cases a<;>cases c<;>cases d<;>rfl
   ·rw[wrap64_id (by omega) (by omega)];exact nextX ⟨i+1,rfl,by omega,by rw[range_all_succ,hall,hk];rfl,ho⟩ (by simp[n0,RowKit.intOf];omega)
  ·have hz:decide (0 < (i:Int))=true:=by rw[decide_eq_true_iff];omega
   obtain⟨b',off',hpa,hpl⟩:=hprev hz;simp +contextual only[rs,gs,hz,sel_sel,g_off,pick_orn,Bool.and_false,Bool.not_not,Bool.or_false,less_ge,fa_o0,fa_o4,fa_o5,ob_k ho 0 rfl,ob_keys ho 0 rfl,ob_kids ho 0 rfl,hia,hlk,hpa,hpl,g_un];refine tail _ _ ?_ fun hk=>?_
   ·rw[hki,decide_eq_false hi0];simp only[Bool.false_or,Vl.lenK,ne_eq,decide_not];generalize Vl.name o.keys[i]=a;generalize decide (o.k=9)=c;generalize decide ((o.kids[i]'(by omega)).k=0)=d;show _=!(_&&Op.bytesLess (o.keys.getD (i - 1) []) o.keys[i]&&_&&_);generalize Op.bytesLess (o.keys.getD (i - 1) []) o.keys[i]=e;by_cases hL:o.keys[i]=[76,101,110,103,116,104]<;>simp only[hL,decide_true,decide_false]<;>cases a<;>cases c<;>cases d<;>cases e<;>rfl
   ·rw[wrap64_id (by omega) (by omega)];exact nextX ⟨i+1,rfl,by omega,by rw[range_all_succ,hall,hk];rfl,ho⟩ (by simp[n0,RowKit.intOf];omega)
 ·simp only[hlt,decide_false,i_f];refine hK _ _ ⟨?_,ho.done⟩;rw[show o.keys.length=i by omega,hall]
end
section
open Eng Go.RowKit
 attribute [local congr] g_congr
theorem OwnS.kept2 {w0 w2 w4:World}{L2 L4:List Ent}(h2:Own w0 w2 L2)(h4:Own w0 w4 L4):Kept (InW w0) w2 w4:=fun b hb=>(h4.done.block b hb).trans (h2.done.block b hb).symm
theorem ObAt.later {w0 w2 w4:World}{L2 L4:List Ent}{o:Ob}{vk vc:Value}{cs:List Value}(h:ObAt (InW w0) w2 o vk vc cs)(h2:Own w0 w2 L2)(h4:Own w0 w4 L4):ObAt (InW w4) w4 o vk vc cs:=by
 have hk:=h.kept (OwnS.kept2 h2 h4);exact⟨⟨hk.keys.1,(fun p l c e hn=>Nat.lt_of_lt_of_le (hk.keys.2.1 p l c e hn) h4.size),hk.keys.2.2⟩,⟨hk.kids.1,(fun p l c e hn=>Nat.lt_of_lt_of_le (hk.kids.2.1 p l c e hn) h4.size),hk.kids.2.2⟩,OVs.mono (fun _ hb=>Nat.lt_of_lt_of_le hb h4.size) _ _ hk.all⟩
theorem tot_mem:∀{l:List (List UInt8)} {k:List UInt8},k∈l→k.length≤Pl.tot l
|a::l,k,h=>by
  simp only[Pl.tot,List.map_cons,List.sum_cons];rcases List.mem_cons.1 h with rfl|h
  ·omega
  ·have:=tot_mem h;simp only[Pl.tot] at this;omega
theorem wts_mem:∀{l:List Ob} {o:Ob},o∈l→o.wt≤Ob.wts l
|a::l,o,h=>by
  rw[Ob.wts];rcases List.mem_cons.1 h with rfl|h
  ·omega
  ·have:=wts_mem h;omega
theorem Ob.wt_eq (o:Ob):o.wt=6+o.s.length+Pl.tot o.keys+Ob.wts o.kids:=by cases o;rw[Ob.wt];rfl
theorem Ob.wt_pos (o:Ob):6≤o.wt:=by rw[o.wt_eq];omega
theorem wts_len:∀l:List Ob,l.length*6≤Ob.wts l
|[]=>by simp
|a::l=>by
  have:=wts_len l;have:=a.wt_pos;rw[Ob.wts,List.length_cons];omega
theorem kid_wt {o:Ob}{i:Nat}(hi:i < o.kids.length):o.kids[i].wt < o.wt:=by
 have:=wts_mem (List.getElem_mem hi);rw[o.wt_eq];omega
theorem checks_drop (d:Nat)(l:List Ob)(i:Nat)(hi:i < l.length):Vl.checks d (l.drop i)=if Vl.check d l[i]≠0 then Vl.check d l[i] else Vl.checks d (l.drop (i+1)):=by
 rw[List.drop_eq_getElem_cons hi,Vl.checks]
theorem key_len {o:Ob}:o.keys.length≤o.wt:=by
 have h:∀l:List (List UInt8),l.length≤Pl.tot l:=by
  intro l
  induction l with
 |nil=>simp
 |cons a l ih=>simp only[Pl.tot,List.map_cons,List.sum_cons,List.length_cons] at ih ⊢;omega
 have:=h o.keys;rw[o.wt_eq];omega
theorem kids_len {o:Ob}:o.kids.length≤o.wt:=by
 have:=wts_len o.kids;rw[o.wt_eq];omega
theorem s_len05 {o:Ob}:o.s.length≤o.wt:=by rw[o.wt_eq];omega
theorem keys_mem {o:Ob}{k:List UInt8}(h:k∈o.keys):k.length≤o.wt:=by
 have:=tot_mem h;rw[o.wt_eq];omega
theorem why_pos {d:Nat}{o:Ob}(h:Vl.why d o≠0):Vl.check d o=Vl.why d o:=by rw[Vl.check_eq,if_pos h]
theorem rcheck05_ret (n:Nat):∀(o:Ob) (v:Value) (d:Nat) (w:World),o.wt≤n→OV (InW w) w v o→o.wt≤4611686018427387904→d≤1000 →
  Ret prog 78 #[v,.int .i64 (d:Int)] w (fun v w'=>v=.int .i64 (Vl.check d o)∧Below w.heap.size w w'):=by
 induction n with
|zero=>intro o v d w h;have:=o.wt_pos;omega
|succ n ih=>
 intro o v d w hn hov hb hd;obtain⟨vk,vc,cs,rfl,ha⟩:=hov.open;refine ret_of fun K hK=>S_foliantref05_check_ok ?_;unfold S_foliantref05_check;refine o_obb o ha.keys.one ha.kids.one (Own.start w) fun b w1 ho=>?_;simp only[rs];have out:∀(e:Int) (W:World) (L:List Ent),Own w W L→Vl.why d o=e→e≠0→K (.returned (.int .i64 e)) W:=by
  intro e W L ho h1 h2;exact hK _ _ ⟨by rw[why_pos (by rw[h1];exact h2),h1],ho.done⟩
 by_cases h24:(24:Int) < (d:Int)
 ·simp only[h24,decide_true,i_t];exact out 7 w1 _ ho (by rw[Vl.why,if_pos (by omega)]) (by decide)
 simp only[h24,decide_false,i_f,ob_v ho 0 rfl];refine c_told (ruses05_ret o _ w1 (ha.in_ ho).ov) rfl ho fun w2 ho=>?_;have h24':¬24 < d:=by omega
 cases hu:Vl.usesOk o with
|false=>
  simp only[rs,Bool.not_false,g_un];exact out 10 w2 _ ho (by rw[Vl.why,if_neg h24',if_pos (.inl hu)]) (by decide)
|true=>
 have hst:(o.k=9∧1 < d)∨¬(o.k=9∧1 < d):=by by_cases h:(o.k=9∧1 < d)<;>simp[h]
 have hgt:∀(A B:Prop),(o.k=9∧1 < d→A)→(¬(o.k=9∧1 < d)→B)→IfX (.bool (decide (o.k=9)&&decide ((1:Int) < (d:Int)))) A B:=by
  intro A B hA hB;by_cases h:(o.k=9∧1 < d)
  ·have e:(decide (o.k=9)&&decide ((1:Int) < (d:Int)))=true:=by simp[h.1];omega
   rw[e,i_t];exact hA h
  ·have e:(decide (o.k=9)&&decide ((1:Int) < (d:Int)))=false:=by
    rw[Bool.and_eq_false_iff];by_cases h9:o.k=9
    ·right;rw[decide_eq_false_iff_not];intro h1;exact h ⟨h9,by omega⟩
    ·left;exact decide_eq_false h9
   rw[e,i_f];exact hB h
 simp +contextual only[rs,gs,Bool.not_true,fa_o0,ob_k ho 0 rfl];refine hgt _ _ (fun h9=>?_) fun h9=>?_
 ·exact out 10 w2 _ ho (by rw[Vl.why,if_neg h24',if_pos (.inr h9)]) (by decide)
 have hno:¬(Vl.usesOk o=false∨(o.k=9∧1 < d)):=by
  rintro (h|h)
  ·rw[hu] at h;cases h
  ·exact h9 h
 rw[ob_v ho 0 rfl];refine c_told (rfits_ret o _ w2 (ha.in_ ho).ov) rfl ho fun w3 ho=>?_;cases hfi:Vl.fits o with
|false=>
  simp only[rs,Bool.not_false];exact out 2 w3 _ ho (by rw[Vl.why,if_neg h24',if_neg hno,if_pos hfi]) (by decide)
|true=>
 have hfi':¬Vl.fits o=false:=by rw[hfi];decide
 simp only[rs,Bool.not_true];refine quiet ?_;refine q_do _ (fun _=>run_fa fo_o3) ?_;refine q_at (.string ⟨o.s.toArray⟩) (fun W hW=>run_load_cell nStr5 ((ho.grow hW).cell 0 rfl 3 rfl)) ?_;refine q_slen Tryz.underlying9 ?_;refine q_do _ (fun _=>run_fa fo_o0) ?_;refine q_at (.int .i64 o.k) (fun W hW=>run_load_cell nInt5 ((ho.grow hW).cell 0 rfl 0 rfl)) ?_;refine q_call _ (fun W hW=>ret_same (rlong5_ret o.k W) hW) ?_;refine q_gtr ?_;intro w4 hW;have ho:=ho.grow hW;by_cases hlo:((Vl.long o.k:Nat):Int) < (o.s.length:Int)
 ·simp only[hlo,decide_true,i_t];exact out 5 w4 _ ho (by rw[Vl.why,if_neg h24',if_neg hno,if_neg hfi',if_pos (by omega)]) (by decide)
 have hlo':¬Vl.long o.k < o.s.length:=by omega
 have lc:∀{W:World} {L:List Ent},Own w W L→∀{PK:PKT} {K:VWP},DoX prog (mB .len #[24] 3 #[false] #[vc]) W PK K=K (.int .i64 (o.kids.length:Int)) W:=fun ho=>sl_len Tryz.underlying24 (ha.own ho).kids.1;simp only[hlo,decide_false,i_f,fa_o5,ob_kids ho 0 rfl,lc ho,rs];by_cases hmany:(8191:Int) < (o.kids.length:Int)
 ·simp only[hmany,decide_true,i_t];exact out 6 w4 _ ho (by rw[Vl.why,if_neg h24',if_neg hno,if_neg hfi',if_neg hlo',if_pos (by omega)]) (by decide)
 have hmany':¬8191 < o.kids.length:=by omega
 simp only[hmany,decide_false,i_f,ob_v ho 0 rfl];refine c_told (rkeys_ret o _ w4 (ha.in_ ho).ov (by have:=s_len05 (o:=o);omega) (by have:=key_len (o:=o);omega) (fun k hk=>by have:=keys_mem hk;omega)) rfl ho fun w5 ho=>?_;cases hfo:Vl.form o with
|false=>
  simp only[rs,Bool.not_false];exact out 3 w5 _ ho (by rw[Vl.why,if_neg h24',if_neg hno,if_neg hfi',if_neg hlo',if_neg hmany',if_pos hfo]) (by decide)
|true=>
 have hfo':¬Vl.form o=false:=by rw[hfo];decide
 have hw0:Vl.why d o=0:=by rw[Vl.why,if_neg h24',if_neg hno,if_neg hfi',if_neg hlo',if_neg hmany',if_neg hfo']
 have hch:Vl.check d o=Vl.checks (d+1) o.kids:=by rw[Vl.check_eq,if_neg (by simp[hw0])]
 rw[hch] at hK;simp only[rs,Bool.not_true,ob_kids ho 0 rfl,lc ho];refine loop (fun vs w'=>∃(i:Nat),vs=[.int .i64 i]∧i≤o.kids.length∧Vl.checks (d+1) o.kids=Vl.checks (d+1) (o.kids.drop i)∧Own w w' [obE b o vk vc]) (fun vs _=>o.kids.length - n0 vs) ⟨0,rfl,by omega,rfl,ho⟩ ?_;rintro vs w6 ⟨i,rfl,hi,hT,ho⟩ _;rw[hT] at hK;simp only[S_foliantref05_check_0,gd,rs];by_cases hlt:(i:Int) < (o.kids.length:Int)
 ·have hi':i < o.kids.length:=by omega
  simp only[hlt,decide_true,i_t];rw[checks_drop _ _ _ hi'] at hK hT;have hai:=ha.own ho;refine ob_ia hai.kids.1 hai.all hi' fun v hv=>?_;obtain⟨vk',vc',cs',rfl,hkid⟩:=hv.open;have ho6:=ho;refine o_oba ho fun b7 w7 ho=>?_;refine ob_put 0 hkid.keys.one hkid.kids.one ho rfl fun w8 ho=>?_;have ho:Own w w8 [obE b7 o.kids[i] vk' vc',obE b o vk vc]:=ho;rw[ob_v ho 0 rfl,wrap64_id (by omega) (by omega),show (d:Int)+1=((d+1:Nat):Int) by omega];have hkw:=kid_wt hi';refine c_told (ih o.kids[i] _ (d+1) w8 (by omega) (hkid.later ho6 ho).ov (by omega) (by omega)) rfl ho fun w9 ho=>?_;simp only[rs];by_cases hc0:Vl.check (d+1) o.kids[i]=0
  ·simp only[hc0,ne_eq,not_true,decide_false,i_f];rw[wrap64_id (by omega) (by omega)];rw[if_neg (by simp[hc0])] at hT;exact nextX ⟨i+1,rfl,by omega,hT,ho.tail⟩ (by simp[n0,RowKit.intOf];omega)
  ·simp only[hc0,ne_eq,not_false_eq_true,decide_true,i_t];rw[if_pos hc0] at hK;exact hK _ _ ⟨rfl,ho.done⟩
 ·simp only[hlt,decide_false,i_f];rw[List.drop_of_length_le (by omega),Vl.checks] at hK;exact hK _ _ ⟨rfl,ho.done⟩
theorem rCheck05_ret (o:Ob)(v:Value)(w:World)(h:OV (InW w) w v o)(hb:o.wt≤4611686018427387904):Ret prog 45 #[v] w (fun v w'=>v=.int .i64 (Vl.check 1 o)∧Below w.heap.size w w'):=by
 obtain⟨vk,vc,cs,rfl,ha⟩:=h.open;refine ret_of fun K hK=>S_foliantref05_Check_ok ?_;unfold S_foliantref05_Check;refine o_obb o ha.keys.one ha.kids.one (Own.start w) fun b w1 ho=>?_;rw[ob_v ho 0 rfl];refine c_told (rcheck05_ret o.wt o _ 1 w1 (Nat.le_refl _) (ha.in_ ho).ov hb (by omega)) rfl ho fun w2 ho=>?_;exact hK _ _ ⟨rfl,ho.done⟩
theorem sizes_drop (l:List Ob)(i:Nat)(hi:i < l.length):Vl.sizes (l.take (i+1))=Vl.sizes (l.take i)+Vl.size l[i]:=by
 have h:∀(l:List Ob) (o:Ob),Vl.sizes (l++[o])=Vl.sizes l+Vl.size o:=by
  intro l o
  induction l with
 |nil=>simp[Vl.sizes]
 |cons a l ih=>rw[List.cons_append,Vl.sizes,ih,Vl.sizes];omega
 rw[List.take_succ_eq_append_getElem hi,h]
theorem sizes_take (l:List Ob)(i:Nat):Vl.sizes (l.take i)≤Vl.sizes l:=by
 induction l generalizing i with
|nil=>simp
|cons a l ih=>
  cases i with
 |zero=>simp[Vl.sizes]
 |succ i=>rw[List.take_succ_cons,Vl.sizes,Vl.sizes];have:=ih i;omega
theorem rsize_ret (n:Nat):∀(o:Ob) (v:Value) (w:World),o.wt≤n→OV (InW w) w v o→o.wt≤4611686018427387904 →
  Ret prog 17 #[v] w (fun v w'=>v=.int .i64 (Vl.size o:Nat)∧Below w.heap.size w w'):=by
 induction n with
|zero=>intro o v w h;have:=o.wt_pos;omega
|succ n ih=>
 intro o v w hn hov hb;obtain⟨vk,vc,cs,rfl,ha⟩:=hov.open;refine ret_of fun K hK=>S_foliantref05_Size_ok ?_;unfold S_foliantref05_Size;refine o_obb o ha.keys.one ha.kids.one (Own.start w) fun b w1 ho=>?_;have hsl:=s_len05 (o:=o);have hkl:=key_len (o:=o);have hcl:=kids_len (o:=o);have hsz:=Vl.size_wt o;have htd:∀m:Nat,(m:Int).tdiv 50=((m / 50:Nat):Int):=fun m=>by rw[Int.tdiv_eq_ediv_of_nonneg (by omega)];omega
 have lk:∀{W:World} {L:List Ent},Own w W L→∀{PK:PKT} {K:VWP},DoX prog (mB .len #[23] 3 #[false] #[vk]) W PK K=K (.int .i64 (o.keys.length:Int)) W:=fun ho=>sl_len Tryz.underlying23 (ha.own ho).keys.1;have lc:∀{W:World} {L:List Ent},Own w W L→∀{PK:PKT} {K:VWP},DoX prog (mB .len #[24] 3 #[false] #[vc]) W PK K=K (.int .i64 (o.kids.length:Int)) W:=fun ho=>sl_len Tryz.underlying24 (ha.own ho).kids.1;rw[fa_o3,ob_s ho 0 rfl,s_len Tryz.underlying9,b_quo (by decide),htd,wrap64_id (by omega) (by omega),b_add,wrap64_id (by omega) (by omega),fa_o4,ob_keys ho 0 rfl,lk ho];have ht50:∀i,((o.keys.take i).map fun k=>k.length / 50).sum≤(o.keys.map fun k=>k.length / 50).sum:=by
  intro i
  conv=>rhs;rw[←List.take_append_drop i o.keys,List.map_append,List.sum_append]
  omega
 have hse:=Vl.size_eq o;refine loop (fun vs w'=>∃(i:Nat) (m:Int),vs=[.int .i64 m,.int .i64 i]∧i≤o.keys.length∧m=((1+o.s.length / 50+((o.keys.take i).map fun k=>k.length / 50).sum:Nat):Int)∧Own w w' [obE b o vk vc]) (fun vs _=>o.keys.length - n1 vs) ⟨0,_,rfl,by omega,by simp,ho⟩ ?_;rintro vs w2 ⟨i,m,rfl,hi,rfl,ho⟩ _;have h5i:=ht50 i;simp only[S_foliantref05_Size_0,gd,rs];by_cases hlt:(i:Int) < (o.keys.length:Int)
 ·have hi':i < o.keys.length:=by omega
  simp only[hlt,decide_true,i_t];refine sl_ia1 (.string ⟨(o.keys[i]).toArray⟩) Tryz.underlying23 (by kernel_rfl) (ha.own ho).keys.1 (by omega) (by rw[Int.toNat_natCast];exact strsV_get hi') fun q hq=>?_;have hkm:=keys_mem (List.getElem_mem hi');have h5s:=ht50 (i+1);have hss:((o.keys.take (i+1)).map fun k=>k.length / 50).sum=((o.keys.take i).map fun k=>k.length / 50).sum+o.keys[i].length / 50:=by
   rw[List.take_succ_eq_append_getElem hi',List.map_append,List.sum_append];simp
  rw[l_cell nStr5 hq,s_len Tryz.underlying9,b_quo (by decide),htd,wrap64_id (n:=((o.keys[i].length / 50:Nat):Int)) (by omega) (by omega)];simp only[rs];rw[wrap64_id (by omega) (by omega),wrap64_id (by omega) (by omega)];exact nextX ⟨i+1,_,rfl,by omega,by rw[hss];omega,ho⟩ (by simp[n1,RowKit.intOf];omega)
 simp only[hlt,decide_false,i_f,fa_o5,ob_kids ho 0 rfl,lc ho];have hik:i=o.keys.length:=by omega
 subst hik;rw[List.take_length];refine loop (fun vs w'=>∃(i:Nat) (m:Int),vs=[.int .i64 m,.int .i64 i]∧i≤o.kids.length∧m=((1+o.s.length / 50+(o.keys.map fun k=>k.length / 50).sum+Vl.sizes (o.kids.take i):Nat):Int)∧Own w w' [obE b o vk vc]) (fun vs _=>o.kids.length - n1 vs) ⟨0,_,rfl,by omega,by simp[Vl.sizes],ho⟩ ?_;rintro vs w3 ⟨i,m,rfl,hi2,rfl,ho⟩ _;simp only[S_foliantref05_Size_1,gd,rs];have hst:=sizes_take o.kids i;by_cases hlt:(i:Int) < (o.kids.length:Int)
 ·have hi':i < o.kids.length:=by omega
  simp only[hlt,decide_true,i_t];have hai:=ha.own ho;refine ob_ia hai.kids.1 hai.all hi' fun v hv=>?_;obtain⟨vk',vc',cs',rfl,hkid⟩:=hv.open;have ho6:=ho;refine o_oba ho fun b7 w7 ho=>?_;refine ob_put 0 hkid.keys.one hkid.kids.one ho rfl fun w8 ho=>?_;have ho:Own w w8 [obE b7 o.kids[i] vk' vc',obE b o vk vc]:=ho;rw[ob_v ho 0 rfl];have hkw:=kid_wt hi';refine c_told (ih o.kids[i] _ w8 (by omega) (hkid.later ho6 ho).ov (by omega)) rfl ho fun w9 ho=>?_;have hsd:=sizes_drop o.kids i hi';have hst2:=sizes_take o.kids (i+1);simp only[rs];rw[wrap64_id (by omega) (by omega),wrap64_id (by omega) (by omega)];exact nextX ⟨i+1,_,rfl,by omega,by rw[hsd];omega,ho.tail⟩ (by simp[n1,RowKit.intOf];omega)
 ·simp only[hlt,decide_false,i_f];rw[List.take_of_length_le (by omega)];refine hK _ _ ⟨?_,ho.done⟩;rw[hse]
end
section
open Eng
def S_value_within_int64 (t0 t1 t2:Value)(w:World)(K:Ending→World→Prop):Prop:=
 DoX prog (mBin .leq 2 t1 t0) w (pk K) fun t9 w=>
 GDo t9 true (fun E=>E t0 w) w fun t11 w=>
 GDo t9 true (fun E=>E t2 w) w fun t12 w=>
 GDo t9 true (fun E=>DoX prog (mBin .leq 2 t11 t12) w (pk K) E) w fun t13 w=>
 DoX prog (mPick t9 t13 (.bool false)) w (pk K) fun t14 w=>
 K (.returned t14) w
theorem S_value_within_int64_eq (t0 t1 t2:Value)(w:World)(K:Ending→World→Prop):wpX prog 15 [] [] none (bodyOf Tryz.f75) (topQ prog [.tmp 6] K) (startX [t0,t1,t2]) [] w=S_value_within_int64 t0 t1 t2 w K:=by kernel_rfl
theorem S_value_within_int64_ok {t0 t1 t2:Value}{w:World}{K:Ending→World→Prop}(h:S_value_within_int64 t0 t1 t2 w K):Calls prog 75 #[t0,t1,t2] w K:=
 calls_of_wpX Tryz.func75 rfl rfl rfl rfl (Eq.mpr (S_value_within_int64_eq t0 t1 t2 w K) h)
def S_value_within_int (t0 t1 t2:Value)(w:World)(K:Ending→World→Prop):Prop:=
 DoX prog (mBin .leq 3 t1 t0) w (pk K) fun t9 w=>
 GDo t9 true (fun E=>E t0 w) w fun t11 w=>
 GDo t9 true (fun E=>E t2 w) w fun t12 w=>
 GDo t9 true (fun E=>DoX prog (mBin .leq 3 t11 t12) w (pk K) E) w fun t13 w=>
 DoX prog (mPick t9 t13 (.bool false)) w (pk K) fun t14 w=>
 K (.returned t14) w
theorem S_value_within_int_eq (t0 t1 t2:Value)(w:World)(K:Ending→World→Prop):wpX prog 15 [] [] none (bodyOf Tryz.f189) (topQ prog [.tmp 6] K) (startX [t0,t1,t2]) [] w=S_value_within_int t0 t1 t2 w K:=by kernel_rfl
theorem S_value_within_int_ok {t0 t1 t2:Value}{w:World}{K:Ending→World→Prop}(h:S_value_within_int t0 t1 t2 w K):Calls prog 189 #[t0,t1,t2] w K:=
 calls_of_wpX Tryz.func189 rfl rfl rfl rfl (Eq.mpr (S_value_within_int_eq t0 t1 t2 w K) h)
def S_value_key (t0:Value)(w:World)(K:Ending→World→Prop):Prop:=
 DoX prog (mB .len #[9] 3 #[false] #[t0]) w (pk K) fun t4 w=>
 DoX prog (mBin .leq 3 t4 (.int .i64 127)) w (pk K) fun t5 w=>
 GDo t5 true (fun E=>E t0 w) w fun t7 w=>
 GDo t5 true (fun E=>CallX prog 174 #[t7,(.int .u8 0)] w (pk K) E) w fun t8 w=>
 GDo t5 true (fun E=>DoX prog (mBin .lss 3 t8 (.int .i64 0)) w (pk K) E) w fun t9 w=>
 DoX prog (mPick t5 t9 (.bool false)) w (pk K) fun t10 w=>
 K (.returned t10) w
theorem S_value_key_eq (t0:Value)(w:World)(K:Ending→World→Prop):wpX prog 11 [] [] none (bodyOf Tryz.f171) (topQ prog [.tmp 2] K) (startX [t0]) [] w=S_value_key t0 w K:=by kernel_rfl
theorem S_value_key_ok {t0:Value}{w:World}{K:Ending→World→Prop}(h:S_value_key t0 w K):Calls prog 171 #[t0] w K:=
 calls_of_wpX Tryz.func171 rfl rfl rfl rfl (Eq.mpr (S_value_key_eq t0 w K) h)
def S_value_rising_0 (t1 t13 t14 t15:Value)(w:World)(N1:List Value→World→Prop)(K:Ending→World→Prop):Prop:=
 DoX prog (mBin .lss 3 t15 t14) w (pk K) fun t16 w=>
 IfX t16 (DoX prog (mIA 23 t13 t15) w (pk K) fun t18 w=>
 DoX prog (mLoad 9 t18) w (pk K) fun t19 w=>
 CallX prog 171 #[t19] w (pk K) fun t21 w=>
 DoX prog (mUn .not t21) w (pk K) fun t22 w=>
 GDo t22 false (fun E=>E t15 w) w fun t24 w=>
 GDo t22 false (fun E=>DoX prog (mBin .gtr 3 t24 (.int .i64 0)) w (pk K) E) w fun t25 w=>
 GDo t22 false (fun E=>E t25 w) w fun t26 w=>
 GDo t26 true (fun E=>DoX prog (mFA 26 t1 4) w (pk K) E) w fun t27 w=>
 GDo t26 true (fun E=>DoX prog (mLoad 23 t27) w (pk K) E) w fun t28 w=>
 GDo t26 true (fun E=>E t15 w) w fun t29 w=>
 GDo t26 true (fun E=>DoX prog (mBin .sub 3 t29 (.int .i64 1)) w (pk K) E) w fun t30 w=>
 GDo t26 true (fun E=>DoX prog (mIA 23 t28 t30) w (pk K) E) w fun t31 w=>
 GDo t26 true (fun E=>DoX prog (mLoad 9 t31) w (pk K) E) w fun t32 w=>
 GDo t26 true (fun E=>E t19 w) w fun t33 w=>
 GDo t26 true (fun E=>DoX prog (mBin .geq 9 t32 t33) w (pk K) E) w fun t34 w=>
 GDo t22 false (fun E=>DoX prog (mPick t26 t34 (.bool false)) w (pk K) E) w fun t35 w=>
 DoX prog (mPick t22 (.bool true) t35) w (pk K) fun t36 w=>
 GDo t36 false (fun E=>DoX prog (mFA 26 t1 0) w (pk K) E) w fun t38 w=>
 GDo t36 false (fun E=>DoX prog (mLoad 3 t38) w (pk K) E) w fun t39 w=>
 GDo t36 false (fun E=>DoX prog (mEq .eql 3 (.tmp 39) (.const (.int .i64 9)) t39 (.int .i64 9)) w (pk K) E) w fun t40 w=>
 GDo t36 false (fun E=>E t40 w) w fun t41 w=>
 GDo t41 true (fun E=>E t19 w) w fun t42 w=>
 GDo t41 true (fun E=>DoX prog (mEq .eql 9 (.tmp 42) (.const (.string ⟨#[76,101,110,103,116,104]⟩)) t42 (.string ⟨#[76,101,110,103,116,104]⟩)) w (pk K) E) w fun t43 w=>
 GDo t36 false (fun E=>DoX prog (mPick t41 t43 (.bool false)) w (pk K) E) w fun t44 w=>
 DoX prog (mPick t36 (.bool true) t44) w (pk K) fun t45 w=>
 GDo t45 false (fun E=>DoX prog (mFA 26 t1 5) w (pk K) E) w fun t47 w=>
 GDo t45 false (fun E=>DoX prog (mLoad 24 t47) w (pk K) E) w fun t48 w=>
 GDo t45 false (fun E=>E t15 w) w fun t49 w=>
 GDo t45 false (fun E=>DoX prog (mIA 24 t48 t49) w (pk K) E) w fun t50 w=>
 GDo t45 false (fun E=>DoX prog (mFA 26 t50 0) w (pk K) E) w fun t51 w=>
 GDo t45 false (fun E=>DoX prog (mLoad 3 t51) w (pk K) E) w fun t52 w=>
 GDo t45 false (fun E=>DoX prog (mEq .eql 3 (.tmp 52) (.const (.int .i64 0)) t52 (.int .i64 0)) w (pk K) E) w fun t53 w=>
 DoX prog (mPick t45 (.bool true) t53) w (pk K) fun t54 w=>
 IfX t54 (K (.returned (.bool false)) w) (DoX prog (mBin .add 3 t15 (.int .i64 1)) w (pk K) fun t55 w=>
 N1 [t55] w)) (K (.returned (.bool true)) w)
def S_value_rising (t0:Value)(w:World)(K:Ending→World→Prop):Prop:=
 DoX prog (mBox 26 t0) w (pk K) fun t1 w=>
 DoX prog (mFA 26 t1 4) w (pk K) fun t5 w=>
 DoX prog (mLoad 23 t5) w (pk K) fun t6 w=>
 DoX prog (mB .len #[23] 3 #[false] #[t6]) w (pk K) fun t7 w=>
 DoX prog (mFA 26 t1 5) w (pk K) fun t8 w=>
 DoX prog (mLoad 24 t8) w (pk K) fun t9 w=>
 DoX prog (mB .len #[24] 3 #[false] #[t9]) w (pk K) fun t10 w=>
 DoX prog (mEq .neq 3 (.tmp 7) (.tmp 10) t7 t10) w (pk K) fun t11 w=>
 IfX t11 (K (.returned (.bool false)) w) (DoX prog (mFA 26 t1 4) w (pk K) fun t12 w=>
 DoX prog (mLoad 23 t12) w (pk K) fun t13 w=>
 DoX prog (mB .len #[23] 3 #[false] #[t13]) w (pk K) fun t14 w=>
 LoopX [(.int .i64 0)] w (fun vs1 w N1=>∀_:Sg,S_value_rising_0 t1 t13 t14 (vs1.getD 0 undef) w N1 K))
theorem S_value_rising_eq (t0:Value)(w:World)(K:Ending→World→Prop):wpX prog 56 [] [(4,[15])] none (bodyOf Tryz.f172) (topQ prog [.tmp 2] K) (startX [t0]) [] w=S_value_rising t0 w K:=by kernel_rfl
theorem S_value_rising_ok {t0:Value}{w:World}{K:Ending→World→Prop}(h:S_value_rising t0 w K):Calls prog 172 #[t0] w K:=
 calls_of_wpX Tryz.func172 rfl rfl rfl rfl (Eq.mpr (S_value_rising_eq t0 w K) h)
def S_value_fits (t0:Value)(w:World)(K:Ending→World→Prop):Prop:=
 DoX prog (mBox 26 t0) w (pk K) fun t1 w=>
 DoX prog (mFA 26 t1 0) w (pk K) fun t3 w=>
 DoX prog (mLoad 3 t3) w (pk K) fun t4 w=>
 DoX prog (mEq .eql 3 (.tmp 4) (.const (.int .i64 1)) t4 (.int .i64 1)) w (pk K) fun t6 w=>
 IfX t6 (DoX prog (mFA 26 t1 1) w (pk K) fun t7 w=>
 DoX prog (mLoad 2 t7) w (pk K) fun t8 w=>
 CallX prog 75 #[t8,(.int .i64 0),(.int .i64 1)] w (pk K) fun t9 w=>
 K (.returned t9) w) (DoX prog (mEq .eql 3 (.tmp 4) (.const (.int .i64 2)) t4 (.int .i64 2)) w (pk K) fun t11 w=>
 IfX t11 (DoX prog (mFA 26 t1 1) w (pk K) fun t12 w=>
 DoX prog (mLoad 2 t12) w (pk K) fun t13 w=>
 CallX prog 75 #[t13,(.int .i64 (-2147483647)),(.int .i64 2147483647)] w (pk K) fun t14 w=>
 K (.returned t14) w) (DoX prog (mEq .eql 3 (.tmp 4) (.const (.int .i64 3)) t4 (.int .i64 3)) w (pk K) fun t16 w=>
 IfX t16 (DoX prog (mFA 26 t1 1) w (pk K) fun t17 w=>
 DoX prog (mLoad 2 t17) w (pk K) fun t18 w=>
 CallX prog 75 #[t18,(.int .i64 (-1073741824)),(.int .i64 1073741824)] w (pk K) fun t19 w=>
 K (.returned t19) w) (DoX prog (mEq .eql 3 (.tmp 4) (.const (.int .i64 8)) t4 (.int .i64 8)) w (pk K) fun t21 w=>
 IfX t21 (DoX prog (mFA 26 t1 1) w (pk K) fun t22 w=>
 DoX prog (mLoad 2 t22) w (pk K) fun t23 w=>
 CallX prog 75 #[t23,(.int .i64 1),(.int .i64 8191)] w (pk K) fun t24 w=>
 GDo t24 true (fun E=>DoX prog (mFA 26 t1 2) w (pk K) E) w fun t26 w=>
 GDo t24 true (fun E=>DoX prog (mLoad 3 t26) w (pk K) E) w fun t27 w=>
 GDo t24 true (fun E=>CallX prog 189 #[t27,(.int .i64 0),(.int .i64 65535)] w (pk K) E) w fun t28 w=>
 DoX prog (mPick t24 t28 (.bool false)) w (pk K) fun t29 w=>
 K (.returned t29) w) (K (.returned (.bool true)) w))))
theorem S_value_fits_eq (t0:Value)(w:World)(K:Ending→World→Prop):wpX prog 30 [] [] none (bodyOf Tryz.f169) (topQ prog [.tmp 2] K) (startX [t0]) [] w=S_value_fits t0 w K:=by kernel_rfl
theorem S_value_fits_ok {t0:Value}{w:World}{K:Ending→World→Prop}(h:S_value_fits t0 w K):Calls prog 169 #[t0] w K:=
 calls_of_wpX Tryz.func169 rfl rfl rfl rfl (Eq.mpr (S_value_fits_eq t0 w K) h)
def S_value_short (t0:Value)(w:World)(K:Ending→World→Prop):Prop:=
 DoX prog (mBox 26 t0) w (pk K) fun t1 w=>
 DoX prog (mFA 26 t1 0) w (pk K) fun t3 w=>
 DoX prog (mLoad 3 t3) w (pk K) fun t4 w=>
 DoX prog (mEq .eql 3 (.tmp 4) (.const (.int .i64 4)) t4 (.int .i64 4)) w (pk K) fun t6 w=>
 IfX t6 (DoX prog (mFA 26 t1 3) w (pk K) fun t7 w=>
 DoX prog (mLoad 9 t7) w (pk K) fun t8 w=>
 DoX prog (mB .len #[9] 3 #[false] #[t8]) w (pk K) fun t9 w=>
 DoX prog (mBin .leq 3 t9 (.int .i64 32767)) w (pk K) fun t10 w=>
 K (.returned t10) w) (DoX prog (mEq .eql 3 (.tmp 4) (.const (.int .i64 5)) t4 (.int .i64 5)) w (pk K) fun t12 w=>
 IfX t12 (DoX prog (mFA 26 t1 3) w (pk K) fun t13 w=>
 DoX prog (mLoad 9 t13) w (pk K) fun t14 w=>
 DoX prog (mB .len #[9] 3 #[false] #[t14]) w (pk K) fun t15 w=>
 DoX prog (mBin .leq 3 t15 (.int .i64 127)) w (pk K) fun t16 w=>
 K (.returned t16) w) (DoX prog (mFA 26 t1 3) w (pk K) fun t17 w=>
 DoX prog (mLoad 9 t17) w (pk K) fun t18 w=>
 DoX prog (mB .len #[9] 3 #[false] #[t18]) w (pk K) fun t19 w=>
 DoX prog (mBin .leq 3 t19 (.int .i64 1048576)) w (pk K) fun t20 w=>
 K (.returned t20) w))
theorem S_value_short_eq (t0:Value)(w:World)(K:Ending→World→Prop):wpX prog 21 [] [] none (bodyOf Tryz.f170) (topQ prog [.tmp 2] K) (startX [t0]) [] w=S_value_short t0 w K:=by kernel_rfl
theorem S_value_short_ok {t0:Value}{w:World}{K:Ending→World→Prop}(h:S_value_short t0 w K):Calls prog 170 #[t0] w K:=
 calls_of_wpX Tryz.func170 rfl rfl rfl rfl (Eq.mpr (S_value_short_eq t0 w K) h)
def S_value_used_1 (t2 t4 t13:Value)(w:World)(K:Ending→World→Prop):Prop:=
 IfX t13 (DoX prog (mBuild 219 #[(2,(.bool true))]) w (pk K) fun t16 w=>
 DoX prog (mStore 219 t2 t16) w (pk K) fun _ w=>
 RetX prog [.cell t2 219,.val (.bool true)] w K) (DoX prog (mEq .eql 3 (.tmp 4) (.const (.int .i64 6)) t4 (.int .i64 6)) w (pk K) fun t18 w=>
 IfX t18 (DoX prog (mBuild 219 #[(4,(.bool true))]) w (pk K) fun t19 w=>
 DoX prog (mStore 219 t2 t19) w (pk K) fun _ w=>
 RetX prog [.cell t2 219,.val (.bool true)] w K) (DoX prog (mEq .eql 3 (.tmp 4) (.const (.int .i64 7)) t4 (.int .i64 7)) w (pk K) fun t21 w=>
 IfX t21 (DoX prog (mBuild 219 #[(3,(.bool true)),(4,(.bool true))]) w (pk K) fun t22 w=>
 DoX prog (mStore 219 t2 t22) w (pk K) fun _ w=>
 RetX prog [.cell t2 219,.val (.bool true)] w K) (DoX prog (mEq .eql 3 (.tmp 4) (.const (.int .i64 8)) t4 (.int .i64 8)) w (pk K) fun t24 w=>
 IfX t24 (DoX prog (mBuild 219 #[(0,(.bool true)),(1,(.bool true))]) w (pk K) fun t25 w=>
 DoX prog (mStore 219 t2 t25) w (pk K) fun _ w=>
 RetX prog [.cell t2 219,.val (.bool true)] w K) (DoX prog (mEq .eql 3 (.tmp 4) (.const (.int .i64 9)) t4 (.int .i64 9)) w (pk K) fun t27 w=>
 IfX t27 (DoX prog (mBuild 219 #[(2,(.bool true)),(3,(.bool true)),(4,(.bool true))]) w (pk K) fun t28 w=>
 DoX prog (mStore 219 t2 t28) w (pk K) fun _ w=>
 RetX prog [.cell t2 219,.val (.bool true)] w K) (DoX prog (mBuild 219 #[]) w (pk K) fun t29 w=>
 DoX prog (mStore 219 t2 t29) w (pk K) fun _ w=>
 RetX prog [.cell t2 219,.val (.bool false)] w K)))))
def S_value_used_0 (t2 t4 t8:Value)(w:World)(K:Ending→World→Prop):Prop:=
 IfX t8 (DoX prog (mBuild 219 #[(0,(.bool true))]) w (pk K) fun t12 w=>
 DoX prog (mStore 219 t2 t12) w (pk K) fun _ w=>
 RetX prog [.cell t2 219,.val (.bool true)] w K) (JoinX (fun J2=>
 DoX prog (mEq .eql 3 (.tmp 4) (.const (.int .i64 4)) t4 (.int .i64 4)) w (pk K) fun t14 w=>
 IfX t14 (J2 [t14] w) (DoX prog (mEq .eql 3 (.tmp 4) (.const (.int .i64 5)) t4 (.int .i64 5)) w (pk K) fun t15 w=>
 J2 [t15] w)) (fun vs2 w=>∀_:Sg,S_value_used_1 t2 t4 (vs2.getD 0 undef) w K))
def S_value_used (t0:Value)(w:World)(K:Ending→World→Prop):Prop:=
 DoX prog (mAlloc 219) w (pk K) fun t2 w=>
 DoX prog (mEq .eql 3 (.tmp 4) (.const (.int .i64 0)) t0 (.int .i64 0)) w (pk K) fun t6 w=>
 IfX t6 (DoX prog (mBuild 219 #[]) w (pk K) fun t7 w=>
 DoX prog (mStore 219 t2 t7) w (pk K) fun _ w=>
 RetX prog [.cell t2 219,.val (.bool true)] w K) (JoinX (fun J1=>
 DoX prog (mEq .eql 3 (.tmp 4) (.const (.int .i64 1)) t0 (.int .i64 1)) w (pk K) fun t9 w=>
 IfX t9 (J1 [t9] w) (DoX prog (mEq .eql 3 (.tmp 4) (.const (.int .i64 2)) t0 (.int .i64 2)) w (pk K) fun t10 w=>
 IfX t10 (J1 [t10] w) (DoX prog (mEq .eql 3 (.tmp 4) (.const (.int .i64 3)) t0 (.int .i64 3)) w (pk K) fun t11 w=>
 J1 [t11] w))) (fun vs1 w=>∀_:Sg,S_value_used_0 t2 t0 (vs1.getD 0 undef) w K))
theorem S_value_used_eq (t0:Value)(w:World)(K:Ending→World→Prop):wpX prog 30 [(7,[8]),(10,[13])] [] none (bodyOf Tryz.f168) (topQ prog [.cell 2 219,.tmp 3] K) (startX [t0]) [] w=S_value_used t0 w K:=by kernel_rfl
theorem S_value_used_ok {t0:Value}{w:World}{K:Ending→World→Prop}(h:S_value_used t0 w K):Calls prog 168 #[t0] w K:=
 calls_of_wpX Tryz.func168 rfl rfl rfl rfl (Eq.mpr (S_value_used_eq t0 w K) h)
def S_value_must (t0 t1:Value)(w:World)(K:Ending→World→Prop):Prop:=
 DoX prog (mUn .not t0) w (pk K) fun t5 w=>
 IfX t5 (DoX prog (mBuild 217 #[(0,t1)]) w (pk K) fun t7 w=>
 DoX prog (mIface 217 t7) w (pk K) fun t8 w=>
 DoX prog (mPanic t8) w (pk K) fun _ w=>
 K (.returned (.tuple #[])) w) (K (.returned (.tuple #[])) w)
theorem S_value_must_eq (t0 t1:Value)(w:World)(K:Ending→World→Prop):wpX prog 9 [] [] none (bodyOf Tryz.f167) (topQ prog [] K) (startX [t0,t1]) [] w=S_value_must t0 t1 w K:=by kernel_rfl
theorem S_value_must_ok {t0 t1:Value}{w:World}{K:Ending→World→Prop}(h:S_value_must t0 t1 w K):Calls prog 167 #[t0,t1] w K:=
 calls_of_wpX Tryz.func167 rfl rfl rfl rfl (Eq.mpr (S_value_must_eq t0 t1 w K) h)
def S_value_check_0 (t1 t105 t106 t107:Value)(w:World)(N1:List Value→World→Prop)(K:Ending→World→Prop):Prop:=
 DoX prog (mBin .lss 3 t107 t106) w (pk K) fun t108 w=>
 IfX t108 (DoX prog (mIA 24 t105 t107) w (pk K) fun t109 w=>
 DoX prog (mLoad 26 t109) w (pk K) fun t110 w=>
 DoX prog (mAlloc 26) w (pk K) fun t7 w=>
 DoX prog (mStore 26 t7 t110) w (pk K) fun _ w=>
 DoX prog (mLoad 26 t7) w (pk K) fun t111 w=>
 DoX prog (mBin .add 3 t1 (.int .i64 1)) w (pk K) fun t113 w=>
 CallX prog 143 #[t111,t113] w (pk K) fun t114 w=>
 DoX prog (mBin .add 3 t107 (.int .i64 1)) w (pk K) fun t115 w=>
 N1 [t115] w) (K (.returned (.tuple #[])) w)
def S_value_check (t0 t1:Value)(w:World)(K:Ending→World→Prop):Prop:=
 DoX prog (mBox 26 t0) w (pk K) fun t2 w=>
 DoX prog (mBin .leq 3 t1 (.int .i64 24)) w (pk K) fun t9 w=>
 CallX prog 167 #[t9,(.int .i64 7)] w (pk K) fun t10 w=>
 DoX prog (mFA 26 t2 0) w (pk K) fun t12 w=>
 DoX prog (mLoad 3 t12) w (pk K) fun t13 w=>
 CallX prog 168 #[t13] w (pk K) fun t14 w=>
 DoX prog (mExt t14 0) w (pk K) fun t15 w=>
 DoX prog (mExt t14 1) w (pk K) fun t16 w=>
 DoX prog (mAlloc 219) w (pk K) fun t4 w=>
 DoX prog (mStore 219 t4 t15) w (pk K) fun _ w=>
 GDo t16 true (fun E=>DoX prog (mFA 219 t4 0) w (pk K) E) w fun t19 w=>
 GDo t16 true (fun E=>DoX prog (mLoad 4 t19) w (pk K) E) w fun t20 w=>
 GDo t16 true (fun E=>E t20 w) w fun t21 w=>
 GDo t21 false (fun E=>DoX prog (mFA 26 t2 1) w (pk K) E) w fun t22 w=>
 GDo t21 false (fun E=>DoX prog (mLoad 2 t22) w (pk K) E) w fun t23 w=>
 GDo t21 false (fun E=>DoX prog (mEq .eql 2 (.tmp 23) (.const (.int .i64 0)) t23 (.int .i64 0)) w (pk K) E) w fun t24 w=>
 GDo t16 true (fun E=>DoX prog (mPick t21 (.bool true) t24) w (pk K) E) w fun t25 w=>
 DoX prog (mPick t16 t25 (.bool false)) w (pk K) fun t26 w=>
 GDo t26 true (fun E=>DoX prog (mFA 219 t4 1) w (pk K) E) w fun t28 w=>
 GDo t26 true (fun E=>DoX prog (mLoad 4 t28) w (pk K) E) w fun t29 w=>
 GDo t26 true (fun E=>E t29 w) w fun t30 w=>
 GDo t30 false (fun E=>DoX prog (mFA 26 t2 2) w (pk K) E) w fun t31 w=>
 GDo t30 false (fun E=>DoX prog (mLoad 3 t31) w (pk K) E) w fun t32 w=>
 GDo t30 false (fun E=>DoX prog (mEq .eql 3 (.tmp 32) (.const (.int .i64 0)) t32 (.int .i64 0)) w (pk K) E) w fun t33 w=>
 GDo t26 true (fun E=>DoX prog (mPick t30 (.bool true) t33) w (pk K) E) w fun t34 w=>
 DoX prog (mPick t26 t34 (.bool false)) w (pk K) fun t35 w=>
 GDo t35 true (fun E=>DoX prog (mFA 219 t4 2) w (pk K) E) w fun t37 w=>
 GDo t35 true (fun E=>DoX prog (mLoad 4 t37) w (pk K) E) w fun t38 w=>
 GDo t35 true (fun E=>E t38 w) w fun t39 w=>
 GDo t39 false (fun E=>DoX prog (mFA 26 t2 3) w (pk K) E) w fun t40 w=>
 GDo t39 false (fun E=>DoX prog (mLoad 9 t40) w (pk K) E) w fun t41 w=>
 GDo t39 false (fun E=>DoX prog (mEq .eql 9 (.tmp 41) (.const (.string ⟨#[]⟩)) t41 (.string ⟨#[]⟩)) w (pk K) E) w fun t42 w=>
 GDo t35 true (fun E=>DoX prog (mPick t39 (.bool true) t42) w (pk K) E) w fun t43 w=>
 DoX prog (mPick t35 t43 (.bool false)) w (pk K) fun t44 w=>
 GDo t44 true (fun E=>DoX prog (mFA 219 t4 3) w (pk K) E) w fun t46 w=>
 GDo t44 true (fun E=>DoX prog (mLoad 4 t46) w (pk K) E) w fun t47 w=>
 GDo t44 true (fun E=>E t47 w) w fun t48 w=>
 GDo t48 false (fun E=>DoX prog (mFA 26 t2 4) w (pk K) E) w fun t49 w=>
 GDo t48 false (fun E=>DoX prog (mLoad 23 t49) w (pk K) E) w fun t50 w=>
 GDo t48 false (fun E=>DoX prog (mB .len #[23] 3 #[false] #[t50]) w (pk K) E) w fun t51 w=>
 GDo t48 false (fun E=>DoX prog (mEq .eql 3 (.tmp 51) (.const (.int .i64 0)) t51 (.int .i64 0)) w (pk K) E) w fun t52 w=>
 GDo t44 true (fun E=>DoX prog (mPick t48 (.bool true) t52) w (pk K) E) w fun t53 w=>
 DoX prog (mPick t44 t53 (.bool false)) w (pk K) fun t54 w=>
 GDo t54 true (fun E=>DoX prog (mFA 219 t4 4) w (pk K) E) w fun t56 w=>
 GDo t54 true (fun E=>DoX prog (mLoad 4 t56) w (pk K) E) w fun t57 w=>
 GDo t54 true (fun E=>E t57 w) w fun t58 w=>
 GDo t58 false (fun E=>DoX prog (mFA 26 t2 5) w (pk K) E) w fun t59 w=>
 GDo t58 false (fun E=>DoX prog (mLoad 24 t59) w (pk K) E) w fun t60 w=>
 GDo t58 false (fun E=>DoX prog (mB .len #[24] 3 #[false] #[t60]) w (pk K) E) w fun t61 w=>
 GDo t58 false (fun E=>DoX prog (mEq .eql 3 (.tmp 61) (.const (.int .i64 0)) t61 (.int .i64 0)) w (pk K) E) w fun t62 w=>
 GDo t54 true (fun E=>DoX prog (mPick t58 (.bool true) t62) w (pk K) E) w fun t63 w=>
 DoX prog (mPick t54 t63 (.bool false)) w (pk K) fun t64 w=>
 GDo t64 true (fun E=>E t1 w) w fun t66 w=>
 GDo t64 true (fun E=>DoX prog (mEq .eql 3 (.tmp 66) (.const (.int .i64 1)) t66 (.int .i64 1)) w (pk K) E) w fun t67 w=>
 GDo t64 true (fun E=>E t67 w) w fun t68 w=>
 GDo t68 false (fun E=>DoX prog (mFA 26 t2 0) w (pk K) E) w fun t69 w=>
 GDo t68 false (fun E=>DoX prog (mLoad 3 t69) w (pk K) E) w fun t70 w=>
 GDo t68 false (fun E=>DoX prog (mEq .neq 3 (.tmp 70) (.const (.int .i64 9)) t70 (.int .i64 9)) w (pk K) E) w fun t71 w=>
 GDo t64 true (fun E=>DoX prog (mPick t68 (.bool true) t71) w (pk K) E) w fun t72 w=>
 DoX prog (mPick t64 t72 (.bool false)) w (pk K) fun t73 w=>
 CallX prog 167 #[t73,(.int .i64 10)] w (pk K) fun t74 w=>
 DoX prog (mLoad 26 t2) w (pk K) fun t75 w=>
 CallX prog 169 #[t75] w (pk K) fun t76 w=>
 CallX prog 167 #[t76,(.int .i64 2)] w (pk K) fun t77 w=>
 DoX prog (mLoad 26 t2) w (pk K) fun t78 w=>
 CallX prog 170 #[t78] w (pk K) fun t79 w=>
 CallX prog 167 #[t79,(.int .i64 5)] w (pk K) fun t80 w=>
 DoX prog (mFA 26 t2 5) w (pk K) fun t81 w=>
 DoX prog (mLoad 24 t81) w (pk K) fun t82 w=>
 DoX prog (mB .len #[24] 3 #[false] #[t82]) w (pk K) fun t83 w=>
 DoX prog (mBin .leq 3 t83 (.int .i64 8191)) w (pk K) fun t84 w=>
 CallX prog 167 #[t84,(.int .i64 6)] w (pk K) fun t85 w=>
 DoX prog (mFA 26 t2 0) w (pk K) fun t86 w=>
 DoX prog (mLoad 3 t86) w (pk K) fun t87 w=>
 DoX prog (mEq .neq 3 (.tmp 87) (.const (.int .i64 5)) t87 (.int .i64 5)) w (pk K) fun t88 w=>
 GDo t88 false (fun E=>DoX prog (mFA 26 t2 3) w (pk K) E) w fun t90 w=>
 GDo t88 false (fun E=>DoX prog (mLoad 9 t90) w (pk K) E) w fun t91 w=>
 GDo t88 false (fun E=>CallX prog 171 #[t91] w (pk K) E) w fun t92 w=>
 DoX prog (mPick t88 (.bool true) t92) w (pk K) fun t93 w=>
 GDo t93 true (fun E=>DoX prog (mFA 219 t4 3) w (pk K) E) w fun t95 w=>
 GDo t93 true (fun E=>DoX prog (mLoad 4 t95) w (pk K) E) w fun t96 w=>
 GDo t93 true (fun E=>DoX prog (mUn .not t96) w (pk K) E) w fun t97 w=>
 GDo t93 true (fun E=>E t97 w) w fun t98 w=>
 GDo t98 false (fun E=>DoX prog (mLoad 26 t2) w (pk K) E) w fun t99 w=>
 GDo t98 false (fun E=>CallX prog 172 #[t99] w (pk K) E) w fun t100 w=>
 GDo t93 true (fun E=>DoX prog (mPick t98 (.bool true) t100) w (pk K) E) w fun t101 w=>
 DoX prog (mPick t93 t101 (.bool false)) w (pk K) fun t102 w=>
 CallX prog 167 #[t102,(.int .i64 3)] w (pk K) fun t103 w=>
 DoX prog (mFA 26 t2 5) w (pk K) fun t104 w=>
 DoX prog (mLoad 24 t104) w (pk K) fun t105 w=>
 DoX prog (mB .len #[24] 3 #[false] #[t105]) w (pk K) fun t106 w=>
 LoopX [(.int .i64 0)] w (fun vs1 w N1=>∀_:Sg,S_value_check_0 t1 t105 t106 (vs1.getD 0 undef) w N1 K)
theorem S_value_check_eq (t0 t1:Value)(w:World)(K:Ending→World→Prop):wpX prog 116 [] [(9,[107])] none (bodyOf Tryz.f143) (topQ prog [] K) (startX [t0,t1]) [] w=S_value_check t0 t1 w K:=by kernel_rfl
theorem S_value_check_ok {t0 t1:Value}{w:World}{K:Ending→World→Prop}(h:S_value_check t0 t1 w K):Calls prog 143 #[t0,t1] w K:=
 calls_of_wpX Tryz.func143 rfl rfl rfl rfl (Eq.mpr (S_value_check_eq t0 t1 w K) h)
def S_value_Check_1 (t0:Value)(w:World)(K:Ending→World→Prop):Prop:=
 DoX prog (mLoad 26 t0) w (pk K) fun t1 w=>
 CallX prog 143 #[t1,(.int .i64 1)] w (pk K) fun t2 w=>
 K (.returned (.tuple #[])) w
theorem S_value_Check_1_eq (t0:Value)(w:World)(K:Ending→World→Prop):wpX prog 3 [] [] none (bodyOf Tryz.f142) (topQ prog [] K) (startX [t0]) [] w=S_value_Check_1 t0 w K:=by kernel_rfl
theorem S_value_Check_1_ok {t0:Value}{w:World}{K:Ending→World→Prop}(h:S_value_Check_1 t0 w K):Calls prog 142 #[t0] w K:=
 calls_of_wpX Tryz.func142 rfl rfl rfl rfl (Eq.mpr (S_value_Check_1_eq t0 w K) h)
def S_value_caught_1 (t0 r:Value)(w:World)(K:Ending→World→Prop):Prop:=
 DoX prog (mEq .eql 20 (.tmp 4) (.const .nilIface) r .nilIface) w (pk K) fun t6 w=>
 IfX t6 (K (.returned (.tuple #[])) w) (DoX prog (mTA r 20 217 true) w (pk K) fun t7 w=>
 DoX prog (mExt t7 1) w (pk K) fun t8 w=>
 DoX prog (mExt t7 0) w (pk K) fun t9 w=>
 IfX t8 (DoX prog (mAlloc 217) w (pk K) fun t2 w=>
 DoX prog (mStore 217 t2 t9) w (pk K) fun _ w=>
 DoX prog (mFA 217 t2 0) w (pk K) fun t10 w=>
 DoX prog (mLoad 32 t10) w (pk K) fun t11 w=>
 DoX prog (mStore 32 t0 t11) w (pk K) fun _ w=>
 K (.returned (.tuple #[])) w) (DoX prog (mPanic r) w (pk K) fun _ w=>
 K (.returned (.tuple #[])) w))
theorem S_value_caught_1_eq (t0 r:Value)(w:World)(K:Ending→World→Prop):wpX prog 12 [] [] none (sndOf (bodyOf Tryz.f166)) (topD prog [] K) (upd (startX [t0]) 4 r) [] w=S_value_caught_1 t0 r w K:=by kernel_rfl
theorem S_value_caught_1_dok {t0:Value}{u:FrameMode}{w:World}{R:Ending→FrameMode→World→Prop}(h:S_value_caught_1 t0 (recV u) w (fun e w=>R e (recM u) w)):CallsD prog 166 #[t0] u w R:=
 callsD_recover Tryz.func166 rfl rfl rfl rfl rfl rfl rfl rfl (Eq.mpr (S_value_caught_1_eq t0 (recV u) w _) h)
def S_value_caught_p0 (x0:Deferred)(x1:Value)(K:Ending→World→Prop):=pd prog [.cell x1 32] K [x0]
def S_value_caught (t0:Value)(w:World)(K:Ending→World→Prop):Prop:=
 DoX prog (mAlloc 32) w (pk K) fun t2 w=>
 DoX prog (mFunc (.func 166) #[] #[t2]) w (pk K) fun t3 w=>
 DfrX (dfrV t3 #[]) (fun d1=>
 DoX prog (mCallV t0 #[]) w (S_value_caught_p0 d1 t2 K) fun t5 w=>
 DoX prog (mStore 32 t2 (.int .i64 0)) w (S_value_caught_p0 d1 t2 K) fun _ w=>
 Leave prog [.cell t2 32] K [d1] .returning w)
theorem S_value_caught_eq (t0:Value)(w:World)(K:Ending→World→Prop):wpX prog 6 [] [] none (bodyOf Tryz.f141) (topQ prog [.cell 2 32] K) (startX [t0]) [] w=S_value_caught t0 w K:=by kernel_rfl
theorem S_value_caught_ok {t0:Value}{w:World}{K:Ending→World→Prop}(h:S_value_caught t0 w K):Calls prog 141 #[t0] w K:=
 calls_of_wpX Tryz.func141 rfl rfl rfl rfl (Eq.mpr (S_value_caught_eq t0 w K) h)
def S_value_Check (t0:Value)(w:World)(K:Ending→World→Prop):Prop:=
 DoX prog (mBox 26 t0) w (pk K) fun t1 w=>
 DoX prog (mFunc (.func 142) #[] #[t1]) w (pk K) fun t3 w=>
 CallX prog 141 #[t3] w (pk K) fun t4 w=>
 K (.returned t4) w
theorem S_value_Check_eq (t0:Value)(w:World)(K:Ending→World→Prop):wpX prog 5 [] [] none (bodyOf Tryz.f117) (topQ prog [.tmp 2] K) (startX [t0]) [] w=S_value_Check t0 w K:=by kernel_rfl
theorem S_value_Check_ok {t0:Value}{w:World}{K:Ending→World→Prop}(h:S_value_Check t0 w K):Calls prog 117 #[t0] w K:=
 calls_of_wpX Tryz.func117 rfl rfl rfl rfl (Eq.mpr (S_value_Check_eq t0 w K) h)
end
section
open Eng Go.RowKit
 attribute [local congr] g_congr
theorem within64_ret (n a b:Int)(w:World):Ret prog 75 #[.int .i64 n,.int .i64 a,.int .i64 b] w (fun v w'=>v=.bool (decide (a≤n)&&decide (n≤b))∧w=w'):=by
 refine ret_of fun K hK=>S_value_within_int64_ok ?_;unfold S_value_within_int64;simp +contextual only[rs,gs];exact hK _ _ ⟨rfl,rfl⟩
theorem withinI_ret (n a b:Int)(w:World):Ret prog 189 #[.int .i64 n,.int .i64 a,.int .i64 b] w (fun v w'=>v=.bool (decide (a≤n)&&decide (n≤b))∧w=w'):=by
 refine ret_of fun K hK=>S_value_within_int_ok ?_;unfold S_value_within_int;simp +contextual only[rs,gs];exact hK _ _ ⟨rfl,rfl⟩
theorem tw_self {p:UInt8→Bool}:∀(s:List UInt8),s.takeWhile p=s→∀x∈s,p x=true
|[],_,x,hx=>by cases hx
|a::s,h,x,hx=>by
  rw[List.takeWhile_cons] at h;split at h
  ·rename_i ha
   injection h with _ h
   rcases List.mem_cons.1 hx with rfl|hx
   ·exact ha
   ·exact tw_self s h x hx
  ·cases h
theorem dw_head {p:UInt8→Bool}:∀(s:List UInt8) {a:UInt8} {t:List UInt8},s.dropWhile p=a::t→p a=false
|[],_,_,h=>by cases h
|b::s,a,t,h=>by
  rw[List.dropWhile_cons] at h;split at h
  ·exact dw_head s h
  ·rename_i hb
   injection h with h _
   subst h;simpa using hb
theorem vkey_ret (s:List UInt8)(w:World):Ret prog 171 #[.string ⟨s.toArray⟩] w (fun v w'=>v=.bool (Vl.name s)∧w=w'):=by
 refine ret_of fun K hK=>S_value_key_ok ?_;unfold S_value_key;rw[s_len Tryz.underlying9,b_leq];by_cases h:(s.length:Int)≤127
 ·have hi:∀{K':VWP},K' (.int .i64 (Lib.indexByte s 0)) w→CallX prog 174 #[.string ⟨s.toArray⟩,.int .u8 0] w (pk K) K':=fun hk=>c_eq (indexByte_ret s 0 w) hk;simp only[h,decide_true,rs];refine hi ?_;simp only[rs];refine hK _ _ ⟨?_,rfl⟩;rw[Vl.name,decide_eq_true (show s.length≤127 by omega),Bool.true_and]
  congr 1
  rw[decide_eq_decide];rcases ix_cases 0 s with ⟨h1,h2,h3⟩|⟨i,h1,hil,h3,h4⟩
  ·rw[h1];refine⟨fun _ hm=>?_,fun _=>by decide⟩;have:=tw_self s h2 0 hm;simp at this
  ·rw[h1];refine⟨fun h=>by omega,fun hm=>absurd ?_ hm⟩;have hd:s.drop i=s[i]::s.drop (i+1):=List.drop_eq_getElem_cons hil;have h0:s[i]=0:=by
    have:=dw_head s (h4.trans hd);simpa using this
   exact h0▸List.getElem_mem hil
 ·simp only[h,decide_false,rs,g_un];refine hK _ _ ⟨?_,rfl⟩;rw[Vl.name,decide_eq_false (show ¬s.length≤127 by omega)];rfl
theorem vrising_ret (o:Ob)(v:Value)(w:World)(h:OV (InW w) w v o)(hb:o.keys.length≤9223372036854775807) :
  Ret prog 172 #[v] w (fun v w'=>v=.bool (Vl.rising o)∧Below w.heap.size w w'):=by
 obtain⟨vk,vc,cs,rfl,ha⟩:=h.open;refine ret_of fun K hK=>S_value_rising_ok ?_;unfold S_value_rising;refine o_obb o ha.keys.one ha.kids.one (Own.start w) fun b w1 ho=>?_;have lk:∀{W:World} {L:List Ent},Own w W L→∀{PK:PKT} {K:VWP},DoX prog (mB .len #[23] 3 #[false] #[vk]) W PK K=K (.int .i64 (o.keys.length:Int)) W:=fun ho=>sl_len Tryz.underlying23 (ha.own ho).keys.1;have lc:∀{W:World} {L:List Ent},Own w W L→∀{PK:PKT} {K:VWP},DoX prog (mB .len #[24] 3 #[false] #[vc]) W PK K=K (.int .i64 (o.kids.length:Int)) W:=fun ho=>sl_len Tryz.underlying24 (ha.own ho).kids.1;simp only[rs,fa_o4,fa_o5,ob_keys ho 0 rfl,ob_kids ho 0 rfl,lk ho,lc ho];by_cases hlen:(o.keys.length:Int)≠(o.kids.length:Int)
 ·simp only[decide_eq_true hlen,i_t];refine hK _ _ ⟨?_,ho.done⟩;have:¬o.keys.length=o.kids.length:=fun e=>hlen (by rw[e]);simp[Vl.rising,this]
 have hle:o.keys.length=o.kids.length:=by omega
 simp only[decide_eq_false hlen,i_f];have hR:Vl.rising o=(List.range o.keys.length).all (Vl.keyAt o):=by simp[Vl.rising,hle]
 rw[hR] at hK;refine loop (fun vs w'=>∃(i:Nat),vs=[.int .i64 i]∧i≤o.keys.length∧(List.range i).all (Vl.keyAt o)=true∧Own w w' [obE b o vk vc]) (fun vs _=>o.keys.length - n0 vs) ⟨0,rfl,by omega,by simp,ho⟩ ?_;rintro vs w2 ⟨i,rfl,hi,hall,ho⟩ _;simp only[S_value_rising_0,gd,rs];by_cases hlt:(i:Int) < (o.keys.length:Int)
 ·have hi':i < o.keys.length:=by omega
  simp only[hlt,decide_true,i_t];have ho2:=ha.own ho;refine sl_ia1 (.string ⟨(o.keys[i]).toArray⟩) Tryz.underlying23 (by kernel_rfl) ho2.keys.1 (by omega) (by rw[Int.toNat_natCast];exact strsV_get hi') fun q hq=>?_;rw[l_cell nStr5 hq];refine c_eq (vkey_ret o.keys[i] w2) ?_;obtain⟨kb,koff,hia,hkc⟩:=run_kid_k ho2.kids.1 ho2.all (show i < o.kids.length by omega);have hlk:∀{PK:PKT} {K:VWP},DoX prog (mLoad 3 (.pointer (some ⟨kb,koff,none⟩))) w2 PK K=K (.int .i64 o.kids[i].k) w2:=l_cell nInt5 hkc;have hprev:decide (0 < (i:Int))=true→∃(b' off':Nat),(∀{PK:PKT} {K:VWP},DoX prog (mIA 23 vk (.int .i64 (IntKind.wrap .i64 ((i:Int) - 1)))) w2 PK K=K (.pointer (some ⟨b',off',none⟩)) w2) ∧
    (∀{PK:PKT} {K:VWP},DoX prog (mLoad 9 (.pointer (some ⟨b',off',none⟩))) w2 PK K=K (.string ⟨(o.keys.getD (i - 1) []).toArray⟩) w2):=by
   intro h;have h:=of_decide_eq_true h;have hj:i - 1 < o.keys.length:=by omega
   obtain⟨b',off',cap',rfl,hc'⟩:=sl_open ho2.keys.1 (show 0 < o.keys.length by omega);refine⟨b',off'+(i - 1),?_,?_⟩
   ·intro PK K;rw[wrap64_id (by omega) (by omega)];refine do_eq ?_;rw[run_ia Tryz.underlying23 (show _=some 1 by kernel_rfl) (by omega) (by omega),show ((i:Int) - 1).toNat*1=i - 1 by omega]
   ·intro PK K;rw[List.getD_eq_getElem?_getD,List.getElem?_eq_getElem hj];exact l_cell nStr5 (hc' _ _ (strsV_get hj))
  have hgi:o.keys.getD i []=o.keys[i]:=by rw[List.getD_eq_getElem?_getD,List.getElem?_eq_getElem hi'];rfl
  have hgk:o.kids.getD i (.mk 0 0 0 [] [] [])=o.kids[i]'(by omega):=by rw[List.getD_eq_getElem?_getD,List.getElem?_eq_getElem (by omega)];rfl
  have tail:∀(q:Bool) (N:Prop),q=!(Vl.keyAt o i)→(Vl.keyAt o i=true→N)→IfX (.bool q) (K (.returned (.bool false)) w2) N:=by
   intro q N hq hN;cases hk:Vl.keyAt o i with
  |false=>
    rw[hk] at hq;subst hq;rw[show (!false)=true from rfl,i_t];exact hK _ _ ⟨by rw[range_all_not hk hi'],ho.done⟩
  |true=>
    rw[hk] at hq;subst hq;rw[show (!true)=false from rfl,i_f];exact hN hk
  have hki:Vl.keyAt o i=(Vl.name o.keys[i]&&(decide (i=0)||Vl.less (o.keys.getD (i - 1) []) o.keys[i])&&!(decide (o.k=9)&&decide (o.keys[i]=Vl.lenK))&&decide ((o.kids[i]'(by omega)).k≠0)):=by
   rw[Vl.keyAt,hgi,hgk]
  by_cases hi0:i=0
  ·have hz:decide (0 < (i:Int))=false:=by rw[decide_eq_false_iff_not];omega
   simp +contextual only[rs,gs,hz,sel_sel,g_off,pick_orn,Bool.and_false,Bool.not_not,Bool.or_false,fa_o0,fa_o5,ob_k ho 0 rfl,ob_kids ho 0 rfl,hia,hlk,g_un,p_f];refine tail _ _ ?_ fun hk=>?_
   ·rw[hki,decide_eq_true hi0];simp only[Bool.true_or,Bool.and_true,Vl.lenK,ne_eq,decide_not];generalize Vl.name o.keys[i]=a;generalize decide (o.k=9)=c;generalize decide ((o.kids[i]'(by omega)).k=0)=d;by_cases hL:o.keys[i]=[76,101,110,103,116,104]<;>simp only[hL,decide_true,decide_false]<;>cases a<;>cases c<;>cases d<;>rfl
   ·rw[wrap64_id (by omega) (by omega)];exact nextX ⟨i+1,rfl,by omega,by rw[range_all_succ,hall,hk];rfl,ho⟩ (by simp[n0,RowKit.intOf];omega)
  ·have hz:decide (0 < (i:Int))=true:=by rw[decide_eq_true_iff];omega
   obtain⟨b',off',hpa,hpl⟩:=hprev hz;simp +contextual only[rs,gs,hz,sel_sel,g_off,pick_orn,Bool.and_false,Bool.not_not,Bool.or_false,fa_o0,fa_o4,fa_o5,ob_k ho 0 rfl,ob_keys ho 0 rfl,ob_kids ho 0 rfl,hia,hlk,hpa,hpl,g_un];refine tail _ _ ?_ fun hk=>?_
   ·rw[hki,decide_eq_false hi0];simp only[Bool.false_or,Vl.lenK,ne_eq,decide_not];generalize Vl.name o.keys[i]=a;generalize decide (o.k=9)=c;generalize decide ((o.kids[i]'(by omega)).k=0)=d;show _=!(_&&Op.bytesLess (o.keys.getD (i - 1) []) o.keys[i]&&_&&_);generalize Op.bytesLess (o.keys.getD (i - 1) []) o.keys[i]=e;by_cases hL:o.keys[i]=[76,101,110,103,116,104]<;>simp only[hL,decide_true,decide_false]<;>cases a<;>cases c<;>cases d<;>cases e<;>rfl
   ·rw[wrap64_id (by omega) (by omega)];exact nextX ⟨i+1,rfl,by omega,by rw[range_all_succ,hall,hk];rfl,ho⟩ (by simp[n0,RowKit.intOf];omega)
 ·simp only[hlt,decide_false,i_f];refine hK _ _ ⟨?_,ho.done⟩;rw[show o.keys.length=i by omega,hall]
theorem vfits_ret (o:Ob)(v:Value)(w:World)(h:OV (InW w) w v o):Ret prog 169 #[v] w (fun v w'=>v=.bool (Vl.fits o)∧Below w.heap.size w w'):=by
 obtain⟨vk,vc,cs,rfl,ha⟩:=h.open;refine ret_of fun K hK=>S_value_fits_ok ?_;unfold S_value_fits;refine o_obb o ha.keys.one ha.kids.one (Own.start w) fun b w1 ho=>?_;simp only[fa_o0,ob_k ho 0 rfl,rs];by_cases k1:o.k=1
 ·simp only[k1,decide_true,i_t,fa_o1,ob_n ho 0 rfl];refine c_eq (within64_ret _ _ _ w1) (hK _ _ ⟨?_,ho.done⟩);rw[Vl.fits,if_pos k1,Bool.decide_and]
 by_cases k2:o.k=2
 ·simp only[k2,Int.reduceEq,decide_true,decide_false,i_t,i_f,fa_o1,ob_n ho 0 rfl];refine c_eq (within64_ret _ _ _ w1) (hK _ _ ⟨?_,ho.done⟩);rw[Vl.fits,if_neg k1,if_pos k2,Bool.decide_and]
 by_cases k3:o.k=3
 ·simp only[k3,Int.reduceEq,decide_true,decide_false,i_t,i_f,fa_o1,ob_n ho 0 rfl];refine c_eq (within64_ret _ _ _ w1) (hK _ _ ⟨?_,ho.done⟩);rw[Vl.fits,if_neg k1,if_neg k2,if_pos k3,Bool.decide_and]
 by_cases k8:o.k=8
 ·simp only[k8,Int.reduceEq,decide_true,decide_false,i_t,i_f,fa_o1,ob_n ho 0 rfl];refine c_eq (within64_ret _ _ _ w1) ?_;have hf:Vl.fits o=(decide (1≤o.n)&&decide (o.n≤8191)&&(decide (0≤o.g)&&decide (o.g≤65535))):=by
   rw[Vl.fits,if_neg k1,if_neg k2,if_neg k3,if_pos k8,Bool.decide_and,Bool.decide_and]
  rw[hf] at hK;cases hc:(decide (1≤o.n)&&decide (o.n≤8191)) with
 |false=>
   rw[hc] at hK;rw[g_ft,g_ft,g_ft,p_f];exact hK _ _ ⟨rfl,ho.done⟩
 |true=>
   rw[hc] at hK;rw[g_tt,fa_o2,g_tt,ob_g ho 0 rfl,g_tt];refine c_eq (withinI_ret _ _ _ w1) ?_;rw[p_t];exact hK _ _ ⟨rfl,ho.done⟩
 simp only[k1,k2,k3,k8,decide_false,i_f];refine hK _ _ ⟨?_,ho.done⟩;rw[Vl.fits,if_neg k1,if_neg k2,if_neg k3,if_neg k8]
def vShort (o:Ob):Bool:=if o.k=4 then decide (o.s.length≤32767) else if o.k=5 then decide (o.s.length≤127) else decide (o.s.length≤1048576)
theorem vshort_ret (o:Ob)(v:Value)(w:World)(h:OV (InW w) w v o):Ret prog 170 #[v] w (fun v w'=>v=.bool (vShort o)∧Below w.heap.size w w'):=by
 obtain⟨vk,vc,cs,rfl,ha⟩:=h.open;refine ret_of fun K hK=>S_value_short_ok ?_;unfold S_value_short;refine o_obb o ha.keys.one ha.kids.one (Own.start w) fun b w1 ho=>?_;simp only[fa_o0,ob_k ho 0 rfl,rs];have hi:∀m:Nat,decide ((o.s.length:Int)≤(m:Int))=decide (o.s.length≤m):=fun m=>by rw[decide_eq_decide];omega
 by_cases k4:o.k=4
 ·simp only[k4,decide_true,i_t,fa_o3,ob_s ho 0 rfl,s_len Tryz.underlying9,rs];refine hK _ _ ⟨?_,ho.done⟩;rw[vShort,if_pos k4,←hi];rfl
 by_cases k5:o.k=5
 ·simp only[k5,Int.reduceEq,decide_true,decide_false,i_t,i_f,fa_o3,ob_s ho 0 rfl,s_len Tryz.underlying9,rs];refine hK _ _ ⟨?_,ho.done⟩;rw[vShort,if_neg k4,if_pos k5,←hi];rfl
 simp only[k4,k5,decide_false,i_f,fa_o3,ob_s ho 0 rfl,s_len Tryz.underlying9,rs];refine hK _ _ ⟨?_,ho.done⟩;rw[vShort,if_neg k4,if_neg k5,←hi];rfl
theorem short_long {o:Ob}(h:Vl.usesOk o=true):vShort o=!decide (Vl.long o.k < o.s.length):=by
 have key:∀m:Nat,decide (o.s.length≤m)=!decide (m < o.s.length):=fun m=>by
  rw[Bool.eq_iff_iff];simp
 unfold vShort Vl.long;by_cases k4:o.k=4
 ·rw[if_pos k4,if_neg (by omega),if_neg (by omega),key]
 by_cases k5:o.k=5
 ·rw[if_neg k4,if_pos k5,if_pos k5,key]
 by_cases k9:o.k=9
 ·rw[if_neg k4,if_neg k5,if_neg k5,if_pos k9,key]
 have hs:o.s=[]:=by
  unfold Vl.usesOk Vl.used at h
  revert h
  split
  ·intro h;cases h
  ·rename_i n g s ks cs he
   intro h;simp only[Bool.and_eq_true,Bool.or_eq_true,decide_eq_true_eq] at h;have hsf:s=false:=by
    revert he
    repeat' split
    all_goals (intro he;first|(cases he;done)|skip)
    all_goals (simp only[Option.some.injEq,Prod.mk.injEq] at he;first|exact he.2.2.1.symm|omega)
   rcases h.1.1.2 with h1|h1
   ·rw[hsf] at h1;cases h1
   ·exact h1
 rw[if_neg k4,if_neg k5,if_neg k5,if_neg k9,hs];rfl
end
section
open Eng Go.RowKit
 attribute [local congr] g_congr
def uC (u:Bool×Bool×Bool×Bool×Bool):List Value:=[.bool u.1,.bool u.2.1,.bool u.2.2.1,.bool u.2.2.2.1,.bool u.2.2.2.2]
def uV (u:Bool×Bool×Bool×Bool×Bool):Value:=.agg (uC u).toArray
def uE (b:Nat)(u:Bool×Bool×Bool×Bool×Bool):Ent:=.cells b (uC u) 219
def u0:Bool×Bool×Bool×Bool×Bool:=(false,false,false,false,false)
theorem aggU:aggN prog 219=some 5:=by kernel_rfl
theorem szU:(Tryz.prog.info? 219).map (·.size)=some 5:=by kernel_rfl
theorem uC_one (u:Bool×Bool×Bool×Bool×Bool):∀v∈uC u,v.oneCell'=true:=by
 intro v hv;simp only[uC,List.mem_cons,List.not_mem_nil,or_false] at hv;rcases hv with rfl|rfl|rfl|rfl|rfl<;>rfl
theorem nBool:notAgg prog 4=true:=by kernel_rfl
section
variable {w:World}{PK:PKT}{K:VWP}{S:Nat→Prop}{w0:World}{L:List Ent}
theorem fa_u0 {b:Nat}:DoX prog (mFA 219 (.pointer (some ⟨b,0,none⟩)) 0) w PK K=K (.pointer (some ⟨b,0,none⟩)) w:=f_addr (show fOff prog 219 0=some 0 by kernel_rfl)
theorem fa_u1 {b:Nat}:DoX prog (mFA 219 (.pointer (some ⟨b,0,none⟩)) 1) w PK K=K (.pointer (some ⟨b,0+1,none⟩)) w:=f_addr (show fOff prog 219 1=some 1 by kernel_rfl)
theorem fa_u2 {b:Nat}:DoX prog (mFA 219 (.pointer (some ⟨b,0,none⟩)) 2) w PK K=K (.pointer (some ⟨b,0+2,none⟩)) w:=f_addr (show fOff prog 219 2=some 2 by kernel_rfl)
theorem fa_u3 {b:Nat}:DoX prog (mFA 219 (.pointer (some ⟨b,0,none⟩)) 3) w PK K=K (.pointer (some ⟨b,0+3,none⟩)) w:=f_addr (show fOff prog 219 3=some 3 by kernel_rfl)
theorem fa_u4 {b:Nat}:DoX prog (mFA 219 (.pointer (some ⟨b,0,none⟩)) 4) w PK K=K (.pointer (some ⟨b,0+4,none⟩)) w:=f_addr (show fOff prog 219 4=some 4 by kernel_rfl)
theorem u_put (i:Nat){b:Nat}{u:Bool×Bool×Bool×Bool×Bool}(u':Bool×Bool×Bool×Bool×Bool)(ho:OwnS S w0 w L)(hi:L[i]?=some (uE b u))(k:∀w',OwnS S w0 w' (L.set i (uE b u'))→K undef w') :
  DoX prog (mStore 219 (.pointer (some ⟨b,0,none⟩)) (uV u')) w PK K:=o_put i ho hi (new:=uC u') szU (uC_one u') rfl k
end
def usedV (k:Int):Value:=.tuple #[uV ((Vl.used k).getD u0),.bool (Vl.used k).isSome]
theorem vused_ret (k:Int)(w:World):Ret prog 168 #[.int .i64 k] w (fun v w'=>v=usedV k∧Below w.heap.size w w'):=by
 refine ret_of fun K hK=>S_value_used_ok ?_;unfold S_value_used;refine o_new (fun b=>.pointer (some ⟨b,0,none⟩)) (uC u0) 219 (fun _=>by kernel_rfl) (Own.start w) fun b w1 ho=>?_;have fin:∀(u:Bool×Bool×Bool×Bool×Bool) (ok:Bool),Vl.used k=(if ok then some u else none)→(ok=false→u=u0)→DoX prog (mStore 219 (.pointer (some ⟨b,0,none⟩)) (uV u)) w1 (pk K) fun _ w=>
   RetX prog [.cell (.pointer (some ⟨b,0,none⟩)) 219,.val (.bool ok)] w K:=by
  intro u ok hu h0;refine u_put 0 u ho rfl fun w2 ho=>?_;refine ret_v2 (rv_cell (ho.agg 0 rfl aggU)) rv_val (hK _ _ ⟨?_,ho.done⟩);rw[usedV,hu];cases ok with
 |true=>rfl
 |false=>rw[h0 rfl];rfl
 have b0:∀{PK:PKT} {K:VWP},DoX prog (mBuild 219 #[]) w1 PK K=K (uV u0) w1:=do_eq (by kernel_rfl);have b1:∀{PK:PKT} {K:VWP},DoX prog (mBuild 219 #[(0,.bool true)]) w1 PK K=K (uV (true,false,false,false,false)) w1:=do_eq (by kernel_rfl);have b2:∀{PK:PKT} {K:VWP},DoX prog (mBuild 219 #[(2,.bool true)]) w1 PK K=K (uV (false,false,true,false,false)) w1:=do_eq (by kernel_rfl);have b3:∀{PK:PKT} {K:VWP},DoX prog (mBuild 219 #[(4,.bool true)]) w1 PK K=K (uV (false,false,false,false,true)) w1:=do_eq (by kernel_rfl);have b4:∀{PK:PKT} {K:VWP},DoX prog (mBuild 219 #[(3,.bool true),(4,.bool true)]) w1 PK K=K (uV (false,false,false,true,true)) w1:=do_eq (by kernel_rfl);have b5:∀{PK:PKT} {K:VWP},DoX prog (mBuild 219 #[(0,.bool true),(1,.bool true)]) w1 PK K=K (uV (true,true,false,false,false)) w1:=do_eq (by kernel_rfl);have b6:∀{PK:PKT} {K:VWP},DoX prog (mBuild 219 #[(2,.bool true),(3,.bool true),(4,.bool true)]) w1 PK K=K (uV (false,false,true,true,true)) w1:=do_eq (by kernel_rfl);simp only[rs];by_cases k0:k=0
 ·simp only[k0,decide_true,i_t,b0];exact fin _ true (by simp[Vl.used,k0,u0]) (by simp)
 simp only[k0,decide_false,i_f];refine join fun J hJ=>?_;by_cases k123:k=1∨k=2∨k=3
 ·have:J [.bool true] w1:=by
   refine hJ _ _ fun _=>?_;simp only[S_value_used_0,gd,i_t,b1];exact fin _ true (by simp[Vl.used,k0,k123]) (by simp)
  by_cases k1:k=1
  ·simp only[k1,decide_true,i_t];exact this
  by_cases k2:k=2
  ·simp only[k2,Int.reduceEq,decide_true,decide_false,i_t,i_f];exact this
  have k3:k=3:=by omega
  simp only[k3,Int.reduceEq,decide_true,decide_false,i_t,i_f];exact this
 have k1:¬k=1:=fun h=>k123 (.inl h);have k2:¬k=2:=fun h=>k123 (.inr (.inl h));have k3:¬k=3:=fun h=>k123 (.inr (.inr h));simp only[k1,k2,k3,decide_false,i_f];refine hJ _ _ fun _=>?_;clear hJ;simp only[S_value_used_0,gd,i_f,rs];refine join fun J hJ=>?_;by_cases k45:k=4∨k=5
 ·have:J [.bool true] w1:=by
   refine hJ _ _ fun _=>?_;simp only[S_value_used_1,gd,i_t,b2];exact fin _ true (by simp[Vl.used,k0,k1,k2,k3,k45]) (by simp)
  by_cases k4:k=4
  ·simp only[k4,decide_true,i_t];exact this
  have k5:k=5:=by omega
  simp only[k5,Int.reduceEq,decide_true,decide_false,i_t,i_f];exact this
 have k4:¬k=4:=fun h=>k45 (.inl h);have k5:¬k=5:=fun h=>k45 (.inr h);simp only[k4,k5,decide_false,i_f];refine hJ _ _ fun _=>?_;clear hJ;simp only[S_value_used_1,gd,i_f,rs];by_cases k6:k=6
 ·simp only[k6,decide_true,i_t,b3];exact fin _ true (by simp[Vl.used,k6]) (by simp)
 by_cases k7:k=7
 ·simp only[k7,Int.reduceEq,decide_true,decide_false,i_t,i_f,b4];exact fin _ true (by simp[Vl.used,k7]) (by simp)
 by_cases k8:k=8
 ·simp only[k8,Int.reduceEq,decide_true,decide_false,i_t,i_f,b5];exact fin _ true (by simp[Vl.used,k8]) (by simp)
 by_cases k9:k=9
 ·simp only[k9,Int.reduceEq,decide_true,decide_false,i_t,i_f,b6];exact fin _ true (by simp[Vl.used,k9]) (by simp)
 simp only[k6,k7,k8,k9,decide_false,i_f,b0];exact fin _ false (by simp[Vl.used,k0,k123,k45,k6,k7,k8,k9]) (by simp)
theorem used_keys {k:Int}{n g s ks cs:Bool}(h:Vl.used k=some (n,g,s,ks,cs)):ks=decide (k=7∨k=9):=by
 revert h
 unfold Vl.used
 repeat' split
 all_goals (intro h;first|(cases h;done)|skip)
 all_goals simp only[Option.some.injEq,Prod.mk.injEq] at h
 all_goals rw[←h.2.2.2.1]
 all_goals symm
 all_goals first|(rw[decide_eq_false_iff_not];omega)|(rw[decide_eq_true_iff];omega)
abbrev badE (e:Int):PanicEntry:={ v:=.iface 217 (.agg #[.int .i64 e]),recovered:=false }
theorem c_must {q r:Bool}{e:Int}{w:World}{PK:PKT}{K:VWP}(h:q=r)(hok:r=true→K (.tuple #[]) w)(hbad:r=false→PK [badE e] w):CallX prog 167 #[.bool q,.int .i64 e] w PK K:=by
 subst h;refine c_any (S_value_must_ok (K:=fun e' w'=>(q=true→e'=.returned (.tuple #[])∧w'=w)∧(q=false→e'=.panicked [badE e]∧w'=w)) ?_) ?_
 ·unfold S_value_must;cases q with
 |true=>
   rw[u_not,show (!true)=false from rfl,i_f];exact⟨fun _=>⟨rfl,rfl⟩,fun h=>by cases h⟩
 |false=>
   rw[u_not,show (!false)=true from rfl,i_t];have hb:∀{PK:PKT} {K:VWP},DoX prog (mBuild 217 #[(0,.int .i64 e)]) w PK K=K (.agg #[.int .i64 e]) w:=do_eq (by kernel_rfl);rw[hb,m_iface (show notIface prog 217=true by kernel_rfl),m_panic];exact⟨fun h=>(by cases h),fun _=>⟨rfl,rfl⟩⟩
 ·rintro e' w' ⟨h1,h2⟩;cases q with
 |true=>obtain⟨rfl,rfl⟩:=h1 rfl;exact hok rfl
 |false=>obtain⟨rfl,rfl⟩:=h2 rfl;exact hbad rfl
end
section
open Eng Go.RowKit
 attribute [local congr] g_congr
theorem vcheck_any (n:Nat):∀(o:Ob) (v:Value) (d:Nat) (w:World) (K:Ending→World→Prop),o.wt≤n→OV (InW w) w v o→o.wt≤4611686018427387904→1≤d→d≤1000 →
  (Vl.check d o=0→∀w',Below w.heap.size w w'→K (.returned (.tuple #[])) w')→(Vl.check d o≠0→∀w',Below w.heap.size w w'→K (.panicked [badE (Vl.check d o)]) w') →
  Calls prog 143 #[v,.int .i64 (d:Int)] w K:=by
 induction n with
|zero=>intro o v d w K h;have:=o.wt_pos;omega
|succ n ih=>
 intro o v d w K hn hov hb hd1 hd hok hbad;obtain⟨vk,vc,cs,rfl,ha⟩:=hov.open;refine S_value_check_ok ?_;unfold S_value_check;refine o_obb o ha.keys.one ha.kids.one (Own.start w) fun b w1 ho=>?_;have out:∀(e:Int) (W:World) (L:List Ent),Own w W L→Vl.why d o=e→e≠0→(pk K) [badE e] W:=by
  intro e W L ho h1 h2;have h3:Vl.check d o=e:=by rw[why_pos (by rw[h1];exact h2),h1]
  rw[h3] at hbad;exact hbad h2 W ho.done
 rw[b_leq];refine c_must (r:=decide (d≤24)) (by rw[decide_eq_decide];omega) (fun h24=>?_) fun h24=>out 7 w1 _ ho (by rw[Vl.why,if_pos (by have:=of_decide_eq_false h24;omega)]) (by decide);have h24':¬24 < d:=by have:=of_decide_eq_true h24;omega
 rw[fa_o0,ob_k ho 0 rfl];refine c_told (vused_ret o.k w1) rfl ho fun w2 ho=>?_;simp only[usedV,ex];refine o_new (fun b=>.pointer (some ⟨b,0,none⟩)) (uC u0) 219 (fun _=>by kernel_rfl) ho fun b4 w3 ho=>?_;refine u_put 0 ((Vl.used o.k).getD u0) ho rfl fun w4 ho=>?_;have ho:Own w w4 [uE b4 ((Vl.used o.k).getD u0),obE b o vk vc]:=ho;have bad10:(Vl.usesOk o=false∨(o.k=9∧1 < d))→(pk K) [badE 10] w4:=fun h=>out 10 w4 _ ho (by rw[Vl.why,if_neg h24',if_pos h]) (by decide);have lk:∀{W:World} {L:List Ent},Own w W L→∀{PK:PKT} {K:VWP},DoX prog (mB .len #[23] 3 #[false] #[vk]) W PK K=K (.int .i64 (o.keys.length:Int)) W:=fun ho=>sl_len Tryz.underlying23 (ha.own ho).keys.1;have lc:∀{W:World} {L:List Ent},Own w W L→∀{PK:PKT} {K:VWP},DoX prog (mB .len #[24] 3 #[false] #[vc]) W PK K=K (.int .i64 (o.kids.length:Int)) W:=fun ho=>sl_len Tryz.underlying24 (ha.own ho).kids.1;cases hu:Vl.used o.k with
|none=>
  have hb10:=bad10 (.inl (by rw[Vl.usesOk,hu]));simp only[Option.isSome_none,rs,g_un];exact c_must (r:=false) rfl (fun h=>by cases h) fun _=>hb10
|some u=>
 obtain⟨un,ug,us,uks,ucs⟩:=u;rw[hu,Option.getD_some] at ho;have hUo:Vl.usesOk o=((un||decide (o.n=0))&&(ug||decide (o.g=0))&&(us||decide (o.s=[]))&&(uks||decide (o.keys=[]))&&(ucs||decide (o.kids.length=0))):=by rw[Vl.usesOk,hu]
 have l0:∀{PK:PKT} {K:VWP},DoX prog (mLoad 4 (.pointer (some ⟨b4,0,none⟩))) w4 PK K=K (.bool un) w4:=l_cell nBool (ho.cell 0 rfl 0 rfl);have l1:∀{PK:PKT} {K:VWP},DoX prog (mLoad 4 (.pointer (some ⟨b4,0+1,none⟩))) w4 PK K=K (.bool ug) w4:=l_cell nBool (ho.cell 0 rfl 1 rfl);have l2:∀{PK:PKT} {K:VWP},DoX prog (mLoad 4 (.pointer (some ⟨b4,0+2,none⟩))) w4 PK K=K (.bool us) w4:=l_cell nBool (ho.cell 0 rfl 2 rfl);have l3:∀{W:World} {L:List Ent},Own w W (uE b4 (un,ug,us,uks,ucs)::L)→∀{PK:PKT} {K:VWP},DoX prog (mLoad 4 (.pointer (some ⟨b4,0+3,none⟩))) W PK K=K (.bool uks) W:=fun ho=>l_cell nBool (ho.cell 0 rfl 3 rfl);have l4:∀{PK:PKT} {K:VWP},DoX prog (mLoad 4 (.pointer (some ⟨b4,0+4,none⟩))) w4 PK K=K (.bool ucs) w4:=l_cell nBool (ho.cell 0 rfl 4 rfl);simp +contextual only[Option.isSome_some,rs,gs,sel_sel,g_off,pick_orn,Bool.and_false,Bool.not_not,Bool.or_false,fa_u0,fa_u1,fa_u2,fa_u3,fa_u4,l0,l1,l2,l3 ho,l4,fa_o0,fa_o1,fa_o2,fa_o3,fa_o4,fa_o5,ob_k ho 1 rfl,ob_n ho 1 rfl,ob_g ho 1 rfl,ob_s ho 1 rfl,ob_keys ho 1 rfl,ob_kids ho 1 rfl,lk ho,lc ho,e_nil];refine c_must (r:=Vl.usesOk o&&!(decide (o.k=9)&&decide (1 < d))) ?_ (fun hq=>?_) fun hq=>?_
 ·rw[hUo,ilen0 o.keys,ilenN o.kids]
  congr 1
  by_cases h9:o.k=9
  ·simp only[h9,ne_eq,not_true,decide_false,Bool.or_false,decide_true,Bool.true_and];rw[Bool.eq_iff_iff];simp;omega
  ·simp only[h9,ne_eq,not_false_eq_true,decide_true,Bool.or_true,decide_false,Bool.false_and,Bool.not_false]
 rotate_left
 ·refine bad10 ?_;rw[Bool.and_eq_false_iff] at hq;rcases hq with h|h
  ·exact .inl h
  ·right;have:(decide (o.k=9)&&decide (1 < d))=true:=by simpa using h
   rw[Bool.and_eq_true] at this;exact⟨of_decide_eq_true this.1,of_decide_eq_true this.2⟩
 rw[Bool.and_eq_true] at hq;obtain⟨huo,hq9⟩:=hq;have hno:¬(Vl.usesOk o=false∨(o.k=9∧1 < d)):=by
  rintro (h|⟨h1,h2⟩)
  ·rw[huo] at h;cases h
  ·rw[decide_eq_true h1,decide_eq_true h2] at hq9;cases hq9
 rw[ob_v ho 1 rfl];refine c_told (vfits_ret o _ w4 (ha.in_ ho).ov) rfl ho fun w5 ho=>?_;refine c_must (r:=Vl.fits o) rfl (fun hfi=>?_) fun hfi=>out 2 w5 _ ho (by rw[Vl.why,if_neg h24',if_neg hno,if_pos hfi]) (by decide);have hfi':¬Vl.fits o=false:=by rw[hfi];decide
 rw[ob_v ho 1 rfl];refine c_told (vshort_ret o _ w5 (ha.in_ ho).ov) rfl ho fun w6 ho=>?_;refine c_must (r:=!decide (Vl.long o.k < o.s.length)) (short_long huo) (fun hlo=>?_) fun hlo=>out 5 w6 _ ho (by rw[Vl.why,if_neg h24',if_neg hno,if_neg hfi',if_pos (by simpa using hlo)]) (by decide);have hlo':¬Vl.long o.k < o.s.length:=by simpa using hlo
 rw[ob_kids ho 1 rfl,lc ho,b_leq];refine c_must (r:=decide (o.kids.length≤8191)) (by rw[decide_eq_decide];omega) (fun hm=>?_) fun hm=>out 6 w6 _ ho (by rw[Vl.why,if_neg h24',if_neg hno,if_neg hfi',if_neg hlo',if_pos (by have:=of_decide_eq_false hm;omega)]) (by decide);have hm':¬8191 < o.kids.length:=by have:=of_decide_eq_true hm;omega
 rw[ob_k ho 1 rfl,n_int];have huk:=used_keys hu
 -- behind the form: the kids
 have rest:∀(W:World),Vl.form o=true→Own w W [uE b4 (un,ug,us,uks,ucs),obE b o vk vc] →
   DoX prog (mLoad 24 (.pointer (some ⟨b,0+5,none⟩))) W (pk K) fun t105 w=>
   DoX prog (mB .len #[24] 3 #[false] #[t105]) w (pk K) fun t106 w=>
   LoopX [(.int .i64 0)] w (fun vs1 w N1=>∀_:Sg,S_value_check_0 (.int .i64 (d:Int)) t105 t106 (vs1.getD 0 undef) w N1 K):=by
  intro W hfo ho;have hw0:Vl.why d o=0:=by rw[Vl.why,if_neg h24',if_neg hno,if_neg hfi',if_neg hlo',if_neg hm',if_neg (by rw[hfo];decide)]
  have hch:Vl.check d o=Vl.checks (d+1) o.kids:=by rw[Vl.check_eq,if_neg (by simp[hw0])]
  rw[hch] at hok hbad;rw[ob_kids ho 1 rfl,lc ho];refine loop (fun vs w'=>∃(i:Nat),vs=[.int .i64 i]∧i≤o.kids.length∧Vl.checks (d+1) o.kids=Vl.checks (d+1) (o.kids.drop i)∧Own w w' [uE b4 (un,ug,us,uks,ucs),obE b o vk vc]) (fun vs _=>o.kids.length - n0 vs) ⟨0,rfl,by omega,rfl,ho⟩ ?_;rintro vs w6 ⟨i,rfl,hi,hT,ho⟩ _;rw[hT] at hok hbad;simp only[S_value_check_0,gd,rs];by_cases hlt:(i:Int) < (o.kids.length:Int)
  ·have hi':i < o.kids.length:=by omega
   simp only[hlt,decide_true,i_t];rw[checks_drop _ _ _ hi'] at hok hbad hT;have hai:=ha.own ho;refine ob_ia hai.kids.1 hai.all hi' fun v hv=>?_;obtain⟨vk',vc',cs',rfl,hkid⟩:=hv.open;have ho6:=ho;refine o_oba ho fun b7 w7 ho=>?_;refine ob_put 0 hkid.keys.one hkid.kids.one ho rfl fun w8 ho=>?_;have ho:Own w w8 [obE b7 o.kids[i] vk' vc',uE b4 (un,ug,us,uks,ucs),obE b o vk vc]:=ho;rw[ob_v ho 0 rfl,wrap64_id (by omega) (by omega),show (d:Int)+1=((d+1:Nat):Int) by omega];have hkw:=kid_wt hi';refine c_any (ih o.kids[i] _ (d+1) w8 _ (by omega) (hkid.later ho6 ho).ov (by omega) (by omega) (by omega) (fun hc0 w9 hb9=>?_) (fun hc0 w9 hb9=>?_)) (fun _ _ h=>h)
   ·have ho:=ho.grow hb9;rw[if_neg (by simp[hc0])] at hT;simp only[Cont,rs];rw[wrap64_id (by omega) (by omega)];exact nextX ⟨i+1,rfl,by omega,hT,ho.tail⟩ (by simp[n0,RowKit.intOf];omega)
   ·rw[if_pos hc0] at hbad;exact hbad hc0 w9 (ho.grow hb9).done
  ·simp only[hlt,decide_false,i_f];rw[List.drop_of_length_le (by omega),Vl.checks] at hok;exact hok rfl w6 ho.done
 have bad3:∀(W:World) (L:List Ent),Own w W L→Vl.form o=false→(pk K) [badE 3] W:=fun W L ho h=>out 3 W _ ho (by rw[Vl.why,if_neg h24',if_neg hno,if_neg hfi',if_neg hlo',if_neg hm',if_pos h]) (by decide);by_cases k5:o.k=5
 ·have k79:¬(o.k=7∨o.k=9):=by omega
  have hks:uks=false:=by rw[huk,decide_eq_false k79]
  have hf:Vl.form o=Vl.name o.s:=by simp[Vl.form,k5]
  rw[show decide (o.k≠5)=false by rw[decide_eq_false_iff_not];omega,g_ff,ob_s ho 1 rfl,g_ff];refine c_eq (vkey_ret o.s w6) ?_;rw[p_f];cases hnm:Vl.name o.s with
 |false=>
   rw[g_ft,g_ft,show sel (wants (Value.bool false) true) undef=undef from rfl,g_un,g_un,g_ft,p_f];exact c_must (r:=false) rfl (fun h=>by cases h) fun _=>bad3 w6 _ ho (by rw[hf,hnm])
 |true=>
   rw[g_tt,l3 ho,hks,g_tt,u_not,show (!false)=true from rfl,show sel (wants (Value.bool true) true) (Value.bool true)=.bool true from rfl,g_tf,g_tf,g_tt,p_t,p_t];exact c_must (r:=true) rfl (fun _=>rest w6 (by rw[hf,hnm]) ho) fun h=>by cases h
 ·rw[show decide (o.k≠5)=true by rw[decide_eq_true_iff];exact k5,g_tf,g_tf,p_t,g_tt,l3 ho,g_tt,u_not];cases hks:uks with
 |false=>
   have k79:¬(o.k=7∨o.k=9):=by rw[huk,decide_eq_false_iff_not] at hks;exact hks
   rw[show (!false)=true from rfl,show sel (wants (Value.bool true) true) (Value.bool true)=.bool true from rfl,g_tf,g_tf,g_tt,p_t,p_t];rw[hks] at ho rest;exact c_must (r:=true) rfl (fun _=>rest w6 (by simp[Vl.form,k5,k79]) ho) fun h=>by cases h
 |true=>
   have k79:o.k=7∨o.k=9:=by rw[huk,decide_eq_true_iff] at hks;exact hks
   have hf:Vl.form o=Vl.rising o:=by simp[Vl.form,k5,k79]
   rw[show (!true)=false from rfl,show sel (wants (Value.bool true) true) (Value.bool false)=.bool false from rfl,g_ff,ob_v ho 1 rfl,g_ff];refine c_told (vrising_ret o _ w6 (ha.in_ ho).ov (by have:=key_len (o:=o);omega)) rfl ho fun w7 ho=>?_;rw[g_tt,p_f,p_t];rw[hks] at ho rest;exact c_must (r:=Vl.form o) hf.symm (fun hfo=>rest w7 hfo ho) fun h=>bad3 w7 _ ho h
theorem caught_plain:plainB prog 166=true:=by kernel_rfl
theorem leave_fn {rs:List RV}{K:Ending→World→Prop}{f:Nat}{args caps:Array Value}{ds:List Deferred}{u:FrameMode}(hu:u≠.run)(hp:plainB prog f=true){w:World}
  (h:CallsD prog f (args++caps) u w fun
   |.returned _,u',w'=>Leave prog rs K ds (settle u') w'
   |.panicked chain,u',w'=>Leave prog rs K ds (raised u' chain) w'
   |.outgrown,_,_=>False):Leave prog rs K ({ target:=.fn (.func f) caps,args:=args }::ds) u w:=
 ⟨hu,.func f,caps,f,args++caps,rfl,by simpa[invoke] using plain_run hp _ w,h⟩
theorem run_plain:plainB prog 142=true:=by kernel_rfl
abbrev nErr5:notAgg prog 32=true:=by kernel_rfl
theorem vCheck_ret (o:Ob)(v:Value)(w:World)(h:OV (InW w) w v o)(hb:o.wt≤4611686018427387904):Ret prog 117 #[v] w (fun v w'=>v=.int .i64 (Vl.check 1 o)∧Below w.heap.size w w'):=by
 refine ret_of fun K hK=>S_value_Check_ok ?_;obtain⟨vk,vc,cs,rfl,ha⟩:=h.open;unfold S_value_Check;refine o_obb o ha.keys.one ha.kids.one (Own.start w) fun b w1 ho=>?_;rw[m_func];refine c_any (S_value_caught_ok (K:=fun e w'=>e=.returned (.int .i64 (Vl.check 1 o))∧Below w.heap.size w w') ?_) ?_
 rotate_left
 ·rintro e w' ⟨rfl,hb'⟩;exact hK _ _ ⟨rfl,hb'⟩
 unfold S_value_caught;refine o_new (fun b=>.pointer (some ⟨b,0,none⟩)) [.int .i64 0] 32 (fun _=>by kernel_rfl) ho fun b2 w2 ho=>?_;rw[m_func];refine⟨_,rfl,?_⟩;refine c_val run_plain ?_;show CallX prog _ #[.pointer (some ⟨b,0,none⟩)] _ _ _;refine c_any (S_value_Check_1_ok (K:=fun e w'=>(Vl.check 1 o=0→e=.returned (.tuple #[])∧Below w2.heap.size w2 w')∧(Vl.check 1 o≠0→e=.panicked [badE (Vl.check 1 o)]∧Below w2.heap.size w2 w')) ?_) ?_
 ·unfold S_value_Check_1;rw[ob_v ho 1 rfl];refine c_any (vcheck_any o.wt o _ 1 w2 (fun e w'=>(Vl.check 1 o=0→e=.returned (.tuple #[])∧Below w2.heap.size w2 w')∧(Vl.check 1 o≠0→e=.panicked [badE (Vl.check 1 o)]∧Below w2.heap.size w2 w')) (Nat.le_refl _) (ha.in_ ho).ov hb (by omega) (by omega)
   (fun h0 w' hb'=>⟨fun _=>⟨rfl,hb'⟩,fun h=>absurd h0 h⟩) (fun h0 w' hb'=>⟨fun h=>absurd h h0,fun _=>⟨rfl,hb'⟩⟩)) ?_
  rintro e w' ⟨h1,h2⟩;by_cases h0:Vl.check 1 o=0
  ·obtain⟨rfl,hb'⟩:=h1 h0;exact⟨fun _=>⟨rfl,hb'⟩,fun h=>absurd h0 h⟩
  ·obtain⟨rfl,hb'⟩:=h2 h0;exact⟨fun h=>absurd h h0,fun _=>⟨rfl,hb'⟩⟩
 rintro e w' ⟨h1,h2⟩;by_cases h0:Vl.check 1 o=0
 ·obtain⟨rfl,hb'⟩:=h1 h0;simp only[Cont];have ho:=ho.grow hb';refine o_store 0 ho rfl (by kernel_rfl) rfl (by simp) fun w4 ho=>?_;refine leave_fn (by simp) caught_plain (S_value_caught_1_dok ?_);simp only[S_value_caught_1,recV,recM,Eng.e_nil Tryz.underlying20,rs];refine ret_cell1 nErr5 (ho.cell 0 rfl 0 rfl) (And.intro ?_ ho.done);rw[h0]
 ·obtain⟨rfl,hb'⟩:=h2 h0;simp only[Cont,S_value_caught_p0,pd];have ho:=ho.grow hb';refine leave_fn (by simp) caught_plain (S_value_caught_1_dok ?_);simp only[S_value_caught_1,recV,recM,Eng.e_some Tryz.underlying20,rs,t_hit (show notIface prog 217=true by kernel_rfl),
   x_ext (show [Value.agg #[.int .i64 (Vl.check 1 o)],Value.bool true][1]?=some (Value.bool true) from rfl),x_ext (show [Value.agg #[.int .i64 (Vl.check 1 o)],Value.bool true][0]?=some (Value.agg #[.int .i64 (Vl.check 1 o)]) from rfl)]
  refine o_new (fun b=>.pointer (some ⟨b,0,none⟩)) [.int .i64 0] 217 (fun _=>by kernel_rfl) ho fun b5 w5 ho=>?_;refine o_put 0 ho rfl (new:=[.int .i64 (Vl.check 1 o)]) (show (Tryz.prog.info? 217).map (·.size)=some 1 by kernel_rfl) (by simp;rfl) rfl fun w6 ho=>?_;rw[f_addr (show fOff prog 217 0=some 0 by kernel_rfl),l_cell nErr5 (ho.cell 0 rfl 0 rfl)];refine o_store 1 ho rfl (by kernel_rfl) rfl (by simp) fun w7 ho=>?_;exact ret_cell1 nErr5 (ho.cell 1 rfl 0 rfl) (And.intro rfl ho.done)
end
end Go.Proofs.YtoobidofdpdkbaaGreatDoor

namespace Go.Proofs.YtoobidofdpdkbaaGreatDoor
section
open Eng
def S_foliantref05_Get_0 (t1 t2 t4 t5 t18 t19 t20:Value)(w:World)(N1:List Value→World→Prop)(K:Ending→World→Prop):Prop:=
 DoX prog (mBin .lss 3 t20 t19) w (pk K) fun t21 w=>
 IfX t21 (DoX prog (mIA 23 t18 t20) w (pk K) fun t23 w=>
 DoX prog (mLoad 9 t23) w (pk K) fun t24 w=>
 DoX prog (mEq .eql 9 (.tmp 25) (.tmp 26) t24 t1) w (pk K) fun t27 w=>
 IfX t27 (DoX prog (mFA 26 t2 5) w (pk K) fun t29 w=>
 DoX prog (mLoad 24 t29) w (pk K) fun t30 w=>
 DoX prog (mB .len #[24] 3 #[false] #[t30]) w (pk K) fun t31 w=>
 DoX prog (mBin .geq 3 t20 t31) w (pk K) fun t32 w=>
 IfX t32 (DoX prog (mBuild 26 #[]) w (pk K) fun t33 w=>
 DoX prog (mStore 26 t4 t33) w (pk K) fun _ w=>
 RetX prog [.cell t4 26,.val (.bool false)] w K) (DoX prog (mFA 26 t2 5) w (pk K) fun t34 w=>
 DoX prog (mLoad 24 t34) w (pk K) fun t35 w=>
 DoX prog (mIA 24 t35 t20) w (pk K) fun t37 w=>
 DoX prog (mLoad 26 t37) w (pk K) fun t38 w=>
 DoX prog (mStore 26 t4 t38) w (pk K) fun _ w=>
 RetX prog [.cell t4 26,.val (.bool true)] w K)) (DoX prog (mBin .add 3 t20 (.int .i64 1)) w (pk K) fun t39 w=>
 N1 [t5,t39] w)) (DoX prog (mBuild 26 #[]) w (pk K) fun t40 w=>
 DoX prog (mStore 26 t4 t40) w (pk K) fun _ w=>
 RetX prog [.cell t4 26,.val (.bool false)] w K)
def S_foliantref05_Get (t0 t1:Value)(w:World)(K:Ending→World→Prop):Prop:=
 DoX prog (mBox 26 t0) w (pk K) fun t2 w=>
 DoX prog (mAlloc 26) w (pk K) fun t4 w=>
 DoX prog (mFA 26 t2 0) w (pk K) fun t8 w=>
 DoX prog (mLoad 3 t8) w (pk K) fun t9 w=>
 DoX prog (mEq .neq 3 (.tmp 9) (.const (.int .i64 7)) t9 (.int .i64 7)) w (pk K) fun t10 w=>
 GDo t10 true (fun E=>DoX prog (mFA 26 t2 0) w (pk K) E) w fun t12 w=>
 GDo t10 true (fun E=>DoX prog (mLoad 3 t12) w (pk K) E) w fun t13 w=>
 GDo t10 true (fun E=>DoX prog (mEq .neq 3 (.tmp 13) (.const (.int .i64 9)) t13 (.int .i64 9)) w (pk K) E) w fun t14 w=>
 DoX prog (mPick t10 t14 (.bool false)) w (pk K) fun t15 w=>
 IfX t15 (DoX prog (mBuild 26 #[]) w (pk K) fun t16 w=>
 DoX prog (mStore 26 t4 t16) w (pk K) fun _ w=>
 RetX prog [.cell t4 26,.val (.bool false)] w K) (DoX prog (mFA 26 t2 4) w (pk K) fun t17 w=>
 DoX prog (mLoad 23 t17) w (pk K) fun t18 w=>
 DoX prog (mB .len #[23] 3 #[false] #[t18]) w (pk K) fun t19 w=>
 LoopX [(.bool false),(.int .i64 0)] w (fun vs1 w N1=>∀_:Sg,S_foliantref05_Get_0 t1 t2 t4 (vs1.getD 0 undef) t18 t19 (vs1.getD 1 undef) w N1 K))
theorem S_foliantref05_Get_eq (t0 t1:Value)(w:World)(K:Ending→World→Prop):wpX prog 41 [] [(4,[5,20])] none (bodyOf Tryz.f95) (topQ prog [.cell 4 26,.tmp 5] K) (startX [t0,t1]) [] w=S_foliantref05_Get t0 t1 w K:=by kernel_rfl
theorem S_foliantref05_Get_ok {t0 t1:Value}{w:World}{K:Ending→World→Prop}(h:S_foliantref05_Get t0 t1 w K):Calls prog 95 #[t0,t1] w K:=
 calls_of_wpX Tryz.func95 rfl rfl rfl rfl (Eq.mpr (S_foliantref05_Get_eq t0 t1 w K) h)
def S_foliantref05_put_0 (t3 t6 t7 t9 t10:Value)(w:World)(K:Ending→World→Prop):Prop:=
 DoX prog (mFA 26 t3 4) w (pk K) fun t42 w=>
 DoX prog (mLoad 23 t42) w (pk K) fun t43 w=>
 DoX prog (mSlice 23 t43 (some t7) none none) w (pk K) fun t45 w=>
 DoX prog (mB .append #[23,23] 23 #[false,false] #[t9,t45]) w (pk K) fun t46 w=>
 DoX prog (mFA 26 t3 4) w (pk K) fun t47 w=>
 DoX prog (mStore 23 t47 t46) w (pk K) fun _ w=>
 DoX prog (mFA 26 t3 5) w (pk K) fun t49 w=>
 DoX prog (mLoad 24 t49) w (pk K) fun t50 w=>
 DoX prog (mSlice 24 t50 (some t7) none none) w (pk K) fun t52 w=>
 DoX prog (mB .append #[24,24] 24 #[false,false] #[t10,t52]) w (pk K) fun t53 w=>
 DoX prog (mFA 26 t3 5) w (pk K) fun t54 w=>
 DoX prog (mStore 24 t54 t53) w (pk K) fun _ w=>
 DoX prog (mLoad 26 t3) w (pk K) fun t55 w=>
 DoX prog (mStore 26 t6 t55) w (pk K) fun _ w=>
 RetX prog [.cell t6 26] w K
def S_foliantref05_put (t0 t1 t2:Value)(w:World)(K:Ending→World→Prop):Prop:=
 DoX prog (mBox 26 t0) w (pk K) fun t3 w=>
 DoX prog (mBox 26 t2) w (pk K) fun t5 w=>
 DoX prog (mAlloc 26) w (pk K) fun t6 w=>
 DoX prog (mFA 26 t3 4) w (pk K) fun t12 w=>
 DoX prog (mLoad 23 t12) w (pk K) fun t13 w=>
 CallX prog 79 #[t13,t1] w (pk K) fun t15 w=>
 DoX prog (mExt t15 0) w (pk K) fun t16 w=>
 DoX prog (mExt t15 1) w (pk K) fun t17 w=>
 DoX prog (mBuildS 23 0 #[]) w (pk K) fun t18 w=>
 DoX prog (mFA 26 t3 4) w (pk K) fun t19 w=>
 DoX prog (mLoad 23 t19) w (pk K) fun t20 w=>
 DoX prog (mSlice 23 t20 none (some t16) none) w (pk K) fun t22 w=>
 DoX prog (mB .append #[23,23] 23 #[false,false] #[t18,t22]) w (pk K) fun t23 w=>
 DoX prog (mBuildS 24 0 #[]) w (pk K) fun t24 w=>
 DoX prog (mFA 26 t3 5) w (pk K) fun t25 w=>
 DoX prog (mLoad 24 t25) w (pk K) fun t26 w=>
 DoX prog (mSlice 24 t26 none (some t16) none) w (pk K) fun t28 w=>
 DoX prog (mB .append #[24,24] 24 #[false,false] #[t24,t28]) w (pk K) fun t29 w=>
 DoX prog (mBuildS 23 1 #[(0,t1)]) w (pk K) fun t32 w=>
 DoX prog (mB .append #[23,23] 23 #[false,false] #[t23,t32]) w (pk K) fun t33 w=>
 DoX prog (mLoad 26 t5) w (pk K) fun t35 w=>
 DoX prog (mBuildS 24 1 #[(0,t35)]) w (pk K) fun t36 w=>
 DoX prog (mB .append #[24,24] 24 #[false,false] #[t29,t36]) w (pk K) fun t37 w=>
 JoinX (fun J1=>
 IfX t17 (DoX prog (mBin .add 3 t16 (.int .i64 1)) w (pk K) fun t40 w=>
 J1 [t40] w) (J1 [t16] w)) (fun vs1 w=>∀_:Sg,S_foliantref05_put_0 t3 t6 (vs1.getD 0 undef) t33 t37 w K)
theorem S_foliantref05_put_eq (t0 t1 t2:Value)(w:World)(K:Ending→World→Prop):wpX prog 56 [(8,[7])] [] none (bodyOf Tryz.f48) (topQ prog [.cell 6 26] K) (startX [t0,t1,t2]) [] w=S_foliantref05_put t0 t1 t2 w K:=by kernel_rfl
theorem S_foliantref05_put_ok {t0 t1 t2:Value}{w:World}{K:Ending→World→Prop}(h:S_foliantref05_put t0 t1 t2 w K):Calls prog 48 #[t0,t1,t2] w K:=
 calls_of_wpX Tryz.func48 rfl rfl rfl rfl (Eq.mpr (S_foliantref05_put_eq t0 t1 t2 w K) h)
def S_foliantref05_place_0 (t0 t1 t6:Value)(w:World)(N1:List Value→World→Prop)(K:Ending→World→Prop):Prop:=
 DoX prog (mB .len #[23] 3 #[false] #[t0]) w (pk K) fun t9 w=>
 DoX prog (mBin .lss 3 t6 t9) w (pk K) fun t10 w=>
 GDo t10 true (fun E=>E t0 w) w fun t12 w=>
 GDo t10 true (fun E=>E t6 w) w fun t13 w=>
 GDo t10 true (fun E=>DoX prog (mIA 23 t12 t13) w (pk K) E) w fun t14 w=>
 GDo t10 true (fun E=>DoX prog (mLoad 9 t14) w (pk K) E) w fun t15 w=>
 GDo t10 true (fun E=>E t1 w) w fun t16 w=>
 GDo t10 true (fun E=>DoX prog (mBin .lss 9 t15 t16) w (pk K) E) w fun t17 w=>
 DoX prog (mPick t10 t17 (.bool false)) w (pk K) fun t18 w=>
 IfX t18 (DoX prog (mBin .add 3 t6 (.int .i64 1)) w (pk K) fun t20 w=>
 N1 [t20] w) (QuietX w (fun C2=>
 QDo prog C2 (mB .len #[23] 3 #[false] #[t0]) fun t24=>
 QDo prog C2 (mBin .lss 3 t6 t24) fun t25=>
 GQ t25 true (fun E=>E t0) fun t27=>
 GQ t25 true (fun E=>E t6) fun t28=>
 GQ t25 true (fun E=>QDo prog C2 (mIA 23 t27 t28) E) fun t29=>
 GQ t25 true (fun E=>QDo prog C2 (mLoad 9 t29) E) fun t30=>
 GQ t25 true (fun E=>E t1) fun t31=>
 GQ t25 true (fun E=>QDo prog C2 (mEq .eql 9 (.tmp 30) (.tmp 31) t30 t31) E) fun t32=>
 QDo prog C2 (mPick t25 t32 (.bool false)) fun t33=>
 ∀w,C2 w →
 K (.returned (.tuple #[t6,t33])) w))
def S_foliantref05_place (t0 t1:Value)(w:World)(K:Ending→World→Prop):Prop:=
 LoopX [(.int .i64 0)] w (fun vs1 w N1=>∀_:Sg,S_foliantref05_place_0 t0 t1 (vs1.getD 0 undef) w N1 K)
theorem S_foliantref05_place_eq (t0 t1:Value)(w:World)(K:Ending→World→Prop):wpX prog 34 [] [(2,[6])] none (bodyOf Tryz.f79) (topQ prog [.tmp 4,.tmp 5] K) (startX [t0,t1]) [] w=S_foliantref05_place t0 t1 w K:=by kernel_rfl
theorem S_foliantref05_place_ok {t0 t1:Value}{w:World}{K:Ending→World→Prop}(h:S_foliantref05_place t0 t1 w K):Calls prog 79 #[t0,t1] w K:=
 calls_of_wpX Tryz.func79 rfl rfl rfl rfl (Eq.mpr (S_foliantref05_place_eq t0 t1 w K) h)
def S_foliantref05_right (t0:Value)(w:World)(K:Ending→World→Prop):Prop:=
 DoX prog (mBox 26 t0) w (pk K) fun t1 w=>
 DoX prog (mAlloc 26) w (pk K) fun t2 w=>
 DoX prog (mLoad 26 t1) w (pk K) fun t5 w=>
 CallX prog 45 #[t5] w (pk K) fun t6 w=>
 DoX prog (mEq .neq 32 (.tmp 7) (.const (.int .i64 0)) t6 (.int .i64 0)) w (pk K) fun t8 w=>
 IfX t8 (DoX prog (mBuild 26 #[]) w (pk K) fun t9 w=>
 DoX prog (mStore 26 t2 t9) w (pk K) fun _ w=>
 RetX prog [.cell t2 26,.val t6] w K) (DoX prog (mLoad 26 t1) w (pk K) fun t11 w=>
 DoX prog (mStore 26 t2 t11) w (pk K) fun _ w=>
 RetX prog [.cell t2 26,.val (.int .i64 0)] w K)
theorem S_foliantref05_right_eq (t0:Value)(w:World)(K:Ending→World→Prop):wpX prog 12 [] [] none (bodyOf Tryz.f47) (topQ prog [.cell 2 26,.tmp 3] K) (startX [t0]) [] w=S_foliantref05_right t0 w K:=by kernel_rfl
theorem S_foliantref05_right_ok {t0:Value}{w:World}{K:Ending→World→Prop}(h:S_foliantref05_right t0 w K):Calls prog 47 #[t0] w K:=
 calls_of_wpX Tryz.func47 rfl rfl rfl rfl (Eq.mpr (S_foliantref05_right_eq t0 w K) h)
end
section
open Go
theorem Ob.len_wts:∀os:List Ob,os.length≤Ob.wts os
|[]=>by simp
|o::os=>by
  have:=Ob.len_wts os;have:1≤o.wt:=by cases o;rw[Ob.wt];omega
  rw[Ob.wts,List.length_cons];omega
namespace Wr
end Wr
end
end Go.Proofs.YtoobidofdpdkbaaGreatDoor























namespace Go.Proofs.YtoobidofdpdkbaaGreatDoor
section
open Eng Go.RowKit
def n3 (vs:List Value):Nat:=(RowKit.intOf (vs.getD 3 undef)).toNat
end
end Go.Proofs.YtoobidofdpdkbaaGreatDoor














namespace Go.Proofs.YtoobidofdpdkbaaGreatDoor
section
open Eng Go.RowKit
theorem draw {w:World}{F:World→Prop}(h:F w.drew):DrawX w F:=⟨h⟩
end
end Go.Proofs.YtoobidofdpdkbaaGreatDoor














namespace Go.Proofs.YtoobidofdpdkbaaGreatDoor
section
open Eng Go.RowKit
theorem kid_at {A:Nat→Prop}{wb:World}{o:Ob}{vk vc:Value}{cs:List Value}(h:ObAt A wb o vk vc cs){i:Nat}(hi:i < o.kids.length) :
  ∃v p,OV A wb v o.kids[i]∧∀W,Kept A wb W→(mIA 24 vc (.int .i64 (i:Int))).run prog W=.ok (.value (.pointer (some p))) W∧(mLoad 26 (.pointer (some p))).run prog W=.ok (.value v) W:=by
 obtain⟨b,off,cap,rfl,_⟩:=sl_open h.kids.1 (by omega);obtain⟨a,hl,hov,hget⟩:=OVs.get _ _ i hi h.all;refine⟨.agg a.toArray,⟨b,off+i*6,none⟩,hov,fun W hk=>⟨?_,?_⟩⟩
 ·have:=run_ia (P:=prog) (T:=24) (b:=b) (off:=off) (cap:=cap) (n:=o.kids.length) (k:=.i64) (i:=(i:Int)) (w:=W) Tryz.underlying24 szOb (by omega) (by omega);rw[Int.toNat_natCast] at this;exact this
 ·obtain⟨b',off',cap',he,hc⟩:=sl_open (h.kept hk).kids.1 (by omega);cases he;refine run_load_at (v:=.agg a.toArray) (AtV.agg aggOb hl fun j v hj=>?_);rw[Nat.add_assoc];exact hc _ _ (hget j v hj)
theorem key_at {A:Nat→Prop}{wb:World}{o:Ob}{vk vc:Value}{cs:List Value}(h:ObAt A wb o vk vc cs){i:Nat}(hi:i < o.keys.length) :
  ∃p,∀W,Kept A wb W→(mIA 23 vk (.int .i64 (i:Int))).run prog W=.ok (.value (.pointer (some p))) W∧(mLoad 9 (.pointer (some p))).run prog W=.ok (.value (.string ⟨o.keys[i].toArray⟩)) W:=by
 obtain⟨b,off,cap,rfl,_⟩:=sl_open h.keys.1 (by omega);refine⟨⟨b,off+i,none⟩,fun W hk=>⟨?_,?_⟩⟩
 ·have:=run_ia (P:=prog) (T:=23) (b:=b) (off:=off) (cap:=cap) (n:=o.keys.length) (k:=.i64) (i:=(i:Int)) (w:=W) Tryz.underlying23 (show _=some 1 by kernel_rfl) (by omega) (by omega);rw[Int.toNat_natCast,Nat.mul_one] at this;exact this
 ·obtain⟨b',off',cap',he,hc⟩:=sl_open (h.kept hk).keys.1 (by omega);cases he;exact run_load_cell nStr5 (hc i _ (strsV_get hi))
section
variable {w:World}{PK:PKT}{K:VWP}{S:Nat→Prop}{w0:World}{L:List Ent}
end
end
end Go.Proofs.YtoobidofdpdkbaaGreatDoor
