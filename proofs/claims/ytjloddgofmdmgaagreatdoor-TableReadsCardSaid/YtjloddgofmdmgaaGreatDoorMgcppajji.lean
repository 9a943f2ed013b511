/- Texts that go together: EngY SSlc SlcA SMake SIdx OcIdx ObC SRef05 FixU FixV FixW FixX SLaw02 FixY EngG ObD EngW ObE ObF SVal ObG ObH ObI MkA SMake5 Plain07 SRef07 SRef04 PlR PlS Plain03D Plain03E Plain04B Plain03F Plain03G Plain17 Plain17B Plain55 SOct LxA SLex LxB LxC. -/
import Derived.Laws.CopyRow
import Derived.Lib.AppendZerosOnto
import Derived.Lib.SliceRun
import Derived.Test.YtjloddgofmdmgaaGreatDoorRows
import Derived.Lib.Overlaps
import Derived.Laws.Externs
import Derived.Laws.RangeAny
import Derived.Sort.Walk0
import Derived.Lib.IndexMore
import Derived.Lib.LastIndexLaws
import Derived.Test.YtjloddgofmdmgaaGreatDoorMbbiofpfn
import Derived.Test.YtjloddgofmdmgaaGreatDoorMhijkokaf
set_option linter.defProp false
set_option linter.unusedSimpArgs false
set_option linter.unusedVariables false
set_option maxRecDepth 20000
open Go.Proofs.Tryz (prog)
namespace Go.Proofs.YtjloddgofmdmgaaGreatDoor
section
namespace Eng
open Go.RowKit
section
variable {S:Nat→Prop}{P:Program}{w w0:World}{L:List Ent}{PK:PKT}{K:VWP}
theorem e_nilS {T E:TypeId}{xo yo:Operand}{a:Option Addr}{n c n' c':Nat}(h:P.underlying T=some (.slice E)):DoX P (mEq .eql T xo yo (.slice a n c) (.slice none n' c')) w PK K=K (.bool a.isNone) w:=by
 refine mv_do ?_;simp[eqGuard,Lib.run_eql_slice_nil w T E a n c n' c' h]
theorem n_nilS {T E:TypeId}{xo yo:Operand}{a:Option Addr}{n c n' c':Nat}(h:P.underlying T=some (.slice E)):DoX P (mEq .neq T xo yo (.slice a n c) (.slice none n' c')) w PK K=K (.bool (!a.isNone)) w:=by
 refine mv_do ?_;have:=Lib.run_equalIn_slice_nil (P:=P) w 9999 T E a n c n' c' h;simp[eqGuard,binOp,Op.equal,Op.maxDepth,this]
def subA (a:Option Addr)(l cap sz:Nat):Option Addr:=if cap=l then a else a.map (·.add (l*sz))
theorem run_sl_l {T E:TypeId}{k:IntKind}{a:Option Addr}{n cap sz:Nat}{lo:Int}(h:P.underlying T=some (.slice E))(hsz:(P.info? E).map (·.size)=some sz)(h0:0≤lo)(h1:lo≤n) :
  (mSlice T (.slice a n cap) (some (.int k lo)) none none).run P w=.ok (.value (.slice (subA a lo.toNat cap sz) (n - lo.toNat) (cap - lo.toNat))) w:=by
 obtain⟨i,hi,h2⟩:=Option.map_eq_some_iff.1 hsz;have he:P.elem T=E:=by simp[Program.elem,h]
 have ht:P.underlying T=some (.slice (P.elem T)):=by rw[he];exact h
 refine mv_run ?_;rw[run_sliceAt_slice w T _ _ _ _ ht,run_slice_l w T a n cap ht k lo h0 h1];simp[sizeOf,typeInfo,he,hi,h2,sliced,subA]
theorem run_sl_h {T E:TypeId}{k:IntKind}{a:Option Addr}{n cap sz:Nat}{hi:Int}(h:P.underlying T=some (.slice E))(hsz:(P.info? E).map (·.size)=some sz)(h0:0≤hi)(h1:hi≤cap) :
  (mSlice T (.slice a n cap) none (some (.int k hi)) none).run P w=.ok (.value (.slice (subA a 0 cap sz) hi.toNat cap)) w:=by
 obtain⟨i,hi',h2⟩:=Option.map_eq_some_iff.1 hsz;have he:P.elem T=E:=by simp[Program.elem,h]
 have ht:P.underlying T=some (.slice (P.elem T)):=by rw[he];exact h
 refine mv_run ?_;rw[run_sliceAt_slice w T _ _ _ _ ht,run_slice_h w T a n cap ht k hi h0 h1];simp[sizeOf,typeInfo,he,hi',h2,sliced,subA]
theorem o_makeN {T E:TypeId}{sz bytes n:Nat}{kl kc:IntKind}(ht:P.underlying T=some (.slice E))(he:elB P E sz bytes=true)(hb:bytes*n≤281474976710656)(hn:n≤281474976710656)(ho:OwnS S w0 w L)
  (k:∀(g:Nat) (w':World) (zs:List Value),zs.length=n*sz→OwnS S w0 w' (.cells g zs E::L)→K (.slice (some ⟨g,0,none⟩) n n) w'):DoX P (mMake T (.int kl (n:Int)) (.int kc (n:Int))) w PK K:=by
 obtain⟨i,z,hi,hz,hi1,hi2,hz1⟩:=elB_spec he;have hb':(i.bytes:Int)*(n:Int)≤281474976710656:=by rw[hi2,←Int.natCast_mul];omega
 have hr:=run_make (P:=P) w T E i z ht hi hz kl kc n n (by omega) (by omega) hb' (by omega);rw[Int.toNat_natCast] at hr;refine do_ok (mv_run hr) (k _ _ (madeCells z.cells (n*i.size)).toList ?_ ?_)
 ·rw[Array.length_toList,size_madeCells,hi1]
 ·have:=ho.alloc (madeCells z.cells (n*i.size)).toList E
  rwa [Array.toArray_toList] at this
theorem sub_get {cs cs':List Value}{off j:Nat}{v:Value}(h:(cs.drop off).take cs'.length=cs')(hj:cs'[j]?=some v):cs[off+j]?=some v:=by
 rw[←h] at hj;rw[List.getElem?_take] at hj;split at hj
 ·rwa [List.getElem?_drop] at hj
 ·cases hj
theorem OwnS.subAgg (ho:OwnS S w0 w L)(i:Nat){b:Nat}{cs:List Value}{E T:TypeId}(hi:L[i]?=some (.cells b cs E))(off:Nat)(cs':List Value)(hcs:(cs.drop off).take cs'.length=cs')(ht:aggN P T=some cs'.length):AtV P w T ⟨b,off,none⟩ (.agg cs'.toArray):=
 AtV.agg ht rfl fun j v hj=>ho.cell i hi (off+j) (sub_get hcs hj)
theorem o_putAt (i:Nat){T:TypeId}{b off:Nat}{cs new:List Value}{E:TypeId}(ho:OwnS S w0 w L)(hi:L[i]?=some (.cells b cs E))(hs:(P.info? T).map (·.size)=some new.length)(hv:∀v∈new,v.oneCell'=true)(hl:off+new.length≤cs.length)
  (k:∀w',OwnS S w0 w' (L.set i (.cells b (cs.take off++new++cs.drop (off+new.length)) E))→K undef w'):DoX P (mStore T (.pointer (some ⟨b,off,none⟩)) (.agg new.toArray)) w PK K:=by
 have hr:=run_store_in (P:=P) (T:=T) (g:=b) (off:=off) (cur:=cs.toArray) (E:=E) (u:=.agg new.toArray) (new:=new) rfl hs hv (ho.at_ i hi) (by simpa using hl);refine do_skip (mu_run hr) (k _ ?_);have e:(cs.toArray.toList.take off++new++cs.toArray.toList.drop (off+new.length)).toArray=(cs.take off++new++cs.drop (off+new.length)).toArray:=by simp
 rw[e];exact setRow_own ho i hi _
theorem mem_urow {M N:Mem}{T:TypeId}{sz:Nat}{v:Value}{n:Nat}{xs:List Value}(hw:N.w=w)(hb:∀b,(Ent.urow T sz v n xs).blk b→N.A b)(h:(Ent.urow T sz v n xs).is w):SlA N.A N.w v sz n xs:=by
 rw[hw];refine⟨Sl.urow h,fun p l c e hn=>hb _ ?_,fun a l c e=>?_⟩
 ·rcases (show w.ownsRow 0 T sz v n xs from h).2 with ⟨rfl,h0⟩|⟨g,cap,cur,rfl,_⟩
  ·cases e
  ·injection e with e1 _ _
   injection e1 with e1
   rw[←e1];rfl
 ·rcases (show w.ownsRow 0 T sz v n xs from h).2 with ⟨rfl,h0⟩|⟨g,cap,cur,rfl,_,_,hnc,_⟩
  ·injection e with _ e2 e3;omega
  ·injection e with _ e2 e3;omega
theorem OwnS.freezeU {M:Mem}{T:TypeId}{sz:Nat}{v:Value}{n:Nat}{xs:List Value}(ho:OwnS S w0 w (.urow T sz v n xs::L))(i:Nat)(hi:L[i]?=some (.mem M)) :
  ∃N:Mem,M.le N∧SlA N.A N.w v sz n xs∧OwnS S w0 w (L.set i (.mem N)):=by
 have h:=ho.at_ 0 rfl;obtain⟨N,h1,h2,h3,h4⟩:=ho.freeze i hi;exact⟨N,h1,mem_urow (M:=M) h2 h3 h,h4⟩
end
end Eng
end
section
open Eng
def S_slices_Clone_string_string (t0:Value)(w:World)(K:Ending→World→Prop):Prop:=
 DoX prog (mEq .eql 24 (.tmp 3) (.const (.slice none 0 0)) t0 (.slice none 0 0)) w (pk K) fun t4 w=>
 IfX t4 (K (.returned (.slice none 0 0)) w) (DoX prog (mBuildS 24 0 #[]) w (pk K) fun t5 w=>
 DoX prog (mB .append #[24,24] 24 #[false,false] #[t5,t0]) w (pk K) fun t7 w=>
 K (.returned t7) w)
theorem S_slices_Clone_string_string_eq (t0:Value)(w:World)(K:Ending→World→Prop):wpX prog 8 [] [] none (bodyOf Tryz.f229) (topQ prog [.tmp 2] K) (startX [t0]) [] w=S_slices_Clone_string_string t0 w K:=by kernel_rfl
theorem S_slices_Clone_string_string_ok {t0:Value}{w:World}{K:Ending→World→Prop}(h:S_slices_Clone_string_string t0 w K):Calls prog 229 #[t0] w K:=
 calls_of_wpX Tryz.func229 rfl rfl rfl rfl (Eq.mpr (S_slices_Clone_string_string_eq t0 w K) h)
end
section
open Eng Go.RowKit
theorem sclone_s_ret (v:Value)(n:Nat)(cs:List Value)(w:World)(hs:Sl w v 1 n cs)(h1:∀u∈cs,u.oneCell'=true)(hb:n≤1000000000000) :
  Ret prog 229 #[v] w (fun v' w'=>Own w w' [.urow 9 1 v' n cs]):=by
 have hs':=hs;obtain⟨hl,a,cap,rfl,hn,hc⟩:=hs;refine ret_of fun K hK=>S_slices_Clone_string_string_ok ?_;unfold S_slices_Clone_string_string;rw[e_nilS Tryz.underlying24];cases a with
|none=>
  obtain rfl:=hn rfl;obtain rfl:cs=[]:=List.eq_nil_of_length_eq_zero (by omega);simp only[Option.isNone_none,i_t];exact hK _ _ ((Own.start w).nilU 9 1)
|some p=>
  simp only[Option.isNone_some,i_f];refine o_new (fun b=>.slice (some ⟨b,0,none⟩) 0 0) [] 9 (fun _=>by kernel_rfl) (Own.start w) fun b w1 ho=>?_;have ho:=ho.toU 1 0 0 (by simp) (by omega) (by omega);refine o_appendU 0 Tryz.underlying24 (show elB prog 9 1 16=true by kernel_rfl) (by decide) ho rfl (ho.oldSl hs') h1 (by omega) (by omega) fun v' w2 ho=>?_;refine hK _ _ ?_;simpa using ho
end
section
open Eng
def S_value_Null (w:World)(K:Ending→World→Prop):Prop:=
 DoX prog (mAlloc 27) w (pk K) fun t0 w=>
 DoX prog (mBuild 27 #[]) w (pk K) fun t1 w=>
 DoX prog (mStore 27 t0 t1) w (pk K) fun _ w=>
 RetX prog [.cell t0 27] w K
theorem S_value_Null_eq (w:World)(K:Ending→World→Prop):wpX prog 2 [] [] none (bodyOf Tryz.f185) (topQ prog [.cell 0 27] K) (startX []) [] w=S_value_Null w K:=by kernel_rfl
theorem S_value_Null_ok {w:World}{K:Ending→World→Prop}(h:S_value_Null w K):Calls prog 185 #[] w K:=
 calls_of_wpX Tryz.func185 rfl rfl rfl rfl (Eq.mpr (S_value_Null_eq w K) h)
def S_value_Int (t0:Value)(w:World)(K:Ending→World→Prop):Prop:=
 DoX prog (mAlloc 27) w (pk K) fun t2 w=>
 DoX prog (mBuild 27 #[(0,(.int .i64 2)),(1,t0)]) w (pk K) fun t4 w=>
 DoX prog (mStore 27 t2 t4) w (pk K) fun _ w=>
 RetX prog [.cell t2 27] w K
theorem S_value_Int_eq (t0:Value)(w:World)(K:Ending→World→Prop):wpX prog 5 [] [] none (bodyOf Tryz.f181) (topQ prog [.cell 2 27] K) (startX [t0]) [] w=S_value_Int t0 w K:=by kernel_rfl
theorem S_value_Int_ok {t0:Value}{w:World}{K:Ending→World→Prop}(h:S_value_Int t0 w K):Calls prog 181 #[t0] w K:=
 calls_of_wpX Tryz.func181 rfl rfl rfl rfl (Eq.mpr (S_value_Int_eq t0 w K) h)
def S_value_Name (t0:Value)(w:World)(K:Ending→World→Prop):Prop:=
 DoX prog (mAlloc 27) w (pk K) fun t2 w=>
 DoX prog (mBuild 27 #[(0,(.int .i64 5)),(3,t0)]) w (pk K) fun t4 w=>
 DoX prog (mStore 27 t2 t4) w (pk K) fun _ w=>
 RetX prog [.cell t2 27] w K
theorem S_value_Name_eq (t0:Value)(w:World)(K:Ending→World→Prop):wpX prog 5 [] [] none (bodyOf Tryz.f184) (topQ prog [.cell 2 27] K) (startX [t0]) [] w=S_value_Name t0 w K:=by kernel_rfl
theorem S_value_Name_ok {t0:Value}{w:World}{K:Ending→World→Prop}(h:S_value_Name t0 w K):Calls prog 184 #[t0] w K:=
 calls_of_wpX Tryz.func184 rfl rfl rfl rfl (Eq.mpr (S_value_Name_eq t0 w K) h)
def S_value_String (t0:Value)(w:World)(K:Ending→World→Prop):Prop:=
 DoX prog (mAlloc 27) w (pk K) fun t2 w=>
 DoX prog (mBuild 27 #[(0,(.int .i64 4)),(3,t0)]) w (pk K) fun t4 w=>
 DoX prog (mStore 27 t2 t4) w (pk K) fun _ w=>
 RetX prog [.cell t2 27] w K
theorem S_value_String_eq (t0:Value)(w:World)(K:Ending→World→Prop):wpX prog 5 [] [] none (bodyOf Tryz.f183) (topQ prog [.cell 2 27] K) (startX [t0]) [] w=S_value_String t0 w K:=by kernel_rfl
theorem S_value_String_ok {t0:Value}{w:World}{K:Ending→World→Prop}(h:S_value_String t0 w K):Calls prog 183 #[t0] w K:=
 calls_of_wpX Tryz.func183 rfl rfl rfl rfl (Eq.mpr (S_value_String_eq t0 w K) h)
def S_value_keyed (t0:Value)(w:World)(K:Ending→World→Prop):Prop:=
 DoX prog (mBox 27 t0) w (pk K) fun t1 w=>
 DoX prog (mFA 27 t1 0) w (pk K) fun t3 w=>
 DoX prog (mLoad 3 t3) w (pk K) fun t4 w=>
 DoX prog (mEq .eql 3 (.tmp 4) (.const (.int .i64 7)) t4 (.int .i64 7)) w (pk K) fun t5 w=>
 GDo t5 false (fun E=>DoX prog (mFA 27 t1 0) w (pk K) E) w fun t7 w=>
 GDo t5 false (fun E=>DoX prog (mLoad 3 t7) w (pk K) E) w fun t8 w=>
 GDo t5 false (fun E=>DoX prog (mEq .eql 3 (.tmp 8) (.const (.int .i64 9)) t8 (.int .i64 9)) w (pk K) E) w fun t9 w=>
 DoX prog (mPick t5 (.bool true) t9) w (pk K) fun t10 w=>
 K (.returned t10) w
theorem S_value_keyed_eq (t0:Value)(w:World)(K:Ending→World→Prop):wpX prog 11 [] [] none (bodyOf Tryz.f119) (topQ prog [.tmp 2] K) (startX [t0]) [] w=S_value_keyed t0 w K:=by kernel_rfl
theorem S_value_keyed_ok {t0:Value}{w:World}{K:Ending→World→Prop}(h:S_value_keyed t0 w K):Calls prog 119 #[t0] w K:=
 calls_of_wpX Tryz.func119 rfl rfl rfl rfl (Eq.mpr (S_value_keyed_eq t0 w K) h)
def S_value_Get (t0 t1:Value)(w:World)(K:Ending→World→Prop):Prop:=
 DoX prog (mBox 27 t0) w (pk K) fun t2 w=>
 DoX prog (mAlloc 27) w (pk K) fun t4 w=>
 DoX prog (mLoad 27 t2) w (pk K) fun t7 w=>
 CallX prog 119 #[t7] w (pk K) fun t8 w=>
 DoX prog (mUn .not t8) w (pk K) fun t9 w=>
 IfX t9 (DoX prog (mBuild 27 #[]) w (pk K) fun t10 w=>
 DoX prog (mStore 27 t4 t10) w (pk K) fun _ w=>
 RetX prog [.cell t4 27,.val (.bool false)] w K) (DoX prog (mFA 27 t2 4) w (pk K) fun t11 w=>
 DoX prog (mLoad 24 t11) w (pk K) fun t12 w=>
 CallX prog 120 #[t12,t1] w (pk K) fun t14 w=>
 DoX prog (mBin .lss 3 t14 (.int .i64 0)) w (pk K) fun t16 w=>
 GDo t16 false (fun E=>E t14 w) w fun t18 w=>
 GDo t16 false (fun E=>DoX prog (mFA 27 t2 5) w (pk K) E) w fun t19 w=>
 GDo t16 false (fun E=>DoX prog (mLoad 25 t19) w (pk K) E) w fun t20 w=>
 GDo t16 false (fun E=>DoX prog (mB .len #[25] 3 #[false] #[t20]) w (pk K) E) w fun t21 w=>
 GDo t16 false (fun E=>DoX prog (mBin .geq 3 t18 t21) w (pk K) E) w fun t22 w=>
 DoX prog (mPick t16 (.bool true) t22) w (pk K) fun t23 w=>
 IfX t23 (DoX prog (mBuild 27 #[]) w (pk K) fun t24 w=>
 DoX prog (mStore 27 t4 t24) w (pk K) fun _ w=>
 RetX prog [.cell t4 27,.val (.bool false)] w K) (DoX prog (mFA 27 t2 5) w (pk K) fun t25 w=>
 DoX prog (mLoad 25 t25) w (pk K) fun t26 w=>
 DoX prog (mIA 25 t26 t14) w (pk K) fun t28 w=>
 DoX prog (mLoad 27 t28) w (pk K) fun t29 w=>
 CallX prog 121 #[t29] w (pk K) fun t30 w=>
 DoX prog (mStore 27 t4 t30) w (pk K) fun _ w=>
 RetX prog [.cell t4 27,.val (.bool true)] w K))
theorem S_value_Get_eq (t0 t1:Value)(w:World)(K:Ending→World→Prop):wpX prog 31 [] [] none (bodyOf Tryz.f69) (topQ prog [.cell 4 27,.tmp 5] K) (startX [t0,t1]) [] w=S_value_Get t0 t1 w K:=by kernel_rfl
theorem S_value_Get_ok {t0 t1:Value}{w:World}{K:Ending→World→Prop}(h:S_value_Get t0 t1 w K):Calls prog 69 #[t0,t1] w K:=
 calls_of_wpX Tryz.func69 rfl rfl rfl rfl (Eq.mpr (S_value_Get_eq t0 t1 w K) h)
def S_value_Clone (t0:Value)(w:World)(K:Ending→World→Prop):Prop:=
 DoX prog (mBox 27 t0) w (pk K) fun t1 w=>
 DoX prog (mAlloc 27) w (pk K) fun t2 w=>
 DoX prog (mLoad 27 t1) w (pk K) fun t3 w=>
 CallX prog 189 #[t3,(.func (.func 190) #[] #[])] w (pk K) fun t4 w=>
 DoX prog (mStore 27 t2 t4) w (pk K) fun _ w=>
 RetX prog [.cell t2 27] w K
theorem S_value_Clone_eq (t0:Value)(w:World)(K:Ending→World→Prop):wpX prog 5 [] [] none (bodyOf Tryz.f121) (topQ prog [.cell 2 27] K) (startX [t0]) [] w=S_value_Clone t0 w K:=by kernel_rfl
theorem S_value_Clone_ok {t0:Value}{w:World}{K:Ending→World→Prop}(h:S_value_Clone t0 w K):Calls prog 121 #[t0] w K:=
 calls_of_wpX Tryz.func121 rfl rfl rfl rfl (Eq.mpr (S_value_Clone_eq t0 w K) h)
def S_value_Clone_1 (t0:Value)(w:World)(K:Ending→World→Prop):Prop:=
 DoX prog (mBox 27 t0) w (pk K) fun t1 w=>
 DoX prog (mAlloc 27) w (pk K) fun t2 w=>
 DoX prog (mLoad 27 t1) w (pk K) fun t3 w=>
 DoX prog (mStore 27 t2 t3) w (pk K) fun _ w=>
 RetX prog [.cell t2 27] w K
theorem S_value_Clone_1_eq (t0:Value)(w:World)(K:Ending→World→Prop):wpX prog 4 [] [] none (bodyOf Tryz.f190) (topQ prog [.cell 2 27] K) (startX [t0]) [] w=S_value_Clone_1 t0 w K:=by kernel_rfl
theorem S_value_Clone_1_ok {t0:Value}{w:World}{K:Ending→World→Prop}(h:S_value_Clone_1 t0 w K):Calls prog 190 #[t0] w K:=
 calls_of_wpX Tryz.func190 rfl rfl rfl rfl (Eq.mpr (S_value_Clone_1_eq t0 w K) h)
def S_value_changed_1 (t2 t4:Value)(w:World)(K:Ending→World→Prop):Prop:=
 DoX prog (mLoad 27 t2) w (pk K) fun t39 w=>
 DoX prog (mStore 27 t4 t39) w (pk K) fun _ w=>
 RetX prog [.cell t4 27] w K
def S_value_changed_0 (t1 t2 t5 t23 t24 t25:Value)(w:World)(J1 N2:List Value→World→Prop)(K:Ending→World→Prop):Prop:=
 DoX prog (mBin .lss 3 t25 t24) w (pk K) fun t26 w=>
 IfX t26 (DoX prog (mIA 25 t23 t25) w (pk K) fun t28 w=>
 DoX prog (mLoad 27 t28) w (pk K) fun t29 w=>
 DoX prog (mAlloc 27) w (pk K) fun t7 w=>
 DoX prog (mStore 27 t7 t29) w (pk K) fun _ w=>
 DoX prog (mLoad 27 t7) w (pk K) fun t32 w=>
 CallX prog 189 #[t32,t1] w (pk K) fun t34 w=>
 DoX prog (mIA 25 t5 t25) w (pk K) fun t35 w=>
 DoX prog (mStore 27 t35 t34) w (pk K) fun _ w=>
 DoX prog (mBin .add 3 t25 (.int .i64 1)) w (pk K) fun t36 w=>
 N2 [t36] w) (DoX prog (mFA 27 t2 5) w (pk K) fun t38 w=>
 DoX prog (mStore 25 t38 t5) w (pk K) fun _ w=>
 J1 [] w)
def S_value_changed (t0 t1:Value)(w:World)(K:Ending→World→Prop):Prop:=
 DoX prog (mBox 27 t0) w (pk K) fun t2 w=>
 DoX prog (mAlloc 27) w (pk K) fun t4 w=>
 DoX prog (mLoad 27 t2) w (pk K) fun t9 w=>
 DoX prog (mCallV t1 #[t9]) w (pk K) fun t10 w=>
 DoX prog (mStore 27 t2 t10) w (pk K) fun _ w=>
 DoX prog (mFA 27 t2 4) w (pk K) fun t11 w=>
 DoX prog (mLoad 24 t11) w (pk K) fun t12 w=>
 CallX prog 229 #[t12] w (pk K) fun t13 w=>
 DoX prog (mFA 27 t2 4) w (pk K) fun t14 w=>
 DoX prog (mStore 24 t14 t13) w (pk K) fun _ w=>
 JoinX (fun J1=>
 DoX prog (mFA 27 t2 5) w (pk K) fun t15 w=>
 DoX prog (mLoad 25 t15) w (pk K) fun t16 w=>
 DoX prog (mEq .neq 25 (.tmp 16) (.const (.slice none 0 0)) t16 (.slice none 0 0)) w (pk K) fun t17 w=>
 IfX t17 (DoX prog (mFA 27 t2 5) w (pk K) fun t18 w=>
 DoX prog (mLoad 25 t18) w (pk K) fun t19 w=>
 DoX prog (mB .len #[25] 3 #[false] #[t19]) w (pk K) fun t20 w=>
 DoX prog (mMake 25 t20 t20) w (pk K) fun t21 w=>
 DoX prog (mFA 27 t2 5) w (pk K) fun t22 w=>
 DoX prog (mLoad 25 t22) w (pk K) fun t23 w=>
 DoX prog (mB .len #[25] 3 #[false] #[t23]) w (pk K) fun t24 w=>
 LoopX [(.int .i64 0)] w (fun vs2 w N2=>∀_:Sg,S_value_changed_0 t1 t2 t21 t23 t24 (vs2.getD 0 undef) w J1 N2 K)) (J1 [] w)) (fun vs1 w=>∀_:Sg,S_value_changed_1 t2 t4 w K)
theorem S_value_changed_eq (t0 t1:Value)(w:World)(K:Ending→World→Prop):wpX prog 40 [(11,[])] [(6,[25])] none (bodyOf Tryz.f189) (topQ prog [.cell 4 27] K) (startX [t0,t1]) [] w=S_value_changed t0 t1 w K:=by kernel_rfl
theorem S_value_changed_ok {t0 t1:Value}{w:World}{K:Ending→World→Prop}(h:S_value_changed t0 t1 w K):Calls prog 189 #[t0,t1] w K:=
 calls_of_wpX Tryz.func189 rfl rfl rfl rfl (Eq.mpr (S_value_changed_eq t0 t1 w K) h)
end
section
open Eng
def S_slices_Index_string_string_0 (t0 t1 t7 t8:Value)(w:World)(N1:List Value→World→Prop)(K:Ending→World→Prop):Prop:=
 DoX prog (mBin .lss 3 t8 t7) w (pk K) fun t9 w=>
 IfX t9 (DoX prog (mIA 24 t0 t8) w (pk K) fun t14 w=>
 DoX prog (mLoad 9 t14) w (pk K) fun t15 w=>
 DoX prog (mEq .eql 9 (.tmp 11) (.tmp 15) t1 t15) w (pk K) fun t16 w=>
 IfX t16 (K (.returned t8) w) (DoX prog (mBin .add 3 t8 (.int .i64 1)) w (pk K) fun t18 w=>
 N1 [t18] w)) (K (.returned (.int .i64 (-1))) w)
def S_slices_Index_string_string (t0 t1:Value)(w:World)(K:Ending→World→Prop):Prop:=
 DoX prog (mB .len #[24] 3 #[false] #[t0]) w (pk K) fun t7 w=>
 LoopX [(.int .i64 0)] w (fun vs1 w N1=>∀_:Sg,S_slices_Index_string_string_0 t0 t1 t7 (vs1.getD 0 undef) w N1 K)
theorem S_slices_Index_string_string_eq (t0 t1:Value)(w:World)(K:Ending→World→Prop):wpX prog 19 [] [(2,[8])] none (bodyOf Tryz.f120) (topQ prog [.tmp 4] K) (startX [t0,t1]) [] w=S_slices_Index_string_string t0 t1 w K:=by kernel_rfl
theorem S_slices_Index_string_string_ok {t0 t1:Value}{w:World}{K:Ending→World→Prop}(h:S_slices_Index_string_string t0 t1 w K):Calls prog 120 #[t0,t1] w K:=
 calls_of_wpX Tryz.func120 rfl rfl rfl rfl (Eq.mpr (S_slices_Index_string_string_eq t0 t1 w K) h)
end
section
open Eng Go.RowKit
theorem nStrI:notAgg prog 9=true:=by kernel_rfl
theorem idx_at {l:List (List UInt8)}{x:List UInt8}{i:Nat}(h:i < l.length)(hn:x ∉ l.take i)(he:l[i]=x):l.idxOf x=i:=by
 have e:l=l.take i++(l[i]::l.drop (i+1)):=by
  rw[←List.drop_eq_getElem_cons h,List.take_append_drop]
 rw[e,List.idxOf_append,if_neg hn,he,List.idxOf_cons_self,List.length_take];omega
theorem sindex_ret (va:Value)(l:List (List UInt8))(x:List UInt8)(w:World)(ha:Sl w va 1 l.length (strsV l))(hl:l.length≤1099511627776) :
  Ret prog 120 #[va,.string ⟨x.toArray⟩] w (fun v w'=>v=.int .i64 (if l.idxOf x < l.length then (l.idxOf x:Int) else -1)∧w=w'):=by
 refine ret_of fun K hK=>S_slices_Index_string_string_ok ?_;unfold S_slices_Index_string_string;rw[sl_len Tryz.underlying24 ha];refine loop (fun vs w'=>∃(i:Nat),vs=[.int .i64 i]∧i≤l.length∧x ∉ l.take i∧w=w') (fun vs _=>l.length - n0 vs) ⟨0,rfl,by omega,by simp,rfl⟩ ?_;rintro vs w2 ⟨i,rfl,hi,hm,rfl⟩ _;simp only[S_slices_Index_string_string_0,gd,rs];by_cases hlt:(i:Int) < (l.length:Int)
 ·have hi':i < l.length:=by omega
  simp only[hlt,decide_true,rs];refine sl_ia1 (.string ⟨(l[i]).toArray⟩) Tryz.underlying24 (by kernel_rfl) ha (by omega) (by rw[Int.toNat_natCast];exact strsV_get hi') fun q hq=>?_;rw[l_cell nStrI hq];simp only[rs];by_cases he:x=l[i]
  ·simp only[←he,decide_true,rs];have:=idx_at hi' hm he.symm;exact hK _ _ ⟨by rw[this,if_pos hi'],rfl⟩
  ·simp only[he,decide_false,rs];rw[wrap64_id (by omega) (by omega)];refine nextX ⟨i+1,rfl,by omega,?_,rfl⟩ (by simp[n0,RowKit.intOf];omega);rw[List.take_add_one,List.getElem?_eq_getElem hi'];simp only[Option.toList,List.mem_append,List.mem_singleton,not_or];exact⟨hm,he⟩
 ·simp only[hlt,decide_false,i_f];rw[List.take_of_length_le (by omega)] at hm;exact hK _ _ ⟨by rw[if_neg (by rw[List.idxOf_lt_length_iff];exact hm)],rfl⟩
end
section
open Eng Go.RowKit
def obC (o:Ob)(vk vc:Value):List Value:=[.int .i64 o.k,.int .i64 o.n,.int .i64 o.g,.string ⟨o.s.toArray⟩,vk,vc]
def obV (o:Ob)(vk vc:Value):Value:=.agg (obC o vk vc).toArray
def obE (b:Nat)(o:Ob)(vk vc:Value):Ent:=.cells b (obC o vk vc) 27
structure ObAt (A:Nat→Prop) (w:World) (o:Ob) (vk vc:Value) (cs:List Value):Prop where
 keys:SlA A w vk 1 o.keys.length (strsV o.keys)
 kids:SlA A w vc 6 o.kids.length cs
 all:OVs A w cs o.kids
theorem OV.open {A:Nat→Prop}{w:World}{v:Value}{o:Ob}(h:OV A w v o):∃vk vc cs,v=obV o vk vc∧ObAt A w o vk vc cs:=by
 cases o with
|mk k n g s keys kids=>
  rw[OV] at h;obtain⟨vk,vc,cs,rfl,h1,h2,h3⟩:=h;exact⟨vk,vc,cs,rfl,h1,h2,h3⟩
theorem ObAt.ov {A:Nat→Prop}{w:World}{o:Ob}{vk vc:Value}{cs:List Value}(h:ObAt A w o vk vc cs):OV A w (obV o vk vc) o:=by
 cases o with
|mk k n g s keys kids=>
  rw[OV];exact⟨vk,vc,cs,rfl,h.keys,h.kids,h.all⟩
theorem ObAt.kept {A:Nat→Prop}{w w':World}{o:Ob}{vk vc:Value}{cs:List Value}(h:ObAt A w o vk vc cs)(hk:Kept A w w'):ObAt A w' o vk vc cs:=
 ⟨h.keys.kept hk,h.kids.kept hk,OVs.kept hk _ _ h.all⟩
theorem kept_below {A:Nat→Prop}{w w':World}(hA:∀b,A b→b < w.heap.size)(h:Below w.heap.size w w'):Kept A w w':=fun b hb=>h.block b (hA b hb)
theorem OwnS.keptIn {w0 w:World}{L:List Ent}(h:Own w0 w L):Kept (InW w0) w0 w:=kept_below (fun _ h=>h) h.done
theorem OV.own {w0 w:World}{L:List Ent}{v:Value}{o:Ob}(h:OV (InW w0) w0 v o)(ho:Own w0 w L):OV (InW w0) w v o:=OV.kept (OwnS.keptIn ho) o v h
theorem OV.at_ {w0 w:World}{L:List Ent}{v:Value}{o:Ob}(h:OV (InW w0) w0 v o)(ho:Own w0 w L):OV (InW w) w v o:=OV.mono (fun _ hb=>Nat.lt_of_lt_of_le hb ho.size) o v (h.own ho)
theorem ObAt.own {w0 w:World}{L:List Ent}{o:Ob}{vk vc:Value}{cs:List Value}(h:ObAt (InW w0) w0 o vk vc cs)(ho:Own w0 w L):ObAt (InW w0) w o vk vc cs:=h.kept (OwnS.keptIn ho)
theorem SlA.one {A:Nat→Prop}{w:World}{v:Value}{sz n:Nat}{cs:List Value}(h:SlA A w v sz n cs):v.oneCell'=true:=by
 obtain⟨⟨_,a,cap,rfl,_⟩,_⟩:=h;rfl
theorem aggOb:aggN prog 27=some 6:=by kernel_rfl
theorem szOb:(Tryz.prog.info? 27).map (·.size)=some 6:=by kernel_rfl
theorem nSlOb:notAgg prog 25=true:=by kernel_rfl
theorem nSlS5:notAgg prog 24=true:=by kernel_rfl
theorem nI65:notAgg prog 2=true:=by kernel_rfl
theorem nInt5:notAgg prog 3=true:=by kernel_rfl
theorem nStr5:notAgg prog 9=true:=by kernel_rfl
theorem fo_o0:fOff prog 27 0=some 0:=by kernel_rfl
theorem fo_o1:fOff prog 27 1=some 1:=by kernel_rfl
theorem fo_o2:fOff prog 27 2=some 2:=by kernel_rfl
theorem fo_o3:fOff prog 27 3=some 3:=by kernel_rfl
theorem fo_o4:fOff prog 27 4=some 4:=by kernel_rfl
theorem fo_o5:fOff prog 27 5=some 5:=by kernel_rfl
section
variable {w:World}{PK:PKT}{K:VWP}{S:Nat→Prop}{w0:World}{L:List Ent}
theorem fa_o0 {b off:Nat}:DoX prog (mFA 27 (.pointer (some ⟨b,off,none⟩)) 0) w PK K=K (.pointer (some ⟨b,off,none⟩)) w:=f_addr fo_o0
theorem fa_o1 {b off:Nat}:DoX prog (mFA 27 (.pointer (some ⟨b,off,none⟩)) 1) w PK K=K (.pointer (some ⟨b,off+1,none⟩)) w:=f_addr fo_o1
theorem fa_o2 {b off:Nat}:DoX prog (mFA 27 (.pointer (some ⟨b,off,none⟩)) 2) w PK K=K (.pointer (some ⟨b,off+2,none⟩)) w:=f_addr fo_o2
theorem fa_o3 {b off:Nat}:DoX prog (mFA 27 (.pointer (some ⟨b,off,none⟩)) 3) w PK K=K (.pointer (some ⟨b,off+3,none⟩)) w:=f_addr fo_o3
theorem fa_o4 {b off:Nat}:DoX prog (mFA 27 (.pointer (some ⟨b,off,none⟩)) 4) w PK K=K (.pointer (some ⟨b,off+4,none⟩)) w:=f_addr fo_o4
theorem fa_o5 {b off:Nat}:DoX prog (mFA 27 (.pointer (some ⟨b,off,none⟩)) 5) w PK K=K (.pointer (some ⟨b,off+5,none⟩)) w:=f_addr fo_o5
theorem o_obb (o:Ob){vk vc:Value}(hk:vk.oneCell'=true)(hc:vc.oneCell'=true)(ho:OwnS S w0 w L)(k:∀b w',OwnS S w0 w' (obE b o vk vc::L)→K (.pointer (some ⟨b,0,none⟩)) w'):DoX prog (mBox 27 (obV o vk vc)) w PK K:=by
 cases vk<;>first|(cases hk;done)|skip
 all_goals cases vc<;>first|(cases hc;done)|exact o_new (fun b=>.pointer (some ⟨b,0,none⟩)) (obC o _ _) 27 (fun _=>by kernel_rfl) ho k
def ob0:Ob:=.mk 0 0 0 [] [] []
theorem o_oba (ho:OwnS S w0 w L)(k:∀b w',OwnS S w0 w' (obE b ob0 (.slice none 0 0) (.slice none 0 0)::L)→K (.pointer (some ⟨b,0,none⟩)) w'):DoX prog (mAlloc 27) w PK K:=
 o_new (fun b=>.pointer (some ⟨b,0,none⟩)) (obC ob0 (.slice none 0 0) (.slice none 0 0)) 27 (fun _=>by kernel_rfl) ho k
theorem obC_one (o:Ob){vk vc:Value}(hk:vk.oneCell'=true)(hc:vc.oneCell'=true):∀v∈obC o vk vc,v.oneCell'=true:=by
 intro v hv;simp only[obC,List.mem_cons,List.not_mem_nil,or_false] at hv;rcases hv with rfl|rfl|rfl|rfl|rfl|rfl<;>first|rfl|assumption
theorem ob_put (i:Nat){b:Nat}{o o':Ob}{vk vc vk' vc':Value}(hk:vk'.oneCell'=true)(hc:vc'.oneCell'=true)(ho:OwnS S w0 w L)(hi:L[i]?=some (obE b o vk vc))(k:∀w',OwnS S w0 w' (L.set i (obE b o' vk' vc'))→K undef w') :
  DoX prog (mStore 27 (.pointer (some ⟨b,0,none⟩)) (obV o' vk' vc')) w PK K:=o_put i ho hi (new:=obC o' vk' vc') szOb (obC_one o' hk hc) rfl k
theorem ob_k (ho:OwnS S w0 w L)(i:Nat){b:Nat}{o:Ob}{vk vc:Value}(hi:L[i]?=some (obE b o vk vc)):DoX prog (mLoad 3 (.pointer (some ⟨b,0,none⟩))) w PK K=K (.int .i64 o.k) w:=l_cell nInt5 (ho.cell i hi 0 rfl)
theorem ob_n (ho:OwnS S w0 w L)(i:Nat){b:Nat}{o:Ob}{vk vc:Value}(hi:L[i]?=some (obE b o vk vc)):DoX prog (mLoad 2 (.pointer (some ⟨b,0+1,none⟩))) w PK K=K (.int .i64 o.n) w:=l_cell nI65 (ho.cell i hi 1 rfl)
theorem ob_g (ho:OwnS S w0 w L)(i:Nat){b:Nat}{o:Ob}{vk vc:Value}(hi:L[i]?=some (obE b o vk vc)):DoX prog (mLoad 3 (.pointer (some ⟨b,0+2,none⟩))) w PK K=K (.int .i64 o.g) w:=l_cell nInt5 (ho.cell i hi 2 rfl)
theorem ob_s (ho:OwnS S w0 w L)(i:Nat){b:Nat}{o:Ob}{vk vc:Value}(hi:L[i]?=some (obE b o vk vc)):DoX prog (mLoad 9 (.pointer (some ⟨b,0+3,none⟩))) w PK K=K (.string ⟨o.s.toArray⟩) w:=l_cell nStr5 (ho.cell i hi 3 rfl)
theorem ob_keys (ho:OwnS S w0 w L)(i:Nat){b:Nat}{o:Ob}{vk vc:Value}(hi:L[i]?=some (obE b o vk vc)):DoX prog (mLoad 24 (.pointer (some ⟨b,0+4,none⟩))) w PK K=K vk w:=l_cell nSlS5 (ho.cell i hi 4 rfl)
theorem ob_kids (ho:OwnS S w0 w L)(i:Nat){b:Nat}{o:Ob}{vk vc:Value}(hi:L[i]?=some (obE b o vk vc)):DoX prog (mLoad 25 (.pointer (some ⟨b,0+5,none⟩))) w PK K=K vc w:=l_cell nSlOb (ho.cell i hi 5 rfl)
theorem ob_v (ho:OwnS S w0 w L)(i:Nat){b:Nat}{o:Ob}{vk vc:Value}(hi:L[i]?=some (obE b o vk vc)):DoX prog (mLoad 27 (.pointer (some ⟨b,0,none⟩))) w PK K=K (obV o vk vc) w:=l_at (ho.agg i hi aggOb)
theorem ob_ia {A:Nat→Prop}{vc:Value}{os:List Ob}{cs:List Value}{K:VWP}{PK2:PKT}(hs:Sl w vc 6 os.length cs)(hall:OVs A w cs os){i:Nat}(hi:i < os.length)
  (k:∀v,OV A w v os[i]→K v w):DoX prog (mIA 25 vc (.int .i64 (i:Int))) w PK fun t w=>DoX prog (mLoad 27 t) w PK2 K:=by
 obtain⟨b,off,cap,rfl,hc⟩:=sl_open hs (by omega);refine do_eq (run_ia Tryz.underlying25 szOb (by omega) (by omega)) |>.mpr ?_;rw[Int.toNat_natCast];obtain⟨a,hl,hov,hget⟩:=OVs.get os cs i hi hall;refine do_eq (run_load_at (v:=.agg a.toArray) (AtV.agg aggOb hl fun j v hj=>?_)) |>.mpr (k _ hov);rw[Nat.add_assoc];exact hc _ _ (hget j v hj)
end
end
section
open Eng
def S_foliantref05_Key (t0:Value)(w:World)(K:Ending→World→Prop):Prop:=
 DoX prog (mAlloc 27) w (pk K) fun t2 w=>
 DoX prog (mBuild 27 #[(0,(.int .i64 5)),(3,t0)]) w (pk K) fun t4 w=>
 DoX prog (mStore 27 t2 t4) w (pk K) fun _ w=>
 RetX prog [.cell t2 27] w K
theorem S_foliantref05_Key_eq (t0:Value)(w:World)(K:Ending→World→Prop):wpX prog 5 [] [] none (bodyOf Tryz.f78) (topQ prog [.cell 2 27] K) (startX [t0]) [] w=S_foliantref05_Key t0 w K:=by kernel_rfl
theorem S_foliantref05_Key_ok {t0:Value}{w:World}{K:Ending→World→Prop}(h:S_foliantref05_Key t0 w K):Calls prog 78 #[t0] w K:=
 calls_of_wpX Tryz.func78 rfl rfl rfl rfl (Eq.mpr (S_foliantref05_Key_eq t0 w K) h)
def S_foliantref05_Text (t0:Value)(w:World)(K:Ending→World→Prop):Prop:=
 DoX prog (mAlloc 27) w (pk K) fun t2 w=>
 DoX prog (mBuild 27 #[(0,(.int .i64 4)),(3,t0)]) w (pk K) fun t4 w=>
 DoX prog (mStore 27 t2 t4) w (pk K) fun _ w=>
 RetX prog [.cell t2 27] w K
theorem S_foliantref05_Text_eq (t0:Value)(w:World)(K:Ending→World→Prop):wpX prog 5 [] [] none (bodyOf Tryz.f77) (topQ prog [.cell 2 27] K) (startX [t0]) [] w=S_foliantref05_Text t0 w K:=by kernel_rfl
theorem S_foliantref05_Text_ok {t0:Value}{w:World}{K:Ending→World→Prop}(h:S_foliantref05_Text t0 w K):Calls prog 77 #[t0] w K:=
 calls_of_wpX Tryz.func77 rfl rfl rfl rfl (Eq.mpr (S_foliantref05_Text_eq t0 w K) h)
def S_foliantref05_Ref (t0 t1:Value)(w:World)(K:Ending→World→Prop):Prop:=
 DoX prog (mAlloc 27) w (pk K) fun t4 w=>
 DoX prog (mBuild 27 #[(0,(.int .i64 8)),(1,t0),(2,t1)]) w (pk K) fun t7 w=>
 DoX prog (mStore 27 t4 t7) w (pk K) fun _ w=>
 RetX prog [.cell t4 27] w K
theorem S_foliantref05_Ref_eq (t0 t1:Value)(w:World)(K:Ending→World→Prop):wpX prog 8 [] [] none (bodyOf Tryz.f74) (topQ prog [.cell 4 27] K) (startX [t0,t1]) [] w=S_foliantref05_Ref t0 t1 w K:=by kernel_rfl
theorem S_foliantref05_Ref_ok {t0 t1:Value}{w:World}{K:Ending→World→Prop}(h:S_foliantref05_Ref t0 t1 w K):Calls prog 74 #[t0,t1] w K:=
 calls_of_wpX Tryz.func74 rfl rfl rfl rfl (Eq.mpr (S_foliantref05_Ref_eq t0 t1 w K) h)
def S_foliantref05_Int (t0:Value)(w:World)(K:Ending→World→Prop):Prop:=
 DoX prog (mAlloc 27) w (pk K) fun t2 w=>
 DoX prog (mBuild 27 #[(0,(.int .i64 2)),(1,t0)]) w (pk K) fun t4 w=>
 DoX prog (mStore 27 t2 t4) w (pk K) fun _ w=>
 RetX prog [.cell t2 27] w K
theorem S_foliantref05_Int_eq (t0:Value)(w:World)(K:Ending→World→Prop):wpX prog 5 [] [] none (bodyOf Tryz.f75) (topQ prog [.cell 2 27] K) (startX [t0]) [] w=S_foliantref05_Int t0 w K:=by kernel_rfl
theorem S_foliantref05_Int_ok {t0:Value}{w:World}{K:Ending→World→Prop}(h:S_foliantref05_Int t0 w K):Calls prog 75 #[t0] w K:=
 calls_of_wpX Tryz.func75 rfl rfl rfl rfl (Eq.mpr (S_foliantref05_Int_eq t0 w K) h)
def S_foliantref05_Real (t0:Value)(w:World)(K:Ending→World→Prop):Prop:=
 DoX prog (mAlloc 27) w (pk K) fun t2 w=>
 DoX prog (mBuild 27 #[(0,(.int .i64 3)),(1,t0)]) w (pk K) fun t4 w=>
 DoX prog (mStore 27 t2 t4) w (pk K) fun _ w=>
 RetX prog [.cell t2 27] w K
theorem S_foliantref05_Real_eq (t0:Value)(w:World)(K:Ending→World→Prop):wpX prog 5 [] [] none (bodyOf Tryz.f76) (topQ prog [.cell 2 27] K) (startX [t0]) [] w=S_foliantref05_Real t0 w K:=by kernel_rfl
theorem S_foliantref05_Real_ok {t0:Value}{w:World}{K:Ending→World→Prop}(h:S_foliantref05_Real t0 w K):Calls prog 76 #[t0] w K:=
 calls_of_wpX Tryz.func76 rfl rfl rfl rfl (Eq.mpr (S_foliantref05_Real_eq t0 w K) h)
def S_foliantref05_Bool (t0:Value)(w:World)(K:Ending→World→Prop):Prop:=
 DoX prog (mAlloc 27) w (pk K) fun t2 w=>
 IfX t0 (DoX prog (mBuild 27 #[(0,(.int .i64 1)),(1,(.int .i64 1))]) w (pk K) fun t4 w=>
 DoX prog (mStore 27 t2 t4) w (pk K) fun _ w=>
 RetX prog [.cell t2 27] w K) (DoX prog (mBuild 27 #[(0,(.int .i64 1))]) w (pk K) fun t5 w=>
 DoX prog (mStore 27 t2 t5) w (pk K) fun _ w=>
 RetX prog [.cell t2 27] w K)
theorem S_foliantref05_Bool_eq (t0:Value)(w:World)(K:Ending→World→Prop):wpX prog 6 [] [] none (bodyOf Tryz.f79) (topQ prog [.cell 2 27] K) (startX [t0]) [] w=S_foliantref05_Bool t0 w K:=by kernel_rfl
theorem S_foliantref05_Bool_ok {t0:Value}{w:World}{K:Ending→World→Prop}(h:S_foliantref05_Bool t0 w K):Calls prog 79 #[t0] w K:=
 calls_of_wpX Tryz.func79 rfl rfl rfl rfl (Eq.mpr (S_foliantref05_Bool_eq t0 w K) h)
end
section
open Eng Go.RowKit
theorem u8i (c:UInt8)(k:Nat)(d:UInt8)(hd:d.toNat=k):((c.toNat:Int)=(k:Int))↔c=d:=by
 rw[←UInt8.toNat_inj,hd];omega
theorem form_ret (s:List UInt8)(w:World)(hs:s.length≤4611686018427387904):Ret prog 230 #[.string ⟨s.toArray⟩] w
  (fun v w'=>(∃(a b:List UInt8) (m:Bool),v=.tuple #[.string ⟨a.toArray⟩,.string ⟨b.toArray⟩,.bool m,.bool (Fx.form s)]∧(Fx.form s=true→a=Fx.whole (Fx.body s)∧b=Fx.part (Fx.body s)∧m=Fx.minus s))∧w=w'):=by
 refine ret_of fun K hK=>S_foliantref02_form_ok ?_;unfold S_foliantref02_form;simp only[s_len Tryz.underlying9,rs];by_cases h40:(40:Int) < (s.length:Int)
 ·simp only[h40,decide_true,rs];have hf:Fx.form s=false:=by rw[Fx.form,decide_eq_false (by omega),Bool.false_and,Bool.false_and,Bool.false_and]
  exact hK _ _ ⟨⟨[],[],false,by rw[hf],by rw[hf];intro h;cases h⟩,rfl⟩
 ·simp only[h40,decide_false,rs];have main:∀(l:List UInt8) (m:Bool),l=Fx.body s→m=Fx.minus s→l.length≤s.length→S_foliantref02_form_0 (.string ⟨l.toArray⟩) (.bool m) w K:=by
   intro l m hl hm hls;unfold S_foliantref02_form_0;have hscan:=Fx.scan_false l [];refine loop (fun vs w'=>∃(a b:List UInt8) (pt:Bool) (k:Nat),vs=[.string ⟨a.toArray⟩,.string ⟨b.toArray⟩,.bool pt,.int .i64 k]∧k≤l.length∧a.length+b.length≤k∧Fx.scan (l.drop k) a b pt=Fx.scan l [] [] false∧w=w')
    (fun vs _=>l.length - (RowKit.intOf (vs.getD 3 undef)).toNat) ⟨[],[],false,0,rfl,by omega,by simp,by simp,rfl⟩ ?_
   rintro vs w' ⟨a,b,pt,k,rfl,hk,hab,hsc,rfl⟩ _;simp only[S_foliantref02_form_1,gd,s_len Tryz.underlying9,rs];by_cases hlt:k < l.length
   ·have hlt':(k:Int) < (l.length:Int):=by omega
    simp only[hlt',decide_true,rs];have hd:l.drop k=l[k]::l.drop (k+1):=(List.getElem_cons_drop hlt).symm;have hg:l[(k:Int).toNat]?=some l[k]:=by rw[Int.toNat_natCast];exact List.getElem?_eq_getElem hlt
    rw[hd] at hsc;generalize l[k]=c at *;have hsl:((l.drop (k:Int).toNat).take (((k:Int)+1).toNat - (k:Int).toNat))=[c]:=by
     rw[Int.toNat_natCast,hd,show ((k:Int)+1).toNat - k=1 by omega];rfl
    refine join fun J hJ=>?_;have next:∀(a' b':List UInt8) (pt':Bool),a'.length+b'.length≤k+1→Fx.scan (l.drop (k+1)) a' b' pt'=Fx.scan l [] [] false→J [.string ⟨a'.toArray⟩,.string ⟨b'.toArray⟩,.bool pt'] w:=by
     intro a' b' pt' h1 h2;refine hJ _ _ fun _=>?_;simp only[S_foliantref02_form_2,gd,rs];rw[wrap64_id (by omega) (by omega)];exact nextX ⟨a',b',pt',k+1,by simp,by omega,h1,h2,rfl⟩ (by simp[RowKit.intOf];omega)
    simp only[s_ix Tryz.underlying9 (show (0:Int)≤(k:Int) by omega) hg,rs];have rest:¬(c=46∧pt=false)→Fx.isDig c=true→IfX (.bool pt) (DoX prog (mSlice 9 (.string ⟨l.toArray⟩) (some (.int .i64 k)) (some (.int .i64 (k+1))) none) w (pk K) fun t61 ww=>
      DoX prog (mBin .add 9 (.string ⟨b.toArray⟩) t61) ww (pk K) fun t62 ww=>
      J [.string ⟨a.toArray⟩,t62,.bool pt] ww) (DoX prog (mSlice 9 (.string ⟨l.toArray⟩) (some (.int .i64 k)) (some (.int .i64 (k+1))) none) w (pk K) fun t68 ww=>
      DoX prog (mBin .add 9 (.string ⟨a.toArray⟩) t68) ww (pk K) fun t69 ww=>
      J [t69,.string ⟨b.toArray⟩,.bool pt] ww):=by
     intro hn hdg;cases pt with
    |true=>
      simp only[rs];rw[s_slice Tryz.underlying9 (by omega) (by omega) (by omega),hsl,s_add (by simp;omega)];refine next a (b++[c]) true (by simp;omega) ?_
      rw[←hsc,Fx.scan,if_pos hdg]
    |false=>
      simp only[rs];rw[s_slice Tryz.underlying9 (by omega) (by omega) (by omega),hsl,s_add (by simp;omega)];refine next (a++[c]) b false (by simp;omega) ?_
      have hc:c≠46:=fun e=>hn ⟨e,rfl⟩;rw[←hsc,Fx.scan,if_neg hc,if_pos hdg]
    have fail:Fx.scan l [] [] false=none→K (.returned (.tuple #[.string ⟨#[]⟩,.string ⟨#[]⟩,.bool false,.bool false])) w:=by
     intro hno;have hf:Fx.form s=false:=by
      rw[hscan] at hno;have hall:((Fx.whole l).all Fx.isDig&&(Fx.part l).all Fx.isDig)=false:=by
       cases hh:((Fx.whole l).all Fx.isDig&&(Fx.part l).all Fx.isDig) with
      |false=>rfl
      |true=>rw[hh] at hno;cases hno
      rw[hl] at hall;rw[Fx.form,Bool.and_assoc (decide _),hall,Bool.and_false,Bool.false_and]
     exact hK _ _ ⟨⟨[],[],false,by rw[hf],by rw[hf];intro h;cases h⟩,rfl⟩
    by_cases hc:c=46
    ·subst hc;simp only[show (((46:UInt8).toNat:Nat):Int)=46 from rfl,decide_true,rs];cases pt with
    |false=>
      simp only[rs];refine next a b true (by omega) ?_
      rw[←hsc,Fx.scan,if_pos rfl]
    |true=>
      simp only[rs,show ((46:Int) < 48) by omega,decide_true];refine fail ?_;rw[←hsc,Fx.scan];rfl
    ·have hc':¬((c.toNat:Int)=46):=fun e=>hc ((u8i c 46 46 rfl).1 e);simp only[hc',decide_false,rs];by_cases hdg:Fx.isDig c=true
     ·have hdb:=Fx.isDig_bd hdg;simp only[show ¬((c.toNat:Int) < 48) by omega,show ¬((57:Int) < (c.toNat:Int)) by omega,decide_false,rs,s_ix Tryz.underlying9 (show (0:Int)≤(k:Int) by omega) hg];rw[wrap64_id (by omega) (by omega)];exact rest (fun e=>hc e.1) hdg
     ·have hnd:Fx.scan l [] [] false=none:=by
       rw[←hsc];cases pt with
      |true=>rw[Fx.scan,if_neg hdg]
      |false=>rw[Fx.scan,if_neg hc,if_neg hdg]
      have hdb:(c.toNat:Int) < 48∨(57:Int) < (c.toNat:Int):=by
       simp[Fx.isDig] at hdg;omega
      by_cases h48:(c.toNat:Int) < 48
      ·simp only[h48,decide_true,rs];exact fail hnd
      ·have h57:(57:Int) < (c.toNat:Int):=by omega
       simp only[h48,h57,decide_true,decide_false,rs,s_ix Tryz.underlying9 (show (0:Int)≤(k:Int) by omega) hg];exact fail hnd
   ·have hlt':¬(k:Int) < (l.length:Int):=by omega
    simp only[hlt',decide_false,rs];rw[wrap64_id (by omega) (by omega)];have hd:l.drop k=[]:=List.drop_eq_nil_of_le (by omega);have he:Fx.scan [] a b pt=some (a,b):=by cases pt<;>rfl
    rw[hd,he,hscan] at hsc;have hall:((Fx.whole l).all Fx.isDig&&(Fx.part l).all Fx.isDig)=true:=by
     cases hh:((Fx.whole l).all Fx.isDig&&(Fx.part l).all Fx.isDig) with
    |true=>rfl
    |false=>rw[hh] at hsc;cases hsc
    rw[if_pos hall] at hsc;simp only[List.nil_append,Option.some.injEq,Prod.mk.injEq] at hsc;obtain⟨rfl,rfl⟩:=hsc;have hf:Fx.form s=decide ((0:Int) < ((Fx.whole l).length:Int)+((Fx.part l).length:Int)):=by
     rw[Fx.form,←hl,Bool.and_assoc (decide _),hall,Bool.and_true,decide_eq_true (show s.length≤40 by omega),Bool.true_and,decide_eq_decide];omega
    exact hK _ _ ⟨⟨_,_,_,by rw[hf],fun _=>⟨by rw[hl],by rw[hl],hm⟩⟩,rfl⟩
  refine join fun J hJ=>?_;cases s with
 |nil=>
   simp only[ne_eq,not_true_eq_false,decide_false,rs,g_un];refine hJ _ _ fun _=>?_;exact main [] false rfl rfl (by simp)
 |cons c t=>
   have hix:(c::t)[(0:Int).toNat]?=some c:=rfl;simp only[ne_eq,reduceCtorEq,not_false_eq_true,decide_true,rs,s_ix Tryz.underlying9 (show (0:Int)≤0 by omega) hix];by_cases h43:c=43
   ·subst h43;simp only[show (((43:UInt8).toNat:Nat):Int)=43 from rfl,show ¬((43:Int)=45) by omega,decide_true,decide_false,rs,s_ix Tryz.underlying9 (show (0:Int)≤0 by omega) hix];rw[s_from Tryz.underlying9 (by omega) (by simp;omega)];exact hJ _ _ fun _=>main t false rfl rfl (by simp)
   ·have h43':¬((c.toNat:Int)=43):=fun e=>h43 ((u8i c 43 43 rfl).1 e);simp only[h43',decide_false,rs];by_cases h45:c=45
    ·subst h45;simp only[show (((45:UInt8).toNat:Nat):Int)=45 from rfl,decide_true,rs,s_ix Tryz.underlying9 (show (0:Int)≤0 by omega) hix];rw[s_from Tryz.underlying9 (by omega) (by simp;omega)];exact hJ _ _ fun _=>main t true rfl rfl (by simp)
    ·have h45':¬((c.toNat:Int)=45):=fun e=>h45 ((u8i c 45 45 rfl).1 e);simp only[h45',decide_false,rs,s_ix Tryz.underlying9 (show (0:Int)≤0 by omega) hix];refine hJ _ _ fun _=>?_;exact main (c::t) false (by rw[Fx.body,if_neg (by simp[h43,h45])]) (by rw[Fx.minus,decide_eq_false h45]) (by simp)
end
section
open Eng Go.RowKit
theorem ans_out {x:Int}(h:1073741824 < x∨x < -1073741824):Fx.ans x=(0,2):=by
 have:Fx.okB x=false:=by simp[Fx.okB];omega
 rw[Fx.ans,this];rfl
theorem form_parts {s:List UInt8}(h:Fx.form s=true):s.length≤40∧(Fx.whole (Fx.body s)).all Fx.isDig=true∧(Fx.part (Fx.body s)).all Fx.isDig=true:=by
 simp only[Fx.form,Bool.and_eq_true,decide_eq_true_eq] at h;exact⟨h.1.1.1,h.1.1.2,h.1.2⟩
theorem read_ref {s:List UInt8}(h:Fx.form s=true):Fx.ans (if Fx.minus s then -(Fx.cap 0 (Fx.whole (Fx.body s)++Fx.four (Fx.part (Fx.body s)))+(if Fx.more ((Fx.part (Fx.body s)).drop 4) (Fx.minus s) then 1 else 0))
  else Fx.cap 0 (Fx.whole (Fx.body s)++Fx.four (Fx.part (Fx.body s)))+(if Fx.more ((Fx.part (Fx.body s)).drop 4) (Fx.minus s) then 1 else 0))=Fx.read s:=by
 obtain⟨_,hw,hp⟩:=form_parts h;have hall:(Fx.whole (Fx.body s)++Fx.four (Fx.part (Fx.body s))).all Fx.isDig=true:=by rw[List.all_append,hw,Fx.four_all hp];rfl
 rw[Fx.read,if_pos h,Fx.mag,Fx.cap_eq _ 0 0 hall (by omega) (by omega),Fx.val_append];have h1:=Fx.val_ge _ 0 hw (by omega);have h2:=Fx.val4 (Fx.four (Fx.part (Fx.body s))) (Fx.val 0 (Fx.whole (Fx.body s))) (Fx.four_length _) (Fx.four_all hp);generalize Fx.val 0 (Fx.whole (Fx.body s))=W at *;generalize Fx.val W (Fx.four (Fx.part (Fx.body s)))=V at *;have hm:∀x:Bool,0≤(if x then (1:Int) else 0)∧(if x then (1:Int) else 0)≤1:=by intro x;cases x<;>simp
 have hm':=hm (Fx.more ((Fx.part (Fx.body s)).drop 4) (Fx.minus s));generalize (if Fx.more ((Fx.part (Fx.body s)).drop 4) (Fx.minus s) then (1:Int) else 0)=e at *;by_cases hW:W>1073741824
 ·rw[if_pos hW];split<;>exact ans_out (by omega)
 ·rw[if_neg hW];by_cases hV:V≤1099511627776
  ·rw[show min V 1099511627776=V by omega]
  ·split
   ·rw[ans_out (x:=-(min V 1099511627776+e)) (by omega),ans_out (by omega)]
   ·rw[ans_out (x:=(min V 1099511627776+e)) (by omega),ans_out (by omega)]
theorem rread_ret (s:List UInt8)(w:World)(hs:s.length≤4611686018427387904):Ret prog 198 #[.string ⟨s.toArray⟩] w (fun v w'=>v=pair (Fx.read s)∧Below w.heap.size w w'):=by
 refine ret_of fun K hK=>S_foliantref02_Read_ok ?_;unfold S_foliantref02_Read;refine c_ret (form_ret s w hs) ?_;rintro v w1 ⟨⟨a,b,m,rfl,hf⟩,rfl⟩;simp only[ex,rs];by_cases ho:Fx.form s=true
 ·obtain⟨rfl,rfl,rfl⟩:=hf ho;obtain⟨h40,hw,hp⟩:=form_parts ho;have hbl:(Fx.body s).length≤s.length:=by
   cases s with
  |nil=>simp[Fx.body]
  |cons c t=>rw[Fx.body];split<;>simp
  have hwl:(Fx.whole (Fx.body s)).length≤(Fx.body s).length:=by
   have:=(List.takeWhile_sublist (fun c=>c != 46) (l:=Fx.body s)).length_le;exact this
  have hpl:(Fx.part (Fx.body s)).length≤(Fx.body s).length:=by
   have:=(List.dropWhile_sublist (fun c=>c != 46) (l:=Fx.body s)).length_le;rw[Fx.part,List.length_drop];omega
  have href:=read_ref ho;rw[ho];simp only[rs];have hall:(Fx.whole (Fx.body s)++Fx.four (Fx.part (Fx.body s))).all Fx.isDig=true:=by rw[List.all_append,hw,Fx.four_all hp];rfl
  rw[s_add (b:=[48,48,48,48]) (by simp;omega),s_upto Tryz.underlying9 (by omega) (by simp;omega)];change DoX _ (mBin .add _ _ (.string ⟨(Fx.four (Fx.part (Fx.body s))).toArray⟩)) _ _ _;rw[s_add (by rw[Fx.four_length];omega)];have hal:(Fx.whole (Fx.body s)++Fx.four (Fx.part (Fx.body s))).length≤44:=by rw[List.length_append,Fx.four_length];omega
  generalize Fx.whole (Fx.body s)++Fx.four (Fx.part (Fx.body s))=all at *;generalize Fx.part (Fx.body s)=part at *;generalize Fx.minus s=neg at *;refine loop (fun vs w'=>∃k:Nat,k≤all.length∧vs=[.int .i64 (Fx.cap 0 (all.take k)),.int .i64 k]∧w=w') (fun vs _=>all.length - n1 vs) ⟨0,by omega,rfl,rfl⟩ ?_;rintro vs w' ⟨k,hk,rfl,rfl⟩ _;simp only[S_foliantref02_Read_0,gd,s_len Tryz.underlying9,rs];have hcb:=Fx.cap_bd (all.take k) (by
   rw[List.all_eq_true] at hall ⊢;exact fun x hx=>hall x (List.mem_of_mem_take hx))
  by_cases hlt:k < all.length
  ·have hlt':(k:Int) < (all.length:Int):=by omega
   have hdg:=Fx.isDig_bd (List.all_eq_true.1 hall all[k] (List.getElem_mem hlt));simp only[hlt',decide_true,rs];rw[s_ix (c:=all[k]) Tryz.underlying9 (by omega) (by rw[Int.toNat_natCast];exact List.getElem?_eq_getElem hlt)];simp only[rs];rw[wrap8_id (by omega) (by omega),c_int (show (Tryz.prog.underlying 5).isSome=true by kernel_rfl) Tryz.underlying2];simp only[rs,m_min];rw[wrap64_id (n:=((all[k].toNat:Nat):Int) - 48) (by omega) (by omega),wrap64_id (n:=10*_) (by omega) (by omega),wrap64_id (by omega) (by omega),wrap64_id (by omega) (by omega)];refine nextX ⟨k+1,by omega,?_,rfl⟩ (by simp[n1,RowKit.intOf];omega);rw[Fx.cap_take 0 all k hlt];rfl
  ·have hlt':¬(k:Int) < (all.length:Int):=by omega
   simp only[hlt',decide_false,rs];rw[List.take_of_length_le (by omega)] at hcb ⊢;generalize Fx.cap 0 all=n at *;refine join fun J0 hJ0=>?_;have afterMore:∀b:Bool,b=Fx.more (part.drop 4) neg→S_foliantref02_Read_3 (.bool neg) (.int .i64 n) (.bool b) w K:=by
    intro b hb;subst hb;rw[S_foliantref02_Read_3];refine join fun J3 hJ3=>?_;have h5:∀m:Int,0≤m→m≤1099511627777→m=n+(if Fx.more (part.drop 4) neg then 1 else 0)→S_foliantref02_Read_4 (.bool neg) (.int .i64 m) w K:=by
     intro m m0 m1 hm;rw[S_foliantref02_Read_4];refine join fun J4 hJ4=>?_;have h6:∀q:Int,q=(if neg then -m else m)→S_foliantref02_Read_5 (.int .i64 q) w K:=by
      intro q hq;rw[S_foliantref02_Read_5];refine c_ret (rwithin_ret q w) ?_;rintro v w4 ⟨rfl,rfl⟩;have hres:Fx.read s=Fx.ans q:=by rw[←href,hq,hm]
      cases hq2:Fx.okB q with
     |true=>
       simp only[rs];refine hK _ _ ⟨?_,Below.refl _ _⟩;rw[hres,Fx.ans,hq2];rfl
     |false=>
       simp only[rs];refine hK _ _ ⟨?_,Below.refl _ _⟩;rw[hres,Fx.ans,hq2];rfl
     cases neg with
    |true=>
      simp only[rs];rw[wrap64_id (by omega) (by omega)];refine hJ4 _ _ fun _=>?_;exact h6 (-m) rfl
    |false=>
      simp only[rs];refine hJ4 _ _ fun _=>?_;exact h6 m rfl
    cases hmo:Fx.more (part.drop 4) neg with
   |true=>
     simp only[rs];rw[wrap64_id (by omega) (by omega)];refine hJ3 _ _ fun _=>?_;exact h5 (n+1) (by omega) (by omega) (by rw[hmo];rfl)
   |false=>
     simp only[rs];refine hJ3 _ _ fun _=>?_;exact h5 n (by omega) (by omega) (by rw[hmo];simp)
   have h1:∀rest:List UInt8,rest=part.drop 4→S_foliantref02_Read_1 (.bool neg) (.int .i64 n) (.string ⟨rest.toArray⟩) w K:=by
    intro rest hr;rw[←hr] at afterMore;have hrl:rest.length≤40:=by rw[hr,List.length_drop];omega
    simp only[S_foliantref02_Read_1,rs];cases rest with
   |nil=>
     simp only[ne_eq,not_true_eq_false,decide_false,rs,g_un];refine join fun J2 hJ2=>?_;refine hJ2 _ _ fun _=>?_;exact afterMore false rfl
   |cons c t=>
     have hix:(c::t)[(0:Int).toNat]?=some c:=rfl;simp only[ne_eq,reduceCtorEq,not_false_eq_true,decide_true,rs,s_ix Tryz.underlying9 (show (0:Int)≤0 by omega) hix];refine join fun J2 hJ2=>?_;by_cases h5:(53:Int)≤(c.toNat:Int)
     ·simp only[h5,decide_true,rs];have h5':decide (53≤c.toNat)=true:=by simp;omega
      cases neg with
     |false=>
       simp only[rs];refine hJ2 _ _ fun _=>?_;exact afterMore true (by rw[Fx.more,h5'];rfl)
     |true=>
       simp only[rs,s_ix Tryz.underlying9 (show (0:Int)≤0 by omega) hix];refine loop (fun vs w'=>∃j:Nat,j≤t.length∧vs=[.bool (decide (53 < c.toNat)||(t.take j).any (fun c=>decide (48 < c.toNat))),.int .i64 ((j:Int)+1)]∧w=w') (fun vs _=>t.length+1 - n1 vs) ⟨0,by omega,by simp;omega,rfl⟩ ?_;rintro vs w' ⟨j,hj,rfl,rfl⟩ _;simp only[S_foliantref02_Read_2,gd,s_len Tryz.underlying9,rs];have hlc:((c::t).length:Int)=(t.length:Int)+1:=by simp
       have hjx:(c::t)[((j:Int)+1).toNat]?=t[j]?:=by rw[show ((j:Int)+1).toNat=j+1 by omega];rfl
       rw[hlc];by_cases hjt:j < t.length
       ·have hjt':(j:Int)+1 < (t.length:Int)+1:=by omega
        have hjx2:(c::t)[((j:Int)+1).toNat]?=some t[j]:=by rw[hjx];exact List.getElem?_eq_getElem hjt
        have htk:(t.take (j+1)).any (fun c=>decide (48 < c.toNat))=((t.take j).any (fun c=>decide (48 < c.toNat))||decide (48 < t[j].toNat)):=by
         rw[List.take_succ_eq_append_getElem hjt,List.any_append];simp
        simp only[hjt',decide_true,rs];cases hb:(decide (53 < c.toNat)||(t.take j).any (fun c=>decide (48 < c.toNat))) with
       |true=>
         simp only[rs,g_un];rw[wrap64_id (by omega) (by omega)];refine nextX ⟨j+1,by omega,?_,rfl⟩ (by simp[n1,RowKit.intOf];omega);rw[htk,←Bool.or_assoc,hb];rfl
       |false=>
         simp only[rs,s_ix Tryz.underlying9 (show (0:Int)≤(j:Int)+1 by omega) hjx2];rw[wrap64_id (by omega) (by omega)];refine nextX ⟨j+1,by omega,?_,rfl⟩ (by simp[n1,RowKit.intOf];omega);rw[htk,←Bool.or_assoc,hb,Bool.false_or];have:decide ((48:Int) < (t[j].toNat:Int))=decide (48 < t[j].toNat):=by rw[decide_eq_decide];omega
         rw[this];simp
       ·have hjt':¬(j:Int)+1 < (t.length:Int)+1:=by omega
        simp only[hjt',decide_false,rs];refine hJ2 _ _ fun _=>?_;refine afterMore _ ?_;rw[Fx.more,h5',List.take_of_length_le (by omega)];rfl
     ·simp only[h5,decide_false,rs,g_un];have h5':decide (53≤c.toNat)=false:=by simp;omega
      refine hJ2 _ _ fun _=>?_;exact afterMore false (by rw[Fx.more,h5'];rfl)
   by_cases h4:(4:Int) < (part.length:Int)
   ·simp only[h4,decide_true,rs];rw[s_from Tryz.underlying9 (by omega) (by omega)];refine hJ0 _ _ fun _=>?_;exact h1 (part.drop 4) rfl
   ·simp only[h4,decide_false,rs];refine hJ0 _ _ fun _=>?_;exact h1 [] (List.drop_eq_nil_of_le (by omega)).symm
 ·have ho':Fx.form s=false:=by simpa using ho
  rw[ho'];simp only[rs];exact hK _ _ ⟨by rw[Fx.read,if_neg ho],Below.refl _ _⟩
end
section
open Eng Go.RowKit
theorem body_prefix (s:List UInt8):Fx.minus s=([45]:List UInt8).isPrefixOf s∧Fx.body s=(if ([45]:List UInt8).isPrefixOf s||([43]:List UInt8).isPrefixOf s then s.drop 1 else s)∧(([45]:List UInt8).isPrefixOf s||([43]:List UInt8).isPrefixOf s→1≤s.length):=by
 cases s with
|nil=>exact⟨rfl,rfl,fun h=>(by cases h)⟩
|cons c t=>
  have e1:([45]:List UInt8).isPrefixOf (c::t)=decide (c=45):=by
   simp only[List.isPrefixOf,Bool.and_true];by_cases h:c=45
   ·subst h;rfl
   ·rw[decide_eq_false h];simp;exact fun e=>h e.symm
  have e2:([43]:List UInt8).isPrefixOf (c::t)=decide (c=43):=by
   simp only[List.isPrefixOf,Bool.and_true];by_cases h:c=43
   ·subst h;rfl
   ·rw[decide_eq_false h];simp;exact fun e=>h e.symm
  rw[e1,e2];refine⟨rfl,?_,fun _=>by simp⟩;rw[Fx.body];by_cases h1:c=45<;>by_cases h2:c=43<;>simp[h1,h2]
theorem iterPos_obj {w0 w:World}{L:List Ent}(h:Own w0 w L)(i:Nat){b:Nat}{s:ByteArray}{p:Nat}(hi:L[i]?=some (.obj b (.stringIter s p))):w.iterPos b=p:=by
 have:w.heap[b]?=some (.stringIter s p):=h.at_ i hi;simp[World.iterPos,this]
theorem read3_any (w0 w:World)(b1 b2:Nat)(m:Int)(neg:Bool)(h0:0≤m)(h1:m≤1152921504606846976)(h:Own w0 w [.cells b2 [.int .i64 0] 30,.cells b1 [.int .i64 m] 2])(K:Ending→World→Prop)
  (hk:∀w',Below w0.heap.size w0 w'→K (.returned (pair (Fx.ans (if neg then -m else m)))) w') :
  S_fix_Read_3 (.pointer (some ⟨b1,0,none⟩)) (.pointer (some ⟨b2,0,none⟩)) (.bool neg) w K:=by
 rw[S_fix_Read_3];refine join fun J hJ=>?_;have fin:∀(q:Int) (w1:World),q=(if neg then -m else m)→Own w0 w1 [.cells b2 [.int .i64 0] 30,.cells b1 [.int .i64 q] 2]→J [] w1:=by
  intro q w1 hq ho;refine hJ _ _ fun _=>?_;rw[S_fix_Read_4,l_cell (show notAgg prog 2=true by kernel_rfl) (ho.cell 1 rfl 0 rfl)];refine o_new (fun b=>.slice (some ⟨b,0,none⟩) 1 1) [.int .i64 q] 2 (fun _=>by kernel_rfl) ho fun b3 w3 h3=>?_;refine c_any (bounded_any _ [q] w3 (h3.sl 0 rfl 1 1 1 rfl) (by simp) _ (fun hok=>?_) (fun hbad=>?_)) (fun _ _ h=>h)
  ·have hok':Fx.okB q=true:=by simpa using hok
   simp only[Cont];rw[l_cell (show notAgg prog 2=true by kernel_rfl) (h3.cell 2 rfl 0 rfl)];refine o_store 2 h3 rfl (by kernel_rfl) rfl (by simp) fun w4 h4=>?_;refine o_store 1 h4 rfl (by kernel_rfl) rfl (by simp) fun w5 h5=>?_;refine door_ok 2 1 h5 rfl rfl K (fun w' hb=>?_);have:=hk w' hb;rw[←hq,Fx.ans,if_pos hok'] at this;exact this
  ·have hbad':Fx.okB q=false:=by simpa using hbad
   refine door_bad h3.tail K (fun w' hb=>?_);have:=hk w' hb;rw[←hq,Fx.ans,hbad'] at this;exact this
 cases neg with
|true=>
  simp only[rs,l_cell (show notAgg prog 2=true by kernel_rfl) (h.cell 1 rfl 0 rfl)];rw[wrap64_id (by omega) (by omega)];refine o_store 1 h rfl (by kernel_rfl) rfl (by simp) fun w4 h4=>?_;exact AtX.mk rfl (fin (-m) w4 rfl h4)
|false=>
  simp only[rs];exact AtX.mk rfl (fin m w rfl h)
theorem pread_ret (s:List UInt8)(w:World)(hs:s.length≤4611686018427387904):Ret prog 168 #[.string ⟨s.toArray⟩] w (fun v w'=>v=pair (Fx.read s)∧Below w.heap.size w w'):=by
 refine ret_of fun K hK=>S_fix_Read_ok ?_;unfold S_fix_Read;refine o_new (fun b=>.pointer (some ⟨b,0,none⟩)) [.int .i64 0] 2 (fun _=>by kernel_rfl) (Own.start w) fun b1 w1 h1=>?_;refine o_new (fun b=>.pointer (some ⟨b,0,none⟩)) [.int .i64 0] 30 (fun _=>by kernel_rfl) h1 fun b2 w2 h2=>?_;simp only[s_len Tryz.underlying9,rs];have bad3:Fx.form s=false→∀w',Below w.heap.size w w'→K (.returned (.tuple #[.int .i64 0,.int .i64 3])) w':=by
  intro hf w' hb;exact hK _ _ ⟨by rw[Fx.read,hf];rfl,hb⟩
 by_cases h40:(40:Int) < (s.length:Int)
 ·simp only[h40,decide_true,rs];refine o_store 1 h2 rfl (by kernel_rfl) rfl (by simp) fun w4 h4=>?_;refine o_store 0 h4 rfl (by kernel_rfl) rfl (by simp) fun w5 h5=>?_;refine door_ok 1 0 h5 rfl rfl K (bad3 ?_);rw[Fx.form,decide_eq_false (by omega),Bool.false_and,Bool.false_and,Bool.false_and]
 ·simp only[h40,decide_false,rs];obtain⟨hmin,hbody,hpos⟩:=body_prefix s;refine c_ret (hasPrefix_ret s [45] w2) ?_;rintro v w3 ⟨rfl,rfl⟩;have hlen:(Fx.body s).length≤s.length:=by
   rw[hbody];split
   ·rw[List.length_drop];omega
   ·omega
  have main:S_fix_Read_0 (.string ⟨(Fx.body s).toArray⟩) (.pointer (some ⟨b1,0,none⟩)) (.pointer (some ⟨b2,0,none⟩)) (.bool (Fx.minus s)) w2 K:=by
   rw[S_fix_Read_0];have hcut:Ret prog 216 #[.string ⟨(Fx.body s).toArray⟩,.string ⟨#[46]⟩] w2 (fun v w'=>(∃b,v=.tuple #[.string ⟨(Fx.whole (Fx.body s)).toArray⟩,.string ⟨(Fx.part (Fx.body s)).toArray⟩,.bool b])∧Below w2.heap.size w2 w'):=cut_ret (Fx.body s) 46 w2 (by omega);refine c_ret hcut ?_;rintro v w3 ⟨⟨fnd,rfl⟩,b3⟩;have hform:Fx.form s=((Fx.whole (Fx.body s)).all Fx.isDig&&(Fx.part (Fx.body s)).all Fx.isDig&&decide (0 < (Fx.whole (Fx.body s)).length+(Fx.part (Fx.body s)).length)):=by
    rw[Fx.form,decide_eq_true (show s.length≤40 by omega),Bool.true_and]
   have hread:Fx.form s=true→Fx.read s=if Fx.val 0 (Fx.whole (Fx.body s))>1073741824 then (0,2) else Fx.ans (if Fx.minus s then - Fx.mag s else Fx.mag s):=fun h=>by rw[Fx.read,if_pos h]
   have hmag:Fx.mag s=Fx.val (Fx.val 0 (Fx.whole (Fx.body s))) (Fx.four (Fx.part (Fx.body s)))+(if Fx.more ((Fx.part (Fx.body s)).drop 4) (Fx.minus s) then 1 else 0):=rfl;have hwl:(Fx.whole (Fx.body s)).length≤(Fx.body s).length:=by
    have:=(List.takeWhile_sublist (fun c=>c != 46) (l:=Fx.body s)).length_le;exact this
   have hpl:(Fx.part (Fx.body s)).length≤(Fx.body s).length:=by
    have:=(List.dropWhile_sublist (fun c=>c != 46) (l:=Fx.body s)).length_le;rw[Fx.part,List.length_drop];omega
   generalize Fx.whole (Fx.body s)=wh at *;generalize Fx.part (Fx.body s)=part at *;simp only[ex];rw[s_add (by omega)];have h3:=h2.grow b3;simp only[rs];have good:Fx.form s=true→∀w4,Own w w4 [.cells b2 [.int .i64 0] 30,.cells b1 [.int .i64 0] 2] →
     DoX prog (mRange 9 (.string ⟨wh.toArray⟩)) w4 (S_fix_Read_p0 (.pointer (some ⟨b1,0,none⟩)) (.pointer (some ⟨b2,0,none⟩)) K) fun t46 ww=>
     LoopX [] ww (fun vs2 w N2=>∀_:Sg,S_fix_Read_1 (.pointer (some ⟨b1,0,none⟩)) (.pointer (some ⟨b2,0,none⟩)) (.bool (Fx.minus s)) (.string ⟨part.toArray⟩) t46 w N2 K):=by
    intro hf w4 h4;have hread2:=hread hf;have hdw:wh.all Fx.isDig=true∧part.all Fx.isDig=true:=by
     rw[hform] at hf;simp only[Bool.and_eq_true] at hf;exact hf.1
    refine o_range Tryz.underlying9 h4 fun b5 w5 h5=>?_;refine loop (fun vs w'=>∃k:Nat,k≤wh.length∧vs=[]∧Fx.val 0 (wh.take k)≤1073741824∧Own w w' [.obj b5 (.stringIter ⟨wh.toArray⟩ k),.cells b2 [.int .i64 0] 30,.cells b1 [.int .i64 (Fx.val 0 (wh.take k))] 2])
     (fun vs w'=>wh.length - w'.iterPos b5) ⟨0,by omega,rfl,by simp[Fx.val],h5⟩ ?_
    rintro vs w6 ⟨k,hk,rfl,hv,ho⟩ _;have hip:=iterPos_obj ho 0 rfl;rw[S_fix_Read_1];have hv0:=Fx.val_ge (wh.take k) 0 (by
     rw[List.all_eq_true];exact fun x hx=>List.all_eq_true.1 hdw.1 x (List.mem_of_mem_take hx)) (by omega)
    by_cases hlt:k < wh.length
    ·have hdg:=Fx.isDig_bd (List.all_eq_true.1 hdw.1 wh[k] (List.getElem_mem hlt));refine o_next 0 ho rfl (List.getElem?_eq_getElem hlt) (by omega) fun w7 h7=>?_;simp only[ex,rs,l_cell (show notAgg prog 2=true by kernel_rfl) (h7.cell 2 rfl 0 rfl)];rw[wrap32_id (by omega) (by omega),c_int (show (Tryz.prog.underlying 21).isSome=true by kernel_rfl) Tryz.underlying2];simp only[rs];rw[wrap64_id (n:=((wh[k].toNat:Nat):Int) - 48) (by omega) (by omega),wrap64_id (n:=10*_) (by omega) (by omega),wrap64_id (by omega) (by omega)];refine o_store 2 h7 rfl (by kernel_rfl) rfl (by simp) fun w8 h8=>?_;rw[l_cell (show notAgg prog 2=true by kernel_rfl) (h8.cell 2 rfl 0 rfl)];simp only[rs];have hvt:=Fx.val_take 0 wh k hlt;by_cases hbig:(1073741824:Int) < 10*Fx.val 0 (wh.take k)+((wh[k].toNat:Int) - 48)
     ·simp only[hbig,decide_true,rs];refine o_store 2 h8 rfl (by kernel_rfl) rfl (by simp) fun w9 h9=>?_;refine o_store 1 h9 rfl (by kernel_rfl) rfl (by simp) fun wa ha=>?_;refine door_ok 2 1 ha rfl rfl K (fun w' hb=>hK _ _ ⟨?_,hb⟩);have hge:=Fx.val_ge (wh.drop (k+1)) (Fx.val 0 (wh.take (k+1))) (by
       rw[List.all_eq_true];exact fun x hx=>List.all_eq_true.1 hdw.1 x (List.mem_of_mem_drop hx)) (by omega)
      rw[←Fx.val_append,List.take_append_drop] at hge;rw[hread2,if_pos (by omega)]
     ·simp only[hbig,decide_false,rs];refine AtX.mk rfl (nextX ⟨k+1,by omega,rfl,by omega,?_⟩ ?_)
      ·rw[hvt];exact h8
      ·show wh.length - w8.iterPos b5 < wh.length - w6.iterPos b5;rw[hip,iterPos_obj h8 0 rfl];omega
    ·rw[o_next_end 0 ho rfl (by omega)];simp only[ex,rs];have hke:wh.take k=wh:=List.take_of_length_le (by omega);rw[hke] at ho hv hv0;rw[s_add (b:=[48,48,48,48,48]) (by simp;omega),s_upto Tryz.underlying9 (by omega) (by simp;omega)];rw[show (4:Int).toNat=4 from rfl,Fx.four_five];rw[if_neg (by omega)] at hread2;have h4d:=Fx.four_all hdw.2;have h4l:=Fx.four_length part;have hval4:=Fx.val4 (Fx.four part) (Fx.val 0 wh) h4l h4d;refine o_range Tryz.underlying9 (ho.tail) fun b7 w7 h7=>?_;generalize Fx.val 0 wh=V at *;generalize hfr:Fx.four part=fr at *;refine loop (fun vs w'=>∃k:Nat,k≤fr.length∧vs=[]∧Own w w' [.obj b7 (.stringIter ⟨fr.toArray⟩ k),.cells b2 [.int .i64 0] 30,.cells b1 [.int .i64 (Fx.val V (fr.take k))] 2])
      (fun vs w'=>fr.length - w'.iterPos b7) ⟨0,by omega,rfl,h7⟩ ?_
     rintro vs w8 ⟨j,hj,rfl,ho2⟩ _;have hip2:=iterPos_obj ho2 0 rfl;rw[S_fix_Read_2];by_cases hjt:j < fr.length
     ·have hdg:=Fx.isDig_bd (List.all_eq_true.1 h4d fr[j] (List.getElem_mem hjt));have hvj0:=Fx.val_ge (fr.take j) V (by
       rw[List.all_eq_true];exact fun x hx=>List.all_eq_true.1 h4d x (List.mem_of_mem_take hx)) hv0
      have hvj1:=Fx.val_ge (fr.drop j) (Fx.val V (fr.take j)) (by
       rw[List.all_eq_true];exact fun x hx=>List.all_eq_true.1 h4d x (List.mem_of_mem_drop hx)) (by omega)
      rw[←Fx.val_append,List.take_append_drop] at hvj1;refine o_next 0 ho2 rfl (List.getElem?_eq_getElem hjt) (by omega) fun w9 h9=>?_;simp only[ex,rs,l_cell (show notAgg prog 2=true by kernel_rfl) (h9.cell 2 rfl 0 rfl)];rw[wrap32_id (by omega) (by omega),c_int (show (Tryz.prog.underlying 21).isSome=true by kernel_rfl) Tryz.underlying2];simp only[rs];rw[wrap64_id (n:=((fr[j].toNat:Nat):Int) - 48) (by omega) (by omega),wrap64_id (n:=10*_) (by omega) (by omega),wrap64_id (by omega) (by omega)];refine o_store 2 h9 rfl (by kernel_rfl) rfl (by simp) fun wa ha=>?_;refine AtX.mk rfl (nextX ⟨j+1,by omega,rfl,?_⟩ ?_)
      ·rw[Fx.val_take V fr j hjt];exact ha
      ·show fr.length - wa.iterPos b7 < fr.length - w8.iterPos b7;rw[hip2,iterPos_obj ha 0 rfl];omega
     ·rw[o_next_end 0 ho2 rfl (by omega)];simp only[ex,rs];have hje:fr.take j=fr:=List.take_of_length_le (by omega);rw[hje] at ho2;rw[s_from Tryz.underlying9 (by omega) (by simp;omega),show (4:Int).toNat=4 from rfl];have htr:Ret prog 218 #[.string ⟨((part++[48,48,48,48,48]).drop 4).toArray⟩,.string ⟨#[48]⟩] w8 (fun v w'=>v=.string ⟨(Fx.tr (part.drop 4)).toArray⟩∧w8=w'):=by
       rw[←Fx.tr_drop];exact trimRight_ret _ 48 (by decide) w8 (by rw[List.length_drop];simp;omega)
      refine c_ret htr ?_;rintro v w9 ⟨rfl,rfl⟩;have hmr:=Fx.more_tr (part.drop 4) (Fx.minus s) (by
       rw[List.all_eq_true];exact fun x hx=>List.all_eq_true.1 hdw.2 x (List.mem_of_mem_drop hx))
      generalize Fx.tr (part.drop 4)=r at *;generalize Fx.more (part.drop 4) (Fx.minus s)=more at *;refine join fun J hJ=>?_;have fin:∀(m:Int) (wb:World),m=Fx.mag s→Own w wb [.obj b7 (.stringIter ⟨fr.toArray⟩ j),.cells b2 [.int .i64 0] 30,.cells b1 [.int .i64 m] 2]→J [] wb:=by
       intro m wb hm hob;refine hJ _ _ fun _=>?_;have hm01:m=Fx.val V fr∨m=Fx.val V fr+1:=by
        rw[hm,hmag];cases more<;>simp
       refine read3_any w wb b1 b2 m (Fx.minus s) (by omega) (by omega) hob.tail K (fun w' hb=>hK _ _ ⟨?_,hb⟩);rw[hread2,hm]
      have wayT:more=true→DoX prog (mLoad 2 (.pointer (some ⟨b1,0,none⟩))) w8 (S_fix_Read_p0 (.pointer (some ⟨b1,0,none⟩)) (.pointer (some ⟨b2,0,none⟩)) K) fun t88 ww=>
        DoX prog (mBin .add 2 t88 (.int .i64 1)) ww (S_fix_Read_p0 (.pointer (some ⟨b1,0,none⟩)) (.pointer (some ⟨b2,0,none⟩)) K) fun t89 ww=>
        DoX prog (mStore 2 (.pointer (some ⟨b1,0,none⟩)) t89) ww (S_fix_Read_p0 (.pointer (some ⟨b1,0,none⟩)) (.pointer (some ⟨b2,0,none⟩)) K) fun _ ww=>
        AtX [{ target:=.fn (.func 215) #[],args:=#[.pointer (some ⟨b1,0,none⟩),.pointer (some ⟨b2,0,none⟩)] }] [{ target:=.fn (.func 215) #[],args:=#[.pointer (some ⟨b1,0,none⟩),.pointer (some ⟨b2,0,none⟩)] }] (J [] ww):=by
       intro hmo;rw[l_cell (show notAgg prog 2=true by kernel_rfl) (ho2.cell 2 rfl 0 rfl)];simp only[rs];rw[wrap64_id (by omega) (by omega)];refine o_store 2 ho2 rfl (by kernel_rfl) rfl (by simp) fun wb hb=>?_;exact AtX.mk rfl (fin (Fx.val V fr+1) wb (by rw[hmag,hmo];rfl) hb)
      have wayF:more=false→J [] w8:=by
       intro hmo;exact fin (Fx.val V fr) w8 (by rw[hmag,hmo];simp) ho2
      cases hn:Fx.minus s with
     |true=>
       rw[hn] at hmr;simp only[if_true] at hmr;simp only[rs];rw[←hmr];cases more with
      |true=>simp only[rs,g_un];exact wayT rfl
      |false=>simp only[rs,g_un];exact AtX.mk rfl (wayF rfl)
     |false=>
       rw[hn] at hmr;simp only[Bool.false_eq_true,if_false] at hmr;simp only[rs];rw[←hmr];cases more with
      |true=>simp only[rs,g_un];exact wayT rfl
      |false=>simp only[rs,g_un];exact AtX.mk rfl (wayF rfl)
   have bad:Fx.form s=false→∀w4,Own w w4 [.cells b2 [.int .i64 0] 30,.cells b1 [.int .i64 0] 2] →
     DoX prog (mStore 2 (.pointer (some ⟨b1,0,none⟩)) (.int .i64 0)) w4 (S_fix_Read_p0 (.pointer (some ⟨b1,0,none⟩)) (.pointer (some ⟨b2,0,none⟩)) K) fun _ ww=>
     DoX prog (mStore 30 (.pointer (some ⟨b2,0,none⟩)) (.int .i64 3)) ww (S_fix_Read_p0 (.pointer (some ⟨b1,0,none⟩)) (.pointer (some ⟨b2,0,none⟩)) K) fun _ ww=>
     Leave prog [.cell (.pointer (some ⟨b1,0,none⟩)) 2,.cell (.pointer (some ⟨b2,0,none⟩)) 30] K [{ target:=.fn (.func 215) #[],args:=#[.pointer (some ⟨b1,0,none⟩),.pointer (some ⟨b2,0,none⟩)] }] .returning ww:=by
    intro hf w4 h4;refine o_store 1 h4 rfl (by kernel_rfl) rfl (by simp) fun w5 h5=>?_;refine o_store 0 h5 rfl (by kernel_rfl) rfl (by simp) fun w6 h6=>?_;exact door_ok 1 0 h6 rfl rfl K (bad3 hf)
   by_cases hemp:wh++part=[]
   ·simp only[e_str,hemp,decide_true,rs,g_un];refine bad ?_ _ h3;rw[hform];have:wh=[]∧part=[]:=by simpa using hemp
    rw[this.1,this.2];rfl
   ·simp only[e_str,hemp,decide_false,rs,g_un];have hne:0 < wh.length+part.length:=by
     rw[←List.length_append];exact List.length_pos_iff.2 hemp
    refine c_ret (pdigits_ret wh w3 (by omega)) ?_;rintro v w4 ⟨rfl,b4⟩;have h4:=h3.grow b4;cases hd1:wh.all Fx.isDig with
   |false=>
     simp only[rs,g_un];refine bad ?_ _ h4;rw[hform,hd1];rfl
   |true=>
     simp only[rs,g_un];refine c_ret (pdigits_ret part w4 (by omega)) ?_;rintro v w5 ⟨rfl,b5⟩;have h5:=h4.grow b5;cases hd2:part.all Fx.isDig with
    |false=>
      simp only[rs,g_un];refine bad ?_ _ h5;rw[hform,hd1,hd2];rfl
    |true=>
      simp only[rs,g_un];refine good ?_ _ h5;rw[hform,hd1,hd2,decide_eq_true hne];rfl
  refine join fun J hJ=>?_;have goJ:∀l:List UInt8,l=Fx.body s→J [.string ⟨l.toArray⟩] w2:=by
   intro l hl;refine hJ _ _ fun _=>?_;rw[hl,←hmin];exact main
  cases hm45:([45]:List UInt8).isPrefixOf s with
 |true=>
   rw[hm45,Bool.true_or,if_pos rfl] at hbody;simp only[rs,g_un];rw[s_from Tryz.underlying9 (by omega) (by have:=hpos (by rw[hm45];rfl);omega)];exact AtX.mk rfl (goJ (s.drop 1) hbody.symm)
 |false=>
   simp only[rs];refine c_ret (hasPrefix_ret s [43] w2) ?_;rintro v w4 ⟨rfl,rfl⟩;rw[hm45,Bool.false_or] at hbody;cases hm43:([43]:List UInt8).isPrefixOf s with
  |true=>
    rw[hm43,if_pos rfl] at hbody;simp only[rs];rw[s_from Tryz.underlying9 (by omega) (by have:=hpos (by rw[hm43,Bool.or_true]);omega)];exact AtX.mk rfl (goJ (s.drop 1) hbody.symm)
  |false=>
    rw[hm43] at hbody;simp only[rs];exact AtX.mk rfl (goJ s (by rw[hbody];simp))
end
end Go.Proofs.YtjloddgofmdmgaaGreatDoor


namespace Go.Proofs.YtjloddgofmdmgaaGreatDoor
section
open Eng Go.RowKit
theorem c_told {P:Program}{f:Nat}{args:Array Value}{w0 w:World}{L:List Ent}{PK:PKT}{K:VWP}{x y:Value}(h:Ret P f args w (fun v w'=>v=x∧Below w.heap.size w w'))(hx:x=y)(ho:Own w0 w L)
  (k:∀w',Own w0 w' L→K y w'):CallX P f args w PK K:=by
 refine c_ret h ?_;rintro v w' ⟨rfl,hb⟩;rw[hx];exact k _ (ho.grow hb)
end
section
namespace Eng
open Go.RowKit
def sel (c:Bool)(x:Value):Value:=bc c x undef
theorem sel_t {x:Value}:sel true x=x:=rfl
theorem sel_f {x:Value}:sel false x=undef:=rfl
section
variable {P:Program}{w:World}{PK:PKT}{K:VWP}
theorem g_move {v x:Value}{want:Bool}:GDo v want (fun E=>E x w) w K=K (sel (wants v want) x) w:=by
 refine propext ⟨fun h=>?_,fun h=>⟨?_⟩⟩
 ·have:=h.out;cases hw:wants v want<;>rw[hw] at this<;>exact this
 ·cases hw:wants v want<;>rw[hw] at h<;>exact h
theorem g_congr {v v':Value}{want c:Bool}{E E':(VWP)→Prop}(hv:v=v')(hc:wants v' want=c)(h:c=true→∀K0,E K0=E' K0):GDo v want E w K=GDo v' want E' w K:=by
 subst hv;refine propext ⟨fun x=>⟨?_⟩,fun x=>⟨?_⟩⟩
 ·have:=x.out;subst hc;cases hw:wants v want with
 |false=>rw[hw] at this;exact this
 |true=>rw[hw,bc_true] at this;rw[bc_true,←h hw];exact this
 ·have:=x.out;subst hc;cases hw:wants v want with
 |false=>rw[hw] at this;exact this
 |true=>rw[hw,bc_true] at this;rw[bc_true,h hw];exact this
theorem wants_t {b:Bool}:wants (.bool b) true=b:=by cases b<;>rfl
theorem wants_f {b:Bool}:wants (.bool b) false=!b:=by cases b<;>rfl
theorem wants_st {c y:Bool}:wants (sel c (.bool y)) true=(c&&y):=by cases c<;>cases y<;>rfl
theorem wants_sf {c y:Bool}:wants (sel c (.bool y)) false=(c&&!y):=by cases c<;>cases y<;>rfl
theorem b_tand {b:Bool}:(true&&b)=b:=rfl
theorem b_andt {b:Bool}:(b&&true)=b:=by cases b<;>rfl
theorem pick_and {b y:Bool}:DoX P (mPick (.bool b) (sel b (.bool y)) (.bool false)) w PK K=K (.bool (b&&y)) w:=by
 rw[p_pick];cases b<;>rfl
theorem pick_or {b y:Bool}:DoX P (mPick (.bool b) (.bool true) (sel (!b) (.bool y))) w PK K=K (.bool (b||y)) w:=by
 rw[p_pick];cases b<;>rfl
end
def gs:=And.intro @g_move (And.intro @wants_t (And.intro @wants_f (And.intro @pick_and (And.intro @pick_or (And.intro @sel_t (And.intro @sel_f (And.intro @wants_st (And.intro @wants_sf (And.intro @b_tand @b_andt)))))))))
end Eng
end
section
open Eng Go.RowKit
 attribute [local congr] g_congr
theorem e_nil {T:TypeId}{xo yo:Operand}{s:List UInt8}{w:World}{PK:PKT}{K:VWP}:DoX prog (mEq .eql T xo yo (.string ⟨s.toArray⟩) (.string ⟨#[]⟩)) w PK K=K (.bool (decide (s=[]))) w:=e_str (b:=[])
theorem ilen0 {α:Type}(l:List α):decide (((l.length:Nat):Int)=0)=decide (l=[]):=by cases l<;>simp;omega
theorem ilenN {α:Type}(l:List α):decide (((l.length:Nat):Int)=0)=decide (l.length=0):=by rw[decide_eq_decide];omega
end
section
namespace Eng
open Go.RowKit
theorem sel_sel {c:Bool}{x:Value}:sel c (sel c x)=sel c x:=by cases c<;>rfl
theorem g_off {v:Value}{want:Bool}{E:(VWP)→Prop}{w:World}{K:VWP}(h:wants v want=false):GDo v want E w K=K undef w:=by
 refine propext ⟨fun x=>?_,fun x=>⟨?_⟩⟩
 ·have:=x.out;rw[h] at this;exact this
 ·rw[h];exact x
theorem less_ge:∀a b:List UInt8,(Op.bytesLess a b||a==b)=!(Op.bytesLess b a):=by
 intro a b;rw[bytesLess_eq,bytesLess_eq,Bool.eq_iff_iff];simp only[Bool.or_eq_true,decide_eq_true_eq,beq_iff_eq,Bool.not_eq_true',decide_eq_false_iff_not];constructor
 ·rintro (h|rfl)
  ·exact fun h'=>List.lt_asymm h h'
  ·exact List.lt_irrefl _
 ·intro h;by_cases h1:a < b
  ·exact .inl h1
  ·exact .inr (List.le_antisymm (List.not_lt.1 h) (List.not_lt.1 h1))
theorem pick_orn {P:Program}{b y:Bool}{w:World}{PK:PKT}{K:VWP}:DoX P (mPick (.bool (!b)) (.bool true) (sel b (.bool y))) w PK K=K (.bool (!b||y)) w:=by
 rw[p_pick];cases b<;>rfl
end Eng
end
section
open Eng Go.RowKit
 attribute [local congr] g_congr
theorem ObAt.in_ {w0 w:World}{L:List Ent}{o:Ob}{vk vc:Value}{cs:List Value}(h:ObAt (InW w0) w0 o vk vc cs)(ho:Own w0 w L):ObAt (InW w) w o vk vc cs:=by
 have hk:=h.own ho;exact⟨⟨hk.keys.1,(fun p l c e hn=>Nat.lt_of_lt_of_le (hk.keys.2.1 p l c e hn) ho.size),hk.keys.2.2⟩,⟨hk.kids.1,(fun p l c e hn=>Nat.lt_of_lt_of_le (hk.kids.2.1 p l c e hn) ho.size),hk.kids.2.2⟩,OVs.mono (fun _ hb=>Nat.lt_of_lt_of_le hb ho.size) _ _ hk.all⟩
theorem range_all_succ {p:Nat→Bool}(n:Nat):(List.range (n+1)).all p=((List.range n).all p&&p n):=by
 rw[List.range_succ,List.all_append];simp
theorem range_all_not {p:Nat→Bool}{n m:Nat}(hp:p n=false)(hn:n < m):(List.range m).all p=false:=by
 rw[←Bool.not_eq_true];intro h;have:=List.all_eq_true.1 h n (List.mem_range.2 hn);rw[hp] at this;cases this
theorem run_kid_k {A:Nat→Prop}{w:World}{vc:Value}{os:List Ob}{cs:List Value}(hs:Sl w vc 6 os.length cs)(hall:OVs A w cs os){i:Nat}(hi:i < os.length) :
  ∃b off,(∀{PK:PKT} {K:VWP},DoX prog (mIA 25 vc (.int .i64 (i:Int))) w PK K=K (.pointer (some ⟨b,off,none⟩)) w)∧w.cell? ⟨b,off,none⟩=some (.int .i64 os[i].k):=by
 obtain⟨b,off,cap,rfl,hc⟩:=sl_open hs (by omega);obtain⟨a,hl,hov,hget⟩:=OVs.get os cs i hi hall;refine⟨b,off+i*6,?_,?_⟩
 ·intro PK K;have:=run_ia (P:=prog) (T:=25) (b:=b) (off:=off) (cap:=cap) (n:=os.length) (k:=.i64) (i:=(i:Int)) (w:=w) Tryz.underlying25 szOb (by omega) (by omega);rw[Int.toNat_natCast] at this;exact do_eq this
 ·obtain⟨vk,vc',cs',hv,_⟩:=hov.open;have e:a=obC os[i] vk vc':=by
   injection hv with hv
   have:=congrArg Array.toList hv;simpa using this
  have:=hc (i*6+0) _ (hget 0 (.int .i64 os[i].k) (by rw[e];rfl));simpa using this
end
section
open Eng Go.RowKit
 attribute [local congr] g_congr
theorem OwnS.kept2 {w0 w2 w4:World}{L2 L4:List Ent}(h2:Own w0 w2 L2)(h4:Own w0 w4 L4):Kept (InW w0) w2 w4:=fun b hb=>(h4.done.block b hb).trans (h2.done.block b hb).symm
theorem ObAt.later {w0 w2 w4:World}{L2 L4:List Ent}{o:Ob}{vk vc:Value}{cs:List Value}(h:ObAt (InW w0) w2 o vk vc cs)(h2:Own w0 w2 L2)(h4:Own w0 w4 L4):ObAt (InW w4) w4 o vk vc cs:=by
 have hk:=h.kept (OwnS.kept2 h2 h4);exact⟨⟨hk.keys.1,(fun p l c e hn=>Nat.lt_of_lt_of_le (hk.keys.2.1 p l c e hn) h4.size),hk.keys.2.2⟩,⟨hk.kids.1,(fun p l c e hn=>Nat.lt_of_lt_of_le (hk.kids.2.1 p l c e hn) h4.size),hk.kids.2.2⟩,OVs.mono (fun _ hb=>Nat.lt_of_lt_of_le hb h4.size) _ _ hk.all⟩
theorem wts_mem:∀{l:List Ob} {o:Ob},o∈l→o.wt≤Ob.wts l
|a::l,o,h=>by
  rw[Ob.wts];rcases List.mem_cons.1 h with rfl|h
  ·omega
  ·have:=wts_mem h;omega
theorem Ob.wt_eq (o:Ob):o.wt=6+o.s.length+Pl.tot o.keys+Ob.wts o.kids:=by cases o;rw[Ob.wt];rfl
theorem Ob.wt_pos (o:Ob):6≤o.wt:=by rw[o.wt_eq];omega
theorem kid_wt {o:Ob}{i:Nat}(hi:i < o.kids.length):o.kids[i].wt < o.wt:=by
 have:=wts_mem (List.getElem_mem hi);rw[o.wt_eq];omega
theorem checks_drop (d:Nat)(l:List Ob)(i:Nat)(hi:i < l.length):Vl.checks d (l.drop i)=if Vl.check d l[i]≠0 then Vl.check d l[i] else Vl.checks d (l.drop (i+1)):=by
 rw[List.drop_eq_getElem_cons hi,Vl.checks]
theorem key_len {o:Ob}:o.keys.length≤o.wt:=by
 have h:∀l:List (List UInt8),l.length≤Pl.tot l:=by
  intro l
  induction l with
 |nil=>simp
 |cons a l ih=>simp only[Pl.tot,List.map_cons,List.sum_cons,List.length_cons] at ih ⊢;omega
 have:=h o.keys;rw[o.wt_eq];omega
theorem why_pos {d:Nat}{o:Ob}(h:Vl.why d o≠0):Vl.check d o=Vl.why d o:=by rw[Vl.check_eq,if_pos h]
end
section
open Eng
def S_value_within_int64 (t0 t1 t2:Value)(w:World)(K:Ending→World→Prop):Prop:=
 DoX prog (mBin .leq 2 t1 t0) w (pk K) fun t9 w=>
 GDo t9 true (fun E=>E t0 w) w fun t11 w=>
 GDo t9 true (fun E=>E t2 w) w fun t12 w=>
 GDo t9 true (fun E=>DoX prog (mBin .leq 2 t11 t12) w (pk K) E) w fun t13 w=>
 DoX prog (mPick t9 t13 (.bool false)) w (pk K) fun t14 w=>
 K (.returned t14) w
theorem S_value_within_int64_eq (t0 t1 t2:Value)(w:World)(K:Ending→World→Prop):wpX prog 15 [] [] none (bodyOf Tryz.f199) (topQ prog [.tmp 6] K) (startX [t0,t1,t2]) [] w=S_value_within_int64 t0 t1 t2 w K:=by kernel_rfl
theorem S_value_within_int64_ok {t0 t1 t2:Value}{w:World}{K:Ending→World→Prop}(h:S_value_within_int64 t0 t1 t2 w K):Calls prog 199 #[t0,t1,t2] w K:=
 calls_of_wpX Tryz.func199 rfl rfl rfl rfl (Eq.mpr (S_value_within_int64_eq t0 t1 t2 w K) h)
def S_value_within_int (t0 t1 t2:Value)(w:World)(K:Ending→World→Prop):Prop:=
 DoX prog (mBin .leq 3 t1 t0) w (pk K) fun t9 w=>
 GDo t9 true (fun E=>E t0 w) w fun t11 w=>
 GDo t9 true (fun E=>E t2 w) w fun t12 w=>
 GDo t9 true (fun E=>DoX prog (mBin .leq 3 t11 t12) w (pk K) E) w fun t13 w=>
 DoX prog (mPick t9 t13 (.bool false)) w (pk K) fun t14 w=>
 K (.returned t14) w
theorem S_value_within_int_eq (t0 t1 t2:Value)(w:World)(K:Ending→World→Prop):wpX prog 15 [] [] none (bodyOf Tryz.f200) (topQ prog [.tmp 6] K) (startX [t0,t1,t2]) [] w=S_value_within_int t0 t1 t2 w K:=by kernel_rfl
theorem S_value_within_int_ok {t0 t1 t2:Value}{w:World}{K:Ending→World→Prop}(h:S_value_within_int t0 t1 t2 w K):Calls prog 200 #[t0,t1,t2] w K:=
 calls_of_wpX Tryz.func200 rfl rfl rfl rfl (Eq.mpr (S_value_within_int_eq t0 t1 t2 w K) h)
def S_value_key (t0:Value)(w:World)(K:Ending→World→Prop):Prop:=
 DoX prog (mB .len #[9] 3 #[false] #[t0]) w (pk K) fun t4 w=>
 DoX prog (mBin .leq 3 t4 (.int .i64 127)) w (pk K) fun t5 w=>
 GDo t5 true (fun E=>E t0 w) w fun t7 w=>
 GDo t5 true (fun E=>CallX prog 141 #[t7,(.int .u8 0)] w (pk K) E) w fun t8 w=>
 GDo t5 true (fun E=>DoX prog (mBin .lss 3 t8 (.int .i64 0)) w (pk K) E) w fun t9 w=>
 DoX prog (mPick t5 t9 (.bool false)) w (pk K) fun t10 w=>
 K (.returned t10) w
theorem S_value_key_eq (t0:Value)(w:World)(K:Ending→World→Prop):wpX prog 11 [] [] none (bodyOf Tryz.f135) (topQ prog [.tmp 2] K) (startX [t0]) [] w=S_value_key t0 w K:=by kernel_rfl
theorem S_value_key_ok {t0:Value}{w:World}{K:Ending→World→Prop}(h:S_value_key t0 w K):Calls prog 135 #[t0] w K:=
 calls_of_wpX Tryz.func135 rfl rfl rfl rfl (Eq.mpr (S_value_key_eq t0 w K) h)
def S_value_rising_0 (t1 t13 t14 t15:Value)(w:World)(N1:List Value→World→Prop)(K:Ending→World→Prop):Prop:=
 DoX prog (mBin .lss 3 t15 t14) w (pk K) fun t16 w=>
 IfX t16 (DoX prog (mIA 24 t13 t15) w (pk K) fun t18 w=>
 DoX prog (mLoad 9 t18) w (pk K) fun t19 w=>
 CallX prog 135 #[t19] w (pk K) fun t21 w=>
 DoX prog (mUn .not t21) w (pk K) fun t22 w=>
 GDo t22 false (fun E=>E t15 w) w fun t24 w=>
 GDo t22 false (fun E=>DoX prog (mBin .gtr 3 t24 (.int .i64 0)) w (pk K) E) w fun t25 w=>
 GDo t22 false (fun E=>E t25 w) w fun t26 w=>
 GDo t26 true (fun E=>DoX prog (mFA 27 t1 4) w (pk K) E) w fun t27 w=>
 GDo t26 true (fun E=>DoX prog (mLoad 24 t27) w (pk K) E) w fun t28 w=>
 GDo t26 true (fun E=>E t15 w) w fun t29 w=>
 GDo t26 true (fun E=>DoX prog (mBin .sub 3 t29 (.int .i64 1)) w (pk K) E) w fun t30 w=>
 GDo t26 true (fun E=>DoX prog (mIA 24 t28 t30) w (pk K) E) w fun t31 w=>
 GDo t26 true (fun E=>DoX prog (mLoad 9 t31) w (pk K) E) w fun t32 w=>
 GDo t26 true (fun E=>E t19 w) w fun t33 w=>
 GDo t26 true (fun E=>DoX prog (mBin .geq 9 t32 t33) w (pk K) E) w fun t34 w=>
 GDo t22 false (fun E=>DoX prog (mPick t26 t34 (.bool false)) w (pk K) E) w fun t35 w=>
 DoX prog (mPick t22 (.bool true) t35) w (pk K) fun t36 w=>
 GDo t36 false (fun E=>DoX prog (mFA 27 t1 0) w (pk K) E) w fun t38 w=>
 GDo t36 false (fun E=>DoX prog (mLoad 3 t38) w (pk K) E) w fun t39 w=>
 GDo t36 false (fun E=>DoX prog (mEq .eql 3 (.tmp 39) (.const (.int .i64 9)) t39 (.int .i64 9)) w (pk K) E) w fun t40 w=>
 GDo t36 false (fun E=>E t40 w) w fun t41 w=>
 GDo t41 true (fun E=>E t19 w) w fun t42 w=>
 GDo t41 true (fun E=>DoX prog (mEq .eql 9 (.tmp 42) (.const (.string ⟨#[76,101,110,103,116,104]⟩)) t42 (.string ⟨#[76,101,110,103,116,104]⟩)) w (pk K) E) w fun t43 w=>
 GDo t36 false (fun E=>DoX prog (mPick t41 t43 (.bool false)) w (pk K) E) w fun t44 w=>
 DoX prog (mPick t36 (.bool true) t44) w (pk K) fun t45 w=>
 GDo t45 false (fun E=>DoX prog (mFA 27 t1 5) w (pk K) E) w fun t47 w=>
 GDo t45 false (fun E=>DoX prog (mLoad 25 t47) w (pk K) E) w fun t48 w=>
 GDo t45 false (fun E=>E t15 w) w fun t49 w=>
 GDo t45 false (fun E=>DoX prog (mIA 25 t48 t49) w (pk K) E) w fun t50 w=>
 GDo t45 false (fun E=>DoX prog (mFA 27 t50 0) w (pk K) E) w fun t51 w=>
 GDo t45 false (fun E=>DoX prog (mLoad 3 t51) w (pk K) E) w fun t52 w=>
 GDo t45 false (fun E=>DoX prog (mEq .eql 3 (.tmp 52) (.const (.int .i64 0)) t52 (.int .i64 0)) w (pk K) E) w fun t53 w=>
 DoX prog (mPick t45 (.bool true) t53) w (pk K) fun t54 w=>
 IfX t54 (K (.returned (.bool false)) w) (DoX prog (mBin .add 3 t15 (.int .i64 1)) w (pk K) fun t55 w=>
 N1 [t55] w)) (K (.returned (.bool true)) w)
def S_value_rising (t0:Value)(w:World)(K:Ending→World→Prop):Prop:=
 DoX prog (mBox 27 t0) w (pk K) fun t1 w=>
 DoX prog (mFA 27 t1 4) w (pk K) fun t5 w=>
 DoX prog (mLoad 24 t5) w (pk K) fun t6 w=>
 DoX prog (mB .len #[24] 3 #[false] #[t6]) w (pk K) fun t7 w=>
 DoX prog (mFA 27 t1 5) w (pk K) fun t8 w=>
 DoX prog (mLoad 25 t8) w (pk K) fun t9 w=>
 DoX prog (mB .len #[25] 3 #[false] #[t9]) w (pk K) fun t10 w=>
 DoX prog (mEq .neq 3 (.tmp 7) (.tmp 10) t7 t10) w (pk K) fun t11 w=>
 IfX t11 (K (.returned (.bool false)) w) (DoX prog (mFA 27 t1 4) w (pk K) fun t12 w=>
 DoX prog (mLoad 24 t12) w (pk K) fun t13 w=>
 DoX prog (mB .len #[24] 3 #[false] #[t13]) w (pk K) fun t14 w=>
 LoopX [(.int .i64 0)] w (fun vs1 w N1=>∀_:Sg,S_value_rising_0 t1 t13 t14 (vs1.getD 0 undef) w N1 K))
theorem S_value_rising_eq (t0:Value)(w:World)(K:Ending→World→Prop):wpX prog 56 [] [(4,[15])] none (bodyOf Tryz.f136) (topQ prog [.tmp 2] K) (startX [t0]) [] w=S_value_rising t0 w K:=by kernel_rfl
theorem S_value_rising_ok {t0:Value}{w:World}{K:Ending→World→Prop}(h:S_value_rising t0 w K):Calls prog 136 #[t0] w K:=
 calls_of_wpX Tryz.func136 rfl rfl rfl rfl (Eq.mpr (S_value_rising_eq t0 w K) h)
def S_value_fits (t0:Value)(w:World)(K:Ending→World→Prop):Prop:=
 DoX prog (mBox 27 t0) w (pk K) fun t1 w=>
 DoX prog (mFA 27 t1 0) w (pk K) fun t3 w=>
 DoX prog (mLoad 3 t3) w (pk K) fun t4 w=>
 DoX prog (mEq .eql 3 (.tmp 4) (.const (.int .i64 1)) t4 (.int .i64 1)) w (pk K) fun t6 w=>
 IfX t6 (DoX prog (mFA 27 t1 1) w (pk K) fun t7 w=>
 DoX prog (mLoad 2 t7) w (pk K) fun t8 w=>
 CallX prog 199 #[t8,(.int .i64 0),(.int .i64 1)] w (pk K) fun t9 w=>
 K (.returned t9) w) (DoX prog (mEq .eql 3 (.tmp 4) (.const (.int .i64 2)) t4 (.int .i64 2)) w (pk K) fun t11 w=>
 IfX t11 (DoX prog (mFA 27 t1 1) w (pk K) fun t12 w=>
 DoX prog (mLoad 2 t12) w (pk K) fun t13 w=>
 CallX prog 199 #[t13,(.int .i64 (-2147483647)),(.int .i64 2147483647)] w (pk K) fun t14 w=>
 K (.returned t14) w) (DoX prog (mEq .eql 3 (.tmp 4) (.const (.int .i64 3)) t4 (.int .i64 3)) w (pk K) fun t16 w=>
 IfX t16 (DoX prog (mFA 27 t1 1) w (pk K) fun t17 w=>
 DoX prog (mLoad 2 t17) w (pk K) fun t18 w=>
 CallX prog 199 #[t18,(.int .i64 (-1073741824)),(.int .i64 1073741824)] w (pk K) fun t19 w=>
 K (.returned t19) w) (DoX prog (mEq .eql 3 (.tmp 4) (.const (.int .i64 8)) t4 (.int .i64 8)) w (pk K) fun t21 w=>
 IfX t21 (DoX prog (mFA 27 t1 1) w (pk K) fun t22 w=>
 DoX prog (mLoad 2 t22) w (pk K) fun t23 w=>
 CallX prog 199 #[t23,(.int .i64 1),(.int .i64 8191)] w (pk K) fun t24 w=>
 GDo t24 true (fun E=>DoX prog (mFA 27 t1 2) w (pk K) E) w fun t26 w=>
 GDo t24 true (fun E=>DoX prog (mLoad 3 t26) w (pk K) E) w fun t27 w=>
 GDo t24 true (fun E=>CallX prog 200 #[t27,(.int .i64 0),(.int .i64 65535)] w (pk K) E) w fun t28 w=>
 DoX prog (mPick t24 t28 (.bool false)) w (pk K) fun t29 w=>
 K (.returned t29) w) (K (.returned (.bool true)) w))))
theorem S_value_fits_eq (t0:Value)(w:World)(K:Ending→World→Prop):wpX prog 30 [] [] none (bodyOf Tryz.f133) (topQ prog [.tmp 2] K) (startX [t0]) [] w=S_value_fits t0 w K:=by kernel_rfl
theorem S_value_fits_ok {t0:Value}{w:World}{K:Ending→World→Prop}(h:S_value_fits t0 w K):Calls prog 133 #[t0] w K:=
 calls_of_wpX Tryz.func133 rfl rfl rfl rfl (Eq.mpr (S_value_fits_eq t0 w K) h)
def S_value_short (t0:Value)(w:World)(K:Ending→World→Prop):Prop:=
 DoX prog (mBox 27 t0) w (pk K) fun t1 w=>
 DoX prog (mFA 27 t1 0) w (pk K) fun t3 w=>
 DoX prog (mLoad 3 t3) w (pk K) fun t4 w=>
 DoX prog (mEq .eql 3 (.tmp 4) (.const (.int .i64 4)) t4 (.int .i64 4)) w (pk K) fun t6 w=>
 IfX t6 (DoX prog (mFA 27 t1 3) w (pk K) fun t7 w=>
 DoX prog (mLoad 9 t7) w (pk K) fun t8 w=>
 DoX prog (mB .len #[9] 3 #[false] #[t8]) w (pk K) fun t9 w=>
 DoX prog (mBin .leq 3 t9 (.int .i64 32767)) w (pk K) fun t10 w=>
 K (.returned t10) w) (DoX prog (mEq .eql 3 (.tmp 4) (.const (.int .i64 5)) t4 (.int .i64 5)) w (pk K) fun t12 w=>
 IfX t12 (DoX prog (mFA 27 t1 3) w (pk K) fun t13 w=>
 DoX prog (mLoad 9 t13) w (pk K) fun t14 w=>
 DoX prog (mB .len #[9] 3 #[false] #[t14]) w (pk K) fun t15 w=>
 DoX prog (mBin .leq 3 t15 (.int .i64 127)) w (pk K) fun t16 w=>
 K (.returned t16) w) (DoX prog (mFA 27 t1 3) w (pk K) fun t17 w=>
 DoX prog (mLoad 9 t17) w (pk K) fun t18 w=>
 DoX prog (mB .len #[9] 3 #[false] #[t18]) w (pk K) fun t19 w=>
 DoX prog (mBin .leq 3 t19 (.int .i64 1048576)) w (pk K) fun t20 w=>
 K (.returned t20) w))
theorem S_value_short_eq (t0:Value)(w:World)(K:Ending→World→Prop):wpX prog 21 [] [] none (bodyOf Tryz.f134) (topQ prog [.tmp 2] K) (startX [t0]) [] w=S_value_short t0 w K:=by kernel_rfl
theorem S_value_short_ok {t0:Value}{w:World}{K:Ending→World→Prop}(h:S_value_short t0 w K):Calls prog 134 #[t0] w K:=
 calls_of_wpX Tryz.func134 rfl rfl rfl rfl (Eq.mpr (S_value_short_eq t0 w K) h)
def S_value_used_1 (t2 t4 t13:Value)(w:World)(K:Ending→World→Prop):Prop:=
 IfX t13 (DoX prog (mBuild 165 #[(2,(.bool true))]) w (pk K) fun t16 w=>
 DoX prog (mStore 165 t2 t16) w (pk K) fun _ w=>
 RetX prog [.cell t2 165,.val (.bool true)] w K) (DoX prog (mEq .eql 3 (.tmp 4) (.const (.int .i64 6)) t4 (.int .i64 6)) w (pk K) fun t18 w=>
 IfX t18 (DoX prog (mBuild 165 #[(4,(.bool true))]) w (pk K) fun t19 w=>
 DoX prog (mStore 165 t2 t19) w (pk K) fun _ w=>
 RetX prog [.cell t2 165,.val (.bool true)] w K) (DoX prog (mEq .eql 3 (.tmp 4) (.const (.int .i64 7)) t4 (.int .i64 7)) w (pk K) fun t21 w=>
 IfX t21 (DoX prog (mBuild 165 #[(3,(.bool true)),(4,(.bool true))]) w (pk K) fun t22 w=>
 DoX prog (mStore 165 t2 t22) w (pk K) fun _ w=>
 RetX prog [.cell t2 165,.val (.bool true)] w K) (DoX prog (mEq .eql 3 (.tmp 4) (.const (.int .i64 8)) t4 (.int .i64 8)) w (pk K) fun t24 w=>
 IfX t24 (DoX prog (mBuild 165 #[(0,(.bool true)),(1,(.bool true))]) w (pk K) fun t25 w=>
 DoX prog (mStore 165 t2 t25) w (pk K) fun _ w=>
 RetX prog [.cell t2 165,.val (.bool true)] w K) (DoX prog (mEq .eql 3 (.tmp 4) (.const (.int .i64 9)) t4 (.int .i64 9)) w (pk K) fun t27 w=>
 IfX t27 (DoX prog (mBuild 165 #[(2,(.bool true)),(3,(.bool true)),(4,(.bool true))]) w (pk K) fun t28 w=>
 DoX prog (mStore 165 t2 t28) w (pk K) fun _ w=>
 RetX prog [.cell t2 165,.val (.bool true)] w K) (DoX prog (mBuild 165 #[]) w (pk K) fun t29 w=>
 DoX prog (mStore 165 t2 t29) w (pk K) fun _ w=>
 RetX prog [.cell t2 165,.val (.bool false)] w K)))))
def S_value_used_0 (t2 t4 t8:Value)(w:World)(K:Ending→World→Prop):Prop:=
 IfX t8 (DoX prog (mBuild 165 #[(0,(.bool true))]) w (pk K) fun t12 w=>
 DoX prog (mStore 165 t2 t12) w (pk K) fun _ w=>
 RetX prog [.cell t2 165,.val (.bool true)] w K) (JoinX (fun J2=>
 DoX prog (mEq .eql 3 (.tmp 4) (.const (.int .i64 4)) t4 (.int .i64 4)) w (pk K) fun t14 w=>
 IfX t14 (J2 [t14] w) (DoX prog (mEq .eql 3 (.tmp 4) (.const (.int .i64 5)) t4 (.int .i64 5)) w (pk K) fun t15 w=>
 J2 [t15] w)) (fun vs2 w=>∀_:Sg,S_value_used_1 t2 t4 (vs2.getD 0 undef) w K))
def S_value_used (t0:Value)(w:World)(K:Ending→World→Prop):Prop:=
 DoX prog (mAlloc 165) w (pk K) fun t2 w=>
 DoX prog (mEq .eql 3 (.tmp 4) (.const (.int .i64 0)) t0 (.int .i64 0)) w (pk K) fun t6 w=>
 IfX t6 (DoX prog (mBuild 165 #[]) w (pk K) fun t7 w=>
 DoX prog (mStore 165 t2 t7) w (pk K) fun _ w=>
 RetX prog [.cell t2 165,.val (.bool true)] w K) (JoinX (fun J1=>
 DoX prog (mEq .eql 3 (.tmp 4) (.const (.int .i64 1)) t0 (.int .i64 1)) w (pk K) fun t9 w=>
 IfX t9 (J1 [t9] w) (DoX prog (mEq .eql 3 (.tmp 4) (.const (.int .i64 2)) t0 (.int .i64 2)) w (pk K) fun t10 w=>
 IfX t10 (J1 [t10] w) (DoX prog (mEq .eql 3 (.tmp 4) (.const (.int .i64 3)) t0 (.int .i64 3)) w (pk K) fun t11 w=>
 J1 [t11] w))) (fun vs1 w=>∀_:Sg,S_value_used_0 t2 t0 (vs1.getD 0 undef) w K))
theorem S_value_used_eq (t0:Value)(w:World)(K:Ending→World→Prop):wpX prog 30 [(7,[8]),(10,[13])] [] none (bodyOf Tryz.f132) (topQ prog [.cell 2 165,.tmp 3] K) (startX [t0]) [] w=S_value_used t0 w K:=by kernel_rfl
theorem S_value_used_ok {t0:Value}{w:World}{K:Ending→World→Prop}(h:S_value_used t0 w K):Calls prog 132 #[t0] w K:=
 calls_of_wpX Tryz.func132 rfl rfl rfl rfl (Eq.mpr (S_value_used_eq t0 w K) h)
def S_value_must (t0 t1:Value)(w:World)(K:Ending→World→Prop):Prop:=
 DoX prog (mUn .not t0) w (pk K) fun t5 w=>
 IfX t5 (DoX prog (mBuild 162 #[(0,t1)]) w (pk K) fun t7 w=>
 DoX prog (mIface 162 t7) w (pk K) fun t8 w=>
 DoX prog (mPanic t8) w (pk K) fun _ w=>
 K (.returned (.tuple #[])) w) (K (.returned (.tuple #[])) w)
theorem S_value_must_eq (t0 t1:Value)(w:World)(K:Ending→World→Prop):wpX prog 9 [] [] none (bodyOf Tryz.f131) (topQ prog [] K) (startX [t0,t1]) [] w=S_value_must t0 t1 w K:=by kernel_rfl
theorem S_value_must_ok {t0 t1:Value}{w:World}{K:Ending→World→Prop}(h:S_value_must t0 t1 w K):Calls prog 131 #[t0,t1] w K:=
 calls_of_wpX Tryz.func131 rfl rfl rfl rfl (Eq.mpr (S_value_must_eq t0 t1 w K) h)
def S_value_check_0 (t1 t105 t106 t107:Value)(w:World)(N1:List Value→World→Prop)(K:Ending→World→Prop):Prop:=
 DoX prog (mBin .lss 3 t107 t106) w (pk K) fun t108 w=>
 IfX t108 (DoX prog (mIA 25 t105 t107) w (pk K) fun t109 w=>
 DoX prog (mLoad 27 t109) w (pk K) fun t110 w=>
 DoX prog (mAlloc 27) w (pk K) fun t7 w=>
 DoX prog (mStore 27 t7 t110) w (pk K) fun _ w=>
 DoX prog (mLoad 27 t7) w (pk K) fun t111 w=>
 DoX prog (mBin .add 3 t1 (.int .i64 1)) w (pk K) fun t113 w=>
 CallX prog 84 #[t111,t113] w (pk K) fun t114 w=>
 DoX prog (mBin .add 3 t107 (.int .i64 1)) w (pk K) fun t115 w=>
 N1 [t115] w) (K (.returned (.tuple #[])) w)
def S_value_check (t0 t1:Value)(w:World)(K:Ending→World→Prop):Prop:=
 DoX prog (mBox 27 t0) w (pk K) fun t2 w=>
 DoX prog (mBin .leq 3 t1 (.int .i64 24)) w (pk K) fun t9 w=>
 CallX prog 131 #[t9,(.int .i64 7)] w (pk K) fun t10 w=>
 DoX prog (mFA 27 t2 0) w (pk K) fun t12 w=>
 DoX prog (mLoad 3 t12) w (pk K) fun t13 w=>
 CallX prog 132 #[t13] w (pk K) fun t14 w=>
 DoX prog (mExt t14 0) w (pk K) fun t15 w=>
 DoX prog (mExt t14 1) w (pk K) fun t16 w=>
 DoX prog (mAlloc 165) w (pk K) fun t4 w=>
 DoX prog (mStore 165 t4 t15) w (pk K) fun _ w=>
 GDo t16 true (fun E=>DoX prog (mFA 165 t4 0) w (pk K) E) w fun t19 w=>
 GDo t16 true (fun E=>DoX prog (mLoad 4 t19) w (pk K) E) w fun t20 w=>
 GDo t16 true (fun E=>E t20 w) w fun t21 w=>
 GDo t21 false (fun E=>DoX prog (mFA 27 t2 1) w (pk K) E) w fun t22 w=>
 GDo t21 false (fun E=>DoX prog (mLoad 2 t22) w (pk K) E) w fun t23 w=>
 GDo t21 false (fun E=>DoX prog (mEq .eql 2 (.tmp 23) (.const (.int .i64 0)) t23 (.int .i64 0)) w (pk K) E) w fun t24 w=>
 GDo t16 true (fun E=>DoX prog (mPick t21 (.bool true) t24) w (pk K) E) w fun t25 w=>
 DoX prog (mPick t16 t25 (.bool false)) w (pk K) fun t26 w=>
 GDo t26 true (fun E=>DoX prog (mFA 165 t4 1) w (pk K) E) w fun t28 w=>
 GDo t26 true (fun E=>DoX prog (mLoad 4 t28) w (pk K) E) w fun t29 w=>
 GDo t26 true (fun E=>E t29 w) w fun t30 w=>
 GDo t30 false (fun E=>DoX prog (mFA 27 t2 2) w (pk K) E) w fun t31 w=>
 GDo t30 false (fun E=>DoX prog (mLoad 3 t31) w (pk K) E) w fun t32 w=>
 GDo t30 false (fun E=>DoX prog (mEq .eql 3 (.tmp 32) (.const (.int .i64 0)) t32 (.int .i64 0)) w (pk K) E) w fun t33 w=>
 GDo t26 true (fun E=>DoX prog (mPick t30 (.bool true) t33) w (pk K) E) w fun t34 w=>
 DoX prog (mPick t26 t34 (.bool false)) w (pk K) fun t35 w=>
 GDo t35 true (fun E=>DoX prog (mFA 165 t4 2) w (pk K) E) w fun t37 w=>
 GDo t35 true (fun E=>DoX prog (mLoad 4 t37) w (pk K) E) w fun t38 w=>
 GDo t35 true (fun E=>E t38 w) w fun t39 w=>
 GDo t39 false (fun E=>DoX prog (mFA 27 t2 3) w (pk K) E) w fun t40 w=>
 GDo t39 false (fun E=>DoX prog (mLoad 9 t40) w (pk K) E) w fun t41 w=>
 GDo t39 false (fun E=>DoX prog (mEq .eql 9 (.tmp 41) (.const (.string ⟨#[]⟩)) t41 (.string ⟨#[]⟩)) w (pk K) E) w fun t42 w=>
 GDo t35 true (fun E=>DoX prog (mPick t39 (.bool true) t42) w (pk K) E) w fun t43 w=>
 DoX prog (mPick t35 t43 (.bool false)) w (pk K) fun t44 w=>
 GDo t44 true (fun E=>DoX prog (mFA 165 t4 3) w (pk K) E) w fun t46 w=>
 GDo t44 true (fun E=>DoX prog (mLoad 4 t46) w (pk K) E) w fun t47 w=>
 GDo t44 true (fun E=>E t47 w) w fun t48 w=>
 GDo t48 false (fun E=>DoX prog (mFA 27 t2 4) w (pk K) E) w fun t49 w=>
 GDo t48 false (fun E=>DoX prog (mLoad 24 t49) w (pk K) E) w fun t50 w=>
 GDo t48 false (fun E=>DoX prog (mB .len #[24] 3 #[false] #[t50]) w (pk K) E) w fun t51 w=>
 GDo t48 false (fun E=>DoX prog (mEq .eql 3 (.tmp 51) (.const (.int .i64 0)) t51 (.int .i64 0)) w (pk K) E) w fun t52 w=>
 GDo t44 true (fun E=>DoX prog (mPick t48 (.bool true) t52) w (pk K) E) w fun t53 w=>
 DoX prog (mPick t44 t53 (.bool false)) w (pk K) fun t54 w=>
 GDo t54 true (fun E=>DoX prog (mFA 165 t4 4) w (pk K) E) w fun t56 w=>
 GDo t54 true (fun E=>DoX prog (mLoad 4 t56) w (pk K) E) w fun t57 w=>
 GDo t54 true (fun E=>E t57 w) w fun t58 w=>
 GDo t58 false (fun E=>DoX prog (mFA 27 t2 5) w (pk K) E) w fun t59 w=>
 GDo t58 false (fun E=>DoX prog (mLoad 25 t59) w (pk K) E) w fun t60 w=>
 GDo t58 false (fun E=>DoX prog (mB .len #[25] 3 #[false] #[t60]) w (pk K) E) w fun t61 w=>
 GDo t58 false (fun E=>DoX prog (mEq .eql 3 (.tmp 61) (.const (.int .i64 0)) t61 (.int .i64 0)) w (pk K) E) w fun t62 w=>
 GDo t54 true (fun E=>DoX prog (mPick t58 (.bool true) t62) w (pk K) E) w fun t63 w=>
 DoX prog (mPick t54 t63 (.bool false)) w (pk K) fun t64 w=>
 GDo t64 true (fun E=>E t1 w) w fun t66 w=>
 GDo t64 true (fun E=>DoX prog (mEq .eql 3 (.tmp 66) (.const (.int .i64 1)) t66 (.int .i64 1)) w (pk K) E) w fun t67 w=>
 GDo t64 true (fun E=>E t67 w) w fun t68 w=>
 GDo t68 false (fun E=>DoX prog (mFA 27 t2 0) w (pk K) E) w fun t69 w=>
 GDo t68 false (fun E=>DoX prog (mLoad 3 t69) w (pk K) E) w fun t70 w=>
 GDo t68 false (fun E=>DoX prog (mEq .neq 3 (.tmp 70) (.const (.int .i64 9)) t70 (.int .i64 9)) w (pk K) E) w fun t71 w=>
 GDo t64 true (fun E=>DoX prog (mPick t68 (.bool true) t71) w (pk K) E) w fun t72 w=>
 DoX prog (mPick t64 t72 (.bool false)) w (pk K) fun t73 w=>
 CallX prog 131 #[t73,(.int .i64 10)] w (pk K) fun t74 w=>
 DoX prog (mLoad 27 t2) w (pk K) fun t75 w=>
 CallX prog 133 #[t75] w (pk K) fun t76 w=>
 CallX prog 131 #[t76,(.int .i64 2)] w (pk K) fun t77 w=>
 DoX prog (mLoad 27 t2) w (pk K) fun t78 w=>
 CallX prog 134 #[t78] w (pk K) fun t79 w=>
 CallX prog 131 #[t79,(.int .i64 5)] w (pk K) fun t80 w=>
 DoX prog (mFA 27 t2 5) w (pk K) fun t81 w=>
 DoX prog (mLoad 25 t81) w (pk K) fun t82 w=>
 DoX prog (mB .len #[25] 3 #[false] #[t82]) w (pk K) fun t83 w=>
 DoX prog (mBin .leq 3 t83 (.int .i64 8191)) w (pk K) fun t84 w=>
 CallX prog 131 #[t84,(.int .i64 6)] w (pk K) fun t85 w=>
 DoX prog (mFA 27 t2 0) w (pk K) fun t86 w=>
 DoX prog (mLoad 3 t86) w (pk K) fun t87 w=>
 DoX prog (mEq .neq 3 (.tmp 87) (.const (.int .i64 5)) t87 (.int .i64 5)) w (pk K) fun t88 w=>
 GDo t88 false (fun E=>DoX prog (mFA 27 t2 3) w (pk K) E) w fun t90 w=>
 GDo t88 false (fun E=>DoX prog (mLoad 9 t90) w (pk K) E) w fun t91 w=>
 GDo t88 false (fun E=>CallX prog 135 #[t91] w (pk K) E) w fun t92 w=>
 DoX prog (mPick t88 (.bool true) t92) w (pk K) fun t93 w=>
 GDo t93 true (fun E=>DoX prog (mFA 165 t4 3) w (pk K) E) w fun t95 w=>
 GDo t93 true (fun E=>DoX prog (mLoad 4 t95) w (pk K) E) w fun t96 w=>
 GDo t93 true (fun E=>DoX prog (mUn .not t96) w (pk K) E) w fun t97 w=>
 GDo t93 true (fun E=>E t97 w) w fun t98 w=>
 GDo t98 false (fun E=>DoX prog (mLoad 27 t2) w (pk K) E) w fun t99 w=>
 GDo t98 false (fun E=>CallX prog 136 #[t99] w (pk K) E) w fun t100 w=>
 GDo t93 true (fun E=>DoX prog (mPick t98 (.bool true) t100) w (pk K) E) w fun t101 w=>
 DoX prog (mPick t93 t101 (.bool false)) w (pk K) fun t102 w=>
 CallX prog 131 #[t102,(.int .i64 3)] w (pk K) fun t103 w=>
 DoX prog (mFA 27 t2 5) w (pk K) fun t104 w=>
 DoX prog (mLoad 25 t104) w (pk K) fun t105 w=>
 DoX prog (mB .len #[25] 3 #[false] #[t105]) w (pk K) fun t106 w=>
 LoopX [(.int .i64 0)] w (fun vs1 w N1=>∀_:Sg,S_value_check_0 t1 t105 t106 (vs1.getD 0 undef) w N1 K)
theorem S_value_check_eq (t0 t1:Value)(w:World)(K:Ending→World→Prop):wpX prog 116 [] [(9,[107])] none (bodyOf Tryz.f84) (topQ prog [] K) (startX [t0,t1]) [] w=S_value_check t0 t1 w K:=by kernel_rfl
theorem S_value_check_ok {t0 t1:Value}{w:World}{K:Ending→World→Prop}(h:S_value_check t0 t1 w K):Calls prog 84 #[t0,t1] w K:=
 calls_of_wpX Tryz.func84 rfl rfl rfl rfl (Eq.mpr (S_value_check_eq t0 t1 w K) h)
def S_value_Check_1 (t0:Value)(w:World)(K:Ending→World→Prop):Prop:=
 DoX prog (mLoad 27 t0) w (pk K) fun t1 w=>
 CallX prog 84 #[t1,(.int .i64 1)] w (pk K) fun t2 w=>
 K (.returned (.tuple #[])) w
theorem S_value_Check_1_eq (t0:Value)(w:World)(K:Ending→World→Prop):wpX prog 3 [] [] none (bodyOf Tryz.f83) (topQ prog [] K) (startX [t0]) [] w=S_value_Check_1 t0 w K:=by kernel_rfl
theorem S_value_Check_1_ok {t0:Value}{w:World}{K:Ending→World→Prop}(h:S_value_Check_1 t0 w K):Calls prog 83 #[t0] w K:=
 calls_of_wpX Tryz.func83 rfl rfl rfl rfl (Eq.mpr (S_value_Check_1_eq t0 w K) h)
def S_value_caught_1 (t0 r:Value)(w:World)(K:Ending→World→Prop):Prop:=
 DoX prog (mEq .eql 20 (.tmp 4) (.const .nilIface) r .nilIface) w (pk K) fun t6 w=>
 IfX t6 (K (.returned (.tuple #[])) w) (DoX prog (mTA r 20 162 true) w (pk K) fun t7 w=>
 DoX prog (mExt t7 1) w (pk K) fun t8 w=>
 DoX prog (mExt t7 0) w (pk K) fun t9 w=>
 IfX t8 (DoX prog (mAlloc 162) w (pk K) fun t2 w=>
 DoX prog (mStore 162 t2 t9) w (pk K) fun _ w=>
 DoX prog (mFA 162 t2 0) w (pk K) fun t10 w=>
 DoX prog (mLoad 30 t10) w (pk K) fun t11 w=>
 DoX prog (mStore 30 t0 t11) w (pk K) fun _ w=>
 K (.returned (.tuple #[])) w) (DoX prog (mPanic r) w (pk K) fun _ w=>
 K (.returned (.tuple #[])) w))
theorem S_value_caught_1_eq (t0 r:Value)(w:World)(K:Ending→World→Prop):wpX prog 12 [] [] none (sndOf (bodyOf Tryz.f130)) (topD prog [] K) (upd (startX [t0]) 4 r) [] w=S_value_caught_1 t0 r w K:=by kernel_rfl
theorem S_value_caught_1_dok {t0:Value}{u:FrameMode}{w:World}{R:Ending→FrameMode→World→Prop}(h:S_value_caught_1 t0 (recV u) w (fun e w=>R e (recM u) w)):CallsD prog 130 #[t0] u w R:=
 callsD_recover Tryz.func130 rfl rfl rfl rfl rfl rfl rfl rfl (Eq.mpr (S_value_caught_1_eq t0 (recV u) w _) h)
def S_value_caught_p0 (x0:Deferred)(x1:Value)(K:Ending→World→Prop):=pd prog [.cell x1 30] K [x0]
def S_value_caught (t0:Value)(w:World)(K:Ending→World→Prop):Prop:=
 DoX prog (mAlloc 30) w (pk K) fun t2 w=>
 DoX prog (mFunc (.func 130) #[] #[t2]) w (pk K) fun t3 w=>
 DfrX (dfrV t3 #[]) (fun d1=>
 DoX prog (mCallV t0 #[]) w (S_value_caught_p0 d1 t2 K) fun t5 w=>
 DoX prog (mStore 30 t2 (.int .i64 0)) w (S_value_caught_p0 d1 t2 K) fun _ w=>
 Leave prog [.cell t2 30] K [d1] .returning w)
theorem S_value_caught_eq (t0:Value)(w:World)(K:Ending→World→Prop):wpX prog 6 [] [] none (bodyOf Tryz.f82) (topQ prog [.cell 2 30] K) (startX [t0]) [] w=S_value_caught t0 w K:=by kernel_rfl
theorem S_value_caught_ok {t0:Value}{w:World}{K:Ending→World→Prop}(h:S_value_caught t0 w K):Calls prog 82 #[t0] w K:=
 calls_of_wpX Tryz.func82 rfl rfl rfl rfl (Eq.mpr (S_value_caught_eq t0 w K) h)
def S_value_Check (t0:Value)(w:World)(K:Ending→World→Prop):Prop:=
 DoX prog (mBox 27 t0) w (pk K) fun t1 w=>
 DoX prog (mFunc (.func 83) #[] #[t1]) w (pk K) fun t3 w=>
 CallX prog 82 #[t3] w (pk K) fun t4 w=>
 K (.returned t4) w
theorem S_value_Check_eq (t0:Value)(w:World)(K:Ending→World→Prop):wpX prog 5 [] [] none (bodyOf Tryz.f51) (topQ prog [.tmp 2] K) (startX [t0]) [] w=S_value_Check t0 w K:=by kernel_rfl
theorem S_value_Check_ok {t0:Value}{w:World}{K:Ending→World→Prop}(h:S_value_Check t0 w K):Calls prog 51 #[t0] w K:=
 calls_of_wpX Tryz.func51 rfl rfl rfl rfl (Eq.mpr (S_value_Check_eq t0 w K) h)
end
section
open Eng Go.RowKit
 attribute [local congr] g_congr
theorem within64_ret (n a b:Int)(w:World):Ret prog 199 #[.int .i64 n,.int .i64 a,.int .i64 b] w (fun v w'=>v=.bool (decide (a≤n)&&decide (n≤b))∧w=w'):=by
 refine ret_of fun K hK=>S_value_within_int64_ok ?_;unfold S_value_within_int64;simp +contextual only[rs,gs];exact hK _ _ ⟨rfl,rfl⟩
theorem withinI_ret (n a b:Int)(w:World):Ret prog 200 #[.int .i64 n,.int .i64 a,.int .i64 b] w (fun v w'=>v=.bool (decide (a≤n)&&decide (n≤b))∧w=w'):=by
 refine ret_of fun K hK=>S_value_within_int_ok ?_;unfold S_value_within_int;simp +contextual only[rs,gs];exact hK _ _ ⟨rfl,rfl⟩
theorem tw_self {p:UInt8→Bool}:∀(s:List UInt8),s.takeWhile p=s→∀x∈s,p x=true
|[],_,x,hx=>by cases hx
|a::s,h,x,hx=>by
  rw[List.takeWhile_cons] at h;split at h
  ·rename_i ha
   injection h with _ h
   rcases List.mem_cons.1 hx with rfl|hx
   ·exact ha
   ·exact tw_self s h x hx
  ·cases h
theorem dw_head {p:UInt8→Bool}:∀(s:List UInt8) {a:UInt8} {t:List UInt8},s.dropWhile p=a::t→p a=false
|[],_,_,h=>by cases h
|b::s,a,t,h=>by
  rw[List.dropWhile_cons] at h;split at h
  ·exact dw_head s h
  ·rename_i hb
   injection h with h _
   subst h;simpa using hb
theorem vkey_ret (s:List UInt8)(w:World):Ret prog 135 #[.string ⟨s.toArray⟩] w (fun v w'=>v=.bool (Vl.name s)∧w=w'):=by
 refine ret_of fun K hK=>S_value_key_ok ?_;unfold S_value_key;rw[s_len Tryz.underlying9,b_leq];by_cases h:(s.length:Int)≤127
 ·have hi:∀{K':VWP},K' (.int .i64 (Lib.indexByte s 0)) w→CallX prog 141 #[.string ⟨s.toArray⟩,.int .u8 0] w (pk K) K':=fun hk=>c_eq (indexByte_ret s 0 w) hk;simp only[h,decide_true,rs];refine hi ?_;simp only[rs];refine hK _ _ ⟨?_,rfl⟩;rw[Vl.name,decide_eq_true (show s.length≤127 by omega),Bool.true_and]
  congr 1
  rw[decide_eq_decide];rcases ix_cases 0 s with ⟨h1,h2,h3⟩|⟨i,h1,hil,h3,h4⟩
  ·rw[h1];refine⟨fun _ hm=>?_,fun _=>by decide⟩;have:=tw_self s h2 0 hm;simp at this
  ·rw[h1];refine⟨fun h=>by omega,fun hm=>absurd ?_ hm⟩;have hd:s.drop i=s[i]::s.drop (i+1):=List.drop_eq_getElem_cons hil;have h0:s[i]=0:=by
    have:=dw_head s (h4.trans hd);simpa using this
   exact h0▸List.getElem_mem hil
 ·simp only[h,decide_false,rs,g_un];refine hK _ _ ⟨?_,rfl⟩;rw[Vl.name,decide_eq_false (show ¬s.length≤127 by omega)];rfl
theorem vrising_ret (o:Ob)(v:Value)(w:World)(h:OV (InW w) w v o)(hb:o.keys.length≤9223372036854775807) :
  Ret prog 136 #[v] w (fun v w'=>v=.bool (Vl.rising o)∧Below w.heap.size w w'):=by
 obtain⟨vk,vc,cs,rfl,ha⟩:=h.open;refine ret_of fun K hK=>S_value_rising_ok ?_;unfold S_value_rising;refine o_obb o ha.keys.one ha.kids.one (Own.start w) fun b w1 ho=>?_;have lk:∀{W:World} {L:List Ent},Own w W L→∀{PK:PKT} {K:VWP},DoX prog (mB .len #[24] 3 #[false] #[vk]) W PK K=K (.int .i64 (o.keys.length:Int)) W:=fun ho=>sl_len Tryz.underlying24 (ha.own ho).keys.1;have lc:∀{W:World} {L:List Ent},Own w W L→∀{PK:PKT} {K:VWP},DoX prog (mB .len #[25] 3 #[false] #[vc]) W PK K=K (.int .i64 (o.kids.length:Int)) W:=fun ho=>sl_len Tryz.underlying25 (ha.own ho).kids.1;simp only[rs,fa_o4,fa_o5,ob_keys ho 0 rfl,ob_kids ho 0 rfl,lk ho,lc ho];by_cases hlen:(o.keys.length:Int)≠(o.kids.length:Int)
 ·simp only[decide_eq_true hlen,i_t];refine hK _ _ ⟨?_,ho.done⟩;have:¬o.keys.length=o.kids.length:=fun e=>hlen (by rw[e]);simp[Vl.rising,this]
 have hle:o.keys.length=o.kids.length:=by omega
 simp only[decide_eq_false hlen,i_f];have hR:Vl.rising o=(List.range o.keys.length).all (Vl.keyAt o):=by simp[Vl.rising,hle]
 rw[hR] at hK;refine loop (fun vs w'=>∃(i:Nat),vs=[.int .i64 i]∧i≤o.keys.length∧(List.range i).all (Vl.keyAt o)=true∧Own w w' [obE b o vk vc]) (fun vs _=>o.keys.length - n0 vs) ⟨0,rfl,by omega,by simp,ho⟩ ?_;rintro vs w2 ⟨i,rfl,hi,hall,ho⟩ _;simp only[S_value_rising_0,gd,rs];by_cases hlt:(i:Int) < (o.keys.length:Int)
 ·have hi':i < o.keys.length:=by omega
  simp only[hlt,decide_true,i_t];have ho2:=ha.own ho;refine sl_ia1 (.string ⟨(o.keys[i]).toArray⟩) Tryz.underlying24 (by kernel_rfl) ho2.keys.1 (by omega) (by rw[Int.toNat_natCast];exact strsV_get hi') fun q hq=>?_;rw[l_cell nStr5 hq];refine c_eq (vkey_ret o.keys[i] w2) ?_;obtain⟨kb,koff,hia,hkc⟩:=run_kid_k ho2.kids.1 ho2.all (show i < o.kids.length by omega);have hlk:∀{PK:PKT} {K:VWP},DoX prog (mLoad 3 (.pointer (some ⟨kb,koff,none⟩))) w2 PK K=K (.int .i64 o.kids[i].k) w2:=l_cell nInt5 hkc;have hprev:decide (0 < (i:Int))=true→∃(b' off':Nat),(∀{PK:PKT} {K:VWP},DoX prog (mIA 24 vk (.int .i64 (IntKind.wrap .i64 ((i:Int) - 1)))) w2 PK K=K (.pointer (some ⟨b',off',none⟩)) w2) ∧
    (∀{PK:PKT} {K:VWP},DoX prog (mLoad 9 (.pointer (some ⟨b',off',none⟩))) w2 PK K=K (.string ⟨(o.keys.getD (i - 1) []).toArray⟩) w2):=by
   intro h;have h:=of_decide_eq_true h;have hj:i - 1 < o.keys.length:=by omega
   obtain⟨b',off',cap',rfl,hc'⟩:=sl_open ho2.keys.1 (show 0 < o.keys.length by omega);refine⟨b',off'+(i - 1),?_,?_⟩
   ·intro PK K;rw[wrap64_id (by omega) (by omega)];refine do_eq ?_;rw[run_ia Tryz.underlying24 (show _=some 1 by kernel_rfl) (by omega) (by omega),show ((i:Int) - 1).toNat*1=i - 1 by omega]
   ·intro PK K;rw[List.getD_eq_getElem?_getD,List.getElem?_eq_getElem hj];exact l_cell nStr5 (hc' _ _ (strsV_get hj))
  have hgi:o.keys.getD i []=o.keys[i]:=by rw[List.getD_eq_getElem?_getD,List.getElem?_eq_getElem hi'];rfl
  have hgk:o.kids.getD i (.mk 0 0 0 [] [] [])=o.kids[i]'(by omega):=by rw[List.getD_eq_getElem?_getD,List.getElem?_eq_getElem (by omega)];rfl
  have tail:∀(q:Bool) (N:Prop),q=!(Vl.keyAt o i)→(Vl.keyAt o i=true→N)→IfX (.bool q) (K (.returned (.bool false)) w2) N:=by
   intro q N hq hN;cases hk:Vl.keyAt o i with
  |false=>
    rw[hk] at hq;subst hq;rw[show (!false)=true from rfl,i_t];exact hK _ _ ⟨by rw[range_all_not hk hi'],ho.done⟩
  |true=>
    rw[hk] at hq;subst hq;rw[show (!true)=false from rfl,i_f];exact hN hk
  have hki:Vl.keyAt o i=(Vl.name o.keys[i]&&(decide (i=0)||Vl.less (o.keys.getD (i - 1) []) o.keys[i])&&!(decide (o.k=9)&&decide (o.keys[i]=Vl.lenK))&&decide ((o.kids[i]'(by omega)).k≠0)):=by
   rw[Vl.keyAt,hgi,hgk]
  by_cases hi0:i=0
  ·have hz:decide (0 < (i:Int))=false:=by rw[decide_eq_false_iff_not];omega
   simp +contextual only[rs,gs,hz,sel_sel,g_off,pick_orn,Bool.and_false,Bool.not_not,Bool.or_false,fa_o0,fa_o5,ob_k ho 0 rfl,ob_kids ho 0 rfl,hia,hlk,g_un,p_f];refine tail _ _ ?_ fun hk=>?_
   ·rw[hki,decide_eq_true hi0];simp only[Bool.true_or,Bool.and_true,Vl.lenK,ne_eq,decide_not];generalize Vl.name o.keys[i]=a;generalize decide (o.k=9)=c;generalize decide ((o.kids[i]'(by omega)).k=0)=d;by_cases hL:o.keys[i]=[76,101,110,103,116,104]<;>simp only[hL,decide_true,decide_false]<;>cases a<;>cases c<;>cases d<;>rfl
   ·rw[wrap64_id (by omega) (by omega)];exact nextX ⟨i+1,rfl,by omega,by rw[range_all_succ,hall,hk];rfl,ho⟩ (by simp[n0,RowKit.intOf];omega)
  ·have hz:decide (0 < (i:Int))=true:=by rw[decide_eq_true_iff];omega
   obtain⟨b',off',hpa,hpl⟩:=hprev hz;simp +contextual only[rs,gs,hz,sel_sel,g_off,pick_orn,Bool.and_false,Bool.not_not,Bool.or_false,fa_o0,fa_o4,fa_o5,ob_k ho 0 rfl,ob_keys ho 0 rfl,ob_kids ho 0 rfl,hia,hlk,hpa,hpl,g_un];refine tail _ _ ?_ fun hk=>?_
   ·rw[hki,decide_eq_false hi0];simp only[Bool.false_or,Vl.lenK,ne_eq,decide_not];generalize Vl.name o.keys[i]=a;generalize decide (o.k=9)=c;generalize decide ((o.kids[i]'(by omega)).k=0)=d;show _=!(_&&Op.bytesLess (o.keys.getD (i - 1) []) o.keys[i]&&_&&_);generalize Op.bytesLess (o.keys.getD (i - 1) []) o.keys[i]=e;by_cases hL:o.keys[i]=[76,101,110,103,116,104]<;>simp only[hL,decide_true,decide_false]<;>cases a<;>cases c<;>cases d<;>cases e<;>rfl
   ·rw[wrap64_id (by omega) (by omega)];exact nextX ⟨i+1,rfl,by omega,by rw[range_all_succ,hall,hk];rfl,ho⟩ (by simp[n0,RowKit.intOf];omega)
 ·simp only[hlt,decide_false,i_f];refine hK _ _ ⟨?_,ho.done⟩;rw[show o.keys.length=i by omega,hall]
theorem vfits_ret (o:Ob)(v:Value)(w:World)(h:OV (InW w) w v o):Ret prog 133 #[v] w (fun v w'=>v=.bool (Vl.fits o)∧Below w.heap.size w w'):=by
 obtain⟨vk,vc,cs,rfl,ha⟩:=h.open;refine ret_of fun K hK=>S_value_fits_ok ?_;unfold S_value_fits;refine o_obb o ha.keys.one ha.kids.one (Own.start w) fun b w1 ho=>?_;simp only[fa_o0,ob_k ho 0 rfl,rs];by_cases k1:o.k=1
 ·simp only[k1,decide_true,i_t,fa_o1,ob_n ho 0 rfl];refine c_eq (within64_ret _ _ _ w1) (hK _ _ ⟨?_,ho.done⟩);rw[Vl.fits,if_pos k1,Bool.decide_and]
 by_cases k2:o.k=2
 ·simp only[k2,Int.reduceEq,decide_true,decide_false,i_t,i_f,fa_o1,ob_n ho 0 rfl];refine c_eq (within64_ret _ _ _ w1) (hK _ _ ⟨?_,ho.done⟩);rw[Vl.fits,if_neg k1,if_pos k2,Bool.decide_and]
 by_cases k3:o.k=3
 ·simp only[k3,Int.reduceEq,decide_true,decide_false,i_t,i_f,fa_o1,ob_n ho 0 rfl];refine c_eq (within64_ret _ _ _ w1) (hK _ _ ⟨?_,ho.done⟩);rw[Vl.fits,if_neg k1,if_neg k2,if_pos k3,Bool.decide_and]
 by_cases k8:o.k=8
 ·simp only[k8,Int.reduceEq,decide_true,decide_false,i_t,i_f,fa_o1,ob_n ho 0 rfl];refine c_eq (within64_ret _ _ _ w1) ?_;have hf:Vl.fits o=(decide (1≤o.n)&&decide (o.n≤8191)&&(decide (0≤o.g)&&decide (o.g≤65535))):=by
   rw[Vl.fits,if_neg k1,if_neg k2,if_neg k3,if_pos k8,Bool.decide_and,Bool.decide_and]
  rw[hf] at hK;cases hc:(decide (1≤o.n)&&decide (o.n≤8191)) with
 |false=>
   rw[hc] at hK;rw[g_ft,g_ft,g_ft,p_f];exact hK _ _ ⟨rfl,ho.done⟩
 |true=>
   rw[hc] at hK;rw[g_tt,fa_o2,g_tt,ob_g ho 0 rfl,g_tt];refine c_eq (withinI_ret _ _ _ w1) ?_;rw[p_t];exact hK _ _ ⟨rfl,ho.done⟩
 simp only[k1,k2,k3,k8,decide_false,i_f];refine hK _ _ ⟨?_,ho.done⟩;rw[Vl.fits,if_neg k1,if_neg k2,if_neg k3,if_neg k8]
def vShort (o:Ob):Bool:=if o.k=4 then decide (o.s.length≤32767) else if o.k=5 then decide (o.s.length≤127) else decide (o.s.length≤1048576)
theorem vshort_ret (o:Ob)(v:Value)(w:World)(h:OV (InW w) w v o):Ret prog 134 #[v] w (fun v w'=>v=.bool (vShort o)∧Below w.heap.size w w'):=by
 obtain⟨vk,vc,cs,rfl,ha⟩:=h.open;refine ret_of fun K hK=>S_value_short_ok ?_;unfold S_value_short;refine o_obb o ha.keys.one ha.kids.one (Own.start w) fun b w1 ho=>?_;simp only[fa_o0,ob_k ho 0 rfl,rs];have hi:∀m:Nat,decide ((o.s.length:Int)≤(m:Int))=decide (o.s.length≤m):=fun m=>by rw[decide_eq_decide];omega
 by_cases k4:o.k=4
 ·simp only[k4,decide_true,i_t,fa_o3,ob_s ho 0 rfl,s_len Tryz.underlying9,rs];refine hK _ _ ⟨?_,ho.done⟩;rw[vShort,if_pos k4,←hi];rfl
 by_cases k5:o.k=5
 ·simp only[k5,Int.reduceEq,decide_true,decide_false,i_t,i_f,fa_o3,ob_s ho 0 rfl,s_len Tryz.underlying9,rs];refine hK _ _ ⟨?_,ho.done⟩;rw[vShort,if_neg k4,if_pos k5,←hi];rfl
 simp only[k4,k5,decide_false,i_f,fa_o3,ob_s ho 0 rfl,s_len Tryz.underlying9,rs];refine hK _ _ ⟨?_,ho.done⟩;rw[vShort,if_neg k4,if_neg k5,←hi];rfl
theorem short_long {o:Ob}(h:Vl.usesOk o=true):vShort o=!decide (Vl.long o.k < o.s.length):=by
 have key:∀m:Nat,decide (o.s.length≤m)=!decide (m < o.s.length):=fun m=>by
  rw[Bool.eq_iff_iff];simp
 unfold vShort Vl.long;by_cases k4:o.k=4
 ·rw[if_pos k4,if_neg (by omega),if_neg (by omega),key]
 by_cases k5:o.k=5
 ·rw[if_neg k4,if_pos k5,if_pos k5,key]
 by_cases k9:o.k=9
 ·rw[if_neg k4,if_neg k5,if_neg k5,if_pos k9,key]
 have hs:o.s=[]:=by
  unfold Vl.usesOk Vl.used at h
  revert h
  split
  ·intro h;cases h
  ·rename_i n g s ks cs he
   intro h;simp only[Bool.and_eq_true,Bool.or_eq_true,decide_eq_true_eq] at h;have hsf:s=false:=by
    revert he
    repeat' split
    all_goals (intro he;first|(cases he;done)|skip)
    all_goals (simp only[Option.some.injEq,Prod.mk.injEq] at he;first|exact he.2.2.1.symm|omega)
   rcases h.1.1.2 with h1|h1
   ·rw[hsf] at h1;cases h1
   ·exact h1
 rw[if_neg k4,if_neg k5,if_neg k5,if_neg k9,hs];rfl
end
section
open Eng Go.RowKit
 attribute [local congr] g_congr
def uC (u:Bool×Bool×Bool×Bool×Bool):List Value:=[.bool u.1,.bool u.2.1,.bool u.2.2.1,.bool u.2.2.2.1,.bool u.2.2.2.2]
def uV (u:Bool×Bool×Bool×Bool×Bool):Value:=.agg (uC u).toArray
def uE (b:Nat)(u:Bool×Bool×Bool×Bool×Bool):Ent:=.cells b (uC u) 165
def u0:Bool×Bool×Bool×Bool×Bool:=(false,false,false,false,false)
theorem aggU:aggN prog 165=some 5:=by kernel_rfl
theorem szU:(Tryz.prog.info? 165).map (·.size)=some 5:=by kernel_rfl
theorem uC_one (u:Bool×Bool×Bool×Bool×Bool):∀v∈uC u,v.oneCell'=true:=by
 intro v hv;simp only[uC,List.mem_cons,List.not_mem_nil,or_false] at hv;rcases hv with rfl|rfl|rfl|rfl|rfl<;>rfl
theorem nBool:notAgg prog 4=true:=by kernel_rfl
section
variable {w:World}{PK:PKT}{K:VWP}{S:Nat→Prop}{w0:World}{L:List Ent}
theorem fa_u0 {b:Nat}:DoX prog (mFA 165 (.pointer (some ⟨b,0,none⟩)) 0) w PK K=K (.pointer (some ⟨b,0,none⟩)) w:=f_addr (show fOff prog 165 0=some 0 by kernel_rfl)
theorem fa_u1 {b:Nat}:DoX prog (mFA 165 (.pointer (some ⟨b,0,none⟩)) 1) w PK K=K (.pointer (some ⟨b,0+1,none⟩)) w:=f_addr (show fOff prog 165 1=some 1 by kernel_rfl)
theorem fa_u2 {b:Nat}:DoX prog (mFA 165 (.pointer (some ⟨b,0,none⟩)) 2) w PK K=K (.pointer (some ⟨b,0+2,none⟩)) w:=f_addr (show fOff prog 165 2=some 2 by kernel_rfl)
theorem fa_u3 {b:Nat}:DoX prog (mFA 165 (.pointer (some ⟨b,0,none⟩)) 3) w PK K=K (.pointer (some ⟨b,0+3,none⟩)) w:=f_addr (show fOff prog 165 3=some 3 by kernel_rfl)
theorem fa_u4 {b:Nat}:DoX prog (mFA 165 (.pointer (some ⟨b,0,none⟩)) 4) w PK K=K (.pointer (some ⟨b,0+4,none⟩)) w:=f_addr (show fOff prog 165 4=some 4 by kernel_rfl)
theorem u_put (i:Nat){b:Nat}{u:Bool×Bool×Bool×Bool×Bool}(u':Bool×Bool×Bool×Bool×Bool)(ho:OwnS S w0 w L)(hi:L[i]?=some (uE b u))(k:∀w',OwnS S w0 w' (L.set i (uE b u'))→K undef w') :
  DoX prog (mStore 165 (.pointer (some ⟨b,0,none⟩)) (uV u')) w PK K:=o_put i ho hi (new:=uC u') szU (uC_one u') rfl k
end
def usedV (k:Int):Value:=.tuple #[uV ((Vl.used k).getD u0),.bool (Vl.used k).isSome]
theorem vused_ret (k:Int)(w:World):Ret prog 132 #[.int .i64 k] w (fun v w'=>v=usedV k∧Below w.heap.size w w'):=by
 refine ret_of fun K hK=>S_value_used_ok ?_;unfold S_value_used;refine o_new (fun b=>.pointer (some ⟨b,0,none⟩)) (uC u0) 165 (fun _=>by kernel_rfl) (Own.start w) fun b w1 ho=>?_;have fin:∀(u:Bool×Bool×Bool×Bool×Bool) (ok:Bool),Vl.used k=(if ok then some u else none)→(ok=false→u=u0)→DoX prog (mStore 165 (.pointer (some ⟨b,0,none⟩)) (uV u)) w1 (pk K) fun _ w=>
   RetX prog [.cell (.pointer (some ⟨b,0,none⟩)) 165,.val (.bool ok)] w K:=by
  intro u ok hu h0;refine u_put 0 u ho rfl fun w2 ho=>?_;refine ret_v2 (rv_cell (ho.agg 0 rfl aggU)) rv_val (hK _ _ ⟨?_,ho.done⟩);rw[usedV,hu];cases ok with
 |true=>rfl
 |false=>rw[h0 rfl];rfl
 have b0:∀{PK:PKT} {K:VWP},DoX prog (mBuild 165 #[]) w1 PK K=K (uV u0) w1:=do_eq (by kernel_rfl);have b1:∀{PK:PKT} {K:VWP},DoX prog (mBuild 165 #[(0,.bool true)]) w1 PK K=K (uV (true,false,false,false,false)) w1:=do_eq (by kernel_rfl);have b2:∀{PK:PKT} {K:VWP},DoX prog (mBuild 165 #[(2,.bool true)]) w1 PK K=K (uV (false,false,true,false,false)) w1:=do_eq (by kernel_rfl);have b3:∀{PK:PKT} {K:VWP},DoX prog (mBuild 165 #[(4,.bool true)]) w1 PK K=K (uV (false,false,false,false,true)) w1:=do_eq (by kernel_rfl);have b4:∀{PK:PKT} {K:VWP},DoX prog (mBuild 165 #[(3,.bool true),(4,.bool true)]) w1 PK K=K (uV (false,false,false,true,true)) w1:=do_eq (by kernel_rfl);have b5:∀{PK:PKT} {K:VWP},DoX prog (mBuild 165 #[(0,.bool true),(1,.bool true)]) w1 PK K=K (uV (true,true,false,false,false)) w1:=do_eq (by kernel_rfl);have b6:∀{PK:PKT} {K:VWP},DoX prog (mBuild 165 #[(2,.bool true),(3,.bool true),(4,.bool true)]) w1 PK K=K (uV (false,false,true,true,true)) w1:=do_eq (by kernel_rfl);simp only[rs];by_cases k0:k=0
 ·simp only[k0,decide_true,i_t,b0];exact fin _ true (by simp[Vl.used,k0,u0]) (by simp)
 simp only[k0,decide_false,i_f];refine join fun J hJ=>?_;by_cases k123:k=1∨k=2∨k=3
 ·have:J [.bool true] w1:=by
   refine hJ _ _ fun _=>?_;simp only[S_value_used_0,gd,i_t,b1];exact fin _ true (by simp[Vl.used,k0,k123]) (by simp)
  by_cases k1:k=1
  ·simp only[k1,decide_true,i_t];exact this
  by_cases k2:k=2
  ·simp only[k2,Int.reduceEq,decide_true,decide_false,i_t,i_f];exact this
  have k3:k=3:=by omega
  simp only[k3,Int.reduceEq,decide_true,decide_false,i_t,i_f];exact this
 have k1:¬k=1:=fun h=>k123 (.inl h);have k2:¬k=2:=fun h=>k123 (.inr (.inl h));have k3:¬k=3:=fun h=>k123 (.inr (.inr h));simp only[k1,k2,k3,decide_false,i_f];refine hJ _ _ fun _=>?_;clear hJ;simp only[S_value_used_0,gd,i_f,rs];refine join fun J hJ=>?_;by_cases k45:k=4∨k=5
 ·have:J [.bool true] w1:=by
   refine hJ _ _ fun _=>?_;simp only[S_value_used_1,gd,i_t,b2];exact fin _ true (by simp[Vl.used,k0,k1,k2,k3,k45]) (by simp)
  by_cases k4:k=4
  ·simp only[k4,decide_true,i_t];exact this
  have k5:k=5:=by omega
  simp only[k5,Int.reduceEq,decide_true,decide_false,i_t,i_f];exact this
 have k4:¬k=4:=fun h=>k45 (.inl h);have k5:¬k=5:=fun h=>k45 (.inr h);simp only[k4,k5,decide_false,i_f];refine hJ _ _ fun _=>?_;clear hJ;simp only[S_value_used_1,gd,i_f,rs];by_cases k6:k=6
 ·simp only[k6,decide_true,i_t,b3];exact fin _ true (by simp[Vl.used,k6]) (by simp)
 by_cases k7:k=7
 ·simp only[k7,Int.reduceEq,decide_true,decide_false,i_t,i_f,b4];exact fin _ true (by simp[Vl.used,k7]) (by simp)
 by_cases k8:k=8
 ·simp only[k8,Int.reduceEq,decide_true,decide_false,i_t,i_f,b5];exact fin _ true (by simp[Vl.used,k8]) (by simp)
 by_cases k9:k=9
 ·simp only[k9,Int.reduceEq,decide_true,decide_false,i_t,i_f,b6];exact fin _ true (by simp[Vl.used,k9]) (by simp)
 simp only[k6,k7,k8,k9,decide_false,i_f,b0];exact fin _ false (by simp[Vl.used,k0,k123,k45,k6,k7,k8,k9]) (by simp)
theorem used_keys {k:Int}{n g s ks cs:Bool}(h:Vl.used k=some (n,g,s,ks,cs)):ks=decide (k=7∨k=9):=by
 revert h
 unfold Vl.used
 repeat' split
 all_goals (intro h;first|(cases h;done)|skip)
 all_goals simp only[Option.some.injEq,Prod.mk.injEq] at h
 all_goals rw[←h.2.2.2.1]
 all_goals symm
 all_goals first|(rw[decide_eq_false_iff_not];omega)|(rw[decide_eq_true_iff];omega)
abbrev badE (e:Int):PanicEntry:={ v:=.iface 162 (.agg #[.int .i64 e]),recovered:=false }
theorem c_must {q r:Bool}{e:Int}{w:World}{PK:PKT}{K:VWP}(h:q=r)(hok:r=true→K (.tuple #[]) w)(hbad:r=false→PK [badE e] w):CallX prog 131 #[.bool q,.int .i64 e] w PK K:=by
 subst h;refine c_any (S_value_must_ok (K:=fun e' w'=>(q=true→e'=.returned (.tuple #[])∧w'=w)∧(q=false→e'=.panicked [badE e]∧w'=w)) ?_) ?_
 ·unfold S_value_must;cases q with
 |true=>
   rw[u_not,show (!true)=false from rfl,i_f];exact⟨fun _=>⟨rfl,rfl⟩,fun h=>by cases h⟩
 |false=>
   rw[u_not,show (!false)=true from rfl,i_t];have hb:∀{PK:PKT} {K:VWP},DoX prog (mBuild 162 #[(0,.int .i64 e)]) w PK K=K (.agg #[.int .i64 e]) w:=do_eq (by kernel_rfl);rw[hb,m_iface (show notIface prog 162=true by kernel_rfl),m_panic];exact⟨fun h=>(by cases h),fun _=>⟨rfl,rfl⟩⟩
 ·rintro e' w' ⟨h1,h2⟩;cases q with
 |true=>obtain⟨rfl,rfl⟩:=h1 rfl;exact hok rfl
 |false=>obtain⟨rfl,rfl⟩:=h2 rfl;exact hbad rfl
end
section
open Eng Go.RowKit
 attribute [local congr] g_congr
theorem vcheck_any (n:Nat):∀(o:Ob) (v:Value) (d:Nat) (w:World) (K:Ending→World→Prop),o.wt≤n→OV (InW w) w v o→o.wt≤4611686018427387904→1≤d→d≤1000 →
  (Vl.check d o=0→∀w',Below w.heap.size w w'→K (.returned (.tuple #[])) w')→(Vl.check d o≠0→∀w',Below w.heap.size w w'→K (.panicked [badE (Vl.check d o)]) w') →
  Calls prog 84 #[v,.int .i64 (d:Int)] w K:=by
 induction n with
|zero=>intro o v d w K h;have:=o.wt_pos;omega
|succ n ih=>
 intro o v d w K hn hov hb hd1 hd hok hbad;obtain⟨vk,vc,cs,rfl,ha⟩:=hov.open;refine S_value_check_ok ?_;unfold S_value_check;refine o_obb o ha.keys.one ha.kids.one (Own.start w) fun b w1 ho=>?_;have out:∀(e:Int) (W:World) (L:List Ent),Own w W L→Vl.why d o=e→e≠0→(pk K) [badE e] W:=by
  intro e W L ho h1 h2;have h3:Vl.check d o=e:=by rw[why_pos (by rw[h1];exact h2),h1]
  rw[h3] at hbad;exact hbad h2 W ho.done
 rw[b_leq];refine c_must (r:=decide (d≤24)) (by rw[decide_eq_decide];omega) (fun h24=>?_) fun h24=>out 7 w1 _ ho (by rw[Vl.why,if_pos (by have:=of_decide_eq_false h24;omega)]) (by decide);have h24':¬24 < d:=by have:=of_decide_eq_true h24;omega
 rw[fa_o0,ob_k ho 0 rfl];refine c_told (vused_ret o.k w1) rfl ho fun w2 ho=>?_;simp only[usedV,ex];refine o_new (fun b=>.pointer (some ⟨b,0,none⟩)) (uC u0) 165 (fun _=>by kernel_rfl) ho fun b4 w3 ho=>?_;refine u_put 0 ((Vl.used o.k).getD u0) ho rfl fun w4 ho=>?_;have ho:Own w w4 [uE b4 ((Vl.used o.k).getD u0),obE b o vk vc]:=ho;have bad10:(Vl.usesOk o=false∨(o.k=9∧1 < d))→(pk K) [badE 10] w4:=fun h=>out 10 w4 _ ho (by rw[Vl.why,if_neg h24',if_pos h]) (by decide);have lk:∀{W:World} {L:List Ent},Own w W L→∀{PK:PKT} {K:VWP},DoX prog (mB .len #[24] 3 #[false] #[vk]) W PK K=K (.int .i64 (o.keys.length:Int)) W:=fun ho=>sl_len Tryz.underlying24 (ha.own ho).keys.1;have lc:∀{W:World} {L:List Ent},Own w W L→∀{PK:PKT} {K:VWP},DoX prog (mB .len #[25] 3 #[false] #[vc]) W PK K=K (.int .i64 (o.kids.length:Int)) W:=fun ho=>sl_len Tryz.underlying25 (ha.own ho).kids.1;cases hu:Vl.used o.k with
|none=>
  have hb10:=bad10 (.inl (by rw[Vl.usesOk,hu]));simp only[Option.isSome_none,rs,g_un];exact c_must (r:=false) rfl (fun h=>by cases h) fun _=>hb10
|some u=>
 obtain⟨un,ug,us,uks,ucs⟩:=u;rw[hu,Option.getD_some] at ho;have hUo:Vl.usesOk o=((un||decide (o.n=0))&&(ug||decide (o.g=0))&&(us||decide (o.s=[]))&&(uks||decide (o.keys=[]))&&(ucs||decide (o.kids.length=0))):=by rw[Vl.usesOk,hu]
 have l0:∀{PK:PKT} {K:VWP},DoX prog (mLoad 4 (.pointer (some ⟨b4,0,none⟩))) w4 PK K=K (.bool un) w4:=l_cell nBool (ho.cell 0 rfl 0 rfl);have l1:∀{PK:PKT} {K:VWP},DoX prog (mLoad 4 (.pointer (some ⟨b4,0+1,none⟩))) w4 PK K=K (.bool ug) w4:=l_cell nBool (ho.cell 0 rfl 1 rfl);have l2:∀{PK:PKT} {K:VWP},DoX prog (mLoad 4 (.pointer (some ⟨b4,0+2,none⟩))) w4 PK K=K (.bool us) w4:=l_cell nBool (ho.cell 0 rfl 2 rfl);have l3:∀{W:World} {L:List Ent},Own w W (uE b4 (un,ug,us,uks,ucs)::L)→∀{PK:PKT} {K:VWP},DoX prog (mLoad 4 (.pointer (some ⟨b4,0+3,none⟩))) W PK K=K (.bool uks) W:=fun ho=>l_cell nBool (ho.cell 0 rfl 3 rfl);have l4:∀{PK:PKT} {K:VWP},DoX prog (mLoad 4 (.pointer (some ⟨b4,0+4,none⟩))) w4 PK K=K (.bool ucs) w4:=l_cell nBool (ho.cell 0 rfl 4 rfl);simp +contextual only[Option.isSome_some,rs,gs,sel_sel,g_off,pick_orn,Bool.and_false,Bool.not_not,Bool.or_false,fa_u0,fa_u1,fa_u2,fa_u3,fa_u4,l0,l1,l2,l3 ho,l4,fa_o0,fa_o1,fa_o2,fa_o3,fa_o4,fa_o5,ob_k ho 1 rfl,ob_n ho 1 rfl,ob_g ho 1 rfl,ob_s ho 1 rfl,ob_keys ho 1 rfl,ob_kids ho 1 rfl,lk ho,lc ho,e_nil];refine c_must (r:=Vl.usesOk o&&!(decide (o.k=9)&&decide (1 < d))) ?_ (fun hq=>?_) fun hq=>?_
 ·rw[hUo,ilen0 o.keys,ilenN o.kids]
  congr 1
  by_cases h9:o.k=9
  ·simp only[h9,ne_eq,not_true,decide_false,Bool.or_false,decide_true,Bool.true_and];rw[Bool.eq_iff_iff];simp;omega
  ·simp only[h9,ne_eq,not_false_eq_true,decide_true,Bool.or_true,decide_false,Bool.false_and,Bool.not_false]
 rotate_left
 ·refine bad10 ?_;rw[Bool.and_eq_false_iff] at hq;rcases hq with h|h
  ·exact .inl h
  ·right;have:(decide (o.k=9)&&decide (1 < d))=true:=by simpa using h
   rw[Bool.and_eq_true] at this;exact⟨of_decide_eq_true this.1,of_decide_eq_true this.2⟩
 rw[Bool.and_eq_true] at hq;obtain⟨huo,hq9⟩:=hq;have hno:¬(Vl.usesOk o=false∨(o.k=9∧1 < d)):=by
  rintro (h|⟨h1,h2⟩)
  ·rw[huo] at h;cases h
  ·rw[decide_eq_true h1,decide_eq_true h2] at hq9;cases hq9
 rw[ob_v ho 1 rfl];refine c_told (vfits_ret o _ w4 (ha.in_ ho).ov) rfl ho fun w5 ho=>?_;refine c_must (r:=Vl.fits o) rfl (fun hfi=>?_) fun hfi=>out 2 w5 _ ho (by rw[Vl.why,if_neg h24',if_neg hno,if_pos hfi]) (by decide);have hfi':¬Vl.fits o=false:=by rw[hfi];decide
 rw[ob_v ho 1 rfl];refine c_told (vshort_ret o _ w5 (ha.in_ ho).ov) rfl ho fun w6 ho=>?_;refine c_must (r:=!decide (Vl.long o.k < o.s.length)) (short_long huo) (fun hlo=>?_) fun hlo=>out 5 w6 _ ho (by rw[Vl.why,if_neg h24',if_neg hno,if_neg hfi',if_pos (by simpa using hlo)]) (by decide);have hlo':¬Vl.long o.k < o.s.length:=by simpa using hlo
 rw[ob_kids ho 1 rfl,lc ho,b_leq];refine c_must (r:=decide (o.kids.length≤8191)) (by rw[decide_eq_decide];omega) (fun hm=>?_) fun hm=>out 6 w6 _ ho (by rw[Vl.why,if_neg h24',if_neg hno,if_neg hfi',if_neg hlo',if_pos (by have:=of_decide_eq_false hm;omega)]) (by decide);have hm':¬8191 < o.kids.length:=by have:=of_decide_eq_true hm;omega
 rw[ob_k ho 1 rfl,n_int];have huk:=used_keys hu
 -- behind the form: the kids
 have rest:∀(W:World),Vl.form o=true→Own w W [uE b4 (un,ug,us,uks,ucs),obE b o vk vc] →
   DoX prog (mLoad 25 (.pointer (some ⟨b,0+5,none⟩))) W (pk K) fun t105 w=>
   DoX prog (mB .len #[25] 3 #[false] #[t105]) w (pk K) fun t106 w=>
   LoopX [(.int .i64 0)] w (fun vs1 w N1=>∀_:Sg,S_value_check_0 (.int .i64 (d:Int)) t105 t106 (vs1.getD 0 undef) w N1 K):=by
  intro W hfo ho;have hw0:Vl.why d o=0:=by rw[Vl.why,if_neg h24',if_neg hno,if_neg hfi',if_neg hlo',if_neg hm',if_neg (by rw[hfo];decide)]
  have hch:Vl.check d o=Vl.checks (d+1) o.kids:=by rw[Vl.check_eq,if_neg (by simp[hw0])]
  rw[hch] at hok hbad;rw[ob_kids ho 1 rfl,lc ho];refine loop (fun vs w'=>∃(i:Nat),vs=[.int .i64 i]∧i≤o.kids.length∧Vl.checks (d+1) o.kids=Vl.checks (d+1) (o.kids.drop i)∧Own w w' [uE b4 (un,ug,us,uks,ucs),obE b o vk vc]) (fun vs _=>o.kids.length - n0 vs) ⟨0,rfl,by omega,rfl,ho⟩ ?_;rintro vs w6 ⟨i,rfl,hi,hT,ho⟩ _;rw[hT] at hok hbad;simp only[S_value_check_0,gd,rs];by_cases hlt:(i:Int) < (o.kids.length:Int)
  ·have hi':i < o.kids.length:=by omega
   simp only[hlt,decide_true,i_t];rw[checks_drop _ _ _ hi'] at hok hbad hT;have hai:=ha.own ho;refine ob_ia hai.kids.1 hai.all hi' fun v hv=>?_;obtain⟨vk',vc',cs',rfl,hkid⟩:=hv.open;have ho6:=ho;refine o_oba ho fun b7 w7 ho=>?_;refine ob_put 0 hkid.keys.one hkid.kids.one ho rfl fun w8 ho=>?_;have ho:Own w w8 [obE b7 o.kids[i] vk' vc',uE b4 (un,ug,us,uks,ucs),obE b o vk vc]:=ho;rw[ob_v ho 0 rfl,wrap64_id (by omega) (by omega),show (d:Int)+1=((d+1:Nat):Int) by omega];have hkw:=kid_wt hi';refine c_any (ih o.kids[i] _ (d+1) w8 _ (by omega) (hkid.later ho6 ho).ov (by omega) (by omega) (by omega) (fun hc0 w9 hb9=>?_) (fun hc0 w9 hb9=>?_)) (fun _ _ h=>h)
   ·have ho:=ho.grow hb9;rw[if_neg (by simp[hc0])] at hT;simp only[Cont,rs];rw[wrap64_id (by omega) (by omega)];exact nextX ⟨i+1,rfl,by omega,hT,ho.tail⟩ (by simp[n0,RowKit.intOf];omega)
   ·rw[if_pos hc0] at hbad;exact hbad hc0 w9 (ho.grow hb9).done
  ·simp only[hlt,decide_false,i_f];rw[List.drop_of_length_le (by omega),Vl.checks] at hok;exact hok rfl w6 ho.done
 have bad3:∀(W:World) (L:List Ent),Own w W L→Vl.form o=false→(pk K) [badE 3] W:=fun W L ho h=>out 3 W _ ho (by rw[Vl.why,if_neg h24',if_neg hno,if_neg hfi',if_neg hlo',if_neg hm',if_pos h]) (by decide);by_cases k5:o.k=5
 ·have k79:¬(o.k=7∨o.k=9):=by omega
  have hks:uks=false:=by rw[huk,decide_eq_false k79]
  have hf:Vl.form o=Vl.name o.s:=by simp[Vl.form,k5]
  rw[show decide (o.k≠5)=false by rw[decide_eq_false_iff_not];omega,g_ff,ob_s ho 1 rfl,g_ff];refine c_eq (vkey_ret o.s w6) ?_;rw[p_f];cases hnm:Vl.name o.s with
 |false=>
   rw[g_ft,g_ft,show sel (wants (Value.bool false) true) undef=undef from rfl,g_un,g_un,g_ft,p_f];exact c_must (r:=false) rfl (fun h=>by cases h) fun _=>bad3 w6 _ ho (by rw[hf,hnm])
 |true=>
   rw[g_tt,l3 ho,hks,g_tt,u_not,show (!false)=true from rfl,show sel (wants (Value.bool true) true) (Value.bool true)=.bool true from rfl,g_tf,g_tf,g_tt,p_t,p_t];exact c_must (r:=true) rfl (fun _=>rest w6 (by rw[hf,hnm]) ho) fun h=>by cases h
 ·rw[show decide (o.k≠5)=true by rw[decide_eq_true_iff];exact k5,g_tf,g_tf,p_t,g_tt,l3 ho,g_tt,u_not];cases hks:uks with
 |false=>
   have k79:¬(o.k=7∨o.k=9):=by rw[huk,decide_eq_false_iff_not] at hks;exact hks
   rw[show (!false)=true from rfl,show sel (wants (Value.bool true) true) (Value.bool true)=.bool true from rfl,g_tf,g_tf,g_tt,p_t,p_t];rw[hks] at ho rest;exact c_must (r:=true) rfl (fun _=>rest w6 (by simp[Vl.form,k5,k79]) ho) fun h=>by cases h
 |true=>
   have k79:o.k=7∨o.k=9:=by rw[huk,decide_eq_true_iff] at hks;exact hks
   have hf:Vl.form o=Vl.rising o:=by simp[Vl.form,k5,k79]
   rw[show (!true)=false from rfl,show sel (wants (Value.bool true) true) (Value.bool false)=.bool false from rfl,g_ff,ob_v ho 1 rfl,g_ff];refine c_told (vrising_ret o _ w6 (ha.in_ ho).ov (by have:=key_len (o:=o);omega)) rfl ho fun w7 ho=>?_;rw[g_tt,p_f,p_t];rw[hks] at ho rest;exact c_must (r:=Vl.form o) hf.symm (fun hfo=>rest w7 hfo ho) fun h=>bad3 w7 _ ho h
theorem caught_plain:plainB prog 130=true:=by kernel_rfl
theorem leave_fn {rs:List RV}{K:Ending→World→Prop}{f:Nat}{args caps:Array Value}{ds:List Deferred}{u:FrameMode}(hu:u≠.run)(hp:plainB prog f=true){w:World}
  (h:CallsD prog f (args++caps) u w fun
   |.returned _,u',w'=>Leave prog rs K ds (settle u') w'
   |.panicked chain,u',w'=>Leave prog rs K ds (raised u' chain) w'
   |.outgrown,_,_=>False):Leave prog rs K ({ target:=.fn (.func f) caps,args:=args }::ds) u w:=
 ⟨hu,.func f,caps,f,args++caps,rfl,by simpa[invoke] using plain_run hp _ w,h⟩
theorem run_plain:plainB prog 83=true:=by kernel_rfl
abbrev nErr5:notAgg prog 30=true:=by kernel_rfl
theorem vCheck_ret (o:Ob)(v:Value)(w:World)(h:OV (InW w) w v o)(hb:o.wt≤4611686018427387904):Ret prog 51 #[v] w (fun v w'=>v=.int .i64 (Vl.check 1 o)∧Below w.heap.size w w'):=by
 refine ret_of fun K hK=>S_value_Check_ok ?_;obtain⟨vk,vc,cs,rfl,ha⟩:=h.open;unfold S_value_Check;refine o_obb o ha.keys.one ha.kids.one (Own.start w) fun b w1 ho=>?_;rw[m_func];refine c_any (S_value_caught_ok (K:=fun e w'=>e=.returned (.int .i64 (Vl.check 1 o))∧Below w.heap.size w w') ?_) ?_
 rotate_left
 ·rintro e w' ⟨rfl,hb'⟩;exact hK _ _ ⟨rfl,hb'⟩
 unfold S_value_caught;refine o_new (fun b=>.pointer (some ⟨b,0,none⟩)) [.int .i64 0] 30 (fun _=>by kernel_rfl) ho fun b2 w2 ho=>?_;rw[m_func];refine⟨_,rfl,?_⟩;refine c_val run_plain ?_;show CallX prog _ #[.pointer (some ⟨b,0,none⟩)] _ _ _;refine c_any (S_value_Check_1_ok (K:=fun e w'=>(Vl.check 1 o=0→e=.returned (.tuple #[])∧Below w2.heap.size w2 w')∧(Vl.check 1 o≠0→e=.panicked [badE (Vl.check 1 o)]∧Below w2.heap.size w2 w')) ?_) ?_
 ·unfold S_value_Check_1;rw[ob_v ho 1 rfl];refine c_any (vcheck_any o.wt o _ 1 w2 (fun e w'=>(Vl.check 1 o=0→e=.returned (.tuple #[])∧Below w2.heap.size w2 w')∧(Vl.check 1 o≠0→e=.panicked [badE (Vl.check 1 o)]∧Below w2.heap.size w2 w')) (Nat.le_refl _) (ha.in_ ho).ov hb (by omega) (by omega)
   (fun h0 w' hb'=>⟨fun _=>⟨rfl,hb'⟩,fun h=>absurd h0 h⟩) (fun h0 w' hb'=>⟨fun h=>absurd h h0,fun _=>⟨rfl,hb'⟩⟩)) ?_
  rintro e w' ⟨h1,h2⟩;by_cases h0:Vl.check 1 o=0
  ·obtain⟨rfl,hb'⟩:=h1 h0;exact⟨fun _=>⟨rfl,hb'⟩,fun h=>absurd h0 h⟩
  ·obtain⟨rfl,hb'⟩:=h2 h0;exact⟨fun h=>absurd h h0,fun _=>⟨rfl,hb'⟩⟩
 rintro e w' ⟨h1,h2⟩;by_cases h0:Vl.check 1 o=0
 ·obtain⟨rfl,hb'⟩:=h1 h0;simp only[Cont];have ho:=ho.grow hb';refine o_store 0 ho rfl (by kernel_rfl) rfl (by simp) fun w4 ho=>?_;refine leave_fn (by simp) caught_plain (S_value_caught_1_dok ?_);simp only[S_value_caught_1,recV,recM,Eng.e_nil Tryz.underlying20,rs];refine ret_cell1 nErr5 (ho.cell 0 rfl 0 rfl) (And.intro ?_ ho.done);rw[h0]
 ·obtain⟨rfl,hb'⟩:=h2 h0;simp only[Cont,S_value_caught_p0,pd];have ho:=ho.grow hb';refine leave_fn (by simp) caught_plain (S_value_caught_1_dok ?_);simp only[S_value_caught_1,recV,recM,Eng.e_some Tryz.underlying20,rs,t_hit (show notIface prog 162=true by kernel_rfl),
   x_ext (show [Value.agg #[.int .i64 (Vl.check 1 o)],Value.bool true][1]?=some (Value.bool true) from rfl),x_ext (show [Value.agg #[.int .i64 (Vl.check 1 o)],Value.bool true][0]?=some (Value.agg #[.int .i64 (Vl.check 1 o)]) from rfl)]
  refine o_new (fun b=>.pointer (some ⟨b,0,none⟩)) [.int .i64 0] 162 (fun _=>by kernel_rfl) ho fun b5 w5 ho=>?_;refine o_put 0 ho rfl (new:=[.int .i64 (Vl.check 1 o)]) (show (Tryz.prog.info? 162).map (·.size)=some 1 by kernel_rfl) (by simp;rfl) rfl fun w6 ho=>?_;rw[f_addr (show fOff prog 162 0=some 0 by kernel_rfl),l_cell nErr5 (ho.cell 0 rfl 0 rfl)];refine o_store 1 ho rfl (by kernel_rfl) rfl (by simp) fun w7 ho=>?_;exact ret_cell1 nErr5 (ho.cell 1 rfl 0 rfl) (And.intro rfl ho.done)
end
end Go.Proofs.YtjloddgofmdmgaaGreatDoor

namespace Go.Proofs.YtjloddgofmdmgaaGreatDoor
section
open Eng
def S_foliantref05_Get_0 (t1 t2 t4 t5 t18 t19 t20:Value)(w:World)(N1:List Value→World→Prop)(K:Ending→World→Prop):Prop:=
 DoX prog (mBin .lss 3 t20 t19) w (pk K) fun t21 w=>
 IfX t21 (DoX prog (mIA 24 t18 t20) w (pk K) fun t23 w=>
 DoX prog (mLoad 9 t23) w (pk K) fun t24 w=>
 DoX prog (mEq .eql 9 (.tmp 25) (.tmp 26) t24 t1) w (pk K) fun t27 w=>
 IfX t27 (DoX prog (mFA 27 t2 5) w (pk K) fun t29 w=>
 DoX prog (mLoad 25 t29) w (pk K) fun t30 w=>
 DoX prog (mB .len #[25] 3 #[false] #[t30]) w (pk K) fun t31 w=>
 DoX prog (mBin .geq 3 t20 t31) w (pk K) fun t32 w=>
 IfX t32 (DoX prog (mBuild 27 #[]) w (pk K) fun t33 w=>
 DoX prog (mStore 27 t4 t33) w (pk K) fun _ w=>
 RetX prog [.cell t4 27,.val (.bool false)] w K) (DoX prog (mFA 27 t2 5) w (pk K) fun t34 w=>
 DoX prog (mLoad 25 t34) w (pk K) fun t35 w=>
 DoX prog (mIA 25 t35 t20) w (pk K) fun t37 w=>
 DoX prog (mLoad 27 t37) w (pk K) fun t38 w=>
 DoX prog (mStore 27 t4 t38) w (pk K) fun _ w=>
 RetX prog [.cell t4 27,.val (.bool true)] w K)) (DoX prog (mBin .add 3 t20 (.int .i64 1)) w (pk K) fun t39 w=>
 N1 [t5,t39] w)) (DoX prog (mBuild 27 #[]) w (pk K) fun t40 w=>
 DoX prog (mStore 27 t4 t40) w (pk K) fun _ w=>
 RetX prog [.cell t4 27,.val (.bool false)] w K)
def S_foliantref05_Get (t0 t1:Value)(w:World)(K:Ending→World→Prop):Prop:=
 DoX prog (mBox 27 t0) w (pk K) fun t2 w=>
 DoX prog (mAlloc 27) w (pk K) fun t4 w=>
 DoX prog (mFA 27 t2 0) w (pk K) fun t8 w=>
 DoX prog (mLoad 3 t8) w (pk K) fun t9 w=>
 DoX prog (mEq .neq 3 (.tmp 9) (.const (.int .i64 7)) t9 (.int .i64 7)) w (pk K) fun t10 w=>
 GDo t10 true (fun E=>DoX prog (mFA 27 t2 0) w (pk K) E) w fun t12 w=>
 GDo t10 true (fun E=>DoX prog (mLoad 3 t12) w (pk K) E) w fun t13 w=>
 GDo t10 true (fun E=>DoX prog (mEq .neq 3 (.tmp 13) (.const (.int .i64 9)) t13 (.int .i64 9)) w (pk K) E) w fun t14 w=>
 DoX prog (mPick t10 t14 (.bool false)) w (pk K) fun t15 w=>
 IfX t15 (DoX prog (mBuild 27 #[]) w (pk K) fun t16 w=>
 DoX prog (mStore 27 t4 t16) w (pk K) fun _ w=>
 RetX prog [.cell t4 27,.val (.bool false)] w K) (DoX prog (mFA 27 t2 4) w (pk K) fun t17 w=>
 DoX prog (mLoad 24 t17) w (pk K) fun t18 w=>
 DoX prog (mB .len #[24] 3 #[false] #[t18]) w (pk K) fun t19 w=>
 LoopX [(.bool false),(.int .i64 0)] w (fun vs1 w N1=>∀_:Sg,S_foliantref05_Get_0 t1 t2 t4 (vs1.getD 0 undef) t18 t19 (vs1.getD 1 undef) w N1 K))
theorem S_foliantref05_Get_eq (t0 t1:Value)(w:World)(K:Ending→World→Prop):wpX prog 41 [] [(4,[5,20])] none (bodyOf Tryz.f18) (topQ prog [.cell 4 27,.tmp 5] K) (startX [t0,t1]) [] w=S_foliantref05_Get t0 t1 w K:=by kernel_rfl
theorem S_foliantref05_Get_ok {t0 t1:Value}{w:World}{K:Ending→World→Prop}(h:S_foliantref05_Get t0 t1 w K):Calls prog 18 #[t0,t1] w K:=
 calls_of_wpX Tryz.func18 rfl rfl rfl rfl (Eq.mpr (S_foliantref05_Get_eq t0 t1 w K) h)
end
section
open Go
theorem Ob.len_wts:∀os:List Ob,os.length≤Ob.wts os
|[]=>by simp
|o::os=>by
  have:=Ob.len_wts os;have:1≤o.wt:=by cases o;rw[Ob.wt];omega
  rw[Ob.wts,List.length_cons];omega
namespace Wr
def num (n:Int):List UInt8:=(Pl.pInt n).1
def nul:List UInt8:=[110,117,108,108]
def tru:List UInt8:=[116,114,117,101]
def fal:List UInt8:=[102,97,108,115,101]
def leaf (k n:Int)(s:List UInt8):List UInt8:=
 if k=1 then (if n=0 then fal else tru)
 else if k=2 then num n
 else if k=3 then (Pl.pReal n).1
 else if k=4 then (Pl.pStr s).1
 else if k=5 then (Pl.pName s).1
 else nul
 mutual
def parts:Ob→List (List UInt8)
|.mk k n g s keys kids=>
  if k=8 then [num n,num g,[82]]
  else if k=6 then [91]::(partsL kids++[[93]])
  else if k=7 then [60,60]::(partsD keys kids++[[62,62]])
  else [leaf k n s]
def partsL:List Ob→List (List UInt8)
|[]=>[]
|o::os=>parts o++partsL os
def partsD (keys:List (List UInt8)):List Ob→List (List UInt8)
|[]=>[]
|o::os=>match keys with
 |[]=>[]
 |key::ks=>(Pl.pName key).1::(parts o++partsD ks os)
end
theorem parts_eq (o:Ob):parts o=if o.k=8 then [num o.n,num o.g,[82]] else if o.k=6 then [91]::(partsL o.kids++[[93]]) else if o.k=7 then [60,60]::(partsD o.keys o.kids++[[62,62]]) else [leaf o.k o.n o.s]:=by
 cases o;rw[parts];rfl
theorem partsL_app:∀(a b:List Ob),partsL (a++b)=partsL a++partsL b
|[],b=>by simp[partsL]
|o::a,b=>by rw[List.cons_append,partsL,partsL,partsL_app a b,List.append_assoc]
theorem partsL_succ (os:List Ob)(i:Nat)(h:i < os.length):partsL (os.take (i+1))=partsL (os.take i)++parts os[i]:=by
 rw[List.take_succ_eq_append_getElem h,partsL_app];simp[partsL]
theorem partsD_succ:∀(ks:List (List UInt8)) (os:List Ob) (i:Nat) (h1:i < ks.length) (h2:i < os.length),partsD (ks.take (i+1)) (os.take (i+1))=partsD (ks.take i) (os.take i)++(Pl.pName ks[i]).1::parts os[i]
|key::ks,o::os,0,_,_=>by simp[partsD]
|key::ks,o::os,i+1,h1,h2=>by
  rw[List.take_succ_cons,List.take_succ_cons,partsD,partsD_succ ks os i (by simpa using h1) (by simpa using h2),List.take_succ_cons,List.take_succ_cons,partsD];simp
|[],_,_,h1,_=>by simp at h1
|_,[],_,_,h2=>by simp at h2
theorem partsD_min:∀(ks:List (List UInt8)) (os:List Ob) (i:Nat),ks.length≤i∨os.length≤i→partsD (ks.take i) (os.take i)=partsD ks os
|_,[],i,_=>by simp[partsD]
|[],o::os,i,_=>by
  cases i with
 |zero=>simp[partsD]
 |succ i=>simp[partsD]
|key::ks,o::os,i,h=>by
  cases i with
 |zero=>simp at h
 |succ i=>
   rw[List.take_succ_cons,List.take_succ_cons,partsD,partsD,partsD_min ks os i (by simpa using h)]
theorem partsD_nil (os:List Ob):partsD [] os=[]:=by cases os<;>rw[partsD]
theorem partsD_split:∀(ks:List (List UInt8)) (os:List Ob) (i:Nat),partsD ks os=partsD (ks.take i) (os.take i)++partsD (ks.drop i) (os.drop i)
|_,_,0=>by simp[partsD]
|_,[],i+1=>by simp[partsD]
|[],o::os,i+1=>by simp[partsD_nil]
|key::ks,o::os,i+1=>by
  rw[List.take_succ_cons,List.take_succ_cons,List.drop_succ_cons,List.drop_succ_cons,partsD,partsD,partsD_split ks os i];simp
theorem num_len (n:Int):(num n).length≤21:=by
 unfold num Pl.pInt;split
 ·exact Lib.itoa_length_le n (by omega) (by omega)
 ·simp
theorem real_len (n:Int):(Pl.pReal n).1.length≤200:=by
 unfold Pl.pReal;split
 ·show (Fx.text n).length≤200;unfold Fx.text;have h1:=Fx.row_len (n.natAbs / 10000) 1;have h2:=Fx.fpart_len n.natAbs;rw[if_pos (by assumption)];have h3:(if n < 0 then ([45]:List UInt8) else []).length≤1:=by split<;>simp
  simp only[List.length_append,List.length_cons,List.length_nil];omega
 ·simp
theorem str_len (s:List UInt8):(Pl.pStr s).1.length≤4*s.length+2:=by
 unfold Pl.pStr;split
 ·simp
 ·have:=Pl.flat_len Pl.esc 4 (fun c=>(Pl.esc_len c).2) s;simp[Pl.str];simp at this;omega
theorem name_len (s:List UInt8):(Pl.pName s).1.length≤3*s.length+1:=by
 unfold Pl.pName;split
 ·simp
 split
 ·simp
 ·have:=Pl.flat_len Pl.nmc 3 (fun c=>(Pl.nmc_len c).2) s;simp[Pl.name];simp at this;omega
theorem leaf_len (k n:Int)(s:List UInt8):(leaf k n s).length≤200+4*s.length:=by
 unfold leaf;split
 ·split<;>simp[fal,tru]<;>omega
 split
 ·have:=num_len n;omega
 split
 ·have:=real_len n;omega
 split
 ·have:=str_len s;omega
 split
 ·have:=name_len s;omega
 ·simp[nul];omega
 mutual
theorem parts_len:∀o:Ob,(parts o).length+3≤o.wt
|.mk k n g s keys kids=>by
  have h1:=partsL_len kids;have h2:=partsD_len keys kids;have h3:=Ob.wts kids;rw[parts,Ob.wt];split
  ·simp;omega
  split
  ·simp;omega
  split
  ·simp;omega
  ·simp;omega
theorem partsL_len:∀os:List Ob,(partsL os).length+3*os.length≤Ob.wts os
|[]=>by simp[partsL]
|o::os=>by
  have:=parts_len o;have:=partsL_len os;rw[partsL,Ob.wts];simp;omega
theorem partsD_len (keys:List (List UInt8)):∀os:List Ob,(partsD keys os).length+2*os.length≤Ob.wts os
|[]=>by simp[partsD]
|o::os=>by
  have:=parts_len o;cases keys with
 |nil=>rw[partsD,Ob.wts];have:=partsD_len [] os;simp;omega
 |cons key ks=>have:=partsD_len ks os;rw[partsD,Ob.wts];simp;omega
end
 mutual
theorem parts_tot:∀o:Ob,Pl.tot (parts o)≤40*o.wt
|.mk k n g s keys kids=>by
  have h1:=partsL_tot kids;have h2:=partsD_tot keys kids;rw[parts,Ob.wt];split
  ·have:=num_len n;have:=num_len g;simp[Pl.tot];omega
  split
  ·rw[show [91]::(partsL kids++[[93]])=[[91]]++(partsL kids++[[93]]) from rfl,Pl.tot_append,Pl.tot_append];simp[Pl.tot] at *;omega
  split
  ·rw[show [60,60]::(partsD keys kids++[[62,62]])=[[60,60]]++(partsD keys kids++[[62,62]]) from rfl,Pl.tot_append,Pl.tot_append];simp[Pl.tot] at *;omega
  ·have:=leaf_len k n s;simp[Pl.tot];omega
theorem partsL_tot:∀os:List Ob,Pl.tot (partsL os)≤40*Ob.wts os
|[]=>by simp[partsL,Pl.tot]
|o::os=>by
  have:=parts_tot o;have:=partsL_tot os;rw[partsL,Ob.wts,Pl.tot_append];omega
theorem partsD_tot (keys:List (List UInt8)):∀os:List Ob,Pl.tot (partsD keys os)≤40*Ob.wts os+3*Pl.tot keys
|[]=>by simp[partsD,Pl.tot]
|o::os=>by
  have:=parts_tot o;cases keys with
 |nil=>simp[partsD,Pl.tot]
 |cons key ks=>
   have:=partsD_tot ks os;have:=name_len key;rw[partsD,Ob.wts,show (Pl.pName key).1::(parts o++partsD ks os)=[(Pl.pName key).1]++(parts o++partsD ks os) from rfl,show key::ks=[key]++ks from rfl,Pl.tot_append,Pl.tot_append,Pl.tot_append];simp[Pl.tot] at *;omega
end
def text (o:Ob):List UInt8×Int:=if Vl.check 1 o≠0 then ([],Vl.check 1 o) else if o.k=9 then ([],10) else (Pl.join (parts o),0)
theorem text_len (o:Ob):(text o).1.length≤40*o.wt:=by
 unfold text;split
 ·simp
 split
 ·simp
 ·have:=Pl.join_len (parts o);have:=parts_tot o;simp only;omega
theorem check_kids {d:Nat}{o:Ob}(h:Vl.check d o=0):∀x∈o.kids,Vl.check (d+1) x=0:=by
 rw[Vl.check_eq] at h;split at h
 ·rename_i hw;exact absurd h hw
 ·generalize o.kids=os at h ⊢
  induction os with
 |nil=>intro x hx;cases hx
 |cons a os ih=>
   rw[Vl.checks] at h;split at h
   ·rename_i hw;exact absurd h hw
   ·rename_i hw
    intro x hx;rcases List.mem_cons.1 hx with rfl|hx
    ·exact Classical.not_not.1 hw
    ·exact ih h x hx
theorem check_why {d:Nat}{o:Ob}(h:Vl.check d o=0):Vl.why d o=0:=by
 rw[Vl.check_eq] at h;split at h
 ·exact h
 ·rename_i hw;exact Classical.not_not.1 hw
end Wr
end
end Go.Proofs.YtjloddgofmdmgaaGreatDoor

namespace Go.Proofs.YtjloddgofmdmgaaGreatDoor
section
open Eng
def S_foliantref01_Delim (t0:Value)(w:World)(K:Ending→World→Prop):Prop:=
 DoX prog (mEq .eql 5 (.tmp 3) (.const (.int .u8 40)) t0 (.int .u8 40)) w (pk K) fun t4 w=>
 GDo t4 false (fun E=>E t0 w) w fun t6 w=>
 GDo t4 false (fun E=>DoX prog (mEq .eql 5 (.tmp 6) (.const (.int .u8 41)) t6 (.int .u8 41)) w (pk K) E) w fun t7 w=>
 DoX prog (mPick t4 (.bool true) t7) w (pk K) fun t8 w=>
 GDo t8 false (fun E=>E t0 w) w fun t10 w=>
 GDo t8 false (fun E=>DoX prog (mEq .eql 5 (.tmp 10) (.const (.int .u8 60)) t10 (.int .u8 60)) w (pk K) E) w fun t11 w=>
 DoX prog (mPick t8 (.bool true) t11) w (pk K) fun t12 w=>
 GDo t12 false (fun E=>E t0 w) w fun t14 w=>
 GDo t12 false (fun E=>DoX prog (mEq .eql 5 (.tmp 14) (.const (.int .u8 62)) t14 (.int .u8 62)) w (pk K) E) w fun t15 w=>
 DoX prog (mPick t12 (.bool true) t15) w (pk K) fun t16 w=>
 GDo t16 false (fun E=>E t0 w) w fun t18 w=>
 GDo t16 false (fun E=>DoX prog (mEq .eql 5 (.tmp 18) (.const (.int .u8 91)) t18 (.int .u8 91)) w (pk K) E) w fun t19 w=>
 DoX prog (mPick t16 (.bool true) t19) w (pk K) fun t20 w=>
 GDo t20 false (fun E=>E t0 w) w fun t22 w=>
 GDo t20 false (fun E=>DoX prog (mEq .eql 5 (.tmp 22) (.const (.int .u8 93)) t22 (.int .u8 93)) w (pk K) E) w fun t23 w=>
 DoX prog (mPick t20 (.bool true) t23) w (pk K) fun t24 w=>
 GDo t24 false (fun E=>E t0 w) w fun t26 w=>
 GDo t24 false (fun E=>DoX prog (mEq .eql 5 (.tmp 26) (.const (.int .u8 123)) t26 (.int .u8 123)) w (pk K) E) w fun t27 w=>
 DoX prog (mPick t24 (.bool true) t27) w (pk K) fun t28 w=>
 GDo t28 false (fun E=>E t0 w) w fun t30 w=>
 GDo t28 false (fun E=>DoX prog (mEq .eql 5 (.tmp 30) (.const (.int .u8 125)) t30 (.int .u8 125)) w (pk K) E) w fun t31 w=>
 DoX prog (mPick t28 (.bool true) t31) w (pk K) fun t32 w=>
 GDo t32 false (fun E=>E t0 w) w fun t34 w=>
 GDo t32 false (fun E=>DoX prog (mEq .eql 5 (.tmp 34) (.const (.int .u8 47)) t34 (.int .u8 47)) w (pk K) E) w fun t35 w=>
 DoX prog (mPick t32 (.bool true) t35) w (pk K) fun t36 w=>
 GDo t36 false (fun E=>E t0 w) w fun t38 w=>
 GDo t36 false (fun E=>DoX prog (mEq .eql 5 (.tmp 38) (.const (.int .u8 37)) t38 (.int .u8 37)) w (pk K) E) w fun t39 w=>
 DoX prog (mPick t36 (.bool true) t39) w (pk K) fun t40 w=>
 K (.returned t40) w
theorem S_foliantref01_Delim_eq (t0:Value)(w:World)(K:Ending→World→Prop):wpX prog 41 [] [] none (bodyOf Tryz.f154) (topQ prog [.tmp 2] K) (startX [t0]) [] w=S_foliantref01_Delim t0 w K:=by kernel_rfl
theorem S_foliantref01_Delim_ok {t0:Value}{w:World}{K:Ending→World→Prop}(h:S_foliantref01_Delim t0 w K):Calls prog 154 #[t0] w K:=
 calls_of_wpX Tryz.func154 rfl rfl rfl rfl (Eq.mpr (S_foliantref01_Delim_eq t0 w K) h)
def S_foliantref01_Regular (t0:Value)(w:World)(K:Ending→World→Prop):Prop:=
 CallX prog 123 #[t0] w (pk K) fun t4 w=>
 DoX prog (mUn .not t4) w (pk K) fun t5 w=>
 GDo t5 true (fun E=>E t0 w) w fun t7 w=>
 GDo t5 true (fun E=>CallX prog 154 #[t7] w (pk K) E) w fun t8 w=>
 GDo t5 true (fun E=>DoX prog (mUn .not t8) w (pk K) E) w fun t9 w=>
 DoX prog (mPick t5 t9 (.bool false)) w (pk K) fun t10 w=>
 K (.returned t10) w
theorem S_foliantref01_Regular_eq (t0:Value)(w:World)(K:Ending→World→Prop):wpX prog 11 [] [] none (bodyOf Tryz.f102) (topQ prog [.tmp 2] K) (startX [t0]) [] w=S_foliantref01_Regular t0 w K:=by kernel_rfl
theorem S_foliantref01_Regular_ok {t0:Value}{w:World}{K:Ending→World→Prop}(h:S_foliantref01_Regular t0 w K):Calls prog 102 #[t0] w K:=
 calls_of_wpX Tryz.func102 rfl rfl rfl rfl (Eq.mpr (S_foliantref01_Regular_eq t0 w K) h)
def S_foliantref01_White (t0:Value)(w:World)(K:Ending→World→Prop):Prop:=
 DoX prog (mEq .eql 5 (.tmp 3) (.const (.int .u8 0)) t0 (.int .u8 0)) w (pk K) fun t4 w=>
 GDo t4 false (fun E=>E t0 w) w fun t6 w=>
 GDo t4 false (fun E=>DoX prog (mEq .eql 5 (.tmp 6) (.const (.int .u8 9)) t6 (.int .u8 9)) w (pk K) E) w fun t7 w=>
 DoX prog (mPick t4 (.bool true) t7) w (pk K) fun t8 w=>
 GDo t8 false (fun E=>E t0 w) w fun t10 w=>
 GDo t8 false (fun E=>DoX prog (mEq .eql 5 (.tmp 10) (.const (.int .u8 10)) t10 (.int .u8 10)) w (pk K) E) w fun t11 w=>
 DoX prog (mPick t8 (.bool true) t11) w (pk K) fun t12 w=>
 GDo t12 false (fun E=>E t0 w) w fun t14 w=>
 GDo t12 false (fun E=>DoX prog (mEq .eql 5 (.tmp 14) (.const (.int .u8 12)) t14 (.int .u8 12)) w (pk K) E) w fun t15 w=>
 DoX prog (mPick t12 (.bool true) t15) w (pk K) fun t16 w=>
 GDo t16 false (fun E=>E t0 w) w fun t18 w=>
 GDo t16 false (fun E=>DoX prog (mEq .eql 5 (.tmp 18) (.const (.int .u8 13)) t18 (.int .u8 13)) w (pk K) E) w fun t19 w=>
 DoX prog (mPick t16 (.bool true) t19) w (pk K) fun t20 w=>
 GDo t20 false (fun E=>E t0 w) w fun t22 w=>
 GDo t20 false (fun E=>DoX prog (mEq .eql 5 (.tmp 22) (.const (.int .u8 32)) t22 (.int .u8 32)) w (pk K) E) w fun t23 w=>
 DoX prog (mPick t20 (.bool true) t23) w (pk K) fun t24 w=>
 K (.returned t24) w
theorem S_foliantref01_White_eq (t0:Value)(w:World)(K:Ending→World→Prop):wpX prog 25 [] [] none (bodyOf Tryz.f123) (topQ prog [.tmp 2] K) (startX [t0]) [] w=S_foliantref01_White t0 w K:=by kernel_rfl
theorem S_foliantref01_White_ok {t0:Value}{w:World}{K:Ending→World→Prop}(h:S_foliantref01_White t0 w K):Calls prog 123 #[t0] w K:=
 calls_of_wpX Tryz.func123 rfl rfl rfl rfl (Eq.mpr (S_foliantref01_White_eq t0 w K) h)
end
section
open Eng Go.RowKit
theorem rwhite_ret (c:UInt8)(w:World):Ret prog 123 #[.int .u8 c.toNat] w (fun v w'=>v=.bool (Oc.white c)∧w=w'):=by
 refine ret_of fun K hK=>S_foliantref01_White_ok ?_;unfold S_foliantref01_White;have e0:=u8d c 0 0 rfl;have e1:=u8d c 9 9 rfl;have e2:=u8d c 10 10 rfl;have e3:=u8d c 12 12 rfl;have e4:=u8d c 13 13 rfl;have e5:=u8d c 32 32 rfl;by_cases h0:c=0
 ·simp only[rs,e0,decide_eq_true h0,g_un];exact hK _ _ ⟨by rw[h0];rfl,rfl⟩
 simp only[rs,e0,decide_eq_false h0,g_un];by_cases h1:c=9
 ·simp only[rs,e1,decide_eq_true h1,g_un];exact hK _ _ ⟨by rw[h1];rfl,rfl⟩
 simp only[rs,e1,decide_eq_false h1,g_un];by_cases h2:c=10
 ·simp only[rs,e2,decide_eq_true h2,g_un];exact hK _ _ ⟨by rw[h2];rfl,rfl⟩
 simp only[rs,e2,decide_eq_false h2,g_un];by_cases h3:c=12
 ·simp only[rs,e3,decide_eq_true h3,g_un];exact hK _ _ ⟨by rw[h3];rfl,rfl⟩
 simp only[rs,e3,decide_eq_false h3,g_un];by_cases h4:c=13
 ·simp only[rs,e4,decide_eq_true h4,g_un];exact hK _ _ ⟨by rw[h4];rfl,rfl⟩
 simp only[rs,e4,decide_eq_false h4,g_un];by_cases h5:c=32
 ·simp only[rs,e5,decide_eq_true h5,g_un];exact hK _ _ ⟨by rw[h5];rfl,rfl⟩
 simp only[rs,e5,decide_eq_false h5,g_un];exact hK _ _ ⟨by simp[Oc.white,Oc.whites,h0,h1,h2,h3,h4,h5],rfl⟩
theorem rdelim_ret (c:UInt8)(w:World):Ret prog 154 #[.int .u8 c.toNat] w (fun v w'=>v=.bool (Oc.delim c)∧w=w'):=by
 refine ret_of fun K hK=>S_foliantref01_Delim_ok ?_;unfold S_foliantref01_Delim;have e0:=u8d c 40 40 rfl;have e1:=u8d c 41 41 rfl;have e2:=u8d c 60 60 rfl;have e3:=u8d c 62 62 rfl;have e4:=u8d c 91 91 rfl;have e5:=u8d c 93 93 rfl;have e6:=u8d c 123 123 rfl;have e7:=u8d c 125 125 rfl;have e8:=u8d c 47 47 rfl;have e9:=u8d c 37 37 rfl;by_cases h0:c=40
 ·simp only[rs,e0,decide_eq_true h0,g_un];exact hK _ _ ⟨by rw[h0];rfl,rfl⟩
 simp only[rs,e0,decide_eq_false h0,g_un];by_cases h1:c=41
 ·simp only[rs,e1,decide_eq_true h1,g_un];exact hK _ _ ⟨by rw[h1];rfl,rfl⟩
 simp only[rs,e1,decide_eq_false h1,g_un];by_cases h2:c=60
 ·simp only[rs,e2,decide_eq_true h2,g_un];exact hK _ _ ⟨by rw[h2];rfl,rfl⟩
 simp only[rs,e2,decide_eq_false h2,g_un];by_cases h3:c=62
 ·simp only[rs,e3,decide_eq_true h3,g_un];exact hK _ _ ⟨by rw[h3];rfl,rfl⟩
 simp only[rs,e3,decide_eq_false h3,g_un];by_cases h4:c=91
 ·simp only[rs,e4,decide_eq_true h4,g_un];exact hK _ _ ⟨by rw[h4];rfl,rfl⟩
 simp only[rs,e4,decide_eq_false h4,g_un];by_cases h5:c=93
 ·simp only[rs,e5,decide_eq_true h5,g_un];exact hK _ _ ⟨by rw[h5];rfl,rfl⟩
 simp only[rs,e5,decide_eq_false h5,g_un];by_cases h6:c=123
 ·simp only[rs,e6,decide_eq_true h6,g_un];exact hK _ _ ⟨by rw[h6];rfl,rfl⟩
 simp only[rs,e6,decide_eq_false h6,g_un];by_cases h7:c=125
 ·simp only[rs,e7,decide_eq_true h7,g_un];exact hK _ _ ⟨by rw[h7];rfl,rfl⟩
 simp only[rs,e7,decide_eq_false h7,g_un];by_cases h8:c=47
 ·simp only[rs,e8,decide_eq_true h8,g_un];exact hK _ _ ⟨by rw[h8];rfl,rfl⟩
 simp only[rs,e8,decide_eq_false h8,g_un];by_cases h9:c=37
 ·simp only[rs,e9,decide_eq_true h9,g_un];exact hK _ _ ⟨by rw[h9];rfl,rfl⟩
 simp only[rs,e9,decide_eq_false h9,g_un];exact hK _ _ ⟨by simp[Oc.delim,Oc.delims,h0,h1,h2,h3,h4,h5,h6,h7,h8,h9],rfl⟩
theorem rregular_ret (c:UInt8)(w:World):Ret prog 102 #[.int .u8 c.toNat] w (fun v w'=>v=.bool (Oc.regular c)∧w=w'):=by
 refine ret_of fun K hK=>S_foliantref01_Regular_ok ?_;unfold S_foliantref01_Regular;refine c_eq (rwhite_ret c w) ?_;cases hw:Oc.white c with
|true=>simp only[rs];exact hK _ _ ⟨by simp[Oc.regular,hw],rfl⟩
|false=>
  simp only[rs];refine c_eq (rdelim_ret c w) ?_;simp only[rs];exact hK _ _ ⟨by simp[Oc.regular,hw],rfl⟩
abbrev BRow (v:Value)(l:List UInt8):Ent:=.row 5 1 v l.length (bytesV l)
theorem o_appB {S:Nat→Prop}{w0 w:World}{L:List Ent}{v:Value}{l m:List UInt8}{parts:Array (Nat×Value)}{n:Nat}{cs:Array Bool}{PK PK2:PKT}{K:VWP}
  (hm:∀w,(mBuildS 71 n parts).run prog w=.ok (.value (.slice (some ⟨w.heap.size,0,none⟩) m.length m.length)) (w.alloc (.cells (bytesV m).toArray 5)))
  (ho:OwnS S w0 w (BRow v l::L)) (hb:l.length+m.length≤140737488355328) (k:∀v' w',OwnS S w0 w' (BRow v' (l++m)::L)→K v' w') :
  DoX prog (mBuildS 71 n parts) w PK fun t w=>DoX prog (mB .append #[71,71] 71 cs #[v,t]) w PK2 K:=by
 refine o_new (fun b=>.slice (some ⟨b,0,none⟩) m.length m.length) (bytesV m) 5 hm ho fun nb w4 h4=>?_;refine o_append 1 Tryz.underlying71 (show elB prog 5 1 1=true by kernel_rfl) (by decide) h4 rfl (h4.sl 0 rfl 1 m.length m.length (by rw[bytesV_length,Nat.mul_one])) (bytesV_one _) (by omega) (by omega) fun v' w5 h5=>?_;refine k v' w5 ?_;have e:BRow v' (l++m)=.row 5 1 v' (l.length+m.length) (bytesV l++bytesV m):=by
  rw[BRow,bytesV_append,List.length_append]
 rw[e];exact h5.tail
theorem o_strB {S:Nat→Prop}{w0 w:World}{L:List Ent}{v:Value}{l:List UInt8}{PK:PKT}{K:VWP}(i:Nat)(ho:OwnS S w0 w L)(hi:L[i]?=some (BRow v l)) :
  DoX prog (mConv 71 9 v) w PK K=K (.string ⟨l.toArray⟩) w:=
 c_bytes (l:=l) Tryz.underlying71 Tryz.underlying5 Tryz.underlying9 (ho.slRow i hi)
end
end Go.Proofs.YtjloddgofmdmgaaGreatDoor

namespace Go.Proofs.YtjloddgofmdmgaaGreatDoor
section
open Go
namespace Lx
open Oc
theorem take_cons {c:UInt8}{t:List UInt8}{n:Nat}(h:1≤n):(c::t).take n=c::t.take (n - 1):=by
 obtain⟨m,rfl⟩:∃m,n=m+1:=⟨n - 1,by omega⟩;rfl
theorem map_some {α β:Type}{f:α→β}{x:Option α}{r:β}(h:x.map f=some r):∃q,x=some q∧r=f q:=by
 cases x with
|none=>cases h
|some q=>cases h;exact⟨q,rfl,rfl⟩
theorem runF_take:∀l:List UInt8,(l.take (runF l)).all regular=true∧runF (l.take (runF l))=runF l
|[]=>by simp[runF]
|c::t=>by
  obtain⟨i1,i2⟩:=runF_take t;simp only[runF];by_cases h:regular c=true
  ·rw[if_pos h,take_cons (by omega),Nat.add_sub_cancel_left];simp only[runF,i2,List.all_cons,h,i1,Bool.and_self,if_true,and_self]
  ·rw[if_neg h];simp[runF]
end Lx
end
section
open Go
namespace Lx
open Oc
theorem all8 {p:UInt8→Prop}(h:∀n:Fin 256,p (UInt8.ofNat n.val))(c:UInt8):p c:=by
 have:=h ⟨c.toNat,c.toNat_lt⟩;simpa using this
end Lx
end
end Go.Proofs.YtjloddgofmdmgaaGreatDoor


namespace Go.Proofs.YtjloddgofmdmgaaGreatDoor
section
open Go
namespace Lx
open Oc
def Single (u:List UInt8)(x:Tok):Prop:=next u 0=(x,0)∧x.k≠0∧x.a=0∧x.t=u.length
end Lx
end
end Go.Proofs.YtjloddgofmdmgaaGreatDoor



namespace Go.Proofs.YtjloddgofmdmgaaGreatDoor
section
open Eng
def S_octet_Digit (t0:Value)(w:World)(K:Ending→World→Prop):Prop:=
 DoX prog (mBin .geq 5 t0 (.int .u8 48)) w (pk K) fun t5 w=>
 GDo t5 true (fun E=>E t0 w) w fun t7 w=>
 GDo t5 true (fun E=>DoX prog (mBin .leq 5 t7 (.int .u8 57)) w (pk K) E) w fun t8 w=>
 DoX prog (mPick t5 t8 (.bool false)) w (pk K) fun t9 w=>
 IfX t9 (DoX prog (mBin .sub 5 t0 (.int .u8 48)) w (pk K) fun t11 w=>
 DoX prog (mConv 5 3 t11) w (pk K) fun t12 w=>
 K (.returned t12) w) (DoX prog (mBin .geq 5 t0 (.int .u8 65)) w (pk K) fun t15 w=>
 GDo t15 true (fun E=>E t0 w) w fun t17 w=>
 GDo t15 true (fun E=>DoX prog (mBin .leq 5 t17 (.int .u8 70)) w (pk K) E) w fun t18 w=>
 DoX prog (mPick t15 t18 (.bool false)) w (pk K) fun t19 w=>
 IfX t19 (DoX prog (mBin .sub 5 t0 (.int .u8 65)) w (pk K) fun t21 w=>
 DoX prog (mConv 5 3 t21) w (pk K) fun t22 w=>
 DoX prog (mBin .add 3 t22 (.int .i64 10)) w (pk K) fun t23 w=>
 K (.returned t23) w) (DoX prog (mBin .geq 5 t0 (.int .u8 97)) w (pk K) fun t26 w=>
 GDo t26 true (fun E=>E t0 w) w fun t28 w=>
 GDo t26 true (fun E=>DoX prog (mBin .leq 5 t28 (.int .u8 102)) w (pk K) E) w fun t29 w=>
 DoX prog (mPick t26 t29 (.bool false)) w (pk K) fun t30 w=>
 IfX t30 (DoX prog (mBin .sub 5 t0 (.int .u8 97)) w (pk K) fun t32 w=>
 DoX prog (mConv 5 3 t32) w (pk K) fun t33 w=>
 DoX prog (mBin .add 3 t33 (.int .i64 10)) w (pk K) fun t34 w=>
 K (.returned t34) w) (K (.returned (.int .i64 (-1))) w)))
theorem S_octet_Digit_eq (t0:Value)(w:World)(K:Ending→World→Prop):wpX prog 35 [] [] none (bodyOf Tryz.f161) (topQ prog [.tmp 2] K) (startX [t0]) [] w=S_octet_Digit t0 w K:=by kernel_rfl
theorem S_octet_Digit_ok {t0:Value}{w:World}{K:Ending→World→Prop}(h:S_octet_Digit t0 w K):Calls prog 161 #[t0] w K:=
 calls_of_wpX Tryz.func161 rfl rfl rfl rfl (Eq.mpr (S_octet_Digit_eq t0 w K) h)
def S_octet_Unhex_0 (t0 t4 t5:Value)(w:World)(N1:List Value→World→Prop)(K:Ending→World→Prop):Prop:=
 DoX prog (mB .len #[9] 3 #[false] #[t0]) w (pk K) fun t18 w=>
 DoX prog (mBin .lss 3 t5 t18) w (pk K) fun t19 w=>
 IfX t19 (QuietX w (fun C2=>
 QDo prog C2 (mIx 9 t0 t5) fun t24=>
 QCall prog C2 161 #[t24] fun t25=>
 QDo prog C2 (mBin .add 3 t5 (.int .i64 1)) fun t28=>
 QDo prog C2 (mIx 9 t0 t28) fun t29=>
 QCall prog C2 161 #[t29] fun t30=>
 ∀w,C2 w →
 DoX prog (mBin .lss 3 t25 (.int .i64 0)) w (pk K) fun t32 w=>
 GDo t32 false (fun E=>E t30 w) w fun t34 w=>
 GDo t32 false (fun E=>DoX prog (mBin .lss 3 t34 (.int .i64 0)) w (pk K) E) w fun t35 w=>
 DoX prog (mPick t32 (.bool true) t35) w (pk K) fun t36 w=>
 IfX t36 (K (.returned (.tuple #[(.string ⟨#[]⟩),(.int .i64 3)])) w) (DoX prog (mBin .shl 3 t25 (.int .u64 4)) w (pk K) fun t39 w=>
 DoX prog (mBin .or 3 t39 t30) w (pk K) fun t41 w=>
 DoX prog (mConv 3 5 t41) w (pk K) fun t42 w=>
 DoX prog (mBuildS 71 1 #[(0,t42)]) w (pk K) fun t43 w=>
 DoX prog (mB .append #[71,71] 71 #[false,false] #[t4,t43]) w (pk K) fun t44 w=>
 DoX prog (mBin .add 3 t5 (.int .i64 2)) w (pk K) fun t21 w=>
 N1 [t44,t21] w))) (DoX prog (mConv 71 9 t4) w (pk K) fun t46 w=>
 K (.returned (.tuple #[t46,(.int .i64 0)])) w)
def S_octet_Unhex (t0:Value)(w:World)(K:Ending→World→Prop):Prop:=
 DoX prog (mB .len #[9] 3 #[false] #[t0]) w (pk K) fun t9 w=>
 DoX prog (mBin .rem 3 t9 (.int .i64 2)) w (pk K) fun t10 w=>
 DoX prog (mEq .neq 3 (.tmp 10) (.const (.int .i64 0)) t10 (.int .i64 0)) w (pk K) fun t11 w=>
 IfX t11 (K (.returned (.tuple #[(.string ⟨#[]⟩),(.int .i64 3)])) w) (DoX prog (mB .len #[9] 3 #[false] #[t0]) w (pk K) fun t13 w=>
 DoX prog (mBin .quo 3 t13 (.int .i64 2)) w (pk K) fun t14 w=>
 DoX prog (mMake 71 (.int .i64 0) t14) w (pk K) fun t15 w=>
 LoopX [t15,(.int .i64 0)] w (fun vs1 w N1=>∀_:Sg,S_octet_Unhex_0 t0 (vs1.getD 0 undef) (vs1.getD 1 undef) w N1 K))
theorem S_octet_Unhex_eq (t0:Value)(w:World)(K:Ending→World→Prop):wpX prog 47 [] [(5,[4,5])] none (bodyOf Tryz.f163) (topQ prog [.tmp 2,.tmp 3] K) (startX [t0]) [] w=S_octet_Unhex t0 w K:=by kernel_rfl
theorem S_octet_Unhex_ok {t0:Value}{w:World}{K:Ending→World→Prop}(h:S_octet_Unhex t0 w K):Calls prog 163 #[t0] w K:=
 calls_of_wpX Tryz.func163 rfl rfl rfl rfl (Eq.mpr (S_octet_Unhex_eq t0 w K) h)
def S_octet_Begins (t0 t1 t2:Value)(w:World)(K:Ending→World→Prop):Prop:=
 DoX prog (mBin .geq 3 t2 (.int .i64 0)) w (pk K) fun t8 w=>
 GDo t8 true (fun E=>E t2 w) w fun t10 w=>
 GDo t8 true (fun E=>E t0 w) w fun t11 w=>
 GDo t8 true (fun E=>DoX prog (mB .len #[9] 3 #[false] #[t11]) w (pk K) E) w fun t12 w=>
 GDo t8 true (fun E=>DoX prog (mBin .leq 3 t10 t12) w (pk K) E) w fun t13 w=>
 DoX prog (mPick t8 t13 (.bool false)) w (pk K) fun t14 w=>
 GDo t14 true (fun E=>E t0 w) w fun t16 w=>
 GDo t14 true (fun E=>E t2 w) w fun t17 w=>
 GDo t14 true (fun E=>DoX prog (mSlice 9 t16 (some t17) none none) w (pk K) E) w fun t18 w=>
 GDo t14 true (fun E=>E t1 w) w fun t19 w=>
 GDo t14 true (fun E=>CallX prog 62 #[t18,t19] w (pk K) E) w fun t20 w=>
 DoX prog (mPick t14 t20 (.bool false)) w (pk K) fun t21 w=>
 K (.returned t21) w
theorem S_octet_Begins_eq (t0 t1 t2:Value)(w:World)(K:Ending→World→Prop):wpX prog 22 [] [] none (bodyOf Tryz.f44) (topQ prog [.tmp 6] K) (startX [t0,t1,t2]) [] w=S_octet_Begins t0 t1 t2 w K:=by kernel_rfl
theorem S_octet_Begins_ok {t0 t1 t2:Value}{w:World}{K:Ending→World→Prop}(h:S_octet_Begins t0 t1 t2 w K):Calls prog 44 #[t0,t1,t2] w K:=
 calls_of_wpX Tryz.func44 rfl rfl rfl rfl (Eq.mpr (S_octet_Begins_eq t0 t1 t2 w K) h)
def S_octet_Skip_1 (t1 t5:Value)(w:World)(N1:List Value→World→Prop)(K:Ending→World→Prop):Prop:=
 DoX prog (mBin .add 3 t1 (.int .i64 1)) w (pk K) fun t21 w=>
 N1 [t21,t5] w
def S_octet_Skip_0 (t0 t1 t5:Value)(w:World)(N1:List Value→World→Prop)(K:Ending→World→Prop):Prop:=
 DoX prog (mB .len #[9] 3 #[false] #[t0]) w (pk K) fun t18 w=>
 DoX prog (mBin .lss 3 t1 t18) w (pk K) fun t19 w=>
 IfX t19 (JoinX (fun J2=>
 DoX prog (mIx 9 t0 t1) w (pk K) fun t24 w=>
 IfX t5 (CallX prog 159 #[t24] w (pk K) fun t28 w=>
 DoX prog (mUn .not t28) w (pk K) fun t29 w=>
 J2 [t29] w) (DoX prog (mEq .eql 5 (.tmp 31) (.const (.int .u8 37)) t24 (.int .u8 37)) w (pk K) fun t32 w=>
 IfX t32 (J2 [(.bool true)] w) (CallX prog 137 #[t24] w (pk K) fun t35 w=>
 DoX prog (mUn .not t35) w (pk K) fun t36 w=>
 IfX t36 (K (.returned t1) w) (J2 [t5] w)))) (fun vs2 w=>∀_:Sg,S_octet_Skip_1 t1 (vs2.getD 0 undef) w N1 K)) (DoX prog (mB .len #[9] 3 #[false] #[t0]) w (pk K) fun t39 w=>
 K (.returned t39) w)
def S_octet_Skip (t0 t1:Value)(w:World)(K:Ending→World→Prop):Prop:=
 DoX prog (mBin .lss 3 t1 (.int .i64 0)) w (pk K) fun t8 w=>
 GDo t8 false (fun E=>E t1 w) w fun t10 w=>
 GDo t8 false (fun E=>E t0 w) w fun t11 w=>
 GDo t8 false (fun E=>DoX prog (mB .len #[9] 3 #[false] #[t11]) w (pk K) E) w fun t12 w=>
 GDo t8 false (fun E=>DoX prog (mBin .gtr 3 t10 t12) w (pk K) E) w fun t13 w=>
 DoX prog (mPick t8 (.bool true) t13) w (pk K) fun t14 w=>
 IfX t14 (K (.returned t1) w) (LoopX [t1,(.bool false)] w (fun vs1 w N1=>∀_:Sg,S_octet_Skip_0 t0 (vs1.getD 0 undef) (vs1.getD 1 undef) w N1 K))
theorem S_octet_Skip_eq (t0 t1:Value)(w:World)(K:Ending→World→Prop):wpX prog 40 [(5,[5])] [(4,[1,5])] none (bodyOf Tryz.f108) (topQ prog [.tmp 4] K) (startX [t0,t1]) [] w=S_octet_Skip t0 t1 w K:=by kernel_rfl
theorem S_octet_Skip_ok {t0 t1:Value}{w:World}{K:Ending→World→Prop}(h:S_octet_Skip t0 t1 w K):Calls prog 108 #[t0,t1] w K:=
 calls_of_wpX Tryz.func108 rfl rfl rfl rfl (Eq.mpr (S_octet_Skip_eq t0 t1 w K) h)
def S_octet_Line_0 (t0 t1:Value)(w:World)(N1:List Value→World→Prop)(K:Ending→World→Prop):Prop:=
 DoX prog (mB .len #[9] 3 #[false] #[t0]) w (pk K) fun t16 w=>
 DoX prog (mBin .lss 3 t1 t16) w (pk K) fun t17 w=>
 IfX t17 (DoX prog (mIx 9 t0 t1) w (pk K) fun t22 w=>
 DoX prog (mEq .eql 5 (.tmp 22) (.const (.int .u8 10)) t22 (.int .u8 10)) w (pk K) fun t24 w=>
 IfX t24 (DoX prog (mBin .add 3 t1 (.int .i64 1)) w (pk K) fun t26 w=>
 K (.returned t26) w) (DoX prog (mEq .eql 5 (.tmp 22) (.const (.int .u8 13)) t22 (.int .u8 13)) w (pk K) fun t28 w=>
 IfX t28 (CallX prog 44 #[t0,(.string ⟨#[13,10]⟩),t1] w (pk K) fun t31 w=>
 IfX t31 (DoX prog (mBin .add 3 t1 (.int .i64 2)) w (pk K) fun t33 w=>
 K (.returned t33) w) (DoX prog (mBin .add 3 t1 (.int .i64 1)) w (pk K) fun t35 w=>
 K (.returned t35) w)) (DoX prog (mBin .add 3 t1 (.int .i64 1)) w (pk K) fun t19 w=>
 N1 [t19] w))) (DoX prog (mB .len #[9] 3 #[false] #[t0]) w (pk K) fun t37 w=>
 K (.returned t37) w)
def S_octet_Line (t0 t1:Value)(w:World)(K:Ending→World→Prop):Prop:=
 DoX prog (mBin .lss 3 t1 (.int .i64 0)) w (pk K) fun t6 w=>
 GDo t6 false (fun E=>E t1 w) w fun t8 w=>
 GDo t6 false (fun E=>E t0 w) w fun t9 w=>
 GDo t6 false (fun E=>DoX prog (mB .len #[9] 3 #[false] #[t9]) w (pk K) E) w fun t10 w=>
 GDo t6 false (fun E=>DoX prog (mBin .gtr 3 t8 t10) w (pk K) E) w fun t11 w=>
 DoX prog (mPick t6 (.bool true) t11) w (pk K) fun t12 w=>
 IfX t12 (K (.returned t1) w) (LoopX [t1] w (fun vs1 w N1=>∀_:Sg,S_octet_Line_0 t0 (vs1.getD 0 undef) w N1 K))
theorem S_octet_Line_eq (t0 t1:Value)(w:World)(K:Ending→World→Prop):wpX prog 38 [] [(3,[1])] none (bodyOf Tryz.f211) (topQ prog [.tmp 4] K) (startX [t0,t1]) [] w=S_octet_Line t0 t1 w K:=by kernel_rfl
theorem S_octet_Line_ok {t0 t1:Value}{w:World}{K:Ending→World→Prop}(h:S_octet_Line t0 t1 w K):Calls prog 211 #[t0,t1] w K:=
 calls_of_wpX Tryz.func211 rfl rfl rfl rfl (Eq.mpr (S_octet_Line_eq t0 t1 w K) h)
def S_octet_ends (t0:Value)(w:World)(K:Ending→World→Prop):Prop:=
 DoX prog (mEq .eql 5 (.tmp 3) (.const (.int .u8 13)) t0 (.int .u8 13)) w (pk K) fun t4 w=>
 GDo t4 false (fun E=>E t0 w) w fun t6 w=>
 GDo t4 false (fun E=>DoX prog (mEq .eql 5 (.tmp 6) (.const (.int .u8 10)) t6 (.int .u8 10)) w (pk K) E) w fun t7 w=>
 DoX prog (mPick t4 (.bool true) t7) w (pk K) fun t8 w=>
 K (.returned t8) w
theorem S_octet_ends_eq (t0:Value)(w:World)(K:Ending→World→Prop):wpX prog 9 [] [] none (bodyOf Tryz.f159) (topQ prog [.tmp 2] K) (startX [t0]) [] w=S_octet_ends t0 w K:=by kernel_rfl
theorem S_octet_ends_ok {t0:Value}{w:World}{K:Ending→World→Prop}(h:S_octet_ends t0 w K):Calls prog 159 #[t0] w K:=
 calls_of_wpX Tryz.func159 rfl rfl rfl rfl (Eq.mpr (S_octet_ends_eq t0 w K) h)
end
section
open Eng Go.RowKit
theorem ends_ret (c:UInt8)(w:World):Ret prog 159 #[.int .u8 c.toNat] w (fun v w'=>v=.bool (Lx.eol c)∧w=w'):=by
 refine ret_of fun K hK=>S_octet_ends_ok ?_;unfold S_octet_ends;have e1:=u8d c 13 13 rfl;have e2:=u8d c 10 10 rfl;by_cases h1:c=13
 ·simp only[rs,e1,decide_eq_true h1,g_un];exact hK _ _ ⟨by simp[Lx.eol,h1],rfl⟩
 simp only[rs,e1,decide_eq_false h1,g_un,e2];exact hK _ _ ⟨by simp[Lx.eol,h1],rfl⟩
def begins (s p:List UInt8)(k:Int):Bool:=decide (0≤k)&&decide (k≤(s.length:Int))&&p.isPrefixOf (s.drop k.toNat)
theorem begins_ret (s p:List UInt8)(k:Int)(w:World):Ret prog 44 #[.string ⟨s.toArray⟩,.string ⟨p.toArray⟩,.int .i64 k] w (fun v w'=>v=.bool (begins s p k)∧w=w'):=by
 refine ret_of fun K hK=>S_octet_Begins_ok ?_;unfold S_octet_Begins;by_cases h1:0≤k
 ·simp only[rs,h1,decide_true,s_len Tryz.underlying9];by_cases h2:k≤(s.length:Int)
  ·simp only[rs,h2,decide_true];rw[s_from Tryz.underlying9 h1 h2];refine c_eq (hasPrefix_ret _ p w) ?_;exact hK _ _ ⟨by simp[begins,h1,h2],rfl⟩
  ·simp only[rs,h2,decide_false,g_un];exact hK _ _ ⟨by simp[begins,h2],rfl⟩
 ·simp only[rs,h1,decide_false,g_un];exact hK _ _ ⟨by simp[begins,h1],rfl⟩
theorem crlf_begins (s:List UInt8)(k:Nat)(hk:k < s.length)(h:s[k]=13):begins s [13,10] (k:Int)=decide ((s.drop (k+1)).head?=some 10):=by
 unfold begins;rw[Int.toNat_natCast,Lx.drop_cons hk,h,decide_eq_true (by omega),decide_eq_true (by omega)];cases hd:s.drop (k+1) with
|nil=>simp
|cons d t=>
  by_cases h10:d=10
  ·subst h10;simp
  ·have:¬(10=d):=fun e=>h10 e.symm;have h11:((10:UInt8)==d)=false:=by simp[this]
   have h12:¬(some d=some (10:UInt8)):=by simpa using h10
   rw[List.head?_cons,decide_eq_false h12];simp[List.isPrefixOf,h11]
theorem line_ret (s:List UInt8)(k:Nat)(w:World)(hk:k≤s.length)(hs:s.length≤4611686018427387904):Ret prog 211 #[.string ⟨s.toArray⟩,.int .i64 k] w (fun v w'=>v=.int .i64 (Lx.line s k)∧w=w'):=by
 refine ret_of fun K hK=>S_octet_Line_ok ?_;unfold S_octet_Line;have h0:¬((k:Int) < 0):=by omega
 have h1:¬((s.length:Int) < (k:Int)):=by omega
 simp only[rs,h0,h1,decide_false,s_len Tryz.underlying9];refine loop (fun vs w'=>∃(i:Nat),vs=[.int .i64 i]∧i≤s.length∧Lx.line s i=Lx.line s k∧w=w') (fun vs _=>s.length - n0 vs) ⟨k,rfl,hk,rfl,rfl⟩ ?_;rintro vs w2 ⟨i,rfl,hi,he,rfl⟩ _;simp only[S_octet_Line_0,gd,s_len Tryz.underlying9];rw[b_lss];by_cases hlt:(i:Int) < (s.length:Int)
 ·have hi2:i < s.length:=by omega
  simp only[hlt,decide_true,i_t];rw[s_ix (c:=s[i]) Tryz.underlying9 (by omega) (by simp[hi2])];have hd:=Lx.drop_cons hi2;have e1:=u8d s[i] 10 10 rfl;have e2:=u8d s[i] 13 13 rfl;by_cases g1:s[i]=10
  ·simp only[rs,e1,decide_eq_true g1];rw[wrap64_id (by omega) (by omega)];refine hK _ _ ⟨?_,rfl⟩;rw[←he,Lx.line,hd,Lx.lineF,if_pos g1];simp
  simp only[rs,e1,decide_eq_false g1];by_cases g2:s[i]=13
  ·simp only[rs,e2,decide_eq_true g2];refine c_eq (begins_ret s [13,10] i w) ?_;rw[crlf_begins s i hi2 g2];by_cases g3:(s.drop (i+1)).head?=some 10
   ·simp only[decide_eq_true g3,i_t];rw[wrap64_id (by omega) (by omega)];refine hK _ _ ⟨?_,rfl⟩;rw[←he,Lx.line,hd,Lx.lineF,if_neg g1,if_pos g2,if_pos g3];simp
   ·simp only[decide_eq_false g3,i_f];rw[wrap64_id (by omega) (by omega)];refine hK _ _ ⟨?_,rfl⟩;rw[←he,Lx.line,hd,Lx.lineF,if_neg g1,if_pos g2,if_neg g3];simp
  simp only[rs,e2,decide_eq_false g2];rw[wrap64_id (by omega) (by omega)];refine nextX ⟨i+1,rfl,by omega,?_,rfl⟩ (by simp[n0,RowKit.intOf];omega);rw[←he];simp only[Lx.line];rw[hd,Lx.lineF,if_neg g1,if_neg g2];omega
 ·have hi2:i=s.length:=by omega
  subst hi2;simp only[hlt,decide_false,i_f];refine hK _ _ ⟨?_,rfl⟩;rw[←he,Lx.line,List.drop_length];simp[Lx.lineF]
theorem skip_ret (s:List UInt8)(k:Int)(w:World)(hs:s.length≤4611686018427387904):Ret prog 108 #[.string ⟨s.toArray⟩,.int .i64 k] w (fun v w'=>v=.int .i64 (Lx.skipI s k)∧w=w'):=by
 refine ret_of fun K hK=>S_octet_Skip_ok ?_;unfold S_octet_Skip;by_cases h0:k < 0
 ·simp only[rs,h0,decide_true,g_un];exact hK _ _ ⟨by rw[Lx.skipI,if_pos (.inl h0)],rfl⟩
 simp only[rs,h0,decide_false,s_len Tryz.underlying9];by_cases h1:(s.length:Int) < k
 ·simp only[rs,h1,decide_true];exact hK _ _ ⟨by rw[Lx.skipI,if_pos (.inr h1)],rfl⟩
 simp only[rs,h1,decide_false];have hsk:Lx.skipI s k=((Lx.skip s k.toNat:Nat):Int):=by rw[Lx.skipI,if_neg (by omega)]
 refine loop (fun vs w'=>∃(i:Nat) (b:Bool),vs=[.int .i64 i,.bool b]∧i≤s.length∧i+Lx.skipF b (s.drop i)=Lx.skip s k.toNat∧w=w') (fun vs _=>s.length - n0 vs) ⟨k.toNat,false,by rw[Int.toNat_of_nonneg (by omega)],by omega,rfl,rfl⟩ ?_;rintro vs w2 ⟨i,b,rfl,hi,he,rfl⟩ _;simp only[S_octet_Skip_0,gd,s_len Tryz.underlying9];rw[b_lss];by_cases hlt:(i:Int) < (s.length:Int)
 ·have hi2:i < s.length:=by omega
  simp only[hlt,decide_true,i_t];refine join fun J2 hJ2=>?_;rw[s_ix (c:=s[i]) Tryz.underlying9 (by omega) (by simp[hi2])];have hd:=Lx.drop_cons hi2;rw[hd] at he;have fin:∀b':Bool,i+1+Lx.skipF b' (s.drop (i+1))=Lx.skip s k.toNat→J2 [.bool b'] w:=by
   intro b' hb';refine hJ2 _ _ fun _=>?_;simp only[S_octet_Skip_1,gd];rw[b_add,wrap64_id (by omega) (by omega)];exact nextX ⟨i+1,b',rfl,by omega,hb',rfl⟩ (by simp[n0,RowKit.intOf];omega)
  cases b with
 |true=>
   simp only[i_t];refine c_eq (ends_ret s[i] w) ?_;simp only[rs];exact fin _ (by rw[Lx.skipF] at he;omega)
 |false=>
   simp only[i_f];have e1:=u8d s[i] 37 37 rfl;by_cases g1:s[i]=37
   ·simp only[rs,e1,decide_eq_true g1];exact fin _ (by rw[Lx.skipF,if_pos g1] at he;omega)
   simp only[rs,e1,decide_eq_false g1];refine c_eq (white_ret s[i] w) ?_;cases hw:Oc.white s[i] with
  |true=>
    simp only[rs];exact fin _ (by rw[Lx.skipF,if_neg g1,if_pos hw] at he;omega)
  |false=>
    simp only[rs];refine hK _ _ ⟨?_,rfl⟩;rw[Lx.skipF,if_neg g1,if_neg (by simp[hw])] at he;rw[hsk,←he];simp
 ·have hi2:i=s.length:=by omega
  subst hi2;simp only[hlt,decide_false,i_f];rw[List.drop_length] at he;refine hK _ _ ⟨?_,rfl⟩;rw[hsk,←he];cases b<;>simp[Lx.skipF]
 attribute [local congr] g_congr in
theorem digit_ret (c:UInt8)(w:World):Ret prog 161 #[.int .u8 c.toNat] w (fun v w'=>v=.int .i64 (Lx.digit c)∧w=w'):=by
  refine ret_of fun K hK=>S_octet_Digit_ok ?_;unfold S_octet_Digit;have h256:=c.toNat_lt;have conv:∀{n:Int} {PK K},0≤n→n≤255→DoX prog (mConv 5 3 (.int .u8 n)) w PK K=K (.int .i64 n) w:=by
   intro n PK K h0 h1;rw[c_int (show (Tryz.prog.underlying 5).isSome=true by kernel_rfl) Tryz.underlying3,wrap64_id (by omega) (by omega)]
  simp +contextual only[rs,gs];by_cases h1:48≤c.toNat∧c.toNat≤57
  ·have hb:(decide ((48:Int)≤(c.toNat:Int))&&decide ((c.toNat:Int)≤57))=true:=by simp;omega
   simp only[hb,i_t];rw[wrap8_id (by omega) (by omega),conv (by omega) (by omega)];exact hK _ _ ⟨by rw[Lx.digit,if_pos h1],rfl⟩
  have hb:(decide ((48:Int)≤(c.toNat:Int))&&decide ((c.toNat:Int)≤57))=false:=by
   rw[Bool.and_eq_false_iff,decide_eq_false_iff_not,decide_eq_false_iff_not];omega
  simp only[hb,i_f];by_cases h2:65≤c.toNat∧c.toNat≤70
  ·have hb:(decide ((65:Int)≤(c.toNat:Int))&&decide ((c.toNat:Int)≤70))=true:=by simp;omega
   simp only[hb,i_t];rw[wrap8_id (by omega) (by omega),conv (by omega) (by omega),b_add,wrap64_id (by omega) (by omega)];exact hK _ _ ⟨by rw[Lx.digit,if_neg h1,if_pos h2],rfl⟩
  have hb:(decide ((65:Int)≤(c.toNat:Int))&&decide ((c.toNat:Int)≤70))=false:=by
   rw[Bool.and_eq_false_iff,decide_eq_false_iff_not,decide_eq_false_iff_not];omega
  simp only[hb,i_f];by_cases h3:97≤c.toNat∧c.toNat≤102
  ·have hb:(decide ((97:Int)≤(c.toNat:Int))&&decide ((c.toNat:Int)≤102))=true:=by simp;omega
   simp only[hb,i_t];rw[wrap8_id (by omega) (by omega),conv (by omega) (by omega),b_add,wrap64_id (by omega) (by omega)];exact hK _ _ ⟨by rw[Lx.digit,if_neg h1,if_neg h2,if_pos h3],rfl⟩
  have hb:(decide ((97:Int)≤(c.toNat:Int))&&decide ((c.toNat:Int)≤102))=false:=by
   rw[Bool.and_eq_false_iff,decide_eq_false_iff_not,decide_eq_false_iff_not];omega
  simp only[hb,i_f];exact hK _ _ ⟨by rw[Lx.digit,if_neg h1,if_neg h2,if_neg h3],rfl⟩
end
section
open Eng
def S_lex_Next_0 (t4 t6 t7 t49 t50:Value)(w:World)(K:Ending→World→Prop):Prop:=
 IfX t50 (DoX prog (mLoad 149 t6) w (pk K) fun t55 w=>
 CallX prog 109 #[t55,(.int .i64 1)] w (pk K) fun t56 w=>
 DoX prog (mExt t56 0) w (pk K) fun t57 w=>
 DoX prog (mExt t56 1) w (pk K) fun t58 w=>
 DoX prog (mStore 90 t4 t57) w (pk K) fun _ w=>
 RetX prog [.cell t4 90,.val t58] w K) (DoX prog (mEq .eql 5 (.tmp 49) (.const (.int .u8 60)) t49 (.int .u8 60)) w (pk K) fun t60 w=>
 IfX t60 (IfX t7 (DoX prog (mLoad 149 t6) w (pk K) fun t62 w=>
 CallX prog 109 #[t62,(.int .i64 2)] w (pk K) fun t63 w=>
 DoX prog (mExt t63 0) w (pk K) fun t64 w=>
 DoX prog (mExt t63 1) w (pk K) fun t65 w=>
 DoX prog (mStore 90 t4 t64) w (pk K) fun _ w=>
 RetX prog [.cell t4 90,.val t65] w K) (DoX prog (mLoad 149 t6) w (pk K) fun t66 w=>
 CallX prog 110 #[t66] w (pk K) fun t67 w=>
 DoX prog (mExt t67 0) w (pk K) fun t68 w=>
 DoX prog (mExt t67 1) w (pk K) fun t69 w=>
 DoX prog (mStore 90 t4 t68) w (pk K) fun _ w=>
 RetX prog [.cell t4 90,.val t69] w K)) (DoX prog (mEq .eql 5 (.tmp 49) (.const (.int .u8 62)) t49 (.int .u8 62)) w (pk K) fun t71 w=>
 IfX t71 (IfX t7 (DoX prog (mLoad 149 t6) w (pk K) fun t73 w=>
 CallX prog 109 #[t73,(.int .i64 2)] w (pk K) fun t74 w=>
 DoX prog (mExt t74 0) w (pk K) fun t75 w=>
 DoX prog (mExt t74 1) w (pk K) fun t76 w=>
 DoX prog (mStore 90 t4 t75) w (pk K) fun _ w=>
 RetX prog [.cell t4 90,.val t76] w K) (CallX prog 107 #[(.int .i64 3)] w (pk K) fun t77 w=>
 DoX prog (mExt t77 0) w (pk K) fun t78 w=>
 DoX prog (mExt t77 1) w (pk K) fun t79 w=>
 DoX prog (mStore 90 t4 t78) w (pk K) fun _ w=>
 RetX prog [.cell t4 90,.val t79] w K)) (DoX prog (mEq .eql 5 (.tmp 49) (.const (.int .u8 47)) t49 (.int .u8 47)) w (pk K) fun t81 w=>
 IfX t81 (DoX prog (mLoad 149 t6) w (pk K) fun t82 w=>
 CallX prog 111 #[t82] w (pk K) fun t83 w=>
 DoX prog (mExt t83 0) w (pk K) fun t84 w=>
 DoX prog (mExt t83 1) w (pk K) fun t85 w=>
 DoX prog (mStore 90 t4 t84) w (pk K) fun _ w=>
 RetX prog [.cell t4 90,.val t85] w K) (DoX prog (mEq .eql 5 (.tmp 49) (.const (.int .u8 40)) t49 (.int .u8 40)) w (pk K) fun t87 w=>
 IfX t87 (DoX prog (mLoad 149 t6) w (pk K) fun t88 w=>
 CallX prog 112 #[t88] w (pk K) fun t89 w=>
 DoX prog (mExt t89 0) w (pk K) fun t90 w=>
 DoX prog (mExt t89 1) w (pk K) fun t91 w=>
 DoX prog (mStore 90 t4 t90) w (pk K) fun _ w=>
 RetX prog [.cell t4 90,.val t91] w K) (DoX prog (mEq .eql 5 (.tmp 49) (.const (.int .u8 41)) t49 (.int .u8 41)) w (pk K) fun t93 w=>
 IfX t93 (CallX prog 107 #[(.int .i64 3)] w (pk K) fun t94 w=>
 DoX prog (mExt t94 0) w (pk K) fun t95 w=>
 DoX prog (mExt t94 1) w (pk K) fun t96 w=>
 DoX prog (mStore 90 t4 t95) w (pk K) fun _ w=>
 RetX prog [.cell t4 90,.val t96] w K) (DoX prog (mLoad 149 t6) w (pk K) fun t97 w=>
 CallX prog 113 #[t97] w (pk K) fun t98 w=>
 DoX prog (mExt t98 0) w (pk K) fun t99 w=>
 DoX prog (mExt t98 1) w (pk K) fun t100 w=>
 DoX prog (mStore 90 t4 t99) w (pk K) fun _ w=>
 RetX prog [.cell t4 90,.val t100] w K))))))
def S_lex_Next (t0 t1:Value)(w:World)(K:Ending→World→Prop):Prop:=
 DoX prog (mAlloc 90) w (pk K) fun t4 w=>
 DoX prog (mBin .lss 3 t1 (.int .i64 0)) w (pk K) fun t9 w=>
 GDo t9 false (fun E=>E t1 w) w fun t11 w=>
 GDo t9 false (fun E=>E t0 w) w fun t12 w=>
 GDo t9 false (fun E=>DoX prog (mB .len #[9] 3 #[false] #[t12]) w (pk K) E) w fun t13 w=>
 GDo t9 false (fun E=>DoX prog (mBin .gtr 3 t11 t13) w (pk K) E) w fun t14 w=>
 DoX prog (mPick t9 (.bool true) t14) w (pk K) fun t15 w=>
 IfX t15 (CallX prog 107 #[(.int .i64 1)] w (pk K) fun t16 w=>
 DoX prog (mExt t16 0) w (pk K) fun t17 w=>
 DoX prog (mExt t16 1) w (pk K) fun t18 w=>
 DoX prog (mStore 90 t4 t17) w (pk K) fun _ w=>
 RetX prog [.cell t4 90,.val t18] w K) (CallX prog 108 #[t0,t1] w (pk K) fun t22 w=>
 DoX prog (mBuild 149 #[(0,t0),(1,t22)]) w (pk K) fun t23 w=>
 DoX prog (mAlloc 149) w (pk K) fun t6 w=>
 DoX prog (mStore 149 t6 t23) w (pk K) fun _ w=>
 DoX prog (mFA 149 t6 1) w (pk K) fun t24 w=>
 DoX prog (mLoad 3 t24) w (pk K) fun t25 w=>
 DoX prog (mB .len #[9] 3 #[false] #[t0]) w (pk K) fun t27 w=>
 DoX prog (mEq .eql 3 (.tmp 25) (.tmp 27) t25 t27) w (pk K) fun t28 w=>
 IfX t28 (DoX prog (mFA 149 t6 1) w (pk K) fun t29 w=>
 DoX prog (mLoad 3 t29) w (pk K) fun t30 w=>
 DoX prog (mFA 149 t6 1) w (pk K) fun t31 w=>
 DoX prog (mLoad 3 t31) w (pk K) fun t32 w=>
 DoX prog (mBuild 90 #[(1,t30),(2,t32)]) w (pk K) fun t33 w=>
 DoX prog (mStore 90 t4 t33) w (pk K) fun _ w=>
 RetX prog [.cell t4 90,.val (.int .i64 0)] w K) (QuietX w (fun C1=>
 QDo prog C1 (mFA 149 t6 1) fun t36=>
 QDo prog C1 (mLoad 3 t36) fun t37=>
 QDo prog C1 (mFA 149 t6 1) fun t38=>
 QDo prog C1 (mLoad 3 t38) fun t39=>
 QDo prog C1 (mBin .add 3 t39 (.int .i64 1)) fun t40=>
 QDo prog C1 (mSlice 9 t0 (some t37) (some t40) none) fun t41=>
 QDo prog C1 (mFA 149 t6 1) fun t42=>
 QDo prog C1 (mLoad 3 t42) fun t43=>
 QDo prog C1 (mBin .add 3 t43 (.int .i64 1)) fun t44=>
 QCall prog C1 44 #[t0,t41,t44] fun t45=>
 ∀w,C1 w →
 DoX prog (mFA 149 t6 1) w (pk K) fun t47 w=>
 DoX prog (mLoad 3 t47) w (pk K) fun t48 w=>
 DoX prog (mIx 9 t0 t48) w (pk K) fun t49 w=>
 JoinX (fun J2=>
 DoX prog (mEq .eql 5 (.tmp 49) (.const (.int .u8 91)) t49 (.int .u8 91)) w (pk K) fun t51 w=>
 IfX t51 (J2 [t51] w) (DoX prog (mEq .eql 5 (.tmp 49) (.const (.int .u8 93)) t49 (.int .u8 93)) w (pk K) fun t52 w=>
 IfX t52 (J2 [t52] w) (DoX prog (mEq .eql 5 (.tmp 49) (.const (.int .u8 123)) t49 (.int .u8 123)) w (pk K) fun t53 w=>
 IfX t53 (J2 [t53] w) (DoX prog (mEq .eql 5 (.tmp 49) (.const (.int .u8 125)) t49 (.int .u8 125)) w (pk K) fun t54 w=>
 J2 [t54] w)))) (fun vs2 w=>∀_:Sg,S_lex_Next_0 t4 t6 t45 t49 (vs2.getD 0 undef) w K))))
theorem S_lex_Next_eq (t0 t1:Value)(w:World)(K:Ending→World→Prop):wpX prog 101 [(12,[50])] [] none (bodyOf Tryz.f63) (topQ prog [.cell 4 90,.tmp 5] K) (startX [t0,t1]) [] w=S_lex_Next t0 t1 w K:=by kernel_rfl
theorem S_lex_Next_ok {t0 t1:Value}{w:World}{K:Ending→World→Prop}(h:S_lex_Next t0 t1 w K):Calls prog 63 #[t0,t1] w K:=
 calls_of_wpX Tryz.func63 rfl rfl rfl rfl (Eq.mpr (S_lex_Next_eq t0 t1 w K) h)
def S_lex_cutter_mark (t0 t1:Value)(w:World)(K:Ending→World→Prop):Prop:=
 DoX prog (mBox 149 t0) w (pk K) fun t2 w=>
 DoX prog (mAlloc 90) w (pk K) fun t4 w=>
 QuietX w (fun C1=>
 QDo prog C1 (mFA 149 t2 1) fun t6=>
 QDo prog C1 (mLoad 3 t6) fun t7=>
 QDo prog C1 (mFA 149 t2 1) fun t8=>
 QDo prog C1 (mLoad 3 t8) fun t9=>
 QDo prog C1 (mBin .add 3 t9 t1) fun t11=>
 QDo prog C1 (mFA 149 t2 0) fun t12=>
 QDo prog C1 (mLoad 9 t12) fun t13=>
 QDo prog C1 (mFA 149 t2 1) fun t14=>
 QDo prog C1 (mLoad 3 t14) fun t15=>
 QDo prog C1 (mFA 149 t2 1) fun t16=>
 QDo prog C1 (mLoad 3 t16) fun t17=>
 QDo prog C1 (mBin .add 3 t17 t1) fun t19=>
 QDo prog C1 (mSlice 9 t13 (some t15) (some t19) none) fun t20=>
 QDo prog C1 (mBuild 90 #[(0,(.int .i64 6)),(1,t7),(2,t11),(4,t20)]) fun t21=>
 ∀w,C1 w →
 DoX prog (mStore 90 t4 t21) w (pk K) fun _ w=>
 RetX prog [.cell t4 90,.val (.int .i64 0)] w K)
theorem S_lex_cutter_mark_eq (t0 t1:Value)(w:World)(K:Ending→World→Prop):wpX prog 22 [] [] none (bodyOf Tryz.f109) (topQ prog [.cell 4 90,.tmp 5] K) (startX [t0,t1]) [] w=S_lex_cutter_mark t0 t1 w K:=by kernel_rfl
theorem S_lex_cutter_mark_ok {t0 t1:Value}{w:World}{K:Ending→World→Prop}(h:S_lex_cutter_mark t0 t1 w K):Calls prog 109 #[t0,t1] w K:=
 calls_of_wpX Tryz.func109 rfl rfl rfl rfl (Eq.mpr (S_lex_cutter_mark_eq t0 t1 w K) h)
def S_lex_refused (t0:Value)(w:World)(K:Ending→World→Prop):Prop:=
 DoX prog (mAlloc 90) w (pk K) fun t2 w=>
 DoX prog (mBuild 90 #[]) w (pk K) fun t4 w=>
 DoX prog (mStore 90 t2 t4) w (pk K) fun _ w=>
 RetX prog [.cell t2 90,.val t0] w K
theorem S_lex_refused_eq (t0:Value)(w:World)(K:Ending→World→Prop):wpX prog 6 [] [] none (bodyOf Tryz.f107) (topQ prog [.cell 2 90,.tmp 3] K) (startX [t0]) [] w=S_lex_refused t0 w K:=by kernel_rfl
theorem S_lex_refused_ok {t0:Value}{w:World}{K:Ending→World→Prop}(h:S_lex_refused t0 w K):Calls prog 107 #[t0] w K:=
 calls_of_wpX Tryz.func107 rfl rfl rfl rfl (Eq.mpr (S_lex_refused_eq t0 w K) h)
def S_lex_cutter_run_0 (t1 t2:Value)(w:World)(N1:List Value→World→Prop)(K:Ending→World→Prop):Prop:=
 DoX prog (mFA 149 t2 0) w (pk K) fun t6 w=>
 DoX prog (mLoad 9 t6) w (pk K) fun t7 w=>
 DoX prog (mB .len #[9] 3 #[false] #[t7]) w (pk K) fun t8 w=>
 DoX prog (mBin .lss 3 t1 t8) w (pk K) fun t9 w=>
 GDo t9 true (fun E=>DoX prog (mFA 149 t2 0) w (pk K) E) w fun t11 w=>
 GDo t9 true (fun E=>DoX prog (mLoad 9 t11) w (pk K) E) w fun t12 w=>
 GDo t9 true (fun E=>E t1 w) w fun t13 w=>
 GDo t9 true (fun E=>DoX prog (mIx 9 t12 t13) w (pk K) E) w fun t14 w=>
 GDo t9 true (fun E=>CallX prog 85 #[t14] w (pk K) E) w fun t15 w=>
 DoX prog (mPick t9 t15 (.bool false)) w (pk K) fun t16 w=>
 IfX t16 (DoX prog (mBin .add 3 t1 (.int .i64 1)) w (pk K) fun t18 w=>
 N1 [t18] w) (K (.returned t1) w)
def S_lex_cutter_run (t0 t1:Value)(w:World)(K:Ending→World→Prop):Prop:=
 DoX prog (mBox 149 t0) w (pk K) fun t2 w=>
 LoopX [t1] w (fun vs1 w N1=>∀_:Sg,S_lex_cutter_run_0 (vs1.getD 0 undef) t2 w N1 K)
theorem S_lex_cutter_run_eq (t0 t1:Value)(w:World)(K:Ending→World→Prop):wpX prog 20 [] [(1,[1])] none (bodyOf Tryz.f162) (topQ prog [.tmp 4] K) (startX [t0,t1]) [] w=S_lex_cutter_run t0 t1 w K:=by kernel_rfl
theorem S_lex_cutter_run_ok {t0 t1:Value}{w:World}{K:Ending→World→Prop}(h:S_lex_cutter_run t0 t1 w K):Calls prog 162 #[t0,t1] w K:=
 calls_of_wpX Tryz.func162 rfl rfl rfl rfl (Eq.mpr (S_lex_cutter_run_eq t0 t1 w K) h)
def S_lex_cutter_told (t0 t1 t2 t3 t4:Value)(w:World)(K:Ending→World→Prop):Prop:=
 DoX prog (mBox 149 t0) w (pk K) fun t5 w=>
 DoX prog (mAlloc 90) w (pk K) fun t10 w=>
 DoX prog (mB .len #[9] 3 #[false] #[t3]) w (pk K) fun t13 w=>
 DoX prog (mBin .gtr 3 t13 t4) w (pk K) fun t15 w=>
 IfX t15 (CallX prog 107 #[(.int .i64 5)] w (pk K) fun t16 w=>
 DoX prog (mExt t16 0) w (pk K) fun t17 w=>
 DoX prog (mExt t16 1) w (pk K) fun t18 w=>
 DoX prog (mStore 90 t10 t17) w (pk K) fun _ w=>
 RetX prog [.cell t10 90,.val t18] w K) (DoX prog (mFA 149 t5 1) w (pk K) fun t20 w=>
 DoX prog (mLoad 3 t20) w (pk K) fun t21 w=>
 DoX prog (mBuild 90 #[(0,t1),(1,t21),(2,t2),(4,t3)]) w (pk K) fun t24 w=>
 DoX prog (mStore 90 t10 t24) w (pk K) fun _ w=>
 RetX prog [.cell t10 90,.val (.int .i64 0)] w K)
theorem S_lex_cutter_told_eq (t0 t1 t2 t3 t4:Value)(w:World)(K:Ending→World→Prop):wpX prog 25 [] [] none (bodyOf Tryz.f160) (topQ prog [.cell 10 90,.tmp 11] K) (startX [t0,t1,t2,t3,t4]) [] w=S_lex_cutter_told t0 t1 t2 t3 t4 w K:=by kernel_rfl
theorem S_lex_cutter_told_ok {t0 t1 t2 t3 t4:Value}{w:World}{K:Ending→World→Prop}(h:S_lex_cutter_told t0 t1 t2 t3 t4 w K):Calls prog 160 #[t0,t1,t2,t3,t4] w K:=
 calls_of_wpX Tryz.func160 rfl rfl rfl rfl (Eq.mpr (S_lex_cutter_told_eq t0 t1 t2 t3 t4 w K) h)
def S_lex_cutter_name_1 (t3 t5 t6 t7:Value)(w:World)(N1:List Value→World→Prop)(K:Ending→World→Prop):Prop:=
 DoX prog (mBuildS 71 1 #[(0,t7)]) w (pk K) fun t62 w=>
 DoX prog (mB .append #[71,71] 71 #[false,false] #[t5,t62]) w (pk K) fun t63 w=>
 DoX prog (mBin .add 3 t6 (.int .i64 1)) w (pk K) fun t22 w=>
 N1 [t3,t63,t22] w
def S_lex_cutter_name_0 (t1 t2 t3 t4 t5 t6:Value)(w:World)(N1:List Value→World→Prop)(K:Ending→World→Prop):Prop:=
 DoX prog (mBin .lss 3 t6 t4) w (pk K) fun t20 w=>
 IfX t20 (DoX prog (mFA 149 t1 0) w (pk K) fun t23 w=>
 DoX prog (mLoad 9 t23) w (pk K) fun t24 w=>
 DoX prog (mIx 9 t24 t6) w (pk K) fun t26 w=>
 JoinX (fun J2=>
 DoX prog (mEq .eql 5 (.tmp 27) (.const (.int .u8 35)) t26 (.int .u8 35)) w (pk K) fun t28 w=>
 IfX t28 (DoX prog (mBin .add 3 t6 (.int .i64 2)) w (pk K) fun t30 w=>
 DoX prog (mBin .geq 3 t30 t4) w (pk K) fun t32 w=>
 IfX t32 (CallX prog 107 #[(.int .i64 3)] w (pk K) fun t33 w=>
 DoX prog (mExt t33 0) w (pk K) fun t34 w=>
 DoX prog (mExt t33 1) w (pk K) fun t35 w=>
 DoX prog (mStore 90 t2 t34) w (pk K) fun _ w=>
 RetX prog [.cell t2 90,.val t35] w K) (DoX prog (mFA 149 t1 0) w (pk K) fun t37 w=>
 DoX prog (mLoad 9 t37) w (pk K) fun t38 w=>
 DoX prog (mBin .add 3 t6 (.int .i64 1)) w (pk K) fun t40 w=>
 DoX prog (mBin .add 3 t6 (.int .i64 3)) w (pk K) fun t42 w=>
 DoX prog (mSlice 9 t38 (some t40) (some t42) none) w (pk K) fun t43 w=>
 CallX prog 163 #[t43] w (pk K) fun t44 w=>
 DoX prog (mExt t44 0) w (pk K) fun t45 w=>
 DoX prog (mExt t44 1) w (pk K) fun t46 w=>
 DoX prog (mEq .neq 30 (.tmp 47) (.const (.int .i64 0)) t46 (.int .i64 0)) w (pk K) fun t48 w=>
 GDo t48 false (fun E=>E t45 w) w fun t50 w=>
 GDo t48 false (fun E=>DoX prog (mEq .eql 9 (.tmp 50) (.const (.string ⟨#[0]⟩)) t50 (.string ⟨#[0]⟩)) w (pk K) E) w fun t51 w=>
 DoX prog (mPick t48 (.bool true) t51) w (pk K) fun t52 w=>
 IfX t52 (CallX prog 107 #[(.int .i64 3)] w (pk K) fun t53 w=>
 DoX prog (mExt t53 0) w (pk K) fun t54 w=>
 DoX prog (mExt t53 1) w (pk K) fun t55 w=>
 DoX prog (mStore 90 t2 t54) w (pk K) fun _ w=>
 RetX prog [.cell t2 90,.val t55] w K) (DoX prog (mIx 9 t45 (.int .i64 0)) w (pk K) fun t57 w=>
 DoX prog (mBin .add 3 t6 (.int .i64 2)) w (pk K) fun t59 w=>
 J2 [t3,t59,t57] w))) (J2 [t3,t6,t26] w)) (fun vs2 w=>∀_:Sg,S_lex_cutter_name_1 (vs2.getD 0 undef) t5 (vs2.getD 1 undef) (vs2.getD 2 undef) w N1 K)) (DoX prog (mLoad 149 t1) w (pk K) fun t64 w=>
 DoX prog (mConv 71 9 t5) w (pk K) fun t67 w=>
 CallX prog 160 #[t64,(.int .i64 4),t4,t67,(.int .i64 127)] w (pk K) fun t68 w=>
 DoX prog (mExt t68 0) w (pk K) fun t69 w=>
 DoX prog (mExt t68 1) w (pk K) fun t70 w=>
 DoX prog (mStore 90 t2 t69) w (pk K) fun _ w=>
 RetX prog [.cell t2 90,.val t70] w K)
def S_lex_cutter_name (t0:Value)(w:World)(K:Ending→World→Prop):Prop:=
 DoX prog (mBox 149 t0) w (pk K) fun t1 w=>
 DoX prog (mAlloc 90) w (pk K) fun t2 w=>
 DoX prog (mLoad 149 t1) w (pk K) fun t10 w=>
 DoX prog (mFA 149 t1 1) w (pk K) fun t11 w=>
 DoX prog (mLoad 3 t11) w (pk K) fun t12 w=>
 DoX prog (mBin .add 3 t12 (.int .i64 1)) w (pk K) fun t13 w=>
 CallX prog 162 #[t10,t13] w (pk K) fun t14 w=>
 DoX prog (mFA 149 t1 1) w (pk K) fun t15 w=>
 DoX prog (mLoad 3 t15) w (pk K) fun t16 w=>
 DoX prog (mBin .add 3 t16 (.int .i64 1)) w (pk K) fun t17 w=>
 LoopX [(.int .i64 0),(.slice none 0 0),t17] w (fun vs1 w N1=>∀_:Sg,S_lex_cutter_name_0 t1 t2 (vs1.getD 0 undef) t14 (vs1.getD 1 undef) (vs1.getD 2 undef) w N1 K)
theorem S_lex_cutter_name_eq (t0:Value)(w:World)(K:Ending→World→Prop):wpX prog 71 [(15,[3,6,7])] [(4,[3,5,6])] none (bodyOf Tryz.f111) (topQ prog [.cell 2 90,.tmp 3] K) (startX [t0]) [] w=S_lex_cutter_name t0 w K:=by kernel_rfl
theorem S_lex_cutter_name_ok {t0:Value}{w:World}{K:Ending→World→Prop}(h:S_lex_cutter_name t0 w K):Calls prog 111 #[t0] w K:=
 calls_of_wpX Tryz.func111 rfl rfl rfl rfl (Eq.mpr (S_lex_cutter_name_eq t0 w K) h)
def S_lex_cutter_end (t0 t1:Value)(w:World)(K:Ending→World→Prop):Prop:=
 DoX prog (mBox 149 t0) w (pk K) fun t2 w=>
 DoX prog (mFA 149 t2 0) w (pk K) fun t6 w=>
 DoX prog (mLoad 9 t6) w (pk K) fun t7 w=>
 DoX prog (mIx 9 t7 t1) w (pk K) fun t9 w=>
 DoX prog (mEq .eql 5 (.tmp 9) (.const (.int .u8 13)) t9 (.int .u8 13)) w (pk K) fun t10 w=>
 GDo t10 false (fun E=>DoX prog (mFA 149 t2 0) w (pk K) E) w fun t12 w=>
 GDo t10 false (fun E=>DoX prog (mLoad 9 t12) w (pk K) E) w fun t13 w=>
 GDo t10 false (fun E=>E t1 w) w fun t14 w=>
 GDo t10 false (fun E=>DoX prog (mIx 9 t13 t14) w (pk K) E) w fun t15 w=>
 GDo t10 false (fun E=>DoX prog (mEq .eql 5 (.tmp 15) (.const (.int .u8 10)) t15 (.int .u8 10)) w (pk K) E) w fun t16 w=>
 DoX prog (mPick t10 (.bool true) t16) w (pk K) fun t17 w=>
 IfX t17 (DoX prog (mFA 149 t2 0) w (pk K) fun t18 w=>
 DoX prog (mLoad 9 t18) w (pk K) fun t19 w=>
 CallX prog 211 #[t19,t1] w (pk K) fun t21 w=>
 K (.returned (.tuple #[t21,(.bool true)])) w) (K (.returned (.tuple #[t1,(.bool false)])) w)
theorem S_lex_cutter_end_eq (t0 t1:Value)(w:World)(K:Ending→World→Prop):wpX prog 23 [] [] none (bodyOf Tryz.f164) (topQ prog [.tmp 4,.tmp 5] K) (startX [t0,t1]) [] w=S_lex_cutter_end t0 t1 w K:=by kernel_rfl
theorem S_lex_cutter_end_ok {t0 t1:Value}{w:World}{K:Ending→World→Prop}(h:S_lex_cutter_end t0 t1 w K):Calls prog 164 #[t0,t1] w K:=
 calls_of_wpX Tryz.func164 rfl rfl rfl rfl (Eq.mpr (S_lex_cutter_end_eq t0 t1 w K) h)
def S_lex_cutter_escaped_0 (t1 t2 t9 t10:Value)(w:World)(N1:List Value→World→Prop)(K:Ending→World→Prop):Prop:=
 DoX prog (mFA 149 t2 0) w (pk K) fun t34 w=>
 DoX prog (mLoad 9 t34) w (pk K) fun t35 w=>
 DoX prog (mB .len #[9] 3 #[false] #[t35]) w (pk K) fun t36 w=>
 DoX prog (mBin .lss 3 t10 t36) w (pk K) fun t37 w=>
 GDo t37 true (fun E=>E t10 w) w fun t39 w=>
 GDo t37 true (fun E=>E t1 w) w fun t40 w=>
 GDo t37 true (fun E=>DoX prog (mBin .add 3 t40 (.int .i64 3)) w (pk K) E) w fun t41 w=>
 GDo t37 true (fun E=>DoX prog (mBin .lss 3 t39 t41) w (pk K) E) w fun t42 w=>
 DoX prog (mPick t37 t42 (.bool false)) w (pk K) fun t43 w=>
 GDo t43 true (fun E=>DoX prog (mFA 149 t2 0) w (pk K) E) w fun t45 w=>
 GDo t43 true (fun E=>DoX prog (mLoad 9 t45) w (pk K) E) w fun t46 w=>
 GDo t43 true (fun E=>E t10 w) w fun t47 w=>
 GDo t43 true (fun E=>DoX prog (mIx 9 t46 t47) w (pk K) E) w fun t48 w=>
 GDo t43 true (fun E=>DoX prog (mBin .geq 5 t48 (.int .u8 48)) w (pk K) E) w fun t49 w=>
 DoX prog (mPick t43 t49 (.bool false)) w (pk K) fun t50 w=>
 GDo t50 true (fun E=>DoX prog (mFA 149 t2 0) w (pk K) E) w fun t52 w=>
 GDo t50 true (fun E=>DoX prog (mLoad 9 t52) w (pk K) E) w fun t53 w=>
 GDo t50 true (fun E=>E t10 w) w fun t54 w=>
 GDo t50 true (fun E=>DoX prog (mIx 9 t53 t54) w (pk K) E) w fun t55 w=>
 GDo t50 true (fun E=>DoX prog (mBin .leq 5 t55 (.int .u8 55)) w (pk K) E) w fun t56 w=>
 DoX prog (mPick t50 t56 (.bool false)) w (pk K) fun t57 w=>
 IfX t57 (DoX prog (mBin .mul 3 (.int .i64 8) t9) w (pk K) fun t59 w=>
 DoX prog (mFA 149 t2 0) w (pk K) fun t60 w=>
 DoX prog (mLoad 9 t60) w (pk K) fun t61 w=>
 DoX prog (mIx 9 t61 t10) w (pk K) fun t63 w=>
 DoX prog (mBin .sub 5 t63 (.int .u8 48)) w (pk K) fun t64 w=>
 DoX prog (mConv 5 3 t64) w (pk K) fun t65 w=>
 DoX prog (mBin .add 3 t59 t65) w (pk K) fun t66 w=>
 DoX prog (mBin .add 3 t10 (.int .i64 1)) w (pk K) fun t68 w=>
 N1 [t66,t68] w) (DoX prog (mBin .gtr 3 t10 t1) w (pk K) fun t71 w=>
 IfX t71 (DoX prog (mConv 3 5 t9) w (pk K) fun t73 w=>
 DoX prog (mBuildS 71 1 #[(0,t73)]) w (pk K) fun t74 w=>
 DoX prog (mConv 71 9 t74) w (pk K) fun t75 w=>
 K (.returned (.tuple #[t75,t10])) w) (DoX prog (mFA 149 t2 0) w (pk K) fun t77 w=>
 DoX prog (mLoad 9 t77) w (pk K) fun t78 w=>
 DoX prog (mBin .add 3 t1 (.int .i64 1)) w (pk K) fun t81 w=>
 DoX prog (mSlice 9 t78 (some t1) (some t81) none) w (pk K) fun t82 w=>
 DoX prog (mBin .add 3 t1 (.int .i64 1)) w (pk K) fun t84 w=>
 K (.returned (.tuple #[t82,t84])) w))
def S_lex_cutter_escaped (t0 t1:Value)(w:World)(K:Ending→World→Prop):Prop:=
 DoX prog (mBox 149 t0) w (pk K) fun t2 w=>
 DoX prog (mFA 149 t2 0) w (pk K) fun t11 w=>
 DoX prog (mLoad 9 t11) w (pk K) fun t12 w=>
 DoX prog (mIx 9 t12 t1) w (pk K) fun t14 w=>
 CallX prog 141 #[(.string ⟨#[110,114,116,98,102]⟩),t14] w (pk K) fun t15 w=>
 DoX prog (mBin .geq 3 t15 (.int .i64 0)) w (pk K) fun t17 w=>
 IfX t17 (DoX prog (mBin .add 3 t15 (.int .i64 1)) w (pk K) fun t20 w=>
 DoX prog (mSlice 9 (.string ⟨#[10,13,9,8,12]⟩) (some t15) (some t20) none) w (pk K) fun t21 w=>
 DoX prog (mBin .add 3 t1 (.int .i64 1)) w (pk K) fun t23 w=>
 K (.returned (.tuple #[t21,t23])) w) (DoX prog (mLoad 149 t2) w (pk K) fun t25 w=>
 CallX prog 164 #[t25,t1] w (pk K) fun t27 w=>
 DoX prog (mExt t27 0) w (pk K) fun t28 w=>
 DoX prog (mExt t27 1) w (pk K) fun t29 w=>
 IfX t29 (K (.returned (.tuple #[(.string ⟨#[]⟩),t28])) w) (LoopX [(.int .i64 0),t1] w (fun vs1 w N1=>∀_:Sg,S_lex_cutter_escaped_0 t1 t2 (vs1.getD 0 undef) (vs1.getD 1 undef) w N1 K)))
theorem S_lex_cutter_escaped_eq (t0 t1:Value)(w:World)(K:Ending→World→Prop):wpX prog 85 [] [(8,[9,10])] none (bodyOf Tryz.f165) (topQ prog [.tmp 4,.tmp 5] K) (startX [t0,t1]) [] w=S_lex_cutter_escaped t0 t1 w K:=by kernel_rfl
theorem S_lex_cutter_escaped_ok {t0 t1:Value}{w:World}{K:Ending→World→Prop}(h:S_lex_cutter_escaped t0 t1 w K):Calls prog 165 #[t0,t1] w K:=
 calls_of_wpX Tryz.func165 rfl rfl rfl rfl (Eq.mpr (S_lex_cutter_escaped_eq t0 t1 w K) h)
def S_lex_cutter_text_1 (t1 t2 t3 t4 t5 t6:Value)(w:World)(N1:List Value→World→Prop)(K:Ending→World→Prop):Prop:=
 DoX prog (mEq .eql 3 (.tmp 63) (.const (.int .i64 0)) t5 (.int .i64 0)) w (pk K) fun t64 w=>
 IfX t64 (QuietX w (fun C3=>
 QDo prog C3 (mLoad 149 t1) fun t65=>
 QDo prog C3 (mBin .add 3 t6 (.int .i64 1)) fun t67=>
 QCall prog C3 34 #[t4] fun t68=>
 QCall prog C3 160 #[t65,(.int .i64 3),t67,t68,(.int .i64 32767)] fun t69=>
 QDo prog C3 (mExt t69 0) fun t70=>
 QDo prog C3 (mExt t69 1) fun t71=>
 ∀w,C3 w →
 DoX prog (mStore 90 t2 t70) w (pk K) fun _ w=>
 RetX prog [.cell t2 90,.val t71] w K)) (DoX prog (mFA 149 t1 0) w (pk K) fun t72 w=>
 DoX prog (mLoad 9 t72) w (pk K) fun t73 w=>
 DoX prog (mIx 9 t73 t6) w (pk K) fun t75 w=>
 CallX prog 86 #[t4,t75] w (pk K) fun t76 w=>
 DoX prog (mBin .add 3 t6 (.int .i64 1)) w (pk K) fun t78 w=>
 N1 [t3,t5,t78] w)
def S_lex_cutter_text_0 (t1 t2 t3 t4 t5 t6:Value)(w:World)(N1:List Value→World→Prop)(K:Ending→World→Prop):Prop:=
 DoX prog (mFA 149 t1 0) w (pk K) fun t16 w=>
 DoX prog (mLoad 9 t16) w (pk K) fun t17 w=>
 DoX prog (mB .len #[9] 3 #[false] #[t17]) w (pk K) fun t18 w=>
 DoX prog (mBin .lss 3 t6 t18) w (pk K) fun t19 w=>
 IfX t19 (DoX prog (mLoad 149 t1) w (pk K) fun t21 w=>
 CallX prog 164 #[t21,t6] w (pk K) fun t23 w=>
 DoX prog (mExt t23 0) w (pk K) fun t24 w=>
 DoX prog (mExt t23 1) w (pk K) fun t25 w=>
 IfX t25 (CallX prog 86 #[t4,(.int .u8 10)] w (pk K) fun t27 w=>
 N1 [t3,t5,t24] w) (JoinX (fun J2=>
 DoX prog (mFA 149 t1 0) w (pk K) fun t29 w=>
 DoX prog (mLoad 9 t29) w (pk K) fun t30 w=>
 DoX prog (mIx 9 t30 t6) w (pk K) fun t32 w=>
 DoX prog (mEq .eql 5 (.tmp 33) (.const (.int .u8 92)) t32 (.int .u8 92)) w (pk K) fun t35 w=>
 IfX t35 (DoX prog (mBin .add 3 t6 (.int .i64 1)) w (pk K) fun t37 w=>
 DoX prog (mFA 149 t1 0) w (pk K) fun t38 w=>
 DoX prog (mLoad 9 t38) w (pk K) fun t39 w=>
 DoX prog (mB .len #[9] 3 #[false] #[t39]) w (pk K) fun t40 w=>
 DoX prog (mEq .eql 3 (.tmp 37) (.tmp 40) t37 t40) w (pk K) fun t41 w=>
 IfX t41 (CallX prog 107 #[(.int .i64 4)] w (pk K) fun t42 w=>
 DoX prog (mExt t42 0) w (pk K) fun t43 w=>
 DoX prog (mExt t42 1) w (pk K) fun t44 w=>
 DoX prog (mStore 90 t2 t43) w (pk K) fun _ w=>
 RetX prog [.cell t2 90,.val t44] w K) (DoX prog (mLoad 149 t1) w (pk K) fun t46 w=>
 DoX prog (mBin .add 3 t6 (.int .i64 1)) w (pk K) fun t48 w=>
 CallX prog 165 #[t46,t48] w (pk K) fun t49 w=>
 DoX prog (mExt t49 0) w (pk K) fun t50 w=>
 DoX prog (mExt t49 1) w (pk K) fun t51 w=>
 CallX prog 31 #[t4,t50] w (pk K) fun t53 w=>
 N1 [t3,t5,t51] w)) (DoX prog (mEq .eql 5 (.tmp 33) (.const (.int .u8 40)) t32 (.int .u8 40)) w (pk K) fun t56 w=>
 IfX t56 (DoX prog (mBin .add 3 t5 (.int .i64 1)) w (pk K) fun t58 w=>
 J2 [t3,t58,t6] w) (DoX prog (mEq .eql 5 (.tmp 33) (.const (.int .u8 41)) t32 (.int .u8 41)) w (pk K) fun t60 w=>
 IfX t60 (DoX prog (mBin .sub 3 t5 (.int .i64 1)) w (pk K) fun t62 w=>
 J2 [t3,t62,t6] w) (J2 [t3,t5,t6] w)))) (fun vs2 w=>∀_:Sg,S_lex_cutter_text_1 t1 t2 (vs2.getD 0 undef) t4 (vs2.getD 1 undef) (vs2.getD 2 undef) w N1 K))) (CallX prog 107 #[(.int .i64 4)] w (pk K) fun t79 w=>
 DoX prog (mExt t79 0) w (pk K) fun t80 w=>
 DoX prog (mExt t79 1) w (pk K) fun t81 w=>
 DoX prog (mStore 90 t2 t80) w (pk K) fun _ w=>
 RetX prog [.cell t2 90,.val t81] w K)
def S_lex_cutter_text (t0:Value)(w:World)(K:Ending→World→Prop):Prop:=
 DoX prog (mBox 149 t0) w (pk K) fun t1 w=>
 DoX prog (mAlloc 90) w (pk K) fun t2 w=>
 DoX prog (mAlloc 73) w (pk K) fun t4 w=>
 DoX prog (mFA 149 t1 1) w (pk K) fun t12 w=>
 DoX prog (mLoad 3 t12) w (pk K) fun t13 w=>
 DoX prog (mBin .add 3 t13 (.int .i64 1)) w (pk K) fun t14 w=>
 LoopX [(.int .i64 0),(.int .i64 1),t14] w (fun vs1 w N1=>∀_:Sg,S_lex_cutter_text_0 t1 t2 (vs1.getD 0 undef) t4 (vs1.getD 1 undef) (vs1.getD 2 undef) w N1 K)
theorem S_lex_cutter_text_eq (t0:Value)(w:World)(K:Ending→World→Prop):wpX prog 82 [(21,[3,5,6])] [(4,[3,5,6])] none (bodyOf Tryz.f112) (topQ prog [.cell 2 90,.tmp 3] K) (startX [t0]) [] w=S_lex_cutter_text t0 w K:=by kernel_rfl
theorem S_lex_cutter_text_ok {t0:Value}{w:World}{K:Ending→World→Prop}(h:S_lex_cutter_text t0 w K):Calls prog 112 #[t0] w K:=
 calls_of_wpX Tryz.func112 rfl rfl rfl rfl (Eq.mpr (S_lex_cutter_text_eq t0 w K) h)
def S_lex_cutter_hex_2 (t3 t4 t5 t6:Value)(w:World)(N1:List Value→World→Prop)(K:Ending→World→Prop):Prop:=
 DoX prog (mBin .add 3 t6 (.int .i64 1)) w (pk K) fun t18 w=>
 N1 [t3,t4,t5,t18] w
def S_lex_cutter_hex_1 (t1 t2 t4 t6:Value)(w:World)(K:Ending→World→Prop):Prop:=
 DoX prog (mLoad 149 t1) w (pk K) fun t33 w=>
 DoX prog (mBin .add 3 t6 (.int .i64 1)) w (pk K) fun t35 w=>
 DoX prog (mConv 71 9 t4) w (pk K) fun t37 w=>
 CallX prog 160 #[t33,(.int .i64 3),t35,t37,(.int .i64 32767)] w (pk K) fun t38 w=>
 DoX prog (mExt t38 0) w (pk K) fun t39 w=>
 DoX prog (mExt t38 1) w (pk K) fun t40 w=>
 DoX prog (mStore 90 t2 t39) w (pk K) fun _ w=>
 RetX prog [.cell t2 90,.val t40] w K
def S_lex_cutter_hex_0 (t1 t2 t3 t4 t5 t6:Value)(w:World)(N1:List Value→World→Prop)(K:Ending→World→Prop):Prop:=
 DoX prog (mFA 149 t1 0) w (pk K) fun t13 w=>
 DoX prog (mLoad 9 t13) w (pk K) fun t14 w=>
 DoX prog (mB .len #[9] 3 #[false] #[t14]) w (pk K) fun t15 w=>
 DoX prog (mBin .lss 3 t6 t15) w (pk K) fun t16 w=>
 IfX t16 (JoinX (fun J2=>
 DoX prog (mFA 149 t1 0) w (pk K) fun t19 w=>
 DoX prog (mLoad 9 t19) w (pk K) fun t20 w=>
 DoX prog (mIx 9 t20 t6) w (pk K) fun t22 w=>
 DoX prog (mEq .eql 5 (.tmp 23) (.const (.int .u8 62)) t22 (.int .u8 62)) w (pk K) fun t24 w=>
 IfX t24 (JoinX (fun J3=>
 DoX prog (mBin .geq 3 t5 (.int .i64 0)) w (pk K) fun t26 w=>
 IfX t26 (DoX prog (mBin .shl 3 t5 (.int .u64 4)) w (pk K) fun t29 w=>
 DoX prog (mConv 3 5 t29) w (pk K) fun t30 w=>
 DoX prog (mBuildS 71 1 #[(0,t30)]) w (pk K) fun t31 w=>
 DoX prog (mB .append #[71,71] 71 #[false,false] #[t4,t31]) w (pk K) fun t32 w=>
 J3 [t32] w) (J3 [t4] w)) (fun vs3 w=>∀_:Sg,S_lex_cutter_hex_1 t1 t2 (vs3.getD 0 undef) t6 w K)) (CallX prog 161 #[t22] w (pk K) fun t42 w=>
 CallX prog 137 #[t22] w (pk K) fun t53 w=>
 IfX t53 (J2 [t3,t4,t5] w) (DoX prog (mBin .lss 3 t42 (.int .i64 0)) w (pk K) fun t56 w=>
 IfX t56 (CallX prog 107 #[(.int .i64 3)] w (pk K) fun t57 w=>
 DoX prog (mExt t57 0) w (pk K) fun t58 w=>
 DoX prog (mExt t57 1) w (pk K) fun t59 w=>
 DoX prog (mStore 90 t2 t58) w (pk K) fun _ w=>
 RetX prog [.cell t2 90,.val t59] w K) (DoX prog (mBin .lss 3 t5 (.int .i64 0)) w (pk K) fun t62 w=>
 IfX t62 (J2 [t3,t4,t42] w) (DoX prog (mBin .shl 3 t5 (.int .u64 4)) w (pk K) fun t45 w=>
 DoX prog (mBin .or 3 t45 t42) w (pk K) fun t47 w=>
 DoX prog (mConv 3 5 t47) w (pk K) fun t48 w=>
 DoX prog (mBuildS 71 1 #[(0,t48)]) w (pk K) fun t49 w=>
 DoX prog (mB .append #[71,71] 71 #[false,false] #[t4,t49]) w (pk K) fun t50 w=>
 J2 [t3,t50,(.int .i64 (-1))] w))))) (fun vs2 w=>∀_:Sg,S_lex_cutter_hex_2 (vs2.getD 0 undef) (vs2.getD 1 undef) (vs2.getD 2 undef) t6 w N1 K)) (CallX prog 107 #[(.int .i64 4)] w (pk K) fun t64 w=>
 DoX prog (mExt t64 0) w (pk K) fun t65 w=>
 DoX prog (mExt t64 1) w (pk K) fun t66 w=>
 DoX prog (mStore 90 t2 t65) w (pk K) fun _ w=>
 RetX prog [.cell t2 90,.val t66] w K)
def S_lex_cutter_hex (t0:Value)(w:World)(K:Ending→World→Prop):Prop:=
 DoX prog (mBox 149 t0) w (pk K) fun t1 w=>
 DoX prog (mAlloc 90) w (pk K) fun t2 w=>
 DoX prog (mFA 149 t1 1) w (pk K) fun t9 w=>
 DoX prog (mLoad 3 t9) w (pk K) fun t10 w=>
 DoX prog (mBin .add 3 t10 (.int .i64 1)) w (pk K) fun t11 w=>
 LoopX [(.int .i64 0),(.slice none 0 0),(.int .i64 (-1)),t11] w (fun vs1 w N1=>∀_:Sg,S_lex_cutter_hex_0 t1 t2 (vs1.getD 0 undef) (vs1.getD 1 undef) (vs1.getD 2 undef) (vs1.getD 3 undef) w N1 K)
theorem S_lex_cutter_hex_eq (t0:Value)(w:World)(K:Ending→World→Prop):wpX prog 67 [(5,[3,4,5]),(10,[4])] [(4,[3,4,5,6])] none (bodyOf Tryz.f110) (topQ prog [.cell 2 90,.tmp 3] K) (startX [t0]) [] w=S_lex_cutter_hex t0 w K:=by kernel_rfl
theorem S_lex_cutter_hex_ok {t0:Value}{w:World}{K:Ending→World→Prop}(h:S_lex_cutter_hex t0 w K):Calls prog 110 #[t0] w K:=
 calls_of_wpX Tryz.func110 rfl rfl rfl rfl (Eq.mpr (S_lex_cutter_hex_eq t0 w K) h)
def S_lex_class (t0:Value)(w:World)(K:Ending→World→Prop):Prop:=
 CallX prog 212 #[t0,(.string ⟨#[43,45]⟩)] w (pk K) fun t5 w=>
 DoX prog (mB .len #[9] 3 #[false] #[t0]) w (pk K) fun t7 w=>
 DoX prog (mB .len #[9] 3 #[false] #[t5]) w (pk K) fun t9 w=>
 DoX prog (mBin .sub 3 t7 t9) w (pk K) fun t10 w=>
 DoX prog (mBin .leq 3 t10 (.int .i64 1)) w (pk K) fun t11 w=>
 GDo t11 true (fun E=>E t5 w) w fun t13 w=>
 GDo t11 true (fun E=>DoX prog (mEq .neq 9 (.tmp 13) (.const (.string ⟨#[]⟩)) t13 (.string ⟨#[]⟩)) w (pk K) E) w fun t14 w=>
 DoX prog (mPick t11 t14 (.bool false)) w (pk K) fun t15 w=>
 GDo t15 true (fun E=>E t5 w) w fun t17 w=>
 GDo t15 true (fun E=>CallX prog 213 #[t17,(.string ⟨#[48,49,50,51,52,53,54,55,56,57]⟩)] w (pk K) E) w fun t18 w=>
 GDo t15 true (fun E=>DoX prog (mEq .eql 9 (.tmp 18) (.const (.string ⟨#[]⟩)) t18 (.string ⟨#[]⟩)) w (pk K) E) w fun t19 w=>
 DoX prog (mPick t15 t19 (.bool false)) w (pk K) fun t20 w=>
 IfX t20 (K (.returned (.int .i64 1)) w) (CallX prog 214 #[t0,(.string ⟨#[46]⟩)] w (pk K) fun t22 w=>
 IfX t22 (K (.returned (.int .i64 2)) w) (K (.returned (.int .i64 0)) w))
theorem S_lex_class_eq (t0:Value)(w:World)(K:Ending→World→Prop):wpX prog 23 [] [] none (bodyOf Tryz.f166) (topQ prog [.tmp 2] K) (startX [t0]) [] w=S_lex_class t0 w K:=by kernel_rfl
theorem S_lex_class_ok {t0:Value}{w:World}{K:Ending→World→Prop}(h:S_lex_class t0 w K):Calls prog 166 #[t0] w K:=
 calls_of_wpX Tryz.func166 rfl rfl rfl rfl (Eq.mpr (S_lex_class_eq t0 w K) h)
def S_lex_whole_1 (t4:Value)(w:World)(K:Ending→World→Prop):Prop:=
 K (.returned (.tuple #[t4,(.int .i64 0)])) w
def S_lex_whole_0 (t0 t4 t9:Value)(w:World)(N1:List Value→World→Prop)(K:Ending→World→Prop):Prop:=
 DoX prog (mNext t9 true 0) w (pk K) fun t10 w=>
 DoX prog (mExt t10 0) w (pk K) fun t11 w=>
 IfX t11 (DoX prog (mExt t10 2) w (pk K) fun t12 w=>
 DoX prog (mBin .mul 2 (.int .i64 10) t4) w (pk K) fun t14 w=>
 DoX prog (mBin .sub 21 t12 (.int .i32 48)) w (pk K) fun t16 w=>
 DoX prog (mConv 21 2 t16) w (pk K) fun t17 w=>
 DoX prog (mBin .add 2 t14 t17) w (pk K) fun t18 w=>
 DoX prog (mB .min #[2,2] 2 #[false,true] #[t18,(.int .i64 2147483648)]) w (pk K) fun t19 w=>
 N1 [t19] w) (DoX prog (mBin .gtr 2 t4 (.int .i64 2147483647)) w (pk K) fun t21 w=>
 IfX t21 (K (.returned (.tuple #[(.int .i64 0),(.int .i64 2)])) w) (JoinX (fun J2=>
 DoX prog (mIx 9 t0 (.int .i64 0)) w (pk K) fun t23 w=>
 DoX prog (mEq .eql 5 (.tmp 23) (.const (.int .u8 45)) t23 (.int .u8 45)) w (pk K) fun t24 w=>
 IfX t24 (DoX prog (mUn .neg t4) w (pk K) fun t26 w=>
 J2 [t26] w) (J2 [t4] w)) (fun vs2 w=>∀_:Sg,S_lex_whole_1 (vs2.getD 0 undef) w K)))
def S_lex_whole (t0:Value)(w:World)(K:Ending→World→Prop):Prop:=
 CallX prog 212 #[t0,(.string ⟨#[43,45]⟩)] w (pk K) fun t8 w=>
 DoX prog (mRange 9 t8) w (pk K) fun t9 w=>
 LoopX [(.int .i64 0)] w (fun vs1 w N1=>∀_:Sg,S_lex_whole_0 t0 (vs1.getD 0 undef) t9 w N1 K)
theorem S_lex_whole_eq (t0:Value)(w:World)(K:Ending→World→Prop):wpX prog 28 [(10,[4])] [(3,[4])] none (bodyOf Tryz.f167) (topQ prog [.tmp 2,.tmp 3] K) (startX [t0]) [] w=S_lex_whole t0 w K:=by kernel_rfl
theorem S_lex_whole_ok {t0:Value}{w:World}{K:Ending→World→Prop}(h:S_lex_whole t0 w K):Calls prog 167 #[t0] w K:=
 calls_of_wpX Tryz.func167 rfl rfl rfl rfl (Eq.mpr (S_lex_whole_eq t0 w K) h)
def S_lex_cutter_word_0 (t1 t2 t4 t5:Value)(w:World)(K:Ending→World→Prop):Prop:=
 DoX prog (mLoad 149 t1) w (pk K) fun t61 w=>
 CallX prog 160 #[t61,(.int .i64 5),t4,t5,(.int .i64 127)] w (pk K) fun t64 w=>
 DoX prog (mExt t64 0) w (pk K) fun t65 w=>
 DoX prog (mExt t64 1) w (pk K) fun t66 w=>
 DoX prog (mStore 90 t2 t65) w (pk K) fun _ w=>
 RetX prog [.cell t2 90,.val t66] w K
def S_lex_cutter_word (t0:Value)(w:World)(K:Ending→World→Prop):Prop:=
 DoX prog (mBox 149 t0) w (pk K) fun t1 w=>
 DoX prog (mAlloc 90) w (pk K) fun t2 w=>
 DoX prog (mLoad 149 t1) w (pk K) fun t10 w=>
 DoX prog (mFA 149 t1 1) w (pk K) fun t11 w=>
 DoX prog (mLoad 3 t11) w (pk K) fun t12 w=>
 CallX prog 162 #[t10,t12] w (pk K) fun t13 w=>
 DoX prog (mFA 149 t1 0) w (pk K) fun t14 w=>
 DoX prog (mLoad 9 t14) w (pk K) fun t15 w=>
 DoX prog (mFA 149 t1 1) w (pk K) fun t16 w=>
 DoX prog (mLoad 3 t16) w (pk K) fun t17 w=>
 DoX prog (mSlice 9 t15 (some t17) (some t13) none) w (pk K) fun t19 w=>
 JoinX (fun J1=>
 CallX prog 166 #[t19] w (pk K) fun t21 w=>
 DoX prog (mEq .eql 3 (.tmp 21) (.const (.int .i64 1)) t21 (.int .i64 1)) w (pk K) fun t23 w=>
 IfX t23 (CallX prog 167 #[t19] w (pk K) fun t26 w=>
 DoX prog (mExt t26 0) w (pk K) fun t27 w=>
 DoX prog (mExt t26 1) w (pk K) fun t28 w=>
 DoX prog (mEq .neq 30 (.tmp 29) (.const (.int .i64 0)) t28 (.int .i64 0)) w (pk K) fun t30 w=>
 IfX t30 (CallX prog 107 #[t28] w (pk K) fun t32 w=>
 DoX prog (mExt t32 0) w (pk K) fun t33 w=>
 DoX prog (mExt t32 1) w (pk K) fun t34 w=>
 DoX prog (mStore 90 t2 t33) w (pk K) fun _ w=>
 RetX prog [.cell t2 90,.val t34] w K) (DoX prog (mFA 149 t1 1) w (pk K) fun t35 w=>
 DoX prog (mLoad 3 t35) w (pk K) fun t36 w=>
 DoX prog (mBuild 90 #[(0,(.int .i64 1)),(1,t36),(2,t13),(3,t27)]) w (pk K) fun t39 w=>
 DoX prog (mStore 90 t2 t39) w (pk K) fun _ w=>
 RetX prog [.cell t2 90,.val (.int .i64 0)] w K)) (DoX prog (mEq .eql 3 (.tmp 21) (.const (.int .i64 2)) t21 (.int .i64 2)) w (pk K) fun t41 w=>
 IfX t41 (CallX prog 168 #[t19] w (pk K) fun t44 w=>
 DoX prog (mExt t44 0) w (pk K) fun t45 w=>
 DoX prog (mExt t44 1) w (pk K) fun t46 w=>
 DoX prog (mEq .eql 30 (.tmp 47) (.const (.int .i64 0)) t46 (.int .i64 0)) w (pk K) fun t49 w=>
 IfX t49 (DoX prog (mFA 149 t1 1) w (pk K) fun t50 w=>
 DoX prog (mLoad 3 t50) w (pk K) fun t51 w=>
 DoX prog (mBuild 90 #[(0,(.int .i64 2)),(1,t51),(2,t13),(3,t45)]) w (pk K) fun t54 w=>
 DoX prog (mStore 90 t2 t54) w (pk K) fun _ w=>
 RetX prog [.cell t2 90,.val (.int .i64 0)] w K) (DoX prog (mEq .eql 30 (.tmp 47) (.const (.int .i64 2)) t46 (.int .i64 2)) w (pk K) fun t56 w=>
 IfX t56 (CallX prog 107 #[t46] w (pk K) fun t58 w=>
 DoX prog (mExt t58 0) w (pk K) fun t59 w=>
 DoX prog (mExt t58 1) w (pk K) fun t60 w=>
 DoX prog (mStore 90 t2 t59) w (pk K) fun _ w=>
 RetX prog [.cell t2 90,.val t60] w K) (J1 [(.int .i64 0)] w))) (J1 [(.int .i64 0)] w))) (fun vs1 w=>∀_:Sg,S_lex_cutter_word_0 t1 t2 t13 t19 w K)
theorem S_lex_cutter_word_eq (t0:Value)(w:World)(K:Ending→World→Prop):wpX prog 67 [(16,[3])] [] none (bodyOf Tryz.f113) (topQ prog [.cell 2 90,.tmp 3] K) (startX [t0]) [] w=S_lex_cutter_word t0 w K:=by kernel_rfl
theorem S_lex_cutter_word_ok {t0:Value}{w:World}{K:Ending→World→Prop}(h:S_lex_cutter_word t0 w K):Calls prog 113 #[t0] w K:=
 calls_of_wpX Tryz.func113 rfl rfl rfl rfl (Eq.mpr (S_lex_cutter_word_eq t0 w K) h)
end
section
open Eng Go.RowKit
def tokC (x:Lx.Tok):List Value:=[.int .i64 x.k,.int .i64 x.a,.int .i64 x.t,.int .i64 x.n,.string ⟨x.s.toArray⟩]
def tokV (x:Lx.Tok):Value:=.agg (tokC x).toArray
def tokR (r:Lx.Tok×Int):Value:=.tuple #[tokV r.1,.int .i64 r.2]
def cutC (s:List UInt8)(a:Int):List Value:=[.string ⟨s.toArray⟩,.int .i64 a]
def cutV (s:List UInt8)(a:Int):Value:=.agg (cutC s a).toArray
def cutE (b:Nat)(s:List UInt8)(a:Int):Ent:=.cells b (cutC s a) 149
def tokE (b:Nat)(x:Lx.Tok):Ent:=.cells b (tokC x) 90
theorem aggTok:aggN prog 90=some 5:=by kernel_rfl
theorem aggCut:aggN prog 149=some 2:=by kernel_rfl
theorem nStr:notAgg prog 9=true:=by kernel_rfl
theorem nInt:notAgg prog 3=true:=by kernel_rfl
theorem szTok:(Tryz.prog.info? 90).map (·.size)=some 5:=by kernel_rfl
section
variable {w:World}{PK:PKT}{K:VWP}{S:Nat→Prop}{w0:World}{L:List Ent}
theorem fa_c0 {b:Nat}:DoX prog (mFA 149 (.pointer (some ⟨b,0,none⟩)) 0) w PK K=K (.pointer (some ⟨b,0,none⟩)) w:=f_addr (show fOff prog 149 0=some 0 by kernel_rfl)
theorem fa_c1 {b:Nat}:DoX prog (mFA 149 (.pointer (some ⟨b,0,none⟩)) 1) w PK K=K (.pointer (some ⟨b,1,none⟩)) w:=f_addr (show fOff prog 149 1=some 1 by kernel_rfl)
theorem cut_s (ho:OwnS S w0 w L)(i:Nat){b:Nat}{s:List UInt8}{a:Int}(hi:L[i]?=some (cutE b s a)):DoX prog (mLoad 9 (.pointer (some ⟨b,0,none⟩))) w PK K=K (.string ⟨s.toArray⟩) w:=l_cell nStr (ho.cell i hi 0 rfl)
theorem cut_a (ho:OwnS S w0 w L)(i:Nat){b:Nat}{s:List UInt8}{a:Int}(hi:L[i]?=some (cutE b s a)):DoX prog (mLoad 3 (.pointer (some ⟨b,1,none⟩))) w PK K=K (.int .i64 a) w:=l_cell nInt (ho.cell i hi 1 rfl)
theorem cut_v (ho:OwnS S w0 w L)(i:Nat){b:Nat}{s:List UInt8}{a:Int}(hi:L[i]?=some (cutE b s a)):DoX prog (mLoad 149 (.pointer (some ⟨b,0,none⟩))) w PK K=K (cutV s a) w:=l_at (ho.agg i hi aggCut)
theorem cutr_s (ho:OwnS S w0 w L)(i:Nat){b:Nat}{s:List UInt8}{a:Int}(hi:L[i]?=some (cutE b s a)):(mLoad 9 (.pointer (some ⟨b,0,none⟩))).run prog w=.ok (.value (.string ⟨s.toArray⟩)) w:=run_load_cell nStr (ho.cell i hi 0 rfl)
theorem cutr_a (ho:OwnS S w0 w L)(i:Nat){b:Nat}{s:List UInt8}{a:Int}(hi:L[i]?=some (cutE b s a)):(mLoad 3 (.pointer (some ⟨b,1,none⟩))).run prog w=.ok (.value (.int .i64 a)) w:=run_load_cell nInt (ho.cell i hi 1 rfl)
theorem cutr_v (ho:OwnS S w0 w L)(i:Nat){b:Nat}{s:List UInt8}{a:Int}(hi:L[i]?=some (cutE b s a)):(mLoad 149 (.pointer (some ⟨b,0,none⟩))).run prog w=.ok (.value (cutV s a)) w:=run_load_at (ho.agg i hi aggCut)
theorem o_cut (s:List UInt8)(a:Int)(ho:OwnS S w0 w L)(k:∀b w',OwnS S w0 w' (cutE b s a::L)→K (.pointer (some ⟨b,0,none⟩)) w'):DoX prog (mBox 149 (cutV s a)) w PK K:=
 o_new (fun b=>.pointer (some ⟨b,0,none⟩)) (cutC s a) 149 (fun _=>by kernel_rfl) ho k
theorem o_tok (ho:OwnS S w0 w L)(k:∀b w',OwnS S w0 w' (tokE b Lx.none_::L)→K (.pointer (some ⟨b,0,none⟩)) w'):DoX prog (mAlloc 90) w PK K:=
 o_new (fun b=>.pointer (some ⟨b,0,none⟩)) (tokC Lx.none_) 90 (fun _=>by kernel_rfl) ho k
theorem tokC_one (x:Lx.Tok):∀v∈tokC x,v.oneCell'=true:=by
 intro v hv;simp only[tokC,List.mem_cons,List.not_mem_nil,or_false] at hv;rcases hv with rfl|rfl|rfl|rfl|rfl<;>rfl
theorem tok_put {KE:Ending→World→Prop}(i:Nat){b:Nat}{x y:Lx.Tok}{e:Int}(ho:Own w0 w L)(hi:L[i]?=some (tokE b x))(k:∀w',Own w0 w' (L.set i (tokE b y))→KE (.returned (tokR (y,e))) w') :
  DoX prog (mStore 90 (.pointer (some ⟨b,0,none⟩)) (tokV y)) w PK fun _ w=>RetX prog [.cell (.pointer (some ⟨b,0,none⟩)) 90,.val (.int .i64 e)] w KE:=by
 refine o_put i ho hi (new:=tokC y) szTok (tokC_one y) rfl fun w' ho'=>?_;have hi':(L.set i (tokE b y))[i]?=some (tokE b y):=by
  have:=(List.getElem?_eq_some_iff.1 hi).1;simp[this]
 exact ret_v2 (rv_cell (ho'.agg i hi' aggTok)) rv_val (k w' ho')
theorem run_ext0 {a b:Value}:(mExt (.tuple #[a,b]) 0).run prog w=.ok (.value a) w:=by kernel_rfl
theorem run_ext1 {a b:Value}:(mExt (.tuple #[a,b]) 1).run prog w=.ok (.value b) w:=by kernel_rfl
theorem x_0 {a b:Value}:DoX prog (mExt (.tuple #[a,b]) 0) w PK K=K a w:=do_eq (by kernel_rfl)
theorem x_1 {a b:Value}:DoX prog (mExt (.tuple #[a,b]) 1) w PK K=K b w:=do_eq (by kernel_rfl)
theorem tok_tail {KE:Ending→World→Prop}{PK1 PK2 PK3 PK4:PKT}(i:Nat){b:Nat}{x:Lx.Tok}{r:Lx.Tok×Int}{f:Nat}{args:Array Value}(ho:Own w0 w L)(hi:L[i]?=some (tokE b x))
  (h:Ret prog f args w (fun v w'=>v=tokR r∧Below w.heap.size w w')) (k:∀w',Below w0.heap.size w0 w'→KE (.returned (tokR r)) w') :
  CallX prog f args w PK1 fun t w=>DoX prog (mExt t 0) w PK2 fun u w=>DoX prog (mExt t 1) w PK3 fun v w=>DoX prog (mStore 90 (.pointer (some ⟨b,0,none⟩)) u) w PK4 fun _ w=>RetX prog [.cell (.pointer (some ⟨b,0,none⟩)) 90,.val v] w KE:=by
 refine c_below ho h ?_;rintro v w' rfl ho';rw[tokR,x_0,x_1];exact tok_put i ho' hi fun w' ho=>k w' ho.done
theorem m_tok0:DoX prog (mBuild 90 #[]) w PK K=K (tokV Lx.none_) w:=do_eq (by kernel_rfl)
theorem m_tok2 {a t:Int}:DoX prog (mBuild 90 #[(1,.int .i64 a),(2,.int .i64 t)]) w PK K=K (tokV ⟨0,a,t,0,[]⟩) w:=do_eq (by kernel_rfl)
theorem m_tok4 {k a t:Int}{s:List UInt8}:DoX prog (mBuild 90 #[(0,.int .i64 k),(1,.int .i64 a),(2,.int .i64 t),(4,.string ⟨s.toArray⟩)]) w PK K=K (tokV ⟨k,a,t,0,s⟩) w:=do_eq (by kernel_rfl)
theorem r_tok4 {k a t:Int}{s:List UInt8}:(mBuild 90 #[(0,.int .i64 k),(1,.int .i64 a),(2,.int .i64 t),(4,.string ⟨s.toArray⟩)]).run prog w=.ok (.value (tokV ⟨k,a,t,0,s⟩)) w:=by kernel_rfl
theorem m_tokn {k a t n:Int}:DoX prog (mBuild 90 #[(0,.int .i64 k),(1,.int .i64 a),(2,.int .i64 t),(3,.int .i64 n)]) w PK K=K (tokV ⟨k,a,t,n,[]⟩) w:=do_eq (by kernel_rfl)
end
theorem refused_ret (e:Int)(w:World):Ret prog 107 #[.int .i64 e] w (fun v w'=>v=tokR (Lx.refused e)∧Below w.heap.size w w'):=by
 refine ret_of fun K hK=>S_lex_refused_ok ?_;unfold S_lex_refused;refine o_tok (Own.start w) fun b w1 ho=>?_;rw[m_tok0];exact tok_put 0 ho rfl fun w' ho=>hK _ _ ⟨rfl,ho.done⟩
theorem told_ret (s:List UInt8)(a k t:Int)(x:List UInt8)(most:Int)(w:World):Ret prog 160 #[cutV s a,.int .i64 k,.int .i64 t,.string ⟨x.toArray⟩,.int .i64 most] w (fun v w'=>v=tokR (Lx.told k a t x most)∧Below w.heap.size w w'):=by
 refine ret_of fun K hK=>S_lex_cutter_told_ok ?_;unfold S_lex_cutter_told;refine o_cut s a (Own.start w) fun b1 w1 ho=>?_;refine o_tok ho fun b w2 ho=>?_;by_cases h:most < (x.length:Int)
 ·simp only[rs,s_len Tryz.underlying9,h,decide_true];exact tok_tail 0 ho rfl (refused_ret 5 _) fun w' hb=>hK _ _ ⟨by rw[Lx.told,if_pos h],hb⟩
 ·simp only[rs,s_len Tryz.underlying9,h,decide_false,fa_c1,cut_a ho 1 rfl,m_tok4];exact tok_put 0 ho rfl fun w' ho=>hK _ _ ⟨by rw[Lx.told,if_neg h],ho.done⟩
theorem mark_ret (s:List UInt8)(a n:Nat)(w:World)(hs:s.length≤1099511627776)(h:a+n≤s.length):Ret prog 109 #[cutV s a,.int .i64 n] w (fun v w'=>v=tokR (Lx.mark s a n)∧Below w.heap.size w w'):=by
 refine ret_of fun K hK=>S_lex_cutter_mark_ok ?_;unfold S_lex_cutter_mark;refine o_cut s a (Own.start w) fun b1 w1 ho=>?_;refine o_tok ho fun b w2 ho=>?_;have f1:fOff prog 149 1=some 1:=by kernel_rfl
 have f0:fOff prog 149 0=some 0:=by kernel_rfl
 have hw:IntKind.wrap .i64 ((a:Int)+(n:Int))=((a+n:Nat):Int):=by rw[wrap64_id (by omega) (by omega)];simp
 refine quiet (q_do _ (fun _=>run_fa f1) (q_at _ (fun _ hb=>cutr_a (ho.grow hb) 1 rfl) (q_do _ (fun _=>run_fa f1) (q_at _ (fun _ hb=>cutr_a (ho.grow hb) 1 rfl) (q_do _ (fun _=>by rw[r_add,hw]) ?_)))));refine q_do _ (fun _=>run_fa f0) (q_at _ (fun _ hb=>cutr_s (ho.grow hb) 1 rfl) (q_do _ (fun _=>run_fa f1) (q_at _ (fun _ hb=>cutr_a (ho.grow hb) 1 rfl) (q_do _ (fun _=>run_fa f1) (q_at _ (fun _ hb=>cutr_a (ho.grow hb) 1 rfl) (q_do _ (fun _=>by rw[r_add,hw]) ?_))))));refine q_do (.string ⟨(Lx.cut s a (a+n)).toArray⟩) (fun w=>?_) (q_do _ (fun _=>r_tok4) ?_)
 ·have:=@run_s_slice prog w 9 s .i64 .i64 (a:Int) ((a+n:Nat):Int) Tryz.underlying9 (by omega) (by omega) (by omega);rw[this];rfl
 ·intro w3 hb;exact tok_put 0 (ho.grow hb) rfl fun w' ho=>hK _ _ ⟨rfl,ho.done⟩
theorem run_ret (s:List UInt8)(a:Int)(i:Nat)(w:World)(hs:s.length≤1099511627776)(h:i≤s.length):Ret prog 162 #[cutV s a,.int .i64 i] w (fun v w'=>v=.int .i64 (Lx.run s i)∧Below w.heap.size w w'):=by
 refine ret_of fun K hK=>S_lex_cutter_run_ok ?_;unfold S_lex_cutter_run;refine o_cut s a (Own.start w) fun b1 w1 ho=>?_;refine loop (fun vs w'=>∃(j:Nat),vs=[.int .i64 j]∧j≤s.length∧Lx.run s j=Lx.run s i∧w1=w') (fun vs _=>s.length - n0 vs) ⟨i,rfl,h,rfl,rfl⟩ ?_;rintro vs w2 ⟨j,rfl,hj,he,rfl⟩ _;simp only[S_lex_cutter_run_0,gd,fa_c0,cut_s ho 0 rfl,s_len Tryz.underlying9];rw[b_lss];by_cases hlt:(j:Int) < (s.length:Int)
 ·have hi2:j < s.length:=by omega
  have hd:=Lx.drop_cons hi2;have hx:∀{PK K},DoX prog (mIx 9 (.string ⟨s.toArray⟩) (.int .i64 (j:Int))) w1 PK K=K (.int .u8 (s[j].toNat:Int)) w1:=s_ix (c:=s[j]) Tryz.underlying9 (Int.natCast_nonneg j) (by simp[hi2]);simp only[hlt,decide_true,rs,fa_c0,cut_s ho 0 rfl,hx];refine c_eq (regular_ret s[j] w1) ?_;cases hr:Oc.regular s[j] with
 |true=>
   simp only[rs];rw[wrap64_id (by omega) (by omega)];refine nextX ⟨j+1,rfl,by omega,?_,rfl⟩ (by simp[n0,RowKit.intOf];omega);rw[←he,Lx.run,Lx.run,hd,Lx.runF,if_pos hr];omega
 |false=>
   simp only[rs];refine hK _ _ ⟨?_,ho.done⟩;rw[←he,Lx.run,hd,Lx.runF,if_neg (by simp[hr])];simp
 ·have hi2:j=s.length:=by omega
  subst hi2;simp only[hlt,decide_false,rs,g_un];refine hK _ _ ⟨?_,ho.done⟩;rw[←he,Lx.run,List.drop_length];simp[Lx.runF]
theorem end_ret (s:List UInt8)(a:Int)(i:Nat)(w:World)(hs:s.length≤1099511627776)(h:i < s.length):Ret prog 164 #[cutV s a,.int .i64 i] w (fun v w'=>v=.tuple #[.int .i64 (if Lx.eol s[i] then (Lx.line s i:Int) else (i:Int)),.bool (Lx.eol s[i])]∧Below w.heap.size w w'):=by
 refine ret_of fun K hK=>S_lex_cutter_end_ok ?_;unfold S_lex_cutter_end;refine o_cut s a (Own.start w) fun b1 w1 ho=>?_;have hx:∀{PK K},DoX prog (mIx 9 (.string ⟨s.toArray⟩) (.int .i64 (i:Int))) w1 PK K=K (.int .u8 (s[i].toNat:Int)) w1:=s_ix (c:=s[i]) Tryz.underlying9 (Int.natCast_nonneg i) (by simp[h]);have e1:=u8d s[i] 13 13 rfl;have e2:=u8d s[i] 10 10 rfl;have fin:∀e:Lx.eol s[i]=true,CallX prog 211 #[.string ⟨s.toArray⟩,.int .i64 i] w1 (pk K) fun t21 w=>K (.returned (.tuple #[t21,(.bool true)])) w:=by
  intro e;refine c_eq (line_ret s i w1 (by omega) (by omega)) ?_;exact hK _ _ ⟨by rw[e];rfl,ho.done⟩
 by_cases h1:s[i]=13
 ·simp only[fa_c0,cut_s ho 0 rfl,hx,rs,e1,decide_eq_true h1,g_un];exact fin (by simp[Lx.eol,h1])
 simp only[fa_c0,cut_s ho 0 rfl,hx,rs,e1,decide_eq_false h1];by_cases h2:s[i]=10
 ·simp only[rs,e2,decide_eq_true h2,g_un];exact fin (by simp[Lx.eol,h2])
 simp only[rs,e2,decide_eq_false h2,g_un];exact hK _ _ ⟨by simp[Lx.eol,h1,h2],ho.done⟩
end
section
open Eng Go.RowKit
theorem hexor_fin:∀n m:Fin 16,bOr .i64 (IntKind.wrap .i64 ((n.val:Int)*2 ^ (min (4:Int).toNat IntKind.i64.bits))) (m.val:Int)=((16*n.val+m.val:Nat):Int):=by decide +kernel
theorem hexor {a b:Int}(ha:0≤a)(ha2:a≤15)(hb:0≤b)(hb2:b≤15):bOr .i64 (IntKind.wrap .i64 (a*2 ^ (min (4:Int).toNat IntKind.i64.bits))) b=16*a+b:=by
 have:=hexor_fin ⟨a.toNat,by omega⟩ ⟨b.toNat,by omega⟩;simp only at this;rw[Int.toNat_of_nonneg ha,Int.toNat_of_nonneg hb] at this;rw[this];omega
theorem byte_nat {a b:Int}(ha:0≤a)(ha2:a≤15)(hb:0≤b)(hb2:b≤15):((Lx.byte a b).toNat:Int)=16*a+b:=by
 rw[Lx.byte,UInt8.toNat_ofNat'];omega
theorem unhex_odd:∀(n:Nat) (l:List UInt8),l.length≤n→l.length % 2=1→Lx.unhex l=none
|_,[],_,h=>by simp at h
|_,[_],_,_=>rfl
|0,_::_::_,h,_=>by simp at h
|n+1,a::b::t,hl,h=>by
  simp only[List.length_cons] at hl h;rw[Lx.unhex,unhex_odd n t (by omega) (by omega)];simp
theorem unhex_step {s:List UInt8}{i:Nat}(h:i+1 < s.length):Lx.unhex (s.drop i)=if Lx.digit s[i] < 0∨Lx.digit s[i+1] < 0 then none else (Lx.unhex (s.drop (i+2))).map (Lx.byte (Lx.digit s[i]) (Lx.digit s[i+1])::·):=by
 rw[Lx.drop_cons (show i < s.length by omega),Lx.drop_cons h,Lx.unhex]
theorem unhexE_none {s:List UInt8}(h:Lx.unhex s=none):Lx.unhexE s=([],3):=by rw[Lx.unhexE,h]
theorem unhexE_some {s x:List UInt8}(h:Lx.unhex s=some x):Lx.unhexE s=(x,0):=by rw[Lx.unhexE,h]
theorem m_b1 {n:Int}(w:World)(c:UInt8)(h:(c.toNat:Int)=n):(mBuildS 71 1 #[(0,.int .u8 n)]).run prog w=.ok (.value (.slice (some ⟨w.heap.size,0,none⟩) [c].length [c].length)) (w.alloc (.cells (bytesV [c]).toArray 5)):=by
 subst h;kernel_rfl
theorem o_app1 {S:Nat→Prop}{w0 w:World}{L:List Ent}{v:Value}{l:List UInt8}{n:Int}{cs:Array Bool}{PK PK2:PKT}{K:VWP}(c:UInt8)(h:(c.toNat:Int)=n)
  (ho:OwnS S w0 w (BRow v l::L)) (hb:l.length+1≤140737488355328) (k:∀v' w',OwnS S w0 w' (BRow v' (l++[c])::L)→K v' w') :
  DoX prog (mBuildS 71 1 #[(0,.int .u8 n)]) w PK fun t w=>DoX prog (mB .append #[71,71] 71 cs #[v,t]) w PK2 K:=
 o_appB (m:=[c]) (fun w=>m_b1 w c h) ho (by simpa using hb) k
theorem c_8 {w:World}{PK:PKT}{K:VWP}{n:Int}:DoX prog (mConv 3 5 (.int .i64 n)) w PK K=K (.int .u8 (IntKind.wrap .u8 n)) w:=
 c_int (show (Tryz.prog.underlying 3).isSome=true by kernel_rfl) Tryz.underlying5
theorem c_64 {w:World}{PK:PKT}{K:VWP}{n:Int}(h0:0≤n)(h1:n≤255):DoX prog (mConv 5 3 (.int .u8 n)) w PK K=K (.int .i64 n) w:=by
 rw[c_int (show (Tryz.prog.underlying 5).isSome=true by kernel_rfl) Tryz.underlying3,wrap64_id (by omega) (by omega)]
 attribute [local congr] g_congr in
theorem unhex_ret (s:List UInt8)(w:World)(hs:s.length≤1099511627776):Ret prog 163 #[.string ⟨s.toArray⟩] w (fun v w'=>v=.tuple #[.string ⟨(Lx.unhexE s).1.toArray⟩,.int .i64 (Lx.unhexE s).2]∧Below w.heap.size w w'):=by
  refine ret_of fun K hK=>S_octet_Unhex_ok ?_;unfold S_octet_Unhex;rw[s_len Tryz.underlying9,b_rem (by omega)];have hr:((s.length:Int).tmod 2)=((s.length % 2:Nat):Int):=by rw[Int.tmod_eq_emod_of_nonneg (by omega)];omega
  rw[hr];by_cases hodd:s.length % 2=1
  ·rw[hodd];simp only[rs];have hu:¬((1:Nat):Int)=0:=by omega
   simp only[hu,decide_true,decide_not,decide_false,Bool.not_false,rs];exact hK _ _ ⟨by rw[unhexE_none (unhex_odd _ s (Nat.le_refl _) hodd)],(Own.start w).done⟩
  have heven:s.length % 2=0:=by omega
  have hq:((s.length:Int).tdiv 2)=((s.length / 2:Nat):Int):=by rw[Int.tdiv_eq_ediv_of_nonneg (by omega)];omega
  rw[heven];simp only[rs,ne_eq,Int.natCast_zero,not_true,decide_false];rw[s_len Tryz.underlying9,b_quo (by omega),hq,wrap64_id (by omega) (by omega)];refine o_make (c:=s.length / 2) rfl Tryz.underlying71 (show elB prog 5 1 1=true by kernel_rfl) (by omega) (by omega) (Own.start w) fun v w1 h1=>?_;refine loop (fun vs w'=>∃(i:Nat) (v:Value) (acc:List UInt8),vs=[v,.int .i64 i]∧i≤s.length∧i % 2=0∧acc.length≤i∧Lx.unhex s=(Lx.unhex (s.drop i)).map (acc++·)∧Own w w' [BRow v acc])
   (fun vs _=>s.length - n1 vs) ⟨0,v,[],rfl,by omega,rfl,by simp,by simp,by simpa[BRow,bytesV] using h1⟩ ?_
  rintro vs w2 ⟨i,v,acc,rfl,hi,hi0,ha,he,ho⟩ _;simp only[S_octet_Unhex_0,gd,s_len Tryz.underlying9];rw[b_lss];by_cases hlt:(i:Int) < (s.length:Int)
  ·have hi2:i+1 < s.length:=by omega
   have hi3:i < s.length:=by omega
   simp only[hlt,decide_true,i_t];have b1:=Lx.digit_bd s[i];have b2:=Lx.digit_bd s[i+1];have hw1:IntKind.wrap .i64 ((i:Int)+1)=((i+1:Nat):Int):=by rw[wrap64_id (by omega) (by omega)];omega
   have hc1:s[(i:Int).toNat]?=some s[i]:=by simp[hi3]
   have hc2:s[((i+1:Nat):Int).toNat]?=some s[i+1]:=by rw[Int.toNat_natCast];simp[hi2]
   refine quiet (q_do _ (fun w=>run_s_ix (c:=s[i]) Tryz.underlying9 (Int.natCast_nonneg i) hc1) ?_);refine q_call (.int .i64 (Lx.digit s[i])) (fun w hb=>ret_same (digit_ret s[i] w) hb) ?_;refine q_do (.int .i64 ((i+1:Nat):Int)) (fun w=>by rw[r_add,hw1]) ?_;refine q_do _ (fun w=>run_s_ix (c:=s[i+1]) Tryz.underlying9 (Int.natCast_nonneg _) hc2) ?_;refine q_call (.int .i64 (Lx.digit s[i+1])) (fun w hb=>ret_same (digit_ret s[i+1] w) hb) ?_;intro w3 hb3;have ho:=ho.grow hb3;rw[unhex_step hi2] at he;simp +contextual only[rs,gs];by_cases hbad:Lx.digit s[i] < 0∨Lx.digit s[i+1] < 0
   ·have hb:(decide (Lx.digit s[i] < 0)||decide (Lx.digit s[i+1] < 0))=true:=by simpa using hbad
    simp only[hb,i_t];rw[if_pos hbad] at he;exact hK _ _ ⟨by rw[unhexE_none he],ho.done⟩
   have hb:(decide (Lx.digit s[i] < 0)||decide (Lx.digit s[i+1] < 0))=false:=by simpa using hbad
   simp only[hb,i_f];rw[if_neg hbad] at he;rw[b_shl (by omega),b_or,hexor (by omega) (by omega) (by omega) (by omega),c_8,wrap8_id (by omega) (by omega)];refine o_app1 (Lx.byte (Lx.digit s[i]) (Lx.digit s[i+1])) (byte_nat (by omega) (by omega) (by omega) (by omega)) ho (by omega) fun v' w4 ho=>?_;rw[wrap64_id (by omega) (by omega)];refine nextX ⟨i+2,v',_,rfl,by omega,by omega,by simp;omega,?_,ho⟩ (by simp[n1,RowKit.intOf];omega);rw[he,Option.map_map]
   congr 1
   funext x;simp
  ·have hi2:i=s.length:=by omega
   subst hi2;simp only[hlt,decide_false,i_f];rw[o_strB 0 ho rfl];rw[List.drop_length,Lx.unhex,Option.map_some,List.append_nil] at he;exact hK _ _ ⟨by rw[unhexE_some he],ho.done⟩
end
end Go.Proofs.YtjloddgofmdmgaaGreatDoor
