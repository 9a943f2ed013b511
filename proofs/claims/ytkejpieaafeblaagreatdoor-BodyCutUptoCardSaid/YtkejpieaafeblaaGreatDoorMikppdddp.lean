/- Texts that go together: EngY SSlc SlcA SMake SIdx OcIdx ObC SRef05 FixU FixV FixW FixX SLaw02 FixY EngG ObD EngW ObE ObF SVal ObG ObH ObI MkA SMake5 Plain07 SRef07 SRef04 PlR PlS Plain03D Plain03E Plain04B Plain03F Plain03G Plain17 Plain17B Plain55. -/
import Derived.Laws.CopyRow
import Derived.Lib.AppendZerosOnto
import Derived.Lib.SliceRun
import Derived.Test.YtkejpieaafeblaaGreatDoorRows
import Derived.Lib.Overlaps
import Derived.Laws.Externs
import Derived.Laws.RangeAny
import Derived.Sort.Walk0
import Derived.Lib.IndexMore
import Derived.Lib.LastIndexLaws
import Derived.Test.YtkejpieaafeblaaGreatDoorMbcfnphka
import Derived.Test.YtkejpieaafeblaaGreatDoorMenaffjmi
set_option linter.defProp false
set_option linter.unusedSimpArgs false
set_option linter.unusedVariables false
set_option maxRecDepth 20000
open Go.Proofs.Tryz (prog)
namespace Go.Proofs.YtkejpieaafeblaaGreatDoor
section
namespace Eng
open Go.RowKit
section
variable {S:Nat→Prop}{P:Program}{w w0:World}{L:List Ent}{PK:PKT}{K:VWP}
theorem e_nilS {T E:TypeId}{xo yo:Operand}{a:Option Addr}{n c n' c':Nat}(h:P.underlying T=some (.slice E)):DoX P (mEq .eql T xo yo (.slice a n c) (.slice none n' c')) w PK K=K (.bool a.isNone) w:=by
 refine mv_do ?_;simp[eqGuard,Lib.run_eql_slice_nil w T E a n c n' c' h]
theorem n_nilS {T E:TypeId}{xo yo:Operand}{a:Option Addr}{n c n' c':Nat}(h:P.underlying T=some (.slice E)):DoX P (mEq .neq T xo yo (.slice a n c) (.slice none n' c')) w PK K=K (.bool (!a.isNone)) w:=by
 refine mv_do ?_;have:=Lib.run_equalIn_slice_nil (P:=P) w 9999 T E a n c n' c' h;simp[eqGuard,binOp,Op.equal,Op.maxDepth,this]
def subA (a:Option Addr)(l cap sz:Nat):Option Addr:=if cap=l then a else a.map (·.add (l*sz))
theorem subA_in {b off l cap sz:Nat}(h:l < cap):subA (some ⟨b,off,none⟩) l cap sz=some ⟨b,off+l*sz,none⟩:=by
 unfold subA;rw[if_neg (by omega),Option.map_some,add_none]
theorem subA_0 {a:Addr}{cap sz:Nat}:subA (some ⟨a.block,a.off,none⟩) 0 cap sz=some ⟨a.block,a.off,none⟩:=by
 unfold subA;split
 ·rfl
 ·rw[Option.map_some,add_none,Nat.zero_mul,Nat.add_zero]
theorem run_sl_l {T E:TypeId}{k:IntKind}{a:Option Addr}{n cap sz:Nat}{lo:Int}(h:P.underlying T=some (.slice E))(hsz:(P.info? E).map (·.size)=some sz)(h0:0≤lo)(h1:lo≤n) :
  (mSlice T (.slice a n cap) (some (.int k lo)) none none).run P w=.ok (.value (.slice (subA a lo.toNat cap sz) (n - lo.toNat) (cap - lo.toNat))) w:=by
 obtain⟨i,hi,h2⟩:=Option.map_eq_some_iff.1 hsz;have he:P.elem T=E:=by simp[Program.elem,h]
 have ht:P.underlying T=some (.slice (P.elem T)):=by rw[he];exact h
 refine mv_run ?_;rw[run_sliceAt_slice w T _ _ _ _ ht,run_slice_l w T a n cap ht k lo h0 h1];simp[sizeOf,typeInfo,he,hi,h2,sliced,subA]
theorem run_sl_h {T E:TypeId}{k:IntKind}{a:Option Addr}{n cap sz:Nat}{hi:Int}(h:P.underlying T=some (.slice E))(hsz:(P.info? E).map (·.size)=some sz)(h0:0≤hi)(h1:hi≤cap) :
  (mSlice T (.slice a n cap) none (some (.int k hi)) none).run P w=.ok (.value (.slice (subA a 0 cap sz) hi.toNat cap)) w:=by
 obtain⟨i,hi',h2⟩:=Option.map_eq_some_iff.1 hsz;have he:P.elem T=E:=by simp[Program.elem,h]
 have ht:P.underlying T=some (.slice (P.elem T)):=by rw[he];exact h
 refine mv_run ?_;rw[run_sliceAt_slice w T _ _ _ _ ht,run_slice_h w T a n cap ht k hi h0 h1];simp[sizeOf,typeInfo,he,hi',h2,sliced,subA]
theorem run_sl_lh {T E:TypeId}{k k':IntKind}{a:Option Addr}{n cap sz:Nat}{lo hi:Int}(h:P.underlying T=some (.slice E))(hsz:(P.info? E).map (·.size)=some sz)(h0:0≤lo)(h1:lo≤hi)(h2:hi≤cap) :
  (mSlice T (.slice a n cap) (some (.int k lo)) (some (.int k' hi)) none).run P w=.ok (.value (.slice (subA a lo.toNat cap sz) (hi.toNat - lo.toNat) (cap - lo.toNat))) w:=by
 obtain⟨i,hi',h3⟩:=Option.map_eq_some_iff.1 hsz;have he:P.elem T=E:=by simp[Program.elem,h]
 have ht:P.underlying T=some (.slice (P.elem T)):=by rw[he];exact h
 refine mv_run ?_;rw[run_sliceAt_slice w T _ _ _ _ ht,run_slice_lh w T a n cap ht k k' lo hi h0 h1 h2];simp[sizeOf,typeInfo,he,hi',h3,sliced,subA]
theorem run_sl_lhm {T E:TypeId}{k k' k2:IntKind}{a:Option Addr}{n cap sz:Nat}{lo hi m:Int}(h:P.underlying T=some (.slice E))(hsz:(P.info? E).map (·.size)=some sz)(h0:0≤lo)(h1:lo≤hi)(h2:hi≤m)(h3:m≤cap) :
  (mSlice T (.slice a n cap) (some (.int k lo)) (some (.int k' hi)) (some (.int k2 m))).run P w=.ok (.value (.slice (subA a lo.toNat m.toNat sz) (hi.toNat - lo.toNat) (m.toNat - lo.toNat))) w:=by
 obtain⟨i,hi',h4⟩:=Option.map_eq_some_iff.1 hsz;have he:P.elem T=E:=by simp[Program.elem,h]
 have ht:P.underlying T=some (.slice (P.elem T)):=by rw[he];exact h
 refine mv_run ?_;rw[run_sliceAt_slice w T _ _ _ _ ht,run_slice_lhm w T a n cap ht k k' k2 lo hi m h0 h1 h2 h3];simp[sizeOf,typeInfo,he,hi',h4,sliced,subA]
theorem cap_sl {T U E:TypeId}{cb:Array Bool}{a:Option Addr}{n cap:Nat}(h:P.underlying T=some (.slice E)):DoX P (mB .cap #[T] U cb #[.slice a n cap]) w PK K=K (.int .i64 (cap:Int)) w:=by
 refine do_eq ?_;simp[mB,builtin,Builtin.cap_,run_underlying h,goInt]
theorem o_makeN {T E:TypeId}{sz bytes n:Nat}{kl kc:IntKind}(ht:P.underlying T=some (.slice E))(he:elB P E sz bytes=true)(hb:bytes*n≤281474976710656)(hn:n≤281474976710656)(ho:OwnS S w0 w L)
  (k:∀(g:Nat) (w':World) (zs:List Value),zs.length=n*sz→OwnS S w0 w' (.cells g zs E::L)→K (.slice (some ⟨g,0,none⟩) n n) w'):DoX P (mMake T (.int kl (n:Int)) (.int kc (n:Int))) w PK K:=by
 obtain⟨i,z,hi,hz,hi1,hi2,hz1⟩:=elB_spec he;have hb':(i.bytes:Int)*(n:Int)≤281474976710656:=by rw[hi2,←Int.natCast_mul];omega
 have hr:=run_make (P:=P) w T E i z ht hi hz kl kc n n (by omega) (by omega) hb' (by omega);rw[Int.toNat_natCast] at hr;refine do_ok (mv_run hr) (k _ _ (madeCells z.cells (n*i.size)).toList ?_ ?_)
 ·rw[Array.length_toList,size_madeCells,hi1]
 ·have:=ho.alloc (madeCells z.cells (n*i.size)).toList E
  rwa [Array.toArray_toList] at this
theorem run_copyC {dT sT ty T E:TypeId}{cb:Array Bool}{g o dLen dCap sz:Nat}{a:Addr}{sLen sCap:Nat}{cur src:List Value}(hu:P.underlying dT=some (.slice E))(hsz:(P.info? E).map (·.size)=some sz)
  (hg:w.heap[g]?=some (.cells cur.toArray T (0,0))) (hn:src.length=Nat.min sLen dLen*sz) (hsrc:∀j v,src[j]?=some v→w.cell? (a.add j)=some v) (hfit:o+src.length≤cur.length) (h1:∀v∈src,v.oneCell'=true) :
  (mB .copy #[dT,sT] ty cb #[.slice (some ⟨g,o,none⟩) dLen dCap,.slice (some a) sLen sCap]).run P w=.ok (.value (goInt (Nat.min sLen dLen))) (w.setRow g (cur.take o++src++cur.drop (o+src.length)).toArray):=by
 have hl:=run_loadCells_list (P:=P) w a src hsrc;have hst:=run_storeCells_at P g o T src 0 cur.toArray w hg (by simpa using hfit) h1;obtain⟨i,hi,h2⟩:=Option.map_eq_some_iff.1 hsz;rw[hn] at hl;simp only[Nat.add_zero] at hst;simp[mB,builtin,Builtin.copy_,run_underlying hu,Builtin.lenOf,Builtin.firstCells,sizeOf,typeInfo,hi,h2,hl,hst]
theorem o_copyC (i:Nat){dT sT ty T E:TypeId}{cb:Array Bool}{g o dLen dCap sz:Nat}{a:Addr}{sLen sCap:Nat}{cur src:List Value}(hu:P.underlying dT=some (.slice E))(hsz:(P.info? E).map (·.size)=some sz)
  (ho:OwnS S w0 w L) (hi:L[i]?=some (.cells g cur T)) (hn:src.length=min sLen dLen*sz) (hsrc:∀j v,src[j]?=some v→w.cell? (a.add j)=some v) (hfit:o+src.length≤cur.length) (h1:∀v∈src,v.oneCell'=true)
  (k:∀v' w',OwnS S w0 w' (L.set i (.cells g (cur.take o++src++cur.drop (o+src.length)) T))→K v' w') :
  DoX P (mB .copy #[dT,sT] ty cb #[.slice (some ⟨g,o,none⟩) dLen dCap,.slice (some a) sLen sCap]) w PK K:=
 do_ok (run_copyC hu hsz (ho.at_ i hi) hn hsrc hfit h1) (k _ _ (setRow_own ho i hi _))
theorem o_growZ {T tn U E:TypeId}{cb:Array Bool}{kn kq:IntKind}{g n cap m sz bytes:Nat}{olds:List Value}(ht:P.underlying T=some (.slice E))(htn:P.underlying tn=some (.int kn))(he:elB P E sz bytes=true)(hsz:0 < sz)
  (ho:OwnS S w0 w L) (hol:olds.length=n*sz) (hold:∀j u,olds[j]?=some u→w.cell? ⟨g,0+j,none⟩=some u) (h0:0 < m) (hg:cap < n+m) (hb:(n+m)*bytes≤140737488355328) (hb2:n+m≤140737488355328)
  (k:∀(b c:Nat) (zs:List Value) (w':World),n+m≤c→c≤9223372036854775807→zs.length+n*sz=c*sz→OwnS S w0 w' (.cells b (olds++zs) E::L)→K (.slice (some ⟨b,0,none⟩) (n+m) c) w') :
  DoX P (mB .append #[T,tn] U cb #[.slice (some ⟨g,0,none⟩) n cap,.int kq (m:Int)]) w PK K:=by
 obtain⟨i,z,hi,hz,hi1,hi2,hz1⟩:=elB_spec he;have hold':(Builtin.firstCells i.size n (.slice (some ⟨g,0,none⟩) n cap)).run P w.drew=.ok olds.toArray w.drew:=by
  have hl:=run_loadCells_list (P:=P) w.drew ⟨g,0,none⟩ olds (fun j v hj=>by rw[add_none];exact hold j v hj);simp only[Builtin.firstCells,hi1,←hol];exact hl
 have hge:=grownCap_ge w (n+m) cap E;have hle:=grownCap_le_maxLen w (n+m) cap E (by simp only[maxLen];omega);have hr:=Lib.run_append_grow_zeros (P:=P) w T tn U E i z kq kn ht htn hi hz (some ⟨g,0,none⟩) n cap olds hold' m h0 (by omega) hg (by omega) (by
   rw[hi2];have:m*bytes≤(n+m)*bytes:=Nat.mul_le_mul_right _ (by omega);omega) (by rw[hi2];exact growslice_fits hg hb)
 have hzc:∀x,(Builtin.zeroCells z.cells x).toList.length=x*sz:=by intro x;simp[Builtin.zeroCells,hz1]
 obtain⟨zs,hzs⟩:∃zs,zs=(Builtin.zeroCells z.cells m).toList++(Builtin.zeroCells z.cells (grownCap w (n+m) cap E - (n+m))).toList:=⟨_,rfl⟩;have hlen:zs.length+n*sz=grownCap w (n+m) cap E*sz:=by
  rw[hzs,List.length_append,hzc,hzc,←Nat.add_mul,←Nat.add_mul]
  congr 1
  omega
 have key:=(ho.drew).alloc (olds++zs) E;have e:(olds++zs).toArray=olds.toArray++Builtin.zeroCells z.cells m++Builtin.zeroCells z.cells (grownCap w (n+m) cap E - (n+m)):=by
  rw[hzs];simp
 have hr':(mB .append #[T,tn] U cb #[.slice (some ⟨g,0,none⟩) n cap,.int kq (m:Int)]).run P w=.ok (.value (.slice (some ⟨w.heap.size,0,none⟩) (n+m) (grownCap w (n+m) cap E))) (w.drew.alloc (.cells (olds++zs).toArray E)):=by
  rw[e];simp[mB,builtin,hr]
 exact do_ok hr' (k w.heap.size _ zs _ hge (by simp only[maxLen] at hle;exact hle) hlen key)
theorem o_appRoomC (i:Nat){T E U:TypeId}{cb:Array Bool}{g n cap m c sz bytes:Nat}{a:Addr}{cur news:List Value}(ht:P.underlying T=some (.slice E))(he:elB P E sz bytes=true)
  (ho:OwnS S w0 w L) (hi:L[i]?=some (.cells g cur E)) (hl:news.length=m*sz) (hnews:∀j u,news[j]?=some u→w.cell? (a.add j)=some u) (h1:∀u∈news,u.oneCell'=true) (hroom:n+m≤cap) (hfit:n*sz+news.length≤cur.length)
  (k:∀w',OwnS S w0 w' (L.set i (.cells g (cur.take (n*sz)++news++cur.drop (n*sz+news.length)) E))→K (.slice (some ⟨g,0,none⟩) (n+m) cap) w') :
  DoX P (mB .append #[T,T] U cb #[.slice (some ⟨g,0,none⟩) n cap,.slice (some a) m c]) w PK K:=by
 obtain⟨ii,z,hii,hz,hi1,hi2,hz1⟩:=elB_spec he;have hg:w.heap[g]?=some (.cells cur.toArray E (0,0)):=ho.at_ i hi;have hr:=run_append_roomF (P:=P) w T U E ii ht hii g n cap cur.toArray (0,0) hg (Nat.zero_le _) a m c news (by rw[hi1];exact hl) hnews h1 hroom (by rw[hi1];simpa using hfit);rw[hi1] at hr;have hr':(mB .append #[T,T] U cb #[.slice (some ⟨g,0,none⟩) n cap,.slice (some a) m c]).run P w=.ok (.value (.slice (some ⟨g,0,none⟩) (n+m) cap)) (w.setRow g (cur.take (n*sz)++news++cur.drop (n*sz+news.length)).toArray):=by
  simp[mB,builtin,hr]
 exact do_ok hr' (k _ (setRow_own ho i hi _))
def zB (P:Program)(E:TypeId):Bool:=
 match P.info? E with
|some i=>match i.zero with
 |some z=>z.cells.toList.all (·.oneCell')
 |none=>false
|none=>false
theorem o_clearC (i:Nat){T E U:TypeId}{cb:Array Bool}{g o n c sz bytes:Nat}{cur:List Value}(ht:P.underlying T=some (.slice E))(he:elB P E sz bytes=true)(hz:zB P E=true)(h0:0 < n)
  (ho:OwnS S w0 w L) (hi:L[i]?=some (.cells g cur E)) (hfit:o+n*sz≤cur.length)
  (k:∀v' w' zs,zs.length=n*sz→OwnS S w0 w' (L.set i (.cells g (cur.take o++zs++cur.drop (o+n*sz)) E))→K v' w') :
  DoX P (mB .clear #[T] U cb #[.slice (some ⟨g,o,none⟩) n c]) w PK K:=by
 obtain⟨ii,z,hii,hz',hi1,hi2,hz1⟩:=elB_spec he;have hg:w.heap[g]?=some (.cells cur.toArray E (0,0)):=ho.at_ i hi;have hone:∀x∈z.cells.toList,x.oneCell'=true:=by
  unfold zB at hz;rw[hii] at hz;simp only[hz'] at hz;exact List.all_eq_true.1 hz
 have hzl:(Builtin.zeroCells z.cells n).toList.length=n*sz:=by simp[Builtin.zeroCells,hz1]
 have hzo:∀x∈(Builtin.zeroCells z.cells n).toList,x.oneCell'=true:=by
  intro x hx;simp only[Builtin.zeroCells,Array.toList_map,List.mem_map,Array.toList_range,List.mem_range] at hx;obtain⟨j,hj,rfl⟩:=hx;have hjs:j % z.cells.size < z.cells.size:=Nat.mod_lt _ (by
   rcases Nat.eq_zero_or_pos z.cells.size with h|h
   ·rw[h] at hj;simp at hj
   ·exact h)
  rw[getElem!_pos z.cells (j % z.cells.size) hjs];exact hone _ (by simp)
 have hst:=run_storeCells_at P g o E (Builtin.zeroCells z.cells n).toList 0 cur.toArray w hg (by rw[hzl];simpa using hfit) hzo;simp only[Nat.add_zero] at hst;obtain⟨m,rfl⟩:∃m,n=m+1:=⟨n - 1,by omega⟩;have hr':(mB .clear #[T] U cb #[.slice (some ⟨g,o,none⟩) (m+1) c]).run P w=.ok (.value (.tuple #[])) (w.setRow g (cur.take o++(Builtin.zeroCells z.cells (m+1)).toList++cur.drop (o+(m+1)*sz)).toArray):=by
  simp[mB,builtin,Builtin.clear_,run_underlying ht,zeroValue,typeInfo,hii,hz',hst];rw[←hzl];simp
 exact do_ok hr' (k _ _ _ hzl (setRow_own ho i hi _))
theorem sub_get {cs cs':List Value}{off j:Nat}{v:Value}(h:(cs.drop off).take cs'.length=cs')(hj:cs'[j]?=some v):cs[off+j]?=some v:=by
 rw[←h] at hj;rw[List.getElem?_take] at hj;split at hj
 ·rwa [List.getElem?_drop] at hj
 ·cases hj
theorem OwnS.subAgg (ho:OwnS S w0 w L)(i:Nat){b:Nat}{cs:List Value}{E T:TypeId}(hi:L[i]?=some (.cells b cs E))(off:Nat)(cs':List Value)(hcs:(cs.drop off).take cs'.length=cs')(ht:aggN P T=some cs'.length):AtV P w T ⟨b,off,none⟩ (.agg cs'.toArray):=
 AtV.agg ht rfl fun j v hj=>ho.cell i hi (off+j) (sub_get hcs hj)
theorem o_putAt (i:Nat){T:TypeId}{b off:Nat}{cs new:List Value}{E:TypeId}(ho:OwnS S w0 w L)(hi:L[i]?=some (.cells b cs E))(hs:(P.info? T).map (·.size)=some new.length)(hv:∀v∈new,v.oneCell'=true)(hl:off+new.length≤cs.length)
  (k:∀w',OwnS S w0 w' (L.set i (.cells b (cs.take off++new++cs.drop (off+new.length)) E))→K undef w'):DoX P (mStore T (.pointer (some ⟨b,off,none⟩)) (.agg new.toArray)) w PK K:=by
 have hr:=run_store_in (P:=P) (T:=T) (g:=b) (off:=off) (cur:=cs.toArray) (E:=E) (u:=.agg new.toArray) (new:=new) rfl hs hv (ho.at_ i hi) (by simpa using hl);refine do_skip (mu_run hr) (k _ ?_);have e:(cs.toArray.toList.take off++new++cs.toArray.toList.drop (off+new.length)).toArray=(cs.take off++new++cs.drop (off+new.length)).toArray:=by simp
 rw[e];exact setRow_own ho i hi _
theorem mem_urow {M N:Mem}{T:TypeId}{sz:Nat}{v:Value}{n:Nat}{xs:List Value}(hw:N.w=w)(hb:∀b,(Ent.urow T sz v n xs).blk b→N.A b)(h:(Ent.urow T sz v n xs).is w):SlA N.A N.w v sz n xs:=by
 rw[hw];refine⟨Sl.urow h,fun p l c e hn=>hb _ ?_,fun a l c e=>?_⟩
 ·rcases (show w.ownsRow 0 T sz v n xs from h).2 with ⟨rfl,h0⟩|⟨g,cap,cur,rfl,_⟩
  ·cases e
  ·injection e with e1 _ _
   injection e1 with e1
   rw[←e1];rfl
 ·rcases (show w.ownsRow 0 T sz v n xs from h).2 with ⟨rfl,h0⟩|⟨g,cap,cur,rfl,_,_,hnc,_⟩
  ·injection e with _ e2 e3;omega
  ·injection e with _ e2 e3;omega
theorem OwnS.freezeU {M:Mem}{T:TypeId}{sz:Nat}{v:Value}{n:Nat}{xs:List Value}(ho:OwnS S w0 w (.urow T sz v n xs::L))(i:Nat)(hi:L[i]?=some (.mem M)) :
  ∃N:Mem,M.le N∧SlA N.A N.w v sz n xs∧OwnS S w0 w (L.set i (.mem N)):=by
 have h:=ho.at_ 0 rfl;obtain⟨N,h1,h2,h3,h4⟩:=ho.freeze i hi;exact⟨N,h1,mem_urow (M:=M) h2 h3 h,h4⟩
end
end Eng
end
section
open Eng
def S_slices_Clone_string_string (t0:Value)(w:World)(K:Ending→World→Prop):Prop:=
 DoX prog (mEq .eql 22 (.tmp 3) (.const (.slice none 0 0)) t0 (.slice none 0 0)) w (pk K) fun t4 w=>
 IfX t4 (K (.returned (.slice none 0 0)) w) (DoX prog (mBuildS 22 0 #[]) w (pk K) fun t5 w=>
 DoX prog (mB .append #[22,22] 22 #[false,false] #[t5,t0]) w (pk K) fun t7 w=>
 K (.returned t7) w)
theorem S_slices_Clone_string_string_eq (t0:Value)(w:World)(K:Ending→World→Prop):wpX prog 8 [] [] none (bodyOf Tryz.f132) (topQ prog [.tmp 2] K) (startX [t0]) [] w=S_slices_Clone_string_string t0 w K:=by kernel_rfl
theorem S_slices_Clone_string_string_ok {t0:Value}{w:World}{K:Ending→World→Prop}(h:S_slices_Clone_string_string t0 w K):Calls prog 132 #[t0] w K:=
 calls_of_wpX Tryz.func132 rfl rfl rfl rfl (Eq.mpr (S_slices_Clone_string_string_eq t0 w K) h)
def S_slices_Clone_foliant_api_Object_foliant_api_Object (t0:Value)(w:World)(K:Ending→World→Prop):Prop:=
 DoX prog (mEq .eql 23 (.tmp 3) (.const (.slice none 0 0)) t0 (.slice none 0 0)) w (pk K) fun t4 w=>
 IfX t4 (K (.returned (.slice none 0 0)) w) (DoX prog (mBuildS 23 0 #[]) w (pk K) fun t5 w=>
 DoX prog (mB .append #[23,23] 23 #[false,false] #[t5,t0]) w (pk K) fun t7 w=>
 K (.returned t7) w)
theorem S_slices_Clone_foliant_api_Object_foliant_api_Object_eq (t0:Value)(w:World)(K:Ending→World→Prop):wpX prog 8 [] [] none (bodyOf Tryz.f133) (topQ prog [.tmp 2] K) (startX [t0]) [] w=S_slices_Clone_foliant_api_Object_foliant_api_Object t0 w K:=by kernel_rfl
theorem S_slices_Clone_foliant_api_Object_foliant_api_Object_ok {t0:Value}{w:World}{K:Ending→World→Prop}(h:S_slices_Clone_foliant_api_Object_foliant_api_Object t0 w K):Calls prog 133 #[t0] w K:=
 calls_of_wpX Tryz.func133 rfl rfl rfl rfl (Eq.mpr (S_slices_Clone_foliant_api_Object_foliant_api_Object_eq t0 w K) h)
def S_slices_Insert_string_string (t0 t1 t2:Value)(w:World)(K:Ending→World→Prop):Prop:=
 DoX prog (mSlice 22 t0 (some t1) none none) w (pk K) fun t12 w=>
 DoX prog (mB .len #[22] 3 #[false] #[t2]) w (pk K) fun t14 w=>
 DoX prog (mEq .eql 3 (.tmp 15) (.const (.int .i64 0)) t14 (.int .i64 0)) w (pk K) fun t16 w=>
 IfX t16 (K (.returned t0) w) (DoX prog (mB .len #[22] 3 #[false] #[t0]) w (pk K) fun t19 w=>
 DoX prog (mEq .eql 3 (.tmp 20) (.tmp 21) t1 t19) w (pk K) fun t22 w=>
 IfX t22 (DoX prog (mB .append #[22,22] 22 #[false,false] #[t0,t2]) w (pk K) fun t25 w=>
 K (.returned t25) w) (DoX prog (mBin .add 3 t19 t14) w (pk K) fun t28 w=>
 DoX prog (mB .cap #[22] 3 #[false] #[t0]) w (pk K) fun t30 w=>
 DoX prog (mBin .gtr 3 t28 t30) w (pk K) fun t31 w=>
 IfX t31 (DoX prog (mSlice 22 t0 none (some t1) none) w (pk K) fun t34 w=>
 DoX prog (mBin .add 3 t19 t14) w (pk K) fun t37 w=>
 DoX prog (mBin .sub 3 t37 t1) w (pk K) fun t39 w=>
 DoX prog (mB .append #[22,3] 22 #[false,false] #[t34,t39]) w (pk K) fun t40 w=>
 DoX prog (mSlice 22 t40 (some t1) none none) w (pk K) fun t43 w=>
 DoX prog (mB .copy #[22,22] 3 #[false,false] #[t43,t2]) w (pk K) fun t45 w=>
 QuietX w (fun C1=>
 QDo prog C1 (mBin .add 3 t1 t14) fun t49=>
 QDo prog C1 (mSlice 22 t40 (some t49) none none) fun t50=>
 QDo prog C1 (mSlice 22 t0 (some t1) none none) fun t53=>
 ∀w,C1 w →
 DoX prog (mB .copy #[22,22] 3 #[false,false] #[t50,t53]) w (pk K) fun t54 w=>
 K (.returned t40) w)) (DoX prog (mBin .add 3 t19 t14) w (pk K) fun t59 w=>
 DoX prog (mSlice 22 t0 none (some t59) none) w (pk K) fun t60 w=>
 DoX prog (mBin .add 3 t1 t14) w (pk K) fun t65 w=>
 DoX prog (mSlice 22 t60 (some t65) none none) w (pk K) fun t66 w=>
 DoX prog (mCallV (.func (.func 187) #[] #[]) #[t2,t66]) w (pk K) fun t67 w=>
 DoX prog (mUn .not t67) w (pk K) fun t68 w=>
 IfX t68 (QuietX w (fun C2=>
 QDo prog C2 (mBin .add 3 t1 t14) fun t72=>
 QDo prog C2 (mSlice 22 t60 (some t72) none none) fun t73=>
 QDo prog C2 (mSlice 22 t60 (some t1) none none) fun t76=>
 ∀w,C2 w →
 DoX prog (mB .copy #[22,22] 3 #[false,false] #[t73,t76]) w (pk K) fun t77 w=>
 DoX prog (mSlice 22 t60 (some t1) none none) w (pk K) fun t80 w=>
 DoX prog (mB .copy #[22,22] 3 #[false,false] #[t80,t2]) w (pk K) fun t82 w=>
 K (.returned t60) w)) (DoX prog (mSlice 22 t60 (some t19) none none) w (pk K) fun t86 w=>
 DoX prog (mB .copy #[22,22] 3 #[false,false] #[t86,t2]) w (pk K) fun t88 w=>
 DoX prog (mSlice 22 t60 (some t1) none none) w (pk K) fun t91 w=>
 CallX prog 188 #[t91,t14] w (pk K) fun t93 w=>
 K (.returned t60) w))))
theorem S_slices_Insert_string_string_eq (t0 t1 t2:Value)(w:World)(K:Ending→World→Prop):wpX prog 95 [] [] none (bodyOf Tryz.f134) (topQ prog [.tmp 6] K) (startX [t0,t1,t2]) [] w=S_slices_Insert_string_string t0 t1 t2 w K:=by kernel_rfl
theorem S_slices_Insert_string_string_ok {t0 t1 t2:Value}{w:World}{K:Ending→World→Prop}(h:S_slices_Insert_string_string t0 t1 t2 w K):Calls prog 134 #[t0,t1,t2] w K:=
 calls_of_wpX Tryz.func134 rfl rfl rfl rfl (Eq.mpr (S_slices_Insert_string_string_eq t0 t1 t2 w K) h)
def S_slices_Insert_foliant_api_Object_foliant_api_Object (t0 t1 t2:Value)(w:World)(K:Ending→World→Prop):Prop:=
 DoX prog (mSlice 23 t0 (some t1) none none) w (pk K) fun t12 w=>
 DoX prog (mB .len #[23] 3 #[false] #[t2]) w (pk K) fun t14 w=>
 DoX prog (mEq .eql 3 (.tmp 15) (.const (.int .i64 0)) t14 (.int .i64 0)) w (pk K) fun t16 w=>
 IfX t16 (K (.returned t0) w) (DoX prog (mB .len #[23] 3 #[false] #[t0]) w (pk K) fun t19 w=>
 DoX prog (mEq .eql 3 (.tmp 20) (.tmp 21) t1 t19) w (pk K) fun t22 w=>
 IfX t22 (DoX prog (mB .append #[23,23] 23 #[false,false] #[t0,t2]) w (pk K) fun t25 w=>
 K (.returned t25) w) (DoX prog (mBin .add 3 t19 t14) w (pk K) fun t28 w=>
 DoX prog (mB .cap #[23] 3 #[false] #[t0]) w (pk K) fun t30 w=>
 DoX prog (mBin .gtr 3 t28 t30) w (pk K) fun t31 w=>
 IfX t31 (DoX prog (mSlice 23 t0 none (some t1) none) w (pk K) fun t34 w=>
 DoX prog (mBin .add 3 t19 t14) w (pk K) fun t37 w=>
 DoX prog (mBin .sub 3 t37 t1) w (pk K) fun t39 w=>
 DoX prog (mB .append #[23,3] 23 #[false,false] #[t34,t39]) w (pk K) fun t40 w=>
 DoX prog (mSlice 23 t40 (some t1) none none) w (pk K) fun t43 w=>
 DoX prog (mB .copy #[23,23] 3 #[false,false] #[t43,t2]) w (pk K) fun t45 w=>
 QuietX w (fun C1=>
 QDo prog C1 (mBin .add 3 t1 t14) fun t49=>
 QDo prog C1 (mSlice 23 t40 (some t49) none none) fun t50=>
 QDo prog C1 (mSlice 23 t0 (some t1) none none) fun t53=>
 ∀w,C1 w →
 DoX prog (mB .copy #[23,23] 3 #[false,false] #[t50,t53]) w (pk K) fun t54 w=>
 K (.returned t40) w)) (DoX prog (mBin .add 3 t19 t14) w (pk K) fun t59 w=>
 DoX prog (mSlice 23 t0 none (some t59) none) w (pk K) fun t60 w=>
 DoX prog (mBin .add 3 t1 t14) w (pk K) fun t65 w=>
 DoX prog (mSlice 23 t60 (some t65) none none) w (pk K) fun t66 w=>
 DoX prog (mCallV (.func (.func 189) #[] #[]) #[t2,t66]) w (pk K) fun t67 w=>
 DoX prog (mUn .not t67) w (pk K) fun t68 w=>
 IfX t68 (QuietX w (fun C2=>
 QDo prog C2 (mBin .add 3 t1 t14) fun t72=>
 QDo prog C2 (mSlice 23 t60 (some t72) none none) fun t73=>
 QDo prog C2 (mSlice 23 t60 (some t1) none none) fun t76=>
 ∀w,C2 w →
 DoX prog (mB .copy #[23,23] 3 #[false,false] #[t73,t76]) w (pk K) fun t77 w=>
 DoX prog (mSlice 23 t60 (some t1) none none) w (pk K) fun t80 w=>
 DoX prog (mB .copy #[23,23] 3 #[false,false] #[t80,t2]) w (pk K) fun t82 w=>
 K (.returned t60) w)) (DoX prog (mSlice 23 t60 (some t19) none none) w (pk K) fun t86 w=>
 DoX prog (mB .copy #[23,23] 3 #[false,false] #[t86,t2]) w (pk K) fun t88 w=>
 DoX prog (mSlice 23 t60 (some t1) none none) w (pk K) fun t91 w=>
 CallX prog 190 #[t91,t14] w (pk K) fun t93 w=>
 K (.returned t60) w))))
theorem S_slices_Insert_foliant_api_Object_foliant_api_Object_eq (t0 t1 t2:Value)(w:World)(K:Ending→World→Prop):wpX prog 95 [] [] none (bodyOf Tryz.f135) (topQ prog [.tmp 6] K) (startX [t0,t1,t2]) [] w=S_slices_Insert_foliant_api_Object_foliant_api_Object t0 t1 t2 w K:=by kernel_rfl
theorem S_slices_Insert_foliant_api_Object_foliant_api_Object_ok {t0 t1 t2:Value}{w:World}{K:Ending→World→Prop}(h:S_slices_Insert_foliant_api_Object_foliant_api_Object t0 t1 t2 w K):Calls prog 135 #[t0,t1,t2] w K:=
 calls_of_wpX Tryz.func135 rfl rfl rfl rfl (Eq.mpr (S_slices_Insert_foliant_api_Object_foliant_api_Object_eq t0 t1 t2 w K) h)
def S_slices_Delete_string_string (t0 t1 t2:Value)(w:World)(K:Ending→World→Prop):Prop:=
 DoX prog (mB .len #[22] 3 #[false] #[t0]) w (pk K) fun t12 w=>
 DoX prog (mSlice 22 t0 (some t1) (some t2) (some t12)) w (pk K) fun t13 w=>
 DoX prog (mEq .eql 3 (.tmp 14) (.tmp 15) t1 t2) w (pk K) fun t16 w=>
 IfX t16 (K (.returned t0) w) (DoX prog (mB .len #[22] 3 #[false] #[t0]) w (pk K) fun t19 w=>
 QuietX w (fun C1=>
 QDo prog C1 (mSlice 22 t0 none (some t1) none) fun t22=>
 QDo prog C1 (mSlice 22 t0 (some t2) none none) fun t25=>
 ∀w,C1 w →
 DoX prog (mB .append #[22,22] 22 #[false,false] #[t22,t25]) w (pk K) fun t26 w=>
 DoX prog (mB .len #[22] 3 #[false] #[t26]) w (pk K) fun t29 w=>
 DoX prog (mSlice 22 t26 (some t29) (some t19) none) w (pk K) fun t31 w=>
 DoX prog (mB .clear #[22] 0 #[false] #[t31]) w (pk K) fun _ w=>
 K (.returned t26) w))
theorem S_slices_Delete_string_string_eq (t0 t1 t2:Value)(w:World)(K:Ending→World→Prop):wpX prog 33 [] [] none (bodyOf Tryz.f185) (topQ prog [.tmp 6] K) (startX [t0,t1,t2]) [] w=S_slices_Delete_string_string t0 t1 t2 w K:=by kernel_rfl
theorem S_slices_Delete_string_string_ok {t0 t1 t2:Value}{w:World}{K:Ending→World→Prop}(h:S_slices_Delete_string_string t0 t1 t2 w K):Calls prog 185 #[t0,t1,t2] w K:=
 calls_of_wpX Tryz.func185 rfl rfl rfl rfl (Eq.mpr (S_slices_Delete_string_string_eq t0 t1 t2 w K) h)
def S_slices_Delete_foliant_api_Object_foliant_api_Object (t0 t1 t2:Value)(w:World)(K:Ending→World→Prop):Prop:=
 DoX prog (mB .len #[23] 3 #[false] #[t0]) w (pk K) fun t12 w=>
 DoX prog (mSlice 23 t0 (some t1) (some t2) (some t12)) w (pk K) fun t13 w=>
 DoX prog (mEq .eql 3 (.tmp 14) (.tmp 15) t1 t2) w (pk K) fun t16 w=>
 IfX t16 (K (.returned t0) w) (DoX prog (mB .len #[23] 3 #[false] #[t0]) w (pk K) fun t19 w=>
 QuietX w (fun C1=>
 QDo prog C1 (mSlice 23 t0 none (some t1) none) fun t22=>
 QDo prog C1 (mSlice 23 t0 (some t2) none none) fun t25=>
 ∀w,C1 w →
 DoX prog (mB .append #[23,23] 23 #[false,false] #[t22,t25]) w (pk K) fun t26 w=>
 DoX prog (mB .len #[23] 3 #[false] #[t26]) w (pk K) fun t29 w=>
 DoX prog (mSlice 23 t26 (some t29) (some t19) none) w (pk K) fun t31 w=>
 DoX prog (mB .clear #[23] 0 #[false] #[t31]) w (pk K) fun _ w=>
 K (.returned t26) w))
theorem S_slices_Delete_foliant_api_Object_foliant_api_Object_eq (t0 t1 t2:Value)(w:World)(K:Ending→World→Prop):wpX prog 33 [] [] none (bodyOf Tryz.f186) (topQ prog [.tmp 6] K) (startX [t0,t1,t2]) [] w=S_slices_Delete_foliant_api_Object_foliant_api_Object t0 t1 t2 w K:=by kernel_rfl
theorem S_slices_Delete_foliant_api_Object_foliant_api_Object_ok {t0 t1 t2:Value}{w:World}{K:Ending→World→Prop}(h:S_slices_Delete_foliant_api_Object_foliant_api_Object t0 t1 t2 w K):Calls prog 186 #[t0,t1,t2] w K:=
 calls_of_wpX Tryz.func186 rfl rfl rfl rfl (Eq.mpr (S_slices_Delete_foliant_api_Object_foliant_api_Object_eq t0 t1 t2 w K) h)
def S_slices_BinarySearch_string_string_0 (t0 t1 t6 t7 t8:Value)(w:World)(N1:List Value→World→Prop)(K:Ending→World→Prop):Prop:=
 DoX prog (mBin .lss 3 t7 t8) w (pk K) fun t15 w=>
 IfX t15 (DoX prog (mBin .add 3 t7 t8) w (pk K) fun t18 w=>
 DoX prog (mConv 3 139 t18) w (pk K) fun t19 w=>
 DoX prog (mBin .shr 139 t19 (.int .u64 1)) w (pk K) fun t20 w=>
 DoX prog (mConv 139 3 t20) w (pk K) fun t21 w=>
 DoX prog (mIA 22 t0 t21) w (pk K) fun t24 w=>
 DoX prog (mLoad 9 t24) w (pk K) fun t25 w=>
 CallX prog 183 #[t25,t1] w (pk K) fun t27 w=>
 IfX t27 (DoX prog (mBin .add 3 t21 (.int .i64 1)) w (pk K) fun t29 w=>
 N1 [t29,t8] w) (N1 [t7,t21] w)) (DoX prog (mBin .lss 3 t7 t6) w (pk K) fun t34 w=>
 GDo t34 true (fun E=>E t0 w) w fun t36 w=>
 GDo t34 true (fun E=>E t7 w) w fun t37 w=>
 GDo t34 true (fun E=>DoX prog (mIA 22 t36 t37) w (pk K) E) w fun t38 w=>
 GDo t34 true (fun E=>DoX prog (mLoad 9 t38) w (pk K) E) w fun t39 w=>
 GDo t34 true (fun E=>E t1 w) w fun t40 w=>
 GDo t34 true (fun E=>DoX prog (mEq .eql 9 (.tmp 39) (.tmp 40) t39 t40) w (pk K) E) w fun t41 w=>
 GDo t34 true (fun E=>E t41 w) w fun t42 w=>
 GDo t42 false (fun E=>E t0 w) w fun t43 w=>
 GDo t42 false (fun E=>E t7 w) w fun t44 w=>
 GDo t42 false (fun E=>DoX prog (mIA 22 t43 t44) w (pk K) E) w fun t45 w=>
 GDo t42 false (fun E=>DoX prog (mLoad 9 t45) w (pk K) E) w fun t46 w=>
 GDo t42 false (fun E=>CallX prog 184 #[t46] w (pk K) E) w fun t47 w=>
 GDo t42 false (fun E=>E t47 w) w fun t48 w=>
 GDo t48 true (fun E=>E t1 w) w fun t49 w=>
 GDo t48 true (fun E=>CallX prog 184 #[t49] w (pk K) E) w fun t50 w=>
 GDo t42 false (fun E=>DoX prog (mPick t48 t50 (.bool false)) w (pk K) E) w fun t51 w=>
 GDo t34 true (fun E=>DoX prog (mPick t42 (.bool true) t51) w (pk K) E) w fun t52 w=>
 DoX prog (mPick t34 t52 (.bool false)) w (pk K) fun t53 w=>
 K (.returned (.tuple #[t7,t53])) w)
def S_slices_BinarySearch_string_string (t0 t1:Value)(w:World)(K:Ending→World→Prop):Prop:=
 DoX prog (mB .len #[22] 3 #[false] #[t0]) w (pk K) fun t11 w=>
 LoopX [(.int .i64 0),t11] w (fun vs1 w N1=>∀_:Sg,S_slices_BinarySearch_string_string_0 t0 t1 t11 (vs1.getD 0 undef) (vs1.getD 1 undef) w N1 K)
theorem S_slices_BinarySearch_string_string_eq (t0 t1:Value)(w:World)(K:Ending→World→Prop):wpX prog 54 [] [(3,[7,8])] none (bodyOf Tryz.f130) (topQ prog [.tmp 4,.tmp 5] K) (startX [t0,t1]) [] w=S_slices_BinarySearch_string_string t0 t1 w K:=by kernel_rfl
theorem S_slices_BinarySearch_string_string_ok {t0 t1:Value}{w:World}{K:Ending→World→Prop}(h:S_slices_BinarySearch_string_string t0 t1 w K):Calls prog 130 #[t0,t1] w K:=
 calls_of_wpX Tryz.func130 rfl rfl rfl rfl (Eq.mpr (S_slices_BinarySearch_string_string_eq t0 t1 w K) h)
def S_cmp_Less_string (t0 t1:Value)(w:World)(K:Ending→World→Prop):Prop:=
 CallX prog 238 #[t0] w (pk K) fun t6 w=>
 GDo t6 true (fun E=>E t1 w) w fun t8 w=>
 GDo t6 true (fun E=>CallX prog 238 #[t8] w (pk K) E) w fun t9 w=>
 GDo t6 true (fun E=>DoX prog (mUn .not t9) w (pk K) E) w fun t10 w=>
 DoX prog (mPick t6 t10 (.bool false)) w (pk K) fun t11 w=>
 GDo t11 false (fun E=>E t0 w) w fun t13 w=>
 GDo t11 false (fun E=>E t1 w) w fun t14 w=>
 GDo t11 false (fun E=>DoX prog (mBin .lss 9 t13 t14) w (pk K) E) w fun t15 w=>
 DoX prog (mPick t11 (.bool true) t15) w (pk K) fun t16 w=>
 K (.returned t16) w
theorem S_cmp_Less_string_eq (t0 t1:Value)(w:World)(K:Ending→World→Prop):wpX prog 17 [] [] none (bodyOf Tryz.f183) (topQ prog [.tmp 4] K) (startX [t0,t1]) [] w=S_cmp_Less_string t0 t1 w K:=by kernel_rfl
theorem S_cmp_Less_string_ok {t0 t1:Value}{w:World}{K:Ending→World→Prop}(h:S_cmp_Less_string t0 t1 w K):Calls prog 183 #[t0,t1] w K:=
 calls_of_wpX Tryz.func183 rfl rfl rfl rfl (Eq.mpr (S_cmp_Less_string_eq t0 t1 w K) h)
def S_cmp_isNaN_string (t0:Value)(w:World)(K:Ending→World→Prop):Prop:=
 DoX prog (mEq .neq 9 (.tmp 3) (.tmp 4) t0 t0) w (pk K) fun t5 w=>
 K (.returned t5) w
theorem S_cmp_isNaN_string_eq (t0:Value)(w:World)(K:Ending→World→Prop):wpX prog 6 [] [] none (bodyOf Tryz.f238) (topQ prog [.tmp 2] K) (startX [t0]) [] w=S_cmp_isNaN_string t0 w K:=by kernel_rfl
theorem S_cmp_isNaN_string_ok {t0:Value}{w:World}{K:Ending→World→Prop}(h:S_cmp_isNaN_string t0 w K):Calls prog 238 #[t0] w K:=
 calls_of_wpX Tryz.func238 rfl rfl rfl rfl (Eq.mpr (S_cmp_isNaN_string_eq t0 w K) h)
def S_slices_isNaN_string (t0:Value)(w:World)(K:Ending→World→Prop):Prop:=
 DoX prog (mEq .neq 9 (.tmp 3) (.tmp 4) t0 t0) w (pk K) fun t5 w=>
 K (.returned t5) w
theorem S_slices_isNaN_string_eq (t0:Value)(w:World)(K:Ending→World→Prop):wpX prog 6 [] [] none (bodyOf Tryz.f184) (topQ prog [.tmp 2] K) (startX [t0]) [] w=S_slices_isNaN_string t0 w K:=by kernel_rfl
theorem S_slices_isNaN_string_ok {t0:Value}{w:World}{K:Ending→World→Prop}(h:S_slices_isNaN_string t0 w K):Calls prog 184 #[t0] w K:=
 calls_of_wpX Tryz.func184 rfl rfl rfl rfl (Eq.mpr (S_slices_isNaN_string_eq t0 w K) h)
end
section
open Eng Go.RowKit
theorem sclone_s_ret (v:Value)(n:Nat)(cs:List Value)(w:World)(hs:Sl w v 1 n cs)(h1:∀u∈cs,u.oneCell'=true)(hb:n≤1000000000000) :
  Ret prog 132 #[v] w (fun v' w'=>Own w w' [.urow 9 1 v' n cs]):=by
 have hs':=hs;obtain⟨hl,a,cap,rfl,hn,hc⟩:=hs;refine ret_of fun K hK=>S_slices_Clone_string_string_ok ?_;unfold S_slices_Clone_string_string;rw[e_nilS Tryz.underlying22];cases a with
|none=>
  obtain rfl:=hn rfl;obtain rfl:cs=[]:=List.eq_nil_of_length_eq_zero (by omega);simp only[Option.isNone_none,i_t];exact hK _ _ ((Own.start w).nilU 9 1)
|some p=>
  simp only[Option.isNone_some,i_f];refine o_new (fun b=>.slice (some ⟨b,0,none⟩) 0 0) [] 9 (fun _=>by kernel_rfl) (Own.start w) fun b w1 ho=>?_;have ho:=ho.toU 1 0 0 (by simp) (by omega) (by omega);refine o_appendU 0 Tryz.underlying22 (show elB prog 9 1 16=true by kernel_rfl) (by decide) ho rfl (ho.oldSl hs') h1 (by omega) (by omega) fun v' w2 ho=>?_;refine hK _ _ ?_;simpa using ho
theorem sclone_o_ret (v:Value)(n:Nat)(cs:List Value)(w:World)(hs:Sl w v 6 n cs)(h1:∀u∈cs,u.oneCell'=true)(hb:n≤1000000000000) :
  Ret prog 133 #[v] w (fun v' w'=>Own w w' [.urow 25 6 v' n cs]):=by
 have hs':=hs;obtain⟨hl,a,cap,rfl,hn,hc⟩:=hs;refine ret_of fun K hK=>S_slices_Clone_foliant_api_Object_foliant_api_Object_ok ?_;unfold S_slices_Clone_foliant_api_Object_foliant_api_Object;rw[e_nilS Tryz.underlying23];cases a with
|none=>
  obtain rfl:=hn rfl;obtain rfl:cs=[]:=List.eq_nil_of_length_eq_zero (by omega);simp only[Option.isNone_none,i_t];exact hK _ _ ((Own.start w).nilU 25 6)
|some p=>
  simp only[Option.isNone_some,i_f];refine o_new (fun b=>.slice (some ⟨b,0,none⟩) 0 0) [] 25 (fun _=>by kernel_rfl) (Own.start w) fun b w1 ho=>?_;have ho:=ho.toU 6 0 0 (by simp) (by omega) (by omega);refine o_appendU 0 Tryz.underlying23 (show elB prog 25 6 88=true by kernel_rfl) (by decide) ho rfl (ho.oldSl hs') h1 (by omega) (by omega) fun v' w2 ho=>?_;refine hK _ _ ?_;simpa using ho
theorem ov_s {w:World}{a b:Addr}{la ca lb cb:Nat}(hne:a.block≠b.block){tA tB:TypeId}{kA kB:Nat}(hsa:w.shape? a.block=some (tA,kA))(hsb:w.shape? b.block=some (tB,kB))(hkB:kB≠0)(hfa:w.frozen? a=false)(hfe:w.frozen? { block:=a.block,off:=kA }=false) :
  (mCallV (.func (.func 187) #[] #[]) #[.slice (some a) la ca,.slice (some b) lb cb]).run prog w=.ok (.value (.bool false)) w:=by
 have hx:(callFunc 187 #[.slice (some a) la ca,.slice (some b) lb cb]).run prog w=.ok (.value (.bool false)) w:=by
  rw[run_callFunc_extern (e:=Extern.SlicesOverlaps.overlaps #[22,22] #[4]) Tryz.func187 (by kernel_rfl) (by kernel_rfl) (by kernel_rfl) (by kernel_rfl)];rw[Lib.run_overlaps_apart w 22 4 9 Tryz.underlying22 1 (fun w=>by kernel_rfl) a b la ca lb cb hne tA tB kA kB hsa hsb hkB hfa hfe];rfl
 simpa[mCallV,invoke,Deferred.ofValue,resolve] using hx
theorem sinsert_s_ret (v:Value)(n:Nat)(xs:List Value)(k nb:Nat)(new:List Value)(w:World)(hu:(Ent.urow 9 1 v n xs).is w)(hnb:w.heap[nb]?=some (.cells new.toArray 9 (0,0)))(hl:new.length=1)
  (hne:¬(Ent.urow 9 1 v n xs).blk nb) (h1:∀u∈xs,u.oneCell'=true) (h2:∀u∈new,u.oneCell'=true) (hk:k≤n) (hb:n≤100000000000) :
  Ret prog 134 #[v,.int .i64 (k:Int),.slice (some ⟨nb,0,none⟩) 1 1] w
   (fun v' w'=>∃e',e'=Ent.urow 9 1 v' (n+1) (xs.take (k*1)++new++xs.drop (k*1))∧Turn (.urow 9 1 v n xs) e' w w'):=by
 have hxl:xs.length=n*1:=(show w.ownsRow 0 9 1 v n xs from hu).1;have hs2:Sl w (.slice (some ⟨nb,0,none⟩) 1 1) 1 1 new:=⟨by omega,some ⟨nb,0,none⟩,1,rfl,fun h=>(by cases h),fun p hp=>by cases hp;exact⟨fun _=>rfl,fun j u hj=>by rw[Nat.zero_add];exact cells_cell (T:=9) hnb hj⟩⟩;have ho:=OwnS.lend hu;refine ret_of fun K hK=>S_slices_Insert_string_string_ok ?_;unfold S_slices_Insert_string_string;have hel:elB prog 9 1 16=true:=by kernel_rfl
 have hsz:(Tryz.prog.info? 9).map (·.size)=some 1:=by kernel_rfl
 obtain⟨a,cap,rfl,hcap⟩:∃a cap,v=.slice a n cap∧n≤cap:=by
  rcases (show w.ownsRow 0 9 1 v n xs from hu).2 with ⟨rfl,rfl⟩|⟨g,cap,cur,rfl,_,_,hnc,_⟩
  ·exact⟨none,0,rfl,Nat.le_refl _⟩
  ·exact⟨_,cap,rfl,hnc⟩
 refine do_eq (run_sl_l Tryz.underlying22 hsz (by omega) (by omega)) |>.mpr ?_;rw[sl_len Tryz.underlying22 hs2];simp only[rs,Int.natCast_one,Int.one_ne_zero,decide_false];rw[sl_len_any Tryz.underlying22];simp only[rs];by_cases hkn:k=n
 ·subst hkn;simp only[decide_true,rs];refine o_appendU 0 Tryz.underlying22 hel (by decide) ho rfl hs2 h2 (by omega) (by omega) fun v' w2 ho=>?_;refine hK _ _ ⟨_,rfl,?_⟩;have e:xs.take (k*1)++new++xs.drop (k*1)=xs++new:=by rw[List.take_of_length_le (by omega),List.drop_eq_nil_of_le (by omega),List.append_nil]
  rw[e];exact OwnS.back (L:=[]) ho
 have hlt:k < n:=by omega
 have hne':¬(k:Int)=(n:Int):=by omega
 simp only[hne',decide_false,rs];rcases (show w.ownsRow 0 9 1 (.slice a n cap) n xs from hu).2 with ⟨_,h0⟩|⟨g,cap',cur,he,hbg,hg,hnc,hcm,hcs,htake⟩
 ·omega
 injection he with he1 _ he2
 subst he1;subst he2;rw[wrap64_id (by omega) (by omega),cap_sl Tryz.underlying22];simp only[rs];have hgn:nb≠g:=fun e=>hne (by rw[e];rfl);have hcl:cur.toList.length=cap*1:=by simpa using hcs
 have hoc:OwnS (Ent.urow 9 1 (.slice (some ⟨g,0,none⟩) n cap) n xs).blk w w [.cells g cur.toList 9]:=
  ho.turn 0 rfl ⟨Grew.refl _ _,by show w.heap[g]?=_;rw[hg],fun j hj=>.inl (by simp only[Ent.cells] at hj;subst hj;rfl)⟩
 have hxc:∀j u,xs[j]?=some u→w.cell? ⟨g,0+j,none⟩=some u:=fun j u hj=>by
  rw[Nat.zero_add];exact hoc.cell 0 rfl j (by rw[←htake] at hj;rw[List.getElem?_take] at hj;split at hj<;>first|exact hj|cases hj)
 have htl:(xs.drop (k*1)).length=(n - k)*1:=by rw[List.length_drop,hxl,←Nat.mul_sub_right_distrib]
 have h1t:∀u∈xs.drop (k*1),u.oneCell'=true:=fun u hu=>h1 u (List.mem_of_mem_drop hu);by_cases hroom:(cap:Int) < (n:Int)+1
 ·simp only[hroom,decide_true,rs];refine do_eq (run_sl_h Tryz.underlying22 hsz (by omega) (by omega)) |>.mpr ?_;rw[show subA (some (⟨g,0,none⟩:Addr)) 0 cap 1=some ⟨g,0,none⟩ from subA_0 (a:=⟨g,0,none⟩),Int.toNat_natCast];rw[wrap64_id (n:=(n:Int)+1 - k) (by omega) (by omega),show (n:Int)+1 - k=((n+1 - k:Nat):Int) by omega];refine o_growZ (olds:=xs.take (k*1)) Tryz.underlying22 Tryz.underlying3 hel (by decide) hoc (by rw[List.length_take,hxl,Nat.min_eq_left (by omega)]) (fun j u hj=>hxc j u (by rw[List.getElem?_take] at hj;split at hj<;>first|exact hj|cases hj)) (by omega) (by omega) (by omega) (by omega) fun b c zs w2 hc1 hc2 hzs ho=>?_;rw[show k+(n+1 - k)=n+1 by omega] at hc1 ⊢;have hol:(xs.take (k*1)).length=k*1:=by rw[List.length_take,hxl,Nat.min_eq_left (by omega)]
  refine do_eq (run_sl_l Tryz.underlying22 hsz (by omega) (by omega)) |>.mpr ?_;rw[Int.toNat_natCast,subA_in (by omega)];have hbg2:b≠g:=by
   have:=(List.pairwise_cons.1 ho.apart).1 (.cells g cur.toList 9) (by simp);intro e;exact this b rfl e
  have old2:∀{W:World} {b':Nat} {x y:List Value},OwnS (Ent.urow 9 1 (.slice (some ⟨g,0,none⟩) n cap) n xs).blk w W [.cells b' x 9,.cells g y 9]→W.heap[nb]?=some (.cells new.toArray 9 (0,0)):=fun h=>(h.grew.block nb (lt_of_get hnb) hne).trans hnb;refine o_copyC 0 (src:=new) Tryz.underlying22 hsz ho rfl ?_ (fun j u hj=>by rw[add_none,Nat.zero_add];exact cells_cell (T:=9) (old2 ho) hj) ?_ h2 fun _ w3 ho=>?_
  ·rw[hl,Nat.min_eq_left (by omega)]
  ·rw[List.length_append,hol,hl];omega
  refine quiet ?_;refine q_add ?_;rw[wrap64_id (by omega) (by omega),show (k:Int)+1=((k+1:Nat):Int) by omega];refine q_do _ (fun W=>run_sl_l Tryz.underlying22 hsz (by omega) (by omega)) ?_;refine q_do _ (fun W=>run_sl_l Tryz.underlying22 hsz (by omega) (by omega)) ?_;rw[Int.toNat_natCast,Int.toNat_natCast,subA_in (by omega),subA_in (by omega)];intro w4 hw;have ho:=ho.grow hw;simp only[Nat.zero_add,List.take_left' hol,List.drop_append,hol] at ho;rw[show k*1+new.length - k*1=1 by omega,List.drop_eq_nil_of_le (show (xs.take (k*1)).length≤k*1+new.length by omega),List.nil_append] at ho;refine o_copyC 0 (src:=xs.drop (k*1)) Tryz.underlying22 hsz ho rfl ?_ (fun j u hj=>?_) ?_ h1t fun _ w5 ho=>?_
  ·rw[htl];congr 1;rw[Nat.min_eq_left (by omega)]
  ·rw[add_none];refine ho.cell 1 rfl (0+k*1+j) ?_;rw[List.getElem?_drop] at hj;rw[Nat.zero_add];rw[←htake] at hj;rw[List.getElem?_take] at hj;split at hj<;>first|exact hj|cases hj
  ·simp only[List.length_append,List.length_drop,hol,hl,hxl];omega
  have hcur:((xs.take (k*1)++new++zs.drop 1).take (0+(k+1)*1)++xs.drop (k*1)++(xs.take (k*1)++new++zs.drop 1).drop (0+(k+1)*1+(xs.drop (k*1)).length))=(xs.take (k*1)++new++xs.drop (k*1))++(zs.drop 1).drop ((n - k)*1):=by
   rw[List.take_left' (show (xs.take (k*1)++new).length=0+(k+1)*1 by rw[List.length_append,hol,hl];omega)];rw[List.drop_append,List.drop_eq_nil_of_le (show (xs.take (k*1)++new).length≤_ by rw[List.length_append,hol,hl,htl];omega),List.nil_append]
   congr 2
   rw[List.length_append,hol,hl,htl];omega
  simp only[List.set_cons_zero] at ho;rw[hcur] at ho;have ho:=ho.toU 1 (n+1) c (by simp only[List.length_append,List.length_drop,hol,hl,hxl];omega) hc1 hc2;rw[List.take_left' (show (xs.take (k*1)++new++xs.drop (k*1)).length=(n+1)*1 by simp only[List.length_append,List.length_drop,hol,hl,hxl];omega)] at ho;exact hK _ _ ⟨_,rfl,OwnS.back ho⟩
 ·have hroom':n+1≤cap:=by omega
  simp only[hroom,decide_false,rs];rw[show (n:Int)+1=((n+1:Nat):Int) by omega];refine do_eq (run_sl_h Tryz.underlying22 hsz (by omega) (by omega)) |>.mpr ?_;rw[show subA (some (⟨g,0,none⟩:Addr)) 0 cap 1=some ⟨g,0,none⟩ from subA_0 (a:=⟨g,0,none⟩),Int.toNat_natCast];rw[wrap64_id (n:=(k:Int)+1) (by omega) (by omega),show (k:Int)+1=((k+1:Nat):Int) by omega];refine do_eq (run_sl_l Tryz.underlying22 hsz (by omega) (by omega)) |>.mpr ?_;rw[Int.toNat_natCast,subA_in (by omega)];refine do_eq (ov_s (a:=⟨nb,0,none⟩) (b:=⟨g,0+(k+1)*1,none⟩) hgn (tA:=9) (tB:=9) (kA:=new.length) (kB:=cur.size) (by simp[World.shape?,hnb]) (by simp[World.shape?,hg]) (by rw[hcs];omega) (by simp[World.frozen?,hnb]) (by simp[World.frozen?,hnb])) |>.mpr ?_;simp only[rs,Bool.not_false];refine quiet ?_;refine q_add ?_;rw[wrap64_id (by omega) (by omega),show (k:Int)+1=((k+1:Nat):Int) by omega];refine q_do _ (fun W=>run_sl_l Tryz.underlying22 hsz (by omega) (by omega)) ?_;refine q_do _ (fun W=>run_sl_l Tryz.underlying22 hsz (by omega) (by omega)) ?_;rw[Int.toNat_natCast,Int.toNat_natCast,subA_in (by omega),subA_in (by omega)];intro w3 hw;have ho:=hoc.grow hw;have hxcur:∀j u,(xs.drop (k*1))[j]?=some u→cur.toList[k*1+j]?=some u:=fun j u hj=>by
   rw[List.getElem?_drop,←htake,List.getElem?_take] at hj;split at hj<;>first|exact hj|cases hj
  refine o_copyC 0 (src:=xs.drop (k*1)) Tryz.underlying22 hsz ho rfl ?_ (fun j u hj=>?_) ?_ h1t fun _ w4 ho=>?_
  ·rw[htl];congr 1;rw[Nat.min_eq_right (by omega)];omega
  ·rw[add_none,Nat.zero_add];exact ho.cell 0 rfl _ (hxcur j u hj)
  ·rw[htl,hcl];have:(n - k)*1+(k+1)*1=(n+1)*1:=by rw[←Nat.add_mul];congr 1;omega
   have:(n+1)*1≤cap*1:=Nat.mul_le_mul_right _ hroom';omega
  simp only[List.set_cons_zero] at ho;refine do_eq (run_sl_l Tryz.underlying22 hsz (by omega) (by omega)) |>.mpr ?_;rw[Int.toNat_natCast,subA_in (by omega)];have hnew:w4.heap[nb]?=some (.cells new.toArray 9 (0,0)):=(ho.grew.block nb (lt_of_get hnb) hne).trans hnb;have hkc:(k+1)*1≤cap*1:=Nat.mul_le_mul_right _ (by omega);have hnc2:(n+1)*1≤cap*1:=Nat.mul_le_mul_right _ hroom';have hsum:(n - k)*1+(k+1)*1=(n+1)*1:=by rw[←Nat.add_mul];congr 1;omega
  refine o_copyC 0 (src:=new) Tryz.underlying22 hsz ho rfl ?_ (fun j u hj=>by rw[add_none,Nat.zero_add];exact cells_cell (T:=9) hnew hj) ?_ h2 fun _ w5 ho=>?_
  ·rw[hl,Nat.min_eq_left (by omega)]
  ·simp only[List.length_append,List.length_take,List.length_drop,hcl,hl,htl];omega
  simp only[List.set_cons_zero] at ho;have hck:cur.toList.take (k*1)=xs.take (k*1):=by
   rw[←htake,List.take_take,Nat.min_eq_left (Nat.mul_le_mul_right _ (by omega))]
  have hcur:((cur.toList.take (0+(k+1)*1)++xs.drop (k*1)++cur.toList.drop (0+(k+1)*1+(xs.drop (k*1)).length)).take (0+k*1)++new++(cur.toList.take (0+(k+1)*1)++xs.drop (k*1)++cur.toList.drop (0+(k+1)*1+(xs.drop (k*1)).length)).drop (0+k*1+new.length))
   =(xs.take (k*1)++new++xs.drop (k*1))++cur.toList.drop (0+(k+1)*1+(xs.drop (k*1)).length):=by
   have hlt:(cur.toList.take (0+(k+1)*1)).length=0+(k+1)*1:=by rw[List.length_take,hcl];omega
   rw[List.append_assoc (cur.toList.take (0+(k+1)*1))];rw[List.take_append_of_le_length (by rw[hlt];omega),List.take_take,Nat.min_eq_left (by omega),Nat.zero_add,hck];rw[List.drop_append,List.drop_eq_nil_of_le (show (cur.toList.take (0+(k+1)*1)).length≤k*1+new.length by rw[hlt,hl];omega),List.nil_append];rw[show k*1+new.length - (cur.toList.take (0+(k+1)*1)).length=0 by rw[hlt,hl];omega,List.drop_zero];simp only[Nat.zero_add,List.append_assoc]
  rw[hcur] at ho;have ho:=ho.toU 1 (n+1) cap (by simp only[List.length_append,List.length_take,List.length_drop,hcl,hl,hxl];omega) hroom' (by simp only[maxLen] at hcm;exact hcm);rw[List.take_left' (show (xs.take (k*1)++new++xs.drop (k*1)).length=(n+1)*1 by simp only[List.length_append,List.length_take,List.length_drop,hl,hxl];omega)] at ho;exact hK _ _ ⟨_,rfl,OwnS.back ho⟩
theorem ov_o {w:World}{a b:Addr}{la ca lb cb:Nat}(hne:a.block≠b.block){tA tB:TypeId}{kA kB:Nat}(hsa:w.shape? a.block=some (tA,kA))(hsb:w.shape? b.block=some (tB,kB))(hkB:kB≠0)(hfa:w.frozen? a=false)(hfe:w.frozen? { block:=a.block,off:=kA }=false) :
  (mCallV (.func (.func 189) #[] #[]) #[.slice (some a) la ca,.slice (some b) lb cb]).run prog w=.ok (.value (.bool false)) w:=by
 have hx:(callFunc 189 #[.slice (some a) la ca,.slice (some b) lb cb]).run prog w=.ok (.value (.bool false)) w:=by
  rw[run_callFunc_extern (e:=Extern.SlicesOverlaps.overlaps #[23,23] #[4]) Tryz.func189 (by kernel_rfl) (by kernel_rfl) (by kernel_rfl) (by kernel_rfl)];rw[Lib.run_overlaps_apart w 23 4 25 Tryz.underlying23 6 (fun w=>by kernel_rfl) a b la ca lb cb hne tA tB kA kB hsa hsb hkB hfa hfe];rfl
 simpa[mCallV,invoke,Deferred.ofValue,resolve] using hx
theorem sinsert_o_ret (v:Value)(n:Nat)(xs:List Value)(k nb:Nat)(new:List Value)(w:World)(hu:(Ent.urow 25 6 v n xs).is w)(hnb:w.heap[nb]?=some (.cells new.toArray 25 (0,0)))(hl:new.length=6)
  (hne:¬(Ent.urow 25 6 v n xs).blk nb) (h1:∀u∈xs,u.oneCell'=true) (h2:∀u∈new,u.oneCell'=true) (hk:k≤n) (hb:n≤100000000000) :
  Ret prog 135 #[v,.int .i64 (k:Int),.slice (some ⟨nb,0,none⟩) 1 1] w
   (fun v' w'=>∃e',e'=Ent.urow 25 6 v' (n+1) (xs.take (k*6)++new++xs.drop (k*6))∧Turn (.urow 25 6 v n xs) e' w w'):=by
 have hxl:xs.length=n*6:=(show w.ownsRow 0 25 6 v n xs from hu).1;have hs2:Sl w (.slice (some ⟨nb,0,none⟩) 1 1) 6 1 new:=⟨by omega,some ⟨nb,0,none⟩,1,rfl,fun h=>(by cases h),fun p hp=>by cases hp;exact⟨fun _=>rfl,fun j u hj=>by rw[Nat.zero_add];exact cells_cell (T:=25) hnb hj⟩⟩;have ho:=OwnS.lend hu;refine ret_of fun K hK=>S_slices_Insert_foliant_api_Object_foliant_api_Object_ok ?_;unfold S_slices_Insert_foliant_api_Object_foliant_api_Object;have hel:elB prog 25 6 88=true:=by kernel_rfl
 have hsz:(Tryz.prog.info? 25).map (·.size)=some 6:=by kernel_rfl
 obtain⟨a,cap,rfl,hcap⟩:∃a cap,v=.slice a n cap∧n≤cap:=by
  rcases (show w.ownsRow 0 25 6 v n xs from hu).2 with ⟨rfl,rfl⟩|⟨g,cap,cur,rfl,_,_,hnc,_⟩
  ·exact⟨none,0,rfl,Nat.le_refl _⟩
  ·exact⟨_,cap,rfl,hnc⟩
 refine do_eq (run_sl_l Tryz.underlying23 hsz (by omega) (by omega)) |>.mpr ?_;rw[sl_len Tryz.underlying23 hs2];simp only[rs,Int.natCast_one,Int.one_ne_zero,decide_false];rw[sl_len_any Tryz.underlying23];simp only[rs];by_cases hkn:k=n
 ·subst hkn;simp only[decide_true,rs];refine o_appendU 0 Tryz.underlying23 hel (by decide) ho rfl hs2 h2 (by omega) (by omega) fun v' w2 ho=>?_;refine hK _ _ ⟨_,rfl,?_⟩;have e:xs.take (k*6)++new++xs.drop (k*6)=xs++new:=by rw[List.take_of_length_le (by omega),List.drop_eq_nil_of_le (by omega),List.append_nil]
  rw[e];exact OwnS.back (L:=[]) ho
 have hlt:k < n:=by omega
 have hne':¬(k:Int)=(n:Int):=by omega
 simp only[hne',decide_false,rs];rcases (show w.ownsRow 0 25 6 (.slice a n cap) n xs from hu).2 with ⟨_,h0⟩|⟨g,cap',cur,he,hbg,hg,hnc,hcm,hcs,htake⟩
 ·omega
 injection he with he1 _ he2
 subst he1;subst he2;rw[wrap64_id (by omega) (by omega),cap_sl Tryz.underlying23];simp only[rs];have hgn:nb≠g:=fun e=>hne (by rw[e];rfl);have hcl:cur.toList.length=cap*6:=by simpa using hcs
 have hoc:OwnS (Ent.urow 25 6 (.slice (some ⟨g,0,none⟩) n cap) n xs).blk w w [.cells g cur.toList 25]:=
  ho.turn 0 rfl ⟨Grew.refl _ _,by show w.heap[g]?=_;rw[hg],fun j hj=>.inl (by simp only[Ent.cells] at hj;subst hj;rfl)⟩
 have hxc:∀j u,xs[j]?=some u→w.cell? ⟨g,0+j,none⟩=some u:=fun j u hj=>by
  rw[Nat.zero_add];exact hoc.cell 0 rfl j (by rw[←htake] at hj;rw[List.getElem?_take] at hj;split at hj<;>first|exact hj|cases hj)
 have htl:(xs.drop (k*6)).length=(n - k)*6:=by rw[List.length_drop,hxl,←Nat.mul_sub_right_distrib]
 have h1t:∀u∈xs.drop (k*6),u.oneCell'=true:=fun u hu=>h1 u (List.mem_of_mem_drop hu);by_cases hroom:(cap:Int) < (n:Int)+1
 ·simp only[hroom,decide_true,rs];refine do_eq (run_sl_h Tryz.underlying23 hsz (by omega) (by omega)) |>.mpr ?_;rw[show subA (some (⟨g,0,none⟩:Addr)) 0 cap 6=some ⟨g,0,none⟩ from subA_0 (a:=⟨g,0,none⟩),Int.toNat_natCast];rw[wrap64_id (n:=(n:Int)+1 - k) (by omega) (by omega),show (n:Int)+1 - k=((n+1 - k:Nat):Int) by omega];refine o_growZ (olds:=xs.take (k*6)) Tryz.underlying23 Tryz.underlying3 hel (by decide) hoc (by rw[List.length_take,hxl,Nat.min_eq_left (by omega)]) (fun j u hj=>hxc j u (by rw[List.getElem?_take] at hj;split at hj<;>first|exact hj|cases hj)) (by omega) (by omega) (by omega) (by omega) fun b c zs w2 hc1 hc2 hzs ho=>?_;rw[show k+(n+1 - k)=n+1 by omega] at hc1 ⊢;have hol:(xs.take (k*6)).length=k*6:=by rw[List.length_take,hxl,Nat.min_eq_left (by omega)]
  refine do_eq (run_sl_l Tryz.underlying23 hsz (by omega) (by omega)) |>.mpr ?_;rw[Int.toNat_natCast,subA_in (by omega)];have hbg2:b≠g:=by
   have:=(List.pairwise_cons.1 ho.apart).1 (.cells g cur.toList 25) (by simp);intro e;exact this b rfl e
  have old2:∀{W:World} {b':Nat} {x y:List Value},OwnS (Ent.urow 25 6 (.slice (some ⟨g,0,none⟩) n cap) n xs).blk w W [.cells b' x 25,.cells g y 25]→W.heap[nb]?=some (.cells new.toArray 25 (0,0)):=fun h=>(h.grew.block nb (lt_of_get hnb) hne).trans hnb;refine o_copyC 0 (src:=new) Tryz.underlying23 hsz ho rfl ?_ (fun j u hj=>by rw[add_none,Nat.zero_add];exact cells_cell (T:=25) (old2 ho) hj) ?_ h2 fun _ w3 ho=>?_
  ·rw[hl,Nat.min_eq_left (by omega)]
  ·rw[List.length_append,hol,hl];omega
  refine quiet ?_;refine q_add ?_;rw[wrap64_id (by omega) (by omega),show (k:Int)+1=((k+1:Nat):Int) by omega];refine q_do _ (fun W=>run_sl_l Tryz.underlying23 hsz (by omega) (by omega)) ?_;refine q_do _ (fun W=>run_sl_l Tryz.underlying23 hsz (by omega) (by omega)) ?_;rw[Int.toNat_natCast,Int.toNat_natCast,subA_in (by omega),subA_in (by omega)];intro w4 hw;have ho:=ho.grow hw;simp only[Nat.zero_add,List.take_left' hol,List.drop_append,hol] at ho;rw[show k*6+new.length - k*6=6 by omega,List.drop_eq_nil_of_le (show (xs.take (k*6)).length≤k*6+new.length by omega),List.nil_append] at ho;refine o_copyC 0 (src:=xs.drop (k*6)) Tryz.underlying23 hsz ho rfl ?_ (fun j u hj=>?_) ?_ h1t fun _ w5 ho=>?_
  ·rw[htl];congr 1;rw[Nat.min_eq_left (by omega)]
  ·rw[add_none];refine ho.cell 1 rfl (0+k*6+j) ?_;rw[List.getElem?_drop] at hj;rw[Nat.zero_add];rw[←htake] at hj;rw[List.getElem?_take] at hj;split at hj<;>first|exact hj|cases hj
  ·simp only[List.length_append,List.length_drop,hol,hl,hxl];omega
  have hcur:((xs.take (k*6)++new++zs.drop 6).take (0+(k+1)*6)++xs.drop (k*6)++(xs.take (k*6)++new++zs.drop 6).drop (0+(k+1)*6+(xs.drop (k*6)).length))=(xs.take (k*6)++new++xs.drop (k*6))++(zs.drop 6).drop ((n - k)*6):=by
   rw[List.take_left' (show (xs.take (k*6)++new).length=0+(k+1)*6 by rw[List.length_append,hol,hl];omega)];rw[List.drop_append,List.drop_eq_nil_of_le (show (xs.take (k*6)++new).length≤_ by rw[List.length_append,hol,hl,htl];omega),List.nil_append]
   congr 2
   rw[List.length_append,hol,hl,htl];omega
  simp only[List.set_cons_zero] at ho;rw[hcur] at ho;have ho:=ho.toU 6 (n+1) c (by simp only[List.length_append,List.length_drop,hol,hl,hxl];omega) hc1 hc2;rw[List.take_left' (show (xs.take (k*6)++new++xs.drop (k*6)).length=(n+1)*6 by simp only[List.length_append,List.length_drop,hol,hl,hxl];omega)] at ho;exact hK _ _ ⟨_,rfl,OwnS.back ho⟩
 ·have hroom':n+1≤cap:=by omega
  simp only[hroom,decide_false,rs];rw[show (n:Int)+1=((n+1:Nat):Int) by omega];refine do_eq (run_sl_h Tryz.underlying23 hsz (by omega) (by omega)) |>.mpr ?_;rw[show subA (some (⟨g,0,none⟩:Addr)) 0 cap 6=some ⟨g,0,none⟩ from subA_0 (a:=⟨g,0,none⟩),Int.toNat_natCast];rw[wrap64_id (n:=(k:Int)+1) (by omega) (by omega),show (k:Int)+1=((k+1:Nat):Int) by omega];refine do_eq (run_sl_l Tryz.underlying23 hsz (by omega) (by omega)) |>.mpr ?_;rw[Int.toNat_natCast,subA_in (by omega)];refine do_eq (ov_o (a:=⟨nb,0,none⟩) (b:=⟨g,0+(k+1)*6,none⟩) hgn (tA:=25) (tB:=25) (kA:=new.length) (kB:=cur.size) (by simp[World.shape?,hnb]) (by simp[World.shape?,hg]) (by rw[hcs];omega) (by simp[World.frozen?,hnb]) (by simp[World.frozen?,hnb])) |>.mpr ?_;simp only[rs,Bool.not_false];refine quiet ?_;refine q_add ?_;rw[wrap64_id (by omega) (by omega),show (k:Int)+1=((k+1:Nat):Int) by omega];refine q_do _ (fun W=>run_sl_l Tryz.underlying23 hsz (by omega) (by omega)) ?_;refine q_do _ (fun W=>run_sl_l Tryz.underlying23 hsz (by omega) (by omega)) ?_;rw[Int.toNat_natCast,Int.toNat_natCast,subA_in (by omega),subA_in (by omega)];intro w3 hw;have ho:=hoc.grow hw;have hxcur:∀j u,(xs.drop (k*6))[j]?=some u→cur.toList[k*6+j]?=some u:=fun j u hj=>by
   rw[List.getElem?_drop,←htake,List.getElem?_take] at hj;split at hj<;>first|exact hj|cases hj
  refine o_copyC 0 (src:=xs.drop (k*6)) Tryz.underlying23 hsz ho rfl ?_ (fun j u hj=>?_) ?_ h1t fun _ w4 ho=>?_
  ·rw[htl];congr 1;rw[Nat.min_eq_right (by omega)];omega
  ·rw[add_none,Nat.zero_add];exact ho.cell 0 rfl _ (hxcur j u hj)
  ·rw[htl,hcl];have:(n - k)*6+(k+1)*6=(n+1)*6:=by rw[←Nat.add_mul];congr 1;omega
   have:(n+1)*6≤cap*6:=Nat.mul_le_mul_right _ hroom';omega
  simp only[List.set_cons_zero] at ho;refine do_eq (run_sl_l Tryz.underlying23 hsz (by omega) (by omega)) |>.mpr ?_;rw[Int.toNat_natCast,subA_in (by omega)];have hnew:w4.heap[nb]?=some (.cells new.toArray 25 (0,0)):=(ho.grew.block nb (lt_of_get hnb) hne).trans hnb;have hkc:(k+1)*6≤cap*6:=Nat.mul_le_mul_right _ (by omega);have hnc2:(n+1)*6≤cap*6:=Nat.mul_le_mul_right _ hroom';have hsum:(n - k)*6+(k+1)*6=(n+1)*6:=by rw[←Nat.add_mul];congr 1;omega
  refine o_copyC 0 (src:=new) Tryz.underlying23 hsz ho rfl ?_ (fun j u hj=>by rw[add_none,Nat.zero_add];exact cells_cell (T:=25) hnew hj) ?_ h2 fun _ w5 ho=>?_
  ·rw[hl,Nat.min_eq_left (by omega)]
  ·simp only[List.length_append,List.length_take,List.length_drop,hcl,hl,htl];omega
  simp only[List.set_cons_zero] at ho;have hck:cur.toList.take (k*6)=xs.take (k*6):=by
   rw[←htake,List.take_take,Nat.min_eq_left (Nat.mul_le_mul_right _ (by omega))]
  have hcur:((cur.toList.take (0+(k+1)*6)++xs.drop (k*6)++cur.toList.drop (0+(k+1)*6+(xs.drop (k*6)).length)).take (0+k*6)++new++(cur.toList.take (0+(k+1)*6)++xs.drop (k*6)++cur.toList.drop (0+(k+1)*6+(xs.drop (k*6)).length)).drop (0+k*6+new.length))
   =(xs.take (k*6)++new++xs.drop (k*6))++cur.toList.drop (0+(k+1)*6+(xs.drop (k*6)).length):=by
   have hlt:(cur.toList.take (0+(k+1)*6)).length=0+(k+1)*6:=by rw[List.length_take,hcl];omega
   rw[List.append_assoc (cur.toList.take (0+(k+1)*6))];rw[List.take_append_of_le_length (by rw[hlt];omega),List.take_take,Nat.min_eq_left (by omega),Nat.zero_add,hck];rw[List.drop_append,List.drop_eq_nil_of_le (show (cur.toList.take (0+(k+1)*6)).length≤k*6+new.length by rw[hlt,hl];omega),List.nil_append];rw[show k*6+new.length - (cur.toList.take (0+(k+1)*6)).length=0 by rw[hlt,hl];omega,List.drop_zero];simp only[Nat.zero_add,List.append_assoc]
  rw[hcur] at ho;have ho:=ho.toU 6 (n+1) cap (by simp only[List.length_append,List.length_take,List.length_drop,hcl,hl,hxl];omega) hroom' (by simp only[maxLen] at hcm;exact hcm);rw[List.take_left' (show (xs.take (k*6)++new++xs.drop (k*6)).length=(n+1)*6 by simp only[List.length_append,List.length_take,List.length_drop,hl,hxl];omega)] at ho;exact hK _ _ ⟨_,rfl,OwnS.back ho⟩
theorem sdelete_s_ret (v:Value)(n:Nat)(xs:List Value)(k:Nat)(w:World)(hu:(Ent.urow 9 1 v n xs).is w)(h1:∀u∈xs,u.oneCell'=true)(hk:k < n)(hb:n≤100000000000) :
  Ret prog 185 #[v,.int .i64 (k:Int),.int .i64 ((k+1:Nat):Int)] w
   (fun v' w'=>∃e',e'=Ent.urow 9 1 v' (n - 1) (xs.take (k*1)++xs.drop ((k+1)*1))∧Turn (.urow 9 1 v n xs) e' w w'):=by
 have hxl:xs.length=n*1:=(show w.ownsRow 0 9 1 v n xs from hu).1;have ho:=OwnS.lend hu;refine ret_of fun K hK=>S_slices_Delete_string_string_ok ?_;unfold S_slices_Delete_string_string;have hel:elB prog 9 1 16=true:=by kernel_rfl
 have hsz:(Tryz.prog.info? 9).map (·.size)=some 1:=by kernel_rfl
 rcases (show w.ownsRow 0 9 1 v n xs from hu).2 with ⟨_,h0⟩|⟨g,cap,cur,rfl,hbg,hg,hnc,hcm,hcs,htake⟩
 ·omega
 have hcl:cur.toList.length=cap*1:=by simpa using hcs
 have hnc2:n*1≤cap*1:=Nat.mul_le_mul_right _ hnc;have hoc:OwnS (Ent.urow 9 1 (.slice (some ⟨g,0,none⟩) n cap) n xs).blk w w [.cells g cur.toList 9]:=
  ho.turn 0 rfl ⟨Grew.refl _ _,by show w.heap[g]?=_;rw[hg],fun j hj=>.inl (by simp only[Ent.cells] at hj;subst hj;rfl)⟩
 rw[sl_len_any Tryz.underlying22];refine do_eq (run_sl_lhm Tryz.underlying22 hsz (by omega) (by omega) (by omega) (by omega)) |>.mpr ?_;have hne:¬(k:Int)=((k+1:Nat):Int):=by omega
 simp only[rs,hne,decide_false];rw[sl_len_any Tryz.underlying22];refine quiet ?_;refine q_do _ (fun W=>run_sl_h Tryz.underlying22 hsz (by omega) (by omega)) ?_;refine q_do _ (fun W=>run_sl_l Tryz.underlying22 hsz (by omega) (by omega)) ?_;rw[show subA (some (⟨g,0,none⟩:Addr)) 0 cap 1=some ⟨g,0,none⟩ from subA_0 (a:=⟨g,0,none⟩),Int.toNat_natCast,Int.toNat_natCast];obtain⟨a,ha,hac⟩:∃a,subA (some (⟨g,0,none⟩:Addr)) (k+1) cap 1=some a∧(k+1 < cap→a=⟨g,(k+1)*1,none⟩):=by
  by_cases h:k+1 < cap
  ·exact⟨_,by rw[subA_in h,Nat.zero_add],fun _=>rfl⟩
  ·exact⟨⟨g,0,none⟩,by unfold subA;rw[if_pos (by omega)],fun h'=>absurd h' h⟩
 rw[ha];intro w3 hw;have ho:=hoc.grow hw;have htl:(xs.drop ((k+1)*1)).length=(n - (k+1))*1:=by rw[List.length_drop,hxl,←Nat.mul_sub_right_distrib]
 have hkk:(k+1)*1≤n*1:=Nat.mul_le_mul_right _ (by omega);have hsum:k*1+(n - (k+1))*1=(n - 1)*1:=by rw[←Nat.add_mul];congr 1;omega
 have hn1:(n - 1)*1+1=n*1:=by rw[←Nat.succ_mul];congr 1;omega
 refine o_appRoomC 0 (news:=xs.drop ((k+1)*1)) Tryz.underlying22 hel ho rfl htl (fun j u hj=>?_) (fun u hu=>h1 u (List.mem_of_mem_drop hu)) (by omega) (by rw[htl,hcl];omega) fun w4 ho=>?_
 ·have hjl:j < (xs.drop ((k+1)*1)).length:=(List.getElem?_eq_some_iff.1 hj).1;have hlt:k+1 < cap:=by
   rcases Nat.lt_or_ge (k+1) n with h|h
   ·omega
   ·rw[htl,show n - (k+1)=0 by omega] at hjl;omega
  rw[hac hlt,add_none];refine ho.cell 0 rfl _ ?_;rw[List.getElem?_drop,←htake,List.getElem?_take] at hj;split at hj<;>first|exact hj|cases hj
 simp only[List.set_cons_zero] at ho;rw[sl_len_any Tryz.underlying22];rw[show k+(n - (k+1))=n - 1 by omega];refine do_eq (run_sl_lh Tryz.underlying22 hsz (by omega) (by omega) (by omega)) |>.mpr ?_;rw[Int.toNat_natCast,Int.toNat_natCast,subA_in (by omega),Nat.zero_add,show n - (n - 1)=1 by omega];have hck:cur.toList.take (k*1)=xs.take (k*1):=by
  rw[←htake,List.take_take,Nat.min_eq_left (Nat.mul_le_mul_right _ (by omega))]
 have hkl:(xs.take (k*1)).length=k*1:=by rw[List.length_take,hxl,Nat.min_eq_left (by omega)]
 rw[hck] at ho;have hal:(xs.take (k*1)++xs.drop ((k+1)*1)).length=(n - 1)*1:=by rw[List.length_append,hkl,htl,hsum]
 refine o_clearC 0 Tryz.underlying22 hel (show zB prog 9=true by kernel_rfl) (by omega) ho rfl (by simp only[List.length_append,List.length_drop,hcl,hkl,hxl];omega) fun _ w5 zs hzs ho=>?_;simp only[List.set_cons_zero] at ho;rw[List.take_left' hal,List.append_assoc (xs.take (k*1)++xs.drop ((k+1)*1))] at ho;have ho:=ho.toU 1 (n - 1) cap (by simp only[List.length_append,List.length_drop,hcl,hkl,hxl,hzs];omega) (by omega) (by simp only[maxLen] at hcm;exact hcm);rw[List.take_left' hal] at ho;exact hK _ _ ⟨_,rfl,OwnS.back ho⟩
theorem sdelete_o_ret (v:Value)(n:Nat)(xs:List Value)(k:Nat)(w:World)(hu:(Ent.urow 25 6 v n xs).is w)(h1:∀u∈xs,u.oneCell'=true)(hk:k < n)(hb:n≤100000000000) :
  Ret prog 186 #[v,.int .i64 (k:Int),.int .i64 ((k+1:Nat):Int)] w
   (fun v' w'=>∃e',e'=Ent.urow 25 6 v' (n - 1) (xs.take (k*6)++xs.drop ((k+1)*6))∧Turn (.urow 25 6 v n xs) e' w w'):=by
 have hxl:xs.length=n*6:=(show w.ownsRow 0 25 6 v n xs from hu).1;have ho:=OwnS.lend hu;refine ret_of fun K hK=>S_slices_Delete_foliant_api_Object_foliant_api_Object_ok ?_;unfold S_slices_Delete_foliant_api_Object_foliant_api_Object;have hel:elB prog 25 6 88=true:=by kernel_rfl
 have hsz:(Tryz.prog.info? 25).map (·.size)=some 6:=by kernel_rfl
 rcases (show w.ownsRow 0 25 6 v n xs from hu).2 with ⟨_,h0⟩|⟨g,cap,cur,rfl,hbg,hg,hnc,hcm,hcs,htake⟩
 ·omega
 have hcl:cur.toList.length=cap*6:=by simpa using hcs
 have hnc2:n*6≤cap*6:=Nat.mul_le_mul_right _ hnc;have hoc:OwnS (Ent.urow 25 6 (.slice (some ⟨g,0,none⟩) n cap) n xs).blk w w [.cells g cur.toList 25]:=
  ho.turn 0 rfl ⟨Grew.refl _ _,by show w.heap[g]?=_;rw[hg],fun j hj=>.inl (by simp only[Ent.cells] at hj;subst hj;rfl)⟩
 rw[sl_len_any Tryz.underlying23];refine do_eq (run_sl_lhm Tryz.underlying23 hsz (by omega) (by omega) (by omega) (by omega)) |>.mpr ?_;have hne:¬(k:Int)=((k+1:Nat):Int):=by omega
 simp only[rs,hne,decide_false];rw[sl_len_any Tryz.underlying23];refine quiet ?_;refine q_do _ (fun W=>run_sl_h Tryz.underlying23 hsz (by omega) (by omega)) ?_;refine q_do _ (fun W=>run_sl_l Tryz.underlying23 hsz (by omega) (by omega)) ?_;rw[show subA (some (⟨g,0,none⟩:Addr)) 0 cap 6=some ⟨g,0,none⟩ from subA_0 (a:=⟨g,0,none⟩),Int.toNat_natCast,Int.toNat_natCast];obtain⟨a,ha,hac⟩:∃a,subA (some (⟨g,0,none⟩:Addr)) (k+1) cap 6=some a∧(k+1 < cap→a=⟨g,(k+1)*6,none⟩):=by
  by_cases h:k+1 < cap
  ·exact⟨_,by rw[subA_in h,Nat.zero_add],fun _=>rfl⟩
  ·exact⟨⟨g,0,none⟩,by unfold subA;rw[if_pos (by omega)],fun h'=>absurd h' h⟩
 rw[ha];intro w3 hw;have ho:=hoc.grow hw;have htl:(xs.drop ((k+1)*6)).length=(n - (k+1))*6:=by rw[List.length_drop,hxl,←Nat.mul_sub_right_distrib]
 have hkk:(k+1)*6≤n*6:=Nat.mul_le_mul_right _ (by omega);have hsum:k*6+(n - (k+1))*6=(n - 1)*6:=by rw[←Nat.add_mul];congr 1;omega
 have hn1:(n - 1)*6+6=n*6:=by rw[←Nat.succ_mul];congr 1;omega
 refine o_appRoomC 0 (news:=xs.drop ((k+1)*6)) Tryz.underlying23 hel ho rfl htl (fun j u hj=>?_) (fun u hu=>h1 u (List.mem_of_mem_drop hu)) (by omega) (by rw[htl,hcl];omega) fun w4 ho=>?_
 ·have hjl:j < (xs.drop ((k+1)*6)).length:=(List.getElem?_eq_some_iff.1 hj).1;have hlt:k+1 < cap:=by
   rcases Nat.lt_or_ge (k+1) n with h|h
   ·omega
   ·rw[htl,show n - (k+1)=0 by omega] at hjl;omega
  rw[hac hlt,add_none];refine ho.cell 0 rfl _ ?_;rw[List.getElem?_drop,←htake,List.getElem?_take] at hj;split at hj<;>first|exact hj|cases hj
 simp only[List.set_cons_zero] at ho;rw[sl_len_any Tryz.underlying23];rw[show k+(n - (k+1))=n - 1 by omega];refine do_eq (run_sl_lh Tryz.underlying23 hsz (by omega) (by omega) (by omega)) |>.mpr ?_;rw[Int.toNat_natCast,Int.toNat_natCast,subA_in (by omega),Nat.zero_add,show n - (n - 1)=1 by omega];have hck:cur.toList.take (k*6)=xs.take (k*6):=by
  rw[←htake,List.take_take,Nat.min_eq_left (Nat.mul_le_mul_right _ (by omega))]
 have hkl:(xs.take (k*6)).length=k*6:=by rw[List.length_take,hxl,Nat.min_eq_left (by omega)]
 rw[hck] at ho;have hal:(xs.take (k*6)++xs.drop ((k+1)*6)).length=(n - 1)*6:=by rw[List.length_append,hkl,htl,hsum]
 refine o_clearC 0 Tryz.underlying23 hel (show zB prog 25=true by kernel_rfl) (by omega) ho rfl (by simp only[List.length_append,List.length_drop,hcl,hkl,hxl];omega) fun _ w5 zs hzs ho=>?_;simp only[List.set_cons_zero] at ho;rw[List.take_left' hal,List.append_assoc (xs.take (k*6)++xs.drop ((k+1)*6))] at ho;have ho:=ho.toU 6 (n - 1) cap (by simp only[List.length_append,List.length_drop,hcl,hkl,hxl,hzs];omega) (by omega) (by simp only[maxLen] at hcm;exact hcm);rw[List.take_left' hal] at ho;exact hK _ _ ⟨_,rfl,OwnS.back ho⟩
end
section
open Eng
def S_value_Null (w:World)(K:Ending→World→Prop):Prop:=
 DoX prog (mAlloc 25) w (pk K) fun t0 w=>
 DoX prog (mBuild 25 #[]) w (pk K) fun t1 w=>
 DoX prog (mStore 25 t0 t1) w (pk K) fun _ w=>
 RetX prog [.cell t0 25] w K
theorem S_value_Null_eq (w:World)(K:Ending→World→Prop):wpX prog 2 [] [] none (bodyOf Tryz.f36) (topQ prog [.cell 0 25] K) (startX []) [] w=S_value_Null w K:=by kernel_rfl
theorem S_value_Null_ok {w:World}{K:Ending→World→Prop}(h:S_value_Null w K):Calls prog 36 #[] w K:=
 calls_of_wpX Tryz.func36 rfl rfl rfl rfl (Eq.mpr (S_value_Null_eq w K) h)
def S_value_Int (t0:Value)(w:World)(K:Ending→World→Prop):Prop:=
 DoX prog (mAlloc 25) w (pk K) fun t2 w=>
 DoX prog (mBuild 25 #[(0,(.int .i64 2)),(1,t0)]) w (pk K) fun t4 w=>
 DoX prog (mStore 25 t2 t4) w (pk K) fun _ w=>
 RetX prog [.cell t2 25] w K
theorem S_value_Int_eq (t0:Value)(w:World)(K:Ending→World→Prop):wpX prog 5 [] [] none (bodyOf Tryz.f49) (topQ prog [.cell 2 25] K) (startX [t0]) [] w=S_value_Int t0 w K:=by kernel_rfl
theorem S_value_Int_ok {t0:Value}{w:World}{K:Ending→World→Prop}(h:S_value_Int t0 w K):Calls prog 49 #[t0] w K:=
 calls_of_wpX Tryz.func49 rfl rfl rfl rfl (Eq.mpr (S_value_Int_eq t0 w K) h)
def S_value_Name (t0:Value)(w:World)(K:Ending→World→Prop):Prop:=
 DoX prog (mAlloc 25) w (pk K) fun t2 w=>
 DoX prog (mBuild 25 #[(0,(.int .i64 5)),(3,t0)]) w (pk K) fun t4 w=>
 DoX prog (mStore 25 t2 t4) w (pk K) fun _ w=>
 RetX prog [.cell t2 25] w K
theorem S_value_Name_eq (t0:Value)(w:World)(K:Ending→World→Prop):wpX prog 5 [] [] none (bodyOf Tryz.f209) (topQ prog [.cell 2 25] K) (startX [t0]) [] w=S_value_Name t0 w K:=by kernel_rfl
theorem S_value_Name_ok {t0:Value}{w:World}{K:Ending→World→Prop}(h:S_value_Name t0 w K):Calls prog 209 #[t0] w K:=
 calls_of_wpX Tryz.func209 rfl rfl rfl rfl (Eq.mpr (S_value_Name_eq t0 w K) h)
def S_value_String (t0:Value)(w:World)(K:Ending→World→Prop):Prop:=
 DoX prog (mAlloc 25) w (pk K) fun t2 w=>
 DoX prog (mBuild 25 #[(0,(.int .i64 4)),(3,t0)]) w (pk K) fun t4 w=>
 DoX prog (mStore 25 t2 t4) w (pk K) fun _ w=>
 RetX prog [.cell t2 25] w K
theorem S_value_String_eq (t0:Value)(w:World)(K:Ending→World→Prop):wpX prog 5 [] [] none (bodyOf Tryz.f208) (topQ prog [.cell 2 25] K) (startX [t0]) [] w=S_value_String t0 w K:=by kernel_rfl
theorem S_value_String_ok {t0:Value}{w:World}{K:Ending→World→Prop}(h:S_value_String t0 w K):Calls prog 208 #[t0] w K:=
 calls_of_wpX Tryz.func208 rfl rfl rfl rfl (Eq.mpr (S_value_String_eq t0 w K) h)
def S_value_sound (t0:Value)(w:World)(K:Ending→World→Prop):Prop:=
 DoX prog (mBox 25 t0) w (pk K) fun t1 w=>
 DoX prog (mAlloc 25) w (pk K) fun t2 w=>
 DoX prog (mLoad 25 t1) w (pk K) fun t5 w=>
 CallX prog 57 #[t5] w (pk K) fun t6 w=>
 DoX prog (mEq .neq 30 (.tmp 7) (.const (.int .i64 0)) t6 (.int .i64 0)) w (pk K) fun t8 w=>
 IfX t8 (DoX prog (mBuild 25 #[]) w (pk K) fun t9 w=>
 DoX prog (mStore 25 t2 t9) w (pk K) fun _ w=>
 RetX prog [.cell t2 25,.val t6] w K) (DoX prog (mLoad 25 t1) w (pk K) fun t11 w=>
 DoX prog (mStore 25 t2 t11) w (pk K) fun _ w=>
 RetX prog [.cell t2 25,.val (.int .i64 0)] w K)
theorem S_value_sound_eq (t0:Value)(w:World)(K:Ending→World→Prop):wpX prog 12 [] [] none (bodyOf Tryz.f87) (topQ prog [.cell 2 25,.tmp 3] K) (startX [t0]) [] w=S_value_sound t0 w K:=by kernel_rfl
theorem S_value_sound_ok {t0:Value}{w:World}{K:Ending→World→Prop}(h:S_value_sound t0 w K):Calls prog 87 #[t0] w K:=
 calls_of_wpX Tryz.func87 rfl rfl rfl rfl (Eq.mpr (S_value_sound_eq t0 w K) h)
def S_value_keyed (t0:Value)(w:World)(K:Ending→World→Prop):Prop:=
 DoX prog (mBox 25 t0) w (pk K) fun t1 w=>
 DoX prog (mFA 25 t1 0) w (pk K) fun t3 w=>
 DoX prog (mLoad 3 t3) w (pk K) fun t4 w=>
 DoX prog (mEq .eql 3 (.tmp 4) (.const (.int .i64 7)) t4 (.int .i64 7)) w (pk K) fun t5 w=>
 GDo t5 false (fun E=>DoX prog (mFA 25 t1 0) w (pk K) E) w fun t7 w=>
 GDo t5 false (fun E=>DoX prog (mLoad 3 t7) w (pk K) E) w fun t8 w=>
 GDo t5 false (fun E=>DoX prog (mEq .eql 3 (.tmp 8) (.const (.int .i64 9)) t8 (.int .i64 9)) w (pk K) E) w fun t9 w=>
 DoX prog (mPick t5 (.bool true) t9) w (pk K) fun t10 w=>
 K (.returned t10) w
theorem S_value_keyed_eq (t0:Value)(w:World)(K:Ending→World→Prop):wpX prog 11 [] [] none (bodyOf Tryz.f79) (topQ prog [.tmp 2] K) (startX [t0]) [] w=S_value_keyed t0 w K:=by kernel_rfl
theorem S_value_keyed_ok {t0:Value}{w:World}{K:Ending→World→Prop}(h:S_value_keyed t0 w K):Calls prog 79 #[t0] w K:=
 calls_of_wpX Tryz.func79 rfl rfl rfl rfl (Eq.mpr (S_value_keyed_eq t0 w K) h)
def S_value_with_0 (t3 t6:Value)(w:World)(K:Ending→World→Prop):Prop:=
 DoX prog (mLoad 25 t3) w (pk K) fun t44 w=>
 DoX prog (mStore 25 t6 t44) w (pk K) fun _ w=>
 RetX prog [.cell t6 25] w K
def S_value_with (t0 t1 t2:Value)(w:World)(K:Ending→World→Prop):Prop:=
 DoX prog (mBox 25 t0) w (pk K) fun t3 w=>
 DoX prog (mBox 25 t2) w (pk K) fun t5 w=>
 DoX prog (mAlloc 25) w (pk K) fun t6 w=>
 DoX prog (mFA 25 t3 4) w (pk K) fun t10 w=>
 DoX prog (mLoad 22 t10) w (pk K) fun t11 w=>
 CallX prog 130 #[t11,t1] w (pk K) fun t13 w=>
 DoX prog (mExt t13 0) w (pk K) fun t14 w=>
 DoX prog (mExt t13 1) w (pk K) fun t15 w=>
 DoX prog (mFA 25 t3 4) w (pk K) fun t16 w=>
 DoX prog (mLoad 22 t16) w (pk K) fun t17 w=>
 CallX prog 132 #[t17] w (pk K) fun t18 w=>
 DoX prog (mFA 25 t3 4) w (pk K) fun t19 w=>
 DoX prog (mStore 22 t19 t18) w (pk K) fun _ w=>
 DoX prog (mFA 25 t3 5) w (pk K) fun t20 w=>
 DoX prog (mLoad 23 t20) w (pk K) fun t21 w=>
 CallX prog 133 #[t21] w (pk K) fun t22 w=>
 DoX prog (mFA 25 t3 5) w (pk K) fun t23 w=>
 DoX prog (mStore 23 t23 t22) w (pk K) fun _ w=>
 JoinX (fun J1=>
 IfX t15 (DoX prog (mFA 25 t3 5) w (pk K) fun t25 w=>
 DoX prog (mLoad 23 t25) w (pk K) fun t26 w=>
 DoX prog (mLoad 25 t5) w (pk K) fun t28 w=>
 DoX prog (mIA 23 t26 t14) w (pk K) fun t29 w=>
 DoX prog (mStore 25 t29 t28) w (pk K) fun _ w=>
 J1 [] w) (DoX prog (mFA 25 t3 4) w (pk K) fun t30 w=>
 DoX prog (mLoad 22 t30) w (pk K) fun t31 w=>
 DoX prog (mBuildS 22 1 #[(0,t1)]) w (pk K) fun t34 w=>
 CallX prog 134 #[t31,t14,t34] w (pk K) fun t35 w=>
 DoX prog (mFA 25 t3 4) w (pk K) fun t36 w=>
 DoX prog (mStore 22 t36 t35) w (pk K) fun _ w=>
 DoX prog (mFA 25 t3 5) w (pk K) fun t37 w=>
 DoX prog (mLoad 23 t37) w (pk K) fun t38 w=>
 DoX prog (mLoad 25 t5) w (pk K) fun t40 w=>
 DoX prog (mBuildS 23 1 #[(0,t40)]) w (pk K) fun t41 w=>
 CallX prog 135 #[t38,t14,t41] w (pk K) fun t42 w=>
 DoX prog (mFA 25 t3 5) w (pk K) fun t43 w=>
 DoX prog (mStore 23 t43 t42) w (pk K) fun _ w=>
 J1 [] w)) (fun vs1 w=>∀_:Sg,S_value_with_0 t3 t6 w K)
theorem S_value_with_eq (t0 t1 t2:Value)(w:World)(K:Ending→World→Prop):wpX prog 45 [(8,[])] [] none (bodyOf Tryz.f88) (topQ prog [.cell 6 25] K) (startX [t0,t1,t2]) [] w=S_value_with t0 t1 t2 w K:=by kernel_rfl
theorem S_value_with_ok {t0 t1 t2:Value}{w:World}{K:Ending→World→Prop}(h:S_value_with t0 t1 t2 w K):Calls prog 88 #[t0,t1,t2] w K:=
 calls_of_wpX Tryz.func88 rfl rfl rfl rfl (Eq.mpr (S_value_with_eq t0 t1 t2 w K) h)
def S_value_without (t0 t1:Value)(w:World)(K:Ending→World→Prop):Prop:=
 DoX prog (mBox 25 t0) w (pk K) fun t2 w=>
 DoX prog (mAlloc 25) w (pk K) fun t4 w=>
 DoX prog (mFA 25 t2 4) w (pk K) fun t5 w=>
 DoX prog (mLoad 22 t5) w (pk K) fun t6 w=>
 CallX prog 132 #[t6] w (pk K) fun t7 w=>
 DoX prog (mBin .add 3 t1 (.int .i64 1)) w (pk K) fun t10 w=>
 CallX prog 185 #[t7,t1,t10] w (pk K) fun t11 w=>
 DoX prog (mFA 25 t2 4) w (pk K) fun t12 w=>
 DoX prog (mStore 22 t12 t11) w (pk K) fun _ w=>
 DoX prog (mFA 25 t2 5) w (pk K) fun t13 w=>
 DoX prog (mLoad 23 t13) w (pk K) fun t14 w=>
 CallX prog 133 #[t14] w (pk K) fun t15 w=>
 DoX prog (mBin .add 3 t1 (.int .i64 1)) w (pk K) fun t18 w=>
 CallX prog 186 #[t15,t1,t18] w (pk K) fun t19 w=>
 DoX prog (mFA 25 t2 5) w (pk K) fun t20 w=>
 DoX prog (mStore 23 t20 t19) w (pk K) fun _ w=>
 DoX prog (mLoad 25 t2) w (pk K) fun t21 w=>
 DoX prog (mStore 25 t4 t21) w (pk K) fun _ w=>
 RetX prog [.cell t4 25] w K
theorem S_value_without_eq (t0 t1:Value)(w:World)(K:Ending→World→Prop):wpX prog 22 [] [] none (bodyOf Tryz.f131) (topQ prog [.cell 4 25] K) (startX [t0,t1]) [] w=S_value_without t0 t1 w K:=by kernel_rfl
theorem S_value_without_ok {t0 t1:Value}{w:World}{K:Ending→World→Prop}(h:S_value_without t0 t1 w K):Calls prog 131 #[t0,t1] w K:=
 calls_of_wpX Tryz.func131 rfl rfl rfl rfl (Eq.mpr (S_value_without_eq t0 t1 w K) h)
def S_value_Get (t0 t1:Value)(w:World)(K:Ending→World→Prop):Prop:=
 DoX prog (mBox 25 t0) w (pk K) fun t2 w=>
 DoX prog (mAlloc 25) w (pk K) fun t4 w=>
 DoX prog (mLoad 25 t2) w (pk K) fun t7 w=>
 CallX prog 79 #[t7] w (pk K) fun t8 w=>
 DoX prog (mUn .not t8) w (pk K) fun t9 w=>
 IfX t9 (DoX prog (mBuild 25 #[]) w (pk K) fun t10 w=>
 DoX prog (mStore 25 t4 t10) w (pk K) fun _ w=>
 RetX prog [.cell t4 25,.val (.bool false)] w K) (DoX prog (mFA 25 t2 4) w (pk K) fun t11 w=>
 DoX prog (mLoad 22 t11) w (pk K) fun t12 w=>
 CallX prog 80 #[t12,t1] w (pk K) fun t14 w=>
 DoX prog (mBin .lss 3 t14 (.int .i64 0)) w (pk K) fun t16 w=>
 GDo t16 false (fun E=>E t14 w) w fun t18 w=>
 GDo t16 false (fun E=>DoX prog (mFA 25 t2 5) w (pk K) E) w fun t19 w=>
 GDo t16 false (fun E=>DoX prog (mLoad 23 t19) w (pk K) E) w fun t20 w=>
 GDo t16 false (fun E=>DoX prog (mB .len #[23] 3 #[false] #[t20]) w (pk K) E) w fun t21 w=>
 GDo t16 false (fun E=>DoX prog (mBin .geq 3 t18 t21) w (pk K) E) w fun t22 w=>
 DoX prog (mPick t16 (.bool true) t22) w (pk K) fun t23 w=>
 IfX t23 (DoX prog (mBuild 25 #[]) w (pk K) fun t24 w=>
 DoX prog (mStore 25 t4 t24) w (pk K) fun _ w=>
 RetX prog [.cell t4 25,.val (.bool false)] w K) (DoX prog (mFA 25 t2 5) w (pk K) fun t25 w=>
 DoX prog (mLoad 23 t25) w (pk K) fun t26 w=>
 DoX prog (mIA 23 t26 t14) w (pk K) fun t28 w=>
 DoX prog (mLoad 25 t28) w (pk K) fun t29 w=>
 CallX prog 81 #[t29] w (pk K) fun t30 w=>
 DoX prog (mStore 25 t4 t30) w (pk K) fun _ w=>
 RetX prog [.cell t4 25,.val (.bool true)] w K))
theorem S_value_Get_eq (t0 t1:Value)(w:World)(K:Ending→World→Prop):wpX prog 31 [] [] none (bodyOf Tryz.f37) (topQ prog [.cell 4 25,.tmp 5] K) (startX [t0,t1]) [] w=S_value_Get t0 t1 w K:=by kernel_rfl
theorem S_value_Get_ok {t0 t1:Value}{w:World}{K:Ending→World→Prop}(h:S_value_Get t0 t1 w K):Calls prog 37 #[t0,t1] w K:=
 calls_of_wpX Tryz.func37 rfl rfl rfl rfl (Eq.mpr (S_value_Get_eq t0 t1 w K) h)
def S_value_Set (t0 t1 t2:Value)(w:World)(K:Ending→World→Prop):Prop:=
 DoX prog (mBox 25 t0) w (pk K) fun t3 w=>
 DoX prog (mBox 25 t2) w (pk K) fun t5 w=>
 DoX prog (mAlloc 25) w (pk K) fun t6 w=>
 DoX prog (mLoad 25 t3) w (pk K) fun t9 w=>
 CallX prog 79 #[t9] w (pk K) fun t10 w=>
 DoX prog (mUn .not t10) w (pk K) fun t11 w=>
 IfX t11 (DoX prog (mBuild 25 #[]) w (pk K) fun t12 w=>
 DoX prog (mStore 25 t6 t12) w (pk K) fun _ w=>
 RetX prog [.cell t6 25,.val (.int .i64 10)] w K) (DoX prog (mLoad 25 t3) w (pk K) fun t13 w=>
 CallX prog 57 #[t13] w (pk K) fun t14 w=>
 DoX prog (mEq .neq 30 (.tmp 15) (.const (.int .i64 0)) t14 (.int .i64 0)) w (pk K) fun t16 w=>
 IfX t16 (DoX prog (mBuild 25 #[]) w (pk K) fun t17 w=>
 DoX prog (mStore 25 t6 t17) w (pk K) fun _ w=>
 RetX prog [.cell t6 25,.val t14] w K) (DoX prog (mFA 25 t5 0) w (pk K) fun t19 w=>
 DoX prog (mLoad 3 t19) w (pk K) fun t20 w=>
 DoX prog (mEq .eql 3 (.tmp 20) (.const (.int .i64 0)) t20 (.int .i64 0)) w (pk K) fun t21 w=>
 IfX t21 (DoX prog (mLoad 25 t3) w (pk K) fun t22 w=>
 CallX prog 86 #[t22,t1] w (pk K) fun t24 w=>
 DoX prog (mStore 25 t6 t24) w (pk K) fun _ w=>
 RetX prog [.cell t6 25,.val (.int .i64 0)] w K) (DoX prog (mLoad 25 t3) w (pk K) fun t25 w=>
 DoX prog (mLoad 25 t5) w (pk K) fun t27 w=>
 CallX prog 88 #[t25,t1,t27] w (pk K) fun t28 w=>
 CallX prog 81 #[t28] w (pk K) fun t29 w=>
 CallX prog 87 #[t29] w (pk K) fun t30 w=>
 DoX prog (mExt t30 0) w (pk K) fun t31 w=>
 DoX prog (mExt t30 1) w (pk K) fun t32 w=>
 DoX prog (mStore 25 t6 t31) w (pk K) fun _ w=>
 RetX prog [.cell t6 25,.val t32] w K)))
theorem S_value_Set_eq (t0 t1 t2:Value)(w:World)(K:Ending→World→Prop):wpX prog 33 [] [] none (bodyOf Tryz.f48) (topQ prog [.cell 6 25,.tmp 7] K) (startX [t0,t1,t2]) [] w=S_value_Set t0 t1 t2 w K:=by kernel_rfl
theorem S_value_Set_ok {t0 t1 t2:Value}{w:World}{K:Ending→World→Prop}(h:S_value_Set t0 t1 t2 w K):Calls prog 48 #[t0,t1,t2] w K:=
 calls_of_wpX Tryz.func48 rfl rfl rfl rfl (Eq.mpr (S_value_Set_eq t0 t1 t2 w K) h)
def S_value_Drop_0 (t2 t4:Value)(w:World)(K:Ending→World→Prop):Prop:=
 DoX prog (mLoad 25 t2) w (pk K) fun t25 w=>
 CallX prog 81 #[t25] w (pk K) fun t26 w=>
 DoX prog (mStore 25 t4 t26) w (pk K) fun _ w=>
 RetX prog [.cell t4 25] w K
def S_value_Drop (t0 t1:Value)(w:World)(K:Ending→World→Prop):Prop:=
 DoX prog (mBox 25 t0) w (pk K) fun t2 w=>
 DoX prog (mAlloc 25) w (pk K) fun t4 w=>
 JoinX (fun J1=>
 DoX prog (mLoad 25 t2) w (pk K) fun t7 w=>
 CallX prog 79 #[t7] w (pk K) fun t8 w=>
 GDo t8 true (fun E=>DoX prog (mLoad 25 t2) w (pk K) E) w fun t10 w=>
 GDo t8 true (fun E=>CallX prog 57 #[t10] w (pk K) E) w fun t11 w=>
 GDo t8 true (fun E=>DoX prog (mEq .eql 30 (.tmp 11) (.const (.int .i64 0)) t11 (.int .i64 0)) w (pk K) E) w fun t12 w=>
 DoX prog (mPick t8 t12 (.bool false)) w (pk K) fun t13 w=>
 IfX t13 (DoX prog (mFA 25 t2 4) w (pk K) fun t15 w=>
 DoX prog (mLoad 22 t15) w (pk K) fun t16 w=>
 CallX prog 130 #[t16,t1] w (pk K) fun t18 w=>
 DoX prog (mExt t18 0) w (pk K) fun t19 w=>
 DoX prog (mExt t18 1) w (pk K) fun t20 w=>
 IfX t20 (DoX prog (mLoad 25 t2) w (pk K) fun t22 w=>
 CallX prog 131 #[t22,t19] w (pk K) fun t24 w=>
 DoX prog (mStore 25 t2 t24) w (pk K) fun _ w=>
 J1 [] w) (J1 [] w)) (J1 [] w)) (fun vs1 w=>∀_:Sg,S_value_Drop_0 t2 t4 w K)
theorem S_value_Drop_eq (t0 t1:Value)(w:World)(K:Ending→World→Prop):wpX prog 27 [(5,[])] [] none (bodyOf Tryz.f86) (topQ prog [.cell 4 25] K) (startX [t0,t1]) [] w=S_value_Drop t0 t1 w K:=by kernel_rfl
theorem S_value_Drop_ok {t0 t1:Value}{w:World}{K:Ending→World→Prop}(h:S_value_Drop t0 t1 w K):Calls prog 86 #[t0,t1] w K:=
 calls_of_wpX Tryz.func86 rfl rfl rfl rfl (Eq.mpr (S_value_Drop_eq t0 t1 w K) h)
def S_value_Clone (t0:Value)(w:World)(K:Ending→World→Prop):Prop:=
 DoX prog (mBox 25 t0) w (pk K) fun t1 w=>
 DoX prog (mAlloc 25) w (pk K) fun t2 w=>
 DoX prog (mLoad 25 t1) w (pk K) fun t3 w=>
 CallX prog 125 #[t3,(.func (.func 126) #[] #[])] w (pk K) fun t4 w=>
 DoX prog (mStore 25 t2 t4) w (pk K) fun _ w=>
 RetX prog [.cell t2 25] w K
theorem S_value_Clone_eq (t0:Value)(w:World)(K:Ending→World→Prop):wpX prog 5 [] [] none (bodyOf Tryz.f81) (topQ prog [.cell 2 25] K) (startX [t0]) [] w=S_value_Clone t0 w K:=by kernel_rfl
theorem S_value_Clone_ok {t0:Value}{w:World}{K:Ending→World→Prop}(h:S_value_Clone t0 w K):Calls prog 81 #[t0] w K:=
 calls_of_wpX Tryz.func81 rfl rfl rfl rfl (Eq.mpr (S_value_Clone_eq t0 w K) h)
def S_value_Clone_1 (t0:Value)(w:World)(K:Ending→World→Prop):Prop:=
 DoX prog (mBox 25 t0) w (pk K) fun t1 w=>
 DoX prog (mAlloc 25) w (pk K) fun t2 w=>
 DoX prog (mLoad 25 t1) w (pk K) fun t3 w=>
 DoX prog (mStore 25 t2 t3) w (pk K) fun _ w=>
 RetX prog [.cell t2 25] w K
theorem S_value_Clone_1_eq (t0:Value)(w:World)(K:Ending→World→Prop):wpX prog 4 [] [] none (bodyOf Tryz.f126) (topQ prog [.cell 2 25] K) (startX [t0]) [] w=S_value_Clone_1 t0 w K:=by kernel_rfl
theorem S_value_Clone_1_ok {t0:Value}{w:World}{K:Ending→World→Prop}(h:S_value_Clone_1 t0 w K):Calls prog 126 #[t0] w K:=
 calls_of_wpX Tryz.func126 rfl rfl rfl rfl (Eq.mpr (S_value_Clone_1_eq t0 w K) h)
def S_value_changed_1 (t2 t4:Value)(w:World)(K:Ending→World→Prop):Prop:=
 DoX prog (mLoad 25 t2) w (pk K) fun t39 w=>
 DoX prog (mStore 25 t4 t39) w (pk K) fun _ w=>
 RetX prog [.cell t4 25] w K
def S_value_changed_0 (t1 t2 t5 t23 t24 t25:Value)(w:World)(J1 N2:List Value→World→Prop)(K:Ending→World→Prop):Prop:=
 DoX prog (mBin .lss 3 t25 t24) w (pk K) fun t26 w=>
 IfX t26 (DoX prog (mIA 23 t23 t25) w (pk K) fun t28 w=>
 DoX prog (mLoad 25 t28) w (pk K) fun t29 w=>
 DoX prog (mAlloc 25) w (pk K) fun t7 w=>
 DoX prog (mStore 25 t7 t29) w (pk K) fun _ w=>
 DoX prog (mLoad 25 t7) w (pk K) fun t32 w=>
 CallX prog 125 #[t32,t1] w (pk K) fun t34 w=>
 DoX prog (mIA 23 t5 t25) w (pk K) fun t35 w=>
 DoX prog (mStore 25 t35 t34) w (pk K) fun _ w=>
 DoX prog (mBin .add 3 t25 (.int .i64 1)) w (pk K) fun t36 w=>
 N2 [t36] w) (DoX prog (mFA 25 t2 5) w (pk K) fun t38 w=>
 DoX prog (mStore 23 t38 t5) w (pk K) fun _ w=>
 J1 [] w)
def S_value_changed (t0 t1:Value)(w:World)(K:Ending→World→Prop):Prop:=
 DoX prog (mBox 25 t0) w (pk K) fun t2 w=>
 DoX prog (mAlloc 25) w (pk K) fun t4 w=>
 DoX prog (mLoad 25 t2) w (pk K) fun t9 w=>
 DoX prog (mCallV t1 #[t9]) w (pk K) fun t10 w=>
 DoX prog (mStore 25 t2 t10) w (pk K) fun _ w=>
 DoX prog (mFA 25 t2 4) w (pk K) fun t11 w=>
 DoX prog (mLoad 22 t11) w (pk K) fun t12 w=>
 CallX prog 132 #[t12] w (pk K) fun t13 w=>
 DoX prog (mFA 25 t2 4) w (pk K) fun t14 w=>
 DoX prog (mStore 22 t14 t13) w (pk K) fun _ w=>
 JoinX (fun J1=>
 DoX prog (mFA 25 t2 5) w (pk K) fun t15 w=>
 DoX prog (mLoad 23 t15) w (pk K) fun t16 w=>
 DoX prog (mEq .neq 23 (.tmp 16) (.const (.slice none 0 0)) t16 (.slice none 0 0)) w (pk K) fun t17 w=>
 IfX t17 (DoX prog (mFA 25 t2 5) w (pk K) fun t18 w=>
 DoX prog (mLoad 23 t18) w (pk K) fun t19 w=>
 DoX prog (mB .len #[23] 3 #[false] #[t19]) w (pk K) fun t20 w=>
 DoX prog (mMake 23 t20 t20) w (pk K) fun t21 w=>
 DoX prog (mFA 25 t2 5) w (pk K) fun t22 w=>
 DoX prog (mLoad 23 t22) w (pk K) fun t23 w=>
 DoX prog (mB .len #[23] 3 #[false] #[t23]) w (pk K) fun t24 w=>
 LoopX [(.int .i64 0)] w (fun vs2 w N2=>∀_:Sg,S_value_changed_0 t1 t2 t21 t23 t24 (vs2.getD 0 undef) w J1 N2 K)) (J1 [] w)) (fun vs1 w=>∀_:Sg,S_value_changed_1 t2 t4 w K)
theorem S_value_changed_eq (t0 t1:Value)(w:World)(K:Ending→World→Prop):wpX prog 40 [(11,[])] [(6,[25])] none (bodyOf Tryz.f125) (topQ prog [.cell 4 25] K) (startX [t0,t1]) [] w=S_value_changed t0 t1 w K:=by kernel_rfl
theorem S_value_changed_ok {t0 t1:Value}{w:World}{K:Ending→World→Prop}(h:S_value_changed t0 t1 w K):Calls prog 125 #[t0,t1] w K:=
 calls_of_wpX Tryz.func125 rfl rfl rfl rfl (Eq.mpr (S_value_changed_eq t0 t1 w K) h)
end
section
open Eng
def S_slices_Index_string_string_0 (t0 t1 t7 t8:Value)(w:World)(N1:List Value→World→Prop)(K:Ending→World→Prop):Prop:=
 DoX prog (mBin .lss 3 t8 t7) w (pk K) fun t9 w=>
 IfX t9 (DoX prog (mIA 22 t0 t8) w (pk K) fun t14 w=>
 DoX prog (mLoad 9 t14) w (pk K) fun t15 w=>
 DoX prog (mEq .eql 9 (.tmp 11) (.tmp 15) t1 t15) w (pk K) fun t16 w=>
 IfX t16 (K (.returned t8) w) (DoX prog (mBin .add 3 t8 (.int .i64 1)) w (pk K) fun t18 w=>
 N1 [t18] w)) (K (.returned (.int .i64 (-1))) w)
def S_slices_Index_string_string (t0 t1:Value)(w:World)(K:Ending→World→Prop):Prop:=
 DoX prog (mB .len #[22] 3 #[false] #[t0]) w (pk K) fun t7 w=>
 LoopX [(.int .i64 0)] w (fun vs1 w N1=>∀_:Sg,S_slices_Index_string_string_0 t0 t1 t7 (vs1.getD 0 undef) w N1 K)
theorem S_slices_Index_string_string_eq (t0 t1:Value)(w:World)(K:Ending→World→Prop):wpX prog 19 [] [(2,[8])] none (bodyOf Tryz.f80) (topQ prog [.tmp 4] K) (startX [t0,t1]) [] w=S_slices_Index_string_string t0 t1 w K:=by kernel_rfl
theorem S_slices_Index_string_string_ok {t0 t1:Value}{w:World}{K:Ending→World→Prop}(h:S_slices_Index_string_string t0 t1 w K):Calls prog 80 #[t0,t1] w K:=
 calls_of_wpX Tryz.func80 rfl rfl rfl rfl (Eq.mpr (S_slices_Index_string_string_eq t0 t1 w K) h)
end
section
open Eng Go.RowKit
theorem nStrI:notAgg prog 9=true:=by kernel_rfl
theorem idx_at {l:List (List UInt8)}{x:List UInt8}{i:Nat}(h:i < l.length)(hn:x ∉ l.take i)(he:l[i]=x):l.idxOf x=i:=by
 have e:l=l.take i++(l[i]::l.drop (i+1)):=by
  rw[←List.drop_eq_getElem_cons h,List.take_append_drop]
 rw[e,List.idxOf_append,if_neg hn,he,List.idxOf_cons_self,List.length_take];omega
theorem sindex_ret (va:Value)(l:List (List UInt8))(x:List UInt8)(w:World)(ha:Sl w va 1 l.length (strsV l))(hl:l.length≤1099511627776) :
  Ret prog 80 #[va,.string ⟨x.toArray⟩] w (fun v w'=>v=.int .i64 (if l.idxOf x < l.length then (l.idxOf x:Int) else -1)∧w=w'):=by
 refine ret_of fun K hK=>S_slices_Index_string_string_ok ?_;unfold S_slices_Index_string_string;rw[sl_len Tryz.underlying22 ha];refine loop (fun vs w'=>∃(i:Nat),vs=[.int .i64 i]∧i≤l.length∧x ∉ l.take i∧w=w') (fun vs _=>l.length - n0 vs) ⟨0,rfl,by omega,by simp,rfl⟩ ?_;rintro vs w2 ⟨i,rfl,hi,hm,rfl⟩ _;simp only[S_slices_Index_string_string_0,gd,rs];by_cases hlt:(i:Int) < (l.length:Int)
 ·have hi':i < l.length:=by omega
  simp only[hlt,decide_true,rs];refine sl_ia1 (.string ⟨(l[i]).toArray⟩) Tryz.underlying22 (by kernel_rfl) ha (by omega) (by rw[Int.toNat_natCast];exact strsV_get hi') fun q hq=>?_;rw[l_cell nStrI hq];simp only[rs];by_cases he:x=l[i]
  ·simp only[←he,decide_true,rs];have:=idx_at hi' hm he.symm;exact hK _ _ ⟨by rw[this,if_pos hi'],rfl⟩
  ·simp only[he,decide_false,rs];rw[wrap64_id (by omega) (by omega)];refine nextX ⟨i+1,rfl,by omega,?_,rfl⟩ (by simp[n0,RowKit.intOf];omega);rw[List.take_add_one,List.getElem?_eq_getElem hi'];simp only[Option.toList,List.mem_append,List.mem_singleton,not_or];exact⟨hm,he⟩
 ·simp only[hlt,decide_false,i_f];rw[List.take_of_length_le (by omega)] at hm;exact hK _ _ ⟨by rw[if_neg (by rw[List.idxOf_lt_length_iff];exact hm)],rfl⟩
end
section
open Eng Go.RowKit
def obC (o:Ob)(vk vc:Value):List Value:=[.int .i64 o.k,.int .i64 o.n,.int .i64 o.g,.string ⟨o.s.toArray⟩,vk,vc]
def obV (o:Ob)(vk vc:Value):Value:=.agg (obC o vk vc).toArray
def obE (b:Nat)(o:Ob)(vk vc:Value):Ent:=.cells b (obC o vk vc) 25
structure ObAt (A:Nat→Prop) (w:World) (o:Ob) (vk vc:Value) (cs:List Value):Prop where
 keys:SlA A w vk 1 o.keys.length (strsV o.keys)
 kids:SlA A w vc 6 o.kids.length cs
 all:OVs A w cs o.kids
theorem OV.open {A:Nat→Prop}{w:World}{v:Value}{o:Ob}(h:OV A w v o):∃vk vc cs,v=obV o vk vc∧ObAt A w o vk vc cs:=by
 cases o with
|mk k n g s keys kids=>
  rw[OV] at h;obtain⟨vk,vc,cs,rfl,h1,h2,h3⟩:=h;exact⟨vk,vc,cs,rfl,h1,h2,h3⟩
theorem ObAt.ov {A:Nat→Prop}{w:World}{o:Ob}{vk vc:Value}{cs:List Value}(h:ObAt A w o vk vc cs):OV A w (obV o vk vc) o:=by
 cases o with
|mk k n g s keys kids=>
  rw[OV];exact⟨vk,vc,cs,rfl,h.keys,h.kids,h.all⟩
theorem ObAt.kept {A:Nat→Prop}{w w':World}{o:Ob}{vk vc:Value}{cs:List Value}(h:ObAt A w o vk vc cs)(hk:Kept A w w'):ObAt A w' o vk vc cs:=
 ⟨h.keys.kept hk,h.kids.kept hk,OVs.kept hk _ _ h.all⟩
theorem kept_below {A:Nat→Prop}{w w':World}(hA:∀b,A b→b < w.heap.size)(h:Below w.heap.size w w'):Kept A w w':=fun b hb=>h.block b (hA b hb)
theorem OwnS.keptIn {w0 w:World}{L:List Ent}(h:Own w0 w L):Kept (InW w0) w0 w:=kept_below (fun _ h=>h) h.done
theorem OV.own {w0 w:World}{L:List Ent}{v:Value}{o:Ob}(h:OV (InW w0) w0 v o)(ho:Own w0 w L):OV (InW w0) w v o:=OV.kept (OwnS.keptIn ho) o v h
theorem OV.at_ {w0 w:World}{L:List Ent}{v:Value}{o:Ob}(h:OV (InW w0) w0 v o)(ho:Own w0 w L):OV (InW w) w v o:=OV.mono (fun _ hb=>Nat.lt_of_lt_of_le hb ho.size) o v (h.own ho)
theorem ObAt.own {w0 w:World}{L:List Ent}{o:Ob}{vk vc:Value}{cs:List Value}(h:ObAt (InW w0) w0 o vk vc cs)(ho:Own w0 w L):ObAt (InW w0) w o vk vc cs:=h.kept (OwnS.keptIn ho)
theorem SlA.one {A:Nat→Prop}{w:World}{v:Value}{sz n:Nat}{cs:List Value}(h:SlA A w v sz n cs):v.oneCell'=true:=by
 obtain⟨⟨_,a,cap,rfl,_⟩,_⟩:=h;rfl
theorem aggOb:aggN prog 25=some 6:=by kernel_rfl
theorem szOb:(Tryz.prog.info? 25).map (·.size)=some 6:=by kernel_rfl
theorem nSlOb:notAgg prog 23=true:=by kernel_rfl
theorem nSlS5:notAgg prog 22=true:=by kernel_rfl
theorem nI65:notAgg prog 2=true:=by kernel_rfl
theorem nInt5:notAgg prog 3=true:=by kernel_rfl
theorem nStr5:notAgg prog 9=true:=by kernel_rfl
theorem fo_o0:fOff prog 25 0=some 0:=by kernel_rfl
theorem fo_o1:fOff prog 25 1=some 1:=by kernel_rfl
theorem fo_o2:fOff prog 25 2=some 2:=by kernel_rfl
theorem fo_o3:fOff prog 25 3=some 3:=by kernel_rfl
theorem fo_o4:fOff prog 25 4=some 4:=by kernel_rfl
theorem fo_o5:fOff prog 25 5=some 5:=by kernel_rfl
section
variable {w:World}{PK:PKT}{K:VWP}{S:Nat→Prop}{w0:World}{L:List Ent}
theorem fa_o0 {b off:Nat}:DoX prog (mFA 25 (.pointer (some ⟨b,off,none⟩)) 0) w PK K=K (.pointer (some ⟨b,off,none⟩)) w:=f_addr fo_o0
theorem fa_o1 {b off:Nat}:DoX prog (mFA 25 (.pointer (some ⟨b,off,none⟩)) 1) w PK K=K (.pointer (some ⟨b,off+1,none⟩)) w:=f_addr fo_o1
theorem fa_o2 {b off:Nat}:DoX prog (mFA 25 (.pointer (some ⟨b,off,none⟩)) 2) w PK K=K (.pointer (some ⟨b,off+2,none⟩)) w:=f_addr fo_o2
theorem fa_o3 {b off:Nat}:DoX prog (mFA 25 (.pointer (some ⟨b,off,none⟩)) 3) w PK K=K (.pointer (some ⟨b,off+3,none⟩)) w:=f_addr fo_o3
theorem fa_o4 {b off:Nat}:DoX prog (mFA 25 (.pointer (some ⟨b,off,none⟩)) 4) w PK K=K (.pointer (some ⟨b,off+4,none⟩)) w:=f_addr fo_o4
theorem fa_o5 {b off:Nat}:DoX prog (mFA 25 (.pointer (some ⟨b,off,none⟩)) 5) w PK K=K (.pointer (some ⟨b,off+5,none⟩)) w:=f_addr fo_o5
theorem o_obb (o:Ob){vk vc:Value}(hk:vk.oneCell'=true)(hc:vc.oneCell'=true)(ho:OwnS S w0 w L)(k:∀b w',OwnS S w0 w' (obE b o vk vc::L)→K (.pointer (some ⟨b,0,none⟩)) w'):DoX prog (mBox 25 (obV o vk vc)) w PK K:=by
 cases vk<;>first|(cases hk;done)|skip
 all_goals cases vc<;>first|(cases hc;done)|exact o_new (fun b=>.pointer (some ⟨b,0,none⟩)) (obC o _ _) 25 (fun _=>by kernel_rfl) ho k
def ob0:Ob:=.mk 0 0 0 [] [] []
theorem o_oba (ho:OwnS S w0 w L)(k:∀b w',OwnS S w0 w' (obE b ob0 (.slice none 0 0) (.slice none 0 0)::L)→K (.pointer (some ⟨b,0,none⟩)) w'):DoX prog (mAlloc 25) w PK K:=
 o_new (fun b=>.pointer (some ⟨b,0,none⟩)) (obC ob0 (.slice none 0 0) (.slice none 0 0)) 25 (fun _=>by kernel_rfl) ho k
theorem obC_one (o:Ob){vk vc:Value}(hk:vk.oneCell'=true)(hc:vc.oneCell'=true):∀v∈obC o vk vc,v.oneCell'=true:=by
 intro v hv;simp only[obC,List.mem_cons,List.not_mem_nil,or_false] at hv;rcases hv with rfl|rfl|rfl|rfl|rfl|rfl<;>first|rfl|assumption
theorem ob_put (i:Nat){b:Nat}{o o':Ob}{vk vc vk' vc':Value}(hk:vk'.oneCell'=true)(hc:vc'.oneCell'=true)(ho:OwnS S w0 w L)(hi:L[i]?=some (obE b o vk vc))(k:∀w',OwnS S w0 w' (L.set i (obE b o' vk' vc'))→K undef w') :
  DoX prog (mStore 25 (.pointer (some ⟨b,0,none⟩)) (obV o' vk' vc')) w PK K:=o_put i ho hi (new:=obC o' vk' vc') szOb (obC_one o' hk hc) rfl k
theorem ob_k (ho:OwnS S w0 w L)(i:Nat){b:Nat}{o:Ob}{vk vc:Value}(hi:L[i]?=some (obE b o vk vc)):DoX prog (mLoad 3 (.pointer (some ⟨b,0,none⟩))) w PK K=K (.int .i64 o.k) w:=l_cell nInt5 (ho.cell i hi 0 rfl)
theorem ob_n (ho:OwnS S w0 w L)(i:Nat){b:Nat}{o:Ob}{vk vc:Value}(hi:L[i]?=some (obE b o vk vc)):DoX prog (mLoad 2 (.pointer (some ⟨b,0+1,none⟩))) w PK K=K (.int .i64 o.n) w:=l_cell nI65 (ho.cell i hi 1 rfl)
theorem ob_g (ho:OwnS S w0 w L)(i:Nat){b:Nat}{o:Ob}{vk vc:Value}(hi:L[i]?=some (obE b o vk vc)):DoX prog (mLoad 3 (.pointer (some ⟨b,0+2,none⟩))) w PK K=K (.int .i64 o.g) w:=l_cell nInt5 (ho.cell i hi 2 rfl)
theorem ob_s (ho:OwnS S w0 w L)(i:Nat){b:Nat}{o:Ob}{vk vc:Value}(hi:L[i]?=some (obE b o vk vc)):DoX prog (mLoad 9 (.pointer (some ⟨b,0+3,none⟩))) w PK K=K (.string ⟨o.s.toArray⟩) w:=l_cell nStr5 (ho.cell i hi 3 rfl)
theorem ob_keys (ho:OwnS S w0 w L)(i:Nat){b:Nat}{o:Ob}{vk vc:Value}(hi:L[i]?=some (obE b o vk vc)):DoX prog (mLoad 22 (.pointer (some ⟨b,0+4,none⟩))) w PK K=K vk w:=l_cell nSlS5 (ho.cell i hi 4 rfl)
theorem ob_kids (ho:OwnS S w0 w L)(i:Nat){b:Nat}{o:Ob}{vk vc:Value}(hi:L[i]?=some (obE b o vk vc)):DoX prog (mLoad 23 (.pointer (some ⟨b,0+5,none⟩))) w PK K=K vc w:=l_cell nSlOb (ho.cell i hi 5 rfl)
theorem ob_v (ho:OwnS S w0 w L)(i:Nat){b:Nat}{o:Ob}{vk vc:Value}(hi:L[i]?=some (obE b o vk vc)):DoX prog (mLoad 25 (.pointer (some ⟨b,0,none⟩))) w PK K=K (obV o vk vc) w:=l_at (ho.agg i hi aggOb)
theorem ob_ia {A:Nat→Prop}{vc:Value}{os:List Ob}{cs:List Value}{K:VWP}{PK2:PKT}(hs:Sl w vc 6 os.length cs)(hall:OVs A w cs os){i:Nat}(hi:i < os.length)
  (k:∀v,OV A w v os[i]→K v w):DoX prog (mIA 23 vc (.int .i64 (i:Int))) w PK fun t w=>DoX prog (mLoad 25 t) w PK2 K:=by
 obtain⟨b,off,cap,rfl,hc⟩:=sl_open hs (by omega);refine do_eq (run_ia Tryz.underlying23 szOb (by omega) (by omega)) |>.mpr ?_;rw[Int.toNat_natCast];obtain⟨a,hl,hov,hget⟩:=OVs.get os cs i hi hall;refine do_eq (run_load_at (v:=.agg a.toArray) (AtV.agg aggOb hl fun j v hj=>?_)) |>.mpr (k _ hov);rw[Nat.add_assoc];exact hc _ _ (hget j v hj)
end
end
section
open Eng
def S_foliantref05_Size_1 (t3 t27 t28 t29:Value)(w:World)(N2:List Value→World→Prop)(K:Ending→World→Prop):Prop:=
 DoX prog (mBin .lss 3 t29 t28) w (pk K) fun t30 w=>
 IfX t30 (DoX prog (mIA 23 t27 t29) w (pk K) fun t31 w=>
 DoX prog (mLoad 25 t31) w (pk K) fun t32 w=>
 DoX prog (mAlloc 25) w (pk K) fun t7 w=>
 DoX prog (mStore 25 t7 t32) w (pk K) fun _ w=>
 DoX prog (mLoad 25 t7) w (pk K) fun t34 w=>
 CallX prog 7 #[t34] w (pk K) fun t35 w=>
 DoX prog (mBin .add 3 t3 t35) w (pk K) fun t36 w=>
 DoX prog (mBin .add 3 t29 (.int .i64 1)) w (pk K) fun t37 w=>
 N2 [t36,t37] w) (K (.returned t3) w)
def S_foliantref05_Size_0 (t1 t3 t14 t15 t16:Value)(w:World)(N1:List Value→World→Prop)(K:Ending→World→Prop):Prop:=
 DoX prog (mBin .lss 3 t16 t15) w (pk K) fun t17 w=>
 IfX t17 (DoX prog (mIA 22 t14 t16) w (pk K) fun t18 w=>
 DoX prog (mLoad 9 t18) w (pk K) fun t19 w=>
 DoX prog (mB .len #[9] 3 #[false] #[t19]) w (pk K) fun t22 w=>
 DoX prog (mBin .quo 3 t22 (.int .i64 50)) w (pk K) fun t23 w=>
 DoX prog (mBin .add 3 t3 t23) w (pk K) fun t24 w=>
 DoX prog (mBin .add 3 t16 (.int .i64 1)) w (pk K) fun t25 w=>
 N1 [t24,t25] w) (DoX prog (mFA 25 t1 5) w (pk K) fun t26 w=>
 DoX prog (mLoad 23 t26) w (pk K) fun t27 w=>
 DoX prog (mB .len #[23] 3 #[false] #[t27]) w (pk K) fun t28 w=>
 LoopX [t3,(.int .i64 0)] w (fun vs2 w N2=>∀_:Sg,S_foliantref05_Size_1 (vs2.getD 0 undef) t27 t28 (vs2.getD 1 undef) w N2 K))
def S_foliantref05_Size (t0:Value)(w:World)(K:Ending→World→Prop):Prop:=
 DoX prog (mBox 25 t0) w (pk K) fun t1 w=>
 DoX prog (mFA 25 t1 3) w (pk K) fun t8 w=>
 DoX prog (mLoad 9 t8) w (pk K) fun t9 w=>
 DoX prog (mB .len #[9] 3 #[false] #[t9]) w (pk K) fun t10 w=>
 DoX prog (mBin .quo 3 t10 (.int .i64 50)) w (pk K) fun t11 w=>
 DoX prog (mBin .add 3 (.int .i64 1) t11) w (pk K) fun t12 w=>
 DoX prog (mFA 25 t1 4) w (pk K) fun t13 w=>
 DoX prog (mLoad 22 t13) w (pk K) fun t14 w=>
 DoX prog (mB .len #[22] 3 #[false] #[t14]) w (pk K) fun t15 w=>
 LoopX [t12,(.int .i64 0)] w (fun vs1 w N1=>∀_:Sg,S_foliantref05_Size_0 t1 (vs1.getD 0 undef) t14 t15 (vs1.getD 1 undef) w N1 K)
theorem S_foliantref05_Size_eq (t0:Value)(w:World)(K:Ending→World→Prop):wpX prog 39 [] [(3,[3,16]),(8,[3,29])] none (bodyOf Tryz.f7) (topQ prog [.tmp 2] K) (startX [t0]) [] w=S_foliantref05_Size t0 w K:=by kernel_rfl
theorem S_foliantref05_Size_ok {t0:Value}{w:World}{K:Ending→World→Prop}(h:S_foliantref05_Size t0 w K):Calls prog 7 #[t0] w K:=
 calls_of_wpX Tryz.func7 rfl rfl rfl rfl (Eq.mpr (S_foliantref05_Size_eq t0 w K) h)
end
end Go.Proofs.YtkejpieaafeblaaGreatDoor


namespace Go.Proofs.YtkejpieaafeblaaGreatDoor
section
open Eng Go.RowKit
theorem body_prefix (s:List UInt8):Fx.minus s=([45]:List UInt8).isPrefixOf s∧Fx.body s=(if ([45]:List UInt8).isPrefixOf s||([43]:List UInt8).isPrefixOf s then s.drop 1 else s)∧(([45]:List UInt8).isPrefixOf s||([43]:List UInt8).isPrefixOf s→1≤s.length):=by
 cases s with
|nil=>exact⟨rfl,rfl,fun h=>(by cases h)⟩
|cons c t=>
  have e1:([45]:List UInt8).isPrefixOf (c::t)=decide (c=45):=by
   simp only[List.isPrefixOf,Bool.and_true];by_cases h:c=45
   ·subst h;rfl
   ·rw[decide_eq_false h];simp;exact fun e=>h e.symm
  have e2:([43]:List UInt8).isPrefixOf (c::t)=decide (c=43):=by
   simp only[List.isPrefixOf,Bool.and_true];by_cases h:c=43
   ·subst h;rfl
   ·rw[decide_eq_false h];simp;exact fun e=>h e.symm
  rw[e1,e2];refine⟨rfl,?_,fun _=>by simp⟩;rw[Fx.body];by_cases h1:c=45<;>by_cases h2:c=43<;>simp[h1,h2]
theorem iterPos_obj {w0 w:World}{L:List Ent}(h:Own w0 w L)(i:Nat){b:Nat}{s:ByteArray}{p:Nat}(hi:L[i]?=some (.obj b (.stringIter s p))):w.iterPos b=p:=by
 have:w.heap[b]?=some (.stringIter s p):=h.at_ i hi;simp[World.iterPos,this]
theorem read3_any (w0 w:World)(b1 b2:Nat)(m:Int)(neg:Bool)(h0:0≤m)(h1:m≤1152921504606846976)(h:Own w0 w [.cells b2 [.int .i64 0] 30,.cells b1 [.int .i64 m] 2])(K:Ending→World→Prop)
  (hk:∀w',Below w0.heap.size w0 w'→K (.returned (pair (Fx.ans (if neg then -m else m)))) w') :
  S_fix_Read_3 (.pointer (some ⟨b1,0,none⟩)) (.pointer (some ⟨b2,0,none⟩)) (.bool neg) w K:=by
 rw[S_fix_Read_3];refine join fun J hJ=>?_;have fin:∀(q:Int) (w1:World),q=(if neg then -m else m)→Own w0 w1 [.cells b2 [.int .i64 0] 30,.cells b1 [.int .i64 q] 2]→J [] w1:=by
  intro q w1 hq ho;refine hJ _ _ fun _=>?_;rw[S_fix_Read_4,l_cell (show notAgg prog 2=true by kernel_rfl) (ho.cell 1 rfl 0 rfl)];refine o_new (fun b=>.slice (some ⟨b,0,none⟩) 1 1) [.int .i64 q] 2 (fun _=>by kernel_rfl) ho fun b3 w3 h3=>?_;refine c_any (bounded_any _ [q] w3 (h3.sl 0 rfl 1 1 1 rfl) (by simp) _ (fun hok=>?_) (fun hbad=>?_)) (fun _ _ h=>h)
  ·have hok':Fx.okB q=true:=by simpa using hok
   simp only[Cont];rw[l_cell (show notAgg prog 2=true by kernel_rfl) (h3.cell 2 rfl 0 rfl)];refine o_store 2 h3 rfl (by kernel_rfl) rfl (by simp) fun w4 h4=>?_;refine o_store 1 h4 rfl (by kernel_rfl) rfl (by simp) fun w5 h5=>?_;refine door_ok 2 1 h5 rfl rfl K (fun w' hb=>?_);have:=hk w' hb;rw[←hq,Fx.ans,if_pos hok'] at this;exact this
  ·have hbad':Fx.okB q=false:=by simpa using hbad
   refine door_bad h3.tail K (fun w' hb=>?_);have:=hk w' hb;rw[←hq,Fx.ans,hbad'] at this;exact this
 cases neg with
|true=>
  simp only[rs,l_cell (show notAgg prog 2=true by kernel_rfl) (h.cell 1 rfl 0 rfl)];rw[wrap64_id (by omega) (by omega)];refine o_store 1 h rfl (by kernel_rfl) rfl (by simp) fun w4 h4=>?_;exact AtX.mk rfl (fin (-m) w4 rfl h4)
|false=>
  simp only[rs];exact AtX.mk rfl (fin m w rfl h)
theorem pread_ret (s:List UInt8)(w:World)(hs:s.length≤4611686018427387904):Ret prog 124 #[.string ⟨s.toArray⟩] w (fun v w'=>v=pair (Fx.read s)∧Below w.heap.size w w'):=by
 refine ret_of fun K hK=>S_fix_Read_ok ?_;unfold S_fix_Read;refine o_new (fun b=>.pointer (some ⟨b,0,none⟩)) [.int .i64 0] 2 (fun _=>by kernel_rfl) (Own.start w) fun b1 w1 h1=>?_;refine o_new (fun b=>.pointer (some ⟨b,0,none⟩)) [.int .i64 0] 30 (fun _=>by kernel_rfl) h1 fun b2 w2 h2=>?_;simp only[s_len Tryz.underlying9,rs];have bad3:Fx.form s=false→∀w',Below w.heap.size w w'→K (.returned (.tuple #[.int .i64 0,.int .i64 3])) w':=by
  intro hf w' hb;exact hK _ _ ⟨by rw[Fx.read,hf];rfl,hb⟩
 by_cases h40:(40:Int) < (s.length:Int)
 ·simp only[h40,decide_true,rs];refine o_store 1 h2 rfl (by kernel_rfl) rfl (by simp) fun w4 h4=>?_;refine o_store 0 h4 rfl (by kernel_rfl) rfl (by simp) fun w5 h5=>?_;refine door_ok 1 0 h5 rfl rfl K (bad3 ?_);rw[Fx.form,decide_eq_false (by omega),Bool.false_and,Bool.false_and,Bool.false_and]
 ·simp only[h40,decide_false,rs];obtain⟨hmin,hbody,hpos⟩:=body_prefix s;refine c_ret (hasPrefix_ret s [45] w2) ?_;rintro v w3 ⟨rfl,rfl⟩;have hlen:(Fx.body s).length≤s.length:=by
   rw[hbody];split
   ·rw[List.length_drop];omega
   ·omega
  have main:S_fix_Read_0 (.string ⟨(Fx.body s).toArray⟩) (.pointer (some ⟨b1,0,none⟩)) (.pointer (some ⟨b2,0,none⟩)) (.bool (Fx.minus s)) w2 K:=by
   rw[S_fix_Read_0];have hcut:Ret prog 175 #[.string ⟨(Fx.body s).toArray⟩,.string ⟨#[46]⟩] w2 (fun v w'=>(∃b,v=.tuple #[.string ⟨(Fx.whole (Fx.body s)).toArray⟩,.string ⟨(Fx.part (Fx.body s)).toArray⟩,.bool b])∧Below w2.heap.size w2 w'):=cut_ret (Fx.body s) 46 w2 (by omega);refine c_ret hcut ?_;rintro v w3 ⟨⟨fnd,rfl⟩,b3⟩;have hform:Fx.form s=((Fx.whole (Fx.body s)).all Fx.isDig&&(Fx.part (Fx.body s)).all Fx.isDig&&decide (0 < (Fx.whole (Fx.body s)).length+(Fx.part (Fx.body s)).length)):=by
    rw[Fx.form,decide_eq_true (show s.length≤40 by omega),Bool.true_and]
   have hread:Fx.form s=true→Fx.read s=if Fx.val 0 (Fx.whole (Fx.body s))>1073741824 then (0,2) else Fx.ans (if Fx.minus s then - Fx.mag s else Fx.mag s):=fun h=>by rw[Fx.read,if_pos h]
   have hmag:Fx.mag s=Fx.val (Fx.val 0 (Fx.whole (Fx.body s))) (Fx.four (Fx.part (Fx.body s)))+(if Fx.more ((Fx.part (Fx.body s)).drop 4) (Fx.minus s) then 1 else 0):=rfl;have hwl:(Fx.whole (Fx.body s)).length≤(Fx.body s).length:=by
    have:=(List.takeWhile_sublist (fun c=>c != 46) (l:=Fx.body s)).length_le;exact this
   have hpl:(Fx.part (Fx.body s)).length≤(Fx.body s).length:=by
    have:=(List.dropWhile_sublist (fun c=>c != 46) (l:=Fx.body s)).length_le;rw[Fx.part,List.length_drop];omega
   generalize Fx.whole (Fx.body s)=wh at *;generalize Fx.part (Fx.body s)=part at *;simp only[ex];rw[s_add (by omega)];have h3:=h2.grow b3;simp only[rs];have good:Fx.form s=true→∀w4,Own w w4 [.cells b2 [.int .i64 0] 30,.cells b1 [.int .i64 0] 2] →
     DoX prog (mRange 9 (.string ⟨wh.toArray⟩)) w4 (S_fix_Read_p0 (.pointer (some ⟨b1,0,none⟩)) (.pointer (some ⟨b2,0,none⟩)) K) fun t46 ww=>
     LoopX [] ww (fun vs2 w N2=>∀_:Sg,S_fix_Read_1 (.pointer (some ⟨b1,0,none⟩)) (.pointer (some ⟨b2,0,none⟩)) (.bool (Fx.minus s)) (.string ⟨part.toArray⟩) t46 w N2 K):=by
    intro hf w4 h4;have hread2:=hread hf;have hdw:wh.all Fx.isDig=true∧part.all Fx.isDig=true:=by
     rw[hform] at hf;simp only[Bool.and_eq_true] at hf;exact hf.1
    refine o_range Tryz.underlying9 h4 fun b5 w5 h5=>?_;refine loop (fun vs w'=>∃k:Nat,k≤wh.length∧vs=[]∧Fx.val 0 (wh.take k)≤1073741824∧Own w w' [.obj b5 (.stringIter ⟨wh.toArray⟩ k),.cells b2 [.int .i64 0] 30,.cells b1 [.int .i64 (Fx.val 0 (wh.take k))] 2])
     (fun vs w'=>wh.length - w'.iterPos b5) ⟨0,by omega,rfl,by simp[Fx.val],h5⟩ ?_
    rintro vs w6 ⟨k,hk,rfl,hv,ho⟩ _;have hip:=iterPos_obj ho 0 rfl;rw[S_fix_Read_1];have hv0:=Fx.val_ge (wh.take k) 0 (by
     rw[List.all_eq_true];exact fun x hx=>List.all_eq_true.1 hdw.1 x (List.mem_of_mem_take hx)) (by omega)
    by_cases hlt:k < wh.length
    ·have hdg:=Fx.isDig_bd (List.all_eq_true.1 hdw.1 wh[k] (List.getElem_mem hlt));refine o_next 0 ho rfl (List.getElem?_eq_getElem hlt) (by omega) fun w7 h7=>?_;simp only[ex,rs,l_cell (show notAgg prog 2=true by kernel_rfl) (h7.cell 2 rfl 0 rfl)];rw[wrap32_id (by omega) (by omega),c_int (show (Tryz.prog.underlying 21).isSome=true by kernel_rfl) Tryz.underlying2];simp only[rs];rw[wrap64_id (n:=((wh[k].toNat:Nat):Int) - 48) (by omega) (by omega),wrap64_id (n:=10*_) (by omega) (by omega),wrap64_id (by omega) (by omega)];refine o_store 2 h7 rfl (by kernel_rfl) rfl (by simp) fun w8 h8=>?_;rw[l_cell (show notAgg prog 2=true by kernel_rfl) (h8.cell 2 rfl 0 rfl)];simp only[rs];have hvt:=Fx.val_take 0 wh k hlt;by_cases hbig:(1073741824:Int) < 10*Fx.val 0 (wh.take k)+((wh[k].toNat:Int) - 48)
     ·simp only[hbig,decide_true,rs];refine o_store 2 h8 rfl (by kernel_rfl) rfl (by simp) fun w9 h9=>?_;refine o_store 1 h9 rfl (by kernel_rfl) rfl (by simp) fun wa ha=>?_;refine door_ok 2 1 ha rfl rfl K (fun w' hb=>hK _ _ ⟨?_,hb⟩);have hge:=Fx.val_ge (wh.drop (k+1)) (Fx.val 0 (wh.take (k+1))) (by
       rw[List.all_eq_true];exact fun x hx=>List.all_eq_true.1 hdw.1 x (List.mem_of_mem_drop hx)) (by omega)
      rw[←Fx.val_append,List.take_append_drop] at hge;rw[hread2,if_pos (by omega)]
     ·simp only[hbig,decide_false,rs];refine AtX.mk rfl (nextX ⟨k+1,by omega,rfl,by omega,?_⟩ ?_)
      ·rw[hvt];exact h8
      ·show wh.length - w8.iterPos b5 < wh.length - w6.iterPos b5;rw[hip,iterPos_obj h8 0 rfl];omega
    ·rw[o_next_end 0 ho rfl (by omega)];simp only[ex,rs];have hke:wh.take k=wh:=List.take_of_length_le (by omega);rw[hke] at ho hv hv0;rw[s_add (b:=[48,48,48,48,48]) (by simp;omega),s_upto Tryz.underlying9 (by omega) (by simp;omega)];rw[show (4:Int).toNat=4 from rfl,Fx.four_five];rw[if_neg (by omega)] at hread2;have h4d:=Fx.four_all hdw.2;have h4l:=Fx.four_length part;have hval4:=Fx.val4 (Fx.four part) (Fx.val 0 wh) h4l h4d;refine o_range Tryz.underlying9 (ho.tail) fun b7 w7 h7=>?_;generalize Fx.val 0 wh=V at *;generalize hfr:Fx.four part=fr at *;refine loop (fun vs w'=>∃k:Nat,k≤fr.length∧vs=[]∧Own w w' [.obj b7 (.stringIter ⟨fr.toArray⟩ k),.cells b2 [.int .i64 0] 30,.cells b1 [.int .i64 (Fx.val V (fr.take k))] 2])
      (fun vs w'=>fr.length - w'.iterPos b7) ⟨0,by omega,rfl,h7⟩ ?_
     rintro vs w8 ⟨j,hj,rfl,ho2⟩ _;have hip2:=iterPos_obj ho2 0 rfl;rw[S_fix_Read_2];by_cases hjt:j < fr.length
     ·have hdg:=Fx.isDig_bd (List.all_eq_true.1 h4d fr[j] (List.getElem_mem hjt));have hvj0:=Fx.val_ge (fr.take j) V (by
       rw[List.all_eq_true];exact fun x hx=>List.all_eq_true.1 h4d x (List.mem_of_mem_take hx)) hv0
      have hvj1:=Fx.val_ge (fr.drop j) (Fx.val V (fr.take j)) (by
       rw[List.all_eq_true];exact fun x hx=>List.all_eq_true.1 h4d x (List.mem_of_mem_drop hx)) (by omega)
      rw[←Fx.val_append,List.take_append_drop] at hvj1;refine o_next 0 ho2 rfl (List.getElem?_eq_getElem hjt) (by omega) fun w9 h9=>?_;simp only[ex,rs,l_cell (show notAgg prog 2=true by kernel_rfl) (h9.cell 2 rfl 0 rfl)];rw[wrap32_id (by omega) (by omega),c_int (show (Tryz.prog.underlying 21).isSome=true by kernel_rfl) Tryz.underlying2];simp only[rs];rw[wrap64_id (n:=((fr[j].toNat:Nat):Int) - 48) (by omega) (by omega),wrap64_id (n:=10*_) (by omega) (by omega),wrap64_id (by omega) (by omega)];refine o_store 2 h9 rfl (by kernel_rfl) rfl (by simp) fun wa ha=>?_;refine AtX.mk rfl (nextX ⟨j+1,by omega,rfl,?_⟩ ?_)
      ·rw[Fx.val_take V fr j hjt];exact ha
      ·show fr.length - wa.iterPos b7 < fr.length - w8.iterPos b7;rw[hip2,iterPos_obj ha 0 rfl];omega
     ·rw[o_next_end 0 ho2 rfl (by omega)];simp only[ex,rs];have hje:fr.take j=fr:=List.take_of_length_le (by omega);rw[hje] at ho2;rw[s_from Tryz.underlying9 (by omega) (by simp;omega),show (4:Int).toNat=4 from rfl];have htr:Ret prog 177 #[.string ⟨((part++[48,48,48,48,48]).drop 4).toArray⟩,.string ⟨#[48]⟩] w8 (fun v w'=>v=.string ⟨(Fx.tr (part.drop 4)).toArray⟩∧w8=w'):=by
       rw[←Fx.tr_drop];exact trimRight_ret _ 48 (by decide) w8 (by rw[List.length_drop];simp;omega)
      refine c_ret htr ?_;rintro v w9 ⟨rfl,rfl⟩;have hmr:=Fx.more_tr (part.drop 4) (Fx.minus s) (by
       rw[List.all_eq_true];exact fun x hx=>List.all_eq_true.1 hdw.2 x (List.mem_of_mem_drop hx))
      generalize Fx.tr (part.drop 4)=r at *;generalize Fx.more (part.drop 4) (Fx.minus s)=more at *;refine join fun J hJ=>?_;have fin:∀(m:Int) (wb:World),m=Fx.mag s→Own w wb [.obj b7 (.stringIter ⟨fr.toArray⟩ j),.cells b2 [.int .i64 0] 30,.cells b1 [.int .i64 m] 2]→J [] wb:=by
       intro m wb hm hob;refine hJ _ _ fun _=>?_;have hm01:m=Fx.val V fr∨m=Fx.val V fr+1:=by
        rw[hm,hmag];cases more<;>simp
       refine read3_any w wb b1 b2 m (Fx.minus s) (by omega) (by omega) hob.tail K (fun w' hb=>hK _ _ ⟨?_,hb⟩);rw[hread2,hm]
      have wayT:more=true→DoX prog (mLoad 2 (.pointer (some ⟨b1,0,none⟩))) w8 (S_fix_Read_p0 (.pointer (some ⟨b1,0,none⟩)) (.pointer (some ⟨b2,0,none⟩)) K) fun t88 ww=>
        DoX prog (mBin .add 2 t88 (.int .i64 1)) ww (S_fix_Read_p0 (.pointer (some ⟨b1,0,none⟩)) (.pointer (some ⟨b2,0,none⟩)) K) fun t89 ww=>
        DoX prog (mStore 2 (.pointer (some ⟨b1,0,none⟩)) t89) ww (S_fix_Read_p0 (.pointer (some ⟨b1,0,none⟩)) (.pointer (some ⟨b2,0,none⟩)) K) fun _ ww=>
        AtX [{ target:=.fn (.func 174) #[],args:=#[.pointer (some ⟨b1,0,none⟩),.pointer (some ⟨b2,0,none⟩)] }] [{ target:=.fn (.func 174) #[],args:=#[.pointer (some ⟨b1,0,none⟩),.pointer (some ⟨b2,0,none⟩)] }] (J [] ww):=by
       intro hmo;rw[l_cell (show notAgg prog 2=true by kernel_rfl) (ho2.cell 2 rfl 0 rfl)];simp only[rs];rw[wrap64_id (by omega) (by omega)];refine o_store 2 ho2 rfl (by kernel_rfl) rfl (by simp) fun wb hb=>?_;exact AtX.mk rfl (fin (Fx.val V fr+1) wb (by rw[hmag,hmo];rfl) hb)
      have wayF:more=false→J [] w8:=by
       intro hmo;exact fin (Fx.val V fr) w8 (by rw[hmag,hmo];simp) ho2
      cases hn:Fx.minus s with
     |true=>
       rw[hn] at hmr;simp only[if_true] at hmr;simp only[rs];rw[←hmr];cases more with
      |true=>simp only[rs,g_un];exact wayT rfl
      |false=>simp only[rs,g_un];exact AtX.mk rfl (wayF rfl)
     |false=>
       rw[hn] at hmr;simp only[Bool.false_eq_true,if_false] at hmr;simp only[rs];rw[←hmr];cases more with
      |true=>simp only[rs,g_un];exact wayT rfl
      |false=>simp only[rs,g_un];exact AtX.mk rfl (wayF rfl)
   have bad:Fx.form s=false→∀w4,Own w w4 [.cells b2 [.int .i64 0] 30,.cells b1 [.int .i64 0] 2] →
     DoX prog (mStore 2 (.pointer (some ⟨b1,0,none⟩)) (.int .i64 0)) w4 (S_fix_Read_p0 (.pointer (some ⟨b1,0,none⟩)) (.pointer (some ⟨b2,0,none⟩)) K) fun _ ww=>
     DoX prog (mStore 30 (.pointer (some ⟨b2,0,none⟩)) (.int .i64 3)) ww (S_fix_Read_p0 (.pointer (some ⟨b1,0,none⟩)) (.pointer (some ⟨b2,0,none⟩)) K) fun _ ww=>
     Leave prog [.cell (.pointer (some ⟨b1,0,none⟩)) 2,.cell (.pointer (some ⟨b2,0,none⟩)) 30] K [{ target:=.fn (.func 174) #[],args:=#[.pointer (some ⟨b1,0,none⟩),.pointer (some ⟨b2,0,none⟩)] }] .returning ww:=by
    intro hf w4 h4;refine o_store 1 h4 rfl (by kernel_rfl) rfl (by simp) fun w5 h5=>?_;refine o_store 0 h5 rfl (by kernel_rfl) rfl (by simp) fun w6 h6=>?_;exact door_ok 1 0 h6 rfl rfl K (bad3 hf)
   by_cases hemp:wh++part=[]
   ·simp only[e_str,hemp,decide_true,rs,g_un];refine bad ?_ _ h3;rw[hform];have:wh=[]∧part=[]:=by simpa using hemp
    rw[this.1,this.2];rfl
   ·simp only[e_str,hemp,decide_false,rs,g_un];have hne:0 < wh.length+part.length:=by
     rw[←List.length_append];exact List.length_pos_iff.2 hemp
    refine c_ret (pdigits_ret wh w3 (by omega)) ?_;rintro v w4 ⟨rfl,b4⟩;have h4:=h3.grow b4;cases hd1:wh.all Fx.isDig with
   |false=>
     simp only[rs,g_un];refine bad ?_ _ h4;rw[hform,hd1];rfl
   |true=>
     simp only[rs,g_un];refine c_ret (pdigits_ret part w4 (by omega)) ?_;rintro v w5 ⟨rfl,b5⟩;have h5:=h4.grow b5;cases hd2:part.all Fx.isDig with
    |false=>
      simp only[rs,g_un];refine bad ?_ _ h5;rw[hform,hd1,hd2];rfl
    |true=>
      simp only[rs,g_un];refine good ?_ _ h5;rw[hform,hd1,hd2,decide_eq_true hne];rfl
  refine join fun J hJ=>?_;have goJ:∀l:List UInt8,l=Fx.body s→J [.string ⟨l.toArray⟩] w2:=by
   intro l hl;refine hJ _ _ fun _=>?_;rw[hl,←hmin];exact main
  cases hm45:([45]:List UInt8).isPrefixOf s with
 |true=>
   rw[hm45,Bool.true_or,if_pos rfl] at hbody;simp only[rs,g_un];rw[s_from Tryz.underlying9 (by omega) (by have:=hpos (by rw[hm45];rfl);omega)];exact AtX.mk rfl (goJ (s.drop 1) hbody.symm)
 |false=>
   simp only[rs];refine c_ret (hasPrefix_ret s [43] w2) ?_;rintro v w4 ⟨rfl,rfl⟩;rw[hm45,Bool.false_or] at hbody;cases hm43:([43]:List UInt8).isPrefixOf s with
  |true=>
    rw[hm43,if_pos rfl] at hbody;simp only[rs];rw[s_from Tryz.underlying9 (by omega) (by have:=hpos (by rw[hm43,Bool.or_true]);omega)];exact AtX.mk rfl (goJ (s.drop 1) hbody.symm)
  |false=>
    rw[hm43] at hbody;simp only[rs];exact AtX.mk rfl (goJ s (by rw[hbody];simp))
end
end Go.Proofs.YtkejpieaafeblaaGreatDoor


namespace Go.Proofs.YtkejpieaafeblaaGreatDoor
section
open Eng Go.RowKit
theorem c_told {P:Program}{f:Nat}{args:Array Value}{w0 w:World}{L:List Ent}{PK:PKT}{K:VWP}{x y:Value}(h:Ret P f args w (fun v w'=>v=x∧Below w.heap.size w w'))(hx:x=y)(ho:Own w0 w L)
  (k:∀w',Own w0 w' L→K y w'):CallX P f args w PK K:=by
 refine c_ret h ?_;rintro v w' ⟨rfl,hb⟩;rw[hx];exact k _ (ho.grow hb)
end
section
namespace Eng
open Go.RowKit
def sel (c:Bool)(x:Value):Value:=bc c x undef
theorem sel_t {x:Value}:sel true x=x:=rfl
theorem sel_f {x:Value}:sel false x=undef:=rfl
section
variable {P:Program}{w:World}{PK:PKT}{K:VWP}
theorem g_move {v x:Value}{want:Bool}:GDo v want (fun E=>E x w) w K=K (sel (wants v want) x) w:=by
 refine propext ⟨fun h=>?_,fun h=>⟨?_⟩⟩
 ·have:=h.out;cases hw:wants v want<;>rw[hw] at this<;>exact this
 ·cases hw:wants v want<;>rw[hw] at h<;>exact h
theorem g_congr {v v':Value}{want c:Bool}{E E':(VWP)→Prop}(hv:v=v')(hc:wants v' want=c)(h:c=true→∀K0,E K0=E' K0):GDo v want E w K=GDo v' want E' w K:=by
 subst hv;refine propext ⟨fun x=>⟨?_⟩,fun x=>⟨?_⟩⟩
 ·have:=x.out;subst hc;cases hw:wants v want with
 |false=>rw[hw] at this;exact this
 |true=>rw[hw,bc_true] at this;rw[bc_true,←h hw];exact this
 ·have:=x.out;subst hc;cases hw:wants v want with
 |false=>rw[hw] at this;exact this
 |true=>rw[hw,bc_true] at this;rw[bc_true,h hw];exact this
theorem wants_t {b:Bool}:wants (.bool b) true=b:=by cases b<;>rfl
theorem wants_f {b:Bool}:wants (.bool b) false=!b:=by cases b<;>rfl
theorem wants_st {c y:Bool}:wants (sel c (.bool y)) true=(c&&y):=by cases c<;>cases y<;>rfl
theorem wants_sf {c y:Bool}:wants (sel c (.bool y)) false=(c&&!y):=by cases c<;>cases y<;>rfl
theorem b_tand {b:Bool}:(true&&b)=b:=rfl
theorem b_andt {b:Bool}:(b&&true)=b:=by cases b<;>rfl
theorem pick_and {b y:Bool}:DoX P (mPick (.bool b) (sel b (.bool y)) (.bool false)) w PK K=K (.bool (b&&y)) w:=by
 rw[p_pick];cases b<;>rfl
theorem pick_or {b y:Bool}:DoX P (mPick (.bool b) (.bool true) (sel (!b) (.bool y))) w PK K=K (.bool (b||y)) w:=by
 rw[p_pick];cases b<;>rfl
end
def gs:=And.intro @g_move (And.intro @wants_t (And.intro @wants_f (And.intro @pick_and (And.intro @pick_or (And.intro @sel_t (And.intro @sel_f (And.intro @wants_st (And.intro @wants_sf (And.intro @b_tand @b_andt)))))))))
end Eng
end
section
open Eng Go.RowKit
 attribute [local congr] g_congr
theorem e_nil {T:TypeId}{xo yo:Operand}{s:List UInt8}{w:World}{PK:PKT}{K:VWP}:DoX prog (mEq .eql T xo yo (.string ⟨s.toArray⟩) (.string ⟨#[]⟩)) w PK K=K (.bool (decide (s=[]))) w:=e_str (b:=[])
theorem ilen0 {α:Type}(l:List α):decide (((l.length:Nat):Int)=0)=decide (l=[]):=by cases l<;>simp;omega
theorem ilenN {α:Type}(l:List α):decide (((l.length:Nat):Int)=0)=decide (l.length=0):=by rw[decide_eq_decide];omega
end
section
namespace Eng
open Go.RowKit
theorem sel_sel {c:Bool}{x:Value}:sel c (sel c x)=sel c x:=by cases c<;>rfl
theorem g_off {v:Value}{want:Bool}{E:(VWP)→Prop}{w:World}{K:VWP}(h:wants v want=false):GDo v want E w K=K undef w:=by
 refine propext ⟨fun x=>?_,fun x=>⟨?_⟩⟩
 ·have:=x.out;rw[h] at this;exact this
 ·rw[h];exact x
theorem pick_orn {P:Program}{b y:Bool}{w:World}{PK:PKT}{K:VWP}:DoX P (mPick (.bool (!b)) (.bool true) (sel b (.bool y))) w PK K=K (.bool (!b||y)) w:=by
 rw[p_pick];cases b<;>rfl
end Eng
end
section
open Eng Go.RowKit
 attribute [local congr] g_congr
theorem ObAt.in_ {w0 w:World}{L:List Ent}{o:Ob}{vk vc:Value}{cs:List Value}(h:ObAt (InW w0) w0 o vk vc cs)(ho:Own w0 w L):ObAt (InW w) w o vk vc cs:=by
 have hk:=h.own ho;exact⟨⟨hk.keys.1,(fun p l c e hn=>Nat.lt_of_lt_of_le (hk.keys.2.1 p l c e hn) ho.size),hk.keys.2.2⟩,⟨hk.kids.1,(fun p l c e hn=>Nat.lt_of_lt_of_le (hk.kids.2.1 p l c e hn) ho.size),hk.kids.2.2⟩,OVs.mono (fun _ hb=>Nat.lt_of_lt_of_le hb ho.size) _ _ hk.all⟩
theorem range_all_succ {p:Nat→Bool}(n:Nat):(List.range (n+1)).all p=((List.range n).all p&&p n):=by
 rw[List.range_succ,List.all_append];simp
theorem range_all_not {p:Nat→Bool}{n m:Nat}(hp:p n=false)(hn:n < m):(List.range m).all p=false:=by
 rw[←Bool.not_eq_true];intro h;have:=List.all_eq_true.1 h n (List.mem_range.2 hn);rw[hp] at this;cases this
theorem run_kid_k {A:Nat→Prop}{w:World}{vc:Value}{os:List Ob}{cs:List Value}(hs:Sl w vc 6 os.length cs)(hall:OVs A w cs os){i:Nat}(hi:i < os.length) :
  ∃b off,(∀{PK:PKT} {K:VWP},DoX prog (mIA 23 vc (.int .i64 (i:Int))) w PK K=K (.pointer (some ⟨b,off,none⟩)) w)∧w.cell? ⟨b,off,none⟩=some (.int .i64 os[i].k):=by
 obtain⟨b,off,cap,rfl,hc⟩:=sl_open hs (by omega);obtain⟨a,hl,hov,hget⟩:=OVs.get os cs i hi hall;refine⟨b,off+i*6,?_,?_⟩
 ·intro PK K;have:=run_ia (P:=prog) (T:=23) (b:=b) (off:=off) (cap:=cap) (n:=os.length) (k:=.i64) (i:=(i:Int)) (w:=w) Tryz.underlying23 szOb (by omega) (by omega);rw[Int.toNat_natCast] at this;exact do_eq this
 ·obtain⟨vk,vc',cs',hv,_⟩:=hov.open;have e:a=obC os[i] vk vc':=by
   injection hv with hv
   have:=congrArg Array.toList hv;simpa using this
  have:=hc (i*6+0) _ (hget 0 (.int .i64 os[i].k) (by rw[e];rfl));simpa using this
end
section
open Eng Go.RowKit
 attribute [local congr] g_congr
theorem OwnS.kept2 {w0 w2 w4:World}{L2 L4:List Ent}(h2:Own w0 w2 L2)(h4:Own w0 w4 L4):Kept (InW w0) w2 w4:=fun b hb=>(h4.done.block b hb).trans (h2.done.block b hb).symm
theorem ObAt.later {w0 w2 w4:World}{L2 L4:List Ent}{o:Ob}{vk vc:Value}{cs:List Value}(h:ObAt (InW w0) w2 o vk vc cs)(h2:Own w0 w2 L2)(h4:Own w0 w4 L4):ObAt (InW w4) w4 o vk vc cs:=by
 have hk:=h.kept (OwnS.kept2 h2 h4);exact⟨⟨hk.keys.1,(fun p l c e hn=>Nat.lt_of_lt_of_le (hk.keys.2.1 p l c e hn) h4.size),hk.keys.2.2⟩,⟨hk.kids.1,(fun p l c e hn=>Nat.lt_of_lt_of_le (hk.kids.2.1 p l c e hn) h4.size),hk.kids.2.2⟩,OVs.mono (fun _ hb=>Nat.lt_of_lt_of_le hb h4.size) _ _ hk.all⟩
theorem tot_mem:∀{l:List (List UInt8)} {k:List UInt8},k∈l→k.length≤Pl.tot l
|a::l,k,h=>by
  simp only[Pl.tot,List.map_cons,List.sum_cons];rcases List.mem_cons.1 h with rfl|h
  ·omega
  ·have:=tot_mem h;simp only[Pl.tot] at this;omega
theorem wts_mem:∀{l:List Ob} {o:Ob},o∈l→o.wt≤Ob.wts l
|a::l,o,h=>by
  rw[Ob.wts];rcases List.mem_cons.1 h with rfl|h
  ·omega
  ·have:=wts_mem h;omega
theorem Ob.wt_eq (o:Ob):o.wt=6+o.s.length+Pl.tot o.keys+Ob.wts o.kids:=by cases o;rw[Ob.wt];rfl
theorem Ob.wt_pos (o:Ob):6≤o.wt:=by rw[o.wt_eq];omega
theorem wts_len:∀l:List Ob,l.length*6≤Ob.wts l
|[]=>by simp
|a::l=>by
  have:=wts_len l;have:=a.wt_pos;rw[Ob.wts,List.length_cons];omega
theorem kid_wt {o:Ob}{i:Nat}(hi:i < o.kids.length):o.kids[i].wt < o.wt:=by
 have:=wts_mem (List.getElem_mem hi);rw[o.wt_eq];omega
theorem checks_drop (d:Nat)(l:List Ob)(i:Nat)(hi:i < l.length):Vl.checks d (l.drop i)=if Vl.check d l[i]≠0 then Vl.check d l[i] else Vl.checks d (l.drop (i+1)):=by
 rw[List.drop_eq_getElem_cons hi,Vl.checks]
theorem key_len {o:Ob}:o.keys.length≤o.wt:=by
 have h:∀l:List (List UInt8),l.length≤Pl.tot l:=by
  intro l
  induction l with
 |nil=>simp
 |cons a l ih=>simp only[Pl.tot,List.map_cons,List.sum_cons,List.length_cons] at ih ⊢;omega
 have:=h o.keys;rw[o.wt_eq];omega
theorem kids_len {o:Ob}:o.kids.length≤o.wt:=by
 have:=wts_len o.kids;rw[o.wt_eq];omega
theorem s_len05 {o:Ob}:o.s.length≤o.wt:=by rw[o.wt_eq];omega
theorem keys_mem {o:Ob}{k:List UInt8}(h:k∈o.keys):k.length≤o.wt:=by
 have:=tot_mem h;rw[o.wt_eq];omega
theorem why_pos {d:Nat}{o:Ob}(h:Vl.why d o≠0):Vl.check d o=Vl.why d o:=by rw[Vl.check_eq,if_pos h]
theorem sizes_drop (l:List Ob)(i:Nat)(hi:i < l.length):Vl.sizes (l.take (i+1))=Vl.sizes (l.take i)+Vl.size l[i]:=by
 have h:∀(l:List Ob) (o:Ob),Vl.sizes (l++[o])=Vl.sizes l+Vl.size o:=by
  intro l o
  induction l with
 |nil=>simp[Vl.sizes]
 |cons a l ih=>rw[List.cons_append,Vl.sizes,ih,Vl.sizes];omega
 rw[List.take_succ_eq_append_getElem hi,h]
theorem sizes_take (l:List Ob)(i:Nat):Vl.sizes (l.take i)≤Vl.sizes l:=by
 induction l generalizing i with
|nil=>simp
|cons a l ih=>
  cases i with
 |zero=>simp[Vl.sizes]
 |succ i=>rw[List.take_succ_cons,Vl.sizes,Vl.sizes];have:=ih i;omega
theorem rsize_ret (n:Nat):∀(o:Ob) (v:Value) (w:World),o.wt≤n→OV (InW w) w v o→o.wt≤4611686018427387904 →
  Ret prog 7 #[v] w (fun v w'=>v=.int .i64 (Vl.size o:Nat)∧Below w.heap.size w w'):=by
 induction n with
|zero=>intro o v w h;have:=o.wt_pos;omega
|succ n ih=>
 intro o v w hn hov hb;obtain⟨vk,vc,cs,rfl,ha⟩:=hov.open;refine ret_of fun K hK=>S_foliantref05_Size_ok ?_;unfold S_foliantref05_Size;refine o_obb o ha.keys.one ha.kids.one (Own.start w) fun b w1 ho=>?_;have hsl:=s_len05 (o:=o);have hkl:=key_len (o:=o);have hcl:=kids_len (o:=o);have hsz:=Vl.size_wt o;have htd:∀m:Nat,(m:Int).tdiv 50=((m / 50:Nat):Int):=fun m=>by rw[Int.tdiv_eq_ediv_of_nonneg (by omega)];omega
 have lk:∀{W:World} {L:List Ent},Own w W L→∀{PK:PKT} {K:VWP},DoX prog (mB .len #[22] 3 #[false] #[vk]) W PK K=K (.int .i64 (o.keys.length:Int)) W:=fun ho=>sl_len Tryz.underlying22 (ha.own ho).keys.1;have lc:∀{W:World} {L:List Ent},Own w W L→∀{PK:PKT} {K:VWP},DoX prog (mB .len #[23] 3 #[false] #[vc]) W PK K=K (.int .i64 (o.kids.length:Int)) W:=fun ho=>sl_len Tryz.underlying23 (ha.own ho).kids.1;rw[fa_o3,ob_s ho 0 rfl,s_len Tryz.underlying9,b_quo (by decide),htd,wrap64_id (by omega) (by omega),b_add,wrap64_id (by omega) (by omega),fa_o4,ob_keys ho 0 rfl,lk ho];have ht50:∀i,((o.keys.take i).map fun k=>k.length / 50).sum≤(o.keys.map fun k=>k.length / 50).sum:=by
  intro i
  conv=>rhs;rw[←List.take_append_drop i o.keys,List.map_append,List.sum_append]
  omega
 have hse:=Vl.size_eq o;refine loop (fun vs w'=>∃(i:Nat) (m:Int),vs=[.int .i64 m,.int .i64 i]∧i≤o.keys.length∧m=((1+o.s.length / 50+((o.keys.take i).map fun k=>k.length / 50).sum:Nat):Int)∧Own w w' [obE b o vk vc]) (fun vs _=>o.keys.length - n1 vs) ⟨0,_,rfl,by omega,by simp,ho⟩ ?_;rintro vs w2 ⟨i,m,rfl,hi,rfl,ho⟩ _;have h5i:=ht50 i;simp only[S_foliantref05_Size_0,gd,rs];by_cases hlt:(i:Int) < (o.keys.length:Int)
 ·have hi':i < o.keys.length:=by omega
  simp only[hlt,decide_true,i_t];refine sl_ia1 (.string ⟨(o.keys[i]).toArray⟩) Tryz.underlying22 (by kernel_rfl) (ha.own ho).keys.1 (by omega) (by rw[Int.toNat_natCast];exact strsV_get hi') fun q hq=>?_;have hkm:=keys_mem (List.getElem_mem hi');have h5s:=ht50 (i+1);have hss:((o.keys.take (i+1)).map fun k=>k.length / 50).sum=((o.keys.take i).map fun k=>k.length / 50).sum+o.keys[i].length / 50:=by
   rw[List.take_succ_eq_append_getElem hi',List.map_append,List.sum_append];simp
  rw[l_cell nStr5 hq,s_len Tryz.underlying9,b_quo (by decide),htd,wrap64_id (n:=((o.keys[i].length / 50:Nat):Int)) (by omega) (by omega)];simp only[rs];rw[wrap64_id (by omega) (by omega),wrap64_id (by omega) (by omega)];exact nextX ⟨i+1,_,rfl,by omega,by rw[hss];omega,ho⟩ (by simp[n1,RowKit.intOf];omega)
 simp only[hlt,decide_false,i_f,fa_o5,ob_kids ho 0 rfl,lc ho];have hik:i=o.keys.length:=by omega
 subst hik;rw[List.take_length];refine loop (fun vs w'=>∃(i:Nat) (m:Int),vs=[.int .i64 m,.int .i64 i]∧i≤o.kids.length∧m=((1+o.s.length / 50+(o.keys.map fun k=>k.length / 50).sum+Vl.sizes (o.kids.take i):Nat):Int)∧Own w w' [obE b o vk vc]) (fun vs _=>o.kids.length - n1 vs) ⟨0,_,rfl,by omega,by simp[Vl.sizes],ho⟩ ?_;rintro vs w3 ⟨i,m,rfl,hi2,rfl,ho⟩ _;simp only[S_foliantref05_Size_1,gd,rs];have hst:=sizes_take o.kids i;by_cases hlt:(i:Int) < (o.kids.length:Int)
 ·have hi':i < o.kids.length:=by omega
  simp only[hlt,decide_true,i_t];have hai:=ha.own ho;refine ob_ia hai.kids.1 hai.all hi' fun v hv=>?_;obtain⟨vk',vc',cs',rfl,hkid⟩:=hv.open;have ho6:=ho;refine o_oba ho fun b7 w7 ho=>?_;refine ob_put 0 hkid.keys.one hkid.kids.one ho rfl fun w8 ho=>?_;have ho:Own w w8 [obE b7 o.kids[i] vk' vc',obE b o vk vc]:=ho;rw[ob_v ho 0 rfl];have hkw:=kid_wt hi';refine c_told (ih o.kids[i] _ w8 (by omega) (hkid.later ho6 ho).ov (by omega)) rfl ho fun w9 ho=>?_;have hsd:=sizes_drop o.kids i hi';have hst2:=sizes_take o.kids (i+1);simp only[rs];rw[wrap64_id (by omega) (by omega),wrap64_id (by omega) (by omega)];exact nextX ⟨i+1,_,rfl,by omega,by rw[hsd];omega,ho.tail⟩ (by simp[n1,RowKit.intOf];omega)
 ·simp only[hlt,decide_false,i_f];rw[List.take_of_length_le (by omega)];refine hK _ _ ⟨?_,ho.done⟩;rw[hse]
end
section
open Eng
def S_value_within_int64 (t0 t1 t2:Value)(w:World)(K:Ending→World→Prop):Prop:=
 DoX prog (mBin .leq 2 t1 t0) w (pk K) fun t9 w=>
 GDo t9 true (fun E=>E t0 w) w fun t11 w=>
 GDo t9 true (fun E=>E t2 w) w fun t12 w=>
 GDo t9 true (fun E=>DoX prog (mBin .leq 2 t11 t12) w (pk K) E) w fun t13 w=>
 DoX prog (mPick t9 t13 (.bool false)) w (pk K) fun t14 w=>
 K (.returned t14) w
theorem S_value_within_int64_eq (t0 t1 t2:Value)(w:World)(K:Ending→World→Prop):wpX prog 15 [] [] none (bodyOf Tryz.f201) (topQ prog [.tmp 6] K) (startX [t0,t1,t2]) [] w=S_value_within_int64 t0 t1 t2 w K:=by kernel_rfl
theorem S_value_within_int64_ok {t0 t1 t2:Value}{w:World}{K:Ending→World→Prop}(h:S_value_within_int64 t0 t1 t2 w K):Calls prog 201 #[t0,t1,t2] w K:=
 calls_of_wpX Tryz.func201 rfl rfl rfl rfl (Eq.mpr (S_value_within_int64_eq t0 t1 t2 w K) h)
def S_value_within_int (t0 t1 t2:Value)(w:World)(K:Ending→World→Prop):Prop:=
 DoX prog (mBin .leq 3 t1 t0) w (pk K) fun t9 w=>
 GDo t9 true (fun E=>E t0 w) w fun t11 w=>
 GDo t9 true (fun E=>E t2 w) w fun t12 w=>
 GDo t9 true (fun E=>DoX prog (mBin .leq 3 t11 t12) w (pk K) E) w fun t13 w=>
 DoX prog (mPick t9 t13 (.bool false)) w (pk K) fun t14 w=>
 K (.returned t14) w
theorem S_value_within_int_eq (t0 t1 t2:Value)(w:World)(K:Ending→World→Prop):wpX prog 15 [] [] none (bodyOf Tryz.f202) (topQ prog [.tmp 6] K) (startX [t0,t1,t2]) [] w=S_value_within_int t0 t1 t2 w K:=by kernel_rfl
theorem S_value_within_int_ok {t0 t1 t2:Value}{w:World}{K:Ending→World→Prop}(h:S_value_within_int t0 t1 t2 w K):Calls prog 202 #[t0,t1,t2] w K:=
 calls_of_wpX Tryz.func202 rfl rfl rfl rfl (Eq.mpr (S_value_within_int_eq t0 t1 t2 w K) h)
def S_value_key (t0:Value)(w:World)(K:Ending→World→Prop):Prop:=
 DoX prog (mB .len #[9] 3 #[false] #[t0]) w (pk K) fun t4 w=>
 DoX prog (mBin .leq 3 t4 (.int .i64 127)) w (pk K) fun t5 w=>
 GDo t5 true (fun E=>E t0 w) w fun t7 w=>
 GDo t5 true (fun E=>CallX prog 168 #[t7,(.int .u8 0)] w (pk K) E) w fun t8 w=>
 GDo t5 true (fun E=>DoX prog (mBin .lss 3 t8 (.int .i64 0)) w (pk K) E) w fun t9 w=>
 DoX prog (mPick t5 t9 (.bool false)) w (pk K) fun t10 w=>
 K (.returned t10) w
theorem S_value_key_eq (t0:Value)(w:World)(K:Ending→World→Prop):wpX prog 11 [] [] none (bodyOf Tryz.f151) (topQ prog [.tmp 2] K) (startX [t0]) [] w=S_value_key t0 w K:=by kernel_rfl
theorem S_value_key_ok {t0:Value}{w:World}{K:Ending→World→Prop}(h:S_value_key t0 w K):Calls prog 151 #[t0] w K:=
 calls_of_wpX Tryz.func151 rfl rfl rfl rfl (Eq.mpr (S_value_key_eq t0 w K) h)
def S_value_rising_0 (t1 t13 t14 t15:Value)(w:World)(N1:List Value→World→Prop)(K:Ending→World→Prop):Prop:=
 DoX prog (mBin .lss 3 t15 t14) w (pk K) fun t16 w=>
 IfX t16 (DoX prog (mIA 22 t13 t15) w (pk K) fun t18 w=>
 DoX prog (mLoad 9 t18) w (pk K) fun t19 w=>
 CallX prog 151 #[t19] w (pk K) fun t21 w=>
 DoX prog (mUn .not t21) w (pk K) fun t22 w=>
 GDo t22 false (fun E=>E t15 w) w fun t24 w=>
 GDo t22 false (fun E=>DoX prog (mBin .gtr 3 t24 (.int .i64 0)) w (pk K) E) w fun t25 w=>
 GDo t22 false (fun E=>E t25 w) w fun t26 w=>
 GDo t26 true (fun E=>DoX prog (mFA 25 t1 4) w (pk K) E) w fun t27 w=>
 GDo t26 true (fun E=>DoX prog (mLoad 22 t27) w (pk K) E) w fun t28 w=>
 GDo t26 true (fun E=>E t15 w) w fun t29 w=>
 GDo t26 true (fun E=>DoX prog (mBin .sub 3 t29 (.int .i64 1)) w (pk K) E) w fun t30 w=>
 GDo t26 true (fun E=>DoX prog (mIA 22 t28 t30) w (pk K) E) w fun t31 w=>
 GDo t26 true (fun E=>DoX prog (mLoad 9 t31) w (pk K) E) w fun t32 w=>
 GDo t26 true (fun E=>E t19 w) w fun t33 w=>
 GDo t26 true (fun E=>DoX prog (mBin .geq 9 t32 t33) w (pk K) E) w fun t34 w=>
 GDo t22 false (fun E=>DoX prog (mPick t26 t34 (.bool false)) w (pk K) E) w fun t35 w=>
 DoX prog (mPick t22 (.bool true) t35) w (pk K) fun t36 w=>
 GDo t36 false (fun E=>DoX prog (mFA 25 t1 0) w (pk K) E) w fun t38 w=>
 GDo t36 false (fun E=>DoX prog (mLoad 3 t38) w (pk K) E) w fun t39 w=>
 GDo t36 false (fun E=>DoX prog (mEq .eql 3 (.tmp 39) (.const (.int .i64 9)) t39 (.int .i64 9)) w (pk K) E) w fun t40 w=>
 GDo t36 false (fun E=>E t40 w) w fun t41 w=>
 GDo t41 true (fun E=>E t19 w) w fun t42 w=>
 GDo t41 true (fun E=>DoX prog (mEq .eql 9 (.tmp 42) (.const (.string ⟨#[76,101,110,103,116,104]⟩)) t42 (.string ⟨#[76,101,110,103,116,104]⟩)) w (pk K) E) w fun t43 w=>
 GDo t36 false (fun E=>DoX prog (mPick t41 t43 (.bool false)) w (pk K) E) w fun t44 w=>
 DoX prog (mPick t36 (.bool true) t44) w (pk K) fun t45 w=>
 GDo t45 false (fun E=>DoX prog (mFA 25 t1 5) w (pk K) E) w fun t47 w=>
 GDo t45 false (fun E=>DoX prog (mLoad 23 t47) w (pk K) E) w fun t48 w=>
 GDo t45 false (fun E=>E t15 w) w fun t49 w=>
 GDo t45 false (fun E=>DoX prog (mIA 23 t48 t49) w (pk K) E) w fun t50 w=>
 GDo t45 false (fun E=>DoX prog (mFA 25 t50 0) w (pk K) E) w fun t51 w=>
 GDo t45 false (fun E=>DoX prog (mLoad 3 t51) w (pk K) E) w fun t52 w=>
 GDo t45 false (fun E=>DoX prog (mEq .eql 3 (.tmp 52) (.const (.int .i64 0)) t52 (.int .i64 0)) w (pk K) E) w fun t53 w=>
 DoX prog (mPick t45 (.bool true) t53) w (pk K) fun t54 w=>
 IfX t54 (K (.returned (.bool false)) w) (DoX prog (mBin .add 3 t15 (.int .i64 1)) w (pk K) fun t55 w=>
 N1 [t55] w)) (K (.returned (.bool true)) w)
def S_value_rising (t0:Value)(w:World)(K:Ending→World→Prop):Prop:=
 DoX prog (mBox 25 t0) w (pk K) fun t1 w=>
 DoX prog (mFA 25 t1 4) w (pk K) fun t5 w=>
 DoX prog (mLoad 22 t5) w (pk K) fun t6 w=>
 DoX prog (mB .len #[22] 3 #[false] #[t6]) w (pk K) fun t7 w=>
 DoX prog (mFA 25 t1 5) w (pk K) fun t8 w=>
 DoX prog (mLoad 23 t8) w (pk K) fun t9 w=>
 DoX prog (mB .len #[23] 3 #[false] #[t9]) w (pk K) fun t10 w=>
 DoX prog (mEq .neq 3 (.tmp 7) (.tmp 10) t7 t10) w (pk K) fun t11 w=>
 IfX t11 (K (.returned (.bool false)) w) (DoX prog (mFA 25 t1 4) w (pk K) fun t12 w=>
 DoX prog (mLoad 22 t12) w (pk K) fun t13 w=>
 DoX prog (mB .len #[22] 3 #[false] #[t13]) w (pk K) fun t14 w=>
 LoopX [(.int .i64 0)] w (fun vs1 w N1=>∀_:Sg,S_value_rising_0 t1 t13 t14 (vs1.getD 0 undef) w N1 K))
theorem S_value_rising_eq (t0:Value)(w:World)(K:Ending→World→Prop):wpX prog 56 [] [(4,[15])] none (bodyOf Tryz.f152) (topQ prog [.tmp 2] K) (startX [t0]) [] w=S_value_rising t0 w K:=by kernel_rfl
theorem S_value_rising_ok {t0:Value}{w:World}{K:Ending→World→Prop}(h:S_value_rising t0 w K):Calls prog 152 #[t0] w K:=
 calls_of_wpX Tryz.func152 rfl rfl rfl rfl (Eq.mpr (S_value_rising_eq t0 w K) h)
def S_value_fits (t0:Value)(w:World)(K:Ending→World→Prop):Prop:=
 DoX prog (mBox 25 t0) w (pk K) fun t1 w=>
 DoX prog (mFA 25 t1 0) w (pk K) fun t3 w=>
 DoX prog (mLoad 3 t3) w (pk K) fun t4 w=>
 DoX prog (mEq .eql 3 (.tmp 4) (.const (.int .i64 1)) t4 (.int .i64 1)) w (pk K) fun t6 w=>
 IfX t6 (DoX prog (mFA 25 t1 1) w (pk K) fun t7 w=>
 DoX prog (mLoad 2 t7) w (pk K) fun t8 w=>
 CallX prog 201 #[t8,(.int .i64 0),(.int .i64 1)] w (pk K) fun t9 w=>
 K (.returned t9) w) (DoX prog (mEq .eql 3 (.tmp 4) (.const (.int .i64 2)) t4 (.int .i64 2)) w (pk K) fun t11 w=>
 IfX t11 (DoX prog (mFA 25 t1 1) w (pk K) fun t12 w=>
 DoX prog (mLoad 2 t12) w (pk K) fun t13 w=>
 CallX prog 201 #[t13,(.int .i64 (-2147483647)),(.int .i64 2147483647)] w (pk K) fun t14 w=>
 K (.returned t14) w) (DoX prog (mEq .eql 3 (.tmp 4) (.const (.int .i64 3)) t4 (.int .i64 3)) w (pk K) fun t16 w=>
 IfX t16 (DoX prog (mFA 25 t1 1) w (pk K) fun t17 w=>
 DoX prog (mLoad 2 t17) w (pk K) fun t18 w=>
 CallX prog 201 #[t18,(.int .i64 (-1073741824)),(.int .i64 1073741824)] w (pk K) fun t19 w=>
 K (.returned t19) w) (DoX prog (mEq .eql 3 (.tmp 4) (.const (.int .i64 8)) t4 (.int .i64 8)) w (pk K) fun t21 w=>
 IfX t21 (DoX prog (mFA 25 t1 1) w (pk K) fun t22 w=>
 DoX prog (mLoad 2 t22) w (pk K) fun t23 w=>
 CallX prog 201 #[t23,(.int .i64 1),(.int .i64 8191)] w (pk K) fun t24 w=>
 GDo t24 true (fun E=>DoX prog (mFA 25 t1 2) w (pk K) E) w fun t26 w=>
 GDo t24 true (fun E=>DoX prog (mLoad 3 t26) w (pk K) E) w fun t27 w=>
 GDo t24 true (fun E=>CallX prog 202 #[t27,(.int .i64 0),(.int .i64 65535)] w (pk K) E) w fun t28 w=>
 DoX prog (mPick t24 t28 (.bool false)) w (pk K) fun t29 w=>
 K (.returned t29) w) (K (.returned (.bool true)) w))))
theorem S_value_fits_eq (t0:Value)(w:World)(K:Ending→World→Prop):wpX prog 30 [] [] none (bodyOf Tryz.f149) (topQ prog [.tmp 2] K) (startX [t0]) [] w=S_value_fits t0 w K:=by kernel_rfl
theorem S_value_fits_ok {t0:Value}{w:World}{K:Ending→World→Prop}(h:S_value_fits t0 w K):Calls prog 149 #[t0] w K:=
 calls_of_wpX Tryz.func149 rfl rfl rfl rfl (Eq.mpr (S_value_fits_eq t0 w K) h)
def S_value_short (t0:Value)(w:World)(K:Ending→World→Prop):Prop:=
 DoX prog (mBox 25 t0) w (pk K) fun t1 w=>
 DoX prog (mFA 25 t1 0) w (pk K) fun t3 w=>
 DoX prog (mLoad 3 t3) w (pk K) fun t4 w=>
 DoX prog (mEq .eql 3 (.tmp 4) (.const (.int .i64 4)) t4 (.int .i64 4)) w (pk K) fun t6 w=>
 IfX t6 (DoX prog (mFA 25 t1 3) w (pk K) fun t7 w=>
 DoX prog (mLoad 9 t7) w (pk K) fun t8 w=>
 DoX prog (mB .len #[9] 3 #[false] #[t8]) w (pk K) fun t9 w=>
 DoX prog (mBin .leq 3 t9 (.int .i64 32767)) w (pk K) fun t10 w=>
 K (.returned t10) w) (DoX prog (mEq .eql 3 (.tmp 4) (.const (.int .i64 5)) t4 (.int .i64 5)) w (pk K) fun t12 w=>
 IfX t12 (DoX prog (mFA 25 t1 3) w (pk K) fun t13 w=>
 DoX prog (mLoad 9 t13) w (pk K) fun t14 w=>
 DoX prog (mB .len #[9] 3 #[false] #[t14]) w (pk K) fun t15 w=>
 DoX prog (mBin .leq 3 t15 (.int .i64 127)) w (pk K) fun t16 w=>
 K (.returned t16) w) (DoX prog (mFA 25 t1 3) w (pk K) fun t17 w=>
 DoX prog (mLoad 9 t17) w (pk K) fun t18 w=>
 DoX prog (mB .len #[9] 3 #[false] #[t18]) w (pk K) fun t19 w=>
 DoX prog (mBin .leq 3 t19 (.int .i64 1048576)) w (pk K) fun t20 w=>
 K (.returned t20) w))
theorem S_value_short_eq (t0:Value)(w:World)(K:Ending→World→Prop):wpX prog 21 [] [] none (bodyOf Tryz.f150) (topQ prog [.tmp 2] K) (startX [t0]) [] w=S_value_short t0 w K:=by kernel_rfl
theorem S_value_short_ok {t0:Value}{w:World}{K:Ending→World→Prop}(h:S_value_short t0 w K):Calls prog 150 #[t0] w K:=
 calls_of_wpX Tryz.func150 rfl rfl rfl rfl (Eq.mpr (S_value_short_eq t0 w K) h)
def S_value_used_1 (t2 t4 t13:Value)(w:World)(K:Ending→World→Prop):Prop:=
 IfX t13 (DoX prog (mBuild 167 #[(2,(.bool true))]) w (pk K) fun t16 w=>
 DoX prog (mStore 167 t2 t16) w (pk K) fun _ w=>
 RetX prog [.cell t2 167,.val (.bool true)] w K) (DoX prog (mEq .eql 3 (.tmp 4) (.const (.int .i64 6)) t4 (.int .i64 6)) w (pk K) fun t18 w=>
 IfX t18 (DoX prog (mBuild 167 #[(4,(.bool true))]) w (pk K) fun t19 w=>
 DoX prog (mStore 167 t2 t19) w (pk K) fun _ w=>
 RetX prog [.cell t2 167,.val (.bool true)] w K) (DoX prog (mEq .eql 3 (.tmp 4) (.const (.int .i64 7)) t4 (.int .i64 7)) w (pk K) fun t21 w=>
 IfX t21 (DoX prog (mBuild 167 #[(3,(.bool true)),(4,(.bool true))]) w (pk K) fun t22 w=>
 DoX prog (mStore 167 t2 t22) w (pk K) fun _ w=>
 RetX prog [.cell t2 167,.val (.bool true)] w K) (DoX prog (mEq .eql 3 (.tmp 4) (.const (.int .i64 8)) t4 (.int .i64 8)) w (pk K) fun t24 w=>
 IfX t24 (DoX prog (mBuild 167 #[(0,(.bool true)),(1,(.bool true))]) w (pk K) fun t25 w=>
 DoX prog (mStore 167 t2 t25) w (pk K) fun _ w=>
 RetX prog [.cell t2 167,.val (.bool true)] w K) (DoX prog (mEq .eql 3 (.tmp 4) (.const (.int .i64 9)) t4 (.int .i64 9)) w (pk K) fun t27 w=>
 IfX t27 (DoX prog (mBuild 167 #[(2,(.bool true)),(3,(.bool true)),(4,(.bool true))]) w (pk K) fun t28 w=>
 DoX prog (mStore 167 t2 t28) w (pk K) fun _ w=>
 RetX prog [.cell t2 167,.val (.bool true)] w K) (DoX prog (mBuild 167 #[]) w (pk K) fun t29 w=>
 DoX prog (mStore 167 t2 t29) w (pk K) fun _ w=>
 RetX prog [.cell t2 167,.val (.bool false)] w K)))))
def S_value_used_0 (t2 t4 t8:Value)(w:World)(K:Ending→World→Prop):Prop:=
 IfX t8 (DoX prog (mBuild 167 #[(0,(.bool true))]) w (pk K) fun t12 w=>
 DoX prog (mStore 167 t2 t12) w (pk K) fun _ w=>
 RetX prog [.cell t2 167,.val (.bool true)] w K) (JoinX (fun J2=>
 DoX prog (mEq .eql 3 (.tmp 4) (.const (.int .i64 4)) t4 (.int .i64 4)) w (pk K) fun t14 w=>
 IfX t14 (J2 [t14] w) (DoX prog (mEq .eql 3 (.tmp 4) (.const (.int .i64 5)) t4 (.int .i64 5)) w (pk K) fun t15 w=>
 J2 [t15] w)) (fun vs2 w=>∀_:Sg,S_value_used_1 t2 t4 (vs2.getD 0 undef) w K))
def S_value_used (t0:Value)(w:World)(K:Ending→World→Prop):Prop:=
 DoX prog (mAlloc 167) w (pk K) fun t2 w=>
 DoX prog (mEq .eql 3 (.tmp 4) (.const (.int .i64 0)) t0 (.int .i64 0)) w (pk K) fun t6 w=>
 IfX t6 (DoX prog (mBuild 167 #[]) w (pk K) fun t7 w=>
 DoX prog (mStore 167 t2 t7) w (pk K) fun _ w=>
 RetX prog [.cell t2 167,.val (.bool true)] w K) (JoinX (fun J1=>
 DoX prog (mEq .eql 3 (.tmp 4) (.const (.int .i64 1)) t0 (.int .i64 1)) w (pk K) fun t9 w=>
 IfX t9 (J1 [t9] w) (DoX prog (mEq .eql 3 (.tmp 4) (.const (.int .i64 2)) t0 (.int .i64 2)) w (pk K) fun t10 w=>
 IfX t10 (J1 [t10] w) (DoX prog (mEq .eql 3 (.tmp 4) (.const (.int .i64 3)) t0 (.int .i64 3)) w (pk K) fun t11 w=>
 J1 [t11] w))) (fun vs1 w=>∀_:Sg,S_value_used_0 t2 t0 (vs1.getD 0 undef) w K))
theorem S_value_used_eq (t0:Value)(w:World)(K:Ending→World→Prop):wpX prog 30 [(7,[8]),(10,[13])] [] none (bodyOf Tryz.f148) (topQ prog [.cell 2 167,.tmp 3] K) (startX [t0]) [] w=S_value_used t0 w K:=by kernel_rfl
theorem S_value_used_ok {t0:Value}{w:World}{K:Ending→World→Prop}(h:S_value_used t0 w K):Calls prog 148 #[t0] w K:=
 calls_of_wpX Tryz.func148 rfl rfl rfl rfl (Eq.mpr (S_value_used_eq t0 w K) h)
def S_value_must (t0 t1:Value)(w:World)(K:Ending→World→Prop):Prop:=
 DoX prog (mUn .not t0) w (pk K) fun t5 w=>
 IfX t5 (DoX prog (mBuild 165 #[(0,t1)]) w (pk K) fun t7 w=>
 DoX prog (mIface 165 t7) w (pk K) fun t8 w=>
 DoX prog (mPanic t8) w (pk K) fun _ w=>
 K (.returned (.tuple #[])) w) (K (.returned (.tuple #[])) w)
theorem S_value_must_eq (t0 t1:Value)(w:World)(K:Ending→World→Prop):wpX prog 9 [] [] none (bodyOf Tryz.f147) (topQ prog [] K) (startX [t0,t1]) [] w=S_value_must t0 t1 w K:=by kernel_rfl
theorem S_value_must_ok {t0 t1:Value}{w:World}{K:Ending→World→Prop}(h:S_value_must t0 t1 w K):Calls prog 147 #[t0,t1] w K:=
 calls_of_wpX Tryz.func147 rfl rfl rfl rfl (Eq.mpr (S_value_must_eq t0 t1 w K) h)
def S_value_check_0 (t1 t105 t106 t107:Value)(w:World)(N1:List Value→World→Prop)(K:Ending→World→Prop):Prop:=
 DoX prog (mBin .lss 3 t107 t106) w (pk K) fun t108 w=>
 IfX t108 (DoX prog (mIA 23 t105 t107) w (pk K) fun t109 w=>
 DoX prog (mLoad 25 t109) w (pk K) fun t110 w=>
 DoX prog (mAlloc 25) w (pk K) fun t7 w=>
 DoX prog (mStore 25 t7 t110) w (pk K) fun _ w=>
 DoX prog (mLoad 25 t7) w (pk K) fun t111 w=>
 DoX prog (mBin .add 3 t1 (.int .i64 1)) w (pk K) fun t113 w=>
 CallX prog 98 #[t111,t113] w (pk K) fun t114 w=>
 DoX prog (mBin .add 3 t107 (.int .i64 1)) w (pk K) fun t115 w=>
 N1 [t115] w) (K (.returned (.tuple #[])) w)
def S_value_check (t0 t1:Value)(w:World)(K:Ending→World→Prop):Prop:=
 DoX prog (mBox 25 t0) w (pk K) fun t2 w=>
 DoX prog (mBin .leq 3 t1 (.int .i64 24)) w (pk K) fun t9 w=>
 CallX prog 147 #[t9,(.int .i64 7)] w (pk K) fun t10 w=>
 DoX prog (mFA 25 t2 0) w (pk K) fun t12 w=>
 DoX prog (mLoad 3 t12) w (pk K) fun t13 w=>
 CallX prog 148 #[t13] w (pk K) fun t14 w=>
 DoX prog (mExt t14 0) w (pk K) fun t15 w=>
 DoX prog (mExt t14 1) w (pk K) fun t16 w=>
 DoX prog (mAlloc 167) w (pk K) fun t4 w=>
 DoX prog (mStore 167 t4 t15) w (pk K) fun _ w=>
 GDo t16 true (fun E=>DoX prog (mFA 167 t4 0) w (pk K) E) w fun t19 w=>
 GDo t16 true (fun E=>DoX prog (mLoad 4 t19) w (pk K) E) w fun t20 w=>
 GDo t16 true (fun E=>E t20 w) w fun t21 w=>
 GDo t21 false (fun E=>DoX prog (mFA 25 t2 1) w (pk K) E) w fun t22 w=>
 GDo t21 false (fun E=>DoX prog (mLoad 2 t22) w (pk K) E) w fun t23 w=>
 GDo t21 false (fun E=>DoX prog (mEq .eql 2 (.tmp 23) (.const (.int .i64 0)) t23 (.int .i64 0)) w (pk K) E) w fun t24 w=>
 GDo t16 true (fun E=>DoX prog (mPick t21 (.bool true) t24) w (pk K) E) w fun t25 w=>
 DoX prog (mPick t16 t25 (.bool false)) w (pk K) fun t26 w=>
 GDo t26 true (fun E=>DoX prog (mFA 167 t4 1) w (pk K) E) w fun t28 w=>
 GDo t26 true (fun E=>DoX prog (mLoad 4 t28) w (pk K) E) w fun t29 w=>
 GDo t26 true (fun E=>E t29 w) w fun t30 w=>
 GDo t30 false (fun E=>DoX prog (mFA 25 t2 2) w (pk K) E) w fun t31 w=>
 GDo t30 false (fun E=>DoX prog (mLoad 3 t31) w (pk K) E) w fun t32 w=>
 GDo t30 false (fun E=>DoX prog (mEq .eql 3 (.tmp 32) (.const (.int .i64 0)) t32 (.int .i64 0)) w (pk K) E) w fun t33 w=>
 GDo t26 true (fun E=>DoX prog (mPick t30 (.bool true) t33) w (pk K) E) w fun t34 w=>
 DoX prog (mPick t26 t34 (.bool false)) w (pk K) fun t35 w=>
 GDo t35 true (fun E=>DoX prog (mFA 167 t4 2) w (pk K) E) w fun t37 w=>
 GDo t35 true (fun E=>DoX prog (mLoad 4 t37) w (pk K) E) w fun t38 w=>
 GDo t35 true (fun E=>E t38 w) w fun t39 w=>
 GDo t39 false (fun E=>DoX prog (mFA 25 t2 3) w (pk K) E) w fun t40 w=>
 GDo t39 false (fun E=>DoX prog (mLoad 9 t40) w (pk K) E) w fun t41 w=>
 GDo t39 false (fun E=>DoX prog (mEq .eql 9 (.tmp 41) (.const (.string ⟨#[]⟩)) t41 (.string ⟨#[]⟩)) w (pk K) E) w fun t42 w=>
 GDo t35 true (fun E=>DoX prog (mPick t39 (.bool true) t42) w (pk K) E) w fun t43 w=>
 DoX prog (mPick t35 t43 (.bool false)) w (pk K) fun t44 w=>
 GDo t44 true (fun E=>DoX prog (mFA 167 t4 3) w (pk K) E) w fun t46 w=>
 GDo t44 true (fun E=>DoX prog (mLoad 4 t46) w (pk K) E) w fun t47 w=>
 GDo t44 true (fun E=>E t47 w) w fun t48 w=>
 GDo t48 false (fun E=>DoX prog (mFA 25 t2 4) w (pk K) E) w fun t49 w=>
 GDo t48 false (fun E=>DoX prog (mLoad 22 t49) w (pk K) E) w fun t50 w=>
 GDo t48 false (fun E=>DoX prog (mB .len #[22] 3 #[false] #[t50]) w (pk K) E) w fun t51 w=>
 GDo t48 false (fun E=>DoX prog (mEq .eql 3 (.tmp 51) (.const (.int .i64 0)) t51 (.int .i64 0)) w (pk K) E) w fun t52 w=>
 GDo t44 true (fun E=>DoX prog (mPick t48 (.bool true) t52) w (pk K) E) w fun t53 w=>
 DoX prog (mPick t44 t53 (.bool false)) w (pk K) fun t54 w=>
 GDo t54 true (fun E=>DoX prog (mFA 167 t4 4) w (pk K) E) w fun t56 w=>
 GDo t54 true (fun E=>DoX prog (mLoad 4 t56) w (pk K) E) w fun t57 w=>
 GDo t54 true (fun E=>E t57 w) w fun t58 w=>
 GDo t58 false (fun E=>DoX prog (mFA 25 t2 5) w (pk K) E) w fun t59 w=>
 GDo t58 false (fun E=>DoX prog (mLoad 23 t59) w (pk K) E) w fun t60 w=>
 GDo t58 false (fun E=>DoX prog (mB .len #[23] 3 #[false] #[t60]) w (pk K) E) w fun t61 w=>
 GDo t58 false (fun E=>DoX prog (mEq .eql 3 (.tmp 61) (.const (.int .i64 0)) t61 (.int .i64 0)) w (pk K) E) w fun t62 w=>
 GDo t54 true (fun E=>DoX prog (mPick t58 (.bool true) t62) w (pk K) E) w fun t63 w=>
 DoX prog (mPick t54 t63 (.bool false)) w (pk K) fun t64 w=>
 GDo t64 true (fun E=>E t1 w) w fun t66 w=>
 GDo t64 true (fun E=>DoX prog (mEq .eql 3 (.tmp 66) (.const (.int .i64 1)) t66 (.int .i64 1)) w (pk K) E) w fun t67 w=>
 GDo t64 true (fun E=>E t67 w) w fun t68 w=>
 GDo t68 false (fun E=>DoX prog (mFA 25 t2 0) w (pk K) E) w fun t69 w=>
 GDo t68 false (fun E=>DoX prog (mLoad 3 t69) w (pk K) E) w fun t70 w=>
 GDo t68 false (fun E=>DoX prog (mEq .neq 3 (.tmp 70) (.const (.int .i64 9)) t70 (.int .i64 9)) w (pk K) E) w fun t71 w=>
 GDo t64 true (fun E=>DoX prog (mPick t68 (.bool true) t71) w (pk K) E) w fun t72 w=>
 DoX prog (mPick t64 t72 (.bool false)) w (pk K) fun t73 w=>
 CallX prog 147 #[t73,(.int .i64 10)] w (pk K) fun t74 w=>
 DoX prog (mLoad 25 t2) w (pk K) fun t75 w=>
 CallX prog 149 #[t75] w (pk K) fun t76 w=>
 CallX prog 147 #[t76,(.int .i64 2)] w (pk K) fun t77 w=>
 DoX prog (mLoad 25 t2) w (pk K) fun t78 w=>
 CallX prog 150 #[t78] w (pk K) fun t79 w=>
 CallX prog 147 #[t79,(.int .i64 5)] w (pk K) fun t80 w=>
 DoX prog (mFA 25 t2 5) w (pk K) fun t81 w=>
 DoX prog (mLoad 23 t81) w (pk K) fun t82 w=>
 DoX prog (mB .len #[23] 3 #[false] #[t82]) w (pk K) fun t83 w=>
 DoX prog (mBin .leq 3 t83 (.int .i64 8191)) w (pk K) fun t84 w=>
 CallX prog 147 #[t84,(.int .i64 6)] w (pk K) fun t85 w=>
 DoX prog (mFA 25 t2 0) w (pk K) fun t86 w=>
 DoX prog (mLoad 3 t86) w (pk K) fun t87 w=>
 DoX prog (mEq .neq 3 (.tmp 87) (.const (.int .i64 5)) t87 (.int .i64 5)) w (pk K) fun t88 w=>
 GDo t88 false (fun E=>DoX prog (mFA 25 t2 3) w (pk K) E) w fun t90 w=>
 GDo t88 false (fun E=>DoX prog (mLoad 9 t90) w (pk K) E) w fun t91 w=>
 GDo t88 false (fun E=>CallX prog 151 #[t91] w (pk K) E) w fun t92 w=>
 DoX prog (mPick t88 (.bool true) t92) w (pk K) fun t93 w=>
 GDo t93 true (fun E=>DoX prog (mFA 167 t4 3) w (pk K) E) w fun t95 w=>
 GDo t93 true (fun E=>DoX prog (mLoad 4 t95) w (pk K) E) w fun t96 w=>
 GDo t93 true (fun E=>DoX prog (mUn .not t96) w (pk K) E) w fun t97 w=>
 GDo t93 true (fun E=>E t97 w) w fun t98 w=>
 GDo t98 false (fun E=>DoX prog (mLoad 25 t2) w (pk K) E) w fun t99 w=>
 GDo t98 false (fun E=>CallX prog 152 #[t99] w (pk K) E) w fun t100 w=>
 GDo t93 true (fun E=>DoX prog (mPick t98 (.bool true) t100) w (pk K) E) w fun t101 w=>
 DoX prog (mPick t93 t101 (.bool false)) w (pk K) fun t102 w=>
 CallX prog 147 #[t102,(.int .i64 3)] w (pk K) fun t103 w=>
 DoX prog (mFA 25 t2 5) w (pk K) fun t104 w=>
 DoX prog (mLoad 23 t104) w (pk K) fun t105 w=>
 DoX prog (mB .len #[23] 3 #[false] #[t105]) w (pk K) fun t106 w=>
 LoopX [(.int .i64 0)] w (fun vs1 w N1=>∀_:Sg,S_value_check_0 t1 t105 t106 (vs1.getD 0 undef) w N1 K)
theorem S_value_check_eq (t0 t1:Value)(w:World)(K:Ending→World→Prop):wpX prog 116 [] [(9,[107])] none (bodyOf Tryz.f98) (topQ prog [] K) (startX [t0,t1]) [] w=S_value_check t0 t1 w K:=by kernel_rfl
theorem S_value_check_ok {t0 t1:Value}{w:World}{K:Ending→World→Prop}(h:S_value_check t0 t1 w K):Calls prog 98 #[t0,t1] w K:=
 calls_of_wpX Tryz.func98 rfl rfl rfl rfl (Eq.mpr (S_value_check_eq t0 t1 w K) h)
def S_value_Check_1 (t0:Value)(w:World)(K:Ending→World→Prop):Prop:=
 DoX prog (mLoad 25 t0) w (pk K) fun t1 w=>
 CallX prog 98 #[t1,(.int .i64 1)] w (pk K) fun t2 w=>
 K (.returned (.tuple #[])) w
theorem S_value_Check_1_eq (t0:Value)(w:World)(K:Ending→World→Prop):wpX prog 3 [] [] none (bodyOf Tryz.f97) (topQ prog [] K) (startX [t0]) [] w=S_value_Check_1 t0 w K:=by kernel_rfl
theorem S_value_Check_1_ok {t0:Value}{w:World}{K:Ending→World→Prop}(h:S_value_Check_1 t0 w K):Calls prog 97 #[t0] w K:=
 calls_of_wpX Tryz.func97 rfl rfl rfl rfl (Eq.mpr (S_value_Check_1_eq t0 w K) h)
def S_value_caught_1 (t0 r:Value)(w:World)(K:Ending→World→Prop):Prop:=
 DoX prog (mEq .eql 20 (.tmp 4) (.const .nilIface) r .nilIface) w (pk K) fun t6 w=>
 IfX t6 (K (.returned (.tuple #[])) w) (DoX prog (mTA r 20 165 true) w (pk K) fun t7 w=>
 DoX prog (mExt t7 1) w (pk K) fun t8 w=>
 DoX prog (mExt t7 0) w (pk K) fun t9 w=>
 IfX t8 (DoX prog (mAlloc 165) w (pk K) fun t2 w=>
 DoX prog (mStore 165 t2 t9) w (pk K) fun _ w=>
 DoX prog (mFA 165 t2 0) w (pk K) fun t10 w=>
 DoX prog (mLoad 30 t10) w (pk K) fun t11 w=>
 DoX prog (mStore 30 t0 t11) w (pk K) fun _ w=>
 K (.returned (.tuple #[])) w) (DoX prog (mPanic r) w (pk K) fun _ w=>
 K (.returned (.tuple #[])) w))
theorem S_value_caught_1_eq (t0 r:Value)(w:World)(K:Ending→World→Prop):wpX prog 12 [] [] none (sndOf (bodyOf Tryz.f146)) (topD prog [] K) (upd (startX [t0]) 4 r) [] w=S_value_caught_1 t0 r w K:=by kernel_rfl
theorem S_value_caught_1_dok {t0:Value}{u:FrameMode}{w:World}{R:Ending→FrameMode→World→Prop}(h:S_value_caught_1 t0 (recV u) w (fun e w=>R e (recM u) w)):CallsD prog 146 #[t0] u w R:=
 callsD_recover Tryz.func146 rfl rfl rfl rfl rfl rfl rfl rfl (Eq.mpr (S_value_caught_1_eq t0 (recV u) w _) h)
def S_value_caught_p0 (x0:Deferred)(x1:Value)(K:Ending→World→Prop):=pd prog [.cell x1 30] K [x0]
def S_value_caught (t0:Value)(w:World)(K:Ending→World→Prop):Prop:=
 DoX prog (mAlloc 30) w (pk K) fun t2 w=>
 DoX prog (mFunc (.func 146) #[] #[t2]) w (pk K) fun t3 w=>
 DfrX (dfrV t3 #[]) (fun d1=>
 DoX prog (mCallV t0 #[]) w (S_value_caught_p0 d1 t2 K) fun t5 w=>
 DoX prog (mStore 30 t2 (.int .i64 0)) w (S_value_caught_p0 d1 t2 K) fun _ w=>
 Leave prog [.cell t2 30] K [d1] .returning w)
theorem S_value_caught_eq (t0:Value)(w:World)(K:Ending→World→Prop):wpX prog 6 [] [] none (bodyOf Tryz.f96) (topQ prog [.cell 2 30] K) (startX [t0]) [] w=S_value_caught t0 w K:=by kernel_rfl
theorem S_value_caught_ok {t0:Value}{w:World}{K:Ending→World→Prop}(h:S_value_caught t0 w K):Calls prog 96 #[t0] w K:=
 calls_of_wpX Tryz.func96 rfl rfl rfl rfl (Eq.mpr (S_value_caught_eq t0 w K) h)
def S_value_Check (t0:Value)(w:World)(K:Ending→World→Prop):Prop:=
 DoX prog (mBox 25 t0) w (pk K) fun t1 w=>
 DoX prog (mFunc (.func 97) #[] #[t1]) w (pk K) fun t3 w=>
 CallX prog 96 #[t3] w (pk K) fun t4 w=>
 K (.returned t4) w
theorem S_value_Check_eq (t0:Value)(w:World)(K:Ending→World→Prop):wpX prog 5 [] [] none (bodyOf Tryz.f57) (topQ prog [.tmp 2] K) (startX [t0]) [] w=S_value_Check t0 w K:=by kernel_rfl
theorem S_value_Check_ok {t0:Value}{w:World}{K:Ending→World→Prop}(h:S_value_Check t0 w K):Calls prog 57 #[t0] w K:=
 calls_of_wpX Tryz.func57 rfl rfl rfl rfl (Eq.mpr (S_value_Check_eq t0 w K) h)
end
section
open Eng Go.RowKit
 attribute [local congr] g_congr
theorem within64_ret (n a b:Int)(w:World):Ret prog 201 #[.int .i64 n,.int .i64 a,.int .i64 b] w (fun v w'=>v=.bool (decide (a≤n)&&decide (n≤b))∧w=w'):=by
 refine ret_of fun K hK=>S_value_within_int64_ok ?_;unfold S_value_within_int64;simp +contextual only[rs,gs];exact hK _ _ ⟨rfl,rfl⟩
theorem withinI_ret (n a b:Int)(w:World):Ret prog 202 #[.int .i64 n,.int .i64 a,.int .i64 b] w (fun v w'=>v=.bool (decide (a≤n)&&decide (n≤b))∧w=w'):=by
 refine ret_of fun K hK=>S_value_within_int_ok ?_;unfold S_value_within_int;simp +contextual only[rs,gs];exact hK _ _ ⟨rfl,rfl⟩
theorem tw_self {p:UInt8→Bool}:∀(s:List UInt8),s.takeWhile p=s→∀x∈s,p x=true
|[],_,x,hx=>by cases hx
|a::s,h,x,hx=>by
  rw[List.takeWhile_cons] at h;split at h
  ·rename_i ha
   injection h with _ h
   rcases List.mem_cons.1 hx with rfl|hx
   ·exact ha
   ·exact tw_self s h x hx
  ·cases h
theorem dw_head {p:UInt8→Bool}:∀(s:List UInt8) {a:UInt8} {t:List UInt8},s.dropWhile p=a::t→p a=false
|[],_,_,h=>by cases h
|b::s,a,t,h=>by
  rw[List.dropWhile_cons] at h;split at h
  ·exact dw_head s h
  ·rename_i hb
   injection h with h _
   subst h;simpa using hb
theorem vkey_ret (s:List UInt8)(w:World):Ret prog 151 #[.string ⟨s.toArray⟩] w (fun v w'=>v=.bool (Vl.name s)∧w=w'):=by
 refine ret_of fun K hK=>S_value_key_ok ?_;unfold S_value_key;rw[s_len Tryz.underlying9,b_leq];by_cases h:(s.length:Int)≤127
 ·have hi:∀{K':VWP},K' (.int .i64 (Lib.indexByte s 0)) w→CallX prog 168 #[.string ⟨s.toArray⟩,.int .u8 0] w (pk K) K':=fun hk=>c_eq (indexByte_ret s 0 w) hk;simp only[h,decide_true,rs];refine hi ?_;simp only[rs];refine hK _ _ ⟨?_,rfl⟩;rw[Vl.name,decide_eq_true (show s.length≤127 by omega),Bool.true_and]
  congr 1
  rw[decide_eq_decide];rcases ix_cases 0 s with ⟨h1,h2,h3⟩|⟨i,h1,hil,h3,h4⟩
  ·rw[h1];refine⟨fun _ hm=>?_,fun _=>by decide⟩;have:=tw_self s h2 0 hm;simp at this
  ·rw[h1];refine⟨fun h=>by omega,fun hm=>absurd ?_ hm⟩;have hd:s.drop i=s[i]::s.drop (i+1):=List.drop_eq_getElem_cons hil;have h0:s[i]=0:=by
    have:=dw_head s (h4.trans hd);simpa using this
   exact h0▸List.getElem_mem hil
 ·simp only[h,decide_false,rs,g_un];refine hK _ _ ⟨?_,rfl⟩;rw[Vl.name,decide_eq_false (show ¬s.length≤127 by omega)];rfl
theorem vrising_ret (o:Ob)(v:Value)(w:World)(h:OV (InW w) w v o)(hb:o.keys.length≤9223372036854775807) :
  Ret prog 152 #[v] w (fun v w'=>v=.bool (Vl.rising o)∧Below w.heap.size w w'):=by
 obtain⟨vk,vc,cs,rfl,ha⟩:=h.open;refine ret_of fun K hK=>S_value_rising_ok ?_;unfold S_value_rising;refine o_obb o ha.keys.one ha.kids.one (Own.start w) fun b w1 ho=>?_;have lk:∀{W:World} {L:List Ent},Own w W L→∀{PK:PKT} {K:VWP},DoX prog (mB .len #[22] 3 #[false] #[vk]) W PK K=K (.int .i64 (o.keys.length:Int)) W:=fun ho=>sl_len Tryz.underlying22 (ha.own ho).keys.1;have lc:∀{W:World} {L:List Ent},Own w W L→∀{PK:PKT} {K:VWP},DoX prog (mB .len #[23] 3 #[false] #[vc]) W PK K=K (.int .i64 (o.kids.length:Int)) W:=fun ho=>sl_len Tryz.underlying23 (ha.own ho).kids.1;simp only[rs,fa_o4,fa_o5,ob_keys ho 0 rfl,ob_kids ho 0 rfl,lk ho,lc ho];by_cases hlen:(o.keys.length:Int)≠(o.kids.length:Int)
 ·simp only[decide_eq_true hlen,i_t];refine hK _ _ ⟨?_,ho.done⟩;have:¬o.keys.length=o.kids.length:=fun e=>hlen (by rw[e]);simp[Vl.rising,this]
 have hle:o.keys.length=o.kids.length:=by omega
 simp only[decide_eq_false hlen,i_f];have hR:Vl.rising o=(List.range o.keys.length).all (Vl.keyAt o):=by simp[Vl.rising,hle]
 rw[hR] at hK;refine loop (fun vs w'=>∃(i:Nat),vs=[.int .i64 i]∧i≤o.keys.length∧(List.range i).all (Vl.keyAt o)=true∧Own w w' [obE b o vk vc]) (fun vs _=>o.keys.length - n0 vs) ⟨0,rfl,by omega,by simp,ho⟩ ?_;rintro vs w2 ⟨i,rfl,hi,hall,ho⟩ _;simp only[S_value_rising_0,gd,rs];by_cases hlt:(i:Int) < (o.keys.length:Int)
 ·have hi':i < o.keys.length:=by omega
  simp only[hlt,decide_true,i_t];have ho2:=ha.own ho;refine sl_ia1 (.string ⟨(o.keys[i]).toArray⟩) Tryz.underlying22 (by kernel_rfl) ho2.keys.1 (by omega) (by rw[Int.toNat_natCast];exact strsV_get hi') fun q hq=>?_;rw[l_cell nStr5 hq];refine c_eq (vkey_ret o.keys[i] w2) ?_;obtain⟨kb,koff,hia,hkc⟩:=run_kid_k ho2.kids.1 ho2.all (show i < o.kids.length by omega);have hlk:∀{PK:PKT} {K:VWP},DoX prog (mLoad 3 (.pointer (some ⟨kb,koff,none⟩))) w2 PK K=K (.int .i64 o.kids[i].k) w2:=l_cell nInt5 hkc;have hprev:decide (0 < (i:Int))=true→∃(b' off':Nat),(∀{PK:PKT} {K:VWP},DoX prog (mIA 22 vk (.int .i64 (IntKind.wrap .i64 ((i:Int) - 1)))) w2 PK K=K (.pointer (some ⟨b',off',none⟩)) w2) ∧
    (∀{PK:PKT} {K:VWP},DoX prog (mLoad 9 (.pointer (some ⟨b',off',none⟩))) w2 PK K=K (.string ⟨(o.keys.getD (i - 1) []).toArray⟩) w2):=by
   intro h;have h:=of_decide_eq_true h;have hj:i - 1 < o.keys.length:=by omega
   obtain⟨b',off',cap',rfl,hc'⟩:=sl_open ho2.keys.1 (show 0 < o.keys.length by omega);refine⟨b',off'+(i - 1),?_,?_⟩
   ·intro PK K;rw[wrap64_id (by omega) (by omega)];refine do_eq ?_;rw[run_ia Tryz.underlying22 (show _=some 1 by kernel_rfl) (by omega) (by omega),show ((i:Int) - 1).toNat*1=i - 1 by omega]
   ·intro PK K;rw[List.getD_eq_getElem?_getD,List.getElem?_eq_getElem hj];exact l_cell nStr5 (hc' _ _ (strsV_get hj))
  have hgi:o.keys.getD i []=o.keys[i]:=by rw[List.getD_eq_getElem?_getD,List.getElem?_eq_getElem hi'];rfl
  have hgk:o.kids.getD i (.mk 0 0 0 [] [] [])=o.kids[i]'(by omega):=by rw[List.getD_eq_getElem?_getD,List.getElem?_eq_getElem (by omega)];rfl
  have tail:∀(q:Bool) (N:Prop),q=!(Vl.keyAt o i)→(Vl.keyAt o i=true→N)→IfX (.bool q) (K (.returned (.bool false)) w2) N:=by
   intro q N hq hN;cases hk:Vl.keyAt o i with
  |false=>
    rw[hk] at hq;subst hq;rw[show (!false)=true from rfl,i_t];exact hK _ _ ⟨by rw[range_all_not hk hi'],ho.done⟩
  |true=>
    rw[hk] at hq;subst hq;rw[show (!true)=false from rfl,i_f];exact hN hk
  have hki:Vl.keyAt o i=(Vl.name o.keys[i]&&(decide (i=0)||Vl.less (o.keys.getD (i - 1) []) o.keys[i])&&!(decide (o.k=9)&&decide (o.keys[i]=Vl.lenK))&&decide ((o.kids[i]'(by omega)).k≠0)):=by
   rw[Vl.keyAt,hgi,hgk]
  by_cases hi0:i=0
  ·have hz:decide (0 < (i:Int))=false:=by rw[decide_eq_false_iff_not];omega
   simp +contextual only[rs,gs,hz,sel_sel,g_off,pick_orn,Bool.and_false,Bool.not_not,Bool.or_false,fa_o0,fa_o5,ob_k ho 0 rfl,ob_kids ho 0 rfl,hia,hlk,g_un,p_f];refine tail _ _ ?_ fun hk=>?_
   ·rw[hki,decide_eq_true hi0];simp only[Bool.true_or,Bool.and_true,Vl.lenK,ne_eq,decide_not];generalize Vl.name o.keys[i]=a;generalize decide (o.k=9)=c;generalize decide ((o.kids[i]'(by omega)).k=0)=d;by_cases hL:o.keys[i]=[76,101,110,103,116,104]<;>simp only[hL,decide_true,decide_false]<;>cases a<;>cases c<;>cases d<;>rfl
   ·rw[wrap64_id (by omega) (by omega)];exact nextX ⟨i+1,rfl,by omega,by rw[range_all_succ,hall,hk];rfl,ho⟩ (by simp[n0,RowKit.intOf];omega)
  ·have hz:decide (0 < (i:Int))=true:=by rw[decide_eq_true_iff];omega
   obtain⟨b',off',hpa,hpl⟩:=hprev hz;simp +contextual only[rs,gs,hz,sel_sel,g_off,pick_orn,Bool.and_false,Bool.not_not,Bool.or_false,fa_o0,fa_o4,fa_o5,ob_k ho 0 rfl,ob_keys ho 0 rfl,ob_kids ho 0 rfl,hia,hlk,hpa,hpl,g_un];refine tail _ _ ?_ fun hk=>?_
   ·rw[hki,decide_eq_false hi0];simp only[Bool.false_or,Vl.lenK,ne_eq,decide_not];generalize Vl.name o.keys[i]=a;generalize decide (o.k=9)=c;generalize decide ((o.kids[i]'(by omega)).k=0)=d;show _=!(_&&Op.bytesLess (o.keys.getD (i - 1) []) o.keys[i]&&_&&_);generalize Op.bytesLess (o.keys.getD (i - 1) []) o.keys[i]=e;by_cases hL:o.keys[i]=[76,101,110,103,116,104]<;>simp only[hL,decide_true,decide_false]<;>cases a<;>cases c<;>cases d<;>cases e<;>rfl
   ·rw[wrap64_id (by omega) (by omega)];exact nextX ⟨i+1,rfl,by omega,by rw[range_all_succ,hall,hk];rfl,ho⟩ (by simp[n0,RowKit.intOf];omega)
 ·simp only[hlt,decide_false,i_f];refine hK _ _ ⟨?_,ho.done⟩;rw[show o.keys.length=i by omega,hall]
theorem vfits_ret (o:Ob)(v:Value)(w:World)(h:OV (InW w) w v o):Ret prog 149 #[v] w (fun v w'=>v=.bool (Vl.fits o)∧Below w.heap.size w w'):=by
 obtain⟨vk,vc,cs,rfl,ha⟩:=h.open;refine ret_of fun K hK=>S_value_fits_ok ?_;unfold S_value_fits;refine o_obb o ha.keys.one ha.kids.one (Own.start w) fun b w1 ho=>?_;simp only[fa_o0,ob_k ho 0 rfl,rs];by_cases k1:o.k=1
 ·simp only[k1,decide_true,i_t,fa_o1,ob_n ho 0 rfl];refine c_eq (within64_ret _ _ _ w1) (hK _ _ ⟨?_,ho.done⟩);rw[Vl.fits,if_pos k1,Bool.decide_and]
 by_cases k2:o.k=2
 ·simp only[k2,Int.reduceEq,decide_true,decide_false,i_t,i_f,fa_o1,ob_n ho 0 rfl];refine c_eq (within64_ret _ _ _ w1) (hK _ _ ⟨?_,ho.done⟩);rw[Vl.fits,if_neg k1,if_pos k2,Bool.decide_and]
 by_cases k3:o.k=3
 ·simp only[k3,Int.reduceEq,decide_true,decide_false,i_t,i_f,fa_o1,ob_n ho 0 rfl];refine c_eq (within64_ret _ _ _ w1) (hK _ _ ⟨?_,ho.done⟩);rw[Vl.fits,if_neg k1,if_neg k2,if_pos k3,Bool.decide_and]
 by_cases k8:o.k=8
 ·simp only[k8,Int.reduceEq,decide_true,decide_false,i_t,i_f,fa_o1,ob_n ho 0 rfl];refine c_eq (within64_ret _ _ _ w1) ?_;have hf:Vl.fits o=(decide (1≤o.n)&&decide (o.n≤8191)&&(decide (0≤o.g)&&decide (o.g≤65535))):=by
   rw[Vl.fits,if_neg k1,if_neg k2,if_neg k3,if_pos k8,Bool.decide_and,Bool.decide_and]
  rw[hf] at hK;cases hc:(decide (1≤o.n)&&decide (o.n≤8191)) with
 |false=>
   rw[hc] at hK;rw[g_ft,g_ft,g_ft,p_f];exact hK _ _ ⟨rfl,ho.done⟩
 |true=>
   rw[hc] at hK;rw[g_tt,fa_o2,g_tt,ob_g ho 0 rfl,g_tt];refine c_eq (withinI_ret _ _ _ w1) ?_;rw[p_t];exact hK _ _ ⟨rfl,ho.done⟩
 simp only[k1,k2,k3,k8,decide_false,i_f];refine hK _ _ ⟨?_,ho.done⟩;rw[Vl.fits,if_neg k1,if_neg k2,if_neg k3,if_neg k8]
def vShort (o:Ob):Bool:=if o.k=4 then decide (o.s.length≤32767) else if o.k=5 then decide (o.s.length≤127) else decide (o.s.length≤1048576)
theorem vshort_ret (o:Ob)(v:Value)(w:World)(h:OV (InW w) w v o):Ret prog 150 #[v] w (fun v w'=>v=.bool (vShort o)∧Below w.heap.size w w'):=by
 obtain⟨vk,vc,cs,rfl,ha⟩:=h.open;refine ret_of fun K hK=>S_value_short_ok ?_;unfold S_value_short;refine o_obb o ha.keys.one ha.kids.one (Own.start w) fun b w1 ho=>?_;simp only[fa_o0,ob_k ho 0 rfl,rs];have hi:∀m:Nat,decide ((o.s.length:Int)≤(m:Int))=decide (o.s.length≤m):=fun m=>by rw[decide_eq_decide];omega
 by_cases k4:o.k=4
 ·simp only[k4,decide_true,i_t,fa_o3,ob_s ho 0 rfl,s_len Tryz.underlying9,rs];refine hK _ _ ⟨?_,ho.done⟩;rw[vShort,if_pos k4,←hi];rfl
 by_cases k5:o.k=5
 ·simp only[k5,Int.reduceEq,decide_true,decide_false,i_t,i_f,fa_o3,ob_s ho 0 rfl,s_len Tryz.underlying9,rs];refine hK _ _ ⟨?_,ho.done⟩;rw[vShort,if_neg k4,if_pos k5,←hi];rfl
 simp only[k4,k5,decide_false,i_f,fa_o3,ob_s ho 0 rfl,s_len Tryz.underlying9,rs];refine hK _ _ ⟨?_,ho.done⟩;rw[vShort,if_neg k4,if_neg k5,←hi];rfl
theorem short_long {o:Ob}(h:Vl.usesOk o=true):vShort o=!decide (Vl.long o.k < o.s.length):=by
 have key:∀m:Nat,decide (o.s.length≤m)=!decide (m < o.s.length):=fun m=>by
  rw[Bool.eq_iff_iff];simp
 unfold vShort Vl.long;by_cases k4:o.k=4
 ·rw[if_pos k4,if_neg (by omega),if_neg (by omega),key]
 by_cases k5:o.k=5
 ·rw[if_neg k4,if_pos k5,if_pos k5,key]
 by_cases k9:o.k=9
 ·rw[if_neg k4,if_neg k5,if_neg k5,if_pos k9,key]
 have hs:o.s=[]:=by
  unfold Vl.usesOk Vl.used at h
  revert h
  split
  ·intro h;cases h
  ·rename_i n g s ks cs he
   intro h;simp only[Bool.and_eq_true,Bool.or_eq_true,decide_eq_true_eq] at h;have hsf:s=false:=by
    revert he
    repeat' split
    all_goals (intro he;first|(cases he;done)|skip)
    all_goals (simp only[Option.some.injEq,Prod.mk.injEq] at he;first|exact he.2.2.1.symm|omega)
   rcases h.1.1.2 with h1|h1
   ·rw[hsf] at h1;cases h1
   ·exact h1
 rw[if_neg k4,if_neg k5,if_neg k5,if_neg k9,hs];rfl
end
section
open Eng Go.RowKit
 attribute [local congr] g_congr
def uC (u:Bool×Bool×Bool×Bool×Bool):List Value:=[.bool u.1,.bool u.2.1,.bool u.2.2.1,.bool u.2.2.2.1,.bool u.2.2.2.2]
def uV (u:Bool×Bool×Bool×Bool×Bool):Value:=.agg (uC u).toArray
def uE (b:Nat)(u:Bool×Bool×Bool×Bool×Bool):Ent:=.cells b (uC u) 167
def u0:Bool×Bool×Bool×Bool×Bool:=(false,false,false,false,false)
theorem aggU:aggN prog 167=some 5:=by kernel_rfl
theorem szU:(Tryz.prog.info? 167).map (·.size)=some 5:=by kernel_rfl
theorem uC_one (u:Bool×Bool×Bool×Bool×Bool):∀v∈uC u,v.oneCell'=true:=by
 intro v hv;simp only[uC,List.mem_cons,List.not_mem_nil,or_false] at hv;rcases hv with rfl|rfl|rfl|rfl|rfl<;>rfl
theorem nBool:notAgg prog 4=true:=by kernel_rfl
section
variable {w:World}{PK:PKT}{K:VWP}{S:Nat→Prop}{w0:World}{L:List Ent}
theorem fa_u0 {b:Nat}:DoX prog (mFA 167 (.pointer (some ⟨b,0,none⟩)) 0) w PK K=K (.pointer (some ⟨b,0,none⟩)) w:=f_addr (show fOff prog 167 0=some 0 by kernel_rfl)
theorem fa_u1 {b:Nat}:DoX prog (mFA 167 (.pointer (some ⟨b,0,none⟩)) 1) w PK K=K (.pointer (some ⟨b,0+1,none⟩)) w:=f_addr (show fOff prog 167 1=some 1 by kernel_rfl)
theorem fa_u2 {b:Nat}:DoX prog (mFA 167 (.pointer (some ⟨b,0,none⟩)) 2) w PK K=K (.pointer (some ⟨b,0+2,none⟩)) w:=f_addr (show fOff prog 167 2=some 2 by kernel_rfl)
theorem fa_u3 {b:Nat}:DoX prog (mFA 167 (.pointer (some ⟨b,0,none⟩)) 3) w PK K=K (.pointer (some ⟨b,0+3,none⟩)) w:=f_addr (show fOff prog 167 3=some 3 by kernel_rfl)
theorem fa_u4 {b:Nat}:DoX prog (mFA 167 (.pointer (some ⟨b,0,none⟩)) 4) w PK K=K (.pointer (some ⟨b,0+4,none⟩)) w:=f_addr (show fOff prog 167 4=some 4 by kernel_rfl)
theorem u_put (i:Nat){b:Nat}{u:Bool×Bool×Bool×Bool×Bool}(u':Bool×Bool×Bool×Bool×Bool)(ho:OwnS S w0 w L)(hi:L[i]?=some (uE b u))(k:∀w',OwnS S w0 w' (L.set i (uE b u'))→K undef w') :
  DoX prog (mStore 167 (.pointer (some ⟨b,0,none⟩)) (uV u')) w PK K:=o_put i ho hi (new:=uC u') szU (uC_one u') rfl k
end
def usedV (k:Int):Value:=.tuple #[uV ((Vl.used k).getD u0),.bool (Vl.used k).isSome]
theorem vused_ret (k:Int)(w:World):Ret prog 148 #[.int .i64 k] w (fun v w'=>v=usedV k∧Below w.heap.size w w'):=by
 refine ret_of fun K hK=>S_value_used_ok ?_;unfold S_value_used;refine o_new (fun b=>.pointer (some ⟨b,0,none⟩)) (uC u0) 167 (fun _=>by kernel_rfl) (Own.start w) fun b w1 ho=>?_;have fin:∀(u:Bool×Bool×Bool×Bool×Bool) (ok:Bool),Vl.used k=(if ok then some u else none)→(ok=false→u=u0)→DoX prog (mStore 167 (.pointer (some ⟨b,0,none⟩)) (uV u)) w1 (pk K) fun _ w=>
   RetX prog [.cell (.pointer (some ⟨b,0,none⟩)) 167,.val (.bool ok)] w K:=by
  intro u ok hu h0;refine u_put 0 u ho rfl fun w2 ho=>?_;refine ret_v2 (rv_cell (ho.agg 0 rfl aggU)) rv_val (hK _ _ ⟨?_,ho.done⟩);rw[usedV,hu];cases ok with
 |true=>rfl
 |false=>rw[h0 rfl];rfl
 have b0:∀{PK:PKT} {K:VWP},DoX prog (mBuild 167 #[]) w1 PK K=K (uV u0) w1:=do_eq (by kernel_rfl);have b1:∀{PK:PKT} {K:VWP},DoX prog (mBuild 167 #[(0,.bool true)]) w1 PK K=K (uV (true,false,false,false,false)) w1:=do_eq (by kernel_rfl);have b2:∀{PK:PKT} {K:VWP},DoX prog (mBuild 167 #[(2,.bool true)]) w1 PK K=K (uV (false,false,true,false,false)) w1:=do_eq (by kernel_rfl);have b3:∀{PK:PKT} {K:VWP},DoX prog (mBuild 167 #[(4,.bool true)]) w1 PK K=K (uV (false,false,false,false,true)) w1:=do_eq (by kernel_rfl);have b4:∀{PK:PKT} {K:VWP},DoX prog (mBuild 167 #[(3,.bool true),(4,.bool true)]) w1 PK K=K (uV (false,false,false,true,true)) w1:=do_eq (by kernel_rfl);have b5:∀{PK:PKT} {K:VWP},DoX prog (mBuild 167 #[(0,.bool true),(1,.bool true)]) w1 PK K=K (uV (true,true,false,false,false)) w1:=do_eq (by kernel_rfl);have b6:∀{PK:PKT} {K:VWP},DoX prog (mBuild 167 #[(2,.bool true),(3,.bool true),(4,.bool true)]) w1 PK K=K (uV (false,false,true,true,true)) w1:=do_eq (by kernel_rfl);simp only[rs];by_cases k0:k=0
 ·simp only[k0,decide_true,i_t,b0];exact fin _ true (by simp[Vl.used,k0,u0]) (by simp)
 simp only[k0,decide_false,i_f];refine join fun J hJ=>?_;by_cases k123:k=1∨k=2∨k=3
 ·have:J [.bool true] w1:=by
   refine hJ _ _ fun _=>?_;simp only[S_value_used_0,gd,i_t,b1];exact fin _ true (by simp[Vl.used,k0,k123]) (by simp)
  by_cases k1:k=1
  ·simp only[k1,decide_true,i_t];exact this
  by_cases k2:k=2
  ·simp only[k2,Int.reduceEq,decide_true,decide_false,i_t,i_f];exact this
  have k3:k=3:=by omega
  simp only[k3,Int.reduceEq,decide_true,decide_false,i_t,i_f];exact this
 have k1:¬k=1:=fun h=>k123 (.inl h);have k2:¬k=2:=fun h=>k123 (.inr (.inl h));have k3:¬k=3:=fun h=>k123 (.inr (.inr h));simp only[k1,k2,k3,decide_false,i_f];refine hJ _ _ fun _=>?_;clear hJ;simp only[S_value_used_0,gd,i_f,rs];refine join fun J hJ=>?_;by_cases k45:k=4∨k=5
 ·have:J [.bool true] w1:=by
   refine hJ _ _ fun _=>?_;simp only[S_value_used_1,gd,i_t,b2];exact fin _ true (by simp[Vl.used,k0,k1,k2,k3,k45]) (by simp)
  by_cases k4:k=4
  ·simp only[k4,decide_true,i_t];exact this
  have k5:k=5:=by omega
  simp only[k5,Int.reduceEq,decide_true,decide_false,i_t,i_f];exact this
 have k4:¬k=4:=fun h=>k45 (.inl h);have k5:¬k=5:=fun h=>k45 (.inr h);simp only[k4,k5,decide_false,i_f];refine hJ _ _ fun _=>?_;clear hJ;simp only[S_value_used_1,gd,i_f,rs];by_cases k6:k=6
 ·simp only[k6,decide_true,i_t,b3];exact fin _ true (by simp[Vl.used,k6]) (by simp)
 by_cases k7:k=7
 ·simp only[k7,Int.reduceEq,decide_true,decide_false,i_t,i_f,b4];exact fin _ true (by simp[Vl.used,k7]) (by simp)
 by_cases k8:k=8
 ·simp only[k8,Int.reduceEq,decide_true,decide_false,i_t,i_f,b5];exact fin _ true (by simp[Vl.used,k8]) (by simp)
 by_cases k9:k=9
 ·simp only[k9,Int.reduceEq,decide_true,decide_false,i_t,i_f,b6];exact fin _ true (by simp[Vl.used,k9]) (by simp)
 simp only[k6,k7,k8,k9,decide_false,i_f,b0];exact fin _ false (by simp[Vl.used,k0,k123,k45,k6,k7,k8,k9]) (by simp)
theorem used_keys {k:Int}{n g s ks cs:Bool}(h:Vl.used k=some (n,g,s,ks,cs)):ks=decide (k=7∨k=9):=by
 revert h
 unfold Vl.used
 repeat' split
 all_goals (intro h;first|(cases h;done)|skip)
 all_goals simp only[Option.some.injEq,Prod.mk.injEq] at h
 all_goals rw[←h.2.2.2.1]
 all_goals symm
 all_goals first|(rw[decide_eq_false_iff_not];omega)|(rw[decide_eq_true_iff];omega)
abbrev badE (e:Int):PanicEntry:={ v:=.iface 165 (.agg #[.int .i64 e]),recovered:=false }
theorem c_must {q r:Bool}{e:Int}{w:World}{PK:PKT}{K:VWP}(h:q=r)(hok:r=true→K (.tuple #[]) w)(hbad:r=false→PK [badE e] w):CallX prog 147 #[.bool q,.int .i64 e] w PK K:=by
 subst h;refine c_any (S_value_must_ok (K:=fun e' w'=>(q=true→e'=.returned (.tuple #[])∧w'=w)∧(q=false→e'=.panicked [badE e]∧w'=w)) ?_) ?_
 ·unfold S_value_must;cases q with
 |true=>
   rw[u_not,show (!true)=false from rfl,i_f];exact⟨fun _=>⟨rfl,rfl⟩,fun h=>by cases h⟩
 |false=>
   rw[u_not,show (!false)=true from rfl,i_t];have hb:∀{PK:PKT} {K:VWP},DoX prog (mBuild 165 #[(0,.int .i64 e)]) w PK K=K (.agg #[.int .i64 e]) w:=do_eq (by kernel_rfl);rw[hb,m_iface (show notIface prog 165=true by kernel_rfl),m_panic];exact⟨fun h=>(by cases h),fun _=>⟨rfl,rfl⟩⟩
 ·rintro e' w' ⟨h1,h2⟩;cases q with
 |true=>obtain⟨rfl,rfl⟩:=h1 rfl;exact hok rfl
 |false=>obtain⟨rfl,rfl⟩:=h2 rfl;exact hbad rfl
end
section
open Eng Go.RowKit
 attribute [local congr] g_congr
theorem vcheck_any (n:Nat):∀(o:Ob) (v:Value) (d:Nat) (w:World) (K:Ending→World→Prop),o.wt≤n→OV (InW w) w v o→o.wt≤4611686018427387904→1≤d→d≤1000 →
  (Vl.check d o=0→∀w',Below w.heap.size w w'→K (.returned (.tuple #[])) w')→(Vl.check d o≠0→∀w',Below w.heap.size w w'→K (.panicked [badE (Vl.check d o)]) w') →
  Calls prog 98 #[v,.int .i64 (d:Int)] w K:=by
 induction n with
|zero=>intro o v d w K h;have:=o.wt_pos;omega
|succ n ih=>
 intro o v d w K hn hov hb hd1 hd hok hbad;obtain⟨vk,vc,cs,rfl,ha⟩:=hov.open;refine S_value_check_ok ?_;unfold S_value_check;refine o_obb o ha.keys.one ha.kids.one (Own.start w) fun b w1 ho=>?_;have out:∀(e:Int) (W:World) (L:List Ent),Own w W L→Vl.why d o=e→e≠0→(pk K) [badE e] W:=by
  intro e W L ho h1 h2;have h3:Vl.check d o=e:=by rw[why_pos (by rw[h1];exact h2),h1]
  rw[h3] at hbad;exact hbad h2 W ho.done
 rw[b_leq];refine c_must (r:=decide (d≤24)) (by rw[decide_eq_decide];omega) (fun h24=>?_) fun h24=>out 7 w1 _ ho (by rw[Vl.why,if_pos (by have:=of_decide_eq_false h24;omega)]) (by decide);have h24':¬24 < d:=by have:=of_decide_eq_true h24;omega
 rw[fa_o0,ob_k ho 0 rfl];refine c_told (vused_ret o.k w1) rfl ho fun w2 ho=>?_;simp only[usedV,ex];refine o_new (fun b=>.pointer (some ⟨b,0,none⟩)) (uC u0) 167 (fun _=>by kernel_rfl) ho fun b4 w3 ho=>?_;refine u_put 0 ((Vl.used o.k).getD u0) ho rfl fun w4 ho=>?_;have ho:Own w w4 [uE b4 ((Vl.used o.k).getD u0),obE b o vk vc]:=ho;have bad10:(Vl.usesOk o=false∨(o.k=9∧1 < d))→(pk K) [badE 10] w4:=fun h=>out 10 w4 _ ho (by rw[Vl.why,if_neg h24',if_pos h]) (by decide);have lk:∀{W:World} {L:List Ent},Own w W L→∀{PK:PKT} {K:VWP},DoX prog (mB .len #[22] 3 #[false] #[vk]) W PK K=K (.int .i64 (o.keys.length:Int)) W:=fun ho=>sl_len Tryz.underlying22 (ha.own ho).keys.1;have lc:∀{W:World} {L:List Ent},Own w W L→∀{PK:PKT} {K:VWP},DoX prog (mB .len #[23] 3 #[false] #[vc]) W PK K=K (.int .i64 (o.kids.length:Int)) W:=fun ho=>sl_len Tryz.underlying23 (ha.own ho).kids.1;cases hu:Vl.used o.k with
|none=>
  have hb10:=bad10 (.inl (by rw[Vl.usesOk,hu]));simp only[Option.isSome_none,rs,g_un];exact c_must (r:=false) rfl (fun h=>by cases h) fun _=>hb10
|some u=>
 obtain⟨un,ug,us,uks,ucs⟩:=u;rw[hu,Option.getD_some] at ho;have hUo:Vl.usesOk o=((un||decide (o.n=0))&&(ug||decide (o.g=0))&&(us||decide (o.s=[]))&&(uks||decide (o.keys=[]))&&(ucs||decide (o.kids.length=0))):=by rw[Vl.usesOk,hu]
 have l0:∀{PK:PKT} {K:VWP},DoX prog (mLoad 4 (.pointer (some ⟨b4,0,none⟩))) w4 PK K=K (.bool un) w4:=l_cell nBool (ho.cell 0 rfl 0 rfl);have l1:∀{PK:PKT} {K:VWP},DoX prog (mLoad 4 (.pointer (some ⟨b4,0+1,none⟩))) w4 PK K=K (.bool ug) w4:=l_cell nBool (ho.cell 0 rfl 1 rfl);have l2:∀{PK:PKT} {K:VWP},DoX prog (mLoad 4 (.pointer (some ⟨b4,0+2,none⟩))) w4 PK K=K (.bool us) w4:=l_cell nBool (ho.cell 0 rfl 2 rfl);have l3:∀{W:World} {L:List Ent},Own w W (uE b4 (un,ug,us,uks,ucs)::L)→∀{PK:PKT} {K:VWP},DoX prog (mLoad 4 (.pointer (some ⟨b4,0+3,none⟩))) W PK K=K (.bool uks) W:=fun ho=>l_cell nBool (ho.cell 0 rfl 3 rfl);have l4:∀{PK:PKT} {K:VWP},DoX prog (mLoad 4 (.pointer (some ⟨b4,0+4,none⟩))) w4 PK K=K (.bool ucs) w4:=l_cell nBool (ho.cell 0 rfl 4 rfl);simp +contextual only[Option.isSome_some,rs,gs,sel_sel,g_off,pick_orn,Bool.and_false,Bool.not_not,Bool.or_false,fa_u0,fa_u1,fa_u2,fa_u3,fa_u4,l0,l1,l2,l3 ho,l4,fa_o0,fa_o1,fa_o2,fa_o3,fa_o4,fa_o5,ob_k ho 1 rfl,ob_n ho 1 rfl,ob_g ho 1 rfl,ob_s ho 1 rfl,ob_keys ho 1 rfl,ob_kids ho 1 rfl,lk ho,lc ho,e_nil];refine c_must (r:=Vl.usesOk o&&!(decide (o.k=9)&&decide (1 < d))) ?_ (fun hq=>?_) fun hq=>?_
 ·rw[hUo,ilen0 o.keys,ilenN o.kids]
  congr 1
  by_cases h9:o.k=9
  ·simp only[h9,ne_eq,not_true,decide_false,Bool.or_false,decide_true,Bool.true_and];rw[Bool.eq_iff_iff];simp;omega
  ·simp only[h9,ne_eq,not_false_eq_true,decide_true,Bool.or_true,decide_false,Bool.false_and,Bool.not_false]
 rotate_left
 ·refine bad10 ?_;rw[Bool.and_eq_false_iff] at hq;rcases hq with h|h
  ·exact .inl h
  ·right;have:(decide (o.k=9)&&decide (1 < d))=true:=by simpa using h
   rw[Bool.and_eq_true] at this;exact⟨of_decide_eq_true this.1,of_decide_eq_true this.2⟩
 rw[Bool.and_eq_true] at hq;obtain⟨huo,hq9⟩:=hq;have hno:¬(Vl.usesOk o=false∨(o.k=9∧1 < d)):=by
  rintro (h|⟨h1,h2⟩)
  ·rw[huo] at h;cases h
  ·rw[decide_eq_true h1,decide_eq_true h2] at hq9;cases hq9
 rw[ob_v ho 1 rfl];refine c_told (vfits_ret o _ w4 (ha.in_ ho).ov) rfl ho fun w5 ho=>?_;refine c_must (r:=Vl.fits o) rfl (fun hfi=>?_) fun hfi=>out 2 w5 _ ho (by rw[Vl.why,if_neg h24',if_neg hno,if_pos hfi]) (by decide);have hfi':¬Vl.fits o=false:=by rw[hfi];decide
 rw[ob_v ho 1 rfl];refine c_told (vshort_ret o _ w5 (ha.in_ ho).ov) rfl ho fun w6 ho=>?_;refine c_must (r:=!decide (Vl.long o.k < o.s.length)) (short_long huo) (fun hlo=>?_) fun hlo=>out 5 w6 _ ho (by rw[Vl.why,if_neg h24',if_neg hno,if_neg hfi',if_pos (by simpa using hlo)]) (by decide);have hlo':¬Vl.long o.k < o.s.length:=by simpa using hlo
 rw[ob_kids ho 1 rfl,lc ho,b_leq];refine c_must (r:=decide (o.kids.length≤8191)) (by rw[decide_eq_decide];omega) (fun hm=>?_) fun hm=>out 6 w6 _ ho (by rw[Vl.why,if_neg h24',if_neg hno,if_neg hfi',if_neg hlo',if_pos (by have:=of_decide_eq_false hm;omega)]) (by decide);have hm':¬8191 < o.kids.length:=by have:=of_decide_eq_true hm;omega
 rw[ob_k ho 1 rfl,n_int];have huk:=used_keys hu
 -- behind the form: the kids
 have rest:∀(W:World),Vl.form o=true→Own w W [uE b4 (un,ug,us,uks,ucs),obE b o vk vc] →
   DoX prog (mLoad 23 (.pointer (some ⟨b,0+5,none⟩))) W (pk K) fun t105 w=>
   DoX prog (mB .len #[23] 3 #[false] #[t105]) w (pk K) fun t106 w=>
   LoopX [(.int .i64 0)] w (fun vs1 w N1=>∀_:Sg,S_value_check_0 (.int .i64 (d:Int)) t105 t106 (vs1.getD 0 undef) w N1 K):=by
  intro W hfo ho;have hw0:Vl.why d o=0:=by rw[Vl.why,if_neg h24',if_neg hno,if_neg hfi',if_neg hlo',if_neg hm',if_neg (by rw[hfo];decide)]
  have hch:Vl.check d o=Vl.checks (d+1) o.kids:=by rw[Vl.check_eq,if_neg (by simp[hw0])]
  rw[hch] at hok hbad;rw[ob_kids ho 1 rfl,lc ho];refine loop (fun vs w'=>∃(i:Nat),vs=[.int .i64 i]∧i≤o.kids.length∧Vl.checks (d+1) o.kids=Vl.checks (d+1) (o.kids.drop i)∧Own w w' [uE b4 (un,ug,us,uks,ucs),obE b o vk vc]) (fun vs _=>o.kids.length - n0 vs) ⟨0,rfl,by omega,rfl,ho⟩ ?_;rintro vs w6 ⟨i,rfl,hi,hT,ho⟩ _;rw[hT] at hok hbad;simp only[S_value_check_0,gd,rs];by_cases hlt:(i:Int) < (o.kids.length:Int)
  ·have hi':i < o.kids.length:=by omega
   simp only[hlt,decide_true,i_t];rw[checks_drop _ _ _ hi'] at hok hbad hT;have hai:=ha.own ho;refine ob_ia hai.kids.1 hai.all hi' fun v hv=>?_;obtain⟨vk',vc',cs',rfl,hkid⟩:=hv.open;have ho6:=ho;refine o_oba ho fun b7 w7 ho=>?_;refine ob_put 0 hkid.keys.one hkid.kids.one ho rfl fun w8 ho=>?_;have ho:Own w w8 [obE b7 o.kids[i] vk' vc',uE b4 (un,ug,us,uks,ucs),obE b o vk vc]:=ho;rw[ob_v ho 0 rfl,wrap64_id (by omega) (by omega),show (d:Int)+1=((d+1:Nat):Int) by omega];have hkw:=kid_wt hi';refine c_any (ih o.kids[i] _ (d+1) w8 _ (by omega) (hkid.later ho6 ho).ov (by omega) (by omega) (by omega) (fun hc0 w9 hb9=>?_) (fun hc0 w9 hb9=>?_)) (fun _ _ h=>h)
   ·have ho:=ho.grow hb9;rw[if_neg (by simp[hc0])] at hT;simp only[Cont,rs];rw[wrap64_id (by omega) (by omega)];exact nextX ⟨i+1,rfl,by omega,hT,ho.tail⟩ (by simp[n0,RowKit.intOf];omega)
   ·rw[if_pos hc0] at hbad;exact hbad hc0 w9 (ho.grow hb9).done
  ·simp only[hlt,decide_false,i_f];rw[List.drop_of_length_le (by omega),Vl.checks] at hok;exact hok rfl w6 ho.done
 have bad3:∀(W:World) (L:List Ent),Own w W L→Vl.form o=false→(pk K) [badE 3] W:=fun W L ho h=>out 3 W _ ho (by rw[Vl.why,if_neg h24',if_neg hno,if_neg hfi',if_neg hlo',if_neg hm',if_pos h]) (by decide);by_cases k5:o.k=5
 ·have k79:¬(o.k=7∨o.k=9):=by omega
  have hks:uks=false:=by rw[huk,decide_eq_false k79]
  have hf:Vl.form o=Vl.name o.s:=by simp[Vl.form,k5]
  rw[show decide (o.k≠5)=false by rw[decide_eq_false_iff_not];omega,g_ff,ob_s ho 1 rfl,g_ff];refine c_eq (vkey_ret o.s w6) ?_;rw[p_f];cases hnm:Vl.name o.s with
 |false=>
   rw[g_ft,g_ft,show sel (wants (Value.bool false) true) undef=undef from rfl,g_un,g_un,g_ft,p_f];exact c_must (r:=false) rfl (fun h=>by cases h) fun _=>bad3 w6 _ ho (by rw[hf,hnm])
 |true=>
   rw[g_tt,l3 ho,hks,g_tt,u_not,show (!false)=true from rfl,show sel (wants (Value.bool true) true) (Value.bool true)=.bool true from rfl,g_tf,g_tf,g_tt,p_t,p_t];exact c_must (r:=true) rfl (fun _=>rest w6 (by rw[hf,hnm]) ho) fun h=>by cases h
 ·rw[show decide (o.k≠5)=true by rw[decide_eq_true_iff];exact k5,g_tf,g_tf,p_t,g_tt,l3 ho,g_tt,u_not];cases hks:uks with
 |false=>
   have k79:¬(o.k=7∨o.k=9):=by rw[huk,decide_eq_false_iff_not] at hks;exact hks
   rw[show (!false)=true from rfl,show sel (wants (Value.bool true) true) (Value.bool true)=.bool true from rfl,g_tf,g_tf,g_tt,p_t,p_t];rw[hks] at ho rest;exact c_must (r:=true) rfl (fun _=>rest w6 (by simp[Vl.form,k5,k79]) ho) fun h=>by cases h
 |true=>
   have k79:o.k=7∨o.k=9:=by rw[huk,decide_eq_true_iff] at hks;exact hks
   have hf:Vl.form o=Vl.rising o:=by simp[Vl.form,k5,k79]
   rw[show (!true)=false from rfl,show sel (wants (Value.bool true) true) (Value.bool false)=.bool false from rfl,g_ff,ob_v ho 1 rfl,g_ff];refine c_told (vrising_ret o _ w6 (ha.in_ ho).ov (by have:=key_len (o:=o);omega)) rfl ho fun w7 ho=>?_;rw[g_tt,p_f,p_t];rw[hks] at ho rest;exact c_must (r:=Vl.form o) hf.symm (fun hfo=>rest w7 hfo ho) fun h=>bad3 w7 _ ho h
theorem caught_plain:plainB prog 146=true:=by kernel_rfl
theorem leave_fn {rs:List RV}{K:Ending→World→Prop}{f:Nat}{args caps:Array Value}{ds:List Deferred}{u:FrameMode}(hu:u≠.run)(hp:plainB prog f=true){w:World}
  (h:CallsD prog f (args++caps) u w fun
   |.returned _,u',w'=>Leave prog rs K ds (settle u') w'
   |.panicked chain,u',w'=>Leave prog rs K ds (raised u' chain) w'
   |.outgrown,_,_=>False):Leave prog rs K ({ target:=.fn (.func f) caps,args:=args }::ds) u w:=
 ⟨hu,.func f,caps,f,args++caps,rfl,by simpa[invoke] using plain_run hp _ w,h⟩
theorem run_plain:plainB prog 97=true:=by kernel_rfl
abbrev nErr5:notAgg prog 30=true:=by kernel_rfl
theorem vCheck_ret (o:Ob)(v:Value)(w:World)(h:OV (InW w) w v o)(hb:o.wt≤4611686018427387904):Ret prog 57 #[v] w (fun v w'=>v=.int .i64 (Vl.check 1 o)∧Below w.heap.size w w'):=by
 refine ret_of fun K hK=>S_value_Check_ok ?_;obtain⟨vk,vc,cs,rfl,ha⟩:=h.open;unfold S_value_Check;refine o_obb o ha.keys.one ha.kids.one (Own.start w) fun b w1 ho=>?_;rw[m_func];refine c_any (S_value_caught_ok (K:=fun e w'=>e=.returned (.int .i64 (Vl.check 1 o))∧Below w.heap.size w w') ?_) ?_
 rotate_left
 ·rintro e w' ⟨rfl,hb'⟩;exact hK _ _ ⟨rfl,hb'⟩
 unfold S_value_caught;refine o_new (fun b=>.pointer (some ⟨b,0,none⟩)) [.int .i64 0] 30 (fun _=>by kernel_rfl) ho fun b2 w2 ho=>?_;rw[m_func];refine⟨_,rfl,?_⟩;refine c_val run_plain ?_;show CallX prog _ #[.pointer (some ⟨b,0,none⟩)] _ _ _;refine c_any (S_value_Check_1_ok (K:=fun e w'=>(Vl.check 1 o=0→e=.returned (.tuple #[])∧Below w2.heap.size w2 w')∧(Vl.check 1 o≠0→e=.panicked [badE (Vl.check 1 o)]∧Below w2.heap.size w2 w')) ?_) ?_
 ·unfold S_value_Check_1;rw[ob_v ho 1 rfl];refine c_any (vcheck_any o.wt o _ 1 w2 (fun e w'=>(Vl.check 1 o=0→e=.returned (.tuple #[])∧Below w2.heap.size w2 w')∧(Vl.check 1 o≠0→e=.panicked [badE (Vl.check 1 o)]∧Below w2.heap.size w2 w')) (Nat.le_refl _) (ha.in_ ho).ov hb (by omega) (by omega)
   (fun h0 w' hb'=>⟨fun _=>⟨rfl,hb'⟩,fun h=>absurd h0 h⟩) (fun h0 w' hb'=>⟨fun h=>absurd h h0,fun _=>⟨rfl,hb'⟩⟩)) ?_
  rintro e w' ⟨h1,h2⟩;by_cases h0:Vl.check 1 o=0
  ·obtain⟨rfl,hb'⟩:=h1 h0;exact⟨fun _=>⟨rfl,hb'⟩,fun h=>absurd h0 h⟩
  ·obtain⟨rfl,hb'⟩:=h2 h0;exact⟨fun h=>absurd h h0,fun _=>⟨rfl,hb'⟩⟩
 rintro e w' ⟨h1,h2⟩;by_cases h0:Vl.check 1 o=0
 ·obtain⟨rfl,hb'⟩:=h1 h0;simp only[Cont];have ho:=ho.grow hb';refine o_store 0 ho rfl (by kernel_rfl) rfl (by simp) fun w4 ho=>?_;refine leave_fn (by simp) caught_plain (S_value_caught_1_dok ?_);simp only[S_value_caught_1,recV,recM,Eng.e_nil Tryz.underlying20,rs];refine ret_cell1 nErr5 (ho.cell 0 rfl 0 rfl) (And.intro ?_ ho.done);rw[h0]
 ·obtain⟨rfl,hb'⟩:=h2 h0;simp only[Cont,S_value_caught_p0,pd];have ho:=ho.grow hb';refine leave_fn (by simp) caught_plain (S_value_caught_1_dok ?_);simp only[S_value_caught_1,recV,recM,Eng.e_some Tryz.underlying20,rs,t_hit (show notIface prog 165=true by kernel_rfl),
   x_ext (show [Value.agg #[.int .i64 (Vl.check 1 o)],Value.bool true][1]?=some (Value.bool true) from rfl),x_ext (show [Value.agg #[.int .i64 (Vl.check 1 o)],Value.bool true][0]?=some (Value.agg #[.int .i64 (Vl.check 1 o)]) from rfl)]
  refine o_new (fun b=>.pointer (some ⟨b,0,none⟩)) [.int .i64 0] 165 (fun _=>by kernel_rfl) ho fun b5 w5 ho=>?_;refine o_put 0 ho rfl (new:=[.int .i64 (Vl.check 1 o)]) (show (Tryz.prog.info? 165).map (·.size)=some 1 by kernel_rfl) (by simp;rfl) rfl fun w6 ho=>?_;rw[f_addr (show fOff prog 165 0=some 0 by kernel_rfl),l_cell nErr5 (ho.cell 0 rfl 0 rfl)];refine o_store 1 ho rfl (by kernel_rfl) rfl (by simp) fun w7 ho=>?_;exact ret_cell1 nErr5 (ho.cell 1 rfl 0 rfl) (And.intro rfl ho.done)
end
section
open Eng Go.RowKit
theorem isnanC_ret (x:List UInt8)(w:World):Ret prog 238 #[.string ⟨x.toArray⟩] w (fun v w'=>v=.bool false∧w=w'):=by
 refine ret_of fun K hK=>S_cmp_isNaN_string_ok ?_;unfold S_cmp_isNaN_string;rw[n_str];exact hK _ _ ⟨by simp,rfl⟩
theorem isnanS_ret (x:List UInt8)(w:World):Ret prog 184 #[.string ⟨x.toArray⟩] w (fun v w'=>v=.bool false∧w=w'):=by
 refine ret_of fun K hK=>S_slices_isNaN_string_ok ?_;unfold S_slices_isNaN_string;rw[n_str];exact hK _ _ ⟨by simp,rfl⟩
theorem cless_ret (x y:List UInt8)(w:World):Ret prog 183 #[.string ⟨x.toArray⟩,.string ⟨y.toArray⟩] w (fun v w'=>v=.bool (Vl.less x y)∧w=w'):=by
 refine ret_of fun K hK=>S_cmp_Less_string_ok ?_;unfold S_cmp_Less_string;refine c_eq (isnanC_ret x w) ?_;simp only[rs,s_lss];exact hK _ _ ⟨rfl,rfl⟩
theorem shr1 {a:Int}(h0:0≤a)(h1:a≤4611686018427387904):Int.fdiv (IntKind.wrap .u64 a) (2 ^ (min (1:Int).toNat IntKind.u64.bits))=a / 2:=by
 rw[wrapu64_id h0 (by omega)];show Int.fdiv a 2=a / 2;rw[Int.fdiv_eq_ediv_of_nonneg _ (by omega)]
theorem bsearch_ret (va:Value)(l:List (List UInt8))(x:List UInt8)(w:World)(ha:Sl w va 1 l.length (strsV l))(hr:Vl.Rise l)(hl:l.length≤1099511627776) :
  Ret prog 130 #[va,.string ⟨x.toArray⟩] w (fun v w'=>v=.tuple #[.int .i64 (Vl.place l x:Nat),.bool (Vl.hit l x)]∧w=w'):=by
 refine ret_of fun K hK=>S_slices_BinarySearch_string_string_ok ?_;unfold S_slices_BinarySearch_string_string;rw[sl_len Tryz.underlying22 ha];refine loop (fun vs w'=>∃(i j:Nat),vs=[.int .i64 i,.int .i64 j]∧i≤j∧j≤l.length∧(∀m (h:m < l.length),m < i→Vl.less l[m] x=true)∧(∀m (h:m < l.length),j≤m→Vl.less l[m] x=false)∧w=w') (fun vs _=>n1 vs - n0 vs)
  ⟨0,l.length,rfl,by omega,by omega,fun m _ h=>by omega,fun m h1 h2=>by omega,rfl⟩ ?_
 rintro vs w2 ⟨i,j,rfl,hij,hj,hlo,hhi,rfl⟩ _;simp only[S_slices_BinarySearch_string_string_0,gd,rs];by_cases hlt:(i:Int) < (j:Int)
 ·simp only[hlt,decide_true,i_t];rw[wrap64_id (by omega) (by omega),c_int (show (Tryz.prog.underlying 3).isSome=true by kernel_rfl) Tryz.underlying139,b_shr (by omega),shr1 (by omega) (by omega),
   c_int (show (Tryz.prog.underlying 139).isSome=true by kernel_rfl) Tryz.underlying3,wrap64_id (by omega) (by omega)]
  obtain⟨h,hh⟩:∃h:Nat,((i:Int)+(j:Int)) / 2=(h:Int):=⟨(i+j) / 2,by omega⟩;rw[hh];have h1:i≤h:=by omega
  have h2:h < j:=by omega
  have h3:h < l.length:=by omega
  refine sl_ia1 (.string ⟨(l[h]).toArray⟩) Tryz.underlying22 (by kernel_rfl) ha (by omega) (by rw[Int.toNat_natCast];exact strsV_get h3) fun q hq=>?_;rw[l_cell nStrI hq];refine c_eq (cless_ret l[h] x w) ?_;cases hc:Vl.less l[h] x with
 |true=>
   simp only[rs];rw[wrap64_id (by omega) (by omega)];refine nextX ⟨h+1,j,rfl,by omega,by omega,fun m hm hmi=>?_,hhi,rfl⟩ (by simp[n0,n1,RowKit.intOf];omega);rcases Nat.lt_or_ge m h with h4|h4
   ·exact Vl.less_trans (Vl.rise_get hr h4 h3) hc
   ·have:m=h:=by omega
    subst this;exact hc
 |false=>
   simp only[rs];refine nextX ⟨i,h,rfl,by omega,by omega,hlo,fun m hm hmi=>?_,rfl⟩ (by simp[n0,n1,RowKit.intOf];omega);rcases Nat.lt_or_ge h m with h4|h4
   ·cases hm2:Vl.less l[m] x with
   |false=>rfl
   |true=>have:=Vl.less_trans (Vl.rise_get hr h4 hm) hm2;rw[hc] at this;cases this
   ·have:m=h:=by omega
    subst this;exact hc
 ·have he:i=j:=by omega
  subst he;simp only[hlt,decide_false,i_f];have hp:Vl.place l x=i:=Vl.place_at hj hlo (fun h=>hhi i h (Nat.le_refl _));by_cases hn:(i:Int) < (l.length:Int)
  ·have hi':i < l.length:=by omega
   simp only[hn,decide_true,rs];refine sl_ia1 (.string ⟨(l[i]).toArray⟩) Tryz.underlying22 (by kernel_rfl) ha (by omega) (by rw[Int.toNat_natCast];exact strsV_get hi') fun q hq=>?_;rw[l_cell nStrI hq];simp only[rs];by_cases hx:l[i]=x
   ·simp only[hx,decide_true,rs,g_un];refine hK _ _ ⟨?_,rfl⟩;rw[hp];unfold Vl.hit;rw[hp,List.getElem?_eq_getElem hi',hx];simp
   ·simp only[hx,decide_false,rs];refine sl_ia1 (.string ⟨(l[i]).toArray⟩) Tryz.underlying22 (by kernel_rfl) ha (by omega) (by rw[Int.toNat_natCast];exact strsV_get hi') fun q hq=>?_;rw[l_cell nStrI hq];refine c_eq (isnanS_ret l[i] w) ?_;simp only[rs];refine hK _ _ ⟨?_,rfl⟩;rw[hp];unfold Vl.hit;rw[hp,List.getElem?_eq_getElem hi'];simp[hx]
  ·simp only[hn,decide_false,rs,g_un];refine hK _ _ ⟨?_,rfl⟩;rw[hp];unfold Vl.hit;rw[hp,List.getElem?_eq_none (by omega)];simp
end
end Go.Proofs.YtkejpieaafeblaaGreatDoor

namespace Go.Proofs.YtkejpieaafeblaaGreatDoor
section
open Go
theorem Ob.len_wts:∀os:List Ob,os.length≤Ob.wts os
|[]=>by simp
|o::os=>by
  have:=Ob.len_wts os;have:1≤o.wt:=by cases o;rw[Ob.wt];omega
  rw[Ob.wts,List.length_cons];omega
namespace Wr
def num (n:Int):List UInt8:=(Pl.pInt n).1
def nul:List UInt8:=[110,117,108,108]
def tru:List UInt8:=[116,114,117,101]
def fal:List UInt8:=[102,97,108,115,101]
def leaf (k n:Int)(s:List UInt8):List UInt8:=
 if k=1 then (if n=0 then fal else tru)
 else if k=2 then num n
 else if k=3 then (Pl.pReal n).1
 else if k=4 then (Pl.pStr s).1
 else if k=5 then (Pl.pName s).1
 else nul
 mutual
def parts:Ob→List (List UInt8)
|.mk k n g s keys kids=>
  if k=8 then [num n,num g,[82]]
  else if k=6 then [91]::(partsL kids++[[93]])
  else if k=7 then [60,60]::(partsD keys kids++[[62,62]])
  else [leaf k n s]
def partsL:List Ob→List (List UInt8)
|[]=>[]
|o::os=>parts o++partsL os
def partsD (keys:List (List UInt8)):List Ob→List (List UInt8)
|[]=>[]
|o::os=>match keys with
 |[]=>[]
 |key::ks=>(Pl.pName key).1::(parts o++partsD ks os)
end
theorem parts_eq (o:Ob):parts o=if o.k=8 then [num o.n,num o.g,[82]] else if o.k=6 then [91]::(partsL o.kids++[[93]]) else if o.k=7 then [60,60]::(partsD o.keys o.kids++[[62,62]]) else [leaf o.k o.n o.s]:=by
 cases o;rw[parts];rfl
theorem partsL_app:∀(a b:List Ob),partsL (a++b)=partsL a++partsL b
|[],b=>by simp[partsL]
|o::a,b=>by rw[List.cons_append,partsL,partsL,partsL_app a b,List.append_assoc]
theorem partsL_succ (os:List Ob)(i:Nat)(h:i < os.length):partsL (os.take (i+1))=partsL (os.take i)++parts os[i]:=by
 rw[List.take_succ_eq_append_getElem h,partsL_app];simp[partsL]
theorem partsD_succ:∀(ks:List (List UInt8)) (os:List Ob) (i:Nat) (h1:i < ks.length) (h2:i < os.length),partsD (ks.take (i+1)) (os.take (i+1))=partsD (ks.take i) (os.take i)++(Pl.pName ks[i]).1::parts os[i]
|key::ks,o::os,0,_,_=>by simp[partsD]
|key::ks,o::os,i+1,h1,h2=>by
  rw[List.take_succ_cons,List.take_succ_cons,partsD,partsD_succ ks os i (by simpa using h1) (by simpa using h2),List.take_succ_cons,List.take_succ_cons,partsD];simp
|[],_,_,h1,_=>by simp at h1
|_,[],_,_,h2=>by simp at h2
theorem partsD_min:∀(ks:List (List UInt8)) (os:List Ob) (i:Nat),ks.length≤i∨os.length≤i→partsD (ks.take i) (os.take i)=partsD ks os
|_,[],i,_=>by simp[partsD]
|[],o::os,i,_=>by
  cases i with
 |zero=>simp[partsD]
 |succ i=>simp[partsD]
|key::ks,o::os,i,h=>by
  cases i with
 |zero=>simp at h
 |succ i=>
   rw[List.take_succ_cons,List.take_succ_cons,partsD,partsD,partsD_min ks os i (by simpa using h)]
theorem partsD_nil (os:List Ob):partsD [] os=[]:=by cases os<;>rw[partsD]
theorem partsD_split:∀(ks:List (List UInt8)) (os:List Ob) (i:Nat),partsD ks os=partsD (ks.take i) (os.take i)++partsD (ks.drop i) (os.drop i)
|_,_,0=>by simp[partsD]
|_,[],i+1=>by simp[partsD]
|[],o::os,i+1=>by simp[partsD_nil]
|key::ks,o::os,i+1=>by
  rw[List.take_succ_cons,List.take_succ_cons,List.drop_succ_cons,List.drop_succ_cons,partsD,partsD,partsD_split ks os i];simp
theorem num_len (n:Int):(num n).length≤21:=by
 unfold num Pl.pInt;split
 ·exact Lib.itoa_length_le n (by omega) (by omega)
 ·simp
theorem real_len (n:Int):(Pl.pReal n).1.length≤200:=by
 unfold Pl.pReal;split
 ·show (Fx.text n).length≤200;unfold Fx.text;have h1:=Fx.row_len (n.natAbs / 10000) 1;have h2:=Fx.fpart_len n.natAbs;rw[if_pos (by assumption)];have h3:(if n < 0 then ([45]:List UInt8) else []).length≤1:=by split<;>simp
  simp only[List.length_append,List.length_cons,List.length_nil];omega
 ·simp
theorem str_len (s:List UInt8):(Pl.pStr s).1.length≤4*s.length+2:=by
 unfold Pl.pStr;split
 ·simp
 ·have:=Pl.flat_len Pl.esc 4 (fun c=>(Pl.esc_len c).2) s;simp[Pl.str];simp at this;omega
theorem name_len (s:List UInt8):(Pl.pName s).1.length≤3*s.length+1:=by
 unfold Pl.pName;split
 ·simp
 split
 ·simp
 ·have:=Pl.flat_len Pl.nmc 3 (fun c=>(Pl.nmc_len c).2) s;simp[Pl.name];simp at this;omega
theorem leaf_len (k n:Int)(s:List UInt8):(leaf k n s).length≤200+4*s.length:=by
 unfold leaf;split
 ·split<;>simp[fal,tru]<;>omega
 split
 ·have:=num_len n;omega
 split
 ·have:=real_len n;omega
 split
 ·have:=str_len s;omega
 split
 ·have:=name_len s;omega
 ·simp[nul];omega
 mutual
theorem parts_len:∀o:Ob,(parts o).length+3≤o.wt
|.mk k n g s keys kids=>by
  have h1:=partsL_len kids;have h2:=partsD_len keys kids;have h3:=Ob.wts kids;rw[parts,Ob.wt];split
  ·simp;omega
  split
  ·simp;omega
  split
  ·simp;omega
  ·simp;omega
theorem partsL_len:∀os:List Ob,(partsL os).length+3*os.length≤Ob.wts os
|[]=>by simp[partsL]
|o::os=>by
  have:=parts_len o;have:=partsL_len os;rw[partsL,Ob.wts];simp;omega
theorem partsD_len (keys:List (List UInt8)):∀os:List Ob,(partsD keys os).length+2*os.length≤Ob.wts os
|[]=>by simp[partsD]
|o::os=>by
  have:=parts_len o;cases keys with
 |nil=>rw[partsD,Ob.wts];have:=partsD_len [] os;simp;omega
 |cons key ks=>have:=partsD_len ks os;rw[partsD,Ob.wts];simp;omega
end
 mutual
theorem parts_tot:∀o:Ob,Pl.tot (parts o)≤40*o.wt
|.mk k n g s keys kids=>by
  have h1:=partsL_tot kids;have h2:=partsD_tot keys kids;rw[parts,Ob.wt];split
  ·have:=num_len n;have:=num_len g;simp[Pl.tot];omega
  split
  ·rw[show [91]::(partsL kids++[[93]])=[[91]]++(partsL kids++[[93]]) from rfl,Pl.tot_append,Pl.tot_append];simp[Pl.tot] at *;omega
  split
  ·rw[show [60,60]::(partsD keys kids++[[62,62]])=[[60,60]]++(partsD keys kids++[[62,62]]) from rfl,Pl.tot_append,Pl.tot_append];simp[Pl.tot] at *;omega
  ·have:=leaf_len k n s;simp[Pl.tot];omega
theorem partsL_tot:∀os:List Ob,Pl.tot (partsL os)≤40*Ob.wts os
|[]=>by simp[partsL,Pl.tot]
|o::os=>by
  have:=parts_tot o;have:=partsL_tot os;rw[partsL,Ob.wts,Pl.tot_append];omega
theorem partsD_tot (keys:List (List UInt8)):∀os:List Ob,Pl.tot (partsD keys os)≤40*Ob.wts os+3*Pl.tot keys
|[]=>by simp[partsD,Pl.tot]
|o::os=>by
  have:=parts_tot o;cases keys with
 |nil=>simp[partsD,Pl.tot]
 |cons key ks=>
   have:=partsD_tot ks os;have:=name_len key;rw[partsD,Ob.wts,show (Pl.pName key).1::(parts o++partsD ks os)=[(Pl.pName key).1]++(parts o++partsD ks os) from rfl,show key::ks=[key]++ks from rfl,Pl.tot_append,Pl.tot_append,Pl.tot_append];simp[Pl.tot] at *;omega
end
def text (o:Ob):List UInt8×Int:=if Vl.check 1 o≠0 then ([],Vl.check 1 o) else if o.k=9 then ([],10) else (Pl.join (parts o),0)
theorem text_len (o:Ob):(text o).1.length≤40*o.wt:=by
 unfold text;split
 ·simp
 split
 ·simp
 ·have:=Pl.join_len (parts o);have:=parts_tot o;simp only;omega
theorem check_kids {d:Nat}{o:Ob}(h:Vl.check d o=0):∀x∈o.kids,Vl.check (d+1) x=0:=by
 rw[Vl.check_eq] at h;split at h
 ·rename_i hw;exact absurd h hw
 ·generalize o.kids=os at h ⊢
  induction os with
 |nil=>intro x hx;cases hx
 |cons a os ih=>
   rw[Vl.checks] at h;split at h
   ·rename_i hw;exact absurd h hw
   ·rename_i hw
    intro x hx;rcases List.mem_cons.1 hx with rfl|hx
    ·exact Classical.not_not.1 hw
    ·exact ih h x hx
theorem check_why {d:Nat}{o:Ob}(h:Vl.check d o=0):Vl.why d o=0:=by
 rw[Vl.check_eq] at h;split at h
 ·exact h
 ·rename_i hw;exact Classical.not_not.1 hw
end Wr
end
end Go.Proofs.YtkejpieaafeblaaGreatDoor


namespace Go.Proofs.YtkejpieaafeblaaGreatDoor
section
open Eng Go.RowKit
abbrev BRow (v:Value)(l:List UInt8):Ent:=.row 5 1 v l.length (bytesV l)
theorem o_appB {S:Nat→Prop}{w0 w:World}{L:List Ent}{v:Value}{l m:List UInt8}{parts:Array (Nat×Value)}{n:Nat}{cs:Array Bool}{PK PK2:PKT}{K:VWP}
  (hm:∀w,(mBuildS 76 n parts).run prog w=.ok (.value (.slice (some ⟨w.heap.size,0,none⟩) m.length m.length)) (w.alloc (.cells (bytesV m).toArray 5)))
  (ho:OwnS S w0 w (BRow v l::L)) (hb:l.length+m.length≤140737488355328) (k:∀v' w',OwnS S w0 w' (BRow v' (l++m)::L)→K v' w') :
  DoX prog (mBuildS 76 n parts) w PK fun t w=>DoX prog (mB .append #[76,76] 76 cs #[v,t]) w PK2 K:=by
 refine o_new (fun b=>.slice (some ⟨b,0,none⟩) m.length m.length) (bytesV m) 5 hm ho fun nb w4 h4=>?_;refine o_append 1 Tryz.underlying76 (show elB prog 5 1 1=true by kernel_rfl) (by decide) h4 rfl (h4.sl 0 rfl 1 m.length m.length (by rw[bytesV_length,Nat.mul_one])) (bytesV_one _) (by omega) (by omega) fun v' w5 h5=>?_;refine k v' w5 ?_;have e:BRow v' (l++m)=.row 5 1 v' (l.length+m.length) (bytesV l++bytesV m):=by
  rw[BRow,bytesV_append,List.length_append]
 rw[e];exact h5.tail
theorem o_strB {S:Nat→Prop}{w0 w:World}{L:List Ent}{v:Value}{l:List UInt8}{PK:PKT}{K:VWP}(i:Nat)(ho:OwnS S w0 w L)(hi:L[i]?=some (BRow v l)) :
  DoX prog (mConv 76 9 v) w PK K=K (.string ⟨l.toArray⟩) w:=
 c_bytes (l:=l) Tryz.underlying76 Tryz.underlying5 Tryz.underlying9 (ho.slRow i hi)
end
end Go.Proofs.YtkejpieaafeblaaGreatDoor

namespace Go.Proofs.YtkejpieaafeblaaGreatDoor
section
open Go
namespace Lx
open Oc
theorem take_cons {c:UInt8}{t:List UInt8}{n:Nat}(h:1≤n):(c::t).take n=c::t.take (n - 1):=by
 obtain⟨m,rfl⟩:∃m,n=m+1:=⟨n - 1,by omega⟩;rfl
theorem textG_ge:∀(l:List UInt8) (k o:Nat) (r:List UInt8×Nat),textG k o l=some r→k+1≤r.2
|[],k,o,r,h=>by cases k<;>(rw[textG] at h;cases h)
|c::t,0,o,r,h=>by have:=textG_le _ _ _ _ h;omega
|c::t,k+1,o,r,h=>by
  rw[textG] at h;cases hh:textG k o t with
 |none=>rw[hh] at h;cases h
 |some q=>rw[hh] at h;cases h;have:=textG_ge t k o q hh;simp;omega
theorem map_some {α β:Type}{f:α→β}{x:Option α}{r:β}(h:x.map f=some r):∃q,x=some q∧r=f q:=by
 cases x with
|none=>cases h
|some q=>cases h;exact⟨q,rfl,rfl⟩
theorem runF_take:∀l:List UInt8,(l.take (runF l)).all regular=true∧runF (l.take (runF l))=runF l
|[]=>by simp[runF]
|c::t=>by
  obtain⟨i1,i2⟩:=runF_take t;simp only[runF];by_cases h:regular c=true
  ·rw[if_pos h,take_cons (by omega),Nat.add_sub_cancel_left];simp only[runF,i2,List.all_cons,h,i1,Bool.and_self,if_true,and_self]
  ·rw[if_neg h];simp[runF]
theorem wordT_move {t:List UInt8}{a r:Int}(h:(wordT t a r).2=0)(b q:Int):wordT t b q=({ (wordT t a r).1 with a:=b,t:=q },0):=by
 unfold wordT at h ⊢;by_cases h1:intForm t=true
 ·simp only[if_pos h1] at h ⊢;by_cases h2:(whole t).2≠0
  ·rw[if_pos h2] at h;exact absurd h h2
  ·simp only[if_neg h2]
 ·simp only[if_neg h1] at h ⊢;by_cases h2:t.contains 46∧(Fx.read t).2=0
  ·simp only[if_pos h2]
  ·simp only[if_neg h2] at h ⊢;by_cases h3:t.contains 46∧(Fx.read t).2=2
   ·rw[if_pos h3] at h;cases h
   ·simp only[if_neg h3] at h ⊢;unfold told at h ⊢;by_cases h4:(127:Int) < t.length
    ·rw[if_pos h4] at h;cases h
    ·simp only[if_neg h4]
theorem cut_length {s:List UInt8}{i j:Nat}(h:j≤s.length):(cut s i j).length=j - i:=by
 unfold cut;rw[List.length_take,List.length_drop];omega
theorem cut_cons {s:List UInt8}{a b:Nat}(ha:a < s.length)(h:a < b):cut s a b=s[a]::(s.drop (a+1)).take (b - (a+1)):=by
 unfold cut;rw[drop_cons ha,take_cons (by omega),show b - a - 1=b - (a+1) by omega]
theorem cut_full (u:List UInt8):cut u 0 u.length=u:=by simp[cut]
end Lx
end
section
open Go
namespace Lx
open Oc
theorem all8 {p:UInt8→Prop}(h:∀n:Fin 256,p (UInt8.ofNat n.val))(c:UInt8):p c:=by
 have:=h ⟨c.toNat,c.toNat_lt⟩;simpa using this
theorem regular_ne (c:UInt8):regular c=true→white c=false∧c≠37∧¬(c=91∨c=93∨c=123∨c=125)∧c≠60∧c≠62∧c≠47∧c≠40∧c≠41:=by
 refine all8 (p:=fun c=>regular c=true→white c=false∧c≠37∧¬(c=91∨c=93∨c=123∨c=125)∧c≠60∧c≠62∧c≠47∧c≠40∧c≠41) ?_ c
 decide +kernel
theorem dig_reg (c:UInt8):dig c=true→regular c=true∧sgn c=false∧c≠45:=by
 refine all8 (p:=fun c=>dig c=true→regular c=true∧sgn c=false∧c≠45) ?_ c
 decide +kernel
theorem val_cons (n:Nat)(c:UInt8)(l:List UInt8):val n (c::l)=val (10*n+(c.toNat - 48)) l:=by simp only[val,List.foldl_cons]
theorem token_word {s:List UInt8}{a:Nat}{c:UInt8}{t:List UInt8}(hd:s.drop a=c::t)(h:regular c=true):token s a=word s a:=by
 obtain⟨_,_,h1,h2,h3,h4,h5,h6⟩:=regular_ne c h;rw[token,hd];simp only[if_neg h1,if_neg h2,if_neg h3,if_neg h4,if_neg h5,if_neg h6]
theorem all_reg {ds:List UInt8}(h:ds.all dig=true):ds.all regular=true:=by
 rw[List.all_eq_true] at h ⊢;exact fun c hc=>(dig_reg c (h c hc)).1
theorem unsign_num {sg ds:List UInt8}(hs:sg=[]∨sg=[45])(h:ds.all dig=true):unsign (sg++ds)=ds:=by
 rcases hs with rfl|rfl
 ·cases ds with
 |nil=>rfl
 |cons c t=>
   simp only[List.all_cons,Bool.and_eq_true] at h;rw[List.nil_append,unsign,(dig_reg c h.1).2.1];rfl
 ·rfl
end Lx
end
section
open Go
namespace Pl
open Oc
theorem dec_val:∀u:Nat,Fx.val 0 (Lib.decDigits u)=(u:Int)∧(Lib.decDigits u).all Fx.isDig=true:=by
 intro u
 induction u using Nat.strongRecOn with
|_ u ih=>
  have dig:∀k,k < 10→Fx.isDig (UInt8.ofNat (48+k))=true∧((UInt8.ofNat (48+k)).toNat:Int) - 48=(k:Int):=by
   intro k hk;have e:(UInt8.ofNat (48+k)).toNat=48+k:=by rw[UInt8.toNat_ofNat'];omega
   refine⟨?_,by omega⟩;unfold Fx.isDig;rw[e];simp only[Bool.and_eq_true,decide_eq_true_eq];omega
  rw[Lib.decDigits];split
  ·rename_i h
   obtain⟨h1,h2⟩:=dig u h;refine⟨?_,by rw[List.all_cons,h1];rfl⟩;simp only[Fx.val,List.foldl_cons,List.foldl_nil,h2];omega
  ·rename_i h
   obtain⟨i1,i2⟩:=ih (u / 10) (by omega);obtain⟨h1,h2⟩:=dig (u % 10) (by omega);refine⟨?_,by rw[List.all_append,i2,List.all_cons,h1];rfl⟩;rw[Fx.val_append,i1];simp only[Fx.val,List.foldl_cons,List.foldl_nil,h2];omega
theorem itoa_shape (n:Int):(∃u:Nat,n=u∧Lib.itoa n=Lib.decDigits u)∨(∃u:Nat,n=-(u:Int)∧0 < u∧Lib.itoa n=45::Lib.decDigits u):=by
 unfold Lib.itoa;by_cases h:n < 0
 ·rw[if_pos h];exact .inr ⟨n.natAbs,by omega,by omega,rfl⟩
 ·rw[if_neg h];exact .inl ⟨n.toNat,by omega,rfl⟩
theorem text_has46 {n:Int}(h:Fx.okB n=true):(46:UInt8)∈Fx.text n:=by
 rw[Fx.text,if_pos h];simp
end Pl
end
section
open Go
namespace Lx
open Oc
theorem word_next {t:List UInt8}(h:t≠[])(hr:t.all regular=true):next t 0=wordT t 0 t.length:=by
 cases t with
|nil=>exact absurd rfl h
|cons c r=>
  have hc:regular c=true:=by simp only[List.all_cons,Bool.and_eq_true] at hr;exact hr.1
  obtain⟨hw,h37,_⟩:=regular_ne c hc;have hsk:skip (c::r) 0=0:=by
   unfold skip;rw[List.drop_zero,skipF,if_neg h37,if_neg (by rw[hw];decide)]
  have all_run:∀l:List UInt8,l.all regular=true→runF l=l.length:=by
   intro l
   induction l with
  |nil=>intro _;rfl
  |cons d l ih=>
    intro hl;simp only[List.all_cons,Bool.and_eq_true] at hl;rw[runF,if_pos hl.1,ih hl.2,List.length_cons];omega
  have hrun:run (c::r) 0=(c::r).length:=by
   unfold run;rw[List.drop_zero,all_run _ hr,Nat.zero_add]
  unfold next
  rw[if_neg (by omega),Int.toNat_zero,hsk,token_word (List.drop_zero) hc,word,hrun,cut_full];rfl
theorem val_fx:∀(l:List UInt8) (n:Nat),l.all dig=true→((val n l:Nat):Int)=Fx.val n l
|[],n,_=>rfl
|c::l,n,h=>by
  simp only[List.all_cons,Bool.and_eq_true] at h;have hc:48≤c.toNat:=by have:=h.1;simp only[dig,Bool.and_eq_true,decide_eq_true_eq] at this;omega
  rw[val_cons,Fx.val_cons,val_fx l _ h.2]
  congr 1
  omega
theorem itoa_next {n:Int}(h1:-2147483647≤n)(h2:n≤2147483647):next (Lib.itoa n) 0=(⟨1,0,(Lib.itoa n).length,n,[]⟩,0):=by
 have dec:∀u:Nat,(Lib.decDigits u).all dig=true∧val 0 (Lib.decDigits u)=u∧Lib.decDigits u≠[]:=by
  intro u;obtain⟨d1,d2⟩:=Pl.dec_val u;refine⟨d2,by have:=val_fx (Lib.decDigits u) 0 d2;rw[show ((0:Nat):Int)=0 from rfl,d1] at this;omega,fun e=>?_⟩;have:=Lib.decDigits_length u;rw[e] at this;have h1:1≤Lib.nDigits u:=by unfold Lib.nDigits;split<;>omega
  simp at this;omega
 have go:∀(sg:List UInt8) (u:Nat),(sg=[]∨sg=[45])→u≤2147483647→n=(if sg=[] then (u:Int) else -(u:Int))→Lib.itoa n=sg++Lib.decDigits u→next (Lib.itoa n) 0=(⟨1,0,(Lib.itoa n).length,n,[]⟩,0):=by
  intro sg u hs hu hn he;obtain⟨d1,d2,d3⟩:=dec u;have ht:(sg++Lib.decDigits u).all regular=true:=by
   rw[List.all_append,all_reg d1,Bool.and_true];rcases hs with rfl|rfl<;>rfl
  rw[he,word_next (by simp[d3]) ht,wordT];have hus:=unsign_num hs d1;have hI:intForm (sg++Lib.decDigits u)=true:=by
   unfold intForm;rw[hus,d1];cases hd:Lib.decDigits u with
  |nil=>exact absurd hd d3
  |cons=>rfl
  have hhead:(sg++Lib.decDigits u).head?=some 45↔sg=[45]:=by
   rcases hs with rfl|rfl
   ·cases hd:Lib.decDigits u with
   |nil=>exact absurd hd d3
   |cons c t=>
     rw[hd] at d1;simp only[List.all_cons,Bool.and_eq_true] at d1;simp[(dig_reg c d1.1).2.2]
   ·simp
  have hW:whole (sg++Lib.decDigits u)=(n,0):=by
   unfold whole;rw[hus,d2,if_neg (by omega)];rcases hs with rfl|rfl
   ·rw[if_neg (by rw[hhead];simp),hn,if_pos rfl]
   ·rw[if_pos (by rw[hhead]),hn,if_neg (by simp)]
  rw[if_pos hI,hW,if_neg (by simp)]
 rcases Pl.itoa_shape n with ⟨u,hu,e⟩|⟨u,hu,hp,e⟩
 ·exact go [] u (.inl rfl) (by omega) (by simpa using hu) (by simpa using e)
 ·exact go [45] u (.inr rfl) (by omega) (by simpa using hu) (by simpa using e)
theorem dig_all_reg {l:List UInt8}(h:l.all Fx.isDig=true):l.all regular=true:=all_reg h
theorem text_next {n:Int}(h:Fx.okB n=true):next (Fx.text n) 0=(⟨2,0,(Fx.text n).length,n,[]⟩,0):=by
 have h46:=Pl.text_has46 h;have hr:(Fx.text n).all regular=true:=by
  rw[Fx.text,if_pos h,List.all_append,List.all_append,List.all_append,dig_all_reg (Fx.row_all _ _)];obtain⟨j,_,hf⟩:=Fx.fpart_rep n.natAbs;rw[hf,List.all_append,dig_all_reg (Fx.tr_all (Fx.row_all _ _)),dig_all_reg (Fx.rep_all _)];split<;>rfl
 have hread:Fx.read (Fx.text n)=(n,0):=by
  have:=(Fx.read_text n h 0 (by omega)).1;simpa using this
 have hne:Fx.text n≠[]:=by intro e;rw[e] at h46;cases h46
 rw[word_next hne hr,wordT];have hI:intForm (Fx.text n)=false:=by
  unfold intForm;rw[Bool.and_eq_false_iff];right;have hm:(46:UInt8)∈unsign (Fx.text n):=by
   cases ht:Fx.text n with
  |nil=>exact absurd ht hne
  |cons c t=>
    rw[ht] at h46;rw[unsign];split
    ·rename_i hs
     rcases List.mem_cons.1 h46 with e|e
     ·rw[←e] at hs;cases hs
     ·exact e
    ·exact h46
  rw[List.all_eq_false];exact⟨46,hm,by decide⟩
 rw[hI,hread];simp only[Bool.false_eq_true,if_false];rw[if_pos ⟨by simpa using h46,trivial⟩]
theorem oct_facts (c:UInt8):oct (UInt8.ofNat (48+c.toNat / 64))=true∧oct (UInt8.ofNat (48+c.toNat / 8 % 8))=true∧oct (UInt8.ofNat (48+c.toNat % 8))=true∧escL (UInt8.ofNat (48+c.toNat / 64))=none∧eol (UInt8.ofNat (48+c.toNat / 64))=false
 ∧UInt8.ofNat (8*(8*(8*0+((UInt8.ofNat (48+c.toNat / 64)).toNat - 48))+((UInt8.ofNat (48+c.toNat / 8 % 8)).toNat - 48))+((UInt8.ofNat (48+c.toNat % 8)).toNat - 48))=c:=by
 refine all8 (p:=fun c=>oct (UInt8.ofNat (48+c.toNat / 64))=true∧oct (UInt8.ofNat (48+c.toNat / 8 % 8))=true∧oct (UInt8.ofNat (48+c.toNat % 8))=true∧escL (UInt8.ofNat (48+c.toNat / 64))=none∧eol (UInt8.ofNat (48+c.toNat / 64))=false
 ∧UInt8.ofNat (8*(8*(8*0+((UInt8.ofNat (48+c.toNat / 64)).toNat - 48))+((UInt8.ofNat (48+c.toNat / 8 % 8)).toNat - 48))+((UInt8.ofNat (48+c.toNat % 8)).toNat - 48))=c) ?_ c
 decide +kernel
theorem escF_oct (c:UInt8)(t:List UInt8):escF (UInt8.ofNat (48+c.toNat / 64)::UInt8.ofNat (48+c.toNat / 8 % 8)::UInt8.ofNat (48+c.toNat % 8)::t)=([c],3):=by
 obtain⟨h1,h2,h3,h4,h5,h6⟩:=oct_facts c;generalize UInt8.ofNat (48+c.toNat / 64)=x at *;generalize UInt8.ofNat (48+c.toNat / 8 % 8)=y at *;generalize UInt8.ofNat (48+c.toNat % 8)=z at *;have ho:octF 3 0 (x::y::z::t)=(8*(8*(8*0+(x.toNat - 48))+(y.toNat - 48))+(z.toNat - 48),3):=by
  simp only[octF,h1,h2,h3,if_true]
 simp only[escF,h4,h5,ho,Bool.false_eq_true,if_false];rw[if_pos (by omega),h6]
theorem textG_oct (c:UInt8)(o:Nat)(t:List UInt8):textG 0 o (Pl.oct c++t)=(textG 0 o t).map fun r=>(c::r.1,r.2+4):=by
 unfold Pl.oct;rw[List.cons_append,textG,if_neg (by decide),if_pos rfl,if_neg (by simp)];simp only[List.cons_append,List.nil_append];rw[escF_oct,textG_skip 3 o _ (by simp),Option.map_map];simp only[List.drop_succ_cons,List.drop_zero]
 congr 1
theorem textG_esc (c:UInt8)(t:List UInt8):textG 0 1 (Pl.esc c++t)=(textG 0 1 t).map fun r=>(c::r.1,r.2+(Pl.esc c).length):=by
 unfold Pl.esc;by_cases h1:c=40∨c=41∨c=92
 ·rw[if_pos h1];have hl:escL c=none:=by rcases h1 with rfl|rfl|rfl<;>rfl
  have he:eol c=false:=by rcases h1 with rfl|rfl|rfl<;>rfl
  have ho:oct c=false:=by rcases h1 with rfl|rfl|rfl<;>rfl
  have hE:escF (c::t)=([c],1):=by
   have h0:octF 3 0 (c::t)=(0,0):=by simp only[octF,ho,Bool.false_eq_true,if_false]
   simp only[escF,hl,he,h0,Bool.false_eq_true,if_false];rw[if_neg (by omega)]
  rw[List.cons_append,List.cons_append,List.nil_append,textG,if_neg (by decide),if_pos rfl,if_neg (by simp),hE,textG_skip 1 1 _ (by simp),Option.map_map];simp only[List.drop_succ_cons,List.drop_zero]
  congr 1
 ·rw[if_neg h1];by_cases h2:c.toNat < 32∨126 < c.toNat
  ·rw[if_pos h2,textG_oct];rfl
  ·rw[if_neg h2,List.cons_append,List.nil_append,textG];have he:eol c=false:=by
    unfold eol;rw[Bool.or_eq_false_iff];refine⟨decide_eq_false fun e=>?_,decide_eq_false fun e=>?_⟩ <;>
    ·rw[e] at h2;exact h2 (.inl (by decide))
   rw[if_neg (by rw[he];decide),if_neg (fun e=>h1 (.inr (.inr e))),if_neg (fun e=>h1 (.inl e)),if_neg (fun e=>h1 (.inr (.inl e)))];rfl
theorem textG_escs:∀(l t:List UInt8),textG 0 1 (l.flatMap Pl.esc++t)=(textG 0 1 t).map fun r=>(l++r.1,r.2+(l.flatMap Pl.esc).length)
|[],t=>by simp
|c::l,t=>by
  rw[List.flatMap_cons,List.append_assoc,textG_esc,textG_escs l t,Option.map_map]
  congr 1
  funext r
  simp only[Function.comp,List.cons_append,List.length_append];refine Prod.ext rfl ?_;simp only;omega
theorem textG_close (t:List UInt8):textG 0 1 (41::t)=some ([],1):=by
 rw[textG,if_neg (by decide),if_neg (by decide),if_neg (by decide),if_pos rfl,if_pos (by omega)]
theorem next_open (c:UInt8)(t:List UInt8)(h:c≠37∧white c=false):next (c::t) 0=token (c::t) 0:=by
 have hsk:skip (c::t) 0=0:=by
  unfold skip;rw[List.drop_zero,skipF,if_neg h.1,if_neg (by rw[h.2];decide)]
 unfold next
 rw[if_neg (by omega),Int.toNat_zero,hsk]
theorem token_text (t:List UInt8):token (40::t) 0=text (40::t) 0:=by
 rw[token,List.drop_zero];simp only;rw[if_neg (by decide),if_neg (by decide),if_neg (by decide),if_neg (by decide),if_pos trivial]
theorem text_of {t x:List UInt8}{n:Nat}(h:textG 0 1 t=some (x,n))(hx:x.length≤32767):next (40::t) 0=(⟨3,0,(1+n:Nat),0,x⟩,0):=by
 rw[next_open 40 t (by decide),token_text,text];have:(40::t).drop (0+1)=t:=rfl;rw[this,h];simp only[told];rw[if_neg (by omega),Nat.zero_add];rfl
theorem str_next {l:List UInt8}(h:l.length≤32767):next (Pl.str l) 0=(⟨3,0,(Pl.str l).length,0,l⟩,0):=by
 have hs:Pl.str l=40::(l.flatMap Pl.esc++41::[]):=by simp[Pl.str]
 have:=text_of (t:=l.flatMap Pl.esc++41::[]) (x:=l) (n:=1+(l.flatMap Pl.esc).length) (by rw[textG_escs,textG_close];simp) h;rw[hs,this];simp only[List.length_cons,List.length_append,List.length_nil];rw[show 1+(1+(l.flatMap Pl.esc).length)=(l.flatMap Pl.esc).length+(0+1)+1 by omega]
theorem hex_facts (c:UInt8):digit (hexD (c.toNat / 16))=(c.toNat / 16:Nat)∧digit (hexD (c.toNat % 16))=(c.toNat % 16:Nat)∧byte (c.toNat / 16:Nat) (c.toNat % 16:Nat)=c∧hexD (c.toNat / 16)≠62∧hexD (c.toNat % 16)≠62∧white (hexD (c.toNat / 16))=false∧white (hexD (c.toNat % 16))=false
 ∧regular (hexD (c.toNat / 16))=true∧regular (hexD (c.toNat % 16))=true∧hexD (c.toNat / 16)≠60:=by
 refine all8 (p:=fun c=>digit (hexD (c.toNat / 16))=(c.toNat / 16:Nat)∧digit (hexD (c.toNat % 16))=(c.toNat % 16:Nat)∧byte (c.toNat / 16:Nat) (c.toNat % 16:Nat)=c∧hexD (c.toNat / 16)≠62∧hexD (c.toNat % 16)≠62∧white (hexD (c.toNat / 16))=false∧white (hexD (c.toNat % 16))=false
 ∧regular (hexD (c.toNat / 16))=true∧regular (hexD (c.toNat % 16))=true∧hexD (c.toNat / 16)≠60) ?_ c
 decide +kernel
theorem nmOk_reg (c:UInt8):Pl.nmOk c=true→regular c=true∧c≠35:=by
 refine all8 (p:=fun c=>Pl.nmOk c=true→regular c=true∧c≠35) ?_ c
 decide +kernel
theorem nmc_reg (c:UInt8):(Pl.nmc c).all regular=true:=by
 unfold Pl.nmc;split
 ·rename_i h;rw[List.all_cons,(nmOk_reg c h).1];rfl
 ·obtain⟨-,-,-,-,-,-,-,f8,f9,-⟩:=hex_facts c;simp only[Oc.hex,hex1,List.flatMap_cons,List.flatMap_nil,List.append_nil,List.cons_append,List.nil_append,List.all_cons,f8,f9,List.all_nil,Bool.and_true]
  decide
theorem nmcs_reg (l:List UInt8):(l.flatMap Pl.nmc).all regular=true:=by
 rw[List.all_flatMap,List.all_eq_true];exact fun c _=>nmc_reg c
theorem nameF_nmc:∀l:List UInt8,(0:UInt8) ∉ l→nameF (l.flatMap Pl.nmc)=some l
|[],_=>rfl
|c::l,h=>by
  simp only[List.mem_cons,not_or] at h;have ih:=nameF_nmc l h.2;rw[List.flatMap_cons];generalize l.flatMap Pl.nmc=z at *;unfold Pl.nmc;by_cases hc:Pl.nmOk c=true
  ·rw[if_pos hc,List.cons_append,List.nil_append,nameF_ne (nmOk_reg c hc).2,ih];rfl
  ·rw[if_neg hc];obtain⟨f1,f2,f3,-⟩:=hex_facts c;have h0:c.toNat≠0:=fun e=>h.1 (UInt8.toNat_inj.1 (by rw[e];rfl));simp only[Oc.hex,hex1,List.flatMap_cons,List.flatMap_nil,List.append_nil,List.cons_append,List.nil_append];rw[nameF,if_pos rfl];simp only[f1,f2];rw[if_neg (by omega),ih,f3];rfl
theorem name_next {l:List UInt8}(hl:l.length≤127)(h0:(0:UInt8) ∉ l):next (Pl.name l) 0=(⟨4,0,(Pl.name l).length,0,l⟩,0):=by
 have hs:Pl.name l=47::l.flatMap Pl.nmc:=by simp[Pl.name]
 rw[hs,next_open 47 _ (by decide),token,List.drop_zero];simp only;rw[if_neg (by decide),if_neg (by decide),if_neg (by decide),if_pos trivial,Lx.name];have hd:(47::l.flatMap Pl.nmc).drop (0+1)=l.flatMap Pl.nmc:=rfl;have all_run:∀l:List UInt8,l.all regular=true→runF l=l.length:=by
  intro l
  induction l with
 |nil=>intro _;rfl
 |cons d l ih=>
   intro hl;simp only[List.all_cons,Bool.and_eq_true] at hl;rw[runF,if_pos hl.1,ih hl.2,List.length_cons];omega
 have hrun:run (47::l.flatMap Pl.nmc) (0+1)=(47::l.flatMap Pl.nmc).length:=by
  unfold run;rw[hd,all_run _ (nmcs_reg l),List.length_cons];omega
 have hcut:cut (47::l.flatMap Pl.nmc) (0+1) (47::l.flatMap Pl.nmc).length=l.flatMap Pl.nmc:=by
  unfold cut;rw[hd,List.take_of_length_le];rw[List.length_cons];omega
 rw[hrun,hcut,nameF_nmc l h0];simp only[told];rw[if_neg (by omega)];rfl
end Lx
end
section
open Go
namespace Lx
open Oc
theorem head_app {t m:List UInt8}(h:t≠[]):(t++m).head?=t.head?:=by
 cases t with
|nil=>exact absurd rfl h
|cons=>rfl
theorem lineF_ext {c:UInt8}{t:List UInt8}(m:List UInt8)(he:eol c=true)(h:t≠[]):lineF (c::(t++m))=lineF (c::t):=by
 simp only[lineF,head_app h];by_cases h1:c=10
 ·simp[h1]
 ·by_cases h2:c=13
  ·simp[h2]
  ·simp[eol,h1,h2] at he
theorem octF_ext:∀(k n:Nat) (l m:List UInt8),(octF k n l).2+1≤l.length→octF k n (l++m)=octF k n l
|0,n,l,m,h=>by simp[octF]
|k+1,n,[],m,h=>by simp at h
|k+1,n,c::t,m,h=>by
  rw[List.cons_append];simp only[octF] at h ⊢;by_cases ho:oct c=true
  ·rw[if_pos ho] at h ⊢;rw[if_pos ho];simp only[List.length_cons] at h;rw[octF_ext k _ t m (by omega)]
  ·rw[if_neg ho,if_neg ho]
theorem escF_ext {l:List UInt8}(m:List UInt8)(h:(escF l).2+1≤l.length):escF (l++m)=escF l:=by
 cases l with
|nil=>simp at h
|cons c t=>
  rw[List.cons_append];simp only[escF,List.length_cons] at h ⊢;cases hl:escL c with
 |some b=>rfl
 |none=>
   simp only[hl] at h ⊢;by_cases he:eol c=true
   ·rw[if_pos he] at h ⊢;rw[if_pos he];have hp:=lineF_pos c t;simp only at h;rw[lineF_ext m he (by intro e;subst e;simp at h;omega)]
   ·rw[if_neg he] at h ⊢;rw[if_neg he];have h3:(octF 3 0 (c::t)).2+1≤(c::t).length:=by
     by_cases h0:0 < (octF 3 0 (c::t)).2
     ·rw[if_pos h0] at h;rw[List.length_cons];exact h
     ·rw[List.length_cons];omega
    have ht:=octF_ext 3 0 (c::t) m h3;rw[List.cons_append] at ht;rw[ht]
theorem textG_ext:∀(l:List UInt8) (k o:Nat) (r:List UInt8×Nat) (m:List UInt8),textG k o l=some r→textG k o (l++m)=some r
|[],k,o,r,m,h=>by cases k<;>(rw[textG] at h;cases h)
|c::t,k+1,o,r,m,h=>by
  rw[textG] at h;obtain⟨q,hq,rfl⟩:=map_some h;rw[List.cons_append,textG,textG_ext t k o q m hq];rfl
|c::t,0,o,r,m,h=>by
  rw[List.cons_append];rw[textG] at h ⊢;have ne:∀k o q,textG k o t=some q→t≠[]:=by
   intro k o q hq e;subst e;cases k<;>(rw[textG] at hq;cases hq)
  by_cases g1:eol c=true
  ·rw[if_pos g1] at h ⊢;obtain⟨q,hq,rfl⟩:=map_some h;rw[lineF_ext m g1 (ne _ _ _ hq),textG_ext t _ o q m hq];rfl
  ·rw[if_neg g1] at h ⊢;by_cases g2:c=92
   ·rw[if_pos g2] at h ⊢;by_cases g3:t=[]
    ·rw[if_pos g3] at h;cases h
    ·rw[if_neg g3] at h;obtain⟨q,hq,rfl⟩:=map_some h;have h2:=textG_ge _ _ _ _ hq;have h3:=textG_le _ _ _ _ hq;rw[escF_ext m (by omega),textG_ext t _ o q m hq,if_neg (by simp[g3])];rfl
   ·rw[if_neg g2] at h ⊢;by_cases g4:c=40
    ·rw[if_pos g4] at h ⊢;obtain⟨q,hq,rfl⟩:=map_some h;rw[textG_ext t _ _ q m hq];rfl
    ·rw[if_neg g4] at h ⊢;by_cases g5:c=41
     ·rw[if_pos g5] at h ⊢;by_cases g6:o≤1
      ·rw[if_pos g6] at h ⊢;exact h
      ·rw[if_neg g6] at h ⊢;obtain⟨q,hq,rfl⟩:=map_some h;rw[textG_ext t _ _ q m hq];rfl
     ·rw[if_neg g5] at h ⊢;obtain⟨q,hq,rfl⟩:=map_some h;rw[textG_ext t _ _ q m hq];rfl
theorem hexF_ext:∀(l:List UInt8) (h:Int) (r:List UInt8×Nat) (m:List UInt8),hexF h l=.inl r→hexF h (l++m)=.inl r
|[],_,r,m,h=>by rw[hexF] at h;cases h
|c::t,h,r,m,he=>by
  rw[List.cons_append];rw[hexF] at he ⊢;have step:∀(h':Int) (f:List UInt8→List UInt8),(match hexF h' t with|.inl r=>(Sum.inl (f r.1,r.2+1):(List UInt8×Nat) ⊕ Int)|.inr e=>.inr e)=.inl r →
    (match hexF h' (t++m) with|.inl r=>(Sum.inl (f r.1,r.2+1):(List UInt8×Nat) ⊕ Int)|.inr e=>.inr e)=.inl r:=by
   intro h' f hh;cases hq:hexF h' t with
  |inr e=>rw[hq] at hh;cases hh
  |inl q=>
    rw[hq] at hh;cases hh;rw[hexF_ext t h' q m hq]
  by_cases g1:c=62
  ·rw[if_pos g1] at he ⊢;exact he
  ·rw[if_neg g1] at he ⊢;by_cases g2:white c=true
   ·rw[if_pos g2] at he ⊢;exact step h (fun x=>x) he
   ·rw[if_neg g2] at he ⊢;by_cases g3:digit c < 0
    ·rw[if_pos g3] at he;cases he
    ·rw[if_neg g3] at he ⊢;by_cases g4:h < 0
     ·rw[if_pos g4] at he ⊢;exact step (digit c) (fun x=>x) he
     ·rw[if_neg g4] at he ⊢;exact step (-1) (fun x=>byte h (digit c)::x) he
def stops (m:List UInt8):Prop:=∀c t,m=c::t→regular c=false
theorem runF_stop:∀(l m:List UInt8),l.all regular=true→stops m→runF (l++m)=l.length
|[],[],_,_=>rfl
|[],c::t,_,h=>by rw[List.nil_append,runF,if_neg (by rw[h c t rfl];decide)];rfl
|c::l,m,h,hm=>by
  simp only[List.all_cons,Bool.and_eq_true] at h;rw[List.cons_append,runF,if_pos h.1,runF_stop l m h.2 hm,List.length_cons];omega
theorem runF_all {l:List UInt8}(h:runF l=l.length):l.all regular=true:=by
 have:=(runF_take l).1
 rwa [h,List.take_length] at this
theorem lastC_all {l:List UInt8}(h:l≠[])(hr:l.all regular=true):regular (Pl.lastC l)=true:=by
 have hg:=Pl.last_get l h;exact List.all_eq_true.1 hr _ (List.mem_of_getElem? hg)
def Single (u:List UInt8)(x:Tok):Prop:=next u 0=(x,0)∧x.k≠0∧x.a=0∧x.t=u.length
theorem single_head {u:List UInt8}{x:Tok}(h:Single u x):∃c t,u=c::t∧c≠37∧white c=false∧token u 0=(x,0):=by
 obtain⟨hn,hk,ha,ht⟩:=h;have hb:=next_bd (s:=u) (i:=0) (by rw[hn]) (by rw[hn];exact hk);rw[hn] at hb;obtain⟨-,-,h1,h2,h3⟩:=hb;have hsk:skip u 0=0:=by
  simp only[Int.toNat_zero] at h1;omega
 cases u with
|nil=>simp at ht h2;omega
|cons c t=>
  have hs:skipF false (c::t)=0:=by unfold skip at hsk;rw[List.drop_zero] at hsk;omega
  obtain⟨h37,hw⟩:=stop_head hs;refine⟨c,t,rfl,h37,hw,?_⟩;rw[←hn,next_open c t ⟨h37,hw⟩]
theorem token_ext {u:List UInt8}{x:Tok}(pre m:List UInt8)(h:Single u x)(hm:(regular (Pl.lastC u)||decide (Pl.lastC u=47))=true→stops m) :
  token (pre++(u++m)) pre.length=({ x with a:=pre.length,t:=pre.length+u.length },0):=by
 obtain⟨c,t,rfl,h37,hw,hT⟩:=single_head h;obtain⟨-,hk,hA,hL⟩:=h;have hd:(pre++(c::t++m)).drop pre.length=c::(t++m):=by rw[List.drop_left];rfl
 have hd1:(pre++(c::t++m)).drop (pre.length+1)=t++m:=by rw[←List.drop_drop,hd];rfl
 have hTu:token (c::t) 0=if c=91∨c=93∨c=123∨c=125 then mark (c::t) 0 1
  else if c=60 then (if t.head?=some c then mark (c::t) 0 2 else hex (c::t) 0)
  else if c=62 then (if t.head?=some c then mark (c::t) 0 2 else refused 3)
  else if c=47 then name (c::t) 0
  else if c=40 then text (c::t) 0
  else if c=41 then refused 3
  else word (c::t) 0:=by rw[token,List.drop_zero]
 have hTS:token (pre++(c::t++m)) pre.length=if c=91∨c=93∨c=123∨c=125 then mark (pre++(c::t++m)) pre.length 1
  else if c=60 then (if (t++m).head?=some c then mark (pre++(c::t++m)) pre.length 2 else hex (pre++(c::t++m)) pre.length)
  else if c=62 then (if (t++m).head?=some c then mark (pre++(c::t++m)) pre.length 2 else refused 3)
  else if c=47 then name (pre++(c::t++m)) pre.length
  else if c=40 then text (pre++(c::t++m)) pre.length
  else if c=41 then refused 3
  else word (pre++(c::t++m)) pre.length:=by rw[token,hd]
 rw[hTu] at hT;rw[hTS];have cutS:∀n:Nat,n≤(c::t).length→cut (pre++(c::t++m)) pre.length (pre.length+n)=(c::t).take n:=by
  intro n hn;unfold cut;rw[hd,Nat.add_sub_cancel_left];show ((c::t)++m).take n=_;rw[List.take_append_of_le_length hn]
 have mk:∀n:Nat,mark (c::t) 0 n=(x,0)→mark (pre++(c::t++m)) pre.length n=({ x with a:=pre.length,t:=pre.length+(c::t).length },0):=by
  intro n hn;unfold mark at hn ⊢;have hx:=(Prod.ext_iff.1 hn).1;simp only at hx;have hn':n=(c::t).length:=by rw[←hx] at hL;simp only at hL;omega
  rw[cutS n (by omega),←hx];unfold cut;rw[List.drop_zero];simp only[Prod.mk.injEq,Tok.mk.injEq,and_true,true_and];refine⟨by omega,?_⟩
  congr 1
  omega
 by_cases g0:c=91∨c=93∨c=123∨c=125
 ·rw[if_pos g0] at hT ⊢;exact mk 1 hT
 rw[if_neg g0] at hT ⊢;by_cases g1:c=60
 ·rw[if_pos g1] at hT ⊢;by_cases g:t.head?=some c
  ·rw[if_pos g] at hT;have htn:t≠[]:=by intro e;rw[e] at g;cases g
   rw[if_pos (by rw[head_app htn];exact g)];exact mk 2 hT
  ·rw[if_neg g] at hT;unfold hex at hT;rw[show (c::t).drop (0+1)=t from rfl] at hT;cases hx:hexF (-1) t with
  |inr e=>rw[hx] at hT;simp only[refused] at hT;have:=(Prod.ext_iff.1 hT).1;simp only at this;rw[←this] at hk;exact absurd rfl hk
  |inl r=>
    rw[hx] at hT;simp only at hT;have htn:t≠[]:=by intro e;subst e;rw[hexF] at hx;cases hx
    rw[if_neg (by rw[head_app htn];exact g)];unfold hex;rw[hd1,hexF_ext t _ r m hx];simp only;have ht:=told_ok (by rw[hT]);rw[ht] at hT;have hx':=(Prod.ext_iff.1 hT).1;simp only at hx';unfold told at ht ⊢;by_cases hl:(32767:Int) < (r.1.length:Int)
    ·rw[if_pos hl] at ht;cases ht
    ·rw[if_neg hl,←hx'];rw[←hx'] at hL;simp only at hL;simp only[Prod.mk.injEq,Tok.mk.injEq,and_true,true_and];omega
 rw[if_neg g1] at hT ⊢;by_cases g2:c=62
 ·rw[if_pos g2] at hT ⊢;by_cases g:t.head?=some c
  ·rw[if_pos g] at hT;have htn:t≠[]:=by intro e;rw[e] at g;cases g
   rw[if_pos (by rw[head_app htn];exact g)];exact mk 2 hT
  ·rw[if_neg g] at hT;simp only[refused] at hT;have:=(Prod.ext_iff.1 hT).1;simp only at this;rw[←this] at hk;exact absurd rfl hk
 rw[if_neg g2] at hT ⊢;by_cases g3:c=47
 ·rw[if_pos g3] at hT ⊢;unfold name at hT ⊢;have hru:run (c::t) (0+1)=1+runF t:=rfl;rw[hru] at hT;have hrS:run (pre++(c::t++m)) (pre.length+1)=pre.length+1+runF (t++m):=by unfold run;rw[hd1]
  cases hx:nameF (cut (c::t) (0+1) (1+runF t)) with
 |none=>rw[hx] at hT;simp only[refused] at hT;have:=(Prod.ext_iff.1 hT).1;simp only at this;rw[←this] at hk;exact absurd rfl hk
 |some y=>
   rw[hx] at hT;simp only at hT;have ht:=told_ok (by rw[hT]);rw[ht] at hT;have hx':=(Prod.ext_iff.1 hT).1;simp only at hx';have hrl:runF t=t.length:=by rw[←hx'] at hL;simp only[List.length_cons] at hL;omega
   have hall:=runF_all hrl;have hst:stops m:=by
    refine hm ?_;cases t with
   |nil=>rw[g3];decide
   |cons d t=>
     have:Pl.lastC (c::d::t)=Pl.lastC (d::t):=Pl.lastC_append [c] (d::t) (by simp);rw[this,lastC_all (by simp) hall];rfl
   rw[hrS,runF_stop t m hall hst];have hc2:cut (pre++(c::t++m)) (pre.length+1) (pre.length+1+t.length)=t:=by
    unfold cut;rw[hd1,Nat.add_sub_cancel_left,List.take_left]
   have hc1:cut (c::t) (0+1) (1+runF t)=t:=by
    unfold cut;rw[hrl,show 1+t.length - (0+1)=t.length by omega];exact List.take_length
   rw[hc1] at hx;rw[hc2,hx];simp only;unfold told at ht ⊢;by_cases hl:(127:Int) < (y.length:Int)
   ·rw[if_pos hl] at ht;cases ht
   ·rw[if_neg hl,←hx'];simp only[Prod.mk.injEq,Tok.mk.injEq,and_true,true_and,List.length_cons];omega
 rw[if_neg g3] at hT ⊢;by_cases g4:c=40
 ·rw[if_pos g4] at hT ⊢;unfold text at hT;rw[show (c::t).drop (0+1)=t from rfl] at hT;cases hx:textG 0 1 t with
 |none=>rw[hx] at hT;simp only[refused] at hT;have:=(Prod.ext_iff.1 hT).1;simp only at this;rw[←this] at hk;exact absurd rfl hk
 |some r=>
   rw[hx] at hT;simp only at hT;unfold text;rw[hd1,textG_ext t _ _ r m hx];simp only;have ht:=told_ok (by rw[hT]);rw[ht] at hT;have hx':=(Prod.ext_iff.1 hT).1;simp only at hx';unfold told at ht ⊢;by_cases hl:(32767:Int) < (r.1.length:Int)
   ·rw[if_pos hl] at ht;cases ht
   ·rw[if_neg hl,←hx'];rw[←hx'] at hL;simp only at hL;simp only[Prod.mk.injEq,Tok.mk.injEq,and_true,true_and];omega
 rw[if_neg g4] at hT ⊢;by_cases g5:c=41
 ·rw[if_pos g5] at hT;simp only[refused] at hT;have:=(Prod.ext_iff.1 hT).1;simp only at this;rw[←this] at hk;exact absurd rfl hk
 rw[if_neg g5] at hT ⊢;unfold word at hT ⊢;have hwk:=wordT_ok (by rw[hT]);have hru:run (c::t) 0=runF (c::t):=by unfold run;rw[List.drop_zero,Nat.zero_add]
 rw[hru] at hT hwk;have hrl:runF (c::t)=(c::t).length:=by
  have:=hwk.2.2;rw[hT] at this;simp only at this;omega
 have hall:=runF_all hrl;have hst:stops m:=hm (by rw[lastC_all (by simp) hall];rfl);have hrS:run (pre++(c::t++m)) pre.length=pre.length+(c::t).length:=by
  unfold run;rw[hd];show _+runF ((c::t)++m)=_;rw[runF_stop _ _ hall hst]
 rw[hrl,cut_full] at hT;rw[hrS,cutS _ (Nat.le_refl _),List.take_length];rw[wordT_move (by rw[hT]) (pre.length:Int) ((pre.length+(c::t).length:Nat):Int),hT];simp only[Prod.mk.injEq,Tok.mk.injEq,and_true,true_and];omega
def gap (last:UInt8)(p:List UInt8):List UInt8:=if (regular last||decide (last=47))&&(p.head?.any regular) then [32] else []
def joinR:UInt8→List (List UInt8)→List UInt8
|_,[]=>[]
|last,p::ps=>gap last p++(p++joinR (Pl.lastC p) ps)
theorem gap_cons (last c:UInt8)(t:List UInt8):gap last (c::t)=if ((regular last||decide (last=47))&&regular c)=true then [32] else []:=rfl
theorem glue_gap (acc p:List UInt8)(h:p≠[]):Pl.glue acc p=acc++(gap (Pl.lastC acc) p++p):=by
 cases p with
|nil=>exact absurd rfl h
|cons c t=>
  rw[gap_cons,Pl.glue];by_cases hc:((regular (Pl.lastC acc)||decide (Pl.lastC acc=47))&&regular c)=true
  ·rw[if_pos hc,if_pos hc];simp
  ·rw[if_neg hc,if_neg hc];simp
theorem foldl_joinR:∀(ps:List (List UInt8)) (acc:List UInt8),(∀p∈ps,p≠[])→ps.foldl Pl.glue acc=acc++joinR (Pl.lastC acc) ps
|[],acc,_=>by simp[joinR]
|p::ps,acc,h=>by
  have hp:=h p (List.mem_cons_self ..);rw[List.foldl_cons,foldl_joinR ps _ (fun q hq=>h q (List.mem_cons_of_mem _ hq)),Pl.lastC_glue _ _ hp,glue_gap _ _ hp,joinR];simp
theorem join_joinR (ps:List (List UInt8))(h:∀p∈ps,p≠[]):Pl.join ps=joinR 32 ps:=by
 rw[Pl.join,foldl_joinR ps [] h];rfl
theorem stops_join (last:UInt8)(ps:List (List UInt8))(h:∀p∈ps,p≠[])(hl:(regular last||decide (last=47))=true):stops (joinR last ps):=by
 intro c t he;cases ps with
|nil=>cases he
|cons p ps=>
  have hp:=h p (List.mem_cons_self ..);cases p with
 |nil=>exact absurd rfl hp
 |cons d p=>
   rw[joinR,gap_cons,hl,Bool.true_and] at he;by_cases hd:regular d=true
   ·rw[if_pos hd] at he
    injection he with e1 _
    subst e1;decide
   ·rw[if_neg hd] at he
    injection he with e1 _
    subst e1;simpa using hd
end Lx
end
end Go.Proofs.YtkejpieaafeblaaGreatDoor



