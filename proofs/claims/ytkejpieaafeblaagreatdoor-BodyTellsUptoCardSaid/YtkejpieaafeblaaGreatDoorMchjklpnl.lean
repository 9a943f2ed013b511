/- Texts that go together: ObB EngX EngY SSlc SlcA SMake SIdx OcIdx ObC SRef05 FixU FixV FixW FixX SLaw02 FixY EngG ObD EngW ObE ObF SVal. -/
import Derived.Laws.CopyRow
import Derived.Lib.AppendZerosOnto
import Derived.Lib.SliceRun
import Derived.Test.YtkejpieaafeblaaGreatDoorRows
import Derived.Lib.Overlaps
import Derived.Laws.Externs
import Derived.Laws.RangeAny
import Derived.Sort.Walk0
import Derived.Test.YtkejpieaafeblaaGreatDoorMfgajbapg
import Derived.Test.YtkejpieaafeblaaGreatDoorMjedaldak
set_option linter.defProp false
set_option linter.unusedSimpArgs false
set_option linter.unusedVariables false
set_option maxRecDepth 20000
open Go.Proofs.Tryz (prog)
namespace Go.Proofs.YtkejpieaafeblaaGreatDoor
section
open Eng Go.RowKit Go.ChangeShapes Go.WideShapes
theorem CE {H:Type}:∀(a b:List (DataW H)),Rows.uptoBulkAll (a++b)=Rows.uptoBulkAll a+Rows.uptoBulkAll b
|[],b=>by simp[Rows.uptoBulkAll]
|x::a,b=>by rw[YY,Rows.uptoBulkAll,CE a b,Rows.uptoBulkAll];omega
theorem K4 {H:Type}:∀ss:List ByteArray,Rows.uptoBulkAll (strs (H:=H) ss)=Pl.tot (ss.map (·.data.toList))
|[]=>by simp[strs,Rows.uptoBulkAll,Pl.tot]
|s::ss=>by
  have:=K4 (H:=H) ss;rw[show strs (H:=H) (s::ss)=.lit (.string s.data.toList)::strs ss from rfl,Rows.uptoBulkAll,this,Rows.uptoBulk];simp[Pl.tot]
theorem OVs.snoc {A:Nat→Prop}{w:World}{a:List Value}{o:Ob}(hl:a.length=6)(ho:OV A w (.agg a.toArray) o):∀(os:List Ob) (cs:List Value),OVs A w cs os→OVs A w (cs++a) (os++[o])
|[],cs,h=>by
  rw[OVs] at h;subst h;rw[Y6,Y6,OVs];exact⟨a,[],by simp,hl,ho,OVs.nil⟩
|p::os,cs,h=>by
  rw[OVs] at h;obtain⟨b,rest,rfl,hb,h1,h2⟩:=h;rw[YY,OVs];exact⟨b,rest++a,by simp,hb,h1,OVs.snoc hl ho os rest h2⟩
theorem NO (o:Ob):∀os:List Ob,Ob.wts (os++[o])=Ob.wts os+o.wt
|[]=>by simp[Ob.wts]
|p::os=>by rw[YY,Ob.wts,NO o os,Ob.wts];omega
theorem Ub (a:Addr)(m n:Nat):(a.add m).add n=a.add (m+n):=by
 unfold Addr.add;by_cases hm:m=0
 ·subst hm;simp
 ·by_cases hn:n=0
  ·subst hn;simp[hm]
  ·have:¬(m+n=0):=by omega
   simp[hm,hn,Zr]
theorem Wg {α:Type}:∀{l:List α},l.length=6→∃a b c d e f,l=[a,b,c,d,e,f]
|[a,b,c,d,e,f],_=>⟨a,b,c,d,e,f,rfl⟩
section
variable {H:Type}{enc:TypeId×Value→H}{W:World}{sp:Nat→Bool}{held:Bool}
abbrev InW (W:World):Nat→Prop:=fun b=>b < W.heap.size
theorem QM {fuel:Nat}{cs:List Value}{x:DataW H×List MemPlace}(h:DataW.trod enc prog W 0 sp held fuel 22 cs=some x) :
  ∃(v:Value) (zs:List (List UInt8)),cs=[v]∧SlA (InW W) W v 1 zs.length (bB zs)∧Pl.tot zs+1≤Rows.uptoBulk x.1:=by
 rcases open_strings Yn Ym (by kernel_rfl) h with ⟨rfl,rfl⟩|⟨a,len,cap,ss,rfl,_,hl,hm,hz,rfl,hcell,hsz⟩
 ·exact⟨_,[],rfl,SlA.nil _ _ _ _,by simp[Pl.tot,Rows.uptoBulk]⟩
 ·have hlz:len≤ss.length:=by rw[hz];split<;>omega
  refine⟨_,(ss.take len).map (·.data.toList),rfl,?_,?_⟩
  ·have hlen:((ss.take len).map (·.data.toList)).length=len:=by simp;omega
   rw[hlen];refine SlA.NB (by omega) (by simp[bB];omega) (fun j u hj=>?_) (fun b hb=>hb) hl;have hjl:j < len:=by
    have:=(Yy.1 hj).1;simp[bB] at this;omega
   rw[hcell j (by omega),←hj];simp[bB,strV,Y9,hjl,List.getD,YB (show j < ss.length by omega)]
  ·simp only[Rows.uptoBulk];rw[K4];omega
set_option maxRecDepth 100000 in
theorem T8:∀(fuel:Nat) (cs:List Value) (x:DataW H×List MemPlace),DataW.trod enc prog W 0 sp held fuel 25 cs=some x →
  ∃o:Ob,OV (InW W) W (.agg cs.toArray) o∧o.wt≤Rows.uptoBulk x.1∧cs.length=6:=by
 intro fuel
 induction fuel using Nat.strongRecOn with
|_ fuel ih=>
  intro cs x h;obtain⟨xs,n,rfl,rfl,hl,hxl,hf⟩:=DataW.trod_struct Tryz.underlying25 h;have c6:Tryz.prog.cellsOf 25=6:=by kernel_rfl
  rw[c6] at hl;have hxl:xs.length=6:=hxl;obtain⟨x0,x1,x2,x3,x4,x5,rfl⟩:=Wg hxl;obtain⟨v0,v1,v2,v3,v4,v5,rfl⟩:=Wg hl;have e0:=hf 0 _ rfl;have e1:=hf 1 _ rfl;have e2:=hf 2 _ rfl;have e3:=hf 3 _ rfl;have e4:=hf 4 _ rfl;have e5:=hf 5 _ rfl;have k0:Tryz.prog.cellsOf 3=1:=by kernel_rfl
  have k1:Tryz.prog.cellsOf 2=1:=by kernel_rfl
  have k3:Tryz.prog.cellsOf 9=1:=by kernel_rfl
  have k4:Tryz.prog.cellsOf 22=1:=by kernel_rfl
  have k5:Tryz.prog.cellsOf 23=1:=by kernel_rfl
  simp only[k0,k1,k3,k4,k5,ZV,Zx,Y7,Z7,aaG,abC] at e0 e1 e2 e3 e4 e5;obtain⟨k,hk,rfl,_⟩:=DataW.trod_int YR e0;obtain⟨m,hm,rfl,_⟩:=DataW.trod_int Z5 e1;obtain⟨g,hg,rfl,_⟩:=DataW.trod_int YR e2;obtain⟨s,hs,rfl,_⟩:=DataW.trod_string Ym e3;obtain⟨vk,zs,hvk,hsk,hbk⟩:=QM e4
  injection hk with hk _
  injection hm with hm _
  injection hg with hg _
  injection hs with hs _
  injection hvk with hvk _
  subst hk;subst hm;subst hg;subst hs;subst hvk;have kids:∃(cs:List Value) (os:List Ob),SlA (InW W) W v5 6 os.length cs∧OVs (InW W) W cs os∧Ob.wts os+1≤Rows.uptoBulk x5.1:=by
   rcases DataW.trod_slice Yt e5 with ⟨hc,rfl⟩|⟨a,len,cap,elems,rest,n',rfl,hc,rfl,_,hlc,hcm,hel,hat,_,_⟩
   ·injection hc with hc _
    subst hc;exact⟨[],[],SlA.nil _ _ _ _,OVs.nil,by simp[Ob.wts,Rows.uptoBulk]⟩
   ·injection hc with hc _
    subst hc;rw[c6] at hat;have step:∀k,k≤len→∃(cs:List Value) (os:List Ob),os.length=k∧OVs (InW W) W cs os∧(∀j u,cs[j]?=some u→W.cell? (a.add j)=some u)∧Ob.wts os≤Rows.uptoBulkAll ((elems.take k).map (·.1)):=by
     intro k
     induction k with
    |zero=>intro _;exact⟨[],[],rfl,OVs.nil,(fun j u hj=>by simp at hj),by simp[Ob.wts,Rows.uptoBulkAll]⟩
    |succ k ihk=>
      intro hk;obtain⟨cs,os,h1,h2,h3,h4⟩:=ihk (by omega);have hki:k < elems.length:=by omega
      have hb:=hat k (by omega);rw[YB hki,Option.bind_eq_some_iff] at hb;obtain⟨ck,hck,htr⟩:=hb;obtain⟨o,ho,hw,hlo⟩:=ih n' (by omega) ck _ htr;have hcsl:=OVs.len os cs h2;refine⟨cs++ck,os++[o],by simp[h1],OVs.snoc hlo ho os cs h2,fun j u hj=>?_,?_⟩
      ·rcases YS j cs.length with hj1|hj1
       ·rw[Z9 hj1] at hj;exact h3 j u hj
       ·rw[Z2 hj1] at hj;have hj6:j - cs.length < 6:=by
         have:=(Yy.1 hj).1;omega
        have:=(World.cells?_some hck).2.2 (j - cs.length) hj6;rw[←hj,←this,Ub,show k*6+(j - cs.length)=j by omega]
      ·rw[NO,YL hki,ZR,CE];simp only[Y1,aaE,Rows.uptoBulkAll];omega
    obtain⟨cs,os,h1,h2,h3,h4⟩:=step len (Yw _);have hcsl:=OVs.len os cs h2;refine⟨cs,os,?_,h2,?_⟩
    ·rw[h1];exact SlA.NB (by omega) (by rw[hcsl,h1]) h3 (fun b hb=>hb) hlc
    ·rw[←hel,Ze] at h4;simp only[Rows.uptoBulk];omega
  obtain⟨cs,os,hsl,hov,hbo⟩:=kids;refine⟨.mk k m g s.data.toList zs os,?_,?_,rfl⟩
  ·rw[OV];exact⟨_,_,cs,rfl,hsk,hsl,hov⟩
  ·simp only[Ob.wt,Rows.uptoBulk,Y1,aaE,Rows.uptoBulkAll];omega
end
end
section
namespace Eng
open Go.RowKit
structure Mem where
 A:Nat→Prop
 w:World
 lt:∀b,A b→b < w.heap.size
def Mem.has (M:Mem)(w:World):Prop:=∀b,M.A b→w.heap[b]?=M.w.heap[b]?
structure Mem.le (M N:Mem):Prop where
 A:∀b,M.A b→N.A b
 has:M.has N.w
def Mem.all (w:World):Mem:=⟨fun b=>b < w.heap.size,w,fun _ h=>h⟩
theorem Mem.QU (w:World):(Mem.all w).has w:=fun _ _=>rfl
theorem Mem.le_refl (M:Mem):M.le M:=⟨fun _ h=>h,fun _ _=>rfl⟩
theorem Mem.le_trans {M N O:Mem}(h:M.le N)(k:N.le O):M.le O:=⟨fun b hb=>k.A b (h.A b hb),fun b hb=>(k.has b (h.A b hb)).trans (h.has b hb)⟩
theorem Mem.Wu {M N:Mem}{w:World}(h:M.le N)(k:N.has w):M.has w:=fun b hb=>(k b (h.A b hb)).trans (h.has b hb)
theorem Mem.bd {M:Mem}{w:World}(h:M.has w){b:Nat}(hb:M.A b):b < w.heap.size:=by
 have h1:=h b hb;rw[abX (M.lt b hb)] at h1;exact dW h1
def Ent.mem (M:Mem):Ent:=⟨M.A,M.has,fun h k b hb=>(k b hb).trans (h b hb),fun h k hk=>Mem.bd h hk⟩
structure Gives (M:Mem) (w w':World) (N:Mem):Prop where
 le:M.le N
 has:N.has w'
 new:∀b,N.A b→M.A b∨w.heap.size≤b
 below:Below w.heap.size w w'
def RetM (P:Program)(f:Nat)(args:Array Value)(M:Mem)(w:World)(R:Value→Mem→Prop):Prop:=Ret P f args w (fun v w'=>∃N,Gives M w w' N∧R v N)
section
variable {S:Nat→Prop}{P:Program}{w w0:World}{L:List Ent}{PK:PKT}{K:VWP}
theorem OwnS.memS {M:Mem}(h:M.has w):OwnS M.A w w [.mem M]:=OwnS.lend (e:=.mem M) h
theorem OwnS.hasM {M:Mem}(ho:OwnS S w0 w L)(i:Nat)(hi:L[i]?=some (.mem M)):M.has w:=ho.at_ i hi
theorem OwnS.XV {M N:Mem}{w':World}(ho:OwnS S w0 w L)(i:Nat)(hi:L[i]?=some (.mem M))(g:Gives M w w' N):OwnS S w0 w' (L.set i (.mem N)):=
 ho.turn i hi ⟨Jx g.below,g.has,g.new⟩
theorem OwnS.lV {M0 N:Mem}{w':World}(ho:OwnS M0.A w w' L)(i:Nat)(hi:L[i]?=some (.mem N))(hle:M0.le N)(h0:M0.has w):Gives M0 w w' N:=by
 have hm:=ho.all (.mem N) (Zh hi);refine⟨hle,hm.1,fun b hb=>hm.2 b hb,ho.grew.os,ho.grew.tape,ho.grew.output,ho.grew.size,fun k hk=>?_⟩;by_cases hA:M0.A k
 ·rw[h0 k hA];have h1:w'.heap[k]?=N.w.heap[k]?:=hm.1 k (hle.A k hA);rw[h1];exact hle.has k hA
 ·exact ho.grew.block k hk hA
theorem cM {f:Nat}{args:Array Value}{M:Mem}{R:Value→Mem→Prop}(hM:M.has w)
  (h:∀K:Ending→World→Prop,(∀(v:Value) (w':World) (N:Mem) (L:List Ent) (i:Nat),OwnS M.A w w' L→L[i]?=some (.mem N)→M.le N→R v N→K (.returned v) w')→Calls P f args w K):RetM P f args M w R:=
 aO fun K hK=>h K fun v w' N L i ho hi hle hr=>hK v w' ⟨N,ho.lV i hi hle hM,hr⟩
theorem eD {f:Nat}{args:Array Value}{M:Mem}{R:Value→Mem→Prop}(ho:OwnS S w0 w L)(i:Nat)(hi:L[i]?=some (.mem M))(h:RetM P f args M w R)
  (k:∀v N w',M.le N→R v N→OwnS S w0 w' (L.set i (.mem N))→K v w'):CallX P f args w PK K:=
 dS h fun v w' ⟨N,g,r⟩=>k v N w' g.le r (ho.XV i hi g)
theorem OwnS.freeze {M:Mem}{e:Ent}(ho:OwnS S w0 w (e::L))(i:Nat)(hi:L[i]?=some (.mem M)) :
  ∃N:Mem,M.le N∧N.w=w∧(∀b,e.blk b→N.A b)∧OwnS S w0 w (L.set i (.mem N)):=by
 have he:=ho.all e (by simp);have hM:M.has w:=ho.at_ (i+1) (by simpa using hi);have hlt:∀b,M.A b∨e.blk b→b < w.heap.size:=fun b hb=>hb.elim (fun h=>Mem.bd hM h) (fun h=>e.lt he.1 b h)
 let N:Mem:=⟨fun b=>M.A b∨e.blk b,w,hlt⟩
 have hil:i < L.length:=(Yy.1 hi).1;have hie:L[i]=.mem M:=(Yy.1 hi).2;obtain⟨a1,a2⟩:=YT.1 ho.apart;have hp:=ZX.1 a2;have bM:∀k,M.A k→(L[i]).blk k:=fun k hk=>by rw[hie];exact hk
 refine⟨N,⟨fun b hb=>.inl hb,hM⟩,rfl,fun b hb=>.inr hb,ho.grew,?_,?_⟩
 ·intro f hf;obtain⟨j,hj,rfl⟩:=ZC hf;rw[abG] at hj;rw[aaH];split
  ·refine⟨fun b _=>rfl,fun k hk=>?_⟩;rcases hk with hk|hk
   ·exact (ho.all (.mem M) (by rw[←hie];exact Za _ (YH hil))).2 k hk
   ·exact he.2 k hk
  ·exact ho.all _ (Za _ (YH hj))
 ·rw[ZX];intro a b ha hb hab k hk;rw[abG] at ha hb;rw[aaH] at hk;rw[aaH];split at hk
  ·rename_i hia
   subst hia;rw[Yg (by omega)];rcases hk with hk|hk
   ·exact hp i b ha hb hab k (bM k hk)
   ·exact a1 _ (YH hb) k hk
  ·split
   ·rename_i hib
    subst hib;intro hk';rcases hk' with hk'|hk'
    ·exact hp a i ha hb hab k hk (bM k hk')
    ·exact a1 _ (YH ha) k hk' hk
   ·exact hp a b ha hb hab k hk
end
end Eng
open Eng Go.RowKit
theorem SlA.le {M N:Mem}(h:M.le N){v:Value}{sz n:Nat}{cs:List Value}(hs:SlA M.A M.w v sz n cs):SlA N.A N.w v sz n cs:=by
 have:=hs.kept (w':=N.w) h.has;exact⟨this.1,(fun p l c e hn=>h.A _ (this.2.1 p l c e hn)),this.2.2⟩
theorem SlA.now {M:Mem}{w:World}(h:M.has w){v:Value}{sz n:Nat}{cs:List Value}(hs:SlA M.A M.w v sz n cs):Sl w v sz n cs:=(hs.kept (w':=w) h).1
theorem OV.le {M N:Mem}(h:M.le N){v:Value}{o:Ob}(hv:OV M.A M.w v o):OV N.A N.w v o:=OV.mono h.A o v (OV.kept h.has o v hv)
theorem OVs.le {M N:Mem}(h:M.le N){cs:List Value}{os:List Ob}(hv:OVs M.A M.w cs os):OVs N.A N.w cs os:=OVs.mono h.A os cs (OVs.kept h.has os cs hv)
theorem OV.inw {M:Mem}{w:World}(h:M.has w){v:Value}{o:Ob}(hv:OV M.A M.w v o):OV (InW w) w v o:=OV.mono (fun b hb=>Mem.bd h hb) o v (OV.kept h o v hv)
end
section
namespace Eng
open Go.RowKit
section
variable {S:Nat→Prop}{P:Program}{w w0:World}{L:List Ent}{PK:PKT}{K:VWP}
theorem Uu {T E:TypeId}{xo yo:Operand}{a:Option Addr}{n c n' c':Nat}(h:P.underlying T=some (.slice E)):DoX P (mEq .eql T xo yo (.slice a n c) (.slice none n' c')) w PK K=K (.bool a.isNone) w:=by
 refine eJ ?_;simp[eqGuard,Lib.run_eql_slice_nil w T E a n c n' c' h]
theorem WG {T E:TypeId}{xo yo:Operand}{a:Option Addr}{n c n' c':Nat}(h:P.underlying T=some (.slice E)):DoX P (mEq .neq T xo yo (.slice a n c) (.slice none n' c')) w PK K=K (.bool (!a.isNone)) w:=by
 refine eJ ?_;have:=Lib.run_equalIn_slice_nil (P:=P) w 9999 T E a n c n' c' h;simp[eqGuard,binOp,Op.equal,Op.maxDepth,this]
def subA (a:Option Addr)(l cap sz:Nat):Option Addr:=if cap=l then a else a.map (·.add (l*sz))
theorem fB {b off l cap sz:Nat}(h:l < cap):subA (some ⟨b,off,none⟩) l cap sz=some ⟨b,off+l*sz,none⟩:=by
 unfold subA;rw[Yg (by omega),Zv,cS]
theorem Jy {a:Addr}{cap sz:Nat}:subA (some ⟨a.block,a.off,none⟩) 0 cap sz=some ⟨a.block,a.off,none⟩:=by
 unfold subA;split
 ·rfl
 ·rw[Zv,cS,Z1,aaI]
theorem cR {T E:TypeId}{k:IntKind}{a:Option Addr}{n cap sz:Nat}{lo:Int}(h:P.underlying T=some (.slice E))(hsz:(P.info? E).map (·.size)=some sz)(h0:0≤lo)(h1:lo≤n) :
  (aT T (.slice a n cap) (some (.int k lo)) none none).run P w=.ok (.value (.slice (subA a lo.toNat cap sz) (n - lo.toNat) (cap - lo.toNat))) w:=by
 obtain⟨i,hi,h2⟩:=Zj.1 hsz;have he:P.elem T=E:=by simp[Program.elem,h]
 have ht:P.underlying T=some (.slice (P.elem T)):=by rw[he];exact h
 refine bW ?_;rw[run_sliceAt_slice w T _ _ _ _ ht,run_slice_l w T a n cap ht k lo h0 h1];simp[sizeOf,typeInfo,he,hi,h2,sliced,subA]
theorem sS {T E:TypeId}{k:IntKind}{a:Option Addr}{n cap sz:Nat}{hi:Int}(h:P.underlying T=some (.slice E))(hsz:(P.info? E).map (·.size)=some sz)(h0:0≤hi)(h1:hi≤cap) :
  (aT T (.slice a n cap) none (some (.int k hi)) none).run P w=.ok (.value (.slice (subA a 0 cap sz) hi.toNat cap)) w:=by
 obtain⟨i,hi',h2⟩:=Zj.1 hsz;have he:P.elem T=E:=by simp[Program.elem,h]
 have ht:P.underlying T=some (.slice (P.elem T)):=by rw[he];exact h
 refine bW ?_;rw[run_sliceAt_slice w T _ _ _ _ ht,run_slice_h w T a n cap ht k hi h0 h1];simp[sizeOf,typeInfo,he,hi',h2,sliced,subA]
theorem LB {T E:TypeId}{k k':IntKind}{a:Option Addr}{n cap sz:Nat}{lo hi:Int}(h:P.underlying T=some (.slice E))(hsz:(P.info? E).map (·.size)=some sz)(h0:0≤lo)(h1:lo≤hi)(h2:hi≤cap) :
  (aT T (.slice a n cap) (some (.int k lo)) (some (.int k' hi)) none).run P w=.ok (.value (.slice (subA a lo.toNat cap sz) (hi.toNat - lo.toNat) (cap - lo.toNat))) w:=by
 obtain⟨i,hi',h3⟩:=Zj.1 hsz;have he:P.elem T=E:=by simp[Program.elem,h]
 have ht:P.underlying T=some (.slice (P.elem T)):=by rw[he];exact h
 refine bW ?_;rw[run_sliceAt_slice w T _ _ _ _ ht,run_slice_lh w T a n cap ht k k' lo hi h0 h1 h2];simp[sizeOf,typeInfo,he,hi',h3,sliced,subA]
theorem JF {T E:TypeId}{k k' k2:IntKind}{a:Option Addr}{n cap sz:Nat}{lo hi m:Int}(h:P.underlying T=some (.slice E))(hsz:(P.info? E).map (·.size)=some sz)(h0:0≤lo)(h1:lo≤hi)(h2:hi≤m)(h3:m≤cap) :
  (aT T (.slice a n cap) (some (.int k lo)) (some (.int k' hi)) (some (.int k2 m))).run P w=.ok (.value (.slice (subA a lo.toNat m.toNat sz) (hi.toNat - lo.toNat) (m.toNat - lo.toNat))) w:=by
 obtain⟨i,hi',h4⟩:=Zj.1 hsz;have he:P.elem T=E:=by simp[Program.elem,h]
 have ht:P.underlying T=some (.slice (P.elem T)):=by rw[he];exact h
 refine bW ?_;rw[run_sliceAt_slice w T _ _ _ _ ht,run_slice_lhm w T a n cap ht k k' k2 lo hi m h0 h1 h2 h3];simp[sizeOf,typeInfo,he,hi',h4,sliced,subA]
theorem OO {T U E:TypeId}{cb:Array Bool}{a:Option Addr}{n cap:Nat}(h:P.underlying T=some (.slice E)):(mB .len #[T] U cb #[.slice a n cap]).run P w=.ok (.value (.int .i64 (n:Int))) w:=by
 simp[mB,builtin,Builtin.len_,run_underlying h,goInt]
theorem UA {T U E:TypeId}{cb:Array Bool}{a:Option Addr}{n cap:Nat}(h:P.underlying T=some (.slice E)):DoX P (mB .cap #[T] U cb #[.slice a n cap]) w PK K=K (.int .i64 (cap:Int)) w:=by
 refine aU ?_;simp[mB,builtin,Builtin.cap_,run_underlying h,goInt]
theorem UI {T E:TypeId}{sz bytes n:Nat}{kl kc:IntKind}(ht:P.underlying T=some (.slice E))(he:elB P E sz bytes=true)(hb:bytes*n≤281474976710656)(hn:n≤281474976710656)(ho:OwnS S w0 w L)
  (k:∀(g:Nat) (w':World) (zs:List Value),zs.length=n*sz→OwnS S w0 w' (.cells g zs E::L)→K (.slice (some ⟨g,0,none⟩) n n) w'):DoX P (P6 T (.int kl (n:Int)) (.int kc (n:Int))) w PK K:=by
 obtain⟨i,z,hi,hz,hi1,hi2,hz1⟩:=sV he;have hb':(i.bytes:Int)*(n:Int)≤281474976710656:=by rw[hi2,←Int.natCast_mul];omega
 have hr:=run_make (P:=P) w T E i z ht hi hz kl kc n n (by omega) (by omega) hb' (by omega);rw[Yo] at hr;refine pQ (bW hr) (k _ _ (madeCells z.cells (n*i.size)).toList ?_ ?_)
 ·rw[acK,size_madeCells,hi1]
 ·have:=ho.alloc (madeCells z.cells (n*i.size)).toList E
  rwa [Array.toArray_toList] at this
theorem RW {dT sT ty T E:TypeId}{cb:Array Bool}{g o dLen dCap sz:Nat}{a:Addr}{sLen sCap:Nat}{cur src:List Value}(hu:P.underlying dT=some (.slice E))(hsz:(P.info? E).map (·.size)=some sz)
  (hg:w.heap[g]?=some (.cells cur.toArray T (0,0))) (hn:src.length=Nat.min sLen dLen*sz) (hsrc:∀j v,src[j]?=some v→w.cell? (a.add j)=some v) (hfit:o+src.length≤cur.length) (h1:∀v∈src,v.oneCell'=true) :
  (mB .copy #[dT,sT] ty cb #[.slice (some ⟨g,o,none⟩) dLen dCap,.slice (some a) sLen sCap]).run P w=.ok (.value (goInt (Nat.min sLen dLen))) (w.setRow g (cur.take o++src++cur.drop (o+src.length)).toArray):=by
 have hl:=run_loadCells_list (P:=P) w a src hsrc;have hst:=run_storeCells_at P g o T src 0 cur.toArray w hg (by simpa using hfit) h1;obtain⟨i,hi,h2⟩:=Zj.1 hsz;rw[hn] at hl;simp only[aaI] at hst;simp[mB,builtin,Builtin.copy_,run_underlying hu,Builtin.lenOf,Builtin.firstCells,sizeOf,typeInfo,hi,h2,hl,hst]
theorem AF (i:Nat){dT sT ty T E:TypeId}{cb:Array Bool}{g o dLen dCap sz:Nat}{a:Addr}{sLen sCap:Nat}{cur src:List Value}(hu:P.underlying dT=some (.slice E))(hsz:(P.info? E).map (·.size)=some sz)
  (ho:OwnS S w0 w L) (hi:L[i]?=some (.cells g cur T)) (hn:src.length=min sLen dLen*sz) (hsrc:∀j v,src[j]?=some v→w.cell? (a.add j)=some v) (hfit:o+src.length≤cur.length) (h1:∀v∈src,v.oneCell'=true)
  (k:∀v' w',OwnS S w0 w' (L.set i (.cells g (cur.take o++src++cur.drop (o+src.length)) T))→K v' w') :
  DoX P (mB .copy #[dT,sT] ty cb #[.slice (some ⟨g,o,none⟩) dLen dCap,.slice (some a) sLen sCap]) w PK K:=
 pQ (RW hu hsz (ho.at_ i hi) hn hsrc hfit h1) (k _ _ (pV ho i hi _))
theorem QW {T tn U E:TypeId}{cb:Array Bool}{kn kq:IntKind}{g n cap m sz bytes:Nat}{olds:List Value}(ht:P.underlying T=some (.slice E))(htn:P.underlying tn=some (.int kn))(he:elB P E sz bytes=true)(hsz:0 < sz)
  (ho:OwnS S w0 w L) (hol:olds.length=n*sz) (hold:∀j u,olds[j]?=some u→w.cell? ⟨g,0+j,none⟩=some u) (h0:0 < m) (hg:cap < n+m) (hb:(n+m)*bytes≤140737488355328) (hb2:n+m≤140737488355328)
  (k:∀(b c:Nat) (zs:List Value) (w':World),n+m≤c→c≤9223372036854775807→zs.length+n*sz=c*sz→OwnS S w0 w' (.cells b (olds++zs) E::L)→K (.slice (some ⟨b,0,none⟩) (n+m) c) w') :
  DoX P (mB .append #[T,tn] U cb #[.slice (some ⟨g,0,none⟩) n cap,.int kq (m:Int)]) w PK K:=by
 obtain⟨i,z,hi,hz,hi1,hi2,hz1⟩:=sV he;have hold':(Builtin.firstCells i.size n (.slice (some ⟨g,0,none⟩) n cap)).run P w.drew=.ok olds.toArray w.drew:=by
  have hl:=run_loadCells_list (P:=P) w.drew ⟨g,0,none⟩ olds (fun j v hj=>by rw[cS];exact hold j v hj);simp only[Builtin.firstCells,hi1,←hol];exact hl
 have hge:=grownCap_ge w (n+m) cap E;have hle:=grownCap_le_maxLen w (n+m) cap E (by simp only[maxLen];omega);have hr:=Lib.run_append_grow_zeros (P:=P) w T tn U E i z kq kn ht htn hi hz (some ⟨g,0,none⟩) n cap olds hold' m h0 (by omega) hg (by omega) (by
   rw[hi2];have:m*bytes≤(n+m)*bytes:=YU _ (by omega);omega) (by rw[hi2];exact growslice_fits hg hb)
 have hzc:∀x,(Builtin.zeroCells z.cells x).toList.length=x*sz:=by intro x;simp[Builtin.zeroCells,hz1]
 obtain⟨zs,hzs⟩:∃zs,zs=(Builtin.zeroCells z.cells m).toList++(Builtin.zeroCells z.cells (grownCap w (n+m) cap E - (n+m))).toList:=⟨_,rfl⟩;have hlen:zs.length+n*sz=grownCap w (n+m) cap E*sz:=by
  rw[hzs,Yp,hzc,hzc,←ZP,←ZP]
  congr 1
  omega
 have key:=(ho.drew).alloc (olds++zs) E;have e:(olds++zs).toArray=olds.toArray++Builtin.zeroCells z.cells m++Builtin.zeroCells z.cells (grownCap w (n+m) cap E - (n+m)):=by
  rw[hzs];simp
 have hr':(mB .append #[T,tn] U cb #[.slice (some ⟨g,0,none⟩) n cap,.int kq (m:Int)]).run P w=.ok (.value (.slice (some ⟨w.heap.size,0,none⟩) (n+m) (grownCap w (n+m) cap E))) (w.drew.alloc (.cells (olds++zs).toArray E)):=by
  rw[e];simp[mB,builtin,hr]
 exact pQ hr' (k w.heap.size _ zs _ hge (by simp only[maxLen] at hle;exact hle) hlen key)
theorem JC (i:Nat){T E U:TypeId}{cb:Array Bool}{g n cap m c sz bytes:Nat}{a:Addr}{cur news:List Value}(ht:P.underlying T=some (.slice E))(he:elB P E sz bytes=true)
  (ho:OwnS S w0 w L) (hi:L[i]?=some (.cells g cur E)) (hl:news.length=m*sz) (hnews:∀j u,news[j]?=some u→w.cell? (a.add j)=some u) (h1:∀u∈news,u.oneCell'=true) (hroom:n+m≤cap) (hfit:n*sz+news.length≤cur.length)
  (k:∀w',OwnS S w0 w' (L.set i (.cells g (cur.take (n*sz)++news++cur.drop (n*sz+news.length)) E))→K (.slice (some ⟨g,0,none⟩) (n+m) cap) w') :
  DoX P (mB .append #[T,T] U cb #[.slice (some ⟨g,0,none⟩) n cap,.slice (some a) m c]) w PK K:=by
 obtain⟨ii,z,hii,hz,hi1,hi2,hz1⟩:=sV he;have hg:w.heap[g]?=some (.cells cur.toArray E (0,0)):=ho.at_ i hi;have hr:=run_append_roomF (P:=P) w T U E ii ht hii g n cap cur.toArray (0,0) hg (ZF _) a m c news (by rw[hi1];exact hl) hnews h1 hroom (by rw[hi1];simpa using hfit);rw[hi1] at hr;have hr':(mB .append #[T,T] U cb #[.slice (some ⟨g,0,none⟩) n cap,.slice (some a) m c]).run P w=.ok (.value (.slice (some ⟨g,0,none⟩) (n+m) cap)) (w.setRow g (cur.take (n*sz)++news++cur.drop (n*sz+news.length)).toArray):=by
  simp[mB,builtin,hr]
 exact pQ hr' (k _ (pV ho i hi _))
def zB (P:Program)(E:TypeId):Bool:=
 match P.info? E with
|some i=>match i.zero with
 |some z=>z.cells.toList.all (·.oneCell')
 |none=>false
|none=>false
theorem Ov (i:Nat){T E U:TypeId}{cb:Array Bool}{g o n c sz bytes:Nat}{cur:List Value}(ht:P.underlying T=some (.slice E))(he:elB P E sz bytes=true)(hz:zB P E=true)(h0:0 < n)
  (ho:OwnS S w0 w L) (hi:L[i]?=some (.cells g cur E)) (hfit:o+n*sz≤cur.length)
  (k:∀v' w' zs,zs.length=n*sz→OwnS S w0 w' (L.set i (.cells g (cur.take o++zs++cur.drop (o+n*sz)) E))→K v' w') :
  DoX P (mB .clear #[T] U cb #[.slice (some ⟨g,o,none⟩) n c]) w PK K:=by
 obtain⟨ii,z,hii,hz',hi1,hi2,hz1⟩:=sV he;have hg:w.heap[g]?=some (.cells cur.toArray E (0,0)):=ho.at_ i hi;have hone:∀x∈z.cells.toList,x.oneCell'=true:=by
  unfold zB at hz;rw[hii] at hz;simp only[hz'] at hz;exact YI.1 hz
 have hzl:(Builtin.zeroCells z.cells n).toList.length=n*sz:=by simp[Builtin.zeroCells,hz1]
 have hzo:∀x∈(Builtin.zeroCells z.cells n).toList,x.oneCell'=true:=by
  intro x hx;simp only[Builtin.zeroCells,Array.toList_map,YN,Array.toList_range,Z3] at hx;obtain⟨j,hj,rfl⟩:=hx;have hjs:j % z.cells.size < z.cells.size:=Nat.mod_lt _ (by
   rcases Zd z.cells.size with h|h
   ·rw[h] at hj;simp at hj
   ·exact h)
  rw[getElem!_pos z.cells (j % z.cells.size) hjs];exact hone _ (by simp)
 have hst:=run_storeCells_at P g o E (Builtin.zeroCells z.cells n).toList 0 cur.toArray w hg (by rw[hzl];simpa using hfit) hzo;simp only[aaI] at hst;obtain⟨m,rfl⟩:∃m,n=m+1:=⟨n - 1,by omega⟩;have hr':(mB .clear #[T] U cb #[.slice (some ⟨g,o,none⟩) (m+1) c]).run P w=.ok (.value (.tuple #[])) (w.setRow g (cur.take o++(Builtin.zeroCells z.cells (m+1)).toList++cur.drop (o+(m+1)*sz)).toArray):=by
  simp[mB,builtin,Builtin.clear_,run_underlying ht,zeroValue,typeInfo,hii,hz',hst];rw[←hzl];simp
 exact pQ hr' (k _ _ _ hzl (pV ho i hi _))
theorem Ve {cs cs':List Value}{off j:Nat}{v:Value}(h:(cs.drop off).take cs'.length=cs')(hj:cs'[j]?=some v):cs[off+j]?=some v:=by
 rw[←h] at hj;rw[Y9] at hj;split at hj
 ·rwa [Zg] at hj
 ·cases hj
theorem OwnS.Wm (ho:OwnS S w0 w L)(i:Nat){b:Nat}{cs:List Value}{E T:TypeId}(hi:L[i]?=some (.cells b cs E))(off:Nat)(cs':List Value)(hcs:(cs.drop off).take cs'.length=cs')(ht:aggN P T=some cs'.length):AtV P w T ⟨b,off,none⟩ (.agg cs'.toArray):=
 AtV.agg ht rfl fun j v hj=>ho.cell i hi (off+j) (Ve hcs hj)
theorem VB (i:Nat){T:TypeId}{b off:Nat}{cs new:List Value}{E:TypeId}(ho:OwnS S w0 w L)(hi:L[i]?=some (.cells b cs E))(hs:(P.info? T).map (·.size)=some new.length)(hv:∀v∈new,v.oneCell'=true)(hl:off+new.length≤cs.length)
  (k:∀w',OwnS S w0 w' (L.set i (.cells b (cs.take off++new++cs.drop (off+new.length)) E))→K undef w'):DoX P (aC T (.pointer (some ⟨b,off,none⟩)) (.agg new.toArray)) w PK K:=by
 have hr:=Fk (P:=P) (T:=T) (g:=b) (off:=off) (cur:=cs.toArray) (E:=E) (u:=.agg new.toArray) (new:=new) rfl hs hv (ho.at_ i hi) (by simpa using hl);refine HS (L3 hr) (k _ ?_);have e:(cs.toArray.toList.take off++new++cs.toArray.toList.drop (off+new.length)).toArray=(cs.take off++new++cs.drop (off+new.length)).toArray:=by simp
 rw[e];exact pV ho i hi _
theorem Sz {M N:Mem}{T:TypeId}{sz:Nat}{v:Value}{n:Nat}{xs:List Value}(hw:N.w=w)(hb:∀b,(Ent.urow T sz v n xs).blk b→N.A b)(h:(Ent.urow T sz v n xs).is w):SlA N.A N.w v sz n xs:=by
 rw[hw];refine⟨Sl.urow h,fun p l c e hn=>hb _ ?_,fun a l c e=>?_⟩
 ·rcases (show w.ownsRow 0 T sz v n xs from h).2 with ⟨rfl,h0⟩|⟨g,cap,cur,rfl,_⟩
  ·cases e
  ·injection e with e1 _ _
   injection e1 with e1
   rw[←e1];rfl
 ·rcases (show w.ownsRow 0 T sz v n xs from h).2 with ⟨rfl,h0⟩|⟨g,cap,cur,rfl,_,_,hnc,_⟩
  ·injection e with _ e2 e3;omega
  ·injection e with _ e2 e3;omega
theorem OwnS.gP {M:Mem}{T:TypeId}{sz:Nat}{v:Value}{n:Nat}{xs:List Value}(ho:OwnS S w0 w (.urow T sz v n xs::L))(i:Nat)(hi:L[i]?=some (.mem M)) :
  ∃N:Mem,M.le N∧SlA N.A N.w v sz n xs∧OwnS S w0 w (L.set i (.mem N)):=by
 have h:=ho.at_ 0 rfl;obtain⟨N,h1,h2,h3,h4⟩:=ho.freeze i hi;exact⟨N,h1,Sz (M:=M) h2 h3 h,h4⟩
end
end Eng
end
section
open Eng
def fD(t0 w)(K:KT):=
 dx (mEq .eql 22 (.tmp 3) (.const (.slice none 0 0)) t0 (.slice none 0 0)) w K fun t4 w=>IfX t4 (K (.returned (.slice none 0 0)) w) (dx (aS 22 0 #[]) w K fun t5 w=>dx (mB .append #[22,22] 22 #[false,false] #[t5,t0]) w K fun t7 w=>K (.returned t7) w)
theorem mE{t0 w K}(h:fD t0 w K):Calls prog 132 #[t0] w K:=cw Tryz.func132 rfl rfl (by kernel_rfl) h
def bU(t0 w)(K:KT):=
 dx (mEq .eql 23 (.tmp 3) (.const (.slice none 0 0)) t0 (.slice none 0 0)) w K fun t4 w=>IfX t4 (K (.returned (.slice none 0 0)) w) (dx (aS 23 0 #[]) w K fun t5 w=>dx (mB .append #[23,23] 23 #[false,false] #[t5,t0]) w K fun t7 w=>K (.returned t7) w)
theorem cU{t0 w K}(h:bU t0 w K):Calls prog 133 #[t0] w K:=cw Tryz.func133 rfl rfl (by kernel_rfl) h
def eP(t0 t1 t2 w)(K:KT):=
 dx (aT 22 t0 (some t1) none none) w K fun t12 w=>dx (mB .len #[22] 3 #[false] #[t2]) w K fun t14 w=>dx (mEq .eql 3 (.tmp 15) (.const (iN 0)) t14 (iN 0)) w K fun t16 w=>IfX t16 (K (.returned t0) w) (dx (mB .len #[22] 3 #[false] #[t0]) w K fun t19 w=>dx (mEq .eql 3 (.tmp 20) (.tmp 21) t1 t19) w K fun t22 w=>IfX t22 (dx (mB .append #[22,22] 22 #[false,false] #[t0,t2]) w K fun t25 w=>K (.returned t25) w) (dx (mBin .add 3 t19 t14) w K fun t28 w=>dx (mB .cap #[22] 3 #[false] #[t0]) w K fun t30 w=>dx (mBin .gtr 3 t28 t30) w K fun t31 w=>IfX t31 (dx (aT 22 t0 none (some t1) none) w K fun t34 w=>dx (mBin .add 3 t19 t14) w K fun t37 w=>dx (mBin .sub 3 t37 t1) w K fun t39 w=>dx (mB .append #[22,3] 22 #[false,false] #[t34,t39]) w K fun t40 w=>dx (aT 22 t40 (some t1) none none) w K fun t43 w=>dx (mB .copy #[22,22] 3 #[false,false] #[t43,t2]) w K fun t45 w=>QuietX w (fun C1=>QDo prog C1 (mBin .add 3 t1 t14) fun t49=>QDo prog C1 (aT 22 t40 (some t49) none none) fun t50=>QDo prog C1 (aT 22 t0 (some t1) none none) fun t53=>
 ∀w,C1 w →
 dx (mB .copy #[22,22] 3 #[false,false] #[t50,t53]) w K fun t54 w=>K (.returned t40) w)) (dx (mBin .add 3 t19 t14) w K fun t59 w=>dx (aT 22 t0 none (some t59) none) w K fun t60 w=>dx (mBin .add 3 t1 t14) w K fun t65 w=>dx (aT 22 t60 (some t65) none none) w K fun t66 w=>dx (eO (.func (.func 187) #[] #[]) #[t2,t66]) w K fun t67 w=>dx (mUn .not t67) w K fun t68 w=>IfX t68 (QuietX w (fun C2=>QDo prog C2 (mBin .add 3 t1 t14) fun t72=>QDo prog C2 (aT 22 t60 (some t72) none none) fun t73=>QDo prog C2 (aT 22 t60 (some t1) none none) fun t76=>
 ∀w,C2 w →
 dx (mB .copy #[22,22] 3 #[false,false] #[t73,t76]) w K fun t77 w=>dx (aT 22 t60 (some t1) none none) w K fun t80 w=>dx (mB .copy #[22,22] 3 #[false,false] #[t80,t2]) w K fun t82 w=>K (.returned t60) w)) (dx (aT 22 t60 (some t19) none none) w K fun t86 w=>dx (mB .copy #[22,22] 3 #[false,false] #[t86,t2]) w K fun t88 w=>dx (aT 22 t60 (some t1) none none) w K fun t91 w=>cx 188 #[t91,t14] w K fun t93 w=>K (.returned t60) w))))
theorem kZ{t0 t1 t2 w K}(h:eP t0 t1 t2 w K):Calls prog 134 #[t0,t1,t2] w K:=cw Tryz.func134 rfl rfl (by kernel_rfl) h
def bQ(t0 t1 t2 w)(K:KT):=
 dx (aT 23 t0 (some t1) none none) w K fun t12 w=>dx (mB .len #[23] 3 #[false] #[t2]) w K fun t14 w=>dx (mEq .eql 3 (.tmp 15) (.const (iN 0)) t14 (iN 0)) w K fun t16 w=>IfX t16 (K (.returned t0) w) (dx (mB .len #[23] 3 #[false] #[t0]) w K fun t19 w=>dx (mEq .eql 3 (.tmp 20) (.tmp 21) t1 t19) w K fun t22 w=>IfX t22 (dx (mB .append #[23,23] 23 #[false,false] #[t0,t2]) w K fun t25 w=>K (.returned t25) w) (dx (mBin .add 3 t19 t14) w K fun t28 w=>dx (mB .cap #[23] 3 #[false] #[t0]) w K fun t30 w=>dx (mBin .gtr 3 t28 t30) w K fun t31 w=>IfX t31 (dx (aT 23 t0 none (some t1) none) w K fun t34 w=>dx (mBin .add 3 t19 t14) w K fun t37 w=>dx (mBin .sub 3 t37 t1) w K fun t39 w=>dx (mB .append #[23,3] 23 #[false,false] #[t34,t39]) w K fun t40 w=>dx (aT 23 t40 (some t1) none none) w K fun t43 w=>dx (mB .copy #[23,23] 3 #[false,false] #[t43,t2]) w K fun t45 w=>QuietX w (fun C1=>QDo prog C1 (mBin .add 3 t1 t14) fun t49=>QDo prog C1 (aT 23 t40 (some t49) none none) fun t50=>QDo prog C1 (aT 23 t0 (some t1) none none) fun t53=>
 ∀w,C1 w →
 dx (mB .copy #[23,23] 3 #[false,false] #[t50,t53]) w K fun t54 w=>K (.returned t40) w)) (dx (mBin .add 3 t19 t14) w K fun t59 w=>dx (aT 23 t0 none (some t59) none) w K fun t60 w=>dx (mBin .add 3 t1 t14) w K fun t65 w=>dx (aT 23 t60 (some t65) none none) w K fun t66 w=>dx (eO (.func (.func 189) #[] #[]) #[t2,t66]) w K fun t67 w=>dx (mUn .not t67) w K fun t68 w=>IfX t68 (QuietX w (fun C2=>QDo prog C2 (mBin .add 3 t1 t14) fun t72=>QDo prog C2 (aT 23 t60 (some t72) none none) fun t73=>QDo prog C2 (aT 23 t60 (some t1) none none) fun t76=>
 ∀w,C2 w →
 dx (mB .copy #[23,23] 3 #[false,false] #[t73,t76]) w K fun t77 w=>dx (aT 23 t60 (some t1) none none) w K fun t80 w=>dx (mB .copy #[23,23] 3 #[false,false] #[t80,t2]) w K fun t82 w=>K (.returned t60) w)) (dx (aT 23 t60 (some t19) none none) w K fun t86 w=>dx (mB .copy #[23,23] 3 #[false,false] #[t86,t2]) w K fun t88 w=>dx (aT 23 t60 (some t1) none none) w K fun t91 w=>cx 190 #[t91,t14] w K fun t93 w=>K (.returned t60) w))))
theorem cP{t0 t1 t2 w K}(h:bQ t0 t1 t2 w K):Calls prog 135 #[t0,t1,t2] w K:=cw Tryz.func135 rfl rfl (by kernel_rfl) h
def eQ(t0 t1 t2 w)(K:KT):=
 dx (mB .len #[22] 3 #[false] #[t0]) w K fun t12 w=>dx (aT 22 t0 (some t1) (some t2) (some t12)) w K fun t13 w=>dx (mEq .eql 3 (.tmp 14) (.tmp 15) t1 t2) w K fun t16 w=>IfX t16 (K (.returned t0) w) (dx (mB .len #[22] 3 #[false] #[t0]) w K fun t19 w=>QuietX w (fun C1=>QDo prog C1 (aT 22 t0 none (some t1) none) fun t22=>QDo prog C1 (aT 22 t0 (some t2) none none) fun t25=>
 ∀w,C1 w →
 dx (mB .append #[22,22] 22 #[false,false] #[t22,t25]) w K fun t26 w=>dx (mB .len #[22] 3 #[false] #[t26]) w K fun t29 w=>dx (aT 22 t26 (some t29) (some t19) none) w K fun t31 w=>dx (mB .clear #[22] 0 #[false] #[t31]) w K fun _ w=>K (.returned t26) w))
theorem kX{t0 t1 t2 w K}(h:eQ t0 t1 t2 w K):Calls prog 185 #[t0,t1,t2] w K:=cw Tryz.func185 rfl rfl (by kernel_rfl) h
def bR(t0 t1 t2 w)(K:KT):=
 dx (mB .len #[23] 3 #[false] #[t0]) w K fun t12 w=>dx (aT 23 t0 (some t1) (some t2) (some t12)) w K fun t13 w=>dx (mEq .eql 3 (.tmp 14) (.tmp 15) t1 t2) w K fun t16 w=>IfX t16 (K (.returned t0) w) (dx (mB .len #[23] 3 #[false] #[t0]) w K fun t19 w=>QuietX w (fun C1=>QDo prog C1 (aT 23 t0 none (some t1) none) fun t22=>QDo prog C1 (aT 23 t0 (some t2) none none) fun t25=>
 ∀w,C1 w →
 dx (mB .append #[23,23] 23 #[false,false] #[t22,t25]) w K fun t26 w=>dx (mB .len #[23] 3 #[false] #[t26]) w K fun t29 w=>dx (aT 23 t26 (some t29) (some t19) none) w K fun t31 w=>dx (mB .clear #[23] 0 #[false] #[t31]) w K fun _ w=>K (.returned t26) w))
theorem cQ{t0 t1 t2 w K}(h:bR t0 t1 t2 w K):Calls prog 186 #[t0,t1,t2] w K:=cw Tryz.func186 rfl rfl (by kernel_rfl) h
def cW(t0 t1 t6 t7 t8 w)(N1:JT)(K:KT):=
 dx (mBin .lss 3 t7 t8) w K fun t15 w=>IfX t15 (dx (mBin .add 3 t7 t8) w K fun t18 w=>dx (cH 3 139 t18) w K fun t19 w=>dx (mBin .shr 139 t19 (.int .u64 1)) w K fun t20 w=>dx (cH 139 3 t20) w K fun t21 w=>dx (mIA 22 t0 t21) w K fun t24 w=>dx (aA 9 t24) w K fun t25 w=>cx 183 #[t25,t1] w K fun t27 w=>IfX t27 (dx (mBin .add 3 t21 (iN 1)) w K fun t29 w=>N1 [t29,t8] w) (N1 [t7,t21] w)) (dx (mBin .lss 3 t7 t6) w K fun t34 w=>etx t34 t0 w fun t36 w=>etx t34 t7 w fun t37 w=>gtx t34 (mIA 22 t36 t37) w K fun t38 w=>gtx t34 (aA 9 t38) w K fun t39 w=>etx t34 t1 w fun t40 w=>gtx t34 (mEq .eql 9 (.tmp 39) (.tmp 40) t39 t40) w K fun t41 w=>etx t34 t41 w fun t42 w=>efx t42 t0 w fun t43 w=>efx t42 t7 w fun t44 w=>gfx t42 (mIA 22 t43 t44) w K fun t45 w=>gfx t42 (aA 9 t45) w K fun t46 w=>cfx t42 184 #[t46] w K fun t47 w=>efx t42 t47 w fun t48 w=>etx t48 t1 w fun t49 w=>ctx t48 184 #[t49] w K fun t50 w=>gfx t42 (aF t48 t50 (.bool false)) w K fun t51 w=>gtx t34 (aF t42 (.bool true) t51) w K fun t52 w=>dx (aF t34 t52 (.bool false)) w K fun t53 w=>K (.returned (.tuple #[t7,t53])) w)
def cC(t0 t1 w)(K:KT):=
 dx (mB .len #[22] 3 #[false] #[t0]) w K fun t11 w=>LoopX [(iN 0),t11] w (fun vs1 w N1=>∀_:Sg,cW t0 t1 t11 (vs1.getD 0 undef) (vs1.getD 1 undef) w N1 K)
theorem gB (t0 t1:Value)(w:World)(K:Ending→World→Prop):wpX prog 54 [] [(3,[7,8])] none (aY Tryz.f130) (topQ prog [.tmp 4,.tmp 5] K) (aR [t0,t1]) [] w=cC t0 t1 w K:=by kernel_rfl
theorem gC {t0 t1:Value}{w:World}{K:Ending→World→Prop}(h:cC t0 t1 w K):Calls prog 130 #[t0,t1] w K:=
 aE Tryz.func130 rfl rfl rfl rfl (Eq.mpr (gB t0 t1 w K) h)
def vK(t0 t1 w)(K:KT):=
 cx 238 #[t0] w K fun t6 w=>etx t6 t1 w fun t8 w=>ctx t6 238 #[t8] w K fun t9 w=>gtx t6 (mUn .not t9) w K fun t10 w=>dx (aF t6 t10 (.bool false)) w K fun t11 w=>efx t11 t0 w fun t13 w=>efx t11 t1 w fun t14 w=>gfx t11 (mBin .lss 9 t13 t14) w K fun t15 w=>dx (aF t11 (.bool true) t15) w K fun t16 w=>K (.returned t16) w
theorem Cl{t0 t1 w K}(h:vK t0 t1 w K):Calls prog 183 #[t0,t1] w K:=cw Tryz.func183 rfl rfl (by kernel_rfl) h
def sY(t0 w)(K:KT):=
 dx (mEq .neq 9 (.tmp 3) (.tmp 4) t0 t0) w K fun t5 w=>K (.returned t5) w
theorem AG{t0 w K}(h:sY t0 w K):Calls prog 238 #[t0] w K:=cw Tryz.func238 rfl rfl (by kernel_rfl) h
def oG(t0 w)(K:KT):=
 dx (mEq .neq 9 (.tmp 3) (.tmp 4) t0 t0) w K fun t5 w=>K (.returned t5) w
theorem vQ{t0 w K}(h:oG t0 w K):Calls prog 184 #[t0] w K:=cw Tryz.func184 rfl rfl (by kernel_rfl) h
end
section
open Eng Go.RowKit
theorem Bz (v:Value)(n:Nat)(cs:List Value)(w:World)(hs:Sl w v 1 n cs)(h1:∀u∈cs,u.oneCell'=true)(hb:n≤1000000000000) :
  Ret prog 132 #[v] w (fun v' w'=>Own w w' [.urow 9 1 v' n cs]):=by
 have hs':=hs;obtain⟨hl,a,cap,rfl,hn,hc⟩:=hs;refine aO fun K hK=>mE ?_;unfold fD dx;rw[Uu Yn];cases a with
|none=>
  obtain rfl:=hn rfl;obtain rfl:cs=[]:=ZO (by omega);simp only[abL,i_t];exact hK _ _ ((Own.start w).nilU 9 1)
|some p=>
  simp only[abM,i_f];refine cI (fun b=>.slice (some ⟨b,0,none⟩) 0 0) [] 9 (fun _=>by kernel_rfl) (Own.start w) fun b w1 ho=>?_;have ho:=ho.toU 1 0 0 (by simp) (by omega) (by omega);refine vA 0 Yn (show elB prog 9 1 16=true by kernel_rfl) (by decide) ho rfl (ho.Pv hs') h1 (by omega) (by omega) fun v' w2 ho=>?_;refine hK _ _ ?_;simpa using ho
theorem Ft (v:Value)(n:Nat)(cs:List Value)(w:World)(hs:Sl w v 6 n cs)(h1:∀u∈cs,u.oneCell'=true)(hb:n≤1000000000000) :
  Ret prog 133 #[v] w (fun v' w'=>Own w w' [.urow 25 6 v' n cs]):=by
 have hs':=hs;obtain⟨hl,a,cap,rfl,hn,hc⟩:=hs;refine aO fun K hK=>cU ?_;unfold bU dx;rw[Uu Yt];cases a with
|none=>
  obtain rfl:=hn rfl;obtain rfl:cs=[]:=ZO (by omega);simp only[abL,i_t];exact hK _ _ ((Own.start w).nilU 25 6)
|some p=>
  simp only[abM,i_f];refine cI (fun b=>.slice (some ⟨b,0,none⟩) 0 0) [] 25 (fun _=>by kernel_rfl) (Own.start w) fun b w1 ho=>?_;have ho:=ho.toU 6 0 0 (by simp) (by omega) (by omega);refine vA 0 Yt (show elB prog 25 6 88=true by kernel_rfl) (by decide) ho rfl (ho.Pv hs') h1 (by omega) (by omega) fun v' w2 ho=>?_;refine hK _ _ ?_;simpa using ho
theorem ov_s {w:World}{a b:Addr}{la ca lb cb:Nat}(hne:a.block≠b.block){tA tB:TypeId}{kA kB:Nat}(hsa:w.shape? a.block=some (tA,kA))(hsb:w.shape? b.block=some (tB,kB))(hkB:kB≠0)(hfa:w.frozen? a=false)(hfe:w.frozen? { block:=a.block,off:=kA }=false) :
  (eO (.func (.func 187) #[] #[]) #[.slice (some a) la ca,.slice (some b) lb cb]).run prog w=.ok (.value (.bool false)) w:=by
 have hx:(callFunc 187 #[.slice (some a) la ca,.slice (some b) lb cb]).run prog w=.ok (.value (.bool false)) w:=by
  rw[run_callFunc_extern (e:=Extern.SlicesOverlaps.overlaps #[22,22] #[4]) Tryz.func187 (by kernel_rfl) (by kernel_rfl) (by kernel_rfl) (by kernel_rfl)];rw[Lib.run_overlaps_apart w 22 4 9 Yn 1 (fun w=>by kernel_rfl) a b la ca lb cb hne tA tB kA kB hsa hsb hkB hfa hfe];rfl
 simpa[eO,invoke,Deferred.ofValue,resolve] using hx
theorem Kg (v:Value)(n:Nat)(xs:List Value)(k nb:Nat)(new:List Value)(w:World)(hu:(Ent.urow 9 1 v n xs).is w)(hnb:w.heap[nb]?=some (.cells new.toArray 9 (0,0)))(hl:new.length=1)
  (hne:¬(Ent.urow 9 1 v n xs).blk nb) (h1:∀u∈xs,u.oneCell'=true) (h2:∀u∈new,u.oneCell'=true) (hk:k≤n) (hb:n≤100000000000) :
  Ret prog 134 #[v,.int .i64 (k:Int),.slice (some ⟨nb,0,none⟩) 1 1] w
   (fun v' w'=>∃e',e'=Ent.urow 9 1 v' (n+1) (xs.take (k*1)++new++xs.drop (k*1))∧Turn (.urow 9 1 v n xs) e' w w'):=by
 have hxl:xs.length=n*1:=(show w.ownsRow 0 9 1 v n xs from hu).1;have hs2:Sl w (.slice (some ⟨nb,0,none⟩) 1 1) 1 1 new:=⟨by omega,some ⟨nb,0,none⟩,1,rfl,fun h=>(by cases h),fun p hp=>by cases hp;exact⟨fun _=>rfl,fun j u hj=>by rw[Yu];exact aV (T:=9) hnb hj⟩⟩;have ho:=OwnS.lend hu;refine aO fun K hK=>kZ ?_;unfold eP iN dx cx;have hel:elB prog 9 1 16=true:=by kernel_rfl
 have hsz:(Tryz.prog.info? 9).map (·.size)=some 1:=by kernel_rfl
 obtain⟨a,cap,rfl,hcap⟩:∃a cap,v=.slice a n cap∧n≤cap:=by
  rcases (show w.ownsRow 0 9 1 v n xs from hu).2 with ⟨rfl,rfl⟩|⟨g,cap,cur,rfl,_,_,hnc,_⟩
  ·exact⟨none,0,rfl,Yw _⟩
  ·exact⟨_,cap,rfl,hnc⟩
 refine aU (cR Yn hsz (by omega) (by omega)) |>.mpr ?_;rw[bY Yn hs2];simp only[rs,Int.natCast_one,Int.one_ne_zero,Yi];rw[eT Yn];simp only[rs];by_cases hkn:k=n
 ·subst hkn;simp only[Yj,rs];refine vA 0 Yn hel (by decide) ho rfl hs2 h2 (by omega) (by omega) fun v' w2 ho=>?_;refine hK _ _ ⟨_,rfl,?_⟩;have e:xs.take (k*1)++new++xs.drop (k*1)=xs++new:=by rw[YO (by omega),YP (by omega),YQ]
  rw[e];exact OwnS.back (L:=[]) ho
 have hlt:k < n:=by omega
 have hne':¬(k:Int)=(n:Int):=by omega
 simp only[hne',Yi,rs];rcases (show w.ownsRow 0 9 1 (.slice a n cap) n xs from hu).2 with ⟨_,h0⟩|⟨g,cap',cur,he,hbg,hg,hnc,hcm,hcs,htake⟩
 ·omega
 injection he with he1 _ he2
 subst he1;subst he2;rw[aB (by omega) (by omega),UA Yn];simp only[rs];have hgn:nb≠g:=fun e=>hne (by rw[e];rfl);have hcl:cur.toList.length=cap*1:=by simpa using hcs
 have hoc:OwnS (Ent.urow 9 1 (.slice (some ⟨g,0,none⟩) n cap) n xs).blk w w [.cells g cur.toList 9]:=
  ho.turn 0 rfl ⟨Grew.refl _ _,by show w.heap[g]?=_;rw[hg],fun j hj=>.inl (by simp only[Ent.cells] at hj;subst hj;rfl)⟩
 have hxc:∀j u,xs[j]?=some u→w.cell? ⟨g,0+j,none⟩=some u:=fun j u hj=>by
  rw[Yu];exact hoc.cell 0 rfl j (by rw[←htake] at hj;rw[Y9] at hj;split at hj<;>first|exact hj|cases hj)
 have htl:(xs.drop (k*1)).length=(n - k)*1:=by rw[Yv,hxl,←aaP]
 have h1t:∀u∈xs.drop (k*1),u.oneCell'=true:=fun u hu=>h1 u (Zi hu);by_cases hroom:(cap:Int) < (n:Int)+1
 ·simp only[hroom,Yj,rs];refine aU (sS Yn hsz (by omega) (by omega)) |>.mpr ?_;rw[show subA (some (⟨g,0,none⟩:Addr)) 0 cap 1=some ⟨g,0,none⟩ from Jy (a:=⟨g,0,none⟩),Yo];rw[aB (n:=(n:Int)+1 - k) (by omega) (by omega),show (n:Int)+1 - k=((n+1 - k:Nat):Int) by omega];refine QW (olds:=xs.take (k*1)) Yn YR hel (by decide) hoc (by rw[YC,hxl,YM (by omega)]) (fun j u hj=>hxc j u (by rw[Y9] at hj;split at hj<;>first|exact hj|cases hj)) (by omega) (by omega) (by omega) (by omega) fun b c zs w2 hc1 hc2 hzs ho=>?_;rw[show k+(n+1 - k)=n+1 by omega] at hc1 ⊢;have hol:(xs.take (k*1)).length=k*1:=by rw[YC,hxl,YM (by omega)]
  refine aU (cR Yn hsz (by omega) (by omega)) |>.mpr ?_;rw[Yo,fB (by omega)];have hbg2:b≠g:=by
   have:=(YT.1 ho.apart).1 (.cells g cur.toList 9) (by simp);intro e;exact this b rfl e
  have old2:∀{W:World} {b':Nat} {x y:List Value},OwnS (Ent.urow 9 1 (.slice (some ⟨g,0,none⟩) n cap) n xs).blk w W [.cells b' x 9,.cells g y 9]→W.heap[nb]?=some (.cells new.toArray 9 (0,0)):=fun h=>(h.grew.block nb (dW hnb) hne).trans hnb;refine AF 0 (src:=new) Yn hsz ho rfl ?_ (fun j u hj=>by rw[cS,Yu];exact aV (T:=9) (old2 ho) hj) ?_ h2 fun _ w3 ho=>?_
  ·rw[hl,YM (by omega)]
  ·rw[Yp,hol,hl];omega
  refine quiet ?_;refine TB ?_;rw[aB (by omega) (by omega),show (k:Int)+1=((k+1:Nat):Int) by omega];refine q_do _ (fun W=>cR Yn hsz (by omega) (by omega)) ?_;refine q_do _ (fun W=>cR Yn hsz (by omega) (by omega)) ?_;rw[Yo,Yo,fB (by omega),fB (by omega)];intro w4 hw;have ho:=ho.grow hw;simp only[Yu,Zf hol,ZM,hol] at ho;rw[show k*1+new.length - k*1=1 by omega,YP (show (xs.take (k*1)).length≤k*1+new.length by omega),Y6] at ho;refine AF 0 (src:=xs.drop (k*1)) Yn hsz ho rfl ?_ (fun j u hj=>?_) ?_ h1t fun _ w5 ho=>?_
  ·rw[htl];congr 1;rw[YM (by omega)]
  ·rw[cS];refine ho.cell 1 rfl (0+k*1+j) ?_;rw[Zg] at hj;rw[Yu];rw[←htake] at hj;rw[Y9] at hj;split at hj<;>first|exact hj|cases hj
  ·simp only[Yp,Yv,hol,hl,hxl];omega
  have hcur:((xs.take (k*1)++new++zs.drop 1).take (0+(k+1)*1)++xs.drop (k*1)++(xs.take (k*1)++new++zs.drop 1).drop (0+(k+1)*1+(xs.drop (k*1)).length))=(xs.take (k*1)++new++xs.drop (k*1))++(zs.drop 1).drop ((n - k)*1):=by
   rw[Zf (show (xs.take (k*1)++new).length=0+(k+1)*1 by rw[Yp,hol,hl];omega)];rw[ZM,YP (show (xs.take (k*1)++new).length≤_ by rw[Yp,hol,hl,htl];omega),Y6]
   congr 2
   rw[Yp,hol,hl,htl];omega
  simp only[Zy] at ho;rw[hcur] at ho;have ho:=ho.toU 1 (n+1) c (by simp only[Yp,Yv,hol,hl,hxl];omega) hc1 hc2;rw[Zf (show (xs.take (k*1)++new++xs.drop (k*1)).length=(n+1)*1 by simp only[Yp,Yv,hol,hl,hxl];omega)] at ho;exact hK _ _ ⟨_,rfl,OwnS.back ho⟩
 ·have hroom':n+1≤cap:=by omega
  simp only[hroom,Yi,rs];rw[show (n:Int)+1=((n+1:Nat):Int) by omega];refine aU (sS Yn hsz (by omega) (by omega)) |>.mpr ?_;rw[show subA (some (⟨g,0,none⟩:Addr)) 0 cap 1=some ⟨g,0,none⟩ from Jy (a:=⟨g,0,none⟩),Yo];rw[aB (n:=(k:Int)+1) (by omega) (by omega),show (k:Int)+1=((k+1:Nat):Int) by omega];refine aU (cR Yn hsz (by omega) (by omega)) |>.mpr ?_;rw[Yo,fB (by omega)];refine aU (ov_s (a:=⟨nb,0,none⟩) (b:=⟨g,0+(k+1)*1,none⟩) hgn (tA:=9) (tB:=9) (kA:=new.length) (kB:=cur.size) (by simp[World.shape?,hnb]) (by simp[World.shape?,hg]) (by rw[hcs];omega) (by simp[World.frozen?,hnb]) (by simp[World.frozen?,hnb])) |>.mpr ?_;simp only[rs,YJ];refine quiet ?_;refine TB ?_;rw[aB (by omega) (by omega),show (k:Int)+1=((k+1:Nat):Int) by omega];refine q_do _ (fun W=>cR Yn hsz (by omega) (by omega)) ?_;refine q_do _ (fun W=>cR Yn hsz (by omega) (by omega)) ?_;rw[Yo,Yo,fB (by omega),fB (by omega)];intro w3 hw;have ho:=hoc.grow hw;have hxcur:∀j u,(xs.drop (k*1))[j]?=some u→cur.toList[k*1+j]?=some u:=fun j u hj=>by
   rw[Zg,←htake,Y9] at hj;split at hj<;>first|exact hj|cases hj
  refine AF 0 (src:=xs.drop (k*1)) Yn hsz ho rfl ?_ (fun j u hj=>?_) ?_ h1t fun _ w4 ho=>?_
  ·rw[htl];congr 1;rw[Nat.min_eq_right (by omega)];omega
  ·rw[cS,Yu];exact ho.cell 0 rfl _ (hxcur j u hj)
  ·rw[htl,hcl];have:(n - k)*1+(k+1)*1=(n+1)*1:=by rw[←ZP];congr 1;omega
   have:(n+1)*1≤cap*1:=YU _ hroom';omega
  simp only[Zy] at ho;refine aU (cR Yn hsz (by omega) (by omega)) |>.mpr ?_;rw[Yo,fB (by omega)];have hnew:w4.heap[nb]?=some (.cells new.toArray 9 (0,0)):=(ho.grew.block nb (dW hnb) hne).trans hnb;have hkc:(k+1)*1≤cap*1:=YU _ (by omega);have hnc2:(n+1)*1≤cap*1:=YU _ hroom';have hsum:(n - k)*1+(k+1)*1=(n+1)*1:=by rw[←ZP];congr 1;omega
  refine AF 0 (src:=new) Yn hsz ho rfl ?_ (fun j u hj=>by rw[cS,Yu];exact aV (T:=9) hnew hj) ?_ h2 fun _ w5 ho=>?_
  ·rw[hl,YM (by omega)]
  ·simp only[Yp,YC,Yv,hcl,hl,htl];omega
  simp only[Zy] at ho;have hck:cur.toList.take (k*1)=xs.take (k*1):=by
   rw[←htake,aaA,YM (YU _ (by omega))]
  have hcur:((cur.toList.take (0+(k+1)*1)++xs.drop (k*1)++cur.toList.drop (0+(k+1)*1+(xs.drop (k*1)).length)).take (0+k*1)++new++(cur.toList.take (0+(k+1)*1)++xs.drop (k*1)++cur.toList.drop (0+(k+1)*1+(xs.drop (k*1)).length)).drop (0+k*1+new.length))
   =(xs.take (k*1)++new++xs.drop (k*1))++cur.toList.drop (0+(k+1)*1+(xs.drop (k*1)).length):=by
   have hlt:(cur.toList.take (0+(k+1)*1)).length=0+(k+1)*1:=by rw[YC,hcl];omega
   rw[YD (cur.toList.take (0+(k+1)*1))];rw[abH (by rw[hlt];omega),aaA,YM (by omega),Yu,hck];rw[ZM,YP (show (cur.toList.take (0+(k+1)*1)).length≤k*1+new.length by rw[hlt,hl];omega),Y6];rw[show k*1+new.length - (cur.toList.take (0+(k+1)*1)).length=0 by rw[hlt,hl];omega,ZV];simp only[Yu,YD]
  rw[hcur] at ho;have ho:=ho.toU 1 (n+1) cap (by simp only[Yp,YC,Yv,hcl,hl,hxl];omega) hroom' (by simp only[maxLen] at hcm;exact hcm);rw[Zf (show (xs.take (k*1)++new++xs.drop (k*1)).length=(n+1)*1 by simp only[Yp,YC,Yv,hl,hxl];omega)] at ho;exact hK _ _ ⟨_,rfl,OwnS.back ho⟩
theorem ov_o {w:World}{a b:Addr}{la ca lb cb:Nat}(hne:a.block≠b.block){tA tB:TypeId}{kA kB:Nat}(hsa:w.shape? a.block=some (tA,kA))(hsb:w.shape? b.block=some (tB,kB))(hkB:kB≠0)(hfa:w.frozen? a=false)(hfe:w.frozen? { block:=a.block,off:=kA }=false) :
  (eO (.func (.func 189) #[] #[]) #[.slice (some a) la ca,.slice (some b) lb cb]).run prog w=.ok (.value (.bool false)) w:=by
 have hx:(callFunc 189 #[.slice (some a) la ca,.slice (some b) lb cb]).run prog w=.ok (.value (.bool false)) w:=by
  rw[run_callFunc_extern (e:=Extern.SlicesOverlaps.overlaps #[23,23] #[4]) Tryz.func189 (by kernel_rfl) (by kernel_rfl) (by kernel_rfl) (by kernel_rfl)];rw[Lib.run_overlaps_apart w 23 4 25 Yt 6 (fun w=>by kernel_rfl) a b la ca lb cb hne tA tB kA kB hsa hsb hkB hfa hfe];rfl
 simpa[eO,invoke,Deferred.ofValue,resolve] using hx
theorem Kw (v:Value)(n:Nat)(xs:List Value)(k nb:Nat)(new:List Value)(w:World)(hu:(Ent.urow 25 6 v n xs).is w)(hnb:w.heap[nb]?=some (.cells new.toArray 25 (0,0)))(hl:new.length=6)
  (hne:¬(Ent.urow 25 6 v n xs).blk nb) (h1:∀u∈xs,u.oneCell'=true) (h2:∀u∈new,u.oneCell'=true) (hk:k≤n) (hb:n≤100000000000) :
  Ret prog 135 #[v,.int .i64 (k:Int),.slice (some ⟨nb,0,none⟩) 1 1] w
   (fun v' w'=>∃e',e'=Ent.urow 25 6 v' (n+1) (xs.take (k*6)++new++xs.drop (k*6))∧Turn (.urow 25 6 v n xs) e' w w'):=by
 have hxl:xs.length=n*6:=(show w.ownsRow 0 25 6 v n xs from hu).1;have hs2:Sl w (.slice (some ⟨nb,0,none⟩) 1 1) 6 1 new:=⟨by omega,some ⟨nb,0,none⟩,1,rfl,fun h=>(by cases h),fun p hp=>by cases hp;exact⟨fun _=>rfl,fun j u hj=>by rw[Yu];exact aV (T:=25) hnb hj⟩⟩;have ho:=OwnS.lend hu;refine aO fun K hK=>cP ?_;unfold bQ iN dx cx;have hel:elB prog 25 6 88=true:=by kernel_rfl
 have hsz:(Tryz.prog.info? 25).map (·.size)=some 6:=by kernel_rfl
 obtain⟨a,cap,rfl,hcap⟩:∃a cap,v=.slice a n cap∧n≤cap:=by
  rcases (show w.ownsRow 0 25 6 v n xs from hu).2 with ⟨rfl,rfl⟩|⟨g,cap,cur,rfl,_,_,hnc,_⟩
  ·exact⟨none,0,rfl,Yw _⟩
  ·exact⟨_,cap,rfl,hnc⟩
 refine aU (cR Yt hsz (by omega) (by omega)) |>.mpr ?_;rw[bY Yt hs2];simp only[rs,Int.natCast_one,Int.one_ne_zero,Yi];rw[eT Yt];simp only[rs];by_cases hkn:k=n
 ·subst hkn;simp only[Yj,rs];refine vA 0 Yt hel (by decide) ho rfl hs2 h2 (by omega) (by omega) fun v' w2 ho=>?_;refine hK _ _ ⟨_,rfl,?_⟩;have e:xs.take (k*6)++new++xs.drop (k*6)=xs++new:=by rw[YO (by omega),YP (by omega),YQ]
  rw[e];exact OwnS.back (L:=[]) ho
 have hlt:k < n:=by omega
 have hne':¬(k:Int)=(n:Int):=by omega
 simp only[hne',Yi,rs];rcases (show w.ownsRow 0 25 6 (.slice a n cap) n xs from hu).2 with ⟨_,h0⟩|⟨g,cap',cur,he,hbg,hg,hnc,hcm,hcs,htake⟩
 ·omega
 injection he with he1 _ he2
 subst he1;subst he2;rw[aB (by omega) (by omega),UA Yt];simp only[rs];have hgn:nb≠g:=fun e=>hne (by rw[e];rfl);have hcl:cur.toList.length=cap*6:=by simpa using hcs
 have hoc:OwnS (Ent.urow 25 6 (.slice (some ⟨g,0,none⟩) n cap) n xs).blk w w [.cells g cur.toList 25]:=
  ho.turn 0 rfl ⟨Grew.refl _ _,by show w.heap[g]?=_;rw[hg],fun j hj=>.inl (by simp only[Ent.cells] at hj;subst hj;rfl)⟩
 have hxc:∀j u,xs[j]?=some u→w.cell? ⟨g,0+j,none⟩=some u:=fun j u hj=>by
  rw[Yu];exact hoc.cell 0 rfl j (by rw[←htake] at hj;rw[Y9] at hj;split at hj<;>first|exact hj|cases hj)
 have htl:(xs.drop (k*6)).length=(n - k)*6:=by rw[Yv,hxl,←aaP]
 have h1t:∀u∈xs.drop (k*6),u.oneCell'=true:=fun u hu=>h1 u (Zi hu);by_cases hroom:(cap:Int) < (n:Int)+1
 ·simp only[hroom,Yj,rs];refine aU (sS Yt hsz (by omega) (by omega)) |>.mpr ?_;rw[show subA (some (⟨g,0,none⟩:Addr)) 0 cap 6=some ⟨g,0,none⟩ from Jy (a:=⟨g,0,none⟩),Yo];rw[aB (n:=(n:Int)+1 - k) (by omega) (by omega),show (n:Int)+1 - k=((n+1 - k:Nat):Int) by omega];refine QW (olds:=xs.take (k*6)) Yt YR hel (by decide) hoc (by rw[YC,hxl,YM (by omega)]) (fun j u hj=>hxc j u (by rw[Y9] at hj;split at hj<;>first|exact hj|cases hj)) (by omega) (by omega) (by omega) (by omega) fun b c zs w2 hc1 hc2 hzs ho=>?_;rw[show k+(n+1 - k)=n+1 by omega] at hc1 ⊢;have hol:(xs.take (k*6)).length=k*6:=by rw[YC,hxl,YM (by omega)]
  refine aU (cR Yt hsz (by omega) (by omega)) |>.mpr ?_;rw[Yo,fB (by omega)];have hbg2:b≠g:=by
   have:=(YT.1 ho.apart).1 (.cells g cur.toList 25) (by simp);intro e;exact this b rfl e
  have old2:∀{W:World} {b':Nat} {x y:List Value},OwnS (Ent.urow 25 6 (.slice (some ⟨g,0,none⟩) n cap) n xs).blk w W [.cells b' x 25,.cells g y 25]→W.heap[nb]?=some (.cells new.toArray 25 (0,0)):=fun h=>(h.grew.block nb (dW hnb) hne).trans hnb;refine AF 0 (src:=new) Yt hsz ho rfl ?_ (fun j u hj=>by rw[cS,Yu];exact aV (T:=25) (old2 ho) hj) ?_ h2 fun _ w3 ho=>?_
  ·rw[hl,YM (by omega)]
  ·rw[Yp,hol,hl];omega
  refine quiet ?_;refine TB ?_;rw[aB (by omega) (by omega),show (k:Int)+1=((k+1:Nat):Int) by omega];refine q_do _ (fun W=>cR Yt hsz (by omega) (by omega)) ?_;refine q_do _ (fun W=>cR Yt hsz (by omega) (by omega)) ?_;rw[Yo,Yo,fB (by omega),fB (by omega)];intro w4 hw;have ho:=ho.grow hw;simp only[Yu,Zf hol,ZM,hol] at ho;rw[show k*6+new.length - k*6=6 by omega,YP (show (xs.take (k*6)).length≤k*6+new.length by omega),Y6] at ho;refine AF 0 (src:=xs.drop (k*6)) Yt hsz ho rfl ?_ (fun j u hj=>?_) ?_ h1t fun _ w5 ho=>?_
  ·rw[htl];congr 1;rw[YM (by omega)]
  ·rw[cS];refine ho.cell 1 rfl (0+k*6+j) ?_;rw[Zg] at hj;rw[Yu];rw[←htake] at hj;rw[Y9] at hj;split at hj<;>first|exact hj|cases hj
  ·simp only[Yp,Yv,hol,hl,hxl];omega
  have hcur:((xs.take (k*6)++new++zs.drop 6).take (0+(k+1)*6)++xs.drop (k*6)++(xs.take (k*6)++new++zs.drop 6).drop (0+(k+1)*6+(xs.drop (k*6)).length))=(xs.take (k*6)++new++xs.drop (k*6))++(zs.drop 6).drop ((n - k)*6):=by
   rw[Zf (show (xs.take (k*6)++new).length=0+(k+1)*6 by rw[Yp,hol,hl];omega)];rw[ZM,YP (show (xs.take (k*6)++new).length≤_ by rw[Yp,hol,hl,htl];omega),Y6]
   congr 2
   rw[Yp,hol,hl,htl];omega
  simp only[Zy] at ho;rw[hcur] at ho;have ho:=ho.toU 6 (n+1) c (by simp only[Yp,Yv,hol,hl,hxl];omega) hc1 hc2;rw[Zf (show (xs.take (k*6)++new++xs.drop (k*6)).length=(n+1)*6 by simp only[Yp,Yv,hol,hl,hxl];omega)] at ho;exact hK _ _ ⟨_,rfl,OwnS.back ho⟩
 ·have hroom':n+1≤cap:=by omega
  simp only[hroom,Yi,rs];rw[show (n:Int)+1=((n+1:Nat):Int) by omega];refine aU (sS Yt hsz (by omega) (by omega)) |>.mpr ?_;rw[show subA (some (⟨g,0,none⟩:Addr)) 0 cap 6=some ⟨g,0,none⟩ from Jy (a:=⟨g,0,none⟩),Yo];rw[aB (n:=(k:Int)+1) (by omega) (by omega),show (k:Int)+1=((k+1:Nat):Int) by omega];refine aU (cR Yt hsz (by omega) (by omega)) |>.mpr ?_;rw[Yo,fB (by omega)];refine aU (ov_o (a:=⟨nb,0,none⟩) (b:=⟨g,0+(k+1)*6,none⟩) hgn (tA:=25) (tB:=25) (kA:=new.length) (kB:=cur.size) (by simp[World.shape?,hnb]) (by simp[World.shape?,hg]) (by rw[hcs];omega) (by simp[World.frozen?,hnb]) (by simp[World.frozen?,hnb])) |>.mpr ?_;simp only[rs,YJ];refine quiet ?_;refine TB ?_;rw[aB (by omega) (by omega),show (k:Int)+1=((k+1:Nat):Int) by omega];refine q_do _ (fun W=>cR Yt hsz (by omega) (by omega)) ?_;refine q_do _ (fun W=>cR Yt hsz (by omega) (by omega)) ?_;rw[Yo,Yo,fB (by omega),fB (by omega)];intro w3 hw;have ho:=hoc.grow hw;have hxcur:∀j u,(xs.drop (k*6))[j]?=some u→cur.toList[k*6+j]?=some u:=fun j u hj=>by
   rw[Zg,←htake,Y9] at hj;split at hj<;>first|exact hj|cases hj
  refine AF 0 (src:=xs.drop (k*6)) Yt hsz ho rfl ?_ (fun j u hj=>?_) ?_ h1t fun _ w4 ho=>?_
  ·rw[htl];congr 1;rw[Nat.min_eq_right (by omega)];omega
  ·rw[cS,Yu];exact ho.cell 0 rfl _ (hxcur j u hj)
  ·rw[htl,hcl];have:(n - k)*6+(k+1)*6=(n+1)*6:=by rw[←ZP];congr 1;omega
   have:(n+1)*6≤cap*6:=YU _ hroom';omega
  simp only[Zy] at ho;refine aU (cR Yt hsz (by omega) (by omega)) |>.mpr ?_;rw[Yo,fB (by omega)];have hnew:w4.heap[nb]?=some (.cells new.toArray 25 (0,0)):=(ho.grew.block nb (dW hnb) hne).trans hnb;have hkc:(k+1)*6≤cap*6:=YU _ (by omega);have hnc2:(n+1)*6≤cap*6:=YU _ hroom';have hsum:(n - k)*6+(k+1)*6=(n+1)*6:=by rw[←ZP];congr 1;omega
  refine AF 0 (src:=new) Yt hsz ho rfl ?_ (fun j u hj=>by rw[cS,Yu];exact aV (T:=25) hnew hj) ?_ h2 fun _ w5 ho=>?_
  ·rw[hl,YM (by omega)]
  ·simp only[Yp,YC,Yv,hcl,hl,htl];omega
  simp only[Zy] at ho;have hck:cur.toList.take (k*6)=xs.take (k*6):=by
   rw[←htake,aaA,YM (YU _ (by omega))]
  have hcur:((cur.toList.take (0+(k+1)*6)++xs.drop (k*6)++cur.toList.drop (0+(k+1)*6+(xs.drop (k*6)).length)).take (0+k*6)++new++(cur.toList.take (0+(k+1)*6)++xs.drop (k*6)++cur.toList.drop (0+(k+1)*6+(xs.drop (k*6)).length)).drop (0+k*6+new.length))
   =(xs.take (k*6)++new++xs.drop (k*6))++cur.toList.drop (0+(k+1)*6+(xs.drop (k*6)).length):=by
   have hlt:(cur.toList.take (0+(k+1)*6)).length=0+(k+1)*6:=by rw[YC,hcl];omega
   rw[YD (cur.toList.take (0+(k+1)*6))];rw[abH (by rw[hlt];omega),aaA,YM (by omega),Yu,hck];rw[ZM,YP (show (cur.toList.take (0+(k+1)*6)).length≤k*6+new.length by rw[hlt,hl];omega),Y6];rw[show k*6+new.length - (cur.toList.take (0+(k+1)*6)).length=0 by rw[hlt,hl];omega,ZV];simp only[Yu,YD]
  rw[hcur] at ho;have ho:=ho.toU 6 (n+1) cap (by simp only[Yp,YC,Yv,hcl,hl,hxl];omega) hroom' (by simp only[maxLen] at hcm;exact hcm);rw[Zf (show (xs.take (k*6)++new++xs.drop (k*6)).length=(n+1)*6 by simp only[Yp,YC,Yv,hl,hxl];omega)] at ho;exact hK _ _ ⟨_,rfl,OwnS.back ho⟩
theorem JO (v:Value)(n:Nat)(xs:List Value)(k:Nat)(w:World)(hu:(Ent.urow 9 1 v n xs).is w)(h1:∀u∈xs,u.oneCell'=true)(hk:k < n)(hb:n≤100000000000) :
  Ret prog 185 #[v,.int .i64 (k:Int),.int .i64 ((k+1:Nat):Int)] w
   (fun v' w'=>∃e',e'=Ent.urow 9 1 v' (n - 1) (xs.take (k*1)++xs.drop ((k+1)*1))∧Turn (.urow 9 1 v n xs) e' w w'):=by
 have hxl:xs.length=n*1:=(show w.ownsRow 0 9 1 v n xs from hu).1;have ho:=OwnS.lend hu;refine aO fun K hK=>kX ?_;unfold eQ dx;have hel:elB prog 9 1 16=true:=by kernel_rfl
 have hsz:(Tryz.prog.info? 9).map (·.size)=some 1:=by kernel_rfl
 rcases (show w.ownsRow 0 9 1 v n xs from hu).2 with ⟨_,h0⟩|⟨g,cap,cur,rfl,hbg,hg,hnc,hcm,hcs,htake⟩
 ·omega
 have hcl:cur.toList.length=cap*1:=by simpa using hcs
 have hnc2:n*1≤cap*1:=YU _ hnc;have hoc:OwnS (Ent.urow 9 1 (.slice (some ⟨g,0,none⟩) n cap) n xs).blk w w [.cells g cur.toList 9]:=
  ho.turn 0 rfl ⟨Grew.refl _ _,by show w.heap[g]?=_;rw[hg],fun j hj=>.inl (by simp only[Ent.cells] at hj;subst hj;rfl)⟩
 rw[eT Yn];refine aU (JF Yn hsz (by omega) (by omega) (by omega) (by omega)) |>.mpr ?_;have hne:¬(k:Int)=((k+1:Nat):Int):=by omega
 simp only[rs,hne,Yi];rw[eT Yn];refine quiet ?_;refine q_do _ (fun W=>sS Yn hsz (by omega) (by omega)) ?_;refine q_do _ (fun W=>cR Yn hsz (by omega) (by omega)) ?_;rw[show subA (some (⟨g,0,none⟩:Addr)) 0 cap 1=some ⟨g,0,none⟩ from Jy (a:=⟨g,0,none⟩),Yo,Yo];obtain⟨a,ha,hac⟩:∃a,subA (some (⟨g,0,none⟩:Addr)) (k+1) cap 1=some a∧(k+1 < cap→a=⟨g,(k+1)*1,none⟩):=by
  by_cases h:k+1 < cap
  ·exact⟨_,by rw[fB h,Yu],fun _=>rfl⟩
  ·exact⟨⟨g,0,none⟩,by unfold subA;rw[Yh (by omega)],fun h'=>absurd h' h⟩
 rw[ha];intro w3 hw;have ho:=hoc.grow hw;have htl:(xs.drop ((k+1)*1)).length=(n - (k+1))*1:=by rw[Yv,hxl,←aaP]
 have hkk:(k+1)*1≤n*1:=YU _ (by omega);have hsum:k*1+(n - (k+1))*1=(n - 1)*1:=by rw[←ZP];congr 1;omega
 have hn1:(n - 1)*1+1=n*1:=by rw[←Nat.succ_mul];congr 1;omega
 refine JC 0 (news:=xs.drop ((k+1)*1)) Yn hel ho rfl htl (fun j u hj=>?_) (fun u hu=>h1 u (Zi hu)) (by omega) (by rw[htl,hcl];omega) fun w4 ho=>?_
 ·have hjl:j < (xs.drop ((k+1)*1)).length:=(Yy.1 hj).1;have hlt:k+1 < cap:=by
   rcases YS (k+1) n with h|h
   ·omega
   ·rw[htl,show n - (k+1)=0 by omega] at hjl;omega
  rw[hac hlt,cS];refine ho.cell 0 rfl _ ?_;rw[Zg,←htake,Y9] at hj;split at hj<;>first|exact hj|cases hj
 simp only[Zy] at ho;rw[eT Yn];rw[show k+(n - (k+1))=n - 1 by omega];refine aU (LB Yn hsz (by omega) (by omega) (by omega)) |>.mpr ?_;rw[Yo,Yo,fB (by omega),Yu,show n - (n - 1)=1 by omega];have hck:cur.toList.take (k*1)=xs.take (k*1):=by
  rw[←htake,aaA,YM (YU _ (by omega))]
 have hkl:(xs.take (k*1)).length=k*1:=by rw[YC,hxl,YM (by omega)]
 rw[hck] at ho;have hal:(xs.take (k*1)++xs.drop ((k+1)*1)).length=(n - 1)*1:=by rw[Yp,hkl,htl,hsum]
 refine Ov 0 Yn hel (show zB prog 9=true by kernel_rfl) (by omega) ho rfl (by simp only[Yp,Yv,hcl,hkl,hxl];omega) fun _ w5 zs hzs ho=>?_;simp only[Zy] at ho;rw[Zf hal,YD (xs.take (k*1)++xs.drop ((k+1)*1))] at ho;have ho:=ho.toU 1 (n - 1) cap (by simp only[Yp,Yv,hcl,hkl,hxl,hzs];omega) (by omega) (by simp only[maxLen] at hcm;exact hcm);rw[Zf hal] at ho;exact hK _ _ ⟨_,rfl,OwnS.back ho⟩
theorem Ko (v:Value)(n:Nat)(xs:List Value)(k:Nat)(w:World)(hu:(Ent.urow 25 6 v n xs).is w)(h1:∀u∈xs,u.oneCell'=true)(hk:k < n)(hb:n≤100000000000) :
  Ret prog 186 #[v,.int .i64 (k:Int),.int .i64 ((k+1:Nat):Int)] w
   (fun v' w'=>∃e',e'=Ent.urow 25 6 v' (n - 1) (xs.take (k*6)++xs.drop ((k+1)*6))∧Turn (.urow 25 6 v n xs) e' w w'):=by
 have hxl:xs.length=n*6:=(show w.ownsRow 0 25 6 v n xs from hu).1;have ho:=OwnS.lend hu;refine aO fun K hK=>cQ ?_;unfold bR dx;have hel:elB prog 25 6 88=true:=by kernel_rfl
 have hsz:(Tryz.prog.info? 25).map (·.size)=some 6:=by kernel_rfl
 rcases (show w.ownsRow 0 25 6 v n xs from hu).2 with ⟨_,h0⟩|⟨g,cap,cur,rfl,hbg,hg,hnc,hcm,hcs,htake⟩
 ·omega
 have hcl:cur.toList.length=cap*6:=by simpa using hcs
 have hnc2:n*6≤cap*6:=YU _ hnc;have hoc:OwnS (Ent.urow 25 6 (.slice (some ⟨g,0,none⟩) n cap) n xs).blk w w [.cells g cur.toList 25]:=
  ho.turn 0 rfl ⟨Grew.refl _ _,by show w.heap[g]?=_;rw[hg],fun j hj=>.inl (by simp only[Ent.cells] at hj;subst hj;rfl)⟩
 rw[eT Yt];refine aU (JF Yt hsz (by omega) (by omega) (by omega) (by omega)) |>.mpr ?_;have hne:¬(k:Int)=((k+1:Nat):Int):=by omega
 simp only[rs,hne,Yi];rw[eT Yt];refine quiet ?_;refine q_do _ (fun W=>sS Yt hsz (by omega) (by omega)) ?_;refine q_do _ (fun W=>cR Yt hsz (by omega) (by omega)) ?_;rw[show subA (some (⟨g,0,none⟩:Addr)) 0 cap 6=some ⟨g,0,none⟩ from Jy (a:=⟨g,0,none⟩),Yo,Yo];obtain⟨a,ha,hac⟩:∃a,subA (some (⟨g,0,none⟩:Addr)) (k+1) cap 6=some a∧(k+1 < cap→a=⟨g,(k+1)*6,none⟩):=by
  by_cases h:k+1 < cap
  ·exact⟨_,by rw[fB h,Yu],fun _=>rfl⟩
  ·exact⟨⟨g,0,none⟩,by unfold subA;rw[Yh (by omega)],fun h'=>absurd h' h⟩
 rw[ha];intro w3 hw;have ho:=hoc.grow hw;have htl:(xs.drop ((k+1)*6)).length=(n - (k+1))*6:=by rw[Yv,hxl,←aaP]
 have hkk:(k+1)*6≤n*6:=YU _ (by omega);have hsum:k*6+(n - (k+1))*6=(n - 1)*6:=by rw[←ZP];congr 1;omega
 have hn1:(n - 1)*6+6=n*6:=by rw[←Nat.succ_mul];congr 1;omega
 refine JC 0 (news:=xs.drop ((k+1)*6)) Yt hel ho rfl htl (fun j u hj=>?_) (fun u hu=>h1 u (Zi hu)) (by omega) (by rw[htl,hcl];omega) fun w4 ho=>?_
 ·have hjl:j < (xs.drop ((k+1)*6)).length:=(Yy.1 hj).1;have hlt:k+1 < cap:=by
   rcases YS (k+1) n with h|h
   ·omega
   ·rw[htl,show n - (k+1)=0 by omega] at hjl;omega
  rw[hac hlt,cS];refine ho.cell 0 rfl _ ?_;rw[Zg,←htake,Y9] at hj;split at hj<;>first|exact hj|cases hj
 simp only[Zy] at ho;rw[eT Yt];rw[show k+(n - (k+1))=n - 1 by omega];refine aU (LB Yt hsz (by omega) (by omega) (by omega)) |>.mpr ?_;rw[Yo,Yo,fB (by omega),Yu,show n - (n - 1)=1 by omega];have hck:cur.toList.take (k*6)=xs.take (k*6):=by
  rw[←htake,aaA,YM (YU _ (by omega))]
 have hkl:(xs.take (k*6)).length=k*6:=by rw[YC,hxl,YM (by omega)]
 rw[hck] at ho;have hal:(xs.take (k*6)++xs.drop ((k+1)*6)).length=(n - 1)*6:=by rw[Yp,hkl,htl,hsum]
 refine Ov 0 Yt hel (show zB prog 25=true by kernel_rfl) (by omega) ho rfl (by simp only[Yp,Yv,hcl,hkl,hxl];omega) fun _ w5 zs hzs ho=>?_;simp only[Zy] at ho;rw[Zf hal,YD (xs.take (k*6)++xs.drop ((k+1)*6))] at ho;have ho:=ho.toU 6 (n - 1) cap (by simp only[Yp,Yv,hcl,hkl,hxl,hzs];omega) (by omega) (by simp only[maxLen] at hcm;exact hcm);rw[Zf hal] at ho;exact hK _ _ ⟨_,rfl,OwnS.back ho⟩
end
section
open Eng
def Fz(w)(K:KT):=
 dx (aM 25) w K fun t0 w=>dx (aJ 25 #[]) w K fun t1 w=>dx (aC 25 t0 t1) w K fun _ w=>RetX prog [.cell t0 25] w K
theorem Im{w K}(h:Fz w K):Calls prog 36 #[] w K:=cw Tryz.func36 rfl rfl (by kernel_rfl) h
def Iq(t0 w)(K:KT):=
 dx (aM 25) w K fun t2 w=>dx (aJ 25 #[(0,(iN 2)),(1,t0)]) w K fun t4 w=>dx (aC 25 t2 t4) w K fun _ w=>RetX prog [.cell t2 25] w K
theorem Ja{t0 w K}(h:Iq t0 w K):Calls prog 49 #[t0] w K:=cw Tryz.func49 rfl rfl (by kernel_rfl) h
def FD(t0 w)(K:KT):=
 dx (aM 25) w K fun t2 w=>dx (aJ 25 #[(0,(iN 5)),(3,t0)]) w K fun t4 w=>dx (aC 25 t2 t4) w K fun _ w=>RetX prog [.cell t2 25] w K
theorem Hj{t0 w K}(h:FD t0 w K):Calls prog 209 #[t0] w K:=cw Tryz.func209 rfl rfl (by kernel_rfl) h
def Cs(t0 w)(K:KT):=
 dx (aM 25) w K fun t2 w=>dx (aJ 25 #[(0,(iN 4)),(3,t0)]) w K fun t4 w=>dx (aC 25 t2 t4) w K fun _ w=>RetX prog [.cell t2 25] w K
theorem EK{t0 w K}(h:Cs t0 w K):Calls prog 208 #[t0] w K:=cw Tryz.func208 rfl rfl (by kernel_rfl) h
def DP(t0 w)(K:KT):=
 dx (mBox 25 t0) w K fun t1 w=>dx (aM 25) w K fun t2 w=>dx (aA 25 t1) w K fun t5 w=>cx 57 #[t5] w K fun t6 w=>dx (mEq .neq 30 (.tmp 7) (.const (iN 0)) t6 (iN 0)) w K fun t8 w=>IfX t8 (dx (aJ 25 #[]) w K fun t9 w=>dx (aC 25 t2 t9) w K fun _ w=>RetX prog [.cell t2 25,.val t6] w K) (dx (aA 25 t1) w K fun t11 w=>dx (aC 25 t2 t11) w K fun _ w=>RetX prog [.cell t2 25,.val (iN 0)] w K)
theorem Gv{t0 w K}(h:DP t0 w K):Calls prog 87 #[t0] w K:=cw Tryz.func87 rfl rfl (by kernel_rfl) h
def Dz(t0 w)(K:KT):=
 dx (mBox 25 t0) w K fun t1 w=>dx (mFA 25 t1 0) w K fun t3 w=>dx (aA 3 t3) w K fun t4 w=>dx (mEq .eql 3 (.tmp 4) (.const (iN 7)) t4 (iN 7)) w K fun t5 w=>gfx t5 (mFA 25 t1 0) w K fun t7 w=>gfx t5 (aA 3 t7) w K fun t8 w=>gfx t5 (mEq .eql 3 (.tmp 8) (.const (iN 9)) t8 (iN 9)) w K fun t9 w=>dx (aF t5 (.bool true) t9) w K fun t10 w=>K (.returned t10) w
theorem Gp{t0 w K}(h:Dz t0 w K):Calls prog 79 #[t0] w K:=cw Tryz.func79 rfl rfl (by kernel_rfl) h
def Cw(t3 t6 w)(K:KT):=
 dx (aA 25 t3) w K fun t44 w=>dx (aC 25 t6 t44) w K fun _ w=>RetX prog [.cell t6 25] w K
def Ax(t0 t1 t2 w)(K:KT):=
 dx (mBox 25 t0) w K fun t3 w=>dx (mBox 25 t2) w K fun t5 w=>dx (aM 25) w K fun t6 w=>dx (mFA 25 t3 4) w K fun t10 w=>dx (aA 22 t10) w K fun t11 w=>cx 130 #[t11,t1] w K fun t13 w=>dx (mExt t13 0) w K fun t14 w=>dx (mExt t13 1) w K fun t15 w=>dx (mFA 25 t3 4) w K fun t16 w=>dx (aA 22 t16) w K fun t17 w=>cx 132 #[t17] w K fun t18 w=>dx (mFA 25 t3 4) w K fun t19 w=>dx (aC 22 t19 t18) w K fun _ w=>dx (mFA 25 t3 5) w K fun t20 w=>dx (aA 23 t20) w K fun t21 w=>cx 133 #[t21] w K fun t22 w=>dx (mFA 25 t3 5) w K fun t23 w=>dx (aC 23 t23 t22) w K fun _ w=>JoinX (fun J1=>IfX t15 (dx (mFA 25 t3 5) w K fun t25 w=>dx (aA 23 t25) w K fun t26 w=>dx (aA 25 t5) w K fun t28 w=>dx (mIA 23 t26 t14) w K fun t29 w=>dx (aC 25 t29 t28) w K fun _ w=>J1 [] w) (dx (mFA 25 t3 4) w K fun t30 w=>dx (aA 22 t30) w K fun t31 w=>dx (aS 22 1 #[(0,t1)]) w K fun t34 w=>cx 134 #[t31,t14,t34] w K fun t35 w=>dx (mFA 25 t3 4) w K fun t36 w=>dx (aC 22 t36 t35) w K fun _ w=>dx (mFA 25 t3 5) w K fun t37 w=>dx (aA 23 t37) w K fun t38 w=>dx (aA 25 t5) w K fun t40 w=>dx (aS 23 1 #[(0,t40)]) w K fun t41 w=>cx 135 #[t38,t14,t41] w K fun t42 w=>dx (mFA 25 t3 5) w K fun t43 w=>dx (aC 23 t43 t42) w K fun _ w=>J1 [] w)) (fun vs1 w=>∀_:Sg,Cw t3 t6 w K)
theorem H5 (t0 t1 t2:Value)(w:World)(K:Ending→World→Prop):wpX prog 45 [(8,[])] [] none (aY Tryz.f88) (topQ prog [.cell 6 25] K) (aR [t0,t1,t2]) [] w=Ax t0 t1 t2 w K:=by kernel_rfl
theorem Iy {t0 t1 t2:Value}{w:World}{K:Ending→World→Prop}(h:Ax t0 t1 t2 w K):Calls prog 88 #[t0,t1,t2] w K:=
 aE Tryz.func88 rfl rfl rfl rfl (Eq.mpr (H5 t0 t1 t2 w K) h)
def Bp(t0 t1 w)(K:KT):=
 dx (mBox 25 t0) w K fun t2 w=>dx (aM 25) w K fun t4 w=>dx (mFA 25 t2 4) w K fun t5 w=>dx (aA 22 t5) w K fun t6 w=>cx 132 #[t6] w K fun t7 w=>dx (mBin .add 3 t1 (iN 1)) w K fun t10 w=>cx 185 #[t7,t1,t10] w K fun t11 w=>dx (mFA 25 t2 4) w K fun t12 w=>dx (aC 22 t12 t11) w K fun _ w=>dx (mFA 25 t2 5) w K fun t13 w=>dx (aA 23 t13) w K fun t14 w=>cx 133 #[t14] w K fun t15 w=>dx (mBin .add 3 t1 (iN 1)) w K fun t18 w=>cx 186 #[t15,t1,t18] w K fun t19 w=>dx (mFA 25 t2 5) w K fun t20 w=>dx (aC 23 t20 t19) w K fun _ w=>dx (aA 25 t2) w K fun t21 w=>dx (aC 25 t4 t21) w K fun _ w=>RetX prog [.cell t4 25] w K
theorem Dl{t0 t1 w K}(h:Bp t0 t1 w K):Calls prog 131 #[t0,t1] w K:=cw Tryz.func131 rfl rfl (by kernel_rfl) h
def HN(t0 t1 w)(K:KT):=
 dx (mBox 25 t0) w K fun t2 w=>dx (aM 25) w K fun t4 w=>dx (aA 25 t2) w K fun t7 w=>cx 79 #[t7] w K fun t8 w=>dx (mUn .not t8) w K fun t9 w=>IfX t9 (dx (aJ 25 #[]) w K fun t10 w=>dx (aC 25 t4 t10) w K fun _ w=>RetX prog [.cell t4 25,.val (.bool false)] w K) (dx (mFA 25 t2 4) w K fun t11 w=>dx (aA 22 t11) w K fun t12 w=>cx 80 #[t12,t1] w K fun t14 w=>dx (mBin .lss 3 t14 (iN 0)) w K fun t16 w=>efx t16 t14 w fun t18 w=>gfx t16 (mFA 25 t2 5) w K fun t19 w=>gfx t16 (aA 23 t19) w K fun t20 w=>gfx t16 (mB .len #[23] 3 #[false] #[t20]) w K fun t21 w=>gfx t16 (mBin .geq 3 t18 t21) w K fun t22 w=>dx (aF t16 (.bool true) t22) w K fun t23 w=>IfX t23 (dx (aJ 25 #[]) w K fun t24 w=>dx (aC 25 t4 t24) w K fun _ w=>RetX prog [.cell t4 25,.val (.bool false)] w K) (dx (mFA 25 t2 5) w K fun t25 w=>dx (aA 23 t25) w K fun t26 w=>dx (mIA 23 t26 t14) w K fun t28 w=>dx (aA 25 t28) w K fun t29 w=>cx 81 #[t29] w K fun t30 w=>dx (aC 25 t4 t30) w K fun _ w=>RetX prog [.cell t4 25,.val (.bool true)] w K))
theorem IW{t0 t1 w K}(h:HN t0 t1 w K):Calls prog 37 #[t0,t1] w K:=cw Tryz.func37 rfl rfl (by kernel_rfl) h
def IC(t0 t1 t2 w)(K:KT):=
 dx (mBox 25 t0) w K fun t3 w=>dx (mBox 25 t2) w K fun t5 w=>dx (aM 25) w K fun t6 w=>dx (aA 25 t3) w K fun t9 w=>cx 79 #[t9] w K fun t10 w=>dx (mUn .not t10) w K fun t11 w=>IfX t11 (dx (aJ 25 #[]) w K fun t12 w=>dx (aC 25 t6 t12) w K fun _ w=>RetX prog [.cell t6 25,.val (iN 10)] w K) (dx (aA 25 t3) w K fun t13 w=>cx 57 #[t13] w K fun t14 w=>dx (mEq .neq 30 (.tmp 15) (.const (iN 0)) t14 (iN 0)) w K fun t16 w=>IfX t16 (dx (aJ 25 #[]) w K fun t17 w=>dx (aC 25 t6 t17) w K fun _ w=>RetX prog [.cell t6 25,.val t14] w K) (dx (mFA 25 t5 0) w K fun t19 w=>dx (aA 3 t19) w K fun t20 w=>dx (mEq .eql 3 (.tmp 20) (.const (iN 0)) t20 (iN 0)) w K fun t21 w=>IfX t21 (dx (aA 25 t3) w K fun t22 w=>cx 86 #[t22,t1] w K fun t24 w=>dx (aC 25 t6 t24) w K fun _ w=>RetX prog [.cell t6 25,.val (iN 0)] w K) (dx (aA 25 t3) w K fun t25 w=>dx (aA 25 t5) w K fun t27 w=>cx 88 #[t25,t1,t27] w K fun t28 w=>cx 81 #[t28] w K fun t29 w=>cx 87 #[t29] w K fun t30 w=>dx (mExt t30 0) w K fun t31 w=>dx (mExt t30 1) w K fun t32 w=>dx (aC 25 t6 t31) w K fun _ w=>RetX prog [.cell t6 25,.val t32] w K)))
theorem Jc{t0 t1 t2 w K}(h:IC t0 t1 t2 w K):Calls prog 48 #[t0,t1,t2] w K:=cw Tryz.func48 rfl rfl (by kernel_rfl) h
def CB(t2 t4 w)(K:KT):=
 dx (aA 25 t2) w K fun t25 w=>cx 81 #[t25] w K fun t26 w=>dx (aC 25 t4 t26) w K fun _ w=>RetX prog [.cell t4 25] w K
def AP(t0 t1 w)(K:KT):=
 dx (mBox 25 t0) w K fun t2 w=>dx (aM 25) w K fun t4 w=>JoinX (fun J1=>dx (aA 25 t2) w K fun t7 w=>cx 79 #[t7] w K fun t8 w=>gtx t8 (aA 25 t2) w K fun t10 w=>ctx t8 57 #[t10] w K fun t11 w=>gtx t8 (mEq .eql 30 (.tmp 11) (.const (iN 0)) t11 (iN 0)) w K fun t12 w=>dx (aF t8 t12 (.bool false)) w K fun t13 w=>IfX t13 (dx (mFA 25 t2 4) w K fun t15 w=>dx (aA 22 t15) w K fun t16 w=>cx 130 #[t16,t1] w K fun t18 w=>dx (mExt t18 0) w K fun t19 w=>dx (mExt t18 1) w K fun t20 w=>IfX t20 (dx (aA 25 t2) w K fun t22 w=>cx 131 #[t22,t19] w K fun t24 w=>dx (aC 25 t2 t24) w K fun _ w=>J1 [] w) (J1 [] w)) (J1 [] w)) (fun vs1 w=>∀_:Sg,CB t2 t4 w K)
theorem Ie (t0 t1:Value)(w:World)(K:Ending→World→Prop):wpX prog 27 [(5,[])] [] none (aY Tryz.f86) (topQ prog [.cell 4 25] K) (aR [t0,t1]) [] w=AP t0 t1 w K:=by kernel_rfl
theorem Hs {t0 t1:Value}{w:World}{K:Ending→World→Prop}(h:AP t0 t1 w K):Calls prog 86 #[t0,t1] w K:=
 aE Tryz.func86 rfl rfl rfl rfl (Eq.mpr (Ie t0 t1 w K) h)
def Dp(t0 w)(K:KT):=
 dx (mBox 25 t0) w K fun t1 w=>dx (aM 25) w K fun t2 w=>dx (aA 25 t1) w K fun t3 w=>cx 125 #[t3,(.func (.func 126) #[] #[])] w K fun t4 w=>dx (aC 25 t2 t4) w K fun _ w=>RetX prog [.cell t2 25] w K
theorem F5{t0 w K}(h:Dp t0 w K):Calls prog 81 #[t0] w K:=cw Tryz.func81 rfl rfl (by kernel_rfl) h
def AX(t0 w)(K:KT):=
 dx (mBox 25 t0) w K fun t1 w=>dx (aM 25) w K fun t2 w=>dx (aA 25 t1) w K fun t3 w=>dx (aC 25 t2 t3) w K fun _ w=>RetX prog [.cell t2 25] w K
theorem Eg{t0 w K}(h:AX t0 w K):Calls prog 126 #[t0] w K:=cw Tryz.func126 rfl rfl (by kernel_rfl) h
def uZ(t2 t4 w)(K:KT):=
 dx (aA 25 t2) w K fun t39 w=>dx (aC 25 t4 t39) w K fun _ w=>RetX prog [.cell t4 25] w K
def uQ(t1 t2 t5 t23 t24 t25 w)(J1 N2:JT)(K:KT):=
 dx (mBin .lss 3 t25 t24) w K fun t26 w=>IfX t26 (dx (mIA 23 t23 t25) w K fun t28 w=>dx (aA 25 t28) w K fun t29 w=>dx (aM 25) w K fun t7 w=>dx (aC 25 t7 t29) w K fun _ w=>dx (aA 25 t7) w K fun t32 w=>cx 125 #[t32,t1] w K fun t34 w=>dx (mIA 23 t5 t25) w K fun t35 w=>dx (aC 25 t35 t34) w K fun _ w=>dx (mBin .add 3 t25 (iN 1)) w K fun t36 w=>N2 [t36] w) (dx (mFA 25 t2 5) w K fun t38 w=>dx (aC 23 t38 t5) w K fun _ w=>J1 [] w)
def qZ(t0 t1 w)(K:KT):=
 dx (mBox 25 t0) w K fun t2 w=>dx (aM 25) w K fun t4 w=>dx (aA 25 t2) w K fun t9 w=>dx (eO t1 #[t9]) w K fun t10 w=>dx (aC 25 t2 t10) w K fun _ w=>dx (mFA 25 t2 4) w K fun t11 w=>dx (aA 22 t11) w K fun t12 w=>cx 132 #[t12] w K fun t13 w=>dx (mFA 25 t2 4) w K fun t14 w=>dx (aC 22 t14 t13) w K fun _ w=>JoinX (fun J1=>dx (mFA 25 t2 5) w K fun t15 w=>dx (aA 23 t15) w K fun t16 w=>dx (mEq .neq 23 (.tmp 16) (.const (.slice none 0 0)) t16 (.slice none 0 0)) w K fun t17 w=>IfX t17 (dx (mFA 25 t2 5) w K fun t18 w=>dx (aA 23 t18) w K fun t19 w=>dx (mB .len #[23] 3 #[false] #[t19]) w K fun t20 w=>dx (P6 23 t20 t20) w K fun t21 w=>dx (mFA 25 t2 5) w K fun t22 w=>dx (aA 23 t22) w K fun t23 w=>dx (mB .len #[23] 3 #[false] #[t23]) w K fun t24 w=>LoopX [(iN 0)] w (fun vs2 w N2=>∀_:Sg,uQ t1 t2 t21 t23 t24 (vs2.getD 0 undef) w J1 N2 K)) (J1 [] w)) (fun vs1 w=>∀_:Sg,uZ t2 t4 w K)
theorem Eo (t0 t1:Value)(w:World)(K:Ending→World→Prop):wpX prog 40 [(11,[])] [(6,[25])] none (aY Tryz.f125) (topQ prog [.cell 4 25] K) (aR [t0,t1]) [] w=qZ t0 t1 w K:=by kernel_rfl
theorem Dr {t0 t1:Value}{w:World}{K:Ending→World→Prop}(h:qZ t0 t1 w K):Calls prog 125 #[t0,t1] w K:=
 aE Tryz.func125 rfl rfl rfl rfl (Eq.mpr (Eo t0 t1 w K) h)
end
section
open Eng
def eH(t0 t1 t7 t8 w)(N1:JT)(K:KT):=
 dx (mBin .lss 3 t8 t7) w K fun t9 w=>IfX t9 (dx (mIA 22 t0 t8) w K fun t14 w=>dx (aA 9 t14) w K fun t15 w=>dx (mEq .eql 9 (.tmp 11) (.tmp 15) t1 t15) w K fun t16 w=>IfX t16 (K (.returned t8) w) (dx (mBin .add 3 t8 (iN 1)) w K fun t18 w=>N1 [t18] w)) (K (.returned (iN (-1))) w)
def dB(t0 t1 w)(K:KT):=
 dx (mB .len #[22] 3 #[false] #[t0]) w K fun t7 w=>LoopX [(iN 0)] w (fun vs1 w N1=>∀_:Sg,eH t0 t1 t7 (vs1.getD 0 undef) w N1 K)
theorem lX (t0 t1:Value)(w:World)(K:Ending→World→Prop):wpX prog 19 [] [(2,[8])] none (aY Tryz.f80) (topQ prog [.tmp 4] K) (aR [t0,t1]) [] w=dB t0 t1 w K:=by kernel_rfl
theorem mA {t0 t1:Value}{w:World}{K:Ending→World→Prop}(h:dB t0 t1 w K):Calls prog 80 #[t0,t1] w K:=
 aE Tryz.func80 rfl rfl rfl rfl (Eq.mpr (lX t0 t1 w K) h)
end
section
open Eng Go.RowKit
theorem O9:dX prog 9=true:=by kernel_rfl
theorem Up {l:List (List UInt8)}{x:List UInt8}{i:Nat}(h:i < l.length)(hn:x ∉ l.take i)(he:l[i]=x):l.idxOf x=i:=by
 have e:l=l.take i++(l[i]::l.drop (i+1)):=by
  rw[←Zt h,Zc]
 rw[e,List.idxOf_append,Yg hn,he,List.idxOf_cons_self,YC];omega
theorem PO (va:Value)(l:List (List UInt8))(x:List UInt8)(w:World)(ha:Sl w va 1 l.length (bB l))(hl:l.length≤1099511627776) :
  Ret prog 80 #[va,.string ⟨x.toArray⟩] w (fun v w'=>v=.int .i64 (if l.idxOf x < l.length then (l.idxOf x:Int) else -1)∧w=w'):=by
 refine aO fun K hK=>mA ?_;unfold dB iN dx;rw[bY Yn ha];refine loop (fun vs w'=>∃(i:Nat),vs=[.int .i64 i]∧i≤l.length∧x ∉ l.take i∧w=w') (fun vs _=>l.length - n0 vs) ⟨0,rfl,by omega,by simp,rfl⟩ ?_;rintro vs w2 ⟨i,rfl,hi,hm,rfl⟩ _;simp only[eH,gd,rs,iN,dx];by_cases hlt:(i:Int) < (l.length:Int)
 ·have hi':i < l.length:=by omega
  simp only[hlt,Yj,rs];refine Bs (.string ⟨(l[i]).toArray⟩) Yn (by kernel_rfl) ha (by omega) (by rw[Yo];exact cD hi') fun q hq=>?_;rw[bE O9 hq];simp only[rs];by_cases he:x=l[i]
  ·simp only[←he,Yj,rs];have:=Up hi' hm he.symm;exact hK _ _ ⟨by rw[this,Yh hi'],rfl⟩
  ·simp only[he,Yi,rs];rw[aB (by omega) (by omega)];refine bO ⟨i+1,rfl,by omega,?_,rfl⟩ (by simp[n0,RowKit.intOf];omega);rw[List.take_add_one,YB hi'];simp only[Option.toList,YZ,Zs,not_or];exact⟨hm,he⟩
 ·simp only[hlt,Yi,i_f];rw[YO (by omega)] at hm;exact hK _ _ ⟨by rw[Yg (by rw[acL];exact hm)],rfl⟩
end
section
open Eng Go.RowKit
def obC (o:Ob)(vk vc:Value):List Value:=[.int .i64 o.k,.int .i64 o.n,.int .i64 o.g,.string ⟨o.s.toArray⟩,vk,vc]
def obV (o:Ob)(vk vc:Value):Value:=.agg (obC o vk vc).toArray
def obE (b:Nat)(o:Ob)(vk vc:Value):Ent:=.cells b (obC o vk vc) 25
structure ObAt (A:Nat→Prop) (w:World) (o:Ob) (vk vc:Value) (cs:List Value):Prop where
 keys:SlA A w vk 1 o.keys.length (bB o.keys)
 kids:SlA A w vc 6 o.kids.length cs
 all:OVs A w cs o.kids
theorem OV.open {A:Nat→Prop}{w:World}{v:Value}{o:Ob}(h:OV A w v o):∃vk vc cs,v=obV o vk vc∧ObAt A w o vk vc cs:=by
 cases o with
|mk k n g s keys kids=>
  rw[OV] at h;obtain⟨vk,vc,cs,rfl,h1,h2,h3⟩:=h;exact⟨vk,vc,cs,rfl,h1,h2,h3⟩
theorem ObAt.ov {A:Nat→Prop}{w:World}{o:Ob}{vk vc:Value}{cs:List Value}(h:ObAt A w o vk vc cs):OV A w (obV o vk vc) o:=by
 cases o with
|mk k n g s keys kids=>
  rw[OV];exact⟨vk,vc,cs,rfl,h.keys,h.kids,h.all⟩
theorem ObAt.kept {A:Nat→Prop}{w w':World}{o:Ob}{vk vc:Value}{cs:List Value}(h:ObAt A w o vk vc cs)(hk:Kept A w w'):ObAt A w' o vk vc cs:=
 ⟨h.keys.kept hk,h.kids.kept hk,OVs.kept hk _ _ h.all⟩
theorem O3 {A:Nat→Prop}{w w':World}(hA:∀b,A b→b < w.heap.size)(h:Below w.heap.size w w'):Kept A w w':=fun b hb=>h.block b (hA b hb)
theorem OwnS.keptIn {w0 w:World}{L:List Ent}(h:Own w0 w L):Kept (InW w0) w0 w:=O3 (fun _ h=>h) h.done
theorem OV.own {w0 w:World}{L:List Ent}{v:Value}{o:Ob}(h:OV (InW w0) w0 v o)(ho:Own w0 w L):OV (InW w0) w v o:=OV.kept (OwnS.keptIn ho) o v h
theorem OV.at_ {w0 w:World}{L:List Ent}{v:Value}{o:Ob}(h:OV (InW w0) w0 v o)(ho:Own w0 w L):OV (InW w) w v o:=OV.mono (fun _ hb=>Y4 hb ho.size) o v (h.own ho)
theorem ObAt.own {w0 w:World}{L:List Ent}{o:Ob}{vk vc:Value}{cs:List Value}(h:ObAt (InW w0) w0 o vk vc cs)(ho:Own w0 w L):ObAt (InW w0) w o vk vc cs:=h.kept (OwnS.keptIn ho)
theorem SlA.one {A:Nat→Prop}{w:World}{v:Value}{sz n:Nat}{cs:List Value}(h:SlA A w v sz n cs):v.oneCell'=true:=by
 obtain⟨⟨_,a,cap,rfl,_⟩,_⟩:=h;rfl
theorem dM:aggN prog 25=some 6:=by kernel_rfl
theorem szOb:(Tryz.prog.info? 25).map (·.size)=some 6:=by kernel_rfl
theorem PN:dX prog 23=true:=by kernel_rfl
theorem Md:dX prog 22=true:=by kernel_rfl
theorem nI65:dX prog 2=true:=by kernel_rfl
theorem kV:dX prog 3=true:=by kernel_rfl
theorem qQ:dX prog 9=true:=by kernel_rfl
theorem U4:fOff prog 25 0=some 0:=by kernel_rfl
theorem VT:fOff prog 25 1=some 1:=by kernel_rfl
theorem WB:fOff prog 25 2=some 2:=by kernel_rfl
theorem Ug:fOff prog 25 3=some 3:=by kernel_rfl
theorem RZ:fOff prog 25 4=some 4:=by kernel_rfl
theorem MY:fOff prog 25 5=some 5:=by kernel_rfl
section
variable {w:World}{PK:PKT}{K:VWP}{S:Nat→Prop}{w0:World}{L:List Ent}
theorem cN {b off:Nat}:DoX prog (mFA 25 (.pointer (some ⟨b,off,none⟩)) 0) w PK K=K (.pointer (some ⟨b,off,none⟩)) w:=dJ U4
theorem vI {b off:Nat}:DoX prog (mFA 25 (.pointer (some ⟨b,off,none⟩)) 1) w PK K=K (.pointer (some ⟨b,off+1,none⟩)) w:=dJ VT
theorem PB {b off:Nat}:DoX prog (mFA 25 (.pointer (some ⟨b,off,none⟩)) 2) w PK K=K (.pointer (some ⟨b,off+2,none⟩)) w:=dJ WB
theorem Cd {b off:Nat}:DoX prog (mFA 25 (.pointer (some ⟨b,off,none⟩)) 3) w PK K=K (.pointer (some ⟨b,off+3,none⟩)) w:=dJ Ug
theorem eC {b off:Nat}:DoX prog (mFA 25 (.pointer (some ⟨b,off,none⟩)) 4) w PK K=K (.pointer (some ⟨b,off+4,none⟩)) w:=dJ RZ
theorem dR {b off:Nat}:DoX prog (mFA 25 (.pointer (some ⟨b,off,none⟩)) 5) w PK K=K (.pointer (some ⟨b,off+5,none⟩)) w:=dJ MY
theorem cY (o:Ob){vk vc:Value}(hk:vk.oneCell'=true)(hc:vc.oneCell'=true)(ho:OwnS S w0 w L)(k:∀b w',OwnS S w0 w' (obE b o vk vc::L)→K (.pointer (some ⟨b,0,none⟩)) w'):DoX prog (mBox 25 (obV o vk vc)) w PK K:=by
 cases vk<;>first|(cases hk;done)|skip
 all_goals cases vc<;>first|(cases hc;done)|exact cI (fun b=>.pointer (some ⟨b,0,none⟩)) (obC o _ _) 25 (fun _=>by kernel_rfl) ho k
def ob0:Ob:=.mk 0 0 0 [] [] []
theorem bN (ho:OwnS S w0 w L)(k:∀b w',OwnS S w0 w' (obE b ob0 (.slice none 0 0) (.slice none 0 0)::L)→K (.pointer (some ⟨b,0,none⟩)) w'):DoX prog (aM 25) w PK K:=
 cI (fun b=>.pointer (some ⟨b,0,none⟩)) (obC ob0 (.slice none 0 0) (.slice none 0 0)) 25 (fun _=>by kernel_rfl) ho k
theorem iI (o:Ob){vk vc:Value}(hk:vk.oneCell'=true)(hc:vc.oneCell'=true):∀v∈obC o vk vc,v.oneCell'=true:=by
 intro v hv;simp only[obC,Yq,aaZ,or_false] at hv;rcases hv with rfl|rfl|rfl|rfl|rfl|rfl<;>first|rfl|assumption
theorem aQ (i:Nat){b:Nat}{o o':Ob}{vk vc vk' vc':Value}(hk:vk'.oneCell'=true)(hc:vc'.oneCell'=true)(ho:OwnS S w0 w L)(hi:L[i]?=some (obE b o vk vc))(k:∀w',OwnS S w0 w' (L.set i (obE b o' vk' vc'))→K undef w') :
  DoX prog (aC 25 (.pointer (some ⟨b,0,none⟩)) (obV o' vk' vc')) w PK K:=HE i ho hi (new:=obC o' vk' vc') szOb (iI o' hk hc) rfl k
theorem ob_k (ho:OwnS S w0 w L)(i:Nat){b:Nat}{o:Ob}{vk vc:Value}(hi:L[i]?=some (obE b o vk vc)):DoX prog (aA 3 (.pointer (some ⟨b,0,none⟩))) w PK K=K (.int .i64 o.k) w:=bE kV (ho.cell i hi 0 rfl)
theorem ob_n (ho:OwnS S w0 w L)(i:Nat){b:Nat}{o:Ob}{vk vc:Value}(hi:L[i]?=some (obE b o vk vc)):DoX prog (aA 2 (.pointer (some ⟨b,0+1,none⟩))) w PK K=K (.int .i64 o.n) w:=bE nI65 (ho.cell i hi 1 rfl)
theorem ob_g (ho:OwnS S w0 w L)(i:Nat){b:Nat}{o:Ob}{vk vc:Value}(hi:L[i]?=some (obE b o vk vc)):DoX prog (aA 3 (.pointer (some ⟨b,0+2,none⟩))) w PK K=K (.int .i64 o.g) w:=bE kV (ho.cell i hi 2 rfl)
theorem ob_s (ho:OwnS S w0 w L)(i:Nat){b:Nat}{o:Ob}{vk vc:Value}(hi:L[i]?=some (obE b o vk vc)):DoX prog (aA 9 (.pointer (some ⟨b,0+3,none⟩))) w PK K=K (.string ⟨o.s.toArray⟩) w:=bE qQ (ho.cell i hi 3 rfl)
theorem bV (ho:OwnS S w0 w L)(i:Nat){b:Nat}{o:Ob}{vk vc:Value}(hi:L[i]?=some (obE b o vk vc)):DoX prog (aA 22 (.pointer (some ⟨b,0+4,none⟩))) w PK K=K vk w:=bE Md (ho.cell i hi 4 rfl)
theorem bJ (ho:OwnS S w0 w L)(i:Nat){b:Nat}{o:Ob}{vk vc:Value}(hi:L[i]?=some (obE b o vk vc)):DoX prog (aA 23 (.pointer (some ⟨b,0+5,none⟩))) w PK K=K vc w:=bE PN (ho.cell i hi 5 rfl)
theorem ob_v (ho:OwnS S w0 w L)(i:Nat){b:Nat}{o:Ob}{vk vc:Value}(hi:L[i]?=some (obE b o vk vc)):DoX prog (aA 25 (.pointer (some ⟨b,0,none⟩))) w PK K=K (obV o vk vc) w:=l_at (ho.agg i hi dM)
theorem UF {A:Nat→Prop}{vc:Value}{os:List Ob}{cs:List Value}{K:VWP}{PK2:PKT}(hs:Sl w vc 6 os.length cs)(hall:OVs A w cs os){i:Nat}(hi:i < os.length)
  (k:∀v,OV A w v os[i]→K v w):DoX prog (mIA 23 vc (.int .i64 (i:Int))) w PK fun t w=>DoX prog (aA 25 t) w PK2 K:=by
 obtain⟨b,off,cap,rfl,hc⟩:=jB hs (by omega);refine aU (oV Yt szOb (by omega) (by omega)) |>.mpr ?_;rw[Yo];obtain⟨a,hl,hov,hget⟩:=OVs.get os cs i hi hall;refine aU (dH (v:=.agg a.toArray) (AtV.agg dM hl fun j v hj=>?_)) |>.mpr (k _ hov);rw[Zr];exact hc _ _ (hget j v hj)
end
end
section
open Eng
def nD(t3 t27 t28 t29 w)(N2:JT)(K:KT):=
 dx (mBin .lss 3 t29 t28) w K fun t30 w=>IfX t30 (dx (mIA 23 t27 t29) w K fun t31 w=>dx (aA 25 t31) w K fun t32 w=>dx (aM 25) w K fun t7 w=>dx (aC 25 t7 t32) w K fun _ w=>dx (aA 25 t7) w K fun t34 w=>cx 7 #[t34] w K fun t35 w=>dx (mBin .add 3 t3 t35) w K fun t36 w=>dx (mBin .add 3 t29 (iN 1)) w K fun t37 w=>N2 [t36,t37] w) (K (.returned t3) w)
def oF(t1 t3 t14 t15 t16 w)(N1:JT)(K:KT):=
 dx (mBin .lss 3 t16 t15) w K fun t17 w=>IfX t17 (dx (mIA 22 t14 t16) w K fun t18 w=>dx (aA 9 t18) w K fun t19 w=>dx (mB .len #[9] 3 #[false] #[t19]) w K fun t22 w=>dx (mBin .quo 3 t22 (iN 50)) w K fun t23 w=>dx (mBin .add 3 t3 t23) w K fun t24 w=>dx (mBin .add 3 t16 (iN 1)) w K fun t25 w=>N1 [t24,t25] w) (dx (mFA 25 t1 5) w K fun t26 w=>dx (aA 23 t26) w K fun t27 w=>dx (mB .len #[23] 3 #[false] #[t27]) w K fun t28 w=>LoopX [t3,(iN 0)] w (fun vs2 w N2=>∀_:Sg,nD (vs2.getD 0 undef) t27 t28 (vs2.getD 1 undef) w N2 K))
def iW(t0 w)(K:KT):=
 dx (mBox 25 t0) w K fun t1 w=>dx (mFA 25 t1 3) w K fun t8 w=>dx (aA 9 t8) w K fun t9 w=>dx (mB .len #[9] 3 #[false] #[t9]) w K fun t10 w=>dx (mBin .quo 3 t10 (iN 50)) w K fun t11 w=>dx (mBin .add 3 (iN 1) t11) w K fun t12 w=>dx (mFA 25 t1 4) w K fun t13 w=>dx (aA 22 t13) w K fun t14 w=>dx (mB .len #[22] 3 #[false] #[t14]) w K fun t15 w=>LoopX [t12,(iN 0)] w (fun vs1 w N1=>∀_:Sg,oF t1 (vs1.getD 0 undef) t14 t15 (vs1.getD 1 undef) w N1 K)
theorem yW (t0:Value)(w:World)(K:Ending→World→Prop):wpX prog 39 [] [(3,[3,16]),(8,[3,29])] none (aY Tryz.f7) (topQ prog [.tmp 2] K) (aR [t0]) [] w=iW t0 w K:=by kernel_rfl
theorem Aw {t0:Value}{w:World}{K:Ending→World→Prop}(h:iW t0 w K):Calls prog 7 #[t0] w K:=
 aE Tryz.func7 rfl rfl rfl rfl (Eq.mpr (yW t0 w K) h)
def tH(t0 w)(K:KT):=
 dx (aM 25) w K fun t2 w=>dx (aJ 25 #[(0,(iN 5)),(3,t0)]) w K fun t4 w=>dx (aC 25 t2 t4) w K fun _ w=>RetX prog [.cell t2 25] w K
theorem Bx{t0 w K}(h:tH t0 w K):Calls prog 107 #[t0] w K:=cw Tryz.func107 rfl rfl (by kernel_rfl) h
def qA(t0 w)(K:KT):=
 dx (aM 25) w K fun t2 w=>dx (aJ 25 #[(0,(iN 4)),(3,t0)]) w K fun t4 w=>dx (aC 25 t2 t4) w K fun _ w=>RetX prog [.cell t2 25] w K
theorem zK{t0 w K}(h:qA t0 w K):Calls prog 106 #[t0] w K:=cw Tryz.func106 rfl rfl (by kernel_rfl) h
def tG(t0 t1 w)(K:KT):=
 dx (aM 25) w K fun t4 w=>dx (aJ 25 #[(0,(iN 8)),(1,t0),(2,t1)]) w K fun t7 w=>dx (aC 25 t4 t7) w K fun _ w=>RetX prog [.cell t4 25] w K
theorem BA{t0 t1 w K}(h:tG t0 t1 w K):Calls prog 103 #[t0,t1] w K:=cw Tryz.func103 rfl rfl (by kernel_rfl) h
def tN(t0 w)(K:KT):=
 dx (aM 25) w K fun t2 w=>dx (aJ 25 #[(0,(iN 2)),(1,t0)]) w K fun t4 w=>dx (aC 25 t2 t4) w K fun _ w=>RetX prog [.cell t2 25] w K
theorem AV{t0 w K}(h:tN t0 w K):Calls prog 104 #[t0] w K:=cw Tryz.func104 rfl rfl (by kernel_rfl) h
def rF(t0 w)(K:KT):=
 dx (aM 25) w K fun t2 w=>dx (aJ 25 #[(0,(iN 3)),(1,t0)]) w K fun t4 w=>dx (aC 25 t2 t4) w K fun _ w=>RetX prog [.cell t2 25] w K
theorem zW{t0 w K}(h:rF t0 w K):Calls prog 105 #[t0] w K:=cw Tryz.func105 rfl rfl (by kernel_rfl) h
def qN(t0 w)(K:KT):=
 dx (aM 25) w K fun t2 w=>IfX t0 (dx (aJ 25 #[(0,(iN 1)),(1,(iN 1))]) w K fun t4 w=>dx (aC 25 t2 t4) w K fun _ w=>RetX prog [.cell t2 25] w K) (dx (aJ 25 #[(0,(iN 1))]) w K fun t5 w=>dx (aC 25 t2 t5) w K fun _ w=>RetX prog [.cell t2 25] w K)
theorem yV{t0 w K}(h:qN t0 w K):Calls prog 108 #[t0] w K:=cw Tryz.func108 rfl rfl (by kernel_rfl) h
def fO(t1 t4 t15 w)(K:KT):=
 IfX t15 (dx (aA 25 t1) w K fun t18 w=>cx 203 #[t18,(.bool false),(.bool false),(.bool true),(.bool false)] w K fun t19 w=>K (.returned t19) w) (dx (mEq .eql 3 (.tmp 4) (.const (iN 6)) t4 (iN 6)) w K fun t21 w=>IfX t21 (dx (aA 25 t1) w K fun t22 w=>cx 203 #[t22,(.bool false),(.bool false),(.bool false),(.bool true)] w K fun t23 w=>gtx t23 (mFA 25 t1 4) w K fun t25 w=>gtx t23 (aA 22 t25) w K fun t26 w=>gtx t23 (mB .len #[22] 3 #[false] #[t26]) w K fun t27 w=>gtx t23 (mEq .eql 3 (.tmp 27) (.const (iN 0)) t27 (iN 0)) w K fun t28 w=>dx (aF t23 t28 (.bool false)) w K fun t29 w=>K (.returned t29) w) (dx (mEq .eql 3 (.tmp 4) (.const (iN 7)) t4 (iN 7)) w K fun t31 w=>IfX t31 (dx (aA 25 t1) w K fun t32 w=>cx 203 #[t32,(.bool false),(.bool false),(.bool false),(.bool true)] w K fun t33 w=>K (.returned t33) w) (dx (mEq .eql 3 (.tmp 4) (.const (iN 8)) t4 (iN 8)) w K fun t35 w=>IfX t35 (dx (aA 25 t1) w K fun t36 w=>cx 203 #[t36,(.bool true),(.bool true),(.bool false),(.bool false)] w K fun t37 w=>K (.returned t37) w) (dx (mEq .eql 3 (.tmp 4) (.const (iN 9)) t4 (iN 9)) w K fun t39 w=>IfX t39 (dx (aA 25 t1) w K fun t40 w=>cx 203 #[t40,(.bool false),(.bool false),(.bool true),(.bool true)] w K fun t41 w=>K (.returned t41) w) (K (.returned (.bool false)) w)))))
def fL(t1 t4 t9 w)(K:KT):=
 IfX t9 (dx (aA 25 t1) w K fun t13 w=>cx 203 #[t13,(.bool true),(.bool false),(.bool false),(.bool false)] w K fun t14 w=>K (.returned t14) w) (JoinX (fun J2=>dx (mEq .eql 3 (.tmp 4) (.const (iN 4)) t4 (iN 4)) w K fun t16 w=>IfX t16 (J2 [t16] w) (dx (mEq .eql 3 (.tmp 4) (.const (iN 5)) t4 (iN 5)) w K fun t17 w=>J2 [t17] w)) (fun vs2 w=>∀_:Sg,fO t1 t4 (vs2.getD 0 undef) w K))
def iL(t0 w)(K:KT):=
 dx (mBox 25 t0) w K fun t1 w=>dx (mFA 25 t1 0) w K fun t3 w=>dx (aA 3 t3) w K fun t4 w=>dx (mEq .eql 3 (.tmp 4) (.const (iN 0)) t4 (iN 0)) w K fun t6 w=>IfX t6 (dx (aA 25 t1) w K fun t7 w=>cx 203 #[t7,(.bool false),(.bool false),(.bool false),(.bool false)] w K fun t8 w=>K (.returned t8) w) (JoinX (fun J1=>dx (mEq .eql 3 (.tmp 4) (.const (iN 1)) t4 (iN 1)) w K fun t10 w=>IfX t10 (J1 [t10] w) (dx (mEq .eql 3 (.tmp 4) (.const (iN 2)) t4 (iN 2)) w K fun t11 w=>IfX t11 (J1 [t11] w) (dx (mEq .eql 3 (.tmp 4) (.const (iN 3)) t4 (iN 3)) w K fun t12 w=>J1 [t12] w))) (fun vs1 w=>∀_:Sg,fL t1 t4 (vs1.getD 0 undef) w K))
theorem Ab (t0:Value)(w:World)(K:Ending→World→Prop):wpX prog 42 [(7,[9]),(10,[15])] [] none (aY Tryz.f153) (topQ prog [.tmp 2] K) (aR [t0]) [] w=iL t0 w K:=by kernel_rfl
theorem Au {t0:Value}{w:World}{K:Ending→World→Prop}(h:iL t0 w K):Calls prog 153 #[t0] w K:=
 aE Tryz.func153 rfl rfl rfl rfl (Eq.mpr (Ab t0 w K) h)
def qM(t0 w)(K:KT):=
 dx (mBox 25 t0) w K fun t1 w=>dx (mFA 25 t1 0) w K fun t3 w=>dx (aA 3 t3) w K fun t4 w=>dx (mEq .eql 3 (.tmp 4) (.const (iN 1)) t4 (iN 1)) w K fun t6 w=>IfX t6 (dx (mFA 25 t1 1) w K fun t7 w=>dx (aA 2 t7) w K fun t8 w=>dx (mEq .eql 2 (.tmp 8) (.const (iN 0)) t8 (iN 0)) w K fun t9 w=>gfx t9 (mFA 25 t1 1) w K fun t11 w=>gfx t9 (aA 2 t11) w K fun t12 w=>gfx t9 (mEq .eql 2 (.tmp 12) (.const (iN 1)) t12 (iN 1)) w K fun t13 w=>dx (aF t9 (.bool true) t13) w K fun t14 w=>K (.returned t14) w) (dx (mEq .eql 3 (.tmp 4) (.const (iN 2)) t4 (iN 2)) w K fun t16 w=>IfX t16 (dx (mFA 25 t1 1) w K fun t17 w=>dx (aA 2 t17) w K fun t18 w=>dx (mBin .geq 2 t18 (iN (-2147483647))) w K fun t19 w=>gtx t19 (mFA 25 t1 1) w K fun t21 w=>gtx t19 (aA 2 t21) w K fun t22 w=>gtx t19 (mBin .leq 2 t22 (iN 2147483647)) w K fun t23 w=>dx (aF t19 t23 (.bool false)) w K fun t24 w=>K (.returned t24) w) (dx (mEq .eql 3 (.tmp 4) (.const (iN 3)) t4 (iN 3)) w K fun t26 w=>IfX t26 (dx (mFA 25 t1 1) w K fun t27 w=>dx (aA 2 t27) w K fun t28 w=>dx (mBin .geq 2 t28 (iN (-1073741824))) w K fun t29 w=>gtx t29 (mFA 25 t1 1) w K fun t31 w=>gtx t29 (aA 2 t31) w K fun t32 w=>gtx t29 (mBin .leq 2 t32 (iN 1073741824)) w K fun t33 w=>dx (aF t29 t33 (.bool false)) w K fun t34 w=>K (.returned t34) w) (dx (mEq .eql 3 (.tmp 4) (.const (iN 8)) t4 (iN 8)) w K fun t36 w=>IfX t36 (dx (mFA 25 t1 1) w K fun t37 w=>dx (aA 2 t37) w K fun t38 w=>dx (mBin .geq 2 t38 (iN 1)) w K fun t39 w=>gtx t39 (mFA 25 t1 1) w K fun t41 w=>gtx t39 (aA 2 t41) w K fun t42 w=>gtx t39 (mBin .leq 2 t42 (iN 8191)) w K fun t43 w=>dx (aF t39 t43 (.bool false)) w K fun t44 w=>gtx t44 (mFA 25 t1 2) w K fun t46 w=>gtx t44 (aA 3 t46) w K fun t47 w=>gtx t44 (mBin .geq 3 t47 (iN 0)) w K fun t48 w=>dx (aF t44 t48 (.bool false)) w K fun t49 w=>gtx t49 (mFA 25 t1 2) w K fun t51 w=>gtx t49 (aA 3 t51) w K fun t52 w=>gtx t49 (mBin .leq 3 t52 (iN 65535)) w K fun t53 w=>dx (aF t49 t53 (.bool false)) w K fun t54 w=>K (.returned t54) w) (K (.returned (.bool true)) w))))
theorem zM{t0 w K}(h:qM t0 w K):Calls prog 154 #[t0] w K:=cw Tryz.func154 rfl rfl (by kernel_rfl) h
def qX(t0 w)(K:KT):=
 dx (mEq .eql 3 (.tmp 3) (.const (iN 5)) t0 (iN 5)) w K fun t4 w=>IfX t4 (K (.returned (iN 127)) w) (dx (mEq .eql 3 (.tmp 5) (.const (iN 9)) t0 (iN 9)) w K fun t6 w=>IfX t6 (K (.returned (iN 1048576)) w) (K (.returned (iN 32767)) w))
theorem zL{t0 w K}(h:qX t0 w K):Calls prog 155 #[t0] w K:=cw Tryz.func155 rfl rfl (by kernel_rfl) h
def rN(t0 t1 t2 t3 t4 w)(K:KT):=
 dx (mBox 25 t0) w K fun t5 w=>gfx t1 (mFA 25 t5 1) w K fun t13 w=>gfx t1 (aA 2 t13) w K fun t14 w=>gfx t1 (mEq .eql 2 (.tmp 14) (.const (iN 0)) t14 (iN 0)) w K fun t15 w=>dx (aF t1 (.bool true) t15) w K fun t16 w=>etx t16 t2 w fun t18 w=>etx t16 t18 w fun t19 w=>gfx t19 (mFA 25 t5 2) w K fun t20 w=>gfx t19 (aA 3 t20) w K fun t21 w=>gfx t19 (mEq .eql 3 (.tmp 21) (.const (iN 0)) t21 (iN 0)) w K fun t22 w=>gtx t16 (aF t19 (.bool true) t22) w K fun t23 w=>dx (aF t16 t23 (.bool false)) w K fun t24 w=>etx t24 t3 w fun t26 w=>etx t24 t26 w fun t27 w=>gfx t27 (mFA 25 t5 3) w K fun t28 w=>gfx t27 (aA 9 t28) w K fun t29 w=>gfx t27 (mEq .eql 9 (.tmp 29) (.const (.string ⟨#[]⟩)) t29 (.string ⟨#[]⟩)) w K fun t30 w=>gtx t24 (aF t27 (.bool true) t30) w K fun t31 w=>dx (aF t24 t31 (.bool false)) w K fun t32 w=>etx t32 t4 w fun t34 w=>etx t32 t34 w fun t35 w=>gfx t35 (mFA 25 t5 4) w K fun t36 w=>gfx t35 (aA 22 t36) w K fun t37 w=>gfx t35 (mB .len #[22] 3 #[false] #[t37]) w K fun t38 w=>gfx t35 (mEq .eql 3 (.tmp 38) (.const (iN 0)) t38 (iN 0)) w K fun t39 w=>efx t35 t39 w fun t40 w=>gtx t40 (mFA 25 t5 5) w K fun t41 w=>gtx t40 (aA 23 t41) w K fun t42 w=>gtx t40 (mB .len #[23] 3 #[false] #[t42]) w K fun t43 w=>gtx t40 (mEq .eql 3 (.tmp 43) (.const (iN 0)) t43 (iN 0)) w K fun t44 w=>gfx t35 (aF t40 t44 (.bool false)) w K fun t45 w=>gtx t32 (aF t35 (.bool true) t45) w K fun t46 w=>dx (aF t32 t46 (.bool false)) w K fun t47 w=>K (.returned t47) w
theorem yM{t0 t1 t2 t3 t4 w K}(h:rN t0 t1 t2 t3 t4 w K):Calls prog 203 #[t0,t1,t2,t3,t4] w K:=cw Tryz.func203 rfl rfl (by kernel_rfl) h
def mO(t0 t3 w)(N1:JT)(K:KT):=
 dx (mB .len #[9] 3 #[false] #[t0]) w K fun t6 w=>dx (mBin .lss 3 t3 t6) w K fun t7 w=>IfX t7 (dx (mIx 9 t0 t3) w K fun t12 w=>dx (mEq .eql 5 (.tmp 12) (.const (.int .u8 0)) t12 (.int .u8 0)) w K fun t13 w=>IfX t13 (K (.returned (.bool false)) w) (dx (mBin .add 3 t3 (iN 1)) w K fun t9 w=>N1 [t9] w)) (dx (mB .len #[9] 3 #[false] #[t0]) w K fun t15 w=>dx (mBin .leq 3 t15 (iN 127)) w K fun t16 w=>K (.returned t16) w)
def iF(t0 w)(K:KT):=
 LoopX [(iN 0)] w (fun vs1 w N1=>∀_:Sg,mO t0 (vs1.getD 0 undef) w N1 K)
theorem zY (t0:Value)(w:World)(K:Ending→World→Prop):wpX prog 17 [] [(2,[3])] none (aY Tryz.f204) (topQ prog [.tmp 2] K) (aR [t0]) [] w=iF t0 w K:=by kernel_rfl
theorem zN {t0:Value}{w:World}{K:Ending→World→Prop}(h:iF t0 w K):Calls prog 204 #[t0] w K:=
 aE Tryz.func204 rfl rfl rfl rfl (Eq.mpr (zY t0 w K) h)
def mX(t1 t27 t28 t29 w)(N1:JT)(K:KT):=
 dx (mBin .lss 3 t29 t28) w K fun t30 w=>IfX t30 (dx (mIA 22 t27 t29) w K fun t32 w=>dx (aA 9 t32) w K fun t33 w=>cx 204 #[t33] w K fun t35 w=>dx (mUn .not t35) w K fun t36 w=>efx t36 t29 w fun t38 w=>gfx t36 (mBin .gtr 3 t38 (iN 0)) w K fun t39 w=>efx t36 t39 w fun t40 w=>etx t40 t33 w fun t41 w=>gtx t40 (mFA 25 t1 4) w K fun t42 w=>gtx t40 (aA 22 t42) w K fun t43 w=>etx t40 t29 w fun t44 w=>gtx t40 (mBin .sub 3 t44 (iN 1)) w K fun t45 w=>gtx t40 (mIA 22 t43 t45) w K fun t46 w=>gtx t40 (aA 9 t46) w K fun t47 w=>gtx t40 (mBin .leq 9 t41 t47) w K fun t48 w=>gfx t36 (aF t40 t48 (.bool false)) w K fun t49 w=>dx (aF t36 (.bool true) t49) w K fun t50 w=>efx t50 t33 w fun t52 w=>gfx t50 (mEq .eql 9 (.tmp 52) (.const (.string ⟨#[76,101,110,103,116,104]⟩)) t52 (.string ⟨#[76,101,110,103,116,104]⟩)) w K fun t53 w=>efx t50 t53 w fun t54 w=>gtx t54 (mFA 25 t1 0) w K fun t55 w=>gtx t54 (aA 3 t55) w K fun t56 w=>gtx t54 (mEq .eql 3 (.tmp 56) (.const (iN 9)) t56 (iN 9)) w K fun t57 w=>gfx t50 (aF t54 t57 (.bool false)) w K fun t58 w=>dx (aF t50 (.bool true) t58) w K fun t59 w=>gfx t59 (mFA 25 t1 5) w K fun t61 w=>gfx t59 (aA 23 t61) w K fun t62 w=>efx t59 t29 w fun t63 w=>gfx t59 (mIA 23 t62 t63) w K fun t64 w=>gfx t59 (mFA 25 t64 0) w K fun t65 w=>gfx t59 (aA 3 t65) w K fun t66 w=>gfx t59 (mEq .eql 3 (.tmp 66) (.const (iN 0)) t66 (iN 0)) w K fun t67 w=>dx (aF t59 (.bool true) t67) w K fun t68 w=>IfX t68 (K (.returned (.bool false)) w) (dx (mBin .add 3 t29 (iN 1)) w K fun t69 w=>N1 [t69] w)) (K (.returned (.bool true)) w)
def iX(t0 w)(K:KT):=
 dx (mBox 25 t0) w K fun t1 w=>dx (mFA 25 t1 0) w K fun t5 w=>dx (aA 3 t5) w K fun t6 w=>dx (mEq .eql 3 (.tmp 6) (.const (iN 5)) t6 (iN 5)) w K fun t7 w=>IfX t7 (dx (mFA 25 t1 3) w K fun t8 w=>dx (aA 9 t8) w K fun t9 w=>cx 204 #[t9] w K fun t10 w=>K (.returned t10) w) (dx (mFA 25 t1 0) w K fun t11 w=>dx (aA 3 t11) w K fun t12 w=>dx (mEq .neq 3 (.tmp 12) (.const (iN 7)) t12 (iN 7)) w K fun t13 w=>gtx t13 (mFA 25 t1 0) w K fun t15 w=>gtx t13 (aA 3 t15) w K fun t16 w=>gtx t13 (mEq .neq 3 (.tmp 16) (.const (iN 9)) t16 (iN 9)) w K fun t17 w=>dx (aF t13 t17 (.bool false)) w K fun t18 w=>IfX t18 (K (.returned (.bool true)) w) (dx (mFA 25 t1 4) w K fun t19 w=>dx (aA 22 t19) w K fun t20 w=>dx (mB .len #[22] 3 #[false] #[t20]) w K fun t21 w=>dx (mFA 25 t1 5) w K fun t22 w=>dx (aA 23 t22) w K fun t23 w=>dx (mB .len #[23] 3 #[false] #[t23]) w K fun t24 w=>dx (mEq .neq 3 (.tmp 21) (.tmp 24) t21 t24) w K fun t25 w=>IfX t25 (K (.returned (.bool false)) w) (dx (mFA 25 t1 4) w K fun t26 w=>dx (aA 22 t26) w K fun t27 w=>dx (mB .len #[22] 3 #[false] #[t27]) w K fun t28 w=>LoopX [(iN 0)] w (fun vs1 w N1=>∀_:Sg,mX t1 t27 t28 (vs1.getD 0 undef) w N1 K))))
theorem yZ (t0:Value)(w:World)(K:Ending→World→Prop):wpX prog 70 [] [(8,[29])] none (aY Tryz.f156) (topQ prog [.tmp 2] K) (aR [t0]) [] w=iX t0 w K:=by kernel_rfl
theorem zR {t0:Value}{w:World}{K:Ending→World→Prop}(h:iX t0 w K):Calls prog 156 #[t0] w K:=
 aE Tryz.func156 rfl rfl rfl rfl (Eq.mpr (yZ t0 w K) h)
def lC(t1 t40 t41 t42 w)(N2:JT)(K:KT):=
 dx (mBin .lss 3 t42 t41) w K fun t43 w=>IfX t43 (dx (mIA 23 t40 t42) w K fun t44 w=>dx (aA 25 t44) w K fun t45 w=>dx (aM 25) w K fun t6 w=>dx (aC 25 t6 t45) w K fun _ w=>dx (aA 25 t6) w K fun t46 w=>dx (mBin .add 3 t1 (iN 1)) w K fun t48 w=>cx 99 #[t46,t48] w K fun t49 w=>dx (mEq .neq 30 (.tmp 50) (.const (iN 0)) t49 (iN 0)) w K fun t51 w=>IfX t51 (K (.returned t49) w) (dx (mBin .add 3 t42 (iN 1)) w K fun t53 w=>N2 [t53] w)) (K (.returned (iN 0)) w)
def gT(t0 t1 w)(K:KT):=
 dx (mBox 25 t0) w K fun t2 w=>dx (mBin .gtr 3 t1 (iN 24)) w K fun t9 w=>IfX t9 (K (.returned (iN 7)) w) (dx (aA 25 t2) w K fun t10 w=>cx 153 #[t10] w K fun t11 w=>dx (mUn .not t11) w K fun t12 w=>gfx t12 (mFA 25 t2 0) w K fun t14 w=>gfx t12 (aA 3 t14) w K fun t15 w=>gfx t12 (mEq .eql 3 (.tmp 15) (.const (iN 9)) t15 (iN 9)) w K fun t16 w=>efx t12 t16 w fun t17 w=>etx t17 t1 w fun t18 w=>gtx t17 (mBin .gtr 3 t18 (iN 1)) w K fun t19 w=>gfx t12 (aF t17 t19 (.bool false)) w K fun t20 w=>dx (aF t12 (.bool true) t20) w K fun t21 w=>IfX t21 (K (.returned (iN 10)) w) (dx (aA 25 t2) w K fun t22 w=>cx 154 #[t22] w K fun t23 w=>dx (mUn .not t23) w K fun t24 w=>IfX t24 (K (.returned (iN 2)) w) (QuietX w (fun C1=>QDo prog C1 (mFA 25 t2 3) fun t25=>QDo prog C1 (aA 9 t25) fun t26=>QDo prog C1 (mB .len #[9] 3 #[false] #[t26]) fun t27=>QDo prog C1 (mFA 25 t2 0) fun t28=>QDo prog C1 (aA 3 t28) fun t29=>QCall prog C1 155 #[t29] fun t30=>QDo prog C1 (mBin .gtr 3 t27 t30) fun t31=>
 ∀w,C1 w →
 IfX t31 (K (.returned (iN 5)) w) (dx (mFA 25 t2 5) w K fun t32 w=>dx (aA 23 t32) w K fun t33 w=>dx (mB .len #[23] 3 #[false] #[t33]) w K fun t34 w=>dx (mBin .gtr 3 t34 (iN 8191)) w K fun t35 w=>IfX t35 (K (.returned (iN 6)) w) (dx (aA 25 t2) w K fun t36 w=>cx 156 #[t36] w K fun t37 w=>dx (mUn .not t37) w K fun t38 w=>IfX t38 (K (.returned (iN 3)) w) (dx (mFA 25 t2 5) w K fun t39 w=>dx (aA 23 t39) w K fun t40 w=>dx (mB .len #[23] 3 #[false] #[t40]) w K fun t41 w=>LoopX [(iN 0)] w (fun vs2 w N2=>∀_:Sg,lC t1 t40 t41 (vs2.getD 0 undef) w N2 K))))))))
theorem wB (t0 t1:Value)(w:World)(K:Ending→World→Prop):wpX prog 54 [] [(14,[42])] none (aY Tryz.f99) (topQ prog [.tmp 4] K) (aR [t0,t1]) [] w=gT t0 t1 w K:=by kernel_rfl
theorem wW {t0 t1:Value}{w:World}{K:Ending→World→Prop}(h:gT t0 t1 w K):Calls prog 99 #[t0,t1] w K:=
 aE Tryz.func99 rfl rfl rfl rfl (Eq.mpr (wB t0 t1 w K) h)
def pB(t0 w)(K:KT):=
 dx (mBox 25 t0) w K fun t1 w=>dx (aA 25 t1) w K fun t3 w=>cx 99 #[t3,(iN 1)] w K fun t4 w=>K (.returned t4) w
theorem xP{t0 w K}(h:pB t0 w K):Calls prog 58 #[t0] w K:=cw Tryz.func58 rfl rfl (by kernel_rfl) h
end
section
open Eng Go.RowKit
theorem u8i (c:UInt8)(k:Nat)(d:UInt8)(hd:d.toNat=k):((c.toNat:Int)=(k:Int))↔c=d:=by
 rw[←ZK,hd];omega
theorem SL (s:List UInt8)(w:World)(hs:s.length≤4611686018427387904):Ret prog 250 #[.string ⟨s.toArray⟩] w
  (fun v w'=>(∃(a b:List UInt8) (m:Bool),v=.tuple #[.string ⟨a.toArray⟩,.string ⟨b.toArray⟩,.bool m,.bool (Fx.form s)]∧(Fx.form s=true→a=Fx.whole (Fx.body s)∧b=Fx.part (Fx.body s)∧m=Fx.minus s))∧w=w'):=by
 refine aO fun K hK=>Ap ?_;unfold iT iN dx gtx gfx etx efx;simp only[bF Ym,rs];by_cases h40:(40:Int) < (s.length:Int)
 ·simp only[h40,Yj,rs];have hf:Fx.form s=false:=by rw[Fx.form,Yl (by omega),Y8,Y8,Y8]
  exact hK _ _ ⟨⟨[],[],false,by rw[hf],by rw[hf];intro h;cases h⟩,rfl⟩
 ·simp only[h40,Yi,rs];have main:∀(l:List UInt8) (m:Bool),l=Fx.body s→m=Fx.minus s→l.length≤s.length→fW (.string ⟨l.toArray⟩) (.bool m) w K:=by
   intro l m hl hm hls;unfold fW iN;have hscan:=Fx.Jw l [];refine loop (fun vs w'=>∃(a b:List UInt8) (pt:Bool) (k:Nat),vs=[.string ⟨a.toArray⟩,.string ⟨b.toArray⟩,.bool pt,.int .i64 k]∧k≤l.length∧a.length+b.length≤k∧Fx.scan (l.drop k) a b pt=Fx.scan l [] [] false∧w=w')
    (fun vs _=>l.length - (RowKit.intOf (vs.getD 3 undef)).toNat) ⟨[],[],false,0,rfl,by omega,by simp,by simp,rfl⟩ ?_
   rintro vs w' ⟨a,b,pt,k,rfl,hk,hab,hsc,rfl⟩ _;simp only[mL,gd,bF Ym,rs,iN,dx,gtx,gfx,etx,efx];by_cases hlt:k < l.length
   ·have hlt':(k:Int) < (l.length:Int):=by omega
    simp only[hlt',Yj,rs];have hd:l.drop k=l[k]::l.drop (k+1):=(List.getElem_cons_drop hlt).symm;have hg:l[(k:Int).toNat]?=some l[k]:=by rw[Yo];exact YB hlt
    rw[hd] at hsc;generalize l[k]=c at *;have hsl:((l.drop (k:Int).toNat).take (((k:Int)+1).toNat - (k:Int).toNat))=[c]:=by
     rw[Yo,hd,show ((k:Int)+1).toNat - k=1 by omega];rfl
    refine join fun J hJ=>?_;have next:∀(a' b':List UInt8) (pt':Bool),a'.length+b'.length≤k+1→Fx.scan (l.drop (k+1)) a' b' pt'=Fx.scan l [] [] false→J [.string ⟨a'.toArray⟩,.string ⟨b'.toArray⟩,.bool pt'] w:=by
     intro a' b' pt' h1 h2;refine hJ _ _ fun _=>?_;simp only[nB,gd,rs,iN,dx];rw[aB (by omega) (by omega)];exact bO ⟨a',b',pt',k+1,by simp,by omega,h1,h2,rfl⟩ (by simp[RowKit.intOf];omega)
    simp only[s_ix Ym (show (0:Int)≤(k:Int) by omega) hg,rs];have rest:¬(c=46∧pt=false)→Fx.cT c=true→IfX (.bool pt) (DoX prog (aT 9 (.string ⟨l.toArray⟩) (some (.int .i64 k)) (some (.int .i64 (k+1))) none) w (pk K) fun t61 ww=>
      DoX prog (mBin .add 9 (.string ⟨b.toArray⟩) t61) ww (pk K) fun t62 ww=>
      J [.string ⟨a.toArray⟩,t62,.bool pt] ww) (DoX prog (aT 9 (.string ⟨l.toArray⟩) (some (.int .i64 k)) (some (.int .i64 (k+1))) none) w (pk K) fun t68 ww=>
      DoX prog (mBin .add 9 (.string ⟨a.toArray⟩) t68) ww (pk K) fun t69 ww=>
      J [t69,.string ⟨b.toArray⟩,.bool pt] ww):=by
     intro hn hdg;cases pt with
    |true=>
      simp only[rs];rw[Bt Ym (by omega) (by omega) (by omega),hsl,kW (by simp;omega)];refine next a (b++[c]) true (by simp;omega) ?_
      rw[←hsc,Fx.scan,Yh hdg]
    |false=>
      simp only[rs];rw[Bt Ym (by omega) (by omega) (by omega),hsl,kW (by simp;omega)];refine next (a++[c]) b false (by simp;omega) ?_
      have hc:c≠46:=fun e=>hn ⟨e,rfl⟩;rw[←hsc,Fx.scan,Yg hc,Yh hdg]
    have fail:Fx.scan l [] [] false=none→K (.returned (.tuple #[.string ⟨#[]⟩,.string ⟨#[]⟩,.bool false,.bool false])) w:=by
     intro hno;have hf:Fx.form s=false:=by
      rw[hscan] at hno;have hall:((Fx.whole l).all Fx.cT&&(Fx.part l).all Fx.cT)=false:=by
       cases hh:((Fx.whole l).all Fx.cT&&(Fx.part l).all Fx.cT) with
      |false=>rfl
      |true=>rw[hh] at hno;cases hno
      rw[hl] at hall;rw[Fx.form,Zz (decide _),hall,ZL,Y8]
     exact hK _ _ ⟨⟨[],[],false,by rw[hf],by rw[hf];intro h;cases h⟩,rfl⟩
    by_cases hc:c=46
    ·subst hc;simp only[show (((46:UInt8).toNat:Nat):Int)=46 from rfl,Yj,rs];cases pt with
    |false=>
      simp only[rs];refine next a b true (by omega) ?_
      rw[←hsc,Fx.scan,Yh rfl]
    |true=>
      simp only[rs,show ((46:Int) < 48) by omega,Yj];refine fail ?_;rw[←hsc,Fx.scan];rfl
    ·have hc':¬((c.toNat:Int)=46):=fun e=>hc ((u8i c 46 46 rfl).1 e);simp only[hc',Yi,rs];by_cases hdg:Fx.cT c=true
     ·have hdb:=Fx.iA hdg;simp only[show ¬((c.toNat:Int) < 48) by omega,show ¬((57:Int) < (c.toNat:Int)) by omega,Yi,rs,s_ix Ym (show (0:Int)≤(k:Int) by omega) hg];rw[aB (by omega) (by omega)];exact rest (fun e=>hc e.1) hdg
     ·have hnd:Fx.scan l [] [] false=none:=by
       rw[←hsc];cases pt with
      |true=>rw[Fx.scan,Yg hdg]
      |false=>rw[Fx.scan,Yg hc,Yg hdg]
      have hdb:(c.toNat:Int) < 48∨(57:Int) < (c.toNat:Int):=by
       simp[Fx.cT] at hdg;omega
      by_cases h48:(c.toNat:Int) < 48
      ·simp only[h48,Yj,rs];exact fail hnd
      ·have h57:(57:Int) < (c.toNat:Int):=by omega
       simp only[h48,h57,Yj,Yi,rs,s_ix Ym (show (0:Int)≤(k:Int) by omega) hg];exact fail hnd
   ·have hlt':¬(k:Int) < (l.length:Int):=by omega
    simp only[hlt',Yi,rs];rw[aB (by omega) (by omega)];have hd:l.drop k=[]:=YP (by omega);have he:Fx.scan [] a b pt=some (a,b):=by cases pt<;>rfl
    rw[hd,he,hscan] at hsc;have hall:((Fx.whole l).all Fx.cT&&(Fx.part l).all Fx.cT)=true:=by
     cases hh:((Fx.whole l).all Fx.cT&&(Fx.part l).all Fx.cT) with
    |true=>rfl
    |false=>rw[hh] at hsc;cases hsc
    rw[Yh hall] at hsc;simp only[Y6,Zu,ZI] at hsc;obtain⟨rfl,rfl⟩:=hsc;have hf:Fx.form s=decide ((0:Int) < ((Fx.whole l).length:Int)+((Fx.part l).length:Int)):=by
     rw[Fx.form,←hl,Zz (decide _),hall,ZE,Yk (show s.length≤40 by omega),Y2,decide_eq_decide];omega
    exact hK _ _ ⟨⟨_,_,_,by rw[hf],fun _=>⟨by rw[hl],by rw[hl],hm⟩⟩,rfl⟩
  refine join fun J hJ=>?_;cases s with
 |nil=>
   simp only[ne_eq,not_true_eq_false,Yi,rs,g_un];refine hJ _ _ fun _=>?_;exact main [] false rfl rfl (by simp)
 |cons c t=>
   have hix:(c::t)[(0:Int).toNat]?=some c:=rfl;simp only[ne_eq,reduceCtorEq,Yz,Yj,rs,s_ix Ym (show (0:Int)≤0 by omega) hix];by_cases h43:c=43
   ·subst h43;simp only[show (((43:UInt8).toNat:Nat):Int)=43 from rfl,show ¬((43:Int)=45) by omega,Yj,Yi,rs,s_ix Ym (show (0:Int)≤0 by omega) hix];rw[CA Ym (by omega) (by simp;omega)];exact hJ _ _ fun _=>main t false rfl rfl (by simp)
   ·have h43':¬((c.toNat:Int)=43):=fun e=>h43 ((u8i c 43 43 rfl).1 e);simp only[h43',Yi,rs];by_cases h45:c=45
    ·subst h45;simp only[show (((45:UInt8).toNat:Nat):Int)=45 from rfl,Yj,rs,s_ix Ym (show (0:Int)≤0 by omega) hix];rw[CA Ym (by omega) (by simp;omega)];exact hJ _ _ fun _=>main t true rfl rfl (by simp)
    ·have h45':¬((c.toNat:Int)=45):=fun e=>h45 ((u8i c 45 45 rfl).1 e);simp only[h45',Yi,rs,s_ix Ym (show (0:Int)≤0 by omega) hix];refine hJ _ _ fun _=>?_;exact main (c::t) false (by rw[Fx.body,Yg (by simp[h43,h45])]) (by rw[Fx.minus,Yl h45]) (by simp)
end
section
open Eng Go.RowKit
theorem GZ {x:Int}(h:1073741824 < x∨x < -1073741824):Fx.ans x=(0,2):=by
 have:Fx.okB x=false:=by simp[Fx.okB];omega
 rw[Fx.ans,this];rfl
theorem Jm {s:List UInt8}(h:Fx.form s=true):s.length≤40∧(Fx.whole (Fx.body s)).all Fx.cT=true∧(Fx.part (Fx.body s)).all Fx.cT=true:=by
 simp only[Fx.form,Ys,Yx] at h;exact⟨h.1.1.1,h.1.1.2,h.1.2⟩
theorem SE {s:List UInt8}(h:Fx.form s=true):Fx.ans (if Fx.minus s then -(Fx.cap 0 (Fx.whole (Fx.body s)++Fx.four (Fx.part (Fx.body s)))+(if Fx.more ((Fx.part (Fx.body s)).drop 4) (Fx.minus s) then 1 else 0))
  else Fx.cap 0 (Fx.whole (Fx.body s)++Fx.four (Fx.part (Fx.body s)))+(if Fx.more ((Fx.part (Fx.body s)).drop 4) (Fx.minus s) then 1 else 0))=Fx.read s:=by
 obtain⟨_,hw,hp⟩:=Jm h;have hall:(Fx.whole (Fx.body s)++Fx.four (Fx.part (Fx.body s))).all Fx.cT=true:=by rw[aaM,hw,Fx.GA hp];rfl
 rw[Fx.read,Yh h,Fx.mag,Fx.R9 _ 0 0 hall (by omega) (by omega),Fx.B5];have h1:=Fx.GV _ 0 hw (by omega);have h2:=Fx.val4 (Fx.four (Fx.part (Fx.body s))) (Fx.val 0 (Fx.whole (Fx.body s))) (Fx.wZ _) (Fx.GA hp);generalize Fx.val 0 (Fx.whole (Fx.body s))=W at *;generalize Fx.val W (Fx.four (Fx.part (Fx.body s)))=V at *;have hm:∀x:Bool,0≤(if x then (1:Int) else 0)∧(if x then (1:Int) else 0)≤1:=by intro x;cases x<;>simp
 have hm':=hm (Fx.more ((Fx.part (Fx.body s)).drop 4) (Fx.minus s));generalize (if Fx.more ((Fx.part (Fx.body s)).drop 4) (Fx.minus s) then (1:Int) else 0)=e at *;by_cases hW:W>1073741824
 ·rw[Yh hW];split<;>exact GZ (by omega)
 ·rw[Yg hW];by_cases hV:V≤1099511627776
  ·rw[show min V 1099511627776=V by omega]
  ·split
   ·rw[GZ (x:=-(min V 1099511627776+e)) (by omega),GZ (by omega)]
   ·rw[GZ (x:=(min V 1099511627776+e)) (by omega),GZ (by omega)]
theorem Q9 (s:List UInt8)(w:World)(hs:s.length≤4611686018427387904):Ret prog 221 #[.string ⟨s.toArray⟩] w (fun v w'=>v=pair (Fx.read s)∧Below w.heap.size w w'):=by
 refine aO fun K hK=>yS ?_;unfold iZ iN dx cx;refine dS (SL s w hs) ?_;rintro v w1 ⟨⟨a,b,m,rfl,hf⟩,rfl⟩;simp only[ex,rs];by_cases ho:Fx.form s=true
 ·obtain⟨rfl,rfl,rfl⟩:=hf ho;obtain⟨h40,hw,hp⟩:=Jm ho;have hbl:(Fx.body s).length≤s.length:=by
   cases s with
  |nil=>simp[Fx.body]
  |cons c t=>rw[Fx.body];split<;>simp
  have hwl:(Fx.whole (Fx.body s)).length≤(Fx.body s).length:=by
   have:=(List.takeWhile_sublist (fun c=>c != 46) (l:=Fx.body s)).length_le;exact this
  have hpl:(Fx.part (Fx.body s)).length≤(Fx.body s).length:=by
   have:=(abJ (fun c=>c != 46) (l:=Fx.body s)).length_le;rw[Fx.part,Yv];omega
  have href:=SE ho;rw[ho];simp only[rs];have hall:(Fx.whole (Fx.body s)++Fx.four (Fx.part (Fx.body s))).all Fx.cT=true:=by rw[aaM,hw,Fx.GA hp];rfl
  rw[kW (b:=[48,48,48,48]) (by simp;omega),RN Ym (by omega) (by simp;omega)];change DoX _ (mBin .add _ _ (.string ⟨(Fx.four (Fx.part (Fx.body s))).toArray⟩)) _ _ _;rw[kW (by rw[Fx.wZ];omega)];have hal:(Fx.whole (Fx.body s)++Fx.four (Fx.part (Fx.body s))).length≤44:=by rw[Yp,Fx.wZ];omega
  generalize Fx.whole (Fx.body s)++Fx.four (Fx.part (Fx.body s))=all at *;generalize Fx.part (Fx.body s)=part at *;generalize Fx.minus s=neg at *;refine loop (fun vs w'=>∃k:Nat,k≤all.length∧vs=[.int .i64 (Fx.cap 0 (all.take k)),.int .i64 k]∧w=w') (fun vs _=>all.length - n1 vs) ⟨0,by omega,rfl,rfl⟩ ?_;rintro vs w' ⟨k,hk,rfl,rfl⟩ _;simp only[nC,gd,bF Ym,rs,iN,dx];have hcb:=Fx.Wk (all.take k) (by
   rw[YI] at hall ⊢;exact fun x hx=>hall x (Zm hx))
  by_cases hlt:k < all.length
  ·have hlt':(k:Int) < (all.length:Int):=by omega
   have hdg:=Fx.iA (YI.1 hall all[k] (YH hlt));simp only[hlt',Yj,rs];rw[s_ix (c:=all[k]) Ym (by omega) (by rw[Yo];exact YB hlt)];simp only[rs];rw[cZ (by omega) (by omega),F8 (show (Tryz.prog.underlying 5).isSome=true by kernel_rfl) Z5];simp only[rs,Wn];rw[aB (n:=((all[k].toNat:Nat):Int) - 48) (by omega) (by omega),aB (n:=10*_) (by omega) (by omega),aB (by omega) (by omega),aB (by omega) (by omega)];refine bO ⟨k+1,by omega,?_,rfl⟩ (by simp[n1,RowKit.intOf];omega);rw[Fx.Sn 0 all k hlt];rfl
  ·have hlt':¬(k:Int) < (all.length:Int):=by omega
   simp only[hlt',Yi,rs];rw[YO (by omega)] at hcb ⊢;generalize Fx.cap 0 all=n at *;refine join fun J0 hJ0=>?_;have afterMore:∀b:Bool,b=Fx.more (part.drop 4) neg→fU (.bool neg) (.int .i64 n) (.bool b) w K:=by
    intro b hb;subst hb;rw[fU];unfold iN dx;refine join fun J3 hJ3=>?_;have h5:∀m:Int,0≤m→m≤1099511627777→m=n+(if Fx.more (part.drop 4) neg then 1 else 0)→fJ (.bool neg) (.int .i64 m) w K:=by
     intro m m0 m1 hm;rw[fJ];unfold dx;refine join fun J4 hJ4=>?_;have h6:∀q:Int,q=(if neg then -m else m)→fP (.int .i64 q) w K:=by
      intro q hq;rw[fP];unfold iN dx cx;refine dS (G2 q w) ?_;rintro v w4 ⟨rfl,rfl⟩;have hres:Fx.read s=Fx.ans q:=by rw[←href,hq,hm]
      cases hq2:Fx.okB q with
     |true=>
       simp only[rs];refine hK _ _ ⟨?_,Below.refl _ _⟩;rw[hres,Fx.ans,hq2];rfl
     |false=>
       simp only[rs];refine hK _ _ ⟨?_,Below.refl _ _⟩;rw[hres,Fx.ans,hq2];rfl
     cases neg with
    |true=>
      simp only[rs];rw[aB (by omega) (by omega)];refine hJ4 _ _ fun _=>?_;exact h6 (-m) rfl
    |false=>
      simp only[rs];refine hJ4 _ _ fun _=>?_;exact h6 m rfl
    cases hmo:Fx.more (part.drop 4) neg with
   |true=>
     simp only[rs];rw[aB (by omega) (by omega)];refine hJ3 _ _ fun _=>?_;exact h5 (n+1) (by omega) (by omega) (by rw[hmo];rfl)
   |false=>
     simp only[rs];refine hJ3 _ _ fun _=>?_;exact h5 n (by omega) (by omega) (by rw[hmo];simp)
   have h1:∀rest:List UInt8,rest=part.drop 4→fV (.bool neg) (.int .i64 n) (.string ⟨rest.toArray⟩) w K:=by
    intro rest hr;rw[←hr] at afterMore;have hrl:rest.length≤40:=by rw[hr,Yv];omega
    simp only[fV,rs,iN,dx,gtx,etx];cases rest with
   |nil=>
     simp only[ne_eq,not_true_eq_false,Yi,rs,g_un];refine join fun J2 hJ2=>?_;refine hJ2 _ _ fun _=>?_;exact afterMore false rfl
   |cons c t=>
     have hix:(c::t)[(0:Int).toNat]?=some c:=rfl;simp only[ne_eq,reduceCtorEq,Yz,Yj,rs,s_ix Ym (show (0:Int)≤0 by omega) hix];refine join fun J2 hJ2=>?_;by_cases h5:(53:Int)≤(c.toNat:Int)
     ·simp only[h5,Yj,rs];have h5':decide (53≤c.toNat)=true:=by simp;omega
      cases neg with
     |false=>
       simp only[rs];refine hJ2 _ _ fun _=>?_;exact afterMore true (by rw[Fx.more,h5'];rfl)
     |true=>
       simp only[rs,s_ix Ym (show (0:Int)≤0 by omega) hix];refine loop (fun vs w'=>∃j:Nat,j≤t.length∧vs=[.bool (decide (53 < c.toNat)||(t.take j).any (fun c=>decide (48 < c.toNat))),.int .i64 ((j:Int)+1)]∧w=w') (fun vs _=>t.length+1 - n1 vs) ⟨0,by omega,by simp;omega,rfl⟩ ?_;rintro vs w' ⟨j,hj,rfl,rfl⟩ _;simp only[mU,gd,bF Ym,rs,iN,dx,gfx,efx];have hlc:((c::t).length:Int)=(t.length:Int)+1:=by simp
       have hjx:(c::t)[((j:Int)+1).toNat]?=t[j]?:=by rw[show ((j:Int)+1).toNat=j+1 by omega];rfl
       rw[hlc];by_cases hjt:j < t.length
       ·have hjt':(j:Int)+1 < (t.length:Int)+1:=by omega
        have hjx2:(c::t)[((j:Int)+1).toNat]?=some t[j]:=by rw[hjx];exact YB hjt
        have htk:(t.take (j+1)).any (fun c=>decide (48 < c.toNat))=((t.take j).any (fun c=>decide (48 < c.toNat))||decide (48 < t[j].toNat)):=by
         rw[YL hjt,List.any_append];simp
        simp only[hjt',Yj,rs];cases hb:(decide (53 < c.toNat)||(t.take j).any (fun c=>decide (48 < c.toNat))) with
       |true=>
         simp only[rs,g_un];rw[aB (by omega) (by omega)];refine bO ⟨j+1,by omega,?_,rfl⟩ (by simp[n1,RowKit.intOf];omega);rw[htk,←Bool.or_assoc,hb];rfl
       |false=>
         simp only[rs,s_ix Ym (show (0:Int)≤(j:Int)+1 by omega) hjx2];rw[aB (by omega) (by omega)];refine bO ⟨j+1,by omega,?_,rfl⟩ (by simp[n1,RowKit.intOf];omega);rw[htk,←Bool.or_assoc,hb,ZN];have:decide ((48:Int) < (t[j].toNat:Int))=decide (48 < t[j].toNat):=by rw[decide_eq_decide];omega
         rw[this];simp
       ·have hjt':¬(j:Int)+1 < (t.length:Int)+1:=by omega
        simp only[hjt',Yi,rs];refine hJ2 _ _ fun _=>?_;refine afterMore _ ?_;rw[Fx.more,h5',YO (by omega)];rfl
     ·simp only[h5,Yi,rs,g_un];have h5':decide (53≤c.toNat)=false:=by simp;omega
      refine hJ2 _ _ fun _=>?_;exact afterMore false (by rw[Fx.more,h5'];rfl)
   by_cases h4:(4:Int) < (part.length:Int)
   ·simp only[h4,Yj,rs];rw[CA Ym (by omega) (by omega)];refine hJ0 _ _ fun _=>?_;exact h1 (part.drop 4) rfl
   ·simp only[h4,Yi,rs];refine hJ0 _ _ fun _=>?_;exact h1 [] (YP (by omega)).symm
 ·have ho':Fx.form s=false:=by simpa using ho
  rw[ho'];simp only[rs];exact hK _ _ ⟨by rw[Fx.read,Yg ho],Below.refl _ _⟩
end
section
open Eng Go.RowKit
theorem MF (s:List UInt8):Fx.minus s=([45]:List UInt8).isPrefixOf s∧Fx.body s=(if ([45]:List UInt8).isPrefixOf s||([43]:List UInt8).isPrefixOf s then s.drop 1 else s)∧(([45]:List UInt8).isPrefixOf s||([43]:List UInt8).isPrefixOf s→1≤s.length):=by
 cases s with
|nil=>exact⟨rfl,rfl,fun h=>(by cases h)⟩
|cons c t=>
  have e1:([45]:List UInt8).isPrefixOf (c::t)=decide (c=45):=by
   simp only[List.isPrefixOf,ZE];by_cases h:c=45
   ·subst h;rfl
   ·rw[Yl h];simp;exact fun e=>h e.symm
  have e2:([43]:List UInt8).isPrefixOf (c::t)=decide (c=43):=by
   simp only[List.isPrefixOf,ZE];by_cases h:c=43
   ·subst h;rfl
   ·rw[Yl h];simp;exact fun e=>h e.symm
  rw[e1,e2];refine⟨rfl,?_,fun _=>by simp⟩;rw[Fx.body];by_cases h1:c=45<;>by_cases h2:c=43<;>simp[h1,h2]
theorem wH {w0 w:World}{L:List Ent}(h:Own w0 w L)(i:Nat){b:Nat}{s:ByteArray}{p:Nat}(hi:L[i]?=some (.obj b (.stringIter s p))):w.iterPos b=p:=by
 have:w.heap[b]?=some (.stringIter s p):=h.at_ i hi;simp[World.iterPos,this]
theorem QV (w0 w:World)(b1 b2:Nat)(m:Int)(neg:Bool)(h0:0≤m)(h1:m≤1152921504606846976)(h:Own w0 w [.cells b2 [.int .i64 0] 30,.cells b1 [.int .i64 m] 2])(K:Ending→World→Prop)
  (hk:∀w',Below w0.heap.size w0 w'→K (.returned (pair (Fx.ans (if neg then -m else m)))) w') :
  AW (.pointer (some ⟨b1,0,none⟩)) (.pointer (some ⟨b2,0,none⟩)) (.bool neg) w K:=by
 rw[AW];refine join fun J hJ=>?_;have fin:∀(q:Int) (w1:World),q=(if neg then -m else m)→Own w0 w1 [.cells b2 [.int .i64 0] 30,.cells b1 [.int .i64 q] 2]→J [] w1:=by
  intro q w1 hq ho;refine hJ _ _ fun _=>?_;rw[FU];unfold iN;rw[bE (show dX prog 2=true by kernel_rfl) (ho.cell 1 rfl 0 rfl)];refine cI (fun b=>.slice (some ⟨b,0,none⟩) 1 1) [.int .i64 q] 2 (fun _=>by kernel_rfl) ho fun b3 w3 h3=>?_;refine Gg (MT _ [q] w3 (h3.sl 0 rfl 1 1 1 rfl) (by simp) _ (fun hok=>?_) (fun hbad=>?_)) (fun _ _ h=>h)
  ·have hok':Fx.okB q=true:=by simpa using hok
   simp only[Cont];rw[bE (show dX prog 2=true by kernel_rfl) (h3.cell 2 rfl 0 rfl)];refine aW 2 h3 rfl (by kernel_rfl) rfl (by simp) fun w4 h4=>?_;refine aW 1 h4 rfl (by kernel_rfl) rfl (by simp) fun w5 h5=>?_;refine KQ 2 1 h5 rfl rfl K (fun w' hb=>?_);have:=hk w' hb;rw[←hq,Fx.ans,Yh hok'] at this;exact this
  ·have hbad':Fx.okB q=false:=by simpa using hbad
   refine TT h3.tail K (fun w' hb=>?_);have:=hk w' hb;rw[←hq,Fx.ans,hbad'] at this;exact this
 cases neg with
|true=>
  simp only[rs,bE (show dX prog 2=true by kernel_rfl) (h.cell 1 rfl 0 rfl)];rw[aB (by omega) (by omega)];refine aW 1 h rfl (by kernel_rfl) rfl (by simp) fun w4 h4=>?_;exact AtX.mk rfl (fin (-m) w4 rfl h4)
|false=>
  simp only[rs];exact AtX.mk rfl (fin m w rfl h)
theorem Qw (s:List UInt8)(w:World)(hs:s.length≤4611686018427387904):Ret prog 124 #[.string ⟨s.toArray⟩] w (fun v w'=>v=pair (Fx.read s)∧Below w.heap.size w w'):=by
 refine aO fun K hK=>Ku ?_;unfold Fb iN dx efx;refine cI (fun b=>.pointer (some ⟨b,0,none⟩)) [.int .i64 0] 2 (fun _=>by kernel_rfl) (Own.start w) fun b1 w1 h1=>?_;refine cI (fun b=>.pointer (some ⟨b,0,none⟩)) [.int .i64 0] 30 (fun _=>by kernel_rfl) h1 fun b2 w2 h2=>?_;simp only[bF Ym,rs];have bad3:Fx.form s=false→∀w',Below w.heap.size w w'→K (.returned (.tuple #[.int .i64 0,.int .i64 3])) w':=by
  intro hf w' hb;exact hK _ _ ⟨by rw[Fx.read,hf];rfl,hb⟩
 by_cases h40:(40:Int) < (s.length:Int)
 ·simp only[h40,Yj,rs];refine aW 1 h2 rfl (by kernel_rfl) rfl (by simp) fun w4 h4=>?_;refine aW 0 h4 rfl (by kernel_rfl) rfl (by simp) fun w5 h5=>?_;refine KQ 1 0 h5 rfl rfl K (bad3 ?_);rw[Fx.form,Yl (by omega),Y8,Y8,Y8]
 ·simp only[h40,Yi,rs];obtain⟨hmin,hbody,hpos⟩:=MF s;refine dS (wX s [45] w2) ?_;rintro v w3 ⟨rfl,rfl⟩;have hlen:(Fx.body s).length≤s.length:=by
   rw[hbody];split
   ·rw[Yv];omega
   ·omega
  have main:AM (.string ⟨(Fx.body s).toArray⟩) (.pointer (some ⟨b1,0,none⟩)) (.pointer (some ⟨b2,0,none⟩)) (.bool (Fx.minus s)) w2 K:=by
   rw[AM];unfold iN efx;have hcut:Ret prog 175 #[.string ⟨(Fx.body s).toArray⟩,.string ⟨#[46]⟩] w2 (fun v w'=>(∃b,v=.tuple #[.string ⟨(Fx.whole (Fx.body s)).toArray⟩,.string ⟨(Fx.part (Fx.body s)).toArray⟩,.bool b])∧Below w2.heap.size w2 w'):=U9 (Fx.body s) 46 w2 (by omega);refine dS hcut ?_;rintro v w3 ⟨⟨fnd,rfl⟩,b3⟩;have hform:Fx.form s=((Fx.whole (Fx.body s)).all Fx.cT&&(Fx.part (Fx.body s)).all Fx.cT&&decide (0 < (Fx.whole (Fx.body s)).length+(Fx.part (Fx.body s)).length)):=by
    rw[Fx.form,Yk (show s.length≤40 by omega),Y2]
   have hread:Fx.form s=true→Fx.read s=if Fx.val 0 (Fx.whole (Fx.body s))>1073741824 then (0,2) else Fx.ans (if Fx.minus s then - Fx.mag s else Fx.mag s):=fun h=>by rw[Fx.read,Yh h]
   have hmag:Fx.mag s=Fx.val (Fx.val 0 (Fx.whole (Fx.body s))) (Fx.four (Fx.part (Fx.body s)))+(if Fx.more ((Fx.part (Fx.body s)).drop 4) (Fx.minus s) then 1 else 0):=rfl;have hwl:(Fx.whole (Fx.body s)).length≤(Fx.body s).length:=by
    have:=(List.takeWhile_sublist (fun c=>c != 46) (l:=Fx.body s)).length_le;exact this
   have hpl:(Fx.part (Fx.body s)).length≤(Fx.body s).length:=by
    have:=(abJ (fun c=>c != 46) (l:=Fx.body s)).length_le;rw[Fx.part,Yv];omega
   generalize Fx.whole (Fx.body s)=wh at *;generalize Fx.part (Fx.body s)=part at *;simp only[ex];rw[kW (by omega)];have h3:=h2.grow b3;simp only[rs];have good:Fx.form s=true→∀w4,Own w w4 [.cells b2 [.int .i64 0] 30,.cells b1 [.int .i64 0] 2] →
     DoX prog (DB 9 (.string ⟨wh.toArray⟩)) w4 (aD (.pointer (some ⟨b1,0,none⟩)) (.pointer (some ⟨b2,0,none⟩)) K) fun t46 ww=>
     LoopX [] ww (fun vs2 w N2=>∀_:Sg,Br (.pointer (some ⟨b1,0,none⟩)) (.pointer (some ⟨b2,0,none⟩)) (.bool (Fx.minus s)) (.string ⟨part.toArray⟩) t46 w N2 K):=by
    intro hf w4 h4;have hread2:=hread hf;have hdw:wh.all Fx.cT=true∧part.all Fx.cT=true:=by
     rw[hform] at hf;simp only[Ys] at hf;exact hf.1
    refine MK Ym h4 fun b5 w5 h5=>?_;refine loop (fun vs w'=>∃k:Nat,k≤wh.length∧vs=[]∧Fx.val 0 (wh.take k)≤1073741824∧Own w w' [.obj b5 (.stringIter ⟨wh.toArray⟩ k),.cells b2 [.int .i64 0] 30,.cells b1 [.int .i64 (Fx.val 0 (wh.take k))] 2])
     (fun vs w'=>wh.length - w'.iterPos b5) ⟨0,by omega,rfl,by simp[Fx.val],h5⟩ ?_
    rintro vs w6 ⟨k,hk,rfl,hv,ho⟩ _;have hip:=wH ho 0 rfl;rw[Br];unfold iN;have hv0:=Fx.GV (wh.take k) 0 (by
     rw[YI];exact fun x hx=>YI.1 hdw.1 x (Zm hx)) (by omega)
    by_cases hlt:k < wh.length
    ·have hdg:=Fx.iA (YI.1 hdw.1 wh[k] (YH hlt));refine R7 0 ho rfl (YB hlt) (by omega) fun w7 h7=>?_;simp only[ex,rs,bE (show dX prog 2=true by kernel_rfl) (h7.cell 2 rfl 0 rfl)];rw[Is (by omega) (by omega),F8 (show (Tryz.prog.underlying 21).isSome=true by kernel_rfl) Z5];simp only[rs];rw[aB (n:=((wh[k].toNat:Nat):Int) - 48) (by omega) (by omega),aB (n:=10*_) (by omega) (by omega),aB (by omega) (by omega)];refine aW 2 h7 rfl (by kernel_rfl) rfl (by simp) fun w8 h8=>?_;rw[bE (show dX prog 2=true by kernel_rfl) (h8.cell 2 rfl 0 rfl)];simp only[rs];have hvt:=Fx.Nl 0 wh k hlt;by_cases hbig:(1073741824:Int) < 10*Fx.val 0 (wh.take k)+((wh[k].toNat:Int) - 48)
     ·simp only[hbig,Yj,rs];refine aW 2 h8 rfl (by kernel_rfl) rfl (by simp) fun w9 h9=>?_;refine aW 1 h9 rfl (by kernel_rfl) rfl (by simp) fun wa ha=>?_;refine KQ 2 1 ha rfl rfl K (fun w' hb=>hK _ _ ⟨?_,hb⟩);have hge:=Fx.GV (wh.drop (k+1)) (Fx.val 0 (wh.take (k+1))) (by
       rw[YI];exact fun x hx=>YI.1 hdw.1 x (Zi hx)) (by omega)
      rw[←Fx.B5,Zc] at hge;rw[hread2,Yh (by omega)]
     ·simp only[hbig,Yi,rs];refine AtX.mk rfl (bO ⟨k+1,by omega,rfl,by omega,?_⟩ ?_)
      ·rw[hvt];exact h8
      ·show wh.length - w8.iterPos b5 < wh.length - w6.iterPos b5;rw[hip,wH h8 0 rfl];omega
    ·rw[E9 0 ho rfl (by omega)];simp only[ex,rs];have hke:wh.take k=wh:=YO (by omega);rw[hke] at ho hv hv0;rw[kW (b:=[48,48,48,48,48]) (by simp;omega),RN Ym (by omega) (by simp;omega)];rw[show (4:Int).toNat=4 from rfl,Fx.Qk];rw[Yg (by omega)] at hread2;have h4d:=Fx.GA hdw.2;have h4l:=Fx.wZ part;have hval4:=Fx.val4 (Fx.four part) (Fx.val 0 wh) h4l h4d;refine MK Ym (ho.tail) fun b7 w7 h7=>?_;generalize Fx.val 0 wh=V at *;generalize hfr:Fx.four part=fr at *;refine loop (fun vs w'=>∃k:Nat,k≤fr.length∧vs=[]∧Own w w' [.obj b7 (.stringIter ⟨fr.toArray⟩ k),.cells b2 [.int .i64 0] 30,.cells b1 [.int .i64 (Fx.val V (fr.take k))] 2])
      (fun vs w'=>fr.length - w'.iterPos b7) ⟨0,by omega,rfl,h7⟩ ?_
     rintro vs w8 ⟨j,hj,rfl,ho2⟩ _;have hip2:=wH ho2 0 rfl;rw[FL];unfold iN etx efx;by_cases hjt:j < fr.length
     ·have hdg:=Fx.iA (YI.1 h4d fr[j] (YH hjt));have hvj0:=Fx.GV (fr.take j) V (by
       rw[YI];exact fun x hx=>YI.1 h4d x (Zm hx)) hv0
      have hvj1:=Fx.GV (fr.drop j) (Fx.val V (fr.take j)) (by
       rw[YI];exact fun x hx=>YI.1 h4d x (Zi hx)) (by omega)
      rw[←Fx.B5,Zc] at hvj1;refine R7 0 ho2 rfl (YB hjt) (by omega) fun w9 h9=>?_;simp only[ex,rs,bE (show dX prog 2=true by kernel_rfl) (h9.cell 2 rfl 0 rfl)];rw[Is (by omega) (by omega),F8 (show (Tryz.prog.underlying 21).isSome=true by kernel_rfl) Z5];simp only[rs];rw[aB (n:=((fr[j].toNat:Nat):Int) - 48) (by omega) (by omega),aB (n:=10*_) (by omega) (by omega),aB (by omega) (by omega)];refine aW 2 h9 rfl (by kernel_rfl) rfl (by simp) fun wa ha=>?_;refine AtX.mk rfl (bO ⟨j+1,by omega,rfl,?_⟩ ?_)
      ·rw[Fx.Nl V fr j hjt];exact ha
      ·show fr.length - wa.iterPos b7 < fr.length - w8.iterPos b7;rw[hip2,wH ha 0 rfl];omega
     ·rw[E9 0 ho2 rfl (by omega)];simp only[ex,rs];have hje:fr.take j=fr:=YO (by omega);rw[hje] at ho2;rw[CA Ym (by omega) (by simp;omega),show (4:Int).toNat=4 from rfl];have htr:Ret prog 177 #[.string ⟨((part++[48,48,48,48,48]).drop 4).toArray⟩,.string ⟨#[48]⟩] w8 (fun v w'=>v=.string ⟨(Fx.tr (part.drop 4)).toArray⟩∧w8=w'):=by
       rw[←Fx.Vw];exact D1 _ 48 (by decide) w8 (by rw[Yv];simp;omega)
      refine dS htr ?_;rintro v w9 ⟨rfl,rfl⟩;have hmr:=Fx.UJ (part.drop 4) (Fx.minus s) (by
       rw[YI];exact fun x hx=>YI.1 hdw.2 x (Zi hx))
      generalize Fx.tr (part.drop 4)=r at *;generalize Fx.more (part.drop 4) (Fx.minus s)=more at *;refine join fun J hJ=>?_;have fin:∀(m:Int) (wb:World),m=Fx.mag s→Own w wb [.obj b7 (.stringIter ⟨fr.toArray⟩ j),.cells b2 [.int .i64 0] 30,.cells b1 [.int .i64 m] 2]→J [] wb:=by
       intro m wb hm hob;refine hJ _ _ fun _=>?_;have hm01:m=Fx.val V fr∨m=Fx.val V fr+1:=by
        rw[hm,hmag];cases more<;>simp
       refine QV w wb b1 b2 m (Fx.minus s) (by omega) (by omega) hob.tail K (fun w' hb=>hK _ _ ⟨?_,hb⟩);rw[hread2,hm]
      have wayT:more=true→DoX prog (aA 2 (.pointer (some ⟨b1,0,none⟩))) w8 (aD (.pointer (some ⟨b1,0,none⟩)) (.pointer (some ⟨b2,0,none⟩)) K) fun t88 ww=>
        DoX prog (mBin .add 2 t88 (.int .i64 1)) ww (aD (.pointer (some ⟨b1,0,none⟩)) (.pointer (some ⟨b2,0,none⟩)) K) fun t89 ww=>
        DoX prog (aC 2 (.pointer (some ⟨b1,0,none⟩)) t89) ww (aD (.pointer (some ⟨b1,0,none⟩)) (.pointer (some ⟨b2,0,none⟩)) K) fun _ ww=>
        AtX [{ target:=.fn (.func 174) #[],args:=#[.pointer (some ⟨b1,0,none⟩),.pointer (some ⟨b2,0,none⟩)] }] [{ target:=.fn (.func 174) #[],args:=#[.pointer (some ⟨b1,0,none⟩),.pointer (some ⟨b2,0,none⟩)] }] (J [] ww):=by
       intro hmo;rw[bE (show dX prog 2=true by kernel_rfl) (ho2.cell 2 rfl 0 rfl)];simp only[rs];rw[aB (by omega) (by omega)];refine aW 2 ho2 rfl (by kernel_rfl) rfl (by simp) fun wb hb=>?_;exact AtX.mk rfl (fin (Fx.val V fr+1) wb (by rw[hmag,hmo];rfl) hb)
      have wayF:more=false→J [] w8:=by
       intro hmo;exact fin (Fx.val V fr) w8 (by rw[hmag,hmo];simp) ho2
      cases hn:Fx.minus s with
     |true=>
       rw[hn] at hmr;simp only[if_true] at hmr;simp only[rs];rw[←hmr];cases more with
      |true=>simp only[rs,g_un];exact wayT rfl
      |false=>simp only[rs,g_un];exact AtX.mk rfl (wayF rfl)
     |false=>
       rw[hn] at hmr;simp only[ZJ,if_false] at hmr;simp only[rs];rw[←hmr];cases more with
      |true=>simp only[rs,g_un];exact wayT rfl
      |false=>simp only[rs,g_un];exact AtX.mk rfl (wayF rfl)
   have bad:Fx.form s=false→∀w4,Own w w4 [.cells b2 [.int .i64 0] 30,.cells b1 [.int .i64 0] 2] →
     DoX prog (aC 2 (.pointer (some ⟨b1,0,none⟩)) (.int .i64 0)) w4 (aD (.pointer (some ⟨b1,0,none⟩)) (.pointer (some ⟨b2,0,none⟩)) K) fun _ ww=>
     DoX prog (aC 30 (.pointer (some ⟨b2,0,none⟩)) (.int .i64 3)) ww (aD (.pointer (some ⟨b1,0,none⟩)) (.pointer (some ⟨b2,0,none⟩)) K) fun _ ww=>
     kR prog [.cell (.pointer (some ⟨b1,0,none⟩)) 2,.cell (.pointer (some ⟨b2,0,none⟩)) 30] K [{ target:=.fn (.func 174) #[],args:=#[.pointer (some ⟨b1,0,none⟩),.pointer (some ⟨b2,0,none⟩)] }] .returning ww:=by
    intro hf w4 h4;refine aW 1 h4 rfl (by kernel_rfl) rfl (by simp) fun w5 h5=>?_;refine aW 0 h5 rfl (by kernel_rfl) rfl (by simp) fun w6 h6=>?_;exact KQ 1 0 h6 rfl rfl K (bad3 hf)
   by_cases hemp:wh++part=[]
   ·simp only[IY,hemp,Yj,rs,g_un];refine bad ?_ _ h3;rw[hform];have:wh=[]∧part=[]:=by simpa using hemp
    rw[this.1,this.2];rfl
   ·simp only[IY,hemp,Yi,rs,g_un];have hne:0 < wh.length+part.length:=by
     rw[←Yp];exact ZY.2 hemp
    refine dS (G3 wh w3 (by omega)) ?_;rintro v w4 ⟨rfl,b4⟩;have h4:=h3.grow b4;cases hd1:wh.all Fx.cT with
   |false=>
     simp only[rs,g_un];refine bad ?_ _ h4;rw[hform,hd1];rfl
   |true=>
     simp only[rs,g_un];refine dS (G3 part w4 (by omega)) ?_;rintro v w5 ⟨rfl,b5⟩;have h5:=h4.grow b5;cases hd2:part.all Fx.cT with
    |false=>
      simp only[rs,g_un];refine bad ?_ _ h5;rw[hform,hd1,hd2];rfl
    |true=>
      simp only[rs,g_un];refine good ?_ _ h5;rw[hform,hd1,hd2,Yk hne];rfl
  refine join fun J hJ=>?_;have goJ:∀l:List UInt8,l=Fx.body s→J [.string ⟨l.toArray⟩] w2:=by
   intro l hl;refine hJ _ _ fun _=>?_;rw[hl,←hmin];exact main
  cases hm45:([45]:List UInt8).isPrefixOf s with
 |true=>
   rw[hm45,abB,Yh rfl] at hbody;simp only[rs,g_un];rw[CA Ym (by omega) (by have:=hpos (by rw[hm45];rfl);omega)];exact AtX.mk rfl (goJ (s.drop 1) hbody.symm)
 |false=>
   simp only[rs];refine dS (wX s [43] w2) ?_;rintro v w4 ⟨rfl,rfl⟩;rw[hm45,ZN] at hbody;cases hm43:([43]:List UInt8).isPrefixOf s with
  |true=>
    rw[hm43,Yh rfl] at hbody;simp only[rs];rw[CA Ym (by omega) (by have:=hpos (by rw[hm43,Bool.or_true]);omega)];exact AtX.mk rfl (goJ (s.drop 1) hbody.symm)
  |false=>
    rw[hm43] at hbody;simp only[rs];exact AtX.mk rfl (goJ s (by rw[hbody];simp))
end
end Go.Proofs.YtkejpieaafeblaaGreatDoor


namespace Go.Proofs.YtkejpieaafeblaaGreatDoor
section
open Eng Go.RowKit
theorem dO {P:Program}{f:Nat}{args:Array Value}{w0 w:World}{L:List Ent}{PK:PKT}{K:VWP}{x y:Value}(h:Ret P f args w (fun v w'=>v=x∧Below w.heap.size w w'))(hx:x=y)(ho:Own w0 w L)
  (k:∀w',Own w0 w' L→K y w'):CallX P f args w PK K:=by
 refine dS h ?_;rintro v w' ⟨rfl,hb⟩;rw[hx];exact k _ (ho.grow hb)
end
section
namespace Eng
open Go.RowKit
def sel (c:Bool)(x:Value):Value:=bc c x undef
theorem XC {x:Value}:sel true x=x:=rfl
theorem XK {x:Value}:sel false x=undef:=rfl
section
variable {P:Program}{w:World}{PK:PKT}{K:VWP}
theorem VV {v x:Value}{want:Bool}:GDo v want (fun E=>E x w) w K=K (sel (kE v want) x) w:=by
 refine propext ⟨fun h=>?_,fun h=>⟨?_⟩⟩
 ·have:=h.out;cases hw:kE v want<;>rw[hw] at this<;>exact this
 ·cases hw:kE v want<;>rw[hw] at h<;>exact h
theorem kS {v v':Value}{want c:Bool}{E E':(VWP)→Prop}(hv:v=v')(hc:kE v' want=c)(h:c=true→∀K0,E K0=E' K0):GDo v want E w K=GDo v' want E' w K:=by
 subst hv;refine propext ⟨fun x=>⟨?_⟩,fun x=>⟨?_⟩⟩
 ·have:=x.out;subst hc;cases hw:kE v want with
 |false=>rw[hw] at this;exact this
 |true=>rw[hw,aK] at this;rw[aK,←h hw];exact this
 ·have:=x.out;subst hc;cases hw:kE v want with
 |false=>rw[hw] at this;exact this
 |true=>rw[hw,aK] at this;rw[aK,h hw];exact this
theorem VA {b:Bool}:kE (.bool b) true=b:=by cases b<;>rfl
theorem U7 {b:Bool}:kE (.bool b) false=!b:=by cases b<;>rfl
theorem Tj {c y:Bool}:kE (sel c (.bool y)) true=(c&&y):=by cases c<;>cases y<;>rfl
theorem Tf {c y:Bool}:kE (sel c (.bool y)) false=(c&&!y):=by cases c<;>cases y<;>rfl
theorem Wb {b:Bool}:(true&&b)=b:=rfl
theorem V8 {b:Bool}:(b&&true)=b:=by cases b<;>rfl
theorem S8 {b y:Bool}:DoX P (aF (.bool b) (sel b (.bool y)) (.bool false)) w PK K=K (.bool (b&&y)) w:=by
 rw[JJ];cases b<;>rfl
theorem Vp {b y:Bool}:DoX P (aF (.bool b) (.bool true) (sel (!b) (.bool y))) w PK K=K (.bool (b||y)) w:=by
 rw[JJ];cases b<;>rfl
end
def gs:=And.intro @VV (And.intro @VA (And.intro @U7 (And.intro @S8 (And.intro @Vp (And.intro @XC (And.intro @XK (And.intro @Tj (And.intro @Tf (And.intro @Wb @V8)))))))))
end Eng
end
section
open Eng Go.RowKit
 attribute [local congr] kS
theorem Uw {T:TypeId}{xo yo:Operand}{n:Nat}{w:World}{PK:PKT}{K:VWP}:DoX prog (mEq .eql T xo yo (.int .i64 (n:Int)) (.int .i64 0)) w PK K=K (.bool (decide (n=0))) w:=by
 rw[Ri];congr 2;simp
theorem MB {T:TypeId}{xo yo:Operand}{s:List UInt8}{w:World}{PK:PKT}{K:VWP}:DoX prog (mEq .eql T xo yo (.string ⟨s.toArray⟩) (.string ⟨#[]⟩)) w PK K=K (.bool (decide (s=[]))) w:=IY (b:=[])
theorem VG {α:Type}(l:List α):decide (((l.length:Nat):Int)=0)=decide (l=[]):=by cases l<;>simp;omega
theorem Wj {α:Type}(l:List α):decide (((l.length:Nat):Int)=0)=decide (l.length=0):=by rw[decide_eq_decide];omega
theorem Ra (o:Ob)(vk vc:Value)(cs:List Value)(n g s l:Bool)(w:World)(h:ObAt (InW w) w o vk vc cs):Ret prog 203 #[obV o vk vc,.bool n,.bool g,.bool s,.bool l] w
  (fun v w'=>v=.bool ((n||decide (o.n=0))&&(g||decide (o.g=0))&&(s||decide (o.s=[]))&&(l||(decide (o.keys=[])&&decide (o.kids.length=0))))∧Below w.heap.size w w'):=by
 refine aO fun K hK=>yM ?_;unfold rN iN dx gtx gfx etx efx;refine cY o h.keys.one h.kids.one (Own.start w) fun b w1 ho=>?_;have hk:=h.own ho;have lk:∀{PK:PKT} {K:VWP},DoX prog (mB .len #[22] 3 #[false] #[vk]) w1 PK K=K (.int .i64 (o.keys.length:Int)) w1:=bY Yn hk.keys.1;have lc:∀{PK:PKT} {K:VWP},DoX prog (mB .len #[23] 3 #[false] #[vc]) w1 PK K=K (.int .i64 (o.kids.length:Int)) w1:=bY Yt hk.kids.1;simp +contextual only[rs,gs,vI,PB,Cd,eC,dR,ob_n ho 0 rfl,ob_g ho 0 rfl,ob_s ho 0 rfl,bV ho 0 rfl,bJ ho 0 rfl,lk,lc,Uw,MB];refine hK _ _ ⟨?_,ho.done⟩;rw[VG o.keys,Wj o.kids]
theorem NK (s:List UInt8)(w:World)(hs:s.length≤9223372036854775807):Ret prog 204 #[.string ⟨s.toArray⟩] w (fun v w'=>v=.bool (Vl.name s)∧w=w'):=by
 refine aO fun K hK=>zN ?_;unfold iF iN;refine loop (fun vs w'=>∃(i:Nat),vs=[.int .i64 i]∧i≤s.length∧(0:UInt8) ∉ s.take i∧w=w') (fun vs _=>s.length - n0 vs) ⟨0,rfl,by omega,by simp,rfl⟩ ?_;rintro vs w2 ⟨i,rfl,hi,hm,rfl⟩ _;simp only[mO,gd,bF Ym,rs,iN,dx];by_cases hlt:(i:Int) < (s.length:Int)
 ·have hi':i < s.length:=by omega
  have hx:∀{PK:PKT} {K:VWP},DoX prog (mIx 9 (.string ⟨s.toArray⟩) (.int .i64 (i:Int))) w PK K=K (.int .u8 (s[i].toNat:Int)) w:=s_ix (c:=s[i]) Ym (Zp i) (by simp[hi']);simp only[hlt,Yj,rs,hx];by_cases h0:s[i]=0
  ·have e:(s[i].toNat:Int)=0:=by rw[h0];rfl
   simp only[e,Yj,i_t];have hm0:(0:UInt8)∈s:=h0▸YH hi';exact hK _ _ ⟨by simp[Vl.name,hm0],rfl⟩
  ·have e:¬(s[i].toNat:Int)=0:=fun h=>h0 (ZK.1 (by have:(0:UInt8).toNat=0:=rfl;omega));simp only[e,Yi,i_f];rw[aB (by omega) (by omega)];refine bO ⟨i+1,rfl,by omega,?_,rfl⟩ (by simp[n0,RowKit.intOf];omega);rw[List.take_add_one,YB hi'];simp only[Option.toList,YZ,Zs,not_or];exact⟨hm,fun e=>h0 e.symm⟩
 ·rw[YO (by omega)] at hm;simp only[hlt,Yi,i_f];refine hK _ _ ⟨?_,rfl⟩;rw[Vl.name,Yk hm,ZE]
  congr 1
  rw[decide_eq_decide];omega
theorem Me (o:Ob)(v:Value)(w:World)(h:OV (InW w) w v o):Ret prog 153 #[v] w (fun v w'=>v=.bool (Vl.eA o)∧Below w.heap.size w w'):=by
 obtain⟨vk,vc,cs,rfl,ha⟩:=h.open;refine aO fun K hK=>Au ?_;unfold iL iN dx cx;refine cY o ha.keys.one ha.kids.one (Own.start w) fun b w1 ho=>?_;have hk:=ha.own ho;have hk1:ObAt (InW w1) w1 o vk vc cs:=⟨⟨hk.keys.1,(fun p l c e hn=>Y4 (hk.keys.2.1 p l c e hn) ho.size),hk.keys.2.2⟩,⟨hk.kids.1,(fun p l c e hn=>Y4 (hk.kids.2.1 p l c e hn) ho.size),hk.kids.2.2⟩,OVs.mono (fun _ hb=>Y4 hb ho.size) _ _ hk.all⟩;have zero:∀(n g s l:Bool) {K':VWP},(∀w',Own w w' [obE b o vk vc]→K' (.bool ((n||decide (o.n=0))&&(g||decide (o.g=0))&&(s||decide (o.s=[]))&&(l||(decide (o.keys=[])&&decide (o.kids.length=0))))) w') →
   CallX prog 203 #[obV o vk vc,.bool n,.bool g,.bool s,.bool l] w1 (pk K) K':=fun n g s l {K'} hk'=>dO (Ra o vk vc cs n g s l w1 hk1) rfl ho hk'
 rw[cN,ob_k ho 0 rfl];simp only[rs,ob_v ho 0 rfl];by_cases k0:o.k=0
 ·simp only[k0,Yj,i_t];refine zero _ _ _ _ fun w2 ho=>hK _ _ ⟨?_,ho.done⟩;simp[Vl.eA,Vl.used,k0,Zz]
 simp only[k0,Yi,i_f];refine join fun J hJ=>?_;by_cases k123:o.k=1∨o.k=2∨o.k=3
 ·have:J [.bool true] w1:=by
   refine hJ _ _ fun _=>?_;simp only[fL,gd,i_t,ob_v ho 0 rfl,iN,dx,cx];refine zero _ _ _ _ fun w2 ho=>hK _ _ ⟨?_,ho.done⟩;simp[Vl.eA,Vl.used,k0,k123,Zz]
  by_cases k1:o.k=1
  ·simp only[k1,Yj,i_t];exact this
  by_cases k2:o.k=2
  ·simp only[k2,Int.reduceEq,Yj,Yi,i_t,i_f];exact this
  have k3:o.k=3:=by omega
  simp only[k3,Int.reduceEq,Yj,Yi,i_t,i_f];exact this
 have k1:¬o.k=1:=fun h=>k123 (.inl h);have k2:¬o.k=2:=fun h=>k123 (.inr (.inl h));have k3:¬o.k=3:=fun h=>k123 (.inr (.inr h));simp only[k1,k2,k3,Yi,i_f];refine hJ _ _ fun _=>?_;clear hJ;simp only[fL,gd,i_f,rs,iN,dx,cx];refine join fun J hJ=>?_;by_cases k45:o.k=4∨o.k=5
 ·have:J [.bool true] w1:=by
   refine hJ _ _ fun _=>?_;simp only[fO,gd,i_t,ob_v ho 0 rfl,iN,dx,gtx,cx];refine zero _ _ _ _ fun w2 ho=>hK _ _ ⟨?_,ho.done⟩;simp[Vl.eA,Vl.used,k0,k1,k2,k3,k45,Zz]
  by_cases k4:o.k=4
  ·simp only[k4,Yj,i_t];exact this
  have k5:o.k=5:=by omega
  simp only[k5,Int.reduceEq,Yj,Yi,i_t,i_f];exact this
 have k4:¬o.k=4:=fun h=>k45 (.inl h);have k5:¬o.k=5:=fun h=>k45 (.inr h);simp only[k4,k5,Yi,i_f];refine hJ _ _ fun _=>?_;clear hJ;simp only[fO,gd,i_f,rs,ob_v ho 0 rfl,iN,dx,gtx,cx];by_cases k6:o.k=6
 ·simp only[k6,Yj,i_t];refine zero _ _ _ _ fun w2 ho=>?_;have lk:∀{PK:PKT} {K:VWP},DoX prog (mB .len #[22] 3 #[false] #[vk]) w2 PK K=K (.int .i64 (o.keys.length:Int)) w2:=bY Yn (ha.own ho).keys.1;simp +contextual only[rs,gs,eC,bV ho 0 rfl,lk,Uw];refine hK _ _ ⟨?_,ho.done⟩;rw[VG o.keys];simp[Vl.eA,Vl.used,k6,Zz]
 by_cases k7:o.k=7
 ·simp only[k7,Int.reduceEq,Yj,Yi,i_t,i_f];refine zero _ _ _ _ fun w2 ho=>hK _ _ ⟨?_,ho.done⟩;simp[Vl.eA,Vl.used,k7,Zz]
 by_cases k8:o.k=8
 ·simp only[k8,Int.reduceEq,Yj,Yi,i_t,i_f];refine zero _ _ _ _ fun w2 ho=>hK _ _ ⟨?_,ho.done⟩;simp[Vl.eA,Vl.used,k8,Zz]
 by_cases k9:o.k=9
 ·simp only[k9,Int.reduceEq,Yj,Yi,i_t,i_f];refine zero _ _ _ _ fun w2 ho=>hK _ _ ⟨?_,ho.done⟩;simp[Vl.eA,Vl.used,k9,Zz]
 simp only[k6,k7,k8,k9,Yi,i_f];refine hK _ _ ⟨?_,ho.done⟩;simp[Vl.eA,Vl.used,k0,k123,k45,k6,k7,k8,k9]
theorem Qb (o:Ob)(v:Value)(w:World)(h:OV (InW w) w v o):Ret prog 154 #[v] w (fun v w'=>v=.bool (Vl.fits o)∧Below w.heap.size w w'):=by
 obtain⟨vk,vc,cs,rfl,ha⟩:=h.open;refine aO fun K hK=>zM ?_;unfold qM iN dx gtx gfx;refine cY o ha.keys.one ha.kids.one (Own.start w) fun b w1 ho=>?_;simp only[cN,ob_k ho 0 rfl,rs];by_cases k1:o.k=1
 ·simp +contextual only[k1,Yj,i_t,vI,ob_n ho 0 rfl,rs,gs,Yj,Yi,nn_t,nn_f];refine hK _ _ ⟨?_,ho.done⟩;rw[Vl.fits,Yh k1];congr 1;rw[aaN];simp;omega
 by_cases k2:o.k=2
 ·simp +contextual only[k2,Int.reduceEq,Yj,Yi,i_t,i_f,vI,ob_n ho 0 rfl,rs,gs,Yj,Yi,nn_t,nn_f];refine hK _ _ ⟨?_,ho.done⟩;rw[Vl.fits,Yg k1,Yh k2,ZS]
 by_cases k3:o.k=3
 ·simp +contextual only[k3,Int.reduceEq,Yj,Yi,i_t,i_f,vI,ob_n ho 0 rfl,rs,gs,Yj,Yi,nn_t,nn_f];refine hK _ _ ⟨?_,ho.done⟩;rw[Vl.fits,Yg k1,Yg k2,Yh k3,ZS]
 by_cases k8:o.k=8
 ·simp +contextual only[k8,Int.reduceEq,Yj,Yi,i_t,i_f,vI,PB,ob_n ho 0 rfl,ob_g ho 0 rfl,rs,gs,Yj,Yi,nn_t,nn_f];refine hK _ _ ⟨?_,ho.done⟩;rw[Vl.fits,Yg k1,Yg k2,Yg k3,Yh k8,ZS,ZS,Zz,Zz]
 simp only[k1,k2,k3,k8,Yi,i_f];refine hK _ _ ⟨?_,ho.done⟩;rw[Vl.fits,Yg k1,Yg k2,Yg k3,Yg k8]
theorem Pr (k:Int)(w:World):Ret prog 155 #[.int .i64 k] w (fun v w'=>v=.int .i64 (Vl.long k:Nat)∧w=w'):=by
 refine aO fun K hK=>zL ?_;unfold qX iN dx;simp only[rs];by_cases k5:k=5
 ·simp only[k5,Yj,i_t];exact hK _ _ ⟨by rw[k5];rfl,rfl⟩
 by_cases k9:k=9
 ·simp only[k9,Int.reduceEq,Yj,Yi,i_t,i_f];exact hK _ _ ⟨by rw[k9];rfl,rfl⟩
 simp only[k5,k9,Yi,i_f];exact hK _ _ ⟨by rw[Vl.long,Yg k5,Yg k9];rfl,rfl⟩
end
section
namespace Eng
open Go.RowKit
theorem EE {c:Bool}{x:Value}:sel c (sel c x)=sel c x:=by cases c<;>rfl
theorem PE {v:Value}{want:Bool}{E:(VWP)→Prop}{w:World}{K:VWP}(h:kE v want=false):GDo v want E w K=K undef w:=by
 refine propext ⟨fun x=>?_,fun x=>⟨?_⟩⟩
 ·have:=x.out;rw[h] at this;exact this
 ·rw[h];exact x
theorem MJ:∀a b:List UInt8,(Op.bytesLess a b||a==b)=!(Op.bytesLess b a):=by
 intro a b;rw[bytesLess_eq,bytesLess_eq,aaN];simp only[ZB,Yx,beq_iff_eq,aaW,YK];constructor
 ·rintro (h|rfl)
  ·exact fun h'=>List.lt_asymm h h'
  ·exact List.lt_irrefl _
 ·intro h;by_cases h1:a < b
  ·exact .inl h1
  ·exact .inr (List.le_antisymm (List.not_lt.1 h) (List.not_lt.1 h1))
theorem DI {P:Program}{b y:Bool}{w:World}{PK:PKT}{K:VWP}:DoX P (aF (.bool (!b)) (.bool true) (sel b (.bool y))) w PK K=K (.bool (!b||y)) w:=by
 rw[JJ];cases b<;>rfl
theorem WT {q r:Bool}{A B:Prop}(h:q=r)(k:IfX (.bool r) A B):IfX (.bool q) A B:=by subst h;exact k
end Eng
end
section
open Eng Go.RowKit
 attribute [local congr] kS
theorem ObAt.in_ {w0 w:World}{L:List Ent}{o:Ob}{vk vc:Value}{cs:List Value}(h:ObAt (InW w0) w0 o vk vc cs)(ho:Own w0 w L):ObAt (InW w) w o vk vc cs:=by
 have hk:=h.own ho;exact⟨⟨hk.keys.1,(fun p l c e hn=>Y4 (hk.keys.2.1 p l c e hn) ho.size),hk.keys.2.2⟩,⟨hk.kids.1,(fun p l c e hn=>Y4 (hk.kids.2.1 p l c e hn) ho.size),hk.kids.2.2⟩,OVs.mono (fun _ hb=>Y4 hb ho.size) _ _ hk.all⟩
theorem mI {p:Nat→Bool}(n:Nat):(List.range (n+1)).all p=((List.range n).all p&&p n):=by
 rw[List.range_succ,aaM];simp
theorem Dt {p:Nat→Bool}{n m:Nat}(hp:p n=false)(hn:n < m):(List.range m).all p=false:=by
 rw[←Bool.not_eq_true];intro h;have:=YI.1 h n (Z3.2 hn);rw[hp] at this;cases this
theorem LW {A:Nat→Prop}{w:World}{vc:Value}{os:List Ob}{cs:List Value}(hs:Sl w vc 6 os.length cs)(hall:OVs A w cs os){i:Nat}(hi:i < os.length) :
  ∃b off,(∀{PK:PKT} {K:VWP},DoX prog (mIA 23 vc (.int .i64 (i:Int))) w PK K=K (.pointer (some ⟨b,off,none⟩)) w)∧w.cell? ⟨b,off,none⟩=some (.int .i64 os[i].k):=by
 obtain⟨b,off,cap,rfl,hc⟩:=jB hs (by omega);obtain⟨a,hl,hov,hget⟩:=OVs.get os cs i hi hall;refine⟨b,off+i*6,?_,?_⟩
 ·intro PK K;have:=oV (P:=prog) (T:=23) (b:=b) (off:=off) (cap:=cap) (n:=os.length) (k:=.i64) (i:=(i:Int)) (w:=w) Yt szOb (by omega) (by omega);rw[Yo] at this;exact aU this
 ·obtain⟨vk,vc',cs',hv,_⟩:=hov.open;have e:a=obC os[i] vk vc':=by
   injection hv with hv
   have:=congrArg Array.toList hv;simpa using this
  have:=hc (i*6+0) _ (hget 0 (.int .i64 os[i].k) (by rw[e];rfl));simpa using this
theorem Q3 (o:Ob)(v:Value)(w:World)(h:OV (InW w) w v o)(hs:o.s.length≤9223372036854775807)(hb:o.keys.length≤9223372036854775807)(hks:∀k∈o.keys,k.length≤9223372036854775807) :
  Ret prog 156 #[v] w (fun v w'=>v=.bool (Vl.form o)∧Below w.heap.size w w'):=by
 obtain⟨vk,vc,cs,rfl,ha⟩:=h.open;refine aO fun K hK=>zR ?_;unfold iX iN dx gtx cx;refine cY o ha.keys.one ha.kids.one (Own.start w) fun b w1 ho=>?_;simp only[cN,ob_k ho 0 rfl,rs];by_cases k5:o.k=5
 ·simp only[k5,Yj,i_t,Cd,ob_s ho 0 rfl];refine c_eq (NK o.s w1 hs) ?_;refine hK _ _ ⟨?_,ho.done⟩;simp[Vl.form,k5]
 by_cases k7:o.k=7∨o.k=9
 case neg=>
  have k7':¬o.k=7:=fun h=>k7 (.inl h);have k9':¬o.k=9:=fun h=>k7 (.inr h);simp only[k5,k7',k9',ne_eq,Yz,Yj,Yi,rs,ob_k ho 0 rfl];refine hK _ _ ⟨?_,ho.done⟩;simp[Vl.form,k5,k7]
 have lk:∀{W:World} {L:List Ent},Own w W L→∀{PK:PKT} {K:VWP},DoX prog (mB .len #[22] 3 #[false] #[vk]) W PK K=K (.int .i64 (o.keys.length:Int)) W:=fun ho=>bY Yn (ha.own ho).keys.1;have lc:∀{W:World} {L:List Ent},Own w W L→∀{PK:PKT} {K:VWP},DoX prog (mB .len #[23] 3 #[false] #[vc]) W PK K=K (.int .i64 (o.kids.length:Int)) W:=fun ho=>bY Yt (ha.own ho).kids.1;have hf:Vl.form o=Vl.rising o:=by simp[Vl.form,k5,k7]
 rw[hf] at hK;simp +contextual only[k5,Yi,i_f,rs,gs,ob_k ho 0 rfl,eC,dR,bV ho 0 rfl,bJ ho 0 rfl,lk ho,lc ho];refine WT (r:=false) (by rcases k7 with h|h<;>simp[h]) ?_;rw[i_f];by_cases hlen:(o.keys.length:Int)≠(o.kids.length:Int)
 ·simp only[Yk hlen,i_t];refine hK _ _ ⟨?_,ho.done⟩;have:¬o.keys.length=o.kids.length:=fun e=>hlen (by rw[e]);simp[Vl.rising,this]
 have hle:o.keys.length=o.kids.length:=by omega
 simp only[Yl hlen,i_f];have hR:Vl.rising o=(List.range o.keys.length).all (Vl.zZ o):=by simp[Vl.rising,hle]
 rw[hR] at hK;refine loop (fun vs w'=>∃(i:Nat),vs=[.int .i64 i]∧i≤o.keys.length∧(List.range i).all (Vl.zZ o)=true∧Own w w' [obE b o vk vc]) (fun vs _=>o.keys.length - n0 vs) ⟨0,rfl,by omega,by simp,ho⟩ ?_;rintro vs w2 ⟨i,rfl,hi,hall,ho⟩ _;simp only[mX,gd,rs,iN,dx,gtx,gfx,etx,efx,cx];by_cases hlt:(i:Int) < (o.keys.length:Int)
 ·have hi':i < o.keys.length:=by omega
  simp only[hlt,Yj,i_t];have ho2:=ha.own ho;refine Bs (.string ⟨(o.keys[i]).toArray⟩) Yn (by kernel_rfl) ho2.keys.1 (by omega) (by rw[Yo];exact cD hi') fun q hq=>?_;rw[bE qQ hq];refine c_eq (NK o.keys[i] w2 (hks _ (YH hi'))) ?_;obtain⟨kb,koff,hia,hkc⟩:=LW ho2.kids.1 ho2.all (show i < o.kids.length by omega);have hlk:∀{PK:PKT} {K:VWP},DoX prog (aA 3 (.pointer (some ⟨kb,koff,none⟩))) w2 PK K=K (.int .i64 o.kids[i].k) w2:=bE kV hkc;have hprev:decide (0 < (i:Int))=true→∃(b' off':Nat),(∀{PK:PKT} {K:VWP},DoX prog (mIA 22 vk (.int .i64 (IntKind.wrap .i64 ((i:Int) - 1)))) w2 PK K=K (.pointer (some ⟨b',off',none⟩)) w2) ∧
    (∀{PK:PKT} {K:VWP},DoX prog (aA 9 (.pointer (some ⟨b',off',none⟩))) w2 PK K=K (.string ⟨(o.keys.getD (i - 1) []).toArray⟩) w2):=by
   intro h;have h:=YF h;have hj:i - 1 < o.keys.length:=by omega
   obtain⟨b',off',cap',rfl,hc'⟩:=jB ho2.keys.1 (show 0 < o.keys.length by omega);refine⟨b',off'+(i - 1),?_,?_⟩
   ·intro PK K;rw[aB (by omega) (by omega)];refine aU ?_;rw[oV Yn (show _=some 1 by kernel_rfl) (by omega) (by omega),show ((i:Int) - 1).toNat*1=i - 1 by omega]
   ·intro PK K;rw[Zn,YB hj];exact bE qQ (hc' _ _ (cD hj))
  have hgi:o.keys.getD i []=o.keys[i]:=by rw[Zn,YB hi'];rfl
  have hgk:o.kids.getD i (.mk 0 0 0 [] [] [])=o.kids[i]'(by omega):=by rw[Zn,YB (by omega)];rfl
  have tail:∀(q:Bool) (N:Prop),q=!(Vl.zZ o i)→(Vl.zZ o i=true→N)→IfX (.bool q) (K (.returned (.bool false)) w2) N:=by
   intro q N hq hN;cases hk:Vl.zZ o i with
  |false=>
    rw[hk] at hq;subst hq;rw[show (!false)=true from rfl,i_t];exact hK _ _ ⟨by rw[Dt hk hi'],ho.done⟩
  |true=>
    rw[hk] at hq;subst hq;rw[show (!true)=false from rfl,i_f];exact hN hk
  have hki:Vl.zZ o i=(Vl.name o.keys[i]&&(decide (i=0)||Vl.less (o.keys.getD (i - 1) []) o.keys[i])&&!(decide (o.k=9)&&decide (o.keys[i]=Vl.lenK))&&decide ((o.kids[i]'(by omega)).k≠0)):=by
   rw[Vl.zZ,hgi,hgk]
  by_cases hi0:i=0
  ·have hz:decide (0 < (i:Int))=false:=by rw[YK];omega
   simp +contextual only[rs,gs,hz,EE,PE,DI,ZL,aaQ,ZD,MJ,cN,dR,ob_k ho 0 rfl,bJ ho 0 rfl,hia,hlk,g_un,p_f];refine tail _ _ ?_ fun hk=>?_
   ·rw[hki,Yk hi0];simp only[abB,ZE,Vl.lenK,ne_eq,decide_not];generalize Vl.name o.keys[i]=a;generalize decide (o.k=9)=c;generalize decide ((o.kids[i]'(by omega)).k=0)=d;by_cases hL:o.keys[i]=[76,101,110,103,116,104]<;>simp only[hL,Yj,Yi]<;>cases a<;>cases c<;>cases d<;>rfl
   ·rw[aB (by omega) (by omega)];exact bO ⟨i+1,rfl,by omega,by rw[mI,hall,hk];rfl,ho⟩ (by simp[n0,RowKit.intOf];omega)
  ·have hz:decide (0 < (i:Int))=true:=by rw[decide_eq_true_iff];omega
   obtain⟨b',off',hpa,hpl⟩:=hprev hz;simp +contextual only[rs,gs,hz,EE,PE,DI,ZL,aaQ,ZD,MJ,cN,eC,dR,ob_k ho 0 rfl,bV ho 0 rfl,bJ ho 0 rfl,hia,hlk,hpa,hpl,g_un];refine tail _ _ ?_ fun hk=>?_
   ·rw[hki,Yl hi0];simp only[ZN,Vl.lenK,ne_eq,decide_not];generalize Vl.name o.keys[i]=a;generalize decide (o.k=9)=c;generalize decide ((o.kids[i]'(by omega)).k=0)=d;show _=!(_&&Op.bytesLess (o.keys.getD (i - 1) []) o.keys[i]&&_&&_);generalize Op.bytesLess (o.keys.getD (i - 1) []) o.keys[i]=e;by_cases hL:o.keys[i]=[76,101,110,103,116,104]<;>simp only[hL,Yj,Yi]<;>cases a<;>cases c<;>cases d<;>cases e<;>rfl
   ·rw[aB (by omega) (by omega)];exact bO ⟨i+1,rfl,by omega,by rw[mI,hall,hk];rfl,ho⟩ (by simp[n0,RowKit.intOf];omega)
 ·simp only[hlt,Yi,i_f];refine hK _ _ ⟨?_,ho.done⟩;rw[show o.keys.length=i by omega,hall]
end
section
open Eng Go.RowKit
 attribute [local congr] kS
theorem OwnS.W7 {w0 w2 w4:World}{L2 L4:List Ent}(h2:Own w0 w2 L2)(h4:Own w0 w4 L4):Kept (InW w0) w2 w4:=fun b hb=>(h4.done.block b hb).trans (h2.done.block b hb).symm
theorem ObAt.later {w0 w2 w4:World}{L2 L4:List Ent}{o:Ob}{vk vc:Value}{cs:List Value}(h:ObAt (InW w0) w2 o vk vc cs)(h2:Own w0 w2 L2)(h4:Own w0 w4 L4):ObAt (InW w4) w4 o vk vc cs:=by
 have hk:=h.kept (OwnS.W7 h2 h4);exact⟨⟨hk.keys.1,(fun p l c e hn=>Y4 (hk.keys.2.1 p l c e hn) h4.size),hk.keys.2.2⟩,⟨hk.kids.1,(fun p l c e hn=>Y4 (hk.kids.2.1 p l c e hn) h4.size),hk.kids.2.2⟩,OVs.mono (fun _ hb=>Y4 hb h4.size) _ _ hk.all⟩
theorem RS:∀{l:List (List UInt8)} {k:List UInt8},k∈l→k.length≤Pl.tot l
|a::l,k,h=>by
  simp only[Pl.tot,Y1,Z4];rcases Yq.1 h with rfl|h
  ·omega
  ·have:=RS h;simp only[Pl.tot] at this;omega
theorem RC:∀{l:List Ob} {o:Ob},o∈l→o.wt≤Ob.wts l
|a::l,o,h=>by
  rw[Ob.wts];rcases Yq.1 h with rfl|h
  ·omega
  ·have:=RC h;omega
theorem Ob.kY (o:Ob):o.wt=6+o.s.length+Pl.tot o.keys+Ob.wts o.kids:=by cases o;rw[Ob.wt];rfl
theorem Ob.FN (o:Ob):6≤o.wt:=by rw[o.kY];omega
theorem RB:∀l:List Ob,l.length*6≤Ob.wts l
|[]=>by simp
|a::l=>by
  have:=RB l;have:=a.FN;rw[Ob.wts,Yr];omega
theorem Ec {o:Ob}{i:Nat}(hi:i < o.kids.length):o.kids[i].wt < o.wt:=by
 have:=RC (YH hi);rw[o.kY];omega
theorem HB (d:Nat)(l:List Ob)(i:Nat)(hi:i < l.length):Vl.lO d (l.drop i)=if Vl.check d l[i]≠0 then Vl.check d l[i] else Vl.lO d (l.drop (i+1)):=by
 rw[Zt hi,Vl.lO]
theorem Mk {o:Ob}:o.keys.length≤o.wt:=by
 have h:∀l:List (List UInt8),l.length≤Pl.tot l:=by
  intro l
  induction l with
 |nil=>simp
 |cons a l ih=>simp only[Pl.tot,Y1,Z4,Yr] at ih ⊢;omega
 have:=h o.keys;rw[o.kY];omega
theorem SQ {o:Ob}:o.kids.length≤o.wt:=by
 have:=RB o.kids;rw[o.kY];omega
theorem QD {o:Ob}:o.s.length≤o.wt:=by rw[o.kY];omega
theorem NF {o:Ob}{k:List UInt8}(h:k∈o.keys):k.length≤o.wt:=by
 have:=RS h;rw[o.kY];omega
theorem Re {d:Nat}{o:Ob}(h:Vl.why d o≠0):Vl.check d o=Vl.why d o:=by rw[Vl.wA,Yh h]
theorem LC (n:Nat):∀(o:Ob) (v:Value) (d:Nat) (w:World),o.wt≤n→OV (InW w) w v o→o.wt≤4611686018427387904→d≤1000 →
  Ret prog 99 #[v,.int .i64 (d:Int)] w (fun v w'=>v=.int .i64 (Vl.check d o)∧Below w.heap.size w w'):=by
 induction n with
|zero=>intro o v d w h;have:=o.FN;omega
|succ n ih=>
 intro o v d w hn hov hb hd;obtain⟨vk,vc,cs,rfl,ha⟩:=hov.open;refine aO fun K hK=>wW ?_;unfold gT iN dx gtx gfx etx efx cx;refine cY o ha.keys.one ha.kids.one (Own.start w) fun b w1 ho=>?_;simp only[rs];have out:∀(e:Int) (W:World) (L:List Ent),Own w W L→Vl.why d o=e→e≠0→K (.returned (.int .i64 e)) W:=by
  intro e W L ho h1 h2;exact hK _ _ ⟨by rw[Re (by rw[h1];exact h2),h1],ho.done⟩
 by_cases h24:(24:Int) < (d:Int)
 ·simp only[h24,Yj,i_t];exact out 7 w1 _ ho (by rw[Vl.why,Yh (by omega)]) (by decide)
 simp only[h24,Yi,i_f,ob_v ho 0 rfl];refine dO (Me o _ w1 (ha.in_ ho).ov) rfl ho fun w2 ho=>?_;have h24':¬24 < d:=by omega
 cases hu:Vl.eA o with
|false=>
  simp only[rs,YJ,g_un];exact out 10 w2 _ ho (by rw[Vl.why,Yg h24',Yh (.inl hu)]) (by decide)
|true=>
 have hst:(o.k=9∧1 < d)∨¬(o.k=9∧1 < d):=by by_cases h:(o.k=9∧1 < d)<;>simp[h]
 have hgt:∀(A B:Prop),(o.k=9∧1 < d→A)→(¬(o.k=9∧1 < d)→B)→IfX (.bool (decide (o.k=9)&&decide ((1:Int) < (d:Int)))) A B:=by
  intro A B hA hB;by_cases h:(o.k=9∧1 < d)
  ·have e:(decide (o.k=9)&&decide ((1:Int) < (d:Int)))=true:=by simp[h.1];omega
   rw[e,i_t];exact hA h
  ·have e:(decide (o.k=9)&&decide ((1:Int) < (d:Int)))=false:=by
    rw[ZA];by_cases h9:o.k=9
    ·right;rw[YK];intro h1;exact h ⟨h9,by omega⟩
    ·left;exact Yl h9
   rw[e,i_f];exact hB h
 simp +contextual only[rs,gs,YE,cN,ob_k ho 0 rfl];refine hgt _ _ (fun h9=>?_) fun h9=>?_
 ·exact out 10 w2 _ ho (by rw[Vl.why,Yg h24',Yh (.inr h9)]) (by decide)
 have hno:¬(Vl.eA o=false∨(o.k=9∧1 < d)):=by
  rintro (h|h)
  ·rw[hu] at h;cases h
  ·exact h9 h
 rw[ob_v ho 0 rfl];refine dO (Qb o _ w2 (ha.in_ ho).ov) rfl ho fun w3 ho=>?_;cases hfi:Vl.fits o with
|false=>
  simp only[rs,YJ];exact out 2 w3 _ ho (by rw[Vl.why,Yg h24',Yg hno,Yh hfi]) (by decide)
|true=>
 have hfi':¬Vl.fits o=false:=by rw[hfi];decide
 simp only[rs,YE];refine quiet ?_;refine q_do _ (fun _=>bC Ug) ?_;refine q_at (.string ⟨o.s.toArray⟩) (fun W hW=>aL qQ ((ho.grow hW).cell 0 rfl 3 rfl)) ?_;refine Uo Ym ?_;refine q_do _ (fun _=>bC U4) ?_;refine q_at (.int .i64 o.k) (fun W hW=>aL kV ((ho.grow hW).cell 0 rfl 0 rfl)) ?_;refine gX _ (fun W hW=>mF (Pr o.k W) hW) ?_;refine XR ?_;intro w4 hW;have ho:=ho.grow hW;by_cases hlo:((Vl.long o.k:Nat):Int) < (o.s.length:Int)
 ·simp only[hlo,Yj,i_t];exact out 5 w4 _ ho (by rw[Vl.why,Yg h24',Yg hno,Yg hfi',Yh (by omega)]) (by decide)
 have hlo':¬Vl.long o.k < o.s.length:=by omega
 have lc:∀{W:World} {L:List Ent},Own w W L→∀{PK:PKT} {K:VWP},DoX prog (mB .len #[23] 3 #[false] #[vc]) W PK K=K (.int .i64 (o.kids.length:Int)) W:=fun ho=>bY Yt (ha.own ho).kids.1;simp only[hlo,Yi,i_f,dR,bJ ho 0 rfl,lc ho,rs];by_cases hmany:(8191:Int) < (o.kids.length:Int)
 ·simp only[hmany,Yj,i_t];exact out 6 w4 _ ho (by rw[Vl.why,Yg h24',Yg hno,Yg hfi',Yg hlo',Yh (by omega)]) (by decide)
 have hmany':¬8191 < o.kids.length:=by omega
 simp only[hmany,Yi,i_f,ob_v ho 0 rfl];refine dO (Q3 o _ w4 (ha.in_ ho).ov (by have:=QD (o:=o);omega) (by have:=Mk (o:=o);omega) (fun k hk=>by have:=NF hk;omega)) rfl ho fun w5 ho=>?_;cases hfo:Vl.form o with
|false=>
  simp only[rs,YJ];exact out 3 w5 _ ho (by rw[Vl.why,Yg h24',Yg hno,Yg hfi',Yg hlo',Yg hmany',Yh hfo]) (by decide)
|true=>
 have hfo':¬Vl.form o=false:=by rw[hfo];decide
 have hw0:Vl.why d o=0:=by rw[Vl.why,Yg h24',Yg hno,Yg hfi',Yg hlo',Yg hmany',Yg hfo']
 have hch:Vl.check d o=Vl.lO (d+1) o.kids:=by rw[Vl.wA,Yg (by simp[hw0])]
 rw[hch] at hK;simp only[rs,YE,bJ ho 0 rfl,lc ho];refine loop (fun vs w'=>∃(i:Nat),vs=[.int .i64 i]∧i≤o.kids.length∧Vl.lO (d+1) o.kids=Vl.lO (d+1) (o.kids.drop i)∧Own w w' [obE b o vk vc]) (fun vs _=>o.kids.length - n0 vs) ⟨0,rfl,by omega,rfl,ho⟩ ?_;rintro vs w6 ⟨i,rfl,hi,hT,ho⟩ _;rw[hT] at hK;simp only[lC,gd,rs,iN,dx,cx];by_cases hlt:(i:Int) < (o.kids.length:Int)
 ·have hi':i < o.kids.length:=by omega
  simp only[hlt,Yj,i_t];rw[HB _ _ _ hi'] at hK hT;have hai:=ha.own ho;refine UF hai.kids.1 hai.all hi' fun v hv=>?_;obtain⟨vk',vc',cs',rfl,hkid⟩:=hv.open;have ho6:=ho;refine bN ho fun b7 w7 ho=>?_;refine aQ 0 hkid.keys.one hkid.kids.one ho rfl fun w8 ho=>?_;have ho:Own w w8 [obE b7 o.kids[i] vk' vc',obE b o vk vc]:=ho;rw[ob_v ho 0 rfl,aB (by omega) (by omega),show (d:Int)+1=((d+1:Nat):Int) by omega];have hkw:=Ec hi';refine dO (ih o.kids[i] _ (d+1) w8 (by omega) (hkid.later ho6 ho).ov (by omega) (by omega)) rfl ho fun w9 ho=>?_;simp only[rs];by_cases hc0:Vl.check (d+1) o.kids[i]=0
  ·simp only[hc0,ne_eq,not_true,Yi,i_f];rw[aB (by omega) (by omega)];rw[Yg (by simp[hc0])] at hT;exact bO ⟨i+1,rfl,by omega,hT,ho.tail⟩ (by simp[n0,RowKit.intOf];omega)
  ·simp only[hc0,ne_eq,Yz,Yj,i_t];rw[Yh hc0] at hK;exact hK _ _ ⟨rfl,ho.done⟩
 ·simp only[hlt,Yi,i_f];rw[List.drop_of_length_le (by omega),Vl.lO] at hK;exact hK _ _ ⟨rfl,ho.done⟩
theorem jK (o:Ob)(v:Value)(w:World)(h:OV (InW w) w v o)(hb:o.wt≤4611686018427387904):Ret prog 58 #[v] w (fun v w'=>v=.int .i64 (Vl.check 1 o)∧Below w.heap.size w w'):=by
 obtain⟨vk,vc,cs,rfl,ha⟩:=h.open;refine aO fun K hK=>xP ?_;unfold pB iN dx cx;refine cY o ha.keys.one ha.kids.one (Own.start w) fun b w1 ho=>?_;rw[ob_v ho 0 rfl];refine dO (LC o.wt o _ 1 w1 (Yw _) (ha.in_ ho).ov hb (by omega)) rfl ho fun w2 ho=>?_;exact hK _ _ ⟨rfl,ho.done⟩
theorem P7 (l:List Ob)(i:Nat)(hi:i < l.length):Vl.uN (l.take (i+1))=Vl.uN (l.take i)+Vl.size l[i]:=by
 have h:∀(l:List Ob) (o:Ob),Vl.uN (l++[o])=Vl.uN l+Vl.size o:=by
  intro l o
  induction l with
 |nil=>simp[Vl.uN]
 |cons a l ih=>rw[YY,Vl.uN,ih,Vl.uN];omega
 rw[YL hi,h]
theorem Jt (l:List Ob)(i:Nat):Vl.uN (l.take i)≤Vl.uN l:=by
 induction l generalizing i with
|nil=>simp
|cons a l ih=>
  cases i with
 |zero=>simp[Vl.uN]
 |succ i=>rw[Y7,Vl.uN,Vl.uN];have:=ih i;omega
theorem Qa (n:Nat):∀(o:Ob) (v:Value) (w:World),o.wt≤n→OV (InW w) w v o→o.wt≤4611686018427387904 →
  Ret prog 7 #[v] w (fun v w'=>v=.int .i64 (Vl.size o:Nat)∧Below w.heap.size w w'):=by
 induction n with
|zero=>intro o v w h;have:=o.FN;omega
|succ n ih=>
 intro o v w hn hov hb;obtain⟨vk,vc,cs,rfl,ha⟩:=hov.open;refine aO fun K hK=>Aw ?_;unfold iW iN dx;refine cY o ha.keys.one ha.kids.one (Own.start w) fun b w1 ho=>?_;have hsl:=QD (o:=o);have hkl:=Mk (o:=o);have hcl:=SQ (o:=o);have hsz:=Vl.Q5 o;have htd:∀m:Nat,(m:Int).tdiv 50=((m / 50:Nat):Int):=fun m=>by rw[Zw (by omega)];omega
 have lk:∀{W:World} {L:List Ent},Own w W L→∀{PK:PKT} {K:VWP},DoX prog (mB .len #[22] 3 #[false] #[vk]) W PK K=K (.int .i64 (o.keys.length:Int)) W:=fun ho=>bY Yn (ha.own ho).keys.1;have lc:∀{W:World} {L:List Ent},Own w W L→∀{PK:PKT} {K:VWP},DoX prog (mB .len #[23] 3 #[false] #[vc]) W PK K=K (.int .i64 (o.kids.length:Int)) W:=fun ho=>bY Yt (ha.own ho).kids.1;rw[Cd,ob_s ho 0 rfl,bF Ym,Gr (by decide),htd,aB (by omega) (by omega),qD,aB (by omega) (by omega),eC,bV ho 0 rfl,lk ho];have ht50:∀i,((o.keys.take i).map fun k=>k.length / 50).sum≤(o.keys.map fun k=>k.length / 50).sum:=by
  intro i
  conv=>rhs;rw[←Zc i o.keys,ZR,List.sum_append]
  omega
 have hse:=Vl.size_eq o;refine loop (fun vs w'=>∃(i:Nat) (m:Int),vs=[.int .i64 m,.int .i64 i]∧i≤o.keys.length∧m=((1+o.s.length / 50+((o.keys.take i).map fun k=>k.length / 50).sum:Nat):Int)∧Own w w' [obE b o vk vc]) (fun vs _=>o.keys.length - n1 vs) ⟨0,_,rfl,by omega,by simp,ho⟩ ?_;rintro vs w2 ⟨i,m,rfl,hi,rfl,ho⟩ _;have h5i:=ht50 i;simp only[oF,gd,rs,iN,dx];by_cases hlt:(i:Int) < (o.keys.length:Int)
 ·have hi':i < o.keys.length:=by omega
  simp only[hlt,Yj,i_t];refine Bs (.string ⟨(o.keys[i]).toArray⟩) Yn (by kernel_rfl) (ha.own ho).keys.1 (by omega) (by rw[Yo];exact cD hi') fun q hq=>?_;have hkm:=NF (YH hi');have h5s:=ht50 (i+1);have hss:((o.keys.take (i+1)).map fun k=>k.length / 50).sum=((o.keys.take i).map fun k=>k.length / 50).sum+o.keys[i].length / 50:=by
   rw[YL hi',ZR,List.sum_append];simp
  rw[bE qQ hq,bF Ym,Gr (by decide),htd,aB (n:=((o.keys[i].length / 50:Nat):Int)) (by omega) (by omega)];simp only[rs];rw[aB (by omega) (by omega),aB (by omega) (by omega)];exact bO ⟨i+1,_,rfl,by omega,by rw[hss];omega,ho⟩ (by simp[n1,RowKit.intOf];omega)
 simp only[hlt,Yi,i_f,dR,bJ ho 0 rfl,lc ho];have hik:i=o.keys.length:=by omega
 subst hik;rw[Ze];refine loop (fun vs w'=>∃(i:Nat) (m:Int),vs=[.int .i64 m,.int .i64 i]∧i≤o.kids.length∧m=((1+o.s.length / 50+(o.keys.map fun k=>k.length / 50).sum+Vl.uN (o.kids.take i):Nat):Int)∧Own w w' [obE b o vk vc]) (fun vs _=>o.kids.length - n1 vs) ⟨0,_,rfl,by omega,by simp[Vl.uN],ho⟩ ?_;rintro vs w3 ⟨i,m,rfl,hi2,rfl,ho⟩ _;simp only[nD,gd,rs,iN,dx,cx];have hst:=Jt o.kids i;by_cases hlt:(i:Int) < (o.kids.length:Int)
 ·have hi':i < o.kids.length:=by omega
  simp only[hlt,Yj,i_t];have hai:=ha.own ho;refine UF hai.kids.1 hai.all hi' fun v hv=>?_;obtain⟨vk',vc',cs',rfl,hkid⟩:=hv.open;have ho6:=ho;refine bN ho fun b7 w7 ho=>?_;refine aQ 0 hkid.keys.one hkid.kids.one ho rfl fun w8 ho=>?_;have ho:Own w w8 [obE b7 o.kids[i] vk' vc',obE b o vk vc]:=ho;rw[ob_v ho 0 rfl];have hkw:=Ec hi';refine dO (ih o.kids[i] _ w8 (by omega) (hkid.later ho6 ho).ov (by omega)) rfl ho fun w9 ho=>?_;have hsd:=P7 o.kids i hi';have hst2:=Jt o.kids (i+1);simp only[rs];rw[aB (by omega) (by omega),aB (by omega) (by omega)];exact bO ⟨i+1,_,rfl,by omega,by rw[hsd];omega,ho.tail⟩ (by simp[n1,RowKit.intOf];omega)
 ·simp only[hlt,Yi,i_f];rw[YO (by omega)];refine hK _ _ ⟨?_,ho.done⟩;rw[hse]
end
section
open Eng
def pH(t0 t1 t2 w)(K:KT):=
 dx (mBin .leq 2 t1 t0) w K fun t9 w=>etx t9 t0 w fun t11 w=>etx t9 t2 w fun t12 w=>gtx t9 (mBin .leq 2 t11 t12) w K fun t13 w=>dx (aF t9 t13 (.bool false)) w K fun t14 w=>K (.returned t14) w
theorem xW{t0 t1 t2 w K}(h:pH t0 t1 t2 w K):Calls prog 201 #[t0,t1,t2] w K:=cw Tryz.func201 rfl rfl (by kernel_rfl) h
def sX(t0 t1 t2 w)(K:KT):=
 dx (mBin .leq 3 t1 t0) w K fun t9 w=>etx t9 t0 w fun t11 w=>etx t9 t2 w fun t12 w=>gtx t9 (mBin .leq 3 t11 t12) w K fun t13 w=>dx (aF t9 t13 (.bool false)) w K fun t14 w=>K (.returned t14) w
theorem AR{t0 t1 t2 w K}(h:sX t0 t1 t2 w K):Calls prog 202 #[t0,t1,t2] w K:=cw Tryz.func202 rfl rfl (by kernel_rfl) h
def GU(t0 w)(K:KT):=
 dx (mB .len #[9] 3 #[false] #[t0]) w K fun t4 w=>dx (mBin .leq 3 t4 (iN 127)) w K fun t5 w=>etx t5 t0 w fun t7 w=>ctx t5 168 #[t7,(.int .u8 0)] w K fun t8 w=>gtx t5 (mBin .lss 3 t8 (iN 0)) w K fun t9 w=>dx (aF t5 t9 (.bool false)) w K fun t10 w=>K (.returned t10) w
theorem I1{t0 w K}(h:GU t0 w K):Calls prog 151 #[t0] w K:=cw Tryz.func151 rfl rfl (by kernel_rfl) h
def yH(t1 t13 t14 t15 w)(N1:JT)(K:KT):=
 dx (mBin .lss 3 t15 t14) w K fun t16 w=>IfX t16 (dx (mIA 22 t13 t15) w K fun t18 w=>dx (aA 9 t18) w K fun t19 w=>cx 151 #[t19] w K fun t21 w=>dx (mUn .not t21) w K fun t22 w=>efx t22 t15 w fun t24 w=>gfx t22 (mBin .gtr 3 t24 (iN 0)) w K fun t25 w=>efx t22 t25 w fun t26 w=>gtx t26 (mFA 25 t1 4) w K fun t27 w=>gtx t26 (aA 22 t27) w K fun t28 w=>etx t26 t15 w fun t29 w=>gtx t26 (mBin .sub 3 t29 (iN 1)) w K fun t30 w=>gtx t26 (mIA 22 t28 t30) w K fun t31 w=>gtx t26 (aA 9 t31) w K fun t32 w=>etx t26 t19 w fun t33 w=>gtx t26 (mBin .geq 9 t32 t33) w K fun t34 w=>gfx t22 (aF t26 t34 (.bool false)) w K fun t35 w=>dx (aF t22 (.bool true) t35) w K fun t36 w=>gfx t36 (mFA 25 t1 0) w K fun t38 w=>gfx t36 (aA 3 t38) w K fun t39 w=>gfx t36 (mEq .eql 3 (.tmp 39) (.const (iN 9)) t39 (iN 9)) w K fun t40 w=>efx t36 t40 w fun t41 w=>etx t41 t19 w fun t42 w=>gtx t41 (mEq .eql 9 (.tmp 42) (.const (.string ⟨#[76,101,110,103,116,104]⟩)) t42 (.string ⟨#[76,101,110,103,116,104]⟩)) w K fun t43 w=>gfx t36 (aF t41 t43 (.bool false)) w K fun t44 w=>dx (aF t36 (.bool true) t44) w K fun t45 w=>gfx t45 (mFA 25 t1 5) w K fun t47 w=>gfx t45 (aA 23 t47) w K fun t48 w=>efx t45 t15 w fun t49 w=>gfx t45 (mIA 23 t48 t49) w K fun t50 w=>gfx t45 (mFA 25 t50 0) w K fun t51 w=>gfx t45 (aA 3 t51) w K fun t52 w=>gfx t45 (mEq .eql 3 (.tmp 52) (.const (iN 0)) t52 (iN 0)) w K fun t53 w=>dx (aF t45 (.bool true) t53) w K fun t54 w=>IfX t54 (K (.returned (.bool false)) w) (dx (mBin .add 3 t15 (iN 1)) w K fun t55 w=>N1 [t55] w)) (K (.returned (.bool true)) w)
def tZ(t0 w)(K:KT):=
 dx (mBox 25 t0) w K fun t1 w=>dx (mFA 25 t1 4) w K fun t5 w=>dx (aA 22 t5) w K fun t6 w=>dx (mB .len #[22] 3 #[false] #[t6]) w K fun t7 w=>dx (mFA 25 t1 5) w K fun t8 w=>dx (aA 23 t8) w K fun t9 w=>dx (mB .len #[23] 3 #[false] #[t9]) w K fun t10 w=>dx (mEq .neq 3 (.tmp 7) (.tmp 10) t7 t10) w K fun t11 w=>IfX t11 (K (.returned (.bool false)) w) (dx (mFA 25 t1 4) w K fun t12 w=>dx (aA 22 t12) w K fun t13 w=>dx (mB .len #[22] 3 #[false] #[t13]) w K fun t14 w=>LoopX [(iN 0)] w (fun vs1 w N1=>∀_:Sg,yH t1 t13 t14 (vs1.getD 0 undef) w N1 K))
theorem E4 (t0:Value)(w:World)(K:Ending→World→Prop):wpX prog 56 [] [(4,[15])] none (aY Tryz.f152) (topQ prog [.tmp 2] K) (aR [t0]) [] w=tZ t0 w K:=by kernel_rfl
theorem E1 {t0:Value}{w:World}{K:Ending→World→Prop}(h:tZ t0 w K):Calls prog 152 #[t0] w K:=
 aE Tryz.func152 rfl rfl rfl rfl (Eq.mpr (E4 t0 w K) h)
def FK(t0 w)(K:KT):=
 dx (mBox 25 t0) w K fun t1 w=>dx (mFA 25 t1 0) w K fun t3 w=>dx (aA 3 t3) w K fun t4 w=>dx (mEq .eql 3 (.tmp 4) (.const (iN 1)) t4 (iN 1)) w K fun t6 w=>IfX t6 (dx (mFA 25 t1 1) w K fun t7 w=>dx (aA 2 t7) w K fun t8 w=>cx 201 #[t8,(iN 0),(iN 1)] w K fun t9 w=>K (.returned t9) w) (dx (mEq .eql 3 (.tmp 4) (.const (iN 2)) t4 (iN 2)) w K fun t11 w=>IfX t11 (dx (mFA 25 t1 1) w K fun t12 w=>dx (aA 2 t12) w K fun t13 w=>cx 201 #[t13,(iN (-2147483647)),(iN 2147483647)] w K fun t14 w=>K (.returned t14) w) (dx (mEq .eql 3 (.tmp 4) (.const (iN 3)) t4 (iN 3)) w K fun t16 w=>IfX t16 (dx (mFA 25 t1 1) w K fun t17 w=>dx (aA 2 t17) w K fun t18 w=>cx 201 #[t18,(iN (-1073741824)),(iN 1073741824)] w K fun t19 w=>K (.returned t19) w) (dx (mEq .eql 3 (.tmp 4) (.const (iN 8)) t4 (iN 8)) w K fun t21 w=>IfX t21 (dx (mFA 25 t1 1) w K fun t22 w=>dx (aA 2 t22) w K fun t23 w=>cx 201 #[t23,(iN 1),(iN 8191)] w K fun t24 w=>gtx t24 (mFA 25 t1 2) w K fun t26 w=>gtx t24 (aA 3 t26) w K fun t27 w=>ctx t24 202 #[t27,(iN 0),(iN 65535)] w K fun t28 w=>dx (aF t24 t28 (.bool false)) w K fun t29 w=>K (.returned t29) w) (K (.returned (.bool true)) w))))
theorem G4{t0 w K}(h:FK t0 w K):Calls prog 149 #[t0] w K:=cw Tryz.func149 rfl rfl (by kernel_rfl) h
def DW(t0 w)(K:KT):=
 dx (mBox 25 t0) w K fun t1 w=>dx (mFA 25 t1 0) w K fun t3 w=>dx (aA 3 t3) w K fun t4 w=>dx (mEq .eql 3 (.tmp 4) (.const (iN 4)) t4 (iN 4)) w K fun t6 w=>IfX t6 (dx (mFA 25 t1 3) w K fun t7 w=>dx (aA 9 t7) w K fun t8 w=>dx (mB .len #[9] 3 #[false] #[t8]) w K fun t9 w=>dx (mBin .leq 3 t9 (iN 32767)) w K fun t10 w=>K (.returned t10) w) (dx (mEq .eql 3 (.tmp 4) (.const (iN 5)) t4 (iN 5)) w K fun t12 w=>IfX t12 (dx (mFA 25 t1 3) w K fun t13 w=>dx (aA 9 t13) w K fun t14 w=>dx (mB .len #[9] 3 #[false] #[t14]) w K fun t15 w=>dx (mBin .leq 3 t15 (iN 127)) w K fun t16 w=>K (.returned t16) w) (dx (mFA 25 t1 3) w K fun t17 w=>dx (aA 9 t17) w K fun t18 w=>dx (mB .len #[9] 3 #[false] #[t18]) w K fun t19 w=>dx (mBin .leq 3 t19 (iN 1048576)) w K fun t20 w=>K (.returned t20) w))
theorem Gh{t0 w K}(h:DW t0 w K):Calls prog 150 #[t0] w K:=cw Tryz.func150 rfl rfl (by kernel_rfl) h
def tV(t2 t4 t13 w)(K:KT):=
 IfX t13 (dx (aJ 167 #[(2,(.bool true))]) w K fun t16 w=>dx (aC 167 t2 t16) w K fun _ w=>RetX prog [.cell t2 167,.val (.bool true)] w K) (dx (mEq .eql 3 (.tmp 4) (.const (iN 6)) t4 (iN 6)) w K fun t18 w=>IfX t18 (dx (aJ 167 #[(4,(.bool true))]) w K fun t19 w=>dx (aC 167 t2 t19) w K fun _ w=>RetX prog [.cell t2 167,.val (.bool true)] w K) (dx (mEq .eql 3 (.tmp 4) (.const (iN 7)) t4 (iN 7)) w K fun t21 w=>IfX t21 (dx (aJ 167 #[(3,(.bool true)),(4,(.bool true))]) w K fun t22 w=>dx (aC 167 t2 t22) w K fun _ w=>RetX prog [.cell t2 167,.val (.bool true)] w K) (dx (mEq .eql 3 (.tmp 4) (.const (iN 8)) t4 (iN 8)) w K fun t24 w=>IfX t24 (dx (aJ 167 #[(0,(.bool true)),(1,(.bool true))]) w K fun t25 w=>dx (aC 167 t2 t25) w K fun _ w=>RetX prog [.cell t2 167,.val (.bool true)] w K) (dx (mEq .eql 3 (.tmp 4) (.const (iN 9)) t4 (iN 9)) w K fun t27 w=>IfX t27 (dx (aJ 167 #[(2,(.bool true)),(3,(.bool true)),(4,(.bool true))]) w K fun t28 w=>dx (aC 167 t2 t28) w K fun _ w=>RetX prog [.cell t2 167,.val (.bool true)] w K) (dx (aJ 167 #[]) w K fun t29 w=>dx (aC 167 t2 t29) w K fun _ w=>RetX prog [.cell t2 167,.val (.bool false)] w K)))))
def tS(t2 t4 t8 w)(K:KT):=
 IfX t8 (dx (aJ 167 #[(0,(.bool true))]) w K fun t12 w=>dx (aC 167 t2 t12) w K fun _ w=>RetX prog [.cell t2 167,.val (.bool true)] w K) (JoinX (fun J2=>dx (mEq .eql 3 (.tmp 4) (.const (iN 4)) t4 (iN 4)) w K fun t14 w=>IfX t14 (J2 [t14] w) (dx (mEq .eql 3 (.tmp 4) (.const (iN 5)) t4 (iN 5)) w K fun t15 w=>J2 [t15] w)) (fun vs2 w=>∀_:Sg,tV t2 t4 (vs2.getD 0 undef) w K))
def Ba(t0 w)(K:KT):=
 dx (aM 167) w K fun t2 w=>dx (mEq .eql 3 (.tmp 4) (.const (iN 0)) t0 (iN 0)) w K fun t6 w=>IfX t6 (dx (aJ 167 #[]) w K fun t7 w=>dx (aC 167 t2 t7) w K fun _ w=>RetX prog [.cell t2 167,.val (.bool true)] w K) (JoinX (fun J1=>dx (mEq .eql 3 (.tmp 4) (.const (iN 1)) t0 (iN 1)) w K fun t9 w=>IfX t9 (J1 [t9] w) (dx (mEq .eql 3 (.tmp 4) (.const (iN 2)) t0 (iN 2)) w K fun t10 w=>IfX t10 (J1 [t10] w) (dx (mEq .eql 3 (.tmp 4) (.const (iN 3)) t0 (iN 3)) w K fun t11 w=>J1 [t11] w))) (fun vs1 w=>∀_:Sg,tS t2 t0 (vs1.getD 0 undef) w K))
theorem Hm (t0:Value)(w:World)(K:Ending→World→Prop):wpX prog 30 [(7,[8]),(10,[13])] [] none (aY Tryz.f148) (topQ prog [.cell 2 167,.tmp 3] K) (aR [t0]) [] w=Ba t0 w K:=by kernel_rfl
theorem HL {t0:Value}{w:World}{K:Ending→World→Prop}(h:Ba t0 w K):Calls prog 148 #[t0] w K:=
 aE Tryz.func148 rfl rfl rfl rfl (Eq.mpr (Hm t0 w K) h)
def FO(t0 t1 w)(K:KT):=
 dx (mUn .not t0) w K fun t5 w=>IfX t5 (dx (aJ 165 #[(0,t1)]) w K fun t7 w=>dx (sP 165 t7) w K fun t8 w=>dx (jP t8) w K fun _ w=>K (.returned (.tuple #[])) w) (K (.returned (.tuple #[])) w)
theorem HV{t0 t1 w K}(h:FO t0 t1 w K):Calls prog 147 #[t0,t1] w K:=cw Tryz.func147 rfl rfl (by kernel_rfl) h
def qG(t1 t105 t106 t107 w)(N1:JT)(K:KT):=
 dx (mBin .lss 3 t107 t106) w K fun t108 w=>IfX t108 (dx (mIA 23 t105 t107) w K fun t109 w=>dx (aA 25 t109) w K fun t110 w=>dx (aM 25) w K fun t7 w=>dx (aC 25 t7 t110) w K fun _ w=>dx (aA 25 t7) w K fun t111 w=>dx (mBin .add 3 t1 (iN 1)) w K fun t113 w=>cx 98 #[t111,t113] w K fun t114 w=>dx (mBin .add 3 t107 (iN 1)) w K fun t115 w=>N1 [t115] w) (K (.returned (.tuple #[])) w)
def xR(t0 t1 w)(K:KT):=
 dx (mBox 25 t0) w K fun t2 w=>dx (mBin .leq 3 t1 (iN 24)) w K fun t9 w=>cx 147 #[t9,(iN 7)] w K fun t10 w=>dx (mFA 25 t2 0) w K fun t12 w=>dx (aA 3 t12) w K fun t13 w=>cx 148 #[t13] w K fun t14 w=>dx (mExt t14 0) w K fun t15 w=>dx (mExt t14 1) w K fun t16 w=>dx (aM 167) w K fun t4 w=>dx (aC 167 t4 t15) w K fun _ w=>gtx t16 (mFA 167 t4 0) w K fun t19 w=>gtx t16 (aA 4 t19) w K fun t20 w=>etx t16 t20 w fun t21 w=>gfx t21 (mFA 25 t2 1) w K fun t22 w=>gfx t21 (aA 2 t22) w K fun t23 w=>gfx t21 (mEq .eql 2 (.tmp 23) (.const (iN 0)) t23 (iN 0)) w K fun t24 w=>gtx t16 (aF t21 (.bool true) t24) w K fun t25 w=>dx (aF t16 t25 (.bool false)) w K fun t26 w=>gtx t26 (mFA 167 t4 1) w K fun t28 w=>gtx t26 (aA 4 t28) w K fun t29 w=>etx t26 t29 w fun t30 w=>gfx t30 (mFA 25 t2 2) w K fun t31 w=>gfx t30 (aA 3 t31) w K fun t32 w=>gfx t30 (mEq .eql 3 (.tmp 32) (.const (iN 0)) t32 (iN 0)) w K fun t33 w=>gtx t26 (aF t30 (.bool true) t33) w K fun t34 w=>dx (aF t26 t34 (.bool false)) w K fun t35 w=>gtx t35 (mFA 167 t4 2) w K fun t37 w=>gtx t35 (aA 4 t37) w K fun t38 w=>etx t35 t38 w fun t39 w=>gfx t39 (mFA 25 t2 3) w K fun t40 w=>gfx t39 (aA 9 t40) w K fun t41 w=>gfx t39 (mEq .eql 9 (.tmp 41) (.const (.string ⟨#[]⟩)) t41 (.string ⟨#[]⟩)) w K fun t42 w=>gtx t35 (aF t39 (.bool true) t42) w K fun t43 w=>dx (aF t35 t43 (.bool false)) w K fun t44 w=>gtx t44 (mFA 167 t4 3) w K fun t46 w=>gtx t44 (aA 4 t46) w K fun t47 w=>etx t44 t47 w fun t48 w=>gfx t48 (mFA 25 t2 4) w K fun t49 w=>gfx t48 (aA 22 t49) w K fun t50 w=>gfx t48 (mB .len #[22] 3 #[false] #[t50]) w K fun t51 w=>gfx t48 (mEq .eql 3 (.tmp 51) (.const (iN 0)) t51 (iN 0)) w K fun t52 w=>gtx t44 (aF t48 (.bool true) t52) w K fun t53 w=>dx (aF t44 t53 (.bool false)) w K fun t54 w=>gtx t54 (mFA 167 t4 4) w K fun t56 w=>gtx t54 (aA 4 t56) w K fun t57 w=>etx t54 t57 w fun t58 w=>gfx t58 (mFA 25 t2 5) w K fun t59 w=>gfx t58 (aA 23 t59) w K fun t60 w=>gfx t58 (mB .len #[23] 3 #[false] #[t60]) w K fun t61 w=>gfx t58 (mEq .eql 3 (.tmp 61) (.const (iN 0)) t61 (iN 0)) w K fun t62 w=>gtx t54 (aF t58 (.bool true) t62) w K fun t63 w=>dx (aF t54 t63 (.bool false)) w K fun t64 w=>etx t64 t1 w fun t66 w=>gtx t64 (mEq .eql 3 (.tmp 66) (.const (iN 1)) t66 (iN 1)) w K fun t67 w=>etx t64 t67 w fun t68 w=>gfx t68 (mFA 25 t2 0) w K fun t69 w=>gfx t68 (aA 3 t69) w K fun t70 w=>gfx t68 (mEq .neq 3 (.tmp 70) (.const (iN 9)) t70 (iN 9)) w K fun t71 w=>gtx t64 (aF t68 (.bool true) t71) w K fun t72 w=>dx (aF t64 t72 (.bool false)) w K fun t73 w=>cx 147 #[t73,(iN 10)] w K fun t74 w=>dx (aA 25 t2) w K fun t75 w=>cx 149 #[t75] w K fun t76 w=>cx 147 #[t76,(iN 2)] w K fun t77 w=>dx (aA 25 t2) w K fun t78 w=>cx 150 #[t78] w K fun t79 w=>cx 147 #[t79,(iN 5)] w K fun t80 w=>dx (mFA 25 t2 5) w K fun t81 w=>dx (aA 23 t81) w K fun t82 w=>dx (mB .len #[23] 3 #[false] #[t82]) w K fun t83 w=>dx (mBin .leq 3 t83 (iN 8191)) w K fun t84 w=>cx 147 #[t84,(iN 6)] w K fun t85 w=>dx (mFA 25 t2 0) w K fun t86 w=>dx (aA 3 t86) w K fun t87 w=>dx (mEq .neq 3 (.tmp 87) (.const (iN 5)) t87 (iN 5)) w K fun t88 w=>gfx t88 (mFA 25 t2 3) w K fun t90 w=>gfx t88 (aA 9 t90) w K fun t91 w=>cfx t88 151 #[t91] w K fun t92 w=>dx (aF t88 (.bool true) t92) w K fun t93 w=>gtx t93 (mFA 167 t4 3) w K fun t95 w=>gtx t93 (aA 4 t95) w K fun t96 w=>gtx t93 (mUn .not t96) w K fun t97 w=>etx t93 t97 w fun t98 w=>gfx t98 (aA 25 t2) w K fun t99 w=>cfx t98 152 #[t99] w K fun t100 w=>gtx t93 (aF t98 (.bool true) t100) w K fun t101 w=>dx (aF t93 t101 (.bool false)) w K fun t102 w=>cx 147 #[t102,(iN 3)] w K fun t103 w=>dx (mFA 25 t2 5) w K fun t104 w=>dx (aA 23 t104) w K fun t105 w=>dx (mB .len #[23] 3 #[false] #[t105]) w K fun t106 w=>LoopX [(iN 0)] w (fun vs1 w N1=>∀_:Sg,qG t1 t105 t106 (vs1.getD 0 undef) w N1 K)
theorem F4 (t0 t1:Value)(w:World)(K:Ending→World→Prop):wpX prog 116 [] [(9,[107])] none (aY Tryz.f98) (topQ prog [] K) (aR [t0,t1]) [] w=xR t0 t1 w K:=by kernel_rfl
theorem Gj {t0 t1:Value}{w:World}{K:Ending→World→Prop}(h:xR t0 t1 w K):Calls prog 98 #[t0,t1] w K:=
 aE Tryz.func98 rfl rfl rfl rfl (Eq.mpr (F4 t0 t1 w K) h)
def Bc(t0 w)(K:KT):=
 dx (aA 25 t0) w K fun t1 w=>cx 98 #[t1,(iN 1)] w K fun t2 w=>K (.returned (.tuple #[])) w
theorem DN{t0 w K}(h:Bc t0 w K):Calls prog 97 #[t0] w K:=cw Tryz.func97 rfl rfl (by kernel_rfl) h
def gZ(t0 r w)(K:KT):=
 dx (mEq .eql 20 (.tmp 4) (.const .nilIface) r .nilIface) w K fun t6 w=>IfX t6 (K (.returned (.tuple #[])) w) (dx (mTA r 20 165 true) w K fun t7 w=>dx (mExt t7 1) w K fun t8 w=>dx (mExt t7 0) w K fun t9 w=>IfX t8 (dx (aM 165) w K fun t2 w=>dx (aC 165 t2 t9) w K fun _ w=>dx (mFA 165 t2 0) w K fun t10 w=>dx (aA 30 t10) w K fun t11 w=>dx (aC 30 t0 t11) w K fun _ w=>K (.returned (.tuple #[])) w) (dx (jP r) w K fun _ w=>K (.returned (.tuple #[])) w))
theorem C7 (t0 r:Value)(w:World)(K:Ending→World→Prop):wpX prog 12 [] [] none (Kl (aY Tryz.f146)) (topD prog [] K) (upd (aR [t0]) 4 r) [] w=gZ t0 r w K:=by kernel_rfl
theorem oS {t0:Value}{u:FrameMode}{w:World}{R:Ending→FrameMode→World→Prop}(h:gZ t0 (recV u) w (fun e w=>R e (recM u) w)):CallsD prog 146 #[t0] u w R:=
 tY Tryz.func146 rfl rfl rfl rfl rfl rfl rfl rfl (Eq.mpr (C7 t0 (recV u) w _) h)
def lZ (x0:Deferred)(x1:Value)(K:Ending→World→Prop):=pd prog [.cell x1 30] K [x0]
def CQ(t0 w)(K:KT):=
 dx (aM 30) w K fun t2 w=>dx (IZ (.func 146) #[] #[t2]) w K fun t3 w=>DfrX (dfrV t3 #[]) (fun d1=>DoX prog (eO t0 #[]) w (lZ d1 t2 K) fun t5 w=>DoX prog (aC 30 t2 (iN 0)) w (lZ d1 t2 K) fun _ w=>kR prog [.cell t2 30] K [d1] .returning w)
theorem E5{t0 w K}(h:CQ t0 w K):Calls prog 96 #[t0] w K:=cw Tryz.func96 rfl rfl (by kernel_rfl) h
def DU(t0 w)(K:KT):=
 dx (mBox 25 t0) w K fun t1 w=>dx (IZ (.func 97) #[] #[t1]) w K fun t3 w=>cx 96 #[t3] w K fun t4 w=>K (.returned t4) w
theorem Gw{t0 w K}(h:DU t0 w K):Calls prog 57 #[t0] w K:=cw Tryz.func57 rfl rfl (by kernel_rfl) h
end
end Go.Proofs.YtkejpieaafeblaaGreatDoor
