/- Texts that go together: PsK PsL PsM Plain08 Plain18 Plain18B Plain18C Plain08B Plain08D Plain08E Plain08F Plain08G Plain08H Plain43 Plain43B Plain43C Plain43D Plain43E Plain43F Plain43G OpA SOps SRef43 SNum OpB OpC OpD OpE OpF. -/
import Derived.Test.YtoofficgclghoaaGreatDoorRows
import Derived.Test.YtoofficgclghoaaGreatDoorMlengaipi
import Derived.Test.YtoofficgclghoaaGreatDoorMdldongdl
import Derived.Test.YtoofficgclghoaaGreatDoorMjoallmgc
import Derived.Test.YtoofficgclghoaaGreatDoorMjjgpfbaj
import Derived.Test.YtoofficgclghoaaGreatDoorMmmaflfbf
set_option linter.defProp false
set_option linter.unusedSimpArgs false
set_option linter.unusedVariables false
set_option maxRecDepth 20000
open Go.Proofs.Tryz (prog)
namespace Go.Proofs.YtoofficgclghoaaGreatDoor
section
open Eng Go.RowKit
def KvR (A:Nat→Prop)(w:World):List (List UInt8×Value)→List Ps.Kv→Prop
|[],[]=>True
|p::al,q::l=>p.1=q.1∧OV A w p.2 q.2∧KvR A w al l
|_,_=>False
theorem KvR.le {M N:Mem}(h:M.le N):∀{al:List (List UInt8×Value)} {l:List Ps.Kv},KvR M.A M.w al l→KvR N.A N.w al l
|[],[],_=>trivial
|_::_,_::_,⟨h1,h2,h3⟩=>⟨h1,h2.le h,KvR.le h h3⟩
|[],_::_,h=>h.elim
|_::_,[],h=>h.elim
section
variable {A:Nat→Prop}{w:World}
theorem KvR.fst:∀{al:List (List UInt8×Value)} {l:List Ps.Kv},KvR A w al l→al.map (·.1)=l.map (·.1)
|[],[],_=>rfl
|_::_,_::_,⟨h1,_,h3⟩=>by rw[List.map_cons,List.map_cons,h1,KvR.fst h3]
|[],_::_,h=>h.elim
|_::_,[],h=>h.elim
theorem KvR.snoc {k:List UInt8}{v:Value}{o:Ob}(hv:OV A w v o):∀{al:List (List UInt8×Value)} {l:List Ps.Kv},KvR A w al l→KvR A w (al++[(k,v)]) (l++[(k,o)])
|[],[],_=>⟨rfl,hv,trivial⟩
|_::_,_::_,⟨h1,h2,h3⟩=>⟨h1,h2,KvR.snoc hv h3⟩
|[],_::_,h=>h.elim
|_::_,[],h=>h.elim
theorem KvR.mem:∀{al:List (List UInt8×Value)} {l:List Ps.Kv},KvR A w al l→∀{p:List UInt8×Value},p∈al→∃o,(p.1,o)∈l∧OV A w p.2 o
|[],_,_,p,hp=>by cases hp
|a::_,b::_,⟨h1,h2,h3⟩,p,hp=>by
  rcases List.mem_cons.1 hp with rfl|hp
  ·exact⟨b.2,by rw[h1];exact List.mem_cons_self,h2⟩
  ·obtain⟨o,ho,hv⟩:=KvR.mem h3 hp;exact⟨o,List.mem_cons_of_mem _ ho,hv⟩
|_::_,[],h,_,_=>h.elim
theorem KvR.look {k:List UInt8}{o:Ob}:∀{al:List (List UInt8×Value)} {l:List Ps.Kv},KvR A w al l→(l.map (·.1)).Nodup→(k,o)∈l→∃v,kC al k=some v∧OV A w v o
|[],[],_,_,hm=>by cases hm
|p::al,q::l,⟨h1,h2,h3⟩,hn,hm=>by
  rw[List.map_cons,List.nodup_cons] at hn;by_cases hk:p.1=k
  ·have hq:(k,o)=q:=by
    rcases List.mem_cons.1 hm with h|h
    ·exact h
    ·exact absurd (List.mem_map.2 ⟨(k,o),h,by rw[←h1,hk]⟩) hn.1
   refine⟨p.2,by unfold kC;rw[List.find?_cons_of_pos (by simpa using hk)];rfl,?_⟩;rw[←hq] at h2;exact h2
  ·have hm':(k,o)∈l:=by
    rcases List.mem_cons.1 hm with h|h
    ·exact absurd (by rw[h1,←h]) hk
    ·exact h
   obtain⟨v,hv,ho⟩:=KvR.look h3 hn.2 hm';refine⟨v,?_,ho⟩;unfold kC at hv ⊢;rw[List.find?_cons_of_neg (by simpa using hk)];exact hv
|[],_::_,h,_,_=>h.elim
|_::_,[],h,_,_=>h.elim
def SA:Value→Int
|.agg cs=>match cs.toList with|.int _ k::_=>k|_=>0
|_=>0
theorem Ie {v:Value}{o:Ob}(h:OV A w v o):SA v=o.k:=by
 obtain⟨vk,vc,cs,rfl,_⟩:=h.open;rfl
def jA (al:List (List UInt8×Value)):List (List UInt8):=(al.filter fun p=>decide (SA p.2≠0)).map (·.1)
theorem KvR.live:∀{al:List (List UInt8×Value)} {l:List Ps.Kv},KvR A w al l→jA al=Ps.live l
|[],[],_=>rfl
|p::al,q::l,⟨h1,h2,h3⟩=>by
  have ih:=KvR.live h3;unfold jA Ps.live at *;rw[List.filter_cons,List.filter_cons,Ie h2];split
  ·rw[List.map_cons,List.map_cons,ih,h1]
  ·exact ih
|[],_::_,h=>h.elim
|_::_,[],h=>h.elim
theorem Hf (al:List (List UInt8×Value))(p:List UInt8×Value):jA (al++[p])=jA al++(if SA p.2≠0 then [p.1] else []):=by
 unfold jA;rw[List.filter_append,List.map_append]
 congr 1
 by_cases h:SA p.2=0<;>simp[h]
theorem Hp {a b:List (List UInt8×Value)}(h:a.Perm b):(jA a).Perm (jA b):=(h.filter _).map _
theorem rL (al:List (List UInt8×Value)):(jA al).length≤al.length:=by
 unfold jA;rw[List.length_map];exact List.length_filter_le _ _
end
section
variable {w:World}{PK:PKT}{K:VWP}{S:Nat→Prop}{w0:World}{L:List Ent}
theorem zOb:(Tryz.prog.info? 42).bind (·.zero)=some (obV ob0 nilS nilS):=by kernel_rfl
theorem Uy (i:Nat){b:Nat}{al:List (List UInt8×Value)}(ho:OwnS S w0 w L)(hi:L[i]?=some (.mapB b al))(x:List UInt8) :
  DoX prog (JI 182 (.map (some b)) (.string ⟨x.toArray⟩) true) w PK K=K (.tuple #[(kC al x).getD (obV ob0 nilS nilS),.bool (kC al x).isSome]) w:=
 aT (MS (ok:=true) Tryz.underlying182 Tryz.underlying9 zOb (OZ (ho.at_ i hi)) x)
theorem UA (i:Nat){b:Nat}{al:List (List UInt8×Value)}(ho:OwnS S w0 w L)(hi:L[i]?=some (.mapB b al)){x:List UInt8}{v:Value}(hv:kC al x=some v) :
  DoX prog (JI 182 (.map (some b)) (.string ⟨x.toArray⟩) false) w PK K=K v w:=by
 have:=aT (PK:=PK) (K:=K) (MS (ok:=false) Tryz.underlying182 Tryz.underlying9 zOb (OZ (ho.at_ i hi)) x);rw[hv] at this;exact this
theorem lenM (i:Nat){b:Nat}{al:List (List UInt8×Value)}{cs:Array Bool}(ho:OwnS S w0 w L)(hi:L[i]?=some (.mapB b al)) :
  DoX prog (mB .len #[182] 3 cs #[.map (some b)]) w PK K=K (.int .i64 (al.length:Int)) w:=by
 obtain⟨es,clock,h1,h2⟩:=(show ∃es clock,w.heap[b]?=some (.map es clock)∧MapF al es clock from ho.at_ i hi);have hl:es.size=al.length:=by
  have:=congrArg List.length h2.al;simpa using this
 refine aT ?_;simp[mB,builtin,Builtin.len_,run_underlying Tryz.underlying182,getObj,h1,goInt,hl,Sem.run]
end
def itAt (b:Nat)(w:World):Nat:=match w.heap[b]? with|some (.mapIter _ _ seen _)=>seen.size|_=>0
theorem I4 {b:Nat}{m clock:Nat}{seen:Array Nat}{w:World}(h:(Ent.obj b (.mapIter (some m) clock seen clock)).is w):itAt b w=seen.size:=by
 unfold itAt;rw[show w.heap[b]?=_ from h]
theorem JE {es:Array MapEntry}{seen:Array Nat}{done:List (List UInt8×Value)}(h:LF es seen done):seen.size=done.length:=by
 obtain⟨ds,d1,_,_,d4⟩:=h;rw[←Array.length_toList,d1,List.length_map];simpa using congrArg List.length d4
theorem Uq {S0:Nat→Prop}{w W:World}{b b4 b5 b9:Nat}{s:List UInt8}{a:Int}{N:Mem}{al:List (List UInt8×Value)}{l:List Ps.Kv}{o:Ob}{K:Ending→World→Prop}
  (hkv:KvR N.A N.w al l) (hnd:(l.map (·.1)).Nodup) (hmade:Ps.Made o l) (hlen:l.length≤8191)
  (ho:OwnS S0 w W [obE b9 Ps.aZ nilS nilS,keyE nilS [],kidE nilS 0 [],obE b4 ob0 nilS nilS,.mapB b5 al,rmE b s a N])
  (kend:∀(W':World) (N2:Mem) (L:List Ent) (v:Value),OwnS S0 w W' (rdE b s a::.mem N2::L)→N.le N2→OV N2.A N2.w v o→K (.returned v) W') :
  DoX prog (uR 182 (.map (some b5))) W (pk K) fun t49 w=>LoopX [] w (fun vs2 w N2=>∀_:Sg,fD (.pointer (some ⟨b4,0,none⟩)) (.map (some b5)) (.pointer (some ⟨b9,0,none⟩)) t49 w N2 K):=by
 have hall:al.length=l.length:=by simpa using congrArg List.length hkv.fst
 obtain⟨es,clock,hf,ho⟩:=ho.U9 4 rfl;refine Mn 4 Tryz.underlying182 ho rfl fun it w1 ho=>?_;refine loop (fun vs w'=>∃(seen:Array Nat) (done:List (List UInt8×Value)) (vk:Value),vs=[]∧LF es seen done∧done.length≤al.length∧(∀p∈done,p∈al) ∧
   OwnS S0 w w' [.obj it (.mapIter (some b5) clock seen clock),obE b9 Ps.aZ vk nilS,keyE vk (jA done),kidE nilS 0 [],obE b4 ob0 nilS nilS,.obj b5 (.map es clock),rmE b s a N]) (fun _ w=>al.length - itAt it w)
  ⟨#[],[],nilS,rfl,Mr es,by simp,by simp,ho⟩ ?_
 clear ho;rintro vs w2 ⟨seen,done,vk,rfl,hs,hdl,hda,ho⟩ _;simp only[fD];have hit:itAt it w2=seen.size:=I4 (ho.at_ 0 rfl);have hss:=JE hs;refine Pu 0 5 ho rfl rfl hf hs (fun hperm=>?_) fun p e w3 hpa _ he hek hev hs' hlt ho=>?_
 ·-- all have come
  simp only[ex,i_f];have ho:=ho.tail;have ho:OwnS S0 w w2 [obE b9 Ps.aZ vk nilS,keyE vk (jA done),kidE nilS 0 [],obE b4 ob0 nilS nilS,.obj b5 (.map es clock),rmE b s a N]:=ho;have ho:=ho.Ut 4 rfl hf;have ho:OwnS S0 w w2 [obE b9 Ps.aZ vk nilS,keyE vk (jA done),kidE nilS 0 [],obE b4 ob0 nilS nilS,.mapB b5 al,rmE b s a N]:=ho;rw[nT,dN ho 0 rfl];have hll:=rL done;refine dV (KB vk (jA done) w2 (ho.at_ 1 rfl) (by omega)) ?_;rintro _ w3 ⟨rfl,ht⟩;have ho:=ho.turn 1 rfl ht;have hsort:BQ (jA done)=o.keys:=Hk ((Hp hperm).trans (by rw[hkv.live];exact hmade.perm)) hmade.rise;rw[hsort] at ho;have ho:OwnS S0 w w3 [obE b9 Ps.aZ vk nilS,keyE vk o.keys,kidE nilS 0 [],obE b4 ob0 nilS nilS,.mapB b5 al,rmE b s a N]:=ho;have hkl:o.keys.length≤8191:=by
   have h1:=hmade.perm.length_eq;have h2:=hkv.live (A:=N.A);have h3:=rL al;rw[←h1,←h2];omega
  rw[nT,dN ho 0 rfl,bF Tryz.underlying39 (ho.slU 1 rfl)];refine loop (fun vs w'=>∃(i:Nat) (cs:List Value) (vc:Value),vs=[.int .i64 i]∧i≤o.keys.length∧OVs N.A N.w cs (o.kids.take i) ∧
   OwnS S0 w w' [obE b9 Ps.aZ vk vc,keyE vk o.keys,kidE vc i cs,obE b4 ob0 nilS nilS,.mapB b5 al,rmE b s a N]) (fun vs _=>o.keys.length - n0 vs) ⟨0,[],nilS,rfl,by omega,OVs.nil,ho⟩ ?_
  clear ho;rintro vs w4 ⟨i,cs,vc,rfl,hi,hov,ho⟩ _;simp only[mM,gd,rs];by_cases hlt:(i:Int) < (o.keys.length:Int)
  ·have hi':i < o.keys.length:=by omega
   simp only[decide_eq_true hlt,i_t];obtain⟨g,cap,_,ia,ld⟩:=key_row 1 ho rfl hi';refine aT (ia w4) |>.mpr (aT (ld w4 (ho.at_ 1 rfl)) |>.mpr ?_);rw[mH,cX ho 0 rfl];obtain⟨v,hv,hvo⟩:=hkv.look hnd (Ps.P6 hmade hi');rw[UA 4 ho rfl hv];obtain⟨xk,xc,xcs,rfl,hx⟩:=hvo.open;refine AF _ hx.keys.one hx.kids.one ho fun nb w5 ho=>?_;refine JG 3 ho rfl (ho.sl 0 rfl 6 1 1 rfl) (oV _ hx.keys.one hx.kids.one) (by omega) fun vc' w6 ho=>?_;have ho:=ho.tail;have hvc':=bJ (ho.at_ 2 rfl);rw[mH];refine bI 0 ho rfl (by kernel_rfl) hvc' (show 0+5 < 6 by omega) fun w7 ho=>?_;rw[aC (by omega) (by omega)];refine bG ⟨i+1,_,vc',rfl,by omega,?_,ho⟩ (by show o.keys.length - Int.toNat ((i:Int)+1) < o.keys.length - Int.toNat (i:Int);omega);have hkl2:i < o.kids.length:=by have:=hmade.len;omega
   rw[List.take_succ_eq_append_getElem hkl2];exact oJ hov (DQ hx.ov)
  ·have hi':i=o.keys.length:=by omega
   simp only[decide_eq_false hlt,i_f];subst hi';rw[hmade.len,List.take_length] at hov;have hvk:=bJ (ho.at_ 1 rfl);have hvc:=bJ (ho.at_ 2 rfl);rw[ob_v ho 0 rfl];refine bA (o':=Ps.aZ) 3 hvk hvc ho rfl fun w5 ho=>?_;refine iW (bC (ho.agg 3 rfl eU)) ?_;have ho:OwnS S0 w w5 ([obE b9 Ps.aZ vk vc,keyE vk o.keys,kidE vc o.keys.length cs,obE b4 Ps.aZ vk vc,.mapB b5 al]++([rmE b s a N]++[])):=ho;have ho:=ho.front.split;have ho:OwnS S0 w w5 ([rdE b s a,.mem N,obE b9 Ps.aZ vk vc]++([keyE vk o.keys,kidE vc o.keys.length cs]++[obE b4 Ps.aZ vk vc,.mapB b5 al])):=ho;have ho:=ho.front;obtain⟨N2,hle2,hrow2,ho⟩:=OwnS.eT (L:=[kidE vc o.keys.length cs,rdE b s a,.mem N,obE b9 Ps.aZ vk vc,obE b4 Ps.aZ vk vc,.mapB b5 al]) ho 2 rfl;obtain⟨N3,hle3,hrow3,ho⟩:=OwnS.eT (L:=[rdE b s a,.mem N2,obE b9 Ps.aZ vk vc,obE b4 Ps.aZ vk vc,.mapB b5 al]) ho 1 rfl;have hval:obV Ps.aZ vk vc=obV o vk vc:=by
    unfold obV obC;rw[hmade.k,hmade.n,hmade.g,hmade.s];rfl
   refine kend w5 N3 _ _ ho (hle2.trans hle3) ?_;show OV N3.A N3.w (obV Ps.aZ vk vc) o;rw[hval];rw[hmade.len] at hrow3;exact ObAt.ov ⟨hrow2.le hle3,hrow3,(hov.le hle2).le hle3⟩
 ·simp only[ex,i_t];have ho:OwnS S0 w w3 [.obj it (.mapIter (some b5) clock (seen.push e.born) clock),obE b9 Ps.aZ vk nilS,keyE vk (jA done),kidE nilS 0 [],obE b4 ob0 nilS nilS,.obj b5 (.map es clock),rmE b s a N]:=ho;rw[OE 0 5 ho rfl rfl hf he,hek,hev];simp only[ex];obtain⟨x,hxl,hxo⟩:=hkv.mem hpa;have hkind:=Ie hxo;obtain⟨xk,xc,xcs,hpe,hx⟩:=hxo.open;obtain⟨pk1,pv⟩:=p;simp only at hpe hkind;subst hpe;refine bU ho fun b11 w4 ho=>?_;refine bA (o':=x) 0 hx.keys.one hx.kids.one ho rfl fun w5 ho=>?_;have ho:OwnS S0 w w5 [obE b11 x xk xc,.obj it (.mapIter (some b5) clock (seen.push e.born) clock),obE b9 Ps.aZ vk nilS,keyE vk (jA done),kidE nilS 0 [],obE b4 ob0 nilS nilS,.obj b5 (.map es clock),rmE b s a N]:=ho;rw[oG,ob_k ho 0 rfl];simp only[rs];have hsn:=Hf done (pk1,obV x xk xc);have mea:∀{W:World} {L:List Ent},OwnS S0 w W L→L[0]?=some (.obj it (.mapIter (some b5) clock (seen.push e.born) clock))→al.length - itAt it W < al.length - itAt it w2:=by
   intro W L ho hi;rw[hit,I4 (ho.at_ 0 hi),Array.size_push];omega
  have hda':∀q∈done++[(pk1,obV x xk xc)],q∈al:=by
   intro q hq;rcases List.mem_append.1 hq with hq|hq
   ·exact hda q hq
   ·rw[List.mem_singleton] at hq;subst hq;exact hpa
  by_cases hk:x.k=0
  ·simp only[hk,ne_eq,not_true,decide_false,i_f];rw[if_neg (by rw[hkind,hk];simp),List.append_nil] at hsn;refine bG ⟨_,done++[(pk1,obV x xk xc)],vk,rfl,hs',by simp;omega,hda',?_⟩ (mea ho.tail rfl);rw[hsn];exact ho.tail
  ·simp only[hk,ne_eq,not_false_eq_true,decide_true,i_t];rw[if_pos (by rw[hkind];exact hk)] at hsn;rw[nT,dN ho 2 rfl];have hll:=rL done;show DoX prog (aP 39 1 #[(0,.string ⟨pk1.toArray⟩)]) w5 _ _;refine qJ pk1 ho fun nb w6 ho=>?_;refine F8 4 ho rfl (ho.sl 0 rfl 1 1 1 rfl) (by simp[Value.oneCell']) (by omega) fun vk' w7 ho=>?_;have ho:=ho.tail.tail;have ho:OwnS S0 w w7 [.obj it (.mapIter (some b5) clock (seen.push e.born) clock),obE b9 Ps.aZ vk nilS,keyE vk' (jA done++[pk1]),kidE nilS 0 [],obE b4 ob0 nilS nilS,.obj b5 (.map es clock),rmE b s a N]:=by
    have e:bR (jA done++[pk1])=bR (jA done)++[.string ⟨pk1.toArray⟩]:=by rw[oH];rfl
    rw[keyE,List.length_append,List.length_singleton,e];exact ho
   have hvk':=bJ (ho.at_ 2 rfl);rw[nT];refine bI 1 ho rfl (by kernel_rfl) hvk' (show 0+4 < 6 by omega) fun w8 ho=>?_;refine bG ⟨_,done++[(pk1,obV x xk xc)],vk',rfl,hs',by simp;omega,hda',?_⟩ (mea ho rfl);rw[hsn];exact ho
end
section
open Eng Go.RowKit
theorem Oa {s:List UInt8}{sub:Int→Ps.R}{m:Nat}{a:Int}{o:Ob}{met:List (List UInt8)}(h:¬Has s a):Ps.dict s sub (m+1) a o met=Ps.bad (CQ s a):=by
 rw[Ps.dict];unfold Has at h;unfold CQ;by_cases e1:(Lx.next s a).2=0
 ·have e2:(Lx.next s a).1.k=0:=Classical.not_not.1 fun h2=>h ⟨e1,h2⟩;rw[if_neg (by rw[e1];simp),if_neg (fun h3=>by rw[e2] at h3;exact absurd h3.1 (by decide)),if_pos e2,if_neg (by rw[e1];simp)]
 ·rw[if_pos e1,if_pos e1]
theorem OM (s:List UInt8)(hs:s.length≤1000000000)(n:Nat)(hn:n≤23)(hsub:PObj s n):UI s n:=by
 intro b a M w h0 h1 hr;generalize hR:Ps.dict s (Ps.obj s n) (s.length+1) a Ps.aZ []=R;refine qD (fun K ho hret hpan=>vG ?_) hr;unfold gW;have ho:=ho.pair;refine bU ho fun b4 w1 ho=>?_;refine JM ho fun b5 w2 ho=>?_;generalize hS0:(rmE b s a M).blk=S0 at *;have ho:OwnS S0 w w2 [.mapB b5 [],obE b4 ob0 nilS nilS,rmE b s a M]:=ho;have fall:∀{W:World} {L:List Ent} {e2:Ent} {N:Mem} (e:Int),OwnS S0 w W (L++([.two e2 (.mem N)]++[]))→M.le N→R=Ps.bad e→e≠0→pk K [pZ e] W:=by
  intro W L e2 N e ho hle he h0;subst he;exact hpan h0 e2 N W _ (ho.front).split hle
 refine loop (fun vs w'=>∃(a':Int) (m:Nat) (o:Ob) (l:List Ps.Kv) (al:List (List UInt8×Value)) (N:Mem),vs=[]∧0≤a'∧a'≤s.length∧(l.length:Int)≤a'∧l.length≤8191∧l.length+m=s.length+1 ∧
   Ps.dict s (Ps.obj s n) m a' o (l.map (·.1))=R∧M.le N∧KvR N.A N.w al l∧(l.map (·.1)).Nodup∧Ps.Made o l ∧
   OwnS S0 w w' [.mapB b5 al,obE b4 ob0 nilS nilS,rmE b s a' N]) (fun _ w=>s.length - rdAt b w)
  ⟨a,s.length+1,Ps.aZ,[],[],M,rfl,h0,h1,by simpa using h0,by simp,by simp,hR,M.le_refl,trivial,List.nodup_nil,Ps.Un,ho⟩ ?_
 clear ho hR;rintro vs w4 ⟨a',m,o,l,al,N,rfl,ha0,ha1,hla,hmx,hml,hdict,hle,hkv,hnd,hmade,ho⟩ _;simp only[mD];obtain⟨m,rfl⟩:∃k,m=k+1:=⟨m - 1,by omega⟩;have hall:al.length=l.length:=by simpa using congrArg List.length hkv.fst
 have hat:rdAt b w4=a'.toNat:=I6 (ho.at_ 2 rfl).1;refine c_rm ho 2 rfl (BR b s a' N w4 (by omega) (ho.at_ 2 rfl)) ?_ fun e2 w5 hn ho=>?_
 rotate_left
 ·rw[Oa hn] at hdict;exact fall (L:=[_,_]) _ ho hle hdict.symm rN
 rintro _ N1 w5 hhas hle1 rfl ho;have hbd:=@Lx.bV s a' hhas.1 hhas.2;have hge:=Lx.cO s a'.toNat;obtain⟨e1,e2⟩:=hhas;rw[Ps.dict] at hdict;generalize Lx.next s a'=x at *
 rw[if_neg (by rw[e1];simp)] at hdict;refine jY ho fun b6 w6 ho=>?_;refine nI 0 ho rfl fun w7 ho=>?_;have ho:OwnS S0 w w7 [tokE b6 x.1,.mapB b5 al,obE b4 ob0 nilS nilS,rmE b s x.1.t N1]:=ho;rw[tk_v ho 0 rfl];refine aS ho (R:=fun v=>v=.bool (decide (x.1.k=6)&&decide (x.1.s=[62,62]))) (Fi x.1 6 [62,62] w7) ?_;rintro _ w8 rfl ho;cases e3:(decide (x.1.k=6)&&decide (x.1.s=[62,62])) with
|true=>
  simp only[Bool.and_eq_true,decide_eq_true_eq] at e3;rw[if_pos ⟨e3.1,e3.2⟩] at hdict;simp only[i_t];have hb7:∀{PK:PKT} {K:VWP},DoX prog (aG 42 #[(0,(.int .i64 7))]) w8 PK K=K (obV Ps.aZ nilS nilS) w8:=aT (by kernel_rfl);rw[hb7];have ho:=(ho.nilU 42 6).nilU 9 1;refine bU ho fun b9 w9 ho=>?_;refine bA (o':=Ps.aZ) (vk':=nilS) (vc':=nilS) 0 rfl rfl ho rfl fun w10 ho=>?_;have ho:OwnS S0 w w10 ([obE b9 Ps.aZ nilS nilS,keyE nilS [],kidE nilS 0 []]++([tokE b6 x.1]++[.mapB b5 al,obE b4 ob0 nilS nilS,rmE b s x.1.t N1])):=ho;have ho:=ho.front.tail;have ho:OwnS S0 w w10 ([obE b9 Ps.aZ nilS nilS,keyE nilS [],kidE nilS 0 []]++([.mapB b5 al]++([obE b4 ob0 nilS nilS]++[rmE b s x.1.t N1]))):=ho;have ho:OwnS S0 w w10 [obE b9 Ps.aZ nilS nilS,keyE nilS [],kidE nilS 0 [],obE b4 ob0 nilS nilS,.mapB b5 al,rmE b s x.1.t N1]:=
   ho.perm (List.Perm.append_left [obE b9 Ps.aZ nilS nilS,keyE nilS [],kidE nilS 0 []] (List.Perm.swap _ _ _))
  refine Uq (hkv.le hle1) hnd hmade hmx ho fun W N2 L v ho hle2 hv=>?_;subst hdict;exact hret rfl v N2 W L ho ((hle.trans hle1).trans hle2) hv
|false=>
 have e3':¬(x.1.k=6∧x.1.s=[62,62]):=fun h=>by
  rw[decide_eq_true h.1,decide_eq_true h.2] at e3;exact absurd e3 (by decide)
 rw[if_neg e3',if_neg e2] at hdict;simp only[i_f,bK,tk_s ho 0 rfl];rw[Uy 1 ho rfl];simp only[ex];have hlook:∃o' vk vc,(kC al x.1.s).getD (obV ob0 nilS nilS)=obV o' vk vc∧vk.oneCell'=true∧vc.oneCell'=true:=by
  cases hl:kC al x.1.s with
 |none=>exact⟨ob0,nilS,nilS,rfl,rfl,rfl⟩
 |some v=>
   have hm:(x.1.s,v)∈al:=by
    unfold kC at hl;obtain⟨p,hp,hpv⟩:=Option.map_eq_some_iff.1 hl;have h1:=List.find?_some hp;have h2:=List.mem_of_find?_eq_some hp;simp only[decide_eq_true_eq] at h1;rw[←h1,←hpv];exact h2
   obtain⟨q,_,hq⟩:=hkv.mem hm;obtain⟨vk,vc,cs,he,ha⟩:=hq.open;exact⟨q,vk,vc,he,ha.keys.one,ha.kids.one⟩
 obtain⟨o',vk7,vc7,hlv,ok7,oc7⟩:=hlook;rw[hlv];refine bU ho fun b7 w9 ho=>?_;refine bA (o':=o') 0 ok7 oc7 ho rfl fun w10 ho=>?_;have ho:=ho.tail;have ho:OwnS S0 w w10 [tokE b6 x.1,.mapB b5 al,obE b4 ob0 nilS nilS,rmE b s x.1.t N1]:=ho;have hmet:(kC al x.1.s).isSome=decide (x.1.s∈l.map (·.1)):=by
  rw[←hkv.fst];cases hl:kC al x.1.s with
 |none=>rw[decide_eq_false (nV.1 hl)];rfl
 |some v=>
   have:¬x.1.s ∉ al.map (·.1):=fun h=>by rw[nV.2 h] at hl;cases hl
   rw[decide_eq_true (Classical.not_not.1 this)];rfl
 refine join fun J hJ=>?_;rw[cS,tk_k ho 0 rfl];simp only[rs];by_cases e4:x.1.k=4
 case neg=>
  rw[if_pos e4] at hdict;simp only[e4,ne_eq,not_false_eq_true,decide_true,i_t];exact throw (fall (L:=[_,_,_]) 3 ho (hle.trans hle1) hdict.symm (by decide))
 rw[if_neg (by rw[e4];simp)] at hdict;simp only[e4,ne_eq,not_true,decide_false,i_f,hmet];by_cases e5:x.1.s∈l.map (·.1)
 ·rw[if_pos e5] at hdict;simp only[decide_eq_true e5,i_t];exact throw (fall (L:=[_,_,_]) 9 ho (hle.trans hle1) hdict.symm (by decide))
 rw[if_neg e5] at hdict;simp only[decide_eq_false e5,i_f];rw[lenM 1 ho rfl,List.length_map] at *;simp only[rs];by_cases e6:l.length=8191
 ·rw[if_pos e6] at hdict;simp only[show (8191:Int)≤(al.length:Int) by omega,decide_true,i_t];exact throw (fall (L:=[_,_,_]) 6 ho (hle.trans hle1) hdict.symm (by decide))
 rw[if_neg e6] at hdict;simp only[decide_eq_false (show ¬(8191:Int)≤(al.length:Int) by omega),i_f];refine hJ _ _ fun _=>?_;unfold mC;have ho:=ho.drew;refine⟨fun W=>(tokE b6 x.1).is W,ho.at_ 0 rfl,?_⟩;refine aR _ (fun _=>aY ft4) ?_;refine iB (.string ⟨x.1.s.toArray⟩) (fun W h=>aM nStr (aU (T:=53) (cs:=tokC x.1) (i:=4) h rfl)) ?_;refine c_rm ho 3 rfl (BR b s x.1.t N1 _ (by omega) (ho.at_ 3 rfl)) ?_ fun e2 w11 hn ho=>?_
 rotate_left
 ·rw[FZ hn,if_pos (show (Ps.bad (CQ s x.1.t)).2.2≠0 from rN)] at hdict;exact fun _ _ _ _ _ _=>fall (L:=[_,_,_]) _ ho (hle.trans hle1) hdict.symm rN
 rintro _ N2 w11 hhas2 hle2 rfl ho;refine⟨ho.at_ 0 rfl,?_⟩;have hbd2:=@Ps.JS s n x.1.t;have hob:=hsub b x.1.t N2 w11 hhas2 (ho.at_ 3 rfl);generalize Ps.obj s n x.1.t=e at *;refine c_rm ho 3 rfl hob ?_ fun e2 w12 hz ho=>?_
 rotate_left
 ·rw[if_pos hz] at hdict;exact fun _ _ _ _ _ _=>fall (L:=[_,_,_]) _ ho ((hle.trans hle1).trans hle2) hdict.symm hz
 rintro u N3 w12 hz hle3 hu ho;have ho:OwnS S0 w w12 [tokE b6 x.1,.mapB b5 al,obE b4 ob0 nilS nilS,rmE b s e.2.1 N3]:=ho;refine⟨ho.at_ 0 rfl,?_⟩;have hln:kC al x.1.s=none:=nV.2 (by rw[hkv.fst];exact e5);refine JX 1 Tryz.underlying182 Tryz.underlying9 ho rfl x.1.s u hln fun w13 ho=>⟨ho.at_ 0 rfl,?_⟩;rw[if_neg (by rw[hz];simp)] at hdict;have hbd3:=hbd2 hz;have hm2:=Ps.Kh (v:=e.1) hmade e5;have hnd2:((l++[(x.1.s,e.1)]).map (·.1)).Nodup:=by
  rw[List.map_append,List.nodup_append];refine⟨hnd,by simp,fun p hp q hq=>?_⟩;simp at hq;subst hq;exact fun h=>e5 (h▸hp)
 have h5:a' < e.2.1:=by
  have:=hbd3.1;omega
 refine bG ⟨e.2.1,m,Ps.join o x.1.s e.1,l++[(x.1.s,e.1)],al++[(x.1.s,u)],N3,rfl,by omega,hbd3.2,by simp;omega,by simp;omega,by simp;omega,?_,((hle.trans hle1).trans hle2).trans hle3,(((hkv.le hle1).le hle2).le hle3).snoc hu,hnd2,hm2,ho.tail⟩ ?_
 ·rw[List.map_append];exact hdict
 ·have hat2:rdAt b w13=e.2.1.toNat:=I6 (ho.at_ 3 rfl).1;show s.length - rdAt b w13 < s.length - rdAt b w4;rw[hat,hat2];exact meas ha0 h5 hbd3.2
theorem LX (s:List UInt8)(hs:s.length≤1000000000)(n:Nat)(hn:n≤24):PObj s n:=
 Rh s hs (fun n hn h=>QD s hs n hn h) (fun n hn h=>OM s hs n hn h) n hn
end
section
open Eng Go.RowKit
namespace Ps
theorem Qe {s:List UInt8}{ok:Bool}{sub:Int→R}:∀(m:Nat) (a:Int) (acc:List Ob),(arr s ok sub m a acc).2.2≠0→arr s ok sub m a acc=bad (arr s ok sub m a acc).2.2
|0,_,_,_=>rfl
|m+1,a,acc,h=>by
  rw[arr] at h ⊢;split
  ·rename_i h1;rw[if_pos h1] at h;exact absurd rfl h
  rename_i h1
  rw[if_neg h1] at h;split
  ·rfl
  rename_i h2
  rw[if_neg h2] at h;split
  ·rfl
  rename_i h3
  rw[if_neg h3] at h;split
  ·rfl
  rename_i h4
  rw[if_neg h4] at h;exact Qe m _ _ h
theorem Mk {s:List UInt8}{sub:Int→R}:∀(m:Nat) (a:Int) (o:Ob) (met:List (List UInt8)),(dict s sub m a o met).2.2≠0→dict s sub m a o met=bad (dict s sub m a o met).2.2
|0,_,_,_,_=>rfl
|m+1,a,o,met,h=>by
  rw[dict] at h ⊢;split
  ·rfl
  rename_i h1
  rw[if_neg h1] at h;split
  ·rename_i h2;rw[if_pos h2] at h;exact absurd rfl h
  rename_i h2
  rw[if_neg h2] at h;split
  ·rfl
  rename_i h3
  rw[if_neg h3] at h;split
  ·rfl
  rename_i h4
  rw[if_neg h4] at h;split
  ·rfl
  rename_i h5
  rw[if_neg h5] at h;split
  ·rfl
  rename_i h6
  rw[if_neg h6] at h;split
  ·rfl
  rename_i h7
  rw[if_neg h7] at h;exact Mk m _ _ _ h
theorem T7 {s:List UInt8}{t:Lx.Tok}:(leaf s t).2.2=0:=by
 unfold leaf;split
 ·cases ref s t<;>rfl
 all_goals (repeat' split)<;>rfl
theorem PD {s:List UInt8}{n:Nat}{a:Int}(h:(obj s n a).2.2≠0):obj s n a=bad (obj s n a).2.2:=by
 have hob:obj s n a=_:=obj.eq_def s n a;simp only at hob
 revert h
 rw[hob];intro h;split
 ·rfl
 rename_i h1
 rw[if_neg h1] at h;split
 ·rfl
 rename_i h2
 rw[if_neg h2] at h;split
 ·rfl
 rename_i h3
 rw[if_neg h3] at h;cases n with
|zero=>rfl
|succ n=>
  simp only at h ⊢;split
  ·rename_i h4;rw[if_pos h4] at h;exact absurd T7 h
  rename_i h4
  rw[if_neg h4] at h;split
  ·rename_i h5;rw[if_pos h5] at h;exact Qe _ _ _ h
  ·rename_i h5;rw[if_neg h5] at h;exact Mk _ _ _ _ h
end Ps
theorem DF:dQ prog 149=true:=by kernel_rfl
theorem NC (b:Nat)(s:List UInt8)(a:Int)(M:Mem)(w:World)(hs:s.length≤1000000000)(hr:(rmE b s a M).is w) :
  Ret prog 110 #[rdP b] w (fun v w'=>∃N u e2,M.le N∧v=.tuple #[u,.int .i64 (Ps.obj s 24 a).2.2]∧OV N.A N.w u (Ps.obj s 24 a).1∧((Ps.obj s 24 a).2.2=0→e2=rdE b s (Ps.obj s 24 a).2.1)∧Turn (rmE b s a M) (.two e2 (.mem N)) w w'):=by
 refine aO fun K hK=>wP ?_;unfold iI;have ho:OwnS (rmE b s a M).blk w w [rmE b s a M]:=OwnS.lend hr;generalize hS0:(rmE b s a M).blk=S0 at ho;refine bU ho fun b2 w1 ho=>?_;refine dD (fun b=>.pointer (some ⟨b,0,none⟩)) [.int .i64 0] 24 (fun _=>by kernel_rfl) ho fun b3 w2 ho=>?_;have ho:OwnS S0 w w2 [.cells b3 [.int .i64 0] 24,obE b2 ob0 nilS nilS,rmE b s a M]:=ho
 -- a syntax error
 have fail2:∀{W:World} {e2:Ent} {e:Int} {N:Mem},OwnS S0 w W [.cells b3 [.int .i64 0] 24,obE b2 ob0 nilS nilS,.two e2 (.mem N)]→M.le N→Ps.obj s 24 a=Ps.bad e→e≠0→cE (.pointer (some ⟨b2,0,none⟩)) (.pointer (some ⟨b3,0,none⟩)) K [pZ e] W:=by
  intro W e2 e N ho hle he h0;show pd prog _ K _ [pZ e] W;unfold pd;refine zQ (by simp) DF (uT ?_);simp only[qA,recV,recM,pZ,Eng.L7 Tryz.underlying20,rs,R6 nfW,ex,i_t,i_f];refine bI 0 ho rfl (by kernel_rfl) rfl (by simp) fun w7 ho=>?_;refine uU (bC (ho.agg 1 rfl eU)) (bC (AtV.cell LG (ho.cell 0 rfl 0 rfl))) (hK _ _ ⟨N,obV ob0 nilS nilS,e2,hle,?_,?_,?_,?_⟩)
  ·rw[he];rfl
  ·rw[he];exact xP
  ·rw[he];exact fun h=>absurd h h0
  ·have ho:OwnS S0 w w7 ([.cells b3 [.int .i64 e] 24,obE b2 ob0 nilS nilS]++([.two e2 (.mem N)]++[])):=ho;have ho:=ho.front;subst hS0;exact OwnS.back ho
 refine c_rm ho 2 rfl (BR b s a M w2 (by omega) (ho.at_ 2 rfl)) ?_ fun e2 w3 hn ho=>fail2 ho M.le_refl (FZ hn) rN;rintro _ N w3 hh hle rfl ho;have hob:=LX s hs 24 (by omega) b a N w3 hh (ho.at_ 2 rfl);rw[show (24:Int) - ((24:Nat):Int)=0 by decide] at hob;refine c_rm ho 2 rfl hob ?_ fun e2 w4 hz ho=>fail2 ho hle (Ps.PD hz) hz;rintro u N2 w4 hz hle2 hu ho;obtain⟨xk,xc,xcs,rfl,hx⟩:=hu.open;refine bA 1 hx.keys.one hx.kids.one ho rfl fun w5 ho=>?_;refine bI 0 ho rfl (by kernel_rfl) rfl (by simp) fun w6 ho=>?_;refine zQ (by simp) DF (uT ?_);simp only[qA,recV,recM,Eng.M1 Tryz.underlying20,rs];have ho:OwnS S0 w w6 ([.cells b3 [.int .i64 0] 24,obE b2 (Ps.obj s 24 a).1 xk xc]++([.two (rdE b s (Ps.obj s 24 a).2.1) (.mem N2)]++[])):=ho;refine uU (bC (ho.agg 1 rfl eU)) (bC (AtV.cell LG (ho.cell 0 rfl 0 rfl))) (hK _ _ ⟨N2,obV (Ps.obj s 24 a).1 xk xc,_,hle.trans hle2,?_,hx.ov,fun _=>rfl,?_⟩)
 ·rw[hz];rfl
 ·have ho:=ho.front;subst hS0;exact OwnS.back ho
theorem Dy (s:List UInt8)(a:Int)(hs:s.length≤1000000000)(M:Mem)(w:World)(hM:M.has w):RetM prog 65 #[.string ⟨s.toArray⟩,.int .i64 a] M w (objR (Ps.object s a)):=by
 refine uL hM fun K hK=>CZ ?_;unfold qK;refine bU (OwnS.memS hM) fun b4 w1 ho=>?_;have fail:a < 0∨(s.length:Int) < a→DoX prog (aG 42 #[]) w1 (pk K) (fun t W=>DoX prog (aD 42 (.pointer (some ⟨b4,0,none⟩)) t) W (pk K) fun _ W=>RetX prog [.cell (.pointer (some ⟨b4,0,none⟩)) 42,.val (.int .i64 0),.val (.int .i64 1)] W K):=by
  intro h;refine Bg 0 ho rfl fun w' ho=>?_;refine hK _ _ M _ 1 ho rfl M.le_refl ?_;rw[Ps.object,if_pos h];exact⟨_,rfl,xP⟩
 by_cases h1:a < 0
 ·simp only[rs,decide_eq_true h1,g_un];exact fail (.inl h1)
 by_cases h2:(s.length:Int) < a
 ·simp only[rs,decide_eq_false h1,bD Tryz.underlying9,decide_eq_true h2,g_un];exact fail (.inr h2)
 simp only[rs,decide_eq_false h1,bD Tryz.underlying9,decide_eq_false h2,g_un];clear fail;have hPs:Ps.object s a=Ps.obj s 24 a:=by rw[Ps.object,if_neg (by omega)]
 rw[hPs] at hK;have hb1:∀{PK:PKT} {K:VWP},DoX prog (aG 144 #[(0,.string ⟨s.toArray⟩),(1,.int .i64 a)]) w1 PK K=K (.agg (rdC s a).toArray) w1:=aT (by kernel_rfl);rw[hb1];refine dD (fun b=>.pointer (some ⟨b,0,none⟩)) (rdC s a) 144 (fun _=>by kernel_rfl) ho fun b22 w2 ho=>?_;have ho:OwnS M.A w w2 ([rdE b22 s a]++([obE b4 ob0 nilS nilS]++([.mem M]++[]))):=ho;have ho:OwnS M.A w w2 ([rdE b22 s a]++([.mem M]++([obE b4 ob0 nilS nilS]))):=ho.perm (List.Perm.append_left _ (List.Perm.swap _ _ _));have ho:=ho.pair;refine dV (NC b22 s a M w2 hs (ho.at_ 0 rfl)) ?_;rintro _ w3 ⟨N,u,e2,hle,rfl,hu,he2,ht⟩;have ho:=(ho.turn 0 rfl ht).split;have ho:OwnS M.A w w3 [e2,.mem N,obE b4 ob0 nilS nilS]:=ho;simp only[ex];obtain⟨xk,xc,xcs,rfl,hx⟩:=hu.open;refine bU ho fun b8 w4 ho=>?_;refine bA 0 hx.keys.one hx.kids.one ho rfl fun w5 ho=>?_;have ho:OwnS M.A w w5 [obE b8 (Ps.obj s 24 a).1 xk xc,e2,.mem N,obE b4 ob0 nilS nilS]:=ho;simp only[rs];by_cases hz:(Ps.obj s 24 a).2.2=0
 case neg=>
  simp only[hz,ne_eq,not_false_eq_true,decide_true,i_t];refine Bg 3 ho rfl fun w' ho=>?_;refine hK _ _ N _ 2 ho rfl hle ?_;rw[Ps.PD hz];exact⟨_,rfl,xP⟩
 simp only[hz,ne_eq,not_true,decide_false,i_f];rw[he2 hz] at ho;have ho:=ho.drew;refine⟨fun W=>(obE b8 (Ps.obj s 24 a).1 xk xc).is W∧(rdE b22 s (Ps.obj s 24 a).2.1).is W,⟨ho.at_ 0 rfl,ho.at_ 1 rfl⟩,?_⟩;refine iB (obV (Ps.obj s 24 a).1 xk xc) (fun W h=>bL (AtV.agg eU (cs:=obC (Ps.obj s 24 a).1 xk xc) rfl fun j u hj=>by rw[Nat.zero_add];exact aU (T:=42) h.1 hj)) ?_;refine aR _ (fun _=>dT) (aR _ (fun _=>aY fr1) (iB _ (fun W h=>Vj h.2) ?_));refine bA 3 hx.keys.one hx.kids.one ho rfl fun w6 ho=>⟨⟨ho.at_ 0 rfl,ho.at_ 1 rfl⟩,?_⟩;refine BA (bC (ho.agg 3 rfl eU)) dR dR (hK _ _ N _ 2 ho rfl hle ?_);exact⟨_,by rw[hz];rfl,hx.ov⟩
end
end Go.Proofs.YtoofficgclghoaaGreatDoor





namespace Go.Proofs.YtoofficgclghoaaGreatDoor
section
open Go
namespace Lx
open Oc
theorem zV:∀(b:Bool) (l m:List UInt8),cU b l < l.length→cU b (l++m)=cU b l
|_,[],m,h=>by simp at h
|true,c::t,m,h=>by
  rw[List.cons_append,cU,cU,zV (!eol c) t m (by rw[cU,List.length_cons] at h;omega)]
|false,c::t,m,h=>by
  rw[List.cons_append,cU,cU];rw[cU,List.length_cons] at h;by_cases h1:c=37
  ·rw[if_pos h1] at h;rw[if_pos h1,if_pos h1,zV true t m (by omega)]
  ·rw[if_neg h1] at h;rw[if_neg h1,if_neg h1];by_cases h2:gE c=true
   ·rw[if_pos h2] at h;rw[if_pos h2,if_pos h2,zV false t m (by omega)]
   ·rw[if_neg h2,if_neg h2]
theorem Qc {s:List UInt8}(r:List UInt8){k:Nat}(hk:k≤s.length)(h:skip s k < s.length):skip (s++r) k=skip s k:=by
 unfold skip at h ⊢;rw[List.drop_append_of_le_length hk,zV false _ r (by rw[List.length_drop];omega)]
theorem JU:∀(l m:List UInt8),runF l < l.length→runF (l++m)=runF l
|[],m,h=>by simp at h
|c::t,m,h=>by
  rw[List.cons_append,runF,runF];rw[runF,List.length_cons] at h;by_cases h1:regular c=true
  ·rw[if_pos h1] at h;rw[if_pos h1,if_pos h1,JU t m (by omega)]
  ·rw[if_neg h1,if_neg h1]
theorem MU {s:List UInt8}(r:List UInt8){k:Nat}(hk:k≤s.length)(h:run s k < s.length):run (s++r) k=run s k:=by
 unfold run at h ⊢;rw[List.drop_append_of_le_length hk,JU _ r (by rw[List.length_drop];omega)]
theorem B1 {s:List UInt8}(r:List UInt8){i j:Nat}(hi:i≤s.length)(hj:j≤s.length):cut (s++r) i j=cut s i j:=by
 unfold cut;rw[List.drop_append_of_le_length hi,List.take_append_of_le_length (by rw[List.length_drop];omega)]
theorem N5 {s:List UInt8}(r:List UInt8){q:Nat}(hq:q < s.length)(h:(token s q).2=0)(hk:(token s q).1.k≠0)(ht:(token s q).1.t < s.length):token (s++r) q=token s q:=by
 have hd:=drop_cons hq;have hd2:(s++r).drop q=s[q]::(s.drop (q+1)++r):=by rw[List.drop_append_of_le_length (by omega),hd];rfl
 have hd3:(s++r).drop (q+1)=s.drop (q+1)++r:=List.drop_append_of_le_length (by omega);have hT:∀S:List UInt8,∀t:List UInt8,S.drop q=s[q]::t→token S q=if s[q]=91∨s[q]=93∨s[q]=123∨s[q]=125 then mark S q 1
  else if s[q]=60 then (if t.head?=some s[q] then mark S q 2 else hex S q)
  else if s[q]=62 then (if t.head?=some s[q] then mark S q 2 else refused 3)
  else if s[q]=47 then name S q
  else if s[q]=40 then text S q
  else if s[q]=41 then refused 3
  else word S q:=fun S t hS=>by rw[token,hS]
 rw[hT s _ hd] at h hk ht ⊢;rw[hT (s++r) _ hd2];have two:∀{c:UInt8},(s.drop (q+1)).head?=some c→q+2≤s.length∧(s.drop (q+1)++r).head?=some c:=by
  intro c hc;have hne:s.drop (q+1)≠[]:=by intro e;rw[e] at hc;cases hc
  have:=List.length_pos_iff.2 hne;rw[List.length_drop] at this;exact⟨by omega,by rw[Ir hne];exact hc⟩
 by_cases g0:s[q]=91∨s[q]=93∨s[q]=123∨s[q]=125
 ·rw[if_pos g0,if_pos g0];unfold mark;rw[B1 r (by omega) (by omega)]
 rw[if_neg g0] at h hk ht ⊢;rw[if_neg g0];by_cases g1:s[q]=60
 ·rw[if_pos g1] at h hk ht ⊢;rw[if_pos g1];by_cases g:(s.drop (q+1)).head?=some s[q]
  ·obtain⟨h2,h3⟩:=two g;rw[if_pos g,if_pos h3];unfold mark;rw[B1 r (by omega) h2]
  ·rw[if_neg g] at h hk ht ⊢;unfold hex at h hk ht;cases hx:hexF (-1) (s.drop (q+1)) with
  |inr e=>rw[hx] at hk;exact absurd rfl hk
  |inl y=>
    have hne:s.drop (q+1)≠[]:=by intro e;rw[e,hexF] at hx;cases hx
    rw[if_neg (by rw[Ir hne];exact g)];unfold hex;rw[hd3,Mv _ _ _ r hx,hx]
 rw[if_neg g1] at h hk ht ⊢;rw[if_neg g1];by_cases g2:s[q]=62
 ·rw[if_pos g2] at h hk ht ⊢;rw[if_pos g2];by_cases g:(s.drop (q+1)).head?=some s[q]
  ·obtain⟨h2,h3⟩:=two g;rw[if_pos g,if_pos h3];unfold mark;rw[B1 r (by omega) h2]
  ·rw[if_neg g] at hk;exact absurd rfl hk
 rw[if_neg g2] at h hk ht ⊢;rw[if_neg g2];by_cases g3:s[q]=47
 ·rw[if_pos g3] at h hk ht ⊢;rw[if_pos g3];unfold name at h hk ht ⊢;cases hx:dJ (cut s (q+1) (run s (q+1))) with
 |none=>rw[hx] at hk;exact absurd rfl hk
 |some y=>
   rw[hx] at h ht;simp only at h ht;rw[qF h] at ht;simp only at ht;have hr:run s (q+1) < s.length:=by omega
   rw[MU r (by omega) hr,B1 r (by omega) (by omega),hx]
 rw[if_neg g3] at h hk ht ⊢;rw[if_neg g3];by_cases g4:s[q]=40
 ·rw[if_pos g4] at h hk ht ⊢;rw[if_pos g4];unfold text at h hk ht ⊢;cases hx:bP 0 1 (s.drop (q+1)) with
 |none=>rw[hx] at hk;exact absurd rfl hk
 |some y=>rw[hd3,oQ _ _ _ _ r hx]
 rw[if_neg g4] at h hk ht ⊢;rw[if_neg g4];by_cases g5:s[q]=41
 ·rw[if_pos g5] at hk;exact absurd rfl hk
 rw[if_neg g5] at h hk ht ⊢;rw[if_neg g5];unfold word at h hk ht ⊢;rw[(Me h).2.2] at ht;have hr:run s q < s.length:=by omega
 rw[MU r (by omega) hr,B1 r (by omega) (by omega)]
theorem Ka {s:List UInt8}(r:List UInt8){a:Int}(h:(next s a).2=0)(hk:(next s a).1.k≠0)(ht:(next s a).1.t < s.length):next (s++r) a=next s a:=by
 obtain⟨b1,b2,b3,b4,b5⟩:=bV h hk;have hq:skip s a.toNat < s.length:=by omega
 have e1:next s a=token s (skip s a.toNat):=by unfold next;rw[if_neg (by omega)]
 have e2:next (s++r) a=token (s++r) (skip s a.toNat):=by
  unfold next
  rw[if_neg (by rw[List.length_append];omega),Qc r (by omega) hq]
 rw[e1] at h hk ht ⊢;rw[e2,N5 r hq h hk ht]
end Lx
end
section
open Go
namespace Ps
open Lx (next Tok Ka)
def UH (s t:List UInt8)(p:Int):Prop:=∀x:Tok,x.t=p→ref s x=none→ref t x=none
def Look (s:List UInt8)(p e:Int):Prop:=(next s p).2=0∧(next s p).1.k≠0∧(next s p).1.t≤e∧((next s p).1.k=1→(next s (next s p).1.t).2=0∧(next s (next s p).1.t).1.k≠0∧(next s (next s p).1.t).1.t≤e)
def VH (s:List UInt8)(sub:Int→R):Prop:=∀a,(sub a).2.2=0→(next s a).2=0∧(next s a).1.k≠0∧(next s a).1.t≤(sub a).2.1 ∧
 ((next s a).1.k=1→(sub a).2.1=(next s a).1.t∨((next s (next s a).1.t).2=0∧(next s (next s a).1.t).1.k≠0∧(next s (next s a).1.t).1.t≤(sub a).2.1))
end Ps
end
section
open Go
namespace Bd
open Lx (next Tok Ka)
theorem gC {s:List UInt8}{a:Int}(h:(Ps.object s a).2.2=0):a < (Ps.object s a).2.1∧(Ps.object s a).2.1≤s.length:=by
 unfold Ps.object at h ⊢;by_cases g:a < 0∨(s.length:Int) < a
 ·rw[if_pos g] at h;exact absurd h (by decide)
 rw[if_neg g] at h ⊢;exact Ps.JS h
end Bd
end
end Go.Proofs.YtoofficgclghoaaGreatDoor


namespace Go.Proofs.YtoofficgclghoaaGreatDoor
section
open Go
structure Cop where
 name:List UInt8
 args:List Ob
 data:List UInt8
namespace Cs
open Lx (next Tok)
def constant (s:List UInt8):Bool:=decide (s=Ps.tru)||decide (s=Ps.fal)||decide (s=Ps.nul)
 mutual
def bQ:Ob→Bool
|.mk k _ _ _ _ kids=>decide (k=8)||pJ kids
def pJ:List Ob→Bool
|[]=>false
|o::l=>bQ o||pJ l
end
 mutual
def depth:Ob→Nat
|.mk _ _ _ _ _ kids=>dM kids+1
def dM:List Ob→Nat
|[]=>0
|o::l=>max (depth o) (dM l)
end
theorem xE (o:Ob):bQ o=(decide (o.k=8)||pJ o.kids):=by cases o;rw[bQ];rfl
theorem HR (o:Ob):depth o=dM o.kids+1:=by cases o;rw[depth];rfl
def lE (s:List UInt8)(a:Int):Bool:=decide (0≤a)&&((s[a.toNat]?).any Oc.gE)
def ends (s:List UInt8)(a:Nat):Bool:=
 match s.drop a with
|w::e::i::r=>Oc.gE w&&decide (e=69)&&decide (i=73)&&(r.isEmpty||r.head?.any Oc.gE)
|_=>false
def BD (s:List UInt8):Nat→Nat→Option Nat
|0,_=>none
|m+1,a=>if s.length≤a then none else if ends s a then some a else BD s m (a+1)
structure Flt where
 at_:Int
 e:Int
def ok:Flt:=⟨0,0⟩
def idW:List UInt8:=[73,68]
def eiW:List UInt8:=[69,73]
def biW:List UInt8:=[66,73]
def rW:List UInt8:=[82]
def keys (s:List UInt8):Nat→Int→Ob→List (List UInt8)→Ob×Int×Flt
|0,_,_,_=>(Vl.ob0,0,⟨0,99⟩)
|m+1,a,o,met=>
  if (next s a).2≠0 then (Vl.ob0,0,⟨Lx.eM s a,(next s a).2⟩)
  else if (next s a).1.k=0 then (Vl.ob0,0,⟨s.length,4⟩)
  else if (next s a).1.k=5∧(next s a).1.s=idW then (o,(next s a).1.t,ok)
  else if (next s a).1.k≠4 then (Vl.ob0,0,⟨(next s a).1.a,3⟩)
  else if (next s a).1.s∈met then (Vl.ob0,0,⟨(next s a).1.a,9⟩)
  else if met.length=8191 then (Vl.ob0,0,⟨(next s a).1.a,6⟩)
  else if (next s (next s a).1.t).2≠0 then (Vl.ob0,0,⟨Lx.eM s (next s a).1.t,(next s (next s a).1.t).2⟩)
  else if (next s (next s a).1.t).1.k=0 then (Vl.ob0,0,⟨s.length,4⟩)
  else if (Ps.object s (next s a).1.t).2.2≠0 then (Vl.ob0,0,⟨(next s (next s a).1.t).1.a,(Ps.object s (next s a).1.t).2.2⟩)
  else if bQ (Ps.object s (next s a).1.t).1 then (Vl.ob0,0,⟨(next s (next s a).1.t).1.a,3⟩)
  else if 24≤depth (Ps.object s (next s a).1.t).1 then (Vl.ob0,0,⟨(next s (next s a).1.t).1.a,7⟩)
  else keys s m (Ps.object s (next s a).1.t).2.1 (Ps.join o (next s a).1.s (Ps.object s (next s a).1.t).1) (met++[(next s a).1.s])
def op0:Cop:=⟨[],[],[]⟩
def image (s:List UInt8)(a:Int):Cop×Int×Flt:=
 let d:=keys s (s.length+1) a Ps.aZ []
 if d.2.2.e≠0 then (op0,0,d.2.2)
 else if lE s d.2.1=false then (op0,0,⟨d.2.1,3⟩)
 else match BD s (s.length+1) (d.2.1.toNat+1) with
 |none=>(op0,0,⟨s.length,4⟩)
 |some i=>(⟨biW,[d.1],(s.drop (d.2.1.toNat+1)).take (i - (d.2.1.toNat+1))⟩,(i:Int)+3,ok)
def operator (s:List UInt8)(t:Tok)(n:Nat)(args:List Ob):Cop×Int×Flt:=
 if 8191≤n then (op0,0,⟨t.a,6⟩)
 else if t.s=biW then (if args≠[] then (op0,0,⟨t.a,3⟩) else image s t.t)
 else if t.s=idW∨t.s=eiW∨t.s=rW then (op0,0,⟨t.a,3⟩)
 else (⟨t.s,args,[]⟩,t.t,ok)
def jV (s:List UInt8):Nat→Int→List Cop→List Ob→List Cop×Flt
|0,_,_,_=>([],⟨0,99⟩)
|m+1,a,l,args=>
  if (next s a).2≠0 then ([],⟨Lx.eM s a,(next s a).2⟩)
  else if (next s a).1.k=0 then (if args≠[] then ([],⟨s.length,4⟩) else (l,ok))
  else if (next s a).1.k=5∧constant (next s a).1.s=false then
   (if (operator s (next s a).1 l.length args).2.2.e≠0 then ([],(operator s (next s a).1 l.length args).2.2)
    else jV s m (operator s (next s a).1 l.length args).2.1 (l++[(operator s (next s a).1 l.length args).1]) [])
  else if (Ps.object s a).2.2≠0 then ([],⟨(next s a).1.a,(Ps.object s a).2.2⟩)
  else if bQ (Ps.object s a).1 then ([],⟨(next s a).1.a,3⟩)
  else if 32≤args.length then ([],⟨(next s a).1.a,6⟩)
  else jV s m (Ps.object s a).2.1 l (args++[(Ps.object s a).1])
def read (s:List UInt8):List Cop×Flt:=jV s (s.length+1) 0 [] []
def named (s:List UInt8):Bool:=
 decide ((next s 0).2=0)&&decide ((next s 0).1.k=5)&&decide ((next s 0).1.a=0)&&decide ((next s 0).1.t=s.length)&&!constant s&&!decide (s=rW)&&!decide (s=biW)&&!decide (s=idW)&&!decide (s=eiW)
def shown (s:List UInt8):Bool:=(List.range s.length).all fun i=>!ends s i
def form (o:Cop):Bool:=
 if o.name=biW then (match o.args with|[d]=>decide (d.k=7)&&shown o.data|_=>false)
 else named o.name&&decide (o.args.length≤32)&&decide (o.data=[])
def uY:List Ob→Int
|[]=>0
|o::l=>if Vl.check 1 o≠0 then Vl.check 1 o else uY l
def may (o:Cop):Int:=
 if form o=false then 3
 else if uY o.args≠0 then uY o.args
 else if o.args.any (fun x=>bQ x||decide (x.k=9)) then 10 else 0
def nQ:List (List UInt8)→List Ob→List (List UInt8)
|k::ks,o::os=>(Pl.xF k).1::(Wr.text o).1::nQ ks os
|_,_=>[]
def parts (o:Cop):List (List UInt8):=
 if o.name=biW then (match o.args with|d::_=>biW::nQ d.keys d.kids++[idW]|[]=>[biW,idW])
 else o.args.map (fun x=>(Wr.text x).1)++[o.name]
def one (o:Cop):List UInt8:=Pl.join (parts o)++[10]++(if o.name=biW then o.data++[10]++eiW++[10] else [])
def refuse:List Cop→Int
|[]=>0
|o::l=>if may o≠0 then may o else refuse l
def text (l:List Cop):List UInt8×Int:=
 if 8191 < l.length then ([],6) else if refuse l≠0 then ([],refuse l) else (l.flatMap one,0)
end Cs
end
end Go.Proofs.YtoofficgclghoaaGreatDoor

namespace Go.Proofs.YtoofficgclghoaaGreatDoor
section
open Go
namespace Cs
open Lx (next Tok Ks token skip)
theorem PI {s:List UInt8}{m:Nat}{a:Int}{o:Ob}{met:List (List UInt8)}(h:(keys s (m+1) a o met).2.2.e=0):(next s a).2=0∧(next s a).1.k≠0 ∧
  ((((next s a).1.k=5∧(next s a).1.s=idW)∧keys s (m+1) a o met=(o,(next s a).1.t,ok)) ∨
   ((next s a).1.k=4∧(next s a).1.s ∉ met∧met.length≠8191∧(next s (next s a).1.t).2=0∧(next s (next s a).1.t).1.k≠0∧(Ps.object s (next s a).1.t).2.2=0∧bQ (Ps.object s (next s a).1.t).1=false∧depth (Ps.object s (next s a).1.t).1 < 24 ∧
   keys s (m+1) a o met=keys s m (Ps.object s (next s a).1.t).2.1 (Ps.join o (next s a).1.s (Ps.object s (next s a).1.t).1) (met++[(next s a).1.s]))):=by
 rw[keys] at h ⊢;by_cases h1:(next s a).2≠0
 ·rw[if_pos h1] at h;exact absurd h h1
 rw[if_neg h1] at h ⊢;by_cases h2:(next s a).1.k=0
 ·rw[if_pos h2] at h;simp at h
 rw[if_neg h2] at h ⊢;refine⟨Classical.not_not.1 h1,h2,?_⟩;by_cases h3:(next s a).1.k=5∧(next s a).1.s=idW
 ·rw[if_pos h3];exact .inl ⟨h3,rfl⟩
 rw[if_neg h3] at h ⊢;by_cases h4:(next s a).1.k≠4
 ·rw[if_pos h4] at h;simp at h
 rw[if_neg h4] at h ⊢;by_cases h5:(next s a).1.s∈met
 ·rw[if_pos h5] at h;simp at h
 rw[if_neg h5] at h ⊢;by_cases h6:met.length=8191
 ·rw[if_pos h6] at h;simp at h
 rw[if_neg h6] at h ⊢;by_cases h7:(next s (next s a).1.t).2≠0
 ·rw[if_pos h7] at h;exact absurd h h7
 rw[if_neg h7] at h ⊢;by_cases h8:(next s (next s a).1.t).1.k=0
 ·rw[if_pos h8] at h;simp at h
 rw[if_neg h8] at h ⊢;by_cases h9:(Ps.object s (next s a).1.t).2.2≠0
 ·rw[if_pos h9] at h;exact absurd h h9
 rw[if_neg h9] at h ⊢;by_cases h10:bQ (Ps.object s (next s a).1.t).1=true
 ·rw[if_pos h10] at h;simp at h
 rw[if_neg h10] at h ⊢;by_cases h11:24≤depth (Ps.object s (next s a).1.t).1
 ·rw[if_pos h11] at h;simp at h
 rw[if_neg h11];exact .inr ⟨Classical.not_not.1 h4,h5,h6,Classical.not_not.1 h7,h8,Classical.not_not.1 h9,by simpa using h10,by omega,rfl⟩
theorem I3 {s:List UInt8}:∀(m:Nat) {a:Int} {o:Ob} {met:List (List UInt8)},(keys s m a o met).2.2.e=0→0≤a∧a < (keys s m a o met).2.1∧(keys s m a o met).2.1≤s.length
|0,a,o,met,h=>by simp[keys] at h
|m+1,a,o,met,h=>by
  obtain⟨h1,h2,h3⟩:=PI h;have b:=Lx.bV h1 h2;have:=Lx.cO s a.toNat;rcases h3 with ⟨_,e⟩|⟨_,_,_,g1,g2,g3,_,_,e⟩
  ·rw[e];exact⟨by omega,by show a < (next s a).1.t;omega,b.2.2.2.2⟩
  ·rw[e] at h ⊢;have c:=Bd.gC g3;have:=I3 m h;omega
theorem IP {s:List UInt8}:∀(m:Nat) {a i:Nat},BD s m a=some i→a≤i∧ends s i=true∧∀j,a≤j→j < i→ends s j=false
|0,a,i,h=>by simp[BD] at h
|m+1,a,i,h=>by
  rw[BD] at h;split at h
  ·cases h
  split at h
  ·rename_i h1
   cases h;exact⟨Nat.le_refl _,h1,fun j h2 h3=>by omega⟩
  ·rename_i h1
   obtain⟨g1,g2,g3⟩:=IP m h;refine⟨by omega,g2,fun j h2 h3=>?_⟩;by_cases hj:j=a
   ·subst hj;simpa using h1
   ·exact g3 j (by omega) h3
theorem MO {s:List UInt8}{a:Nat}(h:ends s a=true):a+3≤s.length:=by
 unfold ends at h;split at h
 ·rename_i w e i r hd
  have:=congrArg List.length hd;rw[List.length_drop] at this;simp only[List.length_cons] at this;omega
 ·cases h
theorem Mh {s:List UInt8}{a:Int}(h:(image s a).2.2.e=0):(keys s (s.length+1) a Ps.aZ []).2.2.e=0∧lE s (keys s (s.length+1) a Ps.aZ []).2.1=true ∧
  ∃i,BD s (s.length+1) ((keys s (s.length+1) a Ps.aZ []).2.1.toNat+1)=some i∧image s a=(⟨biW,[(keys s (s.length+1) a Ps.aZ []).1],(s.drop ((keys s (s.length+1) a Ps.aZ []).2.1.toNat+1)).take (i - ((keys s (s.length+1) a Ps.aZ []).2.1.toNat+1))⟩,(i:Int)+3,ok):=by
 unfold image at h ⊢;simp only at h ⊢;split at h
 ·rename_i h1;exact absurd h h1
 rename_i h1
 rw[if_neg h1];split at h
 ·simp at h
 rename_i h2
 rw[if_neg h2];refine⟨Classical.not_not.1 h1,by simpa using h2,?_⟩;cases hf:BD s (s.length+1) ((keys s (s.length+1) a Ps.aZ []).2.1.toNat+1) with
|none=>rw[hf] at h;simp at h
|some i=>exact⟨i,rfl,rfl⟩
theorem L6 {s:List UInt8}{a:Int}(h:(image s a).2.2.e=0):0≤a∧a < (image s a).2.1∧(image s a).2.1≤s.length:=by
 obtain⟨h1,h2,i,h3,h4⟩:=Mh h;have b:=I3 _ h1;obtain⟨f1,f2,_⟩:=IP _ h3;have:=MO f2;rw[h4];show 0≤a∧a < (i:Int)+3∧(i:Int)+3≤s.length;omega
theorem E9 {s:List UInt8}{t:Tok}{n:Nat}{args:List Ob}(h:(operator s t n args).2.2.e=0):n < 8191 ∧
  ((t.s=biW∧args=[]∧operator s t n args=image s t.t)∨(t.s≠biW∧t.s≠idW∧t.s≠eiW∧t.s≠rW∧operator s t n args=(⟨t.s,args,[]⟩,t.t,ok))):=by
 unfold operator at h ⊢;split at h
 ·simp at h
 rename_i h1
 rw[if_neg h1];refine⟨by omega,?_⟩;split at h
 ·rename_i h2
  rw[if_pos h2];split at h
  ·simp at h
  ·rename_i h3
   rw[if_neg h3];exact .inl ⟨h2,Classical.not_not.1 h3,rfl⟩
 rename_i h2
 rw[if_neg h2];split at h
 ·simp at h
 rename_i h3
 rw[if_neg h3];simp only[not_or] at h3;exact .inr ⟨h2,h3.1,h3.2.1,h3.2.2,rfl⟩
theorem AW {s:List UInt8}{a:Int}{n:Nat}{args:List Ob}(h1:(next s a).2=0)(h2:(next s a).1.k≠0)(h:(operator s (next s a).1 n args).2.2.e=0):0≤a∧a < (operator s (next s a).1 n args).2.1∧(operator s (next s a).1 n args).2.1≤s.length:=by
 have b:=Lx.bV h1 h2;have:=Lx.cO s a.toNat;obtain⟨_,h3⟩:=E9 h;rcases h3 with ⟨_,_,e⟩|⟨_,_,_,_,e⟩
 ·rw[e] at h ⊢;have:=L6 h;omega
 ·rw[e];exact⟨by omega,by show a < (next s a).1.t;omega,b.2.2.2.2⟩
theorem MA {s:List UInt8}{m:Nat}{a:Int}{l:List Cop}{args:List Ob}(h:(jV s (m+1) a l args).2.e=0):(next s a).2=0 ∧
  (((next s a).1.k=0∧args=[]∧jV s (m+1) a l args=(l,ok)) ∨
   ((next s a).1.k=5∧constant (next s a).1.s=false∧(operator s (next s a).1 l.length args).2.2.e=0 ∧
    jV s (m+1) a l args=jV s m (operator s (next s a).1 l.length args).2.1 (l++[(operator s (next s a).1 l.length args).1]) []) ∨
   ((next s a).1.k≠0∧¬((next s a).1.k=5∧constant (next s a).1.s=false)∧(Ps.object s a).2.2=0∧bQ (Ps.object s a).1=false∧args.length < 32 ∧
    jV s (m+1) a l args=jV s m (Ps.object s a).2.1 l (args++[(Ps.object s a).1]))):=by
 rw[jV] at h ⊢;split at h
 ·rename_i h1;exact absurd h h1
 rename_i h1
 rw[if_neg h1];refine⟨Classical.not_not.1 h1,?_⟩;split at h
 ·rename_i h2
  rw[if_pos h2];split at h
  ·simp at h
  rename_i h3
  rw[if_neg h3];exact .inl ⟨h2,Classical.not_not.1 h3,rfl⟩
 rename_i h2
 rw[if_neg h2];split at h
 ·rename_i h3
  rw[if_pos h3];split at h
  ·rename_i h4;exact absurd h h4
  rename_i h4
  rw[if_neg h4];exact .inr (.inl ⟨h3.1,h3.2,Classical.not_not.1 h4,rfl⟩)
 rename_i h3
 rw[if_neg h3];split at h
 ·rename_i h4;exact absurd h h4
 rename_i h4
 rw[if_neg h4];split at h
 ·simp at h
 rename_i h5
 rw[if_neg h5];split at h
 ·simp at h
 rename_i h6
 rw[if_neg h6];exact .inr (.inr ⟨h2,h3,Classical.not_not.1 h4,by simpa using h5,by omega,rfl⟩)
theorem FL {s:List UInt8}:∀(m:Nat) {a:Int} {l:List Cop} {args:List Ob},(jV s m a l args).2.e≠0→(jV s m a l args).1=[]
|0,a,l,args,h=>rfl
|m+1,a,l,args,h=>by
  rw[jV] at h ⊢;split at h
  ·rename_i h1;rw[if_pos h1]
  rename_i h1
  rw[if_neg h1];split at h
  ·rename_i h2
   rw[if_pos h2];split at h
   ·rename_i h3;rw[if_pos h3]
   ·simp[ok] at h
  rename_i h2
  rw[if_neg h2];split at h
  ·rename_i h3
   rw[if_pos h3];split at h
   ·rename_i h4;rw[if_pos h4]
   ·rename_i h4;rw[if_neg h4];exact FL m h
  rename_i h3
  rw[if_neg h3];split at h
  ·rename_i h4;rw[if_pos h4]
  rename_i h4
  rw[if_neg h4];split at h
  ·rename_i h5;rw[if_pos h5]
  rename_i h5
  rw[if_neg h5];split at h
  ·rename_i h6;rw[if_pos h6]
  rename_i h6
  rw[if_neg h6];exact FL m h
end Cs
end
section
open Go
namespace Cs
open Lx (next Tok token skip run cut)
open Ps (R bad VH Look UH ref leaf)
section
variable {s t:List UInt8}
end
theorem zG {s:List UInt8}:∀(m:Nat) {a:Int} {l:List Cop} {args:List Ob},(jV s m a l args).2.e=0→(jV s m a l args).2=ok
|0,a,l,args,h=>by simp[jV] at h
|m+1,a,l,args,h=>by
  obtain⟨h1,h2⟩:=MA h;rcases h2 with ⟨_,_,e⟩|⟨_,_,_,e⟩|⟨_,_,_,_,_,e⟩
  ·rw[e]
  ·rw[e] at h ⊢;exact zG m h
  ·rw[e] at h ⊢;exact zG m h
end Cs
end
section
open Go
namespace Cs
open Lx (next Tok token skip run cut Ks U7 gap)
open Ps (At Toks We)
theorem Jp {B:Nat}:∀l:List Ob,(∀c∈l,depth c≤B)→dM l≤B
|[],_=>by simp[dM]
|o::l,h=>by
  have h1:=h o List.mem_cons_self;have h2:=Jp l fun c hc=>h c (List.mem_cons_of_mem _ hc);rw[dM];omega
theorem KZ (n:Nat):∀(o:Ob) (d:Nat),o.wt≤n→Vl.check d o=0→depth o+d≤25:=by
 induction n with
|zero=>intro o d h;have:=o.zE;omega
|succ n ih=>
  intro o d hw hc;obtain⟨a1,hck⟩:=Vl.yC.1 hc;have:dM o.kids≤24 - d:=by
   refine Jp _ fun c hc=>?_;have hcx:=hck c hc;obtain⟨i,hi,rfl⟩:=List.getElem_of_mem hc;have hkw:=AG hi;have:=ih _ (d+1) (by omega) hcx;omega
  rw[HR];have:=a1.1;omega
structure May (o:Cop):Prop where
 form:form o=true
 check:∀x∈o.args,Vl.check 1 x=0
 kinds:∀x∈o.args,bQ x=false∧x.k≠9
theorem E6:∀l:List Ob,uY l=0↔∀x∈l,Vl.check 1 x=0
|[]=>by simp[uY]
|o::l=>by
  rw[uY];split
  ·rename_i h
   exact⟨fun e=>absurd e h,fun e=>absurd (e o List.mem_cons_self) h⟩
  ·rename_i h
   rw[E6 l];exact⟨fun e x hx=>(List.mem_cons.1 hx).elim (fun g=>by rw[g];exact Classical.not_not.1 h) (fun g=>e x g),fun e x hx=>e x (List.mem_cons_of_mem _ hx)⟩
theorem Uh {o:Cop}:may o=0↔May o:=by
 unfold may;constructor
 ·intro h;split at h
  ·simp at h
  rename_i h1
  split at h
  ·rename_i h2;exact absurd h h2
  rename_i h2
  split at h
  ·simp at h
  rename_i h3
  refine⟨by simpa using h1,(E6 _).1 (Classical.not_not.1 h2),fun x hx=>?_⟩;simp only[List.any_eq_true,not_exists,not_and,Bool.not_eq_true,Bool.or_eq_false_iff,decide_eq_false_iff_not] at h3;exact h3 x hx
 ·rintro⟨h1,h2,h3⟩;rw[if_neg (by simp[h1]),if_neg (by simp[(E6 _).2 h2]),if_neg];simp only[List.any_eq_true,not_exists,not_and,Bool.not_eq_true,Bool.or_eq_false_iff,decide_eq_false_iff_not];exact h3
theorem Jt:∀l:List Cop,refuse l=0↔∀o∈l,may o=0
|[]=>by simp[refuse]
|o::l=>by
  rw[refuse];split
  ·rename_i h
   exact⟨fun e=>absurd e h,fun e=>absurd (e o List.mem_cons_self) h⟩
  ·rename_i h
   rw[Jt l];exact⟨fun e x hx=>(List.mem_cons.1 hx).elim (fun g=>by rw[g];exact Classical.not_not.1 h) (fun g=>e x g),fun e x hx=>e x (List.mem_cons_of_mem _ hx)⟩
end Cs
end
section
open Go
namespace Cs
open Lx (next Tok token skip run cut Ks)
theorem Ou {s:List UInt8}{a:Int}(h:(Ps.object s a).2.2=0):Ps.Val 1 (Ps.object s a).1:=by
 unfold Ps.object at h ⊢;split at h
 ·simp[Ps.bad] at h
 ·rename_i g
  rw[if_neg g];exact Ps.Ua s 24 (Nat.le_refl _) a h
theorem Mw {s:List UInt8}(h:(read s).2.e≠0):(read s).1=[]:=FL _ h
theorem TG {s:List UInt8}(h:(read s).2.e=0):(read s).2=ok:=zG _ h
end Cs
end
section
open Go
namespace Lx
theorem Ow (n:Nat):∀(l x:List UInt8),l.length≤n→dJ l=some x→x.length≤l.length:=by
 induction n with
|zero=>
  intro l x hl h;cases l with
 |nil=>simp[dJ] at h;subst h;simp
 |cons _ _=>simp at hl
|succ n ih=>
  intro l x hl h;cases l with
 |nil=>simp[dJ] at h;subst h;simp
 |cons c t=>
   by_cases hc:c=35
   ·subst hc
    match t,hl,h with
   |[],_,h=>simp[dJ] at h
   |[a],_,h=>simp[dJ] at h
   |a::b::t,hl,h=>
     simp only[dJ,if_true] at h;split at h
     ·cases h
     ·obtain⟨y,hy,rfl⟩:=map_some h;have:=ih t y (by simp at hl;omega) hy;simp only[List.length_cons];omega
   ·rw[Es hc] at h;obtain⟨y,hy,rfl⟩:=map_some h;have:=ih t y (by simpa using hl) hy;simp only[List.length_cons];omega
theorem ED:∀(l:List UInt8) (h:Int) (r:List UInt8×Nat),hexF h l=.inl r→r.1.length≤r.2
|[],_,r,h=>by rw[hexF] at h;cases h
|c::t,h,r,he=>by
  rw[hexF] at he;split at he
  ·cases he;simp only;split<;>simp
  ·split at he
   ·cases hh:hexF h t with
   |inr e=>rw[hh] at he;cases he
   |inl q=>rw[hh] at he;cases he;have:=ED t _ q hh;simp only;omega
   ·split at he
    ·cases he
    ·split at he
     ·cases hh:hexF (digit c) t with
     |inr e=>rw[hh] at he;cases he
     |inl q=>rw[hh] at he;cases he;have:=ED t _ q hh;simp only;omega
     ·cases hh:hexF (-1) t with
     |inr e=>rw[hh] at he;cases he
     |inl q=>rw[hh] at he;cases he;have:=ED t _ q hh;simp only[List.length_cons];omega
theorem RM (l:List UInt8):(escF l).1.length≤1:=by
 cases l with
|nil=>simp[escF]
|cons c t=>
  simp only[escF];split
  ·simp
  ·split
   ·simp
   ·split<;>simp
theorem Gi:∀(l:List UInt8) (k o:Nat) (r:List UInt8×Nat),bP k o l=some r→r.1.length+1≤r.2
|[],k,o,r,h=>by
  cases k<;>(rw[bP] at h;cases h)
|c::t,k+1,o,r,h=>by
  rw[bP] at h;cases hh:bP k o t with
 |none=>rw[hh] at h;cases h
 |some q=>rw[hh] at h;cases h;have:=Gi t k o q hh;simp only;omega
|c::t,0,o,r,h=>by
  rw[bP] at h;have step:∀(k o:Nat) (f:List UInt8→List UInt8),(∀x,(f x).length≤x.length+1)→(bP k o t).map (fun r=>(f r.1,r.2+1))=some r→r.1.length+1≤r.2:=by
   intro k o f hf h;cases hh:bP k o t with
  |none=>rw[hh] at h;cases h
  |some q=>rw[hh] at h;cases h;have:=Gi t k o q hh;have:=hf q.1;simp only;omega
  have h1:=RM t;split at h
  ·exact step _ _ _ (fun x=>by simp) h
  ·split at h
   ·split at h
    ·cases h
    ·exact step _ _ (fun x=>(escF t).1++x) (fun x=>by rw[List.length_append];omega) h
   ·split at h
    ·exact step _ _ (fun x=>c::x) (fun x=>by simp) h
    ·split at h
     ·split at h
      ·cases h;simp
      ·exact step _ _ (fun x=>c::x) (fun x=>by simp) h
     ·exact step _ _ (fun x=>c::x) (fun x=>by simp) h
theorem LN (s:List UInt8)(i j:Nat):(cut s i j).length≤j - i:=by unfold cut;rw[List.length_take];omega
theorem OP {s:List UInt8}{a:Nat}(h:(token s a).2=0):((token s a).1.s.length:Int)+(token s a).1.a≤(token s a).1.t:=by
 unfold token at h ⊢;split at h
 ·simp
 rename_i c t hd
 have hmk:∀n,((mark s a n).1.s.length:Int)+(mark s a n).1.a≤(mark s a n).1.t:=by
  intro n;have:=LN s a (a+n);simp only[mark];omega
 split at h
 ·rename_i h1;rw[if_pos h1];exact hmk 1
 rename_i h1;rw[if_neg h1]
 split at h
 ·rename_i h2;rw[if_pos h2]
  split at h
  ·rename_i h3;rw[if_pos h3];exact hmk 2
  ·rename_i h3;rw[if_neg h3]
   unfold hex at h ⊢;cases hx:hexF (-1) (s.drop (a+1)) with
  |inr e=>simp[refused,none_]
  |inl y=>
    rw[hx] at h;have:=ED _ _ _ hx;simp only at h ⊢;rw[qF h];simp only;omega
 rename_i h2;rw[if_neg h2]
 split at h
 ·rename_i h3;rw[if_pos h3]
  split at h
  ·rename_i h4;rw[if_pos h4];exact hmk 2
  ·simp[refused] at h
 rename_i h3;rw[if_neg h3]
 split at h
 ·rename_i h4;rw[if_pos h4]
  unfold name at h ⊢;cases hx:dJ (cut s (a+1) (run s (a+1))) with
 |none=>simp[refused,none_]
 |some y=>
   rw[hx] at h;have:=Ow _ _ _ (Nat.le_refl _) hx;have:=LN s (a+1) (run s (a+1));have:a+1≤run s (a+1):=by unfold run;omega
   simp only at h ⊢;rw[qF h];simp only;omega
 rename_i h4;rw[if_neg h4]
 split at h
 ·rename_i h5;rw[if_pos h5]
  unfold text at h ⊢;cases hx:bP 0 1 (s.drop (a+1)) with
 |none=>simp[refused,none_]
 |some y=>
   rw[hx] at h;have:=Gi _ _ _ _ hx;simp only at h ⊢;rw[qF h];simp only;omega
 rename_i h5;rw[if_neg h5]
 split at h
 ·simp[refused] at h
 rename_i h6;rw[if_neg h6]
 have h7:a≤run s a:=by unfold run;omega
 have h8:=LN s a (run s a);unfold word oL at h ⊢;split at h
 ·rename_i g;rw[if_pos g]
  split at h
  ·rename_i g2;simp[refused] at h;exact absurd h g2
  ·rename_i g2;rw[if_neg g2];simp;omega
 rename_i g;rw[if_neg g]
 split at h
 ·rename_i g2;rw[if_pos g2];simp;omega
 rename_i g2;rw[if_neg g2]
 split at h
 ·simp[refused] at h
 rename_i g3;rw[if_neg g3,qF h]
 simp only;omega
theorem Eo {s:List UInt8}{i:Int}(h:(next s i).2=0):((next s i).1.s.length:Int)+(next s i).1.a≤(next s i).1.t:=by
 unfold next at h ⊢
 split at h
 ·simp[refused] at h
 rename_i h1
 rw[if_neg h1];exact OP h
end Lx
namespace Ps
open Lx (next Tok)
theorem RO {s:List UInt8}{a:Int}(h0:(next s a).2=0)(hk:(next s a).1.k≠0):((leaf s (next s a).1).1.wt:Int)≤8*((leaf s (next s a).1).2.1 - a):=by
 have f:=Lx.Eo h0;have b:=Lx.bV h0 hk;have:=Lx.cO s a.toNat;have c:=(O8 h0 hk).2;have hw:(leaf s (next s a).1).1.wt≤6+(next s a).1.s.length:=by
  unfold leaf
  (repeat' split)<;>simp[Ob.wt,Ob.wts,Pl.tot,Vl.ob0]<;>omega
 have ht:(next s a).1.t≤(leaf s (next s a).1).2.1:=by
  unfold leaf;split
  ·cases hr:ref s (next s a).1 with
  |some p=>have:=(OI hr).1;simp only;omega
  |none=>simp only;omega
  all_goals (repeat' split)<;>simp only<;>omega
 omega
def Qz (sub:Int→R):Prop:=∀a,(sub a).2.2=0→((sub a).1.wt:Int)≤8*((sub a).2.1 - a)
theorem Qa {s:List UInt8}{ok:Bool}{sub:Int→R}(hg:Qz sub)(hb:Good s sub)(a0:Int):∀(m:Nat) (a:Int) (acc:List Ob),(Ob.wts acc:Int)≤8*(a - a0)→(arr s ok sub m a acc).2.2=0→((arr s ok sub m a acc).1.wt:Int)≤6+8*((arr s ok sub m a acc).2.1 - a0)
|0,a,acc,_,h=>by simp[arr,bad] at h
|m+1,a,acc,hw,h=>by
  rw[arr] at h ⊢;split at h
  ·rename_i h1
   rw[if_pos h1];have b:=Lx.bV h1.1 (by rw[h1.2.1];decide);have:=Lx.cO s a.toNat;simp[Ob.wt,Pl.tot];omega
  rename_i h1
  rw[if_neg h1];split at h
  ·simp[bad] at h
  rename_i h2
  rw[if_neg h2];split at h
  ·rename_i h3;exact absurd h h3
  rename_i h3
  rw[if_neg h3];split at h
  ·rename_i h4;exact absurd h h4
  rename_i h4
  rw[if_neg h4];have h4:=Classical.not_not.1 h4;have g:=hg a h4;exact Qa hg hb a0 m _ _ (by rw[Vl.yB,Ob.wts,Ob.wts];omega) h
theorem MD {s:List UInt8}{sub:Int→R}(hg:Qz sub)(hb:Good s sub)(a0:Int):∀(m:Nat) (a:Int) (o:Ob) (met:List (List UInt8)),(o.wt:Int)≤6+8*(a - a0)→(dict s sub m a o met).2.2=0→((dict s sub m a o met).1.wt:Int)≤6+8*((dict s sub m a o met).2.1 - a0)
|0,a,o,met,_,h=>by simp[dict,bad] at h
|m+1,a,o,met,hw,h=>by
  rw[dict] at h ⊢;split at h
  ·rename_i h1;exact absurd h h1
  rename_i h1
  rw[if_neg h1];have h1:=Classical.not_not.1 h1;split at h
  ·rename_i h2
   rw[if_pos h2];have b:=Lx.bV h1 (by rw[h2.1];decide);have:=Lx.cO s a.toNat;simp only;omega
  rename_i h2
  rw[if_neg h2];split at h
  ·simp[bad] at h
  rename_i h3
  rw[if_neg h3];split at h
  ·simp[bad] at h
  rename_i h4
  rw[if_neg h4];split at h
  ·simp[bad] at h
  rename_i h5
  rw[if_neg h5];split at h
  ·simp[bad] at h
  rename_i h6
  rw[if_neg h6];split at h
  ·rename_i h7;exact absurd h h7
  rename_i h7
  rw[if_neg h7];have h7:=Classical.not_not.1 h7;have g:=hg _ h7;have b:=Lx.bV h1 h3;have:=Lx.cO s a.toNat;have f:=Lx.Eo h1;have hj:=Pp (o:=o) (key:=(next s a).1.s) (v:=(sub (next s a).1.t).1);exact MD hg hb a0 m _ _ _ (by omega) h
theorem Tv (s:List UInt8):∀n,Qz (obj s n):=by
 intro n
 induction n with
|zero=>
  intro a h;obtain⟨_,_,_,m,hm,_⟩:=zO h;omega
|succ n ih=>
  intro a h;obtain⟨h1,h2,h3,m,hm,he⟩:=zO h;have hm:n=m:=by omega
  subst hm;rw[he] at h ⊢;have b:=Lx.bV h1 h2;have:=Lx.cO s a.toNat;split at h
  ·rename_i h4
   rw[if_pos h4];exact RO h1 h2
  rename_i h4
  rw[if_neg h4];split at h
  ·rename_i h5
   rw[if_pos h5];have:=Qa (ok:=decide (n≠0)) ih (IV s n) (next s a).1.t (s.length+1) (next s a).1.t [] (by simp[Ob.wts]) h;omega
  ·rename_i h5
   rw[if_neg h5];have:=MD ih (IV s n) (next s a).1.t (s.length+1) (next s a).1.t aZ [] (by simp[aZ,Ob.wt,Ob.wts,Pl.tot]) h;omega
theorem nW {s:List UInt8}{a:Int}(h:(object s a).2.2=0):((object s a).1.wt:Int)≤8*((object s a).2.1 - a):=by
 unfold object at h ⊢;split at h
 ·simp[bad] at h
 ·rename_i g
  rw[if_neg g];exact Tv s 24 a h
end Ps
def Cop.wt (o:Cop):Nat:=10+o.name.length+o.data.length+Ob.wts o.args
namespace Cs
open Lx (next Tok)
def wts:List Cop→Nat
|[]=>0
|o::l=>o.wt+wts l
theorem yB:∀a b:List Cop,wts (a++b)=wts a+wts b
|[],b=>by simp[wts]
|o::a,b=>by rw[List.cons_append,wts,wts,yB a b];omega
theorem OC {s:List UInt8}(a0:Int):∀(m:Nat) {a:Int} {o:Ob} {met:List (List UInt8)},(o.wt:Int)≤6+8*(a - a0)→(keys s m a o met).2.2.e=0→((keys s m a o met).1.wt:Int)≤6+8*((keys s m a o met).2.1 - a0)
|0,a,o,met,_,h=>by simp[keys] at h
|m+1,a,o,met,hw,h=>by
  obtain⟨h1,h2,h3⟩:=PI h;have b:=Lx.bV h1 h2;have:=Lx.cO s a.toNat;rcases h3 with ⟨_,e⟩|⟨_,_,_,_,_,g6,_,_,e⟩
  ·rw[e];simp only;omega
  ·rw[e] at h ⊢;have g:=Ps.nW g6;have f:=Lx.Eo h1;have hj:=Ps.Pp (o:=o) (key:=(next s a).1.s) (v:=(Ps.object s (next s a).1.t).1);exact OC a0 m (by omega) h
theorem QX {s:List UInt8}{a:Int}(h:(image s a).2.2.e=0):((image s a).1.wt:Int)≤18+10*((image s a).2.1 - a):=by
 obtain⟨h1,h2,i,h3,h4⟩:=Mh h;have b:=I3 _ h1;have hw:=OC (s:=s) a (s.length+1) (a:=a) (o:=Ps.aZ) (met:=[]) (by simp[Ps.aZ,Ob.wt,Ob.wts,Pl.tot]) h1;obtain⟨f1,f2,_⟩:=IP _ h3;have:=MO f2;rw[h4];simp only[Cop.wt,Ob.wts,biW,List.length_cons,List.length_nil,List.length_take,List.length_drop];omega
theorem Lo {s:List UInt8}{a:Int}{n:Nat}{args:List Ob}(h1:(next s a).2=0)(hk:(next s a).1.k=5)(h:(operator s (next s a).1 n args).2.2.e=0):((operator s (next s a).1 n args).1.wt:Int)≤Ob.wts args+20*((operator s (next s a).1 n args).2.1 - a):=by
 have b:=Lx.bV h1 (by omega);have:=Lx.cO s a.toNat;obtain⟨_,h3⟩:=E9 h;have f:=Lx.Eo h1;rcases h3 with ⟨g1,_,e⟩|⟨_,_,_,_,e⟩
 ·rw[e] at h ⊢;have g:=QX h;have g2:=L6 h;omega
 ·rw[e];simp only[Cop.wt,List.length_nil];omega
theorem IB {s:List UInt8}:∀(m:Nat) {a:Int} {l:List Cop} {args:List Ob},0≤a→a≤s.length→(jV s m a l args).2.e=0→(wts (jV s m a l args).1:Int)≤wts l+Ob.wts args+20*(s.length - a)
|0,a,l,args,_,_,h=>by simp[jV] at h
|m+1,a,l,args,h0,ha,h=>by
  obtain⟨h1,h2⟩:=MA h;rcases h2 with ⟨_,_,e⟩|⟨h3,h4,h5,e⟩|⟨h3,_,h5,h6,h7,e⟩
  ·rw[e];simp only;omega
  ·rw[e] at h ⊢;have b:=AW h1 (by omega) h5;have w:=Lo h1 h3 h5;have:=IB m (by omega) (by omega) h;rw[yB,wts,wts,Ob.wts] at this;omega
  ·rw[e] at h ⊢;have b:=Bd.gC h5;have w:=Ps.nW h5;have:=IB m (by omega) (by omega) h;rw[Vl.yB,Ob.wts,Ob.wts] at this;omega
theorem TX (s:List UInt8):wts (read s).1≤20*s.length:=by
 by_cases h:(read s).2.e=0
 ·have:=IB (s:=s) (s.length+1) (a:=0) (l:=[]) (args:=[]) (by omega) (by omega) h;have e:jV s (s.length+1) 0 [] []=read s:=rfl;rw[e] at this;simp only[wts,Ob.wts] at this;omega
 ·rw[Mw h];simp[wts]
theorem JH:∀(ks:List (List UInt8)) (os:List Ob),Pl.tot (nQ ks os)≤42*Ob.wts os+4*Pl.tot ks
|[],[]=>by simp[nQ,Pl.tot]
|[],_::_=>by simp[nQ,Pl.tot]
|_::_,[]=>by simp[nQ,Pl.tot]
|k::ks,o::os=>by
  have:=JH ks os;have h1:=Wr.Im k;have h2:=Wr.Ms o;have h3:=o.zE;rw[nQ,Ob.wts];simp only[Pl.tot,List.map_cons,List.sum_cons] at this ⊢;omega
theorem Kl:∀os:List Ob,Pl.tot (os.map fun x=>(Wr.text x).1)≤41*Ob.wts os
|[]=>by simp[Pl.tot]
|o::os=>by
  have:=Kl os;have h2:=Wr.Ms o;have h3:=o.zE;rw[Ob.wts,List.map_cons];simp only[Pl.tot,List.map_cons,List.sum_cons] at this ⊢;omega
theorem oR (o:Cop):Pl.tot (parts o)≤42*o.wt:=by
 unfold parts;split
 ·split
  ·rename_i d r hd
   have h1:=JH d.keys d.kids;have h2:Ob.wts d.kids+Pl.tot d.keys≤d.wt:=by cases d;rw[Ob.wt];show Ob.wts _+Pl.tot _≤_;simp only[Ob.kids,Ob.keys];omega
   rw[show biW::nQ d.keys d.kids++[idW]=[biW]++(nQ d.keys d.kids++[idW]) by simp,Pl.cI,Pl.cI,Cop.wt,hd,Ob.wts];simp only[Pl.tot,biW,idW,List.map_cons,List.map_nil,List.sum_cons,List.sum_nil,List.length_cons,List.length_nil] at h1 h2 ⊢;omega
  ·simp[Pl.tot,biW,idW,Cop.wt];omega
 ·have:=Kl o.args;rw[Pl.cI,Cop.wt];simp only[Pl.tot,List.map_cons,List.map_nil,List.sum_cons,List.sum_nil] at this ⊢;omega
theorem TF (o:Cop):(one o).length≤44*o.wt:=by
 have h1:=oR o;have h2:=Pl.Ey (parts o);unfold one;have h3:o.data.length+10≤o.wt:=by unfold Cop.wt;omega
 split
 ·simp only[List.length_append,List.length_cons,List.length_nil,eiW];omega
 ·simp only[List.length_append,List.length_cons,List.length_nil];omega
theorem HU:∀l:List Cop,(l.flatMap one).length≤44*wts l
|[]=>by simp
|o::l=>by
  have:=HU l;have:=TF o;rw[List.flatMap_cons,List.length_append,wts];omega
end Cs
end
section
open Eng Go.RowKit
def opC (o:Cop)(va:Value):List Value:=[.string ⟨o.name.toArray⟩,va,.string ⟨o.data.toArray⟩]
def opV (o:Cop)(va:Value):Value:=.agg (opC o va).toArray
def opE (b:Nat)(o:Cop)(va:Value):Ent:=.cells b (opC o va) 44
structure OpAt (A:Nat→Prop) (w:World) (o:Cop) (va:Value) (cs:List Value):Prop where
 args:SlA A w va 6 o.args.length cs
 all:OVs A w cs o.args
def opR (A:Nat→Prop)(w:World)(a:List Value)(o:Cop):Prop:=∃va cs,a=opC o va∧OpAt A w o va cs
abbrev PVs (A:Nat→Prop)(w:World)(cs:List Value)(l:List Cop):Prop:=Rws (opR A w) cs l
def OpsV (A:Nat→Prop)(w:World)(v:Value)(l:List Cop):Prop:=∃cs,SlA A w v 3 l.length cs∧PVs A w cs l
theorem TW {A:Nat→Prop}{w:World}:∀a o,opR A w a o→a.length=3:=by
 rintro a o ⟨va,cs,rfl,_⟩;rfl
theorem OpAt.one {A:Nat→Prop}{w:World}{o:Cop}{va:Value}{cs:List Value}(h:OpAt A w o va cs):va.oneCell'=true:=h.args.one
theorem KJ (o:Cop){va:Value}(ha:va.oneCell'=true):∀v∈opC o va,v.oneCell'=true:=by
 intro v hv;simp only[opC,List.mem_cons,List.not_mem_nil,or_false] at hv;rcases hv with rfl|rfl|rfl<;>first|rfl|assumption
theorem OpAt.le {M N:Mem}(h:M.le N){o:Cop}{va:Value}{cs:List Value}(ho:OpAt M.A M.w o va cs):OpAt N.A N.w o va cs:=⟨ho.args.le h,ho.all.le h⟩
theorem opR.le {M N:Mem}(h:M.le N){a:List Value}{o:Cop}(hi:opR M.A M.w a o):opR N.A N.w a o:=by
 obtain⟨va,cs,rfl,ho⟩:=hi;exact⟨va,cs,rfl,ho.le h⟩
theorem PVs.le {M N:Mem}(h:M.le N){cs:List Value}{l:List Cop}(hl:PVs M.A M.w cs l):PVs N.A N.w cs l:=Rws.mono (fun _ _=>opR.le h) hl
theorem OpsV.le {M N:Mem}(h:M.le N){v:Value}{l:List Cop}(hl:OpsV M.A M.w v l):OpsV N.A N.w v l:=by
 obtain⟨cs,h1,h2⟩:=hl;exact⟨cs,h1.le h,PVs.le h h2⟩
theorem OpsV.nil (A:Nat→Prop)(w:World):OpsV A w nilS []:=⟨[],SlA.nil _ _ _ _,.nil⟩
theorem KQ:aggN prog 44=some 3:=by kernel_rfl
theorem szOp:(Tryz.prog.info? 44).map (·.size)=some 3:=by kernel_rfl
theorem T3:dF prog 23=true:=by kernel_rfl
theorem TD:fOff prog 44 0=some 0:=by kernel_rfl
theorem Td:fOff prog 44 1=some 1:=by kernel_rfl
theorem TH:fOff prog 44 2=some 2:=by kernel_rfl
section
variable {w:World}{PK:PKT}{K:VWP}{S:Nat→Prop}{w0:World}{L:List Ent}
theorem I2 {b off:Nat}:DoX prog (mFA 44 (.pointer (some ⟨b,off,none⟩)) 0) w PK K=K (.pointer (some ⟨b,off,none⟩)) w:=cF TD
theorem AX {b off:Nat}:DoX prog (mFA 44 (.pointer (some ⟨b,off,none⟩)) 1) w PK K=K (.pointer (some ⟨b,off+1,none⟩)) w:=cF Td
theorem PF {b off:Nat}:DoX prog (mFA 44 (.pointer (some ⟨b,off,none⟩)) 2) w PK K=K (.pointer (some ⟨b,off+2,none⟩)) w:=cF TH
theorem OB (o:Cop){va:Value}(ha:va.oneCell'=true)(ho:OwnS S w0 w L)(k:∀b w',OwnS S w0 w' (opE b o va::L)→K (.pointer (some ⟨b,0,none⟩)) w'):DoX prog (mBox 44 (opV o va)) w PK K:=by
 cases va<;>first|(cases ha;done)|exact dD (fun b=>.pointer (some ⟨b,0,none⟩)) (opC o _) 44 (fun _=>by kernel_rfl) ho k
theorem JD (ho:OwnS S w0 w L)(k:∀b w',OwnS S w0 w' (opE b Cs.op0 nilS::L)→K (.pointer (some ⟨b,0,none⟩)) w'):DoX prog (aN 44) w PK K:=
 dD (fun b=>.pointer (some ⟨b,0,none⟩)) (opC Cs.op0 nilS) 44 (fun _=>by kernel_rfl) ho k
theorem zF (j:Nat){b:Nat}{o o':Cop}{va va':Value}(ha:va'.oneCell'=true)(ho:OwnS S w0 w L)(hi:L[j]?=some (opE b o va))(k:∀w',OwnS S w0 w' (L.set j (opE b o' va'))→K undef w') :
  DoX prog (aD 44 (.pointer (some ⟨b,0,none⟩)) (opV o' va')) w PK K:=Bq j ho hi (new:=opC o' va') szOp (KJ o' ha) rfl k
theorem op_n (ho:OwnS S w0 w L)(j:Nat){b:Nat}{o:Cop}{va:Value}(hi:L[j]?=some (opE b o va)):DoX prog (aB 9 (.pointer (some ⟨b,0,none⟩))) w PK K=K (.string ⟨o.name.toArray⟩) w:=aW mZ (ho.cell j hi 0 rfl)
theorem op_a (ho:OwnS S w0 w L)(j:Nat){b:Nat}{o:Cop}{va:Value}(hi:L[j]?=some (opE b o va)):DoX prog (aB 40 (.pointer (some ⟨b,0+1,none⟩))) w PK K=K va w:=aW BO (ho.cell j hi 1 rfl)
theorem op_d (ho:OwnS S w0 w L)(j:Nat){b:Nat}{o:Cop}{va:Value}(hi:L[j]?=some (opE b o va)):DoX prog (aB 9 (.pointer (some ⟨b,0+2,none⟩))) w PK K=K (.string ⟨o.data.toArray⟩) w:=aW mZ (ho.cell j hi 2 rfl)
theorem op_v (ho:OwnS S w0 w L)(j:Nat){b:Nat}{o:Cop}{va:Value}(hi:L[j]?=some (opE b o va)):DoX prog (aB 44 (.pointer (some ⟨b,0,none⟩))) w PK K=K (opV o va) w:=l_at (ho.agg j hi KQ)
end
theorem Li {M:Mem}{vl:Value}{l:List Cop}{cs:List Value}(hs:SlA M.A M.w vl 3 l.length cs)(hall:PVs M.A M.w cs l){i:Nat}(hi:i < l.length) :
  ∃(va:Value) (acs:List Value) (b off:Nat),OpAt M.A M.w l[i] va acs∧∀W,M.has W→(mIA 23 vl (.int .i64 (i:Int))).run prog W=.ok (.value (.pointer (some ⟨b,off,none⟩))) W∧∀j u,(opC l[i] va)[j]?=some u→W.cell? ⟨b,off+j,none⟩=some u:=by
 obtain⟨b,off,cap,rfl,_⟩:=gA hs.1 (by omega);obtain⟨a,⟨va,acs,rfl,ho⟩,hget⟩:=Rws.get TW i hi hall;refine⟨va,acs,b,off+i*3,ho,fun W hW=>⟨?_,fun j u hj=>?_⟩⟩
 ·have:=nM (P:=prog) (T:=23) (b:=b) (off:=off) (cap:=cap) (n:=l.length) (k:=.i64) (i:=(i:Int)) (w:=W) Tryz.underlying23 szOp (by omega) (by omega);rw[Int.toNat_natCast] at this;exact this
 ·have:=Sl.cellAt (hs.now hW) (i*3+j) u (hget j u hj)
  rwa [←Nat.add_assoc] at this
theorem PU {W:World}{b off:Nat}{o:Cop}{va:Value}(h:∀j u,(opC o va)[j]?=some u→W.cell? ⟨b,off+j,none⟩=some u):(aB 44 (.pointer (some ⟨b,off,none⟩))).run prog W=.ok (.value (opV o va)) W:=
 bL (AtV.agg KQ (cs:=opC o va) rfl h)
end
section
open Eng
def Cy (t0 t1:Value)(w:World)(K:Ending→World→Prop):Prop:=
 DoX prog (aG 26 #[(0,t0),(1,t1)]) w (pk K) fun t6 w=>
 DoX prog (pU 26 t6) w (pk K) fun t7 w=>
 DoX prog (iT t7) w (pk K) fun _ w=>
 K (.returned (.tuple #[])) w
theorem I9 (t0 t1:Value)(w:World)(K:Ending→World→Prop):wpX prog 8 [] [] none (aK Tryz.f63) (topQ prog [] K) (aJ [t0,t1]) [] w=Cy t0 t1 w K:=by kernel_rfl
theorem IJ {t0 t1:Value}{w:World}{K:Ending→World→Prop}(h:Cy t0 t1 w K):Calls prog 63 #[t0,t1] w K:=
 aA Tryz.func63 rfl rfl rfl rfl (Eq.mpr (I9 t0 t1 w K) h)
def zX (t0 t1 t2:Value)(w:World)(K:Ending→World→Prop):Prop:=
 DoX prog (mUn .not t0) w (pk K) fun t7 w=>
 IfX t7 (CallX prog 63 #[t1,t2] w (pk K) fun t10 w=>
 K (.returned (.tuple #[])) w) (K (.returned (.tuple #[])) w)
theorem Jh (t0 t1 t2:Value)(w:World)(K:Ending→World→Prop):wpX prog 11 [] [] none (aK Tryz.f37) (topQ prog [] K) (aJ [t0,t1,t2]) [] w=zX t0 t1 t2 w K:=by kernel_rfl
theorem BZ {t0 t1 t2:Value}{w:World}{K:Ending→World→Prop}(h:zX t0 t1 t2 w K):Calls prog 37 #[t0,t1,t2] w K:=
 aA Tryz.func37 rfl rfl rfl rfl (Eq.mpr (Jh t0 t1 t2 w K) h)
def qR (t0:Value)(w:World)(K:Ending→World→Prop):Prop:=
 DoX prog (mEq .eql 9 (.tmp 3) (.const (.string ⟨#[116,114,117,101]⟩)) t0 (.string ⟨#[116,114,117,101]⟩)) w (pk K) fun t4 w=>
 GDo t4 false (fun E=>E t0 w) w fun t6 w=>
 GDo t4 false (fun E=>DoX prog (mEq .eql 9 (.tmp 6) (.const (.string ⟨#[102,97,108,115,101]⟩)) t6 (.string ⟨#[102,97,108,115,101]⟩)) w (pk K) E) w fun t7 w=>
 DoX prog (aL t4 (.bool true) t7) w (pk K) fun t8 w=>
 GDo t8 false (fun E=>E t0 w) w fun t10 w=>
 GDo t8 false (fun E=>DoX prog (mEq .eql 9 (.tmp 10) (.const (.string ⟨#[110,117,108,108]⟩)) t10 (.string ⟨#[110,117,108,108]⟩)) w (pk K) E) w fun t11 w=>
 DoX prog (aL t8 (.bool true) t11) w (pk K) fun t12 w=>
 K (.returned t12) w
theorem CE (t0:Value)(w:World)(K:Ending→World→Prop):wpX prog 13 [] [] none (aK Tryz.f38) (topQ prog [.tmp 2] K) (aJ [t0]) [] w=qR t0 w K:=by kernel_rfl
theorem Da {t0:Value}{w:World}{K:Ending→World→Prop}(h:qR t0 w K):Calls prog 38 #[t0] w K:=
 aA Tryz.func38 rfl rfl rfl rfl (Eq.mpr (CE t0 w K) h)
def yX (t0:Value)(w:World)(K:Ending→World→Prop):Prop:=
 DoX prog (mBox 42 t0) w (pk K) fun t1 w=>
 DoX prog (mFA 42 t1 0) w (pk K) fun t3 w=>
 DoX prog (aB 3 t3) w (pk K) fun t4 w=>
 DoX prog (mEq .eql 3 (.tmp 4) (.const (.int .i64 8)) t4 (.int .i64 8)) w (pk K) fun t5 w=>
 GDo t5 false (fun E=>DoX prog (mFA 42 t1 5) w (pk K) E) w fun t7 w=>
 GDo t5 false (fun E=>DoX prog (aB 40 t7) w (pk K) E) w fun t8 w=>
 GDo t5 false (fun E=>CallX prog 88 #[t8,(.func (.func 51) #[] #[])] w (pk K) E) w fun t9 w=>
 DoX prog (aL t5 (.bool true) t9) w (pk K) fun t10 w=>
 K (.returned t10) w
theorem FT (t0:Value)(w:World)(K:Ending→World→Prop):wpX prog 11 [] [] none (aK Tryz.f51) (topQ prog [.tmp 2] K) (aJ [t0]) [] w=yX t0 w K:=by kernel_rfl
theorem ER {t0:Value}{w:World}{K:Ending→World→Prop}(h:yX t0 w K):Calls prog 51 #[t0] w K:=
 aA Tryz.func51 rfl rfl rfl rfl (Eq.mpr (FT t0 w K) h)
def Ck (t0 t1:Value)(w:World)(K:Ending→World→Prop):Prop:=
 DoX prog (mIx 9 t0 t1) w (pk K) fun t7 w=>
 CallX prog 90 #[t7] w (pk K) fun t8 w=>
 DoX prog (mUn .not t8) w (pk K) fun t9 w=>
 GDo t9 false (fun E=>E t0 w) w fun t11 w=>
 GDo t9 false (fun E=>E t1 w) w fun t12 w=>
 GDo t9 false (fun E=>DoX prog (mBin .add 3 t12 (.int .i64 1)) w (pk K) E) w fun t13 w=>
 GDo t9 false (fun E=>CallX prog 100 #[t11,(.string ⟨#[69,73]⟩),t13] w (pk K) E) w fun t14 w=>
 GDo t9 false (fun E=>DoX prog (mUn .not t14) w (pk K) E) w fun t15 w=>
 DoX prog (aL t9 (.bool true) t15) w (pk K) fun t16 w=>
 IfX t16 (K (.returned (.bool false)) w) (DoX prog (mBin .add 3 t1 (.int .i64 3)) w (pk K) fun t18 w=>
 DoX prog (mB .len #[9] 3 #[false] #[t0]) w (pk K) fun t20 w=>
 DoX prog (mEq .eql 3 (.tmp 18) (.tmp 20) t18 t20) w (pk K) fun t21 w=>
 GDo t21 false (fun E=>E t0 w) w fun t23 w=>
 GDo t21 false (fun E=>E t1 w) w fun t24 w=>
 GDo t21 false (fun E=>DoX prog (mBin .add 3 t24 (.int .i64 3)) w (pk K) E) w fun t25 w=>
 GDo t21 false (fun E=>DoX prog (mIx 9 t23 t25) w (pk K) E) w fun t26 w=>
 GDo t21 false (fun E=>CallX prog 90 #[t26] w (pk K) E) w fun t27 w=>
 DoX prog (aL t21 (.bool true) t27) w (pk K) fun t28 w=>
 K (.returned t28) w)
theorem Jf (t0 t1:Value)(w:World)(K:Ending→World→Prop):wpX prog 29 [] [] none (aK Tryz.f109) (topQ prog [.tmp 4] K) (aJ [t0,t1]) [] w=Ck t0 t1 w K:=by kernel_rfl
theorem HV {t0 t1:Value}{w:World}{K:Ending→World→Prop}(h:Ck t0 t1 w K):Calls prog 109 #[t0,t1] w K:=
 aA Tryz.func109 rfl rfl rfl rfl (Eq.mpr (Jf t0 t1 w K) h)
def A2 (t0:Value)(w:World)(K:Ending→World→Prop):Prop:=
 CallX prog 61 #[t0,(.int .i64 0)] w (pk K) fun t7 w=>
 DoX prog (mExt t7 0) w (pk K) fun t8 w=>
 DoX prog (mExt t7 1) w (pk K) fun t9 w=>
 DoX prog (aN 53) w (pk K) fun t3 w=>
 DoX prog (aD 53 t3 t8) w (pk K) fun _ w=>
 DoX prog (mEq .neq 24 (.tmp 10) (.const (.int .i64 0)) t9 (.int .i64 0)) w (pk K) fun t11 w=>
 GDo t11 false (fun E=>DoX prog (mFA 53 t3 0) w (pk K) E) w fun t13 w=>
 GDo t11 false (fun E=>DoX prog (aB 3 t13) w (pk K) E) w fun t14 w=>
 GDo t11 false (fun E=>DoX prog (mEq .neq 3 (.tmp 14) (.const (.int .i64 5)) t14 (.int .i64 5)) w (pk K) E) w fun t15 w=>
 DoX prog (aL t11 (.bool true) t15) w (pk K) fun t16 w=>
 GDo t16 false (fun E=>DoX prog (mFA 53 t3 1) w (pk K) E) w fun t18 w=>
 GDo t16 false (fun E=>DoX prog (aB 3 t18) w (pk K) E) w fun t19 w=>
 GDo t16 false (fun E=>DoX prog (mEq .neq 3 (.tmp 19) (.const (.int .i64 0)) t19 (.int .i64 0)) w (pk K) E) w fun t20 w=>
 DoX prog (aL t16 (.bool true) t20) w (pk K) fun t21 w=>
 GDo t21 false (fun E=>DoX prog (mFA 53 t3 2) w (pk K) E) w fun t23 w=>
 GDo t21 false (fun E=>DoX prog (aB 3 t23) w (pk K) E) w fun t24 w=>
 GDo t21 false (fun E=>E t0 w) w fun t25 w=>
 GDo t21 false (fun E=>DoX prog (mB .len #[9] 3 #[false] #[t25]) w (pk K) E) w fun t26 w=>
 GDo t21 false (fun E=>DoX prog (mEq .neq 3 (.tmp 24) (.tmp 26) t24 t26) w (pk K) E) w fun t27 w=>
 DoX prog (aL t21 (.bool true) t27) w (pk K) fun t28 w=>
 IfX t28 (K (.returned (.bool false)) w) (CallX prog 38 #[t0] w (pk K) fun t30 w=>
 DoX prog (mUn .not t30) w (pk K) fun t31 w=>
 GDo t31 true (fun E=>DoX prog (aP 39 4 #[(0,(.string ⟨#[82]⟩)),(1,(.string ⟨#[66,73]⟩)),(2,(.string ⟨#[73,68]⟩)),(3,(.string ⟨#[69,73]⟩))]) w (pk K) E) w fun t33 w=>
 GDo t31 true (fun E=>E t0 w) w fun t34 w=>
 GDo t31 true (fun E=>CallX prog 32 #[t33,t34] w (pk K) E) w fun t35 w=>
 GDo t31 true (fun E=>DoX prog (mUn .not t35) w (pk K) E) w fun t36 w=>
 DoX prog (aL t31 t36 (.bool false)) w (pk K) fun t37 w=>
 K (.returned t37) w)
theorem GR (t0:Value)(w:World)(K:Ending→World→Prop):wpX prog 38 [] [] none (aK Tryz.f84) (topQ prog [.tmp 2] K) (aJ [t0]) [] w=A2 t0 w K:=by kernel_rfl
theorem G2 {t0:Value}{w:World}{K:Ending→World→Prop}(h:A2 t0 w K):Calls prog 84 #[t0] w K:=
 aA Tryz.func84 rfl rfl rfl rfl (Eq.mpr (GR t0 w K) h)
def Cc (t0 t5 t6:Value)(w:World)(N1:List Value→World→Prop)(K:Ending→World→Prop):Prop:=
 DoX prog (mBin .lss 3 t6 t5) w (pk K) fun t7 w=>
 IfX t7 (CallX prog 109 #[t0,t6] w (pk K) fun t11 w=>
 IfX t11 (K (.returned (.bool false)) w) (DoX prog (mBin .add 3 t6 (.int .i64 1)) w (pk K) fun t12 w=>
 N1 [t12] w)) (K (.returned (.bool true)) w)
def Bl (t0:Value)(w:World)(K:Ending→World→Prop):Prop:=
 DoX prog (mB .len #[9] 3 #[false] #[t0]) w (pk K) fun t5 w=>
 LoopX [(.int .i64 0)] w (fun vs1 w N1=>∀_:Sg,Cc t0 t5 (vs1.getD 0 undef) w N1 K)
theorem Gs (t0:Value)(w:World)(K:Ending→World→Prop):wpX prog 13 [] [(2,[6])] none (aK Tryz.f83) (topQ prog [.tmp 2] K) (aJ [t0]) [] w=Bl t0 w K:=by kernel_rfl
theorem G3 {t0:Value}{w:World}{K:Ending→World→Prop}(h:Bl t0 w K):Calls prog 83 #[t0] w K:=
 aA Tryz.func83 rfl rfl rfl rfl (Eq.mpr (Gs t0 w K) h)
def CP (t0:Value)(w:World)(K:Ending→World→Prop):Prop:=
 DoX prog (mBox 44 t0) w (pk K) fun t1 w=>
 DoX prog (mFA 44 t1 0) w (pk K) fun t3 w=>
 DoX prog (aB 9 t3) w (pk K) fun t4 w=>
 DoX prog (mEq .eql 9 (.tmp 4) (.const (.string ⟨#[66,73]⟩)) t4 (.string ⟨#[66,73]⟩)) w (pk K) fun t5 w=>
 IfX t5 (DoX prog (mFA 44 t1 1) w (pk K) fun t6 w=>
 DoX prog (aB 40 t6) w (pk K) fun t7 w=>
 DoX prog (mB .len #[40] 3 #[false] #[t7]) w (pk K) fun t8 w=>
 DoX prog (mEq .eql 3 (.tmp 8) (.const (.int .i64 1)) t8 (.int .i64 1)) w (pk K) fun t9 w=>
 GDo t9 true (fun E=>DoX prog (mFA 44 t1 1) w (pk K) E) w fun t11 w=>
 GDo t9 true (fun E=>DoX prog (aB 40 t11) w (pk K) E) w fun t12 w=>
 GDo t9 true (fun E=>DoX prog (mIA 40 t12 (.int .i64 0)) w (pk K) E) w fun t13 w=>
 GDo t9 true (fun E=>DoX prog (mFA 42 t13 0) w (pk K) E) w fun t14 w=>
 GDo t9 true (fun E=>DoX prog (aB 3 t14) w (pk K) E) w fun t15 w=>
 GDo t9 true (fun E=>DoX prog (mEq .eql 3 (.tmp 15) (.const (.int .i64 7)) t15 (.int .i64 7)) w (pk K) E) w fun t16 w=>
 DoX prog (aL t9 t16 (.bool false)) w (pk K) fun t17 w=>
 GDo t17 true (fun E=>DoX prog (mFA 44 t1 2) w (pk K) E) w fun t19 w=>
 GDo t17 true (fun E=>DoX prog (aB 9 t19) w (pk K) E) w fun t20 w=>
 GDo t17 true (fun E=>CallX prog 83 #[t20] w (pk K) E) w fun t21 w=>
 DoX prog (aL t17 t21 (.bool false)) w (pk K) fun t22 w=>
 K (.returned t22) w) (DoX prog (mFA 44 t1 0) w (pk K) fun t23 w=>
 DoX prog (aB 9 t23) w (pk K) fun t24 w=>
 CallX prog 84 #[t24] w (pk K) fun t25 w=>
 GDo t25 true (fun E=>DoX prog (mFA 44 t1 1) w (pk K) E) w fun t27 w=>
 GDo t25 true (fun E=>DoX prog (aB 40 t27) w (pk K) E) w fun t28 w=>
 GDo t25 true (fun E=>DoX prog (mB .len #[40] 3 #[false] #[t28]) w (pk K) E) w fun t29 w=>
 GDo t25 true (fun E=>DoX prog (mBin .leq 3 t29 (.int .i64 32)) w (pk K) E) w fun t30 w=>
 DoX prog (aL t25 t30 (.bool false)) w (pk K) fun t31 w=>
 GDo t31 true (fun E=>DoX prog (mFA 44 t1 2) w (pk K) E) w fun t33 w=>
 GDo t31 true (fun E=>DoX prog (aB 9 t33) w (pk K) E) w fun t34 w=>
 GDo t31 true (fun E=>DoX prog (mEq .eql 9 (.tmp 34) (.const (.string ⟨#[]⟩)) t34 (.string ⟨#[]⟩)) w (pk K) E) w fun t35 w=>
 DoX prog (aL t31 t35 (.bool false)) w (pk K) fun t36 w=>
 K (.returned t36) w)
theorem IE (t0:Value)(w:World)(K:Ending→World→Prop):wpX prog 37 [] [] none (aK Tryz.f49) (topQ prog [.tmp 2] K) (aJ [t0]) [] w=CP t0 w K:=by kernel_rfl
theorem Ix {t0:Value}{w:World}{K:Ending→World→Prop}(h:CP t0 w K):Calls prog 49 #[t0] w K:=
 aA Tryz.func49 rfl rfl rfl rfl (Eq.mpr (IE t0 w K) h)
def F9 (t25 t26 t27:Value)(w:World)(N2:List Value→World→Prop)(K:Ending→World→Prop):Prop:=
 DoX prog (mBin .lss 3 t27 t26) w (pk K) fun t28 w=>
 IfX t28 (DoX prog (mIA 40 t25 t27) w (pk K) fun t29 w=>
 DoX prog (aB 42 t29) w (pk K) fun t30 w=>
 DoX prog (aN 42) w (pk K) fun t7 w=>
 DoX prog (aD 42 t7 t30) w (pk K) fun _ w=>
 DoX prog (aB 42 t7) w (pk K) fun t31 w=>
 CallX prog 51 #[t31] w (pk K) fun t32 w=>
 GDo t32 false (fun E=>DoX prog (mFA 42 t7 0) w (pk K) E) w fun t34 w=>
 GDo t32 false (fun E=>DoX prog (aB 3 t34) w (pk K) E) w fun t35 w=>
 GDo t32 false (fun E=>DoX prog (mEq .eql 3 (.tmp 35) (.const (.int .i64 9)) t35 (.int .i64 9)) w (pk K) E) w fun t36 w=>
 DoX prog (aL t32 (.bool true) t36) w (pk K) fun t37 w=>
 IfX t37 (K (.returned (.int .i64 10)) w) (DoX prog (mBin .add 3 t27 (.int .i64 1)) w (pk K) fun t38 w=>
 N2 [t38] w)) (K (.returned (.int .i64 0)) w)
def Gc (t1 t12 t13 t14:Value)(w:World)(N1:List Value→World→Prop)(K:Ending→World→Prop):Prop:=
 DoX prog (mBin .lss 3 t14 t13) w (pk K) fun t15 w=>
 IfX t15 (DoX prog (mIA 40 t12 t14) w (pk K) fun t16 w=>
 DoX prog (aB 42 t16) w (pk K) fun t17 w=>
 DoX prog (aN 42) w (pk K) fun t4 w=>
 DoX prog (aD 42 t4 t17) w (pk K) fun _ w=>
 DoX prog (aB 42 t4) w (pk K) fun t18 w=>
 CallX prog 50 #[t18] w (pk K) fun t19 w=>
 DoX prog (mEq .neq 24 (.tmp 20) (.const (.int .i64 0)) t19 (.int .i64 0)) w (pk K) fun t21 w=>
 IfX t21 (K (.returned t19) w) (DoX prog (mBin .add 3 t14 (.int .i64 1)) w (pk K) fun t23 w=>
 N1 [t23] w)) (DoX prog (mFA 44 t1 1) w (pk K) fun t24 w=>
 DoX prog (aB 40 t24) w (pk K) fun t25 w=>
 DoX prog (mB .len #[40] 3 #[false] #[t25]) w (pk K) fun t26 w=>
 LoopX [(.int .i64 0)] w (fun vs2 w N2=>∀_:Sg,F9 t25 t26 (vs2.getD 0 undef) w N2 K))
def Fw (t0:Value)(w:World)(K:Ending→World→Prop):Prop:=
 DoX prog (mBox 44 t0) w (pk K) fun t1 w=>
 DoX prog (aB 44 t1) w (pk K) fun t8 w=>
 CallX prog 49 #[t8] w (pk K) fun t9 w=>
 DoX prog (mUn .not t9) w (pk K) fun t10 w=>
 IfX t10 (K (.returned (.int .i64 3)) w) (DoX prog (mFA 44 t1 1) w (pk K) fun t11 w=>
 DoX prog (aB 40 t11) w (pk K) fun t12 w=>
 DoX prog (mB .len #[40] 3 #[false] #[t12]) w (pk K) fun t13 w=>
 LoopX [(.int .i64 0)] w (fun vs1 w N1=>∀_:Sg,Gc t1 t12 t13 (vs1.getD 0 undef) w N1 K))
theorem JC (t0:Value)(w:World)(K:Ending→World→Prop):wpX prog 39 [] [(4,[14]),(11,[27])] none (aK Tryz.f26) (topQ prog [.tmp 2] K) (aJ [t0]) [] w=Fw t0 w K:=by kernel_rfl
theorem Km {t0:Value}{w:World}{K:Ending→World→Prop}(h:Fw t0 w K):Calls prog 26 #[t0] w K:=
 aA Tryz.func26 rfl rfl rfl rfl (Eq.mpr (JC t0 w K) h)
def BJ (t1 t3 t58 t59 t60:Value)(w:World)(N2:List Value→World→Prop)(K:Ending→World→Prop):Prop:=
 DoX prog (mBin .lss 3 t60 t59) w (pk K) fun t61 w=>
 IfX t61 (DoX prog (mIA 40 t58 t60) w (pk K) fun t62 w=>
 DoX prog (aB 42 t62) w (pk K) fun t63 w=>
 DoX prog (aN 42) w (pk K) fun t11 w=>
 DoX prog (aD 42 t11 t63) w (pk K) fun _ w=>
 DoX prog (aB 42 t11) w (pk K) fun t65 w=>
 CallX prog 56 #[t65] w (pk K) fun t66 w=>
 DoX prog (mExt t66 0) w (pk K) fun t67 w=>
 DoX prog (mExt t66 1) w (pk K) fun t68 w=>
 DoX prog (aP 39 1 #[(0,t67)]) w (pk K) fun t71 w=>
 DoX prog (mB .append #[39,39] 39 #[false,false] #[t3,t71]) w (pk K) fun t72 w=>
 DoX prog (mBin .add 3 t60 (.int .i64 1)) w (pk K) fun t73 w=>
 N2 [t72,t73] w) (DoX prog (mFA 44 t1 0) w (pk K) fun t75 w=>
 DoX prog (aB 9 t75) w (pk K) fun t76 w=>
 DoX prog (aP 39 1 #[(0,t76)]) w (pk K) fun t77 w=>
 DoX prog (mB .append #[39,39] 39 #[false,false] #[t3,t77]) w (pk K) fun t78 w=>
 K (.returned t78) w)
def BG (t1 t3 t24 t25 t26:Value)(w:World)(N1:List Value→World→Prop)(K:Ending→World→Prop):Prop:=
 DoX prog (mBin .lss 3 t26 t25) w (pk K) fun t27 w=>
 IfX t27 (DoX prog (mIA 39 t24 t26) w (pk K) fun t29 w=>
 DoX prog (aB 9 t29) w (pk K) fun t30 w=>
 CallX prog 55 #[t30] w (pk K) fun t33 w=>
 DoX prog (mExt t33 0) w (pk K) fun t34 w=>
 DoX prog (mExt t33 1) w (pk K) fun t35 w=>
 DoX prog (mFA 44 t1 1) w (pk K) fun t37 w=>
 DoX prog (aB 40 t37) w (pk K) fun t38 w=>
 DoX prog (mIA 40 t38 (.int .i64 0)) w (pk K) fun t39 w=>
 DoX prog (mFA 42 t39 5) w (pk K) fun t40 w=>
 DoX prog (aB 40 t40) w (pk K) fun t41 w=>
 DoX prog (mIA 40 t41 t26) w (pk K) fun t43 w=>
 DoX prog (aB 42 t43) w (pk K) fun t44 w=>
 CallX prog 56 #[t44] w (pk K) fun t45 w=>
 DoX prog (mExt t45 0) w (pk K) fun t46 w=>
 DoX prog (mExt t45 1) w (pk K) fun t47 w=>
 DoX prog (aP 39 2 #[(0,t34),(1,t46)]) w (pk K) fun t51 w=>
 DoX prog (mB .append #[39,39] 39 #[false,false] #[t3,t51]) w (pk K) fun t52 w=>
 DoX prog (mBin .add 3 t26 (.int .i64 1)) w (pk K) fun t53 w=>
 N1 [t52,t53] w) (DoX prog (aP 39 1 #[(0,(.string ⟨#[73,68]⟩))]) w (pk K) fun t55 w=>
 DoX prog (mB .append #[39,39] 39 #[false,false] #[t3,t55]) w (pk K) fun t56 w=>
 K (.returned t56) w)
def AM (t0:Value)(w:World)(K:Ending→World→Prop):Prop:=
 DoX prog (mBox 44 t0) w (pk K) fun t1 w=>
 DoX prog (mFA 44 t1 0) w (pk K) fun t14 w=>
 DoX prog (aB 9 t14) w (pk K) fun t15 w=>
 DoX prog (mEq .eql 9 (.tmp 15) (.const (.string ⟨#[66,73]⟩)) t15 (.string ⟨#[66,73]⟩)) w (pk K) fun t16 w=>
 IfX t16 (DoX prog (aP 39 1 #[(0,(.string ⟨#[66,73]⟩))]) w (pk K) fun t18 w=>
 DoX prog (mB .append #[39,39] 39 #[false,false] #[(.slice none 0 0),t18]) w (pk K) fun t19 w=>
 DoX prog (mFA 44 t1 1) w (pk K) fun t20 w=>
 DoX prog (aB 40 t20) w (pk K) fun t21 w=>
 DoX prog (mIA 40 t21 (.int .i64 0)) w (pk K) fun t22 w=>
 DoX prog (mFA 42 t22 4) w (pk K) fun t23 w=>
 DoX prog (aB 39 t23) w (pk K) fun t24 w=>
 DoX prog (mB .len #[39] 3 #[false] #[t24]) w (pk K) fun t25 w=>
 LoopX [t19,(.int .i64 0)] w (fun vs1 w N1=>∀_:Sg,BG t1 (vs1.getD 0 undef) t24 t25 (vs1.getD 1 undef) w N1 K)) (DoX prog (mFA 44 t1 1) w (pk K) fun t57 w=>
 DoX prog (aB 40 t57) w (pk K) fun t58 w=>
 DoX prog (mB .len #[40] 3 #[false] #[t58]) w (pk K) fun t59 w=>
 LoopX [(.slice none 0 0),(.int .i64 0)] w (fun vs2 w N2=>∀_:Sg,BJ t1 (vs2.getD 0 undef) t58 t59 (vs2.getD 1 undef) w N2 K))
theorem GY (t0:Value)(w:World)(K:Ending→World→Prop):wpX prog 79 [] [(5,[3,26]),(13,[3,60])] none (aK Tryz.f29) (topQ prog [.tmp 2] K) (aJ [t0]) [] w=AM t0 w K:=by kernel_rfl
theorem GK {t0:Value}{w:World}{K:Ending→World→Prop}(h:AM t0 w K):Calls prog 29 #[t0] w K:=
 aA Tryz.func29 rfl rfl rfl rfl (Eq.mpr (GY t0 w K) h)
def CL (t0 t1:Value)(w:World)(K:Ending→World→Prop):Prop:=
 DoX prog (mEq .eql 21 (.tmp 5) (.const (.int .i32 110)) t0 (.int .i32 110)) w (pk K) fun t7 w=>
 IfX t7 (DoX prog (mEq .eql 3 (.tmp 8) (.const (.int .i64 2)) t1 (.int .i64 2)) w (pk K) fun t9 w=>
 GDo t9 false (fun E=>E t1 w) w fun t11 w=>
 GDo t9 false (fun E=>DoX prog (mEq .eql 3 (.tmp 11) (.const (.int .i64 3)) t11 (.int .i64 3)) w (pk K) E) w fun t12 w=>
 DoX prog (aL t9 (.bool true) t12) w (pk K) fun t13 w=>
 K (.returned t13) w) (DoX prog (mEq .eql 21 (.tmp 5) (.const (.int .i32 115)) t0 (.int .i32 115)) w (pk K) fun t15 w=>
 IfX t15 (DoX prog (mEq .eql 3 (.tmp 16) (.const (.int .i64 4)) t1 (.int .i64 4)) w (pk K) fun t17 w=>
 K (.returned t17) w) (DoX prog (mEq .eql 21 (.tmp 5) (.const (.int .i32 78)) t0 (.int .i32 78)) w (pk K) fun t19 w=>
 IfX t19 (DoX prog (mEq .eql 3 (.tmp 20) (.const (.int .i64 5)) t1 (.int .i64 5)) w (pk K) fun t21 w=>
 K (.returned t21) w) (DoX prog (mEq .eql 21 (.tmp 5) (.const (.int .i32 97)) t0 (.int .i32 97)) w (pk K) fun t23 w=>
 IfX t23 (DoX prog (mEq .eql 3 (.tmp 24) (.const (.int .i64 6)) t1 (.int .i64 6)) w (pk K) fun t25 w=>
 K (.returned t25) w) (DoX prog (mEq .eql 21 (.tmp 5) (.const (.int .i32 100)) t0 (.int .i32 100)) w (pk K) fun t27 w=>
 IfX t27 (DoX prog (mEq .eql 3 (.tmp 28) (.const (.int .i64 7)) t1 (.int .i64 7)) w (pk K) fun t29 w=>
 K (.returned t29) w) (K (.returned (.bool true)) w)))))
theorem H9 (t0 t1:Value)(w:World)(K:Ending→World→Prop):wpX prog 30 [] [] none (aK Tryz.f34) (topQ prog [.tmp 4] K) (aJ [t0,t1]) [] w=CL t0 t1 w K:=by kernel_rfl
theorem IZ {t0 t1:Value}{w:World}{K:Ending→World→Prop}(h:CL t0 t1 w K):Calls prog 34 #[t0,t1] w K:=
 aA Tryz.func34 rfl rfl rfl rfl (Eq.mpr (H9 t0 t1 w K) h)
def dW (t0 t2 t3 t4:Value)(w:World)(K:Ending→World→Prop):Prop:=
 QuietX w (fun C2=>
 QDo prog C2 (mEq .eql 24 (.tmp 17) (.const (.int .i64 0)) t4 (.int .i64 0)) fun t18=>
 QDo prog C2 (mNil t0) fun t20=>
 QDo prog C2 (mFA 49 t20 0) fun t21=>
 QDo prog C2 (aB 9 t21) fun t22=>
 QDo prog C2 (mNil t0) fun t24=>
 QDo prog C2 (mFA 49 t24 1) fun t25=>
 QDo prog C2 (aB 3 t25) fun t26=>
 QCall prog C2 62 #[t22,t26] fun t27=>
 ∀w,C2 w →
 CallX prog 37 #[t18,t27,t4] w (pk K) fun t29 w=>
 DoX prog (aB 53 t3) w (pk K) fun t30 w=>
 DoX prog (aD 53 t2 t30) w (pk K) fun _ w=>
 RetX prog [.cell t2 53] w K)
def fG (t0:Value)(w:World)(K:Ending→World→Prop):Prop:=
 DoX prog (aN 53) w (pk K) fun t2 w=>
 HeldX w (fun S1 w=>
 HDo prog (fun _=>True) (mNil t0) fun t7=>
 HDo prog (fun _=>True) (mFA 49 t7 0) fun t8=>
 HDo prog S1 (aB 9 t8) fun t9=>
 HDo prog (fun _=>True) (mNil t0) fun t11=>
 HDo prog (fun _=>True) (mFA 49 t11 1) fun t12=>
 HDo prog S1 (aB 3 t12) fun t13=>
 (CallX prog 61 #[t9,t13] w (pm1 (pm1 (pm1 (pm1 (pm1 (pm1 (pm1 (pm1 (pm1 (pm1 (pm1 (pm1 (pk K))))))))))))) fun t14 w=>
 (HDo prog (fun _=>True) (mExt t14 0) fun t15=>
 HDo prog (fun _=>True) (mExt t14 1) fun t16=>
 DoX prog (aN 53) w (pm1 (pm1 (pm1 (pm1 (pm1 (pm1 (pm1 (pm1 (pm1 (pm1 (pm1 (pm1 (pk K))))))))))))) fun t3 w=>
 S1 w∧(DoX prog (aD 53 t3 t15) w (pm1 (pm1 (pm1 (pm1 (pm1 (pm1 (pm1 (pm1 (pm1 (pm1 (pm1 (pm1 (pk K))))))))))))) fun _ w=>
 (dW t0 t2 t3 t16 w K))))∧(DoX prog (aN 53) w (pm1 (pm1 (pm1 (pm1 (pm1 (pm1 (pm1 (pm1 (pm1 (pm1 (pm1 (pm1 (pk K))))))))))))) fun t3_1 w=>
 S1 w∧(CallX prog 61 #[t9,t13] w (pm1 (pm1 (pm1 (pm1 (pm1 (pm1 (pm1 (pm1 (pm1 (pm1 (pm1 (pm1 (pk K))))))))))))) fun t14_1 w=>
 (HDo prog (fun _=>True) (mExt t14_1 0) fun t15_1=>
 HDo prog (fun _=>True) (mExt t14_1 1) fun t16_1=>
 DoX prog (aD 53 t3_1 t15_1) w (pm1 (pm1 (pm1 (pm1 (pm1 (pm1 (pm1 (pm1 (pm1 (pm1 (pm1 (pm1 (pk K))))))))))))) fun _ w=>
 (dW t0 t2 t3_1 t16_1 w K)))))
theorem Ag (t0:Value)(w:World)(K:Ending→World→Prop):wpX prog 31 [] [] none (aK Tryz.f36) (topQ prog [.cell 2 53] K) (aJ [t0]) [] w=fG t0 w K:=by kernel_rfl
theorem nF {t0:Value}{w:World}{K:Ending→World→Prop}(h:fG t0 w K):Calls prog 36 #[t0] w K:=
 aA Tryz.func36 rfl rfl rfl rfl (Eq.mpr (Ag t0 w K) h)
def dL (t0 t3 t4 t5 t6 t7:Value)(w:World)(K:Ending→World→Prop):Prop:=
 DoX prog (mEq .eql 24 (.tmp 21) (.const (.int .i64 0)) t7 (.int .i64 0)) w (pk K) fun t22 w=>
 DoX prog (mFA 53 t3 1) w (pk K) fun t23 w=>
 DoX prog (aB 3 t23) w (pk K) fun t24 w=>
 CallX prog 37 #[t22,t24,t7] w (pk K) fun t26 w=>
 QuietX w (fun C2=>
 QDo prog C2 (aB 42 t5) fun t27=>
 QCall prog C2 51 #[t27] fun t28=>
 QDo prog C2 (mUn .not t28) fun t29=>
 QDo prog C2 (mFA 53 t3 1) fun t30=>
 QDo prog C2 (aB 3 t30) fun t31=>
 ∀w,C2 w →
 CallX prog 37 #[t29,t31,(.int .i64 3)] w (pk K) fun t32 w=>
 DoX prog (mNil t0) w (pk K) fun t35 w=>
 DoX prog (mFA 49 t35 1) w (pk K) fun t36 w=>
 DoX prog (aD 3 t36 t6) w (pk K) fun _ w=>
 DoX prog (aB 42 t5) w (pk K) fun t37 w=>
 DoX prog (aD 42 t4 t37) w (pk K) fun _ w=>
 RetX prog [.cell t4 42] w K)
def gX (t0 t1:Value)(w:World)(K:Ending→World→Prop):Prop:=
 DoX prog (mBox 53 t1) w (pk K) fun t3 w=>
 DoX prog (aN 42) w (pk K) fun t4 w=>
 HeldX w (fun S1 w=>
 HDo prog (fun _=>True) (mNil t0) fun t10=>
 HDo prog (fun _=>True) (mFA 49 t10 0) fun t11=>
 HDo prog S1 (aB 9 t11) fun t12=>
 HDo prog (fun _=>True) (mNil t0) fun t14=>
 HDo prog (fun _=>True) (mFA 49 t14 1) fun t15=>
 HDo prog S1 (aB 3 t15) fun t16=>
 (CallX prog 65 #[t12,t16] w (pm1 (pm1 (pm1 (pm1 (pm1 (pm1 (pm1 (pm1 (pm1 (pm1 (pm1 (pm1 (pm1 (pm1 (pk K))))))))))))))) fun t17 w=>
 (HDo prog (fun _=>True) (mExt t17 0) fun t18=>
 HDo prog (fun _=>True) (mExt t17 1) fun t19=>
 HDo prog (fun _=>True) (mExt t17 2) fun t20=>
 DoX prog (aN 42) w (pm1 (pm1 (pm1 (pm1 (pm1 (pm1 (pm1 (pm1 (pm1 (pm1 (pm1 (pm1 (pm1 (pm1 (pk K))))))))))))))) fun t5 w=>
 S1 w∧(DoX prog (aD 42 t5 t18) w (pm1 (pm1 (pm1 (pm1 (pm1 (pm1 (pm1 (pm1 (pm1 (pm1 (pm1 (pm1 (pm1 (pm1 (pk K))))))))))))))) fun _ w=>
 (dL t0 t3 t4 t5 t19 t20 w K))))∧(DoX prog (aN 42) w (pm1 (pm1 (pm1 (pm1 (pm1 (pm1 (pm1 (pm1 (pm1 (pm1 (pm1 (pm1 (pm1 (pm1 (pk K))))))))))))))) fun t5_1 w=>
 S1 w∧(CallX prog 65 #[t12,t16] w (pm1 (pm1 (pm1 (pm1 (pm1 (pm1 (pm1 (pm1 (pm1 (pm1 (pm1 (pm1 (pm1 (pm1 (pk K))))))))))))))) fun t17_1 w=>
 (HDo prog (fun _=>True) (mExt t17_1 0) fun t18_1=>
 HDo prog (fun _=>True) (mExt t17_1 1) fun t19_1=>
 HDo prog (fun _=>True) (mExt t17_1 2) fun t20_1=>
 DoX prog (aD 42 t5_1 t18_1) w (pm1 (pm1 (pm1 (pm1 (pm1 (pm1 (pm1 (pm1 (pm1 (pm1 (pm1 (pm1 (pm1 (pm1 (pk K))))))))))))))) fun _ w=>
 (dL t0 t3 t4 t5_1 t19_1 t20_1 w K)))))
theorem uZ (t0 t1:Value)(w:World)(K:Ending→World→Prop):wpX prog 38 [] [] none (aK Tryz.f40) (topQ prog [.cell 4 42] K) (aJ [t0,t1]) [] w=gX t0 t1 w K:=by kernel_rfl
theorem wK {t0 t1:Value}{w:World}{K:Ending→World→Prop}(h:gX t0 t1 w K):Calls prog 40 #[t0,t1] w K:=
 aA Tryz.func40 rfl rfl rfl rfl (Eq.mpr (uZ t0 t1 w K) h)
def jL (t0 t1:Value)(w:World)(K:Ending→World→Prop):Prop:=
 DoX prog (mNil t0) w (pk K) fun t7 w=>
 DoX prog (mFA 49 t7 0) w (pk K) fun t8 w=>
 DoX prog (aB 9 t8) w (pk K) fun t9 w=>
 DoX prog (mB .len #[9] 3 #[false] #[t9]) w (pk K) fun t10 w=>
 DoX prog (mBin .lss 3 t1 t10) w (pk K) fun t11 w=>
 GDo t11 true (fun E=>E t0 w) w fun t13 w=>
 GDo t11 true (fun E=>DoX prog (mNil t13) w (pk K) E) w fun t14 w=>
 GDo t11 true (fun E=>DoX prog (mFA 49 t14 0) w (pk K) E) w fun t15 w=>
 GDo t11 true (fun E=>DoX prog (aB 9 t15) w (pk K) E) w fun t16 w=>
 GDo t11 true (fun E=>E t1 w) w fun t17 w=>
 GDo t11 true (fun E=>DoX prog (mIx 9 t16 t17) w (pk K) E) w fun t18 w=>
 GDo t11 true (fun E=>CallX prog 90 #[t18] w (pk K) E) w fun t19 w=>
 DoX prog (aL t11 t19 (.bool false)) w (pk K) fun t20 w=>
 K (.returned t20) w
theorem zH (t0 t1:Value)(w:World)(K:Ending→World→Prop):wpX prog 21 [] [] none (aK Tryz.f108) (topQ prog [.tmp 4] K) (aJ [t0,t1]) [] w=jL t0 t1 w K:=by kernel_rfl
theorem zL {t0 t1:Value}{w:World}{K:Ending→World→Prop}(h:jL t0 t1 w K):Calls prog 108 #[t0,t1] w K:=
 aA Tryz.func108 rfl rfl rfl rfl (Eq.mpr (zH t0 t1 w K) h)
def oS (t2 t3 t9 t108 t109 t110:Value)(w:World)(N4:List Value→World→Prop)(K:Ending→World→Prop):Prop:=
 DoX prog (mBin .lss 3 t110 t109) w (pk K) fun t111 w=>
 IfX t111 (DoX prog (mIA 39 t108 t110) w (pk K) fun t112 w=>
 DoX prog (aB 9 t112) w (pk K) fun t113 w=>
 DoX prog (mFA 42 t9 5) w (pk K) fun t114 w=>
 DoX prog (aB 40 t114) w (pk K) fun t115 w=>
 DoX prog (JI 182 t3 t113 false) w (pk K) fun t118 w=>
 DoX prog (aP 40 1 #[(0,t118)]) w (pk K) fun t119 w=>
 DoX prog (mB .append #[40,40] 40 #[false,false] #[t115,t119]) w (pk K) fun t120 w=>
 DoX prog (mFA 42 t9 5) w (pk K) fun t121 w=>
 DoX prog (aD 40 t121 t120) w (pk K) fun _ w=>
 DoX prog (mBin .add 3 t110 (.int .i64 1)) w (pk K) fun t122 w=>
 N4 [t122] w) (DoX prog (aB 42 t9) w (pk K) fun t123 w=>
 DoX prog (aD 42 t2 t123) w (pk K) fun _ w=>
 RetX prog [.cell t2 42] w K)
def gY (t2 t3 t9 t89:Value)(w:World)(N3:List Value→World→Prop)(K:Ending→World→Prop):Prop:=
 DoX prog (GS t89 false 0) w (pk K) fun t90 w=>
 DoX prog (mExt t90 0) w (pk K) fun t91 w=>
 IfX t91 (DoX prog (MR t89) w (pk K) fun t92 w=>
 DoX prog (mExt t92 0) w (pk K) fun t93 w=>
 DoX prog (mExt t92 1) w (pk K) fun t94 w=>
 DoX prog (aN 42) w (pk K) fun t11 w=>
 DoX prog (aD 42 t11 t94) w (pk K) fun _ w=>
 DoX prog (mFA 42 t11 0) w (pk K) fun t95 w=>
 DoX prog (aB 3 t95) w (pk K) fun t96 w=>
 DoX prog (mEq .neq 3 (.tmp 96) (.const (.int .i64 0)) t96 (.int .i64 0)) w (pk K) fun t97 w=>
 IfX t97 (DoX prog (mFA 42 t9 4) w (pk K) fun t98 w=>
 DoX prog (aB 39 t98) w (pk K) fun t99 w=>
 DoX prog (aP 39 1 #[(0,t93)]) w (pk K) fun t101 w=>
 DoX prog (mB .append #[39,39] 39 #[false,false] #[t99,t101]) w (pk K) fun t102 w=>
 DoX prog (mFA 42 t9 4) w (pk K) fun t103 w=>
 DoX prog (aD 39 t103 t102) w (pk K) fun _ w=>
 N3 [] w) (N3 [] w)) (DoX prog (mFA 42 t9 4) w (pk K) fun t104 w=>
 DoX prog (aB 39 t104) w (pk K) fun t105 w=>
 CallX prog 148 #[t105] w (pk K) fun t106 w=>
 DoX prog (mFA 42 t9 4) w (pk K) fun t107 w=>
 DoX prog (aB 39 t107) w (pk K) fun t108 w=>
 DoX prog (mB .len #[39] 3 #[false] #[t108]) w (pk K) fun t109 w=>
 LoopX [(.int .i64 0)] w (fun vs4 w N4=>∀_:Sg,oS t2 t3 t9 t108 t109 (vs4.getD 0 undef) w N4 K))
def pF (t0 t2 t3:Value)(w:World)(N1:List Value→World→Prop)(K:Ending→World→Prop):Prop:=
 CallX prog 36 #[t0] w (pk K) fun t16 w=>
 DoX prog (aN 53) w (pk K) fun t4 w=>
 DoX prog (aD 53 t4 t16) w (pk K) fun _ w=>
 QuietX w (fun C2=>
 QDo prog C2 (mFA 53 t4 0) fun t17=>
 QDo prog C2 (aB 3 t17) fun t18=>
 QDo prog C2 (mEq .neq 3 (.tmp 18) (.const (.int .i64 0)) t18 (.int .i64 0)) fun t19=>
 QDo prog C2 (mNil t0) fun t21=>
 QDo prog C2 (mFA 49 t21 0) fun t22=>
 QDo prog C2 (aB 9 t22) fun t23=>
 QDo prog C2 (mB .len #[9] 3 #[false] #[t23]) fun t24=>
 ∀w,C2 w →
 CallX prog 37 #[t19,t24,(.int .i64 4)] w (pk K) fun t25 w=>
 DoX prog (mFA 53 t4 2) w (pk K) fun t27 w=>
 DoX prog (aB 3 t27) w (pk K) fun t28 w=>
 DoX prog (mNil t0) w (pk K) fun t29 w=>
 DoX prog (mFA 49 t29 1) w (pk K) fun t30 w=>
 DoX prog (aD 3 t30 t28) w (pk K) fun _ w=>
 DoX prog (mFA 53 t4 0) w (pk K) fun t31 w=>
 DoX prog (aB 3 t31) w (pk K) fun t32 w=>
 DoX prog (mEq .eql 3 (.tmp 32) (.const (.int .i64 5)) t32 (.int .i64 5)) w (pk K) fun t33 w=>
 GDo t33 true (fun E=>DoX prog (mFA 53 t4 4) w (pk K) E) w fun t35 w=>
 GDo t33 true (fun E=>DoX prog (aB 9 t35) w (pk K) E) w fun t36 w=>
 GDo t33 true (fun E=>DoX prog (mEq .eql 9 (.tmp 36) (.const (.string ⟨#[73,68]⟩)) t36 (.string ⟨#[73,68]⟩)) w (pk K) E) w fun t37 w=>
 DoX prog (aL t33 t37 (.bool false)) w (pk K) fun t38 w=>
 IfX t38 (DoX prog (aG 42 #[(0,(.int .i64 7))]) w (pk K) fun t87 w=>
 DoX prog (aN 42) w (pk K) fun t9 w=>
 DoX prog (aD 42 t9 t87) w (pk K) fun _ w=>
 DoX prog (uR 182 t3) w (pk K) fun t89 w=>
 LoopX [] w (fun vs3 w N3=>∀_:Sg,gY t2 t3 t9 t89 w N3 K)) (DoX prog (mFA 53 t4 0) w (pk K) fun t39 w=>
 DoX prog (aB 3 t39) w (pk K) fun t40 w=>
 DoX prog (mEq .eql 3 (.tmp 40) (.const (.int .i64 4)) t40 (.int .i64 4)) w (pk K) fun t41 w=>
 DoX prog (mFA 53 t4 1) w (pk K) fun t42 w=>
 DoX prog (aB 3 t42) w (pk K) fun t43 w=>
 CallX prog 37 #[t41,t43,(.int .i64 3)] w (pk K) fun t44 w=>
 DoX prog (mFA 53 t4 4) w (pk K) fun t47 w=>
 DoX prog (aB 9 t47) w (pk K) fun t48 w=>
 DoX prog (JI 182 t3 t48 true) w (pk K) fun t49 w=>
 DoX prog (mExt t49 0) w (pk K) fun t50 w=>
 DoX prog (mExt t49 1) w (pk K) fun t51 w=>
 DoX prog (aN 42) w (pk K) fun t5 w=>
 DoX prog (aD 42 t5 t50) w (pk K) fun _ w=>
 DoX prog (mUn .not t51) w (pk K) fun t53 w=>
 DoX prog (mFA 53 t4 1) w (pk K) fun t54 w=>
 DoX prog (aB 3 t54) w (pk K) fun t55 w=>
 CallX prog 37 #[t53,t55,(.int .i64 9)] w (pk K) fun t56 w=>
 DoX prog (mB .len #[182] 3 #[false] #[t3]) w (pk K) fun t58 w=>
 DoX prog (mBin .lss 3 t58 (.int .i64 8191)) w (pk K) fun t59 w=>
 DoX prog (mFA 53 t4 1) w (pk K) fun t60 w=>
 DoX prog (aB 3 t60) w (pk K) fun t61 w=>
 CallX prog 37 #[t59,t61,(.int .i64 6)] w (pk K) fun t62 w=>
 CallX prog 36 #[t0] w (pk K) fun t64 w=>
 DoX prog (aN 53) w (pk K) fun t7 w=>
 DoX prog (aD 53 t7 t64) w (pk K) fun _ w=>
 QuietX w (fun C5=>
 QDo prog C5 (mFA 53 t7 0) fun t65=>
 QDo prog C5 (aB 3 t65) fun t66=>
 QDo prog C5 (mEq .neq 3 (.tmp 66) (.const (.int .i64 0)) t66 (.int .i64 0)) fun t67=>
 QDo prog C5 (mNil t0) fun t69=>
 QDo prog C5 (mFA 49 t69 0) fun t70=>
 QDo prog C5 (aB 9 t70) fun t71=>
 QDo prog C5 (mB .len #[9] 3 #[false] #[t71]) fun t72=>
 ∀w,C5 w →
 CallX prog 37 #[t67,t72,(.int .i64 4)] w (pk K) fun t73 w=>
 DoX prog (aB 53 t7) w (pk K) fun t75 w=>
 CallX prog 40 #[t0,t75] w (pk K) fun t76 w=>
 DoX prog (aN 42) w (pk K) fun t8 w=>
 DoX prog (aD 42 t8 t76) w (pk K) fun _ w=>
 QuietX w (fun C6=>
 QDo prog C6 (aB 42 t8) fun t77=>
 QCall prog C6 147 #[t77] fun t78=>
 QDo prog C6 (mBin .lss 3 t78 (.int .i64 24)) fun t79=>
 QDo prog C6 (mFA 53 t7 1) fun t80=>
 QDo prog C6 (aB 3 t80) fun t81=>
 ∀w,C6 w →
 CallX prog 37 #[t79,t81,(.int .i64 7)] w (pk K) fun t82 w=>
 DoX prog (mFA 53 t4 4) w (pk K) fun t84 w=>
 DoX prog (aB 9 t84) w (pk K) fun t85 w=>
 DoX prog (aB 42 t8) w (pk K) fun t86 w=>
 DoX prog (PQ 182 t3 t85 t86) w (pk K) fun _ w=>
 N1 [] w))))
def kT (t0:Value)(w:World)(K:Ending→World→Prop):Prop:=
 DoX prog (aN 42) w (pk K) fun t2 w=>
 DoX prog (mMap 182 none) w (pk K) fun t14 w=>
 LoopX [] w (fun vs1 w N1=>∀_:Sg,pF t0 t2 t14 w N1 K)
theorem An (t0:Value)(w:World)(K:Ending→World→Prop):wpX prog 124 [] [(2,[]),(17,[]),(23,[110])] none (aK Tryz.f107) (topQ prog [.cell 2 42] K) (aJ [t0]) [] w=kT t0 w K:=by kernel_rfl
theorem Aa {t0:Value}{w:World}{K:Ending→World→Prop}(h:kT t0 w K):Calls prog 107 #[t0] w K:=
 aA Tryz.func107 rfl rfl rfl rfl (Eq.mpr (An t0 w K) h)
def nE (t0 t2 t3 t4 t5:Value)(w:World)(N2:List Value→World→Prop)(K:Ending→World→Prop):Prop:=
 DoX prog (mNil t0) w (pk K) fun t27 w=>
 DoX prog (mFA 49 t27 0) w (pk K) fun t28 w=>
 DoX prog (aB 9 t28) w (pk K) fun t29 w=>
 DoX prog (mB .len #[9] 3 #[false] #[t29]) w (pk K) fun t30 w=>
 DoX prog (mBin .lss 3 t5 t30) w (pk K) fun t31 w=>
 IfX t31 (DoX prog (mNil t0) w (pk K) fun t35 w=>
 DoX prog (mFA 49 t35 0) w (pk K) fun t36 w=>
 DoX prog (aB 9 t36) w (pk K) fun t37 w=>
 CallX prog 109 #[t37,t5] w (pk K) fun t39 w=>
 IfX t39 (DoX prog (mBin .add 3 t5 (.int .i64 3)) w (pk K) fun t42 w=>
 DoX prog (mNil t0) w (pk K) fun t43 w=>
 DoX prog (mFA 49 t43 1) w (pk K) fun t44 w=>
 DoX prog (aD 3 t44 t42) w (pk K) fun _ w=>
 HeldX w (fun S3 w=>
 HDo prog S3 (aB 42 t3) fun t45=>
 HDo prog (fun _=>True) (mNil t0) fun t48=>
 HDo prog (fun _=>True) (mFA 49 t48 0) fun t49=>
 HDo prog S3 (aB 9 t49) fun t50=>
 HDo prog (fun _=>True) (bT 9 t50 (some t4) (some t5) none) fun t53=>
 DoX prog (aP 40 1 #[(0,t45)]) w (pm1 (pm1 (pm1 (pm1 (pm1 (pm1 (pm1 (pm1 (pm1 (pk K)))))))))) fun t46 w=>
 S3 w∧(HDo prog (fun _=>True) (aG 44 #[(0,(.string ⟨#[66,73]⟩)),(1,t46),(2,t53)]) fun t54=>
 DoX prog (aD 44 t2 t54) w (pm1 (pm1 (pm1 (pm1 (pm1 (pm1 (pm1 (pm1 (pm1 (pk K)))))))))) fun _ w=>
 (RetX prog [.cell t2 44] w K)))) (DoX prog (mBin .add 3 t5 (.int .i64 1)) w (pk K) fun t33 w=>
 N2 [t33] w)) (DoX prog (mNil t0) w (pk K) fun t56 w=>
 DoX prog (mFA 49 t56 0) w (pk K) fun t57 w=>
 DoX prog (aB 9 t57) w (pk K) fun t58 w=>
 DoX prog (mB .len #[9] 3 #[false] #[t58]) w (pk K) fun t59 w=>
 CallX prog 63 #[t59,(.int .i64 4)] w (pk K) fun t60 w=>
 DoX prog (aG 44 #[]) w (pk K) fun t61 w=>
 DoX prog (aD 44 t2 t61) w (pk K) fun _ w=>
 RetX prog [.cell t2 44] w K)
def jR (t0:Value)(w:World)(K:Ending→World→Prop):Prop:=
 DoX prog (aN 44) w (pk K) fun t2 w=>
 CallX prog 107 #[t0] w (pk K) fun t7 w=>
 DoX prog (aN 42) w (pk K) fun t3 w=>
 DoX prog (aD 42 t3 t7) w (pk K) fun _ w=>
 QuietX w (fun C1=>
 QDo prog C1 (mNil t0) fun t10=>
 QDo prog C1 (mFA 49 t10 1) fun t11=>
 QDo prog C1 (aB 3 t11) fun t12=>
 QCall prog C1 108 #[t0,t12] fun t13=>
 QDo prog C1 (mNil t0) fun t15=>
 QDo prog C1 (mFA 49 t15 1) fun t16=>
 QDo prog C1 (aB 3 t16) fun t17=>
 ∀w,C1 w →
 CallX prog 37 #[t13,t17,(.int .i64 3)] w (pk K) fun t18 w=>
 DoX prog (mNil t0) w (pk K) fun t20 w=>
 DoX prog (mFA 49 t20 1) w (pk K) fun t21 w=>
 DoX prog (aB 3 t21) w (pk K) fun t22 w=>
 DoX prog (mBin .add 3 t22 (.int .i64 1)) w (pk K) fun t23 w=>
 LoopX [t23] w (fun vs2 w N2=>∀_:Sg,nE t0 t2 t3 t23 (vs2.getD 0 undef) w N2 K))
theorem yK (t0:Value)(w:World)(K:Ending→World→Prop):wpX prog 62 [] [(5,[5])] none (aK Tryz.f64) (topQ prog [.cell 2 44] K) (aJ [t0]) [] w=jR t0 w K:=by kernel_rfl
theorem yE {t0:Value}{w:World}{K:Ending→World→Prop}(h:jR t0 w K):Calls prog 64 #[t0] w K:=
 aA Tryz.func64 rfl rfl rfl rfl (Eq.mpr (yK t0 w K) h)
def jZ (t2 t4 t6:Value)(w:World)(K:Ending→World→Prop):Prop:=
 DoX prog (mFA 53 t4 4) w (pk K) fun t40 w=>
 DoX prog (aB 9 t40) w (pk K) fun t41 w=>
 DoX prog (aG 44 #[(0,t41),(1,t2)]) w (pk K) fun t43 w=>
 DoX prog (aD 44 t6 t43) w (pk K) fun _ w=>
 RetX prog [.cell t6 44] w K
def dZ (t4 t33:Value)(w:World)(J2:List Value→World→Prop)(K:Ending→World→Prop):Prop:=
 IfX t33 (DoX prog (mFA 53 t4 1) w (pk K) fun t37 w=>
 DoX prog (aB 3 t37) w (pk K) fun t38 w=>
 CallX prog 63 #[t38,(.int .i64 3)] w (pk K) fun t39 w=>
 J2 [] w) (J2 [] w)
def fF (t0 t1 t2:Value)(w:World)(K:Ending→World→Prop):Prop:=
 DoX prog (mBox 53 t1) w (pk K) fun t4 w=>
 DoX prog (aN 44) w (pk K) fun t6 w=>
 QuietX w (fun C1=>
 QDo prog C1 (mNil t0) fun t8=>
 QDo prog C1 (mFA 49 t8 2) fun t9=>
 QDo prog C1 (aB 23 t9) fun t10=>
 QDo prog C1 (mB .len #[23] 3 #[false] #[t10]) fun t11=>
 QDo prog C1 (mBin .lss 3 t11 (.int .i64 8191)) fun t12=>
 QDo prog C1 (mFA 53 t4 1) fun t13=>
 QDo prog C1 (aB 3 t13) fun t14=>
 ∀w,C1 w →
 CallX prog 37 #[t12,t14,(.int .i64 6)] w (pk K) fun t15 w=>
 DoX prog (mFA 53 t4 2) w (pk K) fun t17 w=>
 DoX prog (aB 3 t17) w (pk K) fun t18 w=>
 DoX prog (mNil t0) w (pk K) fun t19 w=>
 DoX prog (mFA 49 t19 1) w (pk K) fun t20 w=>
 DoX prog (aD 3 t20 t18) w (pk K) fun _ w=>
 JoinX (fun J2=>
 DoX prog (mFA 53 t4 4) w (pk K) fun t21 w=>
 DoX prog (aB 9 t21) w (pk K) fun t22 w=>
 DoX prog (mEq .eql 9 (.tmp 22) (.const (.string ⟨#[66,73]⟩)) t22 (.string ⟨#[66,73]⟩)) w (pk K) fun t24 w=>
 IfX t24 (DoX prog (mB .len #[40] 3 #[false] #[t2]) w (pk K) fun t26 w=>
 DoX prog (mEq .eql 3 (.tmp 26) (.const (.int .i64 0)) t26 (.int .i64 0)) w (pk K) fun t27 w=>
 DoX prog (mFA 53 t4 1) w (pk K) fun t28 w=>
 DoX prog (aB 3 t28) w (pk K) fun t29 w=>
 CallX prog 37 #[t27,t29,(.int .i64 3)] w (pk K) fun t30 w=>
 CallX prog 64 #[t0] w (pk K) fun t32 w=>
 DoX prog (aD 44 t6 t32) w (pk K) fun _ w=>
 RetX prog [.cell t6 44] w K) (JoinX (fun J3=>
 DoX prog (mEq .eql 9 (.tmp 22) (.const (.string ⟨#[73,68]⟩)) t22 (.string ⟨#[73,68]⟩)) w (pk K) fun t34 w=>
 IfX t34 (J3 [t34] w) (DoX prog (mEq .eql 9 (.tmp 22) (.const (.string ⟨#[69,73]⟩)) t22 (.string ⟨#[69,73]⟩)) w (pk K) fun t35 w=>
 IfX t35 (J3 [t35] w) (DoX prog (mEq .eql 9 (.tmp 22) (.const (.string ⟨#[82]⟩)) t22 (.string ⟨#[82]⟩)) w (pk K) fun t36 w=>
 J3 [t36] w))) (fun vs3 w=>∀_:Sg,dZ t4 (vs3.getD 0 undef) w J2 K))) (fun vs2 w=>∀_:Sg,jZ t2 t4 t6 w K))
theorem rA (t0 t1 t2:Value)(w:World)(K:Ending→World→Prop):wpX prog 44 [(10,[33]),(11,[])] [] none (aK Tryz.f39) (topQ prog [.cell 6 44] K) (aJ [t0,t1,t2]) [] w=fF t0 t1 t2 w K:=by kernel_rfl
theorem rQ {t0 t1 t2:Value}{w:World}{K:Ending→World→Prop}(h:fF t0 t1 t2 w K):Calls prog 39 #[t0,t1,t2] w K:=
 aA Tryz.func39 rfl rfl rfl rfl (Eq.mpr (rA t0 t1 t2 w K) h)
def aE (x0:Deferred)(x1:Value)(K:Ending→World→Prop):=pd prog [.cell x1 26] K [x0]
def pH (t0 t2 t3:Value)(d1:Deferred)(w:World)(N2:List Value→World→Prop)(K:Ending→World→Prop):Prop:=
 CallX prog 36 #[t0] w (aE d1 t2 K) fun t8 w=>
 DoX prog (aN 53) w (aE d1 t2 K) fun t4 w=>
 DoX prog (aD 53 t4 t8) w (aE d1 t2 K) fun _ w=>
 DoX prog (mFA 53 t4 0) w (aE d1 t2 K) fun t23 w=>
 DoX prog (aB 3 t23) w (aE d1 t2 K) fun t24 w=>
 DoX prog (mEq .eql 3 (.tmp 24) (.const (.int .i64 0)) t24 (.int .i64 0)) w (aE d1 t2 K) fun t25 w=>
 IfX t25 (DoX prog (mB .len #[40] 3 #[false] #[t3]) w (aE d1 t2 K) fun t27 w=>
 DoX prog (mEq .eql 3 (.tmp 27) (.const (.int .i64 0)) t27 (.int .i64 0)) w (aE d1 t2 K) fun t28 w=>
 DoX prog (mNil t0) w (aE d1 t2 K) fun t30 w=>
 DoX prog (mFA 49 t30 0) w (aE d1 t2 K) fun t31 w=>
 DoX prog (aB 9 t31) w (aE d1 t2 K) fun t32 w=>
 DoX prog (mB .len #[9] 3 #[false] #[t32]) w (aE d1 t2 K) fun t33 w=>
 CallX prog 37 #[t28,t33,(.int .i64 4)] w (aE d1 t2 K) fun t34 w=>
 DoX prog (aG 26 #[]) w (aE d1 t2 K) fun t35 w=>
 DoX prog (aD 26 t2 t35) w (aE d1 t2 K) fun _ w=>
 oO prog [.cell t2 26] K [d1] .returning w) (DoX prog (mFA 53 t4 0) w (aE d1 t2 K) fun t37 w=>
 DoX prog (aB 3 t37) w (aE d1 t2 K) fun t38 w=>
 DoX prog (mEq .eql 3 (.tmp 38) (.const (.int .i64 5)) t38 (.int .i64 5)) w (aE d1 t2 K) fun t39 w=>
 GDo t39 true (fun E=>DoX prog (mFA 53 t4 4) w (aE d1 t2 K) E) w fun t41 w=>
 GDo t39 true (fun E=>DoX prog (aB 9 t41) w (aE d1 t2 K) E) w fun t42 w=>
 GDo t39 true (fun E=>CallX prog 38 #[t42] w (aE d1 t2 K) E) w fun t43 w=>
 GDo t39 true (fun E=>DoX prog (mUn .not t43) w (aE d1 t2 K) E) w fun t44 w=>
 DoX prog (aL t39 t44 (.bool false)) w (aE d1 t2 K) fun t45 w=>
 IfX t45 (HeldX w (fun S3 w=>
 HDo prog (fun _=>True) (mNil t0) fun t48=>
 HDo prog (fun _=>True) (mFA 49 t48 2) fun t49=>
 HDo prog S3 (aB 23 t49) fun t50=>
 HDo prog S3 (aB 53 t4) fun t52=>
 CallX prog 39 #[t0,t52,t3] w (pm1 (pm1 (pm1 (pm1 (pm1 (pm1 (pm1 (pm1 (pm1 (pm1 (aE d1 t2 K))))))))))) fun t54 w=>
 S3 w∧(DoX prog (aP 23 1 #[(0,t54)]) w (pm1 (pm1 (pm1 (pm1 (pm1 (pm1 (pm1 (pm1 (pm1 (pm1 (aE d1 t2 K))))))))))) fun t55 w=>
 S3 w∧(DoX prog (mB .append #[23,23] 23 #[false,false] #[t50,t55]) w (pm1 (pm1 (pm1 (pm1 (pm1 (pm1 (pm1 (pm1 (pm1 (pm1 (aE d1 t2 K))))))))))) fun t56 w=>
 S3 w∧(HDo prog (fun _=>True) (mNil t0) fun t57=>
 HDo prog (fun _=>True) (mFA 49 t57 2) fun t58=>
 DoX prog (aD 23 t58 t56) w (pm1 (pm1 (pm1 (pm1 (pm1 (pm1 (pm1 (pm1 (pm1 (pm1 (aE d1 t2 K))))))))))) fun _ w=>
 (AtX [d1] [d1] (N2 [(.slice none 0 0)] w))))))) (DoX prog (aB 53 t4) w (aE d1 t2 K) fun t10 w=>
 CallX prog 40 #[t0,t10] w (aE d1 t2 K) fun t11 w=>
 DoX prog (aN 42) w (aE d1 t2 K) fun t5 w=>
 DoX prog (aD 42 t5 t11) w (aE d1 t2 K) fun _ w=>
 DoX prog (mB .len #[40] 3 #[false] #[t3]) w (aE d1 t2 K) fun t13 w=>
 DoX prog (mBin .lss 3 t13 (.int .i64 32)) w (aE d1 t2 K) fun t14 w=>
 DoX prog (mFA 53 t4 1) w (aE d1 t2 K) fun t15 w=>
 DoX prog (aB 3 t15) w (aE d1 t2 K) fun t16 w=>
 CallX prog 37 #[t14,t16,(.int .i64 6)] w (aE d1 t2 K) fun t17 w=>
 DoX prog (aB 42 t5) w (aE d1 t2 K) fun t19 w=>
 DoX prog (aP 40 1 #[(0,t19)]) w (aE d1 t2 K) fun t20 w=>
 DoX prog (mB .append #[40,40] 40 #[false,false] #[t3,t20]) w (aE d1 t2 K) fun t21 w=>
 AtX [d1] [d1] (N2 [t21] w)))
def kX (t0:Value)(w:World)(K:Ending→World→Prop):Prop:=
 DoX prog (aN 26) w (pk K) fun t2 w=>
 DoX prog (LL (.func 35) #[] #[t2]) w (pk K) fun t6 w=>
 DfrX (dfrV t6 #[]) (fun d1=>
 LoopX [(.slice none 0 0)] w (fun vs2 w N2=>∀_:Sg,pH t0 t2 (vs2.getD 0 undef) d1 w N2 K))
theorem Ao (t0:Value)(w:World)(K:Ending→World→Prop):wpX prog 59 [] [(3,[3])] none (aK Tryz.f16) (topQ prog [.cell 2 26] K) (aJ [t0]) [] w=kX t0 w K:=by kernel_rfl
theorem Ap {t0:Value}{w:World}{K:Ending→World→Prop}(h:kX t0 w K):Calls prog 16 #[t0] w K:=
 aA Tryz.func16 rfl rfl rfl rfl (Eq.mpr (Ao t0 w K) h)
def dU (t0 r:Value)(w:World)(K:Ending→World→Prop):Prop:=
 DoX prog (mEq .eql 20 (.tmp 4) (.const .nilIface) r .nilIface) w (pk K) fun t6 w=>
 IfX t6 (K (.returned (.tuple #[])) w) (DoX prog (mTA r 20 26 true) w (pk K) fun t7 w=>
 DoX prog (mExt t7 1) w (pk K) fun t8 w=>
 DoX prog (mExt t7 0) w (pk K) fun t9 w=>
 IfX t8 (DoX prog (aN 26) w (pk K) fun t2 w=>
 DoX prog (aD 26 t2 t9) w (pk K) fun _ w=>
 DoX prog (aB 26 t2) w (pk K) fun t10 w=>
 DoX prog (aD 26 t0 t10) w (pk K) fun _ w=>
 K (.returned (.tuple #[])) w) (DoX prog (iT r) w (pk K) fun _ w=>
 K (.returned (.tuple #[])) w))
theorem vQ (t0 r:Value)(w:World)(K:Ending→World→Prop):wpX prog 11 [] [] none (RJ (aK Tryz.f35)) (topD prog [] K) (upd (aJ [t0]) 4 r) [] w=dU t0 r w K:=by kernel_rfl
theorem kA {t0:Value}{u:FrameMode}{w:World}{R:Ending→FrameMode→World→Prop}(h:dU t0 (recV u) w (fun e w=>R e (recM u) w)):CallsD prog 35 #[t0] u w R:=
 lH Tryz.func35 rfl rfl rfl rfl rfl rfl rfl rfl (Eq.mpr (vQ t0 (recV u) w _) h)
def Ct (t0:Value)(w:World)(K:Ending→World→Prop):Prop:=
 DoX prog (aN 26) w (pk K) fun t3 w=>
 DoX prog (aG 49 #[(0,t0)]) w (pk K) fun t7 w=>
 DoX prog (mBox 49 t7) w (pk K) fun t8 w=>
 CallX prog 16 #[t8] w (pk K) fun t10 w=>
 DoX prog (aN 26) w (pk K) fun t5 w=>
 DoX prog (aD 26 t5 t10) w (pk K) fun _ w=>
 DoX prog (mFA 26 t5 1) w (pk K) fun t11 w=>
 DoX prog (aB 24 t11) w (pk K) fun t12 w=>
 DoX prog (mEq .neq 24 (.tmp 12) (.const (.int .i64 0)) t12 (.int .i64 0)) w (pk K) fun t13 w=>
 IfX t13 (QuietX w (fun C1=>
 QDo prog C1 (aB 26 t5) fun t14=>
 ∀w,C1 w →
 DoX prog (aD 26 t3 t14) w (pk K) fun _ w=>
 RetX prog [.val (.slice none 0 0),.cell t3 26] w K)) (DoX prog (mNil t8) w (pk K) fun t16 w=>
 DoX prog (mFA 49 t16 2) w (pk K) fun t17 w=>
 DoX prog (aB 23 t17) w (pk K) fun t18 w=>
 DoX prog (aG 26 #[]) w (pk K) fun t19 w=>
 DoX prog (aD 26 t3 t19) w (pk K) fun _ w=>
 RetX prog [.val t18,.cell t3 26] w K)
theorem HJ (t0:Value)(w:World)(K:Ending→World→Prop):wpX prog 20 [] [] none (aK Tryz.f8) (topQ prog [.tmp 2,.cell 3 26] K) (aJ [t0]) [] w=Ct t0 w K:=by kernel_rfl
theorem IC {t0:Value}{w:World}{K:Ending→World→Prop}(h:Ct t0 w K):Calls prog 8 #[t0] w K:=
 aA Tryz.func8 rfl rfl rfl rfl (Eq.mpr (HJ t0 w K) h)
def Du (t27:Value)(w:World)(N2:List Value→World→Prop)(K:Ending→World→Prop):Prop:=
 DoX prog (mBin .add 3 t27 (.int .i64 1)) w (pk K) fun t43 w=>
 N2 [t43] w
def DA (t7 t25 t26 t27:Value)(w:World)(N2:List Value→World→Prop)(K:Ending→World→Prop):Prop:=
 DoX prog (mBin .lss 3 t27 t26) w (pk K) fun t28 w=>
 IfX t28 (JoinX (fun J3=>
 DoX prog (mIA 23 t25 t27) w (pk K) fun t29 w=>
 DoX prog (aB 44 t29) w (pk K) fun t30 w=>
 DoX prog (aN 44) w (pk K) fun t9 w=>
 DoX prog (aD 44 t9 t30) w (pk K) fun _ w=>
 DoX prog (aB 44 t9) w (pk K) fun t31 w=>
 CallX prog 29 #[t31] w (pk K) fun t32 w=>
 CallX prog 28 #[t32] w (pk K) fun t33 w=>
 DoX prog (mBin .add 9 t33 (.string ⟨#[10]⟩)) w (pk K) fun t34 w=>
 CallX prog 27 #[t7,t34] w (pk K) fun t35 w=>
 DoX prog (mFA 44 t9 0) w (pk K) fun t36 w=>
 DoX prog (aB 9 t36) w (pk K) fun t37 w=>
 DoX prog (mEq .eql 9 (.tmp 37) (.const (.string ⟨#[66,73]⟩)) t37 (.string ⟨#[66,73]⟩)) w (pk K) fun t38 w=>
 IfX t38 (DoX prog (mFA 44 t9 2) w (pk K) fun t39 w=>
 DoX prog (aB 9 t39) w (pk K) fun t40 w=>
 DoX prog (mBin .add 9 t40 (.string ⟨#[10,69,73,10]⟩)) w (pk K) fun t41 w=>
 CallX prog 27 #[t7,t41] w (pk K) fun t42 w=>
 J3 [] w) (J3 [] w)) (fun vs3 w=>∀_:Sg,Du t27 w N2 K)) (CallX prog 30 #[t7] w (pk K) fun t44 w=>
 K (.returned (.tuple #[t44,(.int .i64 0)])) w)
def DN (t0 t13 t14 t15:Value)(w:World)(N1:List Value→World→Prop)(K:Ending→World→Prop):Prop:=
 DoX prog (mBin .lss 3 t15 t14) w (pk K) fun t16 w=>
 IfX t16 (DoX prog (mIA 23 t13 t15) w (pk K) fun t17 w=>
 DoX prog (aB 44 t17) w (pk K) fun t18 w=>
 DoX prog (aN 44) w (pk K) fun t5 w=>
 DoX prog (aD 44 t5 t18) w (pk K) fun _ w=>
 DoX prog (aB 44 t5) w (pk K) fun t19 w=>
 CallX prog 26 #[t19] w (pk K) fun t20 w=>
 DoX prog (mEq .neq 24 (.tmp 21) (.const (.int .i64 0)) t20 (.int .i64 0)) w (pk K) fun t22 w=>
 IfX t22 (K (.returned (.tuple #[(.string ⟨#[]⟩),t20])) w) (DoX prog (mBin .add 3 t15 (.int .i64 1)) w (pk K) fun t24 w=>
 N1 [t24] w)) (DoX prog (aN 68) w (pk K) fun t7 w=>
 DoX prog (mB .len #[23] 3 #[false] #[t0]) w (pk K) fun t26 w=>
 LoopX [(.int .i64 0)] w (fun vs2 w N2=>∀_:Sg,DA t7 t0 t26 (vs2.getD 0 undef) w N2 K))
def Dc (t0:Value)(w:World)(K:Ending→World→Prop):Prop:=
 DoX prog (mB .len #[23] 3 #[false] #[t0]) w (pk K) fun t11 w=>
 DoX prog (mBin .gtr 3 t11 (.int .i64 8191)) w (pk K) fun t12 w=>
 IfX t12 (K (.returned (.tuple #[(.string ⟨#[]⟩),(.int .i64 6)])) w) (DoX prog (mB .len #[23] 3 #[false] #[t0]) w (pk K) fun t14 w=>
 LoopX [(.int .i64 0)] w (fun vs1 w N1=>∀_:Sg,DN t0 t0 t14 (vs1.getD 0 undef) w N1 K))
theorem HT (t0:Value)(w:World)(K:Ending→World→Prop):wpX prog 45 [(17,[])] [(4,[15]),(12,[27])] none (aK Tryz.f12) (topQ prog [.tmp 2,.tmp 3] K) (aJ [t0]) [] w=Dc t0 w K:=by kernel_rfl
theorem Iq {t0:Value}{w:World}{K:Ending→World→Prop}(h:Dc t0 w K):Calls prog 12 #[t0] w K:=
 aA Tryz.func12 rfl rfl rfl rfl (Eq.mpr (HT t0 w K) h)
def DD (t4 t10 t11 t12:Value)(w:World)(N1:List Value→World→Prop)(K:Ending→World→Prop):Prop:=
 DoX prog (mBin .lss 3 t12 t11) w (pk K) fun t13 w=>
 IfX t13 (DoX prog (mIA 40 t10 t12) w (pk K) fun t14 w=>
 DoX prog (aB 42 t14) w (pk K) fun t15 w=>
 DoX prog (aN 42) w (pk K) fun t6 w=>
 DoX prog (aD 42 t6 t15) w (pk K) fun _ w=>
 DoX prog (mFA 42 t6 0) w (pk K) fun t16 w=>
 DoX prog (aB 3 t16) w (pk K) fun t17 w=>
 DoX prog (mEq .neq 3 (.tmp 17) (.const (.int .i64 2)) t17 (.int .i64 2)) w (pk K) fun t18 w=>
 GDo t18 true (fun E=>DoX prog (mFA 42 t6 0) w (pk K) E) w fun t20 w=>
 GDo t18 true (fun E=>DoX prog (aB 3 t20) w (pk K) E) w fun t21 w=>
 GDo t18 true (fun E=>DoX prog (mEq .neq 3 (.tmp 21) (.const (.int .i64 3)) t21 (.int .i64 3)) w (pk K) E) w fun t22 w=>
 DoX prog (aL t18 t22 (.bool false)) w (pk K) fun t23 w=>
 IfX t23 (K (.returned (.tuple #[(.slice none 0 0),(.int .i64 10)])) w) (DoX prog (aB 42 t6) w (pk K) fun t25 w=>
 CallX prog 31 #[t25] w (pk K) fun t26 w=>
 DoX prog (mExt t26 0) w (pk K) fun t27 w=>
 DoX prog (mExt t26 1) w (pk K) fun t28 w=>
 DoX prog (mUn .not t28) w (pk K) fun t30 w=>
 IfX t30 (K (.returned (.tuple #[(.slice none 0 0),(.int .i64 2)])) w) (DoX prog (aP 36 1 #[(0,t27)]) w (pk K) fun t33 w=>
 DoX prog (mB .append #[36,36] 36 #[false,false] #[t4,t33]) w (pk K) fun t34 w=>
 DoX prog (mBin .add 3 t12 (.int .i64 1)) w (pk K) fun t35 w=>
 N1 [t34,t35] w))) (K (.returned (.tuple #[t4,(.int .i64 0)])) w)
def CB (t0:Value)(w:World)(K:Ending→World→Prop):Prop:=
 DoX prog (mBox 44 t0) w (pk K) fun t1 w=>
 DoX prog (mFA 44 t1 1) w (pk K) fun t9 w=>
 DoX prog (aB 40 t9) w (pk K) fun t10 w=>
 DoX prog (mB .len #[40] 3 #[false] #[t10]) w (pk K) fun t11 w=>
 LoopX [(.slice none 0 0),(.int .i64 0)] w (fun vs1 w N1=>∀_:Sg,DD (vs1.getD 0 undef) t10 t11 (vs1.getD 1 undef) w N1 K)
theorem HM (t0:Value)(w:World)(K:Ending→World→Prop):wpX prog 37 [] [(3,[4,12])] none (aK Tryz.f13) (topQ prog [.tmp 2,.tmp 3] K) (aJ [t0]) [] w=CB t0 w K:=by kernel_rfl
theorem HW {t0:Value}{w:World}{K:Ending→World→Prop}(h:CB t0 w K):Calls prog 13 #[t0] w K:=
 aA Tryz.func13 rfl rfl rfl rfl (Eq.mpr (HM t0 w K) h)
def BL (t0 t21 t22:Value)(w:World)(N1:List Value→World→Prop)(K:Ending→World→Prop):Prop:=
 DoX prog (mBin .lss 3 t22 (.int .i64 14)) w (pk K) fun t23 w=>
 IfX t23 (DoX prog (mIx 80 t21 t22) w (pk K) fun t24 w=>
 DoX prog (aN 79) w (pk K) fun t5 w=>
 DoX prog (aD 79 t5 t24) w (pk K) fun _ w=>
 DoX prog (mFA 79 t5 1) w (pk K) fun t25 w=>
 DoX prog (aB 9 t25) w (pk K) fun t26 w=>
 CallX prog 33 #[t26] w (pk K) fun t27 w=>
 CallX prog 32 #[t27,t0] w (pk K) fun t29 w=>
 IfX t29 (DoX prog (mFA 79 t5 0) w (pk K) fun t30 w=>
 DoX prog (aB 9 t30) w (pk K) fun t31 w=>
 K (.returned t31) w) (DoX prog (mBin .add 3 t22 (.int .i64 1)) w (pk K) fun t32 w=>
 N1 [t32] w)) (K (.returned (.string ⟨#[63]⟩)) w)
def Bf (t0:Value)(w:World)(K:Ending→World→Prop):Prop:=
 DoX prog (aG 79 #[(0,(.string ⟨#[]⟩)),(1,(.string ⟨#[98,32,66,32,98,42,32,66,42,32,66,84,32,69,84,32,69,77,67,32,66,88,32,69,88,32,102,32,70,32,102,42,32,104,32,110,32,113,32,81,32,115,32,83,32,84,42,32,87,32,87,42]⟩))]) w (pk K) fun t6 w=>
 DoX prog (aG 79 #[(0,(.string ⟨#[110]⟩)),(1,(.string ⟨#[103,32,71,32,105,32,106,32,74,32,77,32,119,32,84,99,32,84,76,32,84,114,32,84,115,32,84,119,32,84,122]⟩))]) w (pk K) fun t7 w=>
 DoX prog (aG 79 #[(0,(.string ⟨#[110,110]⟩)),(1,(.string ⟨#[100,48,32,108,32,109,32,84,100,32,84,68]⟩))]) w (pk K) fun t8 w=>
 DoX prog (aG 79 #[(0,(.string ⟨#[110,110,110]⟩)),(1,(.string ⟨#[114,103,32,82,71]⟩))]) w (pk K) fun t9 w=>
 DoX prog (aG 79 #[(0,(.string ⟨#[110,110,110,110]⟩)),(1,(.string ⟨#[107,32,75,32,114,101,32,118,32,121]⟩))]) w (pk K) fun t10 w=>
 DoX prog (aG 79 #[(0,(.string ⟨#[110,110,110,110,110,110]⟩)),(1,(.string ⟨#[99,32,99,109,32,100,49,32,84,109]⟩))]) w (pk K) fun t11 w=>
 DoX prog (aG 79 #[(0,(.string ⟨#[78]⟩)),(1,(.string ⟨#[66,77,67,32,99,115,32,67,83,32,68,111,32,103,115,32,77,80,32,114,105,32,115,104]⟩))]) w (pk K) fun t12 w=>
 DoX prog (aG 79 #[(0,(.string ⟨#[78,110]⟩)),(1,(.string ⟨#[84,102]⟩))]) w (pk K) fun t13 w=>
 DoX prog (aG 79 #[(0,(.string ⟨#[78,42]⟩)),(1,(.string ⟨#[66,68,67,32,68,80]⟩))]) w (pk K) fun t14 w=>
 DoX prog (aG 79 #[(0,(.string ⟨#[115]⟩)),(1,(.string ⟨#[84,106,32,39]⟩))]) w (pk K) fun t15 w=>
 DoX prog (aG 79 #[(0,(.string ⟨#[110,110,115]⟩)),(1,(.string ⟨#[34]⟩))]) w (pk K) fun t16 w=>
 DoX prog (aG 79 #[(0,(.string ⟨#[97]⟩)),(1,(.string ⟨#[84,74]⟩))]) w (pk K) fun t17 w=>
 DoX prog (aG 79 #[(0,(.string ⟨#[97,110]⟩)),(1,(.string ⟨#[100]⟩))]) w (pk K) fun t18 w=>
 DoX prog (aG 79 #[(0,(.string ⟨#[100]⟩)),(1,(.string ⟨#[66,73]⟩))]) w (pk K) fun t19 w=>
 DoX prog (aG 80 #[(0,t6),(1,t7),(2,t8),(3,t9),(4,t10),(5,t11),(6,t12),(7,t13),(8,t14),(9,t15),(10,t16),(11,t17),(12,t18),(13,t19)]) w (pk K) fun t20 w=>
 DoX prog (aN 80) w (pk K) fun t3 w=>
 DoX prog (aD 80 t3 t20) w (pk K) fun _ w=>
 DoX prog (aB 80 t3) w (pk K) fun t21 w=>
 LoopX [(.int .i64 0)] w (fun vs1 w N1=>∀_:Sg,BL t0 t21 (vs1.getD 0 undef) w N1 K)
theorem G4 (t0:Value)(w:World)(K:Ending→World→Prop):wpX prog 33 [] [(3,[22])] none (aK Tryz.f14) (topQ prog [.tmp 2] K) (aJ [t0]) [] w=Bf t0 w K:=by kernel_rfl
theorem GC {t0:Value}{w:World}{K:Ending→World→Prop}(h:Bf t0 w K):Calls prog 14 #[t0] w K:=
 aA Tryz.func14 rfl rfl rfl rfl (Eq.mpr (G4 t0 w K) h)
def BK (t1 t20:Value)(w:World)(N1:List Value→World→Prop)(K:Ending→World→Prop):Prop:=
 DoX prog (GS t20 true 0) w (pk K) fun t21 w=>
 DoX prog (mExt t21 0) w (pk K) fun t22 w=>
 IfX t22 (DoX prog (mExt t21 1) w (pk K) fun t23 w=>
 DoX prog (mExt t21 2) w (pk K) fun t24 w=>
 DoX prog (mFA 44 t1 1) w (pk K) fun t26 w=>
 DoX prog (aB 40 t26) w (pk K) fun t27 w=>
 DoX prog (mIA 40 t27 t23) w (pk K) fun t29 w=>
 DoX prog (mFA 42 t29 0) w (pk K) fun t30 w=>
 DoX prog (aB 3 t30) w (pk K) fun t31 w=>
 CallX prog 34 #[t24,t31] w (pk K) fun t32 w=>
 DoX prog (mUn .not t32) w (pk K) fun t33 w=>
 IfX t33 (K (.returned (.int .i64 28)) w) (N1 [] w)) (DoX prog (mFA 44 t1 2) w (pk K) fun t34 w=>
 DoX prog (aB 9 t34) w (pk K) fun t35 w=>
 DoX prog (mEq .neq 9 (.tmp 35) (.const (.string ⟨#[]⟩)) t35 (.string ⟨#[]⟩)) w (pk K) fun t36 w=>
 GDo t36 true (fun E=>DoX prog (mFA 44 t1 0) w (pk K) E) w fun t38 w=>
 GDo t36 true (fun E=>DoX prog (aB 9 t38) w (pk K) E) w fun t39 w=>
 GDo t36 true (fun E=>DoX prog (mEq .neq 9 (.tmp 39) (.const (.string ⟨#[66,73]⟩)) t39 (.string ⟨#[66,73]⟩)) w (pk K) E) w fun t40 w=>
 DoX prog (aL t36 t40 (.bool false)) w (pk K) fun t41 w=>
 IfX t41 (K (.returned (.int .i64 3)) w) (K (.returned (.int .i64 0)) w))
def AL (t0:Value)(w:World)(K:Ending→World→Prop):Prop:=
 DoX prog (mBox 44 t0) w (pk K) fun t1 w=>
 DoX prog (mFA 44 t1 0) w (pk K) fun t6 w=>
 DoX prog (aB 9 t6) w (pk K) fun t7 w=>
 CallX prog 14 #[t7] w (pk K) fun t8 w=>
 DoX prog (mEq .eql 9 (.tmp 9) (.const (.string ⟨#[63]⟩)) t8 (.string ⟨#[63]⟩)) w (pk K) fun t10 w=>
 GDo t10 false (fun E=>E t8 w) w fun t12 w=>
 GDo t10 false (fun E=>DoX prog (mB .len #[9] 3 #[false] #[t12]) w (pk K) E) w fun t13 w=>
 GDo t10 false (fun E=>DoX prog (mFA 44 t1 1) w (pk K) E) w fun t14 w=>
 GDo t10 false (fun E=>DoX prog (aB 40 t14) w (pk K) E) w fun t15 w=>
 GDo t10 false (fun E=>DoX prog (mB .len #[40] 3 #[false] #[t15]) w (pk K) E) w fun t16 w=>
 GDo t10 false (fun E=>DoX prog (mEq .neq 3 (.tmp 13) (.tmp 16) t13 t16) w (pk K) E) w fun t17 w=>
 DoX prog (aL t10 (.bool true) t17) w (pk K) fun t18 w=>
 IfX t18 (K (.returned (.int .i64 28)) w) (DoX prog (uR 9 t8) w (pk K) fun t20 w=>
 LoopX [] w (fun vs1 w N1=>∀_:Sg,BK t1 t20 w N1 K))
theorem Gu (t0:Value)(w:World)(K:Ending→World→Prop):wpX prog 42 [] [(5,[])] none (aK Tryz.f15) (topQ prog [.tmp 2] K) (aJ [t0]) [] w=AL t0 w K:=by kernel_rfl
theorem GJ {t0:Value}{w:World}{K:Ending→World→Prop}(h:AL t0 w K):Calls prog 15 #[t0] w K:=
 aA Tryz.func15 rfl rfl rfl rfl (Eq.mpr (Gu t0 w K) h)
end
section
open Eng
def eC (t0:Value)(w:World)(K:Ending→World→Prop):Prop:=
 DoX prog (mBox 53 t0) w (pk K) fun t1 w=>
 DoX prog (mFA 53 t1 4) w (pk K) fun t3 w=>
 DoX prog (aB 9 t3) w (pk K) fun t4 w=>
 DoX prog (mEq .eql 9 (.tmp 4) (.const (.string ⟨#[116,114,117,101]⟩)) t4 (.string ⟨#[116,114,117,101]⟩)) w (pk K) fun t5 w=>
 GDo t5 false (fun E=>DoX prog (mFA 53 t1 4) w (pk K) E) w fun t7 w=>
 GDo t5 false (fun E=>DoX prog (aB 9 t7) w (pk K) E) w fun t8 w=>
 GDo t5 false (fun E=>DoX prog (mEq .eql 9 (.tmp 8) (.const (.string ⟨#[102,97,108,115,101]⟩)) t8 (.string ⟨#[102,97,108,115,101]⟩)) w (pk K) E) w fun t9 w=>
 DoX prog (aL t5 (.bool true) t9) w (pk K) fun t10 w=>
 GDo t10 false (fun E=>DoX prog (mFA 53 t1 4) w (pk K) E) w fun t12 w=>
 GDo t10 false (fun E=>DoX prog (aB 9 t12) w (pk K) E) w fun t13 w=>
 GDo t10 false (fun E=>DoX prog (mEq .eql 9 (.tmp 13) (.const (.string ⟨#[110,117,108,108]⟩)) t13 (.string ⟨#[110,117,108,108]⟩)) w (pk K) E) w fun t14 w=>
 DoX prog (aL t10 (.bool true) t14) w (pk K) fun t15 w=>
 K (.returned t15) w
theorem qQ (t0:Value)(w:World)(K:Ending→World→Prop):wpX prog 16 [] [] none (aK Tryz.f20) (topQ prog [.tmp 2] K) (aJ [t0]) [] w=eC t0 w K:=by kernel_rfl
theorem qH {t0:Value}{w:World}{K:Ending→World→Prop}(h:eC t0 w K):Calls prog 20 #[t0] w K:=
 aA Tryz.func20 rfl rfl rfl rfl (Eq.mpr (qQ t0 w K) h)
def lP (t1 t3:Value)(w:World)(N1:List Value→World→Prop)(K:Ending→World→Prop):Prop:=
 DoX prog (mFA 42 t1 5) w (pk K) fun t8 w=>
 DoX prog (aB 40 t8) w (pk K) fun t9 w=>
 DoX prog (mB .len #[40] 3 #[false] #[t9]) w (pk K) fun t10 w=>
 DoX prog (mBin .lss 3 t3 t10) w (pk K) fun t11 w=>
 IfX t11 (DoX prog (mFA 42 t1 5) w (pk K) fun t14 w=>
 DoX prog (aB 40 t14) w (pk K) fun t15 w=>
 DoX prog (mIA 40 t15 t3) w (pk K) fun t17 w=>
 DoX prog (aB 42 t17) w (pk K) fun t18 w=>
 CallX prog 23 #[t18] w (pk K) fun t19 w=>
 IfX t19 (K (.returned (.bool true)) w) (DoX prog (mBin .add 3 t3 (.int .i64 1)) w (pk K) fun t13 w=>
 N1 [t13] w)) (K (.returned (.bool false)) w)
def iM (t0:Value)(w:World)(K:Ending→World→Prop):Prop:=
 DoX prog (mBox 42 t0) w (pk K) fun t1 w=>
 DoX prog (mFA 42 t1 0) w (pk K) fun t4 w=>
 DoX prog (aB 3 t4) w (pk K) fun t5 w=>
 DoX prog (mEq .eql 3 (.tmp 5) (.const (.int .i64 8)) t5 (.int .i64 8)) w (pk K) fun t6 w=>
 IfX t6 (K (.returned (.bool true)) w) (LoopX [(.int .i64 0)] w (fun vs1 w N1=>∀_:Sg,lP t1 (vs1.getD 0 undef) w N1 K))
theorem vO (t0:Value)(w:World)(K:Ending→World→Prop):wpX prog 20 [] [(4,[3])] none (aK Tryz.f23) (topQ prog [.tmp 2] K) (aJ [t0]) [] w=iM t0 w K:=by kernel_rfl
theorem wJ {t0:Value}{w:World}{K:Ending→World→Prop}(h:iM t0 w K):Calls prog 23 #[t0] w K:=
 aA Tryz.func23 rfl rfl rfl rfl (Eq.mpr (vO t0 w K) h)
def fN (t0 t1:Value)(w:World)(K:Ending→World→Prop):Prop:=
 DoX prog (mB .len #[9] 3 #[false] #[t0]) w (pk K) fun t7 w=>
 DoX prog (mBin .lss 3 t1 t7) w (pk K) fun t8 w=>
 GDo t8 true (fun E=>E t0 w) w fun t10 w=>
 GDo t8 true (fun E=>E t1 w) w fun t11 w=>
 GDo t8 true (fun E=>DoX prog (mIx 9 t10 t11) w (pk K) E) w fun t12 w=>
 GDo t8 true (fun E=>CallX prog 42 #[t12] w (pk K) E) w fun t13 w=>
 DoX prog (aL t8 t13 (.bool false)) w (pk K) fun t14 w=>
 GDo t14 true (fun E=>E t0 w) w fun t16 w=>
 GDo t14 true (fun E=>E t1 w) w fun t17 w=>
 GDo t14 true (fun E=>DoX prog (mBin .add 3 t17 (.int .i64 1)) w (pk K) E) w fun t18 w=>
 GDo t14 true (fun E=>CallX prog 66 #[t16,(.string ⟨#[69,73]⟩),t18] w (pk K) E) w fun t19 w=>
 DoX prog (aL t14 t19 (.bool false)) w (pk K) fun t20 w=>
 GDo t20 true (fun E=>E t1 w) w fun t22 w=>
 GDo t20 true (fun E=>DoX prog (mBin .add 3 t22 (.int .i64 3)) w (pk K) E) w fun t23 w=>
 GDo t20 true (fun E=>E t0 w) w fun t24 w=>
 GDo t20 true (fun E=>DoX prog (mB .len #[9] 3 #[false] #[t24]) w (pk K) E) w fun t25 w=>
 GDo t20 true (fun E=>DoX prog (mEq .eql 3 (.tmp 23) (.tmp 25) t23 t25) w (pk K) E) w fun t26 w=>
 GDo t20 true (fun E=>E t26 w) w fun t27 w=>
 GDo t27 false (fun E=>E t0 w) w fun t28 w=>
 GDo t27 false (fun E=>E t1 w) w fun t29 w=>
 GDo t27 false (fun E=>DoX prog (mBin .add 3 t29 (.int .i64 3)) w (pk K) E) w fun t30 w=>
 GDo t27 false (fun E=>DoX prog (mIx 9 t28 t30) w (pk K) E) w fun t31 w=>
 GDo t27 false (fun E=>CallX prog 42 #[t31] w (pk K) E) w fun t32 w=>
 GDo t20 true (fun E=>DoX prog (aL t27 (.bool true) t32) w (pk K) E) w fun t33 w=>
 DoX prog (aL t20 t33 (.bool false)) w (pk K) fun t34 w=>
 K (.returned t34) w
theorem tW (t0 t1:Value)(w:World)(K:Ending→World→Prop):wpX prog 35 [] [] none (aK Tryz.f46) (topQ prog [.tmp 4] K) (aJ [t0,t1]) [] w=fN t0 t1 w K:=by kernel_rfl
theorem tC {t0 t1:Value}{w:World}{K:Ending→World→Prop}(h:fN t0 t1 w K):Calls prog 46 #[t0,t1] w K:=
 aA Tryz.func46 rfl rfl rfl rfl (Eq.mpr (tW t0 t1 w K) h)
def fR (t0 t1:Value)(w:World)(K:Ending→World→Prop):Prop:=
 DoX prog (aN 26) w (pk K) fun t4 w=>
 DoX prog (aG 26 #[(0,t0),(1,t1)]) w (pk K) fun t7 w=>
 DoX prog (aD 26 t4 t7) w (pk K) fun _ w=>
 RetX prog [.cell t4 26] w K
theorem tF (t0 t1:Value)(w:World)(K:Ending→World→Prop):wpX prog 8 [] [] none (aK Tryz.f19) (topQ prog [.cell 4 26] K) (aJ [t0,t1]) [] w=fR t0 t1 w K:=by kernel_rfl
theorem sQ {t0 t1:Value}{w:World}{K:Ending→World→Prop}(h:fR t0 t1 w K):Calls prog 19 #[t0,t1] w K:=
 aA Tryz.func19 rfl rfl rfl rfl (Eq.mpr (tF t0 t1 w K) h)
def nO (t1 t3 t5 t6 t7:Value)(w:World)(N1:List Value→World→Prop)(K:Ending→World→Prop):Prop:=
 DoX prog (mBin .gtr 3 t7 (.int .i64 0)) w (pk K) fun t24 w=>
 GDo t24 true (fun E=>DoX prog (mFA 42 t3 4) w (pk K) E) w fun t26 w=>
 GDo t24 true (fun E=>DoX prog (aB 39 t26) w (pk K) E) w fun t27 w=>
 GDo t24 true (fun E=>E t7 w) w fun t28 w=>
 GDo t24 true (fun E=>DoX prog (mBin .sub 3 t28 (.int .i64 1)) w (pk K) E) w fun t29 w=>
 GDo t24 true (fun E=>DoX prog (mIA 39 t27 t29) w (pk K) E) w fun t30 w=>
 GDo t24 true (fun E=>DoX prog (aB 9 t30) w (pk K) E) w fun t31 w=>
 GDo t24 true (fun E=>E t1 w) w fun t32 w=>
 GDo t24 true (fun E=>DoX prog (mBin .gtr 9 t31 t32) w (pk K) E) w fun t33 w=>
 DoX prog (aL t24 t33 (.bool false)) w (pk K) fun t34 w=>
 IfX t34 (QuietX w (fun C2=>
 QDo prog C2 (mFA 42 t3 4) fun t35=>
 QDo prog C2 (aB 39 t35) fun t36=>
 QDo prog C2 (mFA 42 t3 4) fun t38=>
 QDo prog C2 (aB 39 t38) fun t39=>
 QDo prog C2 (mBin .sub 3 t7 (.int .i64 1)) fun t41=>
 QDo prog C2 (mIA 39 t39 t41) fun t42=>
 QDo prog C2 (aB 9 t42) fun t43=>
 QDo prog C2 (mIA 39 t36 t7) fun t44=>
 ∀w,C2 w →
 DoX prog (aD 9 t44 t43) w (pk K) fun _ w=>
 QuietX w (fun C3=>
 QDo prog C3 (mFA 42 t3 5) fun t45=>
 QDo prog C3 (aB 40 t45) fun t46=>
 QDo prog C3 (mFA 42 t3 5) fun t48=>
 QDo prog C3 (aB 40 t48) fun t49=>
 QDo prog C3 (mBin .sub 3 t7 (.int .i64 1)) fun t51=>
 QDo prog C3 (mIA 40 t49 t51) fun t52=>
 QDo prog C3 (aB 42 t52) fun t53=>
 QDo prog C3 (mIA 40 t46 t7) fun t54=>
 ∀w,C3 w →
 DoX prog (aD 42 t54 t53) w (pk K) fun _ w=>
 DoX prog (mBin .sub 3 t7 (.int .i64 1)) w (pk K) fun t56 w=>
 N1 [t56] w))) (DoX prog (mFA 42 t3 4) w (pk K) fun t57 w=>
 DoX prog (aB 39 t57) w (pk K) fun t58 w=>
 DoX prog (mIA 39 t58 t7) w (pk K) fun t61 w=>
 DoX prog (aD 9 t61 t1) w (pk K) fun _ w=>
 DoX prog (mFA 42 t3 5) w (pk K) fun t62 w=>
 DoX prog (aB 40 t62) w (pk K) fun t63 w=>
 DoX prog (aB 42 t5) w (pk K) fun t65 w=>
 DoX prog (mIA 40 t63 t7) w (pk K) fun t66 w=>
 DoX prog (aD 42 t66 t65) w (pk K) fun _ w=>
 DoX prog (aB 42 t3) w (pk K) fun t67 w=>
 DoX prog (aD 42 t6 t67) w (pk K) fun _ w=>
 RetX prog [.cell t6 42] w K)
def jU (t0 t1 t2:Value)(w:World)(K:Ending→World→Prop):Prop:=
 DoX prog (mBox 42 t0) w (pk K) fun t3 w=>
 DoX prog (mBox 42 t2) w (pk K) fun t5 w=>
 DoX prog (aN 42) w (pk K) fun t6 w=>
 DoX prog (mFA 42 t3 4) w (pk K) fun t8 w=>
 DoX prog (aB 39 t8) w (pk K) fun t9 w=>
 DoX prog (mB .len #[39] 3 #[false] #[t9]) w (pk K) fun t10 w=>
 DoX prog (mFA 42 t3 4) w (pk K) fun t11 w=>
 DoX prog (aB 39 t11) w (pk K) fun t12 w=>
 DoX prog (aP 39 1 #[(0,t1)]) w (pk K) fun t14 w=>
 DoX prog (mB .append #[39,39] 39 #[false,false] #[t12,t14]) w (pk K) fun t15 w=>
 DoX prog (mFA 42 t3 4) w (pk K) fun t16 w=>
 DoX prog (aD 39 t16 t15) w (pk K) fun _ w=>
 DoX prog (mFA 42 t3 5) w (pk K) fun t17 w=>
 DoX prog (aB 40 t17) w (pk K) fun t18 w=>
 DoX prog (aB 42 t5) w (pk K) fun t19 w=>
 DoX prog (aP 40 1 #[(0,t19)]) w (pk K) fun t20 w=>
 DoX prog (mB .append #[40,40] 40 #[false,false] #[t18,t20]) w (pk K) fun t21 w=>
 DoX prog (mFA 42 t3 5) w (pk K) fun t22 w=>
 DoX prog (aD 40 t22 t21) w (pk K) fun _ w=>
 LoopX [t10] w (fun vs1 w N1=>∀_:Sg,nO t1 t3 t5 t6 (vs1.getD 0 undef) w N1 K)
theorem xY (t0 t1 t2:Value)(w:World)(K:Ending→World→Prop):wpX prog 68 [] [(4,[7])] none (aK Tryz.f45) (topQ prog [.cell 6 42] K) (aJ [t0,t1,t2]) [] w=jU t0 t1 t2 w K:=by kernel_rfl
theorem yS {t0 t1 t2:Value}{w:World}{K:Ending→World→Prop}(h:jU t0 t1 t2 w K):Calls prog 45 #[t0,t1,t2] w K:=
 aA Tryz.func45 rfl rfl rfl rfl (Eq.mpr (xY t0 t1 t2 w K) h)
def kK (t5 t8 t14:Value)(w:World)(N1:List Value→World→Prop):Prop:=
 N1 [t14,t5,t8] w
def kM (t4 t5 t6 t7 t8 t9 t10 t11 t13 t14:Value)(w:World)(N1:List Value→World→Prop)(K:Ending→World→Prop):Prop:=
 DoX prog (mEq .neq 24 (.tmp 107) (.const (.int .i64 0)) t11 (.int .i64 0)) w (pk K) fun t108 w=>
 IfX t108 (DoX prog (aG 44 #[]) w (pk K) fun t109 w=>
 CallX prog 19 #[t9,t11] w (pk K) fun t112 w=>
 DoX prog (aD 44 t4 t109) w (pk K) fun _ w=>
 DoX prog (aD 26 t6 t112) w (pk K) fun _ w=>
 RetX prog [.cell t4 44,.val (.int .i64 0),.cell t6 26] w K) (JoinX (fun J8=>
 DoX prog (mFA 42 t13 0) w (pk K) fun t113 w=>
 DoX prog (aB 3 t113) w (pk K) fun t114 w=>
 DoX prog (mEq .neq 3 (.tmp 114) (.const (.int .i64 0)) t114 (.int .i64 0)) w (pk K) fun t115 w=>
 IfX t115 (DoX prog (aB 42 t7) w (pk K) fun t116 w=>
 DoX prog (mFA 53 t10 4) w (pk K) fun t117 w=>
 DoX prog (aB 9 t117) w (pk K) fun t118 w=>
 DoX prog (aB 42 t13) w (pk K) fun t119 w=>
 CallX prog 45 #[t116,t118,t119] w (pk K) fun t120 w=>
 DoX prog (aD 42 t7 t120) w (pk K) fun _ w=>
 J8 [] w) (J8 [] w)) (fun vs8 w=>∀_:Sg,kK t5 t8 t14 w N1))
def eI (t4 t5 t6 t7 t8 t9 t10 t11 t13 t14:Value)(w:World)(N1:List Value→World→Prop)(K:Ending→World→Prop):Prop:=
 JoinX (fun J7=>
 DoX prog (mEq .eql 24 (.tmp 100) (.const (.int .i64 0)) t11 (.int .i64 0)) w (pk K) fun t101 w=>
 GDo t101 true (fun E=>DoX prog (aB 42 t13) w (pk K) E) w fun t103 w=>
 GDo t101 true (fun E=>CallX prog 44 #[t103] w (pk K) E) w fun t104 w=>
 GDo t101 true (fun E=>DoX prog (mEq .eql 3 (.tmp 104) (.const (.int .i64 24)) t104 (.int .i64 24)) w (pk K) E) w fun t105 w=>
 DoX prog (aL t101 t105 (.bool false)) w (pk K) fun t106 w=>
 IfX t106 (J7 [(.int .i64 7)] w) (J7 [t11] w)) (fun vs7 w=>∀_:Sg,kM t4 t5 t6 t7 t8 t9 t10 (vs7.getD 0 undef) t13 t14 w N1 K)
def kL (t0 t4 t5 t6 t7 t8 t9 t10 t12:Value)(w:World)(N1 N4:List Value→World→Prop)(K:Ending→World→Prop):Prop:=
 DoX prog (mB .len #[39] 3 #[false] #[t8]) w (pk K) fun t57 w=>
 DoX prog (mBin .lss 3 t12 t57) w (pk K) fun t58 w=>
 IfX t58 (QuietX w (fun C5=>
 QDo prog C5 (mIA 39 t8 t12) fun t63=>
 QDo prog C5 (aB 9 t63) fun t64=>
 QDo prog C5 (mFA 53 t10 4) fun t65=>
 QDo prog C5 (aB 9 t65) fun t66=>
 QDo prog C5 (mEq .eql 9 (.tmp 64) (.tmp 66) t64 t66) fun t67=>
 ∀w,C5 w →
 IfX t67 (DoX prog (aG 44 #[]) w (pk K) fun t68 w=>
 CallX prog 19 #[t9,(.int .i64 9)] w (pk K) fun t70 w=>
 DoX prog (aD 44 t4 t68) w (pk K) fun _ w=>
 DoX prog (aD 26 t6 t70) w (pk K) fun _ w=>
 RetX prog [.cell t4 44,.val (.int .i64 0),.cell t6 26] w K) (DoX prog (mBin .add 3 t12 (.int .i64 1)) w (pk K) fun t60 w=>
 N4 [t5,t60] w))) (DoX prog (mB .len #[39] 3 #[false] #[t8]) w (pk K) fun t72 w=>
 DoX prog (mEq .eql 3 (.tmp 72) (.const (.int .i64 8191)) t72 (.int .i64 8191)) w (pk K) fun t73 w=>
 IfX t73 (DoX prog (aG 44 #[]) w (pk K) fun t74 w=>
 CallX prog 19 #[t9,(.int .i64 6)] w (pk K) fun t76 w=>
 DoX prog (aD 44 t4 t74) w (pk K) fun _ w=>
 DoX prog (aD 26 t6 t76) w (pk K) fun _ w=>
 RetX prog [.cell t4 44,.val (.int .i64 0),.cell t6 26] w K) (DoX prog (mFA 53 t10 4) w (pk K) fun t78 w=>
 DoX prog (aB 9 t78) w (pk K) fun t79 w=>
 DoX prog (aP 39 1 #[(0,t79)]) w (pk K) fun t80 w=>
 DoX prog (mB .append #[39,39] 39 #[false,false] #[t8,t80]) w (pk K) fun t81 w=>
 DoX prog (mFA 53 t10 2) w (pk K) fun t83 w=>
 DoX prog (aB 3 t83) w (pk K) fun t84 w=>
 CallX prog 17 #[t0,t84] w (pk K) fun t85 w=>
 DoX prog (mFA 53 t10 2) w (pk K) fun t88 w=>
 DoX prog (aB 3 t88) w (pk K) fun t89 w=>
 CallX prog 22 #[t0,t89] w (pk K) fun t90 w=>
 DoX prog (mExt t90 0) w (pk K) fun t91 w=>
 DoX prog (mExt t90 1) w (pk K) fun t92 w=>
 DoX prog (mExt t90 2) w (pk K) fun t93 w=>
 DoX prog (aN 42) w (pk K) fun t13 w=>
 DoX prog (aD 42 t13 t91) w (pk K) fun _ w=>
 JoinX (fun J6=>
 DoX prog (mEq .eql 24 (.tmp 94) (.const (.int .i64 0)) t93 (.int .i64 0)) w (pk K) fun t95 w=>
 GDo t95 true (fun E=>DoX prog (aB 42 t13) w (pk K) E) w fun t97 w=>
 GDo t95 true (fun E=>CallX prog 23 #[t97] w (pk K) E) w fun t98 w=>
 DoX prog (aL t95 t98 (.bool false)) w (pk K) fun t99 w=>
 IfX t99 (J6 [(.int .i64 3)] w) (J6 [t93] w)) (fun vs6 w=>∀_:Sg,eI t4 t5 t6 t7 t81 t85 t10 (vs6.getD 0 undef) t13 t92 w N1 K)))
def kJ (t0 t1 t4 t5 t6 t7 t15:Value)(w:World)(N2:List Value→World→Prop)(K:Ending→World→Prop):Prop:=
 DoX prog (mB .len #[9] 3 #[false] #[t0]) w (pk K) fun t140 w=>
 DoX prog (mBin .lss 3 t15 t140) w (pk K) fun t141 w=>
 IfX t141 (CallX prog 46 #[t0,t15] w (pk K) fun t146 w=>
 IfX t146 (HeldX w (fun S3 w=>
 HDo prog S3 (aB 42 t7) fun t147=>
 HDo prog (fun _=>True) (mBin .add 3 t1 (.int .i64 1)) fun t151=>
 HDo prog (fun _=>True) (bT 9 t0 (some t151) (some t15) none) fun t153=>
 HDo prog (fun _=>True) (mBin .add 3 t15 (.int .i64 3)) fun t156=>
 HDo prog (fun _=>True) (aG 26 #[]) fun t157=>
 DoX prog (aP 40 1 #[(0,t147)]) w (pm1 (pm1 (pm1 (pm1 (pm1 (pm1 (pm1 (pm1 (pm1 (pm1 (pm1 (pk K)))))))))))) fun t148 w=>
 (HDo prog (fun _=>True) (aG 44 #[(0,(.string ⟨#[66,73]⟩)),(1,t148),(2,t153)]) fun t154=>
 DoX prog (aD 44 t4 t154) w (pm1 (pm1 (pm1 (pm1 (pm1 (pm1 (pm1 (pm1 (pm1 (pm1 (pm1 (pk K)))))))))))) fun _ w=>
 (DoX prog (aD 26 t6 t157) w (pm1 (pm1 (pm1 (pm1 (pm1 (pm1 (pm1 (pm1 (pm1 (pm1 (pm1 (pk K)))))))))))) fun _ w=>
 (RetX prog [.cell t4 44,.val t156,.cell t6 26] w K))))) (DoX prog (mBin .add 3 t15 (.int .i64 1)) w (pk K) fun t143 w=>
 N2 [t5,t143] w)) (DoX prog (aG 44 #[]) w (pk K) fun t158 w=>
 DoX prog (mB .len #[9] 3 #[false] #[t0]) w (pk K) fun t160 w=>
 CallX prog 19 #[t160,(.int .i64 4)] w (pk K) fun t161 w=>
 DoX prog (aD 44 t4 t158) w (pk K) fun _ w=>
 DoX prog (aD 26 t6 t161) w (pk K) fun _ w=>
 RetX prog [.cell t4 44,.val (.int .i64 0),.cell t6 26] w K)
def kQ (t0 t1 t4 t5 t6 t7 t8:Value)(w:World)(N1:List Value→World→Prop)(K:Ending→World→Prop):Prop:=
 CallX prog 17 #[t0,t1] w (pk K) fun t19 w=>
 CallX prog 18 #[t0,t1] w (pk K) fun t23 w=>
 DoX prog (mExt t23 0) w (pk K) fun t24 w=>
 DoX prog (mExt t23 1) w (pk K) fun t25 w=>
 DoX prog (aN 53) w (pk K) fun t10 w=>
 DoX prog (aD 53 t10 t24) w (pk K) fun _ w=>
 DoX prog (mEq .neq 24 (.tmp 26) (.const (.int .i64 0)) t25 (.int .i64 0)) w (pk K) fun t27 w=>
 IfX t27 (DoX prog (aG 44 #[]) w (pk K) fun t28 w=>
 CallX prog 19 #[t19,t25] w (pk K) fun t31 w=>
 DoX prog (aD 44 t4 t28) w (pk K) fun _ w=>
 DoX prog (aD 26 t6 t31) w (pk K) fun _ w=>
 RetX prog [.cell t4 44,.val (.int .i64 0),.cell t6 26] w K) (DoX prog (mFA 53 t10 0) w (pk K) fun t32 w=>
 DoX prog (aB 3 t32) w (pk K) fun t33 w=>
 DoX prog (mEq .eql 3 (.tmp 33) (.const (.int .i64 0)) t33 (.int .i64 0)) w (pk K) fun t34 w=>
 IfX t34 (DoX prog (aG 44 #[]) w (pk K) fun t35 w=>
 DoX prog (mB .len #[9] 3 #[false] #[t0]) w (pk K) fun t37 w=>
 CallX prog 19 #[t37,(.int .i64 4)] w (pk K) fun t38 w=>
 DoX prog (aD 44 t4 t35) w (pk K) fun _ w=>
 DoX prog (aD 26 t6 t38) w (pk K) fun _ w=>
 RetX prog [.cell t4 44,.val (.int .i64 0),.cell t6 26] w K) (DoX prog (mFA 53 t10 0) w (pk K) fun t39 w=>
 DoX prog (aB 3 t39) w (pk K) fun t40 w=>
 DoX prog (mEq .eql 3 (.tmp 40) (.const (.int .i64 5)) t40 (.int .i64 5)) w (pk K) fun t41 w=>
 GDo t41 true (fun E=>DoX prog (mFA 53 t10 4) w (pk K) E) w fun t43 w=>
 GDo t41 true (fun E=>DoX prog (aB 9 t43) w (pk K) E) w fun t44 w=>
 GDo t41 true (fun E=>DoX prog (mEq .eql 9 (.tmp 44) (.const (.string ⟨#[73,68]⟩)) t44 (.string ⟨#[73,68]⟩)) w (pk K) E) w fun t45 w=>
 DoX prog (aL t41 t45 (.bool false)) w (pk K) fun t46 w=>
 IfX t46 (DoX prog (mFA 53 t10 2) w (pk K) fun t47 w=>
 DoX prog (aB 3 t47) w (pk K) fun t48 w=>
 DoX prog (mB .len #[9] 3 #[false] #[t0]) w (pk K) fun t124 w=>
 DoX prog (mBin .geq 3 t48 t124) w (pk K) fun t125 w=>
 GDo t125 false (fun E=>E t0 w) w fun t127 w=>
 GDo t125 false (fun E=>E t48 w) w fun t128 w=>
 GDo t125 false (fun E=>DoX prog (mIx 9 t127 t128) w (pk K) E) w fun t129 w=>
 GDo t125 false (fun E=>CallX prog 42 #[t129] w (pk K) E) w fun t130 w=>
 GDo t125 false (fun E=>DoX prog (mUn .not t130) w (pk K) E) w fun t131 w=>
 DoX prog (aL t125 (.bool true) t131) w (pk K) fun t132 w=>
 IfX t132 (DoX prog (aG 44 #[]) w (pk K) fun t133 w=>
 CallX prog 19 #[t48,(.int .i64 3)] w (pk K) fun t135 w=>
 DoX prog (aD 44 t4 t133) w (pk K) fun _ w=>
 DoX prog (aD 26 t6 t135) w (pk K) fun _ w=>
 RetX prog [.cell t4 44,.val (.int .i64 0),.cell t6 26] w K) (DoX prog (mBin .add 3 t48 (.int .i64 1)) w (pk K) fun t137 w=>
 LoopX [t5,t137] w (fun vs2 w N2=>∀_:Sg,kJ t0 t48 t4 (vs2.getD 0 undef) t6 t7 (vs2.getD 1 undef) w N2 K))) (DoX prog (mFA 53 t10 0) w (pk K) fun t49 w=>
 DoX prog (aB 3 t49) w (pk K) fun t50 w=>
 DoX prog (mEq .neq 3 (.tmp 50) (.const (.int .i64 4)) t50 (.int .i64 4)) w (pk K) fun t51 w=>
 IfX t51 (DoX prog (aG 44 #[]) w (pk K) fun t52 w=>
 CallX prog 19 #[t19,(.int .i64 3)] w (pk K) fun t54 w=>
 DoX prog (aD 44 t4 t52) w (pk K) fun _ w=>
 DoX prog (aD 26 t6 t54) w (pk K) fun _ w=>
 RetX prog [.cell t4 44,.val (.int .i64 0),.cell t6 26] w K) (LoopX [t5,(.int .i64 0)] w (fun vs4 w N4=>∀_:Sg,kL t0 t4 (vs4.getD 0 undef) t6 t7 t8 t19 t10 (vs4.getD 1 undef) w N1 N4 K)))))
def fW (t0 t1:Value)(w:World)(K:Ending→World→Prop):Prop:=
 DoX prog (aN 44) w (pk K) fun t4 w=>
 DoX prog (aN 26) w (pk K) fun t6 w=>
 DoX prog (aG 42 #[(0,(.int .i64 7))]) w (pk K) fun t16 w=>
 DoX prog (aN 42) w (pk K) fun t7 w=>
 DoX prog (aD 42 t7 t16) w (pk K) fun _ w=>
 LoopX [t1,(.int .i64 0),(.slice none 0 0)] w (fun vs1 w N1=>∀_:Sg,kQ t0 (vs1.getD 0 undef) t4 (vs1.getD 1 undef) t6 t7 (vs1.getD 2 undef) w N1 K)
theorem tJ (t0 t1:Value)(w:World)(K:Ending→World→Prop):wpX prog 162 [(25,[11]),(27,[11]),(31,[])] [(3,[1,5,8]),(14,[5,12]),(35,[5,15])] none (aK Tryz.f21) (topQ prog [.cell 4 44,.tmp 5,.cell 6 26] K) (aJ [t0,t1]) [] w=fW t0 t1 w K:=by kernel_rfl
theorem tP {t0 t1:Value}{w:World}{K:Ending→World→Prop}(h:fW t0 t1 w K):Calls prog 21 #[t0,t1] w K:=
 aA Tryz.func21 rfl rfl rfl rfl (Eq.mpr (tJ t0 t1 w K) h)
def mP (t2 t3 t4 t5 t7 t9 t14 t15:Value)(w:World)(N1:List Value→World→Prop)(K:Ending→World→Prop):Prop:=
 DoX prog (mEq .neq 24 (.tmp 125) (.const (.int .i64 0)) t9 (.int .i64 0)) w (pk K) fun t126 w=>
 IfX t126 (CallX prog 19 #[t7,t9] w (pk K) fun t129 w=>
 DoX prog (aD 26 t3 t129) w (pk K) fun _ w=>
 RetX prog [.val (.slice none 0 0),.cell t3 26] w K) (DoX prog (aB 42 t14) w (pk K) fun t131 w=>
 DoX prog (aP 40 1 #[(0,t131)]) w (pk K) fun t132 w=>
 DoX prog (mB .append #[40,40] 40 #[false,false] #[t5,t132]) w (pk K) fun t133 w=>
 N1 [t2,t4,t133,t15] w)
def eP (t2 t3 t4 t5 t7 t9 t14 t15:Value)(w:World)(N1:List Value→World→Prop)(K:Ending→World→Prop):Prop:=
 JoinX (fun J5=>
 DoX prog (mEq .eql 24 (.tmp 118) (.const (.int .i64 0)) t9 (.int .i64 0)) w (pk K) fun t119 w=>
 GDo t119 true (fun E=>E t5 w) w fun t121 w=>
 GDo t119 true (fun E=>DoX prog (mB .len #[40] 3 #[false] #[t121]) w (pk K) E) w fun t122 w=>
 GDo t119 true (fun E=>DoX prog (mEq .eql 3 (.tmp 122) (.const (.int .i64 32)) t122 (.int .i64 32)) w (pk K) E) w fun t123 w=>
 DoX prog (aL t119 t123 (.bool false)) w (pk K) fun t124 w=>
 IfX t124 (J5 [(.int .i64 6)] w) (J5 [t9] w)) (fun vs5 w=>∀_:Sg,mP t2 t3 t4 t5 t7 (vs5.getD 0 undef) t14 t15 w N1 K)
def eW (t2 t4 t6 t10:Value)(w:World)(N1:List Value→World→Prop)(K:Ending→World→Prop):Prop:=
 DoX prog (aB 44 t10) w (pk K) fun t102 w=>
 DoX prog (aP 23 1 #[(0,t102)]) w (pk K) fun t103 w=>
 DoX prog (mB .append #[23,23] 23 #[false,false] #[t4,t103]) w (pk K) fun t104 w=>
 N1 [t2,t104,(.slice none 0 0),t6] w
def mN (t0 t2 t3 t4 t5 t6:Value)(w:World)(N1:List Value→World→Prop)(K:Ending→World→Prop):Prop:=
 CallX prog 17 #[t0,t6] w (pk K) fun t18 w=>
 CallX prog 18 #[t0,t6] w (pk K) fun t22 w=>
 DoX prog (mExt t22 0) w (pk K) fun t23 w=>
 DoX prog (mExt t22 1) w (pk K) fun t24 w=>
 DoX prog (aN 53) w (pk K) fun t8 w=>
 DoX prog (aD 53 t8 t23) w (pk K) fun _ w=>
 DoX prog (mEq .neq 24 (.tmp 25) (.const (.int .i64 0)) t24 (.int .i64 0)) w (pk K) fun t26 w=>
 IfX t26 (CallX prog 19 #[t18,t24] w (pk K) fun t29 w=>
 DoX prog (aD 26 t3 t29) w (pk K) fun _ w=>
 RetX prog [.val (.slice none 0 0),.cell t3 26] w K) (DoX prog (mFA 53 t8 0) w (pk K) fun t30 w=>
 DoX prog (aB 3 t30) w (pk K) fun t31 w=>
 DoX prog (mEq .eql 3 (.tmp 31) (.const (.int .i64 0)) t31 (.int .i64 0)) w (pk K) fun t32 w=>
 IfX t32 (DoX prog (mB .len #[40] 3 #[false] #[t5]) w (pk K) fun t34 w=>
 DoX prog (mBin .gtr 3 t34 (.int .i64 0)) w (pk K) fun t35 w=>
 IfX t35 (DoX prog (mB .len #[9] 3 #[false] #[t0]) w (pk K) fun t37 w=>
 CallX prog 19 #[t37,(.int .i64 4)] w (pk K) fun t38 w=>
 DoX prog (aD 26 t3 t38) w (pk K) fun _ w=>
 RetX prog [.val (.slice none 0 0),.cell t3 26] w K) (DoX prog (aG 26 #[]) w (pk K) fun t40 w=>
 DoX prog (aD 26 t3 t40) w (pk K) fun _ w=>
 RetX prog [.val t4,.cell t3 26] w K)) (DoX prog (mFA 53 t8 0) w (pk K) fun t41 w=>
 DoX prog (aB 3 t41) w (pk K) fun t42 w=>
 DoX prog (mEq .eql 3 (.tmp 42) (.const (.int .i64 5)) t42 (.int .i64 5)) w (pk K) fun t43 w=>
 GDo t43 true (fun E=>DoX prog (aB 53 t8) w (pk K) E) w fun t45 w=>
 GDo t43 true (fun E=>CallX prog 20 #[t45] w (pk K) E) w fun t46 w=>
 GDo t43 true (fun E=>DoX prog (mUn .not t46) w (pk K) E) w fun t47 w=>
 DoX prog (aL t43 t47 (.bool false)) w (pk K) fun t48 w=>
 IfX t48 (DoX prog (mB .len #[23] 3 #[false] #[t4]) w (pk K) fun t50 w=>
 DoX prog (mEq .eql 3 (.tmp 50) (.const (.int .i64 8191)) t50 (.int .i64 8191)) w (pk K) fun t51 w=>
 IfX t51 (CallX prog 19 #[t18,(.int .i64 6)] w (pk K) fun t53 w=>
 DoX prog (aD 26 t3 t53) w (pk K) fun _ w=>
 RetX prog [.val (.slice none 0 0),.cell t3 26] w K) (DoX prog (mFA 53 t8 4) w (pk K) fun t54 w=>
 DoX prog (aB 9 t54) w (pk K) fun t55 w=>
 DoX prog (mEq .eql 9 (.tmp 55) (.const (.string ⟨#[82]⟩)) t55 (.string ⟨#[82]⟩)) w (pk K) fun t56 w=>
 GDo t56 false (fun E=>DoX prog (mFA 53 t8 4) w (pk K) E) w fun t58 w=>
 GDo t56 false (fun E=>DoX prog (aB 9 t58) w (pk K) E) w fun t59 w=>
 GDo t56 false (fun E=>DoX prog (mEq .eql 9 (.tmp 59) (.const (.string ⟨#[73,68]⟩)) t59 (.string ⟨#[73,68]⟩)) w (pk K) E) w fun t60 w=>
 DoX prog (aL t56 (.bool true) t60) w (pk K) fun t61 w=>
 GDo t61 false (fun E=>DoX prog (mFA 53 t8 4) w (pk K) E) w fun t63 w=>
 GDo t61 false (fun E=>DoX prog (aB 9 t63) w (pk K) E) w fun t64 w=>
 GDo t61 false (fun E=>DoX prog (mEq .eql 9 (.tmp 64) (.const (.string ⟨#[69,73]⟩)) t64 (.string ⟨#[69,73]⟩)) w (pk K) E) w fun t65 w=>
 DoX prog (aL t61 (.bool true) t65) w (pk K) fun t66 w=>
 GDo t66 false (fun E=>DoX prog (mFA 53 t8 4) w (pk K) E) w fun t68 w=>
 GDo t66 false (fun E=>DoX prog (aB 9 t68) w (pk K) E) w fun t69 w=>
 GDo t66 false (fun E=>DoX prog (mEq .eql 9 (.tmp 69) (.const (.string ⟨#[66,73]⟩)) t69 (.string ⟨#[66,73]⟩)) w (pk K) E) w fun t70 w=>
 GDo t66 false (fun E=>E t70 w) w fun t71 w=>
 GDo t71 true (fun E=>E t5 w) w fun t72 w=>
 GDo t71 true (fun E=>DoX prog (mB .len #[40] 3 #[false] #[t72]) w (pk K) E) w fun t73 w=>
 GDo t71 true (fun E=>DoX prog (mBin .gtr 3 t73 (.int .i64 0)) w (pk K) E) w fun t74 w=>
 GDo t66 false (fun E=>DoX prog (aL t71 t74 (.bool false)) w (pk K) E) w fun t75 w=>
 DoX prog (aL t66 (.bool true) t75) w (pk K) fun t76 w=>
 IfX t76 (CallX prog 19 #[t18,(.int .i64 3)] w (pk K) fun t78 w=>
 DoX prog (aD 26 t3 t78) w (pk K) fun _ w=>
 RetX prog [.val (.slice none 0 0),.cell t3 26] w K) (DoX prog (mFA 53 t8 2) w (pk K) fun t79 w=>
 DoX prog (aB 3 t79) w (pk K) fun t80 w=>
 DoX prog (mFA 53 t8 4) w (pk K) fun t81 w=>
 DoX prog (aB 9 t81) w (pk K) fun t82 w=>
 DoX prog (aG 44 #[(0,t82),(1,t5)]) w (pk K) fun t84 w=>
 DoX prog (aN 44) w (pk K) fun t10 w=>
 DoX prog (aD 44 t10 t84) w (pk K) fun _ w=>
 JoinX (fun J2=>
 DoX prog (mFA 53 t8 4) w (pk K) fun t85 w=>
 DoX prog (aB 9 t85) w (pk K) fun t86 w=>
 DoX prog (mEq .eql 9 (.tmp 86) (.const (.string ⟨#[66,73]⟩)) t86 (.string ⟨#[66,73]⟩)) w (pk K) fun t87 w=>
 IfX t87 (CallX prog 21 #[t0,t80] w (pk K) fun t91 w=>
 DoX prog (mExt t91 0) w (pk K) fun t92 w=>
 DoX prog (mExt t91 1) w (pk K) fun t93 w=>
 DoX prog (mExt t91 2) w (pk K) fun t94 w=>
 DoX prog (aN 44) w (pk K) fun t11 w=>
 DoX prog (aN 26) w (pk K) fun t13 w=>
 DoX prog (aD 44 t11 t92) w (pk K) fun _ w=>
 DoX prog (aD 26 t13 t94) w (pk K) fun _ w=>
 DoX prog (mFA 26 t13 1) w (pk K) fun t95 w=>
 DoX prog (aB 24 t95) w (pk K) fun t96 w=>
 DoX prog (mEq .neq 24 (.tmp 96) (.const (.int .i64 0)) t96 (.int .i64 0)) w (pk K) fun t97 w=>
 IfX t97 (QuietX w (fun C3=>
 QDo prog C3 (aB 26 t13) fun t98=>
 ∀w,C3 w →
 DoX prog (aD 26 t3 t98) w (pk K) fun _ w=>
 RetX prog [.val (.slice none 0 0),.cell t3 26] w K)) (DoX prog (aB 44 t11) w (pk K) fun t99 w=>
 DoX prog (aD 44 t10 t99) w (pk K) fun _ w=>
 J2 [t2,t93] w)) (J2 [t2,t80] w)) (fun vs2 w=>∀_:Sg,eW (vs2.getD 0 undef) t4 (vs2.getD 1 undef) t10 w N1 K)))) (CallX prog 22 #[t0,t6] w (pk K) fun t108 w=>
 DoX prog (mExt t108 0) w (pk K) fun t109 w=>
 DoX prog (mExt t108 1) w (pk K) fun t110 w=>
 DoX prog (mExt t108 2) w (pk K) fun t111 w=>
 DoX prog (aN 42) w (pk K) fun t14 w=>
 DoX prog (aD 42 t14 t109) w (pk K) fun _ w=>
 JoinX (fun J4=>
 DoX prog (mEq .eql 24 (.tmp 112) (.const (.int .i64 0)) t111 (.int .i64 0)) w (pk K) fun t113 w=>
 GDo t113 true (fun E=>DoX prog (aB 42 t14) w (pk K) E) w fun t115 w=>
 GDo t113 true (fun E=>CallX prog 23 #[t115] w (pk K) E) w fun t116 w=>
 DoX prog (aL t113 t116 (.bool false)) w (pk K) fun t117 w=>
 IfX t117 (J4 [(.int .i64 3)] w) (J4 [t111] w)) (fun vs4 w=>∀_:Sg,eP t2 t3 t4 t5 t18 (vs4.getD 0 undef) t14 t110 w N1 K))))
def iP (t0:Value)(w:World)(K:Ending→World→Prop):Prop:=
 DoX prog (aN 26) w (pk K) fun t3 w=>
 LoopX [(.slice none 0 0),(.slice none 0 0),(.slice none 0 0),(.int .i64 0)] w (fun vs1 w N1=>∀_:Sg,mN t0 (vs1.getD 0 undef) t3 (vs1.getD 1 undef) (vs1.getD 2 undef) (vs1.getD 3 undef) w N1 K)
theorem wS (t0:Value)(w:World)(K:Ending→World→Prop):wpX prog 135 [(25,[2,6]),(30,[9]),(32,[9])] [(4,[2,4,5,6])] none (aK Tryz.f9) (topQ prog [.tmp 2,.cell 3 26] K) (aJ [t0]) [] w=iP t0 w K:=by kernel_rfl
theorem wD {t0:Value}{w:World}{K:Ending→World→Prop}(h:iP t0 w K):Calls prog 9 #[t0] w K:=
 aA Tryz.func9 rfl rfl rfl rfl (Eq.mpr (wS t0 w K) h)
def lK (t0 t1 t5:Value)(w:World)(N1:List Value→World→Prop)(K:Ending→World→Prop):Prop:=
 DoX prog (mB .len #[23] 3 #[false] #[t0]) w (pk K) fun t13 w=>
 DoX prog (mBin .lss 3 t5 t13) w (pk K) fun t14 w=>
 IfX t14 (QuietX w (fun C2=>
 QDo prog C2 (mIA 23 t0 t5) fun t19=>
 QDo prog C2 (mFA 44 t19 0) fun t20=>
 QDo prog C2 (aB 9 t20) fun t21=>
 QDo prog C2 (mIA 23 t1 t5) fun t24=>
 QDo prog C2 (mFA 44 t24 0) fun t25=>
 QDo prog C2 (aB 9 t25) fun t26=>
 QDo prog C2 (mEq .neq 9 (.tmp 21) (.tmp 26) t21 t26) fun t27=>
 GQ t27 false (fun E=>E t0) fun t29=>
 GQ t27 false (fun E=>E t5) fun t30=>
 GQ t27 false (fun E=>QDo prog C2 (mIA 23 t29 t30) E) fun t31=>
 GQ t27 false (fun E=>QDo prog C2 (mFA 44 t31 2) E) fun t32=>
 GQ t27 false (fun E=>QDo prog C2 (aB 9 t32) E) fun t33=>
 GQ t27 false (fun E=>E t1) fun t34=>
 GQ t27 false (fun E=>E t5) fun t35=>
 GQ t27 false (fun E=>QDo prog C2 (mIA 23 t34 t35) E) fun t36=>
 GQ t27 false (fun E=>QDo prog C2 (mFA 44 t36 2) E) fun t37=>
 GQ t27 false (fun E=>QDo prog C2 (aB 9 t37) E) fun t38=>
 GQ t27 false (fun E=>QDo prog C2 (mEq .neq 9 (.tmp 33) (.tmp 38) t33 t38) E) fun t39=>
 QDo prog C2 (aL t27 (.bool true) t39) fun t40=>
 GQ t40 false (fun E=>E t0) fun t42=>
 GQ t40 false (fun E=>E t5) fun t43=>
 GQ t40 false (fun E=>QDo prog C2 (mIA 23 t42 t43) E) fun t44=>
 GQ t40 false (fun E=>QDo prog C2 (mFA 44 t44 1) E) fun t45=>
 GQ t40 false (fun E=>QDo prog C2 (aB 40 t45) E) fun t46=>
 GQ t40 false (fun E=>E t1) fun t47=>
 GQ t40 false (fun E=>E t5) fun t48=>
 GQ t40 false (fun E=>QDo prog C2 (mIA 23 t47 t48) E) fun t49=>
 GQ t40 false (fun E=>QDo prog C2 (mFA 44 t49 1) E) fun t50=>
 GQ t40 false (fun E=>QDo prog C2 (aB 40 t50) E) fun t51=>
 GQ t40 false (fun E=>QCall prog C2 24 #[t46,t51] E) fun t52=>
 GQ t40 false (fun E=>QDo prog C2 (mUn .not t52) E) fun t53=>
 QDo prog C2 (aL t40 (.bool true) t53) fun t54=>
 ∀w,C2 w →
 IfX t54 (K (.returned (.bool false)) w) (DoX prog (mBin .add 3 t5 (.int .i64 1)) w (pk K) fun t16 w=>
 N1 [t16] w))) (K (.returned (.bool true)) w)
def gV (t0 t1:Value)(w:World)(K:Ending→World→Prop):Prop:=
 DoX prog (mB .len #[23] 3 #[false] #[t0]) w (pk K) fun t7 w=>
 DoX prog (mB .len #[23] 3 #[false] #[t1]) w (pk K) fun t9 w=>
 DoX prog (mEq .neq 3 (.tmp 7) (.tmp 9) t7 t9) w (pk K) fun t10 w=>
 IfX t10 (K (.returned (.bool false)) w) (LoopX [(.int .i64 0)] w (fun vs1 w N1=>∀_:Sg,lK t0 t1 (vs1.getD 0 undef) w N1 K))
theorem wF (t0 t1:Value)(w:World)(K:Ending→World→Prop):wpX prog 55 [] [(4,[5])] none (aK Tryz.f10) (topQ prog [.tmp 4] K) (aJ [t0,t1]) [] w=gV t0 t1 w K:=by kernel_rfl
theorem wY {t0 t1:Value}{w:World}{K:Ending→World→Prop}(h:gV t0 t1 w K):Calls prog 10 #[t0,t1] w K:=
 aA Tryz.func10 rfl rfl rfl rfl (Eq.mpr (wF t0 t1 w K) h)
end
section
open Eng
def uX (t4:Value)(w:World)(K:Ending→World→Prop):Prop:=
 CallX prog 57 #[t4,(.int .i64 (-1073741824)),(.int .i64 1073741824)] w (pk K) fun t19 w=>
 DoX prog (mUn .not t19) w (pk K) fun t20 w=>
 IfX t20 (K (.returned (.tuple #[(.int .i64 0),(.bool false)])) w) (K (.returned (.tuple #[t4,(.bool true)])) w)
def qE (t0:Value)(w:World)(K:Ending→World→Prop):Prop:=
 DoX prog (mBox 42 t0) w (pk K) fun t1 w=>
 DoX prog (mFA 42 t1 1) w (pk K) fun t5 w=>
 DoX prog (aB 2 t5) w (pk K) fun t6 w=>
 JoinX (fun J1=>
 DoX prog (mFA 42 t1 0) w (pk K) fun t7 w=>
 DoX prog (aB 3 t7) w (pk K) fun t8 w=>
 DoX prog (mEq .eql 3 (.tmp 8) (.const (.int .i64 2)) t8 (.int .i64 2)) w (pk K) fun t10 w=>
 IfX t10 (CallX prog 57 #[t6,(.int .i64 (-107374)),(.int .i64 107374)] w (pk K) fun t12 w=>
 DoX prog (mUn .not t12) w (pk K) fun t13 w=>
 IfX t13 (K (.returned (.tuple #[(.int .i64 0),(.bool false)])) w) (DoX prog (mBin .mul 2 t6 (.int .i64 10000)) w (pk K) fun t15 w=>
 J1 [t15] w)) (DoX prog (mEq .eql 3 (.tmp 8) (.const (.int .i64 3)) t8 (.int .i64 3)) w (pk K) fun t17 w=>
 IfX t17 (J1 [t6] w) (K (.returned (.tuple #[(.int .i64 0),(.bool false)])) w))) (fun vs1 w=>∀_:Sg,uX (vs1.getD 0 undef) w K)
theorem CM (t0:Value)(w:World)(K:Ending→World→Prop):wpX prog 22 [(9,[4])] [] none (aK Tryz.f31) (topQ prog [.tmp 2,.tmp 3] K) (aJ [t0]) [] w=qE t0 w K:=by kernel_rfl
theorem CI {t0:Value}{w:World}{K:Ending→World→Prop}(h:qE t0 w K):Calls prog 31 #[t0] w K:=
 aA Tryz.func31 rfl rfl rfl rfl (Eq.mpr (CM t0 w K) h)
def xX (t3 t7 t8 t9:Value)(w:World)(N1:List Value→World→Prop)(K:Ending→World→Prop):Prop:=
 DoX prog (mBin .lss 3 t9 t8) w (pk K) fun t10 w=>
 IfX t10 (DoX prog (mIA 40 t7 t9) w (pk K) fun t11 w=>
 DoX prog (aB 42 t11) w (pk K) fun t12 w=>
 DoX prog (aN 42) w (pk K) fun t5 w=>
 DoX prog (aD 42 t5 t12) w (pk K) fun _ w=>
 DoX prog (aB 42 t5) w (pk K) fun t14 w=>
 CallX prog 147 #[t14] w (pk K) fun t15 w=>
 DoX prog (mB .max #[3,3] 3 #[false,false] #[t3,t15]) w (pk K) fun t16 w=>
 DoX prog (mBin .add 3 t9 (.int .i64 1)) w (pk K) fun t17 w=>
 N1 [t16,t17] w) (DoX prog (mBin .add 3 t3 (.int .i64 1)) w (pk K) fun t19 w=>
 K (.returned t19) w)
def tM (t0:Value)(w:World)(K:Ending→World→Prop):Prop:=
 DoX prog (mBox 42 t0) w (pk K) fun t1 w=>
 DoX prog (mFA 42 t1 5) w (pk K) fun t6 w=>
 DoX prog (aB 40 t6) w (pk K) fun t7 w=>
 DoX prog (mB .len #[40] 3 #[false] #[t7]) w (pk K) fun t8 w=>
 LoopX [(.int .i64 0),(.int .i64 0)] w (fun vs1 w N1=>∀_:Sg,xX (vs1.getD 0 undef) t7 t8 (vs1.getD 1 undef) w N1 K)
theorem D5 (t0:Value)(w:World)(K:Ending→World→Prop):wpX prog 20 [] [(3,[3,9])] none (aK Tryz.f147) (topQ prog [.tmp 2] K) (aJ [t0]) [] w=tM t0 w K:=by kernel_rfl
theorem DT {t0:Value}{w:World}{K:Ending→World→Prop}(h:tM t0 w K):Calls prog 147 #[t0] w K:=
 aA Tryz.func147 rfl rfl rfl rfl (Eq.mpr (D5 t0 w K) h)
def kN (t3 t7 t8 t9:Value)(w:World)(N1:List Value→World→Prop)(K:Ending→World→Prop):Prop:=
 DoX prog (mBin .lss 3 t9 t8) w (pk K) fun t10 w=>
 IfX t10 (DoX prog (mIA 40 t7 t9) w (pk K) fun t11 w=>
 DoX prog (aB 42 t11) w (pk K) fun t12 w=>
 DoX prog (aN 42) w (pk K) fun t5 w=>
 DoX prog (aD 42 t5 t12) w (pk K) fun _ w=>
 DoX prog (aB 42 t5) w (pk K) fun t14 w=>
 CallX prog 44 #[t14] w (pk K) fun t15 w=>
 DoX prog (mB .max #[3,3] 3 #[false,false] #[t3,t15]) w (pk K) fun t16 w=>
 DoX prog (mBin .add 3 t9 (.int .i64 1)) w (pk K) fun t17 w=>
 N1 [t16,t17] w) (DoX prog (mBin .add 3 t3 (.int .i64 1)) w (pk K) fun t19 w=>
 K (.returned t19) w)
def fS (t0:Value)(w:World)(K:Ending→World→Prop):Prop:=
 DoX prog (mBox 42 t0) w (pk K) fun t1 w=>
 DoX prog (mFA 42 t1 5) w (pk K) fun t6 w=>
 DoX prog (aB 40 t6) w (pk K) fun t7 w=>
 DoX prog (mB .len #[40] 3 #[false] #[t7]) w (pk K) fun t8 w=>
 LoopX [(.int .i64 0),(.int .i64 0)] w (fun vs1 w N1=>∀_:Sg,kN (vs1.getD 0 undef) t7 t8 (vs1.getD 1 undef) w N1 K)
theorem sP (t0:Value)(w:World)(K:Ending→World→Prop):wpX prog 20 [] [(3,[3,9])] none (aK Tryz.f44) (topQ prog [.tmp 2] K) (aJ [t0]) [] w=fS t0 w K:=by kernel_rfl
theorem tH {t0:Value}{w:World}{K:Ending→World→Prop}(h:fS t0 w K):Calls prog 44 #[t0] w K:=
 aA Tryz.func44 rfl rfl rfl rfl (Eq.mpr (sP t0 w K) h)
def aV (t0 t1:Value)(w:World)(K:Ending→World→Prop):Prop:=
 CallX prog 128 #[t0,t1] w (pk K) fun t7 w=>
 DoX prog (mBin .geq 3 t7 (.int .i64 0)) w (pk K) fun t8 w=>
 K (.returned t8) w
theorem bZ (t0 t1:Value)(w:World)(K:Ending→World→Prop):wpX prog 9 [] [] none (aK Tryz.f88) (topQ prog [.tmp 4] K) (aJ [t0,t1]) [] w=aV t0 t1 w K:=by kernel_rfl
theorem bY {t0 t1:Value}{w:World}{K:Ending→World→Prop}(h:aV t0 t1 w K):Calls prog 88 #[t0,t1] w K:=
 aA Tryz.func88 rfl rfl rfl rfl (Eq.mpr (bZ t0 t1 w K) h)
def bH (t0 t1 t7 t8:Value)(w:World)(N1:List Value→World→Prop)(K:Ending→World→Prop):Prop:=
 DoX prog (mBin .lss 3 t8 t7) w (pk K) fun t9 w=>
 IfX t9 (DoX prog (mIA 40 t0 t8) w (pk K) fun t14 w=>
 DoX prog (aB 42 t14) w (pk K) fun t15 w=>
 DoX prog (jI t1 #[t15]) w (pk K) fun t16 w=>
 IfX t16 (K (.returned t8) w) (DoX prog (mBin .add 3 t8 (.int .i64 1)) w (pk K) fun t18 w=>
 N1 [t18] w)) (K (.returned (.int .i64 (-1))) w)
def aX (t0 t1:Value)(w:World)(K:Ending→World→Prop):Prop:=
 DoX prog (mB .len #[40] 3 #[false] #[t0]) w (pk K) fun t7 w=>
 LoopX [(.int .i64 0)] w (fun vs1 w N1=>∀_:Sg,bH t0 t1 t7 (vs1.getD 0 undef) w N1 K)
theorem cH (t0 t1:Value)(w:World)(K:Ending→World→Prop):wpX prog 19 [] [(2,[8])] none (aK Tryz.f128) (topQ prog [.tmp 4] K) (aJ [t0,t1]) [] w=aX t0 t1 w K:=by kernel_rfl
theorem cJ {t0 t1:Value}{w:World}{K:Ending→World→Prop}(h:aX t0 t1 w K):Calls prog 128 #[t0,t1] w K:=
 aA Tryz.func128 rfl rfl rfl rfl (Eq.mpr (cH t0 t1 w K) h)
end
section
open Eng Go.RowKit
theorem AN (s:List UInt8)(w:World):Ret prog 38 #[.string ⟨s.toArray⟩] w (fun v w'=>v=.bool (Cs.constant s)∧w=w'):=by
 refine aO fun K hK=>Da ?_;unfold qR;have fin:∀{q:Bool},q=Cs.constant s→K (.returned (.bool q)) w:=fun e=>hK _ _ ⟨by rw[e],rfl⟩;by_cases h1:s=[116,114,117,101]
 ·simp only[rs,decide_eq_true h1,g_un];exact fin (by simp[Cs.constant,Ps.tru,h1])
 by_cases h2:s=[102,97,108,115,101]
 ·simp only[rs,decide_eq_false h1,decide_eq_true h2,g_un];exact fin (by simp[Cs.constant,Ps.fal,h2])
 simp only[rs,decide_eq_false h1,decide_eq_false h2,g_un];exact fin (by unfold Cs.constant;rw[decide_eq_false (show ¬s=Ps.tru from h1),decide_eq_false (show ¬s=Ps.fal from h2)];rfl)
theorem DL (t:Lx.Tok)(w:World):Ret prog 20 #[tokV t] w (fun v w'=>v=.bool (Cs.constant t.s)∧Below w.heap.size w w'):=by
 refine aO fun K hK=>qH ?_;unfold eC;refine G1 t (Own.start w) fun b w1 ho=>?_;have fin:∀{q:Bool},q=Cs.constant t.s→K (.returned (.bool q)) w1:=fun e=>hK _ _ ⟨by rw[e],ho.done⟩;by_cases h1:t.s=[116,114,117,101]
 ·simp only[rs,bK,tk_s ho 0 rfl,decide_eq_true h1,g_un];exact fin (by simp[Cs.constant,Ps.tru,h1])
 by_cases h2:t.s=[102,97,108,115,101]
 ·simp only[rs,bK,tk_s ho 0 rfl,decide_eq_false h1,decide_eq_true h2,g_un];exact fin (by simp[Cs.constant,Ps.fal,h2])
 simp only[rs,bK,tk_s ho 0 rfl,decide_eq_false h1,decide_eq_false h2,g_un];exact fin (by unfold Cs.constant;rw[decide_eq_false (show ¬t.s=Ps.tru from h1),decide_eq_false (show ¬t.s=Ps.fal from h2)];rfl)
namespace Cs
theorem Fy:∀l:List Ob,pJ l=l.any bQ
|[]=>by rw[pJ];rfl
|o::l=>by rw[pJ,List.any_cons,Fy l]
theorem Qq:∀l:List Ob,l.any bQ=decide (l.findIdx bQ < l.length)
|[]=>rfl
|o::l=>by
  rw[List.any_cons,List.findIdx_cons,Qq l];cases h:bQ o with
 |true=>simp
 |false=>simp
end Cs
theorem Gx:dQ prog 51=true:=by kernel_rfl
theorem LQ {p:Ob→Bool}{l:List Ob}{i:Nat}(hi:i < l.length)(h1:∀m (h:m < l.length),m < i→p l[m]=false)(h2:p l[i]=true):l.findIdx p=i:=by
 have hle:l.findIdx p≤i:=by
  rcases Nat.lt_or_ge i (l.findIdx p) with h|h
  ·have:=List.not_of_lt_findIdx h;rw[h2] at this;simp at this
  ·exact h
 rcases Nat.lt_or_ge (l.findIdx p) i with h|h
 ·have hlt:l.findIdx p < l.length:=by omega
  have:=h1 _ hlt h;have hp:=List.findIdx_getElem (w:=hlt);rw[this] at hp;cases hp
 ·omega
theorem Sh (l:List Ob)(vc:Value)(cs:List Value)(w:World)(hl:l.length≤10000000000)(hs:SlA (InW w) w vc 6 l.length cs)(hall:OVs (InW w) w cs l)
  (hp:∀(o:Ob) (v:Value) (W:World),o∈l→OV (InW W) W v o→Ret prog 51 #[v] W (fun v w'=>v=.bool (Cs.bQ o)∧Below W.heap.size W w')) :
  Ret prog 128 #[vc,.func (.func 51) #[] #[]] w (fun v w'=>v=.int .i64 (if l.findIdx Cs.bQ < l.length then (l.findIdx Cs.bQ:Int) else -1)∧Below w.heap.size w w'):=by
 refine aO fun K hK=>cJ ?_;unfold aX;rw[bF Tryz.underlying40 hs.1];refine loop (fun vs W=>∃i:Nat,vs=[.int .i64 i]∧i≤l.length∧(∀m (h:m < l.length),m < i→Cs.bQ l[m]=false)∧Own w W []) (fun vs _=>l.length - n0 vs) ⟨0,rfl,by omega,fun m _ h=>by omega,Own.start w⟩ ?_;rintro vs w1 ⟨i,rfl,hi,hlo,ho⟩ _;simp only[bH,gd,rs];by_cases hlt:(i:Int) < (l.length:Int)
 ·have hi':i < l.length:=by omega
  simp only[hlt,decide_true,i_t];have hk:Kept (InW w) w w1:=OwnS.keptIn ho;refine GB (hs.kept hk).1 (OVs.kept hk _ _ hall) hi' fun v hv=>?_;have hv1:OV (InW w1) w1 v l[i]:=OV.mono (fun _ hb=>Nat.lt_of_lt_of_le hb ho.size) _ v hv;refine PR Gx (dV (hp l[i] v w1 (List.getElem_mem hi') hv1) ?_);rintro _ w2 ⟨rfl,hb⟩;have ho:=ho.grow hb;cases hc:Cs.bQ l[i] with
 |true=>
   simp only[i_t];have:=LQ hi' hlo hc;exact hK _ _ ⟨by rw[this,if_pos hi'],ho.done⟩
 |false=>
   simp only[i_f];rw[aC (by omega) (by omega)];refine bG ⟨i+1,rfl,by omega,fun m hm hmi=>?_,ho⟩ (by simp[n0,RowKit.intOf];omega);rcases Nat.lt_or_ge m i with h|h
   ·exact hlo m hm h
   ·have:m=i:=by omega
    subst this;exact hc
 ·simp only[hlt,decide_false,i_f];have hnot:¬l.findIdx Cs.bQ < l.length:=by
   intro h;have:=hlo _ h (by omega);have hp:=List.findIdx_getElem (w:=h);rw[this] at hp;cases hp
  exact hK _ _ ⟨by rw[if_neg hnot],ho.done⟩
theorem DC (n:Nat):∀(o:Ob) (v:Value) (w:World),o.wt≤n→o.wt≤10000000000→OV (InW w) w v o→Ret prog 51 #[v] w (fun v w'=>v=.bool (Cs.bQ o)∧Below w.heap.size w w'):=by
 induction n with
|zero=>intro o v w h;have:=o.zE;omega
|succ n ih=>
 intro o v w hn hb hov;obtain⟨vk,vc,cs,rfl,ha⟩:=hov.open;refine aO fun K hK=>ER ?_;unfold yX;refine rR o ha.keys.one ha.kids.one (Own.start w) fun b w1 ho=>?_;rw[oG,ob_k ho 0 rfl];simp only[rs];by_cases h8:o.k=8
 ·simp only[decide_eq_true h8,rs,g_un];exact hK _ _ ⟨by rw[Cs.xE,decide_eq_true h8];rfl,ho.done⟩
 simp only[decide_eq_false h8,rs,mH,cX ho 0 rfl];have ha1:ObAt (InW w1) w1 o vk vc cs:=(ha.later (Own.start w) ho);have hcl:=Et (o:=o);refine dE (w:=w1) (x:=.bool (Cs.pJ o.kids)) (aO fun K hK=>bY ?_) rfl ho fun w2 ho=>?_
 ·unfold aV;refine dV (Sh o.kids vc cs w1 (by omega) ha1.kids ha1.all fun x v W hx hv=>ih x v W ?_ ?_ hv) ?_
  ·obtain⟨i,hi,rfl⟩:=List.getElem_of_mem hx;have:=AG hi;omega
  ·obtain⟨i,hi,rfl⟩:=List.getElem_of_mem hx;have:=AG hi;omega
  ·rintro _ w2 ⟨rfl,hb⟩;simp only[rs];refine hK _ _ ⟨?_,hb⟩;rw[Cs.Fy,Cs.Qq];by_cases hf:o.kids.findIdx Cs.bQ < o.kids.length
   ·rw[if_pos hf,decide_eq_true hf,decide_eq_true (by omega)]
   ·rw[if_neg hf,decide_eq_false hf,decide_eq_false (by omega)]
 ·try simp only[rs]
  exact hK _ _ ⟨by rw[Cs.xE,decide_eq_false h8,Bool.false_or],ho.done⟩
theorem Kn (n:Nat):∀(o:Ob) (v:Value) (w:World),o.wt≤n→o.wt≤10000000000→OV (InW w) w v o→Ret prog 23 #[v] w (fun v w'=>v=.bool (Cs.bQ o)∧Below w.heap.size w w'):=by
 induction n with
|zero=>intro o v w h;have:=o.zE;omega
|succ n ih=>
 intro o v w hn hb hov;obtain⟨vk,vc,cs,rfl,ha⟩:=hov.open;refine aO fun K hK=>wJ ?_;unfold iM;refine rR o ha.keys.one ha.kids.one (Own.start w) fun b w1 ho=>?_;rw[oG,ob_k ho 0 rfl];simp only[rs];by_cases h8:o.k=8
 ·simp only[decide_eq_true h8,rs];exact hK _ _ ⟨by rw[Cs.xE,decide_eq_true h8];rfl,ho.done⟩
 simp only[decide_eq_false h8,rs];have hcl:=Et (o:=o);refine loop (fun vs w'=>∃i:Nat,vs=[.int .i64 i]∧i≤o.kids.length∧Cs.pJ o.kids=Cs.pJ (o.kids.drop i)∧Own w w' [obE b o vk vc]) (fun vs _=>o.kids.length - n0 vs) ⟨0,rfl,by omega,by rw[List.drop_zero],ho⟩ ?_;rintro vs w2 ⟨i,rfl,hi,hr,ho⟩ _;simp only[lP,gd];have ha2:=ha.own ho;rw[mH,cX ho 0 rfl,bF Tryz.underlying40 ha2.kids.1];simp only[rs];by_cases hlt:(i:Int) < (o.kids.length:Int)
 ·have hi':i < o.kids.length:=by omega
  simp only[hlt,decide_true,i_t];rw[mH,cX ho 0 rfl];refine GB ha2.kids.1 ha2.all hi' fun v hv=>?_;have hv1:OV (InW w2) w2 v o.kids[i]:=OV.mono (fun _ hb=>Nat.lt_of_lt_of_le hb ho.size) _ v hv;have hkw:=AG hi';refine dE (ih o.kids[i] v w2 (by omega) (by omega) hv1) rfl ho fun w3 ho=>?_;rw[List.drop_eq_getElem_cons hi',Cs.pJ] at hr;cases hc:Cs.bQ o.kids[i] with
 |true=>
   simp only[i_t];exact hK _ _ ⟨by rw[Cs.xE,hr,hc];simp,ho.done⟩
 |false=>
   simp only[i_f,rs];rw[aC (by omega) (by omega)];exact bG ⟨i+1,rfl,by omega,by rw[hr,hc,Bool.false_or],ho⟩ (by simp[n0,RowKit.intOf];omega)
 ·simp only[hlt,decide_false,i_f];have hil:i=o.kids.length:=by omega
  subst hil;rw[List.drop_length,Cs.pJ] at hr;exact hK _ _ ⟨by rw[Cs.xE,hr,decide_eq_false h8];rfl,ho.done⟩
theorem Qr {T U:TypeId}{cb:Array Bool}{a b:Int}{P:Program}{w:World}{PK:PKT}{K:VWP}:DoX P (mB .max #[T,T] U cb #[.int .i64 a,.int .i64 b]) w PK K=K (.int .i64 (max a b)) w:=by
 refine aT ?_;simp[mB,builtin,Builtin.max_,Builtin.max2];rw[Int.max_def];split<;>split<;>omega
namespace Cs
theorem AP:∀(l:List Ob) (o:Ob),dM (l++[o])=max (dM l) (depth o)
|[],o=>by simp[dM]
|a::l,o=>by rw[List.cons_append,dM,AP l o,dM];omega
theorem oI:∀(l:List Ob) (i:Nat),dM (l.take i)≤dM l
|[],i=>by simp
|a::l,0=>by simp[dM]
|a::l,i+1=>by
  have:=oI l i;rw[List.take_succ_cons,dM,dM];omega
 mutual
theorem HS:∀o:Ob,depth o≤o.wt
|.mk k n g s keys kids=>by
  have:=Kk kids;rw[depth,Ob.wt];omega
theorem Kk:∀l:List Ob,dM l≤Ob.wts l
|[]=>by simp[dM]
|o::l=>by
  have:=HS o;have:=Kk l;rw[dM,Ob.wts];omega
end
end Cs
theorem On (n:Nat):∀(o:Ob) (v:Value) (w:World),o.wt≤n→o.wt≤10000000000→OV (InW w) w v o→Ret prog 147 #[v] w (fun v w'=>v=.int .i64 (Cs.depth o:Nat)∧Below w.heap.size w w'):=by
 induction n with
|zero=>intro o v w h;have:=o.zE;omega
|succ n ih=>
 intro o v w hn hb hov;obtain⟨vk,vc,cs,rfl,ha⟩:=hov.open;refine aO fun K hK=>DT ?_;unfold tM;refine rR o ha.keys.one ha.kids.one (Own.start w) fun b w1 ho=>?_;have hcl:=Et (o:=o);have hdw:=Cs.HS o;have hde:=Cs.HR o;rw[mH,cX ho 0 rfl,bF Tryz.underlying40 (ha.own ho).kids.1];refine loop (fun vs w'=>∃(i:Nat) (m:Int),vs=[.int .i64 m,.int .i64 i]∧i≤o.kids.length∧m=((Cs.dM (o.kids.take i):Nat):Int)∧Own w w' [obE b o vk vc]) (fun vs _=>o.kids.length - n1 vs) ⟨0,_,rfl,by omega,by simp[Cs.dM],ho⟩ ?_;rintro vs w3 ⟨i,m,rfl,hi2,rfl,ho⟩ _;simp only[xX,gd,rs];have hdt:=Cs.oI o.kids i;by_cases hlt:(i:Int) < (o.kids.length:Int)
 ·have hi':i < o.kids.length:=by omega
  simp only[hlt,decide_true,i_t];have hai:=ha.own ho;refine GB hai.kids.1 hai.all hi' fun v hv=>?_;obtain⟨vk',vc',cs',rfl,hkid⟩:=hv.open;have ho6:=ho;refine bU ho fun b7 w7 ho=>?_;refine bA 0 hkid.keys.one hkid.kids.one ho rfl fun w8 ho=>?_;have ho:Own w w8 [obE b7 o.kids[i] vk' vc',obE b o vk vc]:=ho;rw[ob_v ho 0 rfl];have hkw:=AG hi';refine dE (ih o.kids[i] _ w8 (by omega) (by omega) (hkid.later ho6 ho).ov) rfl ho fun w9 ho=>?_;have hd2:=Cs.oI o.kids (i+1);have hss:Cs.dM (o.kids.take (i+1))=max (Cs.dM (o.kids.take i)) (Cs.depth o.kids[i]):=by rw[List.take_succ_eq_append_getElem hi',Cs.AP]
  rw[Qr]
  try simp only[rs]
  rw[aC (by omega) (by omega)];exact bG ⟨i+1,_,rfl,by omega,by rw[hss];omega,ho.tail⟩ (by simp[n1,RowKit.intOf];omega)
 ·simp only[hlt,decide_false,i_f,rs];have hil:i=o.kids.length:=by omega
  subst hil;rw[List.take_length] at hdt ⊢;rw[aC (by omega) (by omega)];exact hK _ _ ⟨by rw[hde];rfl,ho.done⟩
theorem Oh (n:Nat):∀(o:Ob) (v:Value) (w:World),o.wt≤n→o.wt≤10000000000→OV (InW w) w v o→Ret prog 44 #[v] w (fun v w'=>v=.int .i64 (Cs.depth o:Nat)∧Below w.heap.size w w'):=by
 induction n with
|zero=>intro o v w h;have:=o.zE;omega
|succ n ih=>
 intro o v w hn hb hov;obtain⟨vk,vc,cs,rfl,ha⟩:=hov.open;refine aO fun K hK=>tH ?_;unfold fS;refine rR o ha.keys.one ha.kids.one (Own.start w) fun b w1 ho=>?_;have hcl:=Et (o:=o);have hdw:=Cs.HS o;have hde:=Cs.HR o;rw[mH,cX ho 0 rfl,bF Tryz.underlying40 (ha.own ho).kids.1];refine loop (fun vs w'=>∃(i:Nat) (m:Int),vs=[.int .i64 m,.int .i64 i]∧i≤o.kids.length∧m=((Cs.dM (o.kids.take i):Nat):Int)∧Own w w' [obE b o vk vc]) (fun vs _=>o.kids.length - n1 vs) ⟨0,_,rfl,by omega,by simp[Cs.dM],ho⟩ ?_;rintro vs w3 ⟨i,m,rfl,hi2,rfl,ho⟩ _;simp only[kN,gd,rs];have hdt:=Cs.oI o.kids i;by_cases hlt:(i:Int) < (o.kids.length:Int)
 ·have hi':i < o.kids.length:=by omega
  simp only[hlt,decide_true,i_t];have hai:=ha.own ho;refine GB hai.kids.1 hai.all hi' fun v hv=>?_;obtain⟨vk',vc',cs',rfl,hkid⟩:=hv.open;have ho6:=ho;refine bU ho fun b7 w7 ho=>?_;refine bA 0 hkid.keys.one hkid.kids.one ho rfl fun w8 ho=>?_;have ho:Own w w8 [obE b7 o.kids[i] vk' vc',obE b o vk vc]:=ho;rw[ob_v ho 0 rfl];have hkw:=AG hi';refine dE (ih o.kids[i] _ w8 (by omega) (by omega) (hkid.later ho6 ho).ov) rfl ho fun w9 ho=>?_;have hd2:=Cs.oI o.kids (i+1);have hss:Cs.dM (o.kids.take (i+1))=max (Cs.dM (o.kids.take i)) (Cs.depth o.kids[i]):=by rw[List.take_succ_eq_append_getElem hi',Cs.AP]
  rw[Qr]
  try simp only[rs]
  rw[aC (by omega) (by omega)];exact bG ⟨i+1,_,rfl,by omega,by rw[hss];omega,ho.tail⟩ (by simp[n1,RowKit.intOf];omega)
 ·simp only[hlt,decide_false,i_f,rs];have hil:i=o.kids.length:=by omega
  subst hil;rw[List.take_length] at hdt ⊢;rw[aC (by omega) (by omega)];exact hK _ _ ⟨by rw[hde];rfl,ho.done⟩
end
section
open Eng Go.RowKit
namespace Cs
theorem Pv {s:List UInt8}{a:Nat}(ha:a < s.length):ends s a=(Oc.gE s[a]&&[69,73].isPrefixOf (s.drop (a+1))&&(decide (a+3=s.length)||(s[a+3]?).any Oc.gE)):=by
 unfold ends;rw[Lx.drop_cons ha];have hd:(s.drop (a+1)).drop 2=s.drop (a+3):=by rw[List.drop_drop]
 have hl:(s.drop (a+1)).length=s.length - (a+1):=List.length_drop;generalize hu:s.drop (a+1)=u at *
 match u with
|[]=>simp
|[x]=>simp[List.isPrefixOf]
|x::y::r=>
  have hr:r=s.drop (a+3):=by rw[←hd];rfl
  have he:r.isEmpty=decide (a+3=s.length):=by
   simp only[List.length_cons] at hl;cases r with
  |nil=>rw[decide_eq_true (by simp at hl;omega)];rfl
  |cons _ _=>rw[decide_eq_false (by simp at hl;omega)];rfl
  have hh:r.head?=s[a+3]?:=by rw[hr,List.head?_drop]
  simp only[he,hh,List.isPrefixOf];have e1:((69:UInt8)==x)=decide (x=69):=by
   cases h:decide (x=69) with
  |true=>have:=of_decide_eq_true h;subst this;rfl
  |false=>exact beq_eq_false_iff_ne.2 (Ne.symm (of_decide_eq_false h))
  have e2:((73:UInt8)==y)=decide (y=73):=by
   cases h:decide (y=73) with
  |true=>have:=of_decide_eq_true h;subst this;rfl
  |false=>exact beq_eq_false_iff_ne.2 (Ne.symm (of_decide_eq_false h))
  rw[e1,e2,Bool.and_true,←Bool.and_assoc]
end Cs
theorem HF (s:List UInt8)(a:Nat)(w:World)(ha:a < s.length)(hs:s.length≤1099511627776):Ret prog 109 #[.string ⟨s.toArray⟩,.int .i64 (a:Int)] w (fun v w'=>v=.bool (Cs.ends s a)∧w=w'):=by
 refine aO fun K hK=>HV ?_;unfold Ck;have fin:∀{q:Bool},q=Cs.ends s a→K (.returned (.bool q)) w:=fun e=>hK _ _ ⟨by rw[e],rfl⟩;rw[s_ix (c:=s[a]) Tryz.underlying9 (by omega) (by simp[ha])];refine c_eq (rH s[a] w) ?_;rw[Cs.Pv ha] at fin;have hbg:bB s [69,73] ((a:Int)+1)=[69,73].isPrefixOf (s.drop (a+1)):=by
  unfold bB;rw[decide_eq_true (by omega),decide_eq_true (by omega),show ((a:Int)+1).toNat=a+1 by omega];rfl
 cases hw:Oc.gE s[a] with
|false=>
  simp only[rs,Bool.not_false,g_un];exact fin (by rw[hw];rfl)
|true=>
  simp only[rs,Bool.not_true];rw[aC (by omega) (by omega)];refine c_eq (CT s [69,73] ((a:Int)+1) w) ?_;rw[hbg];cases hp:[69,73].isPrefixOf (s.drop (a+1)) with
 |false=>
   simp only[rs,Bool.not_false];exact fin (by rw[hw,hp];rfl)
 |true=>
   have hlen:a+3≤s.length:=by
    have:=(List.isPrefixOf_iff_prefix.1 hp).length_le;simp only[List.length_cons,List.length_nil,List.length_drop] at this;omega
   simp only[rs,Bool.not_true,bD Tryz.underlying9];rw[aC (by omega) (by omega)];by_cases h3:(a:Int)+3=(s.length:Int)
   ·simp only[decide_eq_true h3,rs,g_un];exact fin (by rw[hw,hp,decide_eq_true (show a+3=s.length by omega)];rfl)
   ·simp only[decide_eq_false h3,rs];rw[aC (by omega) (by omega),s_ix (c:=s[a+3]'(by omega)) Tryz.underlying9 (by omega) (by rw[show ((a:Int)+3).toNat=a+3 by omega];exact List.getElem?_eq_getElem (by omega))];refine c_eq (rH (s[a+3]'(by omega)) w) ?_
    try simp only[rs]
    refine fin ?_;rw[hw,hp,decide_eq_false (show ¬a+3=s.length by omega),List.getElem?_eq_getElem (by omega)];rfl
theorem M8 (s:List UInt8)(a:Nat)(w:World)(ha:a < s.length)(hs:s.length≤1099511627776):Ret prog 46 #[.string ⟨s.toArray⟩,.int .i64 (a:Int)] w (fun v w'=>v=.bool (Cs.ends s a)∧w=w'):=by
 refine aO fun K hK=>tC ?_;unfold fN;have fin:∀{q:Bool},q=Cs.ends s a→K (.returned (.bool q)) w:=fun e=>hK _ _ ⟨by rw[e],rfl⟩;rw[Cs.Pv ha] at fin;have hbg:bB s [69,73] ((a:Int)+1)=[69,73].isPrefixOf (s.drop (a+1)):=by
  unfold bB;rw[decide_eq_true (by omega),decide_eq_true (by omega),show ((a:Int)+1).toNat=a+1 by omega];rfl
 simp only[rs,bD Tryz.underlying9,decide_eq_true (show (a:Int) < (s.length:Int) by omega)];rw[s_ix (c:=s[a]) Tryz.underlying9 (by omega) (by simp[ha])];refine c_eq (nX s[a] w) ?_;cases hw:Oc.gE s[a] with
|false=>
  simp only[rs,g_un];exact fin (by rw[hw];rfl)
|true=>
  simp only[rs];rw[aC (by omega) (by omega)];refine c_eq (FE s [69,73] ((a:Int)+1) w hs) ?_;rw[hbg];cases hp:[69,73].isPrefixOf (s.drop (a+1)) with
 |false=>
   simp only[rs,g_un];exact fin (by rw[hw,hp];rfl)
 |true=>
   have hlen:a+3≤s.length:=by
    have:=(List.isPrefixOf_iff_prefix.1 hp).length_le;simp only[List.length_cons,List.length_nil,List.length_drop] at this;omega
   simp only[rs,bD Tryz.underlying9];rw[aC (by omega) (by omega)];by_cases h3:(a:Int)+3=(s.length:Int)
   ·simp only[decide_eq_true h3,rs,g_un];exact fin (by rw[hw,hp,decide_eq_true (show a+3=s.length by omega)];rfl)
   ·simp only[decide_eq_false h3,rs];rw[aC (by omega) (by omega),s_ix (c:=s[a+3]'(by omega)) Tryz.underlying9 (by omega) (by rw[show ((a:Int)+3).toNat=a+3 by omega];exact List.getElem?_eq_getElem (by omega))];refine c_eq (nX (s[a+3]'(by omega)) w) ?_
    try simp only[rs]
    refine fin ?_;rw[hw,hp,decide_eq_false (show ¬a+3=s.length by omega),List.getElem?_eq_getElem (by omega)];rfl
def fltP (a e:Int):PanicEntry:={ v:=.iface 26 (fltV (a,e)),recovered:=false }
theorem nfF:lG prog 26=true:=by kernel_rfl
theorem CG (a e:Int)(w:World):Pan prog 63 #[.int .i64 a,.int .i64 e] w (fun c w'=>c=[fltP a e]∧w=w'):=by
 refine Mc fun K hK=>IJ ?_;unfold Cy;have hb:∀{PK:PKT} {K:VWP},DoX prog (aG 26 #[(0,.int .i64 a),(1,.int .i64 e)]) w PK K=K (fltV (a,e)) w:=aT (by kernel_rfl);rw[hb,Jg nfF,HQ];exact hK _ _ ⟨rfl,rfl⟩
theorem R3 (a e:Int)(w:World):Ret prog 37 #[.bool true,.int .i64 a,.int .i64 e] w (fun v w'=>v=.tuple #[]∧w=w'):=by
 refine aO fun K hK=>BZ ?_;unfold zX;simp only[rs,Bool.not_true];exact hK _ _ ⟨rfl,rfl⟩
theorem RQ (a e:Int)(w:World):Pan prog 37 #[.bool false,.int .i64 a,.int .i64 e] w (fun c w'=>c=[fltP a e]∧w=w'):=by
 refine Mc fun K hK=>BZ ?_;unfold zX;simp only[rs,Bool.not_false];exact M7 (CG a e w) fun c w' ⟨hc,hw⟩=>by subst hc;subst hw;exact hK _ _ ⟨rfl,rfl⟩
section
variable {w:World}{PK:PKT}{K:VWP}{S:Nat→Prop}{w0:World}{L:List Ent}
theorem dS {q:Bool}{a e:Int}(kt:q=true→K (.tuple #[]) w)(kf:q=false→PK [fltP a e] w):CallX prog 37 #[.bool q,.int .i64 a,.int .i64 e] w PK K:=by
 cases q with
|true=>exact c_eq (R3 a e w) (kt rfl)
|false=>exact M7 (RQ a e w) fun c w' ⟨hc,hw⟩=>by subst hc;subst hw;exact kf rfl
end
theorem Hq (a e:Int)(w:World):Ret prog 19 #[.int .i64 a,.int .i64 e] w (fun v w'=>v=fltV (a,e)∧Below w.heap.size w w'):=by
 refine aO fun K hK=>sQ ?_;unfold fR;refine dD (fun b=>.pointer (some ⟨b,0,none⟩)) [.int .i64 0,.int .i64 0] 26 (fun _=>by kernel_rfl) (Own.start w) fun b w1 ho=>?_;have hb:∀{PK:PKT} {K:VWP},DoX prog (aG 26 #[(0,.int .i64 a),(1,.int .i64 e)]) w1 PK K=K (fltV (a,e)) w1:=aT (by kernel_rfl);rw[hb];refine Bq 0 ho rfl (new:=[.int .i64 a,.int .i64 e]) (show (Tryz.prog.info? 26).map (·.size)=some 2 by kernel_rfl) (by intro v hv;simp at hv;rcases hv with rfl|rfl<;>rfl) rfl fun w2 ho=>?_;exact iW (bC (ho.agg 0 rfl (show aggN prog 26=some 2 by kernel_rfl))) (hK _ _ ⟨rfl,ho.done⟩)
def orC (s:List UInt8)(a:Int)(vl:Value):List Value:=[.string ⟨s.toArray⟩,.int .i64 a,vl]
abbrev orE (b:Nat)(s:List UInt8)(a:Int)(vl:Value):Ent:=.cells b (orC s a vl) 49
theorem for0:fOff prog 49 0=some 0:=by kernel_rfl
theorem for1:fOff prog 49 1=some 1:=by kernel_rfl
theorem for2:fOff prog 49 2=some 2:=by kernel_rfl
section
variable {w:World}{PK:PKT}{K:VWP}{S:Nat→Prop}{w0:World}{L:List Ent}
theorem Ha {b:Nat}:DoX prog (mFA 49 (.pointer (some ⟨b,0,none⟩)) 0) w PK K=K (.pointer (some ⟨b,0,none⟩)) w:=cF for0
theorem Kd {b:Nat}:DoX prog (mFA 49 (.pointer (some ⟨b,0,none⟩)) 1) w PK K=K (.pointer (some ⟨b,1,none⟩)) w:=cF for1
theorem UX {b:Nat}:DoX prog (mFA 49 (.pointer (some ⟨b,0,none⟩)) 2) w PK K=K (.pointer (some ⟨b,2,none⟩)) w:=cF for2
theorem or_s {b:Nat}{s:List UInt8}{a:Int}{vl:Value}(h:(orE b s a vl).is w):DoX prog (aB 9 (.pointer (some ⟨b,0,none⟩))) w PK K=K (.string ⟨s.toArray⟩) w:=aW mZ (aU (T:=49) (cs:=orC s a vl) (i:=0) h rfl)
theorem or_a {b:Nat}{s:List UInt8}{a:Int}{vl:Value}(h:(orE b s a vl).is w):DoX prog (aB 3 (.pointer (some ⟨b,1,none⟩))) w PK K=K (.int .i64 a) w:=aW F2 (aU (T:=49) (cs:=orC s a vl) (i:=1) h rfl)
theorem or_l {b:Nat}{s:List UInt8}{a:Int}{vl:Value}(h:(orE b s a vl).is w):DoX prog (aB 23 (.pointer (some ⟨b,2,none⟩))) w PK K=K vl w:=aW T3 (aU (T:=49) (cs:=orC s a vl) (i:=2) h rfl)
theorem NG {b:Nat}{s:List UInt8}{a:Int}{vl:Value}(h:(orE b s a vl).is w):(aB 9 (.pointer (some ⟨b,0,none⟩))).run prog w=.ok (.value (.string ⟨s.toArray⟩)) w:=aM mZ (aU (T:=49) (cs:=orC s a vl) (i:=0) h rfl)
theorem Qu {b:Nat}{s:List UInt8}{a:Int}{vl:Value}(h:(orE b s a vl).is w):(aB 3 (.pointer (some ⟨b,1,none⟩))).run prog w=.ok (.value (.int .i64 a)) w:=aM F2 (aU (T:=49) (cs:=orC s a vl) (i:=1) h rfl)
theorem MI (i:Nat){b:Nat}{s:List UInt8}{a a':Int}{vl:Value}(ho:OwnS S w0 w L)(hi:L[i]?=some (orE b s a vl))(k:∀w',OwnS S w0 w' (L.set i (orE b s a' vl))→K undef w'):DoX prog (aD 3 (.pointer (some ⟨b,1,none⟩)) (.int .i64 a')) w PK K:=
 bI i ho hi (by kernel_rfl) rfl (show 1 < 3 by omega) k
theorem IK {b:Nat}{s:List UInt8}{a:Int}{vl:Value}(ho:OwnS S w0 w L)(hr:(orE b s a vl).is w)(hs:s.length≤1099511627776)
  (kr:(Lx.next s a).2=0→∀w',OwnS S w0 w' L→K (tokV (Lx.next s a).1) w') (kp:(Lx.next s a).2≠0→∀w',OwnS S w0 w' L→PK [fltP (Lx.eM s a) (Lx.next s a).2] w'):CallX prog 36 #[rdP b] w PK K:=by
 have body:∀KE:Ending→World→Prop,((Lx.next s a).2=0→∀w',Below w.heap.size w w'→KE (.returned (tokV (Lx.next s a).1)) w')→((Lx.next s a).2≠0→∀w',Below w.heap.size w w'→KE (.panicked [fltP (Lx.eM s a) (Lx.next s a).2]) w')→fG (rdP b) w KE:=by
  intro KE hret hpan;unfold fG;refine jY (Own.start w) fun b2 w1 ho=>?_;have hr1:∀{W:World} {L:List Ent},Own w W L→(orE b s a vl).is W:=fun ho=>Ent.below (e:=orE b s a vl) hr ho.done;have two:∀{W:World} {b3:Nat} {t2:Lx.Tok},Own w W [tokE b3 (Lx.next s a).1,tokE b2 t2]→dW (rdP b) (.pointer (some ⟨b2,0,none⟩)) (.pointer (some ⟨b3,0,none⟩)) (.int .i64 (Lx.next s a).2) W KE:=by
   intro W b3 t2 ho;unfold dW;refine quiet (q_eq ?_);refine q_do _ (fun _=>dT) (q_do _ (fun _=>aY for0) (q_at _ (fun _ hb=>NG (hr1 (ho.grow hb))) ?_));refine q_do _ (fun _=>dT) (q_do _ (fun _=>aY for1) (q_at _ (fun _ hb=>Qu (hr1 (ho.grow hb))) ?_));refine oP (.int .i64 (Lx.eM s a)) (fun W hb=>Ret.mono (Mo s a W (by omega)) fun v w' h=>⟨h.1,h.2▸hb⟩) ?_;intro w2 hb;have ho:=ho.grow hb;refine dS (fun h=>?_) fun h=>hpan (of_decide_eq_false h) _ ho.done;rw[tk_v ho 0 rfl];refine nI 1 ho rfl fun w3 ho=>?_;exact iW (bC (ho.agg 1 rfl DJ)) (hret (of_decide_eq_true h) _ ho.done)
  have ho:=ho.drew;refine⟨fun W=>(orE b s a vl).is W,hr1 ho,?_⟩;refine aR _ (fun _=>dT) (aR _ (fun _=>aY for0) (iB _ (fun W h=>NG h) ?_));refine aR _ (fun _=>dT) (aR _ (fun _=>aY for1) (iB _ (fun W h=>Qu h) ?_));refine⟨?_,?_⟩
  ·refine aS ho (R:=fun v=>v=tokR (Lx.next s a)) (zR s a _ hs) ?_;rintro _ w2 rfl ho;refine aR _ (fun _=>BN) (aR _ (fun _=>BE) ?_);refine jY ho fun b3 w3 ho=>⟨hr1 ho,?_⟩;refine nI 0 ho rfl fun w4 ho=>?_;exact two ho
  ·refine jY ho fun b3 w3 ho=>⟨hr1 ho,?_⟩;refine aS ho (R:=fun v=>v=tokR (Lx.next s a)) (zR s a _ hs) ?_;rintro _ w2 rfl ho;refine aR _ (fun _=>BN) (aR _ (fun _=>BE) ?_);refine nI 0 ho rfl fun w4 ho=>?_;exact two ho
 by_cases h:(Lx.next s a).2=0
 ·refine dV (R:=fun v w'=>v=tokV (Lx.next s a).1∧Below w.heap.size w w') (aO fun KE hKE=>nF (body KE (fun _ w' hb=>hKE _ _ ⟨rfl,hb⟩) fun hn=>absurd h hn)) ?_;rintro _ w' ⟨rfl,hb⟩;exact kr h w' (ho.grow hb)
 ·refine M7 (R:=fun c w'=>c=[fltP (Lx.eM s a) (Lx.next s a).2]∧Below w.heap.size w w') (Mc fun KE hKE=>nF (body KE (fun hz=>absurd hz h) fun _ w' hb=>hKE _ _ ⟨rfl,hb⟩)) ?_;rintro _ w' ⟨rfl,hb⟩;exact kp h w' (ho.grow hb)
end
end
section
open Eng Go.RowKit
namespace Eng
section
variable {S:Nat→Prop}{P:Program}{w w0:World}{L:List Ent}{PK:PKT}{K:VWP}
theorem O1 {f:Nat}{args:Array Value}{e e':Ent}{M:Mem}{ok:Prop}{R:Value→Mem→Prop}{c:List PanicEntry}(A:List Ent){B:List Ent}(ho:OwnS S w0 w (A++(e::.mem M::B)))(h:(Ent.two e (.mem M)).is w→Lent P f args e M w ok e' R c)
  (kr:∀v N w',ok→M.le N→R v N→OwnS S w0 w' (A++(e'::.mem N::B))→K v w') (kp:∀e2 w',¬ok→OwnS S w0 w' (A++(e2::.mem M::B))→PK c w'):CallX P f args w PK K:=by
 have ho:OwnS S w0 w (A++([e,.mem M]++B)):=ho;have ho:OwnS S w0 w (.two e (.mem M)::(A++B)):=OwnS.pair ho.front;refine c_rm ho 0 rfl (h (ho.at_ 0 rfl)) (fun v N w' hk hle hR ho=>kr v N w' hk hle hR ?_) fun e2 w' hk ho=>kp e2 w' hk ?_
 ·have ho:OwnS S w0 w' (.two e' (.mem N)::(A++B)):=ho;have ho:OwnS S w0 w' ([e',.mem N]++(A++B)):=ho.split;exact ho.front
 ·have ho:OwnS S w0 w' (.two e2 (.mem M)::(A++B)):=ho;have ho:OwnS S w0 w' ([e2,.mem M]++(A++B)):=ho.split;exact ho.front
end
end Eng
theorem Ko {a b c:Value}{w:World}:(mExt (.tuple #[a,b,c]) 2).run prog w=.ok (.value c) w:=by kernel_rfl
theorem Kc {a b c:Value}{w:World}:(mExt (.tuple #[a,b,c]) 0).run prog w=.ok (.value a) w:=by kernel_rfl
theorem Jx {a b c:Value}{w:World}:(mExt (.tuple #[a,b,c]) 1).run prog w=.ok (.value b) w:=by kernel_rfl
theorem Ml {P:Program}{W:World}{b:Bool}:(mUn .not (.bool b)).run P W=.ok (.value (.bool (!b))) W:=cK (by simp[Op.unary])
def ObOk (s:List UInt8)(a:Int):Prop:=(Ps.object s a).2.2=0∧Cs.bQ (Ps.object s a).1=false
def KR (s:List UInt8)(a:Int):Int:=if (Ps.object s a).2.2≠0 then (Ps.object s a).2.2 else 3
theorem Dn (b:Nat)(s:List UInt8)(a:Int)(vl:Value)(t:Lx.Tok)(M:Mem)(w:World)(hs:s.length≤1000000000)(hr:(Ent.two (orE b s a vl) (.mem M)).is w) :
  Lent prog 40 #[rdP b,tokV t] (orE b s a vl) M w (ObOk s a) (orE b s (Ps.object s a).2.1 vl) (fun v N=>OV N.A N.w v (Ps.object s a).1) [fltP t.a (KR s a)]:=by
 refine qD (fun K ho hret hpan=>wK ?_) hr;unfold gX;generalize (Ent.two (orE b s a vl) (.mem M)).blk=S0 at *;refine G1 t ho fun b3 w1 ho=>?_;refine bU ho fun b4 w2 ho=>?_;have hwt:(Ps.object s a).2.2=0→(Ps.object s a).1.wt≤10000000000:=fun h=>by
  have:=Ps.nW h;have:=Bd.gC h;have h0:0≤a:=by
   apply Classical.byContradiction;intro hn;unfold Ps.object at h;rw[if_pos (.inl (by omega))] at h;simp[Ps.bad] at h
  omega
 have zero:∀{W:World} {N:Mem} {b5:Nat} {xk xc:Value},OwnS S0 w W [obE b5 (Ps.object s a).1 xk xc,obE b4 ob0 nilS nilS,tokE b3 t,orE b s a vl,.mem N]→M.le N→OV N.A N.w (obV (Ps.object s a).1 xk xc) (Ps.object s a).1 →
   dL (rdP b) (.pointer (some ⟨b3,0,none⟩)) (.pointer (some ⟨b4,0,none⟩)) (.pointer (some ⟨b5,0,none⟩)) (.int .i64 (Ps.object s a).2.1) (.int .i64 (Ps.object s a).2.2) W K:=by
  intro W N b5 xk xc ho hle hv;unfold dL;have hko:=hv.oneK;have hco:=hv.oneC;simp only[rs,Ib,tk_a ho 2 rfl];refine dS (fun hz=>?_) fun hz=>?_
  rotate_left
  ·have hz:¬(Ps.object s a).2.2=0:=of_decide_eq_false hz;have:=hpan (fun h=>hz h.1) _ N W _ (ho.tail.tail.tail) hle;rw[KR,if_pos hz] at this;exact this
  have hz:(Ps.object s a).2.2=0:=of_decide_eq_true hz;refine quiet (q_at (obV (Ps.object s a).1 xk xc) (fun W hb=>bL ((ho.grow hb).agg 0 rfl eU)) ?_);refine oP (.bool (Cs.bQ (Ps.object s a).1)) (fun W2 hb=>EE (DC _ (Ps.object s a).1 _ W2 (Nat.le_refl _) (hwt hz) (OV.inw ((ho.grow hb).hasM 4 rfl) hv)) hb) ?_;refine q_do _ (fun _=>Ml) (q_do _ (fun _=>aY ft1) (q_at (.int .i64 t.a) (fun W hb=>aM F2 ((ho.grow hb).cell 2 rfl 1 rfl)) ?_));intro w4 hb;have ho:=ho.grow hb;refine dS (fun hf=>?_) fun hf=>?_
  rotate_left
  ·have hf:Cs.bQ (Ps.object s a).1=true:=by simpa using hf
   have:=hpan (fun h=>by rw[h.2] at hf;cases hf) _ N w4 _ (ho.tail.tail.tail) hle;rw[KR,if_neg (by simp[hz])] at this;exact this
  have hf:Cs.bQ (Ps.object s a).1=false:=by simpa using hf
  rw[Kd];refine MI 3 ho rfl fun w5 ho=>?_;have ho:OwnS S0 w w5 [obE b5 (Ps.object s a).1 xk xc,obE b4 ob0 nilS nilS,tokE b3 t,orE b s (Ps.object s a).2.1 vl,.mem N]:=ho;rw[ob_v ho 0 rfl];refine bA (o':=(Ps.object s a).1) 1 hko hco ho rfl fun w6 ho=>?_;have ho:OwnS S0 w w6 [obE b5 (Ps.object s a).1 xk xc,obE b4 (Ps.object s a).1 xk xc,tokE b3 t,orE b s (Ps.object s a).2.1 vl,.mem N]:=ho;exact iW (bC (ho.agg 1 rfl eU)) (hret ⟨hz,hf⟩ _ N w6 _ (ho.tail.tail.tail) hle hv)
 have ho:=ho.drew;refine⟨fun W=>(orE b s a vl).is W,ho.at_ 2 rfl,?_⟩;refine aR _ (fun _=>dT) (aR _ (fun _=>aY for0) (iB _ (fun W h=>NG h) ?_));refine aR _ (fun _=>dT) (aR _ (fun _=>aY for1) (iB _ (fun W h=>Qu h) ?_));refine⟨?_,?_⟩
 ·refine DP ho 3 rfl (Dy s a hs M _ (ho.hasM 3 rfl)) fun v N w4 hle hR ho=>?_;obtain⟨u,rfl,hu⟩:=hR;obtain⟨xk,xc,xcs,rfl,hx⟩:=hu.open;refine aR _ (fun _=>Kc) (aR _ (fun _=>Jx) (aR _ (fun _=>Ko) ?_));refine bU ho fun b5 w5 ho=>⟨ho.at_ 3 rfl,?_⟩;refine bA 0 hx.keys.one hx.kids.one ho rfl fun w6 ho=>?_;exact zero ho hle hx.ov
 ·refine bU ho fun b5 w5 ho=>⟨ho.at_ 3 rfl,?_⟩;refine DP ho 4 rfl (Dy s a hs M _ (ho.hasM 4 rfl)) fun v N w4 hle hR ho=>?_;obtain⟨u,rfl,hu⟩:=hR;obtain⟨xk,xc,xcs,rfl,hx⟩:=hu.open;refine aR _ (fun _=>Kc) (aR _ (fun _=>Jx) (aR _ (fun _=>Ko) ?_));refine bA 0 hx.keys.one hx.kids.one ho rfl fun w6 ho=>?_;exact zero ho hle hx.ov
theorem Ln (b:Nat)(s:List UInt8)(a:Int)(vl:Value)(x:Int)(w:World)(h0:0≤x)(hs:s.length≤1099511627776)(hr:(orE b s a vl).is w) :
  Ret prog 108 #[rdP b,.int .i64 x] w (fun v w'=>v=.bool (Cs.lE s x)∧w=w'):=by
 refine aO fun K hK=>zL ?_;unfold jL;have fin:∀{q:Bool},q=Cs.lE s x→K (.returned (.bool q)) w:=fun e=>hK _ _ ⟨by rw[e],rfl⟩;unfold Cs.lE at fin;rw[decide_eq_true h0,Bool.true_and] at fin;rw[Nq,Ha,or_s hr,bD Tryz.underlying9];simp only[rs];by_cases hx:x < (s.length:Int)
 ·have hi:x.toNat < s.length:=by omega
  simp only[decide_eq_true hx,rs,Ha,or_s hr];rw[s_ix (c:=s[x.toNat]) Tryz.underlying9 h0 (by simp[hi])];refine c_eq (rH s[x.toNat] w) ?_
  try simp only[rs]
  refine fin ?_;rw[List.getElem?_eq_getElem hi];rfl
 ·simp only[decide_eq_false hx,rs,g_un];refine fin ?_;rw[List.getElem?_eq_none (by omega)];rfl
end
section
open Eng Go.RowKit
abbrev orM (b:Nat)(s:List UInt8)(a:Int)(vl:Value)(M:Mem):Ent:=.two (orE b s a vl) (.mem M)
theorem Ug {S0:Nat→Prop}{w W:World}{b b4 b5 b9:Nat}{s:List UInt8}{a:Int}{vl:Value}{N:Mem}{al:List (List UInt8×Value)}{l:List Ps.Kv}{o:Ob}{K:Ending→World→Prop}
  (hkv:KvR N.A N.w al l) (hnd:(l.map (·.1)).Nodup) (hmade:Ps.Made o l) (hlen:l.length≤8191)
  (ho:OwnS S0 w W [obE b9 Ps.aZ nilS nilS,keyE nilS [],kidE nilS 0 [],obE b4 ob0 nilS nilS,.mapB b5 al,orM b s a vl N])
  (kend:∀(W':World) (N2:Mem) (L:List Ent) (v:Value),OwnS S0 w W' (orE b s a vl::.mem N2::L)→N.le N2→OV N2.A N2.w v o→K (.returned v) W') :
  DoX prog (uR 182 (.map (some b5))) W (pk K) fun t49 w=>LoopX [] w (fun vs2 w N2=>∀_:Sg,gY (.pointer (some ⟨b4,0,none⟩)) (.map (some b5)) (.pointer (some ⟨b9,0,none⟩)) t49 w N2 K):=by
 have hall:al.length=l.length:=by simpa using congrArg List.length hkv.fst
 obtain⟨es,clock,hf,ho⟩:=ho.U9 4 rfl;refine Mn 4 Tryz.underlying182 ho rfl fun it w1 ho=>?_;refine loop (fun vs w'=>∃(seen:Array Nat) (done:List (List UInt8×Value)) (vk:Value),vs=[]∧LF es seen done∧done.length≤al.length∧(∀p∈done,p∈al) ∧
   OwnS S0 w w' [.obj it (.mapIter (some b5) clock seen clock),obE b9 Ps.aZ vk nilS,keyE vk (jA done),kidE nilS 0 [],obE b4 ob0 nilS nilS,.obj b5 (.map es clock),orM b s a vl N]) (fun _ w=>al.length - itAt it w)
  ⟨#[],[],nilS,rfl,Mr es,by simp,by simp,ho⟩ ?_
 clear ho;rintro vs w2 ⟨seen,done,vk,rfl,hs,hdl,hda,ho⟩ _;simp only[gY];have hit:itAt it w2=seen.size:=I4 (ho.at_ 0 rfl);have hss:=JE hs;refine Pu 0 5 ho rfl rfl hf hs (fun hperm=>?_) fun p e w3 hpa _ he hek hev hs' hlt ho=>?_
 ·-- all have come
  simp only[ex,i_f];have ho:=ho.tail;have ho:OwnS S0 w w2 [obE b9 Ps.aZ vk nilS,keyE vk (jA done),kidE nilS 0 [],obE b4 ob0 nilS nilS,.obj b5 (.map es clock),orM b s a vl N]:=ho;have ho:=ho.Ut 4 rfl hf;have ho:OwnS S0 w w2 [obE b9 Ps.aZ vk nilS,keyE vk (jA done),kidE nilS 0 [],obE b4 ob0 nilS nilS,.mapB b5 al,orM b s a vl N]:=ho;rw[nT,dN ho 0 rfl];have hll:=rL done;refine dV (KB vk (jA done) w2 (ho.at_ 1 rfl) (by omega)) ?_;rintro _ w3 ⟨rfl,ht⟩;have ho:=ho.turn 1 rfl ht;have hsort:BQ (jA done)=o.keys:=Hk ((Hp hperm).trans (by rw[hkv.live];exact hmade.perm)) hmade.rise;rw[hsort] at ho;have ho:OwnS S0 w w3 [obE b9 Ps.aZ vk nilS,keyE vk o.keys,kidE nilS 0 [],obE b4 ob0 nilS nilS,.mapB b5 al,orM b s a vl N]:=ho;have hkl:o.keys.length≤8191:=by
   have h1:=hmade.perm.length_eq;have h2:=hkv.live (A:=N.A);have h3:=rL al;rw[←h1,←h2];omega
  rw[nT,dN ho 0 rfl,bF Tryz.underlying39 (ho.slU 1 rfl)];refine loop (fun vs w'=>∃(i:Nat) (cs:List Value) (vc:Value),vs=[.int .i64 i]∧i≤o.keys.length∧OVs N.A N.w cs (o.kids.take i) ∧
   OwnS S0 w w' [obE b9 Ps.aZ vk vc,keyE vk o.keys,kidE vc i cs,obE b4 ob0 nilS nilS,.mapB b5 al,orM b s a vl N]) (fun vs _=>o.keys.length - n0 vs) ⟨0,[],nilS,rfl,by omega,OVs.nil,ho⟩ ?_
  clear ho;rintro vs w4 ⟨i,cs,vc,rfl,hi,hov,ho⟩ _;simp only[oS,gd,rs];by_cases hlt:(i:Int) < (o.keys.length:Int)
  ·have hi':i < o.keys.length:=by omega
   simp only[decide_eq_true hlt,i_t];obtain⟨g,cap,_,ia,ld⟩:=key_row 1 ho rfl hi';refine aT (ia w4) |>.mpr (aT (ld w4 (ho.at_ 1 rfl)) |>.mpr ?_);rw[mH,cX ho 0 rfl];obtain⟨v,hv,hvo⟩:=hkv.look hnd (Ps.P6 hmade hi');rw[UA 4 ho rfl hv];obtain⟨xk,xc,xcs,rfl,hx⟩:=hvo.open;refine AF _ hx.keys.one hx.kids.one ho fun nb w5 ho=>?_;refine JG 3 ho rfl (ho.sl 0 rfl 6 1 1 rfl) (oV _ hx.keys.one hx.kids.one) (by omega) fun vc' w6 ho=>?_;have ho:=ho.tail;have hvc':=bJ (ho.at_ 2 rfl);rw[mH];refine bI 0 ho rfl (by kernel_rfl) hvc' (show 0+5 < 6 by omega) fun w7 ho=>?_;rw[aC (by omega) (by omega)];refine bG ⟨i+1,_,vc',rfl,by omega,?_,ho⟩ (by show o.keys.length - Int.toNat ((i:Int)+1) < o.keys.length - Int.toNat (i:Int);omega);have hkl2:i < o.kids.length:=by have:=hmade.len;omega
   rw[List.take_succ_eq_append_getElem hkl2];exact oJ hov (DQ hx.ov)
  ·have hi':i=o.keys.length:=by omega
   simp only[decide_eq_false hlt,i_f];subst hi';rw[hmade.len,List.take_length] at hov;have hvk:=bJ (ho.at_ 1 rfl);have hvc:=bJ (ho.at_ 2 rfl);rw[ob_v ho 0 rfl];refine bA (o':=Ps.aZ) 3 hvk hvc ho rfl fun w5 ho=>?_;refine iW (bC (ho.agg 3 rfl eU)) ?_;have ho:OwnS S0 w w5 ([obE b9 Ps.aZ vk vc,keyE vk o.keys,kidE vc o.keys.length cs,obE b4 Ps.aZ vk vc,.mapB b5 al]++([orM b s a vl N]++[])):=ho;have ho:=ho.front.split;have ho:OwnS S0 w w5 ([orE b s a vl,.mem N,obE b9 Ps.aZ vk vc]++([keyE vk o.keys,kidE vc o.keys.length cs]++[obE b4 Ps.aZ vk vc,.mapB b5 al])):=ho;have ho:=ho.front;obtain⟨N2,hle2,hrow2,ho⟩:=OwnS.eT (L:=[kidE vc o.keys.length cs,orE b s a vl,.mem N,obE b9 Ps.aZ vk vc,obE b4 Ps.aZ vk vc,.mapB b5 al]) ho 2 rfl;obtain⟨N3,hle3,hrow3,ho⟩:=OwnS.eT (L:=[orE b s a vl,.mem N2,obE b9 Ps.aZ vk vc,obE b4 Ps.aZ vk vc,.mapB b5 al]) ho 1 rfl;have hval:obV Ps.aZ vk vc=obV o vk vc:=by
    unfold obV obC;rw[hmade.k,hmade.n,hmade.g,hmade.s];rfl
   refine kend w5 N3 _ _ ho (hle2.trans hle3) ?_;show OV N3.A N3.w (obV Ps.aZ vk vc) o;rw[hval];rw[hmade.len] at hrow3;exact ObAt.ov ⟨hrow2.le hle3,hrow3,(hov.le hle2).le hle3⟩
 ·simp only[ex,i_t];have ho:OwnS S0 w w3 [.obj it (.mapIter (some b5) clock (seen.push e.born) clock),obE b9 Ps.aZ vk nilS,keyE vk (jA done),kidE nilS 0 [],obE b4 ob0 nilS nilS,.obj b5 (.map es clock),orM b s a vl N]:=ho;rw[OE 0 5 ho rfl rfl hf he,hek,hev];simp only[ex];obtain⟨x,hxl,hxo⟩:=hkv.mem hpa;have hkind:=Ie hxo;obtain⟨xk,xc,xcs,hpe,hx⟩:=hxo.open;obtain⟨pk1,pv⟩:=p;simp only at hpe hkind;subst hpe;refine bU ho fun b11 w4 ho=>?_;refine bA (o':=x) 0 hx.keys.one hx.kids.one ho rfl fun w5 ho=>?_;have ho:OwnS S0 w w5 [obE b11 x xk xc,.obj it (.mapIter (some b5) clock (seen.push e.born) clock),obE b9 Ps.aZ vk nilS,keyE vk (jA done),kidE nilS 0 [],obE b4 ob0 nilS nilS,.obj b5 (.map es clock),orM b s a vl N]:=ho;rw[oG,ob_k ho 0 rfl];simp only[rs];have hsn:=Hf done (pk1,obV x xk xc);have mea:∀{W:World} {L:List Ent},OwnS S0 w W L→L[0]?=some (.obj it (.mapIter (some b5) clock (seen.push e.born) clock))→al.length - itAt it W < al.length - itAt it w2:=by
   intro W L ho hi;rw[hit,I4 (ho.at_ 0 hi),Array.size_push];omega
  have hda':∀q∈done++[(pk1,obV x xk xc)],q∈al:=by
   intro q hq;rcases List.mem_append.1 hq with hq|hq
   ·exact hda q hq
   ·rw[List.mem_singleton] at hq;subst hq;exact hpa
  by_cases hk:x.k=0
  ·simp only[hk,ne_eq,not_true,decide_false,i_f];rw[if_neg (by rw[hkind,hk];simp),List.append_nil] at hsn;refine bG ⟨_,done++[(pk1,obV x xk xc)],vk,rfl,hs',by simp;omega,hda',?_⟩ (mea ho.tail rfl);rw[hsn];exact ho.tail
  ·simp only[hk,ne_eq,not_false_eq_true,decide_true,i_t];rw[if_pos (by rw[hkind];exact hk)] at hsn;rw[nT,dN ho 2 rfl];have hll:=rL done;show DoX prog (aP 39 1 #[(0,.string ⟨pk1.toArray⟩)]) w5 _ _;refine qJ pk1 ho fun nb w6 ho=>?_;refine F8 4 ho rfl (ho.sl 0 rfl 1 1 1 rfl) (by simp[Value.oneCell']) (by omega) fun vk' w7 ho=>?_;have ho:=ho.tail.tail;have ho:OwnS S0 w w7 [.obj it (.mapIter (some b5) clock (seen.push e.born) clock),obE b9 Ps.aZ vk nilS,keyE vk' (jA done++[pk1]),kidE nilS 0 [],obE b4 ob0 nilS nilS,.obj b5 (.map es clock),orM b s a vl N]:=by
    have e:bR (jA done++[pk1])=bR (jA done)++[.string ⟨pk1.toArray⟩]:=by rw[oH];rfl
    rw[keyE,List.length_append,List.length_singleton,e];exact ho
   have hvk':=bJ (ho.at_ 2 rfl);rw[nT];refine bI 1 ho rfl (by kernel_rfl) hvk' (show 0+4 < 6 by omega) fun w8 ho=>?_;refine bG ⟨_,done++[(pk1,obV x xk xc)],vk',rfl,hs',by simp;omega,hda',?_⟩ (mea ho rfl);rw[hsn];exact ho
theorem Ff {b:Nat}{s:List UInt8}{a:Int}{vl:Value}{w:World}(h:(orE b s a vl).is w):rdAt b w=a.toNat:=by
 unfold rdAt;rw[aU (T:=49) (cs:=orC s a vl) (i:=1) h rfl]
theorem NS (b:Nat)(s:List UInt8)(a:Int)(vl:Value)(M:Mem)(w:World)(h0:0≤a)(h1:a≤s.length)(hs:s.length≤1000000000)(hr:(Ent.two (orE b s a vl) (.mem M)).is w) :
  Lent prog 107 #[rdP b] (orE b s a vl) M w ((Cs.keys s (s.length+1) a Ps.aZ []).2.2.e=0) (orE b s (Cs.keys s (s.length+1) a Ps.aZ []).2.1 vl) (fun v N=>OV N.A N.w v (Cs.keys s (s.length+1) a Ps.aZ []).1)
   [fltP (Cs.keys s (s.length+1) a Ps.aZ []).2.2.at_ (Cs.keys s (s.length+1) a Ps.aZ []).2.2.e]:=by
 generalize hR:Cs.keys s (s.length+1) a Ps.aZ []=R;refine qD (fun K ho hret hpan=>Aa ?_) hr;unfold kT;refine bU ho fun b4 w1 ho=>?_;refine JM ho fun b5 w2 ho=>?_;generalize hS0:(Ent.two (orE b s a vl) (.mem M)).blk=S0 at *;have ho:OwnS S0 w w2 [.mapB b5 [],obE b4 ob0 nilS nilS,orE b s a vl,.mem M]:=ho;have fall:∀{W:World} {L:List Ent} {e2:Ent} {N:Mem} (f:Cs.Flt),OwnS S0 w W (L++([e2,.mem N]++[]))→M.le N→R=(Vl.ob0,0,f)→f.e≠0→pk K [fltP f.at_ f.e] W:=by
  intro W L e2 N f ho hle he h0;subst he;exact hpan h0 e2 N W _ ho.front hle
 refine loop (fun vs w'=>∃(a':Int) (m:Nat) (o:Ob) (l:List Ps.Kv) (al:List (List UInt8×Value)) (N:Mem),vs=[]∧0≤a'∧a'≤s.length∧(l.length:Int)≤a'∧l.length≤8191∧l.length+m=s.length+1 ∧
   Cs.keys s m a' o (l.map (·.1))=R∧M.le N∧KvR N.A N.w al l∧(l.map (·.1)).Nodup∧Ps.Made o l ∧
   OwnS S0 w w' [.mapB b5 al,obE b4 ob0 nilS nilS,orE b s a' vl,.mem N]) (fun _ w=>s.length - rdAt b w)
  ⟨a,s.length+1,Ps.aZ,[],[],M,rfl,h0,h1,by simpa using h0,by simp,by simp,hR,M.le_refl,trivial,List.nodup_nil,Ps.Un,ho⟩ ?_
 clear ho hR;rintro vs w4 ⟨a',m,o,l,al,N,rfl,ha0,ha1,hla,hmx,hml,hdict,hle,hkv,hnd,hmade,ho⟩ _;simp only[pF];obtain⟨m,rfl⟩:∃k,m=k+1:=⟨m - 1,by omega⟩;have hall:al.length=l.length:=by simpa using congrArg List.length hkv.fst
 have hat:rdAt b w4=a'.toNat:=Ff (ho.at_ 2 rfl);rw[Cs.keys] at hdict;have hbd:=@Lx.bV s a';have hge:=Lx.cO s a'.toNat;refine IK ho (ho.at_ 2 rfl) (by omega) (fun e1 w5 ho=>?_) fun e1 w5 ho=>?_
 rotate_left
 ·rw[if_pos e1] at hdict;exact fall (L:=[_,_]) _ ho hle hdict.symm e1
 rw[if_neg (by simp[e1])] at hdict;generalize Lx.next s a'=x at *
 refine jY ho fun b6 w6 ho=>?_;refine nI 0 ho rfl fun w7 ho=>?_;have ho:OwnS S0 w w7 [tokE b6 x.1,.mapB b5 al,obE b4 ob0 nilS nilS,orE b s a' vl,.mem N]:=ho;refine quiet (q_do _ (fun _=>aY ft0) (q_at (.int .i64 x.1.k) (fun W hb=>Ti (ho.grow hb) 0 rfl) (q_ne ?_)));refine q_do _ (fun _=>dT) (q_do _ (fun _=>aY for0) (q_at _ (fun W hb=>NG ((ho.grow hb).at_ 3 rfl)) (SW Tryz.underlying9 ?_)));intro w8 hb;have ho:=ho.grow hb;refine dS (fun e2=>?_) fun e2=>?_
 rotate_left
 ·have e2:x.1.k=0:=by simpa using e2
  rw[if_pos e2] at hdict;exact fall (L:=[_,_,_]) ⟨s.length,4⟩ ho hle hdict.symm (show (4:Int)≠0 by decide)
 have e2:x.1.k≠0:=of_decide_eq_true e2;rw[if_neg e2] at hdict;have hbd:=hbd e1 e2;rw[xH,tk_t ho 0 rfl];simp only[rs,Kd];refine MI 3 ho rfl fun w9 ho=>?_;have ho:OwnS S0 w w9 [tokE b6 x.1,.mapB b5 al,obE b4 ob0 nilS nilS,orE b s x.1.t vl,.mem N]:=ho;rw[cS,tk_k ho 0 rfl];simp only[rs];by_cases e3:x.1.k=5
 ·by_cases e3s:x.1.s=[73,68]
  ·rw[if_pos ⟨e3,e3s⟩] at hdict;simp only[decide_eq_true e3,rs,bK,tk_s ho 0 rfl,decide_eq_true e3s];have hb7:∀{PK:PKT} {K:VWP},DoX prog (aG 42 #[(0,(.int .i64 7))]) w9 PK K=K (obV Ps.aZ nilS nilS) w9:=aT (by kernel_rfl);rw[hb7];have ho:=(ho.nilU 42 6).nilU 9 1;refine bU ho fun b9 w10 ho=>?_;refine bA (o':=Ps.aZ) (vk':=nilS) (vc':=nilS) 0 rfl rfl ho rfl fun w11 ho=>?_;have ho:OwnS S0 w w11 ([obE b9 Ps.aZ nilS nilS,keyE nilS [],kidE nilS 0 [],tokE b6 x.1,.mapB b5 al,obE b4 ob0 nilS nilS]++([orE b s x.1.t vl,.mem N]++[])):=ho;have ho:OwnS S0 w w11 (orM b s x.1.t vl N::[obE b9 Ps.aZ nilS nilS,keyE nilS [],kidE nilS 0 [],tokE b6 x.1,.mapB b5 al,obE b4 ob0 nilS nilS]):=OwnS.pair ho.front;have ho:OwnS S0 w w11 ([orM b s x.1.t vl N,obE b9 Ps.aZ nilS nilS,keyE nilS [],kidE nilS 0 []]++([tokE b6 x.1]++[.mapB b5 al,obE b4 ob0 nilS nilS])):=ho;have ho:=ho.front.tail;have ho:OwnS S0 w w11 ([]++([orM b s x.1.t vl N]++([obE b9 Ps.aZ nilS nilS,keyE nilS [],kidE nilS 0 []]++([.mapB b5 al]++[obE b4 ob0 nilS nilS])))):=ho;have ho:OwnS S0 w w11 [obE b9 Ps.aZ nilS nilS,keyE nilS [],kidE nilS 0 [],obE b4 ob0 nilS nilS,.mapB b5 al,orM b s x.1.t vl N]:=by
    refine ho.perm ?_;have p1:([.mapB b5 al,obE b4 ob0 nilS nilS]:List Ent).Perm [obE b4 ob0 nilS nilS,.mapB b5 al]:=List.Perm.swap _ _ _;exact (List.perm_append_comm (l₁:=[orM b s x.1.t vl N]) (l₂:=[obE b9 Ps.aZ nilS nilS,keyE nilS [],kidE nilS 0 [],.mapB b5 al,obE b4 ob0 nilS nilS])).trans
     (((p1.append_left [obE b9 Ps.aZ nilS nilS,keyE nilS [],kidE nilS 0 []])).append_right [orM b s x.1.t vl N])
   refine Ug hkv hnd hmade hmx ho fun W N2 L v ho hle2 hv=>?_;subst hdict;exact hret rfl v N2 W L ho (hle.trans hle2) hv
  ·rw[if_neg (fun h=>e3s h.2),if_pos (by omega)] at hdict;simp only[decide_eq_true e3,rs,bK,tk_s ho 0 rfl,decide_eq_false e3s,cS,tk_k ho 0 rfl,Ib,tk_a ho 0 rfl];refine dS (fun h=>absurd (of_decide_eq_true h) (by omega)) fun h=>?_;exact fall (L:=[_,_,_]) ⟨x.1.a,3⟩ ho hle hdict.symm (show (3:Int)≠0 by decide)
 rw[if_neg (fun h=>e3 h.1)] at hdict;simp only[decide_eq_false e3,rs,g_un,cS,tk_k ho 0 rfl,Ib,tk_a ho 0 rfl];refine dS (fun e4=>?_) fun e4=>?_
 rotate_left
 ·rw[if_pos (of_decide_eq_false e4)] at hdict;exact fall (L:=[_,_,_]) ⟨x.1.a,3⟩ ho hle hdict.symm (show (3:Int)≠0 by decide)
 have e4:x.1.k=4:=of_decide_eq_true e4;rw[if_neg (by simp[e4])] at hdict;rw[bK,tk_s ho 0 rfl,Uy 1 ho rfl];simp only[ex];have hlook:∃o' vk vc,(kC al x.1.s).getD (obV ob0 nilS nilS)=obV o' vk vc∧vk.oneCell'=true∧vc.oneCell'=true:=by
  cases hl:kC al x.1.s with
 |none=>exact⟨ob0,nilS,nilS,rfl,rfl,rfl⟩
 |some v=>
   have hm:(x.1.s,v)∈al:=by
    unfold kC at hl;obtain⟨p,hp,hpv⟩:=Option.map_eq_some_iff.1 hl;have h1:=List.find?_some hp;have h2:=List.mem_of_find?_eq_some hp;simp only[decide_eq_true_eq] at h1;rw[←h1,←hpv];exact h2
   obtain⟨q,_,hq⟩:=hkv.mem hm;obtain⟨vk,vc,cs,he,ha⟩:=hq.open;exact⟨q,vk,vc,he,ha.keys.one,ha.kids.one⟩
 obtain⟨o',vk7,vc7,hlv,ok7,oc7⟩:=hlook;rw[hlv];refine bU ho fun b7 w10 ho=>?_;refine bA (o':=o') 0 ok7 oc7 ho rfl fun w11 ho=>?_;have ho:=ho.tail;have ho:OwnS S0 w w11 [tokE b6 x.1,.mapB b5 al,obE b4 ob0 nilS nilS,orE b s x.1.t vl,.mem N]:=ho;have hmet:(kC al x.1.s).isSome=decide (x.1.s∈l.map (·.1)):=by
  rw[←hkv.fst];cases hl:kC al x.1.s with
 |none=>rw[decide_eq_false (nV.1 hl)];rfl
 |some v=>
   have:¬x.1.s ∉ al.map (·.1):=fun h=>by rw[nV.2 h] at hl;cases hl
   rw[decide_eq_true (Classical.not_not.1 this)];rfl
 simp only[rs,hmet,Ib,tk_a ho 0 rfl];refine dS (fun e5=>?_) fun e5=>?_
 rotate_left
 ·have e5:x.1.s∈l.map (·.1):=by simpa using e5
  rw[if_pos e5] at hdict;exact fall (L:=[_,_,_]) ⟨x.1.a,9⟩ ho hle hdict.symm (show (9:Int)≠0 by decide)
 have e5:x.1.s ∉ l.map (·.1):=by simpa using e5
 rw[if_neg e5,List.length_map] at hdict;rw[lenM 1 ho rfl];simp only[rs,Ib,tk_a ho 0 rfl];refine dS (fun e6=>?_) fun e6=>?_
 rotate_left
 ·have e6:=of_decide_eq_false e6;rw[if_pos (by omega)] at hdict;exact fall (L:=[_,_,_]) ⟨x.1.a,6⟩ ho hle hdict.symm (show (6:Int)≠0 by decide)
 have e6:=of_decide_eq_true e6;rw[if_neg (by omega)] at hdict;have hbd2:=@Lx.bV s x.1.t;have hob:(Ps.object s x.1.t).2.2=0→x.1.t < (Ps.object s x.1.t).2.1∧(Ps.object s x.1.t).2.1≤s.length:=fun h=>Bd.gC h;have hwt:(Ps.object s x.1.t).2.2=0→(Ps.object s x.1.t).1.wt≤10000000000:=fun h=>by
  have:=Ps.nW h;have:=Bd.gC h;omega
 refine IK ho (ho.at_ 3 rfl) (by omega) (fun f1 w12 ho=>?_) fun f1 w12 ho=>?_
 rotate_left
 ·rw[if_pos f1] at hdict;exact fall (L:=[_,_,_]) _ ho hle hdict.symm f1
 rw[if_neg (by simp[f1])] at hdict;generalize Lx.next s x.1.t=y at *
 refine jY ho fun b7 w13 ho=>?_;refine nI 0 ho rfl fun w14 ho=>?_;have ho:OwnS S0 w w14 [tokE b7 y.1,tokE b6 x.1,.mapB b5 al,obE b4 ob0 nilS nilS,orE b s x.1.t vl,.mem N]:=ho;refine quiet (q_do _ (fun _=>aY ft0) (q_at (.int .i64 y.1.k) (fun W hb=>Ti (ho.grow hb) 0 rfl) (q_ne ?_)));refine q_do _ (fun _=>dT) (q_do _ (fun _=>aY for0) (q_at _ (fun W hb=>NG ((ho.grow hb).at_ 4 rfl)) (SW Tryz.underlying9 ?_)));intro w15 hb;have ho:=ho.grow hb;refine dS (fun f2=>?_) fun f2=>?_
 rotate_left
 ·have f2:y.1.k=0:=by simpa using f2
  rw[if_pos f2] at hdict;exact fall (L:=[_,_,_,_]) ⟨s.length,4⟩ ho hle hdict.symm (show (4:Int)≠0 by decide)
 have f2:y.1.k≠0:=of_decide_eq_true f2;rw[if_neg f2] at hdict;rw[tk_v ho 0 rfl];refine O1 [_,_,_,_] ho (fun h=>Dn b s x.1.t vl y.1 N w15 hs h) (fun v N2 w16 hok hle2 hv ho=>?_) fun e2 w16 hn ho=>?_
 rotate_left
 ·by_cases g1:(Ps.object s x.1.t).2.2≠0
  ·rw[if_pos g1] at hdict;have:=fall (L:=[_,_,_,_]) _ ho hle hdict.symm g1;unfold KR;rw[if_pos g1];exact this
  ·rw[if_neg g1] at hdict;have g2:Cs.bQ (Ps.object s x.1.t).1=true:=by
    cases hc:Cs.bQ (Ps.object s x.1.t).1 with
   |true=>rfl
   |false=>exact absurd ⟨Classical.not_not.1 g1,hc⟩ hn
   rw[if_pos g2] at hdict;have:=fall (L:=[_,_,_,_]) ⟨y.1.a,3⟩ ho hle hdict.symm (show (3:Int)≠0 by decide);unfold KR;rw[if_neg g1];exact this
 obtain⟨g1,g2⟩:=hok;rw[if_neg (by simp[g1]),if_neg (by simp[g2])] at hdict;have hob:=hob g1;have hwt:=hwt g1;generalize Ps.object s x.1.t=e at *;have ho:OwnS S0 w w16 [tokE b7 y.1,tokE b6 x.1,.mapB b5 al,obE b4 ob0 nilS nilS,orE b s e.2.1 vl,.mem N2]:=ho;obtain⟨xk,xc,xcs,rfl,hx⟩:=hv.open;refine bU ho fun b8 w17 ho=>?_;refine bA (o':=e.1) 0 hx.keys.one hx.kids.one ho rfl fun w18 ho=>?_;have ho:OwnS S0 w w18 [obE b8 e.1 xk xc,tokE b7 y.1,tokE b6 x.1,.mapB b5 al,obE b4 ob0 nilS nilS,orE b s e.2.1 vl,.mem N2]:=ho;refine quiet (q_at (obV e.1 xk xc) (fun W hb=>bL ((ho.grow hb).agg 0 rfl eU)) ?_);refine oP (.int .i64 (Cs.depth e.1:Nat)) (fun W2 hb=>EE (On _ e.1 _ W2 (Nat.le_refl _) hwt (OV.inw ((ho.grow hb).hasM 6 rfl) hv)) hb) (UN ?_);refine q_do _ (fun _=>aY ft1) (q_at (.int .i64 y.1.a) (fun W hb=>aM F2 ((ho.grow hb).cell 1 rfl 1 rfl)) ?_);intro w19 hb;have ho:=ho.grow hb;refine dS (fun g3=>?_) fun g3=>?_
 rotate_left
 ·have g3:=of_decide_eq_false g3;rw[if_pos (by omega)] at hdict;exact fall (L:=[_,_,_,_,_]) ⟨y.1.a,7⟩ ho (hle.trans hle2) hdict.symm (show (7:Int)≠0 by decide)
 have g3:=of_decide_eq_true g3;rw[if_neg (by omega)] at hdict;rw[bK,tk_s ho 2 rfl,ob_v ho 0 rfl];have hln:kC al x.1.s=none:=nV.2 (by rw[hkv.fst];exact e5);refine JX 3 Tryz.underlying182 Tryz.underlying9 ho rfl x.1.s _ hln fun w20 ho=>?_;have hm2:=Ps.Kh (v:=e.1) hmade e5;have hnd2:((l++[(x.1.s,e.1)]).map (·.1)).Nodup:=by
  rw[List.map_append,List.nodup_append];refine⟨hnd,by simp,fun p hp q hq=>?_⟩;simp at hq;subst hq;exact fun h=>e5 (h▸hp)
 have h5:a' < e.2.1:=by
  have:=hob.1;omega
 refine bG ⟨e.2.1,m,Ps.join o x.1.s e.1,l++[(x.1.s,e.1)],al++[(x.1.s,obV e.1 xk xc)],N2,rfl,by omega,hob.2,by simp;omega,by simp;omega,by simp;omega,?_,hle.trans hle2,(hkv.le hle2).snoc hx.ov,hnd2,hm2,ho.tail.tail.tail⟩ ?_
 ·rw[List.map_append];exact hdict
 ·have hat2:rdAt b w20=e.2.1.toNat:=Ff (ho.at_ 5 rfl);show s.length - rdAt b w20 < s.length - rdAt b w4;rw[hat,hat2];exact meas ha0 h5 hob.2
end
section
open Eng Go.RowKit
def OpOV (N:Mem)(v:Value)(o:Cop):Prop:=∃va acs,v=opV o va∧OpAt N.A N.w o va acs
theorem Px {W:World}(va:Value)(ha:va.oneCell'=true)(d:List UInt8):(aG 44 #[(0,.string ⟨#[66,73]⟩),(1,va),(2,.string ⟨d.toArray⟩)]).run prog W=.ok (.value (.agg #[.string ⟨#[66,73]⟩,va,.string ⟨d.toArray⟩])) W:=by
 cases va<;>first|(cases ha;done)|kernel_rfl
theorem Ly (b:Nat)(s:List UInt8)(a:Int)(vl:Value)(M:Mem)(w:World)(h0:0≤a)(h1:a≤s.length)(hs:s.length≤1000000000)(hr:(Ent.two (orE b s a vl) (.mem M)).is w) :
  Lent prog 64 #[rdP b] (orE b s a vl) M w ((Cs.image s a).2.2.e=0) (orE b s (Cs.image s a).2.1 vl) (fun v N=>OpOV N v (Cs.image s a).1) [fltP (Cs.image s a).2.2.at_ (Cs.image s a).2.2.e]:=by
 generalize hR:Cs.image s a=R;refine qD (fun K ho hret hpan=>yE ?_) hr;unfold jR;refine JD ho fun b2 w1 ho=>?_;generalize hS0:(Ent.two (orE b s a vl) (.mem M)).blk=S0 at *;have fall:∀{W:World} {L:List Ent} {e2:Ent} {N:Mem} (f:Cs.Flt),OwnS S0 w W (L++([e2,.mem N]++[]))→M.le N→R=(Cs.op0,0,f)→f.e≠0→pk K [fltP f.at_ f.e] W:=by
  intro W L e2 N f ho hle he h0;subst he;exact hpan h0 e2 N W _ ho.front hle
 have hkb:=fun h=>Cs.I3 (s:=s) (s.length+1) (a:=a) (o:=Ps.aZ) (met:=[]) h;unfold Cs.image at hR;simp only at hR;refine O1 [_] ho (fun h=>NS b s a vl M w1 h0 h1 hs h) (fun v N w2 hok hle hv ho=>?_) fun e2 w2 hn ho=>?_
 rotate_left
 ·rw[if_pos hn] at hR;exact fall (L:=[_]) _ ho M.le_refl hR.symm hn
 rw[if_neg (by simp[hok])] at hR;have hkb:=hkb hok;generalize Cs.keys s (s.length+1) a Ps.aZ []=d at *;have ho:OwnS S0 w w2 [opE b2 Cs.op0 nilS,orE b s d.2.1 vl,.mem N]:=ho;obtain⟨xk,xc,xcs,rfl,hx⟩:=hv.open;refine bU ho fun b3 w3 ho=>?_;refine bA (o':=d.1) 0 hx.keys.one hx.kids.one ho rfl fun w4 ho=>?_;have ho:OwnS S0 w w4 [obE b3 d.1 xk xc,opE b2 Cs.op0 nilS,orE b s d.2.1 vl,.mem N]:=ho;refine quiet (q_do _ (fun _=>dT) (q_do _ (fun _=>aY for1) (q_at _ (fun W hb=>Qu ((ho.grow hb).at_ 2 rfl)) ?_)));refine oP (.bool (Cs.lE s d.2.1)) (fun W hb=>Ret.mono (Ln b s d.2.1 vl d.2.1 W (by omega) (by omega) ((ho.grow hb).at_ 2 rfl)) fun v w' h=>⟨h.1,h.2▸hb⟩) ?_;refine q_do _ (fun _=>dT) (q_do _ (fun _=>aY for1) (q_at _ (fun W hb=>Qu ((ho.grow hb).at_ 2 rfl)) ?_));intro w5 hb;have ho:=ho.grow hb;refine dS (fun hw=>?_) fun hw=>?_
 rotate_left
 ·rw[if_pos hw] at hR;exact fall (L:=[_,_]) ⟨d.2.1,3⟩ ho hle hR.symm (show (3:Int)≠0 by decide)
 rw[if_neg (by simp[hw])] at hR;have ht:d.2.1 < s.length:=by
  unfold Cs.lE at hw;apply Classical.byContradiction;intro hn;rw[List.getElem?_eq_none (by omega)] at hw;simp at hw
 simp only[rs,Kd,or_a (ho.at_ 2 rfl)];rw[aC (by omega) (by omega)];generalize hF:Cs.BD s (s.length+1) (d.2.1.toNat+1)=F at hR;refine loop (fun vs w'=>∃(i m:Nat),vs=[.int .i64 (i:Int)]∧d.2.1+1≤i∧i≤s.length∧s.length+1≤i+m∧F=Cs.BD s m i∧OwnS S0 w w' [obE b3 d.1 xk xc,opE b2 Cs.op0 nilS,orE b s d.2.1 vl,.mem N]) (fun vs _=>s.length - n0 vs)
  ⟨d.2.1.toNat+1,s.length+1,by rw[show ((d.2.1.toNat+1:Nat):Int)=d.2.1+1 by omega],by omega,by omega,by omega,hF.symm,ho⟩ ?_
 clear ho;rintro vs w6 ⟨i,m,rfl,hi1,hi2,him,hf,ho⟩ _;simp only[nE,gd];rw[Nq,Ha,or_s (ho.at_ 2 rfl),bD Tryz.underlying9];simp only[rs];obtain⟨m,rfl⟩:∃k,m=k+1:=⟨m - 1,by omega⟩;rw[Cs.BD] at hf;by_cases hlt:(i:Int) < (s.length:Int)
 ·have hi':i < s.length:=by omega
  rw[if_neg (by omega)] at hf;simp only[decide_eq_true hlt,i_t,Ha,or_s (ho.at_ 2 rfl)];refine c_eq (HF s i w6 hi' (by omega)) ?_;cases he:Cs.ends s i with
 |false=>
   rw[he,if_neg (by simp)] at hf;simp only[i_f,rs];rw[aC (by omega) (by omega)];exact bG ⟨i+1,m,rfl,by omega,by omega,by omega,hf,ho⟩ (by simp[n0,RowKit.intOf];omega)
 |true=>
   rw[he,if_pos rfl] at hf;rw[hf] at hR;simp only at hR;simp only[i_t,rs];rw[aC (by omega) (by omega),Kd];refine MI 2 ho rfl fun w7 ho=>?_;have ho:OwnS S0 w w7 [obE b3 d.1 xk xc,opE b2 Cs.op0 nilS,orE b s ((i:Int)+3) vl,.mem N]:=ho;have ho:=ho.drew;refine⟨fun W=>(obE b3 d.1 xk xc).is W∧(orE b s ((i:Int)+3) vl).is W,⟨ho.at_ 0 rfl,ho.at_ 2 rfl⟩,?_⟩;refine iB (obV d.1 xk xc) (fun W h=>bL (AtV.agg eU (cs:=obC d.1 xk xc) rfl fun j u hj=>by rw[Nat.zero_add];exact aU (T:=42) h.1 hj)) ?_;refine aR _ (fun _=>dT) (aR _ (fun _=>aY for0) (iB _ (fun W h=>NG h.2) ?_));refine aR (.string ⟨((s.drop (d.2.1.toNat+1)).take (i - (d.2.1.toNat+1))).toArray⟩) (fun Wx=>?_) ?_
   ·have:=sW (P:=prog) (w:=Wx) (T:=9) (a:=s) (k:=.i64) (k':=.i64) (lo:=d.2.1+1) (hi:=(i:Int)) Tryz.underlying9 (by omega) (by omega) (by omega);rw[show (d.2.1+1).toNat=d.2.1.toNat+1 by omega,Int.toNat_natCast] at this;exact this
   refine AF d.1 hx.keys.one hx.kids.one ho fun nb w8 ho=>⟨⟨ho.at_ 1 rfl,ho.at_ 3 rfl⟩,?_⟩;refine aR _ (fun _=>Px _ rfl _) ?_;refine zF (o':=⟨Cs.biW,[d.1],(s.drop (d.2.1.toNat+1)).take (i - (d.2.1.toNat+1))⟩) (va':=.slice (some ⟨nb,0,none⟩) 1 1) 2 rfl ho rfl fun w9 ho=>?_;refine iW (bC (ho.agg 2 rfl KQ)) ?_;have ho:=ho.toU 6 1 1 (by rfl) (by omega) (by omega);obtain⟨N2,hle2,hrow,ho⟩:=OwnS.eT (L:=[obE b3 d.1 xk xc,opE b2 ⟨Cs.biW,[d.1],(s.drop (d.2.1.toNat+1)).take (i - (d.2.1.toNat+1))⟩ (.slice (some ⟨nb,0,none⟩) 1 1),orE b s ((i:Int)+3) vl,.mem N]) ho 3 rfl;subst hR;have ho:OwnS S0 w w9 ([obE b3 d.1 xk xc,opE b2 ⟨Cs.biW,[d.1],(s.drop (d.2.1.toNat+1)).take (i - (d.2.1.toNat+1))⟩ (.slice (some ⟨nb,0,none⟩) 1 1)]++([orE b s ((i:Int)+3) vl,.mem N2]++[])):=ho;exact hret rfl _ N2 w9 _ ho.front (hle.trans hle2) ⟨_,_,rfl,hrow,DQ (hx.ov.le hle2)⟩
 ·rw[if_pos (by omega)] at hf;rw[hf] at hR;simp only at hR;simp only[decide_eq_false hlt,i_f,rs,Ha,or_s (ho.at_ 2 rfl),bD Tryz.underlying9];refine M7 (CG _ _ w6) fun c w' ⟨hc,hw⟩=>?_;subst hc;subst hw;exact fall (L:=[_,_]) ⟨s.length,4⟩ ho hle hR.symm (show (4:Int)≠0 by decide)
theorem IU {W:World}{PK:PKT}{K:VWP}(n:List UInt8)(va:Value)(ha:va.oneCell'=true):DoX prog (aG 44 #[(0,.string ⟨n.toArray⟩),(1,va)]) W PK K=K (.agg #[.string ⟨n.toArray⟩,va,.string ⟨#[]⟩]) W:=by
 cases va<;>first|(cases ha;done)|exact aT (by kernel_rfl)
theorem GF (b:Nat)(s:List UInt8)(a:Int)(p:Option Addr)(n cap:Nat)(t:Lx.Tok)(args:List Ob)(va:Value)(cs:List Value)(M:Mem)(w:World)(h0:0≤t.t)(h1:t.t≤s.length)(hs:s.length≤1000000000)
  (hsl:SlA M.A M.w va 6 args.length cs) (hall:OVs M.A M.w cs args) (hr:(Ent.two (orE b s a (.slice p n cap)) (.mem M)).is w) :
  Lent prog 39 #[rdP b,tokV t,va] (orE b s a (.slice p n cap)) M w ((Cs.operator s t n args).2.2.e=0) (orE b s (Cs.operator s t n args).2.1 (.slice p n cap)) (fun v N=>OpOV N v (Cs.operator s t n args).1) [fltP (Cs.operator s t n args).2.2.at_ (Cs.operator s t n args).2.2.e]:=by
 generalize hR:Cs.operator s t n args=R;refine qD (fun K ho hret hpan=>rQ ?_) hr;unfold fF;refine G1 t ho fun b4 w1 ho=>?_;refine JD ho fun b6 w2 ho=>?_;generalize hS0:(Ent.two (orE b s a (.slice p n cap)) (.mem M)).blk=S0 at *;have fall:∀{W:World} {L:List Ent} {e2:Ent} {N:Mem} (f:Cs.Flt),OwnS S0 w W (L++([e2,.mem N]++[]))→M.le N→R=(Cs.op0,0,f)→f.e≠0→pk K [fltP f.at_ f.e] W:=by
  intro W L e2 N f ho hle he h0;subst he;exact hpan h0 e2 N W _ ho.front hle
 unfold Cs.operator at hR;have ho:OwnS S0 w w2 [opE b6 Cs.op0 nilS,tokE b4 t,orE b s a (.slice p n cap),.mem M]:=ho;refine quiet (q_do _ (fun _=>dT) (q_do _ (fun _=>aY for2) (q_at (.slice p n cap) (fun W hb=>aM T3 (aU (T:=49) (cs:=orC s a (.slice p n cap)) (i:=2) ((ho.grow hb).at_ 2 rfl) rfl)) ?_)));refine q_do _ (fun _=>N9 Tryz.underlying23) (UN ?_);refine q_do _ (fun _=>aY ft1) (q_at (.int .i64 t.a) (fun W hb=>aM F2 ((ho.grow hb).cell 1 rfl 1 rfl)) ?_);intro w3 hb;have ho:=ho.grow hb;refine dS (fun hn=>?_) fun hn=>?_
 rotate_left
 ·rw[if_pos (by have:=of_decide_eq_false hn;omega)] at hR;exact fall (L:=[_,_]) ⟨t.a,6⟩ ho M.le_refl hR.symm (show (6:Int)≠0 by decide)
 rw[if_neg (by have:=of_decide_eq_true hn;omega)] at hR;rw[xH,tk_t ho 1 rfl];simp only[rs,Kd];refine MI 2 ho rfl fun w4 ho=>?_;have ho:OwnS S0 w w4 [opE b6 Cs.op0 nilS,tokE b4 t,orE b s t.t (.slice p n cap),.mem M]:=ho;refine join fun J hJ=>?_;rw[bK,tk_s ho 1 rfl];simp only[rs];by_cases hb:t.s=[66,73]
 ·rw[if_pos (show t.s=Cs.biW from hb)] at hR;simp only[decide_eq_true hb,i_t];rw[bF Tryz.underlying40 (hsl.now (ho.hasM 3 rfl))];simp only[rs,Ib,tk_a ho 1 rfl];refine dS (fun hl=>?_) fun hl=>?_
  rotate_left
  ·rw[if_pos (by intro e;rw[e] at hl;simp at hl)] at hR;exact fall (L:=[_,_]) ⟨t.a,3⟩ ho M.le_refl hR.symm (show (3:Int)≠0 by decide)
  have hl:args=[]:=by
   have:=of_decide_eq_true hl;exact List.length_eq_zero_iff.1 (by omega)
  rw[if_neg (by simp[hl])] at hR;refine O1 [_,_] ho (fun h=>Ly b s t.t _ M w4 h0 h1 hs h) (fun v N w5 hok hle hv ho=>?_) fun e2 w5 hn ho=>?_
  rotate_left
  ·subst hR;exact hpan hn e2 M w5 _ (OwnS.front (A:=[_,_]) (B:=[_,_]) (C:=[]) ho) M.le_refl
  obtain⟨va',acs,rfl,hx⟩:=hv;have ho:OwnS S0 w w5 [opE b6 Cs.op0 nilS,tokE b4 t,orE b s (Cs.image s t.t).2.1 (.slice p n cap),.mem N]:=ho;refine zF (o':=(Cs.image s t.t).1) 0 hx.one ho rfl fun w6 ho=>?_;refine iW (bC (ho.agg 0 rfl KQ)) ?_;subst hR;exact hret hok _ N w6 _ (OwnS.front (A:=[_,_]) (B:=[_,_]) (C:=[]) ho) hle ⟨va',acs,rfl,hx⟩
 ·rw[if_neg (show ¬t.s=Cs.biW from hb)] at hR;simp only[decide_eq_false hb,i_f];refine join fun J3 hJ3=>?_;have bad:t.s=Cs.idW∨t.s=Cs.eiW∨t.s=Cs.rW→J3 [.bool true] w4:=by
   intro h;rw[if_pos h] at hR;refine hJ3 _ _ fun _=>?_;simp only[dZ,gd,i_t,Ib,tk_a ho 1 rfl];refine M7 (CG _ _ w4) fun c w' ⟨hc,hw⟩=>?_;subst hc;subst hw;exact fall (L:=[_,_]) ⟨t.a,3⟩ ho M.le_refl hR.symm (show (3:Int)≠0 by decide)
  by_cases g1:t.s=[73,68]
  ·simp only[decide_eq_true g1,i_t];exact bad (.inl g1)
  simp only[decide_eq_false g1,i_f];by_cases g2:t.s=[69,73]
  ·simp only[decide_eq_true g2,i_t];exact bad (.inr (.inl g2))
  simp only[decide_eq_false g2,i_f];by_cases g3:t.s=[82]
  ·simp only[decide_eq_true g3];exact bad (.inr (.inr g3))
  simp only[decide_eq_false g3];refine hJ3 _ _ fun _=>?_;simp only[dZ,gd,i_f];refine hJ _ _ fun _=>?_;unfold jZ;rw[if_neg (by
   rintro (h|h|h)
   ·exact g1 h
   ·exact g2 h
   ·exact g3 h)] at hR
  rw[bK,tk_s ho 1 rfl,IU _ _ hsl.one];refine zF (o':=⟨t.s,args,[]⟩) (va':=va) 0 hsl.one ho rfl fun w6 ho=>?_;refine iW (bC (ho.agg 0 rfl KQ)) ?_;subst hR;exact hret rfl _ M w6 _ (OwnS.front (A:=[_,_]) (B:=[_,_]) (C:=[]) ho) M.le_refl ⟨va,cs,rfl,hsl,hall⟩
end
end Go.Proofs.YtoofficgclghoaaGreatDoor
