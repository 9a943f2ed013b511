/- Texts that go together: SMake6 PsG PsH PsI PsJ Plain06F EngAA PsK PsL PsM Plain18 STable TbA Plain08 Plain18B Plain18C Plain08B Plain08D Plain08E Plain08F Plain08G Plain08H SBody EngAG SBodyR BoA BoB SRef08 BoR SStrm SDrop5 BoC BoD. -/
import Derived.Test.YtkejpieaafeblaaGreatDoorRows
import Derived.Maps.RangeRun
import Derived.Test.YtkejpieaafeblaaGreatDoorMfgajbapg
import Derived.Test.YtkejpieaafeblaaGreatDoorMjedaldak
import Derived.Test.YtkejpieaafeblaaGreatDoorMchjklpnl
import Derived.Test.YtkejpieaafeblaaGreatDoorMfpdmcfll
import Derived.Test.YtkejpieaafeblaaGreatDoorMlllolngj
import Derived.Test.YtkejpieaafeblaaGreatDoorMdjkagiip
set_option linter.defProp false
set_option linter.unusedSimpArgs false
set_option linter.unusedVariables false
set_option maxRecDepth 20000
open Go.Proofs.Tryz (prog)
namespace Go.Proofs.YtkejpieaafeblaaGreatDoor
section
open Eng
def Fj(t0 w)(K:KT):=
 dx (aM 25) w K fun t2 w=>dx (aJ 25 #[(0,(iN 3)),(1,t0)]) w K fun t4 w=>dx (aC 25 t2 t4) w K fun _ w=>RetX prog [.cell t2 25] w K
theorem HH{t0 w K}(h:Fj t0 w K):Calls prog 207 #[t0] w K:=cw Tryz.func207 rfl rfl (by kernel_rfl) h
def G8(t0 t1 w)(K:KT):=
 dx (aM 25) w K fun t4 w=>dx (aJ 25 #[(0,(iN 8)),(1,t0),(2,t1)]) w K fun t7 w=>dx (aC 25 t4 t7) w K fun _ w=>RetX prog [.cell t4 25] w K
theorem I6{t0 t1 w K}(h:G8 t0 t1 w K):Calls prog 248 #[t0,t1] w K:=cw Tryz.func248 rfl rfl (by kernel_rfl) h
def CH(t2 t3 w)(K:KT):=
 dx (aA 25 t3) w K fun t7 w=>dx (aC 25 t2 t7) w K fun _ w=>RetX prog [.cell t2 25] w K
def AA(t0 w)(K:KT):=
 dx (aM 25) w K fun t2 w=>dx (aJ 25 #[(0,(iN 1))]) w K fun t4 w=>dx (aM 25) w K fun t3 w=>dx (aC 25 t3 t4) w K fun _ w=>JoinX (fun J1=>IfX t0 (dx (mFA 25 t3 1) w K fun t6 w=>dx (aC 2 t6 (iN 1)) w K fun _ w=>J1 [] w) (J1 [] w)) (fun vs1 w=>∀_:Sg,CH t2 t3 w K)
theorem HT (t0:Value)(w:World)(K:Ending→World→Prop):wpX prog 8 [(4,[])] [] none (aY Tryz.f210) (topQ prog [.cell 2 25] K) (aR [t0]) [] w=AA t0 w K:=by kernel_rfl
theorem Ia {t0:Value}{w:World}{K:Ending→World→Prop}(h:AA t0 w K):Calls prog 210 #[t0] w K:=
 aE Tryz.func210 rfl rfl rfl rfl (Eq.mpr (HT t0 w K) h)
end
section
open Eng Go.RowKit
theorem Q8 (n:Int)(w:World):Ret prog 207 #[.int .i64 n] w (obR (ob1 3 n 0 []) nilS nilS w):=by
 refine aO fun K hK=>HH ?_;unfold Fj iN dx;refine bN (Own.start w) fun b w1 ho=>?_;have hb:∀{PK:PKT} {K:VWP},DoX prog (aJ 25 #[(0,(.int .i64 3)),(1,.int .i64 n)]) w1 PK K=K (obV (ob1 3 n 0 []) nilS nilS) w1:=aU (by kernel_rfl);rw[hb];refine aQ 0 rfl rfl ho rfl fun w2 ho=>?_;exact uP ho (hK _ _ ⟨rfl,ho.done⟩)
theorem Sp (n g:Int)(w:World):Ret prog 248 #[.int .i64 n,.int .i64 g] w (obR (ob1 8 n g []) nilS nilS w):=by
 refine aO fun K hK=>I6 ?_;unfold G8 iN dx;refine bN (Own.start w) fun b w1 ho=>?_;have hb:∀{PK:PKT} {K:VWP},DoX prog (aJ 25 #[(0,(.int .i64 8)),(1,.int .i64 n),(2,.int .i64 g)]) w1 PK K=K (obV (ob1 8 n g []) nilS nilS) w1:=aU (by kernel_rfl);rw[hb];refine aQ 0 rfl rfl ho rfl fun w2 ho=>?_;exact uP ho (hK _ _ ⟨rfl,ho.done⟩)
theorem Q6 (b:Bool)(w:World):Ret prog 210 #[.bool b] w (obR (ob1 1 (if b then 1 else 0) 0 []) nilS nilS w):=by
 refine aO fun K hK=>Ia ?_;unfold AA iN dx;refine bN (Own.start w) fun b2 w1 ho=>?_;have hb:∀{PK:PKT} {K:VWP},DoX prog (aJ 25 #[(0,(.int .i64 1))]) w1 PK K=K (obV (ob1 1 0 0 []) nilS nilS) w1:=aU (by kernel_rfl);rw[hb];refine bN ho fun b3 w2 ho=>?_;refine aQ (o':=ob1 1 0 0 []) (vk':=nilS) (vc':=nilS) 0 rfl rfl ho rfl fun w3 ho=>?_;refine join fun J hJ=>?_;have fin:∀{W:World} {n:Int},Own w W [obE b3 (ob1 1 n 0 []) nilS nilS,obE b2 ob0 nilS nilS]→n=(if b then 1 else 0)→J [] W:=by
  intro W n ho hn;refine hJ _ _ fun _=>?_;unfold CH dx;rw[ob_v ho 0 rfl];refine aQ 1 rfl rfl ho rfl fun w4 ho=>?_;exact eG (aX (ho.agg 1 rfl dM)) (hK _ _ ⟨by rw[hn];rfl,ho.done⟩)
 cases b with
|true=>
  rw[i_t,vI];exact aW 0 ho rfl (by kernel_rfl) rfl (show 0+1 < 6 by omega) fun w4 ho=>fin (n:=1) ho rfl
|false=>
  rw[i_f];exact fin (n:=0) ho rfl
def pend (s:List UInt8)(t:Lx.Tok)(a:Int):Int:=match Ps.ref s t with|some p=>p.2|none=>a
def refO (s:List UInt8)(t:Lx.Tok):Ob:=match Ps.ref s t with|some p=>ob1 8 t.n p.1 []|none=>ob1 0 0 0 []
theorem T4 (b:Nat)(s:List UInt8)(t:Lx.Tok)(a:Int)(M:Mem)(w:World)(hs:s.length≤1099511627776)(hr:(rmE b s a M).is w) :
  Lent prog 206 #[rdP b,tokV t] (rdE b s a) M w True (rdE b s (pend s t a)) (fun v N=>v=.tuple #[obV (refO s t) nilS nilS,.bool (Ps.ref s t).isSome]) []:=by
 refine Be (fun K ho hret hpan=>Bg ?_) hr;clear hpan;have hret:=hret trivial;unfold sQ iN dx gfx cfx cx;refine La t ho fun b3 w1 ho=>?_;refine bN ho fun b4 w2 ho=>?_;have no:∀{W:World} {L:List Ent} {o:Ob} (i:Nat),OwnS (rmE b s a M).blk w W (L++([rdE b s a,.mem M]++[]))→L[i]?=some (obE b4 o nilS nilS)→Ps.ref s t=none →
   DoX prog (aJ 25 #[]) W (pk K) (fun t W=>DoX prog (aC 25 (.pointer (some ⟨b4,0,none⟩)) t) W (pk K) fun _ W=>RetX prog [.cell (.pointer (some ⟨b4,0,none⟩)) 25,.val (.bool false)] W K):=by
  intro W L o i ho hi hn;rw[D3];have hil:i < L.length:=(Yy.1 hi).1;refine aQ i rfl rfl ho (by rw[Z9 hil];exact hi) fun w' ho=>?_;rw[List.set_append_left _ _ hil] at ho;refine yF (aX (ho.agg (cs:=obC Vl.ob0 nilS nilS) i (by rw[Z9 (by simp;omega)];simp[hil];rfl) dM)) eF ?_;refine hret _ M w' (L.set i (obE b4 Vl.ob0 nilS nilS)++[]) ?_ M.le_refl ?_
  ·rw[pend,hn];exact ho.front
  ·rw[refO,hn];rfl
 have hpend:=(rfl:pend s t a=pend s t a);unfold pend at hpend;have hrefO:refO s t=_:=rfl;by_cases h1:t.n < 1∨8191 < t.n
 ·have hr:Ps.ref s t=none:=by rw[Ps.ref,Yh h1]
  by_cases h2:t.n < 1
  ·simp only[rs,oQ,tk_n ho 1 rfl,Yk h2,g_un];exact no (L:=[_,_]) 0 ho rfl hr
  ·have h3:8191 < t.n:=by omega
   simp only[rs,oQ,tk_n ho 1 rfl,Yl h2,Yk h3,g_un];exact no (L:=[_,_]) 0 ho rfl hr
 have h2:¬t.n < 1:=by omega
 have h3:¬8191 < t.n:=by omega
 simp only[rs,oQ,Hw,tk_n ho 1 rfl,tk_t ho 1 rfl,Yl h2,Yl h3,g_un];refine aP ho (R:=fun v=>v=.tuple #[tokV (Lx.next s t.t).1,.bool (decide ((Lx.next s t.t).2=0))]) (Oi b s a t.t w2 hs (ho.at_ 2 rfl)) ?_;rintro _ w3 rfl ho;simp only[ex];refine gJ ho fun b6 w4 ho=>?_;refine jS 0 ho rfl fun w5 ho=>?_;have ho:OwnS (rmE b s a M).blk w w5 [tokE b6 (Lx.next s t.t).1,obE b4 ob0 nilS nilS,tokE b3 t,rdE b s a,.mem M]:=ho;by_cases h4:(Lx.next s t.t).2≠0∨(Lx.next s t.t).1.k≠1∨(Lx.next s t.t).1.n < 0∨65535 < (Lx.next s t.t).1.n
 ·have hr:Ps.ref s t=none:=by rw[Ps.ref,Yg h1,Yh h4]
  have no':=no (W:=w5) (L:=[_,_,_]) 1 ho rfl hr;by_cases q1:(Lx.next s t.t).2=0
  ·by_cases q2:(Lx.next s t.t).1.k=1
   ·by_cases q3:(Lx.next s t.t).1.n < 0
    ·simp only[rs,cO,oQ,tk_k ho 0 rfl,tk_n ho 0 rfl,q1,q2,q3,ne_eq,not_true,Yj,Yi,g_un,YE];exact no'
    ·have q4:65535 < (Lx.next s t.t).1.n:=by
      rcases h4 with h|h|h|h
      ·exact absurd q1 h
      ·exact absurd q2 h
      ·exact absurd h q3
      ·exact h
     simp only[rs,cO,oQ,tk_k ho 0 rfl,tk_n ho 0 rfl,q1,q2,q3,q4,ne_eq,not_true,Yj,Yi,g_un,YE];exact no'
   ·simp only[rs,cO,oQ,tk_k ho 0 rfl,tk_n ho 0 rfl,q1,q2,ne_eq,not_true,Yz,Yj,Yi,g_un,YE];exact no'
  ·simp only[rs,cO,oQ,tk_k ho 0 rfl,tk_n ho 0 rfl,q1,ne_eq,not_true,Yz,Yj,Yi,g_un,YJ];exact no'
 have q:(Lx.next s t.t).2=0∧(Lx.next s t.t).1.k=1∧¬(Lx.next s t.t).1.n < 0∧¬65535 < (Lx.next s t.t).1.n:=by
  refine⟨?_,?_,?_,?_⟩
  ·exact YA.1 fun h=>h4 (.inl h)
  ·exact YA.1 fun h=>h4 (.inr (.inl h))
  ·exact fun h=>h4 (.inr (.inr (.inl h)))
  ·exact fun h=>h4 (.inr (.inr (.inr h)))
 obtain⟨q1,q2,q3,q4⟩:=q;simp only[rs,cO,Hw,oQ,tk_k ho 0 rfl,tk_n ho 0 rfl,tk_t ho 0 rfl,q1,q2,q3,q4,ne_eq,not_true,Yj,Yi,g_un,YE];refine aP ho (R:=fun v=>v=.tuple #[tokV (Lx.next s (Lx.next s t.t).1.t).1,.bool (decide ((Lx.next s (Lx.next s t.t).1.t).2=0))]) (Oi b s a (Lx.next s t.t).1.t w5 hs (ho.at_ 3 rfl)) ?_;rintro _ w6 rfl ho;simp only[ex];refine gJ ho fun b8 w7 ho=>?_;refine jS 0 ho rfl fun w8 ho=>?_;have hr:Ps.ref s t=if (Lx.next s (Lx.next s t.t).1.t).2=0∧(Lx.next s (Lx.next s t.t).1.t).1.k=5∧(Lx.next s (Lx.next s t.t).1.t).1.s=[82] then some ((Lx.next s t.t).1.n,(Lx.next s (Lx.next s t.t).1.t).1.t) else none:=by
  rw[Ps.ref,Yg h1,Yg h4]
 generalize Lx.next s (Lx.next s t.t).1.t=x at *
 have ho:OwnS (rmE b s a M).blk w w8 [tokE b8 x.1,tokE b6 (Lx.next s t.t).1,obE b4 ob0 nilS nilS,tokE b3 t,rdE b s a,.mem M]:=ho;by_cases e1:x.2=0
 case neg=>
  simp only[e1,Yi,rs,g_un,YJ];exact no (L:=[_,_,_,_]) 2 ho rfl (by rw[hr,Yg (fun h=>e1 h.1)])
 simp only[e1,Yj,rs,g_un,YE,tk_v ho 0 rfl];refine aP ho (R:=fun v=>v=.bool (decide (x.1.k=5)&&decide (x.1.s=[82]))) (Hh x.1 5 [82] w8) ?_;rintro _ w9 rfl ho;cases e2:(decide (x.1.k=5)&&decide (x.1.s=[82])) with
|false=>
  simp only[rs,YJ];have hnr:¬(x.2=0∧x.1.k=5∧x.1.s=[82]):=fun h=>by
   rw[Yk h.2.1,Yk h.2.2] at e2;exact absurd e2 (by decide)
  exact no (L:=[_,_,_,_]) 2 ho rfl (by rw[hr,Yg hnr])
|true=>
  simp only[Ys,Yx] at e2;rw[Yh ⟨e1,e2.1,e2.2⟩] at hr;simp only[rs,YE,Hw,tk_t ho 0 rfl,TX,Wa];refine UC 4 ho rfl fun w10 ho=>?_;have ho:OwnS (rmE b s a M).blk w w10 [tokE b8 x.1,tokE b6 (Lx.next s t.t).1,obE b4 ob0 nilS nilS,tokE b3 t,rdE b s x.1.t,.mem M]:=ho;rw[tk_n ho 3 rfl,tk_n ho 1 rfl];refine aP ho (R:=fun v=>v=obV (ob1 8 t.n (Lx.next s t.t).1.n []) nilS nilS) (Sp t.n (Lx.next s t.t).1.n w10) ?_;rintro _ w11 rfl ho;refine aQ 2 rfl rfl ho rfl fun w12 ho=>?_;refine yF (aX (ho.agg 2 rfl dM)) eF ?_;have ho:OwnS (rmE b s a M).blk w w12 ([tokE b8 x.1,tokE b6 (Lx.next s t.t).1,obE b4 (ob1 8 t.n (Lx.next s t.t).1.n []) nilS nilS,tokE b3 t]++([rdE b s x.1.t,.mem M]++[])):=ho;have hf:=ho.front;rw[←show pend s t a=x.1.t by rw[pend,hr]] at hf;exact hret _ M w12 _ hf M.le_refl (by rw[refO,hr];rfl)
def PObj (s:List UInt8)(n:Nat):Prop:=∀(b:Nat) (a:Int) (M:Mem) (w:World),Has s a→(rmE b s (Lx.next s a).1.t M).is w →
 Lent prog 158 #[rdP b,tokV (Lx.next s a).1,.int .i64 (24 - (n:Int))] (rdE b s (Lx.next s a).1.t) M w ((Ps.obj s n a).2.2=0) (rdE b s (Ps.obj s n a).2.1) (fun v N=>OV N.A N.w v (Ps.obj s n a).1) [sZ (Ps.obj s n a).2.2]
def PArr (s:List UInt8)(n:Nat):Prop:=∀(b:Nat) (a:Int) (M:Mem) (w:World),0≤a→a≤s.length→(rmE b s a M).is w →
 Lent prog 211 #[rdP b,.int .i64 (24 - (n:Int))] (rdE b s a) M w ((Ps.arr s (decide (n≠0)) (Ps.obj s n) (s.length+1) a []).2.2=0) (rdE b s (Ps.arr s (decide (n≠0)) (Ps.obj s n) (s.length+1) a []).2.1) (fun v N=>OV N.A N.w v (Ps.arr s (decide (n≠0)) (Ps.obj s n) (s.length+1) a []).1) [sZ (Ps.arr s (decide (n≠0)) (Ps.obj s n) (s.length+1) a []).2.2]
def WK (s:List UInt8)(n:Nat):Prop:=∀(b:Nat) (a:Int) (M:Mem) (w:World),0≤a→a≤s.length→(rmE b s a M).is w →
 Lent prog 212 #[rdP b,.int .i64 (24 - (n:Int))] (rdE b s a) M w ((Ps.dict s (Ps.obj s n) (s.length+1) a Ps.dE []).2.2=0) (rdE b s (Ps.dict s (Ps.obj s n) (s.length+1) a Ps.dE []).2.1) (fun v N=>OV N.A N.w v (Ps.dict s (Ps.obj s n) (s.length+1) a Ps.dE []).1) [sZ (Ps.dict s (Ps.obj s n) (s.length+1) a Ps.dE []).2.2]
end
section
open Eng Go.RowKit
theorem HY {s:List UInt8}{n:Nat}{a:Int}(h:¬Has s a):Ps.obj s n a=Ps.bad (tR s a):=by
 unfold Has at h;unfold tR;cases n
 all_goals
  rw[Ps.obj];by_cases e1:(Lx.next s a).2=0
  ·have e2:(Lx.next s a).1.k=0:=YA.1 fun h2=>h ⟨e1,h2⟩;rw[Yg (by rw[e1];simp),Yh e2,Yg (by rw[e1];simp)]
  ·rw[Yh e1,Yh e1]
theorem qO {s:List UInt8}{a:Int}:tR s a≠0:=by
 unfold tR;split
 ·assumption
 ·decide
theorem TR (s:List UInt8)(hs:s.length≤1000000000)(harr:∀n,n≤23→PObj s n→PArr s n)(hdict:∀n,n≤23→PObj s n→WK s n):∀n:Nat,n≤24→PObj s n:=by
 intro n
 induction n with
|zero=>
  intro _ b a M w hh hr;have hob:Ps.obj s 0 a=_:=Ps.obj.eq_def s 0 a;simp only at hob;refine Be (fun K ho hret hpan=>jO ?_) hr;unfold dZ iN dx cx;refine La _ ho fun b4 w1 ho=>?_;refine bN ho fun b6 w2 ho=>?_;clear hret;obtain⟨e1,e2⟩:=hh;generalize Ps.obj s 0 a=R at *;generalize Lx.next s a=x at *
  rw[Yg (by rw[e1];simp),Yg e2] at hob;refine join fun J hJ=>?_;rw[tk_v ho 1 rfl];refine aP ho (R:=fun v=>v=.bool (Ps.bG x.1)) (EM x.1 w2 e2) ?_;rintro _ w3 rfl ho;have fail:∀{e:Int},R=Ps.bad e→e≠0→∀{W:World},OwnS (rmE b s x.1.t M).blk w W [obE b6 ob0 nilS nilS,tokE b4 x.1,rdE b s x.1.t,.mem M]→K (.panicked [sZ e]) W:=by
   intro e he h0 W ho;subst he;exact hpan h0 _ M W _ ho.tail.tail M.le_refl
  cases e3:Ps.bG x.1 with
 |false=>
   simp only[rs,YJ,i_t];rw[Yh e3] at hob;exact throw (fail hob (by decide) ho)
 |true=>
   simp only[rs,YE,i_f];rw[Yg (by rw[e3];simp)] at hob;refine hJ _ _ fun _=>?_;unfold eM iN dx;refine join fun J hJ=>?_;simp only[rs,show decide ((24:Int)≤24 - ((0:Nat):Int))=true by decide];exact throw (fail hob (by decide) ho)
|succ n ih=>
  intro hn b a M w hh hr;have ih:=ih (by omega);have harr:=harr n (by omega) ih;have hdict:=hdict n (by omega) ih;have hob:Ps.obj s (n+1) a=_:=Ps.obj.eq_def s (n+1) a;simp only at hob;refine Be (fun K ho hret hpan=>jO ?_) hr;unfold dZ iN dx cx;refine La _ ho fun b4 w1 ho=>?_;refine bN ho fun b6 w2 ho=>?_;obtain⟨e1,e2⟩:=hh;have hbd:=@Lx.eE s a e1 e2;have hfm:=@Lx.vL s a e1;have hge:=Lx.eW s a.toNat;generalize hR:Ps.obj s (n+1) a=R at *;clear hR;generalize Lx.next s a=x at *
  rw[Yg (by rw[e1];simp),Yg e2] at hob;refine join fun J hJ=>?_;rw[tk_v ho 1 rfl];refine aP ho (R:=fun v=>v=.bool (Ps.bG x.1)) (EM x.1 w2 e2) ?_;rintro _ w3 rfl ho;have fail:∀{e:Int},R=Ps.bad e→e≠0→∀{W:World},OwnS (rmE b s x.1.t M).blk w W [obE b6 ob0 nilS nilS,tokE b4 x.1,rdE b s x.1.t,.mem M]→K (.panicked [sZ e]) W:=by
   intro e he h0 W ho;subst he;exact hpan h0 _ M W _ ho.tail.tail M.le_refl
  cases e3:Ps.bG x.1 with
 |false=>
   simp only[rs,YJ,i_t];rw[Yh e3] at hob;exact throw (fail hob (by decide) ho)
 |true=>
  simp only[rs,YE,i_f];rw[Yg (by rw[e3];simp)] at hob;refine hJ _ _ fun _=>?_;unfold eM iN dx;refine join fun J hJ=>?_;have hdeep:¬(24:Int)≤24 - ((n+1:Nat):Int):=by omega
  simp only[rs,Yl hdeep];refine hJ _ _ fun _=>?_;unfold kP iN dx cx;simp only[rs,cO,tk_k ho 1 rfl]
  -- what is returned
  have good:∀{W:World} {L:List Ent} {k m g t:Int} {z:List UInt8} (j:Nat),OwnS (rmE b s x.1.t M).blk w W (L++([rdE b s t,.mem M]++[]))→L[j]?=some (obE b6 (ob1 k m g z) nilS nilS)→R=(ob1 k m g z,t,0)→RetX prog [.cell (.pointer (some ⟨b6,0,none⟩)) 25] W K:=by
   intro W L k m g t z j ho hj he;have hjl:j < L.length:=(Yy.1 hj).1;refine eG (aX (ho.agg (cs:=obC (ob1 k m g z) nilS nilS) j (by rw[Z9 hjl];exact hj) dM)) ?_;subst he;exact hret rfl _ M W _ ho.front M.le_refl yB
  have tail:∀{f:Nat} {args:Array Value} {k m g:Int} {z:List UInt8} {W:World} {L:List Ent} {PK1 PK2:PKT} {o:Ob} {vk vc:Value} (j:Nat),OwnS (rmE b s x.1.t M).blk w W (L++([rdE b s x.1.t,.mem M]++[]))→L[j]?=some (obE b6 o vk vc)→Ret prog f args W (obR (ob1 k m g z) nilS nilS W)→R=(ob1 k m g z,x.1.t,0) →
    CallX prog f args W PK1 fun t W=>DoX prog (aC 25 (.pointer (some ⟨b6,0,none⟩)) t) W PK2 fun _ W=>RetX prog [.cell (.pointer (some ⟨b6,0,none⟩)) 25] W K:=by
   intro f args k m g z W L PK1 PK2 o vk vc j ho hj hr he;have hjl:j < L.length:=(Yy.1 hj).1;refine aP ho (R:=fun v=>v=obV (ob1 k m g z) nilS nilS) hr ?_;rintro _ W2 rfl ho;refine aQ (o':=ob1 k m g z) (vk':=nilS) (vc':=nilS) j rfl rfl ho (by rw[Z9 hjl];exact hj) fun W3 ho=>?_;rw[List.set_append_left _ _ hjl] at ho;exact good j ho (by simp[hjl]) he
  have hleafR:x.1.k≠6→R=Ps.leaf s x.1:=fun h=>by rw[hob,Yh h]
  rcases hfm.kind with k0|k1|k2|k3|k4|k5|k6
  ·exact absurd k0 e2
  ·have hk6:x.1.k≠6:=by omega
   have hleaf:R=match Ps.ref s x.1 with
   |some p=>(.mk 8 x.1.n p.1 [] [] [],p.2,0)
   |none=>(.mk 2 x.1.n 0 [] [] [],x.1.t,0):=by rw[hleafR hk6,Ps.leaf,Yh k1];cases Ps.ref s x.1<;>rfl
   simp only[Yk k1,i_t,tk_v ho 1 rfl];have ho:OwnS (rmE b s x.1.t M).blk w w3 ([obE b6 ob0 nilS nilS,tokE b4 x.1]++([rdE b s x.1.t,.mem M]++[])):=ho;have ho:=ho.front.pair;refine c_rm ho 0 rfl (T4 b s x.1 x.1.t M w3 (by omega) (ho.at_ 0 rfl)) ?_ fun _ _ h=>absurd trivial h;rintro _ N w4 _ hle rfl ho;simp only[ex];have ho:=ho.split;have ho:OwnS (rmE b s x.1.t M).blk w w4 ([rdE b s (pend s x.1 x.1.t),.mem N]++([obE b6 ob0 nilS nilS,tokE b4 x.1]++[])):=ho;have ho:=ho.front;refine bN ho fun b7 w5 ho=>?_;refine aQ (vk':=nilS) (vc':=nilS) 0 rfl rfl ho rfl fun w6 ho=>?_;have ho:OwnS (rmE b s x.1.t M).blk w w6 ([obE b7 (refO s x.1) nilS nilS,obE b6 ob0 nilS nilS,tokE b4 x.1]++([rdE b s (pend s x.1 x.1.t),.mem N]++[])):=ho;unfold refO pend at ho;cases hp:Ps.ref s x.1 with
  |some p=>
    rw[hp] at hleaf ho;simp only at ho;simp only[acN,i_t,ob_v ho 0 rfl];refine aQ 1 rfl rfl ho rfl fun w7 ho=>?_;have ho:OwnS (rmE b s x.1.t M).blk w w7 ([obE b7 (ob1 8 x.1.n p.1 []) nilS nilS,obE b6 (ob1 8 x.1.n p.1 []) nilS nilS,tokE b4 x.1]++([rdE b s p.2,.mem N]++[])):=ho;refine eG (aX (ho.agg 1 rfl dM)) ?_;subst hleaf;exact hret rfl _ N w7 _ ho.front hle yB
  |none=>
    rw[hp] at hleaf ho;simp only at ho;simp only[acM,i_f,oQ,tk_n ho 2 rfl];refine aP ho (R:=fun v=>v=obV (ob1 2 x.1.n 0 []) nilS nilS) (NC x.1.n w6) ?_;rintro _ w7 rfl ho;refine aQ 1 rfl rfl ho rfl fun w8 ho=>?_;have ho:OwnS (rmE b s x.1.t M).blk w w8 ([obE b7 (ob1 0 0 0 []) nilS nilS,obE b6 (ob1 2 x.1.n 0 []) nilS nilS,tokE b4 x.1]++([rdE b s x.1.t,.mem N]++[])):=ho;refine eG (aX (ho.agg 1 rfl dM)) ?_;subst hleaf;exact hret rfl _ N w8 _ ho.front hle yB
  ·have hk6:x.1.k≠6:=by omega
   simp only[k2,show ¬((2:Int)=1) by decide,Yj,Yi,rs,oQ,tk_n ho 1 rfl];exact tail (L:=[_,_]) 0 ho rfl (Q8 x.1.n _) (by rw[hleafR hk6,Ps.leaf,Yg (by omega),Yh k2])
  ·have hk6:x.1.k≠6:=by omega
   simp only[k3,show ¬((3:Int)=1) by decide,show ¬((3:Int)=2) by decide,Yj,Yi,rs,cL,tk_s ho 1 rfl];exact tail (L:=[_,_]) 0 ho rfl (SW x.1.s _) (by rw[hleafR hk6,Ps.leaf,Yg (by omega),Yg (by omega),Yh k3])
  ·have hk6:x.1.k≠6:=by omega
   simp only[k4,show ¬((4:Int)=1) by decide,show ¬((4:Int)=2) by decide,show ¬((4:Int)=3) by decide,Yj,Yi,rs,cL,tk_s ho 1 rfl];exact tail (L:=[_,_]) 0 ho rfl (RR x.1.s _) (by rw[hleafR hk6,Ps.leaf,Yg (by omega),Yg (by omega),Yg (by omega),Yh k4])
  ·have hk6:x.1.k≠6:=by omega
   simp only[k5,show ¬((5:Int)=1) by decide,show ¬((5:Int)=2) by decide,show ¬((5:Int)=3) by decide,show ¬((5:Int)=4) by decide,Yj,Yi,rs,cL,tk_s ho 1 rfl];by_cases hn:x.1.s=[110,117,108,108]
   ·simp only[Yk hn,i_t];exact tail (L:=[_,_]) 0 ho rfl (LZ _) (by rw[hleafR hk6,Ps.leaf,Yg (by omega),Yg (by omega),Yg (by omega),Yg (by omega),Yh (show x.1.s=Ps.nul from hn)];rfl)
   ·simp only[Yl hn,i_f];refine tail (L:=[_,_]) 0 ho rfl (Q6 _ _) ?_;rw[hleafR hk6,Ps.leaf,Yg (by omega),Yg (by omega),Yg (by omega),Yg (by omega),Yg (show ¬x.1.s=Ps.nul from hn)];simp only[Yx];rfl
  ·have hs2:x.1.s=[91]∨x.1.s=[60,60]:=by
    unfold Ps.bG at e3;rw[Yh k6] at e3;simpa using e3
   rw[Yg (show ¬x.1.k≠6 by rw[k6];simp)] at hob;simp only[k6,show ¬((6:Int)=1) by decide,show ¬((6:Int)=2) by decide,show ¬((6:Int)=3) by decide,show ¬((6:Int)=4) by decide,show ¬((6:Int)=5) by decide,Yj,Yi,rs,cL,tk_s ho 1 rfl];rw[aB (by omega) (by omega),show (24:Int) - ((n+1:Nat):Int)+1=24 - (n:Int) by omega];have ho:OwnS (rmE b s x.1.t M).blk w w3 ([obE b6 ob0 nilS nilS,tokE b4 x.1]++([rdE b s x.1.t,.mem M]++[])):=ho;have ho:=ho.front.pair;have fin:∀{W:World} {N:Mem} {u:Value},R.2.2=0→M.le N→OV N.A N.w u R.1→OwnS (rmE b s x.1.t M).blk w W [rmE b s R.2.1 N,obE b6 ob0 nilS nilS,tokE b4 x.1] →
     DoX prog (aC 25 (.pointer (some ⟨b6,0,none⟩)) u) W (pk K) fun _ w=>RetX prog [.cell (.pointer (some ⟨b6,0,none⟩)) 25] w K:=by
    intro W N u h0 hle hu ho;obtain⟨xk,xc,xcs,rfl,hx⟩:=hu.open;refine aQ 1 hx.keys.one hx.kids.one ho rfl fun W2 ho=>?_;refine eG (aX (ho.agg 1 rfl dM)) ?_;exact hret h0 _ N W2 _ ho.split hle hx.ov
   have fall:∀{W:World} {e2:Ent},¬R.2.2=0→OwnS (rmE b s x.1.t M).blk w W [.two e2 (.mem M),obE b6 ob0 nilS nilS,tokE b4 x.1]→pk K [sZ R.2.2] W:=
    fun h0 ho=>hpan h0 _ M _ _ ho.split M.le_refl
   rcases hs2 with h2|h2
   ·simp only[Yk h2,i_t];rw[Yh h2] at hob;have h:=harr b x.1.t M w3 (by omega) (by omega) (ho.at_ 0 rfl);rw[←hob] at h;exact c_rm ho 0 rfl h (fun v N w4 h0 hle hv ho=>fin h0 hle hv ho) fun e2 w4 h0 ho=>fall h0 ho
   ·have h91:¬x.1.s=[91]:=by rw[h2];decide
    simp only[Yl h91,i_f];rw[Yg h91] at hob;have h:=hdict b x.1.t M w3 (by omega) (by omega) (ho.at_ 0 rfl);rw[←hob] at h;exact c_rm ho 0 rfl h (fun v N w4 h0 hle hv ho=>fin h0 hle hv ho) fun e2 w4 h0 ho=>fall h0 ho
end
section
open Eng Go.RowKit
def rdAt (b:Nat)(w:World):Nat:=match w.cell? ⟨b,1,none⟩ with|some (.int _ q)=>q.toNat|_=>0
theorem KV {b:Nat}{s:List UInt8}{a:Int}{w:World}(h:(rdE b s a).is w):rdAt b w=a.toNat:=by
 unfold rdAt;rw[aV (T:=130) (cs:=rdC s a) (i:=1) h rfl]
theorem meas {n:Nat}{a b:Int}(h0:0≤a)(h:a < b)(hb:b≤n):n - b.toNat < n - a.toNat:=by omega
theorem QK {s:List UInt8}{ok:Bool}{n m:Nat}{a:Int}{acc:List Ob}(h:¬Has s a):Ps.arr s ok (Ps.obj s n) (m+1) a acc=Ps.bad (tR s a):=by
 rw[Ps.arr];have h1:¬((Lx.next s a).2=0∧(Lx.next s a).1.k=6∧(Lx.next s a).1.s=[93]):=fun h2=>h ⟨h2.1,by rw[h2.2.1];decide⟩;rw[Yg h1];by_cases e1:(Lx.next s a).2=0
 ·have e2:(Lx.next s a).1.k=0:=YA.1 fun h2=>h ⟨e1,h2⟩;have hb:¬((Lx.next s a).2=0∧acc.length=8191∧Ps.bG (Lx.next s a).1=true∧ok=true):=fun h2=>by
   have:=h2.2.2.1;unfold Ps.bG at this;rw[Yg (by rw[e2];decide),e2] at this;simp at this
  rw[Yg hb,Yg (by rw[e1];simp),HY h,Yh (show (Ps.bad (tR s a)).2.2≠0 from qO)];rfl
 ·rw[Yg (fun h2=>e1 h2.1),Yh e1];unfold tR;rw[Yh e1]
theorem Th (s:List UInt8)(hs:s.length≤1000000000)(n:Nat)(hn:n≤23)(hsub:PObj s n):PArr s n:=by
 intro b a M w h0 h1 hr;generalize hR:Ps.arr s (decide (n≠0)) (Ps.obj s n) (s.length+1) a []=R;refine Be (fun K ho hret hpan=>xO ?_) hr;unfold gK iN dx;have ho:=ho.pair.nilU 25 6;refine bN ho fun b4 w1 ho=>?_;have hb6:∀{PK:PKT} {K:VWP},DoX prog (aJ 25 #[(0,(.int .i64 6))]) w1 PK K=K (obV (.mk 6 0 0 [] [] []) nilS nilS) w1:=aU (by kernel_rfl);rw[hb6];refine bN ho fun b5 w2 ho=>?_;refine aQ (o':=.mk 6 0 0 [] [] []) (vk':=nilS) (vc':=nilS) 0 rfl rfl ho rfl fun w3 ho=>?_;generalize hS0:(rmE b s a M).blk=S0 at *;have ho:OwnS S0 w w3 [obE b5 (.mk 6 0 0 [] [] []) nilS nilS,obE b4 ob0 nilS nilS,kidE nilS 0 [],rmE b s a M]:=ho;have fall:∀{W:World} {L:List Ent} {e2:Ent} {N:Mem} (e:Int),OwnS S0 w W (L++([.two e2 (.mem N)]++[]))→M.le N→R=Ps.bad e→e≠0→pk K [sZ e] W:=by
  intro W L e2 N e ho hle he h0;subst he;exact hpan h0 e2 N W _ (ho.front).split hle
 refine loop (fun vs w'=>∃(a':Int) (m:Nat) (acc:List Ob) (cs:List Value) (vc:Value) (N:Mem),vs=[]∧0≤a'∧a'≤s.length∧(acc.length:Int)≤a'∧acc.length≤8191∧acc.length+m=s.length+1 ∧
   Ps.arr s (decide (n≠0)) (Ps.obj s n) m a' acc=R∧M.le N∧OVs N.A N.w cs acc ∧
   OwnS S0 w w' [obE b5 (.mk 6 0 0 [] [] acc) nilS vc,obE b4 ob0 nilS nilS,kidE vc acc.length cs,rmE b s a' N]) (fun _ w=>s.length - rdAt b w)
  ⟨a,s.length+1,[],[],nilS,M,rfl,h0,h1,by simpa using h0,by simp,by simp,hR,M.le_refl,OVs.nil,ho⟩ ?_
 clear ho hR;rintro vs w4 ⟨a',m,acc,cs,vc,N,rfl,ha0,ha1,hla,hmx,hml,harr,hle,hall,ho⟩ _;simp only[lG,iN,dx,gtx,etx,cx];obtain⟨m,rfl⟩:∃k,m=k+1:=⟨m - 1,by omega⟩;have hat:rdAt b w4=a'.toNat:=KV (ho.at_ 3 rfl).1;refine c_rm ho 3 rfl (DF b s a' N w4 (by omega) (ho.at_ 3 rfl)) ?_ fun e2 w5 hn ho=>?_
 rotate_left
 ·rw[QK hn] at harr;exact fall (L:=[_,_,_]) _ ho hle harr.symm qO
 rintro _ N1 w5 hhas hle1 rfl ho;have hbd:=@Lx.eE s a' hhas.1 hhas.2;have hge:=Lx.eW s a'.toNat;have hopen:=@Ps.B7 s n a';have hsubl:=fun (M:Mem) (w:World)=>hsub b a' M w hhas;have hbd2:=@Ps.Dv s n a';obtain⟨e1,e2⟩:=hhas;rw[Ps.arr] at harr;generalize Ps.obj s n a'=e at *;generalize Lx.next s a'=x at *
 have hvc:=bT (ho.at_ 2 rfl);refine gJ ho fun b6 w6 ho=>?_;refine jS 0 ho rfl fun w7 ho=>?_;have ho:OwnS S0 w w7 [tokE b6 x.1,obE b5 (.mk 6 0 0 [] [] acc) nilS vc,obE b4 ob0 nilS nilS,kidE vc acc.length cs,rmE b s x.1.t N1]:=ho;rw[tk_v ho 0 rfl];refine aP ho (R:=fun v=>v=.bool (decide (x.1.k=6)&&decide (x.1.s=[93]))) (Hh x.1 6 [93] w7) ?_;rintro _ w8 rfl ho;cases e3:(decide (x.1.k=6)&&decide (x.1.s=[93])) with
|true=>
  simp only[Ys,Yx] at e3;rw[Yh ⟨e1,e3.1,e3.2⟩] at harr;simp only[i_t,ob_v ho 1 rfl];refine aQ 2 rfl hvc ho rfl fun w9 ho=>?_;refine eG (aX (ho.agg 2 rfl dM)) ?_;have ho:OwnS S0 w w9 ([tokE b6 x.1,obE b5 (.mk 6 0 0 [] [] acc) nilS vc,obE b4 (.mk 6 0 0 [] [] acc) nilS vc,kidE vc acc.length cs]++([rmE b s x.1.t N1]++[])):=ho;have ho:=ho.front.split;have ho:OwnS S0 w w9 ([rdE b s x.1.t,.mem N1,tokE b6 x.1,obE b5 (.mk 6 0 0 [] [] acc) nilS vc,obE b4 (.mk 6 0 0 [] [] acc) nilS vc]++([kidE vc acc.length cs]++[])):=ho;obtain⟨N2,hle2,hrow,ho⟩:=OwnS.gP (L:=[rdE b s x.1.t,.mem N1,tokE b6 x.1,obE b5 (.mk 6 0 0 [] [] acc) nilS vc,obE b4 (.mk 6 0 0 [] [] acc) nilS vc]) ho.front 1 rfl;subst harr;exact hret rfl _ N2 w9 _ ho ((hle.trans hle1).trans hle2) (ObAt.ov (o:=.mk 6 0 0 [] [] acc) ⟨SlA.nil _ _ _ _,hrow,(hall.le hle1).le hle2⟩)
|false=>
 have e3':¬(x.2=0∧x.1.k=6∧x.1.s=[93]):=fun h=>by
  rw[Yk h.2.1,Yk h.2.2] at e3;exact absurd e3 (by decide)
 rw[Yg e3'] at harr;simp only[i_f];refine join fun J hJ=>?_
 -- the element
 have one:∀{W:World},OwnS S0 w W [tokE b6 x.1,obE b5 (.mk 6 0 0 [] [] acc) nilS vc,obE b4 ob0 nilS nilS,kidE vc acc.length cs,rmE b s x.1.t N1]→¬(acc.length=8191∧Ps.bG x.1=true∧n≠0)→J [] W:=by
  intro W ho h6;have h6':¬(x.2=0∧acc.length=8191∧Ps.bG x.1=true∧decide (n≠0)=true):=fun h=>h6 ⟨h.2.1,h.2.2.1,YF h.2.2.2⟩;rw[Yg h6',Yg (by rw[e1];simp)] at harr;refine hJ _ _ fun _=>?_;unfold lP;have ho:=ho.drew;refine⟨fun W=>(obE b5 (.mk 6 0 0 [] [] acc) nilS vc).is W∧(tokE b6 x.1).is W,⟨ho.at_ 1 rfl,ho.at_ 0 rfl⟩,?_⟩;refine aZ _ (fun _=>bC MY) ?_;refine fG vc (fun W h=>aL PN (aV (T:=25) (cs:=obC (.mk 6 0 0 [] [] acc) nilS vc) (i:=5) h.1 rfl)) ?_;refine fG (tokV x.1) (fun W h=>dH (AtV.agg Fw (cs:=tokC x.1) rfl fun j u hj=>by rw[Yu];exact aV (T:=58) h.2 hj)) ?_;refine c_rm ho 4 rfl (hsubl N1 _ (ho.at_ 4 rfl)) ?_ fun e2 w9 hz ho=>?_
  rotate_left
  ·rw[Yh hz] at harr;exact fun _ _ _ _ _ _=>fall (L:=[_,_,_,_]) _ ho (hle.trans hle1) harr.symm hz
  rintro u N2 w9 hz hle2 hu ho;have ho:OwnS S0 w w9 [tokE b6 x.1,obE b5 (.mk 6 0 0 [] [] acc) nilS vc,obE b4 ob0 nilS nilS,kidE vc acc.length cs,rmE b s e.2.1 N2]:=ho;obtain⟨xk,xc,xcs,rfl,hx⟩:=hu.open;refine⟨⟨ho.at_ 1 rfl,ho.at_ 0 rfl⟩,?_⟩;refine HA e.1 hx.keys.one hx.kids.one ho fun nb w10 ho=>⟨⟨ho.at_ 2 rfl,ho.at_ 1 rfl⟩,?_⟩;refine LX 4 ho rfl (ho.sl 0 rfl 6 1 1 rfl) (iI _ hx.keys.one hx.kids.one) (by omega) fun vc' w11 ho=>⟨⟨ho.at_ 2 rfl,ho.at_ 1 rfl⟩,?_⟩;have ho:=ho.tail.tail;have ho:OwnS S0 w w11 [obE b5 (.mk 6 0 0 [] [] acc) nilS vc,obE b4 ob0 nilS nilS,kidE vc' (acc.length+1) (cs++obC e.1 xk xc),rmE b s e.2.1 N2]:=ho;have hvc':=bT (ho.at_ 2 rfl);refine aZ _ (fun _=>bC MY) ?_;refine aW 0 ho rfl (by kernel_rfl) hvc' (show 0+5 < 6 by omega) fun w12 ho=>?_;have hbd3:=hbd2 hz;rw[Yg (by rw[hz];simp)] at harr;obtain⟨o1,o2,o3,m',hm',_⟩:=hopen hz;have hmx':acc.length≠8191:=fun h=>h6 ⟨h,o3,by omega⟩;have el:(acc++[e.1]).length=acc.length+1:=by simp
  refine bO ⟨e.2.1,m,acc++[e.1],cs++obC e.1 xk xc,vc',N2,rfl,by omega,hbd3.2,by simp;omega,by simp;omega,by simp;omega,harr,(hle.trans hle1).trans hle2,gQ ((hall.le hle1).le hle2) (I2 hx.ov),?_⟩ ?_
  ·rw[el];exact ho
  ·have hat2:rdAt b w12=e.2.1.toNat:=KV (ho.at_ 3 rfl).1;show s.length - rdAt b w12 < s.length - rdAt b w4;rw[hat,hat2];exact meas ha0 hbd3.1 hbd3.2
 rw[tk_v ho 0 rfl];refine aP ho (R:=fun v=>v=.bool (Ps.bG x.1)) (EM x.1 w8 e2) ?_;rintro _ w9 rfl ho;cases e4:Ps.bG x.1 with
|false=>
  simp only[rs,g_un];exact one ho fun h=>by rw[e4] at h;exact absurd h.2.1 (by decide)
|true=>
  simp only[rs];by_cases e5:n=0
  ·have:¬(24:Int) - n < 24:=by omega
   simp only[Yl this,rs,g_un];exact one ho fun h=>h.2.2 e5
  ·have:(24:Int) - n < 24:=by omega
   simp only[Yk this,rs,dR,bJ ho 1 rfl,bY Yt (ho.slU 3 rfl)];by_cases e6:(8191:Int)≤(acc.length:Int)
   ·simp only[Yk e6,i_t];rw[Yh ⟨e1,by omega,e4,Yk e5⟩] at harr;exact throw (fall (L:=[_,_,_,_]) 6 ho (hle.trans hle1) harr.symm (by decide))
   ·simp only[Yl e6,i_f];exact one ho fun h=>e6 (by omega)
end
section
open Eng Go.RowKit
def ET (ks:List (List UInt8)):List (List UInt8):=ks.mergeSort fun x y=>decide (x≤y)
theorem Sa (ks:List (List UInt8)):(ET ks).length=ks.length:=List.length_mergeSort _
theorem P5 (ks:List (List UInt8)):(ET ks).Perm ks:=List.mergeSort_perm _ _
theorem O8 {ks l:List (List UInt8)}(hp:ks.Perm l)(hr:Vl.Rise l):ET ks=l:=by
 have tr:∀a b c:List UInt8,decide (a≤b)=true→decide (b≤c)=true→decide (a≤c)=true:=fun a b c h1 h2=>by simp only[Yx] at *;exact List.le_trans h1 h2
 have tt:∀a b:List UInt8,(decide (a≤b)||decide (b≤a))=true:=fun a b=>by simp only[ZB,Yx];exact List.le_total a b
 refine List.Perm.eq_of_pairwise (le:=fun a b=>decide (a≤b)=true) (fun a b _ _ h1 h2=>?_) (List.pairwise_mergeSort tr tt ks) (hr.imp fun {a b} h=>?_) ((P5 ks).trans hp)
 ·simp only[Yx] at h1 h2;exact List.le_antisymm h1 h2
 ·have:=(Vl.Il a b).1 h;simp only[Yx];exact List.le_of_lt this
theorem QZ (v:Value)(ks:List (List UInt8))(w:World)(h:(keyE v ks).is w)(hb:ks.length≤1000000000) :
  Ret prog 249 #[v] w (fun r w'=>r=.tuple #[]∧Turn (keyE v ks) (keyE v (ET ks)) w w'):=by
 obtain⟨h1,h2⟩:=(show w.ownsRow 0 9 1 v ks.length (bB ks) from h);rcases h2 with ⟨rfl,h0⟩|⟨g,cap,cur,rfl,hb0,hg,hnc,hcm,hcs,htake⟩
 ·have hk:ks=[]:=ZO h0;subst hk;refine Calls.mono (Tryz.slices_Sort_string_none none 0 w) ?_;rintro e w' ⟨rfl,rfl⟩;exact⟨_,rfl,rfl,by simpa[ET] using Turn.refl h⟩
 ·rw[Zk] at hcs htake;have hsz:ks.length≤cur.size:=by rw[hcs];exact hnc
  have hget:∀j,(hj:j < ks.length)→cur[j]?=some (Value.string ⟨ks[j].toArray⟩):=by
   intro j hj;have h3:(bB ks)[j]?=some (.string ⟨ks[j].toArray⟩):=cD hj;rw[←htake,Y9,Yh hj,Array.getElem?_toList] at h3;exact h3
  have hH:Go.Sort.Holds encStr w g 0 ks.toArray:=by
   intro j hj;have hj':j < ks.length:=by simpa using hj
   constructor
   ·unfold World.cell?;simp only[hg,Yu];rw[hget j hj',getElem!_pos ks.toArray j hj];rfl
   ·unfold World.frozen?;simp only[hg,Yu];simp
  refine Calls.mono (Tryz.slices_Sort_string g 0 cap ks w hH (dW hg) (by omega)) ?_;rintro e w' ⟨rfl,n,os,rfl⟩;refine⟨_,rfl,rfl,?_⟩;have hlen:=Sa ks;have hheap:∀k,k < w.heap.size→(Go.Sort.grow (Go.Sort.putRow encStr (Go.Sort.ahead w n) g 0 (ET ks).toArray) os).heap[k]?=(if g=k then (w.heap[k]?).map (Go.Sort.onCells (Go.Sort.putCells encStr 0 (ET ks).toArray)) else w.heap[k]?):=by
   intro k hk;show ((w.heap.modify g _)++os)[k]?=_;rw[Array.getElem?_append_left (by simpa using hk),acJ]
  refine⟨⟨rfl,rfl,rfl,?_,fun k hk hn=>?_⟩,?_,fun k hk=>.inl hk⟩
  ·show w.heap.size≤((w.heap.modify g _)++os).size;simp
  ·have hne:g≠k:=fun e=>hn (by subst e;rfl);exact (hheap k hk).trans (Yg hne)
  ·show (World.ownsRow _ 0 9 1 _ (ET ks).length (bB (ET ks)));refine⟨by simp[bB],.inr ⟨g,cap,Go.Sort.putCells encStr 0 (ET ks).toArray cur,by rw[hlen],hb0,?_,by rw[hlen];exact hnc,hcm,?_,?_⟩⟩
   ·have:=hheap g (dW hg);rw[Yh rfl,hg] at this;exact this
   ·simp[Go.Sort.putCells,hcs]
   ·rw[Zk];apply List.ext_getElem?;intro j;rw[Y9];by_cases hj:j < (ET ks).length
    ·have hjc:j < cur.size:=by omega
     rw[Yh hj,cD hj,Array.getElem?_toList];unfold Go.Sort.putCells;rw[Array.getElem?_mapIdx,abX hjc,Zv,Yh ⟨by omega,by simpa using hj⟩,Nat.sub_zero,getElem!_pos (ET ks).toArray j (by simpa using hj)];rfl
    ·rw[Yg hj,aaF (by rw[Bf];omega)]
end
section
open Go
namespace Ps
abbrev Kv:=List UInt8×Ob
def live (l:List Kv):List (List UInt8):=(l.filter fun p=>decide (p.2.k≠0)).map (·.1)
structure Made (o:Ob) (l:List Kv):Prop where
 k:o.k=7
 n:o.n=0
 g:o.g=0
 s:o.s=[]
 rise:Vl.Rise o.keys
 len:o.keys.length=o.kids.length
 perm:(live l).Perm o.keys
 mem:∀q∈o.keys.zip o.kids,q∈l
theorem Xp:Made dE []:=⟨rfl,rfl,rfl,rfl,List.Pairwise.nil,rfl,List.Perm.nil,fun q hq=>by simp[dE,Ob.keys] at hq⟩
theorem LF (l:List Kv)(p:Kv):live (l++[p])=live l++(if p.2.k≠0 then [p.1] else []):=by
 unfold live;rw[List.filter_append,ZR]
 congr 1
 by_cases h:p.2.k=0<;>simp[h]
theorem TP {l:List Kv}:∀k∈live l,k∈l.map (·.1):=by
 intro k hk;obtain⟨p,hp,rfl⟩:=YN.1 hk;exact YN.2 ⟨p,(List.mem_filter.1 hp).1,rfl⟩
theorem RH {o v:Ob}{l:List Kv}{key:List UInt8}(h:Made o l)(hn:key ∉ l.map (·.1)):Made (join o key v) (l++[(key,v)]):=by
 unfold join;by_cases hv:v.k=0
 ·rw[Yg (by rw[hv];simp)];refine⟨h.k,h.n,h.g,h.s,h.rise,h.len,?_,fun q hq=>aaS _ (h.mem q hq)⟩;rw[LF,Yg (by rw[hv];simp),YQ];exact h.perm
 ·rw[Yh hv];have hko:key ∉ o.keys:=fun hk=>hn (TP _ (h.perm.symm.subset hk));have hhit:Vl.hit o.keys key=false:=by
   unfold Vl.hit;rw[YK];exact fun hk=>hko (Zh hk)
  have hput:Vl.put o key v=.mk o.k o.n o.g o.s (o.keys.take (Vl.place o.keys key)++key::o.keys.drop (Vl.place o.keys key)) (o.kids.take (Vl.place o.keys key)++v::o.kids.drop (Vl.place o.keys key)):=by
   unfold Vl.put;rw[hhit];rfl
  obtain⟨r1,r2⟩:=Vl.Kd (v:=v) h.rise h.len (key:=key);refine⟨h.k,h.n,h.g,h.s,r1,r2,?_,?_⟩
  ·rw[LF,Yh hv,hput];refine (List.perm_append_singleton key (live l)).trans ?_;refine (List.Perm.cons key h.perm).trans ?_;have:=(List.perm_middle (a:=key) (l₁:=o.keys.take (Vl.place o.keys key)) (l₂:=o.keys.drop (Vl.place o.keys key))).symm
   rwa [Zc] at this
  ·intro q hq;rw[hput] at hq;have hz:(o.keys.take (Vl.place o.keys key)++key::o.keys.drop (Vl.place o.keys key)).zip (o.kids.take (Vl.place o.keys key)++v::o.kids.drop (Vl.place o.keys key)) =
     (o.keys.take (Vl.place o.keys key)).zip (o.kids.take (Vl.place o.keys key))++(key,v)::(o.keys.drop (Vl.place o.keys key)).zip (o.kids.drop (Vl.place o.keys key)):=by
    rw[List.zip_append (by simp[h.len])];rfl
   have hq:q∈(o.keys.take (Vl.place o.keys key)++key::o.keys.drop (Vl.place o.keys key)).zip (o.kids.take (Vl.place o.keys key)++v::o.kids.drop (Vl.place o.keys key)):=hq;rw[hz] at hq;have hold:o.keys.zip o.kids=(o.keys.take (Vl.place o.keys key)).zip (o.kids.take (Vl.place o.keys key))++(o.keys.drop (Vl.place o.keys key)).zip (o.kids.drop (Vl.place o.keys key)):=by
    rw[←List.zip_append (by simp[h.len]),Zc,Zc]
   rcases YZ.1 hq with hq|hq
   ·exact aaS _ (h.mem q (by rw[hold];exact aaS _ hq))
   ·rcases Yq.1 hq with hq|hq
    ·subst hq;simp
    ·exact aaS _ (h.mem q (by rw[hold];exact List.mem_append_right _ hq))
theorem VO {o:Ob}{l:List Kv}(h:Made o l){i:Nat}(hi:i < o.keys.length):(o.keys[i],o.kids[i]'(by have:=h.len;omega))∈l:=by
 refine h.mem _ ?_;have:(o.keys.zip o.kids)[i]'(by simp[h.len] at *;omega)=(o.keys[i],o.kids[i]'(by have:=h.len;omega)):=List.getElem_zip;rw[←this];exact YH _
end Ps
end
section
namespace Eng
open Go.RowKit
structure MapF (al:List (List UInt8×Value)) (es:Array MapEntry) (clock:Nat):Prop where
 al:es.toList.map (fun e=>(e.key,e.val))=al.map fun p=>(strK p.1,p.2)
 nodup:(es.toList.map (·.born)).Nodup
 old:∀e∈es.toList,e.born < clock
def Ent.mapB (b:Nat)(al:List (List UInt8×Value)):Ent:=⟨fun k=>k=b,fun w=>∃es clock,w.heap[b]?=some (.map es clock)∧MapF al es clock,fun {w w'} h k=>by
  obtain⟨es,clock,h1,h2⟩:=h;exact⟨es,clock,(k b rfl).trans h1,h2⟩,fun h k hk=>by
  obtain⟨es,clock,h1,h2⟩:=h;cases hk;exact dW h1⟩
theorem RG {w:World}{b:Nat}{al:List (List UInt8×Value)}(h:(Ent.mapB b al).is w):WS w b al:=by
 obtain⟨es,clock,h1,h2⟩:=h;exact⟨es,clock,h1,h2.al⟩
def PI (es:Array MapEntry)(seen:Array Nat)(done:List (List UInt8×Value)):Prop:=
 ∃ds:List MapEntry,seen.toList=ds.map (·.born)∧(∀e∈ds,e∈es.toList)∧(ds.map (·.born)).Nodup∧ds.map (fun e=>(e.key,e.val))=done.map fun p=>(strK p.1,p.2)
theorem born_inj:∀{l:List MapEntry},(l.map (·.born)).Nodup→∀{x y:MapEntry},x∈l→y∈l→x.born=y.born→x=y
|[],_,_,_,hx,_,_=>by cases hx
|a::l,hn,x,y,hx,hy,h=>by
  rw[Y1,aaT] at hn;rcases Yq.1 hx with ex|hx
  ·rcases Yq.1 hy with ey|hy
   ·rw[ex,ey]
   ·exact absurd (YN.2 ⟨y,hy,by rw[←h,ex]⟩) hn.1
  ·rcases Yq.1 hy with ey|hy
   ·exact absurd (YN.2 ⟨x,hx,by rw[h,ey]⟩) hn.1
   ·exact born_inj hn.2 hx hy h
theorem pR:∀{l:List MapEntry},(l.map (·.born)).Nodup→l.Nodup
|[],_=>abU
|a::l,h=>by
  rw[Y1,aaT] at h;exact aaT.2 ⟨fun hm=>h.1 (YN.2 ⟨a,hm,rfl⟩),pR h.2⟩
theorem Oo {α:Type}:∀(a b:List α),a.Nodup→(∀x∈a,x∈b)→a.length≤b.length
|[],_,_,_=>by simp
|x::a,b,hn,hs=>by
  obtain⟨u,v,rfl⟩:=List.append_of_mem (hs x abF);obtain⟨h1,h2⟩:=aaT.1 hn;have:=Oo a (u++v) h2 fun y hy=>by
   have hy':=hs y (Za _ hy);rw[YZ,Yq] at hy';rw[YZ];rcases hy' with h|h|h
   ·exact .inl h
   ·subst h;exact absurd hy h1
   ·exact .inr h
  simp only[Yp,Yr] at this ⊢;omega
theorem VL {a b:List (List UInt8×Value)}(h:(a.map fun p=>(strK p.1,p.2)).Perm (b.map fun p=>(strK p.1,p.2))):a.Perm b:=by
 -- a list that goes back
 let back:Value×Value→List UInt8×Value:=fun q=>(match q.1 with|.string s=>s.data.toList|_=>[],q.2)
 have hb:∀l:List (List UInt8×Value),(l.map fun p=>(strK p.1,p.2)).map back=l:=by
  intro l;rw[List.map_map]
  conv=>rhs;rw[←List.map_id l]
  refine List.map_congr_left fun p _=>?_;rfl
 have:=h.map back
 rwa [hb,hb] at this
section
variable {S:Nat→Prop}{P:Program}{w w0:World}{L:List Ent}{PK:PKT}{K:VWP}
theorem Qy {T:TypeId}(ho:OwnS S w0 w L)(k:∀b w',OwnS S w0 w' (.mapB b []::L)→K (.map (some b)) w'):DoX P (mMap T none) w PK K:=by
 have hr:(Instr.makeMap T none).run P w=.ok (.map (some w.heap.size)) (w.alloc (.map #[] 0)):=rfl;exact pQ (bW hr) (k _ _ (ho.add (World.grownBy_alloc w _ none) (.mapB w.heap.size []) ⟨#[],0,heap_alloc_new w _,rfl,abU,fun e he=>by simp at he⟩ (fun k hk=>by cases hk;exact Yw _)))
theorem QL (i:Nat){T k e:TypeId}{b:Nat}{al:List (List UInt8×Value)}(ht:P.underlying T=some (.map k e))(hk:P.underlying k=some .string)(ho:OwnS S w0 w L)(hi:L[i]?=some (.mapB b al))(x:List UInt8)(v:Value)(hn:rZ al x=none)
  (kk:∀w',OwnS S w0 w' (L.set i (.mapB b (al++[(x,v)])))→K undef w'):DoX P (St T (.map (some b)) (strK x) v) w PK K:=by
 obtain⟨es,clock,h1,h2⟩:=(show ∃es clock,w.heap[b]?=some (.map es clock)∧MapF al es clock from ho.at_ i hi);obtain⟨r,r1,r2⟩:=G5 (P:=P) (w:=w) hk x h2.al;have hr0:r=none:=by
  cases r with
 |none=>rfl
 |some p=>rw[hn] at r2;cases r2
 subst hr0;have hr:(Instr.mapUpdate T (.map (some b)) (strK x) v).run P w=.ok () { w with heap:=w.heap.setIfInBounds b (.map (es.push { key:=strK x,val:=v,born:=clock }) (clock+1)) }:=by
  simp[Instr.mapUpdate,run_underlying ht,getObj,setObj,Sem.run,h1,BE hk x,r1]
 refine HS (L3 hr) (kk _ ?_);refine ho.put i hi (w':={ w with heap:=w.heap.setIfInBounds b _ }) ⟨rfl,rfl,rfl,by simp,fun k _ hk=>?_⟩ (.mapB b (al++[(x,v)])) ?_ (fun k hk=>.inl hk)
 ·show (w.heap.setIfInBounds b _)[k]?=_;exact ZW (fun e=>hk (by simp[Ent.mapB,e]))
 ·refine⟨es.push { key:=strK x,val:=v,born:=clock },clock+1,?_,?_,?_,?_⟩
  ·show (w.heap.setIfInBounds b _)[b]?=_;exact acS (dW h1)
  ·simp[h2.al]
  ·rw[Array.toList_push,ZR,abN];refine⟨h2.nodup,by simp,fun a ha c hc=>?_⟩;obtain⟨e,he,rfl⟩:=YN.1 ha;have:=h2.old e he;simp at hc;omega
  ·intro e he;rw[Array.toList_push] at he;rcases YZ.1 he with he|he
   ·have:=h2.old e he;omega
   ·rw[Zs] at he;subst he;exact Nat.lt_succ_self _
theorem OwnS.Xu {b:Nat}{al:List (List UInt8×Value)}(ho:OwnS S w0 w L)(i:Nat)(hi:L[i]?=some (.mapB b al)):∃es clock,MapF al es clock∧OwnS S w0 w (L.set i (.obj b (.map es clock))):=by
 obtain⟨es,clock,h1,h2⟩:=(show ∃es clock,w.heap[b]?=some (.map es clock)∧MapF al es clock from ho.at_ i hi);exact⟨es,clock,h2,ho.turn i hi ⟨Grew.refl _ _,h1,fun _ hk=>.inl hk⟩⟩
theorem OwnS.Xg {b:Nat}{al:List (List UInt8×Value)}{es:Array MapEntry}{clock:Nat}(ho:OwnS S w0 w L)(i:Nat)(hi:L[i]?=some (.obj b (.map es clock)))(hf:MapF al es clock):OwnS S w0 w (L.set i (.mapB b al)):=
 ho.turn i hi ⟨Grew.refl _ _,⟨es,clock,ho.at_ i hi,hf⟩,fun _ hk=>.inl hk⟩
theorem SH (i:Nat){T k e:TypeId}{m clock:Nat}{es:Array MapEntry}(ht:P.underlying T=some (.map k e))(ho:OwnS S w0 w L)(hi:L[i]?=some (.obj m (.map es clock)))
  (kk:∀b w',OwnS S w0 w' (.obj b (.mapIter (some m) clock #[] clock)::L)→K (.pointer (some ⟨b,0,none⟩)) w'):DoX P (DB T (.map (some m))) w PK K:=by
 have h1:w.heap[m]?=some (.map es clock):=ho.at_ i hi;have hr:=run_range_map (P:=P) w T k e m es clock ht h1;exact pQ (bW hr) (kk _ _ (ho.GP _))
theorem Tg (es:Array MapEntry):PI es #[] []:=⟨[],rfl,(fun e he=>by cases he),abU,rfl⟩
theorem Vy (i j:Nat){b m clock:Nat}{es:Array MapEntry}{seen:Array Nat}{al done:List (List UInt8×Value)}{ty:TypeId}(ho:OwnS S w0 w L)(hi:L[i]?=some (.obj b (.mapIter (some m) clock seen clock)))(hj:L[j]?=some (.obj m (.map es clock)))
  (hf:MapF al es clock) (hs:PI es seen done) (kend:done.Perm al→K (.tuple #[.bool false]) w)
  (knext:∀(p:List UInt8×Value) (e:MapEntry) (w':World),p∈al→p ∉ done∨True→e∈es.toList→e.key=strK p.1→e.val=p.2→PI es (seen.push e.born) (done++[p])→done.length < al.length →
   OwnS S w0 w' (L.set i (.obj b (.mapIter (some m) clock (seen.push e.born) clock)))→K (.tuple #[.bool true,strK p.1,p.2]) w') :
  DoX P (Ll (.pointer (some ⟨b,0,none⟩)) false ty) w PK K:=by
 have h1:w.heap[b]?=some (.mapIter (some m) clock seen clock):=ho.at_ i hi;have h2:w.heap[m]?=some (.map es clock):=ho.at_ j hj;obtain⟨ds,d1,d2,d3,d4⟩:=hs;have hds:ds.length=done.length:=by simpa using congrArg List.length d4
 have hel:es.toList.length=al.length:=by simpa using congrArg List.length hf.al
 rcases Go.run_next_at (P:=P) w ty b m clock clock seen es clock h1 h2 hf.old (Yw _) with ⟨hl,hr⟩|⟨e,he,w1,hw1,hr⟩
 ·refine pQ (bW hr) (kend ?_)
  -- all have come
  have hall:∀x∈es.toList,x∈ds:=by
   intro x hx;have hc:seen.contains x.born=true:=by
    cases hcc:seen.contains x.born with
   |true=>rfl
   |false=>
     exfalso;have hm:x∈(leftOf es seen).toList:=by
      unfold leftOf;rw[Array.toList_filter,List.mem_filter];exact⟨hx,by simp only[hcc];rfl⟩
     have:0 < (leftOf es seen).size:=by
      rw[←acK];exact List.length_pos_of_mem hm
     omega
   have hm:x.born∈seen.toList:=by simpa using hc
   rw[d1] at hm;obtain⟨y,hy,hyb⟩:=YN.1 hm;rw[←born_inj hf.nodup (d2 y hy) hx hyb];exact hy
  have hp:ds.Perm es.toList:=(List.perm_ext_iff_of_nodup (pR d3) (pR hf.nodup)).2 fun x=>⟨d2 x,hall x⟩;have:=hp.map fun e=>(e.key,e.val);rw[d4,hf.al] at this;exact VL this
 ·-- one comes
  have hem:e∈es.toList∧seen.contains e.born=false:=by
   unfold leftOf at he;rw[Array.toList_filter,List.mem_filter] at he;exact⟨he.1,by simpa using he.2⟩
  have hk:(e.key,e.val)∈es.toList.map (fun e=>(e.key,e.val)):=YN.2 ⟨e,hem.1,rfl⟩;rw[hf.al] at hk;obtain⟨p,hp,hpe⟩:=YN.1 hk;simp only[ZI] at hpe;have hnb:e.born ∉ ds.map (·.born):=by
   rw[←d1];intro hm;have:seen.contains e.born=true:=by simpa using hm
   rw[hem.2] at this;cases this
  have hs':PI es (seen.push e.born) (done++[p]):=by
   refine⟨ds++[e],by simp[d1],?_,?_,?_⟩
   ·intro x hx;rcases YZ.1 hx with hx|hx
    ·exact d2 x hx
    ·rw[Zs] at hx;subst hx;exact hem.1
   ·rw[ZR,abN];refine⟨d3,by simp,fun a ha c hc=>?_⟩;simp at hc;subst hc;intro e2;exact hnb (by rw[←e2];exact ha)
   ·simp[d4,hpe.1,hpe.2]
  have hlt:done.length < al.length:=by
   rw[←hds,←hel];exact Oo (e::ds) es.toList (aaT.2 ⟨fun hm=>hnb (YN.2 ⟨e,hm,rfl⟩),pR d3⟩) (fun x hx=>by
    rcases Yq.1 hx with rfl|hx
    ·exact hem.1
    ·exact d2 x hx)
  have how:OwnS S w0 w1 L:=by
   rcases hw1 with rfl|rfl
   ·exact ho
   ·exact ho.drew
  have hkk:=BZ (o':=.mapIter (some m) clock (seen.push e.born) clock) how i hi;rw[←hpe.1,←hpe.2] at hr;exact pQ (bW hr) (knext p e _ hp (.inr trivial) hem.1 hpe.1.symm hpe.2.symm hs' hlt hkk)
theorem Vn (i j:Nat){b m clock:Nat}{es:Array MapEntry}{seen:Array Nat}{e:MapEntry}{al:List (List UInt8×Value)}(ho:OwnS S w0 w L)(hi:L[i]?=some (.obj b (.mapIter (some m) clock (seen.push e.born) clock)))(hj:L[j]?=some (.obj m (.map es clock)))
  (hf:MapF al es clock) (he:e∈es.toList):DoX P (Rq (.pointer (some ⟨b,0,none⟩))) w PK K=K (.tuple #[e.key,e.val]) w:=
 aU (bW (run_entry_at (P:=P) w b m clock seen es clock e (ho.at_ i hi) (ho.at_ j hj) he hf.nodup))
end
end Eng
end
section
open Eng Go.RowKit
def KvR (A:Nat→Prop)(w:World):List (List UInt8×Value)→List Ps.Kv→Prop
|[],[]=>True
|p::al,q::l=>p.1=q.1∧OV A w p.2 q.2∧KvR A w al l
|_,_=>False
theorem KvR.le {M N:Mem}(h:M.le N):∀{al:List (List UInt8×Value)} {l:List Ps.Kv},KvR M.A M.w al l→KvR N.A N.w al l
|[],[],_=>trivial
|_::_,_::_,⟨h1,h2,h3⟩=>⟨h1,h2.le h,KvR.le h h3⟩
|[],_::_,h=>h.elim
|_::_,[],h=>h.elim
section
variable {A:Nat→Prop}{w:World}
theorem KvR.fst:∀{al:List (List UInt8×Value)} {l:List Ps.Kv},KvR A w al l→al.map (·.1)=l.map (·.1)
|[],[],_=>rfl
|_::_,_::_,⟨h1,_,h3⟩=>by rw[Y1,Y1,h1,KvR.fst h3]
|[],_::_,h=>h.elim
|_::_,[],h=>h.elim
theorem KvR.snoc {k:List UInt8}{v:Value}{o:Ob}(hv:OV A w v o):∀{al:List (List UInt8×Value)} {l:List Ps.Kv},KvR A w al l→KvR A w (al++[(k,v)]) (l++[(k,o)])
|[],[],_=>⟨rfl,hv,trivial⟩
|_::_,_::_,⟨h1,h2,h3⟩=>⟨h1,h2,KvR.snoc hv h3⟩
|[],_::_,h=>h.elim
|_::_,[],h=>h.elim
theorem KvR.mem:∀{al:List (List UInt8×Value)} {l:List Ps.Kv},KvR A w al l→∀{p:List UInt8×Value},p∈al→∃o,(p.1,o)∈l∧OV A w p.2 o
|[],_,_,p,hp=>by cases hp
|a::_,b::_,⟨h1,h2,h3⟩,p,hp=>by
  rcases Yq.1 hp with rfl|hp
  ·exact⟨b.2,by rw[h1];exact abF,h2⟩
  ·obtain⟨o,ho,hv⟩:=KvR.mem h3 hp;exact⟨o,Za _ ho,hv⟩
|_::_,[],h,_,_=>h.elim
theorem KvR.look {k:List UInt8}{o:Ob}:∀{al:List (List UInt8×Value)} {l:List Ps.Kv},KvR A w al l→(l.map (·.1)).Nodup→(k,o)∈l→∃v,rZ al k=some v∧OV A w v o
|[],[],_,_,hm=>by cases hm
|p::al,q::l,⟨h1,h2,h3⟩,hn,hm=>by
  rw[Y1,aaT] at hn;by_cases hk:p.1=k
  ·have hq:(k,o)=q:=by
    rcases Yq.1 hm with h|h
    ·exact h
    ·exact absurd (YN.2 ⟨(k,o),h,by rw[←h1,hk]⟩) hn.1
   refine⟨p.2,by unfold rZ;rw[List.find?_cons_of_pos (by simpa using hk)];rfl,?_⟩;rw[←hq] at h2;exact h2
  ·have hm':(k,o)∈l:=by
    rcases Yq.1 hm with h|h
    ·exact absurd (by rw[h1,←h]) hk
    ·exact h
   obtain⟨v,hv,ho⟩:=KvR.look h3 hn.2 hm';refine⟨v,?_,ho⟩;unfold rZ at hv ⊢;rw[List.find?_cons_of_neg (by simpa using hk)];exact hv
|[],_::_,h,_,_=>h.elim
|_::_,[],h,_,_=>h.elim
def TW:Value→Int
|.agg cs=>match cs.toList with|.int _ k::_=>k|_=>0
|_=>0
theorem OB {v:Value}{o:Ob}(h:OV A w v o):TW v=o.k:=by
 obtain⟨vk,vc,cs,rfl,_⟩:=h.open;rfl
def wL (al:List (List UInt8×Value)):List (List UInt8):=(al.filter fun p=>decide (TW p.2≠0)).map (·.1)
theorem KvR.live:∀{al:List (List UInt8×Value)} {l:List Ps.Kv},KvR A w al l→wL al=Ps.live l
|[],[],_=>rfl
|p::al,q::l,⟨h1,h2,h3⟩=>by
  have ih:=KvR.live h3;unfold wL Ps.live at *;rw[List.filter_cons,List.filter_cons,OB h2];split
  ·rw[Y1,Y1,ih,h1]
  ·exact ih
|[],_::_,h=>h.elim
|_::_,[],h=>h.elim
theorem Pu (al:List (List UInt8×Value))(p:List UInt8×Value):wL (al++[p])=wL al++(if TW p.2≠0 then [p.1] else []):=by
 unfold wL;rw[List.filter_append,ZR]
 congr 1
 by_cases h:TW p.2=0<;>simp[h]
theorem OH {a b:List (List UInt8×Value)}(h:a.Perm b):(wL a).Perm (wL b):=(h.filter _).map _
theorem Ht (al:List (List UInt8×Value)):(wL al).length≤al.length:=by
 unfold wL;rw[List.length_map];exact List.length_filter_le _ _
end
section
variable {w:World}{PK:PKT}{K:VWP}{S:Nat→Prop}{w0:World}{L:List Ent}
theorem zOb:(Tryz.prog.info? 25).bind (·.zero)=some (obV ob0 nilS nilS):=by kernel_rfl
theorem XX (i:Nat){b:Nat}{al:List (List UInt8×Value)}(ho:OwnS S w0 w L)(hi:L[i]?=some (.mapB b al))(x:List UInt8) :
  DoX prog (OU 224 (.map (some b)) (.string ⟨x.toArray⟩) true) w PK K=K (.tuple #[(rZ al x).getD (obV ob0 nilS nilS),.bool (rZ al x).isSome]) w:=
 aU (NW (ok:=true) abD Ym zOb (RG (ho.at_ i hi)) x)
theorem W8 (i:Nat){b:Nat}{al:List (List UInt8×Value)}(ho:OwnS S w0 w L)(hi:L[i]?=some (.mapB b al)){x:List UInt8}{v:Value}(hv:rZ al x=some v) :
  DoX prog (OU 224 (.map (some b)) (.string ⟨x.toArray⟩) false) w PK K=K v w:=by
 have:=aU (PK:=PK) (K:=K) (NW (ok:=false) abD Ym zOb (RG (ho.at_ i hi)) x);rw[hv] at this;exact this
theorem lenM (i:Nat){b:Nat}{al:List (List UInt8×Value)}{cs:Array Bool}(ho:OwnS S w0 w L)(hi:L[i]?=some (.mapB b al)) :
  DoX prog (mB .len #[224] 3 cs #[.map (some b)]) w PK K=K (.int .i64 (al.length:Int)) w:=by
 obtain⟨es,clock,h1,h2⟩:=(show ∃es clock,w.heap[b]?=some (.map es clock)∧MapF al es clock from ho.at_ i hi);have hl:es.size=al.length:=by
  have:=congrArg List.length h2.al;simpa using this
 refine aU ?_;simp[mB,builtin,Builtin.len_,run_underlying abD,getObj,h1,goInt,hl,Sem.run]
end
def itAt (b:Nat)(w:World):Nat:=match w.heap[b]? with|some (.mapIter _ _ seen _)=>seen.size|_=>0
theorem Q4 {b:Nat}{m clock:Nat}{seen:Array Nat}{w:World}(h:(Ent.obj b (.mapIter (some m) clock seen clock)).is w):itAt b w=seen.size:=by
 unfold itAt;rw[show w.heap[b]?=_ from h]
theorem Rb {es:Array MapEntry}{seen:Array Nat}{done:List (List UInt8×Value)}(h:PI es seen done):seen.size=done.length:=by
 obtain⟨ds,d1,_,_,d4⟩:=h;rw[←acK,d1,List.length_map];simpa using congrArg List.length d4
theorem Wq {S0:Nat→Prop}{w W:World}{b b4 b5 b9:Nat}{s:List UInt8}{a:Int}{N:Mem}{al:List (List UInt8×Value)}{l:List Ps.Kv}{o:Ob}{K:Ending→World→Prop}
  (hkv:KvR N.A N.w al l) (hnd:(l.map (·.1)).Nodup) (hmade:Ps.Made o l) (hlen:l.length≤8191)
  (ho:OwnS S0 w W [obE b9 Ps.dE nilS nilS,keyE nilS [],kidE nilS 0 [],obE b4 ob0 nilS nilS,.mapB b5 al,rmE b s a N])
  (kend:∀(W':World) (N2:Mem) (L:List Ent) (v:Value),OwnS S0 w W' (rdE b s a::.mem N2::L)→N.le N2→OV N2.A N2.w v o→K (.returned v) W') :
  DoX prog (DB 224 (.map (some b5))) W (pk K) fun t49 w=>LoopX [] w (fun vs2 w N2=>∀_:Sg,fX (.pointer (some ⟨b4,0,none⟩)) (.map (some b5)) (.pointer (some ⟨b9,0,none⟩)) t49 w N2 K):=by
 have hall:al.length=l.length:=by simpa using congrArg List.length hkv.fst
 obtain⟨es,clock,hf,ho⟩:=ho.Xu 4 rfl;refine SH 4 abD ho rfl fun it w1 ho=>?_;refine loop (fun vs w'=>∃(seen:Array Nat) (done:List (List UInt8×Value)) (vk:Value),vs=[]∧PI es seen done∧done.length≤al.length∧(∀p∈done,p∈al) ∧
   OwnS S0 w w' [.obj it (.mapIter (some b5) clock seen clock),obE b9 Ps.dE vk nilS,keyE vk (wL done),kidE nilS 0 [],obE b4 ob0 nilS nilS,.obj b5 (.map es clock),rmE b s a N]) (fun _ w=>al.length - itAt it w)
  ⟨#[],[],nilS,rfl,Tg es,by simp,by simp,ho⟩ ?_
 clear ho;rintro vs w2 ⟨seen,done,vk,rfl,hs,hdl,hda,ho⟩ _;simp only[fX,iN,dx,cx];have hit:itAt it w2=seen.size:=Q4 (ho.at_ 0 rfl);have hss:=Rb hs;refine Vy 0 5 ho rfl rfl hf hs (fun hperm=>?_) fun p e w3 hpa _ he hek hev hs' hlt ho=>?_
 ·-- all have come
  simp only[ex,i_f];have ho:=ho.tail;have ho:OwnS S0 w w2 [obE b9 Ps.dE vk nilS,keyE vk (wL done),kidE nilS 0 [],obE b4 ob0 nilS nilS,.obj b5 (.map es clock),rmE b s a N]:=ho;have ho:=ho.Xg 4 rfl hf;have ho:OwnS S0 w w2 [obE b9 Ps.dE vk nilS,keyE vk (wL done),kidE nilS 0 [],obE b4 ob0 nilS nilS,.mapB b5 al,rmE b s a N]:=ho;rw[eC,bV ho 0 rfl];have hll:=Ht done;refine dS (QZ vk (wL done) w2 (ho.at_ 1 rfl) (by omega)) ?_;rintro _ w3 ⟨rfl,ht⟩;have ho:=ho.turn 1 rfl ht;have hsort:ET (wL done)=o.keys:=O8 ((OH hperm).trans (by rw[hkv.live];exact hmade.perm)) hmade.rise;rw[hsort] at ho;have ho:OwnS S0 w w3 [obE b9 Ps.dE vk nilS,keyE vk o.keys,kidE nilS 0 [],obE b4 ob0 nilS nilS,.mapB b5 al,rmE b s a N]:=ho;have hkl:o.keys.length≤8191:=by
   have h1:=hmade.perm.length_eq;have h2:=hkv.live (A:=N.A);have h3:=Ht al;rw[←h1,←h2];omega
  rw[eC,bV ho 0 rfl,bY Yn (ho.slU 1 rfl)];refine loop (fun vs w'=>∃(i:Nat) (cs:List Value) (vc:Value),vs=[.int .i64 i]∧i≤o.keys.length∧OVs N.A N.w cs (o.kids.take i) ∧
   OwnS S0 w w' [obE b9 Ps.dE vk vc,keyE vk o.keys,kidE vc i cs,obE b4 ob0 nilS nilS,.mapB b5 al,rmE b s a N]) (fun vs _=>o.keys.length - n0 vs) ⟨0,[],nilS,rfl,by omega,OVs.nil,ho⟩ ?_
  clear ho;rintro vs w4 ⟨i,cs,vc,rfl,hi,hov,ho⟩ _;simp only[mM,gd,rs,iN,dx];by_cases hlt:(i:Int) < (o.keys.length:Int)
  ·have hi':i < o.keys.length:=by omega
   simp only[Yk hlt,i_t];obtain⟨g,cap,_,ia,ld⟩:=key_row 1 ho rfl hi';refine aU (ia w4) |>.mpr (aU (ld w4 (ho.at_ 1 rfl)) |>.mpr ?_);rw[dR,bJ ho 0 rfl];obtain⟨v,hv,hvo⟩:=hkv.look hnd (Ps.VO hmade hi');rw[W8 4 ho rfl hv];obtain⟨xk,xc,xcs,rfl,hx⟩:=hvo.open;refine HA _ hx.keys.one hx.kids.one ho fun nb w5 ho=>?_;refine LX 3 ho rfl (ho.sl 0 rfl 6 1 1 rfl) (iI _ hx.keys.one hx.kids.one) (by omega) fun vc' w6 ho=>?_;have ho:=ho.tail;have hvc':=bT (ho.at_ 2 rfl);rw[dR];refine aW 0 ho rfl (by kernel_rfl) hvc' (show 0+5 < 6 by omega) fun w7 ho=>?_;rw[aB (by omega) (by omega)];refine bO ⟨i+1,_,vc',rfl,by omega,?_,ho⟩ (by show o.keys.length - Int.toNat ((i:Int)+1) < o.keys.length - Int.toNat (i:Int);omega);have hkl2:i < o.kids.length:=by have:=hmade.len;omega
   rw[YL hkl2];exact gQ hov (I2 hx.ov)
  ·have hi':i=o.keys.length:=by omega
   simp only[Yl hlt,i_f];subst hi';rw[hmade.len,Ze] at hov;have hvk:=bT (ho.at_ 1 rfl);have hvc:=bT (ho.at_ 2 rfl);rw[ob_v ho 0 rfl];refine aQ (o':=Ps.dE) 3 hvk hvc ho rfl fun w5 ho=>?_;refine eG (aX (ho.agg 3 rfl dM)) ?_;have ho:OwnS S0 w w5 ([obE b9 Ps.dE vk vc,keyE vk o.keys,kidE vc o.keys.length cs,obE b4 Ps.dE vk vc,.mapB b5 al]++([rmE b s a N]++[])):=ho;have ho:=ho.front.split;have ho:OwnS S0 w w5 ([rdE b s a,.mem N,obE b9 Ps.dE vk vc]++([keyE vk o.keys,kidE vc o.keys.length cs]++[obE b4 Ps.dE vk vc,.mapB b5 al])):=ho;have ho:=ho.front;obtain⟨N2,hle2,hrow2,ho⟩:=OwnS.gP (L:=[kidE vc o.keys.length cs,rdE b s a,.mem N,obE b9 Ps.dE vk vc,obE b4 Ps.dE vk vc,.mapB b5 al]) ho 2 rfl;obtain⟨N3,hle3,hrow3,ho⟩:=OwnS.gP (L:=[rdE b s a,.mem N2,obE b9 Ps.dE vk vc,obE b4 Ps.dE vk vc,.mapB b5 al]) ho 1 rfl;have hval:obV Ps.dE vk vc=obV o vk vc:=by
    unfold obV obC;rw[hmade.k,hmade.n,hmade.g,hmade.s];rfl
   refine kend w5 N3 _ _ ho (hle2.trans hle3) ?_;show OV N3.A N3.w (obV Ps.dE vk vc) o;rw[hval];rw[hmade.len] at hrow3;exact ObAt.ov ⟨hrow2.le hle3,hrow3,(hov.le hle2).le hle3⟩
 ·simp only[ex,i_t];have ho:OwnS S0 w w3 [.obj it (.mapIter (some b5) clock (seen.push e.born) clock),obE b9 Ps.dE vk nilS,keyE vk (wL done),kidE nilS 0 [],obE b4 ob0 nilS nilS,.obj b5 (.map es clock),rmE b s a N]:=ho;rw[Vn 0 5 ho rfl rfl hf he,hek,hev];simp only[ex];obtain⟨x,hxl,hxo⟩:=hkv.mem hpa;have hkind:=OB hxo;obtain⟨xk,xc,xcs,hpe,hx⟩:=hxo.open;obtain⟨pk1,pv⟩:=p;simp only at hpe hkind;subst hpe;refine bN ho fun b11 w4 ho=>?_;refine aQ (o':=x) 0 hx.keys.one hx.kids.one ho rfl fun w5 ho=>?_;have ho:OwnS S0 w w5 [obE b11 x xk xc,.obj it (.mapIter (some b5) clock (seen.push e.born) clock),obE b9 Ps.dE vk nilS,keyE vk (wL done),kidE nilS 0 [],obE b4 ob0 nilS nilS,.obj b5 (.map es clock),rmE b s a N]:=ho;rw[cN,ob_k ho 0 rfl];simp only[rs];have hsn:=Pu done (pk1,obV x xk xc);have mea:∀{W:World} {L:List Ent},OwnS S0 w W L→L[0]?=some (.obj it (.mapIter (some b5) clock (seen.push e.born) clock))→al.length - itAt it W < al.length - itAt it w2:=by
   intro W L ho hi;rw[hit,Q4 (ho.at_ 0 hi),Array.size_push];omega
  have hda':∀q∈done++[(pk1,obV x xk xc)],q∈al:=by
   intro q hq;rcases YZ.1 hq with hq|hq
   ·exact hda q hq
   ·rw[Zs] at hq;subst hq;exact hpa
  by_cases hk:x.k=0
  ·simp only[hk,ne_eq,not_true,Yi,i_f];rw[Yg (by rw[hkind,hk];simp),YQ] at hsn;refine bO ⟨_,done++[(pk1,obV x xk xc)],vk,rfl,hs',by simp;omega,hda',?_⟩ (mea ho.tail rfl);rw[hsn];exact ho.tail
  ·simp only[hk,ne_eq,Yz,Yj,i_t];rw[Yh (by rw[hkind];exact hk)] at hsn;rw[eC,bV ho 2 rfl];have hll:=Ht done;show DoX prog (aS 22 1 #[(0,.string ⟨pk1.toArray⟩)]) w5 _ _;refine Fa pk1 ho fun nb w6 ho=>?_;refine Mp 4 ho rfl (ho.sl 0 rfl 1 1 1 rfl) (by simp[Value.oneCell']) (by omega) fun vk' w7 ho=>?_;have ho:=ho.tail.tail;have ho:OwnS S0 w w7 [.obj it (.mapIter (some b5) clock (seen.push e.born) clock),obE b9 Ps.dE vk nilS,keyE vk' (wL done++[pk1]),kidE nilS 0 [],obE b4 ob0 nilS nilS,.obj b5 (.map es clock),rmE b s a N]:=by
    have e:bB (wL done++[pk1])=bB (wL done)++[.string ⟨pk1.toArray⟩]:=by rw[nN];rfl
    rw[keyE,Yp,acQ,e];exact ho
   have hvk':=bT (ho.at_ 2 rfl);rw[eC];refine aW 1 ho rfl (by kernel_rfl) hvk' (show 0+4 < 6 by omega) fun w8 ho=>?_;refine bO ⟨_,done++[(pk1,obV x xk xc)],vk',rfl,hs',by simp;omega,hda',?_⟩ (mea ho rfl);rw[hsn];exact ho
end
section
open Eng Go.RowKit
theorem Pq {s:List UInt8}{sub:Int→Ps.R}{m:Nat}{a:Int}{o:Ob}{met:List (List UInt8)}(h:¬Has s a):Ps.dict s sub (m+1) a o met=Ps.bad (tR s a):=by
 rw[Ps.dict];unfold Has at h;unfold tR;by_cases e1:(Lx.next s a).2=0
 ·have e2:(Lx.next s a).1.k=0:=YA.1 fun h2=>h ⟨e1,h2⟩;rw[Yg (by rw[e1];simp),Yg (fun h3=>by rw[e2] at h3;exact absurd h3.1 (by decide)),Yh e2,Yg (by rw[e1];simp)]
 ·rw[Yh e1,Yh e1]
theorem R2 (s:List UInt8)(hs:s.length≤1000000000)(n:Nat)(hn:n≤23)(hsub:PObj s n):WK s n:=by
 intro b a M w h0 h1 hr;generalize hR:Ps.dict s (Ps.obj s n) (s.length+1) a Ps.dE []=R;refine Be (fun K ho hret hpan=>Ak ?_) hr;unfold iJ dx;have ho:=ho.pair;refine bN ho fun b4 w1 ho=>?_;refine Qy ho fun b5 w2 ho=>?_;generalize hS0:(rmE b s a M).blk=S0 at *;have ho:OwnS S0 w w2 [.mapB b5 [],obE b4 ob0 nilS nilS,rmE b s a M]:=ho;have fall:∀{W:World} {L:List Ent} {e2:Ent} {N:Mem} (e:Int),OwnS S0 w W (L++([.two e2 (.mem N)]++[]))→M.le N→R=Ps.bad e→e≠0→pk K [sZ e] W:=by
  intro W L e2 N e ho hle he h0;subst he;exact hpan h0 e2 N W _ (ho.front).split hle
 refine loop (fun vs w'=>∃(a':Int) (m:Nat) (o:Ob) (l:List Ps.Kv) (al:List (List UInt8×Value)) (N:Mem),vs=[]∧0≤a'∧a'≤s.length∧(l.length:Int)≤a'∧l.length≤8191∧l.length+m=s.length+1 ∧
   Ps.dict s (Ps.obj s n) m a' o (l.map (·.1))=R∧M.le N∧KvR N.A N.w al l∧(l.map (·.1)).Nodup∧Ps.Made o l ∧
   OwnS S0 w w' [.mapB b5 al,obE b4 ob0 nilS nilS,rmE b s a' N]) (fun _ w=>s.length - rdAt b w)
  ⟨a,s.length+1,Ps.dE,[],[],M,rfl,h0,h1,by simpa using h0,by simp,by simp,hR,M.le_refl,trivial,abU,Ps.Xp,ho⟩ ?_
 clear ho hR;rintro vs w4 ⟨a',m,o,l,al,N,rfl,ha0,ha1,hla,hmx,hml,hdict,hle,hkv,hnd,hmade,ho⟩ _;simp only[nT,iN,dx,cx];obtain⟨m,rfl⟩:∃k,m=k+1:=⟨m - 1,by omega⟩;have hall:al.length=l.length:=by simpa using congrArg List.length hkv.fst
 have hat:rdAt b w4=a'.toNat:=KV (ho.at_ 2 rfl).1;refine c_rm ho 2 rfl (DF b s a' N w4 (by omega) (ho.at_ 2 rfl)) ?_ fun e2 w5 hn ho=>?_
 rotate_left
 ·rw[Pq hn] at hdict;exact fall (L:=[_,_]) _ ho hle hdict.symm qO
 rintro _ N1 w5 hhas hle1 rfl ho;have hbd:=@Lx.eE s a' hhas.1 hhas.2;have hge:=Lx.eW s a'.toNat;obtain⟨e1,e2⟩:=hhas;rw[Ps.dict] at hdict;generalize Lx.next s a'=x at *
 rw[Yg (by rw[e1];simp)] at hdict;refine gJ ho fun b6 w6 ho=>?_;refine jS 0 ho rfl fun w7 ho=>?_;have ho:OwnS S0 w w7 [tokE b6 x.1,.mapB b5 al,obE b4 ob0 nilS nilS,rmE b s x.1.t N1]:=ho;rw[tk_v ho 0 rfl];refine aP ho (R:=fun v=>v=.bool (decide (x.1.k=6)&&decide (x.1.s=[62,62]))) (Hh x.1 6 [62,62] w7) ?_;rintro _ w8 rfl ho;cases e3:(decide (x.1.k=6)&&decide (x.1.s=[62,62])) with
|true=>
  simp only[Ys,Yx] at e3;rw[Yh ⟨e3.1,e3.2⟩] at hdict;simp only[i_t];have hb7:∀{PK:PKT} {K:VWP},DoX prog (aJ 25 #[(0,(.int .i64 7))]) w8 PK K=K (obV Ps.dE nilS nilS) w8:=aU (by kernel_rfl);rw[hb7];have ho:=(ho.nilU 25 6).nilU 9 1;refine bN ho fun b9 w9 ho=>?_;refine aQ (o':=Ps.dE) (vk':=nilS) (vc':=nilS) 0 rfl rfl ho rfl fun w10 ho=>?_;have ho:OwnS S0 w w10 ([obE b9 Ps.dE nilS nilS,keyE nilS [],kidE nilS 0 []]++([tokE b6 x.1]++[.mapB b5 al,obE b4 ob0 nilS nilS,rmE b s x.1.t N1])):=ho;have ho:=ho.front.tail;have ho:OwnS S0 w w10 ([obE b9 Ps.dE nilS nilS,keyE nilS [],kidE nilS 0 []]++([.mapB b5 al]++([obE b4 ob0 nilS nilS]++[rmE b s x.1.t N1]))):=ho;have ho:OwnS S0 w w10 [obE b9 Ps.dE nilS nilS,keyE nilS [],kidE nilS 0 [],obE b4 ob0 nilS nilS,.mapB b5 al,rmE b s x.1.t N1]:=
   ho.perm (acR [obE b9 Ps.dE nilS nilS,keyE nilS [],kidE nilS 0 []] (List.Perm.swap _ _ _))
  refine Wq (hkv.le hle1) hnd hmade hmx ho fun W N2 L v ho hle2 hv=>?_;subst hdict;exact hret rfl v N2 W L ho ((hle.trans hle1).trans hle2) hv
|false=>
 have e3':¬(x.1.k=6∧x.1.s=[62,62]):=fun h=>by
  rw[Yk h.1,Yk h.2] at e3;exact absurd e3 (by decide)
 rw[Yg e3',Yg e2] at hdict;simp only[i_f,cL,tk_s ho 0 rfl];rw[XX 1 ho rfl];simp only[ex];have hlook:∃o' vk vc,(rZ al x.1.s).getD (obV ob0 nilS nilS)=obV o' vk vc∧vk.oneCell'=true∧vc.oneCell'=true:=by
  cases hl:rZ al x.1.s with
 |none=>exact⟨ob0,nilS,nilS,rfl,rfl,rfl⟩
 |some v=>
   have hm:(x.1.s,v)∈al:=by
    unfold rZ at hl;obtain⟨p,hp,hpv⟩:=Zj.1 hl;have h1:=List.find?_some hp;have h2:=List.mem_of_find?_eq_some hp;simp only[Yx] at h1;rw[←h1,←hpv];exact h2
   obtain⟨q,_,hq⟩:=hkv.mem hm;obtain⟨vk,vc,cs,he,ha⟩:=hq.open;exact⟨q,vk,vc,he,ha.keys.one,ha.kids.one⟩
 obtain⟨o',vk7,vc7,hlv,ok7,oc7⟩:=hlook;rw[hlv];refine bN ho fun b7 w9 ho=>?_;refine aQ (o':=o') 0 ok7 oc7 ho rfl fun w10 ho=>?_;have ho:=ho.tail;have ho:OwnS S0 w w10 [tokE b6 x.1,.mapB b5 al,obE b4 ob0 nilS nilS,rmE b s x.1.t N1]:=ho;have hmet:(rZ al x.1.s).isSome=decide (x.1.s∈l.map (·.1)):=by
  rw[←hkv.fst];cases hl:rZ al x.1.s with
 |none=>rw[Yl (EP.1 hl)];rfl
 |some v=>
   have:¬x.1.s ∉ al.map (·.1):=fun h=>by rw[EP.2 h] at hl;cases hl
   rw[Yk (YA.1 this)];rfl
 refine join fun J hJ=>?_;rw[cO,tk_k ho 0 rfl];simp only[rs];by_cases e4:x.1.k=4
 case neg=>
  rw[Yh e4] at hdict;simp only[e4,ne_eq,Yz,Yj,i_t];exact throw (fall (L:=[_,_,_]) 3 ho (hle.trans hle1) hdict.symm (by decide))
 rw[Yg (by rw[e4];simp)] at hdict;simp only[e4,ne_eq,not_true,Yi,i_f,hmet];by_cases e5:x.1.s∈l.map (·.1)
 ·rw[Yh e5] at hdict;simp only[Yk e5,i_t];exact throw (fall (L:=[_,_,_]) 9 ho (hle.trans hle1) hdict.symm (by decide))
 rw[Yg e5] at hdict;simp only[Yl e5,i_f];rw[lenM 1 ho rfl,List.length_map] at *;simp only[rs];by_cases e6:l.length=8191
 ·rw[Yh e6] at hdict;simp only[show (8191:Int)≤(al.length:Int) by omega,Yj,i_t];exact throw (fall (L:=[_,_,_]) 6 ho (hle.trans hle1) hdict.symm (by decide))
 rw[Yg e6] at hdict;simp only[Yl (show ¬(8191:Int)≤(al.length:Int) by omega),i_f];refine hJ _ _ fun _=>?_;unfold nZ;have ho:=ho.drew;refine⟨fun W=>(tokE b6 x.1).is W,ho.at_ 0 rfl,?_⟩;refine aZ _ (fun _=>bC ft4) ?_;refine fG (.string ⟨x.1.s.toArray⟩) (fun W h=>aL nStr (aV (T:=58) (cs:=tokC x.1) (i:=4) h rfl)) ?_;refine c_rm ho 3 rfl (DF b s x.1.t N1 _ (by omega) (ho.at_ 3 rfl)) ?_ fun e2 w11 hn ho=>?_
 rotate_left
 ·rw[HY hn,Yh (show (Ps.bad (tR s x.1.t)).2.2≠0 from qO)] at hdict;exact fun _ _ _ _ _ _=>fall (L:=[_,_,_]) _ ho (hle.trans hle1) hdict.symm qO
 rintro _ N2 w11 hhas2 hle2 rfl ho;refine⟨ho.at_ 0 rfl,?_⟩;have hbd2:=@Ps.Dv s n x.1.t;have hob:=hsub b x.1.t N2 w11 hhas2 (ho.at_ 3 rfl);generalize Ps.obj s n x.1.t=e at *;refine c_rm ho 3 rfl hob ?_ fun e2 w12 hz ho=>?_
 rotate_left
 ·rw[Yh hz] at hdict;exact fun _ _ _ _ _ _=>fall (L:=[_,_,_]) _ ho ((hle.trans hle1).trans hle2) hdict.symm hz
 rintro u N3 w12 hz hle3 hu ho;have ho:OwnS S0 w w12 [tokE b6 x.1,.mapB b5 al,obE b4 ob0 nilS nilS,rmE b s e.2.1 N3]:=ho;refine⟨ho.at_ 0 rfl,?_⟩;have hln:rZ al x.1.s=none:=EP.2 (by rw[hkv.fst];exact e5);refine QL 1 abD Ym ho rfl x.1.s u hln fun w13 ho=>⟨ho.at_ 0 rfl,?_⟩;rw[Yg (by rw[hz];simp)] at hdict;have hbd3:=hbd2 hz;have hm2:=Ps.RH (v:=e.1) hmade e5;have hnd2:((l++[(x.1.s,e.1)]).map (·.1)).Nodup:=by
  rw[ZR,abN];refine⟨hnd,by simp,fun p hp q hq=>?_⟩;simp at hq;subst hq;exact fun h=>e5 (h▸hp)
 have h5:a' < e.2.1:=by
  have:=hbd3.1;omega
 refine bO ⟨e.2.1,m,Ps.join o x.1.s e.1,l++[(x.1.s,e.1)],al++[(x.1.s,u)],N3,rfl,by omega,hbd3.2,by simp;omega,by simp;omega,by simp;omega,?_,((hle.trans hle1).trans hle2).trans hle3,(((hkv.le hle1).le hle2).le hle3).snoc hu,hnd2,hm2,ho.tail⟩ ?_
 ·rw[ZR];exact hdict
 ·have hat2:rdAt b w13=e.2.1.toNat:=KV (ho.at_ 3 rfl).1;show s.length - rdAt b w13 < s.length - rdAt b w4;rw[hat,hat2];exact meas ha0 h5 hbd3.2
theorem ML (s:List UInt8)(hs:s.length≤1000000000)(n:Nat)(hn:n≤24):PObj s n:=
 TR s hs (fun n hn h=>Th s hs n hn h) (fun n hn h=>R2 s hs n hn h) n hn
end
section
open Eng Go.RowKit
namespace Ps
theorem Qr {s:List UInt8}{ok:Bool}{sub:Int→R}:∀(m:Nat) (a:Int) (acc:List Ob),(arr s ok sub m a acc).2.2≠0→arr s ok sub m a acc=bad (arr s ok sub m a acc).2.2
|0,_,_,_=>rfl
|m+1,a,acc,h=>by
  rw[arr] at h ⊢;split
  ·rename_i h1;rw[Yh h1] at h;exact absurd rfl h
  rename_i h1
  rw[Yg h1] at h;split
  ·rfl
  rename_i h2
  rw[Yg h2] at h;split
  ·rfl
  rename_i h3
  rw[Yg h3] at h;split
  ·rfl
  rename_i h4
  rw[Yg h4] at h;exact Qr m _ _ h
theorem Of {s:List UInt8}{sub:Int→R}:∀(m:Nat) (a:Int) (o:Ob) (met:List (List UInt8)),(dict s sub m a o met).2.2≠0→dict s sub m a o met=bad (dict s sub m a o met).2.2
|0,_,_,_,_=>rfl
|m+1,a,o,met,h=>by
  rw[dict] at h ⊢;split
  ·rfl
  rename_i h1
  rw[Yg h1] at h;split
  ·rename_i h2;rw[Yh h2] at h;exact absurd rfl h
  rename_i h2
  rw[Yg h2] at h;split
  ·rfl
  rename_i h3
  rw[Yg h3] at h;split
  ·rfl
  rename_i h4
  rw[Yg h4] at h;split
  ·rfl
  rename_i h5
  rw[Yg h5] at h;split
  ·rfl
  rename_i h6
  rw[Yg h6] at h;split
  ·rfl
  rename_i h7
  rw[Yg h7] at h;exact Of m _ _ _ h
theorem Vu {s:List UInt8}{t:Lx.Tok}:(leaf s t).2.2=0:=by
 unfold leaf;split
 ·cases ref s t<;>rfl
 all_goals (repeat' split)<;>rfl
theorem Rg {s:List UInt8}{n:Nat}{a:Int}(h:(obj s n a).2.2≠0):obj s n a=bad (obj s n a).2.2:=by
 have hob:obj s n a=_:=obj.eq_def s n a;simp only at hob
 revert h
 rw[hob];intro h;split
 ·rfl
 rename_i h1
 rw[Yg h1] at h;split
 ·rfl
 rename_i h2
 rw[Yg h2] at h;split
 ·rfl
 rename_i h3
 rw[Yg h3] at h;cases n with
|zero=>rfl
|succ n=>
  simp only at h ⊢;split
  ·rename_i h4;rw[Yh h4] at h;exact absurd Vu h
  rename_i h4
  rw[Yg h4] at h;split
  ·rename_i h5;rw[Yh h5] at h;exact Qr _ _ _ h
  ·rename_i h5;rw[Yg h5] at h;exact Of _ _ _ _ h
end Ps
theorem Fl:dN prog 157=true:=by kernel_rfl
theorem PS (b:Nat)(s:List UInt8)(a:Int)(M:Mem)(w:World)(hs:s.length≤1000000000)(hr:(rmE b s a M).is w) :
  Ret prog 100 #[rdP b] w (fun v w'=>∃N u e2,M.le N∧v=.tuple #[u,.int .i64 (Ps.obj s 24 a).2.2]∧OV N.A N.w u (Ps.obj s 24 a).1∧((Ps.obj s 24 a).2.2=0→e2=rdE b s (Ps.obj s 24 a).2.1)∧Turn (rmE b s a M) (.two e2 (.mem N)) w w'):=by
 refine aO fun K hK=>zJ ?_;unfold qB iN dx;have ho:OwnS (rmE b s a M).blk w w [rmE b s a M]:=OwnS.lend hr;generalize hS0:(rmE b s a M).blk=S0 at ho;refine bN ho fun b2 w1 ho=>?_;refine cI (fun b=>.pointer (some ⟨b,0,none⟩)) [.int .i64 0] 30 (fun _=>by kernel_rfl) ho fun b3 w2 ho=>?_;have ho:OwnS S0 w w2 [.cells b3 [.int .i64 0] 30,obE b2 ob0 nilS nilS,rmE b s a M]:=ho
 -- a syntax error
 have fail2:∀{W:World} {e2:Ent} {e:Int} {N:Mem},OwnS S0 w W [.cells b3 [.int .i64 0] 30,obE b2 ob0 nilS nilS,.two e2 (.mem N)]→M.le N→Ps.obj s 24 a=Ps.bad e→e≠0→cK (.pointer (some ⟨b2,0,none⟩)) (.pointer (some ⟨b3,0,none⟩)) K [sZ e] W:=by
  intro W e2 e N ho hle he h0;show pd prog _ K _ [sZ e] W;unfold pd;refine iD (by simp) Fl (yJ ?_);simp only[sR,recV,recM,sZ,Eng.Nk ZH,rs,Ti nfW,ex,i_t,i_f,dx];refine aW 0 ho rfl (by kernel_rfl) rfl (by simp) fun w7 ho=>?_;refine yF (aX (ho.agg 1 rfl dM)) (aX (AtV.cell rU (ho.cell 0 rfl 0 rfl))) (hK _ _ ⟨N,obV ob0 nilS nilS,e2,hle,?_,?_,?_,?_⟩)
  ·rw[he];rfl
  ·rw[he];exact eZ
  ·rw[he];exact fun h=>absurd h h0
  ·have ho:OwnS S0 w w7 ([.cells b3 [.int .i64 e] 30,obE b2 ob0 nilS nilS]++([.two e2 (.mem N)]++[])):=ho;have ho:=ho.front;subst hS0;exact OwnS.back ho
 refine c_rm ho 2 rfl (DF b s a M w2 (by omega) (ho.at_ 2 rfl)) ?_ fun e2 w3 hn ho=>fail2 ho M.le_refl (HY hn) qO;rintro _ N w3 hh hle rfl ho;have hob:=ML s hs 24 (by omega) b a N w3 hh (ho.at_ 2 rfl);rw[show (24:Int) - ((24:Nat):Int)=0 by decide] at hob;refine c_rm ho 2 rfl hob ?_ fun e2 w4 hz ho=>fail2 ho hle (Ps.Rg hz) hz;rintro u N2 w4 hz hle2 hu ho;obtain⟨xk,xc,xcs,rfl,hx⟩:=hu.open;refine aQ 1 hx.keys.one hx.kids.one ho rfl fun w5 ho=>?_;refine aW 0 ho rfl (by kernel_rfl) rfl (by simp) fun w6 ho=>?_;refine iD (by simp) Fl (yJ ?_);simp only[sR,recV,recM,Eng.MB ZH,rs,dx];have ho:OwnS S0 w w6 ([.cells b3 [.int .i64 0] 30,obE b2 (Ps.obj s 24 a).1 xk xc]++([.two (rdE b s (Ps.obj s 24 a).2.1) (.mem N2)]++[])):=ho;refine yF (aX (ho.agg 1 rfl dM)) (aX (AtV.cell rU (ho.cell 0 rfl 0 rfl))) (hK _ _ ⟨N2,obV (Ps.obj s 24 a).1 xk xc,_,hle.trans hle2,?_,hx.ov,fun _=>rfl,?_⟩)
 ·rw[hz];rfl
 ·have ho:=ho.front;subst hS0;exact OwnS.back ho
theorem FC (s:List UInt8)(a:Int)(hs:s.length≤1000000000)(M:Mem)(w:World)(hM:M.has w):RetM prog 61 #[.string ⟨s.toArray⟩,.int .i64 a] M w (objR (Ps.object s a)):=by
 refine cM hM fun K hK=>E2 ?_;unfold CO iN dx gfx efx cx;refine bN (OwnS.memS hM) fun b4 w1 ho=>?_;have fail:a < 0∨(s.length:Int) < a→DoX prog (aJ 25 #[]) w1 (pk K) (fun t W=>DoX prog (aC 25 (.pointer (some ⟨b4,0,none⟩)) t) W (pk K) fun _ W=>RetX prog [.cell (.pointer (some ⟨b4,0,none⟩)) 25,.val (.int .i64 0),.val (.int .i64 1)] W K):=by
  intro h;refine oR 0 ho rfl fun w' ho=>?_;refine hK _ _ M _ 1 ho rfl M.le_refl ?_;rw[Ps.object,Yh h];exact⟨_,rfl,eZ⟩
 by_cases h1:a < 0
 ·simp only[rs,Yk h1,g_un];exact fail (.inl h1)
 by_cases h2:(s.length:Int) < a
 ·simp only[rs,Yl h1,bF Ym,Yk h2,g_un];exact fail (.inr h2)
 simp only[rs,Yl h1,bF Ym,Yl h2,g_un];clear fail;have hPs:Ps.object s a=Ps.obj s 24 a:=by rw[Ps.object,Yg (by omega)]
 rw[hPs] at hK;have hb1:∀{PK:PKT} {K:VWP},DoX prog (aJ 130 #[(0,.string ⟨s.toArray⟩),(1,.int .i64 a)]) w1 PK K=K (.agg (rdC s a).toArray) w1:=aU (by kernel_rfl);rw[hb1];refine cI (fun b=>.pointer (some ⟨b,0,none⟩)) (rdC s a) 130 (fun _=>by kernel_rfl) ho fun b22 w2 ho=>?_;have ho:OwnS M.A w w2 ([rdE b22 s a]++([obE b4 ob0 nilS nilS]++([.mem M]++[]))):=ho;have ho:OwnS M.A w w2 ([rdE b22 s a]++([.mem M]++([obE b4 ob0 nilS nilS]))):=ho.perm (acR _ (List.Perm.swap _ _ _));have ho:=ho.pair;refine dS (PS b22 s a M w2 hs (ho.at_ 0 rfl)) ?_;rintro _ w3 ⟨N,u,e2,hle,rfl,hu,he2,ht⟩;have ho:=(ho.turn 0 rfl ht).split;have ho:OwnS M.A w w3 [e2,.mem N,obE b4 ob0 nilS nilS]:=ho;simp only[ex];obtain⟨xk,xc,xcs,rfl,hx⟩:=hu.open;refine bN ho fun b8 w4 ho=>?_;refine aQ 0 hx.keys.one hx.kids.one ho rfl fun w5 ho=>?_;have ho:OwnS M.A w w5 [obE b8 (Ps.obj s 24 a).1 xk xc,e2,.mem N,obE b4 ob0 nilS nilS]:=ho;simp only[rs];by_cases hz:(Ps.obj s 24 a).2.2=0
 case neg=>
  simp only[hz,ne_eq,Yz,Yj,i_t];refine oR 3 ho rfl fun w' ho=>?_;refine hK _ _ N _ 2 ho rfl hle ?_;rw[Ps.Rg hz];exact⟨_,rfl,eZ⟩
 simp only[hz,ne_eq,not_true,Yi,i_f];rw[he2 hz] at ho;have ho:=ho.drew;refine⟨fun W=>(obE b8 (Ps.obj s 24 a).1 xk xc).is W∧(rdE b22 s (Ps.obj s 24 a).2.1).is W,⟨ho.at_ 0 rfl,ho.at_ 1 rfl⟩,?_⟩;refine fG (obV (Ps.obj s 24 a).1 xk xc) (fun W h=>dH (AtV.agg dM (cs:=obC (Ps.obj s 24 a).1 xk xc) rfl fun j u hj=>by rw[Yu];exact aV (T:=25) h.1 hj)) ?_;refine aZ _ (fun _=>eY) (aZ _ (fun _=>bC fr1) (fG _ (fun W h=>WN h.2) ?_));refine aQ 3 hx.keys.one hx.kids.one ho rfl fun w6 ho=>⟨⟨ho.at_ 0 rfl,ho.at_ 1 rfl⟩,?_⟩;refine yK (aX (ho.agg 3 rfl dM)) eF eF (hK _ _ N _ 2 ho rfl hle ?_);exact⟨_,by rw[hz];rfl,hx.ov⟩
end
end Go.Proofs.YtkejpieaafeblaaGreatDoor


namespace Go.Proofs.YtkejpieaafeblaaGreatDoor
section
open Eng Go.RowKit
namespace Eng
structure Lend (P:Program) (f:Nat) (args:Array Value) (e:Ent) (w:World) (ok:Prop) (Q:Value→Ent→Prop) (c:List PanicEntry):Prop where
 ret:ok→Ret P f args w (fun v w'=>∃e',Q v e'∧Turn e e' w w')
 pan:¬ok→Pan P f args w (fun c' w'=>c'=c∧∃e2,Turn e e2 w w')
section
variable {S:Nat→Prop}{P:Program}{w w0:World}{L:List Ent}{PK:PKT}{K:VWP}
theorem yI {f:Nat}{args:Array Value}{e:Ent}{ok:Prop}{Q:Value→Ent→Prop}{c:List PanicEntry}(ho:OwnS S w0 w L)(i:Nat)(hi:L[i]?=some e)(h:Lend P f args e w ok Q c)
  (kr:∀v e' w',ok→Q v e'→OwnS S w0 w' (L.set i e')→K v w') (kp:∀e2 w',¬ok→OwnS S w0 w' (L.set i e2)→PK c w'):CallX P f args w PK K:=by
 by_cases hk:ok
 ·exact dS (h.ret hk) fun v w' ⟨e',hq,ht⟩=>kr v e' w' hk hq (ho.turn i hi ht)
 ·exact Uc (h.pan hk) fun c' w' ⟨hc,e2,ht⟩=>by subst hc;exact kp e2 w' hk (ho.turn i hi ht)
theorem Iw {f:Nat}{args:Array Value}{e:Ent}{ok:Prop}{Q:Value→Ent→Prop}{c:List PanicEntry}(h0:e.is w)
  (h:∀K:Ending→World→Prop,OwnS e.blk w w [e]→(ok→∀(v:Value) (e':Ent) (w':World) (L:List Ent),OwnS e.blk w w' (e'::L)→Q v e'→K (.returned v) w') →
   (¬ok→∀(e2:Ent) (w':World) (L:List Ent),OwnS e.blk w w' (e2::L)→K (.panicked c) w')→Calls P f args w K):Lend P f args e w ok Q c:=by
 constructor
 ·intro hk;exact aO fun K hK=>h K (OwnS.lend h0) (fun _ v e' w' L hw hq=>hK _ _ ⟨e',hq,OwnS.back hw⟩) fun hn=>absurd hk hn
 ·intro hn;exact QY fun K hK=>h K (OwnS.lend h0) (fun hk=>absurd hk hn) fun _ e2 w' L hw=>hK _ _ ⟨rfl,e2,OwnS.back hw⟩
end
end Eng
section
variable {w:World}{PK:PKT}{K:VWP}{S:Nat→Prop}{w0:World}{L:List Ent}
end
section
variable {w:World}{PK:PKT}{K:VWP}{S:Nat→Prop}{w0:World}{L:List Ent}
end
section
variable {w:World}{PK:PKT}{K:VWP}{S:Nat→Prop}{w0:World}{L:List Ent}
end
end
section
open Go
namespace Bd
open Lx (next Tok)
def objW:List UInt8:=[111,98,106]
def fY:List UInt8:=[101,110,100,111,98,106]
def bI:List UInt8:=[115,116,114,101,97,109]
def bX:List UInt8:=[101,110,100,115,116,114,101,97,109]
def num (s:List UInt8)(at_ lo hi:Int):Int×Int×Int:=
 if (next s at_).2≠0 then (0,0,(next s at_).2) else if (next s at_).1.k=0 then (0,0,4) else if (next s at_).1.k≠1 then (0,0,3)
 else if (next s at_).1.n < lo∨hi < (next s at_).1.n then (0,0,2) else ((next s at_).1.n,(next s at_).1.t,0)
def word (s:List UInt8)(at_:Int)(w:List UInt8):Int×Int:=
 if (next s at_).2≠0 then (0,(next s at_).2) else if (next s at_).1.k=0 then (0,4) else if (next s at_).1.k≠5∨(next s at_).1.s≠w then (0,3) else ((next s at_).1.t,0)
structure Hd where
 num:Int
 gen:Int
 t:Int
 e:Int
 deriving DecidableEq
def Co (s:List UInt8)(at_:Int):Hd:=
 if (num s at_ 1 8191).2.2≠0 then ⟨0,0,0,(num s at_ 1 8191).2.2⟩
 else if (num s (num s at_ 1 8191).2.1 0 65535).2.2≠0 then ⟨0,0,0,(num s (num s at_ 1 8191).2.1 0 65535).2.2⟩
 else if (word s (num s (num s at_ 1 8191).2.1 0 65535).2.1 objW).2≠0 then ⟨0,0,0,(word s (num s (num s at_ 1 8191).2.1 0 65535).2.1 objW).2⟩
 else ⟨(num s at_ 1 8191).1,(num s (num s at_ 1 8191).2.1 0 65535).1,(word s (num s (num s at_ 1 8191).2.1 0 65535).2.1 objW).1,0⟩
def head (s:List UInt8)(at_:Int):Hd:=if at_ < 0∨(s.length:Int) < at_ then ⟨0,0,0,1⟩ else Co s at_
def line (s:List UInt8)(at_:Nat):Nat×Int:=
 match s.drop at_ with
|[]=>(0,4)
|c::t=>if c=13∧t=[] then (0,4) else if c=10 then (at_+1,0) else if c=13∧t.head?=some 10 then (at_+2,0) else (0,3)
def own (o:Ob):Int×Int:=match Vl.get o Vl.lenK with
|none=>(0,3)
|some v=>if v.k≠2 then (0,10) else if v.n < 0 then (0,2) else (v.n,0)
def size (o:Ob)(length:Int):Int×Int:=if 0≤length then (length,0) else own o
def strm (o:Ob)(data:List UInt8):Ob:=.mk 9 (Vl.bD o Vl.lenK).n (Vl.bD o Vl.lenK).g data (Vl.bD o Vl.lenK).keys (Vl.bD o Vl.lenK).kids
def stream (s:List UInt8)(at_:Nat)(length:Int)(o:Ob):Ob×Int×Int:=
 if (line s at_).2≠0 then (Vl.ob0,0,(line s at_).2)
 else if (size o length).2≠0 then (Vl.ob0,0,(size o length).2)
 else if 1048576 < (size o length).1 then (Vl.ob0,0,5)
 else if (s.length:Int) - (line s at_).1 < (size o length).1 then (Vl.ob0,0,4)
 else if (word s ((line s at_).1+(size o length).1) bX).2≠0 then (Vl.ob0,0,(word s ((line s at_).1+(size o length).1) bX).2)
 else (strm o ((s.drop (line s at_).1).take (size o length).1.toNat),(word s ((line s at_).1+(size o length).1) bX).1,0)
def bad (e:Int):It×Int×Int:=(Dk.it0,0,e)
def tail (s:List UInt8)(h:Hd)(o:Ob)(at_:Int):It×Int×Int:=
 if (word s at_ fY).2≠0 then bad (word s at_ fY).2 else (⟨h.num,h.gen,o⟩,(word s at_ fY).1,0)
def body (s:List UInt8)(length:Int)(h:Hd)(o:Ob)(at_:Int):It×Int×Int:=
 if (word s at_ bI).2=0∧o.k=7 then
  (if (stream s (word s at_ bI).1.toNat length o).2.2≠0 then bad (stream s (word s at_ bI).1.toNat length o).2.2
   else tail s h (stream s (word s at_ bI).1.toNat length o).1 (stream s (word s at_ bI).1.toNat length o).2.1)
 else tail s h o at_
def read (s:List UInt8)(at_ length:Int):It×Int×Int:=
 if at_ < 0∨(s.length:Int) < at_∨length < -1 then bad 1
 else if (head s at_).e≠0 then bad (head s at_).e
 else if (Ps.object s (head s at_).t).2.2≠0 then bad (Ps.object s (head s at_).t).2.2
 else if (Ps.object s (head s at_).t).1.k=8 then bad 10
 else body s length (head s at_) (Ps.object s (head s at_).t).1 (Ps.object s (head s at_).t).2.1
def length (s:List UInt8)(at_:Int):Ob×Int:=
 if (head s at_).e≠0 then (Vl.ob0,(head s at_).e)
 else if (Ps.object s (head s at_).t).2.2≠0 then (Vl.ob0,(Ps.object s (head s at_).t).2.2)
 else if (Ps.object s (head s at_).t).1.k≠7∨(word s (Ps.object s (head s at_).t).2.1 bI).2≠0 then (Vl.ob0,0)
 else ((Vl.get (Ps.object s (head s at_).t).1 Vl.lenK).getD Vl.ob0,0)
def check (i:It):Int:=if Dk.numbers i=false then 2 else if Vl.check 1 i.obj≠0 then Vl.check 1 i.obj else if i.obj.k=8 then 10 else 0
def pJ (o:Ob):Ob×Int:=Vl.set (.mk 7 0 0 [] o.keys o.kids) Vl.lenK (.mk 2 o.s.length 0 [] [] [])
def nl:List UInt8:=[10]
def EL (i:It):List UInt8:=Lib.itoa i.num++[32]++Lib.itoa i.gen++[32]++objW++nl
def text (i:It):List UInt8×Int:=
 if check i≠0 then ([],check i)
 else if i.obj.k=9 then
  (if (pJ i.obj).2≠0 then ([],(pJ i.obj).2)
   else if (Wr.text (pJ i.obj).1).2≠0 then ([],(Wr.text (pJ i.obj).1).2)
   else (EL i++(Wr.text (pJ i.obj).1).1++nl++bI++nl++i.obj.s++nl++bX++nl++fY++nl,0))
 else if (Wr.text i.obj).2≠0 then ([],(Wr.text i.obj).2)
 else (EL i++(Wr.text i.obj).1++nl++fY++nl,0)
end Bd
end
section
open Go
namespace Lx
open Oc
end Lx
namespace Tl
open Lx (Tok Om skip)
open Ps (At Toks)
abbrev Pc:=List UInt8×List UInt8
def cat (l:List Pc):List UInt8:=l.flatMap fun p=>p.1++p.2
end Tl
end
end Go.Proofs.YtkejpieaafeblaaGreatDoor

namespace Go.Proofs.YtkejpieaafeblaaGreatDoor
section
open Go
namespace Bd
open Lx (next Tok Om skip)
open Ps (At Toks)
open Tl (Pc cat)
theorem OE {i:It}(h:check i=0):(1≤i.num∧i.num≤8191)∧(0≤i.gen∧i.gen≤65535)∧Vl.check 1 i.obj=0∧i.obj.k≠8:=by
 unfold check at h;split at h
 ·cases h
 rename_i h1
 split at h
 ·rename_i h2;exact absurd h h2
 rename_i h2
 split at h
 ·cases h
 rename_i h3
 simp only[Dk.numbers,Bool.not_eq_false,Ys,Yx] at h1;exact⟨by omega,by omega,YA.1 h2,h3⟩
end Bd
end
section
open Go
namespace Lx
open Oc
theorem B6:∀(b:Bool) (l m:List UInt8),dD b l < l.length→dD b (l++m)=dD b l
|_,[],m,h=>by simp at h
|true,c::t,m,h=>by
  rw[YY,dD,dD,B6 (!eol c) t m (by rw[dD,Yr] at h;omega)]
|false,c::t,m,h=>by
  rw[YY,dD,dD];rw[dD,Yr] at h;by_cases h1:c=37
  ·rw[Yh h1] at h;rw[Yh h1,Yh h1,B6 true t m (by omega)]
  ·rw[Yg h1] at h;rw[Yg h1,Yg h1];by_cases h2:rX c=true
   ·rw[Yh h2] at h;rw[Yh h2,Yh h2,B6 false t m (by omega)]
   ·rw[Yg h2,Yg h2]
theorem Qi {s:List UInt8}(r:List UInt8){k:Nat}(hk:k≤s.length)(h:skip s k < s.length):skip (s++r) k=skip s k:=by
 unfold skip at h ⊢;rw[aaU hk,B6 false _ r (by rw[Yv];omega)]
theorem LP:∀(l m:List UInt8),runF l < l.length→runF (l++m)=runF l
|[],m,h=>by simp at h
|c::t,m,h=>by
  rw[YY,runF,runF];rw[runF,Yr] at h;by_cases h1:regular c=true
  ·rw[Yh h1] at h;rw[Yh h1,Yh h1,LP t m (by omega)]
  ·rw[Yg h1,Yg h1]
theorem NG {s:List UInt8}(r:List UInt8){k:Nat}(hk:k≤s.length)(h:run s k < s.length):run (s++r) k=run s k:=by
 unfold run at h ⊢;rw[aaU hk,LP _ r (by rw[Yv];omega)]
theorem DT {s:List UInt8}(r:List UInt8){i j:Nat}(hi:i≤s.length)(hj:j≤s.length):cut (s++r) i j=cut s i j:=by
 unfold cut;rw[aaU hi,abH (by rw[Yv];omega)]
theorem PW {s:List UInt8}(r:List UInt8){q:Nat}(hq:q < s.length)(h:(token s q).2=0)(hk:(token s q).1.k≠0)(ht:(token s q).1.t < s.length):token (s++r) q=token s q:=by
 have hd:=drop_cons hq;have hd2:(s++r).drop q=s[q]::(s.drop (q+1)++r):=by rw[aaU (by omega),hd];rfl
 have hd3:(s++r).drop (q+1)=s.drop (q+1)++r:=aaU (by omega);have hT:∀S:List UInt8,∀t:List UInt8,S.drop q=s[q]::t→token S q=if s[q]=91∨s[q]=93∨s[q]=123∨s[q]=125 then mark S q 1
  else if s[q]=60 then (if t.head?=some s[q] then mark S q 2 else hex S q)
  else if s[q]=62 then (if t.head?=some s[q] then mark S q 2 else refused 3)
  else if s[q]=47 then name S q
  else if s[q]=40 then text S q
  else if s[q]=41 then refused 3
  else word S q:=fun S t hS=>by rw[token,hS]
 rw[hT s _ hd] at h hk ht ⊢;rw[hT (s++r) _ hd2];have two:∀{c:UInt8},(s.drop (q+1)).head?=some c→q+2≤s.length∧(s.drop (q+1)++r).head?=some c:=by
  intro c hc;have hne:s.drop (q+1)≠[]:=by intro e;rw[e] at hc;cases hc
  have:=ZY.2 hne;rw[Yv] at this;exact⟨by omega,by rw[GK hne];exact hc⟩
 by_cases g0:s[q]=91∨s[q]=93∨s[q]=123∨s[q]=125
 ·rw[Yh g0,Yh g0];unfold mark;rw[DT r (by omega) (by omega)]
 rw[Yg g0] at h hk ht ⊢;rw[Yg g0];by_cases g1:s[q]=60
 ·rw[Yh g1] at h hk ht ⊢;rw[Yh g1];by_cases g:(s.drop (q+1)).head?=some s[q]
  ·obtain⟨h2,h3⟩:=two g;rw[Yh g,Yh h3];unfold mark;rw[DT r (by omega) h2]
  ·rw[Yg g] at h hk ht ⊢;unfold hex at h hk ht;cases hx:hexF (-1) (s.drop (q+1)) with
  |inr e=>rw[hx] at hk;exact absurd rfl hk
  |inl y=>
    have hne:s.drop (q+1)≠[]:=by intro e;rw[e,hexF] at hx;cases hx
    rw[Yg (by rw[GK hne];exact g)];unfold hex;rw[hd3,Ou _ _ _ r hx,hx]
 rw[Yg g1] at h hk ht ⊢;rw[Yg g1];by_cases g2:s[q]=62
 ·rw[Yh g2] at h hk ht ⊢;rw[Yh g2];by_cases g:(s.drop (q+1)).head?=some s[q]
  ·obtain⟨h2,h3⟩:=two g;rw[Yh g,Yh h3];unfold mark;rw[DT r (by omega) h2]
  ·rw[Yg g] at hk;exact absurd rfl hk
 rw[Yg g2] at h hk ht ⊢;rw[Yg g2];by_cases g3:s[q]=47
 ·rw[Yh g3] at h hk ht ⊢;rw[Yh g3];unfold name at h hk ht ⊢;cases hx:fA (cut s (q+1) (run s (q+1))) with
 |none=>rw[hx] at hk;exact absurd rfl hk
 |some y=>
   rw[hx] at h ht;simp only at h ht;rw[EN h] at ht;simp only at ht;have hr:run s (q+1) < s.length:=by omega
   rw[NG r (by omega) hr,DT r (by omega) (by omega),hx]
 rw[Yg g3] at h hk ht ⊢;rw[Yg g3];by_cases g4:s[q]=40
 ·rw[Yh g4] at h hk ht ⊢;rw[Yh g4];unfold text at h hk ht ⊢;cases hx:cE 0 1 (s.drop (q+1)) with
 |none=>rw[hx] at hk;exact absurd rfl hk
 |some y=>rw[hd3,qW _ _ _ _ r hx]
 rw[Yg g4] at h hk ht ⊢;rw[Yg g4];by_cases g5:s[q]=41
 ·rw[Yh g5] at hk;exact absurd rfl hk
 rw[Yg g5] at h hk ht ⊢;rw[Yg g5];unfold word at h hk ht ⊢;rw[(NT h).2.2] at ht;have hr:run s q < s.length:=by omega
 rw[NG r (by omega) hr,DT r (by omega) (by omega)]
theorem Qu {s:List UInt8}(r:List UInt8){a:Int}(h:(next s a).2=0)(hk:(next s a).1.k≠0)(ht:(next s a).1.t < s.length):next (s++r) a=next s a:=by
 obtain⟨b1,b2,b3,b4,b5⟩:=eE h hk;have hq:skip s a.toNat < s.length:=by omega
 have e1:next s a=token s (skip s a.toNat):=by unfold next;rw[Yg (by omega)]
 have e2:next (s++r) a=token (s++r) (skip s a.toNat):=by
  unfold next
  rw[Yg (by rw[Yp];omega),Qi r (by omega) hq]
 rw[e1] at h hk ht ⊢;rw[e2,PW r hq h hk ht]
end Lx
end
end Go.Proofs.YtkejpieaafeblaaGreatDoor

namespace Go.Proofs.YtkejpieaafeblaaGreatDoor
section
open Go
namespace Bd
open Lx (next Tok Qu)
theorem Wx {s:List UInt8}{a lo hi:Int}(h:(num s a lo hi).2.2=0):(next s a).2=0∧(next s a).1.k=1∧(num s a lo hi).2.1=(next s a).1.t:=by
 unfold num at h ⊢;split at h
 ·rename_i g;exact absurd h g
 rename_i g1
 rw[Yg g1];split at h
 ·exact absurd h (by decide)
 rename_i g2
 rw[Yg g2];split at h
 ·exact absurd h (by decide)
 rename_i g3
 rw[Yg g3];split at h
 ·exact absurd h (by decide)
 rename_i g4
 rw[Yg g4];exact⟨YA.1 g1,YA.1 g3,rfl⟩
theorem Uk {s:List UInt8}{a lo hi:Int}(h:(num s a lo hi).2.2=0):a < (num s a lo hi).2.1∧(num s a lo hi).2.1≤s.length:=by
 obtain⟨h1,h2,h3⟩:=Wx h;have b:=Lx.eE h1 (by rw[h2];decide);have:=Lx.eW s a.toNat;omega
theorem VQ {s:List UInt8}{a:Int}{w:List UInt8}(h:(word s a w).2=0):(next s a).2=0∧(next s a).1.k=5∧(next s a).1.s=w∧(word s a w).1=(next s a).1.t:=by
 unfold word at h ⊢;split at h
 ·rename_i g;exact absurd h g
 rename_i g1
 rw[Yg g1];split at h
 ·exact absurd h (by decide)
 rename_i g2
 rw[Yg g2];split at h
 ·exact absurd h (by decide)
 rename_i g3
 rw[Yg g3];simp only[not_or,YA] at g3;exact⟨YA.1 g1,g3.1,g3.2,rfl⟩
theorem Sd {s:List UInt8}{a:Int}{w:List UInt8}(h:(word s a w).2=0):0≤a∧a < (word s a w).1∧(word s a w).1≤s.length:=by
 obtain⟨h1,h2,h3,h4⟩:=VQ h;have b:=Lx.eE h1 (by rw[h2];decide);have:=Lx.eW s a.toNat;omega
theorem Vr {s:List UInt8}{a:Int}(h:(head s a).e=0):0≤a∧a≤s.length∧(num s a 1 8191).2.2=0∧(num s (num s a 1 8191).2.1 0 65535).2.2=0∧(word s (num s (num s a 1 8191).2.1 0 65535).2.1 objW).2=0∧(head s a).t=(word s (num s (num s a 1 8191).2.1 0 65535).2.1 objW).1:=by
 unfold head at h ⊢;split at h
 ·exact absurd h (by decide)
 rename_i g0
 rw[Yg g0];unfold Co at h ⊢;split at h
 ·rename_i g;exact absurd h g
 rename_i g1
 rw[Yg g1];split at h
 ·rename_i g;exact absurd h g
 rename_i g2
 rw[Yg g2];split at h
 ·rename_i g;exact absurd h g
 rename_i g3
 rw[Yg g3];exact⟨by omega,by omega,YA.1 g1,YA.1 g2,YA.1 g3,rfl⟩
theorem JZ {s:List UInt8}{a:Int}(h:(head s a).e=0):a < (head s a).t∧(head s a).t≤s.length:=by
 obtain⟨h0,h1,h2,h3,h4,h5⟩:=Vr h;have:=Uk h2;have:=Uk h3;have:=Sd h4;omega
theorem LL {s:List UInt8}(r:List UInt8){a:Nat}(ha:a≤s.length)(h:(line s a).2=0):line (s++r) a=line s a∧a < (line s a).1∧(line s a).1≤s.length:=by
 unfold line at h ⊢;rw[aaU ha];cases hd:s.drop a with
|nil=>rw[hd] at h;exact absurd h (by simp)
|cons c t=>
  have hlen:=congrArg List.length hd;rw[Yv,Yr] at hlen;rw[hd] at h;simp only[YY] at h ⊢;by_cases g1:c=13∧t=[]
  ·rw[Yh g1] at h;exact absurd h (by decide)
  rw[Yg g1] at h;by_cases g2:c=10
  ·rw[Yg (by rw[g2];simp),Yh g2,Yg g1,Yh g2];exact⟨rfl,by simp,by simp only;omega⟩
  rw[Yg g2] at h;by_cases g3:c=13∧t.head?=some 10
  ·have hne:t≠[]:=by intro e;rw[e] at g3;cases g3.2
   have:=ZY.2 hne;rw[Yg (by simp[hne]),Yg g2,Yh ⟨g3.1,by rw[Lx.GK hne];exact g3.2⟩,Yg g1,Yg g2,Yh g3];exact⟨rfl,by simp,by simp only;omega⟩
  ·rw[Yg g3] at h;exact absurd h (by decide)
theorem R8 {o:Ob}{len:Int}(h:(size o len).2=0):0≤(size o len).1:=by
 unfold size at h ⊢;split at h
 ·rename_i g;rw[Yh g];exact g
 rename_i g
 rw[Yg g];unfold own at h ⊢;cases hg:Vl.get o Vl.lenK with
|none=>rw[hg] at h;exact absurd h (by decide)
|some v=>
  rw[hg] at h;simp only at h ⊢;split at h
  ·exact absurd h (by decide)
  rename_i g1
  rw[Yg g1];split at h
  ·exact absurd h (by decide)
  rename_i g2
  rw[Yg g2];show 0≤v.n;omega
end Bd
end
section
open Go
namespace Bd
theorem Nf {o:Ob}(h:Vl.check 1 o=0)(h7:o.k=7):Vl.lenK ∉ (Vl.bD o Vl.lenK).keys:=by
 have hk:Vl.keyed o=true:=by simp[Vl.keyed,h7]
 have hc:=Vl.D8 (key:=Vl.lenK) h hk;have hk':Vl.keyed (Vl.bD o Vl.lenK)=true:=by
  have e:(Vl.bD o Vl.lenK).k=o.k:=rfl;simp[Vl.keyed,e,h7]
 obtain⟨_,hlen⟩:=Vl.mD hc hk';intro hm;have hg:=Vl.Mg o Vl.lenK;unfold Vl.get at hg;rw[Yh hk',Yh (List.idxOf_lt_length_of_mem hm),YB (by rw[←hlen];exact List.idxOf_lt_length_of_mem hm)] at hg;cases hg
theorem O2 {o:Ob}{data:List UInt8}(h:Vl.check 1 o=0)(h7:o.k=7)(hd:data.length≤1048576):Vl.check 1 (strm o data)=0:=by
 have hk:Vl.keyed o=true:=by simp[Vl.keyed,h7]
 have hc:=Vl.D8 (key:=Vl.lenK) h hk;have hout:=Nf h h7;have h7':(Vl.bD o Vl.lenK).k=7:=h7;unfold strm;generalize Vl.bD o Vl.lenK=x at *;obtain⟨⟨a1,a2,a3,a4,a5,a6,a7⟩,hkids⟩:=Vl.qV.1 hc;obtain⟨k,n,g,s,ks,cs⟩:=x;simp only[Ob.k,Ob.n,Ob.g,Ob.s,Ob.keys,Ob.kids] at *;subst h7';refine Vl.qV.2 ⟨⟨a1,?_,fun _=>Int.le_refl 1 |> fun _=>by omega,?_,?_,a6,?_⟩,hkids⟩
 ·unfold Vl.eA at a2 ⊢;simp only[Ob.k,Ob.n,Ob.g,Ob.s,Ob.keys,Ob.kids,Vl.used] at a2 ⊢
  simp_all
  exact a2.1
 ·simp[Vl.fits,Ob.k]
 ·simpa[Vl.long,Ob.k,Ob.s] using hd
 ·unfold Vl.form at a7 ⊢;simp only[Ob.k] at a7 ⊢;simp only[show decide ((7:Int)=7∨(7:Int)=9)=true by decide,YE,ZN,Ys] at a7;obtain⟨r1,r2,r3,r4⟩:=Vl.uX.1 a7.2;have hr:Vl.rising (.mk 9 n g data ks cs)=true:=Vl.uX.2 ⟨r1,r2,fun q hq=>⟨(r3 q hq).1,fun _ e=>hout (e▸hq)⟩,r4⟩;simp[hr]
theorem Lc {o:Ob}(h:Vl.check 1 o=0)(h7:o.k=7):(if Vl.keyed o=true∧Vl.check 1 o=0 then Vl.bD o Vl.lenK else o)=Vl.bD o Vl.lenK:=by
 rw[Yh ⟨by simp[Vl.keyed,h7],h⟩]
theorem FE {s:List UInt8}{a:Int}(h:(Ps.object s a).2.2=0):Vl.check 1 (Ps.object s a).1=0:=by
 unfold Ps.object at h ⊢;split at h
 ·simp[Ps.bad] at h
 ·rename_i g
  rw[Yg g];exact (Ps.UU s 24 (by omega) a h).1
def Ck:Ob:=.mk 9 0 0 [97,98] [] []
def sA:List UInt8:=[49,32,48,32,111,98,106,32,53,32,101,110,100,111,98,106]
def sB:List UInt8:=[49,32,48,32,111,98,106,32,50,32,48,32,82,32,101,110,100,111,98,106]
def sC:List UInt8:=[48,32,48,32,111,98,106,32,53,32,101,110,100,111,98,106]
def sD:List UInt8:=[49,32,48,32,111,98,106,32,53,32,101,110,100]
def sE:List UInt8:=[49,32,48,32,111,98,106,32,53]
def sF:List UInt8:=[52,32,49,32,111,98,106,10,60,60,47,76,101,110,103,116,104,32,50,62,62,10,115,116,114,101,97,109,10,97,98,10,101,110,100,115,116,114,101,97,109,10,101,110,100,111,98,106,10]
def sG:List UInt8:=[49,32,48,32,111,98,106,60,60,47,76,101,110,103,116,104,32,57,32,48,32,82,62,62,115,116,114,101,97,109,13,10,97,98,99,32,101,110,100,115,116,114,101,97,109,32,101,110,100,111,98,106]
def sH:List UInt8:=[49,32,48,32,111,98,106,60,60,62,62,115,116,114,101,97,109,10,97,98,99,32,101,110,100,115,116,114,101,97,109,32,101,110,100,111,98,106]
def sI:List UInt8:=[49,32,48,32,111,98,106,60,60,47,76,101,110,103,116,104,32,57,48,48,62,62,115,116,114,101,97,109,10,97,98,99,32,101,110,100,115,116,114,101,97,109,32,101,110,100,111,98,106]
def sJ:List UInt8:=[49,32,48,32,111,98,106,60,60,47,76,101,110,103,116,104,32,51,62,62,115,116,114,101,97,109,32,97,98,99,32,101,110,100,115,116,114,101,97,109,32,101,110,100,111,98,106]
def sK:List UInt8:=[49,32,48,32,111,98,106,60,60,47,76,101,110,103,116,104,32,57,32,48,32,82,62,62,115,116,114,101,97,109]
def sL:List UInt8:=[49,32,48,32,111,98,106,60,60,47,76,101,110,103,116,104,32,57,62,62,101,110,100,111,98,106]
def sM:List UInt8:=[37,10,49,50,32,51,32,111,98,106,32,120]
def sN:List UInt8:=[51,32,48,32,111,98,106,10,55,10,101,110,100,111,98,106,10]
theorem smp1:text ⟨3,0,.mk 2 7 0 [] [] []⟩=(sN,0):=by decide +kernel
theorem smp2:text ⟨4,1,Ck⟩=(sF,0):=by decide +kernel
theorem smp3:(read sA 0 (-1)).1.num=1∧(read sA 0 (-1)).1.obj.n=5∧(read sA 0 (-1)).2=(16,0):=by decide +kernel
theorem smp4:(read sB 0 (-1)).2.2=10:=by decide +kernel
theorem smp5:(read sC 0 (-1)).2.2=2:=by decide +kernel
theorem smp6:(read sD 0 (-1)).2.2=3:=by decide +kernel
theorem smp7:(read sE 0 (-1)).2.2=4:=by decide +kernel
theorem smp8:(read sF 0 2).1.num=4∧(read sF 0 2).1.gen=1∧Ob.eqb (read sF 0 2).1.obj Ck=true∧(read sF 0 2).2=(48,0):=by decide +kernel
theorem smp9:(read sG 0 3).1.obj.s=[97,98,99]∧(read sG 0 3).1.obj.keys=[]∧(read sG 0 3).2.2=0:=by decide +kernel
theorem XA:(read sG 0 (-1)).2.2=10:=by decide +kernel
theorem Xe:(read sH 0 (-1)).2.2=3:=by decide +kernel
theorem Yd:(read sI 0 (-1)).2.2=4:=by decide +kernel
theorem XI:(read sJ 0 (-1)).2.2=3:=by decide +kernel
theorem Xa:(length sK 0).1.k=8∧(length sK 0).1.n=9∧(length sK 0).2=0:=by decide +kernel
theorem W9:(length sL 0).1.k=0∧(length sL 0).2=0:=by decide +kernel
theorem XZ:head sM 0=⟨12,3,10,0⟩:=by decide +kernel
theorem Xx:(head [] 1).e=1:=by decide +kernel
theorem XG:check ⟨4,1,Ck⟩=0:=by decide +kernel
theorem WW:check ⟨1,0,.mk 8 1 0 [] [] []⟩=10:=by decide +kernel
end Bd
end
section
open Go
namespace Bd
theorem Nz {n:Int}(h:0≤n):(Lib.itoa n).all Oc.regular=true∧Lib.itoa n≠[]:=by
 rcases Pl.PU n with ⟨u,hu,e⟩|⟨u,hu,hp,e⟩
 ·rw[e];refine⟨Lx.Mo (Pl.UY u).2,fun e=>?_⟩;have h1:=Lib.decDigits_length u;rw[e] at h1;have h2:1≤Lib.nDigits u:=by unfold Lib.nDigits;split<;>omega
  simp at h1;omega
 ·omega
theorem Oh {acc p:List UInt8}(ha:Oc.regular (Pl.fH acc)=true)(hp:p≠[])(hr:p.all Oc.regular=true):Pl.glue acc p=acc++[32]++p:=by
 cases p with
|nil=>exact absurd rfl hp
|cons c t=>
  simp only[Zo,Ys] at hr;show (if ((Oc.regular (Pl.fH acc)||decide (Pl.fH acc=47))&&Oc.regular c)=true then acc++[32]++c::t else acc++c::t)=_;rw[Yh (by rw[ha,hr.1];rfl)]
theorem L1 {a b:Int}(ha:0≤a)(hb:0≤b):Pl.join [Lib.itoa a,Lib.itoa b,objW]=Lib.itoa a++[32]++Lib.itoa b++[32]++objW:=by
 obtain⟨a1,a2⟩:=Nz ha;obtain⟨b1,b2⟩:=Nz hb;have e0:Pl.glue [] (Lib.itoa a)=Lib.itoa a:=by
  cases h:Lib.itoa a with
 |nil=>exact absurd h a2
 |cons c t=>unfold Pl.glue;simp[Pl.fH,show Oc.regular 32=false by decide]
 have l1:=Lx.Lt a2 a1;have l2:Oc.regular (Pl.fH (Lib.itoa a++[32]++Lib.itoa b))=true:=by rw[Pl.FV _ _ b2];exact Lx.Lt b2 b1
 show Pl.glue (Pl.glue (Pl.glue [] (Lib.itoa a)) (Lib.itoa b)) objW=_;rw[e0,Oh l1 b2 b1,Oh l2 (by decide) (by decide)]
theorem RE {i:It}(h1:0≤i.num)(h2:0≤i.gen):Pl.join [Lib.itoa i.num,Lib.itoa i.gen,objW]++nl=EL i:=by
 rw[L1 h1 h2];rfl
end Bd
end
section
open Eng
def xV(t0 t1 w)(K:KT):=
 dx (mEq .eql 20 (.tmp 7) (.const .nilIface) t0 .nilIface) w K fun t9 w=>IfX t9 (K (.returned (.tuple #[])) w) (dx (mTA t0 20 96 true) w K fun t10 w=>dx (mExt t10 1) w K fun t11 w=>dx (mExt t10 0) w K fun t12 w=>IfX t11 (dx (aM 96) w K fun t5 w=>dx (aC 96 t5 t12) w K fun _ w=>dx (mFA 96 t5 0) w K fun t14 w=>dx (aA 30 t14) w K fun t15 w=>dx (mNil t1) w K fun t16 w=>dx (aC 30 t16 t15) w K fun _ w=>K (.returned (.tuple #[])) w) (dx (jP t0) w K fun _ w=>K (.returned (.tuple #[])) w))
theorem yG{t0 t1 w K}(h:xV t0 t1 w K):Calls prog 24 #[t0,t1] w K:=cw Tryz.func24 rfl rfl (by kernel_rfl) h
def Dh(t0 t1 w)(K:KT):=
 dx (mUn .not t0) w K fun t5 w=>IfX t5 (dx (aJ 96 #[(0,t1)]) w K fun t7 w=>dx (sP 96 t7) w K fun t8 w=>dx (jP t8) w K fun _ w=>K (.returned (.tuple #[])) w) (K (.returned (.tuple #[])) w)
theorem Ct{t0 t1 w K}(h:Dh t0 t1 w K):Calls prog 26 #[t0,t1] w K:=cw Tryz.func26 rfl rfl (by kernel_rfl) h
def fF(t0 t1 w)(K:KT):=
 dx (mBox 27 t0) w K fun t2 w=>dx (aM 27) w K fun t4 w=>dx (mEq .eql 30 (.tmp 5) (.const (iN 0)) t1 (iN 0)) w K fun t6 w=>cx 26 #[t6,t1] w K fun t8 w=>dx (aA 27 t2) w K fun t9 w=>dx (aC 27 t4 t9) w K fun _ w=>RetX prog [.cell t4 27] w K
theorem mC{t0 t1 w K}(h:fF t0 t1 w K):Calls prog 42 #[t0,t1] w K:=cw Tryz.func42 rfl rfl (by kernel_rfl) h
def tE(t0 t1 w)(K:KT):=
 dx (mEq .eql 30 (.tmp 5) (.const (iN 0)) t1 (iN 0)) w K fun t6 w=>cx 26 #[t6,t1] w K fun t8 w=>K (.returned t0) w
theorem Bv{t0 t1 w K}(h:tE t0 t1 w K):Calls prog 45 #[t0,t1] w K:=cw Tryz.func45 rfl rfl (by kernel_rfl) h
def eI(t0 t1 w)(K:KT):=
 dx (mBox 25 t0) w K fun t2 w=>dx (aM 25) w K fun t4 w=>dx (mEq .eql 30 (.tmp 5) (.const (iN 0)) t1 (iN 0)) w K fun t6 w=>cx 26 #[t6,t1] w K fun t8 w=>dx (aA 25 t2) w K fun t9 w=>dx (aC 25 t4 t9) w K fun _ w=>RetX prog [.cell t4 25] w K
theorem jW{t0 t1 w K}(h:eI t0 t1 w K):Calls prog 47 #[t0,t1] w K:=cw Tryz.func47 rfl rfl (by kernel_rfl) h
def eN(t0 t1 w)(K:KT):=
 dx (mBox 58 t0) w K fun t2 w=>dx (aM 58) w K fun t4 w=>dx (mEq .eql 30 (.tmp 5) (.const (iN 0)) t1 (iN 0)) w K fun t6 w=>cx 26 #[t6,t1] w K fun t8 w=>dx (aA 58 t2) w K fun t9 w=>dx (aC 58 t4 t9) w K fun _ w=>RetX prog [.cell t4 58] w K
theorem lB{t0 t1 w K}(h:eN t0 t1 w K):Calls prog 62 #[t0,t1] w K:=cw Tryz.func62 rfl rfl (by kernel_rfl) h
def Iz(t0 t1 w)(K:KT):=
 dx (mBin .geq 3 t1 (iN 0)) w K fun t6 w=>etx t6 t1 w fun t8 w=>etx t6 t0 w fun t9 w=>gtx t6 (mB .len #[9] 3 #[false] #[t9]) w K fun t10 w=>gtx t6 (mBin .leq 3 t8 t10) w K fun t11 w=>dx (aF t6 t11 (.bool false)) w K fun t12 w=>cx 26 #[t12,(iN 1)] w K fun t13 w=>dx (aJ 62 #[(0,t0),(1,t1)]) w K fun t16 w=>dx (mBox 62 t16) w K fun t17 w=>K (.returned t17) w
theorem IM{t0 t1 w K}(h:Iz t0 t1 w K):Calls prog 25 #[t0,t1] w K:=cw Tryz.func25 rfl rfl (by kernel_rfl) h
def cX(t0 t2 t3 w)(K:KT):=
 dx (mFA 58 t3 0) w K fun t16 w=>dx (aA 3 t16) w K fun t17 w=>dx (mEq .neq 3 (.tmp 17) (.const (iN 0)) t17 (iN 0)) w K fun t18 w=>cx 26 #[t18,(iN 4)] w K fun t19 w=>dx (mFA 58 t3 2) w K fun t21 w=>dx (aA 3 t21) w K fun t22 w=>dx (mNil t0) w K fun t23 w=>dx (mFA 62 t23 1) w K fun t24 w=>dx (aC 3 t24 t22) w K fun _ w=>dx (aA 58 t3) w K fun t25 w=>dx (aC 58 t2 t25) w K fun _ w=>RetX prog [.cell t2 58] w K
def tC(t0 w)(K:KT):=
 dx (aM 58) w K fun t2 w=>HeldX w (fun S1 w=>HDo prog (fun _=>True) (mNil t0) fun t5=>HDo prog (fun _=>True) (mFA 62 t5 0) fun t6=>HDo prog S1 (aA 9 t6) fun t7=>HDo prog (fun _=>True) (mNil t0) fun t9=>HDo prog (fun _=>True) (mFA 62 t9 1) fun t10=>HDo prog S1 (aA 3 t10) fun t11=>(CallX prog 35 #[t7,t11] w (pm1 (pm1 (pm1 (pm1 (pm1 (pm1 (pm1 (pm1 (pm1 (pm1 (pk K))))))))))) fun t12 w=>(HDo prog (fun _=>True) (mExt t12 0) fun t13=>HDo prog (fun _=>True) (mExt t12 1) fun t14=>(CallX prog 62 #[t13,t14] w (pm1 (pm1 (pm1 (pm1 (pm1 (pm1 (pm1 (pm1 (pm1 (pm1 (pk K))))))))))) fun t15 w=>S1 w∧(DoX prog (aM 58) w (pm1 (pm1 (pm1 (pm1 (pm1 (pm1 (pm1 (pm1 (pm1 (pm1 (pk K))))))))))) fun t3 w=>S1 w∧(DoX prog (aC 58 t3 t15) w (pm1 (pm1 (pm1 (pm1 (pm1 (pm1 (pm1 (pm1 (pm1 (pm1 (pk K))))))))))) fun _ w=>(cX t0 t2 t3 w K))))∧(DoX prog (aM 58) w (pm1 (pm1 (pm1 (pm1 (pm1 (pm1 (pm1 (pm1 (pm1 (pm1 (pk K))))))))))) fun t3_1 w=>S1 w∧(CallX prog 62 #[t13,t14] w (pm1 (pm1 (pm1 (pm1 (pm1 (pm1 (pm1 (pm1 (pm1 (pm1 (pk K))))))))))) fun t15_1 w=>S1 w∧(DoX prog (aC 58 t3_1 t15_1) w (pm1 (pm1 (pm1 (pm1 (pm1 (pm1 (pm1 (pm1 (pm1 (pm1 (pk K))))))))))) fun _ w=>(cX t0 t2 t3_1 w K))))))∧(DoX prog (aM 58) w (pm1 (pm1 (pm1 (pm1 (pm1 (pm1 (pm1 (pm1 (pm1 (pm1 (pk K))))))))))) fun t3_2 w=>S1 w∧(CallX prog 35 #[t7,t11] w (pm1 (pm1 (pm1 (pm1 (pm1 (pm1 (pm1 (pm1 (pm1 (pm1 (pk K))))))))))) fun t12_1 w=>(HDo prog (fun _=>True) (mExt t12_1 0) fun t13_1=>HDo prog (fun _=>True) (mExt t12_1 1) fun t14_1=>CallX prog 62 #[t13_1,t14_1] w (pm1 (pm1 (pm1 (pm1 (pm1 (pm1 (pm1 (pm1 (pm1 (pm1 (pk K))))))))))) fun t15_2 w=>S1 w∧(DoX prog (aC 58 t3_2 t15_2) w (pm1 (pm1 (pm1 (pm1 (pm1 (pm1 (pm1 (pm1 (pm1 (pm1 (pk K))))))))))) fun _ w=>(cX t0 t2 t3_2 w K))))))
theorem AQ{t0 w K}(h:tC t0 w K):Calls prog 29 #[t0] w K:=cw Tryz.func29 rfl rfl (by kernel_rfl) h
def tP(t0 t1 w)(K:KT):=
 cx 29 #[t0] w K fun t6 w=>dx (aM 58) w K fun t4 w=>dx (aC 58 t4 t6) w K fun _ w=>dx (mFA 58 t4 0) w K fun t7 w=>dx (aA 3 t7) w K fun t8 w=>dx (mEq .eql 3 (.tmp 8) (.const (iN 5)) t8 (iN 5)) w K fun t9 w=>gtx t9 (mFA 58 t4 4) w K fun t11 w=>gtx t9 (aA 9 t11) w K fun t12 w=>etx t9 t1 w fun t13 w=>gtx t9 (mEq .eql 9 (.tmp 12) (.tmp 13) t12 t13) w K fun t14 w=>dx (aF t9 t14 (.bool false)) w K fun t15 w=>cx 26 #[t15,(iN 3)] w K fun t16 w=>K (.returned (.tuple #[])) w
theorem Bo{t0 t1 w K}(h:tP t0 t1 w K):Calls prog 60 #[t0,t1] w K:=cw Tryz.func60 rfl rfl (by kernel_rfl) h
def pO(t0 t1 t2 w)(K:KT):=
 cx 29 #[t0] w K fun t9 w=>dx (aM 58) w K fun t7 w=>dx (aC 58 t7 t9) w K fun _ w=>dx (mFA 58 t7 0) w K fun t10 w=>dx (aA 3 t10) w K fun t11 w=>dx (mEq .eql 3 (.tmp 11) (.const (iN 1)) t11 (iN 1)) w K fun t12 w=>cx 26 #[t12,(iN 3)] w K fun t13 w=>dx (mFA 58 t7 3) w K fun t14 w=>dx (aA 2 t14) w K fun t15 w=>dx (mBin .geq 2 t15 t1) w K fun t17 w=>gtx t17 (mFA 58 t7 3) w K fun t19 w=>gtx t17 (aA 2 t19) w K fun t20 w=>etx t17 t2 w fun t21 w=>gtx t17 (mBin .leq 2 t20 t21) w K fun t22 w=>dx (aF t17 t22 (.bool false)) w K fun t23 w=>cx 26 #[t23,(iN 2)] w K fun t24 w=>dx (mFA 58 t7 3) w K fun t25 w=>dx (aA 2 t25) w K fun t26 w=>K (.returned t26) w
theorem xM{t0 t1 t2 w K}(h:pO t0 t1 t2 w K):Calls prog 59 #[t0,t1,t2] w K:=cw Tryz.func59 rfl rfl (by kernel_rfl) h
def tO(t0 w)(K:KT):=
 cx 59 #[t0,(iN 1),(iN 8191)] w K fun t5 w=>cx 59 #[t0,(iN 0),(iN 65535)] w K fun t7 w=>cx 60 #[t0,(.string ⟨#[111,98,106]⟩)] w K fun t9 w=>K (.returned (.tuple #[t5,t7])) w
theorem A9{t0 w K}(h:tO t0 w K):Calls prog 27 #[t0] w K:=cw Tryz.func27 rfl rfl (by kernel_rfl) h
def dK(t0 t2 t3 t4 t5 w)(K:KT):=
 dx (mEq .eql 30 (.tmp 19) (.const (iN 0)) t5 (iN 0)) w K fun t20 w=>cx 26 #[t20,t5] w K fun t22 w=>dx (mNil t0) w K fun t25 w=>dx (mFA 62 t25 1) w K fun t26 w=>dx (aC 3 t26 t4) w K fun _ w=>dx (aA 25 t3) w K fun t27 w=>dx (aC 25 t2 t27) w K fun _ w=>RetX prog [.cell t2 25] w K
def oZ(t0 w)(K:KT):=
 dx (aM 25) w K fun t2 w=>HeldX w (fun S1 w=>HDo prog (fun _=>True) (mNil t0) fun t8=>HDo prog (fun _=>True) (mFA 62 t8 0) fun t9=>HDo prog S1 (aA 9 t9) fun t10=>HDo prog (fun _=>True) (mNil t0) fun t12=>HDo prog (fun _=>True) (mFA 62 t12 1) fun t13=>HDo prog S1 (aA 3 t13) fun t14=>(CallX prog 61 #[t10,t14] w (pm1 (pm1 (pm1 (pm1 (pm1 (pm1 (pm1 (pm1 (pm1 (pm1 (pm1 (pm1 (pm1 (pm1 (pk K))))))))))))))) fun t15 w=>(HDo prog (fun _=>True) (mExt t15 0) fun t16=>HDo prog (fun _=>True) (mExt t15 1) fun t17=>HDo prog (fun _=>True) (mExt t15 2) fun t18=>DoX prog (aM 25) w (pm1 (pm1 (pm1 (pm1 (pm1 (pm1 (pm1 (pm1 (pm1 (pm1 (pm1 (pm1 (pm1 (pm1 (pk K))))))))))))))) fun t3 w=>S1 w∧(DoX prog (aC 25 t3 t16) w (pm1 (pm1 (pm1 (pm1 (pm1 (pm1 (pm1 (pm1 (pm1 (pm1 (pm1 (pm1 (pm1 (pm1 (pk K))))))))))))))) fun _ w=>(dK t0 t2 t3 t17 t18 w K))))∧(DoX prog (aM 25) w (pm1 (pm1 (pm1 (pm1 (pm1 (pm1 (pm1 (pm1 (pm1 (pm1 (pm1 (pm1 (pm1 (pm1 (pk K))))))))))))))) fun t3_1 w=>S1 w∧(CallX prog 61 #[t10,t14] w (pm1 (pm1 (pm1 (pm1 (pm1 (pm1 (pm1 (pm1 (pm1 (pm1 (pm1 (pm1 (pm1 (pm1 (pk K))))))))))))))) fun t15_1 w=>(HDo prog (fun _=>True) (mExt t15_1 0) fun t16_1=>HDo prog (fun _=>True) (mExt t15_1 1) fun t17_1=>HDo prog (fun _=>True) (mExt t15_1 2) fun t18_1=>DoX prog (aC 25 t3_1 t16_1) w (pm1 (pm1 (pm1 (pm1 (pm1 (pm1 (pm1 (pm1 (pm1 (pm1 (pm1 (pm1 (pm1 (pm1 (pk K))))))))))))))) fun _ w=>(dK t0 t2 t3_1 t17_1 t18_1 w K)))))
theorem wY{t0 w K}(h:oZ t0 w K):Calls prog 28 #[t0] w K:=cw Tryz.func28 rfl rfl (by kernel_rfl) h
def cA (x0:Deferred)(x1:Value)(x2:Value)(x3:Value)(x4:Value)(K:Ending→World→Prop):=pd prog [.cell x1 3,.cell x2 3,.cell x3 3,.cell x4 30] K [x0]
def Iu(t0 t1 w)(K:KT):=
 dx (aM 3) w K fun t4 w=>dx (aM 3) w K fun t5 w=>dx (aM 3) w K fun t6 w=>dx (aM 30) w K fun t7 w=>dx (IZ (.func 39) #[] #[t7,t4,t5,t6]) w K fun t9 w=>DfrX (dfrV t9 #[]) (fun d1=>CallX prog 25 #[t0,t1] w (cA d1 t4 t5 t6 t7 K) fun t12 w=>CallX prog 27 #[t12] w (cA d1 t4 t5 t6 t7 K) fun t15 w=>DoX prog (mExt t15 0) w (cA d1 t4 t5 t6 t7 K) fun t16 w=>DoX prog (mExt t15 1) w (cA d1 t4 t5 t6 t7 K) fun t17 w=>DoX prog (aC 3 t4 t16) w (cA d1 t4 t5 t6 t7 K) fun _ w=>DoX prog (aC 3 t5 t17) w (cA d1 t4 t5 t6 t7 K) fun _ w=>HeldX w (fun S2 w=>HDo prog S2 (aA 3 t4) fun t18=>HDo prog S2 (aA 3 t5) fun t19=>HDo prog (fun _=>True) (mNil t12) fun t21=>HDo prog (fun _=>True) (mFA 62 t21 1) fun t22=>HDo prog S2 (aA 3 t22) fun t23=>DoX prog (aC 3 t4 t18) w (pm1 (pm1 (pm1 (pm1 (pm1 (pm1 (cA d1 t4 t5 t6 t7 K))))))) fun _ w=>S2 w∧(DoX prog (aC 3 t5 t19) w (pm1 (pm1 (pm1 (pm1 (pm1 (pm1 (cA d1 t4 t5 t6 t7 K))))))) fun _ w=>S2 w∧(DoX prog (aC 3 t6 t23) w (pm1 (pm1 (pm1 (pm1 (pm1 (pm1 (cA d1 t4 t5 t6 t7 K))))))) fun _ w=>(DoX prog (aC 30 t7 (iN 0)) w (pm1 (pm1 (pm1 (pm1 (pm1 (pm1 (cA d1 t4 t5 t6 t7 K))))))) fun _ w=>(kR prog [.cell t4 3,.cell t5 3,.cell t6 3,.cell t7 30] K [d1] .returning w))))))
theorem I9{t0 t1 w K}(h:Iu t0 t1 w K):Calls prog 13 #[t0,t1] w K:=cw Tryz.func13 rfl rfl (by kernel_rfl) h
def FI(t0 w)(K:KT):=
 dx (mBox 27 t0) w K fun t1 w=>dx (mFA 27 t1 0) w K fun t4 w=>dx (aA 3 t4) w K fun t5 w=>dx (mBin .lss 3 t5 (iN 1)) w K fun t6 w=>gfx t6 (mFA 27 t1 0) w K fun t8 w=>gfx t6 (aA 3 t8) w K fun t9 w=>gfx t6 (mBin .gtr 3 t9 (iN 8191)) w K fun t10 w=>dx (aF t6 (.bool true) t10) w K fun t11 w=>gfx t11 (mFA 27 t1 1) w K fun t13 w=>gfx t11 (aA 3 t13) w K fun t14 w=>gfx t11 (mBin .lss 3 t14 (iN 0)) w K fun t15 w=>dx (aF t11 (.bool true) t15) w K fun t16 w=>gfx t16 (mFA 27 t1 1) w K fun t18 w=>gfx t16 (aA 3 t18) w K fun t19 w=>gfx t16 (mBin .gtr 3 t19 (iN 65535)) w K fun t20 w=>dx (aF t16 (.bool true) t20) w K fun t21 w=>IfX t21 (K (.returned (iN 2)) w) (dx (mFA 27 t1 2) w K fun t22 w=>dx (aA 25 t22) w K fun t23 w=>cx 57 #[t23] w K fun t24 w=>dx (mEq .neq 30 (.tmp 25) (.const (iN 0)) t24 (iN 0)) w K fun t26 w=>IfX t26 (K (.returned t24) w) (dx (mFA 27 t1 2) w K fun t28 w=>dx (mFA 25 t28 0) w K fun t29 w=>dx (aA 3 t29) w K fun t30 w=>dx (mEq .eql 3 (.tmp 30) (.const (iN 8)) t30 (iN 8)) w K fun t31 w=>IfX t31 (K (.returned (iN 10)) w) (K (.returned (iN 0)) w)))
theorem Hg{t0 w K}(h:FI t0 w K):Calls prog 18 #[t0] w K:=cw Tryz.func18 rfl rfl (by kernel_rfl) h
def oX(t0 t2 t21 t22 t23 w)(N2:JT)(K:KT):=
 dx (mBin .lss 3 t23 t22) w K fun t24 w=>IfX t24 (dx (mIA 22 t21 t23) w K fun t25 w=>dx (aA 9 t25) w K fun t26 w=>cx 73 #[t2,t26,(iN 0)] w K fun t29 w=>IfX t29 (dx (mNil t0) w K fun t31 w=>dx (mFA 62 t31 1) w K fun t32 w=>dx (aA 3 t32) w K fun t33 w=>dx (mB .len #[9] 3 #[false] #[t26]) w K fun t35 w=>dx (mBin .add 3 t33 t35) w K fun t36 w=>dx (mNil t0) w K fun t37 w=>dx (mFA 62 t37 1) w K fun t38 w=>dx (aC 3 t38 t36) w K fun _ w=>K (.returned (.tuple #[])) w) (dx (mBin .add 3 t23 (iN 1)) w K fun t39 w=>N2 [t39] w)) (cx 26 #[(.bool false),(iN 3)] w K fun t40 w=>K (.returned (.tuple #[])) w)
def jX(t0 w)(K:KT):=
 QuietX w (fun C1=>QDo prog C1 (mNil t0) fun t6=>QDo prog C1 (mFA 62 t6 0) fun t7=>QDo prog C1 (aA 9 t7) fun t8=>QDo prog C1 (mNil t0) fun t10=>QDo prog C1 (mFA 62 t10 1) fun t11=>QDo prog C1 (aA 3 t11) fun t12=>QDo prog C1 (aT 9 t8 (some t12) none none) fun t13=>
 ∀w,C1 w →
 dx (mEq .neq 9 (.tmp 14) (.const (.string ⟨#[]⟩)) t13 (.string ⟨#[]⟩)) w K fun t15 w=>etx t15 t13 w fun t17 w=>gtx t15 (mEq .neq 9 (.tmp 17) (.const (.string ⟨#[13]⟩)) t17 (.string ⟨#[13]⟩)) w K fun t18 w=>dx (aF t15 t18 (.bool false)) w K fun t19 w=>cx 26 #[t19,(iN 4)] w K fun t20 w=>dx (aS 22 2 #[(0,(.string ⟨#[10]⟩)),(1,(.string ⟨#[13,10]⟩))]) w K fun t21 w=>dx (mB .len #[22] 3 #[false] #[t21]) w K fun t22 w=>LoopX [(iN 0)] w (fun vs2 w N2=>∀_:Sg,oX t0 t13 t21 t22 (vs2.getD 0 undef) w N2 K))
theorem BH (t0:Value)(w:World)(K:Ending→World→Prop):wpX prog 41 [] [(3,[23])] none (aY Tryz.f63) (topQ prog [] K) (aR [t0]) [] w=jX t0 w K:=by kernel_rfl
theorem Bi {t0:Value}{w:World}{K:Ending→World→Prop}(h:jX t0 w K):Calls prog 63 #[t0] w K:=
 aE Tryz.func63 rfl rfl rfl rfl (Eq.mpr (BH t0 w K) h)
def JH(t0 w)(K:KT):=
 dx (mBox 25 t0) w K fun t1 w=>dx (aA 25 t1) w K fun t6 w=>cx 37 #[t6,(.string ⟨#[76,101,110,103,116,104]⟩)] w K fun t7 w=>dx (mExt t7 0) w K fun t8 w=>dx (mExt t7 1) w K fun t9 w=>dx (aM 25) w K fun t3 w=>dx (aC 25 t3 t8) w K fun _ w=>cx 26 #[t9,(iN 3)] w K fun t11 w=>dx (mFA 25 t3 0) w K fun t12 w=>dx (aA 3 t12) w K fun t13 w=>dx (mEq .eql 3 (.tmp 13) (.const (iN 2)) t13 (iN 2)) w K fun t14 w=>cx 26 #[t14,(iN 10)] w K fun t15 w=>dx (mFA 25 t3 1) w K fun t16 w=>dx (aA 2 t16) w K fun t17 w=>dx (mBin .geq 2 t17 (iN 0)) w K fun t18 w=>cx 26 #[t18,(iN 2)] w K fun t19 w=>dx (mFA 25 t3 1) w K fun t20 w=>dx (aA 2 t20) w K fun t21 w=>K (.returned t21) w
theorem JS{t0 w K}(h:JH t0 w K):Calls prog 64 #[t0] w K:=cw Tryz.func64 rfl rfl (by kernel_rfl) h
def lN(t0 t2 t4 t6 w)(K:KT):=
 dx (mBin .leq 3 t2 (iN 1048576)) w K fun t15 w=>cx 26 #[t15,(iN 5)] w K fun t16 w=>QuietX w (fun C2=>QDo prog C2 (mNil t0) fun t19=>QDo prog C2 (mFA 62 t19 0) fun t20=>QDo prog C2 (aA 9 t20) fun t21=>QDo prog C2 (mB .len #[9] 3 #[false] #[t21]) fun t22=>QDo prog C2 (mNil t0) fun t24=>QDo prog C2 (mFA 62 t24 1) fun t25=>QDo prog C2 (aA 3 t25) fun t26=>QDo prog C2 (mBin .sub 3 t22 t26) fun t27=>QDo prog C2 (mBin .leq 3 t2 t27) fun t28=>
 ∀w,C2 w →
 cx 26 #[t28,(iN 4)] w K fun t29 w=>QuietX w (fun C3=>QDo prog C3 (mNil t0) fun t31=>QDo prog C3 (mFA 62 t31 0) fun t32=>QDo prog C3 (aA 9 t32) fun t33=>QDo prog C3 (mNil t0) fun t35=>QDo prog C3 (mFA 62 t35 1) fun t36=>QDo prog C3 (aA 3 t36) fun t37=>QDo prog C3 (mNil t0) fun t39=>QDo prog C3 (mFA 62 t39 1) fun t40=>QDo prog C3 (aA 3 t40) fun t41=>QDo prog C3 (mBin .add 3 t41 t2) fun t43=>QDo prog C3 (aT 9 t33 (some t37) (some t43) none) fun t44=>
 ∀w,C3 w →
 dx (mNil t0) w K fun t46 w=>dx (mFA 62 t46 1) w K fun t47 w=>dx (aA 3 t47) w K fun t48 w=>dx (mBin .add 3 t48 t2) w K fun t50 w=>dx (mNil t0) w K fun t51 w=>dx (mFA 62 t51 1) w K fun t52 w=>dx (aC 3 t52 t50) w K fun _ w=>cx 60 #[t0,(.string ⟨#[101,110,100,115,116,114,101,97,109]⟩)] w K fun t54 w=>cx 60 #[t0,(.string ⟨#[101,110,100,111,98,106]⟩)] w K fun t56 w=>dx (aA 25 t4) w K fun t57 w=>cx 65 #[t57,t44] w K fun t59 w=>dx (mExt t59 0) w K fun t60 w=>dx (mExt t59 1) w K fun t61 w=>cx 47 #[t60,t61] w K fun t62 w=>dx (aC 25 t6 t62) w K fun _ w=>RetX prog [.cell t6 25] w K))
def gS(t0 t1 t2 w)(K:KT):=
 dx (mBox 25 t1) w K fun t4 w=>dx (aM 25) w K fun t6 w=>cx 63 #[t0] w K fun t9 w=>JoinX (fun J1=>dx (mBin .lss 3 t2 (iN 0)) w K fun t11 w=>IfX t11 (dx (aA 25 t4) w K fun t12 w=>cx 64 #[t12] w K fun t13 w=>J1 [t13] w) (J1 [t2] w)) (fun vs1 w=>∀_:Sg,lN t0 (vs1.getD 0 undef) t4 t6 w K)
theorem vW (t0 t1 t2:Value)(w:World)(K:Ending→World→Prop):wpX prog 63 [(4,[2])] [] none (aY Tryz.f30) (topQ prog [.cell 6 25] K) (aR [t0,t1,t2]) [] w=gS t0 t1 t2 w K:=by kernel_rfl
theorem vY {t0 t1 t2:Value}{w:World}{K:Ending→World→Prop}(h:gS t0 t1 t2 w K):Calls prog 30 #[t0,t1,t2] w K:=
 aE Tryz.func30 rfl rfl rfl rfl (Eq.mpr (vW t0 t1 t2 w K) h)
def aH (x0:Deferred)(x1:Value)(x2:Value)(x3:Value)(K:Ending→World→Prop):=pd prog [.cell x1 27,.cell x2 3,.cell x3 30] K [x0]
def Ds(t6 t7 t8 t9 d1 w)(K:KT):=
 HeldX w (fun S3 w=>HDo prog S3 (aA 27 t6) fun t66=>HDo prog (fun _=>True) (mNil t9) fun t68=>HDo prog (fun _=>True) (mFA 62 t68 1) fun t69=>HDo prog S3 (aA 3 t69) fun t70=>DoX prog (aC 27 t6 t66) w (pm1 (pm1 (pm1 (pm1 (pm1 (aH d1 t6 t7 t8 K)))))) fun _ w=>S3 w∧(DoX prog (aC 3 t7 t70) w (pm1 (pm1 (pm1 (pm1 (pm1 (aH d1 t6 t7 t8 K)))))) fun _ w=>(DoX prog (aC 30 t8 (iN 0)) w (pm1 (pm1 (pm1 (pm1 (pm1 (aH d1 t6 t7 t8 K)))))) fun _ w=>(kR prog [.cell t6 27,.cell t7 3,.cell t8 30] K [d1] .returning w))))
def CX(t0 t1 t2 w)(K:KT):=
 dx (aM 27) w K fun t6 w=>dx (aM 3) w K fun t7 w=>dx (aM 30) w K fun t8 w=>dx (IZ (.func 23) #[] #[t8,t6,t7]) w K fun t11 w=>DfrX (dfrV t11 #[]) (fun d1=>CallX prog 25 #[t0,t1] w (aH d1 t6 t7 t8 K) fun t14 w=>DoX prog (mBin .geq 3 t2 (iN (-1))) w (aH d1 t6 t7 t8 K) fun t16 w=>CallX prog 26 #[t16,(iN 1)] w (aH d1 t6 t7 t8 K) fun t17 w=>CallX prog 27 #[t14] w (aH d1 t6 t7 t8 K) fun t20 w=>DoX prog (mExt t20 0) w (aH d1 t6 t7 t8 K) fun t21 w=>DoX prog (mExt t20 1) w (aH d1 t6 t7 t8 K) fun t22 w=>DoX prog (mFA 27 t6 0) w (aH d1 t6 t7 t8 K) fun t23 w=>DoX prog (aC 3 t23 t21) w (aH d1 t6 t7 t8 K) fun _ w=>DoX prog (mFA 27 t6 1) w (aH d1 t6 t7 t8 K) fun t24 w=>DoX prog (aC 3 t24 t22) w (aH d1 t6 t7 t8 K) fun _ w=>CallX prog 28 #[t14] w (aH d1 t6 t7 t8 K) fun t26 w=>DoX prog (mFA 27 t6 2) w (aH d1 t6 t7 t8 K) fun t27 w=>DoX prog (aC 25 t27 t26) w (aH d1 t6 t7 t8 K) fun _ w=>DoX prog (mFA 27 t6 2) w (aH d1 t6 t7 t8 K) fun t28 w=>DoX prog (mFA 25 t28 0) w (aH d1 t6 t7 t8 K) fun t29 w=>DoX prog (aA 3 t29) w (aH d1 t6 t7 t8 K) fun t30 w=>DoX prog (mEq .neq 3 (.tmp 30) (.const (iN 8)) t30 (iN 8)) w (aH d1 t6 t7 t8 K) fun t31 w=>CallX prog 26 #[t31,(iN 10)] w (aH d1 t6 t7 t8 K) fun t32 w=>JoinX (fun J2=>CallX prog 29 #[t14] w (aH d1 t6 t7 t8 K) fun t34 w=>DoX prog (aM 58) w (aH d1 t6 t7 t8 K) fun t10 w=>DoX prog (aC 58 t10 t34) w (aH d1 t6 t7 t8 K) fun _ w=>DoX prog (mFA 58 t10 0) w (aH d1 t6 t7 t8 K) fun t37 w=>DoX prog (aA 3 t37) w (aH d1 t6 t7 t8 K) fun t38 w=>DoX prog (mEq .eql 3 (.tmp 38) (.const (iN 5)) t38 (iN 5)) w (aH d1 t6 t7 t8 K) fun t39 w=>GDo t39 true (fun E=>DoX prog (mFA 58 t10 4) w (aH d1 t6 t7 t8 K) E) w fun t41 w=>GDo t39 true (fun E=>DoX prog (aA 9 t41) w (aH d1 t6 t7 t8 K) E) w fun t42 w=>GDo t39 true (fun E=>DoX prog (mEq .eql 9 (.tmp 42) (.const (.string ⟨#[101,110,100,111,98,106]⟩)) t42 (.string ⟨#[101,110,100,111,98,106]⟩)) w (aH d1 t6 t7 t8 K) E) w fun t43 w=>DoX prog (aF t39 t43 (.bool false)) w (aH d1 t6 t7 t8 K) fun t44 w=>IfX t44 (AtX [d1] [d1] (J2 [] w)) (DoX prog (mFA 58 t10 0) w (aH d1 t6 t7 t8 K) fun t46 w=>DoX prog (aA 3 t46) w (aH d1 t6 t7 t8 K) fun t47 w=>DoX prog (mEq .eql 3 (.tmp 47) (.const (iN 5)) t47 (iN 5)) w (aH d1 t6 t7 t8 K) fun t48 w=>GDo t48 true (fun E=>DoX prog (mFA 58 t10 4) w (aH d1 t6 t7 t8 K) E) w fun t50 w=>GDo t48 true (fun E=>DoX prog (aA 9 t50) w (aH d1 t6 t7 t8 K) E) w fun t51 w=>GDo t48 true (fun E=>DoX prog (mEq .eql 9 (.tmp 51) (.const (.string ⟨#[115,116,114,101,97,109]⟩)) t51 (.string ⟨#[115,116,114,101,97,109]⟩)) w (aH d1 t6 t7 t8 K) E) w fun t52 w=>DoX prog (aF t48 t52 (.bool false)) w (aH d1 t6 t7 t8 K) fun t53 w=>GDo t53 true (fun E=>DoX prog (mFA 27 t6 2) w (aH d1 t6 t7 t8 K) E) w fun t55 w=>GDo t53 true (fun E=>DoX prog (mFA 25 t55 0) w (aH d1 t6 t7 t8 K) E) w fun t56 w=>GDo t53 true (fun E=>DoX prog (aA 3 t56) w (aH d1 t6 t7 t8 K) E) w fun t57 w=>GDo t53 true (fun E=>DoX prog (mEq .eql 3 (.tmp 57) (.const (iN 7)) t57 (iN 7)) w (aH d1 t6 t7 t8 K) E) w fun t58 w=>DoX prog (aF t53 t58 (.bool false)) w (aH d1 t6 t7 t8 K) fun t59 w=>IfX t59 (DoX prog (mFA 27 t6 2) w (aH d1 t6 t7 t8 K) fun t61 w=>DoX prog (aA 25 t61) w (aH d1 t6 t7 t8 K) fun t62 w=>CallX prog 30 #[t14,t62,t2] w (aH d1 t6 t7 t8 K) fun t64 w=>DoX prog (mFA 27 t6 2) w (aH d1 t6 t7 t8 K) fun t65 w=>DoX prog (aC 25 t65 t64) w (aH d1 t6 t7 t8 K) fun _ w=>AtX [d1] [d1] (J2 [] w)) (CallX prog 26 #[(.bool false),(iN 3)] w (aH d1 t6 t7 t8 K) fun t35 w=>AtX [d1] [d1] (J2 [] w)))) (fun vs2 w=>∀_:Sg,Ds t6 t7 t8 t14 d1 w K))
theorem IQ (t0 t1 t2:Value)(w:World)(K:Ending→World→Prop):wpX prog 71 [(12,[])] [] none (aY Tryz.f9) (topQ prog [.cell 6 27,.cell 7 3,.cell 8 30] K) (aR [t0,t1,t2]) [] w=CX t0 t1 t2 w K:=by kernel_rfl
theorem IH {t0 t1 t2:Value}{w:World}{K:Ending→World→Prop}(h:CX t0 t1 t2 w K):Calls prog 9 #[t0,t1,t2] w K:=
 aE Tryz.func9 rfl rfl rfl rfl (Eq.mpr (IQ t0 t1 t2 w K) h)
def aG (x0:Deferred)(x1:Value)(x2:Value)(K:Ending→World→Prop):=pd prog [.cell x1 25,.cell x2 30] K [x0]
def DK(t0 t1 w)(K:KT):=
 dx (aM 25) w K fun t4 w=>dx (aM 30) w K fun t5 w=>dx (IZ (.func 34) #[] #[t5,t4]) w K fun t12 w=>DfrX (dfrV t12 #[]) (fun d1=>CallX prog 25 #[t0,t1] w (aG d1 t4 t5 K) fun t15 w=>CallX prog 27 #[t15] w (aG d1 t4 t5 K) fun t17 w=>CallX prog 28 #[t15] w (aG d1 t4 t5 K) fun t19 w=>DoX prog (aM 25) w (aG d1 t4 t5 K) fun t7 w=>DoX prog (aC 25 t7 t19) w (aG d1 t4 t5 K) fun _ w=>DoX prog (mNil t15) w (aG d1 t4 t5 K) fun t23 w=>DoX prog (mFA 62 t23 1) w (aG d1 t4 t5 K) fun t24 w=>DoX prog (aA 3 t24) w (aG d1 t4 t5 K) fun t25 w=>CallX prog 35 #[t0,t25] w (aG d1 t4 t5 K) fun t26 w=>DoX prog (mExt t26 0) w (aG d1 t4 t5 K) fun t27 w=>DoX prog (mExt t26 1) w (aG d1 t4 t5 K) fun t28 w=>DoX prog (aM 58) w (aG d1 t4 t5 K) fun t8 w=>DoX prog (aC 58 t8 t27) w (aG d1 t4 t5 K) fun _ w=>DoX prog (mEq .neq 30 (.tmp 29) (.const (iN 0)) t28 (iN 0)) w (aG d1 t4 t5 K) fun t30 w=>GDo t30 false (fun E=>DoX prog (mFA 58 t8 0) w (aG d1 t4 t5 K) E) w fun t32 w=>GDo t30 false (fun E=>DoX prog (aA 3 t32) w (aG d1 t4 t5 K) E) w fun t33 w=>GDo t30 false (fun E=>DoX prog (mEq .neq 3 (.tmp 33) (.const (iN 5)) t33 (iN 5)) w (aG d1 t4 t5 K) E) w fun t34 w=>DoX prog (aF t30 (.bool true) t34) w (aG d1 t4 t5 K) fun t35 w=>GDo t35 false (fun E=>DoX prog (mFA 58 t8 4) w (aG d1 t4 t5 K) E) w fun t37 w=>GDo t35 false (fun E=>DoX prog (aA 9 t37) w (aG d1 t4 t5 K) E) w fun t38 w=>GDo t35 false (fun E=>DoX prog (mEq .neq 9 (.tmp 38) (.const (.string ⟨#[115,116,114,101,97,109]⟩)) t38 (.string ⟨#[115,116,114,101,97,109]⟩)) w (aG d1 t4 t5 K) E) w fun t39 w=>DoX prog (aF t35 (.bool true) t39) w (aG d1 t4 t5 K) fun t40 w=>GDo t40 false (fun E=>DoX prog (mFA 25 t7 0) w (aG d1 t4 t5 K) E) w fun t42 w=>GDo t40 false (fun E=>DoX prog (aA 3 t42) w (aG d1 t4 t5 K) E) w fun t43 w=>GDo t40 false (fun E=>DoX prog (mEq .neq 3 (.tmp 43) (.const (iN 7)) t43 (iN 7)) w (aG d1 t4 t5 K) E) w fun t44 w=>DoX prog (aF t40 (.bool true) t44) w (aG d1 t4 t5 K) fun t45 w=>IfX t45 (CallX prog 36 #[] w (aG d1 t4 t5 K) fun t46 w=>DoX prog (aC 25 t4 t46) w (aG d1 t4 t5 K) fun _ w=>DoX prog (aC 30 t5 (iN 0)) w (aG d1 t4 t5 K) fun _ w=>kR prog [.cell t4 25,.cell t5 30] K [d1] .returning w) (DoX prog (aA 25 t7) w (aG d1 t4 t5 K) fun t48 w=>CallX prog 37 #[t48,(.string ⟨#[76,101,110,103,116,104]⟩)] w (aG d1 t4 t5 K) fun t49 w=>DoX prog (mExt t49 0) w (aG d1 t4 t5 K) fun t50 w=>DoX prog (mExt t49 1) w (aG d1 t4 t5 K) fun t51 w=>DoX prog (aM 25) w (aG d1 t4 t5 K) fun t10 w=>DoX prog (aC 25 t10 t50) w (aG d1 t4 t5 K) fun _ w=>DoX prog (aA 25 t10) w (aG d1 t4 t5 K) fun t52 w=>DoX prog (aC 25 t4 t52) w (aG d1 t4 t5 K) fun _ w=>DoX prog (aC 30 t5 (iN 0)) w (aG d1 t4 t5 K) fun _ w=>kR prog [.cell t4 25,.cell t5 30] K [d1] .returning w))
theorem Gk{t0 t1 w K}(h:DK t0 t1 w K):Calls prog 11 #[t0,t1] w K:=cw Tryz.func11 rfl rfl (by kernel_rfl) h
def aN (x0:Deferred)(x1:Value)(x2:Value)(K:Ending→World→Prop):=pd prog [.cell x1 9,.cell x2 30] K [x0]
def D4(t2 t3 t4 d1 w)(K:KT):=
 CallX prog 43 #[t4,(.string ⟨#[101,110,100,111,98,106,10]⟩)] w (aN d1 t2 t3 K) fun t62 w=>CallX prog 51 #[t4] w (aN d1 t2 t3 K) fun t63 w=>DoX prog (aC 9 t2 t63) w (aN d1 t2 t3 K) fun _ w=>DoX prog (aC 30 t3 (iN 0)) w (aN d1 t2 t3 K) fun _ w=>kR prog [.cell t2 9,.cell t3 30] K [d1] .returning w
def Dw(t1 t2 t3 t4 t5 d1 w)(K:KT):=
 DoX prog (aA 25 t5) w (aN d1 t2 t3 K) fun t45 w=>CallX prog 50 #[t45] w (aN d1 t2 t3 K) fun t46 w=>DoX prog (mExt t46 0) w (aN d1 t2 t3 K) fun t47 w=>DoX prog (mExt t46 1) w (aN d1 t2 t3 K) fun t48 w=>CallX prog 45 #[t47,t48] w (aN d1 t2 t3 K) fun t49 w=>DoX prog (mBin .add 9 t49 (.string ⟨#[10]⟩)) w (aN d1 t2 t3 K) fun t50 w=>CallX prog 43 #[t4,t50] w (aN d1 t2 t3 K) fun t51 w=>JoinX (fun J6=>DoX prog (mFA 27 t1 2) w (aN d1 t2 t3 K) fun t52 w=>DoX prog (mFA 25 t52 0) w (aN d1 t2 t3 K) fun t53 w=>DoX prog (aA 3 t53) w (aN d1 t2 t3 K) fun t54 w=>DoX prog (mEq .eql 3 (.tmp 54) (.const (iN 9)) t54 (iN 9)) w (aN d1 t2 t3 K) fun t55 w=>IfX t55 (DoX prog (mFA 27 t1 2) w (aN d1 t2 t3 K) fun t56 w=>DoX prog (mFA 25 t56 3) w (aN d1 t2 t3 K) fun t57 w=>DoX prog (aA 9 t57) w (aN d1 t2 t3 K) fun t58 w=>DoX prog (mBin .add 9 (.string ⟨#[115,116,114,101,97,109,10]⟩) t58) w (aN d1 t2 t3 K) fun t59 w=>DoX prog (mBin .add 9 t59 (.string ⟨#[10,101,110,100,115,116,114,101,97,109,10]⟩)) w (aN d1 t2 t3 K) fun t60 w=>CallX prog 43 #[t4,t60] w (aN d1 t2 t3 K) fun t61 w=>AtX [d1] [d1] (J6 [] w)) (AtX [d1] [d1] (J6 [] w))) (fun vs6 w=>∀_:Sg,D4 t2 t3 t4 d1 w K)
def C8(t0 w)(K:KT):=
 dx (mBox 27 t0) w K fun t1 w=>dx (aM 9) w K fun t2 w=>dx (aM 30) w K fun t3 w=>dx (IZ (.func 41) #[] #[t3,t2]) w K fun t6 w=>DfrX (dfrV t6 #[]) (fun d1=>QuietX w (fun C2=>QDo prog C2 (aA 27 t1) fun t7=>QDo prog C2 (aA 27 t1) fun t8=>QCall prog C2 18 #[t8] fun t9=>
 ∀w,C2 w →
 CallX prog 42 #[t7,t9] w (aN d1 t2 t3 K) fun t10 w=>DoX prog (aM 78) w (aN d1 t2 t3 K) fun t4 w=>HeldX w (fun S3 w=>HDo prog S3 (mFA 27 t1 0) fun t11=>HDo prog S3 (aA 3 t11) fun t12=>HDo prog S3 (mFA 27 t1 1) fun t17=>HDo prog S3 (aA 3 t17) fun t18=>CallX prog 46 #[t12] w (pm1 (pm1 (pm1 (pm1 (pm1 (pm1 (pm1 (pm1 (pm1 (aN d1 t2 t3 K)))))))))) fun t13 w=>S3 w∧(HDo prog S3 (mExt t13 0) fun t14=>HDo prog S3 (mExt t13 1) fun t15=>CallX prog 45 #[t14,t15] w (pm1 (pm1 (pm1 (pm1 (pm1 (pm1 (pm1 (pm1 (pm1 (aN d1 t2 t3 K)))))))))) fun t16 w=>S3 w∧(CallX prog 46 #[t18] w (pm1 (pm1 (pm1 (pm1 (pm1 (pm1 (pm1 (pm1 (pm1 (aN d1 t2 t3 K)))))))))) fun t19 w=>S3 w∧(HDo prog S3 (mExt t19 0) fun t20=>HDo prog S3 (mExt t19 1) fun t21=>CallX prog 45 #[t20,t21] w (pm1 (pm1 (pm1 (pm1 (pm1 (pm1 (pm1 (pm1 (pm1 (aN d1 t2 t3 K)))))))))) fun t22 w=>S3 w∧(DoX prog (aS 22 3 #[(0,t16),(1,t22),(2,(.string ⟨#[111,98,106]⟩))]) w (pm1 (pm1 (pm1 (pm1 (pm1 (pm1 (pm1 (pm1 (pm1 (aN d1 t2 t3 K)))))))))) fun t23 w=>S3 w∧(CallX prog 44 #[t23] w (pm1 (pm1 (pm1 (pm1 (pm1 (pm1 (pm1 (pm1 (pm1 (aN d1 t2 t3 K)))))))))) fun t24 w=>S3 w∧(HDo prog S3 (mBin .add 9 t24 (.string ⟨#[10]⟩)) fun t25=>CallX prog 43 #[t4,t25] w (pm1 (pm1 (pm1 (pm1 (pm1 (pm1 (pm1 (pm1 (pm1 (aN d1 t2 t3 K)))))))))) fun t26 w=>S3 w∧(DoX prog (mFA 27 t1 2) w (aN d1 t2 t3 K) fun t27 w=>DoX prog (aA 25 t27) w (aN d1 t2 t3 K) fun t28 w=>DoX prog (aM 25) w (aN d1 t2 t3 K) fun t5 w=>DoX prog (aC 25 t5 t28) w (aN d1 t2 t3 K) fun _ w=>JoinX (fun J4=>DoX prog (mFA 25 t5 0) w (aN d1 t2 t3 K) fun t29 w=>DoX prog (aA 3 t29) w (aN d1 t2 t3 K) fun t30 w=>DoX prog (mEq .eql 3 (.tmp 30) (.const (iN 9)) t30 (iN 9)) w (aN d1 t2 t3 K) fun t31 w=>IfX t31 (HeldX w (fun S5 w=>HDo prog (fun _=>True) (mFA 25 t5 4) fun t32=>HDo prog S5 (aA 22 t32) fun t33=>HDo prog (fun _=>True) (mFA 25 t5 5) fun t34=>HDo prog S5 (aA 23 t34) fun t35=>HDo prog (fun _=>True) (aJ 25 #[(0,(iN 7)),(4,t33),(5,t35)]) fun t36=>HDo prog (fun _=>True) (mFA 25 t5 3) fun t37=>HDo prog S5 (aA 9 t37) fun t38=>HDo prog (fun _=>True) (mB .len #[9] 3 #[false] #[t38]) fun t39=>CallX prog 49 #[t39] w (pm1 (pm1 (pm1 (pm1 (pm1 (pm1 (pm1 (pm1 (pm1 (pm1 (aN d1 t2 t3 K))))))))))) fun t40 w=>S5 w∧(CallX prog 48 #[t36,(.string ⟨#[76,101,110,103,116,104]⟩),t40] w (pm1 (pm1 (pm1 (pm1 (pm1 (pm1 (pm1 (pm1 (pm1 (pm1 (aN d1 t2 t3 K))))))))))) fun t41 w=>S5 w∧(HDo prog (fun _=>True) (mExt t41 0) fun t42=>HDo prog (fun _=>True) (mExt t41 1) fun t43=>CallX prog 47 #[t42,t43] w (pm1 (pm1 (pm1 (pm1 (pm1 (pm1 (pm1 (pm1 (pm1 (pm1 (aN d1 t2 t3 K))))))))))) fun t44 w=>S5 w∧(DoX prog (aC 25 t5 t44) w (pm1 (pm1 (pm1 (pm1 (pm1 (pm1 (pm1 (pm1 (pm1 (pm1 (aN d1 t2 t3 K))))))))))) fun _ w=>(AtX [d1] [d1] (J4 [] w))))))) (AtX [d1] [d1] (J4 [] w))) (fun vs4 w=>∀_:Sg,Dw t1 t2 t3 t4 t5 d1 w K)))))))))))
theorem I8 (t0:Value)(w:World)(K:Ending→World→Prop):wpX prog 64 [(8,[]),(11,[])] [] none (aY Tryz.f15) (topQ prog [.cell 2 9,.cell 3 30] K) (aR [t0]) [] w=C8 t0 w K:=by kernel_rfl
theorem I3 {t0:Value}{w:World}{K:Ending→World→Prop}(h:C8 t0 w K):Calls prog 15 #[t0] w K:=
 aE Tryz.func15 rfl rfl rfl rfl (Eq.mpr (I8 t0 w K) h)
end
namespace Eng
theorem jT {P:Program}{f:FuncId}{fn:Func}{id:Nat}{o o2:Oper}{rest:Code}{args:List Value}{u:FrameMode}{w:World}{R:Ending→FrameMode→World→Prop}{n d d2:Nat}{aj al:List (Nat×List Nat)}{rs:List ResultVar}{g:Nat}{ys:Array Operand}{ts:Array TypeId}
  (hf:P.funcs[f]?=some fn) (hb:fn.body=some (.seq (.region id #[o,o2] false) rest)) (ho:o.op=.call { callee:=.builtin .recover,args:=#[],argTypes:=#[] }) (hg:o.guard=none) (hd:o.dst=some d) (hdn:Nat.blt d n=true)
  (ho2:o2.op=.call { callee:=.value (.func g),args:=ys,argTypes:=ts }) (hg2:o2.guard=none) (hd2:o2.dst=some d2) (hdn2:Nat.blt d2 n=true)
  (hn:fn.ntmps=n) (hrs:fn.results.toList=rs) (hl:Nat.ble args.length n=true) (hrest:Kl (aY fn)=rest) (hp:dN P g=true)
  {K':VWP} (h:CallX P g (amap (rd (upd (aR args) d (recV u))) ys) w (fun c w'=>R (.panicked c) (recM u) w') K')
  (hK:∀v w',K' v w'→wpX P n aj al none (Kl (aY fn)) (topD P rs (fun e w'=>R e (recM u) w')) (upd (upd (aR args) d (recV u)) d2 v) [] w'):CallsD P f args.toArray u w R:=by
 rw[hrest] at hK;refine callsD_of_wpS hf hb fun c₀ cs hu=>?_;rw[hn];refine wpS_seq (wpS_region ?_);have hex:∀ρ:Operand→Value,(execOp ρ o).run P w=.ok .recover w:=by
  intro ρ;unfold execOp;rw[ho];simp[resolve,invoke,builtin,bind,pure,Sem.bind,Sem.run]
 have hrep:=D6 (args:=args) hl;have hput:Rep n (upd (aR args) d (recV u)) (({ tmps:=args.toArray++Array.replicate (n - args.toArray.size) undef,defers:=[] }:Act).put o.dst (recV u)).tmps:=by
  rw[hd];exact Rep.put (a:={ tmps:=args.toArray++Array.replicate (n - args.toArray.size) undef,defers:=[] }) hrep (d:=some d) hdn (recV u)
 have hdef:(({ tmps:=args.toArray++Array.replicate (n - args.toArray.size) undef,defers:=[] }:Act).put o.dst (recV u)).defers=[]:=by rw[hd];rfl
 obtain⟨A1,hA1⟩:∃A,A=({ tmps:=args.toArray++Array.replicate (n - args.toArray.size) undef,defers:=[] }:Act).put o.dst (recV u):=⟨_,rfl⟩;rw[←hA1] at hput hdef;have hex2:(execOp A1.eval o2).run P w=.ok (.enter g (amap (rd (upd (aR args) d (recV u))) ys)) w:=by
  rw[Rep.eval hput];unfold execOp;rw[ho2,AY];simp only[resolve,rd,Deferred.ofValue,invoke,bind,pure,Sem.bind];rw[aaX,aaY];exact kC hp _ _
 have key:wpOpsS P #[o,o2] (Exit.thenS (rest.wpS P (bodyPostS P fn c₀ cs R)) (bodyPostS P fn c₀ cs R)) [1] A1 ({ c₀ with mode:=recM u }::cs) w:=by
  unfold wpOpsS;simp only[abZ,abC,aaG];rw[Yh (by simp[Region.wanted,hg2]),hex2];simp only[Oper.upon];refine Calls.mono h.out ?_;rintro e w'' hk;cases e with
 |outgrown=>exact hk.elim
 |panicked c=>exact⟨hdef,recM u,rfl,hk⟩
 |returned v=>
   have hk:wpX P n aj al none rest (topD P rs (fun e w'=>R e (recM u) w')) (upd (upd (aR args) d (recV u)) d2 v) [] w'':=hK v w'' hk;have hput2:Rep n (upd (upd (aR args) d (recV u)) d2 v) (A1.put o2.dst v).tmps:=by
    rw[hd2];exact Rep.put hput (d:=some d2) hdn2 v
   have hdef2:(A1.put o2.dst v).defers=[]:=by rw[hd2];exact hdef
   refine wpS_of_wp (Code.wp_mono ?_ (wpIn_wide.1 (Ea rest none _ _ _ w'' hput2 (by rw[hdef2];exact hk))));rintro e a w' ⟨σ,hr,hk⟩;have hdd:∀K:Ending→World→Prop,RetD P (rvOf σ rs) w' K→∃v,(results fn a.tmps).run P w'=.ok v w'∧K (.returned v) w':=fun K hk=>by
    rw[BW hr,hrs];exact GL hk
   generalize hds:a.defers=ds at hk;cases e<;>cases ds<;>first|(exact hk.elim;done)|skip
   ·obtain⟨v,h1,h2⟩:=hdd (fun e w'=>R e (recM u) w') hk;exact⟨hds,recM u,rfl,v,h1,h2⟩
   ·obtain⟨v,h1,h2⟩:=hdd (fun e w'=>R e (recM u) w') hk;exact⟨hds,recM u,rfl,v,h1,h2⟩
   ·exact⟨hds,recM u,rfl,hk⟩
 have e:=rec_eq c₀ cs;rw[hu] at e;show wpOpsS P #[o,o2] _ [0,1] _ (c₀::cs) w;unfold wpOpsS;simp only[abZ,aaG];rw[Yh (by simp[Region.wanted,hg])];rw[hex];cases hrc:recoverD (c₀::cs) with
|none=>
  rw[hrc] at e;simp only[ZI] at e;simp only;rw[e.1,e.2,←hA1];exact key
|some x=>
  obtain⟨v,cs'⟩:=x;rw[hrc] at e;simp only[ZI] at e;simp only;rw[e.1,e.2,←hA1];exact key
end Eng
section
open Eng
def jV(t0 t1 t2 t3)(r v:Value)(w)(K:KT):=
 dx (aA 30 t0) w K fun t6 w=>dx (mEq .neq 30 (.tmp 6) (.const (iN 0)) t6 (iN 0)) w K fun t7 w=>IfX t7 (dx (aC 3 t1 (iN 0)) w K fun _ w=>dx (aC 3 t2 (iN 0)) w K fun _ w=>dx (aC 3 t3 (iN 0)) w K fun _ w=>K (.returned (.tuple #[])) w) (K (.returned (.tuple #[])) w)
def xI(t0 t1 t2 t3 r w)(K:KT):=cx 24 #[r,t0] w K fun v w=>jV t0 t1 t2 t3 r v w K
theorem Gu (t0 t1 t2 t3 r v:Value)(w:World)(K:Ending→World→Prop):wpX prog 8 [] [] none (Kl (aY Tryz.f39)) (topD prog [] K) (upd (upd (aR [t0,t1,t2,t3]) 4 r) 5 v) [] w=jV t0 t1 t2 t3 r v w K:=by kernel_rfl
theorem vD {t0 t1 t2 t3:Value}{u:FrameMode}{w:World}{R:Ending→FrameMode→World→Prop}(h:xI t0 t1 t2 t3 (recV u) w (fun e w=>R e (recM u) w)):CallsD prog 39 #[t0,t1,t2,t3] u w R:=
 jT Tryz.func39 rfl rfl rfl rfl rfl rfl rfl rfl rfl rfl rfl rfl rfl (by kernel_rfl) h fun v w hh=>Eq.mpr (Gu t0 t1 t2 t3 (recV u) v w _) hh
def kU(t0 t1 t2)(r v:Value)(w)(K:KT):=
 dx (aA 30 t0) w K fun t5 w=>dx (mEq .neq 30 (.tmp 5) (.const (iN 0)) t5 (iN 0)) w K fun t6 w=>IfX t6 (dx (aJ 27 #[]) w K fun t7 w=>dx (aC 27 t1 t7) w K fun _ w=>dx (aC 3 t2 (iN 0)) w K fun _ w=>K (.returned (.tuple #[])) w) (K (.returned (.tuple #[])) w)
def xB(t0 t1 t2 r w)(K:KT):=cx 24 #[r,t0] w K fun v w=>kU t0 t1 t2 r v w K
theorem F6 (t0 t1 t2 r v:Value)(w:World)(K:Ending→World→Prop):wpX prog 8 [] [] none (Kl (aY Tryz.f23)) (topD prog [] K) (upd (upd (aR [t0,t1,t2]) 3 r) 4 v) [] w=kU t0 t1 t2 r v w K:=by kernel_rfl
theorem vM {t0 t1 t2:Value}{u:FrameMode}{w:World}{R:Ending→FrameMode→World→Prop}(h:xB t0 t1 t2 (recV u) w (fun e w=>R e (recM u) w)):CallsD prog 23 #[t0,t1,t2] u w R:=
 jT Tryz.func23 rfl rfl rfl rfl rfl rfl rfl rfl rfl rfl rfl rfl rfl (by kernel_rfl) h fun v w hh=>Eq.mpr (F6 t0 t1 t2 (recV u) v w _) hh
def gD(t0 t1)(r v:Value)(w)(K:KT):=
 dx (aA 30 t0) w K fun t4 w=>dx (mEq .neq 30 (.tmp 4) (.const (iN 0)) t4 (iN 0)) w K fun t5 w=>IfX t5 (dx (aJ 25 #[]) w K fun t6 w=>dx (aC 25 t1 t6) w K fun _ w=>K (.returned (.tuple #[])) w) (K (.returned (.tuple #[])) w)
def qI(t0 t1 r w)(K:KT):=cx 24 #[r,t0] w K fun v w=>gD t0 t1 r v w K
theorem DZ (t0 t1 r v:Value)(w:World)(K:Ending→World→Prop):wpX prog 7 [] [] none (Kl (aY Tryz.f34)) (topD prog [] K) (upd (upd (aR [t0,t1]) 2 r) 3 v) [] w=gD t0 t1 r v w K:=by kernel_rfl
theorem pZ {t0 t1:Value}{u:FrameMode}{w:World}{R:Ending→FrameMode→World→Prop}(h:qI t0 t1 (recV u) w (fun e w=>R e (recM u) w)):CallsD prog 34 #[t0,t1] u w R:=
 jT Tryz.func34 rfl rfl rfl rfl rfl rfl rfl rfl rfl rfl rfl rfl rfl (by kernel_rfl) h fun v w hh=>Eq.mpr (DZ t0 t1 (recV u) v w _) hh
def gF(t0 t1)(r v:Value)(w)(K:KT):=
 dx (aA 30 t0) w K fun t4 w=>dx (mEq .neq 30 (.tmp 4) (.const (iN 0)) t4 (iN 0)) w K fun t5 w=>IfX t5 (dx (aC 9 t1 (.string ⟨#[]⟩)) w K fun _ w=>K (.returned (.tuple #[])) w) (K (.returned (.tuple #[])) w)
def qR(t0 t1 r w)(K:KT):=cx 24 #[r,t0] w K fun v w=>gF t0 t1 r v w K
theorem DE (t0 t1 r v:Value)(w:World)(K:Ending→World→Prop):wpX prog 6 [] [] none (Kl (aY Tryz.f41)) (topD prog [] K) (upd (upd (aR [t0,t1]) 2 r) 3 v) [] w=gF t0 t1 r v w K:=by kernel_rfl
theorem rR {t0 t1:Value}{u:FrameMode}{w:World}{R:Ending→FrameMode→World→Prop}(h:qR t0 t1 (recV u) w (fun e w=>R e (recM u) w)):CallsD prog 41 #[t0,t1] u w R:=
 jT Tryz.func41 rfl rfl rfl rfl rfl rfl rfl rfl rfl rfl rfl rfl rfl (by kernel_rfl) h fun v w hh=>Eq.mpr (DE t0 t1 (recV u) v w _) hh
end
section
open Eng Go.RowKit
abbrev brE (b:Nat)(s:List UInt8)(a:Int):Ent:=.cells b (rdC s a) 62
theorem fbr0:fOff prog 62 0=some 0:=by kernel_rfl
theorem fbr1:fOff prog 62 1=some 1:=by kernel_rfl
theorem nfG:mH prog 96=true:=by kernel_rfl
def upE (e:Int):PanicEntry:={ v:=.iface 96 (.agg #[.int .i64 e]),recovered:=false }
section
variable {w:World}{PK:PKT}{K:VWP}{S:Nat→Prop}{w0:World}{L:List Ent}
theorem Hu {b:Nat}:DoX prog (mFA 62 (.pointer (some ⟨b,0,none⟩)) 1) w PK K=K (.pointer (some ⟨b,1,none⟩)) w:=dJ fbr1
theorem br_s {b:Nat}{s:List UInt8}{a:Int}(h:(brE b s a).is w):(aA 9 (.pointer (some ⟨b,0,none⟩))).run prog w=.ok (.value (.string ⟨s.toArray⟩)) w:=aL qQ (aV (T:=62) (cs:=rdC s a) (i:=0) h rfl)
theorem br_a {b:Nat}{s:List UInt8}{a:Int}(h:(brE b s a).is w):(aA 3 (.pointer (some ⟨b,1,none⟩))).run prog w=.ok (.value (.int .i64 a)) w:=aL kV (aV (T:=62) (cs:=rdC s a) (i:=1) h rfl)
theorem NP (i:Nat){b:Nat}{s:List UInt8}{a a':Int}(ho:OwnS S w0 w L)(hi:L[i]?=some (brE b s a))(k:∀w',OwnS S w0 w' (L.set i (brE b s a'))→K undef w'):DoX prog (aC 3 (.pointer (some ⟨b,1,none⟩)) (.int .i64 a')) w PK K:=
 aW i ho hi (by kernel_rfl) rfl (show 1 < 2 by omega) k
end
theorem VI (e:Int)(w:World):Ret prog 26 #[.bool true,.int .i64 e] w (fun v w'=>v=.tuple #[]∧w=w'):=by
 refine aO fun K hK=>Ct ?_;unfold Dh dx;simp only[rs,YE,i_f];exact hK _ _ ⟨rfl,rfl⟩
theorem VH (e:Int)(w:World):Pan prog 26 #[.bool false,.int .i64 e] w (fun c w'=>c=[upE e]∧w=w'):=by
 refine QY fun K hK=>Ct ?_;unfold Dh dx;simp only[rs,YJ,i_t];have hb:∀{PK:PKT} {K:VWP},DoX prog (aJ 96 #[(0,.int .i64 e)]) w PK K=K (.agg #[.int .i64 e]) w:=aU (by kernel_rfl);rw[hb,JU nfG,Kk];exact hK _ _ ⟨rfl,rfl⟩
section
variable {w:World}{PK:PKT}{K:VWP}{S:Nat→Prop}{w0:World}{L:List Ent}
theorem dP {q:Bool}{e:Int}(kt:q=true→K (.tuple #[]) w)(kf:q=false→PK [upE e] w):CallX prog 26 #[.bool q,.int .i64 e] w PK K:=by
 cases q with
|true=>exact c_eq (VI e w) (kt rfl)
|false=>exact Uc (VH e w) fun c w' ⟨hc,hw⟩=>by subst hc;subst hw;exact kf rfl
theorem Km {t:Lx.Tok}{e:Int}(ho:OwnS S w0 w L)(kr:e=0→∀w',OwnS S w0 w' L→K (tokV t) w')(kp:e≠0→∀w',OwnS S w0 w' L→PK [upE e] w'):CallX prog 62 #[tokV t,.int .i64 e] w PK K:=by
 refine⟨lB ?_⟩;unfold eN iN dx cx;refine La t ho fun b w1 ho=>?_;refine gJ ho fun b2 w2 ho=>?_;simp only[rs];refine dP (fun h=>?_) fun h=>kp (Y5 h) _ ho.tail.tail;rw[tk_v ho 1 rfl];refine jS 0 ho rfl fun w3 ho=>?_;exact eG (aX (ho.agg 0 rfl Fw)) (kr (YF h) _ ho.tail.tail)
theorem Ow {o:Ob}{vk vc:Value}{e:Int}(hk:vk.oneCell'=true)(hc:vc.oneCell'=true)(ho:OwnS S w0 w L)(kr:e=0→∀w',OwnS S w0 w' L→K (obV o vk vc) w')(kp:e≠0→∀w',OwnS S w0 w' L→PK [upE e] w'):CallX prog 47 #[obV o vk vc,.int .i64 e] w PK K:=by
 refine⟨jW ?_⟩;unfold eI iN dx cx;refine cY o hk hc ho fun b w1 ho=>?_;refine bN ho fun b2 w2 ho=>?_;simp only[rs];refine dP (fun h=>?_) fun h=>kp (Y5 h) _ ho.tail.tail;rw[ob_v ho 1 rfl];refine aQ 0 hk hc ho rfl fun w3 ho=>?_;exact eG (aX (ho.agg 0 rfl dM)) (kr (YF h) _ ho.tail.tail)
theorem JQ {s:List UInt8}{e:Int}(kr:e=0→K (.string ⟨s.toArray⟩) w)(kp:e≠0→PK [upE e] w):CallX prog 45 #[.string ⟨s.toArray⟩,.int .i64 e] w PK K:=by
 refine⟨Bv ?_⟩;unfold tE iN dx cx;simp only[rs];exact dP (fun h=>kr (YF h)) fun h=>kp (Y5 h)
theorem EU {s:List UInt8}{a:Int}(ho:OwnS S w0 w L)(kr:(0≤a∧a≤s.length)→∀b w',OwnS S w0 w' (brE b s a::L)→K (rdP b) w')(kp:¬(0≤a∧a≤s.length)→PK [upE 1] w):CallX prog 25 #[.string ⟨s.toArray⟩,.int .i64 a] w PK K:=by
 refine⟨IM ?_⟩;unfold Iz iN dx gtx etx cx;have fin:∀q:Bool,(q=true↔(0≤a∧a≤s.length))→CallX prog 26 #[.bool q,.int .i64 1] w (pk (Cont K PK)) fun t13 w=>
   DoX prog (aJ 62 #[(0,.string ⟨s.toArray⟩),(1,.int .i64 a)]) w (pk (Cont K PK)) fun t16 w=>DoX prog (mBox 62 t16) w (pk (Cont K PK)) fun t17 w=>Cont K PK (.returned t17) w:=by
  intro q hq;refine dP (fun h=>?_) fun h=>kp fun h'=>by rw[hq.2 h'] at h;cases h
  have hb1:∀{PK:PKT} {K:VWP},DoX prog (aJ 62 #[(0,.string ⟨s.toArray⟩),(1,.int .i64 a)]) w PK K=K (.agg (rdC s a).toArray) w:=aU (by kernel_rfl);rw[hb1];exact cI (fun b=>.pointer (some ⟨b,0,none⟩)) (rdC s a) 62 (fun _=>by kernel_rfl) ho fun b w2 ho=>kr (hq.1 h) b w2 ho
 by_cases h0:a≥0
 ·simp only[rs,Yk h0,bF Ym];exact fin _ (by simp[Yx];omega)
 ·simp only[rs,Yl h0,g_un];exact fin _ (by simp;omega)
end
theorem He (b:Nat)(s:List UInt8)(a:Int)(w:World)(hs:s.length≤1099511627776)(hr:(brE b s a).is w) :
  Lend prog 29 #[rdP b] (brE b s a) w (Has s a) (fun v e'=>v=tokV (Lx.next s a).1∧e'=brE b s (Lx.next s a).1.t) [upE (tR s a)]:=by
 refine Iw hr (fun K ho hret hpan=>AQ ?_);unfold tC dx;generalize hS0:(brE b s a).blk=S0 at *;refine gJ ho fun b2 w1 ho=>?_;have two:∀{W:World} {b3:Nat},(Lx.next s a).2=0→OwnS S0 w W [tokE b3 (Lx.next s a).1,tokE b2 Lx.none_,brE b s a]→cX (rdP b) (.pointer (some ⟨b2,0,none⟩)) (.pointer (some ⟨b3,0,none⟩)) W K:=by
  intro W b3 hz ho;unfold Has tR at *;generalize Lx.next s a=x at *
  unfold cX iN dx cx;rw[cO,tk_k ho 0 rfl];simp only[rs];refine dP (fun h=>?_) fun h=>?_
  rotate_left
  ·have h0:x.1.k=0:=by simpa using h
   rw[Yg (by simp[hz])] at hpan;exact hpan (fun h=>h.2 h0) _ W _ ho.tail.tail
  have h0:x.1.k≠0:=YF h;rw[Hw,tk_t ho 0 rfl,Hu];refine NP 2 ho rfl fun w2 ho=>?_;have ho:OwnS S0 w w2 [tokE b3 x.1,tokE b2 Lx.none_,brE b s x.1.t]:=ho;rw[tk_v ho 0 rfl];refine jS 1 ho rfl fun w3 ho=>?_;refine eG (aX (ho.agg 1 rfl Fw)) ?_;exact hret ⟨hz,h0⟩ _ _ w3 [] ho.tail.tail ⟨rfl,rfl⟩
 have bad:∀{W:World} {L:List Ent},(Lx.next s a).2≠0→OwnS S0 w W (L++([brE b s a]++[]))→pk K [upE (Lx.next s a).2] W:=by
  intro W L hz ho;have:=hpan (fun h=>hz h.1);unfold tR at this;rw[Yh hz] at this;exact this _ W _ ho.front
 have ho:=ho.drew;refine⟨fun W=>(brE b s a).is W,ho.at_ 1 rfl,?_⟩;refine aZ _ (fun _=>eY) (aZ _ (fun _=>bC fbr0) (fG _ (fun W h=>br_s h) ?_));refine aZ _ (fun _=>eY) (aZ _ (fun _=>bC fbr1) (fG _ (fun W h=>br_a h) ?_));refine⟨?_,?_⟩
 ·refine aP ho (R:=fun v=>v=tokR (Lx.next s a)) (B9 s a _ hs) ?_;rintro _ w2 rfl ho;refine aZ _ (fun _=>vZ) (aZ _ (fun _=>wV) ?_);refine⟨?_,?_⟩
  ·refine Km ho (fun hz w3 ho=>⟨ho.at_ 1 rfl,?_⟩) fun hz w3 ho=>fun _ _ _ _ _ _ _ _ _ _=>bad (L:=[_]) hz ho;refine gJ ho fun b3 w4 ho=>⟨ho.at_ 2 rfl,?_⟩;refine jS 0 ho rfl fun w5 ho=>?_;exact two hz ho
  ·refine gJ ho fun b3 w4 ho=>⟨ho.at_ 2 rfl,?_⟩;refine Km ho (fun hz w3 ho=>⟨ho.at_ 2 rfl,?_⟩) fun hz w3 ho=>fun _ _ _ _ _ _ _ _ _ _=>bad (L:=[_,_]) hz ho;refine jS 0 ho rfl fun w5 ho=>?_;exact two hz ho
 ·refine gJ ho fun b3 w3 ho=>⟨ho.at_ 2 rfl,?_⟩;refine aP ho (R:=fun v=>v=tokR (Lx.next s a)) (B9 s a _ hs) ?_;rintro _ w2 rfl ho;refine aZ _ (fun _=>vZ) (aZ _ (fun _=>wV) ?_);refine Km ho (fun hz w3 ho=>⟨ho.at_ 2 rfl,?_⟩) fun hz w3 ho=>fun _ _ _ _ _ _ _ _ _ _=>bad (L:=[_,_]) hz ho;refine jS 0 ho rfl fun w5 ho=>?_;exact two hz ho
theorem Ix (b:Nat)(s:List UInt8)(a:Int)(wd:List UInt8)(w:World)(hs:s.length≤1099511627776)(hr:(brE b s a).is w) :
  Lend prog 60 #[rdP b,.string ⟨wd.toArray⟩] (brE b s a) w ((Bd.word s a wd).2=0) (fun v e'=>v=.tuple #[]∧e'=brE b s (Bd.word s a wd).1) [upE (Bd.word s a wd).2]:=by
 refine Iw hr (fun K ho hret hpan=>Bo ?_);unfold tP iN dx gtx etx cx;generalize hS0:(brE b s a).blk=S0 at *;unfold Bd.word at hret hpan;refine yI ho 0 rfl (He b s a w hs (ho.at_ 0 rfl)) ?_ fun e2 w2 hn ho=>?_
 rotate_left
 ·unfold Has at hn;unfold tR;by_cases hz:(Lx.next s a).2≠0
  ·rw[Yh hz];rw[Yh hz] at hpan;exact hpan hz _ _ _ ho
  ·rw[Yg hz];have hk:(Lx.next s a).1.k=0:=by
    by_cases hk:(Lx.next s a).1.k=0
    ·exact hk
    ·exact absurd ⟨by omega,hk⟩ hn
   rw[Yg hz,Yh hk] at hpan;exact hpan (by decide) _ _ _ ho
 rintro _ _ w2 ⟨hz,hk⟩ ⟨rfl,rfl⟩ ho;rw[Yg (by simp[hz]),Yg hk] at hret hpan;generalize Lx.next s a=x at *
 refine gJ ho fun b4 w3 ho=>?_;refine jS 0 ho rfl fun w4 ho=>?_;have ho:OwnS S0 w w4 [tokE b4 x.1,brE b s x.1.t]:=ho;have fin:∀q:Bool,(q=true↔(x.1.k=5∧x.1.s=wd))→CallX prog 26 #[.bool q,.int .i64 3] w4 (pk K) fun t16 w=>K (.returned (.tuple #[])) w:=by
  intro q hq;refine dP (fun h=>?_) fun h=>?_
  ·obtain⟨h5,hw⟩:=hq.1 h;rw[Yg (by simp[h5,hw])] at hret;exact hret rfl _ _ w4 [] ho.tail ⟨rfl,rfl⟩
  ·have hne:x.1.k≠5∨x.1.s≠wd:=by
    by_cases h5:x.1.k=5
    ·right;intro hw;rw[hq.2 ⟨h5,hw⟩] at h;cases h
    ·exact .inl h5
   rw[Yh hne] at hpan;exact hpan (by decide) _ w4 [] ho.tail
 rw[cO,tk_k ho 0 rfl];by_cases h5:x.1.k=5
 ·simp only[rs,Yk h5,cL,tk_s ho 0 rfl];exact fin _ (by simp[h5])
 ·simp only[rs,Yl h5,g_un];exact fin _ (by simp[h5])
theorem Nw (b:Nat)(s:List UInt8)(a lo hi:Int)(w:World)(hs:s.length≤1099511627776)(hr:(brE b s a).is w) :
  Lend prog 59 #[rdP b,.int .i64 lo,.int .i64 hi] (brE b s a) w ((Bd.num s a lo hi).2.2=0) (fun v e'=>v=.int .i64 (Bd.num s a lo hi).1∧e'=brE b s (Bd.num s a lo hi).2.1) [upE (Bd.num s a lo hi).2.2]:=by
 refine Iw hr (fun K ho hret hpan=>xM ?_);unfold pO iN dx gtx etx cx;generalize hS0:(brE b s a).blk=S0 at *;unfold Bd.num at hret hpan;refine yI ho 0 rfl (He b s a w hs (ho.at_ 0 rfl)) ?_ fun e2 w2 hn ho=>?_
 rotate_left
 ·unfold Has at hn;unfold tR;by_cases hz:(Lx.next s a).2≠0
  ·rw[Yh hz];rw[Yh hz] at hpan;exact hpan hz _ _ _ ho
  ·rw[Yg hz];have hk:(Lx.next s a).1.k=0:=by
    by_cases hk:(Lx.next s a).1.k=0
    ·exact hk
    ·exact absurd ⟨by omega,hk⟩ hn
   rw[Yg hz,Yh hk] at hpan;exact hpan (by decide) _ _ _ ho
 rintro _ _ w2 ⟨hz,hk⟩ ⟨rfl,rfl⟩ ho;rw[Yg (by simp[hz]),Yg hk] at hret hpan;generalize Lx.next s a=x at *
 refine gJ ho fun b4 w3 ho=>?_;refine jS 0 ho rfl fun w4 ho=>?_;have ho:OwnS S0 w w4 [tokE b4 x.1,brE b s x.1.t]:=ho;rw[cO,tk_k ho 0 rfl];simp only[rs];refine dP (fun h=>?_) fun h=>?_
 rotate_left
 ·have h1:x.1.k≠1:=Y5 h;rw[Yh h1] at hpan;exact hpan (by decide) _ w4 [] ho.tail
 have h1:x.1.k=1:=YF h;rw[Yg (by simp[h1])] at hret hpan;have fin:∀q:Bool,(q=true↔(lo≤x.1.n∧x.1.n≤hi))→CallX prog 26 #[.bool q,.int .i64 2] w4 (pk K) fun t16 w=>DoX prog (mFA 58 (.pointer (some ⟨b4,0,none⟩)) 3) w (pk K) fun t25 w=>DoX prog (aA 2 t25) w (pk K) fun t26 w=>K (.returned t26) w:=by
  intro q hq;refine dP (fun h=>?_) fun h=>?_
  ·have hb:=hq.1 h;rw[Yg (by omega)] at hret;rw[oQ,tk_n ho 0 rfl];exact hret rfl _ _ w4 [] ho.tail ⟨rfl,rfl⟩
  ·have hne:x.1.n < lo∨hi < x.1.n:=by
    have hb:¬(lo≤x.1.n∧x.1.n≤hi):=fun hb=>by rw[hq.2 hb] at h;cases h
    omega
   rw[Yh hne] at hpan;exact hpan (by decide) _ w4 [] ho.tail
 simp only[oQ,tk_n ho 0 rfl] at fin ⊢;by_cases h5:x.1.n≥lo
 ·simp only[rs,Yk h5,oQ,tk_n ho 0 rfl];exact fin (decide (x.1.n≤hi)) ⟨fun h=>⟨h5,YF h⟩,fun h=>Yk h.2⟩
 ·simp only[rs,Yl h5,g_un];exact fin false ⟨fun h=>(by cases h),fun h=>absurd h.1 h5⟩
theorem H3 (b:Nat)(s:List UInt8)(a:Int)(w:World)(hs:s.length≤1099511627776)(hr:(brE b s a).is w) :
  Lend prog 27 #[rdP b] (brE b s a) w ((Bd.Co s a).e=0) (fun v e'=>v=.tuple #[.int .i64 (Bd.Co s a).num,.int .i64 (Bd.Co s a).gen]∧e'=brE b s (Bd.Co s a).t) [upE (Bd.Co s a).e]:=by
 refine Iw hr (fun K ho hret hpan=>A9 ?_);unfold tO iN cx;generalize hS0:(brE b s a).blk=S0 at *;unfold Bd.Co at hret hpan;refine yI ho 0 rfl (Nw b s a 1 8191 w hs (ho.at_ 0 rfl)) ?_ fun e2 w2 hn ho=>?_
 rotate_left
 ·rw[Yh hn] at hpan;exact hpan hn _ _ _ ho
 rintro _ _ w2 hz ⟨rfl,rfl⟩ ho;rw[Yg (by simp[hz])] at hret hpan;refine yI ho 0 rfl (Nw b s _ 0 65535 w2 hs (ho.at_ 0 rfl)) ?_ fun e2 w3 hn ho=>?_
 rotate_left
 ·rw[Yh hn] at hpan;exact hpan hn _ _ _ ho
 rintro _ _ w3 hz2 ⟨rfl,rfl⟩ ho;rw[Yg (by simp[hz2])] at hret hpan;refine yI ho 0 rfl (Ix b s _ Bd.objW w3 hs (ho.at_ 0 rfl)) ?_ fun e2 w4 hn ho=>?_
 rotate_left
 ·rw[Yh hn] at hpan;exact hpan hn _ _ _ ho
 rintro _ _ w4 hz3 ⟨rfl,rfl⟩ ho;rw[Yg (by simp[hz3])] at hret;exact hret rfl _ _ w4 [] ho ⟨rfl,rfl⟩
end
section
open Eng Go.RowKit
namespace Eng
theorem Ux {P:Program}{w:World}{r1 r2 r3 r4:RV}{v1 v2 v3 v4:Value}{K:Ending→World→Prop}(h1:r1.read.run P w=.ok v1 w)(h2:r2.read.run P w=.ok v2 w)(h3:r3.read.run P w=.ok v3 w)(h4:r4.read.run P w=.ok v4 w)(k:K (.returned (.tuple #[v1,v2,v3,v4])) w):RetX P [r1,r2,r3,r4] w K:=
 ⟨_,by simp[AJ,h1,h2,h3,h4],k⟩
end Eng
abbrev errE (b:Nat)(e:Int):Ent:=.cells b [.int .i64 e] 30
abbrev ciE (b:Nat)(n:Int):Ent:=.cells b [.int .i64 n] 3
section
variable {w:World}{PK:PKT}{K:VWP}{S:Nat→Prop}{w0:World}{L:List Ent}
theorem BL {v:Value}(k:K (.tuple #[]) w):CallX prog 24 #[.nilIface,v] w PK K:=by
 refine⟨yG ?_⟩;simp only[xV,Eng.MB ZH,i_t,dx];exact k
theorem B4 {be:Nat}{x e:Int}(ho:OwnS S w0 w L)(i:Nat)(hi:L[i]?=some (errE be x))(k:∀w',OwnS S w0 w' (L.set i (errE be e))→K (.tuple #[]) w') :
  CallX prog 24 #[.iface 96 (.agg #[.int .i64 e]),.pointer (some ⟨be,0,none⟩)] w PK K:=by
 refine⟨yG ?_⟩;simp only[xV,Eng.Nk ZH,rs,Ti nfG,ex,i_t,i_f,dx];refine cI (fun b=>.pointer (some ⟨b,0,none⟩)) [.int .i64 0] 96 (fun _=>by kernel_rfl) ho fun b5 w5 ho=>?_;refine HE 0 ho rfl (new:=[.int .i64 e]) (show (Tryz.prog.info? 96).map (·.size)=some 1 by kernel_rfl) (by simp;rfl) rfl fun w6 ho=>?_;rw[dJ (show fOff prog 96 0=some 0 by kernel_rfl),bE rU (ho.cell 0 rfl 0 rfl)]
 try simp only[rs]
 refine aW (i+1) ho (by simpa using hi) (by kernel_rfl) rfl (by simp) fun w7 ho=>?_;exact k _ ho.tail
end
theorem Fh:dN prog 39=true:=by kernel_rfl
def hdV (h:Bd.Hd):Value:=.tuple #[.int .i64 h.num,.int .i64 h.gen,.int .i64 h.t,.int .i64 h.e]
theorem Hf (s:List UInt8)(a:Int)(w:World)(hs:s.length≤1099511627776) :
  Ret prog 13 #[.string ⟨s.toArray⟩,.int .i64 a] w (fun v w'=>v=hdV (Bd.head s a)∧Below w.heap.size w w'):=by
 refine aO fun K hK=>I9 ?_;unfold Iu iN dx;refine cI (fun b=>.pointer (some ⟨b,0,none⟩)) [.int .i64 0] 3 (fun _=>by kernel_rfl) (Own.start w) fun b4 w1 ho=>?_;refine cI (fun b=>.pointer (some ⟨b,0,none⟩)) [.int .i64 0] 3 (fun _=>by kernel_rfl) ho fun b5 w2 ho=>?_;refine cI (fun b=>.pointer (some ⟨b,0,none⟩)) [.int .i64 0] 3 (fun _=>by kernel_rfl) ho fun b6 w3 ho=>?_;refine cI (fun b=>.pointer (some ⟨b,0,none⟩)) [.int .i64 0] 30 (fun _=>by kernel_rfl) ho fun b7 w4 ho=>?_;have ho:OwnS NoB w w4 [errE b7 0,ciE b6 0,ciE b5 0,ciE b4 0]:=ho;rw[Er];refine⟨_,rfl,?_⟩;have fail:∀{W:World} {L:List Ent} {x y z e:Int},OwnS NoB w W (L++([errE b7 x,ciE b6 0,ciE b5 y,ciE b4 z]++[]))→e≠0→Bd.head s a=⟨0,0,0,e⟩ →
   cA { target:=.fn (.func 39) #[.pointer (some ⟨b7,0,none⟩),.pointer (some ⟨b4,0,none⟩),.pointer (some ⟨b5,0,none⟩),.pointer (some ⟨b6,0,none⟩)],args:=#[]++#[] } (.pointer (some ⟨b4,0,none⟩)) (.pointer (some ⟨b5,0,none⟩)) (.pointer (some ⟨b6,0,none⟩)) (.pointer (some ⟨b7,0,none⟩)) K [upE e] W:=by
  intro W L x y z e ho h0 hh;have ho:=ho.front;show pd prog _ K _ [upE e] W;unfold pd;refine iD (by simp) Fh (vD (t0:=.pointer (some ⟨b7,0,none⟩)) (t1:=.pointer (some ⟨b4,0,none⟩)) (t2:=.pointer (some ⟨b5,0,none⟩)) (t3:=.pointer (some ⟨b6,0,none⟩)) ?_);simp only[xI,recV,recM,upE,cx];refine B4 (e:=e) ho 0 rfl fun w5 ho=>?_;have ho:OwnS NoB w w5 (errE b7 e::ciE b6 0::ciE b5 y::ciE b4 z::(L++[])):=ho;unfold jV iN dx;rw[bE rU (ho.cell 0 rfl 0 rfl)];simp only[rs,Yk (show e≠0 from h0),i_t];refine aW 3 ho rfl (by kernel_rfl) rfl (by simp) fun w6 ho=>?_;refine aW 2 ho rfl (by kernel_rfl) rfl (by simp) fun w7 ho=>?_;refine aW 1 ho rfl (by kernel_rfl) rfl (by simp) fun w8 ho=>?_;refine Ux (aX (AtV.cell kV (ho.cell 3 rfl 0 rfl))) (aX (AtV.cell kV (ho.cell 2 rfl 0 rfl))) (aX (AtV.cell kV (ho.cell 1 rfl 0 rfl))) (aX (AtV.cell rU (ho.cell 0 rfl 0 rfl))) (hK _ _ ⟨?_,ho.done⟩);rw[hh];rfl
 by_cases hr:0≤a∧a≤s.length
 case neg=>
  refine EU ho (fun h=>absurd h hr) fun _=>fail (L:=[]) ho (by decide) ?_;unfold Bd.head;rw[Yh (by omega)]
 have hh:Bd.head s a=Bd.Co s a:=by unfold Bd.head;rw[Yg (by omega)]
 refine EU ho (fun _ b w5 ho=>?_) fun h=>absurd hr h;have ho:OwnS NoB w w5 [brE b s a,errE b7 0,ciE b6 0,ciE b5 0,ciE b4 0]:=ho;refine yI ho 0 rfl (H3 b s a w5 hs (ho.at_ 0 rfl)) ?_ fun e2 w6 hn ho=>?_
 rotate_left
 ·refine fail (L:=[e2]) ho hn ?_;rw[hh];unfold Bd.Co at hn ⊢;split
  ·rfl
  rename_i h1
  rw[Yg h1] at hn;split
  ·rfl
  rename_i h2
  rw[Yg h2] at hn;split
  ·rfl
  rename_i h3
  rw[Yg h3] at hn;exact absurd rfl hn
 rintro _ _ w6 hz ⟨rfl,rfl⟩ ho;simp only[ex];refine aW 4 ho rfl (by kernel_rfl) rfl (by simp) fun w7 ho=>?_;refine aW 3 ho rfl (by kernel_rfl) rfl (by simp) fun w8 ho=>?_;have ho:OwnS NoB w w8 [brE b s (Bd.Co s a).t,errE b7 0,ciE b6 0,ciE b5 (Bd.Co s a).gen,ciE b4 (Bd.Co s a).num]:=ho;rw[←hh] at ho hz;have ho:=ho.drew;refine⟨fun W=>(brE b s (Bd.head s a).t).is W∧(ciE b5 (Bd.head s a).gen).is W∧(ciE b4 (Bd.head s a).num).is W,⟨ho.at_ 0 rfl,ho.at_ 3 rfl,ho.at_ 4 rfl⟩,?_⟩;refine fG _ (fun W h=>aL kV (aV (T:=3) (cs:=[.int .i64 (Bd.head s a).num]) (i:=0) h.2.2 rfl)) ?_;refine fG _ (fun W h=>aL kV (aV (T:=3) (cs:=[.int .i64 (Bd.head s a).gen]) (i:=0) h.2.1 rfl)) ?_;refine aZ _ (fun _=>eY) (aZ _ (fun _=>bC fbr1) (fG _ (fun W h=>br_a h.1) ?_));refine aW 4 ho rfl (by kernel_rfl) rfl (by simp) fun w9 ho=>⟨⟨ho.at_ 0 rfl,ho.at_ 3 rfl,ho.at_ 4 rfl⟩,?_⟩;refine aW 3 ho rfl (by kernel_rfl) rfl (by simp) fun w10 ho=>⟨⟨ho.at_ 0 rfl,ho.at_ 3 rfl,ho.at_ 4 rfl⟩,?_⟩;refine aW 2 ho rfl (by kernel_rfl) rfl (by simp) fun w11 ho=>?_;refine aW 1 ho rfl (by kernel_rfl) rfl (by simp) fun w12 ho=>?_;refine iD (by simp) Fh (vD (t0:=.pointer (some ⟨b7,0,none⟩)) (t1:=.pointer (some ⟨b4,0,none⟩)) (t2:=.pointer (some ⟨b5,0,none⟩)) (t3:=.pointer (some ⟨b6,0,none⟩)) ?_);simp only[xI,recV,recM,cx];refine BL ?_;unfold jV iN dx;rw[bE rU (ho.cell 1 rfl 0 rfl)];simp only[rs,show decide ((0:Int)≠0)=false by decide,i_f];refine Ux (aX (AtV.cell kV (ho.cell 4 rfl 0 rfl))) (aX (AtV.cell kV (ho.cell 3 rfl 0 rfl))) (aX (AtV.cell kV (ho.cell 2 rfl 0 rfl))) (aX (AtV.cell rU (ho.cell 1 rfl 0 rfl))) (hK _ _ ⟨?_,ho.done⟩);rw[hdV,hz]
theorem Ig (b:Nat)(s:List UInt8)(a:Int)(M:Mem)(w:World)(hs:s.length≤1000000000)(hr:(Ent.two (brE b s a) (.mem M)).is w) :
  Lent prog 28 #[rdP b] (brE b s a) M w ((Ps.object s a).2.2=0) (brE b s (Ps.object s a).2.1) (fun v N=>OV N.A N.w v (Ps.object s a).1) [upE (Ps.object s a).2.2]:=by
 refine Be (fun K ho hret hpan=>wY ?_) hr;unfold oZ dx;generalize hS0:(Ent.two (brE b s a) (.mem M)).blk=S0 at *;refine bN ho fun b2 w1 ho=>?_;have two:∀{W:World} {b3:Nat} {N:Mem} {xk xc:Value},OwnS S0 w W [obE b3 (Ps.object s a).1 xk xc,obE b2 ob0 nilS nilS,brE b s a,.mem N]→M.le N→OV N.A N.w (obV (Ps.object s a).1 xk xc) (Ps.object s a).1 →
   dK (rdP b) (.pointer (some ⟨b2,0,none⟩)) (.pointer (some ⟨b3,0,none⟩)) (.int .i64 (Ps.object s a).2.1) (.int .i64 (Ps.object s a).2.2) W K:=by
  intro W b3 N xk xc ho hle hov;generalize Ps.object s a=x at *;unfold dK iN dx cx;simp only[rs];refine dP (fun h=>?_) fun h=>hpan (Y5 h) _ N W [] ho.tail.tail hle;rw[Hu];refine NP 2 ho rfl fun w2 ho=>?_;have ho:OwnS S0 w w2 [obE b3 x.1 xk xc,obE b2 ob0 nilS nilS,brE b s x.2.1,.mem N]:=ho;rw[ob_v ho 0 rfl];refine aQ 1 hov.oneK hov.oneC ho rfl fun w3 ho=>?_;refine eG (aX (ho.agg 1 rfl dM)) ?_;exact hret (YF h) _ N w3 [] ho.tail.tail hle hov
 have ho:=ho.drew;refine⟨fun W=>(brE b s a).is W,ho.at_ 1 rfl,?_⟩;refine aZ _ (fun _=>eY) (aZ _ (fun _=>bC fbr0) (fG _ (fun W h=>br_s h) ?_));refine aZ _ (fun _=>eY) (aZ _ (fun _=>bC fbr1) (fG _ (fun W h=>br_a h) ?_));refine⟨?_,?_⟩
 ·refine eD ho 2 rfl (FC s a hs M _ (ho.hasM 2 rfl)) ?_;rintro _ N w2 hle ⟨u,rfl,hu⟩ ho;obtain⟨xk,xc,xcs,rfl,hx⟩:=hu.open;refine aZ (obV (Ps.object s a).1 xk xc) (fun _=>rfl) (aZ (.int .i64 (Ps.object s a).2.1) (fun _=>rfl) (aZ (.int .i64 (Ps.object s a).2.2) (fun _=>rfl) ?_));refine bN ho fun b3 w3 ho=>⟨ho.at_ 2 rfl,?_⟩;refine aQ 0 hx.keys.one hx.kids.one ho rfl fun w4 ho=>?_;exact two ho hle hx.ov
 ·refine bN ho fun b3 w3 ho=>⟨ho.at_ 2 rfl,?_⟩;refine eD ho 3 rfl (FC s a hs M _ (ho.hasM 3 rfl)) ?_;rintro _ N w2 hle ⟨u,rfl,hu⟩ ho;obtain⟨xk,xc,xcs,rfl,hx⟩:=hu.open;refine aZ (obV (Ps.object s a).1 xk xc) (fun _=>rfl) (aZ (.int .i64 (Ps.object s a).2.1) (fun _=>rfl) (aZ (.int .i64 (Ps.object s a).2.2) (fun _=>rfl) ?_));refine aQ 0 hx.keys.one hx.kids.one ho rfl fun w4 ho=>?_;exact two ho hle hx.ov
theorem B8 (i:It){vk vc:Value}(w:World)(hw:i.obj.wt≤100000000000)(hv:OV (InW w) w (obV i.obj vk vc) i.obj):Ret prog 18 #[itV i vk vc] w (fun v w'=>v=.int .i64 (Bd.check i)∧Below w.heap.size w w'):=by
 refine aO fun K hK=>Hg ?_;unfold FI iN dx gfx cx;refine PJ i hv.oneK hv.oneC (Own.start w) fun b w1 ho=>?_;have out:Dk.numbers i=false→K (.returned (.int .i64 2)) w1:=fun h=>hK _ _ ⟨by rw[Bd.check,Yh h],ho.done⟩;have hn:Dk.numbers i=true↔1≤i.num∧i.num≤8191∧0≤i.gen∧i.gen≤65535:=by
  simp only[Dk.numbers,Ys,Yx];omega
 have outs:¬(1≤i.num∧i.num≤8191∧0≤i.gen∧i.gen≤65535)→K (.returned (.int .i64 2)) w1:=fun h=>out (by
  cases hq:Dk.numbers i with
 |true=>exact absurd (hn.1 hq) h
 |false=>rfl)
 by_cases h1:i.num < 1
 ·simp only[rs,EY,vC ho 0 rfl,Yk h1,g_un];exact outs (by omega)
 by_cases h2:i.num>8191
 ·simp only[rs,EY,vC ho 0 rfl,Yl h1,Yk h2,g_un];exact outs (by omega)
 by_cases h3:i.gen < 0
 ·simp only[rs,EY,LQ,vC ho 0 rfl,FW ho 0 rfl,Yl h1,Yl h2,Yk h3,g_un];exact outs (by omega)
 by_cases h4:i.gen>65535
 ·simp only[rs,EY,LQ,vC ho 0 rfl,FW ho 0 rfl,Yl h1,Yl h2,Yl h3,Yk h4,g_un];exact outs (by omega)
 simp only[rs,EY,LQ,vC ho 0 rfl,FW ho 0 rfl,Yl h1,Yl h2,Yl h3,Yl h4,g_un,Cn,Fu ho 0 rfl];have hnt:Dk.numbers i=true:=hn.2 (by omega);obtain⟨cs,ha⟩:=hv.slices;refine dO (pU i.obj _ w1 (ha.in_ ho).ov (by omega)) rfl ho fun w2 ho=>?_;rw[fM];by_cases hc:Vl.check 1 i.obj=0
 case neg=>
  simp only[Yk (show Vl.check 1 i.obj≠0 from hc),i_t];exact hK _ _ ⟨by rw[Bd.check,Yg (by simp[hnt]),Yh hc],ho.done⟩
 simp only[hc,show decide ((0:Int)≠0)=false by decide,i_f,Cn,cN,it_k ho 0 rfl,rs];by_cases h8:i.obj.k=8
 ·simp only[Yk h8,i_t];exact hK _ _ ⟨by rw[Bd.check,Yg (by simp[hnt]),Yg (by simp[hc]),Yh h8],ho.done⟩
 ·simp only[Yl h8,i_f];exact hK _ _ ⟨by rw[Bd.check,Yg (by simp[hnt]),Yg (by simp[hc]),Yg h8],ho.done⟩
end
section
open Eng
def oY(t0 w)(K:KT):=
 dx (mBox 27 t0) w K fun t1 w=>dx (mFA 27 t1 0) w K fun t4 w=>dx (aA 3 t4) w K fun t5 w=>dx (mBin .lss 3 t5 (iN 1)) w K fun t6 w=>gfx t6 (mFA 27 t1 0) w K fun t8 w=>gfx t6 (aA 3 t8) w K fun t9 w=>gfx t6 (mBin .gtr 3 t9 (iN 8191)) w K fun t10 w=>dx (aF t6 (.bool true) t10) w K fun t11 w=>gfx t11 (mFA 27 t1 1) w K fun t13 w=>gfx t11 (aA 3 t13) w K fun t14 w=>gfx t11 (mBin .lss 3 t14 (iN 0)) w K fun t15 w=>dx (aF t11 (.bool true) t15) w K fun t16 w=>gfx t16 (mFA 27 t1 1) w K fun t18 w=>gfx t16 (aA 3 t18) w K fun t19 w=>gfx t16 (mBin .gtr 3 t19 (iN 65535)) w K fun t20 w=>dx (aF t16 (.bool true) t20) w K fun t21 w=>IfX t21 (K (.returned (iN 2)) w) (dx (mFA 27 t1 2) w K fun t22 w=>dx (aA 25 t22) w K fun t23 w=>cx 58 #[t23] w K fun t24 w=>dx (mEq .neq 30 (.tmp 25) (.const (iN 0)) t24 (iN 0)) w K fun t26 w=>IfX t26 (K (.returned t24) w) (dx (mFA 27 t1 2) w K fun t28 w=>dx (mFA 25 t28 0) w K fun t29 w=>dx (aA 3 t29) w K fun t30 w=>dx (mEq .eql 3 (.tmp 30) (.const (iN 8)) t30 (iN 8)) w K fun t31 w=>IfX t31 (K (.returned (iN 10)) w) (K (.returned (iN 0)) w)))
theorem wP{t0 w K}(h:oY t0 w K):Calls prog 19 #[t0] w K:=cw Tryz.func19 rfl rfl (by kernel_rfl) h
def nK(t0 t1 t2 t3 w)(K:KT):=
 cx 67 #[t0,t1] w K fun t16 w=>dx (mExt t16 0) w K fun t17 w=>dx (mExt t16 1) w K fun t18 w=>dx (aM 58) w K fun t11 w=>dx (aC 58 t11 t17) w K fun _ w=>dx (mEq .neq 30 (.tmp 19) (.const (iN 0)) t18 (iN 0)) w K fun t20 w=>IfX t20 (K (.returned (.tuple #[(iN 0),(iN 0),t18])) w) (dx (mFA 58 t11 0) w K fun t22 w=>dx (aA 3 t22) w K fun t23 w=>dx (mEq .eql 3 (.tmp 23) (.const (iN 0)) t23 (iN 0)) w K fun t24 w=>IfX t24 (K (.returned (.tuple #[(iN 0),(iN 0),(iN 4)])) w) (dx (mFA 58 t11 0) w K fun t25 w=>dx (aA 3 t25) w K fun t26 w=>dx (mEq .neq 3 (.tmp 26) (.const (iN 1)) t26 (iN 1)) w K fun t27 w=>IfX t27 (K (.returned (.tuple #[(iN 0),(iN 0),(iN 3)])) w) (dx (mFA 58 t11 3) w K fun t28 w=>dx (aA 2 t28) w K fun t29 w=>dx (mBin .lss 2 t29 t2) w K fun t31 w=>gfx t31 (mFA 58 t11 3) w K fun t33 w=>gfx t31 (aA 2 t33) w K fun t34 w=>efx t31 t3 w fun t35 w=>gfx t31 (mBin .gtr 2 t34 t35) w K fun t36 w=>dx (aF t31 (.bool true) t36) w K fun t37 w=>IfX t37 (K (.returned (.tuple #[(iN 0),(iN 0),(iN 2)])) w) (QuietX w (fun C1=>QDo prog C1 (mFA 58 t11 3) fun t38=>QDo prog C1 (aA 2 t38) fun t39=>QDo prog C1 (mFA 58 t11 2) fun t40=>QDo prog C1 (aA 3 t40) fun t41=>
 ∀w,C1 w →
 K (.returned (.tuple #[t39,t41,(iN 0)])) w)))))
theorem vP{t0 t1 t2 t3 w K}(h:nK t0 t1 t2 t3 w K):Calls prog 40 #[t0,t1,t2,t3] w K:=cw Tryz.func40 rfl rfl (by kernel_rfl) h
def rD(t0 t1 t2 w)(K:KT):=
 cx 67 #[t0,t1] w K fun t13 w=>dx (mExt t13 0) w K fun t14 w=>dx (mExt t13 1) w K fun t15 w=>dx (aM 58) w K fun t8 w=>dx (aC 58 t8 t14) w K fun _ w=>dx (mEq .neq 30 (.tmp 16) (.const (iN 0)) t15 (iN 0)) w K fun t17 w=>IfX t17 (K (.returned (.tuple #[(iN 0),t15])) w) (dx (mFA 58 t8 0) w K fun t19 w=>dx (aA 3 t19) w K fun t20 w=>dx (mEq .eql 3 (.tmp 20) (.const (iN 0)) t20 (iN 0)) w K fun t21 w=>IfX t21 (K (.returned (.tuple #[(iN 0),(iN 4)])) w) (dx (mFA 58 t8 0) w K fun t22 w=>dx (aA 3 t22) w K fun t23 w=>dx (mEq .neq 3 (.tmp 23) (.const (iN 5)) t23 (iN 5)) w K fun t24 w=>gfx t24 (mFA 58 t8 4) w K fun t26 w=>gfx t24 (aA 9 t26) w K fun t27 w=>efx t24 t2 w fun t28 w=>gfx t24 (mEq .neq 9 (.tmp 27) (.tmp 28) t27 t28) w K fun t29 w=>dx (aF t24 (.bool true) t29) w K fun t30 w=>IfX t30 (K (.returned (.tuple #[(iN 0),(iN 3)])) w) (dx (mFA 58 t8 2) w K fun t31 w=>dx (aA 3 t31) w K fun t32 w=>K (.returned (.tuple #[t32,(iN 0)])) w)))
theorem yX{t0 t1 t2 w K}(h:rD t0 t1 t2 w K):Calls prog 32 #[t0,t1,t2] w K:=cw Tryz.func32 rfl rfl (by kernel_rfl) h
def qL(t0 t1 w)(K:KT):=
 dx (mBin .lss 3 t1 (iN 0)) w K fun t17 w=>efx t17 t1 w fun t19 w=>efx t17 t0 w fun t20 w=>gfx t17 (mB .len #[9] 3 #[false] #[t20]) w K fun t21 w=>gfx t17 (mBin .gtr 3 t19 t21) w K fun t22 w=>dx (aF t17 (.bool true) t22) w K fun t23 w=>IfX t23 (K (.returned (.tuple #[(iN 0),(iN 0),(iN 0),(iN 1)])) w) (cx 40 #[t0,t1,(iN 1),(iN 8191)] w K fun t27 w=>dx (mExt t27 0) w K fun t28 w=>dx (mExt t27 1) w K fun t29 w=>dx (mExt t27 2) w K fun t30 w=>dx (mEq .neq 30 (.tmp 31) (.const (iN 0)) t30 (iN 0)) w K fun t32 w=>IfX t32 (K (.returned (.tuple #[(iN 0),(iN 0),(iN 0),t30])) w) (cx 40 #[t0,t29,(iN 0),(iN 65535)] w K fun t37 w=>dx (mExt t37 0) w K fun t38 w=>dx (mExt t37 1) w K fun t39 w=>dx (mExt t37 2) w K fun t40 w=>dx (mEq .neq 30 (.tmp 41) (.const (iN 0)) t40 (iN 0)) w K fun t42 w=>IfX t42 (K (.returned (.tuple #[(iN 0),(iN 0),(iN 0),t40])) w) (cx 32 #[t0,t39,(.string ⟨#[111,98,106]⟩)] w K fun t47 w=>dx (mExt t47 0) w K fun t48 w=>dx (mExt t47 1) w K fun t49 w=>dx (mEq .neq 30 (.tmp 50) (.const (iN 0)) t49 (iN 0)) w K fun t51 w=>IfX t51 (K (.returned (.tuple #[(iN 0),(iN 0),(iN 0),t49])) w) (K (.returned (.tuple #[t28,t38,t48,(iN 0)])) w))))
theorem Ai{t0 t1 w K}(h:qL t0 t1 w K):Calls prog 14 #[t0,t1] w K:=cw Tryz.func14 rfl rfl (by kernel_rfl) h
def qF(t0 t1 w)(K:KT):=
 dx (mBox 25 t0) w K fun t2 w=>dx (mBin .geq 3 t1 (iN 0)) w K fun t9 w=>IfX t9 (K (.returned (.tuple #[t1,(iN 0)])) w) (dx (aA 25 t2) w K fun t12 w=>cx 38 #[t12,(.string ⟨#[76,101,110,103,116,104]⟩)] w K fun t13 w=>dx (mExt t13 0) w K fun t14 w=>dx (mExt t13 1) w K fun t15 w=>dx (aM 25) w K fun t6 w=>dx (aC 25 t6 t14) w K fun _ w=>dx (mUn .not t15) w K fun t17 w=>IfX t17 (K (.returned (.tuple #[(iN 0),(iN 3)])) w) (dx (mFA 25 t6 0) w K fun t18 w=>dx (aA 3 t18) w K fun t19 w=>dx (mEq .neq 3 (.tmp 19) (.const (iN 2)) t19 (iN 2)) w K fun t20 w=>IfX t20 (K (.returned (.tuple #[(iN 0),(iN 10)])) w) (dx (mFA 25 t6 1) w K fun t21 w=>dx (aA 2 t21) w K fun t22 w=>dx (mBin .lss 2 t22 (iN 0)) w K fun t23 w=>IfX t23 (K (.returned (.tuple #[(iN 0),(iN 2)])) w) (dx (mFA 25 t6 1) w K fun t24 w=>dx (aA 2 t24) w K fun t25 w=>K (.returned (.tuple #[t25,(iN 0)])) w))))
theorem Af{t0 t1 w K}(h:qF t0 t1 w K):Calls prog 69 #[t0,t1] w K:=cw Tryz.func69 rfl rfl (by kernel_rfl) h
def pF(t0 t1 w)(K:KT):=
 dx (mB .len #[9] 3 #[false] #[t0]) w K fun t8 w=>dx (mEq .eql 3 (.tmp 6) (.tmp 8) t1 t8) w K fun t9 w=>efx t9 t0 w fun t11 w=>efx t9 t1 w fun t12 w=>gfx t9 (aT 9 t11 (some t12) none none) w K fun t13 w=>gfx t9 (mEq .eql 9 (.tmp 13) (.const (.string ⟨#[13]⟩)) t13 (.string ⟨#[13]⟩)) w K fun t14 w=>dx (aF t9 (.bool true) t14) w K fun t15 w=>IfX t15 (K (.returned (.tuple #[(iN 0),(iN 4)])) w) (dx (mIx 9 t0 t1) w K fun t18 w=>dx (mEq .eql 5 (.tmp 18) (.const (.int .u8 10)) t18 (.int .u8 10)) w K fun t19 w=>IfX t19 (dx (mBin .add 3 t1 (iN 1)) w K fun t21 w=>K (.returned (.tuple #[t21,(iN 0)])) w) (dx (mBin .add 3 t1 (iN 1)) w K fun t25 w=>dx (aT 9 t0 (some t1) (some t25) none) w K fun t26 w=>dx (mEq .eql 9 (.tmp 26) (.const (.string ⟨#[13]⟩)) t26 (.string ⟨#[13]⟩)) w K fun t27 w=>etx t27 t0 w fun t29 w=>etx t27 t1 w fun t30 w=>gtx t27 (mBin .add 3 t30 (iN 1)) w K fun t31 w=>gtx t27 (mIx 9 t29 t31) w K fun t32 w=>gtx t27 (mEq .eql 5 (.tmp 32) (.const (.int .u8 10)) t32 (.int .u8 10)) w K fun t33 w=>dx (aF t27 t33 (.bool false)) w K fun t34 w=>IfX t34 (dx (mBin .add 3 t1 (iN 2)) w K fun t36 w=>K (.returned (.tuple #[t36,(iN 0)])) w) (K (.returned (.tuple #[(iN 0),(iN 3)])) w)))
theorem xS{t0 t1 w K}(h:pF t0 t1 w K):Calls prog 68 #[t0,t1] w K:=cw Tryz.func68 rfl rfl (by kernel_rfl) h
def oA(t0 t1 t2 t3 w)(K:KT):=
 dx (mBox 25 t3) w K fun t7 w=>dx (aM 25) w K fun t8 w=>cx 68 #[t0,t1] w K fun t21 w=>dx (mExt t21 0) w K fun t22 w=>dx (mExt t21 1) w K fun t23 w=>dx (mEq .neq 30 (.tmp 24) (.const (iN 0)) t23 (iN 0)) w K fun t25 w=>IfX t25 (dx (aJ 25 #[]) w K fun t26 w=>dx (aC 25 t8 t26) w K fun _ w=>RetX prog [.cell t8 25,.val (iN 0),.val t23] w K) (dx (aA 25 t7) w K fun t29 w=>cx 69 #[t29,t2] w K fun t31 w=>dx (mExt t31 0) w K fun t32 w=>dx (mExt t31 1) w K fun t33 w=>dx (mEq .neq 30 (.tmp 34) (.const (iN 0)) t33 (iN 0)) w K fun t35 w=>IfX t35 (dx (aJ 25 #[]) w K fun t36 w=>dx (aC 25 t8 t36) w K fun _ w=>RetX prog [.cell t8 25,.val (iN 0),.val t33] w K) (dx (mBin .gtr 3 t32 (iN 1048576)) w K fun t39 w=>IfX t39 (dx (aJ 25 #[]) w K fun t40 w=>dx (aC 25 t8 t40) w K fun _ w=>RetX prog [.cell t8 25,.val (iN 0),.val (iN 5)] w K) (dx (mB .len #[9] 3 #[false] #[t0]) w K fun t43 w=>dx (mBin .sub 3 t43 t22) w K fun t45 w=>dx (mBin .gtr 3 t32 t45) w K fun t46 w=>IfX t46 (dx (aJ 25 #[]) w K fun t47 w=>dx (aC 25 t8 t47) w K fun _ w=>RetX prog [.cell t8 25,.val (iN 0),.val (iN 4)] w K) (dx (aA 25 t7) w K fun t48 w=>cx 70 #[t48,(.string ⟨#[76,101,110,103,116,104]⟩)] w K fun t49 w=>dx (aM 25) w K fun t15 w=>dx (aC 25 t15 t49) w K fun _ w=>QuietX w (fun C1=>PDo prog (mBin .add 3 t22 t32) fun t54=>PDo prog (aT 9 t0 (some t22) (some t54) none) fun t55=>QDo prog C1 (mFA 25 t15 0) fun t56=>
 ∀w,C1 w →
 DoX prog (aC 3 t56 (iN 9)) w (pm1 (pm1 (pm1 (pm1 (pm1 (pm1 (pk K))))))) fun _ w=>DoX prog (mFA 25 t15 3) w (pm1 (pm1 (pm1 (pm1 (pm1 (pm1 (pk K))))))) fun t57 w=>DoX prog (aC 9 t57 t55) w (pm1 (pm1 (pm1 (pm1 (pm1 (pm1 (pk K))))))) fun _ w=>dx (mBin .add 3 t22 t32) w K fun t62 w=>cx 32 #[t0,t62,(.string ⟨#[101,110,100,115,116,114,101,97,109]⟩)] w K fun t63 w=>dx (mExt t63 0) w K fun t64 w=>dx (mExt t63 1) w K fun t65 w=>dx (mEq .neq 30 (.tmp 66) (.const (iN 0)) t65 (iN 0)) w K fun t67 w=>IfX t67 (dx (aJ 25 #[]) w K fun t68 w=>dx (aC 25 t8 t68) w K fun _ w=>RetX prog [.cell t8 25,.val (iN 0),.val t65] w K) (dx (aA 25 t15) w K fun t70 w=>dx (aC 25 t8 t70) w K fun _ w=>RetX prog [.cell t8 25,.val t64,.val (iN 0)] w K))))))
theorem vB{t0 t1 t2 t3 w K}(h:oA t0 t1 t2 t3 w K):Calls prog 33 #[t0,t1,t2,t3] w K:=cw Tryz.func33 rfl rfl (by kernel_rfl) h
def nR(t0 t6 t9 t10 t13 t14 w)(K:KT):=
 cx 32 #[t0,t14,(.string ⟨#[101,110,100,111,98,106]⟩)] w K fun t94 w=>dx (mExt t94 0) w K fun t95 w=>dx (mExt t94 1) w K fun t96 w=>dx (mEq .neq 30 (.tmp 97) (.const (iN 0)) t96 (iN 0)) w K fun t98 w=>IfX t98 (dx (aJ 27 #[]) w K fun t99 w=>dx (aC 27 t6 t99) w K fun _ w=>RetX prog [.cell t6 27,.val (iN 0),.val t96] w K) (dx (aA 25 t13) w K fun t103 w=>dx (aJ 27 #[(0,t9),(1,t10),(2,t103)]) w K fun t104 w=>dx (aC 27 t6 t104) w K fun _ w=>RetX prog [.cell t6 27,.val t95,.val (iN 0)] w K)
def iP(t0 t1 t2 w)(K:KT):=
 dx (aM 27) w K fun t6 w=>dx (mBin .lss 3 t1 (iN 0)) w K fun t24 w=>efx t24 t1 w fun t26 w=>efx t24 t0 w fun t27 w=>gfx t24 (mB .len #[9] 3 #[false] #[t27]) w K fun t28 w=>gfx t24 (mBin .gtr 3 t26 t28) w K fun t29 w=>dx (aF t24 (.bool true) t29) w K fun t30 w=>efx t30 t2 w fun t32 w=>gfx t30 (mBin .lss 3 t32 (iN (-1))) w K fun t33 w=>dx (aF t30 (.bool true) t33) w K fun t34 w=>IfX t34 (dx (aJ 27 #[]) w K fun t35 w=>dx (aC 27 t6 t35) w K fun _ w=>RetX prog [.cell t6 27,.val (iN 0),.val (iN 1)] w K) (cx 14 #[t0,t1] w K fun t39 w=>dx (mExt t39 0) w K fun t40 w=>dx (mExt t39 1) w K fun t41 w=>dx (mExt t39 2) w K fun t42 w=>dx (mExt t39 3) w K fun t43 w=>dx (mEq .neq 30 (.tmp 44) (.const (iN 0)) t43 (iN 0)) w K fun t45 w=>IfX t45 (dx (aJ 27 #[]) w K fun t46 w=>dx (aC 27 t6 t46) w K fun _ w=>RetX prog [.cell t6 27,.val (iN 0),.val t43] w K) (cx 31 #[t0,t42] w K fun t51 w=>dx (mExt t51 0) w K fun t52 w=>dx (mExt t51 1) w K fun t53 w=>dx (mExt t51 2) w K fun t54 w=>dx (aM 25) w K fun t13 w=>dx (aC 25 t13 t52) w K fun _ w=>dx (mEq .neq 30 (.tmp 55) (.const (iN 0)) t54 (iN 0)) w K fun t56 w=>IfX t56 (dx (aJ 27 #[]) w K fun t57 w=>dx (aC 27 t6 t57) w K fun _ w=>RetX prog [.cell t6 27,.val (iN 0),.val t54] w K) (dx (mFA 25 t13 0) w K fun t59 w=>dx (aA 3 t59) w K fun t60 w=>dx (mEq .eql 3 (.tmp 60) (.const (iN 8)) t60 (iN 8)) w K fun t61 w=>IfX t61 (dx (aJ 27 #[]) w K fun t62 w=>dx (aC 27 t6 t62) w K fun _ w=>RetX prog [.cell t6 27,.val (iN 0),.val (iN 10)] w K) (cx 32 #[t0,t53,(.string ⟨#[115,116,114,101,97,109]⟩)] w K fun t66 w=>dx (mExt t66 0) w K fun t67 w=>dx (mExt t66 1) w K fun t68 w=>JoinX (fun J1=>dx (mEq .eql 30 (.tmp 69) (.const (iN 0)) t68 (iN 0)) w K fun t70 w=>gtx t70 (mFA 25 t13 0) w K fun t72 w=>gtx t70 (aA 3 t72) w K fun t73 w=>gtx t70 (mEq .eql 3 (.tmp 73) (.const (iN 7)) t73 (iN 7)) w K fun t74 w=>dx (aF t70 t74 (.bool false)) w K fun t75 w=>IfX t75 (dx (aA 25 t13) w K fun t80 w=>cx 33 #[t0,t67,t2,t80] w K fun t81 w=>dx (mExt t81 0) w K fun t82 w=>dx (mExt t81 1) w K fun t83 w=>dx (mExt t81 2) w K fun t84 w=>dx (aM 25) w K fun t18 w=>dx (aC 25 t18 t82) w K fun _ w=>dx (mEq .neq 30 (.tmp 85) (.const (iN 0)) t84 (iN 0)) w K fun t86 w=>IfX t86 (dx (aJ 27 #[]) w K fun t87 w=>dx (aC 27 t6 t87) w K fun _ w=>RetX prog [.cell t6 27,.val (iN 0),.val t84] w K) (dx (aA 25 t18) w K fun t89 w=>dx (aC 25 t13 t89) w K fun _ w=>J1 [(iN 0),(iN 0),t83] w)) (J1 [(iN 0),(iN 0),t53] w)) (fun vs1 w=>∀_:Sg,nR t0 t6 t40 t41 t13 (vs1.getD 2 undef) w K)))))
theorem zE (t0 t1 t2:Value)(w:World)(K:Ending→World→Prop):wpX prog 106 [(17,[7,8,14])] [] none (aY Tryz.f10) (topQ prog [.cell 6 27,.tmp 7,.tmp 8] K) (aR [t0,t1,t2]) [] w=iP t0 t1 t2 w K:=by kernel_rfl
theorem Aa {t0 t1 t2:Value}{w:World}{K:Ending→World→Prop}(h:iP t0 t1 t2 w K):Calls prog 10 #[t0,t1,t2] w K:=
 aE Tryz.func10 rfl rfl rfl rfl (Eq.mpr (zE t0 t1 t2 w K) h)
def mZ(t0 t1 w)(K:KT):=
 dx (aM 25) w K fun t4 w=>cx 14 #[t0,t1] w K fun t20 w=>dx (mExt t20 0) w K fun t21 w=>dx (mExt t20 1) w K fun t22 w=>dx (mExt t20 2) w K fun t23 w=>dx (mExt t20 3) w K fun t24 w=>dx (mEq .neq 30 (.tmp 25) (.const (iN 0)) t24 (iN 0)) w K fun t26 w=>IfX t26 (dx (aJ 25 #[]) w K fun t27 w=>dx (aC 25 t4 t27) w K fun _ w=>RetX prog [.cell t4 25,.val t24] w K) (cx 31 #[t0,t23] w K fun t32 w=>dx (mExt t32 0) w K fun t33 w=>dx (mExt t32 1) w K fun t34 w=>dx (mExt t32 2) w K fun t35 w=>dx (aM 25) w K fun t10 w=>dx (aC 25 t10 t33) w K fun _ w=>dx (mEq .neq 30 (.tmp 36) (.const (iN 0)) t35 (iN 0)) w K fun t37 w=>IfX t37 (dx (aJ 25 #[]) w K fun t38 w=>dx (aC 25 t4 t38) w K fun _ w=>RetX prog [.cell t4 25,.val t35] w K) (cx 32 #[t0,t34,(.string ⟨#[115,116,114,101,97,109]⟩)] w K fun t43 w=>dx (mExt t43 0) w K fun t44 w=>dx (mExt t43 1) w K fun t45 w=>dx (mFA 25 t10 0) w K fun t46 w=>dx (aA 3 t46) w K fun t47 w=>dx (mEq .neq 3 (.tmp 47) (.const (iN 7)) t47 (iN 7)) w K fun t48 w=>efx t48 t45 w fun t50 w=>gfx t48 (mEq .neq 30 (.tmp 50) (.const (iN 0)) t50 (iN 0)) w K fun t51 w=>dx (aF t48 (.bool true) t51) w K fun t52 w=>IfX t52 (dx (aJ 25 #[]) w K fun t53 w=>dx (aC 25 t4 t53) w K fun _ w=>RetX prog [.cell t4 25,.val (iN 0)] w K) (dx (aA 25 t10) w K fun t55 w=>cx 38 #[t55,(.string ⟨#[76,101,110,103,116,104]⟩)] w K fun t56 w=>dx (mExt t56 0) w K fun t57 w=>dx (mExt t56 1) w K fun t58 w=>dx (aM 25) w K fun t15 w=>dx (aC 25 t15 t57) w K fun _ w=>dx (aA 25 t15) w K fun t59 w=>dx (aC 25 t4 t59) w K fun _ w=>RetX prog [.cell t4 25,.val (iN 0)] w K)))
theorem uI{t0 t1 w K}(h:mZ t0 t1 w K):Calls prog 12 #[t0,t1] w K:=cw Tryz.func12 rfl rfl (by kernel_rfl) h
def mJ(t0 w)(K:KT):=
 dx (mBin .rem 3 t0 (iN 10)) w K fun t5 w=>dx (mBin .rem 3 t0 (iN 10)) w K fun t7 w=>dx (mBin .add 3 t7 (iN 1)) w K fun t8 w=>dx (aT 9 (.string ⟨#[48,49,50,51,52,53,54,55,56,57]⟩) (some t5) (some t8) none) w K fun t9 w=>dx (mBin .lss 3 t0 (iN 10)) w K fun t11 w=>IfX t11 (K (.returned t9) w) (dx (mBin .quo 3 t0 (iN 10)) w K fun t14 w=>cx 54 #[t14] w K fun t15 w=>dx (mBin .add 9 t15 t9) w K fun t17 w=>K (.returned t17) w)
theorem uB{t0 w K}(h:mJ t0 w K):Calls prog 54 #[t0] w K:=cw Tryz.func54 rfl rfl (by kernel_rfl) h
def nU(t1 t5 t6 w)(K:KT):=
 dx (aA 25 t5) w K fun t45 w=>cx 53 #[t45] w K fun t46 w=>dx (mExt t46 0) w K fun t47 w=>dx (mExt t46 1) w K fun t48 w=>dx (mEq .neq 30 (.tmp 49) (.const (iN 0)) t48 (iN 0)) w K fun t50 w=>IfX t50 (K (.returned (.tuple #[(.string ⟨#[]⟩),t48])) w) (QuietX w (fun C2=>QDo prog C2 (mFA 27 t1 0) fun t52=>QDo prog C2 (aA 3 t52) fun t53=>QCall prog C2 54 #[t53] fun t54=>QDo prog C2 (mBin .add 9 t54 (.string ⟨#[32]⟩)) fun t55=>QDo prog C2 (mFA 27 t1 1) fun t56=>QDo prog C2 (aA 3 t56) fun t57=>QCall prog C2 54 #[t57] fun t58=>QDo prog C2 (mBin .add 9 t55 t58) fun t59=>QDo prog C2 (mBin .add 9 t59 (.string ⟨#[32,111,98,106,10]⟩)) fun t60=>QDo prog C2 (mBin .add 9 t60 t47) fun t62=>QDo prog C2 (mBin .add 9 t62 (.string ⟨#[10]⟩)) fun t63=>QDo prog C2 (mBin .add 9 t63 t6) fun t65=>QDo prog C2 (mBin .add 9 t65 (.string ⟨#[101,110,100,111,98,106,10]⟩)) fun t66=>
 ∀w,C2 w →
 K (.returned (.tuple #[t66,(iN 0)])) w))
def iQ(t0 w)(K:KT):=
 dx (mBox 27 t0) w K fun t1 w=>dx (aA 27 t1) w K fun t12 w=>cx 19 #[t12] w K fun t13 w=>dx (mEq .neq 30 (.tmp 14) (.const (iN 0)) t13 (iN 0)) w K fun t15 w=>IfX t15 (K (.returned (.tuple #[(.string ⟨#[]⟩),t13])) w) (dx (mFA 27 t1 2) w K fun t17 w=>dx (aA 25 t17) w K fun t18 w=>dx (aM 25) w K fun t5 w=>dx (aC 25 t5 t18) w K fun _ w=>JoinX (fun J1=>dx (mFA 25 t5 0) w K fun t19 w=>dx (aA 3 t19) w K fun t20 w=>dx (mEq .eql 3 (.tmp 20) (.const (iN 9)) t20 (iN 9)) w K fun t21 w=>IfX t21 (dx (mFA 25 t5 4) w K fun t22 w=>dx (aA 22 t22) w K fun t23 w=>dx (mFA 25 t5 5) w K fun t24 w=>dx (aA 23 t24) w K fun t25 w=>dx (aJ 25 #[(0,(iN 7)),(4,t23),(5,t25)]) w K fun t26 w=>dx (aM 25) w K fun t7 w=>dx (aC 25 t7 t26) w K fun _ w=>dx (aA 25 t7) w K fun t28 w=>dx (mFA 25 t5 3) w K fun t29 w=>dx (aA 9 t29) w K fun t30 w=>dx (mB .len #[9] 3 #[false] #[t30]) w K fun t31 w=>dx (aJ 25 #[(0,(iN 2)),(1,t31)]) w K fun t32 w=>cx 52 #[t28,(.string ⟨#[76,101,110,103,116,104]⟩),t32] w K fun t33 w=>dx (mExt t33 0) w K fun t34 w=>dx (mExt t33 1) w K fun t35 w=>dx (aM 25) w K fun t8 w=>dx (aC 25 t8 t34) w K fun _ w=>dx (mEq .neq 30 (.tmp 36) (.const (iN 0)) t35 (iN 0)) w K fun t37 w=>IfX t37 (K (.returned (.tuple #[(.string ⟨#[]⟩),t35])) w) (dx (aA 25 t8) w K fun t39 w=>dx (mFA 25 t5 3) w K fun t40 w=>dx (aA 9 t40) w K fun t41 w=>dx (mBin .add 9 (.string ⟨#[115,116,114,101,97,109,10]⟩) t41) w K fun t42 w=>dx (mBin .add 9 t42 (.string ⟨#[10,101,110,100,115,116,114,101,97,109,10]⟩)) w K fun t43 w=>dx (aC 25 t5 t39) w K fun _ w=>J1 [t43] w)) (J1 [(.string ⟨#[]⟩)] w)) (fun vs1 w=>∀_:Sg,nU t1 t5 (vs1.getD 0 undef) w K))
theorem zU (t0:Value)(w:World)(K:Ending→World→Prop):wpX prog 67 [(11,[6])] [] none (aY Tryz.f16) (topQ prog [.tmp 2,.tmp 3] K) (aR [t0]) [] w=iQ t0 w K:=by kernel_rfl
theorem yY {t0:Value}{w:World}{K:Ending→World→Prop}(h:iQ t0 w K):Calls prog 16 #[t0] w K:=
 aE Tryz.func16 rfl rfl rfl rfl (Eq.mpr (zU t0 w K) h)
end
section
open Eng Go.RowKit
theorem D2 (s:List UInt8)(a lo hi:Int)(w:World)(hs:s.length≤1099511627776) :
  Ret prog 40 #[.string ⟨s.toArray⟩,.int .i64 a,.int .i64 lo,.int .i64 hi] w (fun v w'=>v=.tuple #[.int .i64 (Bd.num s a lo hi).1,.int .i64 (Bd.num s a lo hi).2.1,.int .i64 (Bd.num s a lo hi).2.2]∧Below w.heap.size w w'):=by
 refine aO fun K hK=>vP ?_;unfold nK iN dx gfx efx cx;unfold Bd.num at hK;refine aP (Own.start w) (R:=fun v=>v=tokR (Lx.next s a)) (mK s a w hs) ?_;rintro _ w1 rfl ho;simp only[tokR,ex];generalize Lx.next s a=x at *
 refine gJ ho fun b w2 ho=>?_;refine jS 0 ho rfl fun w3 ho=>?_;have ho:OwnS NoB w w3 [tokE b x.1]:=ho;simp only[fM];by_cases hz:x.2=0
 case neg=>
  rw[Yh hz] at hK;simp only[Yk (show x.2≠0 from hz),i_t];exact hK _ _ ⟨rfl,ho.done⟩
 rw[Yg (by simp[hz])] at hK;simp only[hz,show decide ((0:Int)≠0)=false by decide,i_f,cO,tk_k ho 0 rfl,rs];by_cases h0:x.1.k=0
 ·rw[Yh h0] at hK;simp only[Yk h0,i_t];exact hK _ _ ⟨rfl,ho.done⟩
 rw[Yg h0] at hK;simp only[Yl h0,i_f,cO,tk_k ho 0 rfl,rs];by_cases h1:x.1.k=1
 case neg=>
  rw[Yh h1] at hK;simp only[Yk (show x.1.k≠1 from h1),i_t];exact hK _ _ ⟨rfl,ho.done⟩
 rw[Yg (by simp[h1])] at hK;simp only[h1,show decide ((1:Int)≠1)=false by decide,i_f];by_cases hl:x.1.n < lo
 ·rw[Yh (.inl hl)] at hK;simp only[rs,oQ,tk_n ho 0 rfl,Yk hl,g_un,i_t];exact hK _ _ ⟨rfl,ho.done⟩
 by_cases hh:x.1.n>hi
 ·rw[Yh (.inr hh)] at hK;simp only[rs,oQ,tk_n ho 0 rfl,Yl hl,Yk hh,g_un,i_t];exact hK _ _ ⟨rfl,ho.done⟩
 rw[Yg (by omega)] at hK;simp only[rs,oQ,tk_n ho 0 rfl,Yl hl,Yl hh,g_un,i_f];refine quiet ?_;have ln:∀W,Below w3.heap.size w3 W→(aA 2 (.pointer (some ⟨b,3,none⟩))).run prog W=.ok (.value (.int .i64 x.1.n)) W:=fun W hb=>aL (by kernel_rfl) ((ho.grow hb).cell 0 rfl 3 rfl);have lt:∀W,Below w3.heap.size w3 W→(aA 3 (.pointer (some ⟨b,2,none⟩))).run prog W=.ok (.value (.int .i64 x.1.t)) W:=fun W hb=>aL kV ((ho.grow hb).cell 0 rfl 2 rfl);refine q_do (.pointer (some ⟨b,3,none⟩)) (fun _=>bC (show fOff prog 58 3=some 3 by kernel_rfl)) (q_at _ ln ?_);refine q_do (.pointer (some ⟨b,2,none⟩)) (fun _=>bC (show fOff prog 58 2=some 2 by kernel_rfl)) (q_at _ lt ?_);intro w4 hb;exact hK _ _ ⟨rfl,(ho.grow hb).done⟩
theorem qT (s:List UInt8)(a:Int)(wd:List UInt8)(w:World)(hs:s.length≤1099511627776) :
  Ret prog 32 #[.string ⟨s.toArray⟩,.int .i64 a,.string ⟨wd.toArray⟩] w (fun v w'=>v=.tuple #[.int .i64 (Bd.word s a wd).1,.int .i64 (Bd.word s a wd).2]∧Below w.heap.size w w'):=by
 refine aO fun K hK=>yX ?_;unfold rD iN dx gfx efx cx;unfold Bd.word at hK;refine aP (Own.start w) (R:=fun v=>v=tokR (Lx.next s a)) (mK s a w hs) ?_;rintro _ w1 rfl ho;simp only[tokR,ex];generalize Lx.next s a=x at *
 refine gJ ho fun b w2 ho=>?_;refine jS 0 ho rfl fun w3 ho=>?_;have ho:OwnS NoB w w3 [tokE b x.1]:=ho;simp only[fM];by_cases hz:x.2=0
 case neg=>
  rw[Yh hz] at hK;simp only[Yk (show x.2≠0 from hz),i_t];exact hK _ _ ⟨rfl,ho.done⟩
 rw[Yg (by simp[hz])] at hK;simp only[hz,show decide ((0:Int)≠0)=false by decide,i_f,cO,tk_k ho 0 rfl,rs];by_cases h0:x.1.k=0
 ·rw[Yh h0] at hK;simp only[Yk h0,i_t];exact hK _ _ ⟨rfl,ho.done⟩
 rw[Yg h0] at hK;simp only[Yl h0,i_f,cO,tk_k ho 0 rfl,rs];by_cases h5:x.1.k=5
 case neg=>
  rw[Yh (.inl h5)] at hK;simp only[Yk (show x.1.k≠5 from h5),rs,g_un,i_t];exact hK _ _ ⟨rfl,ho.done⟩
 by_cases hw:x.1.s=wd
 case neg=>
  rw[Yh (.inr hw)] at hK;simp only[h5,show decide ((5:Int)≠5)=false by decide,rs,cL,tk_s ho 0 rfl,Yk (show x.1.s≠wd from hw),g_un,i_t];exact hK _ _ ⟨rfl,ho.done⟩
 rw[Yg (by simp[h5,hw])] at hK;simp only[h5,show decide ((5:Int)≠5)=false by decide,rs,cL,tk_s ho 0 rfl,hw,ne_eq,not_true,Yi,g_un,i_f,Hw,tk_t ho 0 rfl];exact hK _ _ ⟨rfl,ho.done⟩
theorem CZ (s:List UInt8)(a:Int)(w:World)(hs:s.length≤1099511627776) :
  Ret prog 14 #[.string ⟨s.toArray⟩,.int .i64 a] w (fun v w'=>v=hdV (Bd.head s a)∧Below w.heap.size w w'):=by
 refine aO fun K hK=>Ai ?_;unfold qL iN dx gfx efx cx;have ho:=Own.start w;unfold Bd.head at hK;by_cases h1:a < 0
 ·rw[Yh (.inl h1)] at hK;simp only[rs,Yk h1,g_un,i_t];exact hK _ _ ⟨rfl,ho.done⟩
 by_cases h2:a>(s.length:Int)
 ·rw[Yh (.inr h2)] at hK;simp only[rs,Yl h1,bF Ym,Yk h2,g_un,i_t];exact hK _ _ ⟨rfl,ho.done⟩
 rw[Yg (by omega)] at hK;simp only[rs,Yl h1,bF Ym,Yl h2,g_un,i_f];unfold Bd.Co at hK;refine aP ho (R:=fun v=>v=.tuple #[.int .i64 (Bd.num s a 1 8191).1,.int .i64 (Bd.num s a 1 8191).2.1,.int .i64 (Bd.num s a 1 8191).2.2]) (D2 s a 1 8191 w hs) ?_;rintro _ w1 rfl ho;simp only[ex,fM];by_cases e1:(Bd.num s a 1 8191).2.2=0
 case neg=>
  rw[Yh e1] at hK;simp only[Yk (show (Bd.num s a 1 8191).2.2≠0 from e1),i_t];exact hK _ _ ⟨rfl,ho.done⟩
 rw[Yg (by simp[e1])] at hK;simp only[e1,show decide ((0:Int)≠0)=false by decide,i_f];generalize Bd.num s a 1 8191=x at *;refine aP ho (R:=fun v=>v=.tuple #[.int .i64 (Bd.num s x.2.1 0 65535).1,.int .i64 (Bd.num s x.2.1 0 65535).2.1,.int .i64 (Bd.num s x.2.1 0 65535).2.2]) (D2 s x.2.1 0 65535 w1 hs) ?_;rintro _ w2 rfl ho;simp only[ex,fM];by_cases e2:(Bd.num s x.2.1 0 65535).2.2=0
 case neg=>
  rw[Yh e2] at hK;simp only[Yk (show (Bd.num s x.2.1 0 65535).2.2≠0 from e2),i_t];exact hK _ _ ⟨rfl,ho.done⟩
 rw[Yg (by simp[e2])] at hK;simp only[e2,show decide ((0:Int)≠0)=false by decide,i_f];generalize Bd.num s x.2.1 0 65535=y at *;refine aP ho (R:=fun v=>v=.tuple #[.int .i64 (Bd.word s y.2.1 Bd.objW).1,.int .i64 (Bd.word s y.2.1 Bd.objW).2]) (qT s y.2.1 Bd.objW w2 hs) ?_;rintro _ w3 rfl ho;simp only[ex,fM];by_cases e3:(Bd.word s y.2.1 Bd.objW).2=0
 case neg=>
  rw[Yh e3] at hK;simp only[Yk (show (Bd.word s y.2.1 Bd.objW).2≠0 from e3),i_t];exact hK _ _ ⟨rfl,ho.done⟩
 rw[Yg (by simp[e3])] at hK;simp only[e3,show decide ((0:Int)≠0)=false by decide,i_f];exact hK _ _ ⟨rfl,ho.done⟩
theorem FF (i:It){vk vc:Value}(w:World)(hw:i.obj.wt≤100000000000)(hv:OV (InW w) w (obV i.obj vk vc) i.obj):Ret prog 19 #[itV i vk vc] w (fun v w'=>v=.int .i64 (Bd.check i)∧Below w.heap.size w w'):=by
 refine aO fun K hK=>wP ?_;unfold oY iN dx gfx cx;refine PJ i hv.oneK hv.oneC (Own.start w) fun b w1 ho=>?_;have out:Dk.numbers i=false→K (.returned (.int .i64 2)) w1:=fun h=>hK _ _ ⟨by rw[Bd.check,Yh h],ho.done⟩;have hn:Dk.numbers i=true↔1≤i.num∧i.num≤8191∧0≤i.gen∧i.gen≤65535:=by
  simp only[Dk.numbers,Ys,Yx];omega
 have outs:¬(1≤i.num∧i.num≤8191∧0≤i.gen∧i.gen≤65535)→K (.returned (.int .i64 2)) w1:=fun h=>out (by
  cases hq:Dk.numbers i with
 |true=>exact absurd (hn.1 hq) h
 |false=>rfl)
 by_cases h1:i.num < 1
 ·simp only[rs,EY,vC ho 0 rfl,Yk h1,g_un];exact outs (by omega)
 by_cases h2:i.num>8191
 ·simp only[rs,EY,vC ho 0 rfl,Yl h1,Yk h2,g_un];exact outs (by omega)
 by_cases h3:i.gen < 0
 ·simp only[rs,EY,LQ,vC ho 0 rfl,FW ho 0 rfl,Yl h1,Yl h2,Yk h3,g_un];exact outs (by omega)
 by_cases h4:i.gen>65535
 ·simp only[rs,EY,LQ,vC ho 0 rfl,FW ho 0 rfl,Yl h1,Yl h2,Yl h3,Yk h4,g_un];exact outs (by omega)
 simp only[rs,EY,LQ,vC ho 0 rfl,FW ho 0 rfl,Yl h1,Yl h2,Yl h3,Yl h4,g_un,Cn,Fu ho 0 rfl];have hnt:Dk.numbers i=true:=hn.2 (by omega);obtain⟨cs,ha⟩:=hv.slices;refine dO (jK i.obj _ w1 (ha.in_ ho).ov (by omega)) rfl ho fun w2 ho=>?_;rw[fM];by_cases hc:Vl.check 1 i.obj=0
 case neg=>
  simp only[Yk (show Vl.check 1 i.obj≠0 from hc),i_t];exact hK _ _ ⟨by rw[Bd.check,Yg (by simp[hnt]),Yh hc],ho.done⟩
 simp only[hc,show decide ((0:Int)≠0)=false by decide,i_f,Cn,cN,it_k ho 0 rfl,rs];by_cases h8:i.obj.k=8
 ·simp only[Yk h8,i_t];exact hK _ _ ⟨by rw[Bd.check,Yg (by simp[hnt]),Yg (by simp[hc]),Yh h8],ho.done⟩
 ·simp only[Yl h8,i_f];exact hK _ _ ⟨by rw[Bd.check,Yg (by simp[hnt]),Yg (by simp[hc]),Yg h8],ho.done⟩
end
section
open Eng
def Cv(t0 t1 w)(K:KT):=
 dx (mBox 25 t0) w K fun t2 w=>dx (aM 25) w K fun t4 w=>dx (mFA 25 t2 0) w K fun t8 w=>dx (aA 3 t8) w K fun t9 w=>dx (mEq .neq 3 (.tmp 9) (.const (iN 7)) t9 (iN 7)) w K fun t10 w=>IfX t10 (dx (aJ 25 #[]) w K fun t11 w=>dx (aC 25 t4 t11) w K fun _ w=>RetX prog [.cell t4 25,.val (iN 10)] w K) (dx (aA 25 t2) w K fun t12 w=>cx 57 #[t12] w K fun t13 w=>dx (mEq .neq 30 (.tmp 14) (.const (iN 0)) t13 (iN 0)) w K fun t15 w=>IfX t15 (dx (aJ 25 #[]) w K fun t16 w=>dx (aC 25 t4 t16) w K fun _ w=>RetX prog [.cell t4 25,.val t13] w K) (dx (aA 25 t2) w K fun t18 w=>cx 86 #[t18,(.string ⟨#[76,101,110,103,116,104]⟩)] w K fun t19 w=>dx (aM 25) w K fun t7 w=>dx (aC 25 t7 t19) w K fun _ w=>dx (mFA 25 t7 0) w K fun t20 w=>dx (aC 3 t20 (iN 9)) w K fun _ w=>dx (mFA 25 t7 3) w K fun t22 w=>dx (aC 9 t22 t1) w K fun _ w=>dx (aA 25 t7) w K fun t23 w=>cx 87 #[t23] w K fun t24 w=>dx (mExt t24 0) w K fun t25 w=>dx (mExt t24 1) w K fun t26 w=>dx (aC 25 t4 t25) w K fun _ w=>RetX prog [.cell t4 25,.val t26] w K))
theorem Fc{t0 t1 w K}(h:Cv t0 t1 w K):Calls prog 65 #[t0,t1] w K:=cw Tryz.func65 rfl rfl (by kernel_rfl) h
end
section
open Eng
def rO(t0 t1 w)(K:KT):=
 dx (mBox 25 t0) w K fun t2 w=>dx (aM 25) w K fun t4 w=>dx (mFA 25 t2 0) w K fun t5 w=>dx (aA 3 t5) w K fun t6 w=>dx (mEq .neq 3 (.tmp 6) (.const (iN 7)) t6 (iN 7)) w K fun t7 w=>gtx t7 (mFA 25 t2 0) w K fun t9 w=>gtx t7 (aA 3 t9) w K fun t10 w=>gtx t7 (mEq .neq 3 (.tmp 10) (.const (iN 9)) t10 (iN 9)) w K fun t11 w=>dx (aF t7 t11 (.bool false)) w K fun t12 w=>gfx t12 (aA 25 t2) w K fun t14 w=>cfx t12 58 #[t14] w K fun t15 w=>gfx t12 (mEq .neq 30 (.tmp 15) (.const (iN 0)) t15 (iN 0)) w K fun t16 w=>dx (aF t12 (.bool true) t16) w K fun t17 w=>IfX t17 (dx (aA 25 t2) w K fun t18 w=>dx (aC 25 t4 t18) w K fun _ w=>RetX prog [.cell t4 25] w K) (dx (aA 25 t2) w K fun t19 w=>cx 91 #[t19,t1] w K fun t21 w=>dx (aC 25 t4 t21) w K fun _ w=>RetX prog [.cell t4 25] w K)
theorem yO{t0 t1 w K}(h:rO t0 t1 w K):Calls prog 70 #[t0,t1] w K:=cw Tryz.func70 rfl rfl (by kernel_rfl) h
end
section
open Eng Go.RowKit
theorem Mt (o:Ob)(v:Value)(data:List UInt8)(M:Mem)(w:World)(h7:o.k=7)(hc:Vl.check 1 o=0)(hd:data.length≤1048576)(hw:o.wt≤1000000000)(hM:M.has w)(hv:OV M.A M.w v o) :
  RetM prog 65 #[v,.string ⟨data.toArray⟩] M w (fun r N=>∃v',r=errV v' 0∧OV N.A N.w v' (Bd.strm o data)):=by
 obtain⟨vk,vc,cs,rfl,ha⟩:=hv.open;refine cM hM fun K hK=>Fc ?_;unfold Cv iN dx cx;refine cY o ha.keys.one ha.kids.one (OwnS.memS hM) fun b2 w1 ho=>?_;refine bN ho fun b4 w2 ho=>?_;rw[cN,ob_k ho 1 rfl];simp only[rs,h7,show decide ((7:Int)≠7)=false by decide,i_f];rw[ob_v ho 1 rfl];refine aP ho (R:=fun v=>v=.int .i64 (Vl.check 1 o)) (pU o _ w2 (OV.inw (ho.hasM 2 rfl) hv) (by omega)) ?_;rintro _ w3 rfl ho;simp only[hc,fM,show decide ((0:Int)≠0)=false by decide,i_f];rw[ob_v ho 1 rfl];refine eD ho 2 rfl (LV o _ Vl.lenK M w3 (by omega) (ho.hasM 2 rfl) hv) fun y N w4 hle hy ho=>?_;have hdr:Vl.drop o Vl.lenK=Vl.bD o Vl.lenK:=by unfold Vl.drop;exact Bd.Lc hc h7
 rw[hdr] at hy;have hck:=Bd.O2 (data:=data) hc h7 hd;have hwt:=Vl.Ca o Vl.lenK;have hst:Bd.strm o data=.mk 9 (Vl.bD o Vl.lenK).n (Vl.bD o Vl.lenK).g data (Vl.bD o Vl.lenK).keys (Vl.bD o Vl.lenK).kids:=rfl;generalize Vl.bD o Vl.lenK=x at *;obtain⟨yk,yc,ycs,rfl,hya⟩:=hy.open;refine bN ho fun b7 w5 ho=>?_;refine aQ 0 hya.keys.one hya.kids.one ho rfl fun w6 ho=>?_;rw[cN];refine aW 0 ho rfl (by kernel_rfl) rfl (show 0 < 6 by omega) fun w7 ho=>?_;rw[Cd];refine aW 0 ho rfl (by kernel_rfl) rfl (show 0+3 < 6 by omega) fun w8 ho=>?_;have ho:OwnS M.A w w8 [obE b7 (Bd.strm o data) yk yc,obE b4 ob0 nilS nilS,obE b2 o vk vc,.mem N]:=by rw[hst];exact ho
 have hsv:OV N.A N.w (obV (Bd.strm o data) yk yc) (Bd.strm o data):=by
  rw[hst];exact ObAt.ov (o:=.mk 9 x.n x.g data x.keys x.kids) (vk:=yk) (vc:=yc) (cs:=ycs) ⟨hya.keys,hya.kids,hya.all⟩
 have hsw:(Bd.strm o data).wt≤100000000000:=by
  have e1:=Vl.kY (Bd.strm o data);have e2:=Vl.kY x;rw[hst] at e1 ⊢;simp only[Ob.s,Ob.keys,Ob.kids] at e1 e2 ⊢;omega
 rw[ob_v ho 0 rfl];refine eD ho 3 rfl (Ls _ _ N w8 hsw (ho.hasM 3 rfl) hsv) ?_;rintro _ N2 w9 hle2 ⟨t,rfl,ht⟩ ho;have hrt:Vl.right (Bd.strm o data)=(Bd.strm o data,0):=by unfold Vl.right;rw[Yg (by simp[hck])]
 rw[hrt] at ht;obtain⟨tk,tc,tcs,rfl,hta⟩:=ht.open;simp only[errV,ex,hrt];refine aQ 1 hta.keys.one hta.kids.one ho rfl fun w10 ho=>?_;exact dQ 1 ho rfl (hK _ _ N2 _ 3 ho rfl (hle.trans hle2) ⟨_,rfl,hta.ov⟩)
theorem OR (o:Ob)(v:Value)(key:List UInt8)(M:Mem)(w:World)(h7:o.k=7)(hc:Vl.check 1 o=0)(hw:o.wt≤1000000000)(hM:M.has w)(hv:OV M.A M.w v o) :
  RetM prog 70 #[v,.string ⟨key.toArray⟩] M w (fun r N=>OV N.A N.w r (Vl.bD o key)):=by
 obtain⟨vk,vc,cs,rfl,ha⟩:=hv.open;obtain⟨_,hlen⟩:=Vl.mD hc (by simp[Vl.keyed,h7]);refine cM hM fun K hK=>yO ?_;unfold rO iN dx gtx gfx cfx cx;refine cY o ha.keys.one ha.kids.one (OwnS.memS hM) fun b2 w1 ho=>?_;refine bN ho fun b4 w2 ho=>?_;simp only[rs,cN,ob_k ho 1 rfl,h7,show decide ((7:Int)≠7)=false by decide,g_un,ob_v ho 1 rfl];refine aP ho (R:=fun v=>v=.int .i64 (Vl.check 1 o)) (jK o _ w2 (OV.inw (ho.hasM 2 rfl) hv) (by omega)) ?_;rintro _ w3 rfl ho;simp only[rs,hc,fM,show decide ((0:Int)≠0)=false by decide,g_un,i_f,ob_v ho 1 rfl];refine eD ho 2 rfl (AK o _ key M w3 (by omega) (ho.hasM 2 rfl) hv hlen) fun y N w4 hle hy ho=>?_;obtain⟨yk,yc,ycs,rfl,hya⟩:=hy.open;refine aQ 0 hya.keys.one hya.kids.one ho rfl fun w5 ho=>?_;exact eG (aX (ho.agg 0 rfl dM)) (hK _ _ N _ 2 ho rfl hle hya.ov)
theorem Wy {w:World}{PK:PKT}{K:VWP}{S:Nat→Prop}{w0:World}{L:List Ent}{o:Ob}{v:Value}{M:Mem}(i:Nat)(hw:o.wt≤100000000000)(ho:OwnS S w0 w L)(hi:L[i]?=some (.mem M))(hv:OV M.A M.w v o)
  (kr:(Bd.own o).2=0→∀N w',M.le N→OwnS S w0 w' (L.set i (.mem N))→K (.int .i64 (Bd.own o).1) w') (kp:(Bd.own o).2≠0→∀N w',M.le N→OwnS S w0 w' (L.set i (.mem N))→PK [upE (Bd.own o).2] w'):CallX prog 64 #[v] w PK K:=by
 obtain⟨vk,vc,cs,rfl,ha⟩:=hv.open;refine⟨JS ?_⟩;unfold JH iN dx cx;refine cY o ha.keys.one ha.kids.one ho fun b1 w1 ho=>?_;rw[ob_v ho 0 rfl];refine eD ho (i+1) (by simpa using hi) (Nt o _ Vl.lenK M w1 hw (ho.hasM (i+1) (by simpa using hi)) hv) ?_;rintro _ N w2 hle ⟨u,rfl,hu⟩ ho;obtain⟨xk,xc,xcs,rfl,hx⟩:=hu.open;simp only[getV,ex];refine bN ho fun b3 w3 ho=>?_;refine aQ 0 hx.keys.one hx.kids.one ho rfl fun w4 ho=>?_;have hO:OwnS S w0 w4 (L.set i (.mem N)):=ho.tail.tail;unfold Bd.own at kr kp;cases hg:Vl.get o Vl.lenK with
|none=>
  rw[hg] at kp;simp only[Option.isSome];exact dP (fun h=>by cases h) fun _=>kp (by decide) N w4 hle hO
|some x=>
  rw[hg] at kr kp ho;simp only[Option.isSome] at ho ⊢;simp only at kr kp;refine dP (fun _=>?_) fun h=>by cases h
  rw[cN,ob_k ho 0 rfl];simp only[rs,ZQ];refine dP (fun h=>?_) fun h=>?_
  rotate_left
  ·rw[Yh (Y5 h)] at kp;exact kp (by decide) N w4 hle hO
  have h2:x.k=2:=YF h;rw[Yg (by simp[h2])] at kr kp;rw[vI,ob_n ho 0 rfl];simp only[rs,ZQ];refine dP (fun h=>?_) fun h=>?_
  rotate_left
  ·have hn:x.n < 0:=by have:=Y5 h;omega
   rw[Yh hn] at kp;exact kp (by decide) N w4 hle hO
  have hn:0≤x.n:=YF h;rw[Yg (by omega)] at kr;rw[vI,ob_n ho 0 rfl];exact kr rfl N w4 hle hO
end
section
open Eng Go.RowKit
theorem T6 (s t:List UInt8){w:World}{PK:PKT}{K:VWP}{S:Nat→Prop}{w0:World}{L:List Ent}(ho:OwnS S w0 w L)(k:∀b w',OwnS S w0 w' (.cells b [.string ⟨s.toArray⟩,.string ⟨t.toArray⟩] 9::L)→K (.slice (some ⟨b,0,none⟩) 2 2) w') :
  DoX prog (aS 22 2 #[(0,.string ⟨s.toArray⟩),(1,.string ⟨t.toArray⟩)]) w PK K:=
 cI (fun b=>.slice (some ⟨b,0,none⟩) 2 2) [.string ⟨s.toArray⟩,.string ⟨t.toArray⟩] 9 (fun _=>by kernel_rfl) ho k
theorem HR (l p:List UInt8):bG l p 0=p.isPrefixOf l:=by simp[bG]
theorem Rm (b:Nat)(s:List UInt8)(a:Nat)(w:World)(ha:a≤s.length)(hs:s.length≤1099511627776)(hr:(brE b s a).is w) :
  Lend prog 63 #[rdP b] (brE b s a) w ((Bd.line s a).2=0) (fun v e'=>v=.tuple #[]∧e'=brE b s (Bd.line s a).1) [upE (Bd.line s a).2]:=by
 refine Iw hr (fun K ho hret hpan=>Bi ?_);unfold jX iN dx gtx etx cx;generalize hS0:(brE b s a).blk=S0 at *;refine quiet ?_;refine q_do _ (fun _=>eY) (q_do _ (fun _=>bC fbr0) (q_at _ (fun _ hb=>br_s ((ho.grow hb).at_ 0 rfl)) ?_));refine q_do _ (fun _=>eY) (q_do _ (fun _=>bC fbr1) (q_at _ (fun _ hb=>br_a ((ho.grow hb).at_ 0 rfl)) ?_));refine q_do (.string ⟨(s.drop a).toArray⟩) (fun _=>NX Ym (by omega) (by omega)) ?_;intro w1 hb;have ho:=ho.grow hb;have ho:OwnS S0 w w1 [brE b s a]:=ho;unfold Bd.line at hret hpan;have hlen:(s.drop a).length=s.length - a:=Yv;generalize hl:s.drop a=l at *;have en0:∀{W:World} {PK:PKT} {K:VWP} {xo yo:Operand},DoX prog (mEq .neq 9 xo yo (.string ⟨l.toArray⟩) (.string ⟨#[]⟩)) W PK K=K (.bool (decide (l≠[]))) W:=Lm (b:=[]);have en1:∀{W:World} {PK:PKT} {K:VWP} {xo yo:Operand},DoX prog (mEq .neq 9 xo yo (.string ⟨l.toArray⟩) (.string ⟨#[13]⟩)) W PK K=K (.bool (decide (l≠[13]))) W:=Lm (b:=[13]);rw[en0];cases l with
|nil=>
  simp only[rs,show decide (([]:List UInt8)≠[])=false by decide,g_un];exact dP (fun h=>by cases h) fun _=>hpan (by simp) _ w1 [] ho
|cons c t=>
  simp only at hret hpan;simp only[rs,show decide ((c::t)≠[])=true by simp,en1];refine dP (fun h=>?_) fun h=>?_
  rotate_left
  ·have h13:c::t=[13]:=by have:=Y5 h;simpa using this
   injection h13 with e1 e2
   rw[Yh ⟨e1,e2⟩] at hpan;exact hpan (by decide) _ w1 [] ho
  have h13:¬(c=13∧t=[]):=by
   rintro⟨rfl,rfl⟩;exact (YF h) rfl
  rw[Yg h13] at hret hpan;refine T6 [10] [13,10] ho fun b2 w2 ho=>?_;have ho:OwnS S0 w w2 [.cells b2 [.string ⟨#[10]⟩,.string ⟨#[13,10]⟩] 9,brE b s a]:=ho;have hlen2:∀{W:World} {PK:PKT} {K:VWP} {T:TypeId} {cb:Array Bool},DoX prog (mB .len #[22] T cb #[.slice (some ⟨b2,0,none⟩) 2 2]) W PK K=K (.int .i64 2) W:=aU (by kernel_rfl);rw[hlen2];refine loop (fun vs' W=>∃i:Nat,vs'=[.int .i64 i]∧i≤2∧(1≤i→c≠10)∧(2≤i→¬(c=13∧t.head?=some 10))∧OwnS S0 w W [.cells b2 [.string ⟨#[10]⟩,.string ⟨#[13,10]⟩] 9,brE b s a]) (fun vs' _=>2 - n0 vs') ⟨0,rfl,by omega,fun h=>absurd h (by omega),fun h=>absurd h (by omega),ho⟩ ?_;clear ho;rintro vs' w3 ⟨i,rfl,hi,h1,h2,ho⟩ _;simp only[oX,gd,rs,iN,dx,cx];have hit:∀{p:List UInt8} {W:World},OwnS S0 w W [.cells b2 [.string ⟨#[10]⟩,.string ⟨#[13,10]⟩] 9,brE b s a]→p.length≤2 →
    (if c=10 then ((a+1,0):Nat×Int) else if c=13∧t.head?=some 10 then (a+2,0) else (0,3))=(a+p.length,0) →
    DoX prog (mFA 62 (rdP b) 1) W (pk K) (fun t32 w=>DoX prog (aA 3 t32) w (pk K) fun t33 w=>DoX prog (mB .len #[9] 3 #[false] #[.string ⟨p.toArray⟩]) w (pk K) fun t35 w=>DoX prog (mBin .add 3 t33 t35) w (pk K) fun t36 w=>
     DoX prog (mFA 62 (rdP b) 1) w (pk K) fun t38 w=>DoX prog (aC 3 t38 t36) w (pk K) fun _ w=>K (.returned (.tuple #[])) w):=by
   intro p W ho hp he;rw[he] at hret;rw[Hu];refine aU (br_a (ho.at_ 1 rfl)) |>.mpr ?_;rw[bF Ym];simp only[rs];rw[aB (by omega) (by omega),Hu];refine NP 1 ho rfl fun w5 ho=>?_;exact hret rfl _ _ w5 [] ho.tail ⟨rfl,by simp⟩
  by_cases hlt:(i:Int) < 2
  case neg=>
   simp only[Yl hlt,i_f];have e:(if c=10 then ((a+1,0):Nat×Int) else if c=13∧t.head?=some 10 then (a+2,0) else (0,3))=(0,3):=by rw[Yg (h1 (by omega)),Yg (h2 (by omega))]
   rw[e] at hpan;exact dP (fun h=>by cases h) fun _=>hpan (by decide) _ w3 [] ho.tail
  simp only[Yk hlt,i_t];have hc01:i=0∨i=1:=by omega
  rcases hc01 with rfl|rfl
  ·have i0:∀{PK:PKT} {K:VWP},DoX prog (mIA 22 (.slice (some ⟨b2,0,none⟩) 2 2) (.int .i64 ((0:Nat):Int))) w3 PK K=K (.pointer (some ⟨b2,0,none⟩)) w3:=aU (by kernel_rfl);rw[i0,bE qQ (ho.cell 0 rfl 0 rfl)];refine c_eq (BS (c::t) [10] 0 w3) ?_;rw[HR];by_cases h10:c=10
   ·subst h10;simp only[List.isPrefixOf,beq_self_eq_true,Y2,i_t];exact hit (p:=[10]) ho (by simp) (by rw[Yh rfl];rfl)
   ·have hp:List.isPrefixOf [10] (c::t)=false:=by simp[List.isPrefixOf];exact fun h=>h10 h.symm
    rw[hp];simp only[i_f];rw[aB (by omega) (by omega)];exact bO ⟨1,rfl,by omega,fun _=>h10,fun h=>absurd h (by omega),ho⟩ (by simp[n0,RowKit.intOf])
  ·have i1:∀{PK:PKT} {K:VWP},DoX prog (mIA 22 (.slice (some ⟨b2,0,none⟩) 2 2) (.int .i64 ((1:Nat):Int))) w3 PK K=K (.pointer (some ⟨b2,1,none⟩)) w3:=aU (by kernel_rfl);rw[i1,bE qQ (ho.cell 0 rfl 1 rfl)];refine c_eq (BS (c::t) [13,10] 0 w3) ?_;rw[HR];by_cases h1310:c=13∧t.head?=some 10
   ·obtain⟨rfl,ht⟩:=h1310;obtain⟨t',rfl⟩:∃t',t=10::t':=by
     cases t with
    |nil=>cases ht
    |cons d t'=>exact⟨t',by rw[ZT ht]⟩
    simp only[List.isPrefixOf,beq_self_eq_true,Y2,i_t];exact hit (p:=[13,10]) ho (by simp) (by rw[Yg (by decide),Yh ⟨rfl,rfl⟩];rfl)
   ·have hp:List.isPrefixOf [13,10] (c::t)=false:=by
     cases t with
    |nil=>simp[List.isPrefixOf]
    |cons d t'=>
      simp only[List.isPrefixOf,ZE,ZA,beq_eq_false_iff_ne,ne_eq];by_cases hc:(13:UInt8)=c
      ·exact .inr fun hd=>h1310 ⟨hc.symm,by rw[←hd];rfl⟩
      ·exact .inl hc
    rw[hp];simp only[i_f];rw[aB (by omega) (by omega)];exact bO ⟨2,rfl,by omega,fun _=>h1 (by omega),fun _=>h1310,ho⟩ (by simp[n0,RowKit.intOf])
end
end Go.Proofs.YtkejpieaafeblaaGreatDoor
