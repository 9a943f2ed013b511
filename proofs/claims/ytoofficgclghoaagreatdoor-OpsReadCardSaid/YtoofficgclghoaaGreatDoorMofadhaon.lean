/- Texts that go together: OpG OpH OpI OpJ OpK OpL OpM SLaw43 OpN OpP OpZ. -/
import Derived.Test.YtoofficgclghoaaGreatDoorRows
import Derived.Test.YtoofficgclghoaaGreatDoorMlengaipi
import Derived.Test.YtoofficgclghoaaGreatDoorMdldongdl
import Derived.Test.YtoofficgclghoaaGreatDoorMjoallmgc
import Derived.Test.YtoofficgclghoaaGreatDoorMjjgpfbaj
import Derived.Test.YtoofficgclghoaaGreatDoorMmmaflfbf
import Derived.Test.YtoofficgclghoaaGreatDoorMpnbdiiaj
set_option linter.defProp false
set_option linter.unusedSimpArgs false
set_option linter.unusedVariables false
set_option maxRecDepth 20000
open Go.Proofs.Tryz (prog)
namespace Go.Proofs.YtoofficgclghoaaGreatDoor
section
open Eng Go.RowKit
theorem elOp:elB prog 44 3 56=true:=by kernel_rfl
section
variable {w:World}{PK:PKT}{K:VWP}{S:Nat→Prop}{w0:World}{L:List Ent}
theorem Vo (i:Nat){v v2:Value}{n m:Nat}{xs news:List Value}{cb:Array Bool}(ho:OwnS S w0 w L)(hi:L[i]?=some (.urow 44 3 v n xs))(hs:Sl w v2 3 m news)(h1:∀u∈news,u.oneCell'=true)(hb:n+m≤1000000000000)
  (k:∀v' w',OwnS S w0 w' (L.set i (.urow 44 3 v' (n+m) (xs++news)))→K v' w'):DoX prog (mB .append #[23,23] 23 cb #[v,v2]) w PK K:=
 Bt i Tryz.underlying23 elOp (by decide) ho hi hs h1 (by omega) (by omega) k
theorem S7 (o:Cop){va:Value}(ha:va.oneCell'=true)(ho:OwnS S w0 w L)(k:∀b w',OwnS S w0 w' (opE b o va::L)→K (.slice (some ⟨b,0,none⟩) 1 1) w'):DoX prog (aP 23 1 #[(0,opV o va)]) w PK K:=by
 cases va<;>first|(cases ha;done)|exact dD (fun b=>.slice (some ⟨b,0,none⟩) 1 1) (opC o _) 44 (fun _=>by kernel_rfl) ho k
end
theorem Cb:dQ prog 35=true:=by kernel_rfl
theorem Nn (b:Nat)(s:List UInt8)(M:Mem)(w:World)(hs:s.length≤1000000000)(hr:(Ent.two (orE b s 0 nilS) (.mem M)).is w) :
  Ret prog 16 #[rdP b] w (fun v w'=>v=fltV ((Cs.read s).2.at_,(Cs.read s).2.e)∧∃(N:Mem) (e2:Ent),M.le N∧Turn (.two (orE b s 0 nilS) (.mem M)) (.two e2 (.mem N)) w w' ∧
   ((Cs.read s).2.e=0→∃a vl,e2=orE b s a vl∧OpsV N.A N.w vl (Cs.read s).1)):=by
 generalize hR:Cs.read s=R;refine aO fun K hK=>Ap ?_;unfold kX;have ho:OwnS (Ent.two (orE b s 0 nilS) (.mem M)).blk w w [.two (orE b s 0 nilS) (.mem M)]:=OwnS.lend hr;generalize hS0:(Ent.two (orE b s 0 nilS) (.mem M)).blk=S0 at ho;refine Ia ho.split fun b2 w1 ho=>?_;rw[Hm];refine⟨_,rfl,?_⟩;have out:∀{W:World} {L:List Ent} {e2:Ent} {N:Mem} {v:Value},OwnS S0 w W (L++([e2,.mem N]++[]))→M.le N→v=fltV (R.2.at_,R.2.e)→(R.2.e=0→∃a vl,e2=orE b s a vl∧OpsV N.A N.w vl R.1)→K (.returned v) W:=by
  intro W L e2 N v ho hle hv he;have ho:=OwnS.pair ho.front;subst hS0;exact hK _ _ ⟨hv,N,e2,hle,OwnS.back ho,he⟩
 have fall:∀{W:World} {L:List Ent} {e2:Ent} {N:Mem} (f:Cs.Flt),OwnS S0 w W (L++([fltE b2 (0,0),e2,.mem N]++[]))→M.le N→R=([],f)→f.e≠0 →
   aE { target:=.fn (.func 35) #[.pointer (some ⟨b2,0,none⟩)],args:=#[]++#[] } (.pointer (some ⟨b2,0,none⟩)) K [fltP f.at_ f.e] W:=by
  intro W L e2 N f ho hle he h0;have ho:=ho.front;show pd prog _ K _ [fltP f.at_ f.e] W;unfold pd;refine zQ (by simp) Cb (kA (t0:=.pointer (some ⟨b2,0,none⟩)) ?_);simp only[dU,recV,recM,fltP,Eng.L7 Tryz.underlying20,rs,R6 nfF,ex,i_t,i_f];refine Ia ho fun b5 w5 ho=>?_;refine jT (g:=(f.at_,f.e)) 0 ho rfl fun w6 ho=>?_;have ho:OwnS S0 w w6 (fltE b5 (f.at_,f.e)::fltE b2 (0,0)::e2::.mem N::(L++[])):=ho;rw[l_at (ho.agg 0 rfl mF)];refine jT (f:=(0,0)) (g:=(f.at_,f.e)) 1 ho rfl fun w7 ho=>?_;have ho:OwnS S0 w w7 ([fltE b5 (f.at_,f.e),fltE b2 (f.at_,f.e)]++([e2,.mem N]++(L++[]))):=ho;refine iW (bC (ho.agg 1 rfl mF)) ?_;have hlast:=ho;have ho:=OwnS.pair ho.front;subst hS0;exact hK _ _ ⟨by rw[he];rfl,N,e2,hle,OwnS.back ho,fun h=>by rw[he] at h;exact absurd h h0⟩
 have ho:=(ho.nilU 44 3).nilU 42 6;refine loop (fun vs w'=>∃(a':Int) (m:Nat) (l:List Cop) (args:List Ob) (va vl:Value) (oc ac:List Value) (N:Mem),vs=[va]∧0≤a'∧a'≤s.length∧(s.length:Int)+1≤a'+m∧(l.length:Int)≤a'∧args.length≤32 ∧
   Cs.jV s m a' l args=R∧M.le N∧PVs N.A N.w oc l∧OVs N.A N.w ac args ∧
   OwnS S0 w w' [.urow 42 6 va args.length ac,.urow 44 3 vl l.length oc,fltE b2 (0,0),orE b s a' vl,.mem N]) (fun _ w=>s.length - rdAt b w)
  ⟨0,s.length+1,[],[],nilS,nilS,[],[],M,rfl,by omega,by omega,by omega,by simp,by simp,hR,M.le_refl,.nil,OVs.nil,ho⟩ ?_
 clear ho hR;rintro vs w4 ⟨a',m,l,args,va,vl,oc,ac,N,rfl,ha0,ha1,hml,hla,hal,hdict,hle,hpv,hov,ho⟩ _;simp only[pH,gd];obtain⟨m,rfl⟩:∃k,m=k+1:=⟨m - 1,by omega⟩;have hat:rdAt b w4=a'.toNat:=Ff (ho.at_ 3 rfl);rw[Cs.jV] at hdict;have hbd:=@Lx.bV s a';have hge:=Lx.cO s a'.toNat;have hopb:=@Cs.AW s a' l.length args;have hob:(Ps.object s a').2.2=0→a' < (Ps.object s a').2.1∧(Ps.object s a').2.1≤s.length:=fun h=>Bd.gC h;refine IK ho (ho.at_ 3 rfl) (by omega) (fun e1 w5 ho=>?_) fun e1 w5 ho=>?_
 rotate_left
 ·rw[if_pos e1] at hdict;exact fall (L:=[_,_]) _ ho hle hdict.symm e1
 rw[if_neg (by simp[e1])] at hdict;generalize Lx.next s a'=x at *
 refine jY ho fun b4 w6 ho=>?_;refine nI 0 ho rfl fun w7 ho=>?_;have ho:OwnS S0 w w7 [tokE b4 x.1,.urow 42 6 va args.length ac,.urow 44 3 vl l.length oc,fltE b2 (0,0),orE b s a' vl,.mem N]:=ho;rw[cS,tk_k ho 0 rfl];simp only[rs];by_cases e2:x.1.k=0
 ·rw[if_pos e2] at hdict;simp only[decide_eq_true e2,i_t];rw[bF Tryz.underlying40 (ho.slU 1 rfl)];simp only[rs,Ha,or_s (ho.at_ 4 rfl),bD Tryz.underlying9];refine dS (fun hl=>?_) fun hl=>?_
  rotate_left
  ·rw[if_pos (by intro e;rw[e] at hl;simp at hl)] at hdict;exact fall (L:=[_,_,_]) ⟨s.length,4⟩ ho hle hdict.symm (show (4:Int)≠0 by decide)
  have hl:args=[]:=List.length_eq_zero_iff.1 (by have:=of_decide_eq_true hl;omega);rw[if_neg (by simp[hl])] at hdict;have hb0:∀{PK:PKT} {K:VWP},DoX prog (aG 26 #[]) w7 PK K=K (fltV (0,0)) w7:=aT (by kernel_rfl);rw[hb0];refine jT (f:=(0,0)) (g:=(0,0)) 3 ho rfl fun w8 ho=>?_;refine zQ (by simp) Cb (kA (t0:=.pointer (some ⟨b2,0,none⟩)) ?_);simp only[dU,recV,recM,Eng.M1 Tryz.underlying20,rs];refine iW (bC (ho.agg 3 rfl mF)) ?_;have ho:OwnS S0 w w8 ([tokE b4 x.1,.urow 42 6 va args.length ac]++([.urow 44 3 vl l.length oc]++[fltE b2 (0,0),orE b s a' vl,.mem N])):=ho;have ho:OwnS S0 w w8 (.urow 44 3 vl l.length oc::[tokE b4 x.1,.urow 42 6 va args.length ac,fltE b2 (0,0),orE b s a' vl,.mem N]):=ho.front;obtain⟨N2,hle2,hrow,ho⟩:=OwnS.eT (L:=[tokE b4 x.1,.urow 42 6 va args.length ac,fltE b2 (0,0),orE b s a' vl,.mem N]) ho 4 rfl;subst hdict;exact out (L:=[_,_,_]) ho (hle.trans hle2) rfl fun _=>⟨a',vl,rfl,oc,hrow,PVs.le hle2 hpv⟩
 rw[if_neg e2] at hdict;have hbd:=hbd e1 e2;have hopb:=fun h=>hopb e1 e2 h;simp only[decide_eq_false e2,i_f,cS,tk_k ho 0 rfl,rs];by_cases e5:x.1.k=5∧Cs.constant x.1.s=false
 ·rw[if_pos e5] at hdict;simp only[decide_eq_true e5.1,rs,bK,tk_s ho 0 rfl];refine c_eq (AN x.1.s w7) ?_;simp only[e5.2,rs,Bool.not_false];have ho:OwnS S0 w w7 ([tokE b4 x.1]++([.urow 42 6 va args.length ac]++[.urow 44 3 vl l.length oc,fltE b2 (0,0),orE b s a' vl,.mem N])):=ho;have ho:OwnS S0 w w7 (.urow 42 6 va args.length ac::[tokE b4 x.1,.urow 44 3 vl l.length oc,fltE b2 (0,0),orE b s a' vl,.mem N]):=ho.front;obtain⟨N2,hle2,hrow,ho⟩:=OwnS.eT (L:=[tokE b4 x.1,.urow 44 3 vl l.length oc,fltE b2 (0,0),orE b s a' vl,.mem N]) ho 4 rfl;have ho:OwnS S0 w w7 [tokE b4 x.1,.urow 44 3 vl l.length oc,fltE b2 (0,0),orE b s a' vl,.mem N2]:=ho;obtain⟨p,cap,rfl⟩:∃p cap,vl=.slice p l.length cap:=by
   obtain⟨_,p,cap,e,_⟩:=ho.slU 1 rfl;exact⟨p,cap,e⟩
  have ho:=ho.drew;refine⟨fun W=>(∃a2,(orE b s a2 (.slice p l.length cap)).is W)∧(tokE b4 x.1).is W,⟨⟨_,ho.at_ 3 rfl⟩,ho.at_ 0 rfl⟩,?_⟩;refine aR _ (fun _=>dT) (aR _ (fun _=>aY for2) (iB (.slice p l.length cap) (fun W h=>?_) ?_))
  ·obtain⟨a2,h2⟩:=h.1;exact aM T3 (aU (T:=49) (cs:=orC s a2 (.slice p l.length cap)) (i:=2) h2 rfl)
  refine iB (tokV x.1) (fun W h=>bL (AtV.agg DJ (cs:=tokC x.1) rfl fun j u hj=>by rw[Nat.zero_add];exact aU (T:=53) h.2 hj)) ?_;refine O1 [_,_,_] ho (fun h=>GF b s a' p l.length cap x.1 args va ac N2 _ (by omega) (by omega) hs hrow (hov.le hle2) h) (fun v N3 w9 hok hle3 hv ho=>?_) fun e2 w9 hn ho=>?_
  rotate_left
  ·rw[if_pos hn] at hdict;exact fun _ _ _ _ _ _ _ _ _ _=>fall (L:=[_,_]) _ ho (hle.trans hle2) hdict.symm hn
  rw[if_neg (by simp[hok])] at hdict;have hopb:=hopb hok;generalize Cs.operator s x.1 l.length args=y at *;have ho:OwnS S0 w w9 [tokE b4 x.1,.urow 44 3 (.slice p l.length cap) l.length oc,fltE b2 (0,0),orE b s y.2.1 (.slice p l.length cap),.mem N3]:=ho;refine⟨⟨⟨_,ho.at_ 3 rfl⟩,ho.at_ 0 rfl⟩,?_⟩;obtain⟨va',acs,rfl,hx⟩:=hv;refine S7 y.1 hx.one ho fun nb w10 ho=>⟨⟨⟨_,ho.at_ 4 rfl⟩,ho.at_ 1 rfl⟩,?_⟩;refine Vo 2 ho rfl (ho.sl 0 rfl 3 1 1 rfl) (KJ _ hx.one) (by omega) fun vl' w11 ho=>?_;have hvl':=bJ (ho.at_ 2 rfl);refine⟨⟨⟨_,ho.at_ 4 rfl⟩,ho.at_ 1 rfl⟩,?_⟩;refine aR _ (fun _=>dT) (aR _ (fun _=>aY for2) ?_);refine bI 4 ho rfl (by kernel_rfl) hvl' (show 2 < 3 by omega) fun w12 ho=>?_;have ho:=ho.tail.tail;have ho:OwnS S0 w w12 [.urow 44 3 vl' (l++[y.1]).length (oc++opC y.1 va'),fltE b2 (0,0),orE b s y.2.1 vl',.mem N3]:=by
   rw[List.length_append,List.length_singleton];exact ho
  have ho:=ho.nilU 42 6;refine AtX.mk rfl (bG ⟨y.2.1,m,l++[y.1],[],nilS,vl',oc++opC y.1 va',[],N3,rfl,by omega,by omega,by omega,by simp;omega,by simp,hdict,(hle.trans hle2).trans hle3,Rws.snoc ⟨va',acs,rfl,hx⟩ (PVs.le (hle2.trans hle3) hpv),OVs.nil,ho⟩ ?_);have hat2:rdAt b w12=y.2.1.toNat:=Ff (ho.at_ 3 rfl);show s.length - rdAt b w12 < s.length - rdAt b w4;rw[hat,hat2];exact meas ha0 hopb.2.1 hopb.2.2
 ·rw[if_neg e5] at hdict;have hsel:x.1.k=5→Cs.constant x.1.s=true:=by
   intro h5;cases hc:Cs.constant x.1.s with
  |true=>rfl
  |false=>exact absurd ⟨h5,hc⟩ e5
  have rest:OwnS S0 w w7 [tokE b4 x.1,.urow 42 6 va args.length ac,.urow 44 3 vl l.length oc,fltE b2 (0,0),orE b s a' vl,.mem N] →
    ∀{D:Deferred} {Z:List Value→World→Prop},D={ target:=.fn (.func 35) #[.pointer (some ⟨b2,0,none⟩)],args:=#[]++#[] }→(∀vs w',Je (fun vs w'=>∃(a':Int) (m:Nat) (l:List Cop) (args:List Ob) (va vl:Value) (oc ac:List Value) (N:Mem),vs=[va]∧0≤a'∧a'≤s.length∧(s.length:Int)+1≤a'+m∧(l.length:Int)≤a'∧args.length≤32 ∧
   Cs.jV s m a' l args=R∧M.le N∧PVs N.A N.w oc l∧OVs N.A N.w ac args ∧
   OwnS S0 w w' [.urow 42 6 va args.length ac,.urow 44 3 vl l.length oc,fltE b2 (0,0),orE b s a' vl,.mem N]) (fun _ w=>s.length - rdAt b w) [va] w4 vs w'→Z vs w') →
    DoX prog (aB 53 (.pointer (some ⟨b4,0,none⟩))) w7 (aE D (.pointer (some ⟨b2,0,none⟩)) K) fun t10 w=>
 CallX prog 40 #[rdP b,t10] w (aE D (.pointer (some ⟨b2,0,none⟩)) K) fun t11 w=>
 DoX prog (aN 42) w (aE D (.pointer (some ⟨b2,0,none⟩)) K) fun t5 w=>
 DoX prog (aD 42 t5 t11) w (aE D (.pointer (some ⟨b2,0,none⟩)) K) fun _ w=>
 DoX prog (mB .len #[40] 3 #[false] #[va]) w (aE D (.pointer (some ⟨b2,0,none⟩)) K) fun t13 w=>
 DoX prog (mBin .lss 3 t13 (.int .i64 32)) w (aE D (.pointer (some ⟨b2,0,none⟩)) K) fun t14 w=>
 DoX prog (mFA 53 (.pointer (some ⟨b4,0,none⟩)) 1) w (aE D (.pointer (some ⟨b2,0,none⟩)) K) fun t15 w=>
 DoX prog (aB 3 t15) w (aE D (.pointer (some ⟨b2,0,none⟩)) K) fun t16 w=>
 CallX prog 37 #[t14,t16,(.int .i64 6)] w (aE D (.pointer (some ⟨b2,0,none⟩)) K) fun t17 w=>
 DoX prog (aB 42 t5) w (aE D (.pointer (some ⟨b2,0,none⟩)) K) fun t19 w=>
 DoX prog (aP 40 1 #[(0,t19)]) w (aE D (.pointer (some ⟨b2,0,none⟩)) K) fun t20 w=>
 DoX prog (mB .append #[40,40] 40 #[false,false] #[va,t20]) w (aE D (.pointer (some ⟨b2,0,none⟩)) K) fun t21 w=>
 AtX [D] [D] (Z [t21] w):=by
   intro ho D Z hD hZ;subst hD;rw[tk_v ho 0 rfl];refine O1 [_,_,_,_] ho (fun h=>Dn b s a' vl x.1 N w7 hs h) (fun v N2 w9 hok hle2 hv ho=>?_) fun e2 w9 hn ho=>?_
   rotate_left
   ·by_cases g1:(Ps.object s a').2.2≠0
    ·rw[if_pos g1] at hdict;have:=fall (L:=[_,_,_]) _ ho hle hdict.symm g1;unfold KR;rw[if_pos g1];exact this
    ·rw[if_neg g1] at hdict;have g2:Cs.bQ (Ps.object s a').1=true:=by
      cases hc:Cs.bQ (Ps.object s a').1 with
     |true=>rfl
     |false=>exact absurd ⟨Classical.not_not.1 g1,hc⟩ hn
     rw[if_pos g2] at hdict;have:=fall (L:=[_,_,_]) ⟨x.1.a,3⟩ ho hle hdict.symm (show (3:Int)≠0 by decide);unfold KR;rw[if_neg g1];exact this
   obtain⟨g1,g2⟩:=hok;rw[if_neg (by simp[g1]),if_neg (by simp[g2])] at hdict;have hob:=hob g1;generalize Ps.object s a'=e at *;have ho:OwnS S0 w w9 [tokE b4 x.1,.urow 42 6 va args.length ac,.urow 44 3 vl l.length oc,fltE b2 (0,0),orE b s e.2.1 vl,.mem N2]:=ho;obtain⟨xk,xc,xcs,rfl,hx⟩:=hv.open;refine bU ho fun b5 w10 ho=>?_;refine bA (o':=e.1) 0 hx.keys.one hx.kids.one ho rfl fun w11 ho=>?_;have ho:OwnS S0 w w11 [obE b5 e.1 xk xc,tokE b4 x.1,.urow 42 6 va args.length ac,.urow 44 3 vl l.length oc,fltE b2 (0,0),orE b s e.2.1 vl,.mem N2]:=ho;rw[bF Tryz.underlying40 (ho.slU 2 rfl)];simp only[rs,Ib,tk_a ho 1 rfl];refine dS (fun g3=>?_) fun g3=>?_
   rotate_left
   ·have g3:=of_decide_eq_false g3;rw[if_pos (by omega)] at hdict;exact fall (L:=[_,_,_,_]) ⟨x.1.a,6⟩ ho (hle.trans hle2) hdict.symm (show (6:Int)≠0 by decide)
   have g3:=of_decide_eq_true g3;rw[if_neg (by omega)] at hdict;rw[ob_v ho 0 rfl];refine AF _ hx.keys.one hx.kids.one ho fun nb w12 ho=>?_;refine JG 3 ho rfl (ho.sl 0 rfl 6 1 1 rfl) (oV _ hx.keys.one hx.kids.one) (by omega) fun va' w13 ho=>?_;have ho:=ho.tail.tail.tail;have ho:OwnS S0 w w13 [.urow 42 6 va' (args++[e.1]).length (ac++obC e.1 xk xc),.urow 44 3 vl l.length oc,fltE b2 (0,0),orE b s e.2.1 vl,.mem N2]:=by
    rw[List.length_append,List.length_singleton];exact ho
   refine AtX.mk rfl (hZ _ _ (bG ⟨e.2.1,m,l,args++[e.1],va',vl,oc,ac++obC e.1 xk xc,N2,rfl,by omega,hob.2,by omega,by omega,by simp;omega,hdict,hle.trans hle2,PVs.le hle2 hpv,oJ (hov.le hle2) (DQ hx.ov),ho⟩ ?_));have hat2:rdAt b w13=e.2.1.toNat:=Ff (ho.at_ 3 rfl);show s.length - rdAt b w13 < s.length - rdAt b w4;rw[hat,hat2];exact meas ha0 hob.1 hob.2
  by_cases h5:x.1.k=5
  ·simp only[decide_eq_true h5,rs,bK,tk_s ho 0 rfl];refine c_eq (AN x.1.s w7) ?_;simp only[hsel h5,rs,Bool.not_true];have:=rest ho rfl (fun _ _ h=>h)
   try simp only[rs] at this
   exact this
  ·simp only[decide_eq_false h5,rs,g_un];have:=rest ho rfl (fun _ _ h=>h)
   try simp only[rs] at this
   exact this
theorem NK (s:List UInt8)(M:Mem)(w:World)(hs:s.length≤1000000000)(hM:M.has w) :
  RetM prog 8 #[.string ⟨s.toArray⟩] M w (fun v N=>∃vl,v=.tuple #[vl,fltV ((Cs.read s).2.at_,(Cs.read s).2.e)]∧OpsV N.A N.w vl (Cs.read s).1):=by
 refine uL hM fun K hK=>IC ?_;unfold Ct;refine Ia (OwnS.memS hM) fun b3 w1 ho=>?_;have hb1:∀{PK:PKT} {K:VWP},DoX prog (aG 49 #[(0,.string ⟨s.toArray⟩)]) w1 PK K=K (.agg (orC s 0 nilS).toArray) w1:=aT (by kernel_rfl);rw[hb1];refine dD (fun b=>.pointer (some ⟨b,0,none⟩)) (orC s 0 nilS) 49 (fun _=>by kernel_rfl) ho fun b8 w2 ho=>?_;have ho:OwnS M.A w w2 ([orE b8 s 0 nilS]++([fltE b3 (0,0)]++([.mem M]++[]))):=ho;have ho:OwnS M.A w w2 ([orE b8 s 0 nilS]++([.mem M]++([fltE b3 (0,0)]))):=ho.perm (List.Perm.append_left _ (List.Perm.swap _ _ _));have ho:=OwnS.pair ho;refine dV (Nn b8 s M w2 hs (ho.at_ 0 rfl)) ?_;rintro _ w3 ⟨rfl,N,e2,hle,ht,hok⟩;have ho:=(ho.turn 0 rfl ht).split;have ho:OwnS M.A w w3 [e2,.mem N,fltE b3 (0,0)]:=ho;refine Ia ho fun b5 w4 ho=>?_;refine jT (g:=((Cs.read s).2.at_,(Cs.read s).2.e)) 0 ho rfl fun w5 ho=>?_;have ho:OwnS M.A w w5 [fltE b5 ((Cs.read s).2.at_,(Cs.read s).2.e),e2,.mem N,fltE b3 (0,0)]:=ho;have fe:∀{PK:PKT} {K:VWP},DoX prog (mFA 26 (.pointer (some ⟨b5,0,none⟩)) 1) w5 PK K=K (.pointer (some ⟨b5,1,none⟩)) w5:=cF (show fOff prog 26 1=some 1 by kernel_rfl);rw[fe,aW LG (ho.cell 0 rfl 1 rfl)];simp only[rs];by_cases hz:(Cs.read s).2.e=0
 ·obtain⟨a,vl,rfl,hvl⟩:=hok hz;simp only[hz,ne_eq,not_true_eq_false,decide_false,i_f,UX,or_l (ho.at_ 1 rfl)];have hb0:∀{PK:PKT} {K:VWP},DoX prog (aG 26 #[]) w5 PK K=K (fltV (0,0)) w5:=aT (by kernel_rfl);rw[hb0];refine jT (f:=(0,0)) (g:=(0,0)) 3 ho rfl fun w6 ho=>?_;refine uU dR (bC (ho.agg 3 rfl mF)) (hK _ _ N _ 2 ho rfl hle ⟨vl,?_,hvl⟩);rw[Cs.TG hz];rfl
 ·simp only[hz,ne_eq,not_false_eq_true,decide_true,i_t];refine quiet (q_at (fltV ((Cs.read s).2.at_,(Cs.read s).2.e)) (fun W hb=>bL ((ho.grow hb).agg 0 rfl mF)) ?_);intro w6 hb;have ho:=ho.grow hb;refine jT (f:=(0,0)) (g:=((Cs.read s).2.at_,(Cs.read s).2.e)) 3 ho rfl fun w7 ho=>?_;refine uU dR (bC (ho.agg 3 rfl mF)) (hK _ _ N _ 2 ho rfl hle ⟨nilS,rfl,?_⟩);rw[Cs.Mw hz];exact OpsV.nil _ _
end
section
open Eng Go.RowKit
namespace Cs
open Lx (next)
def refE (s:List UInt8)(t:Int):Int:=if (Ps.object s t).2.2=0∧bQ (Ps.object s t).1=true then 3 else (Ps.object s t).2.2
def midE (s:List UInt8)(t:Int):Int:=if refE s t=0∧depth (Ps.object s t).1=24 then 7 else refE s t
theorem QT {s:List UInt8}{m:Nat}{a:Int}{o:Ob}{met:List (List UInt8)}(h1:(next s a).2=0)(hk:(next s a).1.k=4)(h5:(next s a).1.s ∉ met)(h6:met.length≠8191) :
  keys s (m+1) a o met=if midE s (next s a).1.t≠0 then (Vl.ob0,0,⟨Lx.eM s (next s a).1.t,midE s (next s a).1.t⟩)
   else keys s m (Ps.object s (next s a).1.t).2.1 (Ps.join o (next s a).1.s (Ps.object s (next s a).1.t).1) (met++[(next s a).1.s]):=by
 have b:=Lx.bV h1 (by omega);rw[keys,if_neg (by simp[h1]),if_neg (by omega),if_neg (by omega),if_neg (by simp[hk]),if_neg h5,if_neg h6];have h0:0≤(next s a).1.t:=by omega
 have hl:(next s a).1.t≤s.length:=b.2.2.2.2;generalize (next s a).1.t=t at *;have hob:Ps.object s t=Ps.obj s 24 t:=by unfold Ps.object;rw[if_neg (by omega)]
 have hsk:Lx.eM s t=((Lx.skip s t.toNat:Nat):Int):=by unfold Lx.eM;rw[if_neg (by omega)]
 by_cases h7:(next s t).2≠0
 ·have e:(Ps.object s t).2.2=(next s t).2:=by rw[hob,Ps.obj,if_pos h7];rfl
  have em:midE s t=(next s t).2:=by
   have er:refE s t=(next s t).2:=by unfold refE;rw[e,if_neg (fun h=>h7 h.1)]
   unfold midE;rw[er,if_neg (fun h=>h7 h.1)]
  rw[if_pos h7,em,if_pos h7]
 rw[if_neg h7];have h7:=Classical.not_not.1 h7;by_cases h8:(next s t).1.k=0
 ·have e:(Ps.object s t).2.2=4:=by rw[hob,Ps.obj,if_neg (by simp[h7]),if_pos h8];rfl
  have em:midE s t=4:=by
   have er:refE s t=4:=by unfold refE;rw[e,if_neg (by simp)]
   unfold midE;rw[er,if_neg (by simp)]
  rw[if_pos h8,em,if_pos (by decide),hsk,Lx.RU h0 hl h7 h8]
 rw[if_neg h8];have ha:(next s t).1.a=Lx.eM s t:=by rw[hsk];exact (Lx.bV h7 h8).2.2.1
 rw[ha];by_cases h9:(Ps.object s t).2.2≠0
 ·have em:midE s t=(Ps.object s t).2.2:=by
   have er:refE s t=(Ps.object s t).2.2:=by unfold refE;rw[if_neg (fun h=>h9 h.1)]
   unfold midE;rw[er,if_neg (fun h=>h9 h.1)]
  rw[if_pos h9,em,if_pos h9]
 rw[if_neg h9];have h9:=Classical.not_not.1 h9;by_cases h10:bQ (Ps.object s t).1=true
 ·have em:midE s t=3:=by
   have er:refE s t=3:=by unfold refE;rw[if_pos ⟨h9,h10⟩]
   unfold midE;rw[er,if_neg (by simp)]
  rw[if_pos h10,em,if_pos (by decide)]
 rw[if_neg h10];have hd:=KZ _ _ 1 (Nat.le_refl _) (Ou h9).1;by_cases h11:24≤depth (Ps.object s t).1
 ·have em:midE s t=7:=by
   have er:refE s t=0:=by unfold refE;rw[if_neg (fun h=>h10 h.2),h9]
   unfold midE;rw[er,if_pos ⟨rfl,by omega⟩]
  rw[if_pos h11,em,if_pos (by decide)]
 ·have em:midE s t=0:=by
   have er:refE s t=0:=by unfold refE;rw[if_neg (fun h=>h10 h.2),h9]
   unfold midE;rw[er,if_neg (fun h=>h11 (by omega))]
  rw[if_neg h11,em,if_neg (by simp)]
def imgE (s:List UInt8)(d:Ob×Int×Flt):Cop×Int×Flt:=
 if d.2.2.e≠0 then (op0,0,d.2.2)
 else if lE s d.2.1=false then (op0,0,⟨d.2.1,3⟩)
 else match BD s (s.length+1) (d.2.1.toNat+1) with
 |none=>(op0,0,⟨s.length,4⟩)
 |some i=>(⟨biW,[d.1],(s.drop (d.2.1.toNat+1)).take (i - (d.2.1.toNat+1))⟩,(i:Int)+3,ok)
theorem RE (s:List UInt8)(a:Int):image s a=imgE s (keys s (s.length+1) a Ps.aZ []):=rfl
end Cs
theorem MX (o x:Ob)(vk vc xk xc:Value)(cs:List Value)(key:List UInt8)(A:Nat→Prop)(W w:World)(hlen:o.keys.length=o.kids.length)(hall:OVs A W cs o.kids)(hx:OV A W (obV x xk xc) x)(hb:o.kids.length≤10000000000)
  (hr:Vl.Rise o.keys) (hn:key ∉ o.keys) (h0:(Ent.two (keyE vk o.keys) (kidE vc o.kids.length cs)).is w) :
  Ret prog 45 #[obV o vk vc,.string ⟨key.toArray⟩,obV x xk xc] w (fun v w'=>∃vk' vc' cs',v=obV (Vl.put o key x) vk' vc'∧OVs A W cs' (Vl.put o key x).kids ∧
   Turn (.two (keyE vk o.keys) (kidE vc o.kids.length cs)) (.two (keyE vk' (Vl.put o key x).keys) (kidE vc' (Vl.put o key x).kids.length cs')) w w'):=by
 obtain⟨_,_,e1,hxa⟩:∃a b,(a,b)=(xk,xc)∧xk.oneCell'=true∧xc.oneCell'=true:=by
  obtain⟨a,b,c,e,h⟩:=hx.open
  injection e with e
  have:=congrArg Array.toList e;simp[obC] at this;exact⟨_,_,rfl,by rw[this.1];exact h.keys.one,by rw[this.2];exact h.kids.one⟩
 refine aO fun K hK=>yS ?_;unfold jU;have ho:OwnS (Ent.two (keyE vk o.keys) (kidE vc o.kids.length cs)).blk w w [keyE vk o.keys,kidE vc o.kids.length cs]:=(OwnS.lend h0).split;generalize hS:(Ent.two (keyE vk o.keys) (kidE vc o.kids.length cs)).blk=S0 at ho;have hvk:=bJ (ho.at_ 0 rfl);have hvc:=bJ (ho.at_ 1 rfl);refine rR o hvk hvc ho fun b3 w1 ho=>?_;refine rR x hxa.1 hxa.2 ho fun b5 w2 ho=>?_;refine bU ho fun b6 w3 ho=>?_;rw[nT,dN ho 2 rfl,bF Tryz.underlying39 (ho.slU 3 rfl),nT,dN ho 2 rfl];refine qJ key ho fun nb w4 ho=>?_;refine F8 4 ho rfl (ho.sl 0 rfl 1 1 1 rfl) (by simp[Value.oneCell']) (by omega) fun vk' w5 ho=>?_;have ho:=ho.tail;have ho:OwnS S0 w w5 [obE b6 ob0 nilS nilS,obE b5 x xk xc,obE b3 o vk vc,.urow 9 1 vk' (o.keys.length+1) (bR o.keys++[.string ⟨key.toArray⟩]),kidE vc o.kids.length cs]:=ho;have hvk':=bJ (ho.at_ 3 rfl);rw[nT];refine bI 2 ho rfl (by kernel_rfl) hvk' (show 0+4 < 6 by omega) fun w6 ho=>?_;have ho:OwnS S0 w w6 [obE b6 ob0 nilS nilS,obE b5 x xk xc,obE b3 o vk' vc,.urow 9 1 vk' (o.keys.length+1) (bR o.keys++[.string ⟨key.toArray⟩]),kidE vc o.kids.length cs]:=ho;rw[mH,cX ho 2 rfl,ob_v ho 1 rfl];refine AF x hxa.1 hxa.2 ho fun nb2 w7 ho=>?_;refine JG 5 ho rfl (ho.sl 0 rfl 6 1 1 rfl) (oV _ hxa.1 hxa.2) (by omega) fun vc' w8 ho=>?_;have ho:=ho.tail;have ho:OwnS S0 w w8 [obE b6 ob0 nilS nilS,obE b5 x xk xc,obE b3 o vk' vc,.urow 9 1 vk' (o.keys.length+1) (bR o.keys++[.string ⟨key.toArray⟩]),kidE vc' (o.kids.length+1) (cs++obC x xk xc)]:=ho;have hvc':=bJ (ho.at_ 4 rfl);rw[mH];refine bI 2 ho rfl (by kernel_rfl) hvc' (show 0+5 < 6 by omega) fun w9 ho=>?_;have ek:bR o.keys++[.string ⟨key.toArray⟩]=bR (o.keys.take o.keys.length++key::o.keys.drop o.keys.length):=by simp[bR,strV]
 have ho:OwnS S0 w w9 [obE b6 ob0 nilS nilS,obE b5 x xk xc,obE b3 o vk' vc',keyE vk' (o.keys.take o.keys.length++key::o.keys.drop o.keys.length),kidE vc' (o.kids.length+1) (cs++obC x xk xc)]:=by
  have el:(o.keys.take o.keys.length++key::o.keys.drop o.keys.length).length=o.keys.length+1:=by simp
  rw[ek] at ho;rw[keyE,el];exact ho
 have hall1:OVs A W (cs++obC x xk xc) (o.kids.take o.keys.length++x::o.kids.drop o.keys.length):=by
  rw[hlen,List.take_length,List.drop_length];exact oJ hall (DQ hx)
 clear h0 hall;refine loop (fun vs w'=>∃(i:Nat) (g:List UInt8) (y:Ob) (cs':List Value),vs=[.int .i64 i]∧i≤o.keys.length∧(∀m (h:m < o.keys.length),i≤m→Vl.less key o.keys[m]=true)∧OVs A W cs' (o.kids.take i++y::o.kids.drop i) ∧
   OwnS S0 w w' [obE b6 ob0 nilS nilS,obE b5 x xk xc,obE b3 o vk' vc',keyE vk' (o.keys.take i++g::o.keys.drop i),kidE vc' (o.kids.length+1) cs']) (fun vs _=>n0 vs)
  ⟨o.keys.length,key,x,_,rfl,Nat.le_refl _,fun m h hm=>by omega,hall1,ho⟩ ?_
 clear ho hall1;rintro vs w10 ⟨i,g,y,cs',rfl,hi,hgt,hall,ho⟩ _;simp only[nO,gd];have hkl:(o.keys.take i++g::o.keys.drop i).length=o.keys.length+1:=by simp;omega
 have hcl:(o.kids.take i++y::o.kids.drop i).length=o.kids.length+1:=by simp;omega
 -- the end of the loop
 have stop:(∀m (h:m < o.keys.length),m < i→Vl.less o.keys[m] key=true)→DoX prog (mIA 39 vk' (.int .i64 (i:Int))) w10 (pk K) (fun t61 w=>
 DoX prog (aD 9 t61 (.string ⟨key.toArray⟩)) w (pk K) fun _ w=>
 DoX prog (mFA 42 (.pointer (some ⟨b3,0,none⟩)) 5) w (pk K) fun t62 w=>
 DoX prog (aB 40 t62) w (pk K) fun t63 w=>
 DoX prog (aB 42 (.pointer (some ⟨b5,0,none⟩))) w (pk K) fun t65 w=>
 DoX prog (mIA 40 t63 (.int .i64 (i:Int))) w (pk K) fun t66 w=>
 DoX prog (aD 42 t66 t65) w (pk K) fun _ w=>
 DoX prog (aB 42 (.pointer (some ⟨b3,0,none⟩))) w (pk K) fun t67 w=>
 DoX prog (aD 42 (.pointer (some ⟨b6,0,none⟩)) t67) w (pk K) fun _ w=>
 RetX prog [.cell (.pointer (some ⟨b6,0,none⟩)) 42] w K):=by
  intro hlt;have hp:Vl.place o.keys key=i:=Vl.MM hi hlt fun h=>Vl.Hr (hgt i h (Nat.le_refl _));have hh:Vl.hit o.keys key=false:=by
   unfold Vl.hit;rw[hp,decide_eq_false_iff_not];exact fun h=>hn (List.mem_of_getElem? h)
  have hput:Vl.put o key x=.mk o.k o.n o.g o.s (o.keys.take i++key::o.keys.drop i) (o.kids.take i++x::o.kids.drop i):=by
   unfold Vl.put;rw[hp,hh];rfl
  refine PV 3 ho rfl (by omega) fun w11 ho=>?_;rw[Gp g _ hi] at ho;have ho:OwnS S0 w w11 [obE b6 ob0 nilS nilS,obE b5 x xk xc,obE b3 o vk' vc',keyE vk' (o.keys.take i++key::o.keys.drop i),kidE vc' (o.kids.length+1) cs']:=ho;rw[mH,cX ho 2 rfl,ob_v ho 1 rfl];refine Pq 4 ho rfl (by omega) hxa.1 hxa.2 fun w12 ho=>?_;have hset:=II hall hx i;rw[Gp y _ (by omega)] at hset;have ho:OwnS S0 w w12 [obE b6 ob0 nilS nilS,obE b5 x xk xc,obE b3 o vk' vc',keyE vk' (o.keys.take i++key::o.keys.drop i),kidE vc' (o.kids.length+1) (cs'.take (i*6)++obC x xk xc++cs'.drop (i*6+6))]:=ho;rw[ob_v ho 2 rfl];refine bA 0 hvk' hvc' ho rfl fun w13 ho=>?_;refine iW (bC (ho.agg 0 rfl eU)) (hK _ _ ⟨vk',vc',cs'.take (i*6)++obC x xk xc++cs'.drop (i*6+6),by rw[hput];rfl,by rw[hput];exact hset,?_⟩);have ho:=ho.tail.tail.tail;have el:(Vl.put o key x).kids.length=o.kids.length+1:=by rw[hput];show (o.kids.take i++x::o.kids.drop i).length=_;simp;omega
  rw[el,show (Vl.put o key x).keys=o.keys.take i++key::o.keys.drop i by rw[hput];rfl];subst hS;exact OwnS.back ho.pair
 rcases Nat.eq_zero_or_pos i with h0|h0
 ·subst h0;simp only[rs,show decide ((0:Int) < ((0:Nat):Int))=false by decide,g_un,nT,dN ho 2 rfl];exact stop fun m _ h=>by omega
 obtain⟨j,rfl⟩:∃j,i=j+1:=⟨i - 1,by omega⟩;have hj:(0:Int) < ((j+1:Nat):Int):=by omega
 obtain⟨gk,capk,hvke,ia1,ld1⟩:=key_row 3 ho rfl (j:=j) (by omega);rw[It g hi] at ld1;have hw1:IntKind.wrap .i64 (((j+1:Nat):Int) - 1)=(j:Int):=by rw[aC (by omega) (by omega)];omega
 have iaX:∀{PK K},DoX prog (mIA 39 vk' (.int .i64 (j:Int))) w10 PK K=K (.pointer (some ⟨gk,j,none⟩)) w10:=aT (ia1 w10);have ldX:∀{PK K},DoX prog (aB 9 (.pointer (some ⟨gk,j,none⟩))) w10 PK K=K (.string ⟨(o.keys[j]'(by omega)).toArray⟩) w10:=aT (ld1 w10 (ho.at_ 3 rfl));simp only[rs,hj,decide_true,nT,dN ho 2 rfl,hw1,iaX,ldX,PH,Bool.not_not];by_cases hl:Op.bytesLess key (o.keys[j]'(by omega))=true
 case neg=>
  simp only[Bool.not_eq_true] at hl;simp only[hl,i_f];refine stop fun m hm hmi=>?_;have hne:o.keys[j]≠key:=fun e=>hn (e▸List.getElem_mem (by omega));have h1:Vl.less o.keys[j] key=true:=Vl.Cx hl fun e=>hne e.symm;rcases Nat.lt_or_ge m j with h|h
  ·exact Vl.nY (Vl.BH hr h (by omega)) h1
  ·have:m=j:=by omega
   subst this;exact h1
 simp only[hl,i_t];refine quiet ?_;refine q_do _ (fun _=>aY Pe) (q_at _ (fun _ hb=>aM Js ((ho.grow hb).cell 2 rfl 4 rfl)) ?_);refine q_do _ (fun _=>aY Pe) (q_at _ (fun _ hb=>aM Js ((ho.grow hb).cell 2 rfl 4 rfl)) ?_);refine q_do (.int .i64 (j:Int)) (fun _=>by rw[RW,hw1]) ?_;refine q_do _ (fun w=>ia1 w) (q_at _ (fun _ hb=>ld1 _ ((ho.grow hb).at_ 3 rfl)) ?_);obtain⟨gk2,capk2,hvke2,ia2,_⟩:=key_row 3 ho rfl (j:=j+1) (by omega);have hg:gk2=gk:=by rw[hvke2] at hvke;injection hvke with h;injection h with h;injection h
 subst hg;refine q_do _ (fun w=>ia2 w) fun w11 hb=>?_;have ho:=ho.grow hb;subst hvke2;refine SL 3 ho rfl (by omega) fun w12 ho=>?_;rw[Bn g hi] at ho;have ho:OwnS S0 w w12 [obE b6 ob0 nilS nilS,obE b5 x xk xc,obE b3 o _ vc',keyE _ (o.keys.take j++o.keys[j]::o.keys.drop j),kidE vc' (o.kids.length+1) cs']:=ho;obtain⟨gc,capc,yk,yc,hvce,hy,ia3,ld3⟩:=kid_row 4 ho rfl hcl hall (j:=j) (by omega);obtain⟨gc2,capc2,_,_,hvce2,_,ia4,_⟩:=kid_row 4 ho rfl hcl hall (j:=j+1) (by omega);have hg2:gc2=gc:=by rw[hvce2] at hvce;injection hvce with h;injection h with h;injection h
 subst hg2;have hgk:(o.kids.take (j+1)++y::o.kids.drop (j+1))[j]'(by omega)=o.kids[j]'(by omega):=It y (by omega) (by omega);rw[hgk] at hy ld3;have hyo:yk.oneCell'=true∧yc.oneCell'=true:=by
  obtain⟨a,b,c,e,h⟩:=hy.open
  injection e with e
  have:=congrArg Array.toList e;simp[obC] at this;exact⟨by rw[this.1];exact h.keys.one,by rw[this.2];exact h.kids.one⟩
 refine quiet ?_;refine q_do _ (fun _=>aY Lt) (q_at _ (fun _ hb=>aM BO ((ho.grow hb).cell 2 rfl 5 rfl)) ?_);refine q_do _ (fun _=>aY Lt) (q_at _ (fun _ hb=>aM BO ((ho.grow hb).cell 2 rfl 5 rfl)) ?_);refine q_do (.int .i64 (j:Int)) (fun _=>by rw[RW,hw1]) ?_;refine q_do _ (fun w=>ia3 w) (q_at _ (fun _ hb=>ld3 _ ((ho.grow hb).at_ 4 rfl)) ?_);refine q_do _ (fun w=>ia4 w) fun w13 hb=>?_;have ho:=ho.grow hb;subst hvce2;refine SR 4 ho rfl (by omega) hyo.1 hyo.2 fun w14 ho=>?_;have hset:=II hall hy (j+1);rw[Bn y (by omega)] at hset;refine bG ⟨j,o.keys[j],o.kids[j],_,rfl,by omega,fun m hm hmi=>?_,hset,ho⟩ (by show Int.toNat (j:Int) < Int.toNat ((j+1:Nat):Int);omega);rcases Nat.lt_or_ge j m with h|h
 ·exact hgt m hm h
 ·have:m=j:=by omega
  subst this;exact hl
def ImgR (r:Cop×Int×Cs.Flt)(v:Value)(N:Mem):Prop:=∃u,v=.tuple #[u,.int .i64 r.2.1,fltV (r.2.2.at_,r.2.2.e)]∧OpOV N u r.1
abbrev imgL (b4 b6 b7:Nat)(o:Ob)(vk vc vm:Value)(met:List (List UInt8))(n:Nat)(cs:List Value)(N:Mem):List Ent:=[obE b7 o vk vc,fltE b6 (0,0),opE b4 Cs.op0 nilS,keyE vm met,keyE vk o.keys,kidE vc n cs,.mem N]
theorem Qb {W:World}{PK:PKT}{K:VWP}:DoX prog (aG 44 #[]) W PK K=K (opV Cs.op0 nilS) W:=aT (by kernel_rfl)
theorem Se {W:World}:(aG 26 #[]).run prog W=.ok (.value (fltV (0,0))) W:=by kernel_rfl
theorem Jy (s:List UInt8)(hs:s.length≤1000000000)(a:Int)(h0:0≤a)(h1:a≤s.length)(M:Mem)(w:World)(hM:M.has w) :
  RetM prog 21 #[.string ⟨s.toArray⟩,.int .i64 a] M w (ImgR (Cs.image s a)):=by
 rw[Cs.RE];generalize hR:Cs.imgE s (Cs.keys s (s.length+1) a Ps.aZ [])=R;refine uL hM fun K hK=>tP ?_;unfold fW;have ho:=(((OwnS.memS hM).nilU 42 6).nilU 9 1).nilU 9 1;refine JD ho fun b4 w0 ho=>?_;refine Ia ho fun b6 w1 ho=>?_;have hb6:∀{PK:PKT} {K:VWP},DoX prog (aG 42 #[(0,(.int .i64 7))]) w1 PK K=K (obV Ps.aZ nilS nilS) w1:=aT (by kernel_rfl);rw[hb6];refine bU ho fun b7 w2 ho=>?_;refine bA (o':=Ps.aZ) (vk':=nilS) (vc':=nilS) 0 rfl rfl ho rfl fun w3 ho=>?_;have ho:OwnS M.A w w3 (imgL b4 b6 b7 Ps.aZ nilS nilS nilS [] 0 [] M):=ho;refine loop (fun vs w'=>∃(a' z:Int) (m:Nat) (o:Ob) (met:List (List UInt8)) (cs:List Value) (vk vc vm:Value) (N:Mem),vs=[.int .i64 a',.int .i64 z,vm]∧0≤a'∧a'≤s.length∧(met.length:Int)≤a'∧met.length+m=s.length+1 ∧
   Cs.imgE s (Cs.keys s m a' o met)=R∧M.le N∧OVs N.A N.w cs o.kids∧DictS o met ∧
   OwnS M.A w w' (imgL b4 b6 b7 o vk vc vm met o.kids.length cs N)) (fun vs _=>s.length - n0 vs)
  ⟨a,0,s.length+1,Ps.aZ,[],[],nilS,nilS,nilS,M,rfl,h0,h1,by simpa using h0,by simp,hR,M.le_refl,OVs.nil,⟨rfl,List.Pairwise.nil,rfl,by simp[Ps.aZ,Ob.keys],by simp[Ps.aZ,Ob.kids]⟩,ho⟩ ?_
 clear ho hR;rintro vs w4 ⟨a',z,m,o,met,cs,vk,vc,vm,N,rfl,ha0,ha1,hla,hml,hdict,hle,hall,hds,ho⟩ _;simp only[kQ,gd];obtain⟨m,rfl⟩:∃k,m=k+1:=⟨m - 1,by omega⟩;refine c_eq (Cf s a' w4 (by omega)) ?_;refine Bw ho (mR s a' w4 (by omega)) fun b10 w5 ho=>?_;have hvk:=bJ (ho.at_ 5 rfl);have hvc:=bJ (ho.at_ 6 rfl);have hbd:=@Lx.bV s a';have hge:=Lx.cO s a'.toNat;have hmid:=@Cs.QT s m a' o met;have hskI:Lx.eM s a'=((Lx.skip s a'.toNat:Nat):Int):=by unfold Lx.eM;rw[if_neg (by omega)]
 rw[Cs.keys] at hdict;have hmid2:(Lx.next s a').2=0→(Lx.next s a').1.k=4→(Lx.next s a').1.s ∉ met→met.length≠8191→Cs.imgE s (if Cs.midE s (Lx.next s a').1.t≠0 then (Vl.ob0,0,⟨Lx.eM s (Lx.next s a').1.t,Cs.midE s (Lx.next s a').1.t⟩)
   else Cs.keys s m (Ps.object s (Lx.next s a').1.t).2.1 (Ps.join o (Lx.next s a').1.s (Ps.object s (Lx.next s a').1.t).1) (met++[(Lx.next s a').1.s]))=R:=by
  intro g1 g2 g3 g4;rw[←hmid g1 g2 g3 g4,Cs.keys];exact hdict
 clear hmid;generalize Lx.next s a'=x at *
 -- an error ends the loop
 have fail:∀{W:World} {L:List Ent} {N':Mem} (i j k:Nat) (f:Cs.Flt) {o:Cop} {va:Value},OwnS M.A w W L→L[i]?=some (opE b4 o va)→L[j]?=some (fltE b6 (0,0))→L[k]?=some (.mem N')→(∀x,(L.set i x)[j]?=some (fltE b6 (0,0)))→(∀x y,((L.set i x).set j y)[k]?=some (.mem N'))→(∀x y,((L.set i x).set j y)[i]?=some x)→(∀x y,((L.set i x).set j y)[j]?=some y)→M.le N'→Cs.imgE s (Vl.ob0,0,f)=R→f.e≠0 →
   CallX prog 19 #[.int .i64 f.at_,.int .i64 f.e] W (pk K) (fun t W=>DoX prog (aD 44 (.pointer (some ⟨b4,0,none⟩)) (opV Cs.op0 nilS)) W (pk K) fun _ W=>DoX prog (aD 26 (.pointer (some ⟨b6,0,none⟩)) t) W (pk K) fun _ W=>
    RetX prog [.cell (.pointer (some ⟨b4,0,none⟩)) 44,.val (.int .i64 0),.cell (.pointer (some ⟨b6,0,none⟩)) 26] W K):=by
  intro W L N' i j k f o va ho hi hj hk hj2 hk2 hi3 hj3 hle he h0;refine aS ho (R:=fun v=>v=fltV (f.at_,f.e)) (Hq f.at_ f.e W) ?_;rintro _ w' rfl ho;refine zF (o':=Cs.op0) (va':=nilS) i rfl ho hi fun w2 ho=>?_;refine jT (g:=(f.at_,f.e)) j ho (hj2 _) fun w3 ho=>?_;refine BA (bC (ho.agg i (hi3 _ _) KQ)) dR (bC (ho.agg j (hj3 _ _) mF)) (hK _ _ N' _ k ho (hk2 _ _) hle ?_);rw[Cs.imgE,if_pos h0] at he;subst he;exact⟨_,rfl,nilS,[],rfl,SlA.nil _ _ _ _,OVs.nil⟩
 have ho:OwnS M.A w w5 (tokE b10 x.1::imgL b4 b6 b7 o vk vc vm met o.kids.length cs N):=ho;simp only[rs,Qb];by_cases e1:x.2=0
 case neg=>
  rw[if_pos e1] at hdict;simp only[e1,ne_eq,not_false_eq_true,decide_true,rs];exact fail 3 2 7 ⟨Lx.eM s a',x.2⟩ ho rfl rfl rfl (fun _=>rfl) (fun _ _=>rfl) (fun _ _=>rfl) (fun _ _=>rfl) hle hdict e1
 rw[if_neg (by rw[e1];simp)] at hdict;simp only[e1,ne_eq,not_true,decide_false,rs,cS,tk_k ho 0 rfl];by_cases e2:x.1.k=0
 ·rw[if_pos e2] at hdict;simp only[decide_eq_true e2,rs,bD Tryz.underlying9];exact fail 3 2 7 ⟨s.length,4⟩ ho rfl rfl rfl (fun _=>rfl) (fun _ _=>rfl) (fun _ _=>rfl) (fun _ _=>rfl) hle hdict (show (4:Int)≠0 by decide)
 rw[if_neg e2] at hdict;have hb:=hbd e1 e2;have hxa:Lx.eM s a'=x.1.a:=by rw[hskI];exact hb.2.2.1.symm
 rw[hxa];simp only[decide_eq_false e2,i_f,cS,tk_k ho 0 rfl,rs];by_cases e3:x.1.k=5∧x.1.s=[73,68]
 ·rw[if_pos (show x.1.k=5∧x.1.s=Cs.idW from e3)] at hdict;simp only[decide_eq_true e3.1,rs,bK,tk_s ho 0 rfl,decide_eq_true e3.2,xH,tk_t ho 0 rfl,bD Tryz.underlying9];have hwf:¬((s.length:Int)≤x.1.t)→Cs.lE s x.1.t=(s[x.1.t.toNat]?).any Oc.gE:=fun _=>by unfold Cs.lE;rw[decide_eq_true (by omega),Bool.true_and]
  by_cases hlt:(s.length:Int)≤x.1.t
  ·have hw:Cs.lE s x.1.t=false:=by
    unfold Cs.lE;rw[List.getElem?_eq_none (by omega)];simp
   simp only[decide_eq_true hlt,rs,g_un];rw[Cs.imgE,if_neg (show ¬(Cs.ok.e≠0) by decide),if_pos hw] at hdict;exact fail 3 2 7 ⟨x.1.t,3⟩ ho rfl rfl rfl (fun _=>rfl) (fun _ _=>rfl) (fun _ _=>rfl) (fun _ _=>rfl) hle (by rw[Cs.imgE,if_pos (show (3:Int)≠0 by decide)];exact hdict) (show (3:Int)≠0 by decide)
  have hi:x.1.t.toNat < s.length:=by omega
  have hwf:=hwf hlt;rw[List.getElem?_eq_getElem hi] at hwf;have hwf:Cs.lE s x.1.t=Oc.gE s[x.1.t.toNat]:=hwf;simp only[decide_eq_false hlt,rs];rw[s_ix (c:=s[x.1.t.toNat]) Tryz.underlying9 (by omega) (by simp[hi])];refine c_eq (nX s[x.1.t.toNat] w5) ?_;cases hw:Oc.gE s[x.1.t.toNat] with
 |false=>
   rw[hw] at hwf;simp only[rs,Bool.not_false];rw[Cs.imgE,if_neg (show ¬(Cs.ok.e≠0) by decide),if_pos hwf] at hdict;exact fail 3 2 7 ⟨x.1.t,3⟩ ho rfl rfl rfl (fun _=>rfl) (fun _ _=>rfl) (fun _ _=>rfl) (fun _ _=>rfl) hle (by rw[Cs.imgE,if_pos (show (3:Int)≠0 by decide)];exact hdict) (show (3:Int)≠0 by decide)
 |true=>
  rw[hw] at hwf;simp only[rs,Bool.not_true];rw[Cs.imgE,if_neg (show ¬(Cs.ok.e≠0) by decide),if_neg (by simp[hwf])] at hdict;rw[aC (by omega) (by omega)];generalize hF:Cs.BD s (s.length+1) (x.1.t.toNat+1)=F at hdict;refine loop (fun vs w'=>∃(i m:Nat),vs=[.int .i64 z,.int .i64 (i:Int)]∧x.1.t+1≤i∧i≤s.length∧s.length+1≤i+m∧F=Cs.BD s m i∧OwnS M.A w w' (tokE b10 x.1::imgL b4 b6 b7 o vk vc vm met o.kids.length cs N)) (fun vs _=>s.length - n1 vs)
   ⟨x.1.t.toNat+1,s.length+1,by rw[show ((x.1.t.toNat+1:Nat):Int)=x.1.t+1 by omega],by omega,by omega,by omega,hF.symm,ho⟩ ?_
  clear ho;rintro vs w6 ⟨i,m2,rfl,hi1,hi2,him,hf,ho⟩ _;simp only[kJ,gd,bD Tryz.underlying9,rs];obtain⟨m2,rfl⟩:∃k,m2=k+1:=⟨m2 - 1,by omega⟩;rw[Cs.BD] at hf;by_cases hlt2:(i:Int) < (s.length:Int)
  ·have hi':i < s.length:=by omega
   rw[if_neg (by omega)] at hf;simp only[decide_eq_true hlt2,i_t];refine c_eq (M8 s i w6 hi' (by omega)) ?_;cases he:Cs.ends s i with
  |false=>
    rw[he,if_neg (by simp)] at hf;simp only[i_f,rs];rw[aC (by omega) (by omega)];exact bG ⟨i+1,m2,rfl,by omega,by omega,by omega,hf,ho⟩ (by simp[n1,RowKit.intOf];omega)
  |true=>
    rw[he,if_pos rfl] at hf;rw[hf] at hdict;simp only at hdict;simp only[i_t];have ho:=ho.drew;refine⟨fun W=>(obE b7 o vk vc).is W,ho.at_ 1 rfl,?_⟩;refine iB (obV o vk vc) (fun W h=>bL (AtV.agg eU (cs:=obC o vk vc) rfl fun j u hj=>by rw[Nat.zero_add];exact aU (T:=42) h hj)) ?_;refine aR (.int .i64 (x.1.t+1)) (fun Wx=>?_) ?_
    ·have:=Eg (P:=prog) (w:=Wx) (T:=3) (k:=.i64) (a:=x.1.t) (b:=1);rw[aC (by omega) (by omega)] at this;exact this
    refine aR (.string ⟨((s.drop (x.1.t.toNat+1)).take (i - (x.1.t.toNat+1))).toArray⟩) (fun Wx=>?_) ?_
    ·have:=sW (P:=prog) (w:=Wx) (T:=9) (a:=s) (k:=.i64) (k':=.i64) (lo:=x.1.t+1) (hi:=(i:Int)) Tryz.underlying9 (by omega) (by omega) (by omega);rw[show (x.1.t+1).toNat=x.1.t.toNat+1 by omega,Int.toNat_natCast] at this;exact this
    refine aR (.int .i64 ((i:Int)+3)) (fun Wx=>?_) ?_
    ·have:=Eg (P:=prog) (w:=Wx) (T:=3) (k:=.i64) (a:=(i:Int)) (b:=3);rw[aC (by omega) (by omega)] at this;exact this
    refine aR _ (fun _=>Se) ?_;refine AF o hvk hvc ho fun nb w8 ho=>?_;refine aR _ (fun _=>Px _ rfl _) ?_;refine zF (o':=⟨Cs.biW,[o],(s.drop (x.1.t.toNat+1)).take (i - (x.1.t.toNat+1))⟩) (va':=.slice (some ⟨nb,0,none⟩) 1 1) 4 rfl ho rfl fun w9 ho=>?_;refine jT (f:=(0,0)) (g:=(0,0)) 3 ho rfl fun w10 ho=>?_;refine BA (bC (ho.agg 4 rfl KQ)) dR (bC (ho.agg 3 rfl mF)) ?_;have ho:OwnS M.A w w10 ([obE nb o vk vc,tokE b10 x.1,obE b7 o vk vc,fltE b6 (0,0),opE b4 ⟨Cs.biW,[o],(s.drop (x.1.t.toNat+1)).take (i - (x.1.t.toNat+1))⟩ (.slice (some ⟨nb,0,none⟩) 1 1),keyE vm met]++([keyE vk o.keys,kidE vc o.kids.length cs]++[.mem N])):=ho;have ho:=ho.front;obtain⟨N2,hle2,hrow,ho⟩:=OwnS.eT (L:=kidE vc o.kids.length cs::([obE nb o vk vc,tokE b10 x.1,obE b7 o vk vc,fltE b6 (0,0),opE b4 ⟨Cs.biW,[o],(s.drop (x.1.t.toNat+1)).take (i - (x.1.t.toNat+1))⟩ (.slice (some ⟨nb,0,none⟩) 1 1),keyE vm met]++[.mem N])) ho 7 rfl;obtain⟨N3,hle3,hrow3,ho⟩:=OwnS.eT (L:=[obE nb o vk vc,tokE b10 x.1,obE b7 o vk vc,fltE b6 (0,0),opE b4 ⟨Cs.biW,[o],(s.drop (x.1.t.toNat+1)).take (i - (x.1.t.toNat+1))⟩ (.slice (some ⟨nb,0,none⟩) 1 1),keyE vm met,.mem N2]) ho 6 rfl;have ho:OwnS M.A w w10 (obE nb o vk vc::[tokE b10 x.1,obE b7 o vk vc,fltE b6 (0,0),opE b4 ⟨Cs.biW,[o],(s.drop (x.1.t.toNat+1)).take (i - (x.1.t.toNat+1))⟩ (.slice (some ⟨nb,0,none⟩) 1 1),keyE vm met,.mem N3]):=ho;have ho:=ho.toU 6 1 1 (by rfl) (by omega) (by omega);obtain⟨N4,hle4,hrow4,ho⟩:=OwnS.eT (L:=[tokE b10 x.1,obE b7 o vk vc,fltE b6 (0,0),opE b4 ⟨Cs.biW,[o],(s.drop (x.1.t.toNat+1)).take (i - (x.1.t.toNat+1))⟩ (.slice (some ⟨nb,0,none⟩) 1 1),keyE vm met,.mem N3]) ho 5 rfl;have hobj:OV N3.A N3.w (obV o vk vc) o:=ObAt.ov ⟨hrow.le hle3,hrow3,(hall.le hle2).le hle3⟩;refine hK _ _ N4 _ 5 ho rfl (((hle.trans hle2).trans hle3).trans hle4) ?_;subst hdict;exact⟨_,rfl,_,_,rfl,hrow4,DQ (hobj.le hle4)⟩
  ·rw[if_pos (by omega)] at hf;rw[hf] at hdict;simp only at hdict;simp only[decide_eq_false hlt2,i_f,rs,Qb];exact fail 3 2 7 ⟨s.length,4⟩ ho rfl rfl rfl (fun _=>rfl) (fun _ _=>rfl) (fun _ _=>rfl) (fun _ _=>rfl) hle (by rw[Cs.imgE,if_pos (show (4:Int)≠0 by decide)];exact hdict) (show (4:Int)≠0 by decide)
 rw[if_neg (show ¬(x.1.k=5∧x.1.s=Cs.idW) from e3)] at hdict;by_cases e5:x.1.k=5
 ·rw[if_pos (by omega)] at hdict;simp only[decide_eq_true e5,rs,bK,tk_s ho 0 rfl,decide_eq_false (fun h=>e3 ⟨e5,h⟩),cS,tk_k ho 0 rfl,decide_eq_true (show x.1.k≠4 by omega)];exact fail 3 2 7 ⟨x.1.a,3⟩ ho rfl rfl rfl (fun _=>rfl) (fun _ _=>rfl) (fun _ _=>rfl) (fun _ _=>rfl) hle hdict (show (3:Int)≠0 by decide)
 simp only[decide_eq_false e5,rs,g_un,cS,tk_k ho 0 rfl];by_cases e4:x.1.k=4
 case neg=>
  rw[if_pos e4] at hdict;simp only[ne_eq,e4,not_false_eq_true,decide_true,i_t];exact fail 3 2 7 ⟨x.1.a,3⟩ ho rfl rfl rfl (fun _=>rfl) (fun _ _=>rfl) (fun _ _=>rfl) (fun _ _=>rfl) hle hdict (show (3:Int)≠0 by decide)
 rw[if_neg (by simp[e4])] at hdict;have hmid2:=hmid2 e1 e4;simp only[e4,ne_eq,not_true,decide_false,i_f];refine loop (fun vs w'=>∃i:Nat,vs=[.int .i64 z,.int .i64 i]∧i≤met.length∧(∀j (h:j < met.length),j < i→met[j]≠x.1.s)∧OwnS M.A w w' (tokE b10 x.1::imgL b4 b6 b7 o vk vc vm met o.kids.length cs N)) (fun vs _=>met.length - n1 vs) ⟨0,rfl,by omega,fun j _ h=>by omega,ho⟩ ?_;clear ho;rintro vs w6 ⟨i,rfl,hi,hne,ho⟩ _;simp only[kL,gd];rw[bF Tryz.underlying39 (ho.slU 4 rfl)];simp only[rs];by_cases hlt:(i:Int) < (met.length:Int)
 ·have hi':i < met.length:=by omega
  simp only[decide_eq_true hlt,i_t];obtain⟨g,cap,_,ia,ld⟩:=key_row 4 ho rfl hi';refine quiet ?_;refine q_do _ (fun w=>ia w) (q_at _ (fun _ hb=>ld _ ((ho.grow hb).at_ 4 rfl)) (q_do _ (fun _=>aY ft4) (q_at _ (fun _ hb=>TR (ho.grow hb) 0 rfl) (TV ?_))));intro w7 hbw;have ho:=ho.grow hbw;by_cases he:met[i]=x.1.s
  ·rw[if_pos (show x.1.s∈met from he▸List.getElem_mem hi')] at hdict;simp only[decide_eq_true he,i_t,Qb];exact fail 3 2 7 ⟨x.1.a,9⟩ ho rfl rfl rfl (fun _=>rfl) (fun _ _=>rfl) (fun _ _=>rfl) (fun _ _=>rfl) hle hdict (show (9:Int)≠0 by decide)
  ·simp only[decide_eq_false he,i_f,rs];rw[aC (by omega) (by omega)];refine bG ⟨i+1,rfl,by omega,fun j hj hji=>?_,ho⟩ (by simp[n1,RowKit.intOf];omega);rcases Nat.lt_or_ge j i with h|h
   ·exact hne j hj h
   ·have:j=i:=by omega
    subst this;exact he
 have hi':i=met.length:=by omega
 simp only[decide_eq_false hlt,i_f];rw[bF Tryz.underlying39 (ho.slU 4 rfl)];simp only[rs];have hnm:x.1.s ∉ met:=fun h=>by
  obtain⟨j,hj,he⟩:=List.getElem_of_mem h;exact hne j hj (by omega) he
 rw[if_neg hnm] at hdict;by_cases e6:met.length=8191
 ·rw[if_pos e6] at hdict;simp only[show (met.length:Int)=8191 by omega,decide_true,i_t,Qb];exact fail 3 2 7 ⟨x.1.a,6⟩ ho rfl rfl rfl (fun _=>rfl) (fun _ _=>rfl) (fun _ _=>rfl) (fun _ _=>rfl) hle hdict (show (6:Int)≠0 by decide)
 clear hdict;have hdict:=hmid2 hnm e6;clear hmid2;simp only[decide_eq_false (show ¬(met.length:Int)=8191 by omega),i_f,bK,tk_s ho 0 rfl];refine qJ x.1.s ho fun nb w7 ho=>?_;refine F8 5 ho rfl (ho.sl 0 rfl 1 1 1 rfl) (by simp[Value.oneCell']) (by omega) fun vm' w8 ho=>?_;have ho:=ho.tail;have ho:OwnS M.A w w8 (tokE b10 x.1::imgL b4 b6 b7 o vk vc vm' (met++[x.1.s]) o.kids.length cs N):=by
  have e:bR (met++[x.1.s])=bR met++[.string ⟨x.1.s.toArray⟩]:=by rw[oH];rfl
  unfold imgL;rw[keyE,List.length_append,List.length_singleton,e];exact ho
 rw[xH,tk_t ho 0 rfl];refine c_eq (Cf s x.1.t w8 (by omega)) ?_;simp only[xH,tk_t ho 0 rfl];refine DP ho 7 rfl (B4 s x.1.t hs N w8 (ho.hasM 7 rfl)) ?_;rintro _ N2 w9 hle2 ⟨u,rfl,hu⟩ ho;have hb2:(Ps.object s x.1.t).2.2=0→x.1.t < (Ps.object s x.1.t).2.1∧(Ps.object s x.1.t).2.1≤s.length:=fun h=>Bd.gC h;have hwt:(Ps.object s x.1.t).2.2=0→(Ps.object s x.1.t).1.wt≤10000000000:=fun h=>by
  have:=Ps.nW h;have:=Bd.gC h;omega
 have hm1:Cs.midE s x.1.t=if Cs.refE s x.1.t=0∧Cs.depth (Ps.object s x.1.t).1=24 then 7 else Cs.refE s x.1.t:=rfl
 have hm2:Cs.refE s x.1.t=if (Ps.object s x.1.t).2.2=0∧Cs.bQ (Ps.object s x.1.t).1=true then 3 else (Ps.object s x.1.t).2.2:=rfl
 have hm0:Cs.midE s x.1.t=0→(Ps.object s x.1.t).2.2=0:=by
  intro h;rw[hm1] at h;split at h
  ·simp at h
  ·rw[hm2] at h;split at h
   ·simp at h
   ·exact h
 generalize Cs.midE s x.1.t=E at *;generalize Cs.refE s x.1.t=E1 at *;generalize Ps.object s x.1.t=e at *;obtain⟨xk,xc,xcs,rfl,hx⟩:=hu.open;simp only[ex];refine bU ho fun b13 w10 ho=>?_;refine bA 0 hx.keys.one hx.kids.one ho rfl fun w11 ho=>?_;have ho:OwnS M.A w w11 (obE b13 e.1 xk xc::tokE b10 x.1::imgL b4 b6 b7 o vk vc vm' (met++[x.1.s]) o.kids.length cs N2):=ho;have hds2:=Hn (v:=e.1) hds hnm
 -- the second test and what follows
 have end3:∀{W:World},OwnS M.A w W (obE b13 e.1 xk xc::tokE b10 x.1::imgL b4 b6 b7 o vk vc vm' (met++[x.1.s]) o.kids.length cs N2)→∀{Z:List Value→World→Prop},(∀{W:World} {vk' vc':Value} {cs':List Value},E=0→OVs N2.A N2.w cs' (Ps.join o x.1.s e.1).kids→OwnS M.A w W (imgL b4 b6 b7 (Ps.join o x.1.s e.1) vk' vc' vm' (met++[x.1.s]) (Ps.join o x.1.s e.1).kids.length cs' N2)→Z [.int .i64 e.2.1,.int .i64 z,vm'] W) →
   eI (.pointer (some ⟨b4,0,none⟩)) (.int .i64 z) (.pointer (some ⟨b6,0,none⟩)) (.pointer (some ⟨b7,0,none⟩)) vm' (.int .i64 (Lx.eM s x.1.t)) (.pointer (some ⟨b10,0,none⟩)) (.int .i64 E1) (.pointer (some ⟨b13,0,none⟩)) (.int .i64 e.2.1) W Z K:=by
  intro W ho Z hZ;unfold eI;refine join fun J hJ=>?_;have end4:∀{W:World},OwnS M.A w W (obE b13 e.1 xk xc::tokE b10 x.1::imgL b4 b6 b7 o vk vc vm' (met++[x.1.s]) o.kids.length cs N2)→J [.int .i64 E] W:=by
   intro W ho;refine hJ _ _ fun _=>?_;simp only[kM,gd,rs,Qb];by_cases hE:E=0
   case neg=>
    rw[if_pos hE] at hdict;simp only[ne_eq,hE,not_false_eq_true,decide_true,i_t];exact fail 4 3 8 ⟨Lx.eM s x.1.t,E⟩ ho rfl rfl rfl (fun _=>rfl) (fun _ _=>rfl) (fun _ _=>rfl) (fun _ _=>rfl) (hle.trans hle2) hdict hE
   simp only[hE,ne_eq,not_true,decide_false,i_f];refine join fun J8 hJ8=>?_;have fin:∀{W:World} {vk' vc':Value} {cs':List Value},OVs N2.A N2.w cs' (Ps.join o x.1.s e.1).kids→OwnS M.A w W (imgL b4 b6 b7 (Ps.join o x.1.s e.1) vk' vc' vm' (met++[x.1.s]) (Ps.join o x.1.s e.1).kids.length cs' N2)→J8 [] W:=by
    intro W vk' vc' cs' hov ho;refine hJ8 _ _ fun _=>?_;unfold kK;exact hZ hE hov ho
   rw[oG,ob_k ho 0 rfl];simp only[rs];by_cases hk:e.1.k=0
   ·simp only[hk,ne_eq,not_true,decide_false,i_f];have ej:Ps.join o x.1.s e.1=o:=by unfold Ps.join;rw[if_neg (by rw[hk];simp)]
    rw[ej] at fin;exact fin (hall.le hle2) ho.tail.tail
   simp only[ne_eq,hk,not_false_eq_true,decide_true,i_t];have ej:Ps.join o x.1.s e.1=Vl.put o x.1.s e.1:=by unfold Ps.join;rw[if_pos hk]
   rw[ej] at fin;rw[ob_v ho 2 rfl,bK,tk_s ho 1 rfl,ob_v ho 0 rfl];have ho:OwnS M.A w W ([obE b13 e.1 xk xc,tokE b10 x.1,obE b7 o vk vc,fltE b6 (0,0),opE b4 Cs.op0 nilS,keyE vm' (met++[x.1.s])]++([keyE vk o.keys,kidE vc o.kids.length cs]++[.mem N2])):=ho;have ho:=OwnS.pair ho.front;refine dV (MX o e.1 vk vc xk xc cs x.1.s N2.A N2.w W hds.len (hall.le hle2) hx.ov (by have:=hds.few;omega) hds.rise (fun h=>hnm (hds.sub _ h)) (ho.at_ 0 rfl)) ?_;rintro _ w12 ⟨vk',vc',cs',rfl,hov,ht⟩;have ho:=(ho.turn 0 rfl ht).split;have ho:OwnS M.A w w12 ([keyE vk' (Vl.put o x.1.s e.1).keys,kidE vc' (Vl.put o x.1.s e.1).kids.length cs']++([obE b13 e.1 xk xc,tokE b10 x.1,obE b7 o vk vc,fltE b6 (0,0),opE b4 Cs.op0 nilS,keyE vm' (met++[x.1.s])]++[.mem N2])):=ho;have hvk':=bJ (ho.at_ 0 rfl);have hvc':=bJ (ho.at_ 1 rfl);have ho:=ho.front;refine bA (o':=Vl.put o x.1.s e.1) 2 hvk' hvc' ho rfl fun w13 ho=>?_;exact fin hov ho.tail.tail
  simp only[rs];by_cases g1:E1=0
  ·have he0:e.2.2=0:=by
    rw[g1] at hm2;split at hm2
    ·simp at hm2
    ·exact hm2.symm
   simp only[decide_eq_true g1,rs,ob_v ho 0 rfl];refine aS ho (R:=fun v=>v=.int .i64 (Cs.depth e.1:Nat)) (Oh _ e.1 _ W (Nat.le_refl _) (hwt he0) (OV.inw (ho.hasM 8 rfl) hx.ov)) ?_;rintro _ w12 rfl ho
   try simp only[rs]
   by_cases g2:Cs.depth e.1=24
   ·have g2':((Cs.depth e.1:Nat):Int)=24:=by omega
    simp only[decide_eq_true g2',i_t];rw[if_pos ⟨g1,g2⟩] at hm1;have:=end4 ho;rw[hm1] at this;exact this
   ·have g2':¬((Cs.depth e.1:Nat):Int)=24:=by omega
    simp only[decide_eq_false g2',i_f];rw[if_neg (fun h=>g2 h.2)] at hm1;have:=end4 ho;rw[hm1] at this;exact this
  ·simp only[decide_eq_false g1,rs,g_un];rw[if_neg (fun h=>g1 h.1)] at hm1;have:=end4 ho;rw[hm1] at this;exact this
 refine join fun J hJ=>?_;have go3:∀{W:World},OwnS M.A w W (obE b13 e.1 xk xc::tokE b10 x.1::imgL b4 b6 b7 o vk vc vm' (met++[x.1.s]) o.kids.length cs N2)→J [.int .i64 E1] W:=by
  intro W ho;refine hJ _ _ fun _=>?_;simp only[gd];refine end3 ho fun hE hov ho=>?_;rw[if_neg (by simp[hE])] at hdict;have hb2:=hb2 (hm0 hE);exact bG ⟨e.2.1,z,m,Ps.join o x.1.s e.1,met++[x.1.s],_,_,_,vm',N2,rfl,by omega,hb2.2,by simp;omega,by simp;omega,hdict,hle.trans hle2,hov,hds2,ho⟩ (by show s.length - Int.toNat e.2.1 < s.length - Int.toNat a';omega)
 simp only[rs];by_cases g1:e.2.2=0
 ·simp only[decide_eq_true g1,rs,ob_v ho 0 rfl];refine aS ho (R:=fun v=>v=.bool (Cs.bQ e.1)) (Kn _ e.1 _ w11 (Nat.le_refl _) (hwt g1) (OV.inw (ho.hasM 8 rfl) hx.ov)) ?_;rintro _ w12 rfl ho
  try simp only[rs]
  cases g2:Cs.bQ e.1 with
 |true=>
   simp only[i_t];rw[if_pos ⟨g1,g2⟩] at hm2;have:=go3 ho;rw[hm2] at this;exact this
 |false=>
   simp only[i_f];rw[if_neg (fun h=>by rw[g2] at h;exact absurd h.2 (by decide))] at hm2;have:=go3 ho;rw[hm2] at this;exact this
 ·simp only[decide_eq_false g1,rs,g_un];rw[if_neg (fun h=>g1 h.1)] at hm2;have:=go3 ho;rw[hm2] at this;exact this
end
section
open Eng Go.RowKit
namespace Cs
open Lx (next)
def argE (s:List UInt8)(t:Int)(n:Nat):Int:=if refE s t=0∧n=32 then 6 else refE s t
end Cs
abbrev rdL (b3:Nat)(va vl:Value)(n:Nat)(ac:List Value)(l:Nat)(oc:List Value)(N:Mem):List Ent:=[.urow 42 6 va n ac,.urow 44 3 vl l oc,fltE b3 (0,0),.mem N]
theorem Lf (s:List UInt8)(hs:s.length≤1000000000)(M:Mem)(w:World)(hM:M.has w) :
  RetM prog 9 #[.string ⟨s.toArray⟩] M w (fun v N=>∃vl,v=.tuple #[vl,fltV ((Cs.read s).2.at_,(Cs.read s).2.e)]∧OpsV N.A N.w vl (Cs.read s).1):=by
 generalize hR:Cs.read s=R;refine uL hM fun K hK=>wD ?_;unfold iP;refine Ia (OwnS.memS hM) fun b3 w1 ho=>?_;have ho:=(ho.nilU 44 3).nilU 42 6;refine loop (fun vs w'=>∃(a':Int) (m:Nat) (l:List Cop) (args:List Ob) (va vl z:Value) (oc ac:List Value) (N:Mem),vs=[z,vl,va,.int .i64 a']∧0≤a'∧a'≤s.length∧(s.length:Int)+1≤a'+m∧(l.length:Int)≤a'∧args.length≤32∧l.length≤8191 ∧
   Cs.jV s m a' l args=R∧M.le N∧PVs N.A N.w oc l∧OVs N.A N.w ac args∧OwnS M.A w w' (rdL b3 va vl args.length ac l.length oc N)) (fun vs _=>s.length - (RowKit.intOf (vs.getD 3 undef)).toNat)
  ⟨0,s.length+1,[],[],nilS,nilS,nilS,[],[],M,rfl,by omega,by omega,by omega,by simp,by simp,by simp,hR,M.le_refl,.nil,OVs.nil,ho⟩ ?_
 clear ho hR;rintro vs w4 ⟨a',m,l,args,va,vl,z,oc,ac,N,rfl,ha0,ha1,hml,hla,hal,hll,hdict,hle,hpv,hov,ho⟩ _;simp only[mN,gd];obtain⟨m,rfl⟩:∃k,m=k+1:=⟨m - 1,by omega⟩;refine c_eq (Cf s a' w4 (by omega)) ?_;refine Bw ho (mR s a' w4 (by omega)) fun b8 w5 ho=>?_;have hva:=bJ (ho.at_ 1 rfl);have hbd:=@Lx.bV s a';have hge:=Lx.cO s a'.toNat;have hskI:Lx.eM s a'=((Lx.skip s a'.toNat:Nat):Int):=by unfold Lx.eM;rw[if_neg (by omega)]
 rw[Cs.jV] at hdict;have hopb:=@Cs.AW s a' l.length args;generalize Lx.next s a'=x at *
 -- an error ends the loop
 have fail:∀{W:World} {L:List Ent} {N':Mem} (j k:Nat) (f:Cs.Flt),OwnS M.A w W L→L[j]?=some (fltE b3 (0,0))→L[k]?=some (.mem N')→(∀y,(L.set j y)[k]?=some (.mem N'))→(∀y,(L.set j y)[j]?=some y)→M.le N'→R=([],f) →
   CallX prog 19 #[.int .i64 f.at_,.int .i64 f.e] W (pk K) (fun t W=>DoX prog (aD 26 (.pointer (some ⟨b3,0,none⟩)) t) W (pk K) fun _ W=>
    RetX prog [.val (.slice none 0 0),.cell (.pointer (some ⟨b3,0,none⟩)) 26] W K):=by
  intro W L N' j k f ho hj hk hk2 hj3 hle he;refine aS ho (R:=fun v=>v=fltV (f.at_,f.e)) (Hq f.at_ f.e W) ?_;rintro _ w' rfl ho;refine jT (g:=(f.at_,f.e)) j ho hj fun w3 ho=>?_;refine uU dR (bC (ho.agg j (hj3 _) mF)) (hK _ _ N' _ k ho (hk2 _) hle ?_);subst he;exact⟨nilS,rfl,OpsV.nil _ _⟩
 have ho:OwnS M.A w w5 (tokE b8 x.1::rdL b3 va vl args.length ac l.length oc N):=ho;simp only[rs];by_cases e1:x.2=0
 case neg=>
  rw[if_pos e1] at hdict;simp only[e1,ne_eq,not_false_eq_true,decide_true,rs];exact fail 3 4 ⟨Lx.eM s a',x.2⟩ ho rfl rfl (fun _=>rfl) (fun _=>rfl) hle hdict.symm
 rw[if_neg (by rw[e1];simp)] at hdict;simp only[e1,ne_eq,not_true,decide_false,rs,cS,tk_k ho 0 rfl];by_cases e2:x.1.k=0
 ·rw[if_pos e2] at hdict;simp only[decide_eq_true e2,i_t];rw[bF Tryz.underlying40 (ho.slU 1 rfl)];simp only[rs];by_cases hl:args=[]
  ·rw[if_neg (by simp[hl])] at hdict;subst hl;simp only[List.length_nil,show decide ((0:Int) < ((0:Nat):Int))=false by decide,i_f];have hb0:∀{PK:PKT} {K:VWP},DoX prog (aG 26 #[]) w5 PK K=K (fltV (0,0)) w5:=aT (by kernel_rfl);rw[hb0];refine jT (f:=(0,0)) (g:=(0,0)) 3 ho rfl fun w8 ho=>?_;refine uU dR (bC (ho.agg 3 rfl mF)) ?_;have ho:OwnS M.A w w8 ([tokE b8 x.1,.urow 42 6 va 0 ac]++([.urow 44 3 vl l.length oc]++[fltE b3 (0,0),.mem N])):=ho;have ho:OwnS M.A w w8 (.urow 44 3 vl l.length oc::[tokE b8 x.1,.urow 42 6 va 0 ac,fltE b3 (0,0),.mem N]):=ho.front;obtain⟨N2,hle2,hrow,ho⟩:=OwnS.eT (L:=[tokE b8 x.1,.urow 42 6 va 0 ac,fltE b3 (0,0),.mem N]) ho 3 rfl;refine hK _ _ N2 _ 3 ho rfl (hle.trans hle2) ?_;subst hdict;exact⟨vl,rfl,oc,hrow,PVs.le hle2 hpv⟩
  ·rw[if_pos hl] at hdict;have hpos:(0:Int) < (args.length:Int):=by have:=List.length_pos_iff.2 hl;omega
   simp only[decide_eq_true hpos,i_t,bD Tryz.underlying9];exact fail 3 4 ⟨s.length,4⟩ ho rfl rfl (fun _=>rfl) (fun _=>rfl) hle hdict.symm
 rw[if_neg e2] at hdict;have hb:=hbd e1 e2;have hopb:=fun h=>hopb e1 e2 h;have hxa:Lx.eM s a'=x.1.a:=by rw[hskI];exact hb.2.2.1.symm
 rw[hxa];simp only[decide_eq_false e2,i_f,cS,tk_k ho 0 rfl,rs];have tail1:∀{W:World} {N2:Mem} {b10:Nat} {y:Cop×Int×Cs.Flt} {va2:Value} {acs:List Value} {ls:List Ent},OpAt N2.A N2.w y.1 va2 acs→M.le N2→PVs N2.A N2.w oc l→l.length < 8191→Cs.jV s m y.2.1 (l++[y.1]) []=R→a' < y.2.1→y.2.1≤s.length→OwnS M.A w W (ls++([opE b10 y.1 va2,.urow 44 3 vl l.length oc,fltE b3 (0,0),.mem N2]++[]))→∀{Z:List Value→World→Prop},(∀vs w',Je (fun vs w'=>∃(a':Int) (m:Nat) (l:List Cop) (args:List Ob) (va vl z:Value) (oc ac:List Value) (N:Mem),vs=[z,vl,va,.int .i64 a']∧0≤a'∧a'≤s.length∧(s.length:Int)+1≤a'+m∧(l.length:Int)≤a'∧args.length≤32∧l.length≤8191 ∧
   Cs.jV s m a' l args=R∧M.le N∧PVs N.A N.w oc l∧OVs N.A N.w ac args∧OwnS M.A w w' (rdL b3 va vl args.length ac l.length oc N)) (fun vs _=>s.length - (RowKit.intOf (vs.getD 3 undef)).toNat) [z,vl,va,.int .i64 a'] w4 vs w'→Z vs w') →
   eW z vl (.int .i64 y.2.1) (.pointer (some ⟨b10,0,none⟩)) W Z K:=by
  intro W N2 b10 y va2 acs ls hx hle2 hpv2 hl9 hrd hy1 hy2 ho Z hZ;have ho:=ho.front;have ho:OwnS M.A w W (opE b10 y.1 va2::.urow 44 3 vl l.length oc::fltE b3 (0,0)::.mem N2::(ls++[])):=ho;unfold eW;rw[op_v ho 0 rfl];refine S7 y.1 hx.one ho fun nb w10 ho=>?_;refine Vo 2 ho rfl (ho.sl 0 rfl 3 1 1 rfl) (KJ _ hx.one) (by omega) fun vl' w11 ho=>?_;have ho:=ho.tail.tail;have ho:OwnS M.A w w11 ([.urow 44 3 vl' (l++[y.1]).length (oc++opC y.1 va2),fltE b3 (0,0),.mem N2]++(ls++[])):=by
   rw[List.length_append,List.length_singleton];exact ho
  have ho:=ho.nilU 42 6;have ho:OwnS M.A w w11 (rdL b3 nilS vl' 0 [] (l++[y.1]).length (oc++opC y.1 va2) N2++(ls++[])):=ho;have ho:=ho.sub (List.sublist_append_left _ _);refine hZ _ _ (bG ⟨y.2.1,m,l++[y.1],[],nilS,vl',z,oc++opC y.1 va2,[],N2,rfl,by omega,by omega,by omega,by simp;omega,by simp,by simp;omega,hrd,hle2,Rws.snoc ⟨va2,acs,rfl,hx⟩ hpv2,OVs.nil,ho⟩ ?_);show s.length - Int.toNat y.2.1 < s.length - Int.toNat a';omega
 by_cases e5:x.1.k=5∧Cs.constant x.1.s=false
 ·rw[if_pos e5] at hdict;simp only[decide_eq_true e5.1,rs,tk_v ho 0 rfl];refine aS ho (R:=fun v=>v=.bool (Cs.constant x.1.s)) (DL x.1 w5) ?_;rintro _ w6 rfl ho;simp only[e5.2,rs,Bool.not_false];rw[bF Tryz.underlying23 (ho.slU 2 rfl)];simp only[rs];by_cases hn:l.length=8191
  ·have:(l.length:Int)=8191:=by omega
   simp only[decide_eq_true this,i_t];have eo:Cs.operator s x.1 l.length args=(Cs.op0,0,⟨x.1.a,6⟩):=by unfold Cs.operator;rw[if_pos (by omega)]
   rw[eo,if_pos (show (6:Int)≠0 by decide)] at hdict;exact fail 3 4 ⟨x.1.a,6⟩ ho rfl rfl (fun _=>rfl) (fun _=>rfl) hle hdict.symm
  have:¬(l.length:Int)=8191:=by omega
  simp only[decide_eq_false this,i_f,bK,tk_s ho 0 rfl,rs];have bad:∀{W:World},OwnS M.A w W (tokE b8 x.1::rdL b3 va vl args.length ac l.length oc N)→Cs.operator s x.1 l.length args=(Cs.op0,0,⟨x.1.a,3⟩)→CallX prog 19 #[.int .i64 x.1.a,.int .i64 3] W (pk K) (fun t W=>DoX prog (aD 26 (.pointer (some ⟨b3,0,none⟩)) t) W (pk K) fun _ W=>
    RetX prog [.val (.slice none 0 0),.cell (.pointer (some ⟨b3,0,none⟩)) 26] W K):=by
   intro W ho eo;rw[eo,if_pos (show (3:Int)≠0 by decide)] at hdict;exact fail 3 4 ⟨x.1.a,3⟩ ho rfl rfl (fun _=>rfl) (fun _=>rfl) hle hdict.symm
  by_cases g1:x.1.s=[82]
  ·simp only[decide_eq_true g1,rs,g_un];exact bad ho (by unfold Cs.operator;rw[if_neg (by omega),if_neg (by rw[g1];decide),if_pos (.inr (.inr g1))])
  simp only[decide_eq_false g1,rs,bK,tk_s ho 0 rfl];by_cases g2:x.1.s=[73,68]
  ·simp only[decide_eq_true g2,rs,g_un];exact bad ho (by unfold Cs.operator;rw[if_neg (by omega),if_neg (by rw[g2];decide),if_pos (.inl g2)])
  simp only[decide_eq_false g2,rs,bK,tk_s ho 0 rfl];by_cases g3:x.1.s=[69,73]
  ·simp only[decide_eq_true g3,rs,g_un];exact bad ho (by unfold Cs.operator;rw[if_neg (by omega),if_neg (by rw[g3];decide),if_pos (.inr (.inl g3))])
  simp only[decide_eq_false g3,rs,bK,tk_s ho 0 rfl]
  -- the operands join the memory that stays
  have frz:∀{W:World},OwnS M.A w W (tokE b8 x.1::rdL b3 va vl args.length ac l.length oc N)→∃N2:Mem,N.le N2∧SlA N2.A N2.w va 6 args.length ac∧OwnS M.A w W [tokE b8 x.1,.urow 44 3 vl l.length oc,fltE b3 (0,0),.mem N2]:=by
   intro W ho;have ho:OwnS M.A w W ([tokE b8 x.1]++([.urow 42 6 va args.length ac]++[.urow 44 3 vl l.length oc,fltE b3 (0,0),.mem N])):=ho;have ho:OwnS M.A w W (.urow 42 6 va args.length ac::[tokE b8 x.1,.urow 44 3 vl l.length oc,fltE b3 (0,0),.mem N]):=ho.front;obtain⟨N2,hle2,hrow,ho⟩:=OwnS.eT (L:=[tokE b8 x.1,.urow 44 3 vl l.length oc,fltE b3 (0,0),.mem N]) ho 3 rfl;exact⟨N2,hle2,hrow,ho⟩
  by_cases g4:x.1.s=[66,73]
  ·simp only[decide_eq_true g4,rs];rw[bF Tryz.underlying40 (ho.slU 1 rfl)];simp only[rs];by_cases hl:args=[]
   case neg=>
    have hpos:(0:Int) < (args.length:Int):=by have:=List.length_pos_iff.2 hl;omega
    simp only[decide_eq_true hpos,rs];exact bad ho (by unfold Cs.operator;rw[if_neg (by omega),if_pos (show x.1.s=Cs.biW from g4),if_pos hl])
   have hz0:¬(0:Int) < (args.length:Int):=by rw[hl];simp
   simp only[decide_eq_false hz0,rs];have eo:Cs.operator s x.1 l.length args=Cs.image s x.1.t:=by unfold Cs.operator;rw[if_neg (by omega),if_pos (show x.1.s=Cs.biW from g4),if_neg (by simp[hl])]
   rw[eo] at hdict hopb;obtain⟨N2,hle2,hrow,ho⟩:=frz ho;rw[xH,tk_t ho 0 rfl];simp only[bK,tk_s ho 0 rfl];rw[IU _ _ hva];refine JD ho fun b10 w7 ho=>?_;refine zF (o':=⟨x.1.s,args,[]⟩) (va':=va) 0 hva ho rfl fun w8 ho=>?_;refine join fun J hJ=>?_;rw[tk_s ho 1 rfl];simp only[rs,decide_eq_true g4];refine DP ho 4 rfl (Jy s hs x.1.t (by omega) hb.2.2.2.2 N2 w8 (ho.hasM 4 rfl)) ?_;rintro _ N3 w9 hle3 ⟨u,rfl,va3,acs,rfl,hx⟩ ho;simp only[ex];refine JD ho fun b11 w10 ho=>?_;refine Ia ho fun b13 w11 ho=>?_;refine zF (o':=(Cs.image s x.1.t).1) (va':=va3) 1 hx.one ho rfl fun w12 ho=>?_;refine jT (f:=(0,0)) (g:=((Cs.image s x.1.t).2.2.at_,(Cs.image s x.1.t).2.2.e)) 0 ho rfl fun w13 ho=>?_;generalize Cs.image s x.1.t=y at *;have ho:OwnS M.A w w13 [fltE b13 (y.2.2.at_,y.2.2.e),opE b11 y.1 va3,opE b10 ⟨x.1.s,args,[]⟩ va,tokE b8 x.1,.urow 44 3 vl l.length oc,fltE b3 (0,0),.mem N3]:=ho;have fe:∀{PK:PKT} {K:VWP},DoX prog (mFA 26 (.pointer (some ⟨b13,0,none⟩)) 1) w13 PK K=K (.pointer (some ⟨b13,1,none⟩)) w13:=cF (show fOff prog 26 1=some 1 by kernel_rfl);rw[fe,aW LG (ho.cell 0 rfl 1 rfl)];simp only[rs];by_cases hz:y.2.2.e=0
   ·rw[if_neg (by simp[hz])] at hdict;have hopb:=hopb hz;simp only[hz,ne_eq,not_true_eq_false,decide_false,i_f];rw[op_v ho 1 rfl];refine zF (o':=y.1) (va':=va3) 2 hx.one ho rfl fun w14 ho=>?_;refine hJ _ _ fun _=>?_;simp only[gd];have ho:OwnS M.A w w14 ([fltE b13 (y.2.2.at_,y.2.2.e),opE b11 y.1 va3]++([opE b10 y.1 va3]++([tokE b8 x.1]++[.urow 44 3 vl l.length oc,fltE b3 (0,0),.mem N3]))):=ho;have ho:=ho.front;have ho:OwnS M.A w w14 ([opE b10 y.1 va3,fltE b13 (y.2.2.at_,y.2.2.e),opE b11 y.1 va3,tokE b8 x.1]++([.urow 44 3 vl l.length oc,fltE b3 (0,0),.mem N3]++[])):=ho;have ho:=ho.front;have ho:OwnS M.A w w14 ([.urow 44 3 vl l.length oc,fltE b3 (0,0),.mem N3]++([opE b10 y.1 va3]++[fltE b13 (y.2.2.at_,y.2.2.e),opE b11 y.1 va3,tokE b8 x.1])):=ho;have ho:=ho.front;have ho:OwnS M.A w w14 ([]++([opE b10 y.1 va3,.urow 44 3 vl l.length oc,fltE b3 (0,0),.mem N3]++[])):=ho.sub (by exact List.Sublist.cons_cons _ (.cons_cons _ (.cons_cons _ (.cons_cons _ (List.nil_sublist _)))));exact tail1 hx ((hle.trans hle2).trans hle3) (PVs.le (hle2.trans hle3) hpv) (by omega) hdict hopb.2.1 hopb.2.2 ho (fun _ _ h=>h)
   ·rw[if_pos hz] at hdict;simp only[hz,ne_eq,not_false_eq_true,decide_true,i_t];refine quiet (q_at (fltV (y.2.2.at_,y.2.2.e)) (fun W hb=>bL ((ho.grow hb).agg 0 rfl mF)) ?_);intro w14 hb;have ho:=ho.grow hb;refine jT (f:=(0,0)) (g:=(y.2.2.at_,y.2.2.e)) 5 ho rfl fun w15 ho=>?_;refine uU dR (bC (ho.agg 5 rfl mF)) (hK _ _ N3 _ 6 ho rfl ((hle.trans hle2).trans hle3) ?_);subst hdict;exact⟨nilS,rfl,OpsV.nil _ _⟩
  ·simp only[decide_eq_false g4,rs,g_un];have eo:Cs.operator s x.1 l.length args=(⟨x.1.s,args,[]⟩,x.1.t,Cs.ok):=by
    unfold Cs.operator;rw[if_neg (by omega),if_neg (show ¬x.1.s=Cs.biW from g4),if_neg (by
     rintro (h|h|h)
     ·exact g2 h
     ·exact g3 h
     ·exact g1 h)]
   rw[eo] at hdict hopb;rw[if_neg (show ¬(Cs.ok.e≠0) by decide)] at hdict;obtain⟨N2,hle2,hrow,ho⟩:=frz ho;simp only[xH,tk_t ho 0 rfl,bK,tk_s ho 0 rfl];rw[IU _ _ hva];refine JD ho fun b10 w7 ho=>?_;refine zF (o':=⟨x.1.s,args,[]⟩) (va':=va) 0 hva ho rfl fun w8 ho=>?_;have ho:OwnS M.A w w8 [opE b10 ⟨x.1.s,args,[]⟩ va,tokE b8 x.1,.urow 44 3 vl l.length oc,fltE b3 (0,0),.mem N2]:=ho;refine join fun J hJ=>?_;rw[tk_s ho 1 rfl];simp only[rs,decide_eq_false g4];refine hJ _ _ fun _=>?_;simp only[gd];have ho:OwnS M.A w w8 ([]++([opE b10 ⟨x.1.s,args,[]⟩ va,.urow 44 3 vl l.length oc,fltE b3 (0,0),.mem N2]++[])):=ho.sub (by exact List.Sublist.cons_cons _ (.cons _ (List.Sublist.refl _)));exact tail1 (y:=(⟨x.1.s,args,[]⟩,x.1.t,Cs.ok)) ⟨hrow,hov.le hle2⟩ (hle.trans hle2) (PVs.le hle2 hpv) (by omega) hdict (by show a' < x.1.t;omega) hb.2.2.2.2 ho (fun _ _ h=>h)
 rw[if_neg e5] at hdict;have hd2:(if Cs.argE s a' args.length≠0 then (([]:List Cop),(⟨x.1.a,Cs.argE s a' args.length⟩:Cs.Flt)) else Cs.jV s m (Ps.object s a').2.1 l (args++[(Ps.object s a').1]))=R:=by
  rw[←hdict];by_cases h9:(Ps.object s a').2.2≠0
  ·have er:Cs.refE s a'=(Ps.object s a').2.2:=by unfold Cs.refE;rw[if_neg (fun h=>h9 h.1)]
   have em:Cs.argE s a' args.length=(Ps.object s a').2.2:=by unfold Cs.argE;rw[er,if_neg (fun h=>h9 h.1)]
   rw[em,if_pos h9,if_pos h9]
  have h9:=Classical.not_not.1 h9;rw[if_neg (show ¬((Ps.object s a').2.2≠0) by simp[h9])];by_cases h10:Cs.bQ (Ps.object s a').1=true
  ·have er:Cs.refE s a'=3:=by unfold Cs.refE;rw[if_pos ⟨h9,h10⟩]
   have em:Cs.argE s a' args.length=3:=by unfold Cs.argE;rw[er,if_neg (by simp)]
   rw[em,if_pos (show (3:Int)≠0 by decide),if_pos h10]
  have er:Cs.refE s a'=0:=by unfold Cs.refE;rw[if_neg (fun h=>h10 h.2),h9]
  rw[if_neg h10];by_cases h11:32≤args.length
  ·have em:Cs.argE s a' args.length=6:=by unfold Cs.argE;rw[er,if_pos ⟨rfl,by omega⟩]
   rw[em,if_pos (show (6:Int)≠0 by decide),if_pos h11]
  ·have em:Cs.argE s a' args.length=0:=by unfold Cs.argE;rw[er,if_neg (fun h=>h11 (by omega))]
   rw[em,if_neg (by simp),if_neg h11]
 clear hdict;have hsel:x.1.k=5→Cs.constant x.1.s=true:=by
  intro h5;cases hc:Cs.constant x.1.s with
 |true=>rfl
 |false=>exact absurd ⟨h5,hc⟩ e5
 have hb2:(Ps.object s a').2.2=0→a' < (Ps.object s a').2.1∧(Ps.object s a').2.1≤s.length:=fun h=>Bd.gC h;have hwt:(Ps.object s a').2.2=0→(Ps.object s a').1.wt≤10000000000:=fun h=>by
  have:=Ps.nW h;have:=Bd.gC h;omega
 have hm1:Cs.argE s a' args.length=if Cs.refE s a'=0∧args.length=32 then 6 else Cs.refE s a':=rfl
 have hm2:Cs.refE s a'=if (Ps.object s a').2.2=0∧Cs.bQ (Ps.object s a').1=true then 3 else (Ps.object s a').2.2:=rfl
 have hm0:Cs.argE s a' args.length=0→(Ps.object s a').2.2=0∧args.length < 32:=by
  intro h;rw[hm1] at h;split at h
  ·simp at h
  ·rename_i hh
   have h2:=h;rw[hm2] at h;split at h
   ·simp at h
   ·exact⟨h,by
     have:¬args.length=32:=fun e=>hh ⟨h2,e⟩;omega⟩
 generalize Cs.argE s a' args.length=E at *;generalize Cs.refE s a'=E1 at *;have rest:∀{W:World},OwnS M.A w W (tokE b8 x.1::rdL b3 va vl args.length ac l.length oc N)→∀{Z:List Value→World→Prop},(∀vs w',Je (fun vs w'=>∃(a':Int) (m:Nat) (l:List Cop) (args:List Ob) (va vl z:Value) (oc ac:List Value) (N:Mem),vs=[z,vl,va,.int .i64 a']∧0≤a'∧a'≤s.length∧(s.length:Int)+1≤a'+m∧(l.length:Int)≤a'∧args.length≤32∧l.length≤8191 ∧
   Cs.jV s m a' l args=R∧M.le N∧PVs N.A N.w oc l∧OVs N.A N.w ac args∧OwnS M.A w w' (rdL b3 va vl args.length ac l.length oc N)) (fun vs _=>s.length - (RowKit.intOf (vs.getD 3 undef)).toNat) [z,vl,va,.int .i64 a'] w4 vs w'→Z vs w') →
   CallX prog 22 #[.string ⟨s.toArray⟩,.int .i64 a'] W (pk K) fun t108 w=>
 DoX prog (mExt t108 0) w (pk K) fun t109 w=>
 DoX prog (mExt t108 1) w (pk K) fun t110 w=>
 DoX prog (mExt t108 2) w (pk K) fun t111 w=>
 DoX prog (aN 42) w (pk K) fun t14 w=>
 DoX prog (aD 42 t14 t109) w (pk K) fun _ w=>
 JoinX (fun J4=>
 DoX prog (mEq .eql 24 (.tmp 112) (.const (.int .i64 0)) t111 (.int .i64 0)) w (pk K) fun t113 w=>
 GDo t113 true (fun E=>DoX prog (aB 42 t14) w (pk K) E) w fun t115 w=>
 GDo t113 true (fun E=>CallX prog 23 #[t115] w (pk K) E) w fun t116 w=>
 DoX prog (aL t113 t116 (.bool false)) w (pk K) fun t117 w=>
 IfX t117 (J4 [(.int .i64 3)] w) (J4 [t111] w)) (fun vs4 w=>∀_:Sg,eP z (.pointer (some ⟨b3,0,none⟩)) vl va (.int .i64 x.1.a) (vs4.getD 0 undef) t14 t110 w Z K):=by
  intro W ho Z hZ;refine DP ho 4 rfl (B4 s a' hs N W (ho.hasM 4 rfl)) ?_;rintro _ N2 w9 hle2 ⟨u,rfl,hu⟩ ho;generalize Ps.object s a'=e at *;obtain⟨xk,xc,xcs,rfl,hx⟩:=hu.open;simp only[ex];refine bU ho fun b14 w10 ho=>?_;refine bA 0 hx.keys.one hx.kids.one ho rfl fun w11 ho=>?_;have ho:OwnS M.A w w11 (obE b14 e.1 xk xc::tokE b8 x.1::rdL b3 va vl args.length ac l.length oc N2):=ho;refine join fun J hJ=>?_;have go3:∀{W:World},OwnS M.A w W (obE b14 e.1 xk xc::tokE b8 x.1::rdL b3 va vl args.length ac l.length oc N2)→J [.int .i64 E1] W:=by
   intro W ho;refine hJ _ _ fun _=>?_;simp only[gd];unfold eP;refine join fun J5 hJ5=>?_;have go5:∀{W:World},OwnS M.A w W (obE b14 e.1 xk xc::tokE b8 x.1::rdL b3 va vl args.length ac l.length oc N2)→J5 [.int .i64 E] W:=by
    intro W ho;refine hJ5 _ _ fun _=>?_;simp only[mP,gd,rs];by_cases hE:E=0
    case neg=>
     rw[if_pos hE] at hd2;simp only[ne_eq,hE,not_false_eq_true,decide_true,i_t];exact fail 4 5 ⟨x.1.a,E⟩ ho rfl rfl (fun _=>rfl) (fun _=>rfl) (hle.trans hle2) hd2.symm
    rw[if_neg (by simp[hE])] at hd2;obtain⟨he0,hal2⟩:=hm0 hE;have hb2:=hb2 he0;simp only[hE,ne_eq,not_true,decide_false,i_f];rw[ob_v ho 0 rfl];refine AF _ hx.keys.one hx.kids.one ho fun nb w12 ho=>?_;refine JG 3 ho rfl (ho.sl 0 rfl 6 1 1 rfl) (oV _ hx.keys.one hx.kids.one) (by omega) fun va' w13 ho=>?_;have ho:=ho.tail.tail.tail;have ho:OwnS M.A w w13 (rdL b3 va' vl (args++[e.1]).length (ac++obC e.1 xk xc) l.length oc N2):=by
     rw[List.length_append,List.length_singleton];exact ho
    refine hZ _ _ (bG ⟨e.2.1,m,l,args++[e.1],va',vl,z,oc,ac++obC e.1 xk xc,N2,rfl,by omega,hb2.2,by omega,by omega,by simp;omega,hll,hd2,hle.trans hle2,PVs.le hle2 hpv,oJ (hov.le hle2) (DQ hx.ov),ho⟩ ?_);show s.length - Int.toNat e.2.1 < s.length - Int.toNat a';omega
   simp only[rs];by_cases g1:E1=0
   ·simp only[decide_eq_true g1,rs];rw[bF Tryz.underlying40 (ho.slU 2 rfl)];simp only[rs];by_cases g2:args.length=32
    ·have g2':((args.length:Nat):Int)=32:=by omega
     simp only[decide_eq_true g2',i_t];rw[if_pos ⟨g1,g2⟩] at hm1;have:=go5 ho;rw[hm1] at this;exact this
    ·have g2':¬((args.length:Nat):Int)=32:=by omega
     simp only[decide_eq_false g2',i_f];rw[if_neg (fun h=>g2 h.2)] at hm1;have:=go5 ho;rw[hm1] at this;exact this
   ·simp only[decide_eq_false g1,rs,g_un];rw[if_neg (fun h=>g1 h.1)] at hm1;have:=go5 ho;rw[hm1] at this;exact this
  simp only[rs];by_cases g1:e.2.2=0
  ·simp only[decide_eq_true g1,rs,ob_v ho 0 rfl];refine aS ho (R:=fun v=>v=.bool (Cs.bQ e.1)) (Kn _ e.1 _ w11 (Nat.le_refl _) (hwt g1) (OV.inw (ho.hasM 5 rfl) hx.ov)) ?_;rintro _ w12 rfl ho
   try simp only[rs]
   cases g2:Cs.bQ e.1 with
  |true=>
    simp only[i_t];rw[if_pos ⟨g1,g2⟩] at hm2;have:=go3 ho;rw[hm2] at this;exact this
  |false=>
    simp only[i_f];rw[if_neg (fun h=>by rw[g2] at h;exact absurd h.2 (by decide))] at hm2;have:=go3 ho;rw[hm2] at this;exact this
  ·simp only[decide_eq_false g1,rs,g_un];rw[if_neg (fun h=>g1 h.1)] at hm2;have:=go3 ho;rw[hm2] at this;exact this
 by_cases h5:x.1.k=5
 ·simp only[decide_eq_true h5,rs,tk_v ho 0 rfl];refine aS ho (R:=fun v=>v=.bool (Cs.constant x.1.s)) (DL x.1 w5) ?_;rintro _ w6 rfl ho;simp only[hsel h5,rs,Bool.not_true];have:=rest ho (fun _ _ h=>h)
  try simp only[rs] at this
  exact this
 ·simp only[decide_eq_false h5,rs,g_un];have:=rest ho (fun _ _ h=>h)
  try simp only[rs] at this
  exact this
end
section
open Eng Go.RowKit
namespace Cs
def eqc (x y:Cop):Bool:=decide (x.name=y.name)&&decide (x.data=y.data)&&Ob.eqbs x.args y.args
def eqs:List Cop→List Cop→Bool
|[],[]=>true
|x::a,y::b=>eqc x y&&eqs a b
|_,_=>false
theorem Tz (x y:Cop):eqc x y=true↔x=y:=by
 unfold eqc;simp only[Bool.and_eq_true,decide_eq_true_eq,Ob.EG];cases x;cases y;simp only[Cop.mk.injEq];exact⟨fun h=>⟨h.1.1,h.2,h.1.2⟩,fun h=>⟨⟨h.1,h.2.2⟩,h.2.1⟩⟩
theorem LD:∀a b:List Cop,eqs a b=true↔a=b
|[],[]=>by simp[eqs]
|[],_::_=>by simp[eqs]
|_::_,[]=>by simp[eqs]
|x::a,y::b=>by rw[eqs,Bool.and_eq_true,Tz,LD a b];simp
theorem Tr:∀{a b:List Cop},a.length≠b.length→eqs a b=false:=by
 intro a b h;cases he:eqs a b with
|false=>rfl
|true=>rw[LD] at he;exact absurd (by rw[he]) h
theorem I1:∀(a b:List Cop) (i:Nat),a.length=b.length→(∀m (h1:m < a.length) (h2:m < b.length),m < i→eqc a[m] b[m]=true)→eqs a b=eqs (a.drop i) (b.drop i)
|a,b,0,_,_=>by simp
|[],[],i+1,_,_=>by simp
|x::a,y::b,i+1,hl,h=>by
  have h0:eqc x y=true:=h 0 (by simp) (by simp) (by omega);rw[eqs,h0,Bool.true_and,List.drop_succ_cons,List.drop_succ_cons];exact I1 a b i (by simpa using hl) fun m h1 h2 hm=>h (m+1) (by simpa using h1) (by simpa using h2) (by omega)
|[],_::_,_+1,h,_=>by simp at h
|_::_,[],_+1,h,_=>by simp at h
theorem L8:∀(l:List Cop) (i:Nat),wts (l.take i)≤wts l
|[],i=>by simp[wts]
|o::l,0=>by simp[wts]
|o::l,i+1=>by
  have:=L8 l i;rw[List.take_succ_cons,wts,wts];omega
theorem Iv:∀(l:List Cop) (i:Nat) (hi:i < l.length),l[i].wt≤wts l
|o::l,0,_=>by rw[wts];show o.wt≤_;omega
|o::l,i+1,hi=>by
  have:=Iv l i (by simpa using hi);rw[wts,List.getElem_cons_succ];omega
|[],_,hi=>by simp at hi
theorem CN:∀l:List Cop,l.length≤wts l
|[]=>by simp
|o::l=>by
  have:=CN l;rw[wts,List.length_cons,Cop.wt];omega
end Cs
theorem La (a b:List Cop)(va vb:Value)(ca cb:List Value)(M:Mem)(w:World)(hM:M.has w)(hsa:SlA M.A M.w va 3 a.length ca)(hpa:PVs M.A M.w ca a)(hsb:SlA M.A M.w vb 3 b.length cb)(hpb:PVs M.A M.w cb b)(hw:Cs.wts a≤1000000000) :
  Ret prog 10 #[va,vb] w (fun v w'=>v=.bool (Cs.eqs a b)∧Below w.heap.size w w'):=by
 refine aO fun K hK=>wY ?_;unfold gV;have hMW:∀{W:World} {L:List Ent},Own w W L→M.has W:=fun ho=>Mem.mU hM ho.done;have hlen:=Cs.CN a;rw[bF Tryz.underlying23 (hsa.now hM),bF Tryz.underlying23 (hsb.now hM)];simp only[rs];by_cases hl:(a.length:Int)=(b.length:Int)
 case neg=>
  simp only[ne_eq,hl,not_false_eq_true,decide_true,i_t];exact hK _ _ ⟨by rw[Cs.Tr (by omega)],Below.refl _ _⟩
 simp only[hl,ne_eq,not_true,decide_false,i_f];have hl:a.length=b.length:=by omega
 refine loop (fun vs w'=>∃(i:Nat),vs=[.int .i64 i]∧i≤a.length∧(∀m (h1:m < a.length) (h2:m < b.length),m < i→Cs.eqc a[m] b[m]=true)∧Own w w' []) (fun vs _=>a.length - n0 vs) ⟨0,rfl,by omega,fun m _ _ h=>by omega,Own.start w⟩ ?_;rintro vs w2 ⟨i,rfl,hi,hlo,ho⟩ _;simp only[lK,gd];rw[bF Tryz.underlying23 (hsa.now (hMW ho))];simp only[rs];by_cases hlt:(i:Int) < (a.length:Int)
 ·have hi1:i < a.length:=by omega
  have hi2:i < b.length:=by omega
  simp only[decide_eq_true hlt,i_t];obtain⟨xa,xcs,bo,oo,hx,hr⟩:=Li hsa hpa hi1;obtain⟨ya,ycs,bp,op,hy,hs⟩:=Li hsb hpb hi2;have hdr:=Cs.I1 a b i hl hlo;rw[List.drop_eq_getElem_cons hi1,List.drop_eq_getElem_cons hi2,Cs.eqs] at hdr;have h3:=Cs.Iv a i hi1;have h4:Ob.wts a[i].args≤a[i].wt:=by unfold Cop.wt;omega
  have done:∀{W:World},Own w W []→Cs.eqc a[i] b[i]=false→K (.returned (.bool false)) W:=fun ho h=>hK _ _ ⟨by rw[hdr,h];rfl,ho.done⟩;have hMW2:∀{W:World},Below w2.heap.size w2 W→M.has W:=fun hW=>hMW (ho.grow hW);refine quiet (q_at _ (fun W hW=>(hr W (hMW2 hW)).1) (q_do _ (fun _=>aY TD) (q_at (.string ⟨a[i].name.toArray⟩) (fun W hW=>aM mZ ((hr W (hMW2 hW)).2 0 _ rfl)) ?_)));refine q_at _ (fun W hW=>(hs W (hMW2 hW)).1) (q_do _ (fun _=>aY TD) (q_at (.string ⟨b[i].name.toArray⟩) (fun W hW=>aM mZ ((hs W (hMW2 hW)).2 0 _ rfl)) (TB ?_)));by_cases g1:a[i].name=b[i].name
  case neg=>
   simp only[ne_eq,g1,not_false_eq_true,decide_true,gq];refine q_pt ?_;simp only[gq];refine q_pt fun w3 hb=>?_;simp only[i_t];exact done (ho.grow hb) (by unfold Cs.eqc;rw[decide_eq_false g1];rfl)
  simp only[g1,ne_eq,not_true,decide_false,gq];refine q_at _ (fun W hW=>(hr W (hMW2 hW)).1) (q_do _ (fun _=>aY TH) (q_at (.string ⟨a[i].data.toArray⟩) (fun W hW=>aM mZ ((hr W (hMW2 hW)).2 2 _ rfl)) ?_));refine q_at _ (fun W hW=>(hs W (hMW2 hW)).1) (q_do _ (fun _=>aY TH) (q_at (.string ⟨b[i].data.toArray⟩) (fun W hW=>aM mZ ((hs W (hMW2 hW)).2 2 _ rfl)) (TB ?_)));refine q_pf ?_;by_cases g2:a[i].data=b[i].data
  case neg=>
   simp only[ne_eq,g2,not_false_eq_true,decide_true,gq];refine q_pt fun w3 hb=>?_;simp only[i_t];exact done (ho.grow hb) (by unfold Cs.eqc;rw[decide_eq_false g2];simp)
  simp only[g2,ne_eq,not_true,decide_false,gq];refine q_at _ (fun W hW=>(hr W (hMW2 hW)).1) (q_do _ (fun _=>aY Td) (q_at xa (fun W hW=>aM BO ((hr W (hMW2 hW)).2 1 _ rfl)) ?_));refine q_at _ (fun W hW=>(hs W (hMW2 hW)).1) (q_do _ (fun _=>aY Td) (q_at ya (fun W hW=>aM BO ((hs W (hMW2 hW)).2 1 _ rfl)) ?_));have inw:∀{W:World} (_:M.has W) {o:Cop} {v:Value} {cs:List Value},OpAt M.A M.w o v cs→ObAt (InW W) W (.mk 0 0 0 [] [] o.args) nilS v cs:=fun {W} hMW {o v cs} h=>
   ⟨SlA.nil _ _ _ _,⟨(h.args.kept hMW).1,(fun p l c e hn=>Mem.bd hMW ((h.args.kept hMW).2.1 p l c e hn)),(h.args.kept hMW).2.2⟩,OVs.mono (fun b hb=>Mem.bd hMW hb) _ _ (OVs.kept hMW _ _ h.all)⟩
  refine oP (.bool (Ob.eqbs a[i].args b[i].args)) (fun W hW=>EE (KA (a:=.mk 0 0 0 [] [] a[i].args) (b:=.mk 0 0 0 [] [] b[i].args) W (inw (hMW2 hW) hx) (inw (hMW2 hW) hy) (by have:=Ob.Ga a[i].args;show a[i].args.length≤_;omega) fun k h1 h2 x y W' hx' hy'=>?_) hW) (q_do _ (fun _=>Ml) (q_pf ?_))
  ·have hkw:=Ob.F4 a[i].args k h1;exact Oq _ _ _ x y W' (Nat.le_refl _) (by show a[i].args[k].wt≤_;omega) hx' hy'
  intro w3 hb;have ho:=ho.grow hb;have hec:Cs.eqc a[i] b[i]=Ob.eqbs a[i].args b[i].args:=by unfold Cs.eqc;rw[decide_eq_true g1,decide_eq_true g2];rfl
  cases hq:Ob.eqbs a[i].args b[i].args with
 |false=>
   simp only[Bool.not_false,i_t];exact done ho (by rw[hec,hq])
 |true=>
   simp only[Bool.not_true,i_f,rs];rw[aC (by omega) (by omega)];refine bG ⟨i+1,rfl,by omega,fun m h1 h2 hmi=>?_,ho⟩ (by simp[n0,RowKit.intOf];omega);rcases Nat.lt_or_ge m i with h|h
   ·exact hlo m h1 h2 h
   ·have:m=i:=by omega
    subst this;rw[hec,hq]
 ·have hil:i=a.length:=by omega
  simp only[decide_eq_false hlt,i_f];have:=Cs.I1 a b i hl hlo;rw[hil,List.drop_length,hl,List.drop_length] at this;exact hK _ _ ⟨by rw[this];rfl,ho.done⟩
end
section
open Eng Go.RowKit
theorem I7 {M:Mem}{W1 W2:World}(h1:M.has W1)(h2:M.has W2):Kept M.A W1 W2:=fun b hb=>(h2 b hb).trans (h1 b hb).symm
theorem MV {M:Mem}{vc:Value}{l:List Ob}{cs:List Value}(hs:SlA M.A M.w vc 6 l.length cs)(hall:OVs M.A M.w cs l){i:Nat}(hi:i < l.length) :
  ∃(xk xc:Value) (b off:Nat),OV M.A M.w (obV l[i] xk xc) l[i]∧∀W,M.has W→(mIA 40 vc (.int .i64 (i:Int))).run prog W=.ok (.value (.pointer (some ⟨b,off,none⟩))) W∧∀j u,(obC l[i] xk xc)[j]?=some u→W.cell? ⟨b,off+j,none⟩=some u:=by
 obtain⟨b,off,cap,rfl,_⟩:=gA hs.1 (by omega);obtain⟨a,hl,hov,hget⟩:=OVs.get l cs i hi hall;obtain⟨xk,xc,ocs,he,ha⟩:=hov.open;have he:a=obC l[i] xk xc:=by
  have:a.toArray=(obC l[i] xk xc).toArray:=by injection he
  simpa using congrArg Array.toList this
 subst he;refine⟨xk,xc,b,off+i*6,hov,fun W hW=>⟨?_,fun j u hj=>?_⟩⟩
 ·have:=nM (P:=prog) (T:=40) (b:=b) (off:=off) (cap:=cap) (n:=l.length) (k:=.i64) (i:=(i:Int)) (w:=W) Tryz.underlying40 szOb (by omega) (by omega);rw[Int.toNat_natCast] at this;exact this
 ·have:=Sl.cellAt (hs.now hW) (i*6+j) u (hget j u hj)
  rwa [←Nat.add_assoc] at this
theorem Bm (va:Value)(l:List (List UInt8))(x:List UInt8)(w:World)(ha:Sl w va 1 l.length (bR l))(hl:l.length≤1099511627776) :
  Ret prog 32 #[va,.string ⟨x.toArray⟩] w (fun v w'=>v=.bool (decide (x∈l))∧w=w'):=by
 refine aO fun K hK=>iY ?_;unfold cG;refine c_eq (Nr va l x w ha hl) ?_;by_cases h:l.idxOf x < l.length
 ·rw[if_pos h];simp only[rs];refine hK _ _ ⟨?_,rfl⟩;have hm:x∈l:=List.idxOf_lt_length_iff.1 h;rw[decide_eq_true hm,decide_eq_true (by omega)]
 ·rw[if_neg h];simp only[rs];refine hK _ _ ⟨?_,rfl⟩;have hm:x ∉ l:=fun hm=>h (List.idxOf_lt_length_iff.2 hm);rw[decide_eq_false hm,decide_eq_false (by omega)]
theorem Lm (s:List UInt8):(!decide (s=Cs.rW)&&!decide (s=Cs.biW)&&!decide (s=Cs.idW)&&!decide (s=Cs.eiW))=!decide (s∈[Cs.rW,Cs.biW,Cs.idW,Cs.eiW]):=by
 rw[Bool.eq_iff_iff];simp only[Bool.and_eq_true,Bool.not_eq_true',decide_eq_false_iff_not,List.mem_cons,List.not_mem_nil,or_false,not_or];exact⟨fun h=>⟨h.1.1.1,h.1.1.2,h.1.2,h.2⟩,fun h=>⟨⟨⟨h.1,h.2.1⟩,h.2.2.1⟩,h.2.2.2⟩⟩
theorem KY (s:List UInt8)(w:World)(hs:s.length≤1099511627776):Ret prog 84 #[.string ⟨s.toArray⟩] w (fun v w'=>v=.bool (Cs.named s)∧Below w.heap.size w w'):=by
 refine aO fun K hK=>G2 ?_;unfold A2;have hN:Cs.named s=(decide ((Lx.next s 0).2=0)&&decide ((Lx.next s 0).1.k=5)&&decide ((Lx.next s 0).1.a=0)&&decide ((Lx.next s 0).1.t=s.length)&&!Cs.constant s&&!decide (s∈[Cs.rW,Cs.biW,Cs.idW,Cs.eiW])):=by
  unfold Cs.named;rw[←Lm];simp only[Bool.and_assoc]
 have fin:∀{W:World} {L:List Ent} {q:Bool},Own w W L→q=Cs.named s→K (.returned (.bool q)) W:=fun ho e=>hK _ _ ⟨by rw[e],ho.done⟩;refine dE (zR s 0 w hs) rfl (Own.start w) fun w1 ho=>?_;simp only[tokR,ex];rw[hN] at fin;generalize Lx.next s 0=x at *
 refine jY ho fun b3 w2 ho=>?_;refine nI 0 ho rfl fun w3 ho=>?_;have ho:Own w w3 [tokE b3 x.1]:=ho;simp only[rs];by_cases e1:x.2=0
 case neg=>
  simp only[ne_eq,e1,not_false_eq_true,decide_true,rs,g_un];exact fin ho (by rw[decide_eq_false e1];rfl)
 simp only[e1,ne_eq,not_true,decide_false,rs,cS,tk_k ho 0 rfl];by_cases e2:x.1.k=5
 case neg=>
  simp only[ne_eq,e2,not_false_eq_true,decide_true,rs,g_un];exact fin ho (by rw[decide_eq_false e2];simp)
 simp only[e2,ne_eq,not_true,decide_false,rs,Ib,tk_a ho 0 rfl];by_cases e3:x.1.a=0
 case neg=>
  simp only[ne_eq,e3,not_false_eq_true,decide_true,rs,g_un];exact fin ho (by rw[decide_eq_false e3];simp)
 simp only[e3,ne_eq,not_true,decide_false,rs,xH,tk_t ho 0 rfl,bD Tryz.underlying9];by_cases e4:x.1.t=(s.length:Int)
 case neg=>
  simp only[ne_eq,e4,not_false_eq_true,decide_true,rs,g_un];exact fin ho (by rw[decide_eq_false e4];simp)
 simp only[e4,ne_eq,not_true,decide_false,rs];refine c_eq (AN s w3) ?_;cases e5:Cs.constant s with
|true=>
  simp only[rs,Bool.not_true,g_un];exact fin ho (by rw[e5];simp)
|false=>
  simp only[rs,Bool.not_false];refine dD (fun b=>.slice (some ⟨b,0,none⟩) 4 4) (bR [Cs.rW,Cs.biW,Cs.idW,Cs.eiW]) 9 (fun _=>by kernel_rfl) ho fun nb w4 ho=>?_;have ho:=ho.Si 1 4 4 (by rfl) (by omega) (by omega);have hsl:=ho.Dh 0 rfl;refine c_eq (Bm _ [Cs.rW,Cs.biW,Cs.idW,Cs.eiW] s w4 hsl (by simp)) ?_;simp only[rs];exact fin ho (by rw[e5,decide_eq_true e1,decide_eq_true e2,decide_eq_true e3,decide_eq_true e4];simp)
theorem LC (s:List UInt8)(w:World)(hs:s.length≤1099511627776):Ret prog 83 #[.string ⟨s.toArray⟩] w (fun v w'=>v=.bool (Cs.shown s)∧w=w'):=by
 refine aO fun K hK=>G3 ?_;unfold Bl;rw[bD Tryz.underlying9];refine loop (fun vs w'=>∃(i:Nat),vs=[.int .i64 i]∧i≤s.length∧(∀m,m < i→Cs.ends s m=false)∧w=w') (fun vs _=>s.length - n0 vs) ⟨0,rfl,by omega,fun m h=>by omega,rfl⟩ ?_;rintro vs w2 ⟨i,rfl,hi,hlo,rfl⟩ _;simp only[Cc,gd,rs];by_cases hlt:(i:Int) < (s.length:Int)
 ·have hi':i < s.length:=by omega
  simp only[decide_eq_true hlt,i_t];refine c_eq (HF s i w hi' hs) ?_;cases he:Cs.ends s i with
 |true=>
   simp only[i_t];refine hK _ _ ⟨?_,rfl⟩;have:Cs.shown s=false:=by
    unfold Cs.shown;rw[List.all_eq_false];exact⟨i,List.mem_range.2 hi',by simp[he]⟩
   rw[this]
 |false=>
   simp only[i_f,rs];rw[aC (by omega) (by omega)];refine bG ⟨i+1,rfl,by omega,fun m hm=>?_,rfl⟩ (by simp[n0,RowKit.intOf];omega);rcases Nat.lt_or_ge m i with h|h
   ·exact hlo m h
   ·have:m=i:=by omega
    subst this;exact he
 ·simp only[decide_eq_false hlt,i_f];refine hK _ _ ⟨?_,rfl⟩;have:Cs.shown s=true:=by
   unfold Cs.shown;rw[List.all_eq_true];intro m hm;rw[List.mem_range] at hm;simp[hlo m (by omega)]
  rw[this]
theorem Nz (o:Cop)(va:Value)(acs:List Value)(M:Mem)(w:World)(hM:M.has w)(hx:OpAt M.A M.w o va acs)(hw:o.wt≤1000000000):Ret prog 49 #[opV o va] w (fun v w'=>v=.bool (Cs.form o)∧Below w.heap.size w w'):=by
 refine aO fun K hK=>Ix ?_;unfold CP;have hwt:o.name.length+o.data.length+Ob.wts o.args≤1000000000:=by unfold Cop.wt at hw;omega
 refine OB o hx.one (Own.start w) fun b1 w1 ho=>?_;have fin:∀{W:World} {L:List Ent} {q:Bool},Own w W L→q=Cs.form o→K (.returned (.bool q)) W:=fun ho e=>hK _ _ ⟨by rw[e],ho.done⟩;unfold Cs.form at fin;have hMW:M.has w1:=Mem.mU hM ho.done;rw[I2,op_n ho 0 rfl];simp only[rs];by_cases hb:o.name=[66,73]
 ·rw[if_pos (show o.name=Cs.biW from hb)] at fin;simp only[decide_eq_true hb,i_t];rw[AX,op_a ho 0 rfl,bF Tryz.underlying40 (hx.args.now hMW)];simp only[rs];by_cases hl:(o.args.length:Int)=1
  case neg=>
   simp only[decide_eq_false hl,rs,g_un];refine fin ho ?_
   match ha:o.args with
  |[]=>simp
  |[d]=>rw[ha] at hl;simp at hl
  |_::_::_=>simp
  obtain⟨d,hd⟩:∃d,o.args=[d]:=by
   match ha:o.args with
  |[]=>rw[ha] at hl;simp at hl
  |[d]=>exact⟨d,rfl⟩
  |_::_::_=>rw[ha] at hl;simp at hl;omega
  rw[hd] at fin;simp only[decide_eq_true hl,rs,AX,op_a ho 0 rfl];have hsl:=hx.args.now hMW;have hall:=OVs.kept hMW _ _ hx.all;have hkd:DoX prog (mIA 40 va (.int .i64 0)) w1 (pk K)=DoX prog (mIA 40 va (.int .i64 ((0:Nat):Int))) w1 (pk K):=rfl;obtain⟨xk,xc,bi,oi,hdv,hr⟩:=MV hx.args hx.all (i:=0) (by rw[hd];simp);have hr1:=hr w1 hMW;have ho0:o.args[0]'(by rw[hd];simp)=d:=by simp[hd]
  rw[ho0] at hr1;refine aT hr1.1 |>.mpr ?_;have hq:=hr1.2 0 _ rfl;rw[Nat.add_zero] at hq;rw[oG,aW F2 hq];simp only[rs];by_cases h7:d.k=7
  case neg=>
   simp only[decide_eq_false h7,rs,g_un];exact fin ho (by simp[h7])
  simp only[decide_eq_true h7,rs,PF,op_d ho 0 rfl];refine c_eq (LC o.data w1 (by omega)) ?_
  try simp only[rs]
  exact fin ho (by simp[h7])
 ·rw[if_neg (show ¬o.name=Cs.biW from hb)] at fin;simp only[decide_eq_false hb,i_f];rw[I2,op_n ho 0 rfl];refine dE (KY o.name w1 (by omega)) rfl ho fun w2 ho=>?_;cases hn:Cs.named o.name with
 |false=>
   simp only[rs,g_un];exact fin ho (by rw[hn];rfl)
 |true=>
   have hMW:M.has w2:=Mem.mU hM ho.done;simp only[rs,AX,op_a ho 0 rfl];rw[bF Tryz.underlying40 (hx.args.now hMW)];simp only[rs];by_cases hl:(o.args.length:Int)≤32
   ·simp only[decide_eq_true hl,rs,PF,op_d ho 0 rfl]
    try simp only[rs]
    exact fin ho (by rw[hn,decide_eq_true (show o.args.length≤32 by omega)];simp)
   ·simp only[decide_eq_false hl,rs,g_un];exact fin ho (by rw[hn,decide_eq_false (show ¬o.args.length≤32 by omega)];rfl)
theorem Qh (o:Cop)(va:Value)(acs:List Value)(M:Mem)(w:World)(hM:M.has w)(hx:OpAt M.A M.w o va acs)(hw:o.wt≤1000000000):Ret prog 26 #[opV o va] w (fun v w'=>v=.int .i64 (Cs.may o)∧Below w.heap.size w w'):=by
 refine aO fun K hK=>Km ?_;unfold Fw;have hwt:Ob.wts o.args≤1000000000:=by unfold Cop.wt at hw;omega
 have hal:=Ob.Ga o.args;refine OB o hx.one (Own.start w) fun b1 w1 ho=>?_;have fin:∀{W:World} {L:List Ent} {q:Int},Own w W L→q=Cs.may o→K (.returned (.int .i64 q)) W:=fun ho e=>hK _ _ ⟨by rw[e],ho.done⟩;have hMW:∀{W:World} {L:List Ent},Own w W L→M.has W:=fun ho=>Mem.mU hM ho.done;unfold Cs.may at fin;rw[op_v ho 0 rfl];refine dE (Nz o va acs M w1 (hMW ho) hx hw) rfl ho fun w2 ho=>?_;cases hf:Cs.form o with
|false=>
  simp only[rs,Bool.not_false];exact fin ho (by rw[hf,if_pos rfl])
|true=>
 rw[hf,if_neg (by simp)] at fin;simp only[rs,Bool.not_true];rw[AX,op_a ho 0 rfl,bF Tryz.underlying40 (hx.args.now (hMW ho))];have fE:∀(l:List Ob) (i:Nat) (hi:i < l.length),Cs.uY (l.drop i)=if Vl.check 1 l[i]≠0 then Vl.check 1 l[i] else Cs.uY (l.drop (i+1)):=fun l i hi=>by rw[List.drop_eq_getElem_cons hi,Cs.uY]
 refine loop (fun vs w'=>∃(i:Nat),vs=[.int .i64 i]∧i≤o.args.length∧Cs.uY o.args=Cs.uY (o.args.drop i)∧Own w w' [opE b1 o va]) (fun vs _=>o.args.length - n0 vs) ⟨0,rfl,by omega,by rw[List.drop_zero],ho⟩ ?_;clear ho;rintro vs w3 ⟨i,rfl,hi,hfe,ho⟩ _;simp only[Gc,gd,rs];by_cases hlt:(i:Int) < (o.args.length:Int)
 ·have hi':i < o.args.length:=by omega
  simp only[decide_eq_true hlt,i_t];refine GB (hx.args.now (hMW ho)) (OVs.kept (hMW ho) _ _ hx.all) hi' fun v hv=>?_;have hv0:=hv;obtain⟨xk,xc,xcs,rfl,hxa⟩:=hv.open;have ho3:=ho;refine bU ho fun b4 w4 ho=>?_;refine bA (o':=o.args[i]) 0 hxa.keys.one hxa.kids.one ho rfl fun w5 ho=>?_;have ho:Own w w5 [obE b4 o.args[i] xk xc,opE b1 o va]:=ho;rw[ob_v ho 0 rfl];have hv5:OV (InW w5) w5 (obV o.args[i] xk xc) o.args[i]:=OV.mono (fun b hb=>Mem.bd (hMW ho) hb) _ _ (OV.kept (I7 (hMW ho3) (hMW ho)) _ _ hv0);have hkw:=Ob.F4 o.args i hi';refine dE (Ho o.args[i] _ w5 hv5 (by omega)) rfl ho fun w6 ho=>?_;simp only[rs];rw[fE o.args i hi'] at hfe;by_cases hc:Vl.check 1 o.args[i]=0
  ·rw[if_neg (by simp[hc])] at hfe;simp only[hc,ne_eq,not_true,decide_false,i_f];rw[aC (by omega) (by omega)];exact bG ⟨i+1,rfl,by omega,hfe,ho.tail⟩ (by simp[n0,RowKit.intOf];omega)
  ·rw[if_pos hc] at hfe;simp only[ne_eq,hc,not_false_eq_true,decide_true,i_t];exact fin ho (by rw[hfe,if_pos hc])
 ·have hil:i=o.args.length:=by omega
  subst hil;rw[List.drop_length,Cs.uY] at hfe;rw[hfe,if_neg (by simp)] at fin;simp only[decide_eq_false hlt,i_f];rw[AX,op_a ho 0 rfl,bF Tryz.underlying40 (hx.args.now (hMW ho))];refine loop (fun vs w'=>∃(i:Nat),vs=[.int .i64 i]∧i≤o.args.length∧o.args.any (fun x=>Cs.bQ x||decide (x.k=9))=(o.args.drop i).any (fun x=>Cs.bQ x||decide (x.k=9))∧Own w w' [opE b1 o va]) (fun vs _=>o.args.length - n0 vs) ⟨0,rfl,by omega,by rw[List.drop_zero],ho⟩ ?_;clear ho;rintro vs w3 ⟨i,rfl,hi,hany,ho⟩ _;simp only[F9,gd,rs];by_cases hlt:(i:Int) < (o.args.length:Int)
  ·have hi':i < o.args.length:=by omega
   simp only[decide_eq_true hlt,i_t];refine GB (hx.args.now (hMW ho)) (OVs.kept (hMW ho) _ _ hx.all) hi' fun v hv=>?_;have hv0:=hv;obtain⟨xk,xc,xcs,rfl,hxa⟩:=hv.open;have ho3:=ho;refine bU ho fun b7 w4 ho=>?_;refine bA (o':=o.args[i]) 0 hxa.keys.one hxa.kids.one ho rfl fun w5 ho=>?_;have ho:Own w w5 [obE b7 o.args[i] xk xc,opE b1 o va]:=ho;rw[ob_v ho 0 rfl];have hv5:OV (InW w5) w5 (obV o.args[i] xk xc) o.args[i]:=OV.mono (fun b hb=>Mem.bd (hMW ho) hb) _ _ (OV.kept (I7 (hMW ho3) (hMW ho)) _ _ hv0);have hkw:=Ob.F4 o.args i hi';refine dE (DC _ o.args[i] _ w5 (Nat.le_refl _) (by omega) hv5) rfl ho fun w6 ho=>?_;rw[List.drop_eq_getElem_cons hi',List.any_cons] at hany;cases hr:Cs.bQ o.args[i] with
  |true=>
    rw[hr] at hany;simp only[rs,g_un];exact fin ho (by rw[hany];rfl)
  |false=>
    rw[hr,Bool.false_or] at hany;simp only[rs,oG,ob_k ho 0 rfl];by_cases h9:o.args[i].k=9
    ·simp only[decide_eq_true h9,rs];exact fin ho (by rw[hany,decide_eq_true h9];rfl)
    ·simp only[decide_eq_false h9,rs];rw[decide_eq_false h9,Bool.false_or] at hany;rw[aC (by omega) (by omega)];exact bG ⟨i+1,rfl,by omega,hany,ho.tail⟩ (by simp[n0,RowKit.intOf];omega)
  ·have hil:i=o.args.length:=by omega
   subst hil;rw[List.drop_length] at hany;simp only[decide_eq_false hlt,i_f];exact fin ho (by rw[hany];rfl)
end
section
open Eng Go.RowKit
namespace Cs
theorem HC:∀(ks:List (List UInt8)) (os:List Ob) (i:Nat) (h1:i < ks.length) (h2:i < os.length),nQ (ks.take (i+1)) (os.take (i+1))=nQ (ks.take i) (os.take i)++[(Pl.xF ks[i]).1,(Wr.text os[i]).1]
|k::ks,o::os,0,_,_=>by simp[nQ]
|k::ks,o::os,i+1,h1,h2=>by
  rw[List.take_succ_cons,List.take_succ_cons,nQ,HC ks os i (by simpa using h1) (by simpa using h2),List.take_succ_cons,List.take_succ_cons,nQ];simp
|[],_,_,h1,_=>by simp at h1
|_::_,[],_,_,h2=>by simp at h2
theorem Jw:∀(ks:List (List UInt8)) (os:List Ob),(nQ ks os).length≤2*ks.length
|[],[]=>by simp[nQ]
|[],_::_=>by simp[nQ]
|_::_,[]=>by simp[nQ]
|k::ks,o::os=>by
  have:=Jw ks os;rw[nQ];simp;omega
end Cs
theorem RT (s t:List UInt8){w:World}{PK:PKT}{K:VWP}{S:Nat→Prop}{w0:World}{L:List Ent}(ho:OwnS S w0 w L)(k:∀b w',OwnS S w0 w' (.cells b [.string ⟨s.toArray⟩,.string ⟨t.toArray⟩] 9::L)→K (.slice (some ⟨b,0,none⟩) 2 2) w') :
  DoX prog (aP 39 2 #[(0,.string ⟨s.toArray⟩),(1,.string ⟨t.toArray⟩)]) w PK K:=
 dD (fun b=>.slice (some ⟨b,0,none⟩) 2 2) [.string ⟨s.toArray⟩,.string ⟨t.toArray⟩] 9 (fun _=>by kernel_rfl) ho k
theorem LS (o:Cop)(va:Value)(acs:List Value)(M:Mem)(w:World)(ht:Tb w)(hM:M.has w)(hx:OpAt M.A M.w o va acs)(hw:o.wt≤100000000)(hmay:Cs.may o=0) :
  Ret prog 29 #[opV o va] w (fun v w'=>Own w w' [keyE v (Cs.parts o)]):=by
 refine aO fun K hK=>GK ?_;unfold AM;have hwt:o.name.length+o.data.length+Ob.wts o.args≤100000000:=by unfold Cop.wt at hw;omega
 have hal:=Ob.Ga o.args;have hMW:∀{W:World} {L:List Ent},Own w W L→M.has W:=fun ho=>Mem.mU hM ho.done;have hcat:∀{ps qs:List (List UInt8)},bR (ps++qs)=bR ps++bR qs:=fun {ps qs}=>oH ps qs;obtain⟨hform,hchk,hkd⟩:=Cs.Uh.1 hmay;refine OB o hx.one ((Own.start w).nilU 9 1) fun b1 w1 ho=>?_;have ho:Own w w1 [opE b1 o va,keyE nilS []]:=ho;rw[I2,op_n ho 0 rfl];simp only[rs];by_cases hb:o.name=[66,73]
 ·unfold Cs.form at hform;rw[if_pos (show o.name=Cs.biW from hb)] at hform;obtain⟨d,hd⟩:∃d,o.args=[d]:=by
   match ha:o.args,hform with
  |[],hf=>simp at hf
  |[d],_=>exact⟨d,rfl⟩
  |_::_::_,hf=>simp at hf
  have hp:Cs.parts o=[Cs.biW]++Cs.nQ d.keys d.kids++[Cs.idW]:=by
   unfold Cs.parts;rw[if_pos (show o.name=Cs.biW from hb),hd];rfl
  have h7:d.k=7:=by
   rw[hd] at hform;simp only[Bool.and_eq_true,decide_eq_true_eq] at hform;exact hform.1
  have hlen:d.keys.length=d.kids.length:=by
   have hc:=hchk d (by rw[hd];exact List.mem_cons_self);obtain⟨⟨-,a2,-,-,-,a6,a7⟩,hck⟩:=Vl.yC.1 hc;have hr:Vl.rising d=true:=by simpa[Vl.form,h7] using a7
   exact (Vl.Hi.1 hr).1
  have hdw:d.wt≤100000000:=by rw[hd,Ob.wts,Ob.wts] at hwt;omega
  have hkl:=Pa (o:=d);simp only[decide_eq_true hb,i_t];refine qJ Cs.biW ho fun nb w2 ho=>?_;refine F8 2 ho rfl (ho.sl 0 rfl 1 1 1 rfl) (by simp[Value.oneCell']) (by simp) fun v1 w3 ho=>?_;have ho:=ho.tail;have ho:Own w w3 [opE b1 o va,keyE v1 [Cs.biW]]:=ho;obtain⟨xk,xc,bi,oi,hdv,hr⟩:=MV hx.args hx.all (i:=0) (by rw[hd];simp);have ho0:o.args[0]'(by rw[hd];simp)=d:=by simp[hd]
  rw[ho0] at hr hdv;obtain⟨dcs,hda⟩:=hdv.PW;have ia:∀{W:World} {PK:PKT} {K:VWP},M.has W→DoX prog (mIA 40 va (.int .i64 0)) W PK K=K (.pointer (some ⟨bi,oi,none⟩)) W:=fun h=>aT (hr _ h).1;rw[AX,op_a ho 0 rfl,ia (hMW ho),nT,aW Js ((hr w3 (hMW ho)).2 4 _ rfl),bF Tryz.underlying39 (hda.keys.now (hMW ho))];refine loop (fun vs w'=>∃(i:Nat) (v:Value),vs=[v,.int .i64 i]∧i≤d.keys.length∧Own w w' [opE b1 o va,keyE v ([Cs.biW]++Cs.nQ (d.keys.take i) (d.kids.take i))]) (fun vs _=>d.keys.length - n1 vs) ⟨0,v1,rfl,by omega,by simpa[Cs.nQ] using ho⟩ ?_;clear ho;rintro vs w4 ⟨i,v,rfl,hi,ho⟩ _;simp only[BG,gd,rs];have hpl:=Cs.Jw (d.keys.take i) (d.kids.take i);rw[List.length_take] at hpl;by_cases hlt:(i:Int) < (d.keys.length:Int)
  ·have hi':i < d.keys.length:=by omega
   have hi2:i < d.kids.length:=by omega
   simp only[decide_eq_true hlt,i_t];refine JZ (.string ⟨(d.keys[i]).toArray⟩) Tryz.underlying39 (by kernel_rfl) (hda.keys.now (hMW ho)) (by omega) (by rw[Int.toNat_natCast];exact eB hi') fun q hq=>?_;rw[aW mZ hq];refine dE (Fa d.keys[i] w4) rfl ho fun w5 ho=>?_;simp only[ex];rw[AX,op_a ho 0 rfl,ia (hMW ho),mH,aW BO ((hr w5 (hMW ho)).2 5 _ rfl)];refine GB (hda.kids.now (hMW ho)) (OVs.kept (hMW ho) _ _ hda.all) hi2 fun u hu=>?_;have hu1:OV (InW w5) w5 u d.kids[i]:=OV.mono (fun b hb=>Mem.bd (hMW ho) hb) _ _ hu;have hkw:=AG hi2;refine dE (Hc d.kids[i] u w5 (ht.own ho) hu1 (by omega)) rfl ho fun w6 ho=>?_;simp only[txtV,ex];refine RT _ _ ho fun nb2 w7 ho=>?_;refine F8 2 ho rfl (ho.sl 0 rfl 1 2 2 rfl) (by simp[Value.oneCell']) (by simp;omega) fun v2 w8 ho=>?_;have ho:=ho.tail
   try simp only[rs]
   rw[aC (by omega) (by omega)];refine bG ⟨i+1,v2,rfl,by omega,?_⟩ (by simp[n1,RowKit.intOf];omega);have e:[Cs.biW]++Cs.nQ (d.keys.take (i+1)) (d.kids.take (i+1))=([Cs.biW]++Cs.nQ (d.keys.take i) (d.kids.take i))++[(Pl.xF d.keys[i]).1,(Wr.text d.kids[i]).1]:=by rw[Cs.HC _ _ i hi' hi2,List.append_assoc]
   rw[e,keyE,List.length_append,hcat];exact ho
  ·have hil:i=d.keys.length:=by omega
   subst hil;simp only[decide_eq_false hlt,i_f];refine qJ Cs.idW ho fun nb w5 ho=>?_;refine F8 2 ho rfl (ho.sl 0 rfl 1 1 1 rfl) (by simp[Value.oneCell']) (by simp only[List.length_append,List.length_cons,List.length_nil];omega) fun v2 w6 ho=>?_;have ho:=ho.tail.tail;refine hK _ _ ?_;rw[hp,keyE,List.length_append,hcat];rw[hlen] at ho;rw[List.take_length,←hlen,List.take_length] at ho;exact ho
 ·have hp:Cs.parts o=o.args.map (fun x=>(Wr.text x).1)++[o.name]:=by
   unfold Cs.parts;rw[if_neg (show ¬o.name=Cs.biW from hb)]
  simp only[decide_eq_false hb,i_f];rw[AX,op_a ho 0 rfl,bF Tryz.underlying40 (hx.args.now (hMW ho))];refine loop (fun vs w'=>∃(i:Nat) (v:Value),vs=[v,.int .i64 i]∧i≤o.args.length∧Own w w' [opE b1 o va,keyE v ((o.args.take i).map fun x=>(Wr.text x).1)]) (fun vs _=>o.args.length - n1 vs) ⟨0,nilS,rfl,by omega,ho⟩ ?_;clear ho;rintro vs w4 ⟨i,v,rfl,hi,ho⟩ _;simp only[BJ,gd,rs];by_cases hlt:(i:Int) < (o.args.length:Int)
  ·have hi':i < o.args.length:=by omega
   simp only[decide_eq_true hlt,i_t];refine GB (hx.args.now (hMW ho)) (OVs.kept (hMW ho) _ _ hx.all) hi' fun u hu=>?_;have hu0:=hu;obtain⟨xk,xc,xcs,rfl,hxa⟩:=hu.open;have ho3:=ho;refine bU ho fun b11 w5 ho=>?_;refine bA (o':=o.args[i]) 0 hxa.keys.one hxa.kids.one ho rfl fun w6 ho=>?_;have ho:Own w w6 [obE b11 o.args[i] xk xc,opE b1 o va,keyE v ((o.args.take i).map fun x=>(Wr.text x).1)]:=ho;rw[ob_v ho 0 rfl];have hu1:OV (InW w6) w6 (obV o.args[i] xk xc) o.args[i]:=OV.mono (fun b hb=>Mem.bd (hMW ho) hb) _ _ (OV.kept (I7 (hMW ho3) (hMW ho)) _ _ hu0);have hkw:=Ob.F4 o.args i hi';refine dE (Hc o.args[i] _ w6 (ht.own ho) hu1 (by omega)) rfl ho fun w7 ho=>?_;simp only[txtV,ex];refine qJ _ ho fun nb2 w8 ho=>?_;refine F8 3 ho rfl (ho.sl 0 rfl 1 1 1 rfl) (by simp[Value.oneCell']) (by simp;omega) fun v2 w9 ho=>?_;have ho:=ho.tail.tail
   try simp only[rs]
   rw[aC (by omega) (by omega)];refine bG ⟨i+1,v2,rfl,by omega,?_⟩ (by simp[n1,RowKit.intOf];omega);have e:(o.args.take (i+1)).map (fun x=>(Wr.text x).1)=(o.args.take i).map (fun x=>(Wr.text x).1)++[(Wr.text o.args[i]).1]:=by rw[List.take_succ_eq_append_getElem hi',List.map_append];rfl
   rw[e,keyE,List.length_append,hcat];exact ho
  ·have hil:i=o.args.length:=by omega
   subst hil;simp only[decide_eq_false hlt,i_f];rw[I2,op_n ho 0 rfl];refine qJ o.name ho fun nb w5 ho=>?_;refine F8 2 ho rfl (ho.sl 0 rfl 1 1 1 rfl) (by simp[Value.oneCell']) (by simp;omega) fun v2 w6 ho=>?_;have ho:=ho.tail.tail;refine hK _ _ ?_;rw[hp,keyE,List.length_append,hcat];rw[List.take_length] at ho;exact ho
theorem Oe (l:List Cop)(vl:Value)(cs:List Value)(M:Mem)(w:World)(ht:Tb w)(hM:M.has w)(hs:SlA M.A M.w vl 3 l.length cs)(hall:PVs M.A M.w cs l)(hw:Cs.wts l≤100000000) :
  Ret prog 12 #[vl] w (fun v w'=>v=txtV (Cs.text l)∧Below w.heap.size w w'):=by
 refine aO fun K hK=>Iq ?_;unfold Dc;have hMW:∀{W:World} {L:List Ent},Own w W L→M.has W:=fun ho=>Mem.mU hM ho.done;have hlen:=Cs.CN l;have fin:∀{W:World} {L:List Ent} {q:List UInt8×Int},Own w W L→q=Cs.text l→K (.returned (txtV q)) W:=fun ho e=>hK _ _ ⟨by rw[e],ho.done⟩;have fin0:∀{W:World} {L:List Ent} {e:Int},Own w W L→([],e)=Cs.text l→K (.returned (.tuple #[.string ⟨#[]⟩,.int .i64 e])) W:=fun ho e=>fin ho e;unfold Cs.text at fin fin0;rw[bF Tryz.underlying23 (hs.now hM)];simp only[rs];by_cases h8:(8191:Int) < (l.length:Int)
 ·simp only[decide_eq_true h8,i_t];exact fin0 (Own.start w) (by rw[if_pos (by omega)])
 simp only[decide_eq_false h8,i_f];rw[if_neg (by omega)] at fin fin0;rw[bF Tryz.underlying23 (hs.now hM)];have fE:∀(i:Nat) (hi:i < l.length),Cs.refuse (l.drop i)=if Cs.may l[i]≠0 then Cs.may l[i] else Cs.refuse (l.drop (i+1)):=fun i hi=>by rw[List.drop_eq_getElem_cons hi,Cs.refuse]
 refine loop (fun vs w'=>∃(i:Nat),vs=[.int .i64 i]∧i≤l.length∧Cs.refuse l=Cs.refuse (l.drop i)∧Own w w' []) (fun vs _=>l.length - n0 vs) ⟨0,rfl,by omega,by rw[List.drop_zero],Own.start w⟩ ?_;rintro vs w2 ⟨i,rfl,hi,hre,ho⟩ _;simp only[DN,gd,rs];by_cases hlt:(i:Int) < (l.length:Int)
 ·have hi':i < l.length:=by omega
  simp only[decide_eq_true hlt,i_t];obtain⟨va,acs,bo,oo,hx,hr⟩:=Li hs hall hi';have hr2:=hr w2 (hMW ho);refine aT hr2.1 |>.mpr (aT (PU hr2.2) |>.mpr ?_);refine JD ho fun b5 w3 ho=>?_;refine zF (o':=l[i]) (va':=va) 0 hx.one ho rfl fun w4 ho=>?_;have ho:Own w w4 [opE b5 l[i] va]:=ho;rw[op_v ho 0 rfl];have hgw:=Cs.Iv l i hi';refine dE (Qh l[i] va acs M w4 (hMW ho) hx (by omega)) rfl ho fun w5 ho=>?_;simp only[rs];rw[fE i hi'] at hre;by_cases hc:Cs.may l[i]=0
  ·rw[if_neg (by simp[hc])] at hre;simp only[hc,ne_eq,not_true,decide_false,i_f];rw[aC (by omega) (by omega)];exact bG ⟨i+1,rfl,by omega,hre,ho.tail⟩ (by simp[n0,RowKit.intOf];omega)
  ·rw[if_pos hc] at hre;simp only[ne_eq,hc,not_false_eq_true,decide_true,i_t];exact fin0 ho (by rw[hre,if_pos hc])
 ·have hil:i=l.length:=by omega
  subst hil;rw[List.drop_length,Cs.refuse] at hre;rw[hre,if_neg (by simp)] at fin;have hmay:=(Cs.Jt l).1 hre;simp only[decide_eq_false hlt,i_f];refine dD (fun b=>.pointer (some ⟨b,0,none⟩)) [.pointer none,.slice none 0 0] 68 (fun _=>by kernel_rfl) ho fun b w3 ho=>?_;have hB0:∃v0,Own w w3 [Bld b v0 []]:=by
   have h1:=(ho.Az 5 1).swap;exact⟨_,OwnS.B3 (l:=[]) (.inl rfl) EO h1⟩
  obtain⟨v0,ho0⟩:=hB0;rw[bF Tryz.underlying23 (hs.now (hMW ho0))];have hol:=Cs.HU l;refine loop (fun vs w'=>∃(i:Nat) (bv:Value),vs=[.int .i64 i]∧i≤l.length∧Own w w' [Bld b bv ((l.take i).flatMap Cs.one)]) (fun vs _=>l.length - n0 vs) ⟨0,v0,rfl,by omega,ho0⟩ ?_;clear ho ho0;rintro vs w4 ⟨i,bv,rfl,hi,ho⟩ _;simp only[DA,gd,rs];by_cases hlt:(i:Int) < (l.length:Int)
  ·have hi':i < l.length:=by omega
   simp only[decide_eq_true hlt,i_t];refine join fun J hJ=>?_;obtain⟨va,acs,bo,oo,hx,hr⟩:=Li hs hall hi';have hr2:=hr w4 (hMW ho);refine aT hr2.1 |>.mpr (aT (PU hr2.2) |>.mpr ?_);refine JD ho fun b9 w5 ho=>?_;refine zF (o':=l[i]) (va':=va) 0 hx.one ho rfl fun w6 ho=>?_;have ho:Own w w6 [opE b9 l[i] va,Bld b bv ((l.take i).flatMap Cs.one)]:=ho;rw[op_v ho 0 rfl];have hgw:=Cs.Iv l i hi';have hml:=hmay l[i] (List.getElem_mem hi');have hpt:=Cs.oR l[i];have hjl:=Pl.Ey (Cs.parts l[i]);have hsucc:(l.take (i+1)).flatMap Cs.one=(l.take i).flatMap Cs.one++Cs.one l[i]:=by rw[List.take_succ_eq_append_getElem hi',List.flatMap_append];simp
   have hlt1:((l.take i).flatMap Cs.one).length≤44*Cs.wts l:=Nat.le_trans (Cs.HU _) (Nat.mul_le_mul_left _ (Cs.L8 l i));have hdl:l[i].data.length+10≤l[i].wt:=by unfold Cop.wt;omega
   refine dV (LS l[i] va acs M w6 (ht.own ho) (hMW ho) hx (by omega) hml) fun pv w7 hn=>?_;have ho:=ho.join hn;have ho:Own w w7 [keyE pv (Cs.parts l[i]),opE b9 l[i] va,Bld b bv ((l.take i).flatMap Cs.one)]:=ho;refine dE (Ku (Cs.parts l[i]) pv w7 (ho.slU 0 rfl) (by omega)) rfl ho fun w8 ho=>?_;have ho:=ho.tail;rw[show (Value.string ⟨#[10]⟩)=.string ⟨([10]:List UInt8).toArray⟩ from rfl,Cp (by simp;omega)];refine fI 1 ho rfl (cV (ho.at_ 1 rfl) (by simp only[List.length_append,List.length_cons,List.length_nil];omega)) ?_;rintro _ _ w9 ⟨_,v3,rfl⟩ ho;have ho:Own w w9 [opE b9 l[i] va,Bld b v3 ((l.take i).flatMap Cs.one++(Pl.join (Cs.parts l[i])++[10]))]:=ho;have fin2:∀{W:World} {v:Value},Own w W [Bld b v ((l.take (i+1)).flatMap Cs.one)]→J [] W:=by
    intro W v ho;refine hJ _ _ fun _=>?_;simp only[Du,rs];rw[aC (by omega) (by omega)];exact bG ⟨i+1,v,rfl,by omega,ho⟩ (by simp[n0,RowKit.intOf];omega)
   rw[hsucc] at fin2;rw[I2,op_n ho 0 rfl];simp only[rs];by_cases hb:l[i].name=[66,73]
   ·have h1:Cs.one l[i]=(Pl.join (Cs.parts l[i])++[10])++(l[i].data++[10,69,73,10]):=by
     unfold Cs.one;rw[if_pos (show l[i].name=Cs.biW from hb)];simp[Cs.eiW]
    rw[h1,←List.append_assoc] at fin2;simp only[decide_eq_true hb,i_t];rw[PF,op_d ho 0 rfl,show (Value.string ⟨#[10,69,73,10]⟩)=.string ⟨([10,69,73,10]:List UInt8).toArray⟩ from rfl,Cp (by simp;omega)];refine fI 1 ho rfl (cV (ho.at_ 1 rfl) (by simp only[List.length_append,List.length_cons,List.length_nil];omega)) ?_;rintro _ _ w10 ⟨_,v4,rfl⟩ ho;exact fin2 ho.tail
   ·have h1:Cs.one l[i]=Pl.join (Cs.parts l[i])++[10]:=by
     unfold Cs.one;rw[if_neg (show ¬l[i].name=Cs.biW from hb),List.append_nil]
    rw[h1] at fin2;simp only[decide_eq_false hb,i_f];exact fin2 ho.tail
  ·have hil:i=l.length:=by omega
   subst hil;rw[List.take_length] at ho;simp only[decide_eq_false hlt,i_f];refine fI 0 ho rfl (nR (ho.at_ 0 rfl)) ?_;rintro _ _ w6 ⟨rfl,rfl⟩ ho;exact fin ho rfl
end
section
open Eng Go.RowKit
abbrev Sp (w:World):Prop:=Lib.TabIs prog w "strings.asciiSpace" .u8 Lib.asciiSpaceTab
theorem Sp.mono {w w':World}(h:Sp w)(hb:Below w.heap.size w w'):Sp w':=
 Go.Joins.tab_stays (show Tryz.prog.globalNamed "strings.asciiSpace"=some 0 by kernel_rfl) h hb (Nat.le_refl _)
theorem Sp.own {w w':World}{L:List Ent}(h:Sp w)(ho:Own w w' L):Sp w':=h.mono ho.done
namespace Cs
def rows:List (List UInt8×List UInt8):=[([],[98,32,66,32,98,42,32,66,42,32,66,84,32,69,84,32,69,77,67,32,66,88,32,69,88,32,102,32,70,32,102,42,32,104,32,110,32,113,32,81,32,115,32,83,32,84,42,32,87,32,87,42]),([110],[103,32,71,32,105,32,106,32,74,32,77,32,119,32,84,99,32,84,76,32,84,114,32,84,115,32,84,119,32,84,122]),([110,110],[100,48,32,108,32,109,32,84,100,32,84,68]),([110,110,110],[114,103,32,82,71]),([110,110,110,110],[107,32,75,32,114,101,32,118,32,121]),([110,110,110,110,110,110],[99,32,99,109,32,100,49,32,84,109]),([78],[66,77,67,32,99,115,32,67,83,32,68,111,32,103,115,32,77,80,32,114,105,32,115,104]),([78,110],[84,102]),([78,42],[66,68,67,32,68,80]),([115],[84,106,32,39]),([110,110,115],[34]),([97],[84,74]),([97,110],[100]),([100],[66,73])]
def Dr:List (List UInt8×List UInt8)→List UInt8→List UInt8
|[],_=>[63]
|p::l,s=>if s∈Lib.fields p.2 then p.1 else Dr l s
def takes (s:List UInt8):List UInt8:=Dr rows s
def fits (c:UInt8)(k:Int):Bool:=if c=110 then decide (k=2)||decide (k=3) else if c=115 then decide (k=4) else if c=78 then decide (k=5) else if c=97 then decide (k=6) else if c=100 then decide (k=7) else true
def NL:List UInt8→List Ob→Bool
|c::cs,o::os=>fits c o.k&&NL cs os
|_,_=>true
theorem O2 (l:List Ob):NL [] l=true:=by cases l<;>rfl
def check (o:Cop):Int:=if takes o.name=[63]∨(takes o.name).length≠o.args.length then 28 else if NL (takes o.name) o.args=false then 28 else if o.data≠[]∧o.name≠[66,73] then 3 else 0
def num1 (x:Int):Int×Bool:=if (decide (-1073741824≤x)&&decide (x≤1073741824))=true then (x,true) else (0,false)
def number (o:Ob):Int×Bool:=if o.k=2 then (if (decide (-107374≤o.n)&&decide (o.n≤107374))=true then num1 (o.n*10000) else (0,false)) else if o.k=3 then num1 o.n else (0,false)
def H7:List Ob→List Int→List Int×Int
|[],acc=>(acc,0)
|o::l,acc=>if o.k≠2∧o.k≠3 then ([],10) else if (number o).2=false then ([],2) else H7 l (acc++[(number o).1])
end Cs
abbrev rwT:TypeId:=79
abbrev rwA:TypeId:=80
def rwC:List Value:=Cs.rows.flatMap fun p=>[.string ⟨p.1.toArray⟩,.string ⟨p.2.toArray⟩]
section
variable {w:World}{PK:PKT}{K:VWP}
theorem m_row {a s:ByteArray}:DoX prog (aG rwT #[(0,.string a),(1,.string s)]) w PK K=K (.agg #[.string a,.string s]) w:=aT (by kernel_rfl)
theorem UO:DoX prog (aG rwA #[(0,.agg #[.string ⟨#[]⟩,.string ⟨#[98,32,66,32,98,42,32,66,42,32,66,84,32,69,84,32,69,77,67,32,66,88,32,69,88,32,102,32,70,32,102,42,32,104,32,110,32,113,32,81,32,115,32,83,32,84,42,32,87,32,87,42]⟩]),(1,.agg #[.string ⟨#[110]⟩,.string ⟨#[103,32,71,32,105,32,106,32,74,32,77,32,119,32,84,99,32,84,76,32,84,114,32,84,115,32,84,119,32,84,122]⟩]),(2,.agg #[.string ⟨#[110,110]⟩,.string ⟨#[100,48,32,108,32,109,32,84,100,32,84,68]⟩]),(3,.agg #[.string ⟨#[110,110,110]⟩,.string ⟨#[114,103,32,82,71]⟩]),(4,.agg #[.string ⟨#[110,110,110,110]⟩,.string ⟨#[107,32,75,32,114,101,32,118,32,121]⟩]),(5,.agg #[.string ⟨#[110,110,110,110,110,110]⟩,.string ⟨#[99,32,99,109,32,100,49,32,84,109]⟩]),(6,.agg #[.string ⟨#[78]⟩,.string ⟨#[66,77,67,32,99,115,32,67,83,32,68,111,32,103,115,32,77,80,32,114,105,32,115,104]⟩]),(7,.agg #[.string ⟨#[78,110]⟩,.string ⟨#[84,102]⟩]),(8,.agg #[.string ⟨#[78,42]⟩,.string ⟨#[66,68,67,32,68,80]⟩]),(9,.agg #[.string ⟨#[115]⟩,.string ⟨#[84,106,32,39]⟩]),(10,.agg #[.string ⟨#[110,110,115]⟩,.string ⟨#[34]⟩]),(11,.agg #[.string ⟨#[97]⟩,.string ⟨#[84,74]⟩]),(12,.agg #[.string ⟨#[97,110]⟩,.string ⟨#[100]⟩]),(13,.agg #[.string ⟨#[100]⟩,.string ⟨#[66,73]⟩])]) w PK K=K (.agg rwC.toArray) w:=aT (by kernel_rfl)
theorem Q4:(mIx rwA (.agg rwC.toArray) (.int .i64 ((0:Nat):Int))).run prog w=.ok (.value (.agg #[.string ⟨Cs.rows[0].1.toArray⟩,.string ⟨Cs.rows[0].2.toArray⟩])) w:=by kernel_rfl
theorem Rp:(mIx rwA (.agg rwC.toArray) (.int .i64 ((1:Nat):Int))).run prog w=.ok (.value (.agg #[.string ⟨Cs.rows[1].1.toArray⟩,.string ⟨Cs.rows[1].2.toArray⟩])) w:=by kernel_rfl
theorem RG:(mIx rwA (.agg rwC.toArray) (.int .i64 ((2:Nat):Int))).run prog w=.ok (.value (.agg #[.string ⟨Cs.rows[2].1.toArray⟩,.string ⟨Cs.rows[2].2.toArray⟩])) w:=by kernel_rfl
theorem R8:(mIx rwA (.agg rwC.toArray) (.int .i64 ((3:Nat):Int))).run prog w=.ok (.value (.agg #[.string ⟨Cs.rows[3].1.toArray⟩,.string ⟨Cs.rows[3].2.toArray⟩])) w:=by kernel_rfl
theorem Sf:(mIx rwA (.agg rwC.toArray) (.int .i64 ((4:Nat):Int))).run prog w=.ok (.value (.agg #[.string ⟨Cs.rows[4].1.toArray⟩,.string ⟨Cs.rows[4].2.toArray⟩])) w:=by kernel_rfl
theorem RC:(mIx rwA (.agg rwC.toArray) (.int .i64 ((5:Nat):Int))).run prog w=.ok (.value (.agg #[.string ⟨Cs.rows[5].1.toArray⟩,.string ⟨Cs.rows[5].2.toArray⟩])) w:=by kernel_rfl
theorem QN:(mIx rwA (.agg rwC.toArray) (.int .i64 ((6:Nat):Int))).run prog w=.ok (.value (.agg #[.string ⟨Cs.rows[6].1.toArray⟩,.string ⟨Cs.rows[6].2.toArray⟩])) w:=by kernel_rfl
theorem RL:(mIx rwA (.agg rwC.toArray) (.int .i64 ((7:Nat):Int))).run prog w=.ok (.value (.agg #[.string ⟨Cs.rows[7].1.toArray⟩,.string ⟨Cs.rows[7].2.toArray⟩])) w:=by kernel_rfl
theorem Sa:(mIx rwA (.agg rwC.toArray) (.int .i64 ((8:Nat):Int))).run prog w=.ok (.value (.agg #[.string ⟨Cs.rows[8].1.toArray⟩,.string ⟨Cs.rows[8].2.toArray⟩])) w:=by kernel_rfl
theorem Rw:(mIx rwA (.agg rwC.toArray) (.int .i64 ((9:Nat):Int))).run prog w=.ok (.value (.agg #[.string ⟨Cs.rows[9].1.toArray⟩,.string ⟨Cs.rows[9].2.toArray⟩])) w:=by kernel_rfl
theorem Ph:(mIx rwA (.agg rwC.toArray) (.int .i64 ((10:Nat):Int))).run prog w=.ok (.value (.agg #[.string ⟨Cs.rows[10].1.toArray⟩,.string ⟨Cs.rows[10].2.toArray⟩])) w:=by kernel_rfl
theorem PM:(mIx rwA (.agg rwC.toArray) (.int .i64 ((11:Nat):Int))).run prog w=.ok (.value (.agg #[.string ⟨Cs.rows[11].1.toArray⟩,.string ⟨Cs.rows[11].2.toArray⟩])) w:=by kernel_rfl
theorem PG:(mIx rwA (.agg rwC.toArray) (.int .i64 ((12:Nat):Int))).run prog w=.ok (.value (.agg #[.string ⟨Cs.rows[12].1.toArray⟩,.string ⟨Cs.rows[12].2.toArray⟩])) w:=by kernel_rfl
theorem OK:(mIx rwA (.agg rwC.toArray) (.int .i64 ((13:Nat):Int))).run prog w=.ok (.value (.agg #[.string ⟨Cs.rows[13].1.toArray⟩,.string ⟨Cs.rows[13].2.toArray⟩])) w:=by kernel_rfl
theorem UR {i:Nat}(hi:i < 14):(mIx rwA (.agg rwC.toArray) (.int .i64 (i:Int))).run prog w=.ok (.value (.agg #[.string ⟨(Cs.rows[i]'hi).1.toArray⟩,.string ⟨(Cs.rows[i]'hi).2.toArray⟩])) w:=by
 match i,hi with
|0,_=>exact Q4
|1,_=>exact Rp
|2,_=>exact RG
|3,_=>exact R8
|4,_=>exact Sf
|5,_=>exact RC
|6,_=>exact QN
|7,_=>exact RL
|8,_=>exact Sa
|9,_=>exact Rw
|10,_=>exact Ph
|11,_=>exact PM
|12,_=>exact PG
|13,_=>exact OK
end
theorem Vh:fOff prog rwT 0=some 0:=by kernel_rfl
theorem UM:fOff prog rwT 1=some 1:=by kernel_rfl
theorem VE:(Tryz.prog.info? rwT).map (·.size)=some 2:=by kernel_rfl
theorem Um:(Tryz.prog.info? rwA).map (·.size)=some 28:=by kernel_rfl
theorem Ub:aggN prog rwA=some 28:=by kernel_rfl
theorem Ts:∀v∈rwC,v.oneCell'=true:=by
 have:(rwC.all fun v=>v.oneCell')=true:=by kernel_rfl
 intro v hv;exact List.all_eq_true.1 this v hv
theorem TY {i:Nat}(hi:i < Cs.rows.length):Cs.rows[i].2.length≤1000∧(Cs.rows[i].2.all fun b=>decide (b.toNat < 128))=true∧(Lib.fields Cs.rows[i].2).length≤1000:=by
 have:(Cs.rows.all fun p=>decide (p.2.length≤1000∧(p.2.all fun b=>decide (b.toNat < 128))=true∧(Lib.fields p.2).length≤1000))=true:=by decide +kernel
 have:=List.all_eq_true.1 this _ (List.getElem_mem hi);simpa using this
theorem Cs.Ki:∀(l:List (List UInt8×List UInt8)) (s:List UInt8),Dr l s=[63]∨∃p∈l,Dr l s=p.1
|[],s=>.inl rfl
|p::l,s=>by
  rw[Dr];split
  ·exact .inr ⟨p,List.mem_cons_self,rfl⟩
  ·rcases Ki l s with h|⟨q,hq,h⟩
   ·exact .inl h
   ·exact .inr ⟨q,List.mem_cons_of_mem _ hq,h⟩
theorem Cs.QM (s:List UInt8):(takes s).length≤6∧∀c∈takes s,c.toNat < 128:=by
 have h:(Cs.rows.all fun p=>decide (p.1.length≤6∧∀c∈p.1,c.toNat < 128))=true:=by decide +kernel
 rcases Ki rows s with e|⟨p,hp,e⟩
 ·rw[takes,e];decide
 ·rw[takes,e];exact of_decide_eq_true (List.all_eq_true.1 h p hp)
theorem Lj (t:List UInt8)(w:World)(hs:Sp w)(hl:t.length≤1000)(ha:t.all (fun b=>decide (b.toNat < 128))=true)(hf:(Lib.fields t).length≤1000) :
  Ret prog 33 #[.string ⟨t.toArray⟩] w (fun v w'=>Own w w' [gD v (Lib.fields t)]):=by
 refine aO fun K hK=>Calls.mono (Tryz.strings_Fields ⟨t.toArray⟩ w (by rw[bO];omega) (fun j b h=>?_) hs) ?_
 ·have hm:=List.mem_of_getElem? h;exact of_decide_eq_true (List.all_eq_true.1 ha b hm)
 ·rintro e w' ⟨rfl,rfl⟩;have ho:=(Own.start w).alloc (bR (Lib.fields t)) 9;have:=ho.Si 1 (Lib.fields t).length (Lib.fields t).length (by rw[mS,Nat.mul_one]) (by omega) (by omega);refine hK _ _ ?_;have e:(⟨t.toArray⟩:ByteArray).data.toList=t:=rfl;rw[List.take_of_length_le (by rw[mS];omega)] at this;rw[e];exact this
theorem A1 (s:List UInt8)(w:World)(hs:Sp w):Ret prog 14 #[.string ⟨s.toArray⟩] w (fun v w'=>v=.string ⟨(Cs.takes s).toArray⟩∧Below w.heap.size w w'):=by
 refine aO fun K hK=>GC ?_;unfold Bf;simp only[m_row];rw[UO];refine dD (fun b=>.pointer (some ⟨b,0,none⟩)) (List.replicate 28 (.string ⟨#[]⟩)) rwA (fun _=>by kernel_rfl) (Own.start w) fun b w1 ho=>?_;refine Bq 0 ho rfl (new:=rwC) Um Ts rfl fun w2 ho=>?_;have ho:Own w w2 [.cells b rwC rwA]:=ho;rw[l_at (ho.agg 0 rfl Ub)];have ho:=ho.tail;refine loop (fun vs w'=>∃i:Nat,vs=[.int .i64 i]∧i≤14∧Cs.takes s=Cs.Dr (Cs.rows.drop i) s∧Own w w' []) (fun vs _=>14 - n0 vs) ⟨0,rfl,by omega,rfl,ho⟩ ?_;clear ho;rintro vs w3 ⟨i,rfl,hi,he,ho⟩ _;simp only[BL,gd,rs];by_cases hlt:(i:Int) < 14
 ·have hi':i < 14:=by omega
  simp only[hlt,decide_true,i_t];obtain⟨hl,hasc,hf⟩:=TY (i:=i) hi';rw[List.drop_eq_getElem_cons (show i < Cs.rows.length from hi'),Cs.Dr] at he;refine aT (UR hi') |>.mpr ?_;generalize Cs.rows[i]=p at *;refine dD (fun b=>.pointer (some ⟨b,0,none⟩)) [.string ⟨#[]⟩,.string ⟨#[]⟩] rwT (fun _=>by kernel_rfl) ho fun b6 w4 ho=>?_;refine Bq 0 ho rfl (new:=[.string ⟨p.1.toArray⟩,.string ⟨p.2.toArray⟩]) VE (by simp[Value.oneCell']) rfl fun w5 ho=>?_;have ho:Own w w5 [.cells b6 [.string ⟨p.1.toArray⟩,.string ⟨p.2.toArray⟩] rwT]:=ho;rw[cF UM,aW mZ (ho.cell 0 rfl 1 rfl)];refine dV (Lj p.2 w5 (hs.own ho) hl hasc hf) fun v w6 hn=>?_;have ho:=ho.join hn;have ho:Own w w6 [gD v (Lib.fields p.2),.cells b6 [.string ⟨p.1.toArray⟩,.string ⟨p.2.toArray⟩] rwT]:=ho;refine c_eq (Bm v (Lib.fields p.2) s w6 (ho.Dh 0 rfl) (by omega)) ?_;by_cases hm:s∈Lib.fields p.2
  ·rw[if_pos hm] at he;simp only[decide_eq_true hm,i_t];rw[cF Vh,aW mZ (ho.cell 1 rfl 0 rfl)];exact hK _ _ ⟨by rw[he],ho.done⟩
  ·rw[if_neg hm] at he;simp only[decide_eq_false hm,i_f,rs];rw[aC (by omega) (by omega)];exact bG ⟨i+1,rfl,by omega,he,ho.tail.tail⟩ (by simp[n0,RowKit.intOf];omega)
 ·simp only[hlt,decide_false,i_f];have:i=14:=by omega
  subst this;rw[show Cs.rows.drop 14=[] from rfl,Cs.Dr] at he;exact hK _ _ ⟨by rw[he],ho.done⟩
 attribute [local congr] iA in
theorem Ov (c:UInt8)(k:Int)(w:World):Ret prog 34 #[.int .i32 (c.toNat:Int),.int .i64 k] w (fun v w'=>v=.bool (Cs.fits c k)∧w=w'):=by
  refine aO fun K hK=>IZ ?_;unfold CL;have q:∀n:UInt8,decide ((c.toNat:Int)=(n.toNat:Int))=decide (c=n):=fun n=>by
   congr 1
   exact propext ⟨fun h=>UInt8.toNat_inj.1 (by omega),fun h=>by rw[h]⟩
  have q110:decide ((c.toNat:Int)=110)=decide (c=110):=q 110;have q115:decide ((c.toNat:Int)=115)=decide (c=115):=q 115;have q78:decide ((c.toNat:Int)=78)=decide (c=78):=q 78;have q97:decide ((c.toNat:Int)=97)=decide (c=97):=q 97;have q100:decide ((c.toNat:Int)=100)=decide (c=100):=q 100;simp +contextual only[rs,gs,q110,q115,q78,q97,q100];have fin:∀{b:Bool},b=Cs.fits c k→K (.returned (.bool b)) w:=fun e=>hK _ _ ⟨by rw[e],rfl⟩;unfold Cs.fits at fin;by_cases h1:c=110
  ·rw[if_pos h1] at fin;simp only[decide_eq_true h1,i_t];exact fin (by cases decide (k=2)<;>rfl)
  rw[if_neg h1] at fin;simp only[decide_eq_false h1,i_f];by_cases h2:c=115
  ·rw[if_pos h2] at fin;simp only[decide_eq_true h2,i_t];exact fin rfl
  rw[if_neg h2] at fin;simp only[decide_eq_false h2,i_f];by_cases h3:c=78
  ·rw[if_pos h3] at fin;simp only[decide_eq_true h3,i_t];exact fin rfl
  rw[if_neg h3] at fin;simp only[decide_eq_false h3,i_f];by_cases h4:c=97
  ·rw[if_pos h4] at fin;simp only[decide_eq_true h4,i_t];exact fin rfl
  rw[if_neg h4] at fin;simp only[decide_eq_false h4,i_f];by_cases h5:c=100
  ·rw[if_pos h5] at fin;simp only[decide_eq_true h5,i_t];exact fin rfl
  rw[if_neg h5] at fin;simp only[decide_eq_false h5,i_f];exact fin rfl
theorem G7 {w0 w:World}{L:List Ent}(h:Own w0 w L)(i:Nat){b:Nat}{s:ByteArray}{p:Nat}(hi:L[i]?=some (.obj b (.stringIter s p))):w.iterPos b=p:=by
 have:w.heap[b]?=some (.stringIter s p):=h.at_ i hi;simp[World.iterPos,this]
theorem EL (o:Cop)(va:Value)(acs:List Value)(M:Mem)(w:World)(hs:Sp w)(hM:M.has w)(hx:OpAt M.A M.w o va acs) :
  Ret prog 15 #[opV o va] w (fun v w'=>v=.int .i64 (Cs.check o)∧Below w.heap.size w w'):=by
 refine aO fun K hK=>GJ ?_;unfold AL;have hMW:∀{W:World} {L:List Ent},Own w W L→M.has W:=fun ho=>Mem.mU hM ho.done;have fin:∀{W:World} {L:List Ent} {e:Int},Own w W L→e=Cs.check o→K (.returned (.int .i64 e)) W:=fun ho e=>hK _ _ ⟨by rw[e],ho.done⟩;unfold Cs.check at fin;refine OB o hx.one (Own.start w) fun b1 w1 ho=>?_;have ho:Own w w1 [opE b1 o va]:=ho;rw[I2,op_n ho 0 rfl];refine dE (A1 o.name w1 (hs.own ho)) rfl ho fun w2 ho=>?_;obtain⟨ht6,htA⟩:=Cs.QM o.name;generalize Cs.takes o.name=l at *;simp only[rs];by_cases h1:l=[63]
 ·rw[if_pos (.inl h1)] at fin;simp only[decide_eq_true h1,rs,g_un];exact fin ho rfl
 simp only[decide_eq_false h1,rs];rw[bD Tryz.underlying9,AX,op_a ho 0 rfl,bF Tryz.underlying40 (hx.args.now (hMW ho))];simp only[rs];by_cases h2:l.length=o.args.length
 case neg=>
  rw[if_pos (.inr h2)] at fin;simp only[ne_eq,show ¬((l.length:Int)=(o.args.length:Int)) by omega,not_false_eq_true,decide_true,rs];exact fin ho rfl
 rw[if_neg (by rintro (h|h)<;>contradiction)] at fin;simp only[ne_eq,show ((l.length:Int)=(o.args.length:Int)) by omega,not_true,decide_false,rs];refine IY Tryz.underlying9 ho fun b2 w3 ho=>?_;have ho:Own w w3 [.obj b2 (.stringIter ⟨l.toArray⟩ 0),opE b1 o va]:=ho;refine loop (fun vs w'=>∃i:Nat,vs=[]∧i≤l.length∧Cs.NL l o.args=Cs.NL (l.drop i) (o.args.drop i)∧Own w w' [.obj b2 (.stringIter ⟨l.toArray⟩ i),opE b1 o va]) (fun vs w'=>l.length - w'.iterPos b2) ⟨0,rfl,by omega,rfl,ho⟩ ?_;clear ho;rintro vs w4 ⟨i,rfl,hi,he,ho⟩ _;have hip:=G7 ho 0 rfl;simp only[BK,gd,rs];by_cases hlt:i < l.length
 ·have hi2:i < o.args.length:=by omega
  refine Mg 0 ho rfl (List.getElem?_eq_getElem hlt) (htA _ (List.getElem_mem hlt)) fun w5 ho=>?_;have ho:Own w w5 [.obj b2 (.stringIter ⟨l.toArray⟩ (i+1)),opE b1 o va]:=ho;simp only[x3_0,x3_1,x3_2,i_t];rw[AX,op_a ho 1 rfl];obtain⟨xk,xc,bo,oo,hov,hr⟩:=MV hx.args hx.all hi2;have hr2:=hr w5 (hMW ho);refine aT hr2.1 |>.mpr ?_;have hq:=hr2.2 0 _ rfl;rw[Nat.add_zero] at hq;rw[oG,aW F2 hq];refine c_eq (Ov l[i] o.args[i].k w5) ?_;rw[List.drop_eq_getElem_cons hlt,List.drop_eq_getElem_cons hi2,Cs.NL] at he;simp only[rs];cases hf:Cs.fits l[i] o.args[i].k with
 |false=>
   rw[hf,Bool.false_and] at he;rw[if_pos he] at fin;simp only[Bool.not_false,i_t];exact fin ho rfl
 |true=>
   rw[hf,Bool.true_and] at he;simp only[Bool.not_true,i_f];refine bG ⟨i+1,rfl,by omega,he,ho⟩ ?_;rw[hip,G7 ho 0 rfl];omega
 ·have hil:i=l.length:=by omega
  subst hil;rw[List.drop_length,Cs.O2] at he
  ·rw[if_neg (by rw[he];simp)] at fin;rw[zT 0 ho rfl (by omega)];simp only[x1_0,i_f];rw[PF,op_d ho 1 rfl];simp only[rs];by_cases h3:o.data=[]
   ·rw[if_neg (by simp[h3])] at fin;simp only[ne_eq,h3,not_true,decide_false,rs];exact fin ho rfl
   ·simp only[ne_eq,h3,not_false_eq_true,decide_true,rs];rw[I2,op_n ho 1 rfl];simp only[rs];by_cases h4:o.name=[66,73]
    ·rw[if_neg (by simp[h4])] at fin;simp only[ne_eq,h4,not_true,decide_false,rs];exact fin ho rfl
    ·rw[if_pos ⟨h3,h4⟩] at fin;simp only[ne_eq,h4,not_false_eq_true,decide_true,rs];exact fin ho rfl
theorem V5:elB prog 2 1 8=true:=by kernel_rfl
theorem KF (o:Ob)(v:Value)(w:World)(hv:OV (InW w) w v o):Ret prog 31 #[v] w (fun v w'=>v=.tuple #[.int .i64 (Cs.number o).1,.bool (Cs.number o).2]∧Below w.heap.size w w'):=by
 refine aO fun K hK=>CI ?_;unfold qE;obtain⟨xk,xc,cs,rfl,hx⟩:=hv.open;refine rR o hx.keys.one hx.kids.one (Own.start w) fun b1 w1 ho=>?_;have ho:Own w w1 [obE b1 o xk xc]:=ho;rw[IQ,ob_n ho 0 rfl];have fin:∀{p:Int×Bool},p=Cs.number o→K (.returned (.tuple #[.int .i64 p.1,.bool p.2])) w1:=fun e=>hK _ _ ⟨by rw[e],ho.done⟩;refine join fun J hJ=>?_;have hJ2:∀x,Cs.num1 x=Cs.number o→J [.int .i64 x] w1:=fun x hx=>by
  refine hJ _ _ fun _=>?_;simp only[uX,gd];refine c_eq (iS x _ _ w1) ?_;simp only[rs];unfold Cs.num1 at hx;cases hb:decide (-1073741824≤x)&&decide (x≤1073741824) with
 |true=>
   rw[if_pos hb] at hx;simp only[Bool.not_true,i_f];exact fin hx
 |false=>
   rw[if_neg (by rw[hb];simp)] at hx;simp only[Bool.not_false,i_t];exact fin hx
 rw[oG,ob_k ho 0 rfl];simp only[rs];unfold Cs.number at fin hJ2;by_cases h2:o.k=2
 ·rw[if_pos h2] at fin hJ2;simp only[decide_eq_true h2,i_t];refine c_eq (iS o.n _ _ w1) ?_;simp only[rs];cases hb:decide (-107374≤o.n)&&decide (o.n≤107374) with
 |false=>
   rw[if_neg (by rw[hb];simp)] at fin;simp only[Bool.not_false,i_t];exact fin rfl
 |true=>
   rw[if_pos hb] at hJ2;simp only[Bool.and_eq_true,decide_eq_true_eq] at hb;simp only[Bool.not_true,i_f];rw[aC (by omega) (by omega)];exact hJ2 _ rfl
 ·rw[if_neg h2] at fin hJ2;simp only[decide_eq_false h2,i_f];by_cases h3:o.k=3
  ·rw[if_pos h3] at hJ2;simp only[decide_eq_true h3,i_t];exact hJ2 _ rfl
  ·rw[if_neg h3] at fin;simp only[decide_eq_false h3,i_f];exact fin rfl
def UC (l:List Int):List Value:=l.map fun x=>.int .i64 x
def numE (v:Value)(l:List Int):Ent:=.urow 2 1 v l.length (UC l)
theorem Nk (o:Cop)(va:Value)(acs:List Value)(M:Mem)(w:World)(hM:M.has w)(hx:OpAt M.A M.w o va acs)(hl:o.args.length≤1000000000) :
  Ret prog 13 #[opV o va] w (fun v w'=>∃r,v=.tuple #[r,.int .i64 (Cs.H7 o.args []).2]∧Own w w' [numE r (Cs.H7 o.args []).1]):=by
 refine aO fun K hK=>HW ?_;unfold CB;have hMW:∀{W:World} {L:List Ent},Own w W L→M.has W:=fun ho=>Mem.mU hM ho.done;have fin:∀{W:World} {r:Value} {q:List Int×Int},Own w W [numE r q.1]→q=Cs.H7 o.args []→K (.returned (.tuple #[r,.int .i64 q.2])) W:=fun ho e=>hK _ _ ⟨_,by subst e;rfl,by subst e;exact ho⟩;refine OB o hx.one ((Own.start w).nilU 2 1) fun b1 w1 ho=>?_;have ho:Own w w1 [opE b1 o va,numE nilS []]:=ho;rw[AX,op_a ho 0 rfl,bF Tryz.underlying40 (hx.args.now (hMW ho))];refine loop (fun vs w'=>∃(i:Nat) (r:Value) (acc:List Int),vs=[r,.int .i64 i]∧i≤o.args.length∧acc.length=i∧Cs.H7 o.args []=Cs.H7 (o.args.drop i) acc∧Own w w' [opE b1 o va,numE r acc]) (fun vs _=>o.args.length - n1 vs) ⟨0,_,[],rfl,by omega,rfl,rfl,ho⟩ ?_;clear ho;rintro vs w3 ⟨i,r,acc,rfl,hi,hacc,he,ho⟩ _;simp only[DD,gd,rs];by_cases hlt:(i:Int) < (o.args.length:Int)
 ·have hi':i < o.args.length:=by omega
  simp only[decide_eq_true hlt,i_t];rw[List.drop_eq_getElem_cons hi',Cs.H7] at he;refine GB (hx.args.now (hMW ho)) (OVs.kept (hMW ho) _ _ hx.all) hi' fun v hv=>?_;have hv0:=hv;obtain⟨xk,xc,xcs,rfl,hxa⟩:=hv.open;have ho3:=ho;refine bU ho fun b7 w4 ho=>?_;refine bA (o':=o.args[i]) 0 hxa.keys.one hxa.kids.one ho rfl fun w5 ho=>?_;have ho:Own w w5 [obE b7 o.args[i] xk xc,opE b1 o va,numE r acc]:=ho;have hv5:OV (InW w5) w5 (obV o.args[i] xk xc) o.args[i]:=OV.mono (fun b hb=>Mem.bd (hMW ho) hb) _ _ (OV.kept (I7 (hMW ho3) (hMW ho)) _ _ hv0);simp only[rs,oG,ob_k ho 0 rfl];by_cases hbad:o.args[i].k≠2∧o.args[i].k≠3
  ·rw[if_pos hbad] at he;simp only[ne_eq,hbad.1,not_false_eq_true,decide_true,rs];rw[ob_k ho 0 rfl];simp only[ne_eq,hbad.2,not_false_eq_true,decide_true,rs];exact fin (q:=([],10)) (ho.tail.tail.tail.nilU 2 1) he.symm
  ·rw[if_neg hbad] at he;have h23:o.args[i].k=2∨o.args[i].k=3:=by omega
   rcases h23 with h2|h3
   case' inl=>simp only[ne_eq,h2,not_true,decide_false,rs]
   case' inr=>
    simp only[ne_eq,show ¬o.args[i].k=2 by omega,not_false_eq_true,decide_true,rs];rw[ob_k ho 0 rfl];simp only[ne_eq,h3,not_true,decide_false,rs]
   all_goals
    rw[ob_v ho 0 rfl];refine dE (KF o.args[i] _ w5 hv5) rfl ho fun w6 ho=>?_;simp only[ex];simp only[rs];cases hb:(Cs.number o.args[i]).2 with
   |false=>
     rw[if_pos hb] at he;simp only[Bool.not_false,i_t];exact fin (q:=([],2)) (ho.tail.tail.tail.nilU 2 1) he.symm
   |true=>
     rw[if_neg (by rw[hb];simp)] at he;simp only[Bool.not_true,i_f];refine dD (fun b=>.slice (some ⟨b,0,none⟩) 1 1) [.int .i64 (Cs.number o.args[i]).1] 2 (fun _=>by kernel_rfl) ho fun nb w7 ho=>?_;refine Bt 3 Tryz.underlying36 V5 (by decide) ho rfl (ho.sl 0 rfl 1 1 1 rfl) (by intro u hu;rw[List.mem_singleton] at hu;subst hu;rfl) (by omega) (by omega) fun v2 w8 ho=>?_;have ho:=ho.tail.tail;rw[aC (by omega) (by omega)];refine bG ⟨i+1,v2,acc++[(Cs.number o.args[i]).1],rfl,by omega,by rw[List.length_append,hacc];rfl,he,?_⟩ (by simp[n1,RowKit.intOf];omega);rw[numE,List.length_append,UC,List.map_append];exact ho
 ·have hil:i=o.args.length:=by omega
  simp only[decide_eq_false hlt,i_f];rw[hil,List.drop_length,Cs.H7] at he;exact fin (q:=(acc,0)) ho.tail he.symm
end
section
open Eng
def fX (w:World)(K:Ending→World→Prop):Prop:=
 CallX prog 8 #[(.string ⟨#[49,32,48,32,48,32,114,103,32,40,97,41,84,106]⟩)] w (pk K) fun t12 w=>
 DoX prog (mExt t12 0) w (pk K) fun t13 w=>
 DoX prog (mExt t12 1) w (pk K) fun t14 w=>
 DoX prog (aN 26) w (pk K) fun t2 w=>
 DoX prog (aD 26 t2 t14) w (pk K) fun _ w=>
 CallX prog 8 #[(.string ⟨#[49,32,50]⟩)] w (pk K) fun t16 w=>
 DoX prog (mExt t16 0) w (pk K) fun t17 w=>
 DoX prog (mExt t16 1) w (pk K) fun t18 w=>
 DoX prog (aN 26) w (pk K) fun t4 w=>
 DoX prog (aD 26 t4 t18) w (pk K) fun _ w=>
 CallX prog 8 #[(.string ⟨#[66,73,32,47,87,32,49,32,73,68,32,97,98,32,69,73,32,113]⟩)] w (pk K) fun t20 w=>
 DoX prog (mExt t20 0) w (pk K) fun t21 w=>
 DoX prog (mExt t20 1) w (pk K) fun t22 w=>
 DoX prog (aN 26) w (pk K) fun t6 w=>
 DoX prog (aD 26 t6 t22) w (pk K) fun _ w=>
 CallX prog 12 #[t21] w (pk K) fun t25 w=>
 DoX prog (mExt t25 0) w (pk K) fun t26 w=>
 DoX prog (mExt t25 1) w (pk K) fun t27 w=>
 DoX prog (aG 42 #[(0,(.int .i64 2)),(1,(.int .i64 2))]) w (pk K) fun t29 w=>
 DoX prog (aG 42 #[(0,(.int .i64 3)),(1,(.int .i64 5))]) w (pk K) fun t30 w=>
 DoX prog (aP 40 2 #[(0,t29),(1,t30)]) w (pk K) fun t31 w=>
 DoX prog (aG 44 #[(1,t31)]) w (pk K) fun t32 w=>
 CallX prog 13 #[t32] w (pk K) fun t33 w=>
 DoX prog (mExt t33 0) w (pk K) fun t34 w=>
 DoX prog (mExt t33 1) w (pk K) fun t35 w=>
 DoX prog (mB .len #[23] 3 #[false] #[t13]) w (pk K) fun t37 w=>
 DoX prog (mEq .eql 3 (.tmp 37) (.const (.int .i64 2)) t37 (.int .i64 2)) w (pk K) fun t38 w=>
 GDo t38 true (fun E=>E t13 w) w fun t40 w=>
 GDo t38 true (fun E=>DoX prog (mIA 23 t40 (.int .i64 0)) w (pk K) E) w fun t41 w=>
 GDo t38 true (fun E=>DoX prog (mFA 44 t41 0) w (pk K) E) w fun t42 w=>
 GDo t38 true (fun E=>DoX prog (aB 9 t42) w (pk K) E) w fun t43 w=>
 GDo t38 true (fun E=>DoX prog (mEq .eql 9 (.tmp 43) (.const (.string ⟨#[114,103]⟩)) t43 (.string ⟨#[114,103]⟩)) w (pk K) E) w fun t44 w=>
 DoX prog (aL t38 t44 (.bool false)) w (pk K) fun t45 w=>
 GDo t45 true (fun E=>E t13 w) w fun t47 w=>
 GDo t45 true (fun E=>DoX prog (mIA 23 t47 (.int .i64 0)) w (pk K) E) w fun t48 w=>
 GDo t45 true (fun E=>DoX prog (mFA 44 t48 1) w (pk K) E) w fun t49 w=>
 GDo t45 true (fun E=>DoX prog (aB 40 t49) w (pk K) E) w fun t50 w=>
 GDo t45 true (fun E=>DoX prog (mB .len #[40] 3 #[false] #[t50]) w (pk K) E) w fun t51 w=>
 GDo t45 true (fun E=>DoX prog (mEq .eql 3 (.tmp 51) (.const (.int .i64 3)) t51 (.int .i64 3)) w (pk K) E) w fun t52 w=>
 DoX prog (aL t45 t52 (.bool false)) w (pk K) fun t53 w=>
 GDo t53 true (fun E=>E t13 w) w fun t55 w=>
 GDo t53 true (fun E=>DoX prog (mIA 23 t55 (.int .i64 1)) w (pk K) E) w fun t56 w=>
 GDo t53 true (fun E=>DoX prog (mFA 44 t56 0) w (pk K) E) w fun t57 w=>
 GDo t53 true (fun E=>DoX prog (aB 9 t57) w (pk K) E) w fun t58 w=>
 GDo t53 true (fun E=>DoX prog (mEq .eql 9 (.tmp 58) (.const (.string ⟨#[84,106]⟩)) t58 (.string ⟨#[84,106]⟩)) w (pk K) E) w fun t59 w=>
 DoX prog (aL t53 t59 (.bool false)) w (pk K) fun t60 w=>
 GDo t60 true (fun E=>E t13 w) w fun t62 w=>
 GDo t60 true (fun E=>DoX prog (mIA 23 t62 (.int .i64 1)) w (pk K) E) w fun t63 w=>
 GDo t60 true (fun E=>DoX prog (mFA 44 t63 1) w (pk K) E) w fun t64 w=>
 GDo t60 true (fun E=>DoX prog (aB 40 t64) w (pk K) E) w fun t65 w=>
 GDo t60 true (fun E=>DoX prog (mIA 40 t65 (.int .i64 0)) w (pk K) E) w fun t66 w=>
 GDo t60 true (fun E=>DoX prog (mFA 42 t66 3) w (pk K) E) w fun t67 w=>
 GDo t60 true (fun E=>DoX prog (aB 9 t67) w (pk K) E) w fun t68 w=>
 GDo t60 true (fun E=>DoX prog (mEq .eql 9 (.tmp 68) (.const (.string ⟨#[97]⟩)) t68 (.string ⟨#[97]⟩)) w (pk K) E) w fun t69 w=>
 DoX prog (aL t60 t69 (.bool false)) w (pk K) fun t70 w=>
 GDo t70 true (fun E=>DoX prog (aB 26 t2) w (pk K) E) w fun t72 w=>
 GDo t70 true (fun E=>DoX prog (aG 26 #[]) w (pk K) E) w fun t73 w=>
 GDo t70 true (fun E=>DoX prog (mEq .eql 26 (.tmp 72) (.tmp 73) t72 t73) w (pk K) E) w fun t74 w=>
 DoX prog (aL t70 t74 (.bool false)) w (pk K) fun t75 w=>
 GDo t75 true (fun E=>DoX prog (aB 26 t4) w (pk K) E) w fun t77 w=>
 GDo t75 true (fun E=>DoX prog (aG 26 #[(0,(.int .i64 3)),(1,(.int .i64 4))]) w (pk K) E) w fun t78 w=>
 GDo t75 true (fun E=>DoX prog (mEq .eql 26 (.tmp 77) (.tmp 78) t77 t78) w (pk K) E) w fun t79 w=>
 DoX prog (aL t75 t79 (.bool false)) w (pk K) fun t80 w=>
 GDo t80 true (fun E=>E t21 w) w fun t82 w=>
 GDo t80 true (fun E=>DoX prog (mB .len #[23] 3 #[false] #[t82]) w (pk K) E) w fun t83 w=>
 GDo t80 true (fun E=>DoX prog (mEq .eql 3 (.tmp 83) (.const (.int .i64 2)) t83 (.int .i64 2)) w (pk K) E) w fun t84 w=>
 DoX prog (aL t80 t84 (.bool false)) w (pk K) fun t85 w=>
 GDo t85 true (fun E=>E t21 w) w fun t87 w=>
 GDo t85 true (fun E=>DoX prog (mIA 23 t87 (.int .i64 0)) w (pk K) E) w fun t88 w=>
 GDo t85 true (fun E=>DoX prog (mFA 44 t88 2) w (pk K) E) w fun t89 w=>
 GDo t85 true (fun E=>DoX prog (aB 9 t89) w (pk K) E) w fun t90 w=>
 GDo t85 true (fun E=>DoX prog (mEq .eql 9 (.tmp 90) (.const (.string ⟨#[97,98]⟩)) t90 (.string ⟨#[97,98]⟩)) w (pk K) E) w fun t91 w=>
 DoX prog (aL t85 t91 (.bool false)) w (pk K) fun t92 w=>
 GDo t92 true (fun E=>E t21 w) w fun t94 w=>
 GDo t92 true (fun E=>DoX prog (mIA 23 t94 (.int .i64 0)) w (pk K) E) w fun t95 w=>
 GDo t92 true (fun E=>DoX prog (mFA 44 t95 1) w (pk K) E) w fun t96 w=>
 GDo t92 true (fun E=>DoX prog (aB 40 t96) w (pk K) E) w fun t97 w=>
 GDo t92 true (fun E=>DoX prog (mB .len #[40] 3 #[false] #[t97]) w (pk K) E) w fun t98 w=>
 GDo t92 true (fun E=>DoX prog (mEq .eql 3 (.tmp 98) (.const (.int .i64 1)) t98 (.int .i64 1)) w (pk K) E) w fun t99 w=>
 DoX prog (aL t92 t99 (.bool false)) w (pk K) fun t100 w=>
 GDo t100 true (fun E=>DoX prog (aB 26 t6) w (pk K) E) w fun t102 w=>
 GDo t100 true (fun E=>DoX prog (aG 26 #[]) w (pk K) E) w fun t103 w=>
 GDo t100 true (fun E=>DoX prog (mEq .eql 26 (.tmp 102) (.tmp 103) t102 t103) w (pk K) E) w fun t104 w=>
 DoX prog (aL t100 t104 (.bool false)) w (pk K) fun t105 w=>
 GDo t105 true (fun E=>E t26 w) w fun t107 w=>
 GDo t105 true (fun E=>DoX prog (mEq .eql 9 (.tmp 107) (.const (.string ⟨#[66,73,47,87,32,49,32,73,68,10,97,98,10,69,73,10,113,10]⟩)) t107 (.string ⟨#[66,73,47,87,32,49,32,73,68,10,97,98,10,69,73,10,113,10]⟩)) w (pk K) E) w fun t108 w=>
 DoX prog (aL t105 t108 (.bool false)) w (pk K) fun t109 w=>
 GDo t109 true (fun E=>E t27 w) w fun t111 w=>
 GDo t109 true (fun E=>DoX prog (mEq .eql 24 (.tmp 111) (.const (.int .i64 0)) t111 (.int .i64 0)) w (pk K) E) w fun t112 w=>
 DoX prog (aL t109 t112 (.bool false)) w (pk K) fun t113 w=>
 GDo t113 true (fun E=>E t34 w) w fun t115 w=>
 GDo t113 true (fun E=>DoX prog (mB .len #[36] 3 #[false] #[t115]) w (pk K) E) w fun t116 w=>
 GDo t113 true (fun E=>DoX prog (mEq .eql 3 (.tmp 116) (.const (.int .i64 2)) t116 (.int .i64 2)) w (pk K) E) w fun t117 w=>
 DoX prog (aL t113 t117 (.bool false)) w (pk K) fun t118 w=>
 GDo t118 true (fun E=>E t34 w) w fun t120 w=>
 GDo t118 true (fun E=>DoX prog (mIA 36 t120 (.int .i64 0)) w (pk K) E) w fun t121 w=>
 GDo t118 true (fun E=>DoX prog (aB 2 t121) w (pk K) E) w fun t122 w=>
 GDo t118 true (fun E=>DoX prog (mEq .eql 2 (.tmp 122) (.const (.int .i64 20000)) t122 (.int .i64 20000)) w (pk K) E) w fun t123 w=>
 DoX prog (aL t118 t123 (.bool false)) w (pk K) fun t124 w=>
 GDo t124 true (fun E=>E t34 w) w fun t126 w=>
 GDo t124 true (fun E=>DoX prog (mIA 36 t126 (.int .i64 1)) w (pk K) E) w fun t127 w=>
 GDo t124 true (fun E=>DoX prog (aB 2 t127) w (pk K) E) w fun t128 w=>
 GDo t124 true (fun E=>DoX prog (mEq .eql 2 (.tmp 128) (.const (.int .i64 5)) t128 (.int .i64 5)) w (pk K) E) w fun t129 w=>
 DoX prog (aL t124 t129 (.bool false)) w (pk K) fun t130 w=>
 GDo t130 true (fun E=>E t35 w) w fun t132 w=>
 GDo t130 true (fun E=>DoX prog (mEq .eql 24 (.tmp 132) (.const (.int .i64 0)) t132 (.int .i64 0)) w (pk K) E) w fun t133 w=>
 DoX prog (aL t130 t133 (.bool false)) w (pk K) fun t134 w=>
 GDo t134 true (fun E=>CallX prog 14 #[(.string ⟨#[84,102]⟩)] w (pk K) E) w fun t136 w=>
 GDo t134 true (fun E=>DoX prog (mEq .eql 9 (.tmp 136) (.const (.string ⟨#[78,110]⟩)) t136 (.string ⟨#[78,110]⟩)) w (pk K) E) w fun t137 w=>
 DoX prog (aL t134 t137 (.bool false)) w (pk K) fun t138 w=>
 GDo t138 true (fun E=>CallX prog 14 #[(.string ⟨#[120]⟩)] w (pk K) E) w fun t140 w=>
 GDo t138 true (fun E=>DoX prog (mEq .eql 9 (.tmp 140) (.const (.string ⟨#[63]⟩)) t140 (.string ⟨#[63]⟩)) w (pk K) E) w fun t141 w=>
 DoX prog (aL t138 t141 (.bool false)) w (pk K) fun t142 w=>
 GDo t142 true (fun E=>E t13 w) w fun t144 w=>
 GDo t142 true (fun E=>DoX prog (mIA 23 t144 (.int .i64 0)) w (pk K) E) w fun t145 w=>
 GDo t142 true (fun E=>DoX prog (aB 44 t145) w (pk K) E) w fun t146 w=>
 GDo t142 true (fun E=>CallX prog 15 #[t146] w (pk K) E) w fun t147 w=>
 GDo t142 true (fun E=>DoX prog (mEq .eql 24 (.tmp 147) (.const (.int .i64 0)) t147 (.int .i64 0)) w (pk K) E) w fun t148 w=>
 DoX prog (aL t142 t148 (.bool false)) w (pk K) fun t149 w=>
 GDo t149 true (fun E=>E t13 w) w fun t151 w=>
 GDo t149 true (fun E=>DoX prog (mIA 23 t151 (.int .i64 0)) w (pk K) E) w fun t152 w=>
 GDo t149 true (fun E=>DoX prog (mFA 44 t152 1) w (pk K) E) w fun t153 w=>
 GDo t149 true (fun E=>DoX prog (aB 40 t153) w (pk K) E) w fun t154 w=>
 GDo t149 true (fun E=>DoX prog (aG 44 #[(0,(.string ⟨#[113]⟩)),(1,t154)]) w (pk K) E) w fun t155 w=>
 GDo t149 true (fun E=>CallX prog 15 #[t155] w (pk K) E) w fun t156 w=>
 GDo t149 true (fun E=>DoX prog (mEq .eql 24 (.tmp 156) (.const (.int .i64 28)) t156 (.int .i64 28)) w (pk K) E) w fun t157 w=>
 DoX prog (aL t149 t157 (.bool false)) w (pk K) fun t158 w=>
 K (.returned t158) w
theorem sM (w:World)(K:Ending→World→Prop):wpX prog 159 [] [] none (aK Tryz.f7) (topQ prog [.tmp 0] K) (aJ []) [] w=fX w K:=by kernel_rfl
theorem uJ {w:World}{K:Ending→World→Prop}(h:fX w K):Calls prog 7 #[] w K:=
 aA Tryz.func7 rfl rfl rfl rfl (Eq.mpr (sM w K) h)
def eG (t0:Value)(w:World)(K:Ending→World→Prop):Prop:=
 DoX prog (mB .len #[9] 3 #[false] #[t0]) w (pk K) fun t8 w=>
 DoX prog (mBin .gtr 3 t8 (.int .i64 3000)) w (pk K) fun t9 w=>
 IfX t9 (CallX prog 7 #[] w (pk K) fun t10 w=>
 K (.returned t10) w) (CallX prog 8 #[t0] w (pk K) fun t13 w=>
 DoX prog (mExt t13 0) w (pk K) fun t14 w=>
 DoX prog (mExt t13 1) w (pk K) fun t15 w=>
 DoX prog (aN 26) w (pk K) fun t4 w=>
 DoX prog (aD 26 t4 t15) w (pk K) fun _ w=>
 CallX prog 9 #[t0] w (pk K) fun t18 w=>
 DoX prog (mExt t18 0) w (pk K) fun t19 w=>
 DoX prog (mExt t18 1) w (pk K) fun t20 w=>
 DoX prog (aN 26) w (pk K) fun t6 w=>
 DoX prog (aD 26 t6 t20) w (pk K) fun _ w=>
 CallX prog 10 #[t14,t19] w (pk K) fun t23 w=>
 GDo t23 true (fun E=>DoX prog (aB 26 t4) w (pk K) E) w fun t25 w=>
 GDo t23 true (fun E=>DoX prog (aB 26 t6) w (pk K) E) w fun t26 w=>
 GDo t23 true (fun E=>DoX prog (mEq .eql 26 (.tmp 25) (.tmp 26) t25 t26) w (pk K) E) w fun t27 w=>
 DoX prog (aL t23 t27 (.bool false)) w (pk K) fun t28 w=>
 GDo t28 true (fun E=>CallX prog 7 #[] w (pk K) E) w fun t30 w=>
 DoX prog (aL t28 t30 (.bool false)) w (pk K) fun t31 w=>
 K (.returned t31) w)
theorem qS (t0:Value)(w:World)(K:Ending→World→Prop):wpX prog 32 [] [] none (aK Tryz.f3) (topQ prog [.tmp 2] K) (aJ [t0]) [] w=eG t0 w K:=by kernel_rfl
theorem qP {t0:Value}{w:World}{K:Ending→World→Prop}(h:eG t0 w K):Calls prog 3 #[t0] w K:=
 aA Tryz.func3 rfl rfl rfl rfl (Eq.mpr (qS t0 w K) h)
end
section
open Eng Go.RowKit
abbrev smA:List UInt8:=[49,32,48,32,48,32,114,103,32,40,97,41,84,106]
abbrev smB:List UInt8:=[49,32,50]
abbrev smC:List UInt8:=[66,73,32,47,87,32,49,32,73,68,32,97,98,32,69,73,32,113]
abbrev loA:List Cop:=[⟨[114,103],[ob1 2 1 0 [],ob1 2 0 0 [],ob1 2 0 0 []],[]⟩,⟨[84,106],[ob1 4 0 0 [97]],[]⟩]
abbrev loC:List Cop:=[⟨[66,73],[.mk 7 0 0 [] [[87]] [ob1 2 1 0 []]],[97,98]⟩,⟨[113],[],[]⟩]
theorem RP:Cs.read smA=(loA,⟨0,0⟩):=by kernel_rfl
theorem Rb:Cs.read smB=([],⟨3,4⟩):=by kernel_rfl
theorem RD:Cs.read smC=(loC,⟨0,0⟩):=by kernel_rfl
theorem Q3:Cs.text loC=([66,73,47,87,32,49,32,73,68,10,97,98,10,69,73,10,113,10],0):=by kernel_rfl
theorem Np:Cs.takes [84,102]=[78,110]:=by kernel_rfl
theorem Qp:Cs.takes [120]=[63]:=by kernel_rfl
theorem ON:Cs.check ⟨[114,103],[ob1 2 1 0 [],ob1 2 0 0 [],ob1 2 0 0 []],[]⟩=0:=by kernel_rfl
theorem OJ:Cs.check ⟨[113],[ob1 2 1 0 [],ob1 2 0 0 [],ob1 2 0 0 []],[]⟩=28:=by kernel_rfl
theorem TT:Cs.H7 [ob1 2 2 0 [],ob1 3 5 0 []] []=([20000,5],0):=by kernel_rfl
section
variable {w:World}{PK:PKT}{S:Nat→Prop}{w0:World}{L:List Ent}
theorem Ew {s:List UInt8}{M:Mem}{K:Value→VWP}(i:Nat)(ho:OwnS S w0 w L)(hi:L[i]?=some (.mem M))(hs:s.length≤1000000000)
  (k:∀b vl N w',M.le N→OpsV N.A N.w vl (Cs.read s).1→OwnS S w0 w' (fltE b ((Cs.read s).2.at_,(Cs.read s).2.e)::L.set i (.mem N))→K vl (.pointer (some ⟨b,0,none⟩)) w') :
  CallX prog 8 #[.string ⟨s.toArray⟩] w PK fun t w=>DoX prog (mExt t 0) w PK fun t0 w=>DoX prog (mExt t 1) w PK fun t1 w=>
   DoX prog (aN 26) w PK fun p w=>DoX prog (aD 26 p t1) w PK fun _ w=>K t0 p w:=by
 refine DP ho i hi (NK s M w hs (ho.hasM i hi)) ?_;rintro _ N w1 hle ⟨vl,rfl,hov⟩ ho;simp only[ex];refine Ia ho fun b w2 ho=>?_;refine jT (g:=((Cs.read s).2.at_,(Cs.read s).2.e)) 0 ho rfl fun w3 ho=>?_;exact k b vl N w3 hle hov ho
theorem Oy {s:List UInt8}{M:Mem}{K:Value→VWP}(i:Nat)(ho:OwnS S w0 w L)(hi:L[i]?=some (.mem M))(hs:s.length≤1000000000)
  (k:∀b vl N w',M.le N→OpsV N.A N.w vl (Cs.read s).1→OwnS S w0 w' (fltE b ((Cs.read s).2.at_,(Cs.read s).2.e)::L.set i (.mem N))→K vl (.pointer (some ⟨b,0,none⟩)) w') :
  CallX prog 9 #[.string ⟨s.toArray⟩] w PK fun t w=>DoX prog (mExt t 0) w PK fun t0 w=>DoX prog (mExt t 1) w PK fun t1 w=>
   DoX prog (aN 26) w PK fun p w=>DoX prog (aD 26 p t1) w PK fun _ w=>K t0 p w:=by
 refine DP ho i hi (Lf s hs M w (ho.hasM i hi)) ?_;rintro _ N w1 hle ⟨vl,rfl,hov⟩ ho;simp only[ex];refine Ia ho fun b w2 ho=>?_;refine jT (g:=((Cs.read s).2.at_,(Cs.read s).2.e)) 0 ho rfl fun w3 ho=>?_;exact k b vl N w3 hle hov ho
end
theorem KW (W:World)(ht:Tb W)(hsp:Sp W):Ret prog 7 #[] W (fun v w'=>v=.bool true∧Below W.heap.size W w'):=by
 refine aO fun K hK=>uJ ?_;unfold fX;have hM:(Mem.all W).has W:=Mem.FI W;have tb:∀{w:World} {L:List Ent} {N:Mem} (j:Nat),OwnS (Mem.all W).A W w L→L[j]?=some (.mem N)→(Mem.all W).le N→Tb w:=fun j ho hj hle=>ht.mono (ho.Ba j hj hle hM).below;have sp:∀{w:World} {L:List Ent} {N:Mem} (j:Nat),OwnS (Mem.all W).A W w L→L[j]?=some (.mem N)→(Mem.all W).le N→Sp w:=fun j ho hj hle=>hsp.mono (ho.Ba j hj hle hM).below;refine Ew (s:=smA) 0 (OwnS.memS hM) rfl (by decide) fun b2 vA N1 w1 g1 oA ho=>?_;rw[RP] at oA ho;have ho:OwnS (Mem.all W).A W w1 [fltE b2 (0,0),.mem N1]:=ho;refine Ew (s:=smB) 1 ho rfl (by decide) fun b4 vB N2 w2 g2 oB ho=>?_;rw[Rb] at oB ho;have ho:OwnS (Mem.all W).A W w2 [fltE b4 (3,4),fltE b2 (0,0),.mem N2]:=ho;refine Ew (s:=smC) 2 ho rfl (by decide) fun b6 vC N3 w3 g3 oC ho=>?_;rw[RD] at oC ho;have ho:OwnS (Mem.all W).A W w3 [fltE b6 (0,0),fltE b4 (3,4),fltE b2 (0,0),.mem N3]:=ho;have g12:=g1.trans (g2.trans g3);have oA:=oA.le (g2.trans g3);obtain⟨cC,sC,pC⟩:=oC;refine aS ho (R:=fun v=>v=txtV (Cs.text loC)) (Oe loC vC cC N3 w3 (tb 3 ho rfl g12) (ho.hasM 3 rfl) sC pC (by decide)) ?_;rintro _ w4 rfl ho;rw[Q3];simp only[txtV,ex];have m2:∀{PK:PKT} {K:VWP},DoX prog (aG 42 #[(0,(.int .i64 2)),(1,(.int .i64 2))]) w4 PK K=K (obV (ob1 2 2 0 []) nilS nilS) w4:=aT (by kernel_rfl);have m3:∀{PK:PKT} {K:VWP},DoX prog (aG 42 #[(0,(.int .i64 3)),(1,(.int .i64 5))]) w4 PK K=K (obV (ob1 3 5 0 []) nilS nilS) w4:=aT (by kernel_rfl);rw[m2,m3];refine dD (fun b=>.slice (some ⟨b,0,none⟩) 2 2) (obC (ob1 2 2 0 []) nilS nilS++obC (ob1 3 5 0 []) nilS nilS) 42 (fun _=>by kernel_rfl) ho fun b31 w5 ho=>?_;have mo:∀{PK:PKT} {K:VWP},DoX prog (aG 44 #[(1,.slice (some ⟨b31,0,none⟩) 2 2)]) w5 PK K=K (opV ⟨[],[ob1 2 2 0 [],ob1 3 5 0 []],[]⟩ (.slice (some ⟨b31,0,none⟩) 2 2)) w5:=aT (by kernel_rfl);rw[mo];have ho:=ho.toU 6 2 2 (by rfl) (by omega) (by omega);obtain⟨N4,g4,hrow,ho⟩:=OwnS.eT (L:=[fltE b6 (0,0),fltE b4 (3,4),fltE b2 (0,0),.mem N3]) ho 3 rfl;have ho:OwnS (Mem.all W).A W w5 [fltE b6 (0,0),fltE b4 (3,4),fltE b2 (0,0),.mem N4]:=ho;have hX:OpAt N4.A N4.w ⟨[],[ob1 2 2 0 [],ob1 3 5 0 []],[]⟩ (.slice (some ⟨b31,0,none⟩) 2 2) (obC (ob1 2 2 0 []) nilS nilS++obC (ob1 3 5 0 []) nilS nilS):=⟨hrow,RB (LZ _ _ _ _) (DQ (LZ _ _ _ _))⟩;refine dV (Nk _ _ _ N4 w5 (ho.hasM 3 rfl) hX (by decide)) ?_;rintro _ w6 ⟨vN,rfl,hn⟩;rw[TT] at hn ⊢;have ho:=ho.join hn;have ho:OwnS (Mem.all W).A W w6 [numE vN [20000,5],fltE b6 (0,0),fltE b4 (3,4),fltE b2 (0,0),.mem N4]:=ho;simp only[ex];have hW6:=ho.hasM 4 rfl;have oA:=oA.le g4;obtain⟨cA,sA,pA⟩:=oA;have sC:=sC.le g4;have pC:=PVs.le g4 pC;obtain⟨va0,ac0,p0,q0,x0,r0⟩:=Li sA pA (i:=0) (by decide);obtain⟨va1,ac1,p1,q1,x1,r1⟩:=Li sA pA (i:=1) (by decide);obtain⟨va2,ac2,p2,q2,x2,r2⟩:=Li sC pC (i:=0) (by decide);obtain⟨xk,xc,p3,q3,x3,r3⟩:=MV x1.args x1.all (i:=0) (by decide);have hsN:Sl w6 vN 1 2 [.int .i64 20000,.int .i64 5]:=ho.slU 0 rfl;obtain⟨bN,oN,cN,rfl,hcN⟩:=gA hsN (by decide);have lenA:∀{PK:PKT} {K:VWP},DoX prog (mB .len #[23] 3 #[false] #[vA]) w6 PK K=K (.int .i64 2) w6:=bF Tryz.underlying23 (sA.now hW6);have lenC:∀{PK:PKT} {K:VWP},DoX prog (mB .len #[23] 3 #[false] #[vC]) w6 PK K=K (.int .i64 2) w6:=bF Tryz.underlying23 (sC.now hW6);have iA0:∀{PK:PKT} {K:VWP},DoX prog (mIA 23 vA (.int .i64 0)) w6 PK K=K (.pointer (some ⟨p0,q0,none⟩)) w6:=aT (r0 w6 hW6).1;have iA1:∀{PK:PKT} {K:VWP},DoX prog (mIA 23 vA (.int .i64 1)) w6 PK K=K (.pointer (some ⟨p1,q1,none⟩)) w6:=aT (r1 w6 hW6).1;have iC0:∀{PK:PKT} {K:VWP},DoX prog (mIA 23 vC (.int .i64 0)) w6 PK K=K (.pointer (some ⟨p2,q2,none⟩)) w6:=aT (r2 w6 hW6).1;have iO:∀{PK:PKT} {K:VWP},DoX prog (mIA 40 va1 (.int .i64 0)) w6 PK K=K (.pointer (some ⟨p3,q3,none⟩)) w6:=aT (r3 w6 hW6).1;have nA0:∀{PK:PKT} {K:VWP},DoX prog (aB 9 (.pointer (some ⟨p0,q0,none⟩))) w6 PK K=K (.string ⟨([114,103]:List UInt8).toArray⟩) w6:=aW mZ (by have:=(r0 w6 hW6).2 0 _ rfl;rwa [Nat.add_zero] at this);have nA1:∀{PK:PKT} {K:VWP},DoX prog (aB 9 (.pointer (some ⟨p1,q1,none⟩))) w6 PK K=K (.string ⟨([84,106]:List UInt8).toArray⟩) w6:=aW mZ (by have:=(r1 w6 hW6).2 0 _ rfl;rwa [Nat.add_zero] at this);have aA0:∀{PK:PKT} {K:VWP},DoX prog (aB 40 (.pointer (some ⟨p0,q0+1,none⟩))) w6 PK K=K (va0) w6:=aW BO ((r0 w6 hW6).2 1 _ rfl);have aA1:∀{PK:PKT} {K:VWP},DoX prog (aB 40 (.pointer (some ⟨p1,q1+1,none⟩))) w6 PK K=K (va1) w6:=aW BO ((r1 w6 hW6).2 1 _ rfl);have aC0:∀{PK:PKT} {K:VWP},DoX prog (aB 40 (.pointer (some ⟨p2,q2+1,none⟩))) w6 PK K=K (va2) w6:=aW BO ((r2 w6 hW6).2 1 _ rfl);have dC0:∀{PK:PKT} {K:VWP},DoX prog (aB 9 (.pointer (some ⟨p2,q2+2,none⟩))) w6 PK K=K (.string ⟨([97,98]:List UInt8).toArray⟩) w6:=aW mZ ((r2 w6 hW6).2 2 _ rfl);have sO:∀{PK:PKT} {K:VWP},DoX prog (aB 9 (.pointer (some ⟨p3,q3+3,none⟩))) w6 PK K=K (.string ⟨([97]:List UInt8).toArray⟩) w6:=aW mZ ((r3 w6 hW6).2 3 _ rfl);have len0:∀{PK:PKT} {K:VWP},DoX prog (mB .len #[40] 3 #[false] #[va0]) w6 PK K=K (.int .i64 3) w6:=bF Tryz.underlying40 (x0.args.now hW6);have len2:∀{PK:PKT} {K:VWP},DoX prog (mB .len #[40] 3 #[false] #[va2]) w6 PK K=K (.int .i64 1) w6:=bF Tryz.underlying40 (x2.args.now hW6);have lenN:∀{PK:PKT} {K:VWP},DoX prog (mB .len #[36] 3 #[false] #[.slice (some ⟨bN,oN,none⟩) 2 cN]) w6 PK K=K (.int .i64 2) w6:=NA Tryz.underlying36;have iN0:∀{PK:PKT} {K:VWP},DoX prog (mIA 36 (.slice (some ⟨bN,oN,none⟩) 2 cN) (.int .i64 0)) w6 PK K=K (.pointer (some ⟨bN,oN+0*1,none⟩)) w6:=aT (nM (i:=(0:Int)) Tryz.underlying36 (show (Tryz.prog.info? 2).map (·.size)=some 1 by kernel_rfl) (by omega) (by omega));have vN0:∀{PK:PKT} {K:VWP},DoX prog (aB 2 (.pointer (some ⟨bN,oN+0*1,none⟩))) w6 PK K=K (.int .i64 20000) w6:=aW nI65 (hcN 0 _ rfl);have iN1:∀{PK:PKT} {K:VWP},DoX prog (mIA 36 (.slice (some ⟨bN,oN,none⟩) 2 cN) (.int .i64 1)) w6 PK K=K (.pointer (some ⟨bN,oN+1*1,none⟩)) w6:=aT (nM (i:=(1:Int)) Tryz.underlying36 (show (Tryz.prog.info? 2).map (·.size)=some 1 by kernel_rfl) (by omega) (by omega));have vN1:∀{PK:PKT} {K:VWP},DoX prog (aB 2 (.pointer (some ⟨bN,oN+1*1,none⟩))) w6 PK K=K (.int .i64 5) w6:=aW nI65 (hcN 1 _ rfl);have f2:∀{PK:PKT} {K:VWP},DoX prog (aB 26 (.pointer (some ⟨b2,0,none⟩))) w6 PK K=K (fltV (0,0)) w6:=l_at (ho.agg 3 rfl mF);have f4:∀{PK:PKT} {K:VWP},DoX prog (aB 26 (.pointer (some ⟨b4,0,none⟩))) w6 PK K=K (fltV (3,4)) w6:=l_at (ho.agg 2 rfl mF);have f6:∀{PK:PKT} {K:VWP},DoX prog (aB 26 (.pointer (some ⟨b6,0,none⟩))) w6 PK K=K (fltV (0,0)) w6:=l_at (ho.agg 1 rfl mF);simp only[rs,lenA,eq_self,decide_true];simp only[rs,iA0,I2,nA0,eq_self,decide_true];simp only[rs,iA0,AX,aA0,len0,eq_self,decide_true];simp only[rs,iA1,I2,nA1,eq_self,decide_true];simp only[rs,iA1,AX,aA1,iO,K8,sO,eq_self,decide_true];simp only[rs,f2,SN,QW,eq_self,decide_true];simp only[rs,f4,Uw,QW,eq_self,decide_true];simp only[rs,lenC,eq_self,decide_true];simp only[rs,iC0,PF,dC0,eq_self,decide_true];simp only[rs,iC0,AX,aC0,len2,eq_self,decide_true];simp only[rs,f6,SN,QW,eq_self,decide_true];simp only[rs,lenN,eq_self,decide_true];simp only[rs,iN0,vN0,eq_self,decide_true];simp only[rs,iN1,vN1,eq_self,decide_true];refine aS ho (R:=fun v=>v=.string ⟨(Cs.takes [84,102]).toArray⟩) (A1 [84,102] w6 (sp 4 ho rfl (g12.trans g4))) ?_;rintro _ w7 rfl ho;rw[Np];simp only[rs,eq_self,decide_true];refine aS ho (R:=fun v=>v=.string ⟨(Cs.takes [120]).toArray⟩) (A1 [120] w7 (sp 4 ho rfl (g12.trans g4))) ?_;rintro _ w8 rfl ho;rw[Qp];simp only[rs,eq_self,decide_true];have hW8:=ho.hasM 4 rfl;have x0:OpAt N4.A N4.w ⟨[114,103],[ob1 2 1 0 [],ob1 2 0 0 [],ob1 2 0 0 []],[]⟩ va0 ac0:=x0;refine aT (r0 w8 hW8).1 |>.mpr (aT (PU (r0 w8 hW8).2) |>.mpr ?_)
 try simp only[rs]
 refine aS ho (R:=fun v=>v=.int .i64 (Cs.check ⟨[114,103],[ob1 2 1 0 [],ob1 2 0 0 [],ob1 2 0 0 []],[]⟩)) (EL _ va0 ac0 N4 w8 (sp 4 ho rfl (g12.trans g4)) hW8 x0) ?_;rintro _ w9 rfl ho;rw[ON];have hW9:=ho.hasM 4 rfl;simp only[rs,eq_self,decide_true];refine aT (r0 w9 hW9).1 |>.mpr ?_
 try simp only[rs]
 rw[AX]
 try simp only[rs]
 rw[aW BO ((r0 w9 hW9).2 1 _ rfl)]
 try simp only[rs]
 rw[show (Value.string ⟨#[113]⟩)=.string ⟨([113]:List UInt8).toArray⟩ from rfl,IU [113] va0 x0.one];have x3:OpAt N4.A N4.w ⟨[113],[ob1 2 1 0 [],ob1 2 0 0 [],ob1 2 0 0 []],[]⟩ va0 ac0:=⟨x0.args,x0.all⟩
 try simp only[rs]
 refine aS ho (R:=fun v=>v=.int .i64 (Cs.check ⟨[113],[ob1 2 1 0 [],ob1 2 0 0 [],ob1 2 0 0 []],[]⟩)) (EL _ va0 ac0 N4 w9 (sp 4 ho rfl (g12.trans g4)) hW9 x3) ?_;rintro _ w10 rfl ho;rw[OJ];simp only[rs,eq_self,decide_true];exact hK _ _ ⟨rfl,(ho.Ba 4 rfl (g12.trans g4) hM).below⟩
end
section
open Eng Go.RowKit
theorem Cs.Q5 (l:List Cop):Cs.eqs l l=true:=(Cs.LD l l).2 rfl
section
variable {W:World}{K:Ending→World→Prop}
theorem HB (ht:Tb W)(hsp:Sp W)(hK:∀(v:Value) (w':World),v=.bool true∧Below W.heap.size W w'→K (.returned v) w'){w:World}{N:Mem}{L:List Ent}(ho:OwnS (Mem.all W).A W w (L++([.mem N]++[])))(hle:(Mem.all W).le N):CallX prog 7 #[] w (pk K) fun t w=>K (.returned t) w:=by
 have ho:=ho.front;refine aS ho (R:=fun v=>v=.bool true) (KW w (ht.mono (ho.Ba 0 rfl hle (Mem.FI W)).below) (hsp.mono (ho.Ba 0 rfl hle (Mem.FI W)).below)) ?_;rintro _ w2 rfl ho;exact hK _ _ ⟨rfl,(ho.Ba 0 rfl hle (Mem.FI W)).below⟩
end
theorem KX (s:List UInt8)(W:World)(ht:Tb W)(hsp:Sp W):Ret prog 3 #[.string ⟨s.toArray⟩] W (fun v w'=>v=.bool true∧Below W.heap.size W w'):=by
 refine aO fun K hK=>qP ?_;unfold eG;have hM:(Mem.all W).has W:=Mem.FI W;rw[bD Tryz.underlying9];simp only[rs];by_cases hl:(3000:Int) < (s.length:Int)
 ·simp only[decide_eq_true hl,i_t];exact HB ht hsp hK (L:=[]) (OwnS.memS hM) (Mem.all W).le_refl
 simp only[decide_eq_false hl,i_f];refine Ew (s:=s) 0 (OwnS.memS hM) rfl (by omega) fun b4 vA N1 w1 g1 oA ho=>?_;refine Oy (s:=s) 1 ho rfl (by omega) fun b6 vB N2 w2 g2 oB ho=>?_;have ho:OwnS (Mem.all W).A W w2 [fltE b6 ((Cs.read s).2.at_,(Cs.read s).2.e),fltE b4 ((Cs.read s).2.at_,(Cs.read s).2.e),.mem N2]:=ho;have hwt:=Cs.TX s;obtain⟨cA,sA,pA⟩:=oA.le g2;obtain⟨cB,sB,pB⟩:=oB;refine aS ho (R:=fun v=>v=.bool (Cs.eqs (Cs.read s).1 (Cs.read s).1)) (La _ _ vA vB cA cB N2 w2 (ho.hasM 2 rfl) sA pA sB pB (by omega)) ?_;rintro _ w3 rfl ho;rw[Cs.Q5];simp only[rs];rw[l_at (ho.agg 1 rfl mF)];simp only[rs];rw[l_at (ho.agg 0 rfl mF)]
 try simp only[rs]
 refine (QW (x:=((Cs.read s).2.at_,(Cs.read s).2.e)) (y:=((Cs.read s).2.at_,(Cs.read s).2.e))).mpr ?_;simp only[rs,eq_self,decide_true];exact HB ht hsp hK (L:=[_,_]) ho (g1.trans g2)
end
end Go.Proofs.YtoofficgclghoaaGreatDoor

