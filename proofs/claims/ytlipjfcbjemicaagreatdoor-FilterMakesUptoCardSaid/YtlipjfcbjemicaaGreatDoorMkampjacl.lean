/- Texts that go together: DfG DfH SCodeW DfI SBitW DfA InfGx DfB SDefl DfC DfJ DfD DfK DfL. -/
import Derived.Test.YtlipjfcbjemicaaGreatDoorRows
import Derived.Test.YtlipjfcbjemicaaGreatDoorMmogppjjb
import Derived.Test.YtlipjfcbjemicaaGreatDoorMmobppmkb
import Derived.Test.YtlipjfcbjemicaaGreatDoorMmflabinf
import Derived.Test.YtlipjfcbjemicaaGreatDoorMnegemnlf
import Derived.Test.YtlipjfcbjemicaaGreatDoorMnnoonhij
import Derived.Test.YtlipjfcbjemicaaGreatDoorMckkjeape
set_option linter.defProp false
set_option linter.unusedSimpArgs false
set_option linter.unusedVariables false
set_option maxRecDepth 20000
open Go.Proofs.Tryz (prog)
namespace Go.Proofs.YtlipjfcbjemicaaGreatDoor
variable{A S:Nat->Prop}{K:VWP}{M N:Eng.Mem}{P:Program}{PK:PKT}{Sy l near:List Nat}{T1 T2 U:TypeId}{W w w0:World}{a way:Int}{b cap fb i j jm m t tb:Nat}{cb:Array Bool}{cs:List Value}{cv v v':Value}{k':IntKind}{ps:List Pc}{r:List Cn}{xo yo:Operand}{α:Type}
section
open Eng Go.RowKit
theorem Srt.lt_t {wt:α->Nat}{x y:α}(h:wt x < wt y):Srt.lt wt x y=true:=ahB h
theorem Srt.lt_f {wt:α->Nat}{x y:α}(h:¬wt x < wt y):¬Srt.lt wt x y=true:=fun k=>h (ahO k)
section
variable {w:World}{PK PK2 PK3:PKT}{K:VWP}{S:Nat->Prop}{w0:World}{L T:List Ent}
theorem Wv {b:Bool}:(mUn .not (.bool b)).run P W=.ok (.value (.bool (!b))) W:=bL (by simp[Op.unary])
theorem NA {n:Nat}(h:n<=4000000000):DoX prog (gL 3 84 (.int .i64 (n:Int))) w PK (fun t w=>DoX prog (mBin .shr 84 t (.int .u64 1)) w PK2 fun t w=>DoX prog (gL 84 3 t) w PK3 K)=K (.int .i64 ((n / 2:Nat):Int)) w:=by
 rw[Tm (show (Tryz.prog.underlying 3).isSome=true by kernel_rfl) amT,HA om,shr1 om om,
  Tm (show (Tryz.prog.underlying 84).isSome=true by kernel_rfl) aiX,aA om om]
 rfl
theorem Vt {g cap N jm:Nat}{cv:Value}{ok:Pc->Prop}{M:Mem}(hc:CmpOk M cv ok)(hm:T[jm]?=some (.mem M))(hl:N<=1000000000):∀(f a m b:Nat) {w:World} {PK:PKT} {K:VWP} {ps:List Pc},b - a<=f->a < m->m < b->b<=N->ps.length=N->OwnS S w0 w (pcE (.slice (some ⟨g,0,none⟩) N cap) ps::T)->(∀x∈ps,ok x) ->
  (∀W,(∀x∈Srt.sym pd pw f a m b ps,ok x)->OwnS S w0 W (pcE (.slice (some ⟨g,0,none⟩) N cap) (Srt.sym pd pw f a m b ps)::T)->K (.tuple #[]) W) ->
  CallX prog 366 #[.slice (some ⟨g,0,none⟩) N cap,.int .i64 (a:Int),.int .i64 (m:Int),.int .i64 (b:Int),cv] w PK K
|0,a,m,b,_,_,_,_,hf,ham,hmb,_,_,_,_,_=>by omega
|f+1,a,m,b,w,PK,K,ps,hf,ham,hmb,hbN,hN,ho,hok,k=>by
  generalize hR:Srt.sym pd pw (f+1) a m b ps=R at k;refine fH (fF (K:=RetK fun v W=>v=.tuple #[]∧(∀x∈R,ok x)∧OwnS S w0 W (pcE (.slice (some ⟨g,0,none⟩) N cap) R::T)) ?_) (fun e W ⟨v,he,hv,h1,ho⟩=>by subst he;subst hv;exact k W h1 ho);unfold dI nz;obtain⟨cf,cfa,cca,hcv,hcp,hcr⟩:=hc.run;have hm2:∀{W:World} {e:Ent},OwnS S w0 W (e::T)->M.has W:=fun ho=>ho.hasM (jm+1) (by rw[aiP];exact hm);have cmp:∀{C:Value->Prop} {zs:List Pc} {i j:Nat},zs.length=N->(∀x∈zs,ok x)->i < N->j < N->C (.int .i64 (cmpI (pw (zs.getD i pd)) (pw (zs.getD j pd))))->QDo prog (fun W=>OwnS S w0 W (pcE (.slice (some ⟨g,0,none⟩) N cap) zs::T)) (gI cv #[(zs.getD i pd).1,(zs.getD j pd).1]) C:=by
   intro C zs i j hz hzo hi hj hC;subst hcv;exact U5 hcp _ (fun W h=>(hcr W _ _ (hm2 h) (hzo _ (rK om)) (hzo _ (rK om))).mono fun v w' r=>⟨r.1,h.grow r.2⟩) hC
  unfold Srt.sym at hR;simp only[rs];rw[aA om om,show (m:Int) - (a:Int)=((m - a:Nat):Int) by omega];by_cases h1:m - a=1
  ·rw[agW h1] at hR;simp only[show decide (((m - a:Nat):Int)=1)=true from ahB om,i_t];generalize hs:Srt.bs (fun h=>!Srt.lt pw (ps.getD h pd) (ps.getD a pd)) (b - m) m b=s at hR;refine loop (fun vs W=>∃(i j f:Nat),vs=[.int .i64 (i:Int),.int .i64 (j:Int)]∧m<=i∧i<=j∧j<=b∧j - i<=f∧Srt.bs (fun h=>!Srt.lt pw (ps.getD h pd) (ps.getD a pd)) f i j=s∧OwnS S w0 W (pcE (.slice (some ⟨g,0,none⟩) N cap) ps::T)) (fun vs _=>n1 vs - n0 vs) ⟨m,b,b - m,rfl,om,om,om,om,hs,ho⟩ ?_;clear ho hs;rintro vs w1 ⟨i,j,f',rfl,hi,hij,hj,hfl,hX,ho⟩ _;simp only[cW,gd,rs,nz];by_cases hlt:(i:Int) < (j:Int)
   ·simp only[hlt,agY,i_t];obtain⟨f',rfl⟩:∃q,f'=q+1:=⟨f' - 1,om⟩;unfold Srt.bs at hX;rw[agW om] at hX;rw[aA om om,show (i:Int)+(j:Int)=((i+j:Nat):Int) by omega,NA om];refine eB (fun W=>OwnS S w0 W (pcE (.slice (some ⟨g,0,none⟩) N cap) ps::T)) ho.drew ?_;refine q_do _ (fun W=>pA om W) (q_at _ (fun W h=>yU (h.at_ 0 rfl) om) ?_);refine q_do _ (fun W=>pA om W) (q_at _ (fun W h=>yU (h.at_ 0 rfl) om) ?_);refine cmp hN hok om om (LU ?_);rw[Je];intro w2 ho;by_cases hl2:pw (ps.getD ((i+j) / 2) pd) < pw (ps.getD a pd)
    ·rw[agV (by have e:Srt.lt pw (ps.getD ((i+j) / 2) pd) (ps.getD a pd)=true:=ahB hl2;rw[e];decide)] at hX;simp only[hl2,agY,i_t,rs];rw[aA om om,show (((i+j) / 2:Nat):Int)+1=(((i+j) / 2+1:Nat):Int) by omega];exact aY ⟨(i+j) / 2+1,j,f',rfl,om,om,om,om,hX,ho⟩ (by simp[n0,n1,RowKit.intOf];omega)
    ·rw[agW (by have e:Srt.lt pw (ps.getD ((i+j) / 2) pd) (ps.getD a pd)=false:=ahA hl2;rw[e];rfl)] at hX;simp only[hl2,agX,i_f];exact aY ⟨i,(i+j) / 2,f',rfl,om,om,om,om,hX,ho⟩ (by simp[n0,n1,RowKit.intOf];omega)
   ·simp only[hlt,agX,i_f];have hsi:s=i:=by
     rw[<-hX];cases f' with
    |zero=>rfl
    |succ q=>unfold Srt.bs;rw[agV om]
    subst hsi;refine loop (fun vs W=>∃(q:Nat) (zs:List Pc),vs=[.int .i64 (q:Int)]∧a<=q∧(q<=s - 1∨q=a)∧zs.length=N∧(∀x∈zs,ok x)∧Srt.up pd (s - 1 - q) q zs=R∧OwnS S w0 W (pcE (.slice (some ⟨g,0,none⟩) N cap) zs::T)) (fun vs _=>s - n0 vs) ⟨a,ps,rfl,om,.inr rfl,hN,hok,hR,ho⟩ ?_;clear ho;rintro vs w2 ⟨q,zs,rfl,hq,hqs,hz,hzo,hX2,ho⟩ _;simp only[cY,gd,rs,iN,bnx];rw[aA (n:=(s:Int) - 1) om om];by_cases hlt2:(q:Int) < (s:Int) - 1
    ·simp only[hlt2,agY,i_t];obtain⟨r,hr⟩:∃r,s - 1 - q=r+1:=⟨s - 1 - q - 1,om⟩;rw[hr] at hX2;unfold Srt.up at hX2;refine eB (fun W=>OwnS S w0 W (pcE (.slice (some ⟨g,0,none⟩) N cap) zs::T)) ho.drew ?_;refine p_do _ (fun _=>PW) ?_;rw[aA om om,show (q:Int)+1=((q+1:Nat):Int) by omega];refine qQ ?_;rw[aA om om,show (q:Int)+1=((q+1:Nat):Int) by omega];refine q_do _ (fun W=>pA om W) (q_at _ (fun W h=>yU (h.at_ 0 rfl) om) ?_);refine q_do _ (fun W=>pA om W) (q_at _ (fun W h=>yU (h.at_ 0 rfl) om) ?_);refine q_do _ (fun W=>pA om W) ?_;intro w3 ho;subst hz;refine o_sw hc ho hzo om om fun w4 ho=>?_
     try simp only[rs]
     try rw[aA (n:=(q:Int)+1) om om,show (q:Int)+1=((q+1:Nat):Int) by omega]
     refine aY ⟨q+1,_,rfl,om,.inl om,Srt.D7,fun x hx=>hzo x (Srt.Nz om om hx),?_,ho⟩ (by simp[n0,RowKit.intOf];omega);rw[show s - 1 - (q+1)=r by omega];exact hX2
    ·simp only[hlt2,agX,i_f];rw[show s - 1 - q=0 by omega] at hX2;unfold Srt.up at hX2;subst hX2;exact retK ⟨rfl,hzo,ho⟩
  rw[agV h1] at hR;simp only[show decide (((m - a:Nat):Int)=1)=false from ahA om,i_f];rw[aA om om,show (b:Int) - (m:Int)=((b - m:Nat):Int) by omega];by_cases h2:b - m=1
  ·rw[agW h2] at hR;simp only[show decide (((b - m:Nat):Int)=1)=true from ahB om,i_t];generalize hs:Srt.bs (fun h=>Srt.lt pw (ps.getD m pd) (ps.getD h pd)) (m - a) a m=s at hR;refine loop (fun vs W=>∃(i j f:Nat),vs=[.int .i64 (i:Int),.int .i64 (j:Int)]∧a<=i∧i<=j∧j<=m∧j - i<=f∧Srt.bs (fun h=>Srt.lt pw (ps.getD m pd) (ps.getD h pd)) f i j=s∧OwnS S w0 W (pcE (.slice (some ⟨g,0,none⟩) N cap) ps::T)) (fun vs _=>n1 vs - n0 vs) ⟨a,m,m - a,rfl,om,om,om,om,hs,ho⟩ ?_;clear ho hs;rintro vs w1 ⟨i,j,f',rfl,hi,hij,hj,hfl,hX,ho⟩ _;simp only[cR,gd,rs,nz];by_cases hlt:(i:Int) < (j:Int)
   ·simp only[hlt,agY,i_t];obtain⟨f',rfl⟩:∃q,f'=q+1:=⟨f' - 1,om⟩;unfold Srt.bs at hX;rw[agW om] at hX;rw[aA om om,show (i:Int)+(j:Int)=((i+j:Nat):Int) by omega,NA om];refine eB (fun W=>OwnS S w0 W (pcE (.slice (some ⟨g,0,none⟩) N cap) ps::T)) ho.drew ?_;refine q_do _ (fun W=>pA om W) (q_at _ (fun W h=>yU (h.at_ 0 rfl) om) ?_);refine q_do _ (fun W=>pA om W) (q_at _ (fun W h=>yU (h.at_ 0 rfl) om) ?_);refine cmp hN hok om om (LU ?_);rw[Je];refine q_do _ (fun W=>Wv) ?_;intro w2 ho;by_cases hl2:pw (ps.getD m pd) < pw (ps.getD ((i+j) / 2) pd)
    ·rw[agW (Srt.lt_t hl2)] at hX;simp only[hl2,agY,aiQ,i_f];exact aY ⟨i,(i+j) / 2,f',rfl,om,om,om,om,hX,ho⟩ (by simp[n0,n1,RowKit.intOf];omega)
    ·rw[agV (Srt.lt_f hl2)] at hX;simp only[hl2,agX,aiR,i_t,rs];rw[aA om om,show (((i+j) / 2:Nat):Int)+1=(((i+j) / 2+1:Nat):Int) by omega];exact aY ⟨(i+j) / 2+1,j,f',rfl,om,om,om,om,hX,ho⟩ (by simp[n0,n1,RowKit.intOf];omega)
   ·simp only[hlt,agX,i_f];have hsi:s=i:=by
     rw[<-hX];cases f' with
    |zero=>rfl
    |succ q=>unfold Srt.bs;rw[agV om]
    subst hsi;refine loop (fun vs W=>∃(q:Nat) (zs:List Pc),vs=[.int .i64 (q:Int)]∧s<=q∧q<=m∧zs.length=N∧(∀x∈zs,ok x)∧Srt.down pd (q - s) q zs=R∧OwnS S w0 W (pcE (.slice (some ⟨g,0,none⟩) N cap) zs::T)) (fun vs _=>n0 vs) ⟨m,ps,rfl,om,om,hN,hok,hR,ho⟩ ?_;clear ho;rintro vs w2 ⟨q,zs,rfl,hq,hqm,hz,hzo,hX2,ho⟩ _;simp only[cS,gd,rs,iN,bnx];by_cases hlt2:(s:Int) < (q:Int)
    ·simp only[hlt2,agY,i_t];obtain⟨q,rfl⟩:∃p,q=p+1:=⟨q - 1,om⟩;obtain⟨r,hr⟩:∃r,q+1 - s=r+1:=⟨q - s,om⟩;rw[hr] at hX2;unfold Srt.down at hX2;rw[alQ] at hX2;refine eB (fun W=>OwnS S w0 W (pcE (.slice (some ⟨g,0,none⟩) N cap) zs::T)) ho.drew ?_;refine p_do _ (fun _=>E9) ?_;rw[aA om om,show ((q+1:Nat):Int) - 1=(q:Int) by omega];refine q_do _ (fun _=>E9) ?_;rw[aA om om,show ((q+1:Nat):Int) - 1=(q:Int) by omega];refine q_do _ (fun W=>pA om W) (q_at _ (fun W h=>yU (h.at_ 0 rfl) om) ?_);refine q_do _ (fun W=>pA om W) (q_at _ (fun W h=>yU (h.at_ 0 rfl) om) ?_);refine q_do _ (fun W=>pA om W) ?_;intro w3 ho;subst hz;refine o_sw hc ho hzo om om fun w4 ho=>?_
     try simp only[rs]
     try rw[aA (n:=((q+1:Nat):Int) - 1) om om,show ((q+1:Nat):Int) - 1=(q:Int) by omega]
     refine aY ⟨q,_,rfl,om,om,Srt.D7,fun x hx=>hzo x (Srt.Nz om om hx),?_,ho⟩ (by simp[n0,RowKit.intOf]);rw[show q - s=r by omega];exact hX2
    ·simp only[hlt2,agX,i_f];rw[show q - s=0 by omega] at hX2;unfold Srt.down at hX2;subst hX2;exact retK ⟨rfl,hzo,ho⟩
  rw[agV h2] at hR;simp only[show decide (((b - m:Nat):Int)=1)=false from ahA om,i_f];rw[aA (n:=(a:Int)+(b:Int)) om om,show (a:Int)+(b:Int)=((a+b:Nat):Int) by omega,NA om];dsimp only at hR;unfold Srt.symS at hR;generalize hmid:(a+b) / 2=mid at hR;simp only[rs];rw[aA (n:=(mid:Int)+(m:Int)) om om,show (mid:Int)+(m:Int)=((mid+m:Nat):Int) by omega];generalize hlo:(if mid < m then mid+m - b else a)=lo at hR;generalize hhi:(if mid < m then mid else m)=hi at hR;have hlo1:a<=lo∧mid+m - b<=lo∧(lo=a∨lo=mid+m - b):=by
   rw[<-hlo];split<;>omega
  have hhi1:hi<=m∧hi<=mid∧lo<=hi∧(hi=m∨hi=mid):=by
   rw[<-hhi,<-hlo];split<;>omega
  refine join fun J hJ=>?_;have fin:∀W,OwnS S w0 W (pcE (.slice (some ⟨g,0,none⟩) N cap) ps::T)->J [.int .i64 (lo:Int),.int .i64 (hi:Int)] W:=by
   intro W ho;refine hJ _ _ fun _=>?_;simp only[cT,gd,rs,nz];rw[aA (n:=((mid+m:Nat):Int) - 1) om om,show ((mid+m:Nat):Int) - 1=((mid+m - 1:Nat):Int) by omega];generalize hs:Srt.bs (fun c=>Srt.lt pw (ps.getD (mid+m - 1 - c) pd) (ps.getD c pd)) (b - a) lo hi=s at hR;refine loop (fun vs W=>∃(i j f:Nat),vs=[.int .i64 (i:Int),.int .i64 (j:Int)]∧lo<=i∧i<=j∧j<=hi∧j - i<=f∧Srt.bs (fun c=>Srt.lt pw (ps.getD (mid+m - 1 - c) pd) (ps.getD c pd)) f i j=s∧OwnS S w0 W (pcE (.slice (some ⟨g,0,none⟩) N cap) ps::T)) (fun vs _=>n1 vs - n0 vs) ⟨lo,hi,b - a,rfl,om,om,om,om,hs,ho⟩ ?_;clear ho hs;rintro vs w1 ⟨i,j,f',rfl,hi',hij,hj,hfl,hX,ho⟩ _;simp only[cQ,gd,rs,nz];by_cases hlt:(i:Int) < (j:Int)
   ·simp only[hlt,agY,i_t];obtain⟨f',rfl⟩:∃q,f'=q+1:=⟨f' - 1,om⟩;unfold Srt.bs at hX;rw[agW om] at hX;rw[aA (n:=(i:Int)+(j:Int)) om om,show (i:Int)+(j:Int)=((i+j:Nat):Int) by omega,NA om];refine eB (fun W=>OwnS S w0 W (pcE (.slice (some ⟨g,0,none⟩) N cap) ps::T)) ho.drew ?_;refine q_do _ (fun _=>E9) ?_;rw[aA (n:=((mid+m - 1:Nat):Int) - (((i+j) / 2:Nat):Int)) om om,show ((mid+m - 1:Nat):Int) - (((i+j) / 2:Nat):Int)=((mid+m - 1 - (i+j) / 2:Nat):Int) by omega];refine q_do _ (fun W=>pA om W) (q_at _ (fun W h=>yU (h.at_ 0 rfl) om) ?_);refine q_do _ (fun W=>pA om W) (q_at _ (fun W h=>yU (h.at_ 0 rfl) om) ?_);refine cmp hN hok om om (LU ?_);rw[Je];refine q_do _ (fun W=>Wv) ?_;intro w2 ho;by_cases hl2:pw (ps.getD (mid+m - 1 - (i+j) / 2) pd) < pw (ps.getD ((i+j) / 2) pd)
    ·rw[agW (Srt.lt_t hl2)] at hX;simp only[hl2,agY,aiQ,i_f];exact aY ⟨i,(i+j) / 2,f',rfl,om,om,om,om,hX,ho⟩ (by simp[n0,n1,RowKit.intOf];omega)
    ·rw[agV (Srt.lt_f hl2)] at hX;simp only[hl2,agX,aiR,i_t,rs];rw[aA om om,show (((i+j) / 2:Nat):Int)+1=(((i+j) / 2+1:Nat):Int) by omega];exact aY ⟨(i+j) / 2+1,j,f',rfl,om,om,om,om,hX,ho⟩ (by simp[n0,n1,RowKit.intOf];omega)
   ·simp only[hlt,agX,i_f];have hsi:s=i:=by
     rw[<-hX];cases f' with
    |zero=>rfl
    |succ q=>unfold Srt.bs;rw[agV om]
    subst hsi;rw[aA (n:=((mid+m:Nat):Int) - (s:Int)) om om,show ((mid+m:Nat):Int) - (s:Int)=((mid+m - s:Nat):Int) by omega];generalize he:mid+m - s=e at hR;have rot_ok:∀(zs x1:List Pc) (W1:World),(if s < m∧m < e then Srt.rot pd (e - s) (m - s) (e - m) m ps else ps)=x1->True:=fun _ _ _ _=>trivial;generalize hx1:(if s < m∧m < e then Srt.rot pd (e - s) (m - s) (e - m) m ps else ps)=x1 at hR;refine join fun J2 hJ2=>?_;have fin2:∀W,x1.length=N->(∀x∈x1,ok x)->OwnS S w0 W (pcE (.slice (some ⟨g,0,none⟩) N cap) x1::T)->J2 [] W:=by
     intro W hz1 hok1 ho;refine hJ2 _ _ fun _=>?_;simp only[cX,gd,rs,nz];generalize hx2:(if a < s∧s < mid then Srt.sym pd pw f a s mid x1 else x1)=x2 at hR;refine join fun J3 hJ3=>?_;have fin3:∀W,x2.length=N->(∀x∈x2,ok x)->OwnS S w0 W (pcE (.slice (some ⟨g,0,none⟩) N cap) x2::T)->J3 [] W:=by
      intro W hz2 hok2 ho;refine hJ3 _ _ fun _=>?_;simp only[cP,gd,rs,nz];by_cases c1:mid < e
      ·simp only[show decide ((mid:Int) < (e:Int))=true from ahB om,rs];by_cases c2:e < b
       ·simp only[show decide ((e:Int) < (b:Int))=true from ahB om,i_t,rs];rw[agW ⟨c1,c2⟩] at hR;refine Vt hc hm hl f mid e b om c1 c2 hbN hz2 ho hok2 fun W h1 ho=>?_;rw[hR] at h1 ho;exact retK ⟨rfl,h1,ho⟩
       ·simp only[show decide ((e:Int) < (b:Int))=false from ahA om,i_f,rs];rw[agV (fun h=>c2 h.2)] at hR;rw[hR] at hok2 ho;exact retK ⟨rfl,hok2,ho⟩
      ·simp only[show decide ((mid:Int) < (e:Int))=false from ahA om,i_f,rs];rw[agV (fun h=>c1 h.1)] at hR;rw[hR] at hok2 ho;exact retK ⟨rfl,hok2,ho⟩
     by_cases c1:a < s
     ·simp only[show decide ((a:Int) < (s:Int))=true from ahB om,rs];by_cases c2:s < mid
      ·simp only[show decide ((s:Int) < (mid:Int))=true from ahB om,i_t,rs];rw[agW ⟨c1,c2⟩] at hx2;refine Vt hc hm hl f a s mid om c1 c2 om hz1 ho hok1 fun W h1 ho=>?_;rw[hx2] at h1 ho;exact fin3 W (by rw[<-hx2,Srt.Gm];exact hz1) h1 ho
      ·simp only[show decide ((s:Int) < (mid:Int))=false from ahA om,i_f,rs];rw[agV (fun h=>c2 h.2)] at hx2;rw[hx2] at hz1 hok1 ho;exact fin3 W hz1 hok1 ho
     ·simp only[show decide ((a:Int) < (s:Int))=false from ahA om,i_f,rs];rw[agV (fun h=>c1 h.1)] at hx2;rw[hx2] at hz1 hok1 ho;exact fin3 W hz1 hok1 ho
    by_cases c1:s < m
    ·simp only[show decide ((s:Int) < (m:Int))=true from ahB om,rs];by_cases c2:m < e
     ·simp only[show decide ((m:Int) < (e:Int))=true from ahB om,i_t,rs];rw[agW ⟨c1,c2⟩] at hx1;refine afL hc hN ho hok c1 c2 om hl fun W h1 ho=>?_;rw[hx1] at h1 ho;exact fin2 W (by rw[<-hx1,Srt.I2];exact hN) h1 ho
     ·simp only[show decide ((m:Int) < (e:Int))=false from ahA om,i_f,rs];rw[agV (fun h=>c2 h.2)] at hx1;subst hx1;exact fin2 w1 hN hok ho
    ·simp only[show decide ((s:Int) < (m:Int))=false from ahA om,i_f,rs];rw[agV (fun h=>c1 h.1)] at hx1;subst hx1;exact fin2 w1 hN hok ho
  by_cases c:mid < m
  ·simp only[show decide ((mid:Int) < (m:Int))=true from ahB om,i_t,rs];rw[agW c] at hlo hhi;rw[aA (n:=((mid+m:Nat):Int) - (b:Int)) om om,show ((mid+m:Nat):Int) - (b:Int)=(lo:Int) by omega,show (mid:Int)=(hi:Int) by omega];exact fin w ho
  ·simp only[show decide ((mid:Int) < (m:Int))=false from ahA om,i_f,rs];rw[agV c] at hlo hhi;rw[show (a:Int)=(lo:Int) by omega,show (m:Int)=(hi:Int) by omega];exact fin w ho
end
end
section
open Eng Go.RowKit
section
variable {w:World}{PK PK2 PK3:PKT}{K:VWP}{S:Nat->Prop}{w0:World}{L T:List Ent}
theorem VE {g N:Nat}{ok:Pc->Prop}(hc:CmpOk M cv ok)(hm:T[jm]?=some (.mem M))(hl:N<=100000000)(hN:ps.length=N)(ho:OwnS S w0 w (pcE (.slice (some ⟨g,0,none⟩) N cap) ps::T))(hok:∀x∈ps,ok x)
  (k:∀W,(∀x∈Srt.H7 pd pw ps,ok x)->OwnS S w0 W (pcE (.slice (some ⟨g,0,none⟩) N cap) (Srt.H7 pd pw ps)::T)->K (.tuple #[]) W) :
  CallX prog 361 #[.slice (some ⟨g,0,none⟩) N cap,.int .i64 (N:Int),cv] w PK K:=by
 unfold Srt.H7 at k;rw[hN] at k;generalize hR:Srt.rounds pd pw (N+1) 20 (Srt.blk pd pw 20 (N+1) 0 ps)=R at k;refine fH (fO (K:=RetK fun v W=>v=.tuple #[]∧(∀x∈R,ok x)∧OwnS S w0 W (pcE (.slice (some ⟨g,0,none⟩) N cap) R::T)) ?_) (fun e W ⟨v,he,hv,h1,ho⟩=>by subst he;subst hv;exact k W h1 ho);unfold dO nz;generalize hZ:Srt.blk pd pw 20 (N+1) 0 ps=Z at hR;refine loop (fun vs W=>∃(a f:Nat) (zs:List Pc),vs=[.int .i64 (a:Int),.int .i64 ((a+20:Nat):Int)]∧a<=N∧N < a+f∧zs.length=N∧(∀x∈zs,ok x)∧Srt.blk pd pw 20 f a zs=Z∧OwnS S w0 W (pcE (.slice (some ⟨g,0,none⟩) N cap) zs::T)) (fun vs _=>N+20 - n0 vs) ⟨0,N+1,ps,rfl,om,om,hN,hok,hZ,ho⟩ ?_;clear ho hZ;rintro vs w1 ⟨a,f,zs,rfl,ha,hf,hz,hzo,hX,ho⟩ _;simp only[dG,gd,rs,nz];obtain⟨f,rfl⟩:∃q,f=q+1:=⟨f - 1,om⟩;unfold Srt.blk at hX;rw[hz] at hX;by_cases hlt:((a+20:Nat):Int)<=(N:Int)
 ·simp only[hlt,agY,i_t];rw[agW om] at hX;refine abQ hc hm hz ho hzo om ha om fun w2 h1 ho=>?_
  try simp only[rs]
  rw[aA om om];exact aY ⟨a+20,f,_,by congr 2,om,om,by rw[Srt.SE];exact hz,h1,hX,ho⟩ (by simp[n0,RowKit.intOf];omega)
 ·simp only[hlt,agX,i_f];rw[agV om] at hX;refine abQ hc hm hz ho hzo om ha om fun w2 h1 ho=>?_;rw[hX] at h1 ho;have hzl:Z.length=N:=by rw[<-hX,Srt.SE];exact hz
  refine loop (fun vs W=>∃(n f:Nat) (zs:List Pc),vs=[.int .i64 (n:Int)]∧1<=n∧N < f+n∧zs.length=N∧(∀x∈zs,ok x)∧Srt.rounds pd pw f n zs=R∧OwnS S w0 W (pcE (.slice (some ⟨g,0,none⟩) N cap) zs::T)) (fun vs _=>N - n0 vs) ⟨20,N+1,Z,rfl,om,om,hzl,h1,hR,ho⟩ ?_;clear ho hR hX h1 hzl;rintro vs w3 ⟨n,f2,zs,rfl,hn,hf2,hz,hzo,hX,ho⟩ _;simp only[dH,gd,rs,nz];by_cases hlt2:(n:Int) < (N:Int)
  ·simp only[hlt2,agY,i_t];obtain⟨f2,rfl⟩:∃q,f2=q+1:=⟨f2 - 1,om⟩;unfold Srt.rounds at hX;rw[hz,agW om] at hX;rw[aA om om];generalize hY:Srt.mrg pd pw n (N+1) 0 zs=Y at hX;have back:∀W,Y.length=N->(∀x∈Y,ok x)->OwnS S w0 W (pcE (.slice (some ⟨g,0,none⟩) N cap) Y::T)->Mc (fun vs W=>∃(n f:Nat) (zs:List Pc),vs=[.int .i64 (n:Int)]∧1<=n∧N < f+n∧zs.length=N∧(∀x∈zs,ok x)∧Srt.rounds pd pw f n zs=R∧OwnS S w0 W (pcE (.slice (some ⟨g,0,none⟩) N cap) zs::T)) (fun vs _=>N - n0 vs) [.int .i64 (n:Int)] w3 [.int .i64 (IntKind.i64.wrap ((n:Int)*2))] W:=by
    intro W hy hyo ho;rw[aA om om,show (n:Int)*2=((2*n:Nat):Int) by omega];exact aY ⟨2*n,f2,Y,rfl,om,om,hy,hyo,hX,ho⟩ (by simp[n0,RowKit.intOf];omega)
   refine loop (fun vs W=>∃(a f:Nat) (zs:List Pc),vs=[.int .i64 (a:Int),.int .i64 ((a+2*n:Nat):Int)]∧a<=N∧N < a+f∧zs.length=N∧(∀x∈zs,ok x)∧Srt.mrg pd pw n f a zs=Y∧OwnS S w0 W (pcE (.slice (some ⟨g,0,none⟩) N cap) zs::T)) (fun vs _=>N+2*n - n0 vs) ⟨0,N+1,zs,by congr 3;omega,om,om,hz,hzo,hY,ho⟩ ?_;clear ho hY hzo hz;rintro vs w4 ⟨a2,f3,zs,rfl,ha2,hf3,hz,hzo,hX2,ho⟩ _;simp only[dE,gd,rs,nz];obtain⟨f3,rfl⟩:∃q,f3=q+1:=⟨f3 - 1,om⟩;unfold Srt.mrg at hX2;rw[hz] at hX2;rw[aA (n:=(a2:Int)+(n:Int)) om om,show (a2:Int)+(n:Int)=((a2+n:Nat):Int) by omega];by_cases hlt3:((a2+2*n:Nat):Int)<=(N:Int)
   ·simp only[hlt3,agY,i_t];rw[agW om] at hX2;refine Vt hc hm om (2*n) a2 (a2+n) (a2+2*n) om om om om hz ho hzo fun w5 h1 ho=>?_
    try simp only[rs]
    rw[aA (n:=(2:Int)*(n:Int)) om om,aA om om];exact aY ⟨a2+2*n,f3,_,by congr 4<;>omega,om,om,by rw[Srt.Gm];exact hz,h1,hX2,ho⟩ (by simp[n0,RowKit.intOf];omega)
   ·simp only[hlt3,agX,i_f];rw[agV om] at hX2;refine join fun J hJ=>?_;have fin:∀W,Y.length=N->(∀x∈Y,ok x)->OwnS S w0 W (pcE (.slice (some ⟨g,0,none⟩) N cap) Y::T)->J [] W:=by
     intro W h1 h2 ho;refine hJ _ _ fun _=>?_;simp only[dF,gd,rs,nz];exact back W h1 h2 ho
    by_cases c:a2+n < N
    ·simp only[show decide (((a2+n:Nat):Int) < (N:Int))=true from ahB om,i_t];rw[agW c] at hX2;refine Vt hc hm om (N - a2) a2 (a2+n) N om om c om hz ho hzo fun w5 h1 ho=>?_;rw[hX2] at h1 ho;exact fin w5 (by rw[<-hX2,Srt.Gm];exact hz) h1 ho
    ·simp only[show decide (((a2+n:Nat):Int) < (N:Int))=false from ahA om,i_f];rw[agV c] at hX2;rw[hX2] at hz hzo ho;exact fin w4 hz hzo ho
  ·simp only[hlt2,agX,i_f];have hXe:zs=R:=by
    cases f2 with
   |zero=>exact hX
   |succ q=>
     unfold Srt.rounds at hX;rw[hz,agV om] at hX;exact hX
   rw[hXe] at hzo ho;exact retK ⟨rfl,hzo,ho⟩
theorem Xk {g N:Nat}{ok:Pc->Prop}(hc:CmpOk M cv ok)(hm:T[jm]?=some (.mem M))(hl:N<=100000000)(hN:ps.length=N)(ho:OwnS S w0 w (pcE (.slice (some ⟨g,0,none⟩) N cap) ps::T))(hok:∀x∈ps,ok x)
  (k:∀W qs,qs.Perm ps->Srt.srt pw qs->OwnS S w0 W (pcE (.slice (some ⟨g,0,none⟩) N cap) qs::T)->K (.tuple #[]) W) :
  CallX prog 351 #[.slice (some ⟨g,0,none⟩) N cap,cv] w PK K:=by
 refine⟨dC ?_⟩;unfold bK nz;rw[bA ajR];refine VE hc hm hl hN ho hok fun W h1 ho=>?_;obtain⟨p,q⟩:=Srt.Tp pd pw ps;exact k W _ p q ho
end
end
section
open Eng
def mW(t0 t1 t2 t8 w)(N1:JT)(K:KT):=nz Tryz.f302 175 [N1] [nh 15 [8]] [] (zg [0,1,2,8] [t0,t1,t2,t8]) w K
def qA(t0 t1 t2 w)(K:KT):=nz Tryz.f302 1 [] [(15,[8],fun s v j w f=>mW (s 0) (s 1) (s 2) (vg v 0) w (f 0) K)] [] (zg [0,1,2] [t0,t1,t2]) w K
theorem xS{t0 t1 t2 w K}(h:qA t0 t1 t2 w K):Calls prog 302 #[t0,t1,t2] w K:=cz [] [(7,[8])] Tryz.func302 h
def mC(t0 t1 w)(K:KT):=nz Tryz.f329 1 [] [] [] (zg [0,1] [t0,t1]) w K
theorem oF{t0 t1 w K}(h:mC t0 t1 w K):Calls prog 329 #[t0,t1] w K:=cw Tryz.func329 h
def uN(t9 t85 t86 t87 w)(N6:JT)(K:KT):=nz Tryz.f298 45055 [N6] [nh 57 [87]] [] (zg [9,85,86,87] [t9,t85,t86,t87]) w K
def vG(t6 t9 t10 t72 t73 w)(N5:JT)(K:KT):=nz Tryz.f298 22527 [N5] [nh 49 [10,73],(57,[87],fun s v j w f=>uN (s 9) (s 85) (s 86) (vg v 0) w (f 0) K)] [] (zg [6,9,10,72,73] [t6,t9,t10,t72,t73]) w K
def uZ(t1 t6 t9 w)(K:KT):=nz Tryz.f298 511 [] [(49,[10,73],fun s v j w f=>vG (s 6) (s 9) (vg v 0) (s 72) (vg v 1) w (f 0) K)] [] (zg [1,6,9] [t1,t6,t9]) w K
def uS(t6 t24 w)(N1:JT)(K:KT):=nz Tryz.f298 1967 [N1] [nh 15 [6,24]] [] (zg [6,24] [t6,t24]) w K
def uL(t0 t1 t6 t22 t23 t24 w)(N1:JT)(K:KT):=nz Tryz.f298 175 [N1] [nh 15 [6,24],(26,[6],fun s v j w f=>uS (vg v 0) (s 24) w (f 0) K),(38,[],fun s v j w f=>uZ (s 1) (s 6) (s 9) w K)] [(18,8)] (zg [0,1,6,22,23,24] [t0,t1,t6,t22,t23,t24]) w K
def Aj(t0 t1 w)(K:KT):=nz Tryz.f298 1 [] [(15,[6,24],fun s v j w f=>uL (s 0) (s 1) (vg v 0) (s 22) (s 23) (vg v 1) w (f 0) K)] [] (zg [0,1] [t0,t1]) w K
theorem DZ{t0 t1 w K}(h:Aj t0 t1 w K):Calls prog 298 #[t0,t1] w K:=cz [(13,[6]),(19,[])] [(7,[6,24]),(24,[10,73]),(28,[87])] Tryz.func298 h
def qC(t0 t1 w)(K:KT):=nz Tryz.f330 1 [] [] [] (zg [0,1] [t0,t1]) w K
theorem yV{t0 t1 w K}(h:qC t0 t1 w K):Calls prog 330 #[t0,t1] w K:=cw Tryz.func330 h
def Cu(t0 t1 w)(K:KT):=nz Tryz.f327 1 [] [] [] (zg [0,1] [t0,t1]) w K
theorem EK{t0 t1 w K}(h:Cu t0 t1 w K):Calls prog 327 #[t0,t1] w K:=cw Tryz.func327 h
def yS(t0 w)(K:KT):=nz Tryz.f345 1 [] [] [] (zg [0] [t0]) w K
theorem C7{t0 w K}(h:yS t0 w K):Calls prog 345 #[t0] w K:=cw Tryz.func345 h
def AG(b c a w)(N1:JT)(K:KT):=
 bnx .add 3 a (iN 1) w K fun d w=>lnx 341 b w K fun e w=>bnx .lss 3 d e w K fun f w=>IfX f (QuietX w (fun C2=>QDo prog C2 (mIA 341 b a) fun g=>QDo prog C2 (aI 342 g) fun h=>QDo prog C2 (mNil h) fun i=>QDo prog C2 (mFA 344 i 0) fun j=>QDo prog C2 (aI 3 j) fun k=>QDo prog C2 (mBin .add 3 a (iN 1)) fun l=>QDo prog C2 (mIA 341 b l) fun m=>QDo prog C2 (aI 342 m) fun n=>QDo prog C2 (mNil n) fun o=>QDo prog C2 (mFA 344 o 0) fun p=>QDo prog C2 (aI 3 p) fun q=>QDo prog C2 (mBin .add 3 k q) fun r=>QDo prog C2 (mIA 341 b a) fun s=>QDo prog C2 (aI 342 s) fun t=>QDo prog C2 (mBin .add 3 a (iN 1)) fun u=>QDo prog C2 (mIA 341 b u) fun v=>QDo prog C2 (aI 342 v) fun x=>QDo prog C2 (aZ 344 #[(0,r),(2,t),(3,x)]) fun y=>
 ∀w,C2 w ->
 DoX prog (mBox 344 y) w (pm1 (pm1 (pm1 (pm1 (pm1 (pm1 (pm1 (pm1 (pm1 (pk K)))))))))) fun z w=>DoX prog (bN 341 1 #[(0,z)]) w (pm1 (pm1 (pm1 (pm1 (pm1 (pm1 (pm1 (pm1 (pm1 (pk K)))))))))) fun A w=>DoX prog (mB .append #[341,341] 341 #[false,false] #[c,A]) w (pm1 (pm1 (pm1 (pm1 (pm1 (pm1 (pm1 (pm1 (pm1 (pk K)))))))))) fun B w=>bnx .add 3 a (iN 2) w K fun C w=>N1 [B,C] w)) (K (.returned c) w)
def Ew(t0 w)(K:KT):=nz Tryz.f328 1 [] [(7,[3,4],fun s v j w f=>AG (s 0) (vg v 0) (vg v 1) w (f 0) K)] [] (zg [0] [t0]) w K
theorem Gr{t0 w K}(h:Ew t0 w K):Calls prog 328 #[t0] w K:=cz [] [(3,[3,4])] Tryz.func328 h
def fB(t0 t1 t2 w)(K:KT):=nz Tryz.f344 1 [] [] [] (zg [0,1,2] [t0,t1,t2]) w K
theorem jA{t0 t1 t2 w K}(h:fB t0 t1 t2 w K):Calls prog 344 #[t0,t1,t2] w K:=cw Tryz.func344 h
def eO(t0 t1 t2 w)(K:KT):=nz Tryz.f352 1 [] [] [(1,8)] (zg [0,1,2] [t0,t1,t2]) w K
theorem gZ{t0 t1 t2 w K}(h:eO t0 t1 t2 w K):Calls prog 352 #[t0,t1,t2] w K:=cw Tryz.func352 h
end
section
open Eng Go.RowKit
def cnC (w s:Nat)(a b:Value):List Value:=[.int .i64 (w:Int),.int .i64 (s:Int),a,b]
abbrev cnE (bl w s:Nat)(a b:Value):Ent:=.cells bl (cnC w s a b) 344
theorem QX:fOff prog 344 0=some 0:=krx
theorem Ws:fOff prog 344 1=some 1:=krx
theorem TW:fOff prog 344 2=some 2:=krx
theorem ZU:fOff prog 344 3=some 3:=krx
def CnAt (A:Nat->Prop)(w:World):Value->Cn->Prop
|v,.leaf wt s=>∃b,v=.pointer (some ⟨b,0,none⟩)∧A b∧(cnE b wt s (.pointer none) (.pointer none)).is w
|v,.node x y=>∃b va vb,v=.pointer (some ⟨b,0,none⟩)∧A b∧(cnE b (x.wt+y.wt) 0 va vb).is w∧CnAt A w va x∧CnAt A w vb y
theorem NH (h:M.le N){T:TypeId}(hA:M.A b)(k:(Ent.cells b cs T).is M.w):(Ent.cells b cs T).is N.w:=by
 show N.w.heap[b]?=_;rw[h.has b hA];exact k
theorem CnAt.le {M N:Mem}(h:M.le N):∀{c:Cn} {v:Value},CnAt M.A M.w v c->CnAt N.A N.w v c
|.leaf wt s,v,⟨b,h1,h2,h3⟩=>⟨b,h1,h.A b h2,NH h h2 h3⟩
|.node x y,v,⟨b,va,vb,h1,h2,h3,h4,h5⟩=>⟨b,va,vb,h1,h.A b h2,NH h h2 h3,CnAt.le h h4,CnAt.le h h5⟩
theorem jB (hM:M.has W){T:TypeId}(hA:M.A b)(k:(Ent.cells b cs T).is M.w):(Ent.cells b cs T).is W:=by
 show W.heap[b]?=_;rw[hM b hA];exact k
theorem CnAt.ptr {c:Cn}(h:CnAt A w v c):∃b,v=.pointer (some ⟨b,0,none⟩)∧A b:=by
 cases c with
|leaf wt s=>obtain⟨b,h1,h2,_⟩:=h;exact⟨b,h1,h2⟩
|node x y=>obtain⟨b,_,_,h1,h2,_⟩:=h;exact⟨b,h1,h2⟩
theorem CnAt.wt {M:Mem}{v:Value}{c:Cn}(h:CnAt M.A M.w v c):∃b s va vb,v=.pointer (some ⟨b,0,none⟩)∧M.A b∧(cnE b c.wt s va vb).is M.w:=by
 cases c with
|leaf wt s=>obtain⟨b,h1,h2,h3⟩:=h;exact⟨b,s,_,_,h1,h2,h3⟩
|node x y=>obtain⟨b,va,vb,h1,h2,h3,_⟩:=h;exact⟨b,0,va,vb,h1,h2,h3⟩
def okM (M:Mem)(x:Pc):Prop:=CnAt M.A M.w x.1 x.2
theorem K1 (a b:Nat)(w:World):Ret prog 353 #[.int .i64 (a:Int),.int .i64 (b:Int)] w (fun v w'=>v=.int .i64 (cmpI a b)∧w=w'):=by
 refine aP fun K hK=>zN ?_;unfold rA nz;refine c_eq (Iq a w) (c_eq (Iq b w) ?_);unfold cmpI at hK;simp only[rs];by_cases h1:a < b
 ·simp only[show decide ((a:Int) < (b:Int))=true from ahB om,i_t];rw[agW h1] at hK;exact hK _ _ ⟨rfl,rfl⟩
 ·simp only[show decide ((a:Int) < (b:Int))=false from ahA om,i_f];rw[agV h1] at hK;by_cases h2:b < a
  ·simp only[show decide ((b:Int) < (a:Int))=true from ahB om,i_t];rw[agW h2] at hK;exact hK _ _ ⟨rfl,rfl⟩
  ·simp only[show decide ((b:Int) < (a:Int))=false from ahA om,i_f];rw[agV h2] at hK;exact hK _ _ ⟨rfl,rfl⟩
theorem Gl {c:Cn}(hM:M.has W)(h:CnAt M.A M.w v c):Ret prog 345 #[v] W (fun r w'=>r=.int .i64 (c.wt:Int)∧W=w'):=by
 refine aP fun K hK=>C7 ?_;unfold yS nz;obtain⟨b,s,va,vb,rfl,h2,h3⟩:=h.wt;rw[aV,aK QX];refine aE (aB cI (aG (T:=344) (cs:=cnC c.wt s va vb) (jB hM h2 h3) (i:=0) rfl)) |>.mpr ?_;exact hK _ _ ⟨rfl,rfl⟩
theorem BD:bZ prog 345=true:=krx
theorem I6:bZ prog 352=true:=krx
theorem agK:eF prog 359=true:=krx
def wtF:Value:=.func (.func 345) #[] #[]
abbrev fcE (b:Nat):Ent:=.cells b [wtF] 359
theorem Ut {x y:Pc}(hM:M.has W)(hA:M.A fb)(hf:(fcE fb).is M.w)(hx:okM M x)(hy:okM M y) :
  Ret prog 352 #[x.1,y.1,.pointer (some ⟨fb,0,none⟩)] W (fun v w'=>v=.int .i64 (cmpI (pw x) (pw y))∧Below W.heap.size W w'):=by
 refine aP fun K hK=>gZ ?_;unfold eO nz;have ld:∀{W:World},M.has W->(aI 359 (.pointer (some ⟨fb,0,none⟩))).run prog W=.ok (.value wtF) W:=fun hM=>aB agK (aG (T:=359) (cs:=[wtF]) (jB hM hA hf) (i:=0) rfl);have hst:=Own.start W;refine eB (fun V=>Own W V []) hst.drew ?_;have hmv:∀{V:World},Own W V []->M.has V:=fun h=>Mem.LB hM h.below;refine q_at _ (fun V h=>ld (hmv h)) ?_;refine U5 BD (.int .i64 (pw x:Int)) (fun V h=>(Gl (hmv h) hx).mono fun v w' r=>⟨r.1,by rw[<-r.2];exact h⟩) ?_;refine q_at _ (fun V h=>ld (hmv h)) ?_;refine U5 BD (.int .i64 (pw y:Int)) (fun V h=>(Gl (hmv h) hy).mono fun v w' r=>⟨r.1,by rw[<-r.2];exact h⟩) ?_;refine uO (.int .i64 (cmpI (pw x) (pw y))) (fun V h=>(K1 (pw x) (pw y) V).mono fun v w' r=>⟨r.1,by rw[<-r.2];exact h⟩) ?_;intro V ho;exact hK _ _ ⟨rfl,ho.done⟩
theorem acL (hA:M.A fb)(hf:(fcE fb).is M.w):CmpOk M (.func (.func 352) #[] #[.pointer (some ⟨fb,0,none⟩)]) (okM M) where
 ptr:=fun x hx=>by
  obtain⟨b,h1,_⟩:=CnAt.ptr hx;rw[h1];exact⟨rfl,rfl⟩
 run:=⟨_,_,_,rfl,I6,fun W x y hM hx hy=>Ut hM hA hf hx hy⟩
theorem JP:elB prog 342 1 8=true:=krx
theorem abA:eF prog 341=true:=krx
section
variable {w:World}{PK:PKT}{K:VWP}{S:Nat->Prop}{w0:World}{L T:List Ent}
theorem To (h:∀x∈ps,okM M x):∀u∈pcW ps,u.oneCell'=true:=by
 intro u hu;obtain⟨x,hx,rfl⟩:=aiD.1 hu;obtain⟨b,h1,_⟩:=CnAt.ptr (h x hx);rw[h1];rfl
theorem MO (a b:List Pc):pcW (a++b)=pcW a++pcW b:=by simp[pcW]
theorem Yd (ho:OwnS S w0 w L)(h0:0 < m)(hb:m<=1000000000)
  (k:∀b c w',m<=c->OwnS S w0 w' (.urow 342 1 (.slice (some ⟨b,0,none⟩) 0 c) 0 []::L)->K (.slice (some ⟨b,0,none⟩) m c) w') :
  DoX prog (mB .append #[341,3] 341 cb #[.slice none 0 0,.int .i64 (m:Int)]) w PK K:=by
 obtain⟨i,z,hi,hz,hi1,hi2,hz1⟩:=jC JP;have hold':(Builtin.firstCells i.size 0 (.slice none 0 0)).run prog w.drew=.ok ([]:List Value).toArray w.drew:=by
  simp[Builtin.firstCells]
 have hge:=grownCap_ge w (0+m) 0 342;have hle:=grownCap_le_maxLen w (0+m) 0 342 (by simp only[maxLen];omega);have hr:=Lib.run_append_grow_zeros (P:=prog) w 341 3 341 342 i z .i64 .i64 ajR aiX hi hz none 0 0 [] hold' m h0 om om om (by
   rw[hi2];omega) (by rw[hi2];exact growslice_fits om om)
 have hzc:∀x,(Builtin.zeroCells z.cells x).toList.length=x*1:=by intro x;simp[Builtin.zeroCells,hz1]
 obtain⟨zs,hzs⟩:∃zs,zs=(Builtin.zeroCells z.cells m).toList++(Builtin.zeroCells z.cells (grownCap w (0+m) 0 342 - (0+m))).toList:=⟨_,rfl⟩;have hlen:zs.length=grownCap w (0+m) 0 342:=by
  rw[hzs,agZ,hzc,hzc];omega
 have key:=(ho.drew).alloc zs 342;have e:zs.toArray=([]:List Value).toArray++Builtin.zeroCells z.cells m++Builtin.zeroCells z.cells (grownCap w (0+m) 0 342 - (0+m)):=by
  rw[hzs];simp
 have hr':(mB .append #[341,3] 341 cb #[.slice none 0 0,.int .i64 (m:Int)]).run prog w=.ok (.value (.slice (some ⟨w.heap.size,0,none⟩) (0+m) (grownCap w (0+m) 0 342))) (w.drew.alloc (.cells zs.toArray 342)):=by
  rw[e];simp[mB,builtin,hr]
 have hu:=key.toU 1 0 (grownCap w (0+m) 0 342) om om (by simp only[maxLen] at hle;exact hle);rw[akD,akS] at hu;rw[ahJ] at hr' hu hge;exact jU hr' (k _ _ _ hge hu)
theorem Zx:(Tryz.prog.info? 341).map (·.size)=some 1:=krx
theorem ZM (ho:OwnS S w0 w L)(h0:0 < m)(hb:m<=1000000000)(k:∀v W,OwnS S w0 W (.urow 342 1 v 0 []::L)->K v W):CallX prog 360 #[.slice none 0 0,.int .i64 (m:Int)] w PK K:=by
 refine fH (eD (K:=RetK fun v W=>OwnS S w0 W (.urow 342 1 v 0 []::L)) ?_) (fun e W ⟨v,he,ho⟩=>by subst he;exact k v W ho);unfold cF nz;refine join fun J hJ=>?_;simp only[rs,show decide ((m:Int) < 0)=false from ahA om,i_f];refine hJ _ _ fun _=>?_;unfold cA nz;refine join fun J2 hJ2=>?_;rw[OR ajR,bA ajR];simp only[rs];have e0:IntKind.i64.wrap (((0:Nat):Int) - ((0:Nat):Int))=0:=aA om om;rw[e0];rw[aA om om];simp only[show decide ((0:Int) < (m:Int) - 0)=true from ahB om,i_t];rw[OR ajR,Int.sub_zero];have es:∀{PK:PKT} {K:VWP},DoX prog (dB 341 (.slice none 0 0) none (some (.int .i64 ((0:Nat):Int))) none) w PK K=K (.slice none 0 0) w:=aE krx;rw[es];refine Yd ho h0 hb fun b c w2 hc ho=>?_;rw[bA ajR];refine aE (jD ajR Dr om om) |>.mpr ?_;refine hJ2 _ _ fun _=>?_;simp only[bW,gd,nz];have e:subA (some ⟨b,0,none⟩) 0 c 1=some ⟨b,0,none⟩:=Ey (a:=⟨b,0,none⟩);rw[e];exact retK ho
theorem UW {lb:Nat}{va vb:Value}{pa pb:List Pc}(hm:T[jm]?=some (.mem M))(ho:OwnS S w0 w (.cells lb [va,vb] 341::T))(ha:SlA M.A M.w va 1 pa.length (pcW pa))(hb:SlA M.A M.w vb 1 pb.length (pcW pb))
  (hoa:∀x∈pa,okM M x) (hob:∀x∈pb,okM M x) (h0:0 < pa.length) (hla:pa.length<=100000000) (hlb:pb.length<=100000000)
  (k:∀v W,OwnS S w0 W (pcE v (pa++pb)::.cells lb [va,vb] 341::T)->K v W) :
  CallX prog 350 #[.slice (some ⟨lb,0,none⟩) 2 2] w PK K:=by
 refine fH (eA (K:=RetK fun v W=>OwnS S w0 W (pcE v (pa++pb)::.cells lb [va,vb] 341::T)) ?_) (fun e W ⟨v,he,ho⟩=>by subst he;exact k v W ho);unfold bV nz;rw[bA apJ];have hm1:∀{W:World} {e:Ent},OwnS S w0 W (e::T)->M.has W:=fun ho=>ho.hasM (jm+1) (by rw[aiP];exact hm);have hm2:∀{W:World} {e e':Ent},OwnS S w0 W (e::e'::T)->M.has W:=fun ho=>ho.hasM (jm+2) (by rw[aiP,aiP];exact hm);have hia:∀{i:Nat} (W:World),i < 2->(mIA 373 (.slice (some ⟨lb,0,none⟩) 2 2) (.int .i64 (i:Int))).run prog W=.ok (.value (.pointer (some ⟨lb,i,none⟩))) W:=fun {i} W hi=>by
  have:=eE (P:=prog) (T:=373) (b:=lb) (off:=0) (cap:=2) (n:=2) (k:=.i64) (i:=(i:Int)) (w:=W) apJ Zx om om
  rwa [ahI,ahZ,ahJ] at this
 have hsl:∀{i:Nat} {W:World},i < 2->M.has W->Sl W ([va,vb].getD i undef) 1 ([pa,pb].getD i []).length (pcW ([pa,pb].getD i [])):=fun {i W} hi hW=>by
  rcases (by omega:i=0∨i=1) with rfl|rfl
  ·exact ha.now hW
  ·exact hb.now hW
 have hgl:∀{i:Nat},i < 2->[va,vb][i]?=some ([va,vb].getD i undef):=fun {i} hi=>by
  rcases (by omega:i=0∨i=1) with rfl|rfl<;>rfl
 refine loop (fun vs W=>∃i sz:Nat,vs=[.int .i64 (sz:Int),.int .i64 (i:Int)]∧i<=2∧sz=(([pa,pb].take i).flatten).length∧OwnS S w0 W (.cells lb [va,vb] 341::T)) (fun vs _=>2 - n1 vs) ⟨0,0,rfl,om,rfl,ho⟩ ?_;clear ho;rintro vs w1 ⟨i,sz,rfl,hi,hsz,ho⟩ _;simp only[bT,gd,rs,nz];by_cases hlt:(i:Int) < ((2:Nat):Int)
 ·simp only[hlt,agY,i_t];have hi2:i < 2:=om
  refine join fun J hJ=>?_;refine aE (hia w1 hi2) |>.mpr (aE (aB abA (ho.cell 0 rfl i (hgl hi2))) |>.mpr ?_);rw[bB ajR (hsl hi2 (hm1 ho))];have hle:([pa,pb].getD i []).length<=100000000:=by
   rcases (by omega:i=0∨i=1) with rfl|rfl
   ·exact hla
   ·exact hlb
  have hsl2:sz<=100000000:=by
   rw[hsz];rcases (by omega:i=0∨i=1) with rfl|rfl
   ·simp
   ·simpa using hla
  have hnx:sz+([pa,pb].getD i []).length=(([pa,pb].take (i+1)).flatten).length:=by
   rw[hsz];rcases (by omega:i=0∨i=1) with rfl|rfl<;>simp
  simp only[rs];rw[aA om om];simp only[show decide ((sz:Int)+((([pa,pb].getD i []).length:Nat):Int) < 0)=false from ahA om,i_f];refine hJ _ _ fun _=>?_;simp only[bQ,gd,rs,nz];rw[aA om om];exact aY ⟨i+1,sz+([pa,pb].getD i []).length,by congr 2,om,hnx,ho⟩ (by simp[n1,RowKit.intOf];omega)
 ·simp only[hlt,agX,i_f];have hie:i=2:=om
  subst hie;have hsz:sz=pa.length+pb.length:=by rw[hsz];simp
  refine ZM ho om om fun v0 w2 ho=>?_;rw[bA apJ];refine loop (fun vs W=>∃(i:Nat) (v:Value),vs=[v,.int .i64 (i:Int)]∧i<=2∧OwnS S w0 W (pcE v (([pa,pb].take i).flatten)::.cells lb [va,vb] 341::T)) (fun vs _=>2 - n1 vs) ⟨0,v0,rfl,om,ho⟩ ?_;clear ho;rintro vs w3 ⟨i,v,rfl,hi,ho⟩ _;simp only[bR,gd,rs,nz];by_cases hlt2:(i:Int) < ((2:Nat):Int)
  ·simp only[hlt2,agY,i_t];have hi2:i < 2:=om
   refine aE (hia w3 hi2) |>.mpr (aE (aB abA (ho.cell 1 rfl i (hgl hi2))) |>.mpr ?_);have hle:([pa,pb].getD i []).length<=100000000:=by
    rcases (by omega:i=0∨i=1) with rfl|rfl
    ·exact hla
    ·exact hlb
   have hle2:(([pa,pb].take i).flatten).length<=100000000:=by
    rcases (by omega:i=0∨i=1) with rfl|rfl
    ·simp
    ·simpa using hla
   have hone:∀u∈pcW ([pa,pb].getD i []),u.oneCell'=true:=by
    rcases (by omega:i=0∨i=1) with rfl|rfl
    ·exact To hoa
    ·exact To hob
   have hnx:([pa,pb].take (i+1)).flatten=([pa,pb].take i).flatten++[pa,pb].getD i []:=by
    rcases (by omega:i=0∨i=1) with rfl|rfl<;>simp
   refine cL 0 ajR JP dc ho rfl (hsl hi2 (hm2 ho)) hone om om fun v' w4 ho=>?_
   try simp only[rs]
   rw[aA om om];refine aY ⟨i+1,v',by congr 2,om,?_⟩ (by simp[n1,RowKit.intOf];omega);rw[hnx];unfold pcE;rw[MO,agZ];exact ho
  ·simp only[hlt2,agX,i_f];have hie:i=2:=om
   subst hie;have e:([pa,pb].take 2).flatten=pa++pb:=sm
   rw[e] at ho;exact retK ho
end
theorem okM.le {M N:Mem}(h:M.le N){x:Pc}(k:okM M x):okM N x:=CnAt.le h k
theorem G8 (pa pb:List Pc)(va vb:Value)(M:Mem)(w:World)(hM:M.has w)(ha:SlA M.A M.w va 1 pa.length (pcW pa))(hb:SlA M.A M.w vb 1 pb.length (pcW pb))(hoa:∀x∈pa,okM M x)(hob:∀x∈pb,okM M x)(h0:0 < pa.length)(hla:pa.length<=10000000)(hlb:pb.length<=10000000)
  (h1a:va.oneCell'=true) (h1b:vb.oneCell'=true) :
  RetM prog 327 #[va,vb] M w (fun r N=>∃qs:List Pc,qs.Perm (pa++pb)∧Srt.srt pw qs∧(∀x∈qs,okM N x)∧r.oneCell'=true∧SlA N.A N.w r 1 qs.length (pcW qs)):=by
 refine aT hM fun K hK=>EK ?_;unfold Cu nz;have ho:OwnS M.A w w [.mem M]:=OwnS.memS hM;refine⟨jA ?_⟩;unfold fB nz;refine bC (fun b=>.pointer (some ⟨b,0,none⟩)) [wtF] 359 (fun _=>by kernel_rfl) ho fun fb w1 ho=>?_;have hfe:=ho.at_ 0 rfl;obtain⟨N1,g1,hw1,hblk,ho⟩:=OwnS.freeze (L:=[.mem M]) ho 0 rfl;have hfA:N1.A fb:=hblk fb rfl;have hfis:(fcE fb).is N1.w:=by rw[hw1];exact hfe
 have mb:∀W:World,(bN 373 2 #[(0,va),(1,vb)]).run prog W=.ok (.value (.slice (some ⟨W.heap.size,0,none⟩) 2 2)) (W.alloc (.cells [va,vb].toArray 341)):=fun W=>by
  cases va<;>first|(cases h1a;done)|(cases vb<;>first|(cases h1b;done)|kernel_rfl)
 refine bC (fun b=>.slice (some ⟨b,0,none⟩) 2 2) [va,vb] 341 mb ho fun lb w2 ho=>?_;refine UW (jm:=0) rfl ho (ha.le g1) (hb.le g1) (fun x hx=>(hoa x hx).le g1) (fun x hx=>(hob x hx).le g1) h0 om om fun v w3 ho=>?_;have hok:∀x∈pa++pb,okM N1 x:=fun x hx=>by
  rcases aiC.1 hx with h|h
  ·exact (hoa x h).le g1
  ·exact (hob x h).le g1
 have hlen:(pa++pb).length=pa.length+pb.length:=agZ;obtain⟨g,cap,rfl⟩:=oN (ho.at_ 0 rfl) om;rw[yF];refine Xk (jm:=1) (acL hfA hfis) rfl om rfl ho hok fun w4 qs hp hs ho=>?_;have hql:=hp.length_eq;have ho:OwnS M.A w w4 (.urow 342 1 (.slice (some ⟨g,0,none⟩) (pa++pb).length cap) qs.length (pcW qs)::[.cells lb [va,vb] 341,.mem N1]):=ho;obtain⟨N2,g2,hsl,ho⟩:=OwnS.cG (L:=[.cells lb [va,vb] 341,.mem N1]) ho 1 rfl;exact hK _ _ N2 _ 1 ho rfl (g1.trans g2) ⟨qs,hp,hs,fun x hx=>(hok x (hp.mem_iff.1 hx)).le g2,rfl,hsl⟩
theorem pcAt (hs:SlA M.A M.w v 1 ps.length (pcW ps))(hi:i < ps.length) :
  ∃p,(∀W,(mIA 341 v (.int .i64 (i:Int))).run prog W=.ok (.value (.pointer (some p))) W)∧∀W,M.has W->(aI 342 (.pointer (some p))).run prog W=.ok (.value ps[i].1) W:=by
 obtain⟨b,off,cap,rfl,_⟩:=cB hs.1 om;refine⟨⟨b,off+i,none⟩,fun W=>?_,fun W hW=>?_⟩
 ·have:=eE (P:=prog) (T:=341) (b:=b) (off:=off) (cap:=cap) (n:=ps.length) (k:=.i64) (i:=(i:Int)) (w:=W) ajR Dr om om;rw[ahI,ahZ] at this;exact this
 ·obtain⟨b',off',cap',he,hc⟩:=cB (hs.now hW) om;cases he;refine aB Kk (hc i _ ?_);rw[SZ hi,ahC,ahH hi];rfl
theorem PQ (ps:List Pc)(v:Value)(M:Mem)(w:World)(hM:M.has w)(hs:SlA M.A M.w v 1 ps.length (pcW ps))(hok:∀x∈ps,okM M x)(hl:ps.length<=1000000)(hwt:∀x∈ps,pw x<=1000000000000000) :
  RetM prog 328 #[v] M w (fun r N=>∃qs:List Pc,qs.map (·.2)=Cn.iX (ps.map (·.2))∧(∀x∈qs,okM N x)∧r.oneCell'=true∧SlA N.A N.w r 1 qs.length (pcW qs)):=by
 refine aT hM fun K hK=>Gr ?_;unfold Ew nz;have ho:OwnS M.A w w [.mem M]:=OwnS.memS hM;have ho:OwnS M.A w w [.urow 342 1 nilS 0 [],.mem M]:=OwnS.nilU (L:=[.mem M]) ho _ _;refine loop (fun vs W=>∃(i:Nat) (v':Value) (qs:List Pc) (N:Mem),vs=[v',.int .i64 (i:Int)]∧i<=ps.length+1∧M.le N∧qs.length=i / 2∧i % 2=0∧qs.map (·.2)++Cn.iX ((ps.drop i).map (·.2))=Cn.iX (ps.map (·.2))∧(∀x∈qs,okM N x)∧OwnS M.A w W [pcE v' qs,.mem N]) (fun vs _=>ps.length+2 - n1 vs) ⟨0,nilS,[],M,rfl,om,M.le_refl,rfl,rfl,rfl,(fun x hx=>by cases hx),ho⟩ ?_;clear ho;rintro vs w1 ⟨i,v',qs,N,rfl,hi,hle,hql,hi2,hX,hqo,ho⟩ _;simp only[AG,gd,rs,iN,bnx,lnx];rw[aA om om,bB ajR (hs.now (Mem.Lo hle (ho.hasM 1 rfl)))];simp only[rs];by_cases hlt:(i:Int)+1 < (ps.length:Int)
 ·simp only[hlt,agY,i_t];have hi1:i+1 < ps.length:=om
  have hld:=fun {j:Nat} (hj:j < ps.length)=>pcAt hs hj;have hmN:∀{V:World},OwnS M.A w V [pcE v' qs,.mem N]->M.has V:=fun h=>Mem.Lo hle (h.hasM 1 rfl);obtain⟨p0,ia0,ld0⟩:=pcAt hs (i:=i) om;obtain⟨p1,ia1,ld1⟩:=pcAt hs (i:=i+1) om;have hx0:=hok _ (ahP (show i < ps.length by omega));have hx1:=hok _ (ahP (show i+1 < ps.length by omega));have hw0:=hwt _ (ahP (show i < ps.length by omega));have hw1:=hwt _ (ahP (show i+1 < ps.length by omega));have hdr:ps.drop i=ps[i]::ps[i+1]::ps.drop (i+2):=by
   rw[ajB (show i < ps.length by omega),ajB (show i+1 < ps.length by omega)]
  generalize ps[i]=x at ld0 hx0 hw0 hdr;generalize ps[i+1]=y at ld1 hx1 hw1 hdr;have hx0N:=hx0.le hle;have hx1N:=hx1.le hle;obtain⟨b0,s0,va0,vb0,e0,hA0,hc0⟩:=CnAt.wt hx0;obtain⟨b1,s1,va1,vb1,e1,hA1,hc1⟩:=CnAt.wt hx1;have l0:∀{V:World},M.has V->(aI 3 (.pointer (some ⟨b0,0+0,none⟩))).run prog V=.ok (.value (.int .i64 (x.2.wt:Int))) V:=fun hM=>aB cI (aG (T:=344) (cs:=cnC x.2.wt s0 va0 vb0) (jB hM hA0 hc0) (i:=0) rfl);have l1:∀{V:World},M.has V->(aI 3 (.pointer (some ⟨b1,0+0,none⟩))).run prog V=.ok (.value (.int .i64 (y.2.wt:Int))) V:=fun hM=>aB cI (aG (T:=344) (cs:=cnC y.2.wt s1 va1 vb1) (jB hM hA1 hc1) (i:=0) rfl);refine eB (fun V=>OwnS M.A w V [pcE v' qs,.mem N]) ho.drew ?_;refine q_do _ ia0 (q_at _ (fun V h=>ld0 V (hmN h)) ?_);rw[e0];refine q_do _ (fun _=>cM) (q_do _ (fun _=>bY QX) (q_at _ (fun V h=>l0 (hmN h)) ?_));refine qQ ?_;rw[aA om om,show (i:Int)+1=((i+1:Nat):Int) by omega];refine q_do _ ia1 (q_at _ (fun V h=>ld1 V (hmN h)) ?_);rw[e1];refine q_do _ (fun _=>cM) (q_do _ (fun _=>bY QX) (q_at _ (fun V h=>l1 (hmN h)) ?_));have hpw0:x.2.wt<=1000000000000000:=hw0;have hpw1:y.2.wt<=1000000000000000:=hw1;refine qQ ?_;rw[aA om om,show (x.2.wt:Int)+(y.2.wt:Int)=((x.2.wt+y.2.wt:Nat):Int) by omega];refine q_do _ ia0 (q_at _ (fun V h=>ld0 V (hmN h)) ?_);refine qQ ?_;rw[aA om om,show (i:Int)+1=((i+1:Nat):Int) by omega];refine q_do _ ia1 (q_at _ (fun V h=>ld1 V (hmN h)) ?_);rw[e0,e1];refine q_do (.agg (cnC (x.2.wt+y.2.wt) 0 (.pointer (some ⟨b0,0,none⟩)) (.pointer (some ⟨b1,0,none⟩))).toArray) (fun _=>by kernel_rfl) ?_;intro w2 ho;refine bC (fun b=>.pointer (some ⟨b,0,none⟩)) (cnC (x.2.wt+y.2.wt) 0 (.pointer (some ⟨b0,0,none⟩)) (.pointer (some ⟨b1,0,none⟩))) 344 (fun _=>by kernel_rfl) ho fun nb w3 ho=>?_;have hne:=ho.at_ 0 rfl;obtain⟨N1,g1,hN1,hblk,ho⟩:=OwnS.freeze (L:=[pcE v' qs,.mem N]) ho 1 rfl;have hz:okM N1 (.pointer (some ⟨nb,0,none⟩),.node x.2 y.2):=by
   refine⟨nb,.pointer (some ⟨b0,0,none⟩),.pointer (some ⟨b1,0,none⟩),rfl,hblk nb rfl,by rw[hN1];exact hne,?_,?_⟩
   ·have:=hx0N.le g1;unfold okM at this;rw[e0] at this;exact this
   ·have:=hx1N.le g1;unfold okM at this;rw[e1] at this;exact this
  have ho:OwnS M.A w w3 [pcE v' qs,.mem N1]:=ho;refine bC (fun b=>.slice (some ⟨b,0,none⟩) 1 1) [.pointer (some ⟨nb,0,none⟩)] 342 (fun _=>by kernel_rfl) ho fun sb w4 ho=>?_;refine cL 1 ajR JP dc ho rfl (lX (ho.at_ 0 rfl) dc rfl) (fun u hu=>by rw[aiA.1 hu];rfl) om om fun v2 w5 ho=>?_
  try simp only[rs]
  rw[aA om om];have ho:OwnS M.A w w5 [pcE v2 (qs++[(.pointer (some ⟨nb,0,none⟩),.node x.2 y.2)]),.mem N1]:=by
   unfold pcE;rw[MO,agZ];exact ho.tail
  refine aY ⟨i+2,v2,_,N1,rfl,om,hle.trans g1,by rw[agZ,ajJ];omega,om,?_,fun u hu=>?_,ho⟩ (by simp[n1,RowKit.intOf];omega)
  ·rw[<-hX,hdr,aiN,ahK];rfl
  ·rcases aiC.1 hu with h|h
   ·exact (hqo u h).le g1
   ·rw[aiA.1 h];exact hz
 ·simp only[hlt,agX,i_f];have hv1:=dQ (ho.at_ 0 rfl);have hpe:Cn.iX ((ps.drop i).map (·.2))=[]:=by
   have hd:(ps.drop i).length<=1:=by rw[ahL];omega
   rcases hp:ps.drop i with _|⟨x,_|⟨y,t⟩⟩
   ·rfl
   ·rfl
   ·rw[hp] at hd;simp at hd
  rw[hpe,ahV] at hX;obtain⟨N2,g2,hsl,ho⟩:=OwnS.cG (L:=[.mem N]) ho 0 rfl;exact hK _ _ N2 _ 0 ho rfl (hle.trans g2) ⟨qs,hX,fun x hx=>(hqo x hx).le g2,hv1,hsl⟩
end
section
open Eng
def K9(w)(K:KT):=nz Tryz.f287 1 [] [] [] (zg [] []) w K
theorem KG{w K}(h:K9 w K):Calls prog 287 #[] w K:=cw Tryz.func287 h
def pQ(t0 t1 t2 w)(K:KT):=nz Tryz.f341 3 [] [] [(2,22)] (zg [0,1,2] [t0,t1,t2]) w K
def uG(t0 t1 t2 w)(K:KT):=nz Tryz.f341 1 [] [(4,[],fun s v j w f=>pQ (s 0) (s 1) (s 2) w K)] [] (zg [0,1,2] [t0,t1,t2]) w K
theorem AV{t0 t1 t2 w K}(h:uG t0 t1 t2 w K):Calls prog 341 #[t0,t1,t2] w K:=cz [(2,[])] [] Tryz.func341 h
def pK(w)(K:KT):=nz Tryz.f317 31 [] [] [] (zg [] []) w K
def pG(t0 t1 t3 t9 t38 w)(N1:JT)(K:KT):=nz Tryz.f317 1899 [N1] [nh 9 [38]] [] (zg [0,1,3,9,38] [t0,t1,t3,t9,t38]) w K
def pU(t0 t1 t2 t3 t37 t38 w)(N1:JT)(K:KT):=nz Tryz.f317 43 [N1] [nh 9 [38],(16,[9],fun s v j w f=>pG (s 0) (s 1) (s 3) (vg v 0) (s 38) w (f 0) K),(24,[],fun s v j w f=>pK w K)] [] (zg [0,1,2,3,37,38] [t0,t1,t2,t3,t37,t38]) w K
def uK(t0 t1 t2 t3 w)(K:KT):=nz Tryz.f317 1 [] [(9,[38],fun s v j w f=>pU (s 0) (s 1) (s 2) (s 3) (s 37) (vg v 0) w (f 0) K)] [] (zg [0,1,2,3] [t0,t1,t2,t3]) w K
theorem A7{t0 t1 t2 t3 w K}(h:uK t0 t1 t2 t3 w K):Calls prog 317 #[t0,t1,t2,t3] w K:=cz [(8,[9]),(12,[])] [(4,[38])] Tryz.func317 h
def uI(t0 t1 t2 w)(K:KT):=nz Tryz.f288 1 [] [] [] (zg [0,1,2] [t0,t1,t2]) w K
theorem AW{t0 t1 t2 w K}(h:uI t0 t1 t2 w K):Calls prog 288 #[t0,t1,t2] w K:=cw Tryz.func288 h
def qH(t0 w)(K:KT):=nz Tryz.f289 1 [] [] [] (zg [0] [t0]) w K
theorem wP{t0 w K}(h:qH t0 w K):Calls prog 289 #[t0] w K:=cw Tryz.func289 h
def pI(t0 t1 w)(K:KT):=nz Tryz.f290 7 [] [] [] (zg [0,1] [t0,t1]) w K
def vE(t0 t1 w)(K:KT):=nz Tryz.f290 1 [] [(6,[],fun s v j w f=>pI (s 0) (s 1) w K)] [] (zg [0,1] [t0,t1]) w K
theorem AQ{t0 t1 w K}(h:vE t0 t1 w K):Calls prog 290 #[t0,t1] w K:=cz [(3,[])] [] Tryz.func290 h
def rB(t0 w)(K:KT):=nz Tryz.f291 1 [] [] [] (zg [0] [t0]) w K
theorem zQ{t0 w K}(h:rB t0 w K):Calls prog 291 #[t0] w K:=cw Tryz.func291 h
def iV(t0 w)(K:KT):=nz Tryz.f318 1 [] [] [] (zg [0] [t0]) w K
theorem oC{t0 w K}(h:iV t0 w K):Calls prog 318 #[t0] w K:=cw Tryz.func318 h
end
section
open Eng Go.RowKit
theorem Bw.XW:∀(t:List Nat) (x:Nat),t.length < 8->Bw.at_ (t++[x]) 0=Bw.at_ t 0+x*2 ^ t.length
|[],x,_=>by simp[Bw.at_]
|[a],x,_=>by simp[Bw.at_];omega
|[a,b],x,_=>by simp[Bw.at_];omega
|[a,b,c],x,_=>by simp[Bw.at_];omega
|[a,b,c,d],x,_=>by simp[Bw.at_];omega
|[a,b,c,d,e],x,_=>by simp[Bw.at_];omega
|[a,b,c,d,e,f],x,_=>by simp[Bw.at_];omega
|[a,b,c,d,e,f,g],x,_=>by simp[Bw.at_];omega
|_::_::_::_::_::_::_::_::_,_,h=>by simp at h;omega
theorem Bw.aaK:∀(t:List Nat),Bw.ok t->t.length < 8->Bw.at_ t 0 < 2 ^ t.length
|[],_,_=>by simp[Bw.at_]
|[a],h,_=>by have:=h a sm;simp[Bw.at_];omega
|[a,b],h,_=>by have:=h a sm;have:=h b sm;simp[Bw.at_];omega
|[a,b,c],h,_=>by have:=h a sm;have:=h b sm;have:=h c sm;simp[Bw.at_];omega
|[a,b,c,d],h,_=>by have:=h a sm;have:=h b sm;have:=h c sm;have:=h d sm;simp[Bw.at_];omega
|[a,b,c,d,e],h,_=>by have:=h a sm;have:=h b sm;have:=h c sm;have:=h d sm;have:=h e sm;simp[Bw.at_];omega
|[a,b,c,d,e,f],h,_=>by have:=h a sm;have:=h b sm;have:=h c sm;have:=h d sm;have:=h e sm;have:=h f sm;simp[Bw.at_];omega
|[a,b,c,d,e,f,g],h,_=>by have:=h a sm;have:=h b sm;have:=h c sm;have:=h d sm;have:=h e sm;have:=h f sm;have:=h g sm;simp[Bw.at_];omega
|_::_::_::_::_::_::_::_::_,_,h=>by simp at h;omega
theorem Bw.snoc (h:Bw.ok l){x:Nat}(hx:x < 2):∃P c,c < 2 ^ (l.length % 8)∧(if l.length % 8=0 then Bw.bytes l++[0] else Bw.bytes l)=P++[UInt8.ofNat c]∧Bw.bytes (l++[x])=P++[UInt8.ofNat (c+x*2 ^ (l.length % 8))]:=by
 have hs:l=l.take (8*(l.length / 8))++l.drop (8*(l.length / 8)):=(aiJ ..).symm;have h1:(l.take (8*(l.length / 8))).length=8*(l.length / 8):=by rw[ahE];omega
 have h2:(l.drop (8*(l.length / 8))).length=l.length % 8:=by rw[ahL];omega
 have hok:Bw.ok (l.drop (8*(l.length / 8))):=fun b hb=>h b (akQ hb);generalize l.take (8*(l.length / 8))=a at hs h1;generalize l.drop (8*(l.length / 8))=t at hs h2 hok;generalize l.length / 8=k at h1;rw[<-h2,hs,ahK,Bw.sC h1,Bw.sC h1];have ht:t.length < 8:=om
 have hlt:=Bw.aaK t hok ht;have e1:Bw.bytes (t++[x])=[UInt8.ofNat (Bw.at_ t 0+x*2 ^ t.length)]:=by
  rw[<-Bw.XW t x ht];unfold Bw.bytes;rw[agZ,ajJ,show (t.length+1+7) / 8=1 by omega];rfl
 by_cases h0:t.length=0
 ·have:t=[]:=akT.1 h0;subst this;refine⟨Bw.bytes a,0,dc,?_,?_⟩
  ·rw[agW h0];simp[Bw.bytes]
  ·rw[e1];simp[Bw.at_]
 ·refine⟨Bw.bytes a,Bw.at_ t 0,hlt,?_,by rw[e1]⟩;rw[agV h0]
  congr 1
  unfold Bw.bytes;rw[show (t.length+7) / 8=1 by omega];rfl
theorem Bw.NR (l:List Nat):(Bw.bytes l).length<=l.length:=by rw[Bw.lQ];omega
def wrC (way:Int)(n:Nat)(v:Value):List Value:=[.int .i64 way,.int .i64 ((n % 8:Nat):Int),v]
abbrev wrE (b:Nat)(way:Int)(n:Nat)(v:Value):Ent:=.cells b (wrC way n v) 326
abbrev Wr (b:Nat)(way:Int)(l:List Nat)(v:Value)(T:List Ent):List Ent:=wrE b way l.length v::outR v (Bw.bytes l)::T
theorem WX:fOff prog 326 0=some 0:=krx
theorem QK:fOff prog 326 1=some 2:=krx
section
variable {W:World}{b n:Nat}{way:Int}{v:Value}
theorem Yc (h:(wrE b way n v).is W):(aI 3 (.pointer (some ⟨b,0,none⟩))).run prog W=.ok (.value (.int .i64 way)) W:=aB cI (aG (T:=326) (cs:=wrC way n v) h (i:=0) rfl)
theorem YH (h:(wrE b way n v).is W):(aI 3 (.pointer (some ⟨b,0+1,none⟩))).run prog W=.ok (.value (.int .i64 ((n % 8:Nat):Int))) W:=aB cI (aG (T:=326) (cs:=wrC way n v) h (i:=1) rfl)
theorem QE (h:(wrE b way n v).is W):(aI 53 (.pointer (some ⟨b,0+2,none⟩))).run prog W=.ok (.value v) W:=aB G3 (aG (T:=326) (cs:=wrC way n v) h (i:=2) rfl)
theorem Qc (h:(wrE b way n v).is W):Ret prog 349 #[.pointer (some ⟨b,0,none⟩),.int .i64 1] W (fun v w'=>v=.int .i64 ((n % 8:Nat):Int)∧Below W.heap.size W w'):=by
 refine aP fun K hK=>nK ?_;unfold mA nz;simp only[rs,agY,aV];rw[rR];refine aE (YH h) |>.mpr ?_;exact hK _ _ ⟨rfl,(Own.start W).done⟩
theorem Pz (h:(wrE b way n v).is W)(hw:way=0∨way=1):Ret prog 340 #[.pointer (some ⟨b,0,none⟩),.int .i64 1] W (fun v w'=>v=.bool false∧Below W.heap.size W w'):=by
 refine aP fun K hK=>oP ?_;unfold lZ nz;have r:=Yc h;rw[aV,IB];refine aE r |>.mpr ?_;rcases hw with rfl|rfl
 ·simp only[rs,ne_eq,not_true,agX,g_un];exact hK _ _ ⟨rfl,(Own.start W).done⟩
 ·simp only[rs,show decide ((1:Int)≠0)=true by decide,aV];rw[IB];refine aE r |>.mpr ?_;simp only[rs,ne_eq,not_true,agX];exact hK _ _ ⟨rfl,(Own.start W).done⟩
end
theorem YE:∀a:Fin 256,∀k:Fin 8,a.val < 2 ^ k.val->bOr .u8 (a.val:Int) ((2 ^ k.val:Nat):Int)=((a.val+2 ^ k.val:Nat):Int):=by decide +kernel
theorem aeE:∀a:Fin 256,bOr .u8 (a.val:Int) 0=(a.val:Int):=by decide +kernel
theorem or8 {c x k:Nat}(hk:k < 8)(hc:c < 2 ^ k)(hx:x < 2):bOr .u8 (c:Int) ((x*2 ^ k:Nat):Int)=((c+x*2 ^ k:Nat):Int):=by
 have hp:2 ^ k<=2 ^ 7:=aiY dc om;have h7:(2:Nat) ^ 7=128:=rfl;rcases (by omega:x=0∨x=1) with rfl|rfl
 ·rw[akD];exact aeE ⟨c,om⟩
 ·rw[amJ];exact YE ⟨c,om⟩ ⟨k,hk⟩ hc
theorem Jb :DoX prog (mEq .eql 284 xo yo (.pointer (some ⟨b,0,none⟩)) (.pointer none)) w PK K=K (.bool false) w:=aE krx
theorem Xv :DoX prog (mEq .neq 284 xo yo (.pointer (some ⟨b,0,none⟩)) (.pointer none)) w PK K=K (.bool true) w:=aE krx
section
variable {w:World}{PK:PKT}{K:VWP}{S:Nat->Prop}{w0:World}{L T:List Ent}
theorem Hl {off:Nat}:DoX prog (mFA 326 (.pointer (some ⟨b,off,none⟩)) 0) w PK K=K (.pointer (some ⟨b,off,none⟩)) w:=aK WX
theorem Lt {off:Nat}:DoX prog (mFA 326 (.pointer (some ⟨b,off,none⟩)) 1) w PK K=K (.pointer (some ⟨b,off+2,none⟩)) w:=aK QK
theorem wr_v (ho:OwnS S w0 w L)(j:Nat){n:Nat}(hi:L[j]?=some (wrE b way n v)):DoX prog (aI 53 (.pointer (some ⟨b,0+2,none⟩))) w PK K=K v w:=aO G3 (ho.cell j hi 2 rfl)
theorem wr_u (ho:OwnS S w0 w L)(j:Nat){n:Nat}(hi:L[j]?=some (wrE b way n v)):DoX prog (aI 3 (.pointer (some ⟨b,0+1,none⟩))) w PK K=K (.int .i64 ((n % 8:Nat):Int)) w:=aO cI (ho.cell j hi 1 rfl)
theorem Rv (ho:OwnS S w0 w T)(k:∀b W,OwnS S w0 W (Wr b 0 [] nilS T)->K (.pointer (some ⟨b,0,none⟩)) W):CallX prog 287 #[] w PK K:=by
 refine fH (KG (K:=RetK fun v W=>∃b,v=.pointer (some ⟨b,0,none⟩)∧OwnS S w0 W (Wr b 0 [] nilS T)) ?_) (fun e W ⟨v,he,b,hv,ho⟩=>by subst he;subst hv;exact k b W ho);unfold K9 nz;have e:∀W:World,(aZ 326 #[]).run prog W=.ok (.value (.agg (wrC 0 0 nilS).toArray)) W:=fun W=>by kernel_rfl
 refine aE (e w) |>.mpr ?_;have ho:=ho.nilU 5 1;refine bC (fun b=>.pointer (some ⟨b,0,none⟩)) (wrC 0 0 nilS) 326 (fun _=>by kernel_rfl) ho fun b w1 ho=>?_;exact retK ⟨b,rfl,ho⟩
theorem aaR {x:Nat}(ho:OwnS S w0 w (Wr b way l v T))(hok:Bw.ok l)(hx:x < 2)(hl:l.length<=100000000000)
  (k:∀v' W,OwnS S w0 W (Wr b way (l++[x]) v' T)->K (.tuple #[]) W):CallX prog 341 #[.pointer (some ⟨b,0,none⟩),.int .i64 (x:Int),.int .i64 1] w PK K:=by
 refine fH (AV (K:=RetK fun v W=>v=.tuple #[]∧∃v',OwnS S w0 W (Wr b way (l++[x]) v' T)) ?_) (fun e W ⟨v,he,hv,v',ho⟩=>by subst he;subst hv;exact k v' W ho);unfold uG nz;obtain⟨P,c,hc,hP,hQ⟩:=Bw.snoc hok hx;have hbl:=Bw.NR l;have hpw:2 ^ (l.length % 8)<=2 ^ 7:=aiY dc om;have h7:(2:Nat) ^ 7=128:=rfl;have hxp:x*2 ^ (l.length % 8)<=128:=by
  have:x*2 ^ (l.length % 8)<=1*2 ^ (l.length % 8):=aiO _ om;omega
 have hPl:P.length<=100000000000:=by
  have:=congrArg List.length hP;rw[agZ,ajJ] at this;have h1:(if l.length % 8=0 then Bw.bytes l++[0] else Bw.bytes l).length<=(Bw.bytes l).length+1:=by
   split
   ·simp
   ·omega
  omega
 refine join fun J hJ=>?_;have fin:∀(W:World) (v':Value),OwnS S w0 W (wrE b way l.length v'::outR v' (P++[UInt8.ofNat c])::T)->J [] W:=by
  intro W v' ho;refine hJ _ _ fun _=>?_;unfold pQ nz;have hlen:(P++[UInt8.ofNat c]).length=P.length+1:=sm
  obtain⟨g,cap,rfl⟩:=oN (ho.at_ 1 rfl) om;rw[hlen] at ho;refine eB (fun W=>OwnS S w0 W (wrE b way l.length (.slice (some ⟨g,0,none⟩) (P.length+1) cap)::outR (.slice (some ⟨g,0,none⟩) (P.length+1) cap) (P++[UInt8.ofNat c])::T)) ho.drew ?_;refine q_do _ (fun _=>cM) (q_do _ (fun _=>bY QK) (q_at _ (fun W h=>QE (h.at_ 0 rfl)) ?_));refine q_do _ (fun _=>cM) (q_do _ (fun _=>bY QK) (q_at _ (fun W h=>QE (h.at_ 0 rfl)) ?_));refine q_do _ (fun _=>Dy ahX) (q_do _ (fun _=>E9) ?_);rw[aA om om,show ((P.length+1:Nat):Int) - 1=(P.length:Int) by omega];have ria:∀W:World,(mIA 53 (.slice (some ⟨g,0,none⟩) (P.length+1) cap) (.int .i64 (P.length:Int))).run prog W=.ok (.value (.pointer (some ⟨g,P.length,none⟩))) W:=fun W=>by
   have:=eE (P:=prog) (T:=53) (b:=g) (off:=0) (cap:=cap) (n:=P.length+1) (k:=.i64) (i:=(P.length:Int)) (w:=W) ahX (show _=some 1 by kernel_rfl) om om
   rwa [ahI,ahZ,ahJ] at this
  refine q_do _ ria ?_;have hcell:(aH (P++[UInt8.ofNat c]))[P.length]?=some (.int .u8 (c:Int)):=by
   rw[gQ om,apF (ahD _)];simp only[akF,anQ,akW];rw[aiU om]
  refine q_at (.int .u8 (c:Int)) (fun W h=>?_) ?_
  ·have hs:=Ck (h.at_ 1 rfl);rw[hlen] at hs;obtain⟨g',off',cap',e,h2⟩:=cB hs om
   injection e with e1 e2 e3
   injection e1 with e1
   have hg:=congrArg Addr.block e1;have hof:=congrArg Addr.off e1;dsimp only at hg hof;subst hg;subst hof;have:=h2 P.length _ hcell;rw[ahJ] at this;exact aB nU8l this
  refine q_do _ (fun _=>cM) (q_do _ (fun _=>bY WX) ?_);refine uO (.int .i64 ((l.length % 8:Nat):Int)) (fun W h=>(Qc (h.at_ 0 rfl)).mono fun v w' r=>⟨r.1,h.grow r.2⟩) ?_;refine q_do _ (fun _=>YJ om) ?_;rw[show min ((l.length % 8:Nat):Int).toNat IntKind.i64.bits=l.length % 8 by show min ((l.length % 8:Nat):Int).toNat 64=l.length % 8;omega];rw[show ((x:Nat):Int)*2 ^ (l.length % 8)=((x*2 ^ (l.length % 8):Nat):Int) by push_cast;rfl,aA om om];refine q_do _ (fun W=>cU8 om) ?_;have eu:(((UInt8.ofNat (x*2 ^ (l.length % 8))).toNat:Nat):Int)=((x*2 ^ (l.length % 8):Nat):Int):=by rw[akW,aiU om]
  try rw[eu]
  refine q_do _ (fun _=>r_or) ?_;rw[or8 (ajW _ dc) hc hx];refine q_do _ ria ?_;intro W2 ho;refine Cb (sz:=1) (new:=[.int .u8 ((c+x*2 ^ (l.length % 8):Nat):Int)]) 1 ho (by show some (outR _ _)=some _;unfold outR;rw[hlen]) rfl krx (fun u hu=>by rw[aiA.1 hu];rfl) sm fun W3 ho=>?_;have hnew:(aH (P++[UInt8.ofNat c])).take P.length++[.int .u8 ((c+x*2 ^ (l.length % 8):Nat):Int)]++(aH (P++[UInt8.ofNat c])).drop (P.length+[(.int .u8 ((c+x*2 ^ (l.length % 8):Nat):Int):Value)].length)=aH (Bw.bytes (l++[x])):=by
   rw[hQ];unfold aH;rw[aiN,aiN,ajP sm,amI sm,ahV]
   congr 1
   simp only[aiW,alI,akW];rw[aiU (show c+x*2 ^ (l.length % 8) < 2 ^ 8 by omega)]
  have ho:OwnS S w0 W3 (wrE b way l.length (.slice (some ⟨g,0,none⟩) (P.length+1) cap)::outR (.slice (some ⟨g,0,none⟩) (P.length+1) cap) (Bw.bytes (l++[x]))::T):=by
   unfold outR;rw[<-hnew,hQ,agZ,ajJ];exact ho
  rw[aV,Hl,rR,wr_u ho 0 rfl];simp only[rs];rw[aA om om,Jo dc]
  try rw[aV]
  rw[Hl,rR];have er:(((l.length % 8:Nat):Int)+1).tmod 8=(((l.length+1) % 8:Nat):Int):=by
   rw[Int.tmod_eq_emod_of_nonneg om];omega
  rw[er];refine aN 0 ho rfl krx rfl (by show 0+1 < 3;omega) fun W4 ho=>?_;refine retK ⟨rfl,.slice (some ⟨g,0,none⟩) (P.length+1) cap,?_⟩;unfold Wr wrE;rw[agZ,ajJ];exact ho
 rw[aV,Hl,rR,wr_u ho 0 rfl];simp only[rs];by_cases h0:((l.length % 8:Nat):Int)=0
 ·simp only[h0,agY,i_t];rw[agW om] at hP
  try rw[aV]
  rw[Lt,wr_v ho 0 rfl];refine V5 0 ho fun b8 w8 ho=>?_;refine cL 2 ahX elU8 dc ho rfl (lX (ho.at_ 0 rfl) dc rfl) eY om om fun v' w9 ho=>?_;have hov:v'.oneCell'=true:=dQ (ho.at_ 2 rfl)
  try rw[aV]
  rw[Lt];refine aN 1 ho rfl krx hov (by show 0+2 < 3;omega) fun w10 ho=>?_;refine fin w10 v' ?_;rw[<-hP,FN];exact ho.tail
 ·simp only[h0,agX,i_f];rw[agV om] at hP;refine fin w v ?_;rw[<-hP];exact ho
theorem Bw.UJ (v n:Nat):Bw.low v (n+1)=Bw.low v n++[v / 2 ^ n % 2]:=by
 unfold Bw.low;rw[alY,aiN];rfl
theorem abX {a:Nat}(h:a < 2 ^ 62):bAnd .i64 (a:Int) 1=((a % 2:Nat):Int):=by
 have h62:(2:Nat) ^ 62=4611686018427387904:=rfl;unfold bAnd;show IntKind.wrap .i64 (((BitVec.ofInt 64 (a:Int) &&& BitVec.ofInt 64 ((1:Nat):Int)).toNat:Nat):Int)=_;rw[BitVec.ofInt_natCast,BitVec.ofInt_natCast,BitVec.toNat_and,BitVec.toNat_ofNat,BitVec.toNat_ofNat,aiU om,aiU om,Nat.and_one_is_mod];exact aA om om
theorem mM {x n:Nat}(ho:OwnS S w0 w (Wr b way l v T))(hok:Bw.ok l)(hw:way=0∨way=1)(hn:n<=24)(hx:x < 2 ^ n)(hl:l.length<=10000000000)
  (k:∀way' v' W,(way'=0∨way'=1)->OwnS S w0 W (Wr b way' (l++Bw.low x n) v' T)->K (.int .i64 0) W):CallX prog 288 #[.pointer (some ⟨b,0,none⟩),.int .i64 (x:Int),.int .i64 (n:Int)] w PK K:=by
 refine fH (AW (K:=RetK fun v W=>v=.int .i64 0∧∃way' v',(way'=0∨way'=1)∧OwnS S w0 W (Wr b way' (l++Bw.low x n) v' T)) ?_) (fun e W ⟨v,he,hv,way',v',hw',ho⟩=>by subst he;subst hv;exact k way' v' W hw' ho);unfold uI nz;have hpw:2 ^ n<=2 ^ 24:=aiY dc hn;have h24:(2:Nat) ^ 24=16777216:=rfl;refine fH (A7 (K:=RetK fun v W=>v=.int .i64 0∧∃way' v',(way'=0∨way'=1)∧OwnS S w0 W (Wr b way' (l++Bw.low x n) v' T)) ?_) (fun e W ⟨v,he,hv,way',v',hw',ho⟩=>by
  subst he;subst hv;exact⟨_,rfl,rfl,way',v',hw',ho⟩)
 unfold uK nz;rw[Jb];have hshl:IntKind.i64.wrap ((1:Int)*2 ^ min ((n:Nat):Int).toNat IntKind.i64.bits)=((2 ^ n:Nat):Int):=by
  rw[show min ((n:Nat):Int).toNat IntKind.i64.bits=n by show min ((n:Nat):Int).toNat 64=n;omega,Int.one_mul,show (2:Int) ^ n=((2 ^ n:Nat):Int) by push_cast;rfl];exact aA om om
 simp only[rs,show decide ((n:Int) < 0)=false from ahA om,show decide ((24:Int) < (n:Int))=false from ahA om,show decide ((x:Int) < 0)=false from ahA om];rw[CU om,hshl];simp only[rs,show decide (((2 ^ n:Nat):Int)<=(x:Int))=false from ahA om]
 try rw[aV]
 rw[Hl];refine aL ho (R:=fun v=>v=.bool false) (Pz (ho.at_ 0 rfl) hw) ?_;rintro _ w2 rfl ho;simp only[rs];refine loop (fun vs W=>∃(i:Nat) (v':Value),vs=[.int .i64 i]∧i<=n∧OwnS S w0 W (Wr b way (l++Bw.low x i) v' T)) (fun vs _=>n - n0 vs) ⟨0,v,rfl,om,by show OwnS S w0 w2 (Wr b way (l++[]) v T);rw[ahV];exact ho⟩ ?_;clear ho;rintro vs w4 ⟨i,v',rfl,hi,ho⟩ _;simp only[pU,gd,rs,nz];by_cases hlt:(i:Int) < (n:Int)
 ·simp only[hlt,agY,i_t];refine join fun J hJ=>?_;simp only[show decide ((1:Int)=2)=false from rfl,i_f,rs];refine hJ _ _ fun _=>?_;simp only[pG,gd,nz];rw[HA om,show min ((i:Nat):Int).toNat IntKind.i64.bits=i by show min ((i:Nat):Int).toNat 64=i;omega,Md,SV];have hdv:x / 2 ^ i<=x:=amA _ _;rw[abX om];refine aaR ho (Bw.cH hok (Bw.eK _ _)) (ajW _ dc) (by rw[agZ,Bw.bE];omega) fun v2 w5 ho=>?_;rw[ahK,<-Bw.UJ] at ho;simp only[rs];rw[aA om om];exact aY ⟨i+1,v2,rfl,om,ho⟩ (by simp[n0,RowKit.intOf];omega)
 ·simp only[hlt,agX,i_f];have hin:i=n:=om
  subst hin;refine join fun J hJ=>?_;have fin:∀W way',(way'=0∨way'=1)->OwnS S w0 W (Wr b way' (l++Bw.low x i) v' T)->J [] W:=by
   intro W way' hw' ho;refine hJ _ _ fun _=>?_;simp only[pK,nz];exact retK ⟨rfl,way',v',hw',ho⟩
  by_cases h0:(0:Int) < (i:Int)
  ·simp only[h0,agY,i_t,rs,aV];rw[Hl,IB];refine aN 0 ho rfl krx rfl (by show 0 < 3;omega) fun w5 ho=>?_;exact fin w5 1 (.inr rfl) ho
  ·simp only[h0,agX,i_f,rs];exact fin w4 way hw ho
theorem Ox (ho:OwnS S w0 w (Wr b way l v T))
  (k:∀W,OwnS S w0 W (Wr b 0 (Bw.pad l) v T)->K (.tuple #[]) W):CallX prog 289 #[.pointer (some ⟨b,0,none⟩)] w PK K:=by
 refine fH (wP (K:=RetK fun u W=>u=.tuple #[]∧OwnS S w0 W (Wr b 0 (Bw.pad l) v T)) ?_) (fun e W ⟨u,he,hv,ho⟩=>by subst he;subst hv;exact k W ho);unfold qH nz;rw[Xv,i_t];have mb:∀{PK:PKT} {K:VWP},DoX prog (aZ 315 #[]) w PK K=K (.agg #[.int .i64 0,.int .i64 0]) w:=aE krx;rw[mb,aV,Hl];refine D1 0 ho rfl (new:=[.int .i64 0,.int .i64 0]) szSd dc (by show 0+2<=3;omega) fun w2 ho=>?_;refine retK ⟨rfl,?_⟩;have e:wrC 0 (Bw.pad l).length v=[.int .i64 0,.int .i64 0,v]:=by
  unfold wrC;rw[Bw.Ji,Nat.mul_mod_right];rfl
 unfold Wr wrE;rw[e,Bw.Le];exact ho
theorem Bw.Tw {k:Nat}(h:l.length=8*k)(s:List UInt8):Bw.bytes (l++Bw.raw s)=Bw.bytes l++s:=by
 have:=Bw.BX [] s;rw[ahV] at this;rw[Bw.sC h,this];show _++(s++[])=_;rw[ahV]
theorem ZJ {s:List UInt8}(ho:OwnS S w0 w (Wr b way l v T))(h8:l.length=8*j)(hj:j<=1000000000)(hs:s.length<=1000000000)
  (k:∀v' W,OwnS S w0 W (Wr b way (l++Bw.raw s) v' T)->K (.tuple #[]) W):CallX prog 290 #[.pointer (some ⟨b,0,none⟩),.string ⟨s.toArray⟩] w PK K:=by
 refine fH (AQ (K:=RetK fun u W=>u=.tuple #[]∧∃v',OwnS S w0 W (Wr b way (l++Bw.raw s) v' T)) ?_) (fun e W ⟨u,he,hv,v',ho⟩=>by subst he;subst hv;exact k v' W ho);unfold vE nz;rw[Jb,i_f];have hbl:(Bw.bytes l).length=j:=by rw[Bw.lQ];omega
 refine join fun J hJ=>?_;rw[aV,Hl,rR,wr_u ho 0 rfl,show l.length % 8=0 by omega];simp only[rs,show decide ((0:Int) < ((0:Nat):Int))=false from rfl,i_f];refine hJ _ _ fun _=>?_;unfold pI nz;rw[aV,Lt,wr_v ho 0 rfl];refine HU 1 ahX ahF elU8 aiL z8U ho rfl om fun v' w9 ho=>?_;have hov:v'.oneCell'=true:=dQ (ho.at_ 1 rfl)
 try rw[aV]
 rw[Lt];refine aN 0 ho rfl krx hov (by show 0+2 < 3;omega) fun w10 ho=>?_;refine retK ⟨rfl,v',?_⟩;unfold Wr wrE;rw[Bw.Tw h8,FN];have e:wrC way (l++Bw.raw s).length v'=[.int .i64 way,.int .i64 ((l.length % 8:Nat):Int),v']:=by
  unfold wrC;rw[agZ,Bw.M1];congr 3;omega
 rw[e];exact ho
theorem Zy {off n c:Nat}:DoX prog (mEq .eql 53 xo yo (.slice (some ⟨b,off,none⟩) n c) (.slice none 0 0)) w PK K=K (.bool false) w:=aE krx
theorem adS (ho:OwnS S w0 w L)(k:∀v w',OwnS S w0 w' (.urow 5 1 v 0 []::L)->K v w'):DoX prog (bN 53 0 #[]) w PK K:=
 bC (fun b=>.slice (some ⟨b,0,none⟩) 0 0) [] 5 (fun _=>by kernel_rfl) ho fun b w1 ho=>k _ _ (ho.toU 1 0 0 sm om om)
theorem MQ (ho:OwnS S w0 w (Wr b way l v T))(h0:0 < l.length)(hl:l.length<=10000000000)
  (k:∀W,OwnS S w0 W T->K (.string ⟨(Bw.bytes l).toArray⟩) W):CallX prog 291 #[.pointer (some ⟨b,0,none⟩)] w PK K:=by
 refine fH (zQ (K:=RetK fun u W=>u=.string ⟨(Bw.bytes l).toArray⟩∧OwnS S w0 W T) ?_) (fun e W ⟨u,he,hv,ho⟩=>by subst he;subst hv;exact k W ho);unfold rB nz;have hbl:=Bw.NR l;obtain⟨g,cap,rfl⟩:=oN (ho.at_ 1 rfl) (by rw[Bw.lQ];omega);rw[Jb,i_f,aV,Lt,wr_v ho 0 rfl];refine fH (oC (K:=RetK fun u W=>OwnS S w0 W (outR u (Bw.bytes l)::T)) ?_) (fun e W ⟨u,he,ho⟩=>?_)
 ·unfold iV nz;rw[Zy,i_f];refine adS ho fun v0 w1 ho=>?_;refine cL 0 ahX elU8 dc ho rfl (Ck (ho.at_ 2 rfl)) eY om om fun v' w9 ho=>?_;rw[ahJ,aiM] at ho;have ho:OwnS S w0 w9 ([outR v' (Bw.bytes l)]++([wrE b way l.length (.slice (some ⟨g,0,none⟩) (Bw.bytes l).length cap),outR (.slice (some ⟨g,0,none⟩) (Bw.bytes l).length cap) (Bw.bytes l)]++T)):=ho;exact retK ho.front.tail.tail
 ·subst he;refine aE (KJ ahX aiL ahF (Ck (ho.at_ 0 rfl))) |>.mpr ?_;exact retK ⟨rfl,ho.tail⟩
end
end
section
open Eng Go.RowKit
def TbW (A:Nat->Prop)(w:World)(b:Nat)(lens:List Nat):Prop:=∃a c o,A b∧(tbE b a c (cnt lens) (fstW lens) o).is w∧SlA A w o 1 (Fl.order lens 15).length (aR (Fl.order lens 15))∧SlA A w a 1 lens.length (aR lens)∧SlA A w c 1 lens.length (aR (Fl.Cz lens))
theorem wE (lens:List Nat)(v:Value)(M:Mem)(w:World)(h15:∀l∈lens,l<=15)(hl:lens.length<=100000)(h0:0 < lens.length)(hM:M.has w)(hs:SlA M.A M.w v 1 lens.length (aR lens)) :
  RetM prog 295 #[v] M w (fun r N=>if Fl.chk lens≠0 then r=.tuple #[.pointer none,.int .i64 (Fl.chk lens)] else ∃b,r=.tuple #[.pointer (some ⟨b,0,none⟩),.int .i64 0]∧TbW N.A N.w b lens):=by
 refine aT hM fun K hK=>Bz ?_;unfold D3 nz;have ho:OwnS M.A w w [.mem M]:=OwnS.memS hM;refine bF ho 0 rfl (HR lens v M w h15 hl hM hs) ?_;rintro _ N1 w1 g1 ⟨cv,rfl,hc1,hcs⟩ ho;simp only[ex,gD];by_cases hc:Fl.chk lens=0
 case neg=>
  simp only[hc,ne_eq,akI,agY,i_t];exact hK _ _ N1 _ 0 ho rfl g1 (by rw[agW hc])
 have hcs:=hcs hc;simp only[hc,ne_eq,not_true,agX,i_f];refine bF ho 0 rfl (HW lens v N1 w1 hl h0 (ho.hasM 0 rfl) (hs.le g1)) fun lv N2 w2 g2 hlv ho=>?_;refine aL ho (R:=fun r=>r=nsV (cnt lens)) (RetM.told (tZ lens v N2 w2 h15 hl (ho.hasM 0 rfl) (hs.le (g1.trans g2)))) ?_;rintro _ w3 rfl ho;rw[m_tb hlv.one hc1];refine Za hlv.one hc1 ho fun b w4 ho=>?_;rw[aV,Nf,tb_n ho 0 rfl];refine aL ho (R:=fun r=>r=nsV (fstW lens)) (RetM.told (Ds lens N2 w4 hl (ho.hasM 1 rfl))) ?_;rintro _ w5 rfl ho;rw[aV,SW];refine Tn 0 ho rfl fun w6 ho=>?_;have hsl:=hs.le (g1.trans g2);have ho:OwnS M.A w w6 [.urow 3 1 nilS 0 [],tbE b lv cv (cnt lens) (fstW lens) nilS,.mem N2]:=OwnS.nilU (L:=[tbE b lv cv (cnt lens) (fstW lens) nilS,.mem N2]) ho _ _;refine loop (fun vs W=>∃(l:Nat) (ov:Value),vs=[.int .i64 ((l+1:Nat):Int)]∧l<=15∧OwnS M.A w W [.urow 3 1 ov (Fl.order lens l).length (aR (Fl.order lens l)),tbE b lv cv (cnt lens) (fstW lens) ov,.mem N2]) (fun vs _=>16 - n0 vs) ⟨0,nilS,rfl,om,ho⟩ ?_;clear ho;rintro vs w7 ⟨l,ov,rfl,hl15,ho⟩ _;simp only[yQ,gd,rs,nz];by_cases hlt:((l+1:Nat):Int)<=15
 ·simp only[hlt,agY,i_t];rw[bB ahS (hsl.now (ho.hasM 2 rfl))];have hob:=Fl.Jc lens l;have hob2:l*lens.length<=15*100000:=akO hl15 hl;refine loop (fun vs W=>∃(i:Nat) (ov:Value),vs=[.int .i64 i]∧i<=lens.length∧OwnS M.A w W [.urow 3 1 ov (Fl.order lens l++Fl.ofTo lens (l+1) i).length (aR (Fl.order lens l++Fl.ofTo lens (l+1) i)),tbE b lv cv (cnt lens) (fstW lens) ov,.mem N2]) (fun vs _=>lens.length - n0 vs) ⟨0,ov,rfl,om,by
   rw[show Fl.ofTo lens (l+1) 0=[] from rfl,ahV];exact ho⟩ ?_
  clear ho;rintro vs w8 ⟨i,ov,rfl,hi,ho⟩ _;simp only[yM,gd,rs,nz];by_cases hlt2:(i:Int) < (lens.length:Int)
  ·have hi':i < lens.length:=om
   simp only[hlt2,agY,i_t];refine join fun J hJ=>?_;obtain⟨b2,off,r1,r2⟩:=mD (hsl.now (ho.hasM 2 rfl)) hi';have hgd:lens.getD i 0=lens[i]:=by rw[ahC,ahH hi'];rfl
   refine aE (r1 w8) |>.mpr (aE (aB cI r2) |>.mpr ?_);have hot:=Fl.MY lens (l+1) i;have hrg:Fl.ofTo lens (l+1) (i+1)=Fl.ofTo lens (l+1) i++(if lens[i]=l+1 then [i] else []):=by
    unfold Fl.ofTo;rw[alY,aoO]
    congr 1
    rw[<-hgd];by_cases h:lens.getD i 0=l+1
    ·rw[agW h];exact List.filter_cons_of_pos (ahB h)
    ·rw[agV h];exact List.filter_cons_of_neg (by rw[ahA h];decide)
   have fin:∀(W:World) (ov:Value),OwnS M.A w W [.urow 3 1 ov (Fl.order lens l++Fl.ofTo lens (l+1) (i+1)).length (aR (Fl.order lens l++Fl.ofTo lens (l+1) (i+1))),tbE b lv cv (cnt lens) (fstW lens) ov,.mem N2]->J [] W:=by
    intro W ov ho;refine hJ _ _ fun _=>?_;simp only[xY,gd,rs,nz];rw[aA om om];exact aY ⟨i+1,ov,rfl,om,ho⟩ (by simp[n0,RowKit.intOf];omega)
   simp only[rs];by_cases he:lens[i]=l+1
   ·rw[agW he] at hrg;simp only[show decide (((lens[i]:Nat):Int)=((l+1:Nat):Int))=true from ahB om,i_t,rs,aV];rw[KP,Ow ho 1 rfl];refine sX (i:Int) ho fun b3 w9 ho=>?_;refine oB 1 ho rfl (ho.sl 0 rfl 1 1 1 rfl) rF (by rw[agZ];omega) fun v' w10 ho=>?_
    try simp only[rs,aV]
    rw[KP];refine TF 2 (dQ (ho.at_ 1 rfl)) ho rfl fun w11 ho=>?_;refine fin w11 v' ?_;have e1:aR (Fl.order lens l++Fl.ofTo lens (l+1) (i+1))=aR (Fl.order lens l++Fl.ofTo lens (l+1) i)++MN [(i:Int)]:=by
     rw[hrg,<-ahK,lB];rfl
    have e2:(Fl.order lens l++Fl.ofTo lens (l+1) (i+1)).length=(Fl.order lens l++Fl.ofTo lens (l+1) i).length+1:=by
     rw[hrg,<-ahK,agZ];rfl
    rw[e1,e2];exact ho.tail
   ·rw[agV he,ahV] at hrg;simp only[show decide (((lens[i]:Nat):Int)=((l+1:Nat):Int))=false from ahA om,i_f];refine fin w8 ov ?_;rw[hrg];exact ho
  ·simp only[hlt2,agX,i_f];have hie:i=lens.length:=om
   subst hie;rw[aA om om];exact aY ⟨l+1,ov,rfl,om,ho⟩ (by simp[n0,RowKit.intOf];omega)
 ·have hl:l=15:=om
  subst hl;simp only[hlt,agX,i_f];obtain⟨N3,g3,hrow,ho⟩:=OwnS.cG (L:=[tbE b lv cv (cnt lens) (fstW lens) ov,.mem N2]) ho 1 rfl;have ho:OwnS M.A w w7 [tbE b lv cv (cnt lens) (fstW lens) ov,.mem N3]:=ho;have his:=ho.at_ 0 rfl;obtain⟨N4,g4,hw4,hblk,ho⟩:=OwnS.freeze (L:=[.mem N3]) ho 0 rfl;refine hK _ _ N4 _ 0 ho rfl (g1.trans (g2.trans (g3.trans g4))) ?_;rw[agV (by simp[hc])];exact⟨b,rfl,lv,cv,ov,hblk b rfl,by rw[hw4];exact his,hrow.le g4,hlv.le (g3.trans g4),hcs.le (g2.trans (g3.trans g4))⟩
end
section
open Eng Go.RowKit
theorem Bw.Sn {v n k:Nat}(h:k < n):(Bw.high v n).take (k+1)=(Bw.high v n).take k++[v / 2 ^ (n - 1 - k) % 2]:=by
 rw[aiG (by rw[Bw.OU];exact h)]
 congr 2
 simp[Bw.high]
section
variable {w:World}{PK:PKT}{K:VWP}{S:Nat->Prop}{w0:World}{L T:List Ent}
theorem Cp {lens:List Nat}(ho:OwnS S w0 w (Wr b way l v T))(hm:T[jm]?=some (.mem M))(ht:TbW M.A M.w tb lens)(hc:Fl.chk lens=0)(h15:∀l∈lens,l<=15)(hi:0 < lens.getD i 0)
  (hok:Bw.ok l) (hw:way=0∨way=1) (hl:l.length<=1000000000) (k:∀way' v' W,(way'=0∨way'=1)->OwnS S w0 W (Wr b way' (l++Fl.iK lens i) v' T)->K (.int .i64 0) W) :
  CallX prog 302 #[.pointer (some ⟨tb,0,none⟩),.pointer (some ⟨b,0,none⟩),.int .i64 (i:Int)] w PK K:=by
 refine fH (xS (K:=RetK fun v W=>v=.int .i64 0∧∃way' v',(way'=0∨way'=1)∧OwnS S w0 W (Wr b way' (l++Fl.iK lens i) v' T)) ?_) (fun e W ⟨v,he,hv,way',v',hw',ho⟩=>by subst he;subst hv;exact k way' v' W hw' ho);unfold qA nz;obtain⟨ta,tc,tv,hA,his,hord,hla,hlc⟩:=ht;have hil:i < lens.length:=by
  rcases ahY i lens.length with h|h
  ·exact h
  ·rw[ahC,ajD h] at hi;exact absurd hi (alT _)
 have hgi:lens.getD i 0=lens[i]:=by rw[ahC,ahH hil];rfl
 have hn15:lens[i]<=15:=h15 _ (ahP hil);have hcl:=Fl.QU (Fl.Kv (Fl.Lj hc)) h15 hi;rw[hgi] at hi hcl;have hp15:2 ^ lens[i]<=2 ^ 15:=aiY dc hn15;have e15:(2:Nat) ^ 15=32768:=rfl;have hm2:∀{W:World} {way:Int} {l:List Nat} {v:Value},OwnS S w0 W (Wr b way l v T)->M.has W:=fun ho=>ho.hasM (jm+2) (by rw[aiP,aiP];exact hm);have hlen:=hla.1.1;have ld0:∀{W:World},M.has W->(aI 123 (.pointer (some ⟨tb,0,none⟩))).run prog W=.ok (.value ta) W:=fun hM=>aB Ed (aG (T:=337) (cs:=tbC ta tc (cnt lens) (fstW lens) tv) (Ug hA his hM) (i:=0) rfl);have ld1:∀{W:World},M.has W->(aI 123 (.pointer (some ⟨tb,0+1,none⟩))).run prog W=.ok (.value tc) W:=fun hM=>aB Ed (aG (T:=337) (cs:=tbC ta tc (cnt lens) (fstW lens) tv) (Ug hA his hM) (i:=1) rfl);rw[TJ];simp only[rs];rw[Jb];simp only[rs,show decide ((i:Int) < 0)=false from ahA om,aV];rw[aK WJ];refine aE (ld0 (hm2 ho)) |>.mpr ?_;rw[bB ahS (hla.now (hm2 ho))];simp only[rs,show decide ((lens.length:Int)<=(i:Int))=false from ahA om,aV];rw[aK WJ];refine aE (ld0 (hm2 ho)) |>.mpr ?_;obtain⟨b2,off,r1,r2⟩:=mD (hla.now (hm2 ho)) hil;refine aE (r1 w) |>.mpr (aE (aB cI r2) |>.mpr ?_);simp only[rs,show decide (((lens[i]:Nat):Int)=0)=false from ahA om,i_f];rw[aA om om];have hcb:Fl.iK lens i=Bw.high (Fl.dL lens i) lens[i]:=by unfold Fl.iK;rw[hgi]
 refine loop (fun vs W=>∃(k:Nat) (way':Int) (v':Value),vs=[.int .i64 ((lens[i]:Int) - 1 - k)]∧k<=lens[i]∧(way'=0∨way'=1)∧OwnS S w0 W (Wr b way' (l++(Fl.iK lens i).take k) v' T)) (fun vs _=>((RowKit.intOf (vs.getD 0 undef))+1).toNat) ⟨0,way,v,sm,om,hw,by rw[akS,ahV];exact ho⟩ ?_;clear ho hw r1 r2;rintro vs w4 ⟨k,way',v',rfl,hk,hw,ho⟩ _;simp only[mW,gd,rs,nz];by_cases hlt:(0:Int)<=(lens[i]:Int) - 1 - k
 ·simp only[hlt,agY,i_t,aV];rw[aK ZP];refine aE (ld1 (hm2 ho)) |>.mpr ?_;have hcsl:=hlc.now (hm2 ho);rw[show lens.length=(Fl.Cz lens).length by rw[Fl.fG]] at hcsl;obtain⟨b3,off3,r3,r4⟩:=mD hcsl (i:=i) (by rw[Fl.fG];exact hil);have hcg:(Fl.Cz lens)[i]'(by rw[Fl.fG];exact hil)=Fl.dL lens i:=by
   have:=Fl.LH hil;rw[ahH (by rw[Fl.fG];exact hil)] at this;exact akJ this
  rw[hcg] at r4;refine aE (r3 w4) |>.mpr (aE (aB cI r4) |>.mpr ?_);have hkn:(lens[i]:Int) - 1 - k=((lens[i] - 1 - k:Nat):Int):=om
  rw[HA om,hkn,show min ((lens[i] - 1 - k:Nat):Int).toNat IntKind.i64.bits=lens[i] - 1 - k by show min ((lens[i] - 1 - k:Nat):Int).toNat 64=_;omega,Md,SV];have hdv:Fl.dL lens i / 2 ^ (lens[i] - 1 - k)<=Fl.dL lens i:=amA _ _;rw[abX om];have hbit:Fl.dL lens i / 2 ^ (lens[i] - 1 - k) % 2 < 2:=ajW _ dc;refine mM (n:=1) ho (Bw.cH hok (fun b hb=>Fl.nD _ _ b (ajK hb))) hw om om (by rw[agZ,ahE];omega) fun way2 v2 w5 hw2 ho=>?_;have e1:Bw.low (Fl.dL lens i / 2 ^ (lens[i] - 1 - k) % 2) 1=[Fl.dL lens i / 2 ^ (lens[i] - 1 - k) % 2]:=by
   show [Fl.dL lens i / 2 ^ (lens[i] - 1 - k) % 2 / 2 ^ 0 % 2]=_;rw[Nat.pow_zero,Nat.div_one,Nat.mod_mod]
  rw[e1,ahK,hcb,<-Bw.Sn om,<-hcb] at ho;simp only[rs,show decide ((0:Int)≠0)=false from rfl,i_f];rw[aA om om];exact aY ⟨k+1,way2,v2,by congr 2<;>omega,om,hw2,ho⟩ (by simp[RowKit.intOf]<;>omega)
 ·simp only[hlt,agX,i_f];have hkn:k=lens[i]:=om
  rw[aiF (by rw[Fl.bX,hgi];omega)] at ho;exact retK ⟨rfl,way',v',hw,ho⟩
end
end
section
open Eng
def sL(t0 t1 t2 t3 t9 w)(N1:JT)(K:KT):=nz Tryz.f319 19 [N1] [nh 5 [9]] [(2,16)] (zg [0,1,2,3,9] [t0,t1,t2,t3,t9]) w K
def wT(t0 t1 t2 t3 w)(K:KT):=nz Tryz.f319 1 [] [(5,[9],fun s v j w f=>sL (s 0) (s 1) (s 2) (s 3) (vg v 0) w (f 0) K)] [] (zg [0,1,2,3] [t0,t1,t2,t3]) w K
theorem BH{t0 t1 t2 t3 w K}(h:wT t0 t1 t2 t3 w K):Calls prog 319 #[t0,t1,t2,t3] w K:=cz [] [(2,[9])] Tryz.func319 h
def lG(d c e a w)(N1:JT)(K:KT):=
 bnx .lss 3 a e w K fun b w=>etx b a w fun f w=>gtx b (mBin .add 3 f (iN 3)) w K fun g w=>etx b c w fun h w=>gtx b (mB .len #[9] 3 #[false] #[h]) w K fun i w=>gtx b (mBin .leq 3 g i) w K fun j w=>dx (eS b j (.bool false)) w K fun k w=>IfX k (HeldX w (fun S2 w=>HDo prog (fun _=>True) (mBin .add 3 a (iN 3)) fun l=>HDo prog (fun _=>True) (dB 9 c (some a) (some l) none) fun m=>HDo prog (fun _=>True) (mBin .add 3 a (iN 3)) fun n=>HDo prog (fun _=>True) (dB 9 c (some a) (some n) none) fun o=>HDo prog S2 (Ru 289 d o false) fun p=>DoX prog (bN 123 1 #[(0,a)]) w (pm1 (pm1 (pm1 (pm1 (pm1 (pm1 (pm1 (pm1 (pm1 (pm1 (pm1 (pm1 (pm1 (pm1 (pk K))))))))))))))) fun q w=>S2 w∧(DoX prog (mB .append #[123,123] 123 #[false,false] #[p,q]) w (pm1 (pm1 (pm1 (pm1 (pm1 (pm1 (pm1 (pm1 (pm1 (pm1 (pm1 (pm1 (pm1 (pm1 (pk K))))))))))))))) fun r w=>(DoX prog (Q8 289 d m r) w (pm1 (pm1 (pm1 (pm1 (pm1 (pm1 (pm1 (pm1 (pm1 (pm1 (pm1 (pm1 (pm1 (pm1 (pk K))))))))))))))) fun _ w=>(bnx .add 3 a (iN 1) w K fun s w=>N1 [s] w))))) (K (.returned (.tuple #[])) w)
def nL(t0 t1 t2 t3 w)(K:KT):=nz Tryz.f293 1 [] [(3,[8],fun s v j w f=>lG (s 0) (s 1) (s 3) (vg v 0) w (f 0) K)] [] (zg [0,1,2,3] [t0,t1,t2,t3]) w K
theorem wA{t0 t1 t2 t3 w K}(h:nL t0 t1 t2 t3 w K):Calls prog 293 #[t0,t1,t2,t3] w K:=cz [] [(1,[8])] Tryz.func293 h
def iR(t10 w)(N1:JT)(K:KT):=nz Tryz.f292 1887 [N1] [nh 15 [10]] [] (zg [10] [t10]) w K
def fD(t1 t2 t6 t7 t8 t9 t10 w)(N1:JT)(K:KT):=nz Tryz.f292 351 [N1] [nh 15 [10],(16,[],fun s v j w f=>iR (s 10) w (f 0) K)] [] (zg [1,2,6,7,8,9,10] [t1,t2,t6,t7,t8,t9,t10]) w K
def kD(t0 t1 t2 w)(K:KT):=nz Tryz.f292 1 [] [(15,[10],fun s v j w f=>fD (s 1) (s 2) (s 6) (s 7) (s 8) (s 9) (vg v 0) w (f 0) K)] [] (zg [0,1,2] [t0,t1,t2]) w K
theorem qR{t0 t1 t2 w K}(h:kD t0 t1 t2 w K):Calls prog 292 #[t0,t1,t2] w K:=cz [(8,[])] [(7,[10])] Tryz.func292 h
def sR(t0 t3 t4 t5 t6 t7 w)(N1:JT)(K:KT):=nz Tryz.f266 4015 [N1] [nh 13 [3,5]] [] (zg [0,3,4,5,6,7] [t0,t3,t4,t5,t6,t7]) w K
def rU(t0 t3 t4 t5 w)(N1:JT)(K:KT):=nz Tryz.f266 175 [N1] [nh 13 [3,5],(22,[],fun s v j w f=>sR (s 0) (s 3) (s 4) (s 5) (s 6) (s 7) w (f 0) K)] [] (zg [0,3,4,5] [t0,t3,t4,t5]) w K
def yA(t0 w)(K:KT):=nz Tryz.f266 1 [] [(13,[3,5],fun s v j w f=>rU (s 0) (vg v 0) (s 4) (vg v 1) w (f 0) K)] [] (zg [0] [t0]) w K
theorem Bq{t0 w K}(h:yA t0 w K):Calls prog 266 #[t0] w K:=cz [(11,[])] [(6,[3,5])] Tryz.func266 h
def vI(t0 t2 t6 t8 w)(N1:JT)(K:KT):=nz Tryz.f343 87 [N1] [nh 11 [0,6,8]] [(8,14)] (zg [0,2,6,8] [t0,t2,t6,t8]) w K
def Aq(t0 t1 t2 w)(K:KT):=nz Tryz.f343 1 [] [(11,[0,6,8],fun s v j w f=>vI (vg v 0) (s 2) (vg v 1) (vg v 2) w (f 0) K)] [] (zg [0,1,2] [t0,t1,t2]) w K
theorem Dn{t0 t1 t2 w K}(h:Aq t0 t1 t2 w K):Calls prog 343 #[t0,t1,t2] w K:=cz [] [(5,[0,6,8])] Tryz.func343 h
def Aa(t0 w)(K:KT):=nz Tryz.f325 1 [] [] [] (zg [0] [t0]) w K
theorem Dt{t0 w K}(h:Aa t0 w K):Calls prog 325 #[t0] w K:=cw Tryz.func325 h
def AD(t0 w)(K:KT):=nz Tryz.f326 1 [] [] [] (zg [0] [t0]) w K
theorem DB{t0 w K}(h:AD t0 w K):Calls prog 326 #[t0] w K:=cw Tryz.func326 h
def qG(t0 t3 t4 t5 w)(N1:JT)(K:KT):=nz Tryz.f265 123 [N1] [nh 5 [0]] [] (zg [0,3,4,5] [t0,t3,t4,t5]) w K
def qF(t0 t3 w)(N1:JT)(K:KT):=nz Tryz.f265 11 [N1] [nh 5 [0],(12,[5],fun s v j w f=>qG (s 0) (s 3) (s 4) (vg v 0) w (f 0) K)] [] (zg [0,3] [t0,t3]) w K
def vH(t0 w)(K:KT):=nz Tryz.f265 1 [] [(5,[0],fun s v j w f=>qF (vg v 0) (s 3) w (f 0) K)] [] (zg [0] [t0]) w K
theorem AP{t0 w K}(h:vH t0 w K):Calls prog 265 #[t0] w K:=cz [(6,[5])] [(2,[0])] Tryz.func265 h
def kC(t14 w)(N1:JT)(K:KT):=nz Tryz.f296 245 [N1] [nh 5 [14]] [] (zg [14] [t14]) w K
def kG(t1 t3 t12 t13 t14 w)(N1:JT)(K:KT):=nz Tryz.f296 21 [N1] [nh 5 [14],(24,[],fun s v j w f=>kC (s 14) w (f 0) K)] [] (zg [1,3,12,13,14] [t1,t3,t12,t13,t14]) w K
def mX(t0 t1 t2 w)(K:KT):=nz Tryz.f296 1 [] [(5,[14],fun s v j w f=>kG (s 1) (s 3) (s 12) (s 13) (vg v 0) w (f 0) K)] [] (zg [0,1,2] [t0,t1,t2]) w K
theorem tC{t0 t1 t2 w K}(h:mX t0 t1 t2 w K):Calls prog 296 #[t0,t1,t2] w K:=cz [(12,[])] [(2,[14])] Tryz.func296 h
def yO(t0 w)(K:KT):=nz Tryz.f267 1 [] [] [] (zg [0] [t0]) w K
theorem BM{t0 w K}(h:yO t0 w K):Calls prog 267 #[t0] w K:=cw Tryz.func267 h
def oV(t20 w)(N1:JT)(K:KT):=nz Tryz.f297 983 [N1] [nh 9 [20]] [] (zg [20] [t20]) w K
def oM(t2 t3 t18 t19 t20 w)(N1:JT)(K:KT):=nz Tryz.f297 87 [N1] [nh 9 [20],(24,[],fun s v j w f=>oV (s 20) w (f 0) K)] [] (zg [2,3,18,19,20] [t2,t3,t18,t19,t20]) w K
def eH(a b c w)(K:KT):=
 iax 123 b (iN 256) w K fun d w=>stx 3 d (iN 1) w K fun _ w=>lnx 269 a w K fun e w=>LoopX [(iN 0)] w (fun vs1 w N1=>∀_:Sg,oM b c a e (vs1.getD 0 undef) w N1 K)
def sS(a w)(K:KT):=
 DrawX w (fun w=>(dx (HM 123 (iN 286) (iN 286)) w K fun b w=>(dx (HM 123 (iN 30) (iN 30)) w K fun c w=>eH a b c w K)∧(dx (HM 123 (iN 30) (iN 30)) w K fun t15_1 w=>eH a b t15_1 w K))∧(dx (HM 123 (iN 30) (iN 30)) w K fun t15_2 w=>dx (HM 123 (iN 286) (iN 286)) w K fun t14_1 w=>eH a t14_1 t15_2 w K))
theorem zX{t0 w K}(h:sS t0 w K):Calls prog 297 #[t0] w K:=cz [(12,[])] [(4,[20])] Tryz.func297 h
def xD(t0 t1 t5 w)(N1:JT)(K:KT):=nz Tryz.f299 19 [N1] [nh 5 [5]] [] (zg [0,1,5] [t0,t1,t5]) w K
def BE(t0 t1 w)(K:KT):=nz Tryz.f299 1 [] [(5,[5],fun s v j w f=>xD (s 0) (s 1) (vg v 0) w (f 0) K)] [] (zg [0,1] [t0,t1]) w K
theorem EU{t0 t1 w K}(h:BE t0 t1 w K):Calls prog 299 #[t0,t1] w K:=cz [] [(2,[5])] Tryz.func299 h
def eC(t3 t4 t5 w)(N1:JT)(K:KT):=nz Tryz.f300 1003 [N1] [nh 7 [3,4]] [] (zg [3,4,5] [t3,t4,t5]) w K
def sH(t0 t3 t4 t5 w)(N1 N2:JT)(K:KT):=nz Tryz.f300 619 [N1,N2] [nh 7 [3,4],nh 11 [5],(34,[3,5],fun s v j w f=>eC (vg v 0) (s 4) (vg v 1) w (f 0) K)] [(5,19)] (zg [0,3,4,5] [t0,t3,t4,t5]) w K
def rT(t0 t3 t4 w)(N1:JT)(K:KT):=nz Tryz.f300 43 [N1] [nh 7 [3,4],(11,[5],fun s v j w f=>sH (s 0) (s 3) (s 4) (vg v 0) w (f 1) (f 0) K)] [] (zg [0,3,4] [t0,t3,t4]) w K
def wN(t0 w)(K:KT):=nz Tryz.f300 1 [] [(7,[3,4],fun s v j w f=>rT (s 0) (vg v 0) (vg v 1) w (f 0) K)] [] (zg [0] [t0]) w K
theorem Bm{t0 w K}(h:wN t0 w K):Calls prog 300 #[t0] w K:=cz [(17,[3,5])] [(3,[3,4]),(5,[5])] Tryz.func300 h
def uP(w)(K:KT):=nz Tryz.f301 1 [] [] [] (zg [] []) w K
theorem AZ{w K}(h:uP w K):Calls prog 301 #[] w K:=cw Tryz.func301 h
def yD(t0 t9 t16 t21 t132 t133 t134 w)(N4:JT)(K:KT):=nz Tryz.f268 92274687 [N4] [nh 73 [134]] [] (zg [0,9,16,21,132,133,134] [t0,t9,t16,t21,t132,t133,t134]) w K
def nZ(t0 t9 t10 t16 t21 t122 t123 t124 w)(N3:JT)(K:KT):=nz Tryz.f268 46137343 [N3] [nh 63 [124],(73,[134],fun s v j w f=>yD (s 0) (s 9) (s 16) (s 21) (s 132) (s 133) (vg v 0) w (f 0) K)] [] (zg [0,9,10,16,21,122,123,124] [t0,t9,t10,t16,t21,t122,t123,t124]) w K
def xR(t0 t5 t7 t9 t10 t14 t16 t18 t88 t89 w)(N2:JT)(K:KT):=nz Tryz.f268 180223 [N2] [nh 39 [18,89],(63,[124],fun s v j w f=>nZ (s 0) (s 9) (s 10) (s 16) (s 21) (s 122) (s 123) (vg v 0) w (f 0) K)] [] (zg [0,5,7,9,10,14,16,18,88,89] [t0,t5,t7,t9,t10,t14,t16,t18,t88,t89]) w K
def yL(t0 t5 t7 t9 t10 t11 t64 t65 t66 w)(N1:JT)(K:KT):=nz Tryz.f268 11263 [N1] [nh 23 [66],(39,[18,89],fun s v j w f=>xR (s 0) (s 5) (s 7) (s 9) (s 10) (s 14) (s 16) (vg v 0) (s 88) (vg v 1) w (f 0) K)] [] (zg [0,5,7,9,10,11,64,65,66] [t0,t5,t7,t9,t10,t11,t64,t65,t66]) w K
def BG(t0 w)(K:KT):=nz Tryz.f268 1 [] [(23,[66],fun s v j w f=>yL (s 0) (s 5) (s 7) (s 9) (s 10) (s 11) (s 64) (s 65) (vg v 0) w (f 0) K)] [] (zg [0] [t0]) w K
theorem Fa{t0 w K}(h:BG t0 w K):Calls prog 268 #[t0] w K:=cz [] [(11,[66]),(19,[18,89]),(31,[124]),(36,[134])] Tryz.func268 h
def yB(t6 w)(K:KT):=nz Tryz.f235 255 [] [] [] (zg [6] [t6]) w K
def wL(t1 t6 t7 w)(K:KT):=nz Tryz.f235 127 [] [(32,[6],fun s v j w f=>yB (vg v 0) w K)] [] (zg [1,6,7] [t1,t6,t7]) w K
def CP(t0 t1 w)(K:KT):=nz Tryz.f235 1 [] [(24,[6],fun s v j w f=>wL (s 1) (vg v 0) (s 7) w K)] [] (zg [0,1] [t0,t1]) w K
theorem EX{t0 t1 w K}(h:CP t0 t1 w K):Calls prog 235 #[t0,t1] w K:=cz [(12,[6]),(16,[6])] [] Tryz.func235 h
end
section
open Eng Go.RowKit
def ptC (x:Df.Pt):List Value:=[.int .u8 (x.1.toNat:Int),.int .i64 (x.2.1:Int),.int .i64 (x.2.2:Int)]
def ptV (x:Df.Pt):Value:=.agg (ptC x).toArray
abbrev ptE (b:Nat)(x:Df.Pt):Ent:=.cells b (ptC x) 291
theorem YS (x:Df.Pt):(ptC x).length=3:=rfl
theorem Rg {x:Df.Pt}:∀u∈ptC x,u.oneCell'=true:=by
 intro u hu;simp only[ptC,ahG,ajH,or_false] at hu;rcases hu with rfl|rfl|rfl<;>rfl
theorem YM:aggN prog 291=some 3:=krx
theorem szPt:(Tryz.prog.info? 291).map (·.size)=some 3:=krx
theorem Sz:fOff prog 291 0=some 0:=krx
theorem Ej:fOff prog 291 1=some 1:=krx
theorem Wl:fOff prog 291 2=some 2:=krx
theorem ptAt {l:List Df.Pt}(hs:SlA M.A M.w v 3 l.length (l.flatMap ptC))(hi:i < l.length) :
  ∃p,(∀W,(mIA 269 v (.int .i64 (i:Int))).run prog W=.ok (.value (.pointer (some p))) W)∧∀W,M.has W->(aI 291 (.pointer (some p))).run prog W=.ok (.value (ptV l[i])) W:=by
 obtain⟨b,off,cap,rfl,_⟩:=cB hs.1 om;refine⟨⟨b,off+i*3,none⟩,fun W=>?_,fun W hW=>?_⟩
 ·have:=eE (P:=prog) (T:=269) (b:=b) (off:=off) (cap:=cap) (n:=l.length) (k:=.i64) (i:=(i:Int)) (w:=W) aoR szPt om om;rw[ahI] at this;exact this
 ·obtain⟨b',off',cap',he,hc⟩:=cB (hs.now hW) om;cases he;refine bI (AtV.agg YM (cs:=ptC l[i]) rfl fun j u hj=>?_);rw[akL];exact hc _ _ (Eng.zK YS hi hj)
theorem Us {n k:Nat}(hk:k<=30)(hn:n<=1000000000):bAnd .i64 (n:Int) ((2 ^ k - 1:Nat):Int)=((n % 2 ^ k:Nat):Int):=by
 have hp:2 ^ k<=2 ^ 30:=aiY dc hk;have h30:(2:Nat) ^ 30=1073741824:=rfl;have hm:n % 2 ^ k<=n:=Nat.mod_le _ _;unfold bAnd;show IntKind.wrap .i64 (((BitVec.ofInt 64 (n:Int) &&& BitVec.ofInt 64 ((2 ^ k - 1:Nat):Int)).toNat:Nat):Int)=_;rw[BitVec.ofInt_natCast,BitVec.ofInt_natCast,BitVec.toNat_and,BitVec.toNat_ofNat,BitVec.toNat_ofNat,aiU om,aiU (a:=2 ^ k - 1) om,Nat.and_two_pow_sub_one_eq_mod];exact aA om om
theorem Up {a k:Nat}(hk:k<=40)(h:a*2 ^ k<=4611686018427387904):IntKind.i64.wrap ((a:Int)*2 ^ min ((k:Nat):Int).toNat IntKind.i64.bits)=((a*2 ^ k:Nat):Int):=by
 rw[show min ((k:Nat):Int).toNat IntKind.i64.bits=k by show min ((k:Nat):Int).toNat 64=k;omega,show (a:Int)*2 ^ k=((a*2 ^ k:Nat):Int) by push_cast;rfl];exact aA om om
def sdT (r:Nat×Nat×Nat):Value:=.tuple #[.int .i64 (r.1:Int),.int .i64 (r.2.1:Int),.int .i64 (r.2.2:Int)]
theorem Nr (n ones group:Nat)(w:World)(hn:n<=40000)(h1:ones<=8)(hg:1<=group∧group<=4):Ret prog 343 #[.int .i64 (n:Int),.int .i64 (ones:Int),.int .i64 (group:Int)] w (fun v w'=>v=sdT (Df.said n ones group)∧Below w.heap.size w w'):=by
 refine aP fun K hK=>Dn ?_;unfold Aq nz;generalize hR:Df.said n ones group=R at hK;unfold Df.said at hR;simp only[rs];by_cases h:(n:Int) < (ones:Int)
 ·simp only[h,agY,i_t];rw[agW om] at hR;subst hR;exact hK _ _ ⟨rfl,(Own.start w).done⟩
 simp only[h,agX,i_f];rw[agV om] at hR;rw[aA om om];have h221:(2:Nat) ^ (1+20)=2097152:=rfl;refine loop (fun vs W=>∃(m sg bits f:Nat),vs=[.int .i64 (m:Int),.int .i64 (sg:Int),.int .i64 (bits:Int)]∧m<=40000∧bits+f=21∧sg<=8+4*bits∧m < group*2 ^ (bits+f)∧Df.JS group f m sg bits=R∧Own w W []) (fun vs _=>n0 vs) ⟨n - ones,ones,1,20,by congr 2;omega,om,rfl,om,om,hR,Own.start w⟩ ?_;rintro vs w1 ⟨m,sg,bits,f,rfl,hm,hbf,hsg,hlt,hX,ho⟩ _;simp only[vI,gd,nz];have hpb:2 ^ bits<=2 ^ 21:=aiY dc om;have h21:(2:Nat) ^ 21=2097152:=rfl;have hpp:=anZ bits;have hgb:group*2 ^ bits<=4*2097152:=akO hg.2 om;have hgb1:1*1<=group*2 ^ bits:=akO hg.1 hpp;rw[CU om,Up om om];simp only[rs];by_cases hc:((group*2 ^ bits:Nat):Int)<=(m:Int)
 ·simp only[hc,agY,i_t];obtain⟨f,rfl⟩:∃g,f=g+1:=⟨f - 1,by
   rcases ajV f with h0|h0
   ·subst h0;rw[aiZ] at hlt;omega
   ·omega⟩
  unfold Df.JS at hX;rw[agW om] at hX;rw[CU om,Up om om];simp only[rs];rw[aA om om,aA om om,aA om om];rw[show (m:Int) - ((group*2 ^ bits:Nat):Int)=((m - group*2 ^ bits:Nat):Int) by omega];refine aY ⟨m - group*2 ^ bits,sg+group,bits+1,f,rfl,om,om,om,?_,hX,ho⟩ (by show ((m - group*2 ^ bits:Nat):Int).toNat < ((m:Nat):Int).toNat;omega);rw[show bits+1+f=bits+(f+1) by omega];omega
 ·simp only[hc,agX,i_f];have hXe:(sg+m / 2 ^ bits,m % 2 ^ bits,bits)=R:=by
   cases f with
  |zero=>exact hX
  |succ f=>
    unfold Df.JS at hX;rw[agV om] at hX;exact hX
  have hdv:m / 2 ^ bits<=m:=amA _ _;have hone:=Up (a:=1) (k:=bits) om om;refine eB (fun W=>Own w W []) ho.drew ?_;refine q_do _ (fun _=>UE om) ?_;rw[show min ((bits:Nat):Int).toNat IntKind.i64.bits=bits by show min ((bits:Nat):Int).toNat 64=bits;omega,Md];generalize m / 2 ^ bits=q at hdv hXe ⊢;refine qQ ?_;rw[aA om om];refine q_do _ (fun _=>YJ om) ?_;rw[show ((1:Int))=((1:Nat):Int) from rfl,hone,amJ];refine q_do _ (fun _=>E9) ?_;rw[aA om om,show ((2 ^ bits:Nat):Int) - ((1:Nat):Int)=((2 ^ bits - 1:Nat):Int) by omega];refine q_do _ (fun _=>TZ) ?_;rw[Us om om];intro W ho;refine hK _ _ ⟨?_,ho.done⟩;rw[<-hXe];rfl
theorem Ko (n:Nat)(w:World)(h3:3<=n)(h:n<=258):Ret prog 325 #[.int .i64 (n:Int)] w (fun v w'=>v=.tuple #[.int .i64 ((Df.sign n).1:Int),.int .i64 ((Df.sign n).2.1:Int),.int .i64 ((Df.sign n).2.2:Int),.int .i64 0]∧Below w.heap.size w w'):=by
 refine aP fun K hK=>Dt ?_;unfold Aa nz;obtain⟨s1,s2,_⟩:=Df.DE h3 h;unfold Df.sign at hK s1 s2;simp only[rs,show decide ((n:Int) < 3)=false from ahA om,show decide ((258:Int) < (n:Int))=false from ahA om,i_f];by_cases h8:(n:Int)=258
 ·simp only[h8,agY,i_t];rw[agW om] at hK;exact hK _ _ ⟨rfl,(Own.start w).done⟩
 ·simp only[h8,agX,i_f];rw[agV om] at hK s1 s2;rw[aA om om,show (n:Int) - 3=((n - 3:Nat):Int) by omega];refine aL (Own.start w) (R:=fun v=>v=sdT (Df.said (n - 3) 8 4)) (Nr (n - 3) 8 4 w om om om) ?_;rintro _ w2 rfl ho;unfold sdT;simp only[ex,rs];rw[aA om om];exact hK _ _ ⟨sm,ho.done⟩
theorem Ks (n:Nat)(w:World)(h3:1<=n)(h:n<=32768):Ret prog 326 #[.int .i64 (n:Int)] w (fun v w'=>v=.tuple #[.int .i64 ((Df.far n).1:Int),.int .i64 ((Df.far n).2.1:Int),.int .i64 ((Df.far n).2.2:Int),.int .i64 0]∧Below w.heap.size w w'):=by
 refine aP fun K hK=>DB ?_;unfold AD nz;simp only[rs,show decide ((n:Int) < 1)=false from ahA om,show decide ((32768:Int) < (n:Int))=false from ahA om,i_f];rw[aA om om,show (n:Int) - 1=((n - 1:Nat):Int) by omega];refine aL (Own.start w) (R:=fun v=>v=sdT (Df.said (n - 1) 4 2)) (Nr (n - 1) 4 2 w om om om) ?_;rintro _ w2 rfl ho;unfold sdT;simp only[ex,rs];exact hK _ _ ⟨rfl,ho.done⟩
theorem Df.Yu (last n:Nat)(l:List Nat)(s:List UInt8){k:Nat}(hk:l.length=8*k):Bw.pad (l++Bw.low last 1++Bw.low 0 2)++Bw.low n 16++Bw.low (65535 - n) 16++Bw.raw s=l++Df.sb last n s:=by
 unfold Df.sb Bw.pad;rw[show (8 - (l++Bw.low last 1++Bw.low 0 2).length % 8) % 8=5 by simp only[agZ,Bw.bE];omega];simp only[ahK]
theorem Jv {k:IntKind}{b:Int}:DoX prog (mB .min #[T1,T2] U cb #[.int k a,.int k' b]) w PK K=K (.int k (min a b)) w:=aE (by
 have e:(if b < a then b else a)=min a b:=by split<;>omega
 simp[mB,builtin,Builtin.min_,Builtin.min2,e])
section
variable {w:World}{PK:PKT}{K:VWP}{S:Nat->Prop}{w0:World}{L T:List Ent}
theorem TS {s:List UInt8}(ho:OwnS S w0 w T)(hs:s.length<=1048576)(k:∀W,OwnS S w0 W T->K (.string ⟨(Bw.bytes (Df.stored s)).toArray⟩) W):CallX prog 265 #[.string ⟨s.toArray⟩] w PK K:=by
 refine fH (AP (K:=RetK fun u W=>u=.string ⟨(Bw.bytes (Df.stored s)).toArray⟩∧OwnS S w0 W T) ?_) (fun e W ⟨u,he,hv,ho⟩=>by subst he;subst hv;exact k W ho);unfold vH nz;refine Rv ho fun b w1 ho=>?_;unfold Df.stored;generalize hf:s.length / 65535+1=f;have hfs:s.length < f*65535:=om
 have hfl:f<=20:=om
 generalize hR:Df.st f s=R;refine loop (fun vs W=>∃(t:List UInt8) (l:List Nat) (j g:Nat) (way:Int) (v:Value),vs=[.string ⟨t.toArray⟩]∧t.length<=1048576∧t.length < g*65535∧g<=20∧l.length=8*j∧j+t.length+5*g<=1048776∧Bw.ok l∧l++Df.st g t=R∧(way=0∨way=1)∧OwnS S w0 W (Wr b way l v T)) (fun vs _=>nS (vs.getD 0 undef)) ⟨s,[],0,f,0,nilS,rfl,hs,hfs,hfl,rfl,om,(fun b hb=>by cases hb),by rw[<-hR];rfl,.inl rfl,ho⟩ ?_;clear ho;rintro vs w2 ⟨t,l,j,g,way,v,rfl,ht,htg,hg,hlj,hjt,hok,hX,hw,ho⟩ _;simp only[qF,gd,nz];rw[fP ahF,Jv];obtain⟨g,rfl⟩:∃q,g=q+1:=⟨g - 1,om⟩;unfold Df.st at hX;have hn:min (t.length:Int) 65535=((min t.length 65535:Nat):Int):=om
 rw[hn];refine join fun J hJ=>?_;rw[fP ahF];simp only[rs];have go:∀last:Nat,last < 2->(last=1↔t.length<=65535)->J [.int .i64 (last:Int)] w2:=by
  intro last hlast hiff;refine hJ _ _ fun _=>?_;simp only[qG,gd,nz];generalize hnn:min t.length 65535=n;have hn16:n<=65535:=om
  have hnt:n<=t.length:=om
  have hlk:l.length<=10000000:=om
  refine mM (n:=1) ho hok hw om om om fun way1 v1 w3 hw1 ho=>?_;have hok1:=Bw.cH hok (Bw.eK last 1);refine mM (x:=0) (n:=2) ho hok1 hw1 om dc (by rw[agZ,Bw.bE];omega) fun way2 v2 w4 hw2 ho=>?_;have hok2:=Bw.cH hok1 (Bw.eK 0 2);refine Ox ho fun w5 ho=>?_;have hok3:=Bw.WW hok2;have hl3:(Bw.pad (l++Bw.low last 1++Bw.low 0 2)).length=8*(j+1):=by
   rw[Bw.Ji];simp only[agZ,Bw.bE];omega
  generalize hl3e:Bw.pad (l++Bw.low last 1++Bw.low 0 2)=l3 at ho hok3 hl3;refine mM (x:=n) (n:=16) ho hok3 (.inl rfl) om om om fun way4 v4 w6 hw4 ho=>?_;have hok4:=Bw.cH hok3 (Bw.eK n 16);simp only[rs];rw[aA om om,show (65535:Int) - (n:Int)=((65535 - n:Nat):Int) by omega];refine mM (x:=65535 - n) (n:=16) ho hok4 hw4 om om (by rw[agZ,Bw.bE];omega) fun way5 v5 w7 hw5 ho=>?_;have hok5:=Bw.cH hok4 (Bw.eK (65535 - n) 16);have hl5:(l3++Bw.low n 16++Bw.low (65535 - n) 16).length=8*(j+5):=by
   simp only[agZ,Bw.bE];omega
  have hp5:Bw.pad (l3++Bw.low n 16++Bw.low (65535 - n) 16)=l3++Bw.low n 16++Bw.low (65535 - n) 16:=by
   unfold Bw.pad;rw[hl5,show (8 - 8*(j+5) % 8) % 8=0 by omega];exact ahV _
  refine Ox ho fun w8 ho=>?_;rw[hp5] at ho;rw[OQ ahF om om,ahI];have hltk:(t.take n).length=n:=by rw[ahE];omega
  refine ZJ (j:=j+5) ho hl5 om om fun v6 w9 ho=>?_;rw[Di ahF om om,ahI];have hbits:=Df.Yu last n l (t.take n) hlj;rw[hl3e] at hbits;rw[hbits] at ho;have hok6:=Bw.cH hok (Df.Yz last n (t.take n));have hl6:(l++Df.sb last n (t.take n)).length=8*(j+5+n):=by rw[agZ,Df.wR,hltk];omega
  try simp only[rs]
  by_cases h1:t.length<=65535
  ·have hl1:=hiff.2 h1;subst hl1;simp only[show decide (((1:Nat):Int)=1)=true from rfl,i_t];rw[agW h1] at hX;have hnl:n=t.length:=om
   rw[hnl,ajG,hX] at ho;refine MQ ho (by rw[<-hX,agZ,Df.wR];omega) (by rw[<-hX,agZ,Df.wR];omega) fun W ho=>?_;exact⟨_,rfl,rfl,ho⟩
  ·have hl0:last=0:=by
    have:¬last=1:=fun e=>h1 (hiff.1 e);omega
   subst hl0;simp only[show decide (((0:Nat):Int)=1)=false from rfl,i_f];rw[agV h1] at hX;have hnl:n=65535:=om
   subst hnl;rw[<-ahK] at hX;have ld:(t.drop 65535).length=t.length - 65535:=ahL;exact aY ⟨t.drop 65535,_,j+5+65535,g,0,v6,rfl,om,om,om,hl6,om,hok6,hX,.inl rfl,ho⟩ (by
    show nS (.string ⟨(t.drop 65535).toArray⟩) < nS (.string ⟨t.toArray⟩);rw[gY,gY];omega)
 by_cases h1:t.length<=65535
 ·simp only[show decide (((min t.length 65535:Nat):Int)=(t.length:Int))=true from ahB om,i_t];exact go 1 dc ⟨fun _=>h1,fun _=>rfl⟩
 ·simp only[show decide (((min t.length 65535:Nat):Int)=(t.length:Int))=false from ahA om,i_f];exact go 0 dc ⟨(fun h=>by cases h),fun h=>absurd h h1⟩
end
end
section
open Eng Go.RowKit
theorem Cn.Li:∀l:List Cn,Cn.sum Cn.wt (Cn.iX l)<=Cn.sum Cn.wt l
|[]=>ahD _
|[a]=>ahW _
|a::b::l=>by
  have ih:=Cn.Li l;show Cn.sum Cn.wt (.node a b::Cn.iX l)<=_;rw[Cn.sum_cons,Cn.sum_cons,Cn.sum_cons];show a.wt+b.wt+_<=_;omega
theorem Cn.Row.Zb {L:List Cn}(h:Cn.Row L t r):Cn.sum Cn.wt r<=(t+1)*Cn.sum Cn.wt L:=by
 induction h with
|zero _ hp=>
  rw[Cn.I1 hp];omega
|@succ t q r hq _ hp ih=>
  have:=Cn.Li q;rw[Cn.I1 hp,Cn.Gi,akA];omega
def Df.aX (counts:List Nat)(i:Nat):List Nat:=(List.range i).filter fun s=>decide (0 < counts.getD s 0)
def Df.qO (counts:List Nat)(i:Nat):List Cn:=(Df.aX counts i).map fun s=>.leaf (counts.getD s 0) s
theorem Df.Gt (counts:List Nat):Df.qO counts counts.length=Df.Ht counts:=rfl
theorem Df.Ek (counts:List Nat)(i:Nat):Df.qO counts (i+1)=Df.qO counts i++(if 0 < counts.getD i 0 then [.leaf (counts.getD i 0) i] else []):=by
 unfold Df.qO Df.aX;rw[alY,aoO,aiN]
 congr 1
 by_cases h:0 < counts.getD i 0
 ·rw[agW h,amO,agW (ahB h)];rfl
 ·rw[agV h,amO,agV (fun k=>h (ahO k))];rfl
theorem Df.Mm (counts:List Nat)(i:Nat):(Df.qO counts i).length<=i:=by
 unfold Df.qO Df.aX;rw[ahT];have:=aoM (fun s=>decide (0 < counts.getD s 0)) (List.range i)
 rwa [aoN] at this
theorem Df.Lw {counts:List Nat}(h:∀c∈counts,c<=2147483647):∀i,Cn.sum Cn.wt (Df.qO counts i)<=i*2147483647
|0=>by simp[Df.qO,Df.aX,Cn.sum]
|i+1=>by
  have ih:=Df.Lw h i;rw[Df.Ek,Cn.Gi,akA];have hg:counts.getD i 0<=2147483647:=Df.fZ h dc i;have e:Cn.sum Cn.wt (if 0 < counts.getD i 0 then [.leaf (counts.getD i 0) i] else [])<=counts.getD i 0:=by
   split
   ·simp[Cn.sum,Cn.wt]
   ·simp[Cn.sum]
  omega
theorem zM (l:List Nat)(i n:Nat):(aR l).set i (.int .i64 (n:Int))=aR (l.set i n):=by unfold aR;rw[anJ]
theorem DD (h:i < l.length):(aR l)[i]?=some (.int .i64 ((l.getD i 0:Nat):Int)):=by
 unfold aR;rw[alG,ahC,ahH h];rfl
theorem KK:(Tryz.prog.info? 3).map (·.size)=some 1:=krx
theorem Tk {g n:Nat}(hi:i < n)(W:World):(mIA 123 (.slice (some ⟨g,0,none⟩) n cap) (.int .i64 (i:Int))).run prog W=.ok (.value (.pointer (some ⟨g,i,none⟩))) W:=by
 have:=eE (P:=prog) (T:=123) (b:=g) (off:=0) (cap:=cap) (n:=n) (k:=.i64) (i:=(i:Int)) (w:=W) ahS KK om om
 rwa [ahI,ahZ,ahJ] at this
abbrev lnE (ob g n:Nat):Ent:=.cells ob [.slice (some ⟨g,0,none⟩) n n] 123
abbrev lrE (g:Nat)(out:List Nat):Ent:=.cells g (aR out) 3
def Zs (ob:Nat):Value:=.func (.func 330) #[] #[.pointer (some ⟨ob,0,none⟩)]
theorem HQ:bZ prog 330=true:=krx
section
variable {w:World}{PK:PKT}{K:VWP}{S:Nat->Prop}{w0:World}{L T:List Ent}
theorem XR :DoX prog (mEq .eql 342 xo yo (.pointer (some ⟨b,0,none⟩)) (.pointer none)) w PK K=K (.bool false) w:=aE krx
theorem UR :DoX prog (mEq .eql 342 xo yo (.pointer none) (.pointer none)) w PK K=K (.bool true) w:=aE krx
theorem Z9 {ob g s:Nat}{out:List Nat}(ho:OwnS S w0 w (lnE ob g out.length::lrE g out::T))(hs:s < out.length)(hb:out.getD s 0<=1000000000)
  (k:∀W,OwnS S w0 W (lnE ob g out.length::lrE g (out.set s (out.getD s 0+1))::T)->K (.tuple #[]) W):DoX prog (gI (Zs ob) #[.int .i64 (s:Int)]) w PK K:=by
 refine EI HQ ?_;show CallX prog 330 #[.int .i64 (s:Int),.pointer (some ⟨ob,0,none⟩)] w PK K;refine fH (yV (K:=RetK fun v W=>v=.tuple #[]∧OwnS S w0 W (lnE ob g out.length::lrE g (out.set s (out.getD s 0+1))::T)) ?_) (fun e W ⟨v,he,hv,ho⟩=>by subst he;subst hv;exact k W ho);unfold qC nz;rw[aO Ed (ho.cell 0 rfl 0 rfl)];refine aE (Tk hs w) |>.mpr ?_;rw[aO cI (ho.cell 1 rfl s (DD hs))];simp only[rs];rw[aA om om,show ((out.getD s 0:Nat):Int)+1=((out.getD s 0+1:Nat):Int) by omega];refine aE (Tk hs w) |>.mpr ?_;refine aN 1 ho rfl krx rfl (by rw[eQ];exact hs) fun w2 ho=>?_;rw[zM] at ho;exact retK ⟨rfl,ho⟩
theorem Sj {ob g jm:Nat}{M:Mem}(hm:T[jm]?=some (.mem M)):∀(c:Cn) {v:Value} {w:World} {PK:PKT} {K:VWP} {out:List Nat},OwnS S w0 w (lnE ob g out.length::lrE g out::T)->CnAt M.A M.w v c ->
  (∀s,0 < c.cnt s->s < out.length)->(∀s,out.getD s 0+c.cnt s<=1000000000) ->
  (∀W out',out'.length=out.length->(∀s,out'.getD s 0=out.getD s 0+c.cnt s)->OwnS S w0 W (lnE ob g out'.length::lrE g out'::T)->K (.tuple #[]) W) ->
  CallX prog 329 #[v,Zs ob] w PK K
|.leaf wt s,v,w,PK,K,out,ho,hv,hlt,hb,k=>by
  refine fH (oF (K:=RetK fun v W=>v=.tuple #[]∧∃out',out'.length=out.length∧(∀t,out'.getD t 0=out.getD t 0+(Cn.leaf wt s).cnt t)∧OwnS S w0 W (lnE ob g out'.length::lrE g out'::T)) ?_) (fun e W ⟨v,he,hv,out',h1,h2,ho⟩=>by subst he;subst hv;exact k W out' h1 h2 ho);unfold mC nz;obtain⟨b,rfl,hA,hc⟩:=hv;have hM:M.has w:=ho.hasM (jm+2) (by rw[aiP,aiP];exact hm);rw[aV,aK TW];refine aE (aB Kk (aG (T:=344) (cs:=cnC wt s (.pointer none) (.pointer none)) (jB hM hA hc) (i:=2) rfl)) |>.mpr ?_;rw[UR,i_t,aV,aK Ws];refine aE (aB cI (aG (T:=344) (cs:=cnC wt s (.pointer none) (.pointer none)) (jB hM hA hc) (i:=1) rfl)) |>.mpr ?_;have hs:s < out.length:=hlt s (by simp[Cn.cnt]);have hb0:=hb s;refine Z9 ho hs om fun W ho=>?_;refine retK ⟨rfl,out.set s (out.getD s 0+1),ajM,fun t=>?_,by rw[ajM];exact ho⟩;rw[ahC];by_cases h:s=t
  ·subst h;rw[akP hs];simp[Cn.cnt]
  ·rw[anW h,<-ahC];simp[Cn.cnt,h]
|.node x y,v,w,PK,K,out,ho,hv,hlt,hb,k=>by
  refine fH (oF (K:=RetK fun v W=>v=.tuple #[]∧∃out',out'.length=out.length∧(∀t,out'.getD t 0=out.getD t 0+(Cn.node x y).cnt t)∧OwnS S w0 W (lnE ob g out'.length::lrE g out'::T)) ?_) (fun e W ⟨v,he,hv,out',h1,h2,ho⟩=>by subst he;subst hv;exact k W out' h1 h2 ho);unfold mC nz;obtain⟨b,va,vb,rfl,hA,hc,hx,hy⟩:=hv;have hm2:∀{W:World} {e e':Ent},OwnS S w0 W (e::e'::T)->M.has W:=fun ho=>ho.hasM (jm+2) (by rw[aiP,aiP];exact hm);obtain⟨ba,ea,_⟩:=CnAt.ptr hx;have ld2:∀{W:World},M.has W->(aI 342 (.pointer (some ⟨b,0+2,none⟩))).run prog W=.ok (.value va) W:=fun hM=>aB Kk (aG (T:=344) (cs:=cnC (x.wt+y.wt) 0 va vb) (jB hM hA hc) (i:=2) rfl);have ld3:∀{W:World},M.has W->(aI 342 (.pointer (some ⟨b,0+3,none⟩))).run prog W=.ok (.value vb) W:=fun hM=>aB Kk (aG (T:=344) (cs:=cnC (x.wt+y.wt) 0 va vb) (jB hM hA hc) (i:=3) rfl);have hcnt:∀t,(Cn.node x y).cnt t=x.cnt t+y.cnt t:=fun t=>rfl;rw[aV,aK TW];refine aE (ld2 (hm2 ho)) |>.mpr ?_;rw[ea,XR,i_f]
  try rw[aV]
  rw[aK TW];refine aE (ld2 (hm2 ho)) |>.mpr ?_;refine Sj hm x ho hx (fun s h=>hlt s (by rw[hcnt];omega)) (fun s=>by have:=hb s;rw[hcnt] at this;omega) fun W1 out1 hl1 hg1 ho=>?_
  try rw[aV]
  rw[aK ZU];refine aE (ld3 (hm2 ho)) |>.mpr ?_;refine Sj hm y ho hy (fun s h=>by rw[hl1];exact hlt s (by rw[hcnt];omega)) (fun s=>by have:=hb s;rw[hcnt] at this;rw[hg1];omega) fun W2 out2 hl2 hg2 ho=>?_;exact retK ⟨rfl,out2,by rw[hl2,hl1],fun t=>by rw[hg2,hg1,hcnt];omega,ho⟩
end
theorem GI (h:(pcE v ps).is w):DoX prog (mB .len #[341] 3 #[false] #[v]) w PK K=K (.int .i64 (ps.length:Int)) w:=bB ajR (Sl.urow h)
theorem Wb {ob gb:Nat}{out:List Nat}{R:List Ent}(ho:OwnS S w0 w (lnE ob gb out.length::lrE gb out::R))(hj:R[j]?=some (Ent.mem N))(hb:out.length<=1000000) :
  ∃N2:Mem,N.le N2∧SlA N2.A N2.w (.slice (some ⟨gb,0,none⟩) out.length out.length) 1 out.length (aR out)∧∃(L2:List Ent) (j2:Nat),OwnS S w0 w L2∧L2[j2]?=some (Ent.mem N2):=by
 have ho:OwnS S w0 w ([lnE ob gb out.length]++([lrE gb out]++R)):=ho;have ho:OwnS S w0 w (.cells gb (aR out) 3::(lnE ob gb out.length::R)):=ho.front;have ho:=ho.toU 1 out.length out.length (by rw[eQ,ahZ]) (ahD _) om;rw[ahZ,aiF (by rw[eQ];exact ahD _)] at ho;obtain⟨N2,g,hs,ho⟩:=OwnS.cG ho (j+1) (by rw[aiP];exact hj);refine⟨N2,g,hs,_,j+1,ho,?_⟩;rw[akP (by
  have:=(ahQ.1 hj).1;simp only[ahU];omega)]
theorem Bb {l:List Cn}(h:ps.map (·.2)=l):ps.length=l.length:=by rw[<-h,ahT]
theorem Cn.Uj {L:List Cn}(hL:Cn.Lv L Sy)(h:Cn.Row L t r){n:Nat}(hn:∀s∈Sy,s < n):∀x∈r,∀s,0 < x.cnt s->s < n:=by
 intro x hx s hs;by_cases hm:s∈Sy
 ·exact hn s hm
 ·have:=h.none hL hm x hx;omega
theorem Srt.ID (h:Srt.srt pw ps):Cn.sorted (ps.map (·.2)):=by
 unfold Cn.sorted;rw[List.pairwise_map];exact h
theorem yG (counts:List Nat)(most:Nat)(v:Value)(M:Mem)(w:World)(hM:M.has w)(hs:SlA M.A M.w v 1 counts.length (aR counts))(hl:counts.length<=288)(hl0:0 < counts.length)(hc:∀c∈counts,c<=2147483647)(hm:1<=most)(hm2:most<=15)(hu:(Df.used counts).length<=2 ^ most) :
  RetM prog 298 #[v,.int .i64 (most:Int)] M w (fun r N=>∃lens r',r=.tuple #[r',.int .i64 0]∧Df.Kl counts lens most∧r'.oneCell'=true∧SlA N.A N.w r' 1 lens.length (aR lens)):=by
 refine aT hM fun K hK=>DZ ?_;unfold Aj nz;have ho:OwnS M.A w w [.mem M]:=OwnS.memS hM;rw[bB ahS (hs.now hM)];simp only[rs,show decide ((288:Int) < (counts.length:Int))=false from ahA om,show decide ((most:Int) < 1)=false from ahA om,show decide ((15:Int) < (most:Int))=false from ahA om,i_f];rw[bB ahS (hs.now hM)];have ho:OwnS M.A w w [.urow 342 1 nilS 0 [],.mem M]:=OwnS.nilU (L:=[.mem M]) ho _ _;refine loop (fun vs W=>∃(i:Nat) (v':Value) (qs:List Pc) (N:Mem),vs=[v',.int .i64 (i:Int)]∧i<=counts.length∧M.le N∧qs.map (·.2)=Df.qO counts i∧(∀x∈qs,okM N x)∧OwnS M.A w W [pcE v' qs,.mem N]) (fun vs _=>counts.length - n1 vs) ⟨0,nilS,[],M,rfl,om,M.le_refl,rfl,(fun x hx=>by cases hx),ho⟩ ?_;clear ho;rintro vs w1 ⟨i,v',qs,N,rfl,hi,hle,hX,hqo,ho⟩ _;simp only[uL,gd,rs,nz];have hql:=Bb hX;have hcl:=Df.Mm counts i;by_cases hlt:(i:Int) < (counts.length:Int)
 ·simp only[hlt,agY,i_t];have hi':i < counts.length:=om
  refine join fun J hJ=>?_;obtain⟨b2,off,r1,r2⟩:=mD (hs.now (Mem.Lo hle (ho.hasM 1 rfl))) hi';refine aE (r1 w1) |>.mpr (aE (aB cI r2) |>.mpr ?_);have hci:=hc _ (ahP hi');have hgi:counts.getD i 0=counts[i]:=by rw[ahC,ahH hi'];rfl
  have hsucc:=Df.Ek counts i;rw[hgi] at hsucc;generalize counts[i]=ci at hci hsucc;simp only[rs,show decide ((ci:Int) < 0)=false from ahA om,show decide ((2147483647:Int) < (ci:Int))=false from ahA om,i_f];have fin:∀(W:World) (v2:Value) (qs2:List Pc) (N2:Mem),N.le N2->qs2.map (·.2)=Df.qO counts (i+1)->(∀x∈qs2,okM N2 x)->OwnS M.A w W [pcE v2 qs2,.mem N2]->J [v2] W:=by
   intro W v2 qs2 N2 g h1 h2 ho;refine hJ _ _ fun _=>?_;simp only[uS,gd,rs,nz];rw[aA om om];exact aY ⟨i+1,v2,qs2,N2,rfl,om,hle.trans g,h1,h2,ho⟩ (by simp[n1,RowKit.intOf];omega)
  by_cases h0:0 < ci
  ·simp only[show decide ((0:Int) < (ci:Int))=true from ahB om,i_t];rw[agW h0] at hsucc;have mb:∀{PK:PKT} {K:VWP},DoX prog (aZ 344 #[(0,.int .i64 (ci:Int)),(1,.int .i64 (i:Int))]) w1 PK K=K (.agg (cnC ci i (.pointer none) (.pointer none)).toArray) w1:=aE krx;rw[mb];refine bC (fun b=>.pointer (some ⟨b,0,none⟩)) (cnC ci i (.pointer none) (.pointer none)) 344 (fun _=>by kernel_rfl) ho fun nb w3 ho=>?_;have hne:=ho.at_ 0 rfl;obtain⟨N1,g1,hN1,hblk,ho⟩:=OwnS.freeze (L:=[pcE v' qs,.mem N]) ho 1 rfl;have hz:okM N1 (.pointer (some ⟨nb,0,none⟩),.leaf ci i):=⟨nb,rfl,hblk nb rfl,by rw[hN1];exact hne⟩;have ho:OwnS M.A w w3 [pcE v' qs,.mem N1]:=ho;refine bC (fun b=>.slice (some ⟨b,0,none⟩) 1 1) [.pointer (some ⟨nb,0,none⟩)] 342 (fun _=>by kernel_rfl) ho fun sb w4 ho=>?_;refine cL 1 ajR JP dc ho rfl (lX (ho.at_ 0 rfl) dc rfl) (fun u hu=>by rw[aiA.1 hu];rfl) om om fun v2 w5 ho=>?_;have ho:OwnS M.A w w5 [pcE v2 (qs++[(.pointer (some ⟨nb,0,none⟩),.leaf ci i)]),.mem N1]:=by
    unfold pcE;rw[MO,agZ];exact ho.tail
   refine fin w5 v2 _ N1 g1 (by rw[aiN,hX,hsucc];rfl) (fun u hu=>?_) ho;rcases aiC.1 hu with h|h
   ·exact (hqo u h).le g1
   ·rw[aiA.1 h];exact hz
  ·simp only[show decide ((0:Int) < (ci:Int))=false from ahA om,i_f];rw[agV h0,ahV] at hsucc;exact fin w1 v' qs N N.le_refl (by rw[hX,hsucc]) hqo ho
 ·simp only[hlt,agX,i_f];have hie:i=counts.length:=om
  subst hie;rw[Df.Gt] at hX;have hLv:=Df.Nc counts;have hqu:qs.length=(Df.used counts).length:=by rw[Bb hX,hLv.len]
  have hpm:2 ^ most<=2 ^ 15:=aiY dc hm2;have e15:(2:Nat) ^ 15=32768:=rfl;rw[GI (ho.at_ 0 rfl),CU om];have hone:=Up (a:=1) (k:=most) om om;rw[amJ] at hone;have hone:IntKind.i64.wrap ((1:Int)*2 ^ min ((most:Nat):Int).toNat IntKind.i64.bits)=((2 ^ most:Nat):Int):=hone;rw[hone];simp only[rs,show decide (((2 ^ most:Nat):Int) < (qs.length:Int))=false from ahA om,i_f];rw[bB ahS (hs.now (Mem.Lo hle (ho.hasM 1 rfl)))];refine xQ om ho fun gb w2 ho=>?_;refine bC (fun b=>.pointer (some ⟨b,0,none⟩)) [.slice none 0 0] 123 (fun _=>by kernel_rfl) ho fun ob w3 ho=>?_;refine aN 0 ho rfl krx rfl (by show 0 < 1;omega) fun w4 ho=>?_;have hz0:aR (List.replicate counts.length 0)=List.replicate counts.length (.int .i64 0):=by simp[aR]
  have ho:OwnS M.A w w4 (lnE ob gb (List.replicate counts.length 0).length::lrE gb (List.replicate counts.length 0)::[pcE v' qs,.mem N]):=by
   unfold lrE;rw[hz0,aiE];exact ho
  refine join fun J3 hJ3=>?_;rw[GI (ho.at_ 2 rfl)];simp only[rs];have fin:∀(W:World) (out:List Nat),out.length=counts.length->(qs.length < 2->Df.Kl counts out most)->(2<=qs.length->out=List.replicate counts.length 0)->OwnS M.A w W (lnE ob gb out.length::lrE gb out::[pcE v' qs,.mem N])->J3 [] W:=by
   intro W out hol h1 h2 ho;refine hJ3 _ _ fun _=>?_;unfold uZ nz;rw[GI (ho.at_ 2 rfl)];simp only[rs];by_cases hq2:qs.length < 2
   ·simp only[show decide ((qs.length:Int) < 2)=true from ahB om,i_t];rw[aO Ed (ho.cell 0 rfl 0 rfl)];obtain⟨N2,g2,hsl,L2,j2,ho2,hj2⟩:=Wb (j:=1) ho rfl om;exact hK _ _ N2 L2 j2 ho2 hj2 (hle.trans g2) ⟨out,_,rfl,h1 hq2,rfl,hsl⟩
   ·simp only[show decide ((qs.length:Int) < 2)=false from ahA om,i_f];have h2:=h2 om;subst h2;have hv1:=dQ (ho.at_ 2 rfl);have ho:OwnS M.A w W ([lnE ob gb (List.replicate counts.length 0).length,lrE gb (List.replicate counts.length 0)]++([pcE v' qs]++[.mem N])):=ho;obtain⟨N2,g2,hqs,ho⟩:=OwnS.cG (L:=[lnE ob gb (List.replicate counts.length 0).length,lrE gb (List.replicate counts.length 0)]++[.mem N]) ho.front 2 rfl;have ho:OwnS M.A w W [lnE ob gb (List.replicate counts.length 0).length,lrE gb (List.replicate counts.length 0),.mem N2]:=ho;refine bF ho 2 rfl (G8 qs [] v' nilS N2 W (ho.hasM 2 rfl) hqs (SlA.nil _ _ _ _) (fun x hx=>(hqo x hx).le g2) (fun x hx=>by cases hx) om om sm hv1 rfl) ?_;rintro lv N3 w5 g3 ⟨ls,hlp,hls,hlo,hl1,hlsl⟩ ho;rw[ahV] at hlp;have hlm:(ls.map (·.2)).Perm (Df.Ht counts):=by rw[<-hX];exact hlp.map _
    have hln:ls.length=(Df.used counts).length:=by rw[hlp.length_eq,hqu]
    have hcn:=hLv.len;have hul:(Df.used counts).length<=288:=by
     have:=aoM (fun s=>decide (0 < counts.getD s 0)) (List.range counts.length);rw[aoN] at this;have e:(Df.used counts).length<=counts.length:=this;omega
    rw[aA om om];refine loop (fun vs V=>∃(k:Nat) (rv:Value) (rs:List Pc) (N':Mem),vs=[rv,.int .i64 (k:Int)]∧k<=most - 1∧N3.le N'∧Cn.Row (Df.Ht counts) k (rs.map (·.2))∧(∀x∈rs,okM N' x)∧rv.oneCell'=true∧SlA N'.A N'.w rv 1 rs.length (pcW rs)∧OwnS M.A w V [lnE ob gb (List.replicate counts.length 0).length,lrE gb (List.replicate counts.length 0),.mem N']) (fun vs _=>most - n1 vs) ⟨0,lv,ls,N3,rfl,om,N3.le_refl,.zero (Srt.ID hls) hlm,hlo,hl1,hlsl,ho⟩ ?_;clear ho;rintro vs w6 ⟨k,rv,rws,N4,rfl,hk,g4,hrow,hro,hr1,hrsl,ho⟩ _;simp only[vG,gd,rs,nz];have hrl:=hrow.lt om;rw[ahT,hcn] at hrl;by_cases hltk:(k:Int) < (most:Int) - 1
    ·simp only[hltk,agY,i_t];have hsum:=hrow.Zb;have hcs:=Df.Lw hc counts.length;rw[Df.Gt] at hcs;have hkb:(k+1)*Cn.sum Cn.wt (Df.Ht counts)<=15*(288*2147483647):=akO om (ajZ hcs (akO hl (ahD _)));have hwt:∀x∈rws,pw x<=1000000000000000:=fun x hx=>by
      have h1:x.2.wt<=Cn.sum Cn.wt (rws.map (·.2)):=Cn.MK (aiD.2 ⟨x,hx,rfl⟩);show x.2.wt<=_;omega
     refine bF ho 2 rfl (PQ rws rv N4 w6 (ho.hasM 2 rfl) hrsl hro om hwt) ?_;rintro pv N5 w7 g5 ⟨qq,hqq,hqqo,hqq1,hqqs⟩ ho;have hqql:qq.length<=1000000:=by
      rw[Bb hqq,Cn.CN,ahT];omega
     refine bF ho 2 rfl (G8 ls qq lv pv N5 w7 (ho.hasM 2 rfl) (hlsl.le (g4.trans g5)) hqqs (fun x hx=>(hlo x hx).le (g4.trans g5)) hqqo om om om hl1 hqq1) ?_;rintro rv2 N6 w8 g6 ⟨rs2,hp2,hs2,hro2,hr2,hrsl2⟩ ho
     try simp only[rs]
     rw[aA om om];refine aY ⟨k+1,rv2,rs2,N6,rfl,om,g4.trans (g5.trans g6),.succ hrow (Srt.ID hs2) ?_,hro2,hr2,hrsl2,ho⟩ (by simp[n1,RowKit.intOf];omega);have:=hp2.map (·.2);rw[aiN,hqq] at this;exact this.trans (hlm.append_right _)
    ·simp only[hltk,agX,i_f];have hke:k=most - 1:=om
     obtain⟨c1,c2,c3⟩:=hrow.code hLv om (by rw[hke,show most - 1+1=most by omega,hcn];exact hu);rw[ahT,hcn] at c1;rw[hcn] at c2 c3;rw[bB ajR ((hlsl.le g4).now (ho.hasM 2 rfl))];simp only[rs];rw[aA (n:=(2:Int)*(ls.length:Int)) om om,aA om om,show (2:Int)*(ls.length:Int) - 2=((2*(Df.used counts).length - 2:Nat):Int) by omega];generalize hD:2*(Df.used counts).length - 2=D at c1 c2 c3;obtain⟨rb,roff,rcap,rfl,_⟩:=cB hrsl.1 om;have hcap:=hrsl.2.2 _ _ _ rfl;refine aE (jD ajR Dr om om) |>.mpr ?_;rw[ahI];have hup:=SlA.Q6 hrsl (i:=D) c1 (fun h=>by omega);rw[ahZ] at hup;generalize hsv:Value.slice (subA (some ⟨rb,roff,none⟩) 0 rcap 1) D rcap=sv at hup;have hupW:pcW (rws.take D)=(pcW rws).take D:=by unfold pcW;rw[amL]
     have hupl:(rws.take D).length=D:=by rw[ahE];omega
     have hup:SlA N4.A N4.w sv 1 (rws.take D).length (pcW (rws.take D)):=by rw[hupW,hupl];exact hup
     rw[bB ajR (hup.now (ho.hasM 2 rfl)),hupl];have hdn:((rws.map (·.2)).take D).Nodup:=(aoL _ _).nodup (hrow.nodup hLv).1;have hlev:=hrow.levels hLv _ hdn (fun x hx=>ajK hx) (Cn.NP hrow.sorted D);have hsy:∀s∈Df.used counts,s < counts.length:=fun s hs=>by
      have:=Df.kR.1 hs;rcases ahY s counts.length with h'|h'
      ·exact h'
      ·rw[ahC,ajD h'] at this;exact absurd this (alT _)
     have hkids:=Cn.Uj hLv hrow hsy;refine loop (fun vs V=>∃(i:Nat) (out:List Nat),vs=[.int .i64 (i:Int)]∧i<=D∧out.length=counts.length∧(∀s,out.getD s 0=Cn.sum (Cn.cnt s) ((rws.take i).map (·.2)))∧OwnS M.A w V [lnE ob gb out.length,lrE gb out,.mem N4]) (fun vs _=>D - n0 vs) ⟨0,List.replicate counts.length 0,rfl,om,aiE,fun s=>by
      rw[ahC,anH];split<;>rfl,ho⟩ ?_
     clear ho;rintro vs w7 ⟨j,out,rfl,hj,hol,hout,ho⟩ _;simp only[uN,gd,rs,nz];by_cases hltj:(j:Int) < (D:Int)
     ·simp only[hltj,agY,i_t];have hj':j < (rws.take D).length:=om
      have hjr:j < rws.length:=om
      obtain⟨p,ia,ld⟩:=pcAt hup hj';refine aE (ia w7) |>.mpr (aE (ld w7 (ho.hasM 2 rfl)) |>.mpr ?_)
      try rw[yF]
      rw[anE];have hx:=hro _ (ahP hjr);have htk:∀s,Cn.sum (Cn.cnt s) ((rws.take (j+1)).map (·.2))=Cn.sum (Cn.cnt s) ((rws.take j).map (·.2))+rws[j].2.cnt s:=fun s=>by
       rw[aiG hjr,aiN,Cn.Gi];rfl
      have hbd:∀s,Cn.sum (Cn.cnt s) ((rws.take (j+1)).map (·.2))<=k+1:=fun s=>by
       have h1:=(hlev s).1;have h2:(rws.map (·.2)).take D=(rws.take (j+1)).map (·.2)++((rws.drop (j+1)).take (D - (j+1))).map (·.2):=by
        rw[<-amL,<-aiN]
        congr 1
        conv=>lhs;rw[show D=j+1+(D - (j+1)) by omega,List.take_add]
       rw[h2,Cn.Gi] at h1;omega
      refine Sj (jm:=0) (T:=[.mem N4]) rfl rws[j].2 ho hx (fun s h=>by rw[hol];exact hkids _ (aiD.2 ⟨rws[j],ahP hjr,rfl⟩) s h) (fun s=>by rw[hout,<-htk];have:=hbd s;omega) fun W2 out2 h1 h2 ho=>?_
      try simp only[rs]
      rw[aA om om];exact aY ⟨j+1,out2,rfl,om,by rw[h1,hol],fun s=>by rw[h2,hout,htk],ho⟩ (by simp[n0,RowKit.intOf];omega)
     ·simp only[hltj,agX,i_f];have hje:j=D:=om
      subst hje;rw[aO Ed (ho.cell 0 rfl 0 rfl)];obtain⟨N5,g5,hsl,L2,j2,ho2,hj2⟩:=Wb (j:=0) ho rfl om;refine hK _ _ N5 L2 j2 ho2 hj2 (hle.trans (g2.trans (g3.trans (g4.trans g5)))) ⟨out,_,rfl,?_,rfl,hsl⟩;have:=Df.RM (counts:=counts) (lens:=out) (m:=k) om hrow om (by rw[hke,show most - 1+1=most by omega];exact hu) hl hol fun s _=>by
       rw[hout,hD,amL]
      rw[hke,show most - 1+1=most by omega] at this;exact this
  by_cases hq1:qs.length=1
  ·simp only[show decide ((qs.length:Int)=1)=true from ahB om,i_t];obtain⟨u,rfl⟩:=amP.1 hq1;have huo:=hqo u (aoQ u);obtain⟨s,hus⟩:∃s,Df.used counts=[s]:=amP.1 (by rw[<-hqu];rfl);have hu2:u.2=.leaf (counts.getD s 0) s:=by
    unfold Df.Ht at hX;rw[hus] at hX;exact (List.cons.inj hX).1
   have hsl:s < counts.length:=by
    have:s∈Df.used counts:=by rw[hus];exact aoQ s
    have:=Df.kR.1 this;rcases ahY s counts.length with h'|h'
    ·exact h'
    ·rw[ahC,ajD h'] at this;exact absurd this (alT _)
   unfold okM at huo;rw[hu2] at huo;obtain⟨ub,hub,hA,hcell⟩:=huo;obtain⟨g,cap,rfl⟩:=oN (ho.at_ 2 rfl) sm;refine eB (fun V=>OwnS M.A w V (lnE ob gb (List.replicate counts.length 0).length::lrE gb (List.replicate counts.length 0)::[pcE (.slice (some ⟨g,0,none⟩) [u].length cap) [u],.mem N])) ho.drew ?_;refine q_at _ (fun V h=>aB Ed (h.cell 0 rfl 0 rfl)) ?_;refine q_do _ (fun V=>pA (i:=0) sm V) (q_at u.1 (fun V h=>yU (i:=0) (h.at_ 2 rfl) sm) ?_);rw[hub];refine q_do _ (fun _=>cM) (q_do _ (fun _=>bY Ws) (q_at (.int .i64 (s:Int)) (fun V h=>aB cI (aG (T:=344) (cs:=cnC (counts.getD s 0) s (.pointer none) (.pointer none)) (jB (h.hasM 3 rfl) hA hcell) (i:=1) rfl)) ?_));refine q_do _ (fun V=>Tk (by rw[aiE];exact hsl) V) ?_;intro w5 ho;refine aN 1 ho rfl krx rfl (by rw[eQ,aiE];exact hsl) fun w6 ho=>?_;have e1:(aR (List.replicate counts.length 0)).set s (.int .i64 1)=aR ((List.replicate counts.length 0).set s 1):=zM _ _ _;rw[e1] at ho;refine fin w6 ((List.replicate counts.length 0).set s 1) sm (fun _=>Df.Vr hl hus hm) (fun h=>absurd h sm) ?_;have e2:((List.replicate counts.length 0).set s 1).length=(List.replicate counts.length 0).length:=ajM;rw[e2];exact ho
  ·simp only[show decide ((qs.length:Int)=1)=false from ahA om,i_f];refine fin w4 _ aiE (fun h=>?_) (fun _=>rfl) ho;exact Df.R3 hl (akT.1 om) most
end
section
open Eng Go.RowKit
def prC (a b:Nat):List Value:=[.pointer (some ⟨a,0,none⟩),.pointer (some ⟨b,0,none⟩)]
def prV (a b:Nat):Value:=.agg (prC a b).toArray
theorem KA:fOff prog 296 0=some 0:=krx
theorem SD:fOff prog 296 1=some 1:=krx
theorem abS:aggN prog 296=some 2:=krx
theorem Df.RQ {far:List Nat}(hn15:∀l∈near,l<=15)(hf15:∀l∈far,l<=15){x:Df.Pt}(h:Df.ptOk m x):(Df.mK near far x).length<=48:=by
 have h1:∀i,near.getD i 0<=15:=Df.fZ hn15 dc;have h2:∀i,far.getD i 0<=15:=Df.fZ hf15 dc;unfold Df.mK;unfold Df.ptOk at h;by_cases h0:x.2.1=0
 ·rw[agW h0,Fl.bX];have:=h1 x.1.toNat;omega
 ·rw[agV h0] at h ⊢;obtain⟨_,_,_,_,_,s6⟩:=Df.DE h.2.1 h.2.2.1;obtain⟨_,_,_,_,f5⟩:=Df.LA h.2.2.2.1 h.2.2.2.2.1;simp only[agZ,Fl.bX,Bw.bE];have:=h1 (Df.sign x.2.1).1;have:=h2 (Df.far x.2.2).1;omega
theorem Df.CW {near far:List Nat}(hn15:∀l∈near,l<=15)(hf15:∀l∈far,l<=15):∀{l:List Df.Pt},(∀x∈l,∃m,Df.ptOk m x)->(l.flatMap (Df.mK near far)).length<=48*l.length
|[],_=>ahD _
|x::l,h=>by
  obtain⟨m,hm⟩:=h x (aiS ..);have h1:=Df.RQ hn15 hf15 hm;have h2:=Df.CW hn15 hf15 fun y hy=>h y (aiB _ hy);rw[aiT,agZ,ahU];omega
theorem Df.UA (near far:List Nat)(l:List Df.Pt):Bw.ok (l.flatMap (Df.mK near far)):=fun b hb=>by
 obtain⟨x,_,hx⟩:=amG.1 hb;exact Df.Og near far x b hx
section
variable {w:World}{PK:PKT}{K:VWP}{S:Nat->Prop}{w0:World}{L T:List Ent}
theorem Rb (ho:OwnS S w0 w L)(k:∀b w',OwnS S w0 w' (ptE b (0,0,0)::L)->K (.pointer (some ⟨b,0,none⟩)) w'):DoX prog (Da 291) w PK K:=
 bC (fun b=>.pointer (some ⟨b,0,none⟩)) (ptC (0,0,0)) 291 (fun _=>by kernel_rfl) ho k
theorem KS (j:Nat){x y:Df.Pt}(ho:OwnS S w0 w L)(hi:L[j]?=some (ptE b x))(k:∀w',OwnS S w0 w' (L.set j (ptE b y))->K undef w') :
  DoX prog (aS 291 (.pointer (some ⟨b,0,none⟩)) (ptV y)) w PK K:=D1 j ho hi (new:=ptC y) szPt Rg (by show 0+3<=3;omega) k
theorem pt_0 (ho:OwnS S w0 w L)(j:Nat){x:Df.Pt}(hi:L[j]?=some (ptE b x)):DoX prog (aI 5 (.pointer (some ⟨b,0+0,none⟩))) w PK K=K (.int .u8 (x.1.toNat:Int)) w:=aO nU8l (ho.cell j hi 0 rfl)
theorem pt_1 (ho:OwnS S w0 w L)(j:Nat){x:Df.Pt}(hi:L[j]?=some (ptE b x)):DoX prog (aI 3 (.pointer (some ⟨b,0+1,none⟩))) w PK K=K (.int .i64 (x.2.1:Int)) w:=aO cI (ho.cell j hi 1 rfl)
theorem pt_2 (ho:OwnS S w0 w L)(j:Nat){x:Df.Pt}(hi:L[j]?=some (ptE b x)):DoX prog (aI 3 (.pointer (some ⟨b,0+2,none⟩))) w PK K=K (.int .i64 (x.2.2:Int)) w:=aO cI (ho.cell j hi 2 rfl)
theorem NI {ta:Nat}{far:List Nat}{pv:Value}{ps:List Df.Pt}(ho:OwnS S w0 w (Wr b way l v T))(hm:T[jm]?=some (.mem M))(hta:TbW M.A M.w ta near)(htb:TbW M.A M.w tb far)
  (hca:Fl.chk near=0) (hcb:Fl.chk far=0) (ha15:∀l∈near,l<=15) (hb15:∀l∈far,l<=15) (h256:0 < near.getD 256 0) (hps:SlA M.A M.w pv 3 ps.length (ps.flatMap ptC)) (hh:∀x∈ps,Df.has near far x) (hpo:Df.zZ 0 ps) (hpl:ps.length<=1048576)
  (hok:Bw.ok l) (hw:way=0∨way=1) (hl:l.length<=100000000) (k:∀way' v' W,(way'=0∨way'=1)->OwnS S w0 W (Wr b way' (l++Df.pall near far ps) v' T)->K (.tuple #[]) W) :
  CallX prog 296 #[prV ta tb,.pointer (some ⟨b,0,none⟩),pv] w PK K:=by
 refine fH (tC (K:=RetK fun v W=>v=.tuple #[]∧∃way' v',(way'=0∨way'=1)∧OwnS S w0 W (Wr b way' (l++Df.pall near far ps) v' T)) ?_) (fun e W ⟨v,he,hv,way',v',hw',ho⟩=>by subst he;subst hv;exact k way' v' W hw' ho);unfold mX nz;refine bC (fun b=>.pointer (some ⟨b,0,none⟩)) (prC ta tb) 296 (fun _=>by kernel_rfl) ho fun pb w1 ho=>?_;have ho:OwnS S w0 w1 (([.cells pb (prC ta tb) 296]:List Ent)++([wrE b way l.length v,outR v (Bw.bytes l)]++T)):=ho;have ho:OwnS S w0 w1 (Wr b way l v (.cells pb (prC ta tb) 296::T)):=ho.front;have hm2:∀{W:World} {way:Int} {l:List Nat} {v:Value} {e:Ent},OwnS S w0 W (Wr b way l v (e::T))->M.has W:=fun ho=>ho.hasM (jm+3) (by rw[aiP,aiP,aiP];exact hm);rw[bB aoR (hps.now (hm2 ho))];refine loop (fun vs W=>∃(i:Nat) (way':Int) (v':Value),vs=[.int .i64 (i:Int)]∧i<=ps.length∧(way'=0∨way'=1)∧OwnS S w0 W (Wr b way' (l++(ps.take i).flatMap (Df.mK near far)) v' (.cells pb (prC ta tb) 296::T))) (fun vs _=>ps.length - n0 vs) ⟨0,way,v,rfl,om,hw,by show OwnS S w0 w1 (Wr b way (l++[]) v _);rw[ahV];exact ho⟩ ?_;clear ho hw;rintro vs w2 ⟨i,way',v',rfl,hi,hw,ho⟩ _;simp only[kG,gd,rs,nz];have hfl:=Df.CW ha15 hb15 (l:=ps.take i) fun x hx=>Df.A6 hpo x (ajK hx);rw[ahE,aiH hi] at hfl;have hfok:=Df.UA near far (ps.take i);by_cases hlt:(i:Int) < (ps.length:Int)
 ·have hi':i < ps.length:=om
  simp only[hlt,agY,i_t];obtain⟨p,hia,hld⟩:=ptAt hps hi';refine join fun J hJ=>?_;rw[aE (hia w2),aE (hld w2 (hm2 ho))];have hx:=hh _ (ahP hi');obtain⟨mx,hxo⟩:=Df.A6 hpo _ (ahP hi');have htk:ps.take (i+1)=ps.take i++[ps[i]]:=aiG hi';have fin:∀(W:World) (way':Int) (v':Value) (xb:Nat),(way'=0∨way'=1)->OwnS S w0 W (Wr b way' (l++(ps.take i).flatMap (Df.mK near far)++Df.mK near far ps[i]) v' (ptE xb ps[i]::.cells pb (prC ta tb) 296::T))->J [] W:=by
   intro W way' v' xb hw ho;refine hJ _ _ fun _=>?_;simp only[kC,gd,rs,nz];rw[aA om om];refine aY ⟨i+1,way',v',rfl,om,hw,?_⟩ (by simp[n0,RowKit.intOf];omega);rw[htk,amC,amN,<-ahK];have ho:OwnS S w0 W ((Wr b way' (l++(ps.take i).flatMap (Df.mK near far)++Df.mK near far ps[i]) v' [])++([ptE xb ps[i]]++(.cells pb (prC ta tb) 296::T))):=ho;exact ho.front.tail
  generalize ps[i]=x at hx hxo hld fin;generalize hB:l++(ps.take i).flatMap (Df.mK near far)=B at ho fin;have hBl:B.length<=200000000:=by rw[<-hB,agZ];omega
  have hBok:Bw.ok B:=by rw[<-hB];exact Bw.cH hok hfok
  refine Rb ho fun xb w3 ho=>?_;refine KS (y:=x) 0 ho rfl fun w4 ho=>?_;have ho:OwnS S w0 w4 ([ptE xb x]++(Wr b way' B v' []++(.cells pb (prC ta tb) 296::T))):=ho;have ho:OwnS S w0 w4 (Wr b way' B v' (ptE xb x::.cells pb (prC ta tb) 296::T)):=ho.front;have hm4:(ptE xb x::.cells pb (prC ta tb) 296::T)[jm+2]?=some (.mem M):=by rw[aiP,aiP];exact hm
  unfold Df.has at hx;unfold Df.mK at fin;unfold Df.ptOk at hxo;rw[aK Ej,pt_1 ho 2 rfl];simp only[rs];by_cases h0:x.2.1=0
  ·rw[agW h0] at hx hxo;simp only[agW h0] at fin;simp only[show decide ((x.2.1:Int)=0)=true from ahB om,i_t];rw[aK KA,aO Oh (ho.cell 3 rfl 0 rfl),aK Sz,pt_0 ho 2 rfl];have hc:=x.1.toNat_lt;refine aE (bO krx aiX) |>.mpr ?_;rw[aA om om];refine Cp (i:=x.1.toNat) ho hm4 hta hca ha15 hx hBok hw om fun way5 v5 w5 hw5 ho=>?_;exact fin w5 way5 v5 xb hw5 ho
  ·rw[agV h0] at hx hxo;simp only[agV h0] at fin;obtain⟨s1,s2,s3,s4,s5,s6⟩:=Df.DE hxo.2.1 hxo.2.2.1;obtain⟨f1,f2,f3,f4,f5⟩:=Df.LA hxo.2.2.2.1 hxo.2.2.2.2.1;simp only[show decide ((x.2.1:Int)=0)=false from ahA om,i_f];rw[aK Ej,pt_1 ho 2 rfl];refine aL ho (Ko x.2.1 w4 hxo.2.1 hxo.2.2.1) ?_;rintro _ w5 rfl ho;simp only[ex];rw[aK KA,aO Oh (ho.cell 3 rfl 0 rfl)];have n1:near.getD (Df.sign x.2.1).1 0<=15:=Df.fZ ha15 dc _;have n2:far.getD (Df.far x.2.2).1 0<=15:=Df.fZ hb15 dc _;refine Cp (i:=(Df.sign x.2.1).1) ho hm4 hta hca ha15 hx.1 hBok hw om fun way6 v6 w6 hw6 ho=>?_;have ok6:=Bw.cH hBok (Fl.nD near (Df.sign x.2.1).1);refine mM ho ok6 hw6 om s5 (by rw[agZ,Fl.bX];omega) fun way7 v7 w7 hw7 ho=>?_;have ok7:=Bw.cH ok6 (Bw.eK (Df.sign x.2.1).2.1 (Df.sign x.2.1).2.2);rw[aK Wl,pt_2 ho 2 rfl];refine aL ho (Ks x.2.2 w7 hxo.2.2.2.1 hxo.2.2.2.2.1) ?_;rintro _ w8 rfl ho;simp only[ex];rw[aK SD,aO Oh (ho.cell 3 rfl 1 rfl)];refine Cp (i:=(Df.far x.2.2).1) ho hm4 htb hcb hb15 hx.2 ok7 hw7 (by simp only[agZ,Fl.bX,Bw.bE];omega) fun way9 v9 w9 hw9 ho=>?_;have ok9:=Bw.cH ok7 (Fl.nD far (Df.far x.2.2).1);refine mM ho ok9 hw9 om f4 (by simp only[agZ,Fl.bX,Bw.bE];omega) fun way10 v10 w10 hw10 ho=>?_;refine fin w10 way10 v10 xb hw10 ?_;simp only[ahK] at ho ⊢;exact ho
 ·simp only[hlt,agX,i_f];have hin:i=ps.length:=om
  subst hin;rw[ajG] at ho hfl hfok;have hm4:(.cells pb (prC ta tb) 296::T)[jm+1]?=some (.mem M):=by rw[aiP];exact hm
  rw[aK KA,aO Oh (ho.cell 2 rfl 0 rfl)];refine Cp (i:=256) ho hm4 hta hca ha15 h256 (Bw.cH hok hfok) hw (by rw[agZ];omega) fun way5 v5 w5 hw5 ho=>?_;refine retK ⟨rfl,way5,v5,hw5,?_⟩;unfold Df.pall;rw[<-ahK];have ho:OwnS S w0 w5 ((Wr b way5 (l++ps.flatMap (Df.mK near far)++Fl.iK near 256) v5 [])++([.cells pb (prC ta tb) 296]++T)):=ho;exact ho.front.tail
end
theorem TbW.le {M N:Mem}(h:M.le N){b:Nat}{lens:List Nat}(k:TbW M.A M.w b lens):TbW N.A N.w b lens:=by
 obtain⟨a,c,o,h1,h2,h3,h4,h5⟩:=k;refine⟨a,c,o,h.A b h1,?_,h3.le h,h4.le h,h5.le h⟩;show N.w.heap[b]?=_;rw[h.has b h1];exact h2
theorem PG (ps:List Df.Pt)(pv:Value)(M:Mem)(w:World)(hM:M.has w)(hps:SlA M.A M.w pv 3 ps.length (ps.flatMap ptC))(hpo:Df.zZ 0 ps)(hpl:ps.length<=1048576) :
  RetM prog 267 #[pv] M w (fun v _=>v=.string ⟨(Bw.bytes (Df.fixed ps)).toArray⟩):=by
 refine aT hM fun K hK=>BM ?_;unfold yO nz;have ho:OwnS M.A w w [.mem M]:=OwnS.memS hM;refine bF ho 0 rfl (Ip M w hM) ?_;rintro _ N1 w1 g1 ⟨va,vb,rfl,ha,hb⟩ ho;simp only[ex];refine bC (fun b=>.pointer (some ⟨b,0,none⟩)) [.pointer none,.pointer none] 296 (fun _=>by kernel_rfl) ho fun pb w2 ho=>?_;have l1:Fl.fixS.length=288:=by decide +kernel
 refine bF ho 1 rfl (wE Fl.fixS va N1 w2 Df.GJ om om (ho.hasM 1 rfl) ha) ?_;rintro _ N3 w3 g3 h3 ho;rw[agV (by rw[Fl.Ft];exact fun h=>h rfl)] at h3;obtain⟨ta,rfl,hta⟩:=h3;simp only[ex];rw[aK KA];refine aN 0 ho rfl krx rfl (by show 0+0 < 2;omega) fun w4 ho=>?_;refine bF ho 1 rfl (wE Fl.fixF vb N3 w4 Df.Jm (by rw[Fl.BK];omega) (by rw[Fl.BK];omega) (ho.hasM 1 rfl) (hb.le g3)) ?_;rintro _ N5 w5 g5 h5 ho;rw[agV (by rw[Fl.Fz];exact fun h=>h rfl)] at h5;obtain⟨tb,rfl,htb⟩:=h5;simp only[ex];rw[aK SD];refine aN 0 ho rfl krx rfl (by show 0+1 < 2;omega) fun w6 ho=>?_;have ho:OwnS M.A w w6 [.cells pb (prC ta tb) 296,.mem N5]:=ho;have hta:=TbW.le g5 hta;refine Rv ho fun b w7 ho=>?_;refine mM (x:=1) (n:=1) ho (fun b hb=>by cases hb) (.inl rfl) om dc sm fun way1 v1 w8 hw1 ho=>?_;have ok1:Bw.ok ([]++Bw.low 1 1):=Bw.cH (fun b hb=>by cases hb) (Bw.eK 1 1);refine mM (x:=1) (n:=2) ho ok1 hw1 om dc (by simp[Bw.bE]) fun way2 v2 w9 hw2 ho=>?_;have ok2:=Bw.cH ok1 (Bw.eK 1 2);refine aE (bI (AtV.agg abS (cs:=prC ta tb) rfl fun j u hj=>by rw[ahJ];exact ho.cell 2 rfl j hj)) |>.mpr ?_;refine NI (jm:=1) ho rfl hta htb Fl.Ft Fl.Fz Df.GJ Df.Jm (Df.FK dc) (hps.le (g1.trans (g3.trans g5))) (Df.K2 hpo) hpo hpl ok2 hw2 (by simp[Bw.bE]) fun way3 v3 w10 hw3 ho=>?_;have e:[]++Bw.low 1 1++Bw.low 1 2++Df.pall Fl.fixS Fl.fixF ps=Df.fixed ps:=by unfold Df.fixed;simp
 rw[e] at ho;have hl:(Df.fixed ps).length<=100000000:=by
  unfold Df.fixed Df.pall;have:=Df.CW Df.GJ Df.Jm (l:=ps) fun x hx=>Df.A6 hpo x hx;have h15:Fl.fixS.getD 256 0<=15:=Df.fZ Df.GJ dc _;simp only[agZ,Bw.bE,Fl.bX];omega
 refine MQ ho (by unfold Df.fixed;simp only[agZ,Bw.bE];omega) om fun W ho=>?_;exact hK _ _ N5 _ 1 ho rfl (g1.trans (g3.trans g5)) rfl
end
section
open Eng Go.RowKit
theorem LX {g n:Nat}{k:IntKind}(hi:i < n)(W:World):(mIA 123 (.slice (some ⟨g,0,none⟩) n cap) (.int k (i:Int))).run prog W=.ok (.value (.pointer (some ⟨g,i,none⟩))) W:=by
 have:=eE (P:=prog) (T:=123) (b:=g) (off:=0) (cap:=cap) (n:=n) (k:=k) (i:=(i:Int)) (w:=W) ahS KK om om
 rwa [ahI,ahZ,ahJ] at this
def Df.inc (l:List Nat)(j:Nat):List Nat:=l.set j (l.getD j 0+1)
theorem Df.JR (l:List Nat)(j:Nat):(Df.inc l j).length=l.length:=ajM
theorem Df.Fp (hj:j < l.length)(k:Nat):(Df.inc l j).getD k 0=l.getD k 0+(if j=k then 1 else 0):=by
 unfold Df.inc;rw[ahC];by_cases h:j=k
 ·subst h;rw[akP hj];simp
 ·rw[anW h,<-ahC,agV h];rfl
theorem Df.VR {a b a' b':List Nat}{x:Df.Pt}(h:Df.has a b x)(ha:∀i,a.getD i 0<=a'.getD i 0)(hb:∀i,b.getD i 0<=b'.getD i 0):Df.has a' b' x:=by
 unfold Df.has at h ⊢;split
 ·rename_i h0;rw[agW h0] at h;exact ajE h (ha _)
 ·rename_i h0;rw[agV h0] at h;exact⟨ajE h.1 (ha _),ajE h.2 (hb _)⟩
theorem Df.Mb {B:Nat}(h:∀i,l.getD i 0<=B):∀c∈l,c<=B:=by
 intro c hc;obtain⟨i,hi,rfl⟩:=akH hc;have:=h i;rw[ahC,ahH hi] at this;exact this
section
variable {w:World}{PK:PKT}{K:VWP}{S:Nat->Prop}{w0:World}{L T:List Ent}
theorem VK (i:Nat){g n:Nat}{k:IntKind}{PK2 PK3 PK4 PK5:PKT}{N:World->Prop}(ho:OwnS S w0 w L)(hi:L[i]?=some (lrE g l))(hn:l.length=n)(hj:j < n)(hb:l.getD j 0<=1000000000)(kk:∀W,OwnS S w0 W (L.set i (lrE g (Df.inc l j)))->N W) :
  DoX prog (mIA 123 (.slice (some ⟨g,0,none⟩) n n) (.int k (j:Int))) w PK fun t w=>DoX prog (aI 3 t) w PK2 fun t w=>DoX prog (mBin .add 3 t (.int .i64 1)) w PK3 fun t2 w=>DoX prog (mIA 123 (.slice (some ⟨g,0,none⟩) n n) (.int k (j:Int))) w PK4 fun t w=>DoX prog (aS 3 t t2) w PK5 fun _ w=>N w:=by
 subst hn;refine aE (LX hj w) |>.mpr ?_;rw[aO cI (ho.cell i hi j (DD hj)),KF,aA om om,show ((l.getD j 0:Nat):Int)+1=((l.getD j 0+1:Nat):Int) by omega];refine aE (LX hj w) |>.mpr ?_;refine aN i ho hi krx rfl (by rw[eQ];exact hj) fun w2 ho=>?_;rw[zM] at ho;exact kk w2 ho
end
theorem Ll (ps:List Df.Pt)(pv:Value)(M:Mem)(w:World)(hM:M.has w)(hps:SlA M.A M.w pv 3 ps.length (ps.flatMap ptC))(hpo:Df.zZ 0 ps)(hpl:ps.length<=1048576) :
  RetM prog 297 #[pv] M w (fun r N=>∃va vb ca cb,r=.tuple #[va,vb]∧SlA N.A N.w va 1 ca.length (aR ca)∧SlA N.A N.w vb 1 cb.length (aR cb)∧ca.length=286∧cb.length=30∧0 < ca.getD 256 0∧(∀x∈ps,Df.has ca cb x)∧(∀c∈ca,c<=2147483647)∧(∀c∈cb,c<=2147483647)):=by
 refine aT hM fun K hK=>zX ?_;unfold sS iN dx;have ho:OwnS M.A w w [.mem M]:=OwnS.memS hM;have hz:∀n:Nat,aR (List.replicate n 0)=List.replicate n (.int .i64 0):=fun n=>by simp[aR]
 have body:∀(W:World) (ga gb:Nat),OwnS M.A w W [lrE ga (List.replicate 286 0),lrE gb (List.replicate 30 0),.mem M]->eH pv (.slice (some ⟨ga,0,none⟩) 286 286) (.slice (some ⟨gb,0,none⟩) 30 30) W K:=by
  intro W ga gb ho;unfold eH iN iax stx lnx;refine aE (LX (i:=256) (k:=.i64) dc W) |>.mpr ?_;refine aN 0 ho rfl krx rfl (by rw[eQ,aiE];decide) fun w2 ho=>?_;rw[show (Value.int .i64 1)=.int .i64 ((1:Nat):Int) from rfl,zM] at ho;rw[bB aoR (hps.now (ho.hasM 2 rfl))];refine loop (fun vs V=>∃(i:Nat) (ca cb:List Nat),vs=[.int .i64 (i:Int)]∧i<=ps.length∧ca.length=286∧cb.length=30∧0 < ca.getD 256 0∧(∀x∈ps.take i,Df.has ca cb x)∧(∀j,ca.getD j 0<=i+1)∧(∀j,cb.getD j 0<=i+1)∧OwnS M.A w V [lrE ga ca,lrE gb cb,.mem M]) (fun vs _=>ps.length - n0 vs) ⟨0,(List.replicate 286 0).set 256 1,List.replicate 30 0,rfl,om,by rw[ajM,aiE],aiE,by decide +kernel,(fun x hx=>by cases hx),?_,?_,ho⟩ ?_
  ·refine Df.fZ (P:=fun c=>c<=0+1) (fun c hc=>?_) dc;rcases anI hc with h|h
   ·rw[akB h];decide
   ·rw[h];decide
  ·refine Df.fZ (P:=fun c=>c<=0+1) (fun c hc=>?_) dc;rw[akB hc];decide
  clear ho;rintro vs w3 ⟨i,ca,cb,rfl,hi,hca,hcb,h256,hhas,hba,hbb,ho⟩ _;simp only[oM,gd,rs,nz];by_cases hlt:(i:Int) < (ps.length:Int)
  ·have hi':i < ps.length:=om
   simp only[hlt,agY,i_t];obtain⟨p,hia,hld⟩:=ptAt hps hi';refine join fun J hJ=>?_;rw[aE (hia w3),aE (hld w3 (ho.hasM 2 rfl))];obtain⟨mx,hxo⟩:=Df.A6 hpo _ (ahP hi');have htk:ps.take (i+1)=ps.take i++[ps[i]]:=aiG hi';have fin:∀(W:World) (ca' cb':List Nat) (e:Ent),ca'.length=286->cb'.length=30->(∀j,ca.getD j 0<=ca'.getD j 0∧ca'.getD j 0<=ca.getD j 0+1)->(∀j,cb.getD j 0<=cb'.getD j 0∧cb'.getD j 0<=cb.getD j 0+1)->Df.has ca' cb' ps[i]->OwnS M.A w W (e::[lrE ga ca',lrE gb cb',.mem M])->J [] W:=by
    intro W ca' cb' e h1 h2 h3 h4 h5 ho;refine hJ _ _ fun _=>?_;simp only[oV,gd,rs,nz];rw[aA om om];refine aY ⟨i+1,ca',cb',rfl,om,h1,h2,ajE h256 (h3 256).1,?_,fun j=>by have:=h3 j;have:=hba j;omega,fun j=>by have:=h4 j;have:=hbb j;omega,ho.tail⟩ (by simp[n0,RowKit.intOf];omega);rw[htk];intro x hx;rcases aiC.1 hx with hx|hx
    ·exact Df.VR (hhas x hx) (fun j=>(h3 j).1) (fun j=>(h4 j).1)
    ·rw[aiA.1 hx];exact h5
   generalize ps[i]=x at hxo hld fin;refine Rb ho fun xb w4 ho=>?_;refine KS (y:=x) 0 ho rfl fun w5 ho=>?_;have ho:OwnS M.A w w5 (ptE xb x::[lrE ga ca,lrE gb cb,.mem M]):=ho;unfold Df.ptOk at hxo;unfold Df.has at fin;rw[aK Ej,pt_1 ho 0 rfl];simp only[rs];by_cases h0:x.2.1=0
   ·rw[agW h0] at hxo;simp only[agW h0] at fin;simp only[show decide ((x.2.1:Int)=0)=true from ahB om,i_t];rw[aK Sz,pt_0 ho 0 rfl];have hc:=x.1.toNat_lt;have hb1:=hba x.1.toNat;refine VK 1 ho rfl hca om om fun w6 ho=>?_;have hg:=Df.Fp (l:=ca) (j:=x.1.toNat) om;refine fin w6 (Df.inc ca x.1.toNat) cb _ (by rw[Df.JR];exact hca) hcb (fun j=>by rw[hg];split<;>omega) (fun j=>by omega) (by rw[hg,agW rfl];omega) ho
   ·rw[agV h0] at hxo;simp only[agV h0] at fin;obtain⟨s1,s2,s3,s4,s5,s6⟩:=Df.DE hxo.2.1 hxo.2.2.1;obtain⟨f1,f2,f3,f4,f5⟩:=Df.LA hxo.2.2.2.1 hxo.2.2.2.2.1;simp only[show decide ((x.2.1:Int)=0)=false from ahA om,i_f];rw[aK Ej,pt_1 ho 0 rfl];refine aL ho (Ko x.2.1 w5 hxo.2.1 hxo.2.2.1) ?_;rintro _ w6 rfl ho;simp only[ex];rw[aK Wl,pt_2 ho 0 rfl];refine aL ho (Ks x.2.2 w6 hxo.2.2.2.1 hxo.2.2.2.2.1) ?_;rintro _ w7 rfl ho;simp only[ex];have hb1:=hba (Df.sign x.2.1).1;have hb2:=hbb (Df.far x.2.2).1;refine VK 1 ho rfl hca om om fun w8 ho=>?_;refine VK 2 ho rfl hcb om om fun w9 ho=>?_;have hg:=Df.Fp (l:=ca) (j:=(Df.sign x.2.1).1) om;have hg2:=Df.Fp (l:=cb) (j:=(Df.far x.2.2).1) om;refine fin w9 (Df.inc ca (Df.sign x.2.1).1) (Df.inc cb (Df.far x.2.2).1) _ (by rw[Df.JR];exact hca) (by rw[Df.JR];exact hcb) (fun j=>by rw[hg];split<;>omega) (fun j=>by rw[hg2];split<;>omega) ⟨by rw[hg,agW rfl];omega,by rw[hg2,agW rfl];omega⟩ ho
  ·simp only[hlt,agX,i_f];have hin:i=ps.length:=om
   subst hin;rw[ajG] at hhas;have ho:=ho.toU 1 286 286 (by rw[eQ,hca]) (ahD _) om;rw[ahZ,aiF (by rw[eQ];omega)] at ho;obtain⟨N1,g1,hs1,ho⟩:=OwnS.cG (L:=[lrE gb cb,.mem M]) ho 1 rfl;have ho:OwnS M.A w w3 [lrE gb cb,.mem N1]:=ho;have ho:=ho.toU 1 30 30 (by rw[eQ,hcb]) (ahD _) om;rw[ahZ,aiF (by rw[eQ];omega)] at ho;obtain⟨N2,g2,hs2,ho⟩:=OwnS.cG (L:=[.mem N1]) ho 0 rfl;exact hK _ _ N2 _ 0 ho rfl (g1.trans g2) ⟨_,_,ca,cb,rfl,by rw[hca];exact hs1.le g2,by rw[hcb];exact hs2,hca,hcb,h256,hhas,Df.Mb fun j=>by have:=hba j;omega,Df.Mb fun j=>by have:=hbb j;omega⟩
 refine⟨?_⟩;have ho:=ho.drew;refine⟨?_,?_⟩
 ·refine xQ (n:=286) om ho fun ga w1 ho=>⟨?_,?_⟩
  all_goals
   refine xQ (n:=30) om ho fun gb w2 ho=>?_;refine body w2 ga gb ?_;unfold lrE;rw[hz,hz];exact ho.perm (List.Perm.swap _ _ _)
 ·refine xQ (n:=30) om ho fun gb w1 ho=>?_;refine xQ (n:=286) om ho fun ga w2 ho=>?_;refine body w2 ga gb ?_;unfold lrE;rw[hz,hz];exact ho
theorem Jk (l:List Nat)(v:Value)(keep:Nat)(M:Mem)(w:World)(hM:M.has w)(hs:SlA M.A M.w v 1 l.length (aR l))(hk:keep<=l.length)(h0:0 < keep)(hl:l.length<=1000000) :
  Ret prog 299 #[v,.int .i64 (keep:Int)] w (fun r w'=>(∃n,keep<=n∧n<=l.length∧(∀j,n<=j->l.getD j 0=0)∧r.oneCell'=true∧SlA M.A M.w r 1 n (aR (l.take n)))∧w=w'):=by
 refine aP fun K hK=>EU ?_;unfold BE nz;rw[bB ahS (hs.now hM)];refine loop (fun vs W=>∃n:Nat,vs=[.int .i64 (n:Int)]∧keep<=n∧n<=l.length∧(∀j,n<=j->l.getD j 0=0)∧w=W) (fun vs _=>n0 vs) ⟨l.length,rfl,hk,ahD _,fun j hj=>by rw[ahC,ajD hj];rfl,rfl⟩ ?_;rintro vs _ ⟨n,rfl,hkn,hn,hz,rfl⟩ _;simp only[xD,gd,rs,nz];obtain⟨b,off,cap,rfl,_⟩:=cB hs.1 om;have hcap:=hs.2.2 _ _ _ rfl;have stop:DoX prog (dB 123 (.slice (some ⟨b,off,none⟩) l.length cap) none (some (.int .i64 (n:Int))) none) w (pk K) fun t23 w=>K (.returned t23) w:=by
  refine aE (jD ahS KK om om) |>.mpr ?_;rw[ahI];have hup:=SlA.Q6 hs (i:=n) hn (fun h=>by omega);rw[ahZ] at hup;refine hK _ _ ⟨⟨n,hkn,hn,hz,?_,?_⟩,rfl⟩
  ·unfold subA;split<;>rfl
  ·rw[show aR (l.take n)=(aR l).take n by unfold aR;rw[amL]];exact hup
 by_cases h1:keep < n
 ·simp only[show decide ((keep:Int) < (n:Int))=true from ahB om,rs];rw[aA om om,show (n:Int) - 1=((n - 1:Nat):Int) by omega];obtain⟨b2,off2,r1,r2⟩:=mD (hs.now hM) (i:=n - 1) om;refine aE (r1 w) |>.mpr (aE (aB cI r2) |>.mpr ?_);simp only[rs];by_cases h2:l[n - 1]=0
  ·simp only[show decide (((l[n - 1]:Nat):Int)=0)=true from ahB om,i_t];refine aY ⟨n - 1,rfl,om,om,fun j hj=>?_,rfl⟩ (by simp[n0,RowKit.intOf];omega);rcases ahY j n with h|h
   ·obtain rfl:j=n - 1:=om
    rw[ahC,ahH om];exact h2
   ·exact hz j h
  ·simp only[show decide (((l[n - 1]:Nat):Int)=0)=false from ahA om,i_f];exact stop
 ·simp only[show decide ((keep:Int) < (n:Int))=false from ahA om,i_f,rs];exact stop
end
section
open Eng Go.RowKit
def mkC (m:Df.Mk):List Value:=[.int .i64 (m.1:Int),.int .i64 (m.2.1:Int),.int .i64 (m.2.2:Int)]
def mkV (m:Df.Mk):Value:=.agg (mkC m).toArray
theorem Tj (m:Df.Mk):(mkC m).length=3:=rfl
theorem SN {m:Df.Mk}:∀u∈mkC m,u.oneCell'=true:=by
 intro u hu;simp only[mkC,ahG,ajH,or_false] at hu;rcases hu with rfl|rfl|rfl<;>rfl
theorem Xu {l:List Df.Mk}:∀u∈l.flatMap mkC,u.oneCell'=true:=Eng.VM fun x=>SN
theorem adM:aggN prog 307=some 3:=krx
theorem szMk:(Tryz.prog.info? 307).map (·.size)=some 3:=krx
theorem elMk:elB prog 307 3 24=true:=krx
theorem WM:fOff prog 307 0=some 0:=krx
theorem aaM:fOff prog 307 1=some 1:=krx
theorem aaB:fOff prog 307 2=some 2:=krx
abbrev mksE (v:Value)(l:List Df.Mk):Ent:=.urow 307 3 v l.length (l.flatMap mkC)
theorem Df.Om {l:List Nat}{i c:Nat}:∀(n:Nat),i+n<=l.length->(∀j,j < n->l.getD (i+j) 0=c)->l.take (i+n)=l.take i++List.replicate n c
|0,_,_=>by simp
|n+1,h,hc=>by
  have ih:=Df.Om n om fun j hj=>hc j om;have hlt:i+n < l.length:=om
  have hn:=hc n om;rw[ahC,ahH hlt] at hn;have hn:l[i+n]=c:=hn;rw[show i+(n+1)=i+n+1 by omega,aiG hlt,ih,hn,ahK,aoP]
theorem Df.mk_zero (acc:List Nat)(g m:Nat)(hg:g=17∨g=18):Df.mk1 acc (g,m,Fl.repB g)=acc++List.replicate (Fl.repL g+m) 0:=by
 unfold Df.mk1;rcases hg with rfl|rfl
 ·rw[agV (show ¬(17:Nat) < 16 by decide),agV (show ¬(17:Nat)=16 by decide)]
 ·rw[agV (show ¬(18:Nat) < 16 by decide),agV (show ¬(18:Nat)=16 by decide)]
theorem Df.Wn (acc:List Nat){c:Nat}(h:c < 16):Df.mk1 acc (c,0,0)=acc++[c]:=by unfold Df.mk1;rw[agW h]
theorem Df.abH (acc:List Nat)(c m:Nat):Df.mk1 (acc++[c]) (16,m,2)=acc++List.replicate (4+m) c:=by
 unfold Df.mk1;have e:(acc++[c]).getD ((acc++[c]).length - 1) 0=c:=by
  rw[agZ,ajJ,alQ,ahC,ajO (ahD _),akF];rfl
 rw[agV (show ¬(16:Nat) < 16 by decide),agW (show (16:Nat)=16 from rfl),e,ahK];have e2:Fl.repL 16=3:=rfl;show acc++([c]++List.replicate (Fl.repL 16+m) c)=_;rw[e2,show 4+m=(3+m)+1 by omega,anG];rfl
theorem Q9 (hs:SlA M.A M.w v 1 l.length (aR l))(hi:i < l.length) :
  ∃p,(∀W,(mIA 123 v (.int .i64 (i:Int))).run prog W=.ok (.value (.pointer (some p))) W)∧∀W,M.has W->(aI 3 (.pointer (some p))).run prog W=.ok (.value (.int .i64 (l[i]:Int))) W:=by
 obtain⟨b,off,cap,rfl,_⟩:=cB hs.1 om;refine⟨⟨b,off+i,none⟩,fun W=>?_,fun W hW=>?_⟩
 ·have:=eE (P:=prog) (T:=123) (b:=b) (off:=off) (cap:=cap) (n:=l.length) (k:=.i64) (i:=(i:Int)) (w:=W) ahS KK om om;rw[ahI,ahZ] at this;exact this
 ·obtain⟨b',off',cap',he,hc⟩:=cB (hs.now hW) om;cases he;refine aB cI (hc i _ ?_);rw[DD hi,ahC,ahH hi];rfl
section
variable {w:World}{PK:PKT}{S:Nat->Prop}{w0:World}{L T:List Ent}
theorem WD {ms new:List Df.Mk}{sb:Nat}{N:VWP}(hl:ms.length<=10000000)(hnl:new.length<=2)(ho:OwnS S w0 W (.cells sb (new.flatMap mkC) 307::mksE v' ms::T))(k:∀v2 W2,OwnS S w0 W2 (mksE v2 (ms++new)::T)->N v2 W2) :
  DoX prog (mB .append #[304,304] 304 #[false,false] #[v',.slice (some ⟨sb,0,none⟩) new.length new.length]) W PK N:=by
 refine cL 1 aoS elMk dc ho rfl (ho.sl 0 rfl 3 new.length new.length (by rw[Eng.NN Tj])) Xu om om fun v2 w9 ho=>?_;refine k v2 w9 ?_;unfold mksE;rw[amC,agZ];exact ho.tail
theorem m_mk {a c:Nat}:DoX prog (aZ 307 #[(0,.int .i64 (a:Int)),(1,.int .i64 (b:Int)),(2,.int .i64 (c:Int))]) W PK K=K (mkV (a,b,c)) W:=aE krx
theorem Y9 {ms:List Df.Mk}{n:Nat}{N1:List Value->World->Prop}{K:Ending->World->Prop}(hs:SlA M.A M.w v 1 l.length (aR l))(hi:i < l.length)(hc15:l[i] < 16)(hn1:1<=n)(hnb:n<=1000000)(hml:ms.length<=1000000)(hmo:Df.CH [] ms)(hme:Df.mks [] ms=l.take i)(ho:OwnS S w0 W [mksE v' ms,.mem M])
  (emit:∀(W:World) (v2:Value) (new:List Df.Mk) (n':Nat),1<=n'->n'<=n->Df.CH [] (ms++new)->Df.mks [] (ms++new)=l.take i++List.replicate n' l[i]->OwnS S w0 W [mksE v2 (ms++new),.mem M]->eC v2 (.int .i64 (i:Int)) (.int .i64 (n':Int)) W N1 K) :
  JoinX (fun J4=>
 DoX prog (mIA 123 v (.int .i64 (i:Int))) W (pk K) fun t42 W=>
 DoX prog (aI 3 t42) W (pk K) fun t43 W=>
 DoX prog (mEq .eql 3 (.tmp 43) (.const (.int .i64 0)) t43 (.int .i64 0)) W (pk K) fun t44 W=>
 GDo t44 true (fun E=>E (.int .i64 (n:Int)) W) W fun t46 W=>
 GDo t44 true (fun E=>DoX prog (mBin .geq 3 t46 (.int .i64 11)) W (pk K) E) W fun t47 W=>
 DoX prog (eS t44 t47 (.bool false)) W (pk K) fun t48 W=>
 IfX t48 (DoX prog (mB .min #[3,3] 3 #[false,true] #[(.int .i64 (n:Int)),(.int .i64 138)]) W (pk K) fun t50 W=>
 DoX prog (mBin .sub 3 t50 (.int .i64 11)) W (pk K) fun t53 W=>
 DoX prog (aZ 307 #[(0,(.int .i64 18)),(1,t53),(2,(.int .i64 7))]) W (pk K) fun t54 W=>
 DoX prog (bN 304 1 #[(0,t54)]) W (pk K) fun t55 W=>
 DoX prog (mB .append #[304,304] 304 #[false,false] #[v',t55]) W (pk K) fun t56 W=>
 J4 [t56,t50] W) (DoX prog (mIA 123 v (.int .i64 (i:Int))) W (pk K) fun t60 W=>
 DoX prog (aI 3 t60) W (pk K) fun t61 W=>
 DoX prog (mEq .eql 3 (.tmp 61) (.const (.int .i64 0)) t61 (.int .i64 0)) W (pk K) fun t62 W=>
 GDo t62 true (fun E=>E (.int .i64 (n:Int)) W) W fun t64 W=>
 GDo t62 true (fun E=>DoX prog (mBin .geq 3 t64 (.int .i64 3)) W (pk K) E) W fun t65 W=>
 DoX prog (eS t62 t65 (.bool false)) W (pk K) fun t66 W=>
 IfX t66 (DoX prog (mBin .sub 3 (.int .i64 (n:Int)) (.int .i64 3)) W (pk K) fun t69 W=>
 DoX prog (aZ 307 #[(0,(.int .i64 17)),(1,t69),(2,(.int .i64 3))]) W (pk K) fun t70 W=>
 DoX prog (bN 304 1 #[(0,t70)]) W (pk K) fun t71 W=>
 DoX prog (mB .append #[304,304] 304 #[false,false] #[v',t71]) W (pk K) fun t72 W=>
 J4 [t72,(.int .i64 (n:Int))] W) (DoX prog (mBin .geq 3 (.int .i64 (n:Int)) (.int .i64 4)) W (pk K) fun t75 W=>
 IfX t75 (DoX prog (mB .min #[3,3] 3 #[false,true] #[(.int .i64 (n:Int)),(.int .i64 7)]) W (pk K) fun t77 W=>
 DoX prog (mIA 123 v (.int .i64 (i:Int))) W (pk K) fun t81 W=>
 DoX prog (aI 3 t81) W (pk K) fun t82 W=>
 DoX prog (aZ 307 #[(0,t82),(1,(.int .i64 0)),(2,(.int .i64 0))]) W (pk K) fun t83 W=>
 DoX prog (mBin .sub 3 t77 (.int .i64 4)) W (pk K) fun t85 W=>
 DoX prog (aZ 307 #[(0,(.int .i64 16)),(1,t85),(2,(.int .i64 2))]) W (pk K) fun t86 W=>
 DoX prog (bN 304 2 #[(0,t83),(1,t86)]) W (pk K) fun t87 W=>
 DoX prog (mB .append #[304,304] 304 #[false,false] #[v',t87]) W (pk K) fun t88 W=>
 J4 [t88,t77] W) (DoX prog (mIA 123 v (.int .i64 (i:Int))) W (pk K) fun t34 W=>
 DoX prog (aI 3 t34) W (pk K) fun t35 W=>
 DoX prog (aZ 307 #[(0,t35),(1,(.int .i64 0)),(2,(.int .i64 0))]) W (pk K) fun t36 W=>
 DoX prog (bN 304 1 #[(0,t36)]) W (pk K) fun t37 W=>
 DoX prog (mB .append #[304,304] 304 #[false,false] #[v',t37]) W (pk K) fun t38 W=>
 J4 [t38,(.int .i64 1)] W)))) (fun vs4 W=>∀_:Sg,eC (vs4.getD 0 undef) (.int .i64 (i:Int)) (vs4.getD 1 undef) W N1 K):=by
 obtain⟨p,ia,ld⟩:=Q9 hs hi;have one:∀m:Df.Mk,Df.mkOk (l.take i) m->Df.CH [] (ms++[m])∧Df.mks [] (ms++[m])=Df.mk1 (l.take i) m:=fun m hm=>⟨Df.DA hmo (by rw[hme];exact hm),by rw[Df.Ot,hme]⟩;generalize l[i]=c at hc15 ld emit;refine join fun J hJ=>?_;have go:∀(W:World) (v2:Value) (n':Nat),eC v2 (.int .i64 (i:Int)) (.int .i64 (n':Int)) W N1 K->J [v2,.int .i64 (n':Int)] W:=fun W v2 n' h=>hJ _ _ fun _=>h;have hM:=ho.hasM 1 rfl;refine aE (ia W) |>.mpr (aE (ld W hM) |>.mpr ?_);simp only[rs];have put1:∀(m:Df.Mk) (n':Nat) (W:World),1<=n'->n'<=n->Df.mkOk (l.take i) m->Df.mk1 (l.take i) m=l.take i++List.replicate n' c->OwnS S w0 W [mksE v' ms,.mem M]->∀PK:PKT,
   DoX prog (bN 304 1 #[(0,mkV m)]) W PK fun t W=>DoX prog (mB .append #[304,304] 304 #[false,false] #[v',t]) W PK fun t W=>J [t,.int .i64 (n':Int)] W:=by
  intro m n' W h1 h2 h3 h4 ho PK;refine bC (fun b=>.slice (some ⟨b,0,none⟩) 1 1) (mkC m) 307 (fun _=>by kernel_rfl) ho fun sb w1 ho=>?_;have ho:OwnS S w0 w1 [.cells sb ([m].flatMap mkC) 307,mksE v' ms,.mem M]:=by
   rw[amN];exact ho
  refine WD (new:=[m]) om sm ho fun v2 w2 ho=>?_;obtain⟨a,b⟩:=one m h3;exact go _ _ _ (emit w2 v2 [m] n' h1 h2 a (by rw[b,h4]) ho)
 have i11:∀m:Nat,Fl.repL 18+m=11+m:=fun _=>rfl;have i3:∀m:Nat,Fl.repL 17+m=3+m:=fun _=>rfl;have last:(∀PK:PKT,DoX prog (bN 304 1 #[(0,mkV (c,0,0))]) W PK fun t W=>DoX prog (mB .append #[304,304] 304 #[false,false] #[v',t]) W PK fun t W=>J [t,.int .i64 ((1:Nat):Int)] W):=
  put1 (c,0,0) 1 W om hn1 (by unfold Df.mkOk;rw[agW hc15];exact⟨rfl,rfl⟩) (by rw[Df.Wn _ hc15];rfl) ho
 have fourth:4<=n->∀PK:PKT,DoX prog (bN 304 2 #[(0,mkV (c,0,0)),(1,mkV (16,min n 7 - 4,2))]) W PK fun t W=>DoX prog (mB .append #[304,304] 304 #[false,false] #[v',t]) W PK fun t W=>J [t,.int .i64 ((min n 7:Nat):Int)] W:=by
  intro h4 PK;refine bC (fun b=>.slice (some ⟨b,0,none⟩) 2 2) (mkC (c,0,0)++mkC (16,min n 7 - 4,2)) 307 (fun _=>by kernel_rfl) ho fun sb w1 ho=>?_;refine WD (new:=[(c,0,0),(16,min n 7 - 4,2)]) om sm ho fun v2 w2 ho=>?_;have k1:Df.mkOk (l.take i) (c,0,0):=by unfold Df.mkOk;rw[agW hc15];exact⟨rfl,rfl⟩
  obtain⟨a1,b1⟩:=one _ k1;rw[Df.Wn _ hc15] at b1;have k2:Df.mkOk (Df.mks [] (ms++[(c,0,0)])) (16,min n 7 - 4,2):=by
   rw[b1];unfold Df.mkOk;rw[agV (show ¬(16:Nat) < 16 by decide)];refine⟨show (16:Nat)<=18 by decide,rfl,by show min n 7 - 4 < 4;omega,fun _=>by simp⟩
  have a2:=Df.DA a1 k2;have b2:=Df.Ot [] (ms++[(c,0,0)]) (16,min n 7 - 4,2);rw[b1,Df.abH,show 4+(min n 7 - 4)=min n 7 by omega] at b2;rw[ahK] at a2 b2;exact go _ _ _ (emit w2 v2 _ (min n 7) om om a2 b2 ho)
 have m7:min (n:Int) 7=((min n 7:Nat):Int):=om
 have m138:min (n:Int) 138=((min n 138:Nat):Int):=om
 by_cases c0:c=0
 ·subst c0;simp only[show decide (((0:Nat):Int)=0)=true from rfl,rs];by_cases h11:11<=n
  ·simp only[show decide ((11:Int)<=(n:Int))=true from ahB om,i_t,rs];rw[Jv,m138];simp only[rs];rw[aA om om,show ((min n 138:Nat):Int) - 11=((min n 138 - 11:Nat):Int) by omega];refine (m_mk (a:=18) (b:=min n 138 - 11) (c:=7)).mpr ?_;refine put1 (18,min n 138 - 11,7) (min n 138) W om om ?_ ?_ ho _
   ·unfold Df.mkOk;rw[agV (show ¬(18:Nat) < 16 by decide)];exact⟨show (18:Nat)<=18 by decide,rfl,by show min n 138 - 11 < 128;omega,fun h=>absurd h (show ¬(18:Nat)=16 by decide)⟩
   ·have:=Df.mk_zero (l.take i) 18 (min n 138 - 11) (.inr rfl);rw[i11,show 11+(min n 138 - 11)=min n 138 by omega] at this;exact this
  ·simp only[show decide ((11:Int)<=(n:Int))=false from ahA om,i_f,rs];refine aE (ia W) |>.mpr (aE (ld W hM) |>.mpr ?_);simp only[show decide (((0:Nat):Int)=0)=true from rfl,rs];by_cases h3:3<=n
   ·simp only[show decide ((3:Int)<=(n:Int))=true from ahB om,i_t,rs];rw[aA om om,show (n:Int) - 3=((n - 3:Nat):Int) by omega];refine (m_mk (a:=17) (b:=n - 3) (c:=3)).mpr ?_;refine put1 (17,n - 3,3) n W om om ?_ ?_ ho _
    ·unfold Df.mkOk;rw[agV (show ¬(17:Nat) < 16 by decide)];exact⟨show (17:Nat)<=18 by decide,rfl,by show n - 3 < 8;omega,fun h=>absurd h (show ¬(17:Nat)=16 by decide)⟩
    ·have:=Df.mk_zero (l.take i) 17 (n - 3) (.inl rfl);rw[i3,show 3+(n - 3)=n by omega] at this;exact this
   ·simp only[show decide ((3:Int)<=(n:Int))=false from ahA om,i_f,rs];simp only[show decide ((4:Int)<=(n:Int))=false from ahA om,i_f,rs];refine aE (ia W) |>.mpr (aE (ld W hM) |>.mpr ?_);refine (m_mk (a:=0) (b:=0) (c:=0)).mpr ?_;exact last _
 ·simp only[show decide ((c:Int)=0)=false from ahA om,i_f,rs];refine aE (ia W) |>.mpr (aE (ld W hM) |>.mpr ?_);simp only[show decide ((c:Int)=0)=false from ahA om,i_f,rs];by_cases h4:4<=n
  ·simp only[show decide ((4:Int)<=(n:Int))=true from ahB om,i_t,rs];rw[Jv,m7];refine aE (ia W) |>.mpr (aE (ld W hM) |>.mpr ?_);refine (m_mk (a:=c) (b:=0) (c:=0)).mpr ?_;simp only[rs];rw[aA om om,show ((min n 7:Nat):Int) - 4=((min n 7 - 4:Nat):Int) by omega];refine (m_mk (a:=16) (b:=min n 7 - 4) (c:=2)).mpr ?_;exact fourth h4 _
  ·simp only[show decide ((4:Int)<=(n:Int))=false from ahA om,i_f,rs];refine aE (ia W) |>.mpr (aE (ld W hM) |>.mpr ?_);refine (m_mk (a:=c) (b:=0) (c:=0)).mpr ?_;exact last _
end
theorem PB (l:List Nat)(v:Value)(M:Mem)(w:World)(hM:M.has w)(hs:SlA M.A M.w v 1 l.length (aR l))(hl:l.length<=1000000)(h15:∀x∈l,x<=15) :
  RetM prog 300 #[v] M w (fun r N=>∃ms:List Df.Mk,Df.CH [] ms∧Df.mks [] ms=l∧r.oneCell'=true∧SlA N.A N.w r 3 ms.length (ms.flatMap mkC)):=by
 refine aT hM fun K hK=>Bm ?_;unfold wN nz;have ho:OwnS M.A w w [.mem M]:=OwnS.memS hM;have ho:OwnS M.A w w [.urow 307 3 nilS 0 [],.mem M]:=OwnS.nilU (L:=[.mem M]) ho _ _;refine loop (fun vs W=>∃(i:Nat) (v':Value) (ms:List Df.Mk),vs=[v',.int .i64 (i:Int)]∧i<=l.length∧Df.CH [] ms∧Df.mks [] ms=l.take i∧OwnS M.A w W [mksE v' ms,.mem M]) (fun vs _=>l.length - n1 vs) ⟨0,nilS,[],rfl,om,trivial,rfl,ho⟩ ?_;clear ho;rintro vs w1 ⟨i,v',ms,rfl,hi,hmo,hme,ho⟩ _;simp only[rT,gd,nz];rw[bB ahS (hs.now (ho.hasM 1 rfl))];simp only[rs];have hml:=Df.IP ms [];rw[hme,ahE] at hml;simp only[akK,ahJ] at hml;by_cases hlt:(i:Int) < (l.length:Int)
 case neg=>
  simp only[hlt,agX,i_f];have hie:i=l.length:=om
  subst hie;rw[ajG] at hme;have hv1:=dQ (ho.at_ 0 rfl);obtain⟨N1,g1,hs1,ho⟩:=OwnS.cG (L:=[.mem M]) ho 0 rfl;exact hK _ _ N1 _ 0 ho rfl g1 ⟨ms,hmo,hme,hv1,hs1⟩
 simp only[hlt,agY,i_t];have hi':i < l.length:=om
 obtain⟨p0,ia0,ld0⟩:=Q9 hs hi';have hc15:=h15 _ (ahP hi');have hgi:l.getD i 0=l[i]:=by rw[ahC,ahH hi'];rfl
 refine loop (fun vs W=>∃n:Nat,vs=[.int .i64 (n:Int)]∧1<=n∧i+n<=l.length∧(∀j,j < n->l.getD (i+j) 0=l[i])∧OwnS M.A w W [mksE v' ms,.mem M]) (fun vs _=>l.length+1 - n0 vs) ⟨1,rfl,om,om,fun j hj=>by rw[show j=0 by omega];exact hgi,ho⟩ ?_;clear ho;rintro vs w2 ⟨n,rfl,hn1,hin,hrun,ho⟩ _;simp only[sH,gd,nz];have emit:∀(W:World) (v2:Value) (new:List Df.Mk) (n':Nat),1<=n'->n'<=n->Df.CH [] (ms++new)->Df.mks [] (ms++new)=l.take i++List.replicate n' l[i]->OwnS M.A w W [mksE v2 (ms++new),.mem M]->eC v2 (.int .i64 (i:Int)) (.int .i64 (n':Int)) W (Mc (fun vs W=>∃(i:Nat) (v':Value) (ms:List Df.Mk),vs=[v',.int .i64 (i:Int)]∧i<=l.length∧Df.CH [] ms∧Df.mks [] ms=l.take i∧OwnS M.A w W [mksE v' ms,.mem M]) (fun vs _=>l.length - n1 vs) [v',.int .i64 (i:Int)] w1) K:=by
  intro W v2 new n' h1 h2 h3 h4 ho;simp only[eC,rs,nz];rw[aA om om];refine aY ⟨i+n',v2,ms++new,by congr 2,om,h3,?_,ho⟩ (by simp[n1,RowKit.intOf];omega);rw[h4,Df.Om n' om fun j hj=>hrun j om]
 have stop:=fun (W:World) (ho:OwnS M.A w W [mksE v' ms,.mem M])=>Y9 hs hi' (Nat.lt_succ_of_le hc15) hn1 om om hmo hme ho emit;refine eB (fun W=>OwnS M.A w W [mksE v' ms,.mem M]) ho.drew ?_;refine qQ ?_;rw[aA om om,show (i:Int)+(n:Int)=((i+n:Nat):Int) by omega];refine q_at (.int .i64 (l.length:Int)) (fun W h=>?_) (LU ?_)
 ·obtain⟨_,a,cap,rfl,_⟩:=hs.1;exact Dy ahS
 by_cases hnl:i+n < l.length
 case neg=>
  rw[ahA (show ¬((i+n:Nat):Int) < (l.length:Int) by omega)];simp only[gq];refine q_pf ?_;intro w3 ho;simp only[i_f];exact stop w3 ho
 rw[ahB (show ((i+n:Nat):Int) < (l.length:Int) by omega)];simp only[gq];obtain⟨p1,ia1,ld1⟩:=Q9 hs hnl;refine qQ ?_;rw[aA om om,show (i:Int)+(n:Int)=((i+n:Nat):Int) by omega];refine q_do _ ia1 (q_at _ (fun W h=>ld1 W (h.hasM 1 rfl)) ?_);refine q_do _ ia0 (q_at _ (fun W h=>ld0 W (h.hasM 1 rfl)) (q_eq (q_pt ?_)));intro w3 ho;by_cases he:l[i+n]=l[i]
 ·rw[ahB (show ((l[i+n]:Nat):Int)=((l[i]:Nat):Int) by omega)];simp only[i_t,rs];rw[aA om om];refine aY ⟨n+1,rfl,om,om,fun j hj=>?_,ho⟩ (by simp[n0,RowKit.intOf];omega);rcases ahY j n with h|h
  ·exact hrun j h
  ·rw[show j=n by omega,ahC,ahH hnl];exact he
 ·rw[ahA (show ¬((l[i+n]:Nat):Int)=((l[i]:Nat):Int) by omega)];simp only[i_f];exact stop w3 ho
def ordV:Value:=.agg (aR Fl.ord).toArray
theorem abD:aggN prog 308=some 19:=krx
theorem aeT:(Tryz.prog.info? 308).map (·.size)=some 19:=krx
theorem Mt (w:World):Ret prog 301 #[] w (fun v w'=>v=ordV∧Below w.heap.size w w'):=by
 refine aP fun K hK=>AZ ?_;unfold uP nz;refine bC (fun b=>.pointer (some ⟨b,0,none⟩)) (List.replicate 19 (.int .i64 0)) 308 (fun _=>by kernel_rfl) (Own.start w) fun b w1 ho=>?_;have mb:∀W:World,(aZ 308 #[(0,(.int .i64 16)),(1,(.int .i64 17)),(2,(.int .i64 18)),(3,(.int .i64 0)),(4,(.int .i64 8)),(5,(.int .i64 7)),(6,(.int .i64 9)),(7,(.int .i64 6)),(8,(.int .i64 10)),(9,(.int .i64 5)),(10,(.int .i64 11)),(11,(.int .i64 4)),(12,(.int .i64 12)),(13,(.int .i64 3)),(14,(.int .i64 13)),(15,(.int .i64 2)),(16,(.int .i64 14)),(17,(.int .i64 1)),(18,(.int .i64 15))]).run prog W=.ok (.value ordV) W:=fun W=>by kernel_rfl
 refine aE (mb w1) |>.mpr ?_;refine D1 0 ho rfl (new:=aR Fl.ord) aeT Db (by show 0+19<=19;omega) fun w2 ho=>?_;exact iW (bH (ho.agg (cs:=aR Fl.ord) 0 rfl abD)) (hK _ _ ⟨rfl,ho.done⟩)
theorem acO (hi:i < 19)(W:World):(mIx 308 ordV (.int .i64 (i:Int))).run prog W=.ok (.value (.int .i64 ((Fl.ord.getD i 0:Nat):Int))) W:=by
 rcases lt19 hi with rfl|rfl|rfl|rfl|rfl|rfl|rfl|rfl|rfl|rfl|rfl|rfl|rfl|rfl|rfl|rfl|rfl|rfl|rfl<;>kernel_rfl
end
end Go.Proofs.YtlipjfcbjemicaaGreatDoor
