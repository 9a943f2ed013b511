/- Texts that go together: BoS BoT BoU BoE BoF BoV SLaw08 BoW BoX BoY BoG BpA BpB BpC BpD Plain08C BpE BoZ BpF. -/
import Derived.Test.YtkejpieaafeblaaGreatDoorRows
import Derived.Test.YtkejpieaafeblaaGreatDoorMfgajbapg
import Derived.Test.YtkejpieaafeblaaGreatDoorMjedaldak
import Derived.Test.YtkejpieaafeblaaGreatDoorMchjklpnl
import Derived.Test.YtkejpieaafeblaaGreatDoorMfpdmcfll
import Derived.Test.YtkejpieaafeblaaGreatDoorMlllolngj
import Derived.Test.YtkejpieaafeblaaGreatDoorMdjkagiip
import Derived.Test.YtkejpieaafeblaaGreatDoorMjgmdnbfo
set_option linter.defProp false
set_option linter.unusedSimpArgs false
set_option linter.unusedVariables false
set_option maxRecDepth 20000
open Go.Proofs.Tryz (prog)
namespace Go.Proofs.YtkejpieaafeblaaGreatDoor
section
open Eng Go.RowKit
theorem MH (o:Ob)(v:Value)(len:Int)(M:Mem)(w:World)(hw:o.wt≤100000000000)(hM:M.has w)(hv:OV M.A M.w v o):RetM prog 69 #[v,.int .i64 len] M w (fun r N=>r=.tuple #[.int .i64 (Bd.size o len).1,.int .i64 (Bd.size o len).2]):=by
 obtain⟨vk,vc,cs,rfl,ha⟩:=hv.open;refine cM hM fun K hK=>Af ?_;unfold qF iN dx cx;refine cY o ha.keys.one ha.kids.one (OwnS.memS hM) fun b2 w1 ho=>?_;unfold Bd.size at hK;by_cases h0:len≥0
 ·rw[Yh h0] at hK;simp only[rs,Yk h0,i_t];exact hK _ _ M _ 1 ho rfl M.le_refl rfl
 rw[Yg h0] at hK;simp only[rs,Yl h0,i_f,ob_v ho 0 rfl];refine eD ho 1 rfl (Nr o _ Vl.lenK M w1 hw (ho.hasM 1 rfl) hv) ?_;rintro _ N w2 hle ⟨u,rfl,hu⟩ ho;obtain⟨xk,xc,xcs,rfl,hx⟩:=hu.open;simp only[getV,ex];refine bN ho fun b6 w3 ho=>?_;refine aQ 0 hx.keys.one hx.kids.one ho rfl fun w4 ho=>?_;unfold Bd.own at hK;cases hg:Vl.get o Vl.lenK with
|none=>
  rw[hg] at hK;simp only[rs,Option.isSome,YJ,i_t];exact hK _ _ N _ 2 ho rfl hle rfl
|some x=>
  rw[hg] at hK ho;simp only at hK;simp only[rs,Option.isSome,YE,i_f,cN,ob_k ho 0 rfl,ZQ];by_cases h2:x.k=2
  case neg=>
   rw[Yh h2] at hK;simp only[Yk (show x.k≠2 from h2),i_t];exact hK _ _ N _ 2 ho rfl hle rfl
  rw[Yg (by simp[h2])] at hK;simp only[h2,show decide ((2:Int)≠2)=false by decide,i_f,rs,vI,ob_n ho 0 rfl,ZQ];by_cases hn:x.n < 0
  ·rw[Yh hn] at hK;simp only[Yk hn,i_t];exact hK _ _ N _ 2 ho rfl hle rfl
  ·rw[Yg hn] at hK;simp only[Yl hn,i_f,rs,vI,ob_n ho 0 rfl,ZQ];exact hK _ _ N _ 2 ho rfl hle rfl
theorem KX (s:List UInt8)(a:Nat)(w:World)(ha:a≤s.length)(hs:s.length≤1099511627776):Ret prog 68 #[.string ⟨s.toArray⟩,.int .i64 a] w (fun v w'=>v=.tuple #[.int .i64 (Bd.line s a).1,.int .i64 (Bd.line s a).2]∧w=w'):=by
 refine aO fun K hK=>xS ?_;unfold pF iN dx gtx gfx etx efx;rw[bF Ym];unfold Bd.line at hK;cases hd:s.drop a with
|nil=>
  have hl:(a:Int)=s.length:=by
   have:=congrArg List.length hd;rw[Yv] at this;simp at this;omega
  rw[hd] at hK;simp only[rs,Yk hl,g_un,i_t];exact hK _ _ ⟨rfl,rfl⟩
|cons c t=>
  have hlen:=congrArg List.length hd;rw[Yv,Yr] at hlen;have hl:¬(a:Int)=s.length:=by omega
  rw[hd] at hK;simp only at hK;have hfr:∀{PK:PKT} {K:VWP},DoX prog (aT 9 (.string ⟨s.toArray⟩) (some (.int .i64 (a:Int))) none none) w PK K=K (.string ⟨(c::t).toArray⟩) w:=by
   intro PK K;rw[CA Ym (by omega) (by omega),Yo,hd]
  have en1:∀{PK:PKT} {K:VWP} {xo yo:Operand},DoX prog (mEq .eql 9 xo yo (.string ⟨(c::t).toArray⟩) (.string ⟨#[13]⟩)) w PK K=K (.bool (decide (c::t=[13]))) w:=IY (b:=[13]);simp only[rs,Yl hl,hfr,en1,g_un];by_cases h13:c=13∧t=[]
  ·have e13:c::t=[13]:=by rw[h13.1,h13.2]
   rw[Yh h13] at hK;simp only[Yk e13,i_t];exact hK _ _ ⟨rfl,rfl⟩
  have e13:¬c::t=[13]:=fun e=>by injection e with e1 e2;exact h13 ⟨e1,e2⟩
  rw[Yg h13] at hK;simp only[Yl e13,i_f];have hi0:s[a]?=some c:=by
   have:=Zg (xs:=s) (i:=a) (j:=0);rw[hd] at this;simpa using this.symm
  have ix0:∀{PK:PKT} {K:VWP},DoX prog (mIx 9 (.string ⟨s.toArray⟩) (.int .i64 (a:Int))) w PK K=K (.int .u8 (c.toNat:Int)) w:=aU (gE Ym (by omega) (by rw[Yo];exact hi0));rw[ix0];have u10:=u8d c 10 10 rfl;simp only[rs,u10];by_cases h10:c=10
  ·rw[Yh h10] at hK;simp only[Yk h10,i_t];rw[aB (by omega) (by omega)];exact hK _ _ ⟨by simp,rfl⟩
  rw[Yg h10] at hK;simp only[Yl h10,i_f];rw[aB (by omega) (by omega)];have hsl:∀{PK:PKT} {K:VWP},DoX prog (aT 9 (.string ⟨s.toArray⟩) (some (.int .i64 (a:Int))) (some (.int .i64 ((a:Int)+1))) none) w PK K=K (.string ⟨([c]:List UInt8).toArray⟩) w:=by
   intro PK K;rw[Bt Ym (by omega) (by omega) (by omega),Yo,hd,show ((a:Int)+1).toNat - a=1 by omega];rfl
  have en2:∀{PK:PKT} {K:VWP} {xo yo:Operand},DoX prog (mEq .eql 9 xo yo (.string ⟨([c]:List UInt8).toArray⟩) (.string ⟨#[13]⟩)) w PK K=K (.bool (decide ([c]=[13]))) w:=IY (b:=[13]);rw[hsl,en2];by_cases hc13:c=13
  case neg=>
   have e2:¬[c]=[13]:=fun e=>by injection e with e1 _;exact hc13 e1
   rw[Yg (fun h=>hc13 h.1)] at hK;simp only[rs,Yl e2,g_un,i_f];exact hK _ _ ⟨rfl,rfl⟩
  subst hc13;cases t with
 |nil=>exact absurd ⟨rfl,rfl⟩ h13
 |cons c2 t2=>
   have hi1:s[a+1]?=some c2:=by
    have:=Zg (xs:=s) (i:=a) (j:=1);rw[hd] at this;simpa using this.symm
   have ix1:∀{PK:PKT} {K:VWP},DoX prog (mIx 9 (.string ⟨s.toArray⟩) (.int .i64 ((a:Int)+1))) w PK K=K (.int .u8 (c2.toNat:Int)) w:=aU (gE Ym (by omega) (by rw[show ((a:Int)+1).toNat=a+1 by omega];exact hi1));have v10:=u8d c2 10 10 rfl;have hw1:IntKind.wrap .i64 ((a:Int)+1)=(a:Int)+1:=aB (by omega) (by omega);simp only[rs,Yj,hw1,ix1,v10];by_cases h2:c2=10
   ·subst h2;rw[Yh ⟨rfl,rfl⟩] at hK;simp only[Yj,i_t];rw[aB (by simp only[Yr] at hlen;omega) (by simp only[Yr] at hlen;omega)];exact hK _ _ ⟨by simp,rfl⟩
   ·rw[Yg (fun h=>h2 (ZT h.2))] at hK;simp only[Yl h2,i_f];exact hK _ _ ⟨rfl,rfl⟩
end
section
open Eng Go.RowKit
theorem KR (s:List UInt8)(a:Nat)(len:Int)(o:Ob)(v:Value)(M:Mem)(w:World)(ha:a≤s.length)(hs:s.length≤1000000000)(h7:o.k=7)(hc:Vl.check 1 o=0)(hw:o.wt≤1000000000)(hM:M.has w)(hv:OV M.A M.w v o) :
  RetM prog 33 #[.string ⟨s.toArray⟩,.int .i64 a,.int .i64 len,v] M w (objR (Bd.stream s a len o)):=by
 obtain⟨vk,vc,cs,rfl,hat⟩:=hv.open;refine cM hM fun K hK=>vB ?_;unfold oA iN dx cx;refine cY o hat.keys.one hat.kids.one (OwnS.memS hM) fun b7 w1 ho=>?_;refine bN ho fun b8 w2 ho=>?_;have hst:=Bd.stream.eq_1 s a len o;refine c_eq (KX s a w2 ha (by omega)) ?_;simp only[ex,fM];by_cases hl:(Bd.line s a).2=0
 case neg=>
  rw[Yh hl] at hst;simp only[Yk (show (Bd.line s a).2≠0 from hl),i_t];refine oR 0 ho rfl fun w' ho=>?_;refine hK _ _ M _ 2 ho rfl M.le_refl ?_;rw[hst];exact⟨_,rfl,eZ⟩
 rw[Yg (by simp[hl])] at hst;have hlm:=(Bd.LL [] ha hl).2;simp only[hl,show decide ((0:Int)≠0)=false by decide,i_f,ob_v ho 1 rfl];generalize (Bd.line s a).1=d at *;refine eD ho 2 rfl (MH o _ len M w2 (by omega) (ho.hasM 2 rfl) hv) ?_;rintro _ N w3 hle rfl ho;simp only[ex,fM];by_cases hz:(Bd.size o len).2=0
 case neg=>
  rw[Yh hz] at hst;simp only[Yk (show (Bd.size o len).2≠0 from hz),i_t];refine oR 0 ho rfl fun w' ho=>?_;refine hK _ _ N _ 2 ho rfl hle ?_;rw[hst];exact⟨_,rfl,eZ⟩
 rw[Yg (by simp[hz])] at hst;have hn0:=Bd.R8 hz;simp only[hz,show decide ((0:Int)≠0)=false by decide,i_f,rs];generalize (Bd.size o len).1=n at *;by_cases h1:n>1048576
 ·rw[Yh h1] at hst;simp only[Yk h1,i_t];refine oR 0 ho rfl fun w' ho=>?_;refine hK _ _ N _ 2 ho rfl hle ?_;rw[hst];exact⟨_,rfl,eZ⟩
 rw[Yg h1] at hst;simp only[Yl h1,i_f,bF Ym,rs];rw[aB (by omega) (by omega)];by_cases h2:n>(s.length:Int) - d
 ·rw[Yh h2] at hst;simp only[Yk h2,i_t];refine oR 0 ho rfl fun w' ho=>?_;refine hK _ _ N _ 2 ho rfl hle ?_;rw[hst];exact⟨_,rfl,eZ⟩
 rw[Yg h2] at hst;simp only[Yl h2,i_f,ob_v ho 1 rfl];refine eD ho 2 rfl (OR o _ Vl.lenK N w3 h7 hc hw (ho.hasM 2 rfl) (hv.le hle)) fun y N2 w4 hle2 hy ho=>?_;have hwo:Bd.strm o ((s.drop d).take n.toNat)=.mk 9 (Vl.bD o Vl.lenK).n (Vl.bD o Vl.lenK).g ((s.drop d).take n.toNat) (Vl.bD o Vl.lenK).keys (Vl.bD o Vl.lenK).kids:=rfl;generalize Vl.bD o Vl.lenK=x at *;obtain⟨yk,yc,ycs,rfl,hya⟩:=hy.open;refine bN ho fun b15 w5 ho=>?_;refine aQ 0 hya.keys.one hya.kids.one ho rfl fun w6 ho=>?_;have ho:OwnS M.A w w6 [obE b15 x yk yc,obE b8 ob0 nilS nilS,obE b7 o vk vc,.mem N2]:=ho;refine quiet ?_;refine p_do (.int .i64 ((d:Int)+n)) (fun _=>by rw[EX,aB (by omega) (by omega)]) ?_;refine p_do (.string ⟨((s.drop d).take n.toNat).toArray⟩) (fun W=>by
  have:=wE (P:=prog) (w:=W) (T:=9) (a:=s) (k:=.i64) (k':=.i64) (lo:=(d:Int)) (hi:=(d:Int)+n) Ym (by omega) (by omega) (by omega);rw[show (d:Int).toNat=d by omega,show ((d:Int)+n).toNat - d=n.toNat by omega] at this;exact this) ?_
 refine q_do (.pointer (some ⟨b15,0,none⟩)) (fun _=>bC U4) ?_;intro w7 hb;have ho:=ho.grow hb;refine aW 0 ho rfl (by kernel_rfl) rfl (show 0 < 6 by omega) fun w8 ho=>?_;rw[Cd];refine aW 0 ho rfl (by kernel_rfl) rfl (show 0+3 < 6 by omega) fun w9 ho=>?_;have ho:OwnS M.A w w9 [obE b15 (Bd.strm o ((s.drop d).take n.toNat)) yk yc,obE b8 ob0 nilS nilS,obE b7 o vk vc,.mem N2]:=by rw[hwo];exact ho
 have hsv:OV N2.A N2.w (obV (Bd.strm o ((s.drop d).take n.toNat)) yk yc) (Bd.strm o ((s.drop d).take n.toNat)):=by
  rw[hwo];exact ObAt.ov (o:=.mk 9 x.n x.g ((s.drop d).take n.toNat) x.keys x.kids) (vk:=yk) (vc:=yc) (cs:=ycs) ⟨hya.keys,hya.kids,hya.all⟩
 rw[aB (by omega) (by omega)];refine aP ho (R:=fun v=>v=.tuple #[.int .i64 (Bd.word s ((d:Int)+n) Bd.bX).1,.int .i64 (Bd.word s ((d:Int)+n) Bd.bX).2]) (qT s _ Bd.bX w9 (by omega)) ?_;rintro _ w10 rfl ho;simp only[ex,fM];by_cases he:(Bd.word s ((d:Int)+n) Bd.bX).2=0
 case neg=>
  rw[Yh he] at hst;simp only[Yk (show (Bd.word s ((d:Int)+n) Bd.bX).2≠0 from he),i_t];refine oR 1 ho rfl fun w' ho=>?_;refine hK _ _ N2 _ 3 ho rfl (hle.trans hle2) ?_;rw[hst];exact⟨_,rfl,eZ⟩
 rw[Yg (by simp[he])] at hst;simp only[he,show decide ((0:Int)≠0)=false by decide,i_f,ob_v ho 0 rfl];refine aQ 1 hsv.oneK hsv.oneC ho rfl fun w11 ho=>?_;refine yK (aX (ho.agg 1 rfl dM)) eF eF (hK _ _ N2 _ 3 ho rfl (hle.trans hle2) ?_);rw[hst];exact⟨_,rfl,hsv⟩
end
section
open Eng Go.RowKit
theorem Kq (s:List UInt8)(a:Int)(M:Mem)(w:World)(hs:s.length≤20000)(hM:M.has w):RetM prog 12 #[.string ⟨s.toArray⟩,.int .i64 a] M w (fun v N=>∃u,v=errV u (Bd.length s a).2∧OV N.A N.w u (Bd.length s a).1):=by
 refine cM hM fun K hK=>uI ?_;unfold mZ iN dx gfx efx cx;refine bN (OwnS.memS hM) fun b4 w1 ho=>?_;have hread:=Bd.length.eq_1 s a;have fail:∀{W:World} {N:Mem} {e:Int} {L:List Ent},OwnS M.A w W (L++([obE b4 ob0 nilS nilS,.mem N]++[]))→M.le N→Bd.length s a=(Vl.ob0,e)→DoX prog (aJ 25 #[]) W (pk K) fun t27 w=>DoX prog (aC 25 (.pointer (some ⟨b4,0,none⟩)) t27) w (pk K) fun _ w=>RetX prog [.cell (.pointer (some ⟨b4,0,none⟩)) 25,.val (.int .i64 e)] w K:=by
  intro W N e L ho hle h;have ho:=ho.front;rw[D3];refine aQ 0 rfl rfl ho rfl fun w4 ho=>?_;refine dQ 0 ho rfl (hK _ _ N _ 1 ho rfl hle ?_);rw[h];exact⟨_,rfl,eZ⟩
 refine aP ho (R:=fun v=>v=hdV (Bd.head s a)) (CZ s a w1 (by omega)) ?_;rintro _ w2 rfl ho;simp only[hdV,ex,fM];by_cases hz:(Bd.head s a).e=0
 case neg=>
  rw[Yh hz] at hread;simp only[Yk (show (Bd.head s a).e≠0 from hz),i_t];exact fail (L:=[]) ho M.le_refl hread
 rw[Yg (by simp[hz])] at hread;have hhb:=Bd.JZ hz;simp only[hz,show decide ((0:Int)≠0)=false by decide,i_f];generalize Bd.head s a=hd at *;refine eD ho 1 rfl (En s hd.t (by omega) M w2 (ho.hasM 1 rfl)) ?_;rintro _ N w3 hle ⟨u,rfl,hu⟩ ho;obtain⟨xk,xc,xcs,rfl,hx⟩:=hu.open;simp only[ex,fM];refine bN ho fun b10 w4 ho=>?_;refine aQ 0 hx.keys.one hx.kids.one ho rfl fun w5 ho=>?_;by_cases hz2:(Ps.object s hd.t).2.2=0
 case neg=>
  rw[Yh hz2] at hread;simp only[Yk (show (Ps.object s hd.t).2.2≠0 from hz2),i_t];exact fail (L:=[_]) ho hle hread
 rw[Yg (by simp[hz2])] at hread;have hwt:(Ps.object s hd.t).1.wt≤1000000000:=by
  have hz3:=hz2;unfold Ps.object at hz3 ⊢;split at hz3
  ·simp[Ps.bad] at hz3
  ·rename_i hb
   rw[Yg hb];have h1:=Ps.LS s 24 hd.t hz3;have h2:=Ps.Dv hz3;omega
 simp only[hz2,show decide ((0:Int)≠0)=false by decide,i_f];generalize Ps.object s hd.t=x at *;have ho:OwnS M.A w w5 [obE b10 x.1 xk xc,obE b4 ob0 nilS nilS,.mem N]:=ho;refine aP ho (R:=fun v=>v=.tuple #[.int .i64 (Bd.word s x.2.1 Bd.bI).1,.int .i64 (Bd.word s x.2.1 Bd.bI).2]) (qT s _ Bd.bI w5 (by omega)) ?_;rintro _ w6 rfl ho;simp only[ex];by_cases h7:x.1.k=7
 case neg=>
  rw[Yh (.inl h7)] at hread;simp only[rs,cN,ob_k ho 0 rfl,Yk (show x.1.k≠7 from h7),g_un,i_t];exact fail (L:=[_]) ho hle hread
 by_cases hw:(Bd.word s x.2.1 Bd.bI).2=0
 case neg=>
  rw[Yh (.inr hw)] at hread;simp only[rs,cN,ob_k ho 0 rfl,h7,show decide ((7:Int)≠7)=false by decide,fM,Yk (show (Bd.word s x.2.1 Bd.bI).2≠0 from hw),g_un,i_t];exact fail (L:=[_]) ho hle hread
 rw[Yg (by simp[h7,hw])] at hread;simp only[rs,cN,ob_k ho 0 rfl,h7,show decide ((7:Int)≠7)=false by decide,fM,hw,show decide ((0:Int)≠0)=false by decide,g_un,i_f,ob_v ho 0 rfl];refine eD ho 2 rfl (Nr x.1 _ Vl.lenK N w6 (by omega) (ho.hasM 2 rfl) hx.ov) ?_;rintro _ N2 w7 hle2 ⟨u,rfl,hu⟩ ho;obtain⟨yk,yc,ycs,rfl,hy⟩:=hu.open;simp only[getV,ex];refine bN ho fun b15 w8 ho=>?_;refine aQ 0 hy.keys.one hy.kids.one ho rfl fun w9 ho=>?_;rw[ob_v ho 0 rfl];refine aQ 2 hy.keys.one hy.kids.one ho rfl fun w10 ho=>?_;refine dQ 2 ho rfl (hK _ _ N2 _ 3 ho rfl (hle.trans hle2) ?_);rw[hread];exact⟨_,rfl,hy.ov⟩
theorem Kj:∀(n:Nat) (w:World),n≤9223372036854775807→Ret prog 54 #[.int .i64 n] w (fun v w'=>v=.string ⟨(Lib.decDigits n).toArray⟩∧w=w'):=by
 intro n
 induction n using Nat.strongRecOn with
|_ n ih=>
  intro w hn;refine aO fun K hK=>uB ?_;unfold mJ iN dx cx;have hr:((n:Int).tmod 10)=((n % 10:Nat):Int):=by rw[Zl (by omega)];omega
  have hq:((n:Int).tdiv 10)=((n / 10:Nat):Int):=by rw[Zw (by omega)];omega
  simp only[EC (show (10:Int)≠0 by omega),Gr (show (10:Int)≠0 by omega),hr,hq,rs];rw[aB (n:=((n % 10:Nat):Int)+1) (by omega) (by omega)];change DoX prog (aT 9 (.string ⟨([48,49,50,51,52,53,54,55,56,57]:List UInt8).toArray⟩) _ _ _) _ _ _;rw[Bt Ym (by omega) (by omega) (by simp only[Yr,YG];omega)];have hp:=KW ⟨n % 10,by omega⟩;simp only at hp;rw[show (((n % 10:Nat):Int)+1).toNat=n % 10+1 by omega,Yo,hp];by_cases h10:(n:Int) < 10
  ·simp only[h10,Yj,i_t];refine hK _ _ ⟨?_,rfl⟩;rw[Lib.decDigits,dif_pos (by omega),show n % 10=n by omega]
  ·simp only[h10,Yi,i_f];rw[aB (by omega) (by omega)];refine c_eq (ih (n / 10) (by omega) w (by omega)) ?_;have hl:=vV (n / 10) (by omega);rw[kW (by simp;omega)];refine hK _ _ ⟨?_,rfl⟩;rw[Lib.decDigits.eq_1 n,dif_neg (by omega)]
theorem Ji (n:Int)(w:World)(h0:0≤n)(h1:n≤9223372036854775807):Ret prog 54 #[.int .i64 n] w (fun v w'=>v=.string ⟨(Lib.itoa n).toArray⟩∧w=w'):=by
 obtain⟨u,rfl⟩:∃u:Nat,n=u:=⟨n.toNat,by omega⟩;have e:Lib.itoa (u:Int)=Lib.decDigits u:=by unfold Lib.itoa;rw[Yg (by omega),Yo]
 rw[e];exact Kj u w (by omega)
end
section
open Eng Go.RowKit
theorem VY {P:Program}{w:World}{T:TypeId}{k:IntKind}{a b:Int}:(mBin .leq T (.int k a) (.int k b)).run P w=.ok (.value (.bool (decide (a≤b)))) w:=bW (by simp[binOp,Op.intCmp])
def Bd.stE (s:List UInt8)(a:Nat)(len:Int)(o:Ob):Int:=if (Bd.stream s a len o).2.2≠0 then (Bd.stream s a len o).2.2 else (Bd.word s (Bd.stream s a len o).2.1 Bd.fY).2
theorem Ni (b:Nat)(s:List UInt8)(a:Nat)(len:Int)(o:Ob)(v:Value)(M:Mem)(w:World)(ha:a≤s.length)(hs:s.length≤1000000000)(h7:o.k=7)(hc:Vl.check 1 o=0)(hw:o.wt≤1000000000)(hv:OV M.A M.w v o)(hr:(Ent.two (brE b s a) (.mem M)).is w) :
  Lent prog 30 #[rdP b,v,.int .i64 len] (brE b s a) M w (Bd.stE s a len o=0) (brE b s (Bd.word s (Bd.stream s a len o).2.1 Bd.fY).1) (fun r N=>OV N.A N.w r (Bd.stream s a len o).1) [upE (Bd.stE s a len o)]:=by
 obtain⟨vk,vc,cs,rfl,hat⟩:=hv.open;refine Be (fun K ho hret hpan=>vY ?_) hr;unfold gS iN dx cx;generalize hS0:(Ent.two (brE b s a) (.mem M)).blk=S0 at *;have fail:∀{e:Int} {W:World} {e2:Ent} {N:Mem} {A:List Ent},Bd.stream s a len o=(Vl.ob0,0,e)→e≠0→OwnS S0 w W (A++([e2,.mem N]++[]))→M.le N→K (.panicked [upE e]) W:=by
  intro e W e2 N A h h0 ho hle;have hE:Bd.stE s a len o=e:=by
   unfold Bd.stE;rw[h,Yh h0]
  rw[hE] at hpan;exact hpan h0 _ N W _ ho.front hle
 refine cY o hat.keys.one hat.kids.one ho fun b4 w1 ho=>?_;refine bN ho fun b6 w2 ho=>?_;have ho:OwnS S0 w w2 [obE b6 ob0 nilS nilS,obE b4 o vk vc,brE b s a,.mem M]:=ho;have hst:=Bd.stream.eq_1 s a len o;refine yI ho 2 rfl (Rm b s a w2 ha (by omega) (ho.at_ 2 rfl)) ?_ fun e2 w3 hn ho=>?_
 rotate_left
 ·rw[Yh hn] at hst;exact fail (A:=[_,_]) hst hn ho M.le_refl
 rintro _ _ w3 hl ⟨rfl,rfl⟩ ho;rw[Yg (by simp[hl])] at hst;have hlm:=(Bd.LL [] ha hl).2;have ho:OwnS S0 w w3 [obE b6 ob0 nilS nilS,obE b4 o vk vc,brE b s (Bd.line s a).1,.mem M]:=ho;generalize (Bd.line s a).1=d at *;refine join fun J hJ=>?_;have go:∀{W:World} {N:Mem} {n:Int},OwnS S0 w W [obE b6 ob0 nilS nilS,obE b4 o vk vc,brE b s d,.mem N]→M.le N→Bd.size o len=(n,0)→0≤n→J [.int .i64 n] W:=by
  intro W N n ho hle hsz hn0;refine hJ _ _ fun _=>?_;simp only[gd];rw[hsz] at hst;rw[Yg (by simp)] at hst;simp only at hst;unfold lN iN dx cx;simp only[rs];refine dP (fun h=>?_) fun h=>?_
  rotate_left
  ·have h1:1048576 < n:=by have:=Y5 h;omega
   rw[Yh h1] at hst;exact fail (A:=[_,_]) hst (by decide) ho hle
  have h1:n≤1048576:=YF h;rw[Yg (by omega)] at hst;refine quiet ?_;refine q_do _ (fun _=>eY) (q_do _ (fun _=>bC fbr0) (q_at _ (fun _ hb=>br_s ((ho.grow hb).at_ 2 rfl)) ?_));refine q_do _ (fun _=>Ki Ym) ?_;refine q_do _ (fun _=>eY) (q_do _ (fun _=>bC fbr1) (q_at _ (fun _ hb=>br_a ((ho.grow hb).at_ 2 rfl)) ?_));refine q_do (.int .i64 ((s.length:Int) - d)) (fun _=>by rw[T9,aB (by omega) (by omega)]) ?_;refine q_do (.bool (decide (n≤(s.length:Int) - d))) (fun _=>VY) ?_;intro w4 hb;have ho:=ho.grow hb;refine dP (fun h=>?_) fun h=>?_
  rotate_left
  ·have h2:(s.length:Int) - d < n:=by have:=Y5 h;omega
   rw[Yh h2] at hst;exact fail (A:=[_,_]) hst (by decide) ho hle
  have h2:n≤(s.length:Int) - d:=YF h;rw[Yg (by omega)] at hst;refine quiet ?_;refine q_do _ (fun _=>eY) (q_do _ (fun _=>bC fbr0) (q_at _ (fun _ hb=>br_s ((ho.grow hb).at_ 2 rfl)) ?_));refine q_do _ (fun _=>eY) (q_do _ (fun _=>bC fbr1) (q_at _ (fun _ hb=>br_a ((ho.grow hb).at_ 2 rfl)) ?_));refine q_do _ (fun _=>eY) (q_do _ (fun _=>bC fbr1) (q_at _ (fun _ hb=>br_a ((ho.grow hb).at_ 2 rfl)) ?_));refine q_do (.int .i64 ((d:Int)+n)) (fun _=>by rw[EX,aB (by omega) (by omega)]) ?_;refine q_do (.string ⟨((s.drop d).take n.toNat).toArray⟩) (fun _=>by
   have:=wE (P:=prog) (w:=‹World›) (T:=9) (a:=s) (k:=.i64) (k':=.i64) (lo:=(d:Int)) (hi:=(d:Int)+n) Ym (by omega) (by omega) (by omega);rw[show (d:Int).toNat=d by omega,show ((d:Int)+n).toNat - d=n.toNat by omega] at this;exact this) ?_
  intro w5 hb;have ho:=ho.grow hb
  try simp only[rs]
  rw[Hu];refine aU (br_a (ho.at_ 2 rfl)) |>.mpr ?_;simp only[rs];rw[aB (by omega) (by omega),Hu];refine NP (a':=(d:Int)+n) 2 ho rfl fun w6 ho=>?_;have ho:OwnS S0 w w6 [obE b6 ob0 nilS nilS,obE b4 o vk vc,brE b s ((d:Int)+n),.mem N]:=ho;refine yI ho 2 rfl (Ix b s _ Bd.bX w6 (by omega) (ho.at_ 2 rfl)) ?_ fun e2 w7 hn ho=>?_
  rotate_left
  ·rw[Yh hn] at hst;exact fail (A:=[_,_]) hst hn ho hle
  rintro _ _ w7 hz ⟨rfl,rfl⟩ ho;rw[Yg (by simp[hz])] at hst;have hE:Bd.stE s a len o=(Bd.word s (Bd.word s ((d:Int)+n) Bd.bX).1 Bd.fY).2:=by
   unfold Bd.stE;rw[hst];simp
  rw[hE,hst] at hret;rw[hE] at hpan;simp only at hret;refine yI ho 2 rfl (Ix b s _ Bd.fY w7 (by omega) (ho.at_ 2 rfl)) ?_ fun e2 w8 hn ho=>?_
  rotate_left
  ·have ho:OwnS S0 w w8 ([obE b6 ob0 nilS nilS,obE b4 o vk vc]++([e2,.mem N]++[])):=ho;exact hpan hn _ N w8 _ ho.front hle
  rintro _ _ w8 hz2 ⟨rfl,rfl⟩ ho;rw[ob_v ho 1 rfl];refine eD ho 3 rfl (Mt o _ ((s.drop d).take n.toNat) N w8 h7 hc (by rw[YC];omega) hw (ho.hasM 3 rfl) (hv.le hle)) ?_;rintro _ N2 w9 hle2 ⟨u,rfl,hu⟩ ho;obtain⟨xk,xc,xcs,rfl,hx⟩:=hu.open;simp only[errV,ex];refine Ow hx.keys.one hx.kids.one ho (fun _ w10 ho=>?_) fun h=>absurd rfl h;refine aQ 0 hx.keys.one hx.kids.one ho rfl fun w11 ho=>?_;refine eG (aX (ho.agg 0 rfl dM)) ?_;have ho:OwnS S0 w w11 ([obE b6 (Bd.strm o ((s.drop d).take n.toNat)) xk xc,obE b4 o vk vc]++([brE b s (Bd.word s (Bd.word s ((d:Int)+n) Bd.bX).1 Bd.fY).1,.mem N2]++[])):=ho;exact hret hz2 _ N2 w11 _ ho.front (hle.trans hle2) hx.ov
 simp only[rs];by_cases hneg:len < 0
 ·simp only[Yk hneg,i_t];rw[ob_v ho 1 rfl];have hsz:Bd.size o len=Bd.own o:=by unfold Bd.size;rw[Yg (by omega)]
  refine Wy 3 (by omega) ho rfl hv (fun hz N w4 hle ho=>?_) fun hz N w4 hle ho=>?_
  ·have ho:OwnS S0 w w4 [obE b6 ob0 nilS nilS,obE b4 o vk vc,brE b s d,.mem N]:=ho;have hnn:=Bd.R8 (o:=o) (len:=len) (by rw[hsz];exact hz);rw[hsz] at hnn;exact go ho hle (by rw[hsz,←hz]) hnn
  ·have ho:OwnS S0 w w4 [obE b6 ob0 nilS nilS,obE b4 o vk vc,brE b s d,.mem N]:=ho;rw[hsz,Yh hz] at hst;exact fail (A:=[_,_]) hst hz ho hle
 ·simp only[Yl hneg,i_f];exact go ho M.le_refl (by unfold Bd.size;rw[Yh (by omega)]) (by omega)
end
section
open Eng Go.RowKit
theorem F3:dN prog 23=true:=by kernel_rfl
def itmR (r:It×Int×Int)(v:Value)(N:Mem):Prop:=∃vk vc,v=.tuple #[itV r.1 vk vc,.int .i64 r.2.1,.int .i64 r.2.2]∧OV N.A N.w (obV r.1.obj vk vc) r.1.obj
theorem R5 (s:List UInt8)(a len:Int)(M:Mem)(w:World)(hs:s.length≤20000)(hM:M.has w):RetM prog 9 #[.string ⟨s.toArray⟩,.int .i64 a,.int .i64 len] M w (itmR (Bd.read s a len)):=by
 refine cM hM fun K hK=>IH ?_;unfold CX iN dx;refine P1 (OwnS.memS hM) fun b6 w1 ho=>?_;refine cI (fun b=>.pointer (some ⟨b,0,none⟩)) [.int .i64 0] 3 (fun _=>by kernel_rfl) ho fun b7 w2 ho=>?_;refine cI (fun b=>.pointer (some ⟨b,0,none⟩)) [.int .i64 0] 30 (fun _=>by kernel_rfl) ho fun b8 w3 ho=>?_;have ho:OwnS M.A w w3 ([errE b8 0,ciE b7 0,itE b6 Dk.it0 nilS nilS]++[.mem M]):=ho;have ho:=ho.perm Z8;have ho:OwnS M.A w w3 [.mem M,errE b8 0,ciE b7 0,itE b6 Dk.it0 nilS nilS]:=ho;rw[Er];refine⟨_,rfl,?_⟩;have fail:∀{W:World} {L:List Ent} {x y e:Int} {it:It} {vk vc:Value} {N:Mem},OwnS M.A w W (L++([.mem N,errE b8 x,ciE b7 y,itE b6 it vk vc]++[]))→M.le N→e≠0→Bd.read s a len=Bd.bad e →
   aH { target:=.fn (.func 23) #[.pointer (some ⟨b8,0,none⟩),.pointer (some ⟨b6,0,none⟩),.pointer (some ⟨b7,0,none⟩)],args:=#[]++#[] } (.pointer (some ⟨b6,0,none⟩)) (.pointer (some ⟨b7,0,none⟩)) (.pointer (some ⟨b8,0,none⟩)) K [upE e] W:=by
  intro W L x y e it vk vc N ho hle h0 hh;have ho:=ho.front;show pd prog _ K _ [upE e] W;unfold pd;refine iD (by simp) F3 (vM (t0:=.pointer (some ⟨b8,0,none⟩)) (t1:=.pointer (some ⟨b6,0,none⟩)) (t2:=.pointer (some ⟨b7,0,none⟩)) ?_);simp only[xB,recV,recM,upE,cx];refine B4 (e:=e) ho 1 rfl fun w5 ho=>?_;have ho:OwnS M.A w w5 (.mem N::errE b8 e::ciE b7 y::itE b6 it vk vc::(L++[])):=ho;unfold kU iN dx;rw[bE rU (ho.cell 1 rfl 0 rfl)];simp only[rs,Yk (show e≠0 from h0),i_t];rw[Wl];refine FT 3 rfl rfl ho rfl fun w6 ho=>?_;refine aW 2 ho rfl (by kernel_rfl) rfl (by simp) fun w7 ho=>?_;refine yK (aX (ho.agg 3 rfl LH)) (aX (AtV.cell kV (ho.cell 2 rfl 0 rfl))) (aX (AtV.cell rU (ho.cell 1 rfl 0 rfl))) (hK _ _ N _ 0 ho rfl hle ?_);rw[hh];exact⟨nilS,nilS,rfl,eZ⟩
 have hread:=Bd.read.eq_1 s a len;by_cases hr:0≤a∧a≤s.length
 case neg=>
  rw[Yh (by omega)] at hread;refine EU ho (fun h=>absurd h hr) fun _=>fail (L:=[]) ho M.le_refl (by decide) hread
 refine EU ho (fun _ b w4 ho=>?_) fun h=>absurd hr h;have ho:OwnS M.A w w4 [brE b s a,.mem M,errE b8 0,ciE b7 0,itE b6 Dk.it0 nilS nilS]:=ho;simp only[rs];refine dP (fun h=>?_) fun h=>?_
 rotate_left
 ·rw[Yh (by have:=Y5 h;omega)] at hread;exact fail (L:=[_]) ho M.le_refl (by decide) hread
 have hl1:len≥-1:=YF h;rw[Yg (by omega)] at hread;have hh:Bd.head s a=Bd.Co s a:=by unfold Bd.head;rw[Yg (by omega)]
 refine yI ho 0 rfl (H3 b s a w4 (by omega) (ho.at_ 0 rfl)) ?_ fun e2 w5 hn ho=>?_
 rotate_left
 ·rw[←hh] at hn ⊢;rw[Yh hn] at hread;exact fail (L:=[_]) ho M.le_refl hn hread
 rintro _ _ w5 hz ⟨rfl,rfl⟩ ho;rw[←hh] at hz ho ⊢;rw[Yg (by simp[hz])] at hread;have hhb:=Bd.JZ hz;generalize Bd.head s a=hd at *;simp only[ex,EY];refine aW 4 ho rfl (by kernel_rfl) rfl (show 0 < 8 by omega) fun w6 ho=>?_;rw[LQ];refine aW 4 ho rfl (by kernel_rfl) rfl (show 0+1 < 8 by omega) fun w7 ho=>?_;have ho:OwnS M.A w w7 [brE b s hd.t,.mem M,errE b8 0,ciE b7 0,itE b6 ⟨hd.num,hd.gen,Vl.ob0⟩ nilS nilS]:=ho;refine RX ho (Ig b s hd.t M w7 (by omega) (ho.pair.at_ 0 rfl)) ?_ fun e2 w8 hn ho=>?_
 rotate_left
 ·rw[Yh hn] at hread;exact fail (L:=[_]) ho M.le_refl hn hread
 rintro u N w8 hz2 hle hu ho;rw[Yg (by simp[hz2])] at hread;have hck:=Bd.FE hz2;have hwt:(Ps.object s hd.t).1.wt≤1000000000:=by
  unfold Ps.object at hz2 ⊢;split at hz2
  ·simp[Ps.bad] at hz2
  ·rename_i hb
   rw[Yg hb];have h1:=Ps.LS s 24 hd.t hz2;have h2:=Ps.Dv hz2;omega
 generalize Ps.object s hd.t=x at *;obtain⟨xk,xc,xcs,rfl,hx⟩:=hu.open;rw[Cn];refine QX 4 hx.keys.one hx.kids.one ho rfl fun w9 ho=>?_;have ho:OwnS M.A w w9 [brE b s x.2.1,.mem N,errE b8 0,ciE b7 0,itE b6 ⟨hd.num,hd.gen,x.1⟩ xk xc]:=ho;rw[Cn,cN,it_k ho 4 rfl];simp only[rs];refine dP (fun h=>?_) fun h=>?_
 rotate_left
 ·have h8:x.1.k=8:=by simpa using Y5 h
  rw[Yh h8] at hread;exact fail (L:=[_]) ho hle (by decide) hread
 have h8:x.1.k≠8:=YF h;rw[Yg h8] at hread;refine join fun J hJ=>?_;have fin:∀{W:World} {L:List Ent} {N':Mem} {it':It} {yk yc:Value} {t:Int},OwnS M.A w W (L++([brE b s t,.mem N',errE b8 0,ciE b7 0,itE b6 it' yk yc]++[]))→M.le N'→OV N'.A N'.w (obV it'.obj yk yc) it'.obj→Bd.read s a len=(it',t,0)→J [] W:=by
  intro W L N' it' yk yc t ho hle hov hR;refine hJ _ _ fun _=>?_;have ho:=ho.front;unfold Ds iN;have ho:=ho.drew;refine⟨fun W=>(itE b6 it' yk yc).is W∧(brE b s t).is W,⟨ho.at_ 4 rfl,ho.at_ 0 rfl⟩,?_⟩;refine fG (itV it' yk yc) (fun W h=>Qx fun j u hj=>by rw[Yu];exact aV (T:=27) h.1 hj) ?_;refine aZ _ (fun _=>eY) (aZ _ (fun _=>bC fbr1) (fG _ (fun W h=>br_a h.2) ?_));refine FT 4 hov.oneK hov.oneC ho rfl fun w' ho=>⟨⟨ho.at_ 4 rfl,ho.at_ 0 rfl⟩,?_⟩;refine aW 3 ho rfl (by kernel_rfl) rfl (by simp) fun w' ho=>?_;refine aW 2 ho rfl (by kernel_rfl) rfl (by simp) fun w' ho=>?_;refine iD (by simp) F3 (vM (t0:=.pointer (some ⟨b8,0,none⟩)) (t1:=.pointer (some ⟨b6,0,none⟩)) (t2:=.pointer (some ⟨b7,0,none⟩)) ?_);simp only[xB,recV,recM,cx];refine BL ?_;unfold kU iN dx;rw[bE rU (ho.cell 2 rfl 0 rfl)];simp only[rs,show decide ((0:Int)≠0)=false by decide,i_f];refine yK (aX (ho.agg 4 rfl LH)) (aX (AtV.cell kV (ho.cell 3 rfl 0 rfl))) (aX (AtV.cell rU (ho.cell 2 rfl 0 rfl))) (hK _ _ N' _ 1 ho rfl hle ?_);rw[hR];exact⟨yk,yc,rfl,hov⟩
 unfold Bd.body at hread;refine yI ho 0 rfl (He b s x.2.1 w9 (by omega) (ho.at_ 0 rfl)) ?_ fun e2 w10 hn ho=>?_
 rotate_left
 ·have hw:∀wd,(Bd.word s x.2.1 wd).2=tR s x.2.1:=by
   intro wd;unfold Bd.word tR;unfold Has at hn;by_cases hz:(Lx.next s x.2.1).2≠0
   ·rw[Yh hz,Yh hz]
   ·rw[Yg hz,Yg hz,Yh (by
     by_cases hk:(Lx.next s x.2.1).1.k=0
     ·exact hk
     ·exact absurd ⟨by omega,hk⟩ hn)]
  have hl0:tR s x.2.1≠0:=qO;rw[Yg (by rw[hw];exact fun h=>hl0 h.1),Bd.tail,Yh (by rw[hw];exact hl0),hw] at hread;exact fail (L:=[_]) ho hle hl0 hread
 rintro _ _ w10 ⟨hz3,hk3⟩ ⟨rfl,rfl⟩ ho;have hbd:=Lx.eE hz3 hk3;have hw:∀wd,Bd.word s x.2.1 wd=if (Lx.next s x.2.1).1.k≠5∨(Lx.next s x.2.1).1.s≠wd then (0,3) else ((Lx.next s x.2.1).1.t,0):=by
  intro wd;unfold Bd.word;rw[Yg (by simp[hz3]),Yg hk3]
 generalize Lx.next s x.2.1=t1 at *
 refine gJ ho fun b10 w11 ho=>?_;refine jS 0 ho rfl fun w12 ho=>?_;have ho:OwnS M.A w w12 [tokE b10 t1.1,brE b s t1.1.t,.mem N,errE b8 0,ciE b7 0,itE b6 ⟨hd.num,hd.gen,x.1⟩ xk xc]:=ho;have bad3:Bd.read s a len=Bd.bad 3→CallX prog 26 #[.bool false,.int .i64 3] w12 (aH { target:=.fn (.func 23) #[.pointer (some ⟨b8,0,none⟩),.pointer (some ⟨b6,0,none⟩),.pointer (some ⟨b7,0,none⟩)],args:=#[]++#[] } (.pointer (some ⟨b6,0,none⟩)) (.pointer (some ⟨b7,0,none⟩)) (.pointer (some ⟨b8,0,none⟩)) K) fun t35 w=>AtX [{ target:=.fn (.func 23) #[.pointer (some ⟨b8,0,none⟩),.pointer (some ⟨b6,0,none⟩),.pointer (some ⟨b7,0,none⟩)],args:=#[]++#[] }] [{ target:=.fn (.func 23) #[.pointer (some ⟨b8,0,none⟩),.pointer (some ⟨b6,0,none⟩),.pointer (some ⟨b7,0,none⟩)],args:=#[]++#[] }] (J [] w):=by
  intro h;exact dP (fun h=>by cases h) fun _=>fail (L:=[_,_]) ho hle (by decide) h
 by_cases h5:t1.1.k=5
 case neg=>
  rw[Yg (by rw[hw,Yh (.inl h5)];simp),Bd.tail,Yh (by rw[hw,Yh (.inl h5)];decide),hw,Yh (.inl h5)] at hread;simp only[rs,cO,tk_k ho 0 rfl,Yl h5,g_un];exact bad3 hread
 by_cases he:t1.1.s=Bd.fY
 ·have he':t1.1.s=[101,110,100,111,98,106]:=he;have hne:t1.1.s≠Bd.bI:=by rw[he];decide
  have hwe:Bd.word s x.2.1 Bd.fY=(t1.1.t,0):=by rw[hw,Yg (by simp[h5,he])]
  rw[Yg (by rw[hw,Yh (.inr hne)];simp),Bd.tail,hwe,Yg (by simp)] at hread;simp only[rs,cO,tk_k ho 0 rfl,Yk h5,cL,tk_s ho 0 rfl,Yk he'];exact⟨rfl,fin (L:=[_]) ho hle hx.ov hread⟩
 have he':¬t1.1.s=[101,110,100,111,98,106]:=he;by_cases hsw:t1.1.s=Bd.bI
 case neg=>
  have hsw':¬t1.1.s=[115,116,114,101,97,109]:=hsw;rw[Yg (by rw[hw,Yh (.inr hsw)];simp),Bd.tail,Yh (by rw[hw,Yh (.inr he)];decide),hw,Yh (.inr he)] at hread;simp only[rs,cO,tk_k ho 0 rfl,Yk h5,cL,tk_s ho 0 rfl,Yl he',Yl hsw',g_un];exact bad3 hread
 have hsw':t1.1.s=[115,116,114,101,97,109]:=hsw;by_cases h7:x.1.k=7
 case neg=>
  rw[Yg (fun h=>h7 h.2),Bd.tail,Yh (by rw[hw,Yh (.inr he)];decide),hw,Yh (.inr he)] at hread;simp only[rs,cO,tk_k ho 0 rfl,Yk h5,cL,tk_s ho 0 rfl,Yl he',Yk hsw',Cn,cN,it_k ho 5 rfl,Yl h7,g_un];exact bad3 hread
 have hws:Bd.word s x.2.1 Bd.bI=(t1.1.t,0):=by rw[hw,Yg (by simp[h5,hsw])]
 rw[Yh ⟨by rw[hws],h7⟩,hws] at hread;simp only at hread;simp only[rs,cO,tk_k ho 0 rfl,Yk h5,cL,tk_s ho 0 rfl,Yl he',Yk hsw',Cn,cN,it_k ho 5 rfl,Yk h7,Fu ho 5 rfl];have ho:=ho.tail;obtain⟨n,hn⟩:∃n:Nat,t1.1.t=n:=⟨t1.1.t.toNat,by omega⟩;rw[hn] at hread ho;rw[Yo] at hread;refine RX ho (Ni b s n len x.1 _ N w12 (by omega) (by omega) h7 hck hwt hx.ov (ho.pair.at_ 0 rfl)) ?_ fun e2 w13 hE ho=>?_
 rotate_left
 ·refine fail (L:=[_]) ho hle hE ?_;rw[hread];unfold Bd.stE at hE ⊢;by_cases hs2:(Bd.stream s n len x.1).2.2≠0
  ·rw[Yh hs2,Yh hs2]
  ·rw[Yg hs2] at hE;rw[Yg hs2,Yg hs2,Bd.tail,Yh hE]
 rintro u N2 w13 hE hle2 hu ho;obtain⟨yk,yc,ycs,rfl,hy⟩:=hu.open;refine QX 4 hy.keys.one hy.kids.one ho rfl fun w14 ho=>?_;refine⟨rfl,fin (L:=[]) ho (hle.trans hle2) hy.ov ?_⟩;rw[hread];unfold Bd.stE at hE;have hs2:¬(Bd.stream s n len x.1).2.2≠0:=fun h=>by rw[Yh h] at hE;exact h hE
 rw[Yg hs2] at hE;rw[Yg hs2,Bd.tail,Yg (by simp[hE])]
end
section
open Eng Go.RowKit
theorem Mq (s:List UInt8)(a len:Int)(M:Mem)(w:World)(hs:s.length≤20000)(hM:M.has w):RetM prog 10 #[.string ⟨s.toArray⟩,.int .i64 a,.int .i64 len] M w (itmR (Bd.read s a len)):=by
 refine cM hM fun K hK=>Aa ?_;unfold iP iN dx gtx gfx efx cx;refine P1 (OwnS.memS hM) fun b6 w1 ho=>?_;have hread:=Bd.read.eq_1 s a len;have fail:∀{W:World} {N:Mem} {e:Int} {L:List Ent},OwnS M.A w W (L++([itE b6 Dk.it0 nilS nilS,.mem N]++[]))→M.le N→Bd.read s a len=Bd.bad e→DoX prog (aJ 27 #[]) W (pk K) fun t27 w=>DoX prog (aC 27 (.pointer (some ⟨b6,0,none⟩)) t27) w (pk K) fun _ w=>RetX prog [.cell (.pointer (some ⟨b6,0,none⟩)) 27,.val (.int .i64 0),.val (.int .i64 e)] w K:=by
  intro W N e L ho hle h;have ho:=ho.front;rw[Wl];refine FT 0 rfl rfl ho rfl fun w4 ho=>?_;refine yK (aX (ho.agg 0 rfl LH)) eF eF (hK _ _ N _ 1 ho rfl hle ?_);rw[h];exact⟨nilS,nilS,rfl,eZ⟩
 by_cases h1:a < 0
 ·rw[Yh (.inl h1)] at hread;simp only[rs,Yk h1,g_un,i_t];exact fail (L:=[]) ho M.le_refl hread
 by_cases h2:a>(s.length:Int)
 ·rw[Yh (.inr (.inl h2))] at hread;simp only[rs,Yl h1,bF Ym,Yk h2,g_un,i_t];exact fail (L:=[]) ho M.le_refl hread
 by_cases h3:len < -1
 ·rw[Yh (.inr (.inr h3))] at hread;simp only[rs,Yl h1,bF Ym,Yl h2,Yk h3,g_un,i_t];exact fail (L:=[]) ho M.le_refl hread
 rw[Yg (by omega)] at hread;simp only[rs,Yl h1,bF Ym,Yl h2,Yl h3,g_un,i_f];refine aP ho (R:=fun v=>v=hdV (Bd.head s a)) (CZ s a w1 (by omega)) ?_;rintro _ w2 rfl ho;simp only[hdV,ex,fM];by_cases hz:(Bd.head s a).e=0
 case neg=>
  rw[Yh hz] at hread;simp only[Yk (show (Bd.head s a).e≠0 from hz),i_t];exact fail (L:=[]) ho M.le_refl hread
 rw[Yg (by simp[hz])] at hread;have hhb:=Bd.JZ hz;simp only[hz,show decide ((0:Int)≠0)=false by decide,i_f];generalize Bd.head s a=hd at *;refine eD ho 1 rfl (En s hd.t (by omega) M w2 (ho.hasM 1 rfl)) ?_;rintro _ N w3 hle ⟨u,rfl,hu⟩ ho;obtain⟨xk,xc,xcs,rfl,hx⟩:=hu.open;simp only[ex,fM];refine bN ho fun b13 w4 ho=>?_;refine aQ 0 hx.keys.one hx.kids.one ho rfl fun w5 ho=>?_;by_cases hz2:(Ps.object s hd.t).2.2=0
 case neg=>
  rw[Yh hz2] at hread;simp only[Yk (show (Ps.object s hd.t).2.2≠0 from hz2),i_t];exact fail (L:=[_]) ho hle hread
 rw[Yg (by simp[hz2])] at hread;have hck:=Bd.FE hz2;have hwt:(Ps.object s hd.t).1.wt≤1000000000:=by
  have hz3:=hz2;unfold Ps.object at hz3 ⊢;split at hz3
  ·simp[Ps.bad] at hz3
  ·rename_i hb
   rw[Yg hb];have h1:=Ps.LS s 24 hd.t hz3;have h2:=Ps.Dv hz3;omega
 simp only[hz2,show decide ((0:Int)≠0)=false by decide,i_f];generalize Ps.object s hd.t=x at *;have ho:OwnS M.A w w5 [obE b13 x.1 xk xc,itE b6 Dk.it0 nilS nilS,.mem N]:=ho;simp only[cN,ob_k ho 0 rfl,rs];by_cases h8:x.1.k=8
 ·rw[Yh h8] at hread;simp only[Yk h8,i_t];exact fail (L:=[_]) ho hle hread
 rw[Yg h8] at hread;simp only[Yl h8,i_f];unfold Bd.body at hread;refine aP ho (R:=fun v=>v=.tuple #[.int .i64 (Bd.word s x.2.1 Bd.bI).1,.int .i64 (Bd.word s x.2.1 Bd.bI).2]) (qT s _ Bd.bI w5 (by omega)) ?_;rintro _ w6 rfl ho;simp only[ex];refine join fun J hJ=>?_;have fin:∀{W:World} {N':Mem} {L:List Ent} {y:Ob} {yk yc:Value} {t p q:Value} {e:Int},OwnS M.A w W (L++([obE b13 y yk yc,itE b6 Dk.it0 nilS nilS,.mem N']++[]))→M.le N'→OV N'.A N'.w (obV y yk yc) y→Bd.read s a len=Bd.tail s hd y e→J [p,q,.int .i64 e] W:=by
  intro W N' L y yk yc t p q e ho hle hov hR;refine hJ _ _ fun _=>?_;have ho:=ho.front;simp only[gd];unfold nR iN dx cx;unfold Bd.tail at hR;refine aP ho (R:=fun v=>v=.tuple #[.int .i64 (Bd.word s e Bd.fY).1,.int .i64 (Bd.word s e Bd.fY).2]) (qT s _ Bd.fY W (by omega)) ?_;rintro _ w7 rfl ho;simp only[ex,fM];by_cases he:(Bd.word s e Bd.fY).2=0
  case neg=>
   rw[Yh he] at hR;simp only[Yk (show (Bd.word s e Bd.fY).2≠0 from he),i_t];exact fail (L:=_::L) (by
    have ho:OwnS M.A w w7 ([obE b13 y yk yc,itE b6 Dk.it0 nilS nilS,.mem N']++(L++[])):=ho;have ho:OwnS M.A w w7 ([obE b13 y yk yc]++([itE b6 Dk.it0 nilS nilS,.mem N']++L)):=by simpa using ho
    have ho:=ho.perm (acR _ Z8);simpa using ho) hle hR
  rw[Yg (by simp[he])] at hR;simp only[he,show decide ((0:Int)≠0)=false by decide,i_f];rw[ob_v ho 0 rfl];have hb:∀{PK:PKT} {K:VWP},DoX prog (aJ 27 #[(0,.int .i64 hd.num),(1,.int .i64 hd.gen),(2,obV y yk yc)]) w7 PK K=K (itV ⟨hd.num,hd.gen,y⟩ yk yc) w7:=aU (by kernel_rfl);rw[hb];refine FT 1 hov.oneK hov.oneC ho rfl fun w8 ho=>?_;refine yK (aX (ho.agg 1 rfl LH)) eF eF (hK _ _ N' _ 2 ho rfl hle ?_);rw[hR];exact⟨yk,yc,rfl,hov⟩
 by_cases hw:(Bd.word s x.2.1 Bd.bI).2=0
 case neg=>
  rw[Yg (fun h=>hw h.1)] at hread;simp only[rs,Yl hw,g_un,i_f];exact fin (t:=.nilIface) (L:=[]) ho hle hx.ov hread
 by_cases h7:x.1.k=7
 case neg=>
  rw[Yg (fun h=>h7 h.2)] at hread;simp only[rs,hw,Yj,cN,ob_k ho 0 rfl,Yl h7,g_un,i_f];exact fin (t:=.nilIface) (L:=[]) ho hle hx.ov hread
 rw[Yh ⟨hw,h7⟩] at hread;have hwb:=Bd.Sd hw;simp only[rs,hw,Yj,cN,ob_k ho 0 rfl,h7,g_un,i_t,ob_v ho 0 rfl];obtain⟨n,hn⟩:∃n:Nat,(Bd.word s x.2.1 Bd.bI).1=n:=⟨(Bd.word s x.2.1 Bd.bI).1.toNat,by omega⟩;rw[hn,Yo] at hread;rw[hn] at hwb ⊢;refine eD ho 2 rfl (KR s n len x.1 _ N w6 (by omega) (by omega) h7 hck hwt (ho.hasM 2 rfl) hx.ov) ?_;rintro _ N2 w7 hle2 ⟨u,rfl,hu⟩ ho;obtain⟨yk,yc,ycs,rfl,hy⟩:=hu.open;simp only[ex,fM];refine bN ho fun b18 w8 ho=>?_;refine aQ 0 hy.keys.one hy.kids.one ho rfl fun w9 ho=>?_;by_cases he:(Bd.stream s n len x.1).2.2=0
 case neg=>
  rw[Yh he] at hread;simp only[Yk (show (Bd.stream s n len x.1).2.2≠0 from he),i_t];exact fail (L:=[_,_]) ho (hle.trans hle2) hread
 rw[Yg (by simp[he])] at hread;simp only[he,show decide ((0:Int)≠0)=false by decide,i_f,ob_v ho 0 rfl];refine aQ 1 hy.keys.one hy.kids.one ho rfl fun w10 ho=>?_;exact fin (t:=.nilIface) (L:=[_]) ho (hle.trans hle2) hy.ov hread
end
section
open Eng
def qP(w)(K:KT):=
 dx (aM 27) w K fun t0 w=>dx (aJ 25 #[(0,(iN 9)),(3,(.string ⟨#[97,98]⟩))]) w K fun t1 w=>dx (aJ 27 #[(0,(iN 4)),(1,(iN 1)),(2,t1)]) w K fun t2 w=>dx (aC 27 t0 t2) w K fun _ w=>RetX prog [.cell t0 27] w K
theorem zV{w K}(h:qP w K):Calls prog 22 #[] w K:=cw Tryz.func22 rfl rfl (by kernel_rfl) h
def pG(w)(K:KT):=
 dx (aJ 25 #[(0,(iN 2)),(1,(iN 7))]) w K fun t51 w=>dx (aJ 27 #[(0,(iN 3)),(2,t51)]) w K fun t52 w=>cx 15 #[t52] w K fun t53 w=>dx (mExt t53 0) w K fun t54 w=>dx (mExt t53 1) w K fun t55 w=>cx 22 #[] w K fun t57 w=>cx 15 #[t57] w K fun t58 w=>dx (mExt t58 0) w K fun t59 w=>dx (mExt t58 1) w K fun t60 w=>cx 9 #[(.string ⟨#[49,32,48,32,111,98,106,32,53,32,101,110,100,111,98,106]⟩),(iN 0),(iN (-1))] w K fun t62 w=>dx (mExt t62 0) w K fun t63 w=>dx (mExt t62 1) w K fun t64 w=>dx (mExt t62 2) w K fun t65 w=>dx (aM 27) w K fun t5 w=>dx (aC 27 t5 t63) w K fun _ w=>cx 9 #[(.string ⟨#[49,32,48,32,111,98,106,32,50,32,48,32,82,32,101,110,100,111,98,106]⟩),(iN 0),(iN (-1))] w K fun t67 w=>dx (mExt t67 0) w K fun t68 w=>dx (mExt t67 1) w K fun t69 w=>dx (mExt t67 2) w K fun t70 w=>dx (aM 27) w K fun t8 w=>dx (aC 27 t8 t68) w K fun _ w=>cx 9 #[(.string ⟨#[48,32,48,32,111,98,106,32,53,32,101,110,100,111,98,106]⟩),(iN 0),(iN (-1))] w K fun t72 w=>dx (mExt t72 0) w K fun t73 w=>dx (mExt t72 1) w K fun t74 w=>dx (mExt t72 2) w K fun t75 w=>dx (aM 27) w K fun t11 w=>dx (aC 27 t11 t73) w K fun _ w=>cx 9 #[(.string ⟨#[49,32,48,32,111,98,106,32,53,32,101,110,100]⟩),(iN 0),(iN (-1))] w K fun t77 w=>dx (mExt t77 0) w K fun t78 w=>dx (mExt t77 1) w K fun t79 w=>dx (mExt t77 2) w K fun t80 w=>dx (aM 27) w K fun t14 w=>dx (aC 27 t14 t78) w K fun _ w=>cx 9 #[(.string ⟨#[49,32,48,32,111,98,106,32,53]⟩),(iN 0),(iN (-1))] w K fun t82 w=>dx (mExt t82 0) w K fun t83 w=>dx (mExt t82 1) w K fun t84 w=>dx (mExt t82 2) w K fun t85 w=>dx (aM 27) w K fun t17 w=>dx (aC 27 t17 t83) w K fun _ w=>cx 9 #[t59,(iN 0),(iN 2)] w K fun t88 w=>dx (mExt t88 0) w K fun t89 w=>dx (mExt t88 1) w K fun t90 w=>dx (mExt t88 2) w K fun t91 w=>dx (aM 27) w K fun t20 w=>dx (aC 27 t20 t89) w K fun _ w=>cx 9 #[(.string ⟨#[49,32,48,32,111,98,106,60,60,47,76,101,110,103,116,104,32,57,32,48,32,82,62,62,115,116,114,101,97,109,13,10,97,98,99,32,101,110,100,115,116,114,101,97,109,32,101,110,100,111,98,106]⟩),(iN 0),(iN 3)] w K fun t93 w=>dx (mExt t93 0) w K fun t94 w=>dx (mExt t93 1) w K fun t95 w=>dx (mExt t93 2) w K fun t96 w=>dx (aM 27) w K fun t23 w=>dx (aC 27 t23 t94) w K fun _ w=>cx 9 #[(.string ⟨#[49,32,48,32,111,98,106,60,60,47,76,101,110,103,116,104,32,57,32,48,32,82,62,62,115,116,114,101,97,109,13,10,97,98,99,32,101,110,100,115,116,114,101,97,109,32,101,110,100,111,98,106]⟩),(iN 0),(iN (-1))] w K fun t98 w=>dx (mExt t98 0) w K fun t99 w=>dx (mExt t98 1) w K fun t100 w=>dx (mExt t98 2) w K fun t101 w=>dx (aM 27) w K fun t26 w=>dx (aC 27 t26 t99) w K fun _ w=>cx 9 #[(.string ⟨#[49,32,48,32,111,98,106,60,60,62,62,115,116,114,101,97,109,10,97,98,99,32,101,110,100,115,116,114,101,97,109,32,101,110,100,111,98,106]⟩),(iN 0),(iN (-1))] w K fun t103 w=>dx (mExt t103 0) w K fun t104 w=>dx (mExt t103 1) w K fun t105 w=>dx (mExt t103 2) w K fun t106 w=>dx (aM 27) w K fun t29 w=>dx (aC 27 t29 t104) w K fun _ w=>cx 9 #[(.string ⟨#[49,32,48,32,111,98,106,60,60,47,76,101,110,103,116,104,32,57,48,48,62,62,115,116,114,101,97,109,10,97,98,99,32,101,110,100,115,116,114,101,97,109,32,101,110,100,111,98,106]⟩),(iN 0),(iN (-1))] w K fun t108 w=>dx (mExt t108 0) w K fun t109 w=>dx (mExt t108 1) w K fun t110 w=>dx (mExt t108 2) w K fun t111 w=>dx (aM 27) w K fun t32 w=>dx (aC 27 t32 t109) w K fun _ w=>cx 9 #[(.string ⟨#[49,32,48,32,111,98,106,60,60,47,76,101,110,103,116,104,32,51,62,62,115,116,114,101,97,109,32,97,98,99,32,101,110,100,115,116,114,101,97,109,32,101,110,100,111,98,106]⟩),(iN 0),(iN (-1))] w K fun t113 w=>dx (mExt t113 0) w K fun t114 w=>dx (mExt t113 1) w K fun t115 w=>dx (mExt t113 2) w K fun t116 w=>dx (aM 27) w K fun t35 w=>dx (aC 27 t35 t114) w K fun _ w=>cx 11 #[(.string ⟨#[49,32,48,32,111,98,106,60,60,47,76,101,110,103,116,104,32,57,32,48,32,82,62,62,115,116,114,101,97,109]⟩),(iN 0)] w K fun t118 w=>dx (mExt t118 0) w K fun t119 w=>dx (mExt t118 1) w K fun t120 w=>dx (aM 25) w K fun t38 w=>dx (aC 25 t38 t119) w K fun _ w=>cx 11 #[(.string ⟨#[49,32,48,32,111,98,106,60,60,47,76,101,110,103,116,104,32,57,62,62,101,110,100,111,98,106]⟩),(iN 0)] w K fun t122 w=>dx (mExt t122 0) w K fun t123 w=>dx (mExt t122 1) w K fun t124 w=>dx (aM 25) w K fun t40 w=>dx (aC 25 t40 t123) w K fun _ w=>cx 13 #[(.string ⟨#[37,10,49,50,32,51,32,111,98,106,32,120]⟩),(iN 0)] w K fun t126 w=>dx (mExt t126 0) w K fun t127 w=>dx (mExt t126 1) w K fun t128 w=>dx (mExt t126 2) w K fun t129 w=>dx (mExt t126 3) w K fun t130 w=>cx 13 #[(.string ⟨#[]⟩),(iN 1)] w K fun t132 w=>dx (mExt t132 0) w K fun t133 w=>dx (mExt t132 1) w K fun t134 w=>dx (mExt t132 2) w K fun t135 w=>dx (mExt t132 3) w K fun t136 w=>dx (mEq .neq 9 (.tmp 137) (.const (.string ⟨#[51,32,48,32,111,98,106,10,55,10,101,110,100,111,98,106,10]⟩)) t54 (.string ⟨#[51,32,48,32,111,98,106,10,55,10,101,110,100,111,98,106,10]⟩)) w K fun t138 w=>efx t138 t55 w fun t140 w=>gfx t138 (mEq .neq 30 (.tmp 140) (.const (iN 0)) t140 (iN 0)) w K fun t141 w=>dx (aF t138 (.bool true) t141) w K fun t142 w=>efx t142 t59 w fun t144 w=>gfx t142 (mEq .neq 9 (.tmp 144) (.const (.string ⟨#[52,32,49,32,111,98,106,10,60,60,47,76,101,110,103,116,104,32,50,62,62,10,115,116,114,101,97,109,10,97,98,10,101,110,100,115,116,114,101,97,109,10,101,110,100,111,98,106,10]⟩)) t144 (.string ⟨#[52,32,49,32,111,98,106,10,60,60,47,76,101,110,103,116,104,32,50,62,62,10,115,116,114,101,97,109,10,97,98,10,101,110,100,115,116,114,101,97,109,10,101,110,100,111,98,106,10]⟩)) w K fun t145 w=>dx (aF t142 (.bool true) t145) w K fun t146 w=>efx t146 t60 w fun t148 w=>gfx t146 (mEq .neq 30 (.tmp 148) (.const (iN 0)) t148 (iN 0)) w K fun t149 w=>dx (aF t146 (.bool true) t149) w K fun t150 w=>gfx t150 (mFA 27 t5 0) w K fun t152 w=>gfx t150 (aA 3 t152) w K fun t153 w=>gfx t150 (mEq .neq 3 (.tmp 153) (.const (iN 1)) t153 (iN 1)) w K fun t154 w=>dx (aF t150 (.bool true) t154) w K fun t155 w=>gfx t155 (mFA 27 t5 2) w K fun t157 w=>gfx t155 (mFA 25 t157 1) w K fun t158 w=>gfx t155 (aA 2 t158) w K fun t159 w=>gfx t155 (mEq .neq 2 (.tmp 159) (.const (iN 5)) t159 (iN 5)) w K fun t160 w=>dx (aF t155 (.bool true) t160) w K fun t161 w=>efx t161 t64 w fun t163 w=>gfx t161 (mEq .neq 3 (.tmp 163) (.const (iN 16)) t163 (iN 16)) w K fun t164 w=>dx (aF t161 (.bool true) t164) w K fun t165 w=>efx t165 t65 w fun t167 w=>gfx t165 (mEq .neq 30 (.tmp 167) (.const (iN 0)) t167 (iN 0)) w K fun t168 w=>dx (aF t165 (.bool true) t168) w K fun t169 w=>efx t169 t70 w fun t171 w=>gfx t169 (mEq .neq 30 (.tmp 171) (.const (iN 10)) t171 (iN 10)) w K fun t172 w=>dx (aF t169 (.bool true) t172) w K fun t173 w=>efx t173 t75 w fun t175 w=>gfx t173 (mEq .neq 30 (.tmp 175) (.const (iN 2)) t175 (iN 2)) w K fun t176 w=>dx (aF t173 (.bool true) t176) w K fun t177 w=>efx t177 t80 w fun t179 w=>gfx t177 (mEq .neq 30 (.tmp 179) (.const (iN 3)) t179 (iN 3)) w K fun t180 w=>dx (aF t177 (.bool true) t180) w K fun t181 w=>efx t181 t85 w fun t183 w=>gfx t181 (mEq .neq 30 (.tmp 183) (.const (iN 4)) t183 (iN 4)) w K fun t184 w=>dx (aF t181 (.bool true) t184) w K fun t185 w=>IfX t185 (K (.returned (.bool false)) w) (QuietX w (fun C1=>QDo prog C1 (mFA 27 t20 0) fun t186=>QDo prog C1 (aA 3 t186) fun t187=>QDo prog C1 (mEq .neq 3 (.tmp 187) (.const (iN 4)) t187 (iN 4)) fun t188=>GQ t188 false (fun E=>QDo prog C1 (mFA 27 t20 1) E) fun t190=>GQ t188 false (fun E=>QDo prog C1 (aA 3 t190) E) fun t191=>GQ t188 false (fun E=>QDo prog C1 (mEq .neq 3 (.tmp 191) (.const (iN 1)) t191 (iN 1)) E) fun t192=>QDo prog C1 (aF t188 (.bool true) t192) fun t193=>GQ t193 false (fun E=>QDo prog C1 (mFA 27 t20 2) E) fun t195=>GQ t193 false (fun E=>QDo prog C1 (aA 25 t195) E) fun t196=>GQ t193 false (fun E=>QCall prog C1 22 #[] E) fun t197=>GQ t193 false (fun E=>QDo prog C1 (mFld 27 t197 2) E) fun t198=>GQ t193 false (fun E=>QCall prog C1 17 #[t196,t198] E) fun t199=>GQ t193 false (fun E=>QDo prog C1 (mUn .not t199) E) fun t200=>QDo prog C1 (aF t193 (.bool true) t200) fun t201=>GQ t201 false (fun E=>E t90) fun t203=>GQ t201 false (fun E=>E t59) fun t204=>GQ t201 false (fun E=>QDo prog C1 (mB .len #[9] 3 #[false] #[t204]) E) fun t205=>GQ t201 false (fun E=>QDo prog C1 (mBin .sub 3 t205 (iN 1)) E) fun t206=>GQ t201 false (fun E=>QDo prog C1 (mEq .neq 3 (.tmp 203) (.tmp 206) t203 t206) E) fun t207=>QDo prog C1 (aF t201 (.bool true) t207) fun t208=>GQ t208 false (fun E=>E t91) fun t210=>GQ t208 false (fun E=>QDo prog C1 (mEq .neq 30 (.tmp 210) (.const (iN 0)) t210 (iN 0)) E) fun t211=>QDo prog C1 (aF t208 (.bool true) t211) fun t212=>GQ t212 false (fun E=>QDo prog C1 (mFA 27 t23 2) E) fun t214=>GQ t212 false (fun E=>QDo prog C1 (mFA 25 t214 3) E) fun t215=>GQ t212 false (fun E=>QDo prog C1 (aA 9 t215) E) fun t216=>GQ t212 false (fun E=>QDo prog C1 (mEq .neq 9 (.tmp 216) (.const (.string ⟨#[97,98,99]⟩)) t216 (.string ⟨#[97,98,99]⟩)) E) fun t217=>QDo prog C1 (aF t212 (.bool true) t217) fun t218=>GQ t218 false (fun E=>QDo prog C1 (mFA 27 t23 2) E) fun t220=>GQ t218 false (fun E=>QDo prog C1 (mFA 25 t220 4) E) fun t221=>GQ t218 false (fun E=>QDo prog C1 (aA 22 t221) E) fun t222=>GQ t218 false (fun E=>QDo prog C1 (mB .len #[22] 3 #[false] #[t222]) E) fun t223=>GQ t218 false (fun E=>QDo prog C1 (mEq .neq 3 (.tmp 223) (.const (iN 0)) t223 (iN 0)) E) fun t224=>QDo prog C1 (aF t218 (.bool true) t224) fun t225=>GQ t225 false (fun E=>E t96) fun t227=>GQ t225 false (fun E=>QDo prog C1 (mEq .neq 30 (.tmp 227) (.const (iN 0)) t227 (iN 0)) E) fun t228=>QDo prog C1 (aF t225 (.bool true) t228) fun t229=>GQ t229 false (fun E=>E t101) fun t231=>GQ t229 false (fun E=>QDo prog C1 (mEq .neq 30 (.tmp 231) (.const (iN 10)) t231 (iN 10)) E) fun t232=>QDo prog C1 (aF t229 (.bool true) t232) fun t233=>GQ t233 false (fun E=>E t106) fun t235=>GQ t233 false (fun E=>QDo prog C1 (mEq .neq 30 (.tmp 235) (.const (iN 3)) t235 (iN 3)) E) fun t236=>QDo prog C1 (aF t233 (.bool true) t236) fun t237=>GQ t237 false (fun E=>E t111) fun t239=>GQ t237 false (fun E=>QDo prog C1 (mEq .neq 30 (.tmp 239) (.const (iN 4)) t239 (iN 4)) E) fun t240=>QDo prog C1 (aF t237 (.bool true) t240) fun t241=>GQ t241 false (fun E=>E t116) fun t243=>GQ t241 false (fun E=>QDo prog C1 (mEq .neq 30 (.tmp 243) (.const (iN 3)) t243 (iN 3)) E) fun t244=>QDo prog C1 (aF t241 (.bool true) t244) fun t245=>
 ∀w,C1 w →
 IfX t245 (K (.returned (.bool false)) w) (dx (mFA 25 t38 0) w K fun t246 w=>dx (aA 3 t246) w K fun t247 w=>dx (mEq .eql 3 (.tmp 247) (.const (iN 8)) t247 (iN 8)) w K fun t248 w=>gtx t248 (mFA 25 t38 1) w K fun t250 w=>gtx t248 (aA 2 t250) w K fun t251 w=>gtx t248 (mEq .eql 2 (.tmp 251) (.const (iN 9)) t251 (iN 9)) w K fun t252 w=>dx (aF t248 t252 (.bool false)) w K fun t253 w=>etx t253 t120 w fun t255 w=>gtx t253 (mEq .eql 30 (.tmp 255) (.const (iN 0)) t255 (iN 0)) w K fun t256 w=>dx (aF t253 t256 (.bool false)) w K fun t257 w=>gtx t257 (mFA 25 t40 0) w K fun t259 w=>gtx t257 (aA 3 t259) w K fun t260 w=>gtx t257 (mEq .eql 3 (.tmp 260) (.const (iN 0)) t260 (iN 0)) w K fun t261 w=>dx (aF t257 t261 (.bool false)) w K fun t262 w=>etx t262 t124 w fun t264 w=>gtx t262 (mEq .eql 30 (.tmp 264) (.const (iN 0)) t264 (iN 0)) w K fun t265 w=>dx (aF t262 t265 (.bool false)) w K fun t266 w=>etx t266 t127 w fun t268 w=>gtx t266 (mEq .eql 3 (.tmp 268) (.const (iN 12)) t268 (iN 12)) w K fun t269 w=>dx (aF t266 t269 (.bool false)) w K fun t270 w=>etx t270 t128 w fun t272 w=>gtx t270 (mEq .eql 3 (.tmp 272) (.const (iN 3)) t272 (iN 3)) w K fun t273 w=>dx (aF t270 t273 (.bool false)) w K fun t274 w=>etx t274 t129 w fun t276 w=>gtx t274 (mEq .eql 3 (.tmp 276) (.const (iN 10)) t276 (iN 10)) w K fun t277 w=>dx (aF t274 t277 (.bool false)) w K fun t278 w=>etx t278 t130 w fun t280 w=>gtx t278 (mEq .eql 30 (.tmp 280) (.const (iN 0)) t280 (iN 0)) w K fun t281 w=>dx (aF t278 t281 (.bool false)) w K fun t282 w=>etx t282 t136 w fun t284 w=>gtx t282 (mEq .eql 30 (.tmp 284) (.const (iN 1)) t284 (iN 1)) w K fun t285 w=>dx (aF t282 t285 (.bool false)) w K fun t286 w=>ctx t286 22 #[] w K fun t288 w=>ctx t286 18 #[t288] w K fun t289 w=>gtx t286 (mEq .eql 30 (.tmp 289) (.const (iN 0)) t289 (iN 0)) w K fun t290 w=>dx (aF t286 t290 (.bool false)) w K fun t291 w=>gtx t291 (aJ 25 #[(0,(iN 8)),(1,(iN 1))]) w K fun t293 w=>gtx t291 (aJ 27 #[(0,(iN 1)),(2,t293)]) w K fun t294 w=>ctx t291 18 #[t294] w K fun t295 w=>gtx t291 (mEq .eql 30 (.tmp 295) (.const (iN 10)) t295 (iN 10)) w K fun t296 w=>dx (aF t291 t296 (.bool false)) w K fun t297 w=>K (.returned t297) w)))
theorem xZ{w K}(h:pG w K):Calls prog 8 #[] w K:=cw Tryz.func8 rfl rfl (by kernel_rfl) h
def jH(t0 t1 t2 t3 w)(K:KT):=
 dx (mBox 27 t3) w K fun t7 w=>dx (mB .len #[9] 3 #[false] #[t0]) w K fun t32 w=>dx (mBin .gtr 3 t32 (iN 3000)) w K fun t33 w=>gfx t33 (mFA 27 t7 2) w K fun t35 w=>gfx t33 (aA 25 t35) w K fun t36 w=>cfx t33 7 #[t36] w K fun t37 w=>gfx t33 (mBin .gtr 3 t37 (iN 400)) w K fun t38 w=>dx (aF t33 (.bool true) t38) w K fun t39 w=>gfx t39 (mFA 27 t7 2) w K fun t41 w=>gfx t39 (mFA 25 t41 3) w K fun t42 w=>gfx t39 (aA 9 t42) w K fun t43 w=>gfx t39 (mB .len #[9] 3 #[false] #[t43]) w K fun t44 w=>gfx t39 (mBin .gtr 3 t44 (iN 3000)) w K fun t45 w=>dx (aF t39 (.bool true) t45) w K fun t46 w=>IfX t46 (cx 8 #[] w K fun t47 w=>K (.returned t47) w) (cx 9 #[t0,t1,t2] w K fun t52 w=>dx (mExt t52 0) w K fun t53 w=>dx (mExt t52 1) w K fun t54 w=>dx (mExt t52 2) w K fun t55 w=>dx (aM 27) w K fun t9 w=>dx (aC 27 t9 t53) w K fun _ w=>cx 10 #[t0,t1,t2] w K fun t60 w=>dx (mExt t60 0) w K fun t61 w=>dx (mExt t60 1) w K fun t62 w=>dx (mExt t60 2) w K fun t63 w=>dx (aM 27) w K fun t12 w=>dx (aC 27 t12 t61) w K fun _ w=>cx 11 #[t0,t1] w K fun t67 w=>dx (mExt t67 0) w K fun t68 w=>dx (mExt t67 1) w K fun t69 w=>dx (aM 25) w K fun t15 w=>dx (aC 25 t15 t68) w K fun _ w=>cx 12 #[t0,t1] w K fun t73 w=>dx (mExt t73 0) w K fun t74 w=>dx (mExt t73 1) w K fun t75 w=>dx (aM 25) w K fun t17 w=>dx (aC 25 t17 t74) w K fun _ w=>cx 13 #[t0,t1] w K fun t79 w=>dx (mExt t79 0) w K fun t80 w=>dx (mExt t79 1) w K fun t81 w=>dx (mExt t79 2) w K fun t82 w=>dx (mExt t79 3) w K fun t83 w=>cx 14 #[t0,t1] w K fun t87 w=>dx (mExt t87 0) w K fun t88 w=>dx (mExt t87 1) w K fun t89 w=>dx (mExt t87 2) w K fun t90 w=>dx (mExt t87 3) w K fun t91 w=>dx (aA 27 t7) w K fun t93 w=>cx 15 #[t93] w K fun t94 w=>dx (mExt t94 0) w K fun t95 w=>dx (mExt t94 1) w K fun t96 w=>dx (aA 27 t7) w K fun t98 w=>cx 16 #[t98] w K fun t99 w=>dx (mExt t99 0) w K fun t100 w=>dx (mExt t99 1) w K fun t101 w=>dx (mFA 27 t9 0) w K fun t102 w=>dx (aA 3 t102) w K fun t103 w=>dx (mFA 27 t12 0) w K fun t104 w=>dx (aA 3 t104) w K fun t105 w=>dx (mEq .neq 3 (.tmp 103) (.tmp 105) t103 t105) w K fun t106 w=>gfx t106 (mFA 27 t9 1) w K fun t108 w=>gfx t106 (aA 3 t108) w K fun t109 w=>gfx t106 (mFA 27 t12 1) w K fun t110 w=>gfx t106 (aA 3 t110) w K fun t111 w=>gfx t106 (mEq .neq 3 (.tmp 109) (.tmp 111) t109 t111) w K fun t112 w=>dx (aF t106 (.bool true) t112) w K fun t113 w=>gfx t113 (mFA 27 t9 2) w K fun t115 w=>gfx t113 (aA 25 t115) w K fun t116 w=>gfx t113 (mFA 27 t12 2) w K fun t117 w=>gfx t113 (aA 25 t117) w K fun t118 w=>cfx t113 17 #[t116,t118] w K fun t119 w=>gfx t113 (mUn .not t119) w K fun t120 w=>dx (aF t113 (.bool true) t120) w K fun t121 w=>efx t121 t54 w fun t123 w=>efx t121 t62 w fun t124 w=>gfx t121 (mEq .neq 3 (.tmp 123) (.tmp 124) t123 t124) w K fun t125 w=>dx (aF t121 (.bool true) t125) w K fun t126 w=>efx t126 t55 w fun t128 w=>efx t126 t63 w fun t129 w=>gfx t126 (mEq .neq 30 (.tmp 128) (.tmp 129) t128 t129) w K fun t130 w=>dx (aF t126 (.bool true) t130) w K fun t131 w=>gfx t131 (aA 25 t15) w K fun t133 w=>gfx t131 (aA 25 t17) w K fun t134 w=>cfx t131 17 #[t133,t134] w K fun t135 w=>gfx t131 (mUn .not t135) w K fun t136 w=>dx (aF t131 (.bool true) t136) w K fun t137 w=>efx t137 t69 w fun t139 w=>efx t137 t75 w fun t140 w=>gfx t137 (mEq .neq 30 (.tmp 139) (.tmp 140) t139 t140) w K fun t141 w=>dx (aF t137 (.bool true) t141) w K fun t142 w=>IfX t142 (K (.returned (.bool false)) w) (QuietX w (fun C1=>QDo prog C1 (mEq .eql 3 (.tmp 143) (.tmp 144) t80 t88) fun t145=>GQ t145 true (fun E=>E t81) fun t147=>GQ t145 true (fun E=>E t89) fun t148=>GQ t145 true (fun E=>QDo prog C1 (mEq .eql 3 (.tmp 147) (.tmp 148) t147 t148) E) fun t149=>QDo prog C1 (aF t145 t149 (.bool false)) fun t150=>GQ t150 true (fun E=>E t82) fun t152=>GQ t150 true (fun E=>E t90) fun t153=>GQ t150 true (fun E=>QDo prog C1 (mEq .eql 3 (.tmp 152) (.tmp 153) t152 t153) E) fun t154=>QDo prog C1 (aF t150 t154 (.bool false)) fun t155=>GQ t155 true (fun E=>E t83) fun t157=>GQ t155 true (fun E=>E t91) fun t158=>GQ t155 true (fun E=>QDo prog C1 (mEq .eql 30 (.tmp 157) (.tmp 158) t157 t158) E) fun t159=>QDo prog C1 (aF t155 t159 (.bool false)) fun t160=>GQ t160 true (fun E=>E t95) fun t162=>GQ t160 true (fun E=>E t100) fun t163=>GQ t160 true (fun E=>QDo prog C1 (mEq .eql 9 (.tmp 162) (.tmp 163) t162 t163) E) fun t164=>QDo prog C1 (aF t160 t164 (.bool false)) fun t165=>GQ t165 true (fun E=>E t96) fun t167=>GQ t165 true (fun E=>E t101) fun t168=>GQ t165 true (fun E=>QDo prog C1 (mEq .eql 30 (.tmp 167) (.tmp 168) t167 t168) E) fun t169=>QDo prog C1 (aF t165 t169 (.bool false)) fun t170=>GQ t170 true (fun E=>QDo prog C1 (aA 27 t7) E) fun t172=>GQ t170 true (fun E=>QCall prog C1 18 #[t172] E) fun t173=>GQ t170 true (fun E=>QDo prog C1 (aA 27 t7) E) fun t174=>GQ t170 true (fun E=>QCall prog C1 19 #[t174] E) fun t175=>GQ t170 true (fun E=>QDo prog C1 (mEq .eql 30 (.tmp 173) (.tmp 175) t173 t175) E) fun t176=>QDo prog C1 (aF t170 t176 (.bool false)) fun t177=>GQ t177 true (fun E=>QCall prog C1 8 #[] E) fun t179=>QDo prog C1 (aF t177 t179 (.bool false)) fun t180=>
 ∀w,C1 w →
 K (.returned t180) w)))
theorem qU{t0 t1 t2 t3 w K}(h:jH t0 t1 t2 t3 w K):Calls prog 3 #[t0,t1,t2,t3] w K:=cw Tryz.func3 rfl rfl (by kernel_rfl) h
end
section
open Eng Go.RowKit
theorem TO {w:World}{PK:PKT}{K:VWP}{S:Nat→Prop}{w0:World}{L:List Ent}{i:It}{vk vc:Value}{e:Int}(hk:vk.oneCell'=true)(hc:vc.oneCell'=true)(ho:OwnS S w0 w L)(kr:e=0→∀w',OwnS S w0 w' L→K (itV i vk vc) w')(kp:e≠0→∀w',OwnS S w0 w' L→PK [upE e] w'):CallX prog 42 #[itV i vk vc,.int .i64 e] w PK K:=by
 refine⟨mC ?_⟩;unfold fF iN dx cx;refine PJ i hk hc ho fun b w1 ho=>?_;refine P1 ho fun b2 w2 ho=>?_;simp only[rs];refine dP (fun h=>?_) fun h=>kp (Y5 h) _ ho.tail.tail;rw[it_v ho 1 rfl];refine FT 0 hk hc ho rfl fun w3 ho=>?_;exact eG (aX (ho.agg 0 rfl LH)) (kr (YF h) _ ho.tail.tail)
end
section
open Eng Go.RowKit
abbrev bsE (b:Nat)(s:List UInt8):Ent:=.cells b [.string ⟨s.toArray⟩] 9
theorem F2:dN prog 41=true:=by kernel_rfl
theorem ND {vk vc:Value}(hk:vk.oneCell'=true)(hc:vc.oneCell'=true)(o:Ob)(W:World):(aJ 25 #[(0,.int .i64 7),(4,vk),(5,vc)]).run prog W=.ok (.value (obV (.mk 7 0 0 [] o.keys o.kids) vk vc)) W:=by
 cases vk<;>first|(cases hk;done)|skip
 all_goals cases vc<;>first|(cases hc;done)|kernel_rfl
theorem UW {S:Nat→Prop}{w0 w:World}{L:List Ent}{PK:PKT}{K:VWP}(s t u:List UInt8)(ho:OwnS S w0 w L)(k:∀b w',OwnS S w0 w' (.cells b (bB [s,t,u]) 9::L)→K (.slice (some ⟨b,0,none⟩) 3 3) w') :
  DoX prog (aS 22 3 #[(0,.string ⟨s.toArray⟩),(1,.string ⟨t.toArray⟩),(2,.string ⟨u.toArray⟩)]) w PK K:=
 cI (fun b=>.slice (some ⟨b,0,none⟩) 3 3) (bB [s,t,u]) 9 (fun _=>by kernel_rfl) ho k
theorem QR {n:Int}(h0:0≤n)(h1:n≤2147483647):Pl.pInt n=(Lib.itoa n,0):=by
 unfold Pl.pInt;rw[Yh (by omega)]
def Bd.rest (i:It):List UInt8:=if i.obj.k=9 then Bd.bI++Bd.nl++i.obj.s++Bd.nl++Bd.bX++Bd.nl else []
def Bd.M7 (i:It)(o:Ob):List UInt8×Int:=if (Wr.text o).2≠0 then ([],(Wr.text o).2) else (Bd.EL i++(Wr.text o).1++Bd.nl++Bd.rest i++Bd.fY++Bd.nl,0)
theorem Bd.Rz (i:It):Bd.text i=if Bd.check i≠0 then ([],Bd.check i) else if i.obj.k=9 then (if (Bd.pJ i.obj).2≠0 then ([],(Bd.pJ i.obj).2) else Bd.M7 i (Bd.pJ i.obj).1) else Bd.M7 i i.obj:=by
 unfold Bd.text Bd.M7 Bd.rest;by_cases h:i.obj.k=9
 ·simp only[h,if_true,YD]
 ·simp only[h,if_false,YQ]
theorem Bd.EI (o:Ob):(Ob.mk 7 0 0 [] o.keys o.kids).wt≤o.wt:=by
 have e1:=Vl.kY o;have e2:(Ob.mk 7 0 0 [] o.keys o.kids).wt=6+0+Pl.tot o.keys+Ob.wts o.kids:=Vl.kY _;omega
theorem Bd.RQ (n:Int):(Ob.mk 2 n 0 [] [] []).wt=6:=by
 have e3:(Ob.mk 2 n 0 [] [] []).wt=6+0+Pl.tot []+Ob.wts []:=Vl.kY _;have e5:Pl.tot []=0:=rfl;have e6:Ob.wts []=0:=by simp[Ob.wts]
 omega
theorem Bd.Lj (o:Ob):(Bd.pJ o).1.wt≤o.wt+100:=by
 have h:=Vl.Wp (.mk 7 0 0 [] o.keys o.kids) Vl.lenK (.mk 2 o.s.length 0 [] [] []);have h1:=Bd.EI o;have h2:=Bd.RQ o.s.length;have e4:Vl.lenK.length=6:=rfl;unfold Bd.pJ;omega
theorem Ic (i:It){vk vc:Value}(M:Mem)(w:World)(ht:Tb w)(hw:i.obj.wt≤50000000)(hM:M.has w)(hv:OV M.A M.w (obV i.obj vk vc) i.obj) :
  Ret prog 15 #[itV i vk vc] w (fun r w'=>r=txtV (Bd.text i)∧Below w.heap.size w w'):=by
 refine aO fun K hK=>I3 ?_;unfold C8 iN dx;refine PJ i hv.oneK hv.oneC (OwnS.memS hM) fun b1 w1 ho=>?_;refine cI (fun b=>.pointer (some ⟨b,0,none⟩)) [.string ⟨#[]⟩] 9 (fun _=>by kernel_rfl) ho fun b2 w2 ho=>?_;refine cI (fun b=>.pointer (some ⟨b,0,none⟩)) [.int .i64 0] 30 (fun _=>by kernel_rfl) ho fun b3 w3 ho=>?_;have ho:OwnS M.A w w3 ([errE b3 0,bsE b2 [],itE b1 i vk vc]++[.mem M]):=ho;have ho:=ho.perm Z8;have ho:OwnS M.A w w3 [.mem M,errE b3 0,bsE b2 [],itE b1 i vk vc]:=ho;rw[Er];refine⟨_,rfl,?_⟩;have tb:∀{W:World} {L:List Ent} {N:Mem} (j:Nat),OwnS M.A w W L→L[j]?=some (.mem N)→M.le N→Tb W:=fun j ho hj hle=>ht.mono (ho.lV j hj hle hM).below;have fail:∀{W:World} {L:List Ent} {x e:Int} {s:List UInt8} {N:Mem},OwnS M.A w W (L++([.mem N,errE b3 x,bsE b2 s,itE b1 i vk vc]++[]))→M.le N→e≠0→Bd.text i=([],e) →
   aN { target:=.fn (.func 41) #[.pointer (some ⟨b3,0,none⟩),.pointer (some ⟨b2,0,none⟩)],args:=#[]++#[] } (.pointer (some ⟨b2,0,none⟩)) (.pointer (some ⟨b3,0,none⟩)) K [upE e] W:=by
  intro W L x e s N ho hle h0 hh;have ho:=ho.front;show pd prog _ K _ [upE e] W;unfold pd;refine iD (by simp) F2 (rR (t0:=.pointer (some ⟨b3,0,none⟩)) (t1:=.pointer (some ⟨b2,0,none⟩)) ?_);simp only[qR,recV,recM,upE,cx];refine B4 (e:=e) ho 1 rfl fun w5 ho=>?_;have ho:OwnS M.A w w5 (.mem N::errE b3 e::bsE b2 s::itE b1 i vk vc::(L++[])):=ho;unfold gF iN dx;rw[bE rU (ho.cell 1 rfl 0 rfl)];simp only[rs,Yk (show e≠0 from h0),i_t];refine aW 2 ho rfl (by kernel_rfl) rfl (by simp) fun w6 ho=>?_;refine yF (aX (AtV.cell qQ (ho.cell 2 rfl 0 rfl))) (aX (AtV.cell rU (ho.cell 1 rfl 0 rfl))) (hK _ _ ⟨?_,(ho.lV 0 rfl hle hM).below⟩);rw[hh];rfl
 have htx:=Bd.Rz i;refine NI (fun W=>OwnS M.A w W [.mem M,errE b3 0,bsE b2 [],itE b1 i vk vc]) ho.drew ?_;have hld:∀W,OwnS M.A w W [.mem M,errE b3 0,bsE b2 [],itE b1 i vk vc]→(aA 27 (.pointer (some ⟨b1,0,none⟩))).run prog W=.ok (.value (itV i vk vc)) W:=
  fun W h=>Qx fun j u hj=>by rw[Yu];exact aV (T:=27) (h.at_ 3 rfl) hj
 refine q_at _ hld (q_at _ hld (gX (.int .i64 (Bd.check i)) (fun W h=>(B8 i W (by omega) (OV.inw (h.hasM 0 rfl) hv)).mono fun v w' r=>⟨r.1,h.grow r.2⟩) ?_));clear ho;intro w4 ho;have ho:OwnS M.A w w4 [.mem M,errE b3 0,bsE b2 [],itE b1 i vk vc]:=ho;refine TO hv.oneK hv.oneC ho (fun hc w5 ho=>?_) fun hc w5 ho=>fail (L:=[]) ho M.le_refl hc (by rw[htx,Yh hc]);rw[Yg (by simp[hc])] at htx;obtain⟨⟨n1,n2⟩,⟨n3,n4⟩,hvc,hk8⟩:=Bd.OE hc;refine cI (fun b=>.pointer (some ⟨b,0,none⟩)) [.pointer none,.slice none 0 0] 78 (fun _=>by kernel_rfl) ho fun b4 w6 ho=>?_;have hB0:∃v0,OwnS M.A w w6 [Bld b4 v0 [],.mem M,errE b3 0,bsE b2 [],itE b1 i vk vc]:=⟨_,OwnS.Eb (l:=[]) (.inl rfl) Hp (ho.uG 5 1).swap⟩;clear ho;obtain⟨v0,ho⟩:=hB0;have ho:=ho.drew;refine⟨fun W=>(itE b1 i vk vc).is W,ho.at_ 4 rfl,?_⟩;refine aZ _ (fun _=>bC SX) (fG _ (fun W h=>aL kV (aV (T:=27) (cs:=itC i vk vc) (i:=0) h rfl)) ?_);refine aZ _ (fun _=>bC Tr) (fG _ (fun W h=>aL kV (aV (T:=27) (cs:=itC i vk vc) (i:=1) h rfl)) ?_);refine aP ho (R:=fun v=>v=.tuple #[.string ⟨(Pl.pInt i.num).1.toArray⟩,.int .i64 (Pl.pInt i.num).2]) (DA _ _ (tb 1 ho rfl M.le_refl)) ?_;rintro _ w7 rfl ho;rw[QR (by omega) (by omega)];refine⟨ho.at_ 4 rfl,?_⟩;refine aZ _ (fun _=>vZ) (aZ _ (fun _=>wV) ?_);refine JQ (fun _=>⟨ho.at_ 4 rfl,?_⟩) fun h=>absurd rfl h;refine aP ho (R:=fun v=>v=.tuple #[.string ⟨(Pl.pInt i.gen).1.toArray⟩,.int .i64 (Pl.pInt i.gen).2]) (DA _ _ (tb 1 ho rfl M.le_refl)) ?_;rintro _ w8 rfl ho;rw[QR (by omega) (by omega)];refine⟨ho.at_ 4 rfl,?_⟩;refine aZ _ (fun _=>vZ) (aZ _ (fun _=>wV) ?_);refine JQ (fun _=>⟨ho.at_ 4 rfl,?_⟩) fun h=>absurd rfl h;have hl1:=GF i.num (by omega) (by omega);have hl2:=GF i.gen (by omega) (by omega);refine UW (Lib.itoa i.num) (Lib.itoa i.gen) Bd.objW ho fun b5 w9 ho=>⟨ho.at_ 5 rfl,?_⟩;refine aP ho (R:=fun v=>v=.string ⟨(Pl.join [Lib.itoa i.num,Lib.itoa i.gen,Bd.objW]).toArray⟩) (LA [Lib.itoa i.num,Lib.itoa i.gen,Bd.objW] _ _ (ho.sl 0 rfl 1 3 3 rfl) (by
  have e3:Bd.objW.length=3:=rfl;simp only[Pl.tot,Y1,aaE,Z4,List.sum_nil,e3];omega)) ?_
 rintro _ w10 rfl ho;have hj:=Bd.RE (i:=i) (by omega) (by omega);have hjl:(Pl.join [Lib.itoa i.num,Lib.itoa i.gen,Bd.objW]).length≤60:=by
  have e3:Bd.objW.length=3:=rfl;rw[Bd.L1 (by omega) (by omega)];simp only[Yp,Yr,YG,e3];omega
 have hhl:(Bd.EL i).length≤61:=by
  rw[←hj];have e3:Bd.nl.length=1:=rfl;simp only[Yp,e3];omega
 refine⟨ho.at_ 5 rfl,?_⟩;refine aZ _ (fun _=>nA (b:=[10]) (by simp only[Yr,YG];omega)) ?_;rw[show Pl.join [Lib.itoa i.num,Lib.itoa i.gen,Bd.objW]++[10]=Bd.EL i from hj];refine eB 1 ho rfl (cG (ho.at_ 1 rfl) (by simp only[YG];omega)) ?_;rintro _ _ w11 ⟨_,v1,rfl⟩ ho;have ho:OwnS M.A w w11 [Bld b4 v1 (Bd.EL i),.mem M,errE b3 0,bsE b2 [],itE b1 i vk vc]:=ho.tail;refine⟨ho.at_ 4 rfl,?_⟩;rw[Cn,Fu ho 4 rfl];refine bN ho fun b6 w12 ho=>?_;refine aQ 0 hv.oneK hv.oneC ho rfl fun w13 ho=>?_;have ho:OwnS M.A w w13 [obE b6 i.obj vk vc,Bld b4 v1 (Bd.EL i),.mem M,errE b3 0,bsE b2 [],itE b1 i vk vc]:=ho;refine join fun J hJ=>?_;have hos:=Vl.kY i.obj;have fin:∀{W:World} {o:Ob} {yk yc:Value} {N:Mem},OwnS M.A w W [obE b6 o yk yc,Bld b4 v1 (Bd.EL i),.mem N,errE b3 0,bsE b2 [],itE b1 i vk vc]→M.le N→OV N.A N.w (obV o yk yc) o→o.wt≤100000000→Bd.text i=Bd.M7 i o→J [] W:=by
  intro W o yk yc N ho hle hov hwo hR;refine hJ _ _ fun _=>?_;unfold Dw iN;rw[ob_v ho 0 rfl];refine aP ho (R:=fun v=>v=txtV (Wr.text o)) (Pk o _ W (tb 2 ho rfl hle) (OV.inw (ho.hasM 2 rfl) hov) hwo) ?_;rintro _ w14 rfl ho;have hwl:=Wr.Ny o;unfold Bd.M7 at hR;simp only[txtV,ex];refine JQ (fun he=>?_) fun he=>fail (L:=[_,_]) ho hle he (by rw[hR,Yh he]);rw[Yg (by simp[he])] at hR;generalize (Wr.text o).1=t at *;have e1:∀{PK:PKT} {K:VWP} {T:TypeId} {W:World},DoX prog (mBin .add T (.string ⟨t.toArray⟩) (.string ⟨#[10]⟩)) W PK K=K (.string ⟨(t++Bd.nl).toArray⟩) W:=kW (b:=Bd.nl) (by show t.length+1≤_;omega);rw[e1];have hnl:Bd.nl.length=1:=rfl;refine eB 1 ho rfl (cG (ho.at_ 1 rfl) (by simp only[Yp,hnl];omega)) ?_;rintro _ _ w15 ⟨_,v2,rfl⟩ ho;refine join fun J6 hJ6=>?_;have fin2:∀{W:World} {v3:Value},OwnS M.A w W [obE b6 o yk yc,Bld b4 v3 (Bd.EL i++(t++Bd.nl)++Bd.rest i),.mem N,errE b3 0,bsE b2 [],itE b1 i vk vc]→J6 [] W:=by
   intro W v3 ho;refine hJ6 _ _ fun _=>?_;unfold D4 iN;have hrl:(Bd.rest i).length≤i.obj.s.length+40:=by
    have a1:Bd.bI.length=6:=rfl;have a2:Bd.bX.length=9:=rfl;unfold Bd.rest;split
    ·simp only[Yp,hnl,a1,a2];omega
    ·simp
   refine eB 1 ho rfl (cG (s:=Bd.fY++Bd.nl) (ho.at_ 1 rfl) (by
    have a3:Bd.fY.length=6:=rfl;simp only[Yp,hnl,a3];omega)) ?_
   rintro _ _ w16 ⟨_,v4,rfl⟩ ho;refine eB 1 ho rfl (pT (ho.at_ 1 rfl)) ?_;rintro _ _ w17 ⟨rfl,rfl⟩ ho;refine aW 4 ho rfl (by kernel_rfl) rfl (by simp) fun w18 ho=>?_;refine aW 3 ho rfl (by kernel_rfl) rfl (by simp) fun w19 ho=>?_;refine iD (by simp) F2 (rR (t0:=.pointer (some ⟨b3,0,none⟩)) (t1:=.pointer (some ⟨b2,0,none⟩)) ?_);simp only[qR,recV,recM,cx];refine BL ?_;unfold gF iN dx;rw[bE rU (ho.cell 3 rfl 0 rfl)];simp only[rs,show decide ((0:Int)≠0)=false by decide,i_f];refine yF (aX (AtV.cell qQ (ho.cell 4 rfl 0 rfl))) (aX (AtV.cell rU (ho.cell 3 rfl 0 rfl))) (hK _ _ ⟨?_,(ho.lV 2 rfl hle hM).below⟩);rw[hR];show _=Value.tuple #[.string ⟨(Bd.EL i++t++Bd.nl++Bd.rest i++Bd.fY++Bd.nl).toArray⟩,.int .i64 0];simp only[YD]
  rw[Cn,cN,it_k ho 5 rfl];by_cases h9:i.obj.k=9
  case neg=>
   simp only[rs,Yl h9,i_f];refine⟨rfl,fin2 (v3:=v2) ?_⟩;rw[Bd.rest,Yg h9,YQ];exact ho
  simp only[rs,Yk h9,i_t];rw[Cn,Cd];refine aU (aL qQ (ho.cell 5 rfl 5 rfl)) |>.mpr ?_;have e2:∀{PK:PKT} {K:VWP} {T:TypeId} {W:World},DoX prog (mBin .add T (.string ⟨#[115,116,114,101,97,109,10]⟩) (.string ⟨i.obj.s.toArray⟩)) W PK K=K (.string ⟨(Bd.bI++Bd.nl++i.obj.s).toArray⟩) W:=kW (a:=Bd.bI++Bd.nl) (by show 7+i.obj.s.length≤_;omega);have e3:∀{PK:PKT} {K:VWP} {T:TypeId} {W:World},DoX prog (mBin .add T (.string ⟨(Bd.bI++Bd.nl++i.obj.s).toArray⟩) (.string ⟨#[10,101,110,100,115,116,114,101,97,109,10]⟩)) W PK K=K (.string ⟨(Bd.bI++Bd.nl++i.obj.s++(Bd.nl++Bd.bX++Bd.nl)).toArray⟩) W:=kW (b:=Bd.nl++Bd.bX++Bd.nl) (by
   have a1:Bd.bI.length=6:=rfl;have a2:Bd.bX.length=9:=rfl;simp only[Yp,hnl,a1,a2];omega)
  rw[e2,e3];refine eB 1 ho rfl (cG (ho.at_ 1 rfl) (by
   have a1:Bd.bI.length=6:=rfl;have a2:Bd.bX.length=9:=rfl;simp only[Yp,hnl,a1,a2];omega)) ?_
  rintro _ _ w16 ⟨_,v3,rfl⟩ ho;refine⟨rfl,fin2 (v3:=v3) ?_⟩;rw[Bd.rest,Yh h9];simpa only[YD,Zy,List.set_cons_succ] using ho
 rw[cN,ob_k ho 0 rfl];by_cases h9:i.obj.k=9
 case neg=>
  rw[Yg h9] at htx;simp only[rs,Yl h9,i_f];exact⟨rfl,fin ho M.le_refl hv (by omega) htx⟩
 rw[Yh h9] at htx;simp only[rs,Yk h9,i_t];have ho:=ho.drew;refine⟨fun W=>(obE b6 i.obj vk vc).is W,ho.at_ 0 rfl,?_⟩;refine aZ _ (fun _=>bC RZ) (fG _ (fun W h=>aL Md (aV (T:=25) (cs:=obC i.obj vk vc) (i:=4) h rfl)) ?_);refine aZ _ (fun _=>bC MY) (fG _ (fun W h=>aL PN (aV (T:=25) (cs:=obC i.obj vk vc) (i:=5) h rfl)) ?_);refine aZ _ (fun _=>ND hv.oneK hv.oneC i.obj _) ?_;refine aZ _ (fun _=>bC Ug) (fG _ (fun W h=>aL qQ (aV (T:=25) (cs:=obC i.obj vk vc) (i:=3) h rfl)) ?_);refine aZ _ (fun _=>Ki Ym) ?_;refine aP ho (R:=fun v=>v=obV (ob1 2 i.obj.s.length 0 []) nilS nilS) (NC _ _) ?_;rintro _ w14 rfl ho;refine⟨ho.at_ 0 rfl,?_⟩;obtain⟨cs,ha⟩:=hv.slices;have hdv:OV M.A M.w (obV (.mk 7 0 0 [] i.obj.keys i.obj.kids) vk vc) (.mk 7 0 0 [] i.obj.keys i.obj.kids):=ObAt.ov (o:=.mk 7 0 0 [] i.obj.keys i.obj.kids) (cs:=cs) ⟨ha.keys,ha.kids,ha.all⟩;have hdw:=Bd.EI i.obj;have hxw:(ob1 2 i.obj.s.length 0 []).wt=6:=Bd.RQ _;refine eD ho 2 rfl (SU (.mk 7 0 0 [] i.obj.keys i.obj.kids) (ob1 2 i.obj.s.length 0 []) _ _ Vl.lenK M w14 (by omega) (by omega) (by decide) (ho.hasM 2 rfl) hdv yB) ?_;rintro _ N w15 hle ⟨y,rfl,hy⟩ ho;have hy:OV N.A N.w y (Bd.pJ i.obj).1:=hy;have hset:Vl.set (.mk 7 0 0 [] i.obj.keys i.obj.kids) Vl.lenK (ob1 2 i.obj.s.length 0 [])=Bd.pJ i.obj:=rfl;rw[hset];obtain⟨yk,yc,ycs,rfl,hya⟩:=hy.open;have hdo:=Bd.Lj i.obj;generalize hD:Bd.pJ i.obj=D at *;refine⟨ho.at_ 0 rfl,?_⟩;refine aZ (obV D.1 yk yc) (fun _=>rfl) (aZ (.int .i64 D.2) (fun _=>rfl) ?_);refine Ow hya.keys.one hya.kids.one ho (fun he w16 ho=>⟨ho.at_ 0 rfl,?_⟩) fun he w16 ho=>fun _ _ _ _ _ _ _ _ _ _=>fail (L:=[_,_]) ho hle he (by rw[htx,Yh he]);rw[Yg (by simp[he])] at htx;refine aQ 0 hya.keys.one hya.kids.one ho rfl fun w17 ho=>?_;exact⟨rfl,fin ho hle hya.ov (by omega) htx⟩
end
section
open Eng Go.RowKit
theorem Mv (i:It){vk vc:Value}(M:Mem)(w:World)(hw:i.obj.wt≤50000000)(hM:M.has w)(hv:OV M.A M.w (obV i.obj vk vc) i.obj) :
  Ret prog 16 #[itV i vk vc] w (fun r w'=>r=txtV (Bd.text i)∧Below w.heap.size w w'):=by
 refine aO fun K hK=>yY ?_;unfold iQ iN dx cx;have htx:=Bd.Rz i;refine PJ i hv.oneK hv.oneC (OwnS.memS hM) fun b1 w1 ho=>?_;rw[it_v ho 0 rfl];refine aP ho (R:=fun v=>v=.int .i64 (Bd.check i)) (FF i w1 (by omega) (OV.inw (ho.hasM 1 rfl) hv)) ?_;rintro _ w2 rfl ho;rw[fM];by_cases hc:Bd.check i=0
 case neg=>
  simp only[Yk (show Bd.check i≠0 from hc),i_t];refine hK _ _ ⟨?_,(ho.lV 1 rfl M.le_refl hM).below⟩;rw[htx,Yh hc];rfl
 rw[Yg (by simp[hc])] at htx;obtain⟨⟨n1,n2⟩,⟨n3,n4⟩,hvc,hk8⟩:=Bd.OE hc;simp only[hc,show decide ((0:Int)≠0)=false by decide,i_f];rw[Cn,Fu ho 0 rfl];refine bN ho fun b5 w3 ho=>?_;refine aQ 0 hv.oneK hv.oneC ho rfl fun w4 ho=>?_;have ho:OwnS M.A w w4 [obE b5 i.obj vk vc,itE b1 i vk vc,.mem M]:=ho;refine join fun J hJ=>?_;have hos:=Vl.kY i.obj;have hl1:=GF i.num (by omega) (by omega);have hl2:=GF i.gen (by omega) (by omega);have hnl:Bd.nl.length=1:=rfl;have a1:Bd.bI.length=6:=rfl;have a2:Bd.bX.length=9:=rfl;have hrl:(Bd.rest i).length≤i.obj.s.length+40:=by
  unfold Bd.rest;split
  ·simp only[Yp,hnl,a1,a2];omega
  ·simp
 have fin:∀{W:World} {o:Ob} {yk yc:Value} {N:Mem} {L:List Ent},OwnS M.A w W (L++([obE b5 o yk yc,itE b1 i vk vc,.mem N]++[]))→M.le N→OV N.A N.w (obV o yk yc) o→o.wt≤100000000→Bd.text i=Bd.M7 i o→J [.string ⟨(Bd.rest i).toArray⟩] W:=by
  intro W o yk yc N L ho hle hov hwo hR;have ho:=ho.front;refine hJ _ _ fun _=>?_;simp only[nU,gd,iN,dx,cx];rw[ob_v ho 0 rfl];refine aP ho (R:=fun v=>v=txtV (Wr.text o)) (O1 o _ W (OV.inw (ho.hasM 2 rfl) hov) hwo) ?_;rintro _ w14 rfl ho;have hwl:=Wr.Ny o;unfold Bd.M7 at hR;simp only[txtV,ex,fM];by_cases he:(Wr.text o).2=0
  case neg=>
   rw[Yh he] at hR;simp only[Yk (show (Wr.text o).2≠0 from he),i_t];refine hK _ _ ⟨?_,(ho.lV 2 rfl hle hM).below⟩;rw[hR];rfl
  rw[Yg (by simp[he])] at hR;simp only[he,show decide ((0:Int)≠0)=false by decide,i_f];generalize (Wr.text o).1=t at *;refine quiet ?_;refine q_do _ (fun _=>bC SX) (q_at _ (fun W hb=>aL kV ((ho.grow hb).cell 1 rfl 0 rfl)) ?_);refine gX _ (fun W hb=>mF (Ji i.num W (by omega) (by omega)) hb) ?_;refine q_do _ (fun _=>nA (b:=[32]) (by simp only[Yr,YG];omega)) ?_;refine q_do _ (fun _=>bC Tr) (q_at _ (fun W hb=>aL kV ((ho.grow hb).cell 1 rfl 1 rfl)) ?_);refine gX _ (fun W hb=>mF (Ji i.gen W (by omega) (by omega)) hb) ?_;refine q_do _ (fun _=>nA (by simp only[Yp,Yr,YG];omega)) ?_;refine q_do _ (fun _=>nA (b:=[32,111,98,106,10]) (by simp only[Yp,Yr,YG];omega)) ?_;refine q_do _ (fun _=>nA (by simp only[Yp,Yr,YG];omega)) ?_;refine q_do _ (fun _=>nA (b:=[10]) (by simp only[Yp,Yr,YG];omega)) ?_;refine q_do _ (fun _=>nA (by simp only[Yp,Yr,YG];omega)) ?_;refine q_do _ (fun _=>nA (b:=[101,110,100,111,98,106,10]) (by simp only[Yp,Yr,YG];omega)) ?_;intro w15 hb;refine hK _ _ ⟨?_,((ho.grow hb).lV 2 rfl hle hM).below⟩;rw[hR];show Value.tuple #[.string ⟨_⟩,.int .i64 0]=Value.tuple #[.string ⟨(Bd.EL i++t++Bd.nl++Bd.rest i++Bd.fY++Bd.nl).toArray⟩,.int .i64 0]
  congr 5
  simp[Bd.EL,Bd.objW,Bd.nl,Bd.fY]
 rw[cN,ob_k ho 0 rfl];by_cases h9:i.obj.k=9
 case neg=>
  rw[Yg h9] at htx;simp only[rs,Yl h9,i_f];have hr0:Bd.rest i=[]:=by rw[Bd.rest,Yg h9]
  rw[hr0] at fin;exact fin (L:=[]) ho M.le_refl hv (by omega) htx
 rw[Yh h9] at htx;simp only[rs,Yk h9,i_t];rw[eC,bV ho 0 rfl,dR,bJ ho 0 rfl];refine aU (ND hv.oneK hv.oneC i.obj _) |>.mpr ?_;obtain⟨cs,ha⟩:=hv.slices;have hdv:OV M.A M.w (obV (.mk 7 0 0 [] i.obj.keys i.obj.kids) vk vc) (.mk 7 0 0 [] i.obj.keys i.obj.kids):=ObAt.ov (o:=.mk 7 0 0 [] i.obj.keys i.obj.kids) (cs:=cs) ⟨ha.keys,ha.kids,ha.all⟩;have hdw:=Bd.EI i.obj;have hxw:(ob1 2 i.obj.s.length 0 []).wt=6:=Bd.RQ _;refine bN ho fun b7 w5 ho=>?_;refine aQ 0 hdv.oneK hdv.oneC ho rfl fun w6 ho=>?_;have ho:OwnS M.A w w6 [obE b7 (.mk 7 0 0 [] i.obj.keys i.obj.kids) vk vc,obE b5 i.obj vk vc,itE b1 i vk vc,.mem M]:=ho;rw[ob_v ho 0 rfl,Cd,ob_s ho 1 rfl,bF Ym];have hb2:∀{PK:PKT} {K:VWP} {n:Int} {W:World},DoX prog (aJ 25 #[(0,.int .i64 2),(1,.int .i64 n)]) W PK K=K (obV (ob1 2 n 0 []) nilS nilS) W:=aU (by kernel_rfl);rw[hb2];refine eD ho 3 rfl (TK (.mk 7 0 0 [] i.obj.keys i.obj.kids) (ob1 2 i.obj.s.length 0 []) _ _ Vl.lenK M w6 (by omega) (by omega) (by decide) (ho.hasM 3 rfl) hdv yB) ?_;rintro _ N w7 hle ⟨y,rfl,hy⟩ ho;have hy:OV N.A N.w y (Bd.pJ i.obj).1:=hy;have hset:Vl.set (.mk 7 0 0 [] i.obj.keys i.obj.kids) Vl.lenK (ob1 2 i.obj.s.length 0 [])=Bd.pJ i.obj:=rfl;rw[hset];obtain⟨yk,yc,ycs,rfl,hya⟩:=hy.open;have hdo:=Bd.Lj i.obj;generalize hD:Bd.pJ i.obj=D at *;simp only[errV,ex];refine bN ho fun b8 w8 ho=>?_;refine aQ 0 hya.keys.one hya.kids.one ho rfl fun w9 ho=>?_;have ho:OwnS M.A w w9 [obE b8 D.1 yk yc,obE b7 (.mk 7 0 0 [] i.obj.keys i.obj.kids) vk vc,obE b5 i.obj vk vc,itE b1 i vk vc,.mem N]:=ho;rw[fM];by_cases he:D.2=0
 case neg=>
  rw[Yh he] at htx;simp only[Yk (show D.2≠0 from he),i_t];refine hK _ _ ⟨?_,(ho.lV 4 rfl hle hM).below⟩;rw[htx];rfl
 rw[Yg (by simp[he])] at htx;simp only[he,show decide ((0:Int)≠0)=false by decide,i_f];rw[ob_v ho 0 rfl,Cd,ob_s ho 2 rfl];have e2:∀{PK:PKT} {K:VWP} {T:TypeId} {W:World},DoX prog (mBin .add T (.string ⟨#[115,116,114,101,97,109,10]⟩) (.string ⟨i.obj.s.toArray⟩)) W PK K=K (.string ⟨(Bd.bI++Bd.nl++i.obj.s).toArray⟩) W:=kW (a:=Bd.bI++Bd.nl) (by show 7+i.obj.s.length≤_;omega);have e3:∀{PK:PKT} {K:VWP} {T:TypeId} {W:World},DoX prog (mBin .add T (.string ⟨(Bd.bI++Bd.nl++i.obj.s).toArray⟩) (.string ⟨#[10,101,110,100,115,116,114,101,97,109,10]⟩)) W PK K=K (.string ⟨(Bd.bI++Bd.nl++i.obj.s++(Bd.nl++Bd.bX++Bd.nl)).toArray⟩) W:=kW (b:=Bd.nl++Bd.bX++Bd.nl) (by
  simp only[Yp,hnl,a1,a2];omega)
 rw[e2,e3];refine aQ 2 hya.keys.one hya.kids.one ho rfl fun w10 ho=>?_;have hr9:Bd.rest i=Bd.bI++Bd.nl++i.obj.s++(Bd.nl++Bd.bX++Bd.nl):=by rw[Bd.rest,Yh h9];simp only[YD]
 rw[hr9] at fin;exact fin (L:=[_,_]) ho hle hya.ov (by omega) htx
end
section
open Eng Go.RowKit
theorem Ij:dN prog 34=true:=by kernel_rfl
theorem Mc (s:List UInt8)(a:Int)(M:Mem)(w:World)(hs:s.length≤20000)(hM:M.has w):RetM prog 11 #[.string ⟨s.toArray⟩,.int .i64 a] M w (fun v N=>∃u,v=errV u (Bd.length s a).2∧OV N.A N.w u (Bd.length s a).1):=by
 refine cM hM fun K hK=>Gk ?_;unfold DK iN dx;refine bN (OwnS.memS hM) fun b4 w1 ho=>?_;refine cI (fun b=>.pointer (some ⟨b,0,none⟩)) [.int .i64 0] 30 (fun _=>by kernel_rfl) ho fun b5 w3 ho=>?_;have ho:OwnS M.A w w3 ([errE b5 0,obE b4 ob0 nilS nilS]++[.mem M]):=ho;have ho:=ho.perm Z8;have ho:OwnS M.A w w3 [.mem M,errE b5 0,obE b4 ob0 nilS nilS]:=ho;rw[Er];refine⟨_,rfl,?_⟩;have fail:∀{W:World} {L:List Ent} {x e:Int} {o:Ob} {vk vc:Value} {N:Mem},OwnS M.A w W (L++([.mem N,errE b5 x,obE b4 o vk vc]++[]))→M.le N→e≠0→Bd.length s a=(Vl.ob0,e) →
   aG { target:=.fn (.func 34) #[.pointer (some ⟨b5,0,none⟩),.pointer (some ⟨b4,0,none⟩)],args:=#[]++#[] } (.pointer (some ⟨b4,0,none⟩)) (.pointer (some ⟨b5,0,none⟩)) K [upE e] W:=by
  intro W L x e o vk vc N ho hle h0 hh;have ho:=ho.front;show pd prog _ K _ [upE e] W;unfold pd;refine iD (by simp) Ij (pZ (t0:=.pointer (some ⟨b5,0,none⟩)) (t1:=.pointer (some ⟨b4,0,none⟩)) ?_);simp only[qI,recV,recM,upE,cx];refine B4 (e:=e) ho 1 rfl fun w5 ho=>?_;have ho:OwnS M.A w w5 (.mem N::errE b5 e::obE b4 o vk vc::(L++[])):=ho;unfold gD iN dx;rw[bE rU (ho.cell 1 rfl 0 rfl)];simp only[rs,Yk (show e≠0 from h0),i_t];rw[D3];refine aQ 2 rfl rfl ho rfl fun w6 ho=>?_;refine yF (aX (ho.agg 2 rfl dM)) (aX (AtV.cell rU (ho.cell 1 rfl 0 rfl))) (hK _ _ N _ 0 ho rfl hle ?_);rw[hh];exact⟨_,rfl,eZ⟩
 have hread:=Bd.length.eq_1 s a;by_cases hr:0≤a∧a≤s.length
 case neg=>
  have hb:Bd.head s a=⟨0,0,0,1⟩:=by unfold Bd.head;rw[Yh (by omega)]
  rw[hb,Yh (by decide)] at hread;refine EU ho (fun h=>absurd h hr) fun _=>fail (L:=[]) ho M.le_refl (by decide) hread
 refine EU ho (fun _ b w4 ho=>?_) fun h=>absurd hr h;have ho:OwnS M.A w w4 [brE b s a,.mem M,errE b5 0,obE b4 ob0 nilS nilS]:=ho;have hh:Bd.head s a=Bd.Co s a:=by unfold Bd.head;rw[Yg (by omega)]
 refine yI ho 0 rfl (H3 b s a w4 (by omega) (ho.at_ 0 rfl)) ?_ fun e2 w5 hn ho=>?_
 rotate_left
 ·rw[←hh] at hn ⊢;rw[Yh hn] at hread;exact fail (L:=[_]) ho M.le_refl hn hread
 rintro _ _ w5 hz ⟨rfl,rfl⟩ ho;rw[←hh] at hz ho;rw[Yg (by simp[hz])] at hread;have hhb:=Bd.JZ hz;generalize Bd.head s a=hd at *;have ho:OwnS M.A w w5 [brE b s hd.t,.mem M,errE b5 0,obE b4 ob0 nilS nilS]:=ho;refine RX ho (Ig b s hd.t M w5 (by omega) (ho.pair.at_ 0 rfl)) ?_ fun e2 w8 hn ho=>?_
 rotate_left
 ·rw[Yh hn] at hread;exact fail (L:=[_]) ho M.le_refl hn hread
 rintro u N w8 hz2 hle hu ho;rw[Yg (by simp[hz2])] at hread;have hwt:(Ps.object s hd.t).1.wt≤1000000000:=by
  unfold Ps.object at hz2 ⊢;split at hz2
  ·simp[Ps.bad] at hz2
  ·rename_i hb
   rw[Yg hb];have h1:=Ps.LS s 24 hd.t hz2;have h2:=Ps.Dv hz2;omega
 generalize Ps.object s hd.t=x at *;obtain⟨xk,xc,xcs,rfl,hx⟩:=hu.open;refine bN ho fun b7 w9 ho=>?_;refine aQ 0 hx.keys.one hx.kids.one ho rfl fun w10 ho=>?_;have ho:OwnS M.A w w10 [obE b7 x.1 xk xc,brE b s x.2.1,.mem N,errE b5 0,obE b4 ob0 nilS nilS]:=ho;simp only[rs];rw[Hu];refine aU (br_a (ho.at_ 1 rfl)) |>.mpr ?_;refine aP ho (R:=fun v=>v=tokR (Lx.next s x.2.1)) (B9 s x.2.1 w10 (by omega)) ?_;rintro _ w11 rfl ho;simp only[tokR,ex];have hw:Bd.word s x.2.1 Bd.bI=if (Lx.next s x.2.1).2≠0 then (0,(Lx.next s x.2.1).2) else if (Lx.next s x.2.1).1.k=0 then (0,4) else if (Lx.next s x.2.1).1.k≠5∨(Lx.next s x.2.1).1.s≠Bd.bI then (0,3) else ((Lx.next s x.2.1).1.t,0):=rfl
 generalize Lx.next s x.2.1=t1 at *
 refine gJ ho fun b8 w12 ho=>?_;refine jS 0 ho rfl fun w13 ho=>?_;have ho:OwnS M.A w w13 [tokE b8 t1.1,obE b7 x.1 xk xc,brE b s x.2.1,.mem N,errE b5 0,obE b4 ob0 nilS nilS]:=ho;have fin:∀{W:World} {L:List Ent} {N':Mem} {o:Ob} {yk yc:Value},OwnS M.A w W (L++([.mem N',errE b5 0,obE b4 o yk yc]++[]))→M.le N'→OV N'.A N'.w (obV o yk yc) o→Bd.length s a=(o,0) →
   DoX prog (aC 30 (.pointer (some ⟨b5,0,none⟩)) (.int .i64 0)) W (aG { target:=.fn (.func 34) #[.pointer (some ⟨b5,0,none⟩),.pointer (some ⟨b4,0,none⟩)],args:=#[]++#[] } (.pointer (some ⟨b4,0,none⟩)) (.pointer (some ⟨b5,0,none⟩)) K) fun _ w=>
    kR prog [.cell (.pointer (some ⟨b4,0,none⟩)) 25,.cell (.pointer (some ⟨b5,0,none⟩)) 30] K [{ target:=.fn (.func 34) #[.pointer (some ⟨b5,0,none⟩),.pointer (some ⟨b4,0,none⟩)],args:=#[]++#[] }] .returning w:=by
  intro W L N' o yk yc ho hle hov hR;have ho:=ho.front;refine aW 1 ho rfl (by kernel_rfl) rfl (by simp) fun w' ho=>?_;refine iD (by simp) Ij (pZ (t0:=.pointer (some ⟨b5,0,none⟩)) (t1:=.pointer (some ⟨b4,0,none⟩)) ?_);simp only[qI,recV,recM,cx];refine BL ?_;unfold gD iN dx;rw[bE rU (ho.cell 1 rfl 0 rfl)];simp only[rs,show decide ((0:Int)≠0)=false by decide,i_f];refine yF (aX (ho.agg 2 rfl dM)) (aX (AtV.cell rU (ho.cell 1 rfl 0 rfl))) (hK _ _ N' _ 0 ho rfl hle ?_);rw[hR];exact⟨_,rfl,hov⟩
 have none_:Bd.length s a=(Vl.ob0,0)→CallX prog 36 #[] w13 (aG { target:=.fn (.func 34) #[.pointer (some ⟨b5,0,none⟩),.pointer (some ⟨b4,0,none⟩)],args:=#[]++#[] } (.pointer (some ⟨b4,0,none⟩)) (.pointer (some ⟨b5,0,none⟩)) K) fun t46 w=>
   DoX prog (aC 25 (.pointer (some ⟨b4,0,none⟩)) t46) w (aG { target:=.fn (.func 34) #[.pointer (some ⟨b5,0,none⟩),.pointer (some ⟨b4,0,none⟩)],args:=#[]++#[] } (.pointer (some ⟨b4,0,none⟩)) (.pointer (some ⟨b5,0,none⟩)) K) fun _ w=>
   DoX prog (aC 30 (.pointer (some ⟨b5,0,none⟩)) (.int .i64 0)) w (aG { target:=.fn (.func 34) #[.pointer (some ⟨b5,0,none⟩),.pointer (some ⟨b4,0,none⟩)],args:=#[]++#[] } (.pointer (some ⟨b4,0,none⟩)) (.pointer (some ⟨b5,0,none⟩)) K) fun _ w=>
    kR prog [.cell (.pointer (some ⟨b4,0,none⟩)) 25,.cell (.pointer (some ⟨b5,0,none⟩)) 30] K [{ target:=.fn (.func 34) #[.pointer (some ⟨b5,0,none⟩),.pointer (some ⟨b4,0,none⟩)],args:=#[]++#[] }] .returning w:=by
  intro hR;refine aP ho (R:=fun v=>v=obV Vl.ob0 nilS nilS) (LZ w13) ?_;rintro _ w14 rfl ho;refine aQ 5 rfl rfl ho rfl fun w15 ho=>?_;exact fin (L:=[_,_,_]) ho hle eZ hR
 by_cases hz3:t1.2=0
 case neg=>
  rw[Yh (.inr (by rw[hw,Yh hz3];exact hz3))] at hread;simp only[fM,Yk (show t1.2≠0 from hz3),rs,g_un,i_t];exact none_ hread
 by_cases h5:t1.1.k=5
 case neg=>
  have hb:(Bd.word s x.2.1 Bd.bI).2≠0:=by
   rw[hw,Yg (by simp[hz3])];by_cases h0:t1.1.k=0
   ·rw[Yh h0];decide
   ·rw[Yg h0,Yh (.inl h5)];decide
  rw[Yh (.inr hb)] at hread;simp only[fM,hz3,show decide ((0:Int)≠0)=false by decide,rs,cO,tk_k ho 0 rfl,Yk (show t1.1.k≠5 from h5),g_un,i_t];exact none_ hread
 by_cases hsw:t1.1.s=Bd.bI
 case neg=>
  have hsw':t1.1.s≠[115,116,114,101,97,109]:=hsw;rw[Yh (.inr (by rw[hw,Yg (by simp[hz3]),Yg (by omega),Yh (.inr hsw)];decide))] at hread;simp only[fM,hz3,h5,show decide ((0:Int)≠0)=false by decide,show decide ((5:Int)≠5)=false by decide,rs,cO,tk_k ho 0 rfl,cL,tk_s ho 0 rfl,Yk hsw',g_un,i_t];exact none_ hread
 have hsw':t1.1.s=[115,116,114,101,97,109]:=hsw;have hws:(Bd.word s x.2.1 Bd.bI).2=0:=by rw[hw,Yg (by simp[hz3]),Yg (by omega),Yg (by simp[h5,hsw])]
 by_cases h7:x.1.k=7
 case neg=>
  rw[Yh (.inl h7)] at hread;simp only[fM,hz3,h5,hsw',show decide ((0:Int)≠0)=false by decide,show decide ((5:Int)≠5)=false by decide,rs,cO,tk_k ho 0 rfl,cL,tk_s ho 0 rfl,ne_eq,not_true,Yi,cN,ob_k ho 1 rfl,h7,Yz,Yj,g_un,i_t];exact none_ hread
 rw[Yg (by simp[h7,hws])] at hread;simp only[fM,hz3,h5,hsw',show decide ((0:Int)≠0)=false by decide,show decide ((5:Int)≠5)=false by decide,rs,cO,tk_k ho 0 rfl,cL,tk_s ho 0 rfl,ne_eq,not_true,Yi,cN,ob_k ho 1 rfl,h7,g_un,i_f,ob_v ho 1 rfl];refine eD ho 3 rfl (Nt x.1 _ Vl.lenK N w13 (by omega) (ho.hasM 3 rfl) hx.ov) ?_;rintro _ N2 w14 hle2 ⟨u,rfl,hu⟩ ho;obtain⟨yk,yc,ycs,rfl,hy⟩:=hu.open;simp only[getV,ex];refine bN ho fun b10 w15 ho=>?_;refine aQ 0 hy.keys.one hy.kids.one ho rfl fun w16 ho=>?_;rw[ob_v ho 0 rfl];refine aQ 6 hy.keys.one hy.kids.one ho rfl fun w17 ho=>?_;exact fin (L:=[_,_,_,_]) ho (hle.trans hle2) hy.ov hread
end
section
open Eng Go.RowKit
namespace Bd
def Cj:It:=⟨4,1,Ck⟩
end Bd
theorem TZ {P:Program}{W:World}{b:Bool}:(mUn .not (.bool b)).run P W=.ok (.value (.bool (!b))) W:=bW (by simp[Op.unary])
theorem Kc {A:Nat→Prop}{w:World}:OV A w (obV Bd.Ck nilS nilS) Bd.Ck:=yB (k:=9) (n:=0) (g:=0) (s:=[97,98])
theorem KJ (w:World):Ret prog 22 #[] w (fun v w'=>v=itV Bd.Cj nilS nilS∧Below w.heap.size w w'):=by
 refine aO fun K hK=>zV ?_;unfold qP iN dx;refine P1 (Own.start w) fun b w1 ho=>?_;have h1:∀{PK:PKT} {K:VWP},DoX prog (aJ 25 #[(0,.int .i64 9),(3,.string ⟨#[97,98]⟩)]) w1 PK K=K (obV Bd.Ck nilS nilS) w1:=aU (by kernel_rfl);have h2:∀{PK:PKT} {K:VWP},DoX prog (aJ 27 #[(0,.int .i64 4),(1,.int .i64 1),(2,obV Bd.Ck nilS nilS)]) w1 PK K=K (itV Bd.Cj nilS nilS) w1:=aU (by kernel_rfl);rw[h1,h2];refine FT 0 rfl rfl ho rfl fun w2 ho=>?_;exact eG (aX (ho.agg 0 rfl LH)) (hK _ _ ⟨rfl,ho.done⟩)
section
variable {w:World}{PK:PKT}{S:Nat→Prop}{w0:World}{L:List Ent}
theorem oK {s:List UInt8}{a len:Int}{M:Mem}{K:Value→Value→VWP}(i:Nat)(ho:OwnS S w0 w L)(hi:L[i]?=some (.mem M))(hs:s.length≤20000)
  (k:∀b vk vc N w',M.le N→OV N.A N.w (obV (Bd.read s a len).1.obj vk vc) (Bd.read s a len).1.obj→OwnS S w0 w' (itE b (Bd.read s a len).1 vk vc::L.set i (.mem N))→K (.int .i64 (Bd.read s a len).2.1) (.int .i64 (Bd.read s a len).2.2) (.pointer (some ⟨b,0,none⟩)) w') :
  CallX prog 9 #[.string ⟨s.toArray⟩,.int .i64 a,.int .i64 len] w PK fun t w=>DoX prog (mExt t 0) w PK fun t0 w=>DoX prog (mExt t 1) w PK fun t1 w=>DoX prog (mExt t 2) w PK fun t2 w=>
   DoX prog (aM 27) w PK fun p w=>DoX prog (aC 27 p t0) w PK fun _ w=>K t1 t2 p w:=by
 refine eD ho i hi (R5 s a len M w hs (ho.hasM i hi)) ?_;rintro _ N w1 hle ⟨vk,vc,rfl,hov⟩ ho;simp only[ex];refine P1 ho fun b w2 ho=>?_;refine FT (i':=(Bd.read s a len).1) 0 hov.oneK hov.oneC ho rfl fun w3 ho=>?_;exact k b vk vc N w3 hle hov ho
theorem Vj {s:List UInt8}{a len:Int}{M:Mem}{K:Value→Value→VWP}(i:Nat)(ho:OwnS S w0 w L)(hi:L[i]?=some (.mem M))(hs:s.length≤20000)
  (k:∀b vk vc N w',M.le N→OV N.A N.w (obV (Bd.read s a len).1.obj vk vc) (Bd.read s a len).1.obj→OwnS S w0 w' (itE b (Bd.read s a len).1 vk vc::L.set i (.mem N))→K (.int .i64 (Bd.read s a len).2.1) (.int .i64 (Bd.read s a len).2.2) (.pointer (some ⟨b,0,none⟩)) w') :
  CallX prog 10 #[.string ⟨s.toArray⟩,.int .i64 a,.int .i64 len] w PK fun t w=>DoX prog (mExt t 0) w PK fun t0 w=>DoX prog (mExt t 1) w PK fun t1 w=>DoX prog (mExt t 2) w PK fun t2 w=>
   DoX prog (aM 27) w PK fun p w=>DoX prog (aC 27 p t0) w PK fun _ w=>K t1 t2 p w:=by
 refine eD ho i hi (Mq s a len M w hs (ho.hasM i hi)) ?_;rintro _ N w1 hle ⟨vk,vc,rfl,hov⟩ ho;simp only[ex];refine P1 ho fun b w2 ho=>?_;refine FT (i':=(Bd.read s a len).1) 0 hov.oneK hov.oneC ho rfl fun w3 ho=>?_;exact k b vk vc N w3 hle hov ho
theorem Hy {s:List UInt8}{a:Int}{M:Mem}{K:Value→VWP}(i:Nat)(ho:OwnS S w0 w L)(hi:L[i]?=some (.mem M))(hs:s.length≤20000)
  (k:∀b vk vc N w',M.le N→OV N.A N.w (obV (Bd.length s a).1 vk vc) (Bd.length s a).1→OwnS S w0 w' (obE b (Bd.length s a).1 vk vc::L.set i (.mem N))→K (.int .i64 (Bd.length s a).2) (.pointer (some ⟨b,0,none⟩)) w') :
  CallX prog 11 #[.string ⟨s.toArray⟩,.int .i64 a] w PK fun t w=>DoX prog (mExt t 0) w PK fun t0 w=>DoX prog (mExt t 1) w PK fun t1 w=>
   DoX prog (aM 25) w PK fun p w=>DoX prog (aC 25 p t0) w PK fun _ w=>K t1 p w:=by
 refine eD ho i hi (Mc s a M w hs (ho.hasM i hi)) ?_;rintro _ N w1 hle ⟨u,rfl,hu⟩ ho;obtain⟨vk,vc,cs,rfl,ha⟩:=hu.open;simp only[errV,ex];refine bN ho fun b w2 ho=>?_;refine aQ (o':=(Bd.length s a).1) 0 ha.keys.one ha.kids.one ho rfl fun w3 ho=>?_;exact k b vk vc N w3 hle ha.ov ho
theorem QH {s:List UInt8}{a:Int}{M:Mem}{K:Value→VWP}(i:Nat)(ho:OwnS S w0 w L)(hi:L[i]?=some (.mem M))(hs:s.length≤20000)
  (k:∀b vk vc N w',M.le N→OV N.A N.w (obV (Bd.length s a).1 vk vc) (Bd.length s a).1→OwnS S w0 w' (obE b (Bd.length s a).1 vk vc::L.set i (.mem N))→K (.int .i64 (Bd.length s a).2) (.pointer (some ⟨b,0,none⟩)) w') :
  CallX prog 12 #[.string ⟨s.toArray⟩,.int .i64 a] w PK fun t w=>DoX prog (mExt t 0) w PK fun t0 w=>DoX prog (mExt t 1) w PK fun t1 w=>
   DoX prog (aM 25) w PK fun p w=>DoX prog (aC 25 p t0) w PK fun _ w=>K t1 p w:=by
 refine eD ho i hi (Kq s a M w hs (ho.hasM i hi)) ?_;rintro _ N w1 hle ⟨u,rfl,hu⟩ ho;obtain⟨vk,vc,cs,rfl,ha⟩:=hu.open;simp only[errV,ex];refine bN ho fun b w2 ho=>?_;refine aQ (o':=(Bd.length s a).1) 0 ha.keys.one ha.kids.one ho rfl fun w3 ho=>?_;exact k b vk vc N w3 hle ha.ov ho
end
end
section
open Eng Go.RowKit
theorem Hl (w:World)(ht:Tb w):Ret prog 8 #[] w (fun v w'=>v=.bool true∧Below w.heap.size w w'):=by
 refine aO fun K hK=>xZ ?_;unfold pG iN dx gtx gfx ctx etx efx cx;have hM:(Mem.all w).has w:=Mem.QU w;have ho:OwnS (Mem.all w).A w w [.mem (Mem.all w)]:=OwnS.memS hM;have tb:∀{W:World} {L:List Ent} {N:Mem} (j:Nat),OwnS (Mem.all w).A w W L→L[j]?=some (.mem N)→(Mem.all w).le N→Tb W:=fun j ho hj hle=>ht.mono (ho.lV j hj hle hM).below;have m1:∀{PK:PKT} {K:VWP},DoX prog (aJ 25 #[(0,.int .i64 2),(1,.int .i64 7)]) w PK K=K (obV (.mk 2 7 0 [] [] []) nilS nilS) w:=aU (by kernel_rfl);have m2:∀{PK:PKT} {K:VWP},DoX prog (aJ 27 #[(0,.int .i64 3),(2,obV (.mk 2 7 0 [] [] []) nilS nilS)]) w PK K=K (itV ⟨3,0,.mk 2 7 0 [] [] []⟩ nilS nilS) w:=aU (by kernel_rfl);rw[m1,m2];refine aP ho (R:=fun v=>v=txtV (Bd.text ⟨3,0,.mk 2 7 0 [] [] []⟩)) (Ic ⟨3,0,.mk 2 7 0 [] [] []⟩ (Mem.all w) w ht (by decide) hM (yB (k:=2) (n:=7) (g:=0) (s:=[]))) ?_;rintro _ w1 rfl ho;rw[Bd.smp1];simp only[txtV,ex];refine aP ho (R:=fun v=>v=itV Bd.Cj nilS nilS) (KJ w1) ?_;rintro _ w2 rfl ho;refine aP ho (R:=fun v=>v=txtV (Bd.text Bd.Cj)) (Ic Bd.Cj (Mem.all w) w2 (tb 0 ho rfl (Mem.all w).le_refl) (by decide) (ho.hasM 0 rfl) Kc) ?_;rintro _ w3 rfl ho;rw[show Bd.text Bd.Cj=(Bd.sF,0) from Bd.smp2];simp only[txtV,ex];refine oK (s:=Bd.sA) 0 ho rfl (by decide) fun b5 ak ac N1 w4 h1 ov1 ho=>?_;have ho:OwnS (Mem.all w).A w w4 [itE b5 (Bd.read Bd.sA 0 (-1)).1 ak ac,.mem N1]:=ho;refine oK (s:=Bd.sB) 1 ho rfl (by decide) fun b8 _ _ N2 w5 h2 _ ho=>?_;have ho:OwnS (Mem.all w).A w w5 [itE b5 (Bd.read Bd.sA 0 (-1)).1 ak ac,.mem N2]:=ho.tail;refine oK (s:=Bd.sC) 1 ho rfl (by decide) fun b11 _ _ N3 w6 h3 _ ho=>?_;have ho:OwnS (Mem.all w).A w w6 [itE b5 (Bd.read Bd.sA 0 (-1)).1 ak ac,.mem N3]:=ho.tail;refine oK (s:=Bd.sD) 1 ho rfl (by decide) fun b14 _ _ N4 w7 h4 _ ho=>?_;have ho:OwnS (Mem.all w).A w w7 [itE b5 (Bd.read Bd.sA 0 (-1)).1 ak ac,.mem N4]:=ho.tail;refine oK (s:=Bd.sE) 1 ho rfl (by decide) fun b17 _ _ N5 w8 h5 _ ho=>?_;have ho:OwnS (Mem.all w).A w w8 [itE b5 (Bd.read Bd.sA 0 (-1)).1 ak ac,.mem N5]:=ho.tail;refine oK (s:=Bd.sF) 1 ho rfl (by decide) fun b20 fk fc N6 w9 h6 ov6 ho=>?_;have ho:OwnS (Mem.all w).A w w9 [itE b20 (Bd.read Bd.sF 0 2).1 fk fc,itE b5 (Bd.read Bd.sA 0 (-1)).1 ak ac,.mem N6]:=ho;refine oK (s:=Bd.sG) 2 ho rfl (by decide) fun b23 gk gc N7 w10 h7 ov7 ho=>?_;have ho:OwnS (Mem.all w).A w w10 [itE b23 (Bd.read Bd.sG 0 3).1 gk gc,itE b20 (Bd.read Bd.sF 0 2).1 fk fc,itE b5 (Bd.read Bd.sA 0 (-1)).1 ak ac,.mem N7]:=ho;refine oK (s:=Bd.sG) 3 ho rfl (by decide) fun b26 _ _ N8 w11 h8 _ ho=>?_;have ho:OwnS (Mem.all w).A w w11 [itE b23 (Bd.read Bd.sG 0 3).1 gk gc,itE b20 (Bd.read Bd.sF 0 2).1 fk fc,itE b5 (Bd.read Bd.sA 0 (-1)).1 ak ac,.mem N8]:=ho.tail;refine oK (s:=Bd.sH) 3 ho rfl (by decide) fun b29 _ _ N9 w12 h9 _ ho=>?_;have ho:OwnS (Mem.all w).A w w12 [itE b23 (Bd.read Bd.sG 0 3).1 gk gc,itE b20 (Bd.read Bd.sF 0 2).1 fk fc,itE b5 (Bd.read Bd.sA 0 (-1)).1 ak ac,.mem N9]:=ho.tail;refine oK (s:=Bd.sI) 3 ho rfl (by decide) fun b32 _ _ N10 w13 h10 _ ho=>?_;have ho:OwnS (Mem.all w).A w w13 [itE b23 (Bd.read Bd.sG 0 3).1 gk gc,itE b20 (Bd.read Bd.sF 0 2).1 fk fc,itE b5 (Bd.read Bd.sA 0 (-1)).1 ak ac,.mem N10]:=ho.tail;refine oK (s:=Bd.sJ) 3 ho rfl (by decide) fun b35 _ _ N11 w14 h11 _ ho=>?_;have ho:OwnS (Mem.all w).A w w14 [itE b23 (Bd.read Bd.sG 0 3).1 gk gc,itE b20 (Bd.read Bd.sF 0 2).1 fk fc,itE b5 (Bd.read Bd.sA 0 (-1)).1 ak ac,.mem N11]:=ho.tail;refine Hy (s:=Bd.sK) 3 ho rfl (by decide) fun b38 kk kc N12 w15 h12 ov12 ho=>?_;have ho:OwnS (Mem.all w).A w w15 [obE b38 (Bd.length Bd.sK 0).1 kk kc,itE b23 (Bd.read Bd.sG 0 3).1 gk gc,itE b20 (Bd.read Bd.sF 0 2).1 fk fc,itE b5 (Bd.read Bd.sA 0 (-1)).1 ak ac,.mem N12]:=ho;refine Hy (s:=Bd.sL) 4 ho rfl (by decide) fun b40 lk lc N13 w16 h13 ov13 ho=>?_;have ho:OwnS (Mem.all w).A w w16 [obE b40 (Bd.length Bd.sL 0).1 lk lc,obE b38 (Bd.length Bd.sK 0).1 kk kc,itE b23 (Bd.read Bd.sG 0 3).1 gk gc,itE b20 (Bd.read Bd.sF 0 2).1 fk fc,itE b5 (Bd.read Bd.sA 0 (-1)).1 ak ac,.mem N13]:=ho;have hle6:=((((h1.trans h2).trans h3).trans h4).trans h5).trans h6;have hle67:=((((((h7.trans h8).trans h9).trans h10).trans h11).trans h12).trans h13);have hle7:=(((((h8.trans h9).trans h10).trans h11).trans h12).trans h13);have hle:=hle6.trans hle67;refine aP ho (R:=fun v=>v=hdV (Bd.head Bd.sM 0)) (Hf Bd.sM 0 w16 (by decide)) ?_;rintro _ w17 rfl ho;rw[Bd.XZ];simp only[hdV,ex];refine aP ho (R:=fun v=>v=hdV (Bd.head [] 1)) (Hf [] 1 w17 (by decide)) ?_;rintro _ w18 rfl ho;have hX:=Bd.Xx;simp only[hdV,ex,hX];have hA:=Bd.smp3;have hB:=Bd.smp4;have hC:=Bd.smp5;have hD:=Bd.smp6;have hE:=Bd.smp7;have hF:=Bd.smp8;have hG:=Bd.smp9;have hG2:=Bd.XA;have hH:=Bd.Xe;have hI:=Bd.Yd;have hJ:=Bd.XI;have hKK:=Bd.Xa;have hL:=Bd.W9;have hF1:(Bd.read Bd.sF 0 2).1=Bd.Cj:=by
  obtain⟨f1,f2,f3,_⟩:=hF;rw[Ob.Ii] at f3;generalize (Bd.read Bd.sF 0 2).1=x at *;obtain⟨a,b,c⟩:=x;simp only at f1 f2 f3;rw[f1,f2,f3];rfl
 rw[hF1] at ho ov6;have hF2:=hF.2.2.2;rw[hB,hC,hD,hE,hG2,hH,hI,hJ,hF2];have hA2:=hA.2.2;rw[hA2];clear hF hF1 hF2 hB hC hD hE hG2 hH hI hJ;generalize Bd.read Bd.sA 0 (-1)=rA at *;generalize Bd.read Bd.sG 0 3=rG at *;generalize Bd.length Bd.sK 0=rK at *;generalize Bd.length Bd.sL 0=rL at *;have e1:∀{PK:PKT} {K:VWP} {W:World} {xo yo:Operand},DoX prog (mEq .neq 9 xo yo (.string ⟨Bd.sN.toArray⟩) (.string ⟨#[51,32,48,32,111,98,106,10,55,10,101,110,100,111,98,106,10]⟩)) W PK K=K (.bool false) W:=by
  intro PK K W xo yo;have:=Lm (P:=prog) (w:=W) (PK:=PK) (K:=K) (T:=9) (xo:=xo) (yo:=yo) (a:=Bd.sN) (b:=Bd.sN);rw[Yl (fun h=>h rfl)] at this;exact this
 have e2:∀{PK:PKT} {K:VWP} {W:World} {xo yo:Operand},DoX prog (mEq .neq 9 xo yo (.string ⟨Bd.sF.toArray⟩) (.string ⟨#[52,32,49,32,111,98,106,10,60,60,47,76,101,110,103,116,104,32,50,62,62,10,115,116,114,101,97,109,10,97,98,10,101,110,100,115,116,114,101,97,109,10,101,110,100,111,98,106,10]⟩)) W PK K=K (.bool false) W:=by
  intro PK K W xo yo;have:=Lm (P:=prog) (w:=W) (PK:=PK) (K:=K) (T:=9) (xo:=xo) (yo:=yo) (a:=Bd.sF) (b:=Bd.sF);rw[Yl (fun h=>h rfl)] at this;exact this
 have ln:∀{PK:PKT} {K:VWP},DoX prog (aA 2 (.pointer (some ⟨b5,0+2+1,none⟩))) w18 PK K=K (.int .i64 rA.1.obj.n) w18:=aU (aL nI65 (ho.cell 4 rfl 3 rfl));simp only[rs,e1,e2,EY,Cn,vI,vC ho 4 rfl,ln,hA.1,hA.2.1,ne_eq,not_true_eq_false,Yi];refine NI (fun W=>OwnS (Mem.all w).A w W [obE b40 rL.1 lk lc,obE b38 rK.1 kk kc,itE b23 rG.1 gk gc,itE b20 Bd.Cj fk fc,itE b5 rA.1 ak ac,.mem N13]) ho.drew ?_;refine q_do _ (fun _=>bC SX) (q_at (.int .i64 4) (fun W h=>aL kV (h.cell 3 rfl 0 rfl)) (q_ne ?_));simp only[ne_eq,not_true_eq_false,Yi,gq];refine q_do _ (fun _=>bC Tr) (q_at (.int .i64 1) (fun W h=>aL kV (h.cell 3 rfl 1 rfl)) (q_ne ?_));simp only[ne_eq,not_true_eq_false,Yi];refine q_pf ?_;simp only[gq];refine q_do _ (fun _=>bC SS) (q_at (obV Bd.Ck fk fc) (fun W h=>dH (AtV.agg dM rfl fun j u hj=>by
  have:=(Ent.cells b20 (itC Bd.Cj fk fc) 27);exact aV (T:=27) (cs:=itC Bd.Cj fk fc) (h.at_ 3 rfl) (by rw[show (0+2+j)=j+2 by omega];exact hj))) ?_)
 refine gX (itV Bd.Cj nilS nilS) (fun W h=>(KJ W).mono fun v w' r=>⟨r.1,h.grow r.2⟩) ?_;refine q_do (obV Bd.Ck nilS nilS) (fun _=>by kernel_rfl) ?_;refine gX (.bool (Ob.eqb Bd.Ck Bd.Ck)) (fun W h=>(Fe _ Bd.Ck Bd.Ck _ _ W (Yw _) (by decide) (OV.inw (h.hasM 5 rfl) (OV.le hle67 ov6)) Kc).mono fun v w' r=>⟨r.1,h.grow r.2⟩) ?_;rw[Ob.Ii Bd.Ck Bd.Ck |>.2 rfl];refine q_do _ (fun _=>TZ) (q_pf ?_);simp only[gq,YE];refine Uo Ym (X3 ?_);rw[show IntKind.wrap .i64 ((Bd.sF.length:Int) - 1)=48 by decide];refine q_ne ?_;simp only[ne_eq,not_true_eq_false,Yi];refine q_pf ?_;simp only[gq];refine q_ne ?_;simp only[ne_eq,not_true_eq_false,Yi];refine q_pf ?_;simp only[gq];refine q_do _ (fun _=>bC SS) (q_do _ (fun _=>bC Ug) (q_at (.string ⟨rG.1.obj.s.toArray⟩) (fun W h=>aL qQ (h.cell 2 rfl 5 rfl)) ?_));rw[hG.1];refine Ww (a:=[97,98,99]) (b:=[97,98,99]) ?_;simp only[ne_eq,not_true_eq_false,Yi];refine q_pf ?_;simp only[gq];obtain⟨gcs,hgs⟩:=ov7.slices;have hks:=hgs.keys.le hle7;rw[hG.2.1] at hks;refine q_do _ (fun _=>bC SS) (q_do _ (fun _=>bC RZ) (q_at gk (fun W h=>aL Md (h.cell 2 rfl 6 rfl)) ?_));refine q_at (.int .i64 0) (fun W h=>Pd Yn (hks.now (h.hasM 5 rfl))) (q_ne ?_);simp only[ne_eq,not_true_eq_false,Yi];refine q_pf ?_;simp only[gq];rw[hG.2.2];refine q_ne ?_;simp only[ne_eq,not_true_eq_false,Yi];refine q_pf ?_;simp only[gq];refine q_ne ?_;simp only[ne_eq,not_true_eq_false,Yi];refine q_pf ?_;simp only[gq];refine q_ne ?_;simp only[ne_eq,not_true_eq_false,Yi];refine q_pf ?_;simp only[gq];refine q_ne ?_;simp only[ne_eq,not_true_eq_false,Yi];refine q_pf ?_;simp only[gq];refine q_ne ?_;simp only[ne_eq,not_true_eq_false,Yi];refine q_pf ?_;clear ho ln;intro w19 ho;have ho:OwnS (Mem.all w).A w w19 [obE b40 rL.1 lk lc,obE b38 rK.1 kk kc,itE b23 rG.1 gk gc,itE b20 Bd.Cj fk fc,itE b5 rA.1 ak ac,.mem N13]:=ho;simp only[rs,cN,vI,ob_k ho 1 rfl,ob_n ho 1 rfl,ob_k ho 0 rfl,hKK.1,hKK.2.1,hKK.2.2,hL.1,hL.2,Yj];refine aP ho (R:=fun v=>v=itV Bd.Cj nilS nilS) (KJ w19) ?_;rintro _ w20 rfl ho;refine aP ho (R:=fun v=>v=.int .i64 (Bd.check Bd.Cj)) (B8 Bd.Cj w20 (by decide) Kc) ?_;rintro _ w21 rfl ho;have m3:∀{PK:PKT} {K:VWP},DoX prog (aJ 25 #[(0,.int .i64 8),(1,.int .i64 1)]) w21 PK K=K (obV (.mk 8 1 0 [] [] []) nilS nilS) w21:=aU (by kernel_rfl);have m4:∀{PK:PKT} {K:VWP},DoX prog (aJ 27 #[(0,.int .i64 1),(2,obV (.mk 8 1 0 [] [] []) nilS nilS)]) w21 PK K=K (itV ⟨1,0,.mk 8 1 0 [] [] []⟩ nilS nilS) w21:=aU (by kernel_rfl);rw[show Bd.check Bd.Cj=0 from Bd.XG];simp only[rs,Yj,m3,m4];refine aP ho (R:=fun v=>v=.int .i64 (Bd.check ⟨1,0,.mk 8 1 0 [] [] []⟩)) (B8 ⟨1,0,.mk 8 1 0 [] [] []⟩ w21 (by decide) (yB (k:=8) (n:=1) (g:=0) (s:=[]))) ?_;rintro _ w22 rfl ho;rw[Bd.WW];simp only[rs,Yj];exact hK _ _ ⟨rfl,(ho.lV 5 rfl hle hM).below⟩
end
section
open Eng Go.RowKit
namespace Bd
theorem K8 {s:List UInt8}{a:Int}(hs:s.length≤20000)(h:(Ps.object s a).2.2=0):(Ps.object s a).1.wt≤900000000:=by
 unfold Ps.object at h ⊢;split at h
 ·simp[Ps.bad] at h
 ·rename_i hb
  rw[Yg hb];have h1:=Ps.LS s 24 a h;have h2:=Ps.Dv h;omega
theorem H4 {e:Int}:(bad e).1.obj.wt≤1000000000:=by
 show Vl.ob0.wt≤_;have h:Vl.ob0.wt=6+0+Pl.tot []+Ob.wts []:=Vl.kY _;have e5:Pl.tot []=0:=rfl;have e6:Ob.wts []=0:=by simp[Ob.wts]
 omega
theorem Vf (o:Ob)(data:List UInt8):(strm o data).wt≤o.wt+data.length:=by
 have h1:=Vl.Ca o Vl.lenK;have e1:(strm o data).wt=6+data.length+Pl.tot (Vl.bD o Vl.lenK).keys+Ob.wts (Vl.bD o Vl.lenK).kids:=Vl.kY _;have e2:=Vl.kY (Vl.bD o Vl.lenK);omega
theorem Q1 {s:List UInt8}{a:Nat}{len:Int}{o:Ob}(h:(stream s a len o).2.2=0):(stream s a len o).1.wt≤o.wt+s.length:=by
 unfold stream at h ⊢;split
 ·rename_i g;rw[Yh g] at h;exact absurd h g
 rename_i g1
 rw[Yg g1] at h;split
 ·rename_i g;rw[Yh g] at h;exact absurd h g
 rename_i g2
 rw[Yg g2] at h;split
 ·rename_i g;rw[Yh g] at h;cases h
 rename_i g3
 rw[Yg g3] at h;split
 ·rename_i g;rw[Yh g] at h;cases h
 rename_i g4
 rw[Yg g4] at h;split
 ·rename_i g;rw[Yh g] at h;exact absurd h g
 refine Zb (Vf _ _) ?_;simp only[YC,Yv];omega
theorem QB {s:List UInt8}{h:Hd}{o:Ob}{a:Int}(ho:o.wt≤1000000000):(tail s h o a).1.obj.wt≤1000000000:=by
 unfold tail;split
 ·exact H4
 ·exact ho
theorem VN {s:List UInt8}{a len:Int}(hs:s.length≤20000):(read s a len).1.obj.wt≤1000000000:=by
 unfold read;split
 ·exact H4
 split
 ·exact H4
 split
 ·exact H4
 rename_i h3
 have hw:=K8 (a:=(head s a).t) hs (by omega);split
 ·exact H4
 unfold body;split
 ·split
  ·exact H4
  ·rename_i h5
   have:=Q1 (show (stream s (word s (Ps.object s (head s a).t).2.1 bI).1.toNat len (Ps.object s (head s a).t).1).2.2=0 by omega);exact QB (by omega)
 ·exact QB (by omega)
theorem Qe {s:List UInt8}{a:Int}(hs:s.length≤20000):(length s a).1.wt≤1000000000:=by
 have h0:Vl.ob0.wt≤1000000000:=H4 (e:=0);unfold length;split
 ·exact h0
 split
 ·exact h0
 rename_i h3
 have hw:=K8 (a:=(head s a).t) hs (by omega);split
 ·exact h0
 ·exact Zb Vl.Wi (by omega)
end Bd
theorem JX (s:List UInt8)(a len:Int)(i:It)(vk vc:Value)(W:World)(ht:Tb W)(hv:OV (InW W) W (obV i.obj vk vc) i.obj)(hw:i.obj.wt≤50000000) :
  Ret prog 3 #[.string ⟨s.toArray⟩,.int .i64 a,.int .i64 len,itV i vk vc] W (fun v w'=>v=.bool true∧Below W.heap.size W w'):=by
 refine aO fun K hK=>qU ?_;unfold jH iN dx gfx cfx efx cx;have hM:(Mem.all W).has W:=Mem.QU W;have hv:OV (Mem.all W).A (Mem.all W).w (obV i.obj vk vc) i.obj:=hv;refine PJ i hv.oneK hv.oneC (OwnS.memS hM) fun b7 w1 ho=>?_;have ho:OwnS (Mem.all W).A W w1 [itE b7 i vk vc,.mem (Mem.all W)]:=ho;have tb:∀{w:World} {L:List Ent} {N:Mem} (j:Nat),OwnS (Mem.all W).A W w L→L[j]?=some (.mem N)→(Mem.all W).le N→Tb w:=fun j ho hj hle=>ht.mono (ho.lV j hj hle hM).below;have lives:∀{w:World} {N:Mem} {L:List Ent},OwnS (Mem.all W).A W w (L++([.mem N]++[]))→(Mem.all W).le N→CallX prog 8 #[] w (pk K) fun t47 w=>K (.returned t47) w:=by
  intro w N L ho hle;have ho:=ho.front;refine aP ho (R:=fun v=>v=.bool true) (Hl w (tb 0 ho rfl hle)) ?_;rintro _ w2 rfl ho;exact hK _ _ ⟨rfl,(ho.lV 0 rfl hle hM).below⟩
 have ls:∀{PK:PKT} {K:VWP} {w:World},OwnS (Mem.all W).A W w [itE b7 i vk vc,.mem (Mem.all W)]→DoX prog (aA 9 (.pointer (some ⟨b7,0+2+3,none⟩))) w PK K=K (.string ⟨i.obj.s.toArray⟩) w:=fun ho=>aU (aL qQ (ho.cell 0 rfl 5 rfl));rw[bF Ym];simp only[rs];by_cases hl:(3000:Int) < (s.length:Int)
 ·simp only[Yk hl,rs,g_un];exact lives (L:=[_]) ho (Mem.all W).le_refl
 simp only[Yl hl,rs,Cn,Fu ho 0 rfl];refine aP ho (R:=fun v=>v=.int .i64 (Vl.size i.obj:Nat)) (Qa _ i.obj _ w1 (Yw _) (OV.inw (ho.hasM 1 rfl) hv) (by omega)) ?_;rintro _ w2 rfl ho;by_cases h1:(400:Int) < (Vl.size i.obj:Nat)
 ·simp only[Yk h1,rs,g_un];exact lives (L:=[_]) ho (Mem.all W).le_refl
 simp only[Yl h1,rs,Cn,Cd,ls ho,bF Ym];by_cases h2:(3000:Int) < (i.obj.s.length:Int)
 ·simp only[Yk h2,rs];exact lives (L:=[_]) ho (Mem.all W).le_refl
 simp only[Yl h2,rs];have hs:s.length≤20000:=by omega
 have hrw:=Bd.VN (a:=a) (len:=len) hs;have hlw:=Bd.Qe (a:=a) hs;refine oK 1 ho rfl hs fun b9 k1 c1 N1 w3 g1 ov1 ho=>?_;have ho:OwnS (Mem.all W).A W w3 [itE b9 (Bd.read s a len).1 k1 c1,itE b7 i vk vc,.mem N1]:=ho;refine Vj 2 ho rfl hs fun b12 k2 c2 N2 w4 g2 ov2 ho=>?_;have ho:OwnS (Mem.all W).A W w4 [itE b12 (Bd.read s a len).1 k2 c2,itE b9 (Bd.read s a len).1 k1 c1,itE b7 i vk vc,.mem N2]:=ho;refine Hy 3 ho rfl hs fun b15 k3 c3 N3 w5 g3 ov3 ho=>?_;have ho:OwnS (Mem.all W).A W w5 [obE b15 (Bd.length s a).1 k3 c3,itE b12 (Bd.read s a len).1 k2 c2,itE b9 (Bd.read s a len).1 k1 c1,itE b7 i vk vc,.mem N3]:=ho;refine QH 4 ho rfl hs fun b17 k4 c4 N4 w6 g4 ov4 ho=>?_;have ho:OwnS (Mem.all W).A W w6 [obE b17 (Bd.length s a).1 k4 c4,obE b15 (Bd.length s a).1 k3 c3,itE b12 (Bd.read s a len).1 k2 c2,itE b9 (Bd.read s a len).1 k1 c1,itE b7 i vk vc,.mem N4]:=ho;have hle:=((g1.trans g2).trans g3).trans g4;refine aP ho (R:=fun v=>v=hdV (Bd.head s a)) (Hf s a w6 (by omega)) ?_;rintro _ w7 rfl ho;simp only[hdV,ex];refine aP ho (R:=fun v=>v=hdV (Bd.head s a)) (CZ s a w7 (by omega)) ?_;rintro _ w8 rfl ho;simp only[hdV,ex];rw[it_v ho 4 rfl];refine aP ho (R:=fun v=>v=txtV (Bd.text i)) (Ic i N4 w8 (tb 5 ho rfl hle) hw (ho.hasM 5 rfl) (hv.le hle)) ?_;rintro _ w9 rfl ho;simp only[txtV,ex];rw[it_v ho 4 rfl];refine aP ho (R:=fun v=>v=txtV (Bd.text i)) (Mv i N4 w9 hw (ho.hasM 5 rfl) (hv.le hle)) ?_;rintro _ w10 rfl ho;simp only[txtV,ex,rs,EY,vC ho 3 rfl,vC ho 2 rfl,LQ,FW ho 3 rfl,FW ho 2 rfl,Cn,Fu ho 3 rfl,Fu ho 2 rfl,ne_eq,not_true_eq_false,Yi];refine aP ho (R:=fun v=>v=.bool (Ob.eqb (Bd.read s a len).1.obj (Bd.read s a len).1.obj)) (Fe _ _ _ _ _ w10 (Yw _) hrw (OV.inw (ho.hasM 5 rfl) (ov1.le ((g2.trans g3).trans g4))) (OV.inw (ho.hasM 5 rfl) (ov2.le (g3.trans g4)))) ?_;rintro _ w11 rfl ho;rw[Ob.Ii (Bd.read s a len).1.obj (Bd.read s a len).1.obj |>.2 rfl];simp only[rs,YE,ne_eq,not_true_eq_false,Yi,ob_v ho 1 rfl,ob_v ho 0 rfl];refine aP ho (R:=fun v=>v=.bool (Ob.eqb (Bd.length s a).1 (Bd.length s a).1)) (Fe _ _ _ _ _ w11 (Yw _) hlw (OV.inw (ho.hasM 5 rfl) (ov3.le g4)) (OV.inw (ho.hasM 5 rfl) ov4)) ?_;rintro _ w12 rfl ho;rw[Ob.Ii (Bd.length s a).1 (Bd.length s a).1 |>.2 rfl];simp only[rs,YE,ne_eq,not_true_eq_false,Yi];refine NI (fun w=>OwnS (Mem.all W).A W w [obE b17 (Bd.length s a).1 k4 c4,obE b15 (Bd.length s a).1 k3 c3,itE b12 (Bd.read s a len).1 k2 c2,itE b9 (Bd.read s a len).1 k1 c1,itE b7 i vk vc,.mem N4]) ho.drew ?_;refine q_eq ?_;simp only[Yj,gq];refine q_eq ?_;simp only[Yj];refine q_pt ?_;simp only[gq];refine q_eq ?_;simp only[Yj];refine q_pt ?_;simp only[gq];refine q_eq ?_;simp only[Yj];refine q_pt ?_;simp only[gq];refine SA ?_;simp only[Yj];refine q_pt ?_;simp only[gq];refine q_eq ?_;simp only[Yj];refine q_pt ?_;simp only[gq];have hld:∀w,OwnS (Mem.all W).A W w [obE b17 (Bd.length s a).1 k4 c4,obE b15 (Bd.length s a).1 k3 c3,itE b12 (Bd.read s a len).1 k2 c2,itE b9 (Bd.read s a len).1 k1 c1,itE b7 i vk vc,.mem N4]→(aA 27 (.pointer (some ⟨b7,0,none⟩))).run prog w=.ok (.value (itV i vk vc)) w:=
  fun w h=>Qx fun j u hj=>by rw[Yu];exact aV (T:=27) (h.at_ 4 rfl) hj
 refine q_at _ hld ?_;refine gX (.int .i64 (Bd.check i)) (fun w h=>(B8 i w (by omega) (OV.inw (h.hasM 5 rfl) (hv.le hle))).mono fun v w' r=>⟨r.1,h.grow r.2⟩) ?_;refine q_at _ hld ?_;refine gX (.int .i64 (Bd.check i)) (fun w h=>(FF i w (by omega) (OV.inw (h.hasM 5 rfl) (hv.le hle))).mono fun v w' r=>⟨r.1,h.grow r.2⟩) ?_;refine q_eq ?_;simp only[Yj];refine q_pt ?_;simp only[gq];refine gX (.bool true) (fun w h=>(Hl w (tb 5 h rfl hle)).mono fun v w' r=>⟨r.1,h.grow r.2⟩) ?_;refine q_pt ?_;intro w13 ho;have ho:OwnS (Mem.all W).A W w13 [obE b17 (Bd.length s a).1 k4 c4,obE b15 (Bd.length s a).1 k3 c3,itE b12 (Bd.read s a len).1 k2 c2,itE b9 (Bd.read s a len).1 k1 c1,itE b7 i vk vc,.mem N4]:=ho;exact hK _ _ ⟨rfl,(ho.lV 5 rfl hle hM).below⟩
end
end Go.Proofs.YtkejpieaafeblaaGreatDoor



namespace Go.Proofs.YtkejpieaafeblaaGreatDoor
section
open Eng Go.RowKit Go.ChangeShapes Go.WideShapes Go.ChangeAt
set_option maxRecDepth 100000
theorem WJ {α:Type}:∀{l:List α},l.length=3→∃a b c,l=[a,b,c]
|[a,b,c],_=>⟨a,b,c,rfl⟩
theorem Wh {α:Type}:∀{l:List α},l.length=8→∃a b c d e f g h,l=[a,b,c,d,e,f,g,h]
|[a,b,c,d,e,f,g,h],_=>⟨a,b,c,d,e,f,g,h,rfl⟩
section
variable {H:Type}{enc:TypeId×Value→H}{W:World}{sp:Nat→Bool}{held:Bool}
theorem Ua {b0:Nat}{v:Value}{d:DataW H}{ps:List MemPlace}(hval:Value.okWide prog W .any b0 27 v)(hd:DataW.Trod enc prog W 0 sp held 27 v d ps) :
  ∃(i:It) (vk vc:Value),v=itV i vk vc∧OV (InW W) W (obV i.obj vk vc) i.obj∧i.obj.wt≤Rows.uptoBulk d:=by
 obtain⟨cs,rfl,_⟩:=okWide_struct Tryz.underlying27 hval;obtain⟨fuel,h⟩:=hd;have h:DataW.trod enc prog W 0 sp held fuel 27 cs.toList=some (d,ps):=h;obtain⟨xs,n,rfl,hdd,hl,hxl,hf⟩:=DataW.trod_struct Tryz.underlying27 h;have c8:Tryz.prog.cellsOf 27=8:=by kernel_rfl
 rw[c8] at hl;have hxl:xs.length=3:=hxl;obtain⟨x0,x1,x2,rfl⟩:=WJ hxl;obtain⟨v0,v1,v2,v3,v4,v5,v6,v7,hcs⟩:=Wh hl;rw[hcs] at hf;have e0:=hf 0 _ rfl;have e1:=hf 1 _ rfl;have e2:=hf 2 _ rfl;have k0:Tryz.prog.cellsOf 3=1:=by kernel_rfl
 have k6:Tryz.prog.cellsOf 25=6:=by kernel_rfl
 simp only[k0,k6,ZV,Zx,Y7,Z7,aaG,abC] at e0 e1 e2;obtain⟨m,hm,_,_⟩:=DataW.trod_int YR e0;obtain⟨g,hg,_,_⟩:=DataW.trod_int YR e1;obtain⟨o,h1,h2,h3⟩:=T8 _ _ _ e2
 injection hm with hm _
 injection hg with hg _
 subst hm;subst hg;obtain⟨vk,vc,ocs,he,ha⟩:=h1.open;have he:[v2,v3,v4,v5,v6,v7]=obC o vk vc:=by
  have:[v2,v3,v4,v5,v6,v7].toArray=(obC o vk vc).toArray:=by injection he
  simpa using congrArg Array.toList this
 have hb:Rows.uptoBulk x2.1≤Rows.uptoBulk d:=by
  have hdd:d=_:=congrArg Prod.fst hdd;rw[hdd];simp only[Rows.uptoBulk,Y1,aaE,Rows.uptoBulkAll];omega
 refine⟨⟨m,g,o⟩,vk,vc,?_,ha.ov,?_⟩
 ·rw[itV,itC];show Value.agg cs=.agg (Value.int .i64 m::Value.int .i64 g::obC o vk vc).toArray;rw[←he];have:cs=cs.toList.toArray:=by simp
  rw[this,hcs]
 ·show o.wt≤_;omega
end
end
section
open Eng Go.RowKit Go.ChangeShapes Go.WideShapes Go.ChangeAt
section
variable {H:Type}
theorem V5 {c d e f:DataW H}(hk:Rows.uptoSmall H [c,d,e,f]=true):Rows.uptoBulk c≤1048576∧Rows.uptoBulk d≤1048576∧Rows.uptoBulk e≤1048576∧Rows.uptoBulk f≤1048576:=by
 have h:Rows.uptoBulkAll [c,d,e,f]≤1048576:=YF hk;simp only[Rows.uptoBulkAll] at h;omega
end
end
end Go.Proofs.YtkejpieaafeblaaGreatDoor
