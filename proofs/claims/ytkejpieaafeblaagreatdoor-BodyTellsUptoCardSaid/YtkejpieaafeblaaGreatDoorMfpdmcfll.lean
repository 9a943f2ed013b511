/- Texts that go together: ObG ObH ObI MkA SMake5 Plain07 SRef07 SRef04 PlR PlS Plain03D Plain03E Plain04B Plain03F Plain03G Plain17 Plain17B Plain55 SOct LxA SLex LxB LxC LxD LxE LxF LxG LxH. -/
import Derived.Test.YtkejpieaafeblaaGreatDoorRows
import Derived.Lib.IndexMore
import Derived.Lib.LastIndexLaws
import Derived.Test.YtkejpieaafeblaaGreatDoorMfgajbapg
import Derived.Test.YtkejpieaafeblaaGreatDoorMjedaldak
import Derived.Test.YtkejpieaafeblaaGreatDoorMchjklpnl
set_option linter.defProp false
set_option linter.unusedSimpArgs false
set_option linter.unusedVariables false
set_option maxRecDepth 20000
open Go.Proofs.Tryz (prog)
namespace Go.Proofs.YtkejpieaafeblaaGreatDoor
section
open Eng Go.RowKit
 attribute [local congr] kS
theorem tD (n a b:Int)(w:World):Ret prog 201 #[.int .i64 n,.int .i64 a,.int .i64 b] w (fun v w'=>v=.bool (decide (a≤n)&&decide (n≤b))∧w=w'):=by
 refine aO fun K hK=>xW ?_;unfold pH dx gtx etx;simp +contextual only[rs,gs];exact hK _ _ ⟨rfl,rfl⟩
theorem MD (n a b:Int)(w:World):Ret prog 202 #[.int .i64 n,.int .i64 a,.int .i64 b] w (fun v w'=>v=.bool (decide (a≤n)&&decide (n≤b))∧w=w'):=by
 refine aO fun K hK=>AR ?_;unfold sX dx gtx etx;simp +contextual only[rs,gs];exact hK _ _ ⟨rfl,rfl⟩
theorem Rw {p:UInt8→Bool}:∀(s:List UInt8),s.takeWhile p=s→∀x∈s,p x=true
|[],_,x,hx=>by cases hx
|a::s,h,x,hx=>by
  rw[abA] at h;split at h
  ·rename_i ha
   injection h with _ h
   rcases Yq.1 hx with rfl|hx
   ·exact ha
   ·exact Rw s h x hx
  ·cases h
theorem Rt {p:UInt8→Bool}:∀(s:List UInt8) {a:UInt8} {t:List UInt8},s.dropWhile p=a::t→p a=false
|[],_,_,h=>by cases h
|b::s,a,t,h=>by
  rw[List.dropWhile_cons] at h;split at h
  ·exact Rt s h
  ·rename_i hb
   injection h with h _
   subst h;simpa using hb
theorem Oy (s:List UInt8)(w:World):Ret prog 151 #[.string ⟨s.toArray⟩] w (fun v w'=>v=.bool (Vl.name s)∧w=w'):=by
 refine aO fun K hK=>I1 ?_;unfold GU iN dx gtx ctx etx;rw[bF Ym,TM];by_cases h:(s.length:Int)≤127
 ·have hi:∀{K':VWP},K' (.int .i64 (Lib.indexByte s 0)) w→CallX prog 168 #[.string ⟨s.toArray⟩,.int .u8 0] w (pk K) K':=fun hk=>c_eq (kH s 0 w) hk;simp only[h,Yj,rs];refine hi ?_;simp only[rs];refine hK _ _ ⟨?_,rfl⟩;rw[Vl.name,Yk (show s.length≤127 by omega),Y2]
  congr 1
  rw[decide_eq_decide];rcases GC 0 s with ⟨h1,h2,h3⟩|⟨i,h1,hil,h3,h4⟩
  ·rw[h1];refine⟨fun _ hm=>?_,fun _=>by decide⟩;have:=Rw s h2 0 hm;simp at this
  ·rw[h1];refine⟨fun h=>by omega,fun hm=>absurd ?_ hm⟩;have hd:s.drop i=s[i]::s.drop (i+1):=Zt hil;have h0:s[i]=0:=by
    have:=Rt s (h4.trans hd);simpa using this
   exact h0▸YH hil
 ·simp only[h,Yi,rs,g_un];refine hK _ _ ⟨?_,rfl⟩;rw[Vl.name,Yl (show ¬s.length≤127 by omega)];rfl
theorem M8 (o:Ob)(v:Value)(w:World)(h:OV (InW w) w v o)(hb:o.keys.length≤9223372036854775807) :
  Ret prog 152 #[v] w (fun v w'=>v=.bool (Vl.rising o)∧Below w.heap.size w w'):=by
 obtain⟨vk,vc,cs,rfl,ha⟩:=h.open;refine aO fun K hK=>E1 ?_;unfold tZ iN dx;refine cY o ha.keys.one ha.kids.one (Own.start w) fun b w1 ho=>?_;have lk:∀{W:World} {L:List Ent},Own w W L→∀{PK:PKT} {K:VWP},DoX prog (mB .len #[22] 3 #[false] #[vk]) W PK K=K (.int .i64 (o.keys.length:Int)) W:=fun ho=>bY Yn (ha.own ho).keys.1;have lc:∀{W:World} {L:List Ent},Own w W L→∀{PK:PKT} {K:VWP},DoX prog (mB .len #[23] 3 #[false] #[vc]) W PK K=K (.int .i64 (o.kids.length:Int)) W:=fun ho=>bY Yt (ha.own ho).kids.1;simp only[rs,eC,dR,bV ho 0 rfl,bJ ho 0 rfl,lk ho,lc ho];by_cases hlen:(o.keys.length:Int)≠(o.kids.length:Int)
 ·simp only[Yk hlen,i_t];refine hK _ _ ⟨?_,ho.done⟩;have:¬o.keys.length=o.kids.length:=fun e=>hlen (by rw[e]);simp[Vl.rising,this]
 have hle:o.keys.length=o.kids.length:=by omega
 simp only[Yl hlen,i_f];have hR:Vl.rising o=(List.range o.keys.length).all (Vl.zZ o):=by simp[Vl.rising,hle]
 rw[hR] at hK;refine loop (fun vs w'=>∃(i:Nat),vs=[.int .i64 i]∧i≤o.keys.length∧(List.range i).all (Vl.zZ o)=true∧Own w w' [obE b o vk vc]) (fun vs _=>o.keys.length - n0 vs) ⟨0,rfl,by omega,by simp,ho⟩ ?_;rintro vs w2 ⟨i,rfl,hi,hall,ho⟩ _;simp only[yH,gd,rs,iN,dx,gtx,gfx,etx,efx,cx];by_cases hlt:(i:Int) < (o.keys.length:Int)
 ·have hi':i < o.keys.length:=by omega
  simp only[hlt,Yj,i_t];have ho2:=ha.own ho;refine Bs (.string ⟨(o.keys[i]).toArray⟩) Yn (by kernel_rfl) ho2.keys.1 (by omega) (by rw[Yo];exact cD hi') fun q hq=>?_;rw[bE qQ hq];refine c_eq (Oy o.keys[i] w2) ?_;obtain⟨kb,koff,hia,hkc⟩:=LW ho2.kids.1 ho2.all (show i < o.kids.length by omega);have hlk:∀{PK:PKT} {K:VWP},DoX prog (aA 3 (.pointer (some ⟨kb,koff,none⟩))) w2 PK K=K (.int .i64 o.kids[i].k) w2:=bE kV hkc;have hprev:decide (0 < (i:Int))=true→∃(b' off':Nat),(∀{PK:PKT} {K:VWP},DoX prog (mIA 22 vk (.int .i64 (IntKind.wrap .i64 ((i:Int) - 1)))) w2 PK K=K (.pointer (some ⟨b',off',none⟩)) w2) ∧
    (∀{PK:PKT} {K:VWP},DoX prog (aA 9 (.pointer (some ⟨b',off',none⟩))) w2 PK K=K (.string ⟨(o.keys.getD (i - 1) []).toArray⟩) w2):=by
   intro h;have h:=YF h;have hj:i - 1 < o.keys.length:=by omega
   obtain⟨b',off',cap',rfl,hc'⟩:=jB ho2.keys.1 (show 0 < o.keys.length by omega);refine⟨b',off'+(i - 1),?_,?_⟩
   ·intro PK K;rw[aB (by omega) (by omega)];refine aU ?_;rw[oV Yn (show _=some 1 by kernel_rfl) (by omega) (by omega),show ((i:Int) - 1).toNat*1=i - 1 by omega]
   ·intro PK K;rw[Zn,YB hj];exact bE qQ (hc' _ _ (cD hj))
  have hgi:o.keys.getD i []=o.keys[i]:=by rw[Zn,YB hi'];rfl
  have hgk:o.kids.getD i (.mk 0 0 0 [] [] [])=o.kids[i]'(by omega):=by rw[Zn,YB (by omega)];rfl
  have tail:∀(q:Bool) (N:Prop),q=!(Vl.zZ o i)→(Vl.zZ o i=true→N)→IfX (.bool q) (K (.returned (.bool false)) w2) N:=by
   intro q N hq hN;cases hk:Vl.zZ o i with
  |false=>
    rw[hk] at hq;subst hq;rw[show (!false)=true from rfl,i_t];exact hK _ _ ⟨by rw[Dt hk hi'],ho.done⟩
  |true=>
    rw[hk] at hq;subst hq;rw[show (!true)=false from rfl,i_f];exact hN hk
  have hki:Vl.zZ o i=(Vl.name o.keys[i]&&(decide (i=0)||Vl.less (o.keys.getD (i - 1) []) o.keys[i])&&!(decide (o.k=9)&&decide (o.keys[i]=Vl.lenK))&&decide ((o.kids[i]'(by omega)).k≠0)):=by
   rw[Vl.zZ,hgi,hgk]
  by_cases hi0:i=0
  ·have hz:decide (0 < (i:Int))=false:=by rw[YK];omega
   simp +contextual only[rs,gs,hz,EE,PE,DI,ZL,aaQ,ZD,cN,dR,ob_k ho 0 rfl,bJ ho 0 rfl,hia,hlk,g_un,p_f];refine tail _ _ ?_ fun hk=>?_
   ·rw[hki,Yk hi0];simp only[abB,ZE,Vl.lenK,ne_eq,decide_not];generalize Vl.name o.keys[i]=a;generalize decide (o.k=9)=c;generalize decide ((o.kids[i]'(by omega)).k=0)=d;by_cases hL:o.keys[i]=[76,101,110,103,116,104]<;>simp only[hL,Yj,Yi]<;>cases a<;>cases c<;>cases d<;>rfl
   ·rw[aB (by omega) (by omega)];exact bO ⟨i+1,rfl,by omega,by rw[mI,hall,hk];rfl,ho⟩ (by simp[n0,RowKit.intOf];omega)
  ·have hz:decide (0 < (i:Int))=true:=by rw[decide_eq_true_iff];omega
   obtain⟨b',off',hpa,hpl⟩:=hprev hz;simp +contextual only[rs,gs,hz,EE,PE,DI,ZL,aaQ,ZD,cN,eC,dR,ob_k ho 0 rfl,bV ho 0 rfl,bJ ho 0 rfl,hia,hlk,hpa,hpl,g_un];refine tail _ _ ?_ fun hk=>?_
   ·rw[hki,Yl hi0];simp only[ZN,Vl.lenK,ne_eq,decide_not];generalize Vl.name o.keys[i]=a;generalize decide (o.k=9)=c;generalize decide ((o.kids[i]'(by omega)).k=0)=d;show _=!(_&&Op.bytesLess (o.keys.getD (i - 1) []) o.keys[i]&&_&&_);generalize Op.bytesLess (o.keys.getD (i - 1) []) o.keys[i]=e;by_cases hL:o.keys[i]=[76,101,110,103,116,104]<;>simp only[hL,Yj,Yi]<;>cases a<;>cases c<;>cases d<;>cases e<;>rfl
   ·rw[aB (by omega) (by omega)];exact bO ⟨i+1,rfl,by omega,by rw[mI,hall,hk];rfl,ho⟩ (by simp[n0,RowKit.intOf];omega)
 ·simp only[hlt,Yi,i_f];refine hK _ _ ⟨?_,ho.done⟩;rw[show o.keys.length=i by omega,hall]
theorem P8 (o:Ob)(v:Value)(w:World)(h:OV (InW w) w v o):Ret prog 149 #[v] w (fun v w'=>v=.bool (Vl.fits o)∧Below w.heap.size w w'):=by
 obtain⟨vk,vc,cs,rfl,ha⟩:=h.open;refine aO fun K hK=>G4 ?_;unfold FK iN dx gtx ctx cx;refine cY o ha.keys.one ha.kids.one (Own.start w) fun b w1 ho=>?_;simp only[cN,ob_k ho 0 rfl,rs];by_cases k1:o.k=1
 ·simp only[k1,Yj,i_t,vI,ob_n ho 0 rfl];refine c_eq (tD _ _ _ w1) (hK _ _ ⟨?_,ho.done⟩);rw[Vl.fits,Yh k1,ZS]
 by_cases k2:o.k=2
 ·simp only[k2,Int.reduceEq,Yj,Yi,i_t,i_f,vI,ob_n ho 0 rfl];refine c_eq (tD _ _ _ w1) (hK _ _ ⟨?_,ho.done⟩);rw[Vl.fits,Yg k1,Yh k2,ZS]
 by_cases k3:o.k=3
 ·simp only[k3,Int.reduceEq,Yj,Yi,i_t,i_f,vI,ob_n ho 0 rfl];refine c_eq (tD _ _ _ w1) (hK _ _ ⟨?_,ho.done⟩);rw[Vl.fits,Yg k1,Yg k2,Yh k3,ZS]
 by_cases k8:o.k=8
 ·simp only[k8,Int.reduceEq,Yj,Yi,i_t,i_f,vI,ob_n ho 0 rfl];refine c_eq (tD _ _ _ w1) ?_;have hf:Vl.fits o=(decide (1≤o.n)&&decide (o.n≤8191)&&(decide (0≤o.g)&&decide (o.g≤65535))):=by
   rw[Vl.fits,Yg k1,Yg k2,Yg k3,Yh k8,ZS,ZS]
  rw[hf] at hK;cases hc:(decide (1≤o.n)&&decide (o.n≤8191)) with
 |false=>
   rw[hc] at hK;rw[g_ft,g_ft,g_ft,p_f];exact hK _ _ ⟨rfl,ho.done⟩
 |true=>
   rw[hc] at hK;rw[g_tt,PB,g_tt,ob_g ho 0 rfl,g_tt];refine c_eq (MD _ _ _ w1) ?_;rw[p_t];exact hK _ _ ⟨rfl,ho.done⟩
 simp only[k1,k2,k3,k8,Yi,i_f];refine hK _ _ ⟨?_,ho.done⟩;rw[Vl.fits,Yg k1,Yg k2,Yg k3,Yg k8]
def JB (o:Ob):Bool:=if o.k=4 then decide (o.s.length≤32767) else if o.k=5 then decide (o.s.length≤127) else decide (o.s.length≤1048576)
theorem Pp (o:Ob)(v:Value)(w:World)(h:OV (InW w) w v o):Ret prog 150 #[v] w (fun v w'=>v=.bool (JB o)∧Below w.heap.size w w'):=by
 obtain⟨vk,vc,cs,rfl,ha⟩:=h.open;refine aO fun K hK=>Gh ?_;unfold DW iN dx;refine cY o ha.keys.one ha.kids.one (Own.start w) fun b w1 ho=>?_;simp only[cN,ob_k ho 0 rfl,rs];have hi:∀m:Nat,decide ((o.s.length:Int)≤(m:Int))=decide (o.s.length≤m):=fun m=>by rw[decide_eq_decide];omega
 by_cases k4:o.k=4
 ·simp only[k4,Yj,i_t,Cd,ob_s ho 0 rfl,bF Ym,rs];refine hK _ _ ⟨?_,ho.done⟩;rw[JB,Yh k4,←hi];rfl
 by_cases k5:o.k=5
 ·simp only[k5,Int.reduceEq,Yj,Yi,i_t,i_f,Cd,ob_s ho 0 rfl,bF Ym,rs];refine hK _ _ ⟨?_,ho.done⟩;rw[JB,Yg k4,Yh k5,←hi];rfl
 simp only[k4,k5,Yi,i_f,Cd,ob_s ho 0 rfl,bF Ym,rs];refine hK _ _ ⟨?_,ho.done⟩;rw[JB,Yg k4,Yg k5,←hi];rfl
theorem O4 {o:Ob}(h:Vl.eA o=true):JB o=!decide (Vl.long o.k < o.s.length):=by
 have key:∀m:Nat,decide (o.s.length≤m)=!decide (m < o.s.length):=fun m=>by
  rw[aaN];simp
 unfold JB Vl.long;by_cases k4:o.k=4
 ·rw[Yh k4,Yg (by omega),Yg (by omega),key]
 by_cases k5:o.k=5
 ·rw[Yg k4,Yh k5,Yh k5,key]
 by_cases k9:o.k=9
 ·rw[Yg k4,Yg k5,Yg k5,Yh k9,key]
 have hs:o.s=[]:=by
  unfold Vl.eA Vl.used at h
  revert h
  split
  ·intro h;cases h
  ·rename_i n g s ks cs he
   intro h;simp only[Ys,ZB,Yx] at h;have hsf:s=false:=by
    revert he
    repeat' split
    all_goals (intro he;first|(cases he;done)|skip)
    all_goals (simp only[Zu,ZI] at he;first|exact he.2.2.1.symm|omega)
   rcases h.1.1.2 with h1|h1
   ·rw[hsf] at h1;cases h1
   ·exact h1
 rw[Yg k4,Yg k5,Yg k5,Yg k9,hs];rfl
end
section
open Eng Go.RowKit
 attribute [local congr] kS
def uC (u:Bool×Bool×Bool×Bool×Bool):List Value:=[.bool u.1,.bool u.2.1,.bool u.2.2.1,.bool u.2.2.2.1,.bool u.2.2.2.2]
def uV (u:Bool×Bool×Bool×Bool×Bool):Value:=.agg (uC u).toArray
def uE (b:Nat)(u:Bool×Bool×Bool×Bool×Bool):Ent:=.cells b (uC u) 167
def u0:Bool×Bool×Bool×Bool×Bool:=(false,false,false,false,false)
theorem aggU:aggN prog 167=some 5:=by kernel_rfl
theorem szU:(Tryz.prog.info? 167).map (·.size)=some 5:=by kernel_rfl
theorem Wc (u:Bool×Bool×Bool×Bool×Bool):∀v∈uC u,v.oneCell'=true:=by
 intro v hv;simp only[uC,Yq,aaZ,or_false] at hv;rcases hv with rfl|rfl|rfl|rfl|rfl<;>rfl
theorem Sb:dX prog 4=true:=by kernel_rfl
section
variable {w:World}{PK:PKT}{K:VWP}{S:Nat→Prop}{w0:World}{L:List Ent}
theorem XQ {b:Nat}:DoX prog (mFA 167 (.pointer (some ⟨b,0,none⟩)) 0) w PK K=K (.pointer (some ⟨b,0,none⟩)) w:=dJ (show fOff prog 167 0=some 0 by kernel_rfl)
theorem X1 {b:Nat}:DoX prog (mFA 167 (.pointer (some ⟨b,0,none⟩)) 1) w PK K=K (.pointer (some ⟨b,0+1,none⟩)) w:=dJ (show fOff prog 167 1=some 1 by kernel_rfl)
theorem XM {b:Nat}:DoX prog (mFA 167 (.pointer (some ⟨b,0,none⟩)) 2) w PK K=K (.pointer (some ⟨b,0+2,none⟩)) w:=dJ (show fOff prog 167 2=some 2 by kernel_rfl)
theorem Xr {b:Nat}:DoX prog (mFA 167 (.pointer (some ⟨b,0,none⟩)) 3) w PK K=K (.pointer (some ⟨b,0+3,none⟩)) w:=dJ (show fOff prog 167 3=some 3 by kernel_rfl)
theorem WY {b:Nat}:DoX prog (mFA 167 (.pointer (some ⟨b,0,none⟩)) 4) w PK K=K (.pointer (some ⟨b,0+4,none⟩)) w:=dJ (show fOff prog 167 4=some 4 by kernel_rfl)
theorem V9 (i:Nat){b:Nat}{u:Bool×Bool×Bool×Bool×Bool}(u':Bool×Bool×Bool×Bool×Bool)(ho:OwnS S w0 w L)(hi:L[i]?=some (uE b u))(k:∀w',OwnS S w0 w' (L.set i (uE b u'))→K undef w') :
  DoX prog (aC 167 (.pointer (some ⟨b,0,none⟩)) (uV u')) w PK K:=HE i ho hi (new:=uC u') szU (Wc u') rfl k
end
def Vt (k:Int):Value:=.tuple #[uV ((Vl.used k).getD u0),.bool (Vl.used k).isSome]
theorem QP (k:Int)(w:World):Ret prog 148 #[.int .i64 k] w (fun v w'=>v=Vt k∧Below w.heap.size w w'):=by
 refine aO fun K hK=>HL ?_;unfold Ba iN dx;refine cI (fun b=>.pointer (some ⟨b,0,none⟩)) (uC u0) 167 (fun _=>by kernel_rfl) (Own.start w) fun b w1 ho=>?_;have fin:∀(u:Bool×Bool×Bool×Bool×Bool) (ok:Bool),Vl.used k=(if ok then some u else none)→(ok=false→u=u0)→DoX prog (aC 167 (.pointer (some ⟨b,0,none⟩)) (uV u)) w1 (pk K) fun _ w=>
   RetX prog [.cell (.pointer (some ⟨b,0,none⟩)) 167,.val (.bool ok)] w K:=by
  intro u ok hu h0;refine V9 0 u ho rfl fun w2 ho=>?_;refine yF (aX (ho.agg 0 rfl aggU)) eF (hK _ _ ⟨?_,ho.done⟩);rw[Vt,hu];cases ok with
 |true=>rfl
 |false=>rw[h0 rfl];rfl
 have b0:∀{PK:PKT} {K:VWP},DoX prog (aJ 167 #[]) w1 PK K=K (uV u0) w1:=aU (by kernel_rfl);have b1:∀{PK:PKT} {K:VWP},DoX prog (aJ 167 #[(0,.bool true)]) w1 PK K=K (uV (true,false,false,false,false)) w1:=aU (by kernel_rfl);have b2:∀{PK:PKT} {K:VWP},DoX prog (aJ 167 #[(2,.bool true)]) w1 PK K=K (uV (false,false,true,false,false)) w1:=aU (by kernel_rfl);have b3:∀{PK:PKT} {K:VWP},DoX prog (aJ 167 #[(4,.bool true)]) w1 PK K=K (uV (false,false,false,false,true)) w1:=aU (by kernel_rfl);have b4:∀{PK:PKT} {K:VWP},DoX prog (aJ 167 #[(3,.bool true),(4,.bool true)]) w1 PK K=K (uV (false,false,false,true,true)) w1:=aU (by kernel_rfl);have b5:∀{PK:PKT} {K:VWP},DoX prog (aJ 167 #[(0,.bool true),(1,.bool true)]) w1 PK K=K (uV (true,true,false,false,false)) w1:=aU (by kernel_rfl);have b6:∀{PK:PKT} {K:VWP},DoX prog (aJ 167 #[(2,.bool true),(3,.bool true),(4,.bool true)]) w1 PK K=K (uV (false,false,true,true,true)) w1:=aU (by kernel_rfl);simp only[rs];by_cases k0:k=0
 ·simp only[k0,Yj,i_t,b0];exact fin _ true (by simp[Vl.used,k0,u0]) (by simp)
 simp only[k0,Yi,i_f];refine join fun J hJ=>?_;by_cases k123:k=1∨k=2∨k=3
 ·have:J [.bool true] w1:=by
   refine hJ _ _ fun _=>?_;simp only[tS,gd,i_t,b1,iN,dx];exact fin _ true (by simp[Vl.used,k0,k123]) (by simp)
  by_cases k1:k=1
  ·simp only[k1,Yj,i_t];exact this
  by_cases k2:k=2
  ·simp only[k2,Int.reduceEq,Yj,Yi,i_t,i_f];exact this
  have k3:k=3:=by omega
  simp only[k3,Int.reduceEq,Yj,Yi,i_t,i_f];exact this
 have k1:¬k=1:=fun h=>k123 (.inl h);have k2:¬k=2:=fun h=>k123 (.inr (.inl h));have k3:¬k=3:=fun h=>k123 (.inr (.inr h));simp only[k1,k2,k3,Yi,i_f];refine hJ _ _ fun _=>?_;clear hJ;simp only[tS,gd,i_f,rs,iN,dx];refine join fun J hJ=>?_;by_cases k45:k=4∨k=5
 ·have:J [.bool true] w1:=by
   refine hJ _ _ fun _=>?_;simp only[tV,gd,i_t,b2,iN,dx];exact fin _ true (by simp[Vl.used,k0,k1,k2,k3,k45]) (by simp)
  by_cases k4:k=4
  ·simp only[k4,Yj,i_t];exact this
  have k5:k=5:=by omega
  simp only[k5,Int.reduceEq,Yj,Yi,i_t,i_f];exact this
 have k4:¬k=4:=fun h=>k45 (.inl h);have k5:¬k=5:=fun h=>k45 (.inr h);simp only[k4,k5,Yi,i_f];refine hJ _ _ fun _=>?_;clear hJ;simp only[tV,gd,i_f,rs,iN,dx];by_cases k6:k=6
 ·simp only[k6,Yj,i_t,b3];exact fin _ true (by simp[Vl.used,k6]) (by simp)
 by_cases k7:k=7
 ·simp only[k7,Int.reduceEq,Yj,Yi,i_t,i_f,b4];exact fin _ true (by simp[Vl.used,k7]) (by simp)
 by_cases k8:k=8
 ·simp only[k8,Int.reduceEq,Yj,Yi,i_t,i_f,b5];exact fin _ true (by simp[Vl.used,k8]) (by simp)
 by_cases k9:k=9
 ·simp only[k9,Int.reduceEq,Yj,Yi,i_t,i_f,b6];exact fin _ true (by simp[Vl.used,k9]) (by simp)
 simp only[k6,k7,k8,k9,Yi,i_f,b0];exact fin _ false (by simp[Vl.used,k0,k123,k45,k6,k7,k8,k9]) (by simp)
theorem Rv {k:Int}{n g s ks cs:Bool}(h:Vl.used k=some (n,g,s,ks,cs)):ks=decide (k=7∨k=9):=by
 revert h
 unfold Vl.used
 repeat' split
 all_goals (intro h;first|(cases h;done)|skip)
 all_goals simp only[Zu,ZI] at h
 all_goals rw[←h.2.2.2.1]
 all_goals symm
 all_goals first|(rw[YK];omega)|(rw[decide_eq_true_iff];omega)
abbrev badE (e:Int):PanicEntry:={ v:=.iface 165 (.agg #[.int .i64 e]),recovered:=false }
theorem CK {q r:Bool}{e:Int}{w:World}{PK:PKT}{K:VWP}(h:q=r)(hok:r=true→K (.tuple #[]) w)(hbad:r=false→PK [badE e] w):CallX prog 147 #[.bool q,.int .i64 e] w PK K:=by
 subst h;refine Gg (HV (K:=fun e' w'=>(q=true→e'=.returned (.tuple #[])∧w'=w)∧(q=false→e'=.panicked [badE e]∧w'=w)) ?_) ?_
 ·unfold FO dx;cases q with
 |true=>
   rw[Ev,show (!true)=false from rfl,i_f];exact⟨fun _=>⟨rfl,rfl⟩,fun h=>by cases h⟩
 |false=>
   rw[Ev,show (!false)=true from rfl,i_t];have hb:∀{PK:PKT} {K:VWP},DoX prog (aJ 165 #[(0,.int .i64 e)]) w PK K=K (.agg #[.int .i64 e]) w:=aU (by kernel_rfl);rw[hb,JU (show mH prog 165=true by kernel_rfl),Kk];exact⟨fun h=>(by cases h),fun _=>⟨rfl,rfl⟩⟩
 ·rintro e' w' ⟨h1,h2⟩;cases q with
 |true=>obtain⟨rfl,rfl⟩:=h1 rfl;exact hok rfl
 |false=>obtain⟨rfl,rfl⟩:=h2 rfl;exact hbad rfl
end
section
open Eng Go.RowKit
 attribute [local congr] kS
theorem PF (n:Nat):∀(o:Ob) (v:Value) (d:Nat) (w:World) (K:Ending→World→Prop),o.wt≤n→OV (InW w) w v o→o.wt≤4611686018427387904→1≤d→d≤1000 →
  (Vl.check d o=0→∀w',Below w.heap.size w w'→K (.returned (.tuple #[])) w')→(Vl.check d o≠0→∀w',Below w.heap.size w w'→K (.panicked [badE (Vl.check d o)]) w') →
  Calls prog 98 #[v,.int .i64 (d:Int)] w K:=by
 induction n with
|zero=>intro o v d w K h;have:=o.FN;omega
|succ n ih=>
 intro o v d w K hn hov hb hd1 hd hok hbad;obtain⟨vk,vc,cs,rfl,ha⟩:=hov.open;refine Gj ?_;unfold xR iN dx gtx gfx cfx etx cx;refine cY o ha.keys.one ha.kids.one (Own.start w) fun b w1 ho=>?_;have out:∀(e:Int) (W:World) (L:List Ent),Own w W L→Vl.why d o=e→e≠0→(pk K) [badE e] W:=by
  intro e W L ho h1 h2;have h3:Vl.check d o=e:=by rw[Re (by rw[h1];exact h2),h1]
  rw[h3] at hbad;exact hbad h2 W ho.done
 rw[TM];refine CK (r:=decide (d≤24)) (by rw[decide_eq_decide];omega) (fun h24=>?_) fun h24=>out 7 w1 _ ho (by rw[Vl.why,Yh (by have:=Y5 h24;omega)]) (by decide);have h24':¬24 < d:=by have:=YF h24;omega
 rw[cN,ob_k ho 0 rfl];refine dO (QP o.k w1) rfl ho fun w2 ho=>?_;simp only[Vt,ex];refine cI (fun b=>.pointer (some ⟨b,0,none⟩)) (uC u0) 167 (fun _=>by kernel_rfl) ho fun b4 w3 ho=>?_;refine V9 0 ((Vl.used o.k).getD u0) ho rfl fun w4 ho=>?_;have ho:Own w w4 [uE b4 ((Vl.used o.k).getD u0),obE b o vk vc]:=ho;have bad10:(Vl.eA o=false∨(o.k=9∧1 < d))→(pk K) [badE 10] w4:=fun h=>out 10 w4 _ ho (by rw[Vl.why,Yg h24',Yh h]) (by decide);have lk:∀{W:World} {L:List Ent},Own w W L→∀{PK:PKT} {K:VWP},DoX prog (mB .len #[22] 3 #[false] #[vk]) W PK K=K (.int .i64 (o.keys.length:Int)) W:=fun ho=>bY Yn (ha.own ho).keys.1;have lc:∀{W:World} {L:List Ent},Own w W L→∀{PK:PKT} {K:VWP},DoX prog (mB .len #[23] 3 #[false] #[vc]) W PK K=K (.int .i64 (o.kids.length:Int)) W:=fun ho=>bY Yt (ha.own ho).kids.1;cases hu:Vl.used o.k with
|none=>
  have hb10:=bad10 (.inl (by rw[Vl.eA,hu]));simp only[acM,rs,g_un];exact CK (r:=false) rfl (fun h=>by cases h) fun _=>hb10
|some u=>
 obtain⟨un,ug,us,uks,ucs⟩:=u;rw[hu,ZQ] at ho;have hUo:Vl.eA o=((un||decide (o.n=0))&&(ug||decide (o.g=0))&&(us||decide (o.s=[]))&&(uks||decide (o.keys=[]))&&(ucs||decide (o.kids.length=0))):=by rw[Vl.eA,hu]
 have l0:∀{PK:PKT} {K:VWP},DoX prog (aA 4 (.pointer (some ⟨b4,0,none⟩))) w4 PK K=K (.bool un) w4:=bE Sb (ho.cell 0 rfl 0 rfl);have l1:∀{PK:PKT} {K:VWP},DoX prog (aA 4 (.pointer (some ⟨b4,0+1,none⟩))) w4 PK K=K (.bool ug) w4:=bE Sb (ho.cell 0 rfl 1 rfl);have l2:∀{PK:PKT} {K:VWP},DoX prog (aA 4 (.pointer (some ⟨b4,0+2,none⟩))) w4 PK K=K (.bool us) w4:=bE Sb (ho.cell 0 rfl 2 rfl);have l3:∀{W:World} {L:List Ent},Own w W (uE b4 (un,ug,us,uks,ucs)::L)→∀{PK:PKT} {K:VWP},DoX prog (aA 4 (.pointer (some ⟨b4,0+3,none⟩))) W PK K=K (.bool uks) W:=fun ho=>bE Sb (ho.cell 0 rfl 3 rfl);have l4:∀{PK:PKT} {K:VWP},DoX prog (aA 4 (.pointer (some ⟨b4,0+4,none⟩))) w4 PK K=K (.bool ucs) w4:=bE Sb (ho.cell 0 rfl 4 rfl);simp +contextual only[acN,rs,gs,EE,PE,DI,ZL,aaQ,ZD,XQ,X1,XM,Xr,WY,l0,l1,l2,l3 ho,l4,cN,vI,PB,Cd,eC,dR,ob_k ho 1 rfl,ob_n ho 1 rfl,ob_g ho 1 rfl,ob_s ho 1 rfl,bV ho 1 rfl,bJ ho 1 rfl,lk ho,lc ho,MB];refine CK (r:=Vl.eA o&&!(decide (o.k=9)&&decide (1 < d))) ?_ (fun hq=>?_) fun hq=>?_
 ·rw[hUo,VG o.keys,Wj o.kids]
  congr 1
  by_cases h9:o.k=9
  ·simp only[h9,ne_eq,not_true,Yi,ZD,Yj,Y2];rw[aaN];simp;omega
  ·simp only[h9,ne_eq,Yz,Yj,Bool.or_true,Yi,Y8,YJ]
 rotate_left
 ·refine bad10 ?_;rw[ZA] at hq;rcases hq with h|h
  ·exact .inl h
  ·right;have:(decide (o.k=9)&&decide (1 < d))=true:=by simpa using h
   rw[Ys] at this;exact⟨YF this.1,YF this.2⟩
 rw[Ys] at hq;obtain⟨huo,hq9⟩:=hq;have hno:¬(Vl.eA o=false∨(o.k=9∧1 < d)):=by
  rintro (h|⟨h1,h2⟩)
  ·rw[huo] at h;cases h
  ·rw[Yk h1,Yk h2] at hq9;cases hq9
 rw[ob_v ho 1 rfl];refine dO (P8 o _ w4 (ha.in_ ho).ov) rfl ho fun w5 ho=>?_;refine CK (r:=Vl.fits o) rfl (fun hfi=>?_) fun hfi=>out 2 w5 _ ho (by rw[Vl.why,Yg h24',Yg hno,Yh hfi]) (by decide);have hfi':¬Vl.fits o=false:=by rw[hfi];decide
 rw[ob_v ho 1 rfl];refine dO (Pp o _ w5 (ha.in_ ho).ov) rfl ho fun w6 ho=>?_;refine CK (r:=!decide (Vl.long o.k < o.s.length)) (O4 huo) (fun hlo=>?_) fun hlo=>out 5 w6 _ ho (by rw[Vl.why,Yg h24',Yg hno,Yg hfi',Yh (by simpa using hlo)]) (by decide);have hlo':¬Vl.long o.k < o.s.length:=by simpa using hlo
 rw[bJ ho 1 rfl,lc ho,TM];refine CK (r:=decide (o.kids.length≤8191)) (by rw[decide_eq_decide];omega) (fun hm=>?_) fun hm=>out 6 w6 _ ho (by rw[Vl.why,Yg h24',Yg hno,Yg hfi',Yg hlo',Yh (by have:=Y5 hm;omega)]) (by decide);have hm':¬8191 < o.kids.length:=by have:=YF hm;omega
 rw[ob_k ho 1 rfl,Vg];have huk:=Rv hu
 -- behind the form: the kids
 have rest:∀(W:World),Vl.form o=true→Own w W [uE b4 (un,ug,us,uks,ucs),obE b o vk vc] →
   DoX prog (aA 23 (.pointer (some ⟨b,0+5,none⟩))) W (pk K) fun t105 w=>
   DoX prog (mB .len #[23] 3 #[false] #[t105]) w (pk K) fun t106 w=>
   LoopX [(.int .i64 0)] w (fun vs1 w N1=>∀_:Sg,qG (.int .i64 (d:Int)) t105 t106 (vs1.getD 0 undef) w N1 K):=by
  intro W hfo ho;have hw0:Vl.why d o=0:=by rw[Vl.why,Yg h24',Yg hno,Yg hfi',Yg hlo',Yg hm',Yg (by rw[hfo];decide)]
  have hch:Vl.check d o=Vl.lO (d+1) o.kids:=by rw[Vl.wA,Yg (by simp[hw0])]
  rw[hch] at hok hbad;rw[bJ ho 1 rfl,lc ho];refine loop (fun vs w'=>∃(i:Nat),vs=[.int .i64 i]∧i≤o.kids.length∧Vl.lO (d+1) o.kids=Vl.lO (d+1) (o.kids.drop i)∧Own w w' [uE b4 (un,ug,us,uks,ucs),obE b o vk vc]) (fun vs _=>o.kids.length - n0 vs) ⟨0,rfl,by omega,rfl,ho⟩ ?_;rintro vs w6 ⟨i,rfl,hi,hT,ho⟩ _;rw[hT] at hok hbad;simp only[qG,gd,rs,iN,dx,cx];by_cases hlt:(i:Int) < (o.kids.length:Int)
  ·have hi':i < o.kids.length:=by omega
   simp only[hlt,Yj,i_t];rw[HB _ _ _ hi'] at hok hbad hT;have hai:=ha.own ho;refine UF hai.kids.1 hai.all hi' fun v hv=>?_;obtain⟨vk',vc',cs',rfl,hkid⟩:=hv.open;have ho6:=ho;refine bN ho fun b7 w7 ho=>?_;refine aQ 0 hkid.keys.one hkid.kids.one ho rfl fun w8 ho=>?_;have ho:Own w w8 [obE b7 o.kids[i] vk' vc',uE b4 (un,ug,us,uks,ucs),obE b o vk vc]:=ho;rw[ob_v ho 0 rfl,aB (by omega) (by omega),show (d:Int)+1=((d+1:Nat):Int) by omega];have hkw:=Ec hi';refine Gg (ih o.kids[i] _ (d+1) w8 _ (by omega) (hkid.later ho6 ho).ov (by omega) (by omega) (by omega) (fun hc0 w9 hb9=>?_) (fun hc0 w9 hb9=>?_)) (fun _ _ h=>h)
   ·have ho:=ho.grow hb9;rw[Yg (by simp[hc0])] at hT;simp only[Cont,rs];rw[aB (by omega) (by omega)];exact bO ⟨i+1,rfl,by omega,hT,ho.tail⟩ (by simp[n0,RowKit.intOf];omega)
   ·rw[Yh hc0] at hbad;exact hbad hc0 w9 (ho.grow hb9).done
  ·simp only[hlt,Yi,i_f];rw[List.drop_of_length_le (by omega),Vl.lO] at hok;exact hok rfl w6 ho.done
 have bad3:∀(W:World) (L:List Ent),Own w W L→Vl.form o=false→(pk K) [badE 3] W:=fun W L ho h=>out 3 W _ ho (by rw[Vl.why,Yg h24',Yg hno,Yg hfi',Yg hlo',Yg hm',Yh h]) (by decide);by_cases k5:o.k=5
 ·have k79:¬(o.k=7∨o.k=9):=by omega
  have hks:uks=false:=by rw[huk,Yl k79]
  have hf:Vl.form o=Vl.name o.s:=by simp[Vl.form,k5]
  rw[show decide (o.k≠5)=false by rw[YK];omega,g_ff,ob_s ho 1 rfl,g_ff];refine c_eq (Oy o.s w6) ?_;rw[p_f];cases hnm:Vl.name o.s with
 |false=>
   rw[g_ft,g_ft,show sel (kE (Value.bool false) true) undef=undef from rfl,g_un,g_un,g_ft,p_f];exact CK (r:=false) rfl (fun h=>by cases h) fun _=>bad3 w6 _ ho (by rw[hf,hnm])
 |true=>
   rw[g_tt,l3 ho,hks,g_tt,Ev,show (!false)=true from rfl,show sel (kE (Value.bool true) true) (Value.bool true)=.bool true from rfl,g_tf,g_tf,g_tt,p_t,p_t];exact CK (r:=true) rfl (fun _=>rest w6 (by rw[hf,hnm]) ho) fun h=>by cases h
 ·rw[show decide (o.k≠5)=true by rw[decide_eq_true_iff];exact k5,g_tf,g_tf,p_t,g_tt,l3 ho,g_tt,Ev];cases hks:uks with
 |false=>
   have k79:¬(o.k=7∨o.k=9):=by rw[huk,YK] at hks;exact hks
   rw[show (!false)=true from rfl,show sel (kE (Value.bool true) true) (Value.bool true)=.bool true from rfl,g_tf,g_tf,g_tt,p_t,p_t];rw[hks] at ho rest;exact CK (r:=true) rfl (fun _=>rest w6 (by simp[Vl.form,k5,k79]) ho) fun h=>by cases h
 |true=>
   have k79:o.k=7∨o.k=9:=by rw[huk,decide_eq_true_iff] at hks;exact hks
   have hf:Vl.form o=Vl.rising o:=by simp[Vl.form,k5,k79]
   rw[show (!true)=false from rfl,show sel (kE (Value.bool true) true) (Value.bool false)=.bool false from rfl,g_ff,ob_v ho 1 rfl,g_ff];refine dO (M8 o _ w6 (ha.in_ ho).ov (by have:=Mk (o:=o);omega)) rfl ho fun w7 ho=>?_;rw[g_tt,p_f,p_t];rw[hks] at ho rest;exact CK (r:=Vl.form o) hf.symm (fun hfo=>rest w7 hfo ho) fun h=>bad3 w7 _ ho h
theorem FH:dN prog 146=true:=by kernel_rfl
theorem iD {rs:List RV}{K:Ending→World→Prop}{f:Nat}{args caps:Array Value}{ds:List Deferred}{u:FrameMode}(hu:u≠.run)(hp:dN prog f=true){w:World}
  (h:CallsD prog f (args++caps) u w fun
   |.returned _,u',w'=>kR prog rs K ds (settle u') w'
   |.panicked chain,u',w'=>kR prog rs K ds (raised u' chain) w'
   |.outgrown,_,_=>False):kR prog rs K ({ target:=.fn (.func f) caps,args:=args }::ds) u w:=
 ⟨hu,.func f,caps,f,args++caps,rfl,by simpa[invoke] using kC hp _ w,h⟩
theorem Qn:dN prog 97=true:=by kernel_rfl
abbrev rU:dX prog 30=true:=by kernel_rfl
theorem pU (o:Ob)(v:Value)(w:World)(h:OV (InW w) w v o)(hb:o.wt≤4611686018427387904):Ret prog 57 #[v] w (fun v w'=>v=.int .i64 (Vl.check 1 o)∧Below w.heap.size w w'):=by
 refine aO fun K hK=>Gw ?_;obtain⟨vk,vc,cs,rfl,ha⟩:=h.open;unfold DU dx cx;refine cY o ha.keys.one ha.kids.one (Own.start w) fun b w1 ho=>?_;rw[Er];refine Gg (E5 (K:=fun e w'=>e=.returned (.int .i64 (Vl.check 1 o))∧Below w.heap.size w w') ?_) ?_
 rotate_left
 ·rintro e w' ⟨rfl,hb'⟩;exact hK _ _ ⟨rfl,hb'⟩
 unfold CQ iN dx;refine cI (fun b=>.pointer (some ⟨b,0,none⟩)) [.int .i64 0] 30 (fun _=>by kernel_rfl) ho fun b2 w2 ho=>?_;rw[Er];refine⟨_,rfl,?_⟩;refine QJ Qn ?_;show CallX prog _ #[.pointer (some ⟨b,0,none⟩)] _ _ _;refine Gg (DN (K:=fun e w'=>(Vl.check 1 o=0→e=.returned (.tuple #[])∧Below w2.heap.size w2 w')∧(Vl.check 1 o≠0→e=.panicked [badE (Vl.check 1 o)]∧Below w2.heap.size w2 w')) ?_) ?_
 ·unfold Bc iN dx cx;rw[ob_v ho 1 rfl];refine Gg (PF o.wt o _ 1 w2 (fun e w'=>(Vl.check 1 o=0→e=.returned (.tuple #[])∧Below w2.heap.size w2 w')∧(Vl.check 1 o≠0→e=.panicked [badE (Vl.check 1 o)]∧Below w2.heap.size w2 w')) (Yw _) (ha.in_ ho).ov hb (by omega) (by omega)
   (fun h0 w' hb'=>⟨fun _=>⟨rfl,hb'⟩,fun h=>absurd h0 h⟩) (fun h0 w' hb'=>⟨fun h=>absurd h h0,fun _=>⟨rfl,hb'⟩⟩)) ?_
  rintro e w' ⟨h1,h2⟩;by_cases h0:Vl.check 1 o=0
  ·obtain⟨rfl,hb'⟩:=h1 h0;exact⟨fun _=>⟨rfl,hb'⟩,fun h=>absurd h0 h⟩
  ·obtain⟨rfl,hb'⟩:=h2 h0;exact⟨fun h=>absurd h h0,fun _=>⟨rfl,hb'⟩⟩
 rintro e w' ⟨h1,h2⟩;by_cases h0:Vl.check 1 o=0
 ·obtain⟨rfl,hb'⟩:=h1 h0;simp only[Cont];have ho:=ho.grow hb';refine aW 0 ho rfl (by kernel_rfl) rfl (by simp) fun w4 ho=>?_;refine iD (by simp) FH (oS ?_);simp only[gZ,recV,recM,Eng.MB ZH,rs,dx];refine Ld rU (ho.cell 0 rfl 0 rfl) (And.intro ?_ ho.done);rw[h0]
 ·obtain⟨rfl,hb'⟩:=h2 h0;simp only[Cont,lZ,pd];have ho:=ho.grow hb';refine iD (by simp) FH (oS ?_);simp only[gZ,recV,recM,Eng.Nk ZH,rs,Ti (show mH prog 165=true by kernel_rfl),
   Di (show [Value.agg #[.int .i64 (Vl.check 1 o)],Value.bool true][1]?=some (Value.bool true) from rfl),Di (show [Value.agg #[.int .i64 (Vl.check 1 o)],Value.bool true][0]?=some (Value.agg #[.int .i64 (Vl.check 1 o)]) from rfl),dx]
  refine cI (fun b=>.pointer (some ⟨b,0,none⟩)) [.int .i64 0] 165 (fun _=>by kernel_rfl) ho fun b5 w5 ho=>?_;refine HE 0 ho rfl (new:=[.int .i64 (Vl.check 1 o)]) (show (Tryz.prog.info? 165).map (·.size)=some 1 by kernel_rfl) (by simp;rfl) rfl fun w6 ho=>?_;rw[dJ (show fOff prog 165 0=some 0 by kernel_rfl),bE rU (ho.cell 0 rfl 0 rfl)];refine aW 1 ho rfl (by kernel_rfl) rfl (by simp) fun w7 ho=>?_;exact Ld rU (ho.cell 1 rfl 0 rfl) (And.intro rfl ho.done)
end
section
open Eng Go.RowKit
theorem OK (x:List UInt8)(w:World):Ret prog 238 #[.string ⟨x.toArray⟩] w (fun v w'=>v=.bool false∧w=w'):=by
 refine aO fun K hK=>AG ?_;unfold sY dx;rw[Lm];exact hK _ _ ⟨by simp,rfl⟩
theorem PM (x:List UInt8)(w:World):Ret prog 184 #[.string ⟨x.toArray⟩] w (fun v w'=>v=.bool false∧w=w'):=by
 refine aO fun K hK=>vQ ?_;unfold oG dx;rw[Lm];exact hK _ _ ⟨by simp,rfl⟩
theorem Qg (x y:List UInt8)(w:World):Ret prog 183 #[.string ⟨x.toArray⟩,.string ⟨y.toArray⟩] w (fun v w'=>v=.bool (Vl.less x y)∧w=w'):=by
 refine aO fun K hK=>Cl ?_;unfold vK dx gtx gfx ctx etx efx cx;refine c_eq (OK x w) ?_;simp only[rs,UL];exact hK _ _ ⟨rfl,rfl⟩
theorem shr1 {a:Int}(h0:0≤a)(h1:a≤4611686018427387904):Int.fdiv (IntKind.wrap .u64 a) (2 ^ (min (1:Int).toNat IntKind.u64.bits))=a / 2:=by
 rw[PX h0 (by omega)];show Int.fdiv a 2=a / 2;rw[Int.fdiv_eq_ediv_of_nonneg _ (by omega)]
theorem Hv (va:Value)(l:List (List UInt8))(x:List UInt8)(w:World)(ha:Sl w va 1 l.length (bB l))(hr:Vl.Rise l)(hl:l.length≤1099511627776) :
  Ret prog 130 #[va,.string ⟨x.toArray⟩] w (fun v w'=>v=.tuple #[.int .i64 (Vl.place l x:Nat),.bool (Vl.hit l x)]∧w=w'):=by
 refine aO fun K hK=>gC ?_;unfold cC iN dx;rw[bY Yn ha];refine loop (fun vs w'=>∃(i j:Nat),vs=[.int .i64 i,.int .i64 j]∧i≤j∧j≤l.length∧(∀m (h:m < l.length),m < i→Vl.less l[m] x=true)∧(∀m (h:m < l.length),j≤m→Vl.less l[m] x=false)∧w=w') (fun vs _=>n1 vs - n0 vs)
  ⟨0,l.length,rfl,by omega,by omega,fun m _ h=>by omega,fun m h1 h2=>by omega,rfl⟩ ?_
 rintro vs w2 ⟨i,j,rfl,hij,hj,hlo,hhi,rfl⟩ _;simp only[cW,gd,rs,iN,dx,gtx,gfx,ctx,cfx,etx,efx,cx];by_cases hlt:(i:Int) < (j:Int)
 ·simp only[hlt,Yj,i_t];rw[aB (by omega) (by omega),F8 (show (Tryz.prog.underlying 3).isSome=true by kernel_rfl) ZZ,XD (by omega),shr1 (by omega) (by omega),
   F8 (show (Tryz.prog.underlying 139).isSome=true by kernel_rfl) YR,aB (by omega) (by omega)]
  obtain⟨h,hh⟩:∃h:Nat,((i:Int)+(j:Int)) / 2=(h:Int):=⟨(i+j) / 2,by omega⟩;rw[hh];have h1:i≤h:=by omega
  have h2:h < j:=by omega
  have h3:h < l.length:=by omega
  refine Bs (.string ⟨(l[h]).toArray⟩) Yn (by kernel_rfl) ha (by omega) (by rw[Yo];exact cD h3) fun q hq=>?_;rw[bE O9 hq];refine c_eq (Qg l[h] x w) ?_;cases hc:Vl.less l[h] x with
 |true=>
   simp only[rs];rw[aB (by omega) (by omega)];refine bO ⟨h+1,j,rfl,by omega,by omega,fun m hm hmi=>?_,hhi,rfl⟩ (by simp[n0,n1,RowKit.intOf];omega);rcases YS m h with h4|h4
   ·exact Vl.jN (Vl.pS hr h4 h3) hc
   ·have:m=h:=by omega
    subst this;exact hc
 |false=>
   simp only[rs];refine bO ⟨i,h,rfl,by omega,by omega,hlo,fun m hm hmi=>?_,rfl⟩ (by simp[n0,n1,RowKit.intOf];omega);rcases YS h m with h4|h4
   ·cases hm2:Vl.less l[m] x with
   |false=>rfl
   |true=>have:=Vl.jN (Vl.pS hr h4 hm) hm2;rw[hc] at this;cases this
   ·have:m=h:=by omega
    subst this;exact hc
 ·have he:i=j:=by omega
  subst he;simp only[hlt,Yi,i_f];have hp:Vl.place l x=i:=Vl.GD hj hlo (fun h=>hhi i h (Yw _));by_cases hn:(i:Int) < (l.length:Int)
  ·have hi':i < l.length:=by omega
   simp only[hn,Yj,rs];refine Bs (.string ⟨(l[i]).toArray⟩) Yn (by kernel_rfl) ha (by omega) (by rw[Yo];exact cD hi') fun q hq=>?_;rw[bE O9 hq];simp only[rs];by_cases hx:l[i]=x
   ·simp only[hx,Yj,rs,g_un];refine hK _ _ ⟨?_,rfl⟩;rw[hp];unfold Vl.hit;rw[hp,YB hi',hx];simp
   ·simp only[hx,Yi,rs];refine Bs (.string ⟨(l[i]).toArray⟩) Yn (by kernel_rfl) ha (by omega) (by rw[Yo];exact cD hi') fun q hq=>?_;rw[bE O9 hq];refine c_eq (PM l[i] w) ?_;simp only[rs];refine hK _ _ ⟨?_,rfl⟩;rw[hp];unfold Vl.hit;rw[hp,YB hi'];simp[hx]
  ·simp only[hn,Yi,rs,g_un];refine hK _ _ ⟨?_,rfl⟩;rw[hp];unfold Vl.hit;rw[hp,aaF (by omega)];simp
end
section
open Eng
def gV(t1 t2 t4 t5 t18 t19 t20 w)(N1:JT)(K:KT):=
 dx (mBin .lss 3 t20 t19) w K fun t21 w=>IfX t21 (dx (mIA 22 t18 t20) w K fun t23 w=>dx (aA 9 t23) w K fun t24 w=>dx (mEq .eql 9 (.tmp 25) (.tmp 26) t24 t1) w K fun t27 w=>IfX t27 (dx (mFA 25 t2 5) w K fun t29 w=>dx (aA 23 t29) w K fun t30 w=>dx (mB .len #[23] 3 #[false] #[t30]) w K fun t31 w=>dx (mBin .geq 3 t20 t31) w K fun t32 w=>IfX t32 (dx (aJ 25 #[]) w K fun t33 w=>dx (aC 25 t4 t33) w K fun _ w=>RetX prog [.cell t4 25,.val (.bool false)] w K) (dx (mFA 25 t2 5) w K fun t34 w=>dx (aA 23 t34) w K fun t35 w=>dx (mIA 23 t35 t20) w K fun t37 w=>dx (aA 25 t37) w K fun t38 w=>dx (aC 25 t4 t38) w K fun _ w=>RetX prog [.cell t4 25,.val (.bool true)] w K)) (dx (mBin .add 3 t20 (iN 1)) w K fun t39 w=>N1 [t5,t39] w)) (dx (aJ 25 #[]) w K fun t40 w=>dx (aC 25 t4 t40) w K fun _ w=>RetX prog [.cell t4 25,.val (.bool false)] w K)
def kG(t0 t1 w)(K:KT):=
 dx (mBox 25 t0) w K fun t2 w=>dx (aM 25) w K fun t4 w=>dx (mFA 25 t2 0) w K fun t8 w=>dx (aA 3 t8) w K fun t9 w=>dx (mEq .neq 3 (.tmp 9) (.const (iN 7)) t9 (iN 7)) w K fun t10 w=>gtx t10 (mFA 25 t2 0) w K fun t12 w=>gtx t10 (aA 3 t12) w K fun t13 w=>gtx t10 (mEq .neq 3 (.tmp 13) (.const (iN 9)) t13 (iN 9)) w K fun t14 w=>dx (aF t10 t14 (.bool false)) w K fun t15 w=>IfX t15 (dx (aJ 25 #[]) w K fun t16 w=>dx (aC 25 t4 t16) w K fun _ w=>RetX prog [.cell t4 25,.val (.bool false)] w K) (dx (mFA 25 t2 4) w K fun t17 w=>dx (aA 22 t17) w K fun t18 w=>dx (mB .len #[22] 3 #[false] #[t18]) w K fun t19 w=>LoopX [(.bool false),(iN 0)] w (fun vs1 w N1=>∀_:Sg,gV t1 t2 t4 (vs1.getD 0 undef) t18 t19 (vs1.getD 1 undef) w N1 K))
theorem AN (t0 t1:Value)(w:World)(K:Ending→World→Prop):wpX prog 41 [] [(4,[5,20])] none (aY Tryz.f38) (topQ prog [.cell 4 25,.tmp 5] K) (aR [t0,t1]) [] w=kG t0 t1 w K:=by kernel_rfl
theorem A8 {t0 t1:Value}{w:World}{K:Ending→World→Prop}(h:kG t0 t1 w K):Calls prog 38 #[t0,t1] w K:=
 aE Tryz.func38 rfl rfl rfl rfl (Eq.mpr (AN t0 t1 w K) h)
def pA(t3 t6 t7 t9 t10 w)(K:KT):=
 dx (mFA 25 t3 4) w K fun t42 w=>dx (aA 22 t42) w K fun t43 w=>dx (aT 22 t43 (some t7) none none) w K fun t45 w=>dx (mB .append #[22,22] 22 #[false,false] #[t9,t45]) w K fun t46 w=>dx (mFA 25 t3 4) w K fun t47 w=>dx (aC 22 t47 t46) w K fun _ w=>dx (mFA 25 t3 5) w K fun t49 w=>dx (aA 23 t49) w K fun t50 w=>dx (aT 23 t50 (some t7) none none) w K fun t52 w=>dx (mB .append #[23,23] 23 #[false,false] #[t10,t52]) w K fun t53 w=>dx (mFA 25 t3 5) w K fun t54 w=>dx (aC 23 t54 t53) w K fun _ w=>dx (aA 25 t3) w K fun t55 w=>dx (aC 25 t6 t55) w K fun _ w=>RetX prog [.cell t6 25] w K
def kL(t0 t1 t2 w)(K:KT):=
 dx (mBox 25 t0) w K fun t3 w=>dx (mBox 25 t2) w K fun t5 w=>dx (aM 25) w K fun t6 w=>dx (mFA 25 t3 4) w K fun t12 w=>dx (aA 22 t12) w K fun t13 w=>cx 141 #[t13,t1] w K fun t15 w=>dx (mExt t15 0) w K fun t16 w=>dx (mExt t15 1) w K fun t17 w=>dx (aS 22 0 #[]) w K fun t18 w=>dx (mFA 25 t3 4) w K fun t19 w=>dx (aA 22 t19) w K fun t20 w=>dx (aT 22 t20 none (some t16) none) w K fun t22 w=>dx (mB .append #[22,22] 22 #[false,false] #[t18,t22]) w K fun t23 w=>dx (aS 23 0 #[]) w K fun t24 w=>dx (mFA 25 t3 5) w K fun t25 w=>dx (aA 23 t25) w K fun t26 w=>dx (aT 23 t26 none (some t16) none) w K fun t28 w=>dx (mB .append #[23,23] 23 #[false,false] #[t24,t28]) w K fun t29 w=>dx (aS 22 1 #[(0,t1)]) w K fun t32 w=>dx (mB .append #[22,22] 22 #[false,false] #[t23,t32]) w K fun t33 w=>dx (aA 25 t5) w K fun t35 w=>dx (aS 23 1 #[(0,t35)]) w K fun t36 w=>dx (mB .append #[23,23] 23 #[false,false] #[t29,t36]) w K fun t37 w=>JoinX (fun J1=>IfX t17 (dx (mBin .add 3 t16 (iN 1)) w K fun t40 w=>J1 [t40] w) (J1 [t16] w)) (fun vs1 w=>∀_:Sg,pA t3 t6 (vs1.getD 0 undef) t33 t37 w K)
theorem Ay (t0 t1 t2:Value)(w:World)(K:Ending→World→Prop):wpX prog 56 [(8,[7])] [] none (aY Tryz.f93) (topQ prog [.cell 6 25] K) (aR [t0,t1,t2]) [] w=kL t0 t1 t2 w K:=by kernel_rfl
theorem AZ {t0 t1 t2:Value}{w:World}{K:Ending→World→Prop}(h:kL t0 t1 t2 w K):Calls prog 93 #[t0,t1,t2] w K:=
 aE Tryz.func93 rfl rfl rfl rfl (Eq.mpr (Ay t0 t1 t2 w K) h)
def lR(t0 t1 t6 w)(N1:JT)(K:KT):=
 dx (mB .len #[22] 3 #[false] #[t0]) w K fun t9 w=>dx (mBin .lss 3 t6 t9) w K fun t10 w=>etx t10 t0 w fun t12 w=>etx t10 t6 w fun t13 w=>gtx t10 (mIA 22 t12 t13) w K fun t14 w=>gtx t10 (aA 9 t14) w K fun t15 w=>etx t10 t1 w fun t16 w=>gtx t10 (mBin .lss 9 t15 t16) w K fun t17 w=>dx (aF t10 t17 (.bool false)) w K fun t18 w=>IfX t18 (dx (mBin .add 3 t6 (iN 1)) w K fun t20 w=>N1 [t20] w) (QuietX w (fun C2=>QDo prog C2 (mB .len #[22] 3 #[false] #[t0]) fun t24=>QDo prog C2 (mBin .lss 3 t6 t24) fun t25=>GQ t25 true (fun E=>E t0) fun t27=>GQ t25 true (fun E=>E t6) fun t28=>GQ t25 true (fun E=>QDo prog C2 (mIA 22 t27 t28) E) fun t29=>GQ t25 true (fun E=>QDo prog C2 (aA 9 t29) E) fun t30=>GQ t25 true (fun E=>E t1) fun t31=>GQ t25 true (fun E=>QDo prog C2 (mEq .eql 9 (.tmp 30) (.tmp 31) t30 t31) E) fun t32=>QDo prog C2 (aF t25 t32 (.bool false)) fun t33=>
 ∀w,C2 w →
 K (.returned (.tuple #[t6,t33])) w))
def gO(t0 t1 w)(K:KT):=
 LoopX [(iN 0)] w (fun vs1 w N1=>∀_:Sg,lR t0 t1 (vs1.getD 0 undef) w N1 K)
theorem xJ (t0 t1:Value)(w:World)(K:Ending→World→Prop):wpX prog 34 [] [(2,[6])] none (aY Tryz.f141) (topQ prog [.tmp 4,.tmp 5] K) (aR [t0,t1]) [] w=gO t0 t1 w K:=by kernel_rfl
theorem vT {t0 t1:Value}{w:World}{K:Ending→World→Prop}(h:gO t0 t1 w K):Calls prog 141 #[t0,t1] w K:=
 aE Tryz.func141 rfl rfl rfl rfl (Eq.mpr (xJ t0 t1 w K) h)
def jI(t5 t6 t11 w)(N1:JT)(K:KT):=
 dx (mBin .add 3 t11 (iN 1)) w K fun t44 w=>N1 [t5,t6,t44] w
def jQ(t1 t2 t4 t5 t6 t10 t11 w)(N1:JT)(K:KT):=
 dx (mBin .lss 3 t11 t10) w K fun t12 w=>IfX t12 (JoinX (fun J2=>dx (mFA 25 t2 4) w K fun t14 w=>dx (aA 22 t14) w K fun t15 w=>dx (mIA 22 t15 t11) w K fun t17 w=>dx (aA 9 t17) w K fun t18 w=>dx (mEq .neq 9 (.tmp 18) (.tmp 19) t18 t1) w K fun t20 w=>etx t20 t11 w fun t22 w=>gtx t20 (mFA 25 t2 5) w K fun t23 w=>gtx t20 (aA 23 t23) w K fun t24 w=>gtx t20 (mB .len #[23] 3 #[false] #[t24]) w K fun t25 w=>gtx t20 (mBin .lss 3 t22 t25) w K fun t26 w=>dx (aF t20 t26 (.bool false)) w K fun t27 w=>IfX t27 (dx (mFA 25 t2 4) w K fun t29 w=>dx (aA 22 t29) w K fun t30 w=>dx (mIA 22 t30 t11) w K fun t32 w=>dx (aA 9 t32) w K fun t33 w=>dx (aS 22 1 #[(0,t33)]) w K fun t34 w=>dx (mB .append #[22,22] 22 #[false,false] #[t5,t34]) w K fun t35 w=>dx (mFA 25 t2 5) w K fun t37 w=>dx (aA 23 t37) w K fun t38 w=>dx (mIA 23 t38 t11) w K fun t40 w=>dx (aA 25 t40) w K fun t41 w=>dx (aS 23 1 #[(0,t41)]) w K fun t42 w=>dx (mB .append #[23,23] 23 #[false,false] #[t6,t42]) w K fun t43 w=>J2 [t35,t43] w) (J2 [t5,t6] w)) (fun vs2 w=>∀_:Sg,jI (vs2.getD 0 undef) (vs2.getD 1 undef) t11 w N1 K)) (dx (mFA 25 t2 4) w K fun t46 w=>dx (aC 22 t46 t5) w K fun _ w=>dx (mFA 25 t2 5) w K fun t48 w=>dx (aC 23 t48 t6) w K fun _ w=>dx (aA 25 t2) w K fun t49 w=>dx (aC 25 t4 t49) w K fun _ w=>RetX prog [.cell t4 25] w K)
def eV(t0 t1 w)(K:KT):=
 dx (mBox 25 t0) w K fun t2 w=>dx (aM 25) w K fun t4 w=>dx (mFA 25 t2 4) w K fun t8 w=>dx (aA 22 t8) w K fun t9 w=>dx (mB .len #[22] 3 #[false] #[t9]) w K fun t10 w=>LoopX [(.slice none 0 0),(.slice none 0 0),(iN 0)] w (fun vs1 w N1=>∀_:Sg,jQ t1 t2 t4 (vs1.getD 0 undef) (vs1.getD 1 undef) t10 (vs1.getD 2 undef) w N1 K)
theorem tW (t0 t1:Value)(w:World)(K:Ending→World→Prop):wpX prog 50 [(9,[5,6])] [(4,[5,6,11])] none (aY Tryz.f91) (topQ prog [.cell 4 25] K) (aR [t0,t1]) [] w=eV t0 t1 w K:=by kernel_rfl
theorem tU {t0 t1:Value}{w:World}{K:Ending→World→Prop}(h:eV t0 t1 w K):Calls prog 91 #[t0,t1] w K:=
 aE Tryz.func91 rfl rfl rfl rfl (Eq.mpr (tW t0 t1 w K) h)
def tK(t0 t1 t2 w)(K:KT):=
 dx (mBox 25 t0) w K fun t3 w=>dx (mBox 25 t2) w K fun t5 w=>dx (aM 25) w K fun t6 w=>dx (mFA 25 t3 0) w K fun t9 w=>dx (aA 3 t9) w K fun t10 w=>dx (mEq .neq 3 (.tmp 10) (.const (iN 7)) t10 (iN 7)) w K fun t11 w=>gtx t11 (mFA 25 t3 0) w K fun t13 w=>gtx t11 (aA 3 t13) w K fun t14 w=>gtx t11 (mEq .neq 3 (.tmp 14) (.const (iN 9)) t14 (iN 9)) w K fun t15 w=>dx (aF t11 t15 (.bool false)) w K fun t16 w=>IfX t16 (dx (aJ 25 #[]) w K fun t17 w=>dx (aC 25 t6 t17) w K fun _ w=>RetX prog [.cell t6 25,.val (iN 10)] w K) (dx (aA 25 t3) w K fun t18 w=>cx 58 #[t18] w K fun t19 w=>dx (mEq .neq 30 (.tmp 20) (.const (iN 0)) t19 (iN 0)) w K fun t21 w=>IfX t21 (dx (aJ 25 #[]) w K fun t22 w=>dx (aC 25 t6 t22) w K fun _ w=>RetX prog [.cell t6 25,.val t19] w K) (dx (mFA 25 t5 0) w K fun t24 w=>dx (aA 3 t24) w K fun t25 w=>dx (mEq .eql 3 (.tmp 25) (.const (iN 0)) t25 (iN 0)) w K fun t26 w=>IfX t26 (dx (aA 25 t3) w K fun t27 w=>cx 91 #[t27,t1] w K fun t29 w=>dx (aC 25 t6 t29) w K fun _ w=>RetX prog [.cell t6 25,.val (iN 0)] w K) (dx (aA 25 t3) w K fun t30 w=>dx (aA 25 t5) w K fun t32 w=>cx 93 #[t30,t1,t32] w K fun t33 w=>cx 92 #[t33] w K fun t34 w=>dx (mExt t34 0) w K fun t35 w=>dx (mExt t34 1) w K fun t36 w=>dx (aC 25 t6 t35) w K fun _ w=>RetX prog [.cell t6 25,.val t36] w K)))
theorem Bu{t0 t1 t2 w K}(h:tK t0 t1 t2 w K):Calls prog 52 #[t0,t1,t2] w K:=cw Tryz.func52 rfl rfl (by kernel_rfl) h
def pE(t0 w)(K:KT):=
 dx (mBox 25 t0) w K fun t1 w=>dx (aM 25) w K fun t2 w=>dx (aA 25 t1) w K fun t5 w=>cx 58 #[t5] w K fun t6 w=>dx (mEq .neq 30 (.tmp 7) (.const (iN 0)) t6 (iN 0)) w K fun t8 w=>IfX t8 (dx (aJ 25 #[]) w K fun t9 w=>dx (aC 25 t2 t9) w K fun _ w=>RetX prog [.cell t2 25,.val t6] w K) (dx (aA 25 t1) w K fun t11 w=>dx (aC 25 t2 t11) w K fun _ w=>RetX prog [.cell t2 25,.val (iN 0)] w K)
theorem wQ{t0 w K}(h:pE t0 w K):Calls prog 92 #[t0] w K:=cw Tryz.func92 rfl rfl (by kernel_rfl) h
end
section
open Go
theorem Ob.wD:∀os:List Ob,os.length≤Ob.wts os
|[]=>by simp
|o::os=>by
  have:=Ob.wD os;have:1≤o.wt:=by cases o;rw[Ob.wt];omega
  rw[Ob.wts,Yr];omega
namespace Wr
def num (n:Int):List UInt8:=(Pl.pInt n).1
def nul:List UInt8:=[110,117,108,108]
def tru:List UInt8:=[116,114,117,101]
def fal:List UInt8:=[102,97,108,115,101]
def leaf (k n:Int)(s:List UInt8):List UInt8:=
 if k=1 then (if n=0 then fal else tru)
 else if k=2 then num n
 else if k=3 then (Pl.EV n).1
 else if k=4 then (Pl.pStr s).1
 else if k=5 then (Pl.rI s).1
 else nul
 mutual
def parts:Ob→List (List UInt8)
|.mk k n g s keys kids=>
  if k=8 then [num n,num g,[82]]
  else if k=6 then [91]::(dG kids++[[93]])
  else if k=7 then [60,60]::(bP keys kids++[[62,62]])
  else [leaf k n s]
def dG:List Ob→List (List UInt8)
|[]=>[]
|o::os=>parts o++dG os
def bP (keys:List (List UInt8)):List Ob→List (List UInt8)
|[]=>[]
|o::os=>match keys with
 |[]=>[]
 |key::ks=>(Pl.rI key).1::(parts o++bP ks os)
end
theorem parts_eq (o:Ob):parts o=if o.k=8 then [num o.n,num o.g,[82]] else if o.k=6 then [91]::(dG o.kids++[[93]]) else if o.k=7 then [60,60]::(bP o.keys o.kids++[[62,62]]) else [leaf o.k o.n o.s]:=by
 cases o;rw[parts];rfl
theorem BP:∀(a b:List Ob),dG (a++b)=dG a++dG b
|[],b=>by simp[dG]
|o::a,b=>by rw[YY,dG,dG,BP a b,YD]
theorem CW (os:List Ob)(i:Nat)(h:i < os.length):dG (os.take (i+1))=dG (os.take i)++parts os[i]:=by
 rw[YL h,BP];simp[dG]
theorem wO:∀(ks:List (List UInt8)) (os:List Ob) (i:Nat) (h1:i < ks.length) (h2:i < os.length),bP (ks.take (i+1)) (os.take (i+1))=bP (ks.take i) (os.take i)++(Pl.rI ks[i]).1::parts os[i]
|key::ks,o::os,0,_,_=>by simp[bP]
|key::ks,o::os,i+1,h1,h2=>by
  rw[Y7,Y7,bP,wO ks os i (by simpa using h1) (by simpa using h2),Y7,Y7,bP];simp
|[],_,_,h1,_=>by simp at h1
|_,[],_,_,h2=>by simp at h2
theorem BM:∀(ks:List (List UInt8)) (os:List Ob) (i:Nat),ks.length≤i∨os.length≤i→bP (ks.take i) (os.take i)=bP ks os
|_,[],i,_=>by simp[bP]
|[],o::os,i,_=>by
  cases i with
 |zero=>simp[bP]
 |succ i=>simp[bP]
|key::ks,o::os,i,h=>by
  cases i with
 |zero=>simp at h
 |succ i=>
   rw[Y7,Y7,bP,bP,BM ks os i (by simpa using h)]
theorem Pj (os:List Ob):bP [] os=[]:=by cases os<;>rw[bP]
theorem FX:∀(ks:List (List UInt8)) (os:List Ob) (i:Nat),bP ks os=bP (ks.take i) (os.take i)++bP (ks.drop i) (os.drop i)
|_,_,0=>by simp[bP]
|_,[],i+1=>by simp[bP]
|[],o::os,i+1=>by simp[Pj]
|key::ks,o::os,i+1=>by
  rw[Y7,Y7,Zx,Zx,bP,bP,FX ks os i];simp
theorem Bq (os:List Ob)(i:Nat):(dG (os.take i)).length≤(dG os).length:=by
 have e:dG os=dG (os.take i)++dG (os.drop i):=by rw[←BP,Zc]
 rw[e,Yp];omega
theorem rS:∀(ks:List (List UInt8)) (os:List Ob) (i:Nat),(bP (ks.take i) (os.take i)).length≤(bP ks os).length
|_,[],i=>by simp[bP]
|[],o::os,i=>by
  cases i with
 |zero=>simp[bP]
 |succ i=>simp[bP]
|key::ks,o::os,i=>by
  cases i with
 |zero=>simp[bP]
 |succ i=>
   have:=rS ks os i;rw[Y7,Y7,bP,bP];simp;omega
theorem Mf (n:Int):(num n).length≤21:=by
 unfold num Pl.pInt;split
 ·exact Lib.itoa_length_le n (by omega) (by omega)
 ·simp
theorem Tn (n:Int):(Pl.EV n).1.length≤200:=by
 unfold Pl.EV;split
 ·show (Fx.text n).length≤200;unfold Fx.text;have h1:=Fx.E3 (n.natAbs / 10000) 1;have h2:=Fx.HP n.natAbs;rw[Yh (by assumption)];have h3:(if n < 0 then ([45]:List UInt8) else []).length≤1:=by split<;>simp
  simp only[Yp,Yr,YG];omega
 ·simp
theorem Va (s:List UInt8):(Pl.pStr s).1.length≤4*s.length+2:=by
 unfold Pl.pStr;split
 ·simp
 ·have:=Pl.xA Pl.esc 4 (fun c=>(Pl.Mw c).2) s;simp[Pl.str];simp at this;omega
theorem Ot (s:List UInt8):(Pl.rI s).1.length≤3*s.length+1:=by
 unfold Pl.rI;split
 ·simp
 split
 ·simp
 ·have:=Pl.xA Pl.nmc 3 (fun c=>(Pl.MU c).2) s;simp[Pl.name];simp at this;omega
theorem Tq (k n:Int)(s:List UInt8):(leaf k n s).length≤200+4*s.length:=by
 unfold leaf;split
 ·split<;>simp[fal,tru]<;>omega
 split
 ·have:=Mf n;omega
 split
 ·have:=Tn n;omega
 split
 ·have:=Va s;omega
 split
 ·have:=Ot s;omega
 ·simp[nul];omega
 mutual
theorem Dy:∀o:Ob,(parts o).length+3≤o.wt
|.mk k n g s keys kids=>by
  have h1:=EW kids;have h2:=BJ keys kids;have h3:=Ob.wts kids;rw[parts,Ob.wt];split
  ·simp;omega
  split
  ·simp;omega
  split
  ·simp;omega
  ·simp;omega
theorem EW:∀os:List Ob,(dG os).length+3*os.length≤Ob.wts os
|[]=>by simp[dG]
|o::os=>by
  have:=Dy o;have:=EW os;rw[dG,Ob.wts];simp;omega
theorem BJ (keys:List (List UInt8)):∀os:List Ob,(bP keys os).length+2*os.length≤Ob.wts os
|[]=>by simp[bP]
|o::os=>by
  have:=Dy o;cases keys with
 |nil=>rw[bP,Ob.wts];have:=BJ [] os;simp;omega
 |cons key ks=>have:=BJ ks os;rw[bP,Ob.wts];simp;omega
end
 mutual
theorem AO:∀o:Ob,Pl.tot (parts o)≤40*o.wt
|.mk k n g s keys kids=>by
  have h1:=Je kids;have h2:=JE keys kids;rw[parts,Ob.wt];split
  ·have:=Mf n;have:=Mf g;simp[Pl.tot];omega
  split
  ·rw[show [91]::(dG kids++[[93]])=[[91]]++(dG kids++[[93]]) from rfl,Pl.dV,Pl.dV];simp[Pl.tot] at *;omega
  split
  ·rw[show [60,60]::(bP keys kids++[[62,62]])=[[60,60]]++(bP keys kids++[[62,62]]) from rfl,Pl.dV,Pl.dV];simp[Pl.tot] at *;omega
  ·have:=Tq k n s;simp[Pl.tot];omega
theorem Je:∀os:List Ob,Pl.tot (dG os)≤40*Ob.wts os
|[]=>by simp[dG,Pl.tot]
|o::os=>by
  have:=AO o;have:=Je os;rw[dG,Ob.wts,Pl.dV];omega
theorem JE (keys:List (List UInt8)):∀os:List Ob,Pl.tot (bP keys os)≤40*Ob.wts os+3*Pl.tot keys
|[]=>by simp[bP,Pl.tot]
|o::os=>by
  have:=AO o;cases keys with
 |nil=>simp[bP,Pl.tot]
 |cons key ks=>
   have:=JE ks os;have:=Ot key;rw[bP,Ob.wts,show (Pl.rI key).1::(parts o++bP ks os)=[(Pl.rI key).1]++(parts o++bP ks os) from rfl,show key::ks=[key]++ks from rfl,Pl.dV,Pl.dV,Pl.dV];simp[Pl.tot] at *;omega
end
def text (o:Ob):List UInt8×Int:=if Vl.check 1 o≠0 then ([],Vl.check 1 o) else if o.k=9 then ([],10) else (Pl.join (parts o),0)
theorem Ny (o:Ob):(text o).1.length≤40*o.wt:=by
 unfold text;split
 ·simp
 split
 ·simp
 ·have:=Pl.KI (parts o);have:=AO o;simp only;omega
theorem Jl {d:Nat}{o:Ob}(h:Vl.check d o=0):∀x∈o.kids,Vl.check (d+1) x=0:=by
 rw[Vl.wA] at h;split at h
 ·rename_i hw;exact absurd h hw
 ·generalize o.kids=os at h ⊢
  induction os with
 |nil=>intro x hx;cases hx
 |cons a os ih=>
   rw[Vl.lO] at h;split at h
   ·rename_i hw;exact absurd h hw
   ·rename_i hw
    intro x hx;rcases Yq.1 hx with rfl|hx
    ·exact YA.1 hw
    ·exact ih h x hx
theorem DL {d:Nat}{o:Ob}(h:Vl.check d o=0):Vl.why d o=0:=by
 rw[Vl.wA] at h;split at h
 ·exact h
 ·rename_i hw;exact YA.1 hw
end Wr
end
section
open Eng
def nO(t0 w)(K:KT):=
 cx 197 #[t0] w K fun t7 w=>dx (mExt t7 0) w K fun t8 w=>dx (mExt t7 1) w K fun t9 w=>K (.returned t8) w
theorem vG{t0 w K}(h:nO t0 w K):Calls prog 143 #[t0] w K:=cw Tryz.func143 rfl rfl (by kernel_rfl) h
def Bw(t3 w)(K:KT):=
 K (.returned t3) w
def iR(t0 w)(K:KT):=
 dx (mBox 25 t0) w K fun t1 w=>JoinX (fun J1=>dx (mFA 25 t1 0) w K fun t4 w=>dx (aA 3 t4) w K fun t5 w=>dx (mEq .eql 3 (.tmp 5) (.const (iN 1)) t5 (iN 1)) w K fun t7 w=>IfX t7 (dx (mFA 25 t1 1) w K fun t8 w=>dx (aA 2 t8) w K fun t9 w=>dx (mEq .eql 2 (.tmp 9) (.const (iN 0)) t9 (iN 0)) w K fun t10 w=>IfX t10 (J1 [(.string ⟨#[102,97,108,115,101]⟩)] w) (J1 [(.string ⟨#[116,114,117,101]⟩)] w)) (dx (mEq .eql 3 (.tmp 5) (.const (iN 2)) t5 (iN 2)) w K fun t12 w=>IfX t12 (dx (mFA 25 t1 1) w K fun t13 w=>dx (aA 2 t13) w K fun t14 w=>cx 143 #[t14] w K fun t15 w=>J1 [t15] w) (dx (mEq .eql 3 (.tmp 5) (.const (iN 3)) t5 (iN 3)) w K fun t17 w=>IfX t17 (dx (mFA 25 t1 1) w K fun t19 w=>dx (aA 2 t19) w K fun t20 w=>cx 199 #[t20] w K fun t21 w=>dx (mExt t21 0) w K fun t22 w=>dx (mExt t21 1) w K fun t23 w=>J1 [t22] w) (dx (mEq .eql 3 (.tmp 5) (.const (iN 4)) t5 (iN 4)) w K fun t25 w=>IfX t25 (dx (mFA 25 t1 3) w K fun t27 w=>dx (aA 9 t27) w K fun t28 w=>cx 200 #[t28] w K fun t29 w=>dx (mExt t29 0) w K fun t30 w=>dx (mExt t29 1) w K fun t31 w=>J1 [t30] w) (dx (mEq .eql 3 (.tmp 5) (.const (iN 5)) t5 (iN 5)) w K fun t33 w=>IfX t33 (dx (mFA 25 t1 3) w K fun t35 w=>dx (aA 9 t35) w K fun t36 w=>cx 144 #[t36] w K fun t37 w=>dx (mExt t37 0) w K fun t38 w=>dx (mExt t37 1) w K fun t39 w=>J1 [t38] w) (J1 [(.string ⟨#[110,117,108,108]⟩)] w)))))) (fun vs1 w=>∀_:Sg,Bw (vs1.getD 0 undef) w K)
theorem Ag (t0:Value)(w:World)(K:Ending→World→Prop):wpX prog 41 [(15,[3])] [] none (aY Tryz.f145) (topQ prog [.tmp 2] K) (aR [t0]) [] w=iR t0 w K:=by kernel_rfl
theorem zX {t0:Value}{w:World}{K:Ending→World→Prop}(h:iR t0 w K):Calls prog 145 #[t0] w K:=
 aE Tryz.func145 rfl rfl rfl rfl (Eq.mpr (Ag t0 w K) h)
def lQ(t1 t3 t5 w)(N3:JT)(K:KT):=
 dx (mFA 25 t1 5) w K fun t48 w=>dx (aA 23 t48) w K fun t49 w=>dx (mB .len #[23] 3 #[false] #[t49]) w K fun t50 w=>dx (mBin .lss 3 t5 t50) w K fun t51 w=>etx t51 t5 w fun t53 w=>gtx t51 (mFA 25 t1 4) w K fun t54 w=>gtx t51 (aA 22 t54) w K fun t55 w=>gtx t51 (mB .len #[22] 3 #[false] #[t55]) w K fun t56 w=>gtx t51 (mBin .lss 3 t53 t56) w K fun t57 w=>dx (aF t51 t57 (.bool false)) w K fun t58 w=>IfX t58 (dx (mFA 25 t1 4) w K fun t62 w=>dx (aA 22 t62) w K fun t63 w=>dx (mIA 22 t63 t5) w K fun t65 w=>dx (aA 9 t65) w K fun t66 w=>cx 144 #[t66] w K fun t67 w=>dx (mExt t67 0) w K fun t68 w=>dx (mExt t67 1) w K fun t69 w=>HeldX w (fun S4 w=>HDo prog S4 (mFA 25 t1 5) fun t74=>HDo prog S4 (aA 23 t74) fun t75=>HDo prog S4 (mIA 23 t75 t5) fun t77=>HDo prog S4 (aA 25 t77) fun t78=>DoX prog (aS 22 1 #[(0,t68)]) w (pm1 (pm1 (pm1 (pm1 (pm1 (pm1 (pm1 (pm1 (pk K))))))))) fun t72 w=>S4 w∧(DoX prog (mB .append #[22,22] 22 #[false,false] #[t3,t72]) w (pm1 (pm1 (pm1 (pm1 (pm1 (pm1 (pm1 (pm1 (pk K))))))))) fun t73 w=>S4 w∧(CallX prog 95 #[t78] w (pm1 (pm1 (pm1 (pm1 (pm1 (pm1 (pm1 (pm1 (pk K))))))))) fun t79 w=>S4 w∧(DoX prog (mB .append #[22,22] 22 #[false,false] #[t73,t79]) w (pm1 (pm1 (pm1 (pm1 (pm1 (pm1 (pm1 (pm1 (pk K))))))))) fun t80 w=>S4 w∧(dx (mBin .add 3 t5 (iN 1)) w K fun t60 w=>N3 [t80,t60] w)))))) (dx (aS 22 1 #[(0,(.string ⟨#[62,62]⟩))]) w K fun t82 w=>dx (mB .append #[22,22] 22 #[false,false] #[t3,t82]) w K fun t83 w=>K (.returned t83) w)
def lI(t1 t3 t4 w)(N2:JT)(K:KT):=
 dx (mFA 25 t1 5) w K fun t25 w=>dx (aA 23 t25) w K fun t26 w=>dx (mB .len #[23] 3 #[false] #[t26]) w K fun t27 w=>dx (mBin .lss 3 t4 t27) w K fun t28 w=>IfX t28 (dx (mFA 25 t1 5) w K fun t32 w=>dx (aA 23 t32) w K fun t33 w=>dx (mIA 23 t33 t4) w K fun t35 w=>dx (aA 25 t35) w K fun t36 w=>cx 95 #[t36] w K fun t37 w=>dx (mB .append #[22,22] 22 #[false,false] #[t3,t37]) w K fun t38 w=>dx (mBin .add 3 t4 (iN 1)) w K fun t30 w=>N2 [t38,t30] w) (dx (aS 22 1 #[(0,(.string ⟨#[93]⟩))]) w K fun t40 w=>dx (mB .append #[22,22] 22 #[false,false] #[t3,t40]) w K fun t41 w=>K (.returned t41) w)
def gU(t0 w)(K:KT):=
 dx (mBox 25 t0) w K fun t1 w=>dx (mFA 25 t1 0) w K fun t8 w=>dx (aA 3 t8) w K fun t9 w=>dx (mEq .eql 3 (.tmp 9) (.const (iN 8)) t9 (iN 8)) w K fun t11 w=>IfX t11 (QuietX w (fun C1=>QDo prog C1 (mFA 25 t1 1) fun t12=>QDo prog C1 (aA 2 t12) fun t13=>QCall prog C1 143 #[t13] fun t14=>QDo prog C1 (mFA 25 t1 2) fun t15=>QDo prog C1 (aA 3 t15) fun t16=>QCall prog C1 143 #[t16] fun t17=>
 ∀w,C1 w →
 dx (aS 22 3 #[(0,t14),(1,t17),(2,(.string ⟨#[82]⟩))]) w K fun t18 w=>K (.returned t18) w)) (dx (mEq .eql 3 (.tmp 9) (.const (iN 6)) t9 (iN 6)) w K fun t20 w=>IfX t20 (dx (aS 22 1 #[(0,(.string ⟨#[91]⟩))]) w K fun t22 w=>dx (mB .append #[22,22] 22 #[false,false] #[(.slice none 0 0),t22]) w K fun t23 w=>LoopX [t23,(iN 0)] w (fun vs2 w N2=>∀_:Sg,lI t1 (vs2.getD 0 undef) (vs2.getD 1 undef) w N2 K)) (dx (mEq .eql 3 (.tmp 9) (.const (iN 7)) t9 (iN 7)) w K fun t43 w=>IfX t43 (dx (aS 22 1 #[(0,(.string ⟨#[60,60]⟩))]) w K fun t45 w=>dx (mB .append #[22,22] 22 #[false,false] #[(.slice none 0 0),t45]) w K fun t46 w=>LoopX [t46,(iN 0)] w (fun vs3 w N3=>∀_:Sg,lQ t1 (vs3.getD 0 undef) (vs3.getD 1 undef) w N3 K)) (dx (aA 25 t1) w K fun t84 w=>cx 145 #[t84] w K fun t85 w=>dx (aS 22 1 #[(0,t85)]) w K fun t86 w=>K (.returned t86) w)))
theorem vR (t0:Value)(w:World)(K:Ending→World→Prop):wpX prog 87 [] [(8,[3,4]),(15,[3,5])] none (aY Tryz.f95) (topQ prog [.tmp 2] K) (aR [t0]) [] w=gU t0 w K:=by kernel_rfl
theorem wJ {t0:Value}{w:World}{K:Ending→World→Prop}(h:gU t0 w K):Calls prog 95 #[t0] w K:=
 aE Tryz.func95 rfl rfl rfl rfl (Eq.mpr (vR t0 w K) h)
def rE(t0 w)(K:KT):=
 dx (mBox 25 t0) w K fun t1 w=>dx (aA 25 t1) w K fun t5 w=>cx 58 #[t5] w K fun t6 w=>dx (mEq .neq 30 (.tmp 7) (.const (iN 0)) t6 (iN 0)) w K fun t8 w=>IfX t8 (K (.returned (.tuple #[(.string ⟨#[]⟩),t6])) w) (dx (mFA 25 t1 0) w K fun t10 w=>dx (aA 3 t10) w K fun t11 w=>dx (mEq .eql 3 (.tmp 11) (.const (iN 9)) t11 (iN 9)) w K fun t12 w=>IfX t12 (K (.returned (.tuple #[(.string ⟨#[]⟩),(iN 10)])) w) (dx (aA 25 t1) w K fun t13 w=>cx 95 #[t13] w K fun t14 w=>cx 94 #[t14] w K fun t15 w=>K (.returned (.tuple #[t15,(iN 0)])) w))
theorem zC{t0 w K}(h:rE t0 w K):Calls prog 53 #[t0] w K:=cw Tryz.func53 rfl rfl (by kernel_rfl) h
end
section
open Eng
def tF(t0 w)(K:KT):=
 dx (mBin .lss 2 t0 (iN (-2147483647))) w K fun t5 w=>efx t5 t0 w fun t7 w=>gfx t5 (mBin .gtr 2 t7 (iN 2147483647)) w K fun t8 w=>dx (aF t5 (.bool true) t8) w K fun t9 w=>IfX t9 (K (.returned (.tuple #[(.string ⟨#[]⟩),(iN 2)])) w) (dx (mBin .lss 2 t0 (iN 0)) w K fun t11 w=>IfX t11 (dx (mUn .neg t0) w K fun t13 w=>cx 244 #[t13] w K fun t14 w=>dx (mBin .add 9 (.string ⟨#[45]⟩) t14) w K fun t15 w=>K (.returned (.tuple #[t15,(iN 0)])) w) (cx 244 #[t0] w K fun t17 w=>K (.returned (.tuple #[t17,(iN 0)])) w))
theorem A5{t0 w K}(h:tF t0 w K):Calls prog 197 #[t0] w K:=cw Tryz.func197 rfl rfl (by kernel_rfl) h
def rB(t0 w)(K:KT):=
 dx (mBin .lss 2 t0 (iN (-1073741824))) w K fun t5 w=>efx t5 t0 w fun t7 w=>gfx t5 (mBin .gtr 2 t7 (iN 1073741824)) w K fun t8 w=>dx (aF t5 (.bool true) t8) w K fun t9 w=>IfX t9 (K (.returned (.tuple #[(.string ⟨#[]⟩),(iN 2)])) w) (cx 245 #[t0] w K fun t11 w=>K (.returned (.tuple #[t11,(iN 0)])) w)
theorem Aq{t0 w K}(h:rB t0 w K):Calls prog 199 #[t0] w K:=cw Tryz.func199 rfl rfl (by kernel_rfl) h
def kT(t4 t5 w)(N1:JT)(K:KT):=
 dx (mBin .add 3 t5 (iN 1)) w K fun t16 w=>N1 [t4,t16] w
def eK(t4 t6 w)(J2:JT)(K:KT):=
 dx (aS 76 1 #[(0,t6)]) w K fun t54 w=>dx (mB .append #[76,76] 76 #[false,false] #[t4,t54]) w K fun t55 w=>J2 [t55] w
def kQ(t0 t4 t5 w)(N1:JT)(K:KT):=
 dx (mB .len #[9] 3 #[false] #[t0]) w K fun t13 w=>dx (mBin .lss 3 t5 t13) w K fun t14 w=>IfX t14 (JoinX (fun J2=>dx (mIx 9 t0 t5) w K fun t19 w=>dx (mBin .lss 5 t19 (.int .u8 32)) w K fun t21 w=>efx t21 t19 w fun t23 w=>gfx t21 (mBin .gtr 5 t23 (.int .u8 126)) w K fun t24 w=>dx (aF t21 (.bool true) t24) w K fun t25 w=>IfX t25 (dx (mBin .quo 5 t19 (.int .u8 64)) w K fun t28 w=>dx (mBin .add 5 (.int .u8 48) t28) w K fun t29 w=>dx (mBin .quo 5 t19 (.int .u8 8)) w K fun t31 w=>dx (mBin .rem 5 t31 (.int .u8 8)) w K fun t32 w=>dx (mBin .add 5 (.int .u8 48) t32) w K fun t33 w=>dx (mBin .rem 5 t19 (.int .u8 8)) w K fun t35 w=>dx (mBin .add 5 (.int .u8 48) t35) w K fun t36 w=>dx (aS 76 4 #[(0,(.int .u8 92)),(1,t29),(2,t33),(3,t36)]) w K fun t37 w=>dx (mB .append #[76,76] 76 #[false,false] #[t4,t37]) w K fun t38 w=>J2 [t38] w) (JoinX (fun J3=>dx (mEq .eql 5 (.tmp 39) (.const (.int .u8 40)) t19 (.int .u8 40)) w K fun t40 w=>efx t40 t19 w fun t42 w=>gfx t40 (mEq .eql 5 (.tmp 42) (.const (.int .u8 41)) t42 (.int .u8 41)) w K fun t43 w=>dx (aF t40 (.bool true) t43) w K fun t44 w=>efx t44 t19 w fun t46 w=>gfx t44 (mEq .eql 5 (.tmp 46) (.const (.int .u8 92)) t46 (.int .u8 92)) w K fun t47 w=>dx (aF t44 (.bool true) t47) w K fun t48 w=>IfX t48 (dx (aS 76 1 #[(0,(.int .u8 92))]) w K fun t50 w=>dx (mB .append #[76,76] 76 #[false,false] #[t4,t50]) w K fun t51 w=>J3 [t51] w) (J3 [t4] w)) (fun vs3 w=>∀_:Sg,eK (vs3.getD 0 undef) t19 w J2 K))) (fun vs2 w=>∀_:Sg,kT (vs2.getD 0 undef) t5 w N1 K)) (dx (aS 76 1 #[(0,(.int .u8 41))]) w K fun t57 w=>dx (mB .append #[76,76] 76 #[false,false] #[t4,t57]) w K fun t58 w=>dx (cH 76 9 t58) w K fun t59 w=>K (.returned (.tuple #[t59,(iN 0)])) w)
def fT(t0 w)(K:KT):=
 dx (mB .len #[9] 3 #[false] #[t0]) w K fun t8 w=>dx (mBin .gtr 3 t8 (iN 32767)) w K fun t9 w=>IfX t9 (K (.returned (.tuple #[(.string ⟨#[]⟩),(iN 5)])) w) (dx (aS 76 1 #[(0,(.int .u8 40))]) w K fun t10 w=>LoopX [t10,(iN 0)] w (fun vs1 w N1=>∀_:Sg,kQ t0 (vs1.getD 0 undef) (vs1.getD 1 undef) w N1 K))
theorem uU (t0:Value)(w:World)(K:Ending→World→Prop):wpX prog 60 [(6,[4]),(12,[4])] [(5,[4,5])] none (aY Tryz.f200) (topQ prog [.tmp 2,.tmp 3] K) (aR [t0]) [] w=fT t0 w K:=by kernel_rfl
theorem uO {t0:Value}{w:World}{K:Ending→World→Prop}(h:fT t0 w K):Calls prog 200 #[t0] w K:=
 aE Tryz.func200 rfl rfl rfl rfl (Eq.mpr (uU t0 w K) h)
def mP(t4 t5 w)(N1:JT)(K:KT):=
 dx (mBin .add 3 t5 (iN 1)) w K fun t15 w=>N1 [t4,t15] w
def nS(t0 t4 t5 w)(N1:JT)(K:KT):=
 dx (mB .len #[9] 3 #[false] #[t0]) w K fun t12 w=>dx (mBin .lss 3 t5 t12) w K fun t13 w=>IfX t13 (JoinX (fun J2=>dx (mIx 9 t0 t5) w K fun t18 w=>dx (mEq .eql 5 (.tmp 19) (.const (.int .u8 0)) t18 (.int .u8 0)) w K fun t20 w=>IfX t20 (K (.returned (.tuple #[(.string ⟨#[]⟩),(iN 3)])) w) (dx (mBin .lss 5 t18 (.int .u8 33)) w K fun t22 w=>efx t22 t18 w fun t24 w=>gfx t22 (mBin .gtr 5 t24 (.int .u8 126)) w K fun t25 w=>dx (aF t22 (.bool true) t25) w K fun t26 w=>efx t26 t18 w fun t28 w=>gfx t26 (mEq .eql 5 (.tmp 28) (.const (.int .u8 35)) t28 (.int .u8 35)) w K fun t29 w=>dx (aF t26 (.bool true) t29) w K fun t30 w=>efx t30 t18 w fun t32 w=>cfx t30 196 #[t32] w K fun t33 w=>dx (aF t30 (.bool true) t33) w K fun t34 w=>IfX t34 (dx (mBin .add 3 t5 (iN 1)) w K fun t39 w=>dx (aT 9 t0 (some t5) (some t39) none) w K fun t40 w=>cx 198 #[t40] w K fun t41 w=>dx (mBin .add 9 (.string ⟨#[35]⟩) t41) w K fun t42 w=>dx (mBin .add 9 t4 t42) w K fun t43 w=>J2 [t43] w) (dx (mBin .add 3 t5 (iN 1)) w K fun t48 w=>dx (aT 9 t0 (some t5) (some t48) none) w K fun t49 w=>dx (mBin .add 9 t4 t49) w K fun t50 w=>J2 [t50] w))) (fun vs2 w=>∀_:Sg,mP (vs2.getD 0 undef) t5 w N1 K)) (K (.returned (.tuple #[t4,(iN 0)])) w)
def iO(t0 w)(K:KT):=
 dx (mB .len #[9] 3 #[false] #[t0]) w K fun t8 w=>dx (mBin .gtr 3 t8 (iN 127)) w K fun t9 w=>IfX t9 (K (.returned (.tuple #[(.string ⟨#[]⟩),(iN 5)])) w) (LoopX [(.string ⟨#[47]⟩),(iN 0)] w (fun vs1 w N1=>∀_:Sg,nS t0 (vs1.getD 0 undef) (vs1.getD 1 undef) w N1 K))
theorem Ah (t0:Value)(w:World)(K:Ending→World→Prop):wpX prog 52 [(6,[4])] [(5,[4,5])] none (aY Tryz.f144) (topQ prog [.tmp 2,.tmp 3] K) (aR [t0]) [] w=iO t0 w K:=by kernel_rfl
theorem zI {t0:Value}{w:World}{K:Ending→World→Prop}(h:iO t0 w K):Calls prog 144 #[t0] w K:=
 aE Tryz.func144 rfl rfl rfl rfl (Eq.mpr (Ah t0 w K) h)
def mV(t3 t5 t9 w)(N1:JT)(K:KT):=
 dx (mBin .add 9 t3 t5) w K fun t39 w=>dx (mBin .add 3 t9 (iN 1)) w K fun t40 w=>N1 [t39,t40] w
def oH(t3 t7 t8 t9 w)(N1:JT)(K:KT):=
 dx (mBin .lss 3 t9 t8) w K fun t10 w=>IfX t10 (dx (mIA 22 t7 t9) w K fun t11 w=>dx (aA 9 t11) w K fun t12 w=>JoinX (fun J2=>dx (mEq .neq 9 (.tmp 13) (.const (.string ⟨#[]⟩)) t12 (.string ⟨#[]⟩)) w K fun t14 w=>etx t14 t3 w fun t16 w=>gtx t14 (mEq .neq 9 (.tmp 16) (.const (.string ⟨#[]⟩)) t16 (.string ⟨#[]⟩)) w K fun t17 w=>dx (aF t14 t17 (.bool false)) w K fun t18 w=>etx t18 t12 w fun t20 w=>gtx t18 (mIx 9 t20 (iN 0)) w K fun t21 w=>ctx t18 142 #[t21] w K fun t22 w=>dx (aF t18 t22 (.bool false)) w K fun t23 w=>IfX t23 (dx (mB .len #[9] 3 #[false] #[t3]) w K fun t26 w=>dx (mBin .sub 3 t26 (iN 1)) w K fun t27 w=>dx (mIx 9 t3 t27) w K fun t28 w=>dx (mEq .eql 5 (.tmp 29) (.const (.int .u8 47)) t28 (.int .u8 47)) w K fun t30 w=>efx t30 t28 w fun t32 w=>cfx t30 142 #[t32] w K fun t33 w=>dx (aF t30 (.bool true) t33) w K fun t34 w=>IfX t34 (dx (mBin .add 9 t3 (.string ⟨#[32]⟩)) w K fun t36 w=>J2 [t36] w) (J2 [t3] w)) (J2 [t3] w)) (fun vs2 w=>∀_:Sg,mV (vs2.getD 0 undef) t12 t9 w N1 K)) (K (.returned t3) w)
def iV(t0 w)(K:KT):=
 dx (mB .len #[22] 3 #[false] #[t0]) w K fun t8 w=>LoopX [(.string ⟨#[]⟩),(iN 0)] w (fun vs1 w N1=>∀_:Sg,oH (vs1.getD 0 undef) t0 t8 (vs1.getD 1 undef) w N1 K)
theorem zG (t0:Value)(w:World)(K:Ending→World→Prop):wpX prog 42 [(9,[3])] [(3,[3,9])] none (aY Tryz.f94) (topQ prog [.tmp 2] K) (aR [t0]) [] w=iV t0 w K:=by kernel_rfl
theorem zD {t0:Value}{w:World}{K:Ending→World→Prop}(h:iV t0 w K):Calls prog 94 #[t0] w K:=
 aE Tryz.func94 rfl rfl rfl rfl (Eq.mpr (zG t0 w K) h)
def nQ(t0 w)(K:KT):=
 dx (mBin .rem 2 t0 (iN 10)) w K fun t5 w=>dx (mBin .rem 2 t0 (iN 10)) w K fun t7 w=>dx (mBin .add 2 t7 (iN 1)) w K fun t8 w=>dx (aT 9 (.string ⟨#[48,49,50,51,52,53,54,55,56,57]⟩) (some t5) (some t8) none) w K fun t9 w=>dx (mBin .lss 2 t0 (iN 10)) w K fun t11 w=>IfX t11 (K (.returned t9) w) (dx (mBin .quo 2 t0 (iN 10)) w K fun t14 w=>cx 244 #[t14] w K fun t15 w=>dx (mBin .add 9 t15 t9) w K fun t17 w=>K (.returned t17) w)
theorem uK{t0 w K}(h:nQ t0 w K):Calls prog 244 #[t0] w K:=cw Tryz.func244 rfl rfl (by kernel_rfl) h
def pD(t0 t3 t4 t5 w)(N1:JT)(K:KT):=
 dx (mB .len #[9] 3 #[false] #[t0]) w K fun t8 w=>dx (mBin .lss 3 t5 t8) w K fun t9 w=>IfX t9 (QuietX w (fun C2=>QDo prog C2 (mIx 9 t0 t5) fun t16=>QDo prog C2 (mBin .quo 5 t16 (.int .u8 16)) fun t17=>QDo prog C2 (mIx 9 t3 t17) fun t18=>QDo prog C2 (mIx 9 t0 t5) fun t22=>QDo prog C2 (mBin .rem 5 t22 (.int .u8 16)) fun t23=>QDo prog C2 (mIx 9 t3 t23) fun t24=>
 ∀w,C2 w →
 DoX prog (aS 76 2 #[(0,t18),(1,t24)]) w (pm1 (pm1 (pm1 (pm1 (pm1 (pm1 (pm1 (pk K)))))))) fun t25 w=>DoX prog (mB .append #[76,76] 76 #[false,false] #[t4,t25]) w (pm1 (pm1 (pm1 (pm1 (pm1 (pm1 (pm1 (pk K)))))))) fun t26 w=>dx (mBin .add 3 t5 (iN 1)) w K fun t11 w=>N1 [t26,t11] w)) (dx (cH 76 9 t4) w K fun t28 w=>K (.returned t28) w)
def kN(t0 w)(K:KT):=
 LoopX [(.slice none 0 0),(iN 0)] w (fun vs1 w N1=>∀_:Sg,pD t0 (.string ⟨#[48,49,50,51,52,53,54,55,56,57,65,66,67,68,69,70]⟩) (vs1.getD 0 undef) (vs1.getD 1 undef) w N1 K)
theorem AL (t0:Value)(w:World)(K:Ending→World→Prop):wpX prog 29 [] [(4,[4,5])] none (aY Tryz.f198) (topQ prog [.tmp 2] K) (aR [t0]) [] w=kN t0 w K:=by kernel_rfl
theorem AH {t0:Value}{w:World}{K:Ending→World→Prop}(h:kN t0 w K):Calls prog 198 #[t0] w K:=
 aE Tryz.func198 rfl rfl rfl rfl (Eq.mpr (AL t0 w K) h)
def pN(t0 w)(K:KT):=
 dx (mEq .eql 5 (.tmp 3) (.const (.int .u8 40)) t0 (.int .u8 40)) w K fun t4 w=>efx t4 t0 w fun t6 w=>gfx t4 (mEq .eql 5 (.tmp 6) (.const (.int .u8 41)) t6 (.int .u8 41)) w K fun t7 w=>dx (aF t4 (.bool true) t7) w K fun t8 w=>efx t8 t0 w fun t10 w=>gfx t8 (mEq .eql 5 (.tmp 10) (.const (.int .u8 60)) t10 (.int .u8 60)) w K fun t11 w=>dx (aF t8 (.bool true) t11) w K fun t12 w=>efx t12 t0 w fun t14 w=>gfx t12 (mEq .eql 5 (.tmp 14) (.const (.int .u8 62)) t14 (.int .u8 62)) w K fun t15 w=>dx (aF t12 (.bool true) t15) w K fun t16 w=>efx t16 t0 w fun t18 w=>gfx t16 (mEq .eql 5 (.tmp 18) (.const (.int .u8 91)) t18 (.int .u8 91)) w K fun t19 w=>dx (aF t16 (.bool true) t19) w K fun t20 w=>efx t20 t0 w fun t22 w=>gfx t20 (mEq .eql 5 (.tmp 22) (.const (.int .u8 93)) t22 (.int .u8 93)) w K fun t23 w=>dx (aF t20 (.bool true) t23) w K fun t24 w=>efx t24 t0 w fun t26 w=>gfx t24 (mEq .eql 5 (.tmp 26) (.const (.int .u8 123)) t26 (.int .u8 123)) w K fun t27 w=>dx (aF t24 (.bool true) t27) w K fun t28 w=>efx t28 t0 w fun t30 w=>gfx t28 (mEq .eql 5 (.tmp 30) (.const (.int .u8 125)) t30 (.int .u8 125)) w K fun t31 w=>dx (aF t28 (.bool true) t31) w K fun t32 w=>efx t32 t0 w fun t34 w=>gfx t32 (mEq .eql 5 (.tmp 34) (.const (.int .u8 47)) t34 (.int .u8 47)) w K fun t35 w=>dx (aF t32 (.bool true) t35) w K fun t36 w=>efx t36 t0 w fun t38 w=>gfx t36 (mEq .eql 5 (.tmp 38) (.const (.int .u8 37)) t38 (.int .u8 37)) w K fun t39 w=>dx (aF t36 (.bool true) t39) w K fun t40 w=>K (.returned t40) w
theorem xD{t0 w K}(h:pN t0 w K):Calls prog 196 #[t0] w K:=cw Tryz.func196 rfl rfl (by kernel_rfl) h
def lK(t0 w)(K:KT):=
 cx 162 #[t0] w K fun t4 w=>dx (mUn .not t4) w K fun t5 w=>etx t5 t0 w fun t7 w=>ctx t5 196 #[t7] w K fun t8 w=>gtx t5 (mUn .not t8) w K fun t9 w=>dx (aF t5 t9 (.bool false)) w K fun t10 w=>K (.returned t10) w
theorem tQ{t0 w K}(h:lK t0 w K):Calls prog 142 #[t0] w K:=cw Tryz.func142 rfl rfl (by kernel_rfl) h
def pK(t0 w)(K:KT):=
 dx (mEq .eql 5 (.tmp 3) (.const (.int .u8 0)) t0 (.int .u8 0)) w K fun t4 w=>efx t4 t0 w fun t6 w=>gfx t4 (mEq .eql 5 (.tmp 6) (.const (.int .u8 9)) t6 (.int .u8 9)) w K fun t7 w=>dx (aF t4 (.bool true) t7) w K fun t8 w=>efx t8 t0 w fun t10 w=>gfx t8 (mEq .eql 5 (.tmp 10) (.const (.int .u8 10)) t10 (.int .u8 10)) w K fun t11 w=>dx (aF t8 (.bool true) t11) w K fun t12 w=>efx t12 t0 w fun t14 w=>gfx t12 (mEq .eql 5 (.tmp 14) (.const (.int .u8 12)) t14 (.int .u8 12)) w K fun t15 w=>dx (aF t12 (.bool true) t15) w K fun t16 w=>efx t16 t0 w fun t18 w=>gfx t16 (mEq .eql 5 (.tmp 18) (.const (.int .u8 13)) t18 (.int .u8 13)) w K fun t19 w=>dx (aF t16 (.bool true) t19) w K fun t20 w=>efx t20 t0 w fun t22 w=>gfx t20 (mEq .eql 5 (.tmp 22) (.const (.int .u8 32)) t22 (.int .u8 32)) w K fun t23 w=>dx (aF t20 (.bool true) t23) w K fun t24 w=>K (.returned t24) w
theorem wR{t0 w K}(h:pK t0 w K):Calls prog 162 #[t0] w K:=cw Tryz.func162 rfl rfl (by kernel_rfl) h
end
section
open Eng Go.RowKit
theorem E7 (c:UInt8)(w:World):Ret prog 162 #[.int .u8 c.toNat] w (fun v w'=>v=.bool (Oc.rX c)∧w=w'):=by
 refine aO fun K hK=>wR ?_;unfold pK dx gfx efx;have e0:=u8d c 0 0 rfl;have e1:=u8d c 9 9 rfl;have e2:=u8d c 10 10 rfl;have e3:=u8d c 12 12 rfl;have e4:=u8d c 13 13 rfl;have e5:=u8d c 32 32 rfl;by_cases h0:c=0
 ·simp only[rs,e0,Yk h0,g_un];exact hK _ _ ⟨by rw[h0];rfl,rfl⟩
 simp only[rs,e0,Yl h0,g_un];by_cases h1:c=9
 ·simp only[rs,e1,Yk h1,g_un];exact hK _ _ ⟨by rw[h1];rfl,rfl⟩
 simp only[rs,e1,Yl h1,g_un];by_cases h2:c=10
 ·simp only[rs,e2,Yk h2,g_un];exact hK _ _ ⟨by rw[h2];rfl,rfl⟩
 simp only[rs,e2,Yl h2,g_un];by_cases h3:c=12
 ·simp only[rs,e3,Yk h3,g_un];exact hK _ _ ⟨by rw[h3];rfl,rfl⟩
 simp only[rs,e3,Yl h3,g_un];by_cases h4:c=13
 ·simp only[rs,e4,Yk h4,g_un];exact hK _ _ ⟨by rw[h4];rfl,rfl⟩
 simp only[rs,e4,Yl h4,g_un];by_cases h5:c=32
 ·simp only[rs,e5,Yk h5,g_un];exact hK _ _ ⟨by rw[h5];rfl,rfl⟩
 simp only[rs,e5,Yl h5,g_un];exact hK _ _ ⟨by simp[Oc.rX,Oc.Oj,h0,h1,h2,h3,h4,h5],rfl⟩
theorem Jz (c:UInt8)(w:World):Ret prog 196 #[.int .u8 c.toNat] w (fun v w'=>v=.bool (Oc.K5 c)∧w=w'):=by
 refine aO fun K hK=>xD ?_;unfold pN dx gfx efx;have e0:=u8d c 40 40 rfl;have e1:=u8d c 41 41 rfl;have e2:=u8d c 60 60 rfl;have e3:=u8d c 62 62 rfl;have e4:=u8d c 91 91 rfl;have e5:=u8d c 93 93 rfl;have e6:=u8d c 123 123 rfl;have e7:=u8d c 125 125 rfl;have e8:=u8d c 47 47 rfl;have e9:=u8d c 37 37 rfl;by_cases h0:c=40
 ·simp only[rs,e0,Yk h0,g_un];exact hK _ _ ⟨by rw[h0];rfl,rfl⟩
 simp only[rs,e0,Yl h0,g_un];by_cases h1:c=41
 ·simp only[rs,e1,Yk h1,g_un];exact hK _ _ ⟨by rw[h1];rfl,rfl⟩
 simp only[rs,e1,Yl h1,g_un];by_cases h2:c=60
 ·simp only[rs,e2,Yk h2,g_un];exact hK _ _ ⟨by rw[h2];rfl,rfl⟩
 simp only[rs,e2,Yl h2,g_un];by_cases h3:c=62
 ·simp only[rs,e3,Yk h3,g_un];exact hK _ _ ⟨by rw[h3];rfl,rfl⟩
 simp only[rs,e3,Yl h3,g_un];by_cases h4:c=91
 ·simp only[rs,e4,Yk h4,g_un];exact hK _ _ ⟨by rw[h4];rfl,rfl⟩
 simp only[rs,e4,Yl h4,g_un];by_cases h5:c=93
 ·simp only[rs,e5,Yk h5,g_un];exact hK _ _ ⟨by rw[h5];rfl,rfl⟩
 simp only[rs,e5,Yl h5,g_un];by_cases h6:c=123
 ·simp only[rs,e6,Yk h6,g_un];exact hK _ _ ⟨by rw[h6];rfl,rfl⟩
 simp only[rs,e6,Yl h6,g_un];by_cases h7:c=125
 ·simp only[rs,e7,Yk h7,g_un];exact hK _ _ ⟨by rw[h7];rfl,rfl⟩
 simp only[rs,e7,Yl h7,g_un];by_cases h8:c=47
 ·simp only[rs,e8,Yk h8,g_un];exact hK _ _ ⟨by rw[h8];rfl,rfl⟩
 simp only[rs,e8,Yl h8,g_un];by_cases h9:c=37
 ·simp only[rs,e9,Yk h9,g_un];exact hK _ _ ⟨by rw[h9];rfl,rfl⟩
 simp only[rs,e9,Yl h9,g_un];exact hK _ _ ⟨by simp[Oc.K5,Oc.Ol,h0,h1,h2,h3,h4,h5,h6,h7,h8,h9],rfl⟩
theorem BF (c:UInt8)(w:World):Ret prog 142 #[.int .u8 c.toNat] w (fun v w'=>v=.bool (Oc.regular c)∧w=w'):=by
 refine aO fun K hK=>tQ ?_;unfold lK dx gtx ctx etx cx;refine c_eq (E7 c w) ?_;cases hw:Oc.rX c with
|true=>simp only[rs];exact hK _ _ ⟨by simp[Oc.regular,hw],rfl⟩
|false=>
  simp only[rs];refine c_eq (Jz c w) ?_;simp only[rs];exact hK _ _ ⟨by simp[Oc.regular,hw],rfl⟩
abbrev BRow (v:Value)(l:List UInt8):Ent:=.row 5 1 v l.length (bZ l)
theorem Jq {S:Nat→Prop}{w0 w:World}{L:List Ent}{v:Value}{l m:List UInt8}{parts:Array (Nat×Value)}{n:Nat}{cs:Array Bool}{PK PK2:PKT}{K:VWP}
  (hm:∀w,(aS 76 n parts).run prog w=.ok (.value (.slice (some ⟨w.heap.size,0,none⟩) m.length m.length)) (w.alloc (.cells (bZ m).toArray 5)))
  (ho:OwnS S w0 w (BRow v l::L)) (hb:l.length+m.length≤140737488355328) (k:∀v' w',OwnS S w0 w' (BRow v' (l++m)::L)→K v' w') :
  DoX prog (aS 76 n parts) w PK fun t w=>DoX prog (mB .append #[76,76] 76 cs #[v,t]) w PK2 K:=by
 refine cI (fun b=>.slice (some ⟨b,0,none⟩) m.length m.length) (bZ m) 5 hm ho fun nb w4 h4=>?_;refine GJ 1 Y3 (show elB prog 5 1 1=true by kernel_rfl) (by decide) h4 rfl (h4.sl 0 rfl 1 m.length m.length (by rw[DM,Zk])) (Fg _) (by omega) (by omega) fun v' w5 h5=>?_;refine k v' w5 ?_;have e:BRow v' (l++m)=.row 5 1 v' (l.length+m.length) (bZ l++bZ m):=by
  rw[BRow,jY,Yp]
 rw[e];exact h5.tail
theorem DO {S:Nat→Prop}{w0 w:World}{L:List Ent}{v:Value}{l:List UInt8}{PK:PKT}{K:VWP}(i:Nat)(ho:OwnS S w0 w L)(hi:L[i]?=some (BRow v l)) :
  DoX prog (cH 76 9 v) w PK K=K (.string ⟨l.toArray⟩) w:=
 EO (l:=l) Y3 YV Ym (ho.D5 i hi)
theorem TU (l:List UInt8)(w:World)(hl:l.length≤1000000):Ret prog 198 #[.string ⟨l.toArray⟩] w (fun v w'=>v=.string ⟨(Oc.hex l).toArray⟩∧Below w.heap.size w w'):=by
 refine aO fun K hK=>AH ?_;unfold kN iN;refine loop (fun vs w'=>∃(i:Nat) (v:Value),vs=[v,.int .i64 i]∧i≤l.length∧Own w w' [BRow v (Oc.hex (l.take i))])
  (fun vs _=>l.length - n1 vs) ⟨0,_,rfl,by omega,(Own.start w).uG _ 1⟩ ?_
 rintro vs w2 ⟨i,v,rfl,hi,ho⟩ _;simp only[pD,gd,bF Ym,iN,dx];rw[oL];by_cases hlt:(i:Int) < (l.length:Int)
 ·have hi2:i < l.length:=by omega
  have hc:l[(i:Int).toNat]?=some l[i]:=by simp[hi2]
  have h256:=l[i].toNat_lt;have hd1:l[i].toNat / 16 < 16:=by omega
  have hd2:l[i].toNat % 16 < 16:=by omega
  have hq:((l[i].toNat:Int).tdiv 16)=((l[i].toNat / 16:Nat):Int):=by rw[Zw (by omega)];omega
  have hr:((l[i].toNat:Int).tmod 16)=((l[i].toNat % 16:Nat):Int):=by rw[Zl (by omega)];omega
  simp only[hlt,Yj,i_t];refine quiet (q_do _ (fun w=>gE Ym (by omega) hc) (q_do _ (fun w=>by rw[XS (by omega),hq,cZ (by omega) (by omega)]) (q_do _ (fun w=>Gx _ hd1 w)
   (q_do _ (fun w=>gE Ym (by omega) hc) (q_do _ (fun w=>by rw[Xj (by omega),hr]) (q_do _ (fun w=>Gx _ hd2 w) ?_))))))
  intro w3 hb3;have hlen:=Oc.B1 (l.take i);rw[YC] at hlen;refine Jq (m:=Oc.hex1 l[i]) (fun _=>by kernel_rfl) (ho.grow hb3) (by simp only[Oc.hex1,Yr,YG];omega) fun v' w5 h5=>?_;rw[qD,aB (by omega) (by omega)];refine bO ⟨i+1,v',rfl,by omega,?_⟩ (by simp[n1,RowKit.intOf];omega);rw[YL hi2,Oc.Nu];exact h5
 ·have hi2:i=l.length:=by omega
  subst hi2;simp only[hlt,Yi,i_f];rw[Ze] at ho;rw[DO 0 ho rfl];exact hK _ _ ⟨rfl,ho.done⟩
theorem KW:∀k:Fin 10,(([48,49,50,51,52,53,54,55,56,57]:List UInt8).drop k.val).take (k.val+1 - k.val)=[UInt8.ofNat (48+k.val)]:=by decide
theorem vV (u:Nat)(h:u < 18446744073709551616):(Lib.decDigits u).length≤20:=by rw[Lib.decDigits_length];exact Lib.nDigits_le20 u h
theorem HZ:∀(n:Nat) (w:World),n≤9223372036854775807→Ret prog 244 #[.int .i64 n] w (fun v w'=>v=.string ⟨(Lib.decDigits n).toArray⟩∧w=w'):=by
 intro n
 induction n using Nat.strongRecOn with
|_ n ih=>
  intro w hn;refine aO fun K hK=>uK ?_;unfold nQ iN dx cx;have hr:((n:Int).tmod 10)=((n % 10:Nat):Int):=by rw[Zl (by omega)];omega
  have hq:((n:Int).tdiv 10)=((n / 10:Nat):Int):=by rw[Zw (by omega)];omega
  simp only[EC (show (10:Int)≠0 by omega),Gr (show (10:Int)≠0 by omega),hr,hq,rs];rw[aB (n:=((n % 10:Nat):Int)+1) (by omega) (by omega)];change DoX prog (aT 9 (.string ⟨([48,49,50,51,52,53,54,55,56,57]:List UInt8).toArray⟩) _ _ _) _ _ _;rw[Bt Ym (by omega) (by omega) (by simp only[Yr,YG];omega)];have hp:=KW ⟨n % 10,by omega⟩;simp only at hp;rw[show (((n % 10:Nat):Int)+1).toNat=n % 10+1 by omega,Yo,hp];by_cases h10:(n:Int) < 10
  ·simp only[h10,Yj,i_t];refine hK _ _ ⟨?_,rfl⟩;rw[Lib.decDigits,dif_pos (by omega),show n % 10=n by omega]
  ·simp only[h10,Yi,i_f];rw[aB (by omega) (by omega)];refine c_eq (ih (n / 10) (by omega) w (by omega)) ?_;have hl:=vV (n / 10) (by omega);rw[kW (by simp;omega)];refine hK _ _ ⟨?_,rfl⟩;rw[Lib.decDigits.eq_1 n,dif_neg (by omega)]
theorem SO (n:Int)(w:World):Ret prog 197 #[.int .i64 n] w (fun v w'=>v=.tuple #[.string ⟨(Pl.pInt n).1.toArray⟩,.int .i64 (Pl.pInt n).2]∧w=w'):=by
 refine aO fun K hK=>A5 ?_;unfold tF iN dx gfx efx cx;by_cases h1:n < -2147483647
 ·simp only[rs,h1,Yj,g_un];exact hK _ _ ⟨by rw[Pl.pInt,Yg (by omega)],rfl⟩
 simp only[rs,h1,Yi];by_cases h2:2147483647 < n
 ·simp only[rs,h2,Yj];exact hK _ _ ⟨by rw[Pl.pInt,Yg (by omega)],rfl⟩
 simp only[rs,h2,Yi];by_cases h3:n < 0
 ·simp only[rs,h3,Yj];rw[aB (by omega) (by omega)];obtain⟨m,hm⟩:∃m:Nat,-n=m:=⟨(-n).toNat,by omega⟩;rw[hm];refine c_eq (HZ m w (by omega)) ?_;have hl:=vV m (by omega);change DoX prog (mBin .add 9 (.string ⟨([45]:List UInt8).toArray⟩) (.string ⟨(Lib.decDigits m).toArray⟩)) _ _ _;rw[kW (by simp;omega)];refine hK _ _ ⟨?_,rfl⟩;rw[Pl.pInt,Yh (by omega),Lib.itoa,Yh h3,show n.natAbs=m by omega];rfl
 ·simp only[rs,h3,Yi];obtain⟨m,rfl⟩:∃m:Nat,n=m:=⟨n.toNat,by omega⟩;refine c_eq (HZ m w (by omega)) ?_;refine hK _ _ ⟨?_,rfl⟩;rw[Pl.pInt,Yh (by omega),Lib.itoa,Yg h3,Yo]
theorem R4 (n:Int)(w:World):Ret prog 199 #[.int .i64 n] w (fun v w'=>v=.tuple #[.string ⟨(Pl.EV n).1.toArray⟩,.int .i64 (Pl.EV n).2]∧Below w.heap.size w w'):=by
 refine aO fun K hK=>Aq ?_;unfold rB iN dx gfx efx cx;by_cases h1:n < -1073741824
 ·simp only[rs,h1,Yj];exact hK _ _ ⟨by rw[Pl.EV,Yg (by simp[Fx.okB];omega)],Below.refl _ _⟩
 ·simp only[rs,h1,Yi];by_cases h2:1073741824 < n
  ·simp only[rs,h2,Yj];exact hK _ _ ⟨by rw[Pl.EV,Yg (by simp[Fx.okB];omega)],Below.refl _ _⟩
  ·simp only[rs,h2,Yi];refine dS (R6 n w) ?_;rintro _ w' ⟨rfl,hb⟩;exact hK _ _ ⟨by rw[Pl.EV,Yh (by simp[Fx.okB];omega)],hb⟩
end
section
open Eng Go.RowKit
theorem SG (l:List UInt8)(w:World)(hl:l.length≤1000000):Ret prog 200 #[.string ⟨l.toArray⟩] w (fun v w'=>v=.tuple #[.string ⟨(Pl.pStr l).1.toArray⟩,.int .i64 (Pl.pStr l).2]∧Below w.heap.size w w'):=by
 refine aO fun K hK=>uO ?_;unfold fT iN dx;rw[bF Ym,Sv];by_cases h1:(32767:Int) < l.length
 ·simp only[rs,h1,Yj];exact hK _ _ ⟨by rw[Pl.pStr,Yh (by omega)],Below.refl _ _⟩
 simp only[rs,h1,Yi];refine cI (fun b=>.slice (some ⟨b,0,none⟩) 1 1) (bZ [40]) 5 (fun _=>by kernel_rfl) (Own.start w) fun nb w1 ho1=>?_;have ho:=OwnS.QT ho1 1 1 1 rfl (by omega) (by omega);refine loop (fun vs w'=>∃(i:Nat) (v:Value),vs=[v,.int .i64 i]∧i≤l.length∧Own w w' [BRow v ([40]++(l.take i).flatMap Pl.esc)])
  (fun vs _=>l.length - n1 vs) ⟨0,_,rfl,by omega,by simpa[BRow,bZ] using ho⟩ ?_
 rintro vs w2 ⟨i,v,rfl,hi,ho2⟩ _;simp only[kQ,gd,bF Ym,iN,dx,gfx,efx];rw[oL];have hfl:=Pl.xA Pl.esc 4 (fun c=>(Pl.Mw c).2) (l.take i);have htk:(l.take i).length≤l.length:=by rw[YC];omega
 have hbd:([40]++(l.take i).flatMap Pl.esc).length≤140000:=by simp only[Yp,Yr,YG];omega
 by_cases hlt:(i:Int) < (l.length:Int)
 ·have hi2:i < l.length:=by omega
  simp only[hlt,Yj,i_t];refine join fun J2 hJ2=>?_;rw[s_ix (c:=l[i]) Ym (by omega) (by simp[hi2])];have fin:∀(v':Value) (w':World),Own w w' [BRow v' ([40]++(l.take i).flatMap Pl.esc++Pl.esc l[i])]→J2 [v'] w':=by
   intro v' w' h';refine hJ2 _ _ fun _=>?_;simp only[kT,gd,iN,dx];rw[qD,aB (by omega) (by omega)];refine bO ⟨i+1,v',rfl,by omega,?_⟩ (by simp[n1,RowKit.intOf];omega);rw[YL hi2,Pl.GW,←YD];exact h'
  generalize hc:l[i]=c at *;have h256:=c.toNat_lt;have oct:¬(c=40∨c=41∨c=92)→(c.toNat < 32∨126 < c.toNat) →
    DoX prog (mBin .quo 5 (.int .u8 c.toNat) (.int .u8 64)) w2 (pk K) fun t28 w=>
    DoX prog (mBin .add 5 (.int .u8 48) t28) w (pk K) fun t29 w=>
    DoX prog (mBin .quo 5 (.int .u8 c.toNat) (.int .u8 8)) w (pk K) fun t31 w=>
    DoX prog (mBin .rem 5 t31 (.int .u8 8)) w (pk K) fun t32 w=>
    DoX prog (mBin .add 5 (.int .u8 48) t32) w (pk K) fun t33 w=>
    DoX prog (mBin .rem 5 (.int .u8 c.toNat) (.int .u8 8)) w (pk K) fun t35 w=>
    DoX prog (mBin .add 5 (.int .u8 48) t35) w (pk K) fun t36 w=>
    DoX prog (aS 76 4 #[(0,(.int .u8 92)),(1,t29),(2,t33),(3,t36)]) w (pk K) fun t37 w=>
    DoX prog (mB .append #[76,76] 76 #[false,false] #[v,t37]) w (pk K) fun t38 w=>
    J2 [t38] w:=by
   intro hn hcc;have q64:((c.toNat:Int).tdiv 64)=((c.toNat / 64:Nat):Int):=by rw[Zw (by omega)];omega
   have q8:((c.toNat:Int).tdiv 8)=((c.toNat / 8:Nat):Int):=by rw[Zw (by omega)];omega
   have r8:((c.toNat:Int).tmod 8)=((c.toNat % 8:Nat):Int):=by rw[Zl (by omega)];omega
   have qr:(((c.toNat / 8:Nat):Int).tmod 8)=((c.toNat / 8 % 8:Nat):Int):=by rw[Zl (by omega)];omega
   rw[Gr (by omega),q64,cZ (by omega) (by omega),qD,cZ (by omega) (by omega),Gr (by omega),q8,cZ (by omega) (by omega),EC (by omega),qr,qD,cZ (by omega) (by omega),EC (by omega),r8,qD,cZ (by omega) (by omega)];rw[show ((48:Int)+((c.toNat / 64:Nat):Int))=((48+c.toNat / 64:Nat):Int) by omega,show ((48:Int)+((c.toNat / 8 % 8:Nat):Int))=((48+c.toNat / 8 % 8:Nat):Int) by omega,show ((48:Int)+((c.toNat % 8:Nat):Int))=((48+c.toNat % 8:Nat):Int) by omega];rw[←TV (48+c.toNat / 64) (by omega),←TV (48+c.toNat / 8 % 8) (by omega),←TV (48+c.toNat % 8) (by omega)];refine Jq (m:=Pl.oct c) (fun _=>by kernel_rfl) ho2 (by simp only[Pl.oct,Yr,YG];omega) fun v' w5 h5=>?_;refine fin v' w5 ?_;rw[show Pl.esc c=Pl.oct c by rw[Pl.esc,Yg hn,Yh hcc]];exact h5
  have plainc:∀(l':List UInt8) (v':Value) (w':World),Own w w' [BRow v' ([40]++(l.take i).flatMap Pl.esc++l')]→l'.length≤1→l'++[c]=Pl.esc c→eK v' (.int .u8 c.toNat) w' J2 K:=by
   intro l' v' w' h' hl' he;simp only[eK,dx];refine Jq (m:=[c]) (fun _=>by kernel_rfl) h' (by simp only[Yp,Yr,YG] at hbd ⊢;omega) fun v2 w5 h5=>?_;refine fin v2 w5 ?_;rw[←he,←YD];exact h5
  by_cases h2:(c.toNat:Int) < 32
  ·simp only[rs,h2,Yj,g_un];have:=oct (by rintro (rfl|rfl|rfl)<;>simp at h2) (.inl (by omega));simpa only[rs] using this
  simp only[rs,h2,Yi,g_un];by_cases h3:(126:Int) < (c.toNat:Int)
  ·simp only[rs,h3,Yj,g_un];have:=oct (by rintro (rfl|rfl|rfl)<;>simp at h3) (.inr (by omega));simpa only[rs] using this
  simp only[rs,h3,Yi,g_un];refine join fun J3 hJ3=>?_;have two:(c=40∨c=41∨c=92)→DoX prog (aS 76 1 #[(0,(.int .u8 92))]) w2 (pk K) fun t50 w=>
    DoX prog (mB .append #[76,76] 76 #[false,false] #[v,t50]) w (pk K) fun t51 w=>J3 [t51] w:=by
   intro hcc;refine Jq (m:=[92]) (fun _=>by kernel_rfl) ho2 (by simp only[Yr,YG];omega) fun v' w5 h5=>?_;refine hJ3 _ _ fun _=>?_;simp only[gd];exact plainc [92] v' w5 h5 (by simp) (by rw[Pl.esc,Yh hcc];rfl)
  have e1:=u8d c 40 40 rfl;have e2:=u8d c 41 41 rfl;have e3:=u8d c 92 92 rfl;by_cases g1:c=40
  ·simp only[rs,e1,Yk g1,g_un];exact two (.inl g1)
  simp only[rs,e1,Yl g1,g_un];by_cases g2:c=41
  ·simp only[rs,e2,Yk g2,g_un];exact two (.inr (.inl g2))
  simp only[rs,e2,Yl g2,g_un];by_cases g3:c=92
  ·simp only[rs,e3,Yk g3,g_un];exact two (.inr (.inr g3))
  simp only[rs,e3,Yl g3,g_un];refine hJ3 _ _ fun _=>?_;simp only[gd];exact plainc [] v w2 (by rw[YQ];exact ho2) (by simp) (by rw[Pl.esc,Yg (by simp[g1,g2,g3]),Yg (by omega)];rfl)
 ·have hi2:i=l.length:=by omega
  subst hi2;simp only[hlt,Yi,i_f];rw[Ze] at ho2 hbd;refine Jq (m:=[41]) (fun _=>by kernel_rfl) ho2 (by simp only[Yr,YG];omega) fun v' w5 h5=>?_;rw[DO 0 h5 rfl];exact hK _ _ ⟨by rw[Pl.pStr,Yg (by omega)];rfl,h5.done⟩
theorem Lw (l:List UInt8)(w:World):Ret prog 144 #[.string ⟨l.toArray⟩] w (fun v w'=>v=.tuple #[.string ⟨(Pl.rI l).1.toArray⟩,.int .i64 (Pl.rI l).2]∧Below w.heap.size w w'):=by
 refine aO fun K hK=>zI ?_;unfold iO iN dx;rw[bF Ym,Sv];by_cases h1:(127:Int) < l.length
 ·simp only[rs,h1,Yj];exact hK _ _ ⟨by rw[Pl.rI,Yh (by omega)],Below.refl _ _⟩
 simp only[rs,h1,Yi];change LoopX [.string ⟨([47]:List UInt8).toArray⟩,_] _ _;refine loop (fun vs w'=>∃(i:Nat),vs=[.string ⟨([47]++(l.take i).flatMap Pl.nmc).toArray⟩,.int .i64 i]∧i≤l.length∧(l.take i).contains 0=false∧Below w.heap.size w w')
  (fun vs _=>l.length - n1 vs) ⟨0,rfl,by omega,rfl,Below.refl _ _⟩ ?_
 rintro vs w2 ⟨i,rfl,hi,h0,hb2⟩ _;simp only[nS,gd,bF Ym,iN,dx,gfx,cfx,efx,cx];rw[oL];have hfl:=Pl.xA Pl.nmc 4 (fun c=>Zb (Pl.MU c).2 (by omega)) (l.take i);have htk:(l.take i).length≤l.length:=by rw[YC];omega
 have hbd:([47]++(l.take i).flatMap Pl.nmc).length≤140000:=by simp only[Yp,Yr,YG];omega
 by_cases hlt:(i:Int) < (l.length:Int)
 ·have hi2:i < l.length:=by omega
  simp only[hlt,Yj,i_t];refine join fun J2 hJ2=>?_;rw[s_ix (c:=l[i]) Ym (by omega) (by simp[hi2])];have e0:=u8d l[i] 0 0 rfl;rw[Ri];by_cases hz:l[i]=0
  ·simp only[e0,Yk hz,i_t];refine hK _ _ ⟨?_,hb2⟩;have:l.contains 0=true:=by rw[List.contains_iff_mem,←hz];exact YH hi2
   rw[Pl.rI,Yg (by omega),Yh this]
  simp only[e0,Yl hz,i_f];have hz2:(l.take (i+1)).contains 0=false:=by
   rw[YL hi2];simp only[List.contains_eq_mem,YK,YZ,Zs,not_or] at h0 ⊢;exact⟨h0,fun e=>hz e.symm⟩
  have fin:∀(w':World),Below w.heap.size w w'→J2 [.string ⟨([47]++(l.take i).flatMap Pl.nmc++Pl.nmc l[i]).toArray⟩] w':=by
   intro w' h';refine hJ2 _ _ fun _=>?_;simp only[mP,gd,iN,dx];rw[qD,aB (by omega) (by omega)];refine bO ⟨i+1,?_,by omega,hz2,h'⟩ (by simp[n1,RowKit.intOf];omega);rw[YL hi2,Pl.GW,←YD];rfl
  have hsl:∀{PK K},DoX prog (aT 9 (.string ⟨l.toArray⟩) (some (.int .i64 (i:Int))) (some (.int .i64 ((i:Int)+1))) none) w2 PK K=K (.string ⟨([l[i]]:List UInt8).toArray⟩) w2:=by
   intro PK K;rw[Bt Ym (by omega) (by omega) (by omega),Yo,show ((i:Int)+1).toNat - i=1 by omega,Zt hi2];rfl
  generalize hc:l[i]=c at *;have no:Pl.nmOk c=false→DoX prog (mBin .add 3 (.int .i64 (i:Int)) (.int .i64 1)) w2 (pk K) fun t39 w=>
    DoX prog (aT 9 (.string ⟨l.toArray⟩) (some (.int .i64 (i:Int))) (some t39) none) w (pk K) fun t40 w=>
    CallX prog 198 #[t40] w (pk K) fun t41 w=>
    DoX prog (mBin .add 9 (.string ⟨#[35]⟩) t41) w (pk K) fun t42 w=>
    DoX prog (mBin .add 9 (.string ⟨([47]++(l.take i).flatMap Pl.nmc).toArray⟩) t42) w (pk K) fun t43 w=>
    J2 [t43] w:=by
   intro hn;rw[qD,aB (by omega) (by omega),hsl];refine dS (TU [c] w2 (by simp)) ?_;rintro _ w3 ⟨rfl,hb3⟩;have hx:=Oc.B1 [c];change DoX prog (mBin .add 9 (.string ⟨([35]:List UInt8).toArray⟩) (.string ⟨(Oc.hex [c]).toArray⟩)) _ _ _;simp only[Yr,YG] at hx;rw[kW (by simp;omega),kW (by simp only[Yp,Yr,YG] at hbd ⊢;omega)];have:=fin w3 (hb2.trans (hb3.mono hb2.size));rw[Pl.nmc,Yg (by simp[hn])] at this;exact this
  have yes:Pl.nmOk c=true→DoX prog (mBin .add 3 (.int .i64 (i:Int)) (.int .i64 1)) w2 (pk K) fun t48 w=>
    DoX prog (aT 9 (.string ⟨l.toArray⟩) (some (.int .i64 (i:Int))) (some t48) none) w (pk K) fun t49 w=>
    DoX prog (mBin .add 9 (.string ⟨([47]++(l.take i).flatMap Pl.nmc).toArray⟩) t49) w (pk K) fun t50 w=>
    J2 [t50] w:=by
   intro hn;rw[qD,aB (by omega) (by omega),hsl,kW (by simp only[Yp,Yr,YG] at hbd ⊢;omega)];have:=fin w2 hb2;rw[Pl.nmc,Yh hn] at this;exact this
  rw[oL];by_cases g1:(c.toNat:Int) < 33
  ·simp only[g1,Yj,g_tf,g_un,p_t,i_t];exact no (by simp[Pl.nmOk];omega)
  simp only[g1,Yi,g_ff,p_f];rw[Sv];by_cases g2:(126:Int) < (c.toNat:Int)
  ·simp only[g2,Yj,g_tf,g_un,p_t,i_t];exact no (by simp[Pl.nmOk];omega)
  simp only[g2,Yi,g_ff,p_f];rw[Ri];have e35:=u8d c 35 35 rfl;by_cases g3:c=35
  ·simp only[e35,Yk g3,g_tf,g_un,p_t,i_t];exact no (by simp[Pl.nmOk,g3])
  simp only[e35,Yl g3,g_ff,p_f];refine c_eq (Jz c w2) ?_;cases hd:Oc.K5 c with
 |true=>simp only[p_f,i_t];exact no (by simp[Pl.nmOk,hd])
 |false=>simp only[p_f,i_f];exact yes (by simp[Pl.nmOk,hd,g3];omega)
 ·have hi2:i=l.length:=by omega
  subst hi2;simp only[hlt,Yi,i_f];rw[Ze] at h0 ⊢;exact hK _ _ ⟨by rw[Pl.rI,Yg (by omega),Yg (by simp at h0;simp[h0])];rfl,hb2⟩
theorem Rr (ps:List (List UInt8))(v:Value)(w:World)(hs:Sl w v 1 ps.length (bB ps))(hb:Pl.tot ps≤1000000000000) :
  Ret prog 94 #[v] w (fun r w'=>r=.string ⟨(Pl.join ps).toArray⟩∧w=w'):=by
 refine aO fun K hK=>zD ?_;unfold iV iN dx;rw[bY Yn hs];have hlen:=Pl.dU ps;change LoopX [.string ⟨([]:List UInt8).toArray⟩,_] _ _;refine loop (fun vs w'=>∃(i:Nat),vs=[.string ⟨(Pl.join (ps.take i)).toArray⟩,.int .i64 i]∧i≤ps.length∧w=w')
  (fun vs _=>ps.length - n1 vs) ⟨0,rfl,by omega,rfl⟩ ?_
 rintro vs w2 ⟨i,rfl,hi,rfl⟩ _;simp only[oH,gd,iN,dx,gtx,ctx,cfx,etx,efx];rw[oL];by_cases hlt:(i:Int) < (ps.length:Int)
 ·have hi2:i < ps.length:=by omega
  simp only[hlt,Yj,i_t];have hgt:=Pl.RL ps i hi2;have hjl:=Pl.KI (ps.take i);have hnext:Pl.join (ps.take (i+1))=Pl.glue (Pl.join (ps.take i)) ps[i]:=by rw[YL hi2,Pl.LY]
  have hacc:∃acc,Pl.join (ps.take i)=acc:=⟨_,rfl⟩;obtain⟨acc,hacc⟩:=hacc;rw[hacc] at hjl hnext ⊢;refine Bs (.string ⟨ps[i].toArray⟩) Yn (by kernel_rfl) hs (by omega) (by rw[Yo];exact cD hi2) fun p hp=>?_;rw[bE (by kernel_rfl) hp];refine join fun J2 hJ2=>?_;have fin:∀(acc':List UInt8),acc'.length≤acc.length+1→acc'++ps[i]=Pl.glue acc ps[i]→J2 [.string ⟨acc'.toArray⟩] w:=by
   intro acc' hl' he;refine hJ2 _ _ fun _=>?_;simp only[mV,gd,iN,dx];rw[kW (by omega),qD,aB (by omega) (by omega)];refine bO ⟨i+1,by rw[hnext,←he];rfl,by omega,rfl⟩ (by simp[n1,RowKit.intOf];omega)
  change DoX prog (mEq .neq _ _ _ _ (.string ⟨([]:List UInt8).toArray⟩)) _ _ _;rw[Lm];by_cases hp0:ps[i]=[]
  ·have hd:decide (ps[i]≠[])=false:=Yl (by simp[hp0]);simp only[hd,rs,g_un];exact fin acc (by omega) (by rw[hp0,Pl.S7,YQ])
  have hd:decide (ps[i]≠[])=true:=Yk hp0;simp only[hd,rs];obtain⟨c,t,hct⟩:∃c t,ps[i]=c::t:=by
   cases h:ps[i] with
  |nil=>exact absurd h hp0
  |cons c t=>exact⟨c,t,rfl⟩
  have skip:((Oc.regular (Pl.fH acc)||decide (Pl.fH acc=47))&&Oc.regular c)=false→J2 [.string ⟨acc.toArray⟩] w:=by
   intro hc;refine fin acc (by omega) ?_;rw[hct];simp only[Pl.glue];rw[Yg (by simp[hc])]
  have put:((Oc.regular (Pl.fH acc)||decide (Pl.fH acc=47))&&Oc.regular c)=true→DoX prog (mBin .add 9 (.string ⟨acc.toArray⟩) (.string ⟨#[32]⟩)) w (pk K) fun t36 w=>J2 [t36] w:=by
   intro hc;change DoX prog (mBin .add _ _ (.string ⟨([32]:List UInt8).toArray⟩)) _ _ _;rw[kW (by simp;omega)];refine fin _ (by simp) ?_;rw[hct];simp only[Pl.glue];rw[Yh hc]
  by_cases ha:acc=[]
  ·have hd2:decide (acc≠[])=false:=Yl (by simp[ha]);simp only[hd2,rs,g_un];exact skip (by rw[ha];simp[Pl.QE];intro h;exact absurd h (by decide))
  have hd2:decide (acc≠[])=true:=Yk ha;simp only[hd2,rs];rw[s_ix (c:=c) Ym (by omega) (by rw[hct];rfl)];refine c_eq (BF c w) ?_;cases hc:Oc.regular c with
 |false=>simp only[rs];exact skip (by simp[hc])
 |true=>
   simp only[rs];rw[bF Ym];have hpos:0 < acc.length:=ZY.2 ha;rw[O6,aB (by omega) (by omega),s_ix (c:=Pl.fH acc) Ym (by omega) (by
    rw[show (((acc.length:Nat):Int) - 1).toNat=acc.length - 1 by omega];exact Pl.KS _ ha)]
   have e47:=u8d (Pl.fH acc) 47 47 rfl;by_cases h47:Pl.fH acc=47
   ·simp only[rs,e47,Yk h47,g_un];exact put (by simp[h47,hc])
   simp only[rs,e47,Yl h47];refine c_eq (BF _ w) ?_;cases hr:Oc.regular (Pl.fH acc) with
  |true=>simp only[rs];exact put (by simp[hr,hc])
  |false=>simp only[rs];exact skip (by simp[hr,h47])
 ·have hi2:i=ps.length:=by omega
  subst hi2;simp only[hlt,Yi,i_f];rw[Ze];exact hK _ _ ⟨rfl,rfl⟩
end
section
open Go
namespace Lx
open Oc
theorem take_cons {c:UInt8}{t:List UInt8}{n:Nat}(h:1≤n):(c::t).take n=c::t.take (n - 1):=by
 obtain⟨m,rfl⟩:∃m,n=m+1:=⟨n - 1,by omega⟩;rfl
theorem Oz:∀(l:List UInt8) (k o:Nat) (r:List UInt8×Nat),cE k o l=some r→k+1≤r.2
|[],k,o,r,h=>by cases k<;>(rw[cE] at h;cases h)
|c::t,0,o,r,h=>by have:=Dx _ _ _ _ h;omega
|c::t,k+1,o,r,h=>by
  rw[cE] at h;cases hh:cE k o t with
 |none=>rw[hh] at h;cases h
 |some q=>rw[hh] at h;cases h;have:=Oz t k o q hh;simp;omega
theorem map_some {α β:Type}{f:α→β}{x:Option α}{r:β}(h:x.map f=some r):∃q,x=some q∧r=f q:=by
 cases x with
|none=>cases h
|some q=>cases h;exact⟨q,rfl,rfl⟩
theorem K7:∀l:List UInt8,(l.take (runF l)).all regular=true∧runF (l.take (runF l))=runF l
|[]=>by simp[runF]
|c::t=>by
  obtain⟨i1,i2⟩:=K7 t;simp only[runF];by_cases h:regular c=true
  ·rw[Yh h,take_cons (by omega),abP];simp only[runF,i2,Zo,h,i1,Bool.and_self,if_true,and_self]
  ·rw[Yg h];simp[runF]
end Lx
end
section
open Go
namespace Lx
open Oc
theorem all8 {p:UInt8→Prop}(h:∀n:Fin 256,p (UInt8.ofNat n.val))(c:UInt8):p c:=by
 have:=h ⟨c.toNat,c.toNat_lt⟩;simpa using this
theorem UT (c:UInt8):dig c=true→regular c=true∧sgn c=false∧c≠45:=by
 refine all8 (p:=fun c=>dig c=true→regular c=true∧sgn c=false∧c≠45) ?_ c
 decide +kernel
theorem U5 {ds:List UInt8}(h:ds.all dig=true):ds.all regular=true:=by
 rw[YI] at h ⊢;exact fun c hc=>(UT c (h c hc)).1
end Lx
end
section
open Go
namespace Pl
open Oc
theorem UY:∀u:Nat,Fx.val 0 (Lib.decDigits u)=(u:Int)∧(Lib.decDigits u).all Fx.cT=true:=by
 intro u
 induction u using Nat.strongRecOn with
|_ u ih=>
  have dig:∀k,k < 10→Fx.cT (UInt8.ofNat (48+k))=true∧((UInt8.ofNat (48+k)).toNat:Int) - 48=(k:Int):=by
   intro k hk;have e:(UInt8.ofNat (48+k)).toNat=48+k:=by rw[aaJ];omega
   refine⟨?_,by omega⟩;unfold Fx.cT;rw[e];simp only[Ys,Yx];omega
  rw[Lib.decDigits];split
  ·rename_i h
   obtain⟨h1,h2⟩:=dig u h;refine⟨?_,by rw[Zo,h1];rfl⟩;simp only[Fx.val,ZU,abI,h2];omega
  ·rename_i h
   obtain⟨i1,i2⟩:=ih (u / 10) (by omega);obtain⟨h1,h2⟩:=dig (u % 10) (by omega);refine⟨?_,by rw[aaM,i2,Zo,h1];rfl⟩;rw[Fx.B5,i1];simp only[Fx.val,ZU,abI,h2];omega
theorem PU (n:Int):(∃u:Nat,n=u∧Lib.itoa n=Lib.decDigits u)∨(∃u:Nat,n=-(u:Int)∧0 < u∧Lib.itoa n=45::Lib.decDigits u):=by
 unfold Lib.itoa;by_cases h:n < 0
 ·rw[Yh h];exact .inr ⟨n.natAbs,by omega,by omega,rfl⟩
 ·rw[Yg h];exact .inl ⟨n.toNat,by omega,rfl⟩
end Pl
end
section
open Go
namespace Lx
open Oc
theorem Mo {l:List UInt8}(h:l.all Fx.cT=true):l.all regular=true:=U5 h
end Lx
end
section
open Go
namespace Lx
open Oc
theorem GK {t m:List UInt8}(h:t≠[]):(t++m).head?=t.head?:=by
 cases t with
|nil=>exact absurd rfl h
|cons=>rfl
theorem LO {c:UInt8}{t:List UInt8}(m:List UInt8)(he:eol c=true)(h:t≠[]):dF (c::(t++m))=dF (c::t):=by
 simp only[dF,GK h];by_cases h1:c=10
 ·simp[h1]
 ·by_cases h2:c=13
  ·simp[h2]
  ·simp[eol,h1,h2] at he
theorem NY:∀(k n:Nat) (l m:List UInt8),(octF k n l).2+1≤l.length→octF k n (l++m)=octF k n l
|0,n,l,m,h=>by simp[octF]
|k+1,n,[],m,h=>by simp at h
|k+1,n,c::t,m,h=>by
  rw[YY];simp only[octF] at h ⊢;by_cases ho:oct c=true
  ·rw[Yh ho] at h ⊢;rw[Yh ho];simp only[Yr] at h;rw[NY k _ t m (by omega)]
  ·rw[Yg ho,Yg ho]
theorem Sy {l:List UInt8}(m:List UInt8)(h:(escF l).2+1≤l.length):escF (l++m)=escF l:=by
 cases l with
|nil=>simp at h
|cons c t=>
  rw[YY];simp only[escF,Yr] at h ⊢;cases hl:escL c with
 |some b=>rfl
 |none=>
   simp only[hl] at h ⊢;by_cases he:eol c=true
   ·rw[Yh he] at h ⊢;rw[Yh he];have hp:=Dn c t;simp only at h;rw[LO m he (by intro e;subst e;simp at h;omega)]
   ·rw[Yg he] at h ⊢;rw[Yg he];have h3:(octF 3 0 (c::t)).2+1≤(c::t).length:=by
     by_cases h0:0 < (octF 3 0 (c::t)).2
     ·rw[Yh h0] at h;rw[Yr];exact h
     ·rw[Yr];omega
    have ht:=NY 3 0 (c::t) m h3;rw[YY] at ht;rw[ht]
theorem qW:∀(l:List UInt8) (k o:Nat) (r:List UInt8×Nat) (m:List UInt8),cE k o l=some r→cE k o (l++m)=some r
|[],k,o,r,m,h=>by cases k<;>(rw[cE] at h;cases h)
|c::t,k+1,o,r,m,h=>by
  rw[cE] at h;obtain⟨q,hq,rfl⟩:=map_some h;rw[YY,cE,qW t k o q m hq];rfl
|c::t,0,o,r,m,h=>by
  rw[YY];rw[cE] at h ⊢;have ne:∀k o q,cE k o t=some q→t≠[]:=by
   intro k o q hq e;subst e;cases k<;>(rw[cE] at hq;cases hq)
  by_cases g1:eol c=true
  ·rw[Yh g1] at h ⊢;obtain⟨q,hq,rfl⟩:=map_some h;rw[LO m g1 (ne _ _ _ hq),qW t _ o q m hq];rfl
  ·rw[Yg g1] at h ⊢;by_cases g2:c=92
   ·rw[Yh g2] at h ⊢;by_cases g3:t=[]
    ·rw[Yh g3] at h;cases h
    ·rw[Yg g3] at h;obtain⟨q,hq,rfl⟩:=map_some h;have h2:=Oz _ _ _ _ hq;have h3:=Dx _ _ _ _ hq;rw[Sy m (by omega),qW t _ o q m hq,Yg (by simp[g3])];rfl
   ·rw[Yg g2] at h ⊢;by_cases g4:c=40
    ·rw[Yh g4] at h ⊢;obtain⟨q,hq,rfl⟩:=map_some h;rw[qW t _ _ q m hq];rfl
    ·rw[Yg g4] at h ⊢;by_cases g5:c=41
     ·rw[Yh g5] at h ⊢;by_cases g6:o≤1
      ·rw[Yh g6] at h ⊢;exact h
      ·rw[Yg g6] at h ⊢;obtain⟨q,hq,rfl⟩:=map_some h;rw[qW t _ _ q m hq];rfl
     ·rw[Yg g5] at h ⊢;obtain⟨q,hq,rfl⟩:=map_some h;rw[qW t _ _ q m hq];rfl
theorem Ou:∀(l:List UInt8) (h:Int) (r:List UInt8×Nat) (m:List UInt8),hexF h l=.inl r→hexF h (l++m)=.inl r
|[],_,r,m,h=>by rw[hexF] at h;cases h
|c::t,h,r,m,he=>by
  rw[YY];rw[hexF] at he ⊢;have step:∀(h':Int) (f:List UInt8→List UInt8),(match hexF h' t with|.inl r=>(Sum.inl (f r.1,r.2+1):(List UInt8×Nat) ⊕ Int)|.inr e=>.inr e)=.inl r →
    (match hexF h' (t++m) with|.inl r=>(Sum.inl (f r.1,r.2+1):(List UInt8×Nat) ⊕ Int)|.inr e=>.inr e)=.inl r:=by
   intro h' f hh;cases hq:hexF h' t with
  |inr e=>rw[hq] at hh;cases hh
  |inl q=>
    rw[hq] at hh;cases hh;rw[Ou t h' q m hq]
  by_cases g1:c=62
  ·rw[Yh g1] at he ⊢;exact he
  ·rw[Yg g1] at he ⊢;by_cases g2:rX c=true
   ·rw[Yh g2] at he ⊢;exact step h (fun x=>x) he
   ·rw[Yg g2] at he ⊢;by_cases g3:digit c < 0
    ·rw[Yh g3] at he;cases he
    ·rw[Yg g3] at he ⊢;by_cases g4:h < 0
     ·rw[Yh g4] at he ⊢;exact step (digit c) (fun x=>x) he
     ·rw[Yg g4] at he ⊢;exact step (-1) (fun x=>byte h (digit c)::x) he
theorem Lt {l:List UInt8}(h:l≠[])(hr:l.all regular=true):regular (Pl.fH l)=true:=by
 have hg:=Pl.KS l h;exact YI.1 hr _ (Zh hg)
def Om (u:List UInt8)(x:Tok):Prop:=next u 0=(x,0)∧x.k≠0∧x.a=0∧x.t=u.length
end Lx
end
end Go.Proofs.YtkejpieaafeblaaGreatDoor



namespace Go.Proofs.YtkejpieaafeblaaGreatDoor
section
open Eng
def DG(t0 w)(K:KT):=
 dx (mBin .geq 5 t0 (.int .u8 48)) w K fun t5 w=>etx t5 t0 w fun t7 w=>gtx t5 (mBin .leq 5 t7 (.int .u8 57)) w K fun t8 w=>dx (aF t5 t8 (.bool false)) w K fun t9 w=>IfX t9 (dx (mBin .sub 5 t0 (.int .u8 48)) w K fun t11 w=>dx (cH 5 3 t11) w K fun t12 w=>K (.returned t12) w) (dx (mBin .geq 5 t0 (.int .u8 65)) w K fun t15 w=>etx t15 t0 w fun t17 w=>gtx t15 (mBin .leq 5 t17 (.int .u8 70)) w K fun t18 w=>dx (aF t15 t18 (.bool false)) w K fun t19 w=>IfX t19 (dx (mBin .sub 5 t0 (.int .u8 65)) w K fun t21 w=>dx (cH 5 3 t21) w K fun t22 w=>dx (mBin .add 3 t22 (iN 10)) w K fun t23 w=>K (.returned t23) w) (dx (mBin .geq 5 t0 (.int .u8 97)) w K fun t26 w=>etx t26 t0 w fun t28 w=>gtx t26 (mBin .leq 5 t28 (.int .u8 102)) w K fun t29 w=>dx (aF t26 t29 (.bool false)) w K fun t30 w=>IfX t30 (dx (mBin .sub 5 t0 (.int .u8 97)) w K fun t32 w=>dx (cH 5 3 t32) w K fun t33 w=>dx (mBin .add 3 t33 (iN 10)) w K fun t34 w=>K (.returned t34) w) (K (.returned (iN (-1))) w)))
theorem Gc{t0 w K}(h:DG t0 w K):Calls prog 117 #[t0] w K:=cw Tryz.func117 rfl rfl (by kernel_rfl) h
def AD(t0 t4 t5 w)(N1:JT)(K:KT):=
 dx (mB .len #[9] 3 #[false] #[t0]) w K fun t18 w=>dx (mBin .lss 3 t5 t18) w K fun t19 w=>IfX t19 (QuietX w (fun C2=>QDo prog C2 (mIx 9 t0 t5) fun t24=>QCall prog C2 117 #[t24] fun t25=>QDo prog C2 (mBin .add 3 t5 (iN 1)) fun t28=>QDo prog C2 (mIx 9 t0 t28) fun t29=>QCall prog C2 117 #[t29] fun t30=>
 ∀w,C2 w →
 dx (mBin .lss 3 t25 (iN 0)) w K fun t32 w=>efx t32 t30 w fun t34 w=>gfx t32 (mBin .lss 3 t34 (iN 0)) w K fun t35 w=>dx (aF t32 (.bool true) t35) w K fun t36 w=>IfX t36 (K (.returned (.tuple #[(.string ⟨#[]⟩),(iN 3)])) w) (dx (mBin .shl 3 t25 (.int .u64 4)) w K fun t39 w=>dx (mBin .or 3 t39 t30) w K fun t41 w=>dx (cH 3 5 t41) w K fun t42 w=>dx (aS 76 1 #[(0,t42)]) w K fun t43 w=>dx (mB .append #[76,76] 76 #[false,false] #[t4,t43]) w K fun t44 w=>dx (mBin .add 3 t5 (iN 2)) w K fun t21 w=>N1 [t44,t21] w))) (dx (cH 76 9 t4) w K fun t46 w=>K (.returned (.tuple #[t46,(iN 0)])) w)
def xU(t0 w)(K:KT):=
 dx (mB .len #[9] 3 #[false] #[t0]) w K fun t9 w=>dx (mBin .rem 3 t9 (iN 2)) w K fun t10 w=>dx (mEq .neq 3 (.tmp 10) (.const (iN 0)) t10 (iN 0)) w K fun t11 w=>IfX t11 (K (.returned (.tuple #[(.string ⟨#[]⟩),(iN 3)])) w) (dx (mB .len #[9] 3 #[false] #[t0]) w K fun t13 w=>dx (mBin .quo 3 t13 (iN 2)) w K fun t14 w=>dx (P6 76 (iN 0) t14) w K fun t15 w=>LoopX [t15,(iN 0)] w (fun vs1 w N1=>∀_:Sg,AD t0 (vs1.getD 0 undef) (vs1.getD 1 undef) w N1 K))
theorem Gm (t0:Value)(w:World)(K:Ending→World→Prop):wpX prog 47 [] [(5,[4,5])] none (aY Tryz.f119) (topQ prog [.tmp 2,.tmp 3] K) (aR [t0]) [] w=xU t0 w K:=by kernel_rfl
theorem Gd {t0:Value}{w:World}{K:Ending→World→Prop}(h:xU t0 w K):Calls prog 119 #[t0] w K:=
 aE Tryz.func119 rfl rfl rfl rfl (Eq.mpr (Gm t0 w K) h)
def Cy(t0 t1 t2 w)(K:KT):=
 dx (mBin .geq 3 t2 (iN 0)) w K fun t8 w=>etx t8 t2 w fun t10 w=>etx t8 t0 w fun t11 w=>gtx t8 (mB .len #[9] 3 #[false] #[t11]) w K fun t12 w=>gtx t8 (mBin .leq 3 t10 t12) w K fun t13 w=>dx (aF t8 t13 (.bool false)) w K fun t14 w=>etx t14 t0 w fun t16 w=>etx t14 t2 w fun t17 w=>gtx t14 (aT 9 t16 (some t17) none none) w K fun t18 w=>etx t14 t1 w fun t19 w=>ctx t14 115 #[t18,t19] w K fun t20 w=>dx (aF t14 t20 (.bool false)) w K fun t21 w=>K (.returned t21) w
theorem Eu{t0 t1 t2 w K}(h:Cy t0 t1 t2 w K):Calls prog 73 #[t0,t1,t2] w K:=cw Tryz.func73 rfl rfl (by kernel_rfl) h
def CM(t1 t5 w)(N1:JT)(K:KT):=
 dx (mBin .add 3 t1 (iN 1)) w K fun t21 w=>N1 [t21,t5] w
def CI(t0 t1 t5 w)(N1:JT)(K:KT):=
 dx (mB .len #[9] 3 #[false] #[t0]) w K fun t18 w=>dx (mBin .lss 3 t1 t18) w K fun t19 w=>IfX t19 (JoinX (fun J2=>dx (mIx 9 t0 t1) w K fun t24 w=>IfX t5 (cx 113 #[t24] w K fun t28 w=>dx (mUn .not t28) w K fun t29 w=>J2 [t29] w) (dx (mEq .eql 5 (.tmp 31) (.const (.int .u8 37)) t24 (.int .u8 37)) w K fun t32 w=>IfX t32 (J2 [(.bool true)] w) (cx 114 #[t24] w K fun t35 w=>dx (mUn .not t35) w K fun t36 w=>IfX t36 (K (.returned t1) w) (J2 [t5] w)))) (fun vs2 w=>∀_:Sg,CM t1 (vs2.getD 0 undef) w N1 K)) (dx (mB .len #[9] 3 #[false] #[t0]) w K fun t39 w=>K (.returned t39) w)
def Bk(t0 t1 w)(K:KT):=
 dx (mBin .lss 3 t1 (iN 0)) w K fun t8 w=>efx t8 t1 w fun t10 w=>efx t8 t0 w fun t11 w=>gfx t8 (mB .len #[9] 3 #[false] #[t11]) w K fun t12 w=>gfx t8 (mBin .gtr 3 t10 t12) w K fun t13 w=>dx (aF t8 (.bool true) t13) w K fun t14 w=>IfX t14 (K (.returned t1) w) (LoopX [t1,(.bool false)] w (fun vs1 w N1=>∀_:Sg,CI t0 (vs1.getD 0 undef) (vs1.getD 1 undef) w N1 K))
theorem G9 (t0 t1:Value)(w:World)(K:Ending→World→Prop):wpX prog 40 [(5,[5])] [(4,[1,5])] none (aY Tryz.f72) (topQ prog [.tmp 4] K) (aR [t0,t1]) [] w=Bk t0 t1 w K:=by kernel_rfl
theorem IA {t0 t1:Value}{w:World}{K:Ending→World→Prop}(h:Bk t0 t1 w K):Calls prog 72 #[t0,t1] w K:=
 aE Tryz.func72 rfl rfl rfl rfl (Eq.mpr (G9 t0 t1 w K) h)
def CP(t0 t1 w)(N1:JT)(K:KT):=
 dx (mB .len #[9] 3 #[false] #[t0]) w K fun t16 w=>dx (mBin .lss 3 t1 t16) w K fun t17 w=>IfX t17 (dx (mIx 9 t0 t1) w K fun t22 w=>dx (mEq .eql 5 (.tmp 22) (.const (.int .u8 10)) t22 (.int .u8 10)) w K fun t24 w=>IfX t24 (dx (mBin .add 3 t1 (iN 1)) w K fun t26 w=>K (.returned t26) w) (dx (mEq .eql 5 (.tmp 22) (.const (.int .u8 13)) t22 (.int .u8 13)) w K fun t28 w=>IfX t28 (cx 73 #[t0,(.string ⟨#[13,10]⟩),t1] w K fun t31 w=>IfX t31 (dx (mBin .add 3 t1 (iN 2)) w K fun t33 w=>K (.returned t33) w) (dx (mBin .add 3 t1 (iN 1)) w K fun t35 w=>K (.returned t35) w)) (dx (mBin .add 3 t1 (iN 1)) w K fun t19 w=>N1 [t19] w))) (dx (mB .len #[9] 3 #[false] #[t0]) w K fun t37 w=>K (.returned t37) w)
def A6(t0 t1 w)(K:KT):=
 dx (mBin .lss 3 t1 (iN 0)) w K fun t6 w=>efx t6 t1 w fun t8 w=>efx t6 t0 w fun t9 w=>gfx t6 (mB .len #[9] 3 #[false] #[t9]) w K fun t10 w=>gfx t6 (mBin .gtr 3 t8 t10) w K fun t11 w=>dx (aF t6 (.bool true) t11) w K fun t12 w=>IfX t12 (K (.returned t1) w) (LoopX [t1] w (fun vs1 w N1=>∀_:Sg,CP t0 (vs1.getD 0 undef) w N1 K))
theorem HJ (t0 t1:Value)(w:World)(K:Ending→World→Prop):wpX prog 38 [] [(3,[1])] none (aY Tryz.f170) (topQ prog [.tmp 4] K) (aR [t0,t1]) [] w=A6 t0 t1 w K:=by kernel_rfl
theorem G1 {t0 t1:Value}{w:World}{K:Ending→World→Prop}(h:A6 t0 t1 w K):Calls prog 170 #[t0,t1] w K:=
 aE Tryz.func170 rfl rfl rfl rfl (Eq.mpr (HJ t0 t1 w K) h)
def Fp(t0 w)(K:KT):=
 dx (mEq .eql 5 (.tmp 3) (.const (.int .u8 13)) t0 (.int .u8 13)) w K fun t4 w=>efx t4 t0 w fun t6 w=>gfx t4 (mEq .eql 5 (.tmp 6) (.const (.int .u8 10)) t6 (.int .u8 10)) w K fun t7 w=>dx (aF t4 (.bool true) t7) w K fun t8 w=>K (.returned t8) w
theorem Ib{t0 w K}(h:Fp t0 w K):Calls prog 113 #[t0] w K:=cw Tryz.func113 rfl rfl (by kernel_rfl) h
end
section
open Eng Go.RowKit
theorem TF (c:UInt8)(w:World):Ret prog 113 #[.int .u8 c.toNat] w (fun v w'=>v=.bool (Lx.eol c)∧w=w'):=by
 refine aO fun K hK=>Ib ?_;unfold Fp dx gfx efx;have e1:=u8d c 13 13 rfl;have e2:=u8d c 10 10 rfl;by_cases h1:c=13
 ·simp only[rs,e1,Yk h1,g_un];exact hK _ _ ⟨by simp[Lx.eol,h1],rfl⟩
 simp only[rs,e1,Yl h1,g_un,e2];exact hK _ _ ⟨by simp[Lx.eol,h1],rfl⟩
def bG (s p:List UInt8)(k:Int):Bool:=decide (0≤k)&&decide (k≤(s.length:Int))&&p.isPrefixOf (s.drop k.toNat)
theorem BS (s p:List UInt8)(k:Int)(w:World):Ret prog 73 #[.string ⟨s.toArray⟩,.string ⟨p.toArray⟩,.int .i64 k] w (fun v w'=>v=.bool (bG s p k)∧w=w'):=by
 refine aO fun K hK=>Eu ?_;unfold Cy iN dx gtx ctx etx;by_cases h1:0≤k
 ·simp only[rs,h1,Yj,bF Ym];by_cases h2:k≤(s.length:Int)
  ·simp only[rs,h2,Yj];rw[CA Ym h1 h2];refine c_eq (wX _ p w) ?_;exact hK _ _ ⟨by simp[bG,h1,h2],rfl⟩
  ·simp only[rs,h2,Yi,g_un];exact hK _ _ ⟨by simp[bG,h2],rfl⟩
 ·simp only[rs,h1,Yi,g_un];exact hK _ _ ⟨by simp[bG,h1],rfl⟩
theorem GR (s:List UInt8)(k:Nat)(hk:k < s.length)(h:s[k]=13):bG s [13,10] (k:Int)=decide ((s.drop (k+1)).head?=some 10):=by
 unfold bG;rw[Yo,Lx.drop_cons hk,h,Yk (by omega),Yk (by omega)];cases hd:s.drop (k+1) with
|nil=>simp
|cons d t=>
  by_cases h10:d=10
  ·subst h10;simp
  ·have:¬(10=d):=fun e=>h10 e.symm;have h11:((10:UInt8)==d)=false:=by simp[this]
   have h12:¬(some d=some (10:UInt8)):=by simpa using h10
   rw[aaR,Yl h12];simp[List.isPrefixOf,h11]
theorem TJ (s:List UInt8)(k:Nat)(w:World)(hk:k≤s.length)(hs:s.length≤4611686018427387904):Ret prog 170 #[.string ⟨s.toArray⟩,.int .i64 k] w (fun v w'=>v=.int .i64 (Lx.line s k)∧w=w'):=by
 refine aO fun K hK=>G1 ?_;unfold A6 iN dx gfx efx;have h0:¬((k:Int) < 0):=by omega
 have h1:¬((s.length:Int) < (k:Int)):=by omega
 simp only[rs,h0,h1,Yi,bF Ym];refine loop (fun vs w'=>∃(i:Nat),vs=[.int .i64 i]∧i≤s.length∧Lx.line s i=Lx.line s k∧w=w') (fun vs _=>s.length - n0 vs) ⟨k,rfl,hk,rfl,rfl⟩ ?_;rintro vs w2 ⟨i,rfl,hi,he,rfl⟩ _;simp only[CP,gd,bF Ym,iN,dx,cx];rw[oL];by_cases hlt:(i:Int) < (s.length:Int)
 ·have hi2:i < s.length:=by omega
  simp only[hlt,Yj,i_t];rw[s_ix (c:=s[i]) Ym (by omega) (by simp[hi2])];have hd:=Lx.drop_cons hi2;have e1:=u8d s[i] 10 10 rfl;have e2:=u8d s[i] 13 13 rfl;by_cases g1:s[i]=10
  ·simp only[rs,e1,Yk g1];rw[aB (by omega) (by omega)];refine hK _ _ ⟨?_,rfl⟩;rw[←he,Lx.line,hd,Lx.dF,Yh g1];simp
  simp only[rs,e1,Yl g1];by_cases g2:s[i]=13
  ·simp only[rs,e2,Yk g2];refine c_eq (BS s [13,10] i w) ?_;rw[GR s i hi2 g2];by_cases g3:(s.drop (i+1)).head?=some 10
   ·simp only[Yk g3,i_t];rw[aB (by omega) (by omega)];refine hK _ _ ⟨?_,rfl⟩;rw[←he,Lx.line,hd,Lx.dF,Yg g1,Yh g2,Yh g3];simp
   ·simp only[Yl g3,i_f];rw[aB (by omega) (by omega)];refine hK _ _ ⟨?_,rfl⟩;rw[←he,Lx.line,hd,Lx.dF,Yg g1,Yh g2,Yg g3];simp
  simp only[rs,e2,Yl g2];rw[aB (by omega) (by omega)];refine bO ⟨i+1,rfl,by omega,?_,rfl⟩ (by simp[n0,RowKit.intOf];omega);rw[←he];simp only[Lx.line];rw[hd,Lx.dF,Yg g1,Yg g2];omega
 ·have hi2:i=s.length:=by omega
  subst hi2;simp only[hlt,Yi,i_f];refine hK _ _ ⟨?_,rfl⟩;rw[←he,Lx.line,YX];simp[Lx.dF]
theorem Sw (s:List UInt8)(k:Int)(w:World)(hs:s.length≤4611686018427387904):Ret prog 72 #[.string ⟨s.toArray⟩,.int .i64 k] w (fun v w'=>v=.int .i64 (Lx.Ek s k)∧w=w'):=by
 refine aO fun K hK=>IA ?_;unfold Bk iN dx gfx efx;by_cases h0:k < 0
 ·simp only[rs,h0,Yj,g_un];exact hK _ _ ⟨by rw[Lx.Ek,Yh (.inl h0)],rfl⟩
 simp only[rs,h0,Yi,bF Ym];by_cases h1:(s.length:Int) < k
 ·simp only[rs,h1,Yj];exact hK _ _ ⟨by rw[Lx.Ek,Yh (.inr h1)],rfl⟩
 simp only[rs,h1,Yi];have hsk:Lx.Ek s k=((Lx.skip s k.toNat:Nat):Int):=by rw[Lx.Ek,Yg (by omega)]
 refine loop (fun vs w'=>∃(i:Nat) (b:Bool),vs=[.int .i64 i,.bool b]∧i≤s.length∧i+Lx.dD b (s.drop i)=Lx.skip s k.toNat∧w=w') (fun vs _=>s.length - n0 vs) ⟨k.toNat,false,by rw[abQ (by omega)],by omega,rfl,rfl⟩ ?_;rintro vs w2 ⟨i,b,rfl,hi,he,rfl⟩ _;simp only[CI,gd,bF Ym,dx,cx];rw[oL];by_cases hlt:(i:Int) < (s.length:Int)
 ·have hi2:i < s.length:=by omega
  simp only[hlt,Yj,i_t];refine join fun J2 hJ2=>?_;rw[s_ix (c:=s[i]) Ym (by omega) (by simp[hi2])];have hd:=Lx.drop_cons hi2;rw[hd] at he;have fin:∀b':Bool,i+1+Lx.dD b' (s.drop (i+1))=Lx.skip s k.toNat→J2 [.bool b'] w:=by
   intro b' hb';refine hJ2 _ _ fun _=>?_;simp only[CM,gd,iN,dx];rw[qD,aB (by omega) (by omega)];exact bO ⟨i+1,b',rfl,by omega,hb',rfl⟩ (by simp[n0,RowKit.intOf];omega)
  cases b with
 |true=>
   simp only[i_t];refine c_eq (TF s[i] w) ?_;simp only[rs];exact fin _ (by rw[Lx.dD] at he;omega)
 |false=>
   simp only[i_f];have e1:=u8d s[i] 37 37 rfl;by_cases g1:s[i]=37
   ·simp only[rs,e1,Yk g1];exact fin _ (by rw[Lx.dD,Yh g1] at he;omega)
   simp only[rs,e1,Yl g1];refine c_eq (Hk s[i] w) ?_;cases hw:Oc.rX s[i] with
  |true=>
    simp only[rs];exact fin _ (by rw[Lx.dD,Yg g1,Yh hw] at he;omega)
  |false=>
    simp only[rs];refine hK _ _ ⟨?_,rfl⟩;rw[Lx.dD,Yg g1,Yg (by simp[hw])] at he;rw[hsk,←he];simp
 ·have hi2:i=s.length:=by omega
  subst hi2;simp only[hlt,Yi,i_f];rw[YX] at he;refine hK _ _ ⟨?_,rfl⟩;rw[hsk,←he];cases b<;>simp[Lx.dD]
 attribute [local congr] kS in
theorem Ih (c:UInt8)(w:World):Ret prog 117 #[.int .u8 c.toNat] w (fun v w'=>v=.int .i64 (Lx.digit c)∧w=w'):=by
  refine aO fun K hK=>Gc ?_;unfold DG iN dx gtx etx;have h256:=c.toNat_lt;have conv:∀{n:Int} {PK K},0≤n→n≤255→DoX prog (cH 5 3 (.int .u8 n)) w PK K=K (.int .i64 n) w:=by
   intro n PK K h0 h1;rw[F8 (show (Tryz.prog.underlying 5).isSome=true by kernel_rfl) YR,aB (by omega) (by omega)]
  simp +contextual only[rs,gs];by_cases h1:48≤c.toNat∧c.toNat≤57
  ·have hb:(decide ((48:Int)≤(c.toNat:Int))&&decide ((c.toNat:Int)≤57))=true:=by simp;omega
   simp only[hb,i_t];rw[cZ (by omega) (by omega),conv (by omega) (by omega)];exact hK _ _ ⟨by rw[Lx.digit,Yh h1],rfl⟩
  have hb:(decide ((48:Int)≤(c.toNat:Int))&&decide ((c.toNat:Int)≤57))=false:=by
   rw[ZA,YK,YK];omega
  simp only[hb,i_f];by_cases h2:65≤c.toNat∧c.toNat≤70
  ·have hb:(decide ((65:Int)≤(c.toNat:Int))&&decide ((c.toNat:Int)≤70))=true:=by simp;omega
   simp only[hb,i_t];rw[cZ (by omega) (by omega),conv (by omega) (by omega),qD,aB (by omega) (by omega)];exact hK _ _ ⟨by rw[Lx.digit,Yg h1,Yh h2],rfl⟩
  have hb:(decide ((65:Int)≤(c.toNat:Int))&&decide ((c.toNat:Int)≤70))=false:=by
   rw[ZA,YK,YK];omega
  simp only[hb,i_f];by_cases h3:97≤c.toNat∧c.toNat≤102
  ·have hb:(decide ((97:Int)≤(c.toNat:Int))&&decide ((c.toNat:Int)≤102))=true:=by simp;omega
   simp only[hb,i_t];rw[cZ (by omega) (by omega),conv (by omega) (by omega),qD,aB (by omega) (by omega)];exact hK _ _ ⟨by rw[Lx.digit,Yg h1,Yg h2,Yh h3],rfl⟩
  have hb:(decide ((97:Int)≤(c.toNat:Int))&&decide ((c.toNat:Int)≤102))=false:=by
   rw[ZA,YK,YK];omega
  simp only[hb,i_f];exact hK _ _ ⟨by rw[Lx.digit,Yg h1,Yg h2,Yg h3],rfl⟩
end
section
open Eng
def Fo(t4 t6 t7 t49 t50 w)(K:KT):=
 IfX t50 (dx (aA 108 t6) w K fun t55 w=>cx 74 #[t55,(iN 1)] w K fun t56 w=>dx (mExt t56 0) w K fun t57 w=>dx (mExt t56 1) w K fun t58 w=>dx (aC 58 t4 t57) w K fun _ w=>RetX prog [.cell t4 58,.val t58] w K) (dx (mEq .eql 5 (.tmp 49) (.const (.int .u8 60)) t49 (.int .u8 60)) w K fun t60 w=>IfX t60 (IfX t7 (dx (aA 108 t6) w K fun t62 w=>cx 74 #[t62,(iN 2)] w K fun t63 w=>dx (mExt t63 0) w K fun t64 w=>dx (mExt t63 1) w K fun t65 w=>dx (aC 58 t4 t64) w K fun _ w=>RetX prog [.cell t4 58,.val t65] w K) (dx (aA 108 t6) w K fun t66 w=>cx 75 #[t66] w K fun t67 w=>dx (mExt t67 0) w K fun t68 w=>dx (mExt t67 1) w K fun t69 w=>dx (aC 58 t4 t68) w K fun _ w=>RetX prog [.cell t4 58,.val t69] w K)) (dx (mEq .eql 5 (.tmp 49) (.const (.int .u8 62)) t49 (.int .u8 62)) w K fun t71 w=>IfX t71 (IfX t7 (dx (aA 108 t6) w K fun t73 w=>cx 74 #[t73,(iN 2)] w K fun t74 w=>dx (mExt t74 0) w K fun t75 w=>dx (mExt t74 1) w K fun t76 w=>dx (aC 58 t4 t75) w K fun _ w=>RetX prog [.cell t4 58,.val t76] w K) (cx 71 #[(iN 3)] w K fun t77 w=>dx (mExt t77 0) w K fun t78 w=>dx (mExt t77 1) w K fun t79 w=>dx (aC 58 t4 t78) w K fun _ w=>RetX prog [.cell t4 58,.val t79] w K)) (dx (mEq .eql 5 (.tmp 49) (.const (.int .u8 47)) t49 (.int .u8 47)) w K fun t81 w=>IfX t81 (dx (aA 108 t6) w K fun t82 w=>cx 76 #[t82] w K fun t83 w=>dx (mExt t83 0) w K fun t84 w=>dx (mExt t83 1) w K fun t85 w=>dx (aC 58 t4 t84) w K fun _ w=>RetX prog [.cell t4 58,.val t85] w K) (dx (mEq .eql 5 (.tmp 49) (.const (.int .u8 40)) t49 (.int .u8 40)) w K fun t87 w=>IfX t87 (dx (aA 108 t6) w K fun t88 w=>cx 77 #[t88] w K fun t89 w=>dx (mExt t89 0) w K fun t90 w=>dx (mExt t89 1) w K fun t91 w=>dx (aC 58 t4 t90) w K fun _ w=>RetX prog [.cell t4 58,.val t91] w K) (dx (mEq .eql 5 (.tmp 49) (.const (.int .u8 41)) t49 (.int .u8 41)) w K fun t93 w=>IfX t93 (cx 71 #[(iN 3)] w K fun t94 w=>dx (mExt t94 0) w K fun t95 w=>dx (mExt t94 1) w K fun t96 w=>dx (aC 58 t4 t95) w K fun _ w=>RetX prog [.cell t4 58,.val t96] w K) (dx (aA 108 t6) w K fun t97 w=>cx 78 #[t97] w K fun t98 w=>dx (mExt t98 0) w K fun t99 w=>dx (mExt t98 1) w K fun t100 w=>dx (aC 58 t4 t99) w K fun _ w=>RetX prog [.cell t4 58,.val t100] w K))))))
def ED(t0 t1 w)(K:KT):=
 dx (aM 58) w K fun t4 w=>dx (mBin .lss 3 t1 (iN 0)) w K fun t9 w=>efx t9 t1 w fun t11 w=>efx t9 t0 w fun t12 w=>gfx t9 (mB .len #[9] 3 #[false] #[t12]) w K fun t13 w=>gfx t9 (mBin .gtr 3 t11 t13) w K fun t14 w=>dx (aF t9 (.bool true) t14) w K fun t15 w=>IfX t15 (cx 71 #[(iN 1)] w K fun t16 w=>dx (mExt t16 0) w K fun t17 w=>dx (mExt t16 1) w K fun t18 w=>dx (aC 58 t4 t17) w K fun _ w=>RetX prog [.cell t4 58,.val t18] w K) (cx 72 #[t0,t1] w K fun t22 w=>dx (aJ 108 #[(0,t0),(1,t22)]) w K fun t23 w=>dx (aM 108) w K fun t6 w=>dx (aC 108 t6 t23) w K fun _ w=>dx (mFA 108 t6 1) w K fun t24 w=>dx (aA 3 t24) w K fun t25 w=>dx (mB .len #[9] 3 #[false] #[t0]) w K fun t27 w=>dx (mEq .eql 3 (.tmp 25) (.tmp 27) t25 t27) w K fun t28 w=>IfX t28 (dx (mFA 108 t6 1) w K fun t29 w=>dx (aA 3 t29) w K fun t30 w=>dx (mFA 108 t6 1) w K fun t31 w=>dx (aA 3 t31) w K fun t32 w=>dx (aJ 58 #[(1,t30),(2,t32)]) w K fun t33 w=>dx (aC 58 t4 t33) w K fun _ w=>RetX prog [.cell t4 58,.val (iN 0)] w K) (QuietX w (fun C1=>QDo prog C1 (mFA 108 t6 1) fun t36=>QDo prog C1 (aA 3 t36) fun t37=>QDo prog C1 (mFA 108 t6 1) fun t38=>QDo prog C1 (aA 3 t38) fun t39=>QDo prog C1 (mBin .add 3 t39 (iN 1)) fun t40=>QDo prog C1 (aT 9 t0 (some t37) (some t40) none) fun t41=>QDo prog C1 (mFA 108 t6 1) fun t42=>QDo prog C1 (aA 3 t42) fun t43=>QDo prog C1 (mBin .add 3 t43 (iN 1)) fun t44=>QCall prog C1 73 #[t0,t41,t44] fun t45=>
 ∀w,C1 w →
 dx (mFA 108 t6 1) w K fun t47 w=>dx (aA 3 t47) w K fun t48 w=>dx (mIx 9 t0 t48) w K fun t49 w=>JoinX (fun J2=>dx (mEq .eql 5 (.tmp 49) (.const (.int .u8 91)) t49 (.int .u8 91)) w K fun t51 w=>IfX t51 (J2 [t51] w) (dx (mEq .eql 5 (.tmp 49) (.const (.int .u8 93)) t49 (.int .u8 93)) w K fun t52 w=>IfX t52 (J2 [t52] w) (dx (mEq .eql 5 (.tmp 49) (.const (.int .u8 123)) t49 (.int .u8 123)) w K fun t53 w=>IfX t53 (J2 [t53] w) (dx (mEq .eql 5 (.tmp 49) (.const (.int .u8 125)) t49 (.int .u8 125)) w K fun t54 w=>J2 [t54] w)))) (fun vs2 w=>∀_:Sg,Fo t4 t6 t45 t49 (vs2.getD 0 undef) w K))))
theorem KL (t0 t1:Value)(w:World)(K:Ending→World→Prop):wpX prog 101 [(12,[50])] [] none (aY Tryz.f35) (topQ prog [.cell 4 58,.tmp 5] K) (aR [t0,t1]) [] w=ED t0 t1 w K:=by kernel_rfl
theorem Kn {t0 t1:Value}{w:World}{K:Ending→World→Prop}(h:ED t0 t1 w K):Calls prog 35 #[t0,t1] w K:=
 aE Tryz.func35 rfl rfl rfl rfl (Eq.mpr (KL t0 t1 w K) h)
def uR(t0 t1 w)(K:KT):=
 dx (mBox 108 t0) w K fun t2 w=>dx (aM 58) w K fun t4 w=>QuietX w (fun C1=>QDo prog C1 (mFA 108 t2 1) fun t6=>QDo prog C1 (aA 3 t6) fun t7=>QDo prog C1 (mFA 108 t2 1) fun t8=>QDo prog C1 (aA 3 t8) fun t9=>QDo prog C1 (mBin .add 3 t9 t1) fun t11=>QDo prog C1 (mFA 108 t2 0) fun t12=>QDo prog C1 (aA 9 t12) fun t13=>QDo prog C1 (mFA 108 t2 1) fun t14=>QDo prog C1 (aA 3 t14) fun t15=>QDo prog C1 (mFA 108 t2 1) fun t16=>QDo prog C1 (aA 3 t16) fun t17=>QDo prog C1 (mBin .add 3 t17 t1) fun t19=>QDo prog C1 (aT 9 t13 (some t15) (some t19) none) fun t20=>QDo prog C1 (aJ 58 #[(0,(iN 6)),(1,t7),(2,t11),(4,t20)]) fun t21=>
 ∀w,C1 w →
 dx (aC 58 t4 t21) w K fun _ w=>RetX prog [.cell t4 58,.val (iN 0)] w K)
theorem Ci{t0 t1 w K}(h:uR t0 t1 w K):Calls prog 74 #[t0,t1] w K:=cw Tryz.func74 rfl rfl (by kernel_rfl) h
def DS(t0 w)(K:KT):=
 dx (aM 58) w K fun t2 w=>dx (aJ 58 #[]) w K fun t4 w=>dx (aC 58 t2 t4) w K fun _ w=>RetX prog [.cell t2 58,.val t0] w K
theorem Gb{t0 w K}(h:DS t0 w K):Calls prog 71 #[t0] w K:=cw Tryz.func71 rfl rfl (by kernel_rfl) h
def tL(t1 t2 w)(N1:JT)(K:KT):=
 dx (mFA 108 t2 0) w K fun t6 w=>dx (aA 9 t6) w K fun t7 w=>dx (mB .len #[9] 3 #[false] #[t7]) w K fun t8 w=>dx (mBin .lss 3 t1 t8) w K fun t9 w=>gtx t9 (mFA 108 t2 0) w K fun t11 w=>gtx t9 (aA 9 t11) w K fun t12 w=>etx t9 t1 w fun t13 w=>gtx t9 (mIx 9 t12 t13) w K fun t14 w=>ctx t9 83 #[t14] w K fun t15 w=>dx (aF t9 t15 (.bool false)) w K fun t16 w=>IfX t16 (dx (mBin .add 3 t1 (iN 1)) w K fun t18 w=>N1 [t18] w) (K (.returned t1) w)
def oJ(t0 t1 w)(K:KT):=
 dx (mBox 108 t0) w K fun t2 w=>LoopX [t1] w (fun vs1 w N1=>∀_:Sg,tL (vs1.getD 0 undef) t2 w N1 K)
theorem De (t0 t1:Value)(w:World)(K:Ending→World→Prop):wpX prog 20 [] [(1,[1])] none (aY Tryz.f118) (topQ prog [.tmp 4] K) (aR [t0,t1]) [] w=oJ t0 t1 w K:=by kernel_rfl
theorem C9 {t0 t1:Value}{w:World}{K:Ending→World→Prop}(h:oJ t0 t1 w K):Calls prog 118 #[t0,t1] w K:=
 aE Tryz.func118 rfl rfl rfl rfl (Eq.mpr (De t0 t1 w K) h)
def vO(t0 t1 t2 t3 t4 w)(K:KT):=
 dx (mBox 108 t0) w K fun t5 w=>dx (aM 58) w K fun t10 w=>dx (mB .len #[9] 3 #[false] #[t3]) w K fun t13 w=>dx (mBin .gtr 3 t13 t4) w K fun t15 w=>IfX t15 (cx 71 #[(iN 5)] w K fun t16 w=>dx (mExt t16 0) w K fun t17 w=>dx (mExt t16 1) w K fun t18 w=>dx (aC 58 t10 t17) w K fun _ w=>RetX prog [.cell t10 58,.val t18] w K) (dx (mFA 108 t5 1) w K fun t20 w=>dx (aA 3 t20) w K fun t21 w=>dx (aJ 58 #[(0,t1),(1,t21),(2,t2),(4,t3)]) w K fun t24 w=>dx (aC 58 t10 t24) w K fun _ w=>RetX prog [.cell t10 58,.val (iN 0)] w K)
theorem Ce{t0 t1 t2 t3 t4 w K}(h:vO t0 t1 t2 t3 t4 w K):Calls prog 116 #[t0,t1,t2,t3,t4] w K:=cw Tryz.func116 rfl rfl (by kernel_rfl) h
def qC(t3 t5 t6 t7 w)(N1:JT)(K:KT):=
 dx (aS 76 1 #[(0,t7)]) w K fun t62 w=>dx (mB .append #[76,76] 76 #[false,false] #[t5,t62]) w K fun t63 w=>dx (mBin .add 3 t6 (iN 1)) w K fun t22 w=>N1 [t3,t63,t22] w
def qH(t1 t2 t3 t4 t5 t6 w)(N1:JT)(K:KT):=
 dx (mBin .lss 3 t6 t4) w K fun t20 w=>IfX t20 (dx (mFA 108 t1 0) w K fun t23 w=>dx (aA 9 t23) w K fun t24 w=>dx (mIx 9 t24 t6) w K fun t26 w=>JoinX (fun J2=>dx (mEq .eql 5 (.tmp 27) (.const (.int .u8 35)) t26 (.int .u8 35)) w K fun t28 w=>IfX t28 (dx (mBin .add 3 t6 (iN 2)) w K fun t30 w=>dx (mBin .geq 3 t30 t4) w K fun t32 w=>IfX t32 (cx 71 #[(iN 3)] w K fun t33 w=>dx (mExt t33 0) w K fun t34 w=>dx (mExt t33 1) w K fun t35 w=>dx (aC 58 t2 t34) w K fun _ w=>RetX prog [.cell t2 58,.val t35] w K) (dx (mFA 108 t1 0) w K fun t37 w=>dx (aA 9 t37) w K fun t38 w=>dx (mBin .add 3 t6 (iN 1)) w K fun t40 w=>dx (mBin .add 3 t6 (iN 3)) w K fun t42 w=>dx (aT 9 t38 (some t40) (some t42) none) w K fun t43 w=>cx 119 #[t43] w K fun t44 w=>dx (mExt t44 0) w K fun t45 w=>dx (mExt t44 1) w K fun t46 w=>dx (mEq .neq 30 (.tmp 47) (.const (iN 0)) t46 (iN 0)) w K fun t48 w=>efx t48 t45 w fun t50 w=>gfx t48 (mEq .eql 9 (.tmp 50) (.const (.string ⟨#[0]⟩)) t50 (.string ⟨#[0]⟩)) w K fun t51 w=>dx (aF t48 (.bool true) t51) w K fun t52 w=>IfX t52 (cx 71 #[(iN 3)] w K fun t53 w=>dx (mExt t53 0) w K fun t54 w=>dx (mExt t53 1) w K fun t55 w=>dx (aC 58 t2 t54) w K fun _ w=>RetX prog [.cell t2 58,.val t55] w K) (dx (mIx 9 t45 (iN 0)) w K fun t57 w=>dx (mBin .add 3 t6 (iN 2)) w K fun t59 w=>J2 [t3,t59,t57] w))) (J2 [t3,t6,t26] w)) (fun vs2 w=>∀_:Sg,qC (vs2.getD 0 undef) t5 (vs2.getD 1 undef) (vs2.getD 2 undef) w N1 K)) (dx (aA 108 t1) w K fun t64 w=>dx (cH 76 9 t5) w K fun t67 w=>cx 116 #[t64,(iN 4),t4,t67,(iN 127)] w K fun t68 w=>dx (mExt t68 0) w K fun t69 w=>dx (mExt t68 1) w K fun t70 w=>dx (aC 58 t2 t69) w K fun _ w=>RetX prog [.cell t2 58,.val t70] w K)
def lW(t0 w)(K:KT):=
 dx (mBox 108 t0) w K fun t1 w=>dx (aM 58) w K fun t2 w=>dx (aA 108 t1) w K fun t10 w=>dx (mFA 108 t1 1) w K fun t11 w=>dx (aA 3 t11) w K fun t12 w=>dx (mBin .add 3 t12 (iN 1)) w K fun t13 w=>cx 118 #[t10,t13] w K fun t14 w=>dx (mFA 108 t1 1) w K fun t15 w=>dx (aA 3 t15) w K fun t16 w=>dx (mBin .add 3 t16 (iN 1)) w K fun t17 w=>LoopX [(iN 0),(.slice none 0 0),t17] w (fun vs1 w N1=>∀_:Sg,qH t1 t2 (vs1.getD 0 undef) t14 (vs1.getD 1 undef) (vs1.getD 2 undef) w N1 K)
theorem Cr (t0:Value)(w:World)(K:Ending→World→Prop):wpX prog 71 [(15,[3,6,7])] [(4,[3,5,6])] none (aY Tryz.f76) (topQ prog [.cell 2 58,.tmp 3] K) (aR [t0]) [] w=lW t0 w K:=by kernel_rfl
theorem Cc {t0:Value}{w:World}{K:Ending→World→Prop}(h:lW t0 w K):Calls prog 76 #[t0] w K:=
 aE Tryz.func76 rfl rfl rfl rfl (Eq.mpr (Cr t0 w K) h)
def yE(t0 t1 w)(K:KT):=
 dx (mBox 108 t0) w K fun t2 w=>dx (mFA 108 t2 0) w K fun t6 w=>dx (aA 9 t6) w K fun t7 w=>dx (mIx 9 t7 t1) w K fun t9 w=>dx (mEq .eql 5 (.tmp 9) (.const (.int .u8 13)) t9 (.int .u8 13)) w K fun t10 w=>gfx t10 (mFA 108 t2 0) w K fun t12 w=>gfx t10 (aA 9 t12) w K fun t13 w=>efx t10 t1 w fun t14 w=>gfx t10 (mIx 9 t13 t14) w K fun t15 w=>gfx t10 (mEq .eql 5 (.tmp 15) (.const (.int .u8 10)) t15 (.int .u8 10)) w K fun t16 w=>dx (aF t10 (.bool true) t16) w K fun t17 w=>IfX t17 (dx (mFA 108 t2 0) w K fun t18 w=>dx (aA 9 t18) w K fun t19 w=>cx 170 #[t19,t1] w K fun t21 w=>K (.returned (.tuple #[t21,(.bool true)])) w) (K (.returned (.tuple #[t1,(.bool false)])) w)
theorem Da{t0 t1 w K}(h:yE t0 t1 w K):Calls prog 120 #[t0,t1] w K:=cw Tryz.func120 rfl rfl (by kernel_rfl) h
def lF(t1 t2 t9 t10 w)(N1:JT)(K:KT):=
 dx (mFA 108 t2 0) w K fun t34 w=>dx (aA 9 t34) w K fun t35 w=>dx (mB .len #[9] 3 #[false] #[t35]) w K fun t36 w=>dx (mBin .lss 3 t10 t36) w K fun t37 w=>etx t37 t10 w fun t39 w=>etx t37 t1 w fun t40 w=>gtx t37 (mBin .add 3 t40 (iN 3)) w K fun t41 w=>gtx t37 (mBin .lss 3 t39 t41) w K fun t42 w=>dx (aF t37 t42 (.bool false)) w K fun t43 w=>gtx t43 (mFA 108 t2 0) w K fun t45 w=>gtx t43 (aA 9 t45) w K fun t46 w=>etx t43 t10 w fun t47 w=>gtx t43 (mIx 9 t46 t47) w K fun t48 w=>gtx t43 (mBin .geq 5 t48 (.int .u8 48)) w K fun t49 w=>dx (aF t43 t49 (.bool false)) w K fun t50 w=>gtx t50 (mFA 108 t2 0) w K fun t52 w=>gtx t50 (aA 9 t52) w K fun t53 w=>etx t50 t10 w fun t54 w=>gtx t50 (mIx 9 t53 t54) w K fun t55 w=>gtx t50 (mBin .leq 5 t55 (.int .u8 55)) w K fun t56 w=>dx (aF t50 t56 (.bool false)) w K fun t57 w=>IfX t57 (dx (mBin .mul 3 (iN 8) t9) w K fun t59 w=>dx (mFA 108 t2 0) w K fun t60 w=>dx (aA 9 t60) w K fun t61 w=>dx (mIx 9 t61 t10) w K fun t63 w=>dx (mBin .sub 5 t63 (.int .u8 48)) w K fun t64 w=>dx (cH 5 3 t64) w K fun t65 w=>dx (mBin .add 3 t59 t65) w K fun t66 w=>dx (mBin .add 3 t10 (iN 1)) w K fun t68 w=>N1 [t66,t68] w) (dx (mBin .gtr 3 t10 t1) w K fun t71 w=>IfX t71 (dx (cH 3 5 t9) w K fun t73 w=>dx (aS 76 1 #[(0,t73)]) w K fun t74 w=>dx (cH 76 9 t74) w K fun t75 w=>K (.returned (.tuple #[t75,t10])) w) (dx (mFA 108 t2 0) w K fun t77 w=>dx (aA 9 t77) w K fun t78 w=>dx (mBin .add 3 t1 (iN 1)) w K fun t81 w=>dx (aT 9 t78 (some t1) (some t81) none) w K fun t82 w=>dx (mBin .add 3 t1 (iN 1)) w K fun t84 w=>K (.returned (.tuple #[t82,t84])) w))
def gR(t0 t1 w)(K:KT):=
 dx (mBox 108 t0) w K fun t2 w=>dx (mFA 108 t2 0) w K fun t11 w=>dx (aA 9 t11) w K fun t12 w=>dx (mIx 9 t12 t1) w K fun t14 w=>cx 168 #[(.string ⟨#[110,114,116,98,102]⟩),t14] w K fun t15 w=>dx (mBin .geq 3 t15 (iN 0)) w K fun t17 w=>IfX t17 (dx (mBin .add 3 t15 (iN 1)) w K fun t20 w=>dx (aT 9 (.string ⟨#[10,13,9,8,12]⟩) (some t15) (some t20) none) w K fun t21 w=>dx (mBin .add 3 t1 (iN 1)) w K fun t23 w=>K (.returned (.tuple #[t21,t23])) w) (dx (aA 108 t2) w K fun t25 w=>cx 120 #[t25,t1] w K fun t27 w=>dx (mExt t27 0) w K fun t28 w=>dx (mExt t27 1) w K fun t29 w=>IfX t29 (K (.returned (.tuple #[(.string ⟨#[]⟩),t28])) w) (LoopX [(iN 0),t1] w (fun vs1 w N1=>∀_:Sg,lF t1 t2 (vs1.getD 0 undef) (vs1.getD 1 undef) w N1 K)))
theorem xY (t0 t1:Value)(w:World)(K:Ending→World→Prop):wpX prog 85 [] [(8,[9,10])] none (aY Tryz.f121) (topQ prog [.tmp 4,.tmp 5] K) (aR [t0,t1]) [] w=gR t0 t1 w K:=by kernel_rfl
theorem wN {t0 t1:Value}{w:World}{K:Ending→World→Prop}(h:gR t0 t1 w K):Calls prog 121 #[t0,t1] w K:=
 aE Tryz.func121 rfl rfl rfl rfl (Eq.mpr (xY t0 t1 w K) h)
def iS(t1 t2 t3 t4 t5 t6 w)(N1:JT)(K:KT):=
 dx (mEq .eql 3 (.tmp 63) (.const (iN 0)) t5 (iN 0)) w K fun t64 w=>IfX t64 (QuietX w (fun C3=>QDo prog C3 (aA 108 t1) fun t65=>QDo prog C3 (mBin .add 3 t6 (iN 1)) fun t67=>QCall prog C3 51 #[t4] fun t68=>QCall prog C3 116 #[t65,(iN 3),t67,t68,(iN 32767)] fun t69=>QDo prog C3 (mExt t69 0) fun t70=>QDo prog C3 (mExt t69 1) fun t71=>
 ∀w,C3 w →
 dx (aC 58 t2 t70) w K fun _ w=>RetX prog [.cell t2 58,.val t71] w K)) (dx (mFA 108 t1 0) w K fun t72 w=>dx (aA 9 t72) w K fun t73 w=>dx (mIx 9 t73 t6) w K fun t75 w=>cx 84 #[t4,t75] w K fun t76 w=>dx (mBin .add 3 t6 (iN 1)) w K fun t78 w=>N1 [t3,t5,t78] w)
def rQ(t1 t2 t3 t4 t5 t6 w)(N1:JT)(K:KT):=
 dx (mFA 108 t1 0) w K fun t16 w=>dx (aA 9 t16) w K fun t17 w=>dx (mB .len #[9] 3 #[false] #[t17]) w K fun t18 w=>dx (mBin .lss 3 t6 t18) w K fun t19 w=>IfX t19 (dx (aA 108 t1) w K fun t21 w=>cx 120 #[t21,t6] w K fun t23 w=>dx (mExt t23 0) w K fun t24 w=>dx (mExt t23 1) w K fun t25 w=>IfX t25 (cx 84 #[t4,(.int .u8 10)] w K fun t27 w=>N1 [t3,t5,t24] w) (JoinX (fun J2=>dx (mFA 108 t1 0) w K fun t29 w=>dx (aA 9 t29) w K fun t30 w=>dx (mIx 9 t30 t6) w K fun t32 w=>dx (mEq .eql 5 (.tmp 33) (.const (.int .u8 92)) t32 (.int .u8 92)) w K fun t35 w=>IfX t35 (dx (mBin .add 3 t6 (iN 1)) w K fun t37 w=>dx (mFA 108 t1 0) w K fun t38 w=>dx (aA 9 t38) w K fun t39 w=>dx (mB .len #[9] 3 #[false] #[t39]) w K fun t40 w=>dx (mEq .eql 3 (.tmp 37) (.tmp 40) t37 t40) w K fun t41 w=>IfX t41 (cx 71 #[(iN 4)] w K fun t42 w=>dx (mExt t42 0) w K fun t43 w=>dx (mExt t42 1) w K fun t44 w=>dx (aC 58 t2 t43) w K fun _ w=>RetX prog [.cell t2 58,.val t44] w K) (dx (aA 108 t1) w K fun t46 w=>dx (mBin .add 3 t6 (iN 1)) w K fun t48 w=>cx 121 #[t46,t48] w K fun t49 w=>dx (mExt t49 0) w K fun t50 w=>dx (mExt t49 1) w K fun t51 w=>cx 43 #[t4,t50] w K fun t53 w=>N1 [t3,t5,t51] w)) (dx (mEq .eql 5 (.tmp 33) (.const (.int .u8 40)) t32 (.int .u8 40)) w K fun t56 w=>IfX t56 (dx (mBin .add 3 t5 (iN 1)) w K fun t58 w=>J2 [t3,t58,t6] w) (dx (mEq .eql 5 (.tmp 33) (.const (.int .u8 41)) t32 (.int .u8 41)) w K fun t60 w=>IfX t60 (dx (mBin .sub 3 t5 (iN 1)) w K fun t62 w=>J2 [t3,t62,t6] w) (J2 [t3,t5,t6] w)))) (fun vs2 w=>∀_:Sg,iS t1 t2 (vs2.getD 0 undef) t4 (vs2.getD 1 undef) (vs2.getD 2 undef) w N1 K))) (cx 71 #[(iN 4)] w K fun t79 w=>dx (mExt t79 0) w K fun t80 w=>dx (mExt t79 1) w K fun t81 w=>dx (aC 58 t2 t80) w K fun _ w=>RetX prog [.cell t2 58,.val t81] w K)
def lY(t0 w)(K:KT):=
 dx (mBox 108 t0) w K fun t1 w=>dx (aM 58) w K fun t2 w=>dx (aM 78) w K fun t4 w=>dx (mFA 108 t1 1) w K fun t12 w=>dx (aA 3 t12) w K fun t13 w=>dx (mBin .add 3 t13 (iN 1)) w K fun t14 w=>LoopX [(iN 0),(iN 1),t14] w (fun vs1 w N1=>∀_:Sg,rQ t1 t2 (vs1.getD 0 undef) t4 (vs1.getD 1 undef) (vs1.getD 2 undef) w N1 K)
theorem Cm (t0:Value)(w:World)(K:Ending→World→Prop):wpX prog 82 [(21,[3,5,6])] [(4,[3,5,6])] none (aY Tryz.f77) (topQ prog [.cell 2 58,.tmp 3] K) (aR [t0]) [] w=lY t0 w K:=by kernel_rfl
theorem Cf {t0:Value}{w:World}{K:Ending→World→Prop}(h:lY t0 w K):Calls prog 77 #[t0] w K:=
 aE Tryz.func77 rfl rfl rfl rfl (Eq.mpr (Cm t0 w K) h)
def tM(t3 t4 t5 t6 w)(N1:JT)(K:KT):=
 dx (mBin .add 3 t6 (iN 1)) w K fun t18 w=>N1 [t3,t4,t5,t18] w
def tI(t1 t2 t4 t6 w)(K:KT):=
 dx (aA 108 t1) w K fun t33 w=>dx (mBin .add 3 t6 (iN 1)) w K fun t35 w=>dx (cH 76 9 t4) w K fun t37 w=>cx 116 #[t33,(iN 3),t35,t37,(iN 32767)] w K fun t38 w=>dx (mExt t38 0) w K fun t39 w=>dx (mExt t38 1) w K fun t40 w=>dx (aC 58 t2 t39) w K fun _ w=>RetX prog [.cell t2 58,.val t40] w K
def tJ(t1 t2 t3 t4 t5 t6 w)(N1:JT)(K:KT):=
 dx (mFA 108 t1 0) w K fun t13 w=>dx (aA 9 t13) w K fun t14 w=>dx (mB .len #[9] 3 #[false] #[t14]) w K fun t15 w=>dx (mBin .lss 3 t6 t15) w K fun t16 w=>IfX t16 (JoinX (fun J2=>dx (mFA 108 t1 0) w K fun t19 w=>dx (aA 9 t19) w K fun t20 w=>dx (mIx 9 t20 t6) w K fun t22 w=>dx (mEq .eql 5 (.tmp 23) (.const (.int .u8 62)) t22 (.int .u8 62)) w K fun t24 w=>IfX t24 (JoinX (fun J3=>dx (mBin .geq 3 t5 (iN 0)) w K fun t26 w=>IfX t26 (dx (mBin .shl 3 t5 (.int .u64 4)) w K fun t29 w=>dx (cH 3 5 t29) w K fun t30 w=>dx (aS 76 1 #[(0,t30)]) w K fun t31 w=>dx (mB .append #[76,76] 76 #[false,false] #[t4,t31]) w K fun t32 w=>J3 [t32] w) (J3 [t4] w)) (fun vs3 w=>∀_:Sg,tI t1 t2 (vs3.getD 0 undef) t6 w K)) (cx 117 #[t22] w K fun t42 w=>cx 114 #[t22] w K fun t53 w=>IfX t53 (J2 [t3,t4,t5] w) (dx (mBin .lss 3 t42 (iN 0)) w K fun t56 w=>IfX t56 (cx 71 #[(iN 3)] w K fun t57 w=>dx (mExt t57 0) w K fun t58 w=>dx (mExt t57 1) w K fun t59 w=>dx (aC 58 t2 t58) w K fun _ w=>RetX prog [.cell t2 58,.val t59] w K) (dx (mBin .lss 3 t5 (iN 0)) w K fun t62 w=>IfX t62 (J2 [t3,t4,t42] w) (dx (mBin .shl 3 t5 (.int .u64 4)) w K fun t45 w=>dx (mBin .or 3 t45 t42) w K fun t47 w=>dx (cH 3 5 t47) w K fun t48 w=>dx (aS 76 1 #[(0,t48)]) w K fun t49 w=>dx (mB .append #[76,76] 76 #[false,false] #[t4,t49]) w K fun t50 w=>J2 [t3,t50,(iN (-1))] w))))) (fun vs2 w=>∀_:Sg,tM (vs2.getD 0 undef) (vs2.getD 1 undef) (vs2.getD 2 undef) t6 w N1 K)) (cx 71 #[(iN 4)] w K fun t64 w=>dx (mExt t64 0) w K fun t65 w=>dx (mExt t64 1) w K fun t66 w=>dx (aC 58 t2 t65) w K fun _ w=>RetX prog [.cell t2 58,.val t66] w K)
def oP(t0 w)(K:KT):=
 dx (mBox 108 t0) w K fun t1 w=>dx (aM 58) w K fun t2 w=>dx (mFA 108 t1 1) w K fun t9 w=>dx (aA 3 t9) w K fun t10 w=>dx (mBin .add 3 t10 (iN 1)) w K fun t11 w=>LoopX [(iN 0),(.slice none 0 0),(iN (-1)),t11] w (fun vs1 w N1=>∀_:Sg,tJ t1 t2 (vs1.getD 0 undef) (vs1.getD 1 undef) (vs1.getD 2 undef) (vs1.getD 3 undef) w N1 K)
theorem Dg (t0:Value)(w:World)(K:Ending→World→Prop):wpX prog 67 [(5,[3,4,5]),(10,[4])] [(4,[3,4,5,6])] none (aY Tryz.f75) (topQ prog [.cell 2 58,.tmp 3] K) (aR [t0]) [] w=oP t0 w K:=by kernel_rfl
theorem Dd {t0:Value}{w:World}{K:Ending→World→Prop}(h:oP t0 w K):Calls prog 75 #[t0] w K:=
 aE Tryz.func75 rfl rfl rfl rfl (Eq.mpr (Dg t0 w K) h)
def HW(t0 w)(K:KT):=
 cx 171 #[t0,(.string ⟨#[43,45]⟩)] w K fun t5 w=>dx (mB .len #[9] 3 #[false] #[t0]) w K fun t7 w=>dx (mB .len #[9] 3 #[false] #[t5]) w K fun t9 w=>dx (mBin .sub 3 t7 t9) w K fun t10 w=>dx (mBin .leq 3 t10 (iN 1)) w K fun t11 w=>etx t11 t5 w fun t13 w=>gtx t11 (mEq .neq 9 (.tmp 13) (.const (.string ⟨#[]⟩)) t13 (.string ⟨#[]⟩)) w K fun t14 w=>dx (aF t11 t14 (.bool false)) w K fun t15 w=>etx t15 t5 w fun t17 w=>ctx t15 172 #[t17,(.string ⟨#[48,49,50,51,52,53,54,55,56,57]⟩)] w K fun t18 w=>gtx t15 (mEq .eql 9 (.tmp 18) (.const (.string ⟨#[]⟩)) t18 (.string ⟨#[]⟩)) w K fun t19 w=>dx (aF t15 t19 (.bool false)) w K fun t20 w=>IfX t20 (K (.returned (iN 1)) w) (cx 173 #[t0,(.string ⟨#[46]⟩)] w K fun t22 w=>IfX t22 (K (.returned (iN 2)) w) (K (.returned (iN 0)) w))
theorem IK{t0 w K}(h:HW t0 w K):Calls prog 122 #[t0] w K:=cw Tryz.func122 rfl rfl (by kernel_rfl) h
def xN(t4 w)(K:KT):=
 K (.returned (.tuple #[t4,(iN 0)])) w
def DH(t0 t4 t9 w)(N1:JT)(K:KT):=
 dx (Ll t9 true 0) w K fun t10 w=>dx (mExt t10 0) w K fun t11 w=>IfX t11 (dx (mExt t10 2) w K fun t12 w=>dx (mBin .mul 2 (iN 10) t4) w K fun t14 w=>dx (mBin .sub 21 t12 (.int .i32 48)) w K fun t16 w=>dx (cH 21 2 t16) w K fun t17 w=>dx (mBin .add 2 t14 t17) w K fun t18 w=>dx (mB .min #[2,2] 2 #[false,true] #[t18,(iN 2147483648)]) w K fun t19 w=>N1 [t19] w) (dx (mBin .gtr 2 t4 (iN 2147483647)) w K fun t21 w=>IfX t21 (K (.returned (.tuple #[(iN 0),(iN 2)])) w) (JoinX (fun J2=>dx (mIx 9 t0 (iN 0)) w K fun t23 w=>dx (mEq .eql 5 (.tmp 23) (.const (.int .u8 45)) t23 (.int .u8 45)) w K fun t24 w=>IfX t24 (dx (mUn .neg t4) w K fun t26 w=>J2 [t26] w) (J2 [t4] w)) (fun vs2 w=>∀_:Sg,xN (vs2.getD 0 undef) w K)))
def C6(t0 w)(K:KT):=
 cx 171 #[t0,(.string ⟨#[43,45]⟩)] w K fun t8 w=>dx (DB 9 t8) w K fun t9 w=>LoopX [(iN 0)] w (fun vs1 w N1=>∀_:Sg,DH t0 (vs1.getD 0 undef) t9 w N1 K)
theorem I7 (t0:Value)(w:World)(K:Ending→World→Prop):wpX prog 28 [(10,[4])] [(3,[4])] none (aY Tryz.f123) (topQ prog [.tmp 2,.tmp 3] K) (aR [t0]) [] w=C6 t0 w K:=by kernel_rfl
theorem II {t0:Value}{w:World}{K:Ending→World→Prop}(h:C6 t0 w K):Calls prog 123 #[t0] w K:=
 aE Tryz.func123 rfl rfl rfl rfl (Eq.mpr (I7 t0 w K) h)
def rH(t1 t2 t4 t5 w)(K:KT):=
 dx (aA 108 t1) w K fun t61 w=>cx 116 #[t61,(iN 5),t4,t5,(iN 127)] w K fun t64 w=>dx (mExt t64 0) w K fun t65 w=>dx (mExt t64 1) w K fun t66 w=>dx (aC 58 t2 t65) w K fun _ w=>RetX prog [.cell t2 58,.val t66] w K
def lS(t0 w)(K:KT):=
 dx (mBox 108 t0) w K fun t1 w=>dx (aM 58) w K fun t2 w=>dx (aA 108 t1) w K fun t10 w=>dx (mFA 108 t1 1) w K fun t11 w=>dx (aA 3 t11) w K fun t12 w=>cx 118 #[t10,t12] w K fun t13 w=>dx (mFA 108 t1 0) w K fun t14 w=>dx (aA 9 t14) w K fun t15 w=>dx (mFA 108 t1 1) w K fun t16 w=>dx (aA 3 t16) w K fun t17 w=>dx (aT 9 t15 (some t17) (some t13) none) w K fun t19 w=>JoinX (fun J1=>cx 122 #[t19] w K fun t21 w=>dx (mEq .eql 3 (.tmp 21) (.const (iN 1)) t21 (iN 1)) w K fun t23 w=>IfX t23 (cx 123 #[t19] w K fun t26 w=>dx (mExt t26 0) w K fun t27 w=>dx (mExt t26 1) w K fun t28 w=>dx (mEq .neq 30 (.tmp 29) (.const (iN 0)) t28 (iN 0)) w K fun t30 w=>IfX t30 (cx 71 #[t28] w K fun t32 w=>dx (mExt t32 0) w K fun t33 w=>dx (mExt t32 1) w K fun t34 w=>dx (aC 58 t2 t33) w K fun _ w=>RetX prog [.cell t2 58,.val t34] w K) (dx (mFA 108 t1 1) w K fun t35 w=>dx (aA 3 t35) w K fun t36 w=>dx (aJ 58 #[(0,(iN 1)),(1,t36),(2,t13),(3,t27)]) w K fun t39 w=>dx (aC 58 t2 t39) w K fun _ w=>RetX prog [.cell t2 58,.val (iN 0)] w K)) (dx (mEq .eql 3 (.tmp 21) (.const (iN 2)) t21 (iN 2)) w K fun t41 w=>IfX t41 (cx 124 #[t19] w K fun t44 w=>dx (mExt t44 0) w K fun t45 w=>dx (mExt t44 1) w K fun t46 w=>dx (mEq .eql 30 (.tmp 47) (.const (iN 0)) t46 (iN 0)) w K fun t49 w=>IfX t49 (dx (mFA 108 t1 1) w K fun t50 w=>dx (aA 3 t50) w K fun t51 w=>dx (aJ 58 #[(0,(iN 2)),(1,t51),(2,t13),(3,t45)]) w K fun t54 w=>dx (aC 58 t2 t54) w K fun _ w=>RetX prog [.cell t2 58,.val (iN 0)] w K) (dx (mEq .eql 30 (.tmp 47) (.const (iN 2)) t46 (iN 2)) w K fun t56 w=>IfX t56 (cx 71 #[t46] w K fun t58 w=>dx (mExt t58 0) w K fun t59 w=>dx (mExt t58 1) w K fun t60 w=>dx (aC 58 t2 t59) w K fun _ w=>RetX prog [.cell t2 58,.val t60] w K) (J1 [(iN 0)] w))) (J1 [(iN 0)] w))) (fun vs1 w=>∀_:Sg,rH t1 t2 t13 t19 w K)
theorem Cb (t0:Value)(w:World)(K:Ending→World→Prop):wpX prog 67 [(16,[3])] [] none (aY Tryz.f78) (topQ prog [.cell 2 58,.tmp 3] K) (aR [t0]) [] w=lS t0 w K:=by kernel_rfl
theorem Ch {t0:Value}{w:World}{K:Ending→World→Prop}(h:lS t0 w K):Calls prog 78 #[t0] w K:=
 aE Tryz.func78 rfl rfl rfl rfl (Eq.mpr (Cb t0 w K) h)
end
section
open Eng Go.RowKit
def tokC (x:Lx.Tok):List Value:=[.int .i64 x.k,.int .i64 x.a,.int .i64 x.t,.int .i64 x.n,.string ⟨x.s.toArray⟩]
def tokV (x:Lx.Tok):Value:=.agg (tokC x).toArray
def tokR (r:Lx.Tok×Int):Value:=.tuple #[tokV r.1,.int .i64 r.2]
def cutC (s:List UInt8)(a:Int):List Value:=[.string ⟨s.toArray⟩,.int .i64 a]
def cutV (s:List UInt8)(a:Int):Value:=.agg (cutC s a).toArray
def cutE (b:Nat)(s:List UInt8)(a:Int):Ent:=.cells b (cutC s a) 108
def tokE (b:Nat)(x:Lx.Tok):Ent:=.cells b (tokC x) 58
theorem Fw:aggN prog 58=some 5:=by kernel_rfl
theorem Ut:aggN prog 108=some 2:=by kernel_rfl
theorem nStr:dX prog 9=true:=by kernel_rfl
theorem nInt:dX prog 3=true:=by kernel_rfl
theorem U6:(Tryz.prog.info? 58).map (·.size)=some 5:=by kernel_rfl
section
variable {w:World}{PK:PKT}{K:VWP}{S:Nat→Prop}{w0:World}{L:List Ent}
theorem vN {b:Nat}:DoX prog (mFA 108 (.pointer (some ⟨b,0,none⟩)) 0) w PK K=K (.pointer (some ⟨b,0,none⟩)) w:=dJ (show fOff prog 108 0=some 0 by kernel_rfl)
theorem G7 {b:Nat}:DoX prog (mFA 108 (.pointer (some ⟨b,0,none⟩)) 1) w PK K=K (.pointer (some ⟨b,1,none⟩)) w:=dJ (show fOff prog 108 1=some 1 by kernel_rfl)
theorem uL (ho:OwnS S w0 w L)(i:Nat){b:Nat}{s:List UInt8}{a:Int}(hi:L[i]?=some (cutE b s a)):DoX prog (aA 9 (.pointer (some ⟨b,0,none⟩))) w PK K=K (.string ⟨s.toArray⟩) w:=bE nStr (ho.cell i hi 0 rfl)
theorem F9 (ho:OwnS S w0 w L)(i:Nat){b:Nat}{s:List UInt8}{a:Int}(hi:L[i]?=some (cutE b s a)):DoX prog (aA 3 (.pointer (some ⟨b,1,none⟩))) w PK K=K (.int .i64 a) w:=bE nInt (ho.cell i hi 1 rfl)
theorem CV (ho:OwnS S w0 w L)(i:Nat){b:Nat}{s:List UInt8}{a:Int}(hi:L[i]?=some (cutE b s a)):DoX prog (aA 108 (.pointer (some ⟨b,0,none⟩))) w PK K=K (cutV s a) w:=l_at (ho.agg i hi Ut)
theorem WU (ho:OwnS S w0 w L)(i:Nat){b:Nat}{s:List UInt8}{a:Int}(hi:L[i]?=some (cutE b s a)):(aA 9 (.pointer (some ⟨b,0,none⟩))).run prog w=.ok (.value (.string ⟨s.toArray⟩)) w:=aL nStr (ho.cell i hi 0 rfl)
theorem IF (ho:OwnS S w0 w L)(i:Nat){b:Nat}{s:List UInt8}{a:Int}(hi:L[i]?=some (cutE b s a)):(aA 3 (.pointer (some ⟨b,1,none⟩))).run prog w=.ok (.value (.int .i64 a)) w:=aL nInt (ho.cell i hi 1 rfl)
theorem Wv (ho:OwnS S w0 w L)(i:Nat){b:Nat}{s:List UInt8}{a:Int}(hi:L[i]?=some (cutE b s a)):(aA 108 (.pointer (some ⟨b,0,none⟩))).run prog w=.ok (.value (cutV s a)) w:=dH (ho.agg i hi Ut)
theorem J8 (s:List UInt8)(a:Int)(ho:OwnS S w0 w L)(k:∀b w',OwnS S w0 w' (cutE b s a::L)→K (.pointer (some ⟨b,0,none⟩)) w'):DoX prog (mBox 108 (cutV s a)) w PK K:=
 cI (fun b=>.pointer (some ⟨b,0,none⟩)) (cutC s a) 108 (fun _=>by kernel_rfl) ho k
theorem gJ (ho:OwnS S w0 w L)(k:∀b w',OwnS S w0 w' (tokE b Lx.none_::L)→K (.pointer (some ⟨b,0,none⟩)) w'):DoX prog (aM 58) w PK K:=
 cI (fun b=>.pointer (some ⟨b,0,none⟩)) (tokC Lx.none_) 58 (fun _=>by kernel_rfl) ho k
theorem KN (x:Lx.Tok):∀v∈tokC x,v.oneCell'=true:=by
 intro v hv;simp only[tokC,Yq,aaZ,or_false] at hv;rcases hv with rfl|rfl|rfl|rfl|rfl<;>rfl
theorem cV {KE:Ending→World→Prop}(i:Nat){b:Nat}{x y:Lx.Tok}{e:Int}(ho:Own w0 w L)(hi:L[i]?=some (tokE b x))(k:∀w',Own w0 w' (L.set i (tokE b y))→KE (.returned (tokR (y,e))) w') :
  DoX prog (aC 58 (.pointer (some ⟨b,0,none⟩)) (tokV y)) w PK fun _ w=>RetX prog [.cell (.pointer (some ⟨b,0,none⟩)) 58,.val (.int .i64 e)] w KE:=by
 refine HE i ho hi (new:=tokC y) U6 (KN y) rfl fun w' ho'=>?_;have hi':(L.set i (tokE b y))[i]?=some (tokE b y):=by
  have:=(Yy.1 hi).1;simp[this]
 exact yF (aX (ho'.agg i hi' Fw)) eF (k w' ho')
theorem vZ {a b:Value}:(mExt (.tuple #[a,b]) 0).run prog w=.ok (.value a) w:=by kernel_rfl
theorem wV {a b:Value}:(mExt (.tuple #[a,b]) 1).run prog w=.ok (.value b) w:=by kernel_rfl
theorem x_0 {a b:Value}:DoX prog (mExt (.tuple #[a,b]) 0) w PK K=K a w:=aU (by kernel_rfl)
theorem x_1 {a b:Value}:DoX prog (mExt (.tuple #[a,b]) 1) w PK K=K b w:=aU (by kernel_rfl)
theorem cF {KE:Ending→World→Prop}{PK1 PK2 PK3 PK4:PKT}(i:Nat){b:Nat}{x:Lx.Tok}{r:Lx.Tok×Int}{f:Nat}{args:Array Value}(ho:Own w0 w L)(hi:L[i]?=some (tokE b x))
  (h:Ret prog f args w (fun v w'=>v=tokR r∧Below w.heap.size w w')) (k:∀w',Below w0.heap.size w0 w'→KE (.returned (tokR r)) w') :
  CallX prog f args w PK1 fun t w=>DoX prog (mExt t 0) w PK2 fun u w=>DoX prog (mExt t 1) w PK3 fun v w=>DoX prog (aC 58 (.pointer (some ⟨b,0,none⟩)) u) w PK4 fun _ w=>RetX prog [.cell (.pointer (some ⟨b,0,none⟩)) 58,.val v] w KE:=by
 refine aP ho h ?_;rintro v w' rfl ho';rw[tokR,x_0,x_1];exact cV i ho' hi fun w' ho=>k w' ho.done
theorem Dj:DoX prog (aJ 58 #[]) w PK K=K (tokV Lx.none_) w:=aU (by kernel_rfl)
theorem V3 {a t:Int}:DoX prog (aJ 58 #[(1,.int .i64 a),(2,.int .i64 t)]) w PK K=K (tokV ⟨0,a,t,0,[]⟩) w:=aU (by kernel_rfl)
theorem Ns {k a t:Int}{s:List UInt8}:DoX prog (aJ 58 #[(0,.int .i64 k),(1,.int .i64 a),(2,.int .i64 t),(4,.string ⟨s.toArray⟩)]) w PK K=K (tokV ⟨k,a,t,0,s⟩) w:=aU (by kernel_rfl)
theorem VU {k a t:Int}{s:List UInt8}:(aJ 58 #[(0,.int .i64 k),(1,.int .i64 a),(2,.int .i64 t),(4,.string ⟨s.toArray⟩)]).run prog w=.ok (.value (tokV ⟨k,a,t,0,s⟩)) w:=by kernel_rfl
theorem Uj {k a t n:Int}:DoX prog (aJ 58 #[(0,.int .i64 k),(1,.int .i64 a),(2,.int .i64 t),(3,.int .i64 n)]) w PK K=K (tokV ⟨k,a,t,n,[]⟩) w:=aU (by kernel_rfl)
end
theorem dI (e:Int)(w:World):Ret prog 71 #[.int .i64 e] w (fun v w'=>v=tokR (Lx.refused e)∧Below w.heap.size w w'):=by
 refine aO fun K hK=>Gb ?_;unfold DS dx;refine gJ (Own.start w) fun b w1 ho=>?_;rw[Dj];exact cV 0 ho rfl fun w' ho=>hK _ _ ⟨rfl,ho.done⟩
theorem GN (s:List UInt8)(a k t:Int)(x:List UInt8)(most:Int)(w:World):Ret prog 116 #[cutV s a,.int .i64 k,.int .i64 t,.string ⟨x.toArray⟩,.int .i64 most] w (fun v w'=>v=tokR (Lx.told k a t x most)∧Below w.heap.size w w'):=by
 refine aO fun K hK=>Ce ?_;unfold vO iN dx cx;refine J8 s a (Own.start w) fun b1 w1 ho=>?_;refine gJ ho fun b w2 ho=>?_;by_cases h:most < (x.length:Int)
 ·simp only[rs,bF Ym,h,Yj];exact cF 0 ho rfl (dI 5 _) fun w' hb=>hK _ _ ⟨by rw[Lx.told,Yh h],hb⟩
 ·simp only[rs,bF Ym,h,Yi,G7,F9 ho 1 rfl,Ns];exact cV 0 ho rfl fun w' ho=>hK _ _ ⟨by rw[Lx.told,Yg h],ho.done⟩
theorem KM (s:List UInt8)(a n:Nat)(w:World)(hs:s.length≤1099511627776)(h:a+n≤s.length):Ret prog 74 #[cutV s a,.int .i64 n] w (fun v w'=>v=tokR (Lx.mark s a n)∧Below w.heap.size w w'):=by
 refine aO fun K hK=>Ci ?_;unfold uR iN dx;refine J8 s a (Own.start w) fun b1 w1 ho=>?_;refine gJ ho fun b w2 ho=>?_;have f1:fOff prog 108 1=some 1:=by kernel_rfl
 have f0:fOff prog 108 0=some 0:=by kernel_rfl
 have hw:IntKind.wrap .i64 ((a:Int)+(n:Int))=((a+n:Nat):Int):=by rw[aB (by omega) (by omega)];simp
 refine quiet (q_do _ (fun _=>bC f1) (q_at _ (fun _ hb=>IF (ho.grow hb) 1 rfl) (q_do _ (fun _=>bC f1) (q_at _ (fun _ hb=>IF (ho.grow hb) 1 rfl) (q_do _ (fun _=>by rw[EX,hw]) ?_)))));refine q_do _ (fun _=>bC f0) (q_at _ (fun _ hb=>WU (ho.grow hb) 1 rfl) (q_do _ (fun _=>bC f1) (q_at _ (fun _ hb=>IF (ho.grow hb) 1 rfl) (q_do _ (fun _=>bC f1) (q_at _ (fun _ hb=>IF (ho.grow hb) 1 rfl) (q_do _ (fun _=>by rw[EX,hw]) ?_))))));refine q_do (.string ⟨(Lx.cut s a (a+n)).toArray⟩) (fun w=>?_) (q_do _ (fun _=>VU) ?_)
 ·have:=@wE prog w 9 s .i64 .i64 (a:Int) ((a+n:Nat):Int) Ym (by omega) (by omega) (by omega);rw[this];rfl
 ·intro w3 hb;exact cV 0 (ho.grow hb) rfl fun w' ho=>hK _ _ ⟨rfl,ho.done⟩
theorem Rn (s:List UInt8)(a:Int)(i:Nat)(w:World)(hs:s.length≤1099511627776)(h:i≤s.length):Ret prog 118 #[cutV s a,.int .i64 i] w (fun v w'=>v=.int .i64 (Lx.run s i)∧Below w.heap.size w w'):=by
 refine aO fun K hK=>C9 ?_;unfold oJ dx;refine J8 s a (Own.start w) fun b1 w1 ho=>?_;refine loop (fun vs w'=>∃(j:Nat),vs=[.int .i64 j]∧j≤s.length∧Lx.run s j=Lx.run s i∧w1=w') (fun vs _=>s.length - n0 vs) ⟨i,rfl,h,rfl,rfl⟩ ?_;rintro vs w2 ⟨j,rfl,hj,he,rfl⟩ _;simp only[tL,gd,vN,uL ho 0 rfl,bF Ym,iN,dx,gtx,ctx,etx];rw[oL];by_cases hlt:(j:Int) < (s.length:Int)
 ·have hi2:j < s.length:=by omega
  have hd:=Lx.drop_cons hi2;have hx:∀{PK K},DoX prog (mIx 9 (.string ⟨s.toArray⟩) (.int .i64 (j:Int))) w1 PK K=K (.int .u8 (s[j].toNat:Int)) w1:=s_ix (c:=s[j]) Ym (Zp j) (by simp[hi2]);simp only[hlt,Yj,rs,vN,uL ho 0 rfl,hx];refine c_eq (CS s[j] w1) ?_;cases hr:Oc.regular s[j] with
 |true=>
   simp only[rs];rw[aB (by omega) (by omega)];refine bO ⟨j+1,rfl,by omega,?_,rfl⟩ (by simp[n0,RowKit.intOf];omega);rw[←he,Lx.run,Lx.run,hd,Lx.runF,Yh hr];omega
 |false=>
   simp only[rs];refine hK _ _ ⟨?_,ho.done⟩;rw[←he,Lx.run,hd,Lx.runF,Yg (by simp[hr])];simp
 ·have hi2:j=s.length:=by omega
  subst hi2;simp only[hlt,Yi,rs,g_un];refine hK _ _ ⟨?_,ho.done⟩;rw[←he,Lx.run,YX];simp[Lx.runF]
theorem RY (s:List UInt8)(a:Int)(i:Nat)(w:World)(hs:s.length≤1099511627776)(h:i < s.length):Ret prog 120 #[cutV s a,.int .i64 i] w (fun v w'=>v=.tuple #[.int .i64 (if Lx.eol s[i] then (Lx.line s i:Int) else (i:Int)),.bool (Lx.eol s[i])]∧Below w.heap.size w w'):=by
 refine aO fun K hK=>Da ?_;unfold yE dx gfx efx cx;refine J8 s a (Own.start w) fun b1 w1 ho=>?_;have hx:∀{PK K},DoX prog (mIx 9 (.string ⟨s.toArray⟩) (.int .i64 (i:Int))) w1 PK K=K (.int .u8 (s[i].toNat:Int)) w1:=s_ix (c:=s[i]) Ym (Zp i) (by simp[h]);have e1:=u8d s[i] 13 13 rfl;have e2:=u8d s[i] 10 10 rfl;have fin:∀e:Lx.eol s[i]=true,CallX prog 170 #[.string ⟨s.toArray⟩,.int .i64 i] w1 (pk K) fun t21 w=>K (.returned (.tuple #[t21,(.bool true)])) w:=by
  intro e;refine c_eq (TJ s i w1 (by omega) (by omega)) ?_;exact hK _ _ ⟨by rw[e];rfl,ho.done⟩
 by_cases h1:s[i]=13
 ·simp only[vN,uL ho 0 rfl,hx,rs,e1,Yk h1,g_un];exact fin (by simp[Lx.eol,h1])
 simp only[vN,uL ho 0 rfl,hx,rs,e1,Yl h1];by_cases h2:s[i]=10
 ·simp only[rs,e2,Yk h2,g_un];exact fin (by simp[Lx.eol,h2])
 simp only[rs,e2,Yl h2,g_un];exact hK _ _ ⟨by simp[Lx.eol,h1,h2],ho.done⟩
end
section
open Eng Go.RowKit
theorem KZ:∀n m:Fin 16,bOr .i64 (IntKind.wrap .i64 ((n.val:Int)*2 ^ (min (4:Int).toNat IntKind.i64.bits))) (m.val:Int)=((16*n.val+m.val:Nat):Int):=by decide +kernel
theorem WD {a b:Int}(ha:0≤a)(ha2:a≤15)(hb:0≤b)(hb2:b≤15):bOr .i64 (IntKind.wrap .i64 (a*2 ^ (min (4:Int).toNat IntKind.i64.bits))) b=16*a+b:=by
 have:=KZ ⟨a.toNat,by omega⟩ ⟨b.toNat,by omega⟩;simp only at this;rw[abQ ha,abQ hb] at this;rw[this];omega
theorem B3 {a b:Int}(ha:0≤a)(ha2:a≤15)(hb:0≤b)(hb2:b≤15):((Lx.byte a b).toNat:Int)=16*a+b:=by
 rw[Lx.byte,aaJ];omega
theorem Iv:∀(n:Nat) (l:List UInt8),l.length≤n→l.length % 2=1→Lx.unhex l=none
|_,[],_,h=>by simp at h
|_,[_],_,_=>rfl
|0,_::_::_,h,_=>by simp at h
|n+1,a::b::t,hl,h=>by
  simp only[Yr] at hl h;rw[Lx.unhex,Iv n t (by omega) (by omega)];simp
theorem JG {s:List UInt8}{i:Nat}(h:i+1 < s.length):Lx.unhex (s.drop i)=if Lx.digit s[i] < 0∨Lx.digit s[i+1] < 0 then none else (Lx.unhex (s.drop (i+2))).map (Lx.byte (Lx.digit s[i]) (Lx.digit s[i+1])::·):=by
 rw[Lx.drop_cons (show i < s.length by omega),Lx.drop_cons h,Lx.unhex]
theorem rM {s:List UInt8}(h:Lx.unhex s=none):Lx.DQ s=([],3):=by rw[Lx.DQ,h]
theorem wT {s x:List UInt8}(h:Lx.unhex s=some x):Lx.DQ s=(x,0):=by rw[Lx.DQ,h]
theorem m_b1 {n:Int}(w:World)(c:UInt8)(h:(c.toNat:Int)=n):(aS 76 1 #[(0,.int .u8 n)]).run prog w=.ok (.value (.slice (some ⟨w.heap.size,0,none⟩) [c].length [c].length)) (w.alloc (.cells (bZ [c]).toArray 5)):=by
 subst h;kernel_rfl
theorem Dq {S:Nat→Prop}{w0 w:World}{L:List Ent}{v:Value}{l:List UInt8}{n:Int}{cs:Array Bool}{PK PK2:PKT}{K:VWP}(c:UInt8)(h:(c.toNat:Int)=n)
  (ho:OwnS S w0 w (BRow v l::L)) (hb:l.length+1≤140737488355328) (k:∀v' w',OwnS S w0 w' (BRow v' (l++[c])::L)→K v' w') :
  DoX prog (aS 76 1 #[(0,.int .u8 n)]) w PK fun t w=>DoX prog (mB .append #[76,76] 76 cs #[v,t]) w PK2 K:=
 Jq (m:=[c]) (fun w=>m_b1 w c h) ho (by simpa using hb) k
theorem c_8 {w:World}{PK:PKT}{K:VWP}{n:Int}:DoX prog (cH 3 5 (.int .i64 n)) w PK K=K (.int .u8 (IntKind.wrap .u8 n)) w:=
 F8 (show (Tryz.prog.underlying 3).isSome=true by kernel_rfl) YV
theorem c_64 {w:World}{PK:PKT}{K:VWP}{n:Int}(h0:0≤n)(h1:n≤255):DoX prog (cH 5 3 (.int .u8 n)) w PK K=K (.int .i64 n) w:=by
 rw[F8 (show (Tryz.prog.underlying 5).isSome=true by kernel_rfl) YR,aB (by omega) (by omega)]
 attribute [local congr] kS in
theorem RI (s:List UInt8)(w:World)(hs:s.length≤1099511627776):Ret prog 119 #[.string ⟨s.toArray⟩] w (fun v w'=>v=.tuple #[.string ⟨(Lx.DQ s).1.toArray⟩,.int .i64 (Lx.DQ s).2]∧Below w.heap.size w w'):=by
  refine aO fun K hK=>Gd ?_;unfold xU iN dx;rw[bF Ym,EC (by omega)];have hr:((s.length:Int).tmod 2)=((s.length % 2:Nat):Int):=by rw[Zl (by omega)];omega
  rw[hr];by_cases hodd:s.length % 2=1
  ·rw[hodd];simp only[rs];have hu:¬((1:Nat):Int)=0:=by omega
   simp only[hu,Yj,decide_not,Yi,YJ,rs];exact hK _ _ ⟨by rw[rM (Iv _ s (Yw _) hodd)],(Own.start w).done⟩
  have heven:s.length % 2=0:=by omega
  have hq:((s.length:Int).tdiv 2)=((s.length / 2:Nat):Int):=by rw[Zw (by omega)];omega
  rw[heven];simp only[rs,ne_eq,Int.natCast_zero,not_true,Yi];rw[bF Ym,Gr (by omega),hq,aB (by omega) (by omega)];refine Ul (c:=s.length / 2) rfl Y3 (show elB prog 5 1 1=true by kernel_rfl) (by omega) (by omega) (Own.start w) fun v w1 h1=>?_;refine loop (fun vs w'=>∃(i:Nat) (v:Value) (acc:List UInt8),vs=[v,.int .i64 i]∧i≤s.length∧i % 2=0∧acc.length≤i∧Lx.unhex s=(Lx.unhex (s.drop i)).map (acc++·)∧Own w w' [BRow v acc])
   (fun vs _=>s.length - n1 vs) ⟨0,v,[],rfl,by omega,rfl,by simp,by simp,by simpa[BRow,bZ] using h1⟩ ?_
  rintro vs w2 ⟨i,v,acc,rfl,hi,hi0,ha,he,ho⟩ _;simp only[AD,gd,bF Ym,iN,dx,gfx,efx];rw[oL];by_cases hlt:(i:Int) < (s.length:Int)
  ·have hi2:i+1 < s.length:=by omega
   have hi3:i < s.length:=by omega
   simp only[hlt,Yj,i_t];have b1:=Lx.pP s[i];have b2:=Lx.pP s[i+1];have hw1:IntKind.wrap .i64 ((i:Int)+1)=((i+1:Nat):Int):=by rw[aB (by omega) (by omega)];omega
   have hc1:s[(i:Int).toNat]?=some s[i]:=by simp[hi3]
   have hc2:s[((i+1:Nat):Int).toNat]?=some s[i+1]:=by rw[Yo];simp[hi2]
   refine quiet (q_do _ (fun w=>gE (c:=s[i]) Ym (Zp i) hc1) ?_);refine gX (.int .i64 (Lx.digit s[i])) (fun w hb=>mF (Ih s[i] w) hb) ?_;refine q_do (.int .i64 ((i+1:Nat):Int)) (fun w=>by rw[EX,hw1]) ?_;refine q_do _ (fun w=>gE (c:=s[i+1]) Ym (Zp _) hc2) ?_;refine gX (.int .i64 (Lx.digit s[i+1])) (fun w hb=>mF (Ih s[i+1] w) hb) ?_;intro w3 hb3;have ho:=ho.grow hb3;rw[JG hi2] at he;simp +contextual only[rs,gs];by_cases hbad:Lx.digit s[i] < 0∨Lx.digit s[i+1] < 0
   ·have hb:(decide (Lx.digit s[i] < 0)||decide (Lx.digit s[i+1] < 0))=true:=by simpa using hbad
    simp only[hb,i_t];rw[Yh hbad] at he;exact hK _ _ ⟨by rw[rM he],ho.done⟩
   have hb:(decide (Lx.digit s[i] < 0)||decide (Lx.digit s[i+1] < 0))=false:=by simpa using hbad
   simp only[hb,i_f];rw[Yg hbad] at he;rw[Vc (by omega),b_or,WD (by omega) (by omega) (by omega) (by omega),c_8,cZ (by omega) (by omega)];refine Dq (Lx.byte (Lx.digit s[i]) (Lx.digit s[i+1])) (B3 (by omega) (by omega) (by omega) (by omega)) ho (by omega) fun v' w4 ho=>?_;rw[aB (by omega) (by omega)];refine bO ⟨i+2,v',_,rfl,by omega,by omega,by simp;omega,?_,ho⟩ (by simp[n1,RowKit.intOf];omega);rw[he,YW]
   congr 1
   funext x;simp
  ·have hi2:i=s.length:=by omega
   subst hi2;simp only[hlt,Yi,i_f];rw[DO 0 ho rfl];rw[YX,Lx.unhex,Zv,YQ] at he;exact hK _ _ ⟨by rw[wT he],ho.done⟩
end
section
open Eng Go.RowKit
theorem RA (s:List UInt8)(i:Nat):Lx.cut s i i=[]:=by simp[Lx.cut]
theorem Ep {s:List UInt8}{i j:Nat}(h:i < j)(hj:j≤s.length):Lx.cut s i j=s[i]::Lx.cut s (i+1) j:=by
 unfold Lx.cut;rw[Lx.drop_cons (show i < s.length by omega),show j - i=(j - (i+1))+1 by omega,Y7]
theorem BO {s:List UInt8}{i j:Nat}(hj:j≤s.length):(Lx.cut s i j).length=j - i:=by
 unfold Lx.cut;simp;omega
theorem H9 {s:List UInt8}{i:Nat}(h:i < s.length):Lx.cut s i (i+1)=[s[i]]:=by rw[Ep (by omega) (by omega),RA]
theorem U3 {s:List UInt8}{i:Nat}(h:i+1 < s.length):Lx.cut s i (i+2)=[s[i],s[i+1]]:=by rw[Ep (by omega) (by omega),H9 h]
theorem JV {s:List UInt8}{i j:Nat}{x y:Int}{w:World}{PK:PKT}{K:VWP}(hx:x=(i:Int))(hy:y=(j:Int))(h:i≤j)(hj:j≤s.length) :
  DoX prog (aT 9 (.string ⟨s.toArray⟩) (some (.int .i64 x)) (some (.int .i64 y)) none) w PK K=K (.string ⟨(Lx.cut s i j).toArray⟩) w:=by
 subst hx;subst hy;rw[Bt Ym (by omega) (by omega) (by omega)];rfl
theorem s_at {s:List UInt8}{i:Nat}{w:World}{PK:PKT}{K:VWP}(h:i < s.length) :
  DoX prog (mIx 9 (.string ⟨s.toArray⟩) (.int .i64 (i:Int))) w PK K=K (.int .u8 (s[i].toNat:Int)) w:=
 s_ix (c:=s[i]) Ym (Zp i) (by simp[h])
theorem OP (a b:UInt8):Lx.DQ [a,b]=if Lx.digit a < 0∨Lx.digit b < 0 then ([],3) else ([Lx.byte (Lx.digit a) (Lx.digit b)],0):=by
 by_cases h:Lx.digit a < 0∨Lx.digit b < 0
 ·rw[Yh h];exact rM (by rw[Lx.unhex,Yh h])
 ·rw[Yg h];exact wT (by rw[Lx.unhex,Yg h,Lx.unhex];rfl)
theorem TI (s:List UInt8)(a:Nat)(w:World)(hs:s.length≤1099511627776)(ha:a < s.length):Ret prog 76 #[cutV s a] w (fun v w'=>v=tokR (Lx.name s a)∧Below w.heap.size w w'):=by
 refine aO fun K hK=>Cc ?_;unfold lW iN dx cx;refine J8 s a (Own.start w) fun b1 w1 ho=>?_;refine gJ ho fun b w2 ho=>?_;have hw1:IntKind.wrap .i64 ((a:Int)+1)=((a+1:Nat):Int):=by rw[aB (by omega) (by omega)];omega
 simp only[CV ho 1 rfl,G7,F9 ho 1 rfl,rs,hw1];have hto:=Lx.Jg s (show a+1≤s.length by omega);have hto2:a+1≤Lx.run s (a+1):=by unfold Lx.run;omega
 refine aP ho (Rn s a (a+1) w2 hs (by omega)) ?_;rintro _ w3 rfl ho;simp only[G7,F9 ho 1 rfl,rs,hw1];generalize hT:Lx.run s (a+1)=tt at *;refine loop (fun vs w'=>∃(i:Nat) (v d:Value) (acc:List UInt8),vs=[d,v,.int .i64 i]∧a+1≤i∧i≤tt∧acc.length≤i∧Lx.fA (Lx.cut s (a+1) tt)=(Lx.fA (Lx.cut s i tt)).map (acc++·)∧Own w w' [BRow v acc,tokE b Lx.none_,cutE b1 s a])
  (fun vs _=>tt - n2 vs) ⟨a+1,_,_,[],rfl,by omega,hto2,by simp,by simp,ho.uG _ 1⟩ ?_
 rintro vs w4 ⟨i,v,d,acc,rfl,hi1,hi2,hacc,he,ho⟩ _;simp only[qH,gd,iN,dx,gfx,efx,cx];rw[oL];by_cases hlt:(i:Int) < (tt:Int)
 ·have hi3:i < tt:=by omega
  have hi4:i < s.length:=by omega
  simp only[hlt,Yj,i_t,vN,uL ho 2 rfl,s_at hi4];rw[Ep hi3 hto] at he;have e1:=u8d s[i] 35 35 rfl;refine join fun J hJ=>?_;have fin:∀(j:Nat) (c:UInt8) (n:Int) (d:Value) (w5:World),(c.toNat:Int)=n→i≤j→j < tt→Lx.fA (Lx.cut s (a+1) tt)=(Lx.fA (Lx.cut s (j+1) tt)).map (acc++c::·)→Own w w5 [BRow v acc,tokE b Lx.none_,cutE b1 s a]→J [d,.int .i64 j,.int .u8 n] w5:=by
   intro j c n d w5 hc hij hjt he ho;refine hJ _ _ fun _=>?_;simp only[qC,gd,iN,dx];refine Dq c hc ho (by omega) fun v' w6 ho=>?_;rw[qD,aB (by omega) (by omega)];refine bO ⟨j+1,v',_,acc++[c],rfl,by omega,by omega,by simp;omega,?_,ho⟩ (by simp[n2,RowKit.intOf];omega);rw[he]
   congr 1
   funext x;simp
  by_cases h35:s[i]=35
  ·simp only[rs,e1,Yk h35];rw[aB (by omega) (by omega)];by_cases hend:(tt:Int)≤(i:Int)+2
   ·simp only[hend,Yj,i_t];refine cF 1 ho rfl (dI 3 _) fun w' hb=>hK _ _ ⟨?_,hb⟩;have hn:Lx.fA (s[i]::Lx.cut s (i+1) tt)=none:=by
     have hl:=BO (s:=s) (i:=i+1) hto;cases hc:Lx.cut s (i+1) tt with
    |nil=>simp[Lx.fA,h35]
    |cons x t=>
      cases t with
     |nil=>simp[Lx.fA,h35]
     |cons y t=>rw[hc] at hl;simp at hl;omega
    rw[hn] at he;simp only[Lx.name,hT,he,abR]
   ·simp only[hend,Yi,i_f,rs,vN,uL ho 2 rfl];rw[aB (n:=(i:Int)+1) (by omega) (by omega),aB (n:=(i:Int)+3) (by omega) (by omega),JV (i:=i+1) (j:=i+3) (by simp) (by simp) (by omega) (by omega)];have hi5:i+1 < s.length:=by omega
    have hi6:i+2 < s.length:=by omega
    rw[show Lx.cut s (i+1) (i+3)=[s[i+1],s[i+2]] from U3 (i:=i+1) (by omega)];have hlist:s[i]::Lx.cut s (i+1) tt=s[i]::s[i+1]::s[i+2]::Lx.cut s (i+3) tt:=by
     rw[Ep (show i+1 < tt by omega) hto,Ep (show i+1+1 < tt by omega) hto]
    rw[hlist,Lx.fA,Yh h35] at he;have b1:=Lx.pP s[i+1];have b2:=Lx.pP s[i+2];refine aP ho (RI [s[i+1],s[i+2]] w4 (by simp)) ?_;rintro _ w5 rfl ho;have bad:(Lx.digit s[i+1] < 0∨Lx.digit s[i+2] < 0∨16*Lx.digit s[i+1]+Lx.digit s[i+2]=0)→Lx.name s a=Lx.refused 3:=by
     intro h;rw[Yh h] at he;simp only[Lx.name,hT,he,abR]
    rw[x_0,x_1,OP];by_cases hbad:Lx.digit s[i+1] < 0∨Lx.digit s[i+2] < 0
    ·rw[Yh hbad];simp only[rs,g_un,ne_eq,show ¬((3:Int)=0) by decide,Yz,Yj];refine cF 1 ho rfl (dI 3 _) fun w' hb=>hK _ _ ⟨?_,hb⟩;rw[bad (by rcases hbad with h|h<;>simp[h])]
    ·rw[Yg hbad];have hb0:=B3 (a:=Lx.digit s[i+1]) (b:=Lx.digit s[i+2]) (by omega) (by omega) (by omega) (by omega);simp only[rs,g_un,ne_eq,not_true,Yi];by_cases hz:16*Lx.digit s[i+1]+Lx.digit s[i+2]=0
     ·have hbz:Lx.byte (Lx.digit s[i+1]) (Lx.digit s[i+2])=0:=ZK.1 (by have:((0:UInt8).toNat:Int)=0:=rfl;omega);rw[hbz];simp only[rs,Yj];refine cF 1 ho rfl (dI 3 _) fun w' hb=>hK _ _ ⟨?_,hb⟩;rw[bad (.inr (.inr hz))]
     ·have hbz:¬([Lx.byte (Lx.digit s[i+1]) (Lx.digit s[i+2])]=[(0:UInt8)]):=by
       intro h
       injection h with h _
       rw[h] at hb0;exact hz (by rw[←hb0];rfl)
      rw[Yg (by omega)] at he;simp only[rs,hbz,Yi];rw[s_ix (c:=Lx.byte (Lx.digit s[i+1]) (Lx.digit s[i+2])) Ym (by omega) rfl];refine fin (i+2) _ _ _ _ rfl (by omega) (by omega) ?_ ho;rw[he,YW];rfl
  ·simp only[rs,e1,Yl h35];refine fin i s[i] _ _ _ rfl (by omega) hi3 ?_ ho;rw[he,Lx.KU h35,YW];rfl
 ·have hi3:i=tt:=by omega
  subst hi3;simp only[hlt,Yi,i_f,CV ho 2 rfl,DO 0 ho rfl];rw[RA,Lx.fA,Zv,YQ] at he;refine cF 1 ho rfl (GN s a 4 i acc 127 _) fun w' hb=>hK _ _ ⟨?_,hb⟩;simp only[Lx.name,hT,he]
end
section
open Eng Go.RowKit
theorem Hx (n:Int):IntKind.wrap .u8 n=n % 256:=by
 simp[IntKind.wrap,IntKind.signed,IntKind.bits]
theorem UR (c:UInt8):match Lx.escL c with
 |some b=>∃k:Nat,Lib.indexByte [110,114,116,98,102] c=(k:Int)∧k < 5∧Lx.cut [10,13,9,8,12] k (k+1)=[b]
 |none=>Lib.indexByte [110,114,116,98,102] c=-1:=by
 by_cases h1:c=110
 ·subst h1;exact⟨0,by decide,by decide,by decide⟩
 by_cases h2:c=114
 ·subst h2;exact⟨1,by decide,by decide,by decide⟩
 by_cases h3:c=116
 ·subst h3;exact⟨2,by decide,by decide,by decide⟩
 by_cases h4:c=98
 ·subst h4;exact⟨3,by decide,by decide,by decide⟩
 by_cases h5:c=102
 ·subst h5;exact⟨4,by decide,by decide,by decide⟩
 have e:Lx.escL c=none:=by simp[Lx.escL,h1,h2,h3,h4,h5]
 rw[e];have g:∀x:UInt8,c≠x→(x==c)=false:=fun x hx=>by simpa using fun h:x=c=>hx h.symm
 simp[Lib.indexByte,g _ h1,g _ h2,g _ h3,g _ h4,g _ h5]
theorem Uz {S:Nat→Prop}{w0 w:World}{L:List Ent}{n:Int}{PK PK2:PKT}{K:VWP}(c:UInt8)(h:(c.toNat:Int)=n)(ho:OwnS S w0 w L)
  (k:∀w',OwnS S w0 w' L→K (.string ⟨[c].toArray⟩) w') :
  DoX prog (aS 76 1 #[(0,.int .u8 n)]) w PK fun t w=>DoX prog (cH 76 9 t) w PK2 K:=by
 refine cI (fun b=>.slice (some ⟨b,0,none⟩) [c].length [c].length) (bZ [c]) 5 (fun w=>m_b1 w c h) ho fun b w' ho'=>?_;rw[EO (l:=[c]) Y3 YV Ym (ho'.sl 0 rfl 1 [c].length [c].length rfl)];exact k _ ho'.tail
theorem Mn (s:List UInt8)(a:Int)(i:Nat)(w:World)(hs:s.length≤1099511627776)(h:i < s.length):Ret prog 121 #[cutV s a,.int .i64 i] w (fun v w'=>v=.tuple #[.string ⟨(Lx.escF (s.drop i)).1.toArray⟩,.int .i64 ((i+(Lx.escF (s.drop i)).2:Nat):Int)]∧Below w.heap.size w w'):=by
 refine aO fun K hK=>wN ?_;unfold gR iN dx cx;refine J8 s a (Own.start w) fun b1 w1 ho=>?_;simp only[vN,uL ho 0 rfl,s_at h];refine c_eq (kH [110,114,116,98,102] s[i] w1) ?_;have hd:=Lx.drop_cons h;have hx:=UR s[i];cases hl:Lx.escL s[i] with
|some b=>
  rw[hl] at hx;obtain⟨k,hk,hk5,hc⟩:=hx;have hn:(0:Int)≤(k:Int):=by omega
  simp only[hk,rs,hn,Yj];rw[aB (n:=(k:Int)+1) (by omega) (by omega),aB (n:=(i:Int)+1) (by omega) (by omega)];rw[show (⟨#[10,13,9,8,12]⟩:ByteArray)=⟨([10,13,9,8,12]:List UInt8).toArray⟩ from rfl,JV (i:=k) (j:=k+1) rfl (by simp) (by omega) (by simp;omega),hc];exact hK _ _ ⟨by rw[hd,Lx.escF,hl];simp,ho.done⟩
|none=>
  rw[hl] at hx;simp only[hx,rs,show ¬((0:Int)≤-1) by decide,Yi,CV ho 0 rfl];refine aP ho (RY s a i w1 hs h) ?_;rintro _ w2 rfl ho;rw[x_0,x_1];cases he:Lx.eol s[i] with
 |true=>
   simp only[if_true,rs];refine hK _ _ ⟨?_,ho.done⟩;rw[hd,Lx.escF,hl];simp only[he,if_true,Lx.line,hd]
 |false=>
   simp only[ZJ,if_false,i_f];have hE:Lx.escF (s.drop i)=if 0 < (Lx.octF 3 0 (s.drop i)).2 then ([UInt8.ofNat (Lx.octF 3 0 (s.drop i)).1],(Lx.octF 3 0 (s.drop i)).2) else ([s[i]],1):=by
    rw[hd,Lx.escF,hl];simp only[he,ZJ,if_false]
   refine loop (fun vs w'=>∃(j n:Nat),vs=[.int .i64 n,.int .i64 j]∧i≤j∧j≤i+3∧j≤s.length∧n < 8 ^ (j - i)∧Lx.octF 3 0 (s.drop i)=((Lx.octF (3 - (j - i)) n (s.drop j)).1,(Lx.octF (3 - (j - i)) n (s.drop j)).2+(j - i))∧Own w w' [cutE b1 s a])
    (fun vs _=>i+3 - n1 vs) ⟨i,0,rfl,by omega,by omega,by omega,by simp,by simp,ho⟩ ?_
   rintro vs w3 ⟨j,n,rfl,hj1,hj2,hj3,hn,ho8,ho⟩ _;simp only[lF,gd,vN,uL ho 0 rfl,bF Ym,iN,dx,gtx,etx];have hn2:n < 512:=Y4 hn (Nat.pow_le_pow_right (by decide) (by omega:j - i≤3));have stop:Lx.octF (3 - (j - i)) n (s.drop j)=(n,0)→IfX (.bool (decide ((i:Int) < (j:Int)))) (DoX prog (cH 3 5 (.int .i64 n)) w3 (pk K) fun t73 w=>
     DoX prog (aS 76 1 #[(0,t73)]) w (pk K) fun t74 w=>
     DoX prog (cH 76 9 t74) w (pk K) fun t75 w=>
     K (.returned (.tuple #[t75,.int .i64 j])) w) (DoX prog (aT 9 (.string ⟨s.toArray⟩) (some (.int .i64 i)) (some (.int .i64 (IntKind.wrap .i64 ((i:Int)+1)))) none) w3 (pk K) fun t82 w=>
     K (.returned (.tuple #[t82,.int .i64 (IntKind.wrap .i64 ((i:Int)+1))])) w):=by
    intro h0;rw[h0] at ho8;by_cases hij:(i:Int) < (j:Int)
    ·simp only[hij,Yj,i_t];rw[c_8,Hx];refine Uz (UInt8.ofNat n) (by rw[aaJ];omega) ho fun w' ho=>?_;refine hK _ _ ⟨?_,ho.done⟩;rw[hE,ho8,Yh (by simp;omega)];simp only;rw[show i+(0+(j - i))=j by omega]
    ·simp only[hij,Yi,i_f];rw[aB (by omega) (by omega),JV (i:=i) (j:=i+1) rfl (by simp) (by omega) (by omega),H9 h];refine hK _ _ ⟨?_,ho.done⟩;rw[hE,ho8,Yg (by simp;omega)];simp
   by_cases hlt:(j:Int) < (s.length:Int)
   ·have hj4:j < s.length:=by omega
    have hdj:=Lx.drop_cons hj4;by_cases hj5:(j:Int) < (i:Int)+3
    ·obtain⟨m,hm⟩:∃m,3 - (j - i)=m+1:=⟨3 - (j - i) - 1,by omega⟩;have hw3:IntKind.wrap .i64 ((i:Int)+3)=(i:Int)+3:=aB (by omega) (by omega);rw[hm,hdj,Lx.octF] at ho8;by_cases h48:(48:Int)≤(s[j].toNat:Int)
     ·by_cases h55:(s[j].toNat:Int)≤55
      ·have hoct:Lx.oct s[j]=true:=by simp[Lx.oct];omega
       simp only[hlt,Yj,rs,hw3,hj5,vN,uL ho 0 rfl,s_at hj4,h48,h55];rw[cZ (by omega) (by omega),c_64 (by omega) (by omega)];simp only[rs];rw[aB (n:=8*(n:Int)) (by omega) (by omega),aB (by omega) (by omega),aB (by omega) (by omega)];rw[Yh hoct] at ho8;refine bO ⟨j+1,8*n+(s[j].toNat - 48),by simp;omega,by omega,by omega,by omega,?_,?_,ho⟩ (by simp[n1,RowKit.intOf];omega)
       ·rw[show j+1 - i=(j - i)+1 by omega,Nat.pow_succ];omega
       ·rw[ho8,show 3 - (j+1 - i)=m by omega];refine Zq rfl ?_;simp only;omega
      ·simp only[hlt,Yj,rs,hw3,hj5,vN,uL ho 0 rfl,s_at hj4,h48,h55,Yi,g_un];refine stop ?_;rw[hm,hdj,Lx.octF,Yg];simp[Lx.oct];omega
     ·simp only[hlt,Yj,rs,hw3,hj5,vN,uL ho 0 rfl,s_at hj4,h48,Yi,g_un];refine stop ?_;rw[hm,hdj,Lx.octF,Yg];simp[Lx.oct];omega
    ·have hw3:IntKind.wrap .i64 ((i:Int)+3)=(i:Int)+3:=aB (by omega) (by omega);simp only[hlt,Yj,rs,hw3,hj5,vN,uL ho 0 rfl,Yi,g_un];refine stop ?_;rw[show 3 - (j - i)=0 by omega,Lx.octF]
   ·simp only[hlt,Yi,rs,vN,uL ho 0 rfl,g_un];refine stop ?_;rw[show j=s.length by omega,YX];cases 3 - (s.length - i)<;>rfl
end
section
open Eng Go.RowKit
theorem Ms {w0 w:World}{L:List Ent}(i:Nat){b:Nat}{v:Value}{l:List UInt8}(ho:Own w0 w L)(hi:L[i]?=some (Bld b v l)):Ret prog 51 #[.pointer (some ⟨b,0,none⟩)] w (fun r w'=>r=.string ⟨l.toArray⟩∧Own w0 w' L):=by
 refine (pT (ho.at_ i hi)).mono ?_;rintro r w' ⟨e',⟨rfl,rfl⟩,ht⟩;have:=ho.turn i hi ht;have e:L.set i (Bld b v l)=L:=by
  obtain⟨h1,h2⟩:=Yy.1 hi;rw[←h2];exact List.set_getElem_self h1
 rw[e] at this;exact⟨rfl,this⟩
theorem VZ {w0 w:World}{L:List Ent}{x:Value}{f:Nat}{args:Array Value}(ho:Own w0 w L)(h:Ret prog f args w (fun v w'=>v=x∧Below w.heap.size w w')):Ret prog f args w (fun r w'=>r=x∧Own w0 w' L):=
 h.mono fun _ _ r=>⟨r.1,ho.grow r.2⟩
theorem HI {s:List UInt8}{i o:Nat}(h:i < s.length)(he:Lx.eol s[i]=true):Lx.cE 0 o (s.drop i)=(Lx.cE 0 o (s.drop (Lx.line s i))).map fun r=>(10::r.1,r.2+(Lx.line s i - i)):=by
 have hd:=Lx.drop_cons h;have h1:=Lx.Dn s[i] (s.drop (i+1));have h2:=Lx.Ej (s.drop i);rw[hd] at h2;have hl:Lx.line s i=i+Lx.dF (s[i]::s.drop (i+1)):=by rw[Lx.line,hd]
 rw[hd,Lx.cE,Yh he,Lx.EZ _ _ _ (by simp at h2 ⊢;omega),YW,Z6,hl,show i+1+(Lx.dF (s[i]::s.drop (i+1)) - 1)=i+Lx.dF (s[i]::s.drop (i+1)) by omega]
 congr 1
 funext r
 refine Zq rfl ?_;simp only[Function.comp];omega
theorem LN {s:List UInt8}{i o:Nat}(h:i+1 < s.length)(he:s[i]=92):Lx.cE 0 o (s.drop i)=(Lx.cE 0 o (s.drop (i+1+(Lx.escF (s.drop (i+1))).2))).map fun r=>((Lx.escF (s.drop (i+1))).1++r.1,r.2+1+(Lx.escF (s.drop (i+1))).2):=by
 have hd:=Lx.drop_cons (show i < s.length by omega);have hd2:=Lx.drop_cons h;have h2:=Lx.MP (s.drop (i+1));have hn:Lx.eol s[i]=false:=by rw[he];rfl
 rw[hd,Lx.cE,Yg (by rw[hn];decide),Yh he];rw[Yg (by rw[hd2];exact List.cons_ne_nil _ _),Lx.EZ _ _ _ h2,YW,Z6]
 congr 1
 funext r
 refine Zq rfl ?_;simp only[Function.comp];omega
theorem Ty (s:List UInt8)(a:Nat)(w:World)(hs:s.length≤1099511627776)(ha:a < s.length):Ret prog 77 #[cutV s a] w (fun v w'=>v=tokR (Lx.text s a)∧Below w.heap.size w w'):=by
 refine aO fun K hK=>Cf ?_;unfold lY iN dx;refine J8 s a (Own.start w) fun b1 w1 ho=>?_;refine gJ ho fun b w2 ho=>?_;refine cI (fun b=>.pointer (some ⟨b,0,none⟩)) [.pointer none,.slice none 0 0] 78 (fun _=>by kernel_rfl) ho fun b4 w3 ho=>?_;have ho:Own w w3 [Bld b4 (.slice none 0 0) [],tokE b Lx.none_,cutE b1 s a]:=OwnS.Eb (l:=[]) (.inl rfl) Hp ((ho.uG 5 1).swap);have hw1:IntKind.wrap .i64 ((a:Int)+1)=((a+1:Nat):Int):=by rw[aB (by omega) (by omega)];omega
 simp only[G7,F9 ho 2 rfl,rs,hw1];refine loop (fun vs w'=>∃(i o:Nat) (v d:Value) (acc:List UInt8),vs=[d,.int .i64 o,.int .i64 i]∧a+1≤i∧i≤s.length∧1≤o∧o≤i∧acc.length≤i∧Lx.cE 0 1 (s.drop (a+1))=(Lx.cE 0 o (s.drop i)).map (fun r=>(acc++r.1,r.2+(i - (a+1))))∧Own w w' [Bld b4 v acc,tokE b Lx.none_,cutE b1 s a])
  (fun vs _=>s.length - n2 vs) ⟨a+1,1,_,_,[],rfl,by omega,by omega,by omega,by omega,by simp,by simp,ho⟩ ?_
 rintro vs w4 ⟨i,o,v,d,acc,rfl,hi1,hi2,ho1,ho2,hacc,he,ho⟩ _;simp only[rQ,gd,vN,uL ho 2 rfl,bF Ym,iN,dx,cx];rw[oL];have bad:∀{w5},Own w w5 [Bld b4 v acc,tokE b Lx.none_,cutE b1 s a]→Lx.cE 0 o (s.drop i)=none→CallX prog 71 #[(.int .i64 4)] w5 (pk K) fun t42 w=>
   DoX prog (mExt t42 0) w (pk K) fun t43 w=>
   DoX prog (mExt t42 1) w (pk K) fun t44 w=>
   DoX prog (aC 58 (.pointer (some ⟨b,0,none⟩)) t43) w (pk K) fun _ w=>
   RetX prog [.cell (.pointer (some ⟨b,0,none⟩)) 58,.val t44] w K:=by
  intro w5 ho hn;rw[hn,abR] at he;exact cF 1 ho rfl (dI 4 _) fun w' hb=>hK _ _ ⟨by rw[Lx.text,he],hb⟩
 by_cases hlt:(i:Int) < (s.length:Int)
 ·have hi3:i < s.length:=by omega
  have hd:=Lx.drop_cons hi3;simp only[hlt,Yj,i_t,CV ho 2 rfl];refine aP ho (RY s a i w4 hs hi3) ?_;rintro _ w5 rfl ho;rw[x_0,x_1];cases hE:Lx.eol s[i] with
 |true=>
   simp only[if_true,i_t];have hlp:=Lx.Dn s[i] (s.drop (i+1));have hll:=Lx.Ej (s.drop i);have hL:Lx.line s i=i+Lx.dF (s.drop i):=rfl;rw[←hd] at hlp;rw[Yv] at hll;refine eB 0 ho rfl (gY (k:=10) (ho.at_ 0 rfl) (by omega) rfl (by omega)) ?_;rintro _ _ w6 ⟨rfl,v',rfl⟩ ho;refine bO ⟨Lx.line s i,o,v',_,acc++[10],rfl,by omega,by omega,ho1,by omega,by simp;omega,?_,ho⟩ (by simp[n2,RowKit.intOf];omega);rw[he,HI hi3 hE,YW]
   congr 1
   funext r
   refine Zq (by simp) ?_;simp only[Function.comp];omega
 |false=>
   simp only[ZJ,if_false,i_f];refine join fun J hJ=>?_;simp only[vN,uL ho 2 rfl,s_at hi3];have e1:=u8d s[i] 92 92 rfl;have e2:=u8d s[i] 40 40 rfl;have e3:=u8d s[i] 41 41 rfl;have hne:¬(Lx.eol s[i]=true):=by rw[hE];decide
   rw[hd,Lx.cE,Yg hne] at he;have hput:∀(o':Nat) (d:Value),1≤o'→o'≤i+1→Lx.cE 0 1 (s.drop (a+1))=(Lx.cE 0 o' (s.drop (i+1))).map (fun r=>(acc++s[i]::r.1,r.2+1+(i - (a+1))))→J [d,.int .i64 o',.int .i64 i] w5:=by
    intro o' d h1 h2 he;refine hJ _ _ fun _=>?_;have h0:¬((o':Int)=0):=by omega
    simp only[iS,gd,rs,h0,Yi,vN,uL ho 2 rfl,s_at hi3,iN,dx,cx];refine eB 0 ho rfl (kM (c:=s[i]) (ho.at_ 0 rfl) (by omega)) ?_;rintro _ _ w6 ⟨rfl,v',rfl⟩ ho;rw[aB (by omega) (by omega)];refine bO ⟨i+1,o',v',_,acc++[s[i]],rfl,by omega,by omega,h1,by omega,by simp;omega,?_,ho⟩ (by simp[n2,RowKit.intOf];omega);rw[he]
    congr 1
    funext r
    refine Zq (by simp) ?_;simp only;omega
   by_cases g1:s[i]=92
   ·simp only[rs,e1,Yk g1];rw[aB (by omega) (by omega)];simp only[vN,uL ho 2 rfl,bF Ym,rs];rw[Yh g1] at he;by_cases hend:(i:Int)+1=(s.length:Int)
    ·simp only[hend,Yj,i_t];refine bad ho ?_;rw[hd,Lx.cE,Yg hne,Yh g1,Yh (YP (by omega))]
    ·have hi4:i+1 < s.length:=by omega
     simp only[hend,Yi,i_f,CV ho 2 rfl,rs];rw[show (i:Int)+1=((i+1:Nat):Int) by omega];have hel:=Lx.MP (s.drop (i+1));rw[Yv] at hel;refine aP ho (Mn s a (i+1) w5 hs hi4) ?_;rintro _ w6 rfl ho;rw[x_0,x_1];have hxl:(Lx.escF (s.drop (i+1))).1.length≤1:=by
      rw[Lx.drop_cons hi4,Lx.escF];split
      ·simp
      ·split
       ·simp
       ·split<;>simp
     refine eB 0 ho rfl (cG (ho.at_ 0 rfl) (by omega)) ?_;rintro _ _ w7 ⟨_,v',rfl⟩ ho;refine bO ⟨i+1+(Lx.escF (s.drop (i+1))).2,o,v',_,acc++(Lx.escF (s.drop (i+1))).1,rfl,by omega,by omega,ho1,by omega,by simp;omega,?_,ho⟩ (by simp[n2,RowKit.intOf];omega);have:=LN (o:=o) hi4 g1;rw[hd,Lx.cE,Yg hne,Yh g1] at this;rw[he,this,YW]
     congr 1
     funext r
     refine Zq (by simp) ?_;simp only[Function.comp];omega
   rw[Yg g1] at he;simp only[rs,e1,Yl g1];by_cases g2:s[i]=40
   ·simp only[rs,e2,Yk g2];rw[aB (by omega) (by omega)];rw[Yh g2,YW] at he;exact hput (o+1) d (by omega) (by omega) he
   rw[Yg g2] at he;simp only[rs,e2,Yl g2];by_cases g3:s[i]=41
   ·simp only[rs,e3,Yk g3];rw[aB (by omega) (by omega)];rw[Yh g3] at he;by_cases g4:o≤1
    ·have g5:(o:Int) - 1=0:=by omega
     rw[Yh g4,Zv,YQ] at he;rw[g5];refine hJ _ _ fun _=>?_;simp only[iS,gd,rs,Yj,iN,dx,cx];refine NI (fun w'=>Own w w' [Bld b4 v acc,tokE b Lx.none_,cutE b1 s a]) ho.drew ?_;refine q_at _ (fun _ ho=>Wv ho 2 rfl) ?_;refine q_do (.int .i64 ((i:Int)+1)) (fun _=>by rw[EX,aB (by omega) (by omega)]) ?_;refine gX _ (fun _ ho=>Ms 0 ho rfl) ?_;refine gX (tokR (Lx.told 3 a ((i:Int)+1) acc 32767)) (fun w' ho=>VZ ho (GN s a 3 _ acc 32767 w')) ?_;refine q_do _ (fun _=>vZ) (q_do _ (fun _=>wV) ?_);intro w6 ho;refine cV 1 ho rfl fun w' ho=>hK _ _ ⟨?_,ho.done⟩;simp only[Lx.text,he];rw[show ((a+1+(1+(i - (a+1))):Nat):Int)=(i:Int)+1 by omega]
    ·rw[Yg g4,YW] at he;rw[show (o:Int) - 1=((o - 1:Nat):Int) by omega];exact hput (o - 1) d (by omega) (by omega) he
   rw[Yg g3,YW] at he;simp only[rs,e3,Yl g3];exact hput o d ho1 (by omega) he
 ·have hi3:i=s.length:=by omega
  simp only[hlt,Yi,i_f];refine bad ho ?_;rw[hi3,YX];rfl
end
section
open Eng Go.RowKit
def n3 (vs:List Value):Nat:=(RowKit.intOf (vs.getD 3 undef)).toNat
theorem hexS {w:World}{PK:PKT}{K:VWP}{a:Int}(c:Nat)(ha:0≤a)(ha2:a≤15):DoX prog (mBin .shl 3 (.int .i64 a) (.int .u64 4)) w PK K=K (.int .i64 (16*a)) w:=by
 rw[Vc (by omega)];have:=KZ ⟨a.toNat,by omega⟩ ⟨0,by omega⟩;have e:a*2 ^ (min (4:Int).toNat IntKind.i64.bits)=16*a:=by
  rw[show (2:Int) ^ (min (4:Int).toNat IntKind.i64.bits)=16 from rfl];omega
 rw[e,aB (by omega) (by omega)]
theorem MM (s:List UInt8)(a:Nat)(w:World)(hs:s.length≤1099511627776)(ha:a < s.length):Ret prog 75 #[cutV s a] w (fun v w'=>v=tokR (Lx.hex s a)∧Below w.heap.size w w'):=by
 refine aO fun K hK=>Dd ?_;unfold oP iN dx;refine J8 s a (Own.start w) fun b1 w1 ho=>?_;refine gJ ho fun b w2 ho=>?_;have hw1:IntKind.wrap .i64 ((a:Int)+1)=((a+1:Nat):Int):=by rw[aB (by omega) (by omega)];omega
 simp only[G7,F9 ho 1 rfl,rs,hw1]
 let ext (acc:List UInt8) (n:Nat) (r:(List UInt8×Nat) ⊕ Int):(List UInt8×Nat) ⊕ Int:=match r with|.inl r=>.inl (acc++r.1,r.2+n)|.inr e=>.inr e
 refine loop (fun vs w'=>∃(i:Nat) (h:Int) (v d:Value) (acc:List UInt8),vs=[d,v,.int .i64 h,.int .i64 i]∧a+1≤i∧i≤s.length∧-1≤h∧h≤15∧acc.length≤i∧Lx.hexF (-1) (s.drop (a+1))=ext acc (i - (a+1)) (Lx.hexF h (s.drop i))∧Own w w' [BRow v acc,tokE b Lx.none_,cutE b1 s a])
  (fun vs _=>s.length - n3 vs) ⟨a+1,-1,_,_,[],rfl,by omega,by omega,by omega,by omega,by simp,?_,ho.uG _ 1⟩ ?_
 ·cases Lx.hexF (-1) (s.drop (a+1))<;>simp[ext]
 rintro vs w4 ⟨i,h,v,d,acc,rfl,hi1,hi2,hh1,hh2,hacc,he,ho⟩ _;simp only[tJ,gd,vN,uL ho 2 rfl,bF Ym,iN,dx,cx];rw[oL];have bad:∀(e:Int) {w5},Own w w5 [BRow v acc,tokE b Lx.none_,cutE b1 s a]→Lx.hexF h (s.drop i)=.inr e→CallX prog 71 #[(.int .i64 e)] w5 (pk K) fun t42 w=>
   DoX prog (mExt t42 0) w (pk K) fun t43 w=>
   DoX prog (mExt t42 1) w (pk K) fun t44 w=>
   DoX prog (aC 58 (.pointer (some ⟨b,0,none⟩)) t43) w (pk K) fun _ w=>
   RetX prog [.cell (.pointer (some ⟨b,0,none⟩)) 58,.val t44] w K:=by
  intro e w5 ho hn;rw[hn] at he;exact cF 1 ho rfl (dI e _) fun w' hb=>hK _ _ ⟨by simp only[Lx.hex,he,ext],hb⟩
 by_cases hlt:(i:Int) < (s.length:Int)
 ·have hi3:i < s.length:=by omega
  have hd:=Lx.drop_cons hi3;simp only[hlt,Yj,i_t];refine join fun J hJ=>?_;simp only[vN,uL ho 2 rfl,s_at hi3];have e1:=u8d s[i] 62 62 rfl;have go:∀(h':Int) (v' d':Value) (acc':List UInt8) (w5:World),-1≤h'→h'≤15→acc'.length≤i+1→Lx.hexF (-1) (s.drop (a+1))=ext acc' (i+1 - (a+1)) (Lx.hexF h' (s.drop (i+1)))→Own w w5 [BRow v' acc',tokE b Lx.none_,cutE b1 s a]→J [d',v',.int .i64 h'] w5:=by
   intro h' v' d' acc' w5 h1 h2 h3 h4 ho;refine hJ _ _ fun _=>?_;simp only[tM,gd,rs,iN,dx];rw[aB (by omega) (by omega)];exact bO ⟨i+1,h',v',_,acc',rfl,by omega,by omega,h1,h2,h3,h4,ho⟩ (by simp[n3,RowKit.intOf];omega)
  rw[hd,Lx.hexF] at he;have hb0:=Lx.pP s[i];by_cases g1:s[i]=62
  ·simp only[rs,e1,Yk g1];rw[Yh g1] at he;refine join fun J3 hJ3=>?_;have fin:∀(v':Value) (acc':List UInt8) (w5:World),acc'=acc++(if 0≤h then [Lx.byte h 0] else [])→Own w w5 [BRow v' acc',tokE b Lx.none_,cutE b1 s a]→J3 [v'] w5:=by
    intro v' acc' w5 hacc' ho;refine hJ3 _ _ fun _=>?_;simp only[tI,gd,rs,CV ho 2 rfl,DO 0 ho rfl,iN,dx,cx];rw[aB (by omega) (by omega)];refine cF 1 ho rfl (GN s a 3 _ acc' 32767 _) fun w' hb=>hK _ _ ⟨?_,hb⟩;simp only[Lx.hex,he,ext];rw[hacc',show ((a+1+(1+(i - (a+1))):Nat):Int)=(i:Int)+1 by omega]
   by_cases g2:0≤h
   ·simp only[rs,g2,Yj];rw[hexS 0 g2 hh2,c_8,Hx];have hb:=B3 (a:=h) (b:=0) g2 hh2 (by omega) (by omega);refine Dq (Lx.byte h 0) (by omega) ho (by omega) fun v' w6 ho=>?_;exact fin _ _ _ (by rw[Yh g2]) ho
   ·simp only[rs,g2,Yi];exact fin _ _ _ (by rw[Yg g2,YQ]) ho
  rw[Yg g1] at he;simp only[rs,e1,Yl g1];refine c_eq (Ih s[i] w4) ?_;refine c_eq (Hk s[i] w4) ?_;cases hw:Oc.rX s[i] with
 |true=>
   simp only[rs];rw[Yh hw] at he;refine go h v _ acc _ hh1 hh2 (by omega) ?_ ho;rw[he];cases Lx.hexF h (s.drop (i+1)) with
  |inl r=>simp only[ext];rw[show r.2+1+(i - (a+1))=r.2+(i+1 - (a+1)) by omega]
  |inr e=>rfl
 |false=>
   rw[Yg (by rw[hw];decide)] at he;by_cases g2:Lx.digit s[i] < 0
   ·simp only[rs,g2,Yj];refine bad 3 ho ?_;rw[hd,Lx.hexF,Yg g1,Yg (by rw[hw];decide),Yh g2]
   rw[Yg g2] at he;by_cases g3:h < 0
   ·simp only[rs,g2,g3,Yi,Yj];rw[Yh g3] at he;refine go _ v _ acc _ hb0.1 hb0.2 (by omega) ?_ ho;rw[he];cases Lx.hexF (Lx.digit s[i]) (s.drop (i+1)) with
   |inl r=>simp only[ext];rw[show r.2+1+(i - (a+1))=r.2+(i+1 - (a+1)) by omega]
   |inr e=>rfl
   ·simp only[rs,g2,g3,Yi];rw[Yg g3] at he;have hor:=WD (a:=h) (b:=Lx.digit s[i]) (by omega) (by omega) (by omega) (by omega);rw[Vc (by omega),b_or,hor,c_8,cZ (by omega) (by omega)];refine Dq (Lx.byte h (Lx.digit s[i])) (B3 (by omega) (by omega) (by omega) (by omega)) ho (by omega) fun v' w6 ho=>?_;refine go (-1) v' _ _ _ (by omega) (by omega) (by simp;omega) ?_ ho;rw[he];cases Lx.hexF (-1) (s.drop (i+1)) with
   |inl r=>simp only[ext,YD,acO];rw[show r.2+1+(i - (a+1))=r.2+(i+1 - (a+1)) by omega]
   |inr e=>rfl
 ·have hi3:i=s.length:=by omega
  simp only[hlt,Yi,i_f];refine bad 4 ho ?_;rw[hi3,YX];rfl
end
section
open Eng Go.RowKit
theorem FG (s cs:List UInt8)(w:World)(hcs:cs.length < 4294967281)(ha:cs.all (fun c=>decide (c.toNat < 128))=true):Ret prog 171 #[.string ⟨s.toArray⟩,.string ⟨cs.toArray⟩] w
  (fun v w'=>v=.string ⟨(s.dropWhile (cs.contains ·)).toArray⟩∧Below w.heap.size w w'):=
 Calls.mono (Any.strings_TrimLeft_laid Tryz.Vz (by kernel_rfl) ⟨s.toArray⟩ ⟨cs.toArray⟩ w (by rw[bS];exact hcs)
  (fun j b hj=>by
   have:=YI.1 ha b (Zh hj);simpa using this)) (by rintro e w' ⟨rfl,h⟩;exact retK ⟨rfl,h⟩)
theorem RM {p:UInt8→Bool}:∀l:List UInt8,l.takeWhile p=l↔∀x∈l,p x=true
|[]=>by simp
|c::t=>by
  have ih:=RM (p:=p) t;cases h:p c with
 |true=>rw[List.takeWhile_cons_of_pos h];simp[ih,h]
 |false=>rw[List.takeWhile_cons_of_neg (by simp[h])];simp[h]
theorem Vx {p:UInt8→Bool}(l:List UInt8):(l.dropWhile p).length≤l.length:=(abJ p).length_le
theorem Ky (s:List UInt8)(c:UInt8)(w:World):Ret prog 173 #[.string ⟨s.toArray⟩,.string ⟨#[c]⟩] w (fun v w'=>v=.bool (s.contains c)∧w=w'):=by
 refine Calls.mono (Tryz.strings_Contains_one ⟨s.toArray⟩ c w) ?_;rintro e w' ⟨rfl,rfl⟩;refine retK ⟨?_,rfl⟩;have e:decide (0≤Lib.indexByte s c)=s.contains c:=by
  rcases GC c s with ⟨h1,h2,_⟩|⟨i,h1,h2,h3,_⟩
  ·rw[h1];have hn:s.contains c=false:=by
    rw[List.contains_eq_any_beq,List.any_eq_false];intro x hx;have:=(RM s).1 h2 x hx;intro h;rw[beq_iff_eq] at h;subst h;simp at this
   rw[hn];rfl
  ·rw[h1];have hy:s.contains c=true:=by
    by_cases h:c∈s
    ·simpa using h
    ·exfalso;have h4:s.takeWhile (fun x=>x != c)=s:=(RM s).2 fun x hx=>by
      have:x≠c:=fun e=>h (e▸hx);simpa using this
     rw[h4] at h3;have:=congrArg List.length h3;simp at this;omega
   rw[hy];simp
 rw[←e]
theorem RT (c:UInt8):([43,45]:List UInt8).contains c=Lx.sgn c:=by
 simp[Lx.sgn]
theorem Vk (c:UInt8):([48,49,50,51,52,53,54,55,56,57]:List UInt8).contains c=Lx.dig c:=by
 have:∀n:Fin 256,([48,49,50,51,52,53,54,55,56,57]:List UInt8).contains (UInt8.ofNat n.val)=(decide (48≤n.val)&&decide (n.val≤57)):=by decide +kernel
 have h:=this ⟨c.toNat,c.toNat_lt⟩;simpa[Lx.dig] using h
theorem CY (c:UInt8)(h:Lx.sgn c=true):Lx.dig c=false:=by
 simp only[Lx.sgn,ZB,Yx] at h;rcases h with rfl|rfl<;>rfl
theorem Pm (s:List UInt8):(decide (s.length - (s.dropWhile Lx.sgn).length≤1)&&(decide (s.dropWhile Lx.sgn≠[])&&(s.dropWhile Lx.sgn).all Lx.dig))=Lx.dA s:=by
 cases s with
|nil=>rfl
|cons c t=>
  cases hc:Lx.sgn c with
 |false=>
   have h1:(c::t).dropWhile Lx.sgn=c::t:=by rw[abS (by simp[hc])]
   have h2:Lx.bH (c::t)=c::t:=by simp[Lx.bH,hc]
   rw[h1,Lx.dA,h2];simp
 |true=>
   have h1:(c::t).dropWhile Lx.sgn=t.dropWhile Lx.sgn:=acP hc;have h2:Lx.bH (c::t)=t:=by simp[Lx.bH,hc]
   rw[h1,Lx.dA,h2];cases t with
  |nil=>rfl
  |cons d u=>
    cases hd:Lx.sgn d with
   |false=>
     have h3:(d::u).dropWhile Lx.sgn=d::u:=by rw[abS (by simp[hd])]
     rw[h3];simp
   |true=>
     have h3:(d::u).dropWhile Lx.sgn=u.dropWhile Lx.sgn:=acP hd;have h4:=Vx (p:=Lx.sgn) u;have h5:¬((c::d::u).length - ((d::u).dropWhile Lx.sgn).length≤1):=by
      rw[h3];simp only[Yr];omega
     rw[Yl h5];simp[CY d hd]
theorem FB {s:List UInt8}(h:Lx.dA s=true):s.dropWhile Lx.sgn=Lx.bH s:=by
 cases s with
|nil=>rfl
|cons c t=>
  cases hc:Lx.sgn c with
 |false=>rw[abS (by simp[hc])];simp[Lx.bH,hc]
 |true=>
   rw[acP hc];have h2:Lx.bH (c::t)=t:=by simp[Lx.bH,hc]
   rw[Lx.dA,h2] at h;rw[h2];cases t with
  |nil=>rfl
  |cons d u=>
    cases hd:Lx.sgn d with
   |false=>rw[abS (by simp[hd])]
   |true=>simp[CY d hd] at h
theorem Rs (s:List UInt8)(w:World)(hs:s.length≤1099511627776):Ret prog 122 #[.string ⟨s.toArray⟩] w (fun v w'=>v=.int .i64 (if Lx.dA s then 1 else if s.contains 46 then 2 else 0)∧Below w.heap.size w w'):=by
 refine aO fun K hK=>IK ?_;unfold HW iN dx gtx ctx etx cx;refine aP (Own.start w) (FG s [43,45] w (by decide) rfl) ?_;rintro _ w1 rfl ho;have hds:s.dropWhile (fun x=>([43,45]:List UInt8).contains x)=s.dropWhile Lx.sgn:=by
  congr 1;funext c;exact RT c
 rw[hds,bF Ym];rw[bF Ym];have hle:=Vx (p:=Lx.sgn) s;have hcf:=Pm s;have tl:∀w2,Own w w2 []→Lx.dA s=false→CallX prog 173 #[.string ⟨s.toArray⟩,(.string ⟨#[46]⟩)] w2 (pk K) fun t22 w=>
   IfX t22 (K (.returned (.int .i64 2)) w) (K (.returned (.int .i64 0)) w):=by
  intro w2 ho hi;refine c_eq (Ky s 46 w2) ?_;cases hc:s.contains 46 with
 |true=>simp only[rs];exact hK _ _ ⟨by rw[Yg (by rw[hi];decide),Yh hc],ho.done⟩
 |false=>simp only[rs];exact hK _ _ ⟨by rw[Yg (by rw[hi];decide),Yg (by rw[hc];decide)],ho.done⟩
 simp only[rs];rw[aB (by omega) (by omega)];by_cases h1:(s.length:Int) - ((s.dropWhile Lx.sgn).length:Int)≤1
 ·have h1':s.length - (s.dropWhile Lx.sgn).length≤1:=by omega
  rw[Yk h1'] at hcf;simp only[h1,Yj,rs];by_cases h2:s.dropWhile Lx.sgn≠[]
  ·rw[Yk h2] at hcf;rw[show (⟨#[]⟩:ByteArray)=⟨([]:List UInt8).toArray⟩ from rfl];simp only[rs,Yk h2];refine aP ho (OD (s.dropWhile Lx.sgn) [48,49,50,51,52,53,54,55,56,57] w1 (by omega) (by decide) rfl) ?_;rintro _ w2 rfl ho;have ht:decide (Lib.trimS (s.dropWhile Lx.sgn) [48,49,50,51,52,53,54,55,56,57]=[])=(s.dropWhile Lx.sgn).all Lx.dig:=by
    have hp:Fx.cT=Lx.dig:=by funext c;rw[←Vk c,←DJ c]
    have this:=L6 (s.dropWhile Lx.sgn);rw[hp] at this;cases hall:(s.dropWhile Lx.sgn).all Lx.dig with
   |true=>rw[Yk (this.2 hall)]
   |false=>rw[Yl (fun e=>by rw[this.1 e] at hall;cases hall)]
   simp only[rs,ht];rw[Y2,Y2] at hcf;rw[hcf];cases hi:Lx.dA s with
  |true=>simp only[i_t];exact hK _ _ ⟨by rw[Yh hi],ho.done⟩
  |false=>simp only[i_f];exact tl w2 ho hi
  ·rw[Yl h2,Y8,ZL] at hcf;rw[show (⟨#[]⟩:ByteArray)=⟨([]:List UInt8).toArray⟩ from rfl];simp only[rs,Yl h2,g_un];exact tl w1 ho hcf.symm
 ·have h1':¬(s.length - (s.dropWhile Lx.sgn).length≤1):=by omega
  rw[Yl h1',Y8] at hcf;simp only[h1,Yi,rs,g_un];exact tl w1 ho hcf.symm
theorem KB (c:UInt8)(l:List UInt8)(n:Nat):Lx.val n (l++[c])=10*Lx.val n l+(c.toNat - 48):=by
 unfold Lx.val;rw[List.foldl_append,ZU,abI]
theorem PD (s:List UInt8)(w:World)(hs:s.length≤1099511627776)(hf:Lx.dA s=true):Ret prog 123 #[.string ⟨s.toArray⟩] w (fun v w'=>v=pair (Lx.whole s)∧Below w.heap.size w w'):=by
 refine aO fun K hK=>II ?_;unfold C6 iN dx cx;refine aP (Own.start w) (FG s [43,45] w (by decide) rfl) ?_;rintro _ w1 rfl ho;have hds:s.dropWhile (fun x=>([43,45]:List UInt8).contains x)=Lx.bH s:=by
  rw[←FB hf];congr 1;funext c;exact RT c
 rw[hds];have hall:(Lx.bH s).all Lx.dig=true:=by
  rw[Lx.dA,Ys] at hf;exact hf.2
 have hne:s≠[]:=by rintro rfl;simp[Lx.dA,Lx.bH] at hf
 have hlen:(Lx.bH s).length≤s.length:=by rw[←FB hf];exact Vx s
 refine MK Ym ho fun b w2 ho=>?_;refine loop (fun vs w'=>∃(i:Nat),vs=[.int .i64 ((min (Lx.val 0 ((Lx.bH s).take i)) 2147483648:Nat):Int)]∧i≤(Lx.bH s).length∧Own w w' [.obj b (.stringIter ⟨(Lx.bH s).toArray⟩ i)])
  (fun _ w'=>match w'.heap[b]? with|some (.stringIter _ i)=>(Lx.bH s).length - i|_=>0) ⟨0,rfl,by omega,ho⟩ ?_
 rintro vs w3 ⟨i,rfl,hi,ho⟩ _;simp only[DH,gd,iN,dx];by_cases hlt:i < (Lx.bH s).length
 ·have hdig:=YI.1 hall _ (YH hlt);have hd2:48≤(Lx.bH s)[i].toNat∧(Lx.bH s)[i].toNat≤57:=by simpa[Lx.dig] using hdig
  have h0:w3.heap[b]?=some (.stringIter ⟨(Lx.bH s).toArray⟩ i):=ho.at_ 0 rfl;refine R7 0 ho rfl (YB hlt) (by omega) fun w4 ho=>?_;have h1:w4.heap[b]?=some (.stringIter ⟨(Lx.bH s).toArray⟩ (i+1)):=ho.at_ 0 rfl;simp only[ex,i_t,rs];rw[aB (by omega) (by omega),Is (by omega) (by omega),F8 (show (Tryz.prog.underlying 21).isSome=true by kernel_rfl) Z5,aB (n:=((Lx.bH s)[i].toNat:Int) - 48) (by omega) (by omega)];simp only[rs];rw[aB (by omega) (by omega),Wn];have e:min (10*((min (Lx.val 0 ((Lx.bH s).take i)) 2147483648:Nat):Int)+(((Lx.bH s)[i].toNat:Int) - 48)) 2147483648=((min (Lx.val 0 ((Lx.bH s).take (i+1))) 2147483648:Nat):Int):=by
   rw[YL hlt,KB];omega
  rw[e];exact bO ⟨i+1,rfl,by omega,ho⟩ (by simp only[h0,h1];omega)
 ·rw[E9 0 ho rfl (by omega)];have hi2:i=(Lx.bH s).length:=by omega
  simp only[ex,i_f,rs,hi2,Ze];by_cases hbig:2147483647 < Lx.val 0 (Lx.bH s)
  ·have h1:(2147483647:Int) < ((min (Lx.val 0 (Lx.bH s)) 2147483648:Nat):Int):=by omega
   simp only[h1,Yj,i_t];exact hK _ _ ⟨by rw[Lx.whole,Yh hbig],ho.done⟩
  ·have h1:¬(2147483647:Int) < ((min (Lx.val 0 (Lx.bH s)) 2147483648:Nat):Int):=by omega
   simp only[h1,Yi,i_f];refine join fun J hJ=>?_;obtain⟨c,t,rfl⟩:∃c t,s=c::t:=by cases s with|nil=>exact absurd rfl hne|cons c t=>exact⟨c,t,rfl⟩
   rw[s_ix (c:=c) Ym (by omega) rfl];have e1:=u8d c 45 45 rfl;rw[YM (by omega)];by_cases h45:c=45
   ·simp only[rs,e1,Yk h45];refine hJ _ _ fun _=>?_;simp only[xN,gd,iN];rw[aB (by omega) (by omega)];exact hK _ _ ⟨by rw[Lx.whole,Yg hbig,Yh (by rw[h45];rfl)],ho.done⟩
   ·simp only[rs,e1,Yl h45];refine hJ _ _ fun _=>?_;simp only[xN,gd,iN];exact hK _ _ ⟨by rw[Lx.whole,Yg hbig,Yg (by simpa using h45)],ho.done⟩
theorem Sx (s:List UInt8)(a:Nat)(w:World)(hs:s.length≤1099511627776)(ha:a≤s.length):Ret prog 78 #[cutV s a] w (fun v w'=>v=tokR (Lx.word s a)∧Below w.heap.size w w'):=by
 refine aO fun K hK=>Ch ?_;unfold lS iN dx cx;refine J8 s a (Own.start w) fun b1 w1 ho=>?_;refine gJ ho fun b w2 ho=>?_;simp only[CV ho 1 rfl,G7,F9 ho 1 rfl];refine aP ho (Rn s a a w2 hs ha) ?_;rintro _ w3 rfl ho;have hto:=Lx.Jg s ha;have hto2:a≤Lx.run s a:=by unfold Lx.run;omega
 simp only[vN,G7,F9 ho 1 rfl,uL ho 1 rfl];rw[JV rfl rfl hto2 hto];have hcl:(Lx.cut s a (Lx.run s a)).length≤s.length:=by rw[BO hto];omega
 have hW:Lx.word s a=Lx.rY (Lx.cut s a (Lx.run s a)) a (Lx.run s a):=rfl;generalize hT:Lx.cut s a (Lx.run s a)=t at *;generalize Lx.run s a=r at *;refine join fun J hJ=>?_;refine aP ho (Rs t w3 (by omega)) ?_;rintro _ w4 rfl ho;have fin:∀w5 n,Own w w5 [tokE b Lx.none_,cutE b1 s a]→Lx.rY t a r=Lx.told 5 a r t 127→J [.int .i64 n] w5:=by
  intro w5 n ho he;refine hJ _ _ fun _=>?_;simp only[rH,CV ho 1 rfl,iN,dx,cx];exact cF 0 ho rfl (GN s a 5 r t 127 _) fun w' hb=>hK _ _ ⟨by rw[hW,he],hb⟩
 by_cases hi:Lx.dA t=true
 ·rw[Yh hi];simp only[rs,Yj];refine aP ho (PD t w4 (by omega) hi) ?_;rintro _ w5 rfl ho;simp only[pair,ex,rs];by_cases he:(Lx.whole t).2≠0
  ·simp only[Yk he,i_t];exact cF 0 ho rfl (dI _ _) fun w' hb=>hK _ _ ⟨by rw[hW,Lx.rY,Yh hi,Yh he],hb⟩
  ·simp only[Yl he,i_f,G7,F9 ho 1 rfl,Uj];exact cV 0 ho rfl fun w' ho=>hK _ _ ⟨by rw[hW,Lx.rY,Yh hi,Yg he],ho.done⟩
 rw[Yg hi];by_cases hp:t.contains 46=true
 ·rw[Yh hp];simp only[rs,Yj,show ¬((2:Int)=1) by decide,Yi];refine aP ho (Qw t w4 (by omega)) ?_;rintro _ w5 rfl ho;simp only[pair,ex,rs];by_cases he:(Fx.read t).2=0
  ·simp only[Yk he,i_t,G7,F9 ho 1 rfl,Uj];exact cV 0 ho rfl fun w' ho=>hK _ _ ⟨by rw[hW,Lx.rY,Yg hi,Yh ⟨hp,he⟩],ho.done⟩
  simp only[Yl he,i_f];by_cases he2:(Fx.read t).2=2
  ·simp only[he2,Yj,i_t];exact cF 0 ho rfl (dI _ _) fun w' hb=>hK _ _ ⟨by rw[hW,Lx.rY,Yg hi,Yg (fun h=>he h.2),Yh ⟨hp,he2⟩],hb⟩
  ·simp only[he2,Yi,i_f];exact fin _ _ ho (by rw[Lx.rY,Yg hi,Yg (fun h=>he h.2),Yg (fun h=>he2 h.2)])
 ·rw[Yg hp];simp only[rs,show ¬((0:Int)=1) by decide,show ¬((0:Int)=2) by decide,Yi];exact fin _ _ ho (by rw[Lx.rY,Yg hi,Yg (fun h=>hp h.1),Yg (fun h=>hp h.1)])
end
end Go.Proofs.YtkejpieaafeblaaGreatDoor
