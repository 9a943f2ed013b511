/- Parts of the proof. -/
import Derived.Test.YtkghomgfocpgeaaGreatDoorRows
import Derived.Test.YtkghomgfocpgeaaGreatDoorMmniofnla
set_option linter.all false
set_option maxRecDepth 20000
open Go.Proofs.Tryz
open Go.Proofs.Tryz renaming prog->ah
open Option renaming some->ax,none->aw
open Bool renaming true->av,false->au
open Go renaming Value->aq,World->ao
open Decidable renaming decide->ai
namespace Go.Proofs.YtkghomgfocpgeaaGreatDoor
variable{K:VWP}{M:Eng.Mem}{PK:PKT}{S:Nat->Prop}{W w w0:ao}{above:List UInt8}{b cap i m most sz:Nat}{colors:Int}{cs:List aq}{e:Eng.Ent}{q:Bool}{r t0 t1 v v2 va:aq}{u:FrameMode}{t0 t1 t2 t3 t4:aq}{k0:Eng.KT}
section
open Eng
def vL(t0 w)(K:KT):=nz f135 1 [] [] [] (zg [0] [t0]) w K
theorem DQ:vL t0 w k0->Calls ah 135 #[t0] w k0:=cw func135
def qM(t0 w)(K:KT):=nz f87 1 [] [] [] (zg [0] [t0]) w K
theorem yU:qM t0 w k0->Calls ah 87 #[t0] w k0:=cw func87
def vR(t0 w)(K:KT):=nz f208 1 [] [] [] (zg [0] [t0]) w K
theorem Dd:vR t0 w k0->Calls ah 208 #[t0] w k0:=cw func208
def qQ(t0 t1 t2 w)(K:KT):=nz f175 1 [] [] [] (zg [0,1,2] [t0,t1,t2]) w K
theorem Ag:qQ t0 t1 t2 w k0->Calls ah 175 #[t0,t1,t2] w k0:=cw func175
def yJ(t0 t1 w)(K:KT):=nz f174 1 [] [] [] (zg [0,1] [t0,t1]) w K
theorem Ek:yJ t0 t1 w k0->Calls ah 174 #[t0,t1] w k0:=cw func174
def vM(t0 t1 t2 t3 t4 w)(K:KT):=nz f136 1 [] [] [] (zg [0,1,2,3,4] [t0,t1,t2,t3,t4]) w K
theorem B2:vM t0 t1 t2 t3 t4 w k0->Calls ah 136 #[t0,t1,t2,t3,t4] w k0:=cw func136
def kJ(f g c d h i e j a b w)(A B:JT)(K:KT):=
 bnx .lss 3 b c w K λk w=>IfX k (zp w (λz=>QDo ah z (gS .add 3 e d) λl=>QDo ah z (gS .add 3 l b) λm=>QDo ah z (mIx 9 f m) λn=>QDo ah z (mFA 73 g 1) λo=>QDo ah z (aG 3 o) λp=>Eu ah z 136 #[j,h,a,b,p] λq=>QDo ah z (gS .add 5 n q) λr=>
 ∀w,z w ->
 DoX ah (bJ 70 1 #[(0,r)]) w (ay 9 (pk K)) λs w=>DoX ah (mB .append #[70,70] 70 #[au,au] #[a,s]) w (ay 9 (pk K)) λt w=>bnx .add 3 b (iN 1) w K λu w=>B [t,u] w)) (apx 70 i a w K λv w=>bnx .add 3 c d w K λx w=>bnx .add 3 e x w K λy w=>A [a,v,y] w)
def jU(t1 t2 t6 t7 t8 t9 t10 t11 w)(a:JT)(K:KT):=nz f93 60159 [a] [nh 29 [8,9,10],(47,[12,13],λs v j w f=>kJ (s 1) (s 2) (s 6) (s 7) (s 8) (s 9) (s 10) (s 11) (vg v 0) (vg v 1) w (f 1) (f 0) K)] [] (zg [1,2,6,7,8,9,10,11] [t1,t2,t6,t7,t8,t9,t10,t11]) w K
def jT(t1 t2 t6 t7 t8 t9 t10 w)(a:JT)(K:KT):=nz f93 2815 [a] [nh 29 [8,9,10],(38,[11],λs v j w f=>jU (s 1) (s 2) (s 6) (s 7) (s 8) (s 9) (s 10) (vg v 0) w (f 0) K)] [] (zg [1,2,6,7,8,9,10] [t1,t2,t6,t7,t8,t9,t10]) w K
def kM(t1 t2 t6 t7 w)(K:KT):=nz f93 127 [] [(29,[8,9,10],λs v j w f=>jT (s 1) (s 2) (s 6) (s 7) (vg v 0) (vg v 1) (vg v 2) w (f 0) K)] [] (zg [1,2,6,7] [t1,t2,t6,t7]) w K
def oB(t0 t1 w)(K:KT):=nz f93 1 [] [(20,[7],λs v j w f=>kM (s 1) (s 2) (s 6) (vg v 0) w K)] [] (zg [0,1] [t0,t1]) w K
theorem wX:oB t0 t1 w k0->Calls ah 93 #[t0,t1] w k0:=cz [(10,[7]),(19,[11])] [(14,[8,9,10]),(23,[12,13])] func93
end
section
open Eng Go.RowKit
structure Pm where
 p:Int
 c:Int
 n:Int
def pmC (x:Pm):List Value:=[ad x.p,ad x.c,ad x.n]
def pmV (x:Pm):Value:=.agg (pmC x).toArray
abbrev pmE (b:Nat)(x:Pm):Ent:=.cells b (pmC x) 73
theorem ME {x:Pm}:∀u∈pmC x,u.oneCell'=true:=by
 intro u hu;simp only[pmC,avB,awS,or_false] at hu;rcases hu with rfl|rfl|rfl<;>rfl
theorem F3:By ah 73=ax 3:=krx
theorem szPm:(Tryz.prog.info? 73).map (·.size)=ax 3:=krx
theorem afI:uM ah 73 0=ax 0:=krx
theorem Oq:uM ah 73 1=ax 1:=krx
theorem Ur:uM ah 73 2=ax 2:=krx
def Pm.known (x:Pm):Prop:=x.p=1∨x.p=2∨(10<=x.p∧x.p<=15)
def Pm.ok (x:Pm):Prop:=x.known∧1<=x.c∧1<=x.n∧x.c<=8192∧x.c*x.n<=8192
instance (x:Pm):Decidable x.known:=by unfold Pm.known;infer_instance
instance (x:Pm):Decidable x.ok:=by unfold Pm.ok;infer_instance
theorem Pm.n_le {x:Pm}(h:x.ok):x.n<=8192:=by
 obtain⟨_,a,b,_,d⟩:=h;have:1*x.n<=x.c*x.n:=Int.mul_le_mul_of_nonneg_right a om;omega
theorem Pm.mul_pos {x:Pm}(h:x.ok):1<=x.c*x.n:=by
 obtain⟨_,a,b,_,d⟩:=h;have:1*1<=x.c*x.n:=Int.mul_le_mul a b om om;omega
section
variable {w:ao}{PK:PKT}{K:VWP}{S:Nat->Prop}{w0:ao}{L:List Ent}
theorem GY (x:Pm)(a:dQ S w0 w L)(k:∀b w',dQ S w0 w' (pmE b x::L)->K (af b 0) w'):DoX ah (AS 73 (pmV x)) w PK K:=
 bB (λb=>af b 0) (pmC x) 73 (λ_=>by kernel_rfl) a k
theorem Ij (a:dQ S w0 w L)(j:Nat){x:Pm}(hi:L[j]?=ax (pmE b x)):DoX ah (aG 73 (af b 0)) w PK K=K (pmV x) w:=AT (a.agg j hi F3)
theorem He (a:dQ S w0 w L)(j:Nat){x:Pm}(hi:L[j]?=ax (pmE b x)):DoX ah (aG 3 (af b (0+0))) w PK K=K (ad x.p) w:=aH aW (a.cell j hi 0 rfl)
theorem pm_1 (a:dQ S w0 w L)(j:Nat){x:Pm}(hi:L[j]?=ax (pmE b x)):DoX ah (aG 3 (af b (0+1))) w PK K=K (ad x.c) w:=aH aW (a.cell j hi 1 rfl)
theorem pm_2 (a:dQ S w0 w L)(j:Nat){x:Pm}(hi:L[j]?=ax (pmE b x)):DoX ah (aG 3 (af b (0+2))) w PK K=K (ad x.n) w:=aH aW (a.cell j hi 2 rfl)
theorem Hr {off:Nat}:DoX ah (mFA 73 (af b off) 0) w PK K=K (af b (off+0)) w:=aQ afI
theorem fpm1 {off:Nat}:DoX ah (mFA 73 (af b off) 1) w PK K=K (af b (off+1)) w:=aQ Oq
theorem fpm2 {off:Nat}:DoX ah (mFA 73 (af b off) 2) w PK K=K (af b (off+2)) w:=aQ Ur
end
theorem OT {x:Pm}(h:(pmE b x).is W):(aG 3 (af b (0+1))).run ah W=.ok (.value (ad x.c)) W:=aB aW (aJ (T:=73) (cs:=pmC x) h rfl)
theorem WN {x:Pm}(h:(pmE b x).is W):(aG 3 (af b (0+2))).run ah W=.ok (.value (ad x.n)) W:=aB aW (aJ (T:=73) (cs:=pmC x) h rfl)
theorem Pk (x:Pm)(w:ao):Ret ah 110 #[pmV x] w (λv w'=>v=.bool (decide x.ok)∧Below w.heap.size w w'):=by
 refine aL λK o=>JS ?_;unfold Gm nz;refine GY x (Own.start w) λb q d=>?_;rw[Hr,He d 0 rfl];have no:∀{W:ao},¬x.ok->Below w.heap.size w W->K (.returned (.bool au)) W:=λh hw=>o _ _ ⟨by rw[auQ h],hw⟩;have rest:x.known->zp q (λa=>
   QDo ah a (mFA 73 (af b 0) 1) λt24=>
   QDo ah a (aG 3 t24) λt25=>
   QDo ah a (gS .geq 3 t25 (ad 1)) λt26=>
   QDo ah a (fK (.bool av) t26 (.bool au)) λt27=>
   GQ t27 av (λE=>QDo ah a (mFA 73 (af b 0) 2) E) λt29=>
   GQ t27 av (λE=>QDo ah a (aG 3 t29) E) λt30=>
   GQ t27 av (λE=>QDo ah a (gS .geq 3 t30 (ad 1)) E) λt31=>
   QDo ah a (fK t27 t31 (.bool au)) λt32=>
   GQ t32 av (λE=>QDo ah a (mFA 73 (af b 0) 1) E) λt34=>
   GQ t32 av (λE=>QDo ah a (aG 3 t34) E) λt35=>
   GQ t32 av (λE=>QDo ah a (gS .leq 3 t35 (ad 8192)) E) λt36=>
   QDo ah a (fK t32 t36 (.bool au)) λt37=>
   GQ t37 av (λE=>QDo ah a (mFA 73 (af b 0) 2) E) λt39=>
   GQ t37 av (λE=>QDo ah a (aG 3 t39) E) λt40=>
   GQ t37 av (λE=>QDo ah a (mFA 73 (af b 0) 1) E) λt41=>
   GQ t37 av (λE=>QDo ah a (aG 3 t41) E) λt42=>
   GQ t37 av (λE=>QDo ah a (gS .quo 3 (ad 8192) t42) E) λt43=>
   GQ t37 av (λE=>QDo ah a (gS .leq 3 t40 t43) E) λt44=>
   QDo ah a (fK t37 t44 (.bool au)) λt45=>
   ∀w,a w->K (.returned t45) w):=by
  intro r;refine dR (λW=>dQ NoB w W [pmE b x]) d.drew ?_;refine eZ _ (λ_=>bE Oq) (kE _ (λW h=>OT (h.at_ 0 rfl)) (apR (H8 ?_)));by_cases f:1<=x.c
  case neg=>
   rw[auQ f];simp only[gq];refine B0 ?_;simp only[gq];refine B0 ?_;simp only[gq];refine B0 λW d=>?_;exact no (λh=>f h.2.1) d.done
  rw[auR f];simp only[gq];refine eZ _ (λ_=>bE Ur) (kE _ (λW h=>WN (h.at_ 0 rfl)) (apR (H8 ?_)));by_cases g:1<=x.n
  case neg=>
   rw[auQ g];simp only[gq];refine B0 ?_;simp only[gq];refine B0 λW d=>?_;exact no (λh=>g h.2.2.1) d.done
  rw[auR g];simp only[gq];refine eZ _ (λ_=>bE Oq) (kE _ (λW h=>OT (h.at_ 0 rfl)) (acJ (H8 ?_)));by_cases i:x.c<=8192
  case neg=>
   rw[auQ i];simp only[gq];refine B0 λW d=>?_;exact no (λh=>i h.2.2.2.1) d.done
  rw[auR i];simp only[gq];refine eZ _ (λ_=>bE Ur) (kE _ (λW h=>WN (h.at_ 0 rfl)) ?_);refine eZ _ (λ_=>bE Oq) (kE _ (λW h=>OT (h.at_ 0 rfl)) (aaI om (acJ (H8 λW d=>?_))));have s:(8192:Int).tdiv x.c=8192 / x.c:=aBf dc;have t:8192 / x.c<=8192:=Int.ediv_le_self _ dc;have u:0<=8192 / x.c:=Int.ediv_nonneg dc om;rw[s,aA om om];refine o _ _ ⟨?_,d.done⟩;have e:x.n<=8192 / x.c↔x.c*x.n<=8192:=by rw[Int.le_ediv_iff_mul_le om,Int.mul_comm]
  congr 1
  have:x.ok↔x.n<=8192 / x.c:=⟨λh=>e.2 h.2.2.2.2,λh=>⟨r,f,g,i,e.1 h⟩⟩;exact (decide_eq_decide.2 this).symm
 simp only[rs];by_cases j:x.p=1
 ·simp only[j,auS,rs,gq,iO];exact rest (.inl j)
 simp only[j,auT,rs];rw[Hr,He d 0 rfl];simp only[rs];by_cases k:x.p=2
 ·simp only[k,auS,rs,gq,iO];exact rest (.inr (.inl k))
 simp only[k,auT,rs];rw[Hr,He d 0 rfl];simp only[rs];by_cases l:10<=x.p
 ·simp only[l,auS,rs];rw[Hr,He d 0 rfl];simp only[rs];by_cases m:x.p<=15
  ·simp only[m,auS,rs,gq,iO];exact rest (.inr (.inr ⟨l,m⟩))
  ·simp only[m,auT,rs,gq,iO];refine dR (λW=>dQ NoB w W [pmE b x]) d.drew ?_;refine B0 ?_;simp only[gq];refine B0 ?_;simp only[gq];refine B0 ?_;simp only[gq];refine B0 λW d=>no (λh=>by have:=h.1;unfold Pm.known at this;omega) d.done
 ·simp only[l,auT,rs,gq,iO];refine dR (λW=>dQ NoB w W [pmE b x]) d.drew ?_;refine B0 ?_;simp only[gq];refine B0 ?_;simp only[gq];refine B0 ?_;simp only[gq];refine B0 λW d=>no (λh=>by have:=h.1;unfold Pm.known at this;omega) d.done
theorem Nw (x:Pm)(w:ao):Ret ah 78 #[pmV x] w (λv w'=>v=ad (if x.ok then 0 else 1)∧Below w.heap.size w w'):=by
 refine aL λK c=>G6 ?_;unfold CO nz;refine GY x (Own.start w) λb d a=>?_;rw[Ij a 0 rfl];refine aI a (Pk x d) ?_;rintro _ w2 rfl a;simp only[rs];by_cases h:x.ok
 ·rw[auP h] at c;simp only[h,auS,avY,i_f];exact c _ _ ⟨rfl,a.done⟩
 ·rw[auO h] at c;simp only[h,auT,awA,i_t];exact c _ _ ⟨rfl,a.done⟩
theorem UT (x:Pm)(w:ao):Ret ah 192 #[pmV x] w (λv w'=>v=ad (if x.ok then x.c*x.n else 0)∧Below w.heap.size w w'):=by
 refine aL λK d=>JN ?_;unfold Ho nz;refine GY x (Own.start w) λb e a=>?_;rw[Ij a 0 rfl];refine aI a (Pk x e) ?_;rintro _ w2 rfl a;simp only[rs];by_cases h:x.ok
 ·rw[auP h] at d;simp only[h,auS,avY,i_f];have f:=Pm.mul_pos h;have g:=h.2.2.2.2;rw[fpm1,pm_1 a 0 rfl,fpm2,pm_2 a 0 rfl];simp only[rs];rw[aA om om];exact d _ _ ⟨rfl,a.done⟩
 ·rw[auO h] at d;simp only[h,auT,awA,i_t];exact d _ _ ⟨rfl,a.done⟩
theorem vD (x:Pm)(w:ao):Ret ah 87 #[pmV x] w (λv w'=>v=ad (if x.ok then 0 else 1)∧Below w.heap.size w w'):=by
 refine aL λK f=>yU ?_;unfold qM nz;refine GY x (Own.start w) λb g a=>?_;have no:¬x.ok->K (.returned (ad 1)) g:=λh=>f _ _ ⟨by rw[auO h],a.done⟩;rw[Hr,He a 0 rfl];simp only[rs];have rest:x.known->(DoX ah (mFA 73 (af b 0) 1) g (pk K) λt21 w=>
   DoX ah (aG 3 t21) w (pk K) λt22 w=>
   DoX ah (gS .lss 3 t22 (ad 1)) w (pk K) λt23 w=>
   GDo t23 au (λE=>DoX ah (mFA 73 (af b 0) 2) w (pk K) E) w λt25 w=>
   GDo t23 au (λE=>DoX ah (aG 3 t25) w (pk K) E) w λt26 w=>
   GDo t23 au (λE=>DoX ah (gS .lss 3 t26 (ad 1)) w (pk K) E) w λt27 w=>
   DoX ah (fK t23 (.bool av) t27) w (pk K) λt28 w=>
   GDo t28 au (λE=>DoX ah (mFA 73 (af b 0) 1) w (pk K) E) w λt30 w=>
   GDo t28 au (λE=>DoX ah (aG 3 t30) w (pk K) E) w λt31 w=>
   GDo t28 au (λE=>DoX ah (gS .gtr 3 t31 (ad 8192)) w (pk K) E) w λt32 w=>
   DoX ah (fK t28 (.bool av) t32) w (pk K) λt33 w=>
   GDo t33 au (λE=>DoX ah (mFA 73 (af b 0) 2) w (pk K) E) w λt35 w=>
   GDo t33 au (λE=>DoX ah (aG 3 t35) w (pk K) E) w λt36 w=>
   GDo t33 au (λE=>DoX ah (gS .gtr 3 t36 (ad 8192)) w (pk K) E) w λt37 w=>
   DoX ah (fK t33 (.bool av) t37) w (pk K) λt38 w=>
   GDo t38 au (λE=>DoX ah (mFA 73 (af b 0) 1) w (pk K) E) w λt40 w=>
   GDo t38 au (λE=>DoX ah (aG 3 t40) w (pk K) E) w λt41 w=>
   GDo t38 au (λE=>DoX ah (mFA 73 (af b 0) 2) w (pk K) E) w λt42 w=>
   GDo t38 au (λE=>DoX ah (aG 3 t42) w (pk K) E) w λt43 w=>
   GDo t38 au (λE=>DoX ah (gS .mul 3 t41 t43) w (pk K) E) w λt44 w=>
   GDo t38 au (λE=>DoX ah (gS .gtr 3 t44 (ad 8192)) w (pk K) E) w λt45 w=>
   DoX ah (fK t38 (.bool av) t45) w (pk K) λt46 w=>
   IfX t46 (K (.returned (ad 1)) w) (K (.returned (ad 0)) w)):=by
  intro r;rw[fpm1,pm_1 a 0 rfl];simp only[rs];by_cases i:x.c < 1
  ·simp only[i,auS,rs,iO];exact no λh=>by have:=h.2.1;omega
  simp only[i,auT,rs];rw[fpm2,pm_2 a 0 rfl];simp only[rs];by_cases j:x.n < 1
  ·simp only[j,auS,rs,iO];exact no λh=>by have:=h.2.2.1;omega
  simp only[j,auT,rs];rw[fpm1,pm_1 a 0 rfl];simp only[rs];by_cases k:8192 < x.c
  ·simp only[k,auS,rs,iO];exact no λh=>by have:=h.2.2.2.1;omega
  simp only[k,auT,rs];rw[fpm2,pm_2 a 0 rfl];simp only[rs];by_cases l:8192 < x.n
  ·simp only[l,auS,rs,iO];exact no λh=>by have:=Pm.n_le h;omega
  simp only[l,auT,rs];rw[fpm1,pm_1 a 0 rfl]
  try simp only[rs]
  rw[fpm2,pm_2 a 0 rfl];simp only[rs];have s:0<=x.c*x.n:=Int.mul_nonneg om om;have t:x.c*x.n<=8192*8192:=Int.mul_le_mul om om om om;rw[aA om om];by_cases m:8192 < x.c*x.n
  ·simp only[m,auS,rs,iO];exact no λh=>by have:=h.2.2.2.2;omega
  ·simp only[m,auT,rs];exact f _ _ ⟨by rw[auP ⟨r,om,om,om,om⟩],a.done⟩
 by_cases d:x.p=1
 ·simp only[d,ne_eq,not_true,auT,rs,iO];exact rest (.inl d)
 simp only[d,ne_eq,axB,auS,rs];rw[Hr,He a 0 rfl];simp only[rs];by_cases e:x.p=2
 ·simp only[e,ne_eq,not_true,auT,rs,iO];exact rest (.inr (.inl e))
 simp only[e,ne_eq,axB,auS,rs];rw[Hr,He a 0 rfl];simp only[rs];by_cases o:x.p < 10
 ·simp only[o,auS,rs,iO];exact no λh=>by have:=h.1;unfold Pm.known at this;omega
 simp only[o,auT,rs];rw[Hr,He a 0 rfl];simp only[rs];by_cases q:15 < x.p
 ·simp only[q,auS,rs,iO];exact no λh=>by have:=h.1;unfold Pm.known at this;omega
 ·simp only[q,auT,rs,iO];exact rest (.inr (.inr ⟨om,om⟩))
theorem Vj (x:Pm)(w:ao):Ret ah 135 #[pmV x] w (λv w'=>v=ad (if x.ok then x.c*x.n else 0)∧Below w.heap.size w w'):=by
 refine aL λK d=>DQ ?_;unfold vL nz;refine GY x (Own.start w) λb e a=>?_;rw[Ij a 0 rfl];refine aI a (vD x e) ?_;rintro _ w2 rfl a;simp only[bO];by_cases h:x.ok
 ·rw[auP h] at d ⊢;simp only[show ai ((0:Int)≠0)=au from rfl,i_f];have f:=Pm.mul_pos h;have g:=h.2.2.2.2;rw[fpm1,pm_1 a 0 rfl,fpm2,pm_2 a 0 rfl];simp only[rs];rw[aA om om];exact d _ _ ⟨rfl,a.done⟩
 ·rw[auO h] at d ⊢;simp only[show ai ((1:Int)≠0)=av from rfl,i_t];exact d _ _ ⟨rfl,a.done⟩
def cc (x:Int):Int:=max x (-x)
def lx (a b c:UInt8):UInt8:=
 let d:Int:=(a.toNat:Int)+(b.toNat:Int) - (c.toNat:Int)
 if cc (d - (a.toNat:Int))<=cc (d - (b.toNat:Int))∧cc (d - (a.toNat:Int))<=cc (d - (c.toNat:Int)) then a
 else if cc (d - (b.toNat:Int))<=cc (d - (c.toNat:Int)) then b else c
theorem D5 (a b:Int)(w:ao)(d:-10000<=a∧a<=10000)(e:-10000<=b∧b<=10000):Ret ah 268 #[ad a,ad b] w (λv w'=>v=ad (cc (b - a))∧w=w'):=by
 refine aL λK c=>HG ?_;unfold DS nz;simp only[rs];rw[aA om om,aA om om,sQ];exact c _ _ ⟨by unfold cc;congr 1;omega,rfl⟩
theorem H6 (a:Int)(w:ao)(c:-10000<=a∧a<=10000):Ret ah 208 #[ad a] w (λv w'=>v=ad (cc a)∧w=w'):=by
 refine aL λK b=>Dd ?_;unfold vR nz;simp only[rs];rw[aA om om,sQ];exact b _ _ ⟨rfl,rfl⟩
section
variable {w:ao}{PK:PKT}{K:VWP}
theorem Dm {c:UInt8}:DoX ah (nG 5 3 (.int .u8 (c.toNat:Int))) w PK K=K (ad (c.toNat:Int)) w:=by
 have a:=awQ c;have e:IntKind.i64.wrap (c.toNat:Int)=(c.toNat:Int):=aA om om;have:=aZ (P:=ah) (S:=5) (D:=3) (k:=.u8) (n:=(c.toNat:Int)) (w:=w) krx awM;rw[e] at this;exact aC this
end
theorem VB (a b c:UInt8)(w:ao):Ret ah 240 #[.int .u8 (a.toNat:Int),.int .u8 (b.toNat:Int),.int .u8 (c.toNat:Int)] w (λv w'=>v=.int .u8 ((lx a b c).toNat:Int)∧w=w'):=by
 refine aL λK j=>HL ?_;unfold Cu nz;have s:=awQ a;have t:=awQ b;have u:=awQ c;rw[Dm,Dm];simp only[rs];rw[Dm];simp only[rs];rw[aA (n:=(a.toNat:Int)+(b.toNat:Int)) om om,aA om om];have e:∀W:ao,(aN 301 #[(0,.int .u8 (b.toNat:Int)),(1,.int .u8 (c.toNat:Int))]).run ah W=.ok (.value (.agg #[.int .u8 (b.toNat:Int),.int .u8 (c.toNat:Int)])) W:=λW=>by kernel_rfl
 refine aC (e w) |>.mpr ?_;have hp:lx a b c=(let m:=if cc ((a.toNat:Int)+(b.toNat:Int) - (c.toNat:Int) - (b.toNat:Int)) < cc ((a.toNat:Int)+(b.toNat:Int) - (c.toNat:Int) - (a.toNat:Int)) then b else a
   if cc ((a.toNat:Int)+(b.toNat:Int) - (c.toNat:Int) - (c.toNat:Int)) < cc ((a.toNat:Int)+(b.toNat:Int) - (c.toNat:Int) - (m.toNat:Int)) then c else m):=by
  unfold lx;dsimp only;generalize l:cc ((a.toNat:Int)+(b.toNat:Int) - (c.toNat:Int) - (a.toNat:Int))=A;generalize o:cc ((a.toNat:Int)+(b.toNat:Int) - (c.toNat:Int) - (b.toNat:Int))=B;generalize hC:cc ((a.toNat:Int)+(b.toNat:Int) - (c.toNat:Int) - (c.toNat:Int))=C;by_cases k:B < A
  ·rw[auP k,o,auO om];by_cases g:B<=C
   ·rw[auP g,auO om]
   ·rw[auO g,auP om]
  ·rw[auO k,l];by_cases g:C < A
   ·rw[auP g,auO om,auO om]
   ·rw[auO g,auP om]
 rw[hp] at j;dsimp only at j;generalize p:(a.toNat:Int)+(b.toNat:Int) - (c.toNat:Int)=d at j;have f:-10000<=d∧d<=10000:=om
 have q:∀W:ao,(mIx 301 (.agg #[.int .u8 (b.toNat:Int),.int .u8 (c.toNat:Int)]) (ad 0)).run ah W=.ok (.value (.int .u8 (b.toNat:Int))) W:=λW=>by kernel_rfl
 have r:∀W:ao,(mIx 301 (.agg #[.int .u8 (b.toNat:Int),.int .u8 (c.toNat:Int)]) (ad 1)).run ah W=.ok (.value (.int .u8 (c.toNat:Int))) W:=λW=>by kernel_rfl
 refine loop (λvs W=>w=W∧(vs=[.int .u8 (a.toNat:Int),ad 0]∨vs=[.int .u8 ((if cc (d - (b.toNat:Int)) < cc (d - (a.toNat:Int)) then b else a).toNat:Int),ad 1] ∨
  vs=[.int .u8 ((if cc (d - (c.toNat:Int)) < cc (d - ((if cc (d - (b.toNat:Int)) < cc (d - (a.toNat:Int)) then b else a).toNat:Int)) then c else (if cc (d - (b.toNat:Int)) < cc (d - (a.toNat:Int)) then b else a)).toNat:Int),ad 2])) (λvs _=>2 - n1 vs) ⟨rfl,.inl rfl⟩ ?_
 rintro vs _ ⟨rfl,rfl|rfl|rfl⟩ _
 ·simp only[gL,gd,rs,nz];simp only[show ai ((0:Int) < 2)=av from rfl,i_t];refine join λJ i=>?_;refine aC (q w) |>.mpr ?_;rw[Dm];refine zq (D5 (b.toNat:Int) d w om f) ?_;rw[Dm];refine zq (D5 (a.toNat:Int) d w om f) ?_;simp only[rs];by_cases h:cc (d - (b.toNat:Int)) < cc (d - (a.toNat:Int))
  ·simp only[h,auS,i_t];refine i _ _ λ_=>?_;simp only[eQ,gd,rs,nz];exact aU ⟨rfl,.inr (.inl (by rw[auP h];rfl))⟩ (by show 2 - 1 < 2 - 0;decide)
  ·simp only[h,auT,i_f];refine i _ _ λ_=>?_;simp only[eQ,gd,rs,nz];exact aU ⟨rfl,.inr (.inl (by rw[auO h];rfl))⟩ (by show 2 - 1 < 2 - 0;decide)
 ·generalize (if cc (d - (b.toNat:Int)) < cc (d - (a.toNat:Int)) then b else a)=m;have hm:=awQ m;simp only[gL,gd,rs,nz];simp only[show ai ((1:Int) < 2)=av from rfl,i_t];refine join λJ i=>?_;refine aC (r w) |>.mpr ?_;rw[Dm];refine zq (D5 (c.toNat:Int) d w om f) ?_;rw[Dm];refine zq (D5 (m.toNat:Int) d w om f) ?_;simp only[rs];by_cases h:cc (d - (c.toNat:Int)) < cc (d - (m.toNat:Int))
  ·simp only[h,auS,i_t];refine i _ _ λ_=>?_;simp only[eQ,gd,rs,nz];exact aU ⟨rfl,.inr (.inr (by rw[auP h];rfl))⟩ (by show 2 - 2 < 2 - 1;decide)
  ·simp only[h,auT,i_f];refine i _ _ λ_=>?_;simp only[eQ,gd,rs,nz];exact aU ⟨rfl,.inr (.inr (by rw[auO h];rfl))⟩ (by show 2 - 2 < 2 - 1;decide)
 ·simp only[gL,gd,rs,nz];simp only[show ai ((2:Int) < 2)=au from rfl,i_f];exact j _ _ ⟨rfl,rfl⟩
theorem P2 (a b c:UInt8)(w:ao):Ret ah 175 #[.int .u8 (a.toNat:Int),.int .u8 (b.toNat:Int),.int .u8 (c.toNat:Int)] w (λv w'=>v=.int .u8 ((lx a b c).toNat:Int)∧w=w'):=by
 refine aL λK d=>Ag ?_;unfold qQ nz;unfold lx at d;dsimp only at d;have k:=awQ a;have l:=awQ b;have m:=awQ c;rw[Dm,Dm];simp only[rs];rw[Dm];simp only[rs];rw[aA (n:=(a.toNat:Int)+(b.toNat:Int)) om om,aA om om,Dm];generalize j:(a.toNat:Int)+(b.toNat:Int) - (c.toNat:Int)=f at d ⊢;have i:-1000<=f∧f<=1000:=om
 try simp only[rs]
 rw[aA om om];refine zq (H6 (f - (a.toNat:Int)) w om) ?_;rw[Dm]
 try simp only[rs]
 rw[aA om om];refine zq (H6 (f - (b.toNat:Int)) w om) ?_;rw[Dm]
 try simp only[rs]
 rw[aA om om];refine zq (H6 (f - (c.toNat:Int)) w om) ?_;generalize cc (f - (a.toNat:Int))=A at d ⊢;generalize cc (f - (b.toNat:Int))=B at d ⊢;generalize cc (f - (c.toNat:Int))=C at d ⊢;simp only[rs];by_cases g:A<=B
 ·simp only[g,auS,rs];by_cases h:A<=C
  ·simp only[h,auS,rs];rw[auP ⟨g,h⟩] at d;exact d _ _ ⟨rfl,rfl⟩
  ·simp only[h,auT,rs];rw[auO om] at d;by_cases e:B<=C
   ·simp only[e,auS,i_t];rw[auP e] at d;exact d _ _ ⟨rfl,rfl⟩
   ·simp only[e,auT,i_f];rw[auO e] at d;exact d _ _ ⟨rfl,rfl⟩
 ·simp only[g,auT,rs,iO];rw[auO om] at d;by_cases e:B<=C
  ·simp only[e,auS,i_t];rw[auP e] at d;exact d _ _ ⟨rfl,rfl⟩
  ·simp only[e,auT,i_f];rw[auO e] at d;exact d _ _ ⟨rfl,rfl⟩
def ec (l:List UInt8)(i:Int):UInt8:=if i < 0∨(l.length:Int)<=i then 0 else l.getD i.toNat 0
theorem RU (l:List UInt8)(v:aq)(i:Int)(w:ao)(d:Sl w v 1 l.length (aM l)):Ret ah 239 #[v,ad i] w (λr w'=>r=.int .u8 ((ec l i).toNat:Int)∧w=w'):=by
 refine aL λK a=>Ml ?_;unfold Jq nz;unfold ec at a;simp only[rs];by_cases b:i < 0
 ·simp only[b,auS,rs,iO];rw[auP (.inl b)] at a;exact a _ _ ⟨rfl,rfl⟩
 simp only[b,auT,rs];rw[aS avE d];simp only[rs];by_cases c:(l.length:Int)<=i
 ·simp only[c,auS,rs];rw[auP (.inr c)] at a;exact a _ _ ⟨rfl,rfl⟩
 simp only[c,auT,rs];rw[auO om] at a;obtain⟨n,rfl⟩:∃n:Nat,i=(n:Int):=⟨i.toNat,om⟩;have e:n < l.length:=om
 obtain⟨b2,off,f,g⟩:=KF d e;refine aC (f w) |>.mpr (aC (aB nU8l g) |>.mpr ?_);rw[auW,auZ,auX e] at a;exact a _ _ ⟨rfl,rfl⟩
theorem Mw (l:List UInt8)(v:aq)(i:Int)(w:ao)(d:Sl w v 1 l.length (aM l)):Ret ah 174 #[v,ad i] w (λr w'=>r=.int .u8 ((ec l i).toNat:Int)∧w=w'):=by
 refine aL λK a=>Ek ?_;unfold yJ nz;unfold ec at a;simp only[rs];by_cases b:i < 0
 ·simp only[b,auS,rs,iO];rw[auP (.inl b)] at a;exact a _ _ ⟨rfl,rfl⟩
 simp only[b,auT,rs];rw[aS avE d];simp only[rs];by_cases c:(l.length:Int)<=i
 ·simp only[c,auS,rs];rw[auP (.inr c)] at a;exact a _ _ ⟨rfl,rfl⟩
 simp only[c,auT,rs];rw[auO om] at a;obtain⟨n,rfl⟩:∃n:Nat,i=(n:Int):=⟨i.toNat,om⟩;have e:n < l.length:=om
 obtain⟨b2,off,f,g⟩:=KF d e;refine aC (f w) |>.mpr (aC (aB nU8l g) |>.mpr ?_);rw[auW,auZ,auX e] at a;exact a _ _ ⟨rfl,rfl⟩
def dy (tag:Int)(above row:List UInt8)(i colors:Int):UInt8:=
 if tag=1 then ec row (i - colors)
 else if tag=2 then ec above i
 else if tag=3 then UInt8.ofNat (((ec row (i - colors)).toNat+(ec above i).toNat) / 2)
 else if tag=4 then lx (ec row (i - colors)) (ec above i) (ec above (i - colors))
 else 0
def rwC (a r:aq)(c:Int):List Value:=[a,r,ad c]
def rwV (a r:aq)(c:Int):Value:=.agg (rwC a r c).toArray
abbrev rwE (b:Nat)(a r:aq)(c:Int):Ent:=.cells b (rwC a r c) 228
theorem XP {a:aq}{c:Int}(b:a.oneCell'=av)(d:r.oneCell'=av):∀u∈rwC a r c,u.oneCell'=true:=by
 intro u hu;simp only[rwC,avB,awS,or_false] at hu;rcases hu with rfl|rfl|rfl
 ·exact b
 ·exact d
 ·rfl
theorem Rx:By ah 228=ax 3:=krx
theorem szRw:(Tryz.prog.info? 228).map (·.size)=ax 3:=krx
theorem UP:uM ah 228 0=ax 0:=krx
theorem A4:uM ah 228 1=ax 1:=krx
theorem agE:uM ah 228 2=ax 2:=krx
theorem kD {n:Nat}(h:Sl w v sz n cs):v.oneCell'=true:=by
 obtain⟨_,a,cap,rfl,_⟩:=h;rfl
theorem Xp {a:aq}{c:Int}(h:(rwE b a r c).is W):(aG 70 (af b (0+0))).run ah W=.ok (.value a) W:=aB MT (aJ (T:=228) (cs:=rwC a r c) h rfl)
theorem B4 {a:aq}{c:Int}(h:(rwE b a r c).is W):(aG 70 (af b (0+1))).run ah W=.ok (.value r) W:=aB MT (aJ (T:=228) (cs:=rwC a r c) h rfl)
theorem YW {a:aq}{c:Int}(h:(rwE b a r c).is W):(aG 3 (af b (0+2))).run ah W=.ok (.value (ad c)) W:=aB aW (aJ (T:=228) (cs:=rwC a r c) h rfl)
theorem anO (x y:UInt8):IntKind.u8.wrap (IntKind.i64.wrap (((x.toNat+y.toNat:Nat):Int).tdiv 2))=((UInt8.ofNat ((x.toNat+y.toNat) / 2)).toNat:Int):=by
 have a:=awQ x;have b:=awQ y;rw[show ((x.toNat+y.toNat:Nat):Int).tdiv 2=(((x.toNat+y.toNat) / 2:Nat):Int) from rfl,aA om om,rA]
theorem US (tag:Int)(above row:List UInt8)(va e:aq)(i colors:Int)(w:ao)(hi:0<=i∧i<=1000000)(p:1<=colors∧colors<=1000000)(k:Sl w va 1 above.length (aM above))(l:Sl w e 1 row.length (aM row)) :
  Ret ah 218 #[rwV va e colors,ad tag,ad i] w (λr w'=>r=.int .u8 ((dy tag above row i colors).toNat:Int)∧Below w.heap.size w w'):=by
 refine aL λK a=>Dc ?_;unfold uB nz;unfold dy at a;have m:=kD k;have n:=kD l;have o:∀W:ao,(AS 228 (rwV va e colors)).run ah W=.ok (.value (af W.heap.size 0)) (W.alloc (.cells (rwC va e colors).toArray 228)):=λW=>by
  cases va<;>first|(cases m;done)|skip
  all_goals cases e<;>first|(cases n;done)|kernel_rfl
 refine bB (λb=>af b 0) (rwC va e colors) 228 o (Own.start w) λb q f=>?_;refine dR (λW=>dQ NoB w W [rwE b va e colors]) f.drew ?_;refine eZ _ (λ_=>bE A4) (kE _ (λW h=>B4 (h.at_ 0 rfl)) (eZ _ (λ_=>bE agE) (kE _ (λW h=>YW (h.at_ 0 rfl)) (eZ _ (λ_=>Cj) ?_))));rw[aA om om];refine fC _ (λW h=>(RU row e (i - colors) W (dQ.Tf h l)).mono λv w' ⟨c,d⟩=>⟨c,d▸h⟩) ?_;refine eZ _ (λ_=>bE UP) (kE _ (λW h=>Xp (h.at_ 0 rfl)) ?_);refine fC _ (λW h=>(RU above va i W (dQ.Tf h k)).mono λv w' ⟨c,d⟩=>⟨c,d▸h⟩) ?_;refine eZ _ (λ_=>bE UP) (kE _ (λW h=>Xp (h.at_ 0 rfl)) ?_);refine eZ _ (λ_=>bE agE) (kE _ (λW h=>YW (h.at_ 0 rfl)) (eZ _ (λ_=>Cj) ?_));rw[aA om om];refine fC _ (λW h=>(RU above va (i - colors) W (dQ.Tf h k)).mono λv w' ⟨c,d⟩=>⟨c,d▸h⟩) ?_;intro w2 f;generalize ec row (i - colors)=x at a ⊢;generalize ec above i=y at a ⊢;generalize ec above (i - colors)=z at a ⊢;have s:=awQ x;have t:=awQ y;simp only[rs];by_cases c:tag=1
 ·simp only[c,auS,i_t];rw[auP c] at a;exact a _ _ ⟨rfl,f.done⟩
 simp only[c,auT,i_f];rw[auO c] at a
 try simp only[rs]
 by_cases d:tag=2
 ·simp only[d,auS,i_t];rw[auP d] at a;exact a _ _ ⟨rfl,f.done⟩
 simp only[d,auT,i_f];rw[auO d] at a
 try simp only[rs]
 by_cases g:tag=3
 ·simp only[g,auS,i_t];rw[auP g] at a;rw[Dm,Dm];simp only[rs];rw[aA om om,Ej dc];refine aC (aZ krx avN) |>.mpr ?_;rw[show (x.toNat:Int)+(y.toNat:Int)=((x.toNat+y.toNat:Nat):Int) by omega,anO];exact a _ _ ⟨rfl,f.done⟩
 simp only[g,auT,i_f];rw[auO g] at a
 try simp only[rs]
 by_cases j:tag=4
 ·simp only[j,auS,i_t];rw[auP j] at a;refine zq (VB x y z w2) ?_;exact a _ _ ⟨rfl,f.done⟩
 simp only[j,auT,i_f];rw[auO j] at a;exact a _ _ ⟨rfl,f.done⟩
theorem Wb (tag:Int)(above row:List UInt8)(va f:aq)(i colors:Int)(w:ao)(hi:0<=i∧i<=1000000)(j:1<=colors∧colors<=1000000)(g:Sl w va 1 above.length (aM above))(h:Sl w f 1 row.length (aM row)) :
  Ret ah 136 #[ad tag,va,f,ad i,ad colors] w (λr w'=>r=.int .u8 ((dy tag above row i colors).toNat:Int)∧w=w'):=by
 refine aL λK a=>B2 ?_;unfold vM nz;unfold dy at a;simp only[rs];rw[aA om om];refine zq (Mw row f (i - colors) w h) ?_;refine zq (Mw above va i w g) ?_
 try simp only[rs]
 refine zq (Mw above va (i - colors) w g) ?_;generalize ec row (i - colors)=x at a ⊢;generalize ec above i=y at a ⊢;generalize ec above (i - colors)=z at a ⊢;have k:=awQ x;have l:=awQ y
 try simp only[rs]
 by_cases b:tag=1
 ·simp only[b,auS,i_t];rw[auP b] at a;exact a _ _ ⟨rfl,rfl⟩
 simp only[b,auT,i_f];rw[auO b] at a
 try simp only[rs]
 by_cases c:tag=2
 ·simp only[c,auS,i_t];rw[auP c] at a;exact a _ _ ⟨rfl,rfl⟩
 simp only[c,auT,i_f];rw[auO c] at a
 try simp only[rs]
 by_cases d:tag=3
 ·simp only[d,auS,i_t];rw[auP d] at a;rw[Dm,Dm];simp only[rs];rw[aA om om,Ej dc];refine aC (aZ krx avN) |>.mpr ?_;rw[show (x.toNat:Int)+(y.toNat:Int)=((x.toNat+y.toNat:Nat):Int) by omega,anO];exact a _ _ ⟨rfl,rfl⟩
 simp only[d,auT,i_f];rw[auO d] at a
 try simp only[rs]
 by_cases e:tag=4
 ·simp only[e,auS,i_t];rw[auP e] at a;refine zq (P2 x y z w) ?_;exact a _ _ ⟨rfl,rfl⟩
 simp only[e,auT,i_f];rw[auO e] at a;exact a _ _ ⟨rfl,rfl⟩
end
section
open Eng Go.RowKit
def dr (tag:Int)(above:List UInt8)(colors:Int):List UInt8->List UInt8->List UInt8
|acc,[]=>acc
|acc,c::r=>dr tag above colors (acc++[c+dy tag above acc (acc.length:Int) colors]) r
theorem nt (tag:Int)(above:List UInt8)(colors:Int):∀(r acc:List UInt8),(dr tag above colors acc r).length=acc.length+r.length
|[],acc=>rfl
|c::r,acc=>by rw[dr,nt tag above colors r,auU,awX,avR];omega
theorem vt {p r:List UInt8}{i:Int}(h:i < (p.length:Int)):ec (p++r) i=ec p i:=by
 unfold ec;by_cases a:i < 0
 ·rw[auP (.inl a),auP (.inl a)]
 ·rw[auO (by rw[auU];omega),auO om,auZ,axO om,auZ]
theorem vu {tag:Int}{p r:List UInt8}(a:1<=colors):dy tag above (p++r) (p.length:Int) colors=dy tag above p (p.length:Int) colors:=by
 unfold dy;rw[vt om]
def jq (c:Int)(n h:Nat):Nat->List UInt8->List UInt8->List UInt8->List UInt8×Int
|0,_,_,_=>([],13)
|f+1,s,prev,out=>
  if s.length=0 then (out,0)
  else if 5<=(if h=1 then (s.getD 0 0).toNat else 1) then ([],3)
  else
   let row:=dr ((if h=1 then (s.getD 0 0).toNat else 1:Nat):Int) prev c [] ((s.drop h).take n)
   jq c n h f (s.drop (n+h)) row (out++row)
def Pm.head (x:Pm):Nat:=if 10<=x.p then 1 else 0
def ev (x:Pm)(s:List UInt8):List UInt8×Int:=
 if ¬x.ok then ([],1)
 else if 1048576 < s.length then ([],5)
 else if x.p=1 then (s,0)
 else if s.length % ((x.c*x.n).toNat+x.head)≠0 then ([],16)
 else jq x.c (x.c*x.n).toNat x.head (s.length+1) s [] []
theorem aeF {a b:UInt8}:IntKind.u8.wrap ((a.toNat:Int)+(b.toNat:Int))=((a+b).toNat:Int):=by
 rw[show (a.toNat:Int)+(b.toNat:Int)=((a.toNat+b.toNat:Nat):Int) by omega,rA]
 congr 1
def qO:aq->Nat|.string s=>s.size|_=>0
theorem iH (l:List UInt8):qO (ae l)=l.length:=cQ l
def BRd (e:Ent)(v:aq)(l:List UInt8):Prop:=∀W,e.is W->Sl W v 1 l.length (aM l)
theorem R8 {b cap:Nat}{l:List UInt8}:BRd (.mkr 5 b l) (cW b 0 l.length cap) l:=λW h=>WH h
section
variable {w:ao}{PK:PKT}{K:VWP}{S:Nat->Prop}{w0:ao}{L:List Ent}
theorem aoQ {tag:Nat}{b2:Nat}{src:List UInt8}(i j:Nat)(t:i≠j)(a:dQ S w0 w L)(hi:L[i]?=ax e)(y:L[j]?=ax (.mkr 5 b2 src))(z:BRd e va above)(A:1<=colors∧colors<=1000000)(O:src.length<=1000000)
  (k:∀W,dQ S w0 W (L.set j (.mkr 5 b2 (dr (tag:Int) above colors [] src)))->K (.tuple #[]) W) :
  eN ah 201 #[rwV va (cW b2 0 src.length cap) colors,ad (tag:Int)] w PK K:=by
 have u:j < L.length:=(avL.1 y).1;have d:∀l,(L.set j (.mkr 5 b2 l))[j]?=ax (.mkr 5 b2 l):=λl=>by rw[axP u]
 generalize c:dr (tag:Int) above colors [] src=R at k;refine⟨BD ?_⟩;unfold tI nz;have B:va.oneCell'=true:=kD (z w (a.at_ i hi));have C:∀W:ao,(AS 228 (rwV va (cW b2 0 src.length cap) colors)).run ah W=.ok (.value (af W.heap.size 0)) (W.alloc (.cells (rwC va (cW b2 0 src.length cap) colors).toArray 228)):=λW=>by
  cases va<;>first|(cases B;done)|kernel_rfl
 refine bB (λb=>af b 0) (rwC va (cW b2 0 src.length cap) colors) 228 C a λb D a=>?_;refine aC (bE A4) |>.mpr (aC (B4 (a.at_ 0 rfl)) |>.mpr ?_);have f:∀{W:ao} {l:List UInt8},dQ S w0 W (rwE b va (cW b2 0 src.length cap) colors::L.set j (.mkr 5 b2 l))->l.length=src.length->Sl W (cW b2 0 src.length cap) 1 l.length (aM l):=λa E=>by
  have:=WH (cap:=cap) (a.at_ (j+1) (d _));rw[E] at this ⊢;exact this
 have a:dQ S w0 D (rwE b va (cW b2 0 src.length cap) colors::L.set j (.mkr 5 b2 ([]++src.drop 0))):=by
  rw[awW,ayS,Ac y];exact a
 rw[aS avE (f a sm)];have F:([]++src.drop 0:List UInt8).length=src.length:=sm
 rw[F];refine loop (λvs W=>∃p:List UInt8,vs=[ad (p.length:Int)]∧p.length<=src.length∧dr (tag:Int) above colors p (src.drop p.length)=R∧dQ S w0 W (rwE b va (cW b2 0 src.length cap) colors::L.set j (.mkr 5 b2 (p++src.drop p.length)))) (λvs _=>src.length - n0 vs) ⟨[],rfl,sm,c,a⟩ ?_;clear a c;rintro vs w2 ⟨p,rfl,hp,c,a⟩ _;simp only[nW,gd,rs,nz];by_cases g:(p.length:Int) < (src.length:Int)
 ·simp only[g,auS,i_t];have m:p.length < src.length:=om
  have G:src.drop p.length=src[p.length]::src.drop (p.length+1):=avW m;rw[G] at c a;rw[dr] at c;have o:(p++src[p.length]::src.drop (p.length+1)).length=src.length:=by rw[auU,avR,avF];omega
  have x:(p++src[p.length]::src.drop (p.length+1))[p.length]?=ax src[p.length]:=by rw[ayL (auY _),ayY];rfl
  have q:∀W:ao,(mIA 70 (cW b2 0 src.length cap) (ad (p.length:Int))).run ah W=.ok (.value (af b2 p.length)) W:=λW=>by
   have:=cR (P:=ah) (T:=70) (b:=b2) (off:=0) (cap:=cap) (n:=src.length) (k:=.i64) (i:=(p.length:Int)) (w:=W) avE (show (Tryz.prog.info? 5).map (·.size)=ax 1 by kernel_rfl) om om
   rwa [auW,avQ,avC] at this
  refine dR (λW=>dQ S w0 W (rwE b va (cW b2 0 src.length cap) colors::L.set j (.mkr 5 b2 (p++src[p.length]::src.drop (p.length+1))))) a.drew ?_;refine eZ _ (λ_=>bE A4) (kE _ (λW h=>B4 (h.at_ 0 rfl)) (eZ _ q ?_));refine kE (.int .u8 (src[p.length].toNat:Int)) (λW h=>aB nU8l (RC (h.at_ (j+1) (d _)) (by unfold aM;rw[azP,x];rfl))) ?_;refine kE (rwV va (cW b2 0 src.length cap) colors) (λW h=>bC (h.agg 0 rfl Rx)) ?_;refine fC (.int .u8 ((dy (tag:Int) above p (p.length:Int) colors).toNat:Int)) (λW h=>?_) ?_
  ·have r:=f h o;have:=US (tag:Int) above (p++src[p.length]::src.drop (p.length+1)) va (cW b2 0 src.length cap) (p.length:Int) colors W om A (z W (h.at_ (i+1) (show (L.set j (.mkr 5 b2 _))[i]?=ax e by rw[azO (λh=>t h.symm)];exact hi))) r;rw[vu A.1] at this;exact this.mono λv w' ⟨H,I⟩=>⟨H,h.grow I⟩
  refine iR ?_;rw[aeF];refine eZ _ q ?_;intro w3 a;refine Zx (j+1) (l:=p++src[p.length]::src.drop (p.length+1)) a (d _) krx (by rw[o];exact m) λJ a=>?_
  try simp only[rs]
  rw[aA om om];have s:(p++[src[p.length]+dy (tag:Int) above p (p.length:Int) colors]).length=p.length+1:=sm
  refine aU ⟨p++[src[p.length]+dy (tag:Int) above p (p.length:Int) colors],by rw[s];rfl,by rw[s];omega,by rw[s];exact c,?_⟩ (by simp[n0,RowKit.intOf];omega);rw[s];have M:(p++src[p.length]::src.drop (p.length+1)).set p.length (src[p.length]+dy (tag:Int) above p (p.length:Int) colors)=p++[src[p.length]+dy (tag:Int) above p (p.length:Int) colors]++src.drop (p.length+1):=by
   rw[aAV _ _ (auY _),ayY,axV];simp
  rw[<-M];have a:dQ S w0 J (rwE b va (cW b2 0 src.length cap) colors::(L.set j (.mkr 5 b2 (p++src[p.length]::src.drop (p.length+1)))).set j (.mkr 5 b2 ((p++src[p.length]::src.drop (p.length+1)).set p.length (src[p.length]+dy (tag:Int) above p (p.length:Int) colors)))):=a;rw[azN] at a;exact a
 ·simp only[g,auT,i_f];have N:p.length=src.length:=om
  rw[awK om] at c a;rw[awF] at a;have c:p=R:=c;subst c;exact k w2 a.tail
end
theorem MA (x:Pm)(s:List UInt8)(r:Nat)(w:ao)(i:1<=r)(j:s.length<=1000000000):Ret ah 193 #[pmV x,ae s,ad (r:Int)] w (λv w'=>v=ad (if ¬x.ok then 1 else if 1048576 < s.length then 5 else if x.p≠1∧s.length % r≠0 then 16 else 0)∧Below w.heap.size w w'):=by
 refine aL λK a=>FR ?_;unfold AX nz;refine GY x (Own.start w) λb g c=>?_;rw[Ij c 0 rfl];refine aI c (Pk x g) ?_;rintro _ w2 rfl c
 try simp only[rs]
 by_cases h:x.ok
 case neg=>
  rw[auP h] at a;simp only[h,auT,awA,i_t];exact a _ _ ⟨rfl,c.done⟩
 rw[auO (by simp[h])] at a;simp only[h,auS,avY,i_f];rw[dE auV]
 try simp only[rs]
 by_cases e:1048576 < s.length
 ·rw[auP e] at a;simp only[show ai ((1048576:Int) < (s.length:Int))=av from auR om,i_t];exact a _ _ ⟨rfl,c.done⟩
 rw[auO e] at a;simp only[show ai ((1048576:Int) < (s.length:Int))=au from auQ om,i_f];rw[Hr,He c 0 rfl]
 try simp only[rs]
 by_cases d:x.p=1
 ·rw[auO (by simp[d])] at a;simp only[d,ne_eq,not_true,auT,rs,iO];exact a _ _ ⟨rfl,c.done⟩
 simp only[d,ne_eq,axB,auS,rs];rw[dE auV]
 try simp only[rs]
 rw[Ep om,aoN]
 try simp only[rs]
 by_cases f:s.length % r=0
 ·rw[auO (by simp[f])] at a;simp only[show ai (((s.length % r:Nat):Int)≠0)=au from auQ om,i_f,rs];exact a _ _ ⟨rfl,c.done⟩
 ·rw[auP ⟨d,f⟩] at a;simp only[show ai (((s.length % r:Nat):Int)≠0)=av from auR om,i_t,rs];exact a _ _ ⟨rfl,c.done⟩
theorem Sm (x:Pm)(s:List UInt8)(w:ao)(T:s.length<=1000000000):Ret ah 168 #[pmV x,ae s] w (λv w'=>v=zlT (ev x s)∧Below w.heap.size w w'):=by
 refine aL λK o=>Fv ?_;generalize g:ev x s=X at o;unfold ev at g;unfold AY iN dx ldx bnx fax mbx cx;refine GY x (Own.start w) λb U d=>?_;rw[Ij d 0 rfl];refine aI d (UT x U) ?_;rintro _ w2 rfl d;rw[sQ];refine join λJ V=>?_;rw[Hr,He d 0 rfl]
 try simp only[rs]
 have main:J [ad (x.head:Int)] w2:=by
  refine V _ _ λ_=>?_;simp only[uH,gd,iN,dx,ldx,bnx,fax,stx,alx,ecx,cx];rw[Ij d 0 rfl];have y:x.head<=1:=by unfold Pm.head;split<;>omega
  obtain⟨n,P,Y,Z⟩:∃n:Nat,max (if x.ok then x.c*x.n else 0) 1=(n:Int)∧1<=n∧n<=8192:=by
   by_cases h:x.ok
   ·rw[auP h];have h1:=Pm.mul_pos h;have H:=h.2.2.2.2;exact⟨(x.c*x.n).toNat,om,om,om⟩
   ·rw[auO h];exact⟨1,dc,dc,dc⟩
  rw[P]
  try simp only[rs]
  rw[aA om om,show (n:Int)+(x.head:Int)=((n+x.head:Nat):Int) by omega];refine aI d (MA x s (n+x.head) w2 om T) ?_;rintro _ w3 rfl d;simp only[bO];by_cases h:x.ok
  case neg=>
   rw[auP h] at g ⊢;simp only[show ai ((1:Int)≠0)=av from rfl,i_t];exact o _ _ ⟨by rw[<-g];rfl,d.done⟩
  rw[auO (by simp[h])] at g ⊢;have I:(x.c*x.n).toNat=n:=by
   rw[auP h] at P;have h1:=Pm.mul_pos h;omega
  rw[I] at g;by_cases H:1048576 < s.length
  ·rw[auP H] at g ⊢;simp only[show ai ((5:Int)≠0)=av from rfl,i_t];exact o _ _ ⟨by rw[<-g];rfl,d.done⟩
  rw[auO H] at g ⊢;by_cases z:x.p=1
  ·rw[auO (by simp[z])];rw[auP z] at g;simp only[show ai ((0:Int)≠0)=au from rfl,i_f];rw[Hr,He d 0 rfl];simp only[z,rs,auS,i_t];exact o _ _ ⟨by rw[<-g];rfl,d.done⟩
  rw[auO z] at g;by_cases A:s.length % (n+x.head)=0
  case neg=>
   rw[auP ⟨z,A⟩];rw[auP A] at g;simp only[show ai ((16:Int)≠0)=av from rfl,i_t];exact o _ _ ⟨by rw[<-g];rfl,d.done⟩
  rw[auO (by simp[A])];rw[auO (by simp[A])] at g;simp only[show ai ((0:Int)≠0)=au from rfl,i_f];rw[Hr,He d 0 rfl];simp only[z,rs,auT,i_f];rw[fpm1,pm_1 d 0 rfl];have Q:1<=x.c∧x.c<=1000000:=⟨h.2.1,by have:=h.2.2.2.1;omega⟩;have e:∀W:ao,(aN 228 #[(2,ad x.c)]).run ah W=.ok (.value (rwV dY dY x.c)) W:=λW=>by kernel_rfl
  refine aC (e w3) |>.mpr ?_;refine bB (λb=>af b 0) (rwC dY dY 0) 228 (λ_=>by kernel_rfl) d λq w4 d=>?_;refine gF 0 d rfl (new:=rwC dY dY x.c) szRw (XP rfl rfl) rfl λw5 d=>?_;generalize x.head=i at g y A ⊢;generalize x.c=co at g Q d ⊢;have d:=(d.nilU 5 1).nilU 5 1;have d:=d.sub (L':=[.urow 5 1 dY 0 [],.urow 5 1 dY 0 [],rwE q dY dY co]) (.cons_cons _ (.cons_cons _ (.cons_cons _ (List.nil_sublist _))));refine loop (λvs W=>∃(t prev out:List UInt8) (ov va j:aq) (e:Ent),vs=[ae t,ov]∧t.length<=s.length∧t.length % (n+i)=0∧out.length+t.length<=s.length∧prev.length<=1000000∧BRd e j prev∧va.oneCell'=av∧(∃f,t.length < f∧jq co n i f t prev out=X)∧dQ NoB w W [iS ov out,e,rwE q va j co]) (λvs _=>qO (vs.getD 0 undef)) ⟨s,[],[],dY,dY,dY,_,rfl,om,A,sm,sm,λW h=>Sl.urow h,rfl,⟨_,om,g⟩,d⟩ ?_;clear d g;rintro vs L ⟨t,prev,out,ov,va,j,e,rfl,a1,M,a6,a7,B,a8,⟨f,hf,g⟩,d⟩ _;simp only[uD,gd,iN,dx,bnx,lnx,ecx];obtain⟨f,rfl⟩:∃f',f=f'+1:=⟨f - 1,om⟩;rw[jq] at g;dsimp only at g;rw[dE auV]
  try simp only[rs]
  by_cases R:t.length=0
  ·rw[auP R] at g;simp only[show ai ((0:Int) < (t.length:Int))=au from auQ om,i_f];rw[mU avE avN auV (dO (d.at_ 0 rfl))];exact o _ _ ⟨by rw[<-g];rfl,d.done⟩
  rw[auO R] at g;simp only[show ai ((0:Int) < (t.length:Int))=av from auR om,i_t];have N:n+i<=t.length:=Nat.le_of_dvd om (aBk M);refine join λJ3 O=>?_;have r:j.oneCell'=true:=kD (B L (d.at_ 1 rfl));have next:∀tag:Nat,(tag=if i=1 then (t.getD 0 0).toNat else 1)->J3 [ad (tag:Int)] L:=by
   intro tag C;rw[<-C] at g;refine O _ _ λ_=>?_;simp only[uJ,gd,rs,iN,bnx];by_cases S:5<=tag
   ·rw[auP S] at g;simp only[show ai ((5:Int)<=(tag:Int))=av from auR om,i_t];exact o _ _ ⟨by rw[<-g];rfl,d.done⟩
   rw[auO S] at g;simp only[show ai ((5:Int)<=(tag:Int))=au from auQ om,i_f];have u:((t.drop i).take n).length=n:=by rw[avA,avF];omega
   have k:(dr (tag:Int) prev co [] ((t.drop i).take n)).length=n:=by rw[nt,u];simp
   have fin:∀b cap W,dQ NoB w W [.mkr 5 b ((t.drop i).take n),iS ov out,e,rwE q j (cW b 0 ((t.drop i).take n).length cap) co]->fQ (ae t) (ad (n:Int)) (ad (i:Int)) ov (af q 0) (ad (tag:Int)) W (PZ (λvs W=>∃(t prev out:List UInt8) (ov va j:aq) (e:Ent),vs=[ae t,ov]∧t.length<=s.length∧t.length % (n+i)=0∧out.length+t.length<=s.length∧prev.length<=1000000∧BRd e j prev∧va.oneCell'=av∧(∃f,t.length < f∧jq co n i f t prev out=X)∧dQ NoB w W [iS ov out,e,rwE q va j co]) (λvs _=>qO (vs.getD 0 undef)) [ae t,ov] L) K:=by
    intro b cap W d;unfold fQ ldx bnx fax slx apx cx;rw[AT (d.agg 3 rfl Rx)];refine aoQ 2 0 dc d rfl rfl B Q om λW2 d=>?_;refine aC (bE A4) |>.mpr (aC (B4 (d.at_ 3 rfl)) |>.mpr ?_);have m:=WH (cap:=cap) (d.at_ 0 rfl);rw[k] at m;rw[u];refine bN 1 avE G8 dc d rfl m bU om om λv' D d=>?_
    try simp only[rs]
    rw[aA om om,Hl auV om om,show ((n:Int)+(i:Int)).toNat=n+i by omega];have E:BRd (.mkr 5 b (dr (tag:Int) prev co [] ((t.drop i).take n))) (cW b 0 n cap) (dr (tag:Int) prev co [] ((t.drop i).take n)):=by
     have:=@R8 b cap (dr (tag:Int) prev co [] ((t.drop i).take n))
     rwa [k] at this
    have d:dQ NoB w D [.mkr 5 b (dr (tag:Int) prev co [] ((t.drop i).take n)),iS v' (out++dr (tag:Int) prev co [] ((t.drop i).take n)),e,rwE q j (cW b 0 n cap) co]:=by
     rw[eJ,k];rw[u] at d;exact d
    have F:(t.drop (n+i)).length=t.length - (n+i):=avF;refine aU ⟨t.drop (n+i),_,_,v',j,_,_,rfl,om,?_,by rw[auU,k];omega,by rw[k];omega,E,r,⟨f,om,g⟩,?_⟩ ?_
    ·rw[F,aBl N] at *;omega
    ·exact (dQ.swap d).sub (.cons_cons _ (.cons_cons _ (.cons _ (axX _))))
    ·show qO (ae (t.drop (n+i))) < qO (ae t);rw[iH,iH,F];omega
   have d:=d.drew;refine⟨λW=>∃a,(rwE q a j co).is W,⟨va,d.at_ 2 rfl⟩,?_⟩;refine aX _ (λ_=>bE A4) (iJ _ (λW ⟨a,h⟩=>B4 h) ?_);refine aX _ (λ_=>Qz) ?_;rw[aA om om];refine aX _ (λ_=>jD auV om om om) ?_;rw[show ((n:Int)+(i:Int)).toNat - ((i:Nat):Int).toNat=n by omega,auW];refine aX _ (λ_=>bE UP) ⟨?_,?_⟩
   ·refine K3 auV avE avN d λb cap w7 d=>⟨⟨va,d.at_ 3 rfl⟩,?_⟩;refine aK 3 d rfl krx r (by show 0+0 < 3;omega) λw8 d=>?_;refine aX _ (λ_=>bE A4) ?_;refine aK 3 d rfl krx rfl (by show 0+1 < 3;omega) λD d=>?_;exact fin b cap D d
   ·refine aK 2 d rfl krx r (by show 0+0 < 3;omega) λw8 d=>?_;refine K3 auV avE avN d λb cap w7 d=>⟨⟨j,d.at_ 3 rfl⟩,?_⟩;refine aX _ (λ_=>bE A4) ?_;refine aK 3 d rfl krx rfl (by show 0+1 < 3;omega) λD d=>?_;exact fin b cap D d
  try simp only[rs]
  by_cases G:i=1
  ·simp only[show ai ((i:Int)=1)=av from auR om,i_t];rw[H4 (c:=t.getD 0 0) auV dc (get0 om),Dm];exact next _ (by rw[auP G])
  ·simp only[show ai ((i:Int)=1)=au from auQ om,i_f];exact next 1 (by rw[auO G])
 have y:x.head=if 10<=x.p then 1 else 0:=rfl
 by_cases l:10<=x.p
 ·simp only[l,auS,i_t];rw[auP l] at y;rw[y] at main;exact main
 ·simp only[l,auT,i_f];rw[auO l] at y;rw[y] at main;exact main
theorem Pj (x:Pm)(s:List UInt8)(w:ao)(hs:s.length<=1000000000):Ret ah 93 #[pmV x,ae s] w (λv w'=>v=zlT (ev x s)∧Below w.heap.size w w'):=by
 refine aL λK j=>wX ?_;generalize d:ev x s=X at j;unfold ev at d;unfold oB nz;refine GY x (Own.start w) λb U a=>?_;rw[Ij a 0 rfl];refine aI a (vD x U) ?_;rintro _ w2 rfl a;simp only[bO];by_cases h:x.ok
 case neg=>
  rw[auP h] at d;rw[auO h];simp only[show ai ((1:Int)≠0)=av from rfl,i_t];exact j _ _ ⟨by rw[<-d];rfl,a.done⟩
 rw[auO (by simp[h])] at d;rw[auP h];simp only[show ai ((0:Int)≠0)=au from rfl,i_f];rw[dE auV]
 try simp only[rs]
 by_cases Q:1048576 < s.length
 ·rw[auP Q] at d;simp only[show ai ((1048576:Int) < (s.length:Int))=av from auR om,i_t];exact j _ _ ⟨by rw[<-d];rfl,a.done⟩
 rw[auO Q] at d;simp only[show ai ((1048576:Int) < (s.length:Int))=au from auQ om,i_f];rw[Hr,He a 0 rfl]
 try simp only[rs]
 by_cases D:x.p=1
 ·rw[auP D] at d;simp only[D,auS,i_t];exact j _ _ ⟨by rw[<-d];rfl,a.done⟩
 rw[auO D] at d;simp only[D,auT,i_f];rw[Ij a 0 rfl];refine aI a (Vj x w2) ?_;rintro _ w3 rfl a;rw[auP h];have F:=Pm.mul_pos h;have G:=h.2.2.2.2;have V:1<=x.c∧x.c<=1000000:=⟨h.2.1,by have:=h.2.2.2.1;omega⟩;obtain⟨n,Y⟩:∃n:Nat,x.c*x.n=(n:Int):=⟨(x.c*x.n).toNat,om⟩;rw[Y] at F G d ⊢;rw[auW] at d;refine join λJ Z=>?_;rw[Hr,He a 0 rfl]
 try simp only[rs]
 have main:J [ad (x.head:Int)] w3:=by
  refine Z _ _ λ_=>?_;simp only[kM,gd,nz];have o:x.head<=1:=by unfold Pm.head;split<;>omega
  rw[dE auV]
  try simp only[rs]
  rw[aA om om,show (n:Int)+(x.head:Int)=((n+x.head:Nat):Int) by omega,Ep om,aoN]
  try simp only[rs]
  by_cases E:s.length % (n+x.head)=0
  case neg=>
   rw[auP E] at d;simp only[show ai (((s.length % (n+x.head):Nat):Int)≠0)=av from auR om,i_t];exact j _ _ ⟨by rw[<-d];rfl,a.done⟩
  rw[auO (by simp[E])] at d;simp only[show ai (((s.length % (n+x.head):Nat):Int)≠0)=au from auQ om,i_f];generalize x.head=g at d o E ⊢;have a:=(a.nilU 5 1).nilU 5 1;have a:dQ NoB w w3 [iS dY [],iS dY [],pmE b x]:=a;refine loop (λvs W=>∃(k:Nat) (prev out:List UInt8) (ov pv:aq),vs=[pv,ov,ad (k:Int)]∧k<=s.length∧(s.length - k) % (n+g)=0∧out.length<=k∧prev.length<=1000000∧(∃f,s.length - k < f∧jq x.c n g f (s.drop k) prev out=X)∧dQ NoB w W [iS ov out,iS pv prev,pmE b x]) (λvs _=>s.length - n2 vs) ⟨0,[],[],dY,dY,rfl,om,E,sm,sm,⟨_,om,d⟩,a⟩ ?_;clear a d;rintro vs R ⟨k,prev,out,ov,pv,rfl,hk,l,a1,a6,⟨f,hf,d⟩,a⟩ _;simp only[jT,gd,nz];obtain⟨f,rfl⟩:∃f',f=f'+1:=⟨f - 1,om⟩;rw[jq] at d;dsimp only at d;rw[avF] at d;rw[dE auV]
  try simp only[rs]
  by_cases S:s.length - k=0
  ·rw[auP S] at d;simp only[show ai ((k:Int) < (s.length:Int))=au from auQ om,i_f];rw[mU avE avN auV (dO (a.at_ 0 rfl))];exact j _ _ ⟨by rw[<-d];rfl,a.done⟩
  rw[auO S] at d;simp only[show ai ((k:Int) < (s.length:Int))=av from auR om,i_t];have H:n+g<=s.length - k:=Nat.le_of_dvd om (aBk l);have I:(s.drop k).getD 0 0=s.getD k 0:=by rw[auZ,axJ,auZ,axA]
  rw[I] at d;refine join λJ3 L=>?_;have next:∀tag:Nat,(tag=if g=1 then (s.getD k 0).toNat else 1)->J3 [ad (tag:Int)] R:=by
   intro tag q;rw[<-q] at d;refine L _ _ λ_=>?_;simp only[jU,gd,rs,nz];by_cases T:5<=tag
   ·rw[auP T] at d;simp only[show ai ((4:Int) < (tag:Int))=av from auR om,i_t];exact j _ _ ⟨by rw[<-d];rfl,a.done⟩
   rw[auO T] at d;simp only[show ai ((4:Int) < (tag:Int))=au from auQ om,i_f];have r:(((s.drop k).drop g).take n).length=n:=by rw[avA,avF,avF];omega
   have t:(dr (tag:Int) prev x.c [] (((s.drop k).drop g).take n)).length=n:=by rw[nt,r];simp
   generalize u:((s.drop k).drop g).take n=src at d r t;have M:∀i:Nat,i < n->s[k+g+i]?=src[i]?:=λi hi=>by
    rw[<-u,aAJ hi,axJ,axJ,show k+(g+i)=k+g+i by omega]
   generalize e:dr (tag:Int) prev x.c [] src=row at d t;have a:=a.nilU 5 1;have a:dQ NoB w R [iS dY [],iS ov out,iS pv prev,pmE b x]:=a;refine loop (λvs W=>∃(p:List UInt8) (m:aq),vs=[m,ad (p.length:Int)]∧p.length<=n∧dr (tag:Int) prev x.c p (src.drop p.length)=row∧dQ NoB w W [iS m p,iS ov out,iS pv prev,pmE b x]) (λvs _=>n - n1 vs) ⟨[],dY,rfl,sm,e,a⟩ ?_;clear a e;rintro vs w7 ⟨p,m,rfl,hp,e,a⟩ _;simp only[kJ,gd,rs,iN,bnx,apx];by_cases y:(p.length:Int) < (n:Int)
   ·simp only[y,auS,i_t];have z:p.length < src.length:=om
    have N:src.drop p.length=src[p.length]::src.drop (p.length+1):=avW z;rw[N,dr] at e;refine dR (λW=>dQ NoB w W [iS m p,iS ov out,iS pv prev,pmE b x]) a.drew ?_;refine iR ?_;rw[aA om om];refine iR ?_;rw[aA om om];refine q_ix (c:=src[p.length]) auV om (by rw[show ((k:Int)+(g:Int)+(p.length:Int)).toNat=k+g+p.length by omega,M _ om];exact auX z) ?_;refine eZ _ (λ_=>bE Oq) (kE _ (λW h=>OT (h.at_ 3 rfl)) ?_);refine fC (.int .u8 ((dy (tag:Int) prev p (p.length:Int) x.c).toNat:Int)) (λW h=>(Wb (tag:Int) prev p pv m (p.length:Int) x.c W om V (dO (h.at_ 2 rfl)) (dO (h.at_ 0 rfl))).mono λv w' ⟨k1,k2⟩=>⟨k1,k2▸h⟩) ?_;refine iR ?_;rw[aeF];intro w8 a;refine Nc _ a λb8 w9 a=>?_;refine bN 1 avE G8 dc a rfl (gX (a.at_ 0 rfl) dc rfl) bU om om λv' A a=>?_
    try simp only[rs]
    rw[aA om om];have O:(p++[src[p.length]+dy (tag:Int) prev p (p.length:Int) x.c]).length=p.length+1:=sm
    refine aU ⟨p++[src[p.length]+dy (tag:Int) prev p (p.length:Int) x.c],v',by rw[O];rfl,by rw[O];omega,by rw[O];exact e,?_⟩ (by simp[n1,RowKit.intOf];omega);rw[eJ];exact a.tail
   ·simp only[y,auT,i_f];have a7:p.length=src.length:=om
    rw[awK om] at e;have e:p=row:=e;subst e;refine bN 1 avE G8 dc a rfl (dO (a.at_ 0 rfl)) bU om om λv' A a=>?_
    try simp only[rs]
    rw[aA (n:=(n:Int)+(g:Int)) om om,aA om om];have a:dQ NoB w A [iS m p,iS v' (out++p),iS pv prev,pmE b x]:=by
     rw[eJ];exact a
    refine aU ⟨k+(n+g),p,out++p,v',m,?_,om,?_,by rw[auU];omega,om,⟨f,om,by rw[azE] at d;exact d⟩,?_⟩ (by simp[n2,RowKit.intOf];omega)
    ·congr 3
    ·rw[aBl H] at l;rw[show s.length - (k+(n+g))=s.length - k - (n+g) by omega];exact l
    ·exact (dQ.swap a).sub (.cons_cons _ (.cons_cons _ (.cons _ (axX _))))
  try simp only[rs]
  by_cases B:g=1
  ·simp only[show ai ((g:Int)=1)=av from auR om,i_t];rw[H4 (c:=s.getD k 0) auV om (by rw[auW];exact get0 om),Dm];exact next _ (by rw[auP B])
  ·simp only[show ai ((g:Int)=1)=au from auQ om,i_f];exact next 1 (by rw[auO B])
 have P:=h.1;have o:x.head=if 10<=x.p then 1 else 0:=rfl
 unfold Pm.known at P;by_cases C:2 < x.p
 ·simp only[C,auS,i_t];rw[auP om] at o;rw[o] at main;exact main
 ·simp only[C,auT,i_f];rw[auO om] at o;rw[o] at main;exact main
end
section
open Eng
def B9(t0 t1 w)(K:KT):=nz f154 1 [] [] [] (zg [0,1] [t0,t1]) w K
theorem CW:B9 t0 t1 w k0->Calls ah 154 #[t0,t1] w k0:=cw func154
def AU(t0 t1 w)(K:KT):=nz f153 1 [] [] [(0,13)] (zg [0,1] [t0,t1]) w K
theorem FZ:AU t0 t1 w k0->Calls ah 153 #[t0,t1] w k0:=cw func153
def sZ(t0 t1 t5 t22 t23 w)(a:JT)(K:KT):=nz f159 43 [a] [nh 13 [5,23]] [] (zg [0,1,5,22,23] [t0,t1,t5,t22,t23]) w K
def tF(t0 t1 t4 w)(a:JT)(K:KT):=nz f159 10 [a] [nh 3 [4],(13,[5,23],λs v j w f=>sZ (s 0) (s 1) (vg v 0) (s 22) (vg v 1) w (f 0) K)] [] (zg [0,1,4] [t0,t1,t4]) w K
def yL(t0 t1 w)(K:KT):=nz f159 1 [] [(3,[4],λs v j w f=>tF (s 0) (s 1) (vg v 0) w (f 0) K)] [] (zg [0,1] [t0,t1]) w K
theorem Ef:yL t0 t1 w k0->Calls ah 159 #[t0,t1] w k0:=cz [] [(1,[4]),(6,[5,23])] func159
def Mx(t0 t1 t2 w)(K:KT):=nz f160 1 [] [] [] (zg [0,1,2] [t0,t1,t2]) w K
theorem Ng:Mx t0 t1 t2 w k0->Calls ah 160 #[t0,t1,t2] w k0:=cw func160
def bI (a:Deferred)(b:aq)(c:aq)(K:Ending->ao->Prop):=pd ah [.cell b 9,.cell c 35] K [a]
def Aw(e c f w)(K:KT):=
 alx 9 w K λa w=>alx 35 w K λb w=>dx (Q7 (.func 185) #[] #[a,b]) w K λg w=>DfrX (dfrV g #[]) (λd1=>DoX ah (gS .geq 3 c (iN 0)) w (bI d1 a b K) λh w=>eN ah 154 #[h,(iN 1)] w (bI d1 a b K) λo w=>DoX ah (mB .min #[3,3] 3 #[au,av] #[c,(iN 1048576)]) w (bI d1 a b K) λi w=>DoX ah (aN 219 #[(1,i)]) w (bI d1 a b K) λj w=>DoX ah (AS 219 j) w (bI d1 a b K) λd w=>DoX ah (fV f #[e,d]) w (bI d1 a b K) λp w=>DoX ah (GZ d) w (bI d1 a b K) λk w=>DoX ah (mFA 219 k 0) w (bI d1 a b K) λl w=>DoX ah (aG 70 l) w (bI d1 a b K) λm w=>DoX ah (nG 70 9 m) w (bI d1 a b K) λn w=>DoX ah (aV 9 a n) w (bI d1 a b K) λ_ w=>DoX ah (aV 35 b (iN 0)) w (bI d1 a b K) λ_ w=>Et ah [.cell a 9,.cell b 35] K [d1] .returning w)
theorem FY:Aw t0 t1 t2 w k0->Calls ah 149 #[t0,t1,t2] w k0:=cw func149
def Hp(t0 t1 w)(K:KT):=nz f114 1 [] [] [] (zg [0,1] [t0,t1]) w K
theorem Kj:Hp t0 t1 w k0->Calls ah 114 #[t0,t1] w k0:=cw func114
def Fe(t0 t1 w)(K:KT):=nz f116 1 [] [] [] (zg [0,1] [t0,t1]) w K
theorem Iv:Fe t0 t1 w k0->Calls ah 116 #[t0,t1] w k0:=cw func116
def GG(t0 t1 w)(K:KT):=nz f118 1 [] [] [] (zg [0,1] [t0,t1]) w K
theorem Kr:GG t0 t1 w k0->Calls ah 118 #[t0,t1] w k0:=cw func118
def xA(a b w)(d:JT)(K:KT):=
 bnx .add 3 b (iN 1) w K λc w=>d [a,c] w
def mW(w)(K:KT):=
 K (.returned (.tuple #[])) w
def xO(f e a g b w)(C:JT)(K:KT):=
 bnx .lss 3 b g w K λh w=>IfX h (zP (λz=>dx (mIx 9 f b) w K λc w=>cx 151 #[c] w K λd w=>cx 152 #[c] w K λi w=>IfX i (z [a] w) (eqx .eql 5 (.tmp 30) (.const (.int .u8 62)) c (.int .u8 62) w K λj w=>IfX j (zP (λB=>bnx .geq 3 a (iN 0) w K λk w=>IfX k (bnx .mul 3 (iN 16) a w K λl w=>dx (nG 3 5 l) w K λm w=>dx (bJ 70 1 #[(0,m)]) w K λn w=>cx 153 #[e,n] w K λu w=>B [] w) (B [] w)) (λD w=>∀_:Sg,mW w K)) (bnx .lss 3 d (iN 0) w K λo w=>IfX o (cx 154 #[(.bool au),(iN 3)] w K λv w=>z [a] w) (bnx .lss 3 a (iN 0) w K λp w=>IfX p (z [d] w) (bnx .mul 3 (iN 16) a w K λq w=>bnx .add 3 q d w K λr w=>dx (nG 3 5 r) w K λs w=>dx (bJ 70 1 #[(0,s)]) w K λt w=>cx 153 #[e,t] w K λx w=>z [(iN (-1))] w))))) (λA w=>∀_:Sg,xA (A.getD 0 undef) b w C K)) (cx 154 #[(.bool au),(iN 4)] w K λy w=>K (.returned (.tuple #[])) w)
def DP(a b w)(K:KT):=
 lnx 9 a w K λc w=>zr [(iN (-1)),(iN 0)] w (λd w e=>∀_:Sg,xO a b (d.getD 0 undef) c (d.getD 1 undef) w e K)
theorem Ge:DP t0 t1 w k0->Calls ah 150 #[t0,t1] w k0:=cz [(16,[4]),(999999,[])] [(2,[4,10])] func150
def uL(t9 w)(a:JT)(K:KT):=nz f158 245 [a] [nh 5 [9]] [] (zg [9] [t9]) w K
def vO(t0 t1 t4 t8 t9 w)(a:JT)(K:KT):=nz f158 21 [a] [nh 5 [9],(32,[],λs v j w f=>uL (s 9) w (f 0) K)] [] (zg [0,1,4,8,9] [t0,t1,t4,t8,t9]) w K
def AZ(t0 t1 w)(K:KT):=nz f158 1 [] [(5,[9],λs v j w f=>vO (s 0) (s 1) (s 4) (s 8) (vg v 0) w (f 0) K)] [] (zg [0,1] [t0,t1]) w K
theorem FO:AZ t0 t1 w k0->Calls ah 158 #[t0,t1] w k0:=cz [(16,[])] [(2,[9])] func158
def yD(t0 t1 w)(a:JT)(K:KT):=nz f163 2 [a] [nh 1 [0]] [] (zg [0,1] [t0,t1]) w K
def Cz(t0 t1 w)(K:KT):=nz f163 1 [] [(1,[0],λs v j w f=>yD (vg v 0) (s 1) w (f 0) K)] [] (zg [0,1] [t0,t1]) w K
theorem Hc:Cz t0 t1 w k0->Calls ah 163 #[t0,t1] w k0:=cz [] [(0,[0])] func163
def eH(w)(K:KT):=
 K (.returned (.tuple #[])) w
def fT(a b r w)(K:KT):=
 eqx .eql 20 (.tmp 5) (.const .nilIface) r .nilIface w K λf w=>IfX f (K (.returned (.tuple #[])) w) (dx (mTA r 20 217 av) w K λd w=>exx d 1 w K λg w=>exx d 0 w K λh w=>IfX g (alx 217 w K λc w=>stx 217 c h w K λ_ w=>DrawX w (λw=>(fax 217 c 0 w K λe w=>(ldx 35 e w K λi w=>stx 9 a (.string ⟨#[]⟩) w K λ_ w=>stx 35 b i w K λ_ w=>eH w K)∧(stx 9 a (.string ⟨#[]⟩) w K λ_ w=>ldx 35 e w K λj w=>stx 35 b j w K λ_ w=>eH w K))∧(stx 9 a (.string ⟨#[]⟩) w K λ_ w=>fax 217 c 0 w K λk w=>ldx 35 k w K λl w=>stx 35 b l w K λ_ w=>eH w K))) (dx (G3 r) w K λ_ w=>K (.returned (.tuple #[])) w))
theorem Cg (t0 t1 r:aq)(w:ao)(K:Ending->ao->Prop):wpX ah 13 [] [] aw (Yj (wG f185)) (topD ah [] K) (upd (jX [t0,t1]) 5 r) [] w=fT t0 t1 r w K:=krx
theorem lY {R:Ending->FrameMode->ao->Prop}(h:fT t0 t1 (zw u) w (λe w=>R e (Al u) w)):CallsD ah 185 #[t0,t1] u w R:=
 wD func185 rfl rfl rfl rfl rfl rfl rfl rfl (Eq.mpr (Cg t0 t1 (zw u) w _) h)
end
section
open Eng Go.RowKit
def eo (most:Nat):List UInt8->Int->List UInt8->List UInt8×Int
|[],_,_=>([],4)
|c::r,half,out=>
  if Oc.JV c=av then eo most r half out
  else if c=62 then (if half < 0 then (out,0) else if most<=out.length then ([],5) else (out++[UInt8.ofNat (16*half.toNat)],0))
  else if Lx.digit c < 0 then ([],3)
  else if half < 0 then eo most r (Lx.digit c) out
  else if most<=out.length then ([],5)
  else eo most r (-1) (out++[UInt8.ofNat (16*half+Lx.digit c).toNat])
def eh (D:Nat->List UInt8×Int)(most:Int):List UInt8×Int:=if most < 0 then ([],1) else D (min most.toNat 1048576)
def jd (s:List UInt8)(most:Int):List UInt8×Int:=eh (λm=>eo m s (-1) []) most
def skC (ov:aq)(most:Nat):List Value:=[ov,ad (most:Int)]
abbrev skE (b:Nat)(ov:aq)(most:Nat):Ent:=.cells b (skC ov most) 219
abbrev Sk (b:Nat)(most:Nat)(ov:aq)(out:List UInt8)(T:List Ent):List Ent:=skE b ov most::iS ov out::T
theorem T9:uM ah 219 0=ax 0:=krx
theorem apP:uM ah 219 1=ax 1:=krx
theorem anS:jZ ah 217=true:=krx
theorem apE:uM ah 217 0=ax 0:=krx
theorem arB:(Tryz.prog.info? 217).map (·.size)=ax 1:=krx
theorem PW:cD ah 185=true:=krx
def upA (e:Int):PanicEntry:={ v:=.iface 217 (.agg #[ad e]),recovered:=au }
theorem ajY (e:Int)(w:ao):Ret ah 154 #[.bool av,ad e] w (λv w'=>v=.tuple #[]∧w=w'):=by
 refine aL λK a=>CW ?_;unfold B9 nz;simp only[rs,avY,i_f];exact a _ _ ⟨rfl,rfl⟩
theorem akJ (e:Int)(w:ao):Pan ah 154 #[.bool au,ad e] w (λc w'=>c=[upA e]∧w=w'):=by
 refine TH λK a=>CW ?_;unfold B9 nz;simp only[rs,awA,i_t];have b:∀{PK:PKT} {K:VWP},DoX ah (aN 217 #[(0,ad e)]) w PK K=K (.agg #[ad e]) w:=aC krx;rw[b,KP anS,Ib];exact a _ _ ⟨rfl,rfl⟩
section
variable {w:ao}{PK:PKT}{K:VWP}{S:Nat->Prop}{w0:ao}{L T:List Ent}
theorem nB {e:Int}(a:q=av->K (.tuple #[]) w)(b:q=au->PK [upA e] w):eN ah 154 #[.bool q,ad e] w PK K:=by
 cases q with
|true=>exact zq (ajY e w) (a rfl)
|false=>exact acS (akJ e w) λc w' ⟨d,hw⟩=>by subst d;subst hw;exact b rfl
theorem aiN {ov:aq}(h:(skE b ov most).is W):(aG 70 (af b (0+0))).run ah W=.ok (.value ov) W:=aB MT (aJ (T:=219) (cs:=skC ov most) h rfl)
theorem ahV {ov:aq}(h:(skE b ov most).is W):(aG 3 (af b (0+1))).run ah W=.ok (.value (ad (most:Int))) W:=aB aW (aJ (T:=219) (cs:=skC ov most) h rfl)
theorem xX {l:List UInt8}(h:Sl W v 1 l.length (aM l)):(mB .len #[70] 3 #[au] #[v]).run ah W=.ok (.value (ad (l.length:Int))) W:=by
 obtain⟨_,a,cap,rfl,_⟩:=h;simp[mB,builtin,Builtin.len_,run_underlying avE,goInt]
theorem Ub {ov:aq}{out l:List UInt8}(a:dQ S w0 w (e::Sk b most ov out T))(f:BRd e v2 l)(hm:most<=1048576)(g:out.length<=most)(m:l.length<=1000000000)
  (i:out.length+l.length<=most->∀c W,dQ S w0 W (Sk b most c (out++l) T)->K (.tuple #[]) W)
  (j:most < out.length+l.length->∀W,dQ S w0 W (Sk b most ov out T)->PK [upA 5] W):eN ah 153 #[af b 0,v2] w PK K:=by
 refine⟨FZ ?_⟩;unfold AU nz;refine dR (λW=>dQ S w0 W (e::Sk b most ov out T)) a.drew ?_;refine eZ _ (λ_=>cS) (eZ _ (λ_=>bE T9) (kE _ (λW h=>aiN (h.at_ 1 rfl)) ?_));refine kE _ (λW h=>xX (dO (h.at_ 2 rfl))) ?_;refine kE _ (λW h=>xX (f W (h.at_ 0 rfl))) (iR ?_);rw[aA om om];refine eZ _ (λ_=>cS) (eZ _ (λ_=>bE apP) (kE _ (λW h=>ahV (h.at_ 1 rfl)) (acJ ?_)));intro k a;refine nB (λh=>?_) (λh=>j (by have:=avU h;omega) k a.tail);have hle:=avG h;rw[bD,aQ T9,aH MT (a.cell 1 rfl 0 rfl)];refine bN 2 avE G8 dc a rfl (f _ (a.at_ 0 rfl)) bU om om λv' w2 a=>?_;rw[bD,aQ T9];have d:v'.oneCell'=true:=kD (Sl.urow (a.at_ 2 rfl));refine aK 1 a rfl krx d (by show 0+0 < 2;omega) λw3 a=>?_;refine i om v' w3 ?_;unfold Sk;rw[eJ];exact a.tail
end
theorem Cb (f:Nat)(hp:cD ah f=av)(s:List UInt8)(most:Int)(D:Nat->List UInt8×Int)(M:Mem)(w:ao)(n:M.has w)
  (p:∀{S:Nat->Prop} {w0 w:ao} {T:List Ent} {PK:PKT} {K:VWP} (b c:Nat),c<=1048576->dQ S w0 w (Sk b c dY [] (.mem M::T)) ->
   (∀i out W,D c=(out,0)->out.length<=c->dQ S w0 W (Sk b c i out (.mem M::T))->K (.tuple #[]) W)->(∀e i out W,D c=([],e)->dQ S w0 W (Sk b c i out (.mem M::T))->PK [upA e] W) ->
   eN ah f #[ae s,af b 0] w PK K) :
  lA ah 149 #[ae s,ad most,.func (.func f) #[] #[]] M w (λv _=>v=zlT (eh D most)∧(eh D most).1.length<=1048576):=by
 refine aO n λK l=>FY ?_;generalize d:eh D most=X at l;unfold eh at d;unfold Aw iN dx alx;refine bB (λb=>af b 0) [.string ⟨#[]⟩] 9 (λ_=>by kernel_rfl) (dQ.memS n) λg t a=>?_;refine bB (λb=>af b 0) [ad 0] 35 (λ_=>by kernel_rfl) a λh w3 a=>?_;have a:dQ M.A w w3 ([LN h 0,Lg g []]++([.mem M]++[])):=a;have a:=a.front;rw[tM];refine⟨_,rfl,?_⟩;have fail:∀{W:ao} {L:List Ent} {e:Int},dQ M.A w W (L++([.mem M,LN h 0,Lg g []]++[]))->X=([],e) ->
   bI { target:=.fn (.func 185) #[af g 0,af h 0],args:=#[]++#[] } (af g 0) (af h 0) K [upA e] W:=by
  intro W L e a o;have a:=a.front;have a:dQ M.A w W (.mem M::LN h 0::Lg g []::(L++[])):=a;show pd ah _ K _ [upA e] W;unfold pd;refine kG sm PW (lY (t0:=af g 0) (t1:=af h 0) ?_);simp only[fT,zw,Al,upA,Eng.YI ayD,rs,ZG anS,ex,i_t,i_f,dx,ldx,fax,exx,stx,eqx,alx];refine bB (λb=>af b 0) [ad 0] 217 (λ_=>by kernel_rfl) a λx q a=>?_;refine gF 0 a rfl (new:=[ad e]) arB (λu hu=>by rw[avV.1 hu];rfl) rfl λy a=>?_;refine⟨?_⟩;have a:=a.drew
  repeat' first
  |apply And.intro
  |refine aC (bE apE) |>.mpr ?_
  |refine aC (aB GW (a.cell 0 rfl 0 rfl)) |>.mpr ?_
  |refine aK 3 a rfl krx rfl sm (λ_ a=>?_)
  |refine aK 2 a rfl krx rfl sm (λ_ a=>?_)
  all_goals
   unfold eH;refine mP (bG (AtV.cell ZH (a.cell 3 rfl 0 rfl))) (bG (AtV.cell GW (a.cell 2 rfl 0 rfl))) (l _ _ M _ 1 a rfl M.le_refl ⟨by rw[o];rfl,by rw[o];exact avK _⟩)
 try simp only[rs]
 refine nB (λk=>?_) (λk=>?_)
 rotate_left
 ·have:=avU k;rw[auP om] at d;exact fail (L:=[]) a d.symm
 have k:=avG k;rw[auO om] at d;rw[Vi,show min most 1048576=((min most.toNat 1048576:Nat):Int) by omega];have j:min most.toNat 1048576<=1048576:=azQ _ _;generalize min most.toNat 1048576=c at d j;have e:∀W:ao,(aN 219 #[(1,ad (c:Int))]).run ah W=.ok (.value (.agg (skC dY c).toArray)) W:=λW=>by kernel_rfl
 refine aC (e w3) |>.mpr ?_;refine bB (λb=>af b 0) (skC dY c) 219 (λ_=>by kernel_rfl) a λfb q a=>?_;have a:=(dQ.nilU a 5 1).swap;refine OI hp ?_;refine p (T:=[LN h 0,Lg g []]) fb c j a (λov out W m r a=>?_) (λe ov out W m a=>?_)
 rotate_left
 ·exact fail (L:=[skE fb ov c,iS ov out]) a (d.symm.trans m)
 rw[bD,aQ T9,aH MT (a.cell 0 rfl 0 rfl),mU avE avN auV (dO (a.at_ 1 rfl))];refine aK 4 a rfl krx rfl sm λz a=>?_;refine aK 3 a rfl krx rfl sm λB a=>?_;refine kG sm PW (lY (t0:=af g 0) (t1:=af h 0) ?_);simp only[fT,zw,Al,Eng.Vd ayD,rs,i_t,i_f,dx,ldx,fax,exx,stx,eqx,alx];rw[m] at d;refine mP (bG (AtV.cell ZH (a.cell 4 rfl 0 rfl))) (bG (AtV.cell GW (a.cell 3 rfl 0 rfl))) (l _ _ M _ 2 a rfl M.le_refl ⟨by rw[<-d];rfl,by rw[<-d];dsimp only;omega⟩)
theorem QN:cD ah 150=true:=krx
theorem afY (c:UInt8):-1<=Lx.digit c∧Lx.digit c<=15:=by
 unfold Lx.digit;have:=awQ c
 repeat' split
 all_goals omega
theorem Z3 {T:List Ent}(s:List UInt8)(b k:Nat)(H:s.length<=1000000000)(hm:k<=1048576)(j:dQ S w0 w (Sk b k dY [] T))
  (A:∀a out W,eo k s (-1) []=(out,0)->out.length<=k->dQ S w0 W (Sk b k a out T)->K (.tuple #[]) W) (u:∀e a out W,eo k s (-1) []=([],e)->dQ S w0 W (Sk b k a out T)->PK [upA e] W) :
  eN ah 150 #[ae s,af b 0] w PK K:=by
 generalize d:eo k s (-1) []=X at A u;refine⟨Ge ?_⟩;unfold DP iN lnx;rw[dE auV];refine loop (λvs W=>∃(i:Nat) (half:Int) (ov:aq) (out:List UInt8),vs=[ad half,ad (i:Int)]∧i<=s.length∧-1<=half∧half<=15∧out.length<=k∧eo k (s.drop i) half out=X∧dQ S w0 W (Sk b k ov out T)) (λvs _=>s.length - n1 vs) ⟨0,-1,dY,[],rfl,om,om,om,sm,d,j⟩ ?_;clear j d;rintro vs q ⟨i,half,ov,out,rfl,hi,C,D,o,d,j⟩ _;simp only[xO,gd,rs,iN,dx,bnx,eqx,cx];by_cases v:(i:Int) < (s.length:Int)
 case neg=>
  simp only[v,auT,i_f];rw[awK om] at d;exact nB (λh=>by cases h) (λ_=>u 4 ov out q d.symm j)
 simp only[v,auS,i_t];have x:i < s.length:=om
 rw[avW x,eo] at d;have B:=auX x;generalize s[i]=c at d B;refine join λJ E=>?_;have next:∀(f:Int) (a:aq) (m:List UInt8) (W:ao),-1<=f->f<=15->m.length<=k->eo k (s.drop (i+1)) f m=X->dQ S w0 W (Sk b k a m T)->J [ad f] W:=by
  intro f a m W g1 g2 g3 g4 j;refine E _ _ λ_=>?_;simp only[xA,gd,rs,iN,bnx];rw[aA om om];exact aU ⟨i+1,f,a,m,rfl,om,g1,g2,g3,g4,j⟩ (by simp[n1,RowKit.intOf];omega)
 rw[H4 auV om (by rw[auW];exact B)];refine zq (Yn c q) (zq (Ro c q) ?_);have F:=afY c;by_cases hw:Oc.JV c=av
 ·rw[auP hw] at d;rw[hw,i_t];exact next half ov out q C D o d j
 rw[auO hw] at d;rw[aA0.2 hw,i_f]
 try simp only[rs]
 have key:∀{n:Nat} {PK:PKT} {K:VWP},(out.length < k->∀a W,dQ S w0 W (Sk b k a (out++[UInt8.ofNat n]) T)->K (.tuple #[]) W)->(k<=out.length->∀W,dQ S w0 W (Sk b k ov out T)->PK [upA 5] W) ->
   DoX ah (bJ 70 1 #[(0,.int .u8 ((UInt8.ofNat n).toNat:Int))]) q PK λt w=>eN ah 153 #[af b 0,t] w PK K:=by
  intro n PK K G a2;refine Nc _ j λI w2 j=>?_;exact Ub (l:=[UInt8.ofNat n]) j (λW h=>gX h dc rfl) hm o sm (λg a W j=>G (by simp at g;omega) a W j) (λg W j=>a2 (by simp at g;omega) W j)
 by_cases p:c=62
 ·rw[auP p] at d;simp only[show ai ((c.toNat:Int)=62)=av by rw[p];rfl,i_t];refine join λL y=>?_;by_cases r:half < 0
  ·rw[auP r] at d;simp only[show ai ((0:Int)<=half)=au from auQ om,i_f];refine y _ _ λ_=>?_;unfold mW;exact A ov out q d.symm o j
  rw[auO r] at d;simp only[show ai ((0:Int)<=half)=av from auR om,i_t];rw[aA om om,show 16*half=((16*half.toNat:Nat):Int) by omega];refine aC (aZ krx avN) |>.mpr ?_;rw[rA];refine key (λg a W j=>?_) (λg W j=>?_)
  ·rw[auO om] at d;refine y _ _ λ_=>?_;unfold mW;exact A a _ W d.symm (by simp;omega) j
  ·rw[auP g] at d;exact u 5 ov out W d.symm j
 rw[auO p] at d;simp only[show ai ((c.toNat:Int)=62)=au from auQ (λh=>p (aAh.1 (by rw[show (62:UInt8).toNat=62 from rfl];omega))),i_f];by_cases z:Lx.digit c < 0
 ·rw[auP z] at d;simp only[z,auS,i_t];exact nB (λh=>by cases h) (λ_=>u 3 ov out q d.symm j)
 rw[auO z] at d;simp only[z,auT,i_f];by_cases r:half < 0
 ·rw[auP r] at d;simp only[r,auS,i_t];exact next _ ov out q om om o d j
 rw[auO r] at d;simp only[r,auT,i_f];rw[aA (n:=16*half) om om,aA om om,show 16*half+Lx.digit c=((16*half+Lx.digit c).toNat:Int) by omega];refine aC (aZ krx avN) |>.mpr ?_;rw[rA];refine key (λg a W j=>?_) (λg W j=>?_)
 ·rw[auO om] at d;exact next _ a _ W om om (by simp;omega) d j
 ·rw[auP g] at d;exact u 5 ov out W d.symm j
theorem Vb (s:List UInt8)(most:Int)(M:Mem)(w:ao)(d:s.length<=1000000000)(a:M.has w):lA ah 114 #[ae s,ad most] M w (λv _=>v=zlT (jd s most)∧(jd s most).1.length<=1048576):=by
 refine aO a λK e=>Kj ?_;unfold Hp nz;refine aY (dQ.memS a) 0 rfl (Cb _ QN s most _ M w a λb f hm c g h=>Z3 s b f d hm c g h) ?_;rintro _ N j g1 ⟨rfl,i⟩ c;simp only[zlT,ex];exact e _ _ N _ 0 c rfl g1 ⟨rfl,i⟩
end
section
open Eng
def lU(t6 t7 t8 w)(a:JT)(K:KT):=nz f89 1887 [a] [nh 15 [6,7,8]] [] (zg [6,7,8] [t6,t7,t8]) w K
def fO(t6 w)(K:KT):=nz f89 240991 [] [nh 15 [6,7,8],nh 16 [6,7]] [] (zg [6] [t6]) w K
def mO(t0 t1 t6 t7 t8 w)(a:JT)(K:KT):=nz f89 351 [a] [nh 15 [6,7,8],(32,[6],λs v j w f=>fO (vg v 0) w K),(16,[6,7],λs v j w f=>lU (vg v 0) (vg v 1) (s 8) w (f 0) K)] [] (zg [0,1,6,7,8] [t0,t1,t6,t7,t8]) w K
def qE(t0 t1 w)(K:KT):=nz f89 1 [] [(15,[6,7,8],λs v j w f=>mO (s 0) (s 1) (vg v 0) (vg v 1) (vg v 2) w (f 0) K)] [] (zg [0,1] [t0,t1]) w K
theorem zC:qE t0 t1 w k0->Calls ah 89 #[t0,t1] w k0:=cz [(8,[6,7]),(16,[6])] [(7,[6,7,8])] func89
def mA(t3 t4 w)(a:JT)(K:KT):=nz f130 235 [a] [nh 7 [3,4]] [] (zg [3,4] [t3,t4]) w K
def lP(t0 t3 t4 w)(a:JT)(K:KT):=nz f130 43 [a] [nh 7 [3,4],(8,[3],λs v j w f=>mA (vg v 0) (s 4) w (f 0) K)] [] (zg [0,3,4] [t0,t3,t4]) w K
def qC(t0 w)(K:KT):=nz f130 1 [] [(7,[3,4],λs v j w f=>lP (s 0) (vg v 0) (vg v 1) w (f 0) K)] [] (zg [0] [t0]) w K
theorem yZ:qC t0 w k0->Calls ah 130 #[t0] w k0:=cz [(4,[3])] [(3,[3,4])] func130
def qU(t0 t1 w)(K:KT):=nz f131 1 [] [] [] (zg [0,1] [t0,t1]) w K
theorem Ai:qU t0 t1 w k0->Calls ah 131 #[t0,t1] w k0:=cw func131
def sX(t0 t1 t2 w)(K:KT):=nz f129 1 [] [] [] (zg [0,1,2] [t0,t1,t2]) w K
theorem Bk:sX t0 t1 t2 w k0->Calls ah 129 #[t0,t1,t2] w k0:=cw func129
def jV(t6 t7 t8 w)(a:JT)(K:KT):=nz f90 943 [a] [nh 13 [6,7,8]] [] (zg [6,7,8] [t6,t7,t8]) w K
def eV(t1 t6 t10 w)(a:JT)(K:KT):=nz f90 65199 [nj,a] [nh 13 [6,7,8],nh 14 [6,7]] [] (zg [1,6,10] [t1,t6,t10]) w K
def kN(t0 t1 t6 t7 t8 w)(a:JT)(K:KT):=nz f90 175 [a] [nh 13 [6,7,8],(46,[10],λs v j w f=>eV (s 1) (s 6) (vg v 0) w (f 0) K),(14,[6,7],λs v j w f=>jV (vg v 0) (vg v 1) (s 8) w (f 0) K)] [] (zg [0,1,6,7,8] [t0,t1,t6,t7,t8]) w K
def nX(t0 t1 w)(K:KT):=nz f90 1 [] [(13,[6,7,8],λs v j w f=>kN (s 0) (s 1) (vg v 0) (vg v 1) (vg v 2) w (f 0) K)] [] (zg [0,1] [t0,t1]) w K
theorem xK:nX t0 t1 w k0->Calls ah 90 #[t0,t1] w k0:=cz [(7,[6,7]),(23,[10])] [(6,[6,7,8])] func90
def lI(t6 t11 w)(a:JT)(K:KT):=nz f91 966575 [nj,a] [nh 13 [6,7],nh 37 [6,11]] [] (zg [6,11] [t6,t11]) w K
def mD(t0 t6 t7 t8 t9 t10 t11 w)(a b:JT)(K:KT):=nz f91 180143 [a,b] [nh 13 [6,7],nh 37 [6,11],(38,[6],λs v j w f=>lI (vg v 0) (s 11) w (f 0) K)] [] (zg [0,6,7,8,9,10,11] [t0,t6,t7,t8,t9,t10,t11]) w K
def lF(t0 t1 t6 t7 t8 t9 t10 w)(a:JT)(K:KT):=nz f91 8111 [a] [nh 13 [6,7],(37,[6,11],λs v j w f=>mD (s 0) (vg v 0) (s 7) (s 8) (s 9) (s 10) (vg v 1) w (f 1) (f 0) K)] [] (zg [0,1,6,7,8,9,10] [t0,t1,t6,t7,t8,t9,t10]) w K
def mL(t0 t1 t6 t7 w)(a:JT)(K:KT):=nz f91 175 [a] [nh 13 [6,7],(26,[9,10],λs v j w f=>lF (s 0) (s 1) (s 6) (s 7) (s 8) (vg v 0) (vg v 1) w (f 0) K)] [] (zg [0,1,6,7] [t0,t1,t6,t7]) w K
def pZ(t0 t1 w)(K:KT):=nz f91 1 [] [(13,[6,7],λs v j w f=>mL (s 0) (s 1) (vg v 0) (vg v 1) w (f 0) K)] [] (zg [0,1] [t0,t1]) w K
theorem Ap:pZ t0 t1 w k0->Calls ah 91 #[t0,t1] w k0:=cz [(13,[9,10]),(19,[6])] [(6,[6,7]),(18,[6,11])] func91
end
section
open Eng Go.RowKit
theorem qe (a:Nat):∀(s:List UInt8) (h:Int) (out:List UInt8),out.length<=a->(eo a s h out).1.length<=a
|[],_,_,_=>avK _
|c::r,h,out,b=>by
  unfold eo
  repeat' split
  all_goals first|exact qe a r _ _ b|exact b|exact avK _|(simp;omega)|exact qe a r _ _ (by simp;omega)
theorem QQ (s:List UInt8)(most:Int)(w:ao)(L:s.length<=1000000000):Ret ah 89 #[ae s,ad most] w (λv w'=>v=zlT (jd s most)∧Below w.heap.size w w'):=by
 refine aL λK k=>zC ?_;generalize a:jd s most=X at k;unfold jd eh at a;unfold qE nz
 try simp only[rs]
 by_cases z:most < 0
 ·rw[auP z] at a;simp only[z,auS,i_t];exact k _ _ ⟨by rw[<-a];rfl,Below.refl _ _⟩
 rw[auO z] at a;simp only[z,auT,i_f];rw[Vi,show min most 1048576=((min most.toNat 1048576:Nat):Int) by omega];have hm:min most.toNat 1048576<=1048576:=azQ _ _;generalize min most.toNat 1048576=g at a hm;refine loop (λvs W=>∃(i:Nat) (half:Int) (ov:aq) (out:List UInt8),vs=[ov,ad half,ad (i:Int)]∧i<=s.length∧-1<=half∧half<=15∧out.length<=g∧eo g (s.drop i) half out=X∧dQ NoB w W [iS ov out]) (λvs _=>s.length - n2 vs) ⟨0,-1,dY,[],rfl,om,om,om,sm,a,(Own.start w).nilU 5 1⟩ ?_;clear a;rintro vs m ⟨i,half,ov,out,rfl,hi,D,E,r,a,d⟩ _;simp only[mO,gd,nz];rw[dE auV]
 try simp only[rs]
 by_cases u:(i:Int) < (s.length:Int)
 case neg=>
  simp only[u,auT,i_f];rw[awK om] at a;exact k _ _ ⟨by rw[<-a];rfl,d.done⟩
 simp only[u,auS,i_t];have x:i < s.length:=om
 rw[avW x,eo] at a;have C:=auX x;generalize s[i]=c at a C;refine join λJ F=>?_;have next:∀(b:Int) (e:aq) (f:List UInt8) (W:ao),-1<=b->b<=15->f.length<=g->eo g (s.drop (i+1)) b f=X->dQ NoB w W [iS e f]->J [e,ad b] W:=by
  intro b e f W g1 g2 g3 g4 d;refine F _ _ λ_=>?_;simp only[lU,gd,rs,nz];rw[aA om om];exact aU ⟨i+1,b,e,f,rfl,om,g1,g2,g3,g4,d⟩ (by simp[n2,RowKit.intOf];omega)
 have o:∀{PK:PKT} {K:VWP} {W:ao},DoX ah (mIx 9 (ae s) (ad (i:Int))) W PK K=K (.int .u8 (c.toNat:Int)) W:=λ{_ _ _}=>H4 auV om (by rw[auW];exact C);rw[o];refine zq (Oi c m) ?_;have G:=afY c;by_cases hw:Oc.JV c=av
 ·rw[auP hw] at a;rw[hw,i_t];exact next half ov out m D E r a d
 rw[auO hw] at a;rw[aA0.2 hw,i_f,o];refine zq (Wc c m) ?_;rw[o]
 try simp only[rs]
 have put:∀{n:Nat} {PK:PKT} {K:VWP},(∀e W,dQ NoB w W [iS e (out++[UInt8.ofNat n])]->K e W) ->
   DoX ah (bJ 70 1 #[(0,.int .u8 ((UInt8.ofNat n).toNat:Int))]) m PK λt w=>DoX ah (mB .append #[70,70] 70 #[au,au] #[ov,t]) w PK K:=by
  intro n PK K H;refine Nc _ d λM w2 d=>?_;refine bN 1 avE G8 dc d rfl (gX (d.at_ 0 rfl) dc rfl) bU om om λv' B d=>H v' B ?_;rw[eJ];exact d.tail
 have l:∀{PK:PKT} {K:VWP},DoX ah (mB .len #[70] 3 #[au] #[ov]) m PK K=K (ad (out.length:Int)) m:=λ{_ _}=>aC (xX (dO (d.at_ 0 rfl)));by_cases j:c=62
 ·rw[auP j] at a;simp only[show ai ((c.toNat:Int)=62)=av by rw[j];rfl,i_t];by_cases p:half < 0
  ·rw[auP p] at a;simp only[show ai ((0:Int)<=half)=au from auQ om,rs,i_f];refine join λI q=>?_;refine q _ _ λ_=>?_;simp only[fO,gd,nz];rw[mU avE avN auV (dO (d.at_ 0 rfl))];exact k _ _ ⟨by rw[<-a];rfl,d.done⟩
  rw[auO p] at a;simp only[show ai ((0:Int)<=half)=av from auR om,rs,i_t];rw[l]
  try simp only[rs]
  by_cases y:g<=out.length
  ·rw[auP y] at a;simp only[show ai ((g:Int)<=(out.length:Int))=av from auR om,i_t];exact k _ _ ⟨by rw[<-a];rfl,d.done⟩
  rw[auO y] at a;simp only[show ai ((g:Int)<=(out.length:Int))=au from auQ om,i_f];refine join λI q=>?_;rw[aA om om,show 16*half=((16*half.toNat:Nat):Int) by omega];refine aC (aZ krx avN) |>.mpr ?_;rw[rA];refine put λe W d=>?_;refine q _ _ λ_=>?_;simp only[fO,gd,nz];rw[mU avE avN auV (dO (d.at_ 0 rfl))];exact k _ _ ⟨by rw[<-a];rfl,d.done⟩
 rw[auO j] at a;simp only[show ai ((c.toNat:Int)=62)=au from auQ (λh=>j (aAh.1 (by rw[show (62:UInt8).toNat=62 from rfl];omega))),i_f];by_cases A:Lx.digit c < 0
 ·rw[auP A] at a;simp only[A,auS,i_t];exact k _ _ ⟨by rw[<-a];rfl,d.done⟩
 rw[auO A] at a;simp only[A,auT,i_f];by_cases p:half < 0
 ·rw[auP p] at a;simp only[p,auS,i_t];exact next _ ov out m om om r a d
 rw[auO p] at a;simp only[p,auT,i_f];rw[l]
 try simp only[rs]
 by_cases y:g<=out.length
 ·rw[auP y] at a;simp only[show ai ((g:Int)<=(out.length:Int))=av from auR om,i_t];exact k _ _ ⟨by rw[<-a];rfl,d.done⟩
 rw[auO y] at a;simp only[show ai ((g:Int)<=(out.length:Int))=au from auQ om,i_f];rw[aA (n:=16*half) om om,aA om om,show 16*half+Lx.digit c=((16*half+Lx.digit c).toNat:Int) by omega];refine aC (aZ krx avN) |>.mpr ?_;rw[rA];refine put λe W d=>?_;exact next _ e _ W om om (by simp;omega) a d
def fh (most:Nat):Nat->List UInt8->List UInt8->List UInt8×Int
|0,_,_=>([],13)
|f+1,s,out=>
  match s with
 |[]=>([],4)
 |c::r=>
   if c.toNat=128 then (out,0)
   else if c.toNat < 128 then
    if r.length < c.toNat+1 then ([],4)
    else if most < out.length+(c.toNat+1) then ([],5)
    else fh most f (r.drop (c.toNat+1)) (out++r.take (c.toNat+1))
   else if r.length < 1 then ([],4)
   else if most < out.length+(257 - c.toNat) then ([],5)
   else fh most f (r.drop 1) (out++Lib.repeatL (r.take 1) (257 - c.toNat))
def ly (s:List UInt8)(most:Int):List UInt8×Int:=eh (λm=>fh m (s.length+1) s []) most
theorem QC:cD ah 163=true:=krx
theorem Ca {s:List UInt8}(h:s.length=1):∀n,(Lib.repeatL s n).length=n
|0=>rfl
|n+1=>by rw[CX,auU,Ca h n,h]
theorem acB {T:List Ent}(s:List UInt8)(b j:Nat)(C:s.length<=1000000000)(hm:j<=1048576)(d:dQ S w0 w (Sk b j dY [] T))
  (q:∀i out W,fh j (s.length+1) s []=(out,0)->out.length<=j->dQ S w0 W (Sk b j i out T)->K (.tuple #[]) W) (m:∀e i out W,fh j (s.length+1) s []=([],e)->dQ S w0 W (Sk b j i out T)->PK [upA e] W) :
  eN ah 163 #[ae s,af b 0] w PK K:=by
 generalize a:fh j (s.length+1) s []=X at q m;refine⟨Hc ?_⟩;unfold Cz nz;refine loop (λvs W=>∃(t:List UInt8) (ov:aq) (out:List UInt8),vs=[ae t]∧t.length<=s.length∧out.length<=j∧(∃f,t.length < f∧fh j f t out=X)∧dQ S w0 W (Sk b j ov out T)) (λvs _=>qO (vs.getD 0 undef)) ⟨s,dY,[],rfl,auY _,sm,⟨_,om,a⟩,d⟩ ?_;clear d a;rintro vs o ⟨t,ov,out,rfl,hi,p,⟨f,y,a⟩,d⟩ _;simp only[yD,gd,nz];obtain⟨f,rfl⟩:∃f',f=f'+1:=⟨f - 1,om⟩;unfold fh at a;have he:∀{u:List UInt8} {W:ao} {xo yo:Operand} {PK:PKT} {K:VWP},DoX ah (mEq .neq 9 xo yo (ae u) (.string ⟨#[]⟩)) W PK K=K (.bool (ai (u≠[]))) W:=λ{u _ _ _ _ _}=>Wx (b:=[]);rw[he];cases t with
|nil=>exact nB (λh=>by simp at h) (λ_=>m 4 ov out o a.symm d)
|cons c r=>
 rw[show ai ((c::r:List UInt8)≠[])=av from rfl];refine nB (λ_=>?_) (λh=>by cases h);dsimp only at a;rw[H4 (c:=c) auV dc rfl,Dm,Hl auV dc (by simp;omega)];rw[show (1:Int).toNat=1 from rfl,List.drop_one,List.tail_cons];have z:=awQ c;generalize c.toNat=n at a z;rw[avR] at hi y
 try simp only[rs]
 by_cases v:n=128
 ·rw[auP v] at a;simp only[show ai ((n:Int)=128)=av from auR om,i_t];exact q ov out o a.symm p d
 rw[auO v] at a;simp only[show ai ((n:Int)=128)=au from auQ om,i_f];have put:∀{l:List UInt8} {W:ao} {PK:PKT} {K:VWP},l.length<=1000->dQ S w0 W (Sk b j ov out T)->(out.length+l.length<=j->∀i W,dQ S w0 W (Sk b j i (out++l) T)->K (.tuple #[]) W)->(j < out.length+l.length->∀W,dQ S w0 W (Sk b j ov out T)->PK [upA 5] W) ->
   DoX ah (nG 9 70 (ae l)) W PK λt w=>eN ah 153 #[af b 0,t] w PK K:=by
  intro l W PK K D d A a2;refine K3 auV avE avN d λb2 cap w2 d=>?_;exact Ub d R8 hm p om A a2
 by_cases x:n < 128
 ·rw[auP x] at a;simp only[show ai ((n:Int) < 128)=av from auR om,i_t];rw[dE auV]
  try simp only[rs]
  refine nB (λg=>?_) (λg=>?_)
  rotate_left
  ·have:=avU g;rw[auP om] at a;exact m 4 ov out o a.symm d
  have g:=avG g;rw[auO om] at a;rw[aA om om,Us auV om om,show ((n:Int)+1).toNat=n+1 by omega];have k:(r.take (n+1)).length=n+1:=by rw[avA];omega
  refine put om d (λg2 i W d=>?_) (λg2 W d=>?_)
  ·rw[auO om] at a;rw[Hl auV om om,show ((n:Int)+1).toNat=n+1 by omega];refine aU ⟨r.drop (n+1),i,_,rfl,by rw[avF];omega,by rw[auU];omega,⟨f,by rw[avF];omega,a⟩,d⟩ (by show qO (ae (r.drop (n+1))) < qO (ae (c::r));rw[iH,iH,avF,avR];omega)
  ·rw[auP om] at a;exact m 5 ov out W a.symm d
 rw[auO x] at a;simp only[show ai ((n:Int) < 128)=au from auQ om,i_f]
 try rw[he]
 refine nB (λg=>?_) (λg=>?_)
 rotate_left
 ·have g:=avU g;rw[auP (by rw[Decidable.not_not.1 g];decide)] at a;exact m 4 ov out o a.symm d
 have g:r≠[]:=avG g;have g:0 < r.length:=azU.2 g;rw[auO om] at a;rw[Us auV dc om,show (1:Int).toNat=1 from rfl]
 try simp only[rs]
 rw[aA om om,show (257:Int) - (n:Int)=((257 - n:Nat):Int) by omega];have k:(r.take 1).length=1:=by rw[avA];omega
 refine aI d (VW (r.take 1) (257 - n) o (by rw[k];omega) om) ?_;rintro _ w2 rfl d;have B:=Ca k (257 - n);refine put om d (λg2 i W d=>?_) (λg2 W d=>?_)
 ·rw[auO om] at a;rw[Hl auV om om,show (1:Int).toNat=1 from rfl];refine aU ⟨r.drop 1,i,_,rfl,by rw[avF];omega,by rw[auU];omega,⟨f,by rw[avF];omega,a⟩,d⟩ (by show qO (ae (r.drop 1)) < qO (ae (c::r));rw[iH,iH,avF,avR];omega)
 ·rw[auP om] at a;exact m 5 ov out W a.symm d
theorem VF (s:List UInt8)(most:Int)(M:Mem)(w:ao)(d:s.length<=1000000000)(a:M.has w):lA ah 118 #[ae s,ad most] M w (λv _=>v=zlT (ly s most)∧(ly s most).1.length<=1048576):=by
 refine aO a λK e=>Kr ?_;unfold GG nz;refine aY (dQ.memS a) 0 rfl (Cb _ QC s most _ M w a λb f hm c g h=>acB s b f d hm c g h) ?_;rintro _ N j g1 ⟨rfl,i⟩ c;simp only[zlT,ex];exact e _ _ N _ 0 c rfl g1 ⟨rfl,i⟩
section
variable {w:ao}{PK:PKT}{K:VWP}{S:Nat->Prop}{w0:ao}{L T:List Ent}
theorem Uh (c:UInt8){ov:aq}{out:List UInt8}(a:dQ S w0 w (iS ov out::T))(e:out.length<=1000000000)(k:∀b W,dQ S w0 W (iS b (out++[c])::T)->K b W) :
  DoX ah (bJ 70 1 #[(0,.int .u8 (c.toNat:Int))]) w PK λt w=>DoX ah (mB .append #[70,70] 70 #[au,au] #[ov,t]) w PK K:=by
 refine Nc _ a λf w2 a=>?_;refine bN 1 avE G8 dc a rfl (gX (a.at_ 0 rfl) dc rfl) bU om om λv' d a=>k v' d ?_;rw[eJ];exact a.tail
theorem Rq {ov:aq}{out:List UInt8}(i:Nat)(a:dQ S w0 w L)(hi:L[i]?=ax (iS ov out)):DoX ah (mB .len #[70] 3 #[au] #[ov]) w PK K=K (ad (out.length:Int)) w:=aC (xX (dO (a.at_ i hi)))
end
theorem Qx (s:List UInt8)(most:Int)(w:ao)(M:s.length<=1000000000):Ret ah 91 #[ae s,ad most] w (λv w'=>v=zlT (ly s most)∧Below w.heap.size w w'):=by
 refine aL λK l=>Ap ?_;generalize a:ly s most=X at l;unfold ly eh at a;unfold pZ nz
 try simp only[rs]
 by_cases u:most < 0
 ·rw[auP u] at a;simp only[u,auS,i_t];exact l _ _ ⟨by rw[<-a];rfl,Below.refl _ _⟩
 rw[auO u] at a;simp only[u,auT,i_f];rw[Vi,show min most 1048576=((min most.toNat 1048576:Nat):Int) by omega];have hm:min most.toNat 1048576<=1048576:=azQ _ _;generalize min most.toNat 1048576=k at a hm;refine loop (λvs W=>∃(i:Nat) (ov:aq) (out:List UInt8),vs=[ov,ad (i:Int)]∧i<=s.length∧out.length<=k∧(∃f,s.length - i < f∧fh k f (s.drop i) out=X)∧dQ NoB w W [iS ov out]) (λvs _=>s.length - n1 vs) ⟨0,dY,[],rfl,om,sm,⟨_,om,a⟩,(Own.start w).nilU 5 1⟩ ?_;clear a;rintro vs E ⟨i,ov,out,rfl,hi,F,⟨f,N,a⟩,b⟩ _;simp only[mL,gd,nz];obtain⟨f,rfl⟩:∃f',f=f'+1:=⟨f - 1,om⟩;unfold fh at a;rw[dE auV]
 try simp only[rs]
 by_cases o:(i:Int) < (s.length:Int)
 case neg=>
  simp only[o,auT,i_f];rw[awK om] at a;exact l _ _ ⟨by rw[<-a];rfl,b.done⟩
 simp only[o,auS,i_t];have p:i < s.length:=om
 rw[avW p] at a;dsimp only at a;rw[H4 auV om (by rw[auW];exact auX p),Dm];have G:=awQ s[i];generalize s[i].toNat=n at a G;rw[avF,azE] at a
 try simp only[rs]
 by_cases z:n=128
 ·rw[auP z] at a;simp only[show ai ((n:Int)=128)=av from auR om,i_t];rw[mU avE avN auV (dO (b.at_ 0 rfl))];exact l _ _ ⟨by rw[<-a];rfl,b.done⟩
 rw[auO z] at a;simp only[show ai ((n:Int)=128)=au from auQ om,i_f];rw[aA (n:=(n:Int)+1) om om,aA (n:=(i:Int)+1) om om,aA (n:=(i:Int)+1+(n:Int)) om om,aA (n:=(i:Int)+1+(n:Int)+1) om om];refine join λJ H=>?_;have main:∀(m d:Nat) (src:List UInt8),m<=1000->i < d->d<=i+1000->(d<=s.length->src.length=m∧∀j,j < m->src[j]?=s[if 128 < n then i+1 else i+1+j]?)->(if s.length < d then ([],4) else if k < out.length+m then ([],5) else fh k f (s.drop d) (out++src))=X->J [ad (m:Int),ad (d:Int)] E:=by
  intro m d src g1 g2 g3 g4 a;refine H _ _ λ_=>?_;simp only[lF,gd,nz];rw[dE auV]
  try simp only[rs]
  by_cases A:s.length < d
  ·rw[auP A] at a;simp only[show ai ((s.length:Int) < (d:Int))=av from auR om,i_t];exact l _ _ ⟨by rw[<-a];rfl,b.done⟩
  rw[auO A] at a;simp only[show ai ((s.length:Int) < (d:Int))=au from auQ om,i_f];obtain⟨g5,g6⟩:=g4 om;rw[Rq 0 b rfl]
  try simp only[rs]
  rw[aA om om];by_cases B:k < out.length+m
  ·rw[auP B] at a;simp only[show ai ((k:Int) - (out.length:Int) < (m:Int))=av from auR om,i_t];exact l _ _ ⟨by rw[<-a];rfl,b.done⟩
  rw[auO B] at a;simp only[show ai ((k:Int) - (out.length:Int) < (m:Int))=au from auQ om,i_f];refine loop (λvs W=>∃(j:Nat) (ov:aq),vs=[ov,ad (j:Int)]∧j<=m∧dQ NoB w W [iS ov (out++src.take j)]) (λvs _=>m - n1 vs) ⟨0,ov,rfl,om,by rw[ayJ,awF];exact b⟩ ?_;clear b;rintro vs w2 ⟨j,ov,rfl,x,b⟩ _;simp only[mD,gd,rs,nz];by_cases q:(j:Int) < (m:Int)
  case neg=>
   simp only[q,auT,i_f];have:j=m:=om
   subst this;rw[avX om] at b;exact aU ⟨d,ov,out++src,rfl,om,by rw[auU];omega,⟨f,om,a⟩,b⟩ (by simp[n1,RowKit.intOf];omega)
  simp only[q,auS,i_t];have r:j < src.length:=om
  have g7:=g6 j om;rw[auX r] at g7;refine join λI y=>?_;have next:∀e W,dQ NoB w W [iS e (out++src.take j++[src[j]])]->I [e] W:=by
   intro e W b;refine y _ _ λ_=>?_;simp only[lI,gd,rs,nz];rw[aA om om];refine aU ⟨j+1,e,rfl,om,?_⟩ (by simp[n1,RowKit.intOf];omega);rw[avP r,<-avO];exact b
  have g:(out++src.take j).length<=1000000000:=by rw[auU,avA];omega
  by_cases C:128 < n
  ·simp only[show ai ((128:Int) < (n:Int))=av from auR om,i_t];rw[auP C] at g7;rw[aA om om,H4 (c:=src[j]) auV om (by rw[show ((i:Int)+1).toNat=i+1 by omega];exact g7.symm)];exact Uh _ b g next
  ·simp only[show ai ((128:Int) < (n:Int))=au from auQ om,i_f];rw[auO C] at g7;rw[aA (n:=(i:Int)+1) om om,aA om om,H4 (c:=src[j]) auV om (by rw[show ((i:Int)+1+(j:Int)).toNat=i+1+j by omega];exact g7.symm)];exact Uh _ b g next
 by_cases D:n < 128
 ·rw[auP D] at a;simp only[show ai ((128:Int) < (n:Int))=au from auQ om,i_f];have:=main (n+1) (i+1+n+1) ((s.drop (i+1)).take (n+1)) om om om (λh=>⟨by rw[avA,avF];omega,λj x=>by rw[auO om,aAJ x,axJ]⟩) ?_
  ·exact this
  rw[<-a];by_cases t:s.length < i+1+n+1
  ·rw[auP t,auP om]
  ·rw[auO t,auO (show ¬s.length - (i+1) < n+1 by omega)];rfl
 ·rw[auO D] at a;simp only[show ai ((128:Int) < (n:Int))=av from auR om,i_t];rw[aA om om,aA om om,show (257:Int) - (n:Int)=((257 - n:Nat):Int) by omega];refine main (257 - n) (i+2) (Lib.repeatL ((s.drop (i+1)).take 1) (257 - n)) om om om (λh=>?_) ?_
  ·have L:((s.drop (i+1)).take 1)=[s[i+1]]:=by
    rw[avW om];rfl
   rw[L,repeatL_one];refine⟨awJ,λj x=>?_⟩;rw[auP om,aAH,auP x,auX]
  rw[<-a];by_cases t:s.length < i+2
  ·rw[auP t,auP om]
  ·rw[auO t,auO (show ¬s.length - (i+1) < 1 by omega),azE]
def jh:List Nat:=[52200625,614125,7225,85,1]
def du (g:List UInt8)(i:Nat):Nat:=(g.getD i 84).toNat
def dw (g:List UInt8):Nat:=(((du g 0*85+du g 1)*85+du g 2)*85+du g 3)*85+du g 4
def ji (g:List UInt8):Nat->Nat
|0=>0
|i+1=>ji g i+du g i*jh.getD i 0
theorem fl (g:List UInt8)(i:Nat):du g i < 256:=awQ _
theorem uy (g:List UInt8):ji g 5=dw g:=by
 simp only[ji,dw,jh];show 0+du g 0*52200625+du g 1*614125+du g 2*7225+du g 3*85+du g 4*1=_;omega
theorem lt5 (h:i < 5):i=0∨i=1∨i=2∨i=3∨i=4:=om
theorem qz (h:i < 5):jh.getD i 0<=52200625:=by
 rcases lt5 h with rfl|rfl|rfl|rfl|rfl<;>decide
theorem ow (g:List UInt8):∀i,i<=5->ji g i<=i*13311159375
|0,_=>auY _
|i+1,h=>by
  have a:=ow g i om;have b:du g i*jh.getD i 0<=255*52200625:=axW (by have:=fl g i;omega) (qz om);simp only[ji];omega
def gw (a:Nat)(r g out:List UInt8):List UInt8×Int:=
 if r=[] then ([],4)
 else if r.getD 0 0≠62∨g.length=1 then ([],3)
 else if g.length=0 then (out,0)
 else if 4294967296<=dw g then ([],3)
 else if a < out.length+(g.length - 1) then ([],5)
 else (out++(bo (dw g)).take (g.length - 1),0)
def fe (a:Nat):List UInt8->List UInt8->List UInt8->List UInt8×Int
|[],_,_=>([],4)
|c::r,g,out=>
  if Oc.JV c=av then fe a r g out
  else if c.toNat=122∧g.length=0 then (if a < out.length+4 then ([],5) else fe a r [] (out++[0,0,0,0]))
  else if 33<=c.toNat∧c.toNat<=117 then
   if g.length+1 < 5 then fe a r (g++[c - 33]) out
   else if 4294967296<=dw (g++[c - 33]) then ([],3)
   else if a < out.length+4 then ([],5)
   else fe a r [] (out++bo (dw (g++[c - 33])))
  else if c.toNat=126 then gw a r g out
  else ([],3)
def lz (s:List UInt8)(most:Int):List UInt8×Int:=eh (λm=>fe m s [] []) most
def Pws (M:Mem):Prop:=M.A 0∧∀i,i < 5->M.w.cell? ⟨0,i,aw⟩=ax (.int .u64 ((jh.getD i 0:Nat):Int))
theorem Pws.le {M N:Mem}(h:M.le N)(k:Pws M):Pws N:=⟨h.A _ k.1,λi hi=>Mem.cell h.has k.1 (k.2 i hi)⟩
def pwV:Value:=.agg #[.int .u64 52200625,.int .u64 614125,.int .u64 7225,.int .u64 85,.int .u64 1]
def gpC (d:List UInt8)(n:Nat):List Value:=aM d++[ad (n:Int)]
abbrev gpE (b:Nat)(d:List UInt8)(n:Nat):Ent:=.cells b (gpC d n) 196
def gp0 (g:List UInt8):List UInt8:=g++List.replicate (5 - g.length) 0
theorem pD {g:List UInt8}(h:g.length<=5):(gp0 g).length=5:=by unfold gp0;rw[auU,awJ];omega
theorem Xf:uM ah 196 0=ax 0:=krx
theorem Hg:uM ah 196 1=ax 5:=krx
theorem szGp:(Tryz.prog.info? 196).map (·.size)=ax 6:=krx
theorem sz4b:(Tryz.prog.info? 187).map (·.size)=ax 4:=krx
theorem aqY:By ah 192=ax 5:=krx
theorem adV {d:List UInt8}{n:Nat}(h:d.length=5):(gpC d n)[5]?=ax (ad (n:Int)):=by
 unfold gpC;rw[ayL (by rw[fI];omega),fI,h];rfl
theorem aiP {d:List UInt8}{n:Nat}(h:i < d.length):(gpC d n)[i]?=ax (.int .u8 (d[i].toNat:Int)):=by
 unfold gpC;rw[axO (by rw[fI];exact h),gP h]
theorem WS {d:List UInt8}{n:Nat}{c:UInt8}(h:i < d.length):(gpC d n).set i (.int .u8 (c.toNat:Int))=gpC (d.set i c) n:=by
 unfold gpC;rw[List.set_append_left _ _ (by rw[fI];exact h)];simp[aM,aAb]
theorem aaO {d:List UInt8}{n:Nat}(h:d.length=5):(gpC d n).set 5 (ad (m:Int))=gpC d m:=by
 unfold gpC;rw[aAV _ _ (by rw[fI];omega),fI,h];rfl
theorem OZ {d:List UInt8}{n:Nat}:(gpC d n).length=d.length+1:=by simp[gpC,fI]
theorem anK {n k:Nat}(a:k<=64):((n:Nat):Int).fdiv (2 ^ (min ((k:Nat):Int).toNat IntKind.u64.bits))=((n / 2 ^ k:Nat):Int):=by
 rw[show min ((k:Nat):Int).toNat IntKind.u64.bits=k by show min ((k:Nat):Int).toNat 64=k;omega,Sd]
theorem Lw {n:Nat}(h:n < 18446744073709551616):IntKind.u64.wrap (n:Int)=(n:Int):=by unfold IntKind.wrap;simp[IntKind.bits,IntKind.signed];omega
theorem Sl.pre {h:Nat}{l:List UInt8}{T:TypeId}(hw:W.heap[b]?=ax (.cells (aM l).toArray T (0,0)))(e:h<=l.length):Sl W (cW b 0 h cap) 1 (l.take h).length (aM (l.take h)):=by
 have d:(l.take h).length=h:=by rw[avA];omega
 refine⟨by rw[fI,avQ],ax ⟨b,0,aw⟩,cap,by rw[d],(λh=>by cases h),λp hp=>by
  cases hp;refine⟨λ_=>rfl,λj u a=>?_⟩;rw[avC];refine aJ (T:=T) (cs:=aM l) hw ?_;have:aM (l.take h)=(aM l).take h:=by simp[aM,azR]
  rw[this] at a;have c:=(avL.1 a).1;rw[avA] at c
  rwa [aAJ om] at a⟩
section
variable {w:ao}{PK:PKT}{K:VWP}{S:Nat->Prop}{w0:ao}{L T:List Ent}
theorem ajT (h:Pws M)(hm:M.has W):DoX ah (aG 192 (af 0 0)) W PK K=K pwV W:=by
 refine AT (AtV.agg (cs:=[.int .u64 52200625,.int .u64 614125,.int .u64 7225,.int .u64 85,.int .u64 1]) aqY rfl λj v b=>?_);have a:j < 5:=(avL.1 b).1;rw[avC,Mem.cell hm h.1 (h.2 j a)];rcases lt5 a with rfl|rfl|rfl|rfl|rfl<;>exact b
theorem alS (hi:i < 5):(mIx 192 pwV (ad (i:Int))).run ah w=.ok (.value (.int .u64 ((jh.getD i 0:Nat):Int))) w:=by
 rcases lt5 hi with rfl|rfl|rfl|rfl|rfl<;>kernel_rfl
theorem Xn (hi:i < 5):(mIA 194 (af b 0) (ad (i:Int))).run ah w=.ok (.value (af b i)) w:=by
 rcases lt5 hi with rfl|rfl|rfl|rfl|rfl<;>kernel_rfl
theorem aqT {h:Nat}(a:h<=4):(cY 187 (af b 0) aw (ax (ad (h:Int))) aw).run ah w=.ok (.value (cW b 0 h 4)) w:=by
 rcases (by omega:h=0∨h=1∨h=2∨h=3∨h=4) with rfl|rfl|rfl|rfl|rfl<;>kernel_rfl
theorem Dl (a:dQ S w0 w L)(j:Nat){n:Nat}{d:List UInt8}(hi:L[j]?=ax (gpE b d n))(c:d.length=5):DoX ah (aG 3 (af b (0+5))) w PK K=K (ad (n:Int)) w:=aH aW (a.cell j hi 5 (adV c))
theorem aeS {m r:Nat}{ov:aq}{out g:List UInt8}(f:dQ S w0 w (Sk b m ov out (gpE r (gp0 g) g.length::.mem M::T)))(y:Pws M)(hm:m<=1048576)(z:out.length<=m)(I:1<=g.length)(o:g.length<=5)
  (F:dw g < 4294967296->out.length+(g.length - 1)<=m->∀p W,dQ S w0 W (Sk b m p (out++(bo (dw g)).take (g.length - 1)) (gpE r (gp0 []) 0::.mem M::T))->K (.tuple #[]) W)
  (J:4294967296<=dw g->∀W,dQ S w0 W (Sk b m ov out (.mem M::T))->PK [upA 3] W)
  (G:dw g < 4294967296->m < out.length+(g.length - 1)->∀W,dQ S w0 W (Sk b m ov out (.mem M::T))->PK [upA 5] W) :
  eN ah 159 #[af r 0,af b 0] w PK K:=by
 refine⟨Ef ?_⟩;unfold yL nz
 try rw[bD]
 rw[aQ Hg,Dl f 2 rfl (pD o)];refine loop (λvs W=>∃(i:Nat) (d:List UInt8),vs=[ad (i:Int)]∧g.length<=i∧i<=5∧d.length=5∧(∀j,j < i->(d.getD j 0).toNat=du g j)∧dQ S w0 W (Sk b m ov out (gpE r d g.length::.mem M::T))) (λvs _=>5 - n0 vs) ⟨g.length,gp0 g,rfl,auY _,o,pD o,λj A=>by
  unfold gp0 du;rw[auZ,axO A,auZ,auX A];rfl,f⟩ ?_
 clear f;rintro vs R ⟨i,d,rfl,L,B,C,s,f⟩ _;simp only[tF,gd,rs,nz];by_cases n:(i:Int) < 5
 ·simp only[n,auS,i_t]
  try rw[bD]
  rw[aQ Xf];refine aC (Xn om) |>.mpr ?_;refine aK 2 f rfl krx rfl (by rw[OZ];omega) λw2 f=>?_;rw[aA om om];refine aU ⟨i+1,d.set i 84,rfl,om,om,by rw[axM];exact C,λj A=>?_,?_⟩ (by simp[n0,RowKit.intOf];omega)
  ·rw[auZ,List.getElem?_set];split
   ·rename_i h;subst h
    rw[auP om];unfold du;rw[auZ,ayG om];rfl
   ·rw[<-auZ];exact s j om
  ·have e:(gpC d g.length).set i (.int .u8 84)=gpC (d.set i 84) g.length:=WS (c:=84) om;show dQ S w0 w2 (Sk b m ov out (.cells r (gpC (d.set i 84) g.length) 196::.mem M::T));rw[<-e];exact f
 simp only[n,auT,i_f];have:i=5:=om
 subst this;rw[ajT y (f.hasM 3 rfl)];refine loop (λvs W=>∃i:Nat,vs=[.int .u64 ((ji g i:Nat):Int),ad (i:Int)]∧i<=5∧dQ S w0 W (Sk b m ov out (gpE r d g.length::.mem M::T))) (λvs _=>5 - n1 vs) ⟨0,rfl,om,f⟩ ?_;clear f;rintro vs w2 ⟨i,rfl,B,f⟩ _;simp only[sZ,gd,rs,nz];by_cases n:(i:Int) < 5
 ·simp only[n,auS,i_t];refine aC (alS om) |>.mpr ?_
  try rw[bD]
  rw[aQ Xf];refine aC (Xn om) |>.mpr ?_;rw[aH nU8l (f.cell 2 rfl i (aiP om))];refine aC (aZ krx aAw) |>.mpr ?_;have N:d[i].toNat=du g i:=by
   have:=s i om
   rwa [auZ,auX om,awN] at this
  have U:=fl g i;have V:du g i*jh.getD i 0<=255*52200625:=axW om (qz om);have H:=ow g i om;rw[N,Lw om]
  try simp only[rs]
  rw[show ((du g i:Nat):Int)*((jh.getD i 0:Nat):Int)=((du g i*jh.getD i 0:Nat):Int) by push_cast;rfl,Lw om,show ((ji g i:Nat):Int)+((du g i*jh.getD i 0:Nat):Int)=((ji g (i+1):Nat):Int) by simp only[ji];push_cast;rfl,
   Lw (by simp only[ji];omega),aA om om]
  exact aU ⟨i+1,rfl,om,f⟩ (by simp[n1,RowKit.intOf];omega)
 simp only[n,auT,i_f];have:i=5:=om
 subst this;have H:=ow g 5 om;rw[uy] at H ⊢;refine nB (λh=>?_) (λh=>?_)
 rotate_left
 ·have:=avU h;exact J om w2 (f.sub (.cons_cons _ (.cons_cons _ (.cons _ (axX _)))))
 have t:=avG h;have t:dw g < 4294967296:=om
 generalize dw g=v at F G t;have q:∀k:Nat,k<=64->∀{W:ao} {PK:PKT} {K:VWP},DoX ah (gS .shr 157 (.int .u64 (v:Int)) (.int .u64 (k:Int))) W PK K=K (.int .u64 ((v / 2 ^ k:Nat):Int)) W:=by
  intro k O W PK K;rw[F2 om,anK O]
 rw[show (24:Int)=((24:Nat):Int) from rfl,q 24 om];refine aC (aZ krx avN) |>.mpr ?_;rw[rA,show (16:Int)=((16:Nat):Int) from rfl,q 16 om];refine aC (aZ krx avN) |>.mpr ?_;rw[rA,show (8:Int)=((8:Nat):Int) from rfl,q 8 om];refine aC (aZ krx avN) |>.mpr ?_;rw[rA];refine aC (aZ krx avN) |>.mpr ?_;rw[rA];have D:∀{a b c d:Int} {W:ao} {PK:PKT} {K:VWP},DoX ah (aN 187 #[(0,.int .u8 a),(1,.int .u8 b),(2,.int .u8 c),(3,.int .u8 d)]) W PK K=K (.agg #[.int .u8 a,.int .u8 b,.int .u8 c,.int .u8 d]) W:=λ{_ _ _ _ _ _ _}=>aC krx;rw[D];refine bB (λb=>af b 0) (aM [0,0,0,0]) 187 (λ_=>by kernel_rfl) f λX w3 f=>?_;refine gF 0 f rfl (new:=aM (bo v)) sz4b bU rfl λY f=>?_
 try rw[bD]
 rw[aQ Hg,Dl f 3 rfl C]
 try simp only[rs]
 rw[aA om om,show ((g.length:Int) - 1)=((g.length - 1:Nat):Int) by omega];refine aC (aqT om) |>.mpr ?_;have E:((bo v).take (g.length - 1)).length=g.length - 1:=by rw[avA,show (bo v).length=4 from rfl];omega
 refine Ub (l:=(bo v).take (g.length - 1)) f (λW h=>?_) hm z om (λP p x f=>?_) (λP x f=>?_)
 ·have:=Sl.pre (cap:=4) (h:=g.length - 1) h (by show _<=4;omega);rw[E] at this ⊢;exact this
 rotate_left
 ·exact G t om x (f.sub (.cons_cons _ (.cons_cons _ (.cons _ (axX _)))))
 refine aC (show (aN 196 #[]).run ah x=.ok (.value (.agg (gpC (gp0 []) 0).toArray)) x by kernel_rfl) |>.mpr ?_
 try rw[bD]
 refine gF 2 f rfl (new:=gpC (gp0 []) 0) szGp (λu hu=>?_) (by rw[OZ,C];rfl) λQ f=>?_
 ·rcases avZ.1 hu with h|h
  ·exact bU u h
  ·rw[avV.1 h];rfl
 exact F t om p Q f
end
theorem ON:cD ah 158=true:=krx
section
variable {w:ao}{PK:PKT}{K:VWP}{S:Nat->Prop}{w0:ao}{T:List Ent}
theorem aoP {j p:Nat}{ov:aq}{r out g:List UInt8}(f:dQ S w0 w (Sk b j ov out (gpE p (gp0 g) g.length::.mem M::T)))(v:Pws M)(hm:j<=1048576)(s:out.length<=j)(o:g.length<=5)(F:r.length<=1000000000)
  (x:∀l a W,gw j r g out=(a,0)->a.length<=j->dQ S w0 W (Sk b j l a (.mem M::T))->K (.tuple #[]) W)
  (t:∀e l a W,gw j r g out=([],e)->dQ S w0 W (Sk b j l a (.mem M::T))->PK [upA e] W) :
  eN ah 160 #[ae r,af p 0,af b 0] w PK K:=by
 generalize c:gw j r g out=X at x t;unfold gw at c;have drop:∀{ov out d n W},dQ S w0 W (Sk b j ov out (gpE p d n::.mem M::T))->dQ S w0 W (Sk b j ov out (.mem M::T)):=λ{_ _ _ _ _} f=>f.sub (.cons_cons _ (.cons_cons _ (.cons _ (axX _))));refine⟨Ng ?_⟩;unfold Mx nz;rw[show (Value.string ⟨#[]⟩)=ae ([]:List UInt8) from rfl,Wx];refine nB (λh=>?_) (λh=>?_)
 rotate_left
 ·rw[auP (Decidable.not_not.1 (avU h))] at c;exact t 4 ov out w c.symm (drop f)
 have z:r≠[]:=avG h;rw[auO z] at c;have D:=azU.2 z;rw[H4 auV dc (get0 (i:=0) D)];have A:(((r.getD 0 0).toNat:Int)=62)↔r.getD 0 0=62:=⟨λh=>aAh.1 (by rw[show (62:UInt8).toNat=62 from rfl];omega),λh=>by rw[h];rfl⟩;have key:∀q:Bool,(q=av↔¬(r.getD 0 0≠62∨g.length=1))->eN ah 154 #[.bool q,ad 3] w (pk (wQ K PK)) λt19 w=>
   DoX ah (mFA 196 (af p 0) 1) w (pk (wQ K PK)) λt22 w=>
   DoX ah (aG 3 t22) w (pk (wQ K PK)) λt23 w=>
   DoX ah (gS .gtr 3 t23 (ad 0)) w (pk (wQ K PK)) λt24 w=>
   IfX t24 (eN ah 159 #[af p 0,af b 0] w (pk (wQ K PK)) λt27 w=>wQ K PK (.returned (.tuple #[])) w) (wQ K PK (.returned (.tuple #[])) w):=by
  intro q u;refine nB (λh=>?_) (λh=>?_)
  rotate_left
  ·rw[auP (Decidable.not_not.1 (λk=>by rw[h] at u;exact absurd (u.2 k) dc))] at c;exact t 3 ov out w c.symm (drop f)
  rw[auO (u.1 h)] at c;have E:g.length≠1:=λk=>(u.1 h) (.inr k)
  try rw[bD]
  rw[aQ Hg,Dl f 2 rfl (pD o)];simp only[rs];by_cases B:g.length=0
  ·rw[auP B] at c;simp only[show ai ((0:Int) < (g.length:Int))=au from auQ om,i_f];exact x ov out w c.symm s (drop f)
  rw[auO B] at c;simp only[show ai ((0:Int) < (g.length:Int))=av from auR om,i_t];refine aeS f v hm s om o (λy C l W f=>?_) (λy W f=>?_) (λy C W f=>?_)
  ·rw[auO om,auO om] at c;exact x l _ W c.symm (by rw[auU,avA];omega) (drop f)
  ·rw[auP y] at c;exact t 3 ov out W c.symm f
  ·rw[auO om,auP C] at c;exact t 5 ov out W c.symm f
 simp only[rs];by_cases m:r.getD 0 0=62
 ·simp only[auR (A.2 m),rs]
  try rw[bD]
  rw[aQ Hg,Dl f 2 rfl (pD o)];simp only[rs];refine key _ ?_;rw[decide_eq_true_iff];constructor
  ·intro h k;rcases k with k|k
   ·exact k m
   ·omega
  ·intro h;have:g.length≠1:=λk=>h (.inr k);omega
 ·simp only[auQ (λh=>m (A.1 h)),rs];refine key au ?_;constructor
  ·intro h;cases h
  ·intro h;exact absurd (.inl m) h
theorem XA (s:List UInt8)(b m:Nat)(z:Pws M)(hs:s.length<=1000000000)(hm:m<=1048576)(a:dQ S w0 w (Sk b m dY [] (.mem M::T)))
  (N:∀f out W,fe m s [] []=(out,0)->out.length<=m->dQ S w0 W (Sk b m f out (.mem M::T))->K (.tuple #[]) W) (x:∀e f out W,fe m s [] []=([],e)->dQ S w0 W (Sk b m f out (.mem M::T))->PK [upA e] W) :
  eN ah 158 #[ae s,af b 0] w PK K:=by
 generalize k:fe m s [] []=X at N x;refine⟨FO ?_⟩;unfold AZ nz;refine bB (λb=>af b 0) (gpC (gp0 []) 0) 196 (λ_=>by kernel_rfl) a λq Q a=>?_;have a:dQ S w0 Q ([gpE q (gp0 []) 0]++([skE b dY m,iS dY []]++(.mem M::T))):=a;have a:=a.front;rw[dE auV];refine loop (λvs W=>∃(i:Nat) (g:List UInt8) (ov:aq) (out:List UInt8),vs=[ad (i:Int)]∧i<=s.length∧g.length < 5∧out.length<=m∧fe m (s.drop i) g out=X∧dQ S w0 W (Sk b m ov out (gpE q (gp0 g) g.length::.mem M::T))) (λvs _=>s.length - n0 vs) ⟨0,[],dY,[],rfl,om,sm,sm,k,a⟩ ?_;clear a k;have drop:∀{ov out d n W},dQ S w0 W (Sk b m ov out (gpE q d n::.mem M::T))->dQ S w0 W (Sk b m ov out (.mem M::T)):=λ{_ _ _ _ _} a=>a.sub (.cons_cons _ (.cons_cons _ (.cons _ (axX _))));rintro vs w2 ⟨i,g,ov,out,rfl,hi,R,r,k,a⟩ _;simp only[vO,gd,rs,nz];by_cases A:(i:Int) < (s.length:Int)
 case neg=>
  simp only[A,auT,i_f];rw[awK om] at k;exact nB (λh=>by cases h) (λ_=>x 4 ov out w2 k.symm (drop a))
 simp only[A,auS,i_t];have B:i < s.length:=om
 rw[avW B,fe] at k;have O:=auX B;generalize s[i]=c at k O;refine join λJ U=>?_;have next:∀(p:List UInt8) (f:aq) (j:List UInt8) (W:ao),p.length < 5->j.length<=m->fe m (s.drop (i+1)) p j=X->dQ S w0 W (Sk b m f j (gpE q (gp0 p) p.length::.mem M::T))->J [] W:=by
  intro p f j W g1 g2 g3 a;refine U _ _ λ_=>?_;simp only[uL,rs,nz];rw[aA om om];exact aU ⟨i+1,p,f,j,rfl,om,g1,g2,g3,a⟩ (by simp[n0,RowKit.intOf];omega)
 rw[H4 auV om (by rw[auW];exact O)];refine zq (Ro c w2) ?_;by_cases hw:Oc.JV c=av
 ·rw[auP hw] at k;rw[hw,i_t];exact next g ov out w2 R r k a
 rw[auO hw] at k;rw[aA0.2 hw,i_f];have V:=awQ c;have C:IntKind.u8.wrap ((c.toNat:Int) - 33)=((c - 33).toNat:Int):=by
  have:(c - 33).toNat=(c.toNat+223) % 256:=by rw[UInt8.toNat_sub];show (256 - 33+c.toNat) % 256=_;rw[aAu]
  rw[this];unfold IntKind.wrap;simp[IntKind.bits,IntKind.signed];omega
 have rest:¬(c.toNat=122∧g.length=0)->IfX (.bool au) (DoX ah (bJ 70 4 #[(0,(.int .u8 0)),(1,(.int .u8 0)),(2,(.int .u8 0)),(3,(.int .u8 0))]) w2 (pk (wQ K PK)) λt28 w=>
   eN ah 153 #[af b 0,t28] w (pk (wQ K PK)) λt29 w=>J [] w) (DoX ah (gS .geq 5 (.int .u8 (c.toNat:Int)) (.int .u8 33)) w2 (pk (wQ K PK)) λt32 w=>
 GDo t32 av (λE=>E (.int .u8 (c.toNat:Int)) w) w λt34 w=>
 GDo t32 av (λE=>DoX ah (gS .leq 5 t34 (.int .u8 117)) w (pk (wQ K PK)) E) w λt35 w=>
 DoX ah (fK t32 t35 (.bool au)) w (pk (wQ K PK)) λt36 w=>
 IfX t36 (DoX ah (mFA 196 (af q 0) 1) w (pk (wQ K PK)) λt37 w=>
 DoX ah (aG 3 t37) w (pk (wQ K PK)) λt38 w=>
 DoX ah (gS .sub 5 (.int .u8 (c.toNat:Int)) (.int .u8 33)) w (pk (wQ K PK)) λt40 w=>
 DoX ah (mFA 196 (af q 0) 0) w (pk (wQ K PK)) λt41 w=>
 DoX ah (mIA 194 t41 t38) w (pk (wQ K PK)) λt42 w=>
 DoX ah (aV 5 t42 t40) w (pk (wQ K PK)) λ_ w=>
 DoX ah (mFA 196 (af q 0) 1) w (pk (wQ K PK)) λt43 w=>
 DoX ah (aG 3 t43) w (pk (wQ K PK)) λt44 w=>
 DoX ah (gS .add 3 t44 (ad 1)) w (pk (wQ K PK)) λt45 w=>
 DoX ah (mFA 196 (af q 0) 1) w (pk (wQ K PK)) λt46 w=>
 DoX ah (aV 3 t46 t45) w (pk (wQ K PK)) λ_ w=>
 DoX ah (mFA 196 (af q 0) 1) w (pk (wQ K PK)) λt47 w=>
 DoX ah (aG 3 t47) w (pk (wQ K PK)) λt48 w=>
 DoX ah (mEq .eql 3 (.tmp 48) (.const (ad 5)) t48 (ad 5)) w (pk (wQ K PK)) λt49 w=>
 IfX t49 (eN ah 159 #[af q 0,af b 0] w (pk (wQ K PK)) λt51 w=>
 J [] w) (J [] w)) (DoX ah (mEq .eql 5 (.tmp 53) (.const (.int .u8 126)) (.int .u8 (c.toNat:Int)) (.int .u8 126)) w (pk (wQ K PK)) λt54 w=>
 IfX t54 (DoX ah (gS .add 3 (ad (i:Int)) (ad 1)) w (pk (wQ K PK)) λt57 w=>
 DoX ah (cY 9 (ae s) (ax t57) aw aw) w (pk (wQ K PK)) λt58 w=>
 eN ah 160 #[t58,af q 0,af b 0] w (pk (wQ K PK)) λt60 w=>
 wQ K PK (.returned (.tuple #[])) w) (eN ah 154 #[(.bool au),(ad 3)] w (pk (wQ K PK)) λt15 w=>
 J [] w))):=by
  intro H;rw[auO H] at k;simp only[i_f,rs];have tail:¬(33<=c.toNat∧c.toNat<=117)->IfX (.bool (ai ((c.toNat:Int)=126))) (DoX ah (gS .add 3 (ad (i:Int)) (ad 1)) w2 (pk (wQ K PK)) λt57 w=>
 DoX ah (cY 9 (ae s) (ax t57) aw aw) w (pk (wQ K PK)) λt58 w=>
 eN ah 160 #[t58,af q 0,af b 0] w (pk (wQ K PK)) λt60 w=>
 wQ K PK (.returned (.tuple #[])) w) (eN ah 154 #[(.bool au),(ad 3)] w2 (pk (wQ K PK)) λt15 w=>
 J [] w):=by
   intro Y;rw[auO Y] at k;by_cases t:c.toNat=126
   ·rw[auP t] at k;simp only[show ai ((c.toNat:Int)=126)=av from auR om,i_t,rs];rw[aA om om,Hl auV om om,show ((i:Int)+1).toNat=i+1 by omega];exact aoP a z hm r om (by rw[avF];omega) (λf j W he D a=>N f j W (k.symm.trans he) D a) (λe f j W he a=>x e f j W (k.symm.trans he) a)
   ·rw[auO t] at k;simp only[show ai ((c.toNat:Int)=126)=au from auQ om,i_f];exact nB (λh=>by cases h) (λ_=>x 3 ov out w2 k.symm (drop a))
  by_cases F:33<=c.toNat
  case neg=>
   simp only[show ai ((33:Int)<=(c.toNat:Int))=au from auQ om,rs,i_f];have:=tail (λh=>F h.1);simp only[rs] at this;exact this
  simp only[show ai ((33:Int)<=(c.toNat:Int))=av from auR om,rs];by_cases u:c.toNat<=117
  case neg=>
   simp only[show ai ((c.toNat:Int)<=117)=au from auQ om,rs,i_f];have:=tail (λh=>u h.2);simp only[rs] at this;exact this
  simp only[show ai ((c.toNat:Int)<=117)=av from auR om,rs,i_t];rw[auP ⟨F,u⟩] at k;rw[aQ Hg,Dl a 2 rfl (pD om)]
  try rw[Wj]
  rw[C,aQ Xf];refine aC (Xn om) |>.mpr ?_;refine aK 2 a rfl krx rfl (by rw[OZ,pD om];omega) λw3 a=>?_;rw[WS (by rw[pD om];omega)] at a;have Z:(gp0 g).set g.length (c - 33)=gp0 (g++[c - 33]):=by
   unfold gp0;rw[aAV _ _ (auY _),ayY,auU,awX,show 5 - g.length=(5 - (g.length+1))+1 by omega,aBa,axV,avO];rfl
  rw[Z] at a;have G:(g++[c - 33]).length=g.length+1:=sm
  rw[<-G] at k;have o:(if (g++[c - 33]).length < 5 then fe m (s.drop (i+1)) (g++[c - 33]) out else if 4294967296<=dw (g++[c - 33]) then ([],3) else if m < out.length+4 then ([],5) else fe m (s.drop (i+1)) [] (out++bo (dw (g++[c - 33]))))=X:=k;clear k;have a:dQ S w0 w3 (Sk b m ov out (gpE q (gp0 (g++[c - 33])) g.length::.mem M::T)):=a;generalize a1:g++[c - 33]=p at o a G;rw[aQ Hg,Dl a 2 rfl (pD om)]
  try simp only[rs]
  rw[aA om om,aQ Hg,show (g.length:Int)+1=(p.length:Int) by omega];refine aK 2 a rfl krx rfl (by rw[OZ,pD om];omega) λP a=>?_;rw[avC,aaO (pD om)] at a;have a:dQ S w0 P (Sk b m ov out (gpE q (gp0 p) p.length::.mem M::T)):=a;rw[aQ Hg,Dl a 2 rfl (pD om)]
  try simp only[rs]
  by_cases v:p.length < 5
  ·rw[auP v] at o;simp only[show ai ((p.length:Int)=5)=au from auQ om,i_f];exact next p ov out P v r o a
  rw[auO v] at o;simp only[show ai ((p.length:Int)=5)=av from auR om,i_t];refine aeS a z hm r om om (λI k6 f W a=>?_) (λI W a=>?_) (λI k6 W a=>?_)
  ·rw[auO om,auO om] at o;rw[show p.length - 1=4 by omega] at a;exact next [] f _ W dc (by rw[auU];show _+4<=_;omega) o a
  ·rw[auP I] at o;exact x 3 ov out W o.symm a
  ·rw[auO om,auP om] at o;exact x 5 ov out W o.symm a
 try simp only[rs]
 by_cases H:c.toNat=122
 case neg=>
  simp only[show ai ((c.toNat:Int)=122)=au from auQ om,rs];have:=rest (λh=>H h.1);simp only[rs] at this;exact this
 simp only[show ai ((c.toNat:Int)=122)=av from auR om,rs];rw[aQ Hg,Dl a 2 rfl (pD om)];simp only[rs];by_cases y:g.length=0
 case neg=>
  simp only[show ai ((g.length:Int)=0)=au from auQ om,rs];have:=rest (λh=>y h.2);simp only[rs] at this;exact this
 rw[auP ⟨H,y⟩] at k;simp only[show ai ((g.length:Int)=0)=av from auR om,i_t];have L:g=[]:=ayT y;subst L;refine bB (λb=>cW b 0 4 4) (aM [0,0,0,0]) 5 (λ_=>by kernel_rfl) a λb8 w3 a=>?_;refine Ub (l:=[0,0,0,0]) a (λW h=>?_) hm r dc (λv f W a=>?_) (λv W a=>?_)
 ·exact Sl.pre (l:=[0,0,0,0]) (h:=4) h dc
 ·rw[auO (by simp at v;omega)] at k;exact next [] f _ W dc (by simpa using v) k a
 ·rw[auP (by simp at v;omega)] at k;exact x 5 ov out W k.symm (drop a)
end
theorem Ti (s:List UInt8)(most:Int)(M:Mem)(w:ao)(a:Pws M)(e:s.length<=1000000000)(c:M.has w):lA ah 116 #[ae s,ad most] M w (λv _=>v=zlT (lz s most)∧(lz s most).1.length<=1048576):=by
 refine aO c λK f=>Iv ?_;unfold Fe nz;refine aY (dQ.memS c) 0 rfl (Cb _ ON s most _ M w c λb g hm d h i=>XA s b g a e hm d h i) ?_;rintro _ N k g1 ⟨rfl,j⟩ d;simp only[zlT,ex];exact f _ _ N _ 0 d rfl g1 ⟨rfl,j⟩
def ff (g:List UInt8):Nat->Nat
|0=>0
|i+1=>ff g i*85+du g i
theorem nf (g:List UInt8):ff g 5=dw g:=by
 simp only[ff,dw];omega
theorem mm (g:List UInt8):∀i,i<=5->ff g i<=13572000000
|0,_=>avK _
|1,_=>by have:=fl g 0;simp only[ff];omega
|2,_=>by have:=fl g 0;have:=fl g 1;simp only[ff];omega
|3,_=>by have:=fl g 0;have:=fl g 1;have:=fl g 2;simp only[ff];omega
|4,_=>by have:=fl g 0;have:=fl g 1;have:=fl g 2;have:=fl g 3;simp only[ff];omega
|5,_=>by have:=fl g 0;have:=fl g 1;have:=fl g 2;have:=fl g 3;have:=fl g 4;simp only[ff];omega
|n+6,h=>by omega
theorem Jl (g:List UInt8)(v:aq)(w:ao)(m:g.length<=1000000000)(h:Sl w v 1 g.length (aM g)):Ret ah 130 #[v] w (λv w'=>v=.int .u64 (dw g:Int)∧w=w'):=by
 refine aL λK k=>yZ ?_;unfold qC nz;refine loop (λvs W=>∃i:Nat,vs=[.int .u64 ((ff g i:Nat):Int),ad (i:Int)]∧i<=5∧W=w) (λvs _=>5 - n1 vs) ⟨0,rfl,om,rfl⟩ ?_;rintro vs W ⟨i,rfl,hi,rfl⟩ _;simp only[lP,gd,rs,nz];by_cases c:(i:Int) < 5
 case neg=>
  simp only[c,auT,i_f];have:i=5:=om
  subst this;rw[nf];exact k _ _ ⟨rfl,rfl⟩
 simp only[c,auS,i_t];have n:=mm g i om;have o:=mm g (i+1) om;have d:ff g (i+1)=ff g i*85+du g i:=rfl;refine join λJ l=>?_;have next:J [.int .u64 ((ff g (i+1):Nat):Int)] W:=by
  refine l _ _ λ_=>?_;simp only[mA,gd,rs,nz];rw[aA om om];exact aU ⟨i+1,rfl,om,rfl⟩ (by simp[n1,RowKit.intOf];omega)
 try simp only[rs]
 rw[show ((ff g i:Nat):Int)*85=((ff g i*85:Nat):Int) by push_cast;rfl,Lw om];rw[aC (xX h)]
 try simp only[rs]
 by_cases j:i < g.length
 ·simp only[show ai ((i:Int) < (g.length:Int))=av from auR om,i_t];obtain⟨b,off,e,a⟩:=KF h j;rw[aC (e W),aH nU8l a];refine aC (aZ krx aAw) |>.mpr ?_;have f:g[i].toNat=du g i:=by unfold du;rw[auZ,auX j,awN]
  have:=fl g i;rw[f,Lw om]
  try simp only[rs]
  rw[show ((ff g i*85:Nat):Int)+((du g i:Nat):Int)=((ff g (i+1):Nat):Int) by rw[d];push_cast;rfl,Lw om];exact next
 ·simp only[show ai ((i:Int) < (g.length:Int))=au from auQ om,i_f]
  try simp only[rs]
  have f:du g i=84:=by unfold du;rw[auZ,ayG om];rfl
  rw[f] at d;rw[show ((ff g i*85:Nat):Int)+84=((ff g (i+1):Nat):Int) by rw[d];push_cast;rfl,Lw om];exact next
section
variable {w:ao}{PK:PKT}{K:VWP}{S:Nat->Prop}{w0:ao}{L T:List Ent}
theorem Vf {v:Nat}(c:dQ S w0 w L)(hm:m<=4)(g:v < 18446744073709551616)(k:∀b w',dQ S w0 w' (.cells b (aM (bo v)) 5::L)->K (cW b 0 m 4) w'):eN ah 131 #[.int .u64 (v:Int),ad (m:Int)] w PK K:=by
 refine⟨Ai ?_⟩;unfold qU nz;have a:∀k:Nat,k<=64->∀{W:ao} {PK:PKT} {K:VWP},DoX ah (gS .shr 157 (.int .u64 (v:Int)) (.int .u64 (k:Int))) W PK K=K (.int .u64 ((v / 2 ^ k:Nat):Int)) W:=by
  intro k f W PK K;rw[F2 om,anK f]
 rw[show (24:Int)=((24:Nat):Int) from rfl,a 24 om];refine aC (aZ krx avN) |>.mpr ?_;rw[rA,show (16:Int)=((16:Nat):Int) from rfl,a 16 om];refine aC (aZ krx avN) |>.mpr ?_;rw[rA,show (8:Int)=((8:Nat):Int) from rfl,a 8 om];refine aC (aZ krx avN) |>.mpr ?_;rw[rA];refine aC (aZ krx avN) |>.mpr ?_;rw[rA];refine bB (λb=>cW b 0 4 4) (aM (bo v)) 5 (λ_=>by kernel_rfl) c λd w3 c=>?_;have e:∀W:ao,(cY 70 (cW d 0 4 4) aw (ax (ad (m:Int))) aw).run ah W=.ok (.value (cW d 0 m 4)) W:=λW=>by
  rcases (by omega:m=0∨m=1∨m=2∨m=3∨m=4) with rfl|rfl|rfl|rfl|rfl<;>kernel_rfl
 refine aC (e w3) |>.mpr ?_;exact k d w3 c
theorem Yb {v:Nat}{ov:aq}{out:List UInt8}(a:dQ S w0 w (iS ov out::T))(i:out.length<=1000000000)(hm:m<=4)(f:v < 18446744073709551616)(k:∀c W,dQ S w0 W (iS c (out++(bo v).take m)::T)->K c W) :
  eN ah 131 #[.int .u64 (v:Int),ad (m:Int)] w PK λt w=>DoX ah (mB .append #[70,70] 70 #[au,au] #[ov,t]) w PK K:=by
 refine Vf a hm f λb g a=>?_;have h:((bo v).take m).length=m:=by rw[avA,show (bo v).length=4 from rfl];omega
 have d:Sl g (cW b 0 m 4) 1 ((bo v).take m).length (aM ((bo v).take m)):=Sl.pre (a.at_ 0 rfl) (by show m<=4;omega);refine bN 1 avE G8 dc a rfl d bU om om λv' e a=>k v' e ?_;rw[eJ];exact a.tail
end
def mn (a:Nat)(g out:List UInt8):List UInt8×Int:=
 if g.length=0 then (out,0)
 else if g.length=1 then ([],3)
 else if 4294967296<=dw g then ([],3)
 else if a < out.length+(g.length - 1) then ([],5)
 else (out++(bo (dw g)).take (g.length - 1),0)
theorem R5 (b:Nat)(g out:List UInt8)(gv ov:aq)(w:ao)(q:g.length<=5)(m:out.length<=b)(hm:b<=1048576)(d:Sl w gv 1 g.length (aM g)){T:List Ent}(c:dQ S w0 w (iS ov out::T))
  (k:∀W e f,dQ S w0 W (iS e f::T)->K (zlT (mn b g out)) W):eN ah 129 #[gv,ov,ad (b:Int)] w PK K:=by
 generalize a:mn b g out=X at k;unfold mn at a;refine⟨Bk ?_⟩;unfold sX nz;have hlen:∀{PK:PKT} {K:VWP},DoX ah (mB .len #[70] 3 #[au] #[gv]) w PK K=K (ad (g.length:Int)) w:=λ{_ _}=>aC (xX d);rw[hlen];simp only[rs];by_cases h:g.length=0
 ·rw[auP h] at a;simp only[show ai ((g.length:Int)=0)=av from auR om,i_t];rw[mU avE avN auV (dO (c.at_ 0 rfl))];rw[<-a] at k;exact k _ _ _ c
 rw[auO h] at a;simp only[show ai ((g.length:Int)=0)=au from auQ om,i_f];refine zq (Jl g gv w om d) ?_;rw[hlen];simp only[rs];have o:=mm g 5 om;rw[nf] at o;have bad:X=([],3)->IfX (.bool av) (wQ K PK (.returned (.tuple #[(.string ⟨#[]⟩),(ad 3)])) w) (wQ K PK (.returned (.tuple #[(.string ⟨#[]⟩),(ad 3)])) w):=by
  intro p;rw[i_t];rw[p] at k;exact k _ _ _ c
 by_cases i:g.length=1
 ·rw[auP i] at a;simp only[show ai ((g.length:Int)=1)=av from auR om,rs,i_t];have:=bad a.symm;rw[i_t] at this;exact this
 rw[auO i] at a;simp only[show ai ((g.length:Int)=1)=au from auQ om,rs];by_cases j:4294967296<=dw g
 ·rw[auP j] at a;simp only[show ai ((4294967295:Int) < (dw g:Int))=av from auR om,rs,i_t];have:=bad a.symm;rw[i_t] at this;exact this
 rw[auO j] at a;simp only[show ai ((4294967295:Int) < (dw g:Int))=au from auQ om,rs,i_f];rw[hlen]
 try simp only[rs]
 rw[aA (n:=(g.length:Int) - 1) om om,Rq 0 c rfl]
 try simp only[rs]
 rw[aA (n:=(b:Int) - (out.length:Int)) om om];by_cases l:b < out.length+(g.length - 1)
 ·rw[auP l] at a;simp only[show ai ((b:Int) - (out.length:Int) < (g.length:Int) - 1)=av from auR om,i_t];rw[<-a] at k;exact k _ _ _ c
 rw[auO l] at a;simp only[show ai ((b:Int) - (out.length:Int) < (g.length:Int) - 1)=au from auQ om,i_f];rw[hlen]
 try simp only[rs]
 rw[aA (n:=(g.length:Int) - 1) om om,show (g.length:Int) - 1=((g.length - 1:Nat):Int) by omega];refine Yb c om om om λe W c=>?_;rw[mU avE avN auV (dO (c.at_ 0 rfl))];rw[<-a] at k;exact k _ _ _ c
theorem vv {c:Nat}{r g out:List UInt8}(h:r≠[])(b:r.getD 0 0=62):gw c r g out=mn c g out:=by
 unfold gw mn;rw[auO h];by_cases a:g.length=1
 ·rw[auP (.inr a),auO om,auP a]
 ·rw[auO (λk=>k.elim (λk=>k b) a),auO a]
theorem Pn (s:List UInt8)(most:Int)(w:ao)(V:s.length<=1000000000):Ret ah 90 #[ae s,ad most] w (λv w'=>v=zlT (lz s most)∧Below w.heap.size w w'):=by
 refine aL λK o=>xK ?_;generalize b:lz s most=X at o;unfold lz eh at b;unfold nX nz
 try simp only[rs]
 by_cases F:most < 0
 ·rw[auP F] at b;simp only[F,auS,i_t];exact o _ _ ⟨by rw[<-b];rfl,Below.refl _ _⟩
 rw[auO F] at b;simp only[F,auT,i_f];rw[Vi,show min most 1048576=((min most.toNat 1048576:Nat):Int) by omega];have hm:min most.toNat 1048576<=1048576:=azQ _ _;generalize min most.toNat 1048576=p at b hm;have f:=((Own.start w).nilU 5 1).nilU 5 1;refine loop (λvs W=>∃(i:Nat) (g:List UInt8) (gv ov:aq) (out:List UInt8),vs=[ov,gv,ad (i:Int)]∧i<=s.length∧g.length < 5∧out.length<=p∧fe p (s.drop i) g out=X∧dQ NoB w W [iS ov out,iS gv g]) (λvs _=>s.length - n2 vs) ⟨0,[],dY,dY,[],rfl,om,sm,sm,b,f⟩ ?_;clear b f;rintro vs w2 ⟨i,g,gv,ov,out,rfl,hi,Q,u,b,f⟩ _;simp only[kN,gd,nz];rw[dE auV]
 try simp only[rs]
 by_cases A:(i:Int) < (s.length:Int)
 case neg=>
  simp only[A,auT,i_f];rw[awK om] at b;exact o _ _ ⟨by rw[<-b];rfl,f.done⟩
 simp only[A,auS,i_t];have B:i < s.length:=om
 rw[avW B,fe] at b;have H:=auX B;generalize s[i]=c at b H;refine join λJ R=>?_;have next:∀(m:List UInt8) (j l:aq) (k:List UInt8) (W:ao),m.length < 5->k.length<=p->fe p (s.drop (i+1)) m k=X->dQ NoB w W [iS l k,iS j m]->J [l,j] W:=by
  intro m j l k W g1 g2 g3 f;refine R _ _ λ_=>?_;simp only[jV,gd,rs,nz];rw[aA om om];exact aU ⟨i+1,m,j,l,k,rfl,om,g1,g2,g3,f⟩ (by simp[n2,RowKit.intOf];omega)
 rw[H4 auV om (by rw[auW];exact H)];refine zq (Oi c w2) ?_;by_cases hw:Oc.JV c=av
 ·rw[auP hw] at b;rw[hw,i_t];exact next g gv ov out w2 Q u b f
 rw[auO hw] at b;rw[aA0.2 hw,i_f];have S:=awQ c
 try simp only[rs]
 by_cases q:c.toNat=126
 ·rw[auO om,auO om,auP q] at b;simp only[show ai ((c.toNat:Int)=126)=av from auR om,i_t,rs];rw[aA om om,dE auV]
  try simp only[rs]
  by_cases he:i+1=s.length
  ·simp only[show ai ((i:Int)+1=(s.length:Int))=av from auR om,i_t];rw[awK om] at b;exact o _ _ ⟨by rw[<-b];rfl,f.done⟩
  simp only[show ai ((i:Int)+1=(s.length:Int))=au from auQ om,i_f];have x:i+1 < s.length:=om
  have C:s.drop (i+1)≠[]:=by rw[avW x];exact List.cons_ne_nil _ _
  have n:(s.drop (i+1)).getD 0 0=s[i+1]:=by rw[avW x];rfl
  have I:=auX x;generalize s[i+1]=d at I n
  try rw[aA om om]
  rw[H4 (c:=d) auV om (by rw[show ((i:Int)+1).toNat=i+1 by omega];exact I)]
  try simp only[rs]
  by_cases r:d=62
  ·simp only[show ai ((d.toNat:Int)≠62)=au from auQ (by rw[r];decide),i_f];rw[vv C (n.trans r)] at b;refine R5 p g out gv ov w2 om u hm (dO (f.at_ 1 rfl)) f λW l k f=>?_;simp only[zlT,ex];exact o _ _ ⟨by rw[<-b];rfl,f.done⟩
  ·simp only[show ai ((d.toNat:Int)≠62)=av from auR (λh=>r (aAh.1 (by rw[show (62:UInt8).toNat=62 from rfl];omega))),i_t];unfold gw at b;rw[auO C,auP (.inl (by rw[n];exact r))] at b;exact o _ _ ⟨by rw[<-b];rfl,f.done⟩
 simp only[show ai ((c.toNat:Int)=126)=au from auQ om,i_f]
 try simp only[rs]
 -- a full group,or four zero bytes
 have full:∀(v:Nat) (j:aq) (W:ao) (m:List UInt8),v < 13572000001->(if 4294967296<=v then ([],3) else if p < out.length+4 then ([],5) else fe p (s.drop (i+1)) [] (out++bo v))=X->dQ NoB w W [iS ov out,iS j m]->eV (ad (p:Int)) ov (.int .u64 (v:Int)) W J (λe w'=>K e w'):=by
  intro v j W m L b f;unfold eV nz
  try simp only[rs]
  by_cases M:4294967296<=v
  ·rw[auP M] at b;simp only[show ai ((4294967295:Int) < (v:Int))=av from auR om,i_t];exact o _ _ ⟨by rw[<-b];rfl,f.done⟩
  rw[auO M] at b;simp only[show ai ((4294967295:Int) < (v:Int))=au from auQ om,i_f];rw[Rq 0 f rfl]
  try simp only[rs]
  rw[aA om om];by_cases N:p < out.length+4
  ·rw[auP N] at b;simp only[show ai ((p:Int) - (out.length:Int) < 4)=av from auR om,i_t];exact o _ _ ⟨by rw[<-b];rfl,f.done⟩
  rw[auO N] at b;simp only[show ai ((p:Int) - (out.length:Int) < 4)=au from auQ om,i_f];rw[show (4:Int)=((4:Nat):Int) from rfl];refine Yb f om om om λl W f=>?_;rw[avX (show (bo v).length<=4 from auY 4)] at f;have f:=f.sub (L':=[iS l (out++bo v)]) (.cons_cons _ (.cons _ (axX _)));have f:=(dQ.nilU f 5 1).swap;exact next [] dY l _ W dc (by rw[auU];show _+4<=_;omega) b f
 by_cases O:c.toNat=122
 ·have t:ai ((c.toNat:Int)≠122)=false:=auQ om;have z:ai ((c.toNat:Int)=122)=true:=auR om;simp only[t,z,rs,iO];rw[Rq 1 f rfl];simp only[rs];by_cases n:g.length=0
  ·rw[auP ⟨O,n⟩] at b;simp only[show ai ((0:Int) < (g.length:Int))=au from auQ om,i_f];refine join λT y=>?_
   try simp only[t,rs,i_f]
   refine y _ _ λ_=>?_;exact full 0 gv w2 g dc (by rw[auO dc];exact b) f
  ·rw[auO (λh=>n h.2),auO om,auO q] at b;simp only[show ai ((0:Int) < (g.length:Int))=av from auR om,i_t];exact o _ _ ⟨by rw[<-b];rfl,f.done⟩
 rw[auO (λh=>O h.1)] at b;have t:ai ((c.toNat:Int)≠122)=true:=auR om;have z:ai ((c.toNat:Int)=122)=false:=auQ om;simp only[t,z,rs];by_cases P:33<=c.toNat∧c.toNat<=117
 case neg=>
  rw[auO P,auO q] at b;by_cases U:c.toNat < 33
  ·simp only[show ai ((c.toNat:Int) < 33)=av from auR om,t,z,rs,i_t,iO];exact o _ _ ⟨by rw[<-b];rfl,f.done⟩
  ·simp only[show ai ((c.toNat:Int) < 33)=au from auQ om,show ai ((117:Int) < (c.toNat:Int))=av from auR om,t,z,rs,i_t,iO];exact o _ _ ⟨by rw[<-b];rfl,f.done⟩
 rw[auP P] at b;simp only[show ai ((c.toNat:Int) < 33)=au from auQ om,show ai ((117:Int) < (c.toNat:Int))=au from auQ om,t,z,rs,i_f,iO];refine join λT y=>?_
 try simp only[t,rs,i_t]
 have D:IntKind.u8.wrap ((c.toNat:Int) - 33)=((c - 33).toNat:Int):=by
  have:(c - 33).toNat=(c.toNat+223) % 256:=by rw[UInt8.toNat_sub];show (256 - 33+c.toNat) % 256=_;rw[aAu]
  rw[this];unfold IntKind.wrap;simp[IntKind.bits,IntKind.signed];omega
 rw[D];refine Uh _ f.swap om λj W f=>?_;have E:(g++[c - 33]).length=g.length+1:=sm
 rw[<-E] at b;generalize g++[c - 33]=m at b f E;have f:=f.swap;rw[Rq 1 f rfl]
 try simp only[rs]
 by_cases G:m.length < 5
 ·rw[auP G] at b;simp only[show ai ((m.length:Int) < 5)=av from auR om,i_t];exact next m j ov out W G u b f
 rw[auO G] at b;simp only[show ai ((m.length:Int) < 5)=au from auQ om,i_f];refine zq (Jl m j W om (dO (f.at_ 1 rfl))) ?_;refine y _ _ λ_=>?_;have L:=mm m 5 om;rw[nf] at L;exact full _ j W m om b f
end
section
open Eng
def zX(t0 t1 w)(K:KT):=nz f74 1 [] [] [] (zg [0,1] [t0,t1]) w K
theorem Bb:zX t0 t1 w k0->Calls ah 74 #[t0,t1] w k0:=cw func74
def xD(t6 t25 t26 t27 w)(a:JT)(K:KT):=nz f75 351 [a] [nh 19 [6,27]] [] (zg [6,25,26,27] [t6,t25,t26,t27]) w K
def wF(t5 w)(K:KT):=nz f75 31 [] [(19,[6,27],λs v j w f=>xD (vg v 0) (s 25) (s 26) (vg v 1) w (f 0) K)] [] (zg [5] [t5]) w K
def Cq(t0 w)(K:KT):=nz f75 1 [] [(14,[5],λs v j w f=>wF (vg v 0) w K)] [] (zg [0] [t0]) w K
theorem HE:Cq t0 w k0->Calls ah 75 #[t0] w k0:=cz [(7,[5])] [(9,[6,27])] func75
def AM(t1 t8 w)(a:JT)(K:KT):=nz f77 639 [a] [nh 41 [8]] [] (zg [1,8] [t1,t8]) w K
def A6(t1 t8 t47 t48 t49 w)(a:JT)(K:KT):=nz f77 703 [a] [nh 33 [49],(41,[8],λs v j w f=>AM (s 1) (vg v 0) w (f 0) K)] [] (zg [1,8,47,48,49] [t1,t8,t47,t48,t49]) w K
def Bg(t1 t5 t8 t30 t31 t32 w)(a:JT)(K:KT):=nz f77 175 [a] [nh 21 [8,32],(33,[49],λs v j w f=>A6 (s 1) (s 8) (s 47) (s 48) (vg v 0) w (f 0) K)] [] (zg [1,5,8,30,31,32] [t1,t5,t8,t30,t31,t32]) w K
def AG(t1 t5 w)(K:KT):=nz f77 15 [] [(21,[8,32],λs v j w f=>Bg (s 1) (s 5) (vg v 0) (s 30) (s 31) (vg v 1) w (f 0) K)] [] (zg [1,5] [t1,t5]) w K
def Fa(t0 t1 w)(K:KT):=nz f77 1 [] [(16,[5],λs v j w f=>AG (s 1) (vg v 0) w K)] [] (zg [0,1] [t0,t1]) w K
theorem Ic:Fa t0 t1 w k0->Calls ah 77 #[t0,t1] w k0:=cz [(8,[5])] [(10,[8,32]),(16,[49]),(20,[8])] func77
def aD (a:Deferred)(b:aq)(c:aq)(d:aq)(K:Ending->ao->Prop):=pd ah [.cell b 22,.cell c 75,.cell d 35] K [a]
def jR(a b c d1 w)(K:KT):=
 Et ah [.cell a 22,.cell b 75,.cell c 35] K [d1] .returning w
def HF(b a c h i d d1 w)(y:JT)(K:KT):=
 DoX ah (gS .lss 3 d i) w (aD d1 b a c K) λj w=>IfX j (DoX ah (mIA 22 h d) w (aD d1 b a c K) λk w=>DoX ah (aG 9 k) w (aD d1 b a c K) λl w=>DoX ah (aG 75 a) w (aD d1 b a c K) λm w=>DoX ah (mIA 75 m d) w (aD d1 b a c K) λn w=>DoX ah (aG 73 n) w (aD d1 b a c K) λo w=>eN ah 78 #[o] w (aD d1 b a c K) λf w=>DoX ah (mEq .neq 35 (.tmp 58) (.const (iN 0)) f (iN 0)) w (aD d1 b a c K) λe w=>etx e l w λp w=>GDo e av (λE=>DoX ah (mEq .neq 9 (.tmp 61) (.const (.string ⟨#[]⟩)) p (.string ⟨#[]⟩)) w (aD d1 b a c K) E) w λq w=>DoX ah (fK e q (.bool au)) w (aD d1 b a c K) λr w=>IfX r (DoX ah (aV 22 b (.slice aw 0 0)) w (aD d1 b a c K) λ_ w=>DoX ah (aV 75 a (.slice aw 0 0)) w (aD d1 b a c K) λ_ w=>DoX ah (aV 35 c f) w (aD d1 b a c K) λ_ w=>Et ah [.cell b 22,.cell a 75,.cell c 35] K [d1] .returning w) (DoX ah (gS .add 3 d (iN 1)) w (aD d1 b a c K) λs w=>AtX [d1] [d1] (y [s] w))) (DrawX w (λw=>(DoX ah (aG 22 b) w (aD d1 b a c K) λg w=>(DoX ah (aG 75 a) w (aD d1 b a c K) λt w=>DoX ah (aV 22 b g) w (aD d1 b a c K) λ_ w=>DoX ah (aV 75 a t) w (aD d1 b a c K) λ_ w=>DoX ah (aV 35 c (iN 0)) w (aD d1 b a c K) λ_ w=>jR b a c d1 w K)∧(DoX ah (aV 22 b g) w (aD d1 b a c K) λ_ w=>DoX ah (aG 75 a) w (aD d1 b a c K) λu w=>DoX ah (aV 75 a u) w (aD d1 b a c K) λ_ w=>DoX ah (aV 35 c (iN 0)) w (aD d1 b a c K) λ_ w=>jR b a c d1 w K))∧(DoX ah (aG 75 a) w (aD d1 b a c K) λv w=>DoX ah (aG 22 b) w (aD d1 b a c K) λx w=>DoX ah (aV 22 b x) w (aD d1 b a c K) λ_ w=>DoX ah (aV 75 a v) w (aD d1 b a c K) λ_ w=>DoX ah (aV 35 c (iN 0)) w (aD d1 b a c K) λ_ w=>jR b a c d1 w K)))
def Gk(g a b c h i j d d1 w)(A:JT)(K:KT):=
 DoX ah (gS .lss 3 d j) w (aD d1 a b c K) λk w=>IfX k (DoX ah (mIA 22 i d) w (aD d1 a b c K) λl w=>DoX ah (aG 9 l) w (aD d1 a b c K) λm w=>eN ah 76 #[m] w (aD d1 a b c K) λe w=>DoX ah (zt e 0) w (aD d1 a b c K) λn w=>DoX ah (zt e 1) w (aD d1 a b c K) λo w=>eN ah 74 #[o,(iN 15)] w (aD d1 a b c K) λy w=>DoX ah (aG 22 a) w (aD d1 a b c K) λp w=>DoX ah (bJ 22 1 #[(0,n)]) w (aD d1 a b c K) λq w=>DoX ah (mB .append #[22,22] 22 #[au,au] #[p,q]) w (aD d1 a b c K) λr w=>DoX ah (aV 22 a r) w (aD d1 a b c K) λ_ w=>DoX ah (gS .add 3 d (iN 1)) w (aD d1 a b c K) λs w=>AtX [d1] [d1] (A [s] w)) (DoX ah (aG 25 g) w (aD d1 a b c K) λt w=>DoX ah (mB .len #[22] 3 #[au] #[h]) w (aD d1 a b c K) λu w=>eN ah 77 #[t,u] w (aD d1 a b c K) λv w=>DoX ah (aV 75 b v) w (aD d1 a b c K) λ_ w=>DoX ah (aG 22 a) w (aD d1 a b c K) λf w=>DoX ah (mB .len #[22] 3 #[au] #[f]) w (aD d1 a b c K) λx w=>zr [(iN 0)] w (λz w B=>∀_:Sg,HF a b c f x (z.getD 0 undef) d1 w B K))
def LS(f w)(K:KT):=
 dx (AS 25 f) w K λe w=>alx 22 w K λa w=>alx 75 w K λb w=>alx 35 w K λc w=>dx (Q7 (.func 73) #[] #[a,b,c]) w K λg w=>DfrX (dfrV g #[]) (λd1=>DoX ah (mFA 25 e 0) w (aD d1 a b c K) λh w=>DoX ah (aG 3 h) w (aD d1 a b c K) λi w=>DoX ah (mEq .eql 3 (.tmp 15) (.const (iN 9)) i (iN 9)) w (aD d1 a b c K) λj w=>eN ah 74 #[j,(iN 10)] w (aD d1 a b c K) λo w=>DoX ah (aG 25 e) w (aD d1 a b c K) λk w=>eN ah 75 #[k] w (aD d1 a b c K) λd w=>DoX ah (mB .len #[22] 3 #[au] #[d]) w (aD d1 a b c K) λl w=>DoX ah (gS .leq 3 l (iN 8)) w (aD d1 a b c K) λm w=>eN ah 74 #[m,(iN 6)] w (aD d1 a b c K) λp w=>DoX ah (mB .len #[22] 3 #[au] #[d]) w (aD d1 a b c K) λn w=>zr [(iN 0)] w (λq w r=>∀_:Sg,Gk e a b c d d n (q.getD 0 undef) d1 w r K))
theorem Nd:LS t0 w k0->Calls ah 43 #[t0] w k0:=cz [] [(6,[26]),(14,[48])] func43
def xN(t5 t7 t21 t22 t23 w)(a:JT)(K:KT):=nz f18 175 [a] [nh 13 [7,23]] [] (zg [5,7,21,22,23] [t5,t7,t21,t22,t23]) w K
def Dj(t0 w)(K:KT):=nz f18 1 [] [(13,[7,23],λs v j w f=>xN (s 5) (vg v 0) (s 21) (s 22) (vg v 1) w (f 0) K)] [] (zg [0] [t0]) w K
theorem Hd:Dj t0 w k0->Calls ah 18 #[t0] w k0:=cz [] [(6,[7,23])] func18
def Dw(a w)(K:KT):=
 K (.returned (.tuple #[a,(.bool av)])) w
def DG(a w)(b:JT):=
 b [a] w
def CG(a w)(b:JT):=
 b [a] w
def DI(a w)(b:JT):=
 b [a] w
def B7(a w)(b:JT):=
 b [a] w
def G2(a w)(K:KT):=
 zP (λj=>zP (λp=>zP (λq=>zP (λr=>zP (λs=>eqx .eql 9 (.tmp 4) (.const (.string ⟨#[65,72,120]⟩)) a (.string ⟨#[65,72,120]⟩) w K λb w=>IfX b (s [(.string ⟨#[65,83,67,73,73,72,101,120,68,101,99,111,100,101]⟩)] w) (eqx .eql 9 (.tmp 4) (.const (.string ⟨#[65,83,67,73,73,72,101,120,68,101,99,111,100,101]⟩)) a (.string ⟨#[65,83,67,73,73,72,101,120,68,101,99,111,100,101]⟩) w K λc w=>IfX c (s [a] w) (eqx .eql 9 (.tmp 4) (.const (.string ⟨#[65,56,53]⟩)) a (.string ⟨#[65,56,53]⟩) w K λd w=>IfX d (r [(.string ⟨#[65,83,67,73,73,56,53,68,101,99,111,100,101]⟩)] w) (eqx .eql 9 (.tmp 4) (.const (.string ⟨#[65,83,67,73,73,56,53,68,101,99,111,100,101]⟩)) a (.string ⟨#[65,83,67,73,73,56,53,68,101,99,111,100,101]⟩) w K λe w=>IfX e (r [a] w) (eqx .eql 9 (.tmp 4) (.const (.string ⟨#[82,76]⟩)) a (.string ⟨#[82,76]⟩) w K λf w=>IfX f (q [(.string ⟨#[82,117,110,76,101,110,103,116,104,68,101,99,111,100,101]⟩)] w) (eqx .eql 9 (.tmp 4) (.const (.string ⟨#[82,117,110,76,101,110,103,116,104,68,101,99,111,100,101]⟩)) a (.string ⟨#[82,117,110,76,101,110,103,116,104,68,101,99,111,100,101]⟩) w K λg w=>IfX g (q [a] w) (eqx .eql 9 (.tmp 4) (.const (.string ⟨#[70,108]⟩)) a (.string ⟨#[70,108]⟩) w K λh w=>IfX h (p [(.string ⟨#[70,108,97,116,101,68,101,99,111,100,101]⟩)] w) (eqx .eql 9 (.tmp 4) (.const (.string ⟨#[70,108,97,116,101,68,101,99,111,100,101]⟩)) a (.string ⟨#[70,108,97,116,101,68,101,99,111,100,101]⟩) w K λi w=>IfX i (p [a] w) (K (.returned (.tuple #[(.string ⟨#[]⟩),(.bool au)])) w))))))))) (λk w=>∀_:Sg,B7 (k.getD 0 undef) w j)) (λl w=>∀_:Sg,DI (l.getD 0 undef) w j)) (λm w=>∀_:Sg,CG (m.getD 0 undef) w j)) (λn w=>∀_:Sg,DG (n.getD 0 undef) w j)) (λo w=>∀_:Sg,Dw (o.getD 0 undef) w K)
theorem Ki:G2 t0 w k0->Calls ah 76 #[t0] w k0:=cz [(15,[0]),(999999,[0])] [] func76
def EI(w)(K:KT):=nz f105 1 [] [] [] (zg [] []) w K
theorem HU:EI w k0->Calls ah 105 #[] w k0:=cw func105
def Ch(t0 t1 w)(K:KT):=nz f145 1 [] [] [] (zg [0,1] [t0,t1]) w K
theorem GR:Ch t0 t1 w k0->Calls ah 145 #[t0,t1] w k0:=cw func145
def JB(c w)(K:KT):=
 dx (AS 25 c) w K λa w=>alx 73 w K λb w=>fax 25 a 0 w K λd w=>ldx 3 d w K λe w=>ecx .eql 3 4 0 e w K λf w=>IfX f (cx 105 #[] w K λg w=>stx 73 b g w K λ_ w=>zu ah [.cell b 73] w K) (fax 25 a 0 w K λh w=>ldx 3 h w K λi w=>ecx .eql 3 8 7 i w K λj w=>cx 74 #[j,(iN 10)] w K λr w=>AI w (λS1 w=>HDo ah S1 (aG 25 a) λk=>HDo ah S1 (aG 25 a) λl=>HDo ah S1 (aG 25 a) λm=>eN ah 145 #[k,(.string ⟨#[80,114,101,100,105,99,116,111,114]⟩)] w (ay 4 (pk K)) λn w=>S1 w∧(eN ah 145 #[l,(.string ⟨#[67,111,108,111,114,115]⟩)] w (ay 4 (pk K)) λo w=>S1 w∧(eN ah 145 #[m,(.string ⟨#[67,111,108,117,109,110,115]⟩)] w (ay 4 (pk K)) λp w=>S1 w∧(HDo ah (λ_=>True) (aN 73 #[(0,n),(1,o),(2,p)]) λq=>DoX ah (aV 73 b q) w (ay 4 (pk K)) λ_ w=>(zu ah [.cell b 73] w K))))))
theorem LJ:JB t0 w k0->Calls ah 108 #[t0] w k0:=cw func108
def E6(t0 w)(K:KT):=nz f109 1 [] [] [] (zg [0] [t0]) w K
theorem Iy:E6 t0 w k0->Calls ah 109 #[t0] w k0:=cw func109
end
end Go.Proofs.YtkghomgfocpgeaaGreatDoor
