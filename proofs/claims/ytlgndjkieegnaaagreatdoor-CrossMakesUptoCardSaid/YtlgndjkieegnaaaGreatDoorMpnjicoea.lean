/- Parts of the proof. -/
import Derived.Test.YtlgndjkieegnaaaGreatDoorRows
import Derived.Test.YtlgndjkieegnaaaGreatDoorMfogfcndg
set_option linter.all false
set_option maxRecDepth 20000
open Go.Proofs.Tryz
open Go.Proofs.Tryz renaming prog->ah
open Option renaming some->ay,none->ax
open Bool renaming true->aw,false->au
open Go renaming Value->aq,World->ao
open Decidable renaming decide->ai
namespace Go.Proofs.YtlgndjkieegnaaaGreatDoor
variable{A:Nat->Prop}{C:ao->Prop}{K:VWP}{M:Eng.Mem}{P:Program}{PK PK2:PKT}{T1 U:TypeId}{W w:ao}{a way:Int}{b i j m p:Nat}{cb:Array Bool}{k':IntKind}{key:List UInt8}{l:List Nat}{news xs:List aq}{o:Ob}{q:Bool}{v v2 vc vk vs:aq}{x:Sec}{xo yo:Operand}{α:Type}{t0 t1 t2:aq}{k0:Eng.KT}
section
open Eng
def HC(t0 w)(K:KT):=nz f75 1 [] [] [] (zg [0] [t0]) w K
theorem Lp:HC t0 w k0->Calls ah 75 #[t0] w k0:=cw func75
def Bc(t0 t5 t6 t7 w)(N1:JT)(K:KT):=nz f40 21 [N1] [nh 5 [7]] [(10,14),(12,14)] (zg [0,5,6,7] [t0,t5,t6,t7]) w K
def Gk(t0 w)(K:KT):=nz f40 1 [] [(5,[7],λs v j w f=>Bc (s 0) (s 5) (s 6) (vg v 0) w (f 0) K)] [] (zg [0] [t0]) w K
theorem IK:Gk t0 w k0->Calls ah 40 #[t0] w k0:=cz [] [(2,[7])] func40
def Dg(t3 t8 w)(N1:JT)(K:KT):=nz f80 491 [N1] [nh 7 [3,8]] [] (zg [3,8] [t3,t8]) w K
def CY(t0 t3 t6 t7 t8 w)(N1:JT)(K:KT):=nz f80 43 [N1] [nh 7 [3,8],(16,[3],λs v j w f=>Dg (vg v 0) (s 8) w (f 0) K)] [(5,25),(6,10)] (zg [0,3,6,7,8] [t0,t3,t6,t7,t8]) w K
def HH(t0 w)(K:KT):=nz f80 1 [] [(7,[3,8],λs v j w f=>CY (s 0) (vg v 0) (s 6) (s 7) (vg v 1) w (f 0) K)] [] (zg [0] [t0]) w K
theorem Kj:HH t0 w k0->Calls ah 80 #[t0] w k0:=cz [(8,[3])] [(3,[3,8])] func80
end
section
open Eng Go.RowKit
namespace Eng
section
variable {S:Nat->Prop}{P:Program}{w w0:ao}{L:List Ent}{PK:PKT}{K:VWP}
end
end Eng
def slC (x:Slt):List Value:=[ad x.num,ad x.kind,ad x.a,ad x.b]
def slV (x:Slt):Value:=.agg (slC x).toArray
abbrev slE (b:Nat)(x:Slt):Ent:=.cells b (slC x) 60
def sl0:Slt:=⟨0,0,0,0⟩
theorem akH:FU ah 60=ay 4:=krx
theorem szSl:(Tryz.prog.info? 60).map (·.size)=ay 4:=krx
theorem Wj (x:Slt):∀v∈slC x,v.oneCell'=true:=by
 intro v a;simp only[slC,auI,avP,or_false] at a;rcases a with rfl|rfl|rfl|rfl<;>rfl
theorem fs0:nN ah 60 0=ay 0:=krx
theorem fs1:nN ah 60 1=ay 1:=krx
theorem fs2:nN ah 60 2=ay 2:=krx
theorem fs3:nN ah 60 3=ay 3:=krx
section
variable {w:ao}{PK:PKT}{K:VWP}{S:Nat->Prop}{w0:ao}{L:List Ent}
theorem Qa {off:Nat}:DoX ah (mFA 60 (af b off) 0) w PK K=K (af b off) w:=aW fs0
theorem Ia {off:Nat}:DoX ah (mFA 60 (af b off) 1) w PK K=K (af b (off+1)) w:=aW fs1
theorem HL {off:Nat}:DoX ah (mFA 60 (af b off) 2) w PK K=K (af b (off+2)) w:=aW fs2
theorem Hy {off:Nat}:DoX ah (mFA 60 (af b off) 3) w PK K=K (af b (off+3)) w:=aW fs3
theorem asK (x:Slt)(a:bT S w0 w L)(k:∀b w',bT S w0 w' (slE b x::L)->K (af b 0) w'):DoX ah (GP 60 (slV x)) w PK K:=
 bK (λb=>af b 0) (slC x) 60 (λ_=>by kernel_rfl) a k
theorem Lw (a:bT S w0 w L)(k:∀b w',bT S w0 w' (slE b sl0::L)->K (af b 0) w'):DoX ah (fK 60) w PK K:=
 bK (λb=>af b 0) (slC sl0) 60 (λ_=>by kernel_rfl) a k
theorem Hr (i:Nat){x y:Slt}(a:bT S w0 w L)(hi:L[i]?=ay (slE b x))(k:∀w',bT S w0 w' (L.set i (slE b y))->K undef w') :
  DoX ah (aN 60 (af b 0) (slV y)) w PK K:=jH i a hi (new:=slC y) szSl (Wj y) rfl k
theorem sl_v (a:bT S w0 w L)(i:Nat){x:Slt}(hi:L[i]?=ay (slE b x)):DoX ah (aH 60 (af b 0)) w PK K=K (slV x) w:=EN (a.agg i hi akH)
end
section
variable {w:ao}{PK:PKT}{K:VWP}{S:Nat->Prop}{w0:ao}{L:List Ent}
end
section
variable {w:ao}{PK:PKT}{K:VWP}{S:Nat->Prop}{w0:ao}{L:List Ent}
end
theorem eqSl:eqT ah 60 [(0,au),(1,au),(2,au),(3,au)]:=⟨krx,krx,krx,krx⟩
theorem amN (x y:Slt):([(0,au),(1,au),(2,au),(3,au)]:List (Nat×Bool)).all (λp=>Gs (slC x).toArray[p.1]? (slC y).toArray[p.1]?)=ai (x=y):=by
 have e:([(0,au),(1,au),(2,au),(3,au)]:List (Nat×Bool)).all (λp=>Gs (slC x).toArray[p.1]? (slC y).toArray[p.1]?)=((x.num==y.num)&&((x.kind==y.kind)&&((x.a==y.a)&&((x.b==y.b)&&aw)))):=rfl;rw[e,aAK];obtain⟨a,b,c,d⟩:=x;obtain⟨a',f,g,d'⟩:=y;simp
theorem akK {x y:Slt}:(mEq .neq 60 xo yo (slV x) (slV y)).run ah w=.ok (.value (.bool (!ai (x=y)))) w:=by
 rw[<-amN];exact Lj eqSl rfl
end
section
open Eng
def mL(t0 t3 t4 w)(N1:JT)(K:KT):=nz f38 2005 [N1] [nh 5 [3]] [(14,13),(16,13)] (zg [0,3,4] [t0,t3,t4]) w K
def mV(t0 t3 w)(N1:JT)(K:KT):=nz f38 21 [N1] [nh 5 [3],(28,[],λs v j w f=>mL (s 0) (s 3) (s 4) w (f 0) K)] [] (zg [0,3] [t0,t3]) w K
def qO(t0 w)(K:KT):=nz f38 1 [] [(5,[3],λs v j w f=>mV (s 0) (vg v 0) w (f 0) K)] [] (zg [0] [t0]) w K
theorem xW:qO t0 w k0->Calls ah 38 #[t0] w k0:=cz [(14,[])] [(2,[3])] func38
def pH(t3 t4 w)(N1:JT)(K:KT):=nz f60 235 [N1] [nh 7 [3,4]] [] (zg [3,4] [t3,t4]) w K
def oO(t0 t3 t4 w)(N1:JT)(K:KT):=nz f60 43 [N1] [nh 7 [3,4],(8,[3],λs v j w f=>pH (vg v 0) (s 4) w (f 0) K)] [(6,26),(7,8)] (zg [0,3,4] [t0,t3,t4]) w K
def rO(t0 w)(K:KT):=nz f60 1 [] [(7,[3,4],λs v j w f=>oO (s 0) (vg v 0) (vg v 1) w (f 0) K)] [] (zg [0] [t0]) w K
theorem AN:rO t0 w k0->Calls ah 60 #[t0] w k0:=cz [(4,[3])] [(3,[3,4])] func60
end
end Go.Proofs.YtlgndjkieegnaaaGreatDoor

namespace Go.Proofs.YtlgndjkieegnaaaGreatDoor
variable{A:Nat->Prop}{C:ao->Prop}{K:VWP}{M:Eng.Mem}{P:Program}{PK PK2:PKT}{T1 U:TypeId}{W w:ao}{a way:Int}{b i j m p:Nat}{cb:Array Bool}{k':IntKind}{key:List UInt8}{l:List Nat}{news xs:List aq}{o:Ob}{q:Bool}{v v2 vc vk vs:aq}{x:Sec}{xo yo:Operand}{α:Type}{t0 t1 t2:aq}{k0:Eng.KT}
section
namespace Eng
open Go.RowKit
section
variable {α:Type}{enc:α->List aq}{k:Nat}
theorem nU (a:∀x,(enc x).length=k):∀l:List α,(l.flatMap enc).length=l.length*k
|[]=>by simp
|x::l=>by rw[awZ,auH,a,nU a l,auX,awS];omega
theorem Pw (a:∀x,(enc x).length=k):∀(l:List α) (j:Nat),(l.flatMap enc).drop (j*k)=(l.drop j).flatMap enc
|[],j=>by simp
|x::l,0=>by simp
|x::l,j+1=>by
  rw[awZ,aAm,awS,aAf,ayN,a,awG (by rw[a];omega),aAc,Pw a l j,avU]
theorem nO (a:∀x,(enc x).length=k){l:List α}(b:j < l.length)(h:(enc l[j])[i]?=ay v):(l.flatMap enc)[j*k+i]?=ay v:=by
 have c:((l.flatMap enc).drop (j*k))[i]?=ay v:=by
  rw[Pw a,avX b,awZ,awR (auV.1 h).1];exact h
 rwa [ayB] at c
theorem aaU (a:∀x,∀v∈enc x,v.oneCell'=aw){l:List α}:∀v∈l.flatMap enc,v.oneCell'=true:=by
 intro v b;obtain⟨x,_,c⟩:=azP.1 b;exact a x v c
abbrev Ent.recs (T:TypeId)(enc:α->List aq)(k:Nat)(v:aq)(l:List α):Ent:=.urow T k v l.length (l.flatMap enc)
variable {S:Nat->Prop}{P:Program}{w w0:ao}{L:List Ent}{PK PK2:PKT}{K:VWP}
theorem rec_row (c:∀x,(enc x).length=k){T E:TypeId}(f:P.underlying T=ay (.slice E))(n:(P.info? E).map (·.size)=ay k)(o:FU P E=ay k)(i:Nat){l:List α}(p:bT S w0 w L)(hi:L[i]?=ay (.recs E enc k v l))(q:j < l.length) :
  ∃g cap,v=bO g 0 l.length cap∧(∀w,(mIA T v (ad (j:Int))).run P w=.ok (.value (af g (j*k))) w) ∧
   (∀w',(Ent.recs E enc k v l).is w'->(aH E (af g (j*k))).run P w'=.ok (.value (.agg (enc l[j]).toArray)) w') ∧
   ∀w',(Ent.recs E enc k v l).is w'->∀m u,(enc l[j])[m]?=ay u->w'.cell? ⟨g,j*k+m,ax⟩=ay u:=by
 obtain⟨g,cap,rfl⟩:=nX (p.at_ i hi) om;have a:∀w',(Ent.recs E enc k (bO g 0 l.length cap) l).is w'->∀m u,(enc l[j])[m]?=ay u->w'.cell? ⟨g,j*k+m,ax⟩=ay u:=by
  intro w' h m u hm;obtain⟨b,off,d,e,r⟩:=bR (Sl.urow h) om;cases e;have:=r _ _ (nO c q hm)
  rwa [auP] at this
 refine⟨g,cap,rfl,λw=>?_,λw' h=>?_,a⟩
 ·refine (cZ f n om om).trans ?_;rw[auJ,auP]
 ·exact aY (AtV.agg o (c _) λm u hm=>a w' h m u hm)
end
end Eng
end
section
open Go
namespace Lx
open Oc
end Lx
namespace Tl
open Lx (Tok Ss skip)
open Ps (At Toks)
def fV:List Slt->List Slt->List (List Slt)
|cur,[]=>if cur=[] then [] else [cur]
|cur,x::l=>match cur.getLast? with
 |none=>fV [x] l
 |some y=>if y.num < x.num∧x.num - 1=y.num then fV (cur++[x]) l else cur::fV [x] l
def Di (l:List Slt):List (List Slt):=fV [] l
def first (g:List Slt):Int:=(g.head?.map (·.num)).getD 0
def run (g:List Slt):Int×Int:=(first g,(g.length:Int))
def runs (l:List Slt):List (Int×Int):=(Di l).map run
end Tl
namespace Tl
open Lx (Tok Ss skip next)
open Ps (At Toks)
def akM (l:List Slt):Prop:=l.Pairwise λa b=>a.num < b.num
theorem Qe:∀{l:List Slt} {last:Option Int},tP last l=0->(∀x∈l,okS x=0)∧akM l∧∀n,last=ay n->∀x∈l,n < x.num
|[],_,_=>⟨sm,List.Pairwise.nil,sm⟩
|x::l,last,h=>by
  rw[tP] at h;split at h
  ·rename_i c;exact absurd h c
  rename_i c
  split at h
  ·omega
  rename_i e
  split at h
  ·omega
  rename_i f
  obtain⟨i1,i2,i3⟩:=Qe h;have i3:=i3 x.num rfl;have a:∀n,last=ay n->n < x.num:=by
   intro n d;subst d;simp at e f;omega
  refine⟨λy b=>?_,axD.2 ⟨i3,i2⟩,λn d y b=>?_⟩
  ·rcases auI.1 b with rfl|b
   ·exact awX.1 c
   ·exact i1 y b
  ·have g:=a n d;rcases auI.1 b with rfl|b
   ·exact g
   ·have:=i3 y b;omega
def LR:Int->List Slt->Prop
|_,[]=>True
|n,x::l=>x.num=n∧LR (n+1) l
theorem CA:∀{l:List Slt} {n:Int} {x:Slt},LR n (l++[x])↔LR n l∧x.num=n+l.length
|[],n,x=>by simp[LR]
|y::l,n,x=>by
  rw[axW,LR,CA,LR,auX];constructor
  ·rintro⟨a,b,c⟩;exact⟨⟨a,b⟩,om⟩
  ·rintro⟨⟨a,b⟩,c⟩;exact⟨a,b,om⟩
theorem M1 {l:List Slt}{n:Int}{y:Slt}(h:LR n l)(a:l.getLast?=ay y):y.num=n+l.length - 1:=by
 obtain⟨m,rfl⟩:∃m,l=m++[y]:=by
  have:=List.getLast?_eq_some_iff.1 a;exact this
 have:=(CA.1 h).2;simp;omega
def Grp (g:List Slt):Prop:=g≠[]∧LR (first g) g
theorem CD:∀(l cur:List Slt),(cur=[]∨Grp cur)->(fV cur l).flatten=cur++l∧∀g∈fV cur l,Grp g
|[],cur,h=>by
  rw[fV];split
  ·rename_i c;subst c;simp
  ·rename_i c
   rcases h with h|h
   ·exact absurd h c
   ·simp[h]
|x::l,cur,h=>by
  rw[fV];have j:Grp [x]:=⟨sm,by simp[LR,first]⟩;cases i:cur.getLast? with
 |none=>
   have c:cur=[]:=aAs.1 i;subst c;obtain⟨a,b⟩:=CD l [x] (.inr j);simp only;exact⟨by rw[a];rfl,b⟩
 |some y=>
   have c:cur≠[]:=λe=>by rw[e] at i;cases i
   have d:Grp cur:=h.resolve_left c;simp only;split
   ·rename_i m
    have k:Grp (cur++[x]):=by
     refine⟨sm,?_⟩;have e:first (cur++[x])=first cur:=by
      cases cur with
     |nil=>exact absurd rfl c
     |cons _ _=>rfl
     rw[e];have:=M1 d.2 i;exact CA.2 ⟨d.2,om⟩
    obtain⟨a,b⟩:=CD l (cur++[x]) (.inr k);exact⟨by rw[a];simp,b⟩
   ·obtain⟨a,b⟩:=CD l [x] (.inr j);refine⟨by rw[aAN,a];simp,λg f=>?_⟩;rcases auI.1 f with rfl|f
    ·exact d
    ·exact b g f
theorem xD (l:List Slt):(Di l).flatten=l∧∀g∈Di l,Grp g:=by
 have:=CD l [] (.inl rfl);simpa[Di] using this
theorem abA {g:List Slt}(h:Grp g):∃x∈g,x.num=first g+g.length - 1:=by
 obtain⟨b,c⟩:=h;cases a:g.getLast? with
|none=>exact absurd (aAs.1 a) b
|some y=>exact⟨y,List.mem_of_getLast? a,M1 c a⟩
end Tl
end
section
open Eng Go.RowKit
theorem aiV (x:Slt):(slC x).length=4:=rfl
abbrev slsE (v:aq)(l:List Slt):Ent:=.recs 60 slC 4 v l
theorem elSl:elB ah 60 4 32=true:=krx
section
variable {w:ao}{PK:PKT}{K:VWP}{S:Nat->Prop}{w0:ao}{L:List Ent}
theorem anK (x:Slt)(a:bT S w0 w L)(k:∀b w',bT S w0 w' (slE b x::L)->K (bO b 0 1 1) w'):DoX ah (aM 32 1 #[(0,slV x)]) w PK K:=
 bK (λb=>bO b 0 1 1) (slC x) 60 (λ_=>by kernel_rfl) a k
theorem aoG (i:Nat){l:List Slt}{x:Slt}(a:bT S w0 w L)(hi:L[i]?=ay (slsE v l))(b:l.length<=1000000000)
  (k:∀v' w',bT S w0 w' (L.set i (slsE v' (l++[x])))->K v' w') :
  DoX ah (aM 32 1 #[(0,slV x)]) w PK λt w=>DoX ah (mB .append #[32,32] 32 cb #[v,t]) w PK2 K:=by
 refine anK x a λnb c a=>?_;refine bZ (i+1) axA elSl dc a (by rw[avR];exact hi) (a.sl 0 rfl 4 1 1 rfl) (Wj x) om om λv' w2 a=>k v' w2 ?_;have e:slsE v' (l++[x])=.urow 60 4 v' (l.length+1) (l.flatMap slC++slC x):=by
  rw[slsE,Ent.recs,auH,axQ];simp
 rw[e];exact a.tail
end
end
end Go.Proofs.YtlgndjkieegnaaaGreatDoor

namespace Go.Proofs.YtlgndjkieegnaaaGreatDoor
variable{A:Nat->Prop}{C:ao->Prop}{K:VWP}{M:Eng.Mem}{P:Program}{PK PK2:PKT}{T1 U:TypeId}{W w:ao}{a way:Int}{b i j m p:Nat}{cb:Array Bool}{k':IntKind}{key:List UInt8}{l:List Nat}{news xs:List aq}{o:Ob}{q:Bool}{v v2 vc vk vs:aq}{x:Sec}{xo yo:Operand}{α:Type}{t0 t1 t2:aq}{k0:Eng.KT}
section
open Eng Go.RowKit
def Rb (x:Slt):Bool:=if x.kind=2 then ai (1<=x.a)&&ai (x.a<=8191)&&ai (0<=x.b)&&ai (x.b<=8191) else ai (0<=x.a)&&ai (x.a<=2147483647)&&ai (0<=x.b)&&ai (x.b<=65535)
theorem YA (x:Slt)(w:ao):Ret ah 75 #[slV x] w (λv w'=>v=.bool (Rb x)∧Below w.heap.size w w'):=by
 refine aX λK m=>Lp ?_;unfold HC nz;refine asK x (Own.start w) λb c h=>?_;have j:∀{PK:PKT} {K:VWP},DoX ah (aH 3 (af b (0+1))) c PK K=K (ad x.kind) c:=aJ aU (h.cell 0 rfl 1 rfl);have k:∀{PK:PKT} {K:VWP},DoX ah (aH 3 (af b (0+2))) c PK K=K (ad x.a) c:=aJ aU (h.cell 0 rfl 2 rfl);have l:∀{PK:PKT} {K:VWP},DoX ah (aH 3 (af b (0+3))) c PK K=K (ad x.b) c:=aJ aU (h.cell 0 rfl 3 rfl);have fin:∀{q:Bool},q=Rb x->K (.returned (.bool q)) c:=λe=>m _ _ ⟨by rw[e],h.done⟩;unfold Rb at fin;by_cases i:x.kind=2
 ·rw[auC i] at fin;by_cases d:1<=x.a<;>by_cases f:x.a<=8191<;>by_cases g:0<=x.b
  all_goals
   simp only[rs,Ia,HL,Hy,j,k,l,i,auE,d,f,g,auF,oG];exact fin (by simp[d,f,g])
 ·rw[auB i] at fin;by_cases d:0<=x.a<;>by_cases f:x.a<=2147483647<;>by_cases g:0<=x.b
  all_goals
   simp only[rs,Ia,HL,Hy,j,k,l,i,auE,d,f,g,auF,oG];exact fin (by simp[d,f,g])
def secC (x:Sec)(vs vk vc:aq):List Value:=[ad x.at_,vs]++(obC x.trailer vk vc++[ad x.prev,ad x.hybrid,ad x.own])
def Jq (x:Sec)(vs vk vc:aq):Value:=.agg (secC x vs vk vc).toArray
abbrev jN (b:Nat)(x:Sec)(vs vk vc:aq):Ent:=.cells b (secC x vs vk vc) 34
theorem TJ:FU ah 34=ay 11:=krx
theorem atG:(Tryz.prog.info? 34).map (·.size)=ay 11:=krx
theorem fse0:nN ah 34 0=ay 0:=krx
theorem fse1:nN ah 34 1=ay 1:=krx
theorem fse2:nN ah 34 2=ay 2:=krx
theorem fse3:nN ah 34 3=ay 8:=krx
theorem fse4:nN ah 34 4=ay 9:=krx
theorem fse5:nN ah 34 5=ay 10:=krx
theorem nSls:eS ah 32=true:=krx
theorem Zr (x:Sec)(b:vs.oneCell'=aw)(c:vk.oneCell'=aw)(d:vc.oneCell'=aw):∀v∈secC x vs vk vc,v.oneCell'=true:=by
 intro v a;simp only[secC,avF,auI,avP,or_false] at a;rcases a with (rfl|rfl)|a|rfl|rfl|rfl
 ·rfl
 ·exact b
 ·exact iF x.trailer c d v a
 ·rfl
 ·rfl
 ·rfl
section
variable {w:ao}{PK:PKT}{K:VWP}{S:Nat->Prop}{w0:ao}{L:List Ent}
theorem apH :DoX ah (mFA 34 (af b 0) 0) w PK K=K (af b 0) w:=aW fse0
theorem tX :DoX ah (mFA 34 (af b 0) 1) w PK K=K (af b 1) w:=aW fse1
theorem KG :DoX ah (mFA 34 (af b 0) 2) w PK K=K (af b 2) w:=aW fse2
theorem Kp :DoX ah (mFA 34 (af b 0) 3) w PK K=K (af b 8) w:=aW fse3
theorem akZ :DoX ah (mFA 34 (af b 0) 4) w PK K=K (af b 9) w:=aW fse4
theorem V9 (a:bT S w0 w L)(k:∀b w',bT S w0 w' (jN b Tl.Gw cI cI cI::L)->K (af b 0) w'):DoX ah (fK 34) w PK K:=
 bK (λb=>af b 0) (secC Tl.Gw cI cI cI) 34 (λ_=>by kernel_rfl) a k
theorem My (i:Nat){y:Sec}{vs' vk' vc':aq}(a:vs'.oneCell'=aw)(c:vk'.oneCell'=aw)(d:vc'.oneCell'=aw)(e:bT S w0 w L)(hi:L[i]?=ay (jN b x vs vk vc))(k:∀w',bT S w0 w' (L.set i (jN b y vs' vk' vc'))->K undef w') :
  DoX ah (aN 34 (af b 0) (Jq y vs' vk' vc')) w PK K:=jH i e hi (new:=secC y vs' vk' vc') atG (Zr y a c d) rfl k
theorem se_v (a:bT S w0 w L)(i:Nat)(hi:L[i]?=ay (jN b x vs vk vc)):DoX ah (aH 34 (af b 0)) w PK K=K (Jq x vs vk vc) w:=EN (a.agg i hi TJ)
theorem Gg (a:bT S w0 w L)(i:Nat)(hi:L[i]?=ay (jN b x vs vk vc)):DoX ah (aH 32 (af b 1)) w PK K=K vs w:=aJ nSls (a.cell i hi 1 rfl)
theorem asZ:DoX ah (aV 34 #[]) w PK K=K (Jq Tl.Gw cI cI cI) w:=aD krx
theorem Vr (x:Sec)(c:vs.oneCell'=aw)(d:vk.oneCell'=aw)(e:vc.oneCell'=aw)(a:bT S w0 w L)(k:∀b w',bT S w0 w' (jN b x vs vk vc::L)->K (af b 0) w'):DoX ah (GP 34 (Jq x vs vk vc)) w PK K:=
 bK (λb=>af b 0) (secC x vs vk vc) 34 (λ_=>by kernel_rfl) a k
theorem Xb (a:bT S w0 w L)(i:Nat)(hi:L[i]?=ay (jN b x vs vk vc)):DoX ah (aH 25 (af b 2)) w PK K=K (obV x.trailer vk vc) w:=
 EN (a.X9 i hi 2 (obC x.trailer vk vc) rfl fR)
theorem afE (a:bT S w0 w L)(i:Nat)(hi:L[i]?=ay (jN b x vs vk vc)):DoX ah (aH 3 (af b 2)) w PK K=K (ad x.trailer.k) w:=aJ aU (a.cell i hi 2 rfl)
end
def SecV (N:Mem)(v:aq)(x:Sec):Prop:=∃vs vk vc,v=Jq x vs vk vc∧SlA N.A N.w vs 4 x.aC.length (x.aC.flatMap slC)∧OV N.A N.w (obV x.trailer vk vc) x.trailer
abbrev GU (l:List Slt):List Value:=l.flatMap slC
theorem jQ {l:List Slt}(a:SlA M.A M.w v 4 l.length (GU l))(hi:i < l.length) :
  ∃(b off:Nat),∀W,M.has W->(mIA 32 v (ad (i:Int))).run ah W=.ok (.value (af b off)) W∧∀j u,(slC l[i])[j]?=ay u->W.cell? ⟨b,off+j,ax⟩=ay u:=by
 obtain⟨b,off,cap,rfl,_⟩:=bR a.1 om;refine⟨b,off+i*4,λW c=>⟨?_,λj u d=>?_⟩⟩
 ·have:=cZ (P:=ah) (T:=32) (b:=b) (off:=off) (cap:=cap) (n:=l.length) (k:=.i64) (i:=(i:Int)) (w:=W) axA szSl om om;rw[auJ] at this;exact this
 ·have:=Sl.cellAt (a.now c) (i*4+j) u (Eng.nO aiV hi d)
  rwa [<-awU] at this
theorem Bt {off:Nat}{x:Slt}(h:∀j u,(slC x)[j]?=ay u->W.cell? ⟨b,off+j,ax⟩=ay u):(aH 60 (af b off)).run ah W=.ok (.value (slV x)) W:=
 aY (AtV.agg akH (cs:=slC x) rfl h)
theorem qV {off:Nat}{x:Slt}(h:∀j u,(slC x)[j]?=ay u->W.cell? ⟨b,off+j,ax⟩=ay u):(aH 3 (af b off)).run ah W=.ok (.value (ad x.num)) W:=
 aB aU (h 0 _ rfl)
namespace Tl
def CR (l:List Slt):Nat->Option Int
|0=>ax
|i+1=>(l[i]?).map (·.num)
theorem Jz {l:List Slt}(hi:i < l.length):tP (CR l i) (l.drop i)=if okS l[i]≠0 then okS l[i] else if (CR l i).any (λn=>ai (l[i].num=n)) then 9 else if (CR l i).any (λn=>ai (l[i].num < n)) then 1 else tP (CR l (i+1)) (l.drop (i+1)):=by
 rw[avX hi,tP,CR,auO hi];rfl
end Tl
theorem acA (x:Slt):Tl.okS x=if x.num < 0∨8191 < x.num then 2 else if x.kind < 0∨2 < x.kind then 10 else if Rb x then 0 else 2:=by
 unfold Tl.okS Rb;by_cases c:x.num < 0∨8191 < x.num
 ·rw[auC c,auC c]
 by_cases e:x.kind < 0∨2 < x.kind
 ·rw[auB c,auC e,auB c,auC e]
 rw[auB c,auB e,auB c,auB e];by_cases f:x.kind=2
 ·rw[auC f,auC f];by_cases d:x.a < 1∨8191 < x.a∨x.b < 0∨8191 < x.b
  ·rw[auC d,auB (by simp;omega)]
  ·rw[auB d,auC (by simp;omega)]
 ·rw[auB f,auB f];by_cases d:x.a < 0∨2147483647 < x.a∨x.b < 0∨65535 < x.b
  ·rw[auC d,auB (by simp;omega)]
  ·rw[auB d,auC (by simp;omega)]
section
variable {S:Nat->Prop}{w w0:ao}{L:List Ent}
theorem TQ {l:List Slt}{x:Slt}(jx jm:Nat)(d:bT S w0 w L)(o:L[jx]?=ay (slE b x))(hm:L[jm]?=ay (.mem M))(p:SlA M.A M.w v 4 l.length (GU l))(hi:i<=l.length)(a:l.length<=1000000000000){F:VWP}
  (h:∀W,bT S w0 W L->F (.bool ((Tl.CR l i).any λn=>ai (x.num=n))) W) :
  oY w (λc=>
 QDo ah c (iQ .gtr 3 (ad (i:Int)) (ad 0)) λt36=>
 GQ t36 aw (λE=>QDo ah c (mFA 60 (af b 0) 0) E) λt38=>
 GQ t36 aw (λE=>QDo ah c (aH 3 t38) E) λt39=>
 GQ t36 aw (λE=>E v) λt40=>
 GQ t36 aw (λE=>E (ad (i:Int))) λt41=>
 GQ t36 aw (λE=>QDo ah c (iQ .sub 3 t41 (ad 1)) E) λt42=>
 GQ t36 aw (λE=>QDo ah c (mIA 32 t40 t42) E) λt43=>
 GQ t36 aw (λE=>QDo ah c (mFA 60 t43 0) E) λt44=>
 GQ t36 aw (λE=>QDo ah c (aH 3 t44) E) λt45=>
 GQ t36 aw (λE=>QDo ah c (mEq .eql 3 xo yo t39 t45) E) λt46=>
 QDo ah c (iB t36 t46 (.bool au)) λt47=>
 ∀w,c w->F t47 w):=by
 refine quiet ?_;rcases awQ i with k|k
 ·subst k;refine IM ?_;simp only[show ai ((0:Int) < ((0:Nat):Int))=au by decide,gq,CM];exact F9 λW a=>h W (d.grow a)
 obtain⟨j,rfl⟩:∃j,i=j+1:=⟨i - 1,om⟩;have q:(0:Int) < ((j+1:Nat):Int):=om
 have f:IntKind.wrap .i64 (((j+1:Nat):Int) - 1)=(j:Int):=by rw[aA om om];omega
 obtain⟨g,off,m⟩:=jQ p (i:=j) om;refine IM ?_;simp only[auG q,gq,CM];refine dY _ (λ_=>bE fs0) ?_;refine gA (ad x.num) (λ_ a=>aB aU ((d.grow a).cell jx o 0 rfl)) ?_;refine dY (ad (j:Int)) (λ_=>by rw[sZ,f]) ?_;refine gA _ (λW a=>(m W ((d.grow a).hasM jm hm)).1) ?_;refine dY _ (λ_=>bE fs0) ?_;refine gA (ad l[j].num) (λW a=>qV (m W ((d.grow a).hasM jm hm)).2) ?_;refine q_eq ?_;refine MZ λW a=>?_;have e:Tl.CR l (j+1)=ay l[j].num:=by rw[Tl.CR,auO om];rfl
 have:=h W (d.grow a);rw[e] at this;exact this
theorem TY {l:List Slt}{x:Slt}(jx jm:Nat)(d:bT S w0 w L)(o:L[jx]?=ay (slE b x))(hm:L[jm]?=ay (.mem M))(p:SlA M.A M.w v 4 l.length (GU l))(hi:i<=l.length)(a:l.length<=1000000000000){F:VWP}
  (h:∀W,bT S w0 W L->F (.bool ((Tl.CR l i).any λn=>ai (x.num < n))) W) :
  oY w (λc=>
 QDo ah c (iQ .gtr 3 (ad (i:Int)) (ad 0)) λt36=>
 GQ t36 aw (λE=>QDo ah c (mFA 60 (af b 0) 0) E) λt38=>
 GQ t36 aw (λE=>QDo ah c (aH 3 t38) E) λt39=>
 GQ t36 aw (λE=>E v) λt40=>
 GQ t36 aw (λE=>E (ad (i:Int))) λt41=>
 GQ t36 aw (λE=>QDo ah c (iQ .sub 3 t41 (ad 1)) E) λt42=>
 GQ t36 aw (λE=>QDo ah c (mIA 32 t40 t42) E) λt43=>
 GQ t36 aw (λE=>QDo ah c (mFA 60 t43 0) E) λt44=>
 GQ t36 aw (λE=>QDo ah c (aH 3 t44) E) λt45=>
 GQ t36 aw (λE=>QDo ah c (iQ .lss 3 t39 t45) E) λt46=>
 QDo ah c (iB t36 t46 (.bool au)) λt47=>
 ∀w,c w->F t47 w):=by
 refine quiet ?_;rcases awQ i with k|k
 ·subst k;refine IM ?_;simp only[show ai ((0:Int) < ((0:Nat):Int))=au by decide,gq,CM];exact F9 λW a=>h W (d.grow a)
 obtain⟨j,rfl⟩:∃j,i=j+1:=⟨i - 1,om⟩;have q:(0:Int) < ((j+1:Nat):Int):=om
 have f:IntKind.wrap .i64 (((j+1:Nat):Int) - 1)=(j:Int):=by rw[aA om om];omega
 obtain⟨g,off,m⟩:=jQ p (i:=j) om;refine IM ?_;simp only[auG q,gq,CM];refine dY _ (λ_=>bE fs0) ?_;refine gA (ad x.num) (λ_ a=>aB aU ((d.grow a).cell jx o 0 rfl)) ?_;refine dY (ad (j:Int)) (λ_=>by rw[sZ,f]) ?_;refine gA _ (λW a=>(m W ((d.grow a).hasM jm hm)).1) ?_;refine dY _ (λ_=>bE fs0) ?_;refine gA (ad l[j].num) (λW a=>qV (m W ((d.grow a).hasM jm hm)).2) ?_;refine Lu ?_;refine MZ λW a=>?_;have e:Tl.CR l (j+1)=ay l[j].num:=by rw[Tl.CR,auO om];rfl
 have:=h W (d.grow a);rw[e] at this;exact this
end
 attribute [local congr] D3
theorem MC (l:List Slt)(v:aq)(M:Mem)(w:ao)(m:l.length<=1000000000000)(f:M.has w)(j:SlA M.A M.w v 4 l.length (GU l)) :
  Ret ah 40 #[v] w (λr w'=>r=ad (Tl.check l)∧Below w.heap.size w w'):=by
 refine aX λK n=>IK ?_;unfold Gk nz;rw[aZ axA (j.now f)];refine loop (λvs W=>∃i:Nat,vs=[ad i]∧i<=l.length∧Tl.check l=Tl.tP (Tl.CR l i) (l.drop i)∧bT M.A w W [.mem M]) (λvs _=>l.length - n0 vs) ⟨0,rfl,om,rfl,bT.memS f⟩ ?_;rintro vs p ⟨i,rfl,hi,he,a⟩ _;simp only[Bc,gd,rs,nz];by_cases d:(i:Int) < (l.length:Int)
 case neg=>
  simp only[auD d,i_f];rw[awG om,Tl.tP] at he;exact n _ _ ⟨by rw[he],(a.GC 0 rfl M.le_refl f).below⟩
 have c:i < l.length:=om
 simp only[auG d,i_t];rw[Tl.Jz c,acA] at he;obtain⟨g,off,q⟩:=jQ j c;obtain⟨s,t⟩:=q p (a.hasM 0 rfl);refine aD s |>.mpr (aD (Bt t) |>.mpr ?_);refine Lw a λk w2 a=>?_;refine Hr (y:=l[i]) 0 a rfl λw3 a=>?_;have a:bT M.A w w3 [slE k l[i],.mem M]:=a;have C:l[i]?=ay l[i]:=auO c;generalize u:l[i]=x at *;have z:∀{PK:PKT} {K:VWP},DoX ah (aH 3 (af k 0)) w3 PK K=K (ad x.num) w3:=aJ aU (a.cell 0 rfl 0 rfl);have B:∀{PK:PKT} {K:VWP},DoX ah (aH 3 (af k (0+1))) w3 PK K=K (ad x.kind) w3:=aJ aU (a.cell 0 rfl 1 rfl);have fin:∀{W:ao} {e:Int} {L:List Ent},bT M.A w W (L++([.mem M]++[]))->Tl.check l=e->K (.returned (ad e)) W:=by
  intro W e L a h;exact n _ _ ⟨by rw[h],(a.front.GC 0 rfl M.le_refl f).below⟩
 simp +contextual only[rs,gs,Qa,z];rw[Bj];refine⟨λb=>fin (L:=[_]) a ?_,λb=>?_⟩
 ·simp only[axS,avK] at b;rw[he,auC b];rfl
 have b:¬(x.num < 0∨8191 < x.num):=by simp only[aAt,awY] at b;omega
 rw[auB b] at he;simp +contextual only[rs,gs,Ia,B];rw[Bj];refine⟨λb=>fin (L:=[_]) a ?_,λb=>?_⟩
 ·simp only[axS,avK] at b;rw[he,auC b];rfl
 have b:¬(x.kind < 0∨2 < x.kind):=by simp only[aAt,awY] at b;omega
 rw[auB b] at he;rw[sl_v a 0 rfl];refine aK a (R:=λv=>v=.bool (Rb x)) (YA x w3) ?_;rintro _ D rfl a;simp only[rs];cases o:Rb x with
|false=>
  rw[o] at he;simp only[avZ,i_t];exact fin (L:=[_]) a (by rw[he];rfl)
|true=>
 rw[o] at he;simp only[awA,i_f];simp only[if_true,ne_eq,not_true,if_false] at he;refine TQ 0 1 a rfl rfl j hi m λE a=>?_;rw[Bj];refine⟨λb=>fin (L:=[_]) a (by rw[he,auC b]),λb=>?_⟩;rw[auB (by rw[b];simp)] at he;refine TY 0 1 a rfl rfl j hi m λF a=>?_;rw[Bj];refine⟨λb=>fin (L:=[_]) a (by rw[he,auC b]),λb=>?_⟩;rw[auB (by rw[b];simp)] at he;rw[aA om om];exact bC ⟨i+1,rfl,om,he,a.tail⟩ (by show l.length - Int.toNat ((i:Int)+1) < l.length - Int.toNat (i:Int);omega)
theorem Qh (l:List Slt)(v:aq)(M:Mem)(w:ao)(s:l.length<=1000000000000)(p:M.has w)(m:SlA M.A M.w v 4 l.length (GU l)) :
  Ret ah 38 #[v] w (λr w'=>r=ad (Tl.check l)∧Below w.heap.size w w'):=by
 refine aX λK t=>xW ?_;unfold qO nz;refine loop (λvs W=>∃i:Nat,vs=[ad i]∧i<=l.length∧Tl.check l=Tl.tP (Tl.CR l i) (l.drop i)∧bT M.A w W [.mem M]) (λvs _=>l.length - n0 vs) ⟨0,rfl,om,rfl,bT.memS p⟩ ?_;rintro vs C ⟨i,rfl,hi,he,d⟩ _;simp only[mV,gd,nz];rw[aZ axA (m.now (d.hasM 0 rfl))];simp only[rs];by_cases f:(i:Int) < (l.length:Int)
 case neg=>
  simp only[auD f,i_f];rw[awG om,Tl.tP] at he;exact t _ _ ⟨by rw[he],(d.GC 0 rfl M.le_refl p).below⟩
 have j:i < l.length:=om
 simp only[auG f,i_t];rw[Tl.Jz j,Tl.okS] at he;obtain⟨g,off,D⟩:=jQ m j;obtain⟨E,F⟩:=D C (d.hasM 0 rfl);refine aD E |>.mpr (aD (Bt F) |>.mpr ?_);refine Lw d λk w2 d=>?_;refine Hr (y:=l[i]) 0 d rfl λw3 d=>?_;have d:bT M.A w w3 [slE k l[i],.mem M]:=d;generalize G:l[i]=x at *;have H:∀{PK:PKT} {K:VWP},DoX ah (aH 3 (af k 0)) w3 PK K=K (ad x.num) w3:=aJ aU (d.cell 0 rfl 0 rfl);have u:∀{PK:PKT} {K:VWP},DoX ah (aH 3 (af k (0+1))) w3 PK K=K (ad x.kind) w3:=aJ aU (d.cell 0 rfl 1 rfl);have z:∀{PK:PKT} {K:VWP},DoX ah (aH 3 (af k (0+2))) w3 PK K=K (ad x.a) w3:=aJ aU (d.cell 0 rfl 2 rfl);have B:∀{PK:PKT} {K:VWP},DoX ah (aH 3 (af k (0+3))) w3 PK K=K (ad x.b) w3:=aJ aU (d.cell 0 rfl 3 rfl);have fin:∀{W:ao} {e:Int} {L:List Ent},bT M.A w W (L++([.mem M]++[]))->Tl.check l=e->K (.returned (ad e)) W:=by
  intro W e L d h;exact t _ _ ⟨by rw[h],(d.front.GC 0 rfl M.le_refl p).below⟩
 simp +contextual only[rs,gs,Qa,H];rw[Bj];refine⟨λc=>fin (L:=[_]) d ?_,λc=>?_⟩
 ·simp only[axS,avK] at c;rw[he,auC c];rfl
 have c:¬(x.num < 0∨8191 < x.num):=by simp only[aAt,awY] at c;omega
 rw[auB c] at he;simp +contextual only[rs,gs,Ia,u];rw[Bj];refine⟨λc=>fin (L:=[_]) d ?_,λc=>?_⟩
 ·simp only[axS,avK] at c;rw[he,auC c];rfl
 have c:¬(x.kind < 0∨2 < x.kind):=by simp only[aAt,awY] at c;omega
 rw[auB c] at he;refine join λJ I=>?_;have next:(Tl.check l=if (Tl.CR l i).any (λn=>ai (x.num=n)) then 9 else if (Tl.CR l i).any (λn=>ai (x.num < n)) then 1 else Tl.tP (Tl.CR l (i+1)) (l.drop (i+1)))->J [] w3:=by
  intro he;refine I _ _ λ_=>?_;simp only[mL,nz];refine TQ 0 1 d rfl rfl m hi s λN d=>?_;rw[Bj];refine⟨λc=>fin (L:=[_]) d (by rw[he,auC c]),λc=>?_⟩;rw[auB (by rw[c];simp)] at he;refine TY 0 1 d rfl rfl m hi s λO d=>?_;rw[Bj];refine⟨λc=>fin (L:=[_]) d (by rw[he,auC c]),λc=>?_⟩;rw[auB (by rw[c];simp)] at he;simp only[rs];rw[aA om om];exact bC ⟨i+1,rfl,om,he,d.tail⟩ (by show l.length - Int.toNat ((i:Int)+1) < l.length - Int.toNat (i:Int);omega)
 try simp only[rs,Ia,u]
 by_cases o:x.kind=2
 ·rw[auC o] at he;simp only[auG o,i_t];simp +contextual only[rs,gs,HL,z,Hy,B];rw[Bj];refine⟨λc=>fin (L:=[_]) d ?_,λc=>next ?_⟩
  ·simp only[axS,avK] at c;have q:x.a < 1∨8191 < x.a∨x.b < 0∨8191 < x.b:=om
   rw[auC q] at he;rw[he];rfl
  ·simp only[aAt,awY] at c;rw[auB om] at he;simpa using he
 ·rw[auB o] at he;simp only[auD o,i_f];simp +contextual only[rs,gs,HL,z,Hy,B];rw[Bj];refine⟨λc=>fin (L:=[_]) d ?_,λc=>next ?_⟩
  ·simp only[axS,avK] at c;have q:x.a < 0∨2147483647 < x.a∨x.b < 0∨65535 < x.b:=om
   rw[auC q] at he;rw[he];rfl
  ·simp only[aAt,awY] at c;rw[auB om] at he;simpa using he
end
section
open Eng
def mQ(t0 t3 w)(N1:JT)(K:KT):=nz f46 19 [N1] [nh 5 [0,3]] [] (zg [0,3] [t0,t3]) w K
def pZ(t0 w)(K:KT):=nz f46 1 [] [(5,[0,3],λs v j w f=>mQ (vg v 0) (vg v 1) w (f 0) K)] [] (zg [0] [t0]) w K
theorem yC:pZ t0 w k0->Calls ah 46 #[t0] w k0:=cz [] [(2,[0,3])] func46
def mD(t0 t2 t3 t4 t5 w)(N1:JT)(K:KT):=nz f14 43 [N1] [nh 7 [3,4,5]] [] (zg [0,2,3,4,5] [t0,t2,t3,t4,t5]) w K
def oP(t0 w)(K:KT):=nz f14 1 [] [(7,[3,4,5],λs v j w f=>mD (s 0) (s 2) (vg v 0) (vg v 1) (vg v 2) w (f 0) K)] [] (zg [0] [t0]) w K
theorem vS:oP t0 w k0->Calls ah 14 #[t0] w k0:=cz [] [(3,[3,4,5])] func14
def oR(t0 t4 t5 t6 t8 w)(N1 a:JT)(K:KT):=nz f21 11095 [N1,a] [nh 9 [4,5],nh 25 [6,8]] [] (zg [0,4,5,6,8] [t0,t4,t5,t6,t8]) w K
def nY(t0 t3 t4 t5 t6 t7 w)(N1 a:JT)(K:KT):=nz f21 5463 [N1,a] [nh 9 [4,5],nh 17 [6,7],(25,[6,8],λs v j w f=>oR (s 0) (s 4) (s 5) (vg v 0) (vg v 1) w (f 1) (f 0) K)] [] (zg [0,3,4,5,6,7] [t0,t3,t4,t5,t6,t7]) w K
def nZ(t0 t3 t4 t5 w)(N1:JT)(K:KT):=nz f21 87 [N1] [nh 9 [4,5],(17,[6,7],λs v j w f=>nY (s 0) (s 3) (s 4) (s 5) (vg v 0) (vg v 1) w (f 1) (f 0) K)] [] (zg [0,3,4,5] [t0,t3,t4,t5]) w K
def sB(t0 w)(K:KT):=nz f21 1 [] [(9,[4,5],λs v j w f=>nZ (s 0) (s 3) (vg v 0) (vg v 1) w (f 0) K)] [] (zg [0] [t0]) w K
theorem Au:sB t0 w k0->Calls ah 21 #[t0] w k0:=cz [] [(4,[4,5]),(8,[6,7]),(12,[6,8])] func21
def tK(t0 w)(K:KT):=nz f15 1 [] [] [] (zg [0] [t0]) w K
theorem Ce:tK t0 w k0->Calls ah 15 #[t0] w k0:=cw func15
def rK(t0 t1 t2 w)(K:KT):=nz f58 1 [] [] [] (zg [0,1,2] [t0,t1,t2]) w K
theorem Av:rK t0 t1 t2 w k0->Calls ah 58 #[t0,t1,t2] w k0:=cw func58
def iY(t2 t3 w)(K:KT):=nz f20 16383 [] [] [] (zg [2,3] [t2,t3]) w K
def oD(d f a c e b w)(J:JT)(K:KT):=
 lnx 62 c w K λg w=>bnx .lss 3 b g w K λh w=>IfX h (oY w (λE=>QDo ah E (mIA 62 c b) λi=>QDo ah E (mIA 97 i (iN 0)) λj=>QDo ah E (aH 3 j) λk=>Fj ah E 59 #[k] λl=>QDo ah E (mIA 62 c b) λm=>QDo ah E (mIA 97 m (iN 1)) λn=>QDo ah E (aH 3 n) λo=>Fj ah E 59 #[o] λp=>
 ∀w,E w ->
 DoX ah (aM 23 2 #[(0,l),(1,p)]) w (az 5 (pk K)) λq w=>DoX ah (mB .append #[23,23] 23 #[au,au] #[e,q]) w (az 5 (pk K)) λr w=>bnx .add 3 b (iN 1) w K λs w=>J [r,s] w)) (oY w (λH=>QDo ah H (aH 25 a) λt=>Fj ah H 55 #[e] λu=>
 ∀w,H w ->
 cx 58 #[t,(.string ⟨#[73,110,100,101,120]⟩),u] w K λv w=>stx 25 a v w K λ_ w=>Fq (λI=>fax 34 d 3 w K λx w=>ldx 3 x w K λy w=>bnx .geq 3 y (iN 0) w K λz w=>IfX z (oY w (λG=>QDo ah G (aH 25 a) λA=>QDo ah G (mFA 34 d 3) λB=>QDo ah G (aH 3 B) λC=>Fj ah G 59 #[C] λD=>
 ∀w,G w ->
 cx 58 #[A,(.string ⟨#[80,114,101,118]⟩),D] w K λF w=>stx 25 a F w K λ_ w=>I [] w)) (I [] w)) (λL w=>∀_:Sg,iY f a w K)))
def iV(c d a e w)(K:KT):=
 oY w (λD=>QDo ah D (aH 25 a) λf=>Fj ah D 59 #[e] λg=>
 ∀w,D w ->
 cx 58 #[f,(.string ⟨#[83,105,122,101]⟩),g] w K λh w=>stx 25 a h w K λ_ w=>fax 34 c 1 w K λi w=>ldx 32 i w K λj w=>cx 14 #[j] w K λk w=>alx 43 w K λb w=>stx 43 b k w K λ_ w=>Ay w (λS4 w=>HDo ah S4 (aH 25 a) λl=>HDo ah (λ_=>True) (mIA 43 b (iN 0)) λm=>HDo ah S4 (aH 3 m) λn=>HDo ah (λ_=>True) (mIA 43 b (iN 1)) λo=>HDo ah S4 (aH 3 o) λp=>HDo ah (λ_=>True) (mIA 43 b (iN 2)) λq=>HDo ah S4 (aH 3 q) λr=>cR ah 59 #[n] w (az 7 (pk K)) λs w=>S4 w∧(cR ah 59 #[p] w (az 7 (pk K)) λt w=>S4 w∧(cR ah 59 #[r] w (az 7 (pk K)) λu w=>S4 w∧(DoX ah (aM 23 3 #[(0,s),(1,t),(2,u)]) w (az 7 (pk K)) λv w=>S4 w∧(cR ah 55 #[v] w (az 7 (pk K)) λx w=>S4 w∧(cR ah 58 #[l,(.string ⟨#[87]⟩),x] w (az 7 (pk K)) λy w=>S4 w∧(DoX ah (aN 25 a y) w (az 7 (pk K)) λ_ w=>(fax 34 c 1 w K λz w=>ldx 32 z w K λA w=>cx 60 #[A] w K λB w=>Es [(.slice ax 0 0),(iN 0)] w (λC w E=>∀_:Sg,oD c d a B (C.getD 0 undef) (C.getD 1 undef) w E K))))))))))
def rG(t0 w)(K:KT):=nz f20 1 [] [(12,[4],λs v j w f=>iV (s 1) (s 2) (s 3) (vg v 0) w K)] [(2,2)] (zg [0] [t0]) w K
theorem AO:rG t0 w k0->Calls ah 20 #[t0] w k0:=cz [(6,[4]),(18,[])] [(12,[7,8])] func20
def mW(t0 t1 t5 w)(N1:JT)(K:KT):=nz f25 43 [N1] [nh 9 [5]] [(6,9)] (zg [0,1,5] [t0,t1,t5]) w K
def qQ(t0 t1 w)(K:KT):=nz f25 1 [] [(9,[5],λs v j w f=>mW (s 0) (s 1) (vg v 0) w (f 0) K)] [] (zg [0,1] [t0,t1]) w K
theorem yE:qQ t0 t1 w k0->Calls ah 25 #[t0,t1] w k0:=cz [] [(4,[5])] func25
def qI(w)(K:KT):=nz f6 1 [] [] [] (zg [] []) w K
theorem xM:qI w k0->Calls ah 6 #[] w k0:=cw func6
def qM(t0 w)(K:KT):=nz f11 1 [] [] [] (zg [0] [t0]) w K
theorem yV:qM t0 w k0->Calls ah 11 #[t0] w k0:=cw func11
def aL(t1 t3 t6 t7 t9 w)(K:KT):=nz f4 1023 [] [] [] (zg [1,3,6,7,9] [t1,t3,t6,t7,t9]) w K
def eX(S2:ao->Prop)(b c d e a f g w)(K:KT):=
 (cR ah 20 #[f] w (az 10 (pk K)) λh w=>S2 w∧(DoX ah (aM 22 1 #[(0,(.string ⟨#[70,108,97,116,101,68,101,99,111,100,101]⟩))]) w (az 10 (pk K)) λi w=>S2 w∧(cR ah 19 #[h,i,g] w (az 10 (pk K)) λj w=>S2 w∧(DoX ah (aN 25 a j) w (az 10 (pk K)) λ_ w=>(aL b c d e a w K)))))∧(DoX ah (aM 22 1 #[(0,(.string ⟨#[70,108,97,116,101,68,101,99,111,100,101]⟩))]) w (az 10 (pk K)) λk w=>S2 w∧(cR ah 20 #[f] w (az 10 (pk K)) λl w=>S2 w∧(cR ah 19 #[l,k,g] w (az 10 (pk K)) λm w=>S2 w∧(DoX ah (aN 25 a m) w (az 10 (pk K)) λ_ w=>(aL b c d e a w K)))))
def fC(S2:ao->Prop)(b c d e a f g h w)(K:KT):=
 (cR ah 20 #[f] w (az 10 (pk K)) λi w=>S2 w∧(DoX ah (aM 54 1 #[(0,h)]) w (az 10 (pk K)) λj w=>S2 w∧(cR ah 19 #[i,g,j] w (az 10 (pk K)) λk w=>S2 w∧(DoX ah (aN 25 a k) w (az 10 (pk K)) λ_ w=>(aL b c d e a w K)))))∧(DoX ah (aM 54 1 #[(0,h)]) w (az 10 (pk K)) λl w=>S2 w∧(cR ah 20 #[f] w (az 10 (pk K)) λm w=>S2 w∧(cR ah 19 #[m,g,l] w (az 10 (pk K)) λn w=>S2 w∧(DoX ah (aN 25 a n) w (az 10 (pk K)) λ_ w=>(aL b c d e a w K)))))
def dA(S2:ao->Prop)(a b c d e f g w)(K:KT):=
 (cR ah 19 #[e,f,g] w (az 10 (pk K)) λj w=>S2 w∧(DoX ah (fK 25) w (az 10 (pk K)) λh w=>S2 w∧(DoX ah (aN 25 h j) w (az 10 (pk K)) λ_ w=>(aL a b c d h w K))))∧(DoX ah (fK 25) w (az 10 (pk K)) λi w=>S2 w∧(cR ah 19 #[e,f,g] w (az 10 (pk K)) λk w=>S2 w∧(DoX ah (aN 25 i k) w (az 10 (pk K)) λ_ w=>(aL a b c d i w K))))
def eY(S2:ao->Prop)(a b c d e f g w)(K:KT):=
 (cR ah 20 #[e] w (az 10 (pk K)) λi w=>S2 w∧(dA S2 a b c d i f g w K))∧(DoX ah (fK 25) w (az 10 (pk K)) λh w=>S2 w∧(cR ah 20 #[e] w (az 10 (pk K)) λj w=>S2 w∧(cR ah 19 #[j,f,g] w (az 10 (pk K)) λk w=>S2 w∧(DoX ah (aN 25 h k) w (az 10 (pk K)) λ_ w=>(aL a b c d h w K)))))
def fA(S2:ao->Prop)(b c d e a f g w)(K:KT):=
 (DoX ah (aM 22 1 #[(0,(.string ⟨#[70,108,97,116,101,68,101,99,111,100,101]⟩))]) w (az 10 (pk K)) λh w=>S2 w∧(DoX ah (aM 54 1 #[(0,g)]) w (az 10 (pk K)) λi w=>S2 w∧(cR ah 19 #[f,h,i] w (az 10 (pk K)) λj w=>S2 w∧(DoX ah (aN 25 a j) w (az 10 (pk K)) λ_ w=>(aL b c d e a w K)))))∧(DoX ah (aM 54 1 #[(0,g)]) w (az 10 (pk K)) λk w=>S2 w∧(DoX ah (aM 22 1 #[(0,(.string ⟨#[70,108,97,116,101,68,101,99,111,100,101]⟩))]) w (az 10 (pk K)) λl w=>S2 w∧(cR ah 19 #[f,l,k] w (az 10 (pk K)) λm w=>S2 w∧(DoX ah (aN 25 a m) w (az 10 (pk K)) λ_ w=>(aL b c d e a w K)))))
def fB(S2:ao->Prop)(a b c d e f w)(K:KT):=
 (DoX ah (aM 22 1 #[(0,(.string ⟨#[70,108,97,116,101,68,101,99,111,100,101]⟩))]) w (az 10 (pk K)) λh w=>S2 w∧(dA S2 a b c d e h f w K))∧(DoX ah (fK 25) w (az 10 (pk K)) λg w=>S2 w∧(DoX ah (aM 22 1 #[(0,(.string ⟨#[70,108,97,116,101,68,101,99,111,100,101]⟩))]) w (az 10 (pk K)) λi w=>S2 w∧(cR ah 19 #[e,i,f] w (az 10 (pk K)) λj w=>S2 w∧(DoX ah (aN 25 g j) w (az 10 (pk K)) λ_ w=>(aL a b c d g w K)))))
def eZ(S2:ao->Prop)(a b c d e f g w)(K:KT):=
 (DoX ah (aM 54 1 #[(0,g)]) w (az 10 (pk K)) λi w=>S2 w∧(dA S2 a b c d e f i w K))∧(DoX ah (fK 25) w (az 10 (pk K)) λh w=>S2 w∧(DoX ah (aM 54 1 #[(0,g)]) w (az 10 (pk K)) λj w=>S2 w∧(cR ah 19 #[e,f,j] w (az 10 (pk K)) λk w=>S2 w∧(DoX ah (aN 25 h k) w (az 10 (pk K)) λ_ w=>(aL a b c d h w K)))))
def kC(t w)(K:KT):=
 dx (GP 34 t) w K λa w=>ldx 34 a w K λu w=>cx 11 #[u] w K λv w=>dx (mUn .not v) w K λx w=>IfX x (cx 6 #[] w K λy w=>K (.returned y) w) (ldx 34 a w K λz w=>cx 12 #[z] w K λo w=>exx o 0 w K λA w=>exx o 1 w K λp w=>alx 27 w K λb w=>stx 27 b A w K λ_ w=>oY w (λC1=>QDo ah C1 (mFA 34 a 1) λB=>QDo ah C1 (aH 32 B) λC=>Fj ah C1 13 #[C] λD=>QDo ah C1 (mFA 34 a 1) λF=>QDo ah C1 (aH 32 F) λG=>Fj ah C1 14 #[G] λH=>QDo ah C1 (mEq .neq 43 (.tmp 21) (.tmp 24) D H) λI=>
 ∀w,C1 w ->
 IfX I (K (.returned (.bool au)) w) (ldx 34 a w K λL w=>cx 15 #[L] w K λq w=>ecx .neq 35 28 0 q w K λM w=>IfX M (eqx .eql 35 (.tmp 30) (.tmp 31) p q w K λi w=>gtx i (mFA 27 b 0) w K λO w=>gtx i (aH 3 O) w K λP w=>gtx i (mEq .eql 3 (.tmp 35) (.const (iN 0)) P (iN 0)) w K λQ w=>dx (iB i Q (.bool au)) w K λj w=>gtx j (mFA 27 b 1) w K λR w=>gtx j (aH 3 R) w K λS w=>gtx j (mEq .eql 3 (.tmp 40) (.const (iN 0)) S (iN 0)) w K λT w=>dx (iB j T (.bool au)) w K λh w=>gtx h (mFA 27 b 2) w K λU w=>gtx h (aH 25 U) w K λV w=>gtx h (aV 25 #[]) w K λW w=>ctx h 16 #[V,W] w K λX w=>dx (iB h X (.bool au)) w K λr w=>ctx r 6 #[] w K λY w=>dx (iB r Y (.bool au)) w K λZ w=>K (.returned Z) w) (ecx .neq 35 52 0 p w K λg w=>gfx g (mFA 27 b 0) w K λt55 w=>gfx g (aH 3 t55) w K λt56 w=>gfx g (mFA 34 a 5) w K λt57 w=>gfx g (aH 3 t57) w K λt58 w=>gfx g (mEq .neq 3 (.tmp 56) (.tmp 58) t56 t58) w K λt59 w=>dx (iB g (.bool aw) t59) w K λk w=>gfx k (mFA 27 b 1) w K λt62 w=>gfx k (aH 3 t62) w K λt63 w=>gfx k (mEq .neq 3 (.tmp 63) (.const (iN 0)) t63 (iN 0)) w K λt64 w=>dx (iB k (.bool aw) t64) w K λl w=>gfx l (aH 27 b) w K λt67 w=>cfx l 17 #[t67] w K λt68 w=>gfx l (mEq .neq 35 (.tmp 68) (.const (iN 0)) t68 (iN 0)) w K λt69 w=>dx (iB l (.bool aw) t69) w K λt70 w=>IfX t70 (K (.returned (.bool au)) w) (fax 27 b 2 w K λt72 w=>ldx 25 t72 w K λt73 w=>cx 18 #[t73] w K λs w=>exx s 0 w K λc w=>exx s 1 w K λd w=>fax 34 a 1 w K λt77 w=>ldx 32 t77 w K λt78 w=>cx 14 #[t78] w K λt79 w=>alx 43 w K λm w=>stx 43 m t79 w K λ_ w=>Ay w (λS2 w=>HDo ah S2 (aH 34 a) λe=>HDo ah (λ_=>True) (mIA 43 m (iN 0)) λt83=>HDo ah S2 (aH 3 t83) λt84=>HDo ah (λ_=>True) (mIA 43 m (iN 1)) λt85=>HDo ah S2 (aH 3 t85) λt86=>HDo ah (λ_=>True) (iQ .add 3 t84 t86) λt87=>HDo ah (λ_=>True) (mIA 43 m (iN 2)) λt88=>HDo ah S2 (aH 3 t88) λt89=>HDo ah (λ_=>True) (iQ .add 3 t87 t89) λt90=>HDo ah (λ_=>True) (aV 53 #[(0,(iN 12)),(1,(iN 1)),(2,t90)]) λf=>(cR ah 20 #[e] w (az 10 (pk K)) λn w=>S2 w∧((DoX ah (aM 22 1 #[(0,(.string ⟨#[70,108,97,116,101,68,101,99,111,100,101]⟩))]) w (az 10 (pk K)) λt82 w=>S2 w∧(eZ S2 a b c d n t82 f w K))∧(DoX ah (aM 54 1 #[(0,f)]) w (az 10 (pk K)) λt92 w=>S2 w∧(fB S2 a b c d n t92 w K))∧(DoX ah (fK 25) w (az 10 (pk K)) λt9 w=>S2 w∧(fA S2 a b c d t9 n f w K))))∧(DoX ah (aM 22 1 #[(0,(.string ⟨#[70,108,97,116,101,68,101,99,111,100,101]⟩))]) w (az 10 (pk K)) λE w=>S2 w∧((cR ah 20 #[e] w (az 10 (pk K)) λa1 w=>S2 w∧(eZ S2 a b c d a1 E f w K))∧(DoX ah (aM 54 1 #[(0,f)]) w (az 10 (pk K)) λa6 w=>S2 w∧(eY S2 a b c d e E a6 w K))∧(DoX ah (fK 25) w (az 10 (pk K)) λb3 w=>S2 w∧(fC S2 a b c d b3 e E f w K))))∧(DoX ah (aM 54 1 #[(0,f)]) w (az 10 (pk K)) λJ w=>S2 w∧((cR ah 20 #[e] w (az 10 (pk K)) λa7 w=>S2 w∧(fB S2 a b c d a7 J w K))∧(DoX ah (aM 22 1 #[(0,(.string ⟨#[70,108,97,116,101,68,101,99,111,100,101]⟩))]) w (az 10 (pk K)) λa8 w=>S2 w∧(eY S2 a b c d e a8 J w K))∧(DoX ah (fK 25) w (az 10 (pk K)) λb4 w=>S2 w∧(eX S2 a b c d b4 e J w K))))∧(DoX ah (fK 25) w (az 10 (pk K)) λN w=>S2 w∧((cR ah 20 #[e] w (az 10 (pk K)) λb0 w=>S2 w∧(fA S2 a b c d N b0 f w K))∧(DoX ah (aM 22 1 #[(0,(.string ⟨#[70,108,97,116,101,68,101,99,111,100,101]⟩))]) w (az 10 (pk K)) λb1 w=>S2 w∧(fC S2 a b c d N e b1 f w K))∧(DoX ah (aM 54 1 #[(0,f)]) w (az 10 (pk K)) λb2 w=>S2 w∧(eX S2 a b c d N e b2 w K))))))))))
theorem qT:kC t0 w k0->Calls ah 4 #[t0] w k0:=cw func4
end
section
open Eng Go.RowKit
theorem OZ (a b:List Slt)(va p:aq)(M:Mem)(w:ao)(v:a.length<=1000000000)(k:M.has w)(m:SlA M.A M.w va 4 a.length (GU a))(n:SlA M.A M.w p 4 b.length (GU b)) :
  Ret ah 25 #[va,p] w (λr w'=>r=.bool (ai (a=b))∧Below w.heap.size w w'):=by
 refine aX λK s=>yE ?_;unfold qQ nz;rw[aZ axA (m.now k),aZ axA (n.now k)];simp only[rs];by_cases hlen:(a.length:Int)≠(b.length:Int)
 ·simp only[auG hlen,i_t];have d:a≠b:=λe=>hlen (by rw[e]);exact s _ _ ⟨by rw[auD d],Below.refl _ _⟩
 have hle:a.length=b.length:=om
 simp only[auD hlen,i_f];refine loop (λvs w'=>∃(i:Nat),vs=[ad i]∧i<=a.length∧a.take i=b.take i∧bT M.A w w' [.mem M]) (λvs _=>a.length - n0 vs) ⟨0,rfl,om,sm,bT.memS k⟩ ?_;rintro vs w2 ⟨i,rfl,hi,he,c⟩ _;simp only[mW,gd,nz];rw[aZ axA (m.now (c.hasM 0 rfl))];simp only[rs];have fin:∀{W:ao} {q:Bool},bT M.A w W [.mem M]->ai (a=b)=q->K (.returned (.bool q)) W:=λc h=>s _ _ ⟨by rw[h],(c.GC 0 rfl M.le_refl k).below⟩;by_cases f:(i:Int) < (a.length:Int)
 case neg=>
  simp only[auD f,i_f,oG,rs];have o:a=b:=by
   rw[avE om,avE om] at he;exact he
  exact fin c (auG o)
 have t:i < a.length:=om
 have u:i < b.length:=om
 simp only[auG f,rs];rw[aZ axA (n.now (c.hasM 0 rfl))];simp only[rs,auG (show (i:Int) < (b.length:Int) by omega),i_t];obtain⟨x,y,g⟩:=jQ m t;obtain⟨z,B,j⟩:=jQ n u;refine quiet ?_;refine gA _ (λW hw=>(g W ((c.grow hw).hasM 0 rfl)).1) (gA _ (λW hw=>Bt (g W ((c.grow hw).hasM 0 rfl)).2) ?_);refine gA _ (λW hw=>(j W ((c.grow hw).hasM 0 rfl)).1) (gA _ (λW hw=>Bt (j W ((c.grow hw).hasM 0 rfl)).2) ?_);refine dY _ (λ_=>akK) ?_;intro w3 hw;have c:=c.grow hw;by_cases l:a[i]=b[i]
 ·simp only[l,auE,awA,i_f,rs];rw[aA om om];refine bC ⟨i+1,rfl,om,?_,c⟩ (by show a.length - Int.toNat ((i:Int)+1) < a.length - Int.toNat (i:Int);omega);rw[avL t,avL u,he,l]
 ·simp only[l,auF,avZ,i_t];have d:a≠b:=λe=>l (by subst e;rfl);exact fin c (auD d)
theorem Q7 (x:Sec)(vs vk vc:aq)(w:ao)(k:x.aC.length<=1000000000)(hw:x.trailer.wt<=1000000000){g:ao}(e:SlA A g vs 4 x.aC.length (GU x.aC))(d:OV (InW w) w (obV x.trailer vk vc) x.trailer) :
  Ret ah 11 #[Jq x vs vk vc] w (λr w'=>(∃b,r=.bool b∧(b=aw->x.aC.length<=200))∧Below w.heap.size w w'):=by
 refine aX λK f=>yV ?_;unfold qM nz;refine Vr x e.one d.oneK d.oneC (Own.start w) λb i c=>?_;rw[tX,Gg c 0 rfl];obtain⟨a,cap,rfl,_⟩:=e.form;rw[bW axA];simp only[rs];by_cases h:(x.aC.length:Int)<=200
 case neg=>
  simp only[auD h,rs,oG];exact f _ _ ⟨⟨au,rfl,λh=>by cases h⟩,c.done⟩
 simp only[auG h,rs];rw[KG,Xb c 0 rfl];obtain⟨cs,j⟩:=d.slices;refine tQ (Zf x.trailer.wt x.trailer _ i (auL _) (j.in_ c).ov om) rfl c λw2 c=>?_;simp only[rs];exact f _ _ ⟨⟨_,rfl,λ_=>by omega⟩,c.done⟩
end
section
open Eng
def zV(t25 w)(N1:JT)(K:KT):=nz f79 983 [N1] [nh 11 [25]] [] (zg [25] [t25]) w K
def kH(t1 t2 t3 t23 t24 t25 w)(N1:JT)(K:KT):=nz f79 87 [N1] [nh 11 [25],(22,[],λs v j w f=>zV (s 25) w (f 0) K)] [] (zg [1,2,3,23,24,25] [t1,t2,t3,t23,t24,t25]) w K
def De(t0 w)(K:KT):=nz f79 1 [] [(11,[25],λs v j w f=>kH (s 1) (s 2) (s 3) (s 23) (s 24) (vg v 0) w (f 0) K)] [] (zg [0] [t0]) w K
theorem Hm:De t0 w k0->Calls ah 79 #[t0] w k0:=cz [(11,[])] [(5,[25])] func79
def lC(t24 w)(N1:JT)(K:KT):=nz f57 983 [N1] [nh 11 [24]] [] (zg [24] [t24]) w K
def kZ(g f a h i b w)(N1:JT)(K:KT):=
 bnx .lss 3 b i w K λj w=>IfX j (Fq (λE=>iax 22 h b w K λk w=>ldx 9 k w K λc w=>eqx .eql 9 (.tmp 29) (.const (.string ⟨#[73,68]⟩)) c (.string ⟨#[73,68]⟩) w K λd w=>efx d c w λl w=>gfx d (mEq .eql 9 (.tmp 32) (.const (.string ⟨#[73,110,102,111]⟩)) l (.string ⟨#[73,110,102,111]⟩)) w K λm w=>dx (iB d (.bool aw) m) w K λe w=>efx e c w λn w=>gfx e (mEq .eql 9 (.tmp 36) (.const (.string ⟨#[82,111,111,116]⟩)) n (.string ⟨#[82,111,111,116]⟩)) w K λo w=>dx (iB e (.bool aw) o) w K λp w=>IfX p (fax 25 a 4 w K λq w=>ldx 22 q w K λr w=>dx (aM 22 1 #[(0,c)]) w K λs w=>apx 22 r s w K λt w=>fax 25 a 4 w K λu w=>stx 22 u t w K λ_ w=>Ay w (λS3 w=>HDo ah (λ_=>True) (mFA 25 a 5) λv=>HDo ah S3 (aH 23 v) λx=>HDo ah (λ_=>True) (mFA 25 g 5) λy=>HDo ah S3 (aH 23 y) λz=>HDo ah (λ_=>True) (mIA 23 z b) λA=>HDo ah S3 (aH 25 A) λB=>DoX ah (aM 23 1 #[(0,B)]) w (az 8 (pk K)) λC w=>S3 w∧(DoX ah (mB .append #[23,23] 23 #[au,au] #[x,C]) w (az 8 (pk K)) λD w=>S3 w∧(HDo ah (λ_=>True) (mFA 25 a 5) λF=>DoX ah (aN 23 F D) w (az 8 (pk K)) λ_ w=>(E [] w))))) (E [] w)) (λH w=>∀_:Sg,lC b w N1 K)) (ldx 25 a w K λG w=>stx 25 f G w K λ_ w=>Bw ah [.cell f 25] w K)
def nA(t0 w)(K:KT):=nz f57 1 [] [(11,[24],λs v j w f=>kZ (s 1) (s 2) (s 3) (s 22) (s 23) (vg v 0) w (f 0) K)] [] (zg [0] [t0]) w K
theorem vJ:nA t0 w k0->Calls ah 57 #[t0] w k0:=cz [(10,[])] [(5,[24])] func57
end
end Go.Proofs.YtlgndjkieegnaaaGreatDoor



namespace Go.Proofs.YtlgndjkieegnaaaGreatDoor
variable{A:Nat->Prop}{C:ao->Prop}{K:VWP}{M:Eng.Mem}{P:Program}{PK PK2:PKT}{T1 U:TypeId}{W w:ao}{a way:Int}{b i j m p:Nat}{cb:Array Bool}{k':IntKind}{key:List UInt8}{l:List Nat}{news xs:List aq}{o:Ob}{q:Bool}{v v2 vc vk vs:aq}{x:Sec}{xo yo:Operand}{α:Type}{t0 t1 t2:aq}{k0:Eng.KT}
section
open Go
namespace Vl
def lk (k:List UInt8):List (List UInt8)->List Ob->Option Ob
|a::ks,c::cs=>if a=k then ay c else lk k ks cs
|_,_=>ax
theorem ZX (k:List UInt8):∀(ks:List (List UInt8)) (cs:List Ob),(if ks.idxOf k < ks.length then cs[ks.idxOf k]? else ax)=lk k ks cs
|[],cs=>by simp[lk]
|a::ks,[]=>by simp[lk]
|a::ks,c::cs=>by
  rw[lk,<-ZX k ks cs,List.idxOf_cons];by_cases h:a=k
  ·subst h;simp
  ·have b:(a==k)=false:=by simpa using h
   simp[b,h]
theorem Wl {k:List UInt8}:∀{ks:List (List UInt8)} {cs:List Ob} (b:List (List UInt8)) (d:List Ob),ks.length=cs.length->lk k (ks++b) (cs++d)=(lk k ks cs).or (lk k b d)
|[],[],_,_,_=>by simp[lk]
|[],c::cs,_,_,h=>by simp at h
|a::ks,[],_,_,h=>by simp at h
|a::ks,c::cs,b,d,h=>by
  rw[axW,axW,lk,lk,Wl b d (by simpa using h)];split<;>rfl
theorem CI {k:List UInt8}{v:Ob}(e:o.keys.length=o.kids.length)(a:key≠k):get (put o key v) k=get o k:=by
 unfold get;rw[show keyed (put o key v)=keyed o from rfl,ZX,ZX]
 congr 1
 have hp:=xX o.keys key;rw[show (put o key v).keys=o.keys.take (place o.keys key)++key::o.keys.drop (place o.keys key+if hit o.keys key then 1 else 0) from rfl,
  show (put o key v).kids=o.kids.take (place o.keys key)++v::o.kids.drop (place o.keys key+if hit o.keys key then 1 else 0) from rfl,
  Wl _ _ (by rw[auM,auM];omega),lk,auB a]
 conv=>rhs;rw[<-avV (place o.keys key) o.keys,<-avV (place o.keys key) o.kids,Wl _ _ (by rw[auM,auM];omega)]
 congr 1
 by_cases b:hit o.keys key=aw
 ·rw[auC b];have c:o.keys[place o.keys key]?=ay key:=by simpa[hit] using b
  obtain⟨d,c⟩:=auV.1 c;rw[avX (i:=place o.keys key) d,avX (i:=place o.keys key) (l:=o.kids) om,lk,auB (by rw[c];exact a)]
 ·rw[auB b];rfl
end Vl
namespace Dk
end Dk
namespace Pg
section
variable {d:Dc}{j:It}{o o':Ob}
end
end Pg
end
end Go.Proofs.YtlgndjkieegnaaaGreatDoor





namespace Go.Proofs.YtlgndjkieegnaaaGreatDoor
variable{A:Nat->Prop}{C:ao->Prop}{K:VWP}{M:Eng.Mem}{P:Program}{PK PK2:PKT}{T1 U:TypeId}{W w:ao}{a way:Int}{b i j m p:Nat}{cb:Array Bool}{k':IntKind}{key:List UInt8}{l:List Nat}{news xs:List aq}{o:Ob}{q:Bool}{v v2 vc vk vs:aq}{x:Sec}{xo yo:Operand}{α:Type}{t0 t1 t2:aq}{k0:Eng.KT}
section
open Eng Go.RowKit
theorem vC {T2:TypeId}{k:IntKind}{b:Int}:DoX P (mB .max #[T1,T2] U cb #[.int k a,.int k' b]) w PK K=K (.int k (max a b)) w:=by
 refine aD ?_;have e:(if a < b then b else a)=max a b:=by split<;>omega
 simp[mB,builtin,Builtin.max_,Builtin.max2,e]
section
variable {w:ao}{PK:PKT}{K:VWP}{S:Nat->Prop}{w0:ao}{L:List Ent}
theorem bQ {off:Nat}:DoX ah (JL (af b off)) w PK K=K (af b off) w:=aD rfl
end
end
section
open Go
namespace Fl
def bit (s:List UInt8)(p:Nat):Nat:=(s.getD (p / 8) 0).toNat / 2 ^ (p % 8) % 2
theorem Xp (s:List UInt8)(p:Nat):bit s p < 2:=axU _ dc
def num (s:List UInt8)(p:Nat):Nat->Nat
|0=>0
|n+1=>num s p n+bit s (p+n)*2 ^ n
theorem Cl (s:List UInt8)(p:Nat):∀n,num s p n < 2 ^ n
|0=>by rw[num];decide
|n+1=>by
  have a:=Cl s p n;have b:=Xp s (p+n);rw[num,awT];rcases (by omega:bit s (p+n)=0∨bit s (p+n)=1) with h|h<;>rw[h]<;>omega
def iS (lens:List Nat):Nat->Nat
|0=>0
|l+1=>iS lens l+lens.count (l+1)*2 ^ (15 - (l+1))
def bN (lens:List Nat):Nat->Nat
|0=>0
|l+1=>bN lens l+lens.count (l+1)
def check (lens:List Nat):Int:=if iS lens 15=32768∨bN lens 15=0∨(bN lens 15=1∧lens.count 1=1) then 0 else 13
def first (lens:List Nat):Nat->Nat
|0=>0
|1=>0
|l+2=>2*(first lens (l+1)+lens.count (l+1))
theorem Tj {lens:List Nat}:∀l,iS lens l<=l*(lens.length*32768)
|0=>by simp[iS]
|l+1=>by
  have a:=Tj (lens:=lens) l;have b:lens.count (l+1)*2 ^ (15 - (l+1))<=lens.length*32768:=axG azQ (by
   have:2 ^ (15 - (l+1))<=2 ^ 15:=awL dc om;simpa using this)
  rw[iS,awS];omega
theorem Js {lens:List Nat}:∀l,bN lens l<=l*lens.length
|0=>by simp[bN]
|l+1=>by
  have a:=Js (lens:=lens) l;have b:lens.count (l+1)<=lens.length:=azQ;rw[bN,awS];omega
theorem Nt {lens:List Nat}:∀l,first lens l<=4 ^ l*lens.length
|0=>by simp[first]
|1=>by simp[first]
|l+2=>by
  have b:=Nt (lens:=lens) (l+1);have c:lens.count (l+1)<=lens.length:=azQ;have a:4 ^ (l+2)*lens.length=4*(4 ^ (l+1)*lens.length):=by rw[awT 4 (l+1),axH (4 ^ (l+1)) 4,azR]
  have d:1*lens.length<=4 ^ (l+1)*lens.length:=awC _ (Nat.one_le_pow _ _ dc);rw[first,a];omega
end Fl
end
section
open Eng
def Mq(t0 w)(K:KT):=nz f249 1 [] [] [] (zg [0] [t0]) w K
theorem Nf:Mq t0 w k0->Calls ah 249 #[t0] w k0:=cw func249
def pK(t0 t1 w)(K:KT):=nz f313 1 [] [] [] (zg [0,1] [t0,t1]) w K
theorem rM:pK t0 t1 w k0->Calls ah 313 #[t0,t1] w k0:=cw func313
def pS(t0 t1 w)(K:KT):=nz f322 1 [] [] [] (zg [0,1] [t0,t1]) w K
theorem rS:pS t0 t1 w k0->Calls ah 322 #[t0,t1] w k0:=cw func322
def uK(t5 w)(K:KT):=nz f328 15 [] [] [] (zg [5] [t5]) w K
def yZ(t0 t1 w)(K:KT):=nz f328 1 [] [(12,[],λs v j w f=>uK (s 5) w K)] [(1,18)] (zg [0,1] [t0,t1]) w K
theorem D9:yZ t0 t1 w k0->Calls ah 328 #[t0,t1] w k0:=cz [(6,[])] [] func328
def rJ(t8 w)(K:KT):=nz f319 63 [] [] [] (zg [8] [t8]) w K
def sO(t8 t35 w)(N1:JT)(K:KT):=nz f319 983 [N1] [nh 15 [8,35]] [] (zg [8,35] [t8,t35]) w K
def rE(t0 t1 t2 t8 t34 t35 w)(N1:JT)(K:KT):=nz f319 87 [N1] [nh 15 [8,35],(26,[8],λs v j w f=>sO (vg v 0) (s 35) w (f 0) K),(32,[],λs v j w f=>rJ (s 8) w K)] [] (zg [0,1,2,8,34,35] [t0,t1,t2,t8,t34,t35]) w K
def wN(t0 t1 t2 w)(K:KT):=nz f319 1 [] [(15,[8,35],λs v j w f=>rE (s 0) (s 1) (s 2) (vg v 0) (s 34) (vg v 1) w (f 0) K)] [] (zg [0,1,2] [t0,t1,t2]) w K
theorem CJ:wN t0 t1 t2 w k0->Calls ah 319 #[t0,t1,t2] w k0:=cz [(13,[8]),(16,[])] [(7,[8,35])] func319
def Aa(t0 t1 w)(K:KT):=nz f305 1 [] [] [] (zg [0,1] [t0,t1]) w K
theorem Er:Aa t0 t1 w k0->Calls ah 305 #[t0,t1] w k0:=cw func305
def qA(t0 w)(K:KT):=nz f306 7 [] [] [] (zg [0] [t0]) w K
def uY(t0 w)(K:KT):=nz f306 1 [] [(6,[],λs v j w f=>qA (s 0) w K)] [] (zg [0] [t0]) w K
theorem Bq:uY t0 w k0->Calls ah 306 #[t0] w k0:=cz [(3,[])] [] func306
def zC(t0 t1 w)(K:KT):=nz f309 1 [] [] [(3,13),(6,17)] (zg [0,1] [t0,t1]) w K
theorem Ea:zC t0 t1 w k0->Calls ah 309 #[t0,t1] w k0:=cw func309
def B3(t0 w)(K:KT):=nz f251 1 [] [] [] (zg [0] [t0]) w K
theorem E8:B3 t0 w k0->Calls ah 251 #[t0] w k0:=cw func251
def wI(t0 w)(K:KT):=nz f327 1 [] [] [(3,18)] (zg [0] [t0]) w K
theorem CW:wI t0 w k0->Calls ah 327 #[t0] w k0:=cw func327
end
section
open Eng Go.RowKit
theorem abP:∀n:Fin 256,MW .i64 (n.val:Int) 1=((n.val % 2:Nat):Int):=by decide +kernel
theorem and1 {n:Nat}(h:n < 256):MW .i64 (n:Int) 1=((n % 2:Nat):Int):=abP ⟨n,h⟩
theorem aiI {v:Nat}(a:v < 2 ^ i)(f:b < 2)(hi:i<=30):bOr .i64 (v:Int) ((b*2 ^ i:Nat):Int)=((v+b*2 ^ i:Nat):Int):=by
 have hp:2 ^ i<=2 ^ 30:=awL dc hi;have c:(2:Nat) ^ 30=1073741824:=dc
 have d:b*2 ^ i<=2 ^ 30:=by
  have:b*2 ^ i<=1*2 ^ i:=awC _ om;omega
 have e:v ||| b*2 ^ i=v+b*2 ^ i:=by
  have:=aAY a b;rw[Nat.or_comm,axH b,<-this,aAf]
 unfold bOr;show IntKind.wrap .i64 (((BitVec.ofInt 64 (v:Int) ||| BitVec.ofInt 64 ((b*2 ^ i:Nat):Int)).toNat:Nat):Int)=_;rw[BitVec.ofInt_natCast,BitVec.ofInt_natCast,BitVec.toNat_or,BitVec.toNat_ofNat,BitVec.toNat_ofNat,awB om,awB om,e];exact aA om om
theorem VA (a n:Nat):((a:Nat):Int).fdiv (2 ^ n)=((a / 2 ^ n:Nat):Int):=by
 rw[azN _ (by exact Int.pow_nonneg dc)]
 push_cast
 rfl
def bqC (s:List UInt8)(way:Int)(p:Nat):List Value:=[ad way,ad ((p % 8:Nat):Int),ae s,ad ((p / 8:Nat):Int)]
def bqE (b:Nat)(s:List UInt8)(way:Int)(p:Nat):Ent:=.cells b (bqC s way p) 304
theorem WD:nN ah 304 0=ay 0:=krx
theorem SI:nN ah 304 1=ay 2:=krx
theorem Mb:nN ah 304 2=ay 3:=krx
theorem amG:nN ah 302 0=ay 0:=krx
theorem aeU:nN ah 302 1=ay 1:=krx
theorem szSd:(Tryz.prog.info? 302).map (·.size)=ay 2:=krx
theorem aiF:eS ah 9=true:=krx
section
variable {w:ao}{PK:PKT}{K:VWP}{S:Nat->Prop}{w0:ao}{L:List Ent}
theorem Du {off:Nat}:DoX ah (mFA 304 (af b off) 0) w PK K=K (af b off) w:=aW WD
theorem HM {off:Nat}:DoX ah (mFA 304 (af b off) 2) w PK K=K (af b (off+3)) w:=aW Mb
theorem Ml {off:Nat}:DoX ah (mFA 302 (af b off) 0) w PK K=K (af b off) w:=aW amG
theorem wO {off:Nat}:DoX ah (mFA 302 (af b off) 1) w PK K=K (af b (off+1)) w:=aW aeU
theorem Qx (a:bT S w0 w L)(j:Nat){s:List UInt8}(hi:L[j]?=ay (bqE b s way p)):DoX ah (aH 3 (af b (0+1))) w PK K=K (ad ((p % 8:Nat):Int)) w:=aJ aU (a.cell j hi 1 rfl)
theorem apA (a:bT S w0 w L)(j:Nat){s:List UInt8}(hi:L[j]?=ay (bqE b s way p)):DoX ah (aH 3 (af b (0+3))) w PK K=K (ad ((p / 8:Nat):Int)) w:=aJ aU (a.cell j hi 3 rfl)
end
section
variable {W:ao}{b:Nat}{s:List UInt8}{way:Int}{p:Nat}
theorem Ho (h:(bqE b s way p).is W):(aH 3 (af b (0+1))).run ah W=.ok (.value (ad ((p % 8:Nat):Int))) W:=aB aU (aI (T:=304) (cs:=bqC s way p) h rfl)
theorem Nj (h:(bqE b s way p).is W):(aH 9 (af b (0+2))).run ah W=.ok (.value (ae s)) W:=aB aiF (aI (T:=304) (cs:=bqC s way p) h rfl)
theorem yI (h:(bqE b s way p).is W):(aH 3 (af b (0+3))).run ah W=.ok (.value (ad ((p / 8:Nat):Int))) W:=aB aU (aI (T:=304) (cs:=bqC s way p) h rfl)
theorem VB (h:(bqE b s way p).is W):Ret ah 322 #[af b 0,ad 1] W (λv w'=>v=ad ((p % 8:Nat):Int)∧Below W.heap.size W w'):=by
 refine aX λK a=>rS ?_;unfold pS nz;simp only[rs,auE,bQ];rw[wO];refine aD (Ho h) |>.mpr ?_;exact a _ _ ⟨rfl,(Own.start W).done⟩
theorem UW (h:(bqE b s way p).is W)(hw:way=0∨way=1):Ret ah 313 #[af b 0,ad 1] W (λv w'=>v=.bool au∧Below W.heap.size W w'):=by
 refine aX λK a=>rM ?_;unfold pK nz;have r:=aB (P:=ah) (T:=3) aU (aI (T:=304) (cs:=bqC s way p) h (i:=0) rfl);rw[bQ,Ml];refine aD r |>.mpr ?_;rcases hw with rfl|rfl
 ·simp only[rs,ne_eq,not_true,auF,oG];exact a _ _ ⟨rfl,(Own.start W).done⟩
 ·simp only[rs,show ai ((1:Int)≠0)=aw by decide,bQ];rw[Ml];refine aD r |>.mpr ?_;simp only[rs,ne_eq,not_true,auF];exact a _ _ ⟨rfl,(Own.start W).done⟩
end
def rqE (b:Nat)(s:List UInt8)(way u a:Int):Ent:=.cells b [ad way,ad u,ae s,ad a] 304
section
variable {w:ao}{PK:PKT}{K:VWP}{S:Nat->Prop}{w0:ao}{L:List Ent}
theorem ajO (c:bT S w0 w L)(j:Nat){s:List UInt8}{u:Int}(hi:L[j]?=ay (rqE b s way u a)):DoX ah (aH 3 (af b (0+1))) w PK K=K (ad u) w:=aJ aU (c.cell j hi 1 rfl)
theorem atY (c:bT S w0 w L)(j:Nat){s:List UInt8}{u:Int}(hi:L[j]?=ay (rqE b s way u a)):DoX ah (aH 3 (af b (0+3))) w PK K=K (ad a) w:=aJ aU (c.cell j hi 3 rfl)
theorem Wf (j:Nat){s:List UInt8}{u c:Int}(d:bT S w0 w L)(hi:L[j]?=ay (rqE b s way u a))(k:∀w',bT S w0 w' (L.set j (rqE b s way c a))->K undef w'):DoX ah (aN 3 (af b (0+1)) (ad c)) w PK K:=aO j d hi krx rfl (by show 0+1 < 4;omega) k
theorem Rt (j:Nat){s:List UInt8}{u a':Int}(c:bT S w0 w L)(hi:L[j]?=ay (rqE b s way u a))(k:∀w',bT S w0 w' (L.set j (rqE b s way u a'))->K undef w'):DoX ah (aN 3 (af b (0+3)) (ad a')) w PK K:=aO j c hi krx rfl (by show 0+3 < 4;omega) k
theorem afN (j:Nat){s:List UInt8}{u way':Int}(c:bT S w0 w L)(hi:L[j]?=ay (rqE b s way u a))(k:∀w',bT S w0 w' (L.set j (rqE b s way' u a))->K undef w'):DoX ah (aN 3 (af b 0) (ad way')) w PK K:=aO j c hi krx rfl (by show 0 < 4;omega) k
theorem arB {s:List UInt8}(j:Nat)(a:bT S w0 w L)(c:L[j]?=ay (bqE b s way p))(hp:p < 8*s.length)(t:s.length<=1000000000)
  (k:∀W,bT S w0 W (L.set j (bqE b s way (p+1)))->K (ad (Fl.bit s p)) W):cR ah 328 #[af b 0,ad 1] w PK K:=by
 have d:j < L.length:=(auV.1 c).1;refine gK (D9 (k0:=wT λv W=>v=ad (Fl.bit s p)∧bT S w0 W (L.set j (bqE b s way (p+1)))) ?_) (λe W ⟨v,he,m,a⟩=>by subst he;subst m;exact k W a);unfold yZ nz;have hi:p / 8 < s.length:=om
 refine cY (λW=>bT S w0 W L) a.drew ?_;refine dY _ (λ_=>dW) (dY _ (λ_=>bE SI) (gA _ (λW h=>Nj (h.at_ j c)) ?_));refine dY _ (λ_=>dW) (dY _ (λ_=>bE Mb) (gA _ (λW h=>yI (h.at_ j c)) ?_));refine q_ix auQ om (by rw[auJ,auO hi]) ?_;refine dY _ (λ_=>eI krx avY) ?_;have u:=(s[p / 8]).toNat_lt;rw[aA om om];refine dY _ (λ_=>dW) (dY _ (λ_=>bE WD) ?_);refine fY (ad ((p % 8:Nat):Int)) (λW h=>(VB (h.at_ j c)).mono λv w' r=>⟨r.1,h.grow r.2⟩) ?_;refine dY _ (λ_=>ajJ om) ?_;rw[show min ((p % 8:Nat):Int).toNat IntKind.i64.bits=p % 8 by show min ((p % 8:Nat):Int).toNat 64=p % 8;omega,VA];refine dY _ (λ_=>afJ) ?_;have n:s[p / 8].toNat / 2 ^ (p % 8)<=s[p / 8].toNat:=azS _ _;rw[and1 om];have f:s[p / 8].toNat / 2 ^ (p % 8) % 2=Fl.bit s p:=by
  unfold Fl.bit;rw[auK,auO hi];rfl
 rw[f];intro w2 a;refine join λJ o=>?_;have fin:∀W,bT S w0 W (L.set j (bqE b s way (p+1)))->J [] W:=by
  intro W a;refine o _ _ λ_=>?_;unfold uK nz;exact vG ⟨rfl,a⟩
 rw[bQ,Du,wO,Qx a j c];simp only[rs,bQ];rw[Du,wO,aA om om];refine Wf j a c λw3 a=>?_;have g:(L.set j (rqE b s way (((p % 8:Nat):Int)+1) ((p / 8:Nat):Int)))[j]?=ay (rqE b s way (((p % 8:Nat):Int)+1) ((p / 8:Nat):Int)):=by rw[axR d]
 rw[Du,wO,ajO a j g];simp only[rs,bQ];by_cases l:((p % 8:Nat):Int)+1=8
 ·simp only[l,auE,i_t,rs,bQ];rw[Du,wO];refine Wf j a g λx a=>?_;rw[azT] at a;have i:(L.set j (rqE b s way 0 ((p / 8:Nat):Int)))[j]?=ay (rqE b s way 0 ((p / 8:Nat):Int)):=by rw[axR d]
  rw[HM,atY a j i];simp only[rs,bQ];rw[HM,aA om om];refine Rt j a i λq a=>?_;rw[azT] at a;refine fin q ?_;have e:rqE b s way 0 (((p / 8:Nat):Int)+1)=bqE b s way (p+1):=by
   unfold rqE bqE bqC;rw[show (p+1) % 8=0 by omega,show (p+1) / 8=p / 8+1 by omega];rfl
  rw[<-e];exact a
 ·simp only[l,auF,i_f];refine fin w3 ?_;have e:rqE b s way (((p % 8:Nat):Int)+1) ((p / 8:Nat):Int)=bqE b s way (p+1):=by
   unfold rqE bqE bqC;rw[show (p+1) % 8=p % 8+1 by omega,show (p+1) / 8=p / 8 by omega];rfl
  rw[<-e];exact a
theorem GF :DoX ah (mEq .eql 260 xo yo (af b 0) (.pointer ax)) w PK K=K (.bool au) w:=aD krx
theorem Xg {s:List UInt8}(h:(bqE b s way p).is W)(hp:p<=8*s.length)(d:s.length<=1000000000):Ret ah 327 #[af b 0] W (λv w'=>v=ad ((8*s.length - p:Nat):Int)∧Below W.heap.size W w'):=by
 refine aX λK a=>CW ?_;unfold wI nz;rw[GF,i_f];have c:bT (bqE b s way p).blk W W [bqE b s way p]:=bT.lend h;refine cY (λw'=>(bqE b s way p).is w'∧Below W.heap.size W w') ⟨?_,?_⟩ ?_
 ·exact c.drew.at_ 0 rfl
 ·exact (Own.start W).drew.done
 refine dY _ (λ_=>dW) (dY _ (λ_=>bE SI) (gA _ (λW h=>Nj h.1) (Xo auQ ?_)));refine dY _ (λ_=>dW) (dY _ (λ_=>bE Mb) (gA _ (λW h=>yI h.1) (dY _ (λ_=>sZ) ?_)));rw[aA om om];refine dY _ (λ_=>aoD) ?_;rw[aA om om];refine dY _ (λ_=>dW) (dY _ (λ_=>bE WD) (dY _ (λ_=>bE aeU) (gA _ (λW h=>Ho h.1) (dY _ (λ_=>sZ) ?_))));rw[aA om om];intro w' hw;refine a _ _ ⟨?_,hw.2⟩
 congr 1
 omega
theorem yH {L:List α}{e:α}(h:L[j]?=ay e):L.set j e=L:=by
 refine List.ext_getElem? λi=>?_;by_cases hi:i=j
 ·subst hi;rw[axR (auV.1 h).1,h]
 ·rw[azU (Ne.symm hi)]
theorem apG {s:List UInt8}{n:Nat}(j:Nat)(a:bT S w0 w L)(g:L[j]?=ay (bqE b s way p))(hw:way=0∨way=1)(hp:p<=8*s.length)(D:n<=24)(q:s.length<=1000000000)
  (u:p+n<=8*s.length->∀W,bT S w0 W (L.set j (bqE b s (if 0 < n then 1 else way) (p+n)))->K (.tuple #[ad (Fl.num s p n),ad 0]) W)
  (x:8*s.length < p+n->∀W,bT S w0 W L->K (.tuple #[ad 0,ad 4]) W):cR ah 319 #[af b 0,ad (n:Int),ad 1] w PK K:=by
 have h:j < L.length:=(auV.1 g).1;refine gK (CJ (k0:=wT λv W=>(p+n<=8*s.length∧v=.tuple #[ad (Fl.num s p n),ad 0]∧bT S w0 W (L.set j (bqE b s (if 0 < n then 1 else way) (p+n))))∨(8*s.length < p+n∧v=.tuple #[ad 0,ad 4]∧bT S w0 W L)) ?_) (λe W ⟨v,he,k⟩=>by
  subst he;rcases k with ⟨l,rfl,a⟩|⟨l,rfl,a⟩
  ·exact u l W a
  ·exact x l W a)
 unfold wN nz;rw[GF];simp only[rs,show ai ((n:Int) < 0)=au from auD om,show ai ((24:Int) < (n:Int))=au from auD om,bQ];rw[Du];refine aK a (R:=λv=>v=.bool au) (UW (a.at_ j g) hw) ?_;rintro _ w2 rfl a;simp only[rs];refine aK a (R:=λv=>v=ad ((8*s.length - p:Nat):Int)) (Xg (a.at_ j g) hp q) ?_;rintro _ w3 rfl a;simp only[rs];by_cases c:((8*s.length - p:Nat):Int) < (n:Int)
 ·simp only[c,auE,i_t];exact vG (.inr ⟨om,rfl,a⟩)
 simp only[c,auF,i_f];refine loop (λvs W=>∃i:Nat,vs=[ad (Fl.num s p i),ad i]∧i<=n∧bT S w0 W (L.set j (bqE b s way (p+i)))) (λvs _=>n - n1 vs) ⟨0,rfl,om,by rw[awF,yH g];exact a⟩ ?_;clear a;rintro vs y ⟨i,rfl,hi,a⟩ _;simp only[rE,gd,rs,nz];have d:(L.set j (bqE b s way (p+i)))[j]?=ay (bqE b s way (p+i)):=by rw[axR h]
 by_cases f:(i:Int) < (n:Int)
 ·simp only[f,auE,i_t];refine join λJ m=>?_;refine arB j a d om q λr a=>?_;rw[azT] at a
  try simp only[rs,auE]
  rw[II om];have z:=Fl.Xp s (p+i);have k:=Fl.Cl s p i;have A:2 ^ i<=2 ^ 24:=awL dc om;have B:(2:Nat) ^ 24=16777216:=dc
  have C:Fl.bit s (p+i)*2 ^ i<=2 ^ 24:=by
   have:Fl.bit s (p+i)*2 ^ i<=1*2 ^ i:=awC _ om;omega
  rw[show min ((i:Nat):Int).toNat IntKind.i64.bits=i by show min ((i:Nat):Int).toNat 64=i;omega];rw[show ((Fl.bit s (p+i):Nat):Int)*2 ^ i=((Fl.bit s (p+i)*2 ^ i:Nat):Int) by push_cast;rfl];rw[aA om om,b_or,aiI k z om];refine m _ _ λ_=>?_;simp only[sO,gd,rs,nz];rw[aA om om];exact bC ⟨i+1,by rw[Fl.num];rfl,om,a⟩ (by simp[n1,RowKit.intOf];omega)
 ·simp only[f,auF,i_f];have o:i=n:=om
  subst o;refine join λJ m=>?_;have fin:∀W,bT S w0 W (L.set j (bqE b s (if 0 < i then 1 else way) (p+i)))->J [] W:=by
   intro W a;refine m _ _ λ_=>?_;simp only[rJ,nz];exact vG (.inl ⟨om,rfl,a⟩)
  by_cases t:0 < i
  ·rw[auC t] at fin;simp only[show ai ((0:Int) < (i:Int))=aw from auG om,rs,bQ];rw[Du,Ml];refine afN (way':=1) j a d λr a=>?_;rw[azT] at a;exact fin r a
  ·rw[auB t] at fin;simp only[show ai ((0:Int) < (i:Int))=au from auD om,rs];exact fin y a
theorem anQ {s:List UInt8}{n:Nat}(j:Nat)(a:bT S w0 w L)(d:L[j]?=ay (bqE b s way p))(hw:way=0∨way=1)(hp:p<=8*s.length)(f:n<=24)(g:s.length<=1000000000)
  (h:p+n<=8*s.length->∀W,bT S w0 W (L.set j (bqE b s (if 0 < n then 1 else way) (p+n)))->K (.tuple #[ad (Fl.num s p n),ad 0]) W)
  (i:8*s.length < p+n->∀W,bT S w0 W L->K (.tuple #[ad 0,ad 4]) W):cR ah 305 #[af b 0,ad (n:Int)] w PK K:=by
 refine gK (Er (k0:=wT λv W=>(p+n<=8*s.length∧v=.tuple #[ad (Fl.num s p n),ad 0]∧bT S w0 W (L.set j (bqE b s (if 0 < n then 1 else way) (p+n))))∨(8*s.length < p+n∧v=.tuple #[ad 0,ad 4]∧bT S w0 W L)) ?_) (λe W ⟨v,he,k⟩=>by
  subst he;rcases k with ⟨c,rfl,a⟩|⟨c,rfl,a⟩
  ·exact h c W a
  ·exact i c W a)
 unfold Aa nz;refine apG j a d hw hp f g (λc W a=>?_) (λc W a=>?_)
 ·simp only[ex];exact vG (.inl ⟨c,rfl,a⟩)
 ·simp only[ex];exact vG (.inr ⟨c,rfl,a⟩)
end
end
section
open Eng
def vH(t0 t1 w)(K:KT):=nz f248 1 [] [] [] (zg [0,1] [t0,t1]) w K
theorem vX:vH t0 t1 w k0->Calls ah 248 #[t0,t1] w k0:=cw func248
def tY(t0 t1 w)(K:KT):=nz f304 1 [] [] [] (zg [0,1] [t0,t1]) w K
theorem Bx:tY t0 t1 w k0->Calls ah 304 #[t0,t1] w k0:=cw func304
def pF(t0 t1 w)(K:KT):=nz f308 1 [] [] [] (zg [0,1] [t0,t1]) w K
theorem xL:pF t0 t1 w k0->Calls ah 308 #[t0,t1] w k0:=cw func308
def fQ(t0 t1 w)(K:KT):=nz f311 1 [] [] [] (zg [0,1] [t0,t1]) w K
theorem jW:fQ t0 t1 w k0->Calls ah 311 #[t0,t1] w k0:=cw func311
def pY(t0 t1 w)(K:KT):=nz f280 1 [] [] [] (zg [0,1] [t0,t1]) w K
theorem yA:pY t0 t1 w k0->Calls ah 280 #[t0,t1] w k0:=cw func280
def qG(t0 t1 w)(K:KT):=nz f307 1 [] [] [(0,12)] (zg [0,1] [t0,t1]) w K
theorem yN:qG t0 t1 w k0->Calls ah 307 #[t0,t1] w k0:=cw func307
def nE(a w)(K:KT):=
 nlx a w K λd w=>fax 263 d 0 w K λe w=>ldx 260 e w K λf w=>cx 306 #[f] w K λv w=>cx 280 #[a,(iN 16)] w K λb w=>cx 280 #[a,(iN 16)] w K λg w=>bnx .sub 3 (iN 65535) b w K λh w=>eqx .eql 3 (.tmp 11) (.tmp 13) g h w K λi w=>cx 248 #[i,(iN 3)] w K λx w=>cx 307 #[a,b] w K λy w=>Ay w (λS1 w=>HDo ah (λ_=>True) (JL a) λj=>HDo ah (λ_=>True) (mFA 263 j 1) λk=>HDo ah S1 (aH 80 k) λl=>HDo ah (λ_=>True) (JL a) λm=>HDo ah (λ_=>True) (mFA 263 m 0) λn=>HDo ah S1 (aH 260 n) λo=>cR ah 309 #[o,b] w (az 14 (pk K)) λc w=>S1 w∧(HDo ah (λ_=>True) (Ag c 0) λp=>HDo ah (λ_=>True) (Ag c 1) λq=>cR ah 308 #[p,q] w (az 14 (pk K)) λr w=>S1 w∧(DoX ah (mB .append #[80,9] 80 #[au,au] #[l,r]) w (az 14 (pk K)) λs w=>S1 w∧(HDo ah (λ_=>True) (JL a) λt=>HDo ah (λ_=>True) (mFA 263 t 1) λu=>DoX ah (aN 80 u s) w (az 14 (pk K)) λ_ w=>(K (.returned (.tuple #[])) w)))))
theorem vP:nE t0 w k0->Calls ah 281 #[t0] w k0:=cw func281
def oL(t0 w)(K:KT):=nz f282 1 [] [] [] (zg [0] [t0]) w K
theorem wM:oL t0 w k0->Calls ah 282 #[t0] w k0:=cw func282
def jY(a b i e j k c w)(N1:JT)(K:KT):=
 bnx .lss 3 c k w K λl w=>IfX l (iax 70 j c w K λm w=>ldx 3 m w K λn w=>cx 280 #[a,(iN 3)] w K λo w=>iax 295 e n w K λp w=>stx 3 p o w K λ_ w=>bnx .add 3 c (iN 1) w K λq w=>N1 [q] w) (slx 295 e ax ax ax w K λr w=>cx 270 #[r] w K λf w=>exx f 0 w K λs w=>exx f 1 w K λt w=>cx 311 #[s,t] w K λu w=>bnx .add 3 b i w K λv w=>cx 312 #[a,u,v] w K λd w=>iax 70 d (iN 256) w K λx w=>ldx 3 x w K λy w=>bnx .gtr 3 y (iN 0) w K λz w=>cx 248 #[z,(iN 13)] w K λL w=>Ay w (λS2 w=>HDo ah S2 (fJ 70 d ax (ay b) ax) λA=>HDo ah S2 (fJ 70 d (ay b) ax ax) λB=>cR ah 270 #[A] w (az 11 (pk K)) λg w=>S2 w∧(HDo ah S2 (Ag g 0) λC=>HDo ah S2 (Ag g 1) λD=>cR ah 311 #[C,D] w (az 11 (pk K)) λF w=>S2 w∧(cR ah 270 #[B] w (az 11 (pk K)) λh w=>S2 w∧(HDo ah S2 (Ag h 0) λG=>HDo ah S2 (Ag h 1) λH=>cR ah 311 #[G,H] w (az 11 (pk K)) λI w=>S2 w∧(cR ah 310 #[a,F,I] w (az 11 (pk K)) λM w=>S2 w∧(K (.returned (.tuple #[])) w)))))))
def lX(t0 w)(K:KT):=nz f283 1 [] [(13,[25],λs v j w f=>jY (s 0) (s 2) (s 3) (s 4) (s 23) (s 24) (vg v 0) w (f 0) K)] [] (zg [0] [t0]) w K
theorem tC:lX t0 w k0->Calls ah 283 #[t0] w k0:=cz [] [(6,[25])] func283
def jX(d e a b f w)(N1:JT)(K:KT):=
 Ay w (λS3 w=>HDo ah S3 (mFA 348 b 0) λg=>HDo ah S3 (aH 3 g) λh=>HDo ah S3 (mFA 348 b 1) λi=>HDo ah S3 (aH 3 i) λj=>cR ah 280 #[d,j] w (az 7 (pk K)) λk w=>S3 w∧(HDo ah S3 (iQ .add 3 h k) λc=>lnx 70 a w K λl w=>bnx .add 3 l c w K λm w=>bnx .leq 3 m e w K λn w=>cx 248 #[n,(iN 3)] w K λr w=>dx (aM 70 1 #[(0,f)]) w K λo w=>cx 293 #[o,c] w K λp w=>apx 70 a p w K λq w=>N1 [q] w))
def jZ(t0 t1 t2 t7 w)(N1:JT)(K:KT):=nz f312 19 [N1] [nh 5 [7],(22,[11],λs v j w f=>jX (s 0) (s 2) (s 7) (s 9) (vg v 0) w (f 0) K)] [] (zg [0,1,2,7] [t0,t1,t2,t7]) w K
def lL(t0 t1 t2 w)(K:KT):=nz f312 1 [] [(5,[7],λs v j w f=>jZ (s 0) (s 1) (s 2) (vg v 0) w (f 0) K)] [] (zg [0,1,2] [t0,t1,t2]) w K
theorem tJ:lL t0 t1 t2 w k0->Calls ah 312 #[t0,t1,t2] w k0:=cz [(11,[11])] [(2,[7])] func312
def mF(t0 t1 t2 w)(N1:JT)(K:KT):=nz f310 2 [N1] [nh 1 []] [] (zg [0,1,2] [t0,t1,t2]) w K
def oK(t0 t1 t2 w)(K:KT):=nz f310 1 [] [(1,[],λs v j w f=>mF (s 0) (s 1) (s 2) w (f 0) K)] [] (zg [0,1,2] [t0,t1,t2]) w K
theorem xE:oK t0 t1 t2 w k0->Calls ah 310 #[t0,t1,t2] w k0:=cz [] [(0,[])] func310
def kS(a c d b w)(N1:JT)(K:KT):=
 bnx .lss 3 b d w K λe w=>IfX e (Ay w (λS2 w=>HDo ah (λ_=>True) (JL a) λf=>HDo ah (λ_=>True) (mFA 263 f 1) λg=>HDo ah S2 (aH 80 g) λh=>HDo ah (λ_=>True) (JL a) λi=>HDo ah (λ_=>True) (mFA 263 i 1) λj=>HDo ah S2 (aH 80 j) λk=>HDo ah (λ_=>True) (JL a) λl=>HDo ah (λ_=>True) (mFA 263 l 1) λm=>HDo ah S2 (aH 80 m) λn=>HDo ah (λ_=>True) (mB .len #[80] 3 #[au] #[n]) λo=>HDo ah (λ_=>True) (iQ .sub 3 o c) λp=>HDo ah (λ_=>True) (mIA 80 k p) λq=>HDo ah S2 (aH 5 q) λr=>DoX ah (aM 80 1 #[(0,r)]) w (az 20 (pk K)) λs w=>S2 w∧(DoX ah (mB .append #[80,80] 80 #[au,au] #[h,s]) w (az 20 (pk K)) λt w=>S2 w∧(HDo ah (λ_=>True) (JL a) λu=>HDo ah (λ_=>True) (mFA 263 u 1) λv=>DoX ah (aN 80 v t) w (az 20 (pk K)) λ_ w=>(bnx .add 3 b (iN 1) w K λx w=>N1 [x] w))))) (K (.returned (.tuple #[])) w)
def nC(t0 t1 t2 w)(K:KT):=nz f321 1 [] [(17,[57],λs v j w f=>kS (s 0) (s 8) (s 56) (vg v 0) w (f 0) K)] [] (zg [0,1,2] [t0,t1,t2]) w K
theorem vF:nC t0 t1 t2 w k0->Calls ah 321 #[t0,t1,t2] w k0:=cz [] [(8,[57])] func321
def lM(t3 w)(K:KT):=nz f250 15 [] [] [] (zg [3] [t3]) w K
def nV(t0 w)(K:KT):=nz f250 1 [] [(20,[],λs v j w f=>lM (s 3) w K)] [] (zg [0] [t0]) w K
theorem vW:nV t0 w k0->Calls ah 250 #[t0] w k0:=cz [(10,[])] [] func250
def Dx(t0 t1 w)(K:KT):=nz f329 1 [] [] [] (zg [0,1] [t0,t1]) w K
theorem GZ:Dx t0 t1 w k0->Calls ah 329 #[t0,t1] w k0:=cw func329
def DS(t0 w)(K:KT):=nz f330 1 [] [] [] (zg [0] [t0]) w K
theorem GJ:DS t0 w k0->Calls ah 330 #[t0] w k0:=cw func330
def FD(t0 t1 w)(K:KT):=nz f331 1 [] [] [] (zg [0,1] [t0,t1]) w K
theorem IU:FD t0 t1 w k0->Calls ah 331 #[t0,t1] w k0:=cw func331
def FO(t0 w)(K:KT):=nz f332 1 [] [] [] (zg [0] [t0]) w K
theorem IE:FO t0 w k0->Calls ah 332 #[t0] w k0:=cw func332
def uI(t0 t1 t2 t6 t8 t9 w)(N1:JT)(K:KT):=nz f337 21 [N1] [nh 5 [1,9]] [] (zg [0,1,2,6,8,9] [t0,t1,t2,t6,t8,t9]) w K
def Ak(t0 t1 t2 w)(K:KT):=nz f337 1 [] [(5,[1,9],λs v j w f=>uI (s 0) (vg v 0) (s 2) (s 6) (s 8) (vg v 1) w (f 0) K)] [] (zg [0,1,2] [t0,t1,t2]) w K
theorem D2:Ak t0 t1 t2 w k0->Calls ah 337 #[t0,t1,t2] w k0:=cz [] [(2,[1,9])] func337
def sL(t0 t1 w)(K:KT):=nz f336 1 [] [] [] (zg [0,1] [t0,t1]) w K
theorem AK:sL t0 t1 w k0->Calls ah 336 #[t0,t1] w k0:=cw func336
def wK(t0 t8 t9 w)(N1:JT)(K:KT):=nz f269 21 [N1] [nh 5 [0,9]] [] (zg [0,8,9] [t0,t8,t9]) w K
def BF(w)(K:KT):=nz f269 1 [] [(5,[0,9],λs v j w f=>wK (vg v 0) (s 8) (vg v 1) w (f 0) K)] [] (zg [] []) w K
theorem E1:BF w k0->Calls ah 269 #[] w k0:=cz [] [(2,[0,9])] func269
end
section
open Eng Go.RowKit
theorem nfI:nQ ah 258=true:=krx
def upI (e:Int):PanicEntry:={ v:=.iface 258 (.agg #[ad e]),recovered:=au }
theorem agS (e:Int)(w:ao):Ret ah 248 #[.bool aw,ad e] w (λv w'=>v=.tuple #[]∧w=w'):=by
 refine aX λK a=>vX ?_;unfold vH nz;simp only[rs,awA,i_f];exact a _ _ ⟨rfl,rfl⟩
theorem aiR (e:Int)(w:ao):Pan ah 248 #[.bool au,ad e] w (λc w'=>c=[upI e]∧w=w'):=by
 refine XC λK a=>vX ?_;unfold vH nz;simp only[rs,avZ,i_t];have b:∀{PK:PKT} {K:VWP},DoX ah (aV 258 #[(0,ad e)]) w PK K=K (.agg #[ad e]) w:=aD krx;rw[b,Nh nfI,K8];exact a _ _ ⟨rfl,rfl⟩
section
variable {w:ao}{PK:PKT}{K:VWP}{S:Nat->Prop}{w0:ao}{L:List Ent}
theorem kQ {e:Int}(a:q=aw->K (.tuple #[]) w)(b:q=au->PK [upI e] w):cR ah 248 #[.bool q,ad e] w PK K:=by
 cases q with
|true=>exact BJ (agS e w) (a rfl)
|false=>exact ahD (aiR e w) λc w' ⟨d,hw⟩=>by subst d;subst hw;exact b rfl
theorem xQ {n e:Int}(a:e=0->K (ad n) w)(b:e≠0->PK [upI e] w):cR ah 304 #[ad n,ad e] w PK K:=by
 refine⟨Bx ?_⟩;unfold tY nz;simp only[rs];exact kQ (λh=>a (auW h)) λh=>b (avT h)
theorem Sx {s:List UInt8}{e:Int}(a:e=0->K (ae s) w)(b:e≠0->PK [upI e] w):cR ah 308 #[ae s,ad e] w PK K:=by
 refine⟨xL ?_⟩;unfold pF nz;simp only[rs];exact kQ (λh=>a (auW h)) λh=>b (avT h)
theorem agN {s:List UInt8}(j:Nat)(c:bT S w0 w L)(d:L[j]?=ay (bqE b s way p))(hp:p<=8*s.length)(o:s.length<=1000000000)
  (k:∀W,bT S w0 W (L.set j (bqE b s 0 ((p+7) / 8*8)))->K (.tuple #[]) W):cR ah 306 #[af b 0] w PK K:=by
 have f:j < L.length:=(auV.1 d).1;refine gK (Bq (k0:=wT λv W=>v=.tuple #[]∧bT S w0 W (L.set j (bqE b s 0 ((p+7) / 8*8)))) ?_) (λe W ⟨v,he,i,c⟩=>by subst he;subst i;exact k W c);unfold uY nz;rw[GF,i_f];refine join λJ l=>?_;have fin:∀(W:ao) (u a:Int),a=(((p+7) / 8:Nat):Int)->bT S w0 W (L.set j (rqE b s way u a))->J [] W:=by
  intro W u a m c;refine l _ _ λ_=>?_;unfold qA nz;have g:(L.set j (rqE b s way u a))[j]?=ay (rqE b s way u a):=by rw[axR f]
  have n:∀{PK:PKT} {K:VWP},DoX ah (aV 302 #[]) W PK K=K (.agg #[ad 0,ad 0]) W:=aD krx;rw[n,bQ,Du];refine B9 j c g (new:=[ad 0,ad 0]) szSd dc (by show 0+2<=4;omega) λw2 c=>?_;rw[azT] at c;refine vG ⟨rfl,?_⟩;subst m;have e:bqE b s 0 ((p+7) / 8*8)=rqE b s 0 0 (((p+7) / 8:Nat):Int):=by
   unfold rqE bqE bqC;rw[show (p+7) / 8*8 % 8=0 by omega,show (p+7) / 8*8 / 8=(p+7) / 8 by omega];rfl
  rw[e];exact c
 rw[bQ,Du,wO,Qx c j d];simp only[rs,bQ];by_cases h:(0:Int) < ((p % 8:Nat):Int)
 ·simp only[h,auE,i_t,rs,bQ];rw[HM,apA c j d];simp only[rs,bQ];rw[HM,aA om om];refine Rt (a':=((p / 8:Nat):Int)+1) j c d λw3 c=>?_;exact fin w3 _ _ om c
 ·simp only[h,auF,i_f];refine fin w ((p % 8:Nat):Int) ((p / 8:Nat):Int) om ?_;rw[show rqE b s way ((p % 8:Nat):Int) ((p / 8:Nat):Int)=bqE b s way p from rfl,yH d];exact c
theorem atS {s:List UInt8}{n:Nat}(j:Nat)(a:bT S w0 w L)(f:L[j]?=ay (bqE b s way p))(k:p % 8=0)(hp:p<=8*s.length)(q:n<=1000000000)(r:s.length<=1000000000)
  (l:p+8*n<=8*s.length->∀W,bT S w0 W (L.set j (bqE b s way (p+8*n)))->K (.tuple #[ae ((s.drop (p / 8)).take n),ad 0]) W)
  (m:8*s.length < p+8*n->∀W,bT S w0 W L->K (.tuple #[.string ⟨#[]⟩,ad 4]) W):cR ah 309 #[af b 0,ad (n:Int)] w PK K:=by
 have g:j < L.length:=(auV.1 f).1;refine gK (Ea (k0:=wT λv W=>(p+8*n<=8*s.length∧v=.tuple #[ae ((s.drop (p / 8)).take n),ad 0]∧bT S w0 W (L.set j (bqE b s way (p+8*n))))∨(8*s.length < p+8*n∧v=.tuple #[.string ⟨#[]⟩,ad 4]∧bT S w0 W L)) ?_) (λe W ⟨v,he,o⟩=>by
  subst he;rcases o with ⟨i,rfl,a⟩|⟨i,rfl,a⟩
  ·exact l i W a
  ·exact m i W a)
 unfold zC nz;rw[GF];simp only[rs,show ai ((n:Int) < 0)=au from auD om,bQ];rw[Du,wO,Qx a j f,k];simp only[rs,show ai ((0:Int) < ((0:Nat):Int))=au from rfl];refine cY (λW=>bT S w0 W L) a.drew ?_;refine dY _ (λ_=>dW) (dY _ (λ_=>bE SI) (gA _ (λW h=>Nj (h.at_ j f)) (Xo auQ ?_)));refine dY _ (λ_=>dW) (dY _ (λ_=>bE Mb) (gA _ (λW h=>yI (h.at_ j f)) (dY _ (λ_=>sZ) ?_)));rw[aA om om];refine IM ?_;intro w2 a;by_cases c:(s.length:Int) - ((p / 8:Nat):Int) < (n:Int)
 ·simp only[c,auE,i_t];exact vG (.inr ⟨om,rfl,a⟩)
 simp only[c,auF,i_f,rs,bQ];rw[HM,apA a j f];simp only[rs,bQ];rw[HM,aA om om];refine Rt (a':=((p / 8:Nat):Int)+n) j a f λw3 a=>?_;have e:rqE b s way ((p % 8:Nat):Int) (((p / 8:Nat):Int)+n)=bqE b s way (p+8*n):=by
  unfold rqE bqE bqC;rw[show (p+8*n) % 8=p % 8 by omega,show (p+8*n) / 8=p / 8+n by omega];rfl
 rw[e] at a;have d:(L.set j (bqE b s way (p+8*n)))[j]?=ay (bqE b s way (p+8*n)):=by rw[axR g]
 refine cY (λW=>bT S w0 W (L.set j (bqE b s way (p+8*n)))) a.drew ?_;refine dY _ (λ_=>dW) (dY _ (λ_=>bE SI) (gA _ (λW h=>Nj (h.at_ j d)) ?_));refine dY _ (λ_=>dW) (dY _ (λ_=>bE Mb) (gA _ (λW h=>yI (h.at_ j d)) (dY _ (λ_=>sZ) ?_)));rw[show (p+8*n) / 8=p / 8+n by omega,aA om om];refine dY _ (λ_=>dW) (dY _ (λ_=>bE Mb) (gA _ (λW h=>yI (h.at_ j d)) ?_));rw[show (p+8*n) / 8=p / 8+n by omega];refine dY _ (λ_=>rP auQ om om om) ?_;intro t a;refine vG (.inl ⟨om,?_,a⟩);rw[show (((p / 8+n:Nat):Int) - (n:Int)).toNat=p / 8 by omega,show ((p / 8+n:Nat):Int).toNat - p / 8=n by omega]
theorem aiO {s:List UInt8}(h:(bqE b s way p).is W)(hp:p<=8*s.length)(d:s.length<=1000000000):Ret ah 251 #[af b 0] W (λv w'=>v=ad (((p+7) / 8:Nat):Int)∧Below W.heap.size W w'):=by
 refine aX λK a=>E8 ?_;unfold B3 nz;rw[GF,i_f,bQ,Du,wO];refine aD (Ho h) |>.mpr ?_;simp only[rs,bQ];by_cases c:(0:Int) < ((p % 8:Nat):Int)
 ·simp only[c,auE,i_t,rs,bQ];rw[HM];refine aD (yI h) |>.mpr ?_;simp only[rs];rw[aA om om];exact a _ _ ⟨by congr 1;omega,(Own.start W).done⟩
 ·simp only[c,auF,i_f,rs,bQ];rw[HM];refine aD (yI h) |>.mpr ?_;exact a _ _ ⟨by congr 1;omega,(Own.start W).done⟩
end
end
section
open Eng
def zN(t8 w)(N1:JT)(K:KT):=nz f296 491 [N1] [nh 7 [8]] [] (zg [8] [t8]) w K
def yY(t2 t3 t6 t7 t8 w)(N1:JT)(K:KT):=nz f296 43 [N1] [nh 7 [8],(14,[],λs v j w f=>zN (s 8) w (f 0) K)] [] (zg [2,3,6,7,8] [t2,t3,t6,t7,t8]) w K
def Da(t0 w)(K:KT):=nz f296 1 [] [(7,[8],λs v j w f=>yY (s 2) (s 3) (s 6) (s 7) (vg v 0) w (f 0) K)] [] (zg [0] [t0]) w K
theorem GW:Da t0 w k0->Calls ah 296 #[t0] w k0:=cz [(7,[])] [(3,[8])] func296
def DE(t5 t6 t7 t8 w)(a:JT)(K:KT):=nz f315 351 [a] [nh 25 [6,7,8]] [] (zg [5,6,7,8] [t5,t6,t7,t8]) w K
def Dw(t0 t12 t13 t14 w)(N1:JT)(K:KT):=nz f315 43 [N1] [nh 9 [14],(25,[6,7,8],λs v j w f=>DE (s 5) (vg v 0) (vg v 1) (vg v 2) w (f 0) K)] [] (zg [0,12,13,14] [t0,t12,t13,t14]) w K
def H9(t0 w)(K:KT):=nz f315 1 [] [(9,[14],λs v j w f=>Dw (s 0) (s 12) (s 13) (vg v 0) w (f 0) K)] [] (zg [0] [t0]) w K
theorem Kg:H9 t0 w k0->Calls ah 315 #[t0] w k0:=cz [] [(4,[14]),(12,[6,7,8])] func315
def Ba(t1 t2 t3 t4 w)(N1:JT)(K:KT):=nz f297 43 [N1] [nh 7 [4]] [(5,11)] (zg [1,2,3,4] [t1,t2,t3,t4]) w K
def FQ(t0 w)(K:KT):=nz f297 1 [] [(7,[4],λs v j w f=>Ba (s 1) (s 2) (s 3) (vg v 0) w (f 0) K)] [] (zg [0] [t0]) w K
theorem ID:FQ t0 w k0->Calls ah 297 #[t0] w k0:=cz [] [(3,[4])] func297
def DV(t22 w)(N1:JT)(K:KT):=nz f294 1967 [N1] [nh 15 [22]] [] (zg [22] [t22]) w K
def DY(t5 t6 t20 t21 t22 w)(N1:JT)(K:KT):=nz f294 175 [N1] [nh 15 [22],(24,[],λs v j w f=>DV (s 22) w (f 0) K)] [] (zg [5,6,20,21,22] [t5,t6,t20,t21,t22]) w K
def Ig(t0 w)(K:KT):=nz f294 1 [] [(15,[22],λs v j w f=>DY (s 5) (s 6) (s 20) (s 21) (vg v 0) w (f 0) K)] [] (zg [0] [t0]) w K
theorem KF:Ig t0 w k0->Calls ah 294 #[t0] w k0:=cz [(12,[])] [(7,[22])] func294
def Bk(t39 w)(a:JT)(K:KT):=nz f270 62815 [nj,a] [nh 15 [7],nh 21 [39]] [] (zg [39] [t39]) w K
def B5(t6 t7 t37 t38 t39 w)(N1 a:JT)(K:KT):=nz f270 5471 [N1,a] [nh 15 [7],nh 21 [39],(28,[],λs v j w f=>Bk (s 39) w (f 0) K)] [] (zg [6,7,37,38,39] [t6,t7,t37,t38,t39]) w K
def Bf(t0 t6 t7 w)(N1:JT)(K:KT):=nz f270 351 [N1] [nh 15 [7],(21,[39],λs v j w f=>B5 (s 6) (s 7) (s 37) (s 38) (vg v 0) w (f 1) (f 0) K)] [] (zg [0,6,7] [t0,t6,t7]) w K
def Hd(t0 w)(K:KT):=nz f270 1 [] [(15,[7],λs v j w f=>Bf (s 0) (s 6) (vg v 0) w (f 0) K)] [] (zg [0] [t0]) w K
theorem FV:Hd t0 w k0->Calls ah 270 #[t0] w k0:=cz [(14,[])] [(7,[7]),(10,[39])] func270
def rY(t0 t1 t6 t7 t8 w)(N1:JT)(K:KT):=nz f320 175 [N1] [nh 13 [6,7,8]] [] (zg [0,1,6,7,8] [t0,t1,t6,t7,t8]) w K
def wF(t0 t1 w)(K:KT):=nz f320 1 [] [(13,[6,7,8],λs v j w f=>rY (s 0) (s 1) (vg v 0) (vg v 1) (vg v 2) w (f 0) K)] [] (zg [0,1] [t0,t1]) w K
theorem CP:wF t0 t1 w k0->Calls ah 320 #[t0,t1] w k0:=cz [] [(6,[6,7,8])] func320
end
section
open Eng Go.RowKit
def nsC (f:Nat->Int):List Value:=[ad (f 0),ad (f 1),ad (f 2),ad (f 3),ad (f 4),ad (f 5),ad (f 6),ad (f 7),ad (f 8),ad (f 9),ad (f 10),ad (f 11),ad (f 12),ad (f 13),ad (f 14),ad (f 15)]
def nsV (f:Nat->Int):Value:=.agg (nsC f).toArray
def nsE (b:Nat)(f:Nat->Int):Ent:=.cells b (nsC f) 319
theorem VL (f:Nat->Int):∀v∈nsC f,v.oneCell'=true:=by
 intro v a;simp only[nsC,auI,avP,or_false] at a;rcases a with rfl|rfl|rfl|rfl|rfl|rfl|rfl|rfl|rfl|rfl|rfl|rfl|rfl|rfl|rfl|rfl<;>rfl
theorem lt16 (hi:i < 16):i=0∨i=1∨i=2∨i=3∨i=4∨i=5∨i=6∨i=7∨i=8∨i=9∨i=10∨i=11∨i=12∨i=13∨i=14∨i=15:=om
theorem Ku (f:Nat->Int)(hi:i < 16):(nsC f)[i]?=ay (ad (f i)):=by
 rcases lt16 hi with rfl|rfl|rfl|rfl|rfl|rfl|rfl|rfl|rfl|rfl|rfl|rfl|rfl|rfl|rfl|rfl<;>rfl
theorem agD (f:Nat->Int)(x:Int)(hi:i < 16):(nsC f).set i (ad x)=nsC (λj=>if j=i then x else f j):=by
 rcases lt16 hi with rfl|rfl|rfl|rfl|rfl|rfl|rfl|rfl|rfl|rfl|rfl|rfl|rfl|rfl|rfl|rfl<;>rfl
theorem afM:FU ah 319=ay 16:=krx
theorem szNs:(Tryz.prog.info? 319).map (·.size)=ay 16:=krx
section
variable {w:ao}{PK:PKT}{K:VWP}{S:Nat->Prop}{w0:ao}{L:List Ent}
theorem Ji {off:Nat}(hi:i < 16):(mIA 319 (af b off) (ad (i:Int))).run ah W=.ok (.value (af b (off+i))) W:=by
 rcases lt16 hi with rfl|rfl|rfl|rfl|rfl|rfl|rfl|rfl|rfl|rfl|rfl|rfl|rfl|rfl|rfl|rfl<;>kernel_rfl
theorem KP {off:Nat}(hi:i < 16):DoX ah (mIA 319 (af b off) (ad (i:Int))) w PK K=K (af b (off+i)) w:=aD (Ji hi)
theorem UD (a:bT S w0 w L)(k:∀b w',bT S w0 w' (nsE b (λ_=>0)::L)->K (af b 0) w'):DoX ah (fK 319) w PK K:=
 bK (λb=>af b 0) (nsC λ_=>0) 319 (λ_=>by kernel_rfl) a k
theorem asD (f:Nat->Int)(a:bT S w0 w L)(k:∀b w',bT S w0 w' (nsE b f::L)->K (af b 0) w'):DoX ah (GP 319 (nsV f)) w PK K:=
 bK (λb=>af b 0) (nsC f) 319 (λ_=>by kernel_rfl) a k
theorem M6 (c:bT S w0 w L)(j:Nat){f:Nat->Int}(hi:L[j]?=ay (nsE b f))(a:i < 16):DoX ah (aH 3 (af b (0+i))) w PK K=K (ad (f i)) w:=aJ aU (c.cell j hi (0+i) (by rw[auP];exact Ku f a))
theorem Y7 (j:Nat){f:Nat->Int}{x:Int}(a:i < 16)(c:bT S w0 w L)(hi:L[j]?=ay (nsE b f))(k:∀w',bT S w0 w' (L.set j (nsE b (λm=>if m=i then x else f m)))->K undef w') :
  DoX ah (aN 3 (af b (0+i)) (ad x)) w PK K:=aO j c hi krx rfl (by show 0+i < 16;omega) λw' c=>k w' (by
   unfold nsE;rw[<-agD f x a,<-auP i];rw[auP i] at c ⊢;simpa using c)
theorem ns_v (a:bT S w0 w L)(j:Nat){f:Nat->Int}(hi:L[j]?=ay (nsE b f)):DoX ah (aH 319 (af b 0)) w PK K=K (nsV f) w:=EN (a.agg j hi afM)
theorem S9 (j:Nat){f f':Nat->Int}(a:bT S w0 w L)(hi:L[j]?=ay (nsE b f))(k:∀w',bT S w0 w' (L.set j (nsE b f'))->K undef w') :
  DoX ah (aN 319 (af b 0) (nsV f')) w PK K:=jH j a hi (new:=nsC f') szNs (VL f') rfl k
theorem adJ {K:Ending->ao->Prop}{f:Nat->Int}(i:Nat)(a:bT S w0 w L)(hi:L[i]?=ay (nsE b f))(k:K (.returned (nsV f)) w):Bw ah [.cell (af b 0) 319] w K:=
 eN (bJ (a.agg i hi afM)) k
end
def cnt (lens:List Nat):Nat->Int:=λi=>if i=0 then 0 else ((lens.count i:Nat):Int)
def bF (l:List Nat):List Value:=l.map λn=>ad ((n:Nat):Int)
theorem pO (a:Sl w v 1 l.length (bF l))(hi:i < l.length) :
  ∃b off,(∀W,(mIA 70 v (ad (i:Int))).run ah W=.ok (.value (af b off)) W)∧w.cell? ⟨b,off,ax⟩=ay (ad ((l[i]:Nat):Int)):=by
 obtain⟨b,off,cap,rfl,c⟩:=bR a om;refine⟨b,off+i,λW=>?_,c i _ (by simp[bF,hi])⟩;have:=cZ (P:=ah) (T:=70) (b:=b) (off:=off) (cap:=cap) (n:=l.length) (k:=.i64) (i:=(i:Int)) (w:=W) avB (show _=ay 1 by kernel_rfl) om om;rw[auJ,avC] at this;exact this
theorem yG (lens:List Nat)(v:aq)(M:Mem)(w:ao)(k:∀l∈lens,l<=15)(D:lens.length<=100000)(p:M.has w)(q:SlA M.A M.w v 1 lens.length (bF lens)) :
  jR ah 296 #[v] M w (λr _=>r=nsV (cnt lens)):=by
 refine bB p λK x=>GW ?_;unfold Da nz;refine UD (bT.memS p) λb2 E c=>?_;refine UD c λb3 w2 c=>?_;rw[aZ avB (q.now (c.hasM 2 rfl))];refine loop (λvs W=>∃i:Nat,vs=[ad i]∧i<=lens.length∧bT M.A w W [nsE b3 (cnt (lens.take i)),nsE b2 (λ_=>0),.mem M]) (λvs _=>lens.length - n0 vs) ⟨0,rfl,om,?_⟩ ?_
 ·have e:cnt (lens.take 0)=λ_=>0:=by funext i;simp[cnt]
  rw[e];exact c
 clear c;rintro vs w3 ⟨i,rfl,hi,c⟩ _;simp only[yY,gd,rs,nz];by_cases g:(i:Int) < (lens.length:Int)
 ·have f:i < lens.length:=om
  simp only[g,auE,i_t];refine join λJ y=>?_;obtain⟨b,off,z,B⟩:=pO (q.now (c.hasM 2 rfl)) f;have s:=k _ (auS f);refine aD (z w3) |>.mpr (aD (aB aU B) |>.mpr ?_);have j:lens.take (i+1)=lens.take i++[lens[i]]:=by rw[avL f]
  have fin:∀W,bT M.A w W [nsE b3 (cnt (lens.take (i+1))),nsE b2 (λ_=>0),.mem M]->J [] W:=by
   intro W c;refine y _ _ λ_=>?_;simp only[zN,gd,rs,nz];rw[aA om om];exact bC ⟨i+1,rfl,om,c⟩ (by simp[n0,RowKit.intOf];omega)
  simp only[rs];by_cases t:(0:Int) < ((lens[i]:Nat):Int)
  ·simp only[t,auE,i_t];rw[KP om,M6 c 0 rfl om];simp only[rs];rw[KP om];have C:(lens.take i).count lens[i]<=100000:=by
    have:=azQ (a:=lens[i]) (l:=lens.take i);rw[auM] at this;omega
   have n:cnt (lens.take i) lens[i]=(((lens.take i).count lens[i]:Nat):Int):=by unfold cnt;rw[auB om]
   rw[n,aA om om];refine Y7 0 om c rfl λu c=>fin u ?_;have e:(λm=>if m=lens[i] then (((lens.take i).count lens[i]:Nat):Int)+1 else cnt (lens.take i) m)=cnt (lens.take (i+1)):=by
    funext m
    unfold cnt;rw[j,ayT,aAO];by_cases hm:m=lens[i]
    ·subst hm;rw[auC rfl,auB om];simp
    ·rw[auB hm];by_cases d:m=0
     ·rw[auC d,auC d]
     ·rw[auB d,auB d];have:(lens[i]==m)=false:=by simp;exactλh=>hm h.symm
      rw[this];simp
   rw[<-e];exact c
  ·simp only[t,auF,i_f];refine fin w3 ?_;have e:cnt (lens.take (i+1))=cnt (lens.take i):=by
    funext m
    unfold cnt;rw[j,ayT,aAO];by_cases d:m=0
    ·rw[auC d,auC d]
    ·rw[auB d,auB d];have:(lens[i]==m)=false:=by simp;omega
     rw[this];simp
   rw[e];exact c
 ·simp only[g,auF,i_f];have o:i=lens.length:=om
  subst o;rw[awD] at c;rw[ns_v c 0 rfl];refine S9 1 c rfl λu c=>?_;exact adJ 1 c rfl (x _ _ M _ 2 c rfl M.le_refl rfl)
theorem Gz (lens:List Nat)(M:Mem)(w:ao)(o:lens.length<=100000)(f:M.has w) :
  jR ah 297 #[nsV (cnt lens)] M w (λr _=>r=nsV (λi=>((Fl.first lens (if i<=15 then i else 0):Nat):Int))):=by
 refine bB f λK p=>ID ?_;unfold FQ nz;refine asD (cnt lens) (bT.memS f) λg x a=>?_;refine UD a λb2 w2 a=>?_;refine UD a λb3 w3 a=>?_;refine loop (λvs W=>∃l:Nat,vs=[ad l]∧1<=l∧l<=15∧bT M.A w W [nsE b3 (λi=>((Fl.first lens (if i<=l then i else 0):Nat):Int)),nsE b2 (λ_=>0),nsE g (cnt lens),.mem M]) (λvs _=>15 - n0 vs) ⟨1,rfl,om,om,?_⟩ ?_
 ·have e:(λi=>((Fl.first lens (if i<=1 then i else 0):Nat):Int))=λ_=>0:=by
   funext i
   by_cases h:i<=1
   ·rw[auC h];rcases (by omega:i=0∨i=1) with rfl|rfl<;>rfl
   ·rw[auB h];rfl
  rw[e];exact a
 clear a;rintro vs q ⟨l,rfl,s,j,a⟩ _;simp only[Ba,gd,rs,nz];by_cases b:(l:Int) < 15
 ·simp only[b,auE,i_t];have t:=Fl.Nt (lens:=lens) l;have u:lens.count l<=lens.length:=azQ;have hp:4 ^ l<=4 ^ 15:=awL dc om;have v:(4:Nat) ^ 15=1073741824:=dc
  have n:4 ^ l*lens.length<=1073741824*100000:=axG om o;have d:cnt lens l=((lens.count l:Nat):Int):=by unfold cnt;rw[auB om]
  refine cY (λW=>bT M.A w W [nsE b3 (λi=>((Fl.first lens (if i<=l then i else 0):Nat):Int)),nsE b2 (λ_=>0),nsE g (cnt lens),.mem M]) a.drew ?_;refine sW ?_;rw[aA om om];refine dY _ (λ_=>Ji om) (gA (ad (Fl.first lens l)) (λW h=>aB aU (h.cell 0 rfl (0+l) (by rw[auP];refine (Ku _ om).trans ?_;rw[auC (auL l)]))) ?_);refine dY _ (λ_=>Ji om) (gA (ad (lens.count l:Nat)) (λW h=>aB aU (h.cell 2 rfl (0+l) (by rw[auP];refine (Ku _ om).trans ?_;rw[d]))) ?_);refine sW ?_;rw[aA om om];refine dY _ (λ_=>aoD) ?_;rw[aA om om];rw[show ((l:Nat):Int)+1=((l+1:Nat):Int) by omega];refine dY _ (λ_=>Ji om) ?_;intro y a;refine Y7 0 om a rfl λz a=>?_;refine bC ⟨l+1,rfl,om,om,?_⟩ (by simp[n0,RowKit.intOf];omega);have e:(λm=>if m=l+1 then (2:Int)*(((Fl.first lens l:Nat):Int)+((lens.count l:Nat):Int)) else ((Fl.first lens (if m<=l then m else 0):Nat):Int))=λi=>((Fl.first lens (if i<=l+1 then i else 0):Nat):Int):=by
   funext m
   by_cases hm:m=l+1
   ·subst hm;rw[auC rfl,auC (auL _)];obtain⟨k,rfl⟩:∃k,l=k+1:=⟨l - 1,om⟩;rw[Fl.first];push_cast;rfl
   ·rw[auB hm];by_cases c:m<=l
    ·rw[auC c,auC om]
    ·rw[auB c,auB om]
  rw[<-e];exact a
 ·simp only[b,auF,i_f];have:l=15:=om
  subst this;rw[ns_v a 0 rfl];refine S9 1 a rfl λq a=>?_;exact adJ 1 a rfl (p _ _ M _ 3 a rfl M.le_refl rfl)
def bn (lens:List Nat):Int:=if 288 < lens.length then 6 else Fl.check lens
theorem U4 (lens:List Nat)(v:aq)(M:Mem)(w:ao)(m:∀l∈lens,l<=15)(n:lens.length<=100000)(s:M.has w)(t:SlA M.A M.w v 1 lens.length (bF lens)) :
  jR ah 315 #[v] M w (λr _=>r=ad (bn lens)):=by
 refine bB s λK u=>Kg ?_;unfold H9 nz;have d:bT M.A w w [.mem M]:=bT.memS s;rw[aZ avB (t.now s)];simp only[rs];by_cases g:(288:Int) < (lens.length:Int)
 ·simp only[g,auE,i_t];exact u _ _ M _ 0 d rfl M.le_refl (by unfold bn;rw[auC om])
 have y:bn lens=Fl.check lens:=by unfold bn;rw[auB om]
 simp only[g,auF,i_f];rw[aZ avB (t.now s)];refine loop (λvs W=>∃i:Nat,vs=[ad i]∧i<=lens.length∧bT M.A w W [.mem M]) (λvs _=>lens.length - n0 vs) ⟨0,rfl,om,d⟩ ?_;clear d;rintro vs w2 ⟨i,rfl,hi,d⟩ _;simp only[Dw,gd,rs,nz];by_cases f:(i:Int) < (lens.length:Int)
 ·have o:i < lens.length:=om
  simp only[f,auE,i_t];obtain⟨b,off,z,B⟩:=pO (t.now (d.hasM 0 rfl)) o;have p:=m _ (auS o);refine aD (z w2) |>.mpr (aD (aB aU B) |>.mpr ?_);simp only[rs,show ai (((lens[i]:Nat):Int) < 0)=au from auD om,show ai ((15:Int) < ((lens[i]:Nat):Int))=au from auD om];rw[aA om om];exact bC ⟨i+1,rfl,om,d⟩ (by simp[n0,RowKit.intOf];omega)
 simp only[f,auF,i_f];refine bH d 0 rfl (yG lens v M w2 m n (d.hasM 0 rfl) t) ?_;rintro _ N w3 hle rfl d;refine UD d λx G d=>?_;refine S9 0 d rfl λC d=>?_;have d:bT M.A w C [nsE x (cnt lens),.mem N]:=d;refine loop (λvs W=>∃l:Nat,vs=[ad (Fl.iS lens l),ad (Fl.bN lens l),ad ((l+1:Nat):Int)]∧l<=15∧bT M.A w W [nsE x (cnt lens),.mem N]) (λvs _=>16 - n2 vs) ⟨0,rfl,om,d⟩ ?_;clear d f hi;rintro vs D ⟨l,rfl,p,d⟩ _;simp only[DE,gd,rs,nz];have j:∀k,k≠0->cnt lens k=((lens.count k:Nat):Int):=λk h=>by unfold cnt;rw[auB h]
 by_cases f:((l+1:Nat):Int)<=15
 ·simp only[f,auE,i_t];have E:lens.count (l+1)<=lens.length:=azQ;have s1:=Fl.Tj (lens:=lens) (l+1);have s2:=Fl.Js (lens:=lens) (l+1);have H:(l+1)*(lens.length*32768)<=16*(100000*32768):=axG om (awC _ n);have I:(l+1)*lens.length<=16*100000:=axG om n;rw[Fl.iS] at s1;rw[Fl.bN] at s2;rw[KP om,M6 d 0 rfl om,j _ om]
  try simp only[rs]
  rw[aA om om,II om];rw[show min ((15:Int) - ((l+1:Nat):Int)).toNat IntKind.i64.bits=15 - (l+1) by show min ((15:Int) - ((l+1:Nat):Int)).toNat 64=15 - (l+1);omega];rw[show ((lens.count (l+1):Nat):Int)*2 ^ (15 - (l+1))=((lens.count (l+1)*2 ^ (15 - (l+1)):Nat):Int) by push_cast;rfl];generalize F:lens.count (l+1)*2 ^ (15 - (l+1))=q at s1 ⊢;rw[aA om om]
  try simp only[rs]
  rw[aA om om,KP om,M6 d 0 rfl om,j _ om]
  try simp only[rs]
  rw[aA om om,aA om om];refine bC ⟨l+1,?_,om,d⟩ (by simp[n2,RowKit.intOf];omega);rw[Fl.iS,Fl.bN,F];rfl
 ·have n:l=15:=om
  subst n;simp only[f,auF,i_f];have fin:∀e:Int,e=Fl.check lens->K (.returned (ad e)) D:=λe he=>u _ _ N _ 1 d rfl hle (by rw[y,he]);unfold Fl.check at fin;by_cases a:Fl.iS lens 15=32768
  ·simp only[show ai (((Fl.iS lens 15:Nat):Int)=32768)=aw from auG om,rs,oG];exact fin 0 (by rw[auC (.inl a)])
  simp only[show ai (((Fl.iS lens 15:Nat):Int)=32768)=au from auD om,rs];by_cases b:Fl.bN lens 15=0
  ·simp only[show ai (((Fl.bN lens 15:Nat):Int)=0)=aw from auG om,rs,oG];exact fin 0 (by rw[auC (.inr (.inl b))])
  simp only[show ai (((Fl.bN lens 15:Nat):Int)=0)=au from auD om,rs];by_cases c:Fl.bN lens 15=1
  ·simp only[show ai (((Fl.bN lens 15:Nat):Int)=1)=aw from auG om,rs];rw[show ((1:Int))=((1:Nat):Int) from rfl,KP om,M6 d 0 rfl om,j 1 om];by_cases e:lens.count 1=1
   ·simp only[rs,show ai (((lens.count 1:Nat):Int)=((1:Nat):Int))=aw from auG om];exact fin 0 (by rw[auC (.inr (.inr ⟨c,e⟩))])
   ·simp only[rs,show ai (((lens.count 1:Nat):Int)=((1:Nat):Int))=au from auD om];exact fin 13 (by rw[auB (λh=>h.elim a λh=>h.elim b λh=>e h.2)])
  ·simp only[show ai (((Fl.bN lens 15:Nat):Int)=1)=au from auD om,rs,oG];exact fin 13 (by rw[auB (λh=>h.elim a λh=>h.elim b λh=>c h.1)])
def Qz (l:List Int):List Value:=l.map λn=>ad n
theorem wQ {l:List Int}:∀x∈Qz l,x.oneCell'=true:=by
 intro x a;obtain⟨n,-,rfl⟩:=avN.1 a;rfl
theorem HP:eS ah 70=true:=krx
theorem asP:elB ah 3 1 8=true:=krx
theorem Mo {K:aq->Prop}{a b:aq}(h:K a):HDo P C (Ag (.tuple #[a,b]) 0) K:=aP a (λ_=>rfl) h
theorem GS {K:aq->Prop}{a b:aq}(h:K b):HDo P C (Ag (.tuple #[a,b]) 1) K:=aP b (λ_=>rfl) h
section
variable {w:ao}{PK:PKT}{K:VWP}{S:Nat->Prop}{w0:ao}{L:List Ent}
theorem VX (a:bT S w0 w L)(k:∀v w',bT S w0 w' (.urow 3 1 v 0 []::L)->K v w'):DoX ah (aM 70 0 #[]) w PK K:=
 bK (λb=>bO b 0 0 0) [] 3 (λ_=>by kernel_rfl) a λb c a=>k _ _ (a.toU 1 0 0 sm om om)
theorem xR (n:Int)(a:bT S w0 w L)(k:∀b w',bT S w0 w' (.cells b (Qz [n]) 3::L)->K (bO b 0 1 1) w'):DoX ah (aM 70 1 #[(0,ad n)]) w PK K:=
 bK (λb=>bO b 0 1 1) (Qz [n]) 3 (λ_=>by kernel_rfl) a k
theorem sR (i:Nat){n:Nat}(a:bT S w0 w L)(hi:L[i]?=ay (.urow 3 1 v n xs))(b:Sl w v2 1 m news)(c:∀u∈news,u.oneCell'=aw)(d:n+m<=100000000000)
  (k:∀v' w',bT S w0 w' (L.set i (.urow 3 1 v' (n+m) (xs++news)))->K v' w'):DoX ah (mB .append #[70,70] 70 cb #[v,v2]) w PK K:=
 bZ i avB asP dc a hi b c om om k
end
theorem Uo (n:Nat):(Go.madeCells (Value.int .i64 0).cells (n*1))=(List.replicate n (Value.int .i64 0)).toArray:=by
 unfold Go.madeCells;refine Array.ext sm λi a b=>?_;have e:(Value.int .i64 0).cells=#[Value.int .i64 0]:=rfl;simp only[Array.getElem_map,List.getElem_toArray,List.getElem_replicate,e];simp[Nat.mod_one]
theorem SK:∃i,Tryz.prog.info? 3=ay i∧i.zero=ay (Value.int .i64 0)∧i.size=1∧i.bytes=8:=⟨_,rfl,krx,krx,krx⟩
section
variable {w:ao}{PK:PKT}{K:VWP}{S:Nat->Prop}{w0:ao}{L:List Ent}
theorem BH {n:Nat}(f:n<=1000000)(a:bT S w0 w L)(k:∀b w',bT S w0 w' (.cells b (List.replicate n (ad 0)) 3::L)->K (bO b 0 n n) w') :
  DoX ah (Ld 70 (ad (n:Int)) (ad (n:Int))) w PK K:=by
 obtain⟨i,hi,c,d,e⟩:=SK;refine bK (λb=>bO b 0 n n) (List.replicate n (ad 0)) 3 (λW=>?_) a k;have:=Go.run_make (P:=ah) W 70 3 i (Value.int .i64 0) avB hi c .i64 .i64 (n:Int) (n:Int) om om (by rw[e];omega) om;rw[d,auJ,Uo] at this;exact cJ this
end
def cr (lens:List Nat)(i:Nat):Nat:=if lens.getD i 0=0 then 0 else Fl.first lens (lens.getD i 0)+(lens.take i).count (lens.getD i 0)
def jb (lens:List Nat):List Nat:=(List.range lens.length).map (cr lens)
theorem jh (lens:List Nat):(jb lens).length=lens.length:=by simp[jb]
theorem th {lens:List Nat}(hi:i < lens.length):(jb lens)[i]?=ay (cr lens i):=by
 simp[jb,hi]
def jB (lens:List Nat)(i:Nat):List Value:=bF ((jb lens).take i)++List.replicate (lens.length - i) (ad 0)
theorem QR {lens:List Nat}(hi:i<=lens.length):(jB lens i).length=lens.length:=by
 unfold jB bF;rw[auH,avJ,auM,avW,jh];omega
theorem Ki {lens:List Nat}(hi:i < lens.length):(jB lens i).set i (ad ((cr lens i:Nat):Int))=jB lens (i+1):=by
 unfold jB;have a:(bF ((jb lens).take i)).length=i:=by unfold bF;rw[avJ,auM,jh];omega
 rw[azF _ _ om,a,axL];obtain⟨k,b⟩:∃k,lens.length - i=k+1:=⟨lens.length - i - 1,om⟩;rw[b,aAP,axF,show lens.length - (i+1)=k by omega];rw[avL (by rw[jh];exact hi)];have e:(jb lens)[i]'(by rw[jh];exact hi)=cr lens i:=by
  have:=th hi;rw[auO (by rw[jh];exact hi)] at this;exact axN this
 rw[e];simp[bF]
theorem O6 {lens:List Nat}(hi:i < lens.length)(a:cr lens i=0):jB lens (i+1)=jB lens i:=by
 rw[<-Ki hi,a];refine yH ?_;unfold jB;have b:(bF ((jb lens).take i)).length=i:=by unfold bF;rw[avJ,auM,jh];omega
 rw[awW om,b,axL,aAu,auC om];rfl
def nxt (lens:List Nat)(i:Nat):Nat->Int:=λm=>((Fl.first lens (if m<=15 then m else 0)+(if m=0 then 0 else (lens.take i).count m):Nat):Int)
theorem Mv (lens:List Nat)(v:aq)(M:Mem)(w:ao)(o:∀l∈lens,l<=15)(z:lens.length<=100000)(C:M.has w)(q:SlA M.A M.w v 1 lens.length (bF lens)) :
  jR ah 294 #[v] M w (λr N=>∃v',r=.tuple #[v',ad (bn lens)]∧v'.oneCell'=aw∧(bn lens=0->SlA N.A N.w v' 1 lens.length (bF (jb lens)))):=by
 refine bB C λK I=>KF ?_;unfold Ig nz;have c:bT M.A w w [.mem M]:=bT.memS C;refine aK c (R:=λr=>r=ad (bn lens)) (jR.told (U4 lens v M w o z C q)) ?_;rintro _ Q rfl c;rw[eC];by_cases B:bn lens=0
 case neg=>
  simp only[B,ne_eq,awJ,auE,i_t];exact I _ _ M _ 0 c rfl M.le_refl ⟨_,rfl,rfl,λh=>absurd h B⟩
 simp only[B,ne_eq,not_true,auF,i_f];refine aK c (R:=λr=>r=nsV (cnt lens)) (jR.told (yG lens v M Q o z (c.hasM 0 rfl) q)) ?_;rintro _ w2 rfl c;refine aK c (R:=λr=>r=nsV (λi=>((Fl.first lens (if i<=15 then i else 0):Nat):Int))) (jR.told (Gz lens M w2 z (c.hasM 0 rfl))) ?_;rintro _ w3 rfl c;refine UD c λD w4 c=>?_;refine S9 0 c rfl λw5 c=>?_;rw[aZ avB (q.now (c.hasM 1 rfl))];refine BH om c λs w6 c=>?_;rw[aZ avB (q.now (c.hasM 2 rfl))];refine loop (λvs W=>∃i:Nat,vs=[ad i]∧i<=lens.length∧bT M.A w W [.cells s (jB lens i) 3,nsE D (nxt lens i),.mem M]) (λvs _=>lens.length - n0 vs) ⟨0,rfl,om,?_⟩ ?_
 ·have e1:jB lens 0=List.replicate lens.length (ad 0):=by simp[jB,bF]
  have e2:nxt lens 0=λi=>((Fl.first lens (if i<=15 then i else 0):Nat):Int):=by
   funext m;unfold nxt;simp
  rw[e1,e2];exact c
 clear c;rintro vs F ⟨i,rfl,hi,c⟩ _;simp only[DY,gd,rs,nz];by_cases t:(i:Int) < (lens.length:Int)
 ·have d:i < lens.length:=om
  simp only[t,auE,i_t];refine join λJ S=>?_;obtain⟨b,off,U,V⟩:=pO (q.now (c.hasM 2 rfl)) d;have f:=o _ (auS d);have u:lens.getD i 0=lens[i]:=by rw[auK,auO d];rfl
  refine aD (U F) |>.mpr (aD (aB aU V) |>.mpr ?_);have p:lens.take (i+1)=lens.take i++[lens[i]]:=by rw[avL d]
  have fin:∀W,bT M.A w W [.cells s (jB lens (i+1)) 3,nsE D (nxt lens (i+1)),.mem M]->J [] W:=by
   intro W c;refine S _ _ λ_=>?_;simp only[DV,gd,rs,nz];rw[aA om om];exact bC ⟨i+1,rfl,om,c⟩ (by simp[n0,RowKit.intOf];omega)
  simp only[rs];by_cases L:(0:Int) < ((lens[i]:Nat):Int)
  ·simp only[L,auE,i_t];have X:=Fl.Nt (lens:=lens) lens[i];have hp:4 ^ lens[i]<=4 ^ 15:=awL dc f;have Y:(4:Nat) ^ 15=1073741824:=dc
   have O:4 ^ lens[i]*lens.length<=1073741824*100000:=axG om z;have Z:(lens.take i).count lens[i]<=100000:=by
    have:=azQ (a:=lens[i]) (l:=lens.take i);rw[auM] at this;omega
   have x:cr lens i=Fl.first lens lens[i]+(lens.take i).count lens[i]:=by
    unfold cr;rw[u,auB om]
   have y:nxt lens i lens[i]=((cr lens i:Nat):Int):=by
    unfold nxt;rw[auC f,auB om,x]
   rw[KP om,M6 c 1 rfl om,y];have G:=cZ (P:=ah) (T:=70) (b:=s) (off:=0) (cap:=lens.length) (n:=lens.length) (k:=.i64) (i:=(i:Int)) (w:=F) avB (show _=ay 1 by kernel_rfl) om om;refine aD G |>.mpr ?_;rw[auJ,avC,auP];refine aO 0 c rfl krx rfl (by rw[QR hi];exact d) λw8 c=>?_;rw[Ki d] at c;have c:bT M.A w w8 [.cells s (jB lens (i+1)) 3,nsE D (nxt lens i),.mem M]:=c;rw[KP om,M6 c 1 rfl om,y];simp only[rs];rw[KP om,aA om om];refine Y7 1 om c rfl λw9 c=>fin w9 ?_;have e:(λm=>if m=lens[i] then ((cr lens i:Nat):Int)+1 else nxt lens i m)=nxt lens (i+1):=by
    funext m
    by_cases hm:m=lens[i]
    ·subst hm;rw[auC rfl];unfold nxt;rw[auC f,auB om,p,ayT,aAO,x];simp;omega
    ·rw[auB hm];unfold nxt;rw[p,ayT,aAO];have:(lens[i]==m)=false:=by simp;exactλh=>hm h.symm
     rw[this];simp
   rw[<-e];exact c
  ·simp only[L,auF,i_f];have hz:lens[i]=0:=om
   refine fin F ?_;have e1:jB lens (i+1)=jB lens i:=O6 d (by unfold cr;rw[u,auC hz]);have e2:nxt lens (i+1)=nxt lens i:=by
    funext m
    unfold nxt;rw[p,ayT,aAO];by_cases g:m=0
    ·rw[auC g,auC g]
    ·rw[auB g,auB g];have:(lens[i]==m)=false:=by simp;omega
     rw[this];simp
   rw[e1,e2];exact c
 ·simp only[t,auF,i_f];have H:i=lens.length:=om
  subst H;have er:jB lens lens.length=bF (jb lens):=by
   unfold jB;rw[avE (by rw[jh];omega)];simp
  rw[er] at c;have c:=bT.toU (b:=s) (cs:=bF (jb lens)) (E:=3) c 1 lens.length lens.length (by unfold bF;rw[avJ,jh];omega) om om;obtain⟨N,hle,j,c⟩:=bT.bG c 1 rfl;rw[avE (by unfold bF;rw[avJ,jh];omega)] at j;exact I _ _ N _ 1 c rfl hle ⟨_,by rw[B],rfl,λ_=>j⟩
end
section
open Eng
def mZ(t0 w)(K:KT):=nz f295 1 [] [] [] (zg [0] [t0]) w K
theorem vL:mZ t0 w k0->Calls ah 295 #[t0] w k0:=cw func295
def kE(a b w)(j:JT)(K:KT):=
 lnx 70 a w K λc w=>bnx .lss 3 b c w K λd w=>IfX d (oY w (λi=>QDo ah i (fJ 70 a (ay b) ax ax) λe=>QDo ah i (fJ 70 a ax (ay b) ax) λf=>
 ∀w,i w ->
 DoX ah (mB .copy #[70,70] 3 #[au,au] #[e,f]) w (az 5 (pk K)) λg w=>DoX ah (iQ .add 3 b g) w (az 5 (pk K)) λh w=>j [h] w)) (K (.returned a) w)
def jU(t0 t6 w)(K:KT):=nz f293 31 [] [(17,[8],λs v j w f=>kE (s 7) (vg v 0) w (f 0) K)] [] (zg [0,6] [t0,t6]) w K
def jS(t0 t1 w)(K:KT):=nz f293 7 [] [(12,[],λs v j w f=>jU (s 0) (s 6) w K)] [] (zg [0,1] [t0,t1]) w K
def mI(t0 t1 w)(K:KT):=nz f293 1 [] [(6,[],λs v j w f=>jS (s 0) (s 1) w K)] [] (zg [0,1] [t0,t1]) w K
theorem tF:mI t0 t1 w k0->Calls ah 293 #[t0,t1] w k0:=cz [(3,[]),(6,[])] [(8,[8])] func293
end
section
open Eng Go.RowKit
theorem Ge :∀x∈bF l,x.oneCell'=true:=by
 intro x a;obtain⟨n,-,rfl⟩:=avN.1 a;rfl
theorem fN (l:List Nat):(bF l).length=l.length:=by simp[bF]
theorem aiT {off n c:Nat}:DoX ah (mEq .eql 70 xo yo (bO b off n c) (.slice ax 0 0)) w PK K=K (.bool au) w:=aD krx
theorem MN (l:List Nat)(v:aq)(M:Mem)(w:ao)(i:l.length<=100000)(j:0 < l.length)(e:M.has w)(f:SlA M.A M.w v 1 l.length (bF l)) :
  jR ah 295 #[v] M w (λr N=>SlA N.A N.w r 1 l.length (bF l)):=by
 refine bB e λK g=>vL ?_;unfold mZ nz;have a:bT M.A w w [.mem M]:=bT.memS e;have go:∀{b off n c:Nat},v=bO b off n c->DoX ah (mEq .eql 70 (.tmp 3) (.const (.slice ax 0 0)) v (.slice ax 0 0)) w (Eng.pk K) λt4 w=>IfX t4 (K (.returned (.slice ax 0 0)) w) (DoX ah (aM 70 0 #[]) w (Eng.pk K) λt5 w=>
   DoX ah (mB .append #[70,70] 70 #[au,au] #[t5,v]) w (Eng.pk K) λt7 w=>K (.returned t7) w):=by
  rintro b off n c rfl;rw[aiT,i_f];refine VX a λv0 k a=>?_;refine sR 0 a rfl (f.now (a.hasM 1 rfl)) Ge om λv1 w2 a=>?_;obtain⟨N,hle,d,a⟩:=bT.bG (L:=[.mem M]) a 0 rfl;refine g _ _ N _ 0 a rfl hle ?_;rw[auP] at d;exact d
 obtain⟨b,off,cap,h,-⟩:=bR f.1 om;exact go h
def tbC (a b:aq)(f g:Nat->Int)(o:aq):List Value:=a::b::(nsC f++(nsC g++[o]))
def tbV (a b:aq)(f g:Nat->Int)(o:aq):Value:=.agg (tbC a b f g o).toArray
def tbE (c:Nat)(a b:aq)(f g:Nat->Int)(o:aq):Ent:=.cells c (tbC a b f g o) 322
theorem aeG:nN ah 322 0=ay 0:=krx
theorem alE:nN ah 322 1=ay 1:=krx
theorem anH:nN ah 322 2=ay 2:=krx
theorem akR:nN ah 322 3=ay 18:=krx
theorem apM:nN ah 322 4=ay 34:=krx
def kx (lens:List Nat)(l:Nat):List Nat:=(List.range lens.length).filter λi=>ai (lens.getD i 0=l)
def bh (lens:List Nat):Nat->List Nat
|0=>[]
|l+1=>bh lens l++kx lens (l+1)
end
end Go.Proofs.YtlgndjkieegnaaaGreatDoor
