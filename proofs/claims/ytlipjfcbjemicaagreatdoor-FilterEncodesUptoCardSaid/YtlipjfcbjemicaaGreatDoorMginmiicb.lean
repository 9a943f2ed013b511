/- Parts of the proof. -/
import Derived.Test.YtlipjfcbjemicaaGreatDoorRows
import Derived.Test.YtlipjfcbjemicaaGreatDoorMkkbpbeon
set_option linter.all false
set_option maxRecDepth 20000
open Go.Proofs.Tryz
open Go.Proofs.Tryz renaming prog->ah
open Option renaming some->ax,none->aw
open Bool renaming true->av,false->au
open Go renaming Value->aq,World->ao
open Decidable renaming decide->ai
namespace Go.Proofs.YtlipjfcbjemicaaGreatDoor
variable{A S:Nat->Prop}{K:VWP}{M N:Eng.Mem}{PK PK2:PKT}{Sy cl l near:List Nat}{T1 T2 U:TypeId}{W w w0:ao}{a way:Int}{b cap fb i j jm t tb:Nat}{cb:Array Bool}{cs:List aq}{k':IntKind}{ps:List Pc}{r:List Cn}{v v' va:aq}{xo yo:Operand}{t0 t1 t2 t3:aq}{k0:Eng.KT}
section
open Eng Go.RowKit
def cnC (w s:Nat)(a b:aq):List Value:=[ad (w:Int),ad (s:Int),a,b]
abbrev cnE (c w s:Nat)(a b:aq):Ent:=.cells c (cnC w s a b) 344
theorem XV:kC ah 344 0=ax 0:=krx
theorem adC:kC ah 344 1=ax 1:=krx
theorem Ya:kC ah 344 2=ax 2:=krx
theorem aoC:kC ah 344 3=ax 3:=krx
def Jc (A:Nat->Prop)(w:ao):aq->Cn->Prop
|v,.leaf wt s=>∃b,v=af b 0∧A b∧(cnE b wt s (.pointer aw) (.pointer aw)).is w
|v,.node x y=>∃b va a,v=af b 0∧A b∧(cnE b (x.wt+y.wt) 0 va a).is w∧Jc A w va x∧Jc A w a y
theorem TM (h:M.le N){T:TypeId}(a:M.A b)(k:(Ent.cells b cs T).is M.w):(Ent.cells b cs T).is N.w:=by
 show N.w.heap[b]?=_;rw[h.has b a];exact k
theorem Jc.le {M N:Mem}(h:M.le N):∀{c:Cn} {v:aq},Jc M.A M.w v c->Jc N.A N.w v c
|.leaf wt s,v,⟨b,d,a,e⟩=>⟨b,d,h.A b a,TM h a e⟩
|.node x y,v,⟨b,va,f,d,a,e,g,i⟩=>⟨b,va,f,d,h.A b a,TM h a e,Jc.le h g,Jc.le h i⟩
theorem lJ (a:M.has W){T:TypeId}(c:M.A b)(k:(Ent.cells b cs T).is M.w):(Ent.cells b cs T).is W:=by
 show W.heap[b]?=_;rw[a b c];exact k
theorem Jc.ptr {c:Cn}(h:Jc A w v c):∃b,v=af b 0∧A b:=by
 cases c with
|leaf wt s=>obtain⟨b,a,d,_⟩:=h;exact⟨b,a,d⟩
|node x y=>obtain⟨b,_,_,a,d,_⟩:=h;exact⟨b,a,d⟩
theorem Jc.wt {M:Mem}{v:aq}{c:Cn}(h:Jc M.A M.w v c):∃b s va a,v=af b 0∧M.A b∧(cnE b c.wt s va a).is M.w:=by
 cases c with
|leaf wt s=>obtain⟨b,d,e,f⟩:=h;exact⟨b,s,_,_,d,e,f⟩
|node x y=>obtain⟨b,va,a,d,e,f,_⟩:=h;exact⟨b,0,va,a,d,e,f⟩
def okM (M:Mem)(x:Pc):Prop:=Jc M.A M.w x.1 x.2
theorem Pk (a b:Nat)(w:ao):Ret ah 353 #[ad (a:Int),ad (b:Int)] w (λv w'=>v=ad (cmpI a b)∧w=w'):=by
 refine aL λK c=>C9 ?_;unfold vZ nz;refine qE (LQ a w) (qE (LQ b w) ?_);unfold cmpI at c;simp only[rs];by_cases d:a < b
 ·simp only[show ai ((a:Int) < (b:Int))=av from atA om,i_t];rw[asU d] at c;exact c _ _ ⟨rfl,rfl⟩
 ·simp only[show ai ((a:Int) < (b:Int))=au from asZ om,i_f];rw[asT d] at c;by_cases e:b < a
  ·simp only[show ai ((b:Int) < (a:Int))=av from atA om,i_t];rw[asU e] at c;exact c _ _ ⟨rfl,rfl⟩
  ·simp only[show ai ((b:Int) < (a:Int))=au from asZ om,i_f];rw[asT e] at c;exact c _ _ ⟨rfl,rfl⟩
theorem JD {c:Cn}(a:M.has W)(h:Jc M.A M.w v c):Ret ah 345 #[v] W (λr w'=>r=ad (c.wt:Int)∧W=w'):=by
 refine aL λK d=>Gi ?_;unfold Cj nz;obtain⟨b,s,va,e,rfl,f,g⟩:=h.wt;rw[bD,aO XV];refine aC (aB bZ (aG (T:=344) (cs:=cnC c.wt s va e) (lJ a f g) (i:=0) rfl)) |>.mpr ?_;exact d _ _ ⟨rfl,rfl⟩
theorem EK:bY ah 345=true:=krx
theorem Nr:bY ah 352=true:=krx
theorem apV:eP ah 359=true:=krx
def wtF:Value:=.func (.func 345) #[] #[]
abbrev fcE (b:Nat):Ent:=.cells b [wtF] 359
theorem ZO {x y:Pc}(b:M.has W)(e:M.A fb)(f:(fcE fb).is M.w)(g:okM M x)(j:okM M y) :
  Ret ah 352 #[x.1,y.1,af fb 0] W (λv w'=>v=ad (cmpI (pw x) (pw y))∧Below W.heap.size W w'):=by
 refine aL λK k=>jM ?_;unfold fB nz;have d:∀{W:ao},M.has W->(aK 359 (af fb 0)).run ah W=.ok (.value wtF) W:=λb=>aB apV (aG (T:=359) (cs:=[wtF]) (lJ b e f) (i:=0) rfl);have c:=Own.start W;refine cQ (λV=>Own W V []) c.drew ?_;have a:∀{V:ao},Own W V []->M.has V:=λh=>Mem.KR b h.below;refine iL _ (λV h=>d (a h)) ?_;refine Zg EK (ad (pw x:Int)) (λV h=>(JD (a h) g).mono λv w' r=>⟨r.1,by rw[<-r.2];exact h⟩) ?_;refine iL _ (λV h=>d (a h)) ?_;refine Zg EK (ad (pw y:Int)) (λV h=>(JD (a h) j).mono λv w' r=>⟨r.1,by rw[<-r.2];exact h⟩) ?_;refine iH (ad (cmpI (pw x) (pw y))) (λV h=>(Pk (pw x) (pw y) V).mono λv w' r=>⟨r.1,by rw[<-r.2];exact h⟩) ?_;intro V l;exact k _ _ ⟨rfl,l.done⟩
theorem anH (c:M.A fb)(d:(fcE fb).is M.w):CmpOk M (.func (.func 352) #[] #[af fb 0]) (okM M) where
 ptr:=λx a=>by
  obtain⟨b,e,_⟩:=Jc.ptr a;rw[e];exact⟨rfl,rfl⟩
 run:=⟨_,_,_,rfl,Nr,λW x y f a g=>ZO f c d a g⟩
theorem Nj:elB ah 342 1 8=true:=krx
theorem ajK:eP ah 341=true:=krx
section
variable {w:ao}{PK:PKT}{K:VWP}{S:Nat->Prop}{w0:ao}{L T:List Ent}
theorem WZ (h:∀x∈ps,okM M x):∀u∈pcW ps,u.oneCell'=true:=by
 intro u hu;obtain⟨x,a,rfl⟩:=auH.1 hu;obtain⟨b,c,_⟩:=Jc.ptr (h x a);rw[c];rfl
theorem Rx (a b:List Pc):pcW (a++b)=pcW a++pcW b:=by simp[pcW]
theorem ahT {m:Nat}(o:cH S w0 w L)(p:0 < m)(t:m<=1000000000)
  (k:∀b c w',m<=c->cH S w0 w' (.urow 342 1 (bR b 0 0 c) 0 []::L)->K (bR b 0 m c) w') :
  DoX ah (mB .append #[341,3] 341 cb #[.slice aw 0 0,ad (m:Int)]) w PK K:=by
 obtain⟨i,z,hi,q,r,f,n⟩:=jX Nj;have a:(Builtin.firstCells i.size 0 (.slice aw 0 0)).run ah w.drew=.ok ([]:List aq).toArray w.drew:=by
  simp[Builtin.firstCells]
 have g:=grownCap_ge w (0+m) 0 342;have hle:=grownCap_le_maxLen w (0+m) 0 342 (by simp only[maxLen];omega);have s:=Lib.run_append_grow_zeros (P:=ah) w 341 3 341 342 i z .i64 .i64 avX auQ hi q aw 0 0 [] a m p om om om (by
   rw[f];omega) (by rw[f];exact growslice_fits om om)
 have h:∀x,(Builtin.zeroCells z.cells x).toList.length=x*1:=by intro x;simp[Builtin.zeroCells,n]
 obtain⟨d,j⟩:∃d,d=(Builtin.zeroCells z.cells m).toList++(Builtin.zeroCells z.cells (grownCap w (0+m) 0 342 - (0+m))).toList:=⟨_,rfl⟩;have hlen:d.length=grownCap w (0+m) 0 342:=by
  rw[j,asY,h,h];omega
 have key:=(o.drew).alloc d 342;have e:d.toArray=([]:List aq).toArray++Builtin.zeroCells z.cells m++Builtin.zeroCells z.cells (grownCap w (0+m) 0 342 - (0+m)):=by
  rw[j];simp
 have l:(mB .append #[341,3] 341 cb #[.slice aw 0 0,ad (m:Int)]).run ah w=.ok (.value (bR w.heap.size 0 (0+m) (grownCap w (0+m) 0 342))) (w.drew.alloc (.cells d.toArray 342)):=by
  rw[e];simp[mB,builtin,s]
 have hu:=key.toU 1 0 (grownCap w (0+m) 0 342) om om (by simp only[maxLen] at hle;exact hle);rw[awR,awQ] at hu;rw[atK] at l hu g;exact kW l (k _ _ _ g hu)
theorem aoE:(Tryz.prog.info? 341).map (·.size)=ax 1:=krx
theorem alT {m:Nat}(d:cH S w0 w L)(g:0 < m)(h:m<=1000000000)(k:∀v W,cH S w0 W (.urow 342 1 v 0 []::L)->K v W):dZ ah 360 #[.slice aw 0 0,ad (m:Int)] w PK K:=by
 refine fY (eR (k0:=wM λv W=>cH S w0 W (.urow 342 1 v 0 []::L)) ?_) (λe W ⟨v,he,d⟩=>by subst he;exact k v W d);unfold cM nz;refine join λJ i=>?_;simp only[rs,show ai ((m:Int) < 0)=au from asZ om,i_f];refine i _ _ λ_=>?_;unfold cI nz;refine join λl f=>?_;rw[TX avX,bO avX];simp only[rs];have j:IntKind.i64.wrap (((0:Nat):Int) - ((0:Nat):Int))=0:=aA om om;rw[j];rw[aA om om];simp only[show ai ((0:Int) < (m:Int) - 0)=av from atA om,i_t];rw[TX avX,Int.sub_zero];have es:∀{PK:PKT} {K:VWP},DoX ah (cT 341 (.slice aw 0 0) aw (ax (ad ((0:Nat):Int))) aw) w PK K=K (.slice aw 0 0) w:=aC krx;rw[es];refine ahT d g h λb c w2 n d=>?_;rw[bO avX];refine aC (iW avX GR om om) |>.mpr ?_;refine f _ _ λ_=>?_;simp only[cJ,gd,nz];have e:wF (ax ⟨b,0,aw⟩) 0 c 1=ax ⟨b,0,aw⟩:=Hz (a:=⟨b,0,aw⟩);rw[e];exact vB d
theorem aaK {g:Nat}{h:aq}{a c:List Pc}(hm:T[jm]?=ax (.mem M))(d:cH S w0 w (.cells g [va,h] 341::T))(I:SlA M.A M.w va 1 a.length (pcW a))(L:SlA M.A M.w h 1 c.length (pcW c))
  (B:∀x∈a,okM M x) (C:∀x∈c,okM M x) (Q:0 < a.length) (j:a.length<=100000000) (q:c.length<=100000000)
  (k:∀v W,cH S w0 W (pcE v (a++c)::.cells g [va,h] 341::T)->K v W) :
  dZ ah 350 #[bR g 0 2 2] w PK K:=by
 refine fY (eK (k0:=wM λv W=>cH S w0 W (pcE v (a++c)::.cells g [va,h] 341::T)) ?_) (λe W ⟨v,he,d⟩=>by subst he;exact k v W d);unfold cG nz;rw[bO aAV];have D:∀{W:ao} {e:Ent},cH S w0 W (e::T)->M.has W:=λd=>d.hasM (jm+1) (by rw[auT];exact hm);have E:∀{W:ao} {e e':Ent},cH S w0 W (e::e'::T)->M.has W:=λd=>d.hasM (jm+2) (by rw[auT,auT];exact hm);have r:∀{i:Nat} (W:ao),i < 2->(mIA 373 (bR g 0 2 2) (ad (i:Int))).run ah W=.ok (.value (af g i)) W:=λ{i} W hi=>by
  have:=dP (P:=ah) (T:=373) (b:=g) (off:=0) (cap:=2) (n:=2) (k:=.i64) (i:=(i:Int)) (w:=W) aAV aoE om om
  rwa [atC,atY,atK] at this
 have s:∀{i:Nat} {W:ao},i < 2->M.has W->Sl W ([va,h].getD i undef) 1 ([a,c].getD i []).length (pcW ([a,c].getD i [])):=λ{i W} hi F=>by
  rcases (by omega:i=0∨i=1) with rfl|rfl
  ·exact I.now F
  ·exact L.now F
 have t:∀{i:Nat},i < 2->[va,h][i]?=ax ([va,h].getD i undef):=λ{i} hi=>by
  rcases (by omega:i=0∨i=1) with rfl|rfl<;>rfl
 refine loop (λvs W=>∃i sz:Nat,vs=[ad (sz:Int),ad (i:Int)]∧i<=2∧sz=(([a,c].take i).flatten).length∧cH S w0 W (.cells g [va,h] 341::T)) (λvs _=>2 - n1 vs) ⟨0,0,rfl,om,rfl,d⟩ ?_;clear d;rintro vs N ⟨i,sz,rfl,hi,l,d⟩ _;simp only[cE,gd,rs,nz];by_cases y:(i:Int) < ((2:Nat):Int)
 ·simp only[y,asX,i_t];have f:i < 2:=om
  refine join λJ O=>?_;refine aC (r N f) |>.mpr (aC (aB ajK (d.cell 0 rfl i (t f))) |>.mpr ?_);rw[aZ avX (s f (D d))];have hle:([a,c].getD i []).length<=100000000:=by
   rcases (by omega:i=0∨i=1) with rfl|rfl
   ·exact j
   ·exact q
  have G:sz<=100000000:=by
   rw[l];rcases (by omega:i=0∨i=1) with rfl|rfl
   ·simp
   ·simpa using j
  have o:sz+([a,c].getD i []).length=(([a,c].take (i+1)).flatten).length:=by
   rw[l];rcases (by omega:i=0∨i=1) with rfl|rfl<;>simp
  simp only[rs];rw[aA om om];simp only[show ai ((sz:Int)+((([a,c].getD i []).length:Nat):Int) < 0)=au from asZ om,i_f];refine O _ _ λ_=>?_;simp only[cC,gd,rs,nz];rw[aA om om];exact aS ⟨i+1,sz+([a,c].getD i []).length,by congr 2,om,o,d⟩ (by simp[n1,RowKit.intOf];omega)
 ·simp only[y,asW,i_f];have p:i=2:=om
  subst p;have l:sz=a.length+c.length:=by rw[l];simp
  refine alT d om om λv0 w2 d=>?_;rw[bO aAV];refine loop (λvs W=>∃(i:Nat) (v:aq),vs=[v,ad (i:Int)]∧i<=2∧cH S w0 W (pcE v (([a,c].take i).flatten)::.cells g [va,h] 341::T)) (λvs _=>2 - n1 vs) ⟨0,v0,rfl,om,d⟩ ?_;clear d;rintro vs w3 ⟨i,v,rfl,hi,d⟩ _;simp only[cD,gd,rs,nz];by_cases m:(i:Int) < ((2:Nat):Int)
  ·simp only[m,asX,i_t];have f:i < 2:=om
   refine aC (r w3 f) |>.mpr (aC (aB ajK (d.cell 1 rfl i (t f))) |>.mpr ?_);have hle:([a,c].getD i []).length<=100000000:=by
    rcases (by omega:i=0∨i=1) with rfl|rfl
    ·exact j
    ·exact q
   have H:(([a,c].take i).flatten).length<=100000000:=by
    rcases (by omega:i=0∨i=1) with rfl|rfl
    ·simp
    ·simpa using j
   have z:∀u∈pcW ([a,c].getD i []),u.oneCell'=true:=by
    rcases (by omega:i=0∨i=1) with rfl|rfl
    ·exact WZ B
    ·exact WZ C
   have o:([a,c].take (i+1)).flatten=([a,c].take i).flatten++[a,c].getD i []:=by
    rcases (by omega:i=0∨i=1) with rfl|rfl<;>simp
   refine bL 0 avX Nj dc d rfl (s f (E d)) z om om λv' R d=>?_
   try simp only[rs]
   rw[aA om om];refine aS ⟨i+1,v',by congr 2,om,?_⟩ (by simp[n1,RowKit.intOf];omega);rw[o];unfold pcE;rw[Rx,asY];exact d
  ·simp only[m,asW,i_f];have p:i=2:=om
   subst p;have e:([a,c].take 2).flatten=a++c:=sm
   rw[e] at d;exact vB d
end
theorem okM.le {M N:Mem}(h:M.le N){x:Pc}(k:okM M x):okM N x:=Jc.le h k
theorem KU (c d:List Pc)(va e:aq)(M:Mem)(w:ao)(u:M.has w)(z:SlA M.A M.w va 1 c.length (pcW c))(B:SlA M.A M.w e 1 d.length (pcW d))(i:∀x∈c,okM M x)(j:∀x∈d,okM M x)(C:0 < c.length)(D:c.length<=10000000)(E:d.length<=10000000)
  (n:va.oneCell'=av) (o:e.oneCell'=av) :
  jJ ah 327 #[va,e] M w (λr N=>∃qs:List Pc,qs.Perm (c++d)∧Srt.srt pw qs∧(∀x∈qs,okM N x)∧r.oneCell'=av∧SlA N.A N.w r 1 qs.length (pcW qs)):=by
 refine aU u λK F=>IG ?_;unfold Gj nz;have a:cH M.A w w [.mem M]:=cH.memS u;refine⟨kN ?_⟩;unfold fV nz;refine bI (λb=>af b 0) [wtF] 359 (λ_=>by kernel_rfl) a λfb P a=>?_;have p:=a.at_ 0 rfl;obtain⟨N1,g1,q,k,a⟩:=cH.freeze (L:=[.mem M]) a 0 rfl;have s:N1.A fb:=k fb rfl;have l:(fcE fb).is N1.w:=by rw[q];exact p
 have G:∀W:ao,(aT 373 2 #[(0,va),(1,e)]).run ah W=.ok (.value (bR W.heap.size 0 2 2)) (W.alloc (.cells [va,e].toArray 341)):=λW=>by
  cases va<;>first|(cases n;done)|(cases e<;>first|(cases o;done)|kernel_rfl)
 refine bI (λb=>bR b 0 2 2) [va,e] 341 G a λy w2 a=>?_;refine aaK (jm:=0) rfl a (z.le g1) (B.le g1) (λx f=>(i x f).le g1) (λx f=>(j x f).le g1) C om om λv w3 a=>?_;have m:∀x∈c++d,okM N1 x:=λx f=>by
  rcases auF.1 f with h|h
  ·exact (i x h).le g1
  ·exact (j x h).le g1
 have hlen:(c++d).length=c.length+d.length:=asY;obtain⟨g,cap,rfl⟩:=qL (a.at_ 0 rfl) om;rw[AQ];refine agK (jm:=1) (anH s l) rfl om rfl a m λH qs hp I a=>?_;have J:=hp.length_eq;have a:cH M.A w H (.urow 342 1 (bR g 0 (c++d).length cap) qs.length (pcW qs)::[.cells y [va,e] 341,.mem N1]):=a;obtain⟨O,g2,t,a⟩:=cH.bV (L:=[.cells y [va,e] 341,.mem N1]) a 1 rfl;exact F _ _ O _ 1 a rfl (g1.trans g2) ⟨qs,hp,I,λx f=>(m x (hp.mem_iff.1 f)).le g2,rfl,t⟩
theorem pcAt (a:SlA M.A M.w v 1 ps.length (pcW ps))(hi:i < ps.length) :
  ∃p,(∀W,(mIA 341 v (ad (i:Int))).run ah W=.ok (.value (.pointer (ax p))) W)∧∀W,M.has W->(aK 342 (.pointer (ax p))).run ah W=.ok (.value ps[i].1) W:=by
 obtain⟨b,off,cap,rfl,_⟩:=bU a.1 om;refine⟨⟨b,off+i,aw⟩,λW=>?_,λW e=>?_⟩
 ·have:=dP (P:=ah) (T:=341) (b:=b) (off:=off) (cap:=cap) (n:=ps.length) (k:=.i64) (i:=(i:Int)) (w:=W) avX GR om om;rw[atC,atY] at this;exact this
 ·obtain⟨g,c,d,he,f⟩:=bU (a.now e) om;cases he;refine aB PA (f i _ ?_);rw[Ye hi,atD,atI hi];rfl
theorem Uc (ps:List Pc)(v:aq)(M:Mem)(w:ao)(l:M.has w)(G:SlA M.A M.w v 1 ps.length (pcW ps))(m:∀x∈ps,okM M x)(hl:ps.length<=1000000)(n:∀x∈ps,pw x<=1000000000000000) :
  jJ ah 328 #[v] M w (λr N=>∃qs:List Pc,qs.map (·.2)=Cn.kO (ps.map (·.2))∧(∀x∈qs,okM N x)∧r.oneCell'=av∧SlA N.A N.w r 1 qs.length (pcW qs)):=by
 refine aU l λK hK=>Kp ?_;unfold Hv nz;have a:cH M.A w w [.mem M]:=cH.memS l;have a:cH M.A w w [.urow 342 1 cO 0 [],.mem M]:=cH.nilU (L:=[.mem M]) a _ _;refine loop (λvs W=>∃(i:Nat) (v':aq) (qs:List Pc) (N:Mem),vs=[v',ad (i:Int)]∧i<=ps.length+1∧M.le N∧qs.length=i / 2∧i % 2=0∧qs.map (·.2)++Cn.kO ((ps.drop i).map (·.2))=Cn.kO (ps.map (·.2))∧(∀x∈qs,okM N x)∧cH M.A w W [pcE v' qs,.mem N]) (λvs _=>ps.length+2 - n1 vs) ⟨0,cO,[],M,rfl,om,M.le_refl,rfl,rfl,rfl,(λx J=>by cases J),a⟩ ?_;clear a;rintro vs w1 ⟨i,v',qs,N,rfl,hi,hle,b7,b8,O,o,a⟩ _;simp only[DK,gd,rs,iN,bnx,lnx];rw[aA om om,aZ avX (G.now (Mem.DM hle (a.hasM 1 rfl)))];simp only[rs];by_cases p:(i:Int)+1 < (ps.length:Int)
 ·simp only[p,asX,i_t];have b9:i+1 < ps.length:=om
  have c0:=λ{j:Nat} (hj:j < ps.length)=>pcAt G hj;have c:∀{V:ao},cH M.A w V [pcE v' qs,.mem N]->M.has V:=λh=>Mem.DM hle (h.hasM 1 rfl);obtain⟨p0,q,d⟩:=pcAt G (i:=i) om;obtain⟨p1,s,e⟩:=pcAt G (i:=i+1) om;have f:=m _ (atP (show i < ps.length by omega));have g:=m _ (atP (show i+1 < ps.length by omega));have z:=n _ (atP (show i < ps.length by omega));have B:=n _ (atP (show i+1 < ps.length by omega));have k:ps.drop i=ps[i]::ps[i+1]::ps.drop (i+2):=by
   rw[auL (show i < ps.length by omega),auL (show i+1 < ps.length by omega)]
  generalize ps[i]=x at d f z k;generalize ps[i+1]=y at e g B k;have C:=f.le hle;have D:=g.le hle;obtain⟨H,s0,P,Q,R,S,U⟩:=Jc.wt f;obtain⟨I,s1,X,Y,Z,a1,a6⟩:=Jc.wt g;have l0:∀{V:ao},M.has V->(aK 3 (af H (0+0))).run ah V=.ok (.value (ad (x.2.wt:Int))) V:=λl=>aB bZ (aG (T:=344) (cs:=cnC x.2.wt s0 P Q) (lJ l S U) (i:=0) rfl);have l1:∀{V:ao},M.has V->(aK 3 (af I (0+0))).run ah V=.ok (.value (ad (y.2.wt:Int))) V:=λl=>aB bZ (aG (T:=344) (cs:=cnC y.2.wt s1 X Y) (lJ l a1 a6) (i:=0) rfl);refine cQ (λV=>cH M.A w V [pcE v' qs,.mem N]) a.drew ?_;refine gr _ q (iL _ (λV h=>d V (c h)) ?_);rw[R];refine gr _ (λ_=>cR) (gr _ (λ_=>bC XV) (iL _ (λV h=>l0 (c h)) ?_));refine nF ?_;rw[aA om om,show (i:Int)+1=((i+1:Nat):Int) by omega];refine gr _ s (iL _ (λV h=>e V (c h)) ?_);rw[Z];refine gr _ (λ_=>cR) (gr _ (λ_=>bC XV) (iL _ (λV h=>l1 (c h)) ?_));have b5:x.2.wt<=1000000000000000:=z;have b6:y.2.wt<=1000000000000000:=B;refine nF ?_;rw[aA om om,show (x.2.wt:Int)+(y.2.wt:Int)=((x.2.wt+y.2.wt:Nat):Int) by omega];refine gr _ q (iL _ (λV h=>d V (c h)) ?_);refine nF ?_;rw[aA om om,show (i:Int)+1=((i+1:Nat):Int) by omega];refine gr _ s (iL _ (λV h=>e V (c h)) ?_);rw[R,Z];refine gr (.agg (cnC (x.2.wt+y.2.wt) 0 (af H 0) (af I 0)).toArray) (λ_=>by kernel_rfl) ?_;intro w2 a;refine bI (λb=>af b 0) (cnC (x.2.wt+y.2.wt) 0 (af H 0) (af I 0)) 344 (λ_=>by kernel_rfl) a λE w3 a=>?_;have a7:=a.at_ 0 rfl;obtain⟨N1,g1,a8,F,a⟩:=cH.freeze (L:=[pcE v' qs,.mem N]) a 1 rfl;have hz:okM N1 (af E 0,.node x.2 y.2):=by
   refine⟨E,af H 0,af I 0,rfl,F E rfl,by rw[a8];exact a7,?_,?_⟩
   ·have:=C.le g1;unfold okM at this;rw[R] at this;exact this
   ·have:=D.le g1;unfold okM at this;rw[Z] at this;exact this
  have a:cH M.A w w3 [pcE v' qs,.mem N1]:=a;refine bI (λb=>bR b 0 1 1) [af E 0] 342 (λ_=>by kernel_rfl) a λsb w4 a=>?_;refine bL 1 avX Nj dc a rfl (gS (a.at_ 0 rfl) dc rfl) (λu hu=>by rw[auB.1 hu];rfl) om om λv2 w5 a=>?_
  try simp only[rs]
  rw[aA om om];have a:cH M.A w w5 [pcE v2 (qs++[(af E 0,.node x.2 y.2)]),.mem N1]:=by
   unfold pcE;rw[Rx,asY];exact a.tail
  refine aS ⟨i+2,v2,_,N1,rfl,om,hle.trans g1,by rw[asY,avA];omega,om,?_,λu hu=>?_,a⟩ (by simp[n1,RowKit.intOf];omega)
  ·rw[<-O,k,auJ,atJ];rfl
  ·rcases auF.1 hu with h|h
   ·exact (o u h).le g1
   ·rw[auB.1 h];exact hz
 ·simp only[p,asW,i_f];have b2:=dO (a.at_ 0 rfl);have b3:Cn.kO ((ps.drop i).map (·.2))=[]:=by
   have hd:(ps.drop i).length<=1:=by rw[atG];omega
   rcases hp:ps.drop i with _|⟨x,_|⟨y,t⟩⟩
   ·rfl
   ·rfl
   ·rw[hp] at hd;simp at hd
  rw[b3,atX] at O;obtain⟨N2,g2,b4,a⟩:=cH.bV (L:=[.mem N]) a 0 rfl;exact hK _ _ N2 _ 0 a rfl (hle.trans g2) ⟨qs,O,λx J=>(o x J).le g2,b2,b4⟩
end
section
open Eng
def PU(w)(K:KT):=nz f287 1 [] [] [] (zg [] []) w K
theorem PZ:PU w k0->Calls ah 287 #[] w k0:=cw func287
def uD(t0 t1 t2 w)(K:KT):=nz f341 3 [] [] [(2,22)] (zg [0,1,2] [t0,t1,t2]) w K
def zJ(t0 t1 t2 w)(K:KT):=nz f341 1 [] [(4,[],λs v j w f=>uD (s 0) (s 1) (s 2) w K)] [] (zg [0,1,2] [t0,t1,t2]) w K
theorem EC:zJ t0 t1 t2 w k0->Calls ah 341 #[t0,t1,t2] w k0:=cz [(2,[])] [] func341
def uI(w)(K:KT):=nz f317 31 [] [] [] (zg [] []) w K
def tT(t0 t1 t3 t9 t38 w)(N1:JT)(K:KT):=nz f317 1899 [N1] [nh 9 [38]] [] (zg [0,1,3,9,38] [t0,t1,t3,t9,t38]) w K
def uJ(t0 t1 t2 t3 t37 t38 w)(N1:JT)(K:KT):=nz f317 43 [N1] [nh 9 [38],(16,[9],λs v j w f=>tT (s 0) (s 1) (s 3) (vg v 0) (s 38) w (f 0) K),(24,[],λs v j w f=>uI w K)] [] (zg [0,1,2,3,37,38] [t0,t1,t2,t3,t37,t38]) w K
def zT(t0 t1 t2 t3 w)(K:KT):=nz f317 1 [] [(9,[38],λs v j w f=>uJ (s 0) (s 1) (s 2) (s 3) (s 37) (vg v 0) w (f 0) K)] [] (zg [0,1,2,3] [t0,t1,t2,t3]) w K
theorem Ea:zT t0 t1 t2 t3 w k0->Calls ah 317 #[t0,t1,t2,t3] w k0:=cz [(8,[9]),(12,[])] [(4,[38])] func317
def zY(t0 t1 t2 w)(K:KT):=nz f288 1 [] [] [] (zg [0,1,2] [t0,t1,t2]) w K
theorem Ec:zY t0 t1 t2 w k0->Calls ah 288 #[t0,t1,t2] w k0:=cw func288
def tW(t0 w)(K:KT):=nz f289 1 [] [] [] (zg [0] [t0]) w K
theorem B8:tW t0 w k0->Calls ah 289 #[t0] w k0:=cw func289
def tC(t0 t1 w)(K:KT):=nz f290 7 [] [] [] (zg [0,1] [t0,t1]) w K
def zE(t0 t1 w)(K:KT):=nz f290 1 [] [(6,[],λs v j w f=>tC (s 0) (s 1) w K)] [] (zg [0,1] [t0,t1]) w K
theorem Ei:zE t0 t1 w k0->Calls ah 290 #[t0,t1] w k0:=cz [(3,[])] [] func290
def wX(t0 w)(K:KT):=nz f291 1 [] [] [] (zg [0] [t0]) w K
theorem Dm:wX t0 w k0->Calls ah 291 #[t0] w k0:=cw func291
def kH(t0 w)(K:KT):=nz f318 1 [] [] [] (zg [0] [t0]) w K
theorem rY:kH t0 w k0->Calls ah 318 #[t0] w k0:=cw func318
end
section
open Eng Go.RowKit
theorem zh:∀(t:List Nat) (x:Nat),t.length < 8->bu (t++[x]) 0=bu t 0+x*2 ^ t.length
|[],x,_=>by simp[bu]
|[a],x,_=>by simp[bu];omega
|[a,b],x,_=>by simp[bu];omega
|[a,b,c],x,_=>by simp[bu];omega
|[a,b,c,d],x,_=>by simp[bu];omega
|[a,b,c,d,e],x,_=>by simp[bu];omega
|[a,b,c,d,e,f],x,_=>by simp[bu];omega
|[a,b,c,d,e,f,g],x,_=>by simp[bu];omega
|_::_::_::_::_::_::_::_::_,_,h=>by simp at h;omega
theorem zi:∀(t:List Nat),br t->t.length < 8->bu t 0 < 2 ^ t.length
|[],_,_=>by simp[bu]
|[a],h,_=>by have:=h a sm;simp[bu];omega
|[a,b],h,_=>by have:=h a sm;have:=h b sm;simp[bu];omega
|[a,b,c],h,_=>by have:=h a sm;have:=h b sm;have:=h c sm;simp[bu];omega
|[a,b,c,d],h,_=>by have:=h a sm;have:=h b sm;have:=h c sm;have:=h d sm;simp[bu];omega
|[a,b,c,d,e],h,_=>by have:=h a sm;have:=h b sm;have:=h c sm;have:=h d sm;have:=h e sm;simp[bu];omega
|[a,b,c,d,e,f],h,_=>by have:=h a sm;have:=h b sm;have:=h c sm;have:=h d sm;have:=h e sm;have:=h f sm;simp[bu];omega
|[a,b,c,d,e,f,g],h,_=>by have:=h a sm;have:=h b sm;have:=h c sm;have:=h d sm;have:=h e sm;have:=h f sm;have:=h g sm;simp[bu];omega
|_::_::_::_::_::_::_::_::_,_,h=>by simp at h;omega
theorem xt (h:br l){x:Nat}(p:x < 2):∃P c,c < 2 ^ (l.length % 8)∧(if l.length % 8=0 then az l++[0] else az l)=P++[UInt8.ofNat c]∧az (l++[x])=P++[UInt8.ofNat (c+x*2 ^ (l.length % 8))]:=by
 have f:l=l.take (8*(l.length / 8))++l.drop (8*(l.length / 8)):=(auR ..).symm;have e:(l.take (8*(l.length / 8))).length=8*(l.length / 8):=by rw[atF];omega
 have j:(l.drop (8*(l.length / 8))).length=l.length % 8:=by rw[atG];omega
 have d:br (l.drop (8*(l.length / 8))):=λb o=>h b (awZ o);generalize l.take (8*(l.length / 8))=a at f e;generalize l.drop (8*(l.length / 8))=t at f j d;generalize l.length / 8=k at e;rw[<-j,f,atJ,mq e,mq e];have m:t.length < 8:=om
 have g:=zi t d m;have n:az (t++[x])=[UInt8.ofNat (bu t 0+x*2 ^ t.length)]:=by
  rw[<-zh t x m];unfold az;rw[asY,avA,show (t.length+1+7) / 8=1 by omega];rfl
 by_cases i:t.length=0
 ·have:t=[]:=awO.1 i;subst this;refine⟨az a,0,dc,?_,?_⟩
  ·rw[asU i];simp[az]
  ·rw[n];simp[bu]
 ·refine⟨az a,bu t 0,g,?_,by rw[n]⟩;rw[asT i]
  congr 1
  unfold az;rw[show (t.length+7) / 8=1 by omega];rfl
theorem wq (l:List Nat):(az l).length<=l.length:=by rw[me];omega
def wrC (way:Int)(n:Nat)(v:aq):List Value:=[ad way,ad ((n % 8:Nat):Int),v]
abbrev wrE (b:Nat)(way:Int)(n:Nat)(v:aq):Ent:=.cells b (wrC way n v) 326
abbrev Wr (b:Nat)(way:Int)(l:List Nat)(v:aq)(T:List Ent):List Ent:=wrE b way l.length v::kQ v (az l)::T
theorem acP:kC ah 326 0=ax 0:=krx
theorem VO:kC ah 326 1=ax 2:=krx
section
variable {W:ao}{b n:Nat}{way:Int}{v:aq}
theorem ahY (h:(wrE b way n v).is W):(aK 3 (af b 0)).run ah W=.ok (.value (ad way)) W:=aB bZ (aG (T:=326) (cs:=wrC way n v) h (i:=0) rfl)
theorem agI (h:(wrE b way n v).is W):(aK 3 (af b (0+1))).run ah W=.ok (.value (ad ((n % 8:Nat):Int))) W:=aB bZ (aG (T:=326) (cs:=wrC way n v) h (i:=1) rfl)
theorem Vx (h:(wrE b way n v).is W):(aK 53 (af b (0+2))).run ah W=.ok (.value v) W:=aB GK (aG (T:=326) (cs:=wrC way n v) h (i:=2) rfl)
theorem Uh (h:(wrE b way n v).is W):Ret ah 349 #[af b 0,ad 1] W (λv w'=>v=ad ((n % 8:Nat):Int)∧Below W.heap.size W w'):=by
 refine aL λK a=>rV ?_;unfold oX nz;simp only[rs,asX,bD];rw[wU];refine aC (agI h) |>.mpr ?_;exact a _ _ ⟨rfl,(Own.start W).done⟩
theorem U4 (h:(wrE b way n v).is W)(hw:way=0∨way=1):Ret ah 340 #[af b 0,ad 1] W (λv w'=>v=.bool au∧Below W.heap.size W w'):=by
 refine aL λK a=>qR ?_;unfold oZ nz;have r:=ahY h;rw[bD,LH];refine aC r |>.mpr ?_;rcases hw with rfl|rfl
 ·simp only[rs,ne_eq,not_true,asW,nE];exact a _ _ ⟨rfl,(Own.start W).done⟩
 ·simp only[rs,show ai ((1:Int)≠0)=av by decide,bD];rw[LH];refine aC r |>.mpr ?_;simp only[rs,ne_eq,not_true,asW];exact a _ _ ⟨rfl,(Own.start W).done⟩
end
theorem aiK:∀a:Fin 256,∀k:Fin 8,a.val < 2 ^ k.val->bOr .u8 (a.val:Int) ((2 ^ k.val:Nat):Int)=((a.val+2 ^ k.val:Nat):Int):=by decide +kernel
theorem asQ:∀a:Fin 256,bOr .u8 (a.val:Int) 0=(a.val:Int):=by decide +kernel
theorem or8 {c x k:Nat}(a:k < 8)(b:c < 2 ^ k)(d:x < 2):bOr .u8 (c:Int) ((x*2 ^ k:Nat):Int)=((c+x*2 ^ k:Nat):Int):=by
 have hp:2 ^ k<=2 ^ 7:=avP dc om;have e:(2:Nat) ^ 7=128:=rfl;rcases (by omega:x=0∨x=1) with rfl|rfl
 ·rw[awR];exact asQ ⟨c,om⟩
 ·rw[ayU];exact aiK ⟨c,om⟩ ⟨k,a⟩ b
theorem NO :DoX ah (mEq .eql 284 xo yo (af b 0) (.pointer aw)) w PK K=K (.bool au) w:=aC krx
theorem aeX :DoX ah (mEq .neq 284 xo yo (af b 0) (.pointer aw)) w PK K=K (.bool av) w:=aC krx
section
variable {w:ao}{PK:PKT}{K:VWP}{S:Nat->Prop}{w0:ao}{L T:List Ent}
theorem KH {off:Nat}:DoX ah (mFA 326 (af b off) 0) w PK K=K (af b off) w:=aO acP
theorem OB {off:Nat}:DoX ah (mFA 326 (af b off) 1) w PK K=K (af b (off+2)) w:=aO VO
theorem wr_v (a:cH S w0 w L)(j:Nat){n:Nat}(hi:L[j]?=ax (wrE b way n v)):DoX ah (aK 53 (af b (0+2))) w PK K=K v w:=aR GK (a.cell j hi 2 rfl)
theorem wr_u (a:cH S w0 w L)(j:Nat){n:Nat}(hi:L[j]?=ax (wrE b way n v)):DoX ah (aK 3 (af b (0+1))) w PK K=K (ad ((n % 8:Nat):Int)) w:=aR bZ (a.cell j hi 1 rfl)
theorem Yb (a:cH S w0 w T)(k:∀b W,cH S w0 W (Wr b 0 [] cO T)->K (af b 0) W):dZ ah 287 #[] w PK K:=by
 refine fY (PZ (k0:=wM λv W=>∃b,v=af b 0∧cH S w0 W (Wr b 0 [] cO T)) ?_) (λe W ⟨v,he,b,c,a⟩=>by subst he;subst c;exact k b W a);unfold PU nz;have e:∀W:ao,(aW 326 #[]).run ah W=.ok (.value (.agg (wrC 0 0 cO).toArray)) W:=λW=>by kernel_rfl
 refine aC (e w) |>.mpr ?_;have a:=a.nilU 5 1;refine bI (λb=>af b 0) (wrC 0 0 cO) 326 (λ_=>by kernel_rfl) a λb d a=>?_;exact vB ⟨b,rfl,a⟩
theorem ajU {x:Nat}(a:cH S w0 w (Wr b way l v T))(q:br l)(y:x < 2)(V:l.length<=100000000000)
  (k:∀v' W,cH S w0 W (Wr b way (l++[x]) v' T)->K (.tuple #[]) W):dZ ah 341 #[af b 0,ad (x:Int),ad 1] w PK K:=by
 refine fY (EC (k0:=wM λv W=>v=.tuple #[]∧∃v',cH S w0 W (Wr b way (l++[x]) v' T)) ?_) (λe W ⟨v,he,F,v',a⟩=>by subst he;subst F;exact k v' W a);unfold zJ nz;obtain⟨P,c,G,f,z⟩:=xt q y;have H:=wq l;have I:2 ^ (l.length % 8)<=2 ^ 7:=avP dc om;have X:(2:Nat) ^ 7=128:=rfl;have L:x*2 ^ (l.length % 8)<=128:=by
  have:x*2 ^ (l.length % 8)<=1*2 ^ (l.length % 8):=auY _ om;omega
 have M:P.length<=100000000000:=by
  have:=congrArg List.length f;rw[asY,avA] at this;have Y:(if l.length % 8=0 then az l++[0] else az l).length<=(az l).length+1:=by
   split
   ·simp
   ·omega
  omega
 refine join λJ N=>?_;have fin:∀(W:ao) (v':aq),cH S w0 W (wrE b way l.length v'::kQ v' (P++[UInt8.ofNat c])::T)->J [] W:=by
  intro W v' a;refine N _ _ λ_=>?_;unfold uD nz;have hlen:(P++[UInt8.ofNat c]).length=P.length+1:=sm
  obtain⟨g,cap,rfl⟩:=qL (a.at_ 1 rfl) om;rw[hlen] at a;refine cQ (λW=>cH S w0 W (wrE b way l.length (bR g 0 (P.length+1) cap)::kQ (bR g 0 (P.length+1) cap) (P++[UInt8.ofNat c])::T)) a.drew ?_;refine gr _ (λ_=>cR) (gr _ (λ_=>bC VO) (iL _ (λW h=>Vx (h.at_ 0 rfl)) ?_));refine gr _ (λ_=>cR) (gr _ (λ_=>bC VO) (iL _ (λW h=>Vx (h.at_ 0 rfl)) ?_));refine gr _ (λ_=>CI atM) (gr _ (λ_=>Ck) ?_);rw[aA om om,show ((P.length+1:Nat):Int) - 1=(P.length:Int) by omega];have j:∀W:ao,(mIA 53 (bR g 0 (P.length+1) cap) (ad (P.length:Int))).run ah W=.ok (.value (af g P.length)) W:=λW=>by
   have:=dP (P:=ah) (T:=53) (b:=g) (off:=0) (cap:=cap) (n:=P.length+1) (k:=.i64) (i:=(P.length:Int)) (w:=W) atM (show _=ax 1 by kernel_rfl) om om
   rwa [atC,atY,atK] at this
  refine gr _ j ?_;have d:(aH (P++[UInt8.ofNat c]))[P.length]?=ax (.int .u8 (c:Int)):=by
   rw[fW om,aAM (atE _)];simp only[avV,aAb,axN];rw[avF om]
  refine iL (.int .u8 (c:Int)) (λW h=>?_) ?_
  ·have A:=jR (h.at_ 1 rfl);rw[hlen] at A;obtain⟨Z,B,C,e,O⟩:=bU A om
   injection e with p e2 e3
   injection p with p
   have D:=congrArg Addr.block p;have m:=congrArg Addr.off p;dsimp only at D m;subst D;subst m;have:=O P.length _ d;rw[atK] at this;exact aB M1 this
  refine gr _ (λ_=>cR) (gr _ (λ_=>bC acP) ?_);refine iH (ad ((l.length % 8:Nat):Int)) (λW h=>(Uh (h.at_ 0 rfl)).mono λv w' r=>⟨r.1,h.grow r.2⟩) ?_;refine gr _ (λ_=>aiF om) ?_;rw[show min ((l.length % 8:Nat):Int).toNat IntKind.i64.bits=l.length % 8 by show min ((l.length % 8:Nat):Int).toNat 64=l.length % 8;omega];rw[show ((x:Nat):Int)*2 ^ (l.length % 8)=((x*2 ^ (l.length % 8):Nat):Int) by push_cast;rfl,aA om om];refine gr _ (λW=>cU8 om) ?_;have Q:(((UInt8.ofNat (x*2 ^ (l.length % 8))).toNat:Nat):Int)=((x*2 ^ (l.length % 8):Nat):Int):=by rw[axN,avF om]
  try rw[Q]
  refine gr _ (λ_=>r_or) ?_;rw[or8 (awC _ dc) G y];refine gr _ j ?_;intro W2 a;refine Gw (sz:=1) (new:=[.int .u8 ((c+x*2 ^ (l.length % 8):Nat):Int)]) 1 a (by show ax (kQ _ _)=ax _;unfold kQ;rw[hlen]) rfl krx (λu hu=>by rw[auB.1 hu];rfl) sm λR a=>?_;have o:(aH (P++[UInt8.ofNat c])).take P.length++[.int .u8 ((c+x*2 ^ (l.length % 8):Nat):Int)]++(aH (P++[UInt8.ofNat c])).drop (P.length+[(.int .u8 ((c+x*2 ^ (l.length % 8):Nat):Int):aq)].length)=aH (az (l++[x])):=by
   rw[z];unfold aH;rw[auJ,auJ,avW sm,ayR sm,atX]
   congr 1
   simp only[avC,axG,axN];rw[avF (show c+x*2 ^ (l.length % 8) < 2 ^ 8 by omega)]
  have a:cH S w0 R (wrE b way l.length (bR g 0 (P.length+1) cap)::kQ (bR g 0 (P.length+1) cap) (az (l++[x]))::T):=by
   unfold kQ;rw[<-o,z,asY,avA];exact a
  rw[bD,KH,wU,wr_u a 0 rfl];simp only[rs];rw[aA om om,Di dc]
  try rw[bD]
  rw[KH,wU];have U:(((l.length % 8:Nat):Int)+1).tmod 8=(((l.length+1) % 8:Nat):Int):=by
   rw[aAL om];omega
  rw[U];refine aN 0 a rfl krx rfl (by show 0+1 < 3;omega) λW4 a=>?_;refine vB ⟨rfl,bR g 0 (P.length+1) cap,?_⟩;unfold Wr wrE;rw[asY,avA];exact a
 rw[bD,KH,wU,wr_u a 0 rfl];simp only[rs];by_cases E:((l.length % 8:Nat):Int)=0
 ·simp only[E,asX,i_t];rw[asU om] at f
  try rw[bD]
  rw[OB,wr_v a 0 rfl];refine JA 0 a λb8 w8 a=>?_;refine bL 2 atM I3 dc a rfl (gS (a.at_ 0 rfl) dc rfl) bN om om λv' w9 a=>?_;have s:v'.oneCell'=true:=dO (a.at_ 2 rfl)
  try rw[bD]
  rw[OB];refine aN 1 a rfl krx s (by show 0+2 < 3;omega) λt a=>?_;refine fin t v' ?_;rw[<-f,fD];exact a.tail
 ·simp only[E,asW,i_f];rw[asT om] at f;refine fin w v ?_;rw[<-f];exact a
theorem S0 (v n:Nat):bf v (n+1)=bf v n++[v / 2 ^ n % 2]:=by
 unfold bf;rw[ayE,auJ];rfl
theorem amT {a:Nat}(h:a < 2 ^ 62):LL .i64 (a:Int) 1=((a % 2:Nat):Int):=by
 have b:(2:Nat) ^ 62=4611686018427387904:=rfl;unfold LL;show IntKind.wrap .i64 (((BitVec.ofInt 64 (a:Int) &&& BitVec.ofInt 64 ((1:Nat):Int)).toNat:Nat):Int)=_;rw[BitVec.ofInt_natCast,BitVec.ofInt_natCast,BitVec.toNat_and,BitVec.toNat_ofNat,BitVec.toNat_ofNat,avF om,avF om,Nat.and_one_is_mod];exact aA om om
theorem pT {x n:Nat}(a:cH S w0 w (Wr b way l v T))(g:br l)(hw:way=0∨way=1)(q:n<=24)(y:x < 2 ^ n)(z:l.length<=10000000000)
  (k:∀way' v' W,(way'=0∨way'=1)->cH S w0 W (Wr b way' (l++bf x n) v' T)->K (ad 0) W):dZ ah 288 #[af b 0,ad (x:Int),ad (n:Int)] w PK K:=by
 refine fY (Ec (k0:=wM λv W=>v=ad 0∧∃way' v',(way'=0∨way'=1)∧cH S w0 W (Wr b way' (l++bf x n) v' T)) ?_) (λe W ⟨v,he,h,way',v',c,a⟩=>by subst he;subst h;exact k way' v' W c a);unfold zY nz;have r:2 ^ n<=2 ^ 24:=avP dc q;have s:(2:Nat) ^ 24=16777216:=rfl;refine fY (Ea (k0:=wM λv W=>v=ad 0∧∃way' v',(way'=0∨way'=1)∧cH S w0 W (Wr b way' (l++bf x n) v' T)) ?_) (λe W ⟨v,he,h,way',v',c,a⟩=>by
  subst he;subst h;exact⟨_,rfl,rfl,way',v',c,a⟩)
 unfold zT nz;rw[NO];have d:IntKind.i64.wrap ((1:Int)*2 ^ min ((n:Nat):Int).toNat IntKind.i64.bits)=((2 ^ n:Nat):Int):=by
  rw[show min ((n:Nat):Int).toNat IntKind.i64.bits=n by show min ((n:Nat):Int).toNat 64=n;omega,Int.one_mul,show (2:Int) ^ n=((2 ^ n:Nat):Int) by push_cast;rfl];exact aA om om
 simp only[rs,show ai ((n:Int) < 0)=au from asZ om,show ai ((24:Int) < (n:Int))=au from asZ om,show ai ((x:Int) < 0)=au from asZ om];rw[Fa om,d];simp only[rs,show ai (((2 ^ n:Nat):Int)<=(x:Int))=au from asZ om]
 try rw[bD]
 rw[KH];refine aJ a (R:=λv=>v=.bool au) (U4 (a.at_ 0 rfl) hw) ?_;rintro _ w2 rfl a;simp only[rs];refine loop (λvs W=>∃(i:Nat) (v':aq),vs=[ad i]∧i<=n∧cH S w0 W (Wr b way (l++bf x i) v' T)) (λvs _=>n - n0 vs) ⟨0,v,rfl,om,by show cH S w0 w2 (Wr b way (l++[]) v T);rw[atX];exact a⟩ ?_;clear a;rintro vs t ⟨i,v',rfl,hi,a⟩ _;simp only[uJ,gd,rs,nz];by_cases f:(i:Int) < (n:Int)
 ·simp only[f,asX,i_t];refine join λJ j=>?_;simp only[show ai ((1:Int)=2)=au from rfl,i_f,rs];refine j _ _ λ_=>?_;simp only[tT,gd,nz];rw[EB om,show min ((i:Nat):Int).toNat IntKind.i64.bits=i by show min ((i:Nat):Int).toNat 64=i;omega,RH,Xt];have u:x / 2 ^ i<=x:=axD _ _;rw[amT om];refine ajU a (bz g (ej _ _)) (awC _ dc) (by rw[asY,bw];omega) λv2 o a=>?_;rw[atJ,<-S0] at a;simp only[rs];rw[aA om om];exact aS ⟨i+1,v2,rfl,om,a⟩ (by simp[n0,RowKit.intOf];omega)
 ·simp only[f,asW,i_f];have m:i=n:=om
  subst m;refine join λJ j=>?_;have fin:∀W way',(way'=0∨way'=1)->cH S w0 W (Wr b way' (l++bf x i) v' T)->J [] W:=by
   intro W way' c a;refine j _ _ λ_=>?_;simp only[uI,nz];exact vB ⟨rfl,way',v',c,a⟩
  by_cases p:(0:Int) < (i:Int)
  ·simp only[p,asX,i_t,rs,bD];rw[KH,LH];refine aN 0 a rfl krx rfl (by show 0 < 3;omega) λo a=>?_;exact fin o 1 (.inr rfl) a
  ·simp only[p,asW,i_f,rs];exact fin t way hw a
theorem Tj (a:cH S w0 w (Wr b way l v T))
  (k:∀W,cH S w0 W (Wr b 0 (gm l) v T)->K (.tuple #[]) W):dZ ah 289 #[af b 0] w PK K:=by
 refine fY (B8 (k0:=wM λu W=>u=.tuple #[]∧cH S w0 W (Wr b 0 (gm l) v T)) ?_) (λe W ⟨u,he,c,a⟩=>by subst he;subst c;exact k W a);unfold tW nz;rw[aeX,i_t];have d:∀{PK:PKT} {K:VWP},DoX ah (aW 315 #[]) w PK K=K (.agg #[ad 0,ad 0]) w:=aC krx;rw[d,bD,KH];refine GD 0 a rfl (new:=[ad 0,ad 0]) szSd dc (by show 0+2<=3;omega) λw2 a=>?_;refine vB ⟨rfl,?_⟩;have e:wrC 0 (gm l).length v=[ad 0,ad 0,v]:=by
  unfold wrC;rw[oo,Nat.mul_mod_right];rfl
 unfold Wr wrE;rw[e,vi];exact a
theorem T0 {k:Nat}(h:l.length=8*k)(s:List UInt8):az (l++gl s)=az l++s:=by
 have:=oh [] s;rw[atX] at this;rw[mq h,this];show _++(s++[])=_;rw[atX]
theorem amY {s:List UInt8}(a:cH S w0 w (Wr b way l v T))(d:l.length=8*j)(m:j<=1000000000)(n:s.length<=1000000000)
  (k:∀v' W,cH S w0 W (Wr b way (l++gl s) v' T)->K (.tuple #[]) W):dZ ah 290 #[af b 0,ae s] w PK K:=by
 refine fY (Ei (k0:=wM λu W=>u=.tuple #[]∧∃v',cH S w0 W (Wr b way (l++gl s) v' T)) ?_) (λe W ⟨u,he,f,v',a⟩=>by subst he;subst f;exact k v' W a);unfold zE nz;rw[NO,i_f];have g:(az l).length=j:=by rw[me];omega
 refine join λJ h=>?_;rw[bD,KH,wU,wr_u a 0 rfl,show l.length % 8=0 by omega];simp only[rs,show ai ((0:Int) < ((0:Nat):Int))=au from rfl,i_f];refine h _ _ λ_=>?_;unfold tC nz;rw[bD,OB,wr_v a 0 rfl];refine GJ 1 atM atB I3 atS z8U a rfl om λv' o a=>?_;have c:v'.oneCell'=true:=dO (a.at_ 1 rfl)
 try rw[bD]
 rw[OB];refine aN 0 a rfl krx c (by show 0+2 < 3;omega) λi a=>?_;refine vB ⟨rfl,v',?_⟩;unfold Wr wrE;rw[T0 d,fD];have e:wrC way (l++gl s).length v'=[ad way,ad ((l.length % 8:Nat):Int),v']:=by
  unfold wrC;rw[asY,qw];congr 3;omega
 rw[e];exact a
theorem amF {off n c:Nat}:DoX ah (mEq .eql 53 xo yo (bR b off n c) (.slice aw 0 0)) w PK K=K (.bool au) w:=aC krx
theorem arW (a:cH S w0 w L)(k:∀v w',cH S w0 w' (.urow 5 1 v 0 []::L)->K v w'):DoX ah (aT 53 0 #[]) w PK K:=
 bI (λb=>bR b 0 0 0) [] 5 (λ_=>by kernel_rfl) a λb c a=>k _ _ (a.toU 1 0 0 sm om om)
theorem Rv (a:cH S w0 w (Wr b way l v T))(h:0 < l.length)(i:l.length<=10000000000)
  (k:∀W,cH S w0 W T->K (ae (az l)) W):dZ ah 291 #[af b 0] w PK K:=by
 refine fY (Dm (k0:=wM λu W=>u=ae (az l)∧cH S w0 W T) ?_) (λe W ⟨u,he,c,a⟩=>by subst he;subst c;exact k W a);unfold wX nz;have d:=wq l;obtain⟨g,cap,rfl⟩:=qL (a.at_ 1 rfl) (by rw[me];omega);rw[NO,i_f,bD,OB,wr_v a 0 rfl];refine fY (rY (k0:=wM λu W=>cH S w0 W (kQ u (az l)::T)) ?_) (λe W ⟨u,he,a⟩=>?_)
 ·unfold kH nz;rw[amF,i_f];refine arW a λv0 j a=>?_;refine bL 0 atM I3 dc a rfl (jR (a.at_ 2 rfl)) bN om om λv' f a=>?_;rw[atK,auI] at a;have a:cH S w0 f ([kQ v' (az l)]++([wrE b way l.length (bR g 0 (az l).length cap),kQ (bR g 0 (az l).length cap) (az l)]++T)):=a;exact vB a.front.tail.tail
 ·subst he;refine aC (Pd atM atS atB (jR (a.at_ 0 rfl))) |>.mpr ?_;exact vB ⟨rfl,a.tail⟩
end
def TbW (A:Nat->Prop)(w:ao)(b:Nat)(lens:List Nat):Prop:=∃a c o,A b∧(tbE b a c (cnt lens) (FL lens) o).is w∧SlA A w o 1 (bh lens 15).length (aY (bh lens 15))∧SlA A w a 1 lens.length (aY lens)∧SlA A w c 1 lens.length (aY (jn lens))
theorem AU (lens:List Nat)(v:aq)(M:Mem)(w:ao)(m:∀l∈lens,l<=15)(g:lens.length<=100000)(P:0 < lens.length)(z:M.has w)(y:SlA M.A M.w v 1 lens.length (aY lens)) :
  jJ ah 295 #[v] M w (λr N=>if bj lens≠0 then r=.tuple #[.pointer aw,ad (bj lens)] else ∃b,r=.tuple #[af b 0,ad 0]∧TbW N.A N.w b lens):=by
 refine aU z λK G=>Ge ?_;unfold Hm nz;have a:cH M.A w w [.mem M]:=cH.memS z;refine bG a 0 rfl (Mz lens v M w m g z y) ?_;rintro _ N1 Q g1 ⟨cv,rfl,n,j⟩ a;simp only[ex,eF];by_cases o:bj lens=0
 case neg=>
  simp only[o,ne_eq,avD,asX,i_t];exact G _ _ N1 _ 0 a rfl g1 (by rw[asU o])
 have j:=j o;simp only[o,ne_eq,not_true,asW,i_f];refine bG a 0 rfl (Mm lens v N1 Q g P (a.hasM 0 rfl) (y.le g1)) λd e w2 g2 k a=>?_;refine aJ a (R:=λr=>r=nsV (cnt lens)) (jJ.told (yA lens v e w2 m g (a.hasM 0 rfl) (y.le (g1.trans g2)))) ?_;rintro _ w3 rfl a;rw[m_tb k.one n];refine ajP k.one n a λb S a=>?_;rw[bD,R7,tb_n a 0 rfl];refine aJ a (R:=λr=>r=nsV (FL lens)) (jJ.told (GX lens e S g (a.hasM 1 rfl))) ?_;rintro _ w5 rfl a;rw[bD,Wl];refine WD 0 a rfl λT a=>?_;have p:=y.le (g1.trans g2);have a:cH M.A w T [.urow 3 1 cO 0 [],tbE b d cv (cnt lens) (FL lens) cO,.mem e]:=cH.nilU (L:=[tbE b d cv (cnt lens) (FL lens) cO,.mem e]) a _ _;refine loop (λvs W=>∃(l:Nat) (ov:aq),vs=[ad ((l+1:Nat):Int)]∧l<=15∧cH M.A w W [.urow 3 1 ov (bh lens l).length (aY (bh lens l)),tbE b d cv (cnt lens) (FL lens) ov,.mem e]) (λvs _=>16 - n0 vs) ⟨0,cO,rfl,om,a⟩ ?_;clear a;rintro vs U ⟨l,ov,rfl,q,a⟩ _;simp only[Cx,gd,rs,nz];by_cases s:((l+1:Nat):Int)<=15
 ·simp only[s,asX,i_t];rw[aZ auA (p.now (a.hasM 2 rfl))];have V:=qj lens l;have H:l*lens.length<=15*100000:=awX q g;refine loop (λvs W=>∃(i:Nat) (ov:aq),vs=[ad i]∧i<=lens.length∧cH M.A w W [.urow 3 1 ov (bh lens l++dd lens (l+1) i).length (aY (bh lens l++dd lens (l+1) i)),tbE b d cv (cnt lens) (FL lens) ov,.mem e]) (λvs _=>lens.length - n0 vs) ⟨0,ov,rfl,om,by
   rw[show dd lens (l+1) 0=[] from rfl,atX];exact a⟩ ?_
  clear a;rintro vs I ⟨i,ov,rfl,hi,a⟩ _;simp only[B3,gd,rs,nz];by_cases f:(i:Int) < (lens.length:Int)
  ·have t:i < lens.length:=om
   simp only[f,asX,i_t];refine join λJ X=>?_;obtain⟨b2,off,Y,Z⟩:=oU (p.now (a.hasM 2 rfl)) t;have B:lens.getD i 0=lens[i]:=by rw[atD,atI t];rfl
   refine aC (Y I) |>.mpr (aC (aB bZ Z) |>.mpr ?_);have a1:=qi lens (l+1) i;have c:dd lens (l+1) (i+1)=dd lens (l+1) i++(if lens[i]=l+1 then [i] else []):=by
    unfold dd;rw[ayE,aAv]
    congr 1
    rw[<-B];by_cases h:lens.getD i 0=l+1
    ·rw[asU h];exact List.filter_cons_of_pos (atA h)
    ·rw[asT h];exact List.filter_cons_of_neg (by rw[asZ h];decide)
   have fin:∀(W:ao) (ov:aq),cH M.A w W [.urow 3 1 ov (bh lens l++dd lens (l+1) (i+1)).length (aY (bh lens l++dd lens (l+1) (i+1))),tbE b d cv (cnt lens) (FL lens) ov,.mem e]->J [] W:=by
    intro W ov a;refine X _ _ λ_=>?_;simp only[BL,gd,rs,nz];rw[aA om om];exact aS ⟨i+1,ov,rfl,om,a⟩ (by simp[n0,RowKit.intOf];omega)
   simp only[rs];by_cases he:lens[i]=l+1
   ·rw[asU he] at c;simp only[show ai (((lens[i]:Nat):Int)=((l+1:Nat):Int))=av from atA om,i_t,rs,bD];rw[Ov,Tu a 1 rfl];refine yM (i:Int) a λb3 w9 a=>?_;refine sE 1 a rfl (a.sl 0 rfl 1 1 1 rfl) xH (by rw[asY];omega) λv' a6 a=>?_
    try simp only[rs,bD]
    rw[Ov];refine WA 2 (dO (a.at_ 1 rfl)) a rfl λC a=>?_;refine fin C v' ?_;have e1:aY (bh lens l++dd lens (l+1) (i+1))=aY (bh lens l++dd lens (l+1) i)++Rd [(i:Int)]:=by
     rw[c,<-atJ,nH];rfl
    have e2:(bh lens l++dd lens (l+1) (i+1)).length=(bh lens l++dd lens (l+1) i).length+1:=by
     rw[c,<-atJ,asY];rfl
    rw[e1,e2];exact a.tail
   ·rw[asT he,atX] at c;simp only[show ai (((lens[i]:Nat):Int)=((l+1:Nat):Int))=au from asZ om,i_f];refine fin I ov ?_;rw[c];exact a
  ·simp only[f,asW,i_f];have D:i=lens.length:=om
   subst D;rw[aA om om];exact aS ⟨l+1,ov,rfl,om,a⟩ (by simp[n0,RowKit.intOf];omega)
 ·have g:l=15:=om
  subst g;simp only[s,asW,i_f];obtain⟨O,g3,u,a⟩:=cH.bV (L:=[tbE b d cv (cnt lens) (FL lens) ov,.mem e]) a 1 rfl;have a:cH M.A w U [tbE b d cv (cnt lens) (FL lens) ov,.mem O]:=a;have E:=a.at_ 0 rfl;obtain⟨N4,g4,F,x,a⟩:=cH.freeze (L:=[.mem O]) a 0 rfl;refine G _ _ N4 _ 0 a rfl (g1.trans (g2.trans (g3.trans g4))) ?_;rw[asT (by simp[o])];exact⟨b,rfl,d,cv,ov,x b rfl,by rw[F];exact E,u.le g4,k.le (g3.trans g4),j.le (g2.trans (g3.trans g4))⟩
theorem U0 {v n k:Nat}(h:k < n):(jj v n).take (k+1)=(jj v n).take k++[v / 2 ^ (n - 1 - k) % 2]:=by
 rw[auD (by rw[ui];exact h)]
 congr 2
 simp[jj]
section
variable {w:ao}{PK:PKT}{K:VWP}{S:Nat->Prop}{w0:ao}{L T:List Ent}
theorem ER {lens:List Nat}(a:cH S w0 w (Wr b way l v T))(hm:T[jm]?=ax (.mem M))(V:TbW M.A M.w tb lens)(X:bj lens=0)(m:∀l∈lens,l<=15)(hi:0 < lens.getD i 0)
  (x:br l) (hw:way=0∨way=1) (hl:l.length<=1000000000) (k:∀way' v' W,(way'=0∨way'=1)->cH S w0 W (Wr b way' (l++dt lens i) v' T)->K (ad 0) W) :
  dZ ah 302 #[af tb 0,af b 0,ad (i:Int)] w PK K:=by
 refine fY (BF (k0:=wM λv W=>v=ad 0∧∃way' v',(way'=0∨way'=1)∧cH S w0 W (Wr b way' (l++dt lens i) v' T)) ?_) (λe W ⟨v,he,Y,way',v',y,a⟩=>by subst he;subst Y;exact k way' v' W y a);unfold uW nz;obtain⟨z,B,I,J,o,L,g,C⟩:=V;have c:i < lens.length:=by
  rcases auC i lens.length with h|h
  ·exact h
  ·rw[atD,avJ h] at hi;exact absurd hi (ayG _)
 have j:lens.getD i 0=lens[i]:=by rw[atD,atI c];rfl
 have p:lens[i]<=15:=m _ (atP c);have D:=uu (um (uo X)) m hi;rw[j] at hi D;have N:2 ^ lens[i]<=2 ^ 15:=avP dc p;have Z:(2:Nat) ^ 15=32768:=rfl;have d:∀{W:ao} {way:Int} {l:List Nat} {v:aq},cH S w0 W (Wr b way l v T)->M.has W:=λa=>a.hasM (jm+2) (by rw[auT,auT];exact hm);have hlen:=g.1.1;have q:∀{W:ao},M.has W->(aK 123 (af tb 0)).run ah W=.ok (.value z) W:=λE=>aB H5 (aG (T:=337) (cs:=tbC z B (cnt lens) (FL lens) I) (Za J o E) (i:=0) rfl);have F:∀{W:ao},M.has W->(aK 123 (af tb (0+1))).run ah W=.ok (.value B) W:=λE=>aB H5 (aG (T:=337) (cs:=tbC z B (cnt lens) (FL lens) I) (Za J o E) (i:=1) rfl);rw[V7];simp only[rs];rw[NO];simp only[rs,show ai ((i:Int) < 0)=au from asZ om,bD];rw[aO adB];refine aC (q (d a)) |>.mpr ?_;rw[aZ auA (g.now (d a))];simp only[rs,show ai ((lens.length:Int)<=(i:Int))=au from asZ om,bD];rw[aO adB];refine aC (q (d a)) |>.mpr ?_;obtain⟨b2,off,O,P⟩:=oU (g.now (d a)) c;refine aC (O w) |>.mpr (aC (aB bZ P) |>.mpr ?_);simp only[rs,show ai (((lens[i]:Nat):Int)=0)=au from asZ om,i_f];rw[aA om om];have r:dt lens i=jj (da lens i) lens[i]:=by unfold dt;rw[j]
 refine loop (λvs W=>∃(k:Nat) (way':Int) (v':aq),vs=[ad ((lens[i]:Int) - 1 - k)]∧k<=lens[i]∧(way'=0∨way'=1)∧cH S w0 W (Wr b way' (l++(dt lens i).take k) v' T)) (λvs _=>((RowKit.intOf (vs.getD 0 undef))+1).toNat) ⟨0,way,v,sm,om,hw,by rw[awQ,atX];exact a⟩ ?_;clear a hw O P;rintro vs w4 ⟨k,way',v',rfl,hk,hw,a⟩ _;simp only[pF,gd,rs,nz];by_cases s:(0:Int)<=(lens[i]:Int) - 1 - k
 ·simp only[s,asX,i_t,bD];rw[aO amB];refine aC (F (d a)) |>.mpr ?_;have f:=C.now (d a);rw[show lens.length=(jn lens).length by rw[jv]] at f;obtain⟨b3,Q,r3,R⟩:=oU f (i:=i) (by rw[jv];exact c);have G:(jn lens)[i]'(by rw[jv];exact c)=da lens i:=by
   have:=th c;rw[atI (by rw[jv];exact c)] at this;exact awT this
  rw[G] at R;refine aC (r3 w4) |>.mpr (aC (aB bZ R) |>.mpr ?_);have t:(lens[i]:Int) - 1 - k=((lens[i] - 1 - k:Nat):Int):=om
  rw[EB om,t,show min ((lens[i] - 1 - k:Nat):Int).toNat IntKind.i64.bits=lens[i] - 1 - k by show min ((lens[i] - 1 - k:Nat):Int).toNat 64=_;omega,RH,Xt];have a1:da lens i / 2 ^ (lens[i] - 1 - k)<=da lens i:=axD _ _;rw[amT om];have U:da lens i / 2 ^ (lens[i] - 1 - k) % 2 < 2:=awC _ dc;refine pT (n:=1) a (bz x (λb hb=>lz _ _ b (avQ hb))) hw om om (by rw[asY,atF];omega) λu v2 w5 H a=>?_;have e1:bf (da lens i / 2 ^ (lens[i] - 1 - k) % 2) 1=[da lens i / 2 ^ (lens[i] - 1 - k) % 2]:=by
   show [da lens i / 2 ^ (lens[i] - 1 - k) % 2 / 2 ^ 0 % 2]=_;rw[Nat.pow_zero,Nat.div_one,Nat.mod_mod]
  rw[e1,atJ,r,<-U0 om,<-r] at a;simp only[rs,show ai ((0:Int)≠0)=au from rfl,i_f];rw[aA om om];exact aS ⟨k+1,u,v2,by congr 2<;>omega,om,H,a⟩ (by simp[RowKit.intOf]<;>omega)
 ·simp only[s,asW,i_f];have t:k=lens[i]:=om
  rw[auG (by rw[fw,j];omega)] at a;exact vB ⟨rfl,way',v',hw,a⟩
end
end
section
open Eng
def wA(t0 t1 t2 t3 t9 w)(N1:JT)(K:KT):=nz f319 19 [N1] [nh 5 [9]] [(2,16)] (zg [0,1,2,3,9] [t0,t1,t2,t3,t9]) w K
def Bi(t0 t1 t2 t3 w)(K:KT):=nz f319 1 [] [(5,[9],λs v j w f=>wA (s 0) (s 1) (s 2) (s 3) (vg v 0) w (f 0) K)] [] (zg [0,1,2,3] [t0,t1,t2,t3]) w K
theorem Fz:Bi t0 t1 t2 t3 w k0->Calls ah 319 #[t0,t1,t2,t3] w k0:=cz [] [(2,[9])] func319
def oG(d c e a w)(N1:JT)(K:KT):=
 bnx .lss 3 a e w K λb w=>etx b a w λf w=>gtx b (iA .add 3 f (iN 3)) w K λg w=>etx b c w λh w=>gtx b (mB .len #[9] 3 #[au] #[h]) w K λi w=>gtx b (iA .leq 3 g i) w K λj w=>dx (cW b j (.bool au)) w K λk w=>IfX k (Au w (λS2 w=>HDo ah (λ_=>True) (iA .add 3 a (iN 3)) λl=>HDo ah (λ_=>True) (cT 9 c (ax a) (ax l) aw) λm=>HDo ah (λ_=>True) (iA .add 3 a (iN 3)) λn=>HDo ah (λ_=>True) (cT 9 c (ax a) (ax n) aw) λo=>HDo ah S2 (WN 289 d o au) λp=>DoX ah (aT 123 1 #[(0,a)]) w (ay 14 (pk K)) λq w=>S2 w∧(DoX ah (mB .append #[123,123] 123 #[au,au] #[p,q]) w (ay 14 (pk K)) λr w=>(DoX ah (VZ 289 d m r) w (ay 14 (pk K)) λ_ w=>(bnx .add 3 a (iN 1) w K λs w=>N1 [s] w))))) (K (.returned (.tuple #[])) w)
def qX(t0 t1 t2 t3 w)(K:KT):=nz f293 1 [] [(3,[8],λs v j w f=>oG (s 0) (s 1) (s 3) (vg v 0) w (f 0) K)] [] (zg [0,1,2,3] [t0,t1,t2,t3]) w K
theorem AL:qX t0 t1 t2 t3 w k0->Calls ah 293 #[t0,t1,t2,t3] w k0:=cz [] [(1,[8])] func293
def kG(t10 w)(N1:JT)(K:KT):=nz f292 1887 [N1] [nh 15 [10]] [] (zg [10] [t10]) w K
def fO(t1 t2 t6 t7 t8 t9 t10 w)(N1:JT)(K:KT):=nz f292 351 [N1] [nh 15 [10],(16,[],λs v j w f=>kG (s 10) w (f 0) K)] [] (zg [1,2,6,7,8,9,10] [t1,t2,t6,t7,t8,t9,t10]) w K
def mE(t0 t1 t2 w)(K:KT):=nz f292 1 [] [(15,[10],λs v j w f=>fO (s 1) (s 2) (s 6) (s 7) (s 8) (s 9) (vg v 0) w (f 0) K)] [] (zg [0,1,2] [t0,t1,t2]) w K
theorem uZ:mE t0 t1 t2 w k0->Calls ah 292 #[t0,t1,t2] w k0:=cz [(8,[])] [(7,[10])] func292
def wZ(t0 t3 t4 t5 t6 t7 w)(N1:JT)(K:KT):=nz f266 4015 [N1] [nh 13 [3,5]] [] (zg [0,3,4,5,6,7] [t0,t3,t4,t5,t6,t7]) w K
def vT(t0 t3 t4 t5 w)(N1:JT)(K:KT):=nz f266 175 [N1] [nh 13 [3,5],(22,[],λs v j w f=>wZ (s 0) (s 3) (s 4) (s 5) (s 6) (s 7) w (f 0) K)] [] (zg [0,3,4,5] [t0,t3,t4,t5]) w K
def Ce(t0 w)(K:KT):=nz f266 1 [] [(13,[3,5],λs v j w f=>vT (s 0) (vg v 0) (s 4) (vg v 1) w (f 0) K)] [] (zg [0] [t0]) w K
theorem EF:Ce t0 w k0->Calls ah 266 #[t0] w k0:=cz [(11,[])] [(6,[3,5])] func266
def zI(t0 t2 t6 t8 w)(N1:JT)(K:KT):=nz f343 87 [N1] [nh 11 [0,6,8]] [(8,14)] (zg [0,2,6,8] [t0,t2,t6,t8]) w K
def Dx(t0 t1 t2 w)(K:KT):=nz f343 1 [] [(11,[0,6,8],λs v j w f=>zI (vg v 0) (s 2) (vg v 1) (vg v 2) w (f 0) K)] [] (zg [0,1,2] [t0,t1,t2]) w K
theorem Hd:Dx t0 t1 t2 w k0->Calls ah 343 #[t0,t1,t2] w k0:=cz [] [(5,[0,6,8])] func343
def D5(t0 w)(K:KT):=nz f325 1 [] [] [] (zg [0] [t0]) w K
theorem Ha:D5 t0 w k0->Calls ah 325 #[t0] w k0:=cw func325
def DA(t0 w)(K:KT):=nz f326 1 [] [] [] (zg [0] [t0]) w K
theorem Hg:DA t0 w k0->Calls ah 326 #[t0] w k0:=cw func326
def uU(t0 t3 t4 t5 w)(N1:JT)(K:KT):=nz f265 123 [N1] [nh 5 [0]] [] (zg [0,3,4,5] [t0,t3,t4,t5]) w K
def uB(t0 t3 w)(N1:JT)(K:KT):=nz f265 11 [N1] [nh 5 [0],(12,[5],λs v j w f=>uU (s 0) (s 3) (s 4) (vg v 0) w (f 0) K)] [] (zg [0,3] [t0,t3]) w K
def zN(t0 w)(K:KT):=nz f265 1 [] [(5,[0],λs v j w f=>uB (vg v 0) (s 3) w (f 0) K)] [] (zg [0] [t0]) w K
theorem Eb:zN t0 w k0->Calls ah 265 #[t0] w k0:=cz [(6,[5])] [(2,[0])] func265
def mL(t14 w)(N1:JT)(K:KT):=nz f296 245 [N1] [nh 5 [14]] [] (zg [14] [t14]) w K
def mG(t1 t3 t12 t13 t14 w)(N1:JT)(K:KT):=nz f296 21 [N1] [nh 5 [14],(24,[],λs v j w f=>mL (s 14) w (f 0) K)] [] (zg [1,3,12,13,14] [t1,t3,t12,t13,t14]) w K
def pA(t0 t1 t2 w)(K:KT):=nz f296 1 [] [(5,[14],λs v j w f=>mG (s 1) (s 3) (s 12) (s 13) (vg v 0) w (f 0) K)] [] (zg [0,1,2] [t0,t1,t2]) w K
theorem yT:pA t0 t1 t2 w k0->Calls ah 296 #[t0,t1,t2] w k0:=cz [(12,[])] [(2,[14])] func296
def Bl(t0 w)(K:KT):=nz f267 1 [] [] [] (zg [0] [t0]) w K
theorem EX:Bl t0 w k0->Calls ah 267 #[t0] w k0:=cw func267
def sJ(t20 w)(N1:JT)(K:KT):=nz f297 983 [N1] [nh 9 [20]] [] (zg [20] [t20]) w K
def rP(t2 t3 t18 t19 t20 w)(N1:JT)(K:KT):=nz f297 87 [N1] [nh 9 [20],(24,[],λs v j w f=>sJ (s 20) w (f 0) K)] [] (zg [2,3,18,19,20] [t2,t3,t18,t19,t20]) w K
def eS(a b c w)(K:KT):=
 iax 123 b (iN 256) w K λd w=>stx 3 d (iN 1) w K λ_ w=>lnx 269 a w K λe w=>Ax [(iN 0)] w (λf w N1=>∀_:Sg,rP b c a e (f.getD 0 undef) w N1 K)
def wG(a w)(K:KT):=
 DrawX w (λw=>(dx (ID 123 (iN 286) (iN 286)) w K λb w=>(dx (ID 123 (iN 30) (iN 30)) w K λc w=>eS a b c w K)∧(dx (ID 123 (iN 30) (iN 30)) w K λd w=>eS a b d w K))∧(dx (ID 123 (iN 30) (iN 30)) w K λe w=>dx (ID 123 (iN 286) (iN 286)) w K λf w=>eS a f e w K))
theorem C7:wG t0 w k0->Calls ah 297 #[t0] w k0:=cz [(12,[])] [(4,[20])] func297
def Ca(t0 t1 t5 w)(N1:JT)(K:KT):=nz f299 19 [N1] [nh 5 [5]] [] (zg [0,1,5] [t0,t1,t5]) w K
def FO(t0 t1 w)(K:KT):=nz f299 1 [] [(5,[5],λs v j w f=>Ca (s 0) (s 1) (vg v 0) w (f 0) K)] [] (zg [0,1] [t0,t1]) w K
theorem Iy:FO t0 t1 w k0->Calls ah 299 #[t0,t1] w k0:=cz [] [(2,[5])] func299
def eQ(t3 t4 t5 w)(N1:JT)(K:KT):=nz f300 1003 [N1] [nh 7 [3,4]] [] (zg [3,4,5] [t3,t4,t5]) w K
def wS(t0 t3 t4 t5 w)(N1 a:JT)(K:KT):=nz f300 619 [N1,a] [nh 7 [3,4],nh 11 [5],(34,[3,5],λs v j w f=>eQ (vg v 0) (s 4) (vg v 1) w (f 0) K)] [(5,19)] (zg [0,3,4,5] [t0,t3,t4,t5]) w K
def wR(t0 t3 t4 w)(N1:JT)(K:KT):=nz f300 43 [N1] [nh 7 [3,4],(11,[5],λs v j w f=>wS (s 0) (s 3) (s 4) (vg v 0) w (f 1) (f 0) K)] [] (zg [0,3,4] [t0,t3,t4]) w K
def A6(t0 w)(K:KT):=nz f300 1 [] [(7,[3,4],λs v j w f=>wR (s 0) (vg v 0) (vg v 1) w (f 0) K)] [] (zg [0] [t0]) w K
theorem EH:A6 t0 w k0->Calls ah 300 #[t0] w k0:=cz [(17,[3,5])] [(3,[3,4]),(5,[5])] func300
def zU(w)(K:KT):=nz f301 1 [] [] [] (zg [] []) w K
theorem En:zU w k0->Calls ah 301 #[] w k0:=cw func301
def BJ(t0 t9 t16 t21 t132 t133 t134 w)(a:JT)(K:KT):=nz f268 92274687 [a] [nh 73 [134]] [] (zg [0,9,16,21,132,133,134] [t0,t9,t16,t21,t132,t133,t134]) w K
def qN(t0 t9 t10 t16 t21 t122 t123 t124 w)(a:JT)(K:KT):=nz f268 46137343 [a] [nh 63 [124],(73,[134],λs v j w f=>BJ (s 0) (s 9) (s 16) (s 21) (s 132) (s 133) (vg v 0) w (f 0) K)] [] (zg [0,9,10,16,21,122,123,124] [t0,t9,t10,t16,t21,t122,t123,t124]) w K
def Cz(t0 t5 t7 t9 t10 t14 t16 t18 t88 t89 w)(a:JT)(K:KT):=nz f268 180223 [a] [nh 39 [18,89],(63,[124],λs v j w f=>qN (s 0) (s 9) (s 10) (s 16) (s 21) (s 122) (s 123) (vg v 0) w (f 0) K)] [] (zg [0,5,7,9,10,14,16,18,88,89] [t0,t5,t7,t9,t10,t14,t16,t18,t88,t89]) w K
def BC(t0 t5 t7 t9 t10 t11 t64 t65 t66 w)(N1:JT)(K:KT):=nz f268 11263 [N1] [nh 23 [66],(39,[18,89],λs v j w f=>Cz (s 0) (s 5) (s 7) (s 9) (s 10) (s 14) (s 16) (vg v 0) (s 88) (vg v 1) w (f 0) K)] [] (zg [0,5,7,9,10,11,64,65,66] [t0,t5,t7,t9,t10,t11,t64,t65,t66]) w K
def EW(t0 w)(K:KT):=nz f268 1 [] [(23,[66],λs v j w f=>BC (s 0) (s 5) (s 7) (s 9) (s 10) (s 11) (s 64) (s 65) (vg v 0) w (f 0) K)] [] (zg [0] [t0]) w K
theorem Ik:EW t0 w k0->Calls ah 268 #[t0] w k0:=cz [] [(11,[66]),(19,[18,89]),(31,[124]),(36,[134])] func268
def AX(t6 w)(K:KT):=nz f235 255 [] [] [] (zg [6] [t6]) w K
def Bq(t1 t6 t7 w)(K:KT):=nz f235 127 [] [(32,[6],λs v j w f=>AX (vg v 0) w K)] [] (zg [1,6,7] [t1,t6,t7]) w K
def Gl(t0 t1 w)(K:KT):=nz f235 1 [] [(24,[6],λs v j w f=>Bq (s 1) (vg v 0) (s 7) w K)] [] (zg [0,1] [t0,t1]) w K
theorem IH:Gl t0 t1 w k0->Calls ah 235 #[t0,t1] w k0:=cz [(12,[6]),(16,[6])] [] func235
end
section
open Eng Go.RowKit
def ptC (x:bo):List Value:=[.int .u8 (x.1.toNat:Int),ad (x.2.1:Int),ad (x.2.2:Int)]
def ptV (x:bo):Value:=.agg (ptC x).toArray
abbrev ptE (b:Nat)(x:bo):Ent:=.cells b (ptC x) 291
theorem ahJ (x:bo):(ptC x).length=3:=rfl
theorem Yc {x:bo}:∀u∈ptC x,u.oneCell'=true:=by
 intro u hu;simp only[ptC,atL,avO,or_false] at hu;rcases hu with rfl|rfl|rfl<;>rfl
theorem aiB:I2 ah 291=ax 3:=krx
theorem szPt:(Tryz.prog.info? 291).map (·.size)=ax 3:=krx
theorem Yw:kC ah 291 0=ax 0:=krx
theorem Hy:kC ah 291 1=ax 1:=krx
theorem aeD:kC ah 291 2=ax 2:=krx
theorem ptAt {l:List bo}(a:SlA M.A M.w v 3 l.length (l.flatMap ptC))(hi:i < l.length) :
  ∃p,(∀W,(mIA 269 v (ad (i:Int))).run ah W=.ok (.value (.pointer (ax p))) W)∧∀W,M.has W->(aK 291 (.pointer (ax p))).run ah W=.ok (.value (ptV l[i])) W:=by
 obtain⟨b,off,cap,rfl,_⟩:=bU a.1 om;refine⟨⟨b,off+i*3,aw⟩,λW=>?_,λW e=>?_⟩
 ·have:=dP (P:=ah) (T:=269) (b:=b) (off:=off) (cap:=cap) (n:=l.length) (k:=.i64) (i:=(i:Int)) (w:=W) aAx szPt om om;rw[atC] at this;exact this
 ·obtain⟨h,c,d,he,f⟩:=bU (a.now e) om;cases he;refine bB (AtV.agg aiB (cs:=ptC l[i]) rfl λj u g=>?_);rw[awP];exact f _ _ (Eng.CG ahJ hi g)
theorem ZU {n k:Nat}(b:k<=30)(d:n<=1000000000):LL .i64 (n:Int) ((2 ^ k - 1:Nat):Int)=((n % 2 ^ k:Nat):Int):=by
 have hp:2 ^ k<=2 ^ 30:=avP dc b;have c:(2:Nat) ^ 30=1073741824:=rfl;have hm:n % 2 ^ k<=n:=Nat.mod_le _ _;unfold LL;show IntKind.wrap .i64 (((BitVec.ofInt 64 (n:Int) &&& BitVec.ofInt 64 ((2 ^ k - 1:Nat):Int)).toNat:Nat):Int)=_;rw[BitVec.ofInt_natCast,BitVec.ofInt_natCast,BitVec.toNat_and,BitVec.toNat_ofNat,BitVec.toNat_ofNat,avF om,avF (a:=2 ^ k - 1) om,Nat.and_two_pow_sub_one_eq_mod];exact aA om om
theorem Zb {a k:Nat}(b:k<=40)(h:a*2 ^ k<=4611686018427387904):IntKind.i64.wrap ((a:Int)*2 ^ min ((k:Nat):Int).toNat IntKind.i64.bits)=((a*2 ^ k:Nat):Int):=by
 rw[show min ((k:Nat):Int).toNat IntKind.i64.bits=k by show min ((k:Nat):Int).toNat 64=k;omega,show (a:Int)*2 ^ k=((a*2 ^ k:Nat):Int) by push_cast;rfl];exact aA om om
def sdT (r:Nat×Nat×Nat):Value:=.tuple #[ad (r.1:Int),ad (r.2.1:Int),ad (r.2.2:Int)]
theorem Tn (n b group:Nat)(w:ao)(F:n<=40000)(G:b<=8)(t:1<=group∧group<=4):Ret ah 343 #[ad (n:Int),ad (b:Int),ad (group:Int)] w (λv w'=>v=sdT (jz n b group)∧Below w.heap.size w w'):=by
 refine aL λK o=>Hd ?_;unfold Dx nz;generalize e:jz n b group=R at o;unfold jz at e;simp only[rs];by_cases h:(n:Int) < (b:Int)
 ·simp only[h,asX,i_t];rw[asU om] at e;subst e;exact o _ _ ⟨rfl,(Own.start w).done⟩
 simp only[h,asW,i_f];rw[asT om] at e;rw[aA om om];have u:(2:Nat) ^ (1+20)=2097152:=rfl;refine loop (λvs W=>∃(m d bits f:Nat),vs=[ad (m:Int),ad (d:Int),ad (bits:Int)]∧m<=40000∧bits+f=21∧d<=8+4*bits∧m < group*2 ^ (bits+f)∧ma group f m d bits=R∧Own w W []) (λvs _=>n0 vs) ⟨n - b,b,1,20,by congr 2;omega,om,rfl,om,om,e,Own.start w⟩ ?_;rintro vs H ⟨m,d,bits,f,rfl,hm,A,B,p,c,l⟩ _;simp only[zI,gd,nz];have C:2 ^ bits<=2 ^ 21:=avP dc om;have D:(2:Nat) ^ 21=2097152:=rfl;have r:=aAi bits;have E:group*2 ^ bits<=4*2097152:=awX t.2 om;have x:1*1<=group*2 ^ bits:=awX t.1 r;rw[Fa om,Zb om om];simp only[rs];by_cases y:((group*2 ^ bits:Nat):Int)<=(m:Int)
 ·simp only[y,asX,i_t];obtain⟨f,rfl⟩:∃g,f=g+1:=⟨f - 1,by
   rcases awB f with z|z
   ·subst z;rw[auU] at p;omega
   ·omega⟩
  unfold ma at c;rw[asU om] at c;rw[Fa om,Zb om om];simp only[rs];rw[aA om om,aA om om,aA om om];rw[show (m:Int) - ((group*2 ^ bits:Nat):Int)=((m - group*2 ^ bits:Nat):Int) by omega];refine aS ⟨m - group*2 ^ bits,d+group,bits+1,f,rfl,om,om,om,?_,c,l⟩ (by show ((m - group*2 ^ bits:Nat):Int).toNat < ((m:Nat):Int).toNat;omega);rw[show bits+1+f=bits+(f+1) by omega];omega
 ·simp only[y,asW,i_f];have i:(d+m / 2 ^ bits,m % 2 ^ bits,bits)=R:=by
   cases f with
  |zero=>exact c
  |succ f=>
    unfold ma at c;rw[asT om] at c;exact c
  have s:m / 2 ^ bits<=m:=axD _ _;have j:=Zb (a:=1) (k:=bits) om om;refine cQ (λW=>Own w W []) l.drew ?_;refine gr _ (λ_=>ZL om) ?_;rw[show min ((bits:Nat):Int).toNat IntKind.i64.bits=bits by show min ((bits:Nat):Int).toNat 64=bits;omega,RH];generalize m / 2 ^ bits=q at s i ⊢;refine nF ?_;rw[aA om om];refine gr _ (λ_=>aiF om) ?_;rw[show ((1:Int))=((1:Nat):Int) from rfl,j,ayU];refine gr _ (λ_=>Ck) ?_;rw[aA om om,show ((2 ^ bits:Nat):Int) - ((1:Nat):Int)=((2 ^ bits - 1:Nat):Int) by omega];refine gr _ (λ_=>Zj) ?_;rw[ZU om om];intro W l;refine o _ _ ⟨?_,l.done⟩;rw[<-i];rfl
theorem O2 (n:Nat)(w:ao)(c:3<=n)(h:n<=258):Ret ah 325 #[ad (n:Int)] w (λv w'=>v=.tuple #[ad ((cg n).1:Int),ad ((cg n).2.1:Int),ad ((cg n).2.2:Int),ad 0]∧Below w.heap.size w w'):=by
 refine aL λK a=>Ha ?_;unfold D5 nz;obtain⟨s1,s2,_⟩:=mn c h;unfold cg at a s1 s2;simp only[rs,show ai ((n:Int) < 3)=au from asZ om,show ai ((258:Int) < (n:Int))=au from asZ om,i_f];by_cases b:(n:Int)=258
 ·simp only[b,asX,i_t];rw[asU om] at a;exact a _ _ ⟨rfl,(Own.start w).done⟩
 ·simp only[b,asW,i_f];rw[asT om] at a s1 s2;rw[aA om om,show (n:Int) - 3=((n - 3:Nat):Int) by omega];refine aJ (Own.start w) (R:=λv=>v=sdT (jz (n - 3) 8 4)) (Tn (n - 3) 8 4 w om om om) ?_;rintro _ w2 rfl d;unfold sdT;simp only[ex,rs];rw[aA om om];exact a _ _ ⟨sm,d.done⟩
theorem PT (n:Nat)(w:ao)(c:1<=n)(h:n<=32768):Ret ah 326 #[ad (n:Int)] w (λv w'=>v=.tuple #[ad ((dw n).1:Int),ad ((dw n).2.1:Int),ad ((dw n).2.2:Int),ad 0]∧Below w.heap.size w w'):=by
 refine aL λK a=>Hg ?_;unfold DA nz;simp only[rs,show ai ((n:Int) < 1)=au from asZ om,show ai ((32768:Int) < (n:Int))=au from asZ om,i_f];rw[aA om om,show (n:Int) - 1=((n - 1:Nat):Int) by omega];refine aJ (Own.start w) (R:=λv=>v=sdT (jz (n - 1) 4 2)) (Tn (n - 1) 4 2 w om om om) ?_;rintro _ w2 rfl b;unfold sdT;simp only[ex,rs];exact a _ _ ⟨rfl,b.done⟩
theorem zj (last n:Nat)(l:List Nat)(s:List UInt8){k:Nat}(a:l.length=8*k):gm (l++bf last 1++bf 0 2)++bf n 16++bf (65535 - n) 16++gl s=l++ku last n s:=by
 unfold ku gm;rw[show (8 - (l++bf last 1++bf 0 2).length % 8) % 8=5 by simp only[asY,bw];omega];simp only[atJ]
theorem Ek {k:IntKind}{b:Int}:DoX ah (mB .min #[T1,T2] U cb #[.int k a,.int k' b]) w PK K=K (.int k (min a b)) w:=aC (by
 have e:(if b < a then b else a)=min a b:=by split<;>omega
 simp[mB,builtin,Builtin.min_,Builtin.min2,e])
section
variable {w:ao}{PK:PKT}{K:VWP}{S:Nat->Prop}{w0:ao}{L T:List Ent}
theorem Yv {s:List UInt8}(a:cH S w0 w T)(hs:s.length<=1048576)(k:∀W,cH S w0 W T->K (ae (az (gz s))) W):dZ ah 265 #[ae s] w PK K:=by
 refine fY (Eb (k0:=wM λu W=>u=ae (az (gz s))∧cH S w0 W T) ?_) (λe W ⟨u,he,hv,a⟩=>by subst he;subst hv;exact k W a);unfold zN nz;refine Yb a λb w1 a=>?_;unfold gz;generalize hf:s.length / 65535+1=f;have F:s.length < f*65535:=om
 have G:f<=20:=om
 generalize hR:jg f s=R;refine loop (λvs W=>∃(t:List UInt8) (l:List Nat) (j g:Nat) (way:Int) (v:aq),vs=[ae t]∧t.length<=1048576∧t.length < g*65535∧g<=20∧l.length=8*j∧j+t.length+5*g<=1048776∧br l∧l++jg g t=R∧(way=0∨way=1)∧cH S w0 W (Wr b way l v T)) (λvs _=>jC (vs.getD 0 undef)) ⟨s,[],0,f,0,cO,rfl,hs,F,G,rfl,om,(λb hb=>by cases hb),by rw[<-hR];rfl,.inl rfl,a⟩ ?_;clear a;rintro vs w2 ⟨t,l,j,g,way,v,rfl,ht,a8,hg,H,b0,r,i,hw,a⟩ _;simp only[uB,gd,nz];rw[cZ atB,Ek];obtain⟨g,rfl⟩:∃q,g=q+1:=⟨g - 1,om⟩;unfold jg at i;have hn:min (t.length:Int) 65535=((min t.length 65535:Nat):Int):=om
 rw[hn];refine join λJ hJ=>?_;rw[cZ atB];simp only[rs];have go:∀last:Nat,last < 2->(last=1↔t.length<=65535)->J [ad (last:Int)] w2:=by
  intro last I m;refine hJ _ _ λ_=>?_;simp only[uU,gd,nz];generalize b1:min t.length 65535=n;have X:n<=65535:=om
  have b2:n<=t.length:=om
  have b3:l.length<=10000000:=om
  refine pT (n:=1) a r hw om om om λY v1 w3 L a=>?_;have o:=bz r (ej last 1);refine pT (x:=0) (n:=2) a o L om dc (by rw[asY,bw];omega) λZ v2 w4 b4 a=>?_;have A:=bz o (ej 0 2);refine Tj a λw5 a=>?_;have c:=sd A;have M:(gm (l++bf last 1++bf 0 2)).length=8*(j+1):=by
   rw[oo];simp only[asY,bw];omega
  generalize B:gm (l++bf last 1++bf 0 2)=N at a c M;refine pT (x:=n) (n:=16) a c (.inl rfl) om om om λa1 v4 w6 O a=>?_;have p:=bz c (ej n 16);simp only[rs];rw[aA om om,show (65535:Int) - (n:Int)=((65535 - n:Nat):Int) by omega];refine pT (x:=65535 - n) (n:=16) a p O om om (by rw[asY,bw];omega) λa6 v5 w7 b5 a=>?_;have a7:=bz p (ej (65535 - n) 16);have C:(N++bf n 16++bf (65535 - n) 16).length=8*(j+5):=by
   simp only[asY,bw];omega
  have P:gm (N++bf n 16++bf (65535 - n) 16)=N++bf n 16++bf (65535 - n) 16:=by
   unfold gm;rw[C,show (8 - 8*(j+5) % 8) % 8=0 by omega];exact atX _
  refine Tj a λw8 a=>?_;rw[P] at a;rw[O9 atB om om,atC];have D:(t.take n).length=n:=by rw[atF];omega
  refine amY (j:=j+5) a C om om λv6 w9 a=>?_;rw[yY atB om om,atC];have d:=zj last n l (t.take n) H;rw[B] at d;rw[d] at a;have E:=bz r (pq last n (t.take n));have Q:(l++ku last n (t.take n)).length=8*(j+5+n):=by rw[asY,kx,D];omega
  try simp only[rs]
  by_cases y:t.length<=65535
  ·have U:=m.2 y;subst U;simp only[show ai (((1:Nat):Int)=1)=av from rfl,i_t];rw[asU y] at i;have z:n=t.length:=om
   rw[z,auZ,i] at a;refine Rv a (by rw[<-i,asY,kx];omega) (by rw[<-i,asY,kx];omega) λW a=>?_;exact⟨_,rfl,rfl,a⟩
  ·have V:last=0:=by
    have:¬last=1:=λe=>y (m.1 e);omega
   subst V;simp only[show ai (((0:Nat):Int)=1)=au from rfl,i_f];rw[asT y] at i;have z:n=65535:=om
   subst z;rw[<-atJ] at i;have ld:(t.drop 65535).length=t.length - 65535:=atG;exact aS ⟨t.drop 65535,_,j+5+65535,g,0,v6,rfl,om,om,om,Q,om,E,i,.inl rfl,a⟩ (by
    show jC (ae (t.drop 65535)) < jC (ae t);rw[fG,fG];omega)
 by_cases y:t.length<=65535
 ·simp only[show ai (((min t.length 65535:Nat):Int)=(t.length:Int))=av from atA om,i_t];exact go 1 dc ⟨λ_=>y,λ_=>rfl⟩
 ·simp only[show ai (((min t.length 65535:Nat):Int)=(t.length:Int))=au from asZ om,i_f];exact go 0 dc ⟨(λh=>by cases h),λh=>absurd h y⟩
end
theorem Cn.OI:∀l:List Cn,Cn.sum Cn.wt (Cn.kO l)<=Cn.sum Cn.wt l
|[]=>atE _
|[a]=>atU _
|a::b::l=>by
  have c:=Cn.OI l;show Cn.sum Cn.wt (.node a b::Cn.kO l)<=_;rw[Cn.sum_cons,Cn.sum_cons,Cn.sum_cons];show a.wt+b.wt+_<=_;omega
theorem Cn.Row.amS {L:List Cn}(h:Cn.Row L t r):Cn.sum Cn.wt r<=(t+1)*Cn.sum Cn.wt L:=by
 induction h with
|zero _ hp=>
  rw[Cn.MY hp];omega
|@succ t q r a _ hp b=>
  have:=Cn.OI q;rw[Cn.MY hp,Cn.JK,awM];omega
def oz (counts:List Nat)(i:Nat):List Nat:=(List.range i).filter λs=>ai (0 < counts.getD s 0)
def lr (counts:List Nat)(i:Nat):List Cn:=(oz counts i).map λs=>.leaf (counts.getD s 0) s
theorem wu (counts:List Nat):lr counts counts.length=lq counts:=rfl
theorem wv (counts:List Nat)(i:Nat):lr counts (i+1)=lr counts i++(if 0 < counts.getD i 0 then [.leaf (counts.getD i 0) i] else []):=by
 unfold lr oz;rw[ayE,aAv,auJ]
 congr 1
 by_cases h:0 < counts.getD i 0
 ·rw[asU h,azA,asU (atA h)];rfl
 ·rw[asT h,azA,asT (λk=>h (atQ k))];rfl
theorem V0 (counts:List Nat)(i:Nat):(lr counts i).length<=i:=by
 unfold lr oz;rw[atV];have:=aAt (λs=>ai (0 < counts.getD s 0)) (List.range i)
 rwa [aAu] at this
theorem wx {counts:List Nat}(h:∀c∈counts,c<=2147483647):∀i,Cn.sum Cn.wt (lr counts i)<=i*2147483647
|0=>by simp[lr,oz,Cn.sum]
|i+1=>by
  have a:=wx h i;rw[wv,Cn.JK,awM];have b:counts.getD i 0<=2147483647:=jt h dc i;have e:Cn.sum Cn.wt (if 0 < counts.getD i 0 then [.leaf (counts.getD i 0) i] else [])<=counts.getD i 0:=by
   split
   ·simp[Cn.sum,Cn.wt]
   ·simp[Cn.sum]
  omega
theorem CQ (l:List Nat)(i n:Nat):(aY l).set i (ad (n:Int))=aY (l.set i n):=by unfold aY;rw[ayX]
theorem GU (h:i < l.length):(aY l)[i]?=ax (ad ((l.getD i 0:Nat):Int)):=by
 unfold aY;rw[axK,atD,atI h];rfl
theorem P4:(Tryz.prog.info? 3).map (·.size)=ax 1:=krx
theorem Wg {g n:Nat}(hi:i < n)(W:ao):(mIA 123 (bR g 0 n cap) (ad (i:Int))).run ah W=.ok (.value (af g i)) W:=by
 have:=dP (P:=ah) (T:=123) (b:=g) (off:=0) (cap:=cap) (n:=n) (k:=.i64) (i:=(i:Int)) (w:=W) auA P4 om om
 rwa [atC,atY,atK] at this
abbrev lnE (a g n:Nat):Ent:=.cells a [bR g 0 n n] 123
abbrev lrE (g:Nat)(out:List Nat):Ent:=.cells g (aY out) 3
def anX (a:Nat):Value:=.func (.func 330) #[] #[af a 0]
theorem Lu:bY ah 330=true:=krx
section
variable {w:ao}{PK:PKT}{K:VWP}{S:Nat->Prop}{w0:ao}{L T:List Ent}
theorem afO :DoX ah (mEq .eql 342 xo yo (af b 0) (.pointer aw)) w PK K=K (.bool au) w:=aC krx
theorem Zn :DoX ah (mEq .eql 342 xo yo (.pointer aw) (.pointer aw)) w PK K=K (.bool av) w:=aC krx
theorem akN {b g s:Nat}{out:List Nat}(a:cH S w0 w (lnE b g out.length::lrE g out::T))(c:s < out.length)(f:out.getD s 0<=1000000000)
  (k:∀W,cH S w0 W (lnE b g out.length::lrE g (out.set s (out.getD s 0+1))::T)->K (.tuple #[]) W):DoX ah (gC (anX b) #[ad (s:Int)]) w PK K:=by
 refine IC Lu ?_;show dZ ah 330 #[ad (s:Int),af b 0] w PK K;refine fY (Cw (k0:=wM λv W=>v=.tuple #[]∧cH S w0 W (lnE b g out.length::lrE g (out.set s (out.getD s 0+1))::T)) ?_) (λe W ⟨v,he,d,a⟩=>by subst he;subst d;exact k W a);unfold sX nz;rw[aR H5 (a.cell 0 rfl 0 rfl)];refine aC (Wg c w) |>.mpr ?_;rw[aR bZ (a.cell 1 rfl s (GU c))];simp only[rs];rw[aA om om,show ((out.getD s 0:Nat):Int)+1=((out.getD s 0+1:Nat):Int) by omega];refine aC (Wg c w) |>.mpr ?_;refine aN 1 a rfl krx rfl (by rw[fC];exact c) λw2 a=>?_;rw[CQ] at a;exact vB ⟨rfl,a⟩
theorem Xp {o g jm:Nat}{M:Mem}(hm:T[jm]?=ax (.mem M)):∀(c:Cn) {v:aq} {w:ao} {PK:PKT} {K:VWP} {out:List Nat},cH S w0 w (lnE o g out.length::lrE g out::T)->Jc M.A M.w v c ->
  (∀s,0 < c.cnt s->s < out.length)->(∀s,out.getD s 0+c.cnt s<=1000000000) ->
  (∀W a,a.length=out.length->(∀s,a.getD s 0=out.getD s 0+c.cnt s)->cH S w0 W (lnE o g a.length::lrE g a::T)->K (.tuple #[]) W) ->
  dZ ah 329 #[v,anX o] w PK K
|.leaf wt s,v,w,PK,K,out,d,l,j,C,k=>by
  refine fY (rG (k0:=wM λv W=>v=.tuple #[]∧∃a,a.length=out.length∧(∀t,a.getD t 0=out.getD t 0+(Cn.leaf wt s).cnt t)∧cH S w0 W (lnE o g a.length::lrE g a::T)) ?_) (λe W ⟨v,he,l,a,D,E,d⟩=>by subst he;subst l;exact k W a D E d);unfold oS nz;obtain⟨b,rfl,p,q⟩:=l;have n:M.has w:=d.hasM (jm+2) (by rw[auT,auT];exact hm);rw[bD,aO Ya];refine aC (aB PA (aG (T:=344) (cs:=cnC wt s (.pointer aw) (.pointer aw)) (lJ n p q) (i:=2) rfl)) |>.mpr ?_;rw[Zn,i_t,bD,aO adC];refine aC (aB bZ (aG (T:=344) (cs:=cnC wt s (.pointer aw) (.pointer aw)) (lJ n p q) (i:=1) rfl)) |>.mpr ?_;have J:s < out.length:=j s (by simp[Cn.cnt]);have O:=C s;refine akN d J om λW d=>?_;refine vB ⟨rfl,out.set s (out.getD s 0+1),avS,λt=>?_,by rw[avS];exact d⟩;rw[atD];by_cases h:s=t
  ·subst h;rw[awU J];simp[Cn.cnt]
  ·rw[azQ h,<-atD];simp[Cn.cnt,h]
|.node x y,v,w,PK,K,out,d,l,j,C,k=>by
  refine fY (rG (k0:=wM λv W=>v=.tuple #[]∧∃a,a.length=out.length∧(∀t,a.getD t 0=out.getD t 0+(Cn.node x y).cnt t)∧cH S w0 W (lnE o g a.length::lrE g a::T)) ?_) (λe W ⟨v,he,l,a,D,E,d⟩=>by subst he;subst l;exact k W a D E d);unfold oS nz;obtain⟨b,va,F,rfl,p,q,L,P⟩:=l;have m:∀{W:ao} {e e':Ent},cH S w0 W (e::e'::T)->M.has W:=λd=>d.hasM (jm+2) (by rw[auT,auT];exact hm);obtain⟨R,Q,_⟩:=Jc.ptr L;have r:∀{W:ao},M.has W->(aK 342 (af b (0+2))).run ah W=.ok (.value va) W:=λn=>aB PA (aG (T:=344) (cs:=cnC (x.wt+y.wt) 0 va F) (lJ n p q) (i:=2) rfl);have G:∀{W:ao},M.has W->(aK 342 (af b (0+3))).run ah W=.ok (.value F) W:=λn=>aB PA (aG (T:=344) (cs:=cnC (x.wt+y.wt) 0 va F) (lJ n p q) (i:=3) rfl);have f:∀t,(Cn.node x y).cnt t=x.cnt t+y.cnt t:=λt=>rfl;rw[bD,aO Ya];refine aC (r (m d)) |>.mpr ?_;rw[Q,afO,i_f]
  try rw[bD]
  rw[aO Ya];refine aC (r (m d)) |>.mpr ?_;refine Xp hm x d L (λs h=>j s (by rw[f];omega)) (λs=>by have:=C s;rw[f] at this;omega) λU N u z d=>?_
  try rw[bD]
  rw[aO aoC];refine aC (G (m d)) |>.mpr ?_;refine Xp hm y d P (λs h=>by rw[u];exact j s (by rw[f];omega)) (λs=>by have:=C s;rw[f] at this;rw[z];omega) λV B H I d=>?_;exact vB ⟨rfl,B,by rw[H,u],λt=>by rw[I,z,f];omega,d⟩
end
theorem Ku (h:(pcE v ps).is w):DoX ah (mB .len #[341] 3 #[au] #[v]) w PK K=K (ad (ps.length:Int)) w:=aZ avX (Sl.urow h)
theorem acJ {d b:Nat}{out:List Nat}{R:List Ent}(a:cH S w0 w (lnE d b out.length::lrE b out::R))(e:R[j]?=ax (Ent.mem N))(k:out.length<=1000000) :
  ∃c:Mem,N.le c∧SlA c.A c.w (bR b 0 out.length out.length) 1 out.length (aY out)∧∃(f:List Ent) (h:Nat),cH S w0 w f∧f[h]?=ax (Ent.mem c):=by
 have a:cH S w0 w ([lnE d b out.length]++([lrE b out]++R)):=a;have a:cH S w0 w (.cells b (aY out) 3::(lnE d b out.length::R)):=a.front;have a:=a.toU 1 out.length out.length (by rw[fC,atY]) (atE _) om;rw[atY,auG (by rw[fC];exact atE _)] at a;obtain⟨c,g,i,a⟩:=cH.bV a (j+1) (by rw[auT];exact e);refine⟨c,g,i,_,j+1,a,?_⟩;rw[awU (by
  have:=(atT.1 e).1;simp only[atW];omega)]
theorem Er {l:List Cn}(h:ps.map (·.2)=l):ps.length=l.length:=by rw[<-h,atV]
theorem Cn.abG {L:List Cn}(hL:Cn.Lv L Sy)(h:Cn.Row L t r){n:Nat}(a:∀s∈Sy,s < n):∀x∈r,∀s,0 < x.cnt s->s < n:=by
 intro x b s c;by_cases hm:s∈Sy
 ·exact a s hm
 ·have:=h.none hL hm x b;omega
theorem sj (h:Srt.srt pw ps):Cn.sorted (ps.map (·.2)):=by
 unfold Cn.sorted;rw[List.pairwise_map];exact h
theorem AV (counts:List Nat)(most:Nat)(v:aq)(M:Mem)(w:ao)(hM:M.has w)(hs:SlA M.A M.w v 1 counts.length (aY counts))(hl:counts.length<=288)(l6:0 < counts.length)(hc:∀c∈counts,c<=2147483647)(hm:1<=most)(h5:most<=15)(hu:(dn counts).length<=2 ^ most) :
  jJ ah 298 #[v,ad (most:Int)] M w (λr N=>∃lens r',r=.tuple #[r',ad 0]∧Df.OQ counts lens most∧r'.oneCell'=av∧SlA N.A N.w r' 1 lens.length (aY lens)):=by
 refine aU hM λK hK=>GW ?_;unfold DF nz;have d:cH M.A w w [.mem M]:=cH.memS hM;rw[aZ auA (hs.now hM)];simp only[rs,show ai ((288:Int) < (counts.length:Int))=au from asZ om,show ai ((most:Int) < 1)=au from asZ om,show ai ((15:Int) < (most:Int))=au from asZ om,i_f];rw[aZ auA (hs.now hM)];have d:cH M.A w w [.urow 342 1 cO 0 [],.mem M]:=cH.nilU (L:=[.mem M]) d _ _;refine loop (λvs W=>∃(i:Nat) (v':aq) (qs:List Pc) (N:Mem),vs=[v',ad (i:Int)]∧i<=counts.length∧M.le N∧qs.map (·.2)=lr counts i∧(∀x∈qs,okM N x)∧cH M.A w W [pcE v' qs,.mem N]) (λvs _=>counts.length - n1 vs) ⟨0,cO,[],M,rfl,om,M.le_refl,rfl,(λx y=>by cases y),d⟩ ?_;clear d;rintro vs w1 ⟨i,v',qs,N,rfl,hi,hle,I,O,d⟩ _;simp only[zC,gd,rs,nz];have l7:=Er I;have l8:=V0 counts i;by_cases b9:(i:Int) < (counts.length:Int)
 ·simp only[b9,asX,i_t];have a6:i < counts.length:=om
  refine join λJ hJ=>?_;obtain⟨b2,off,r1,r2⟩:=oU (hs.now (Mem.DM hle (d.hasM 1 rfl))) a6;refine aC (r1 w1) |>.mpr (aC (aB bZ r2) |>.mpr ?_);have h6:=hc _ (atP a6);have h7:counts.getD i 0=counts[i]:=by rw[atD,atI a6];rfl
  have l:=wv counts i;rw[h7] at l;generalize counts[i]=ci at h6 l;simp only[rs,show ai ((ci:Int) < 0)=au from asZ om,show ai ((2147483647:Int) < (ci:Int))=au from asZ om,i_f];have fin:∀(W:ao) (v2:aq) (E:List Pc) (H:Mem),N.le H->E.map (·.2)=lr counts (i+1)->(∀x∈E,okM H x)->cH M.A w W [pcE v2 E,.mem H]->J [v2] W:=by
   intro W v2 E H g S P d;refine hJ _ _ λ_=>?_;simp only[zX,gd,rs,nz];rw[aA om om];exact aS ⟨i+1,v2,E,H,rfl,om,hle.trans g,S,P,d⟩ (by simp[n1,RowKit.intOf];omega)
  by_cases h0:0 < ci
  ·simp only[show ai ((0:Int) < (ci:Int))=av from atA om,i_t];rw[asU h0] at l;have mb:∀{PK:PKT} {K:VWP},DoX ah (aW 344 #[(0,ad (ci:Int)),(1,ad (i:Int))]) w1 PK K=K (.agg (cnC ci i (.pointer aw) (.pointer aw)).toArray) w1:=aC krx;rw[mb];refine bI (λb=>af b 0) (cnC ci i (.pointer aw) (.pointer aw)) 344 (λ_=>by kernel_rfl) d λnb w3 d=>?_;have h8:=d.at_ 0 rfl;obtain⟨N1,g1,h9,c0,d⟩:=cH.freeze (L:=[pcE v' qs,.mem N]) d 1 rfl;have hz:okM N1 (af nb 0,.leaf ci i):=⟨nb,rfl,c0 nb rfl,by rw[h9];exact h8⟩;have d:cH M.A w w3 [pcE v' qs,.mem N1]:=d;refine bI (λb=>bR b 0 1 1) [af nb 0] 342 (λ_=>by kernel_rfl) d λsb w4 d=>?_;refine bL 1 avX Nj dc d rfl (gS (d.at_ 0 rfl) dc rfl) (λu hu=>by rw[auB.1 hu];rfl) om om λv2 w5 d=>?_;have d:cH M.A w w5 [pcE v2 (qs++[(af nb 0,.leaf ci i)]),.mem N1]:=by
    unfold pcE;rw[Rx,asY];exact d.tail
   refine fin w5 v2 _ N1 g1 (by rw[auJ,I,l];rfl) (λu hu=>?_) d;rcases auF.1 hu with h|h
   ·exact (O u h).le g1
   ·rw[auB.1 h];exact hz
  ·simp only[show ai ((0:Int) < (ci:Int))=au from asZ om,i_f];rw[asT h0,atX] at l;exact fin w1 v' qs N N.le_refl (by rw[I,l]) O d
 ·simp only[b9,asW,i_f];have j0:i=counts.length:=om
  subst j0;rw[wu] at I;have z:=wa counts;have c4:qs.length=(dn counts).length:=by rw[Er I,z.len]
  have l9:2 ^ most<=2 ^ 15:=avP dc h5;have m0:(2:Nat) ^ 15=32768:=rfl;rw[Ku (d.at_ 0 rfl),Fa om];have q:=Zb (a:=1) (k:=most) om om;rw[ayU] at q;have q:IntKind.i64.wrap ((1:Int)*2 ^ min ((most:Nat):Int).toNat IntKind.i64.bits)=((2 ^ most:Nat):Int):=q;rw[q];simp only[rs,show ai (((2 ^ most:Nat):Int) < (qs.length:Int))=au from asZ om,i_f];rw[aZ auA (hs.now (Mem.DM hle (d.hasM 1 rfl)))];refine B9 om d λo w2 d=>?_;refine bI (λb=>af b 0) [.slice aw 0 0] 123 (λ_=>by kernel_rfl) d λU w3 d=>?_;refine aN 0 d rfl krx rfl (by show 0 < 1;omega) λw4 d=>?_;have j1:aY (List.replicate counts.length 0)=List.replicate counts.length (ad 0):=by simp[aY]
  have d:cH M.A w w4 (lnE U o (List.replicate counts.length 0).length::lrE o (List.replicate counts.length 0)::[pcE v' qs,.mem N]):=by
   unfold lrE;rw[j1,auK];exact d
  refine join λJ3 j3=>?_;rw[Ku (d.at_ 2 rfl)];simp only[rs];have fin:∀(W:ao) (out:List Nat),out.length=counts.length->(qs.length < 2->Df.OQ counts out most)->(2<=qs.length->out=List.replicate counts.length 0)->cH M.A w W (lnE U o out.length::lrE o out::[pcE v' qs,.mem N])->J3 [] W:=by
   intro W out Q S P d;refine j3 _ _ λ_=>?_;unfold zH nz;rw[Ku (d.at_ 2 rfl)];simp only[rs];by_cases j4:qs.length < 2
   ·simp only[show ai ((qs.length:Int) < 2)=av from atA om,i_t];rw[aR H5 (d.cell 0 rfl 0 rfl)];obtain⟨H,g2,B,L2,j2,a7,a8⟩:=acJ (j:=1) d rfl om;exact hK _ _ H L2 j2 a7 a8 (hle.trans g2) ⟨out,_,rfl,S j4,rfl,B⟩
   ·simp only[show ai ((qs.length:Int) < 2)=au from asZ om,i_f];have P:=P om;subst P;have j5:=dO (d.at_ 2 rfl);have d:cH M.A w W ([lnE U o (List.replicate counts.length 0).length,lrE o (List.replicate counts.length 0)]++([pcE v' qs]++[.mem N])):=d;obtain⟨H,g2,j6,d⟩:=cH.bV (L:=[lnE U o (List.replicate counts.length 0).length,lrE o (List.replicate counts.length 0)]++[.mem N]) d.front 2 rfl;have d:cH M.A w W [lnE U o (List.replicate counts.length 0).length,lrE o (List.replicate counts.length 0),.mem H]:=d;refine bG d 2 rfl (KU qs [] v' cO H W (d.hasM 2 rfl) j6 (SlA.nil _ _ _ _) (λx y=>(O x y).le g2) (λx y=>by cases y) om om sm j5 rfl) ?_;rintro lv N3 w5 g3 ⟨ls,b0,j7,c5,c6,F⟩ d;rw[atX] at b0;have c7:(ls.map (·.2)).Perm (lq counts):=by rw[<-I];exact b0.map _
    have m1:ls.length=(dn counts).length:=by rw[b0.length_eq,c4]
    have R:=z.len;have m2:(dn counts).length<=288:=by
     have:=aAt (λs=>ai (0 < counts.getD s 0)) (List.range counts.length);rw[aAu] at this;have e:(dn counts).length<=counts.length:=this;omega
    rw[aA om om];refine loop (λvs V=>∃(k:Nat) (rv:aq) (rs:List Pc) (N':Mem),vs=[rv,ad (k:Int)]∧k<=most - 1∧N3.le N'∧Cn.Row (lq counts) k (rs.map (·.2))∧(∀x∈rs,okM N' x)∧rv.oneCell'=av∧SlA N'.A N'.w rv 1 rs.length (pcW rs)∧cH M.A w V [lnE U o (List.replicate counts.length 0).length,lrE o (List.replicate counts.length 0),.mem N']) (λvs _=>most - n1 vs) ⟨0,lv,ls,N3,rfl,om,N3.le_refl,.zero (sj j7) c7,c5,c6,F,d⟩ ?_;clear d;rintro vs w6 ⟨k,rv,rws,N4,rfl,hk,g4,f,c8,m3,t,d⟩ _;simp only[yW,gd,rs,nz];have j8:=f.lt om;rw[atV,R] at j8;by_cases X:(k:Int) < (most:Int) - 1
    ·simp only[X,asX,i_t];have l3:=f.amS;have c9:=wx hc counts.length;rw[wu] at c9;have m4:(k+1)*Cn.sum Cn.wt (lq counts)<=15*(288*2147483647):=awX om (avH c9 (awX hl (atE _)));have j9:∀x∈rws,pw x<=1000000000000000:=λx y=>by
      have S:x.2.wt<=Cn.sum Cn.wt (rws.map (·.2)):=Cn.QU (auH.2 ⟨x,y,rfl⟩);show x.2.wt<=_;omega
     refine bG d 2 rfl (Uc rws rv N4 w6 (d.hasM 2 rfl) t c8 om j9) ?_;rintro pv N5 w7 g5 ⟨qq,e0,e3,e4,e5⟩ d;have l4:qq.length<=1000000:=by
      rw[Er e0,Cn.Fw,atV];omega
     refine bG d 2 rfl (KU ls qq lv pv N5 w7 (d.hasM 2 rfl) (F.le (g4.trans g5)) e5 (λx y=>(c5 x y).le (g4.trans g5)) e3 om om om c6 e4) ?_;rintro k0 N6 w8 g6 ⟨k1,k2,k3,e6,k4,b1⟩ d
     try simp only[rs]
     rw[aA om om];refine aS ⟨k+1,k0,k1,N6,rfl,om,g4.trans (g5.trans g6),.succ f (sj k3) ?_,e6,k4,b1,d⟩ (by simp[n1,RowKit.intOf];omega);have:=k2.map (·.2);rw[auJ,e0] at this;exact this.trans (c7.append_right _)
    ·simp only[X,asW,i_f];have b3:k=most - 1:=om
     obtain⟨c1,c2,c3⟩:=f.code z om (by rw[b3,show most - 1+1=most by omega,R];exact hu);rw[atV,R] at c1;rw[R] at c2 c3;rw[aZ avX ((F.le g4).now (d.hasM 2 rfl))];simp only[rs];rw[aA (n:=(2:Int)*(ls.length:Int)) om om,aA om om,show (2:Int)*(ls.length:Int) - 2=((2*(dn counts).length - 2:Nat):Int) by omega];generalize hD:2*(dn counts).length - 2=D at c1 c2 c3;obtain⟨rb,e7,Y,rfl,_⟩:=bU t.1 om;have l5:=t.2.2 _ _ _ rfl;refine aC (iW avX GR om om) |>.mpr ?_;rw[atC];have C:=SlA.XX t (i:=D) c1 (λh=>by omega);rw[atY] at C;generalize m5:Value.slice (wF (ax ⟨rb,e7,aw⟩) 0 Y 1) D Y=sv at C;have e8:pcW (rws.take D)=(pcW rws).take D:=by unfold pcW;rw[ayY]
     have Z:(rws.take D).length=D:=by rw[atF];omega
     have C:SlA N4.A N4.w sv 1 (rws.take D).length (pcW (rws.take D)):=by rw[e8,Z];exact C
     rw[aZ avX (C.now (d.hasM 2 rfl)),Z];have k5:((rws.map (·.2)).take D).Nodup:=(aAs _ _).nodup (f.nodup z).1;have e9:=f.levels z _ k5 (λx y=>avQ y) (Cn.R4 f.sorted D);have k6:∀s∈dn counts,s < counts.length:=λs hs=>by
      have:=lj.1 hs;rcases auC s counts.length with h'|h'
      ·exact h'
      ·rw[atD,avJ h'] at this;exact absurd this (ayG _)
     have b4:=Cn.abG z f k6;refine loop (λvs V=>∃(i:Nat) (out:List Nat),vs=[ad (i:Int)]∧i<=D∧out.length=counts.length∧(∀s,out.getD s 0=Cn.sum (Cn.cnt s) ((rws.take i).map (·.2)))∧cH M.A w V [lnE U o out.length,lrE o out,.mem N4]) (λvs _=>D - n0 vs) ⟨0,List.replicate counts.length 0,rfl,om,auK,λs=>by
      rw[atD,azS];split<;>rfl,d⟩ ?_
     clear d;rintro vs w7 ⟨j,out,rfl,hj,Q,G,d⟩ _;simp only[zM,gd,rs,nz];by_cases a1:(j:Int) < (D:Int)
     ·simp only[a1,asX,i_t];have k7:j < (rws.take D).length:=om
      have b5:j < rws.length:=om
      obtain⟨p,ia,ld⟩:=pcAt C k7;refine aC (ia w7) |>.mpr (aC (ld w7 (d.hasM 2 rfl)) |>.mpr ?_)
      try rw[AQ]
      rw[azP];have y:=c8 _ (atP b5);have h3:∀s,Cn.sum (Cn.cnt s) ((rws.take (j+1)).map (·.2))=Cn.sum (Cn.cnt s) ((rws.take j).map (·.2))+rws[j].2.cnt s:=λs=>by
       rw[auD b5,auJ,Cn.JK];rfl
      have k8:∀s,Cn.sum (Cn.cnt s) ((rws.take (j+1)).map (·.2))<=k+1:=λs=>by
       have S:=(e9 s).1;have P:(rws.map (·.2)).take D=(rws.take (j+1)).map (·.2)++((rws.drop (j+1)).take (D - (j+1))).map (·.2):=by
        rw[<-ayY,<-auJ]
        congr 1
        conv=>lhs;rw[show D=j+1+(D - (j+1)) by omega,List.take_add]
       rw[P,Cn.JK] at S;omega
      refine Xp (jm:=0) (T:=[.mem N4]) rfl rws[j].2 d y (λs h=>by rw[Q];exact b4 _ (auH.2 ⟨rws[j],atP b5,rfl⟩) s h) (λs=>by rw[G,<-h3];have:=k8 s;omega) λW2 h4 S P d=>?_
      try simp only[rs]
      rw[aA om om];exact aS ⟨j+1,h4,rfl,om,by rw[S,Q],λs=>by rw[P,G,h3],d⟩ (by simp[n0,RowKit.intOf];omega)
     ·simp only[a1,asW,i_f];have k9:j=D:=om
      subst k9;rw[aR H5 (d.cell 0 rfl 0 rfl)];obtain⟨N5,g5,B,L2,j2,a7,a8⟩:=acJ (j:=0) d rfl om;refine hK _ _ N5 L2 j2 a7 a8 (hle.trans (g2.trans (g3.trans (g4.trans g5)))) ⟨out,_,rfl,?_,rfl,B⟩;have:=P0 (counts:=counts) (lens:=out) (m:=k) om f om (by rw[b3,show most - 1+1=most by omega];exact hu) hl Q λs _=>by
       rw[G,hD,ayY]
      rw[b3,show most - 1+1=most by omega] at this;exact this
  by_cases l0:qs.length=1
  ·simp only[show ai ((qs.length:Int)=1)=av from atA om,i_t];obtain⟨u,rfl⟩:=ayH.1 l0;have b6:=O u (aAw u);obtain⟨s,b7⟩:∃s,dn counts=[s]:=ayH.1 (by rw[<-c4];rfl);have l1:u.2=.leaf (counts.getD s 0) s:=by
    unfold lq at I;rw[b7] at I;exact (List.cons.inj I).1
   have B:s < counts.length:=by
    have:s∈dn counts:=by rw[b7];exact aAw s
    have:=lj.1 this;rcases auC s counts.length with h'|h'
    ·exact h'
    ·rw[atD,avJ h'] at this;exact absurd this (ayG _)
   unfold okM at b6;rw[l1] at b6;obtain⟨ub,l2,hA,b8⟩:=b6;obtain⟨g,cap,rfl⟩:=qL (d.at_ 2 rfl) sm;refine cQ (λV=>cH M.A w V (lnE U o (List.replicate counts.length 0).length::lrE o (List.replicate counts.length 0)::[pcE (bR g 0 [u].length cap) [u],.mem N])) d.drew ?_;refine iL _ (λV h=>aB H5 (h.cell 0 rfl 0 rfl)) ?_;refine gr _ (λV=>sO (i:=0) sm V) (iL u.1 (λV h=>A9 (i:=0) (h.at_ 2 rfl) sm) ?_);rw[l2];refine gr _ (λ_=>cR) (gr _ (λ_=>bC adC) (iL (ad (s:Int)) (λV h=>aB bZ (aG (T:=344) (cs:=cnC (counts.getD s 0) s (.pointer aw) (.pointer aw)) (lJ (h.hasM 3 rfl) hA b8) (i:=1) rfl)) ?_));refine gr _ (λV=>Wg (by rw[auK];exact B) V) ?_;intro w5 d;refine aN 1 d rfl krx rfl (by rw[fC,auK];exact B) λw6 d=>?_;have e1:(aY (List.replicate counts.length 0)).set s (ad 1)=aY ((List.replicate counts.length 0).set s 1):=CQ _ _ _;rw[e1] at d;refine fin w6 ((List.replicate counts.length 0).set s 1) sm (λ_=>zd hl b7 hm) (λh=>absurd h sm) ?_;have e2:((List.replicate counts.length 0).set s 1).length=(List.replicate counts.length 0).length:=avS;rw[e2];exact d
  ·simp only[show ai ((qs.length:Int)=1)=au from asZ om,i_f];refine fin w4 _ auK (λh=>?_) (λ_=>rfl) d;exact Q0 hl (awO.1 om) most
def prC (a b:Nat):List Value:=[af a 0,af b 0]
def prV (a b:Nat):Value:=.agg (prC a b).toArray
theorem P3:kC ah 296 0=ax 0:=krx
theorem VC:kC ah 296 1=ax 1:=krx
theorem anT:I2 ah 296=ax 2:=krx
theorem W0 {far:List Nat}(a:∀l∈near,l<=15)(b:∀l∈far,l<=15){x:bo}{m:Nat}(h:ic m x):(fg near far x).length<=48:=by
 have c:∀i,near.getD i 0<=15:=jt a dc;have e:∀i,far.getD i 0<=15:=jt b dc;unfold fg;unfold ic at h;by_cases d:x.2.1=0
 ·rw[asU d,fw];have:=c x.1.toNat;omega
 ·rw[asT d] at h ⊢;obtain⟨_,_,_,_,_,f⟩:=mn h.2.1 h.2.2.1;obtain⟨_,_,_,_,f5⟩:=nd h.2.2.2.1 h.2.2.2.2.1;simp only[asY,fw,bw];have:=c (cg x.2.1).1;have:=e (dw x.2.2).1;omega
theorem pf {near far:List Nat}(a:∀l∈near,l<=15)(b:∀l∈far,l<=15):∀{l:List bo},(∀x∈l,∃m,ic m x)->(l.flatMap (fg near far)).length<=48*l.length
|[],_=>atE _
|x::l,h=>by
  obtain⟨m,hm⟩:=h x (auV ..);have d:=W0 a b hm;have e:=pf a b λy c=>h y (auE _ c);rw[avE,asY,atW];omega
theorem X0 (near far:List Nat)(l:List bo):br (l.flatMap (fg near far)):=λb a=>by
 obtain⟨x,_,c⟩:=ayK.1 a;exact uz near far x b c
section
variable {w:ao}{PK:PKT}{K:VWP}{S:Nat->Prop}{w0:ao}{L T:List Ent}
theorem VN (a:cH S w0 w L)(k:∀b w',cH S w0 w' (ptE b (0,0,0)::L)->K (af b 0) w'):DoX ah (DO 291) w PK K:=
 bI (λb=>af b 0) (ptC (0,0,0)) 291 (λ_=>by kernel_rfl) a k
theorem OJ (j:Nat){x y:bo}(a:cH S w0 w L)(hi:L[j]?=ax (ptE b x))(k:∀w',cH S w0 w' (L.set j (ptE b y))->K undef w') :
  DoX ah (aV 291 (af b 0) (ptV y)) w PK K:=GD j a hi (new:=ptC y) szPt Yc (by show 0+3<=3;omega) k
theorem pt_0 (a:cH S w0 w L)(j:Nat){x:bo}(hi:L[j]?=ax (ptE b x)):DoX ah (aK 5 (af b (0+0))) w PK K=K (.int .u8 (x.1.toNat:Int)) w:=aR M1 (a.cell j hi 0 rfl)
theorem pt_1 (a:cH S w0 w L)(j:Nat){x:bo}(hi:L[j]?=ax (ptE b x)):DoX ah (aK 3 (af b (0+1))) w PK K=K (ad (x.2.1:Int)) w:=aR bZ (a.cell j hi 1 rfl)
theorem pt_2 (a:cH S w0 w L)(j:Nat){x:bo}(hi:L[j]?=ax (ptE b x)):DoX ah (aK 3 (af b (0+2))) w PK K=K (ad (x.2.2:Int)) w:=aR bZ (a.cell j hi 2 rfl)
theorem Tg {g:Nat}{far:List Nat}{pv:aq}{ps:List bo}(a:cH S w0 w (Wr b way l v T))(hm:T[jm]?=ax (.mem M))(t:TbW M.A M.w g near)(V:TbW M.A M.w tb far)
  (u:bj near=0) (X:bj far=0) (d:∀l∈near,l<=15) (h:∀l∈far,l<=15) (D:0 < near.getD 256 0) (E:SlA M.A M.w pv 3 ps.length (ps.flatMap ptC)) (hh:∀x∈ps,fe near far x) (F:jb 0 ps) (b7:ps.length<=1048576)
  (G:br l) (hw:way=0∨way=1) (hl:l.length<=100000000) (k:∀way' v' W,(way'=0∨way'=1)->cH S w0 W (Wr b way' (l++dm near far ps) v' T)->K (.tuple #[]) W) :
  dZ ah 296 #[prV g tb,af b 0,pv] w PK K:=by
 refine fY (yT (k0:=wM λv W=>v=.tuple #[]∧∃way' v',(way'=0∨way'=1)∧cH S w0 W (Wr b way' (l++dm near far ps) v' T)) ?_) (λe W ⟨v,he,hv,way',v',Y,a⟩=>by subst he;subst hv;exact k way' v' W Y a);unfold pA nz;refine bI (λb=>af b 0) (prC g tb) 296 (λ_=>by kernel_rfl) a λo Z a=>?_;have a:cH S w0 Z (([.cells o (prC g tb) 296]:List Ent)++([wrE b way l.length v,kQ v (az l)]++T)):=a;have a:cH S w0 Z (Wr b way l v (.cells o (prC g tb) 296::T)):=a.front;have H:∀{W:ao} {way:Int} {l:List Nat} {v:aq} {e:Ent},cH S w0 W (Wr b way l v (e::T))->M.has W:=λa=>a.hasM (jm+3) (by rw[auT,auT,auT];exact hm);rw[aZ aAx (E.now (H a))];refine loop (λvs W=>∃(i:Nat) (way':Int) (v':aq),vs=[ad (i:Int)]∧i<=ps.length∧(way'=0∨way'=1)∧cH S w0 W (Wr b way' (l++(ps.take i).flatMap (fg near far)) v' (.cells o (prC g tb) 296::T))) (λvs _=>ps.length - n0 vs) ⟨0,way,v,rfl,om,hw,by show cH S w0 Z (Wr b way (l++[]) v _);rw[atX];exact a⟩ ?_;clear a hw;rintro vs w2 ⟨i,way',v',rfl,hi,hw,a⟩ _;simp only[mG,gd,rs,nz];have I:=pf d h (l:=ps.take i) λx q=>mj F x (avQ q);rw[atF,auM hi] at I;have j:=X0 near far (ps.take i);by_cases L:(i:Int) < (ps.length:Int)
 ·have r:i < ps.length:=om
  simp only[L,asX,i_t];obtain⟨p,a1,N⟩:=ptAt E r;refine join λJ hJ=>?_;rw[aC (a1 w2),aC (N w2 (H a))];have q:=hh _ (atP r);obtain⟨mx,c⟩:=mj F _ (atP r);have a6:ps.take (i+1)=ps.take i++[ps[i]]:=auD r;have fin:∀(W:ao) (way':Int) (v':aq) (s:Nat),(way'=0∨way'=1)->cH S w0 W (Wr b way' (l++(ps.take i).flatMap (fg near far)++fg near far ps[i]) v' (ptE s ps[i]::.cells o (prC g tb) 296::T))->J [] W:=by
   intro W way' v' s hw a;refine hJ _ _ λ_=>?_;simp only[mL,gd,rs,nz];rw[aA om om];refine aS ⟨i+1,way',v',rfl,om,hw,?_⟩ (by simp[n0,RowKit.intOf];omega);rw[a6,ayZ,azU,<-atJ];have a:cH S w0 W ((Wr b way' (l++(ps.take i).flatMap (fg near far)++fg near far ps[i]) v' [])++([ptE s ps[i]]++(.cells o (prC g tb) 296::T))):=a;exact a.front.tail
  generalize ps[i]=x at q c N fin;generalize hB:l++(ps.take i).flatMap (fg near far)=B at a fin;have b8:B.length<=200000000:=by rw[<-hB,asY];omega
  have m:br B:=by rw[<-hB];exact bz G j
  refine VN a λs w3 a=>?_;refine OJ (y:=x) 0 a rfl λw4 a=>?_;have a:cH S w0 w4 ([ptE s x]++(Wr b way' B v' []++(.cells o (prC g tb) 296::T))):=a;have a:cH S w0 w4 (Wr b way' B v' (ptE s x::.cells o (prC g tb) 296::T)):=a.front;have n:(ptE s x::.cells o (prC g tb) 296::T)[jm+2]?=ax (.mem M):=by rw[auT,auT];exact hm
  unfold fe at q;unfold fg at fin;unfold ic at c;rw[aO Hy,pt_1 a 2 rfl];simp only[rs];by_cases R:x.2.1=0
  ·rw[asU R] at q c;simp only[asU R] at fin;simp only[show ai ((x.2.1:Int)=0)=av from atA om,i_t];rw[aO P3,aR SH (a.cell 3 rfl 0 rfl),aO Yw,pt_0 a 2 rfl];have hc:=x.1.toNat_lt;refine aC (bA krx auQ) |>.mpr ?_;rw[aA om om];refine ER (i:=x.1.toNat) a n t u d q m hw om λf v5 U z a=>?_;exact fin U f v5 s z a
  ·rw[asT R] at q c;simp only[asT R] at fin;obtain⟨s1,s2,s3,s4,s5,s6⟩:=mn c.2.1 c.2.2.1;obtain⟨f1,f2,f3,f4,f5⟩:=nd c.2.2.2.1 c.2.2.2.2.1;simp only[show ai ((x.2.1:Int)=0)=au from asZ om,i_f];rw[aO Hy,pt_1 a 2 rfl];refine aJ a (O2 x.2.1 w4 c.2.1 c.2.2.1) ?_;rintro _ U rfl a;simp only[ex];rw[aO P3,aR SH (a.cell 3 rfl 0 rfl)];have n1:near.getD (cg x.2.1).1 0<=15:=jt d dc _;have n2:far.getD (dw x.2.2).1 0<=15:=jt h dc _;refine ER (i:=(cg x.2.1).1) a n t u d q.1 m hw om λb4 v6 w6 a7 a=>?_;have O:=bz m (lz near (cg x.2.1).1);refine pT a O a7 om s5 (by rw[asY,fw];omega) λb5 v7 w7 a8 a=>?_;have P:=bz O (ej (cg x.2.1).2.1 (cg x.2.1).2.2);rw[aO aeD,pt_2 a 2 rfl];refine aJ a (PT x.2.2 w7 c.2.2.2.1 c.2.2.2.2.1) ?_;rintro _ w8 rfl a;simp only[ex];rw[aO VC,aR SH (a.cell 3 rfl 1 rfl)];refine ER (i:=(dw x.2.2).1) a n V X h q.2 P a8 (by simp only[asY,fw,bw];omega) λb6 v9 w9 b0 a=>?_;have b1:=bz P (lz far (dw x.2.2).1);refine pT a b1 b0 om f4 (by simp only[asY,fw,bw];omega) λC v10 b2 Q a=>?_;refine fin b2 C v10 s Q ?_;simp only[atJ] at a ⊢;exact a
 ·simp only[L,asW,i_f];have b3:i=ps.length:=om
  subst b3;rw[auZ] at a I j;have n:(.cells o (prC g tb) 296::T)[jm+1]?=ax (.mem M):=by rw[auT];exact hm
  rw[aO P3,aR SH (a.cell 2 rfl 0 rfl)];refine ER (i:=256) a n t u d D (bz G j) hw (by rw[asY];omega) λf v5 U z a=>?_;refine vB ⟨rfl,f,v5,z,?_⟩;unfold dm;rw[<-atJ];have a:cH S w0 U ((Wr b f (l++ps.flatMap (fg near far)++dt near 256) v5 [])++([.cells o (prC g tb) 296]++T)):=a;exact a.front.tail
end
theorem TbW.le {M N:Mem}(h:M.le N){b:Nat}{lens:List Nat}(k:TbW M.A M.w b lens):TbW N.A N.w b lens:=by
 obtain⟨a,c,o,d,e,f,g,i⟩:=k;refine⟨a,c,o,h.A b d,?_,f.le h,g.le h,i.le h⟩;show N.w.heap[b]?=_;rw[h.has b d];exact e
theorem Ve (ps:List bo)(s:aq)(M:Mem)(w:ao)(i:M.has w)(k:SlA M.A M.w s 3 ps.length (ps.flatMap ptC))(c:jb 0 ps)(m:ps.length<=1048576) :
  jJ ah 267 #[s] M w (λv _=>v=ae (az (iy ps))):=by
 refine aU i λK F=>EX ?_;unfold Bl nz;have a:cH M.A w w [.mem M]:=cH.memS i;refine bG a 0 rfl (Me M w i) ?_;rintro _ N1 T g1 ⟨va,G,rfl,H,f⟩ a;simp only[ex];refine bI (λb=>af b 0) [.pointer aw,.pointer aw] 296 (λ_=>by kernel_rfl) a λI w2 a=>?_;have U:di.length=288:=by decide +kernel
 refine bG a 1 rfl (AU di va N1 w2 nf om om (a.hasM 1 rfl) H) ?_;rintro _ J w3 g3 t a;rw[asT (by rw[nv];exactλh=>h rfl)] at t;obtain⟨y,rfl,d⟩:=t;simp only[ex];rw[aO P3];refine aN 0 a rfl krx rfl (by show 0+0 < 2;omega) λL a=>?_;refine bG a 1 rfl (AU dp G J L ow (by rw[mz];omega) (by rw[mz];omega) (a.hasM 1 rfl) (f.le g3)) ?_;rintro _ z V g5 B a;rw[asT (by rw[nw];exactλh=>h rfl)] at B;obtain⟨tb,rfl,o⟩:=B;simp only[ex];rw[aO VC];refine aN 0 a rfl krx rfl (by show 0+1 < 2;omega) λN a=>?_;have a:cH M.A w N [.cells I (prC y tb) 296,.mem z]:=a;have d:=TbW.le g5 d;refine Yb a λb X a=>?_;refine pT (x:=1) (n:=1) a (λb f=>by cases f) (.inl rfl) om dc sm λC v1 Y p a=>?_;have g:br ([]++bf 1 1):=bz (λb f=>by cases f) (ej 1 1);refine pT (x:=1) (n:=2) a g p om dc (by simp[bw]) λD v2 Z q a=>?_;have r:=bz g (ej 1 2);refine aC (bB (AtV.agg anT (cs:=prC y tb) rfl λj u O=>by rw[atK];exact a.cell 2 rfl j O)) |>.mpr ?_;refine Tg (jm:=1) a rfl d o nv nw nf ow (ou dc) (k.le (g1.trans (g3.trans g5))) (vo c) c m r q (by simp[bw]) λE v3 P Q a=>?_;have e:[]++bf 1 1++bf 1 2++dm di dp ps=iy ps:=by unfold iy;simp
 rw[e] at a;have hl:(iy ps).length<=100000000:=by
  unfold iy dm;have:=pf nf ow (l:=ps) λx R=>mj c x R;have S:di.getD 256 0<=15:=jt nf dc _;simp only[asY,bw,fw];omega
 refine Rv a (by unfold iy;simp only[asY,bw];omega) om λW a=>?_;exact F _ _ z _ 1 a rfl (g1.trans (g3.trans g5)) rfl
theorem Qp {g n:Nat}{k:IntKind}(hi:i < n)(W:ao):(mIA 123 (bR g 0 n cap) (.int k (i:Int))).run ah W=.ok (.value (af g i)) W:=by
 have:=dP (P:=ah) (T:=123) (b:=g) (off:=0) (cap:=cap) (n:=n) (k:=k) (i:=(i:Int)) (w:=W) auA P4 om om
 rwa [atC,atY,atK] at this
def ly (l:List Nat)(j:Nat):List Nat:=l.set j (l.getD j 0+1)
theorem pg (l:List Nat)(j:Nat):(ly l j).length=l.length:=avS
theorem ph (a:j < l.length)(k:Nat):(ly l j).getD k 0=l.getD k 0+(if j=k then 1 else 0):=by
 unfold ly;rw[atD];by_cases h:j=k
 ·subst h;rw[awU a];simp
 ·rw[azQ h,<-atD,asT h];rfl
theorem zl {a b a' d:List Nat}{x:bo}(h:fe a b x)(e:∀i,a.getD i 0<=a'.getD i 0)(f:∀i,b.getD i 0<=d.getD i 0):fe a' d x:=by
 unfold fe at h ⊢;split
 ·rename_i c;rw[asU c] at h;exact avR h (e _)
 ·rename_i c;rw[asT c] at h;exact⟨avR h.1 (e _),avR h.2 (f _)⟩
theorem ra {B:Nat}(h:∀i,l.getD i 0<=B):∀c∈l,c<=B:=by
 intro c a;obtain⟨i,hi,rfl⟩:=awK a;have:=h i;rw[atD,atI hi] at this;exact this
section
variable {w:ao}{PK:PKT}{K:VWP}{S:Nat->Prop}{w0:ao}{L T:List Ent}
theorem ZB (i:Nat){g n:Nat}{k:IntKind}{PK3 c d:PKT}{N:ao->Prop}(a:cH S w0 w L)(hi:L[i]?=ax (lrE g l))(e:l.length=n)(b:j < n)(h:l.getD j 0<=1000000000)(f:∀W,cH S w0 W (L.set i (lrE g (ly l j)))->N W) :
  DoX ah (mIA 123 (bR g 0 n n) (.int k (j:Int))) w PK λt w=>DoX ah (aK 3 t) w PK2 λt w=>DoX ah (iA .add 3 t (ad 1)) w PK3 λt2 w=>DoX ah (mIA 123 (bR g 0 n n) (.int k (j:Int))) w c λt w=>DoX ah (aV 3 t t2) w d λ_ w=>N w:=by
 subst e;refine aC (Qp b w) |>.mpr ?_;rw[aR bZ (a.cell i hi j (GU b)),Kn,aA om om,show ((l.getD j 0:Nat):Int)+1=((l.getD j 0+1:Nat):Int) by omega];refine aC (Qp b w) |>.mpr ?_;refine aN i a hi krx rfl (by rw[fC];exact b) λw2 a=>?_;rw[CQ] at a;exact f w2 a
end
theorem OO (ps:List bo)(Q:aq)(M:Mem)(w:ao)(hM:M.has w)(C:SlA M.A M.w Q 3 ps.length (ps.flatMap ptC))(R:jb 0 ps)(a7:ps.length<=1048576) :
  jJ ah 297 #[Q] M w (λr N=>∃va vb ca cb,r=.tuple #[va,vb]∧SlA N.A N.w va 1 ca.length (aY ca)∧SlA N.A N.w vb 1 cb.length (aY cb)∧ca.length=286∧cb.length=30∧0 < ca.getD 256 0∧(∀x∈ps,fe ca cb x)∧(∀c∈ca,c<=2147483647)∧(∀c∈cb,c<=2147483647)):=by
 refine aU hM λK hK=>C7 ?_;unfold wG iN dx;have a:cH M.A w w [.mem M]:=cH.memS hM;have H:∀n:Nat,aY (List.replicate n 0)=List.replicate n (ad 0):=λn=>by simp[aY]
 have body:∀(W:ao) (s o:Nat),cH M.A w W [lrE s (List.replicate 286 0),lrE o (List.replicate 30 0),.mem M]->eS Q (bR s 0 286 286) (bR o 0 30 30) W K:=by
  intro W s o a;unfold eS iN iax stx lnx;refine aC (Qp (i:=256) (k:=.i64) dc W) |>.mpr ?_;refine aN 0 a rfl krx rfl (by rw[fC,auK];decide) λw2 a=>?_;rw[show (Value.int .i64 1)=ad ((1:Nat):Int) from rfl,CQ] at a;rw[aZ aAx (C.now (a.hasM 2 rfl))];refine loop (λvs V=>∃(i:Nat) (ca cb:List Nat),vs=[ad (i:Int)]∧i<=ps.length∧ca.length=286∧cb.length=30∧0 < ca.getD 256 0∧(∀x∈ps.take i,fe ca cb x)∧(∀j,ca.getD j 0<=i+1)∧(∀j,cb.getD j 0<=i+1)∧cH M.A w V [lrE s ca,lrE o cb,.mem M]) (λvs _=>ps.length - n0 vs) ⟨0,(List.replicate 286 0).set 256 1,List.replicate 30 0,rfl,om,by rw[avS,auK],auK,by decide +kernel,(λx v=>by cases v),?_,?_,a⟩ ?_
  ·refine jt (P:=λc=>c<=0+1) (λc I=>?_) dc;rcases azT I with h|h
   ·rw[awF h];decide
   ·rw[h];decide
  ·refine jt (P:=λc=>c<=0+1) (λc I=>?_) dc;rw[awF I];decide
  clear a;rintro vs w3 ⟨i,ca,cb,rfl,hi,d,m,u,q,t,z,a⟩ _;simp only[rP,gd,rs,nz];by_cases D:(i:Int) < (ps.length:Int)
  ·have B:i < ps.length:=om
   simp only[D,asX,i_t];obtain⟨p,S,E⟩:=ptAt C B;refine join λJ hJ=>?_;rw[aC (S w3),aC (E w3 (a.hasM 2 rfl))];obtain⟨mx,b⟩:=mj R _ (atP B);have T:ps.take (i+1)=ps.take i++[ps[i]]:=auD B;have fin:∀(W:ao) (f g:List Nat) (e:Ent),f.length=286->g.length=30->(∀j,ca.getD j 0<=f.getD j 0∧f.getD j 0<=ca.getD j 0+1)->(∀j,cb.getD j 0<=g.getD j 0∧g.getD j 0<=cb.getD j 0+1)->fe f g ps[i]->cH M.A w W (e::[lrE s f,lrE o g,.mem M])->J [] W:=by
    intro W f g e h1 h2 U h4 h5 a;refine hJ _ _ λ_=>?_;simp only[sJ,gd,rs,nz];rw[aA om om];refine aS ⟨i+1,f,g,rfl,om,h1,h2,avR u (U 256).1,?_,λj=>by have:=U j;have:=t j;omega,λj=>by have:=h4 j;have:=z j;omega,a.tail⟩ (by simp[n0,RowKit.intOf];omega);rw[T];intro x v;rcases auF.1 v with v|v
    ·exact zl (q x v) (λj=>(U j).1) (λj=>(h4 j).1)
    ·rw[auB.1 v];exact h5
   generalize ps[i]=x at b E fin;refine VN a λxb w4 a=>?_;refine OJ (y:=x) 0 a rfl λw5 a=>?_;have a:cH M.A w w5 (ptE xb x::[lrE s ca,lrE o cb,.mem M]):=a;unfold ic at b;unfold fe at fin;rw[aO Hy,pt_1 a 0 rfl];simp only[rs];by_cases O:x.2.1=0
   ·rw[asU O] at b;simp only[asU O] at fin;simp only[show ai ((x.2.1:Int)=0)=av from atA om,i_t];rw[aO Yw,pt_0 a 0 rfl];have I:=x.1.toNat_lt;have X:=t x.1.toNat;refine ZB 1 a rfl d om om λY a=>?_;have F:=ph (l:=ca) (j:=x.1.toNat) om;refine fin Y (ly ca x.1.toNat) cb _ (by rw[pg];exact d) m (λj=>by rw[F];split<;>omega) (λj=>by omega) (by rw[F,asU rfl];omega) a
   ·rw[asT O] at b;simp only[asT O] at fin;obtain⟨s1,s2,s3,s4,s5,s6⟩:=mn b.2.1 b.2.2.1;obtain⟨f1,f2,f3,f4,f5⟩:=nd b.2.2.2.1 b.2.2.2.2.1;simp only[show ai ((x.2.1:Int)=0)=au from asZ om,i_f];rw[aO Hy,pt_1 a 0 rfl];refine aJ a (O2 x.2.1 w5 b.2.1 b.2.2.1) ?_;rintro _ Y rfl a;simp only[ex];rw[aO aeD,pt_2 a 0 rfl];refine aJ a (PT x.2.2 Y b.2.2.2.1 b.2.2.2.2.1) ?_;rintro _ w7 rfl a;simp only[ex];have X:=t (cg x.2.1).1;have a8:=z (dw x.2.2).1;refine ZB 1 a rfl d om om λw8 a=>?_;refine ZB 2 a rfl m om om λw9 a=>?_;have F:=ph (l:=ca) (j:=(cg x.2.1).1) om;have G:=ph (l:=cb) (j:=(dw x.2.2).1) om;refine fin w9 (ly ca (cg x.2.1).1) (ly cb (dw x.2.2).1) _ (by rw[pg];exact d) (by rw[pg];exact m) (λj=>by rw[F];split<;>omega) (λj=>by rw[G];split<;>omega) ⟨by rw[F,asU rfl];omega,by rw[G,asU rfl];omega⟩ a
  ·simp only[D,asW,i_f];have Z:i=ps.length:=om
   subst Z;rw[auZ] at q;have a:=a.toU 1 286 286 (by rw[fC,d]) (atE _) om;rw[atY,auG (by rw[fC];omega)] at a;obtain⟨N1,g1,a1,a⟩:=cH.bV (L:=[lrE o cb,.mem M]) a 1 rfl;have a:cH M.A w w3 [lrE o cb,.mem N1]:=a;have a:=a.toU 1 30 30 (by rw[fC,m]) (atE _) om;rw[atY,auG (by rw[fC];omega)] at a;obtain⟨N2,g2,a6,a⟩:=cH.bV (L:=[.mem N1]) a 0 rfl;exact hK _ _ N2 _ 0 a rfl (g1.trans g2) ⟨_,_,ca,cb,rfl,by rw[d];exact a1.le g2,by rw[m];exact a6,d,m,u,q,ra λj=>by have:=t j;omega,ra λj=>by have:=z j;omega⟩
 refine⟨?_⟩;have a:=a.drew;refine⟨?_,?_⟩
 ·refine B9 (n:=286) om a λs w1 a=>⟨?_,?_⟩
  all_goals
   refine B9 (n:=30) om a λo w2 a=>?_;refine body w2 s o ?_;unfold lrE;rw[H,H];exact a.perm (List.Perm.swap _ _ _)
 ·refine B9 (n:=30) om a λo w1 a=>?_;refine B9 (n:=286) om a λs w2 a=>?_;refine body w2 s o ?_;unfold lrE;rw[H,H];exact a
theorem MQ (l:List Nat)(v:aq)(keep:Nat)(M:Mem)(w:ao)(e:M.has w)(a:SlA M.A M.w v 1 l.length (aY l))(p:keep<=l.length)(x:0 < keep)(y:l.length<=1000000) :
  Ret ah 299 #[v,ad (keep:Int)] w (λr w'=>(∃n,keep<=n∧n<=l.length∧(∀j,n<=j->l.getD j 0=0)∧r.oneCell'=av∧SlA M.A M.w r 1 n (aY (l.take n)))∧w=w'):=by
 refine aL λK q=>Iy ?_;unfold FO nz;rw[aZ auA (a.now e)];refine loop (λvs W=>∃n:Nat,vs=[ad (n:Int)]∧keep<=n∧n<=l.length∧(∀j,n<=j->l.getD j 0=0)∧w=W) (λvs _=>n0 vs) ⟨l.length,rfl,p,atE _,λj f=>by rw[atD,avJ f];rfl,rfl⟩ ?_;rintro vs _ ⟨n,rfl,d,g,k,rfl⟩ _;simp only[Ca,gd,rs,nz];obtain⟨b,off,cap,rfl,_⟩:=bU a.1 om;have m:=a.2.2 _ _ _ rfl;have stop:DoX ah (cT 123 (bR b off l.length cap) aw (ax (ad (n:Int))) aw) w (pk K) λt23 w=>K (.returned t23) w:=by
  refine aC (iW auA P4 om om) |>.mpr ?_;rw[atC];have c:=SlA.XX a (i:=n) g (λh=>by omega);rw[atY] at c;refine q _ _ ⟨⟨n,d,g,k,?_,?_⟩,rfl⟩
  ·unfold wF;split<;>rfl
  ·rw[show aY (l.take n)=(aY l).take n by unfold aY;rw[ayY]];exact c
 by_cases z:keep < n
 ·simp only[show ai ((keep:Int) < (n:Int))=av from atA om,rs];rw[aA om om,show (n:Int) - 1=((n - 1:Nat):Int) by omega];obtain⟨B,o,s,t⟩:=oU (a.now e) (i:=n - 1) om;refine aC (s w) |>.mpr (aC (aB bZ t) |>.mpr ?_);simp only[rs];by_cases u:l[n - 1]=0
  ·simp only[show ai (((l[n - 1]:Nat):Int)=0)=av from atA om,i_t];refine aS ⟨n - 1,rfl,om,om,λj f=>?_,rfl⟩ (by simp[n0,RowKit.intOf];omega);rcases auC j n with h|h
   ·obtain rfl:j=n - 1:=om
    rw[atD,atI om];exact u
   ·exact k j h
  ·simp only[show ai (((l[n - 1]:Nat):Int)=0)=au from asZ om,i_f];exact stop
 ·simp only[show ai ((keep:Int) < (n:Int))=au from asZ om,i_f,rs];exact stop
def mkC (m:cd):List Value:=[ad (m.1:Int),ad (m.2.1:Int),ad (m.2.2:Int)]
def mkV (m:cd):Value:=.agg (mkC m).toArray
theorem VG (m:cd):(mkC m).length=3:=rfl
theorem Yo {m:cd}:∀u∈mkC m,u.oneCell'=true:=by
 intro u hu;simp only[mkC,atL,avO,or_false] at hu;rcases hu with rfl|rfl|rfl<;>rfl
theorem afC {l:List cd}:∀u∈l.flatMap mkC,u.oneCell'=true:=Eng.Z1 λx=>Yo
theorem aqO:I2 ah 307=ax 3:=krx
theorem szMk:(Tryz.prog.info? 307).map (·.size)=ax 3:=krx
theorem elMk:elB ah 307 3 24=true:=krx
theorem acR:kC ah 307 0=ax 0:=krx
theorem ajL:kC ah 307 1=ax 1:=krx
theorem ajR:kC ah 307 2=ax 2:=krx
abbrev M3 (v:aq)(l:List cd):Ent:=.urow 307 3 v l.length (l.flatMap mkC)
theorem wy {l:List Nat}{i c:Nat}:∀(n:Nat),i+n<=l.length->(∀j,j < n->l.getD (i+j) 0=c)->l.take (i+n)=l.take i++List.replicate n c
|0,_,_=>by simp
|n+1,h,d=>by
  have e:=wy n om λj f=>d j om;have a:i+n < l.length:=om
  have b:=d n om;rw[atD,atI a] at b;have b:l[i+n]=c:=b;rw[show i+(n+1)=i+n+1 by omega,auD a,e,b,atJ,aAR]
theorem ni (acc:List Nat)(g m:Nat)(a:g=17∨g=18):fo acc (g,m,dh g)=acc++List.replicate (eh g+m) 0:=by
 unfold fo;rcases a with rfl|rfl
 ·rw[asT (show ¬(17:Nat) < 16 by decide),asT (show ¬(17:Nat)=16 by decide)]
 ·rw[asT (show ¬(18:Nat) < 16 by decide),asT (show ¬(18:Nat)=16 by decide)]
theorem sn (acc:List Nat){c:Nat}(h:c < 16):fo acc (c,0,0)=acc++[c]:=by unfold fo;rw[asU h]
theorem zm (acc:List Nat)(c m:Nat):fo (acc++[c]) (16,m,2)=acc++List.replicate (4+m) c:=by
 unfold fo;have e:(acc++[c]).getD ((acc++[c]).length - 1) 0=c:=by
  rw[asY,avA,axQ,atD,avU (atE _),avV];rfl
 rw[asT (show ¬(16:Nat) < 16 by decide),asU (show (16:Nat)=16 from rfl),e,atJ];have a:eh 16=3:=rfl;show acc++([c]++List.replicate (eh 16+m) c)=_;rw[a,show 4+m=(3+m)+1 by omega,azR];rfl
theorem VI (a:SlA M.A M.w v 1 l.length (aY l))(hi:i < l.length) :
  ∃p,(∀W,(mIA 123 v (ad (i:Int))).run ah W=.ok (.value (.pointer (ax p))) W)∧∀W,M.has W->(aK 3 (.pointer (ax p))).run ah W=.ok (.value (ad (l[i]:Int))) W:=by
 obtain⟨b,off,cap,rfl,_⟩:=bU a.1 om;refine⟨⟨b,off+i,aw⟩,λW=>?_,λW e=>?_⟩
 ·have:=dP (P:=ah) (T:=123) (b:=b) (off:=off) (cap:=cap) (n:=l.length) (k:=.i64) (i:=(i:Int)) (w:=W) auA P4 om om;rw[atC,atY] at this;exact this
 ·obtain⟨g,c,d,he,f⟩:=bU (a.now e) om;cases he;refine aB bZ (f i _ ?_);rw[GU hi,atD,atI hi];rfl
section
variable {w:ao}{PK:PKT}{S:Nat->Prop}{w0:ao}{L T:List Ent}
theorem adL {ms new:List cd}{b:Nat}{N:VWP}(f:ms.length<=10000000)(d:new.length<=2)(a:cH S w0 W (.cells b (new.flatMap mkC) 307::M3 v' ms::T))(k:∀v2 c,cH S w0 c (M3 v2 (ms++new)::T)->N v2 c) :
  DoX ah (mB .append #[304,304] 304 #[au,au] #[v',bR b 0 new.length new.length]) W PK N:=by
 refine bL 1 aAy elMk dc a rfl (a.sl 0 rfl 3 new.length new.length (by rw[Eng.SA VG])) afC om om λv2 e a=>?_;refine k v2 e ?_;unfold M3;rw[ayZ,asY];exact a.tail
theorem m_mk {a c:Nat}:DoX ah (aW 307 #[(0,ad (a:Int)),(1,ad (b:Int)),(2,ad (c:Int))]) W PK K=K (mkV (a,b,c)) W:=aC krx
theorem akP {ms:List cd}{n:Nat}{N1:List aq->ao->Prop}{K:Ending->ao->Prop}(H:SlA M.A M.w v 1 l.length (aY l))(hi:i < l.length)(d:l[i] < 16)(y:1<=n)(I:n<=1000000)(L:ms.length<=1000000)(z:jq [] ms)(q:ff [] ms=l.take i)(e:cH S w0 W [M3 v' ms,.mem M])
  (emit:∀(W:ao) (v2:aq) (new:List cd) (f:Nat),1<=f->f<=n->jq [] (ms++new)->ff [] (ms++new)=l.take i++List.replicate f l[i]->cH S w0 W [M3 v2 (ms++new),.mem M]->eQ v2 (ad (i:Int)) (ad (f:Int)) W N1 K) :
  D9 (λu=>
 DoX ah (mIA 123 v (ad (i:Int))) W (pk K) λt42 W=>
 DoX ah (aK 3 t42) W (pk K) λt43 W=>
 DoX ah (mEq .eql 3 (.tmp 43) (.const (ad 0)) t43 (ad 0)) W (pk K) λt44 W=>
 GDo t44 av (λE=>E (ad (n:Int)) W) W λt46 W=>
 GDo t44 av (λE=>DoX ah (iA .geq 3 t46 (ad 11)) W (pk K) E) W λt47 W=>
 DoX ah (cW t44 t47 (.bool au)) W (pk K) λt48 W=>
 IfX t48 (DoX ah (mB .min #[3,3] 3 #[au,av] #[(ad (n:Int)),(ad 138)]) W (pk K) λt50 W=>
 DoX ah (iA .sub 3 t50 (ad 11)) W (pk K) λt53 W=>
 DoX ah (aW 307 #[(0,(ad 18)),(1,t53),(2,(ad 7))]) W (pk K) λt54 W=>
 DoX ah (aT 304 1 #[(0,t54)]) W (pk K) λt55 W=>
 DoX ah (mB .append #[304,304] 304 #[au,au] #[v',t55]) W (pk K) λt56 W=>
 u [t56,t50] W) (DoX ah (mIA 123 v (ad (i:Int))) W (pk K) λt60 W=>
 DoX ah (aK 3 t60) W (pk K) λt61 W=>
 DoX ah (mEq .eql 3 (.tmp 61) (.const (ad 0)) t61 (ad 0)) W (pk K) λt62 W=>
 GDo t62 av (λE=>E (ad (n:Int)) W) W λt64 W=>
 GDo t62 av (λE=>DoX ah (iA .geq 3 t64 (ad 3)) W (pk K) E) W λt65 W=>
 DoX ah (cW t62 t65 (.bool au)) W (pk K) λt66 W=>
 IfX t66 (DoX ah (iA .sub 3 (ad (n:Int)) (ad 3)) W (pk K) λt69 W=>
 DoX ah (aW 307 #[(0,(ad 17)),(1,t69),(2,(ad 3))]) W (pk K) λt70 W=>
 DoX ah (aT 304 1 #[(0,t70)]) W (pk K) λt71 W=>
 DoX ah (mB .append #[304,304] 304 #[au,au] #[v',t71]) W (pk K) λt72 W=>
 u [t72,(ad (n:Int))] W) (DoX ah (iA .geq 3 (ad (n:Int)) (ad 4)) W (pk K) λt75 W=>
 IfX t75 (DoX ah (mB .min #[3,3] 3 #[au,av] #[(ad (n:Int)),(ad 7)]) W (pk K) λt77 W=>
 DoX ah (mIA 123 v (ad (i:Int))) W (pk K) λt81 W=>
 DoX ah (aK 3 t81) W (pk K) λt82 W=>
 DoX ah (aW 307 #[(0,t82),(1,(ad 0)),(2,(ad 0))]) W (pk K) λt83 W=>
 DoX ah (iA .sub 3 t77 (ad 4)) W (pk K) λt85 W=>
 DoX ah (aW 307 #[(0,(ad 16)),(1,t85),(2,(ad 2))]) W (pk K) λt86 W=>
 DoX ah (aT 304 2 #[(0,t83),(1,t86)]) W (pk K) λt87 W=>
 DoX ah (mB .append #[304,304] 304 #[au,au] #[v',t87]) W (pk K) λt88 W=>
 u [t88,t77] W) (DoX ah (mIA 123 v (ad (i:Int))) W (pk K) λt34 W=>
 DoX ah (aK 3 t34) W (pk K) λt35 W=>
 DoX ah (aW 307 #[(0,t35),(1,(ad 0)),(2,(ad 0))]) W (pk K) λt36 W=>
 DoX ah (aT 304 1 #[(0,t36)]) W (pk K) λt37 W=>
 DoX ah (mB .append #[304,304] 304 #[au,au] #[v',t37]) W (pk K) λt38 W=>
 u [t38,(ad 1)] W)))) (λr W=>∀_:Sg,eQ (r.getD 0 undef) (ad (i:Int)) (r.getD 1 undef) W N1 K):=by
 obtain⟨p,k,j⟩:=VI H hi;have one:∀m:cd,ie (l.take i) m->jq [] (ms++[m])∧ff [] (ms++[m])=fo (l.take i) m:=λm hm=>⟨qx z (by rw[q];exact hm),by rw[vt,q]⟩;generalize l[i]=c at d j emit;refine join λJ N=>?_;have go:∀(W:ao) (v2:aq) (f:Nat),eQ v2 (ad (i:Int)) (ad (f:Int)) W N1 K->J [v2,ad (f:Int)] W:=λW v2 f h=>N _ _ λ_=>h;have o:=e.hasM 1 rfl;refine aC (k W) |>.mpr (aC (j W o) |>.mpr ?_);simp only[rs];have g:∀(m:cd) (f:Nat) (W:ao),1<=f->f<=n->ie (l.take i) m->fo (l.take i) m=l.take i++List.replicate f c->cH S w0 W [M3 v' ms,.mem M]->∀PK:PKT,
   DoX ah (aT 304 1 #[(0,mkV m)]) W PK λt W=>DoX ah (mB .append #[304,304] 304 #[au,au] #[v',t]) W PK λt W=>J [t,ad (f:Int)] W:=by
  intro m f W O P D x e PK;refine bI (λb=>bR b 0 1 1) (mkC m) 307 (λ_=>by kernel_rfl) e λF G e=>?_;have e:cH S w0 G [.cells F ([m].flatMap mkC) 307,M3 v' ms,.mem M]:=by
   rw[azU];exact e
  refine adL (new:=[m]) om sm e λv2 w2 e=>?_;obtain⟨a,b⟩:=one m D;exact go _ _ _ (emit w2 v2 [m] f O P a (by rw[b,x]) e)
 have i11:∀m:Nat,eh 18+m=11+m:=λ_=>rfl;have i3:∀m:Nat,eh 17+m=3+m:=λ_=>rfl;have last:(∀PK:PKT,DoX ah (aT 304 1 #[(0,mkV (c,0,0))]) W PK λt W=>DoX ah (mB .append #[304,304] 304 #[au,au] #[v',t]) W PK λt W=>J [t,ad ((1:Nat):Int)] W):=
  g (c,0,0) 1 W om y (by unfold ie;rw[asU d];exact⟨rfl,rfl⟩) (by rw[sn _ d];rfl) e
 have fourth:4<=n->∀PK:PKT,DoX ah (aT 304 2 #[(0,mkV (c,0,0)),(1,mkV (16,min n 7 - 4,2))]) W PK λt W=>DoX ah (mB .append #[304,304] 304 #[au,au] #[v',t]) W PK λt W=>J [t,ad ((min n 7:Nat):Int)] W:=by
  intro x PK;refine bI (λb=>bR b 0 2 2) (mkC (c,0,0)++mkC (16,min n 7 - 4,2)) 307 (λ_=>by kernel_rfl) e λF G e=>?_;refine adL (new:=[(c,0,0),(16,min n 7 - 4,2)]) om sm e λv2 w2 e=>?_;have Q:ie (l.take i) (c,0,0):=by unfold ie;rw[asU d];exact⟨rfl,rfl⟩
  obtain⟨R,B⟩:=one _ Q;rw[sn _ d] at B;have T:ie (ff [] (ms++[(c,0,0)])) (16,min n 7 - 4,2):=by
   rw[B];unfold ie;rw[asT (show ¬(16:Nat) < 16 by decide)];refine⟨show (16:Nat)<=18 by decide,rfl,by show min n 7 - 4 < 4;omega,λ_=>by simp⟩
  have a2:=qx R T;have C:=vt [] (ms++[(c,0,0)]) (16,min n 7 - 4,2);rw[B,zm,show 4+(min n 7 - 4)=min n 7 by omega] at C;rw[atJ] at a2 C;exact go _ _ _ (emit w2 v2 _ (min n 7) om om a2 C e)
 have U:min (n:Int) 7=((min n 7:Nat):Int):=om
 have s:min (n:Int) 138=((min n 138:Nat):Int):=om
 by_cases V:c=0
 ·subst V;simp only[show ai (((0:Nat):Int)=0)=av from rfl,rs];by_cases X:11<=n
  ·simp only[show ai ((11:Int)<=(n:Int))=av from atA om,i_t,rs];rw[Ek,s];simp only[rs];rw[aA om om,show ((min n 138:Nat):Int) - 11=((min n 138 - 11:Nat):Int) by omega];refine (m_mk (a:=18) (b:=min n 138 - 11) (c:=7)).mpr ?_;refine g (18,min n 138 - 11,7) (min n 138) W om om ?_ ?_ e _
   ·unfold ie;rw[asT (show ¬(18:Nat) < 16 by decide)];exact⟨show (18:Nat)<=18 by decide,rfl,by show min n 138 - 11 < 128;omega,λh=>absurd h (show ¬(18:Nat)=16 by decide)⟩
   ·have:=ni (l.take i) 18 (min n 138 - 11) (.inr rfl);rw[i11,show 11+(min n 138 - 11)=min n 138 by omega] at this;exact this
  ·simp only[show ai ((11:Int)<=(n:Int))=au from asZ om,i_f,rs];refine aC (k W) |>.mpr (aC (j W o) |>.mpr ?_);simp only[show ai (((0:Nat):Int)=0)=av from rfl,rs];by_cases D:3<=n
   ·simp only[show ai ((3:Int)<=(n:Int))=av from atA om,i_t,rs];rw[aA om om,show (n:Int) - 3=((n - 3:Nat):Int) by omega];refine (m_mk (a:=17) (b:=n - 3) (c:=3)).mpr ?_;refine g (17,n - 3,3) n W om om ?_ ?_ e _
    ·unfold ie;rw[asT (show ¬(17:Nat) < 16 by decide)];exact⟨show (17:Nat)<=18 by decide,rfl,by show n - 3 < 8;omega,λh=>absurd h (show ¬(17:Nat)=16 by decide)⟩
    ·have:=ni (l.take i) 17 (n - 3) (.inl rfl);rw[i3,show 3+(n - 3)=n by omega] at this;exact this
   ·simp only[show ai ((3:Int)<=(n:Int))=au from asZ om,i_f,rs];simp only[show ai ((4:Int)<=(n:Int))=au from asZ om,i_f,rs];refine aC (k W) |>.mpr (aC (j W o) |>.mpr ?_);refine (m_mk (a:=0) (b:=0) (c:=0)).mpr ?_;exact last _
 ·simp only[show ai ((c:Int)=0)=au from asZ om,i_f,rs];refine aC (k W) |>.mpr (aC (j W o) |>.mpr ?_);simp only[show ai ((c:Int)=0)=au from asZ om,i_f,rs];by_cases x:4<=n
  ·simp only[show ai ((4:Int)<=(n:Int))=av from atA om,i_t,rs];rw[Ek,U];refine aC (k W) |>.mpr (aC (j W o) |>.mpr ?_);refine (m_mk (a:=c) (b:=0) (c:=0)).mpr ?_;simp only[rs];rw[aA om om,show ((min n 7:Nat):Int) - 4=((min n 7 - 4:Nat):Int) by omega];refine (m_mk (a:=16) (b:=min n 7 - 4) (c:=2)).mpr ?_;exact fourth x _
  ·simp only[show ai ((4:Int)<=(n:Int))=au from asZ om,i_f,rs];refine aC (k W) |>.mpr (aC (j W o) |>.mpr ?_);refine (m_mk (a:=c) (b:=0) (c:=0)).mpr ?_;exact last _
end
theorem Uw (l:List Nat)(v:aq)(M:Mem)(w:ao)(G:M.has w)(g:SlA M.A M.w v 1 l.length (aY l))(R:l.length<=1000000)(s:∀x∈l,x<=15) :
  jJ ah 300 #[v] M w (λr N=>∃ms:List cd,jq [] ms∧ff [] ms=l∧r.oneCell'=av∧SlA N.A N.w r 3 ms.length (ms.flatMap mkC)):=by
 refine aU G λK I=>EH ?_;unfold A6 nz;have b:cH M.A w w [.mem M]:=cH.memS G;have b:cH M.A w w [.urow 307 3 cO 0 [],.mem M]:=cH.nilU (L:=[.mem M]) b _ _;refine loop (λvs W=>∃(i:Nat) (v':aq) (ms:List cd),vs=[v',ad (i:Int)]∧i<=l.length∧jq [] ms∧ff [] ms=l.take i∧cH M.A w W [M3 v' ms,.mem M]) (λvs _=>l.length - n1 vs) ⟨0,cO,[],rfl,om,trivial,rfl,b⟩ ?_;clear b;rintro vs J ⟨i,v',ms,rfl,hi,k,c,b⟩ _;simp only[wR,gd,nz];rw[aZ auA (g.now (b.hasM 1 rfl))];simp only[rs];have m:=mr ms [];rw[c,atF] at m;simp only[awI,atK] at m;by_cases o:(i:Int) < (l.length:Int)
 case neg=>
  simp only[o,asW,i_f];have t:i=l.length:=om
  subst t;rw[auZ] at c;have u:=dO (b.at_ 0 rfl);obtain⟨N1,g1,y,b⟩:=cH.bV (L:=[.mem M]) b 0 rfl;exact I _ _ N1 _ 0 b rfl g1 ⟨ms,k,c,u,y⟩
 simp only[o,asX,i_t];have d:i < l.length:=om
 obtain⟨S,z,B⟩:=VI g d;have p:=s _ (atP d);have C:l.getD i 0=l[i]:=by rw[atD,atI d];rfl
 refine loop (λvs W=>∃n:Nat,vs=[ad (n:Int)]∧1<=n∧i+n<=l.length∧(∀j,j < n->l.getD (i+j) 0=l[i])∧cH M.A w W [M3 v' ms,.mem M]) (λvs _=>l.length+1 - n0 vs) ⟨1,rfl,om,om,λj H=>by rw[show j=0 by omega];exact C,b⟩ ?_;clear b;rintro vs w2 ⟨n,rfl,D,O,e,b⟩ _;simp only[wS,gd,nz];have emit:∀(W:ao) (v2:aq) (new:List cd) (f:Nat),1<=f->f<=n->jq [] (ms++new)->ff [] (ms++new)=l.take i++List.replicate f l[i]->cH M.A w W [M3 v2 (ms++new),.mem M]->eQ v2 (ad (i:Int)) (ad (f:Int)) W (IJ (λvs W=>∃(i:Nat) (v':aq) (ms:List cd),vs=[v',ad (i:Int)]∧i<=l.length∧jq [] ms∧ff [] ms=l.take i∧cH M.A w W [M3 v' ms,.mem M]) (λvs _=>l.length - n1 vs) [v',ad (i:Int)] J) K:=by
  intro W v2 new f T U P Q b;simp only[eQ,rs,nz];rw[aA om om];refine aS ⟨i+f,v2,ms++new,by congr 2,om,P,?_,b⟩ (by simp[n1,RowKit.intOf];omega);rw[Q,wy f om λj H=>e j om]
 have stop:=λ(W:ao) (b:cH M.A w W [M3 v' ms,.mem M])=>akP g d (Nat.lt_succ_of_le p) D om om k c b emit;refine cQ (λW=>cH M.A w W [M3 v' ms,.mem M]) b.drew ?_;refine nF ?_;rw[aA om om,show (i:Int)+(n:Int)=((i+n:Nat):Int) by omega];refine iL (ad (l.length:Int)) (λW h=>?_) (Iq ?_)
 ·obtain⟨_,a,cap,rfl,_⟩:=g.1;exact CI auA
 by_cases q:i+n < l.length
 case neg=>
  rw[asZ (show ¬((i+n:Nat):Int) < (l.length:Int) by omega)];simp only[gq];refine Dr ?_;intro w3 b;simp only[i_f];exact stop w3 b
 rw[atA (show ((i+n:Nat):Int) < (l.length:Int) by omega)];simp only[gq];obtain⟨V,E,F⟩:=VI g q;refine nF ?_;rw[aA om om,show (i:Int)+(n:Int)=((i+n:Nat):Int) by omega];refine gr _ E (iL _ (λW h=>F W (h.hasM 1 rfl)) ?_);refine gr _ z (iL _ (λW h=>B W (h.hasM 1 rfl)) (q_eq (LO ?_)));intro w3 b;by_cases he:l[i+n]=l[i]
 ·rw[atA (show ((l[i+n]:Nat):Int)=((l[i]:Nat):Int) by omega)];simp only[i_t,rs];rw[aA om om];refine aS ⟨n+1,rfl,om,om,λj H=>?_,b⟩ (by simp[n0,RowKit.intOf];omega);rcases auC j n with h|h
  ·exact e j h
  ·rw[show j=n by omega,atD,atI q];exact he
 ·rw[asZ (show ¬((l[i+n]:Nat):Int)=((l[i]:Nat):Int) by omega)];simp only[i_f];exact stop w3 b
def ordV:Value:=.agg (aY cy).toArray
theorem amQ:I2 ah 308=ax 19:=krx
theorem arY:(Tryz.prog.info? 308).map (·.size)=ax 19:=krx
theorem QG (w:ao):Ret ah 301 #[] w (λv w'=>v=ordV∧Below w.heap.size w w'):=by
 refine aL λK c=>En ?_;unfold zU nz;refine bI (λb=>af b 0) (List.replicate 19 (ad 0)) 308 (λ_=>by kernel_rfl) (Own.start w) λb d a=>?_;have e:∀W:ao,(aW 308 #[(0,(ad 16)),(1,(ad 17)),(2,(ad 18)),(3,(ad 0)),(4,(ad 8)),(5,(ad 7)),(6,(ad 9)),(7,(ad 6)),(8,(ad 10)),(9,(ad 5)),(10,(ad 11)),(11,(ad 4)),(12,(ad 12)),(13,(ad 3)),(14,(ad 13)),(15,(ad 2)),(16,(ad 14)),(17,(ad 1)),(18,(ad 15))]).run ah W=.ok (.value ordV) W:=λW=>by kernel_rfl
 refine aC (e d) |>.mpr ?_;refine GD 0 a rfl (new:=aY cy) arY Ft (by show 0+19<=19;omega) λw2 a=>?_;exact fH (bJ (a.agg (cs:=aY cy) 0 rfl amQ)) (c _ _ ⟨rfl,a.done⟩)
theorem ajG (hi:i < 19)(W:ao):(mIx 308 ordV (ad (i:Int))).run ah W=.ok (.value (ad ((cy.getD i 0:Nat):Int))) W:=by
 rcases lt19 hi with rfl|rfl|rfl|rfl|rfl|rfl|rfl|rfl|rfl|rfl|rfl|rfl|rfl|rfl|rfl|rfl|rfl|rfl|rfl<;>kernel_rfl
theorem re:∀{l:List cd} {acc:List Nat},jq acc l->∀m∈l,m.1<=18∧m.2.1 < 2 ^ m.2.2∧m.2.2<=7
|m::l,acc,h,x,b=>by
  rcases atL.1 b with rfl|b
  ·have a:=h.1;unfold ie at a;by_cases c:x.1 < 16
   ·rw[asU c] at a;rw[a.1,a.2];exact⟨om,dc,dc⟩
   ·rw[asT c] at a;refine⟨a.1,a.2.2.1,?_⟩;rw[a.2.1];unfold dh;split
    ·decide
    ·split<;>decide
  ·exact re h.2 x b
theorem wz {cl:List Nat}(a:∀x∈cl,x<=15):∀{l:List cd},(∀m∈l,m.2.2<=7)->(gy cl l).length<=22*l.length
|[],_=>atE _
|m::l,h=>by
  have d:=h m (auV ..);have b:=wz a (l:=l) λy c=>h y (auE _ c);have f:cl.getD m.1 0<=15:=jt a dc _;unfold gy at b ⊢;rw[avE,asY,atW];have e:(kz cl m).length=cl.getD m.1 0+m.2.2:=by
   unfold kz;rw[asY,fw,bw]
  omega
theorem Y0 (cl:List Nat)(l:List cd)(m:cd):gy cl (l++[m])=gy cl l++dt cl m.1++bf m.2.1 m.2.2:=by
 unfold gy;rw[ayZ,azU,atJ];rfl
def gx (cl:List Nat)(k:Nat):List Nat:=(List.range k).map λi=>cl.getD (cy.getD i 0) 0
theorem rh (cl:List Nat)(k:Nat):(gx cl k).length=k:=by simp[gx]
theorem xa {k:Nat}(h:i < k):(gx cl k).getD i 0=cl.getD (cy.getD i 0) 0:=by
 rw[atD];simp[gx,h]
theorem zo (cl:List Nat)(k:Nat):gx cl (k+1)=gx cl k++[cl.getD (cy.getD k 0) 0]:=by
 unfold gx;rw[ayE,auJ];rfl
abbrev mkE (b:Nat)(m:cd):Ent:=.cells b (mkC m) 307
theorem mkAt {l:List cd}(a:SlA M.A M.w v 3 l.length (l.flatMap mkC))(hi:i < l.length) :
  ∃p,(∀W,(mIA 304 v (ad (i:Int))).run ah W=.ok (.value (.pointer (ax p))) W)∧∀W,M.has W->(aK 307 (.pointer (ax p))).run ah W=.ok (.value (mkV l[i])) W:=by
 obtain⟨b,off,cap,rfl,_⟩:=bU a.1 om;refine⟨⟨b,off+i*3,aw⟩,λW=>?_,λW e=>?_⟩
 ·have:=dP (P:=ah) (T:=304) (b:=b) (off:=off) (cap:=cap) (n:=l.length) (k:=.i64) (i:=(i:Int)) (w:=W) aAy szMk om om;rw[atC] at this;exact this
 ·obtain⟨h,c,d,he,f⟩:=bU (a.now e) om;cases he;refine bB (AtV.agg aqO (cs:=mkC l[i]) rfl λj u g=>?_);rw[awP];exact f _ _ (Eng.CG VG hi g)
section
variable {w:ao}{PK:PKT}{K:VWP}{S:Nat->Prop}{w0:ao}{L T:List Ent}
theorem akS (a:cH S w0 w L)(k:∀b w',cH S w0 w' (mkE b (0,0,0)::L)->K (af b 0) w'):DoX ah (DO 307) w PK K:=
 bI (λb=>af b 0) (mkC (0,0,0)) 307 (λ_=>by kernel_rfl) a k
theorem aeF (j:Nat){x y:cd}(a:cH S w0 w L)(hi:L[j]?=ax (mkE b x))(k:∀w',cH S w0 w' (L.set j (mkE b y))->K undef w') :
  DoX ah (aV 307 (af b 0) (mkV y)) w PK K:=GD j a hi (new:=mkC y) szMk Yo (by show 0+3<=3;omega) k
theorem mk_0 (a:cH S w0 w L)(j:Nat){x:cd}(hi:L[j]?=ax (mkE b x)):DoX ah (aK 3 (af b (0+0))) w PK K=K (ad (x.1:Int)) w:=aR bZ (a.cell j hi 0 rfl)
theorem mk_1 (a:cH S w0 w L)(j:Nat){x:cd}(hi:L[j]?=ax (mkE b x)):DoX ah (aK 3 (af b (0+1))) w PK K=K (ad (x.2.1:Int)) w:=aR bZ (a.cell j hi 1 rfl)
theorem mk_2 (a:cH S w0 w L)(j:Nat){x:cd}(hi:L[j]?=ax (mkE b x)):DoX ah (aK 3 (af b (0+2))) w PK K=K (ad (x.2.2:Int)) w:=aR bZ (a.cell j hi 2 rfl)
end
theorem ri (counts:List Nat):(dn counts).length<=counts.length:=by
 unfold dn;have:=aAt (λs=>ai (0 < counts.getD s 0)) (List.range counts.length)
 rwa [aAu] at this
theorem anD {K:Ending->ao->Prop}{pv sa sb mv iv:aq}{q g tt:Nat}{ps:List bo}{f D a b lc:List Nat}{ms:List cd}{ka kb nin:Nat}
  (c:cH S w0 W [.cells q (prC g tb) 296,.mem N]) (b5:TbW N.A N.w g f) (b6:TbW N.A N.w tb D) (b7:TbW N.A N.w tt lc) (b8:f=a++List.replicate ka 0) (b9:D=b++List.replicate kb 0)
  (c0:bj f=0) (c1:bj D=0) (c2:bj lc=0) (d:∀x∈f,x<=15) (r:∀x∈D,x<=15) (J:∀x∈lc,x<=7) (j4:lc.length=19)
  (j5:257<=a.length) (h6:a.length<=286) (j6:1<=b.length) (h7:b.length<=30) (hk:4<=nin) (j7:nin<=19) (h0:∀i,nin<=i->i < 19->lc.getD (cy.getD i 0) 0=0)
  (c3:SlA N.A N.w sa 1 a.length (aY a)) (c4:SlA N.A N.w sb 1 b.length (aY b)) (E:SlA N.A N.w iv 1 (gx lc nin).length (aY (gx lc nin))) (L:SlA N.A N.w mv 3 ms.length (ms.flatMap mkC)) (c5:SlA N.A N.w pv 3 ps.length (ps.flatMap ptC))
  (c6:∀m∈ms,0 < lc.getD m.1 0) (c7:jq [] ms) (c8:ff [] ms=a++b) (M:0 < f.getD 256 0) (hh:∀x∈ps,fe f D x) (O:jb 0 ps) (c9:ps.length<=1048576)
  (k:∀W,cH S w0 W [.cells q (prC g tb) 296,.mem N]->K (.returned (ae (az (mh a b lc nin ms ps)))) W) :
  dZ ah 287 #[] W (pk K) λt102 W=>
 dZ ah 288 #[t102,(ad 1),(ad 1)] W (pk K) λt104 W=>
 dZ ah 288 #[t102,(ad 2),(ad 2)] W (pk K) λt106 W=>
 DoX ah (mB .len #[123] 3 #[au] #[sa]) W (pk K) λt109 W=>
 DoX ah (iA .sub 3 t109 (ad 257)) W (pk K) λt110 W=>
 dZ ah 288 #[t102,t110,(ad 5)] W (pk K) λt111 W=>
 DoX ah (mB .len #[123] 3 #[au] #[sb]) W (pk K) λt114 W=>
 DoX ah (iA .sub 3 t114 (ad 1)) W (pk K) λt115 W=>
 dZ ah 288 #[t102,t115,(ad 5)] W (pk K) λt116 W=>
 DoX ah (mB .len #[123] 3 #[au] #[iv]) W (pk K) λt119 W=>
 DoX ah (iA .sub 3 t119 (ad 4)) W (pk K) λt120 W=>
 dZ ah 288 #[t102,t120,(ad 4)] W (pk K) λt121 W=>
 DoX ah (mB .len #[123] 3 #[au] #[iv]) W (pk K) λt123 W=>
 Ax [(ad 0)] W (λe0 W N3=>∀_:Sg,qN pv (af q 0) mv (af tt 0) t102 iv t123 (e0.getD 0 undef) W N3 K):=by
 have P:=rh lc nin;have e:∀x∈lc,x<=15:=λx hx=>avH (J x hx) dc;have Q:=re c7;have R:=mr ms [];rw[c8,asY] at R;simp only[awI,atK] at R;refine Yb c λF w7 c=>?_;refine pT (x:=1) (n:=1) c (λb hb=>by cases hb) (.inl rfl) om dc sm λh8 v1 w8 e1 c=>?_;rw[auI] at c;have T:=ej 1 1;refine pT (x:=2) (n:=2) c T e1 om dc (by rw[bw];decide) λh9 v2 w9 e2 c=>?_;have U:=bz T (ej 2 2);rw[aZ auA (c3.now (c.hasM 3 rfl))];simp only[rs];rw[aA om om,show (a.length:Int) - 257=((a.length - 257:Nat):Int) by omega];refine pT (n:=5) c U e2 om om (by simp[bw]) λV v3 j8 X c=>?_;have Y:=bz U (ej (a.length - 257) 5);rw[aZ auA (c4.now (c.hasM 3 rfl))]
 try simp only[rs]
 rw[aA om om,show (b.length:Int) - 1=((b.length - 1:Nat):Int) by omega];refine pT (n:=5) c Y X om om (by simp[bw]) λj0 v4 j9 e3 c=>?_;have Z:=bz Y (ej (b.length - 1) 5);rw[aZ auA (E.now (c.hasM 3 rfl)),P]
 try simp only[rs]
 rw[aA om om,show (nin:Int) - 4=((nin - 4:Nat):Int) by omega];refine pT (n:=4) c Z e3 om om (by simp[bw]) λs v5 e4 a1 c=>?_;have G:=bz Z (ej (nin - 4) 4);rw[aZ auA (E.now (c.hasM 3 rfl)),P];have e5:(bf 1 1++bf 2 2++bf (a.length - 257) 5++bf (b.length - 1) 5++bf (nin - 4) 4).length=17:=by simp[bw]
 have hB:bf 1 1++bf 2 2++bf (a.length - 257) 5++bf (b.length - 1) 5++bf (nin - 4) 4++ji lc nin++gy lc ms++dm f D ps=mh a b lc nin ms ps:=by
  rw[b8,b9,zf];unfold mh;simp only[atJ]
 generalize bf 1 1++bf 2 2++bf (a.length - 257) 5++bf (b.length - 1) 5++bf (nin - 4) 4=B at c e5 hB G;refine loop (λvs W=>∃(i:Nat) (way:Int) (v:aq),vs=[ad (i:Int)]∧i<=nin∧(way=0∨way=1)∧cH S w0 W (Wr F way (B++ji lc i) v [.cells q (prC g tb) 296,.mem N])) (λvs _=>nin - n0 vs) ⟨0,s,v5,rfl,om,a1,by show cH S w0 e4 (Wr F s (B++[]) v5 _);rw[atX];exact c⟩ ?_;clear c a1;rintro vs H ⟨i,way,v,rfl,hi,hw,c⟩ _;simp only[qN,gd,rs,nz];have j1:=mw lc i;by_cases a6:(i:Int) < (nin:Int)
 ·simp only[a6,asX,i_t];obtain⟨p,ia,ld⟩:=VI E (i:=i) om;refine aC (ia H) |>.mpr (aC (ld H (c.hasM 3 rfl)) |>.mpr ?_);have e6:(gx lc nin)[i]'(om)=lc.getD (cy.getD i 0) 0:=by
   have:=xa (cl:=lc) (k:=nin) (i:=i) om;rw[atD,atI om] at this;exact this
  rw[e6];have hle:lc.getD (cy.getD i 0) 0<=7:=jt J dc _;refine pT (n:=3) c (bz G (qz _ _)) hw om om (by rw[asY];omega) λa7 v6 k0 e7 c=>?_;rw[atJ,<-qy] at c
  try simp only[rs]
  rw[aA om om];exact aS ⟨i+1,a7,v6,rfl,om,e7,c⟩ (by simp[n0,RowKit.intOf];omega)
 simp only[a6,asW,i_f];have e8:i=nin:=om
 subst e8;rw[aZ aAy (L.now (c.hasM 3 rfl))];have a8:=bz G (qz lc i);have e9:(B++ji lc i).length<=100:=by rw[asY];omega
 generalize B++ji lc i=I at c a8 e9 hB;refine loop (λvs W=>∃(j:Nat) (way:Int) (v:aq),vs=[ad (j:Int)]∧j<=ms.length∧(way=0∨way=1)∧cH S w0 W (Wr F way (I++gy lc (ms.take j)) v [.cells q (prC g tb) 296,.mem N])) (λvs _=>ms.length - n0 vs) ⟨0,way,v,rfl,om,hw,by show cH S w0 H (Wr F way (I++[]) v _);rw[atX];exact c⟩ ?_;clear c hw;rintro vs b0 ⟨j,way,v,rfl,hj,hw,c⟩ _;simp only[BJ,gd,rs,nz];have t:=wz e (l:=ms.take j) λm hm=>(Q m (avQ hm)).2.2;rw[atF,auM hj] at t;have h:=bz a8 (vu lc (ms.take j));by_cases z:(j:Int) < (ms.length:Int)
 ·simp only[z,asX,i_t];have o:j < ms.length:=om
  obtain⟨p,ia,ld⟩:=mkAt L o;refine aC (ia b0) |>.mpr (aC (ld b0 (c.hasM 3 rfl)) |>.mpr ?_);have b1:=Q _ (atP o);have b2:=c6 _ (atP o);have b3:ms.take (j+1)=ms.take j++[ms[j]]:=auD o;generalize ms[j]=m at b1 b2 b3;refine akS c λxb k1 c=>?_;refine aeF (y:=m) 0 c rfl λb4 c=>?_;have c:cH S w0 b4 ([mkE xb m]++(Wr F way (I++gy lc (ms.take j)) v []++[.cells q (prC g tb) 296,.mem N])):=c;have c:cH S w0 b4 (Wr F way (I++gy lc (ms.take j)) v (mkE xb m::[.cells q (prC g tb) 296,.mem N])):=c.front;rw[aO acR,mk_0 c 2 rfl];refine ER (jm:=2) (i:=m.1) c rfl b7 c2 e b2 h hw (by rw[asY];omega) λj2 v8 k2 h1 c=>?_;have h2:lc.getD m.1 0<=15:=jt e dc _;rw[aO ajL,mk_1 c 2 rfl,aO ajR,mk_2 c 2 rfl];refine pT c (bz h (lz _ _)) h1 om b1.2.1 (by simp only[asY,fw];omega) λC v9 h3 h4 c=>?_
  try simp only[rs]
  rw[aA om om];refine aS ⟨j+1,C,v9,rfl,om,h4,?_⟩ (by simp[n0,RowKit.intOf];omega);rw[b3,Y0,<-atJ,<-atJ];have c:cH S w0 h3 ((Wr F C (I++gy lc (ms.take j)++dt lc m.1++bf m.2.1 m.2.2) v9 [])++([mkE xb m]++[.cells q (prC g tb) 296,.mem N])):=c;exact c.front.tail
 simp only[z,asW,i_f];have h5:j=ms.length:=om
 subst h5;rw[auZ] at c h t;refine aC (bB (AtV.agg anT (cs:=prC g tb) rfl λj u hj=>by rw[atK];exact c.cell 2 rfl j hj)) |>.mpr ?_;refine Tg (jm:=1) c rfl b5 b6 c0 c1 d r M c5 hh O c9 h hw (by rw[asY];omega) λV v3 k3 X c=>?_;rw[hB] at c;have j3:=pf d r (l:=ps) λx hx=>mj O x hx;have h2:f.getD 256 0<=15:=jt d dc _;have k4:(mh a b lc i ms ps).length=I.length+(gy lc ms).length+((ps.flatMap (fg f D)).length+f.getD 256 0):=by
  rw[<-hB,asY,asY];unfold dm;rw[asY,fw]
 refine Rv c om om λW c=>?_;exact k W c
theorem abK (ps:List bo)(pv:aq)(M:Mem)(w:ao)(hM:M.has w)(c0:SlA M.A M.w pv 3 ps.length (ps.flatMap ptC))(a6:jb 0 ps)(c1:ps.length<=1048576) :
  jJ ah 268 #[pv] M w (λv _=>∃R,v=ae (az R)∧br R∧jk R (gh [] ps)):=by
 refine aU hM λK hK=>Ik ?_;unfold EW nz;have d:cH M.A w w [.mem M]:=cH.memS hM;refine bG d 0 rfl (OO ps pv M w hM c0 a6 c1) ?_;rintro _ N1 w1 g1 ⟨va,vb,ca,cb,rfl,j0,j1,j2,j3,c2,c3,c4,c5⟩ d;simp only[ex];refine bG d 0 rfl (AV ca 15 va N1 w1 (d.hasM 0 rfl) j0 om om c4 om om (by have:=ri ca;have e:(2:Nat) ^ 15=32768:=rfl;omega)) ?_;rintro _ N2 w2 g2 ⟨N,c6,rfl,f,k8,O⟩ d;simp only[ex];refine bG d 0 rfl (AV cb 15 vb N2 w2 (d.hasM 0 rfl) (j1.le g2) om om c5 om om (by have:=ri cb;have e:(2:Nat) ^ 15=32768:=rfl;omega)) ?_;rintro _ N3 w3 g3 ⟨lb,c7,rfl,g,k9,Q⟩ d;simp only[ex];have l0:N.length=286:=by rw[f.len,j2]
 have l1:lb.length=30:=by rw[g.len,j3]
 refine bI (λb=>af b 0) [.pointer aw,.pointer aw] 296 (λ_=>by kernel_rfl) d λs w4 d=>?_;refine bG d 1 rfl (AU N c6 N3 w4 f.le om om (d.hasM 1 rfl) (O.le g3)) ?_;rintro _ N4 w5 g4 h4 d;rw[asT (by rw[f.chk];exactλh=>h rfl)] at h4;obtain⟨t,rfl,a7⟩:=h4;simp only[ex];rw[aO P3];refine aN 0 d rfl krx rfl (by show 0+0 < 2;omega) λw6 d=>?_;refine bG d 1 rfl (AU lb c7 N4 w6 g.le om om (d.hasM 1 rfl) (Q.le g4)) ?_;rintro _ N5 w7 g5 h5 d;rw[asT (by rw[g.chk];exactλh=>h rfl)] at h5;obtain⟨tb,rfl,j4⟩:=h5;simp only[ex];rw[aO VC];refine aN 0 d rfl krx rfl (by show 0+1 < 2;omega) λw8 d=>?_;have d:cH M.A w w8 [.cells s (prC t tb) 296,.mem N5]:=d;have a7:=TbW.le g5 a7;have a8:=O.le (g3.trans (g4.trans g5));have b0:=Q.le (g4.trans g5);refine C5 (MQ N c6 257 N5 w8 (d.hasM 1 rfl) a8 om om om) ?_;rintro sa _ ⟨⟨na,l5,c8,j5,l2,q⟩,rfl⟩;refine C5 (MQ lb c7 1 N5 w8 (d.hasM 1 rfl) b0 om om om) ?_;rintro sb _ ⟨⟨nb,l6,c9,j6,l3,r⟩,rfl⟩;have B:=wo c8 j5;have I:=wo c9 j6;have e0:(N.take na).length=na:=by rw[atF];omega
 have e1:(lb.take nb).length=nb:=by rw[atF];omega
 have C:∀x∈N.take na,x<=15:=λx k=>f.le x (avQ k);have D:∀x∈lb.take nb,x<=15:=λx k=>g.le x (avQ k);generalize N.take na=a at B e0 C q;generalize lb.take nb=b at I e1 D r;rw[<-e0] at q;rw[<-e1] at r;refine YS d λv0 w9 d=>?_;refine sE 0 d rfl (q.now (d.hasM 2 rfl)) Ft om λv1 l7 d=>?_;refine sE 0 d rfl (r.now (d.hasM 2 rfl)) Ft om λv2 e2 d=>?_;have d:cH M.A w e2 (.urow 3 1 v2 (a++b).length (aY (a++b))::[.cells s (prC t tb) 296,.mem N5]):=by
  rw[nH,asY];rw[atK,auI] at d;exact d
 obtain⟨N6,g6,j7,d⟩:=cH.bV (L:=[.cells s (prC t tb) 296,.mem N5]) d 1 rfl;refine bG d 1 rfl (Uw (a++b) v2 N6 e2 (d.hasM 1 rfl) j7 (by rw[asY];omega) (λx k=>(auF.1 k).elim (C x) (D x))) ?_;rintro mv N7 j8 g7 ⟨ms,b1,b2,l8,b4⟩ d;have d:cH M.A w j8 [.cells s (prC t tb) 296,.mem N7]:=d;have j9:=re b1;have e3:=mr ms [];rw[b2,asY] at e3;simp only[awI,atK] at e3;refine B9 (n:=19) om d λgo l9 d=>?_;have hz:aY (List.replicate 19 0)=List.replicate 19 (ad 0):=by simp[aY]
 rw[<-hz] at d;rw[aZ aAy (b4.now (d.hasM 2 rfl))];refine loop (λvs W=>∃(i:Nat) (co:List Nat),vs=[ad (i:Int)]∧i<=ms.length∧co.length=19∧(∀m∈ms.take i,0 < co.getD m.1 0)∧(∀j,co.getD j 0<=i)∧cH M.A w W [lrE go co,.cells s (prC t tb) 296,.mem N7]) (λvs _=>ms.length - n0 vs) ⟨0,List.replicate 19 0,rfl,om,auK,(λm hm=>by cases hm),λj=>by
  refine jt (P:=λc=>c<=0) (λc hc=>?_) (atE 0) j;rw[awF hc];exact atE 0,d⟩ ?_
 clear d;rintro vs b5 ⟨i,co,rfl,hi,E,b6,F,d⟩ _;simp only[BC,gd,rs,nz];by_cases e4:(i:Int) < (ms.length:Int)
 ·simp only[e4,asX,i_t];have b7:i < ms.length:=om
  obtain⟨p,ia,ld⟩:=mkAt b4 b7;refine aC (ia b5) |>.mpr (aC (ld b5 (d.hasM 2 rfl)) |>.mpr ?_);have k0:=j9 _ (atP b7);have e5:ms.take (i+1)=ms.take i++[ms[i]]:=auD b7;generalize ms[i]=m at k0 e5;refine akS d λxb m0 d=>?_;refine aeF (y:=m) 0 d rfl λk1 d=>?_;have d:cH M.A w k1 (mkE xb m::[lrE go co,.cells s (prC t tb) 296,.mem N7]):=d;rw[aO acR,mk_0 d 0 rfl];have m1:=F m.1;refine ZB 1 d rfl E om om λm2 d=>?_
  try simp only[rs]
  rw[aA om om];have hg:=ph (l:=co) (j:=m.1) om;refine aS ⟨i+1,ly co m.1,rfl,om,by rw[pg];exact E,?_,λj=>by rw[hg];have:=F j;split<;>omega,d.tail⟩ (by simp[n0,RowKit.intOf];omega);rw[e5];intro x k;rw[hg];rcases auF.1 k with k|k
  ·have:=b6 x k;omega
  ·rw[auB.1 k,asU rfl];omega
 simp only[e4,asW,i_f];have b8:i=ms.length:=om
 subst b8;rw[auZ] at b6;have d:=d.toU 1 19 19 (by rw[fC,E]) (atE _) om;rw[atY,auG (by rw[fC];omega)] at d;obtain⟨N8,g8,e6,d⟩:=cH.bV (L:=[.cells s (prC t tb) 296,.mem N7]) d 1 rfl;refine bG d 1 rfl (AV co 7 _ N8 b5 (d.hasM 1 rfl) (by rw[E];exact e6) om om (ra λj=>by have:=F j;omega) om om (by have:=ri co;have e:(2:Nat) ^ 7=128:=rfl;omega)) ?_;rintro _ N9 k2 g9 ⟨lc,k3,rfl,o,l4,T⟩ d;simp only[ex];have U:lc.length=19:=by rw[o.len,E]
 refine bG d 1 rfl (AU lc k3 N9 k2 (λx k=>avH (o.le x k) dc) om om (d.hasM 1 rfl) T) ?_;rintro _ G k4 g10 e7 d;rw[asT (by rw[o.chk];exactλh=>h rfl)] at e7;obtain⟨tt,rfl,k5⟩:=e7;simp only[ex];refine aJ d (QG k4) ?_;rintro _ e8 rfl d;have d:cH M.A w e8 [.cells s (prC t tb) 296,.mem G]:=d;have J:=T.le g10;have d:cH M.A w e8 [.urow 3 1 cO 0 [],.cells s (prC t tb) 296,.mem G]:=cH.nilU (L:=[.cells s (prC t tb) 296,.mem G]) d _ _;refine loop (λvs W=>∃(i:Nat) (v:aq),vs=[v,ad (i:Int)]∧i<=19∧cH M.A w W [.urow 3 1 v (gx lc i).length (aY (gx lc i)),.cells s (prC t tb) 296,.mem G]) (λvs _=>19 - n1 vs) ⟨0,cO,rfl,om,d⟩ ?_;clear d;rintro vs u ⟨i,v,rfl,hi,d⟩ _;simp only[Cz,gd,rs,nz];have e9:=rh lc i;by_cases V:(i:Int) < 19
 ·simp only[V,asX,i_t];have X:i < 19:=om
  have m3:=vw X;refine aC (ajG X u) |>.mpr ?_;obtain⟨p,ia,ld⟩:=VI J (i:=cy.getD i 0) om;refine aC (ia u) |>.mpr (aC (ld u (d.hasM 2 rfl)) |>.mpr ?_);have k6:∀(j:Nat) (hj:j < lc.length),lc[j]'hj=lc.getD j 0:=λj hj=>by
   rw[atD,atI hj];rfl
  rw[k6];refine yM _ d λb3 m4 d=>?_;refine sE 1 d rfl (d.sl 0 rfl 1 1 1 rfl) xH om λv' m5 d=>?_
  try simp only[rs]
  rw[aA om om];refine aS ⟨i+1,v',rfl,om,?_⟩ (by simp[n1,RowKit.intOf];omega);rw[zo,nH,asY];exact d.tail
 simp only[V,asW,i_f];have b8:i=19:=om
 subst b8;obtain⟨b9,g11,h3,d⟩:=cH.bV (L:=[.cells s (prC t tb) 296,.mem G]) d 1 rfl;have d:cH M.A w u [.cells s (prC t tb) 296,.mem b9]:=d;refine C5 (MQ (gx lc 19) v 4 b9 u (d.hasM 1 rfl) h3 om om om) ?_;rintro iv _ ⟨⟨nin,h6,Y,k7,m6,Z⟩,rfl⟩;rw[e9] at Y;have hit:(gx lc 19).take nin=gx lc nin:=by
  unfold gx;rw[<-ayY,List.take_range,auM Y]
 rw[hit] at Z;have z:=g6.trans (g7.trans (g8.trans (g9.trans (g10.trans g11))));have H:0 < N.getD 256 0:=f.pos 256 c2;have hh:∀x∈ps,fe N lb x:=λx k=>by
  have:=c3 x k;unfold fe at this ⊢;split
  ·rename_i h0;rw[asU h0] at this;exact f.pos _ this
  ·rename_i h0;rw[asT h0] at this;exact⟨f.pos _ this.1,g.pos _ this.2⟩
 have h7:∀i,nin<=i->i < 19->lc.getD (cy.getD i 0) 0=0:=λi h1 h2=>by
  have:=k7 i h1
  rwa [xa h2] at this
 have a1:∀m∈ms,0 < lc.getD m.1 0:=λm hm=>o.pos _ (b6 m hm);refine anD (S:=M.A) (w0:=w) (W:=u) (a:=a) (b:=b) (lc:=lc) (ms:=ms) (nin:=nin) (ps:=ps) d (TbW.le z a7) (TbW.le z j4) (TbW.le g11 k5) B I f.chk g.chk o.chk f.le g.le o.le U om om om om h6 om h7 (q.le z) (r.le z) (by rw[rh];exact Z) (b4.le (g8.trans (g9.trans (g10.trans g11)))) (c0.le (g1.trans (g2.trans (g3.trans (g4.trans (g5.trans z)))))) a1 b1 b2 H hh a6 c1 λW d=>?_;refine hK _ _ b9 _ 1 d rfl (g1.trans (g2.trans (g3.trans (g4.trans (g5.trans z))))) ⟨_,rfl,zb _ _ _ _ _ _,?_⟩;have h8:bj a=0:=by have:=f.chk;rw[B] at this;exact wk this
 have h9:bj b=0:=by have:=g.chk;rw[I] at this;exact wk this
 refine O0 om om om om h6 om U o.le h7 o.chk a1 b1 b2 h8 h9 C D ?_ ?_ a6
 ·have:=H;rw[B,oy] at this;exact this
 ·intro x k;have:=hh x k;unfold fe at this ⊢;rw[B,I] at this;simp only[oy] at this;exact this
theorem MA (k:List UInt8):∀(es:List MapEntry) (a:List (List UInt8×aq)) (i j:Nat) (u:aq),es.map (λe=>(e.key,e.val))=a.map (λp=>(yV p.1,p.2))->a[j]?=ax (k,u)->(∀m,m < j->∀p,a[m]?=ax p->p.1≠k) ->
  Instr.findNow .string (yV k) es i=ax (ax (i+j,u))
|[],[],i,j,u,_,h,_=>by simp at h
|e::es,p::a,i,j,u,h,b,d=>by
  simp only[avC,ayJ,axH] at h;obtain⟨⟨g,l⟩,n⟩:=h;have f:Instr.sameNow .string (yV k) e.key=ax (ai (k=p.1)):=by
   rw[g];show ax ((⟨k.toArray⟩:ByteArray)==⟨p.1.toArray⟩)=_
   congr 1
   show (k.toArray==p.1.toArray)=_;by_cases c:k=p.1<;>simp[c]
  cases j with
 |zero=>
   simp only[axW,axC] at b;subst b;rw[Instr.findNow,f];simp[l]
 |succ j=>
   have c:k≠p.1:=λe=>d 0 om p rfl e.symm;have o:=MA k es a (i+1) j u n (by simpa using b) (λm hm q r=>d (m+1) om q (by simpa using r));rw[Instr.findNow,f];simp[c,o];omega
|[],_::_,_,_,_,h,_,_=>by simp at h
|_::_,[],_,_,_,h,_,_=>by simp at h
section
variable {S:Nat->Prop}{P:Program}{w w0:ao}{L:List Ent}{PK:PKT}{K:VWP}
theorem ZH (i j:Nat){T k e:TypeId}{a:List (List UInt8×aq)}(z:P.underlying T=ax (.map k e))(f:P.underlying k=ax .string)(s:cH S w0 w L)(hi:L[i]?=ax (.map b a))(x:List UInt8)(u v:aq)(g:a[j]?=ax (x,u))
  (A:∀m,m < j->∀p,a[m]?=ax p->p.1≠x) (B:∀w',cH S w0 w' (L.set i (.map b (a.set j (x,v))))->K undef w'):DoX P (VZ T (.map (ax b)) (yV x) v) w PK K:=by
 obtain⟨es,clock,t,h⟩:=(show Vi w b a from s.at_ i hi);have y:=MA x es.toList a 0 j u h g A;rw[atK] at y;have c:j < es.toList.length:=by
  have:=congrArg List.length h;rw[atV,atV] at this;rw[this];exact (atT.1 g).1
 have n:j < es.size:=by simpa using c
 have o:es[j].key=yV x:=by
  have d:=congrArg (λl=>l[j]?) h;simp only[axK,g,ayO] at d;rw[atI c] at d;simp only[ayO,axC,axH,Array.getElem_toList] at d;exact d.1
 have q:Instr.sameBits 10000 (yV x) (yV x)=true:=by
  unfold yV;rw[Instr.sameBits];show (x.toArray==x.toArray)=av;simp
 have C:(Instr.mapUpdate T (.map (ax b)) (yV x) v).run P w=.ok () { w with heap:=w.heap.setIfInBounds b (.map (es.modify j λe=>{ e with key:=yV x,val:=v }) clock) }:=by
  have D:(Instr.findKey k (yV x) es.toList).run P w=.ok (ax (j,u)) w:=by simp[Instr.findKey,run_underlying f,y]
  simp[Instr.mapUpdate,run_underlying z,getObj,setObj,Sem.run,t,uO f x,D,Instr.keyThatStays,n,o,q]
 refine D7 (JJ C) (B _ ?_);refine s.put i hi (w':={ w with heap:=w.heap.setIfInBounds b _ }) ⟨rfl,rfl,rfl,sm,λk _ f=>?_⟩ (.map b (a.set j (x,v))) ?_ (λk f=>.inl f)
 ·show (w.heap.setIfInBounds b _)[k]?=_;exact axU (λe=>f (by simp[Ent.map,e]))
 ·refine⟨es.modify j λe=>{ e with key:=yV x,val:=v },clock,?_,?_⟩
  ·show (w.heap.setIfInBounds b _)[b]?=_;exact aAF (dY t)
  ·rw[Array.toList_modify];refine List.ext_getElem? λm=>?_;have d:=congrArg (λl=>l[m]?) h;simp only[axK] at d ⊢;rw[List.getElem?_modify,List.getElem?_set];by_cases hm:j=m
   ·subst hm;rw[atI c];have r:j < a.length:=(atT.1 g).1;simp[r]
   ·simp only[asT hm];rw[<-d];cases es.toList[m]?<;>rfl
end
theorem UP (s:List UInt8)(a b most:Nat)(w:ao)(p:a < b)(r:b+most<=s.length)(t:s.length<=1048576) :
  Ret ah 319 #[yV s,ad (a:Int),ad (b:Int),ad (most:Int)] w (λv w'=>(∃n:Nat,v=ad (n:Int)∧n<=most∧(∀i,i < n->s[a+i]?=s[b+i]?)∧(n=most∨s[a+n]?≠s[b+n]?))∧Below w.heap.size w w'):=by
 refine aL λK m=>Fz ?_;unfold Bi nz;refine loop (λvs W=>∃n:Nat,vs=[ad (n:Int)]∧n<=most∧(∀i,i < n->s[a+i]?=s[b+i]?)∧Own w W []) (λvs _=>most - n0 vs) ⟨0,rfl,om,(λi h=>by omega),Own.start w⟩ ?_;rintro vs u ⟨n,rfl,o,d,e⟩ _;simp only[wA,gd,rs,nz];refine quiet (Iq ?_);by_cases g:(n:Int) < (most:Int)
 ·simp only[g,asX,gq];have q:n < most:=om
  have j:a+n < s.length:=om
  have f:b+n < s.length:=om
  refine nF ?_;rw[aA om om,show (a:Int)+n=((a+n:Nat):Int) by omega];refine q_ix (a:=s) (c:=s[a+n]) atB om (by rw[atC,atI j]) ?_;refine nF ?_;rw[aA om om,show (b:Int)+n=((b+n:Nat):Int) by omega];refine q_ix (a:=s) (c:=s[b+n]) atB om (by rw[atC,atI f]) ?_;refine q_eq (LO ?_);intro w2 k;have e:=e.grow k;by_cases he:s[a+n]=s[b+n]
  ·simp only[he,asX,i_t,rs];rw[aA om om];refine aS ⟨n+1,rfl,om,λi hi=>?_,e⟩ (by simp[n0,RowKit.intOf];omega);by_cases h:i=n
   ·subst h;rw[atI j,atI f,he]
   ·exact d i om
  ·have l:¬((s[a+n].toNat:Int)=(s[b+n].toNat:Int)):=λh=>he (ayP.1 om);simp only[l,asW,i_f];refine m _ _ ⟨⟨n,rfl,o,d,.inr ?_⟩,e.done⟩;rw[atI j,atI f];exactλh=>he (awT h)
 ·simp only[g,asW,gq];refine Dr ?_;intro w2 k;have e:=e.grow k;simp only[i_f];exact m _ _ ⟨⟨n,rfl,o,d,.inl om⟩,e.done⟩
abbrev gk:=List UInt8×aq×List Nat
def gg (rr:List gk):List (List UInt8×aq):=rr.map λr=>(r.1,r.2.1)
def ey (r:gk):Ent:=.urow 3 1 r.2.1 r.2.2.length (aY r.2.2)
def ev (b:Nat)(rr:List gk)(T:List Ent):List Ent:=.map b (gg rr)::(rr.map ey++T)
def mc (s:List UInt8)(at_:Nat)(rr:List gk):Prop:=∀r∈rr,r.2.2.length<=at_∧∀i∈r.2.2,i < at_∧i+3<=s.length∧(s.drop i).take 3=r.1
theorem nq (x:List UInt8):∀rr:List gk,vP (gg rr) x=aw∨∃(j:Nat) (v:aq) (l:List Nat),rr[j]?=ax (x,v,l)∧vP (gg rr) x=ax v∧∀m:Nat,m < j->∀p:List UInt8×aq,(gg rr)[m]?=ax p->p.1≠x
|[]=>.inl rfl
|r::rr=>by
  by_cases h:r.1=x
  ·subst h;exact .inr ⟨0,r.2.1,r.2.2,rfl,by simp[vP,gg],λm hm=>absurd hm (azB _)⟩
  ·rcases nq x rr with a|⟨j,v,l,c,b,d⟩
   ·refine .inl ?_;simp only[vP,gg,avC,List.find?_cons] at a ⊢;simp only[h,asW];exact a
   ·refine .inr ⟨j+1,v,l,c,?_,λm hm p hp=>?_⟩
    ·simp only[vP,gg,avC,List.find?_cons] at b ⊢;simp only[h,asW];exact b
    ·cases m with
    |zero=>
      have:(r.1,r.2.1)=p:=by simpa[gg] using hp
      subst this;exact h
    |succ m=>exact d m om p (by simpa[gg] using hp)
theorem zq (rr:List gk)(j:Nat)(x:List UInt8)(v:aq)(l:List Nat):gg (rr.set j (x,v,l))=(gg rr).set j (x,v):=by
 unfold gg;rw[ayX]
theorem zr {rr:List gk}(a:j < rr.length)(r:gk)(T:List Ent):(rr.map ey++T).set j (ey r)=(rr.set j r).map ey++T:=by
 rw[List.set_append,asU (by rw[atV];exact a),ayX]
theorem sq {rr:List gk}{r:gk}(h:rr[j]?=ax r)(T:List Ent):(rr.map ey++T)[j]?=ax (ey r):=by
 have a:=(atT.1 h).1;rw[avK (by rw[atV];exact a),axK,h];rfl
theorem qa {s:List UInt8}{a:Nat}{rr:List gk}(h:mc s a rr)(c:a<=b):mc s b rr:=λr d=>⟨avH (h r d).1 c,λi hi=>⟨avR ((h r d).2 i hi).1 c,((h r d).2 i hi).2⟩⟩
theorem alM:(Tryz.prog.info? 123).bind (·.zero)=ax cO:=krx
section
variable {w:ao}{PK:PKT}{K:VWP}{S:Nat->Prop}{w0:ao}{L T:List Ent}
theorem alP {s:List UInt8}{fr g:Nat}{rr:List gk}(a:cH S w0 w (ev b rr T))(d:mc s fr rr)(H:fr<=g)(N:g<=s.length)(O:s.length<=1048576)
  (k:∀c W,cH S w0 W (ev b c T)->mc s g c->K (.tuple #[]) W):dZ ah 293 #[.map (ax b),yV s,ad (fr:Int),ad (g:Int)] w PK K:=by
 refine fY (AL (k0:=wM λv W=>v=.tuple #[]∧∃c,cH S w0 W (ev b c T)∧mc s g c) ?_) (λe W ⟨v,he,I,c,a,d⟩=>by subst he;subst I;exact k c W a d);unfold qX nz;refine loop (λvs W=>∃(i:Nat) (rr:List gk),vs=[ad (i:Int)]∧i<=g∧mc s i rr∧cH S w0 W (ev b rr T)) (λvs _=>g - n0 vs) ⟨fr,rr,rfl,H,d,a⟩ ?_;clear a d;rintro vs C ⟨i,rr,rfl,hi,d,a⟩ _;simp only[oG,gd,rs,iN,dx,bnx,gtx,etx];have stop:∀W,cH S w0 W (ev b rr T)->wM (λv W=>v=.tuple #[]∧∃c,cH S w0 W (ev b c T)∧mc s g c) (.returned (.tuple #[])) W:=λW a=>vB ⟨rfl,rr,a,qa d hi⟩;by_cases p:(i:Int) < (g:Int)
 case neg=>
  simp only[p,asW,gd,rs,i_f];exact stop C a
 simp only[p,asX,gd,rs];have y:(yV s)=ae s:=rfl;rw[y,cZ atB,aA om om];simp only[rs];by_cases D:(i:Int)+3<=(s.length:Int)
 case neg=>
  simp only[D,asW,i_f];exact stop C a
 simp only[D,asX,i_t];have q:i+3<=s.length:=om
 have a:=a.drew;refine⟨λW=>Vi W b (gg rr),a.at_ 0 rfl,?_⟩;have t:((s.drop ((i:Int)).toNat).take (((i:Int)+3).toNat - ((i:Int)).toNat))=(s.drop i).take 3:=by
  rw[atC,show ((i:Int)+3).toNat - i=3 by omega]
 refine aI _ (λ_=>OS) ?_;rw[aA om om];refine aI _ (λ_=>mY atB om om om) ?_;refine aI _ (λ_=>OS) ?_;rw[aA om om];refine aI _ (λ_=>mY atB om om om) ?_;rw[t];generalize E:(s.drop i).take 3=x;refine gJ ((vP (gg rr) x).getD cO) (λW h=>M5 (ok:=au) aAz atB alM h x) ?_;rw[aA om om,show (i:Int)+1=((i+1:Nat):Int) by omega];rcases nq x rr with F|⟨j,v,l,u,J,z⟩
 ·rw[F];refine yM (i:Int) (cH.nilU a 3 1) λL w2 a=>⟨a.at_ 2 rfl,?_⟩;refine sE 1 a rfl (a.sl 0 rfl 1 1 1 rfl) xH om λv' w3 a=>?_;have a:cH S w0 w3 (.urow 3 1 v' 1 (aY [i])::.map b (gg rr)::(rr.map ey++T)):=a.tail;refine TK 1 aAz atB a rfl x v' F λG a=>?_;refine aS ⟨i+1,rr++[(x,v',[i])],rfl,om,?_,?_⟩ (by simp[n0,RowKit.intOf];omega)
  ·intro r f;rcases auF.1 f with f|f
   ·exact qa d om r f
   ·rw[auB.1 f];exact⟨sm,λm hm=>by rw[auB.1 hm];exact⟨om,q,E⟩⟩
  ·have e:ev b (rr++[(x,v',[i])]) T=.map b (gg rr++[(x,v')])::(rr.map ey++([ey (x,v',[i])]++T)):=by
    unfold ev gg;simp[auJ,atJ]
   rw[e];have a:cH S w0 G ([ey (x,v',[i])]++((.map b (gg rr++[(x,v')])::rr.map ey)++T)):=a;exact a.front
 ·rw[J];have A:=(atT.1 u).1;have B:=awV u;have o:=d _ B;refine yM (i:Int) a λL w2 a=>⟨a.at_ 1 rfl,?_⟩;refine sE (j+2) (v:=v) (n:=l.length) (xs:=aY l) a (by show (rr.map ey++T)[j]?=_;rw[sq u];rfl) (a.sl 0 rfl 1 1 1 rfl) xH (by have:=o.1;simp only at this;omega) λv' w3 a=>?_;have M:((rr.map ey++T).set j (.urow 3 1 v' (l.length+1) (aY l++Rd [(i:Int)])))=(rr.set j (x,v',l++[i])).map ey++T:=by
   rw[<-zr A];unfold ey;rw[nH,asY];rfl
  have a:cH S w0 w3 (.map b (gg rr)::((rr.map ey++T).set j (.urow 3 1 v' (l.length+1) (aY l++Rd [(i:Int)])))):=a.tail;rw[M] at a;refine ZH 0 j aAz atB a rfl x v v' (by unfold gg;rw[axK,u];rfl) z λG a=>?_;refine aS ⟨i+1,rr.set j (x,v',l++[i]),rfl,om,?_,?_⟩ (by simp[n0,RowKit.intOf];omega)
  ·intro r f;rcases azT f with f|f
   ·exact qa d om r f
   ·subst f;refine⟨by simp only[asY,avA];have:=o.1;simp only at this;omega,λm hm=>?_⟩;rcases auF.1 hm with hm|hm
    ·exact⟨by have:=(o.2 m hm).1;omega,(o.2 m hm).2⟩
    ·rw[auB.1 hm];exact⟨om,q,E⟩
  ·unfold ev;rw[zq];exact a
end
theorem ajZ (a:Sl w v 1 l.length (aY l))(hi:i < l.length) :
  ∃p,(mIA 123 v (ad (i:Int))).run ah w=.ok (.value (.pointer (ax p))) w∧(aK 3 (.pointer (ax p))).run ah w=.ok (.value (ad (l[i]:Int))) w:=by
 obtain⟨b,off,cap,rfl,c⟩:=bU a om;refine⟨⟨b,off+i,aw⟩,?_,?_⟩
 ·have:=dP (P:=ah) (T:=123) (b:=b) (off:=off) (cap:=cap) (n:=l.length) (k:=.i64) (i:=(i:Int)) (w:=w) auA P4 om om;rw[atC,atY] at this;exact this
 ·refine bB (AtV.cell bZ (c _ _ ?_));unfold aY;rw[axK,atI hi];rfl
def ki (s:List UInt8)(at_:Nat)(x:bo):Prop:=x.1=0∧(x.2.1=0∧x.2.2=0∨3<=x.2.1∧x.2.1<=258∧1<=x.2.2∧x.2.2<=32768∧x.2.2<=at_∧at_+x.2.1<=s.length∧∀i,i < x.2.1->s[at_ - x.2.2+i]?=s[at_+i]?)
theorem zt {s:List UInt8}{a:Nat}(h:(s.drop a).take 3=(s.drop b).take 3)(hi:i < 3):s[a+i]?=s[b+i]?:=by
 have:=congrArg (λl=>l[i]?) h;simp only[avZ,asU hi,awJ] at this;exact this
theorem apP (n f:Nat):DoX ah (aW 291 #[(1,ad (n:Int)),(2,ad (f:Int))]) w PK K=K (ptV (0,n,f)) w:=aC krx
section
variable {w:ao}{PK:PKT}{K:VWP}{S:Nat->Prop}{w0:ao}{L T:List Ent}
theorem akE (j:Nat){x:bo}(a:cH S w0 w L)(hi:L[j]?=ax (ptE b x)):DoX ah (aK 291 (af b 0)) w PK K=K (ptV x) w:=Jn (a.agg j hi aiB)
theorem amI {K:Ending->ao->Prop}{x:bo}(i:Nat)(a:cH S w0 w L)(hi:L[i]?=ax (ptE b x))(k:K (.returned (ptV x)) w):A2 ah [.cell (af b 0) 291] w K:=
 fH (bJ (a.agg i hi aiB)) k
theorem Xh {s:List UInt8}{a:Nat}{rr:List gk}(c:cH S w0 w (ev b rr T))(M:mc s a rr)(ha:a<=s.length)(hs:s.length<=1048576)
  (k:∀x W,cH S w0 W (ev b rr T)->ki s a x->K (ptV x) W):dZ ah 292 #[.map (ax b),yV s,ad (a:Int)] w PK K:=by
 refine fY (uZ (k0:=wM λv W=>∃x,v=ptV x∧cH S w0 W (ev b rr T)∧ki s a x) ?_) (λe W ⟨v,he,x,hv,c,hc⟩=>by subst he;subst hv;exact k x W c hc);unfold mE nz;refine VN c λf w1 c=>?_;refine VN c λq w2 c=>?_;have r:(yV s)=ae s:=rfl;have fin:∀(W:ao) (x:bo),cH S w0 W (ptE q x::ptE f (0,0,0)::ev b rr T)->ki s a x->DoX ah (aK 291 (af q 0)) W (pk (wM λv W=>∃x,v=ptV x∧cH S w0 W (ev b rr T)∧ki s a x)) λt72 w=>
   DoX ah (aV 291 (af f 0) t72) w (pk (wM λv W=>∃x,v=ptV x∧cH S w0 W (ev b rr T)∧ki s a x)) λ_ w=>
   A2 ah [.cell (af f 0) 291] w (wM λv W=>∃x,v=ptV x∧cH S w0 W (ev b rr T)∧ki s a x):=by
  intro W x c N;rw[akE 0 c rfl];refine OJ (y:=x) 1 c rfl λw3 c=>?_;exact amI 1 c rfl (vB ⟨x,rfl,c.tail.tail,N⟩)
 have g:ki s a (0,0,0):=⟨rfl,.inl ⟨rfl,rfl⟩⟩;simp only[rs];rw[r,cZ atB,aA om om];simp only[rs];by_cases Y:(s.length:Int) < (a:Int)+3
 ·simp only[Y,asX,i_t];exact fin w2 _ c g
 simp only[Y,asW,i_f];have a1:a+3<=s.length:=om
 rw[cZ atB];simp only[rs];rw[aA (n:=(s.length:Int) - a) om om,Ek,show min (258:Int) ((s.length:Int) - a)=((min 258 (s.length - a):Nat):Int) by omega];generalize O:min 258 (s.length - a)=most;rw[Qs atB om om om,atC,show ((a:Int)+3).toNat - a=3 by omega];generalize N:(s.drop a).take 3=x;refine aC (M5 (ok:=au) aAz atB alM (show Vi w2 b (gg rr) from c.at_ 2 rfl) x) |>.mpr ?_;simp only[axI,if_false];have main:∀(v:aq) (l:List Nat),(∀W x,cH S w0 W (ptE q x::ptE f (0,0,0)::ev b rr T)->Sl W v 1 l.length (aY l))->l.length<=a->(∀i∈l,i < a∧i+3<=s.length∧(s.drop i).take 3=x) ->
   Ax [ad ((l.length:Int) - 1)] w2 (λP w N1=>∀_:Sg,fO (ae s) (ad (a:Int)) (af f 0) (af q 0) (ad (most:Int)) v (P.getD 0 undef) w N1 (wM λv W=>∃x,v=ptV x∧cH S w0 W (ev b rr T)∧ki s a x)):=by
  intro v l d a6 Q;refine loop (λvs W=>∃(i:Nat) (x:bo),vs=[ad ((i:Int) - 1)]∧i<=l.length∧ki s a x∧cH S w0 W (ptE q x::ptE f (0,0,0)::ev b rr T)) (λvs _=>(RowKit.intOf (vs.getD 0 undef)+1).toNat) ⟨l.length,(0,0,0),rfl,om,g,c⟩ ?_;clear c;rintro vs w3 ⟨i,y,rfl,hi,I,c⟩ _;simp only[fO,gd,rs,nz];cases i with
 |zero=>
   simp only[show ai ((0:Int)<=((0:Nat):Int) - 1)=au by decide,gd,rs,i_f];exact fin w3 y c I
 |succ i=>
   rw[show ((i+1:Nat):Int) - 1=(i:Int) by omega];simp only[show ai ((0:Int)<=(i:Int))=av from atA om,gd,rs];obtain⟨p,t,u⟩:=ajZ (d w3 y c) (i:=i) om;rw[aC t,aC u];obtain⟨A,R,B⟩:=Q l[i] (atP _);generalize C:l[i]=m at A R B;simp only[rs];rw[aA om om,show (a:Int) - m=((a - m:Nat):Int) by omega];by_cases o:((a - m:Nat):Int)<=32768
   case neg=>
    simp only[o,asW,gd,rs,i_f];exact fin w3 y c I
   simp only[o,asX,gd,rs];rw[aO Hy,pt_1 c 0 rfl];simp only[rs];by_cases D:(y.2.1:Int) < (most:Int)
   case neg=>
    simp only[D,asW,gd,rs,i_f];exact fin w3 y c I
   simp only[D,asX,gd,rs,i_t];refine join λJ hJ=>?_;rw[aC t,aC u,C];have next:∀(W:ao) (z:bo),cH S w0 W (ptE q z::ptE f (0,0,0)::ev b rr T)->ki s a z->J [] W:=by
    intro W z c hz;refine hJ _ _ λ_=>?_;simp only[kG,gd,rs,nz];rw[aA om om];exact aS ⟨i,z,rfl,om,hz,c⟩ (by simp[RowKit.intOf])
   refine aJ c (UP s m a most w3 A om hs) ?_;rintro _ Z ⟨n,rfl,hn,U,r⟩ c;rw[aO Hy,pt_1 c 0 rfl];simp only[rs];by_cases E:(y.2.1:Int) < (n:Int)
   case neg=>
    simp only[E,asW,i_f];exact next Z y c I
   simp only[E,asX,i_t];obtain⟨p2,F,G⟩:=ajZ (d Z y c) (i:=i) om;rw[aC F,aC G,C];simp only[rs];rw[aA om om,show (a:Int) - m=((a - m:Nat):Int) by omega,apP];refine OJ (y:=(0,n,a - m)) 0 c rfl λw5 c=>?_;refine next w5 (0,n,a - m) c ⟨rfl,.inr ⟨?_,by show n<=258;omega,by show 1<=a - m;omega,by show a - m<=32768;omega,by show a - m<=a;omega,by show a+n<=s.length;omega,λj L=>?_⟩⟩
   ·show 3<=n;rcases r with h|h
    ·omega
    ·refine Nat.le_of_not_lt λV=>h (zt (B.trans N.symm) V)
   ·show s[a - (a - m)+j]?=_;rw[show a - (a - m)=m by omega];exact U j L
 rcases nq x rr with hn|⟨j,v,l,L,Q,a7⟩
 ·rw[hn];show DoX ah (mB .len #[123] 3 #[au] #[cO]) w2 _ _;rw[show cO=.slice aw 0 0 from rfl,bO auA];simp only[rs];rw[aA om om];exact main (.slice aw 0 0) [] (λW x c=>by exact (cH.nilU c 3 1).slU 0 rfl) sm (λi hi=>by cases hi)
 ·rw[Q];have H:=M _ (awV L);have d:∀(W:ao) (y:bo),cH S w0 W (ptE q y::ptE f (0,0,0)::ev b rr T)->Sl W v 1 l.length (aY l):=λW y c=>c.slU (j+3) (by show (rr.map ey++T)[j]?=_;rw[sq L];rfl);show DoX ah (mB .len #[123] 3 #[au] #[v]) w2 _ _;rw[aZ auA (d w2 _ c)];simp only[rs];have X:l.length<=a:=H.1;rw[aA om om];exact main v l d X H.2
end
end
end Go.Proofs.YtlipjfcbjemicaaGreatDoor
