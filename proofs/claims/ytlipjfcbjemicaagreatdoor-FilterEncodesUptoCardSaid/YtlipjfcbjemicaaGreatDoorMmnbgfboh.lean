/- Parts of the proof. -/
import Derived.Test.YtlipjfcbjemicaaGreatDoorRows
import Derived.Maps.RangeRun
import Derived.Lib.ConvBytes
import Derived.Laws.IdiomCopy
import Derived.Test.YtlipjfcbjemicaaGreatDoorMmaoipmob
set_option linter.all false
set_option maxRecDepth 20000
open Go.Proofs.Tryz
open Go.Proofs.Tryz renaming prog->ah
open Option renaming some->ax,none->aw
open Bool renaming true->av,false->au
open Go renaming Value->aq,World->ao
open Decidable renaming decide->ai
namespace Go.Proofs.YtlipjfcbjemicaaGreatDoor
variable{A:Nat->Prop}{D U U2:TypeId}{K:VWP}{L:List Eng.Ent}{M:Eng.Mem}{P:Program}{PK:PKT}{R:Ending->FrameMode->ao->Prop}{W w w' w0:ao}{a way:Int}{b cap fb h i j most p rb sz tb:Nat}{cl near:List Nat}{cs news xs:List aq}{t0 v v' v2:aq}{u:FrameMode}{α:Type}{t0 t1 t2 t3 t4:aq}{k0:Eng.KT}
section
namespace Eng
open Go.RowKit
theorem P5 {g:Nat}(h:w'.heap[g]?=w.heap[g]?):w'.cell? ⟨g,j,aw⟩=w.cell? ⟨g,j,aw⟩:=by
 unfold World.cell?;simp only[h]
theorem Rg {T E:TypeId}{cs:Array Bool}{g m n bytes:Nat}(H:P.underlying T=ax (.slice E))(he:elB P E sz bytes=av)(L:0 < sz)
  (d:(Ent.urow E sz (bR g 0 n cap) n xs).is w) (M:Sl w v2 sz m news) (hm:0 < m) (N:∀u∈news,u.oneCell'=av) (O:(n+m)*bytes<=140737488355328) (Q:n+m<=140737488355328)
  (r:(mB .append #[T,T] U cs #[bR g 0 n cap,v2]).run P w=.ok (.value v') w') (l:(Ent.urow E sz v' (n+m) (xs++news)).is w') {j:Nat} {u:aq} (o:xs[j]?=ax u):w'.cell? ⟨g,j,aw⟩=ax u:=by
 obtain⟨i,z,hi,R,v,x,S⟩:=jX he;subst v;subst x;have d:w.ownsRow 0 E i.size (bR g 0 n cap) n xs:=d;have l:w'.ownsRow 0 E i.size v' (n+m) (xs++news):=l;obtain⟨y,a,c,rfl,V,W⟩:=M;have A:n+m<=maxLen:=by simp only[maxLen];omega
 cases a with
|none=>have:=V rfl;omega
|some p=>
  have I:∀j u,news[j]?=ax u->w.cell? (p.add j)=ax u:=by
   intro j u o;obtain⟨B,f⟩:=W p rfl;have:=B hm;obtain⟨b,off,spot⟩:=p;simp only at this f;subst this;rw[cK];exact f j u o
  have holds:∀j u,xs[j]?=ax u->w.cell? ((⟨g,0,aw⟩:Addr).add j)=ax u:=d.cells (g:=g) rfl;have C:=d.1;rcases d.2 with ⟨h,_⟩|⟨g',J,cur,X,Y,K,Z,a1,D,F⟩
  ·cases h
  injection X with q e2 e3
  injection q with q
  injection q with q
  subst q;subst e3;by_cases k:n+m<=cap
  ·have s:n*i.size+news.length<=cur.size:=by rw[y,D,<-awA];exact auY _ k
   have G:=run_append_room (P:=P) w T U E i H hi g n cap cur K p m c news y I N k s;have:(mB .append #[T,T] U cs #[bR g 0 n cap,.slice (ax p) m c]).run P w=.ok (.value (bR g 0 (n+m) cap)) (w.setRow g (cur.toList.take (n*i.size)++news++cur.toList.drop (n*i.size+news.length)).toArray):=by simp[mB,builtin,G]
   rw[this] at r;cases r;have:=l.cells (g:=g) rfl j u (by rw[avK (atT.1 o).1];exact o);rw[cK,atK] at this;exact this
  ·have G:=run_append_grow (P:=P) w T U E i z H hi R ⟨g,0,aw⟩ n cap xs C holds p m c news y I om (by simp only[maxLen] at A;omega) (growslice_fits om O);have:(mB .append #[T,T] U cs #[bR g 0 n cap,.slice (ax p) m c]).run P w=.ok (.value (bR w.heap.size 0 (n+m) (grownCap w (n+m) cap E)))
    (w.drew.alloc (.cells (xs.toArray++news.toArray++Builtin.zeroCells z.cells (grownCap w (n+m) cap E - (n+m))) E)):=by simp[mB,builtin,G]
   rw[this] at r;cases r;have t:g < w.heap.size:=(azC.1 K).1;have e:(w.drew.alloc (.cells (xs.toArray++news.toArray++Builtin.zeroCells z.cells (grownCap w (n+m) cap E - (n+m))) E)).heap[g]?=w.heap[g]?:=by first|exact heap_alloc_old w.drew _ t|exact heap_alloc_old w.drew _ _ t
   rw[P5 e];have:=holds j u o;rw[cK,atK] at this;exact this
theorem F8 {T E:TypeId}{cs:Array Bool}{n:Nat}{l:List UInt8}(j:P.underlying T=ax (.slice E))(hu:P.underlying U2=ax .string)(he:elB P E 1 1=av)(m:P.underlying E=ax (.int .u8))
  (b:(P.info? E).bind (·.zero)=ax (.int .u8 0)) (a:w.ownsRow 0 E 1 v n xs) (d:n+l.length<=140737488355328) :
  ∃v' w',(mB .append #[T,U2] U cs #[v,ae l]).run P w=.ok (.value v') w'∧GC (.urow E 1 v n xs) (.urow E 1 v' (n+l.length) (xs++aH l)) w w':=by
 obtain⟨v',w',r,t,_⟩:=vQ (P:=P) (U:=U) (cs:=cs) j hu he m b (World.ownsRowF_of a) d;refine⟨v',w',r,t.grew,?_,t.new⟩;obtain⟨i,z,hi,q,e,f,o⟩:=jX he;have g:i.zero=ax (.int .u8 0):=by rw[hi] at b;exact b
 have c:=dC l;have h:n+(⟨l.toArray⟩:ByteArray).size<=maxLen:=by rw[c];simp only[maxLen];omega
 obtain⟨v2,w2,p,k,s,u⟩:=Lib.run_append_own_string (P:=P) w 0 T U2 U E i j hu hi g e f v n xs a ⟨l.toArray⟩ h (by rw[c];omega) (atU _);rw[BA,c] at k;have:(mB .append #[T,U2] U cs #[v,ae l]).run P w=.ok (.value v2) w2:=by simp[mB,builtin,p]
 rw[this] at r;cases r;exact k
section
variable {S:Nat->Prop}{P:Program}{w:ao}{PK:PKT}{K:VWP}
theorem VR (i:Nat){T E:TypeId}{cs:Array Bool}{g bytes n m:Nat}(d:P.underlying T=ax (.slice E))(he:elB P E sz bytes=av)(a:0 < sz)
  (c:cH S w0 w L) (hi:L[i]?=ax (.urow E sz (bR g 0 n cap) n xs)) (e:Sl w v2 sz m news) (hm:0 < m) (f:∀u∈news,u.oneCell'=av) (h:(n+m)*bytes<=140737488355328) (b:n+m<=140737488355328)
  (k:∀v' w',(∀j u,xs[j]?=ax u->w'.cell? ⟨g,j,aw⟩=ax u)->cH S w0 w' (L.set i (.urow E sz v' (n+m) (xs++news)))->K v' w'):DoX P (mB .append #[T,T] U cs #[bR g 0 n cap,v2]) w PK K:=by
 obtain⟨v',w',r,t⟩:=BV (cs:=cs) (U:=U) d he a (c.at_ i hi) e f h b;exact kW r (k _ _ (λj u l=>Rg d he a (c.at_ i hi) e hm f h b r t.is l) (c.turn i hi t))
theorem GJ (i:Nat){T E:TypeId}{cs:Array Bool}{n:Nat}{l:List UInt8}(d:P.underlying T=ax (.slice E))(hu:P.underlying U2=ax .string)(he:elB P E 1 1=av)(e:P.underlying E=ax (.int .u8))
  (a:(P.info? E).bind (·.zero)=ax (.int .u8 0)) (c:cH S w0 w L) (hi:L[i]?=ax (.urow E 1 v n xs)) (b:n+l.length<=140737488355328)
  (k:∀v' w',cH S w0 w' (L.set i (.urow E 1 v' (n+l.length) (xs++aH l)))->K v' w'):DoX P (mB .append #[T,U2] U cs #[v,ae l]) w PK K:=by
 obtain⟨v',w',r,t⟩:=F8 (cs:=cs) (U:=U) d hu he e a (c.at_ i hi) b;exact kW r (k _ _ (c.turn i hi t))
end
end Eng
end
section
open Eng Go.RowKit
def jd (d:Nat):Nat->List UInt8->List UInt8
|0,out=>out
|n+1,out=>jd d n (out++[out.getD (out.length - d) 0])
theorem tp (d:Nat):∀(n:Nat) (out:List UInt8),(jd d n out).length=out.length+n
|0,out=>rfl
|n+1,out=>by rw[jd,tp d n,asY,avA];omega
theorem ya (i:Nat):1<=fh i:=by
 unfold fh
 induction i with
|zero=>decide
|succ i a=>exact avH a (Nat.le_add_right _ _)
def ei (far:List Nat)(s:List UInt8)(p sign:Nat)(out:List UInt8)(most:Nat):List UInt8×Nat×Int:=
 if 285 < sign then (out,p,13)
 else if 8*s.length < p+fu (sign - 257) then (out,p,4)
 else
  let size:=jy (sign - 257)+Fl.num s p (fu (sign - 257))
  let r:=ec far s (p+fu (sign - 257))
  if r.2.2≠0 then (out,p,r.2.2)
  else if 29 < r.1 then (out,p,13)
  else if 8*s.length < r.2.1+ee r.1 then (out,p,4)
  else
   let d:=fh r.1+Fl.num s r.2.1 (ee r.1)
   if out.length < d then (out,p,14)
   else if most < out.length+size then (out,p,5)
   else (jd d size out,r.2.1+ee r.1,0)
theorem afL {b:Int}:(mFld 371 (snV a b) 1).run ah W=.ok (.value (ad b)) W:=krx
theorem alS {b:Int}:DoX ah (mFld 371 (snV a b) 1) w PK K=K (ad b) w:=aC afL
section
variable {w:ao}{PK:PKT}{K:VWP}{S:Nat->Prop}{w0:ao}{L:List Ent}
theorem aeH (a:cH S w0 w L)(j:Nat){ov:aq}{most:Int}(hi:L[j]?=ax (flE b rb ov most)):DoX ah (aK 53 (af b (0+1))) w PK K=K ov w:=aR GK (a.cell j hi 1 rfl)
theorem Qq (j:Nat){ov a:aq}{most:Int}(h:a.oneCell'=av)(c:cH S w0 w L)(hi:L[j]?=ax (flE b rb ov most))(k:∀w',cH S w0 w' (L.set j (flE b rb a most))->K undef w') :
  DoX ah (aV 53 (af b (0+1)) a) w PK K:=aN j c hi krx h (by show 0+1 < 3;omega) k
theorem I3:elB ah 5 1 1=true:=krx
theorem JA (c:UInt8)(a:cH S w0 w L)(k:∀b w',cH S w0 w' (.cells b (aH [c]) 5::L)->K (bR b 0 1 1) w'):DoX ah (aT 53 1 #[(0,.int .u8 (c.toNat:Int))]) w PK K:=
 bI (λb=>bR b 0 1 1) (aH [c]) 5 (λ_=>by kernel_rfl) a k
abbrev Fs (fb rb:Nat)(s:List UInt8)(most:Nat)(ov:aq)(way:Int)(p:Nat)(out:List UInt8)(R:List Ent):List Ent:=flE fb rb ov (most:Int)::bqE rb s way p::kQ ov out::R
theorem Jt {ov:aq}{most:Int}(h:(flE b rb ov most).is W):(aK 53 (af b (0+1))).run ah W=.ok (.value ov) W:=aB GK (aG (T:=278) (cs:=flC rb ov most) h rfl)
theorem jR {ov:aq}{out:List UInt8}(h:(kQ ov out).is W):Sl W ov 1 out.length (aH out):=Sl.urow h
theorem fW {l:List UInt8}(hi:i < l.length):(aH l)[i]?=ax (.int .u8 (l[i].toNat:Int)):=by
 unfold aH;rw[axK,atI hi];rfl
theorem R8 {l:List UInt8}(a:Sl w v 1 l.length (aH l))(hi:i < l.length) :
  ∃b off,(∀W,(mIA 53 v (ad (i:Int))).run ah W=.ok (.value (af b (off+i))) W)∧w.cell? ⟨b,off+i,aw⟩=ax (.int .u8 (l[i].toNat:Int)):=by
 obtain⟨b,off,cap,rfl,c⟩:=bU a om;refine⟨b,off,λW=>?_,c i _ (fW hi)⟩;have:=dP (P:=ah) (T:=53) (b:=b) (off:=off) (cap:=cap) (n:=l.length) (k:=.i64) (i:=(i:Int)) (w:=W) atM (show _=ax 1 by kernel_rfl) om om
 rwa [atC,atY] at this
theorem M1:eP ah 5=true:=krx
theorem bN {l:List UInt8}:∀u∈aH l,u.oneCell'=true:=by
 unfold aH;intro u hu;obtain⟨c,_,rfl⟩:=auH.1 hu;rfl
theorem Zz {ov:aq}{s:List UInt8}{out:List UInt8}{lens:List Nat}{R:List Ent}(jm:Nat)(f:cH S w0 w (Fs fb rb s most ov way p out R))(hm:R[jm]?=ax (.mem M))(ht:TbAt M.A M.w tb lens)(hl:lens.length<=1000)(hw:way=0∨way=1)(hp:p<=8*s.length)(Q:s.length<=1000000000)(b2:most<=1000000000)(b3:out.length<=most)(hi:i<=1000)
  (H:(ei lens s p (257+i) out most).2.2=0->(ei lens s p (257+i) out most).2.1<=8*s.length->(ei lens s p (257+i) out most).1.length<=most->∀way' l W,(way'=0∨way'=1)->cH S w0 W (Fs fb rb s most l way' (ei lens s p (257+i) out most).2.1 (ei lens s p (257+i) out most).1 R)->K (.tuple #[]) W)
  (y:(ei lens s p (257+i) out most).2.2≠0->∀l way' p' a W,cH S w0 W (Fs fb rb s most l way' p' a R)->PK [upI (ei lens s p (257+i) out most).2.2] W) :
  dZ ah 348 #[af fb 0,ad ((257+i:Nat):Int),af tb 0] w PK K:=by
 generalize g:ei lens s p (257+i) out most=X at H y;refine⟨vF ?_⟩;unfold mN nz;unfold ei at g;simp only[rs];refine kF (λI=>?_) (λI=>?_)
 rotate_left
 ·have:=auS I;rw[asU om] at g;subst g;exact y (by dsimp only;decide) _ _ _ _ _ f
 have I:=atQ I;have u:i<=28:=om
 rw[asT om,azK] at g;obtain⟨b4,U⟩:=tj u;rw[aA om om,show ((257+i:Nat):Int) - 257=(i:Int) by omega];refine aJ f (R:=λv=>v=snV (jy i) (fu i)) (Qd i w u) ?_;rintro _ w1 rfl f;rw[alS];refine sI 0 1 f rfl rfl hw hp om Q (λh2 W f=>?_) (λh2 W f=>?_)
 rotate_left
 ·rw[asU h2] at g;subst g;exact y (by dsimp only;decide) _ _ _ _ _ f
 rw[asT om] at g;dsimp only at g;have x:(if 0 < fu i then (1:Int) else way)=0∨(if 0 < fu i then (1:Int) else way)=1:=by split;exact .inr rfl;exact hw
 have f:cH S w0 W (Fs fb rb s most ov (if 0 < fu i then 1 else way) (p+fu i) out R):=f;generalize (if 0 < fu i then (1:Int) else way)=a8 at f x;have C:=Fl.Cm s p (fu i);refine aJ f (R:=λv=>v=.tuple #[ad ((jy i+Fl.num s p (fu i):Nat):Int),ad 0]) (Xi i _ W u C) ?_;rintro _ w2 rfl f;simp only[ex];refine xW (λ_=>?_) (λh=>absurd rfl h);have V:jy i+Fl.num s p (fu i)<=100000:=by
  have:2 ^ fu i<=2 ^ 5:=avP dc U;omega
 generalize jy i+Fl.num s p (fu i)=sz at g V
 try rw[bD]
 rw[Pn,YM f 0 rfl];refine Rl 1 (jm+3) om f rfl hm ht hl x om Q λj W3 E D f=>?_;have f:cH S w0 W3 (Fs fb rb s most ov j (ec lens s (p+fu i)).2.1 out R):=f;generalize ec lens s (p+fu i)=T at g f D;obtain⟨fi,q,e⟩:=T;dsimp only at g f D;simp only[ex];refine xW (λJ=>?_) (λJ=>?_)
 rotate_left
 ·rw[asU J] at g;subst g;exact y J _ _ _ _ _ f
 rw[asT (by rw[J];decide)] at g;simp only[rs];refine kF (λL=>?_) (λL=>?_)
 rotate_left
 ·have:=auS L;rw[asU om] at g;subst g;exact y (by dsimp only;decide) _ _ _ _ _ f
 have L:=atQ L;have z:fi<=29:=om
 rw[asT om] at g;obtain⟨b5,b6⟩:=tm z;refine aJ f (R:=λv=>v=snV (fh fi) (ee fi)) (TJ fi W3 om) ?_;rintro _ w4 rfl f;rw[alS];refine sI 0 1 f rfl rfl E D om Q (λh5 W f=>?_) (λh5 W f=>?_)
 rotate_left
 ·rw[asU h5] at g;subst g;exact y (by dsimp only;decide) _ _ _ _ _ f
 rw[asT om] at g;have x:(if 0 < ee fi then (1:Int) else j)=0∨(if 0 < ee fi then (1:Int) else j)=1:=by split;exact .inr rfl;exact E
 have f:cH S w0 W (Fs fb rb s most ov (if 0 < ee fi then 1 else j) (q+ee fi) out R):=f;generalize (if 0 < ee fi then (1:Int) else j)=o at f x;have C:=Fl.Cm s q (ee fi);refine aJ f (R:=λv=>v=.tuple #[ad ((fh fi+Fl.num s q (ee fi):Nat):Int),ad 0]) (abZ fi _ W z C) ?_;rintro _ w6 rfl f;simp only[ex];refine xW (λ_=>?_) (λh=>absurd rfl h);have b7:=ya fi;have Y:1<=fh fi+Fl.num s q (ee fi):=om
 generalize fh fi+Fl.num s q (ee fi)=d at g Y
 try rw[bD]
 rw[aO BG,aeH f 0 rfl,aZ atM (jR (f.at_ 2 rfl))];simp only[rs];refine kF (λN=>?_) (λN=>?_)
 rotate_left
 ·have:=auS N;rw[asU om] at g;subst g;exact y (by dsimp only;decide) _ _ _ _ _ f
 have N:=atQ N;rw[asT om] at g;refine Yg (n:=sz) 0 2 f rfl rfl om om om (λh7 W f=>?_) (λh7 W f=>?_)
 rotate_left
 ·rw[asU om] at g;subst g;exact y (by dsimp only;decide) _ _ _ _ _ f
 rw[asT om] at g;refine loop (λvs W=>∃(k:Nat) (l:aq) (a:List UInt8),vs=[ad k]∧k<=sz∧d<=a.length∧a.length+(sz - k)<=most∧jd d (sz - k) a=X.1∧cH S w0 W (Fs fb rb s most l o (q+ee fi) a R)) (λvs _=>sz - n0 vs) ⟨0,ov,out,rfl,om,om,om,by rw[<-g];rfl,f⟩ ?_;clear f;rintro vs w7 ⟨k,l,a,rfl,hk,b9,c0,t,f⟩ _;simp only[kM,gd,rs,iN,bnx];by_cases F:(k:Int) < (sz:Int)
 ·simp only[F,asX,i_t];have f:=f.drew;have r:a.length - d < a.length:=om
  obtain⟨O,B,rfl⟩:=qL (f.at_ 2 rfl) om;obtain⟨cb,b0,b1,m,Z⟩:=bU (jR (f.at_ 2 rfl)) om
  injection m with m e2 e3
  injection m with m
  injection m with m e4
  subst m;subst e4;refine⟨λW=>(flE fb rb (bR O 0 a.length B) most).is W∧W.cell? ⟨O,a.length - d,aw⟩=ax (.int .u8 (a[a.length - d].toNat:Int)),⟨f.at_ 0 rfl,?_⟩,?_⟩
  ·have:=Z _ _ (fW r)
   rwa [atK] at this
  refine aI _ (λ_=>cR) (aI _ (λ_=>bC BG) (gJ _ (λW h=>Jt h.1) ?_));refine aI _ (λ_=>cR) (aI _ (λ_=>bC BG) (gJ _ (λW h=>Jt h.1) ?_));refine aI _ (λ_=>cR) (aI _ (λ_=>bC BG) (gJ _ (λW h=>Jt h.1) ?_));refine aI (ad (a.length:Int)) (λW=>by simp[mB,builtin,Builtin.len_,run_underlying atM,goInt]) ?_;refine aI _ (λW=>bQ (by simp[binOp];rfl)) ?_;rw[aA om om,show (a.length:Int) - (d:Int)=((a.length - d:Nat):Int) by omega];refine aI (af O (a.length - d)) (λW=>?_) ?_
  ·have:=dP (P:=ah) (T:=53) (b:=O) (off:=0) (cap:=B) (n:=a.length) (k:=.i64) (i:=((a.length - d:Nat):Int)) (w:=W) atM (show _=ax 1 by kernel_rfl) om om
   rwa [atC,atY,atK] at this
  refine gJ _ (λW h=>aB M1 h.2) ?_;generalize hc:a[a.length - d]=c;refine JA c f λb8 w8 f=>?_;refine⟨⟨f.at_ 1 rfl,?_⟩,?_⟩
  ·obtain⟨_,_,_,m,Z⟩:=bU (jR (f.at_ 3 rfl)) om
   injection m with m e2 e3
   injection m with m
   injection m with m e4
   subst m;subst e4;have:=Z _ _ (fW r);rw[atK,hc] at this;exact this
  refine VR 3 atM I3 dc f rfl (gS (f.at_ 0 rfl) dc rfl) dc bN om om λv' w9 a1 f=>?_;have a6:v'.oneCell'=true:=dO (f.at_ 3 rfl);refine⟨⟨f.at_ 1 rfl,?_⟩,?_⟩
  ·have:=a1 _ _ (fW r);rw[hc] at this;exact this
  refine aI _ (λ_=>cR) (aI _ (λ_=>bC BG) ?_);refine Qq 1 a6 f rfl λG f=>?_;have f:cH S w0 G (.cells b8 (aH [c]) 5::Fs fb rb s most v' o (q+ee fi) (a++[c]) R):=by
   have e:kQ v' (a++[c])=.urow 5 1 v' (a.length+1) (aH a++aH [c]):=by
    unfold kQ aH;rw[asY,auJ];rfl
   show cH S w0 G (.cells b8 (aH [c]) 5::flE fb rb v' (most:Int)::bqE rb s o (q+ee fi)::kQ v' (a++[c])::R);rw[e];exact f
  rw[aA om om];refine aS ⟨k+1,v',a++[c],rfl,om,by rw[asY];omega,by rw[asY,avA];omega,?_,f.tail⟩ (by simp[n0,RowKit.intOf];omega);rw[<-t,show sz - k=(sz - (k+1))+1 by omega,jd,atD,atI r,<-hc];rfl
 ·simp only[F,asW,i_f];have a7:k=sz:=om
  subst a7;rw[avV,jd] at t;rw[<-g] at t;rw[<-g] at H;dsimp only at t H;have:=H rfl om (by rw[<-t];omega) o l w7 x (by rw[<-t];exact f);exact this
end
def LM (b:Nat)(w:ao):Nat:=match w.cell? ⟨b,1,aw⟩,w.cell? ⟨b,3,aw⟩ with|some (.int _ u),ax (.int _ a)=>8*a.toNat+u.toNat|_,_=>0
theorem KA {s:List UInt8}(h:(bqE b s way p).is w):LM b w=p:=by
 unfold LM;rw[show w.cell? ⟨b,1,aw⟩=ax (ad ((p % 8:Nat):Int)) from aG (T:=317) (cs:=bqC s way p) h rfl,show w.cell? ⟨b,3,aw⟩=ax (ad ((p / 8:Nat):Int)) from aG (T:=317) (cs:=bqC s way p) h rfl];show 8*((p / 8:Nat):Int).toNat+((p % 8:Nat):Int).toNat=p;omega
theorem tq (lens:List Nat)(s:List UInt8):∀(f l p code:Nat),(je lens s f l p code).2.2=0->p < (je lens s f l p code).2.1
|0,_,_,_,h=>by simp[je] at h
|f+1,l,p,code,h=>by
  unfold je at h ⊢;split
  ·rename_i a;rw[asU a] at h;simp at h
  rename_i a;rw[asT a] at h
  split
  ·rename_i b;rw[asU b] at h;simp at h
  rename_i b;rw[asT b] at h
  split
  ·exact Nat.lt_succ_self _
  rename_i c;rw[asT c] at h
  have:=tq lens s f (l+1) (p+1) (2*code+Fl.bit s p) h;omega
theorem nu {lens:List Nat}{s:List UInt8}{p:Nat}(h:(ec lens s p).2.2=0):p < (ec lens s p).2.1:=tq lens s 16 0 p 0 h
theorem tr {far:List Nat}{s:List UInt8}{p sign most:Nat}{out:List UInt8}(h:(ei far s p sign out most).2.2=0):p<=(ei far s p sign out most).2.1:=by
 unfold ei at h ⊢;split
 ·exact atE _
 rename_i b;rw[asT b] at h
 split
 ·exact atE _
 rename_i c;rw[asT c] at h
 dsimp only at h ⊢;split
 ·exact atE _
 rename_i a;rw[asT a] at h
 have:=nu (Decidable.not_not.1 a);split
 ·exact atE _
 rename_i d;rw[asT d] at h
 split
 ·exact atE _
 rename_i e;rw[asT e] at h
 split
 ·exact atE _
 rename_i f;rw[asT f] at h
 split
 ·exact atE _
 dsimp only;omega
def kg (near far:List Nat)(s:List UInt8)(most:Nat):Nat->Nat->List UInt8->List UInt8×Nat×Int
|0,p,out=>(out,p,13)
|f+1,p,out=>
  let r:=ec near s p
  if r.2.2≠0 then (out,p,r.2.2)
  else if r.1 < 256 then if most < out.length+1 then (out,p,5) else kg near far s most f r.2.1 (out++[UInt8.ofNat r.1])
  else if r.1=256 then (out,r.2.1,0)
  else
   let c:=ei far s r.2.1 r.1 out most
   if c.2.2≠0 then (out,p,c.2.2) else kg near far s most f c.2.1 c.1
def gn (near far:List Nat)(s:List UInt8)(most p:Nat)(out:List UInt8):List UInt8×Nat×Int:=kg near far s most (8*s.length+1 - p) p out
theorem tu (lens:List Nat):∀(l i:Nat),i∈bh lens l->i < lens.length
|0,i,h=>by cases h
|l+1,i,h=>by
  rw[bh,auF] at h;rcases h with h|h
  ·exact tu lens l i h
  ·unfold lf at h;have:=(List.mem_filter.1 h).1;exact avG.1 this
theorem qm {lens:List Nat}(s:List UInt8)(a:0 < lens.length):∀(f l p code:Nat),(je lens s f l p code).1 < lens.length
|0,_,_,_=>by simpa[je] using a
|f+1,l,p,code=>by
  unfold je;split
  ·exact a
  split
  ·exact a
  split
  ·dsimp only;rw[atD];rcases h:(bh lens 15)[Fl.bH lens l+(2*code+Fl.bit s p - Fl.first lens (l+1))]? with _|x
   ·exact a
   ·exact tu lens 15 x (awV h)
  ·exact qm s a f _ _ _
theorem yb {lens:List Nat}(s:List UInt8)(p:Nat):(ec lens s p).1<=lens.length:=by
 rcases awB lens.length with h|h
 ·have:lens=[]:=axL h;subst this;simp[ec,je,Fl.bH]
 ·exact Nat.le_of_lt (qm s h 16 0 p 0)
theorem cU8 {n:Nat}(h:n < 256):(fZ 3 5 (ad (n:Int))).run ah W=.ok (.value (.int .u8 ((UInt8.ofNat n).toNat:Int))) W:=by
 have:=bA (P:=ah) (S:=3) (D:=5) (k:=.i64) (n:=(n:Int)) (w:=W) krx atS;rw[this]
 congr 3
section
variable {w:ao}{PK:PKT}{K:VWP}{S:Nat->Prop}{w0:ao}
theorem Yj {O:Nat}{ov:aq}{s:List UInt8}{out:List UInt8}{far:List Nat}{R:List Ent}(jm:Nat)(a:cH S w0 w (Fs fb rb s most ov way p out R))(hm:R[jm]?=ax (.mem M))(ht:TbAt M.A M.w tb near)(F:TbAt M.A M.w O far)(hl:near.length<=1000)(G:far.length<=1000)(hw:way=0∨way=1)(hp:p<=8*s.length)(P:s.length<=1000000000)(H:most<=1000000000)(h:out.length<=most)
  (Q:(gn near far s most p out).2.2=0->(gn near far s most p out).2.1<=8*s.length->(gn near far s most p out).1.length<=most->∀way' r W,(way'=0∨way'=1)->cH S w0 W (Fs fb rb s most r way' (gn near far s most p out).2.1 (gn near far s most p out).1 R)->K (.tuple #[]) W)
  (E:(gn near far s most p out).2.2≠0->∀r way' p' v W,cH S w0 W (Fs fb rb s most r way' p' v R)->PK [upI (gn near far s most p out).2.2] W) :
  dZ ah 337 #[af fb 0,af tb 0,af O 0] w PK K:=by
 generalize b:gn near far s most p out=X at Q E;refine⟨xA ?_⟩;unfold nX nz;refine loop (λvs W=>∃(p:Nat) (way:Int) (ov:aq) (out:List UInt8),vs=[]∧(way=0∨way=1)∧p<=8*s.length∧out.length<=most∧(∃f,8*s.length+1 - p<=f∧kg near far s most f p out=X)∧cH S w0 W (Fs fb rb s most ov way p out R)) (λ_ w=>8*s.length+1 - LM rb w) ⟨p,way,ov,out,rfl,hw,hp,h,⟨_,atE _,b⟩,a⟩ ?_;clear a b hp hw h;rintro vs I ⟨p,way,ov,out,rfl,hw,hp,h,⟨f,hf,b⟩,a⟩ _;have x:LM rb I=p:=KA (a.at_ 1 rfl);unfold lM nz;obtain⟨f,rfl⟩:∃f',f=f'+1:=⟨f - 1,om⟩;rw[kg] at b;dsimp only at b;rw[bD,Pn,YM a 0 rfl];refine Rl 1 (jm+3) om a rfl hm ht hl hw hp P λc W3 t j a=>?_;have a:cH S w0 W3 (Fs fb rb s most ov c (ec near s p).2.1 out R):=a;have d:=@nu near s p;have hle:=@yb near s p;generalize ec near s p=T at b a j d hle;obtain⟨g,q,e⟩:=T;dsimp only at b a j d hle;simp only[ex];refine xW (λy=>?_) (λy=>?_)
 rotate_left
 ·rw[asU y] at b;subst b;exact E y _ _ _ _ _ a
 rw[asT (by rw[y];decide)] at b;have d:=d y;simp only[rs];by_cases m:(g:Int) < 256
 ·simp only[m,asX,i_t];rw[asU om] at b;refine Yg (n:=1) 0 2 a rfl rfl om om om (λh7 W a=>?_) (λh7 W a=>?_)
  rotate_left
  ·rw[asU om] at b;subst b;exact E (by dsimp only;decide) _ _ _ _ _ a
  rw[asT om] at b
  try rw[bD]
  rw[aO BG,aeH a 0 rfl];refine aC (cU8 om) |>.mpr ?_;refine JA _ a λU w8 a=>?_;refine bL 3 atM I3 dc a rfl (gS (a.at_ 0 rfl) dc rfl) bN om om λv' w9 a=>?_;have J:v'.oneCell'=true:=dO (a.at_ 3 rfl)
  try rw[bD]
  rw[aO BG];refine Qq 1 J a rfl λl a=>?_;have a:cH S w0 l (.cells U (aH [UInt8.ofNat g]) 5::Fs fb rb s most v' c q (out++[UInt8.ofNat g]) R):=by
   have e:kQ v' (out++[UInt8.ofNat g])=.urow 5 1 v' (out.length+1) (aH out++aH [UInt8.ofNat g]):=by
    unfold kQ aH;rw[asY,auJ];rfl
   show cH S w0 l (.cells U (aH [UInt8.ofNat g]) 5::flE fb rb v' (most:Int)::bqE rb s c q::kQ v' (out++[UInt8.ofNat g])::R);rw[e];exact a
  have k:LM rb l=q:=KA (a.at_ 2 rfl);refine aS ⟨q,c,v',_,rfl,t,j,by rw[asY,avA];omega,⟨f,om,b⟩,a.tail⟩ (by show 8*s.length+1 - LM rb l < 8*s.length+1 - LM rb I;rw[x,k];omega)
 simp only[m,asW,i_f];rw[asT om] at b
 try simp only[rs]
 by_cases V:(g:Int)=256
 ·simp only[V,asX,i_t];rw[asU om] at b;subst b;exact Q rfl j h _ _ _ t a
 simp only[V,asW,i_f];rw[asT om] at b;obtain⟨i,rfl⟩:∃i,g=257+i:=⟨g - 257,om⟩;have u:=@tr far s q (257+i) most out;refine Zz jm a hm F G t j P H h om (λz Y B o D L N a=>?_) (λz D o p4 Z L a=>?_)
 rotate_left
 ·rw[asU z] at b;subst b;exact E z _ _ _ _ _ a
 rw[asT (by rw[z];decide)] at b;have u:=u z;generalize ei far s q (257+i) out most=C at b a u Y B;have k:LM rb L=C.2.1:=KA (a.at_ 1 rfl);refine aS ⟨C.2.1,o,D,C.1,rfl,N,Y,B,⟨f,om,b⟩,a⟩ (by show 8*s.length+1 - LM rb L < 8*s.length+1 - LM rb I;rw[x,k];omega)
end
end
def ml (lens:List Nat):Nat:=(lens.map λl=>if l=0 then 0 else 2 ^ (15 - l)).sum
theorem AS (m:Nat):Fl.iE [] m=0:=by
 induction m with
|zero=>rfl
|succ m a=>simp[Fl.iE,a]
theorem AT (l:Nat)(ls:List Nat)(m:Nat):Fl.iE (l::ls) m=Fl.iE ls m+(if l=0 then 0 else if l<=m then 2 ^ (15 - l) else 0):=by
 induction m with
|zero=>
  simp only[Fl.iE];split;·rfl
  ·rw[asT om]
|succ m b=>
  rw[Fl.iE,b,Fl.iE,List.count_cons];by_cases h:l=m+1
  ·subst h;simp only[beq_self_eq_true,if_true,awA,ayU];rw[asT om,asT om,asT om,asU (atE _)];omega
  ·have c:(l==m+1)=false:=by simp[h]
   rw[c];simp only[axI,if_false,auU];by_cases a:l=0
   ·simp[a]
   ·rw[asT a,asT a];by_cases hm:l<=m
    ·rw[asU hm,asU om];omega
    ·rw[asT hm,asT om];simp
theorem tw:∀{lens:List Nat},(∀l∈lens,l<=15)->ml lens=Fl.iE lens 15
|[],_=>by rw[AS];rfl
|l::ls,h=>by
  have a:=tw (lens:=ls) λx b=>h x (auE _ b);have c:=h l (auV ..);unfold ml at a ⊢;rw[avC,axA,a,AT,asU c];omega
theorem tx (lens:List Nat)(l:Nat):∀m,l<=m->∃t,bh lens m=bh lens l++t
|0,h=>by
  obtain rfl:l=0:=om
  exact⟨[],sm⟩
|m+1,h=>by
  rcases auC l (m+1) with a|a
  ·obtain⟨t,b⟩:=tx lens l m om;exact⟨t++lf lens (m+1),by rw[bh,b,atJ]⟩
  ·have:l=m+1:=om
   subst this;exact⟨[],sm⟩
theorem A0 {lens:List Nat}{l k:Nat}(c:l < 15)(a:k < lens.count (l+1)):(bh lens 15).getD (Fl.bH lens l+k) 0=(lf lens (l+1)).getD k 0:=by
 obtain⟨t,b⟩:=tx lens (l+1) 15 om;rw[b,bh,atJ,atD,avU (by rw[nr];omega),nr,azK,
  avK (by rw[qk];exact a),atD]
end Go.Proofs.YtlipjfcbjemicaaGreatDoor


namespace Go.Proofs.YtlipjfcbjemicaaGreatDoor
variable{A:Nat->Prop}{D U U2:TypeId}{K:VWP}{L:List Eng.Ent}{M:Eng.Mem}{P:Program}{PK:PKT}{R:Ending->FrameMode->ao->Prop}{W w w' w0:ao}{a way:Int}{b cap fb h i j most p rb sz tb:Nat}{cl near:List Nat}{cs news xs:List aq}{t0 v v' v2:aq}{u:FrameMode}{α:Type}{t0 t1 t2 t3 t4:aq}{k0:Eng.KT}
section
open Eng Go.RowKit
theorem aoI (a b:Nat):((a:Nat):Int).tmod ((b:Nat):Int)=((a % b:Nat):Int):=rfl
def ew (s:List UInt8)(most p:Nat)(out:List UInt8):List UInt8×Nat×Int:=
 let a:=(p+7) / 8*8
 if 8*s.length < a+16 then (out,p,4)
 else if 8*s.length < a+32 then (out,p,4)
 else if Fl.num s a 16+Fl.num s (a+16) 16≠65535 then (out,p,3)
 else if most < out.length+Fl.num s a 16 then (out,p,5)
 else if 8*s.length < a+32+8*Fl.num s a 16 then (out,p,4)
 else (out++(s.drop (a / 8+4)).take (Fl.num s a 16),a+32+8*Fl.num s a 16,0)
theorem fD {a b:List UInt8}:kQ v (a++b)=.urow 5 1 v (a.length+b.length) (aH a++aH b):=by
 unfold kQ aH;rw[asY,auJ]
theorem TF {ov:aq}{most:Int}(h:(flE b rb ov most).is W):(aK 275 (af b 0)).run ah W=.ok (.value (af rb 0)) W:=aB acV (aG (T:=278) (cs:=flC rb ov most) h rfl)
theorem z8U:(Tryz.prog.info? 5).bind (·.zero)=ax (.int .u8 0):=krx
section
variable {w:ao}{PK:PKT}{K:VWP}{S:Nat->Prop}{w0:ao}
theorem aaJ {ov:aq}{s:List UInt8}{out:List UInt8}{R:List Ent}(b:cH S w0 w (Fs fb rb s most ov way p out R))(hw:way=0∨way=1)(hp:p<=8*s.length)(l:s.length<=1000000000)(y:most<=1000000000)(z:out.length<=most)
  (t:(ew s most p out).2.2=0->(ew s most p out).2.1<=8*s.length->(ew s most p out).1.length<=most->∀way' d W,(way'=0∨way'=1)->cH S w0 W (Fs fb rb s most d way' (ew s most p out).2.1 (ew s most p out).1 R)->K (.tuple #[]) W)
  (g:(ew s most p out).2.2≠0->∀d way' A i W,cH S w0 W (Fs fb rb s most d way' A i R)->PK [upI (ew s most p out).2.2] W) :
  dZ ah 306 #[af fb 0] w PK K:=by
 generalize c:ew s most p out=X at t g;refine⟨vH ?_⟩;unfold mJ iN ldx bnx fax nlx eqx cx;unfold ew at c;dsimp only at c;rw[bD,Pn,YM b 0 rfl];refine aeY 1 b rfl hp l λB b=>?_;have b:cH S w0 B (Fs fb rb s most ov 0 ((p+7) / 8*8) out R):=b;have m:(p+7) / 8*8 % 8=0:=om
 have j:(p+7) / 8*8<=8*s.length:=om
 generalize (p+7) / 8*8=a at c b m j;refine sI (n:=16) 0 1 b rfl rfl (.inl rfl) j om l (λo u b=>?_) (λo u b=>?_)
 rotate_left
 ·rw[asU o] at c;subst c;exact g (by dsimp only;decide) _ _ _ _ _ b
 rw[asT om] at c;have b:cH S w0 u (Fs fb rb s most ov 1 (a+16) out R):=b;refine sI (n:=16) 0 1 b rfl rfl (.inr rfl) o om l (λC v b=>?_) (λC v b=>?_)
 rotate_left
 ·rw[asU om] at c;subst c;exact g (by dsimp only;decide) _ _ _ _ _ b
 rw[asT om] at c;have b:cH S w0 v (Fs fb rb s most ov 1 (a+16+16) out R):=b;have q:=Fl.Cm s a 16;have D:=Fl.Cm s (a+16) 16;have E:(2:Nat) ^ 16=65536:=dc
 simp only[rs];rw[aA om om];refine kF (λk=>?_) (λk=>?_)
 rotate_left
 ·have:=auS k;rw[asU om] at c;subst c;exact g (by dsimp only;decide) _ _ _ _ _ b
 have k:=atQ k;rw[asT om] at c;generalize Fl.num s a 16=n at c q k;refine Yg (n:=n) 0 2 b rfl rfl om om om (λF G b=>?_) (λF G b=>?_)
 rotate_left
 ·rw[asU om] at c;subst c;exact g (by dsimp only;decide) _ _ _ _ _ b
 rw[asT om] at c;have b:=b.drew;refine⟨λW=>(flE fb rb ov most).is W,b.at_ 0 rfl,?_⟩;refine aI _ (λ_=>cR) (aI _ (λ_=>bC BG) (gJ _ (λW h=>Jt h) ?_));refine aI _ (λ_=>cR) (aI _ (λ_=>bC WW) (gJ _ (λW h=>TF h) ?_));refine aqV (n:=n) 1 b rfl om om om l (λH x b=>?_) (λH x b=>?_)
 rotate_left
 ·rw[asU om] at c;subst c;refine⟨b.at_ 0 rfl,?_⟩;refine MH (GB ?_);refine RP (s:=[]) (λh=>absurd h dc) λ_=>?_
  repeat intro _
  exact g (by dsimp only;decide) _ _ _ _ _ b
 rw[asT om] at c;have b:cH S w0 x (Fs fb rb s most ov 1 (a+16+16+8*n) out R):=b;refine⟨b.at_ 0 rfl,?_⟩;refine MH (GB ?_);refine RP (λ_=>?_) λh=>absurd rfl h;refine⟨b.at_ 0 rfl,?_⟩;have e:((s.drop ((a+16+16) / 8)).take n).length=n:=by rw[atF,atG];omega
 refine GJ 2 atM atB I3 atS z8U b rfl (by rw[e];omega) λv' I b=>?_;have r:v'.oneCell'=true:=dO (b.at_ 2 rfl);refine⟨b.at_ 0 rfl,?_⟩;refine aI _ (λ_=>cR) (aI _ (λ_=>bC BG) ?_);refine Qq 0 r b rfl λf b=>?_;have b:cH S w0 f (Fs fb rb s most v' 1 (a+16+16+8*n) (out++(s.drop ((a+16+16) / 8)).take n) R):=by
  show cH S w0 f (flE fb rb v' (most:Int)::bqE rb s 1 (a+16+16+8*n)::kQ v' (out++(s.drop ((a+16+16) / 8)).take n)::R);rw[fD];exact b
 rw[show (a+16+16) / 8=a / 8+4 by omega] at b e;subst c;exact t rfl (by dsimp only;omega) (by dsimp only;rw[asY,e];omega) 1 v' f (.inr rfl) b
end
theorem szI1:(Tryz.prog.info? 3).map (·.size)=ax 1:=krx
theorem yF {l:List α}{n:Nat}{v:α}(h:(l.take n)[j]?=ax v):l[j]?=ax v:=by
 obtain⟨a,b⟩:=atT.1 h;rw[atF] at a;rw[atI om,<-b,azP]
section
variable {w:ao}{PK:PKT}{K:VWP}{S:Nat->Prop}{w0:ao}{L:List Ent}
theorem Vz {r k:Nat}{x:aq}(i:Nat)(c:cH S w0 w L)(hi:L[i]?=ax (.cells r [x] 3))(G:x.oneCell'=av)(U:k<=1000)
  (H:∀b w',cH S w0 w' (.cells b (List.replicate k x) 3::L)->K (bR b 0 k k) w') :
  dZ ah 320 #[bR r 0 1 1,ad (k:Int)] w PK K:=by
 refine⟨sV ?_⟩;unfold lC nz;refine join λJ I=>?_;rw[ahC,asZ om,i_f];refine I _ _ λ_=>?_;unfold jN nz;rw[aZ auA (gS (sz:=1) (c.at_ i hi) dc rfl)];refine aC (bA krx azH) |>.mpr (aC (bA krx azH) |>.mpr ?_);rw[show IntKind.u64.wrap ((1:Nat):Int)=((1:Nat):Int) from rfl,show IntKind.u64.wrap (k:Int)=(k:Int) by unfold IntKind.wrap;simp[IntKind.bits,IntKind.signed];omega];refine fY (Tryz.bits_Mul 1 k dc om w) (λe W ⟨he,M⟩=>?_);subst he;subst M;have N:1*k / 18446744073709551616=0:=om
 have O:1*k % 18446744073709551616=k:=om
 rw[N,O];show oV _ _ _ _;simp only[oV,ex];refine join λV u=>?_;simp only[rs,show ai ((0:Int) < ((0:Nat):Int))=au from rfl,show ai ((9223372036854775807:Int) < (k:Int))=au from asZ om];refine u _ _ λ_=>?_;unfold jV nz;refine aC (bA krx auQ) |>.mpr ?_;rw[show IntKind.i64.wrap (k:Int)=(k:Int) from aA om om];refine B9 om c λg Q c=>?_;have y:(.cells g (List.replicate k (ad 0)) 3::L)[i+1]?=ax (.cells r [x] 3):=hi;have z:(List.replicate k (Value.int .i64 0)).length=k:=auK;have l:=K2 (P:=ah) (dT:=123) (sT:=123) (ty:=3) (T:=3) (E:=3) (cb:=#[au,au]) (g:=g) (o:=0) (dLen:=k) (dCap:=k) (sz:=1) (a:=⟨r,0,aw⟩) (sLen:=1) (sCap:=1) (w:=Q) (cur:=List.replicate k (Value.int .i64 0)) (src:=[x].take (Nat.min 1 k)) auA szI1 (c.at_ 0 rfl) (by rw[atF,avA];simp) (λj v A=>by
  have d:[x][j]?=ax v:=yF A;rw[cK,atK];exact aG (T:=3) (c.at_ (i+1) y) d) (by rw[atF,avA,z];have s:Nat.min 1 k=min 1 k:=rfl;omega) (by
  intro v t;have:=avQ t;rw[auB] at this;rw[this];exact G)
 refine kW l ?_;have c:=iX c 0 rfl ((List.replicate k (Value.int .i64 0)).take 0++[x].take (Nat.min 1 k)++(List.replicate k (Value.int .i64 0)).drop (0+([x].take (Nat.min 1 k)).length));refine loop (λvs W=>∃(n:Nat) (cur:List aq),vs=[ad n]∧n<=k∧(n=0->k=0)∧cur.length=k∧cur.take n=List.replicate n x∧cH S w0 W (.cells g cur 3::L)) (λvs _=>k - n0 vs) ⟨Nat.min 1 k,_,rfl,Nat.min_le_right _ _,?_,?_,?_,c⟩ ?_
 ·intro h;rcases awB k with d|d
  ·exact d
  ·have:Nat.min 1 k=1:=auM d;omega
 ·rcases awB k with d|d
  ·subst d;rfl
  ·rw[show Nat.min 1 k=1 from auM d];simp;omega
 ·rcases awB k with d|d
  ·subst d;rfl
  ·rw[show Nat.min 1 k=1 from auM d];rfl
 clear c l;rintro vs w2 ⟨n,cur,rfl,X,R,p,f,c⟩ _;simp only[jT,gd,bnx,lnx];rw[aZ auA (Sl.cells (c.at_ 0 rfl) 1 k k (by rw[p,atY]))];simp only[rs];by_cases q:(n:Int) < (k:Int)
 ·simp only[q,asX,i_t];refine cQ (λW=>cH S w0 W (.cells g cur 3::L)) c.drew ?_;refine gr _ (λ_=>dD auA szI1 om om) (gr _ (λ_=>iW auA szI1 om om) ?_);intro w3 c;rw[atC,fR om,show wF (ax ⟨g,0,aw⟩) 0 k 1=ax ⟨g,0,aw⟩ from Hz (a:=⟨g,0,aw⟩),atK,atY];have l:=K2 (P:=ah) (dT:=123) (sT:=123) (ty:=3) (T:=3) (E:=3) (cb:=#[au,au]) (g:=g) (o:=n) (dLen:=k - n) (dCap:=k - n) (sz:=1) (a:=⟨g,0,aw⟩) (sLen:=n) (sCap:=k) (w:=w3) (cur:=cur) (src:=cur.take (Nat.min n (k - n))) auA szI1 (c.at_ 0 rfl) (by
    rw[atF,p,atY];have Y:=Nat.min_le_left n (k - n);have s:Nat.min n (k - n)=min n (k - n):=rfl;omega) (λj v A=>by
   have d:cur[j]?=ax v:=yF A;rw[cK,atK];exact aG (T:=3) (c.at_ 0 rfl) d) (by
    rw[atF,p];have s:Nat.min n (k - n)=min n (k - n):=rfl;omega) (by
   intro v t;have B:cur.take (Nat.min n (k - n))=(cur.take n).take (Nat.min n (k - n)):=by
    rw[axZ]
    congr 1
    have s:Nat.min n (k - n)=min n (k - n):=rfl;omega
   rw[B,f] at t;have:=awF (avQ t);rw[this];exact G)
  refine kW l ?_;have c:=iX c 0 rfl (cur.take n++cur.take (Nat.min n (k - n))++cur.drop (n+(cur.take (Nat.min n (k - n))).length));have s:Nat.min n (k - n)=min n (k - n):=rfl;have C:1<=Nat.min n (k - n):=om
  have D:Nat.min n (k - n)<=k - n:=om
  have F:Nat.min n (k - n)<=n:=om
  generalize Nat.min n (k - n)=m at c C D F;rw[show goInt m=ad (m:Int) from rfl];simp only[rs];rw[aA om om];refine aS ⟨n+m,_,rfl,om,om,?_,?_,c⟩ (by simp[n0,RowKit.intOf];omega)
  ·simp only[asY,atF,atG,p];omega
  ·have B:cur.take m=List.replicate m x:=by
    have:cur.take m=(cur.take n).take m:=by rw[axZ];congr 1;omega
    rw[this,f,List.take_replicate];congr 1;omega
   rw[f,B,aAo sm,auG sm,List.replicate_append_replicate]
 ·simp only[q,asW,i_f];have:n=k:=om
  subst this;rw[auG om] at f;subst f;exact H g w2 c
end
end
end Go.Proofs.YtlipjfcbjemicaaGreatDoor

namespace Go.Proofs.YtlipjfcbjemicaaGreatDoor
variable{A:Nat->Prop}{D U U2:TypeId}{K:VWP}{L:List Eng.Ent}{M:Eng.Mem}{P:Program}{PK:PKT}{R:Ending->FrameMode->ao->Prop}{W w w' w0:ao}{a way:Int}{b cap fb h i j most p rb sz tb:Nat}{cl near:List Nat}{cs news xs:List aq}{t0 v v' v2:aq}{u:FrameMode}{α:Type}{t0 t1 t2 t3 t4:aq}{k0:Eng.KT}
section
namespace Eng
open Go.RowKit
def Om (k:Int):Value:=ad k
def Sv (w:ao)(b:Nat)(a:List (Int×aq)):Prop:=∃es clock,w.heap[b]?=ax (.map es clock)∧es.toList.map (λe=>(e.key,e.val))=a.map λp=>(Om p.1,p.2)
def xX (a:List (Int×aq))(k:Int):Option Value:=(a.find? λp=>ai (p.1=k)).map (·.2)
theorem Jz (k:Int):∀(es:List MapEntry) (a:List (Int×aq)) (i:Nat),es.map (λe=>(e.key,e.val))=a.map (λp=>(Om p.1,p.2)) ->
  ∃r,Instr.findNow (.int .i64) (Om k) es i=ax r∧r.map (·.2)=xX a k
|[],[],i,_=>⟨aw,rfl,rfl⟩
|e::es,p::a,i,h=>by
  simp only[avC,ayJ,axH] at h;obtain⟨⟨j,l⟩,m⟩:=h;have g:Instr.sameNow (.int .i64) (Om k) e.key=ax (ai (k=p.1)):=by
   rw[j];show ax (k==p.1)=_
   congr 1
  by_cases b:k=p.1
  ·refine⟨ax (i,e.val),?_,?_⟩
   ·rw[Instr.findNow,g];simp[b]
   ·simp[xX,b,l]
  ·obtain⟨r,c,d⟩:=Jz k es a (i+1) m;refine⟨r,?_,?_⟩
   ·rw[Instr.findNow,g];simp[b,c]
   ·have f:¬p.1=k:=λe=>b e.symm;rw[d];simp[xX,f]
|[],_::_,_,h=>by simp at h
|_::_,[],_,h=>by simp at h
section
variable {S:Nat->Prop}{P:Program}{w w0:ao}{L:List Ent}{PK:PKT}{K:VWP}
theorem HF {k:TypeId}{e:Bool}(a:P.underlying k=ax (.int .i64))(x:Int):(Instr.checkKey e 10000 k (Om x)).run P w=.ok () w:=by
 show (Instr.checkKey e (9999+1) k (Om x)).run P w=_;rw[Instr.checkKey];simp[run_underlying a,Om]
theorem Q7 {k:TypeId}(b:P.underlying k=ax (.int .i64))(x:Int){es:List MapEntry}{a:List (Int×aq)}(h:es.map (λe=>(e.key,e.val))=a.map (λp=>(Om p.1,p.2))) :
  ∃r,(Instr.findKey k (Om x) es).run P w=.ok r w∧r.map (·.2)=xX a x:=by
 obtain⟨r,c,d⟩:=Jz x es a 0 h;refine⟨r,?_,d⟩;simp[Instr.findKey,run_underlying b,c]
theorem XP {T k e:TypeId}{ok:Bool}{a:List (Int×aq)}{z:aq}(g:P.underlying T=ax (.map k e))(c:P.underlying k=ax (.int .i64))(m:(P.info? e).bind (·.zero)=ax z)(h:Sv w b a)(x:Int) :
  (WN T (.map (ax b)) (Om x) ok).run P w=.ok (.value (if ok then .tuple #[(xX a x).getD z,.bool (xX a x).isSome] else (xX a x).getD z)) w:=by
 obtain⟨es,clock,j,n⟩:=h;obtain⟨r,l,o⟩:=Q7 (P:=P) (w:=w) c x n;have d:(zeroValue e).run P w=.ok z w:=by
  obtain⟨i,hi,f⟩:=ayI.1 m;simp[zeroValue,typeInfo,hi,f]
 refine bQ ?_;rw[<-o];cases r with
|none=>simp[Instr.lookup,run_underlying g,getObj,Sem.run,j,HF c x,l,d]
|some p=>
  obtain⟨i,v⟩:=p;simp[Instr.lookup,run_underlying g,getObj,Sem.run,j,HF c x,l]
end
section
variable {S:Nat->Prop}{P:Program}{w w0:ao}{L:List Ent}{PK:PKT}{K:VWP}
end
end Eng
end
section
open Eng Go.RowKit
abbrev frT:TypeId:=330
abbrev frA:TypeId:=331
def fxL:List (Nat×Nat):=[(144,8),(112,9),(24,7),(8,8)]
def fxC:List Value:=fxL.flatMap λp=>[ad (p.1:Int),ad (p.2:Int)]
def K9 (i:Nat):List Nat:=(fxL.take i).flatMap λp=>List.replicate p.1 p.2
def di:List Nat:=K9 4
def dp:List Nat:=List.replicate 32 5
theorem YJ (hi:i<=4):(K9 i).length<=288:=by
 rcases (by omega:i=0∨i=1∨i=2∨i=3∨i=4) with rfl|rfl|rfl|rfl|rfl<;>decide +kernel
theorem Vn (hi:i < 4):K9 (i+1)=K9 i++List.replicate (fxL.getD i (0,0)).1 (fxL.getD i (0,0)).2:=by
 rcases (by omega:i=0∨i=1∨i=2∨i=3) with rfl|rfl|rfl|rfl<;>decide +kernel
theorem aoM (hi:i < 4):(fxL.getD i (0,0)).1<=144∧1<=(fxL.getD i (0,0)).1:=by
 rcases (by omega:i=0∨i=1∨i=2∨i=3) with rfl|rfl|rfl|rfl<;>decide
theorem KN (k n:Nat):aY (List.replicate k n)=List.replicate k (ad (n:Int)):=by simp[aY]
section
variable {w:ao}{PK:PKT}{K:VWP}{S:Nat->Prop}{w0:ao}{L:List Ent}
theorem m_fr {b:Int}:DoX ah (aW frT #[(0,ad a),(1,ad b)]) w PK K=K (.agg #[ad a,ad b]) w:=aC krx
theorem aqQ:DoX ah (aW frA #[(0,.agg #[ad 144,ad 8]),(1,.agg #[ad 112,ad 9]),(2,.agg #[ad 24,ad 7]),(3,.agg #[ad 8,ad 8])]) w PK K=K (.agg fxC.toArray) w:=aC krx
theorem alO (hi:i < 4):(mIx frA (.agg fxC.toArray) (ad (i:Int))).run ah w=.ok (.value (.agg #[ad ((fxL.getD i (0,0)).1:Int),ad ((fxL.getD i (0,0)).2:Int)])) w:=by
 rcases (by omega:i=0∨i=1∨i=2∨i=3) with rfl|rfl|rfl|rfl<;>kernel_rfl
def frC (a b:Int):List Value:=[ad a,ad b]
theorem QO {b:Int}:∀u∈frC a b,u.oneCell'=true:=by
 intro u hu;simp only[frC,atL,avO,or_false] at hu;rcases hu with rfl|rfl<;>rfl
theorem ajQ:kC ah frT 0=ax 0:=krx
theorem akF:kC ah frT 1=ax 1:=krx
theorem szFr:(Tryz.prog.info? frT).map (·.size)=ax 2:=krx
theorem Me (M:Mem)(w:ao)(l:M.has w):jJ ah 294 #[] M w (λv N=>∃a b,v=.tuple #[a,b]∧SlA N.A N.w a 1 di.length (aY di)∧SlA N.A N.w b 1 dp.length (aY dp)):=by
 refine aU l λK m=>Gc ?_;unfold Ch nz;have c:cH M.A w w [.mem M]:=cH.memS l;rw[m_fr,m_fr,m_fr,m_fr,aqQ];have c:cH M.A w w [.urow 3 1 cO 0 [],.mem M]:=cH.nilU (L:=[.mem M]) c _ _;refine loop (λvs W=>∃(i:Nat) (ov:aq),vs=[ov,ad (i:Int)]∧i<=4∧cH M.A w W [.urow 3 1 ov (K9 i).length (aY (K9 i)),.mem M]) (λvs _=>4 - n1 vs) ⟨0,cO,rfl,om,c⟩ ?_;clear c;rintro vs x ⟨i,ov,rfl,hi,c⟩ _;simp only[vY,gd,rs,nz];by_cases g:(i:Int) < 4
 ·simp only[g,asX,i_t];have d:i < 4:=om
  have o:=YJ (Nat.le_of_lt d);have hle:=aoM d;have f:=Vn d;refine aC (alO d) |>.mpr ?_;generalize fxL.getD i (0,0)=e at hle f;obtain⟨k,n⟩:=e;dsimp only at hle f ⊢;refine bI (λb=>af b 0) (frC 0 0) frT (λ_=>by kernel_rfl) c λb w2 c=>?_;refine jK 0 c rfl (new:=frC k n) szFr QO rfl λw3 c=>?_;rw[aO akF,aR bZ (c.cell 0 rfl 1 rfl)];refine yM (n:Int) c λp q c=>?_;rw[aO ajQ,aR bZ (c.cell 1 rfl 0 rfl)];refine Vz 0 c rfl rfl om λh r c=>?_;refine sE 3 c rfl (Sl.cells (c.at_ 0 rfl) 1 k k (by rw[auK,atY])) (λu hu=>by rw[awF hu];rfl) om λv' y c=>?_
  try simp only[rs]
  rw[aA om om];refine aS ⟨i+1,v',rfl,om,?_⟩ (by simp[n1,RowKit.intOf];omega);rw[f,nH,KN,asY,auK];exact c.tail.tail.tail
 ·simp only[g,asW,i_f];have:i=4:=om
  subst this;refine yM 5 c λp q c=>?_;refine Vz (k:=32) 0 c rfl rfl om λh r c=>?_;have c:=c.sub (L':=[.cells h (List.replicate 32 (ad 5)) 3,.urow 3 1 ov (K9 4).length (aY (K9 4)),.mem M]) (.cons_cons _ (.cons _ (axE _)));have c:=cH.toU (b:=h) c 1 32 32 (by rw[auK]) om om;obtain⟨N1,g1,j,c⟩:=cH.bV (L:=[.urow 3 1 ov (K9 4).length (aY (K9 4)),.mem M]) c 1 rfl;obtain⟨s,g2,t,c⟩:=cH.bV (L:=[.mem N1]) c 0 rfl;refine m _ _ s _ 0 c rfl (g1.trans g2) ⟨_,_,rfl,t,?_⟩;have j:=j.le g2;rw[show dp.length=32 from rfl,show aY dp=List.replicate 32 (ad 5) from KN 32 5];exact j
end
def eh (g:Nat):Nat:=if g=18 then 11 else 3
def dh (g:Nat):Nat:=if g=16 then 2 else if g=17 then 3 else 7
def kh (cl:List Nat)(s:List UInt8)(n:Nat):Nat->Nat->List Nat->List Nat×Nat×Int
|0,p,l=>(l,p,13)
|f+1,p,l=>
  if n<=l.length then (l,p,0)
  else
   let r:=ec cl s p
   if r.2.2≠0 then (l,p,r.2.2)
   else if r.1 < 16 then kh cl s n f r.2.1 (l++[r.1])
   else if r.1=16∧l.length=0 then (l,p,3)
   else if 8*s.length < r.2.1+dh r.1 then (l,p,4)
   else if n < l.length+(eh r.1+Fl.num s r.2.1 (dh r.1)) then (l,p,3)
   else kh cl s n f (r.2.1+dh r.1) (l++List.replicate (eh r.1+Fl.num s r.2.1 (dh r.1)) (if r.1=16 then l.getD (l.length - 1) 0 else 0))
def Fl.lens (cl:List Nat)(s:List UInt8)(n p:Nat):List Nat×Nat×Int:=kh cl s n (n+1) p []
def rpM:List (Int×aq):=[(16,.agg #[ad 3,ad 2]),(17,.agg #[ad 3,ad 3]),(18,.agg #[ad 11,ad 7])]
def Rp (M:Mem):Prop:=∃a,M.A 3∧M.w.cell? ⟨3,0,aw⟩=ax (.map (ax a))∧M.A a∧∃b,(∀k:Int,xX b k=xX rpM k)∧Sv M.w a b
theorem Mem.cell {M:Mem}{w:ao}(h:M.has w){b j:Nat}{v:aq}(a:M.A b)(c:M.w.cell? ⟨b,j,aw⟩=ax v):w.cell? ⟨b,j,aw⟩=ax v:=(P5 (h b a)).trans c
theorem Rp.le {M N:Mem}(h:M.le N)(k:Rp M):Rp N:=by
 obtain⟨b,c,e,d,f,a,es,cl,g,i⟩:=k;exact⟨b,h.A _ c,Mem.cell h.has c e,h.A _ d,f,a,es,cl,(h.has b d).trans g,i⟩
theorem asL {g:Nat}(h:g < 16):xX rpM (g:Int)=none:=by
 simp[xX,rpM];omega
theorem apX {g:Nat}(h:16<=g)(a:g < 19):xX rpM (g:Int)=ax (.agg #[ad (eh g:Int),ad (dh g:Int)]):=by
 rcases (by omega:g=16∨g=17∨g=18) with rfl|rfl|rfl<;>rfl
theorem mpRp:Tryz.prog.underlying 365=ax (.map 3 363):=underlying365
theorem zRp:(Tryz.prog.info? 363).bind (·.zero)=ax (.agg #[ad 0,ad 0]):=krx
theorem aoL:eP ah 365=true:=krx
theorem anJ:kC ah 363 0=ax 0:=krx
theorem alB:kC ah 363 1=ax 1:=krx
theorem szRp:(Tryz.prog.info? 363).map (·.size)=ax 2:=krx
theorem yd (g:Nat):dh g<=7:=by
 unfold dh;split
 ·omega
 ·split<;>omega
theorem yf (g:Nat):3<=eh g∧eh g<=11:=by unfold eh;split<;>omega
def lenV:aq->Nat|.slice _ n _=>n|_=>0
def aqF (vs:List aq):Nat:=lenV (vs.getD 0 undef)
theorem QQ {n:Nat}(h:Sl w v sz n cs):lenV v=n:=by
 obtain⟨_,a,cap,rfl,_⟩:=h;rfl
section
variable {w:ao}{PK:PKT}{K:VWP}{S:Nat->Prop}{w0:ao}{L:List Ent}
theorem Zp {n:Nat}(f:n<=1000000)(a:cH S w0 w L)(k:∀v w',cH S w0 w' (.urow 3 1 v 0 []::L)->K v w') :
  DoX ah (ID 123 (ad 0) (ad (n:Int))) w PK K:=by
 obtain⟨i,hi,c,d,e⟩:=Tw;refine bI (λb=>bR b 0 0 n) (List.replicate n (ad 0)) 3 (λW=>?_) a λb w' a=>k _ _ ?_
 ·have:=Go.run_make (P:=ah) W 123 3 i (Value.int .i64 0) auA hi c .i64 .i64 (0:Int) (n:Int) om om (by rw[e];omega) om;rw[d,atC,TO] at this;exact bQ this
 ·have:=cH.toU (b:=b) a 1 0 n (by rw[auK,atY]) om om;exact this
theorem aiM {a:Nat}{b:List (Int×aq)}(c:∀k:Int,xX b k=xX rpM k)(d:M.has w)(e:M.A a)(h:Sv M.w a b)(g:Nat):(WN 365 (.map (ax a)) (ad (g:Int)) av).run ah w=.ok (.value (.tuple #[(xX rpM (g:Int)).getD (.agg #[ad 0,ad 0]),.bool (xX rpM (g:Int)).isSome])) w:=by
 have hw:Sv w a b:=by
  obtain⟨es,cl,f,i⟩:=h;exact⟨es,cl,(d a e).trans f,i⟩
 rw[<-c];exact XP (ok:=av) mpRp auQ zRp hw (g:Int)
theorem Wc {n:Nat}{ov:aq}{s:List UInt8}{out:List UInt8}{R:List Ent}(jm:Nat)(a:cH S w0 w (Fs fb rb s most ov way p out R))(hm:R[jm]?=ax (.mem M))(ht:TbAt M.A M.w tb cl)(hl:cl.length=19)(N:Rp M)(hw:way=0∨way=1)(hp:p<=8*s.length)(hs:s.length<=1000000000)(hn:n<=1000)
  (k1:(Fl.lens cl s n p).2.2=0->(Fl.lens cl s n p).2.1<=8*s.length->(Fl.lens cl s n p).1.length=n->(∀x∈(Fl.lens cl s n p).1,x<=15)->∀way' i W,(way'=0∨way'=1)->cH S w0 W (.urow 3 1 i (Fl.lens cl s n p).1.length (aY (Fl.lens cl s n p).1)::Fs fb rb s most ov way' (Fl.lens cl s n p).2.1 out R)->K i W)
  (E:(Fl.lens cl s n p).2.2≠0->∀way' p' W,cH S w0 W (Fs fb rb s most ov way' p' out R)->PK [upI (Fl.lens cl s n p).2.2] W) :
  dZ ah 339 #[af fb 0,af tb 0,ad (n:Int)] w PK K:=by
 generalize c:Fl.lens cl s n p=X at k1 E;unfold Fl.lens at c;refine⟨sQ ?_⟩;unfold lI nz;refine Zp om a λi w1 a=>?_;refine loop (λvs W=>∃(p:Nat) (way:Int) (l:List Nat) (i:aq),vs=[i]∧(way=0∨way=1)∧p<=8*s.length∧l.length<=n∧(∀x∈l,x<=15)∧(∃f,n+1 - l.length<=f∧kh cl s n f p l=X)∧cH S w0 W (.urow 3 1 i l.length (aY l)::Fs fb rb s most ov way p out R)) (λvs _=>n - aqF vs) ⟨p,way,[],i,rfl,hw,hp,atU _,(λx o=>by cases o),⟨_,atE _,c⟩,a⟩ ?_;clear a c hp hw;rintro vs w1 ⟨p,way,l,i,rfl,hw,hp,a8,j,⟨f,hf,c⟩,a⟩ _;have b0:lenV i=l.length:=QQ (a.slU 0 rfl);simp only[jQ,gd,nz];obtain⟨f,rfl⟩:∃f',f=f'+1:=⟨f - 1,om⟩;rw[kh] at c;dsimp only at c;rw[aZ auA (a.slU 0 rfl)]
 try simp only[rs]
 by_cases F:(l.length:Int) < (n:Int)
 case neg=>
  simp only[F,asW,i_f];rw[asU om] at c;subst c;exact k1 rfl hp (by dsimp only;omega) j _ _ _ hw a
 simp only[F,asX,i_t];rw[asT om] at c
 try rw[bD]
 rw[Pn,YM a 1 rfl];refine Rl 2 (jm+4) om a rfl hm ht om hw hp hs λd W3 v r a=>?_;have a:cH S w0 W3 (.urow 3 1 i l.length (aY l)::Fs fb rb s most ov d (ec cl s p).2.1 out R):=a;have m:(ec cl s p).1 < cl.length:=qm s om 16 0 p 0;rw[hl] at m;generalize ec cl s p=T at c a r m;obtain⟨g,q,e⟩:=T;dsimp only at c a r m;simp only[ex];refine xW (λJ=>?_) (λJ=>?_)
 rotate_left
 ·rw[asU J] at c;subst c;exact E J _ _ _ a.tail
 rw[asT (by rw[J];decide)] at c;obtain⟨mb,O,P,Q,al,U,V⟩:=N;have hM:=a.hasM (jm+4) hm;rw[aR aoL (Mem.cell hM O P)];refine aC (aiM U hM Q V g) |>.mpr ?_;simp only[ex];refine bI (λb=>af b 0) (frC 0 0) 363 (λ_=>by kernel_rfl) a λy w4 a=>?_;by_cases z:g < 16
 ·rw[asU z] at c;rw[asL z];simp only[Option.getD_none,ayT];refine jK 0 a rfl (new:=frC 0 0) szRp QO rfl λw5 a=>?_;simp only[rs,nn_f];refine yM (g:Int) a λb2 w6 a=>?_;refine sE 2 a rfl (a.sl 0 rfl 1 1 1 rfl) xH om λv' w7 a=>?_;have G:lenV v'=l.length+1:=QQ (a.slU 2 rfl);refine aS ⟨q,d,l++[g],v',rfl,v,r,by rw[asY,avA];omega,?_,⟨f,by rw[asY,avA];omega,c⟩,?_⟩ (by show n - lenV v' < n - lenV i;omega)
  ·intro x o;rcases auF.1 o with o|o
   ·exact j x o
   ·rw[auB.1 o];omega
  ·rw[nH,asY];exact a.tail.tail
 rw[asT z] at c;rw[apX om m];simp only[awW,azM];refine jK 0 a rfl (new:=frC (eh g) (dh g)) szRp QO rfl λw5 a=>?_;simp only[rs,nn_t];have hB:=yd g;have hL:=yf g;refine join λJ2 Y=>?_;have rest:∀(W:ao) (D:Nat),(D=if g=16 then l.getD (l.length - 1) 0 else 0)->D<=15->¬(g=16∧l.length=0)->cH S w0 W (.cells y (frC (eh g) (dh g)) 363::.urow 3 1 i l.length (aY l)::Fs fb rb s most ov d q out R)->J2 [ad (D:Int)] W:=by
  intro W D Z B a1 a;rw[asT a1,<-Z] at c;refine Y _ _ λ_=>?_;simp only[jO,gd,iN,dx,bnx,lnx,apx,cx];have a:=a.drew;refine⟨λW=>(Ent.cells y (frC (eh g) (dh g)) 363).is W,a.at_ 0 rfl,?_⟩;refine aI _ (λ_=>bC anJ) (gJ _ (λW h=>aB bZ (aG (T:=363) h rfl)) ?_);refine aI _ (λ_=>bC alB) (gJ _ (λW h=>aB bZ (aG (T:=363) h rfl)) ?_);refine sI (n:=dh g) 2 3 a rfl rfl v r om hs (λh5 W5 a=>?_) (λh5 W5 a=>?_)
  rotate_left
  ·rw[asU h5] at c;subst c
   repeat intro _
   exact E (by dsimp only;decide) _ _ _ a.tail.tail
  rw[asT om] at c;have H:(if 0 < dh g then (1:Int) else d)=0∨(if 0 < dh g then (1:Int) else d)=1:=by split;exact .inr rfl;exact v
  have a:cH S w0 W5 (.cells y (frC (eh g) (dh g)) 363::.urow 3 1 i l.length (aY l)::Fs fb rb s most ov (if 0 < dh g then 1 else d) (q+dh g) out R):=a;generalize (if 0 < dh g then (1:Int) else d)=I at a H;have b1:=Fl.Cm s q (dh g);have b4:2 ^ dh g<=2 ^ 7:=avP dc hB;have a7:(2:Nat) ^ 7=128:=dc
  refine⟨a.at_ 0 rfl,?_⟩;refine aI _ (λ_=>OS) ?_;rw[aA om om,show (eh g:Int)+(Fl.num s q (dh g):Int)=((eh g+Fl.num s q (dh g):Nat):Int) by omega];generalize hk:eh g+Fl.num s q (dh g)=k at c;rw[aZ auA (a.slU 1 rfl)]
  try simp only[rs]
  rw[aA om om];refine kF (λt=>?_) (λt=>?_)
  rotate_left
  ·have:=auS t;rw[asU om] at c;subst c;exact E (by dsimp only;decide) _ _ _ a.tail.tail
  have t:=atQ t;rw[asT om] at c;refine yM (D:Int) a λb2 w6 a=>?_;refine Vz 0 a rfl rfl om λb3 w7 a=>?_;refine sE 3 a rfl (Sl.cells (a.at_ 0 rfl) 1 k k (by rw[auK,atY])) (λu hu=>by rw[awF hu];rfl) om λv' w8 a=>?_;have G:lenV v'=l.length+k:=QQ (a.slU 3 rfl);refine aS ⟨q+dh g,I,l++List.replicate k D,v',rfl,H,h5,by rw[asY,auK];omega,?_,⟨f,by rw[asY,auK];omega,c⟩,?_⟩ (by show n - lenV v' < n - lenV i;omega)
  ·intro x o;rcases auF.1 o with o|o
   ·exact j x o
   ·rw[awF o];exact B
  ·rw[nH,KN,asY,auK];exact a.tail.tail.tail
 by_cases L:g=16
 case neg=>
  simp only[show ai ((g:Int)=16)=au from asZ om,i_f];exact rest _ 0 (by rw[asT L]) om (λh=>L h.1) a
 simp only[show ai ((g:Int)=16)=av from atA om,i_t];rw[aZ auA (a.slU 1 rfl)]
 try simp only[rs]
 refine kF (λt=>?_) (λt=>?_)
 rotate_left
 ·have:=auS t;rw[asU ⟨L,om⟩] at c;subst c;exact E (by dsimp only;decide) _ _ _ a.tail.tail
 have t:=atQ t;rw[aZ auA (a.slU 1 rfl)]
 try simp only[rs]
 rw[aA om om,show (l.length:Int) - 1=((l.length - 1:Nat):Int) by omega];have C:l.length - 1 < l.length:=om
 obtain⟨b2,off,r1,r2⟩:=oU (a.slU 1 rfl) C;refine aC (r1 w5) |>.mpr (aC (aB bZ r2) |>.mpr ?_);have a6:l.getD (l.length - 1) 0=l[l.length - 1]:=by rw[atD,atI C];rfl
 exact rest _ _ (by rw[asU L,a6]) (j _ (atP C)) (λh=>by omega) a
end
theorem TbAt.le {M N:Mem}(h:M.le N){b:Nat}{lens:List Nat}(k:TbAt M.A M.w b lens):TbAt N.A N.w b lens:=by
 obtain⟨a,c,o,d,e,f⟩:=k;exact⟨a,c,o,h.A b d,(tbE b a c (cnt lens) (FL lens) o).keep e (λk g=>by cases g;exact h.has b d),f.le h⟩
theorem yg:∀l∈di,l<=15:=by
 intro l a;have h:di.all (λl=>ai (l<=15))=true:=by decide +kernel
 exact atQ (avY.1 h l a)
theorem yh:∀l∈dp,l<=15:=by
 intro l a;rw[awF a];decide
theorem qn:di.length=288:=by decide +kernel
theorem mz:dp.length=32:=by decide +kernel
theorem nv:bj di=0:=by decide +kernel
theorem nw:bj dp=0:=by decide +kernel
def cy:List Nat:=[16,17,18,0,8,7,9,6,10,5,11,4,12,3,13,2,14,1,15]
theorem By (h:i < 19):cy.getD i 0 < 19:=by
 have a:(List.range 19).all (λi=>ai (cy.getD i 0 < 19))=true:=by decide +kernel
 exact atQ (avY.1 a i (avG.2 h))
def Od (M:Mem):Prop:=M.A 2∧∀i,i < 19->M.w.cell? ⟨2,i,aw⟩=ax (ad ((cy.getD i 0:Nat):Int))
theorem Od.le {M N:Mem}(h:M.le N)(k:Od M):Od N:=⟨h.A _ k.1,λi hi=>Mem.cell h.has k.1 (k.2 i hi)⟩
theorem lt19 (h:i < 19):i=0∨i=1∨i=2∨i=3∨i=4∨i=5∨i=6∨i=7∨i=8∨i=9∨i=10∨i=11∨i=12∨i=13∨i=14∨i=15∨i=16∨i=17∨i=18:=om
def gw (s:List UInt8)(p:Nat):Nat->List Nat
|0=>List.replicate 19 0
|i+1=>(gw s p i).set (cy.getD i 0) (Fl.num s (p+3*i) 3)
theorem nc (s:List UInt8)(p:Nat):∀i,(gw s p i).length=19
|0=>rfl
|i+1=>by rw[gw,avS,nc s p i]
theorem rp (s:List UInt8)(p:Nat):∀i,∀x∈gw s p i,x<=7
|0,x,h=>by rw[awF h];decide
|i+1,x,h=>by
  rcases azT h with h|h
  ·exact rp s p i x h
  ·have:=Fl.Cm s (p+3*i) 3;rw[h];omega
def iq (s:List UInt8)(most p:Nat)(out:List UInt8):List UInt8×Nat×Int:=
 if 8*s.length < p+5 then (out,p,4)
 else if 29 < Fl.num s p 5 then (out,p,3)
 else if 8*s.length < p+10 then (out,p,4)
 else if 29 < Fl.num s (p+5) 5 then (out,p,3)
 else if 8*s.length < p+14 then (out,p,4)
 else if 8*s.length < p+14+3*(Fl.num s (p+10) 4+4) then (out,p,4)
 else
  let cl:=gw s (p+14) (Fl.num s (p+10) 4+4)
  if bj cl≠0 then (out,p,bj cl)
  else
   let r:=Fl.lens cl s (Fl.num s p 5+257+(Fl.num s (p+5) 5+1)) (p+14+3*(Fl.num s (p+10) 4+4))
   if r.2.2≠0 then (out,p,r.2.2)
   else if r.1.getD 256 0=0 then (out,p,13)
   else if bj (r.1.take (Fl.num s p 5+257))≠0 then (out,p,bj (r.1.take (Fl.num s p 5+257)))
   else if bj (r.1.drop (Fl.num s p 5+257))≠0 then (out,p,bj (r.1.drop (Fl.num s p 5+257)))
   else gn (r.1.take (Fl.num s p 5+257)) (r.1.drop (Fl.num s p 5+257)) s most r.2.1 out
def dr (s:List UInt8)(most p:Nat)(out:List UInt8):List UInt8×Nat×Int:=
 if 8*s.length < p+2 then (out,p,4)
 else if Fl.num s p 2=0 then ew s most (p+2) out
 else if Fl.num s p 2=1 then gn di dp s most (p+2) out
 else if Fl.num s p 2=2 then iq s most (p+2) out
 else (out,p,3)
theorem SlA.XX {a:Option Addr}{n:Nat}(h:SlA A w (.slice a n cap) sz n cs)(hi:i<=n)(d:0 < i->0 < n):SlA A w (.slice (wF a 0 cap sz) i cap) sz i (cs.take (i*sz)):=by
 obtain⟨f,g,j⟩:=h;have r:=j _ _ _ rfl;refine⟨Sl.upto f hi,λp l c e k=>?_,λa l c e=>?_⟩
 ·injection e with b _ _
  obtain⟨q,m,o⟩:=KW b;have:=g q n cap (by rw[m]) (d k)
  rwa [<-o]
 ·injection e with b s t
  omega
section
variable {w:ao}{PK:PKT}{K:VWP}{S:Nat->Prop}{w0:ao}{L:List Ent}
abbrev arT:TypeId:=308
theorem aaV :(cT arT (af b 0) aw aw aw).run ah W=.ok (.value (bR b 0 19 19)) W:=krx
theorem afI (c:h<=19):(cT arT (af b 0) aw (ax (ad (h:Int))) aw).run ah W=.ok (.value (bR b 0 h 19)) W:=by
 rcases (by omega:h=19∨h < 19) with rfl|a
 ·kernel_rfl
 ·rcases lt19 a with rfl|rfl|rfl|rfl|rfl|rfl|rfl|rfl|rfl|rfl|rfl|rfl|rfl|rfl|rfl|rfl|rfl|rfl|rfl<;>kernel_rfl
theorem acD (hi:i < 19):(mIA arT (af b 0) (ad (i:Int))).run ah W=.ok (.value (af b i)) W:=by
 rcases lt19 hi with rfl|rfl|rfl|rfl|rfl|rfl|rfl|rfl|rfl|rfl|rfl|rfl|rfl|rfl|rfl|rfl|rfl|rfl|rfl<;>kernel_rfl
theorem ahP {ov:aq}{s:List UInt8}{out:List UInt8}{T:List Ent}(c:cH S w0 w (Fs fb rb s most ov way p out (.mem M::T)))(hw:way=0∨way=1)(hp:p<=8*s.length)(t:s.length<=1000000000)(g:most<=1000000000)(i:out.length<=most)
  (u:(gn di dp s most p out).2.2=0->(gn di dp s most p out).2.1<=8*s.length->(gn di dp s most p out).1.length<=most->∀N way' d W,M.le N->(way'=0∨way'=1)->cH S w0 W (Fs fb rb s most d way' (gn di dp s most p out).2.1 (gn di dp s most p out).1 (.mem N::T))->K (.tuple #[]) W)
  (x:(gn di dp s most p out).2.2≠0->∀N d way' j e W,M.le N->cH S w0 W (Fs fb rb s most d way' j e (.mem N::T))->PK [upI (gn di dp s most p out).2.2] W) :
  dZ ah 307 #[af fb 0] w PK K:=by
 refine⟨wO ?_⟩;unfold oN nz;refine bG c 3 rfl (Me M w (c.hasM 3 rfl)) ?_;rintro _ N1 q g1 ⟨a,b,rfl,y,z⟩ c;have c:cH S w0 q (Fs fb rb s most ov way p out (.mem N1::T)):=c;simp only[ex];refine bG c 3 rfl (E6 di a N1 q yg (by rw[qn];omega) (by rw[qn];omega) (c.hasM 3 rfl) y) ?_;intro v r w2 g2 f c;rw[asT (by rw[nv];decide)] at f;obtain⟨tb,rfl,k⟩:=f;have c:cH S w0 w2 (Fs fb rb s most ov way p out (.mem r::T)):=c;simp only[ex];refine tL (λ_=>?_) (λh=>absurd rfl h);refine bG c 3 rfl (E6 dp b r w2 yh (by rw[mz];omega) (by rw[mz];omega) (c.hasM 3 rfl) (z.le g2)) ?_;intro v l w3 g3 f c;rw[asT (by rw[nw];decide)] at f;obtain⟨C,rfl,m⟩:=f;have c:cH S w0 w3 (Fs fb rb s most ov way p out (.mem l::T)):=c;simp only[ex];refine tL (λ_=>?_) (λh=>absurd rfl h);have hle:=g1.trans (g2.trans g3);exact Yj 0 c rfl (k.le g3) m (by rw[qn];omega) (by rw[mz];omega) hw hp t g i (λn A B way' d W o c=>u n A B l way' d W hle o c) (λn d way' j e W c=>x n l d way' j e W hle c)
theorem Wa (l:List Nat)(i n:Nat):aY (l.set i n)=(aY l).set i (ad (n:Int)):=by simp[aY,ayX]
theorem WI {ov:aq}{s:List UInt8}{out:List UInt8}{T:List Ent}(d:cH S w0 w (Fs fb rb s most ov way p out (.mem M::T)))(b2:Rp M)(Y:Od M)(hw:way=0∨way=1)(hp:p<=8*s.length)(U:s.length<=1000000000)(b3:most<=1000000000)(b4:out.length<=most)
  (k1:(iq s most p out).2.2=0->(iq s most p out).2.1<=8*s.length->(iq s most p out).1.length<=most->∀N way' u W,M.le N->(way'=0∨way'=1)->cH S w0 W (Fs fb rb s most u way' (iq s most p out).2.1 (iq s most p out).1 (.mem N::T))->K (.tuple #[]) W)
  (z:(iq s most p out).2.2≠0->∀N u way' p' C W,M.le N->cH S w0 W (Fs fb rb s most u way' p' C (.mem N::T))->PK [upI (iq s most p out).2.2] W) :
  dZ ah 308 #[af fb 0] w PK K:=by
 generalize f:iq s most p out=X at k1 z;unfold iq at f;dsimp only at f;refine⟨sM ?_⟩;unfold lA nz;have h5:(2:Nat) ^ 5=32:=dc
 have h4:(2:Nat) ^ 4=16:=dc
 refine sI (n:=5) 0 1 d rfl rfl hw hp om U (λD W1 d=>?_) (λD W1 d=>?_)
 rotate_left
 ·rw[asU D] at f;subst f;exact z (by dsimp only;decide) M _ _ _ _ _ M.le_refl d
 rw[asT om] at f;have d:cH S w0 W1 (Fs fb rb s most ov 1 (p+5) out (.mem M::T)):=d;have n1:=Fl.Cm s p 5;generalize Fl.num s p 5=g at f n1
 try simp only[rs]
 rw[aA om om];refine kF (λE=>?_) (λE=>?_)
 rotate_left
 ·have:=auS E;rw[asU om] at f;subst f;exact z (by dsimp only;decide) M _ _ _ _ _ M.le_refl d
 have E:=atQ E;rw[asT om] at f;refine sI (n:=5) 0 1 d rfl rfl (.inr rfl) D om U (λO W2 d=>?_) (λO W2 d=>?_)
 rotate_left
 ·rw[asU om] at f;subst f;exact z (by dsimp only;decide) M _ _ _ _ _ M.le_refl d
 rw[asT om] at f;have d:cH S w0 W2 (Fs fb rb s most ov 1 (p+5+5) out (.mem M::T)):=d;have n2:=Fl.Cm s (p+5) 5;generalize Fl.num s (p+5) 5=hd at f n2
 try simp only[rs]
 rw[aA om om];refine kF (λF=>?_) (λF=>?_)
 rotate_left
 ·have:=auS F;rw[asU om] at f;subst f;exact z (by dsimp only;decide) M _ _ _ _ _ M.le_refl d
 have F:=atQ F;rw[asT om] at f;refine bI (λb=>af b 0) (aY (List.replicate 19 0)) arT (λ_=>by kernel_rfl) d λZ W3 d=>?_;refine sI (n:=4) 1 2 d rfl rfl (.inr rfl) O om U (λV W4 d=>?_) (λV W4 d=>?_)
 rotate_left
 ·rw[asU om] at f;subst f;exact z (by dsimp only;decide) M _ _ _ _ _ M.le_refl d.tail
 rw[asT om] at f;have d:cH S w0 W4 (.cells Z (aY (List.replicate 19 0)) arT::Fs fb rb s most ov 1 (p+14) out (.mem M::T)):=d;have n3:=Fl.Cm s (p+10) 4;rw[show Fl.num s (p+5+5) 4=Fl.num s (p+10) 4 from rfl];generalize Fl.num s (p+10) 4=o at f n3
 try simp only[rs]
 rw[aA om om,show (o:Int)+4=((o+4:Nat):Int) by omega];refine aC (afI om) |>.mpr ?_;have hlen:∀W:ao,DoX ah (mB .len #[123] 3 #[au] #[bR 2 0 (o+4) 19]) W (Eng.pk λ_ _=>True) (λv _=>v=ad ((o+4:Nat):Int)):=λW=>by
  refine kW (v:=ad ((o+4:Nat):Int)) (w':=W) ?_ rfl;simp[mB,builtin,Builtin.len_,run_underlying auA,goInt]
 clear hlen;refine kW (v:=ad ((o+4:Nat):Int)) (w':=W4) (by simp[mB,builtin,Builtin.len_,run_underlying auA,goInt]) ?_;have b5:aY (List.replicate 19 0)=aY (gw s (p+14) 0):=rfl;rw[b5] at d;refine loop (λvs W=>∃i:Nat,vs=[ad (i:Int)]∧i<=o+4∧p+14+3*i<=8*s.length∧cH S w0 W (.cells Z (aY (gw s (p+14) i)) arT::Fs fb rb s most ov 1 (p+14+3*i) out (.mem M::T))) (λvs _=>o+4 - n0 vs) ⟨0,rfl,om,om,d⟩ ?_;clear d;rintro vs w5 ⟨i,rfl,hi,a1,d⟩ _;simp only[jS,gd,rs,iN,ldx,bnx,iax,exx,stx,slx,cx];by_cases a6:(i:Int) < ((o+4:Nat):Int)
 ·simp only[a6,asX,i_t];have H:i < 19:=om
  have a7:=dP (P:=ah) (T:=123) (b:=2) (off:=0) (cap:=19) (n:=o+4) (k:=.i64) (i:=(i:Int)) (w:=w5) auA szI1 om om;rw[atC,atY,atK] at a7;refine aC a7 |>.mpr ?_;rw[aR bZ (Mem.cell (d.hasM 4 rfl) Y.1 (Y.2 i H))];refine sI (n:=3) 1 2 d rfl rfl (.inr rfl) a1 om U (λe6 W6 d=>?_) (λe6 W6 d=>?_)
  rotate_left
  ·rw[asU om] at f;subst f;exact z (by dsimp only;decide) M _ _ _ _ _ M.le_refl d.tail
  have d:cH S w0 W6 (.cells Z (aY (gw s (p+14) i)) arT::Fs fb rb s most ov 1 (p+14+3*i+3) out (.mem M::T)):=d;have I:=By H;refine aC (acD I) |>.mpr ?_;refine aN 0 d rfl krx rfl (by rw[fC,nc];exact I) λw7 d=>?_
  try simp only[rs]
  rw[aA om om];refine aS ⟨i+1,rfl,om,om,?_⟩ (by simp[n0,RowKit.intOf];omega);rw[gw,Wa];exact d
 simp only[a6,asW,i_f];have b7:i=o+4:=om
 subst b7;rw[asT om] at f;have G:=nc s (p+14) (o+4);have a8:=rp s (p+14) (o+4);generalize gw s (p+14) (o+4)=cl at f G a8 d;refine aC aaV |>.mpr ?_;have b8:=d.at_ 0 rfl;obtain⟨N1,g1,b9,b0,d⟩:=cH.freeze (L:=Fs fb rb s most ov 1 (p+14+3*(o+4)) out (.mem M::T)) d 3 rfl;have d:cH S w0 w5 (Fs fb rb s most ov 1 (p+14+3*(o+4)) out (.mem N1::T)):=d;have c0:SlA N1.A N1.w (bR Z 0 19 19) 1 cl.length (aY cl):=by
  rw[b9,G];refine⟨Sl.cells b8 1 19 19 (by rw[fC,G]),λq l c e _=>?_,λa l c e=>?_⟩
  ·injection e with D E O
   cases D;exact b0 Z rfl
  ·injection e with D E O
   omega
 refine bG d 3 rfl (E6 cl _ N1 w5 (λl h=>by have:=a8 l h;omega) om om (d.hasM 3 rfl) c0) ?_;intro v N2 w6 g2 y d;have d:cH S w0 w6 (Fs fb rb s most ov 1 (p+14+3*(o+4)) out (.mem N2::T)):=d;by_cases B:bj cl=0
 case neg=>
  rw[asU B] at y;subst y;rw[asU B] at f;subst f;simp only[ex];refine tL (λh=>absurd h B) (λ_=>?_);exact z B N2 _ _ _ _ _ (g1.trans g2) d
 rw[asT (by simp[B])] at y;obtain⟨tb,rfl,c1⟩:=y;rw[asT (by simp[B])] at f;simp only[ex];refine tL (λ_=>?_) (λh=>absurd rfl h)
 try simp only[rs]
 rw[aA om om,show (g:Int)+257+((hd:Int)+1)=((g+257+(hd+1):Nat):Int) by omega];have g12:=g1.trans g2;refine Wc 0 d rfl c1 G (b2.le g12) (.inr rfl) a1 U om (λD E O F way' lv W Q d=>?_) (λD way' p' W d=>?_)
 rotate_left
 ·rw[asU D] at f;subst f;exact z D N2 _ _ _ _ _ g12 d
 rw[asT (by rw[D];decide)] at f;generalize Fl.lens cl s (g+257+(hd+1)) (p+14+3*(o+4))=r at f E O F d;obtain⟨l,q,e⟩:=r;dsimp only at f E O F d;obtain⟨R,g3,t,d⟩:=cH.bV (L:=Fs fb rb s most ov way' q out (.mem N2::T)) d 3 rfl;have d:cH S w0 W (Fs fb rb s most ov way' q out (.mem R::T)):=d;have g13:=g12.trans g3;have J:256 < l.length:=om
 obtain⟨b6,off,r1,r2⟩:=oU (t.now (d.hasM 3 rfl)) J;refine aC (r1 W) |>.mpr (aC (aB bZ r2) |>.mpr ?_);have b1:l.getD 256 0=l[256]:=by rw[atD,atI J];rfl
 try simp only[rs]
 refine kF (λV=>?_) (λV=>?_)
 rotate_left
 ·have:=auS V;rw[asU (by rw[b1];omega)] at f;subst f;exact z (by dsimp only;decide) R _ _ _ _ _ g13 d
 have V:=atQ V;rw[asT (by rw[b1];omega)] at f;obtain⟨la,lc,c2,c5⟩:=t.form;rw[c2] at t ⊢;have d:=d.drew;refine⟨λ_=>True,trivial,?_⟩;refine aI _ (λ_=>iW auA szI1 om om) (aI _ (λ_=>dD auA szI1 om om) ?_);have hA:SlA R.A R.w (.slice (wF la 0 lc 1) (g+257) lc) 1 (l.take (g+257)).length (aY (l.take (g+257))):=by
  have:=t.XX (i:=g+257) om om;rw[atF,auM om];rw[atY] at this;have e:aY (l.take (g+257))=(aY l).take (g+257):=by unfold aY;rw[ayY]
  rw[e];exact this
 have hB:SlA R.A R.w (.slice (wF la (g+257) lc 1) (l.length - (g+257)) (lc - (g+257))) 1 (l.drop (g+257)).length (aY (l.drop (g+257))):=by
  have:=t.adX (i:=g+257) om;rw[atG];rw[atY] at this;have e:aY (l.drop (g+257))=(aY l).drop (g+257):=by unfold aY;rw[List.map_drop]
  rw[e];exact this
 rw[show ((g:Int)+257).toNat=g+257 by omega];have t15:∀x∈l.take (g+257),x<=15:=λx hx=>F x (avQ hx);have d15:∀x∈l.drop (g+257),x<=15:=λx hx=>F x (awZ hx);have tl:(l.take (g+257)).length=g+257:=by rw[atF];omega
 have dl:(l.drop (g+257)).length=hd+1:=by rw[atG];omega
 generalize l.take (g+257)=near at f hA t15 tl;generalize l.drop (g+257)=far at f hB d15 dl;refine bG d 3 rfl (E6 near _ R _ t15 om om (d.hasM 3 rfl) hA) ?_;intro v N4 w8 g4 y d;have d:cH S w0 w8 (Fs fb rb s most ov way' q out (.mem N4::T)):=d;have g14:=g13.trans g4;refine⟨trivial,?_⟩;by_cases j:bj near=0
 case neg=>
  rw[asU j] at y;subst y;rw[asU j] at f;subst f;refine MH (GB ?_);refine tL (λh=>absurd h j) (λ_=>?_)
  repeat intro _
  exact z j N4 _ _ _ _ _ g14 d
 rw[asT (by simp[j])] at y;obtain⟨tn,rfl,c3⟩:=y;rw[asT (by simp[j])] at f;refine MH (GB ?_);refine tL (λ_=>?_) (λh=>absurd rfl h);refine⟨trivial,?_⟩;refine bG d 3 rfl (E6 far _ N4 _ d15 om om (d.hasM 3 rfl) (hB.le g4)) ?_;intro v N5 w9 g5 y d;have d:cH S w0 w9 (Fs fb rb s most ov way' q out (.mem N5::T)):=d;have g15:=g14.trans g5;refine⟨trivial,?_⟩;by_cases m:bj far=0
 case neg=>
  rw[asU m] at y;subst y;rw[asU m] at f;subst f;refine MH (GB ?_);refine tL (λh=>absurd h m) (λ_=>?_)
  repeat intro _
  exact z m N5 _ _ _ _ _ g15 d
 rw[asT (by simp[m])] at y;obtain⟨tf,rfl,c4⟩:=y;rw[asT (by simp[m])] at f;refine MH (GB ?_);refine tL (λ_=>?_) (λh=>absurd rfl h);refine⟨trivial,?_⟩;refine Yj 0 d rfl (c3.le g5) c4 om om Q E U b3 b4 (λh1 h2 h3 way' u W Q d=>?_) (λh1 u way' p' C W d=>?_)
 ·refine⟨trivial,?_⟩;rw[f] at h1 h2 h3 d;exact k1 h1 h2 h3 N5 way' u W g15 Q d
 ·rw[f] at h1 ⊢
  repeat intro _
  exact z h1 N5 u way' p' C W g15 d
theorem afY {ov:aq}{s:List UInt8}{out:List UInt8}{T:List Ent}(b:cH S w0 w (Fs fb rb s most ov way p out (.mem M::T)))(y:Rp M)(z:Od M)(hw:way=0∨way=1)(hp:p<=8*s.length)(o:s.length<=1000000000)(k:most<=1000000000)(l:out.length<=most)
  (k0:8*s.length < p+1->∀N a way' m c W,M.le N->cH S w0 W (Fs fb rb s most a way' m c (.mem N::T))->PK [upI 4] W)
  (x:p+1<=8*s.length->(dr s most (p+1) out).2.2=0->(dr s most (p+1) out).2.1<=8*s.length->(dr s most (p+1) out).1.length<=most->∀N way' a W,M.le N->(way'=0∨way'=1)->cH S w0 W (Fs fb rb s most a way' (dr s most (p+1) out).2.1 (dr s most (p+1) out).1 (.mem N::T))->K (.bool (ai (Fl.num s p 1=1))) W)
  (j:p+1<=8*s.length->(dr s most (p+1) out).2.2≠0->∀N a way' m c W,M.le N->cH S w0 W (Fs fb rb s most a way' m c (.mem N::T))->PK [upI (dr s most (p+1) out).2.2] W) :
  dZ ah 274 #[af fb 0] w PK K:=by
 refine⟨wC ?_⟩;unfold nO nz;refine sI (n:=1) 0 1 b rfl rfl hw hp om o (λq A b=>?_) (λq A b=>?_)
 rotate_left
 ·exact k0 q M _ _ _ _ _ M.le_refl b
 have b:cH S w0 A (Fs fb rb s most ov 1 (p+1) out (.mem M::T)):=b;have x:=x q;have j:=j q;generalize e:dr s most (p+1) out=X at x j;unfold dr at e
 try simp only[rs]
 rw[show ai ((Fl.num s p 1:Int)=1)=ai (Fl.num s p 1=1) by congr 1;exact propext om];refine join λJ C=>?_;have fin:∀N way' a W,M.le N->(way'=0∨way'=1)->X.2.2=0->X.2.1<=8*s.length->X.1.length<=most->cH S w0 W (Fs fb rb s most a way' X.2.1 X.1 (.mem N::T))->J [] W:=by
  intro N way' a W hle f d g i b;refine C _ _ λ_=>?_;simp only[lG,nz];exact x d g i N way' a W hle f b
 refine sI (n:=2) 0 1 b rfl rfl (.inr rfl) q om o (λr B b=>?_) (λr B b=>?_)
 rotate_left
 ·rw[asU r] at e;subst e;exact j (by dsimp only;decide) M _ _ _ _ _ M.le_refl b
 rw[asT om] at e;have b:cH S w0 B (Fs fb rb s most ov 1 (p+1+2) out (.mem M::T)):=b
 try simp only[rs]
 by_cases t:Fl.num s (p+1) 2=0
 ·simp only[show ai ((Fl.num s (p+1) 2:Int)=0)=av from atA om,i_t];rw[asU t] at e;refine aaJ b (.inr rfl) r o k l (λd g i way' a W f b=>?_) (λd a way' m c W b=>?_)
  ·rw[e] at d g i b;exact fin M way' a W M.le_refl f d g i b
  ·rw[e] at d ⊢;exact j d M _ _ _ _ _ M.le_refl b
 simp only[show ai ((Fl.num s (p+1) 2:Int)=0)=au from asZ om,i_f];rw[asT t] at e
 try simp only[rs]
 by_cases u:Fl.num s (p+1) 2=1
 ·simp only[show ai ((Fl.num s (p+1) 2:Int)=1)=av from atA om,i_t];rw[asU u] at e;refine ahP b (.inr rfl) r o k l (λd g i N way' a W hle f b=>?_) (λd N a way' m c W hle b=>?_)
  ·rw[e] at d g i b;exact fin N way' a W hle f d g i b
  ·rw[e] at d ⊢;exact j d N _ _ _ _ _ hle b
 simp only[show ai ((Fl.num s (p+1) 2:Int)=1)=au from asZ om,i_f];rw[asT u] at e
 try simp only[rs]
 by_cases v:Fl.num s (p+1) 2=2
 ·simp only[show ai ((Fl.num s (p+1) 2:Int)=2)=av from atA om,i_t];rw[asU v] at e;refine WI b y z (.inr rfl) r o k l (λd g i N way' a W hle f b=>?_) (λd N a way' m c W hle b=>?_)
  ·rw[e] at d g i b;exact fin N way' a W hle f d g i b
  ·rw[e] at d ⊢;exact j d N _ _ _ _ _ hle b
 simp only[show ai ((Fl.num s (p+1) 2:Int)=2)=au from asZ om,i_f];rw[asT v] at e;subst e;exact kF (λh=>absurd h dc) λ_=>j (by dsimp only;decide) M _ _ _ _ _ M.le_refl b
end
end
section
open Eng
def bS (a:Deferred)(b:aq)(c:aq)(d:aq)(K:Ending->ao->Prop):=pd ah [.cell b 9,.cell c 3,.cell d 30] K [a]
def A7(a b c d d1 w)(p:JT)(K:KT):=
 dZ ah 274 #[d] w (bS d1 a b c K) λe w=>DoX ah (mUn .not e) w (bS d1 a b c K) λf w=>IfX f (AtX [d1] [d1] (p [] w)) (nK w (λo=>QDo ah o (Jf d) λg=>QDo ah o (mFA 278 g 1) λh=>QDo ah o (aK 53 h) λi=>QDo ah o (fZ 53 9 i) λj=>QDo ah o (Jf d) λk=>QDo ah o (mFA 278 k 0) λl=>QDo ah o (aK 275 l) λm=>QCall ah o 275 #[m] λn=>
 ∀w,o w ->
 DoX ah (aV 9 a j) w (bS d1 a b c K) λ_ w=>DoX ah (aV 3 b n) w (bS d1 a b c K) λ_ w=>DoX ah (aV 30 c (iN 0)) w (bS d1 a b c K) λ_ w=>D6 ah [.cell a 9,.cell b 3,.cell c 30] K [d1] .returning w))
def Fv(e d w)(K:KT):=
 alx 9 w K λa w=>alx 3 w K λb w=>alx 30 w K λc w=>dx (Ub (.func 271) #[] #[a,b,c]) w K λf w=>DfrX (dfrV f #[]) (λd1=>DoX ah (iA .geq 3 d (iN 0)) w (bS d1 a b c K) λg w=>dZ ah 272 #[g,(iN 1)] w (bS d1 a b c K) λl w=>dZ ah 273 #[e] w (bS d1 a b c K) λh w=>DoX ah (mB .min #[3,3] 3 #[au,av] #[d,(iN 1048576)]) w (bS d1 a b c K) λi w=>DoX ah (aW 278 #[(0,h),(2,i)]) w (bS d1 a b c K) λj w=>DoX ah (Hr 278 j) w (bS d1 a b c K) λk w=>Ax [] w (λm w n=>∀_:Sg,A7 a b c k d1 w n K))
theorem Iw:Fv t0 t1 w k0->Calls ah 239 #[t0,t1] w k0:=cz [] [(4,[])] func239
def eB(w)(K:KT):=
 K (.returned (.tuple #[])) w
def kV(d a b r w)(K:KT):=
 eqx .eql 20 (.tmp 6) (.const .nilIface) r .nilIface w K λg w=>IfX g (K (.returned (.tuple #[])) w) (dx (mTA r 20 273 av) w K λf w=>exx f 1 w K λh w=>exx f 0 w K λi w=>IfX h (alx 273 w K λc w=>stx 273 c i w K λ_ w=>DrawX w (λw=>(fax 273 c 0 w K λe w=>(ldx 30 e w K λj w=>stx 9 d (.string ⟨#[]⟩) w K λ_ w=>stx 3 a (iN 0) w K λ_ w=>stx 30 b j w K λ_ w=>eB w K)∧(stx 9 d (.string ⟨#[]⟩) w K λ_ w=>(ldx 30 e w K λl w=>stx 3 a (iN 0) w K λ_ w=>stx 30 b l w K λ_ w=>eB w K)∧(stx 3 a (iN 0) w K λ_ w=>ldx 30 e w K λm w=>stx 30 b m w K λ_ w=>eB w K)))∧(stx 9 d (.string ⟨#[]⟩) w K λ_ w=>(fax 273 c 0 w K λk w=>(ldx 30 k w K λn w=>stx 3 a (iN 0) w K λ_ w=>stx 30 b n w K λ_ w=>eB w K)∧(stx 3 a (iN 0) w K λ_ w=>ldx 30 k w K λo w=>stx 30 b o w K λ_ w=>eB w K))∧(stx 3 a (iN 0) w K λ_ w=>fax 273 c 0 w K λp w=>ldx 30 p w K λq w=>stx 30 b q w K λ_ w=>eB w K)))) (dx (HX r) w K λ_ w=>K (.returned (.tuple #[])) w))
theorem Fy (t0 t1 t2 r:aq)(w:ao)(K:Ending->ao->Prop):wpX ah 14 [] [] aw (aaU (DW f271)) (topD ah [] K) (upd (mP [t0,t1,t2]) 6 r) [] w=kV t0 t1 t2 r w K:=krx
theorem sC {t1 t2:aq}(h:kV t0 t1 t2 (yX u) w (λe w=>R e (Ba u) w)):CallsD ah 271 #[t0,t1,t2] u w R:=
 vA func271 rfl rfl rfl rfl rfl rfl rfl rfl (Eq.mpr (Fy t0 t1 t2 (yX u) w _) h)
end
section
open Eng Go.RowKit
theorem nx (near far:List Nat)(s:List UInt8)(most:Nat):∀(f p:Nat) (out:List UInt8),(kg near far s most f p out).2.2=0->p<=(kg near far s most f p out).2.1
|0,_,_,h=>by simp[kg] at h
|f+1,p,out,h=>by
  unfold kg at h ⊢;dsimp only at h ⊢;split
  ·exact atE _
  rename_i c;rw[asT c] at h
  have:=nu (Decidable.not_not.1 c);split
  ·rename_i a;rw[asU a] at h
   split
   ·exact atE _
   rename_i b;rw[asT b] at h
   have:=nx near far s most f _ _ h;omega
  rename_i a;rw[asT a] at h
  split
  ·dsimp only;omega
  rename_i b;rw[asT b] at h
  split
  ·exact atE _
  rename_i d;rw[asT d] at h
  have e:=tr (Decidable.not_not.1 d);have:=nx near far s most f _ _ h;omega
theorem qo (cl:List Nat)(s:List UInt8)(n:Nat):∀(f p:Nat) (l:List Nat),(kh cl s n f p l).2.2=0->p<=(kh cl s n f p l).2.1
|0,_,_,h=>by simp[kh] at h
|f+1,p,l,h=>by
  unfold kh at h ⊢;dsimp only at h ⊢;split
  ·exact atE _
  rename_i c;rw[asT c] at h
  split
  ·exact atE _
  rename_i b;rw[asT b] at h
  have:=nu (Decidable.not_not.1 b);split
  ·rename_i a;rw[asU a] at h
   have:=qo cl s n f _ _ h;omega
  rename_i a;rw[asT a] at h
  split
  ·exact atE _
  rename_i d;rw[asT d] at h
  split
  ·exact atE _
  rename_i e;rw[asT e] at h
  split
  ·exact atE _
  rename_i g;rw[asT g] at h
  have:=qo cl s n f _ _ h;omega
theorem BY {s:List UInt8}{out:List UInt8}(h:(ew s most p out).2.2=0):p<=(ew s most p out).2.1:=by
 unfold ew at h ⊢;dsimp only at h ⊢
 repeat' split
 all_goals first|exact atE _|(dsimp only;omega)
theorem yi {s:List UInt8}{out:List UInt8}(h:(iq s most p out).2.2=0):p<=(iq s most p out).2.1:=by
 unfold iq at h ⊢;by_cases g:8*s.length < p+5
 ·rw[asU g];exact atE _
 rw[asT g] at h ⊢;by_cases i:29 < Fl.num s p 5
 ·rw[asU i];exact atE _
 rw[asT i] at h ⊢;by_cases j:8*s.length < p+10
 ·rw[asU j];exact atE _
 rw[asT j] at h ⊢;by_cases k:29 < Fl.num s (p+5) 5
 ·rw[asU k];exact atE _
 rw[asT k] at h ⊢;by_cases m:8*s.length < p+14
 ·rw[asU m];exact atE _
 rw[asT m] at h ⊢;by_cases o:8*s.length < p+14+3*(Fl.num s (p+10) 4+4)
 ·rw[asU o];exact atE _
 rw[asT o] at h ⊢;have w:p<=p+14+3*(Fl.num s (p+10) 4+4):=om
 generalize p+14+3*(Fl.num s (p+10) 4+4)=q at h w ⊢;generalize gw s (p+14) (Fl.num s (p+10) 4+4)=cl at h ⊢;generalize Fl.num s p 5+257=b at h ⊢;generalize b+(Fl.num s (p+5) 5+1)=n at h ⊢;have a:(Fl.lens cl s n q).2.2=0->q<=(Fl.lens cl s n q).2.1:=qo cl s n _ _ _;dsimp only at h ⊢;generalize Fl.lens cl s n q=r at h a ⊢;obtain⟨l,t,e⟩:=r;dsimp only at h a ⊢;by_cases u:bj cl≠0
 ·rw[asU u];exact atE _
 rw[asT u] at h ⊢;by_cases f:e≠0
 ·rw[asU f];exact atE _
 rw[asT f] at h ⊢;by_cases v:l.getD 256 0=0
 ·rw[asU v];exact atE _
 rw[asT v] at h ⊢;by_cases c:bj (l.take b)≠0
 ·rw[asU c];exact atE _
 rw[asT c] at h ⊢;by_cases d:bj (l.drop b)≠0
 ·rw[asU d];exact atE _
 rw[asT d] at h ⊢;have x:t<=(gn (l.take b) (l.drop b) s most t out).2.1:=nx _ _ _ _ _ _ _ h;have:=a (Decidable.not_not.1 f);omega
theorem B0 {s:List UInt8}{most p:Nat}{out:List UInt8}(h:(dr s most p out).2.2=0):p<=(dr s most p out).2.1:=by
 unfold dr at h ⊢;split
 ·exact atE _
 rename_i c;rw[asT c] at h
 split
 ·rename_i a;rw[asU a] at h
  have:=BY h;omega
 rename_i a;rw[asT a] at h
 split
 ·rename_i b;rw[asU b] at h
  have:=nx _ _ _ _ _ _ _ h;unfold gn;omega
 rename_i b;rw[asT b] at h
 split
 ·rename_i d;rw[asU d] at h
  have:=yi h;omega
 exact atE _
namespace Eng
section
variable {P:Program}{w:ao}
theorem Pd {S E:TypeId}{l:List UInt8}(j:P.underlying S=ax (.slice E))(he:P.underlying E=ax (.int .u8))(hd:P.underlying D=ax .string)(h:Sl w v 1 l.length (aH l)):(fZ S D v).run P w=.ok (.value (ae l)) w:=by
 obtain⟨o,a,cap,rfl,m,n⟩:=h;cases a with
|none=>
  have g:=m rfl;have:l=[]:=axL g;subst this;exact bQ (run_convert_bytes_nil w S E j he _ _ D hd)
|some p=>
  obtain⟨f,d⟩:=n p rfl;by_cases g:l=[]
  ·subst g;refine bQ ?_;have k:(loadCells p 0).run P w=.ok (([]:List Int).map (Value.int .u8)).toArray w:=rfl;rw[show ([]:List UInt8).length=0 from rfl,run_convert_bytes_string w S D E _ 0 cap j he hd,run_bytesToString w p 0 cap [] k];rfl
  replace f:=f (awL.2 g)
  obtain⟨b,off,spot⟩:=p;simp only at f d;subst f;have:=run_convert_bytes_arg (P:=P) w S E j he b off l.length cap (l.map λc=>(c.toNat:Int)) sm (λi hi=>by
   refine d i _ ?_;simp[aH,atI hi]) D hd
  refine bQ ?_;rw[this];have e:strOfNums (l.map λc=>(c.toNat:Int))=⟨l.toArray⟩:=by
   unfold strOfNums;rw[axB]
   congr 2
   conv=>rhs;rw[<-List.map_id l]
   refine axY λc _=>?_;simp
  rw[e]
end
end Eng
def kj (s:List UInt8)(most:Nat):Nat->Nat->List UInt8->List UInt8×Nat×Int
|0,_,_=>([],0,13)
|f+1,p,out=>
  if 8*s.length < p+1 then ([],0,4)
  else
   let r:=dr s most (p+1) out
   if r.2.2≠0 then ([],0,r.2.2)
   else if Fl.num s p 1=1 then (r.1,(r.2.1+7) / 8,0)
   else kj s most f r.2.1 r.1
def ko (s:List UInt8)(most:Int):List UInt8×Nat×Int:=if most < 0 then ([],0,1) else kj s (min most.toNat 1048576) (8*s.length+1) 0 []
def flT (x:List UInt8×Nat×Int):Value:=.tuple #[ae x.1,ad (x.2.1:Int),ad x.2.2]
abbrev Kz (b:Nat)(l:List UInt8):Ent:=.cells b [ae l] 9
abbrev Qk (b:Nat)(n:Int):Ent:=.cells b [ad n] 3
abbrev KG (b:Nat)(e:Int):Ent:=.cells b [ad e] 30
theorem LW:bY ah 271=true:=krx
theorem nfUp:nD ah 273=true:=krx
theorem arH:kC ah 273 0=ax 0:=krx
theorem szUp:(Tryz.prog.info? 273).map (·.size)=ax 1:=krx
section
variable {w:ao}{PK:PKT}{K:VWP}{S:Nat->Prop}{w0:ao}{L:List Ent}
theorem VV (s:List UInt8)(a:cH S w0 w L)(k:∀b w',cH S w0 w' (bqE b s 0 0::L)->K (af b 0) w'):dZ ah 273 #[ae s] w PK K:=by
 refine fY (Nz (k0:=wM λv W=>∃b,v=af b 0∧cH S w0 W (bqE b s 0 0::L)) ?_) (λe W ⟨v,he,b,c,a⟩=>by subst he;subst c;exact k b W a);unfold Mf nz;have e:∀W:ao,(aW 317 #[(1,ae s)]).run ah W=.ok (.value (.agg (bqC s 0 0).toArray)) W:=λW=>by kernel_rfl
 refine aC (e w) |>.mpr ?_;exact bI (λb=>af b 0) (bqC s 0 0) 317 (λ_=>by kernel_rfl) a λb w' a=>vB ⟨b,rfl,a⟩
end
theorem abX (s:List UInt8)(most:Int)(M:Mem)(w:ao)(x:Rp M)(y:Od M)(Q:s.length<=1000000000)(R:M.has w) :
  jJ ah 239 #[ae s,ad most] M w (λv _=>v=flT (ko s most)∧(ko s most).2.1<=s.length∧(ko s most).1.length<=1048576):=by
 refine aU R λK z=>Iw ?_;generalize c:ko s most=X at z;unfold ko at c;unfold Fv iN dx alx;refine bI (λb=>af b 0) [.string ⟨#[]⟩] 9 (λ_=>by kernel_rfl) (cH.memS R) λi Y a=>?_;refine bI (λb=>af b 0) [ad 0] 3 (λ_=>by kernel_rfl) a λj w2 a=>?_;refine bI (λb=>af b 0) [ad 0] 30 (λ_=>by kernel_rfl) a λk w3 a=>?_;have a:cH M.A w w3 ([KG k 0,Qk j 0,Kz i []]++([.mem M]++[])):=a;have a:=a.front;rw[AQ];refine⟨_,rfl,?_⟩;have fail:∀{W:ao} {L:List Ent} {e:Int} {N:Mem},cH M.A w W (L++([.mem N,KG k 0,Qk j 0,Kz i []]++[]))->M.le N->X=([],0,e) ->
   bS { target:=.fn (.func 271) #[af i 0,af j 0,af k 0],args:=#[]++#[] } (af i 0) (af j 0) (af k 0) K [upI e] W:=by
  intro W L e N a hle C;have a:=a.front;have a:cH M.A w W (.mem N::KG k 0::Qk j 0::Kz i []::(L++[])):=a;show pd ah _ K _ [upI e] W;unfold pd;refine qH sm LW (sC (t0:=af i 0) (t1:=af j 0) (t2:=af k 0) ?_);simp only[kV,yX,Ba,upI,Eng.WH axM,rs,Zi nfUp,ex,i_t,i_f,iN,dx,ldx,fax,exx,stx,eqx,alx];refine bI (λb=>af b 0) [ad 0] 273 (λ_=>by kernel_rfl) a λZ D a=>?_;refine jK 0 a rfl (new:=[ad e]) szUp (λu hu=>by rw[auB.1 hu];rfl) rfl λE a=>?_;refine⟨?_⟩;have a:=a.drew
  repeat' first
  |apply And.intro
  |refine aC (bC arH) |>.mpr ?_
  |refine aC (aB Ig (a.cell 0 rfl 0 rfl)) |>.mpr ?_
  |refine aN 4 a rfl krx rfl sm (λ_ a=>?_)
  |refine aN 3 a rfl krx rfl sm (λ_ a=>?_)
  |refine aN 2 a rfl krx rfl sm (λ_ a=>?_)
  all_goals
   unfold eB;refine SS (bJ (AtV.cell WU (a.cell 4 rfl 0 rfl))) (bJ (AtV.cell bZ (a.cell 3 rfl 0 rfl))) (bJ (AtV.cell Ig (a.cell 2 rfl 0 rfl))) (z _ _ N _ 1 a rfl hle ⟨by rw[C];rfl,by rw[C];exact atU _,by rw[C];exact atU _⟩)
 try simp only[rs]
 refine kF (λn=>?_) (λn=>?_)
 rotate_left
 ·have:=auS n;rw[asU om] at c;exact fail (L:=[]) a M.le_refl c.symm
 have n:=atQ n;rw[asT om] at c;refine VV s a λrb T a=>?_;rw[ZF,show min most 1048576=((min most.toNat 1048576:Nat):Int) by omega];have F:min most.toNat 1048576<=1048576:=Nat.min_le_right _ _;generalize min most.toNat 1048576=mo at c F;have e:∀W:ao,(aW 278 #[(0,af rb 0),(2,ad (mo:Int))]).run ah W=.ok (.value (.agg (flC rb cO (mo:Int)).toArray)) W:=λW=>by kernel_rfl
 refine aC (e T) |>.mpr ?_;refine bI (λb=>af b 0) (flC rb cO (mo:Int)) 278 (λ_=>by kernel_rfl) a λfb D a=>?_;have a:=cH.nilU a 5 1;have a:cH M.A w D ([kQ cO []]++([flE fb rb cO (mo:Int),bqE rb s 0 0]++[.mem M,KG k 0,Qk j 0,Kz i []])):=a;have a:cH M.A w D (Fs fb rb s mo cO 0 0 [] (.mem M::[KG k 0,Qk j 0,Kz i []])):=(cH.front a).perm (ayF _);refine loop (λvs W=>∃(p:Nat) (way:Int) (ov:aq) (out:List UInt8) (N:Mem),vs=[]∧(way=0∨way=1)∧p<=8*s.length∧out.length<=mo∧M.le N∧(∃f,8*s.length+1 - p<=f∧kj s mo f p out=X)∧cH M.A w W (Fs fb rb s mo ov way p out (.mem N::[KG k 0,Qk j 0,Kz i []]))) (λ_ w=>8*s.length+1 - LM rb w) ⟨0,0,cO,[],M,rfl,.inl rfl,om,sm,M.le_refl,⟨_,om,c⟩,a⟩ ?_;clear a c;rintro vs E ⟨p,way,ov,out,N,rfl,hw,hp,G,hle,⟨f,hf,c⟩,a⟩ _;have H:LM rb E=p:=KA (a.at_ 1 rfl);simp only[A7,iN];obtain⟨f,rfl⟩:∃f',f=f'+1:=⟨f - 1,om⟩;rw[kj] at c;dsimp only at c;have l:=@B0 s mo (p+1) out;refine afY a (x.le hle) (y.le hle) hw hp Q om G (λI o g way' J m W d a=>?_) (λI q O S o way' g W d P a=>?_) (λI q o g way' J m W d a=>?_)
 ·rw[asU I] at c;exact fail (L:=[flE fb rb g (mo:Int),bqE rb s way' J,kQ g m]) a (hle.trans d) c.symm
 rotate_left
 ·rw[asT om,asU q] at c;exact fail (L:=[flE fb rb g (mo:Int),bqE rb s way' J,kQ g m]) a (hle.trans d) c.symm
 rw[asT om,asT (by rw[q];decide)] at c;have l:=l q;generalize dr s mo (p+1) out=B at c a q O S l
 try simp only[rs]
 by_cases t:Fl.num s p 1=1
 case neg=>
  rw[asT t] at c;simp only[t,asW,auN,i_t];have r:LM rb W=B.2.1:=KA (a.at_ 1 rfl);refine⟨rfl,?_⟩;refine aS ⟨B.2.1,way',g,B.1,o,rfl,P,O,S,hle.trans d,⟨f,om,c⟩,a⟩ (by show 8*s.length+1 - LM rb W < 8*s.length+1 - LM rb E;rw[H,r];omega)
 rw[asU t] at c;simp only[t,asX,auO,i_f];refine cQ (λW=>cH M.A w W (Fs fb rb s mo g way' B.2.1 B.1 (.mem o::[KG k 0,Qk j 0,Kz i []]))) a.drew ?_;refine gr _ (λ_=>cR) (gr _ (λ_=>bC BG) (iL _ (λW h=>Jt (h.at_ 0 rfl)) ?_));refine iL (ae B.1) (λW h=>Pd atM atS atB (jR (h.at_ 2 rfl))) ?_;refine gr _ (λ_=>cR) (gr _ (λ_=>bC WW) (iL _ (λW h=>TF (h.at_ 0 rfl)) ?_));refine iH (ad (((B.2.1+7) / 8:Nat):Int)) (λW h=>(aiJ (h.at_ 1 rfl) O Q).mono λv w' ⟨n,U⟩=>⟨n,h.grow U⟩) ?_;intro w7 a;refine aN 6 a rfl krx rfl sm λw8 a=>?_;refine aN 5 a rfl krx rfl sm λw9 a=>?_;refine aN 4 a rfl krx rfl sm λV a=>?_;refine qH sm LW (sC (t0:=af i 0) (t1:=af j 0) (t2:=af k 0) ?_);simp only[kV,yX,Ba,Eng.T3 axM,rs,i_t,i_f,iN,dx,ldx,fax,exx,stx,eqx,alx];refine SS (bJ (AtV.cell WU (a.cell 6 rfl 0 rfl))) (bJ (AtV.cell bZ (a.cell 5 rfl 0 rfl))) (bJ (AtV.cell Ig (a.cell 4 rfl 0 rfl))) (z _ _ o _ 3 a rfl (hle.trans d) ⟨by rw[<-c];rfl,by rw[<-c];dsimp only;omega,by rw[<-c];dsimp only;omega⟩)
end
end Go.Proofs.YtlipjfcbjemicaaGreatDoor



namespace Go.Proofs.YtlipjfcbjemicaaGreatDoor
variable{A:Nat->Prop}{D U U2:TypeId}{K:VWP}{L:List Eng.Ent}{M:Eng.Mem}{P:Program}{PK:PKT}{R:Ending->FrameMode->ao->Prop}{W w w' w0:ao}{a way:Int}{b cap fb h i j most p rb sz tb:Nat}{cl near:List Nat}{cs news xs:List aq}{t0 v v' v2:aq}{u:FrameMode}{α:Type}{t0 t1 t2 t3 t4:aq}{k0:Eng.KT}
section
open Eng
def FK(t1 t5 t15 t16 w)(N1:JT)(K:KT):=nz f270 43 [N1] [nh 7 [16]] [(5,5)] (zg [1,5,15,16] [t1,t5,t15,t16]) w K
def Ka(t0 t1 w)(K:KT):=nz f270 1 [] [(7,[16],λs v j w f=>FK (s 1) (s 5) (s 15) (vg v 0) w (f 0) K)] [] (zg [0,1] [t0,t1]) w K
theorem LA:Ka t0 t1 w k0->Calls ah 270 #[t0,t1] w k0:=cz [] [(3,[16])] func270
def Mp(t0 w)(K:KT):=nz f237 1 [] [] [] (zg [0] [t0]) w K
theorem NY:Mp t0 w k0->Calls ah 237 #[t0] w k0:=cw func237
def EL(t0 t1 w)(K:KT):=nz f304 1 [] [] [] (zg [0,1] [t0,t1]) w K
theorem II:EL t0 t1 w k0->Calls ah 304 #[t0,t1] w k0:=cw func304
def JR(t0 w)(K:KT):=nz f236 1 [] [] [] (zg [0] [t0]) w K
theorem Li:JR t0 w k0->Calls ah 236 #[t0] w k0:=cw func236
def FJ(t0 w)(K:KT):=nz f238 1 [] [] [(3,8)] (zg [0] [t0]) w K
theorem Ie:FJ t0 w k0->Calls ah 238 #[t0] w k0:=cw func238
def Gd(t0 t1 w)(K:KT):=nz f192 1 [] [] [(10,10)] (zg [0,1] [t0,t1]) w K
theorem IQ:Gd t0 t1 w k0->Calls ah 192 #[t0,t1] w k0:=cw func192
def nW(t1 t5 t6 t7 w)(N1:JT)(K:KT):=nz f196 43 [N1] [nh 7 [5,6,7]] [] (zg [1,5,6,7] [t1,t5,t6,t7]) w K
def sH(t0 t1 w)(K:KT):=nz f196 1 [] [(7,[5,6,7],λs v j w f=>nW (s 1) (vg v 0) (vg v 1) (vg v 2) w (f 0) K)] [] (zg [0,1] [t0,t1]) w K
theorem Am:sH t0 t1 w k0->Calls ah 196 #[t0,t1] w k0:=cz [] [(3,[5,6,7])] func196
def tN(t0 w)(K:KT):=nz f130 1 [] [] [] (zg [0] [t0]) w K
theorem Bb:tN t0 w k0->Calls ah 130 #[t0] w k0:=cw func130
def rC(t0 w)(K:KT):=nz f129 1 [] [] [] (zg [0] [t0]) w K
theorem AF:rC t0 w k0->Calls ah 129 #[t0] w k0:=cw func129
end
section
open Eng Go.RowKit
def il (x:Nat×Nat)(c:UInt8):Nat×Nat:=((x.1+c.toNat) % 65521,(x.2+(x.1+c.toNat) % 65521) % 65521)
def fj (s:List UInt8):Nat×Nat:=s.foldl il (1,0)
def fq (s:List UInt8):Nat:=65536*(fj s).2+(fj s).1
def bp (n:Nat):List UInt8:=[UInt8.ofNat (n / 2 ^ 24),UInt8.ofNat (n / 2 ^ 16),UInt8.ofNat (n / 2 ^ 8),UInt8.ofNat n]
def mf (a b:Nat):Bool:=ai (a % 16≠8)||decide (7 < a / 16)||decide ((256*a+b) % 31≠0)||decide (b / 32 % 2≠0)
def ir (s:List UInt8)(most:Int):List UInt8×Int:=
 if s.length < 2 then ([],4)
 else if mf (s.getD 0 0).toNat (s.getD 1 0).toNat=av then ([],3)
 else
  let r:=ko (s.drop 2) most
  if r.2.2≠0 then ([],r.2.2)
  else if s.length < 2+r.2.1+4 then ([],4)
  else if (s.drop (2+r.2.1)).take 4≠bp (fq r.1) then ([],12)
  else (r.1,0)
theorem ny (s:List UInt8):(fj s).1 < 65521∧(fj s).2 < 65521:=by
 unfold fj;have:∀(l:List UInt8) (x:Nat×Nat),x.1 < 65521∧x.2 < 65521->(l.foldl il x).1 < 65521∧(l.foldl il x).2 < 65521:=by
  intro l
  induction l with
 |nil=>exactλx h=>h
 |cons c l a=>exactλx h=>a _ ⟨awC _ dc,awC _ dc⟩
 exact this s _ ⟨dc,dc⟩
theorem tz {s:List UInt8}(h:i < s.length):fj (s.take (i+1))=il (fj (s.take i)) s[i]:=by
 unfold fj;rw[auD h,List.foldl_append];rfl
def zlT (x:List UInt8×Int):Value:=.tuple #[ae x.1,ad x.2]
theorem CC {n:Nat}(h:n < 4294967296):IntKind.u32.wrap (n:Int)=(n:Int):=by unfold IntKind.wrap;simp[IntKind.bits,IntKind.signed];omega
theorem CL {n:Int}(a:0<=n)(h:n < 4294967296):IntKind.u32.wrap n=n:=by unfold IntKind.wrap;simp[IntKind.bits,IntKind.signed];omega
theorem uX (n:Nat):IntKind.u8.wrap (n:Int)=((UInt8.ofNat n).toNat:Int):=by
 unfold IntKind.wrap;simp[IntKind.bits,IntKind.signed]
theorem ajC {a:Nat}(c:b < 2 ^ i):a*2 ^ i ||| b=a*2 ^ i+b:=by
 have:=aAN c a;rw[awN a,<-this]
theorem or32 {a:Nat}(c:a < 65536)(d:b < 65536):bOr .u32 ((b*65536:Nat):Int) (a:Int)=((65536*b+a:Nat):Int):=by
 have e:b*65536 ||| a=65536*b+a:=by
  have:b*65536 ||| a=b*65536+a:=ajC (i:=16) c;omega
 unfold bOr;show IntKind.wrap .u32 (((BitVec.ofInt 32 ((b*65536:Nat):Int) ||| BitVec.ofInt 32 (a:Int)).toNat:Nat):Int)=_;rw[BitVec.ofInt_natCast,BitVec.ofInt_natCast,BitVec.toNat_or,BitVec.toNat_ofNat,BitVec.toNat_ofNat,avF om,avF om,e];exact CC om
theorem or64 {a:Nat}(d:a < 256)(c:b < 256):bOr .i64 ((a*256:Nat):Int) (b:Int)=((256*a+b:Nat):Int):=by
 have e:a*256 ||| b=256*a+b:=by
  have:a*256 ||| b=a*256+b:=ajC (i:=8) c;omega
 unfold bOr;show IntKind.wrap .i64 (((BitVec.ofInt 64 ((a*256:Nat):Int) ||| BitVec.ofInt 64 (b:Int)).toNat:Nat):Int)=_;rw[BitVec.ofInt_natCast,BitVec.ofInt_natCast,BitVec.toNat_or,BitVec.toNat_ofNat,BitVec.toNat_ofNat,avF om,avF om,e];exact aA om om
theorem Up:∀n:Fin 256,LL .i64 (n.val:Int) 15=((n.val % 16:Nat):Int):=by decide +kernel
theorem X9:∀n:Fin 256,LL .i64 (n.val:Int) 32=((n.val / 32 % 2*32:Nat):Int):=by decide +kernel
theorem anC {n:Nat}(h:n < 256):LL .i64 (n:Int) 15=((n % 16:Nat):Int):=Up ⟨n,h⟩
theorem apY {n:Nat}(h:n < 256):LL .i64 (n:Int) 32=((n / 32 % 2*32:Nat):Int):=X9 ⟨n,h⟩
def suC (a b:Nat):List Value:=[.int .u32 (a:Int),.int .u32 (b:Int)]
def suV (a b:Nat):Value:=.agg (suC a b).toArray
abbrev suE (c a b:Nat):Ent:=.cells c (suC a b) 312
theorem RC {a:Nat}:∀u∈suC a b,u.oneCell'=true:=by
 intro u hu;simp only[suC,atL,avO,or_false] at hu;rcases hu with rfl|rfl<;>rfl
theorem aeP:I2 ah 312=ax 2:=krx
theorem szSu:(Tryz.prog.info? 312).map (·.size)=ax 2:=krx
theorem RN:kC ah 312 0=ax 0:=krx
theorem XU:kC ah 312 1=ax 1:=krx
theorem nU32:eP ah 153=true:=krx
theorem agN (a b:Nat)(c:UInt8)(w:ao)(j:a < 65521)(k:b < 65521):Ret ah 304 #[suV a b,.int .u8 (c.toNat:Int)] w (λv w'=>v=suV (il (a,b) c).1 (il (a,b) c).2∧Below w.heap.size w w'):=by
 refine aL λK h=>II ?_;unfold EL nz;have l:=avI c;refine bI (λb=>af b 0) (suC a b) 312 (λ_=>by kernel_rfl) (Own.start w) λf m e=>?_;refine bI (λb=>af b 0) (suC 0 0) 312 (λ_=>by kernel_rfl) e λg w2 e=>?_;rw[aO RN,aR nU32 (e.cell 1 rfl 0 rfl)];refine aC (bA krx aAj) |>.mpr ?_;rw[CC om,Kn,CL om om,show (a:Int)+(c.toNat:Int)=((a+c.toNat:Nat):Int) by push_cast;rfl,Di dc,show (((a+c.toNat:Nat):Int)).tmod 65521=(((a+c.toNat) % 65521:Nat):Int) from rfl,aO RN];refine aN 1 e rfl krx rfl (by show 0+0 < 2;omega) λw3 e=>?_;have hm:=awC (a+c.toNat) (show 65521>0 by decide);have e:cH NoB w w3 [suE g 0 0,suE f ((a+c.toNat) % 65521) b]:=e;generalize hd:(a+c.toNat) % 65521=d at e hm;rw[aO XU,aR nU32 (e.cell 1 rfl 1 rfl),aO RN,aR nU32 (e.cell 1 rfl 0 rfl),Kn,CL om om,show (b:Int)+(d:Int)=((b+d:Nat):Int) by push_cast;rfl,Di dc,show (((b+d:Nat):Int)).tmod 65521=(((b+d) % 65521:Nat):Int) from rfl,aO XU];refine aN 1 e rfl krx rfl (by show 0+1 < 2;omega) λi e=>?_;have e:cH NoB w i [suE g 0 0,suE f d ((b+d) % 65521)]:=e;rw[Jn (e.agg 1 rfl aeP)];refine jK 0 e rfl (new:=suC d ((b+d) % 65521)) szSu RC rfl λn e=>?_;refine fH (bJ (e.agg 0 rfl aeP)) (h _ _ ⟨?_,e.done⟩);unfold il suV;dsimp only;rw[hd]
theorem Ts (s:List UInt8)(w:ao)(q:s.length<=1000000000):Ret ah 237 #[ae s] w (λv w'=>v=.int .u32 (fq s:Int)∧Below w.heap.size w w'):=by
 refine aL λK l=>NY ?_;unfold Mp nz;have more:Ret ah 270 #[.int .u32 1,ae s] w (λv w'=>v=.int .u32 (fq s:Int)∧Below w.heap.size w w'):=by
  refine aL λK l=>LA ?_;unfold Ka nz;rw[Xt,show LL .u32 1 65535=1 by decide +kernel,Di dc,show (1:Int).tmod 65521=((1:Nat):Int) from rfl,EB dc,show (1:Int).fdiv (2 ^ (min (16:Int).toNat IntKind.u32.bits))=0 by decide +kernel,Di dc,show (0:Int).tmod 65521=((0:Nat):Int) from rfl];refine aC (show (aW 312 #[(0,.int .u32 ((1:Nat):Int)),(1,.int .u32 ((0:Nat):Int))]).run ah w=.ok (.value (suV 1 0)) w by kernel_rfl) |>.mpr ?_;refine bI (λb=>af b 0) (suC 0 0) 312 (λ_=>by kernel_rfl) (Own.start w) λn r d=>?_;refine jK 0 d rfl (new:=suC 1 0) szSu RC rfl λw2 d=>?_;rw[cZ atB];refine loop (λvs W=>∃i:Nat,vs=[ad (i:Int)]∧i<=s.length∧cH NoB w W [suE n (fj (s.take i)).1 (fj (s.take i)).2]) (λvs _=>s.length - n0 vs) ⟨0,rfl,om,d⟩ ?_;clear d;rintro vs w3 ⟨i,rfl,hi,d⟩ _;simp only[FK,gd,rs,nz];by_cases g:(i:Int) < (s.length:Int)
  ·simp only[g,asX,i_t];have j:i < s.length:=om
   obtain⟨e,f⟩:=ny (s.take i);have k:=tz j;generalize fj (s.take i)=x at d e f k;obtain⟨a,b⟩:=x;refine cQ (λW=>cH NoB w W [suE n a b]) d.drew ?_;refine iL (suV a b) (λW h=>bB (h.agg 0 rfl aeP)) (q_ix (c:=s[i]) atB om (by rw[atC];exact atI j) ?_);refine iH (suV (il (a,b) s[i]).1 (il (a,b) s[i]).2) (λW h=>(agN a b s[i] W e f).mono λv w' ⟨o,p⟩=>⟨o,h.grow p⟩) ?_;intro t d;refine jK 0 d rfl (new:=suC (il (a,b) s[i]).1 (il (a,b) s[i]).2) szSu RC rfl λu d=>?_
   try simp only[rs]
   rw[aA om om];refine aS ⟨i+1,rfl,om,?_⟩ (by simp[n0,RowKit.intOf];omega);rw[k];exact d
  ·simp only[g,asW,i_f];have:i=s.length:=om
   subst this;rw[auZ] at d;obtain⟨e,f⟩:=ny s;have m:fq s=65536*(fj s).2+(fj s).1:=rfl;generalize fj s=x at d e f m;obtain⟨a,b⟩:=x;dsimp only at e f m;rw[aO XU,aR nU32 (d.cell 0 rfl 1 rfl),Fa dc,show min (16:Int).toNat IntKind.u32.bits=16 from rfl,show (b:Int)*2 ^ 16=((b*65536:Nat):Int) by omega,CC om,aO RN,aR nU32 (d.cell 0 rfl 0 rfl),b_or,or32 om om,<-m];exact l _ _ ⟨rfl,d.done⟩
 refine C5 more λv w' ⟨e,f⟩=>?_;exact l _ _ ⟨e,f⟩
theorem Vb (s:List UInt8)(w:ao)(m:s.length<=1000000000):Ret ah 130 #[ae s] w (λv w'=>v=.int .u32 (fq s:Int)∧Below w.heap.size w w'):=by
 refine aL λK k=>Bb ?_;unfold tN nz;have more:Ret ah 196 #[.int .u32 1,ae s] w (λv w'=>v=.int .u32 (fq s:Int)∧Below w.heap.size w w'):=by
  refine aL λK k=>Am ?_;unfold sH nz;rw[Di dc,show (1:Int).tmod 65536=1 from rfl,Di dc,show (1:Int).tmod 65521=((1:Nat):Int) from rfl,Ih dc,show IntKind.u32.wrap ((1:Int).tdiv 65536)=0 by decide +kernel,Di dc,show (0:Int).tmod 65521=((0:Nat):Int) from rfl];refine loop (λvs W=>∃i:Nat,vs=[.int .u32 ((fj (s.take i)).1:Int),.int .u32 ((fj (s.take i)).2:Int),ad (i:Int)]∧i<=s.length∧w=W) (λvs _=>s.length - n2 vs) ⟨0,rfl,om,rfl⟩ ?_;rintro vs _ ⟨i,rfl,hi,rfl⟩ _;simp only[nW,gd,nz];rw[cZ atB]
  try simp only[rs]
  by_cases g:(i:Int) < (s.length:Int)
  ·simp only[g,asX,i_t];have h:i < s.length:=om
   obtain⟨e,f⟩:=ny (s.take i);have j:=tz h;generalize fj (s.take i)=x at e f j;obtain⟨a,b⟩:=x;dsimp only at e f ⊢;have o:=avI s[i];rw[NW (c:=s[i]) atB om (by rw[atC];exact atI h)];refine aC (bA krx aAj) |>.mpr ?_;rw[CC om,Kn,CL om om,show (a:Int)+(s[i].toNat:Int)=((a+s[i].toNat:Nat):Int) by push_cast;rfl,Di dc,show (((a+s[i].toNat:Nat):Int)).tmod 65521=(((a+s[i].toNat) % 65521:Nat):Int) from rfl];have hm:=awC (a+s[i].toNat) (show 65521>0 by decide);generalize hd:(a+s[i].toNat) % 65521=d at hm;rw[Kn,CL om om,show (b:Int)+(d:Int)=((b+d:Nat):Int) by push_cast;rfl,Di dc,show (((b+d:Nat):Int)).tmod 65521=(((b+d) % 65521:Nat):Int) from rfl]
   try simp only[rs]
   rw[aA om om];refine aS ⟨i+1,?_,om,rfl⟩ (by simp[n2,RowKit.intOf];omega);rw[j];unfold il;dsimp only;rw[hd];rfl
  ·simp only[g,asW,i_f];have:i=s.length:=om
   subst this;rw[auZ];obtain⟨e,f⟩:=ny s;have l:fq s=65536*(fj s).2+(fj s).1:=rfl;generalize fj s=x at e f l;obtain⟨a,b⟩:=x;dsimp only at e f l ⊢
   try simp only[rs]
   rw[CL (n:=65536*(b:Int)) om om,CL om om,show 65536*(b:Int)+(a:Int)=((65536*b+a:Nat):Int) by omega,<-l];exact k _ _ ⟨rfl,Below.refl _ _⟩
 refine C5 more λv w' ⟨e,f⟩=>?_;exact k _ _ ⟨e,f⟩
theorem shrU {n k:Nat}(a:k<=32):((n:Nat):Int).fdiv (2 ^ (min ((k:Nat):Int).toNat IntKind.u32.bits))=((n / 2 ^ k:Nat):Int):=by
 rw[show min ((k:Nat):Int).toNat IntKind.u32.bits=k by show min ((k:Nat):Int).toNat 32=k;omega,RH]
theorem PD (n:Nat)(w:ao):Ret ah 236 #[.int .u32 (n:Int)] w (λv w'=>v=ae (bp n)∧Below w.heap.size w w'):=by
 refine aL λK c=>Li ?_;unfold JR nz;rw[EB dc,show (24:Int)=((24:Nat):Int) from rfl,shrU dc];refine aC (bA krx atS) |>.mpr ?_;rw[uX,EB dc,show (16:Int)=((16:Nat):Int) from rfl,shrU dc];refine aC (bA krx atS) |>.mpr ?_;rw[uX,EB dc,show (8:Int)=((8:Nat):Int) from rfl,shrU dc];refine aC (bA krx atS) |>.mpr ?_;rw[uX];refine aC (bA krx atS) |>.mpr ?_;rw[uX];refine bI (λb=>bR b 0 4 4) (aH (bp n)) 5 (λ_=>by kernel_rfl) (Own.start w) λd e a=>?_;rw[vG (l:=bp n) atM atS atB (a.sl 0 rfl 1 4 4 rfl)];exact c _ _ ⟨rfl,a.done⟩
theorem Ro (n:Nat)(w:ao):Ret ah 129 #[.int .u32 (n:Int)] w (λv w'=>v=ae (bp n)∧Below w.heap.size w w'):=by
 refine aL λK c=>AF ?_;unfold rC nz;rw[EB dc,show (24:Int)=((24:Nat):Int) from rfl,shrU dc];refine aC (bA krx atS) |>.mpr ?_;rw[uX,EB dc,show (16:Int)=((16:Nat):Int) from rfl,shrU dc];refine aC (bA krx atS) |>.mpr ?_;rw[uX,EB dc,show (8:Int)=((8:Nat):Int) from rfl,shrU dc];refine aC (bA krx atS) |>.mpr ?_;rw[uX];refine aC (bA krx atS) |>.mpr ?_;rw[uX];refine bI (λb=>bR b 0 4 4) (aH (bp n)) 5 (λ_=>by kernel_rfl) (Own.start w) λd e a=>?_;rw[vG (l:=bp n) atM atS atB (a.sl 0 rfl 1 4 4 rfl)];exact c _ _ ⟨rfl,a.done⟩
theorem get0 {s:List UInt8}(h:i < s.length):s[i]?=ax (s.getD i 0):=by
 rw[atD,atI h];rfl
theorem QR (s:List UInt8)(w:ao)(l:s.length<=1000000000):Ret ah 238 #[ae s] w (λv w'=>v=ad (if s.length < 2 then 4 else if mf (s.getD 0 0).toNat (s.getD 1 0).toNat=av then 3 else 0)∧Below w.heap.size w w'):=by
 refine aL λK d=>Ie ?_;unfold FJ nz;rw[cZ atB]
 try simp only[rs]
 by_cases e:s.length < 2
 ·rw[asU e] at d;simp only[show ai ((s.length:Int) < 2)=av from atA om,i_t];exact d _ _ ⟨rfl,Below.refl _ _⟩
 rw[asT e] at d;simp only[show ai ((s.length:Int) < 2)=au from asZ om,i_f];refine quiet (q_ix (c:=s.getD 0 0) atB dc (get0 om) (gr _ (λ_=>bA krx auQ) (q_ix (c:=s.getD 1 0) atB dc (get0 om) (gr _ (λ_=>bA krx auQ) ?_))));intro m hw;have f:=avI (s.getD 0 0);have g:=avI (s.getD 1 0);generalize (s.getD 0 0).toNat=a at f d;generalize (s.getD 1 0).toNat=b at g d;rw[show IntKind.i64.wrap (a:Int)=(a:Int) from aA om om,show IntKind.i64.wrap (b:Int)=(b:Int) from aA om om];rw[Xt,anC om];unfold mf at d
 try simp only[rs]
 by_cases h:a % 16=8
 case neg=>
  simp only[show ai (((a % 16:Nat):Int)≠8)=av from atA om,rs];rw[asU (by simp[h])] at d;exact d _ _ ⟨rfl,hw⟩
 simp only[show ai (((a % 16:Nat):Int)≠8)=au from asZ om,rs];rw[EB dc,show ((a:Nat):Int).fdiv (2 ^ (min (4:Int).toNat IntKind.i64.bits))=((a / 2 ^ 4:Nat):Int) from RH a 4]
 try simp only[rs]
 by_cases i:7 < a / 16
 ·simp only[show ai ((7:Int) < ((a / 2 ^ 4:Nat):Int))=av from atA om,rs];rw[asU (by simp[i])] at d;exact d _ _ ⟨rfl,hw⟩
 simp only[show ai ((7:Int) < ((a / 2 ^ 4:Nat):Int))=au from asZ om,rs];rw[Fa dc,show min (8:Int).toNat IntKind.i64.bits=8 from rfl,show (a:Int)*2 ^ 8=((a*256:Nat):Int) by push_cast;rfl,aA om om]
 try simp only[rs]
 rw[b_or,or64 f g,Di dc,show ((256*a+b:Nat):Int).tmod 31=(((256*a+b) % 31:Nat):Int) from rfl]
 try simp only[rs]
 by_cases j:(256*a+b) % 31=0
 case neg=>
  simp only[show ai ((((256*a+b) % 31:Nat):Int)≠0)=av from atA om,rs];rw[asU (by simp[j])] at d;exact d _ _ ⟨rfl,hw⟩
 simp only[show ai ((((256*a+b) % 31:Nat):Int)≠0)=au from asZ om,rs];rw[Xt,apY om]
 try simp only[rs]
 by_cases k:b / 32 % 2=0
 case neg=>
  simp only[show ai (((b / 32 % 2*32:Nat):Int)≠0)=av from atA om,rs];rw[asU (by simp[k])] at d;exact d _ _ ⟨rfl,hw⟩
 simp only[show ai (((b / 32 % 2*32:Nat):Int)≠0)=au from asZ om,rs];rw[asT (by simp[h,i,j,k])] at d;exact d _ _ ⟨rfl,hw⟩
theorem RL (s:List UInt8)(most:Int)(M:Mem)(w:ao)(f:Rp M)(g:Od M)(p:s.length<=1000000000)(l:M.has w) :
  jJ ah 192 #[ae s,ad most] M w (λv _=>v=zlT (ir s most)∧(ir s most).1.length<=1048576):=by
 refine aU l λK c=>IQ ?_;generalize a:ir s most=X at c;unfold ir at a;unfold Gd nz;have b:cH M.A w w [.mem M]:=cH.memS l;refine aJ b (QR s w p) ?_;rintro _ q rfl b;simp only[eF];by_cases m:s.length < 2
 ·rw[asU m] at a ⊢;simp only[show ai ((4:Int)≠0)=av from rfl,i_t];exact c _ _ M _ 0 b rfl M.le_refl ⟨by rw[<-a];rfl,by rw[<-a];exact atU _⟩
 rw[asT m] at a ⊢;by_cases n:mf (s.getD 0 0).toNat (s.getD 1 0).toNat=av
 ·rw[asU n] at a ⊢;simp only[show ai ((3:Int)≠0)=av from rfl,i_t];exact c _ _ M _ 0 b rfl M.le_refl ⟨by rw[<-a];rfl,by rw[<-a];exact atU _⟩
 rw[asT n] at a ⊢;simp only[show ai ((0:Int)≠0)=au from rfl,i_f];dsimp only at a;rw[yY atB dc om,show (2:Int).toNat=2 from rfl];refine bG b 0 rfl (abX (s.drop 2) most M q f g (by rw[atG];omega) (b.hasM 0 rfl)) ?_;rintro _ N w2 g1 ⟨rfl,hu,i⟩ b;generalize ko (s.drop 2) most=r at a hu i;obtain⟨t,u,e⟩:=r;dsimp only at a hu i;rw[atG] at hu;simp only[flT,ex,eF];by_cases he:e=0
 case neg=>
  rw[asU he] at a;simp only[atA (show e≠0 from he),i_t];exact c _ _ N _ 0 b rfl g1 ⟨by rw[<-a];rfl,by rw[<-a];exact atU _⟩
 rw[asT (by rw[he];decide)] at a;simp only[asZ (show ¬e≠0 by rw[he];decide),i_f];rw[cZ atB,atG]
 try simp only[rs]
 rw[aA om om];by_cases o:s.length < 2+u+4
 ·rw[asU o] at a;simp only[show ai (((s.length - 2:Nat):Int) - (u:Int) < 4)=av from atA om,i_t];exact c _ _ N _ 0 b rfl g1 ⟨by rw[<-a];rfl,by rw[<-a];exact atU _⟩
 rw[asT o] at a;simp only[show ai (((s.length - 2:Nat):Int) - (u:Int) < 4)=au from asZ om,i_f];refine cQ (λW=>cH M.A w W [.mem N]) b.drew ?_;refine nF ?_;rw[aA om om];refine gr _ (λ_=>mY atB om om (by rw[atG];omega)) ?_;refine iH _ (λW h=>(Ts t W om).mono λv w' ⟨j,k⟩=>⟨j,h.grow k⟩) ?_;refine iH _ (λW h=>(PD (fq t) W).mono λv w' ⟨j,k⟩=>⟨j,h.grow k⟩) ?_;refine Xm ?_;intro w3 b;rw[show ((u:Int)+4).toNat - ((u:Nat):Int).toNat=4 by omega,atC,awS];by_cases d:(s.drop (2+u)).take 4=bp (fq t)
 case neg=>
  rw[asU d] at a;simp only[atA (show (s.drop (2+u)).take 4≠bp (fq t) from d),i_t];exact c _ _ N _ 0 b rfl g1 ⟨by rw[<-a];rfl,by rw[<-a];exact atU _⟩
 rw[asT (by rw[d];simp)] at a;simp only[asZ (show ¬(s.drop (2+u)).take 4≠bp (fq t) by rw[d];simp),i_f];exact c _ _ N _ 0 b rfl g1 ⟨by rw[<-a];rfl,by rw[<-a];exact i⟩
end
section
namespace Eng
open Go.RowKit
def MkIs (w:ao)(E:TypeId)(b:Nat)(l:List UInt8):Prop:=∃rest:List aq,w.heap[b]?=ax (.cells (aH l++rest).toArray E (l.length+rest.length,l.length+rest.length+1))
def Ent.mkr (E:TypeId)(b:Nat)(l:List UInt8):Ent:=
 ⟨λk=>k=b,λw=>MkIs w E b l,λ{w w'} h k=>by obtain⟨rest,h⟩:=h;exact⟨rest,(k b rfl).trans h⟩,λ{w} h k a=>by obtain⟨rest,h⟩:=h;cases a;exact dY h⟩
theorem gR (l:List UInt8):(aH l).length=l.length:=by simp[aH]
theorem M7 {E:TypeId}{l:List UInt8}(h:(Ent.mkr E b l).is w)(a:(aH l)[i]?=ax v):w.cell? ⟨b,i,aw⟩=ax v:=by
 obtain⟨rest,h⟩:=h;have:(aH l++rest)[i]?=ax v:=by rw[avK (atT.1 a).1];exact a
 simp[World.cell?,h,this]
theorem UO {E:TypeId}{l:List UInt8}(h:(Ent.mkr E b l).is w):Sl w (bR b 0 l.length cap) 1 l.length (aH l):=
 ⟨by rw[gR,atY],ax ⟨b,0,aw⟩,cap,rfl,(λh=>by cases h),λp hp=>by cases hp;exact⟨λ_=>rfl,λj u a=>by rw[atK];exact M7 h a⟩⟩
section
variable {S:Nat->Prop}{P:Program}{w w0:ao}{L:List Ent}{PK:PKT}{K:VWP}
theorem GN {T E:TypeId}{l:List UInt8}(c:P.underlying T=ax .string)(hd:P.underlying D=ax (.slice E))(he:P.underlying E=ax (.int .u8))(d:cH S w0 w L)
  (k:∀b cap w',cH S w0 w' (.mkr E b l::L)->K (bR b 0 l.length cap) w'):DoX P (fZ T D (ae l)) w PK K:=by
 have a:=Go.Lib.run_convert_string_bytes (P:=P) w T D E ⟨l.toArray⟩ c hd he;rw[dC] at a;refine kW (bQ a) (k _ _ _ ?_);refine d.add ⟨?_,?_,?_,?_,?_⟩ (.mkr E w.heap.size l) ?_ (λk f=>by cases f;exact atE _)
 ·unfold Go.Lib.bytesWorld World.freeze;split<;>rfl
 ·unfold Go.Lib.bytesWorld World.freeze;split<;>rfl
 ·unfold Go.Lib.bytesWorld World.freeze;split<;>rfl
 ·rw[Go.Lib.bytesWorld_size];omega
 ·intro j g _;exact Go.Lib.bytesWorld_at_old w E _ j g
 ·refine⟨(Array.replicate (grownCap w l.length 0 E - l.length) (Value.int .u8 0)).toList,?_⟩;have:=Go.Lib.bytesWorld_at_new w E ⟨l.toArray⟩;rw[this];have e:Go.Lib.bytesCells w E ⟨l.toArray⟩=(aH l++(Array.replicate (grownCap w l.length 0 E - l.length) (Value.int .u8 0)).toList).toArray:=by
   unfold Go.Lib.bytesCells;rw[dC];apply Array.ext';simp[aH]
  rw[e];simp[aH]
theorem Wn (i:Nat){T E:TypeId}{off:Nat}{l:List UInt8}{c:UInt8}(h:cH S w0 w L)(hi:L[i]?=ax (.mkr E b l))(t:(P.info? T).map (·.size)=ax 1)(a:off < l.length)
  (k:∀w',cH S w0 w' (L.set i (.mkr E b (l.set off c)))->K undef w'):DoX P (aV T (af b off) (.int .u8 (c.toNat:Int))) w PK K:=by
 obtain⟨rest,g⟩:=(show MkIs w E b l from h.at_ i hi);have d:=M7 (h.at_ i hi) (i:=off) (v:=.int .u8 (l[off].toNat:Int)) (by simp[aH,a]);have m:w.frozen? ⟨b,off,aw⟩=false:=by
  unfold World.frozen?;rw[g];simp;omega
 have n:=run_storeCells_cells (P:=P) b off [.int .u8 (c.toNat:Int)] 0 w (λj o=>by
  have:j=0:=by simpa using o
  subst this;exact (congrArg Option.isSome d)) (λj o=>by
  have:j=0:=by simpa using o
  subst this;exact m) (λv u=>by rw[auB.1 u];rfl)
 obtain⟨ii,p,x⟩:=avM.1 t;have f:(Instr.storeAt T (af b off) (.int .u8 (c.toNat:Int))).run P w=.ok () (w.setCells b (off+0) [.int .u8 (c.toNat:Int)]):=by
  have y:(Value.int .u8 (c.toNat:Int)).cells=#[Value.int .u8 (c.toNat:Int)]:=rfl;simp[Instr.storeAt,Instr.sureAddr,storeVar,y,sizeOf,typeInfo,p,x,n]
 refine D7 (JJ f) (k _ ?_);have s:b < w.heap.size:=dY g;have z:w.setCells b (off+0) [.int .u8 (c.toNat:Int)]=w.setCell ⟨b,off,aw⟩ (.int .u8 (c.toNat:Int)):=rfl;rw[z];refine h.put i hi (w':=w.setCell ⟨b,off,aw⟩ (.int .u8 (c.toNat:Int))) ⟨rfl,rfl,rfl,by simp[World.setCell],λk _ q=>?_⟩ (.mkr E b (l.set off c)) ⟨rest,?_⟩ (λk q=>.inl q)
 ·have r:k≠b:=λe=>q e;simp[World.setCell,aAm,Ne.symm r]
 ·have A:w.heap[b]=.cells (aH l++rest).toArray E (l.length+rest.length,l.length+rest.length+1):=(azC.1 g).2;simp only[World.setCell,aAm,asU,g,ayO,ayT,axI,if_false,avS]
  congr 2
  apply Array.ext';simp only[Array.toList_setIfInBounds];rw[List.set_append_left _ _ (by rw[gR];exact a)];simp[aH,ayX]
end
end Eng
end
section
open Eng
def Fh(t0 w)(K:KT):=nz f149 1 [] [] [(2,25)] (zg [0] [t0]) w K
theorem IU:Fh t0 w k0->Calls ah 149 #[t0] w k0:=cw func149
def BI(t0 w)(K:KT):=nz f82 1 [] [] [] (zg [0] [t0]) w K
theorem EO:BI t0 w k0->Calls ah 82 #[t0] w k0:=cw func82
def FP(t0 w)(K:KT):=nz f231 1 [] [] [] (zg [0] [t0]) w K
theorem Is:FP t0 w k0->Calls ah 231 #[t0] w k0:=cw func231
def AY(t0 t1 w)(K:KT):=nz f316 1 [] [] [] (zg [0,1] [t0,t1]) w K
theorem FR:AY t0 t1 w k0->Calls ah 316 #[t0,t1] w k0:=cw func316
def fM(t8 t23 w)(N1:JT)(K:KT):=nz f286 983 [N1] [nh 9 [8,23]] [] (zg [8,23] [t8,t23]) w K
def iZ(t7 t8 t22 t23 w)(N1:JT)(K:KT):=nz f286 87 [N1] [nh 9 [8,23],(16,[8],λs v j w f=>fM (vg v 0) (s 23) w (f 0) K)] [] (zg [7,8,22,23] [t7,t8,t22,t23]) w K
def Bn(t0 t1 t2 w)(K:KT):=nz f286 1 [] [(9,[8,23],λs v j w f=>iZ (s 7) (vg v 0) (s 22) (vg v 1) w (f 0) K)] [] (zg [0,1,2] [t0,t1,t2]) w K
theorem EY:Bn t0 t1 t2 w k0->Calls ah 286 #[t0,t1,t2] w k0:=cz [(8,[8])] [(4,[8,23])] func286
def Hu(t0 t1 w)(K:KT):=nz f285 1 [] [] [] (zg [0,1] [t0,t1]) w K
theorem KI:Hu t0 t1 w k0->Calls ah 285 #[t0,t1] w k0:=cw func285
def tV(t0 t1 t2 w)(K:KT):=nz f263 1 [] [] [(1,21)] (zg [0,1,2] [t0,t1,t2]) w K
theorem Cb:tV t0 t1 t2 w k0->Calls ah 263 #[t0,t1,t2] w k0:=cw func263
def oH(t1 t2 t5 t13 t14 t15 w)(N1:JT)(K:KT):=nz f233 43 [N1] [nh 7 [15]] [] (zg [1,2,5,13,14,15] [t1,t2,t5,t13,t14,t15]) w K
def rM(t0 t1 w)(K:KT):=nz f233 1 [] [(7,[15],λs v j w f=>oH (s 1) (s 2) (s 5) (s 13) (s 14) (vg v 0) w (f 0) K)] [] (zg [0,1] [t0,t1]) w K
theorem Ay:rM t0 t1 w k0->Calls ah 233 #[t0,t1] w k0:=cz [] [(3,[15])] func233
def nL(t1 t2 t7 t8 w)(N1:JT)(K:KT):=nz f240 11 [N1] [nh 5 [8]] [(4,11)] (zg [1,2,7,8] [t1,t2,t7,t8]) w K
def rR(t0 t1 w)(K:KT):=nz f240 1 [] [(5,[8],λs v j w f=>nL (s 1) (s 2) (s 7) (vg v 0) w (f 0) K)] [] (zg [0,1] [t0,t1]) w K
theorem An:rR t0 t1 w k0->Calls ah 240 #[t0,t1] w k0:=cz [] [(2,[8])] func240
def uN(t3 t6 t7 t8 w)(N1:JT)(K:KT):=nz f264 43 [N1] [nh 7 [3,8]] [] (zg [3,6,7,8] [t3,t6,t7,t8]) w K
def zA(t0 w)(K:KT):=nz f264 1 [] [(7,[3,8],λs v j w f=>uN (vg v 0) (s 6) (s 7) (vg v 1) w (f 0) K)] [] (zg [0] [t0]) w K
theorem Ej:zA t0 w k0->Calls ah 264 #[t0] w k0:=cz [] [(3,[3,8])] func264
def nR(t3 t4 t5 w)(N1:JT)(K:KT):=nz f234 471 [N1] [nh 9 [3,4,5]] [] (zg [3,4,5] [t3,t4,t5]) w K
def oL(t1 t3 t4 t5 w)(N1:JT)(K:KT):=nz f234 87 [N1] [nh 9 [3,4,5],(10,[3,4],λs v j w f=>nR (vg v 0) (vg v 1) (s 5) w (f 0) K)] [] (zg [1,3,4,5] [t1,t3,t4,t5]) w K
def qP(t0 w)(K:KT):=nz f234 1 [] [(9,[3,4,5],λs v j w f=>oL (s 1) (vg v 0) (vg v 1) (vg v 2) w (f 0) K)] [] (zg [0] [t0]) w K
theorem AM:qP t0 w k0->Calls ah 234 #[t0] w k0:=cz [(5,[3,4])] [(4,[3,4,5])] func234
def zV(t0 t1 t2 w)(K:KT):=nz f232 1 [] [] [] (zg [0,1,2] [t0,t1,t2]) w K
theorem Eo:zV t0 t1 t2 w k0->Calls ah 232 #[t0,t1,t2] w k0:=cw func232
def uF(t1 t6 t8 w)(N1:JT)(K:KT):=nz f190 1855 [N1] [nh 23 [1,8]] [] (zg [1,6,8] [t1,t6,t8]) w K
def sW(b c a w)(j:JT)(K:KT):=
 Au w (λS5 w=>HDo ah S5 (fZ 3 5 a) λd=>HDo ah S5 (aK 246 c) λe=>DoX ah (aT 53 1 #[(0,d)]) w (ay 6 (pk K)) λf w=>S5 w∧(DoX ah (mB .append #[53,53] 53 #[au,au] #[b,f]) w (ay 6 (pk K)) λg w=>S5 w∧(dZ ah 233 #[e,a] w (ay 6 (pk K)) λh w=>S5 w∧(DoX ah (mB .append #[53,53] 53 #[au,au] #[g,h]) w (ay 6 (pk K)) λi w=>S5 w∧(j [i] w)))))
def gY(c a b w)(q:JT)(K:KT):=
 fax 27 c 0 w K λe w=>ldx 3 e w K λf w=>bnx .sub 3 f (iN 10) w K λg w=>D9 (λr=>fax 27 c 0 w K λh w=>ldx 3 h w K λd w=>ecx .eql 3 69 2 d w K λi w=>IfX i (ldx 246 b w K λj w=>cx 233 #[j,(iN 1)] w K λk w=>apx 53 a k w K λl w=>q [l] w) (ecx .eql 3 69 15 d w K λm w=>IfX m (ldx 246 b w K λn w=>cx 234 #[n] w K λo w=>r [a,o] w) (r [a,g] w))) (λp w=>∀_:Sg,sW (p.getD 0 undef) b (p.getD 1 undef) w q K)
def kZ(b d e c a w)(N1:JT)(K:KT):=
 lnx 9 b w K λi w=>bnx .gtr 3 i (iN 0) w K λj w=>IfX j (D9 (λr=>Au w (λS3 w=>HDo ah (λ_=>True) (mFA 246 a 1) λk=>HDo ah S3 (aK 53 k) λf=>HDo ah (λ_=>True) (cT 9 b aw (ax e) aw) λg=>HDo ah (λ_=>True) (mFA 246 a 0) λh=>(DoX ah (fZ 9 53 g) w (ay 7 (pk K)) λl w=>S3 w∧(DoX ah (aV 53 h f) w (ay 7 (pk K)) λ_ w=>(HDo ah (λ_=>True) (mFA 246 a 1) λm=>DoX ah (aV 53 m l) w (ay 7 (pk K)) λ_ w=>(gY d c a w r K))))∧(DoX ah (aV 53 h f) w (ay 7 (pk K)) λ_ w=>(DoX ah (fZ 9 53 g) w (ay 7 (pk K)) λo w=>S3 w∧(HDo ah (λ_=>True) (mFA 246 a 1) λp=>DoX ah (aV 53 p o) w (ay 7 (pk K)) λ_ w=>(gY d c a w r K)))))) (λq w=>∀_:Sg,uF b e (q.getD 0 undef) w N1 K)) (dx (fZ 53 9 c) w K λn w=>K (.returned (.tuple #[n,(iN 0)])) w)
def zW(t0 t1 w)(K:KT):=nz f190 1 [] [(23,[1,8],λs v j w f=>kZ (vg v 0) (s 2) (s 6) (vg v 1) (s 9) w (f 0) K)] [] (zg [0,1] [t0,t1]) w K
theorem Ed:zW t0 t1 w k0->Calls ah 190 #[t0,t1] w k0:=cz [(12,[8]),(20,[8,10])] [(11,[1,8])] func190
def gW(b c d e a f w)(n:JT)(K:KT):=
 ldx 246 a w K λg w=>cx 240 #[g,f] w K λm w=>fax 246 a 1 w K λh w=>ldx 53 h w K λi w=>apx 53 e i w K λj w=>bnx .add 3 c d w K λk w=>slx 9 b (ax k) aw aw w K λl w=>n [l,j] w
def tR(c d b f a e w)(q:JT)(K:KT):=
 bnx .geq 3 e (iN 5) w K λj w=>IfX j (K (.returned (.tuple #[(.string ⟨#[]⟩),(iN 3)])) w) (Au w (λS4 w=>HDo ah (λ_=>True) (mFA 246 a 1) λk=>HDo ah S4 (aK 53 k) λg=>HDo ah (λ_=>True) (iA .add 3 d b) λl=>HDo ah (λ_=>True) (cT 9 c (ax b) (ax l) aw) λh=>HDo ah (λ_=>True) (mFA 246 a 0) λi=>(DoX ah (fZ 9 53 h) w (ay 10 (pk K)) λm w=>S4 w∧(DoX ah (aV 53 i g) w (ay 10 (pk K)) λ_ w=>(HDo ah (λ_=>True) (mFA 246 a 1) λn=>DoX ah (aV 53 n m) w (ay 10 (pk K)) λ_ w=>(gW c d b f a e w q K))))∧(DoX ah (aV 53 i g) w (ay 10 (pk K)) λ_ w=>(DoX ah (fZ 9 53 h) w (ay 10 (pk K)) λo w=>S4 w∧(HDo ah (λ_=>True) (mFA 246 a 1) λp=>DoX ah (aV 53 p o) w (ay 10 (pk K)) λ_ w=>(gW c d b f a e w q K))))))
def uH(t1 t6 t7 t9 t10 w)(a:JT)(K:KT):=nz f193 639 [a] [nh 23 [1,9],(32,[11],λs v j w f=>tR (s 1) (s 6) (s 7) (s 9) (s 10) (vg v 0) w (f 0) K)] [] (zg [1,6,7,9,10] [t1,t6,t7,t9,t10]) w K
def lH(t1 t2 t6 t7 w)(K:KT):=nz f193 15 [] [(23,[1,9],λs v j w f=>uH (vg v 0) (s 6) (s 7) (vg v 1) (s 10) w (f 0) K)] [] (zg [1,2,6,7] [t1,t2,t6,t7]) w K
def oT(t0 t1 w)(K:KT):=nz f193 1 [] [(8,[7],λs v j w f=>lH (s 1) (s 2) (s 6) (vg v 0) w K)] [] (zg [0,1] [t0,t1]) w K
theorem sK:oT t0 t1 w k0->Calls ah 193 #[t0,t1] w k0:=cz [(4,[7]),(16,[11])] [(11,[1,9])] func193
def uK(t0 w)(K:KT):=nz f64 1 [] [] [] (zg [0] [t0]) w K
theorem BW:uK t0 w k0->Calls ah 64 #[t0] w k0:=cw func64
def pW(t0 w)(K:KT):=nz f58 1 [] [] [] (zg [0] [t0]) w K
theorem xS:pW t0 w k0->Calls ah 58 #[t0] w k0:=cw func58
def uM(t0 w)(K:KT):=nz f247 1 [] [] [] (zg [0] [t0]) w K
theorem Bv:uM t0 w k0->Calls ah 247 #[t0] w k0:=cw func247
def pS(t0 t1 t2 w)(K:KT):=nz f198 1 [] [] [] (zg [0,1,2] [t0,t1,t2]) w K
theorem xU:pS t0 t1 t2 w k0->Calls ah 198 #[t0,t1,t2] w k0:=cw func198
def wQ(t0 t1 w)(K:KT):=nz f197 1 [] [] [] (zg [0,1] [t0,t1]) w K
theorem CZ:wQ t0 t1 w k0->Calls ah 197 #[t0,t1] w k0:=cw func197
def uT(t0 t1 t2 t3 t4 w)(K:KT):=nz f131 1 [] [] [] (zg [0,1,2,3,4] [t0,t1,t2,t3,t4]) w K
theorem Bh:uT t0 t1 t2 t3 t4 w k0->Calls ah 131 #[t0,t1,t2,t3,t4] w k0:=cw func131
def nV(d e b f c a w)(N1:JT)(K:KT):=
 lnx 53 b w K λg w=>bnx .lss 3 a g w K λh w=>IfX h (nK w (λp=>QDo ah p (mIA 53 b a) λi=>QDo ah p (aK 5 i) λj=>QCall ah p 131 #[d,e,b,a,f] λk=>QDo ah p (iA .sub 5 j k) λl=>
 ∀w,p w ->
 DoX ah (aT 53 1 #[(0,l)]) w (ay 8 (pk K)) λm w=>DoX ah (mB .append #[53,53] 53 #[au,au] #[c,m]) w (ay 8 (pk K)) λn w=>bnx .add 3 a (iN 1) w K λo w=>N1 [n,o] w)) (K (.returned c) w)
def rB(t0 t1 t2 t3 w)(K:KT):=nz f66 1 [] [(7,[9,10],λs v j w f=>nV (s 0) (s 1) (s 2) (s 3) (vg v 0) (vg v 1) w (f 0) K)] [] (zg [0,1,2,3] [t0,t1,t2,t3]) w K
theorem Aw:rB t0 t1 t2 t3 w k0->Calls ah 66 #[t0,t1,t2,t3] w k0:=cz [] [(3,[9,10])] func66
def oC(t7 t8 t9 w)(N1:JT)(K:KT):=nz f65 235 [N1] [nh 7 [7,8,9]] [] (zg [7,8,9] [t7,t8,t9]) w K
def oB(t7 t8 t9 t10 t11 t12 w)(a b:JT)(K:KT):=nz f65 2731 [nj,a,b] [nh 7 [7,8,9],nh 8 [7,8],nh 15 [11,12]] [(9,15)] (zg [7,8,9,10,11,12] [t7,t8,t9,t10,t11,t12]) w K
def nM(t0 t1 t2 t7 t8 t9 w)(N1:JT)(K:KT):=nz f65 43 [N1] [nh 7 [7,8,9],(15,[11,12],λs v j w f=>oB (s 7) (s 8) (s 9) (s 10) (vg v 0) (vg v 1) w (f 1) (f 0) K),(8,[7,8],λs v j w f=>oC (vg v 0) (vg v 1) (s 9) w (f 0) K)] [] (zg [0,1,2,7,8,9] [t0,t1,t2,t7,t8,t9]) w K
def rJ(t0 t1 t2 w)(K:KT):=nz f65 1 [] [(7,[7,8,9],λs v j w f=>nM (s 0) (s 1) (s 2) (vg v 0) (vg v 1) (vg v 2) w (f 0) K)] [] (zg [0,1,2] [t0,t1,t2]) w K
theorem AB:rJ t0 t1 t2 w k0->Calls ah 65 #[t0,t1,t2] w k0:=cz [(4,[7,8])] [(3,[7,8,9]),(7,[11,12])] func65
def lF(t2 t6 t7 t8 t9 t10 t11 w)(N1:JT)(K:KT):=nz f21 125695 [N1] [nh 29 [7,8,9]] [] (zg [2,6,7,8,9,10,11] [t2,t6,t7,t8,t9,t10,t11]) w K
def kU(t8 t11 w)(a:JT)(K:KT):=nz f21 1927935 [nj,a] [nh 29 [7,8,9],nh 46 [8,11]] [] (zg [8,11] [t8,t11]) w K
def gG(t1 t2 t6 t7 t8 t9 w)(N1:JT)(K:KT):=nz f21 2815 [N1] [nh 29 [7,8,9],(44,[11],λs v j w f=>kU (s 8) (vg v 0) w (f 0) K),(46,[8,11],λs v j w f=>lF (s 2) (s 6) (s 7) (vg v 0) (s 9) (s 10) (vg v 1) w (f 0) K)] [] (zg [1,2,6,7,8,9] [t1,t2,t6,t7,t8,t9]) w K
def oE(t0 t1 w)(K:KT):=nz f21 1 [] [(29,[7,8,9],λs v j w f=>gG (s 1) (s 2) (s 6) (vg v 0) (vg v 1) (vg v 2) w (f 0) K)] [] (zg [0,1] [t0,t1]) w K
theorem vR:oE t0 t1 w k0->Calls ah 21 #[t0,t1] w k0:=cz [(22,[11]),(23,[8,11])] [(14,[7,8,9])] func21
end
section
open Eng Go.RowKit
structure Pm where
 p:Int
 c:Int
 n:Int
def pmC (x:Pm):List Value:=[ad x.p,ad x.c,ad x.n]
def pmV (x:Pm):Value:=.agg (pmC x).toArray
abbrev pmE (b:Nat)(x:Pm):Ent:=.cells b (pmC x) 27
theorem Ol {x:Pm}:∀u∈pmC x,u.oneCell'=true:=by
 intro u hu;simp only[pmC,atL,avO,or_false] at hu;rcases hu with rfl|rfl|rfl<;>rfl
theorem Ep:I2 ah 27=ax 3:=krx
theorem szPm:(Tryz.prog.info? 27).map (·.size)=ax 3:=krx
theorem XL:kC ah 27 0=ax 0:=krx
theorem Mc:kC ah 27 1=ax 1:=krx
theorem OL:kC ah 27 2=ax 2:=krx
def Pm.known (x:Pm):Prop:=x.p=1∨x.p=2∨(10<=x.p∧x.p<=15)
def Pm.ok (x:Pm):Prop:=x.known∧1<=x.c∧1<=x.n∧x.c<=8192∧x.c*x.n<=8192
instance (x:Pm):Decidable x.known:=by unfold Pm.known;infer_instance
instance (x:Pm):Decidable x.ok:=by unfold Pm.ok;infer_instance
theorem Pm.n_le {x:Pm}(h:x.ok):x.n<=8192:=by
 obtain⟨_,a,b,_,d⟩:=h;have:1*x.n<=x.c*x.n:=Int.mul_le_mul_of_nonneg_right a om;omega
theorem Pm.mul_pos {x:Pm}(h:x.ok):1<=x.c*x.n:=by
 obtain⟨_,a,b,_,d⟩:=h;have:1*1<=x.c*x.n:=Int.mul_le_mul a b om om;omega
section
variable {w:ao}{PK:PKT}{K:VWP}{S:Nat->Prop}{w0:ao}{L:List Ent}
theorem Ar (x:Pm)(a:cH S w0 w L)(k:∀b w',cH S w0 w' (pmE b x::L)->K (af b 0) w'):DoX ah (Hr 27 (pmV x)) w PK K:=
 bI (λb=>af b 0) (pmC x) 27 (λ_=>by kernel_rfl) a k
theorem I6 (a:cH S w0 w L)(j:Nat){x:Pm}(hi:L[j]?=ax (pmE b x)):DoX ah (aK 27 (af b 0)) w PK K=K (pmV x) w:=Jn (a.agg j hi Ep)
theorem EN (a:cH S w0 w L)(j:Nat){x:Pm}(hi:L[j]?=ax (pmE b x)):DoX ah (aK 3 (af b (0+0))) w PK K=K (ad x.p) w:=aR bZ (a.cell j hi 0 rfl)
theorem pm_1 (a:cH S w0 w L)(j:Nat){x:Pm}(hi:L[j]?=ax (pmE b x)):DoX ah (aK 3 (af b (0+1))) w PK K=K (ad x.c) w:=aR bZ (a.cell j hi 1 rfl)
theorem pm_2 (a:cH S w0 w L)(j:Nat){x:Pm}(hi:L[j]?=ax (pmE b x)):DoX ah (aK 3 (af b (0+2))) w PK K=K (ad x.n) w:=aR bZ (a.cell j hi 2 rfl)
theorem E9 {off:Nat}:DoX ah (mFA 27 (af b off) 0) w PK K=K (af b (off+0)) w:=aO XL
theorem fpm1 {off:Nat}:DoX ah (mFA 27 (af b off) 1) w PK K=K (af b (off+1)) w:=aO Mc
theorem fpm2 {off:Nat}:DoX ah (mFA 27 (af b off) 2) w PK K=K (af b (off+2)) w:=aO OL
end
theorem Ru {x:Pm}(h:(pmE b x).is W):(aK 3 (af b (0+1))).run ah W=.ok (.value (ad x.c)) W:=aB bZ (aG (T:=27) (cs:=pmC x) h rfl)
theorem Xy {x:Pm}(h:(pmE b x).is W):(aK 3 (af b (0+2))).run ah W=.ok (.value (ad x.n)) W:=aB bZ (aG (T:=27) (cs:=pmC x) h rfl)
theorem Nh (x:Pm)(w:ao):Ret ah 149 #[pmV x] w (λv w'=>v=.bool (decide x.ok)∧Below w.heap.size w w'):=by
 refine aL λK o=>IU ?_;unfold Fh nz;refine Ar x (Own.start w) λb q d=>?_;rw[E9,EN d 0 rfl];have no:∀{W:ao},¬x.ok->Below w.heap.size w W->K (.returned (.bool au)) W:=λh hw=>o _ _ ⟨by rw[asZ h],hw⟩;have rest:x.known->nK q (λa=>
   QDo ah a (mFA 27 (af b 0) 1) λt24=>
   QDo ah a (aK 3 t24) λt25=>
   QDo ah a (iA .geq 3 t25 (ad 1)) λt26=>
   QDo ah a (cW (.bool av) t26 (.bool au)) λt27=>
   GQ t27 av (λE=>QDo ah a (mFA 27 (af b 0) 2) E) λt29=>
   GQ t27 av (λE=>QDo ah a (aK 3 t29) E) λt30=>
   GQ t27 av (λE=>QDo ah a (iA .geq 3 t30 (ad 1)) E) λt31=>
   QDo ah a (cW t27 t31 (.bool au)) λt32=>
   GQ t32 av (λE=>QDo ah a (mFA 27 (af b 0) 1) E) λt34=>
   GQ t32 av (λE=>QDo ah a (aK 3 t34) E) λt35=>
   GQ t32 av (λE=>QDo ah a (iA .leq 3 t35 (ad 8192)) E) λt36=>
   QDo ah a (cW t32 t36 (.bool au)) λt37=>
   GQ t37 av (λE=>QDo ah a (mFA 27 (af b 0) 2) E) λt39=>
   GQ t37 av (λE=>QDo ah a (aK 3 t39) E) λt40=>
   GQ t37 av (λE=>QDo ah a (mFA 27 (af b 0) 1) E) λt41=>
   GQ t37 av (λE=>QDo ah a (aK 3 t41) E) λt42=>
   GQ t37 av (λE=>QDo ah a (iA .quo 3 (ad 8192) t42) E) λt43=>
   GQ t37 av (λE=>QDo ah a (iA .leq 3 t40 t43) E) λt44=>
   QDo ah a (cW t37 t44 (.bool au)) λt45=>
   ∀w,a w->K (.returned t45) w):=by
  intro r;refine cQ (λW=>cH NoB w W [pmE b x]) d.drew ?_;refine gr _ (λ_=>bC Mc) (iL _ (λW h=>Ru (h.at_ 0 rfl)) (ajS (LO ?_)));by_cases f:1<=x.c
  case neg=>
   rw[asZ f];simp only[gq];refine Dr ?_;simp only[gq];refine Dr ?_;simp only[gq];refine Dr λW d=>?_;exact no (λh=>f h.2.1) d.done
  rw[atA f];simp only[gq];refine gr _ (λ_=>bC OL) (iL _ (λW h=>Xy (h.at_ 0 rfl)) (ajS (LO ?_)));by_cases g:1<=x.n
  case neg=>
   rw[asZ g];simp only[gq];refine Dr ?_;simp only[gq];refine Dr λW d=>?_;exact no (λh=>g h.2.2.1) d.done
  rw[atA g];simp only[gq];refine gr _ (λ_=>bC Mc) (iL _ (λW h=>Ru (h.at_ 0 rfl)) (abR (LO ?_)));by_cases i:x.c<=8192
  case neg=>
   rw[asZ i];simp only[gq];refine Dr λW d=>?_;exact no (λh=>i h.2.2.2.1) d.done
  rw[atA i];simp only[gq];refine gr _ (λ_=>bC OL) (iL _ (λW h=>Xy (h.at_ 0 rfl)) ?_);refine gr _ (λ_=>bC Mc) (iL _ (λW h=>Ru (h.at_ 0 rfl)) (apQ om (abR (LO λW d=>?_))));have s:(8192:Int).tdiv x.c=8192 / x.c:=aAr dc;have t:8192 / x.c<=8192:=Int.ediv_le_self _ dc;have u:0<=8192 / x.c:=Int.ediv_nonneg dc om;rw[s,aA om om];refine o _ _ ⟨?_,d.done⟩;have e:x.n<=8192 / x.c↔x.c*x.n<=8192:=by rw[Int.le_ediv_iff_mul_le om,Int.mul_comm]
  congr 1
  have:x.ok↔x.n<=8192 / x.c:=⟨λh=>e.2 h.2.2.2.2,λh=>⟨r,f,g,i,e.1 h⟩⟩;exact (decide_eq_decide.2 this).symm
 simp only[rs];by_cases j:x.p=1
 ·simp only[j,asX,rs,gq,nE];exact rest (.inl j)
 simp only[j,asW,rs];rw[E9,EN d 0 rfl];simp only[rs];by_cases k:x.p=2
 ·simp only[k,asX,rs,gq,nE];exact rest (.inr (.inl k))
 simp only[k,asW,rs];rw[E9,EN d 0 rfl];simp only[rs];by_cases l:10<=x.p
 ·simp only[l,asX,rs];rw[E9,EN d 0 rfl];simp only[rs];by_cases m:x.p<=15
  ·simp only[m,asX,rs,gq,nE];exact rest (.inr (.inr ⟨l,m⟩))
  ·simp only[m,asW,rs,gq,nE];refine cQ (λW=>cH NoB w W [pmE b x]) d.drew ?_;refine Dr ?_;simp only[gq];refine Dr ?_;simp only[gq];refine Dr ?_;simp only[gq];refine Dr λW d=>no (λh=>by have:=h.1;unfold Pm.known at this;omega) d.done
 ·simp only[l,asW,rs,gq,nE];refine cQ (λW=>cH NoB w W [pmE b x]) d.drew ?_;refine Dr ?_;simp only[gq];refine Dr ?_;simp only[gq];refine Dr ?_;simp only[gq];refine Dr λW d=>no (λh=>by have:=h.1;unfold Pm.known at this;omega) d.done
theorem L8 (x:Pm)(w:ao):Ret ah 82 #[pmV x] w (λv w'=>v=ad (if x.ok then 0 else 1)∧Below w.heap.size w w'):=by
 refine aL λK c=>EO ?_;unfold BI nz;refine Ar x (Own.start w) λb d a=>?_;rw[I6 a 0 rfl];refine aJ a (Nh x d) ?_;rintro _ w2 rfl a;simp only[rs];by_cases h:x.ok
 ·rw[asU h] at c;simp only[h,asX,auO,i_f];exact c _ _ ⟨rfl,a.done⟩
 ·rw[asT h] at c;simp only[h,asW,auN,i_t];exact c _ _ ⟨rfl,a.done⟩
theorem NG (x:Pm)(w:ao):Ret ah 231 #[pmV x] w (λv w'=>v=ad (if x.ok then x.c*x.n else 0)∧Below w.heap.size w w'):=by
 refine aL λK d=>Is ?_;unfold FP nz;refine Ar x (Own.start w) λb e a=>?_;rw[I6 a 0 rfl];refine aJ a (Nh x e) ?_;rintro _ w2 rfl a;simp only[rs];by_cases h:x.ok
 ·rw[asU h] at d;simp only[h,asX,auO,i_f];have f:=Pm.mul_pos h;have g:=h.2.2.2.2;rw[fpm1,pm_1 a 0 rfl,fpm2,pm_2 a 0 rfl];simp only[rs];rw[aA om om];exact d _ _ ⟨rfl,a.done⟩
 ·rw[asT h] at d;simp only[h,asW,auN,i_t];exact d _ _ ⟨rfl,a.done⟩
theorem HH (x:Pm)(w:ao):Ret ah 58 #[pmV x] w (λv w'=>v=ad (if x.ok then 0 else 1)∧Below w.heap.size w w'):=by
 refine aL λK f=>xS ?_;unfold pW nz;refine Ar x (Own.start w) λb g a=>?_;have no:¬x.ok->K (.returned (ad 1)) g:=λh=>f _ _ ⟨by rw[asT h],a.done⟩;rw[E9,EN a 0 rfl];simp only[rs];have rest:x.known->(DoX ah (mFA 27 (af b 0) 1) g (pk K) λt21 w=>
   DoX ah (aK 3 t21) w (pk K) λt22 w=>
   DoX ah (iA .lss 3 t22 (ad 1)) w (pk K) λt23 w=>
   GDo t23 au (λE=>DoX ah (mFA 27 (af b 0) 2) w (pk K) E) w λt25 w=>
   GDo t23 au (λE=>DoX ah (aK 3 t25) w (pk K) E) w λt26 w=>
   GDo t23 au (λE=>DoX ah (iA .lss 3 t26 (ad 1)) w (pk K) E) w λt27 w=>
   DoX ah (cW t23 (.bool av) t27) w (pk K) λt28 w=>
   GDo t28 au (λE=>DoX ah (mFA 27 (af b 0) 1) w (pk K) E) w λt30 w=>
   GDo t28 au (λE=>DoX ah (aK 3 t30) w (pk K) E) w λt31 w=>
   GDo t28 au (λE=>DoX ah (iA .gtr 3 t31 (ad 8192)) w (pk K) E) w λt32 w=>
   DoX ah (cW t28 (.bool av) t32) w (pk K) λt33 w=>
   GDo t33 au (λE=>DoX ah (mFA 27 (af b 0) 2) w (pk K) E) w λt35 w=>
   GDo t33 au (λE=>DoX ah (aK 3 t35) w (pk K) E) w λt36 w=>
   GDo t33 au (λE=>DoX ah (iA .gtr 3 t36 (ad 8192)) w (pk K) E) w λt37 w=>
   DoX ah (cW t33 (.bool av) t37) w (pk K) λt38 w=>
   GDo t38 au (λE=>DoX ah (mFA 27 (af b 0) 1) w (pk K) E) w λt40 w=>
   GDo t38 au (λE=>DoX ah (aK 3 t40) w (pk K) E) w λt41 w=>
   GDo t38 au (λE=>DoX ah (mFA 27 (af b 0) 2) w (pk K) E) w λt42 w=>
   GDo t38 au (λE=>DoX ah (aK 3 t42) w (pk K) E) w λt43 w=>
   GDo t38 au (λE=>DoX ah (iA .mul 3 t41 t43) w (pk K) E) w λt44 w=>
   GDo t38 au (λE=>DoX ah (iA .gtr 3 t44 (ad 8192)) w (pk K) E) w λt45 w=>
   DoX ah (cW t38 (.bool av) t45) w (pk K) λt46 w=>
   IfX t46 (K (.returned (ad 1)) w) (K (.returned (ad 0)) w)):=by
  intro r;rw[fpm1,pm_1 a 0 rfl];simp only[rs];by_cases i:x.c < 1
  ·simp only[i,asX,rs,nE];exact no λh=>by have:=h.2.1;omega
  simp only[i,asW,rs];rw[fpm2,pm_2 a 0 rfl];simp only[rs];by_cases j:x.n < 1
  ·simp only[j,asX,rs,nE];exact no λh=>by have:=h.2.2.1;omega
  simp only[j,asW,rs];rw[fpm1,pm_1 a 0 rfl];simp only[rs];by_cases k:8192 < x.c
  ·simp only[k,asX,rs,nE];exact no λh=>by have:=h.2.2.2.1;omega
  simp only[k,asW,rs];rw[fpm2,pm_2 a 0 rfl];simp only[rs];by_cases l:8192 < x.n
  ·simp only[l,asX,rs,nE];exact no λh=>by have:=Pm.n_le h;omega
  simp only[l,asW,rs];rw[fpm1,pm_1 a 0 rfl]
  try simp only[rs]
  rw[fpm2,pm_2 a 0 rfl];simp only[rs];have s:0<=x.c*x.n:=Int.mul_nonneg om om;have t:x.c*x.n<=8192*8192:=Int.mul_le_mul om om om om;rw[aA om om];by_cases m:8192 < x.c*x.n
  ·simp only[m,asX,rs,nE];exact no λh=>by have:=h.2.2.2.2;omega
  ·simp only[m,asW,rs];exact f _ _ ⟨by rw[asU ⟨r,om,om,om,om⟩],a.done⟩
 by_cases d:x.p=1
 ·simp only[d,ne_eq,not_true,asW,rs,nE];exact rest (.inl d)
 simp only[d,ne_eq,avD,asX,rs];rw[E9,EN a 0 rfl];simp only[rs];by_cases e:x.p=2
 ·simp only[e,ne_eq,not_true,asW,rs,nE];exact rest (.inr (.inl e))
 simp only[e,ne_eq,avD,asX,rs];rw[E9,EN a 0 rfl];simp only[rs];by_cases o:x.p < 10
 ·simp only[o,asX,rs,nE];exact no λh=>by have:=h.1;unfold Pm.known at this;omega
 simp only[o,asW,rs];rw[E9,EN a 0 rfl];simp only[rs];by_cases q:15 < x.p
 ·simp only[q,asX,rs,nE];exact no λh=>by have:=h.1;unfold Pm.known at this;omega
 ·simp only[q,asW,rs,nE];exact rest (.inr (.inr ⟨om,om⟩))
theorem UB (x:Pm)(w:ao):Ret ah 64 #[pmV x] w (λv w'=>v=ad (if x.ok then x.c*x.n else 0)∧Below w.heap.size w w'):=by
 refine aL λK d=>BW ?_;unfold uK nz;refine Ar x (Own.start w) λb e a=>?_;rw[I6 a 0 rfl];refine aJ a (HH x e) ?_;rintro _ w2 rfl a;simp only[eF];by_cases h:x.ok
 ·rw[asU h] at d ⊢;simp only[show ai ((0:Int)≠0)=au from rfl,i_f];have f:=Pm.mul_pos h;have g:=h.2.2.2.2;rw[fpm1,pm_1 a 0 rfl,fpm2,pm_2 a 0 rfl];simp only[rs];rw[aA om om];exact d _ _ ⟨rfl,a.done⟩
 ·rw[asT h] at d ⊢;simp only[show ai ((1:Int)≠0)=av from rfl,i_t];exact d _ _ ⟨rfl,a.done⟩
def cu (x:Int):Int:=max x (-x)
def mm (a b c:UInt8):UInt8:=
 let d:Int:=(a.toNat:Int)+(b.toNat:Int) - (c.toNat:Int)
 if cu (d - (a.toNat:Int))<=cu (d - (b.toNat:Int))∧cu (d - (a.toNat:Int))<=cu (d - (c.toNat:Int)) then a
 else if cu (d - (b.toNat:Int))<=cu (d - (c.toNat:Int)) then b else c
theorem CH (a b:Int)(w:ao)(d:-10000<=a∧a<=10000)(e:-10000<=b∧b<=10000):Ret ah 316 #[ad a,ad b] w (λv w'=>v=ad (cu (b - a))∧w=w'):=by
 refine aL λK c=>FR ?_;unfold AY nz;simp only[rs];rw[aA om om,aA om om,Br];exact c _ _ ⟨by unfold cu;congr 1;omega,rfl⟩
theorem He (a:Int)(w:ao)(c:-10000<=a∧a<=10000):Ret ah 247 #[ad a] w (λv w'=>v=ad (cu a)∧w=w'):=by
 refine aL λK b=>Bv ?_;unfold uM nz;simp only[rs];rw[aA om om,Br];exact b _ _ ⟨rfl,rfl⟩
section
variable {w:ao}{PK:PKT}{K:VWP}
theorem GO {c:UInt8}:DoX ah (fZ 5 3 (.int .u8 (c.toNat:Int))) w PK K=K (ad (c.toNat:Int)) w:=by
 have a:=avI c;have e:IntKind.i64.wrap (c.toNat:Int)=(c.toNat:Int):=aA om om;have:=bA (P:=ah) (S:=5) (D:=3) (k:=.u8) (n:=(c.toNat:Int)) (w:=w) krx auQ;rw[e] at this;exact aC this
end
theorem U9 (a b c:UInt8)(w:ao):Ret ah 286 #[.int .u8 (a.toNat:Int),.int .u8 (b.toNat:Int),.int .u8 (c.toNat:Int)] w (λv w'=>v=.int .u8 ((mm a b c).toNat:Int)∧w=w'):=by
 refine aL λK j=>EY ?_;unfold Bn nz;have s:=avI a;have t:=avI b;have u:=avI c;rw[GO,GO];simp only[rs];rw[GO];simp only[rs];rw[aA (n:=(a.toNat:Int)+(b.toNat:Int)) om om,aA om om];have e:∀W:ao,(aW 323 #[(0,.int .u8 (b.toNat:Int)),(1,.int .u8 (c.toNat:Int))]).run ah W=.ok (.value (.agg #[.int .u8 (b.toNat:Int),.int .u8 (c.toNat:Int)])) W:=λW=>by kernel_rfl
 refine aC (e w) |>.mpr ?_;have hp:mm a b c=(let m:=if cu ((a.toNat:Int)+(b.toNat:Int) - (c.toNat:Int) - (b.toNat:Int)) < cu ((a.toNat:Int)+(b.toNat:Int) - (c.toNat:Int) - (a.toNat:Int)) then b else a
   if cu ((a.toNat:Int)+(b.toNat:Int) - (c.toNat:Int) - (c.toNat:Int)) < cu ((a.toNat:Int)+(b.toNat:Int) - (c.toNat:Int) - (m.toNat:Int)) then c else m):=by
  unfold mm;dsimp only;generalize l:cu ((a.toNat:Int)+(b.toNat:Int) - (c.toNat:Int) - (a.toNat:Int))=A;generalize o:cu ((a.toNat:Int)+(b.toNat:Int) - (c.toNat:Int) - (b.toNat:Int))=B;generalize hC:cu ((a.toNat:Int)+(b.toNat:Int) - (c.toNat:Int) - (c.toNat:Int))=C;by_cases k:B < A
  ·rw[asU k,o,asT om];by_cases g:B<=C
   ·rw[asU g,asT om]
   ·rw[asT g,asU om]
  ·rw[asT k,l];by_cases g:C < A
   ·rw[asU g,asT om,asT om]
   ·rw[asT g,asU om]
 rw[hp] at j;dsimp only at j;generalize p:(a.toNat:Int)+(b.toNat:Int) - (c.toNat:Int)=d at j;have f:-10000<=d∧d<=10000:=om
 have q:∀W:ao,(mIx 323 (.agg #[.int .u8 (b.toNat:Int),.int .u8 (c.toNat:Int)]) (ad 0)).run ah W=.ok (.value (.int .u8 (b.toNat:Int))) W:=λW=>by kernel_rfl
 have r:∀W:ao,(mIx 323 (.agg #[.int .u8 (b.toNat:Int),.int .u8 (c.toNat:Int)]) (ad 1)).run ah W=.ok (.value (.int .u8 (c.toNat:Int))) W:=λW=>by kernel_rfl
 refine loop (λvs W=>w=W∧(vs=[.int .u8 (a.toNat:Int),ad 0]∨vs=[.int .u8 ((if cu (d - (b.toNat:Int)) < cu (d - (a.toNat:Int)) then b else a).toNat:Int),ad 1] ∨
  vs=[.int .u8 ((if cu (d - (c.toNat:Int)) < cu (d - ((if cu (d - (b.toNat:Int)) < cu (d - (a.toNat:Int)) then b else a).toNat:Int)) then c else (if cu (d - (b.toNat:Int)) < cu (d - (a.toNat:Int)) then b else a)).toNat:Int),ad 2])) (λvs _=>2 - n1 vs) ⟨rfl,.inl rfl⟩ ?_
 rintro vs _ ⟨rfl,rfl|rfl|rfl⟩ _
 ·simp only[iZ,gd,rs,nz];simp only[show ai ((0:Int) < 2)=av from rfl,i_t];refine join λJ i=>?_;refine aC (q w) |>.mpr ?_;rw[GO];refine qE (CH (b.toNat:Int) d w om f) ?_;rw[GO];refine qE (CH (a.toNat:Int) d w om f) ?_;simp only[rs];by_cases h:cu (d - (b.toNat:Int)) < cu (d - (a.toNat:Int))
  ·simp only[h,asX,i_t];refine i _ _ λ_=>?_;simp only[fM,gd,rs,nz];exact aS ⟨rfl,.inr (.inl (by rw[asU h];rfl))⟩ (by show 2 - 1 < 2 - 0;decide)
  ·simp only[h,asW,i_f];refine i _ _ λ_=>?_;simp only[fM,gd,rs,nz];exact aS ⟨rfl,.inr (.inl (by rw[asT h];rfl))⟩ (by show 2 - 1 < 2 - 0;decide)
 ·generalize (if cu (d - (b.toNat:Int)) < cu (d - (a.toNat:Int)) then b else a)=m;have hm:=avI m;simp only[iZ,gd,rs,nz];simp only[show ai ((1:Int) < 2)=av from rfl,i_t];refine join λJ i=>?_;refine aC (r w) |>.mpr ?_;rw[GO];refine qE (CH (c.toNat:Int) d w om f) ?_;rw[GO];refine qE (CH (m.toNat:Int) d w om f) ?_;simp only[rs];by_cases h:cu (d - (c.toNat:Int)) < cu (d - (m.toNat:Int))
  ·simp only[h,asX,i_t];refine i _ _ λ_=>?_;simp only[fM,gd,rs,nz];exact aS ⟨rfl,.inr (.inr (by rw[asU h];rfl))⟩ (by show 2 - 2 < 2 - 1;decide)
  ·simp only[h,asW,i_f];refine i _ _ λ_=>?_;simp only[fM,gd,rs,nz];exact aS ⟨rfl,.inr (.inr (by rw[asT h];rfl))⟩ (by show 2 - 2 < 2 - 1;decide)
 ·simp only[iZ,gd,rs,nz];simp only[show ai ((2:Int) < 2)=au from rfl,i_f];exact j _ _ ⟨rfl,rfl⟩
theorem OP (a b c:UInt8)(w:ao):Ret ah 198 #[.int .u8 (a.toNat:Int),.int .u8 (b.toNat:Int),.int .u8 (c.toNat:Int)] w (λv w'=>v=.int .u8 ((mm a b c).toNat:Int)∧w=w'):=by
 refine aL λK d=>xU ?_;unfold pS nz;unfold mm at d;dsimp only at d;have k:=avI a;have l:=avI b;have m:=avI c;rw[GO,GO];simp only[rs];rw[GO];simp only[rs];rw[aA (n:=(a.toNat:Int)+(b.toNat:Int)) om om,aA om om,GO];generalize j:(a.toNat:Int)+(b.toNat:Int) - (c.toNat:Int)=f at d ⊢;have i:-1000<=f∧f<=1000:=om
 try simp only[rs]
 rw[aA om om];refine qE (He (f - (a.toNat:Int)) w om) ?_;rw[GO]
 try simp only[rs]
 rw[aA om om];refine qE (He (f - (b.toNat:Int)) w om) ?_;rw[GO]
 try simp only[rs]
 rw[aA om om];refine qE (He (f - (c.toNat:Int)) w om) ?_;generalize cu (f - (a.toNat:Int))=A at d ⊢;generalize cu (f - (b.toNat:Int))=B at d ⊢;generalize cu (f - (c.toNat:Int))=C at d ⊢;simp only[rs];by_cases g:A<=B
 ·simp only[g,asX,rs];by_cases h:A<=C
  ·simp only[h,asX,rs];rw[asU ⟨g,h⟩] at d;exact d _ _ ⟨rfl,rfl⟩
  ·simp only[h,asW,rs];rw[asT om] at d;by_cases e:B<=C
   ·simp only[e,asX,i_t];rw[asU e] at d;exact d _ _ ⟨rfl,rfl⟩
   ·simp only[e,asW,i_f];rw[asT e] at d;exact d _ _ ⟨rfl,rfl⟩
 ·simp only[g,asW,rs,nE];rw[asT om] at d;by_cases e:B<=C
  ·simp only[e,asX,i_t];rw[asU e] at d;exact d _ _ ⟨rfl,rfl⟩
  ·simp only[e,asW,i_f];rw[asT e] at d;exact d _ _ ⟨rfl,rfl⟩
def fl (l:List UInt8)(i:Int):UInt8:=if i < 0∨(l.length:Int)<=i then 0 else l.getD i.toNat 0
theorem QC (l:List UInt8)(v:aq)(i:Int)(w:ao)(d:Sl w v 1 l.length (aH l)):Ret ah 285 #[v,ad i] w (λr w'=>r=.int .u8 ((fl l i).toNat:Int)∧w=w'):=by
 refine aL λK a=>KI ?_;unfold Hu nz;unfold fl at a;simp only[rs];by_cases b:i < 0
 ·simp only[b,asX,rs,nE];rw[asU (.inl b)] at a;exact a _ _ ⟨rfl,rfl⟩
 simp only[b,asW,rs];rw[aZ atM d];simp only[rs];by_cases c:(l.length:Int)<=i
 ·simp only[c,asX,rs];rw[asU (.inr c)] at a;exact a _ _ ⟨rfl,rfl⟩
 simp only[c,asW,rs];rw[asT om] at a;obtain⟨n,rfl⟩:∃n:Nat,i=(n:Int):=⟨i.toNat,om⟩;have e:n < l.length:=om
 obtain⟨h,off,f,g⟩:=R8 d e;refine aC (f w) |>.mpr (aC (aB M1 g) |>.mpr ?_);rw[atC,atD,atI e] at a;exact a _ _ ⟨rfl,rfl⟩
theorem Ke (l:List UInt8)(v:aq)(i:Int)(w:ao)(d:Sl w v 1 l.length (aH l)):Ret ah 197 #[v,ad i] w (λr w'=>r=.int .u8 ((fl l i).toNat:Int)∧w=w'):=by
 refine aL λK a=>CZ ?_;unfold wQ nz;unfold fl at a;simp only[rs];by_cases b:i < 0
 ·simp only[b,asX,rs,nE];rw[asU (.inl b)] at a;exact a _ _ ⟨rfl,rfl⟩
 simp only[b,asW,rs];rw[aZ atM d];simp only[rs];by_cases c:(l.length:Int)<=i
 ·simp only[c,asX,rs];rw[asU (.inr c)] at a;exact a _ _ ⟨rfl,rfl⟩
 simp only[c,asW,rs];rw[asT om] at a;obtain⟨n,rfl⟩:∃n:Nat,i=(n:Int):=⟨i.toNat,om⟩;have e:n < l.length:=om
 obtain⟨h,off,f,g⟩:=R8 d e;refine aC (f w) |>.mpr (aC (aB M1 g) |>.mpr ?_);rw[atC,atD,atI e] at a;exact a _ _ ⟨rfl,rfl⟩
def du (tag:Int)(above row:List UInt8)(i colors:Int):UInt8:=
 if tag=1 then fl row (i - colors)
 else if tag=2 then fl above i
 else if tag=3 then UInt8.ofNat (((fl row (i - colors)).toNat+(fl above i).toNat) / 2)
 else if tag=4 then mm (fl row (i - colors)) (fl above i) (fl above (i - colors))
 else 0
def rwC (a r:aq)(c:Int):List Value:=[a,r,ad c]
def rwV (a r:aq)(c:Int):Value:=.agg (rwC a r c).toArray
abbrev rwE (b:Nat)(a r:aq)(c:Int):Ent:=.cells b (rwC a r c) 246
theorem YY {a r:aq}{c:Int}(b:a.oneCell'=av)(d:r.oneCell'=av):∀u∈rwC a r c,u.oneCell'=true:=by
 intro u hu;simp only[rwC,atL,avO,or_false] at hu;rcases hu with rfl|rfl|rfl
 ·exact b
 ·exact d
 ·rfl
theorem OC:I2 ah 246=ax 3:=krx
theorem szRw:(Tryz.prog.info? 246).map (·.size)=ax 3:=krx
theorem Sq:kC ah 246 0=ax 0:=krx
theorem yZ:kC ah 246 1=ax 1:=krx
theorem adI:kC ah 246 2=ax 2:=krx
theorem kT {n:Nat}(h:Sl w v sz n cs):v.oneCell'=true:=by
 obtain⟨_,a,cap,rfl,_⟩:=h;rfl
theorem Yx {a r:aq}{c:Int}(h:(rwE b a r c).is W):(aK 53 (af b (0+0))).run ah W=.ok (.value a) W:=aB GK (aG (T:=246) (cs:=rwC a r c) h rfl)
theorem A3 {a r:aq}{c:Int}(h:(rwE b a r c).is W):(aK 53 (af b (0+1))).run ah W=.ok (.value r) W:=aB GK (aG (T:=246) (cs:=rwC a r c) h rfl)
theorem XK {a r:aq}{c:Int}(h:(rwE b a r c).is W):(aK 3 (af b (0+2))).run ah W=.ok (.value (ad c)) W:=aB bZ (aG (T:=246) (cs:=rwC a r c) h rfl)
theorem ajJ (x y:UInt8):IntKind.u8.wrap (IntKind.i64.wrap (((x.toNat+y.toNat:Nat):Int).tdiv 2))=((UInt8.ofNat ((x.toNat+y.toNat) / 2)).toNat:Int):=by
 have a:=avI x;have b:=avI y;rw[show ((x.toNat+y.toNat:Nat):Int).tdiv 2=(((x.toNat+y.toNat) / 2:Nat):Int) from rfl,aA om om,uX]
theorem SN (tag:Int)(above row:List UInt8)(va vr:aq)(i colors:Int)(w:ao)(hi:0<=i∧i<=1000000)(o:1<=colors∧colors<=1000000)(j:Sl w va 1 above.length (aH above))(k:Sl w vr 1 row.length (aH row)) :
  Ret ah 263 #[rwV va vr colors,ad tag,ad i] w (λr w'=>r=.int .u8 ((du tag above row i colors).toNat:Int)∧Below w.heap.size w w'):=by
 refine aL λK a=>Cb ?_;unfold tV nz;unfold du at a;have l:=kT j;have m:=kT k;have n:∀W:ao,(Hr 246 (rwV va vr colors)).run ah W=.ok (.value (af W.heap.size 0)) (W.alloc (.cells (rwC va vr colors).toArray 246)):=λW=>by
  cases va<;>first|(cases l;done)|skip
  all_goals cases vr<;>first|(cases m;done)|kernel_rfl
 refine bI (λb=>af b 0) (rwC va vr colors) 246 n (Own.start w) λb p e=>?_;refine cQ (λW=>cH NoB w W [rwE b va vr colors]) e.drew ?_;refine gr _ (λ_=>bC yZ) (iL _ (λW h=>A3 (h.at_ 0 rfl)) (gr _ (λ_=>bC adI) (iL _ (λW h=>XK (h.at_ 0 rfl)) (gr _ (λ_=>Ck) ?_))));rw[aA om om];refine iH _ (λW h=>(QC row vr (i - colors) W (cH.Qz h k)).mono λv w' ⟨c,d⟩=>⟨c,d▸h⟩) ?_;refine gr _ (λ_=>bC Sq) (iL _ (λW h=>Yx (h.at_ 0 rfl)) ?_);refine iH _ (λW h=>(QC above va i W (cH.Qz h j)).mono λv w' ⟨c,d⟩=>⟨c,d▸h⟩) ?_;refine gr _ (λ_=>bC Sq) (iL _ (λW h=>Yx (h.at_ 0 rfl)) ?_);refine gr _ (λ_=>bC adI) (iL _ (λW h=>XK (h.at_ 0 rfl)) (gr _ (λ_=>Ck) ?_));rw[aA om om];refine iH _ (λW h=>(QC above va (i - colors) W (cH.Qz h j)).mono λv w' ⟨c,d⟩=>⟨c,d▸h⟩) ?_;intro w2 e;generalize fl row (i - colors)=x at a ⊢;generalize fl above i=y at a ⊢;generalize fl above (i - colors)=z at a ⊢;have q:=avI x;have s:=avI y;simp only[rs];by_cases c:tag=1
 ·simp only[c,asX,i_t];rw[asU c] at a;exact a _ _ ⟨rfl,e.done⟩
 simp only[c,asW,i_f];rw[asT c] at a
 try simp only[rs]
 by_cases d:tag=2
 ·simp only[d,asX,i_t];rw[asU d] at a;exact a _ _ ⟨rfl,e.done⟩
 simp only[d,asW,i_f];rw[asT d] at a
 try simp only[rs]
 by_cases f:tag=3
 ·simp only[f,asX,i_t];rw[asU f] at a;rw[GO,GO];simp only[rs];rw[aA om om,Ih dc];refine aC (bA krx atS) |>.mpr ?_;rw[show (x.toNat:Int)+(y.toNat:Int)=((x.toNat+y.toNat:Nat):Int) by omega,ajJ];exact a _ _ ⟨rfl,e.done⟩
 simp only[f,asW,i_f];rw[asT f] at a
 try simp only[rs]
 by_cases g:tag=4
 ·simp only[g,asX,i_t];rw[asU g] at a;refine qE (U9 x y z w2) ?_;exact a _ _ ⟨rfl,e.done⟩
 simp only[g,asW,i_f];rw[asT g] at a;exact a _ _ ⟨rfl,e.done⟩
theorem T8 (tag:Int)(above row:List UInt8)(va vr:aq)(i colors:Int)(w:ao)(hi:0<=i∧i<=1000000)(h:1<=colors∧colors<=1000000)(f:Sl w va 1 above.length (aH above))(g:Sl w vr 1 row.length (aH row)) :
  Ret ah 131 #[ad tag,va,vr,ad i,ad colors] w (λr w'=>r=.int .u8 ((du tag above row i colors).toNat:Int)∧w=w'):=by
 refine aL λK a=>Bh ?_;unfold uT nz;unfold du at a;simp only[rs];rw[aA om om];refine qE (Ke row vr (i - colors) w g) ?_;refine qE (Ke above va i w f) ?_
 try simp only[rs]
 refine qE (Ke above va (i - colors) w f) ?_;generalize fl row (i - colors)=x at a ⊢;generalize fl above i=y at a ⊢;generalize fl above (i - colors)=z at a ⊢;have j:=avI x;have k:=avI y
 try simp only[rs]
 by_cases b:tag=1
 ·simp only[b,asX,i_t];rw[asU b] at a;exact a _ _ ⟨rfl,rfl⟩
 simp only[b,asW,i_f];rw[asT b] at a
 try simp only[rs]
 by_cases c:tag=2
 ·simp only[c,asX,i_t];rw[asU c] at a;exact a _ _ ⟨rfl,rfl⟩
 simp only[c,asW,i_f];rw[asT c] at a
 try simp only[rs]
 by_cases d:tag=3
 ·simp only[d,asX,i_t];rw[asU d] at a;rw[GO,GO];simp only[rs];rw[aA om om,Ih dc];refine aC (bA krx atS) |>.mpr ?_;rw[show (x.toNat:Int)+(y.toNat:Int)=((x.toNat+y.toNat:Nat):Int) by omega,ajJ];exact a _ _ ⟨rfl,rfl⟩
 simp only[d,asW,i_f];rw[asT d] at a
 try simp only[rs]
 by_cases e:tag=4
 ·simp only[e,asX,i_t];rw[asU e] at a;refine qE (OP x y z w) ?_;exact a _ _ ⟨rfl,rfl⟩
 simp only[e,asW,i_f];rw[asT e] at a;exact a _ _ ⟨rfl,rfl⟩
end
end Go.Proofs.YtlipjfcbjemicaaGreatDoor
