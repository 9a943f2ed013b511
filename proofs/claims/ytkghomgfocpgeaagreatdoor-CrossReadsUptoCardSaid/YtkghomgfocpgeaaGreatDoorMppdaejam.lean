/- Parts of the proof. -/
import Derived.Test.YtkghomgfocpgeaaGreatDoorRows
import Derived.Test.YtkghomgfocpgeaaGreatDoorMlkccflpp
set_option linter.all false
set_option maxRecDepth 20000
open Go.Proofs.Tryz
open Go.Proofs.Tryz renaming prog->ah
open Option renaming some->ax,none->aw
open Bool renaming true->av,false->au
open Go renaming Value->aq,World->ao
open Decidable renaming decide->ai
namespace Go.Proofs.YtkghomgfocpgeaaGreatDoor
variable{D E:TypeId}{K:VWP}{M N:Eng.Mem}{P:Program}{PK:PKT}{W w:ao}{a colors:Int}{above key:List UInt8}{args ca fa:Array aq}{b cap f i j:Nat}{cb:Array Bool}{cs cur:List aq}{l:List Nat}{o:Ob}{pv t0 v v' va vc vk:aq}{q:Bool}{u:FrameMode}{x:Pm}{xo yo:Operand}{t0 t1:aq}{k0:Eng.KT}
section
open Eng Go.RowKit
def mkC (m:dh):List Value:=[ad (m.1:Int),ad (m.2.1:Int),ad (m.2.2:Int)]
def mkV (m:dh):Value:=.agg (mkC m).toArray
theorem XR (m:dh):(mkC m).length=3:=rfl
theorem YL {m:dh}:∀u∈mkC m,u.oneCell'=true:=by
 intro u hu;simp only[mkC,avB,awS,or_false] at hu;rcases hu with rfl|rfl|rfl<;>rfl
theorem akL {l:List dh}:∀u∈l.flatMap mkC,u.oneCell'=true:=Eng.Z6 λx=>YL
theorem arS:By ah 287=ax 3:=krx
theorem szMk:(Tryz.prog.info? 287).map (·.size)=ax 3:=krx
theorem elMk:elB ah 287 3 24=true:=krx
theorem aeH:uM ah 287 0=ax 0:=krx
theorem alX:uM ah 287 1=ax 1:=krx
theorem aoI:uM ah 287 2=ax 2:=krx
abbrev K7 (v:aq)(l:List dh):Ent:=.urow 287 3 v l.length (l.flatMap mkC)
theorem Yo (a:SlA M.A M.w v 1 l.length (aT l))(hi:i < l.length) :
  ∃p,(∀W,(mIA 59 v (ad (i:Int))).run ah W=.ok (.value (.pointer (ax p))) W)∧∀W,M.has W->(aG 3 (.pointer (ax p))).run ah W=.ok (.value (ad (l[i]:Int))) W:=by
 obtain⟨b,off,cap,rfl,_⟩:=bQ a.1 om;refine⟨⟨b,off+i,aw⟩,λW=>?_,λW e=>?_⟩
 ·have:=cR (P:=ah) (T:=59) (b:=b) (off:=off) (cap:=cap) (n:=l.length) (k:=.i64) (i:=(i:Int)) (w:=W) avJ TC om om;rw[auW,avQ] at this;exact this
 ·obtain⟨g,c,d,he,f⟩:=bQ (a.now e) om;cases he;refine aB aW (f i _ ?_);rw[Ig hi,auZ,auX hi];rfl
section
variable {w:ao}{PK:PKT}{S:Nat->Prop}{w0:ao}{L T:List Ent}
theorem aeY {ms new:List dh}{b:Nat}{N:VWP}(f:ms.length<=10000000)(d:new.length<=2)(a:dQ S w0 W (.cells b (new.flatMap mkC) 287::K7 v' ms::T))(k:∀v2 c,dQ S w0 c (K7 v2 (ms++new)::T)->N v2 c) :
  DoX ah (mB .append #[284,284] 284 #[au,au] #[v',cW b 0 new.length new.length]) W PK N:=by
 refine bN 1 aA3 elMk dc a rfl (a.sl 0 rfl 3 new.length new.length (by rw[Eng.Aq XR])) akL om om λv2 e a=>?_;refine k v2 e ?_;unfold K7;rw[axH,auU];exact a.tail
theorem m_mk {a c:Nat}:DoX ah (aN 287 #[(0,ad (a:Int)),(1,ad (b:Int)),(2,ad (c:Int))]) W PK K=K (mkV (a,b,c)) W:=aC krx
end
def ordV:Value:=.agg (aT db).toArray
theorem anW:By ah 288=ax 19:=krx
theorem atX:(Tryz.prog.info? 288).map (·.size)=ax 19:=krx
theorem Sb (w:ao):Ret ah 255 #[] w (λv w'=>v=ordV∧Below w.heap.size w w'):=by
 refine aL λK c=>FP ?_;unfold A2 nz;refine bB (λb=>af b 0) (List.replicate 19 (ad 0)) 288 (λ_=>by kernel_rfl) (Own.start w) λb d a=>?_;have e:∀W:ao,(aN 288 #[(0,(ad 16)),(1,(ad 17)),(2,(ad 18)),(3,(ad 0)),(4,(ad 8)),(5,(ad 7)),(6,(ad 9)),(7,(ad 6)),(8,(ad 10)),(9,(ad 5)),(10,(ad 11)),(11,(ad 4)),(12,(ad 12)),(13,(ad 3)),(14,(ad 13)),(15,(ad 2)),(16,(ad 14)),(17,(ad 1)),(18,(ad 15))]).run ah W=.ok (.value ordV) W:=λW=>by kernel_rfl
 refine aC (e d) |>.mpr ?_;refine CP 0 a rfl (new:=aT db) atX Hs (by show 0+19<=19;omega) λw2 a=>?_;exact gC (bG (a.agg (cs:=aT db) 0 rfl anW)) (c _ _ ⟨rfl,a.done⟩)
theorem apT (hi:i < 19)(W:ao):(mIx 288 ordV (ad (i:Int))).run ah W=.ok (.value (ad ((db.getD i 0:Nat):Int))) W:=by
 rcases lt19 hi with rfl|rfl|rfl|rfl|rfl|rfl|rfl|rfl|rfl|rfl|rfl|rfl|rfl|rfl|rfl|rfl|rfl|rfl|rfl<;>kernel_rfl
theorem ui {cl:List Nat}(a:∀x∈cl,x<=15):∀{l:List dh},(∀m∈l,m.2.2<=7)->(gz cl l).length<=22*l.length
|[],_=>auY _
|m::l,h=>by
  have d:=h m (axR ..);have b:=ui a (l:=l) λy c=>h y (awR _ c);have f:cl.getD m.1 0<=15:=ja a dc _;unfold gz at b ⊢;rw[ayM,auU,avR];have e:(mc cl m).length=cl.getD m.1 0+m.2.2:=by
   unfold mc;rw[auU,jj,eg]
  omega
theorem yy (cl:List Nat)(l:List dh)(m:dh):gz cl (l++[m])=gz cl l++gh cl m.1++bf m.2.1 m.2.2:=by
 unfold gz;rw[axH,ayO,avO];rfl
def ef (cl:List Nat)(k:Nat):List Nat:=(List.range k).map λi=>cl.getD (db.getD i 0) 0
theorem qn (cl:List Nat)(k:Nat):(ef cl k).length=k:=by simp[ef]
theorem xl {cl:List Nat}{k:Nat}(h:i < k):(ef cl k).getD i 0=cl.getD (db.getD i 0) 0:=by
 rw[auZ];simp[ef,h]
theorem xm (cl:List Nat)(k:Nat):ef cl (k+1)=ef cl k++[cl.getD (db.getD k 0) 0]:=by
 unfold ef;rw[azM,avT];rfl
abbrev mkE (b:Nat)(m:dh):Ent:=.cells b (mkC m) 287
theorem mkAt {l:List dh}(a:SlA M.A M.w v 3 l.length (l.flatMap mkC))(hi:i < l.length) :
  ∃p,(∀W,(mIA 284 v (ad (i:Int))).run ah W=.ok (.value (.pointer (ax p))) W)∧∀W,M.has W->(aG 287 (.pointer (ax p))).run ah W=.ok (.value (mkV l[i])) W:=by
 obtain⟨b,off,cap,rfl,_⟩:=bQ a.1 om;refine⟨⟨b,off+i*3,aw⟩,λW=>?_,λW e=>?_⟩
 ·have:=cR (P:=ah) (T:=284) (b:=b) (off:=off) (cap:=cap) (n:=l.length) (k:=.i64) (i:=(i:Int)) (w:=W) aA3 szMk om om;rw[auW] at this;exact this
 ·obtain⟨h,c,d,he,f⟩:=bQ (a.now e) om;cases he;refine bC (AtV.agg arS (cs:=mkC l[i]) rfl λj u g=>?_);rw[axK];exact f _ _ (Eng.uY XR hi g)
section
variable {w:ao}{PK:PKT}{K:VWP}{S:Nat->Prop}{w0:ao}{L T:List Ent}
theorem alP (a:dQ S w0 w L)(k:∀b w',dQ S w0 w' (mkE b (0,0,0)::L)->K (af b 0) w'):DoX ah (iM 287) w PK K:=
 bB (λb=>af b 0) (mkC (0,0,0)) 287 (λ_=>by kernel_rfl) a k
theorem afB (j:Nat){x y:dh}(a:dQ S w0 w L)(hi:L[j]?=ax (mkE b x))(k:∀w',dQ S w0 w' (L.set j (mkE b y))->K undef w') :
  DoX ah (aV 287 (af b 0) (mkV y)) w PK K:=CP j a hi (new:=mkC y) szMk YL (by show 0+3<=3;omega) k
theorem mk_0 (a:dQ S w0 w L)(j:Nat){x:dh}(hi:L[j]?=ax (mkE b x)):DoX ah (aG 3 (af b (0+0))) w PK K=K (ad (x.1:Int)) w:=aH aW (a.cell j hi 0 rfl)
theorem mk_1 (a:dQ S w0 w L)(j:Nat){x:dh}(hi:L[j]?=ax (mkE b x)):DoX ah (aG 3 (af b (0+1))) w PK K=K (ad (x.2.1:Int)) w:=aH aW (a.cell j hi 1 rfl)
theorem mk_2 (a:dQ S w0 w L)(j:Nat){x:dh}(hi:L[j]?=ax (mkE b x)):DoX ah (aG 3 (af b (0+2))) w PK K=K (ad (x.2.2:Int)) w:=aH aW (a.cell j hi 2 rfl)
end
end
end Go.Proofs.YtkghomgfocpgeaaGreatDoor


namespace Go.Proofs.YtkghomgfocpgeaaGreatDoor
variable{D E:TypeId}{K:VWP}{M N:Eng.Mem}{P:Program}{PK:PKT}{W w:ao}{a colors:Int}{above key:List UInt8}{args ca fa:Array aq}{b cap f i j:Nat}{cb:Array Bool}{cs cur:List aq}{l:List Nat}{o:Ob}{pv t0 v v' va vc vk:aq}{q:Bool}{u:FrameMode}{x:Pm}{xo yo:Operand}{t0 t1:aq}{k0:Eng.KT}
section
open Eng Go.RowKit
abbrev yz:=List UInt8×aq×List Nat
def zm (a:List yz):List (List UInt8×aq):=a.map λr=>(r.1,r.2.1)
theorem amN:(Tryz.prog.info? 59).bind (·.zero)=ax dY:=krx
section
variable {w:ao}{PK:PKT}{K:VWP}{S:Nat->Prop}{w0:ao}{L T:List Ent}
end
section
variable {w:ao}{PK:PKT}{K:VWP}{S:Nat->Prop}{w0:ao}{L T:List Ent}
theorem akZ (j:Nat){x:bt}(a:dQ S w0 w L)(hi:L[j]?=ax (ptE b x)):DoX ah (aG 271 (af b 0)) w PK K=K (ptV x) w:=AT (a.agg j hi aiG)
theorem aqF {K:Ending->ao->Prop}{x:bt}(i:Nat)(a:dQ S w0 w L)(hi:L[i]?=ax (ptE b x))(k:K (.returned (ptV x)) w):zu ah [.cell (af b 0) 271] w K:=
 gC (bG (a.agg i hi aiG)) k
end
section
variable {w:ao}{PK:PKT}{K:VWP}{S:Nat->Prop}{w0:ao}{L T:List Ent}
theorem akW (x:bt)(a:dQ S w0 w L)(k:∀b w',dQ S w0 w' (ptE b x::L)->K (cW b 0 1 1) w'):DoX ah (bJ 247 1 #[(0,ptV x)]) w PK K:=
 bB (λb=>cW b 0 1 1) (ptC x) 271 (λ_=>by kernel_rfl) a k
end
theorem elPt:elB ah 271 3 24=true:=krx
end
section
open Eng
def DJ(t0 w)(K:KT):=nz f224 1 [] [] [] (zg [0] [t0]) w K
theorem Gf:DJ t0 w k0->Calls ah 224 #[t0] w k0:=cw func224
def fP(t0 w)(K:KT):=nz f257 1 [] [] [] (zg [0] [t0]) w K
theorem nC:fP t0 w k0->Calls ah 257 #[t0] w k0:=cw func257
def LQ(t0 t1 w)(K:KT):=nz f166 1 [] [] [] (zg [0,1] [t0,t1]) w K
theorem Na:LQ t0 t1 w k0->Calls ah 166 #[t0,t1] w k0:=cw func166
end
section
open Eng Go.RowKit
theorem atI:elB ah 5 1 1=true:=krx
theorem apG:(Tryz.prog.info? 5).map (·.size)=ax 1:=krx
theorem WQ {dT sT ty T:TypeId}{g n:Nat}{s:List UInt8}(hu:P.underlying dT=ax (.slice E))(c:(P.info? E).map (·.size)=ax 1)
  (j:w.heap[g]?=ax (.cells cur.toArray T (0,0))) (e:s.length=n) (f:cur.length=n) :
  (mB .copy #[dT,sT] ty cb #[cW g 0 n cap,ae s]).run P w=.ok (.value (goInt n)) (w.setRow g (aM s).toArray):=by
 have h:(aM s).length=n:=by rw[gO,e]
 have a:=run_storeCells_at P g 0 T (aM s) 0 cur.toArray w j (by rw[h];simp[f]) bU;simp only[axA,avC,ayJ,awW] at a;rw[aAS (by rw[h];simp[f]),awF] at a;obtain⟨i,hi,k⟩:=awZ.1 c;have b:List.take n (aM s)=aM s:=avX om;have d:(⟨s.toArray⟩:ByteArray).size=n:=by rw[cQ,e]
 unfold aM at b a;simp[mB,builtin,Builtin.copy_,run_underlying hu,Builtin.lenOf,Builtin.firstCells,sizeOf,typeInfo,hi,k,a,d,b,aM]
theorem VX (s:List UInt8)(w:ao)(t:s.length<=1000000000):Ret ah 224 #[BF s] w (λv w'=>v=BF s∧Below w.heap.size w w'):=by
 refine aL λK l=>Gf ?_;unfold DJ nz;refine eR (nC (k0:=zy λv w'=>v=BF s∧Below w.heap.size w w') ?_) (λe W ⟨v,he,m,c⟩=>by subst he;subst m;exact l _ _ ⟨rfl,c⟩);unfold fP nz;rw[show BF s=ae s from rfl,dE auV];simp only[rs];by_cases d:s=[]
 ·subst d;simp only[aAc,show ai (((0:Nat):Int)=0)=av from rfl,i_t];exact xB ⟨rfl,Below.refl _ _⟩
 have u:0 < s.length:=azU.2 d;simp only[show ai ((s.length:Int)=0)=au from auQ om,i_f];rw[dE auV];refine Tk avE atI om om (Own.start w) λg f y h c=>?_;rw[avQ] at h;refine yO (WQ avE apG (c.at_ 0 rfl) rfl h) ?_;have a:Own w (f.setRow g (aM s).toArray) [.cells g (aM s) 5]:=gN c 0 rfl _;generalize f.setRow g (aM s).toArray=w2 at a;refine aC (cR (P:=ah) (T:=70) (b:=g) (off:=0) (cap:=s.length) (n:=s.length) (k:=.i64) (i:=0) (w:=w2) avE apG om om) |>.mpr ?_;rw[bP avE];have o:w2.heap[g]?=ax (.cells (aM s).toArray 5 (0,0)):=a.at_ 0 rfl;have q:=Lib.run_unsafeString_row (P:=ah) w2 221 3 9 5 underlying221 krx g s.length (by unfold World.shape?;rw[o];simp[gO]) s d (auY _) om (λj x r=>by
  have:=a.cell 0 rfl j (Eng.gP r);rw[cM,avC];exact this)
 refine yO (show (mB .unsafeString #[221,3] 9 #[au,au] #[af g 0,ad s.length]).run ah w2=.ok (.value (ae s)) (w2.freeze ⟨g,0,aw⟩ s.length) by
  simp[mB,builtin,q]) ?_
 refine xB ⟨rfl,Lib.below_freeze a.done (p:=⟨g,0,aw⟩) ?_ _⟩;exact ((a.all _ (avV.2 rfl)).2 g rfl).elim (λx=>x.elim) id
theorem aoL {a b:UInt8}:IntKind.u8.wrap ((a.toNat:Int) - (b.toNat:Int))=((a - b).toNat:Int):=by
 unfold IntKind.wrap;have c:=a.toNat_lt;have d:=b.toNat_lt;simp only[IntKind.bits,IntKind.signed,UInt8.toNat_sub];simp;omega
theorem u8Sl {l:List UInt8}(a:Sl w v 1 l.length (aM l))(hi:i < l.length) :
  ∃p,(mIA 70 v (ad (i:Int))).run ah w=.ok (.value (.pointer (ax p))) w∧(aG 5 (.pointer (ax p))).run ah w=.ok (.value (.int .u8 (l[i].toNat:Int))) w:=by
 obtain⟨b,off,cap,rfl,c⟩:=bQ a om;refine⟨⟨b,off+i,aw⟩,?_,?_⟩
 ·have:=cR (P:=ah) (T:=70) (b:=b) (off:=off) (cap:=cap) (n:=l.length) (k:=.i64) (i:=(i:Int)) (w:=w) avE (show (Tryz.prog.info? 5).map (·.size)=ax 1 by kernel_rfl) om om;rw[auW,avQ] at this;exact this
 ·refine bC (AtV.cell nU8l (c _ _ (gP hi)))
section
variable {w:ao}{PK:PKT}{K:VWP}{S:Nat->Prop}{w0:ao}{L:List Ent}
theorem Un {tag:Int}{d:aq}{row:List UInt8}(a:dQ S w0 w L)(s:∀W,dQ S w0 W L->Sl W va 1 above.length (aM above))(h:∀W,dQ S w0 W L->Sl W d 1 row.length (aM row))(u:1<=colors∧colors<=1000000)(E:row.length<=1000000)
  (k:∀g W,dQ S w0 W (.cells g (aM (ew tag above row colors)) 5::L)->K (cW g 0 row.length row.length) W) :
  eN ah 194 #[rwV va d colors,ad tag] w PK K:=by
 generalize t:ew tag above row colors=G at k;have v:G.length=row.length:=by rw[<-t,ke]
 refine⟨Bx ?_⟩;unfold rV nz;have x:va.oneCell'=true:=kD (s w a);have y:d.oneCell'=true:=kD (h w a);have A:∀W:ao,(AS 228 (rwV va d colors)).run ah W=.ok (.value (af W.heap.size 0)) (W.alloc (.cells (rwC va d colors).toArray 228)):=λW=>by
  cases va<;>first|(cases x;done)|skip
  all_goals cases d<;>first|(cases y;done)|kernel_rfl
 refine bB (λb=>af b 0) (rwC va d colors) 228 A a λb B a=>?_;refine aC (bE A4) |>.mpr (aC (B4 (a.at_ 0 rfl)) |>.mpr ?_);rw[aS avE (h B a.tail)];refine Tk avE (show elB ah 5 1 1=av by kernel_rfl) om om a λg w2 c j a=>?_;rw[avQ] at j;refine aC (bE A4) |>.mpr (aC (B4 (a.at_ 1 rfl)) |>.mpr ?_);rw[aS avE (h w2 a.tail.tail)];refine loop (λvs W=>∃(i:Nat) (c:List aq),vs=[ad (i:Int)]∧i<=row.length∧c.length+i=row.length∧dQ S w0 W (.cells g (aM (G.take i)++c) 5::rwE b va d colors::L)) (λvs _=>row.length - n0 vs) ⟨0,c,rfl,om,om,a⟩ ?_;clear a j c;rintro vs w3 ⟨i,c,rfl,hi,j,a⟩ _;simp only[oS,gd,rs,nz];by_cases l:(i:Int) < (row.length:Int)
 case neg=>
  simp only[l,auT,i_f];have:c=[]:=List.length_eq_zero_iff.1 om;subst this;rw[awF,avX om] at a;exact k g w3 ((dQ.swap a).tail)
 have m:i < row.length:=om
 simp only[l,auS,i_t];obtain⟨p,o,q⟩:=u8Sl (h w3 a.tail.tail) m;rw[aC o,aC q,AT (a.agg 1 rfl Rx)];refine aI a (US tag above row va d (i:Int) colors w3 om u (s w3 a.tail.tail) (h w3 a.tail.tail)) ?_;rintro _ C rfl a;rw[Wj,aoL];obtain⟨z,c,rfl⟩:∃z r,c=z::r:=by
  cases c with
 |nil=>simp at j;omega
 |cons z c=>exact⟨z,c,rfl⟩
 rw[avR] at j;refine aC (cR (P:=ah) (T:=70) (b:=g) (off:=0) (cap:=row.length) (n:=row.length) (k:=.i64) (i:=(i:Int)) (w:=C) avE (show (Tryz.prog.info? 5).map (·.size)=ax 1 by kernel_rfl) om om) |>.mpr ?_;rw[auW,avQ,avC];have f:(aM (G.take i)).length=i:=by rw[gO,avA];omega
 refine aK 0 a rfl krx rfl (by rw[auU,f,avR];omega) λF a=>?_
 try simp only[rs]
 rw[aA om om];refine aU ⟨i+1,c,rfl,om,om,?_⟩ (by simp[n0,RowKit.intOf];omega);have D:G[i]'(om)=row[i] - dy tag above row (i:Int) colors:=by
  have:=vw (tag:=tag) (above:=above) (colors:=colors) m;rw[t,auX om] at this;exact ayB this
 have e:(aM (G.take i)++z::c).set i (.int .u8 ((row[i] - dy tag above row (i:Int) colors).toNat:Int))=aM (G.take (i+1))++c:=by
  rw[List.set_append,auO (by rw[f];omega),f,ayY,axV,avP om,PI,avO,D];rfl
 rw[<-e];exact a
end
theorem Lu (l:List UInt8)(v:aq)(w:ao)(f:Sl w v 1 l.length (aM l))(j:l.length<=1000000):Ret ah 219 #[v] w (λr w'=>r=ad (ed l:Int)∧w=w'):=by
 refine aL λK g=>FT ?_;unfold AF nz;rw[aS avE f];have hle:∀i,ed (l.take i)<=256*i:=λi=>by
  unfold ed
  induction i with
 |zero=>simp
 |succ i h=>
   by_cases hi:i < l.length
   ·rw[avP hi,avT,aAl];simp only[awY,ayZ,azK,List.sum_nil];have:=l[i].toNat_lt;omega
   ·rw[avX om] at h ⊢;omega
 refine loop (λvs W=>∃i:Nat,vs=[ad (ed (l.take i):Int),ad (i:Int)]∧i<=l.length∧W=w) (λvs _=>l.length - n1 vs) ⟨0,by rw[ayJ];rfl,om,rfl⟩ ?_;rintro vs k ⟨i,rfl,hi,rfl⟩ _;simp only[uI,gd,rs,nz];have hw:=hle i;by_cases a:(i:Int) < (l.length:Int)
 case neg=>
  simp only[a,auT,i_f];rw[avX om];exact g _ _ ⟨rfl,rfl⟩
 have b:i < l.length:=om
 simp only[a,auS,i_t];obtain⟨p,c,d⟩:=u8Sl f b;have m:=l[i].toNat_lt;rw[aC c,aC d,Dm,Dm]
 try simp only[rs]
 rw[aA (n:=(256:Int) - _) om om,MF]
 try simp only[rs]
 rw[aA (n:=_+min _ _) om om,aA om om];refine aU ⟨i+1,?_,om,rfl⟩ (by simp[n1,RowKit.intOf];omega);have e:ed (l.take (i+1))=ed (l.take i)+min l[i].toNat (256 - l[i].toNat):=by
  unfold ed;rw[avP b,avT,aAl];simp
 rw[e]
 congr 2
 ·congr 1;omega
section
variable {w:ao}{PK:PKT}{K:VWP}{S:Nat->Prop}{w0:ao}{L:List Ent}
theorem aoJ {d:aq}{row:List UInt8}(c:dQ S w0 w L)(n:∀W,dQ S w0 W L->Sl W va 1 above.length (aM above))(o:∀W,dQ S w0 W L->Sl W d 1 row.length (aM row))(p:1<=colors∧colors<=1000000)(m:row.length<=1000000)
  (k:∀W,dQ S w0 W L->K (ad (ox above row colors:Int)) W) :
  eN ah 195 #[rwV va d colors] w PK K:=by
 refine⟨BB ?_⟩;unfold sD nz;have r:va.oneCell'=true:=kD (n w c);have s:d.oneCell'=true:=kD (o w c);have t:∀W:ao,(AS 228 (rwV va d colors)).run ah W=.ok (.value (af W.heap.size 0)) (W.alloc (.cells (rwC va d colors).toArray 228)):=λW=>by
  cases va<;>first|(cases r;done)|skip
  all_goals cases d<;>first|(cases s;done)|kernel_rfl
 refine bB (λb=>af b 0) (rwC va d colors) 228 t c λb v c=>?_;have e:∀W,dQ S w0 W (rwE b va d colors::L)->Sl W va 1 above.length (aM above):=λW c=>n W c.tail;have f:∀W,dQ S w0 W (rwE b va d colors::L)->Sl W d 1 row.length (aM row):=λW c=>o W c.tail;have j:∀{W:ao} {g:Nat} {tag:Int},dQ S w0 W (.cells g (aM (ew tag above row colors)) 5::rwE b va d colors::L)->Sl W (cW g 0 row.length row.length) 1 (ew tag above row colors).length (aM (ew tag above row colors)):=λc=>by
  have:=c.sl 0 rfl 1 row.length row.length (by rw[gO,ke,avQ]);rw[ke];exact this
 rw[AT (c.agg 0 rfl Rx)];refine Un (tag:=0) c e f p m λg w2 c=>?_;refine zq (Lu _ _ w2 (j c) (by rw[ke];exact m)) ?_;refine loop (λvs W=>∃k:Nat,vs=[ad ((iz above row colors k).1:Int),ad ((iz above row colors k).2:Int),ad ((k+1:Nat):Int)]∧k<=4∧dQ S w0 W (rwE b va d colors::L)) (λvs _=>5 - n2 vs) ⟨0,rfl,om,c.tail⟩ ?_;clear c;rintro vs w3 ⟨i,rfl,hi,c⟩ _;simp only[nR,gd,rs,nz];by_cases l:((i+1:Nat):Int) < 5
 case neg=>
  simp only[l,auT,i_f];obtain rfl:i=4:=om
  exact k w3 c.tail
 simp only[l,auS,i_t];refine join λJ u=>?_;rw[AT (c.agg 0 rfl Rx)];refine Un (tag:=((i+1:Nat):Int)) c e f p m λg q c=>?_;refine zq (Lu _ _ q (j c) (by rw[ke];exact m)) ?_;have next:∀(a b2:Nat),iz above row colors (i+1)=(a,b2)->J [ad (a:Int),ad (b2:Int)] q:=by
  intro a b2 h;refine u _ _ λ_=>?_;simp only[nN,gd,rs,nz];rw[aA om om];refine aU ⟨i+1,?_,om,c.tail⟩ (by simp[n2,RowKit.intOf];omega);rw[h];rfl
 try simp only[rs]
 by_cases hw:ed (ew ((i+1:Nat):Int) above row colors) < (iz above row colors i).2
 ·simp only[show ai ((ed (ew ((i+1:Nat):Int) above row colors):Int) < ((iz above row colors i).2:Int))=av from auR om,i_t];exact next (i+1) _ (by rw[iz,auP hw])
 ·simp only[show ai ((ed (ew ((i+1:Nat):Int) above row colors):Int) < ((iz above row colors i).2:Int))=au from auQ om,i_f];exact next _ _ (by rw[iz,auO hw])
theorem Z8 {n:Nat}(h:n<=10000000)(e:dQ S w0 w L)(k:∀v w',dQ S w0 w' (iS v []::L)->K v w') :
  DoX ah (IH 70 (ad 0) (ad (n:Int))) w PK K:=by
 obtain⟨i,z,hi,f,a,b,g⟩:=kL (show elB ah 5 1 1=av by kernel_rfl);have c:=run_make (P:=ah) w 70 5 i z avE hi f .i64 .i64 (0:Int) (n:Int) om om (by rw[b];omega) om;rw[auW] at c;refine yO (cE c) (k _ _ ?_);have d:=e.alloc (madeCells z.cells (n*i.size)).toList 5;rw[aA8] at d;exact dQ.toU d 1 0 n (by rw[Array.length_toList,size_madeCells,a]) om om
end
def km (x:Pm):List UInt8->List UInt8->Nat:=mq x.p x.c
def jb (x:Pm)(s:List UInt8):Int:=
 if ¬x.ok then 1
 else if 1048576 < s.length then 5
 else if x.p=1 then 0
 else if s.length % (x.c*x.n).toNat≠0 then 16
 else if 10<=x.p∧1048576 < s.length+s.length / (x.c*x.n).toNat then 5
 else 0
def fu (x:Pm)(s:List UInt8):List UInt8:=if x.p=1 then s else lg (km x) x.c (x.c*x.n).toNat x.head (s.length+1) s []
def encT (r:List UInt8)(e:Int):Value:=.tuple #[ae r,ad e]
theorem apX {T:TypeId}(a:Tryz.prog.underlying D=ax (.int .u8))(b:Tryz.prog.underlying T=ax (.int .i64))(n:Nat)(W:ao):(nG T D (ad (n:Int))).run ah W=.ok (.value (.int .u8 ((UInt8.ofNat n).toNat:Int))) W:=by
 rw[<-rA];exact aZ (by rw[b];rfl) a
theorem SC (x:Pm)(s:List UInt8)(w:ao)(hs:s.length<=1000000000):Ret ah 165 #[pmV x,ae s] w (λv w'=>v=encT (if jb x s=0 then fu x s else []) (jb x s)∧Below w.heap.size w w'):=by
 refine aL λK B=>FV ?_;generalize i:jb x s=X at B;unfold jb at i;unfold AL iN dx ldx bnx fax stx mbx alx lnx ecx gtx etx cx;refine GY x (Own.start w) λb w1 d=>?_;rw[Ij d 0 rfl];refine aI d (UT x w1) ?_;rintro _ w2 rfl d;rw[sQ,Ij d 0 rfl];obtain⟨n,hn,b5,b6⟩:∃n:Nat,max (if x.ok then x.c*x.n else 0) 1=(n:Int)∧1<=n∧n<=8192:=by
  by_cases h:x.ok
  ·rw[auP h];have h1:=Pm.mul_pos h;have r:=h.2.2.2.2;exact⟨(x.c*x.n).toNat,om,om,om⟩
  ·rw[auO h];exact⟨1,dc,dc,dc⟩
 rw[hn];refine aI d (MA x s n w2 om hs) ?_;rintro _ w3 rfl d;simp only[bO];by_cases h:x.ok
 case neg=>
  rw[auP h] at i ⊢;simp only[show ai ((1:Int)≠0)=av from rfl,i_t];exact B _ _ ⟨by rw[<-i];rfl,d.done⟩
 rw[auO (by simp[h])] at i ⊢;have J:(x.c*x.n).toNat=n:=by
  rw[auP h] at hn;have h1:=Pm.mul_pos h;omega
 rw[J] at i;by_cases r:1048576 < s.length
 ·rw[auP r] at i ⊢;simp only[show ai ((5:Int)≠0)=av from rfl,i_t];exact B _ _ ⟨by rw[<-i];rfl,d.done⟩
 rw[auO r] at i ⊢;by_cases y:x.p=1
 ·rw[auO (by simp[y])];rw[auP y] at i;simp only[show ai ((0:Int)≠0)=au from rfl,i_f];rw[Hr,He d 0 rfl];simp only[y,rs,auS,i_t];exact B _ _ ⟨by rw[<-i];unfold fu;rw[auP rfl,auP y];rfl,d.done⟩
 rw[auO y] at i;by_cases L:s.length % n=0
 case neg=>
  rw[auP ⟨y,L⟩];rw[auP L] at i;simp only[show ai ((16:Int)≠0)=av from rfl,i_t];exact B _ _ ⟨by rw[<-i];rfl,d.done⟩
 rw[auO (by simp[L])];rw[auO (by simp[L])] at i;simp only[show ai ((0:Int)≠0)=au from rfl,i_f];rw[Hr,He d 0 rfl];simp only[y,rs,auT,i_f];have hdiv:s.length / n<=s.length:=azF _ _;obtain⟨q,hq⟩:∃q,s.length / n=q:=⟨_,rfl⟩;rw[hq] at i hdiv;have C:∀{PK:PKT} {K:VWP} {W:ao},DoX ah (gS .quo 3 (ad (s.length:Int)) (ad (n:Int))) W PK K=K (ad (q:Int)) W:=λ{PK K W}=>by
  rw[Ej om,show ((s.length:Nat):Int).tdiv (n:Int)=((s.length / n:Nat):Int) from rfl,hq,aA om om]
 have hc:1<=x.c∧x.c<=1000000:=⟨h.2.1,by have:=h.2.2.2.1;omega⟩;have b7:x.p=2∨(10<=x.p∧x.p<=15):=by
  rcases h.1 with h|h|h
  ·exact absurd h y
  ·exact .inl h
  ·exact .inr h
 have main:X=0->DoX ah (mB .len #[9] 3 #[au] #[ae s]) w3 (pk K) λt41 w=>
   DoX ah (mB .len #[9] 3 #[au] #[ae s]) w (pk K) λt43 w=>
   DoX ah (gS .quo 3 t43 (ad (n:Int))) w (pk K) λt45 w=>
   DoX ah (gS .add 3 t41 t45) w (pk K) λt46 w=>
   DoX ah (IH 70 (ad 0) t46) w (pk K) λt47 w=>
   DoX ah (mFA 73 (af b 0) 1) w (pk K) λt48 w=>
   DoX ah (aG 3 t48) w (pk K) λt49 w=>
   DoX ah (aN 228 #[(2,t49)]) w (pk K) λt50 w=>
   DoX ah (iM 228) w (pk K) λt9 w=>
   DoX ah (aV 228 t9 t50) w (pk K) λ_ w=>
   zr [ae s,t47] w (λM w N1=>∀_:Sg,kO (M.getD 0 undef) (af b 0) (ad (n:Int)) (M.getD 1 undef) t9 w N1 K):=by
  intro N;have m:∀W',Below w.heap.size w W'->K (.returned (encT (fu x s) 0)) W':=λW' hB=>B _ _ ⟨by rw[auP N,N],hB⟩;clear B;unfold fu at m;rw[auO y,J] at m;rw[dE auV,dE auV,C]
  try simp only[rs]
  rw[aA om om,show (s.length:Int)+(q:Int)=((s.length+q:Nat):Int) by omega];refine Z8 om d λF w4 d=>?_;rw[fpm1,pm_1 d 1 rfl];have e:∀W:ao,(aN 228 #[(2,ad x.c)]).run ah W=.ok (.value (rwV dY dY x.c)) W:=λW=>by kernel_rfl
  refine aC (e w4) |>.mpr ?_;refine bB (λb=>af b 0) (rwC dY dY 0) 228 (λ_=>by kernel_rfl) d λo w5 d=>?_;refine gF 0 d rfl (new:=rwC dY dY x.c) szRw (XP rfl rfl) rfl λw6 d=>?_;have d:=d.nilU 5 1;have d:dQ NoB w w6 [iS dY [],rwE o dY dY x.c,iS F [],pmE b x]:=d;have d:=d.perm (L':=[iS F [],iS dY [],rwE o dY dY x.c,pmE b x]) (by
   refine .trans (.cons _ (.swap _ _ _)) (.swap _ _ _))
  generalize z:lg (km x) x.c n x.head (s.length+1) s []=E at m;refine loop (λvs W=>∃(t prev out:List UInt8) (ov va l:aq) (e:Ent),vs=[ae t,ov]∧t.length<=s.length∧t.length % n=0∧out.length+2*t.length<=2*s.length∧prev.length<=1000000∧BRd e l prev∧va.oneCell'=av∧(∃f,t.length < f∧out++lg (km x) x.c n x.head f t prev=E)∧dQ NoB w W [iS ov out,e,rwE o va l x.c,pmE b x]) (λvs _=>qO (vs.getD 0 undef)) ⟨s,[],[],F,dY,dY,_,rfl,om,L,sm,sm,λW h=>dO h,rfl,⟨s.length+1,om,by rw[awW];exact z⟩,d⟩ ?_;clear d z;rintro vs w6 ⟨t,prev,out,ov,va,l,e,rfl,c0,a1,c1,c2,G,c3,⟨f,hf,z⟩,d⟩ _;simp only[kO,gd,iN,dx,bnx,lnx];obtain⟨f,rfl⟩:∃f',f=f'+1:=⟨f - 1,om⟩;rw[lg] at z;rw[dE auV]
  try simp only[rs]
  by_cases V:t=[]
  ·rw[auP V,awF] at z;simp only[show ai ((0:Int) < (t.length:Int))=au from auQ (by rw[V];decide),i_f];rw[mU avE avN auV (dO (d.at_ 0 rfl)),z];exact m _ d.done
  have c4:0 < t.length:=azU.2 V;rw[auO V] at z;simp only[show ai ((0:Int) < (t.length:Int))=av from auR om,i_t];have a6:n<=t.length:=Nat.le_of_dvd om (aBk a1);refine join λJ2 a7=>?_;have H:l.oneCell'=true:=kD (G w6 (d.at_ 1 rfl));have k:(t.take n).length=n:=by rw[avA];omega
  generalize O:t.take n=row at z k;have Y:∀tag:Int,(ew tag prev row x.c).length=n:=λtag=>by rw[ke,k]
  -- behind a row
  have next:∀(b2 cap:Nat) (v':aq) (new:List UInt8) (W:ao),dQ NoB w W [.mkr 5 b2 row,iS v' (out++new),e,rwE o l (cW b2 0 n cap) x.c,pmE b x]->new.length<=2*n ->
    new=(if x.head=1 then [UInt8.ofNat (km x prev row)] else [])++ew (km x prev row:Nat) prev row x.c->J2 [v'] W:=by
   intro b2 cap v' new W d c5 P;refine a7 _ _ λ_=>?_;simp only[vS,gd,slx];rw[Hl auV om om,auW];have Q:BRd (.mkr 5 b2 row) (cW b2 0 n cap) row:=by
    have:=@R8 b2 cap row
    rwa [k] at this
   have R:(t.drop n).length=t.length - n:=avF;refine aU ⟨t.drop n,row,out++new,v',l,_,_,rfl,om,?_,by rw[auU];omega,om,Q,H,⟨f,om,?_⟩,?_⟩ ?_
   ·rw[R,aBl a6] at *;omega
   ·rw[P,avO,avO];exact z
   ·exact (dQ.swap d).sub (.cons_cons _ (.cons_cons _ (.cons _ (axX _))))
   ·show qO (ae (t.drop n)) < qO (ae t);rw[iH,iH,R];omega
  have fin:∀b2 cap W,dQ NoB w W [.mkr 5 b2 row,iS ov out,e,rwE o l (cW b2 0 row.length cap) x.c,pmE b x]->fS (af b 0) ov (af o 0) W J2 K:=by
   intro b2 cap W d;rw[k] at d;unfold fS iN ldx bnx fax ecx apx cx;have hA:∀W,dQ NoB w W [.mkr 5 b2 row,iS ov out,e,rwE o l (cW b2 0 n cap) x.c,pmE b x]->Sl W l 1 prev.length (aM prev):=λW d=>G W (d.at_ 2 rfl);have hR:∀W,dQ NoB w W [.mkr 5 b2 row,iS ov out,e,rwE o l (cW b2 0 n cap) x.c,pmE b x]->Sl W (cW b2 0 n cap) 1 row.length (aM row):=λW d=>by
    have:=WH (cap:=cap) (d.at_ 0 rfl);rw[k] at this ⊢;exact this
   rw[Hr,He d 4 rfl]
   try simp only[rs]
   have b4:2<=x.p∧x.p<=15:=om
   rw[aA om om];refine join λJ4 a8=>?_;rw[Hr,He d 4 rfl]
   try simp only[rs]
   by_cases r:x.p=2
   ·simp only[r,auS,i_t];rw[AT (d.agg 3 rfl Rx)];refine Un (tag:=1) d hA hR hc om λg Z d=>?_;refine bN 2 avE G8 dc d rfl (d.sl 0 rfl 1 row.length row.length (by rw[gO,ke,avQ])) bU om om λv' w8 d=>?_;have hT:km x prev row=1:=by unfold km mq;rw[auP r]
    have hh:¬x.head=1:=by unfold Pm.head;rw[auO om];decide
    refine next b2 cap v' (ew 1 prev row x.c) w8 ?_ (by rw[Y];omega) (by rw[auO hh,hT];rfl)
    rw[eJ,Y,<-k];rw[<-k] at d;exact d.tail
   simp only[r,auT,i_f];have S:10<=x.p:=om
   have hh:x.head=1:=by unfold Pm.head;rw[auP S]
   have D:∀(tag:Nat) (W:ao),tag=km x prev row->dQ NoB w W [.mkr 5 b2 row,iS ov out,e,rwE o l (cW b2 0 n cap) x.c,pmE b x]->J4 [ov,ad (tag:Int)] W:=by
    intro tag W U d;refine a8 _ _ λ_=>?_;simp only[uP,gd];have d:=d.drew;refine⟨λW=>(rwE o l (cW b2 0 n cap) x.c).is W,d.at_ 3 rfl,?_⟩;refine aX _ (λW=>apX avN awM tag W) ?_;refine iJ (rwV l (cW b2 0 n cap) x.c) (λW h=>bC (AtV.agg Rx (cs:=rwC l (cW b2 0 n cap) x.c) rfl λj u hj=>by rw[avC];exact aJ (T:=228) h hj)) ?_;refine Nc (UInt8.ofNat tag) d λb8 w9 d=>⟨d.at_ 4 rfl,?_⟩;refine bN 2 avE G8 dc d rfl (gX (d.at_ 0 rfl) dc rfl) bU om om λv' b0 d=>⟨d.at_ 4 rfl,?_⟩;have d:dQ NoB w b0 [.mkr 5 b2 row,iS v' (out++[UInt8.ofNat tag]),e,rwE o l (cW b2 0 n cap) x.c,pmE b x]:=by
     rw[eJ];exact d.tail
    refine Un (tag:=(tag:Int)) d (λW d=>G W (d.at_ 2 rfl)) (λW d=>by
     have:=WH (cap:=cap) (d.at_ 0 rfl);rw[k] at this ⊢;exact this) hc om λg c6 d=>⟨d.at_ 4 rfl,?_⟩
    refine bN 2 avE G8 dc d rfl (d.sl 0 rfl 1 row.length row.length (by rw[gO,ke,avQ])) bU (by rw[auU,awX];omega) (by rw[auU,awX];omega) λb1 b3 d=>⟨d.at_ 4 rfl,?_⟩;refine next b2 cap b1 ([UInt8.ofNat tag]++ew (tag:Int) prev row x.c) b3 ?_ (by rw[auU,Y,awX];omega) (by rw[auP hh,U])
    rw[<-avO,eJ,Y,<-k];rw[<-k] at d;exact d.tail
   by_cases A:x.p=15
   ·simp only[A,auS,i_t];rw[AT (d.agg 3 rfl Rx)];refine aoJ d hA hR hc om λZ d=>?_;exact D _ Z (by unfold km mq;rw[auO r,auP A]) d
   ·simp only[A,auT,i_f];rw[show x.p - 10=(((x.p - 10).toNat:Nat):Int) by omega];exact D _ W (by unfold km mq;rw[auO r,auO A]) d
  have d:=d.drew;refine⟨λW=>∃a,(rwE o a l x.c).is W,⟨va,d.at_ 2 rfl⟩,?_⟩;refine aX _ (λ_=>bE A4) (iJ _ (λW ⟨a,h⟩=>B4 h) ?_);refine aX _ (λ_=>adY auV om om) ?_;rw[auW,O];refine aX _ (λ_=>bE UP) ⟨?_,?_⟩
  ·refine K3 auV avE avN d λb cap Z d=>⟨⟨va,d.at_ 3 rfl⟩,?_⟩;refine aK 3 d rfl krx H (by show 0+0 < 3;omega) λw8 d=>?_;refine aX _ (λ_=>bE A4) ?_;refine aK 3 d rfl krx rfl (by show 0+1 < 3;omega) λw9 d=>?_;exact fin b cap w9 d
  ·refine aK 2 d rfl krx H (by show 0+0 < 3;omega) λw8 d=>?_;refine K3 auV avE avN d λb cap Z d=>⟨⟨l,d.at_ 3 rfl⟩,?_⟩;refine aX _ (λ_=>bE A4) ?_;refine aK 3 d rfl krx rfl (by show 0+1 < 3;omega) λw9 d=>?_;exact fin b cap w9 d
 rw[Hr,He d 0 rfl]
 try simp only[rs]
 by_cases I:10<=x.p
 ·simp only[I,auS,gd,rs];rw[dE auV,dE auV,C]
  try simp only[rs]
  rw[aA om om];by_cases h5:1048576 < s.length+q
  ·rw[auP ⟨I,h5⟩] at i;simp only[show ai ((1048576:Int) < (s.length:Int)+(q:Int))=av from auR om,i_t];exact B _ _ ⟨by rw[<-i];rfl,d.done⟩
  ·rw[auO om] at i;simp only[show ai ((1048576:Int) < (s.length:Int)+(q:Int))=au from auQ om,i_f];exact main i.symm
 ·rw[auO om] at i;simp only[I,auT,gd,rs,i_f];exact main i.symm
def PdR (x:Pm):Prop:=∀(s:List UInt8) (w:ao),s.length<=1000000000->Ret ah 168 #[pmV x,ae s] w (λv w'=>v=zlT (ev x s)∧Below w.heap.size w w')
def PeR (x:Pm):Prop:=∀(s:List UInt8) (w:ao),s.length<=1000000000->Ret ah 165 #[pmV x,ae s] w (λv w'=>v=encT (if jb x s=0 then fu x s else []) (jb x s)∧Below w.heap.size w w')
theorem pdR (x:Pm):PdR x:=Sm x
theorem peR (x:Pm):PeR x:=SC x
theorem uj (c:Int)(n h:Nat):∀(f:Nat) (s prev out:List UInt8),(jq c n h f s prev out).1.length<=out.length+s.length
|0,_,_,_=>avK _
|f+1,s,prev,out=>by
  unfold jq;split
  ·exact Nat.le_add_right _ _
  generalize (if h=1 then (s.getD 0 0).toNat else 1:Nat)=tag;split
  ·exact avK _
  dsimp only;have a:(dr (tag:Int) prev c [] ((s.drop h).take n)).length=min n (s.length - h):=by
   rw[nt,avA,avF];simp
  generalize dr (tag:Int) prev c [] ((s.drop h).take n)=row at a;have:=uj c n h f (s.drop (n+h)) row (out++row);rw[auU,avF] at this;omega
theorem um (x:Pm)(s:List UInt8):(ev x s).1.length<=s.length:=by
 unfold ev;split
 ·exact avK _
 split
 ·exact avK _
 split
 ·exact auY _
 split
 ·exact avK _
 ·have:=uj x.c (x.c*x.n).toNat x.head (s.length+1) s [] [];simpa using this
theorem qo (a:Nat):∀(f:Nat) (s out:List UInt8),out.length<=a->(fh a f s out).1.length<=a
|0,_,_,_=>avK _
|f+1,s,out,b=>by
  unfold fh;cases s with
 |nil=>exact avK _
 |cons c r=>
   dsimp only;split
   ·exact b
   split
   ·split
    ·exact avK _
    split
    ·exact avK _
    ·refine qo a f _ _ ?_;rw[auU,avA];omega
   split
   ·exact avK _
   split
   ·exact avK _
   ·refine qo a f _ _ ?_;rw[auU,Ca (by rw[avA];omega)];omega
theorem mw (a:Nat):∀(s g out:List UInt8),out.length<=a->(fe a s g out).1.length<=a
|[],_,_,_=>avK _
|c::r,g,out,b=>by
  have d:∀v,(bo v).length=4:=λ_=>rfl;unfold fe;split
  ·exact mw a r _ _ b
  split
  ·split
   ·exact avK _
   ·exact mw a r _ _ (by rw[auU];show _+4<=_;omega)
  split
  ·split
   ·exact mw a r _ _ b
   split
   ·exact avK _
   split
   ·exact avK _
   ·exact mw a r _ _ (by rw[auU,d];omega)
  split
  ·unfold gw
   repeat' split
   all_goals first|exact avK _|exact b|(rw[auU,avA];omega)
  ·exact avK _
theorem qp {D:Nat->List UInt8×Int}(h:∀m,(D m).1.length<=m)(most:Int):(eh D most).1.length<=1048576:=by
 unfold eh;split
 ·exact avK _
 ·exact axN (h _) (azQ _ _)
namespace Ff
def DV (n:List UInt8)(p:Pm)(s:List UInt8):List UInt8×Int:=
 if full n=nHx then jd s 1048576
 else if full n=n85 then lz s 1048576
 else if full n=nRL then ly s 1048576
 else if full n=nFl then
  if ¬p.ok then ([],1)
  else if (ft s 1048576).2≠0 then ([],(ft s 1048576).2)
  else ev p (ft s 1048576).1
 else ([],15)
def chain:List (List UInt8)->List Pm->List UInt8->List UInt8×Int
|n::ns,p::ps,s=>if (DV n p s).2≠0 then ([],(DV n p s).2) else chain ns ps (DV n p s).1
|_,_,s=>(s,0)
def decode (o:Ob):List UInt8×Int:=if (of o).2.2≠0 then ([],(of o).2.2) else chain (of o).1 (of o).2.1 o.s
theorem afL {o:Ob}:(of o).2.1.length=(of o).1.length:=by
 unfold of;by_cases b:o.k≠9
 ·rw[auP b];rfl
 rw[auO b];by_cases c:(names o).2≠0
 ·rw[auP c];rfl
 rw[auO c];by_cases a:(zO o (names o).1.length).2≠0
 ·rw[auP a];rfl
 rw[auO a];split
 ·rfl
 ·exact L9 (Decidable.not_not.1 a)
end Ff
theorem VT:cD ah 148=true:=krx
theorem QZ:cD ah 120=true:=krx
theorem SP:cD ah 114=true:=krx
theorem Qb:cD ah 116=true:=krx
theorem SK:cD ah 118=true:=krx
theorem nFnU:dP ah 132=true:=krx
theorem nFnW:dP ah 118=true:=krx
theorem anQ:uM ah 120 0=ax 0:=krx
theorem aeT:uM ah 120 1=ax 1:=krx
theorem szWy:(Tryz.prog.info? 120).map (·.size)=ax 2:=krx
theorem YV:By ah 120=ax 2:=krx
theorem alC:By ah 151=ax 3:=krx
theorem szFt:(Tryz.prog.info? 151).map (·.size)=ax 3:=krx
theorem aeV:uM ah 151 0=ax 0:=krx
def fnV (f:Nat):Value:=.func (.func f) #[] #[]
def Kx (b:Nat):Value:=.func (.func 148) #[] #[af b 0]
def Lj (b:Nat):Value:=.func (.func 146) #[] #[af b 0]
def Pw (x:Pm):Value:=.func (.func 119) #[pmV x] #[]
def zN (x:Pm):Value:=.func (.func 120) #[pmV x] #[]
abbrev upE (b f:Nat):Ent:=.cells b [fnV f] 132
abbrev acN (b f:Nat):Ent:=.cells b [fnV f] 131
def wyC (p u:aq):List Value:=[p,u]
abbrev wyE (b:Nat)(p u:aq):Ent:=.cells b (wyC p u) 120
section
variable {w:ao}{PK:PKT}{K:VWP}{S:Nat->Prop}{w0:ao}{L:List Ent}
theorem Xj (a:dQ S w0 w L)(k:∀b W,dQ S w0 W (upE b f::L)->K (Kx b) W):eN ah 113 #[.func (.func f) #[] #[]] w PK K:=by
 refine eR (Kg (k0:=zy λv W=>∃b,v=Kx b∧dQ S w0 W (upE b f::L)) ?_) (λe W ⟨v,he,b,c,a⟩=>by subst he;subst c;exact k b W a);unfold GJ nz;refine bB (λb=>af b 0) [fnV f] 132 (λ_=>by kernel_rfl) a λb d a=>?_;rw[tM];exact xB ⟨b,rfl,a⟩
theorem XX (a:dQ S w0 w L)(k:∀b W,dQ S w0 W (acN b f::L)->K (Lj b) W):eN ah 111 #[.func (.func f) #[] #[]] w PK K:=by
 refine eR (JQ (k0:=zy λv W=>∃b,v=Lj b∧dQ S w0 W (acN b f::L)) ?_) (λe W ⟨v,he,b,c,a⟩=>by subst he;subst c;exact k b W a);unfold Ga nz;refine bB (λb=>af b 0) [fnV f] 131 (λ_=>by kernel_rfl) a λb d a=>?_;rw[tM];exact xB ⟨b,rfl,a⟩
theorem ahS {fn fn2:Fn}{a b a2 b2:Array aq}:DoX ah (aN 120 #[(0,.func fn a b),(1,.func fn2 a2 b2)]) w PK K=K (.agg (wyC (.func fn a b) (.func fn2 a2 b2)).toArray) w:=aC krx
theorem anX {n:List UInt8}(e:dQ S w0 w L)
  (q:∀(f g:Nat),(Ff.full n=Ff.nHx∧f=112∧g=114)∨(Ff.full n=Ff.n85∧f=115∧g=116)∨(Ff.full n=Ff.nRL∧f=117∧g=118)->∀i b2 W,dQ S w0 W (upE b2 g::acN i f::L)->K (.tuple #[.agg (wyC (Lj i) (Kx b2)).toArray,ad 0]) W)
  (t:Ff.full n=Ff.nFl->∀W,dQ S w0 W L->K (.tuple #[.agg (wyC (Pw x) (zN x)).toArray,ad (if x.ok then 0 else 1)]) W)
  (y:Ff.full n=[]->∀W,dQ S w0 W L->K (.tuple #[.agg (wyC .nilFunc .nilFunc).toArray,ad 15]) W):eN ah 79 #[ae n,pmV x] w PK K:=by
 refine⟨Nk ?_⟩;unfold K5 nz;refine GY x e λb3 E e=>?_;refine bB (λb=>af b 0) (wyC .nilFunc .nilFunc) 120 (λ_=>by kernel_rfl) e λr w2 e=>?_;refine zq (Mn n w2) ?_;simp only[ex,rs];have one:∀{fn fn2:Fn} {a b a2 b2:Array aq},∀u∈wyC (.func fn a b) (.func fn2 a2 b2),u.oneCell'=true:=by
  intro fn fn2 a b a2 b2 u hu;simp only[wyC,avB,awS,or_false] at hu;rcases hu with rfl|rfl<;>rfl
 have fr:∀{W:ao} {a b c d:Ent},dQ S w0 W (a::b::c::d::L)->dQ S w0 W (a::b::L):=λe=>e.sub (.cons_cons _ (.cons_cons _ (.cons _ (.cons _ (axX _)))));have z:=Ff.Wh n;by_cases k:Ff.full n=[]
 ·simp only[auQ (show ¬Ff.full n≠[] fromλh=>h k),awA,i_t];refine aC (show (aN 120 #[]).run ah w2=.ok (.value (.agg (wyC .nilFunc .nilFunc).toArray)) w2 by kernel_rfl) |>.mpr ?_;refine gF 0 e rfl (new:=wyC .nilFunc .nilFunc) szWy (λu hu=>by
   simp only[wyC,avB,awS,or_false] at hu;rcases hu with rfl|rfl<;>rfl) rfl λw3 e=>?_
  exact mP (bG (e.agg 0 rfl YV)) pV (y k w3 e.tail.tail)
 simp only[auR (show Ff.full n≠[] from k),avY,i_f];by_cases l:Ff.full n=Ff.nHx
 ·simp only[auR l,i_t];refine XX e λi w3 e=>?_;refine Xj e λb2 m e=>?_;unfold Lj Kx;rw[ahS];refine gF 2 e rfl (new:=wyC (Lj i) (Kx b2)) szWy one rfl λj e=>?_;exact mP (bG (e.agg 2 rfl YV)) pV (q _ _ (.inl ⟨l,rfl,rfl⟩) i b2 j (fr e))
 simp only[auQ l,i_f]
 try simp only[rs]
 by_cases o:Ff.full n=Ff.n85
 ·simp only[auR o,i_t];refine XX e λi w3 e=>?_;refine Xj e λb2 m e=>?_;unfold Lj Kx;rw[ahS];refine gF 2 e rfl (new:=wyC (Lj i) (Kx b2)) szWy one rfl λj e=>?_;exact mP (bG (e.agg 2 rfl YV)) pV (q _ _ (.inr (.inl ⟨o,rfl,rfl⟩)) i b2 j (fr e))
 simp only[auQ o,i_f]
 try simp only[rs]
 by_cases p:Ff.full n=Ff.nRL
 ·simp only[auR p,i_t];refine XX e λi w3 e=>?_;refine Xj e λb2 m e=>?_;unfold Lj Kx;rw[ahS];refine gF 2 e rfl (new:=wyC (Lj i) (Kx b2)) szWy one rfl λj e=>?_;exact mP (bG (e.agg 2 rfl YV)) pV (q _ _ (.inr (.inr ⟨p,rfl,rfl⟩)) i b2 j (fr e))
 simp only[auQ p,i_f];have A:Ff.full n=Ff.nFl:=by
  rcases z with h|h|h|h|h
  ·exact absurd h l
  ·exact absurd h o
  ·exact absurd h p
  ·exact h
  ·exact absurd h k
 rw[Ij e 1 rfl];refine aC (show (aN 151 #[(0,pmV x)]).run ah w2=.ok (.value (.agg (pmC x).toArray)) w2 by kernel_rfl) |>.mpr ?_;refine bB (λb=>af b 0) (pmC ⟨0,0,0⟩) 151 (λ_=>by kernel_rfl) e λs w3 e=>?_;refine gF 0 e rfl (new:=pmC x) szFt ME rfl λm e=>?_;have e:dQ S w0 m (.cells s (pmC x) 151::wyE r .nilFunc .nilFunc::pmE b3 x::L):=e;refine dR (λW=>dQ S w0 W (.cells s (pmC x) 151::wyE r .nilFunc .nilFunc::pmE b3 x::L)) e.drew ?_;refine kE (pmV x) (λW h=>bC (h.agg 0 rfl alC)) ?_;refine eZ (Pw x) (λ_=>cE rfl) ?_;refine kE (pmV x) (λW h=>bC (h.agg 0 rfl alC)) ?_;refine eZ (zN x) (λ_=>cE rfl) ?_;refine eZ (.agg (wyC (Pw x) (zN x)).toArray) (λ_=>by kernel_rfl) ?_;refine kE (pmV x) (λW h=>bC (h.agg 2 rfl F3)) ?_;refine fC _ (λW h=>(Nw x W).mono λv w' ⟨B,C⟩=>⟨B,h.grow C⟩) ?_;intro j e;refine gF 1 e rfl (new:=wyC (Pw x) (zN x)) szWy one rfl λD e=>?_;exact mP (bG (e.agg 1 rfl YV)) pV (t A D e.tail.tail.tail)
end
theorem ZS (b f:Nat)(s:List UInt8)(D:List UInt8×Int)(M:Mem)(w:ao)(hp:cD ah f=av)(c:(upE b f).is w)(a:M.has w)
  (h:lA ah f #[ae s,ad 1048576] M w (λv _=>v=zlT D∧D.1.length<=1048576)):lA ah 148 #[ae s,af b 0] M w (λv _=>v=zlT D∧D.1.length<=1048576):=by
 refine aO a λK d=>HI ?_;unfold DK nz;rw[aH nFnU (aJ (T:=132) (cs:=[fnV f]) c (i:=0) rfl)];unfold fnV;refine OI hp (aY (dQ.memS a) 0 rfl h ?_);rintro _ N j g1 ⟨rfl,e⟩ g;simp only[zlT,ex];exact d _ _ N _ 0 g rfl g1 ⟨rfl,e⟩
theorem R6 (x:Pm)(k:PdR x)(s:List UInt8)(M:Mem)(w:ao)(f:Rp M)(g:Od M)(l:s.length<=1000000000)(i:M.has w) :
  lA ah 120 #[pmV x,ae s] M w (λv _=>v=zlT (if (ft s 1048576).2≠0 then ([],(ft s 1048576).2) else ev x (ft s 1048576).1)∧(ft s 1048576).1.length<=1048576):=by
 refine aO i λK c=>yG ?_;unfold oD nz;refine bB (λb=>af b 0) (pmC x) 151 (λ_=>by kernel_rfl) (dQ.memS i) λb2 m a=>?_;refine aY a 1 rfl (Th s 1048576 M m f g l (a.hasM 1 rfl)) ?_;rintro _ N w2 g1 ⟨rfl,d⟩ a;generalize ft s 1048576=U at c d;obtain⟨t,e⟩:=U;dsimp only at c d;simp only[zlT,ex,bO];by_cases he:e=0
 case neg=>
  rw[auP he] at c;simp only[auR (show e≠0 from he),i_t];exact c _ _ N _ 1 a rfl g1 ⟨rfl,d⟩
 rw[auO (λh=>h he)] at c;simp only[auQ (show ¬e≠0 fromλh=>h he),i_f];rw[aQ aeV,AT (T:=73) (v:=pmV x) (AtV.agg F3 (cs:=pmC x) rfl λj u n=>by rw[axA,avC];exact a.cell 0 rfl j n)];refine aI a (k t w2 om) ?_;rintro _ w3 rfl a;simp only[zlT,ex];exact c _ _ N _ 1 a rfl g1 ⟨rfl,d⟩
def UdA (n:List UInt8)(x:Pm):Prop:=∀(f g:Nat),(Ff.full n=Ff.nHx∧f=112∧g=114)∨(Ff.full n=Ff.n85∧f=115∧g=116)∨(Ff.full n=Ff.nRL∧f=117∧g=118)->∀(s:List UInt8) (M:Mem) (w:ao),Pws M->s.length<=1000000000->M.has w ->
 ∃_:cD ah g=av,lA ah g #[ae s,ad 1048576] M w (λv _=>v=zlT (Ff.DV n x s)∧(Ff.DV n x s).1.length<=1048576)
theorem udA (n:List UInt8)(x:Pm):UdA n x:=by
 intro f g b s M w c d e;generalize a:Ff.DV n x s=X;unfold Ff.DV at a;rcases b with ⟨h,_,rfl⟩|⟨h,_,rfl⟩|⟨h,_,rfl⟩
 ·rw[auP h] at a;subst a;exact⟨SP,Vb s 1048576 M w d e⟩
 ·rw[auO (by rw[h];decide),auP h] at a;subst a;exact⟨Qb,Ti s 1048576 M w c d e⟩
 ·rw[auO (by rw[h];decide),auO (by rw[h];decide),auP h] at a;subst a;exact⟨SK,VF s 1048576 M w d e⟩
theorem abC (n:List UInt8)(x:Pm)(G:PdR x)(H:UdA n x)(s:List UInt8)(M:Mem)(w:ao)(m:Rp M)(o:Od M)(q:Pws M)(C:s.length<=1000000000)(D:M.has w) :
  lA ah 44 #[ae n,pmV x,ae s] M w (λv _=>v=zlT (Ff.DV n x s)∧(Ff.DV n x s).1.length<=1048576):=by
 refine aO D λK i=>Kh ?_;generalize c:Ff.DV n x s=X at i;have r:=c;unfold Ff.DV at c;unfold GB nz;refine GY x (dQ.memS D) λE J a=>?_;rw[Ij a 0 rfl];have d:∀{p u:aq},p.oneCell'=av->u.oneCell'=av->∀y∈wyC p u,y.oneCell'=true:=by
  intro p u hp hu y F;simp only[wyC,avB,awS,or_false] at F;rcases F with rfl|rfl<;>assumption
 refine anX a (λf g t z b2 w2 a=>?_) (λe w2 a=>?_) (λe w2 a=>?_)
 ·simp only[ex];refine bB (λb=>af b 0) (wyC .nilFunc .nilFunc) 120 (λ_=>by kernel_rfl) a λk w3 a=>?_;refine gF 0 a rfl (new:=wyC (Lj z) (Kx b2)) szWy (d rfl rfl) rfl λh a=>?_;have a:dQ M.A w h [wyE k (Lj z) (Kx b2),upE b2 g,acN z f,pmE E x,.mem M]:=a;simp only[bO,show ai ((0:Int)≠0)=au from rfl,i_f];rw[aQ aeT,aH nFnW (a.cell 0 rfl 1 rfl)];have j:=a.hasM 4 rfl;have key:=H f g t s M h q C j;rw[r] at key;obtain⟨hp,key⟩:=key;unfold Kx;refine OI VT (aY a 4 rfl (ZS b2 g s X M h hp (a.at_ 1 rfl) j key) ?_);rintro _ N I g1 ⟨rfl,B⟩ a;simp only[zlT,ex];exact i _ _ N _ 4 a rfl g1 ⟨rfl,B⟩
 ·rw[auO (by rw[e];decide),auO (by rw[e];decide),auO (by rw[e];decide),auP e] at c;simp only[ex];refine bB (λb=>af b 0) (wyC .nilFunc .nilFunc) 120 (λ_=>by kernel_rfl) a λk w3 a=>?_;refine gF 0 a rfl (new:=wyC (Pw x) (zN x)) szWy (d rfl rfl) rfl λh a=>?_;have a:dQ M.A w h [wyE k (Pw x) (zN x),pmE E x,.mem M]:=a;simp only[bO];by_cases l:x.ok
  case neg=>
   rw[auP l] at c;simp only[auO l,show ai ((1:Int)≠0)=av from rfl,i_t];exact i _ _ M _ 2 a rfl M.le_refl ⟨by rw[<-c];rfl,by rw[<-c];exact avK _⟩
  rw[auO (by simp[l])] at c;simp only[auP l,show ai ((0:Int)≠0)=au from rfl,i_f];rw[aQ aeT,aH nFnW (a.cell 0 rfl 1 rfl)];unfold zN;refine OI QZ (aY a 2 rfl (R6 x G s M h m o C (a.hasM 2 rfl)) ?_);rintro _ N I g1 ⟨rfl,B⟩ a;rw[c];simp only[zlT,ex];refine i _ _ N _ 2 a rfl g1 ⟨rfl,?_⟩;rw[<-c];split
  ·exact avK _
  ·exact axN (um _ _) B
 ·rw[auO (by rw[e];decide),auO (by rw[e];decide),auO (by rw[e];decide),auO (by rw[e];decide)] at c;simp only[ex];refine bB (λb=>af b 0) (wyC .nilFunc .nilFunc) 120 (λ_=>by kernel_rfl) a λk w3 a=>?_;refine gF 0 a rfl (new:=wyC .nilFunc .nilFunc) szWy (d rfl rfl) rfl λh a=>?_;simp only[bO,show ai ((15:Int)≠0)=av from rfl,i_t];exact i _ _ M _ 2 a rfl M.le_refl ⟨by rw[<-c];rfl,by rw[<-c];exact avK _⟩
theorem LZ (n:List UInt8)(x:Pm)(s:List UInt8)(M:Mem)(w:ao)(f:s.length<=1000000000)(p:M.has w) :
  lA ah 51 #[ae n,pmV x,ae s] M w (λv _=>v=zlT (Ff.DV n x s)∧(Ff.DV n x s).1.length<=1048576):=by
 refine aO p λK c=>BP ?_;generalize a:Ff.DV n x s=X at c;unfold Ff.DV at a;unfold sF nz;refine GY x (dQ.memS p) λq d b=>?_;refine zq (F1 n d) ?_;simp only[rs];by_cases g:Ff.full n=Ff.nHx
 ·rw[auP g] at a;simp only[auR g,i_t];refine aI b (QQ s 1048576 d f) ?_;rintro _ w2 rfl b;simp only[zlT,ex];exact c _ _ M _ 1 b rfl M.le_refl ⟨by rw[<-a];rfl,by rw[<-a];exact qp (λm=>qe m s _ _ (avK _)) _⟩
 rw[auO g] at a;simp only[auQ g,i_f]
 try simp only[rs]
 by_cases i:Ff.full n=Ff.n85
 ·rw[auP i] at a;simp only[auR i,i_t];refine aI b (Pn s 1048576 d f) ?_;rintro _ w2 rfl b;simp only[zlT,ex];exact c _ _ M _ 1 b rfl M.le_refl ⟨by rw[<-a];rfl,by rw[<-a];exact qp (λm=>mw m s _ _ (avK _)) _⟩
 rw[auO i] at a;simp only[auQ i,i_f]
 try simp only[rs]
 by_cases j:Ff.full n=Ff.nRL
 ·rw[auP j] at a;simp only[auR j,i_t];refine aI b (Qx s 1048576 d f) ?_;rintro _ w2 rfl b;simp only[zlT,ex];exact c _ _ M _ 1 b rfl M.le_refl ⟨by rw[<-a];rfl,by rw[<-a];exact qp (λm=>qo m _ s _ (avK _)) _⟩
 rw[auO j] at a;simp only[auQ j,i_f]
 try simp only[rs]
 by_cases k:Ff.full n=Ff.nFl
 case neg=>
  rw[auO k] at a;simp only[auQ k,i_f];exact c _ _ M _ 1 b rfl M.le_refl ⟨by rw[<-a];rfl,by rw[<-a];exact avK _⟩
 rw[auP k] at a;simp only[auR k,i_t];rw[Ij b 0 rfl];refine aI b (vD x d) ?_;rintro _ w2 rfl b;simp only[bO];by_cases l:x.ok
 case neg=>
  rw[auP l] at a;simp only[auO l,show ai ((1:Int)≠0)=av from rfl,i_t];exact c _ _ M _ 1 b rfl M.le_refl ⟨by rw[<-a];rfl,by rw[<-a];exact avK _⟩
 rw[auO (by simp[l])] at a;simp only[auP l,show ai ((0:Int)≠0)=au from rfl,i_f];refine aY b 1 rfl (O7 s 1048576 M w2 f (b.hasM 1 rfl)) ?_;rintro _ N w3 g1 ⟨rfl,o⟩ b;generalize ft s 1048576=U at a o;obtain⟨t,e⟩:=U;dsimp only at a o;simp only[zlT,ex,bO];by_cases he:e=0
 case neg=>
  rw[auP he] at a;simp only[auR (show e≠0 from he),i_t];exact c _ _ N _ 1 b rfl g1 ⟨by rw[<-a];rfl,by rw[<-a];exact avK _⟩
 rw[auO (λh=>h he)] at a;simp only[auQ (show ¬e≠0 fromλh=>h he),i_f];rw[Ij b 0 rfl];refine aI b (Pj x t w3 om) ?_;rintro _ r rfl b;simp only[zlT,ex];exact c _ _ N _ 1 b rfl g1 ⟨by rw[<-a];rfl,by rw[<-a];exact axN (um _ _) o⟩
theorem uo {ns:List (List UInt8)}{ps:List Pm}(a:i < ns.length)(b:i < ps.length)(s:List UInt8) :
  Ff.chain (ns.drop i) (ps.drop i) s=if (Ff.DV ns[i] ps[i] s).2≠0 then ([],(Ff.DV ns[i] ps[i] s).2) else Ff.chain (ns.drop (i+1)) (ps.drop (i+1)) (Ff.DV ns[i] ps[i] s).1:=by
 rw[avW a,avW b,Ff.chain]
theorem uq {ns:List (List UInt8)}{ps:List Pm}(a:ns.length<=i)(s:List UInt8):Ff.chain (ns.drop i) (ps.drop i) s=(s,0):=by
 rw[awK a];unfold Ff.chain;rfl
theorem ri {o:Ob}:(Ff.of o).1.length<=8:=by
 have:=@Ff.Rf o;unfold Ff.of;by_cases a:o.k≠9
 ·rw[auP a];exact avK _
 rw[auO a];by_cases b:(Ff.names o).2≠0
 ·rw[auP b];exact avK _
 rw[auO b];by_cases c:(Ff.zO o (Ff.names o).1.length).2≠0
 ·rw[auP c];exact avK _
 rw[auO c];split
 ·exact avK _
 ·exact this
section
variable {M:Mem}{vn vp:aq}{ns:List (List UInt8)}{ps:List Pm}
theorem zU (b:SlA M.A M.w vn 1 ns.length (bT ns)):DoX ah (mB .len #[22] 3 #[au] #[vn]) W PK K=K (ad (ns.length:Int)) W:=by
 obtain⟨a,cap,rfl,_⟩:=b.form;exact bP avH
end
theorem VG (o:Ob)(z:∀x∈(Ff.of o).2.1,PdR x)(B:∀n∈(Ff.of o).1,∀x,UdA n x)(v:aq)(M:Mem)(w:ao)(C:Rp M)(D:Od M)(E:Pws M)(hw:o.wt<=1000000000)(O:M.has w)(P:OV M.A M.w v o) :
  lA ah 18 #[v] M w (λr _=>r=zlT (Ff.decode o)):=by
 obtain⟨vk,vc,V,rfl,Q⟩:=P.open;refine aO O λK y=>Hd ?_;generalize a:Ff.decode o=X at y;unfold Ff.decode at a;unfold Dj nz;refine dD o Q.keys.one Q.kids.one (dQ.memS O) λY Z b=>?_;rw[oV b 0 rfl];refine aY b 1 rfl (Z1 o _ M Z hw (b.hasM 1 rfl) P) ?_;have j:=@Ff.afL o;have k:=@ri o;generalize Ff.of o=F at a j k z B;obtain⟨ns,ps,e⟩:=F;dsimp only at a j k z B;rintro _ N w2 g ⟨vn,vp,rfl,G,hp⟩ b;dsimp only at G hp;simp only[ex,gT (show [vn,vp,Value.int .i64 e][2]?=ax (Value.int .i64 e) from rfl),gT (show [vn,vp,Value.int .i64 e][1]?=ax vp from rfl),gT (show [vn,vp,Value.int .i64 e][0]?=ax vn from rfl),bO];by_cases he:e=0
 case neg=>
  rw[auP he] at a;simp only[auR (show e≠0 from he),i_t];exact y _ _ N _ 1 b rfl g (by rw[<-a];rfl)
 rw[auO (λh=>h he)] at a;simp only[auQ (show ¬e≠0 fromλh=>h he),i_f];rw[yK,I0 b 0 rfl,zU G];have H:o.s.length<=1000000000:=by
  have:o.s.length<=o.wt:=by rw[o.jO];omega
  omega
 refine loop (λvs W=>∃(i:Nat) (s:List UInt8) (l:Mem),vs=[ae s,ad (i:Int)]∧i<=ns.length∧s.length<=1000000000∧N.le l∧Ff.chain (ns.drop i) (ps.drop i) s=X∧dQ M.A w W [obE Y o vk vc,.mem l]) (λvs _=>ns.length - n1 vs) ⟨0,o.s,N,rfl,om,H,N.le_refl,a,b⟩ ?_;clear b a;rintro vs w3 ⟨i,s,l,rfl,hi,hs,c,a,b⟩ _;simp only[xN,gd,rs,nz];by_cases m:(i:Int) < (ns.length:Int)
 ·simp only[m,auS,i_t];have d:i < ns.length:=om
  have f:i < ps.length:=om
  rw[uo d f] at a;obtain⟨p,I,J⟩:=PO (G.le c) d;rw[aC (I w3),aC (J w3 (b.hasM 1 rfl))];obtain⟨p2,q,u⟩:=pmAt (hp.le c) f;rw[aC (q w3),aC (u w3 (b.hasM 1 rfl))];refine aY b 1 rfl (abC ns[i] ps[i] (z _ (avD f)) (B _ (avD d) _) s l w3 ((C.le g).le c) ((D.le g).le c) ((E.le g).le c) hs (b.hasM 1 rfl)) ?_;rintro _ R w4 S ⟨rfl,T⟩ b;generalize Ff.DV ns[i] ps[i] s=U at a T;obtain⟨t,L⟩:=U;dsimp only at a T;simp only[zlT,ex,bO];by_cases hu:L=0
  case neg=>
   rw[auP hu] at a;simp only[auR (show L≠0 from hu),i_t];exact y _ _ R _ 1 b rfl ((g.trans c).trans S) (by rw[<-a];rfl)
  rw[auO (λh=>h hu)] at a;simp only[auQ (show ¬L≠0 fromλh=>h hu),i_f]
  try simp only[rs]
  rw[aA om om];exact aU ⟨i+1,t,R,rfl,om,om,c.trans S,a,b⟩ (by simp[n1,RowKit.intOf];omega)
 simp only[m,auT,i_f];rw[uq om] at a;exact y _ _ l _ 1 b rfl (g.trans c) (by rw[<-a];rfl)
theorem We (o:Ob)(d:∀x∈(Ff.of o).2.1,PdR x)(v:aq)(M:Mem)(w:ao)(a:Rp M)(b:Od M)(c:Pws M)(hw:o.wt<=1000000000)(e:M.has w)(f:OV M.A M.w v o) :
  lA ah 18 #[v] M w (λr _=>r=zlT (Ff.decode o)):=
 VG o d (λn _ x=>udA n x) v M w a b c hw e f
theorem OG (o:Ob)(v:aq)(M:Mem)(w:ao)(a:Rp M)(b:Od M)(c:Pws M)(hw:o.wt<=1000000000)(d:M.has w)(e:OV M.A M.w v o) :
  lA ah 18 #[v] M w (λr _=>r=zlT (Ff.decode o)):=
 We o (λx _=>pdR x) v M w a b c hw d e
theorem PL (o:Ob)(v:aq)(M:Mem)(w:ao)(hw:o.wt<=1000000000)(C:M.has w)(D:OV M.A M.w v o) :
  lA ah 24 #[v] M w (λr _=>r=zlT (Ff.decode o)):=by
 obtain⟨vk,vc,H,rfl,E⟩:=D.open;refine aO C λK n=>xJ ?_;generalize b:Ff.decode o=X at n;unfold Ff.decode at b;unfold nH iN dx ldx fax exx ecx cx;refine dD o E.keys.one E.kids.one (dQ.memS C) λI J a=>?_;rw[oV a 0 rfl];refine aY a 1 rfl (Xz o _ M J hw (a.hasM 1 rfl) D) ?_;have c:=@Ff.afL o;have d:=@ri o;generalize Ff.of o=F at b c d;obtain⟨ns,ps,e⟩:=F;dsimp only at b c d;rintro _ N w2 u ⟨vn,vp,rfl,x,hp⟩ a;dsimp only at x hp;simp only[ex,gT (show [vn,vp,Value.int .i64 e][2]?=ax (Value.int .i64 e) from rfl),gT (show [vn,vp,Value.int .i64 e][1]?=ax vp from rfl),gT (show [vn,vp,Value.int .i64 e][0]?=ax vn from rfl),bO];by_cases he:e=0
 case neg=>
  rw[auP he] at b;simp only[auR (show e≠0 from he),i_t];exact n _ _ N _ 1 a rfl u (by rw[<-b];rfl)
 rw[auO (λh=>h he)] at b;simp only[auQ (show ¬e≠0 fromλh=>h he),i_f];rw[yK,I0 a 0 rfl];have y:o.s.length<=1000000000:=by
  have:o.s.length<=o.wt:=by rw[o.jO];omega
  omega
 refine loop (λvs W=>∃(i:Nat) (s:List UInt8),vs=[ae s,ad (i:Int)]∧i<=ns.length∧s.length<=1000000000∧Ff.chain (ns.drop i) (ps.drop i) s=X∧dQ M.A w W [obE I o vk vc,.mem N]) (λvs _=>ns.length - n1 vs) ⟨0,o.s,rfl,om,y,b,a⟩ ?_;clear a b;rintro vs w3 ⟨i,s,rfl,hi,L,b,a⟩ _;simp only[jW,gd,iN,bnx,lnx,ecx];rw[zU x];simp only[rs];by_cases f:(i:Int) < (ns.length:Int)
 ·simp only[f,auS,i_t];have g:i < ns.length:=om
  have j:i < ps.length:=om
  rw[uo g j] at b;obtain⟨p,z,B⟩:=PO x g;obtain⟨O,k,l⟩:=pmAt hp j;have a:=a.drew;refine⟨λW=>N.has W,a.hasM 1 rfl,?_⟩;refine aX _ z (iJ _ (λW h=>B W h) ?_);refine aX _ k (iJ _ (λW h=>l W h) ?_);have G:=(LZ ns[i] ps[i] s N _ L (a.hasM 1 rfl));have m:(Ff.DV ns[i] ps[i] s).1.length<=1048576:=by
   obtain⟨_,_,_,⟨_,_,_,_,_,h⟩,_⟩:=G [];exact h
  refine aI a (R:=λv=>v=zlT (Ff.DV ns[i] ps[i] s)) (lA.told (G.mono λv P _ h=>h.1)) ?_;rintro _ Q rfl a;refine⟨a.hasM 1 rfl,?_⟩;generalize Ff.DV ns[i] ps[i] s=U at b m;obtain⟨t,q⟩:=U;dsimp only at b m;simp only[zlT];refine aX (ae t) (λ_=>by kernel_rfl) (aX (ad q) (λ_=>by kernel_rfl) ?_);simp only[bO];by_cases hu:q=0
  case neg=>
   rw[auP hu] at b;simp only[auR (show q≠0 from hu),i_t];exact n _ _ N _ 1 a rfl u (by rw[<-b];rfl)
  rw[auO (λh=>h hu)] at b;simp only[auQ (show ¬q≠0 fromλh=>h hu),i_f]
  try simp only[rs]
  rw[aA om om];exact aU ⟨i+1,t,rfl,om,om,b,a⟩ (by simp[n1,RowKit.intOf];omega)
 simp only[f,auT,i_f];rw[uq om] at b;exact n _ _ N _ 1 a rfl u (by rw[<-b];rfl)
end
end Go.Proofs.YtkghomgfocpgeaaGreatDoor

namespace Go.Proofs.YtkghomgfocpgeaaGreatDoor
variable{D E:TypeId}{K:VWP}{M N:Eng.Mem}{P:Program}{PK:PKT}{W w:ao}{a colors:Int}{above key:List UInt8}{args ca fa:Array aq}{b cap f i j:Nat}{cb:Array Bool}{cs cur:List aq}{l:List Nat}{o:Ob}{pv t0 v v' va vc vk:aq}{q:Bool}{u:FrameMode}{x:Pm}{xo yo:Operand}{t0 t1:aq}{k0:Eng.KT}
section
open Go
namespace Bd
def Ke (o:Ob)(data:List UInt8):Ob:=.mk 9 (Vl.bL o Vl.Ax).n (Vl.bL o Vl.Ax).g data (Vl.bL o Vl.Ax).keys (Vl.bL o Vl.Ax).kids
theorem SZ (h:Vl.check 1 o=0)(c:o.k=7):Vl.Ax ∉ (Vl.bL o Vl.Ax).keys:=by
 have d:Vl.keyed o=true:=by simp[Vl.keyed,c]
 have f:=Vl.rC (key:=Vl.Ax) h d;have a:Vl.keyed (Vl.bL o Vl.Ax)=true:=by
  have e:(Vl.bL o Vl.Ax).k=o.k:=rfl;simp[Vl.keyed,e,c]
 obtain⟨_,hlen⟩:=Vl.DX f a;intro hm;have b:=Vl.Sf o Vl.Ax;unfold Vl.get at b;rw[auP a,auP (aBo hm),auX (by rw[<-hlen];exact aBo hm)] at b;cases b
theorem Vq {data:List UInt8}(h:Vl.check 1 o=0)(d:o.k=7)(j:data.length<=1048576):Vl.check 1 (Ke o data)=0:=by
 have l:Vl.keyed o=true:=by simp[Vl.keyed,d]
 have m:=Vl.rC (key:=Vl.Ax) h l;have b:=SZ h d;have f:(Vl.bL o Vl.Ax).k=7:=d;unfold Ke;generalize Vl.bL o Vl.Ax=x at *;obtain⟨⟨p,a2,a3,a4,a5,r,c⟩,a⟩:=Vl.tK.1 m;obtain⟨k,n,g,s,t,cs⟩:=x;simp only[Ob.k,Ob.n,Ob.g,Ob.s,Ob.keys,Ob.kids] at *;subst f;refine Vl.tK.2 ⟨⟨p,?_,λ_=>Int.le_refl 1 |> λ_=>by omega,?_,?_,r,?_⟩,a⟩
 ·unfold Vl.fF at a2 ⊢;simp only[Ob.k,Ob.n,Ob.g,Ob.s,Ob.keys,Ob.kids,Vl.used] at a2 ⊢
  simp_all
  exact a2.1
 ·simp[Vl.fits,Ob.k]
 ·simpa[Vl.long,Ob.k,Ob.s] using j
 ·unfold Vl.form at c ⊢;simp only[Ob.k] at c ⊢;simp only[show ai ((7:Int)=7∨(7:Int)=9)=av by decide,avY,aAe,avM] at c;obtain⟨u,v,w,y⟩:=Vl.D6.1 c.2;have z:Vl.rising (.mk 9 n g data t cs)=true:=Vl.D6.2 ⟨u,v,λq i=>⟨(w q i).1,λ_ e=>b (e▸i)⟩,y⟩;simp[z]
theorem Rz (h:Vl.check 1 o=0)(a:o.k=7):(if Vl.keyed o=av∧Vl.check 1 o=0 then Vl.bL o Vl.Ax else o)=Vl.bL o Vl.Ax:=by
 rw[auP ⟨by simp[Vl.keyed,a],h⟩]
end Bd
end
section
open Eng
def E2(t0 t1 w)(K:KT):=nz f106 1 [] [] [] (zg [0,1] [t0,t1]) w K
theorem IF:E2 t0 t1 w k0->Calls ah 106 #[t0,t1] w k0:=cw func106
end
end Go.Proofs.YtkghomgfocpgeaaGreatDoor

namespace Go.Proofs.YtkghomgfocpgeaaGreatDoor
variable{D E:TypeId}{K:VWP}{M N:Eng.Mem}{P:Program}{PK:PKT}{W w:ao}{a colors:Int}{above key:List UInt8}{args ca fa:Array aq}{b cap f i j:Nat}{cb:Array Bool}{cs cur:List aq}{l:List Nat}{o:Ob}{pv t0 v v' va vc vk:aq}{q:Bool}{u:FrameMode}{x:Pm}{xo yo:Operand}{t0 t1:aq}{k0:Eng.KT}
section
open Eng Go.RowKit
theorem SI (o:Ob)(v:aq)(data:List UInt8)(M:Mem)(w:ao)(h:o.k=7)(i:Vl.check 1 o=0)(I:data.length<=1048576)(hw:o.wt<=1000000000)(C:M.has w)(j:OV M.A M.w v o) :
  lA ah 106 #[v,ae data] M w (λr N=>∃v',r=Cr v' 0∧OV N.A N.w v' (Bd.Ke o data)):=by
 obtain⟨vk,vc,cs,rfl,D⟩:=j.open;refine aO C λK J=>IF ?_;unfold E2 nz;refine dD o D.keys.one D.kids.one (dQ.memS C) λb2 V a=>?_;refine dF a λL w2 a=>?_;rw[cO,zn a 1 rfl];simp only[rs,h,show ai ((7:Int)≠7)=au by decide,i_f];rw[oV a 1 rfl];refine aI a (R:=λv=>v=ad (Vl.check 1 o)) (jF o _ w2 (OV.inw (a.hasM 2 rfl) j) om) ?_;rintro _ w3 rfl a;simp only[i,bO,show ai ((0:Int)≠0)=au by decide,i_f];rw[oV a 1 rfl];refine aY a 2 rfl (F6 o _ Vl.Ax M w3 om (a.hasM 2 rfl) j) λy N W hle E a=>?_;have l:ej o Vl.Ax=Vl.bL o Vl.Ax:=by unfold ej;exact Bd.Rz i h
 rw[l] at E;have m:=Bd.Vq (data:=data) i h I;have O:=Vl.yI o Vl.Ax;have c:Bd.Ke o data=.mk 9 (Vl.bL o Vl.Ax).n (Vl.bL o Vl.Ax).g data (Vl.bL o Vl.Ax).keys (Vl.bL o Vl.Ax).kids:=rfl;generalize Vl.bL o Vl.Ax=x at *;obtain⟨p,q,u,rfl,b⟩:=E.open;refine dF a λP X a=>?_;refine bK 0 b.keys.one b.kids.one a rfl λY a=>?_;rw[cO];refine aK 0 a rfl krx rfl (show 0 < 6 by omega) λZ a=>?_;rw[yK];refine aK 0 a rfl krx rfl (show 0+3 < 6 by omega) λF a=>?_;have a:dQ M.A w F [obE P (Bd.Ke o data) p q,obE L ob0 dY dY,obE b2 o vk vc,.mem N]:=by rw[c];exact a
 have z:OV N.A N.w (obV (Bd.Ke o data) p q) (Bd.Ke o data):=by
  rw[c];exact zz.ov (o:=.mk 9 x.n x.g data x.keys x.kids) (vk:=p) (vc:=q) (cs:=u) ⟨b.keys,b.kids,b.all⟩
 have B:(Bd.Ke o data).wt<=100000000000:=by
  have G:=Vl.jO (Bd.Ke o data);have Q:=Vl.jO x;rw[c] at G ⊢;simp only[Ob.s,Ob.keys,Ob.kids] at G Q ⊢;omega
 rw[oV a 0 rfl];refine aY a 3 rfl (LI _ _ N F B (a.hasM 3 rfl) z) ?_;rintro _ S w9 e ⟨t,rfl,H⟩ a;have f:Vl.right (Bd.Ke o data)=(Bd.Ke o data,0):=by unfold Vl.right;rw[auO (by simp[m])]
 rw[f] at H;obtain⟨tk,tc,T,rfl,d⟩:=H.open;simp only[Cr,ex,f];refine bK 1 d.keys.one d.kids.one a rfl λU a=>?_;exact eU 1 a rfl (J _ _ S _ 3 a rfl (hle.trans e) ⟨_,rfl,d.ov⟩)
namespace Ff
def LV (o:Ob):Ob:=.mk 7 o.n o.g [] o.keys o.kids
def bare (o:Ob):Ob:=Vl.bL (Vl.bL (LV o) cT) gH
def plain (o:Ob)(data:List UInt8):Ob×Int:=
 if o.k≠9∧o.k≠7 then (Vl.ob0,10)
 else if Vl.check 1 (LV o)≠0 then (Vl.ob0,Vl.check 1 (LV o))
 else (Bd.Ke (bare o) data,0)
theorem adG (o:Ob):(LV o).wt<=o.wt:=by
 obtain⟨k,n,g,s,a,cs⟩:=o;show (Ob.mk 7 n g [] a cs).wt<=(Ob.mk k n g s a cs).wt;rw[Ob.wt,Ob.wt];have:([]:List UInt8).length=0:=rfl;omega
end Ff
theorem Wl (o:Ob)(v:aq)(data:List UInt8)(M:Mem)(w:ao)(G:data.length<=1048576)(hw:o.wt<=1000000000)(E:M.has w)(H:OV M.A M.w v o) :
  lA ah 68 #[v,ae data] M w (λr N=>∃v',r=Cr v' (Ff.plain o data).2∧OV N.A N.w v' (Ff.plain o data).1):=by
 obtain⟨vk,vc,cs,rfl,l⟩:=H.open;refine aO E λK y=>Ik ?_;generalize b:Ff.plain o data=X at y;unfold Ff.plain at b;unfold ES nz;refine dD o l.keys.one l.kids.one (dQ.memS E) λb2 w1 a=>?_;refine dF a λc w2 a=>?_;have no:∀{W:ao} {N:Mem} {e:Int} {x:Ob},dQ M.A w W [obE c ob0 dY dY,obE b2 x vk vc,.mem N]->M.le N->X=(Vl.ob0,e)->DoX ah (aN 25 #[]) W (pk K) (λt W=>DoX ah (aV 25 (af c 0) t) W (pk K) λ_ W=>zu ah [.cell (af c 0) 25,.val (ad e)] W K):=by
  intro W N e x a hle F;rw[Qe];refine bK 0 rfl rfl a rfl λz a=>?_;refine eU 0 a rfl (y _ _ N _ 2 a rfl hle ⟨obV Vl.ob0 dY dY,?_,?_⟩)
  ·rw[F];rfl
  ·rw[F];exact CA N
 rw[cO,zn a 1 rfl];simp only[rs];have f:OV M.A M.w (obV (Ff.LV o) vk vc) (Ff.LV o):=zz.ov (o:=Ff.LV o) (vk:=vk) (vc:=vc) (cs:=cs) ⟨l.keys,l.kids,l.all⟩;have main:¬(o.k≠9∧o.k≠7)->DoX ah (mFA 25 (af b2 0) 0) w2 (pk K) λt16 w=>
 DoX ah (aV 3 t16 (ad 7)) w (pk K) λ_ w=>
 DoX ah (mFA 25 (af b2 0) 3) w (pk K) λt17 w=>
 DoX ah (aV 9 t17 (.string ⟨#[]⟩)) w (pk K) λ_ w=>
 DoX ah (aG 25 (af b2 0)) w (pk K) λt18 w=>
 eN ah 32 #[t18] w (pk K) λt19 w=>
 DoX ah (mEq .neq 35 (.tmp 20) (.const (ad 0)) t19 (ad 0)) w (pk K) λt21 w=>
 IfX t21 (DoX ah (aN 25 #[]) w (pk K) λt22 w=>
 DoX ah (aV 25 (af c 0) t22) w (pk K) λ_ w=>
 zu ah [.cell (af c 0) 25,.val t19] w K) (DoX ah (aG 25 (af b2 0)) w (pk K) λt24 w=>
 eN ah 102 #[t24,(.string ⟨#[70,105,108,116,101,114]⟩)] w (pk K) λt25 w=>
 eN ah 102 #[t25,(.string ⟨#[68,101,99,111,100,101,80,97,114,109,115]⟩)] w (pk K) λt26 w=>
 eN ah 106 #[t26,ae data] w (pk K) λt28 w=>
 DoX ah (zt t28 0) w (pk K) λt29 w=>
 DoX ah (zt t28 1) w (pk K) λt30 w=>
 DoX ah (aV 25 (af c 0) t29) w (pk K) λ_ w=>
 zu ah [.cell (af c 0) 25,.val t30] w K):=by
  intro I;rw[auO I] at b;rw[cO];refine aK 1 a rfl krx rfl (show 0 < 6 by omega) λw3 a=>?_;rw[yK];refine aK 1 a rfl krx rfl (show 0+3 < 6 by omega) λz a=>?_;have a:dQ M.A w z [obE c ob0 dY dY,obE b2 (Ff.LV o) vk vc,.mem M]:=a;have B:=Ff.adG o;have J:Bd.Ke (Ff.bare o) data=Bd.Ke (Vl.bL (Vl.bL (Ff.LV o) Ff.cT) Ff.gH) data:=rfl;have q:(Ff.LV o).k=7:=rfl;rw[J] at b;generalize Ff.LV o=d at b B a f q;rw[oV a 1 rfl];refine aI a (R:=λv=>v=ad (Vl.check 1 d)) (jF d _ z (OV.inw (a.hasM 2 rfl) f) om) ?_;rintro _ L rfl a;simp only[bO];by_cases j:Vl.check 1 d=0
  case neg=>
   rw[auP j] at b;simp only[auR (show Vl.check 1 d≠0 from j),i_t];exact no a M.le_refl b.symm
  rw[auO (λh=>h j)] at b;simp only[j,show ai ((0:Int)≠0)=au from rfl,i_f];rw[oV a 1 rfl];refine aY a 2 rfl (F6 d _ Ff.cT M L om (a.hasM 2 rfl) f) λy1 O P Q m a=>?_;have S:ej d Ff.cT=Vl.bL d Ff.cT:=by unfold ej;rw[auP ⟨by simp[Vl.keyed,q],j⟩]
  rw[S] at m;have n:=Vl.rC (key:=Ff.cT) j (by simp[Vl.keyed,q]);have g:(Vl.bL d Ff.cT).k=7:=q;have T:=Vl.yI d Ff.cT;generalize Vl.bL d Ff.cT=d1 at *;refine aY a 2 rfl (F6 d1 _ Ff.gH O P om (a.hasM 2 rfl) m) λy2 U V Y p a=>?_;have Z:ej d1 Ff.gH=Vl.bL d1 Ff.gH:=by unfold ej;rw[auP ⟨by simp[Vl.keyed,g],n⟩]
  rw[Z] at p;have C:=Vl.rC (key:=Ff.gH) n (by simp[Vl.keyed,g]);have D:(Vl.bL d1 Ff.gH).k=7:=g;have a1:=Vl.yI d1 Ff.gH;generalize Vl.bL d1 Ff.gH=d2 at *;refine aY a 2 rfl (SI d2 _ data U V D C G om (a.hasM 2 rfl) p) ?_;rintro _ N3 w8 l3 ⟨t,rfl,ht⟩ a;obtain⟨tk,tc,a6,rfl,i⟩:=ht.open;simp only[Cr,ex];refine bK 0 i.keys.one i.kids.one a rfl λw9 a=>?_;exact eU 0 a rfl (y _ _ N3 _ 2 a rfl ((Q.trans Y).trans l3) ⟨_,by rw[<-b];rfl,by rw[<-b];exact i.ov⟩)
 by_cases s:o.k=9
 ·simp only[auQ (show ¬o.k≠9 fromλh=>h s),rs,iO,i_f];exact main (λh=>h.1 s)
 simp only[auR (show o.k≠9 from s),rs];rw[cO,zn a 1 rfl];simp only[rs];by_cases u:o.k=7
 ·simp only[auQ (show ¬o.k≠7 fromλh=>h u),rs,i_f];exact main (λh=>h.2 u)
 ·simp only[auR (show o.k≠7 from u),rs,i_t];rw[auP ⟨s,u⟩] at b;exact no a M.le_refl b.symm
theorem eqPm:eqT ah 73 [(0,au),(1,au),(2,au)]:=⟨krx,krx,krx,krx⟩
def Pm.eqb (x y:Pm):Bool:=ai (x.p=y.p)&&(ai (x.c=y.c)&&ai (x.n=y.n))
theorem apA (x y:Pm):([(0,au),(1,au),(2,au)]:List (Nat×Bool)).all (λp=>Hy (pmC x).toArray[p.1]? (pmC y).toArray[p.1]?)=Pm.eqb x y:=by
 have e:([(0,au),(1,au),(2,au)]:List (Nat×Bool)).all (λp=>Hy (pmC x).toArray[p.1]? (pmC y).toArray[p.1]?)=((x.p==y.p)&&((x.c==y.c)&&((x.n==y.n)&&av))):=rfl;rw[e];unfold Pm.eqb;rw[aAR];rfl
theorem alG {y:Pm}:(mEq .eql 73 xo yo (pmV x) (pmV y)).run ah w=.ok (.value (.bool (Pm.eqb x y))) w:=by
 rw[<-apA];exact RL eqPm rfl
def kz (os:List Ob):Ob:=if os.length=1 then os.getD 0 Vl.ob0 else .mk 6 0 0 [] [] os
theorem Ou (os:List Ob)(v:aq)(cs:List aq)(M:Mem)(w:ao)(hw:Ob.wts os<=1000000000)(d:M.has w)(h:Jh M v os cs):lA ah 70 #[v] M w (λr N=>OV N.A N.w r (kz os)):=by
 refine aO d λK e=>IW ?_;unfold EK nz;refine dF (dQ.memS d) λb2 g a=>?_;rw[wI h];simp only[rs];by_cases f:os.length=1
 ·simp only[show ai ((os.length:Int)=1)=av from auR om,i_t];refine Lf (i:=0) h om (a.hasM 1 rfl) λj k c=>?_;refine bK 0 c.oneK c.oneC a rfl λw2 a=>?_;refine gC (bG (a.agg 0 rfl mQ)) (e _ _ M _ 1 a rfl M.le_refl ?_);have:kz os=os[0]:=by unfold kz;rw[auP f,auZ,auX om,awN]
  rw[this];exact c
 ·simp only[show ai ((os.length:Int)=1)=au from auQ om,i_f];refine aY a 1 rfl (Px os _ cs M g om (a.hasM 1 rfl) h.sl h.all) λy N w2 l c a=>?_;obtain⟨j,k,m,rfl,b⟩:=c.open;refine bK 0 b.keys.one b.kids.one a rfl λw3 a=>?_;refine gC (bG (a.agg 0 rfl mQ)) (e _ _ N _ 1 a rfl l ?_);unfold kz;rw[auO f];exact b.ov
namespace Ff
def dG (n:List UInt8):Ob:=ob1 5 0 0 n
end Ff
section
variable {w:ao}{PK PK2:PKT}{K:VWP}{S:Nat->Prop}{w0:ao}{L:List Ent}
end
end
end Go.Proofs.YtkghomgfocpgeaaGreatDoor







namespace Go.Proofs.YtkghomgfocpgeaaGreatDoor
variable{D E:TypeId}{K:VWP}{M N:Eng.Mem}{P:Program}{PK:PKT}{W w:ao}{a colors:Int}{above key:List UInt8}{args ca fa:Array aq}{b cap f i j:Nat}{cb:Array Bool}{cs cur:List aq}{l:List Nat}{o:Ob}{pv t0 v v' va vc vk:aq}{q:Bool}{u:FrameMode}{x:Pm}{xo yo:Operand}{t0 t1:aq}{k0:Eng.KT}
section
open Eng Go.RowKit
namespace Ff
end Ff
theorem Vy:cD ah 119=true:=krx
end
end Go.Proofs.YtkghomgfocpgeaaGreatDoor

namespace Go.Proofs.YtkghomgfocpgeaaGreatDoor
variable{D E:TypeId}{K:VWP}{M N:Eng.Mem}{P:Program}{PK:PKT}{W w:ao}{a colors:Int}{above key:List UInt8}{args ca fa:Array aq}{b cap f i j:Nat}{cb:Array Bool}{cs cur:List aq}{l:List Nat}{o:Ob}{pv t0 v v' va vc vk:aq}{q:Bool}{u:FrameMode}{x:Pm}{xo yo:Operand}{t0 t1:aq}{k0:Eng.KT}
section
open Eng Go.RowKit
namespace Ff
def pE (p:Pm):Ob:=.mk 7 0 0 [] [Eh,Ed,Eg] [ob1 2 p.c 0 [],ob1 2 p.n 0 [],ob1 2 p.p 0 []]
theorem MK (n:Int)(d:Nat)(a:d<=24)(h:-2147483647<=n∧n<=2147483647):Vl.check d (ob1 2 n 0 [])=0:=
 Vl.tK.2 ⟨⟨a,rfl,(λe=>absurd e (show ¬((2:Int)=9) by decide)),(show ai (-2147483647<=n∧n<=2147483647)=av from auR h),(show (0:Nat)<=_ from avK _),(show (0:Nat)<=8191 by decide),rfl⟩,(λc b=>by cases b)⟩
def pmI (p:Pm):Prop:=(-2147483647<=p.p∧p.p<=2147483647)∧(-2147483647<=p.c∧p.c<=2147483647)∧(-2147483647<=p.n∧p.n<=2147483647)
theorem RW (p:Pm)(d:Nat)(b:d<=23)(h:pmI p):Vl.check d (pE p)=0:=by
 refine Vl.tK.2 ⟨⟨om,rfl,(λe=>absurd e (show ¬((7:Int)=9) by decide)),rfl,(show (0:Nat)<=_ from avK _),(show (3:Nat)<=8191 by decide),rfl⟩,λc a=>?_⟩;have a:c∈[ob1 2 p.c 0 [],ob1 2 p.n 0 [],ob1 2 p.p 0 []]:=a;simp only[avB,awS,or_false] at a;rcases a with rfl|rfl|rfl
 ·exact MK _ _ om h.2.1
 ·exact MK _ _ om h.2.2
 ·exact MK _ _ om h.1
theorem VY (p:Pm)(h:pmI p):Vl.D0 [dG Eh,ob1 2 p.c 0 [],dG Ed,ob1 2 p.n 0 [],dG Eg,ob1 2 p.p 0 []]=(pE p,0):=by
 have e:Vl.D0 [dG Eh,ob1 2 p.c 0 [],dG Ed,ob1 2 p.n 0 [],dG Eg,ob1 2 p.p 0 []]=Vl.right (pE p):=krx
 rw[e];unfold Vl.right;rw[RW p 1 dc h];rfl
theorem apH {p:Pm}(h:p≠qY):Pm.eqb p qY=false:=by
 cases d:Pm.eqb p qY with
|false=>rfl
|true=>
  unfold Pm.eqb at d;simp only[avM,awG] at d;obtain⟨a,b,c⟩:=p;exact absurd (by rw[show a=_ from d.1,show b=_ from d.2.1,show c=_ from d.2.2]) h
end Ff
section
variable {w:ao}{PK:PKT}{K:VWP}{S:Nat->Prop}{w0:ao}{L T:List Ent}
theorem apM (a c d e f g:Ob)(h:dQ S w0 w L)(k:∀b w',dQ S w0 w' (.cells b (obC a dY dY++obC c dY dY++obC d dY dY++obC e dY dY++obC f dY dY++obC g dY dY) 25::L)->K (cW b 0 6 6) w') :
  DoX ah (bJ 23 6 #[(0,obV a dY dY),(1,obV c dY dY),(2,obV d dY dY),(3,obV e dY dY),(4,obV f dY dY),(5,obV g dY dY)]) w PK K:=
 bB (λb=>cW b 0 6 6) _ 25 (λ_=>by kernel_rfl) h k
end
theorem iB (N:Mem)(k n g:Int)(s:List UInt8):OV N.A N.w (obV (ob1 k n g s) dY dY) (ob1 k n g s):=
 zz.ov (o:=ob1 k n g s) (vk:=dY) (vc:=dY) (cs:=[]) ⟨SlA.nil _ _ _ _,SlA.nil _ _ _ _,.nil⟩
theorem Wm (p:Pm)(hp:p≠Ff.qY)(hi:Ff.pmI p)(M:Mem)(w:ao)(i:M.has w):lA ah 69 #[pmV p] M w (λr N=>∃v',r=Cr v' 0∧OV N.A N.w v' (Ff.pE p)):=by
 refine aO i λK k=>Kd ?_;unfold HQ iN dx stx alx;refine GY p (dQ.memS i) λd z a=>?_;refine dF a λb2 w2 a=>?_;refine dR (λW=>dQ M.A w W [obE b2 ob0 dY dY,pmE d p,.mem M]) a.drew ?_;refine kE (pmV p) (λW h=>bC (h.agg 1 rfl F3)) ?_;refine fC (pmV Ff.qY) (λW h=>(IM W).mono λv w' ⟨l,m⟩=>⟨l,h.grow m⟩) ?_;refine eZ _ (λ_=>alG) ?_;intro w3 a;rw[Ff.apH hp,i_f];have a:=a.drew;refine⟨λW=>(pmE d p).is W,a.at_ 1 rfl,?_⟩;refine aX (af d (0+1)) (λ_=>bE Oq) (iJ (ad p.c) (λW h=>aB aW (aJ (T:=73) (cs:=pmC p) h rfl)) ?_);refine aX (af d (0+2)) (λ_=>bE Ur) (iJ (ad p.n) (λW h=>aB aW (aJ (T:=73) (cs:=pmC p) h rfl)) ?_);refine aX (af d (0+0)) (λ_=>bE afI) (iJ (ad p.p) (λW h=>aB aW (aJ (T:=73) (cs:=pmC p) h rfl)) ?_);refine aI a (iI Ff.Eh _) ?_;rintro _ B rfl a;refine⟨a.at_ 1 rfl,?_⟩;refine aI a (uS p.c _) ?_;rintro _ C rfl a;refine⟨a.at_ 1 rfl,?_⟩;refine aI a (iI Ff.Ed _) ?_;rintro _ D rfl a;refine⟨a.at_ 1 rfl,?_⟩;refine aI a (uS p.n _) ?_;rintro _ E rfl a;refine⟨a.at_ 1 rfl,?_⟩;refine aI a (iI Ff.Eg _) ?_;rintro _ F rfl a;refine⟨a.at_ 1 rfl,?_⟩;refine aI a (uS p.p _) ?_;rintro _ G rfl a;refine⟨a.at_ 1 rfl,?_⟩;refine apM (Ff.dG Ff.Eh) (ob1 2 p.c 0 []) (Ff.dG Ff.Ed) (ob1 2 p.n 0 []) (Ff.dG Ff.Eg) (ob1 2 p.p 0 []) a λb g a=>?_;refine⟨a.at_ 2 rfl,?_⟩;obtain⟨N,hle,e,a⟩:=dQ.bH (L:=[obE b2 ob0 dY dY,pmE d p,.mem M]) (a.toU 6 6 6 rfl om om) 2 rfl;refine aY a 2 rfl (YJ [Ff.dG Ff.Eh,ob1 2 p.c 0 [],Ff.dG Ff.Ed,ob1 2 p.n 0 [],Ff.dG Ff.Eg,ob1 2 p.p 0 []] _ _ N g (Nat.le_of_ble_eq_true krx) (a.hasM 2 rfl) e
  (dX (dX (dX (dX (dX (tP (iB N 5 0 0 Ff.Eh)) (tP (iB N 2 p.c 0 []))) (tP (iB N 5 0 0 Ff.Ed))) (tP (iB N 2 p.n 0 []))) (tP (iB N 5 0 0 Ff.Eg))) (tP (iB N 2 p.p 0 [])))) ?_
 rw[Ff.VY p hi];rintro _ o q s ⟨H,rfl,j⟩ a;obtain⟨t,u,x,rfl,f⟩:=j.open;refine⟨a.at_ 1 rfl,?_⟩;unfold Cr;refine aX (obV (Ff.pE p) t u) (λ_=>by kernel_rfl) (aX (ad 0) (λ_=>by kernel_rfl) ?_);refine bK 0 f.keys.one f.kids.one a rfl λy a=>?_;exact eU 0 a rfl (k _ _ o _ 2 a rfl (hle.trans s) ⟨_,rfl,j⟩)
theorem WT (n:List UInt8)(p:Pm)(vn vp:aq)(M:Mem)(w:ao)(u:Ff.full n=Ff.nFl)(v:M.has w)(l:SlA M.A M.w vn 1 [n].length (bT [n]))(hp:SlA M.A M.w vp 3 1 (pmC p)) :
  lA ah 66 #[vn,vp] M w (λr N=>∃va x,r=.tuple #[va,x,ad 0]∧SlA N.A N.w va 1 [Ff.nFl].length (bT [Ff.nFl])∧SlA N.A N.w x 3 [p].length ([p].flatMap pmC)):=by
 refine aO v λK C=>LR ?_;unfold Jc nz;have a:dQ M.A w w [.mem M]:=dQ.memS v;rw[zU l];simp only[rs,show ai ((8:Int) < (([n].length:Nat):Int))=au from rfl,i_f];rw[zU l];have a:=dQ.nilU a 9 1;refine loop (λvs W=>∃(i:Nat) (ov:aq),vs=[ov,ad (i:Int)]∧i<=1∧dQ M.A w W [stsE ov (([n].take i).map Ff.full),.mem M]) (λvs _=>1 - n1 vs) ⟨0,dY,rfl,om,a⟩ ?_;clear a;rintro vs m ⟨i,ov,rfl,hi,a⟩ _;simp only[Fq,gd,rs,nz];by_cases c:(i:Int) < (([n].length:Nat):Int)
 ·simp only[c,auS,i_t];have f:i < [n].length:=by have:(i:Int) < 1:=c;show i < 1;omega
  obtain⟨q,h,j⟩:=PO l f;rw[aC (h m),aC (j m (a.hasM 1 rfl))];have o:i=0:=by have:i < 1:=f;omega
  subst o;refine zq (Mn n m) ?_;simp only[ex,rs,auR (show Ff.full n≠[] by rw[u];decide),avY,i_f];refine UM _ a sm λs F a=>?_
  try simp only[rs]
  exact aU ⟨1,s,rfl,om,a⟩ (by show (0:Nat) < 1;decide)
 simp only[c,auT,i_f];have:i=1:=by have:¬(i:Int) < 1:=c;omega
 subst this;obtain⟨k,y,d,a⟩:=a.bH 0 rfl;have a:dQ M.A w m [.mem k]:=a;have d:SlA k.A k.w ov 1 [Ff.nFl].length (bT [Ff.nFl]):=by
  have e:([n].take 1).map Ff.full=[Ff.nFl]:=by simp[u]
  rw[e] at d;exact d
 have g:=hp.le y;rw[aS azG (g.now (a.hasM 0 rfl))];simp only[rs,show ai (((1:Nat):Int)≠0)=av from rfl,i_t];rw[aS azG (g.now (a.hasM 0 rfl)),zU l];simp only[rs,show ai (((1:Nat):Int)≠(([n].length:Nat):Int))=au from rfl,i_f];refine bB (λb=>cW b 0 0 0) [] 73 (λ_=>by kernel_rfl) a λb3 w2 a=>?_;have a:=dQ.toU a (sz:=3) (n:=0) (cap:=0) rfl (auY _) dc;have a:dQ M.A w w2 [FG (cW b3 0 0 0) [],.mem k]:=a;refine bN 0 azG elPm dc a rfl (g.now (a.hasM 1 rfl)) ME dc dc λva w3 a=>?_;have a:dQ M.A w w3 [FG va [p],.mem k]:=a;rw[zU d];refine loop (λvs W=>∃(i:Nat),vs=[va,ad (i:Int)]∧i<=1∧dQ M.A w W [FG va [p],.mem k]) (λvs _=>1 - n1 vs) ⟨0,rfl,om,a⟩ ?_;clear a;rintro vs z ⟨i,rfl,hi,a⟩ _;simp only[E3,gd,rs,nz];by_cases c:(i:Int) < (([Ff.nFl].length:Nat):Int)
 ·simp only[c,auS,i_t];have f:i < [Ff.nFl].length:=by have:(i:Int) < 1:=c;show i < 1;omega
  obtain⟨q,h,j⟩:=PO d f;rw[aC (h z),aC (j z (a.hasM 1 rfl))];have o:i=0:=by have:i < 1:=f;omega
  subst o;refine join λJ D=>?_;rw[aS azG (g.now (a.hasM 1 rfl))];simp only[rs,show ai (((1:Nat):Int)=0)=au from rfl,i_f];refine D _ _ λ_=>?_;simp only[E9,gd,nz];refine dR (λW=>dQ M.A w W [FG va [p],.mem k]) a.drew ?_;rw[show (Value.string ⟨#[70,108,97,116,101,68,101,99,111,100,101]⟩)=ae Ff.nFl from rfl];refine abV ?_;rw[show ai ([Ff.nFl][0]≠Ff.nFl)=au from rfl];simp only[gq,K4];refine B0 ?_;intro G a;rw[i_f,FL,aA om om];exact aU ⟨1,rfl,om,a⟩ (by show (0:Nat) < 1;decide)
 simp only[c,auT,i_f];obtain⟨E,B,t,a⟩:=a.bH 0 rfl;exact C _ _ E _ 0 a rfl (y.trans B) ⟨ov,va,rfl,d.le B,t⟩
namespace Cs
abbrev oC:List UInt8:=[84,121,112,101]
abbrev Ev:List UInt8:=[88,82,101,102]
abbrev gA:List UInt8:=[83,105,122,101]
abbrev kW:List UInt8:=[87]
abbrev fD:List UInt8:=[73,110,100,101,120]
abbrev BV:List UInt8:=[80,114,101,118]
def A0 (n:Int):Ob:=ob1 2 n 0 []
def J0 (l:List Int):Ob:=.mk 6 0 0 [] [] (l.map A0)
def flat (l:List (Int×Int)):List Int:=l.flatMap λr=>[r.1,r.2]
def size (l:List (Int×Int)):Int:=match l.getLast? with|some r=>r.1+r.2|none=>0
def bV (x:Sec):List (List UInt8×Ob):=
 [(oC,Ff.dG Ev),(gA,A0 (size (Tl.runs x.aR))),(kW,J0 [1,(wa x.aR:Nat),(wb x.aR:Nat)]),(fD,J0 (flat (Tl.runs x.aR)))]++if 0<=x.prev then [(BV,A0 x.prev)] else []
def Oy:Ob->List (List UInt8×Ob)->Ob×Int
|o,[]=>(o,0)
|o,p::r=>if (Vl.set o p.1 p.2).2≠0 then (Vl.ob0,(Vl.set o p.1 p.2).2) else Oy (Vl.set o p.1 p.2).1 r
def D0 (x:Sec):Ob×Int:=Oy (IB x.trailer) (bV x)
def row (l:List (List UInt8×Ob)):List Ob:=l.flatMap λp=>[Ff.dG p.1,p.2]
theorem SH:∀l:List (List UInt8×Ob),(row l).length=2*l.length
|[]=>rfl
|p::l=>by
  have:=SH l;show ((row l).length+1)+1=_;rw[avR];omega
theorem WI:∀{l:List (List UInt8×Ob)} {i:Nat} (hi:i < l.length) (h:2*i+1 < (row l).length),(row l)[2*i]'(om)=Ff.dG l[i].1∧(row l)[2*i+1]=l[i].2
|p::l,0,_,_=>⟨rfl,rfl⟩
|p::l,i+1,hi,h=>by
  have a:i < l.length:=by simpa using hi
  have e:row (p::l)=Ff.dG p.1::p.2::row l:=rfl;have c:2*i+1 < (row l).length:=by rw[SH];omega
  have:=WI a c;constructor
  ·have b:(row (p::l))[2*(i+1)]?=ax (Ff.dG l[i].1):=by
    rw[e,show 2*(i+1)=(2*i)+1+1 by omega,awH,awH,auX om,this.1]
   have:=avL.1 b;exact this.2
  ·have b:(row (p::l))[2*(i+1)+1]?=ax l[i].2:=by
    rw[e,show 2*(i+1)+1=(2*i+1)+1+1 by omega,awH,awH,auX om,this.2]
   have:=avL.1 b;exact this.2
end Cs
theorem apK {l:List (Int×Int)}(a:SlA M.A M.w v 2 l.length (rnsC l))(hi:i < l.length) :
  ∃p,(∀W,(mIA 49 v (ad (i:Int))).run ah W=.ok (.value (.pointer (ax p))) W)∧∀W,M.has W->(aG 83 (.pointer (ax p))).run ah W=.ok (.value (rnV l[i])) W:=by
 obtain⟨b,off,cap,rfl,_⟩:=bQ a.1 om;refine⟨⟨b,off+i*2,aw⟩,λW=>?_,λW e=>?_⟩
 ·have:=cR (P:=ah) (T:=49) (b:=b) (off:=off) (cap:=cap) (n:=l.length) (k:=.i64) (i:=(i:Int)) (w:=W) aAo szRn om om;rw[auW] at this;exact this
 ·obtain⟨h,c,d,he,f⟩:=bQ (a.now e) om;cases he;refine bC (AtV.agg amI (cs:=rnC l[i]) rfl λj u g=>?_);rw[axK];exact f _ _ (Eng.uY R3 hi g)
def intC (n:Int):List Value:=obC (Cs.A0 n) dY dY
def U9 (l:List Int):List Value:=l.flatMap intC
theorem OS (N:Mem):∀l:List Int,OVs N.A N.w (U9 l) (l.map Cs.A0)
|[]=>.nil
|n::l=>dX (tP (iB N 2 n 0 [])) (OS N l)
abbrev inR (v:aq)(l:List Int):Ent:=.urow 25 6 v l.length (U9 l)
section
variable {w:ao}{PK PK2:PKT}{K:VWP}{S:Nat->Prop}{w0:ao}{L T:List Ent}
theorem o_rn (a:dQ S w0 w L)(k:∀b w',dQ S w0 w' (.cells b (rnC (0,0)) 83::L)->K (af b 0) w'):DoX ah (iM 83) w PK K:=
 bB (λb=>af b 0) (rnC (0,0)) 83 (λ_=>by kernel_rfl) a k
theorem agC (j:Nat){x y:Int×Int}(a:dQ S w0 w L)(hi:L[j]?=ax (.cells b (rnC x) 83))(k:∀w',dQ S w0 w' (L.set j (.cells b (rnC y) 83))->K undef w') :
  DoX ah (aV 83 (af b 0) (rnV y)) w PK K:=gF j a hi (new:=rnC y) szRn (YA y) rfl k
theorem atJ {d:Int}(c:dQ S w0 w L)(k:∀b w',dQ S w0 w' (.cells b (w3C a d) 45::L)->K (af b 0) w'):DoX ah (AS 45 (w3V a d)) w PK K:=
 bB (λb=>af b 0) (w3C a d) 45 (λ_=>by kernel_rfl) c k
theorem aqP {d:Int}(hi:i < 3):DoX ah (mIx 45 (w3V a d) (ad (i:Int))) w PK K=K (ad ([1,a,d].getD i 0)) w:=by
 rcases (by omega:i=0∨i=1∨i=2) with rfl|rfl|rfl<;>exact aC krx
theorem asK (i:Nat){l:List Int}{n:Int}(a:dQ S w0 w L)(hi:L[i]?=ax (inR v l))(c:l.length<=1000000000)(k:∀v' w',dQ S w0 w' (L.set i (inR v' (l++[n])))->K v' w') :
  DoX ah (bJ 23 1 #[(0,obV (Cs.A0 n) dY dY)]) w PK λt w=>DoX ah (mB .append #[23,23] 23 cb #[v,t]) w PK2 K:=by
 refine bB (λb=>cW b 0 1 1) (intC n) 25 (λ_=>by kernel_rfl) a λnb d a=>?_;refine Ve (i+1) a (by rw[awH];exact hi) (a.sl 0 rfl 6 1 1 rfl) (mT _ rfl rfl) om λv' w2 a=>k v' w2 ?_;have e:inR v' (l++[n])=.urow 25 6 v' (l.length+1) (U9 l++intC n):=by
  unfold inR U9;rw[auU,axH,ayO];rfl
 rw[e];exact a.tail
theorem arY (i:Nat){l:List Int}{n m:Int}(a:dQ S w0 w L)(hi:L[i]?=ax (inR v l))(c:l.length<=1000000000)(k:∀v' w',dQ S w0 w' (L.set i (inR v' (l++[n,m])))->K v' w') :
  DoX ah (bJ 23 2 #[(0,obV (Cs.A0 n) dY dY),(1,obV (Cs.A0 m) dY dY)]) w PK λt w=>DoX ah (mB .append #[23,23] 23 cb #[v,t]) w PK2 K:=by
 refine bB (λb=>cW b 0 2 2) (intC n++intC m) 25 (λ_=>by kernel_rfl) a λnb d a=>?_;refine Ve (i+1) a (by rw[awH];exact hi) (a.sl 0 rfl 6 2 2 rfl) (λu hu=>?_) om λv' w2 a=>k v' w2 ?_
 ·rcases avZ.1 hu with h|h<;>exact mT _ rfl rfl u h
 ·have e:inR v' (l++[n,m])=.urow 25 6 v' (l.length+2) (U9 l++(intC n++intC m)):=by
   unfold inR U9;rw[auU,axH];rfl
  rw[e];exact a.tail
theorem asI {n:Int}{a c d e:aq}{f g:Ob}(h:dQ S w0 w L)
  (k:∀b w',dQ S w0 w' (.cells b (obC (Ff.dG Cs.oC) dY dY++obC (Ff.dG Cs.Ev) dY dY++obC (Ff.dG Cs.gA) dY dY++intC n++obC (Ff.dG Cs.kW) dY dY++obC f a c++obC (Ff.dG Cs.fD) dY dY++obC g d e) 25::L)->K (cW b 0 8 8) w') (i:a.oneCell'=av) (j:c.oneCell'=av) (l:d.oneCell'=av) (m:e.oneCell'=av) :
  DoX ah (bJ 23 8 #[(0,obV (Ff.dG Cs.oC) dY dY),(1,obV (Ff.dG Cs.Ev) dY dY),(2,obV (Ff.dG Cs.gA) dY dY),(3,obV (Cs.A0 n) dY dY),(4,obV (Ff.dG Cs.kW) dY dY),(5,obV f a c),(6,obV (Ff.dG Cs.fD) dY dY),(7,obV g d e)]) w PK K:=
 bB (λb=>cW b 0 8 8) _ 25 (λ_=>by kernel_rfl) h k
end
theorem za (l:List (Int×Int))(r:Int×Int):Cs.size (l++[r])=r.1+r.2:=by unfold Cs.size;rw[List.getLast?_append];rfl
theorem Oo {l:List (Int×Int)}(a:j < l.length):l.take (j+1)=l.take j++[l[j]]:=avP a
theorem zb (l:List (Int×Int))(r:Int×Int):Cs.flat (l++[r])=Cs.flat l++[r.1,r.2]:=by unfold Cs.flat;rw[axH,ayO]
theorem qt:∀l:List (Int×Int),(Cs.flat l).length=2*l.length
|[]=>rfl
|r::l=>by
  have:=qt l;show ((Cs.flat l).length+1)+1=_;rw[avR];omega
theorem oe:∀l:List Int,Ob.wts (l.map Cs.A0)<=6*l.length
|[]=>auY _
|n::l=>by
  have a:=oe l;have h:(Cs.A0 n).wt=6:=rfl;show (Cs.A0 n).wt+Ob.wts (l.map Cs.A0)<=_;rw[avR];omega
theorem rj (l:List Int):(Cs.J0 l).wt<=6*l.length+6:=by
 have h:=oe l;have e:(Cs.J0 l).wt=6+0+0+Ob.wts (l.map Cs.A0):=Vl.jO (Cs.J0 l);omega
theorem amV {S0:Nat->Prop}{Y:ao}{F s b2 b3:Nat}{c3:List aq}{x:Sec}{vs vk vc:aq}{ds:List aq}{ps:List (List UInt8×Ob)}{ok I:aq}{K:Ending->ao->Prop}{X:Ob×Int}
  (c:Cs.Oy o ps=X) (J:∀p∈ps,p.1.length<=10∧p.2.wt<=100000) (a6:ps.length<=5) (a:dQ M.A w Y [obE s o ok I,obE F ob0 dY dY,.mem N]) (hle:M.le N) (b:OV N.A N.w (obV o ok I) o) (t:o.wt<=1000000000)
  (n:SlA N.A N.w pv 6 (Cs.row ps).length ds) (g:OVs N.A N.w ds (Cs.row ps))
  (Z:∀(v:aq) (w':ao) (N:Mem) (L:List Ent) (i:Nat),dQ M.A w w' L->L[i]?=ax (.mem N)->M.le N->(∃v',v=Cr v' X.2∧OV N.A N.w v' X.1)->K (.returned v) w') :
  nD (af F 0) (ad 0) (af s 0) pv Y K:=by
 unfold nD iN;have a7:=Cs.SH ps;refine loop (λvs W=>∃(i:Nat) (o':Ob) (d e:aq) (k:Mem),vs=[ad 0,ad ((2*i:Nat):Int)]∧i<=ps.length∧Cs.Oy o' (ps.drop i)=X∧o'.wt<=1000000000+200000*i∧N.le k∧OV k.A k.w (obV o' d e) o'∧dQ M.A w W [obE s o' d e,obE F ob0 dY dY,.mem k]) (λvs _=>2*ps.length - n1 vs) ⟨0,o,ok,I,N,rfl,om,c,om,N.le_refl,b,a⟩ ?_;clear a c b t;rintro vs w2 ⟨i,o',d,e,k,rfl,hi,c,t,l,b,a⟩ _;simp only[EE,gd,iN,dx,ldx,bnx,stx,lnx,ecx];rw[aS avI ((n.le l).now (a.hasM 2 rfl))];simp only[rs];by_cases q:i < ps.length
 ·simp only[show ai (((2*i:Nat):Int) < ((Cs.row ps).length:Int))=av from auR om,i_t];have h1:2*i < (Cs.row ps).length:=om
  have h2:2*i+1 < (Cs.row ps).length:=om
  obtain⟨e1,e2⟩:=Cs.WI q h2;obtain⟨p1,q1,a8,b0,y,a1,O⟩:=QX (n.le l) (g.le l) h1;obtain⟨p2,q2,B,C,D,m,P⟩:=QX (n.le l) (g.le l) h2;obtain⟨b1,b5⟩:=J ps[i] (avD q);have a:=a.drew;refine⟨λW=>(obE s o' d e).is W∧k.has W,⟨a.at_ 0 rfl,a.hasM 2 rfl⟩,?_⟩;refine iJ (obV o' d e) (λW h=>bC (AtV.agg mQ (cs:=obC o' d e) rfl λj u hj=>by rw[avC];exact aJ (T:=25) h.1 hj)) ?_;refine aX _ y ?_;refine aX (af p1 (q1+3)) (λ_=>bE agY) ?_;refine iJ (ae (ps[i].1)) (λW h=>aB BZ (O W h.2 3 _ (by rw[e1];rfl))) ?_;refine aX (ad ((2*i+1:Nat):Int)) (λW=>by rw[Qz,aA om om];rfl) ?_;refine aX _ D ?_;refine iJ (obV (Cs.row ps)[2*i+1] B C) (λW h=>bC (AtV.agg mQ (cs:=obC (Cs.row ps)[2*i+1] B C) rfl (P W h.2))) ?_;rw[e2] at m ⊢;refine aY a 2 rfl (OR o' ps[i].2 _ _ ps[i].1 k _ om om om (a.hasM 2 rfl) b m) ?_;have E:=Vl.afF o' ps[i].1 ps[i].2;have Q:ps.drop i=ps[i]::ps.drop (i+1):=avW q;rw[Q,Cs.Oy] at c;generalize Vl.set o' ps[i].1 ps[i].2=R at c E;obtain⟨z,G⟩:=R;dsimp only at c E;rintro _ H w3 l2 ⟨zv,rfl,S⟩ a;obtain⟨U,V,b7,rfl,r⟩:=S.open;dsimp only at S r;unfold Cr;refine aX (obV z U V) (λ_=>by kernel_rfl) (aX (ad G) (λ_=>by kernel_rfl) ?_);refine bK 0 r.keys.one r.kids.one a rfl λw4 a=>?_;have a:dQ M.A w w4 [obE s z U V,obE F ob0 dY dY,.mem H]:=a;simp only[bO];by_cases f:G=0
  case neg=>
   rw[auP f] at c;simp only[auR (show G≠0 from f),i_t];rw[Qe];refine bK 1 rfl rfl a rfl λw5 a=>?_;exact eU 1 a rfl (Z _ _ H _ 2 a rfl ((hle.trans l).trans l2) ⟨_,by rw[<-c];rfl,by rw[<-c];exact CA H⟩)
  rw[auO (λh=>h f)] at c;simp only[auQ (show ¬G≠0 fromλh=>h f),i_f]
  try simp only[rs]
  rw[aA om om];exact aU ⟨i+1,z,U,V,H,by rw[show ((2*i:Nat):Int)+2=((2*(i+1):Nat):Int) by omega],om,c,om,l.trans l2,S,a⟩ (by simp[n1,RowKit.intOf];omega)
 simp only[show ai (((2*i:Nat):Int) < ((Cs.row ps).length:Int))=au from auQ om,i_f];have:i=ps.length:=om
 subst this;rw[List.drop_length,Cs.Oy] at c;rw[oV a 0 rfl];refine bK 1 (b.oneK) (b.oneC) a rfl λw3 a=>?_;exact eU 1 a rfl (Z _ _ k _ 2 a rfl (hle.trans l) ⟨_,by rw[<-c];rfl,by rw[<-c];exact b⟩)
theorem zd (x:Sec)(b:(Tl.runs x.aR).length<=8192):(∀p∈Cs.bV x,p.1.length<=10∧p.2.wt<=100000)∧(Cs.bV x).length<=5:=by
 have hi:∀n:Int,(Cs.A0 n).wt=6:=λ_=>rfl;have c:=rj [1,(Cs.wa x.aR:Nat),(Cs.wb x.aR:Nat)];have a:=rj (Cs.flat (Tl.runs x.aR));rw[qt] at a;have d:([1,((Cs.wa x.aR:Nat):Int),((Cs.wb x.aR:Nat):Int)]:List Int).length=3:=rfl;unfold Cs.bV;refine⟨λp hp=>?_,by
  split
  ·show (5:Nat)<=5;decide
  ·show (4:Nat)<=5;decide⟩
 rcases avZ.1 hp with hp|hp
 ·simp only[avB,awS,or_false] at hp;rcases hp with rfl|rfl|rfl|rfl
  ·exact⟨dc,dc⟩
  ·exact⟨by show (4:Nat)<=10;decide,by show (6:Nat)<=_;decide⟩
  ·exact⟨by show (1:Nat)<=10;decide,by show (Cs.J0 _).wt<=_;omega⟩
  ·exact⟨by show (5:Nat)<=10;decide,by show (Cs.J0 _).wt<=_;omega⟩
 ·split at hp
  ·simp only[avB,awS,or_false] at hp;subst hp;exact⟨by show (4:Nat)<=10;decide,by show (6:Nat)<=_;decide⟩
  ·cases hp
theorem Zu (x:Sec)(vs vk vc:aq)(M:Mem)(w:ao)(hb:x.aR.length<=8192)(hf:ahH x.aR)(T:∀r∈Tl.runs x.aR,0<=r.1∧r.1<=8191∧0<=r.2∧r.2<=1000000)(hw:x.trailer.wt<=100000000)(b8:(Cs.IB x.trailer).wt<=1000000000)(hM:M.has w)
  (U:SlA M.A M.w vs 4 x.aR.length (Il x.aR)) (H:OV M.A M.w (obV x.trailer vk vc) x.trailer) :
  lA ah 33 #[Mk x vs vk vc,w3V (Cs.wa x.aR:Nat) (Cs.wb x.aR:Nat)] M w (λr N=>∃v',r=Cr v' (Cs.D0 x).2∧OV N.A N.w v' (Cs.D0 x).1):=by
 have e3:=Tl.Ud x.aR;obtain⟨b9,c0⟩:=zd x om;refine aO hM λK hK=>L5 ?_;unfold I2 iN dx ldx fax stx alx lnx cx;refine aeA x U.one H.oneK H.oneC (dQ.memS hM) λb2 w1 c=>?_;refine atJ c λb3 w2 c=>?_;refine dF c λj w3 c=>?_;rw[Qy,abA c 2 rfl];refine aY c 3 rfl (Qt x.trailer _ M w3 om (c.hasM 3 rfl) H) λy N1 w4 l1 hy c=>?_;obtain⟨k,l,e4,rfl,V⟩:=hy.open;refine dF c λm w5 c=>?_;refine bK 0 V.keys.one V.kids.one c rfl λw6 c=>?_;have c:dQ M.A w w6 [obE m (Cs.IB x.trailer) k l,obE j ob0 dY dY,.cells b3 (w3C (Cs.wa x.aR:Nat) (Cs.wb x.aR:Nat)) 45,uN b2 x vs vk vc,.mem N1]:=c;rw[LD,Sw c 3 rfl];refine aY c 4 rfl (WR x.aR vs N1 w6 om hf (c.hasM 4 rfl) (U.le l1)) λrv E w7 l2 s c=>?_;have s:SlA E.A E.w rv 2 (Tl.runs x.aR).length (rnsC (Tl.runs x.aR)):=s;rw[aS aAo (s.now (c.hasM 4 rfl))];have c:=dQ.nilU c 25 6;have c:dQ M.A w w7 [inR dY (Cs.flat ((Tl.runs x.aR).take 0)),obE m (Cs.IB x.trailer) k l,obE j ob0 dY dY,.cells b3 (w3C (Cs.wa x.aR:Nat) (Cs.wb x.aR:Nat)) 45,uN b2 x vs vk vc,.mem E]:=c;have q:Cs.bV x=[(Cs.oC,Ff.dG Cs.Ev),(Cs.gA,Cs.A0 (Cs.size (Tl.runs x.aR))),(Cs.kW,Cs.J0 [1,(Cs.wa x.aR:Nat),(Cs.wb x.aR:Nat)]),(Cs.fD,Cs.J0 (Cs.flat (Tl.runs x.aR)))]++if 0<=x.prev then [(Cs.BV,Cs.A0 x.prev)] else []:=rfl
 unfold Cs.D0 at hK;generalize e5:Tl.runs x.aR=f at *;generalize ((Cs.wa x.aR:Nat):Int)=a at *;generalize ((Cs.wb x.aR:Nat):Int)=d at *;generalize Cs.IB x.trailer=tr at *;have I:∀i,0<=Cs.size (f.take i)∧Cs.size (f.take i)<=1008191:=by
  intro i;unfold Cs.size;cases h:(f.take i).getLast? with
 |none=>exact⟨Int.le_refl _,dc⟩
 |some r=>
   have:=T r (axF (List.mem_of_mem_getLast? h));show 0<=r.1+r.2∧r.1+r.2<=_;omega
 refine loop (λvs' W=>∃(i:Nat) (cv:aq),vs'=[ad (Cs.size (f.take i)),cv,ad (i:Int)]∧i<=f.length∧dQ M.A w W [inR cv (Cs.flat (f.take i)),obE m tr k l,obE j ob0 dY dY,.cells b3 (w3C a d) 45,uN b2 x vs vk vc,.mem E]) (λvs _=>f.length - (RowKit.intOf (vs.getD 2 undef)).toNat) ⟨0,dY,rfl,om,c⟩ ?_;clear c;rintro vs' w8 ⟨i,cv,rfl,hi,c⟩ _;simp only[EH,gd,rs,iN,ldx,bnx,iax,stx,alx];have X:=qt (f.take i);rw[avA] at X;by_cases Y:(i:Int) < (f.length:Int)
 ·simp only[auR Y,i_t];have t:i < f.length:=om
  have hr:=T f[i] (avD t);obtain⟨p,c1,c2⟩:=apK s t;rw[aC (c1 w8),aC (c2 w8 (c.hasM 5 rfl))];refine o_rn c λZ w9 c=>?_;refine agC 0 (y:=f[i]) c rfl λz c=>?_;have c:dQ M.A w z [.cells Z (rnC f[i]) 83,inR cv (Cs.flat (f.take i)),obE m tr k l,obE j ob0 dY dY,.cells b3 (w3C a d) 45,uN b2 x vs vk vc,.mem E]:=c;rw[aeX,aH aW (c.cell 0 rfl 0 rfl),agB,aH aW (c.cell 0 rfl 1 rfl),FL,aA om om];refine dR (λW=>dQ M.A w W [.cells Z (rnC f[i]) 83,inR cv (Cs.flat (f.take i)),obE m tr k l,obE j ob0 dY dY,.cells b3 (w3C a d) 45,uN b2 x vs vk vc,.mem E]) c.drew ?_;refine eZ _ (λ_=>agA) ?_;refine kE (ad f[i].1) (λW h=>aB aW (h.cell 0 rfl 0 rfl)) ?_;refine fC (obV (Cs.A0 f[i].1) dY dY) (λW h=>(uS f[i].1 W).mono λv w' ⟨O,P⟩=>⟨O,h.grow P⟩) ?_;refine eZ _ (λ_=>TG) ?_;refine kE (ad f[i].2) (λW h=>aB aW (h.cell 0 rfl 1 rfl)) ?_;refine fC (obV (Cs.A0 f[i].2) dY dY) (λW h=>(uS f[i].2 W).mono λv w' ⟨O,P⟩=>⟨O,h.grow P⟩) ?_;intro Q c;refine arY 1 c rfl om λcv' a1 c=>?_
  try simp only[rs]
  rw[aA om om];refine aU ⟨i+1,cv',?_,om,?_⟩ (by simp[RowKit.intOf];omega)
  ·rw[Oo t,za];rfl
  ·rw[Oo t,zb];exact c.tail
 simp only[auQ Y,i_f];have:i=f.length:=om
 subst this;rw[awI] at c;rw[AT (c.agg 3 rfl agg3)];have c:=dQ.nilU c 25 6;have I:=I f.length;rw[awI] at I X ⊢;show zr [dY,ad 0] w8 _;refine loop (λvs' W=>∃(i:Nat) (wv:aq),vs'=[wv,ad (i:Int)]∧i<=3∧dQ M.A w W [inR wv ([1,a,d].take i),inR cv (Cs.flat f),obE m tr k l,obE j ob0 dY dY,.cells b3 (w3C a d) 45,uN b2 x vs vk vc,.mem E]) (λvs _=>3 - n1 vs) ⟨0,dY,rfl,om,c⟩ ?_;clear c;rintro vs' w9 ⟨i,wv,rfl,hi,c⟩ _;simp only[EN,gd,rs,iN,dx,ldx,bnx,fax,apx,cx];by_cases h3:(i:Int) < 3
 ·simp only[auR h3,i_t];have c4:i < 3:=om
  show DoX ah (mIx 45 (w3V a d) (ad (i:Int))) w9 (pk K) _;rw[aqP c4];refine aI c (uS _ w9) ?_;rintro _ z rfl c;refine asK 0 c rfl (by rw[avA];omega) λc5 Q c=>?_
  try simp only[rs]
  rw[aA om om];refine aU ⟨i+1,c5,rfl,om,?_⟩ (by simp[n1,RowKit.intOf];omega);have e:([1,a,d]:List Int).take (i+1)=[1,a,d].take i++[([1,a,d]:List Int).getD i 0]:=by
   rcases (by omega:i=0∨i=1∨i=2) with rfl|rfl|rfl<;>rfl
  rw[e];exact c
 simp only[auQ h3,i_f];have:i=3:=om
 subst this;have c:dQ M.A w w9 [inR wv [1,a,d],inR cv (Cs.flat f),obE m tr k l,obE j ob0 dY dY,.cells b3 (w3C a d) 45,uN b2 x vs vk vc,.mem E]:=c;refine aI c (iI Cs.oC w9) ?_;rintro _ z rfl c;refine aI c (iI Cs.Ev z) ?_;rintro _ Q rfl c;refine aI c (iI Cs.gA Q) ?_;rintro _ a1 rfl c;refine aI c (uS (Cs.size f) a1) ?_;rintro _ c6 rfl c;refine aI c (iI Cs.kW c6) ?_;rintro _ R rfl c;obtain⟨N3,l3,c7,c⟩:=c.bH 5 rfl;have c:dQ M.A w R [inR cv (Cs.flat f),obE m tr k l,obE j ob0 dY dY,.cells b3 (w3C a d) 45,uN b2 x vs vk vc,.mem N3]:=c;obtain⟨N4,l4,c8,c⟩:=c.bH 4 rfl;have c:dQ M.A w R [obE m tr k l,obE j ob0 dY dY,.cells b3 (w3C a d) 45,uN b2 x vs vk vc,.mem N4]:=c;have e6:=oe [1,a,d];have e7:=oe (Cs.flat f);have e8:([1,a,d]:List Int).length=3:=rfl;refine aY c 4 rfl (Px ([1,a,d].map Cs.A0) wv _ N4 R om (c.hasM 4 rfl) (by rw[avS];exact c7.le l4) (OS N4 _)) λz1 N5 c9 l5 B c=>?_;obtain⟨a6,a7,e9,rfl,F⟩:=B.open;refine aI c (iI Cs.fD c9) ?_;rintro _ e0 rfl c;refine aY c 4 rfl (Px ((Cs.flat f).map Cs.A0) cv _ N5 e0 om (c.hasM 4 rfl) (by rw[avS];exact c8.le l5) (OS N5 _)) λz2 o h0 l6 a8 c=>?_;obtain⟨b0,b1,h4,rfl,G⟩:=a8.open;refine asI (n:=Cs.size f) c (λnb e1 c=>?_) F.keys.one F.kids.one G.keys.one G.kids.one;have c:=c.toU 6 8 8 rfl om om;have B:=B.le l6;have g:=dX (dX (dX (dX (dX (dX (dX (tP (iB o 5 0 0 Cs.oC)) (tP (iB o 5 0 0 Cs.Ev))) (tP (iB o 5 0 0 Cs.gA))) (tP (iB o 2 (Cs.size f) 0 []))) (tP (iB o 5 0 0 Cs.kW))) (tP B)) (tP (iB o 5 0 0 Cs.fD))) (tP a8);have c:dQ M.A w e1 [.urow 25 6 (cW nb 0 8 8) 8 (obC (ob1 5 0 0 Cs.oC) dY dY++obC (ob1 5 0 0 Cs.Ev) dY dY++obC (ob1 5 0 0 Cs.gA) dY dY++obC (ob1 2 (Cs.size f) 0 []) dY dY++obC (ob1 5 0 0 Cs.kW) dY dY++obC (.mk 6 0 0 [] [] ([1,a,d].map Cs.A0)) a6 a7++obC (ob1 5 0 0 Cs.fD) dY dY++obC (.mk 6 0 0 [] [] ((Cs.flat f).map Cs.A0)) b0 b1),obE m tr k l,obE j ob0 dY dY,.cells b3 (w3C a d) 45,uN b2 x vs vk vc,.mem o]:=c;generalize (obC (ob1 5 0 0 Cs.oC) dY dY++obC (ob1 5 0 0 Cs.Ev) dY dY++obC (ob1 5 0 0 Cs.gA) dY dY++obC (ob1 2 (Cs.size f) 0 []) dY dY++obC (ob1 5 0 0 Cs.kW) dY dY++obC (.mk 6 0 0 [] [] ([1,a,d].map Cs.A0)) a6 a7++obC (ob1 5 0 0 Cs.fD) dY dY++obC (.mk 6 0 0 [] [] ((Cs.flat f).map Cs.A0)) b0 b1)=b5 at c g;have g:OVs o.A o.w b5 (Cs.row [(Cs.oC,Ff.dG Cs.Ev),(Cs.gA,Cs.A0 (Cs.size f)),(Cs.kW,Cs.J0 [1,a,d]),(Cs.fD,Cs.J0 (Cs.flat f))]):=g;have b7:=(((l1.trans l2).trans l3).trans l4).trans (l5.trans l6);have e2:OV o.A o.w (obV tr k l) tr:=((((hy.le l2).le l3).le l4).le l5).le l6;have fin:∀{W:ao} {N:Mem} {pv:aq} {ps:List (List UInt8×Ob)} {ds:List aq},ps=Cs.bV x->o.le N->dQ M.A w W [obE m tr k l,obE j ob0 dY dY,.cells b3 (w3C a d) 45,uN b2 x vs vk vc,.mem N]->SlA N.A N.w pv 6 (Cs.row ps).length ds->OVs N.A N.w ds (Cs.row ps)->nD (af j 0) (ad 0) (af m 0) pv W K:=by
  intro W N pv ps ds he hl c h1 h2;subst he;have c:dQ M.A w W ([obE m tr k l,obE j ob0 dY dY]++([.cells b3 (w3C a d) 45,uN b2 x vs vk vc]++[.mem N])):=c;have c:=c.front.tail.tail;exact amV (S0:=M.A) (b2:=b2) (b3:=b3) (c3:=[]) (x:=x) (vs:=vs) (vk:=vk) (vc:=vc) rfl b9 c0 c (b7.trans hl) (e2.le hl) b8 h1 h2 hK
 refine join λJ hJ=>?_;rw[NA,aH aW (c.cell 4 rfl 8 rfl)];simp only[rs];by_cases C:0<=x.prev
 ·simp only[auR C,i_t];refine dR (λW=>dQ M.A w W [.urow 25 6 (cW nb 0 8 8) 8 b5,obE m tr k l,obE j ob0 dY dY,.cells b3 (w3C a d) 45,uN b2 x vs vk vc,.mem o]) c.drew ?_;refine fC (obV (Ff.dG Cs.BV) dY dY) (λW h=>(iI Cs.BV W).mono λv w' ⟨O,P⟩=>⟨O,h.grow P⟩) ?_;refine eZ _ (λ_=>bE fse3) ?_;refine kE (ad x.prev) (λW h=>aB aW (h.cell 4 rfl 8 rfl)) ?_;refine fC (obV (Cs.A0 x.prev) dY dY) (λW h=>(uS x.prev W).mono λv w' ⟨O,P⟩=>⟨O,h.grow P⟩) ?_;intro h5 c;refine bB (λb=>cW b 0 2 2) (obC (Ff.dG Cs.BV) dY dY++intC x.prev) 25 (λ_=>by kernel_rfl) c λh6 h7 c=>?_;refine Ve 1 c rfl (c.sl 0 rfl 6 2 2 rfl) (λu hu=>by rcases avZ.1 hu with h|h<;>exact mT _ rfl rfl u h) om λpv h8 c=>?_;have c:=c.tail;obtain⟨N7,l7,S,c⟩:=dQ.bH (L:=[obE m tr k l,obE j ob0 dY dY,.cells b3 (w3C a d) 45,uN b2 x vs vk vc,.mem o]) c 4 rfl;have D:=dX (g.le l7) (dX (tP (iB N7 5 0 0 Cs.BV)) (tP (iB N7 2 x.prev 0 [])));refine hJ _ _ λ_=>?_;simp only[gd];exact fin (ps:=[(Cs.oC,Ff.dG Cs.Ev),(Cs.gA,Cs.A0 (Cs.size f)),(Cs.kW,Cs.J0 [1,a,d]),(Cs.fD,Cs.J0 (Cs.flat f))]++[(Cs.BV,Cs.A0 x.prev)]) (by rw[q,auP C]) l7 c S D
 ·simp only[auQ C,i_f];obtain⟨N7,l7,S,c⟩:=dQ.bH (L:=[obE m tr k l,obE j ob0 dY dY,.cells b3 (w3C a d) 45,uN b2 x vs vk vc,.mem o]) c 4 rfl;refine hJ _ _ λ_=>?_;simp only[gd];exact fin (ps:=[(Cs.oC,Ff.dG Cs.Ev),(Cs.gA,Cs.A0 (Cs.size f)),(Cs.kW,Cs.J0 [1,a,d]),(Cs.fD,Cs.J0 (Cs.flat f))]) (by rw[q,auO C];rfl) l7 c S (g.le l7)
namespace Cs
def inr (o:Ob)(most:Int):Prop:=o.k=2∧0<=o.n∧o.n<=most
instance (o:Ob) (most:Int):Decidable (inr o most):=inferInstanceAs (Decidable (_∧_))
def index:Int->List Ob->Option (List (Int×Int))
|_,[]=>ax []
|_,[_]=>aw
|up,a::b::r=>if inr a 2147483647∧inr b 2147483647∧up<=a.n∧a.n+b.n<=8192 then (index (a.n+b.n) r).map ((a.n,b.n)::·) else aw
theorem Qi:∀{l:List Ob} {up:Int},l.length % 2=1->index up l=aw
|[],_,h=>by cases h
|[_],_,_=>rfl
|a::b::r,up,h=>by
  unfold index;rw[Qi (l:=r) (by simp only[avR] at h;omega)];split<;>rfl
end Cs
def upC:PanicEntry:={ v:=.iface 78 (.agg #[]),recovered:=au }
theorem apF:jZ ah 78=true:=krx
theorem ajA (w:ao):Ret ah 38 #[.bool av] w (λv w'=>v=.tuple #[]∧w=w'):=by
 refine aL λK a=>CU ?_;unfold BX nz;simp only[rs,avY,i_f];exact a _ _ ⟨rfl,rfl⟩
theorem ahD (w:ao):Pan ah 38 #[.bool au] w (λc w'=>c=[upC]∧w=w'):=by
 refine TH λK a=>CU ?_;unfold BX nz;simp only[rs,awA,i_t];have b:∀{PK:PKT} {K:VWP},DoX ah (aN 78 #[]) w PK K=K (.agg #[]) w:=aC krx;rw[b,KP apF,Ib];exact a _ _ ⟨rfl,rfl⟩
section
variable {w:ao}{PK:PKT}{K:VWP}{S:Nat->Prop}{w0:ao}{L:List Ent}
theorem kS (a:q=av->K (.tuple #[]) w)(b:q=au->PK [upC] w):eN ah 38 #[.bool q] w PK K:=by
 cases q with
|true=>exact zq (ajA w) (a rfl)
|false=>exact acS (ahD w) λc w' ⟨d,hw⟩=>by subst d;subst hw;exact b rfl
theorem K8 {most:Int}(a:dQ S w0 w L)(e:vk.oneCell'=av)(f:vc.oneCell'=av)(i:0<=most∧most<=2147483647)
  (g:Cs.inr o most->∀W,dQ S w0 W L->K (ad o.n) W) (d:¬Cs.inr o most->∀W,dQ S w0 W L->PK [upC] W):eN ah 40 #[obV o vk vc,ad most] w PK K:=by
 refine⟨Ka ?_⟩;unfold HK nz;refine dD o e f a λj b a=>?_;rw[cO,zn a 0 rfl];simp only[rs];by_cases c:o.k=2
 case neg=>
  simp only[auQ c,rs,iO];exact kS (λh=>by cases h) λ_=>d (λh=>c h.1) b a.tail
 simp only[auR c,rs];rw[oA,Dr a 0 rfl];simp only[rs];by_cases a2:0<=o.n
 case neg=>
  simp only[auQ a2,rs,iO];exact kS (λh=>by cases h) λ_=>d (λh=>a2 h.2.1) b a.tail
 simp only[auR a2,rs];rw[oA,Dr a 0 rfl];simp only[rs];refine kS (λh=>?_) λh=>d (λk=>(avU h) k.2.2) b a.tail;rw[oA,Dr a 0 rfl];exact g ⟨c,a2,avG h⟩ b a.tail
theorem ZF (a:dQ S w0 w L)(c:vk.oneCell'=av)(d:vc.oneCell'=av)
  (e:o.k=6->∀W,dQ S w0 W L->K vc W) (f:¬o.k=6->∀W,dQ S w0 W L->PK [upC] W):eN ah 41 #[obV o vk vc] w PK K:=by
 refine⟨Kq ?_⟩;unfold HH nz;refine dD o c d a λg b a=>?_;rw[cO,zn a 0 rfl];simp only[rs];refine kS (λh=>?_) λh=>f (avU h) b a.tail;rw[eW,bW a 0 rfl];exact e (avG h) b a.tail
theorem ahC {l:List Ob}(a:dQ S w0 w (.mem M::L))(b:Jh M v l cs)(Q:l.length<=1000000000)
  (C:∀ps,Cs.index 0 l=ax ps->∀N pv W,M.le N->SlA N.A N.w pv 2 ps.length (rnsC ps)->dQ S w0 W (.mem N::L)->K pv W)
  (u:Cs.index 0 l=aw->∀W,dQ S w0 W (.mem M::L)->PK [upC] W):eN ah 42 #[v] w PK K:=by
 refine⟨Ky ?_⟩;unfold GX iN bnx lnx ecx cx;rw[wI b];have hm:(l.length:Int).tmod 2=((l.length % 2:Nat):Int):=by rw[aAD om];omega
 rw[Ep dc,hm];simp only[rs];refine kS (λhe=>?_) λhe=>u (Cs.Qi (by have:=avU he;omega)) w a;have he:=avG he;have a:=dQ.nilU a 83 2;have a:dQ S w0 w (HT dY []::.mem M::L):=a;generalize c:Cs.index 0 l=X at C u;refine loop (λvs W=>∃(i:Nat) (ov:aq) (out:List (Int×Int)) (up:Int),vs=[ov,ad up,ad ((2*i:Nat):Int)]∧2*i<=l.length∧(Cs.index up (l.drop (2*i))).map (out++·)=X∧(0<=up∧up<=8192)∧out.length=i∧dQ S w0 W (HT ov out::.mem M::L)) (λvs _=>l.length - (RowKit.intOf (vs.getD 2 undef)).toNat) ⟨0,dY,[],0,rfl,om,by rw[<-c];cases h:Cs.index 0 l<;>simp[h],om,rfl,a⟩ ?_;clear a c;rintro vs F ⟨i,ov,out,up,rfl,hi,c,G,x,a⟩ _;simp only[De,gd,iN,dx,bnx,lnx,apx,gtx,etx,cx];rw[wI b];simp only[rs];by_cases f:((2*i:Nat):Int) < (l.length:Int)
 case neg=>
  simp only[auQ f,i_f];have:2*i=l.length:=om
  rw[this,List.drop_length,Cs.index] at c;obtain⟨N,hle,H,a⟩:=a.bH 0 rfl;refine C out (by rw[<-c];simp) N ov F hle ?_ a;exact H
 simp only[auR f,i_t];have D:2*i < l.length:=om
 have E:2*i+1 < l.length:=om
 obtain⟨R,T,g,j,k,d,y⟩:=QX b.sl b.all D;obtain⟨U,V,m,o,p,e,z⟩:=QX b.sl b.all E;have I:l.drop (2*i)=l[2*i]::l[2*i+1]::l.drop (2*(i+1)):=by
  rw[avW D,avW E,show 2*(i+1)=2*i+1+1 by omega]
 rw[I,Cs.index] at c;have bad:∀{W},¬(Cs.inr l[2*i] 2147483647∧Cs.inr l[2*i+1] 2147483647∧up<=l[2*i].n∧l[2*i].n+l[2*i+1].n<=8192)->dQ S w0 W (HT ov out::.mem M::L)->PK [upC] W:=by
  intro W h a;rw[auO h] at c;exact u (by rw[<-c];rfl) W a.tail
 have a:=a.drew;refine⟨λW=>M.has W,a.hasM 1 rfl,?_⟩;refine aX _ k ?_;refine iJ (obV l[2*i] g j) (λW h=>bC (AtV.agg mQ (cs:=obC l[2*i] g j) rfl (y W h))) ?_;refine aX (ad ((2*i+1:Nat):Int)) (λW=>by rw[Qz,aA om om];rfl) ?_;refine aX _ p ?_;refine iJ (obV l[2*i+1] m o) (λW h=>bC (AtV.agg mQ (cs:=obC l[2*i+1] m o) rfl (z W h))) ?_;refine K8 a d.oneK d.oneC dc (λq w2 a=>?_) (λq W a=>?_)
 rotate_left
 ·repeat refineλ_=>?_
  exact bad (λh=>q h.1) a
 refine⟨a.hasM 1 rfl,?_⟩;refine K8 a e.oneK e.oneC dc (λs w3 a=>?_) (λs W a=>?_)
 rotate_left
 ·repeat refineλ_=>?_
  exact bad (λh=>s h.2.1) a
 refine⟨a.hasM 1 rfl,?_⟩;have J:=q.2;have O:=s.2;simp only[rs];by_cases t:up<=l[2*i].n
 case neg=>
  simp only[auQ t,rs,iO];exact kS (λh=>by cases h) λ_=>bad (λh=>t h.2.2.1) a
 simp only[auR t,rs];rw[aA om om];refine kS (λa2=>?_) λa2=>bad (λh=>(avU a2) h.2.2.2) a;have a2:=avG a2;rw[auP ⟨q,s,t,a2⟩] at c;have P:∀{PK:PKT} {K:VWP},DoX ah (aN 83 #[(0,ad l[2*i].n),(1,ad l[2*i+1].n)]) w3 PK K=K (rnV (l[2*i].n,l[2*i+1].n)) w3:=aC krx;rw[P];refine afD 0 a rfl om λB Y a=>?_
 try simp only[rs]
 rw[aA om om];refine aU ⟨i+1,B,out++[(l[2*i].n,l[2*i+1].n)],l[2*i].n+l[2*i+1].n,by rw[show ((2*i:Nat):Int)+2=((2*(i+1):Nat):Int) by omega],om,?_,om,by rw[auU,x];rfl,a⟩ (by simp[RowKit.intOf];omega);rw[<-c];cases Cs.index (l[2*i].n+l[2*i+1].n) (l.drop (2*(i+1))) with
|none=>rfl
|some r=>simp
end
end
section
open Go Eng
namespace Tl
theorem NF:∀{l:List Slt} {last:Option Int},AQ last l=0->∀x∈l,okS x=0
|y::l,last,h,x,b=>by
  unfold AQ at h;by_cases a:okS y≠0
  ·rw[auP a] at h;exact absurd h a
  rw[auO a] at h;split at h
  ·cases h
  split at h
  ·cases h
  rcases avB.1 b with rfl|b
  ·exact aAA.1 a
  ·exact NF h x b
theorem Q5 {l:List Slt}(h:check l=0):∀x∈l,okS x=0:=NF h
theorem afP {x:Slt}(h:okS x=0):(0<=x.num∧x.num<=8191)∧(0<=x.kind∧x.kind<=2)∧(0<=x.a∧x.a<=2147483647)∧(0<=x.b∧x.b<=65535):=by
 unfold okS at h;split at h
 ·cases h
 split at h
 ·cases h
 split at h
 ·split at h
  ·cases h
  ·omega
 ·split at h
  ·cases h
  ·omega
theorem ahY {l:List Slt}(h:check l=0):∀r∈runs l,0<=r.1∧r.1<=8191∧0<=r.2∧r.2<=l.length:=by
 intro r e;obtain⟨g,b,rfl⟩:=awD.1 e;obtain⟨d,f⟩:=Lk l;obtain⟨c,_⟩:=f g b;have a:∀x∈g,x∈l:=λx i=>by rw[<-d];exact List.mem_flatten.2 ⟨g,b,i⟩
 have hlen:g.length<=l.length:=by
  rw[<-d];exact (List.sublist_flatten_of_mem b).length_le
 cases g with
|nil=>exact absurd rfl c
|cons x g=>
  have:=afP (Q5 h x (a x (axR ..)));show 0<=x.num∧x.num<=8191∧(0:Int)<=((x::g).length:Int)∧((x::g).length:Int)<=_;omega
end Tl
theorem acE {l:List Slt}(h:Tl.check l=0):ahH l:=λx a=>by
 have:=Tl.afP (Tl.Q5 h x a);omega
namespace Cs
def zL (s:Slt)(a b:Nat):List UInt8:=num s.kind 1++num s.a a++num s.b b
def Hi (l:List Slt)(a b:Nat):List UInt8:=l.flatMap λs=>zL s a b
def rows (l:List Slt):List UInt8:=Hi l (wa l) (wb l)
def pm (l:List Slt):Pm:=⟨12,1,1+(wa l:Nat)+(wb l:Nat)⟩
theorem RJ (s:Slt)(a b:Nat):(zL s a b).length=1+a+b:=by unfold zL;rw[auU,auU,yW,yW,yW]
theorem Rh (a b:Nat):∀l:List Slt,(Hi l a b).length=l.length*(1+a+b)
|[]=>by simp[Hi]
|s::l=>by
  show (zL s a b++Hi l a b).length=_;rw[auU,RJ,Rh a b l,avR,axZ];omega
theorem alQ (l:List Slt):wa l<=4:=amT _
theorem aoS (l:List Slt):wb l<=4:=amT _
theorem asF (l:List Slt):pm l≠Ff.qY:=λh=>by
 have:=congrArg Pm.p h;exact absurd this (by show ¬(12:Int)=1;decide)
theorem pm_I (l:List Slt):Ff.pmI (pm l):=by
 have a:=alQ l;have b:=aoS l;refine⟨by show (-2147483647:Int)<=12∧(12:Int)<=2147483647;decide,by show (-2147483647:Int)<=1∧(1:Int)<=2147483647;decide,?_⟩;refine⟨?_,?_⟩
 ·show -2147483647<=(1:Int)+(wa l:Nat)+(wb l:Nat);omega
 ·show (1:Int)+(wa l:Nat)+(wb l:Nat)<=2147483647;omega
theorem acA (o:Ob):(IB o).wt<=o.wt*3+100:=by
 have w:(ofL []).wt=6:=rfl;unfold IB;split
 ·omega
 have f:∀k:List UInt8,((Vl.get o k).getD Vl.ob0).wt<=o.wt:=λk=>Vl.aeU;have g:∀a:List (List UInt8),(∀k∈a,k.length<=10)->(ofL (has o a)).wt<=6+(o.wt+11)*a.length:=by
  intro a
  induction a with
 |nil=>intro _;show (6:Nat)<=_;omega
 |cons k a c=>
   intro d;have c:=c λq i=>d q (awR _ i);have x:=d k (axR ..);have b:=f k;rw[avR,Nat.mul_add];cases h:Vl.get o k with
  |none=>
    have e:has o (k::a)=has o a:=by unfold has;rw[List.filterMap_cons,h];rfl
    rw[e];omega
  |some v=>
    rw[h] at b;have e:has o (k::a)=(k,v)::has o a:=by unfold has;rw[List.filterMap_cons,h];rfl
    have j:=Vl.jO (ofL ((k,v)::has o a));have l:=Vl.jO (ofL (has o a));have m:(ofL ((k,v)::has o a)).keys=k::(ofL (has o a)).keys:=rfl;have n:(ofL ((k,v)::has o a)).kids=v::(ofL (has o a)).kids:=rfl;have p:(ofL ((k,v)::has o a)).s=[]:=rfl;have r:(ofL (has o a)).s=[]:=rfl;have t:Pl.tot (k::(ofL (has o a)).keys)=k.length+1+Pl.tot (ofL (has o a)).keys:=by simp[Pl.tot]
    have u:Ob.wts (v::(ofL (has o a)).kids)=v.wt+Ob.wts (ofL (has o a)).kids:=rfl;rw[e];rw[m,n,p,t,u] at j;rw[r] at l;have b:v.wt<=o.wt:=b;omega
 have:=g cr dc;rw[show cr.length=3 from rfl] at this;omega
end Cs
end
section
open Eng Go.RowKit
namespace Ff
def encF (o:Ob)(p:Pm)(D:List UInt8):Ob×Int:=
 if (plain o D).2≠0 then plain o D
 else if (Vl.set (plain o D).1 cT (dG nFl)).2≠0 then (Vl.ob0,(Vl.set (plain o D).1 cT (dG nFl)).2)
 else if (Vl.set (Vl.set (plain o D).1 cT (dG nFl)).1 gH (pE p)).2≠0 then (Vl.ob0,(Vl.set (Vl.set (plain o D).1 cT (dG nFl)).1 gH (pE p)).2)
 else ((Vl.set (Vl.set (plain o D).1 cT (dG nFl)).1 gH (pE p)).1,0)
end Ff
end
end Go.Proofs.YtkghomgfocpgeaaGreatDoor



namespace Go.Proofs.YtkghomgfocpgeaaGreatDoor
variable{D E:TypeId}{K:VWP}{M N:Eng.Mem}{P:Program}{PK:PKT}{W w:ao}{a colors:Int}{above key:List UInt8}{args ca fa:Array aq}{b cap f i j:Nat}{cb:Array Bool}{cs cur:List aq}{l:List Nat}{o:Ob}{pv t0 v v' va vc vk:aq}{q:Bool}{u:FrameMode}{x:Pm}{xo yo:Operand}{t0 t1:aq}{k0:Eng.KT}
section
open Eng Go.RowKit
namespace Cs
def why (x:Sec):Int:=
 if Tl.check x.aR≠0 then Tl.check x.aR
 else if x.own < 1∨8191 < x.own∨x.prev < -1∨2147483647 < x.prev then 1
 else if Vl.check 1 x.trailer≠0 then Vl.check 1 x.trailer
 else if x.trailer.k≠7 then 10 else if (D0 x).2≠0 then (D0 x).2 else 0
theorem Vw (l:List Slt)(s:Slt)(a b:Nat):Hi (l++[s]) a b=Hi l a b++zL s a b:=by unfold Hi;rw[axH,ayO]
end Cs
theorem Ul :DoX ah (mFA 34 (af b 0) 5) w PK K=K (af b 10) w:=aQ fse5
theorem acR {off:Nat}(hi:i < 3):(mIA 45 (af b off) (ad (i:Int))).run ah w=.ok (.value (af b (off+i))) w:=by
 rcases (by omega:i=0∨i=1∨i=2) with rfl|rfl|rfl<;>kernel_rfl
theorem m_k3 {k b:Int}:DoX ah (aN 45 #[(0,ad k),(1,ad a),(2,ad b)]) w PK K=K (.agg #[ad k,ad a,ad b]) w:=aC krx
theorem aqR {k b:Int}(hi:i < 3):DoX ah (mIx 45 (.agg #[ad k,ad a,ad b]) (ad (i:Int))) w PK K=K (ad ([k,a,b].getD i 0)) w:=by
 rcases (by omega:i=0∨i=1∨i=2) with rfl|rfl|rfl<;>exact aC krx
structure Stm where
 w:List Int
 bV:List (Int×Int)
 prev:Int
namespace Cs
def got (o:Ob)(k:List UInt8):Ob:=(Vl.get o k).getD Vl.ob0
def mX (o:Ob):Option (List (Int×Int)):=match Vl.get o fD with|none=>ax [(0,(got o gA).n)]|some v=>if v.k=6 then index 0 v.kids else aw
def uU (o:Ob):Option Int:=match Vl.get o BV with|none=>ax (-1)|some v=>if inr v 2147483647 then ax v.n else aw
def isX (o:Ob):Prop:=o.k=9∧((got o oC).k=5∧(got o oC).s=Ev)∧inr (got o gA) 8192∧(got o kW).k=6∧(got o kW).kids.length=3∧∀x∈(got o kW).kids,inr x 4
instance (o:Ob):Decidable (isX o):=inferInstanceAs (Decidable (_∧_))
def keys (o:Ob):Option Stm:=
 if isX o then (mX o).bind λp=>(uU o).map λq=>⟨(got o kW).kids.map Ob.n,p,q⟩ else aw
def ws (l:List Int)(i:Nat):List Int:=l.take i++List.replicate (3 - i) 0
theorem Jr {k:List UInt8}:(got o k).wt<=o.wt:=Vl.aeU
end Cs
def Cf (x:Stm)(pv:aq):List Value:=x.w.map (.int .i64 ·)++[pv,ad x.prev]
def stmV (x:Stm)(pv:aq):Value:=.agg (Cf x pv).toArray
abbrev yX (b:Nat)(x:Stm)(pv:aq):Ent:=.cells b (Cf x pv) 51
def Iz:Stm:=⟨[0,0,0],[],0⟩
theorem ahJ {l:List Int}{ps:List (Int×Int)}{q:Int}(h:l.length=3)(hi:i < l.length):(Cf ⟨Cs.ws l i,ps,q⟩ pv).set (0+i) (ad l[i])=Cf ⟨Cs.ws l (i+1),ps,q⟩ pv:=by
 match l,h with
|[a,b,c],_=>rcases (by have:i < 3:=hi;omega:i=0∨i=1∨i=2) with rfl|rfl|rfl<;>rfl
theorem ws3 {l:List Int}(h:l.length=3):Cs.ws l 3=l∧∀i,(Cs.ws l i).length=3∨3 < i:=by
 match l,h with
|[a,b,c],_=>exact⟨rfl,λi=>by
   rcases (by omega:i=0∨i=1∨i=2∨i=3∨3 < i) with rfl|rfl|rfl|rfl|h
   ·exact .inl rfl
   ·exact .inl rfl
   ·exact .inl rfl
   ·exact .inl rfl
   ·exact .inr h⟩
theorem aeE {l:List Int}{ps ps':List (Int×Int)}{q:Int}{d:aq}(h:l.length=3):(Cf ⟨l,ps,q⟩ pv).set 3 d=Cf ⟨l,ps',q⟩ d:=by
 match l,h with
|[a,b,c],_=>rfl
theorem aaY {l:List Int}{ps:List (Int×Int)}{q d:Int}(h:l.length=3):(Cf ⟨l,ps,q⟩ pv).set 4 (ad d)=Cf ⟨l,ps,d⟩ pv:=by
 match l,h with
|[a,b,c],_=>rfl
theorem uK {x:Stm}(h:x.w.length=3):(Cf x pv).length=5:=by unfold Cf;rw[auU,avS,h];rfl
theorem adI {x:Stm}(h:pv.oneCell'=av):∀v∈Cf x pv,v.oneCell'=true:=by
 intro v a;rcases avZ.1 a with a|a
 ·obtain⟨n,_,rfl⟩:=awD.1 a;rfl
 ·simp only[avB,awS,or_false] at a;rcases a with rfl|rfl
  ·exact h
  ·rfl
theorem Xi {x:Stm}(h:x.w.length=3):(Cf x pv)[3]?=ax pv∧(Cf x pv)[4]?=ax (ad x.prev)∧∀i (hi:i < x.w.length),(Cf x pv)[i]?=ax (ad x.w[i]):=by
 obtain⟨l,ps,q⟩:=x
 match l,h with
|[a,b,c],_=>
  refine⟨rfl,rfl,λi hi=>?_⟩;rcases (by have:i < 3:=hi;omega:i=0∨i=1∨i=2) with rfl|rfl|rfl<;>rfl
theorem Ys:By ah 51=ax 5:=krx
theorem asO:(Tryz.prog.info? 51).map (·.size)=ax 5:=krx
theorem fst0:uM ah 51 0=ax 0:=krx
theorem fst1:uM ah 51 1=ax 3:=krx
theorem fst2:uM ah 51 2=ax 4:=krx
theorem nRns:dP ah 49=true:=krx
section
variable {w:ao}{PK PK2 PK3 PK4 PK5 PK6:PKT}{K:VWP}{S:Nat->Prop}{w0:ao}{L:List Ent}
theorem afZ :DoX ah (mFA 51 (af b 0) 0) w PK K=K (af b 0) w:=aQ fst0
theorem ZX :DoX ah (mFA 51 (af b 0) 1) w PK K=K (af b 3) w:=aQ fst1
theorem agG :DoX ah (mFA 51 (af b 0) 2) w PK K=K (af b 4) w:=aQ fst2
theorem WE (a:dQ S w0 w L)(k:∀b w',dQ S w0 w' (yX b Iz dY::L)->K (af b 0) w'):DoX ah (iM 51) w PK K:=
 bB (λb=>af b 0) (Cf Iz dY) 51 (λ_=>by kernel_rfl) a k
theorem auA:DoX ah (aN 51 #[(2,ad (-1))]) w PK K=K (stmV ⟨[0,0,0],[],-1⟩ dY) w:=aC krx
theorem RI (j:Nat){c:List aq}{x:Stm}(d:x.w.length=3)(hp:pv.oneCell'=av)(g:c.length=5)(a:dQ S w0 w L)(hi:L[j]?=ax (.cells b c 51))(k:∀w',dQ S w0 w' (L.set j (yX b x pv))->K undef w') :
  DoX ah (aV 51 (af b 0) (stmV x pv)) w PK K:=by
 have f:=uK (pv:=pv) d;refine CP j a hi (new:=Cf x pv) (by rw[f];exact asO) (adI hp) om λw' a=>k w' ?_;have e:c.take 0++Cf x pv++c.drop (0+(Cf x pv).length)=Cf x pv:=by
  rw[awK om];simp
 rw[e] at a;exact a
theorem QV {K:aq->VWP}{d:Nat}{e f:Ent}(a:dQ S w0 w (e::f::obE d o vk vc::.mem M::L))(hw:o.wt<=100000000000)(j:OV M.A M.w (obV o vk vc) o)
  (k:∀N b h i W,M.le N->OV N.A N.w (obV (Cs.got o key) h i) (Cs.got o key)->dQ S w0 W (obE b (Cs.got o key) h i::e::f::obE d o vk vc::.mem N::L)->K (af b 0) (.bool (Vl.get o key).isSome) W) :
  DoX ah (aG 25 (af d 0)) w PK λt w=>eN ah 39 #[t,ae key] w PK2 λr w=>DoX ah (zt r 0) w PK3 λx w=>DoX ah (zt r 1) w PK4 λg w=>
   DoX ah (iM 25) w PK5 λp w=>DoX ah (aV 25 p x) w PK6 λ_ w=>K p g w:=by
 rw[oV a 2 rfl];refine aY a 3 rfl (DZ o _ key M w hw (a.hasM 3 rfl) j) ?_;rintro _ N w2 hle ⟨t,rfl,c⟩ a;obtain⟨l,m,rfl,c⟩:=iC c;simp only[G5,ex];refine dF a λn s a=>?_;refine bK 0 c.oneK c.oneC a rfl λq a=>?_;exact k N n l m q hle c a
end
section
variable {w:ao}{PK:PKT}{K:VWP}{S:Nat->Prop}{w0:ao}{L:List Ent}
theorem alJ (a:dQ S w0 w (.mem M::L))(hw:o.wt<=1000000000)(Y:OV M.A M.w v o)
  (kt:∀x,Cs.keys o=ax x->∀N pv W,M.le N->SlA N.A N.w pv 2 x.bV.length (rnsC x.bV)->dQ S w0 W (.mem N::L)->K (stmV x pv) W)
  (t:Cs.keys o=aw->∀N W,M.le N->dQ S w0 W (.mem N::L)->PK [upC] W):eN ah 17 #[v] w PK K:=by
 obtain⟨vk,vc,cs,rfl,ha⟩:=Y.open;refine⟨KW ?_⟩;unfold Jd nz;refine dD o ha.keys.one ha.kids.one a λg w1 a=>?_;refine WE a λb2 w2 a=>?_;rw[auA];refine WE a λb3 w3 a=>?_;refine RI 0 rfl rfl rfl a rfl λw4 a=>?_;have a:dQ S w0 w4 (yX b3 ⟨[0,0,0],[],-1⟩ dY::yX b2 Iz dY::obE g o vk vc::.mem M::L):=a;have f:¬Cs.isX o->Cs.keys o=none:=λh=>by unfold Cs.keys;rw[auO h]
 have cut:∀{W:ao} {N:Mem} {e1 e2 e3:Ent},dQ S w0 W (e1::e2::e3::.mem N::L)->dQ S w0 W (.mem N::L):=λa=>a.tail.tail.tail;rw[cO,zn a 2 rfl];simp only[rs];refine kS (λh9=>?_) λh9=>t (f λh=>avU h9 h.1) M w4 M.le_refl (cut a);have h9:=avG h9;refine QV a om Y λN1 b4 tk tc w5 E ht a=>?_;rw[cO,zn a 0 rfl];simp only[rs];have hT:∀{W},¬((Cs.got o Cs.oC).k=5∧(Cs.got o Cs.oC).s=Cs.Ev)->dQ S w0 W (obE b4 (Cs.got o Cs.oC) tk tc::yX b3 ⟨[0,0,0],[],-1⟩ dY::yX b2 Iz dY::obE g o vk vc::.mem N1::L)->PK [upC] W:=
  λh a=>t (f λk=>h k.2.1) N1 _ E (cut a.tail)
 by_cases h5:(Cs.got o Cs.oC).k=5
 case neg=>
  simp only[auQ h5,rs,iO];exact kS (λh=>by cases h) λ_=>hT (λh=>h5 h.1) a
 simp only[auR h5,rs];rw[yK,I0 a 0 rfl];simp only[rs];refine kS (λF=>?_) λF=>hT (λh=>?_) a
 rotate_left
 ·exact avU F h.2
 have c1:(Cs.got o Cs.oC).s=Cs.Ev:=avG F;have a:=a.tail;refine QV a om (Y.le E) λN2 b6 sk sc w6 l2 hs a=>?_;rw[oV a 0 rfl];refine K8 a hs.oneK hs.oneC dc (λG w7 a=>?_) λG W a=>t (f λh=>G h.2.2.1) N2 W (E.trans l2) (cut a.tail);have a:=a.tail;refine QV a om ((Y.le E).le l2) λN3 b9 xk xc w8 l3 u a=>?_;rw[oV a 0 rfl];refine ZF a u.oneK u.oneC (λH w9 a=>?_) λH W a=>t (f λh=>H h.2.2.2.1) N3 W ((E.trans l2).trans l3) (cut a.tail);obtain⟨cs,a1⟩:=FM u;rw[wI a1];simp only[rs];refine kS (λI=>?_) λI=>t (f λh=>avU I (by have:(Cs.got o Cs.kW).kids.length=3:=h.2.2.2.2.1;show ((Cs.got o Cs.kW).kids.length:Int)=3;omega)) N3 w9 ((E.trans l2).trans l3) (cut a.tail);have I:(Cs.got o Cs.kW).kids.length=3:=by have:((Cs.got o Cs.kW).kids.length:Int)=3:=avG I;omega
 have a:=a.tail;have O:=(E.trans l2).trans l3;have c:((Cs.got o Cs.kW).kids.map Ob.n).length=3:=by rw[avS,I]
 refine loop (λvs W=>∃(i:Nat),vs=[ad (i:Int)]∧i<=3∧(∀x∈(Cs.got o Cs.kW).kids.take i,Cs.inr x 4)∧dQ S w0 W (yX b3 ⟨Cs.ws ((Cs.got o Cs.kW).kids.map Ob.n) i,[],-1⟩ dY::yX b2 Iz dY::obE g o vk vc::.mem N3::L)) (λvs _=>3 - n0 vs) ⟨0,rfl,om,sm,a⟩ ?_;clear a;rintro vs a6 ⟨i,rfl,hi,j,a⟩ _;simp only[EB,gd,rs,nz];by_cases a7:(i:Int) < 3
 ·simp only[auR a7,i_t];have P:i < (Cs.got o Cs.kW).kids.length:=om
  refine Lf a1 P (a.hasM 3 rfl) λyk yc hy=>?_;refine K8 a hy.oneK hy.oneC dc (λd c2 a=>?_) λd W a=>t (f λh=>d (h.2.2.2.2.2 _ (avD P))) N3 W O (cut a);rw[afZ];refine aC (acR om) |>.mpr ?_;have c3:=((ws3 c).2 i).resolve_right om;refine aK 0 a rfl krx rfl (by rw[uK c3];omega) λQ a=>?_
  try simp only[rs]
  rw[aA om om];refine aU ⟨i+1,rfl,om,?_,?_⟩ (by simp[n0,RowKit.intOf];omega)
  ·rw[avP P];intro x u;rcases avZ.1 u with u|u
   ·exact j x u
   ·rw[avV.1 u];exact d
  ·have e:=ahJ (ps:=[]) (q:=-1) (pv:=dY) c (show i < ((Cs.got o Cs.kW).kids.map Ob.n).length by omega);rw[List.getElem_map] at e;rw[yX,<-e];exact a
 simp only[auQ a7,i_f];have:i=3:=om
 subst this;have F:Cs.isX o:=⟨h9,⟨h5,c1⟩,G,H,I,by rw[<-I,awI] at j;exact j⟩;rw[(ws3 c).1] at a;have R:∀{p q},Cs.mX o=ax p->Cs.uU o=ax q->Cs.keys o=ax ⟨(Cs.got o Cs.kW).kids.map Ob.n,p,q⟩:=λh1 h2=>by unfold Cs.keys;rw[auP F,h1,h2];rfl
 have T:Cs.mX o=aw∨Cs.uU o=aw->Cs.keys o=none:=λh=>by
  unfold Cs.keys;rw[auP F];rcases h with h|h
  ·rw[h];rfl
  ·rw[h];cases Cs.mX o<;>rfl
 clear F;generalize (Cs.got o Cs.kW).kids.map Ob.n=ns at *;have hb:∀{PK:PKT} {K:VWP},DoX ah (aN 83 #[(0,ad 0),(1,ad (Cs.got o Cs.gA).n)]) a6 PK K=K (rnV (0,(Cs.got o Cs.gA).n)) a6:=aC krx;rw[hb];refine bB (λb=>cW b 0 1 1) (rnC (0,(Cs.got o Cs.gA).n)) 83 (λ_=>by kernel_rfl) a λnb c2 a=>?_;rw[ZX];refine aK 1 a rfl krx rfl (by rw[uK c];omega) λQ a=>?_;have a:dQ S w0 Q (.cells nb (rnC (0,(Cs.got o Cs.gA).n)) 83::.cells b3 ((Cf ⟨ns,[],-1⟩ dY).set 3 (cW nb 0 1 1)) 51::yX b2 Iz dY::obE g o vk vc::.mem N3::L):=a;rw[aeE c (ps':=[(0,(Cs.got o Cs.gA).n)])] at a;have a:=a.toU 2 1 1 rfl om om;obtain⟨N4,Z,c4,a⟩:=a.bH 3 rfl;have a:dQ S w0 Q (yX b3 ⟨ns,[(0,(Cs.got o Cs.gA).n)],-1⟩ (cW nb 0 1 1)::yX b2 Iz dY::obE g o vk vc::.mem N4::L):=a;refine join λJ hJ=>?_;have main:∀{ps pv N W},Cs.mX o=ax ps->N4.le N->SlA N.A N.w pv 2 ps.length (rnsC ps)->dQ S w0 W (yX b3 ⟨ns,ps,-1⟩ pv::yX b2 Iz dY::obE g o vk vc::.mem N::L)->J [] W:=by
  intro ps pv N W hp hN hs a;refine hJ _ _ λ_=>?_;unfold EC nz;refine join λJ3 c5=>?_;have l:∀{q N' W},Cs.uU o=ax q->N.le N'->dQ S w0 W (yX b3 ⟨ns,ps,q⟩ pv::yX b2 Iz dY::obE g o vk vc::.mem N'::L)->J3 [] W:=by
   intro q N' W D a8 a;refine c5 _ _ λ_=>?_;unfold Ew nz;have b0:By ah 51=ax (Cf ⟨ns,ps,q⟩ pv).length:=by rw[uK c];exact Ys
   rw[AT (a.agg 0 rfl b0)];refine RI 1 c hs.one rfl a rfl λU a=>?_;exact gC (bG (a.agg 1 rfl b0)) (kt _ (R hp D) N' pv U ((O.trans Z).trans (hN.trans a8)) (hs.le a8) (cut a))
  refine QV a om (((Y.le O).le Z).le hN) λV c6 pk pc U z B a=>?_;have D:Cs.uU o=match Vl.get o Cs.BV with|none=>ax (-1)|some v=>if Cs.inr v 2147483647 then ax v.n else none:=rfl
  have m:Cs.got o Cs.BV=(Vl.get o Cs.BV).getD Vl.ob0:=rfl;cases hg:Vl.get o Cs.BV with
 |none=>
   rw[hg] at D;simp only[awT,i_f];exact l D z a.tail
 |some y=>
   rw[hg] at D m;simp only[awU,i_t];rw[m] at B a;simp only[awN] at B a D;rw[oV a 0 rfl];refine K8 a B.oneK B.oneC dc (λd b5 a=>?_) λd W a=>t (T (.inr (by rw[D,auO d]))) V W ((O.trans Z).trans (hN.trans z)) (cut a.tail);rw[agG];refine aK 1 a rfl krx rfl (by rw[uK c];omega) λX a=>?_;have a:dQ S w0 X (obE c6 y pk pc::.cells b3 ((Cf ⟨ns,ps,-1⟩ pv).set 4 (ad y.n)) 51::yX b2 Iz dY::obE g o vk vc::.mem V::L):=a;rw[aaY c] at a;exact l (by rw[D,auP d]) z a.tail
 have hp:Cs.mX o=match Vl.get o Cs.fD with|none=>ax [(0,(Cs.got o Cs.gA).n)]|some v=>if v.k=6 then Cs.index 0 v.kids else none:=rfl
 have m:Cs.got o Cs.fD=(Vl.get o Cs.fD).getD Vl.ob0:=rfl;refine QV a om ((Y.le O).le Z) λV C ik ic U z r a=>?_;have b7:=Cs.Jr (o:=o) (k:=Cs.fD);cases hg:Vl.get o Cs.fD with
|none=>
  rw[hg] at hp;simp only[awT,i_f];exact main hp z (c4.le z) a.tail
|some y=>
  rw[hg] at hp m;simp only[awU,i_t];rw[m] at r a b7;simp only[awN] at r a hp b7;rw[oV a 0 rfl];refine ZF a r.oneK r.oneC (λH b5 a=>?_) λH W a=>t (T (.inl (by rw[hp,auO H]))) V W ((O.trans Z).trans z) (cut a.tail);rw[auP H] at hp;obtain⟨c8,b8⟩:=FM r;have c9:=@Ff.GH y;have a:dQ S w0 b5 ([obE C y ik ic,yX b3 ⟨ns,[(0,(Cs.got o Cs.gA).n)],-1⟩ (cW nb 0 1 1),yX b2 Iz dY,obE g o vk vc]++([.mem V]++L)):=a;refine ahC a.front b8 om (λps he N6 pv X l6 c0 a=>?_) λhe W a=>t (T (.inl (by rw[hp,he]))) V W ((O.trans Z).trans z) (by
   have a:dQ S w0 W (.mem V::obE C y ik ic::yX b3 ⟨ns,[(0,(Cs.got o Cs.gA).n)],-1⟩ (cW nb 0 1 1)::yX b2 Iz dY::obE g o vk vc::L):=a;exact a.sub (.cons_cons _ (.cons _ (.cons _ (.cons _ (.cons _ (axX _)))))))
  rw[ZX];have a:dQ S w0 X (.mem N6::obE C y ik ic::yX b3 ⟨ns,[(0,(Cs.got o Cs.gA).n)],-1⟩ (cW nb 0 1 1)::yX b2 Iz dY::obE g o vk vc::L):=a;refine aK 2 a rfl krx c0.one (by rw[uK c];omega) λc7 a=>?_;have a:dQ S w0 c7 ([.mem N6]++([obE C y ik ic,.cells b3 ((Cf ⟨ns,[(0,(Cs.got o Cs.gA).n)],-1⟩ (cW nb 0 1 1)).set 3 pv) 51,yX b2 Iz dY,obE g o vk vc]++L)):=a;rw[aeE c (ps':=ps)] at a;exact main (by rw[hp,he]) (z.trans l6) c0 a.front.tail
end
namespace Cs
def run1 (p:Int×Int):List Int:=(List.range p.2.toNat).map λk=>p.1+(k:Nat)
def zo (l:List (Int×Int)):List Int:=l.flatMap run1
theorem KN (p:Int×Int):(run1 p).length=p.2.toNat:=by simp[run1]
theorem Wg {l:List (Int×Int)}(hi:i < l.length):zo l=zo (l.take i)++(run1 l[i]++zo (l.drop (i+1))):=by
 unfold zo;rw[show run1 l[i]++(l.drop (i+1)).flatMap run1=(l[i]::l.drop (i+1)).flatMap run1 from rfl,<-avW hi,<-axH,azL]
theorem adT {l:List (Int×Int)}(hi:i < l.length)(a:j < l[i].2.toNat):(zo l)[(zo (l.take i)).length+j]?=ax (l[i].1+(j:Nat)):=by
 rw[Wg hi,ayL om,aAE,axO (by rw[KN];exact a)];unfold run1;rw[azP,List.getElem?_range a];rfl
theorem Yw {l:List (Int×Int)}(hi:i < l.length):(zo (l.take (i+1))).length=(zo (l.take i)).length+l[i].2.toNat:=by
 rw[avP hi];unfold zo;rw[axH,auU,ayO,KN]
def be (l:List UInt8):Nat:=l.foldl (λv c=>v*256+c.toNat) 0
theorem Sr (l:List UInt8)(c:UInt8):be (l++[c])=be l*256+c.toNat:=by unfold be;rw[aAK];rfl
theorem ajK:∀(n:Nat) (l:List UInt8),l.length=n->be l < 256 ^ n
|0,l,h=>by rw[ayT h];decide
|n+1,l,h=>by
  have a:l≠[]:=by intro b;rw[b] at h;cases h
  rw[<-List.dropLast_concat_getLast a,Sr];have:=ajK n l.dropLast (by rw[List.length_dropLast];omega);have c:=(l.getLast a).toNat_lt;rw[ayN];have d:(2:Nat) ^ 8=256:=rfl;omega
def fld (s:List UInt8)(at_:Nat)(n:Int):Int:=(be ((s.drop at_).take n.toNat):Nat)
def field (s:List UInt8)(i at_:Nat)(n:Int):Int:=if n=0∧i=0 then 1 else fld s at_ n
end Cs
theorem orW8 {v c:Nat}(a:v < 256 ^ 4)(b:c < 256):bOr .i64 ((v*2 ^ 8:Nat):Int) (c:Int)=((v*2 ^ 8+c:Nat):Int):=by
 have a:v < 4294967296:=a;have h:v*2 ^ 8 ||| c=v*2 ^ 8+c:=by rw[azZ];exact (aAU (i:=8) b v).symm
 unfold bOr;rw[BitVec.toNat_or];simp only[BitVec.ofInt_natCast,BitVec.toNat_ofNat];rw[axC (show v*2 ^ 8 < 2 ^ IntKind.i64.bits by show _ < 18446744073709551616;omega),axC (show c < 2 ^ IntKind.i64.bits by show _ < 18446744073709551616;omega),h];exact aA om om
section
variable {w:ao}{PK:PKT}{K:VWP}{S:Nat->Prop}{w0:ao}{L:List Ent}
theorem DT {x:Stm}{s:List UInt8}{b2 b3 b:Nat}{at_:Nat}(i2 i3 i6:Nat)(a:dQ S w0 w L)(v:L[i2]?=ax (yX b2 x pv))(u:L[i3]?=ax (Dt b3 s))(p:L[i6]?=ax (.cells b [ad (at_:Nat)] 3))
  (n3:i3≠i6) (y:x.w.length=3) (hi:i < x.w.length) (hw:0<=x.w[i]∧x.w[i]<=4) (d:at_<=s.length) (F:s.length<=1000000000)
  (q:¬at_+x.w[i].toNat<=s.length->∀W,dQ S w0 W L->PK [upC] W)
  (k:at_+x.w[i].toNat<=s.length->∀W,dQ S w0 W (L.set i6 (.cells b [ad ((at_+x.w[i].toNat:Nat):Int)] 3))->K (ad (Cs.field s i at_ x.w[i])) W) :
  eN ah 45 #[ad (i:Int),af b2 0,af b 0,af b3 0] w PK K:=by
 have z:i6 < L.length:=(avL.1 p).1;refine⟨tS ?_⟩;unfold kU nz;rw[afZ];refine aC (acR om) |>.mpr ?_;rw[aH aW (a.cell i2 v (0+i) ((by rw[avC];exact (Xi y).2.2 i hi)))];simp only[rs];have rest:Cs.field s i at_ x.w[i]=Cs.fld s at_ x.w[i]->DoX ah (aG 3 (af b 0)) w (pk (wQ K PK)) (λt18 w=>
   DoX ah (gS .add 3 t18 (ad x.w[i])) w (pk (wQ K PK)) λt20 w=>
   DoX ah (aG 9 (af b3 0)) w (pk (wQ K PK)) λt21 w=>
   DoX ah (mB .len #[9] 3 #[au] #[t21]) w (pk (wQ K PK)) λt22 w=>
   DoX ah (gS .leq 3 t20 t22) w (pk (wQ K PK)) λt23 w=>
   eN ah 38 #[t23] w (pk (wQ K PK)) λt24 w=>
   zr [(ad 0),(ad 0)] w (λg w A=>∀_:Sg,eE (af b 0) (af b3 0) (g.getD 0 undef) (ad x.w[i]) (g.getD 1 undef) w A (wQ K PK))):=by
  intro he;rw[he] at k;generalize x.w[i]=n at *;obtain⟨n,rfl⟩:∃m:Nat,n=(m:Int):=⟨n.toNat,om⟩;rw[auW] at q k;rw[aH aW (a.cell i6 p 0 rfl)];simp only[rs];rw[aA om om,aH BZ (a.cell i3 u 0 rfl)];simp only[rs,dE auV];refine kS (λhm=>?_) λh=>q (by have:=avU h;omega) w a;have B:at_+n<=s.length:=by have:=avG hm;omega
  have k:=k B;clear q;refine loop (λvs W=>∃(j:Nat),vs=[ad ((Cs.be ((s.drop at_).take j):Nat):Int),ad (j:Int)]∧j<=n∧dQ S w0 W (L.set i6 (.cells b [ad ((at_+j:Nat):Int)] 3))) (λvs _=>n - n1 vs) ⟨0,rfl,om,by rw[axA,Ac p];exact a⟩ ?_;clear a;rintro vs C ⟨j,rfl,G,a⟩ _;simp only[eE,gd,rs,nz];by_cases l:(j:Int) < (n:Int)
  case neg=>
   simp only[auQ l,i_f];have:j=n:=om
   subst this;have:=k C a;unfold Cs.fld at this;rw[auW] at this;exact this
  simp only[auR l,i_t];have d:at_+j < s.length:=om
  have r:=Cs.ajK j ((s.drop at_).take j) (by rw[avA,avF];omega);have o:Cs.be ((s.drop at_).take j) < 256 ^ 4:=axL r (awC dc om);have D:Cs.be ((s.drop at_).take j) < 4294967296:=o;have E:=s[at_+j].toNat_lt;rw[Bi dc,show (2:Int) ^ min (8:Int).toNat IntKind.i64.bits=2 ^ 8 from rfl,aA om om];have t:(L.set i6 (Ent.cells b [ad ((at_+j:Nat):Int)] 3))[i6]?=ax (.cells b [ad ((at_+j:Nat):Int)] 3):=axP z;have c3:(L.set i6 (Ent.cells b [ad ((at_+j:Nat):Int)] 3))[i3]?=ax (Dt b3 s):=by rw[azO (Ne.symm n3)];exact u
  rw[aH BZ (a.cell i3 c3 0 rfl),aH aW (a.cell i6 t 0 rfl),H4 (c:=s[at_+j]) auV om (by rw[auW];exact auX d),Dm,b_or,show ((Cs.be ((s.drop at_).take j):Nat):Int)*2 ^ 8=((Cs.be ((s.drop at_).take j)*2 ^ 8:Nat):Int) by omega,orW8 o E,aH aW (a.cell i6 t 0 rfl)];simp only[rs];rw[aA om om];refine aK i6 a t krx rfl sm λw2 a=>?_;rw[azN] at a
  try simp only[rs]
  rw[aA om om];refine aU ⟨j+1,?_,om,?_⟩ (by simp[n1,RowKit.intOf];omega)
  ·have e:(s.drop at_).take (j+1)=(s.drop at_).take j++[s[at_+j]]:=by
    rw[avP (by rw[avF];omega),List.getElem_drop]
   rw[e,Cs.Sr];rfl
  ·exact a
 by_cases f:x.w[i]=0
 case neg=>
  simp only[auQ f,rs,iO,i_f];exact rest (by unfold Cs.field;rw[auO (λh=>f h.1)])
 simp only[auR f,rs];by_cases a2:i=0
 case neg=>
  simp only[auQ (show ¬(i:Int)=0 by omega),rs,i_f];exact rest (by unfold Cs.field;rw[auO (λh=>a2 h.2)])
 simp only[auR (show (i:Int)=0 by omega),rs,i_t];have e:Cs.field s i at_ x.w[i]=1:=by unfold Cs.field;rw[auP ⟨f,a2⟩]
 rw[e] at k;refine k (by rw[f];exact d) w ?_;rw[f];rw[show at_+(0:Int).toNat=at_ from rfl,Ac p];exact a
end
theorem Wq (x:Stm)(pv:aq)(N:Mem)(b:Nat)(J:x.w.length=3)(G:SlA N.A N.w pv 2 x.bV.length (rnsC x.bV))(L:x.bV.length<=1000000000)(O:∀p∈x.bV,0<=p.1∧0<=p.2∧p.1+p.2<=1000000)
  (S:Nat->Prop) (w0 H:ao) (L0:Loop) (lb df:Nat) (B:List Ent) (R:Nat->List Ent->Prop) (K:Ending->ao->Prop)
  (P:∀k M,R k M->Ent.mem N∈M) (d:dQ S w0 H (Er L0 lb df++(B++[yX b x pv]))) (e:R 0 B)
  (Q:∀(k:Nat) (n:Int) (M X:List Ent) (W:ao),(Cs.zo x.bV)[k]?=ax n->R k M->dQ S w0 W (Er L0 lb df++(M++X)) ->
   YldP ah lb [ad n] W (λr u=>(r=.bool av∧∃z,R (k+1) z∧dQ S w0 u (Er L0 lb df++(z++X)))∨(r=.bool au∧K (.returned (.tuple #[])) u)) λc u=>K (.panicked c) u)
  (q:∀(M X:List Ent) (W:ao),R (Cs.zo x.bV).length M->dQ S w0 W (Er L0 lb df++(M++X))->K (.returned (.tuple #[])) W) :
  Calls ah 80 #[.func (.yield lb) #[] #[],af b 0] H K:=by
 refine pC ?_;unfold gR nz;have s:∀{M:List Ent} {X:List Ent} {W:ao},R 0 M∨True->dQ S w0 W (Er L0 lb df++(M++(X++[yX b x pv])))->W.cell? ⟨b,3,aw⟩=ax pv:=by
  intro M X W _ h;have:yX b x pv∈Er L0 lb df++(M++(X++[yX b x pv])):=sm
  have:=aJ (T:=51) (h.mem this) (i:=3) ((Xi J).1);exact this
 have g:∀{k:Nat} {M X:List Ent} {W:ao},R k M->dQ S w0 W (Er L0 lb df++(M++X))->N.has W:=by
  intro k M X W e h;have U:=P k M e;have:Ent.mem N∈Er L0 lb df++(M++X):=List.mem_append_right _ (List.mem_append_left _ U);obtain⟨i,hi⟩:=List.getElem?_of_mem this;exact h.hasM i hi
 rw[ZX,aH nRns (s (X:=[]) (.inr trivial) d)];rw[aS aAo (G.now (g e d))];refine loop (λvs W=>∃(i:Nat) (M:List Ent),vs=[ad (i:Int)]∧i<=x.bV.length∧R (Cs.zo (x.bV.take i)).length M∧dQ S w0 W (Er L0 lb df++(M++[yX b x pv]))) (λvs _=>x.bV.length - n0 vs) ⟨0,B,rfl,om,e,d⟩ ?_;clear d e;rintro vs w2 ⟨i,M,rfl,hi,e,d⟩ _;simp only[fR,gd,rs,nz];by_cases t:(i:Int) < (x.bV.length:Int)
 case neg=>
  simp only[auQ t,i_f];have:i=x.bV.length:=om
  subst this;rw[awI] at e;exact q M _ w2 e d
 simp only[auR t,i_t];have f:i < x.bV.length:=om
 obtain⟨p,C,D⟩:=apK G f;obtain⟨V,Y,Z⟩:=O x.bV[i] (avD f);rw[aC (C w2),aC (D w2 (g e d))];refine o_rn d λl w3 d=>?_;refine agC 0 (y:=x.bV[i]) d rfl λI d=>?_;have d:dQ S w0 I (.cells l (rnC x.bV[i]) 83::(Er L0 lb df++(M++[yX b x pv]))):=d;rw[agB,aH aW (d.cell 0 rfl 1 rfl)];have d:dQ S w0 I (Er L0 lb df++(M++([.cells l (rnC x.bV[i]) 83]++[yX b x pv]))):=by
  refine d.perm ?_;rw[<-avO,<-avO];refine (List.perm_middle (l₁:=Er L0 lb df++M) (l₂:=[yX b x pv]) (a:=.cells l (rnC x.bV[i]) 83)).symm.trans ?_;exact List.Perm.refl _
 have o:∀{M:List Ent} {W:ao},dQ S w0 W (Er L0 lb df++(M++([.cells l (rnC x.bV[i]) 83]++[yX b x pv])))->W.cell? ⟨l,0,aw⟩=ax (ad x.bV[i].1):=by
  intro M W h;have:Ent.cells l (rnC x.bV[i]) 83∈Er L0 lb df++(M++([.cells l (rnC x.bV[i]) 83]++[yX b x pv])):=sm
  exact aJ (h.mem this) (i:=0) rfl
 refine loop (λvs W=>∃(j:Nat) (M:List Ent),vs=[ad (j:Int)]∧(j:Int)<=x.bV[i].2∧R ((Cs.zo (x.bV.take i)).length+j) M∧dQ S w0 W (Er L0 lb df++(M++([.cells l (rnC x.bV[i]) 83]++[yX b x pv])))) (λvs _=>x.bV[i].2.toNat - n0 vs) ⟨0,M,rfl,om,e,d⟩ ?_;clear d e;rintro vs w5 ⟨j,M,rfl,hj,e,d⟩ _;simp only[fY,gd,rs,nz];by_cases m:(j:Int) < x.bV[i].2
 case neg=>
  simp only[auQ m,i_f]
  try simp only[rs]
  rw[aA om om];refine aU ⟨i+1,M,rfl,om,?_,?_⟩ (by simp[n0,RowKit.intOf];omega)
  ·rw[Cs.Yw f,show x.bV[i].2.toNat=j by omega];exact e
  ·refine d.sub ?_;refine List.Sublist.append_left (List.Sublist.append_left (List.sublist_append_right _ _) _) _
 simp only[auR m,i_t];rw[aeX,aH aW (o d)]
 try simp only[rs]
 rw[aA om om];refine apB (args:=[ad (x.bV[i].1+j)]) (Q _ (x.bV[i].1+j) M _ w5 (Cs.adT f om) e d) ?_ λc W h=>h;rintro v w6 (⟨rfl,z,E,F⟩|⟨rfl,hK⟩)
 ·rw[Nl,avY,i_f]
  try simp only[rs]
  rw[aA om om];exact aU ⟨j+1,z,rfl,om,E,F⟩ (by simp[n0,RowKit.intOf];omega)
 ·rw[Nl,awA,i_t];exact hK
section
variable {w:ao}{PK:PKT}{K:VWP}{S:Nat->Prop}{w0:ao}{L:List Ent}
theorem aeM (x:Stm)(d:x.w.length=3)(hp:pv.oneCell'=av)(e:dQ S w0 w L)(k:∀b w',dQ S w0 w' (yX b x pv::L)->K (af b 0) w'):DoX ah (AS 51 (stmV x pv)) w PK K:=by
 obtain⟨l,ps,q⟩:=x
 match l,d with
|[a,b,c],_=>exact bB (λb=>af b 0) (Cf ⟨[a,b,c],ps,q⟩ pv) 51 (λ_=>by kernel_rfl) e k
theorem Yp (x:Stm)(c:x.w.length=3)(hp:pv.oneCell'=av)(a:dQ S w0 w L)(k:∀b W,dQ S w0 W (yX b x pv::L)->K (.func (.func 80) #[] #[af b 0]) W) :
  eN ah 46 #[stmV x pv] w PK K:=by
 refine⟨vW ?_⟩;unfold lH nz;refine aeM x c hp a λb d a=>?_;rw[tM];exact k b d a
end
namespace Cs
def wide (x:Stm):Nat:=(x.w.getD 0 0).toNat+(x.w.getD 1 0).toNat+(x.w.getD 2 0).toNat
def rowAt (x:Stm)(s:List UInt8)(k:Nat)(n:Int):Slt:=
 let a:=x.w.getD 0 0;let b:=x.w.getD 1 0;let c:=x.w.getD 2 0;let p:=k*wide x
 ⟨n,field s 0 p a,field s 1 (p+a.toNat) b,field s 2 (p+a.toNat+b.toNat) c⟩
def aR (x:Stm)(s:List UInt8):List Slt:=(zo x.bV).mapIdx (rowAt x s)
theorem My (x:Stm)(s:List UInt8):(aR x s).length=(zo x.bV).length:=by unfold aR;rw[List.length_mapIdx]
theorem QE {x:Stm}{s:List UInt8}{k:Nat}{n:Int}(h:(zo x.bV)[k]?=ax n):(aR x s)[k]?=ax (rowAt x s k n):=by
 unfold aR;rw[List.getElem?_mapIdx,h];rfl
def Good (x:Stm)(s:List UInt8):Prop:=(zo x.bV).length*wide x<=s.length∧(∀y∈aR x s,y.kind<=2)∧Tl.check (aR x s)=0
instance (x:Stm) (s:List UInt8):Decidable (Good x s):=inferInstanceAs (Decidable (_∧_))
end Cs
theorem ajZ (hp:cD ah f=av)(h:eN ah f (fa++args++ca) w PK K):CVX ah (.func (.func f) fa ca) args w PK K:=⟨⟨f,fa,ca,rfl,hp,h⟩⟩
theorem FD:cD ah 45=true:=krx
abbrev cloV (b2 a b3:Nat):Value:=.func (.func 45) #[] #[af b2 0,af a 0,af b3 0]
abbrev HX (b b2 a b3:Nat):Ent:=.cells b [cloV b2 a b3] 76
theorem aqU:dP ah 76=true:=krx
abbrev atE (b at_:Nat):Ent:=.cells b [ad (at_:Int)] 3
abbrev svE (b:Nat)(v:aq):Ent:=.cells b [v] 32
theorem ahG {n k b:Int}:(aN 42 #[(0,ad n),(1,ad k),(2,ad a),(3,ad b)]).run ah W=.ok (.value (slV ⟨n,k,a,b⟩)) W:=krx
section
variable {w:ao}{PK:PKT}{K:VWP}{S:Nat->Prop}{w0:ao}{L:List Ent}
theorem aeI {rs:List RV}{K:Ending->ao->Prop}{df:Nat}{c:List PanicEntry}(i:Nat)(a:dQ S w0 w L)(hi:L[i]?=ax (.obj df (.deferred (ax []))))(k:∀w',dQ S w0 w' (L.set i (.obj df (.deferred aw)))->K (.panicked c) w'):Hb P rs K [mkD df] (.panicking c) w:=by
 refine⟨(λh=>by cases h),df,_,rfl,?_,k _ (Gi a i hi)⟩;have h:w.heap[df]?=ax (.deferred (ax [])):=a.at_ i hi;simp[Instr.takeDeferred,getObj,setObj,Sem.run,h]
theorem ajB {x:Stm}{s:List UInt8}(d:dQ S w0 w (.mem N::L))(hx:x.w.length=3)(hw:∀n∈x.w,0<=n∧n<=4)(hs:SlA N.A N.w pv 2 x.bV.length (rnsC x.bV))
  (c1:x.bV.length<=1000000000) (hb:∀p∈x.bV,0<=p.1∧0<=p.2∧p.1+p.2<=1000000) (hn:(Cs.zo x.bV).length<=100000) (G:s.length<=1000000000)
  (P:¬Cs.Good x s->∀u W,N.le u->dQ S w0 W (.mem u::L)->PK [upC] W)
  (kt:Cs.Good x s->∀u j W,N.le u->SlA u.A u.w j 4 (Cs.aR x s).length (Il (Cs.aR x s))->dQ S w0 W (.mem u::L)->K j W):eN ah 20 #[stmV x pv,ae s] w PK K:=by
 obtain⟨xw,ps,q⟩:=x
 match xw,hx with
|[a,b,c],hx=>
 refine⟨Bo ?_⟩;unfold jE iN dx ldx stx alx cx;refine aeM _ hx hs.one d λb2 w1 d=>?_;refine bB (λb=>af b 0) [ae s] 9 (λ_=>by kernel_rfl) d λb3 w2 d=>?_;refine bB (λb=>af b 0) [dY] 32 (λ_=>by kernel_rfl) d λC w3 d=>?_;refine bB (λb=>af b 0) [ad 0] 3 (λ_=>by kernel_rfl) d λf w4 d=>?_;refine aK 0 d rfl krx rfl sm λw5 d=>?_;rw[tM];refine bB (λb=>af b 0) [.nilFunc] 76 (λ_=>by kernel_rfl) d λr w6 d=>?_;refine aK 0 d rfl krx rfl sm λw7 d=>?_;have d:dQ S w0 w7 (HX r b2 f b3::atE f 0::svE C dY::Dt b3 s::yX b2 ⟨[a,b,c],ps,q⟩ pv::.mem N::L):=d;have c2:By ah 51=ax (Cf ⟨[a,b,c],ps,q⟩ pv).length:=by rw[uK hx];exact Ys
 rw[AT (d.agg 4 rfl c2)];refine Yp _ hx hs.one d λbi w8 d=>?_;have d:=dQ.nilU d 42 4;generalize V:(⟨[a,b,c],ps,q⟩:Stm)=x at *;obtain⟨c7,c8,c9⟩:(0<=a∧a<=4)∧(0<=b∧b<=4)∧(0<=c∧c<=4):=by
  subst V;exact⟨hw a sm,hw b sm,hw c sm⟩
 have c3:Cs.wide x=a.toNat+b.toNat+c.toNat:=by subst V;rfl
 have z:x.w=[a,b,c]:=by subst V;rfl
 have a7:∀k n,Cs.rowAt x s k n=⟨n,Cs.field s 0 (k*Cs.wide x) a,Cs.field s 1 (k*Cs.wide x+a.toNat) b,Cs.field s 2 (k*Cs.wide x+a.toNat+b.toNat) c⟩:=by subst V;intro k n;rfl
 have D:=Cs.My x s
 let Z:Nat->aq->List Slt->List Ent:=λat_ j l=>[slsE j l,HX r b2 f b3,atE f at_,svE C j,Dt b3 s,yX b2 x pv,.mem N]
 have d:dQ S w0 w8 ((Z 0 dY []++L)++[yX bi x pv]):=by
  refine d.perm ?_;show List.Perm (_::_::([HX r b2 f b3,atE f 0,svE C dY,Dt b3 s,yX b2 x pv,.mem N]++L)) (_::(([HX r b2 f b3,atE f 0,svE C dY,Dt b3 s,yX b2 x pv,.mem N]++L)++[_]));exact List.Perm.cons _ (aA4 _ _).symm
 refine apJ d (show cD ah 80=av by kernel_rfl) λL0 df lb w9 d hy=>?_;refine Wq x pv N bi (by rw[z];rfl) hs c1 hb S w0 w9 L0 lb df (Z 0 dY []++L) (λk M=>k*Cs.wide x<=s.length∧∃j,M=Z (k*Cs.wide x) j ((Cs.aR x s).take k)++L) _ (λk M ⟨_,j,h⟩=>by subst h;simp[Z]) d ⟨om,dY,by simp[Z]⟩ ?_ ?_
 ·rintro k n M X W a8 ⟨e0,j,rfl⟩ d;have e1:k < (Cs.zo x.bV).length:=(avL.1 a8).1;have c4:¬k*Cs.wide x+Cs.wide x<=s.length->¬Cs.Good x s:=by
   intro h hg;have Q:=hg.1;have:=awL (Cs.wide x) (show k+1<=(Cs.zo x.bV).length by omega);rw[axZ] at this;omega
  have c5:(Cs.aR x s).take (k+1)=(Cs.aR x s).take k++[Cs.rowAt x s k n]:=by
   have h:=Cs.QE (s:=s) a8;obtain⟨Q,h2⟩:=avL.1 h;rw[avP Q,h2]
  have b0:((Cs.aR x s).take k).length<=1000000000:=by rw[avA];omega
  rw[axZ,c5,a7];generalize (Cs.aR x s).take k=l at *;generalize Y:k*Cs.wide x=at_ at *;have i0:0 < x.w.length:=by rw[z];simp
  have i1:1 < x.w.length:=by rw[z];simp
  have i2:2 < x.w.length:=by rw[z];simp
  have g0:x.w[0]=a:=by simp[z]
  have g1:x.w[1]=b:=by simp[z]
  have g2:x.w[2]=c:=by simp[z]
  have H:x.w.length=3:=by rw[z];rfl
  have d:dQ S w0 W (.obj lb (lp L0 .ready aw)::.obj df (.deferred (ax []))::slsE j l::HX r b2 f b3::atE f at_::svE C j::Dt b3 s::yX b2 x pv::.mem N::(L++X)):=d;have key:∀(R:VWP) (RP:PKT),(k*Cs.wide x+Cs.wide x<=s.length->∀W' a1,dQ S w0 W' (Er L0 lb df++((Z (at_+Cs.wide x) a1 (l++[⟨n,Cs.field s 0 at_ a,Cs.field s 1 (at_+a.toNat) b,Cs.field s 2 (at_+a.toNat+b.toNat) c⟩])++L)++X))->R (.bool av) W')->(¬k*Cs.wide x+Cs.wide x<=s.length->∀W' at',dQ S w0 W' (.obj lb (lp L0 .busy aw)::.obj df (.deferred (ax []))::slsE j l::HX r b2 f b3::atE f at'::svE C j::Dt b3 s::yX b2 x pv::.mem N::(L++X))->RP [upC] W')->YldP ah lb [ad n] W R RP:=by
   intro R RP hR hP;refine hy _ W _ _ (d.at_ 0 rfl) rfl ?_;refine arH 0 d rfl λW3 d=>?_;simp only[List.getD_cons_zero]
   let B:Nat->List Ent:=λat_=>.obj lb (lp L0 .busy aw)::.obj df (.deferred (ax []))::slsE j l::HX r b2 f b3::atE f at_::svE C j::Dt b3 s::yX b2 x pv::.mem N::(L++X)
   have d:dQ S w0 W3 (B at_):=d;have d:=d.drew;have fail:∀{F W at'},(F=[]∨∃e,F=[e])->¬at_+Cs.wide x<=s.length->dQ S w0 W (F++B at')->(pm1 (pm1 (pm1 (pm1 (pm1 RP))))) [upC] W:=by
    intro F W at' U hn d _ _ _ _ _;refine hP (by rw[Y];exact hn) W at' ?_;rcases U with rfl|⟨e,rfl⟩
    ·exact d
    ·exact d.tail
   have f0:∀{F W K},(F=[]∨∃e,F=[e])->at_<=s.length->dQ S w0 W (F++B (at_))->(at_+a.toNat<=s.length->∀W,dQ S w0 W (F++B (at_+a.toNat))->K (ad (Cs.field s 0 at_ a)) W)->CVX ah (cloV b2 f b3) #[ad 0] W (pm1 (pm1 (pm1 (pm1 (pm1 RP))))) K:=by
    intro F W K U hle d k;refine ajZ FD ?_;have P:¬at_+x.w[0].toNat<=s.length->∀W,dQ S w0 W (F++B (at_))->(pm1 (pm1 (pm1 (pm1 (pm1 RP))))) [upC] W:=λh W d=>fail U (by rw[g0] at h;omega) d;rw[<-g0] at k;rcases U with rfl|⟨e,rfl⟩
    ·exact DT (i:=0) 7 6 4 d rfl rfl rfl dc H i0 (by rw[g0];omega) hle G P k
    ·exact DT (i:=0) 8 7 5 d rfl rfl rfl dc H i0 (by rw[g0];omega) hle G P k
   have f1:∀{F W K},(F=[]∨∃e,F=[e])->at_+a.toNat<=s.length->dQ S w0 W (F++B (at_+a.toNat))->(at_+a.toNat+b.toNat<=s.length->∀W,dQ S w0 W (F++B (at_+a.toNat+b.toNat))->K (ad (Cs.field s 1 (at_+a.toNat) b)) W)->CVX ah (cloV b2 f b3) #[ad 1] W (pm1 (pm1 (pm1 (pm1 (pm1 RP))))) K:=by
    intro F W K U hle d k;refine ajZ FD ?_;have P:¬at_+a.toNat+x.w[1].toNat<=s.length->∀W,dQ S w0 W (F++B (at_+a.toNat))->(pm1 (pm1 (pm1 (pm1 (pm1 RP))))) [upC] W:=λh W d=>fail U (by rw[g1] at h;omega) d;rw[<-g1] at k;rcases U with rfl|⟨e,rfl⟩
    ·exact DT (i:=1) 7 6 4 d rfl rfl rfl dc H i1 (by rw[g1];omega) hle G P k
    ·exact DT (i:=1) 8 7 5 d rfl rfl rfl dc H i1 (by rw[g1];omega) hle G P k
   have f2:∀{F W K},(F=[]∨∃e,F=[e])->at_+a.toNat+b.toNat<=s.length->dQ S w0 W (F++B (at_+a.toNat+b.toNat))->(at_+Cs.wide x<=s.length->∀W,dQ S w0 W (F++B (at_+Cs.wide x))->K (ad (Cs.field s 2 (at_+a.toNat+b.toNat) c)) W)->CVX ah (cloV b2 f b3) #[ad 2] W (pm1 (pm1 (pm1 (pm1 (pm1 RP))))) K:=by
    intro F W K U hle d k;rw[c3,<-axK,<-axK] at k;refine ajZ FD ?_;have P:¬at_+a.toNat+b.toNat+x.w[2].toNat<=s.length->∀W,dQ S w0 W (F++B (at_+a.toNat+b.toNat))->(pm1 (pm1 (pm1 (pm1 (pm1 RP))))) [upC] W:=λh W d=>fail U (by rw[g2] at h;omega) d;rw[<-g2] at k;rcases U with rfl|⟨e,rfl⟩
    ·exact DT (i:=2) 7 6 4 d rfl rfl rfl dc H i2 (by rw[g2];omega) hle G P k
    ·exact DT (i:=2) 8 7 5 d rfl rfl rfl dc H i2 (by rw[g2];omega) hle G P k
   refine⟨λW=>(HX r b2 f b3).is W,d.at_ 3 rfl,?_⟩;have ld:∀W,(HX r b2 f b3).is W->(aG 76 (af r 0)).run ah W=.ok (.value (cloV b2 f b3)) W:=λW h=>aB aqU (aJ (T:=76) h (i:=0) rfl);refine iJ _ ld (iJ _ ld (iJ _ ld ?_));have out:∀{W I},at_+Cs.wide x<=s.length->dQ S w0 W ([slE I ⟨n,Cs.field s 0 at_ a,Cs.field s 1 (at_+a.toNat) b,Cs.field s 2 (at_+a.toNat+b.toNat) c⟩]++B (at_+Cs.wide x))->cH (af C 0) (af I 0) lb R RP W:=by
    intro W I J d;unfold cH;rw[aH nSls (d.cell 6 rfl 0 rfl),sl_v d 0 rfl];refine aeR 3 d rfl b0 λv' W2 d=>?_;have Q:v'.oneCell'=true:=(cP (d.at_ 3 rfl));refine aK 6 d rfl krx Q sm λW3 d=>?_;refine arE 1 d rfl λE d=>hR (by rw[Y];exact J) E v' d.tail
   have st:∀{W I} {PK:PKT},at_+Cs.wide x<=s.length->dQ S w0 W ([slE I sl0]++B (at_+Cs.wide x))->HDo ah (λ_=>True) (aN 42 #[(0,ad n),(1,ad (Cs.field s 0 at_ a)),(2,ad (Cs.field s 1 (at_+a.toNat) b)),(3,ad (Cs.field s 2 (at_+a.toNat+b.toNat) c))]) λt=>DoX ah (aV 42 (af I 0) t) W PK λ_ w=>cH (af C 0) (af I 0) lb R RP w:=by
    intro W I PK J d;exact aX _ (λ_=>ahG) (JE 0 d rfl λW2 d=>out J d)
   have o:∀{W e at_},dQ S w0 W ([e]++B at_)->(HX r b2 f b3).is W:=λd=>d.at_ 4 rfl;have a6:∀{W at_},dQ S w0 W ([]++B at_)->(HX r b2 f b3).is W:=λd=>d.at_ 3 rfl;have d:dQ S w0 _ ([]++B at_):=d;refine⟨f0 (.inl rfl) om d λh0 E d=>⟨a6 d,f1 (.inl rfl) h0 d λQ W5 d=>⟨a6 d,f2 (.inl rfl) Q d λJ W6 d=>⟨a6 d,?_⟩,?_⟩,?_⟩,?_⟩
   ·exact aX _ (λ_=>ahG) (Np d λI W7 d=>⟨o d,JE 0 d rfl λW8 d=>out J d⟩)
   ·exact Np d λI W6 d=>⟨o d,f2 (.inr ⟨_,rfl⟩) Q d λJ W7 d=>⟨o d,st J d⟩⟩
   ·exact Np d λI W5 d=>⟨o d,f1 (.inr ⟨_,rfl⟩) h0 d λQ W6 d=>⟨o d,f2 (.inr ⟨_,rfl⟩) Q d λJ W7 d=>⟨o d,st J d⟩⟩⟩
   ·exact Np d λI E d=>⟨o d,f0 (.inr ⟨_,rfl⟩) om d λh0 W5 d=>⟨o d,f1 (.inr ⟨_,rfl⟩) h0 d λQ W6 d=>⟨o d,f2 (.inr ⟨_,rfl⟩) Q d λJ W7 d=>⟨o d,st J d⟩⟩⟩⟩
  refine key _ _ (λJ W' a1 d=>.inl ⟨rfl,_,⟨by rw[<-Y];exact J,a1,rfl⟩,d⟩) λhn W' at' d=>.inr ⟨_,rfl,?_⟩;refine aeI 1 d rfl λE d=>?_;have d:dQ S w0 E (.obj lb (lp L0 .busy aw)::.obj df (.deferred aw)::slsE j l::HX r b2 f b3::atE f at'::svE C j::Dt b3 s::yX b2 x pv::.mem N::(L++X)):=d;exact P (c4 (by rw[<-Y];exact hn)) N E N.le_refl (d.sub (.cons _ (.cons _ (.cons _ (.cons _ (.cons _ (.cons _ (.cons _ (.cons _ (.cons_cons _ (aBp _ _)))))))))))
 ·rintro M X W ⟨b1,j,rfl⟩ d;refine .inl ⟨_,.ready,aw,_,rfl,(by intro h;cases h),d.at_ 0 rfl,avB.2 (.inl rfl),?_⟩;have hp:dQ S w0 (KM W lb (lp L0 .exhausted aw)) (.obj lb (lp L0 .exhausted aw)::.obj df (.deferred (ax []))::((Z ((Cs.zo x.bV).length*Cs.wide x) j ((Cs.aR x s).take (Cs.zo x.bV).length)++L)++X)):=Gi (o':=lp L0 .exhausted aw) d 0 rfl;rw[<-D,awI] at hp;rw[<-D] at b1;have d:=hp.tail.swap;obtain⟨u,hle,O,d⟩:=dQ.bH (L:=.obj df (.deferred (ax []))::HX r b2 f b3::atE f ((Cs.aR x s).length*Cs.wide x)::svE C j::Dt b3 s::yX b2 x pv::.mem N::(L++X)) d 6 rfl;have O:SlA u.A u.w j 4 (Cs.aR x s).length (Il (Cs.aR x s)):=O;have d:dQ S w0 _ (.obj df (.deferred (ax []))::HX r b2 f b3::atE f ((Cs.aR x s).length*Cs.wide x)::svE C j::Dt b3 s::yX b2 x pv::.mem u::(L++X)):=d;generalize KM W lb (lp L0 .exhausted aw)=W1 at d;rw[aH nSls (d.cell 3 rfl 0 rfl),aS ayF (O.now (d.hasM 6 rfl))];have bad:∀{W:ao} {L':List Ent},¬Cs.Good x s->dQ S w0 W (L'++(.obj df (.deferred (ax []))::HX r b2 f b3::atE f ((Cs.aR x s).length*Cs.wide x)::svE C j::Dt b3 s::yX b2 x pv::.mem u::(L++X)))->aP df (wQ K PK) [upC] W:=by
   intro W L' hn d;have d:=d.sub (List.sublist_append_right _ _);refine aeI 0 d rfl λE d=>?_;have d:dQ S w0 E (.obj df (.deferred aw)::HX r b2 f b3::atE f ((Cs.aR x s).length*Cs.wide x)::svE C j::Dt b3 s::yX b2 x pv::.mem u::(L++X)):=d;exact P hn u E hle (d.sub (.cons _ (.cons _ (.cons _ (.cons _ (.cons _ (.cons _ (.cons_cons _ (aBp _ _)))))))))
  refine loop (λvs W=>∃(i:Nat),vs=[ad (i:Int)]∧i<=(Cs.aR x s).length∧(∀m (h:m < (Cs.aR x s).length),m < i->(Cs.aR x s)[m].kind<=2)∧dQ S w0 W (.obj df (.deferred (ax []))::HX r b2 f b3::atE f ((Cs.aR x s).length*Cs.wide x)::svE C j::Dt b3 s::yX b2 x pv::.mem u::(L++X))) (λvs _=>(Cs.aR x s).length - n0 vs) ⟨0,rfl,om,λm _ h=>by omega,d⟩ ?_;clear d hp;rintro vs W2 ⟨i,rfl,hi,b4,d⟩ _;simp only[oU,gd,rs,iN];by_cases b8:(i:Int) < ((Cs.aR x s).length:Int)
  ·simp only[auR b8,i_t];have c0:i < (Cs.aR x s).length:=om
   obtain⟨g,off,hr⟩:=rS O c0;obtain⟨r1,r2⟩:=hr W2 (d.hasM 6 rfl);refine aC r1 |>.mpr (aC (DN r2) |>.mpr ?_);refine Np d λI W3 d=>?_;refine JE (y:=(Cs.aR x s)[i]) 0 d rfl λE d=>?_;rw[L8,aH aW (d.cell 0 rfl 1 rfl)];simp only[rs];refine kS (λc6=>?_) λh=>bad (L':=[_]) (λhg=>absurd (hg.2.1 _ (avD c0)) (avU h)) d
   try simp only[rs]
   rw[aA om om];refine⟨rfl,aU ⟨i+1,rfl,om,λm hm e2=>?_,d.tail⟩ (by simp[n0,RowKit.intOf];omega)⟩;rcases awO m i with h|h
   ·exact b4 m hm h
   ·have:m=i:=om
    subst this;exact avG c6
  simp only[auQ b8,i_f];rw[aH nSls (d.cell 3 rfl 0 rfl)];refine aI d (R:=λv=>v=ad (Tl.check (Cs.aR x s))) (On (Cs.aR x s) j u W2 om (d.hasM 6 rfl) O) ?_;rintro _ W3 rfl d;simp only[rs];refine kS (λhc=>?_) λh=>bad (L':=[]) (λhg=>absurd hg.2.2 (avU h)) d;have hG:Cs.Good x s:=⟨by rw[<-D];exact b1,λy hy=>by
   obtain⟨m,hm,rfl⟩:=axT hy;exact b4 m hm om,avG hc⟩
  rw[aH nSls (d.cell 3 rfl 0 rfl)];refine anA 0 d rfl λE d=>?_;show wQ K PK (.returned j) E;refine kt hG u j E hle O ?_;have d:dQ S w0 E (.obj df (.deferred aw)::HX r b2 f b3::atE f ((Cs.aR x s).length*Cs.wide x)::svE C j::Dt b3 s::yX b2 x pv::.mem u::(L++X)):=d;exact d.sub (.cons _ (.cons _ (.cons _ (.cons _ (.cons _ (.cons _ (.cons_cons _ (aBp _ _))))))))
end
end
section
open Eng
def pJ(a w)(K:KT):=
 stx 35 a (iN 20) w K λ_ w=>K (.returned (.tuple #[])) w
def fU(b r w)(K:KT):=
 eqx .neq 20 (.tmp 5) (.const .nilIface) r .nilIface w K λc w=>IfX c (zP (λh=>dx (mTA r 20 78 av) w K λa w=>exx a 0 w K λd w=>exx a 1 w K λe w=>alx 78 w K λf w=>stx 78 f d w K λ_ w=>dx (mUn .not e) w K λg w=>IfX g (dx (G3 r) w K λ_ w=>h [] w) (h [] w)) (λi w=>∀_:Sg,pJ b w K)) (K (.returned (.tuple #[])) w)
theorem CL (t0 r:aq)(w:ao)(K:Ending->ao->Prop):wpX ah 15 [(5,[])] [] aw (Yj (wG f37)) (topD ah [] K) (upd (upd (jX [t0]) 4 r) 1 r) [] w=fU t0 r w K:=krx
theorem mF {R:Ending->FrameMode->ao->Prop}(h:fU t0 (zw u) w (λe w=>R e (Al u) w)):CallsD ah 37 #[t0] u w R:=
 CN func37 rfl rfl rfl rfl rfl rfl rfl rfl rfl rfl rfl rfl (Eq.mpr (CL t0 (zw u) w _) h)
end
section
open Eng Go.RowKit
theorem Hq:cD ah 37=true:=krx
abbrev eeE (b:Nat)(e:Int):Ent:=.cells b [ad e] 35
section
variable {w:ao}{PK:PKT}{K:VWP}{S:Nat->Prop}{w0:ao}{L:List Ent}
theorem U1 {d:Array aq}{T F:List Ent->Prop}(hp:cD ah f=av)(a:dQ S w0 w L)
  (h:∀b W,dQ S w0 W (eeE b 0::L)->∀(K':VWP) (e:PKT),(∀v c L',T L'->dQ S w0 c (eeE b 0::L')->K' v c)->(∀c L',F L'->dQ S w0 c (eeE b 0::L')->e [upC] c)->eN ah f (#[]++#[]++d) W e K')
  (g:∀c L',T L'->dQ S w0 c L'->K (ad 0) c) (i:∀c L',F L'->dQ S w0 c L'->K (ad 20) c) :
  eN ah 15 #[.func (.func f) #[] d] w PK K:=by
 refine⟨IP ?_⟩;unfold Fh iN dx alx;refine bB (λb=>af b 0) [ad 0] 35 (λ_=>by kernel_rfl) a λb2 w2 a=>?_;rw[tM];refine⟨_,rfl,?_⟩;refine OI hp ?_;refine h b2 w2 a _ _ (λv W L' j a=>?_) λW L' k a=>?_
 ·refine aK 0 a rfl krx rfl sm λm a=>?_;refine kG sm Hq (mF ?_);simp only[fU,zw,Al,Eng.akE ayD,rs,i_f,dx,exx,stx,eqx,alx];refine Gr GW (a.cell 0 rfl 0 rfl) ?_;exact g _ _ j a.tail
 ·simp only[mS,pd];refine kG sm Hq (mF ?_);simp only[fU,zw,Al,upC,Eng.afE ayD,rs,i_t,dx,exx,stx,eqx,alx];refine join λJ l=>?_;simp only[ZG apF,gT (show [Value.agg #[],Value.bool av][1]?=ax (Value.bool av) from rfl),gT (show [Value.agg #[],Value.bool av][0]?=ax (Value.agg #[]) from rfl)];refine bB (λb=>af b 0) [] 78 (λ_=>by kernel_rfl) a λn o a=>?_;refine gF 0 a rfl (new:=[]) (show (Tryz.prog.info? 78).map (·.size)=ax 0 by kernel_rfl) sm rfl λp a=>?_;simp only[rs,avY,i_f];refine l _ _ λ_=>?_;unfold pJ iN stx;refine aK 1 a rfl krx rfl sm λq a=>?_;refine Gr GW (a.cell 1 rfl 0 rfl) ?_;exact i _ _ k a.tail.tail
end
end
section
open Eng
def JI(t0 w)(K:KT):=nz f14 1 [] [] [] (zg [0] [t0]) w K
theorem Mz:JI t0 w k0->Calls ah 14 #[t0] w k0:=cw func14
end
section
open Go
namespace Bd
def check (i:It):Int:=if Dk.numbers i=au then 2 else if Vl.check 1 i.obj≠0 then Vl.check 1 i.obj else if i.obj.k=8 then 10 else 0
end Bd
end
section
open Eng Go.RowKit
theorem Vk (i:It)(w:ao)(hw:i.obj.wt<=100000000000)(l:OV (InW w) w (obV i.obj vk vc) i.obj):Ret ah 14 #[itV i vk vc] w (λv w'=>v=ad (Bd.check i)∧Below w.heap.size w w'):=by
 refine aL λK f=>Mz ?_;unfold JI nz;refine Vp i l.oneK l.oneC (Own.start w) λb m a=>?_;have out:Dk.numbers i=au->K (.returned (ad 2)) m:=λh=>f _ _ ⟨by rw[Bd.check,auP h],a.done⟩;have o:Dk.numbers i=av↔1<=i.num∧i.num<=8191∧0<=i.gen∧i.gen<=65535:=by
  simp only[Dk.numbers,avM,awG];omega
 have outs:¬(1<=i.num∧i.num<=8191∧0<=i.gen∧i.gen<=65535)->K (.returned (ad 2)) m:=λh=>out (by
  cases q:Dk.numbers i with
 |true=>exact absurd (o.1 q) h
 |false=>rfl)
 by_cases d:i.num < 1
 ·simp only[rs,Ip,yF a 0 rfl,auR d,iO];exact outs om
 by_cases g:i.num>8191
 ·simp only[rs,Ip,yF a 0 rfl,auQ d,auR g,iO];exact outs om
 by_cases n:i.gen < 0
 ·simp only[rs,Ip,Sq,yF a 0 rfl,Lh a 0 rfl,auQ d,auQ g,auR n,iO];exact outs om
 by_cases p:i.gen>65535
 ·simp only[rs,Ip,Sq,yF a 0 rfl,Lh a 0 rfl,auQ d,auQ g,auQ n,auR p,iO];exact outs om
 simp only[rs,Ip,Sq,yF a 0 rfl,Lh a 0 rfl,auQ d,auQ g,auQ n,auQ p,iO,Km,HA a 0 rfl];have c:Dk.numbers i=true:=o.2 om;obtain⟨cs,r⟩:=l.slices;refine uT (jF i.obj _ m (r.in_ a).ov om) rfl a λw2 a=>?_;rw[bO];by_cases e:Vl.check 1 i.obj=0
 case neg=>
  simp only[auR (show Vl.check 1 i.obj≠0 from e),i_t];exact f _ _ ⟨by rw[Bd.check,auO (by simp[c]),auP e],a.done⟩
 simp only[e,show ai ((0:Int)≠0)=au by decide,i_f,Km,cO,it_k a 0 rfl,rs];by_cases j:i.obj.k=8
 ·simp only[auR j,i_t];exact f _ _ ⟨by rw[Bd.check,auO (by simp[c]),auO (by simp[e]),auP j],a.done⟩
 ·simp only[auQ j,i_f];exact f _ _ ⟨by rw[Bd.check,auO (by simp[c]),auO (by simp[e]),auO j],a.done⟩
end
section
open Go
namespace Cs
def ints (o:Ob)(m:Int):Option (List Int):=if o.k=6∧∀x∈o.kids,inr x m then ax (o.kids.map Ob.n) else aw
def M1 (o:Ob)(k:List UInt8)(m:Int):Option Int:=match Vl.get o k with
|none=>aw
|some v=>if inr v m then ax v.n else aw
def CT (e:Int):List Int->Option (List (Int×Int))
|a::b::r=>if a < e∨8192 < a+b then aw else (CT (a+b) r).map ((a,b)::·)
|_=>ax []
def EL (o:Ob):Option (List (Int×Int)):=match M1 o gA 8192 with
|none=>aw
|some n=>match Vl.get o fD with
 |none=>CT 0 [0,n]
 |some v=>match ints v 8192 with
  |none=>aw
  |some l=>if l.length % 2≠0 then aw else CT 0 l
theorem OM:∀(l:List Ob) (up:Int),0<=up->index up l=if (∀x∈l,inr x 8192)∧l.length % 2=0 then CT up (l.map Ob.n) else aw
|[],up,h=>by simp[index,CT]
|[x],up,h=>by simp[index]
|a::b::r,up,h=>by
  unfold index;have m:(a::b::r).length % 2=r.length % 2:=by simp only[avR];omega
  by_cases e:inr a 2147483647∧inr b 2147483647∧up<=a.n∧a.n+b.n<=8192
  ·rw[auP e];obtain⟨⟨f,a0,_⟩,⟨g,i,_⟩,o,p⟩:=e;rw[OM r (a.n+b.n) om];have j:inr a 8192:=⟨f,a0,om⟩;have k:inr b 8192:=⟨g,i,om⟩;by_cases c:(∀x∈r,inr x 8192)∧r.length % 2=0
   ·rw[auP c,auP ⟨λx d=>by
     rcases avB.1 d with rfl|d
     ·exact j
     rcases avB.1 d with rfl|d
     ·exact k
     exact c.1 x d,om⟩]
    simp only[awY,CT];rw[auO om]
   ·rw[auO c,auO λh=>c ⟨λx d=>h.1 x (awR _ (awR _ d)),om⟩];rfl
  ·rw[auO e];by_cases c:(∀x∈a::b::r,inr x 8192)∧(a::b::r).length % 2=0
   ·rw[auP c];obtain⟨f,a0,q⟩:=c.1 a sm;obtain⟨g,i,s⟩:=c.1 b sm;simp only[awY,CT];rw[auP];refine aBm λt=>e ⟨⟨f,a0,om⟩,⟨g,i,om⟩,om,om⟩
   ·rw[auO c]
theorem Z7 (o:Ob):EL o=if inr (got o gA) 8192 then mX o else none:=by
 unfold EL M1 got;cases e:Vl.get o gA with
|none=>
  have:¬inr ((aw:Option Ob).getD Vl.ob0) 8192:=λh=>absurd h.1 (show ¬(0:Int)=2 by decide);rw[auO this]
|some v=>
  simp only[awN];by_cases a:inr v 8192
  ·rw[auP a,auP a];dsimp only;unfold mX;cases hi:Vl.get o fD with
  |none=>
    dsimp only;simp only[CT];rw[auO (by have:=a.2;omega)];unfold got;rw[e];rfl
  |some u=>
    dsimp only;unfold ints;by_cases b:u.k=6
    ·rw[auP b,OM _ _ om];by_cases c:∀x∈u.kids,inr x 8192
     ·rw[auP ⟨b,c⟩];dsimp only;rw[avS];by_cases d:u.kids.length % 2=0
      ·rw[auO om,auP ⟨c,d⟩]
      ·rw[auP d,auO (λh=>d h.2)]
     ·rw[auO (λh=>c h.2),auO (λh=>c h.1)]
    ·rw[auO b,auO (λh=>b h.1)]
  ·rw[auO a,auO a]
def Af (o:Ob):Option (List Int):=match ints (got o kW) 4 with
|none=>aw
|some l=>if l.length=3 then ax l else aw
def ahR (o:Ob):Prop:=(got o oC).k=5∧(got o oC).s=Ev
instance (o:Ob):Decidable (ahR o):=inferInstanceAs (Decidable (_∧_))
theorem aaS (o:Ob):uU o=match Vl.get o BV with|none=>ax (-1)|some v=>M1 o BV 2147483647:=by
 unfold uU M1;cases Vl.get o BV<;>rfl
theorem To (o:Ob):keys o=if o.k=9∧ahR o then (EL o).bind (λp=>(Af o).bind λw=>(uU o).map λq=>⟨w,p,q⟩) else none:=by
 unfold keys;rw[Z7];by_cases a:o.k=9∧ahR o
 ·rw[auP a];by_cases b:inr (got o gA) 8192
  ·rw[auP b];unfold Af ints;by_cases hw:(got o kW).k=6∧∀x∈(got o kW).kids,inr x 4
   ·rw[auP hw];dsimp only;rw[avS];by_cases c:(got o kW).kids.length=3
    ·rw[auP (show isX o from ⟨a.1,a.2,b,hw.1,c,hw.2⟩),auP c];rfl
    ·rw[auO (λh:isX o=>c h.2.2.2.2.1),auO c];cases mX o<;>rfl
   ·rw[auO (λh:isX o=>hw ⟨h.2.2.2.1,h.2.2.2.2.2⟩),auO hw];cases mX o<;>rfl
  ·rw[auO b,auO (λh:isX o=>b h.2.2.1)];rfl
 ·rw[auO a,auO (λh:isX o=>a ⟨h.1,h.2.1⟩)]
theorem Tx:∀(l:List Int) (e:Int) (r:List (Int×Int)),0<=e->e<=8192->(∀x∈l,0<=x)->CT e l=ax r ->
  (∀p∈r,0<=p.1∧0<=p.2∧p.1+p.2<=8192)∧e+(zo r).length<=8192∧2*r.length<=l.length
|[],e,r,g,d,_,h=>by cases h;exact⟨(λp h=>by cases h),by simpa[zo] using d,sm⟩
|[x],e,r,g,d,_,h=>by cases h;exact⟨(λp h=>by cases h),by simpa[zo] using d,sm⟩
|a::b::l,e,r,g,d,hp,h=>by
  unfold CT at h;split at h
  ·cases h
  ·rename_i k
   have a0:=hp a sm;have i:=hp b sm;cases f:CT (a+b) l with
  |none=>rw[f] at h;cases h
  |some q=>
    rw[f] at h;cases h;obtain⟨i1,i2,i3⟩:=Tx l (a+b) q om om (λx j=>hp x (by simp[j])) f;refine⟨λp c=>?_,?_,by simp only[avR];omega⟩
    ·rcases avB.1 c with rfl|c
     ·exact⟨a0,i,by dsimp only;omega⟩
     ·exact i1 p c
    ·have:(zo ((a,b)::q)).length=b.toNat+(zo q).length:=by unfold zo;rw[ayM,auU,KN]
     rw[this];push_cast;omega
theorem Ws {r:List (Int×Int)}(d:inr (got o gA) 8192)(h:mX o=ax r):(∀p∈r,0<=p.1∧0<=p.2∧p.1+p.2<=8192)∧(zo r).length<=8192∧r.length<=o.wt:=by
 have a:1<=o.wt:=by cases o;rw[Ob.wt];omega
 unfold mX at h;cases hi:Vl.get o fD with
|none=>
  rw[hi] at h;cases h;obtain⟨_,e,l⟩:=d;refine⟨λp hp=>?_,?_,a⟩
  ·rw[avV.1 hp];exact⟨Int.le_refl 0,e,by dsimp only;omega⟩
  ·simp only[zo,ayM,List.flatMap_nil,awF,KN];omega
|some v=>
  rw[hi] at h;dsimp only at h;by_cases c:v.k=6
  ·rw[auP c,OM _ _ om] at h;by_cases b:(∀x∈v.kids,inr x 8192)∧v.kids.length % 2=0
   ·rw[auP b] at h;obtain⟨i1,i2,i3⟩:=Tx _ _ _ om om (λx f=>by
     obtain⟨y,g,rfl⟩:=awD.1 f;exact (b.1 y g).2.1) h
    have hw:=mi hi;have i:=Ob.pB v.kids;have j:v.kids.length<=v.wt:=by
     cases v;rw[Ob.wt];simp only[Ob.kids] at i ⊢;omega
    rw[avS] at i3;exact⟨i1,om,om⟩
   ·rw[auO b] at h;cases h
  ·rw[auO c] at h;cases h
theorem Ls {x:Stm}(h:keys o=ax x):(x.w.length=3∧∀n∈x.w,0<=n∧n<=4)∧(∀p∈x.bV,0<=p.1∧0<=p.2∧p.1+p.2<=8192)∧(zo x.bV).length<=8192∧x.bV.length<=o.wt:=by
 unfold keys at h;split at h
 ·rename_i b
  cases a:mX o with
 |none=>rw[a] at h;cases h
 |some p=>
   cases c:uU o with
  |none=>rw[a,c] at h;cases h
  |some q=>
    rw[a,c] at h;have:=ayB h;rw[<-this];refine⟨⟨by rw[avS];exact b.2.2.2.2.1,λn d=>?_⟩,Ws b.2.2.1 a⟩;obtain⟨y,e,rfl⟩:=awD.1 d;exact (b.2.2.2.2.2 y e).2
 ·cases h
theorem aaD {i:It}{x:Stm}(h:keys i.obj=ax x)(a:Bd.check i=0):i.obj.n=0∧i.obj.g=0:=by
 have b:i.obj.k=9:=by
  unfold keys at h;split at h
  ·rename_i c;exact c.1
  ·cases h
 have d:Vl.check 1 i.obj=0:=by
  unfold Bd.check at a;split at a
  ·cases a
  ·split at a
   ·rename_i h;exact absurd a h
   ·rename_i h;exact aAA.1 h
 have hu:=(Vl.tK.1 d).1.2.1;unfold Vl.fF at hu;rw[b] at hu;simp[Vl.used] at hu;exact⟨hu.1,hu.2⟩
def Ci (i:It)(a:Int):Sec×Int:=
 if a < 0 then (Tl.zJ,1) else if Bd.check i≠0 then (Tl.zJ,Bd.check i) else match keys i.obj with
 |none=>(Tl.zJ,20)
 |some x=>if (Ff.decode i.obj).2≠0 then (Tl.zJ,(Ff.decode i.obj).2)
   else if Good x (Ff.decode i.obj).1 then (⟨a,aR x (Ff.decode i.obj).1,.mk 7 0 0 [] i.obj.keys i.obj.kids,x.prev,-1,i.num⟩,0) else (Tl.zJ,20)
end Cs
end
section
open Eng Go.RowKit
theorem xn {n:List UInt8}{s:List UInt8}(a:M.has w)(b:s.length<=1000000000):(Ff.DV n x s).1.length<=1048576:=by
 obtain⟨_,_,_,⟨_,_,_,_,_,h⟩,_⟩:=LZ n x s M w b a [];exact h
theorem ur {M:Mem}{w:ao}(a:M.has w):∀(ns:List (List UInt8)) (ps:List Pm) (s:List UInt8),s.length<=1000000000->(Ff.chain ns ps s).1.length<=1000000000
|[],_,s,h=>by simpa[Ff.chain] using h
|_::_,[],s,h=>by simpa[Ff.chain] using h
|n::ns,p::ps,s,h=>by
  have b:=xn (n:=n) (x:=p) a h;unfold Ff.chain;split
  ·simp
  ·exact ur a ns ps _ om
theorem uu (a:M.has w)(h:o.wt<=1000000000):(Ff.decode o).1.length<=1000000000:=by
 unfold Ff.decode;split
 ·simp
 ·exact ur a _ _ _ (by rw[Vl.jO] at h;omega)
theorem Qu:cD ah 16=true:=krx
theorem Rg:cD ah 19=true:=krx
theorem apU {p n:Int}{l:List Slt}{b a2 a3:Option Addr}{n1 c n2 d n3 c3:Nat}:DoX ah (aN 34 #[(0,ad a),(1,.slice b n1 c),(2,obV o (.slice a2 n2 d) (.slice a3 n3 c3)),(3,ad p),(4,ad (-1)),(5,ad n)]) W PK K=K (Mk ⟨a,l,o,p,-1,n⟩ (.slice b n1 c) (.slice a2 n2 d) (.slice a3 n3 c3)) W:=aC krx
theorem D8 (i:It)(a:Int){o q:aq}(M:Mem)(w:ao)(a6:Rp M)(a7:Od M)(a8:Pws M)(hw:i.obj.wt<=1000000000)(hM:M.has w)(P:OV M.A M.w (obV i.obj o q) i.obj) :
  lA ah 7 #[itV i o q,ad a] M w (λr N=>∃sv,r=.tuple #[sv,ad (Cs.Ci i a).2]∧SecV N sv (Cs.Ci i a).1):=by
 refine aO hM λK hK=>Le ?_;unfold JD nz;refine Vp i P.oneK P.oneC (dQ.memS hM) λb2 w1 c=>?_;refine P8 c λk w2 c=>?_;have I:∀N:Mem,SecV N (Mk Tl.zJ dY dY dY) Tl.zJ:=λN=>⟨dY,dY,dY,rfl,SlA.nil _ _ _ _,CA N⟩;have no:∀{W:ao} {N:Mem} {L:List Ent} {e:Int} (j:Nat),dQ M.A w W L->L[j]?=ax (uN k Tl.zJ dY dY dY)->(∃Z,L[Z]?=ax (.mem N)∧Z≠j)->M.le N->Cs.Ci i a=(Tl.zJ,e)->DoX ah (aN 34 #[]) W (pk K) (λt W=>DoX ah (aV 34 (af k 0) t) W (pk K) λ_ W=>zu ah [.cell (af k 0) 34,.val (ad e)] W K):=by
  intro W N L e j c hj ⟨Z,b0,b1⟩ hle he;rw[aoU];refine E1 (y:=Tl.zJ) j rfl rfl rfl c hj λw4 c=>?_;have b3:=(avL.1 hj).1;refine mP (bG (c.agg j (axP b3) QY)) pV (hK _ _ N _ Z c (by rw[azO (Ne.symm b1)];exact b0) hle ⟨_,by rw[he],by rw[he];exact I N⟩)
 have d:=Cs.Ci.eq_1 i a;simp only[rs];by_cases a1:a < 0
 ·rw[auP a1] at d;simp only[auR a1,i_t];exact no 0 c rfl ⟨2,rfl,dc⟩ M.le_refl d
 rw[auO a1] at d;simp only[auQ a1,i_f];rw[AT (c.agg 1 rfl Pe)];refine aI c (R:=λv=>v=ad (Bd.check i)) (Vk i w2 om (OV.inw (c.hasM 2 rfl) P)) ?_;rintro _ w3 rfl c;simp only[bO];by_cases U:Bd.check i=0
 case neg=>
  rw[auP U] at d;simp only[auR (show Bd.check i≠0 from U),i_t];exact no 0 c rfl ⟨2,rfl,dc⟩ M.le_refl d
 rw[auO (λh=>h U)] at d;simp only[U,show ai ((0:Int)≠0)=au from rfl,i_f];refine WE c λu w4 c=>?_
 try rw[tM]
 have c:dQ M.A w w4 [yX u Iz dY,uN k Tl.zJ dY dY dY,itE b2 i o q,.mem M]:=c;refine U1 (T:=λL=>∃x N pv,Cs.keys i.obj=ax x∧M.le N∧SlA N.A N.w pv 2 x.bV.length (rnsC x.bV)∧L=[yX u x pv,uN k Tl.zJ dY dY dY,itE b2 i o q,.mem N])
  (F:=λL=>Cs.keys i.obj=aw∧∃N,M.le N∧L=[yX u Iz dY,uN k Tl.zJ dY dY dY,itE b2 i o q,.mem N]) Qu c (λbe W c K' J kT kF=>?_) ?_ ?_
 ·show eN ah 16 #[af b2 0,af u 0] W J K';refine⟨FE ?_⟩;unfold A5 nz;rw[Km,HA c 3 rfl];have c:dQ M.A w W ([eeE be 0,yX u Iz dY,uN k Tl.zJ dY dY dY,itE b2 i o q]++([.mem M]++[])):=c;have bk:∀{W N e1 e2 e3 e4},dQ M.A w W (.mem N::[e1,e2,e3,e4])->dQ M.A w W [e1,e2,e3,e4,.mem N]:=λc=>c.perm (aA4 _ _).symm;refine alJ c.front hw P (λx C N pv W2 hle hs c=>?_) λC N W2 hle c=>kF W2 _ ⟨C,N,hle,rfl⟩ (bk c);have c:=bk c;refine RI 1 (Cs.Ls C).1.1 hs.one rfl c rfl λw6 c=>?_;exact kT _ _ _ ⟨x,N,pv,C,hle,hs,rfl⟩ c
 rotate_left
 ·rintro W _ ⟨C,N,hle,rfl⟩ c;rw[C] at d;simp only[bO,show ai ((20:Int)≠0)=av from rfl,i_t];exact no 1 c rfl ⟨3,rfl,dc⟩ hle d
 rintro W _ ⟨x,N,pv,C,hle,hs,rfl⟩ c;rw[C] at d;dsimp only at d;simp only[bO,show ai ((0:Int)≠0)=au from rfl,i_f];rw[Km,HA c 2 rfl];refine aY c 3 rfl (OG i.obj _ N W (a6.le hle) (a7.le hle) (a8.le hle) hw (c.hasM 3 rfl) (P.le hle)) ?_;rintro _ V W2 X rfl c;have Y:=uu (c.hasM 3 rfl) hw;obtain⟨⟨r1,r2⟩,r4,r5,r3⟩:=Cs.Ls C;generalize Ff.decode i.obj=D at *;obtain⟨s,e⟩:=D;dsimp only at d Y;simp only[zlT,ex];refine bB (λb=>af b 0) [.string ⟨#[]⟩] 9 (λ_=>by kernel_rfl) c λE w7 c=>?_;refine aK 0 c rfl krx rfl sm λw8 c=>?_;have c:dQ M.A w w8 [Dt E s,yX u x pv,uN k Tl.zJ dY dY dY,itE b2 i o q,.mem V]:=c;simp only[bO];by_cases he:e=0
 case neg=>
  rw[auP he] at d;simp only[auR (show e≠0 from he),i_t];exact no 2 c rfl ⟨4,rfl,dc⟩ (hle.trans X) d
 rw[auO (λh=>h he)] at d;simp only[auQ (show ¬e≠0 fromλh=>h he),i_f];refine bB (λb=>af b 0) [dY] 32 (λ_=>by kernel_rfl) c λf w9 c=>?_
 try rw[tM]
 have c:dQ M.A w w9 [svE f dY,Dt E s,yX u x pv,uN k Tl.zJ dY dY dY,itE b2 i o q,.mem V]:=c;refine U1 (T:=λL=>∃z Q,Cs.Good x s∧V.le z∧SlA z.A z.w Q 4 (Cs.aR x s).length (Il (Cs.aR x s))∧L=[svE f Q,Dt E s,yX u x pv,uN k Tl.zJ dY dY dY,itE b2 i o q,.mem z])
  (F:=λL=>¬Cs.Good x s∧∃z,V.le z∧L=[svE f dY,Dt E s,yX u x pv,uN k Tl.zJ dY dY dY,itE b2 i o q,.mem z]) Rg c (λbe W c K' J kT kF=>?_) ?_ ?_
 ·show eN ah 19 #[af u 0,af E 0,af f 0] W J K';refine⟨Fw ?_⟩;unfold AE nz;have b5:By ah 51=ax (Cf x pv).length:=by rw[uK r1];exact Ys
  rw[AT (c.agg 3 rfl b5),aH BZ (c.cell 2 rfl 0 rfl)];have c:dQ M.A w W ([eeE be 0,svE f dY,Dt E s,yX u x pv,uN k Tl.zJ dY dY dY,itE b2 i o q]++([.mem V]++[])):=c;refine ajB c.front r1 r2 (hs.le X) om (λp hp=>by have:=r4 p hp;omega) om Y (λO z S G c=>kF S _ ⟨O,z,G,rfl⟩ (c.perm (aA4 (Ent.mem z) [eeE be 0,svE f dY,Dt E s,yX u x pv,uN k Tl.zJ dY dY dY,itE b2 i o q]).symm)) λO z Q S G B c=>?_;have c:dQ M.A w S (.mem z::[eeE be 0,svE f dY,Dt E s,yX u x pv,uN k Tl.zJ dY dY dY,itE b2 i o q]):=c;have c:=c.perm (aA4 (Ent.mem z) _).symm;refine aK 1 c rfl krx B.one sm λw6 c=>?_;exact kT _ _ _ ⟨z,Q,O,G,B,rfl⟩ c
 rotate_left
 ·rintro S _ ⟨O,N3,G,rfl⟩ c;rw[auO O] at d;simp only[bO,show ai ((20:Int)≠0)=av from rfl,i_t];exact no 3 c rfl ⟨5,rfl,dc⟩ ((hle.trans X).trans G) d
 rintro S _ ⟨N3,Q,O,G,B,rfl⟩ c;rw[auP O] at d;have h0:i.obj.n=0∧i.obj.g=0:=Cs.aaD C U;have e0:(Ob.mk 7 i.obj.n i.obj.g [] i.obj.keys i.obj.kids)=.mk 7 0 0 [] i.obj.keys i.obj.kids:=by rw[h0.1,h0.2]
 simp only[bO,show ai ((0:Int)≠0)=au from rfl,i_f];rw[Km,HA c 4 rfl];refine aY c 5 rfl (yB i.obj _ N3 S om (c.hasM 5 rfl) (((P.le hle).le X).le G)) ?_;intro tv N4 W4 l4 ht c;obtain⟨tk,tc,b6,rfl,m⟩:=ht.open;refine dF c λb8 c4 c=>?_;refine bK 0 m.keys.one m.kids.one c rfl λc5 c=>?_;rw[cO];refine aK 0 c rfl krx rfl (by simp[obC]) λc6 c=>?_;rw[yK];refine aK 0 c rfl krx rfl (by simp[obC]) λc0 c=>?_;have c:dQ M.A w c0 [obE b8 (.mk 7 i.obj.n i.obj.g [] i.obj.keys i.obj.kids) tk tc,svE f Q,Dt E s,yX u x pv,uN k Tl.zJ dY dY dY,itE b2 i o q,.mem N4]:=c;have H:OV N4.A N4.w (obV (.mk 7 i.obj.n i.obj.g [] i.obj.keys i.obj.kids) tk tc) (.mk 7 i.obj.n i.obj.g [] i.obj.keys i.obj.kids):=zz.ov (cs:=b6) ⟨m.keys,m.kids,m.all⟩;rw[aH nSls (c.cell 1 rfl 0 rfl),oV c 0 rfl,agG,aH aW (c.cell 3 rfl 4 ((Xi r1).2.1)),Ip,yF c 5 rfl];obtain⟨q1,c1,rfl,_⟩:=B.form;obtain⟨q2,c2,rfl,_⟩:=m.keys.form;obtain⟨q3,c3,rfl,_⟩:=m.kids.form;rw[e0,apU (l:=Cs.aR x s)];rw[e0] at H;refine E1 (y:=⟨a,Cs.aR x s,.mk 7 0 0 [] i.obj.keys i.obj.kids,x.prev,-1,i.num⟩) 4 rfl rfl rfl c rfl λc7 c=>?_;refine mP (bG (c.agg 4 rfl QY)) pV (hK _ _ N4 _ 6 c rfl (((hle.trans X).trans G).trans l4) ⟨_,by rw[d],?_⟩);rw[d];exact⟨_,_,_,rfl,B.le l4,H⟩
end
end Go.Proofs.YtkghomgfocpgeaaGreatDoor
