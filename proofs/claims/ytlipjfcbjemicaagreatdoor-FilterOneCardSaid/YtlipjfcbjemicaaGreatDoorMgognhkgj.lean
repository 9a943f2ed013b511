/- Texts that go together: DfQ SStrC SZlibW DfR PrC PrD PrF FeF FeG FeH Plain08S SStrm SDrop5 StrmA FeI FeJ PrE FeP Plain16M FeQ SChunk FeR FeS FeT FeK SLaw16. -/
import Derived.Test.YtlipjfcbjemicaaGreatDoorRows
import Derived.Test.YtlipjfcbjemicaaGreatDoorMdgkoanba
set_option linter.defProp false
set_option linter.unusedSimpArgs false
set_option linter.unusedVariables false
set_option maxRecDepth 20000
open Go.Proofs.Tryz
open Go.Proofs.Tryz renaming prog->ah
open Option renaming some->aw,none->av
open Bool renaming true->au,false->aq
open Go renaming Value->ao,World->ak
open Decidable renaming decide->ai
namespace Go.Proofs.YtlipjfcbjemicaaGreatDoor
variable{D T1 T2 U:TypeId}{K:VWP}{P:Program}{PK:PKT}{W w:ak}{a colors e:Int}{above:List UInt8}{b cap d f h i mo:Nat}{cb:Array Bool}{cur:List ao}{k':IntKind}{o:Ob}{rr:List ik}{v va vr:ao}{x:Pm}{xo yo:Operand}{t0 t1 t2:ao}{k0:Eng.KT}
section
open Eng Go.RowKit
theorem xz:∀{l:List bn} {out:List UInt8} {x:bn},iu out.length l->gw (fx out l).length x->iu out.length (l++[x])
|[],out,x,_,h=>⟨h,trivial⟩
|y::l,out,x,hl,h=>by
  refine⟨hl.1,?_⟩;have h2:=hl.2;rw[<-oh] at h2 ⊢;exact xz h2 h
theorem aao (l:List bn)(out:List UInt8)(x:bn):fx out (l++[x])=gu (fx out l) x:=by
 unfold fx;rw[List.foldl_append];rfl
theorem qg:∀{n:Nat} {s:List UInt8} {a d:Nat},1<=d->d<=a->a+n<=s.length->(∀i,i < n->s[a - d+i]?=s[a+i]?)->gi d n (s.take a)=s.take (a+n)
|0,s,a,d,_,_,_,_=>rfl
|n+1,s,a,d,h1,h2,h3,h=>by
  rw[gi];have hl:(s.take a).length=a:=by rw[aoH];omega
  have e:(s.take a).getD ((s.take a).length - d) 0=s[a]:=by
   rw[hl,aoE,arB,anX om];have:=h 0 om;rw[apO,apO] at this;rw[this,aoI om];rfl
  rw[e,<-apG om,qg h1 om om (λi hi=>by
   have:=h (i+1) om;rw[show a - d+(i+1)=a+1 - d+i by omega,show a+(i+1)=a+1+i by omega] at this;exact this)]
  congr 1;omega
def ju (s:List UInt8)(a:Nat)(x:bn):bn:=if x.2.1=0 then (s.getD a 0,x.2.1,x.2.2) else x
theorem zy {s:List UInt8}{a:Nat}{x:bn}(h:kd s a x):gw a (ju s a x):=by
 unfold gw ju;obtain⟨h1,h2⟩:=h;by_cases h0:x.2.1=0
 ·simp only[anX h0];rcases h2 with h2|h2
  ·exact h2.2
  ·omega
 ·rw[anW h0,anW h0];rcases h2 with h2|h2
  ·exact absurd h2.1 h0
  ·exact⟨h1,h2.1,h2.2.1,h2.2.2.1,h2.2.2.2.1,h2.2.2.2.2.1⟩
theorem zz {s:List UInt8}{a:Nat}{x:bn}(h:kd s a x)(ha:a < s.length):gu (s.take a) (ju s a x)=s.take (a+max x.2.1 1):=by
 unfold gu ju;obtain⟨h1,h2⟩:=h;by_cases h0:x.2.1=0
 ·simp only[anX h0];rw[h0,aoE,aoI ha];exact (apG ha).symm
 ·simp only[anW h0];rcases h2 with h2|⟨p1,p2,p3,p4,p5,p6,p7⟩
  ·exact absurd h2.1 h0
  ·rw[qg p3 p5 p6 p7,Nat.max_eq_left om]
section
variable {w:ak}{PK:PKT}{K:VWP}{S:Nat->Prop}{w0:ak}{L T:List Ent}
theorem qh (ho:OwnS S w0 w (ew b rr T)):OwnS S w0 w (T++ew b rr []):=by
 have ho:OwnS S w0 w ((Ent.map b (fu rr)::rr.map ez)++T):=ho;unfold ew;rw[aoV];exact ho.perm auD
theorem yq (ho:OwnS S w0 w (T++ew b rr [])):OwnS S w0 w (ew b rr T):=by
 unfold ew at ho;rw[aoV] at ho;exact ho.perm auD
theorem afE (x:bn)(ho:OwnS S w0 w L)(k:∀b w',OwnS S w0 w' (ptE b x::L)->K (.slice (aw ⟨b,0,av⟩) 1 1) w'):DoX ah (bF 269 1 #[(0,ptV x)]) w PK K:=
 bD (λb=>.slice (aw ⟨b,0,av⟩) 1 1) (ptC x) 291 (λ_=>by kernel_rfl) ho k
end
theorem elPt:elB ah 291 3 24=true:=krx
theorem S9 (s:List UInt8)(M:Mem)(w:ak)(hM:M.has w)(hs:s.length<=1048576) :
  RetM ah 266 #[strK s] M w (λr N=>∃ps,SlA N.A N.w r 3 ps.length (ps.flatMap ptC)∧iu 0 ps∧fx [] ps=s∧ps.length<=s.length):=by
 refine aU hM λK hK=>EV ?_;unfold Bp nz;have hst:(strK s)=.string ⟨s.toArray⟩:=rfl;rw[hst,cL aoD];simp only[rs,show ai ((1048576:Int) < (s.length:Int))=aq from anY om,i_f];have ho:OwnS M.A w w [.mem M]:=OwnS.memS hM;refine Yc (OwnS.nilU ho 291 3) λb w1 ho=>?_;refine loop (λvs W=>∃(ps:List bn) (a:Nat) (rr:List ik) (v:ao),vs=[v,.int .i64 (a:Int)]∧a<=s.length∧ps.length<=a∧iu 0 ps∧fx [] ps=s.take a∧lq s a rr∧OwnS M.A w W (ew b rr [.urow 291 3 v ps.length (ps.flatMap ptC),.mem M])) (λvs _=>s.length - n1 vs)
  ⟨[],0,[],nilS,rfl,om,sm,trivial,rfl,(λr hr=>by cases hr),ho⟩ ?_
 clear ho;rintro vs w2 ⟨ps,a,rr,v,rfl,ha,hpa,hpo,hpe,hok,ho⟩ _;simp only[vU,gd,rs,nz];rw[cL aoD];simp only[rs];by_cases hlt:(a:Int) < (s.length:Int)
 case neg=>
  simp only[hlt,aoB,i_f];have ho:OwnS M.A w w2 (.urow 291 3 v ps.length (ps.flatMap ptC)::.mem M::ew b rr []):=qh ho;obtain⟨N,g,hsl,ho⟩:=OwnS.cI ho 0 rfl;refine hK _ _ N _ 0 ho rfl g ⟨ps,hsl,hpo,?_,om⟩;rw[hpe,apE om]
 have ha':a < s.length:=om
 simp only[hlt,aoA,i_t];refine WH (s:=s) ho hok ha hs λx w3 ho hx=>?_;refine Xo ho λb6 w4 ho=>?_;refine Oa (y:=x) 0 ho rfl λw5 ho=>?_;have ho:OwnS M.A w w5 (ptE b6 x::ew b rr [.urow 291 3 v ps.length (ps.flatMap ptC),.mem M]):=ho;rw[aP Hv,pt_1 ho 0 rfl,sB];refine join λJ hJ=>?_;rw[aP Hv,pt_1 ho 0 rfl];simp only[rs];have hpo':gw a (ju s a x):=zy hx;have hex:=zz hx ha';have hle:a+max x.2.1 1<=s.length:=by
  rcases hx.2 with h|h
  ·omega
  ·have:=h.2.2.2.2.2.1;omega
 have hla:(s.take a).length=a:=by rw[aoH];omega
 have next:∀W,OwnS M.A w W (ptE b6 (ju s a x)::ew b rr [.urow 291 3 v ps.length (ps.flatMap ptC),.mem M])->J [] W:=by
  intro W ho;refine hJ _ _ λ_=>?_;simp only[vZ,gd,rs,nz];rw[agC 0 ho rfl];have ho:OwnS M.A w W (ew b rr [.urow 291 3 v ps.length (ps.flatMap ptC),.mem M]):=ho.tail;refine afE (ju s a x) (qh ho) λb8 w6 ho=>?_;refine aX 1 avR elPt dc ho rfl (ho.sl 0 rfl 3 1 1 rfl) Xd om om λv' w7 ho=>?_;have ho:OwnS M.A w w7 ([.urow 291 3 v' (ps.length+1) (ps.flatMap ptC++ptC (ju s a x)),.mem M]++ew b rr []):=ho.tail
  try simp only[rs]
  rw[aA om om,show (a:Int)+max (x.2.1:Int) 1=((a+max x.2.1 1:Nat):Int) by omega];refine ajB (s:=s) (yq ho) hok om hle hs λrr' w8 ho hok'=>?_;refine aQ ⟨ps++[ju s a x],a+max x.2.1 1,rr',v',rfl,hle,by rw[aoC,apL];omega,?_,?_,hok',?_⟩ (by simp[n1,RowKit.intOf];omega)
  ·exact xz (out:=[]) hpo (by rw[hpe,hla];exact hpo')
  ·rw[aao,hpe,hex]
  ·rw[aoC,apL,atC,atT];exact ho
 by_cases h0:x.2.1=0
 ·simp only[show ai ((x.2.1:Int)=0)=au from anZ om,i_t];rw[s_ix (c:=s[a]) aoD om (by rw[aoF,aoI ha']),aP Wj];refine aN 0 ho rfl krx rfl (by show 0 < 3;decide) λw6 ho=>?_;refine next w6 ?_
  have e:ju s a x=(s[a],x.2.1,x.2.2):=by
   unfold ju;rw[anX h0,aoE,aoI ha'];rfl
  rw[e];exact ho
 ·simp only[show ai ((x.2.1:Int)=0)=aq from anY om,i_f];refine next w5 ?_
  have e:ju s a x=x:=by unfold ju;rw[anW h0]
  rw[e];exact ho
end
section
open Eng
def BK(t0 w)(K:KT):=nz f269 1 [] [] [] (zg [0] [t0]) w K
theorem F7:BK t0 w k0->Calls ah 269 #[t0] w k0:=cw func269
def gA(t0 w)(K:KT):=nz f303 1 [] [] [] (zg [0] [t0]) w K
theorem mT:gA t0 w k0->Calls ah 303 #[t0] w k0:=cw func303
end
section
open Eng
def J7(t0 t1 w)(K:KT):=nz f191 1 [] [] [] (zg [0,1] [t0,t1]) w K
theorem KY:J7 t0 t1 w k0->Calls ah 191 #[t0,t1] w k0:=cw func191
end
section
open Eng Go.RowKit
theorem amI:elB ah 5 1 1=true:=krx
theorem ajC:(Tryz.prog.info? 5).map (·.size)=aw 1:=krx
theorem Wd {dT sT ty T E:TypeId}{g n:Nat}{s:List UInt8}(hu:P.underlying dT=aw (.slice E))(hsz:(P.info? E).map (·.size)=aw 1)
  (hg:w.heap[g]?=aw (.cells cur.toArray T (0,0))) (hn:s.length=n) (hc:cur.length=n) :
  (mB .copy #[dT,sT] ty cb #[.slice (aw ⟨g,0,av⟩) n cap,.string ⟨s.toArray⟩]).run P w=.ok (.value (goInt n)) (w.setRow g (aG s).toArray):=by
 have hl:(aG s).length=n:=by rw[cP,hn]
 have hst:=run_storeCells_at P g 0 T (aG s) 0 cur.toArray w hg (by rw[hl];simp[hc]) aW;simp only[apO,aoN,arP,apK] at hst;rw[auH (by rw[hl];simp[hc]),aoV] at hst;obtain⟨i,hi,h2⟩:=aqN.1 hsz;have htk:List.take n (aG s)=aG s:=apE om;have hs2:(⟨s.toArray⟩:ByteArray).size=n:=by rw[cW,hn]
 unfold aG at htk hst;simp[mB,builtin,Builtin.copy_,run_underlying hu,Builtin.lenOf,Builtin.firstCells,sizeOf,typeInfo,hi,h2,hst,hs2,htk,aG]
theorem Te (s:List UInt8)(w:ak)(hs:s.length<=1000000000):Ret ah 269 #[strK s] w (λv w'=>v=strK s∧Below w.heap.size w w'):=by
 refine aK λK hK=>F7 ?_;unfold BK nz;refine eW (mT (k0:=RetK λv w'=>v=strK s∧Below w.heap.size w w') ?_) (λe W ⟨v,he,hv,ho⟩=>by subst he;subst hv;exact hK _ _ ⟨rfl,ho⟩);unfold gA nz;rw[show strK s=.string ⟨s.toArray⟩ from rfl,cL aoD];simp only[rs];by_cases h0:s=[]
 ·subst h0;simp only[arL,show ai (((0:Nat):Int)=0)=au from rfl,i_t];exact retK ⟨rfl,Below.refl _ _⟩
 have hl:0 < s.length:=arI.2 h0;simp only[show ai ((s.length:Int)=0)=aq from anY om,i_f];rw[cL aoD];refine QU aoK amI om om (Own.start w) λg w1 zs hz ho=>?_;rw[aoS] at hz;refine jV (Wd aoK ajC (ho.at_ 0 rfl) rfl hz) ?_;have ho2:Own w (w1.setRow g (aG s).toArray) [.cells g (aG s) 5]:=gX ho 0 rfl _;generalize w1.setRow g (aG s).toArray=w2 at ho2;refine aC (dZ (P:=ah) (T:=53) (b:=g) (off:=0) (cap:=s.length) (n:=s.length) (k:=.i64) (i:=0) (w:=w2) aoK ajC om om) |>.mpr ?_;rw[bG aoK];have hg:w2.heap[g]?=aw (.cells (aG s).toArray 5 (0,0)):=ho2.at_ 0 rfl;have hr:=Lib.run_unsafeString_row (P:=ah) w2 239 3 9 5 awA krx g s.length (by unfold World.shape?;rw[hg];simp[cP]) s h0 (aoG _) om (λj x hj=>by
  have:=ho2.cell 0 rfl j (Eng.fC hj);rw[cK,aoN];exact this)
 refine jV (show (mB .unsafeString #[239,3] 9 #[aq,aq] #[.pointer (aw ⟨g,0,av⟩),.int .i64 s.length]).run ah w2=.ok (.value (.string ⟨s.toArray⟩)) (w2.freeze ⟨g,0,av⟩ s.length) by
  simp[mB,builtin,hr]) ?_
 refine retK ⟨rfl,Lib.below_freeze ho2.done (p:=⟨g,0,av⟩) ?_ _⟩;exact ((ho2.all _ (aoZ.2 rfl)).2 g rfl).elim (λx=>x.elim) id
theorem sx:∀(f:Nat) (s:List UInt8),(iy f s).length<=40*f+8*s.length
|0,s=>by unfold iy;simp
|f+1,s=>by
  unfold iy;split
  ·rw[kj];omega
  ·rw[aoC,kj];have:=sx f (s.drop 65535);rw[aoJ] at this;rw[aoH];omega
theorem aap (s:List UInt8):(ay (gp s)).length<=2*s.length+10:=by
 have:=sx (s.length / 65535+1) s;rw[lx];unfold gp;omega
theorem ZA (s:List UInt8)(M:Mem)(w:ak)(hM:M.has w)(hs:s.length<=1048576) :
  RetM ah 235 #[strK s,.int .i64 2] M w (λv _=>∃R,v=.tuple #[.string ⟨(ay R).toArray⟩,.int .i64 0]∧bo R∧jd R s∧(ay R).length<=2*s.length+10):=by
 refine aU hM λK hK=>Ic ?_;unfold Ep nz;have ho:OwnS M.A w w [.mem M]:=OwnS.memS hM;simp only[rs,gd,show ai ((2:Int) < 0)=aq from rfl,show ai ((2:Int) < 2)=aq from rfl,show ai ((2:Int)=0)=aq from rfl,i_f];rw[show strK s=.string ⟨s.toArray⟩ from rfl,cL aoD];simp only[rs,show ai ((1048576:Int) < (s.length:Int))=aq from anY om,i_f];refine U9 ho hs λw1 ho=>?_;refine bI ho 0 rfl (S9 s M w1 (ho.hasM 0 rfl) hs) ?_;rintro pv N w2 g ⟨ps,hps,hpo,hpe,hpl⟩ ho;have ho:OwnS M.A w w2 [.mem N]:=ho;refine join λJ hJ=>?_;have next:∀(R:List Nat) (N2:Mem) (W:ak),N.le N2->OwnS M.A w W [.mem N2]->bo R->jd R s->(ay R).length<=2*s.length+10->J [.string ⟨(ay R).toArray⟩] W:=by
  intro R N2 W g2 ho h1 h2 h3;refine hJ _ _ λ_=>?_;simp only[gd];unfold BG nz;refine join λJ2 hJ2=>?_;simp only[rs,aoA,i_t];have last:∀(R:List Nat) (N2:Mem) (W:ak),N.le N2->OwnS M.A w W [.mem N2]->bo R->jd R s->(ay R).length<=2*s.length+10->J2 [.string ⟨(ay R).toArray⟩] W:=by
   intro R N2 W g2 ho h1 h2 h3;refine hJ2 _ _ λ_=>?_;simp only[gd];unfold A7 nz;refine aH ho (Te (ay R) W om) ?_;rintro _ w9 rfl ho;exact hK _ _ N2 _ 0 ho rfl (g.trans g2) ⟨R,rfl,h1,h2,h3⟩
  refine bI ho 0 rfl (Ys ps pv N2 W (ho.hasM 0 rfl) (hps.le g2) hpo om) ?_;rintro _ N3 w5 g3 ⟨R2,rfl,h4,h5⟩ ho;have ho:OwnS M.A w w5 [.mem N3]:=ho;rw[cL aoD,cL aoD];simp only[rs];by_cases hlt:((ay R2).length:Int) < ((ay R).length:Int)
  ·simp only[hlt,aoA,i_t];exact last R2 N3 w5 (g2.trans g3) ho h4 (by rw[<-hpe];exact h5) om
  ·simp only[hlt,aoB,i_f];exact last R N3 w5 (g2.trans g3) ho h1 h2 h3
 refine bI ho 0 rfl (SZ ps pv N w2 (ho.hasM 0 rfl) hps hpo om) ?_;rintro _ N3 w5 g3 rfl ho;have ho:OwnS M.A w w5 [.mem N3]:=ho;rw[cL aoD,cL aoD];simp only[rs];have hle:=aap s;by_cases hlt:((ay (im ps)).length:Int) < ((ay (gp s)).length:Int)
 ·simp only[hlt,aoA,i_t];exact next (im ps) N3 w5 g3 ho (U0 ps) (by rw[<-hpe];exact W0 hpo) om
 ·simp only[hlt,aoB,i_f];exact next (gp s) N3 w5 g3 ho (S0 s) (T0 s) hle
theorem aaq {R:List Nat}{s:List UInt8}(h:jd R s)(hok:bo R)(hs:s.length<=1048576):ft ([120,156]++ay R++bj (ff s)) 1048576=(s,0):=by
 have h4:(bj (ff s)).length=4:=rfl;unfold ft;have hd:([120,156]++ay R++bj (ff s)).drop 2=ay R++bj (ff s):=rfl;have hb:¬lr (([120,156]++ay R++bj (ff s)).getD 0 0).toNat (([120,156]++ay R++bj (ff s)).getD 1 0).toNat=true:=show ¬lr 120 156=au by decide
 rw[anW sm,anW hb,hd,R0 h hok om hs];simp only[];have hl:([120,156]++ay R++bj (ff s)).length=2+(ay R).length+4:=by simp only[aoC,h4];simp
 have hd2:([120,156]++ay R++bj (ff s)).drop (2+(ay R).length)=bj (ff s):=by
  have e:2+(ay R).length=([120,156]++ay R:List UInt8).length:=by simp;omega
  rw[e,List.drop_left]
 rw[anW sm,anW (by rw[hl];omega),hd2,anW (by rw[apE (Nat.le_of_eq h4)];simp)]
theorem U8 (s:List UInt8)(M:Mem)(w:ak)(hM:M.has w)(hs:s.length<=1048576) :
  RetM ah 191 #[strK s,.int .i64 2] M w (λv _=>∃t,v=.tuple #[strK t,.int .i64 0]∧ft t 1048576=(s,0)∧t.length<=2*s.length+16):=by
 refine aU hM λK hK=>KY ?_;unfold J7 nz;have ho:OwnS M.A w w [.mem M]:=OwnS.memS hM;refine bI ho 0 rfl (ZA s M w hM hs) ?_;rintro _ N w1 g ⟨R,rfl,h1,h2,h3⟩ ho;have ho:OwnS M.A w w1 [.mem N]:=ho;simp only[ex,bQ,rs,show ai ((0:Int)≠0)=aq from rfl,i_f];rw[show (Value.string ⟨#[120,156]⟩)=.string ⟨([120,156]:List UInt8).toArray⟩ from rfl,SX (by simp;omega)];refine aH ho (Rv s w1 om) ?_;rintro _ w2 rfl ho;refine aH ho (O1 (ff s) w2) ?_;rintro _ w3 rfl ho;rw[SX (by simp[bj];omega)];exact hK _ _ N _ 0 ho rfl g ⟨_,rfl,aaq h2 h1 hs,by simp[bj];omega⟩
end
section
open Eng Go.RowKit
theorem ZX {a b:UInt8}:IntKind.u8.wrap ((a.toNat:Int) - (b.toNat:Int))=((a - b).toNat:Int):=by
 unfold IntKind.wrap;have ha:=a.toNat_lt;have hb:=b.toNat_lt;simp only[IntKind.bits,IntKind.signed,UInt8.toNat_sub];simp;omega
theorem u8Sl {l:List UInt8}(hs:Sl w v 1 l.length (aG l))(hi:i < l.length) :
  ∃p,(mIA 53 v (.int .i64 (i:Int))).run ah w=.ok (.value (.pointer (aw p))) w∧(aJ 5 (.pointer (aw p))).run ah w=.ok (.value (.int .u8 (l[i].toNat:Int))) w:=by
 obtain⟨b,off,cap,rfl,hc⟩:=bY hs om;refine⟨⟨b,off+i,av⟩,?_,?_⟩
 ·have:=dZ (P:=ah) (T:=53) (b:=b) (off:=off) (cap:=cap) (n:=l.length) (k:=.i64) (i:=(i:Int)) (w:=w) aoK (show (Tryz.prog.info? 5).map (·.size)=aw 1 by kernel_rfl) om om;rw[aoF,aoS] at this;exact this
 ·refine bE (AtV.cell nU8l (hc _ _ (fC hi)))
section
variable {w:ak}{PK:PKT}{K:VWP}{S:Nat->Prop}{w0:ak}{L:List Ent}
theorem R8 {tag:Int}{row:List UInt8}(ho:OwnS S w0 w L)(hA:∀W,OwnS S w0 W L->Sl W va 1 above.length (aG above))(hR:∀W,OwnS S w0 W L->Sl W vr 1 row.length (aG row))(hc:1<=colors∧colors<=1000000)(hl:row.length<=1000000)
  (k:∀g W,OwnS S w0 W (.cells g (aG (dv tag above row colors)) 5::L)->K (.slice (aw ⟨g,0,av⟩) row.length row.length) W) :
  CallX ah 233 #[rwV va vr colors,.int .i64 tag] w PK K:=by
 generalize hG:dv tag above row colors=G at k;have hGl:G.length=row.length:=by rw[<-hG,jn]
 refine⟨Al ?_⟩;unfold sC nz;have o1:va.oneCell'=true:=kC (hA w ho);have o2:vr.oneCell'=true:=kC (hR w ho);have bx:∀W:ak,(mBox 246 (rwV va vr colors)).run ah W=.ok (.value (.pointer (aw ⟨W.heap.size,0,av⟩))) (W.alloc (.cells (rwC va vr colors).toArray 246)):=λW=>by
  cases va<;>first|(cases o1;done)|skip
  all_goals cases vr<;>first|(cases o2;done)|kernel_rfl
 refine bD (λb=>.pointer (aw ⟨b,0,av⟩)) (rwC va vr colors) 246 bx ho λb w1 ho=>?_;refine aC (bH zG) |>.mpr (aC (A9 (ho.at_ 0 rfl)) |>.mpr ?_);rw[bB aoK (hR w1 ho.tail)];refine QU aoK (show elB ah 5 1 1=au by kernel_rfl) om om ho λg w2 zs hz ho=>?_;rw[aoS] at hz;refine aC (bH zG) |>.mpr (aC (A9 (ho.at_ 1 rfl)) |>.mpr ?_);rw[bB aoK (hR w2 ho.tail.tail)];refine loop (λvs W=>∃(i:Nat) (zs:List ao),vs=[.int .i64 (i:Int)]∧i<=row.length∧zs.length+i=row.length∧OwnS S w0 W (.cells g (aG (G.take i)++zs) 5::rwE b va vr colors::L)) (λvs _=>row.length - n0 vs) ⟨0,zs,rfl,om,om,ho⟩ ?_;clear ho hz zs;rintro vs w3 ⟨i,zs,rfl,hi,hz,ho⟩ _;simp only[nV,gd,rs,nz];by_cases hlt:(i:Int) < (row.length:Int)
 case neg=>
  simp only[hlt,aoB,i_f];have:zs=[]:=arS.1 om;subst this;rw[aoV,apE om] at ho;exact k g w3 ((OwnS.swap ho).tail)
 have hi':i < row.length:=om
 simp only[hlt,aoA,i_t];obtain⟨p,hia,hld⟩:=u8Sl (hR w3 ho.tail.tail) hi';rw[aC hia,aC hld,l_at (ho.agg 1 rfl NO)];refine aH ho (SE tag above row va vr (i:Int) colors w3 om hc (hA w3 ho.tail.tail) (hR w3 ho.tail.tail)) ?_;rintro _ w4 rfl ho;rw[TT,ZX];obtain⟨z,zs,rfl⟩:∃z zs',zs=z::zs':=by
  cases zs with
 |nil=>simp at hz;omega
 |cons z zs=>exact⟨z,zs,rfl⟩
 rw[apB] at hz;refine aC (dZ (P:=ah) (T:=53) (b:=g) (off:=0) (cap:=row.length) (n:=row.length) (k:=.i64) (i:=(i:Int)) (w:=w4) aoK (show (Tryz.prog.info? 5).map (·.size)=aw 1 by kernel_rfl) om om) |>.mpr ?_;rw[aoF,aoS,aoN];have htl:(aG (G.take i)).length=i:=by rw[cP,aoH];omega
 refine aN 0 ho rfl krx rfl (by rw[aoC,htl,apB];omega) λw5 ho=>?_
 try simp only[rs]
 rw[aA om om];refine aQ ⟨i+1,zs,rfl,om,om,?_⟩ (by simp[n0,RowKit.intOf];omega);have hg:G[i]'(om)=row[i] - dn tag above row (i:Int) colors:=by
  have:=uu (tag:=tag) (above:=above) (colors:=colors) hi';rw[hG,aoI om] at this;exact arH this
 have e:(aG (G.take i)++z::zs).set i (.int .u8 ((row[i] - dn tag above row (i:Int) colors).toNat:Int))=aG (G.take (i+1))++zs:=by
  rw[List.set_append,anW (by rw[htl];omega),htl,aqK,aqP,apG om,kV,aoL,hg];rfl
 rw[<-e];exact ho
end
theorem Ku (l:List UInt8)(v:ao)(w:ak)(hs:Sl w v 1 l.length (aG l))(hl:l.length<=1000000):Ret ah 264 #[v] w (λr w'=>r=.int .i64 (fk l:Int)∧w=w'):=by
 refine aK λK hK=>D6 ?_;unfold zJ nz;rw[bB aoK hs];have hle:∀i,fk (l.take i)<=256*i:=λi=>by
  unfold fk
  induction i with
 |zero=>simp
 |succ i ih=>
   by_cases hi:i < l.length
   ·rw[apG hi,apX,avJ];simp only[aqL,asY,asO,List.sum_nil];have:=l[i].toNat_lt;omega
   ·rw[apE om] at ih ⊢;omega
 refine loop (λvs W=>∃i:Nat,vs=[.int .i64 (fk (l.take i):Int),.int .i64 (i:Int)]∧i<=l.length∧W=w) (λvs _=>l.length - n1 vs) ⟨0,by rw[arP];rfl,om,rfl⟩ ?_;rintro vs w1 ⟨i,rfl,hi,rfl⟩ _;simp only[tL,gd,rs,nz];have hw:=hle i;by_cases hlt:(i:Int) < (l.length:Int)
 case neg=>
  simp only[hlt,aoB,i_f];rw[apE om];exact hK _ _ ⟨rfl,rfl⟩
 have hi':i < l.length:=om
 simp only[hlt,aoA,i_t];obtain⟨p,hia,hld⟩:=u8Sl hs hi';have hc:=l[i].toNat_lt;rw[aC hia,aC hld,u8ix,u8ix]
 try simp only[rs]
 rw[aA (n:=(256:Int) - _) om om,GP]
 try simp only[rs]
 rw[aA (n:=_+min _ _) om om,aA om om];refine aQ ⟨i+1,?_,om,rfl⟩ (by simp[n1,RowKit.intOf];omega);have e:fk (l.take (i+1))=fk (l.take i)+min l[i].toNat (256 - l[i].toNat):=by
  unfold fk;rw[apG hi',apX,avJ];simp
 rw[e]
 congr 2
 ·congr 1;omega
section
variable {w:ak}{PK:PKT}{K:VWP}{S:Nat->Prop}{w0:ak}{L:List Ent}
theorem aeT {row:List UInt8}(ho:OwnS S w0 w L)(hA:∀W,OwnS S w0 W L->Sl W va 1 above.length (aG above))(hR:∀W,OwnS S w0 W L->Sl W vr 1 row.length (aG row))(hc:1<=colors∧colors<=1000000)(hl:row.length<=1000000)
  (k:∀W,OwnS S w0 W L->K (.int .i64 (qc above row colors:Int)) W) :
  CallX ah 234 #[rwV va vr colors] w PK K:=by
 refine⟨Av ?_⟩;unfold rH nz;have o1:va.oneCell'=true:=kC (hA w ho);have o2:vr.oneCell'=true:=kC (hR w ho);have bx:∀W:ak,(mBox 246 (rwV va vr colors)).run ah W=.ok (.value (.pointer (aw ⟨W.heap.size,0,av⟩))) (W.alloc (.cells (rwC va vr colors).toArray 246)):=λW=>by
  cases va<;>first|(cases o1;done)|skip
  all_goals cases vr<;>first|(cases o2;done)|kernel_rfl
 refine bD (λb=>.pointer (aw ⟨b,0,av⟩)) (rwC va vr colors) 246 bx ho λb w1 ho=>?_;have hA':∀W,OwnS S w0 W (rwE b va vr colors::L)->Sl W va 1 above.length (aG above):=λW ho=>hA W ho.tail;have hR':∀W,OwnS S w0 W (rwE b va vr colors::L)->Sl W vr 1 row.length (aG row):=λW ho=>hR W ho.tail;have hsl:∀{W:ak} {g:Nat} {tag:Int},OwnS S w0 W (.cells g (aG (dv tag above row colors)) 5::rwE b va vr colors::L)->Sl W (.slice (aw ⟨g,0,av⟩) row.length row.length) 1 (dv tag above row colors).length (aG (dv tag above row colors)):=λho=>by
  have:=ho.sl 0 rfl 1 row.length row.length (by rw[cP,jn,aoS]);rw[jn];exact this
 rw[l_at (ho.agg 0 rfl NO)];refine R8 (tag:=0) ho hA' hR' hc hl λg w2 ho=>?_;refine c_eq (Ku _ _ w2 (hsl ho) (by rw[jn];exact hl)) ?_;refine loop (λvs W=>∃k:Nat,vs=[.int .i64 ((jq above row colors k).1:Int),.int .i64 ((jq above row colors k).2:Int),.int .i64 ((k+1:Nat):Int)]∧k<=4∧OwnS S w0 W (rwE b va vr colors::L)) (λvs _=>5 - n2 vs) ⟨0,rfl,om,ho.tail⟩ ?_;clear ho;rintro vs w3 ⟨i,rfl,hi,ho⟩ _;simp only[oF,gd,rs,nz];by_cases hlt:((i+1:Nat):Int) < 5
 case neg=>
  simp only[hlt,aoB,i_f];obtain rfl:i=4:=om
  exact k w3 ho.tail
 simp only[hlt,aoA,i_t];refine join λJ hJ=>?_;rw[l_at (ho.agg 0 rfl NO)];refine R8 (tag:=((i+1:Nat):Int)) ho hA' hR' hc hl λg w4 ho=>?_;refine c_eq (Ku _ _ w4 (hsl ho) (by rw[jn];exact hl)) ?_;have next:∀(a b2:Nat),jq above row colors (i+1)=(a,b2)->J [.int .i64 (a:Int),.int .i64 (b2:Int)] w4:=by
  intro a b2 h;refine hJ _ _ λ_=>?_;simp only[oD,gd,rs,nz];rw[aA om om];refine aQ ⟨i+1,?_,om,ho.tail⟩ (by simp[n2,RowKit.intOf];omega);rw[h];rfl
 try simp only[rs]
 by_cases hw:fk (dv ((i+1:Nat):Int) above row colors) < (jq above row colors i).2
 ·simp only[show ai ((fk (dv ((i+1:Nat):Int) above row colors):Int) < ((jq above row colors i).2:Int))=au from anZ om,i_t];exact next (i+1) _ (by rw[jq,anX hw])
 ·simp only[show ai ((fk (dv ((i+1:Nat):Int) above row colors):Int) < ((jq above row colors i).2:Int))=aq from anY om,i_f];exact next _ _ (by rw[jq,anW hw])
theorem YQ {n:Nat}(hn:n<=10000000)(ho:OwnS S w0 w L)(k:∀v w',OwnS S w0 w' (outR v []::L)->K v w') :
  DoX ah (H4 53 (.int .i64 0) (.int .i64 (n:Int))) w PK K:=by
 obtain⟨i,z,hi,hz,hi1,hi2,hz1⟩:=jC (show elB ah 5 1 1=au by kernel_rfl);have hr:=run_make (P:=ah) w 53 5 i z aoK hi hz .i64 .i64 (0:Int) (n:Int) om om (by rw[hi2];omega) om;rw[aoF] at hr;refine jV (bK hr) (k _ _ ?_);have h1:=ho.alloc (madeCells z.cells (n*i.size)).toList 5;rw[avX] at h1;exact OwnS.toU h1 1 0 n (by rw[Array.length_toList,size_madeCells,hi1]) om om
end
end
section
open Eng Go.RowKit
def kg (x:Pm):List UInt8->List UInt8->Nat:=lu x.p x.c
def dd (x:Pm)(s:List UInt8):Int:=
 if ¬x.ok then 1
 else if 1048576 < s.length then 5
 else if x.p=1 then 0
 else if s.length % (x.c*x.n).toNat≠0 then 16
 else if 10<=x.p∧1048576 < s.length+s.length / (x.c*x.n).toNat then 5
 else 0
def ej (x:Pm)(s:List UInt8):List UInt8:=if x.p=1 then s else fw (kg x) x.c (x.c*x.n).toNat x.head (s.length+1) s []
theorem rq {s:List UInt8}(h:dd x s=0):dy x (ej x s)=(s,0)∧(ej x s).length<=1048576:=by
 unfold dd at h;by_cases h1:x.ok
 case neg=>rw[anX h1] at h;cases h
 rw[anW (by simp[h1])] at h;by_cases h2:1048576 < s.length
 ·rw[anX h2] at h;cases h
 rw[anW h2] at h;have hmp:=Pm.mul_pos h1;obtain⟨n,hn⟩:∃n:Nat,x.c*x.n=(n:Int):=⟨(x.c*x.n).toNat,om⟩;unfold dy ej;rw[hn] at h hmp ⊢;rw[aoF] at h ⊢;by_cases h3:x.p=1
 ·simp only[anX h3];rw[anW (by simp[h1]),anW om];exact⟨rfl,om⟩
 rw[anW h3] at h;simp only[anW h3];by_cases h4:s.length % n=0
 case neg=>rw[anX h4] at h;cases h
 rw[anW (by simp[h4])] at h;have hn1:0 < n:=om
 have hk:s.length=s.length / n*n:=by
  have:=Nat.div_add_mod s.length n;rw[h4,apO,arG] at this;exact this.symm
 have hh:x.head=0∨x.head=1:=by unfold Pm.head;split<;>simp
 have hlen:=uw (T:=kg x) (c:=x.c) hn1 hh (s.length / n) (s.length+1) s [] hk om;have hkn:x.p=2∨(10<=x.p∧x.p<=15):=by
  rcases h1.1 with h|h|h
  ·exact absurd h h3
  ·exact .inl h
  ·exact .inr h
 have hback:=ux (T:=kg x) (c:=x.c) h1.2.1 hn1 hh (λa b=>yy hkn x.c a b) (λh0 a b=>by
  unfold Pm.head at h0;have:x.p=2:=by
   rcases hkn with h|h
   ·exact h
   ·rw[anX h.1] at h0;cases h0
  unfold kg lu;rw[anX this]) (s.length / n) (s.length+1) ((fw (kg x) x.c n x.head (s.length+1) s []).length+1) s [] [] hk om (by
   rw[hlen];have:s.length / n*1<=s.length / n*(n+x.head):=Nat.mul_le_mul_left _ om;omega)
 have hle:(fw (kg x) x.c n x.head (s.length+1) s []).length<=1048576:=by
  rw[hlen,Nat.mul_add,<-hk];have hd:x.head=if 10<=x.p then 1 else 0:=rfl
  by_cases h10:10<=x.p
  ·rw[anX h10] at hd;rw[hd,aoS];refine Nat.le_of_not_lt λhlt=>?_;rw[anX ⟨h10,hlt⟩] at h;cases h
  ·rw[anW h10] at hd;rw[hd];omega
 refine⟨?_,hle⟩;rw[anW (by simp[h1]),anW om,anW (by rw[hlen,Nat.mul_mod_left];simp),hback];rfl
def encT (r:List UInt8)(e:Int):Value:=.tuple #[.string ⟨r.toArray⟩,.int .i64 e]
theorem SF {T:TypeId}(hd:Tryz.prog.underlying D=aw (.int .u8))(hs:Tryz.prog.underlying T=aw (.int .i64))(n:Nat)(W:ak):(fA T D (.int .i64 (n:Int))).run ah W=.ok (.value (.int .u8 ((UInt8.ofNat n).toNat:Int))) W:=by
 rw[<-lA];exact aO (by rw[hs];rfl) hd
theorem Qi (x:Pm)(s:List UInt8)(w:ak)(hs:s.length<=1000000000):Ret ah 190 #[pmV x,.string ⟨s.toArray⟩] w (λv w'=>v=encT (if dd x s=0 then ej x s else []) (dd x s)∧Below w.heap.size w w'):=by
 refine aK λK hK=>rX ?_;generalize hX:dd x s=X at hK;unfold dd at hX;unfold oZ nz;refine yE x (Own.start w) λb w1 ho=>?_;rw[pm_v ho 0 rfl];refine aH ho (IJ x w1) ?_;rintro _ w2 rfl ho;rw[sB,pm_v ho 0 rfl];obtain⟨n,hn,hn1,hn2⟩:∃n:Nat,max (if x.ok then x.c*x.n else 0) 1=(n:Int)∧1<=n∧n<=8192:=by
  by_cases h:x.ok
  ·rw[anX h];have h1:=Pm.mul_pos h;have h2:=h.2.2.2.2;exact⟨(x.c*x.n).toNat,om,om,om⟩
  ·rw[anW h];exact⟨1,dc,dc,dc⟩
 rw[hn];refine aH ho (xI x s n w2 om hs) ?_;rintro _ w3 rfl ho;simp only[bQ];by_cases h:x.ok
 case neg=>
  rw[anX h] at hX ⊢;simp only[show ai ((1:Int)≠0)=au from rfl,i_t];exact hK _ _ ⟨by rw[<-hX];rfl,ho.done⟩
 rw[anW (by simp[h])] at hX ⊢;have hn':(x.c*x.n).toNat=n:=by
  rw[anX h] at hn;have h1:=Pm.mul_pos h;omega
 rw[hn'] at hX;by_cases h2:1048576 < s.length
 ·rw[anX h2] at hX ⊢;simp only[show ai ((5:Int)≠0)=au from rfl,i_t];exact hK _ _ ⟨by rw[<-hX];rfl,ho.done⟩
 rw[anW h2] at hX ⊢;by_cases h3:x.p=1
 ·rw[anW (by simp[h3])];rw[anX h3] at hX;simp only[show ai ((0:Int)≠0)=aq from rfl,i_f];rw[fpm0,pm_0 ho 0 rfl];simp only[h3,rs,aoA,i_t];exact hK _ _ ⟨by rw[<-hX];unfold ej;rw[anX rfl,anX h3];rfl,ho.done⟩
 rw[anW h3] at hX;by_cases h4:s.length % n=0
 case neg=>
  rw[anX ⟨h3,h4⟩];rw[anX h4] at hX;simp only[show ai ((16:Int)≠0)=au from rfl,i_t];exact hK _ _ ⟨by rw[<-hX];rfl,ho.done⟩
 rw[anW (by simp[h4])];rw[anW (by simp[h4])] at hX;simp only[show ai ((0:Int)≠0)=aq from rfl,i_f];rw[fpm0,pm_0 ho 0 rfl];simp only[h3,rs,aoB,i_f];have hdiv:s.length / n<=s.length:=arY _ _;obtain⟨q,hq⟩:∃q,s.length / n=q:=⟨_,rfl⟩;rw[hq] at hX hdiv;have hquo:∀{PK:PKT} {K:VWP} {W:ak},DoX ah (mBin .quo 3 (.int .i64 (s.length:Int)) (.int .i64 (n:Int))) W PK K=K (.int .i64 (q:Int)) W:=λ{PK K W}=>by
  rw[Ao om,show ((s.length:Nat):Int).tdiv (n:Int)=((s.length / n:Nat):Int) from rfl,hq,aA om om]
 have hc:1<=x.c∧x.c<=1000000:=⟨h.2.1,by have:=h.2.2.2.1;omega⟩;have hkn:x.p=2∨(10<=x.p∧x.p<=15):=by
  rcases h.1 with h|h|h
  ·exact absurd h h3
  ·exact .inl h
  ·exact .inr h
 have main:X=0->DoX ah (mB .len #[9] 3 #[aq] #[.string ⟨s.toArray⟩]) w3 (pk K) λt41 w=>
   DoX ah (mB .len #[9] 3 #[aq] #[.string ⟨s.toArray⟩]) w (pk K) λt43 w=>
   DoX ah (mBin .quo 3 t43 (.int .i64 (n:Int))) w (pk K) λt45 w=>
   DoX ah (mBin .add 3 t41 t45) w (pk K) λt46 w=>
   DoX ah (H4 53 (.int .i64 0) t46) w (pk K) λt47 w=>
   DoX ah (mFA 27 (.pointer (aw ⟨b,0,av⟩)) 1) w (pk K) λt48 w=>
   DoX ah (aJ 3 t48) w (pk K) λt49 w=>
   DoX ah (bA 246 #[(2,t49)]) w (pk K) λt50 w=>
   DoX ah (Dv 246) w (pk K) λt9 w=>
   DoX ah (aV 246 t9 t50) w (pk K) λ_ w=>
   LoopX [.string ⟨s.toArray⟩,t47] w (λvs1 w N1=>∀_:Sg,kD (vs1.getD 0 undef) (.pointer (aw ⟨b,0,av⟩)) (.int .i64 (n:Int)) (vs1.getD 1 undef) t9 w N1 K):=by
  intro hX0;have hfin:∀W',Below w.heap.size w W'->K (.returned (encT (ej x s) 0)) W':=λW' hB=>hK _ _ ⟨by rw[anX hX0,hX0],hB⟩;clear hK;unfold ej at hfin;rw[anW h3,hn'] at hfin;rw[cL aoD,cL aoD,hquo]
  try simp only[rs]
  rw[aA om om,show (s.length:Int)+(q:Int)=((s.length+q:Nat):Int) by omega];refine YQ om ho λov0 w4 ho=>?_;rw[fpm1,pm_1 ho 1 rfl];have e:∀W:ak,(bA 246 #[(2,.int .i64 x.c)]).run ah W=.ok (.value (rwV nilS nilS x.c)) W:=λW=>by kernel_rfl
  refine aC (e w4) |>.mpr ?_;refine bD (λb=>.pointer (aw ⟨b,0,av⟩)) (rwC nilS nilS 0) 246 (λ_=>by kernel_rfl) ho λb9 w5 ho=>?_;refine iL 0 ho rfl (new:=rwC nilS nilS x.c) szRw (V2 rfl rfl) rfl λw6 ho=>?_;have ho:=ho.nilU 5 1;have ho:OwnS NoB w w6 [outR nilS [],rwE b9 nilS nilS x.c,outR ov0 [],pmE b x]:=ho;have ho:=ho.perm (L':=[outR ov0 [],outR nilS [],rwE b9 nilS nilS x.c,pmE b x]) (by
   refine .trans (.cons _ (.swap _ _ _)) (.swap _ _ _))
  generalize hE:fw (kg x) x.c n x.head (s.length+1) s []=E at hfin;refine loop (λvs W=>∃(t prev out:List UInt8) (ov va vr:ao) (e:Ent),vs=[.string ⟨t.toArray⟩,ov]∧t.length<=s.length∧t.length % n=0∧out.length+2*t.length<=2*s.length∧prev.length<=1000000∧BRd e vr prev∧va.oneCell'=au∧(∃f,t.length < f∧out++fw (kg x) x.c n x.head f t prev=E)∧OwnS NoB w W [outR ov out,e,rwE b9 va vr x.c,pmE b x]) (λvs _=>iG (vs.getD 0 undef)) ⟨s,[],[],ov0,nilS,nilS,_,rfl,om,h4,sm,sm,λW h=>cS h,rfl,⟨s.length+1,om,by rw[apK];exact hE⟩,ho⟩ ?_;clear ho hE;rintro vs w6 ⟨t,prev,out,ov,va,vr,e,rfl,htl,htm,hot,hpl,hbr,hva,⟨f,hf,hE⟩,ho⟩ _;simp only[kD,gd,iN,dx,bnx,lnx];obtain⟨f,rfl⟩:∃f',f=f'+1:=⟨f - 1,om⟩;rw[fw] at hE;rw[cL aoD]
  try simp only[rs]
  by_cases h0:t=[]
  ·rw[anX h0,aoV] at hE;simp only[show ai ((0:Int) < (t.length:Int))=aq from anY (by rw[h0];decide),i_f];rw[gO aoK aoP aoD (cS (ho.at_ 0 rfl)),hE];exact hfin _ ho.done
  have ht0:0 < t.length:=arI.2 h0;rw[anW h0] at hE;simp only[show ai ((0:Int) < (t.length:Int))=au from anZ om,i_t];have hge:n<=t.length:=avL om (avM htm);refine join λJ2 hJ2=>?_;have hvr:vr.oneCell'=true:=kC (hbr w6 (ho.at_ 1 rfl));have hsl:(t.take n).length=n:=by rw[aoH];omega
  generalize hrow:t.take n=row at hE hsl;have ll:∀tag:Int,(dv tag prev row x.c).length=n:=λtag=>by rw[jn,hsl]
  -- behind a row
  have next:∀(b2 cap:Nat) (v':ao) (new:List UInt8) (W:ak),OwnS NoB w W [.mkr 5 b2 row,outR v' (out++new),e,rwE b9 vr (.slice (aw ⟨b2,0,av⟩) n cap) x.c,pmE b x]->new.length<=2*n ->
    new=(if x.head=1 then [UInt8.ofNat (kg x prev row)] else [])++dv (kg x prev row:Nat) prev row x.c->J2 [v'] W:=by
   intro b2 cap v' new W ho hnl hnew;refine hJ2 _ _ λ_=>?_;simp only[uM,gd,nz];rw[Ac aoD om om,aoF];have hbr2:BRd (.mkr 5 b2 row) (.slice (aw ⟨b2,0,av⟩) n cap) row:=by
    have:=@Mc b2 cap row
    rwa [hsl] at this
   have hld:(t.drop n).length=t.length - n:=aoJ;refine aQ ⟨t.drop n,row,out++new,v',vr,_,_,rfl,om,?_,by rw[aoC];omega,om,hbr2,hvr,⟨f,om,?_⟩,?_⟩ ?_
   ·rw[hld,avN hge] at *;omega
   ·rw[hnew,aoL,aoL];exact hE
   ·exact (OwnS.swap ho).sub (.cons_cons _ (.cons_cons _ (.cons _ (arK _))))
   ·show iG (.string ⟨(t.drop n).toArray⟩) < iG (.string ⟨t.toArray⟩);rw[eR,eR,hld];omega
  have fin:∀b2 cap W,OwnS NoB w W [.mkr 5 b2 row,outR ov out,e,rwE b9 vr (.slice (aw ⟨b2,0,av⟩) row.length cap) x.c,pmE b x]->gB (.pointer (aw ⟨b,0,av⟩)) ov (.pointer (aw ⟨b9,0,av⟩)) W J2 K:=by
   intro b2 cap W ho;rw[hsl] at ho;unfold gB iN ldx bnx fax ecx apx cx;have hA:∀W,OwnS NoB w W [.mkr 5 b2 row,outR ov out,e,rwE b9 vr (.slice (aw ⟨b2,0,av⟩) n cap) x.c,pmE b x]->Sl W vr 1 prev.length (aG prev):=λW ho=>hbr W (ho.at_ 2 rfl);have hR:∀W,OwnS NoB w W [.mkr 5 b2 row,outR ov out,e,rwE b9 vr (.slice (aw ⟨b2,0,av⟩) n cap) x.c,pmE b x]->Sl W (.slice (aw ⟨b2,0,av⟩) n cap) 1 row.length (aG row):=λW ho=>by
    have:=Ti (cap:=cap) (ho.at_ 0 rfl);rw[hsl] at this ⊢;exact this
   rw[fpm0,pm_0 ho 4 rfl]
   try simp only[rs]
   have hp16:2<=x.p∧x.p<=15:=om
   rw[aA om om];refine join λJ4 hJ4=>?_;rw[fpm0,pm_0 ho 4 rfl]
   try simp only[rs]
   by_cases h2:x.p=2
   ·simp only[h2,aoA,i_t];rw[l_at (ho.agg 3 rfl NO)];refine R8 (tag:=1) ho hA hR hc om λg w7 ho=>?_;refine aX 2 aoK elU8 dc ho rfl (ho.sl 0 rfl 1 row.length row.length (by rw[cP,jn,aoS])) aW om om λv' w8 ho=>?_;have hT:kg x prev row=1:=by unfold kg lu;rw[anX h2]
    have hh:¬x.head=1:=by unfold Pm.head;rw[anW om];decide
    refine next b2 cap v' (dv 1 prev row x.c) w8 ?_ (by rw[ll];omega) (by rw[anW hh,hT];rfl)
    rw[cQ,ll,<-hsl];rw[<-hsl] at ho;exact ho.tail
   simp only[h2,aoB,i_f];have hp10:10<=x.p:=om
   have hh:x.head=1:=by unfold Pm.head;rw[anX hp10]
   have enc2:∀(tag:Nat) (W:ak),tag=kg x prev row->OwnS NoB w W [.mkr 5 b2 row,outR ov out,e,rwE b9 vr (.slice (aw ⟨b2,0,av⟩) n cap) x.c,pmE b x]->J4 [ov,.int .i64 (tag:Int)] W:=by
    intro tag W htag ho;refine hJ4 _ _ λ_=>?_;simp only[uF,gd];have ho:=ho.drew;refine⟨λW=>(rwE b9 vr (.slice (aw ⟨b2,0,av⟩) n cap) x.c).is W,ho.at_ 3 rfl,?_⟩;refine aL _ (λW=>SF aoP apH tag W) ?_;refine sL (rwV vr (.slice (aw ⟨b2,0,av⟩) n cap) x.c) (λW h=>bE (AtV.agg NO (cs:=rwC vr (.slice (aw ⟨b2,0,av⟩) n cap) x.c) rfl λj u hj=>by rw[aoN];exact aI (T:=246) h hj)) ?_;refine Dc (UInt8.ofNat tag) ho λb8 w9 ho=>⟨ho.at_ 4 rfl,?_⟩;refine aX 2 aoK elU8 dc ho rfl (eG (ho.at_ 0 rfl) dc rfl) aW om om λv' w10 ho=>⟨ho.at_ 4 rfl,?_⟩;have ho:OwnS NoB w w10 [.mkr 5 b2 row,outR v' (out++[UInt8.ofNat tag]),e,rwE b9 vr (.slice (aw ⟨b2,0,av⟩) n cap) x.c,pmE b x]:=by
     rw[cQ];exact ho.tail
    refine R8 (tag:=(tag:Int)) ho (λW ho=>hbr W (ho.at_ 2 rfl)) (λW ho=>by
     have:=Ti (cap:=cap) (ho.at_ 0 rfl);rw[hsl] at this ⊢;exact this) hc om λg w11 ho=>⟨ho.at_ 4 rfl,?_⟩
    refine aX 2 aoK elU8 dc ho rfl (ho.sl 0 rfl 1 row.length row.length (by rw[cP,jn,aoS])) aW (by rw[aoC,apL];omega) (by rw[aoC,apL];omega) λv'' w12 ho=>⟨ho.at_ 4 rfl,?_⟩;refine next b2 cap v'' ([UInt8.ofNat tag]++dv (tag:Int) prev row x.c) w12 ?_ (by rw[aoC,ll,apL];omega) (by rw[anX hh,htag])
    rw[<-aoL,cQ,ll,<-hsl];rw[<-hsl] at ho;exact ho.tail
   by_cases h15:x.p=15
   ·simp only[h15,aoA,i_t];rw[l_at (ho.agg 3 rfl NO)];refine aeT ho hA hR hc om λw7 ho=>?_;exact enc2 _ w7 (by unfold kg lu;rw[anW h2,anX h15]) ho
   ·simp only[h15,aoB,i_f];rw[show x.p - 10=(((x.p - 10).toNat:Nat):Int) by omega];exact enc2 _ W (by unfold kg lu;rw[anW h2,anW h15]) ho
  have ho:=ho.drew;refine⟨λW=>∃a,(rwE b9 a vr x.c).is W,⟨va,ho.at_ 2 rfl⟩,?_⟩;refine aL _ (λ_=>bH zG) (sL _ (λW ⟨a,h⟩=>A9 h) ?_);refine aL _ (λ_=>Ye aoD om om) ?_;rw[aoF,hrow];refine aL _ (λ_=>bH RD) ⟨?_,?_⟩
  ·refine Gp aoD aoK aoP ho λb cap w7 ho=>⟨⟨va,ho.at_ 3 rfl⟩,?_⟩;refine aN 3 ho rfl krx hvr (by show 0+0 < 3;omega) λw8 ho=>?_;refine aL _ (λ_=>bH zG) ?_;refine aN 3 ho rfl krx rfl (by show 0+1 < 3;omega) λw9 ho=>?_;exact fin b cap w9 ho
  ·refine aN 2 ho rfl krx hvr (by show 0+0 < 3;omega) λw8 ho=>?_;refine Gp aoD aoK aoP ho λb cap w7 ho=>⟨⟨vr,ho.at_ 3 rfl⟩,?_⟩;refine aL _ (λ_=>bH zG) ?_;refine aN 3 ho rfl krx rfl (by show 0+1 < 3;omega) λw9 ho=>?_;exact fin b cap w9 ho
 rw[fpm0,pm_0 ho 0 rfl]
 try simp only[rs]
 by_cases h10:10<=x.p
 ·simp only[h10,aoA,gd,rs];rw[cL aoD,cL aoD,hquo]
  try simp only[rs]
  rw[aA om om];by_cases h5:1048576 < s.length+q
  ·rw[anX ⟨h10,h5⟩] at hX;simp only[show ai ((1048576:Int) < (s.length:Int)+(q:Int))=au from anZ om,i_t];exact hK _ _ ⟨by rw[<-hX];rfl,ho.done⟩
  ·rw[anW om] at hX;simp only[show ai ((1048576:Int) < (s.length:Int)+(q:Int))=aq from anY om,i_f];exact main hX.symm
 ·rw[anW om] at hX;simp only[h10,aoB,gd,rs,i_f];exact main hX.symm
end
section
open Eng Go.RowKit
theorem OA (x:Pm)(h3:x.p=1)(s:List UInt8)(w:ak)(hs:s.length<=1000000000):Ret ah 193 #[pmV x,.string ⟨s.toArray⟩] w (λv w'=>v=zlT (dy x s)∧Below w.heap.size w w'):=by
 refine aK λK hK=>qZ ?_;generalize hX:dy x s=X at hK;unfold dy at hX;unfold oW nz;refine yE x (Own.start w) λb w1 ho=>?_;rw[pm_v ho 0 rfl];refine aH ho (IJ x w1) ?_;rintro _ w2 rfl ho;rw[sB];refine join λJ hJ=>?_;rw[fpm0,pm_0 ho 0 rfl]
 try simp only[rs]
 have main:J [.int .i64 (x.head:Int)] w2:=by
  refine hJ _ _ λ_=>?_;simp only[kI,gd,nz];rw[pm_v ho 0 rfl];have hh:x.head<=1:=by unfold Pm.head;split<;>omega
  obtain⟨n,hn,hn1,hn2⟩:∃n:Nat,max (if x.ok then x.c*x.n else 0) 1=(n:Int)∧1<=n∧n<=8192:=by
   by_cases h:x.ok
   ·rw[anX h];have h1:=Pm.mul_pos h;have h2:=h.2.2.2.2;exact⟨(x.c*x.n).toNat,om,om,om⟩
   ·rw[anW h];exact⟨1,dc,dc,dc⟩
  rw[hn]
  try simp only[rs]
  rw[aA om om,show (n:Int)+(x.head:Int)=((n+x.head:Nat):Int) by omega];refine aH ho (xI x s (n+x.head) w2 om hs) ?_;rintro _ w3 rfl ho;simp only[bQ];by_cases h:x.ok
  case neg=>
   rw[anX h] at hX ⊢;simp only[show ai ((1:Int)≠0)=au from rfl,i_t];exact hK _ _ ⟨by rw[<-hX];rfl,ho.done⟩
  rw[anW (by simp[h])] at hX ⊢;have hn':(x.c*x.n).toNat=n:=by
   rw[anX h] at hn;have h1:=Pm.mul_pos h;omega
  rw[hn'] at hX;by_cases h2:1048576 < s.length
  ·rw[anX h2] at hX ⊢;simp only[show ai ((5:Int)≠0)=au from rfl,i_t];exact hK _ _ ⟨by rw[<-hX];rfl,ho.done⟩
  rw[anW h2] at hX ⊢
  ·rw[anW (by simp[h3])];rw[anX h3] at hX;simp only[show ai ((0:Int)≠0)=aq from rfl,i_f];rw[fpm0,pm_0 ho 0 rfl];simp only[h3,rs,aoA,i_t];exact hK _ _ ⟨by rw[<-hX];rfl,ho.done⟩
 have hh:x.head=0:=by unfold Pm.head;rw[anW om]
 rw[hh] at main;simp only[show ai ((10:Int)<=x.p)=aq from anY om,i_f];exact main
theorem NZ (x:Pm)(h3:x.p=1)(s:List UInt8)(w:ak)(hs:s.length<=1000000000):Ret ah 190 #[pmV x,.string ⟨s.toArray⟩] w (λv w'=>v=encT (if dd x s=0 then ej x s else []) (dd x s)∧Below w.heap.size w w'):=by
 refine aK λK hK=>rX ?_;generalize hX:dd x s=X at hK;unfold dd at hX;unfold oZ nz;refine yE x (Own.start w) λb w1 ho=>?_;rw[pm_v ho 0 rfl];refine aH ho (IJ x w1) ?_;rintro _ w2 rfl ho;rw[sB,pm_v ho 0 rfl];obtain⟨n,hn,hn1,hn2⟩:∃n:Nat,max (if x.ok then x.c*x.n else 0) 1=(n:Int)∧1<=n∧n<=8192:=by
  by_cases h:x.ok
  ·rw[anX h];have h1:=Pm.mul_pos h;have h2:=h.2.2.2.2;exact⟨(x.c*x.n).toNat,om,om,om⟩
  ·rw[anW h];exact⟨1,dc,dc,dc⟩
 rw[hn];refine aH ho (xI x s n w2 om hs) ?_;rintro _ w3 rfl ho;simp only[bQ];by_cases h:x.ok
 case neg=>
  rw[anX h] at hX ⊢;simp only[show ai ((1:Int)≠0)=au from rfl,i_t];exact hK _ _ ⟨by rw[<-hX];rfl,ho.done⟩
 rw[anW (by simp[h])] at hX ⊢;have hn':(x.c*x.n).toNat=n:=by
  rw[anX h] at hn;have h1:=Pm.mul_pos h;omega
 rw[hn'] at hX;by_cases h2:1048576 < s.length
 ·rw[anX h2] at hX ⊢;simp only[show ai ((5:Int)≠0)=au from rfl,i_t];exact hK _ _ ⟨by rw[<-hX];rfl,ho.done⟩
 rw[anW h2] at hX ⊢
 ·rw[anW (by simp[h3])];rw[anX h3] at hX;simp only[show ai ((0:Int)≠0)=aq from rfl,i_f];rw[fpm0,pm_0 ho 0 rfl];simp only[h3,rs,aoA,i_t];exact hK _ _ ⟨by rw[<-hX];unfold ej;rw[anX rfl,anX h3];rfl,ho.done⟩
def PdR (x:Pm):Prop:=∀(s:List UInt8) (w:ak),s.length<=1000000000->Ret ah 193 #[pmV x,.string ⟨s.toArray⟩] w (λv w'=>v=zlT (dy x s)∧Below w.heap.size w w')
def PeR (x:Pm):Prop:=∀(s:List UInt8) (w:ak),s.length<=1000000000->Ret ah 190 #[pmV x,.string ⟨s.toArray⟩] w (λv w'=>v=encT (if dd x s=0 then ej x s else []) (dd x s)∧Below w.heap.size w w')
theorem pdR (x:Pm):PdR x:=QQ x
theorem peR (x:Pm):PeR x:=Qi x
theorem pdR1 (h:x.p=1):PdR x:=OA x h
theorem peR1 (h:x.p=1):PeR x:=NZ x h
end
section
open Eng Go.RowKit
theorem ya (c:Int)(n h:Nat):∀(f:Nat) (s prev out:List UInt8),(jz c n h f s prev out).1.length<=out.length+s.length
|0,_,_,_=>aoO _
|f+1,s,prev,out=>by
  unfold jz;split
  ·exact Nat.le_add_right _ _
  generalize (if h=1 then (s.getD 0 0).toNat else 1:Nat)=tag;split
  ·exact aoO _
  dsimp only;have hl:(dp (tag:Int) prev c [] ((s.drop h).take n)).length=min n (s.length - h):=by
   rw[oe,aoH,aoJ];simp
  generalize dp (tag:Int) prev c [] ((s.drop h).take n)=row at hl;have:=ya c n h f (s.drop (n+h)) row (out++row);rw[aoC,aoJ] at this;omega
theorem yb (x:Pm)(s:List UInt8):(dy x s).1.length<=s.length:=by
 unfold dy;split
 ·exact aoO _
 split
 ·exact aoO _
 split
 ·exact aoG _
 split
 ·exact aoO _
 ·have:=ya x.c (x.c*x.n).toNat x.head (s.length+1) s [] [];simpa using this
theorem ru (mo:Nat):∀(f:Nat) (s out:List UInt8),out.length<=mo->(ep mo f s out).1.length<=mo
|0,_,_,_=>aoO _
|f+1,s,out,ho=>by
  unfold ep;cases s with
 |nil=>exact aoO _
 |cons c r=>
   dsimp only;split
   ·exact ho
   split
   ·split
    ·exact aoO _
    split
    ·exact aoO _
    ·refine ru mo f _ _ ?_;rw[aoC,aoH];omega
   split
   ·exact aoO _
   split
   ·exact aoO _
   ·refine ru mo f _ _ ?_;rw[aoC,BE (by rw[aoH];omega)];omega
theorem ng (mo:Nat):∀(s g out:List UInt8),out.length<=mo->(dj mo s g out).1.length<=mo
|[],_,_,_=>aoO _
|c::r,g,out,ho=>by
  have h4:∀v,(bj v).length=4:=λ_=>rfl;unfold dj;split
  ·exact ng mo r _ _ ho
  split
  ·split
   ·exact aoO _
   ·exact ng mo r _ _ (by rw[aoC];show _+4<=_;omega)
  split
  ·split
   ·exact ng mo r _ _ ho
   split
   ·exact aoO _
   split
   ·exact aoO _
   ·exact ng mo r _ _ (by rw[aoC,h4];omega)
  split
  ·unfold ix
   repeat' split
   all_goals first|exact aoO _|exact ho|(rw[aoC,aoH];omega)
  ·exact aoO _
theorem ry {D:Nat->List UInt8×Int}(h:∀m,(D m).1.length<=m)(most:Int):(ey D most).1.length<=1048576:=by
 unfold ey;split
 ·exact aoO _
 ·exact aqQ (h _) (atA _ _)
namespace Ff
def undo (n:List UInt8)(p:Pm)(s:List UInt8):List UInt8×Int:=
 if full n=nHx then ke s 1048576
 else if full n=n85 then me s 1048576
 else if full n=nRL then mc s 1048576
 else if full n=nFl then
  if ¬p.ok then ([],1)
  else if (ft s 1048576).2≠0 then ([],(ft s 1048576).2)
  else dy p (ft s 1048576).1
 else ([],15)
def chain:List (List UInt8)->List Pm->List UInt8->List UInt8×Int
|n::ns,p::ps,s=>if (undo n p s).2≠0 then ([],(undo n p s).2) else chain ns ps (undo n p s).1
|_,_,s=>(s,0)
def decode (o:Ob):List UInt8×Int:=if (of o).2.2≠0 then ([],(of o).2.2) else chain (of o).1 (of o).2.1 o.s
theorem agQ {o:Ob}:(of o).2.1.length=(of o).1.length:=by
 unfold of;by_cases h1:o.k≠9
 ·rw[anX h1];rfl
 rw[anW h1];by_cases h2:(names o).2≠0
 ·rw[anX h2];rfl
 rw[anW h2];by_cases h3:(A5 o (names o).1.length).2≠0
 ·rw[anX h3];rfl
 rw[anW h3];split
 ·rfl
 ·exact O9 (Decidable.not_not.1 h3)
end Ff
theorem SQ:bZ ah 173=true:=krx
theorem L5:bZ ah 171=true:=krx
theorem Pk:bZ ah 122=true:=krx
theorem QT:bZ ah 116=true:=krx
theorem OE:bZ ah 118=true:=krx
theorem P5:bZ ah 120=true:=krx
theorem nFnU:eM ah 94=true:=krx
theorem nFnS:eM ah 36=true:=krx
theorem nFnW:eM ah 89=true:=krx
theorem Xy:fOff ah 91 0=aw 0:=krx
theorem Z5:fOff ah 91 1=aw 1:=krx
theorem szWy:(Tryz.prog.info? 91).map (·.size)=aw 2:=krx
theorem VY:aggN ah 91=aw 2:=krx
theorem afG:aggN ah 143=aw 3:=krx
theorem szFt:(Tryz.prog.info? 143).map (·.size)=aw 3:=krx
theorem aaD:fOff ah 143 0=aw 0:=krx
def fnV (f:Nat):Value:=.func (.func f) #[] #[]
def Da (b:Nat):Value:=.func (.func 173) #[] #[.pointer (aw ⟨b,0,av⟩)]
def A8 (b:Nat):Value:=.func (.func 171) #[] #[.pointer (aw ⟨b,0,av⟩)]
def Mu (x:Pm):Value:=.func (.func 121) #[pmV x] #[]
def yW (x:Pm):Value:=.func (.func 122) #[pmV x] #[]
abbrev upE (b f:Nat):Ent:=.cells b [fnV f] 94
abbrev ON (b f:Nat):Ent:=.cells b [fnV f] 36
def wyC (p u:ao):List Value:=[p,u]
abbrev wyE (b:Nat)(p u:ao):Ent:=.cells b (wyC p u) 91
section
variable {w:ak}{PK:PKT}{K:VWP}{S:Nat->Prop}{w0:ak}{L:List Ent}
theorem Wb (ho:OwnS S w0 w L)(k:∀b W,OwnS S w0 W (upE b f::L)->K (Da b) W):CallX ah 115 #[.func (.func f) #[] #[]] w PK K:=by
 refine eW (H9 (k0:=RetK λv W=>∃b,v=Da b∧OwnS S w0 W (upE b f::L)) ?_) (λe W ⟨v,he,b,hv,ho⟩=>by subst he;subst hv;exact k b W ho);unfold EK nz;refine bD (λb=>.pointer (aw ⟨b,0,av⟩)) [fnV f] 94 (λ_=>by kernel_rfl) ho λb w1 ho=>?_;rw[Cs];exact retK ⟨b,rfl,ho⟩
theorem WW (ho:OwnS S w0 w L)(k:∀b W,OwnS S w0 W (ON b f::L)->K (A8 b) W):CallX ah 113 #[.func (.func f) #[] #[]] w PK K:=by
 refine eW (H8 (k0:=RetK λv W=>∃b,v=A8 b∧OwnS S w0 W (ON b f::L)) ?_) (λe W ⟨v,he,b,hv,ho⟩=>by subst he;subst hv;exact k b W ho);unfold FZ nz;refine bD (λb=>.pointer (aw ⟨b,0,av⟩)) [fnV f] 36 (λ_=>by kernel_rfl) ho λb w1 ho=>?_;rw[Cs];exact retK ⟨b,rfl,ho⟩
theorem acA {fn fn2:Fn}{a b a2 b2:Array ao}:DoX ah (bA 91 #[(0,.func fn a b),(1,.func fn2 a2 b2)]) w PK K=K (.agg (wyC (.func fn a b) (.func fn2 a2 b2)).toArray) w:=aC krx
theorem aeK {n:List UInt8}(ho:OwnS S w0 w L)
  (ka:∀(f g:Nat),(Ff.full n=Ff.nHx∧f=114∧g=116)∨(Ff.full n=Ff.n85∧f=117∧g=118)∨(Ff.full n=Ff.nRL∧f=119∧g=120)->∀b1 b2 W,OwnS S w0 W (upE b2 g::ON b1 f::L)->K (.tuple #[.agg (wyC (A8 b1) (Da b2)).toArray,.int .i64 0]) W)
  (kl:Ff.full n=Ff.nFl->∀W,OwnS S w0 W L->K (.tuple #[.agg (wyC (Mu x) (yW x)).toArray,.int .i64 (if x.ok then 0 else 1)]) W)
  (kn:Ff.full n=[]->∀W,OwnS S w0 W L->K (.tuple #[.agg (wyC .nilFunc .nilFunc).toArray,.int .i64 15]) W):CallX ah 54 #[.string ⟨n.toArray⟩,pmV x] w PK K:=by
 refine⟨KG ?_⟩;unfold Kn nz;refine yE x ho λb3 w1 ho=>?_;refine bD (λb=>.pointer (aw ⟨b,0,av⟩)) (wyC .nilFunc .nilFunc) 91 (λ_=>by kernel_rfl) ho λb4 w2 ho=>?_;refine c_eq (Ez n w2) ?_;simp only[ex,rs];have one:∀{fn fn2:Fn} {a b a2 b2:Array ao},∀u∈wyC (.func fn a b) (.func fn2 a2 b2),u.oneCell'=true:=by
  intro fn fn2 a b a2 b2 u hu;simp only[wyC,aoM,aqI,or_false] at hu;rcases hu with rfl|rfl<;>rfl
 have fr:∀{W:ak} {a b c d:Ent},OwnS S w0 W (a::b::c::d::L)->OwnS S w0 W (a::b::L):=λho=>ho.sub (.cons_cons _ (.cons_cons _ (.cons _ (.cons _ (arK _)))));have hf:=Ff.G4 n;by_cases h0:Ff.full n=[]
 ·simp only[anY (show ¬Ff.full n≠[] fromλh=>h h0),aqD,i_t];refine aC (show (bA 91 #[]).run ah w2=.ok (.value (.agg (wyC .nilFunc .nilFunc).toArray)) w2 by kernel_rfl) |>.mpr ?_;refine iL 0 ho rfl (new:=wyC .nilFunc .nilFunc) szWy (λu hu=>by
   simp only[wyC,aoM,aqI,or_false] at hu;rcases hu with rfl|rfl<;>rfl) rfl λw3 ho=>?_
  exact Fv (bN (ho.agg 0 rfl VY)) JH (kn h0 w3 ho.tail.tail)
 simp only[anZ (show Ff.full n≠[] from h0),aqF,i_f];by_cases h1:Ff.full n=Ff.nHx
 ·simp only[anZ h1,i_t];refine WW ho λb1 w3 ho=>?_;refine Wb ho λb2 w4 ho=>?_;unfold A8 Da;rw[acA];refine iL 2 ho rfl (new:=wyC (A8 b1) (Da b2)) szWy one rfl λw5 ho=>?_;exact Fv (bN (ho.agg 2 rfl VY)) JH (ka _ _ (.inl ⟨h1,rfl,rfl⟩) b1 b2 w5 (fr ho))
 simp only[anY h1,i_f]
 try simp only[rs]
 by_cases h2:Ff.full n=Ff.n85
 ·simp only[anZ h2,i_t];refine WW ho λb1 w3 ho=>?_;refine Wb ho λb2 w4 ho=>?_;unfold A8 Da;rw[acA];refine iL 2 ho rfl (new:=wyC (A8 b1) (Da b2)) szWy one rfl λw5 ho=>?_;exact Fv (bN (ho.agg 2 rfl VY)) JH (ka _ _ (.inr (.inl ⟨h2,rfl,rfl⟩)) b1 b2 w5 (fr ho))
 simp only[anY h2,i_f]
 try simp only[rs]
 by_cases h3:Ff.full n=Ff.nRL
 ·simp only[anZ h3,i_t];refine WW ho λb1 w3 ho=>?_;refine Wb ho λb2 w4 ho=>?_;unfold A8 Da;rw[acA];refine iL 2 ho rfl (new:=wyC (A8 b1) (Da b2)) szWy one rfl λw5 ho=>?_;exact Fv (bN (ho.agg 2 rfl VY)) JH (ka _ _ (.inr (.inr ⟨h3,rfl,rfl⟩)) b1 b2 w5 (fr ho))
 simp only[anY h3,i_f];have h4:Ff.full n=Ff.nFl:=by
  rcases hf with h|h|h|h|h
  ·exact absurd h h1
  ·exact absurd h h2
  ·exact absurd h h3
  ·exact h
  ·exact absurd h h0
 rw[pm_v ho 1 rfl];refine aC (show (bA 143 #[(0,pmV x)]).run ah w2=.ok (.value (.agg (pmC x).toArray)) w2 by kernel_rfl) |>.mpr ?_;refine bD (λb=>.pointer (aw ⟨b,0,av⟩)) (pmC ⟨0,0,0⟩) 143 (λ_=>by kernel_rfl) ho λb8 w3 ho=>?_;refine iL 0 ho rfl (new:=pmC x) szFt QB rfl λw4 ho=>?_;have ho:OwnS S w0 w4 (.cells b8 (pmC x) 143::wyE b4 .nilFunc .nilFunc::pmE b3 x::L):=ho;refine cR (λW=>OwnS S w0 W (.cells b8 (pmC x) 143::wyE b4 .nilFunc .nilFunc::pmE b3 x::L)) ho.drew ?_;refine q_at (pmV x) (λW h=>bE (h.agg 0 rfl afG)) ?_;refine q_do (Mu x) (λ_=>bK rfl) ?_;refine q_at (pmV x) (λW h=>bE (h.agg 0 rfl afG)) ?_;refine q_do (yW x) (λ_=>bK rfl) ?_;refine q_do (.agg (wyC (Mu x) (yW x)).toArray) (λ_=>by kernel_rfl) ?_;refine q_at (pmV x) (λW h=>bE (h.agg 2 rfl HR)) ?_;refine kS _ (λW h=>(Lm x W).mono λv w' ⟨k1,k2⟩=>⟨k1,h.grow k2⟩) ?_;intro w5 ho;refine iL 1 ho rfl (new:=wyC (Mu x) (yW x)) szWy one rfl λw6 ho=>?_;exact Fv (bN (ho.agg 1 rfl VY)) JH (kl h4 w6 ho.tail.tail.tail)
end
theorem V7 (b f:Nat)(s:List UInt8)(D:List UInt8×Int)(M:Mem)(w:ak)(hp:bZ ah f=au)(hb:(upE b f).is w)(hM:M.has w)
  (h:RetM ah f #[.string ⟨s.toArray⟩,.int .i64 1048576] M w (λv _=>v=zlT D∧D.1.length<=1048576)):RetM ah 173 #[.string ⟨s.toArray⟩,.pointer (aw ⟨b,0,av⟩)] M w (λv _=>v=zlT D∧D.1.length<=1048576):=by
 refine aU hM λK hK=>FJ ?_;unfold AW nz;rw[aS nFnU (aI (T:=94) (cs:=[fnV f]) hb (i:=0) rfl)];unfold fnV;refine HL hp (bI (OwnS.memS hM) 0 rfl h ?_);rintro _ N w1 g1 ⟨rfl,hl⟩ ho;simp only[zlT,ex];exact hK _ _ N _ 0 ho rfl g1 ⟨rfl,hl⟩
theorem QR (x:Pm)(hP:PdR x)(s:List UInt8)(M:Mem)(w:ak)(hrp:Rp M)(hod:Od M)(hs:s.length<=1000000000)(hM:M.has w) :
  RetM ah 122 #[pmV x,.string ⟨s.toArray⟩] M w (λv _=>v=zlT (if (ft s 1048576).2≠0 then ([],(ft s 1048576).2) else dy x (ft s 1048576).1)∧(ft s 1048576).1.length<=1048576):=by
 refine aU hM λK hK=>xB ?_;unfold oI nz;refine bD (λb=>.pointer (aw ⟨b,0,av⟩)) (pmC x) 143 (λ_=>by kernel_rfl) (OwnS.memS hM) λb2 w1 ho=>?_;refine bI ho 1 rfl (Qd s 1048576 M w1 hrp hod hs (ho.hasM 1 rfl)) ?_;rintro _ N w2 g1 ⟨rfl,hl⟩ ho;generalize ft s 1048576=U at hK hl;obtain⟨t,e⟩:=U;dsimp only at hK hl;simp only[zlT,ex,bQ];by_cases he:e=0
 case neg=>
  rw[anX he] at hK;simp only[anZ (show e≠0 from he),i_t];exact hK _ _ N _ 1 ho rfl g1 ⟨rfl,hl⟩
 rw[anW (λh=>h he)] at hK;simp only[anY (show ¬e≠0 fromλh=>h he),i_f];rw[aP aaD,l_at (T:=27) (v:=pmV x) (AtV.agg HR (cs:=pmC x) rfl λj u hj=>by rw[apO,aoN];exact ho.cell 0 rfl j hj)];refine aH ho (hP t w2 om) ?_;rintro _ w3 rfl ho;simp only[zlT,ex];exact hK _ _ N _ 1 ho rfl g1 ⟨rfl,hl⟩
theorem IW (n:List UInt8)(x:Pm)(hP:PdR x)(s:List UInt8)(M:Mem)(w:ak)(hrp:Rp M)(hod:Od M)(hpw:Pws M)(hs:s.length<=1000000000)(hM:M.has w) :
  RetM ah 15 #[.string ⟨n.toArray⟩,pmV x,.string ⟨s.toArray⟩] M w (λv _=>v=zlT (Ff.undo n x s)∧(Ff.undo n x s).1.length<=1048576):=by
 refine aU hM λK hK=>HQ ?_;generalize hX:Ff.undo n x s=X at hK;unfold Ff.undo at hX;unfold Gb nz;refine yE x (OwnS.memS hM) λb4 w1 ho=>?_;rw[pm_v ho 0 rfl];have wone:∀{p u:ao},p.oneCell'=au->u.oneCell'=au->∀y∈wyC p u,y.oneCell'=true:=by
  intro p u hp hu y hy;simp only[wyC,aoM,aqI,or_false] at hy;rcases hy with rfl|rfl<;>assumption
 refine aeK ho (λf g hfg b1 b2 w2 ho=>?_) (λhf w2 ho=>?_) (λhf w2 ho=>?_)
 ·simp only[ex];refine bD (λb=>.pointer (aw ⟨b,0,av⟩)) (wyC .nilFunc .nilFunc) 91 (λ_=>by kernel_rfl) ho λb8 w3 ho=>?_;refine iL 0 ho rfl (new:=wyC (A8 b1) (Da b2)) szWy (wone rfl rfl) rfl λw4 ho=>?_;have ho:OwnS M.A w w4 [wyE b8 (A8 b1) (Da b2),upE b2 g,ON b1 f,pmE b4 x,.mem M]:=ho;simp only[bQ,show ai ((0:Int)≠0)=aq from rfl,i_f];rw[aP Z5,aS nFnW (ho.cell 0 rfl 1 rfl)];have hM4:=ho.hasM 4 rfl;have key:∃_:bZ ah g=au,RetM ah g #[.string ⟨s.toArray⟩,.int .i64 1048576] M w4 (λv _=>v=zlT X∧X.1.length<=1048576):=by
   rcases hfg with ⟨h,_,rfl⟩|⟨h,_,rfl⟩|⟨h,_,rfl⟩
   ·rw[anX h] at hX;subst hX;exact⟨QT,Tp s 1048576 M w4 hs hM4⟩
   ·rw[anW (by rw[h];decide),anX h] at hX;subst hX;exact⟨OE,QS s 1048576 M w4 hpw hs hM4⟩
   ·rw[anW (by rw[h];decide),anW (by rw[h];decide),anX h] at hX;subst hX;exact⟨P5,T8 s 1048576 M w4 hs hM4⟩
  obtain⟨hp,key⟩:=key;unfold Da;refine HL SQ (bI ho 4 rfl (V7 b2 g s X M w4 hp (ho.at_ 1 rfl) hM4 key) ?_);rintro _ N w5 g1 ⟨rfl,hl⟩ ho;simp only[zlT,ex];exact hK _ _ N _ 4 ho rfl g1 ⟨rfl,hl⟩
 ·rw[anW (by rw[hf];decide),anW (by rw[hf];decide),anW (by rw[hf];decide),anX hf] at hX;simp only[ex];refine bD (λb=>.pointer (aw ⟨b,0,av⟩)) (wyC .nilFunc .nilFunc) 91 (λ_=>by kernel_rfl) ho λb8 w3 ho=>?_;refine iL 0 ho rfl (new:=wyC (Mu x) (yW x)) szWy (wone rfl rfl) rfl λw4 ho=>?_;have ho:OwnS M.A w w4 [wyE b8 (Mu x) (yW x),pmE b4 x,.mem M]:=ho;simp only[bQ];by_cases hx:x.ok
  case neg=>
   rw[anX hx] at hX;simp only[anW hx,show ai ((1:Int)≠0)=au from rfl,i_t];exact hK _ _ M _ 2 ho rfl M.le_refl ⟨by rw[<-hX];rfl,by rw[<-hX];exact aoO _⟩
  rw[anW (by simp[hx])] at hX;simp only[anX hx,show ai ((0:Int)≠0)=aq from rfl,i_f];rw[aP Z5,aS nFnW (ho.cell 0 rfl 1 rfl)];unfold yW;refine HL Pk (bI ho 2 rfl (QR x hP s M w4 hrp hod hs (ho.hasM 2 rfl)) ?_);rintro _ N w5 g1 ⟨rfl,hl⟩ ho;rw[hX];simp only[zlT,ex];refine hK _ _ N _ 2 ho rfl g1 ⟨rfl,?_⟩;rw[<-hX];split
  ·exact aoO _
  ·exact aqQ (yb _ _) hl
 ·rw[anW (by rw[hf];decide),anW (by rw[hf];decide),anW (by rw[hf];decide),anW (by rw[hf];decide)] at hX;simp only[ex];refine bD (λb=>.pointer (aw ⟨b,0,av⟩)) (wyC .nilFunc .nilFunc) 91 (λ_=>by kernel_rfl) ho λb8 w3 ho=>?_;refine iL 0 ho rfl (new:=wyC .nilFunc .nilFunc) szWy (wone rfl rfl) rfl λw4 ho=>?_;simp only[bQ,show ai ((15:Int)≠0)=au from rfl,i_t];exact hK _ _ M _ 2 ho rfl M.le_refl ⟨by rw[<-hX];rfl,by rw[<-hX];exact aoO _⟩
theorem NG (n:List UInt8)(x:Pm)(s:List UInt8)(M:Mem)(w:ak)(hrp:Rp M)(hod:Od M)(hpw:Pws M)(hs:s.length<=1000000000)(hM:M.has w) :
  RetM ah 15 #[.string ⟨n.toArray⟩,pmV x,.string ⟨s.toArray⟩] M w (λv _=>v=zlT (Ff.undo n x s)∧(Ff.undo n x s).1.length<=1048576):=
 IW n x (pdR x) s M w hrp hod hpw hs hM
theorem P6 (n:List UInt8)(x:Pm)(s:List UInt8)(M:Mem)(w:ak)(hs:s.length<=1000000000)(hM:M.has w) :
  RetM ah 16 #[.string ⟨n.toArray⟩,pmV x,.string ⟨s.toArray⟩] M w (λv _=>v=zlT (Ff.undo n x s)∧(Ff.undo n x s).1.length<=1048576):=by
 refine aU hM λK hK=>Ah ?_;generalize hX:Ff.undo n x s=X at hK;unfold Ff.undo at hX;unfold rV nz;refine yE x (OwnS.memS hM) λb4 w1 ho=>?_;refine c_eq (yM n w1) ?_;simp only[rs];by_cases h1:Ff.full n=Ff.nHx
 ·rw[anX h1] at hX;simp only[anZ h1,i_t];refine aH ho (NT s 1048576 w1 hs) ?_;rintro _ w2 rfl ho;simp only[zlT,ex];exact hK _ _ M _ 1 ho rfl M.le_refl ⟨by rw[<-hX];rfl,by rw[<-hX];exact ry (λm=>ra m s _ _ (aoO _)) _⟩
 rw[anW h1] at hX;simp only[anY h1,i_f]
 try simp only[rs]
 by_cases h2:Ff.full n=Ff.n85
 ·rw[anX h2] at hX;simp only[anZ h2,i_t];refine aH ho (Nc s 1048576 w1 hs) ?_;rintro _ w2 rfl ho;simp only[zlT,ex];exact hK _ _ M _ 1 ho rfl M.le_refl ⟨by rw[<-hX];rfl,by rw[<-hX];exact ry (λm=>ng m s _ _ (aoO _)) _⟩
 rw[anW h2] at hX;simp only[anY h2,i_f]
 try simp only[rs]
 by_cases h3:Ff.full n=Ff.nRL
 ·rw[anX h3] at hX;simp only[anZ h3,i_t];refine aH ho (O8 s 1048576 w1 hs) ?_;rintro _ w2 rfl ho;simp only[zlT,ex];exact hK _ _ M _ 1 ho rfl M.le_refl ⟨by rw[<-hX];rfl,by rw[<-hX];exact ry (λm=>ru m _ s _ (aoO _)) _⟩
 rw[anW h3] at hX;simp only[anY h3,i_f]
 try simp only[rs]
 by_cases h4:Ff.full n=Ff.nFl
 case neg=>
  rw[anW h4] at hX;simp only[anY h4,i_f];exact hK _ _ M _ 1 ho rfl M.le_refl ⟨by rw[<-hX];rfl,by rw[<-hX];exact aoO _⟩
 rw[anX h4] at hX;simp only[anZ h4,i_t];rw[pm_v ho 0 rfl];refine aH ho (tF x w1) ?_;rintro _ w2 rfl ho;simp only[bQ];by_cases hx:x.ok
 case neg=>
  rw[anX hx] at hX;simp only[anW hx,show ai ((1:Int)≠0)=au from rfl,i_t];exact hK _ _ M _ 1 ho rfl M.le_refl ⟨by rw[<-hX];rfl,by rw[<-hX];exact aoO _⟩
 rw[anW (by simp[hx])] at hX;simp only[anX hx,show ai ((0:Int)≠0)=aq from rfl,i_f];refine bI ho 1 rfl (MX s 1048576 M w2 hs (ho.hasM 1 rfl)) ?_;rintro _ N w3 g1 ⟨rfl,hl⟩ ho;generalize ft s 1048576=U at hX hl;obtain⟨t,e⟩:=U;dsimp only at hX hl;simp only[zlT,ex,bQ];by_cases he:e=0
 case neg=>
  rw[anX he] at hX;simp only[anZ (show e≠0 from he),i_t];exact hK _ _ N _ 1 ho rfl g1 ⟨by rw[<-hX];rfl,by rw[<-hX];exact aoO _⟩
 rw[anW (λh=>h he)] at hX;simp only[anY (show ¬e≠0 fromλh=>h he),i_f];rw[pm_v ho 0 rfl];refine aH ho (MP x t w3 om) ?_;rintro _ w4 rfl ho;simp only[zlT,ex];exact hK _ _ N _ 1 ho rfl g1 ⟨by rw[<-hX];rfl,by rw[<-hX];exact aqQ (yb _ _) hl⟩
end
section
open Eng Go.RowKit
theorem aar {ns:List (List UInt8)}{ps:List Pm}(h1:i < ns.length)(h2:i < ps.length)(s:List UInt8) :
  Ff.chain (ns.drop i) (ps.drop i) s=if (Ff.undo ns[i] ps[i] s).2≠0 then ([],(Ff.undo ns[i] ps[i] s).2) else Ff.chain (ns.drop (i+1)) (ps.drop (i+1)) (Ff.undo ns[i] ps[i] s).1:=by
 rw[apV h1,apV h2,Ff.chain]
theorem aas {ns:List (List UInt8)}{ps:List Pm}(h1:ns.length<=i)(s:List UInt8):Ff.chain (ns.drop i) (ps.drop i) s=(s,0):=by
 rw[apR h1];unfold Ff.chain;rfl
theorem AI {o:Ob}:(Ff.of o).1.length<=8:=by
 have:=@Ff.VN o;unfold Ff.of;by_cases h1:o.k≠9
 ·rw[anX h1];exact aoO _
 rw[anW h1];by_cases h2:(Ff.names o).2≠0
 ·rw[anX h2];exact aoO _
 rw[anW h2];by_cases h3:(Ff.A5 o (Ff.names o).1.length).2≠0
 ·rw[anX h3];exact aoO _
 rw[anW h3];split
 ·exact aoO _
 ·exact this
section
variable {M:Mem}{vn vp:ao}{ns:List (List UInt8)}{ps:List Pm}
theorem DZ (hn:SlA M.A M.w vn 1 ns.length (cD ns)):DoX ah (mB .len #[22] 3 #[aq] #[vn]) W PK K=K (.int .i64 (ns.length:Int)) W:=by
 obtain⟨a,cap,rfl,_⟩:=hn.form;exact bG aoT
end
theorem Tn (o:Ob)(hP:∀x∈(Ff.of o).2.1,PdR x)(v:ao)(M:Mem)(w:ak)(hrp:Rp M)(hod:Od M)(hpw:Pws M)(hw:o.wt<=1000000000)(hM:M.has w)(hv:OV M.A M.w v o) :
  RetM ah 13 #[v] M w (λr _=>r=zlT (Ff.decode o)):=by
 obtain⟨vk,vc,ocs,rfl,ha⟩:=hv.open;refine aU hM λK hK=>Fa ?_;generalize hX:Ff.decode o=X at hK;unfold Ff.decode at hX;unfold AN nz;refine mW o ha.keys.one ha.kids.one (OwnS.memS hM) λb1 w1 ho=>?_;rw[ob_v ho 0 rfl];refine bI ho 1 rfl (Jm o _ M w1 hw (ho.hasM 1 rfl) hv) ?_;have hpl:=@Ff.agQ o;have hn8:=@AI o;generalize Ff.of o=F at hX hpl hn8 hP;obtain⟨ns,ps,e⟩:=F;dsimp only at hX hpl hn8 hP;rintro _ N w2 l1 ⟨vn,vp,rfl,hn,hp⟩ ho;dsimp only at hn hp;simp only[ex,gY (show [vn,vp,Value.int .i64 e][2]?=aw (Value.int .i64 e) from rfl),gY (show [vn,vp,Value.int .i64 e][1]?=aw vp from rfl),gY (show [vn,vp,Value.int .i64 e][0]?=aw vn from rfl),bQ];by_cases he:e=0
 case neg=>
  rw[anX he] at hX;simp only[anZ (show e≠0 from he),i_t];exact hK _ _ N _ 1 ho rfl l1 (by rw[<-hX];rfl)
 rw[anW (λh=>h he)] at hX;simp only[anY (show ¬e≠0 fromλh=>h he),i_f];rw[NB,ob_s ho 0 rfl,DZ hn];have hol:o.s.length<=1000000000:=by
  have:o.s.length<=o.wt:=by rw[o.HO];omega
  omega
 refine loop (λvs W=>∃(i:Nat) (s:List UInt8) (N2:Mem),vs=[.string ⟨s.toArray⟩,.int .i64 (i:Int)]∧i<=ns.length∧s.length<=1000000000∧N.le N2∧Ff.chain (ns.drop i) (ps.drop i) s=X∧OwnS M.A w W [obE b1 o vk vc,.mem N2]) (λvs _=>ns.length - n1 vs) ⟨0,o.s,N,rfl,om,hol,N.le_refl,hX,ho⟩ ?_;clear ho hX;rintro vs w3 ⟨i,s,N2,rfl,hi,hs,l2,hX,ho⟩ _;simp only[xD,gd,rs,nz];by_cases hlt:(i:Int) < (ns.length:Int)
 ·simp only[hlt,aoA,i_t];have hi':i < ns.length:=om
  have hip:i < ps.length:=om
  rw[aar hi' hip] at hX;obtain⟨p,hia,hld⟩:=Qo (hn.le l2) hi';rw[aC (hia w3),aC (hld w3 (ho.hasM 1 rfl))];obtain⟨p2,hia2,hld2⟩:=pmAt (hp.le l2) hip;rw[aC (hia2 w3),aC (hld2 w3 (ho.hasM 1 rfl))];refine bI ho 1 rfl (IW ns[i] ps[i] (hP _ (aoR hip)) s N2 w3 ((hrp.le l1).le l2) ((hod.le l1).le l2) ((hpw.le l1).le l2) hs (ho.hasM 1 rfl)) ?_;rintro _ N3 w4 l3 ⟨rfl,hl⟩ ho;generalize Ff.undo ns[i] ps[i] s=U at hX hl;obtain⟨t,ue⟩:=U;dsimp only at hX hl;simp only[zlT,ex,bQ];by_cases hu:ue=0
  case neg=>
   rw[anX hu] at hX;simp only[anZ (show ue≠0 from hu),i_t];exact hK _ _ N3 _ 1 ho rfl ((l1.trans l2).trans l3) (by rw[<-hX];rfl)
  rw[anW (λh=>h hu)] at hX;simp only[anY (show ¬ue≠0 fromλh=>h hu),i_f]
  try simp only[rs]
  rw[aA om om];exact aQ ⟨i+1,t,N3,rfl,om,om,l2.trans l3,hX,ho⟩ (by simp[n1,RowKit.intOf];omega)
 simp only[hlt,aoB,i_f];rw[aas om] at hX;exact hK _ _ N2 _ 1 ho rfl (l1.trans l2) (by rw[<-hX];rfl)
end
section
open Eng Go.RowKit
theorem I3:∀s:List UInt8,(Oc.hex s).length=2*s.length
|[]=>rfl
|c::s=>by
  have h:Oc.hex (c::s)=Oc.hex1 c++Oc.hex s:=by unfold Oc.hex;rw[aqC]
  rw[h,aoC,I3 s,apB];show 2+_=_;omega
theorem QY (s:List UInt8)(w:ak)(hs:s.length<=1000000):Ret ah 114 #[.string ⟨s.toArray⟩] w (λv w'=>v=.string ⟨(Oc.hex s++[62]).toArray⟩∧Below w.heap.size w w'):=by
 refine aK λK hK=>K2 ?_;unfold JE nz;refine aH (Own.start w) (acI s w hs) ?_;rintro _ w1 rfl ho;have hl:(Oc.hex s).length<=2000000:=by rw[I3];omega
 rw[show (Value.string ⟨#[62]⟩)=.string ⟨([62]:List UInt8).toArray⟩ from rfl,SX (by simp;omega)];exact hK _ _ ⟨rfl,ho.done⟩
def fp (c:UInt8):Nat->List UInt8->Nat
|0,_=>0
|_,[]=>0
|f+1,d::r=>if d=c then fp c f r+1 else 0
def bg (s:List UInt8):Nat:=fp (s.getD 0 0) 128 s
theorem ni (c:UInt8):∀(f:Nat) (s:List UInt8),fp c f s<=f∧fp c f s<=s.length
|0,s=>by unfold fp;omega
|f+1,[]=>by unfold fp;exact⟨om,sm⟩
|f+1,d::r=>by
  have:=ni c f r;unfold fp;split
  ·rw[apB];omega
  ·omega
theorem Ol {k:IntKind}{b:Int}:(mB .min #[T1,T2] U cb #[.int k a,.int k' b]).run ah W=.ok (.value (.int k (min a b))) W:=by
 have e:(if b < a then b else a)=min a b:=by split<;>omega
 simp[mB,builtin,Builtin.min_,Builtin.min2,e]
theorem yd (c:UInt8)(f:Nat):fp c f []=0:=by cases f<;>rfl
theorem Lg (s:List UInt8)(w:ak)(hs:s.length<=1000000000):Ret ah 186 #[.string ⟨s.toArray⟩] w (λv w'=>v=.int .i64 (bg s:Int)∧Below w.heap.size w w'):=by
 refine aK λK hK=>HV ?_;unfold Fp nz;refine loop (λvs W=>∃i:Nat,vs=[.int .i64 (i:Int)]∧i<=min s.length 128∧i+fp (s.getD 0 0) (128 - i) (s.drop i)=bg s∧Own w W []) (λvs _=>s.length - n0 vs) ⟨0,rfl,om,by rw[aqH,aoN];rfl,Own.start w⟩ ?_;rintro vs w1 ⟨i,rfl,hi,hX,ho⟩ _;simp only[Bf,gd,nz];refine cR (λW=>Own w W []) ho.drew ?_;refine Q7 aoD (q_do (.int .i64 ((min s.length 128:Nat):Int)) (λW=>?_) (Nj ?_))
 ·have h:min (s.length:Int) 128=((min s.length 128:Nat):Int):=om
  rw[<-h];exact Ol
 by_cases hlt:i < min s.length 128
 case neg=>
  have hie:i=min s.length 128:=om
  rw[anY (show ¬(i:Int) < ((min s.length 128:Nat):Int) by omega)];simp only[gq];refine q_pf ?_;intro w2 ho;rw[i_f];have:fp (s.getD 0 0) (128 - i) (s.drop i)=0:=by
   by_cases h:i=128
   ·rw[h];unfold fp;rfl
   ·rw[apR om,yd]
  rw[this,apO] at hX;exact hK _ _ ⟨by rw[hX],ho.done⟩
 rw[anZ (show (i:Int) < ((min s.length 128:Nat):Int) by omega)];have hi':i < s.length:=om
 simp only[gq];refine q_ix (c:=s[i]) aoD om (by rw[aoF];exact aoI hi') ?_;refine q_ix (c:=s.getD 0 0) aoD dc (get0 om) (q_eq (q_pt ?_));intro w2 ho;rw[apV hi',show 128 - i=(128 - (i+1))+1 by omega,fp] at hX;by_cases he:s[i]=s.getD 0 0
 ·rw[anX he] at hX;rw[anZ (show (s[i].toNat:Int)=((s.getD 0 0).toNat:Int) by rw[he]),i_t]
  try simp only[rs]
  rw[aA om om];exact aQ ⟨i+1,rfl,om,by rw[<-hX];omega,ho⟩ (by simp[n0,RowKit.intOf];omega)
 ·rw[anW he] at hX;rw[anY (show ¬(s[i].toNat:Int)=((s.getD 0 0).toNat:Int) fromλh=>he (asP.1 om)),i_f];exact hK _ _ ⟨by rw[<-hX];rfl,ho.done⟩
def ie:Nat->Nat->List UInt8->Nat
|0,n,_=>n
|f+1,n,s=>if n < min s.length 128∧bg (s.drop n) < 3 then ie f (n+1) s else n
def cq (s:List UInt8):Nat:=ie 128 1 s
theorem pj:∀(f n:Nat) (s:List UInt8),n<=min s.length 128->n<=ie f n s∧ie f n s<=min s.length 128
|0,n,s,h=>⟨aoG _,h⟩
|f+1,n,s,h=>by
  unfold ie;split
  ·rename_i hc
   have:=pj f (n+1) s om;omega
  ·exact⟨aoG _,h⟩
def fq:Nat->List UInt8->List UInt8
|0,_=>[]
|f+1,s=>
  if s=[] then [128]
  else if 3<=bg s then [UInt8.ofNat (257 - bg s),s.getD 0 0]++fq f (s.drop (bg s))
  else [UInt8.ofNat (cq s - 1)]++s.take (cq s)++fq f (s.drop (cq s))
def gf (s:List UInt8):List UInt8:=fq (s.length+1) s
section
variable {w:ak}{PK:PKT}{K:Ending->ak->Prop}{N1:List ao->ak->Prop}{S:Nat->Prop}{w0:ak}{L:List Ent}
theorem Z6 {n:Nat}{l t:List UInt8}(ho:OwnS S w0 w (Bld b v l::L))(h1:1<=n)(hn:n<=min t.length 128)(hl:l.length<=10000000000)
  (k:∀v' W,OwnS S w0 W (Bld b v' (l++[UInt8.ofNat (n - 1)]++t.take n)::L)->N1 [.string ⟨(t.drop n).toArray⟩] W) :
  DoX ah (fA 3 5 (.int .i64 (IntKind.i64.wrap ((n:Int) - 1)))) w (pk K) λt40 w=>
 CallX ah 181 #[.pointer (aw ⟨b,0,av⟩),t40] w (pk K) λt41 w=>
 DoX ah (cM 9 (.string ⟨t.toArray⟩) av (aw (.int .i64 (n:Int))) av) w (pk K) λt44 w=>
 CallX ah 187 #[.pointer (aw ⟨b,0,av⟩),t44] w (pk K) λt45 w=>
 DoX ah (cM 9 (.string ⟨t.toArray⟩) (aw (.int .i64 (n:Int))) av av) w (pk K) λt48 w=>N1 [t48] w:=by
 rw[aA om om,show (n:Int) - 1=((n - 1:Nat):Int) by omega];refine aC (aO krx aoP) |>.mpr ?_;rw[lA];refine qR 0 ho rfl (kR (c:=UInt8.ofNat (n - 1)) (ho.at_ 0 rfl) om) ?_;rintro _ _ w4 ⟨rfl,v',rfl⟩ ho;rw[Rc aoD om om,aoF];refine qR 0 ho rfl (Jb (ho.at_ 0 rfl) (by rw[aoC,aoH];show l.length+1+_<=_;omega)) ?_;rintro _ _ w5 ⟨⟨x,rfl⟩,v'',rfl⟩ ho;rw[Ac aoD om om,aoF];exact k v'' w5 ho
end
theorem SI (s:List UInt8)(w:ak)(hs:s.length<=1000000000):Ret ah 119 #[.string ⟨s.toArray⟩] w (λv w'=>v=.string ⟨(gf s).toArray⟩∧Below w.heap.size w w'):=by
 refine aK λK hK=>KR ?_;unfold Jj nz;refine bD (λb=>.pointer (aw ⟨b,0,av⟩)) [.pointer av,.slice av 0 0] 188 (λ_=>by kernel_rfl) (Own.start w) λb w1 ho=>?_;have hB0:∃v0,Own w w1 [Bld b v0 []]:=⟨_,OwnS.Hl (l:=[]) (.inl rfl) O5 (ho.UU 5 1).swap⟩;obtain⟨v0,ho⟩:=hB0;refine loop (λvs W=>∃(t:List UInt8) (v:ao) (l:List UInt8),vs=[.string ⟨t.toArray⟩]∧t.length<=s.length∧l.length+2*t.length<=2*s.length∧(∃f,t.length < f∧l++fq f t=gf s)∧Own w W [Bld b v l]) (λvs _=>iG (vs.getD 0 undef)) ⟨s,v0,[],rfl,aoG _,sm,⟨s.length+1,om,rfl⟩,ho⟩ ?_;clear ho;rintro vs w2 ⟨t,v,l,rfl,ht,hl,⟨f,hf,hX⟩,ho⟩ _;simp only[EE,gd,nz];obtain⟨f,rfl⟩:∃f',f=f'+1:=⟨f - 1,om⟩;unfold fq at hX;rw[show (Value.string ⟨#[]⟩)=.string ⟨([]:List UInt8).toArray⟩ from rfl,Pv];by_cases h0:t=[]
 ·rw[anX h0] at hX;rw[anY (λh=>h h0),i_f];refine qR 0 ho rfl (DO (n:=128) (k:=128) (ho.at_ 0 rfl) om rfl om) ?_;rintro _ _ w3 ⟨rfl,v',rfl⟩ ho;refine qR 0 ho rfl (Fi (ho.at_ 0 rfl)) ?_;rintro _ _ w4 ⟨rfl,rfl⟩ ho;exact hK _ _ ⟨by rw[<-hX];rfl,ho.done⟩
 rw[anW h0] at hX;rw[anZ (show t≠[] from h0),i_t];have htp:=arI.2 h0;refine aH ho (Lg t w2 om) ?_;rintro _ w3 rfl ho;have hal:bg t<=128∧bg t<=t.length:=ni _ _ _
 try simp only[rs]
 by_cases h3:3<=bg t
 ·rw[anX h3] at hX;simp only[show ai ((3:Int)<=(bg t:Int))=au from anZ om,i_t];generalize bg t=n at *;rw[OH,show min (n:Int) 128=(n:Int) by omega]
  try simp only[rs]
  rw[aA om om,show (257:Int) - (n:Int)=((257 - n:Nat):Int) by omega];refine aC (aO krx aoP) |>.mpr ?_;rw[lA];refine qR 0 ho rfl (kR (c:=UInt8.ofNat (257 - n)) (ho.at_ 0 rfl) om) ?_;rintro _ _ w4 ⟨rfl,v',rfl⟩ ho;rw[s_ix (c:=t.getD 0 0) aoD dc (get0 htp)];refine qR 0 ho rfl (kR (c:=t.getD 0 0) (ho.at_ 0 rfl) (by rw[aoC];show l.length+1 < _;omega)) ?_;rintro _ _ w5 ⟨rfl,v'',rfl⟩ ho;rw[Ac aoD om om,aoF];refine aQ ⟨t.drop n,v'',_,rfl,by rw[aoJ];omega,?_,⟨f,by rw[aoJ];omega,?_⟩,ho⟩ ?_
  ·rw[aoC,aoC,aoJ];show l.length+1+1+_<=_;omega
  ·rw[<-hX];simp[aoL]
  ·show iG (.string ⟨(t.drop n).toArray⟩) < iG (.string ⟨t.toArray⟩);rw[eR,eR,aoJ];omega
 rw[anW h3] at hX;simp only[show ai ((3:Int)<=(bg t:Int))=aq from anY om,i_f];have fin:∀(v':ao) (W:ak) (n:Nat),n=cq t->Own w W [Bld b v' (l++[UInt8.ofNat (n - 1)]++t.take n)]->1<=n->n<=min t.length 128->It (λvs W=>∃(t:List UInt8) (v:ao) (l:List UInt8),vs=[.string ⟨t.toArray⟩]∧t.length<=s.length∧l.length+2*t.length<=2*s.length∧(∃f,t.length < f∧l++fq f t=gf s)∧Own w W [Bld b v l]) (λvs _=>iG (vs.getD 0 undef)) [.string ⟨t.toArray⟩] w2 [.string ⟨(t.drop n).toArray⟩] W:=by
  intro v' W n hlit ho hn1 hn;refine aQ ⟨t.drop n,v',_,rfl,by rw[aoJ];omega,?_,⟨f,by rw[aoJ];omega,?_⟩,ho⟩ ?_
  ·rw[aoC,aoC,aoJ,aoH];show l.length+1+_+_<=_;omega
  ·rw[<-hX,<-hlit];simp[aoL]
  ·show iG (.string ⟨(t.drop n).toArray⟩) < iG (.string ⟨t.toArray⟩);rw[eR,eR,aoJ];omega
 refine loop (λvs W=>∃n:Nat,vs=[.int .i64 (n:Int)]∧1<=n∧n<=min t.length 128∧(∃g,128 - n < g∧ie g n t=cq t)∧Own w W [Bld b v l]) (λvs _=>128 - n0 vs) ⟨1,rfl,om,om,⟨128,om,rfl⟩,ho⟩ ?_;clear ho;rintro vs w4 ⟨n,rfl,hn1,hn,⟨g,hg,hY⟩,ho⟩ _;simp only[Ft,gd,nz];obtain⟨g,rfl⟩:∃g',g=g'+1:=⟨g - 1,om⟩;unfold ie at hY;rw[cL aoD,OH,show min (t.length:Int) 128=((min t.length 128:Nat):Int) by omega]
 try simp only[rs]
 by_cases hm:n < min t.length 128
 case neg=>
  rw[anW (λh=>hm h.1)] at hY;simp only[anY (show ¬(n:Int) < ((min t.length 128:Nat):Int) by omega),rs,i_f];refine Z6 ho hn1 om om λv' W ho=>fin v' W n hY ho hn1 hn
 simp only[anZ (show (n:Int) < ((min t.length 128:Nat):Int) by omega),rs];rw[Ac aoD om om,aoF];refine aH ho (Lg (t.drop n) w4 (by rw[aoJ];omega)) ?_;rintro _ w5 rfl ho;simp only[rs];by_cases ha:bg (t.drop n) < 3
 ·rw[anX ⟨hm,ha⟩] at hY;simp only[anZ (show (bg (t.drop n):Int) < 3 by omega),rs,i_t];rw[aA om om];exact aQ ⟨n+1,rfl,om,om,⟨g,om,hY⟩,ho⟩ (by simp[n0,RowKit.intOf];omega)
 ·rw[anW (λh=>ha h.2)] at hY;simp only[anY (show ¬(bg (t.drop n):Int) < 3 by omega),rs,i_f];refine Z6 ho hn1 om om λv' W ho=>fin v' W n hY ho hn1 hn
end
section
open Go
namespace Bd
def strm (o:Ob)(data:List UInt8):Ob:=.mk 9 (Vl.bC o Vl.lenK).n (Vl.bC o Vl.lenK).g data (Vl.bC o Vl.lenK).keys (Vl.bC o Vl.lenK).kids
theorem P4 (h:Vl.check 1 o=0)(h7:o.k=7):Vl.lenK ∉ (Vl.bC o Vl.lenK).keys:=by
 have hk:Vl.keyed o=true:=by simp[Vl.keyed,h7]
 have hc:=Vl.qK (key:=Vl.lenK) h hk;have hk':Vl.keyed (Vl.bC o Vl.lenK)=true:=by
  have e:(Vl.bC o Vl.lenK).k=o.k:=rfl;simp[Vl.keyed,e,h7]
 obtain⟨_,hlen⟩:=Vl.Cy hc hk';intro hm;have hg:=Vl.Qp o Vl.lenK;unfold Vl.get at hg;rw[anX hk',anX (List.idxOf_lt_length_of_mem hm),aoI (by rw[<-hlen];exact List.idxOf_lt_length_of_mem hm)] at hg;cases hg
theorem Tc {data:List UInt8}(h:Vl.check 1 o=0)(h7:o.k=7)(hd:data.length<=1048576):Vl.check 1 (strm o data)=0:=by
 have hk:Vl.keyed o=true:=by simp[Vl.keyed,h7]
 have hc:=Vl.qK (key:=Vl.lenK) h hk;have hout:=P4 h h7;have h7':(Vl.bC o Vl.lenK).k=7:=h7;unfold strm;generalize Vl.bC o Vl.lenK=x at *;obtain⟨⟨a1,a2,a3,a4,a5,a6,a7⟩,hkids⟩:=Vl.FT.1 hc;obtain⟨k,n,g,s,ks,cs⟩:=x;simp only[Ob.k,Ob.n,Ob.g,Ob.s,Ob.keys,Ob.kids] at *;subst h7';refine Vl.FT.2 ⟨⟨a1,?_,λ_=>Int.le_refl 1 |> λ_=>by omega,?_,?_,a6,?_⟩,hkids⟩
 ·unfold Vl.xF at a2 ⊢;simp only[Ob.k,Ob.n,Ob.g,Ob.s,Ob.keys,Ob.kids,Vl.used] at a2 ⊢
  simp_all
  exact a2.1
 ·simp[Vl.fits,Ob.k]
 ·simpa[Vl.long,Ob.k,Ob.s] using hd
 ·unfold Vl.form at a7 ⊢;simp only[Ob.k] at a7 ⊢;simp only[show ai ((7:Int)=7∨(7:Int)=9)=au by decide,aqF,Bool.false_or,aoY] at a7;obtain⟨r1,r2,r3,r4⟩:=Vl.CG.1 a7.2;have hr:Vl.rising (.mk 9 n g data ks cs)=true:=Vl.CG.2 ⟨r1,r2,λq hq=>⟨(r3 q hq).1,λ_ e=>hout (e▸hq)⟩,r4⟩;simp[hr]
theorem Pp (h:Vl.check 1 o=0)(h7:o.k=7):(if Vl.keyed o=au∧Vl.check 1 o=0 then Vl.bC o Vl.lenK else o)=Vl.bC o Vl.lenK:=by
 rw[anX ⟨by simp[Vl.keyed,h7],h⟩]
end Bd
end
section
open Eng
def Dn(t0 t1 w)(K:KT):=nz f87 1 [] [] [] (zg [0,1] [t0,t1]) w K
theorem Gv:Dn t0 t1 w k0->Calls ah 87 #[t0,t1] w k0:=cw func87
end
end Go.Proofs.YtlipjfcbjemicaaGreatDoor

namespace Go.Proofs.YtlipjfcbjemicaaGreatDoor
variable{D T1 T2 U:TypeId}{K:VWP}{P:Program}{PK:PKT}{W w:ak}{a colors e:Int}{above:List UInt8}{b cap d f h i mo:Nat}{cb:Array Bool}{cur:List ao}{k':IntKind}{o:Ob}{rr:List ik}{v va vr:ao}{x:Pm}{xo yo:Operand}{t0 t1 t2:ao}{k0:Eng.KT}
section
open Eng Go.RowKit
theorem Qc (o:Ob)(v:ao)(data:List UInt8)(M:Mem)(w:ak)(h7:o.k=7)(hc:Vl.check 1 o=0)(hd:data.length<=1048576)(hw:o.wt<=1000000000)(hM:M.has w)(hv:OV M.A M.w v o) :
  RetM ah 87 #[v,.string ⟨data.toArray⟩] M w (λr N=>∃v',r=errV v' 0∧OV N.A N.w v' (Bd.strm o data)):=by
 obtain⟨vk,vc,cs,rfl,ha⟩:=hv.open;refine aU hM λK hK=>Gv ?_;unfold Dn nz;refine mW o ha.keys.one ha.kids.one (OwnS.memS hM) λb2 w1 ho=>?_;refine jH ho λb4 w2 ho=>?_;rw[oL,ob_k ho 1 rfl];simp only[rs,h7,show ai ((7:Int)≠7)=aq by decide,i_f];rw[ob_v ho 1 rfl];refine aH ho (R:=λv=>v=.int .i64 (Vl.check 1 o)) (vM o _ w2 (OV.inw (ho.hasM 2 rfl) hv) om) ?_;rintro _ w3 rfl ho;simp only[hc,bQ,show ai ((0:Int)≠0)=aq by decide,i_f];rw[ob_v ho 1 rfl];refine bI ho 2 rfl (E7 o _ Vl.lenK M w3 om (ho.hasM 2 rfl) hv) λy N w4 hle hy ho=>?_;have hdr:fy o Vl.lenK=Vl.bC o Vl.lenK:=by unfold fy;exact Bd.Pp hc h7
 rw[hdr] at hy;have hck:=Bd.Tc (data:=data) hc h7 hd;have hwt:=Vl.CO o Vl.lenK;have hst:Bd.strm o data=.mk 9 (Vl.bC o Vl.lenK).n (Vl.bC o Vl.lenK).g data (Vl.bC o Vl.lenK).keys (Vl.bC o Vl.lenK).kids:=rfl;generalize Vl.bC o Vl.lenK=x at *;obtain⟨yk,yc,ycs,rfl,hya⟩:=hy.open;refine jH ho λb7 w5 ho=>?_;refine cE 0 hya.keys.one hya.kids.one ho rfl λw6 ho=>?_;rw[oL];refine aN 0 ho rfl krx rfl (show 0 < 6 by omega) λw7 ho=>?_;rw[NB];refine aN 0 ho rfl krx rfl (show 0+3 < 6 by omega) λw8 ho=>?_;have ho:OwnS M.A w w8 [obE b7 (Bd.strm o data) yk yc,obE b4 ob0 nilS nilS,obE b2 o vk vc,.mem N]:=by rw[hst];exact ho
 have hsv:OV N.A N.w (obV (Bd.strm o data) yk yc) (Bd.strm o data):=by
  rw[hst];exact ObAt.ov (o:=.mk 9 x.n x.g data x.keys x.kids) (vk:=yk) (vc:=yc) (cs:=ycs) ⟨hya.keys,hya.kids,hya.all⟩
 have hsw:(Bd.strm o data).wt<=100000000000:=by
  have e1:=Vl.HO (Bd.strm o data);have e2:=Vl.HO x;rw[hst] at e1 ⊢;simp only[Ob.s,Ob.keys,Ob.kids] at e1 e2 ⊢;omega
 rw[ob_v ho 0 rfl];refine bI ho 3 rfl (NF _ _ N w8 hsw (ho.hasM 3 rfl) hsv) ?_;rintro _ N2 w9 hle2 ⟨t,rfl,ht⟩ ho;have hrt:Vl.right (Bd.strm o data)=(Bd.strm o data,0):=by unfold Vl.right;rw[anW (by simp[hck])]
 rw[hrt] at ht;obtain⟨tk,tc,tcs,rfl,hta⟩:=ht.open;simp only[errV,ex,hrt];refine cE 1 hta.keys.one hta.kids.one ho rfl λw10 ho=>?_;exact iJ 1 ho rfl (hK _ _ N2 _ 3 ho rfl (hle.trans hle2) ⟨_,rfl,hta.ov⟩)
end
section
open Eng Go.RowKit
namespace Ff
def Kr (o:Ob):Ob:=.mk 7 o.n o.g [] o.keys o.kids
def bare (o:Ob):Ob:=Vl.bC (Vl.bC (Kr o) dQ) qP
def plain (o:Ob)(data:List UInt8):Ob×Int:=
 if o.k≠9∧o.k≠7 then (Vl.ob0,10)
 else if Vl.check 1 (Kr o)≠0 then (Vl.ob0,Vl.check 1 (Kr o))
 else (Bd.strm (bare o) data,0)
theorem YV (o:Ob):(Kr o).wt<=o.wt:=by
 obtain⟨k,n,g,s,ks,cs⟩:=o;show (Ob.mk 7 n g [] ks cs).wt<=(Ob.mk k n g s ks cs).wt;rw[Ob.wt,Ob.wt];have:([]:List UInt8).length=0:=rfl;omega
end Ff
theorem Lo (o:Ob)(v:ao)(data:List UInt8)(M:Mem)(w:ak)(hd:data.length<=1048576)(hw:o.wt<=1000000000)(hM:M.has w)(hv:OV M.A M.w v o) :
  RetM ah 30 #[v,.string ⟨data.toArray⟩] M w (λr N=>∃v',r=errV v' (Ff.plain o data).2∧OV N.A N.w v' (Ff.plain o data).1):=by
 obtain⟨vk,vc,cs,rfl,ha⟩:=hv.open;refine aU hM λK hK=>Gi ?_;generalize hX:Ff.plain o data=X at hK;unfold Ff.plain at hX;unfold DI nz;refine mW o ha.keys.one ha.kids.one (OwnS.memS hM) λb2 w1 ho=>?_;refine jH ho λb4 w2 ho=>?_;have no:∀{W:ak} {N:Mem} {e:Int} {x:Ob},OwnS M.A w W [obE b4 ob0 nilS nilS,obE b2 x vk vc,.mem N]->M.le N->X=(Vl.ob0,e)->DoX ah (bA 25 #[]) W (pk K) (λt W=>DoX ah (aV 25 (.pointer (aw ⟨b4,0,av⟩)) t) W (pk K) λ_ W=>RetX ah [.cell (.pointer (aw ⟨b4,0,av⟩)) 25,.val (.int .i64 e)] W K):=by
  intro W N e x ho hle hx;rw[OX];refine cE 0 rfl rfl ho rfl λw4 ho=>?_;refine iJ 0 ho rfl (hK _ _ N _ 2 ho rfl hle ⟨obV Vl.ob0 nilS nilS,?_,?_⟩)
  ·rw[hx];rfl
  ·rw[hx];exact JD N
 rw[oL,ob_k ho 1 rfl];simp only[rs];have hv7:OV M.A M.w (obV (Ff.Kr o) vk vc) (Ff.Kr o):=ObAt.ov (o:=Ff.Kr o) (vk:=vk) (vc:=vc) (cs:=cs) ⟨ha.keys,ha.kids,ha.all⟩;have main:¬(o.k≠9∧o.k≠7)->DoX ah (mFA 25 (.pointer (aw ⟨b2,0,av⟩)) 0) w2 (pk K) λt16 w=>
 DoX ah (aV 3 t16 (.int .i64 7)) w (pk K) λ_ w=>
 DoX ah (mFA 25 (.pointer (aw ⟨b2,0,av⟩)) 3) w (pk K) λt17 w=>
 DoX ah (aV 9 t17 (.string ⟨#[]⟩)) w (pk K) λ_ w=>
 DoX ah (aJ 25 (.pointer (aw ⟨b2,0,av⟩))) w (pk K) λt18 w=>
 CallX ah 86 #[t18] w (pk K) λt19 w=>
 DoX ah (mEq .neq 30 (.tmp 20) (.const (.int .i64 0)) t19 (.int .i64 0)) w (pk K) λt21 w=>
 IfX t21 (DoX ah (bA 25 #[]) w (pk K) λt22 w=>
 DoX ah (aV 25 (.pointer (aw ⟨b4,0,av⟩)) t22) w (pk K) λ_ w=>
 RetX ah [.cell (.pointer (aw ⟨b4,0,av⟩)) 25,.val t19] w K) (DoX ah (aJ 25 (.pointer (aw ⟨b2,0,av⟩))) w (pk K) λt24 w=>
 CallX ah 88 #[t24,(.string ⟨#[70,105,108,116,101,114]⟩)] w (pk K) λt25 w=>
 CallX ah 88 #[t25,(.string ⟨#[68,101,99,111,100,101,80,97,114,109,115]⟩)] w (pk K) λt26 w=>
 CallX ah 87 #[t26,.string ⟨data.toArray⟩] w (pk K) λt28 w=>
 DoX ah (mExt t28 0) w (pk K) λt29 w=>
 DoX ah (mExt t28 1) w (pk K) λt30 w=>
 DoX ah (aV 25 (.pointer (aw ⟨b4,0,av⟩)) t29) w (pk K) λ_ w=>
 RetX ah [.cell (.pointer (aw ⟨b4,0,av⟩)) 25,.val t30] w K):=by
  intro hk;rw[anW hk] at hX;rw[oL];refine aN 1 ho rfl krx rfl (show 0 < 6 by omega) λw3 ho=>?_;rw[NB];refine aN 1 ho rfl krx rfl (show 0+3 < 6 by omega) λw4 ho=>?_;have ho:OwnS M.A w w4 [obE b4 ob0 nilS nilS,obE b2 (Ff.Kr o) vk vc,.mem M]:=ho;have hwt:=Ff.YV o;have hb:Bd.strm (Ff.bare o) data=Bd.strm (Vl.bC (Vl.bC (Ff.Kr o) Ff.dQ) Ff.qP) data:=rfl;have h7:(Ff.Kr o).k=7:=rfl;rw[hb] at hX;generalize Ff.Kr o=d at hX hwt ho hv7 h7;rw[ob_v ho 1 rfl];refine aH ho (R:=λv=>v=.int .i64 (Vl.check 1 d)) (vM d _ w4 (OV.inw (ho.hasM 2 rfl) hv7) om) ?_;rintro _ w5 rfl ho;simp only[bQ];by_cases hc:Vl.check 1 d=0
  case neg=>
   rw[anX hc] at hX;simp only[anZ (show Vl.check 1 d≠0 from hc),i_t];exact no ho M.le_refl hX.symm
  rw[anW (λh=>h hc)] at hX;simp only[hc,show ai ((0:Int)≠0)=aq from rfl,i_f];rw[ob_v ho 1 rfl];refine bI ho 2 rfl (E7 d _ Ff.dQ M w5 om (ho.hasM 2 rfl) hv7) λy1 N1 w6 l1 hy1 ho=>?_;have e1:fy d Ff.dQ=Vl.bC d Ff.dQ:=by unfold fy;rw[anX ⟨by simp[Vl.keyed,h7],hc⟩]
  rw[e1] at hy1;have hc1:=Vl.qK (key:=Ff.dQ) hc (by simp[Vl.keyed,h7]);have h71:(Vl.bC d Ff.dQ).k=7:=h7;have hw1:=Vl.CO d Ff.dQ;generalize Vl.bC d Ff.dQ=d1 at *;refine bI ho 2 rfl (E7 d1 _ Ff.qP N1 w6 om (ho.hasM 2 rfl) hy1) λy2 N2 w7 l2 hy2 ho=>?_;have e2:fy d1 Ff.qP=Vl.bC d1 Ff.qP:=by unfold fy;rw[anX ⟨by simp[Vl.keyed,h71],hc1⟩]
  rw[e2] at hy2;have hc2:=Vl.qK (key:=Ff.qP) hc1 (by simp[Vl.keyed,h71]);have h72:(Vl.bC d1 Ff.qP).k=7:=h71;have hw2:=Vl.CO d1 Ff.qP;generalize Vl.bC d1 Ff.qP=d2 at *;refine bI ho 2 rfl (Qc d2 _ data N2 w7 h72 hc2 hd om (ho.hasM 2 rfl) hy2) ?_;rintro _ N3 w8 l3 ⟨t,rfl,ht⟩ ho;obtain⟨tk,tc,tcs,rfl,hta⟩:=ht.open;simp only[errV,ex];refine cE 0 hta.keys.one hta.kids.one ho rfl λw9 ho=>?_;exact iJ 0 ho rfl (hK _ _ N3 _ 2 ho rfl ((l1.trans l2).trans l3) ⟨_,by rw[<-hX];rfl,by rw[<-hX];exact hta.ov⟩)
 by_cases k9:o.k=9
 ·simp only[anY (show ¬o.k≠9 fromλh=>h k9),rs,g_un,i_f];exact main (λh=>h.1 k9)
 simp only[anZ (show o.k≠9 from k9),rs];rw[oL,ob_k ho 1 rfl];simp only[rs];by_cases k7:o.k=7
 ·simp only[anY (show ¬o.k≠7 fromλh=>h k7),rs,i_f];exact main (λh=>h.2 k7)
 ·simp only[anZ (show o.k≠7 from k7),rs,i_t];rw[anX ⟨k9,k7⟩] at hX;exact no ho M.le_refl hX.symm
theorem eqPm:eqT ah 27 [(0,aq),(1,aq),(2,aq)]:=⟨krx,krx,krx,krx⟩
def Pm.eqb (x y:Pm):Bool:=ai (x.p=y.p)&&(ai (x.c=y.c)&&ai (x.n=y.n))
theorem ZD (x y:Pm):([(0,aq),(1,aq),(2,aq)]:List (Nat×Bool)).all (λp=>JS (pmC x).toArray[p.1]? (pmC y).toArray[p.1]?)=Pm.eqb x y:=by
 have e:([(0,aq),(1,aq),(2,aq)]:List (Nat×Bool)).all (λp=>JS (pmC x).toArray[p.1]? (pmC y).toArray[p.1]?)=((x.p==y.p)&&((x.c==y.c)&&((x.n==y.n)&&au))):=rfl;rw[e];unfold Pm.eqb;rw[Bool.and_true];rfl
theorem WR {y:Pm}:(mEq .eql 27 xo yo (pmV x) (pmV y)).run ah w=.ok (.value (.bool (Pm.eqb x y))) w:=by
 rw[<-ZD];exact PW eqPm rfl
theorem agK {y:Pm}:(mEq .neq 27 xo yo (pmV x) (pmV y)).run ah w=.ok (.value (.bool (!Pm.eqb x y))) w:=by
 rw[<-ZD];exact P1 eqPm rfl
theorem SN (M:Mem)(w:ak)(hM:M.has w):RetM ah 68 #[pmV Ff.dO] M w (λr _=>r=errV (obV Vl.ob0 nilS nilS) 0):=by
 refine aU hM λK hK=>Is ?_;unfold F8 iN dx stx alx;refine yE Ff.dO (OwnS.memS hM) λb1 w1 ho=>?_;refine jH ho λb2 w2 ho=>?_;refine cR (λW=>OwnS M.A w W [obE b2 ob0 nilS nilS,pmE b1 Ff.dO,.mem M]) ho.drew ?_;refine q_at (pmV Ff.dO) (λW h=>bE (h.agg 1 rfl HR)) ?_;refine kS (pmV Ff.dO) (λW h=>(vT W).mono λv w' ⟨k1,k2⟩=>⟨k1,h.grow k2⟩) ?_;refine q_do _ (λ_=>WR) ?_;intro w3 ho;rw[show Pm.eqb Ff.dO Ff.dO=au from rfl,i_t,OX];refine cE 0 rfl rfl ho rfl λw4 ho=>?_;exact iJ 0 ho rfl (hK _ _ M _ 2 ho rfl M.le_refl rfl)
def Ff.alone (os:List Ob):Ob:=if os.length=1 then os.getD 0 Vl.ob0 else .mk 6 0 0 [] [] os
theorem TL (os:List Ob)(v:ao)(cs:List ao)(M:Mem)(w:ak)(hw:Ob.wts os<=1000000000)(hM:M.has w)(h:LsAt M v os cs):RetM ah 71 #[v] M w (λr N=>OV N.A N.w r (Ff.alone os)):=by
 refine aU hM λK hK=>Gs ?_;unfold Dy nz;refine jH (OwnS.memS hM) λb2 w1 ho=>?_;rw[Nw h];simp only[rs];by_cases h1:os.length=1
 ·simp only[show ai ((os.length:Int)=1)=au from anZ om,i_t];refine RA (i:=0) h om (ho.hasM 1 rfl) λyk yc hy=>?_;refine cE 0 hy.oneK hy.oneC ho rfl λw2 ho=>?_;refine lK (bN (ho.agg 0 rfl Bl)) (hK _ _ M _ 1 ho rfl M.le_refl ?_);have:Ff.alone os=os[0]:=by unfold Ff.alone;rw[anX h1,aoE,aoI om,asB]
  rw[this];exact hy
 ·simp only[show ai ((os.length:Int)=1)=aq from anY om,i_f];refine bI ho 1 rfl (Zf os _ cs M w1 om (ho.hasM 1 rfl) h.sl h.all) λy N w2 l1 hy ho=>?_;obtain⟨yk,yc,ycs,rfl,hya⟩:=hy.open;refine cE 0 hya.keys.one hya.kids.one ho rfl λw3 ho=>?_;refine lK (bN (ho.agg 0 rfl Bl)) (hK _ _ N _ 1 ho rfl l1 ?_);unfold Ff.alone;rw[anW h1];exact hya.ov
theorem XB (ns:List (List UInt8))(vn:ao)(M:Mem)(w:ak)(h8:ns.length<=8)(hf:∀n∈ns,Ff.full n≠[])(hM:M.has w)(hn:SlA M.A M.w vn 1 ns.length (cD ns)) :
  RetM ah 67 #[vn,nilS] M w (λr N=>∃va vb,r=.tuple #[va,vb,.int .i64 0]∧SlA N.A N.w va 1 (ns.map Ff.full).length (cD (ns.map Ff.full))∧SlA N.A N.w vb 3 (List.replicate ns.length Ff.dO).length ((List.replicate ns.length Ff.dO).flatMap pmC)):=by
 refine aU hM λK hK=>Jt ?_;unfold Hx nz;have ho:OwnS M.A w w [.mem M]:=OwnS.memS hM;rw[DZ hn];simp only[rs,show ai ((8:Int) < (ns.length:Int))=aq from anY om,i_f];rw[DZ hn];have ho:=OwnS.nilU ho 9 1;refine loop (λvs W=>∃(i:Nat) (ov:ao),vs=[ov,.int .i64 (i:Int)]∧i<=ns.length∧OwnS M.A w W [stsE ov ((ns.take i).map Ff.full),.mem M]) (λvs _=>ns.length - n1 vs) ⟨0,nilS,rfl,om,ho⟩ ?_;clear ho;rintro vs w1 ⟨i,ov,rfl,hi,ho⟩ _;simp only[Dg,gd,rs,nz];by_cases hlt:(i:Int) < (ns.length:Int)
 ·simp only[hlt,aoA,i_t];have hi':i < ns.length:=om
  obtain⟨p,hia,hld⟩:=Qo hn hi';rw[aC (hia w1),aC (hld w1 (ho.hasM 1 rfl))];refine c_eq (Ez ns[i] w1) ?_;simp only[ex,rs,anZ (hf _ (aoR hi')),aqF,i_f];refine UP _ ho (by rw[apP,aoH];omega) λov' W2 ho=>?_
  try simp only[rs]
  rw[aA om om];refine aQ ⟨i+1,ov',rfl,om,?_⟩ (by simp[n1,RowKit.intOf];omega);rw[apG hi',apX];exact ho
 simp only[hlt,aoB,i_f];have:i=ns.length:=om
 subst this;rw[aqJ] at ho;obtain⟨N1,l1,hs1,ho⟩:=ho.cI 0 rfl;have ho:OwnS M.A w w1 [.mem N1]:=ho;rw[bG atS];simp only[rs,show ai (((0:Nat):Int)≠0)=aq from rfl,i_f,g_un];refine bD (λb=>.slice (aw ⟨b,0,av⟩) 0 0) [] 27 (λ_=>by kernel_rfl) ho λb3 w2 ho=>?_;have ho:=OwnS.toU ho (sz:=3) (n:=0) (cap:=0) rfl (aoG _) dc;have ho:OwnS M.A w w2 [pmsE (.slice (aw ⟨b3,0,av⟩) 0 0) [],.mem N1]:=ho;refine aX 0 atS elPm dc ho rfl (Sl.nil _ 3 0) sm dc dc λva w3 ho=>?_;have ho:OwnS M.A w w3 [pmsE va [],.mem N1]:=ho;rw[DZ hs1,apP];refine loop (λvs W=>∃(i:Nat) (ov:ao),vs=[ov,.int .i64 (i:Int)]∧i<=ns.length∧OwnS M.A w W [pmsE ov (List.replicate i Ff.dO),.mem N1]) (λvs _=>ns.length - n1 vs) ⟨0,va,rfl,om,ho⟩ ?_;clear ho;rintro vs w4 ⟨i,pv,rfl,hi,ho⟩ _;simp only[DJ,gd,rs,nz];by_cases hlt:(i:Int) < (ns.length:Int)
 ·simp only[hlt,aoA,i_t];have hi':i < (ns.map Ff.full).length:=by rw[apP];omega
  obtain⟨p,hia,hld⟩:=Qo hs1 hi';rw[aC (hia w4),aC (hld w4 (ho.hasM 1 rfl))];refine join λJ hJ=>?_;rw[bG atS];simp only[rs,show ai (((0:Nat):Int)=0)=au from rfl,i_t];refine aH ho (vT w4) ?_;rintro _ w5 rfl ho;refine Vz _ ho (by rw[apC];omega) λpv' W2 ho=>?_;have ho:OwnS M.A w W2 [pmsE pv' (List.replicate (i+1) Ff.dO),.mem N1]:=by rw[auL];exact ho
  refine hJ _ _ λ_=>?_;simp only[DR,gd,nz];refine cR (λW=>OwnS M.A w W [pmsE pv' (List.replicate (i+1) Ff.dO),.mem N1]) ho.drew ?_;obtain⟨g,cap,hv1,hia2,hld2,_⟩:=rec_row Ur atS szPm HR 0 ho rfl (j:=i) (by rw[apC];omega);rw[show (Value.string ⟨#[70,108,97,116,101,68,101,99,111,100,101]⟩)=.string ⟨Ff.nFl.toArray⟩ from rfl];refine Y7 ?_;have next:∀W,OwnS M.A w W [pmsE pv' (List.replicate (i+1) Ff.dO),.mem N1]->DoX ah (mBin .add 3 (.int .i64 (i:Int)) (.int .i64 1)) W (pk K) (λt73 W=>It (λvs W=>∃(i:Nat) (ov:ao),vs=[ov,.int .i64 (i:Int)]∧i<=ns.length∧OwnS M.A w W [pmsE ov (List.replicate i Ff.dO),.mem N1]) (λvs _=>ns.length - n1 vs) [pv,.int .i64 (i:Int)] w4 [pv',t73] W):=by
   intro W ho;rw[H7,aA om om];exact aQ ⟨i+1,pv',rfl,om,ho⟩ (by simp[n1,RowKit.intOf];omega)
  by_cases hfl:(ns.map Ff.full)[i]=Ff.nFl
  ·rw[anY (λh=>h hfl)];simp only[gq,aiG];refine q_pf ?_;intro w6 ho;rw[i_f];exact next w6 ho
  ·rw[anZ (show (ns.map Ff.full)[i]≠Ff.nFl from hfl)];simp only[gq];refine q_do _ hia2 (q_at _ (λW h=>hld2 W (h.at_ 0 rfl)) ?_);rw[auS];refine kS (pmV Ff.dO) (λW h=>(vT W).mono λv w' ⟨k1,k2⟩=>⟨k1,h.grow k2⟩) ?_;refine q_do _ (λ_=>agK) (q_pt ?_);intro w6 ho;rw[show (!Pm.eqb Ff.dO Ff.dO)=aq from rfl,i_f];exact next w6 ho
 simp only[hlt,aoB,i_f];have:i=ns.length:=om
 subst this;obtain⟨N2,l2,hs2,ho⟩:=ho.cI 0 rfl;exact hK _ _ N2 _ 0 ho rfl (l1.trans l2) ⟨ov,pv,rfl,hs1.le l2,hs2⟩
end
section
open Eng Go.RowKit
namespace Ff
def oneA (n s:List UInt8):List UInt8:=if full n=nHx then Oc.hex s++[62] else gf s
def encN:List (List UInt8)->List UInt8->List UInt8
|[],s=>s
|n::r,s=>oneA n (encN r s)
def uT (n:List UInt8):Ob:=ob1 5 0 0 n
def enc0 (o:Ob)(ns:List (List UInt8))(data:List UInt8):Ob×Int:=
 if (plain o (encN (ns.map full) data)).2≠0 then (plain o (encN (ns.map full) data))
 else if (Vl.set (plain o (encN (ns.map full) data)).1 dQ (alone ((ns.map full).map uT))).2≠0 then (Vl.ob0,(Vl.set (plain o (encN (ns.map full) data)).1 dQ (alone ((ns.map full).map uT))).2)
 else ((Vl.set (plain o (encN (ns.map full) data)).1 dQ (alone ((ns.map full).map uT))).1,0)
end Ff
theorem Lh:bZ ah 114=true:=krx
theorem L6:bZ ah 119=true:=krx
theorem Xg (b f:Nat)(s r:List UInt8)(w:ak)(hp:bZ ah f=au)(hb:(ON b f).is w)(h:Ret ah f #[.string ⟨s.toArray⟩] w (λv w'=>v=.string ⟨r.toArray⟩∧Below w.heap.size w w')) :
  Ret ah 171 #[.string ⟨s.toArray⟩,.pointer (aw ⟨b,0,av⟩)] w (λv w'=>v=zlT (r,0)∧Below w.heap.size w w'):=by
 refine aK λK hK=>tK ?_;unfold rO nz;rw[aS nFnS (aI (T:=36) (cs:=[fnV f]) hb (i:=0) rfl)];unfold fnV;refine HL hp (aH (Own.start w) h ?_);rintro _ w1 rfl ho;exact hK _ _ ⟨rfl,ho.done⟩
theorem Vj (n:List UInt8)(x:Pm)(s:List UInt8)(w:ak)(hn:Ff.full n=Ff.nHx∨Ff.full n=Ff.nRL)(hs:s.length<=1000000) :
  Ret ah 17 #[.string ⟨n.toArray⟩,pmV x,.string ⟨s.toArray⟩] w (λv w'=>v=zlT (Ff.oneA n s,0)∧Below w.heap.size w w'):=by
 refine aK λK hK=>AZ ?_;unfold Bn nz;refine yE x (Own.start w) λb4 w1 ho=>?_;rw[pm_v ho 0 rfl];have wone:∀{p u:ao},p.oneCell'=au->u.oneCell'=au->∀y∈wyC p u,y.oneCell'=true:=by
  intro p u hp hu y hy;simp only[wyC,aoM,aqI,or_false] at hy;rcases hy with rfl|rfl<;>assumption
 refine aeK ho (λf g hfg b1 b2 w2 ho=>?_) (λhf w2 ho=>?_) (λhf w2 ho=>?_)
 rotate_left
 ·rcases hn with h|h<;>rw[h] at hf<;>exact absurd hf dc
 ·rcases hn with h|h<;>rw[h] at hf<;>exact absurd hf dc
 simp only[ex];refine bD (λb=>.pointer (aw ⟨b,0,av⟩)) (wyC .nilFunc .nilFunc) 91 (λ_=>by kernel_rfl) ho λb8 w3 ho=>?_;refine iL 0 ho rfl (new:=wyC (A8 b1) (Da b2)) szWy (wone rfl rfl) rfl λw4 ho=>?_;have ho:OwnS NoB w w4 [wyE b8 (A8 b1) (Da b2),upE b2 g,ON b1 f,pmE b4 x]:=ho;simp only[bQ,show ai ((0:Int)≠0)=aq from rfl,i_f];rw[cL aoD];simp only[rs,show ai ((1048576:Int) < (s.length:Int))=aq from anY om,i_f];rw[aP Xy,aS nFnW (ho.cell 0 rfl 0 rfl)];have key:∃_:bZ ah f=au,Ret ah f #[.string ⟨s.toArray⟩] w4 (λv w'=>v=.string ⟨(Ff.oneA n s).toArray⟩∧Below w4.heap.size w4 w'):=by
  rcases hfg with ⟨h,rfl,_⟩|⟨h,rfl,_⟩|⟨h,rfl,_⟩
  ·have e:Ff.oneA n s=Oc.hex s++[62]:=by unfold Ff.oneA;rw[anX h]
   rw[e];exact⟨Lh,QY s w4 hs⟩
  ·rcases hn with h'|h'<;>rw[h'] at h<;>exact absurd h dc
  ·have e:Ff.oneA n s=gf s:=by unfold Ff.oneA;rw[anW (by rw[h];decide)]
   rw[e];exact⟨L6,SI s w4 om⟩
 obtain⟨hp,key⟩:=key;unfold A8;refine HL L5 (aH ho (Xg b1 f s _ w4 hp (ho.at_ 2 rfl) key) ?_);rintro _ w5 rfl ho;simp only[zlT,ex];exact hK _ _ ⟨rfl,ho.done⟩
def nmC (n:List UInt8):List Value:=obC (Ff.uT n) nilS nilS
theorem abE {n:List UInt8}:∀u∈nmC n,u.oneCell'=true:=by
 intro u hu;simp only[nmC,obC,aoM,aqI,or_false] at hu;rcases hu with rfl|rfl|rfl|rfl|rfl|rfl<;>rfl
abbrev nmsE (v:ao)(l:List (List UInt8)):Ent:=.recs 25 nmC 6 v l
theorem U6:elB ah 25 6 88=true:=krx
theorem QO {A:Nat->Prop}{W:ak}:∀l:List (List UInt8),OVs A W (l.flatMap nmC) (l.map Ff.uT)
|[]=>by rw[asY,OVs];rfl
|n::l=>by
  rw[aqL,OVs];exact⟨nmC n,l.flatMap nmC,by rw[aqC],rfl,ObAt.ov (o:=Ff.uT n) (vk:=nilS) (vc:=nilS) (cs:=[]) ⟨SlA.nil _ _ _ _,SlA.nil _ _ _ _,OVs.nil⟩,QO l⟩
section
variable {w:ak}{PK PK2:PKT}{K:VWP}{S:Nat->Prop}{w0:ak}{L:List Ent}
theorem ajL (n:List UInt8){l:List (List UInt8)}{c:Array Bool}(i:Nat)(ho:OwnS S w0 w L)(hi:L[i]?=aw (nmsE v l))(hl:l.length<=1000000)(k:∀v' W,OwnS S w0 W (L.set i (nmsE v' (l++[n])))->K v' W) :
  DoX ah (bF 23 1 #[(0,obV (Ff.uT n) nilS nilS)]) w PK λt w=>DoX ah (mB .append #[23,23] 23 c #[v,t]) w PK2 K:=by
 refine Lp (Ff.uT n) (vk:=nilS) (vc:=nilS) rfl rfl ho λb w1 ho=>?_;refine aX (i+1) aoW U6 dc ho (by rw[apW];exact hi) (eG (cs:=nmC n) (ho.at_ 0 rfl) dc rfl) abE om om λv' w2 ho=>k v' w2 ?_;have e:nmsE v' (l++[n])=.urow 25 6 v' (l.length+1) (l.flatMap nmC++nmC n):=by
  unfold nmsE Ent.recs;rw[aoC,atC,atT];rfl
 rw[e];exact ho.tail
end
end
section
open Eng Go.RowKit
theorem agV {l:List UInt8}(hs:Sl w v 1 l.length (aG l))(hi:i < l.length) :
  ∃p,(∀W,(mIA 53 v (.int .i64 (i:Int))).run ah W=.ok (.value (.pointer (aw p))) W)∧∀W,Sl W v 1 l.length (aG l)->(aJ 5 (.pointer (aw p))).run ah W=.ok (.value (.int .u8 (l[i].toNat:Int))) W:=by
 obtain⟨b,off,cap,rfl,_⟩:=bY hs om;refine⟨⟨b,off+i,av⟩,λW=>?_,λW hW=>?_⟩
 ·have:=dZ (P:=ah) (T:=53) (b:=b) (off:=off) (cap:=cap) (n:=l.length) (k:=.i64) (i:=(i:Int)) (w:=W) aoK (show (Tryz.prog.info? 5).map (·.size)=aw 1 by kernel_rfl) om om;rw[aoF,aoS] at this;exact this
 ·obtain⟨b',off',cap',he,hc⟩:=bY hW om;cases he;exact bE (AtV.cell nU8l (hc _ _ (fC hi)))
section
variable {w:ak}{PK:PKT}{K:VWP}{S:Nat->Prop}{w0:ak}{L:List Ent}
theorem SJ {tag:Int}{row:List UInt8}(ho:OwnS S w0 w L)(hA:∀W,OwnS S w0 W L->Sl W va 1 above.length (aG above))(hR:∀W,OwnS S w0 W L->Sl W vr 1 row.length (aG row))(hc:1<=colors∧colors<=1000000)(hl:row.length<=1000000)
  (k:∀v G W,G.length=row.length->OwnS S w0 W (outR v G::L)->K v W) :
  CallX ah 66 #[.int .i64 tag,va,vr,.int .i64 colors] w PK K:=by
 refine⟨Aw ?_⟩;unfold rF nz;have ho:OwnS S w0 w (outR nilS []::L):=ho.nilU 5 1;refine loop (λvs W=>∃(G:List UInt8) (v:ao),vs=[v,.int .i64 (G.length:Int)]∧G.length<=row.length∧OwnS S w0 W (outR v G::L)) (λvs _=>row.length - n1 vs) ⟨[],nilS,rfl,sm,ho⟩ ?_;clear ho;rintro vs w3 ⟨G,v,rfl,hi,ho⟩ _;simp only[nL,gd,rs,iN,bnx,lnx];rw[bB aoK (hR w3 ho.tail)]
 try simp only[rs]
 by_cases hlt:(G.length:Int) < (row.length:Int)
 case neg=>
  simp only[hlt,aoB,i_f];exact k v G w3 om ho
 have hi':G.length < row.length:=om
 simp only[hlt,aoA,i_t];obtain⟨p,hia,hld⟩:=agV (hR w3 ho.tail) hi';refine cR (λW=>OwnS S w0 W (outR v G::L)) ho.drew ?_;refine q_do _ hia (q_at _ (λW h=>hld W (hR W h.tail)) ?_);refine kS (.int .u8 ((dn tag above row (G.length:Int) colors).toNat:Int)) (λW h=>(LR tag above row va vr (G.length:Int) colors W om hc (hA W h.tail) (hR W h.tail)).mono λv' w' ⟨k1,k2⟩=>⟨k1,k2▸h⟩) ?_;refine q_do _ (λ_=>AH) ?_;rw[ZX];intro w4 ho;refine Dc _ ho λb8 w9 ho=>?_;refine aX 1 aoK elU8 dc ho rfl (eG (ho.at_ 0 rfl) dc rfl) aW om om λv' w10 ho=>?_
 try simp only[rs]
 rw[aA om om];refine aQ ⟨G++[row[G.length] - dn tag above row (G.length:Int) colors],v',by rw[aoC,apL];rfl,by rw[aoC,apL];omega,?_⟩ (by simp[n1,RowKit.intOf];omega);rw[cQ];exact ho.tail
theorem X8 {row:List UInt8}(ho:OwnS S w0 w L)(hA:∀W,OwnS S w0 W L->Sl W va 1 above.length (aG above))(hR:∀W,OwnS S w0 W L->Sl W vr 1 row.length (aG row))(hc:1<=colors∧colors<=1000000)(hl:row.length<=1000000)
  (k:∀(n:Nat) W,n<=4->OwnS S w0 W L->K (.int .i64 (n:Int)) W) :
  CallX ah 65 #[va,vr,.int .i64 colors] w PK K:=by
 refine⟨An ?_⟩;unfold qW nz;refine loop (λvs W=>∃(tag least i:Nat),vs=[.int .i64 (tag:Int),.int .i64 (least:Int),.int .i64 (i:Int)]∧i<=5∧tag<=4∧OwnS S w0 W L) (λvs _=>5 - n2 vs) ⟨0,0,0,rfl,om,om,ho⟩ ?_;clear ho;rintro vs w3 ⟨tag,least,i,rfl,hi,htag,ho⟩ _;simp only[nN,gd,rs,nz];by_cases hlt:(i:Int) < 5
 case neg=>
  simp only[hlt,aoB,i_f];exact k tag w3 htag ho
 simp only[hlt,aoA,i_t];refine join λJ hJ=>?_;have next:∀(a b2:Nat) W,a<=4->OwnS S w0 W L->J [.int .i64 (a:Int),.int .i64 (b2:Int)] W:=by
  intro a b2 W h ho;refine hJ _ _ λ_=>?_;simp only[nR,gd,rs,nz];rw[aA om om];exact aQ ⟨a,b2,i+1,rfl,om,h,ho⟩ (by simp[n2,RowKit.intOf];omega)
 refine SJ (tag:=(i:Int)) ho hA hR hc hl λv G w4 hG ho=>?_;refine loop (λvs W=>∃(s j:Nat),vs=[.int .i64 (s:Int),.int .i64 (j:Int)]∧j<=G.length∧s<=256*j∧OwnS S w0 W (outR v G::L)) (λvs _=>G.length - n1 vs) ⟨0,0,rfl,om,om,ho⟩ ?_;clear ho;rintro vs w5 ⟨s,j,rfl,hj,hs,ho⟩ _;simp only[nJ,gd,rs,nz];rw[bB aoK (cS (ho.at_ 0 rfl))]
 try simp only[rs]
 by_cases hlj:(j:Int) < (G.length:Int)
 ·simp only[hlj,aoA,i_t];have hj':j < G.length:=om
  obtain⟨p,hia,hld⟩:=agV (cS (ho.at_ 0 rfl)) hj';have hcv:∀(c:UInt8) (W:ak),(fA 5 3 (.int .u8 (c.toNat:Int))).run ah W=.ok (.value (.int .i64 (c.toNat:Int))) W:=λc W=>by
   have:=c.toNat_lt;have h1:=aO (P:=ah) (w:=W) (S:=5) (D:=3) (k:=.u8) (k':=.i64) (n:=(c.toNat:Int)) krx apH
   rwa [aA om om] at h1
  have hcl:=G[j].toNat_lt;refine cR (λW=>OwnS S w0 W (outR v G::L)) ho.drew ?_;refine q_do _ hia (q_at _ (λW h=>hld W (cS (h.at_ 0 rfl))) (q_do _ (hcv _) ?_));refine q_do _ hia (q_at _ (λW h=>hld W (cS (h.at_ 0 rfl))) (q_do _ (hcv _) ?_));refine q_do _ (λ_=>AH) ?_;rw[aA om om];refine q_do (.int .i64 (min (G[j].toNat:Int) (256 - (G[j].toNat:Int)))) (λW=>?_) ?_
  ·have e:(if (256 - (G[j].toNat:Int)) < (G[j].toNat:Int) then 256 - (G[j].toNat:Int) else (G[j].toNat:Int))=min (G[j].toNat:Int) (256 - (G[j].toNat:Int)):=by split<;>omega
   simp[mB,builtin,Builtin.min_,Builtin.min2,e]
  refine iV ?_;rw[aA om om];intro w6 ho
  try simp only[rs]
  rw[aA om om];refine aQ ⟨s+min G[j].toNat (256 - G[j].toNat),j+1,?_,om,om,ho⟩ (by simp[n1,RowKit.intOf];omega)
  congr 2
  ·congr 1;omega
 ·simp only[hlj,aoB,i_f];by_cases h0:(i:Int)=0
  ·simp only[h0,aoA,gd,rs,i_t];have:=next i s w5 om ho.tail
   rw[h0] at this;exact this
  ·simp only[h0,aoB,gd,rs];by_cases hsl:(s:Int) < (least:Int)
   ·simp only[hsl,aoA,i_t];exact next i s w5 om ho.tail
   ·simp only[hsl,aoB,i_f];exact next tag least w5 htag ho.tail
end
theorem Nr (x:Pm)(s:List UInt8)(w:ak)(hs:s.length<=1000000000):Ret ah 21 #[pmV x,.string ⟨s.toArray⟩] w (λv w'=>(∃t,v=encT t (dd x s)∧t.length<=2*s.length)∧Below w.heap.size w w'):=by
 refine aK λK hK=>wS ?_;generalize hX:dd x s=X at hK;unfold dd at hX;unfold nQ nz;have bad:∀(e:Int) (W:ak),e=X->Below w.heap.size w W->K (.returned (.tuple #[.string ⟨#[]⟩,.int .i64 e])) W:=λe W he hB=>hK _ _ ⟨⟨[],by rw[<-he];rfl,sm⟩,hB⟩;refine yE x (Own.start w) λb w1 ho=>?_;rw[pm_v ho 0 rfl];refine aH ho (tF x w1) ?_;rintro _ w2 rfl ho;simp only[bQ];by_cases h:x.ok
 case neg=>
  rw[anX h] at hX;rw[anW h];simp only[show ai ((1:Int)≠0)=au from rfl,i_t];exact bad _ _ hX ho.done
 rw[anW (by simp[h])] at hX;rw[anX h];simp only[show ai ((0:Int)≠0)=aq from rfl,i_f];rw[cL aoD]
 try simp only[rs]
 by_cases h2:1048576 < s.length
 ·rw[anX h2] at hX;simp only[show ai ((1048576:Int) < (s.length:Int))=au from anZ om,i_t];exact bad _ _ hX ho.done
 rw[anW h2] at hX;simp only[show ai ((1048576:Int) < (s.length:Int))=aq from anY om,i_f];rw[fpm0,pm_0 ho 0 rfl]
 try simp only[rs]
 by_cases h3:x.p=1
 ·rw[anX h3] at hX;simp only[h3,aoA,i_t];exact hK _ _ ⟨⟨s,by rw[<-hX];rfl,om⟩,ho.done⟩
 rw[anW h3] at hX;simp only[h3,aoB,i_f];rw[pm_v ho 0 rfl];refine aH ho (LO x w2) ?_;rintro _ w3 rfl ho;rw[anX h];have hm1:=Pm.mul_pos h;have hm2:=h.2.2.2.2;have hc:1<=x.c∧x.c<=1000000:=⟨h.2.1,by have:=h.2.2.2.1;omega⟩;obtain⟨n,hn⟩:∃n:Nat,x.c*x.n=(n:Int):=⟨(x.c*x.n).toNat,om⟩;rw[hn] at hm1 hm2 hX ⊢;rw[aoF] at hX;rw[cL aoD,CR om,abH]
 try simp only[rs]
 by_cases h4:s.length % n=0
 case neg=>
  rw[anX h4] at hX;simp only[show ai (((s.length % n:Nat):Int)≠0)=au from anZ om,i_t];exact bad _ _ hX ho.done
 rw[anW (by simp[h4])] at hX;simp only[show ai (((s.length % n:Nat):Int)≠0)=aq from anY om,i_f];rw[fpm0,pm_0 ho 0 rfl]
 try simp only[rs]
 have hkn:x.p=2∨(10<=x.p∧x.p<=15):=by
  rcases h.1 with h|h|h
  ·exact absurd h h3
  ·exact .inl h
  ·exact .inr h
 have hdiv:s.length / n<=s.length:=arY _ _;obtain⟨q,hq⟩:∃q,s.length / n=q:=⟨_,rfl⟩;rw[hq] at hX hdiv;have main:X=0->LoopX [.slice av 0 0,.slice av 0 0,.int .i64 0] w3 (λvs1 w N1=>∀_:Sg,fL (.string ⟨s.toArray⟩) (.pointer (aw ⟨b,0,av⟩)) (.int .i64 (n:Int)) (vs1.getD 0 undef) (vs1.getD 1 undef) (vs1.getD 2 undef) w N1 K):=by
  intro hX0;have ho:=(ho.nilU 5 1).nilU 5 1;have ho:OwnS NoB w w3 [outR nilS [],outR nilS [],pmE b x]:=ho;refine loop (λvs W=>∃(k:Nat) (prev out:List UInt8) (ov pv:ao) (e:Ent),vs=[pv,ov,.int .i64 (k:Int)]∧k<=s.length∧(s.length - k) % n=0∧out.length<=2*k∧prev.length<=1000000∧BRd e pv prev∧OwnS NoB w W [outR ov out,e,pmE b x]) (λvs _=>s.length - n2 vs) ⟨0,[],[],nilS,nilS,_,rfl,om,h4,sm,sm,λW h=>cS h,ho⟩ ?_;clear ho;rintro vs w6 ⟨k,prev,out,ov,pv,e,rfl,hk,htm,hot,hpl,hbr,ho⟩ _;simp only[fL,gd,nz];rw[cL aoD]
  try simp only[rs]
  by_cases h0:s.length - k=0
  ·simp only[show ai ((k:Int) < (s.length:Int))=aq from anY om,i_f];rw[gO aoK aoP aoD (cS (ho.at_ 0 rfl))];exact hK _ _ ⟨⟨out,by rw[hX0];rfl,om⟩,ho.done⟩
  simp only[show ai ((k:Int) < (s.length:Int))=au from anZ om,i_t];have hge:n<=s.length - k:=avL om (avM htm);rw[aA om om,My aoD om om om,aoF,show ((k:Int)+(n:Int)).toNat - k=n by omega];have hsl:((s.drop k).take n).length=n:=by rw[aoH,aoJ];omega
  generalize (s.drop k).take n=row at hsl;refine Gp aoD aoK aoP ho λb2 cap w7 ho=>?_;rw[hsl];have hR:∀{ov:ao} {out:List UInt8} (W:ak),OwnS NoB w W [.mkr 5 b2 row,outR ov out,e,pmE b x]->Sl W (.slice (aw ⟨b2,0,av⟩) n cap) 1 row.length (aG row):=λW ho=>by
   have:=Ti (cap:=cap) (ho.at_ 0 rfl);rw[hsl] at this ⊢;exact this
  have hbr2:BRd (.mkr 5 b2 row) (.slice (aw ⟨b2,0,av⟩) n cap) row:=by
   have:=@Mc b2 cap row
   rwa [hsl] at this
  refine join λJ2 hJ2=>?_;have last:∀(ov':ao) (out':List UInt8) (tag:Int) (W:ak),out'.length<=out.length+1->OwnS NoB w W [.mkr 5 b2 row,outR ov' out',e,pmE b x]->J2 [ov',.int .i64 tag] W:=by
   intro ov' out' tag W hol ho;refine hJ2 _ _ λ_=>?_;simp only[kG,gd,nz];rw[fpm1,pm_1 ho 3 rfl];refine SJ (tag:=tag) ho (λW ho=>hbr W (ho.at_ 2 rfl)) hR hc om λv G w8 hG ho=>?_;refine aX 2 aoK elU8 dc ho rfl (cS (ho.at_ 0 rfl)) aW om om λv' w9 ho=>?_
   try simp only[rs]
   rw[aA om om];have ho:OwnS NoB w w9 [.mkr 5 b2 row,outR v' (out'++G),e,pmE b x]:=by
    rw[cQ];exact ho.tail
   refine aQ ⟨k+n,row,out'++G,v',_,_,by rw[show (k:Int)+(n:Int)=((k+n:Nat):Int) by omega],om,?_,by rw[aoC];omega,om,hbr2,(OwnS.swap ho).sub (.cons_cons _ (.cons_cons _ (.cons _ (arK _))))⟩ (by simp[n2,RowKit.intOf];omega);rw[show s.length - (k+n)=s.length - k - n by omega];rw[avN hge] at htm;exact htm
  rw[fpm0,pm_0 ho 3 rfl]
  try simp only[rs]
  by_cases h2:2 < x.p
  case neg=>
   simp only[h2,aoB,i_f];exact last ov out 1 w7 om ho
  simp only[h2,aoA,i_t];rw[fpm0,pm_0 ho 3 rfl]
  try simp only[rs]
  rw[aA om om];refine join λJ3 hJ3=>?_;have tagged:∀(tag:Nat) (W:ak),OwnS NoB w W [.mkr 5 b2 row,outR ov out,e,pmE b x]->J3 [.int .i64 (tag:Int)] W:=by
   intro tag W ho;refine hJ3 _ _ λ_=>?_;simp only[jZ,gd,nz];refine aC (SF aoP apH tag W) |>.mpr ?_;refine Dc (UInt8.ofNat tag) ho λb8 w9 ho=>?_;refine aX 2 aoK elU8 dc ho rfl (eG (ho.at_ 0 rfl) dc rfl) aW om om λv' w10 ho=>?_;refine last v' (out++[UInt8.ofNat tag]) (tag:Int) w10 (by rw[aoC,apL];omega) ?_;rw[cQ];exact ho.tail
  try simp only[rs]
  by_cases h15:x.p - 10=5
  ·simp only[h15,aoA,i_t];rw[fpm1,pm_1 ho 3 rfl];refine X8 ho (λW ho=>hbr W (ho.at_ 2 rfl)) hR hc om λtag w8 _ ho=>?_;exact tagged tag w8 ho
  ·simp only[h15,aoB,i_f];rw[show x.p - 10=(((x.p - 10).toNat:Nat):Int) by omega];exact tagged _ w7 ho
 by_cases h10:2 < x.p
 ·simp only[h10,aoA,gd,rs];rw[cL aoD,cL aoD,Ao om,show ((s.length:Nat):Int).tdiv (n:Int)=((s.length / n:Nat):Int) from rfl,hq,aA om om]
  try simp only[rs]
  rw[aA om om];by_cases h5:1048576 < s.length+q
  ·rw[anX ⟨om,h5⟩] at hX;simp only[show ai ((1048576:Int) < (s.length:Int)+(q:Int))=au from anZ om,i_t];exact bad _ _ hX ho.done
  ·rw[anW om] at hX;simp only[show ai ((1048576:Int) < (s.length:Int)+(q:Int))=aq from anY om,i_f];exact main hX.symm
 ·rw[anW om] at hX;simp only[h10,aoB,gd,rs,i_f];exact main hX.symm
end
section
open Eng Go.RowKit
theorem SP (s:List UInt8)(w:ak)(hs:s.length<=1000000):Ret ah 61 #[.string ⟨s.toArray⟩] w (λv w'=>v=.string ⟨(Oc.hex s++[62]).toArray⟩∧Below w.heap.size w w'):=by
 refine aK λK hK=>BJ ?_;unfold tT nz;refine aH (Own.start w) (XW s w hs) ?_;rintro _ w1 rfl ho;have hl:(Oc.hex s).length<=2000000:=by rw[I3];omega
 rw[show (Value.string ⟨#[62]⟩)=.string ⟨([62]:List UInt8).toArray⟩ from rfl,SX (by simp;omega)];exact hK _ _ ⟨rfl,ho.done⟩
theorem Hr (s:List UInt8)(a:Nat)(w:ak)(ha:a < s.length)(hs:s.length<=1000000000):Ret ah 134 #[.string ⟨s.toArray⟩,.int .i64 (a:Int)] w (λv w'=>v=.int .i64 (bg (s.drop a):Int)∧Below w.heap.size w w'):=by
 refine aK λK hK=>xS ?_;unfold pV nz;have hg:(s.drop a).getD 0 0=s[a]:=by rw[aoE,aqG,apO,aoI ha];rfl
 have hal:bg (s.drop a)=fp s[a] 128 (s.drop a):=by unfold bg;rw[hg]
 rw[hal] at hK;refine loop (λvs W=>∃i:Nat,vs=[.int .i64 (i:Int)]∧i<=128∧a+i<=s.length∧i+fp s[a] (128 - i) (s.drop (a+i))=fp s[a] 128 (s.drop a)∧Own w W []) (λvs _=>128 - n0 vs) ⟨0,rfl,om,om,by rw[aoN];rfl,Own.start w⟩ ?_;rintro vs w1 ⟨i,rfl,hi,hia,hX,ho⟩ _;simp only[mO,gd,nz];refine cR (λW=>Own w W []) ho.drew (Nj ?_);have stop:(i=128∨a+i=s.length)->fp s[a] (128 - i) (s.drop (a+i))=0:=by
  rintro (h|h)
  ·rw[h];unfold fp;rfl
  ·rw[apR om,yd]
 by_cases h1:(i:Int) < 128
 case neg=>
  rw[anY h1];simp only[gq];refine q_pf ?_;simp only[gq];refine q_pf ?_;intro w2 ho;rw[i_f];rw[stop (.inl om),apO] at hX;exact hK _ _ ⟨by rw[hX],ho.done⟩
 rw[anZ h1];simp only[gq];refine iV ?_;rw[aA om om,show (a:Int)+i=((a+i:Nat):Int) by omega];refine Q7 aoD (Nj (q_pt ?_));by_cases h2:((a+i:Nat):Int) < (s.length:Int)
 case neg=>
  rw[anY h2];simp only[gq];refine q_pf ?_;intro w2 ho;rw[i_f];rw[stop (.inr om),apO] at hX;exact hK _ _ ⟨by rw[hX],ho.done⟩
 rw[anZ h2];simp only[gq];have hi':a+i < s.length:=om
 refine iV ?_;rw[aA om om,show (a:Int)+i=((a+i:Nat):Int) by omega];refine q_ix (c:=s[a+i]) aoD om (by rw[aoF];exact aoI hi') ?_;refine q_ix (c:=s[a]) aoD om (by rw[aoF];exact aoI ha) (q_eq (q_pt ?_));intro w2 ho;rw[apV hi',show 128 - i=(128 - (i+1))+1 by omega,fp] at hX;by_cases he:s[a+i]=s[a]
 ·rw[anX he] at hX;rw[anZ (show (s[a+i].toNat:Int)=(s[a].toNat:Int) by rw[he]),i_t]
  try simp only[rs]
  rw[aA om om];exact aQ ⟨i+1,rfl,om,om,by rw[<-hX,<-arM];omega,ho⟩ (by simp[n0,RowKit.intOf];omega)
 ·rw[anW he] at hX;rw[anY (show ¬(s[a+i].toNat:Int)=(s[a].toNat:Int) fromλh=>he (asP.1 om)),i_f];exact hK _ _ ⟨by rw[<-hX];rfl,ho.done⟩
section
variable {w:ak}{PK:PKT}{K:VWP}{S:Nat->Prop}{w0:ak}{L:List Ent}
theorem alK (c d:UInt8)(ho:OwnS S w0 w L)(k:∀b w',OwnS S w0 w' (.cells b (aG [c,d]) 5::L)->K (.slice (aw ⟨b,0,av⟩) 2 2) w'):DoX ah (bF 53 2 #[(0,.int .u8 (c.toNat:Int)),(1,.int .u8 (d.toNat:Int))]) w PK K:=
 bD (λb=>.slice (aw ⟨b,0,av⟩) 2 2) (aG [c,d]) 5 (λ_=>by kernel_rfl) ho k
end
section
variable {w:ak}{K:Ending->ak->Prop}{N1:List ao->ak->Prop}{S:Nat->Prop}{w0:ak}{L:List Ent}
theorem UY {a n:Nat}{u:ao}{l s:List UInt8}(hu:u=.int .i64 ((a+n:Nat):Int))(ho:OwnS S w0 w (outR v l::L))(h1:1<=n)(h2:n<=128)(hn:a+n<=s.length)(hs:s.length<=1000000)(hl:l.length<=10000000)
  (k:∀v' W,OwnS S w0 W (outR v' (l++[UInt8.ofNat (n - 1)]++(s.drop a).take n)::L)->N1 [v',.int .i64 ((a+n:Nat):Int)] W) :
  HeldX w (λS3 w=>
   HDo ah S3 (mBin .sub 3 (.int .i64 (n:Int)) (.int .i64 1)) λt49=>
   HDo ah S3 (fA 3 5 t49) λt50=>
   HDo ah S3 (mBin .add 3 (.int .i64 (a:Int)) (.int .i64 (n:Int))) λt57=>
   HDo ah S3 (cM 9 (.string ⟨s.toArray⟩) (aw (.int .i64 (a:Int))) (aw t57) av) λt58=>
   DoX ah (bF 53 1 #[(0,t50)]) w (ax 11 (pk K)) λt51 w=>
   S3 w∧(DoX ah (mB .append #[53,53] 53 #[aq,aq] #[v,t51]) w (ax 11 (pk K)) λt52 w=>
   S3 w∧(DoX ah (mB .append #[53,9] 53 #[aq,aq] #[t52,t58]) w (ax 11 (pk K)) λt59 w=>
   S3 w∧(N1 [t59,u] w)))):=by
 have ho:=ho.drew;refine⟨λ_=>True,trivial,?_⟩;refine aL _ (λ_=>AH) ?_;rw[aA om om,show (n:Int) - 1=((n - 1:Nat):Int) by omega];refine aL _ (λW=>SF aoP apH (n - 1) W) ?_;refine aL _ (λ_=>OB) ?_;rw[aA om om];refine aL _ (λ_=>jG aoD om om om) ?_;rw[aoF,show ((a:Int)+(n:Int)).toNat - a=n by omega];refine Dc _ ho λb w3 ho=>⟨trivial,?_⟩;refine aX 1 aoK elU8 dc ho rfl (eG (ho.at_ 0 rfl) dc rfl) aW om om λv' w4 ho=>⟨trivial,?_⟩;have ho:OwnS S w0 w4 (outR v' (l++[UInt8.ofNat (n - 1)])::L):=by rw[cQ];exact ho.tail
 refine CD 0 aoK aoD elU8 aoP krx ho rfl (by rw[aoC,aoH,apL];omega) λv'' w5 ho=>⟨trivial,?_⟩;rw[hu];refine k v'' w5 ?_;rw[cQ];exact ho
end
theorem Tk (s:List UInt8)(w:ak)(hs:s.length<=1000000):Ret ah 63 #[.string ⟨s.toArray⟩] w (λv w'=>v=.string ⟨(gf s).toArray⟩∧Below w.heap.size w w'):=by
 refine aK λK hK=>Ck ?_;unfold tH nz;have ho:Own w w [outR nilS []]:=(Own.start w).nilU 5 1;refine loop (λvs W=>∃(a:Nat) (v:ao) (l:List UInt8),vs=[v,.int .i64 (a:Int)]∧a<=s.length∧l.length<=2*a∧(∃f,s.length - a < f∧l++fq f (s.drop a)=gf s)∧Own w W [outR v l]) (λvs _=>s.length - n1 vs) ⟨0,nilS,[],rfl,om,sm,⟨s.length+1,om,by rw[apK];rfl⟩,ho⟩ ?_;clear ho;rintro vs w2 ⟨a,v,l,rfl,ha,hl,⟨f,hf,hX⟩,ho⟩ _;simp only[pR,gd,nz];obtain⟨f,rfl⟩:∃f',f=f'+1:=⟨f - 1,om⟩;unfold fq at hX;rw[cL aoD]
 try simp only[rs]
 by_cases h0:a < s.length
 case neg=>
  rw[anX (apR om)] at hX;simp only[show ai ((a:Int) < (s.length:Int))=aq from anY om,i_f];refine Dc 128 ho λb w3 ho=>?_;refine aX 1 aoK elU8 dc ho rfl (eG (ho.at_ 0 rfl) dc rfl) aW om om λv' w4 ho=>?_;have ho:Own w w4 [outR v' (l++[128])]:=by rw[cQ];exact ho.tail
  rw[gO aoK aoP aoD (cS (ho.at_ 0 rfl)),hX];exact hK _ _ ⟨rfl,ho.done⟩
 have hne:¬s.drop a=[]:=by
  intro h;have:=congrArg List.length h;rw[aoJ] at this;simp at this;omega
 rw[anW hne] at hX;simp only[show ai ((a:Int) < (s.length:Int))=au from anZ om,i_t];refine aH ho (Hr s a w2 h0 om) ?_;rintro _ w3 rfl ho;have hal:bg (s.drop a)<=128∧bg (s.drop a)<=(s.drop a).length:=ni _ _ _;rw[aoJ] at hal;have hg:(s.drop a).getD 0 0=s[a]:=by rw[aoE,aqG,apO,aoI h0];rfl
 try simp only[rs]
 by_cases h3:3<=bg (s.drop a)
 ·rw[anX h3,hg] at hX;simp only[show ai ((3:Int)<=(bg (s.drop a):Int))=au from anZ om,i_t];generalize bg (s.drop a)=n at *
  try simp only[rs]
  rw[aA om om,show (257:Int) - (n:Int)=((257 - n:Nat):Int) by omega];refine aC (SF aoP apH (257 - n) w3) |>.mpr ?_;rw[s_ix (c:=s[a]) aoD om (by rw[aoF];exact aoI h0)];refine alK _ _ ho λb w4 ho=>?_;refine aX 1 aoK elU8 dc ho rfl (ho.sl 0 rfl 1 2 2 rfl) aW om om λv' w5 ho=>?_
  try simp only[rs]
  rw[aA om om,show (a:Int)+n=((a+n:Nat):Int) by omega];rw[arE,<-aoL] at hX;refine aQ ⟨a+n,v',_,rfl,om,?_,⟨f,om,hX⟩,?_⟩ (by simp[n1,RowKit.intOf];omega)
  ·rw[aoC];show l.length+2<=_;omega
  ·rw[cQ];exact ho.tail
 rw[anW h3] at hX;simp only[show ai ((3:Int)<=(bg (s.drop a):Int))=aq from anY om,i_f];have hlit:=pj 128 1 (s.drop a) (by rw[aoJ];omega);change 1<=cq (s.drop a)∧cq (s.drop a)<=_ at hlit;rw[aoJ] at hlit;have hl0:ie 129 0 (s.drop a)=cq (s.drop a):=by
  rw[ie,anX ⟨by rw[aoJ];omega,by rw[aqH];omega⟩];rfl
 rw[<-hl0] at hX hlit;generalize hlt:ie 129 0 (s.drop a)=m at hX hlit;refine loop (λvs W=>∃i:Nat,vs=[.int .i64 (i:Int)]∧i<=m∧ie (129 - i) i (s.drop a)=m∧Own w W [outR v l]) (λvs _=>m - n0 vs) ⟨0,rfl,om,hlt,ho⟩ ?_;clear ho hlt;rintro vs w4 ⟨i,rfl,hi,hlt,ho⟩ _;simp only[pD,gd,rs,iN,dx,bnx,gtx,ctx,etx];rw[show 129 - i=(128 - i)+1 by omega,ie,aoJ,arE] at hlt;have next:m=i->∀(v':ao) (W:ak),Own w W [outR v' (l++[UInt8.ofNat (i - 1)]++(s.drop a).take i)]->It (λvs W=>∃(a:Nat) (v:ao) (l:List UInt8),vs=[v,.int .i64 (a:Int)]∧a<=s.length∧l.length<=2*a∧(∃f,s.length - a < f∧l++fq f (s.drop a)=gf s)∧Own w W [outR v l]) (λvs _=>s.length - n1 vs) [v,.int .i64 (a:Int)] w2 [v',.int .i64 ((a+i:Nat):Int)] W:=by
  intro hmi v' W ho;subst hmi;rw[arE,<-aoL,<-aoL] at hX;refine aQ ⟨a+m,v',_,rfl,om,?_,⟨f,om,hX⟩,ho⟩ (by simp[n1,RowKit.intOf];omega);rw[aoC,aoC,aoH,apL];omega
 by_cases h1:(i:Int) < 128
 case neg=>
  rw[anW om] at hlt;simp only[h1,aoB,gd,rs,i_f];refine UY (by first|rfl|(rw[aA om om];first|done|rfl|(congr 1;omega))|(congr 1;omega)) ho om om om hs om (next hlt.symm)
 simp only[h1,aoA,gd,rs];rw[cL aoD,aA om om]
 try simp only[rs]
 by_cases h2:(a:Int)+(i:Int) < (s.length:Int)
 case neg=>
  rw[anW om] at hlt;simp only[h2,aoB,gd,rs,i_f];refine UY (by first|rfl|(rw[aA om om];first|done|rfl|(congr 1;omega))|(congr 1;omega)) ho om om om hs om (next hlt.symm)
 simp only[h2,aoA,gd,rs];rw[aA om om,show (a:Int)+(i:Int)=((a+i:Nat):Int) by omega];refine aH ho (Hr s (a+i) w4 om om) ?_;rintro _ w5 rfl ho
 try simp only[rs]
 by_cases h4:bg (s.drop (a+i)) < 3
 ·rw[anX ⟨om,h4⟩] at hlt;simp only[show ai ((bg (s.drop (a+i)):Int) < 3)=au from anZ om,i_t]
  try simp only[rs]
  rw[aA om om];have hle:=(pj (128 - i) (i+1) (s.drop a) (by rw[aoJ];omega)).1;refine aQ ⟨i+1,rfl,om,by rw[show 129 - (i+1)=128 - i by omega];exact hlt,ho⟩ (by simp[n0,RowKit.intOf];omega)
 ·rw[anW (λh=>h4 h.2)] at hlt;simp only[show ai ((bg (s.drop (a+i)):Int) < 3)=aq from anY om,i_f];refine UY (by first|rfl|(rw[aA om om];first|done|rfl|(congr 1;omega))|(congr 1;omega)) ho om om om hs om (next hlt.symm)
end
section
open Go
theorem alF {p:UInt8->Prop}(h:∀n:Fin 256,p (UInt8.ofNat n.val))(c:UInt8):p c:=by
 have:=h ⟨c.toNat,c.toNat_lt⟩;simpa using this
theorem AS (c:UInt8):Lx.digit (Oc.hexD (c.toNat / 16))=((c.toNat / 16:Nat):Int)∧Lx.digit (Oc.hexD (c.toNat % 16))=((c.toNat % 16:Nat):Int)∧Oc.AF (Oc.hexD (c.toNat / 16))=aq∧Oc.AF (Oc.hexD (c.toNat % 16))=aq∧Oc.hexD (c.toNat / 16)≠62∧Oc.hexD (c.toNat % 16)≠62:=
 alF (p:=λc=>Lx.digit (Oc.hexD (c.toNat / 16))=((c.toNat / 16:Nat):Int)∧Lx.digit (Oc.hexD (c.toNat % 16))=((c.toNat % 16:Nat):Int)∧Oc.AF (Oc.hexD (c.toNat / 16))=aq∧Oc.AF (Oc.hexD (c.toNat % 16))=aq∧Oc.hexD (c.toNat / 16)≠62∧Oc.hexD (c.toNat % 16)≠62) (by decide +kernel) c
theorem ye (most:Nat)(r:List UInt8):∀(s out:List UInt8),out.length+s.length<=most->eh most (Oc.hex s++62::r) (-1) out=(out++s,0)
|[],out,_=>by
  show eh most (62::r) (-1) out=_;unfold eh;rw[anW dc,anX rfl,anX dc,aoV]
|c::s,out,h=>by
  obtain⟨h1,h2,h3,h4,h5,h6⟩:=AS c;have hlt:c.toNat < 256:=c.toNat_lt;simp only[apB] at h;have e:Oc.hex (c::s)++62::r=Oc.hexD (c.toNat / 16)::Oc.hexD (c.toNat % 16)::(Oc.hex s++62::r):=rfl;rw[e];unfold eh;rw[h3,anW dc,anW h5,h1,anW om,anX dc];unfold eh;rw[h4,anW dc,anW h6,h2,anW om,anW om,anW om];have e2:(16*((c.toNat / 16:Nat):Int)+((c.toNat % 16:Nat):Int)).toNat=c.toNat:=om
  rw[e2,UInt8.ofNat_toNat,ye most r s (out++[c]) (by simp;omega),aoL];rfl
theorem rz {D:Nat->List UInt8×Int}{s:List UInt8}{most:Int}(hm:(s.length:Int)<=most)(hs:s.length<=1048576)(h:∀m,s.length<=m->D m=(s,0)):ey D most=(s,0):=by
 unfold ey;rw[anW om,h _ om]
theorem aat {s:List UInt8}{most:Int}(hm:(s.length:Int)<=most)(hs:s.length<=1048576):ke (Oc.hex s++[62]) most=(s,0):=
 rz hm hs λm h=>by
  rw[ye m [] s [] (by simpa using h)];rfl
theorem yf (c:UInt8):∀(f:Nat) (s:List UInt8),s.take (fp c f s)=List.replicate (fp c f s) c
|0,s=>by unfold fp;simp
|f+1,[]=>by unfold fp;simp
|f+1,d::r=>by
  unfold fp;by_cases h:d=c
  ·rw[anX h,avH,yf c f r,atI,h]
  ·rw[anW h];simp
theorem yg (c:UInt8):∀n,Lib.repeatL [c] n=List.replicate n c
|0=>rfl
|n+1=>by
  show [c]++Lib.repeatL [c] n=_;rw[yg c n,atI];rfl
theorem sy {s:List UInt8}(h:s≠[]):1<=cq s∧cq s<=min s.length 128:=by
 have hl:0 < s.length:=arI.2 h;unfold cq;exact pj 128 1 s om
theorem sc (most:Nat):∀(g:Nat) (s out:List UInt8) (f:Nat),s.length < g->out.length+s.length<=most->(fq g s).length<=f->ep most f (fq g s) out=(out++s,0)
|0,_,_,_,h,_,_=>by omega
|g+1,s,out,f,hg,hm,hf=>by
  unfold fq at hf ⊢;by_cases h0:s=[]
  ·rw[anX h0] at hf ⊢;obtain⟨f,rfl⟩:∃j,f=j+1:=⟨f - 1,by simp at hf;omega⟩;rw[h0];unfold ep;simp
  rw[anW h0] at hf ⊢;have hl:0 < s.length:=arI.2 h0;have ha:=ni (s.getD 0 0) 128 s;by_cases h3:3<=bg s
  ·rw[anX h3] at hf ⊢;simp only[aoC,apB,arL] at hf;obtain⟨f,rfl⟩:∃j,f=j+1:=⟨f - 1,om⟩;have hrep:=yf (s.getD 0 0) 128 s;have et:s.take (bg s)++s.drop (bg s)=s:=apS ..
   have ld:(s.drop (bg s)).length=s.length - bg s:=aoJ;change bg s<=128∧bg s<=s.length at ha;change s.take (bg s)=List.replicate (bg s) (s.getD 0 0) at hrep;have hc:(UInt8.ofNat (257 - bg s)).toNat=257 - bg s:=by
    rw[asI,aqA om]
   have ih:=sc most g (s.drop (bg s)) (out++s.take (bg s)) f om (by rw[aoC,aoH];omega) om;rw[aoL,et] at ih;rw[<-ih];show ep most (f+1) (UInt8.ofNat (257 - bg s)::([s.getD 0 0]++fq g (s.drop (bg s)))) out=_
   conv=>lhs;unfold ep
   dsimp only;rw[hc,anW om,anW om,anW sm,anW om,show 257 - (257 - bg s)=bg s by omega];have e1:([s.getD 0 0]++fq g (s.drop (bg s))).take 1=[s.getD 0 0]:=rfl;have e2:([s.getD 0 0]++fq g (s.drop (bg s))).drop 1=fq g (s.drop (bg s)):=rfl;rw[e1,e2,yg,hrep]
  ·rw[anW h3] at hf ⊢;simp only[aoC,apB,arL] at hf;obtain⟨f,rfl⟩:∃j,f=j+1:=⟨f - 1,om⟩;have hlit:=sy h0;have et:s.take (cq s)++s.drop (cq s)=s:=apS ..
   have lt:(s.take (cq s)).length=cq s:=by rw[aoH];omega
   have ld:(s.drop (cq s)).length=s.length - cq s:=aoJ;have hc:(UInt8.ofNat (cq s - 1)).toNat=cq s - 1:=by
    rw[asI,aqA om]
   have ih:=sc most g (s.drop (cq s)) (out++s.take (cq s)) f om (by rw[aoC];omega) om;rw[aoL,et] at ih;rw[<-ih];show ep most (f+1) (UInt8.ofNat (cq s - 1)::(s.take (cq s)++fq g (s.drop (cq s)))) out=_
   conv=>lhs;unfold ep
   dsimp only;rw[hc,show cq s - 1+1=cq s by omega,anW om,anX om,anW (by rw[aoC];omega),anW om];have e1:(s.take (cq s)++fq g (s.drop (cq s))).take (cq s)=s.take (cq s):=aqY lt;have e2:(s.take (cq s)++fq g (s.drop (cq s))).drop (cq s)=fq g (s.drop (cq s)):=List.drop_left' lt;rw[e1,e2]
def dw (p:List UInt8):Nat:=((p.getD 0 0).toNat*256+(p.getD 1 0).toNat)*65536+(p.getD 2 0).toNat*256+(p.getD 3 0).toNat
def je (p:List UInt8):List UInt8:=if dw p=0∧p.length=4 then [122] else (List.range (p.length+1)).map λk=>UInt8.ofNat (33+dw p / ij.getD k 0 % 85)
def iz:Nat->List UInt8->List UInt8
|0,_=>[]
|f+1,s=>if s=[] then [126,62] else je (s.take 4)++iz f (s.drop 4)
def kh (s:List UInt8):List UInt8:=iz (s.length+1) s
theorem yh (n:Nat)(h:n < 85):Oc.AF (UInt8.ofNat (33+n))=aq∧(UInt8.ofNat (33+n)).toNat=33+n∧(UInt8.ofNat (33+n) - 33).toNat=n∧UInt8.ofNat (33+n) - 33=UInt8.ofNat n:=by
 have h1:∀n:Fin 85,Oc.AF (UInt8.ofNat (33+n.val))=aq∧(UInt8.ofNat (33+n.val)).toNat=33+n.val∧(UInt8.ofNat (33+n.val) - 33).toNat=n.val∧UInt8.ofNat (33+n.val) - 33=UInt8.ofNat n.val:=by decide +kernel
 exact h1 ⟨n,h⟩
theorem jv {n:Nat}(h:n < 85){r g out:List UInt8}(hg:g.length < 4):dj mo (UInt8.ofNat (33+n)::r) g out=dj mo r (g++[UInt8.ofNat n]) out:=by
 obtain⟨h1,h2,h3,h4⟩:=yh n h
 conv=>lhs;unfold dj
 rw[h1,anW dc,h2,anW om,anX ⟨om,om⟩,anX om,h4]
theorem aau {n:Nat}(h:n < 85){r g out:List UInt8}(hg:g.length=4)(hv:br (g++[UInt8.ofNat n]) < 4294967296)(hm:out.length+4<=mo):dj mo (UInt8.ofNat (33+n)::r) g out=dj mo r [] (out++bj (br (g++[UInt8.ofNat n]))):=by
 obtain⟨h1,h2,h3,h4⟩:=yh n h
 conv=>lhs;unfold dj
 rw[h1,anW dc,h2,anW om,anX ⟨om,om⟩,anW om,h4,anW om,anW om]
theorem pn (p:List UInt8):dw p < 4294967296:=by
 have h0:=(p.getD 0 0).toNat_lt;have h1:=(p.getD 1 0).toNat_lt;have h2:=(p.getD 2 0).toNat_lt;have h3:=(p.getD 3 0).toNat_lt;unfold dw;omega
theorem AT {p:List UInt8}(hp:p.length=4):∃a b c d,p=[a,b,c,d]:=by
 rcases p with _|⟨a,_|⟨b,_|⟨c,_|⟨d,_|⟨e,t⟩⟩⟩⟩⟩
 case cons.cons.cons.cons.nil=>exact⟨a,b,c,d,rfl⟩
 all_goals simp at hp
theorem kz {n:Nat}{x:UInt8}(h:n % 256=x.toNat):UInt8.ofNat n=x:=by
 rw[<-asP,asI];exact h
theorem A0 {p:List UInt8}(hp:p.length=4){v:Nat}(hv:v=dw p):bj v=p:=by
 obtain⟨a,b,c,d,rfl⟩:=AT hp;have h0:=a.toNat_lt;have h1:=b.toNat_lt;have h2:=c.toNat_lt;have h3:=d.toNat_lt;have e:dw [a,b,c,d]=(a.toNat*256+b.toNat)*65536+c.toNat*256+d.toNat:=rfl;show [UInt8.ofNat (v / 16777216),UInt8.ofNat (v / 65536),UInt8.ofNat (v / 256),UInt8.ofNat v]=_;rw[hv,e];rw[kz (x:=a) om,kz (x:=b) om,kz (x:=c) om,kz (x:=d) om]
theorem sd (v:Nat):bj v=[UInt8.ofNat (v / 16777216),UInt8.ofNat (v / 65536),UInt8.ofNat (v / 256),UInt8.ofNat v]:=rfl
theorem yr (a b c d e:UInt8):br [a,b,c,d,e]=(((a.toNat*85+b.toNat)*85+c.toNat)*85+d.toNat)*85+e.toNat:=rfl
theorem yt (a b c d:UInt8):br [a,b,c,d]=(((a.toNat*85+b.toNat)*85+c.toNat)*85+d.toNat)*85+84:=rfl
theorem yu (a b c:UInt8):br [a,b,c]=(((a.toNat*85+b.toNat)*85+c.toNat)*85+84)*85+84:=rfl
theorem yv (a b:UInt8):br [a,b]=(((a.toNat*85+b.toNat)*85+84)*85+84)*85+84:=rfl
theorem il {n:Nat}(h:n < 85):(UInt8.ofNat n).toNat=n:=by rw[asI,aqA om]
theorem aav {v:Nat}(hv:v < 4294967296):br [UInt8.ofNat (v / 52200625 % 85),UInt8.ofNat (v / 614125 % 85),UInt8.ofNat (v / 7225 % 85),UInt8.ofNat (v / 85 % 85),UInt8.ofNat (v / 1 % 85)]=v:=by
 have h:∀n:Nat,n % 85 < 85:=λn=>aqW _ dc;rw[yr,il (h _),il (h _),il (h _),il (h _),il (h _),Nat.div_one];have e1:v / 7225=v / 85 / 85:=by rw[arA]
 have e2:v / 614125=v / 85 / 85 / 85:=by rw[arA,arA]
 have e3:v / 52200625=v / 85 / 85 / 85 / 85:=by rw[arA,arA,arA]
 rw[e1,e2,e3];omega
theorem se {g out p:List UInt8}(h1:g.length=p.length+1)(h2:0 < p.length)(hv:br g < 4294967296)(hm:out.length+p.length<=mo)(ht:(bj (br g)).take p.length=p):dj mo [126,62] g out=(out++p,0):=by
 unfold dj;rw[anW dc,anW (λh=>absurd h.1 dc),anW (λh=>absurd h.2 dc),anX dc];unfold ix;rw[anW sm,anW (λh=>h.elim (λh=>h rfl) (λh=>by omega)),anW om,anW om,anW om,h1,asU,ht]
theorem yi (mo:Nat):∀(f:Nat) (s out:List UInt8),s.length < f->out.length+s.length<=mo->dj mo (iz f s) [] out=(out++s,0)
|0,_,_,h,_=>by omega
|f+1,s,out,hf,hm=>by
  unfold iz;by_cases h0:s=[]
  ·rw[anX h0,h0,aoV];unfold dj;rw[anW dc,anW (λh=>absurd h.1 dc),anW (λh=>absurd h.2 dc),anX dc];unfold ix;rw[anW sm,anW (λh=>h.elim (λh=>h rfl) (λh=>absurd h dc)),anX (show ([]:List UInt8).length=0 from rfl)]
  rw[anW h0];have hl:0 < s.length:=arI.2 h0;have hmod:∀n:Nat,n % 85 < 85:=λn=>aqW _ dc;by_cases h4:4<=s.length
  ·have et:s.take 4++s.drop 4=s:=apS ..
   have lt:(s.take 4).length=4:=by rw[aoH];omega
   have ld:(s.drop 4).length=s.length - 4:=aoJ;have ih:=yi mo f (s.drop 4) (out++s.take 4) om (by rw[aoC];omega);rw[aoL,et] at ih;have hv:=pn (s.take 4);have h4v:=A0 lt rfl;unfold je;by_cases hz:dw (s.take 4)=0∧(s.take 4).length=4
   ·rw[anX hz];rw[hz.1] at h4v;have e:s.take 4=[0,0,0,0]:=by rw[<-h4v];rfl
    rw[e] at ih;show dj mo (122::iz f (s.drop 4)) [] out=_;unfold dj;rw[anW dc,anX ⟨dc,rfl⟩,anW om,ih]
   ·rw[anW hz,lt];generalize hV:dw (s.take 4)=v at hv h4v;show dj mo (UInt8.ofNat (33+v / 52200625 % 85)::UInt8.ofNat (33+v / 614125 % 85)::UInt8.ofNat (33+v / 7225 % 85)::UInt8.ofNat (33+v / 85 % 85)::UInt8.ofNat (33+v / 1 % 85)::iz f (s.drop 4)) [] out=_;rw[jv (hmod _) dc,jv (hmod _) sm,jv (hmod _) sm,jv (hmod _) sm];have hw:=aav hv;rw[aau (hmod _) sm (by show br [_,_,_,_,_] < _;rw[hw];exact hv) om];show dj mo _ [] (out++bj (br [_,_,_,_,_]))=_;rw[hw,h4v,ih]
  ·have et:s.take 4=s:=apE om;have ed:s.drop 4=[]:=auH om;have ef:iz f []=[126,62]:=by
    obtain⟨f,rfl⟩:∃j,f=j+1:=⟨f - 1,om⟩;unfold iz;rw[anX rfl]
   rw[et,ed,ef];unfold je;rw[anW om];rcases s with _|⟨a,_|⟨b,_|⟨c,_|⟨d,t⟩⟩⟩⟩
   ·exact absurd rfl h0
   ·have ha:=a.toNat_lt;have hv:dw [a]=a.toNat*16777216:=by show (a.toNat*256+0)*65536+0*256+0=_;omega
    rw[hv];obtain⟨v,hn⟩:∃v,v=a.toNat*16777216:=⟨_,rfl⟩;rw[<-hn];show dj mo (UInt8.ofNat (33+v / 52200625 % 85)::UInt8.ofNat (33+v / 614125 % 85)::[126,62]) [] out=_;rw[jv (hmod _) dc,jv (hmod _) sm];have e:br [UInt8.ofNat (v / 52200625 % 85),UInt8.ofNat (v / 614125 % 85)]=v / 614125*614125+614124:=by
     rw[yv,il (hmod _),il (hmod _)];have e3:v / 52200625=v / 614125 / 85:=by rw[arA]
     rw[e3];omega
    have hx1:v<=v / 614125*614125+614124:=om
    have hx2:v / 614125*614125+614124 < v+614125:=om
    generalize v / 614125*614125+614124=X at e hx1 hx2;refine se rfl sm ?_ hm ?_
    ·show br [_,_] < _;rw[e];omega
    ·show (bj (br [_,_])).take 1=_;rw[e,sd,kz (x:=a) om];rfl
   ·have ha:=a.toNat_lt;have hb:=b.toNat_lt;have hv:dw [a,b]=(a.toNat*256+b.toNat)*65536:=by show (a.toNat*256+b.toNat)*65536+0*256+0=_;omega
    rw[hv];generalize hn:(a.toNat*256+b.toNat)*65536=v;show dj mo (UInt8.ofNat (33+v / 52200625 % 85)::UInt8.ofNat (33+v / 614125 % 85)::UInt8.ofNat (33+v / 7225 % 85)::[126,62]) [] out=_;rw[jv (hmod _) dc,jv (hmod _) sm,jv (hmod _) sm];have e:br [UInt8.ofNat (v / 52200625 % 85),UInt8.ofNat (v / 614125 % 85),UInt8.ofNat (v / 7225 % 85)]=v / 7225*7225+7224:=by
     rw[yu,il (hmod _),il (hmod _),il (hmod _)];have e2:v / 614125=v / 7225 / 85:=by rw[arA]
     have e3:v / 52200625=v / 7225 / 85 / 85:=by rw[arA,arA]
     rw[e2,e3];omega
    have hx1:v<=v / 7225*7225+7224:=om
    have hx2:v / 7225*7225+7224 < v+7225:=om
    generalize v / 7225*7225+7224=X at e hx1 hx2;refine se rfl sm ?_ hm ?_
    ·show br [_,_,_] < _;rw[e];omega
    ·show (bj (br [_,_,_])).take 2=_;rw[e,sd,kz (x:=a) om,kz (x:=b) om];rfl
   ·have ha:=a.toNat_lt;have hb:=b.toNat_lt;have hc:=c.toNat_lt;have hv:dw [a,b,c]=(a.toNat*256+b.toNat)*65536+c.toNat*256:=by show (a.toNat*256+b.toNat)*65536+c.toNat*256+0=_;omega
    rw[hv];generalize hn:(a.toNat*256+b.toNat)*65536+c.toNat*256=v;show dj mo (UInt8.ofNat (33+v / 52200625 % 85)::UInt8.ofNat (33+v / 614125 % 85)::UInt8.ofNat (33+v / 7225 % 85)::UInt8.ofNat (33+v / 85 % 85)::[126,62]) [] out=_;rw[jv (hmod _) dc,jv (hmod _) sm,jv (hmod _) sm,jv (hmod _) sm];have e:br [UInt8.ofNat (v / 52200625 % 85),UInt8.ofNat (v / 614125 % 85),UInt8.ofNat (v / 7225 % 85),UInt8.ofNat (v / 85 % 85)]=v / 85*85+84:=by
     rw[yt,il (hmod _),il (hmod _),il (hmod _),il (hmod _)];have e1:v / 7225=v / 85 / 85:=by rw[arA]
     have e2:v / 614125=v / 85 / 85 / 85:=by rw[arA,arA]
     have e3:v / 52200625=v / 85 / 85 / 85 / 85:=by rw[arA,arA,arA]
     rw[e1,e2,e3];omega
    have hx1:v<=v / 85*85+84:=om
    have hx2:v / 85*85+84 < v+85:=om
    generalize v / 85*85+84=X at e hx1 hx2;refine se rfl sm ?_ hm ?_
    ·show br [_,_,_,_] < _;rw[e];omega
    ·show (bj (br [_,_,_,_])).take 3=_;rw[e,sd,kz (x:=a) om,kz (x:=b) om,kz (x:=c) om];rfl
   ·simp at h4
theorem aaw {s:List UInt8}{most:Int}(hm:(s.length:Int)<=most)(hs:s.length<=1048576):me (kh s) most=(s,0):=
 rz hm hs λm h=>by
  unfold kh;rw[yi m (s.length+1) s [] om (by simpa using h)];rfl
theorem aax {s:List UInt8}{most:Int}(hm:(s.length:Int)<=most)(hs:s.length<=1048576):mc (gf s) most=(s,0):=
 rz hm hs λm h=>by
  unfold gf;rw[sc m (s.length+1) s [] _ om (by simpa using h) (Nat.le_succ _)];rfl
end
section
open Eng Go.RowKit
def iw (p:List UInt8):Nat->Nat
|0=>0
|i+1=>iw p i*256+(p.getD i 0).toNat
theorem qi (p:List UInt8):iw p 4=dw p:=by
 simp only[iw,dw];omega
theorem tg (p:List UInt8):∀i,i<=4->iw p i < 4294967296
|0,_=>by unfold iw;omega
|1,_=>by simp only[iw];have:=(p.getD 0 0).toNat_lt;omega
|2,_=>by simp only[iw];have:=(p.getD 0 0).toNat_lt;have:=(p.getD 1 0).toNat_lt;omega
|3,_=>by simp only[iw];have:=(p.getD 0 0).toNat_lt;have:=(p.getD 1 0).toNat_lt;have:=(p.getD 2 0).toNat_lt;omega
|4,_=>by rw[qi];exact pn p
theorem Xa (c:UInt8):DoX ah (fA 5 147 (.int .u8 (c.toNat:Int))) w PK K=K (.int .u64 (c.toNat:Int)) w:=by
 have h:=c.toNat_lt;rw[aC (aO krx auB),nW om]
theorem Pw (p:List UInt8)(w:ak)(hp:p.length<=4):Ret ah 133 #[.string ⟨p.toArray⟩] w (λv w'=>v=.int .u64 (dw p:Int)∧w=w'):=by
 refine aK λK hK=>yA ?_;unfold pF nz;refine loop (λvs W=>∃i:Nat,vs=[.int .u64 (iw p i:Int),.int .i64 (i:Int)]∧i<=4∧W=w) (λvs _=>4 - n1 vs) ⟨0,rfl,om,rfl⟩ ?_;rintro vs w1 ⟨i,rfl,hi,rfl⟩ _;simp only[mC,gd,rs,nz];by_cases hlt:(i:Int) < 4
 case neg=>
  obtain rfl:i=4:=om
  simp only[hlt,aoB,i_f];exact hK _ _ ⟨by rw[qi],rfl⟩
 simp only[hlt,aoA,i_t];have hg:=tg p i hi;have hg1:=tg p (i+1) om;refine join λJ hJ=>?_;have next:∀n:Nat,n=iw p (i+1)->J [.int .u64 (n:Int)] w1:=by
  intro n hn;refine hJ _ _ λ_=>?_;simp only[lJ,gd,rs,nz];rw[aA om om,hn];exact aQ ⟨i+1,rfl,om,rfl⟩ (by simp[n1,RowKit.intOf];omega)
 rw[show (iw p i:Int)*256=((iw p i*256:Nat):Int) by omega,nW om,cL aoD]
 try simp only[rs]
 by_cases hl:i < p.length
 ·simp only[show ai ((i:Int) < (p.length:Int))=au from anZ om,i_t];rw[s_ix (c:=p[i]) aoD om (by rw[aoF];exact aoI hl),Xa];have hc:=p[i].toNat_lt
  try simp only[rs]
  rw[show ((iw p i*256:Nat):Int)+(p[i].toNat:Int)=((iw p i*256+p[i].toNat:Nat):Int) by omega,nW om];refine next _ ?_
  rw[iw,aoE,aoI hl];rfl
 ·simp only[show ai ((i:Int) < (p.length:Int))=aq from anY om,i_f];refine next _ ?_
  rw[iw,aoE,aqB om];rfl
def lf (p:List UInt8)(k:Nat):UInt8:=UInt8.ofNat (33+dw p / ij.getD k 0 % 85)
theorem nm (p:List UInt8):je p=if dw p=0∧p.length=4 then [122] else (List.range (p.length+1)).map (lf p):=rfl
theorem yj {p:List UInt8}(hp:p.length<=4):(je p).length<=5:=by
 rw[nm];split
 ·decide
 ·simp;omega
theorem PL (s:List UInt8)(w:ak)(hs:s.length<=1000000):Ret ah 62 #[.string ⟨s.toArray⟩] w (λv w'=>v=.string ⟨(kh s).toArray⟩∧Below w.heap.size w w'):=by
 refine aK λK hK=>Aq ?_;unfold qS nz;have ho:Own w w [outR nilS []]:=(Own.start w).nilU 5 1;refine loop (λvs W=>∃(a:Nat) (v:ao) (l:List UInt8),vs=[v,.int .i64 (a:Int)]∧a<=s.length+4∧l.length<=5*a∧(∃f,s.length - a < f∧l++iz f (s.drop a)=kh s)∧Own w W [outR v l]) (λvs _=>s.length - n1 vs) ⟨0,nilS,[],rfl,om,sm,⟨s.length+1,om,by rw[apK];rfl⟩,ho⟩ ?_;clear ho;rintro vs w2 ⟨a,v,l,rfl,ha,hl,⟨f,hf,hX⟩,ho⟩ _;simp only[nF,gd,nz];obtain⟨f,rfl⟩:∃f',f=f'+1:=⟨f - 1,om⟩;unfold iz at hX;rw[cL aoD]
 try simp only[rs]
 by_cases h0:a < s.length
 case neg=>
  rw[anX (apR om)] at hX;simp only[show ai ((a:Int) < (s.length:Int))=aq from anY om,i_f];rw[gO aoK aoP aoD (cS (ho.at_ 0 rfl)),show (Value.string ⟨#[126,62]⟩)=.string ⟨([126,62]:List UInt8).toArray⟩ from rfl,SX (by simp;omega),hX];exact hK _ _ ⟨rfl,ho.done⟩
 have hne:¬s.drop a=[]:=by
  intro h;have:=congrArg List.length h;rw[aoJ] at this;simp at this;omega
 rw[anW hne,arE,<-aoL] at hX;simp only[show ai ((a:Int) < (s.length:Int))=au from anZ om,i_t];refine join λJ hJ=>?_
 try simp only[rs]
 rw[aA om om,cL aoD,GP,My aoD om om om,aoF,show (min ((a:Int)+4) (s.length:Int)).toNat - a=min 4 (s.length - a) by omega];have hp:(s.drop a).take (min 4 (s.length - a))=(s.drop a).take 4:=by
  rw[List.take_eq_take_iff,aoJ];omega
 rw[hp];have hpl:((s.drop a).take 4).length=min 4 (s.length - a):=by rw[aoH,aoJ]
 generalize (s.drop a).take 4=p at hX hpl;have next:∀(v':ao) (W:ak),Own w W [outR v' (l++je p)]->J [v'] W:=by
  intro v' W ho;refine hJ _ _ λ_=>?_;simp only[oO,gd,rs,nz];rw[aA om om];have:=yj (p:=p) om;exact aQ ⟨a+4,v',_,rfl,om,by rw[aoC];omega,⟨f,om,hX⟩,ho⟩ (by simp[n1,RowKit.intOf];omega)
 rw[nm] at next
 refine c_eq (Pw p w2 om) ?_;have hv:=pn p;generalize hvv:dw p=n at *
 try simp only[rs]
 have rest:¬(n=0∧p.length=4)->LoopX [v,.int .u64 52200625,.int .i64 0] w2 (λvs3 w N3=>∀_:Sg,gR (vs3.getD 0 undef) (.string ⟨p.toArray⟩) (.int .u64 (n:Int)) (vs3.getD 1 undef) (vs3.getD 2 undef) w J N3 K):=by
  intro hz;rw[anW hz] at next
  refine loop (λvs W=>∃(k q:Nat) (v:ao),vs=[v,.int .u64 (q:Int),.int .i64 (k:Int)]∧k<=p.length+1∧q<=52200625∧(k<=4->q=ij.getD k 0)∧Own w W [outR v (l++(List.range k).map (lf p))]) (λvs _=>p.length+1 - n2 vs) ⟨0,52200625,v,rfl,om,om,λ_=>rfl,by rw[List.range_zero,asY,aoV];exact ho⟩ ?_;clear ho;rintro vs w3 ⟨k,q,v,rfl,hk,hq,hqk,ho⟩ _;simp only[gR,gd,rs,nz];rw[cL aoD]
  try simp only[rs]
  by_cases hlk:(k:Int)<=(p.length:Int)
  case neg=>
   obtain rfl:k=p.length+1:=om
   simp only[hlk,aoB,i_f];exact next v w3 ho
  simp only[hlk,aoA,i_t];have hk4:k<=4:=om
  have hq0:0 < q:=by
   rw[hqk hk4];rcases lt5 (show k < 5 by omega) with rfl|rfl|rfl|rfl|rfl<;>decide
  have hd:n / q<=n:=arY _ _;rw[Ao om,show ((n:Nat):Int).tdiv (q:Int)=((n / q:Nat):Int) from rfl,nW om,CR dc,show ((n / q:Nat):Int).tmod 85=((n / q % 85:Nat):Int) from rfl];have hm:n / q % 85 < 85:=aqW _ dc
  try simp only[rs]
  rw[show (33:Int)+((n / q % 85:Nat):Int)=((33+n / q % 85:Nat):Int) by omega,nW om];refine aC (aO krx aoP) |>.mpr ?_;rw[lA];refine Dc _ ho λb w4 ho=>?_;have hrl:((List.range k).map (lf p)).length=k:=sm
  refine aX 1 aoK elU8 dc ho rfl (eG (ho.at_ 0 rfl) dc rfl) aW (by rw[aoC,hrl];omega) (by rw[aoC,hrl];omega) λv' w5 ho=>?_;rw[Ao dc,show ((q:Nat):Int).tdiv 85=((q / 85:Nat):Int) from rfl,nW om]
  try simp only[rs]
  rw[aA om om];refine aQ ⟨k+1,q / 85,v',rfl,om,om,λh=>?_,?_⟩ (by simp[n2,RowKit.intOf];omega)
  ·rw[hqk hk4];rcases lt5 (show k < 5 by omega) with rfl|rfl|rfl|rfl|rfl
   ·decide
   ·decide
   ·decide
   ·decide
   ·omega
  ·rw[asS,apX,<-aoL,cQ];have e:(List.map (lf p) [k])=[UInt8.ofNat (33+n / q % 85)]:=by
    rw[List.map_singleton];unfold lf;rw[hvv,<-hqk hk4]
   rw[e];exact ho.tail
 by_cases hz:(n:Int)=0
 ·simp only[hz,aoA,gd,rs];rw[cL aoD]
  try simp only[rs]
  by_cases h4:(p.length:Int)=4
  ·simp only[h4,aoA,i_t];rw[anX ⟨om,om⟩] at next
   refine Dc 122 ho λb w4 ho=>?_;refine aX 1 aoK elU8 dc ho rfl (eG (ho.at_ 0 rfl) dc rfl) aW om om λv' w5 ho=>?_;refine next v' w5 ?_
   rw[cQ];exact ho.tail
  ·simp only[h4,aoB,i_f];have:=rest (λh=>h4 om);rw[hz] at this;exact this
 ·simp only[hz,aoB,gd,rs,i_f];exact rest (λh=>hz om)
end
section
open Eng
def iF(t2 t3 w)(K:KT):=nz f180 7 [] [] [] (zg [2,3] [t2,t3]) w K
def jL(t0 t1 w)(K:KT):=nz f180 1 [] [(6,[],λs v j w f=>iF (s 2) (s 3) w K)] [] (zg [0,1] [t0,t1]) w K
theorem rL:jL t0 t1 w k0->Calls ah 180 #[t0,t1] w k0:=cz [(3,[])] [] func180
def gD(t0 t1 t2 t4 w)(N1:JT)(K:KT):=nz f225 5 [N1] [nh 3 [4]] [(3,7)] (zg [0,1,2,4] [t0,t1,t2,t4]) w K
def iD(t0 t1 t2 w)(K:KT):=nz f225 1 [] [(3,[4],λs v j w f=>gD (s 0) (s 1) (s 2) (vg v 0) w (f 0) K)] [] (zg [0,1,2] [t0,t1,t2]) w K
theorem oS:iD t0 t1 t2 w k0->Calls ah 225 #[t0,t1,t2] w k0:=cz [] [(1,[4])] func225
end
section
open Eng Go.RowKit
theorem ahG {a c:Nat}:(mEq .eql 192 xo yo (.agg #[.int .u8 (a:Int),.int .u8 (b:Int),.int .u8 (c:Int),.int .u8 (d:Int)]) (.agg #[.int .u8 0,.int .u8 0,.int .u8 0,.int .u8 0])).run ah w=.ok (.value (.bool (ai (a=0∧b=0∧c=0∧d=0)))) w:=by
 have hg:Tryz.prog.eqGuardType Tryz.prog.depth 192=false:=krx
 refine bK ?_;rw[Sem.run_bind,run_eqGuard_agg w .eql 192 xo yo _ _ hg];simp only[Result.andThen_ok];cases a with
|succ a=>
  rw[anY om];kernel_rfl
|zero=>
  cases b with
 |succ b=>
   rw[anY om];kernel_rfl
 |zero=>
   cases c with
  |succ c=>
    rw[anY om];kernel_rfl
  |zero=>
    cases d with
   |succ d=>
     rw[anY om];kernel_rfl
   |zero=>
     rw[anZ om];kernel_rfl
def ckV (b n k:Nat):Value:=.slice (aw ⟨b,4*k,av⟩) (min 4 (n - 4*k)) (min 4 (n - 4*k))
def ckVs (b n:Nat):List Value:=(List.range ((n+3) / 4)).map (ckV b n)
theorem SL {n k:Nat}(h:4*k < n):(ckVs b n)[k]?=aw (ckV b n k):=by
 unfold ckVs;rw[asE,List.getElem?_range om];rfl
theorem MW (b n:Nat):(ckVs b n).length=(n+3) / 4:=by simp[ckVs]
theorem Wa (db n cap c1 c2:Nat)(hn:n<=cap)(hn2:n<=1000000):Seq ah (λ_=>True) 225 #[] #[.pointer (aw ⟨c1,0,av⟩),.pointer (aw ⟨c2,0,av⟩)]
  [.cells c2 [.int .i64 4] 3,.cells c1 [.slice (aw ⟨db,0,av⟩) n cap] 53] (ckVs db n):=by
 intro S w0 w1 L0 lb df M0 R K hI ho hR hy hend;show Calls ah 225 #[.func (.yield lb) #[] #[],.pointer (aw ⟨c1,0,av⟩),.pointer (aw ⟨c2,0,av⟩)] w1 K;refine oS ?_;unfold iD nz;have cell1:∀(M:List Ent) (W:ak),OwnS S w0 W (KS L0 lb df++(M++[.cells c2 [.int .i64 4] 3,.cells c1 [.slice (aw ⟨db,0,av⟩) n cap] 53]))->W.cell? ⟨c1,0,av⟩=aw (.slice (aw ⟨db,0,av⟩) n cap):=by
  intro M W h;have:Ent.cells c1 [.slice (aw ⟨db,0,av⟩) n cap] 53∈KS L0 lb df++(M++[.cells c2 [.int .i64 4] 3,.cells c1 [.slice (aw ⟨db,0,av⟩) n cap] 53]):=sm
  exact aI (h.mem this) (i:=0) rfl
 have cell2:∀(M:List Ent) (W:ak),OwnS S w0 W (KS L0 lb df++(M++[.cells c2 [.int .i64 4] 3,.cells c1 [.slice (aw ⟨db,0,av⟩) n cap] 53]))->W.cell? ⟨c2,0,av⟩=aw (.int .i64 4):=by
  intro M W h;have:Ent.cells c2 [.int .i64 4] 3∈KS L0 lb df++(M++[.cells c2 [.int .i64 4] 3,.cells c1 [.slice (aw ⟨db,0,av⟩) n cap] 53]):=sm
  exact aI (h.mem this) (i:=0) rfl
 refine loop (λvs W=>∃(k:Nat) (M:List Ent),vs=[.int .i64 ((4*k:Nat):Int)]∧k<=(n+3) / 4∧R k M∧OwnS S w0 W (KS L0 lb df++(M++[.cells c2 [.int .i64 4] 3,.cells c1 [.slice (aw ⟨db,0,av⟩) n cap] 53]))) (λvs _=>n - n0 vs) ⟨0,M0,rfl,om,hR,ho⟩ ?_;clear ho hR;rintro vs w2 ⟨k,M,rfl,hk,hR,ho⟩ _;simp only[gD,gd,rs,nz];rw[aS Ha (cell1 M w2 ho),bG aoK]
 try simp only[rs]
 by_cases hlt:((4*k:Nat):Int) < (n:Int)
 case neg=>
  simp only[hlt,aoB,i_f];exact hend M _ w2 (by rw[MW,show (n+3) / 4=k by omega];exact hR) ho
 simp only[hlt,aoA,i_t];refine cR (λW=>OwnS S w0 W (KS L0 lb df++(M++[.cells c2 [.int .i64 4] 3,.cells c1 [.slice (aw ⟨db,0,av⟩) n cap] 53]))) ho.drew ?_;refine q_at _ (λW h=>aB bP (cell2 M W h)) (q_at _ (λW h=>aB Ha (cell1 M W h)) ?_);have sz1:(Tryz.prog.info? 5).map (·.size)=aw 1:=krx
 refine q_do _ (λW=>dG aoK sz1 om om) ?_;refine q_do _ (λW=>Gr aoK) (q_do _ (λW=>Ol) ?_);rw[aoF,show min (4:Int) ((n - 4*k:Nat):Int)=((min 4 (n - 4*k):Nat):Int) by omega];intro w3 ho;rw[aS Ha (cell1 M w3 ho)]
 try simp only[rs]
 rw[aA om om];refine aC (G9 aoK sz1 om om om om) |>.mpr ?_;rw[aoF,show (((4*k:Nat):Int)+((min 4 (n - 4*k):Nat):Int)).toNat=4*k+min 4 (n - 4*k) by omega,fE om,show 0+4*k*1=4*k by omega,show 4*k+min 4 (n - 4*k) - 4*k=min 4 (n - 4*k) by omega];refine amL (args:=[ckV db n k]) (hy k (ckV db n k) M _ w3 (SL om) hR ho) ?_;rintro v w4 (⟨rfl,M',hR',ho'⟩|⟨rfl,hK⟩)
 ·rw[Oj,aqF,i_f,aS bP (cell2 M' w4 ho')]
  try simp only[rs]
  rw[aA om om];exact aQ ⟨k+1,M',by rw[show ((4*k:Nat):Int)+4=((4*(k+1):Nat):Int) by omega],om,hR',ho'⟩ (by simp[n0,RowKit.intOf];omega)
 ·rw[Oj,aqD,i_t];exact hK
section
variable {w:ak}{PK:PKT}{K:VWP}{S:Nat->Prop}{w0:ak}{L:List Ent}
theorem abG {n:Nat}(ho:OwnS S w0 w L)(k:∀c1 c2 W,OwnS S w0 W (.cells c2 [.int .i64 4] 3::.cells c1 [.slice (aw ⟨b,0,av⟩) n cap] 53::L)->K (.func (.func 225) #[] #[.pointer (aw ⟨c1,0,av⟩),.pointer (aw ⟨c2,0,av⟩)]) W) :
  CallX ah 180 #[.slice (aw ⟨b,0,av⟩) n cap,.int .i64 4] w PK K:=by
 refine eW (rL (k0:=RetK λv W=>∃c1 c2,v=.func (.func 225) #[] #[.pointer (aw ⟨c1,0,av⟩),.pointer (aw ⟨c2,0,av⟩)]∧OwnS S w0 W (.cells c2 [.int .i64 4] 3::.cells c1 [.slice (aw ⟨b,0,av⟩) n cap] 53::L)) ?_) (λe W ⟨v,he,c1,c2,hv,ho⟩=>by subst he;subst hv;exact k c1 c2 W ho);unfold jL nz;refine bD (λb=>.pointer (aw ⟨b,0,av⟩)) [.slice (aw ⟨b,0,av⟩) n cap] 53 (λ_=>by kernel_rfl) ho λc1 w1 ho=>?_;refine bD (λb=>.pointer (aw ⟨b,0,av⟩)) [.int .i64 4] 3 (λ_=>by kernel_rfl) ho λc2 w2 ho=>?_;refine join λJ hJ=>?_;rw[aS bP (ho.cell 0 rfl 0 rfl)];simp only[rs,show ai ((4:Int) < 1)=aq from rfl,i_f];refine hJ _ _ λ_=>?_;simp only[iF,gd,nz];rw[Cs];exact retK ⟨c1,c2,rfl,ho⟩
theorem XU {T E:TypeId}{l:List UInt8}(hs:P.underlying T=aw .string)(hd:P.underlying D=aw (.slice E))(he:P.underlying E=aw (.int .u8))(ho:OwnS S w0 w L)
  (k:∀b cap w',l.length<=cap->OwnS S w0 w' (.mkr E b l::L)->K (.slice (aw ⟨b,0,av⟩) l.length cap) w'):DoX P (fA T D (.string ⟨l.toArray⟩)) w PK K:=by
 have hr:=Go.Lib.run_convert_string_bytes (P:=P) w T D E ⟨l.toArray⟩ hs hd he;rw[cW] at hr;refine jV (bK hr) (k _ _ _ (grownCap_ge w l.length 0 E) ?_);refine ho.add ⟨?_,?_,?_,?_,?_⟩ (.mkr E w.heap.size l) ?_ (λk hk=>by cases hk;exact aoG _)
 ·unfold Go.Lib.bytesWorld World.freeze;split<;>rfl
 ·unfold Go.Lib.bytesWorld World.freeze;split<;>rfl
 ·unfold Go.Lib.bytesWorld World.freeze;split<;>rfl
 ·rw[Go.Lib.bytesWorld_size];omega
 ·intro j hj _;exact Go.Lib.bytesWorld_at_old w E _ j hj
 ·refine⟨(Array.replicate (grownCap w l.length 0 E - l.length) (Value.int .u8 0)).toList,?_⟩;have:=Go.Lib.bytesWorld_at_new w E ⟨l.toArray⟩;rw[this];have e:Go.Lib.bytesCells w E ⟨l.toArray⟩=(aG l++(Array.replicate (grownCap w l.length 0 E - l.length) (Value.int .u8 0)).toList).toArray:=by
   unfold Go.Lib.bytesCells;rw[cW];apply Array.ext';simp[aG]
  rw[e];simp[aG]
end
end
section
open Eng Go.RowKit
theorem orU {a:Nat}(hb:b < 2 ^ i)(h:a*2 ^ i+b < 18446744073709551616):bOr .u64 ((a*2 ^ i:Nat):Int) (b:Int)=((a*2 ^ i+b:Nat):Int):=by
 have e:=aeO (a:=a) hb;unfold bOr;show IntKind.wrap .u64 (((BitVec.ofInt 64 ((a*2 ^ i:Nat):Int) ||| BitVec.ofInt 64 (b:Int)).toNat:Nat):Int)=_;rw[BitVec.ofInt_natCast,BitVec.ofInt_natCast,BitVec.toNat_or,BitVec.toNat_ofNat,BitVec.toNat_ofNat,aqA om,aqA om,e];exact nW h
theorem shlU {a k:Nat}(hk:k<=40)(h:a*2 ^ k < 18446744073709551616):IntKind.u64.wrap ((a:Int)*2 ^ min ((k:Nat):Int).toNat IntKind.u64.bits)=((a*2 ^ k:Nat):Int):=by
 have e:min ((k:Nat):Int).toNat IntKind.u64.bits=k:=by
  show min ((k:Nat):Int).toNat 64=k;rw[aoF];omega
 rw[e,show (a:Int)*2 ^ k=((a*2 ^ k:Nat):Int) by push_cast;rfl];exact nW h
theorem YI (hi:i < 4):(mIA 192 (.pointer (aw ⟨b,0,av⟩)) (.int .i64 (i:Int))).run ah w=.ok (.value (.pointer (aw ⟨b,i,av⟩))) w:=by
 rcases (by omega:i=0∨i=1∨i=2∨i=3) with rfl|rfl|rfl|rfl<;>kernel_rfl
theorem aiP :(cM 192 (.pointer (aw ⟨b,0,av⟩)) av av av).run ah w=.ok (.value (.slice (aw ⟨b,0,av⟩) 4 4)) w:=krx
theorem alO (hh:h<=5):(cM 197 (.pointer (aw ⟨b,0,av⟩)) av (aw (.int .i64 (h:Int))) av).run ah w=.ok (.value (.slice (aw ⟨b,0,av⟩) h 5)) w:=by
 rcases (by omega:h=0∨h=1∨h=2∨h=3∨h=4∨h=5) with rfl|rfl|rfl|rfl|rfl|rfl<;>kernel_rfl
theorem ahA:aggN ah 192=aw 4:=krx
theorem sz1u:(Tryz.prog.info? 5).map (·.size)=aw 1:=krx
theorem afN:(Tryz.prog.info? 147).map (·.size)=aw 1:=krx
theorem nU64:eM ah 147=true:=krx
theorem akU {p:List UInt8}(hp:p.length<=4):aG p++(aG [0,0,0,0]).drop p.length=aG [p.getD 0 0,p.getD 1 0,p.getD 2 0,p.getD 3 0]:=by
 rcases p with _|⟨a,_|⟨b,_|⟨c,_|⟨d,_|⟨e,t⟩⟩⟩⟩⟩
 ·rfl
 ·rfl
 ·rfl
 ·rfl
 ·rfl
 ·simp at hp
theorem WJ (s:List UInt8)(M:Mem)(w:ak)(hpw:Pws M)(hM:M.has w)(hs:s.length<=1000000):RetM ah 117 #[.string ⟨s.toArray⟩] M w (λv _=>v=.string ⟨(kh s).toArray⟩):=by
 refine aU hM λK hK=>Ki ?_;unfold Cr iN dx alx cx;have ho:OwnS M.A w w [.mem M]:=OwnS.memS hM;refine bD (λb=>.pointer (aw ⟨b,0,av⟩)) [.pointer av,.slice av 0 0] 188 (λ_=>by kernel_rfl) ho λbb w1 ho=>?_;have hB0:∃v0,OwnS M.A w w1 [Bld bb v0 [],.mem M]:=⟨_,OwnS.Hl (l:=[]) (.inl rfl) O5 (ho.UU 5 1).swap⟩;obtain⟨v0,ho⟩:=hB0;refine XU aoD aoK aoP ho λdb cap w2 hcap ho=>?_;refine abG ho λc1 c2 w3 ho=>?_;refine range ho (show bZ ah 225=au by kernel_rfl) λL0 df lb w4 ho hy=>?_;refine Wa db s.length cap c1 c2 hcap hs M.A w w4 L0 lb df [.mkr 5 db s,Bld bb v0 [],.mem M]
  (λk Ms=>∃(v:ao) (l:List UInt8) (f:Nat),Ms=[.mkr 5 db s,Bld bb v l,.mem M]∧s.length - 4*k < f∧l++iz f (s.drop (4*k))=kh s∧l.length<=5*k) _ (λ_ _ _=>trivial) ?_ ⟨v0,[],s.length+1,rfl,om,by rw[apK];rfl,sm⟩ ?_ ?_
 ·refine ho.perm ?_;show List.Perm (_::_::([Ent.cells c2 _ _,Ent.cells c1 _ _]++[_,_,_])) (_::_::([_,_,_]++[_,_]));exact List.Perm.cons _ (List.Perm.cons _ auD)
 ·rintro k v Ms X W hk ⟨u,l,f,rfl,hf,hX,hll⟩ ho;have hkl:k < (s.length+3) / 4:=by
   have:=(aoX.1 hk).1
   rwa [MW] at this
  have hk4:4*k < s.length:=om
  rw[SL hk4] at hk;have hk:=arH hk;subst hk;have ho:OwnS M.A w W (.obj lb (lp L0 .ready av)::.obj df (.deferred (aw []))::.mkr 5 db s::Bld bb u l::.mem M::X):=ho;refine hy _ W _ (ho.at_ 0 rfl) rfl ?_;refine anR 0 ho rfl λW3 ho=>?_;simp only[List.getD_cons_zero];obtain⟨f,rfl⟩:∃f',f=f'+1:=⟨f - 1,om⟩;have hne:¬s.drop (4*k)=[]:=by
   intro h;have:=congrArg List.length h;rw[aoJ] at this;simp at this;omega
  rw[iz,anW hne,arE,<-aoL,show 4*k+4=4*(k+1) by omega] at hX;have hpl:((s.drop (4*k)).take 4).length=min 4 (s.length - 4*k):=by rw[aoH,aoJ]
  have hpg:∀j,j < min 4 (s.length - 4*k)->((s.drop (4*k)).take 4)[j]?=s[4*k+j]?:=λj hj=>by
   rw[auV om,aqG]
  generalize hpp:(s.drop (4*k)).take 4=p at hX hpl hpg;have hp4:p.length<=4:=om
  have hp0:0 < p.length:=om
  have hsx:ckV db s.length k=.slice (aw ⟨db,4*k,av⟩) p.length p.length:=by unfold ckV;rw[hpl]
  rw[hsx,bG aoK];have e4:∀{PK:PKT} {K:VWP} {W:ak},DoX ah (bA 192 #[]) W PK K=K (.agg (aG [0,0,0,0]).toArray) W:=λ{PK K W}=>aC krx;rw[e4];refine bD (λb=>.pointer (aw ⟨b,0,av⟩)) (aG [0,0,0,0]) 192 (λ_=>by kernel_rfl) ho λb4 W4 ho=>?_;refine iL 0 ho rfl (new:=aG [0,0,0,0]) sz4b aW rfl λW5 ho=>?_;refine aC aiP |>.mpr ?_;have ho:OwnS M.A w W5 (.cells b4 (aG [0,0,0,0]) 192::.obj lb (lp L0 .busy av)::.obj df (.deferred (aw []))::.mkr 5 db s::Bld bb u l::.mem M::X):=ho;refine yH 0 (src:=aG p) aoK sz1u ho rfl (by rw[cP,aoS];omega) (λj v hj=>?_) (by rw[cP];show 0+p.length<=4;omega) aW λv' W6 ho=>?_
  ·have hjl:j < p.length:=by
    have:=(aoX.1 hj).1
    rwa [cP] at this
   rw[cK];refine ML (ho.at_ 3 rfl) ?_;have:=hpg j om;unfold aG at hj ⊢;rw[asE] at hj ⊢;rw[<-this];exact hj
  rw[arP,apK,cP,aoN,akU hp4] at ho;have hv4:dw p=((p.getD 0 0).toNat*256+(p.getD 1 0).toNat)*65536+(p.getD 2 0).toNat*256+(p.getD 3 0).toNat:=rfl;have hb0:=(p.getD 0 0).toNat_lt;have hb1:=(p.getD 1 0).toNat_lt;have hb2:=(p.getD 2 0).toNat_lt;have hb3:=(p.getD 3 0).toNat_lt;generalize p.getD 0 0=q0 at ho hv4 hb0;generalize p.getD 1 0=q1 at ho hv4 hb1;generalize p.getD 2 0=q2 at ho hv4 hb2;generalize p.getD 3 0=q3 at ho hv4 hb3;have ho:OwnS M.A w W6 (.cells b4 (aG [q0,q1,q2,q3]) 192::.obj lb (lp L0 .busy av)::.obj df (.deferred (aw []))::.mkr 5 db s::Bld bb u l::.mem M::X):=ho;have hv:=pn p;have hen:=yj hp4
  try simp only[rs]
  by_cases hz:dw p=0∧p.length=4
  ·have he:je p=[122]:=by rw[nm,anX hz]
   simp only[show ai ((p.length:Int)=4)=au from anZ om,gd,rs];rw[l_at (ho.agg 0 rfl ahA),e4];refine aC (ahG (a:=q0.toNat) (b:=q1.toNat) (c:=q2.toNat) (d:=q3.toNat)) |>.mpr ?_;rw[anZ om];simp only[rs,i_t];refine qR 4 ho rfl (DO (n:=122) (k:=122) (ho.at_ 4 rfl) om rfl om) ?_;rintro _ _ W7 ⟨rfl,v7,rfl⟩ ho;have ho:OwnS M.A w W7 (.obj lb (lp L0 .busy av)::.obj df (.deferred (aw []))::.mkr 5 db s::Bld bb v7 (l++je p)::.mem M::X):=by rw[he];exact ho.tail
   refine ajY 0 ho rfl λW9 ho=>?_;exact .inl ⟨rfl,_,⟨v7,_,f,rfl,om,hX,by rw[aoC];omega⟩,ho⟩
  have he:je p=(List.range (p.length+1)).map (lf p):=by rw[nm,anW hz]
  by_cases h4:(p.length:Int)=4
  case' pos=>
   simp only[show ai ((p.length:Int)=4)=au from anZ h4,gd,rs];rw[l_at (ho.agg 0 rfl ahA),e4];refine aC (ahG (a:=q0.toNat) (b:=q1.toNat) (c:=q2.toNat) (d:=q3.toNat)) |>.mpr ?_;rw[anY om];simp only[rs,i_f]
  case' neg=>
   simp only[show ai ((p.length:Int)=4)=aq from anY h4,gd,rs,i_f]
  all_goals
   refine aC (YI (b:=b4) (i:=0) om) |>.mpr ?_;rw[aS nU8l (ho.cell 0 rfl 0 rfl),Xa,wC dc,show IntKind.u64.wrap ((q0.toNat:Int)*2 ^ min (24:Int).toNat IntKind.u64.bits)=((q0.toNat*2 ^ 24:Nat):Int) from shlU (k:=24) dc om];refine aC (YI (b:=b4) (i:=1) om) |>.mpr ?_;rw[aS nU8l (ho.cell 0 rfl 1 rfl),Xa,wC dc,show IntKind.u64.wrap ((q1.toNat:Int)*2 ^ min (16:Int).toNat IntKind.u64.bits)=((q1.toNat*2 ^ 16:Nat):Int) from shlU (k:=16) dc om,b_or,orU (i:=24) om om];refine aC (YI (b:=b4) (i:=2) om) |>.mpr ?_;rw[aS nU8l (ho.cell 0 rfl 2 rfl),Xa,wC dc,show IntKind.u64.wrap ((q2.toNat:Int)*2 ^ min (8:Int).toNat IntKind.u64.bits)=((q2.toNat*2 ^ 8:Nat):Int) from shlU (k:=8) dc om,b_or,
    show q0.toNat*2 ^ 24+q1.toNat*2 ^ 16=(q0.toNat*256+q1.toNat)*2 ^ 16 by omega,orU (i:=16) om om]
   refine aC (YI (b:=b4) (i:=3) om) |>.mpr ?_;rw[aS nU8l (ho.cell 0 rfl 3 rfl),Xa,b_or,show (q0.toNat*256+q1.toNat)*2 ^ 16+q2.toNat*2 ^ 8=((q0.toNat*256+q1.toNat)*256+q2.toNat)*2 ^ 8 by omega,orU (i:=8) om om,
    show ((q0.toNat*256+q1.toNat)*256+q2.toNat)*2 ^ 8+q3.toNat=dw p by omega]
   try simp only[rs]
   rw[aA om om,show (p.length:Int)+1=((p.length+1:Nat):Int) by omega];refine aC (alO om) |>.mpr ?_;rw[bG underlying196];clear hv4 hb0 hb1 hb2 hb3;refine loop (λvs W=>∃(i:Nat) (u:ao),vs=[.int .i64 (i:Int)]∧i<=p.length+1∧OwnS M.A w W (.cells b4 (aG [q0,q1,q2,q3]) 192::.obj lb (lp L0 .busy av)::.obj df (.deferred (aw []))::.mkr 5 db s::Bld bb u (l++(List.range i).map (lf p))::.mem M::X)) (λvs _=>p.length+1 - n0 vs) ⟨0,u,rfl,om,by rw[List.range_zero,asY,aoV];exact ho⟩ ?_;clear ho;rintro vs W7 ⟨i,u7,rfl,hi,ho⟩ _;simp only[Dt,gd,rs,iN];by_cases hlt:(i:Int) < ((p.length+1:Nat):Int)
   case neg=>
    simp only[hlt,aoB,i_f];obtain rfl:i=p.length+1:=om
    rw[<-he] at ho;refine ajY 0 ho.tail rfl λW9 ho=>?_;exact .inl ⟨rfl,_,⟨u7,_,f,rfl,om,hX,by rw[aoC];omega⟩,ho⟩
   simp only[hlt,aoA,i_t];have hi5:i < 5:=om
   refine aC (dZ (P:=ah) (T:=196) (b:=0) (off:=0) (cap:=5) (n:=p.length+1) (k:=.i64) (i:=(i:Int)) (w:=W7) underlying196 afN om om) |>.mpr ?_;rw[aoF,aoS,aoN,aS nU64 (Mem.cell (ho.hasM 5 rfl) hpw.1 (hpw.2 i hi5))];have hq0:0 < ij.getD i 0∧ij.getD i 0<=52200625:=by
    rcases lt5 hi5 with rfl|rfl|rfl|rfl|rfl<;>decide
   have hdf:lf p i=UInt8.ofNat (33+dw p / ij.getD i 0 % 85):=rfl;generalize ij.getD i 0=q at hq0 hdf;have hd:dw p / q<=dw p:=arY _ _;rw[Ao om,show ((dw p:Nat):Int).tdiv (q:Int)=((dw p / q:Nat):Int) from rfl,nW om,CR dc,show ((dw p / q:Nat):Int).tmod 85=((dw p / q % 85:Nat):Int) from rfl];have hm:dw p / q % 85 < 85:=aqW _ dc
   try simp only[rs]
   rw[show (33:Int)+((dw p / q % 85:Nat):Int)=((33+dw p / q % 85:Nat):Int) by omega,nW om];refine aC (aO krx aoP) |>.mpr ?_;rw[lA,<-hdf];have hrl:((List.range i).map (lf p)).length=i:=sm
   refine qR 4 ho rfl (kR (c:=lf p i) (ho.at_ 4 rfl) (by rw[aoC,hrl];omega)) ?_;rintro _ _ W8 ⟨rfl,v8,rfl⟩ ho
   try simp only[rs]
   rw[aA om om];refine aQ ⟨i+1,v8,rfl,om,?_⟩ (by simp[n0,RowKit.intOf];omega);rw[asS,apX,<-aoL];exact ho
 ·rintro Ms X W ⟨u,l,f,rfl,hf,hX,hll⟩ ho;rw[MW] at hf hX hll;obtain⟨f,rfl⟩:∃f',f=f'+1:=⟨f - 1,om⟩;rw[iz,anX (apR om)] at hX;refine⟨_,.ready,av,_,rfl,(by intro h;cases h),ho.at_ 0 rfl,aoM.2 (.inl rfl),?_⟩;have hp':OwnS M.A w (putO W lb (lp L0 .exhausted av)) (.obj lb (lp L0 .exhausted av)::.obj df (.deferred (aw []))::.mkr 5 db s::Bld bb u l::.mem M::X):=IH (o':=lp L0 .exhausted av) ho 0 rfl;have ho:OwnS M.A w (putO W lb (lp L0 .exhausted av)) (.obj df (.deferred (aw []))::.mkr 5 db s::Bld bb u l::.mem M::X):=hp'.tail;refine qR 2 ho rfl (Fi (ho.at_ 2 rfl)) ?_;rintro _ _ w9 ⟨rfl,rfl⟩ ho;rw[show (Value.string ⟨#[126,62]⟩)=.string ⟨([126,62]:List UInt8).toArray⟩ from rfl,SX (by simp;omega),hX];refine aiS 0 ho rfl λW4 ho=>?_;exact hK _ _ M _ 3 ho rfl M.le_refl rfl
end
section
open Eng Go.RowKit
namespace Ff
def iO (n s:List UInt8):List UInt8:=if full n=nHx then Oc.hex s++[62] else if full n=n85 then kh s else if full n=nRL then gf s else []
def OneR (n:List UInt8)(x:Pm)(s t:List UInt8)(e:Int):Prop:=
 if full n=[] then t=[]∧e=15
 else if full n=nFl then (if dd x s=0 then e=0∧ft t 1048576=(ej x s,0)∧t.length<=2*(ej x s).length+16 else t=[]∧e=dd x s)
 else t=iO n s∧e=0
end Ff
theorem sf:∀(f:Nat) (s:List UInt8),(fq f s).length<=2*s.length+1
|0,s=>by unfold fq;simp
|f+1,s=>by
  unfold fq;split
  ·simp
  ·have hl:0 < s.length:=arI.2 (by assumption);split
   ·rename_i h3
    have ih:=sf f (s.drop (bg s));have ha:bg s<=128∧bg s<=s.length:=ni _ _ _;rw[aoJ] at ih;rw[aoC];show 2+_<=_;omega
   ·have hlit:=sy (s:=s) (by assumption);have ih:=sf f (s.drop (cq s));rw[aoJ] at ih;rw[aoC,aoC,aoH];show 1+_+_<=_;omega
theorem yl:∀(f:Nat) (s:List UInt8),s.length < f->(iz f s).length<=5*s.length+2
|0,s,h=>by omega
|f+1,s,h=>by
  unfold iz;split
  ·simp
  ·have hl:0 < s.length:=arI.2 (by assumption);have ih:=yl f (s.drop 4) (by rw[aoJ];omega);rw[aoJ] at ih;have hp:(s.take 4).length<=4:=by rw[aoH];omega
   have he:(je (s.take 4)).length<=(s.take 4).length+1:=by
    rw[nm];split
    ·simp
    ·simp
   rw[aoC];rw[aoH] at he;omega
theorem aay {n s:List UInt8}:(Ff.iO n s).length<=5*s.length+2:=by
 unfold Ff.iO;split
 ·rw[aoC,I3];simp;omega
 ·split
  ·exact yl _ _ om
  ·split
   ·have:=sf (s.length+1) s;unfold gf;omega
   ·simp
theorem aaz {n:List UInt8}{s t:List UInt8}(h:Ff.OneR n x s t e)(he:e=0)(hs:s.length<=1048576):Ff.undo n x t=(s,0):=by
 unfold Ff.OneR at h;by_cases h0:Ff.full n=[]
 ·rw[anX h0] at h;rw[h.2] at he;cases he
 rw[anW h0] at h;unfold Ff.undo;by_cases h4:Ff.full n=Ff.nFl
 ·rw[anX h4] at h;rw[anW (by rw[h4];decide),anW (by rw[h4];decide),anW (by rw[h4];decide),anX h4];by_cases hw:dd x s=0
  ·rw[anX hw] at h;have hok:x.ok:=by
    refine Decidable.byContradiction λhx=>?_;unfold dd at hw;rw[anX hx] at hw;cases hw
   rw[anW (by simp[hok])];simp only[h.2.1];rw[anW dc];exact (rq hw).1
  ·rw[anW hw] at h;rw[h.2] at he;exact absurd he hw
 ·rw[anW h4] at h;obtain⟨rfl,_⟩:=h;have hf:=Ff.G4 n;rcases hf with h|h|h|h|h
  ·have hp:Ff.iO n s=Oc.hex s++[62]:=by unfold Ff.iO;rw[anX h]
   rw[hp,anX h];exact aat om hs
  ·have hp:Ff.iO n s=kh s:=by unfold Ff.iO;rw[anW (by rw[h];decide),anX h]
   rw[hp,anW (by rw[h];decide),anX h];exact aaw om hs
  ·have hp:Ff.iO n s=gf s:=by unfold Ff.iO;rw[anW (by rw[h];decide),anW (by rw[h];decide),anX h]
   rw[hp,anW (by rw[h];decide),anW (by rw[h];decide),anX h];exact aax om hs
  ·exact absurd h h4
  ·exact absurd h h0
theorem Tb:bZ ah 117=true:=krx
theorem TM:bZ ah 121=true:=krx
theorem SY (b f:Nat)(s r:List UInt8)(M:Mem)(w:ak)(hp:bZ ah f=au)(hb:(ON b f).is w)(hM:M.has w)(h:RetM ah f #[.string ⟨s.toArray⟩] M w (λv _=>v=.string ⟨r.toArray⟩)) :
  RetM ah 171 #[.string ⟨s.toArray⟩,.pointer (aw ⟨b,0,av⟩)] M w (λv _=>v=zlT (r,0)):=by
 refine aU hM λK hK=>tK ?_;unfold rO nz;rw[aS nFnS (aI (T:=36) (cs:=[fnV f]) hb (i:=0) rfl)];unfold fnV;refine HL hp (bI (OwnS.memS hM) 0 rfl h ?_);rintro _ N w1 g1 rfl ho;exact hK _ _ N _ 0 ho rfl g1 rfl
theorem XC (x:Pm)(hP:PeR x)(s:List UInt8)(M:Mem)(w:ak)(hM:M.has w)(hs:s.length<=1000000000) :
  RetM ah 121 #[pmV x,.string ⟨s.toArray⟩] M w (λv _=>∃t e,v=zlT (t,e)∧if dd x s=0 then e=0∧ft t 1048576=(ej x s,0)∧t.length<=2*(ej x s).length+16 else t=[]∧e=dd x s):=by
 refine aU hM λK hK=>Au ?_;unfold rY nz;refine bD (λb=>.pointer (aw ⟨b,0,av⟩)) (pmC x) 143 (λ_=>by kernel_rfl) (OwnS.memS hM) λb2 w1 ho=>?_;rw[aP aaD,l_at (T:=27) (v:=pmV x) (AtV.agg HR (cs:=pmC x) rfl λj u hj=>by rw[apO,aoN];exact ho.cell 0 rfl j hj)];refine aH ho (hP s w1 hs) ?_;rintro _ w2 rfl ho;simp only[encT,ex,bQ];by_cases hw:dd x s=0
 case neg=>
  simp only[anZ (show dd x s≠0 from hw),i_t];exact hK _ _ M _ 1 ho rfl M.le_refl ⟨[],dd x s,rfl,by rw[anW hw];exact⟨rfl,rfl⟩⟩
 simp only[anY (show ¬dd x s≠0 fromλh=>h hw),i_f,anX hw];refine bI ho 1 rfl (U8 (ej x s) M w2 (ho.hasM 1 rfl) (rq hw).2) ?_;rintro _ N w3 g1 ⟨t,rfl,h1,h2⟩ ho;simp only[ex];exact hK _ _ N _ 1 ho rfl g1 ⟨t,0,rfl,by rw[anX hw];exact⟨rfl,h1,h2⟩⟩
theorem Xm (n:List UInt8)(x:Pm)(hP:PeR x)(s:List UInt8)(M:Mem)(w:ak)(hpw:Pws M)(hM:M.has w)(hs:s.length<=1000000) :
  RetM ah 17 #[.string ⟨n.toArray⟩,pmV x,.string ⟨s.toArray⟩] M w (λv _=>∃t e,v=zlT (t,e)∧Ff.OneR n x s t e):=by
 refine aU hM λK hK=>AZ ?_;unfold Bn nz;unfold Ff.OneR at hK;refine yE x (OwnS.memS hM) λb4 w1 ho=>?_;rw[pm_v ho 0 rfl];have wone:∀{p u:ao},p.oneCell'=au->u.oneCell'=au->∀y∈wyC p u,y.oneCell'=true:=by
  intro p u hp hu y hy;simp only[wyC,aoM,aqI,or_false] at hy;rcases hy with rfl|rfl<;>assumption
 refine aeK ho (λf g hfg b1 b2 w2 ho=>?_) (λhf w2 ho=>?_) (λhf w2 ho=>?_)
 ·simp only[ex];refine bD (λb=>.pointer (aw ⟨b,0,av⟩)) (wyC .nilFunc .nilFunc) 91 (λ_=>by kernel_rfl) ho λb8 w3 ho=>?_;refine iL 0 ho rfl (new:=wyC (A8 b1) (Da b2)) szWy (wone rfl rfl) rfl λw4 ho=>?_;have ho:OwnS M.A w w4 [wyE b8 (A8 b1) (Da b2),upE b2 g,ON b1 f,pmE b4 x,.mem M]:=ho;simp only[bQ,show ai ((0:Int)≠0)=aq from rfl,i_f];rw[cL aoD];simp only[rs,show ai ((1048576:Int) < (s.length:Int))=aq from anY om,i_f];rw[aP Xy,aS nFnW (ho.cell 0 rfl 0 rfl)];have hM4:=ho.hasM 4 rfl;have ofRet:∀{f:Nat} {r:List UInt8},Ret ah f #[.string ⟨s.toArray⟩] w4 (λv w'=>v=.string ⟨r.toArray⟩∧Below w4.heap.size w4 w')->RetM ah f #[.string ⟨s.toArray⟩] M w4 (λv _=>v=.string ⟨r.toArray⟩):=λh=>
   h.mono λv w' ⟨h1,h2⟩=>⟨M,⟨M.le_refl,Mem.O7 hM4 h2,λ_ h=>.inl h,h2⟩,h1⟩
  have key:∃_:bZ ah f=au,¬Ff.full n=[]∧¬Ff.full n=Ff.nFl∧RetM ah f #[.string ⟨s.toArray⟩] M w4 (λv _=>v=.string ⟨(Ff.iO n s).toArray⟩):=by
   unfold Ff.iO;rcases hfg with ⟨h,rfl,_⟩|⟨h,rfl,_⟩|⟨h,rfl,_⟩
   ·rw[anX h];exact⟨Lh,by rw[h];decide,by rw[h];decide,ofRet (QY s w4 hs)⟩
   ·rw[anW (by rw[h];decide),anX h];exact⟨Tb,by rw[h];decide,by rw[h];decide,WJ s M w4 hpw hM4 hs⟩
   ·rw[anW (by rw[h];decide),anW (by rw[h];decide),anX h];exact⟨L6,by rw[h];decide,by rw[h];decide,ofRet (SI s w4 om)⟩
  obtain⟨hp,hn0,hn4,key⟩:=key;simp only[anW hn0,anW hn4] at hK;unfold A8;refine HL L5 (bI ho 4 rfl (SY b1 f s _ M w4 hp (ho.at_ 2 rfl) hM4 key) ?_);rintro _ N w5 g1 rfl ho;simp only[zlT,ex];exact hK _ _ N _ 4 ho rfl g1 ⟨_,_,rfl,rfl,rfl⟩
 ·have hn0:¬Ff.full n=[]:=by rw[hf];decide
  simp only[anW hn0,anX hf] at hK;simp only[ex];refine bD (λb=>.pointer (aw ⟨b,0,av⟩)) (wyC .nilFunc .nilFunc) 91 (λ_=>by kernel_rfl) ho λb8 w3 ho=>?_;refine iL 0 ho rfl (new:=wyC (Mu x) (yW x)) szWy (wone rfl rfl) rfl λw4 ho=>?_;have ho:OwnS M.A w w4 [wyE b8 (Mu x) (yW x),pmE b4 x,.mem M]:=ho;simp only[bQ];by_cases hx:x.ok
  case neg=>
   have hw:dd x s=1:=by unfold dd;rw[anX hx]
   simp only[hw,anW (show ¬(1:Int)=0 by decide)] at hK;simp only[anW hx,show ai ((1:Int)≠0)=au from rfl,i_t];exact hK _ _ M _ 2 ho rfl M.le_refl ⟨[],1,rfl,rfl,rfl⟩
  simp only[anX hx,show ai ((0:Int)≠0)=aq from rfl,i_f];rw[cL aoD];simp only[rs,show ai ((1048576:Int) < (s.length:Int))=aq from anY om,i_f];rw[aP Xy,aS nFnW (ho.cell 0 rfl 0 rfl)];unfold Mu;refine HL TM (bI ho 2 rfl (XC x hP s M w4 (ho.hasM 2 rfl) om) ?_);rintro _ N w5 g1 ⟨t,e,rfl,h⟩ ho;simp only[zlT,ex];exact hK _ _ N _ 2 ho rfl g1 ⟨t,e,rfl,h⟩
 ·simp only[anX hf] at hK;simp only[ex];refine bD (λb=>.pointer (aw ⟨b,0,av⟩)) (wyC .nilFunc .nilFunc) 91 (λ_=>by kernel_rfl) ho λb8 w3 ho=>?_;refine iL 0 ho rfl (new:=wyC .nilFunc .nilFunc) szWy (wone rfl rfl) rfl λw4 ho=>?_;simp only[bQ,show ai ((15:Int)≠0)=au from rfl,i_t];exact hK _ _ M _ 2 ho rfl M.le_refl ⟨[],15,rfl,rfl,rfl⟩
theorem Yt (n:List UInt8)(x:Pm)(s:List UInt8)(M:Mem)(w:ak)(hpw:Pws M)(hM:M.has w)(hs:s.length<=1000000) :
  RetM ah 17 #[.string ⟨n.toArray⟩,pmV x,.string ⟨s.toArray⟩] M w (λv _=>∃t e,v=zlT (t,e)∧Ff.OneR n x s t e):=
 Xm n x (peR x) s M w hpw hM hs
theorem Pd (n s:List UInt8)(w:ak)(hs:s.length<=1000000):Ret ah 20 #[.string ⟨n.toArray⟩,.string ⟨s.toArray⟩] w (λv w'=>v=.string ⟨(Ff.iO n s).toArray⟩∧Below w.heap.size w w'):=by
 refine aK λK hK=>uU ?_;unfold mQ nz;unfold Ff.iO at hK;refine c_eq (yM n w) ?_;simp only[rs];by_cases h1:Ff.full n=Ff.nHx
 ·rw[anX h1] at hK;simp only[anZ h1,i_t];refine aH (Own.start w) (SP s w hs) ?_;rintro _ w2 rfl ho;exact hK _ _ ⟨rfl,ho.done⟩
 rw[anW h1] at hK;simp only[anY h1,i_f]
 try simp only[rs]
 by_cases h2:Ff.full n=Ff.n85
 ·rw[anX h2] at hK;simp only[anZ h2,i_t];refine aH (Own.start w) (PL s w hs) ?_;rintro _ w2 rfl ho;exact hK _ _ ⟨rfl,ho.done⟩
 rw[anW h2] at hK;simp only[anY h2,i_f]
 try simp only[rs]
 by_cases h3:Ff.full n=Ff.nRL
 ·rw[anX h3] at hK;simp only[anZ h3,i_t];refine aH (Own.start w) (Tk s w hs) ?_;rintro _ w2 rfl ho;exact hK _ _ ⟨rfl,ho.done⟩
 rw[anW h3] at hK;simp only[anY h3,i_f];exact hK _ _ ⟨rfl,Below.refl _ _⟩
end
section
open Eng Go.RowKit
theorem aa0 (n:List UInt8)(h:Ff.full n=Ff.nHx∨Ff.full n=Ff.nRL):Ff.full (Ff.full n)=Ff.nHx∨Ff.full (Ff.full n)=Ff.nRL:=by
 rcases h with h|h<;>rw[h]
 ·exact .inl dc
 ·exact .inr dc
def n0C (_:Unit):List Value:=obC Vl.ob0 nilS nilS
theorem aeB {x:Unit}:∀u∈n0C x,u.oneCell'=true:=by
 intro u hu;simp only[n0C,obC,aoM,aqI,or_false] at hu;rcases hu with rfl|rfl|rfl|rfl|rfl|rfl<;>rfl
abbrev n0sE (v:ao)(l:List Unit):Ent:=.recs 25 n0C 6 v l
namespace Ff
def EncR:List (List UInt8)->List UInt8->List UInt8->Prop
|[],s,t=>t=s
|n::r,s,t=>∃u,EncR r s u∧OneR n dO u t 0
def encP (o:Ob)(ms:List (List UInt8))(D:List UInt8):Ob×Int:=
 if (plain o D).2≠0 then plain o D
 else if ms=[] then plain o D
 else if (Vl.set (plain o D).1 dQ (alone (ms.map uT))).2≠0 then (Vl.ob0,(Vl.set (plain o D).1 dQ (alone (ms.map uT))).2)
 else ((Vl.set (plain o D).1 dQ (alone (ms.map uT))).1,0)
theorem Vn {s:List UInt8}(h:s.length<=1048576):dd dO s=0:=by
 unfold dd;rw[anW dc,anW om,anX (show dO.p=1 from rfl)]
theorem amV {n s t:List UInt8}(h:OneR n dO s t e)(hn:full n≠[])(hs:s.length<=1048576):e=0:=by
 unfold OneR at h;rw[anW hn] at h;split at h
 ·rw[anX (Vn hs)] at h;exact h.1
 ·exact h.2
end Ff
theorem By {n:List UInt8}(h:Ff.full n≠[]):Ff.full (Ff.full n)≠[]:=by
 rcases Ff.G4 n with e|e|e|e|e<;>rw[e]<;>first|decide|exact absurd e h
theorem NX (o:Ob)(v:ao)(ns:List (List UInt8))(vn:ao)(data:List UInt8)(M:Mem)(w:ak)(hpw:Pws M)(hk:o.k=9∨o.k=7)(h8:ns.length<=8)(hfl:∀n∈ns,Ff.full n≠[])
  (hb:∀i D,Ff.EncR ((ns.map Ff.full).drop i) data D->D.length<=1000000) (hw:o.wt<=100000000) (hx:∀D,Ff.EncR (ns.map Ff.full) data D->(Ff.plain o D).1.wt<=1000000000) (ha:(Ff.alone ((ns.map Ff.full).map Ff.uT)).wt<=1000000000) (hws:Ob.wts ((ns.map Ff.full).map Ff.uT)<=1000000000) (hM:M.has w) (hv:OV M.A M.w v o) (hn:SlA M.A M.w vn 1 ns.length (cD ns)) :
  RetM ah 22 #[v,vn,nilS,.string ⟨data.toArray⟩] M w (λr N=>∃D v',Ff.EncR (ns.map Ff.full) data D∧r=errV v' (Ff.encP o (ns.map Ff.full) D).2∧OV N.A N.w v' (Ff.encP o (ns.map Ff.full) D).1):=by
 obtain⟨vk,vc,ocs,rfl,hoa⟩:=hv.open;refine aU hM λK hK=>E5 ?_;unfold Bg nz;refine mW o hoa.keys.one hoa.kids.one (OwnS.memS hM) λb4 w1 ho=>?_;refine jH ho λb8 w2 ho=>?_;rw[oL,ob_k ho 1 rfl];simp only[rs];have hpl:=@Lo o;have hl1:(ns.map Ff.full).length=ns.length:=apP _;have hcl2:∀n∈ns.map Ff.full,Ff.full n≠[]:=by
  intro n h;obtain⟨m,hm,rfl⟩:=apN.1 h;exact By (hfl m hm)
 have main:∀W,OwnS M.A w W [obE b8 ob0 nilS nilS,obE b4 o vk vc,.mem M]->CallX ah 67 #[vn,nilS] W (pk K) λt31 w=>
 DoX ah (mExt t31 0) w (pk K) λt32 w=>
 DoX ah (mExt t31 1) w (pk K) λt33 w=>
 DoX ah (mExt t31 2) w (pk K) λt34 w=>
 DoX ah (mEq .neq 30 (.tmp 35) (.const (.int .i64 0)) t34 (.int .i64 0)) w (pk K) λt36 w=>
 IfX t36 (DoX ah (bA 25 #[]) w (pk K) λt37 w=>
 DoX ah (aV 25 (.pointer (aw ⟨b8,0,av⟩)) t37) w (pk K) λ_ w=>
 RetX ah [.cell (.pointer (aw ⟨b8,0,av⟩)) 25,.val t34] w K) (DoX ah (mB .len #[22] 3 #[aq] #[t32]) w (pk K) λt40 w=>
 DoX ah (mBin .sub 3 t40 (.int .i64 1)) w (pk K) λt41 w=>
 LoopX [.string ⟨data.toArray⟩,(.int .i64 0),t41] w (λvs1 w N1=>∀_:Sg,mZ t32 t33 (vs1.getD 0 undef) (.pointer (aw ⟨b4,0,av⟩)) (.pointer (aw ⟨b8,0,av⟩)) (vs1.getD 1 undef) (vs1.getD 2 undef) w N1 K)):=by
  intro w2 ho;refine bI ho 2 rfl (XB ns vn M w2 h8 hfl (ho.hasM 2 rfl) hn) ?_;rintro _ N w3 l1 ⟨va,vb,rfl,hva,hvb⟩ ho;have ho:OwnS M.A w w3 [obE b8 ob0 nilS nilS,obE b4 o vk vc,.mem N]:=ho;simp only[ex,gY (show [va,vb,Value.int .i64 0][2]?=aw (Value.int .i64 0) from rfl),gY (show [va,vb,Value.int .i64 0][1]?=aw vb from rfl),gY (show [va,vb,Value.int .i64 0][0]?=aw va from rfl),bQ,show ai ((0:Int)≠0)=aq from rfl,i_f];generalize ns.map Ff.full=ms at *;have hlm:(List.replicate ns.length Ff.dO).length=ms.length:=by rw[apC,hl1]
  rw[DZ hva]
  try simp only[rs]
  have hm8:ms.length<=8:=om
  rw[aA om om];refine loop (λvs W=>∃(j:Nat) (D:List UInt8) (N2:Mem),vs=[.string ⟨D.toArray⟩,.int .i64 0,.int .i64 ((j:Int) - 1)]∧j<=ms.length∧Ff.EncR (ms.drop j) data D∧N.le N2∧OwnS M.A w W [obE b8 ob0 nilS nilS,obE b4 o vk vc,.mem N2]) (λvs _=>(RowKit.intOf (vs.getD 2 undef)+1).toNat) ⟨ms.length,data,N,rfl,aoG _,by rw[List.drop_length];rfl,N.le_refl,ho⟩ ?_;clear ho;rintro vs w4 ⟨j,D,N',rfl,hj,hD,l0,ho⟩ _;simp only[mZ,gd,rs,iN,dx,ldx,bnx,exx,stx,lnx,ecx,gfx,efx,cx];by_cases hj0:0 < j
  ·simp only[show ai ((0:Int)<=(j:Int) - 1)=au from anZ om,i_t];obtain⟨i,rfl⟩:∃i,j=i+1:=⟨j - 1,om⟩;rw[show ((i+1:Nat):Int) - 1=(i:Int) by omega];have hi:i < ms.length:=om
   obtain⟨p,hia,hld⟩:=Qo (hva.le l0) hi;obtain⟨p2,hia2,hld2⟩:=pmAt (hvb.le l0) (i:=i) om;have hDl:=hb (i+1) D hD;have ho:=ho.drew;refine⟨λW=>N'.has W,ho.hasM 2 rfl,?_⟩;refine aL _ hia (sL _ (λW h=>hld W h) ?_);refine aL _ hia2 (sL _ (λW h=>hld2 W h) ?_);rw[auS];refine bI ho 2 rfl (Xm ms[i] Ff.dO (peR1 rfl) D N' _ (hpw.le (l1.trans l0)) (ho.hasM 2 rfl) hDl) ?_;rintro _ N3 w5 l3 ⟨t,e,rfl,hR⟩ ho;obtain rfl:=Ff.amV hR (hcl2 _ (aoR hi)) om;refine⟨Mem.Ov l3 (ho.hasM 2 rfl),?_⟩;simp only[zlT];refine aL (.string ⟨t.toArray⟩) (λ_=>by kernel_rfl) (aL (.int .i64 0) (λ_=>by kernel_rfl) ?_);simp only[bQ,show ai ((0:Int)≠0)=aq from rfl,i_f]
   try simp only[rs]
   rw[aA om om];refine aQ ⟨i,t,N3,rfl,om,?_,l0.trans l3,ho⟩ (by simp[RowKit.intOf]);rw[apV hi,Ff.EncR];exact⟨D,hD,hR⟩
  have hj0:j=0:=om
  subst hj0;rw[aqH] at hD
  replace l1:=l1.trans l0
  replace hva:=hva.le l0
  replace hvb:=hvb.le l0
  clear l0;simp only[show ai ((0:Int)<=((0:Nat):Int) - 1)=aq from rfl,i_f];have hbz:=hb 0 D (by rw[aqH];exact hD)
  replace hx:=hx D hD
  generalize hX:Ff.encP o ms D=X;have hK:∀(v:ao) (w':ak) (N:Mem) (L:List Ent) (i:Nat),OwnS M.A w w' L->L[i]?=aw (.mem N)->M.le N->(∃v',v=errV v' X.2∧OV N.A N.w v' X.1)->K (.returned v) w':=λv w' N L i h1 h2 h3 ⟨v',h4,h5⟩=>hK v w' N L i h1 h2 h3 ⟨D,v',hD,by rw[hX];exact h4,by rw[hX];exact h5⟩;unfold Ff.encP at hX;rw[ob_v ho 1 rfl];refine bI ho 2 rfl (Lo o _ D N' w4 om om (ho.hasM 2 rfl) (hv.le l1)) ?_;generalize Ff.plain o D=P at hX hx;obtain⟨x,pe⟩:=P;rintro _ N2 w5 l2 ⟨xv,rfl,hxo⟩ ho;obtain⟨xk,xc,xcs,rfl,hxa⟩:=hxo.open;dsimp only at hX hx hxa;simp only[errV,ex];refine cE 1 hxa.keys.one hxa.kids.one ho rfl λw6 ho=>?_;have ho:OwnS M.A w w6 [obE b8 ob0 nilS nilS,obE b4 x xk xc,.mem N2]:=ho;simp only[bQ,rs];by_cases hpe:pe=0
  case neg=>
   rw[anX hpe] at hX;simp only[anZ (show pe≠0 from hpe),rs,g_un,i_t];rw[ob_v ho 1 rfl];refine cE 0 hxa.keys.one hxa.kids.one ho rfl λw7 ho=>?_;exact iJ 0 ho rfl (hK _ _ N2 _ 2 ho rfl (l1.trans l2) ⟨_,by rw[<-hX];rfl,by rw[<-hX];exact hxa.ov⟩)
  rw[anW (λh=>h hpe)] at hX;subst hpe;simp only[show ai ((0:Int)≠0)=aq from rfl,rs];rw[DZ hva];by_cases hms:ms=[]
  ·rw[anX hms] at hX;simp only[rs,show ai ((ms.length:Int)=0)=au from anZ (by rw[hms];rfl),i_t];rw[ob_v ho 1 rfl];refine cE 0 hxa.keys.one hxa.kids.one ho rfl λw7 ho=>?_;exact iJ 0 ho rfl (hK _ _ N2 _ 2 ho rfl (l1.trans l2) ⟨_,by rw[<-hX];rfl,by rw[<-hX];exact hxa.ov⟩)
  rw[anW hms] at hX;have hm0:=arI.2 hms;simp only[rs,show ai ((ms.length:Int)=0)=aq from anY om,i_f];rw[DZ hva];have ho:=(OwnS.nilU ho 25 6);have ho:=(OwnS.nilU ho 25 6);have ho:OwnS M.A w w6 [nmsE nilS [],n0sE nilS [],obE b8 ob0 nilS nilS,obE b4 x xk xc,.mem N2]:=ho;have hva2:=hva.le l2;have hvb2:=hvb.le l2;refine loop (λvs W=>∃(i:Nat) (fv pv:ao) (N3:Mem),vs=[.int .i64 0,fv,pv,.bool aq,.int .i64 (i:Int)]∧i<=ms.length∧N2.le N3∧OwnS M.A w W [nmsE fv (ms.take i),n0sE pv (List.replicate i ()),obE b8 ob0 nilS nilS,obE b4 x xk xc,.mem N3]) (λvs _=>ms.length - (RowKit.intOf (vs.getD 4 undef)).toNat) ⟨0,nilS,nilS,N2,rfl,om,N2.le_refl,ho⟩ ?_;clear ho;rintro vs w7 ⟨i,fv,pv,N3,rfl,hi,l3,ho⟩ _;simp only[vO,gd,rs,iN,dx,ldx,bnx,iax,exx,stx,alx,ecx,apx,gfx,cx];by_cases hlt:(i:Int) < (ms.length:Int)
  ·simp only[hlt,aoA,i_t];have hi':i < ms.length:=om
   obtain⟨p,hia,hld⟩:=Qo (hva2.le l3) hi';obtain⟨p2,hia2,hld2⟩:=pmAt (hvb2.le l3) (i:=i) om;rw[aC (hia w7),aC (hld w7 (ho.hasM 4 rfl)),aC (hia2 w7),aC (hld2 w7 (ho.hasM 4 rfl)),auS];refine bI ho 4 rfl (SN N3 w7 (ho.hasM 4 rfl)) ?_;rintro _ N4 w8 l4 rfl ho;simp only[errV,ex];refine jH ho λb17 w9 ho=>?_;refine cE 0 (vk':=nilS) (vc':=nilS) rfl rfl ho rfl λw10 ho=>?_;simp only[bQ,show ai ((0:Int)≠0)=aq from rfl,i_f];refine aH ho (WI ms[i] w10) ?_;rintro _ w11 rfl ho;have ho:OwnS M.A w w11 [obE b17 Vl.ob0 nilS nilS,nmsE fv (ms.take i),n0sE pv (List.replicate i ()),obE b8 ob0 nilS nilS,obE b4 x xk xc,.mem N4]:=ho;refine ajL ms[i] 1 ho rfl (by rw[aoH];omega) λfv' w12 ho=>?_;have ho:OwnS M.A w w12 [obE b17 Vl.ob0 nilS nilS,nmsE fv' (ms.take i++[ms[i]]),n0sE pv (List.replicate i ()),obE b8 ob0 nilS nilS,obE b4 x xk xc,.mem N4]:=ho;rw[ob_v ho 0 rfl];refine Lp Vl.ob0 (vk:=nilS) (vc:=nilS) rfl rfl ho λnb w13 ho=>?_;refine aX 3 aoW U6 dc ho rfl (eG (cs:=n0C ()) (ho.at_ 0 rfl) dc rfl) aeB (by rw[apC];omega) (by rw[apC];omega) λpv' w14 ho=>?_;have e:n0sE pv' (List.replicate (i+1) ())=.urow 25 6 pv' ((List.replicate i ()).length+1) ((List.replicate i ()).flatMap n0C++n0C ()):=by
    unfold n0sE Ent.recs;rw[auL,aoC,atC,atT];rfl
   have ho:OwnS M.A w w14 [obE nb Vl.ob0 nilS nilS,obE b17 Vl.ob0 nilS nilS,nmsE fv' (ms.take i++[ms[i]]),n0sE pv' (List.replicate (i+1) ()),obE b8 ob0 nilS nilS,obE b4 x xk xc,.mem N4]:=by rw[e];exact ho
   try simp only[rs]
   rw[oL,ob_k ho 1 rfl];simp only[rs,show ai ((Vl.ob0).k≠0)=aq from rfl];rw[aA om om];refine aQ ⟨i+1,fv',pv',N4,rfl,om,l3.trans l4,?_⟩ (by simp[RowKit.intOf];omega);rw[apG hi'];exact ho.tail.tail
  simp only[hlt,aoB,i_f];have:i=ms.length:=om
  subst this;rw[aqJ] at ho;obtain⟨N4,l4,hsf,ho⟩:=ho.cI 3 rfl;have ho:OwnS M.A w w7 [n0sE pv (List.replicate ms.length ()),obE b8 ob0 nilS nilS,obE b4 x xk xc,.mem N4]:=ho;have hls:LsAt N4 fv (ms.map Ff.uT) (ms.flatMap nmC):=⟨by rw[apP];exact hsf,QO ms⟩;have hle4:=((l1.trans l2).trans l3).trans l4;have ho:=ho.drew;refine⟨λW=>(obE b4 x xk xc).is W,ho.at_ 2 rfl,?_⟩;refine sL (obV x xk xc) (λW h=>bE (AtV.agg Bl (cs:=obC x xk xc) rfl λj u hj=>by rw[aoN];exact aI (T:=25) h hj)) ?_;refine bI ho 3 rfl (TL (ms.map Ff.uT) fv _ N4 _ hws (ho.hasM 3 rfl) hls) λy N5 w8 l5 hy ho=>?_;refine⟨ho.at_ 2 rfl,?_⟩;refine bI ho 3 rfl (YJ x (Ff.alone (ms.map Ff.uT)) _ y Ff.dQ N5 w8 om om dc (ho.hasM 3 rfl) ((((hxo.le l3).le l4).le l5)) hy) ?_;generalize Vl.set x Ff.dQ (Ff.alone (ms.map Ff.uT))=Rr at hX;obtain⟨z,ze⟩:=Rr;dsimp only at hX;rintro _ N6 w9 l6 ⟨zv,rfl,hz⟩ ho;obtain⟨zk,zc,zcs,rfl,hza⟩:=hz.open;dsimp only at hza;unfold errV;refine aL (obV z zk zc) (λ_=>by kernel_rfl) (aL (.int .i64 ze) (λ_=>by kernel_rfl) ?_);refine cE 2 hza.keys.one hza.kids.one ho rfl λw10 ho=>?_;have ho:OwnS M.A w w10 [n0sE pv (List.replicate ms.length ()),obE b8 ob0 nilS nilS,obE b4 z zk zc,.mem N6]:=ho;have hle6:=(hle4.trans l5).trans l6;simp only[bQ];by_cases hze:ze=0
  case neg=>
   rw[anX hze] at hX;simp only[anZ (show ze≠0 from hze),i_t];rw[OX];refine cE 1 rfl rfl ho rfl λw11 ho=>?_;exact iJ 1 ho rfl (hK _ _ N6 _ 3 ho rfl hle6 ⟨_,by rw[<-hX];rfl,by rw[<-hX];exact JD N6⟩)
  rw[anW (λh=>h hze)] at hX;simp only[anY (show ¬ze≠0 fromλh=>h hze),i_f];refine join λJ hJ=>?_;refine hJ _ _ λ_=>?_;unfold vK nz;rw[ob_v ho 2 rfl];refine cE 1 hza.keys.one hza.kids.one ho rfl λw11 ho=>?_;exact iJ 1 ho rfl (hK _ _ N6 _ 3 ho rfl hle6 ⟨_,by rw[<-hX];rfl,by rw[<-hX];exact hza.ov⟩)
 by_cases k9:o.k=9
 ·simp only[anY (show ¬o.k≠9 fromλh=>h k9),rs,g_un,i_f];exact main w2 ho
 have k7:o.k=7:=by rcases hk with h|h;exact absurd h k9;exact h
 simp only[anZ (show o.k≠9 from k9),rs];rw[oL,ob_k ho 1 rfl];simp only[rs,anY (show ¬o.k≠7 fromλh=>h k7),i_f];exact main w2 ho
theorem BY {n s t:List UInt8}(hn:Ff.full n=Ff.nHx∨Ff.full n=Ff.nRL)(h:Ff.OneR n x s t e):t=Ff.oneA n s:=by
 unfold Ff.OneR at h;rcases hn with hn|hn
 ·rw[anW (by rw[hn];decide),anW (by rw[hn];decide)] at h;rw[h.1];unfold Ff.iO Ff.oneA;rw[anX hn,anX hn]
 ·rw[anW (by rw[hn];decide),anW (by rw[hn];decide)] at h;have p:Ff.iO n s=gf s:=by unfold Ff.iO;rw[anW (by rw[hn];decide),anW (by rw[hn];decide),anX hn]
  have q:Ff.oneA n s=gf s:=by unfold Ff.oneA;rw[anW (by rw[hn];decide)]
  rw[h.1,p,q]
theorem po:∀{ms:List (List UInt8)} {data D:List UInt8},(∀n∈ms,Ff.full n=Ff.nHx∨Ff.full n=Ff.nRL)->Ff.EncR ms data D->D=Ff.encN ms data
|[],_,_,_,h=>h
|n::r,data,D,hcl,⟨u,hu,h⟩=>by
  rw[BY (hcl n (apU ..)) h,po (λm hm=>hcl m (apA _ hm)) hu];rfl
theorem OS (o:Ob)(v:ao)(ns:List (List UInt8))(vn:ao)(data:List UInt8)(M:Mem)(w:ak)(hpw:Pws M)(hk:o.k=9∨o.k=7)(h8:ns.length<=8)(h0:ns≠[])(hcls:∀n∈ns,Ff.full n=Ff.nHx∨Ff.full n=Ff.nRL)
  (hb:∀i,(Ff.encN ((ns.map Ff.full).drop i) data).length<=1000000) (hw:o.wt<=100000000) (hx:(Ff.plain o (Ff.encN (ns.map Ff.full) data)).1.wt<=1000000000) (ha:(Ff.alone ((ns.map Ff.full).map Ff.uT)).wt<=1000000000) (hws:Ob.wts ((ns.map Ff.full).map Ff.uT)<=1000000000) (hM:M.has w) (hv:OV M.A M.w v o) (hn:SlA M.A M.w vn 1 ns.length (cD ns)) :
  RetM ah 22 #[v,vn,nilS,.string ⟨data.toArray⟩] M w (λr N=>∃v',r=errV v' (Ff.enc0 o ns data).2∧OV N.A N.w v' (Ff.enc0 o ns data).1):=by
 have hcl:∀n∈ns.map Ff.full,Ff.full n=Ff.nHx∨Ff.full n=Ff.nRL:=by
  intro n h;obtain⟨m,hm,rfl⟩:=apN.1 h;exact aa0 m (hcls m hm)
 refine (NX o v ns vn data M w hpw hk h8 (λn h=>by rcases hcls n h with h|h<;>rw[h]<;>decide) (λi D h=>by
  rw[po (λm hm=>hcl m (arZ hm)) h];exact hb i) hw (λD h=>by rw[po hcl h];exact hx) ha hws hM hv hn).mono ?_
 rintro r N _ ⟨D,v',hD,hr,ho⟩;have e:Ff.encP o (ns.map Ff.full) D=Ff.enc0 o ns data:=by
  rw[po hcl hD];unfold Ff.encP Ff.enc0;rw[anW (show ¬ns.map Ff.full=[] fromλh=>h0 (List.map_eq_nil_iff.1 h))]
 rw[e] at hr ho;exact⟨v',hr,ho⟩
end
section
open Eng
def pE(w)(K:KT):=
 dx (bF 22 1 #[(0,(.string ⟨#[70,105,108,116,101,114]⟩))]) w K λC w=>cx 51 #[(.string ⟨#[65,72,120]⟩)] w K λD w=>cx 51 #[(.string ⟨#[70,108]⟩)] w K λF w=>dx (bF 23 2 #[(0,D),(1,F)]) w K λG w=>cx 50 #[G] w K λH w=>dx (bF 23 1 #[(0,H)]) w K λI w=>dx (bA 25 #[(0,(iN 9)),(4,C),(5,I)]) w K λL w=>alx 25 w K λv w=>stx 25 v L w K λ_ w=>ldx 25 v w K λM w=>cx 28 #[M] w K λg w=>exx g 0 w K λO w=>exx g 1 w K λh w=>exx g 2 w K λP w=>dx (bA 27 #[(0,(iN 1)),(1,(iN 1)),(2,(iN 1))]) w K λQ w=>alx 27 w K λa w=>stx 27 a Q w K λ_ w=>ldx 27 a w K λR w=>cx 17 #[(.string ⟨#[65,72,120]⟩),R,(.string ⟨#[74]⟩)] w K λx w=>exx x 0 w K λS w=>exx x 1 w K λT w=>ldx 27 a w K λU w=>cx 15 #[(.string ⟨#[65,83,67,73,73,72,101,120,68,101,99,111,100,101]⟩),U,(.string ⟨#[52,97,62]⟩)] w K λy w=>exx y 0 w K λV w=>exx y 1 w K λW w=>ldx 27 a w K λX w=>cx 15 #[(.string ⟨#[76,90,87,68,101,99,111,100,101]⟩),X,(.string ⟨#[]⟩)] w K λz w=>exx z 0 w K λt46 w=>exx z 1 w K λY w=>dx (bA 25 #[(0,(iN 7))]) w K λZ w=>dx (bF 22 2 #[(0,(.string ⟨#[82,76]⟩)),(1,(.string ⟨#[65,72,120]⟩))]) w K λt50 w=>cx 22 #[Z,t50,(.slice av 0 0),(.string ⟨#[74]⟩)] w K λA w=>exx A 0 w K λt52 w=>exx A 1 w K λt53 w=>alx 25 w K λi w=>stx 25 i t52 w K λ_ w=>ldx 25 i w K λt55 w=>cx 13 #[t55] w K λB w=>exx B 0 w K λt57 w=>exx B 1 w K λt58 w=>dx (bA 25 #[]) w K λt60 w=>cx 28 #[t60] w K λj w=>exx j 0 w K λt62 w=>exx j 1 w K λt63 w=>exx j 2 w K λt64 w=>HeldX w (λS1 w=>CallX ah 52 #[(.string ⟨#[65,56,53]⟩)] w (ax 72 (pk K)) λk w=>S1 w∧(GDo k au (λE=>CallX ah 52 #[(.string ⟨#[76,90,87]⟩)] w (ax 72 (pk K)) E) w λt67 w=>S1 w∧(GQ k au (λE=>HDo ah S1 (mUn .not t67) E) λt68=>HDo ah S1 (eH k t68 (.bool aq)) λl=>GQ l au (λE=>E P) λt71=>GQ l au (λE=>HDo ah S1 (mEq .eql 30 (.tmp 71) (.const (iN 0)) t71 (iN 0)) E) λt72=>HDo ah S1 (eH l t72 (.bool aq)) λe=>GQ e au (λE=>E O) λt75=>GDo e au (λE=>DoX ah (bF 22 2 #[(0,(.string ⟨#[65,83,67,73,73,72,101,120,68,101,99,111,100,101]⟩)),(1,(.string ⟨#[70,108,97,116,101,68,101,99,111,100,101]⟩))]) w (ax 72 (pk K)) E) w λt76 w=>S1 w∧(GDo e au (λE=>CallX ah 45 #[t75,t76] w (ax 72 (pk K)) E) w λt77 w=>S1 w∧(HDo ah S1 (eH e t77 (.bool aq)) λf=>GQ f au (λE=>E h) λt80=>GQ f au (λE=>HDo ah S1 (mB .len #[40] 3 #[aq] #[t80]) E) λt81=>GQ f au (λE=>HDo ah S1 (mEq .eql 3 (.tmp 81) (.const (iN 2)) t81 (iN 2)) E) λt82=>HDo ah S1 (eH f t82 (.bool aq)) λb=>GQ b au (λE=>E h) λt85=>GQ b au (λE=>HDo ah S1 (mIA 40 t85 (iN 0)) E) λt86=>GQ b au (λE=>HDo ah S1 (aJ 27 t86) E) λt87=>GQ b au (λE=>HDo ah S1 (aJ 27 a) E) λt88=>GQ b au (λE=>HDo ah S1 (mEq .eql 27 (.tmp 87) (.tmp 88) t87 t88) E) λt89=>HDo ah S1 (eH b t89 (.bool aq)) λc=>GQ c au (λE=>E h) λt92=>GQ c au (λE=>HDo ah S1 (mIA 40 t92 (iN 1)) E) λt93=>GQ c au (λE=>HDo ah S1 (aJ 27 t93) E) λt94=>GQ c au (λE=>HDo ah S1 (aJ 27 a) E) λt95=>GQ c au (λE=>HDo ah S1 (mEq .eql 27 (.tmp 94) (.tmp 95) t94 t95) E) λt96=>HDo ah S1 (eH c t96 (.bool aq)) λm=>GQ m au (λE=>E S) λt99=>GQ m au (λE=>HDo ah S1 (mEq .eql 9 (.tmp 99) (.const (.string ⟨#[52,65,62]⟩)) t99 (.string ⟨#[52,65,62]⟩)) E) λt100=>HDo ah S1 (eH m t100 (.bool aq)) λn=>GQ n au (λE=>E T) λt103=>GQ n au (λE=>HDo ah S1 (mEq .eql 30 (.tmp 103) (.const (iN 0)) t103 (iN 0)) E) λt104=>HDo ah S1 (eH n t104 (.bool aq)) λo=>GQ o au (λE=>E V) λt107=>GQ o au (λE=>HDo ah S1 (mEq .eql 9 (.tmp 107) (.const (.string ⟨#[74]⟩)) t107 (.string ⟨#[74]⟩)) E) λt108=>HDo ah S1 (eH o t108 (.bool aq)) λp=>GQ p au (λE=>E W) λt111=>GQ p au (λE=>HDo ah S1 (mEq .eql 30 (.tmp 111) (.const (iN 0)) t111 (iN 0)) E) λt112=>HDo ah S1 (eH p t112 (.bool aq)) λq=>GQ q au (λE=>E Y) λt115=>GQ q au (λE=>HDo ah S1 (mEq .eql 30 (.tmp 115) (.const (iN 15)) t115 (iN 15)) E) λt116=>HDo ah S1 (eH q t116 (.bool aq)) λr=>GQ r au (λE=>E t53) λt119=>GQ r au (λE=>HDo ah S1 (mEq .eql 30 (.tmp 119) (.const (iN 0)) t119 (iN 0)) E) λt120=>HDo ah S1 (eH r t120 (.bool aq)) λd=>GQ d au (λE=>HDo ah S1 (mFA 25 i 4) E) λt123=>GQ d au (λE=>HDo ah S1 (aJ 22 t123) E) λt124=>GQ d au (λE=>HDo ah S1 (mB .len #[22] 3 #[aq] #[t124]) E) λt125=>GQ d au (λE=>HDo ah S1 (mEq .eql 3 (.tmp 125) (.const (iN 1)) t125 (iN 1)) E) λt126=>HDo ah S1 (eH d t126 (.bool aq)) λs=>GQ s au (λE=>E t57) λt129=>GQ s au (λE=>HDo ah S1 (mEq .eql 9 (.tmp 129) (.const (.string ⟨#[74]⟩)) t129 (.string ⟨#[74]⟩)) E) λt130=>HDo ah S1 (eH s t130 (.bool aq)) λt=>GQ t au (λE=>E t58) λt133=>GQ t au (λE=>HDo ah S1 (mEq .eql 30 (.tmp 133) (.const (iN 0)) t133 (iN 0)) E) λt134=>HDo ah S1 (eH t t134 (.bool aq)) λu=>GQ u au (λE=>E t64) λt137=>GQ u au (λE=>HDo ah S1 (mEq .eql 30 (.tmp 137) (.const (iN 10)) t137 (iN 10)) E) λt138=>HDo ah S1 (eH u t138 (.bool aq)) λt139=>K (.returned t139) w)))))
theorem xX:pE w k0->Calls ah 12 #[] w k0:=cw func12
def jM(t0 t1 t2 w)(K:KT):=nz f4 1 [] [] [] (zg [0,1,2] [t0,t1,t2]) w K
theorem qQ:jM t0 t1 t2 w k0->Calls ah 4 #[t0,t1,t2] w k0:=cw func4
end
end Go.Proofs.YtlipjfcbjemicaaGreatDoor
