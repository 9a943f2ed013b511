/- Texts that go together: DfI SBitW DfA InfGx DfB SDefl DfC DfJ DfD DfK DfL DfM DfN DfO DfP. -/
import Derived.Test.YtlipjfcbjemicaaGreatDoorRows
import Derived.Test.YtlipjfcbjemicaaGreatDoorMcpbkfgof
set_option linter.defProp false
set_option linter.unusedSimpArgs false
set_option linter.unusedVariables false
set_option maxRecDepth 20000
open Go.Proofs.Tryz
open Go.Proofs.Tryz renaming prog->ah
open Option renaming some->aw,none->av
open Bool renaming true->au,false->aq
open Go renaming Value->ao,World->ak
open Decidable renaming decide->ai
namespace Go.Proofs.YtlipjfcbjemicaaGreatDoor
variable{A S:Nat->Prop}{K:VWP}{M N:Eng.Mem}{PK PK2:PKT}{R:List Eng.Ent}{Sy cl l near:List Nat}{T1 T2 U:TypeId}{W w w0:ak}{a way:Int}{b cap fb i j jm m t tb:Nat}{cb:Array Bool}{cs:List ao}{k':IntKind}{ps:List Pc}{r:List Cn}{v v' va:ao}{xo yo:Operand}{t0 t1 t2 t3:ao}{k0:Eng.KT}
section
open Eng Go.RowKit
def cnC (w s:Nat)(a b:ao):List Value:=[.int .i64 (w:Int),.int .i64 (s:Int),a,b]
abbrev cnE (bl w s:Nat)(a b:ao):Ent:=.cells bl (cnC w s a b) 344
theorem VD:fOff ah 344 0=aw 0:=krx
theorem ZI:fOff ah 344 1=aw 1:=krx
theorem UN:fOff ah 344 2=aw 2:=krx
theorem ajM:fOff ah 344 3=aw 3:=krx
def CnAt (A:Nat->Prop)(w:ak):ao->Cn->Prop
|v,.leaf wt s=>∃b,v=.pointer (aw ⟨b,0,av⟩)∧A b∧(cnE b wt s (.pointer av) (.pointer av)).is w
|v,.node x y=>∃b va vb,v=.pointer (aw ⟨b,0,av⟩)∧A b∧(cnE b (x.wt+y.wt) 0 va vb).is w∧CnAt A w va x∧CnAt A w vb y
theorem SG (h:M.le N){T:TypeId}(hA:M.A b)(k:(Ent.cells b cs T).is M.w):(Ent.cells b cs T).is N.w:=by
 show N.w.heap[b]?=_;rw[h.has b hA];exact k
theorem CnAt.le {M N:Mem}(h:M.le N):∀{c:Cn} {v:ao},CnAt M.A M.w v c->CnAt N.A N.w v c
|.leaf wt s,v,⟨b,h1,h2,h3⟩=>⟨b,h1,h.A b h2,SG h h2 h3⟩
|.node x y,v,⟨b,va,vb,h1,h2,h3,h4,h5⟩=>⟨b,va,vb,h1,h.A b h2,SG h h2 h3,CnAt.le h h4,CnAt.le h h5⟩
theorem kP (hM:M.has W){T:TypeId}(hA:M.A b)(k:(Ent.cells b cs T).is M.w):(Ent.cells b cs T).is W:=by
 show W.heap[b]?=_;rw[hM b hA];exact k
theorem CnAt.ptr {c:Cn}(h:CnAt A w v c):∃b,v=.pointer (aw ⟨b,0,av⟩)∧A b:=by
 cases c with
|leaf wt s=>obtain⟨b,h1,h2,_⟩:=h;exact⟨b,h1,h2⟩
|node x y=>obtain⟨b,_,_,h1,h2,_⟩:=h;exact⟨b,h1,h2⟩
theorem CnAt.wt {M:Mem}{v:ao}{c:Cn}(h:CnAt M.A M.w v c):∃b s va vb,v=.pointer (aw ⟨b,0,av⟩)∧M.A b∧(cnE b c.wt s va vb).is M.w:=by
 cases c with
|leaf wt s=>obtain⟨b,h1,h2,h3⟩:=h;exact⟨b,s,_,_,h1,h2,h3⟩
|node x y=>obtain⟨b,va,vb,h1,h2,h3,_⟩:=h;exact⟨b,0,va,vb,h1,h2,h3⟩
def okM (M:Mem)(x:Pc):Prop:=CnAt M.A M.w x.1 x.2
theorem On (a b:Nat)(w:ak):Ret ah 353 #[.int .i64 (a:Int),.int .i64 (b:Int)] w (λv w'=>v=.int .i64 (cmpI a b)∧w=w'):=by
 refine aK λK hK=>CY ?_;unfold vJ nz;refine c_eq (LA a w) (c_eq (LA b w) ?_);unfold cmpI at hK;simp only[rs];by_cases h1:a < b
 ·simp only[show ai ((a:Int) < (b:Int))=au from anZ om,i_t];rw[anX h1] at hK;exact hK _ _ ⟨rfl,rfl⟩
 ·simp only[show ai ((a:Int) < (b:Int))=aq from anY om,i_f];rw[anW h1] at hK;by_cases h2:b < a
  ·simp only[show ai ((b:Int) < (a:Int))=au from anZ om,i_t];rw[anX h2] at hK;exact hK _ _ ⟨rfl,rfl⟩
  ·simp only[show ai ((b:Int) < (a:Int))=aq from anY om,i_f];rw[anW h2] at hK;exact hK _ _ ⟨rfl,rfl⟩
theorem Jd {c:Cn}(hM:M.has W)(h:CnAt M.A M.w v c):Ret ah 345 #[v] W (λr w'=>r=.int .i64 (c.wt:Int)∧W=w'):=by
 refine aK λK hK=>Ey ?_;unfold Bu nz;obtain⟨b,s,va,vb,rfl,h2,h3⟩:=h.wt;rw[aY,aP VD];refine aC (aB bP (aI (T:=344) (cs:=cnC c.wt s va vb) (kP hM h2 h3) (i:=0) rfl)) |>.mpr ?_;exact hK _ _ ⟨rfl,rfl⟩
theorem Es:bZ ah 345=true:=krx
theorem Md:bZ ah 352=true:=krx
theorem amD:eM ah 359=true:=krx
def wtF:Value:=.func (.func 345) #[] #[]
abbrev fcE (b:Nat):Ent:=.cells b [wtF] 359
theorem YF {x y:Pc}(hM:M.has W)(hA:M.A fb)(hf:(fcE fb).is M.w)(hx:okM M x)(hy:okM M y) :
  Ret ah 352 #[x.1,y.1,.pointer (aw ⟨fb,0,av⟩)] W (λv w'=>v=.int .i64 (cmpI (pw x) (pw y))∧Below W.heap.size W w'):=by
 refine aK λK hK=>iW ?_;unfold eQ nz;have ld:∀{W:ak},M.has W->(aJ 359 (.pointer (aw ⟨fb,0,av⟩))).run ah W=.ok (.value wtF) W:=λhM=>aB amD (aI (T:=359) (cs:=[wtF]) (kP hM hA hf) (i:=0) rfl);have hst:=Own.start W;refine cR (λV=>Own W V []) hst.drew ?_;have hmv:∀{V:ak},Own W V []->M.has V:=λh=>Mem.O7 hM h.below;refine q_at _ (λV h=>ld (hmv h)) ?_;refine XS Es (.int .i64 (pw x:Int)) (λV h=>(Jd (hmv h) hx).mono λv w' r=>⟨r.1,by rw[<-r.2];exact h⟩) ?_;refine q_at _ (λV h=>ld (hmv h)) ?_;refine XS Es (.int .i64 (pw y:Int)) (λV h=>(Jd (hmv h) hy).mono λv w' r=>⟨r.1,by rw[<-r.2];exact h⟩) ?_;refine kS (.int .i64 (cmpI (pw x) (pw y))) (λV h=>(On (pw x) (pw y) V).mono λv w' r=>⟨r.1,by rw[<-r.2];exact h⟩) ?_;intro V ho;exact hK _ _ ⟨rfl,ho.done⟩
theorem ahE (hA:M.A fb)(hf:(fcE fb).is M.w):CmpOk M (.func (.func 352) #[] #[.pointer (aw ⟨fb,0,av⟩)]) (okM M) where
 ptr:=λx hx=>by
  obtain⟨b,h1,_⟩:=CnAt.ptr hx;rw[h1];exact⟨rfl,rfl⟩
 run:=⟨_,_,_,rfl,Md,λW x y hM hx hy=>YF hM hA hf hx hy⟩
theorem MZ:elB ah 342 1 8=true:=krx
theorem afV:eM ah 341=true:=krx
section
variable {w:ak}{PK:PKT}{K:VWP}{S:Nat->Prop}{w0:ak}{L T:List Ent}
theorem VA (h:∀x∈ps,okM M x):∀u∈pcW ps,u.oneCell'=true:=by
 intro u hu;obtain⟨x,hx,rfl⟩:=apN.1 hu;obtain⟨b,h1,_⟩:=CnAt.ptr (h x hx);rw[h1];rfl
theorem Qx (a b:List Pc):pcW (a++b)=pcW a++pcW b:=by simp[pcW]
theorem acY (ho:OwnS S w0 w L)(h0:0 < m)(hb:m<=1000000000)
  (k:∀b c w',m<=c->OwnS S w0 w' (.urow 342 1 (.slice (aw ⟨b,0,av⟩) 0 c) 0 []::L)->K (.slice (aw ⟨b,0,av⟩) m c) w') :
  DoX ah (mB .append #[341,3] 341 cb #[.slice av 0 0,.int .i64 (m:Int)]) w PK K:=by
 obtain⟨i,z,hi,hz,hi1,hi2,hz1⟩:=jC MZ;have hold':(Builtin.firstCells i.size 0 (.slice av 0 0)).run ah w.drew=.ok ([]:List ao).toArray w.drew:=by
  simp[Builtin.firstCells]
 have hge:=grownCap_ge w (0+m) 0 342;have hle:=grownCap_le_maxLen w (0+m) 0 342 (by simp only[maxLen];omega);have hr:=Lib.run_append_grow_zeros (P:=ah) w 341 3 341 342 i z .i64 .i64 aqT apH hi hz av 0 0 [] hold' m h0 om om om (by
   rw[hi2];omega) (by rw[hi2];exact growslice_fits om om)
 have hzc:∀x,(Builtin.zeroCells z.cells x).toList.length=x*1:=by intro x;simp[Builtin.zeroCells,hz1]
 obtain⟨zs,hzs⟩:∃zs,zs=(Builtin.zeroCells z.cells m).toList++(Builtin.zeroCells z.cells (grownCap w (0+m) 0 342 - (0+m))).toList:=⟨_,rfl⟩;have hlen:zs.length=grownCap w (0+m) 0 342:=by
  rw[hzs,aoC,hzc,hzc];omega
 have key:=(ho.drew).alloc zs 342;have e:zs.toArray=([]:List ao).toArray++Builtin.zeroCells z.cells m++Builtin.zeroCells z.cells (grownCap w (0+m) 0 342 - (0+m)):=by
  rw[hzs];simp
 have hr':(mB .append #[341,3] 341 cb #[.slice av 0 0,.int .i64 (m:Int)]).run ah w=.ok (.value (.slice (aw ⟨w.heap.size,0,av⟩) (0+m) (grownCap w (0+m) 0 342))) (w.drew.alloc (.cells zs.toArray 342)):=by
  rw[e];simp[mB,builtin,hr]
 have hu:=key.toU 1 0 (grownCap w (0+m) 0 342) om om (by simp only[maxLen] at hle;exact hle);rw[arJ,arP] at hu;rw[aoN] at hr' hu hge;exact jV hr' (k _ _ _ hge hu)
theorem akA:(Tryz.prog.info? 341).map (·.size)=aw 1:=krx
theorem afD (ho:OwnS S w0 w L)(h0:0 < m)(hb:m<=1000000000)(k:∀v W,OwnS S w0 W (.urow 342 1 v 0 []::L)->K v W):CallX ah 360 #[.slice av 0 0,.int .i64 (m:Int)] w PK K:=by
 refine eW (eJ (k0:=RetK λv W=>OwnS S w0 W (.urow 342 1 v 0 []::L)) ?_) (λe W ⟨v,he,ho⟩=>by subst he;exact k v W ho);unfold cH nz;refine join λJ hJ=>?_;simp only[rs,show ai ((m:Int) < 0)=aq from anY om,i_f];refine hJ _ _ λ_=>?_;unfold cC nz;refine join λJ2 hJ2=>?_;rw[RG aqT,bG aqT];simp only[rs];have e0:IntKind.i64.wrap (((0:Nat):Int) - ((0:Nat):Int))=0:=aA om om;rw[e0];rw[aA om om];simp only[show ai ((0:Int) < (m:Int) - 0)=au from anZ om,i_t];rw[RG aqT,Int.sub_zero];have es:∀{PK:PKT} {K:VWP},DoX ah (cM 341 (.slice av 0 0) av (aw (.int .i64 ((0:Nat):Int))) av) w PK K=K (.slice av 0 0) w:=aC krx;rw[es];refine acY ho h0 hb λb c w2 hc ho=>?_;rw[bG aqT];refine aC (jB aqT GN om om) |>.mpr ?_;refine hJ2 _ _ λ_=>?_;simp only[cA,gd,nz];have e:subA (aw ⟨b,0,av⟩) 0 c 1=aw ⟨b,0,av⟩:=Hq (a:=⟨b,0,av⟩);rw[e];exact retK ho
theorem YD {lb:Nat}{vb:ao}{pa pb:List Pc}(hm:T[jm]?=aw (.mem M))(ho:OwnS S w0 w (.cells lb [va,vb] 341::T))(ha:SlA M.A M.w va 1 pa.length (pcW pa))(hb:SlA M.A M.w vb 1 pb.length (pcW pb))
  (hoa:∀x∈pa,okM M x) (hob:∀x∈pb,okM M x) (h0:0 < pa.length) (hla:pa.length<=100000000) (hlb:pb.length<=100000000)
  (k:∀v W,OwnS S w0 W (pcE v (pa++pb)::.cells lb [va,vb] 341::T)->K v W) :
  CallX ah 350 #[.slice (aw ⟨lb,0,av⟩) 2 2] w PK K:=by
 refine eW (eD (k0:=RetK λv W=>OwnS S w0 W (pcE v (pa++pb)::.cells lb [va,vb] 341::T)) ?_) (λe W ⟨v,he,ho⟩=>by subst he;exact k v W ho);unfold cB nz;rw[bG awK];have hm1:∀{W:ak} {e:Ent},OwnS S w0 W (e::T)->M.has W:=λho=>ho.hasM (jm+1) (by rw[apW];exact hm);have hm2:∀{W:ak} {e e':Ent},OwnS S w0 W (e::e'::T)->M.has W:=λho=>ho.hasM (jm+2) (by rw[apW,apW];exact hm);have hia:∀{i:Nat} (W:ak),i < 2->(mIA 373 (.slice (aw ⟨lb,0,av⟩) 2 2) (.int .i64 (i:Int))).run ah W=.ok (.value (.pointer (aw ⟨lb,i,av⟩))) W:=λ{i} W hi=>by
  have:=dZ (P:=ah) (T:=373) (b:=lb) (off:=0) (cap:=2) (n:=2) (k:=.i64) (i:=(i:Int)) (w:=W) awK akA om om
  rwa [aoF,aoS,aoN] at this
 have hsl:∀{i:Nat} {W:ak},i < 2->M.has W->Sl W ([va,vb].getD i undef) 1 ([pa,pb].getD i []).length (pcW ([pa,pb].getD i [])):=λ{i W} hi hW=>by
  rcases (by omega:i=0∨i=1) with rfl|rfl
  ·exact ha.now hW
  ·exact hb.now hW
 have hgl:∀{i:Nat},i < 2->[va,vb][i]?=aw ([va,vb].getD i undef):=λ{i} hi=>by
  rcases (by omega:i=0∨i=1) with rfl|rfl<;>rfl
 refine loop (λvs W=>∃i sz:Nat,vs=[.int .i64 (sz:Int),.int .i64 (i:Int)]∧i<=2∧sz=(([pa,pb].take i).flatten).length∧OwnS S w0 W (.cells lb [va,vb] 341::T)) (λvs _=>2 - n1 vs) ⟨0,0,rfl,om,rfl,ho⟩ ?_;clear ho;rintro vs w1 ⟨i,sz,rfl,hi,hsz,ho⟩ _;simp only[bT,gd,rs,nz];by_cases hlt:(i:Int) < ((2:Nat):Int)
 ·simp only[hlt,aoA,i_t];have hi2:i < 2:=om
  refine join λJ hJ=>?_;refine aC (hia w1 hi2) |>.mpr (aC (aB afV (ho.cell 0 rfl i (hgl hi2))) |>.mpr ?_);rw[bB aqT (hsl hi2 (hm1 ho))];have hle:([pa,pb].getD i []).length<=100000000:=by
   rcases (by omega:i=0∨i=1) with rfl|rfl
   ·exact hla
   ·exact hlb
  have hsl2:sz<=100000000:=by
   rw[hsz];rcases (by omega:i=0∨i=1) with rfl|rfl
   ·simp
   ·simpa using hla
  have hnx:sz+([pa,pb].getD i []).length=(([pa,pb].take (i+1)).flatten).length:=by
   rw[hsz];rcases (by omega:i=0∨i=1) with rfl|rfl<;>simp
  simp only[rs];rw[aA om om];simp only[show ai ((sz:Int)+((([pa,pb].getD i []).length:Nat):Int) < 0)=aq from anY om,i_f];refine hJ _ _ λ_=>?_;simp only[bS,gd,rs,nz];rw[aA om om];exact aQ ⟨i+1,sz+([pa,pb].getD i []).length,by congr 2,om,hnx,ho⟩ (by simp[n1,RowKit.intOf];omega)
 ·simp only[hlt,aoB,i_f];have hie:i=2:=om
  subst hie;have hsz:sz=pa.length+pb.length:=by rw[hsz];simp
  refine afD ho om om λv0 w2 ho=>?_;rw[bG awK];refine loop (λvs W=>∃(i:Nat) (v:ao),vs=[v,.int .i64 (i:Int)]∧i<=2∧OwnS S w0 W (pcE v (([pa,pb].take i).flatten)::.cells lb [va,vb] 341::T)) (λvs _=>2 - n1 vs) ⟨0,v0,rfl,om,ho⟩ ?_;clear ho;rintro vs w3 ⟨i,v,rfl,hi,ho⟩ _;simp only[bR,gd,rs,nz];by_cases hlt2:(i:Int) < ((2:Nat):Int)
  ·simp only[hlt2,aoA,i_t];have hi2:i < 2:=om
   refine aC (hia w3 hi2) |>.mpr (aC (aB afV (ho.cell 1 rfl i (hgl hi2))) |>.mpr ?_);have hle:([pa,pb].getD i []).length<=100000000:=by
    rcases (by omega:i=0∨i=1) with rfl|rfl
    ·exact hla
    ·exact hlb
   have hle2:(([pa,pb].take i).flatten).length<=100000000:=by
    rcases (by omega:i=0∨i=1) with rfl|rfl
    ·simp
    ·simpa using hla
   have hone:∀u∈pcW ([pa,pb].getD i []),u.oneCell'=true:=by
    rcases (by omega:i=0∨i=1) with rfl|rfl
    ·exact VA hoa
    ·exact VA hob
   have hnx:([pa,pb].take (i+1)).flatten=([pa,pb].take i).flatten++[pa,pb].getD i []:=by
    rcases (by omega:i=0∨i=1) with rfl|rfl<;>simp
   refine aX 0 aqT MZ dc ho rfl (hsl hi2 (hm2 ho)) hone om om λv' w4 ho=>?_
   try simp only[rs]
   rw[aA om om];refine aQ ⟨i+1,v',by congr 2,om,?_⟩ (by simp[n1,RowKit.intOf];omega);rw[hnx];unfold pcE;rw[Qx,aoC];exact ho
  ·simp only[hlt2,aoB,i_f];have hie:i=2:=om
   subst hie;have e:([pa,pb].take 2).flatten=pa++pb:=sm
   rw[e] at ho;exact retK ho
end
theorem okM.le {M N:Mem}(h:M.le N){x:Pc}(k:okM M x):okM N x:=CnAt.le h k
theorem JM (pa pb:List Pc)(va vb:ao)(M:Mem)(w:ak)(hM:M.has w)(ha:SlA M.A M.w va 1 pa.length (pcW pa))(hb:SlA M.A M.w vb 1 pb.length (pcW pb))(hoa:∀x∈pa,okM M x)(hob:∀x∈pb,okM M x)(h0:0 < pa.length)(hla:pa.length<=10000000)(hlb:pb.length<=10000000)
  (h1a:va.oneCell'=au) (h1b:vb.oneCell'=au) :
  RetM ah 327 #[va,vb] M w (λr N=>∃qs:List Pc,qs.Perm (pa++pb)∧Srt.srt pw qs∧(∀x∈qs,okM N x)∧r.oneCell'=au∧SlA N.A N.w r 1 qs.length (pcW qs)):=by
 refine aU hM λK hK=>Ig ?_;unfold ET nz;have ho:OwnS M.A w w [.mem M]:=OwnS.memS hM;refine⟨jS ?_⟩;unfold fD nz;refine bD (λb=>.pointer (aw ⟨b,0,av⟩)) [wtF] 359 (λ_=>by kernel_rfl) ho λfb w1 ho=>?_;have hfe:=ho.at_ 0 rfl;obtain⟨N1,g1,hw1,hblk,ho⟩:=OwnS.freeze (L:=[.mem M]) ho 0 rfl;have hfA:N1.A fb:=hblk fb rfl;have hfis:(fcE fb).is N1.w:=by rw[hw1];exact hfe
 have mb:∀W:ak,(bF 373 2 #[(0,va),(1,vb)]).run ah W=.ok (.value (.slice (aw ⟨W.heap.size,0,av⟩) 2 2)) (W.alloc (.cells [va,vb].toArray 341)):=λW=>by
  cases va<;>first|(cases h1a;done)|(cases vb<;>first|(cases h1b;done)|kernel_rfl)
 refine bD (λb=>.slice (aw ⟨b,0,av⟩) 2 2) [va,vb] 341 mb ho λlb w2 ho=>?_;refine YD (jm:=0) rfl ho (ha.le g1) (hb.le g1) (λx hx=>(hoa x hx).le g1) (λx hx=>(hob x hx).le g1) h0 om om λv w3 ho=>?_;have hok:∀x∈pa++pb,okM N1 x:=λx hx=>by
  rcases apF.1 hx with h|h
  ·exact (hoa x h).le g1
  ·exact (hob x h).le g1
 have hlen:(pa++pb).length=pa.length+pb.length:=aoC;obtain⟨g,cap,rfl⟩:=rW (ho.at_ 0 rfl) om;rw[Cs];refine adM (jm:=1) (ahE hfA hfis) rfl om rfl ho hok λw4 qs hp hs ho=>?_;have hql:=hp.length_eq;have ho:OwnS M.A w w4 (.urow 342 1 (.slice (aw ⟨g,0,av⟩) (pa++pb).length cap) qs.length (pcW qs)::[.cells lb [va,vb] 341,.mem N1]):=ho;obtain⟨N2,g2,hsl,ho⟩:=OwnS.cI (L:=[.cells lb [va,vb] 341,.mem N1]) ho 1 rfl;exact hK _ _ N2 _ 1 ho rfl (g1.trans g2) ⟨qs,hp,hs,λx hx=>(hok x (hp.mem_iff.1 hx)).le g2,rfl,hsl⟩
theorem pcAt (hs:SlA M.A M.w v 1 ps.length (pcW ps))(hi:i < ps.length) :
  ∃p,(∀W,(mIA 341 v (.int .i64 (i:Int))).run ah W=.ok (.value (.pointer (aw p))) W)∧∀W,M.has W->(aJ 342 (.pointer (aw p))).run ah W=.ok (.value ps[i].1) W:=by
 obtain⟨b,off,cap,rfl,_⟩:=bY hs.1 om;refine⟨⟨b,off+i,av⟩,λW=>?_,λW hW=>?_⟩
 ·have:=dZ (P:=ah) (T:=341) (b:=b) (off:=off) (cap:=cap) (n:=ps.length) (k:=.i64) (i:=(i:Int)) (w:=W) aqT GN om om;rw[aoF,aoS] at this;exact this
 ·obtain⟨b',off',cap',he,hc⟩:=bY (hs.now hW) om;cases he;refine aB Nu (hc i _ ?_);rw[WX hi,aoE,aoI hi];rfl
theorem Ua (ps:List Pc)(v:ao)(M:Mem)(w:ak)(hM:M.has w)(hs:SlA M.A M.w v 1 ps.length (pcW ps))(hok:∀x∈ps,okM M x)(hl:ps.length<=1000000)(hwt:∀x∈ps,pw x<=1000000000000000) :
  RetM ah 328 #[v] M w (λr N=>∃qs:List Pc,qs.map (·.2)=Cn.jR (ps.map (·.2))∧(∀x∈qs,okM N x)∧r.oneCell'=au∧SlA N.A N.w r 1 qs.length (pcW qs)):=by
 refine aU hM λK hK=>Ke ?_;unfold Hp nz;have ho:OwnS M.A w w [.mem M]:=OwnS.memS hM;have ho:OwnS M.A w w [.urow 342 1 nilS 0 [],.mem M]:=OwnS.nilU (L:=[.mem M]) ho _ _;refine loop (λvs W=>∃(i:Nat) (v':ao) (qs:List Pc) (N:Mem),vs=[v',.int .i64 (i:Int)]∧i<=ps.length+1∧M.le N∧qs.length=i / 2∧i % 2=0∧qs.map (·.2)++Cn.jR ((ps.drop i).map (·.2))=Cn.jR (ps.map (·.2))∧(∀x∈qs,okM N x)∧OwnS M.A w W [pcE v' qs,.mem N]) (λvs _=>ps.length+2 - n1 vs) ⟨0,nilS,[],M,rfl,om,M.le_refl,rfl,rfl,rfl,(λx hx=>by cases hx),ho⟩ ?_;clear ho;rintro vs w1 ⟨i,v',qs,N,rfl,hi,hle,hql,hi2,hX,hqo,ho⟩ _;simp only[Dz,gd,rs,iN,bnx,lnx];rw[aA om om,bB aqT (hs.now (Mem.Ov hle (ho.hasM 1 rfl)))];simp only[rs];by_cases hlt:(i:Int)+1 < (ps.length:Int)
 ·simp only[hlt,aoA,i_t];have hi1:i+1 < ps.length:=om
  have hld:=λ{j:Nat} (hj:j < ps.length)=>pcAt hs hj;have hmN:∀{V:ak},OwnS M.A w V [pcE v' qs,.mem N]->M.has V:=λh=>Mem.Ov hle (h.hasM 1 rfl);obtain⟨p0,ia0,ld0⟩:=pcAt hs (i:=i) om;obtain⟨p1,ia1,ld1⟩:=pcAt hs (i:=i+1) om;have hx0:=hok _ (aoR (show i < ps.length by omega));have hx1:=hok _ (aoR (show i+1 < ps.length by omega));have hw0:=hwt _ (aoR (show i < ps.length by omega));have hw1:=hwt _ (aoR (show i+1 < ps.length by omega));have hdr:ps.drop i=ps[i]::ps[i+1]::ps.drop (i+2):=by
   rw[apV (show i < ps.length by omega),apV (show i+1 < ps.length by omega)]
  generalize ps[i]=x at ld0 hx0 hw0 hdr;generalize ps[i+1]=y at ld1 hx1 hw1 hdr;have hx0N:=hx0.le hle;have hx1N:=hx1.le hle;obtain⟨b0,s0,va0,vb0,e0,hA0,hc0⟩:=CnAt.wt hx0;obtain⟨b1,s1,va1,vb1,e1,hA1,hc1⟩:=CnAt.wt hx1;have l0:∀{V:ak},M.has V->(aJ 3 (.pointer (aw ⟨b0,0+0,av⟩))).run ah V=.ok (.value (.int .i64 (x.2.wt:Int))) V:=λhM=>aB bP (aI (T:=344) (cs:=cnC x.2.wt s0 va0 vb0) (kP hM hA0 hc0) (i:=0) rfl);have l1:∀{V:ak},M.has V->(aJ 3 (.pointer (aw ⟨b1,0+0,av⟩))).run ah V=.ok (.value (.int .i64 (y.2.wt:Int))) V:=λhM=>aB bP (aI (T:=344) (cs:=cnC y.2.wt s1 va1 vb1) (kP hM hA1 hc1) (i:=0) rfl);refine cR (λV=>OwnS M.A w V [pcE v' qs,.mem N]) ho.drew ?_;refine q_do _ ia0 (q_at _ (λV h=>ld0 V (hmN h)) ?_);rw[e0];refine q_do _ (λ_=>cN) (q_do _ (λ_=>bH VD) (q_at _ (λV h=>l0 (hmN h)) ?_));refine iV ?_;rw[aA om om,show (i:Int)+1=((i+1:Nat):Int) by omega];refine q_do _ ia1 (q_at _ (λV h=>ld1 V (hmN h)) ?_);rw[e1];refine q_do _ (λ_=>cN) (q_do _ (λ_=>bH VD) (q_at _ (λV h=>l1 (hmN h)) ?_));have hpw0:x.2.wt<=1000000000000000:=hw0;have hpw1:y.2.wt<=1000000000000000:=hw1;refine iV ?_;rw[aA om om,show (x.2.wt:Int)+(y.2.wt:Int)=((x.2.wt+y.2.wt:Nat):Int) by omega];refine q_do _ ia0 (q_at _ (λV h=>ld0 V (hmN h)) ?_);refine iV ?_;rw[aA om om,show (i:Int)+1=((i+1:Nat):Int) by omega];refine q_do _ ia1 (q_at _ (λV h=>ld1 V (hmN h)) ?_);rw[e0,e1];refine q_do (.agg (cnC (x.2.wt+y.2.wt) 0 (.pointer (aw ⟨b0,0,av⟩)) (.pointer (aw ⟨b1,0,av⟩))).toArray) (λ_=>by kernel_rfl) ?_;intro w2 ho;refine bD (λb=>.pointer (aw ⟨b,0,av⟩)) (cnC (x.2.wt+y.2.wt) 0 (.pointer (aw ⟨b0,0,av⟩)) (.pointer (aw ⟨b1,0,av⟩))) 344 (λ_=>by kernel_rfl) ho λnb w3 ho=>?_;have hne:=ho.at_ 0 rfl;obtain⟨N1,g1,hN1,hblk,ho⟩:=OwnS.freeze (L:=[pcE v' qs,.mem N]) ho 1 rfl;have hz:okM N1 (.pointer (aw ⟨nb,0,av⟩),.node x.2 y.2):=by
   refine⟨nb,.pointer (aw ⟨b0,0,av⟩),.pointer (aw ⟨b1,0,av⟩),rfl,hblk nb rfl,by rw[hN1];exact hne,?_,?_⟩
   ·have:=hx0N.le g1;unfold okM at this;rw[e0] at this;exact this
   ·have:=hx1N.le g1;unfold okM at this;rw[e1] at this;exact this
  have ho:OwnS M.A w w3 [pcE v' qs,.mem N1]:=ho;refine bD (λb=>.slice (aw ⟨b,0,av⟩) 1 1) [.pointer (aw ⟨nb,0,av⟩)] 342 (λ_=>by kernel_rfl) ho λsb w4 ho=>?_;refine aX 1 aqT MZ dc ho rfl (eG (ho.at_ 0 rfl) dc rfl) (λu hu=>by rw[aoZ.1 hu];rfl) om om λv2 w5 ho=>?_
  try simp only[rs]
  rw[aA om om];have ho:OwnS M.A w w5 [pcE v2 (qs++[(.pointer (aw ⟨nb,0,av⟩),.node x.2 y.2)]),.mem N1]:=by
   unfold pcE;rw[Qx,aoC];exact ho.tail
  refine aQ ⟨i+2,v2,_,N1,rfl,om,hle.trans g1,by rw[aoC,apL];omega,om,?_,λu hu=>?_,ho⟩ (by simp[n1,RowKit.intOf];omega)
  ·rw[<-hX,hdr,apX,aoL];rfl
  ·rcases apF.1 hu with h|h
   ·exact (hqo u h).le g1
   ·rw[aoZ.1 h];exact hz
 ·simp only[hlt,aoB,i_f];have hv1:=eF (ho.at_ 0 rfl);have hpe:Cn.jR ((ps.drop i).map (·.2))=[]:=by
   have hd:(ps.drop i).length<=1:=by rw[aoJ];omega
   rcases hp:ps.drop i with _|⟨x,_|⟨y,t⟩⟩
   ·rfl
   ·rfl
   ·rw[hp] at hd;simp at hd
  rw[hpe,aoV] at hX;obtain⟨N2,g2,hsl,ho⟩:=OwnS.cI (L:=[.mem N]) ho 0 rfl;exact hK _ _ N2 _ 0 ho rfl (hle.trans g2) ⟨qs,hX,λx hx=>(hqo x hx).le g2,hv1,hsl⟩
end
section
open Eng
def Oo(w)(K:KT):=nz f287 1 [] [] [] (zg [] []) w K
theorem OW:Oo w k0->Calls ah 287 #[] w k0:=cw func287
def uG(t0 t1 t2 w)(K:KT):=nz f341 3 [] [] [(2,22)] (zg [0,1,2] [t0,t1,t2]) w K
def zR(t0 t1 t2 w)(K:KT):=nz f341 1 [] [(4,[],λs v j w f=>uG (s 0) (s 1) (s 2) w K)] [] (zg [0,1,2] [t0,t1,t2]) w K
theorem DY:zR t0 t1 t2 w k0->Calls ah 341 #[t0,t1,t2] w k0:=cz [(2,[])] [] func341
def tV(w)(K:KT):=nz f317 31 [] [] [] (zg [] []) w K
def tI(t0 t1 t3 t9 t38 w)(N1:JT)(K:KT):=nz f317 1899 [N1] [nh 9 [38]] [] (zg [0,1,3,9,38] [t0,t1,t3,t9,t38]) w K
def uH(t0 t1 t2 t3 t37 t38 w)(N1:JT)(K:KT):=nz f317 43 [N1] [nh 9 [38],(16,[9],λs v j w f=>tI (s 0) (s 1) (s 3) (vg v 0) (s 38) w (f 0) K),(24,[],λs v j w f=>tV w K)] [] (zg [0,1,2,3,37,38] [t0,t1,t2,t3,t37,t38]) w K
def Ae(t0 t1 t2 t3 w)(K:KT):=nz f317 1 [] [(9,[38],λs v j w f=>uH (s 0) (s 1) (s 2) (s 3) (s 37) (vg v 0) w (f 0) K)] [] (zg [0,1,2,3] [t0,t1,t2,t3]) w K
theorem D3:Ae t0 t1 t2 t3 w k0->Calls ah 317 #[t0,t1,t2,t3] w k0:=cz [(8,[9]),(12,[])] [(4,[38])] func317
def Aa(t0 t1 t2 w)(K:KT):=nz f288 1 [] [] [] (zg [0,1,2] [t0,t1,t2]) w K
theorem D1:Aa t0 t1 t2 w k0->Calls ah 288 #[t0,t1,t2] w k0:=cw func288
def uO(t0 w)(K:KT):=nz f289 1 [] [] [] (zg [0] [t0]) w K
theorem BO:uO t0 w k0->Calls ah 289 #[t0] w k0:=cw func289
def sU(t0 t1 w)(K:KT):=nz f290 7 [] [] [] (zg [0,1] [t0,t1]) w K
def zA(t0 t1 w)(K:KT):=nz f290 1 [] [(6,[],λs v j w f=>sU (s 0) (s 1) w K)] [] (zg [0,1] [t0,t1]) w K
theorem Ee:zA t0 t1 w k0->Calls ah 290 #[t0,t1] w k0:=cz [(3,[])] [] func290
def wF(t0 w)(K:KT):=nz f291 1 [] [] [] (zg [0] [t0]) w K
theorem C6:wF t0 w k0->Calls ah 291 #[t0] w k0:=cw func291
def jP(t0 w)(K:KT):=nz f318 1 [] [] [] (zg [0] [t0]) w K
theorem sJ:jP t0 w k0->Calls ah 318 #[t0] w k0:=cw func318
end
section
open Eng Go.RowKit
theorem zo:∀(t:List Nat) (x:Nat),t.length < 8->bz (t++[x]) 0=bz t 0+x*2 ^ t.length
|[],x,_=>by simp[bz]
|[a],x,_=>by simp[bz];omega
|[a,b],x,_=>by simp[bz];omega
|[a,b,c],x,_=>by simp[bz];omega
|[a,b,c,d],x,_=>by simp[bz];omega
|[a,b,c,d,e],x,_=>by simp[bz];omega
|[a,b,c,d,e,f],x,_=>by simp[bz];omega
|[a,b,c,d,e,f,g],x,_=>by simp[bz];omega
|_::_::_::_::_::_::_::_::_,_,h=>by simp at h;omega
theorem zq:∀(t:List Nat),bo t->t.length < 8->bz t 0 < 2 ^ t.length
|[],_,_=>by simp[bz]
|[a],h,_=>by have:=h a sm;simp[bz];omega
|[a,b],h,_=>by have:=h a sm;have:=h b sm;simp[bz];omega
|[a,b,c],h,_=>by have:=h a sm;have:=h b sm;have:=h c sm;simp[bz];omega
|[a,b,c,d],h,_=>by have:=h a sm;have:=h b sm;have:=h c sm;have:=h d sm;simp[bz];omega
|[a,b,c,d,e],h,_=>by have:=h a sm;have:=h b sm;have:=h c sm;have:=h d sm;have:=h e sm;simp[bz];omega
|[a,b,c,d,e,f],h,_=>by have:=h a sm;have:=h b sm;have:=h c sm;have:=h d sm;have:=h e sm;have:=h f sm;simp[bz];omega
|[a,b,c,d,e,f,g],h,_=>by have:=h a sm;have:=h b sm;have:=h c sm;have:=h d sm;have:=h e sm;have:=h f sm;have:=h g sm;simp[bz];omega
|_::_::_::_::_::_::_::_::_,_,h=>by simp at h;omega
theorem yp (h:bo l){x:Nat}(hx:x < 2):∃P c,c < 2 ^ (l.length % 8)∧(if l.length % 8=0 then ay l++[0] else ay l)=P++[UInt8.ofNat c]∧ay (l++[x])=P++[UInt8.ofNat (c+x*2 ^ (l.length % 8))]:=by
 have hs:l=l.take (8*(l.length / 8))++l.drop (8*(l.length / 8)):=(apS ..).symm;have h1:(l.take (8*(l.length / 8))).length=8*(l.length / 8):=by rw[aoH];omega
 have h2:(l.drop (8*(l.length / 8))).length=l.length % 8:=by rw[aoJ];omega
 have hok:bo (l.drop (8*(l.length / 8))):=λb hb=>h b (arZ hb);generalize l.take (8*(l.length / 8))=a at hs h1;generalize l.drop (8*(l.length / 8))=t at hs h2 hok;generalize l.length / 8=k at h1;rw[<-h2,hs,aoL,mn h1,mn h1];have ht:t.length < 8:=om
 have hlt:=zq t hok ht;have e1:ay (t++[x])=[UInt8.ofNat (bz t 0+x*2 ^ t.length)]:=by
  rw[<-zo t x ht];unfold ay;rw[aoC,apL,show (t.length+1+7) / 8=1 by omega];rfl
 by_cases h0:t.length=0
 ·have:t=[]:=arS.1 h0;subst this;refine⟨ay a,0,dc,?_,?_⟩
  ·rw[anX h0];simp[ay]
  ·rw[e1];simp[bz]
 ·refine⟨ay a,bz t 0,hlt,?_,by rw[e1]⟩;rw[anW h0]
  congr 1
  unfold ay;rw[show (t.length+7) / 8=1 by omega];rfl
theorem xp (l:List Nat):(ay l).length<=l.length:=by rw[lx];omega
def wrC (way:Int)(n:Nat)(v:ao):List Value:=[.int .i64 way,.int .i64 ((n % 8:Nat):Int),v]
abbrev wrE (b:Nat)(way:Int)(n:Nat)(v:ao):Ent:=.cells b (wrC way n v) 326
abbrev Wr (b:Nat)(way:Int)(l:List Nat)(v:ao)(T:List Ent):List Ent:=wrE b way l.length v::outR v (ay l)::T
theorem aaC:fOff ah 326 0=aw 0:=krx
theorem Wp:fOff ah 326 1=aw 2:=krx
section
variable {W:ak}{b n:Nat}{way:Int}{v:ao}
theorem aeG (h:(wrE b way n v).is W):(aJ 3 (.pointer (aw ⟨b,0,av⟩))).run ah W=.ok (.value (.int .i64 way)) W:=aB bP (aI (T:=326) (cs:=wrC way n v) h (i:=0) rfl)
theorem adJ (h:(wrE b way n v).is W):(aJ 3 (.pointer (aw ⟨b,0+1,av⟩))).run ah W=.ok (.value (.int .i64 ((n % 8:Nat):Int))) W:=aB bP (aI (T:=326) (cs:=wrC way n v) h (i:=1) rfl)
theorem Wk (h:(wrE b way n v).is W):(aJ 53 (.pointer (aw ⟨b,0+2,av⟩))).run ah W=.ok (.value v) W:=aB Ha (aI (T:=326) (cs:=wrC way n v) h (i:=2) rfl)
theorem TX (h:(wrE b way n v).is W):Ret ah 349 #[.pointer (aw ⟨b,0,av⟩),.int .i64 1] W (λv w'=>v=.int .i64 ((n % 8:Nat):Int)∧Below W.heap.size W w'):=by
 refine aK λK hK=>rG ?_;unfold oQ nz;simp only[rs,aoA,aY];rw[wV];refine aC (adJ h) |>.mpr ?_;exact hK _ _ ⟨rfl,(Own.start W).done⟩
theorem S7 (h:(wrE b way n v).is W)(hw:way=0∨way=1):Ret ah 340 #[.pointer (aw ⟨b,0,av⟩),.int .i64 1] W (λv w'=>v=.bool aq∧Below W.heap.size W w'):=by
 refine aK λK hK=>rN ?_;unfold oV nz;have r:=aeG h;rw[aY,LX];refine aC r |>.mpr ?_;rcases hw with rfl|rfl
 ·simp only[rs,ne_eq,not_true,aoB,g_un];exact hK _ _ ⟨rfl,(Own.start W).done⟩
 ·simp only[rs,show ai ((1:Int)≠0)=au by decide,aY];rw[LX];refine aC r |>.mpr ?_;simp only[rs,ne_eq,not_true,aoB];exact hK _ _ ⟨rfl,(Own.start W).done⟩
end
theorem adV:∀a:Fin 256,∀k:Fin 8,a.val < 2 ^ k.val->bOr .u8 (a.val:Int) ((2 ^ k.val:Nat):Int)=((a.val+2 ^ k.val:Nat):Int):=by decide +kernel
theorem amT:∀a:Fin 256,bOr .u8 (a.val:Int) 0=(a.val:Int):=by decide +kernel
theorem or8 {c x k:Nat}(hk:k < 8)(hc:c < 2 ^ k)(hx:x < 2):bOr .u8 (c:Int) ((x*2 ^ k:Nat):Int)=((c+x*2 ^ k:Nat):Int):=by
 have hp:2 ^ k<=2 ^ 7:=apJ dc om;have h7:(2:Nat) ^ 7=128:=rfl;rcases (by omega:x=0∨x=1) with rfl|rfl
 ·rw[arJ];exact amT ⟨c,om⟩
 ·rw[auJ];exact adV ⟨c,om⟩ ⟨k,hk⟩ hc
theorem Mt :DoX ah (mEq .eql 284 xo yo (.pointer (aw ⟨b,0,av⟩)) (.pointer av)) w PK K=K (.bool aq) w:=aC krx
theorem acS :DoX ah (mEq .neq 284 xo yo (.pointer (aw ⟨b,0,av⟩)) (.pointer av)) w PK K=K (.bool au) w:=aC krx
section
variable {w:ak}{PK:PKT}{K:VWP}{S:Nat->Prop}{w0:ak}{L T:List Ent}
theorem J9 {off:Nat}:DoX ah (mFA 326 (.pointer (aw ⟨b,off,av⟩)) 0) w PK K=K (.pointer (aw ⟨b,off,av⟩)) w:=aP aaC
theorem OL {off:Nat}:DoX ah (mFA 326 (.pointer (aw ⟨b,off,av⟩)) 1) w PK K=K (.pointer (aw ⟨b,off+2,av⟩)) w:=aP Wp
theorem wr_v (ho:OwnS S w0 w L)(j:Nat){n:Nat}(hi:L[j]?=aw (wrE b way n v)):DoX ah (aJ 53 (.pointer (aw ⟨b,0+2,av⟩))) w PK K=K v w:=aS Ha (ho.cell j hi 2 rfl)
theorem wr_u (ho:OwnS S w0 w L)(j:Nat){n:Nat}(hi:L[j]?=aw (wrE b way n v)):DoX ah (aJ 3 (.pointer (aw ⟨b,0+1,av⟩))) w PK K=K (.int .i64 ((n % 8:Nat):Int)) w:=aS bP (ho.cell j hi 1 rfl)
theorem Vv (ho:OwnS S w0 w T)(k:∀b W,OwnS S w0 W (Wr b 0 [] nilS T)->K (.pointer (aw ⟨b,0,av⟩)) W):CallX ah 287 #[] w PK K:=by
 refine eW (OW (k0:=RetK λv W=>∃b,v=.pointer (aw ⟨b,0,av⟩)∧OwnS S w0 W (Wr b 0 [] nilS T)) ?_) (λe W ⟨v,he,b,hv,ho⟩=>by subst he;subst hv;exact k b W ho);unfold Oo nz;have e:∀W:ak,(bA 326 #[]).run ah W=.ok (.value (.agg (wrC 0 0 nilS).toArray)) W:=λW=>by kernel_rfl
 refine aC (e w) |>.mpr ?_;have ho:=ho.nilU 5 1;refine bD (λb=>.pointer (aw ⟨b,0,av⟩)) (wrC 0 0 nilS) 326 (λ_=>by kernel_rfl) ho λb w1 ho=>?_;exact retK ⟨b,rfl,ho⟩
theorem ahC {x:Nat}(ho:OwnS S w0 w (Wr b way l v T))(hok:bo l)(hx:x < 2)(hl:l.length<=100000000000)
  (k:∀v' W,OwnS S w0 W (Wr b way (l++[x]) v' T)->K (.tuple #[]) W):CallX ah 341 #[.pointer (aw ⟨b,0,av⟩),.int .i64 (x:Int),.int .i64 1] w PK K:=by
 refine eW (DY (k0:=RetK λv W=>v=.tuple #[]∧∃v',OwnS S w0 W (Wr b way (l++[x]) v' T)) ?_) (λe W ⟨v,he,hv,v',ho⟩=>by subst he;subst hv;exact k v' W ho);unfold zR nz;obtain⟨P,c,hc,hP,hQ⟩:=yp hok hx;have hbl:=xp l;have hpw:2 ^ (l.length % 8)<=2 ^ 7:=apJ dc om;have h7:(2:Nat) ^ 7=128:=rfl;have hxp:x*2 ^ (l.length % 8)<=128:=by
  have:x*2 ^ (l.length % 8)<=1*2 ^ (l.length % 8):=apQ _ om;omega
 have hPl:P.length<=100000000000:=by
  have:=congrArg List.length hP;rw[aoC,apL] at this;have h1:(if l.length % 8=0 then ay l++[0] else ay l).length<=(ay l).length+1:=by
   split
   ·simp
   ·omega
  omega
 refine join λJ hJ=>?_;have fin:∀(W:ak) (v':ao),OwnS S w0 W (wrE b way l.length v'::outR v' (P++[UInt8.ofNat c])::T)->J [] W:=by
  intro W v' ho;refine hJ _ _ λ_=>?_;unfold uG nz;have hlen:(P++[UInt8.ofNat c]).length=P.length+1:=sm
  obtain⟨g,cap,rfl⟩:=rW (ho.at_ 1 rfl) om;rw[hlen] at ho;refine cR (λW=>OwnS S w0 W (wrE b way l.length (.slice (aw ⟨g,0,av⟩) (P.length+1) cap)::outR (.slice (aw ⟨g,0,av⟩) (P.length+1) cap) (P++[UInt8.ofNat c])::T)) ho.drew ?_;refine q_do _ (λ_=>cN) (q_do _ (λ_=>bH Wp) (q_at _ (λW h=>Wk (h.at_ 0 rfl)) ?_));refine q_do _ (λ_=>cN) (q_do _ (λ_=>bH Wp) (q_at _ (λW h=>Wk (h.at_ 0 rfl)) ?_));refine q_do _ (λ_=>Gr aoK) (q_do _ (λ_=>AH) ?_);rw[aA om om,show ((P.length+1:Nat):Int) - 1=(P.length:Int) by omega];have ria:∀W:ak,(mIA 53 (.slice (aw ⟨g,0,av⟩) (P.length+1) cap) (.int .i64 (P.length:Int))).run ah W=.ok (.value (.pointer (aw ⟨g,P.length,av⟩))) W:=λW=>by
   have:=dZ (P:=ah) (T:=53) (b:=g) (off:=0) (cap:=cap) (n:=P.length+1) (k:=.i64) (i:=(P.length:Int)) (w:=W) aoK (show _=aw 1 by kernel_rfl) om om
   rwa [aoF,aoS,aoN] at this
  refine q_do _ ria ?_;have hcell:(aG (P++[UInt8.ofNat c]))[P.length]?=aw (.int .u8 (c:Int)):=by
   rw[fC om,List.getElem_append_right (aoG _)];simp only[aqK,avF,asI];rw[aqA om]
  refine q_at (.int .u8 (c:Int)) (λW h=>?_) ?_
  ·have hs:=cS (h.at_ 1 rfl);rw[hlen] at hs;obtain⟨g',off',cap',e,h2⟩:=bY hs om
   injection e with e1 e2 e3
   injection e1 with e1
   have hg:=congrArg Addr.block e1;have hof:=congrArg Addr.off e1;dsimp only at hg hof;subst hg;subst hof;have:=h2 P.length _ hcell;rw[aoN] at this;exact aB nU8l this
  refine q_do _ (λ_=>cN) (q_do _ (λ_=>bH aaC) ?_);refine kS (.int .i64 ((l.length % 8:Nat):Int)) (λW h=>(TX (h.at_ 0 rfl)).mono λv w' r=>⟨r.1,h.grow r.2⟩) ?_;refine q_do _ (λ_=>abM om) ?_;rw[show min ((l.length % 8:Nat):Int).toNat IntKind.i64.bits=l.length % 8 by show min ((l.length % 8:Nat):Int).toNat 64=l.length % 8;omega];rw[show ((x:Nat):Int)*2 ^ (l.length % 8)=((x*2 ^ (l.length % 8):Nat):Int) by push_cast;rfl,aA om om];refine q_do _ (λW=>cU8 om) ?_;have eu:(((UInt8.ofNat (x*2 ^ (l.length % 8))).toNat:Nat):Int)=((x*2 ^ (l.length % 8):Nat):Int):=by rw[asI,aqA om]
  try rw[eu]
  refine q_do _ (λ_=>r_or) ?_;rw[or8 (aqW _ dc) hc hx];refine q_do _ ria ?_;intro W2 ho;refine FB (sz:=1) (new:=[.int .u8 ((c+x*2 ^ (l.length % 8):Nat):Int)]) 1 ho (by show aw (outR _ _)=aw _;unfold outR;rw[hlen]) rfl krx (λu hu=>by rw[aoZ.1 hu];rfl) sm λW3 ho=>?_;have hnew:(aG (P++[UInt8.ofNat c])).take P.length++[.int .u8 ((c+x*2 ^ (l.length % 8):Nat):Int)]++(aG (P++[UInt8.ofNat c])).drop (P.length+[(.int .u8 ((c+x*2 ^ (l.length % 8):Nat):Int):ao)].length)=aG (ay (l++[x])):=by
   rw[hQ];unfold aG;rw[apX,apX,aqY sm,auH sm,aoV]
   congr 1
   simp only[aqL,asY,asI];rw[aqA (show c+x*2 ^ (l.length % 8) < 2 ^ 8 by omega)]
  have ho:OwnS S w0 W3 (wrE b way l.length (.slice (aw ⟨g,0,av⟩) (P.length+1) cap)::outR (.slice (aw ⟨g,0,av⟩) (P.length+1) cap) (ay (l++[x]))::T):=by
   unfold outR;rw[<-hnew,hQ,aoC,apL];exact ho
  rw[aY,J9,wV,wr_u ho 0 rfl];simp only[rs];rw[aA om om,CR dc]
  try rw[aY]
  rw[J9,wV];have er:(((l.length % 8:Nat):Int)+1).tmod 8=(((l.length+1) % 8:Nat):Int):=by
   rw[Int.tmod_eq_emod_of_nonneg om];omega
  rw[er];refine aN 0 ho rfl krx rfl (by show 0+1 < 3;omega) λW4 ho=>?_;refine retK ⟨rfl,.slice (aw ⟨g,0,av⟩) (P.length+1) cap,?_⟩;unfold Wr wrE;rw[aoC,apL];exact ho
 rw[aY,J9,wV,wr_u ho 0 rfl];simp only[rs];by_cases h0:((l.length % 8:Nat):Int)=0
 ·simp only[h0,aoA,i_t];rw[anX om] at hP
  try rw[aY]
  rw[OL,wr_v ho 0 rfl];refine Dc 0 ho λb8 w8 ho=>?_;refine aX 2 aoK elU8 dc ho rfl (eG (ho.at_ 0 rfl) dc rfl) aW om om λv' w9 ho=>?_;have hov:v'.oneCell'=true:=eF (ho.at_ 2 rfl)
  try rw[aY]
  rw[OL];refine aN 1 ho rfl krx hov (by show 0+2 < 3;omega) λw10 ho=>?_;refine fin w10 v' ?_;rw[<-hP,cQ];exact ho.tail
 ·simp only[h0,aoB,i_f];rw[anW om] at hP;refine fin w v ?_;rw[<-hP];exact ho
theorem aaf (v n:Nat):bf v (n+1)=bf v n++[v / 2 ^ n % 2]:=by
 unfold bf;rw[asS,apX];rfl
theorem agN {a:Nat}(h:a < 2 ^ 62):bAnd .i64 (a:Int) 1=((a % 2:Nat):Int):=by
 have h62:(2:Nat) ^ 62=4611686018427387904:=rfl;unfold bAnd;show IntKind.wrap .i64 (((BitVec.ofInt 64 (a:Int) &&& BitVec.ofInt 64 ((1:Nat):Int)).toNat:Nat):Int)=_;rw[BitVec.ofInt_natCast,BitVec.ofInt_natCast,BitVec.toNat_and,BitVec.toNat_ofNat,BitVec.toNat_ofNat,aqA om,aqA om,Nat.and_one_is_mod];exact aA om om
theorem pG {x n:Nat}(ho:OwnS S w0 w (Wr b way l v T))(hok:bo l)(hw:way=0∨way=1)(hn:n<=24)(hx:x < 2 ^ n)(hl:l.length<=10000000000)
  (k:∀way' v' W,(way'=0∨way'=1)->OwnS S w0 W (Wr b way' (l++bf x n) v' T)->K (.int .i64 0) W):CallX ah 288 #[.pointer (aw ⟨b,0,av⟩),.int .i64 (x:Int),.int .i64 (n:Int)] w PK K:=by
 refine eW (D1 (k0:=RetK λv W=>v=.int .i64 0∧∃way' v',(way'=0∨way'=1)∧OwnS S w0 W (Wr b way' (l++bf x n) v' T)) ?_) (λe W ⟨v,he,hv,way',v',hw',ho⟩=>by subst he;subst hv;exact k way' v' W hw' ho);unfold Aa nz;have hpw:2 ^ n<=2 ^ 24:=apJ dc hn;have h24:(2:Nat) ^ 24=16777216:=rfl;refine eW (D3 (k0:=RetK λv W=>v=.int .i64 0∧∃way' v',(way'=0∨way'=1)∧OwnS S w0 W (Wr b way' (l++bf x n) v' T)) ?_) (λe W ⟨v,he,hv,way',v',hw',ho⟩=>by
  subst he;subst hv;exact⟨_,rfl,rfl,way',v',hw',ho⟩)
 unfold Ae nz;rw[Mt];have hshl:IntKind.i64.wrap ((1:Int)*2 ^ min ((n:Nat):Int).toNat IntKind.i64.bits)=((2 ^ n:Nat):Int):=by
  rw[show min ((n:Nat):Int).toNat IntKind.i64.bits=n by show min ((n:Nat):Int).toNat 64=n;omega,Int.one_mul,show (2:Int) ^ n=((2 ^ n:Nat):Int) by push_cast;rfl];exact aA om om
 simp only[rs,show ai ((n:Int) < 0)=aq from anY om,show ai ((24:Int) < (n:Int))=aq from anY om,show ai ((x:Int) < 0)=aq from anY om];rw[wC om,hshl];simp only[rs,show ai (((2 ^ n:Nat):Int)<=(x:Int))=aq from anY om]
 try rw[aY]
 rw[J9];refine aH ho (R:=λv=>v=.bool aq) (S7 (ho.at_ 0 rfl) hw) ?_;rintro _ w2 rfl ho;simp only[rs];refine loop (λvs W=>∃(i:Nat) (v':ao),vs=[.int .i64 i]∧i<=n∧OwnS S w0 W (Wr b way (l++bf x i) v' T)) (λvs _=>n - n0 vs) ⟨0,v,rfl,om,by show OwnS S w0 w2 (Wr b way (l++[]) v T);rw[aoV];exact ho⟩ ?_;clear ho;rintro vs w4 ⟨i,v',rfl,hi,ho⟩ _;simp only[uH,gd,rs,nz];by_cases hlt:(i:Int) < (n:Int)
 ·simp only[hlt,aoA,i_t];refine join λJ hJ=>?_;simp only[show ai ((1:Int)=2)=aq from rfl,i_f,rs];refine hJ _ _ λ_=>?_;simp only[tI,gd,nz];rw[FC om,show min ((i:Nat):Int).toNat IntKind.i64.bits=i by show min ((i:Nat):Int).toNat 64=i;omega,PR,VH];have hdv:x / 2 ^ i<=x:=arY _ _;rw[agN om];refine ahC ho (cd hok (ee _ _)) (aqW _ dc) (by rw[aoC,cc];omega) λv2 w5 ho=>?_;rw[aoL,<-aaf] at ho;simp only[rs];rw[aA om om];exact aQ ⟨i+1,v2,rfl,om,ho⟩ (by simp[n0,RowKit.intOf];omega)
 ·simp only[hlt,aoB,i_f];have hin:i=n:=om
  subst hin;refine join λJ hJ=>?_;have fin:∀W way',(way'=0∨way'=1)->OwnS S w0 W (Wr b way' (l++bf x i) v' T)->J [] W:=by
   intro W way' hw' ho;refine hJ _ _ λ_=>?_;simp only[tV,nz];exact retK ⟨rfl,way',v',hw',ho⟩
  by_cases h0:(0:Int) < (i:Int)
  ·simp only[h0,aoA,i_t,rs,aY];rw[J9,LX];refine aN 0 ho rfl krx rfl (by show 0 < 3;omega) λw5 ho=>?_;exact fin w5 1 (.inr rfl) ho
  ·simp only[h0,aoB,i_f,rs];exact fin w4 way hw ho
theorem RM (ho:OwnS S w0 w (Wr b way l v T))
  (k:∀W,OwnS S w0 W (Wr b 0 (gh l) v T)->K (.tuple #[]) W):CallX ah 289 #[.pointer (aw ⟨b,0,av⟩)] w PK K:=by
 refine eW (BO (k0:=RetK λu W=>u=.tuple #[]∧OwnS S w0 W (Wr b 0 (gh l) v T)) ?_) (λe W ⟨u,he,hv,ho⟩=>by subst he;subst hv;exact k W ho);unfold uO nz;rw[acS,i_t];have mb:∀{PK:PKT} {K:VWP},DoX ah (bA 315 #[]) w PK K=K (.agg #[.int .i64 0,.int .i64 0]) w:=aC krx;rw[mb,aY,J9];refine GI 0 ho rfl (new:=[.int .i64 0,.int .i64 0]) szSd dc (by show 0+2<=3;omega) λw2 ho=>?_;refine retK ⟨rfl,?_⟩;have e:wrC 0 (gh l).length v=[.int .i64 0,.int .i64 0,v]:=by
  unfold wrC;rw[oq,Nat.mul_mod_right];rfl
 unfold Wr wrE;rw[e,wh];exact ho
theorem aag {k:Nat}(h:l.length=8*k)(s:List UInt8):ay (l++gg s)=ay l++s:=by
 have:=oo [] s;rw[aoV] at this;rw[mn h,this];show _++(s++[])=_;rw[aoV]
theorem agL {s:List UInt8}(ho:OwnS S w0 w (Wr b way l v T))(h8:l.length=8*j)(hj:j<=1000000000)(hs:s.length<=1000000000)
  (k:∀v' W,OwnS S w0 W (Wr b way (l++gg s) v' T)->K (.tuple #[]) W):CallX ah 290 #[.pointer (aw ⟨b,0,av⟩),.string ⟨s.toArray⟩] w PK K:=by
 refine eW (Ee (k0:=RetK λu W=>u=.tuple #[]∧∃v',OwnS S w0 W (Wr b way (l++gg s) v' T)) ?_) (λe W ⟨u,he,hv,v',ho⟩=>by subst he;subst hv;exact k v' W ho);unfold zA nz;rw[Mt,i_f];have hbl:(ay l).length=j:=by rw[lx];omega
 refine join λJ hJ=>?_;rw[aY,J9,wV,wr_u ho 0 rfl,show l.length % 8=0 by omega];simp only[rs,show ai ((0:Int) < ((0:Nat):Int))=aq from rfl,i_f];refine hJ _ _ λ_=>?_;unfold sU nz;rw[aY,OL,wr_v ho 0 rfl];refine CD 1 aoK aoD elU8 aoP z8U ho rfl om λv' w9 ho=>?_;have hov:v'.oneCell'=true:=eF (ho.at_ 1 rfl)
 try rw[aY]
 rw[OL];refine aN 0 ho rfl krx hov (by show 0+2 < 3;omega) λw10 ho=>?_;refine retK ⟨rfl,v',?_⟩;unfold Wr wrE;rw[aag h8,cQ];have e:wrC way (l++gg s).length v'=[.int .i64 way,.int .i64 ((l.length % 8:Nat):Int),v']:=by
  unfold wrC;rw[aoC,rh];congr 3;omega
 rw[e];exact ho
theorem ahO {off n c:Nat}:DoX ah (mEq .eql 53 xo yo (.slice (aw ⟨b,off,av⟩) n c) (.slice av 0 0)) w PK K=K (.bool aq) w:=aC krx
theorem anL (ho:OwnS S w0 w L)(k:∀v w',OwnS S w0 w' (.urow 5 1 v 0 []::L)->K v w'):DoX ah (bF 53 0 #[]) w PK K:=
 bD (λb=>.slice (aw ⟨b,0,av⟩) 0 0) [] 5 (λ_=>by kernel_rfl) ho λb w1 ho=>k _ _ (ho.toU 1 0 0 sm om om)
theorem Qv (ho:OwnS S w0 w (Wr b way l v T))(h0:0 < l.length)(hl:l.length<=10000000000)
  (k:∀W,OwnS S w0 W T->K (.string ⟨(ay l).toArray⟩) W):CallX ah 291 #[.pointer (aw ⟨b,0,av⟩)] w PK K:=by
 refine eW (C6 (k0:=RetK λu W=>u=.string ⟨(ay l).toArray⟩∧OwnS S w0 W T) ?_) (λe W ⟨u,he,hv,ho⟩=>by subst he;subst hv;exact k W ho);unfold wF nz;have hbl:=xp l;obtain⟨g,cap,rfl⟩:=rW (ho.at_ 1 rfl) (by rw[lx];omega);rw[Mt,i_f,aY,OL,wr_v ho 0 rfl];refine eW (sJ (k0:=RetK λu W=>OwnS S w0 W (outR u (ay l)::T)) ?_) (λe W ⟨u,he,ho⟩=>?_)
 ·unfold jP nz;rw[ahO,i_f];refine anL ho λv0 w1 ho=>?_;refine aX 0 aoK elU8 dc ho rfl (cS (ho.at_ 2 rfl)) aW om om λv' w9 ho=>?_;rw[aoN,apK] at ho;have ho:OwnS S w0 w9 ([outR v' (ay l)]++([wrE b way l.length (.slice (aw ⟨g,0,av⟩) (ay l).length cap),outR (.slice (aw ⟨g,0,av⟩) (ay l).length cap) (ay l)]++T)):=ho;exact retK ho.front.tail.tail
 ·subst he;refine aC (Ph aoK aoP aoD (cS (ho.at_ 0 rfl))) |>.mpr ?_;exact retK ⟨rfl,ho.tail⟩
end
end
section
open Eng Go.RowKit
def TbW (A:Nat->Prop)(w:ak)(b:Nat)(lens:List Nat):Prop:=∃a c o,A b∧(tbE b a c (cnt lens) (fstW lens) o).is w∧SlA A w o 1 (bh lens 15).length (aM (bh lens 15))∧SlA A w a 1 lens.length (aM lens)∧SlA A w c 1 lens.length (aM (jg lens))
theorem Bb (lens:List Nat)(v:ao)(M:Mem)(w:ak)(h15:∀l∈lens,l<=15)(hl:lens.length<=100000)(h0:0 < lens.length)(hM:M.has w)(hs:SlA M.A M.w v 1 lens.length (aM lens)) :
  RetM ah 295 #[v] M w (λr N=>if az lens≠0 then r=.tuple #[.pointer av,.int .i64 (az lens)] else ∃b,r=.tuple #[.pointer (aw ⟨b,0,av⟩),.int .i64 0]∧TbW N.A N.w b lens):=by
 refine aU hM λK hK=>EH ?_;unfold Gq nz;have ho:OwnS M.A w w [.mem M]:=OwnS.memS hM;refine bI ho 0 rfl (LL lens v M w h15 hl hM hs) ?_;rintro _ N1 w1 g1 ⟨cv,rfl,hc1,hcs⟩ ho;simp only[ex,bQ];by_cases hc:az lens=0
 case neg=>
  simp only[hc,ne_eq,arX,aoA,i_t];exact hK _ _ N1 _ 0 ho rfl g1 (by rw[anX hc])
 have hcs:=hcs hc;simp only[hc,ne_eq,not_true,aoB,i_f];refine bI ho 0 rfl (Ld lens v N1 w1 hl h0 (ho.hasM 0 rfl) (hs.le g1)) λlv N2 w2 g2 hlv ho=>?_;refine aH ho (R:=λr=>r=nsV (cnt lens)) (RetM.told (xL lens v N2 w2 h15 hl (ho.hasM 0 rfl) (hs.le (g1.trans g2)))) ?_;rintro _ w3 rfl ho;rw[m_tb hlv.one hc1];refine agX hlv.one hc1 ho λb w4 ho=>?_;rw[aY,Rn,tb_n ho 0 rfl];refine aH ho (R:=λr=>r=nsV (fstW lens)) (RetM.told (GB lens N2 w4 hl (ho.hasM 1 rfl))) ?_;rintro _ w5 rfl ho;rw[aY,U7];refine WN 0 ho rfl λw6 ho=>?_;have hsl:=hs.le (g1.trans g2);have ho:OwnS M.A w w6 [.urow 3 1 nilS 0 [],tbE b lv cv (cnt lens) (fstW lens) nilS,.mem N2]:=OwnS.nilU (L:=[tbE b lv cv (cnt lens) (fstW lens) nilS,.mem N2]) ho _ _;refine loop (λvs W=>∃(l:Nat) (ov:ao),vs=[.int .i64 ((l+1:Nat):Int)]∧l<=15∧OwnS M.A w W [.urow 3 1 ov (bh lens l).length (aM (bh lens l)),tbE b lv cv (cnt lens) (fstW lens) ov,.mem N2]) (λvs _=>16 - n0 vs) ⟨0,nilS,rfl,om,ho⟩ ?_;clear ho;rintro vs w7 ⟨l,ov,rfl,hl15,ho⟩ _;simp only[A2,gd,rs,nz];by_cases hlt:((l+1:Nat):Int)<=15
 ·simp only[hlt,aoA,i_t];rw[bB aoQ (hsl.now (ho.hasM 2 rfl))];have hob:=ql lens l;have hob2:l*lens.length<=15*100000:=arQ hl15 hl;refine loop (λvs W=>∃(i:Nat) (ov:ao),vs=[.int .i64 i]∧i<=lens.length∧OwnS M.A w W [.urow 3 1 ov (bh lens l++di lens (l+1) i).length (aM (bh lens l++di lens (l+1) i)),tbE b lv cv (cnt lens) (fstW lens) ov,.mem N2]) (λvs _=>lens.length - n0 vs) ⟨0,ov,rfl,om,by
   rw[show di lens (l+1) 0=[] from rfl,aoV];exact ho⟩ ?_
  clear ho;rintro vs w8 ⟨i,ov,rfl,hi,ho⟩ _;simp only[AX,gd,rs,nz];by_cases hlt2:(i:Int) < (lens.length:Int)
  ·have hi':i < lens.length:=om
   simp only[hlt2,aoA,i_t];refine join λJ hJ=>?_;obtain⟨b2,off,r1,r2⟩:=eX (hsl.now (ho.hasM 2 rfl)) hi';have hgd:lens.getD i 0=lens[i]:=by rw[aoE,aoI hi'];rfl
   refine aC (r1 w8) |>.mpr (aC (aB bP r2) |>.mpr ?_);have hot:=qk lens (l+1) i;have hrg:di lens (l+1) (i+1)=di lens (l+1) i++(if lens[i]=l+1 then [i] else []):=by
    unfold di;rw[asS,auU]
    congr 1
    rw[<-hgd];by_cases h:lens.getD i 0=l+1
    ·rw[anX h];exact List.filter_cons_of_pos (anZ h)
    ·rw[anW h];exact List.filter_cons_of_neg (by rw[anY h];decide)
   have fin:∀(W:ak) (ov:ao),OwnS M.A w W [.urow 3 1 ov (bh lens l++di lens (l+1) (i+1)).length (aM (bh lens l++di lens (l+1) (i+1))),tbE b lv cv (cnt lens) (fstW lens) ov,.mem N2]->J [] W:=by
    intro W ov ho;refine hJ _ _ λ_=>?_;simp only[BN,gd,rs,nz];rw[aA om om];exact aQ ⟨i+1,ov,rfl,om,ho⟩ (by simp[n0,RowKit.intOf];omega)
   simp only[rs];by_cases he:lens[i]=l+1
   ·rw[anX he] at hrg;simp only[show ai (((lens[i]:Nat):Int)=((l+1:Nat):Int))=au from anZ om,i_t,rs,aY];rw[O4,Rb ho 1 rfl];refine mY (i:Int) ho λb3 w9 ho=>?_;refine jD 1 ho rfl (ho.sl 0 rfl 1 1 1 rfl) iY (by rw[aoC];omega) λv' w10 ho=>?_
    try simp only[rs,aY]
    rw[O4];refine Xc 2 (eF (ho.at_ 1 rfl)) ho rfl λw11 ho=>?_;refine fin w11 v' ?_;have e1:aM (bh lens l++di lens (l+1) (i+1))=aM (bh lens l++di lens (l+1) i)++Qt [(i:Int)]:=by
     rw[hrg,<-aoL,gS];rfl
    have e2:(bh lens l++di lens (l+1) (i+1)).length=(bh lens l++di lens (l+1) i).length+1:=by
     rw[hrg,<-aoL,aoC];rfl
    rw[e1,e2];exact ho.tail
   ·rw[anW he,aoV] at hrg;simp only[show ai (((lens[i]:Nat):Int)=((l+1:Nat):Int))=aq from anY om,i_f];refine fin w8 ov ?_;rw[hrg];exact ho
  ·simp only[hlt2,aoB,i_f];have hie:i=lens.length:=om
   subst hie;rw[aA om om];exact aQ ⟨l+1,ov,rfl,om,ho⟩ (by simp[n0,RowKit.intOf];omega)
 ·have hl:l=15:=om
  subst hl;simp only[hlt,aoB,i_f];obtain⟨N3,g3,hrow,ho⟩:=OwnS.cI (L:=[tbE b lv cv (cnt lens) (fstW lens) ov,.mem N2]) ho 1 rfl;have ho:OwnS M.A w w7 [tbE b lv cv (cnt lens) (fstW lens) ov,.mem N3]:=ho;have his:=ho.at_ 0 rfl;obtain⟨N4,g4,hw4,hblk,ho⟩:=OwnS.freeze (L:=[.mem N3]) ho 0 rfl;refine hK _ _ N4 _ 0 ho rfl (g1.trans (g2.trans (g3.trans g4))) ?_;rw[anW (by simp[hc])];exact⟨b,rfl,lv,cv,ov,hblk b rfl,by rw[hw4];exact his,hrow.le g4,hlv.le (g3.trans g4),hcs.le (g2.trans (g3.trans g4))⟩
end
section
open Eng Go.RowKit
theorem aah {v n k:Nat}(h:k < n):(jc v n).take (k+1)=(jc v n).take k++[v / 2 ^ (n - 1 - k) % 2]:=by
 rw[apG (by rw[vd];exact h)]
 congr 2
 simp[jc]
section
variable {w:ak}{PK:PKT}{K:VWP}{S:Nat->Prop}{w0:ak}{L T:List Ent}
theorem E1 {lens:List Nat}(ho:OwnS S w0 w (Wr b way l v T))(hm:T[jm]?=aw (.mem M))(ht:TbW M.A M.w tb lens)(hc:az lens=0)(h15:∀l∈lens,l<=15)(hi:0 < lens.getD i 0)
  (hok:bo l) (hw:way=0∨way=1) (hl:l.length<=1000000000) (k:∀way' v' W,(way'=0∨way'=1)->OwnS S w0 W (Wr b way' (l++dt lens i) v' T)->K (.int .i64 0) W) :
  CallX ah 302 #[.pointer (aw ⟨tb,0,av⟩),.pointer (aw ⟨b,0,av⟩),.int .i64 (i:Int)] w PK K:=by
 refine eW (Bt (k0:=RetK λv W=>v=.int .i64 0∧∃way' v',(way'=0∨way'=1)∧OwnS S w0 W (Wr b way' (l++dt lens i) v' T)) ?_) (λe W ⟨v,he,hv,way',v',hw',ho⟩=>by subst he;subst hv;exact k way' v' W hw' ho);unfold sW nz;obtain⟨ta,tc,tv,hA,his,hord,hla,hlc⟩:=ht;have hil:i < lens.length:=by
  rcases apD i lens.length with h|h
  ·exact h
  ·rw[aoE,aqB h] at hi;exact absurd hi (asX _)
 have hgi:lens.getD i 0=lens[i]:=by rw[aoE,aoI hil];rfl
 have hn15:lens[i]<=15:=h15 _ (aoR hil);have hcl:=vq (vi (vj hc)) h15 hi;rw[hgi] at hi hcl;have hp15:2 ^ lens[i]<=2 ^ 15:=apJ dc hn15;have e15:(2:Nat) ^ 15=32768:=rfl;have hm2:∀{W:ak} {way:Int} {l:List Nat} {v:ao},OwnS S w0 W (Wr b way l v T)->M.has W:=λho=>ho.hasM (jm+2) (by rw[apW,apW];exact hm);have hlen:=hla.1.1;have ld0:∀{W:ak},M.has W->(aJ 123 (.pointer (aw ⟨tb,0,av⟩))).run ah W=.ok (.value ta) W:=λhM=>aB Ht (aI (T:=337) (cs:=tbC ta tc (cnt lens) (fstW lens) tv) (Yy hA his hM) (i:=0) rfl);have ld1:∀{W:ak},M.has W->(aJ 123 (.pointer (aw ⟨tb,0+1,av⟩))).run ah W=.ok (.value tc) W:=λhM=>aB Ht (aI (T:=337) (cs:=tbC ta tc (cnt lens) (fstW lens) tv) (Yy hA his hM) (i:=1) rfl);rw[Uz];simp only[rs];rw[Mt];simp only[rs,show ai ((i:Int) < 0)=aq from anY om,aY];rw[aP Z7];refine aC (ld0 (hm2 ho)) |>.mpr ?_;rw[bB aoQ (hla.now (hm2 ho))];simp only[rs,show ai ((lens.length:Int)<=(i:Int))=aq from anY om,aY];rw[aP Z7];refine aC (ld0 (hm2 ho)) |>.mpr ?_;obtain⟨b2,off,r1,r2⟩:=eX (hla.now (hm2 ho)) hil;refine aC (r1 w) |>.mpr (aC (aB bP r2) |>.mpr ?_);simp only[rs,show ai (((lens[i]:Nat):Int)=0)=aq from anY om,i_f];rw[aA om om];have hcb:dt lens i=jc (dh lens i) lens[i]:=by unfold dt;rw[hgi]
 refine loop (λvs W=>∃(k:Nat) (way':Int) (v':ao),vs=[.int .i64 ((lens[i]:Int) - 1 - k)]∧k<=lens[i]∧(way'=0∨way'=1)∧OwnS S w0 W (Wr b way' (l++(dt lens i).take k) v' T)) (λvs _=>((RowKit.intOf (vs.getD 0 undef))+1).toNat) ⟨0,way,v,sm,om,hw,by rw[arP,aoV];exact ho⟩ ?_;clear ho hw r1 r2;rintro vs w4 ⟨k,way',v',rfl,hk,hw,ho⟩ _;simp only[pY,gd,rs,nz];by_cases hlt:(0:Int)<=(lens[i]:Int) - 1 - k
 ·simp only[hlt,aoA,i_t,aY];rw[aP aiR];refine aC (ld1 (hm2 ho)) |>.mpr ?_;have hcsl:=hlc.now (hm2 ho);rw[show lens.length=(jg lens).length by rw[jk]] at hcsl;obtain⟨b3,off3,r3,r4⟩:=eX hcsl (i:=i) (by rw[jk];exact hil);have hcg:(jg lens)[i]'(by rw[jk];exact hil)=dh lens i:=by
   have:=th hil;rw[aoI (by rw[jk];exact hil)] at this;exact arH this
  rw[hcg] at r4;refine aC (r3 w4) |>.mpr (aC (aB bP r4) |>.mpr ?_);have hkn:(lens[i]:Int) - 1 - k=((lens[i] - 1 - k:Nat):Int):=om
  rw[FC om,hkn,show min ((lens[i] - 1 - k:Nat):Int).toNat IntKind.i64.bits=lens[i] - 1 - k by show min ((lens[i] - 1 - k:Nat):Int).toNat 64=_;omega,PR,VH];have hdv:dh lens i / 2 ^ (lens[i] - 1 - k)<=dh lens i:=arY _ _;rw[agN om];have hbit:dh lens i / 2 ^ (lens[i] - 1 - k) % 2 < 2:=aqW _ dc;refine pG (n:=1) ho (cd hok (λb hb=>lh _ _ b (aqV hb))) hw om om (by rw[aoC,aoH];omega) λway2 v2 w5 hw2 ho=>?_;have e1:bf (dh lens i / 2 ^ (lens[i] - 1 - k) % 2) 1=[dh lens i / 2 ^ (lens[i] - 1 - k) % 2]:=by
   show [dh lens i / 2 ^ (lens[i] - 1 - k) % 2 / 2 ^ 0 % 2]=_;rw[Nat.pow_zero,Nat.div_one,Nat.mod_mod]
  rw[e1,aoL,hcb,<-aah om,<-hcb] at ho;simp only[rs,show ai ((0:Int)≠0)=aq from rfl,i_f];rw[aA om om];exact aQ ⟨k+1,way2,v2,by congr 2<;>omega,om,hw2,ho⟩ (by simp[RowKit.intOf]<;>omega)
 ·simp only[hlt,aoB,i_f];have hkn:k=lens[i]:=om
  rw[apE (by rw[fo,hgi];omega)] at ho;exact retK ⟨rfl,way',v',hw,ho⟩
end
end
section
open Eng
def wP(t0 t1 t2 t3 t9 w)(N1:JT)(K:KT):=nz f319 19 [N1] [nh 5 [9]] [(2,16)] (zg [0,1,2,3,9] [t0,t1,t2,t3,t9]) w K
def AJ(t0 t1 t2 t3 w)(K:KT):=nz f319 1 [] [(5,[9],λs v j w f=>wP (s 0) (s 1) (s 2) (s 3) (vg v 0) w (f 0) K)] [] (zg [0,1,2,3] [t0,t1,t2,t3]) w K
theorem FG:AJ t0 t1 t2 t3 w k0->Calls ah 319 #[t0,t1,t2,t3] w k0:=cz [] [(2,[9])] func319
def nE(d c e a w)(N1:JT)(K:KT):=
 bnx .lss 3 a e w K λb w=>etx b a w λf w=>gtx b (mBin .add 3 f (iN 3)) w K λg w=>etx b c w λh w=>gtx b (mB .len #[9] 3 #[aq] #[h]) w K λi w=>gtx b (mBin .leq 3 g i) w K λj w=>dx (eH b j (.bool aq)) w K λk w=>IfX k (HeldX w (λS2 w=>HDo ah (λ_=>True) (mBin .add 3 a (iN 3)) λl=>HDo ah (λ_=>True) (cM 9 c (aw a) (aw l) av) λm=>HDo ah (λ_=>True) (mBin .add 3 a (iN 3)) λn=>HDo ah (λ_=>True) (cM 9 c (aw a) (aw n) av) λo=>HDo ah S2 (Wn 289 d o aq) λp=>DoX ah (bF 123 1 #[(0,a)]) w (ax 14 (pk K)) λq w=>S2 w∧(DoX ah (mB .append #[123,123] 123 #[aq,aq] #[p,q]) w (ax 14 (pk K)) λr w=>(DoX ah (Vw 289 d m r) w (ax 14 (pk K)) λ_ w=>(bnx .add 3 a (iN 1) w K λs w=>N1 [s] w))))) (K (.returned (.tuple #[])) w)
def rB(t0 t1 t2 t3 w)(K:KT):=nz f293 1 [] [(3,[8],λs v j w f=>nE (s 0) (s 1) (s 3) (vg v 0) w (f 0) K)] [] (zg [0,1,2,3] [t0,t1,t2,t3]) w K
theorem Aj:rB t0 t1 t2 t3 w k0->Calls ah 293 #[t0,t1,t2,t3] w k0:=cz [] [(1,[8])] func293
def jO(t10 w)(N1:JT)(K:KT):=nz f292 1887 [N1] [nh 15 [10]] [] (zg [10] [t10]) w K
def fB(t1 t2 t6 t7 t8 t9 t10 w)(N1:JT)(K:KT):=nz f292 351 [N1] [nh 15 [10],(16,[],λs v j w f=>jO (s 10) w (f 0) K)] [] (zg [1,2,6,7,8,9,10] [t1,t2,t6,t7,t8,t9,t10]) w K
def mG(t0 t1 t2 w)(K:KT):=nz f292 1 [] [(15,[10],λs v j w f=>fB (s 1) (s 2) (s 6) (s 7) (s 8) (s 9) (vg v 0) w (f 0) K)] [] (zg [0,1,2] [t0,t1,t2]) w K
theorem uY:mG t0 t1 t2 w k0->Calls ah 292 #[t0,t1,t2] w k0:=cz [(8,[])] [(7,[10])] func292
def vZ(t0 t3 t4 t5 t6 t7 w)(N1:JT)(K:KT):=nz f266 4015 [N1] [nh 13 [3,5]] [] (zg [0,3,4,5,6,7] [t0,t3,t4,t5,t6,t7]) w K
def vU(t0 t3 t4 t5 w)(N1:JT)(K:KT):=nz f266 175 [N1] [nh 13 [3,5],(22,[],λs v j w f=>vZ (s 0) (s 3) (s 4) (s 5) (s 6) (s 7) w (f 0) K)] [] (zg [0,3,4,5] [t0,t3,t4,t5]) w K
def Bp(t0 w)(K:KT):=nz f266 1 [] [(13,[3,5],λs v j w f=>vU (s 0) (vg v 0) (s 4) (vg v 1) w (f 0) K)] [] (zg [0] [t0]) w K
theorem EV:Bp t0 w k0->Calls ah 266 #[t0] w k0:=cz [(11,[])] [(6,[3,5])] func266
def zX(t0 t2 t6 t8 w)(N1:JT)(K:KT):=nz f343 87 [N1] [nh 11 [0,6,8]] [(8,14)] (zg [0,2,6,8] [t0,t2,t6,t8]) w K
def Dj(t0 t1 t2 w)(K:KT):=nz f343 1 [] [(11,[0,6,8],λs v j w f=>zX (vg v 0) (s 2) (vg v 1) (vg v 2) w (f 0) K)] [] (zg [0,1,2] [t0,t1,t2]) w K
theorem GM:Dj t0 t1 t2 w k0->Calls ah 343 #[t0,t1,t2] w k0:=cz [] [(5,[0,6,8])] func343
def DS(t0 w)(K:KT):=nz f325 1 [] [] [] (zg [0] [t0]) w K
theorem G8:DS t0 w k0->Calls ah 325 #[t0] w k0:=cw func325
def Dm(t0 w)(K:KT):=nz f326 1 [] [] [] (zg [0] [t0]) w K
theorem GS:Dm t0 w k0->Calls ah 326 #[t0] w k0:=cw func326
def uK(t0 t3 t4 t5 w)(N1:JT)(K:KT):=nz f265 123 [N1] [nh 5 [0]] [] (zg [0,3,4,5] [t0,t3,t4,t5]) w K
def uI(t0 t3 w)(N1:JT)(K:KT):=nz f265 11 [N1] [nh 5 [0],(12,[5],λs v j w f=>uK (s 0) (s 3) (s 4) (vg v 0) w (f 0) K)] [] (zg [0,3] [t0,t3]) w K
def zP(t0 w)(K:KT):=nz f265 1 [] [(5,[0],λs v j w f=>uI (vg v 0) (s 3) w (f 0) K)] [] (zg [0] [t0]) w K
theorem DT:zP t0 w k0->Calls ah 265 #[t0] w k0:=cz [(6,[5])] [(2,[0])] func265
def lS(t14 w)(N1:JT)(K:KT):=nz f296 245 [N1] [nh 5 [14]] [] (zg [14] [t14]) w K
def mM(t1 t3 t12 t13 t14 w)(N1:JT)(K:KT):=nz f296 21 [N1] [nh 5 [14],(24,[],λs v j w f=>lS (s 14) w (f 0) K)] [] (zg [1,3,12,13,14] [t1,t3,t12,t13,t14]) w K
def qE(t0 t1 t2 w)(K:KT):=nz f296 1 [] [(5,[14],λs v j w f=>mM (s 1) (s 3) (s 12) (s 13) (vg v 0) w (f 0) K)] [] (zg [0,1,2] [t0,t1,t2]) w K
theorem yO:qE t0 t1 t2 w k0->Calls ah 296 #[t0,t1,t2] w k0:=cz [(12,[])] [(2,[14])] func296
def BP(t0 w)(K:KT):=nz f267 1 [] [] [] (zg [0] [t0]) w K
theorem FY:BP t0 w k0->Calls ah 267 #[t0] w k0:=cw func267
def qU(t20 w)(N1:JT)(K:KT):=nz f297 983 [N1] [nh 9 [20]] [] (zg [20] [t20]) w K
def rT(t2 t3 t18 t19 t20 w)(N1:JT)(K:KT):=nz f297 87 [N1] [nh 9 [20],(24,[],λs v j w f=>qU (s 20) w (f 0) K)] [] (zg [2,3,18,19,20] [t2,t3,t18,t19,t20]) w K
def eN(a b c w)(K:KT):=
 iax 123 b (iN 256) w K λd w=>stx 3 d (iN 1) w K λ_ w=>lnx 269 a w K λe w=>LoopX [(iN 0)] w (λvs1 w N1=>∀_:Sg,rT b c a e (vs1.getD 0 undef) w N1 K)
def wI(a w)(K:KT):=
 DrawX w (λw=>(dx (H4 123 (iN 286) (iN 286)) w K λb w=>(dx (H4 123 (iN 30) (iN 30)) w K λc w=>eN a b c w K)∧(dx (H4 123 (iN 30) (iN 30)) w K λt15_1 w=>eN a b t15_1 w K))∧(dx (H4 123 (iN 30) (iN 30)) w K λt15_2 w=>dx (H4 123 (iN 286) (iN 286)) w K λt14_1 w=>eN a t14_1 t15_2 w K))
theorem C7:wI t0 w k0->Calls ah 297 #[t0] w k0:=cz [(12,[])] [(4,[20])] func297
def BL(t0 t1 t5 w)(N1:JT)(K:KT):=nz f299 19 [N1] [nh 5 [5]] [] (zg [0,1,5] [t0,t1,t5]) w K
def EP(t0 t1 w)(K:KT):=nz f299 1 [] [(5,[5],λs v j w f=>BL (s 0) (s 1) (vg v 0) w (f 0) K)] [] (zg [0,1] [t0,t1]) w K
theorem HJ:EP t0 t1 w k0->Calls ah 299 #[t0,t1] w k0:=cz [] [(2,[5])] func299
def eI(t3 t4 t5 w)(N1:JT)(K:KT):=nz f300 1003 [N1] [nh 7 [3,4]] [] (zg [3,4,5] [t3,t4,t5]) w K
def wK(t0 t3 t4 t5 w)(N1 N2:JT)(K:KT):=nz f300 619 [N1,N2] [nh 7 [3,4],nh 11 [5],(34,[3,5],λs v j w f=>eI (vg v 0) (s 4) (vg v 1) w (f 0) K)] [(5,19)] (zg [0,3,4,5] [t0,t3,t4,t5]) w K
def wB(t0 t3 t4 w)(N1:JT)(K:KT):=nz f300 43 [N1] [nh 7 [3,4],(11,[5],λs v j w f=>wK (s 0) (s 3) (s 4) (vg v 0) w (f 1) (f 0) K)] [] (zg [0,3,4] [t0,t3,t4]) w K
def Cu(t0 w)(K:KT):=nz f300 1 [] [(7,[3,4],λs v j w f=>wB (s 0) (vg v 0) (vg v 1) w (f 0) K)] [] (zg [0] [t0]) w K
theorem FE:Cu t0 w k0->Calls ah 300 #[t0] w k0:=cz [(17,[3,5])] [(3,[3,4]),(5,[5])] func300
def zL(w)(K:KT):=nz f301 1 [] [] [] (zg [] []) w K
theorem Eg:zL w k0->Calls ah 301 #[] w k0:=cw func301
def BX(t0 t9 t16 t21 t132 t133 t134 w)(N4:JT)(K:KT):=nz f268 92274687 [N4] [nh 73 [134]] [] (zg [0,9,16,21,132,133,134] [t0,t9,t16,t21,t132,t133,t134]) w K
def rZ(t0 t9 t10 t16 t21 t122 t123 t124 w)(N3:JT)(K:KT):=nz f268 46137343 [N3] [nh 63 [124],(73,[134],λs v j w f=>BX (s 0) (s 9) (s 16) (s 21) (s 132) (s 133) (vg v 0) w (f 0) K)] [] (zg [0,9,10,16,21,122,123,124] [t0,t9,t10,t16,t21,t122,t123,t124]) w K
def BC(t0 t5 t7 t9 t10 t14 t16 t18 t88 t89 w)(N2:JT)(K:KT):=nz f268 180223 [N2] [nh 39 [18,89],(63,[124],λs v j w f=>rZ (s 0) (s 9) (s 10) (s 16) (s 21) (s 122) (s 123) (vg v 0) w (f 0) K)] [] (zg [0,5,7,9,10,14,16,18,88,89] [t0,t5,t7,t9,t10,t14,t16,t18,t88,t89]) w K
def Ci(t0 t5 t7 t9 t10 t11 t64 t65 t66 w)(N1:JT)(K:KT):=nz f268 11263 [N1] [nh 23 [66],(39,[18,89],λs v j w f=>BC (s 0) (s 5) (s 7) (s 9) (s 10) (s 14) (s 16) (vg v 0) (s 88) (vg v 1) w (f 0) K)] [] (zg [0,5,7,9,10,11,64,65,66] [t0,t5,t7,t9,t10,t11,t64,t65,t66]) w K
def ER(t0 w)(K:KT):=nz f268 1 [] [(23,[66],λs v j w f=>Ci (s 0) (s 5) (s 7) (s 9) (s 10) (s 11) (s 64) (s 65) (vg v 0) w (f 0) K)] [] (zg [0] [t0]) w K
theorem HM:ER t0 w k0->Calls ah 268 #[t0] w k0:=cz [] [(11,[66]),(19,[18,89]),(31,[124]),(36,[134])] func268
def A7(t6 w)(K:KT):=nz f235 255 [] [] [] (zg [6] [t6]) w K
def BG(t1 t6 t7 w)(K:KT):=nz f235 127 [] [(32,[6],λs v j w f=>A7 (vg v 0) w K)] [] (zg [1,6,7] [t1,t6,t7]) w K
def Ep(t0 t1 w)(K:KT):=nz f235 1 [] [(24,[6],λs v j w f=>BG (s 1) (vg v 0) (s 7) w K)] [] (zg [0,1] [t0,t1]) w K
theorem Ic:Ep t0 t1 w k0->Calls ah 235 #[t0,t1] w k0:=cz [(12,[6]),(16,[6])] [] func235
end
section
open Eng Go.RowKit
def ptC (x:bn):List Value:=[.int .u8 (x.1.toNat:Int),.int .i64 (x.2.1:Int),.int .i64 (x.2.2:Int)]
def ptV (x:bn):Value:=.agg (ptC x).toArray
abbrev ptE (b:Nat)(x:bn):Ent:=.cells b (ptC x) 291
theorem adA (x:bn):(ptC x).length=3:=rfl
theorem Xd {x:bn}:∀u∈ptC x,u.oneCell'=true:=by
 intro u hu;simp only[ptC,aoM,aqI,or_false] at hu;rcases hu with rfl|rfl|rfl<;>rfl
theorem adQ:aggN ah 291=aw 3:=krx
theorem szPt:(Tryz.prog.info? 291).map (·.size)=aw 3:=krx
theorem Wj:fOff ah 291 0=aw 0:=krx
theorem Hv:fOff ah 291 1=aw 1:=krx
theorem ZH:fOff ah 291 2=aw 2:=krx
theorem ptAt {l:List bn}(hs:SlA M.A M.w v 3 l.length (l.flatMap ptC))(hi:i < l.length) :
  ∃p,(∀W,(mIA 269 v (.int .i64 (i:Int))).run ah W=.ok (.value (.pointer (aw p))) W)∧∀W,M.has W->(aJ 291 (.pointer (aw p))).run ah W=.ok (.value (ptV l[i])) W:=by
 obtain⟨b,off,cap,rfl,_⟩:=bY hs.1 om;refine⟨⟨b,off+i*3,av⟩,λW=>?_,λW hW=>?_⟩
 ·have:=dZ (P:=ah) (T:=269) (b:=b) (off:=off) (cap:=cap) (n:=l.length) (k:=.i64) (i:=(i:Int)) (w:=W) avR szPt om om;rw[aoF] at this;exact this
 ·obtain⟨b',off',cap',he,hc⟩:=bY (hs.now hW) om;cases he;refine bE (AtV.agg adQ (cs:=ptC l[i]) rfl λj u hj=>?_);rw[arM];exact hc _ _ (Eng.CL adA hi hj)
theorem Y6 {n k:Nat}(hk:k<=30)(hn:n<=1000000000):bAnd .i64 (n:Int) ((2 ^ k - 1:Nat):Int)=((n % 2 ^ k:Nat):Int):=by
 have hp:2 ^ k<=2 ^ 30:=apJ dc hk;have h30:(2:Nat) ^ 30=1073741824:=rfl;have hm:n % 2 ^ k<=n:=Nat.mod_le _ _;unfold bAnd;show IntKind.wrap .i64 (((BitVec.ofInt 64 (n:Int) &&& BitVec.ofInt 64 ((2 ^ k - 1:Nat):Int)).toNat:Nat):Int)=_;rw[BitVec.ofInt_natCast,BitVec.ofInt_natCast,BitVec.toNat_and,BitVec.toNat_ofNat,BitVec.toNat_ofNat,aqA om,aqA (a:=2 ^ k - 1) om,Nat.and_two_pow_sub_one_eq_mod];exact aA om om
theorem Zm {a k:Nat}(hk:k<=40)(h:a*2 ^ k<=4611686018427387904):IntKind.i64.wrap ((a:Int)*2 ^ min ((k:Nat):Int).toNat IntKind.i64.bits)=((a*2 ^ k:Nat):Int):=by
 rw[show min ((k:Nat):Int).toNat IntKind.i64.bits=k by show min ((k:Nat):Int).toNat 64=k;omega,show (a:Int)*2 ^ k=((a*2 ^ k:Nat):Int) by push_cast;rfl];exact aA om om
def sdT (r:Nat×Nat×Nat):Value:=.tuple #[.int .i64 (r.1:Int),.int .i64 (r.2.1:Int),.int .i64 (r.2.2:Int)]
theorem SK (n ones group:Nat)(w:ak)(hn:n<=40000)(h1:ones<=8)(hg:1<=group∧group<=4):Ret ah 343 #[.int .i64 (n:Int),.int .i64 (ones:Int),.int .i64 (group:Int)] w (λv w'=>v=sdT (jt n ones group)∧Below w.heap.size w w'):=by
 refine aK λK hK=>GM ?_;unfold Dj nz;generalize hR:jt n ones group=R at hK;unfold jt at hR;simp only[rs];by_cases h:(n:Int) < (ones:Int)
 ·simp only[h,aoA,i_t];rw[anX om] at hR;subst hR;exact hK _ _ ⟨rfl,(Own.start w).done⟩
 simp only[h,aoB,i_f];rw[anW om] at hR;rw[aA om om];have h221:(2:Nat) ^ (1+20)=2097152:=rfl;refine loop (λvs W=>∃(m sg bits f:Nat),vs=[.int .i64 (m:Int),.int .i64 (sg:Int),.int .i64 (bits:Int)]∧m<=40000∧bits+f=21∧sg<=8+4*bits∧m < group*2 ^ (bits+f)∧lj group f m sg bits=R∧Own w W []) (λvs _=>n0 vs) ⟨n - ones,ones,1,20,by congr 2;omega,om,rfl,om,om,hR,Own.start w⟩ ?_;rintro vs w1 ⟨m,sg,bits,f,rfl,hm,hbf,hsg,hlt,hX,ho⟩ _;simp only[zX,gd,nz];have hpb:2 ^ bits<=2 ^ 21:=apJ dc om;have h21:(2:Nat) ^ 21=2097152:=rfl;have hpp:=atP bits;have hgb:group*2 ^ bits<=4*2097152:=arQ hg.2 om;have hgb1:1*1<=group*2 ^ bits:=arQ hg.1 hpp;rw[wC om,Zm om om];simp only[rs];by_cases hc:((group*2 ^ bits:Nat):Int)<=(m:Int)
 ·simp only[hc,aoA,i_t];obtain⟨f,rfl⟩:∃g,f=g+1:=⟨f - 1,by
   rcases arF f with h0|h0
   ·subst h0;rw[apO] at hlt;omega
   ·omega⟩
  unfold lj at hX;rw[anX om] at hX;rw[wC om,Zm om om];simp only[rs];rw[aA om om,aA om om,aA om om];rw[show (m:Int) - ((group*2 ^ bits:Nat):Int)=((m - group*2 ^ bits:Nat):Int) by omega];refine aQ ⟨m - group*2 ^ bits,sg+group,bits+1,f,rfl,om,om,om,?_,hX,ho⟩ (by show ((m - group*2 ^ bits:Nat):Int).toNat < ((m:Nat):Int).toNat;omega);rw[show bits+1+f=bits+(f+1) by omega];omega
 ·simp only[hc,aoB,i_f];have hXe:(sg+m / 2 ^ bits,m % 2 ^ bits,bits)=R:=by
   cases f with
  |zero=>exact hX
  |succ f=>
    unfold lj at hX;rw[anW om] at hX;exact hX
  have hdv:m / 2 ^ bits<=m:=arY _ _;have hone:=Zm (a:=1) (k:=bits) om om;refine cR (λW=>Own w W []) ho.drew ?_;refine q_do _ (λ_=>XT om) ?_;rw[show min ((bits:Nat):Int).toNat IntKind.i64.bits=bits by show min ((bits:Nat):Int).toNat 64=bits;omega,PR];generalize m / 2 ^ bits=q at hdv hXe ⊢;refine iV ?_;rw[aA om om];refine q_do _ (λ_=>abM om) ?_;rw[show ((1:Int))=((1:Nat):Int) from rfl,hone,auJ];refine q_do _ (λ_=>AH) ?_;rw[aA om om,show ((2 ^ bits:Nat):Int) - ((1:Nat):Int)=((2 ^ bits - 1:Nat):Int) by omega];refine q_do _ (λ_=>WU) ?_;rw[Y6 om om];intro W ho;refine hK _ _ ⟨?_,ho.done⟩;rw[<-hXe];rfl
theorem OZ (n:Nat)(w:ak)(h3:3<=n)(h:n<=258):Ret ah 325 #[.int .i64 (n:Int)] w (λv w'=>v=.tuple #[.int .i64 ((ck n).1:Int),.int .i64 ((ck n).2.1:Int),.int .i64 ((ck n).2.2:Int),.int .i64 0]∧Below w.heap.size w w'):=by
 refine aK λK hK=>G8 ?_;unfold DS nz;obtain⟨s1,s2,_⟩:=mm h3 h;unfold ck at hK s1 s2;simp only[rs,show ai ((n:Int) < 3)=aq from anY om,show ai ((258:Int) < (n:Int))=aq from anY om,i_f];by_cases h8:(n:Int)=258
 ·simp only[h8,aoA,i_t];rw[anX om] at hK;exact hK _ _ ⟨rfl,(Own.start w).done⟩
 ·simp only[h8,aoB,i_f];rw[anW om] at hK s1 s2;rw[aA om om,show (n:Int) - 3=((n - 3:Nat):Int) by omega];refine aH (Own.start w) (R:=λv=>v=sdT (jt (n - 3) 8 4)) (SK (n - 3) 8 4 w om om om) ?_;rintro _ w2 rfl ho;unfold sdT;simp only[ex,rs];rw[aA om om];exact hK _ _ ⟨sm,ho.done⟩
theorem OK (n:Nat)(w:ak)(h3:1<=n)(h:n<=32768):Ret ah 326 #[.int .i64 (n:Int)] w (λv w'=>v=.tuple #[.int .i64 ((du n).1:Int),.int .i64 ((du n).2.1:Int),.int .i64 ((du n).2.2:Int),.int .i64 0]∧Below w.heap.size w w'):=by
 refine aK λK hK=>GS ?_;unfold Dm nz;simp only[rs,show ai ((n:Int) < 1)=aq from anY om,show ai ((32768:Int) < (n:Int))=aq from anY om,i_f];rw[aA om om,show (n:Int) - 1=((n - 1:Nat):Int) by omega];refine aH (Own.start w) (R:=λv=>v=sdT (jt (n - 1) 4 2)) (SK (n - 1) 4 2 w om om om) ?_;rintro _ w2 rfl ho;unfold sdT;simp only[ex,rs];exact hK _ _ ⟨rfl,ho.done⟩
theorem zr (last n:Nat)(l:List Nat)(s:List UInt8){k:Nat}(hk:l.length=8*k):gh (l++bf last 1++bf 0 2)++bf n 16++bf (65535 - n) 16++gg s=l++ki last n s:=by
 unfold ki gh;rw[show (8 - (l++bf last 1++bf 0 2).length % 8) % 8=5 by simp only[aoC,cc];omega];simp only[aoL]
theorem GP {k:IntKind}{b:Int}:DoX ah (mB .min #[T1,T2] U cb #[.int k a,.int k' b]) w PK K=K (.int k (min a b)) w:=aC (by
 have e:(if b < a then b else a)=min a b:=by split<;>omega
 simp[mB,builtin,Builtin.min_,Builtin.min2,e])
section
variable {w:ak}{PK:PKT}{K:VWP}{S:Nat->Prop}{w0:ak}{L T:List Ent}
theorem U9 {s:List UInt8}(ho:OwnS S w0 w T)(hs:s.length<=1048576)(k:∀W,OwnS S w0 W T->K (.string ⟨(ay (gp s)).toArray⟩) W):CallX ah 265 #[.string ⟨s.toArray⟩] w PK K:=by
 refine eW (DT (k0:=RetK λu W=>u=.string ⟨(ay (gp s)).toArray⟩∧OwnS S w0 W T) ?_) (λe W ⟨u,he,hv,ho⟩=>by subst he;subst hv;exact k W ho);unfold zP nz;refine Vv ho λb w1 ho=>?_;unfold gp;generalize hf:s.length / 65535+1=f;have hfs:s.length < f*65535:=om
 have hfl:f<=20:=om
 generalize hR:iy f s=R;refine loop (λvs W=>∃(t:List UInt8) (l:List Nat) (j g:Nat) (way:Int) (v:ao),vs=[.string ⟨t.toArray⟩]∧t.length<=1048576∧t.length < g*65535∧g<=20∧l.length=8*j∧j+t.length+5*g<=1048776∧bo l∧l++iy g t=R∧(way=0∨way=1)∧OwnS S w0 W (Wr b way l v T)) (λvs _=>iG (vs.getD 0 undef)) ⟨s,[],0,f,0,nilS,rfl,hs,hfs,hfl,rfl,om,(λb hb=>by cases hb),by rw[<-hR];rfl,.inl rfl,ho⟩ ?_;clear ho;rintro vs w2 ⟨t,l,j,g,way,v,rfl,ht,htg,hg,hlj,hjt,hok,hX,hw,ho⟩ _;simp only[uI,gd,nz];rw[cL aoD,GP];obtain⟨g,rfl⟩:∃q,g=q+1:=⟨g - 1,om⟩;unfold iy at hX;have hn:min (t.length:Int) 65535=((min t.length 65535:Nat):Int):=om
 rw[hn];refine join λJ hJ=>?_;rw[cL aoD];simp only[rs];have go:∀last:Nat,last < 2->(last=1↔t.length<=65535)->J [.int .i64 (last:Int)] w2:=by
  intro last hlast hiff;refine hJ _ _ λ_=>?_;simp only[uK,gd,nz];generalize hnn:min t.length 65535=n;have hn16:n<=65535:=om
  have hnt:n<=t.length:=om
  have hlk:l.length<=10000000:=om
  refine pG (n:=1) ho hok hw om om om λway1 v1 w3 hw1 ho=>?_;have hok1:=cd hok (ee last 1);refine pG (x:=0) (n:=2) ho hok1 hw1 om dc (by rw[aoC,cc];omega) λway2 v2 w4 hw2 ho=>?_;have hok2:=cd hok1 (ee 0 2);refine RM ho λw5 ho=>?_;have hok3:=wi hok2;have hl3:(gh (l++bf last 1++bf 0 2)).length=8*(j+1):=by
   rw[oq];simp only[aoC,cc];omega
  generalize hl3e:gh (l++bf last 1++bf 0 2)=l3 at ho hok3 hl3;refine pG (x:=n) (n:=16) ho hok3 (.inl rfl) om om om λway4 v4 w6 hw4 ho=>?_;have hok4:=cd hok3 (ee n 16);simp only[rs];rw[aA om om,show (65535:Int) - (n:Int)=((65535 - n:Nat):Int) by omega];refine pG (x:=65535 - n) (n:=16) ho hok4 hw4 om om (by rw[aoC,cc];omega) λway5 v5 w7 hw5 ho=>?_;have hok5:=cd hok4 (ee (65535 - n) 16);have hl5:(l3++bf n 16++bf (65535 - n) 16).length=8*(j+5):=by
   simp only[aoC,cc];omega
  have hp5:gh (l3++bf n 16++bf (65535 - n) 16)=l3++bf n 16++bf (65535 - n) 16:=by
   unfold gh;rw[hl5,show (8 - 8*(j+5) % 8) % 8=0 by omega];exact aoV _
  refine RM ho λw8 ho=>?_;rw[hp5] at ho;rw[Rc aoD om om,aoF];have hltk:(t.take n).length=n:=by rw[aoH];omega
  refine agL (j:=j+5) ho hl5 om om λv6 w9 ho=>?_;rw[Ac aoD om om,aoF];have hbits:=zr last n l (t.take n) hlj;rw[hl3e] at hbits;rw[hbits] at ho;have hok6:=cd hok (pr last n (t.take n));have hl6:(l++ki last n (t.take n)).length=8*(j+5+n):=by rw[aoC,kj,hltk];omega
  try simp only[rs]
  by_cases h1:t.length<=65535
  ·have hl1:=hiff.2 h1;subst hl1;simp only[show ai (((1:Nat):Int)=1)=au from rfl,i_t];rw[anX h1] at hX;have hnl:n=t.length:=om
   rw[hnl,aqJ,hX] at ho;refine Qv ho (by rw[<-hX,aoC,kj];omega) (by rw[<-hX,aoC,kj];omega) λW ho=>?_;exact⟨_,rfl,rfl,ho⟩
  ·have hl0:last=0:=by
    have:¬last=1:=λe=>h1 (hiff.1 e);omega
   subst hl0;simp only[show ai (((0:Nat):Int)=1)=aq from rfl,i_f];rw[anW h1] at hX;have hnl:n=65535:=om
   subst hnl;rw[<-aoL] at hX;have ld:(t.drop 65535).length=t.length - 65535:=aoJ;exact aQ ⟨t.drop 65535,_,j+5+65535,g,0,v6,rfl,om,om,om,hl6,om,hok6,hX,.inl rfl,ho⟩ (by
    show iG (.string ⟨(t.drop 65535).toArray⟩) < iG (.string ⟨t.toArray⟩);rw[eR,eR];omega)
 by_cases h1:t.length<=65535
 ·simp only[show ai (((min t.length 65535:Nat):Int)=(t.length:Int))=au from anZ om,i_t];exact go 1 dc ⟨λ_=>h1,λ_=>rfl⟩
 ·simp only[show ai (((min t.length 65535:Nat):Int)=(t.length:Int))=aq from anY om,i_f];exact go 0 dc ⟨(λh=>by cases h),λh=>absurd h h1⟩
end
end
section
open Eng Go.RowKit
theorem Cn.Oz:∀l:List Cn,Cn.sum Cn.wt (Cn.jR l)<=Cn.sum Cn.wt l
|[]=>aoG _
|[a]=>aoO _
|a::b::l=>by
  have ih:=Cn.Oz l;show Cn.sum Cn.wt (.node a b::Cn.jR l)<=_;rw[Cn.sum_cons,Cn.sum_cons,Cn.sum_cons];show a.wt+b.wt+_<=_;omega
theorem Cn.Row.ajZ {L:List Cn}(h:Cn.Row L t r):Cn.sum Cn.wt r<=(t+1)*Cn.sum Cn.wt L:=by
 induction h with
|zero _ hp=>
  rw[Cn.Mo hp];omega
|@succ t q r hq _ hp ih=>
  have:=Cn.Oz q;rw[Cn.Mo hp,Cn.JL,aqX];omega
def oz (counts:List Nat)(i:Nat):List Nat:=(List.range i).filter λs=>ai (0 < counts.getD s 0)
def ky (counts:List Nat)(i:Nat):List Cn:=(oz counts i).map λs=>.leaf (counts.getD s 0) s
theorem xq (counts:List Nat):ky counts counts.length=kx counts:=rfl
theorem xr (counts:List Nat)(i:Nat):ky counts (i+1)=ky counts i++(if 0 < counts.getD i 0 then [.leaf (counts.getD i 0) i] else []):=by
 unfold ky oz;rw[asS,auU,apX]
 congr 1
 by_cases h:0 < counts.getD i 0
 ·rw[anX h,asV,anX (anZ h)];rfl
 ·rw[anW h,asV,anW (λk=>h (aoU k))];rfl
theorem aai (counts:List Nat)(i:Nat):(ky counts i).length<=i:=by
 unfold ky oz;rw[apP];have:=auT (λs=>ai (0 < counts.getD s 0)) (List.range i)
 rwa [avI] at this
theorem xt {counts:List Nat}(h:∀c∈counts,c<=2147483647):∀i,Cn.sum Cn.wt (ky counts i)<=i*2147483647
|0=>by simp[ky,oz,Cn.sum]
|i+1=>by
  have ih:=xt h i;rw[xr,Cn.JL,aqX];have hg:counts.getD i 0<=2147483647:=jj h dc i;have e:Cn.sum Cn.wt (if 0 < counts.getD i 0 then [.leaf (counts.getD i 0) i] else [])<=counts.getD i 0:=by
   split
   ·simp[Cn.sum,Cn.wt]
   ·simp[Cn.sum]
  omega
theorem CA (l:List Nat)(i n:Nat):(aM l).set i (.int .i64 (n:Int))=aM (l.set i n):=by unfold aM;rw[atQ]
theorem Gd (h:i < l.length):(aM l)[i]?=aw (.int .i64 ((l.getD i 0:Nat):Int)):=by
 unfold aM;rw[asE,aoE,aoI h];rfl
theorem NM:(Tryz.prog.info? 3).map (·.size)=aw 1:=krx
theorem UO {g n:Nat}(hi:i < n)(W:ak):(mIA 123 (.slice (aw ⟨g,0,av⟩) n cap) (.int .i64 (i:Int))).run ah W=.ok (.value (.pointer (aw ⟨g,i,av⟩))) W:=by
 have:=dZ (P:=ah) (T:=123) (b:=g) (off:=0) (cap:=cap) (n:=n) (k:=.i64) (i:=(i:Int)) (w:=W) aoQ NM om om
 rwa [aoF,aoS,aoN] at this
abbrev lnE (ob g n:Nat):Ent:=.cells ob [.slice (aw ⟨g,0,av⟩) n n] 123
abbrev lrE (g:Nat)(out:List Nat):Ent:=.cells g (aM out) 3
def afZ (ob:Nat):Value:=.func (.func 330) #[] #[.pointer (aw ⟨ob,0,av⟩)]
theorem KN:bZ ah 330=true:=krx
section
variable {w:ak}{PK:PKT}{K:VWP}{S:Nat->Prop}{w0:ak}{L T:List Ent}
theorem acM :DoX ah (mEq .eql 342 xo yo (.pointer (aw ⟨b,0,av⟩)) (.pointer av)) w PK K=K (.bool aq) w:=aC krx
theorem XH :DoX ah (mEq .eql 342 xo yo (.pointer av) (.pointer av)) w PK K=K (.bool au) w:=aC krx
theorem ahV {ob g s:Nat}{out:List Nat}(ho:OwnS S w0 w (lnE ob g out.length::lrE g out::T))(hs:s < out.length)(hb:out.getD s 0<=1000000000)
  (k:∀W,OwnS S w0 W (lnE ob g out.length::lrE g (out.set s (out.getD s 0+1))::T)->K (.tuple #[]) W):DoX ah (gK (afZ ob) #[.int .i64 (s:Int)]) w PK K:=by
 refine HL KN ?_;show CallX ah 330 #[.int .i64 (s:Int),.pointer (aw ⟨ob,0,av⟩)] w PK K;refine eW (Bs (k0:=RetK λv W=>v=.tuple #[]∧OwnS S w0 W (lnE ob g out.length::lrE g (out.set s (out.getD s 0+1))::T)) ?_) (λe W ⟨v,he,hv,ho⟩=>by subst he;subst hv;exact k W ho);unfold uN nz;rw[aS Ht (ho.cell 0 rfl 0 rfl)];refine aC (UO hs w) |>.mpr ?_;rw[aS bP (ho.cell 1 rfl s (Gd hs))];simp only[rs];rw[aA om om,show ((out.getD s 0:Nat):Int)+1=((out.getD s 0+1:Nat):Int) by omega];refine aC (UO hs w) |>.mpr ?_;refine aN 1 ho rfl krx rfl (by rw[eE];exact hs) λw2 ho=>?_;rw[CA] at ho;exact retK ⟨rfl,ho⟩
theorem Xt {ob g jm:Nat}{M:Mem}(hm:T[jm]?=aw (.mem M)):∀(c:Cn) {v:ao} {w:ak} {PK:PKT} {K:VWP} {out:List Nat},OwnS S w0 w (lnE ob g out.length::lrE g out::T)->CnAt M.A M.w v c ->
  (∀s,0 < c.cnt s->s < out.length)->(∀s,out.getD s 0+c.cnt s<=1000000000) ->
  (∀W out',out'.length=out.length->(∀s,out'.getD s 0=out.getD s 0+c.cnt s)->OwnS S w0 W (lnE ob g out'.length::lrE g out'::T)->K (.tuple #[]) W) ->
  CallX ah 329 #[v,afZ ob] w PK K
|.leaf wt s,v,w,PK,K,out,ho,hv,hlt,hb,k=>by
  refine eW (sK (k0:=RetK λv W=>v=.tuple #[]∧∃out',out'.length=out.length∧(∀t,out'.getD t 0=out.getD t 0+(Cn.leaf wt s).cnt t)∧OwnS S w0 W (lnE ob g out'.length::lrE g out'::T)) ?_) (λe W ⟨v,he,hv,out',h1,h2,ho⟩=>by subst he;subst hv;exact k W out' h1 h2 ho);unfold oT nz;obtain⟨b,rfl,hA,hc⟩:=hv;have hM:M.has w:=ho.hasM (jm+2) (by rw[apW,apW];exact hm);rw[aY,aP UN];refine aC (aB Nu (aI (T:=344) (cs:=cnC wt s (.pointer av) (.pointer av)) (kP hM hA hc) (i:=2) rfl)) |>.mpr ?_;rw[XH,i_t,aY,aP ZI];refine aC (aB bP (aI (T:=344) (cs:=cnC wt s (.pointer av) (.pointer av)) (kP hM hA hc) (i:=1) rfl)) |>.mpr ?_;have hs:s < out.length:=hlt s (by simp[Cn.cnt]);have hb0:=hb s;refine ahV ho hs om λW ho=>?_;refine retK ⟨rfl,out.set s (out.getD s 0+1),aqM,λt=>?_,by rw[aqM];exact ho⟩;rw[aoE];by_cases h:s=t
  ·subst h;rw[arR hs];simp[Cn.cnt]
  ·rw[auI h,<-aoE];simp[Cn.cnt,h]
|.node x y,v,w,PK,K,out,ho,hv,hlt,hb,k=>by
  refine eW (sK (k0:=RetK λv W=>v=.tuple #[]∧∃out',out'.length=out.length∧(∀t,out'.getD t 0=out.getD t 0+(Cn.node x y).cnt t)∧OwnS S w0 W (lnE ob g out'.length::lrE g out'::T)) ?_) (λe W ⟨v,he,hv,out',h1,h2,ho⟩=>by subst he;subst hv;exact k W out' h1 h2 ho);unfold oT nz;obtain⟨b,va,vb,rfl,hA,hc,hx,hy⟩:=hv;have hm2:∀{W:ak} {e e':Ent},OwnS S w0 W (e::e'::T)->M.has W:=λho=>ho.hasM (jm+2) (by rw[apW,apW];exact hm);obtain⟨ba,ea,_⟩:=CnAt.ptr hx;have ld2:∀{W:ak},M.has W->(aJ 342 (.pointer (aw ⟨b,0+2,av⟩))).run ah W=.ok (.value va) W:=λhM=>aB Nu (aI (T:=344) (cs:=cnC (x.wt+y.wt) 0 va vb) (kP hM hA hc) (i:=2) rfl);have ld3:∀{W:ak},M.has W->(aJ 342 (.pointer (aw ⟨b,0+3,av⟩))).run ah W=.ok (.value vb) W:=λhM=>aB Nu (aI (T:=344) (cs:=cnC (x.wt+y.wt) 0 va vb) (kP hM hA hc) (i:=3) rfl);have hcnt:∀t,(Cn.node x y).cnt t=x.cnt t+y.cnt t:=λt=>rfl;rw[aY,aP UN];refine aC (ld2 (hm2 ho)) |>.mpr ?_;rw[ea,acM,i_f]
  try rw[aY]
  rw[aP UN];refine aC (ld2 (hm2 ho)) |>.mpr ?_;refine Xt hm x ho hx (λs h=>hlt s (by rw[hcnt];omega)) (λs=>by have:=hb s;rw[hcnt] at this;omega) λW1 out1 hl1 hg1 ho=>?_
  try rw[aY]
  rw[aP ajM];refine aC (ld3 (hm2 ho)) |>.mpr ?_;refine Xt hm y ho hy (λs h=>by rw[hl1];exact hlt s (by rw[hcnt];omega)) (λs=>by have:=hb s;rw[hcnt] at this;rw[hg1];omega) λW2 out2 hl2 hg2 ho=>?_;exact retK ⟨rfl,out2,by rw[hl2,hl1],λt=>by rw[hg2,hg1,hcnt];omega,ho⟩
end
theorem Jq (h:(pcE v ps).is w):DoX ah (mB .len #[341] 3 #[aq] #[v]) w PK K=K (.int .i64 (ps.length:Int)) w:=bB aqT (Sl.urow h)
theorem Z3 {ob gb:Nat}{out:List Nat}(ho:OwnS S w0 w (lnE ob gb out.length::lrE gb out::R))(hj:R[j]?=aw (Ent.mem N))(hb:out.length<=1000000) :
  ∃N2:Mem,N.le N2∧SlA N2.A N2.w (.slice (aw ⟨gb,0,av⟩) out.length out.length) 1 out.length (aM out)∧∃(L2:List Ent) (j2:Nat),OwnS S w0 w L2∧L2[j2]?=aw (Ent.mem N2):=by
 have ho:OwnS S w0 w ([lnE ob gb out.length]++([lrE gb out]++R)):=ho;have ho:OwnS S w0 w (.cells gb (aM out) 3::(lnE ob gb out.length::R)):=ho.front;have ho:=ho.toU 1 out.length out.length (by rw[eE,aoS]) (aoG _) om;rw[aoS,apE (by rw[eE];exact aoG _)] at ho;obtain⟨N2,g,hs,ho⟩:=OwnS.cI ho (j+1) (by rw[apW];exact hj);refine⟨N2,g,hs,_,j+1,ho,?_⟩;rw[arR (by
  have:=(aoX.1 hj).1;simp only[apB];omega)]
theorem D7 {l:List Cn}(h:ps.map (·.2)=l):ps.length=l.length:=by rw[<-h,apP]
theorem Cn.Yi {L:List Cn}(hL:Cn.Lv L Sy)(h:Cn.Row L t r){n:Nat}(hn:∀s∈Sy,s < n):∀x∈r,∀s,0 < x.cnt s->s < n:=by
 intro x hx s hs;by_cases hm:s∈Sy
 ·exact hn s hm
 ·have:=h.none hL hm x hx;omega
theorem sr (h:Srt.srt pw ps):Cn.sorted (ps.map (·.2)):=by
 unfold Cn.sorted;rw[List.pairwise_map];exact h
theorem Bk (counts:List Nat)(most:Nat)(v:ao)(M:Mem)(w:ak)(hM:M.has w)(hs:SlA M.A M.w v 1 counts.length (aM counts))(hl:counts.length<=288)(hl0:0 < counts.length)(hc:∀c∈counts,c<=2147483647)(hm:1<=most)(hm2:most<=15)(hu:(dm counts).length<=2 ^ most) :
  RetM ah 298 #[v,.int .i64 (most:Int)] M w (λr N=>∃lens r',r=.tuple #[r',.int .i64 0]∧Df.OT counts lens most∧r'.oneCell'=au∧SlA N.A N.w r' 1 lens.length (aM lens)):=by
 refine aU hM λK hK=>GC ?_;unfold DH nz;have ho:OwnS M.A w w [.mem M]:=OwnS.memS hM;rw[bB aoQ (hs.now hM)];simp only[rs,show ai ((288:Int) < (counts.length:Int))=aq from anY om,show ai ((most:Int) < 1)=aq from anY om,show ai ((15:Int) < (most:Int))=aq from anY om,i_f];rw[bB aoQ (hs.now hM)];have ho:OwnS M.A w w [.urow 342 1 nilS 0 [],.mem M]:=OwnS.nilU (L:=[.mem M]) ho _ _;refine loop (λvs W=>∃(i:Nat) (v':ao) (qs:List Pc) (N:Mem),vs=[v',.int .i64 (i:Int)]∧i<=counts.length∧M.le N∧qs.map (·.2)=ky counts i∧(∀x∈qs,okM N x)∧OwnS M.A w W [pcE v' qs,.mem N]) (λvs _=>counts.length - n1 vs) ⟨0,nilS,[],M,rfl,om,M.le_refl,rfl,(λx hx=>by cases hx),ho⟩ ?_;clear ho;rintro vs w1 ⟨i,v',qs,N,rfl,hi,hle,hX,hqo,ho⟩ _;simp only[zN,gd,rs,nz];have hql:=D7 hX;have hcl:=aai counts i;by_cases hlt:(i:Int) < (counts.length:Int)
 ·simp only[hlt,aoA,i_t];have hi':i < counts.length:=om
  refine join λJ hJ=>?_;obtain⟨b2,off,r1,r2⟩:=eX (hs.now (Mem.Ov hle (ho.hasM 1 rfl))) hi';refine aC (r1 w1) |>.mpr (aC (aB bP r2) |>.mpr ?_);have hci:=hc _ (aoR hi');have hgi:counts.getD i 0=counts[i]:=by rw[aoE,aoI hi'];rfl
  have hsucc:=xr counts i;rw[hgi] at hsucc;generalize counts[i]=ci at hci hsucc;simp only[rs,show ai ((ci:Int) < 0)=aq from anY om,show ai ((2147483647:Int) < (ci:Int))=aq from anY om,i_f];have fin:∀(W:ak) (v2:ao) (qs2:List Pc) (N2:Mem),N.le N2->qs2.map (·.2)=ky counts (i+1)->(∀x∈qs2,okM N2 x)->OwnS M.A w W [pcE v2 qs2,.mem N2]->J [v2] W:=by
   intro W v2 qs2 N2 g h1 h2 ho;refine hJ _ _ λ_=>?_;simp only[zT,gd,rs,nz];rw[aA om om];exact aQ ⟨i+1,v2,qs2,N2,rfl,om,hle.trans g,h1,h2,ho⟩ (by simp[n1,RowKit.intOf];omega)
  by_cases h0:0 < ci
  ·simp only[show ai ((0:Int) < (ci:Int))=au from anZ om,i_t];rw[anX h0] at hsucc;have mb:∀{PK:PKT} {K:VWP},DoX ah (bA 344 #[(0,.int .i64 (ci:Int)),(1,.int .i64 (i:Int))]) w1 PK K=K (.agg (cnC ci i (.pointer av) (.pointer av)).toArray) w1:=aC krx;rw[mb];refine bD (λb=>.pointer (aw ⟨b,0,av⟩)) (cnC ci i (.pointer av) (.pointer av)) 344 (λ_=>by kernel_rfl) ho λnb w3 ho=>?_;have hne:=ho.at_ 0 rfl;obtain⟨N1,g1,hN1,hblk,ho⟩:=OwnS.freeze (L:=[pcE v' qs,.mem N]) ho 1 rfl;have hz:okM N1 (.pointer (aw ⟨nb,0,av⟩),.leaf ci i):=⟨nb,rfl,hblk nb rfl,by rw[hN1];exact hne⟩;have ho:OwnS M.A w w3 [pcE v' qs,.mem N1]:=ho;refine bD (λb=>.slice (aw ⟨b,0,av⟩) 1 1) [.pointer (aw ⟨nb,0,av⟩)] 342 (λ_=>by kernel_rfl) ho λsb w4 ho=>?_;refine aX 1 aqT MZ dc ho rfl (eG (ho.at_ 0 rfl) dc rfl) (λu hu=>by rw[aoZ.1 hu];rfl) om om λv2 w5 ho=>?_;have ho:OwnS M.A w w5 [pcE v2 (qs++[(.pointer (aw ⟨nb,0,av⟩),.leaf ci i)]),.mem N1]:=by
    unfold pcE;rw[Qx,aoC];exact ho.tail
   refine fin w5 v2 _ N1 g1 (by rw[apX,hX,hsucc];rfl) (λu hu=>?_) ho;rcases apF.1 hu with h|h
   ·exact (hqo u h).le g1
   ·rw[aoZ.1 h];exact hz
  ·simp only[show ai ((0:Int) < (ci:Int))=aq from anY om,i_f];rw[anW h0,aoV] at hsucc;exact fin w1 v' qs N N.le_refl (by rw[hX,hsucc]) hqo ho
 ·simp only[hlt,aoB,i_f];have hie:i=counts.length:=om
  subst hie;rw[xq] at hX;have hLv:=xe counts;have hqu:qs.length=(dm counts).length:=by rw[D7 hX,hLv.len]
  have hpm:2 ^ most<=2 ^ 15:=apJ dc hm2;have e15:(2:Nat) ^ 15=32768:=rfl;rw[Jq (ho.at_ 0 rfl),wC om];have hone:=Zm (a:=1) (k:=most) om om;rw[auJ] at hone;have hone:IntKind.i64.wrap ((1:Int)*2 ^ min ((most:Nat):Int).toNat IntKind.i64.bits)=((2 ^ most:Nat):Int):=hone;rw[hone];simp only[rs,show ai (((2 ^ most:Nat):Int) < (qs.length:Int))=aq from anY om,i_f];rw[bB aoQ (hs.now (Mem.Ov hle (ho.hasM 1 rfl)))];refine yK om ho λgb w2 ho=>?_;refine bD (λb=>.pointer (aw ⟨b,0,av⟩)) [.slice av 0 0] 123 (λ_=>by kernel_rfl) ho λob w3 ho=>?_;refine aN 0 ho rfl krx rfl (by show 0 < 1;omega) λw4 ho=>?_;have hz0:aM (List.replicate counts.length 0)=List.replicate counts.length (.int .i64 0):=by simp[aM]
  have ho:OwnS M.A w w4 (lnE ob gb (List.replicate counts.length 0).length::lrE gb (List.replicate counts.length 0)::[pcE v' qs,.mem N]):=by
   unfold lrE;rw[hz0,apC];exact ho
  refine join λJ3 hJ3=>?_;rw[Jq (ho.at_ 2 rfl)];simp only[rs];have fin:∀(W:ak) (out:List Nat),out.length=counts.length->(qs.length < 2->Df.OT counts out most)->(2<=qs.length->out=List.replicate counts.length 0)->OwnS M.A w W (lnE ob gb out.length::lrE gb out::[pcE v' qs,.mem N])->J3 [] W:=by
   intro W out hol h1 h2 ho;refine hJ3 _ _ λ_=>?_;unfold zF nz;rw[Jq (ho.at_ 2 rfl)];simp only[rs];by_cases hq2:qs.length < 2
   ·simp only[show ai ((qs.length:Int) < 2)=au from anZ om,i_t];rw[aS Ht (ho.cell 0 rfl 0 rfl)];obtain⟨N2,g2,hsl,L2,j2,ho2,hj2⟩:=Z3 (j:=1) ho rfl om;exact hK _ _ N2 L2 j2 ho2 hj2 (hle.trans g2) ⟨out,_,rfl,h1 hq2,rfl,hsl⟩
   ·simp only[show ai ((qs.length:Int) < 2)=aq from anY om,i_f];have h2:=h2 om;subst h2;have hv1:=eF (ho.at_ 2 rfl);have ho:OwnS M.A w W ([lnE ob gb (List.replicate counts.length 0).length,lrE gb (List.replicate counts.length 0)]++([pcE v' qs]++[.mem N])):=ho;obtain⟨N2,g2,hqs,ho⟩:=OwnS.cI (L:=[lnE ob gb (List.replicate counts.length 0).length,lrE gb (List.replicate counts.length 0)]++[.mem N]) ho.front 2 rfl;have ho:OwnS M.A w W [lnE ob gb (List.replicate counts.length 0).length,lrE gb (List.replicate counts.length 0),.mem N2]:=ho;refine bI ho 2 rfl (JM qs [] v' nilS N2 W (ho.hasM 2 rfl) hqs (SlA.nil _ _ _ _) (λx hx=>(hqo x hx).le g2) (λx hx=>by cases hx) om om sm hv1 rfl) ?_;rintro lv N3 w5 g3 ⟨ls,hlp,hls,hlo,hl1,hlsl⟩ ho;rw[aoV] at hlp;have hlm:(ls.map (·.2)).Perm (kx counts):=by rw[<-hX];exact hlp.map _
    have hln:ls.length=(dm counts).length:=by rw[hlp.length_eq,hqu]
    have hcn:=hLv.len;have hul:(dm counts).length<=288:=by
     have:=auT (λs=>ai (0 < counts.getD s 0)) (List.range counts.length);rw[avI] at this;have e:(dm counts).length<=counts.length:=this;omega
    rw[aA om om];refine loop (λvs V=>∃(k:Nat) (rv:ao) (rs:List Pc) (N':Mem),vs=[rv,.int .i64 (k:Int)]∧k<=most - 1∧N3.le N'∧Cn.Row (kx counts) k (rs.map (·.2))∧(∀x∈rs,okM N' x)∧rv.oneCell'=au∧SlA N'.A N'.w rv 1 rs.length (pcW rs)∧OwnS M.A w V [lnE ob gb (List.replicate counts.length 0).length,lrE gb (List.replicate counts.length 0),.mem N']) (λvs _=>most - n1 vs) ⟨0,lv,ls,N3,rfl,om,N3.le_refl,.zero (sr hls) hlm,hlo,hl1,hlsl,ho⟩ ?_;clear ho;rintro vs w6 ⟨k,rv,rws,N4,rfl,hk,g4,hrow,hro,hr1,hrsl,ho⟩ _;simp only[zI,gd,rs,nz];have hrl:=hrow.lt om;rw[apP,hcn] at hrl;by_cases hltk:(k:Int) < (most:Int) - 1
    ·simp only[hltk,aoA,i_t];have hsum:=hrow.ajZ;have hcs:=xt hc counts.length;rw[xq] at hcs;have hkb:(k+1)*Cn.sum Cn.wt (kx counts)<=15*(288*2147483647):=arQ om (aqQ hcs (arQ hl (aoG _)));have hwt:∀x∈rws,pw x<=1000000000000000:=λx hx=>by
      have h1:x.2.wt<=Cn.sum Cn.wt (rws.map (·.2)):=Cn.Qk (apN.2 ⟨x,hx,rfl⟩);show x.2.wt<=_;omega
     refine bI ho 2 rfl (Ua rws rv N4 w6 (ho.hasM 2 rfl) hrsl hro om hwt) ?_;rintro pv N5 w7 g5 ⟨qq,hqq,hqqo,hqq1,hqqs⟩ ho;have hqql:qq.length<=1000000:=by
      rw[D7 hqq,Cn.Fh,apP];omega
     refine bI ho 2 rfl (JM ls qq lv pv N5 w7 (ho.hasM 2 rfl) (hlsl.le (g4.trans g5)) hqqs (λx hx=>(hlo x hx).le (g4.trans g5)) hqqo om om om hl1 hqq1) ?_;rintro rv2 N6 w8 g6 ⟨rs2,hp2,hs2,hro2,hr2,hrsl2⟩ ho
     try simp only[rs]
     rw[aA om om];refine aQ ⟨k+1,rv2,rs2,N6,rfl,om,g4.trans (g5.trans g6),.succ hrow (sr hs2) ?_,hro2,hr2,hrsl2,ho⟩ (by simp[n1,RowKit.intOf];omega);have:=hp2.map (·.2);rw[apX,hqq] at this;exact this.trans (hlm.append_right _)
    ·simp only[hltk,aoB,i_f];have hke:k=most - 1:=om
     obtain⟨c1,c2,c3⟩:=hrow.code hLv om (by rw[hke,show most - 1+1=most by omega,hcn];exact hu);rw[apP,hcn] at c1;rw[hcn] at c2 c3;rw[bB aqT ((hlsl.le g4).now (ho.hasM 2 rfl))];simp only[rs];rw[aA (n:=(2:Int)*(ls.length:Int)) om om,aA om om,show (2:Int)*(ls.length:Int) - 2=((2*(dm counts).length - 2:Nat):Int) by omega];generalize hD:2*(dm counts).length - 2=D at c1 c2 c3;obtain⟨rb,roff,rcap,rfl,_⟩:=bY hrsl.1 om;have hcap:=hrsl.2.2 _ _ _ rfl;refine aC (jB aqT GN om om) |>.mpr ?_;rw[aoF];have hup:=SlA.Rl hrsl (i:=D) c1 (λh=>by omega);rw[aoS] at hup;generalize hsv:Value.slice (subA (aw ⟨rb,roff,av⟩) 0 rcap 1) D rcap=sv at hup;have hupW:pcW (rws.take D)=(pcW rws).take D:=by unfold pcW;rw[atB]
     have hupl:(rws.take D).length=D:=by rw[aoH];omega
     have hup:SlA N4.A N4.w sv 1 (rws.take D).length (pcW (rws.take D)):=by rw[hupW,hupl];exact hup
     rw[bB aqT (hup.now (ho.hasM 2 rfl)),hupl];have hdn:((rws.map (·.2)).take D).Nodup:=(List.take_sublist _ _).nodup (hrow.nodup hLv).1;have hlev:=hrow.levels hLv _ hdn (λx hx=>aqV hx) (Cn.Sz hrow.sorted D);have hsy:∀s∈dm counts,s < counts.length:=λs hs=>by
      have:=ku.1 hs;rcases apD s counts.length with h'|h'
      ·exact h'
      ·rw[aoE,aqB h'] at this;exact absurd this (asX _)
     have hkids:=Cn.Yi hLv hrow hsy;refine loop (λvs V=>∃(i:Nat) (out:List Nat),vs=[.int .i64 (i:Int)]∧i<=D∧out.length=counts.length∧(∀s,out.getD s 0=Cn.sum (Cn.cnt s) ((rws.take i).map (·.2)))∧OwnS M.A w V [lnE ob gb out.length,lrE gb out,.mem N4]) (λvs _=>D - n0 vs) ⟨0,List.replicate counts.length 0,rfl,om,apC,λs=>by
      rw[aoE,atO];split<;>rfl,ho⟩ ?_
     clear ho;rintro vs w7 ⟨j,out,rfl,hj,hol,hout,ho⟩ _;simp only[zO,gd,rs,nz];by_cases hltj:(j:Int) < (D:Int)
     ·simp only[hltj,aoA,i_t];have hj':j < (rws.take D).length:=om
      have hjr:j < rws.length:=om
      obtain⟨p,ia,ld⟩:=pcAt hup hj';refine aC (ia w7) |>.mpr (aC (ld w7 (ho.hasM 2 rfl)) |>.mpr ?_)
      try rw[Cs]
      rw[avK];have hx:=hro _ (aoR hjr);have htk:∀s,Cn.sum (Cn.cnt s) ((rws.take (j+1)).map (·.2))=Cn.sum (Cn.cnt s) ((rws.take j).map (·.2))+rws[j].2.cnt s:=λs=>by
       rw[apG hjr,apX,Cn.JL];rfl
      have hbd:∀s,Cn.sum (Cn.cnt s) ((rws.take (j+1)).map (·.2))<=k+1:=λs=>by
       have h1:=(hlev s).1;have h2:(rws.map (·.2)).take D=(rws.take (j+1)).map (·.2)++((rws.drop (j+1)).take (D - (j+1))).map (·.2):=by
        rw[<-atB,<-apX]
        congr 1
        conv=>lhs;rw[show D=j+1+(D - (j+1)) by omega,List.take_add]
       rw[h2,Cn.JL] at h1;omega
      refine Xt (jm:=0) (T:=[.mem N4]) rfl rws[j].2 ho hx (λs h=>by rw[hol];exact hkids _ (apN.2 ⟨rws[j],aoR hjr,rfl⟩) s h) (λs=>by rw[hout,<-htk];have:=hbd s;omega) λW2 out2 h1 h2 ho=>?_
      try simp only[rs]
      rw[aA om om];exact aQ ⟨j+1,out2,rfl,om,by rw[h1,hol],λs=>by rw[h2,hout,htk],ho⟩ (by simp[n0,RowKit.intOf];omega)
     ·simp only[hltj,aoB,i_f];have hje:j=D:=om
      subst hje;rw[aS Ht (ho.cell 0 rfl 0 rfl)];obtain⟨N5,g5,hsl,L2,j2,ho2,hj2⟩:=Z3 (j:=0) ho rfl om;refine hK _ _ N5 L2 j2 ho2 hj2 (hle.trans (g2.trans (g3.trans (g4.trans g5)))) ⟨out,_,rfl,?_,rfl,hsl⟩;have:=aaa (counts:=counts) (lens:=out) (m:=k) om hrow om (by rw[hke,show most - 1+1=most by omega];exact hu) hl hol λs _=>by
       rw[hout,hD,atB]
      rw[hke,show most - 1+1=most by omega] at this;exact this
  by_cases hq1:qs.length=1
  ·simp only[show ai ((qs.length:Int)=1)=au from anZ om,i_t];obtain⟨u,rfl⟩:=avQ.1 hq1;have huo:=hqo u (avP u);obtain⟨s,hus⟩:∃s,dm counts=[s]:=avQ.1 (by rw[<-hqu];rfl);have hu2:u.2=.leaf (counts.getD s 0) s:=by
    unfold kx at hX;rw[hus] at hX;exact (List.cons.inj hX).1
   have hsl:s < counts.length:=by
    have:s∈dm counts:=by rw[hus];exact avP s
    have:=ku.1 this;rcases apD s counts.length with h'|h'
    ·exact h'
    ·rw[aoE,aqB h'] at this;exact absurd this (asX _)
   unfold okM at huo;rw[hu2] at huo;obtain⟨ub,hub,hA,hcell⟩:=huo;obtain⟨g,cap,rfl⟩:=rW (ho.at_ 2 rfl) sm;refine cR (λV=>OwnS M.A w V (lnE ob gb (List.replicate counts.length 0).length::lrE gb (List.replicate counts.length 0)::[pcE (.slice (aw ⟨g,0,av⟩) [u].length cap) [u],.mem N])) ho.drew ?_;refine q_at _ (λV h=>aB Ht (h.cell 0 rfl 0 rfl)) ?_;refine q_do _ (λV=>sM (i:=0) sm V) (q_at u.1 (λV h=>Cv (i:=0) (h.at_ 2 rfl) sm) ?_);rw[hub];refine q_do _ (λ_=>cN) (q_do _ (λ_=>bH ZI) (q_at (.int .i64 (s:Int)) (λV h=>aB bP (aI (T:=344) (cs:=cnC (counts.getD s 0) s (.pointer av) (.pointer av)) (kP (h.hasM 3 rfl) hA hcell) (i:=1) rfl)) ?_));refine q_do _ (λV=>UO (by rw[apC];exact hsl) V) ?_;intro w5 ho;refine aN 1 ho rfl krx rfl (by rw[eE,apC];exact hsl) λw6 ho=>?_;have e1:(aM (List.replicate counts.length 0)).set s (.int .i64 1)=aM ((List.replicate counts.length 0).set s 1):=CA _ _ _;rw[e1] at ho;refine fin w6 ((List.replicate counts.length 0).set s 1) sm (λ_=>aac hl hus hm) (λh=>absurd h sm) ?_;have e2:((List.replicate counts.length 0).set s 1).length=(List.replicate counts.length 0).length:=aqM;rw[e2];exact ho
  ·simp only[show ai ((qs.length:Int)=1)=aq from anY om,i_f];refine fin w4 _ apC (λh=>?_) (λ_=>rfl) ho;exact aab hl (arS.1 om) most
end
section
open Eng Go.RowKit
def prC (a b:Nat):List Value:=[.pointer (aw ⟨a,0,av⟩),.pointer (aw ⟨b,0,av⟩)]
def prV (a b:Nat):Value:=.agg (prC a b).toArray
theorem Pf:fOff ah 296 0=aw 0:=krx
theorem VT:fOff ah 296 1=aw 1:=krx
theorem aeW:aggN ah 296=aw 2:=krx
theorem aaj {far:List Nat}(hn15:∀l∈near,l<=15)(hf15:∀l∈far,l<=15){x:bn}(h:gw m x):(fg near far x).length<=48:=by
 have h1:∀i,near.getD i 0<=15:=jj hn15 dc;have h2:∀i,far.getD i 0<=15:=jj hf15 dc;unfold fg;unfold gw at h;by_cases h0:x.2.1=0
 ·rw[anX h0,fo];have:=h1 x.1.toNat;omega
 ·rw[anW h0] at h ⊢;obtain⟨_,_,_,_,_,s6⟩:=mm h.2.1 h.2.2.1;obtain⟨_,_,_,_,f5⟩:=mz h.2.2.2.1 h.2.2.2.2.1;simp only[aoC,fo,cc];have:=h1 (ck x.2.1).1;have:=h2 (du x.2.2).1;omega
theorem pf {near far:List Nat}(hn15:∀l∈near,l<=15)(hf15:∀l∈far,l<=15):∀{l:List bn},(∀x∈l,∃m,gw m x)->(l.flatMap (fg near far)).length<=48*l.length
|[],_=>aoG _
|x::l,h=>by
  obtain⟨m,hm⟩:=h x (apU ..);have h1:=aaj hn15 hf15 hm;have h2:=pf hn15 hf15 λy hy=>h y (apA _ hy);rw[aqC,aoC,apB];omega
theorem aak (near far:List Nat)(l:List bn):bo (l.flatMap (fg near far)):=λb hb=>by
 obtain⟨x,_,hx⟩:=atK.1 hb;exact vy near far x b hx
section
variable {w:ak}{PK:PKT}{K:VWP}{S:Nat->Prop}{w0:ak}{L T:List Ent}
theorem Xo (ho:OwnS S w0 w L)(k:∀b w',OwnS S w0 w' (ptE b (0,0,0)::L)->K (.pointer (aw ⟨b,0,av⟩)) w'):DoX ah (Dv 291) w PK K:=
 bD (λb=>.pointer (aw ⟨b,0,av⟩)) (ptC (0,0,0)) 291 (λ_=>by kernel_rfl) ho k
theorem Oa (j:Nat){x y:bn}(ho:OwnS S w0 w L)(hi:L[j]?=aw (ptE b x))(k:∀w',OwnS S w0 w' (L.set j (ptE b y))->K undef w') :
  DoX ah (aV 291 (.pointer (aw ⟨b,0,av⟩)) (ptV y)) w PK K:=GI j ho hi (new:=ptC y) szPt Xd (by show 0+3<=3;omega) k
theorem pt_0 (ho:OwnS S w0 w L)(j:Nat){x:bn}(hi:L[j]?=aw (ptE b x)):DoX ah (aJ 5 (.pointer (aw ⟨b,0+0,av⟩))) w PK K=K (.int .u8 (x.1.toNat:Int)) w:=aS nU8l (ho.cell j hi 0 rfl)
theorem pt_1 (ho:OwnS S w0 w L)(j:Nat){x:bn}(hi:L[j]?=aw (ptE b x)):DoX ah (aJ 3 (.pointer (aw ⟨b,0+1,av⟩))) w PK K=K (.int .i64 (x.2.1:Int)) w:=aS bP (ho.cell j hi 1 rfl)
theorem pt_2 (ho:OwnS S w0 w L)(j:Nat){x:bn}(hi:L[j]?=aw (ptE b x)):DoX ah (aJ 3 (.pointer (aw ⟨b,0+2,av⟩))) w PK K=K (.int .i64 (x.2.2:Int)) w:=aS bP (ho.cell j hi 2 rfl)
theorem Se {ta:Nat}{far:List Nat}{pv:ao}{ps:List bn}(ho:OwnS S w0 w (Wr b way l v T))(hm:T[jm]?=aw (.mem M))(hta:TbW M.A M.w ta near)(htb:TbW M.A M.w tb far)
  (hca:az near=0) (hcb:az far=0) (ha15:∀l∈near,l<=15) (hb15:∀l∈far,l<=15) (h256:0 < near.getD 256 0) (hps:SlA M.A M.w pv 3 ps.length (ps.flatMap ptC)) (hh:∀x∈ps,fc near far x) (hpo:iu 0 ps) (hpl:ps.length<=1048576)
  (hok:bo l) (hw:way=0∨way=1) (hl:l.length<=100000000) (k:∀way' v' W,(way'=0∨way'=1)->OwnS S w0 W (Wr b way' (l++dk near far ps) v' T)->K (.tuple #[]) W) :
  CallX ah 296 #[prV ta tb,.pointer (aw ⟨b,0,av⟩),pv] w PK K:=by
 refine eW (yO (k0:=RetK λv W=>v=.tuple #[]∧∃way' v',(way'=0∨way'=1)∧OwnS S w0 W (Wr b way' (l++dk near far ps) v' T)) ?_) (λe W ⟨v,he,hv,way',v',hw',ho⟩=>by subst he;subst hv;exact k way' v' W hw' ho);unfold qE nz;refine bD (λb=>.pointer (aw ⟨b,0,av⟩)) (prC ta tb) 296 (λ_=>by kernel_rfl) ho λpb w1 ho=>?_;have ho:OwnS S w0 w1 (([.cells pb (prC ta tb) 296]:List Ent)++([wrE b way l.length v,outR v (ay l)]++T)):=ho;have ho:OwnS S w0 w1 (Wr b way l v (.cells pb (prC ta tb) 296::T)):=ho.front;have hm2:∀{W:ak} {way:Int} {l:List Nat} {v:ao} {e:Ent},OwnS S w0 W (Wr b way l v (e::T))->M.has W:=λho=>ho.hasM (jm+3) (by rw[apW,apW,apW];exact hm);rw[bB avR (hps.now (hm2 ho))];refine loop (λvs W=>∃(i:Nat) (way':Int) (v':ao),vs=[.int .i64 (i:Int)]∧i<=ps.length∧(way'=0∨way'=1)∧OwnS S w0 W (Wr b way' (l++(ps.take i).flatMap (fg near far)) v' (.cells pb (prC ta tb) 296::T))) (λvs _=>ps.length - n0 vs) ⟨0,way,v,rfl,om,hw,by show OwnS S w0 w1 (Wr b way (l++[]) v _);rw[aoV];exact ho⟩ ?_;clear ho hw;rintro vs w2 ⟨i,way',v',rfl,hi,hw,ho⟩ _;simp only[mM,gd,rs,nz];have hfl:=pf ha15 hb15 (l:=ps.take i) λx hx=>mf hpo x (aqV hx);rw[aoH,apI hi] at hfl;have hfok:=aak near far (ps.take i);by_cases hlt:(i:Int) < (ps.length:Int)
 ·have hi':i < ps.length:=om
  simp only[hlt,aoA,i_t];obtain⟨p,hia,hld⟩:=ptAt hps hi';refine join λJ hJ=>?_;rw[aC (hia w2),aC (hld w2 (hm2 ho))];have hx:=hh _ (aoR hi');obtain⟨mx,hxo⟩:=mf hpo _ (aoR hi');have htk:ps.take (i+1)=ps.take i++[ps[i]]:=apG hi';have fin:∀(W:ak) (way':Int) (v':ao) (xb:Nat),(way'=0∨way'=1)->OwnS S w0 W (Wr b way' (l++(ps.take i).flatMap (fg near far)++fg near far ps[i]) v' (ptE xb ps[i]::.cells pb (prC ta tb) 296::T))->J [] W:=by
   intro W way' v' xb hw ho;refine hJ _ _ λ_=>?_;simp only[lS,gd,rs,nz];rw[aA om om];refine aQ ⟨i+1,way',v',rfl,om,hw,?_⟩ (by simp[n0,RowKit.intOf];omega);rw[htk,atC,atT,<-aoL];have ho:OwnS S w0 W ((Wr b way' (l++(ps.take i).flatMap (fg near far)++fg near far ps[i]) v' [])++([ptE xb ps[i]]++(.cells pb (prC ta tb) 296::T))):=ho;exact ho.front.tail
  generalize ps[i]=x at hx hxo hld fin;generalize hB:l++(ps.take i).flatMap (fg near far)=B at ho fin;have hBl:B.length<=200000000:=by rw[<-hB,aoC];omega
  have hBok:bo B:=by rw[<-hB];exact cd hok hfok
  refine Xo ho λxb w3 ho=>?_;refine Oa (y:=x) 0 ho rfl λw4 ho=>?_;have ho:OwnS S w0 w4 ([ptE xb x]++(Wr b way' B v' []++(.cells pb (prC ta tb) 296::T))):=ho;have ho:OwnS S w0 w4 (Wr b way' B v' (ptE xb x::.cells pb (prC ta tb) 296::T)):=ho.front;have hm4:(ptE xb x::.cells pb (prC ta tb) 296::T)[jm+2]?=aw (.mem M):=by rw[apW,apW];exact hm
  unfold fc at hx;unfold fg at fin;unfold gw at hxo;rw[aP Hv,pt_1 ho 2 rfl];simp only[rs];by_cases h0:x.2.1=0
  ·rw[anX h0] at hx hxo;simp only[anX h0] at fin;simp only[show ai ((x.2.1:Int)=0)=au from anZ om,i_t];rw[aP Pf,aS Ss (ho.cell 3 rfl 0 rfl),aP Wj,pt_0 ho 2 rfl];have hc:=x.1.toNat_lt;refine aC (aO krx apH) |>.mpr ?_;rw[aA om om];refine E1 (i:=x.1.toNat) ho hm4 hta hca ha15 hx hBok hw om λway5 v5 w5 hw5 ho=>?_;exact fin w5 way5 v5 xb hw5 ho
  ·rw[anW h0] at hx hxo;simp only[anW h0] at fin;obtain⟨s1,s2,s3,s4,s5,s6⟩:=mm hxo.2.1 hxo.2.2.1;obtain⟨f1,f2,f3,f4,f5⟩:=mz hxo.2.2.2.1 hxo.2.2.2.2.1;simp only[show ai ((x.2.1:Int)=0)=aq from anY om,i_f];rw[aP Hv,pt_1 ho 2 rfl];refine aH ho (OZ x.2.1 w4 hxo.2.1 hxo.2.2.1) ?_;rintro _ w5 rfl ho;simp only[ex];rw[aP Pf,aS Ss (ho.cell 3 rfl 0 rfl)];have n1:near.getD (ck x.2.1).1 0<=15:=jj ha15 dc _;have n2:far.getD (du x.2.2).1 0<=15:=jj hb15 dc _;refine E1 (i:=(ck x.2.1).1) ho hm4 hta hca ha15 hx.1 hBok hw om λway6 v6 w6 hw6 ho=>?_;have ok6:=cd hBok (lh near (ck x.2.1).1);refine pG ho ok6 hw6 om s5 (by rw[aoC,fo];omega) λway7 v7 w7 hw7 ho=>?_;have ok7:=cd ok6 (ee (ck x.2.1).2.1 (ck x.2.1).2.2);rw[aP ZH,pt_2 ho 2 rfl];refine aH ho (OK x.2.2 w7 hxo.2.2.2.1 hxo.2.2.2.2.1) ?_;rintro _ w8 rfl ho;simp only[ex];rw[aP VT,aS Ss (ho.cell 3 rfl 1 rfl)];refine E1 (i:=(du x.2.2).1) ho hm4 htb hcb hb15 hx.2 ok7 hw7 (by simp only[aoC,fo,cc];omega) λway9 v9 w9 hw9 ho=>?_;have ok9:=cd ok7 (lh far (du x.2.2).1);refine pG ho ok9 hw9 om f4 (by simp only[aoC,fo,cc];omega) λway10 v10 w10 hw10 ho=>?_;refine fin w10 way10 v10 xb hw10 ?_;simp only[aoL] at ho ⊢;exact ho
 ·simp only[hlt,aoB,i_f];have hin:i=ps.length:=om
  subst hin;rw[aqJ] at ho hfl hfok;have hm4:(.cells pb (prC ta tb) 296::T)[jm+1]?=aw (.mem M):=by rw[apW];exact hm
  rw[aP Pf,aS Ss (ho.cell 2 rfl 0 rfl)];refine E1 (i:=256) ho hm4 hta hca ha15 h256 (cd hok hfok) hw (by rw[aoC];omega) λway5 v5 w5 hw5 ho=>?_;refine retK ⟨rfl,way5,v5,hw5,?_⟩;unfold dk;rw[<-aoL];have ho:OwnS S w0 w5 ((Wr b way5 (l++ps.flatMap (fg near far)++dt near 256) v5 [])++([.cells pb (prC ta tb) 296]++T)):=ho;exact ho.front.tail
end
theorem TbW.le {M N:Mem}(h:M.le N){b:Nat}{lens:List Nat}(k:TbW M.A M.w b lens):TbW N.A N.w b lens:=by
 obtain⟨a,c,o,h1,h2,h3,h4,h5⟩:=k;refine⟨a,c,o,h.A b h1,?_,h3.le h,h4.le h,h5.le h⟩;show N.w.heap[b]?=_;rw[h.has b h1];exact h2
theorem SZ (ps:List bn)(pv:ao)(M:Mem)(w:ak)(hM:M.has w)(hps:SlA M.A M.w pv 3 ps.length (ps.flatMap ptC))(hpo:iu 0 ps)(hpl:ps.length<=1048576) :
  RetM ah 267 #[pv] M w (λv _=>v=.string ⟨(ay (im ps)).toArray⟩):=by
 refine aU hM λK hK=>FY ?_;unfold BP nz;have ho:OwnS M.A w w [.mem M]:=OwnS.memS hM;refine bI ho 0 rfl (LP M w hM) ?_;rintro _ N1 w1 g1 ⟨va,vb,rfl,ha,hb⟩ ho;simp only[ex];refine bD (λb=>.pointer (aw ⟨b,0,av⟩)) [.pointer av,.pointer av] 296 (λ_=>by kernel_rfl) ho λpb w2 ho=>?_;have l1:bm.length=288:=by decide +kernel
 refine bI ho 1 rfl (Bb bm va N1 w2 nc om om (ho.hasM 1 rfl) ha) ?_;rintro _ N3 w3 g3 h3 ho;rw[anW (by rw[nv];exactλh=>h rfl)] at h3;obtain⟨ta,rfl,hta⟩:=h3;simp only[ex];rw[aP Pf];refine aN 0 ho rfl krx rfl (by show 0+0 < 2;omega) λw4 ho=>?_;refine bI ho 1 rfl (Bb da vb N3 w4 ow (by rw[mj];omega) (by rw[mj];omega) (ho.hasM 1 rfl) (hb.le g3)) ?_;rintro _ N5 w5 g5 h5 ho;rw[anW (by rw[nw];exactλh=>h rfl)] at h5;obtain⟨tb,rfl,htb⟩:=h5;simp only[ex];rw[aP VT];refine aN 0 ho rfl krx rfl (by show 0+1 < 2;omega) λw6 ho=>?_;have ho:OwnS M.A w w6 [.cells pb (prC ta tb) 296,.mem N5]:=ho;have hta:=TbW.le g5 hta;refine Vv ho λb w7 ho=>?_;refine pG (x:=1) (n:=1) ho (λb hb=>by cases hb) (.inl rfl) om dc sm λway1 v1 w8 hw1 ho=>?_;have ok1:bo ([]++bf 1 1):=cd (λb hb=>by cases hb) (ee 1 1);refine pG (x:=1) (n:=2) ho ok1 hw1 om dc (by simp[cc]) λway2 v2 w9 hw2 ho=>?_;have ok2:=cd ok1 (ee 1 2);refine aC (bE (AtV.agg aeW (cs:=prC ta tb) rfl λj u hj=>by rw[aoN];exact ho.cell 2 rfl j hj)) |>.mpr ?_;refine Se (jm:=1) ho rfl hta htb nv nw nc ow (ou dc) (hps.le (g1.trans (g3.trans g5))) (wm hpo) hpo hpl ok2 hw2 (by simp[cc]) λway3 v3 w10 hw3 ho=>?_;have e:[]++bf 1 1++bf 1 2++dk bm da ps=im ps:=by unfold im;simp
 rw[e] at ho;have hl:(im ps).length<=100000000:=by
  unfold im dk;have:=pf nc ow (l:=ps) λx hx=>mf hpo x hx;have h15:bm.getD 256 0<=15:=jj nc dc _;simp only[aoC,cc,fo];omega
 refine Qv ho (by unfold im;simp only[aoC,cc];omega) om λW ho=>?_;exact hK _ _ N5 _ 1 ho rfl (g1.trans (g3.trans g5)) rfl
end
section
open Eng Go.RowKit
theorem PV {g n:Nat}{k:IntKind}(hi:i < n)(W:ak):(mIA 123 (.slice (aw ⟨g,0,av⟩) n cap) (.int k (i:Int))).run ah W=.ok (.value (.pointer (aw ⟨g,i,av⟩))) W:=by
 have:=dZ (P:=ah) (T:=123) (b:=g) (off:=0) (cap:=cap) (n:=n) (k:=k) (i:=(i:Int)) (w:=W) aoQ NM om om
 rwa [aoF,aoS,aoN] at this
def lg (l:List Nat)(j:Nat):List Nat:=l.set j (l.getD j 0+1)
theorem pg (l:List Nat)(j:Nat):(lg l j).length=l.length:=aqM
theorem ph (hj:j < l.length)(k:Nat):(lg l j).getD k 0=l.getD k 0+(if j=k then 1 else 0):=by
 unfold lg;rw[aoE];by_cases h:j=k
 ·subst h;rw[arR hj];simp
 ·rw[auI h,<-aoE,anW h];rfl
theorem aal {a b a' b':List Nat}{x:bn}(h:fc a b x)(ha:∀i,a.getD i 0<=a'.getD i 0)(hb:∀i,b.getD i 0<=b'.getD i 0):fc a' b' x:=by
 unfold fc at h ⊢;split
 ·rename_i h0;rw[anX h0] at h;exact arO h (ha _)
 ·rename_i h0;rw[anW h0] at h;exact⟨arO h.1 (ha _),arO h.2 (hb _)⟩
theorem rl {B:Nat}(h:∀i,l.getD i 0<=B):∀c∈l,c<=B:=by
 intro c hc;obtain⟨i,hi,rfl⟩:=asF hc;have:=h i;rw[aoE,aoI hi] at this;exact this
section
variable {w:ak}{PK:PKT}{K:VWP}{S:Nat->Prop}{w0:ak}{L T:List Ent}
theorem XI (i:Nat){g n:Nat}{k:IntKind}{PK3 PK4 PK5:PKT}{N:ak->Prop}(ho:OwnS S w0 w L)(hi:L[i]?=aw (lrE g l))(hn:l.length=n)(hj:j < n)(hb:l.getD j 0<=1000000000)(kk:∀W,OwnS S w0 W (L.set i (lrE g (lg l j)))->N W) :
  DoX ah (mIA 123 (.slice (aw ⟨g,0,av⟩) n n) (.int k (j:Int))) w PK λt w=>DoX ah (aJ 3 t) w PK2 λt w=>DoX ah (mBin .add 3 t (.int .i64 1)) w PK3 λt2 w=>DoX ah (mIA 123 (.slice (aw ⟨g,0,av⟩) n n) (.int k (j:Int))) w PK4 λt w=>DoX ah (aV 3 t t2) w PK5 λ_ w=>N w:=by
 subst hn;refine aC (PV hj w) |>.mpr ?_;rw[aS bP (ho.cell i hi j (Gd hj)),H7,aA om om,show ((l.getD j 0:Nat):Int)+1=((l.getD j 0+1:Nat):Int) by omega];refine aC (PV hj w) |>.mpr ?_;refine aN i ho hi krx rfl (by rw[eE];exact hj) λw2 ho=>?_;rw[CA] at ho;exact kk w2 ho
end
theorem NS (ps:List bn)(pv:ao)(M:Mem)(w:ak)(hM:M.has w)(hps:SlA M.A M.w pv 3 ps.length (ps.flatMap ptC))(hpo:iu 0 ps)(hpl:ps.length<=1048576) :
  RetM ah 297 #[pv] M w (λr N=>∃va vb ca cb,r=.tuple #[va,vb]∧SlA N.A N.w va 1 ca.length (aM ca)∧SlA N.A N.w vb 1 cb.length (aM cb)∧ca.length=286∧cb.length=30∧0 < ca.getD 256 0∧(∀x∈ps,fc ca cb x)∧(∀c∈ca,c<=2147483647)∧(∀c∈cb,c<=2147483647)):=by
 refine aU hM λK hK=>C7 ?_;unfold wI iN dx;have ho:OwnS M.A w w [.mem M]:=OwnS.memS hM;have hz:∀n:Nat,aM (List.replicate n 0)=List.replicate n (.int .i64 0):=λn=>by simp[aM]
 have body:∀(W:ak) (ga gb:Nat),OwnS M.A w W [lrE ga (List.replicate 286 0),lrE gb (List.replicate 30 0),.mem M]->eN pv (.slice (aw ⟨ga,0,av⟩) 286 286) (.slice (aw ⟨gb,0,av⟩) 30 30) W K:=by
  intro W ga gb ho;unfold eN iN iax stx lnx;refine aC (PV (i:=256) (k:=.i64) dc W) |>.mpr ?_;refine aN 0 ho rfl krx rfl (by rw[eE,apC];decide) λw2 ho=>?_;rw[show (Value.int .i64 1)=.int .i64 ((1:Nat):Int) from rfl,CA] at ho;rw[bB avR (hps.now (ho.hasM 2 rfl))];refine loop (λvs V=>∃(i:Nat) (ca cb:List Nat),vs=[.int .i64 (i:Int)]∧i<=ps.length∧ca.length=286∧cb.length=30∧0 < ca.getD 256 0∧(∀x∈ps.take i,fc ca cb x)∧(∀j,ca.getD j 0<=i+1)∧(∀j,cb.getD j 0<=i+1)∧OwnS M.A w V [lrE ga ca,lrE gb cb,.mem M]) (λvs _=>ps.length - n0 vs) ⟨0,(List.replicate 286 0).set 256 1,List.replicate 30 0,rfl,om,by rw[aqM,apC],apC,by decide +kernel,(λx hx=>by cases hx),?_,?_,ho⟩ ?_
  ·refine jj (P:=λc=>c<=0+1) (λc hc=>?_) dc;rcases auK hc with h|h
   ·rw[aqZ h];decide
   ·rw[h];decide
  ·refine jj (P:=λc=>c<=0+1) (λc hc=>?_) dc;rw[aqZ hc];decide
  clear ho;rintro vs w3 ⟨i,ca,cb,rfl,hi,hca,hcb,h256,hhas,hba,hbb,ho⟩ _;simp only[rT,gd,rs,nz];by_cases hlt:(i:Int) < (ps.length:Int)
  ·have hi':i < ps.length:=om
   simp only[hlt,aoA,i_t];obtain⟨p,hia,hld⟩:=ptAt hps hi';refine join λJ hJ=>?_;rw[aC (hia w3),aC (hld w3 (ho.hasM 2 rfl))];obtain⟨mx,hxo⟩:=mf hpo _ (aoR hi');have htk:ps.take (i+1)=ps.take i++[ps[i]]:=apG hi';have fin:∀(W:ak) (ca' cb':List Nat) (e:Ent),ca'.length=286->cb'.length=30->(∀j,ca.getD j 0<=ca'.getD j 0∧ca'.getD j 0<=ca.getD j 0+1)->(∀j,cb.getD j 0<=cb'.getD j 0∧cb'.getD j 0<=cb.getD j 0+1)->fc ca' cb' ps[i]->OwnS M.A w W (e::[lrE ga ca',lrE gb cb',.mem M])->J [] W:=by
    intro W ca' cb' e h1 h2 h3 h4 h5 ho;refine hJ _ _ λ_=>?_;simp only[qU,gd,rs,nz];rw[aA om om];refine aQ ⟨i+1,ca',cb',rfl,om,h1,h2,arO h256 (h3 256).1,?_,λj=>by have:=h3 j;have:=hba j;omega,λj=>by have:=h4 j;have:=hbb j;omega,ho.tail⟩ (by simp[n0,RowKit.intOf];omega);rw[htk];intro x hx;rcases apF.1 hx with hx|hx
    ·exact aal (hhas x hx) (λj=>(h3 j).1) (λj=>(h4 j).1)
    ·rw[aoZ.1 hx];exact h5
   generalize ps[i]=x at hxo hld fin;refine Xo ho λxb w4 ho=>?_;refine Oa (y:=x) 0 ho rfl λw5 ho=>?_;have ho:OwnS M.A w w5 (ptE xb x::[lrE ga ca,lrE gb cb,.mem M]):=ho;unfold gw at hxo;unfold fc at fin;rw[aP Hv,pt_1 ho 0 rfl];simp only[rs];by_cases h0:x.2.1=0
   ·rw[anX h0] at hxo;simp only[anX h0] at fin;simp only[show ai ((x.2.1:Int)=0)=au from anZ om,i_t];rw[aP Wj,pt_0 ho 0 rfl];have hc:=x.1.toNat_lt;have hb1:=hba x.1.toNat;refine XI 1 ho rfl hca om om λw6 ho=>?_;have hg:=ph (l:=ca) (j:=x.1.toNat) om;refine fin w6 (lg ca x.1.toNat) cb _ (by rw[pg];exact hca) hcb (λj=>by rw[hg];split<;>omega) (λj=>by omega) (by rw[hg,anX rfl];omega) ho
   ·rw[anW h0] at hxo;simp only[anW h0] at fin;obtain⟨s1,s2,s3,s4,s5,s6⟩:=mm hxo.2.1 hxo.2.2.1;obtain⟨f1,f2,f3,f4,f5⟩:=mz hxo.2.2.2.1 hxo.2.2.2.2.1;simp only[show ai ((x.2.1:Int)=0)=aq from anY om,i_f];rw[aP Hv,pt_1 ho 0 rfl];refine aH ho (OZ x.2.1 w5 hxo.2.1 hxo.2.2.1) ?_;rintro _ w6 rfl ho;simp only[ex];rw[aP ZH,pt_2 ho 0 rfl];refine aH ho (OK x.2.2 w6 hxo.2.2.2.1 hxo.2.2.2.2.1) ?_;rintro _ w7 rfl ho;simp only[ex];have hb1:=hba (ck x.2.1).1;have hb2:=hbb (du x.2.2).1;refine XI 1 ho rfl hca om om λw8 ho=>?_;refine XI 2 ho rfl hcb om om λw9 ho=>?_;have hg:=ph (l:=ca) (j:=(ck x.2.1).1) om;have hg2:=ph (l:=cb) (j:=(du x.2.2).1) om;refine fin w9 (lg ca (ck x.2.1).1) (lg cb (du x.2.2).1) _ (by rw[pg];exact hca) (by rw[pg];exact hcb) (λj=>by rw[hg];split<;>omega) (λj=>by rw[hg2];split<;>omega) ⟨by rw[hg,anX rfl];omega,by rw[hg2,anX rfl];omega⟩ ho
  ·simp only[hlt,aoB,i_f];have hin:i=ps.length:=om
   subst hin;rw[aqJ] at hhas;have ho:=ho.toU 1 286 286 (by rw[eE,hca]) (aoG _) om;rw[aoS,apE (by rw[eE];omega)] at ho;obtain⟨N1,g1,hs1,ho⟩:=OwnS.cI (L:=[lrE gb cb,.mem M]) ho 1 rfl;have ho:OwnS M.A w w3 [lrE gb cb,.mem N1]:=ho;have ho:=ho.toU 1 30 30 (by rw[eE,hcb]) (aoG _) om;rw[aoS,apE (by rw[eE];omega)] at ho;obtain⟨N2,g2,hs2,ho⟩:=OwnS.cI (L:=[.mem N1]) ho 0 rfl;exact hK _ _ N2 _ 0 ho rfl (g1.trans g2) ⟨_,_,ca,cb,rfl,by rw[hca];exact hs1.le g2,by rw[hcb];exact hs2,hca,hcb,h256,hhas,rl λj=>by have:=hba j;omega,rl λj=>by have:=hbb j;omega⟩
 refine⟨?_⟩;have ho:=ho.drew;refine⟨?_,?_⟩
 ·refine yK (n:=286) om ho λga w1 ho=>⟨?_,?_⟩
  all_goals
   refine yK (n:=30) om ho λgb w2 ho=>?_;refine body w2 ga gb ?_;unfold lrE;rw[hz,hz];exact ho.perm (List.Perm.swap _ _ _)
 ·refine yK (n:=30) om ho λgb w1 ho=>?_;refine yK (n:=286) om ho λga w2 ho=>?_;refine body w2 ga gb ?_;unfold lrE;rw[hz,hz];exact ho
theorem Mp (l:List Nat)(v:ao)(keep:Nat)(M:Mem)(w:ak)(hM:M.has w)(hs:SlA M.A M.w v 1 l.length (aM l))(hk:keep<=l.length)(h0:0 < keep)(hl:l.length<=1000000) :
  Ret ah 299 #[v,.int .i64 (keep:Int)] w (λr w'=>(∃n,keep<=n∧n<=l.length∧(∀j,n<=j->l.getD j 0=0)∧r.oneCell'=au∧SlA M.A M.w r 1 n (aM (l.take n)))∧w=w'):=by
 refine aK λK hK=>HJ ?_;unfold EP nz;rw[bB aoQ (hs.now hM)];refine loop (λvs W=>∃n:Nat,vs=[.int .i64 (n:Int)]∧keep<=n∧n<=l.length∧(∀j,n<=j->l.getD j 0=0)∧w=W) (λvs _=>n0 vs) ⟨l.length,rfl,hk,aoG _,λj hj=>by rw[aoE,aqB hj];rfl,rfl⟩ ?_;rintro vs _ ⟨n,rfl,hkn,hn,hz,rfl⟩ _;simp only[BL,gd,rs,nz];obtain⟨b,off,cap,rfl,_⟩:=bY hs.1 om;have hcap:=hs.2.2 _ _ _ rfl;have stop:DoX ah (cM 123 (.slice (aw ⟨b,off,av⟩) l.length cap) av (aw (.int .i64 (n:Int))) av) w (pk K) λt23 w=>K (.returned t23) w:=by
  refine aC (jB aoQ NM om om) |>.mpr ?_;rw[aoF];have hup:=SlA.Rl hs (i:=n) hn (λh=>by omega);rw[aoS] at hup;refine hK _ _ ⟨⟨n,hkn,hn,hz,?_,?_⟩,rfl⟩
  ·unfold subA;split<;>rfl
  ·rw[show aM (l.take n)=(aM l).take n by unfold aM;rw[atB]];exact hup
 by_cases h1:keep < n
 ·simp only[show ai ((keep:Int) < (n:Int))=au from anZ om,rs];rw[aA om om,show (n:Int) - 1=((n - 1:Nat):Int) by omega];obtain⟨b2,off2,r1,r2⟩:=eX (hs.now hM) (i:=n - 1) om;refine aC (r1 w) |>.mpr (aC (aB bP r2) |>.mpr ?_);simp only[rs];by_cases h2:l[n - 1]=0
  ·simp only[show ai (((l[n - 1]:Nat):Int)=0)=au from anZ om,i_t];refine aQ ⟨n - 1,rfl,om,om,λj hj=>?_,rfl⟩ (by simp[n0,RowKit.intOf];omega);rcases apD j n with h|h
   ·obtain rfl:j=n - 1:=om
    rw[aoE,aoI om];exact h2
   ·exact hz j h
  ·simp only[show ai (((l[n - 1]:Nat):Int)=0)=aq from anY om,i_f];exact stop
 ·simp only[show ai ((keep:Int) < (n:Int))=aq from anY om,i_f,rs];exact stop
end
section
open Eng Go.RowKit
def mkC (m:cg):List Value:=[.int .i64 (m.1:Int),.int .i64 (m.2.1:Int),.int .i64 (m.2.2:Int)]
def mkV (m:cg):Value:=.agg (mkC m).toArray
theorem WG (m:cg):(mkC m).length=3:=rfl
theorem Wf {m:cg}:∀u∈mkC m,u.oneCell'=true:=by
 intro u hu;simp only[mkC,aoM,aqI,or_false] at hu;rcases hu with rfl|rfl|rfl<;>rfl
theorem adK {l:List cg}:∀u∈l.flatMap mkC,u.oneCell'=true:=Eng.XL λx=>Wf
theorem akL:aggN ah 307=aw 3:=krx
theorem szMk:(Tryz.prog.info? 307).map (·.size)=aw 3:=krx
theorem elMk:elB ah 307 3 24=true:=krx
theorem aaM:fOff ah 307 0=aw 0:=krx
theorem ahJ:fOff ah 307 1=aw 1:=krx
theorem afO:fOff ah 307 2=aw 2:=krx
abbrev mksE (v:ao)(l:List cg):Ent:=.urow 307 3 v l.length (l.flatMap mkC)
theorem xu {l:List Nat}{i c:Nat}:∀(n:Nat),i+n<=l.length->(∀j,j < n->l.getD (i+j) 0=c)->l.take (i+n)=l.take i++List.replicate n c
|0,_,_=>by simp
|n+1,h,hc=>by
  have ih:=xu n om λj hj=>hc j om;have hlt:i+n < l.length:=om
  have hn:=hc n om;rw[aoE,aoI hlt] at hn;have hn:l[i+n]=c:=hn;rw[show i+(n+1)=i+n+1 by omega,apG hlt,ih,hn,aoL,auL]
theorem nf (acc:List Nat)(g m:Nat)(hg:g=17∨g=18):fl acc (g,m,bp g)=acc++List.replicate (cr g+m) 0:=by
 unfold fl;rcases hg with rfl|rfl
 ·rw[anW (show ¬(17:Nat) < 16 by decide),anW (show ¬(17:Nat)=16 by decide)]
 ·rw[anW (show ¬(18:Nat) < 16 by decide),anW (show ¬(18:Nat)=16 by decide)]
theorem xw (acc:List Nat){c:Nat}(h:c < 16):fl acc (c,0,0)=acc++[c]:=by unfold fl;rw[anX h]
theorem zt (acc:List Nat)(c m:Nat):fl (acc++[c]) (16,m,2)=acc++List.replicate (4+m) c:=by
 unfold fl;have e:(acc++[c]).getD ((acc++[c]).length - 1) 0=c:=by
  rw[aoC,apL,asU,aoE,arD (aoG _),aqK];rfl
 rw[anW (show ¬(16:Nat) < 16 by decide),anX (show (16:Nat)=16 from rfl),e,aoL];have e2:cr 16=3:=rfl;show acc++([c]++List.replicate (cr 16+m) c)=_;rw[e2,show 4+m=(3+m)+1 by omega,atI];rfl
theorem Xe (hs:SlA M.A M.w v 1 l.length (aM l))(hi:i < l.length) :
  ∃p,(∀W,(mIA 123 v (.int .i64 (i:Int))).run ah W=.ok (.value (.pointer (aw p))) W)∧∀W,M.has W->(aJ 3 (.pointer (aw p))).run ah W=.ok (.value (.int .i64 (l[i]:Int))) W:=by
 obtain⟨b,off,cap,rfl,_⟩:=bY hs.1 om;refine⟨⟨b,off+i,av⟩,λW=>?_,λW hW=>?_⟩
 ·have:=dZ (P:=ah) (T:=123) (b:=b) (off:=off) (cap:=cap) (n:=l.length) (k:=.i64) (i:=(i:Int)) (w:=W) aoQ NM om om;rw[aoF,aoS] at this;exact this
 ·obtain⟨b',off',cap',he,hc⟩:=bY (hs.now hW) om;cases he;refine aB bP (hc i _ ?_);rw[Gd hi,aoE,aoI hi];rfl
section
variable {w:ak}{PK:PKT}{S:Nat->Prop}{w0:ak}{L T:List Ent}
theorem Z2 {ms new:List cg}{sb:Nat}{N:VWP}(hl:ms.length<=10000000)(hnl:new.length<=2)(ho:OwnS S w0 W (.cells sb (new.flatMap mkC) 307::mksE v' ms::T))(k:∀v2 W2,OwnS S w0 W2 (mksE v2 (ms++new)::T)->N v2 W2) :
  DoX ah (mB .append #[304,304] 304 #[aq,aq] #[v',.slice (aw ⟨sb,0,av⟩) new.length new.length]) W PK N:=by
 refine aX 1 avS elMk dc ho rfl (ho.sl 0 rfl 3 new.length new.length (by rw[Eng.Sw WG])) adK om om λv2 w9 ho=>?_;refine k v2 w9 ?_;unfold mksE;rw[atC,aoC];exact ho.tail
theorem m_mk {a c:Nat}:DoX ah (bA 307 #[(0,.int .i64 (a:Int)),(1,.int .i64 (b:Int)),(2,.int .i64 (c:Int))]) W PK K=K (mkV (a,b,c)) W:=aC krx
theorem agP {ms:List cg}{n:Nat}{N1:List ao->ak->Prop}{K:Ending->ak->Prop}(hs:SlA M.A M.w v 1 l.length (aM l))(hi:i < l.length)(hc15:l[i] < 16)(hn1:1<=n)(hnb:n<=1000000)(hml:ms.length<=1000000)(hmo:ji [] ms)(hme:fe [] ms=l.take i)(ho:OwnS S w0 W [mksE v' ms,.mem M])
  (emit:∀(W:ak) (v2:ao) (new:List cg) (n':Nat),1<=n'->n'<=n->ji [] (ms++new)->fe [] (ms++new)=l.take i++List.replicate n' l[i]->OwnS S w0 W [mksE v2 (ms++new),.mem M]->eI v2 (.int .i64 (i:Int)) (.int .i64 (n':Int)) W N1 K) :
  JoinX (λJ4=>
 DoX ah (mIA 123 v (.int .i64 (i:Int))) W (pk K) λt42 W=>
 DoX ah (aJ 3 t42) W (pk K) λt43 W=>
 DoX ah (mEq .eql 3 (.tmp 43) (.const (.int .i64 0)) t43 (.int .i64 0)) W (pk K) λt44 W=>
 GDo t44 au (λE=>E (.int .i64 (n:Int)) W) W λt46 W=>
 GDo t44 au (λE=>DoX ah (mBin .geq 3 t46 (.int .i64 11)) W (pk K) E) W λt47 W=>
 DoX ah (eH t44 t47 (.bool aq)) W (pk K) λt48 W=>
 IfX t48 (DoX ah (mB .min #[3,3] 3 #[aq,au] #[(.int .i64 (n:Int)),(.int .i64 138)]) W (pk K) λt50 W=>
 DoX ah (mBin .sub 3 t50 (.int .i64 11)) W (pk K) λt53 W=>
 DoX ah (bA 307 #[(0,(.int .i64 18)),(1,t53),(2,(.int .i64 7))]) W (pk K) λt54 W=>
 DoX ah (bF 304 1 #[(0,t54)]) W (pk K) λt55 W=>
 DoX ah (mB .append #[304,304] 304 #[aq,aq] #[v',t55]) W (pk K) λt56 W=>
 J4 [t56,t50] W) (DoX ah (mIA 123 v (.int .i64 (i:Int))) W (pk K) λt60 W=>
 DoX ah (aJ 3 t60) W (pk K) λt61 W=>
 DoX ah (mEq .eql 3 (.tmp 61) (.const (.int .i64 0)) t61 (.int .i64 0)) W (pk K) λt62 W=>
 GDo t62 au (λE=>E (.int .i64 (n:Int)) W) W λt64 W=>
 GDo t62 au (λE=>DoX ah (mBin .geq 3 t64 (.int .i64 3)) W (pk K) E) W λt65 W=>
 DoX ah (eH t62 t65 (.bool aq)) W (pk K) λt66 W=>
 IfX t66 (DoX ah (mBin .sub 3 (.int .i64 (n:Int)) (.int .i64 3)) W (pk K) λt69 W=>
 DoX ah (bA 307 #[(0,(.int .i64 17)),(1,t69),(2,(.int .i64 3))]) W (pk K) λt70 W=>
 DoX ah (bF 304 1 #[(0,t70)]) W (pk K) λt71 W=>
 DoX ah (mB .append #[304,304] 304 #[aq,aq] #[v',t71]) W (pk K) λt72 W=>
 J4 [t72,(.int .i64 (n:Int))] W) (DoX ah (mBin .geq 3 (.int .i64 (n:Int)) (.int .i64 4)) W (pk K) λt75 W=>
 IfX t75 (DoX ah (mB .min #[3,3] 3 #[aq,au] #[(.int .i64 (n:Int)),(.int .i64 7)]) W (pk K) λt77 W=>
 DoX ah (mIA 123 v (.int .i64 (i:Int))) W (pk K) λt81 W=>
 DoX ah (aJ 3 t81) W (pk K) λt82 W=>
 DoX ah (bA 307 #[(0,t82),(1,(.int .i64 0)),(2,(.int .i64 0))]) W (pk K) λt83 W=>
 DoX ah (mBin .sub 3 t77 (.int .i64 4)) W (pk K) λt85 W=>
 DoX ah (bA 307 #[(0,(.int .i64 16)),(1,t85),(2,(.int .i64 2))]) W (pk K) λt86 W=>
 DoX ah (bF 304 2 #[(0,t83),(1,t86)]) W (pk K) λt87 W=>
 DoX ah (mB .append #[304,304] 304 #[aq,aq] #[v',t87]) W (pk K) λt88 W=>
 J4 [t88,t77] W) (DoX ah (mIA 123 v (.int .i64 (i:Int))) W (pk K) λt34 W=>
 DoX ah (aJ 3 t34) W (pk K) λt35 W=>
 DoX ah (bA 307 #[(0,t35),(1,(.int .i64 0)),(2,(.int .i64 0))]) W (pk K) λt36 W=>
 DoX ah (bF 304 1 #[(0,t36)]) W (pk K) λt37 W=>
 DoX ah (mB .append #[304,304] 304 #[aq,aq] #[v',t37]) W (pk K) λt38 W=>
 J4 [t38,(.int .i64 1)] W)))) (λvs4 W=>∀_:Sg,eI (vs4.getD 0 undef) (.int .i64 (i:Int)) (vs4.getD 1 undef) W N1 K):=by
 obtain⟨p,ia,ld⟩:=Xe hs hi;have one:∀m:cg,gx (l.take i) m->ji [] (ms++[m])∧fe [] (ms++[m])=fl (l.take i) m:=λm hm=>⟨ri hmo (by rw[hme];exact hm),by rw[wq,hme]⟩;generalize l[i]=c at hc15 ld emit;refine join λJ hJ=>?_;have go:∀(W:ak) (v2:ao) (n':Nat),eI v2 (.int .i64 (i:Int)) (.int .i64 (n':Int)) W N1 K->J [v2,.int .i64 (n':Int)] W:=λW v2 n' h=>hJ _ _ λ_=>h;have hM:=ho.hasM 1 rfl;refine aC (ia W) |>.mpr (aC (ld W hM) |>.mpr ?_);simp only[rs];have put1:∀(m:cg) (n':Nat) (W:ak),1<=n'->n'<=n->gx (l.take i) m->fl (l.take i) m=l.take i++List.replicate n' c->OwnS S w0 W [mksE v' ms,.mem M]->∀PK:PKT,
   DoX ah (bF 304 1 #[(0,mkV m)]) W PK λt W=>DoX ah (mB .append #[304,304] 304 #[aq,aq] #[v',t]) W PK λt W=>J [t,.int .i64 (n':Int)] W:=by
  intro m n' W h1 h2 h3 h4 ho PK;refine bD (λb=>.slice (aw ⟨b,0,av⟩) 1 1) (mkC m) 307 (λ_=>by kernel_rfl) ho λsb w1 ho=>?_;have ho:OwnS S w0 w1 [.cells sb ([m].flatMap mkC) 307,mksE v' ms,.mem M]:=by
   rw[atT];exact ho
  refine Z2 (new:=[m]) om sm ho λv2 w2 ho=>?_;obtain⟨a,b⟩:=one m h3;exact go _ _ _ (emit w2 v2 [m] n' h1 h2 a (by rw[b,h4]) ho)
 have i11:∀m:Nat,cr 18+m=11+m:=λ_=>rfl;have i3:∀m:Nat,cr 17+m=3+m:=λ_=>rfl;have last:(∀PK:PKT,DoX ah (bF 304 1 #[(0,mkV (c,0,0))]) W PK λt W=>DoX ah (mB .append #[304,304] 304 #[aq,aq] #[v',t]) W PK λt W=>J [t,.int .i64 ((1:Nat):Int)] W):=
  put1 (c,0,0) 1 W om hn1 (by unfold gx;rw[anX hc15];exact⟨rfl,rfl⟩) (by rw[xw _ hc15];rfl) ho
 have fourth:4<=n->∀PK:PKT,DoX ah (bF 304 2 #[(0,mkV (c,0,0)),(1,mkV (16,min n 7 - 4,2))]) W PK λt W=>DoX ah (mB .append #[304,304] 304 #[aq,aq] #[v',t]) W PK λt W=>J [t,.int .i64 ((min n 7:Nat):Int)] W:=by
  intro h4 PK;refine bD (λb=>.slice (aw ⟨b,0,av⟩) 2 2) (mkC (c,0,0)++mkC (16,min n 7 - 4,2)) 307 (λ_=>by kernel_rfl) ho λsb w1 ho=>?_;refine Z2 (new:=[(c,0,0),(16,min n 7 - 4,2)]) om sm ho λv2 w2 ho=>?_;have k1:gx (l.take i) (c,0,0):=by unfold gx;rw[anX hc15];exact⟨rfl,rfl⟩
  obtain⟨a1,b1⟩:=one _ k1;rw[xw _ hc15] at b1;have k2:gx (fe [] (ms++[(c,0,0)])) (16,min n 7 - 4,2):=by
   rw[b1];unfold gx;rw[anW (show ¬(16:Nat) < 16 by decide)];refine⟨show (16:Nat)<=18 by decide,rfl,by show min n 7 - 4 < 4;omega,λ_=>by simp⟩
  have a2:=ri a1 k2;have b2:=wq [] (ms++[(c,0,0)]) (16,min n 7 - 4,2);rw[b1,zt,show 4+(min n 7 - 4)=min n 7 by omega] at b2;rw[aoL] at a2 b2;exact go _ _ _ (emit w2 v2 _ (min n 7) om om a2 b2 ho)
 have m7:min (n:Int) 7=((min n 7:Nat):Int):=om
 have m138:min (n:Int) 138=((min n 138:Nat):Int):=om
 by_cases c0:c=0
 ·subst c0;simp only[show ai (((0:Nat):Int)=0)=au from rfl,rs];by_cases h11:11<=n
  ·simp only[show ai ((11:Int)<=(n:Int))=au from anZ om,i_t,rs];rw[GP,m138];simp only[rs];rw[aA om om,show ((min n 138:Nat):Int) - 11=((min n 138 - 11:Nat):Int) by omega];refine (m_mk (a:=18) (b:=min n 138 - 11) (c:=7)).mpr ?_;refine put1 (18,min n 138 - 11,7) (min n 138) W om om ?_ ?_ ho _
   ·unfold gx;rw[anW (show ¬(18:Nat) < 16 by decide)];exact⟨show (18:Nat)<=18 by decide,rfl,by show min n 138 - 11 < 128;omega,λh=>absurd h (show ¬(18:Nat)=16 by decide)⟩
   ·have:=nf (l.take i) 18 (min n 138 - 11) (.inr rfl);rw[i11,show 11+(min n 138 - 11)=min n 138 by omega] at this;exact this
  ·simp only[show ai ((11:Int)<=(n:Int))=aq from anY om,i_f,rs];refine aC (ia W) |>.mpr (aC (ld W hM) |>.mpr ?_);simp only[show ai (((0:Nat):Int)=0)=au from rfl,rs];by_cases h3:3<=n
   ·simp only[show ai ((3:Int)<=(n:Int))=au from anZ om,i_t,rs];rw[aA om om,show (n:Int) - 3=((n - 3:Nat):Int) by omega];refine (m_mk (a:=17) (b:=n - 3) (c:=3)).mpr ?_;refine put1 (17,n - 3,3) n W om om ?_ ?_ ho _
    ·unfold gx;rw[anW (show ¬(17:Nat) < 16 by decide)];exact⟨show (17:Nat)<=18 by decide,rfl,by show n - 3 < 8;omega,λh=>absurd h (show ¬(17:Nat)=16 by decide)⟩
    ·have:=nf (l.take i) 17 (n - 3) (.inl rfl);rw[i3,show 3+(n - 3)=n by omega] at this;exact this
   ·simp only[show ai ((3:Int)<=(n:Int))=aq from anY om,i_f,rs];simp only[show ai ((4:Int)<=(n:Int))=aq from anY om,i_f,rs];refine aC (ia W) |>.mpr (aC (ld W hM) |>.mpr ?_);refine (m_mk (a:=0) (b:=0) (c:=0)).mpr ?_;exact last _
 ·simp only[show ai ((c:Int)=0)=aq from anY om,i_f,rs];refine aC (ia W) |>.mpr (aC (ld W hM) |>.mpr ?_);simp only[show ai ((c:Int)=0)=aq from anY om,i_f,rs];by_cases h4:4<=n
  ·simp only[show ai ((4:Int)<=(n:Int))=au from anZ om,i_t,rs];rw[GP,m7];refine aC (ia W) |>.mpr (aC (ld W hM) |>.mpr ?_);refine (m_mk (a:=c) (b:=0) (c:=0)).mpr ?_;simp only[rs];rw[aA om om,show ((min n 7:Nat):Int) - 4=((min n 7 - 4:Nat):Int) by omega];refine (m_mk (a:=16) (b:=min n 7 - 4) (c:=2)).mpr ?_;exact fourth h4 _
  ·simp only[show ai ((4:Int)<=(n:Int))=aq from anY om,i_f,rs];refine aC (ia W) |>.mpr (aC (ld W hM) |>.mpr ?_);refine (m_mk (a:=c) (b:=0) (c:=0)).mpr ?_;exact last _
end
theorem T6 (l:List Nat)(v:ao)(M:Mem)(w:ak)(hM:M.has w)(hs:SlA M.A M.w v 1 l.length (aM l))(hl:l.length<=1000000)(h15:∀x∈l,x<=15) :
  RetM ah 300 #[v] M w (λr N=>∃ms:List cg,ji [] ms∧fe [] ms=l∧r.oneCell'=au∧SlA N.A N.w r 3 ms.length (ms.flatMap mkC)):=by
 refine aU hM λK hK=>FE ?_;unfold Cu nz;have ho:OwnS M.A w w [.mem M]:=OwnS.memS hM;have ho:OwnS M.A w w [.urow 307 3 nilS 0 [],.mem M]:=OwnS.nilU (L:=[.mem M]) ho _ _;refine loop (λvs W=>∃(i:Nat) (v':ao) (ms:List cg),vs=[v',.int .i64 (i:Int)]∧i<=l.length∧ji [] ms∧fe [] ms=l.take i∧OwnS M.A w W [mksE v' ms,.mem M]) (λvs _=>l.length - n1 vs) ⟨0,nilS,[],rfl,om,trivial,rfl,ho⟩ ?_;clear ho;rintro vs w1 ⟨i,v',ms,rfl,hi,hmo,hme,ho⟩ _;simp only[wB,gd,nz];rw[bB aoQ (hs.now (ho.hasM 1 rfl))];simp only[rs];have hml:=mq ms [];rw[hme,aoH] at hml;simp only[arL,aoN] at hml;by_cases hlt:(i:Int) < (l.length:Int)
 case neg=>
  simp only[hlt,aoB,i_f];have hie:i=l.length:=om
  subst hie;rw[aqJ] at hme;have hv1:=eF (ho.at_ 0 rfl);obtain⟨N1,g1,hs1,ho⟩:=OwnS.cI (L:=[.mem M]) ho 0 rfl;exact hK _ _ N1 _ 0 ho rfl g1 ⟨ms,hmo,hme,hv1,hs1⟩
 simp only[hlt,aoA,i_t];have hi':i < l.length:=om
 obtain⟨p0,ia0,ld0⟩:=Xe hs hi';have hc15:=h15 _ (aoR hi');have hgi:l.getD i 0=l[i]:=by rw[aoE,aoI hi'];rfl
 refine loop (λvs W=>∃n:Nat,vs=[.int .i64 (n:Int)]∧1<=n∧i+n<=l.length∧(∀j,j < n->l.getD (i+j) 0=l[i])∧OwnS M.A w W [mksE v' ms,.mem M]) (λvs _=>l.length+1 - n0 vs) ⟨1,rfl,om,om,λj hj=>by rw[show j=0 by omega];exact hgi,ho⟩ ?_;clear ho;rintro vs w2 ⟨n,rfl,hn1,hin,hrun,ho⟩ _;simp only[wK,gd,nz];have emit:∀(W:ak) (v2:ao) (new:List cg) (n':Nat),1<=n'->n'<=n->ji [] (ms++new)->fe [] (ms++new)=l.take i++List.replicate n' l[i]->OwnS M.A w W [mksE v2 (ms++new),.mem M]->eI v2 (.int .i64 (i:Int)) (.int .i64 (n':Int)) W (It (λvs W=>∃(i:Nat) (v':ao) (ms:List cg),vs=[v',.int .i64 (i:Int)]∧i<=l.length∧ji [] ms∧fe [] ms=l.take i∧OwnS M.A w W [mksE v' ms,.mem M]) (λvs _=>l.length - n1 vs) [v',.int .i64 (i:Int)] w1) K:=by
  intro W v2 new n' h1 h2 h3 h4 ho;simp only[eI,rs,nz];rw[aA om om];refine aQ ⟨i+n',v2,ms++new,by congr 2,om,h3,?_,ho⟩ (by simp[n1,RowKit.intOf];omega);rw[h4,xu n' om λj hj=>hrun j om]
 have stop:=λ(W:ak) (ho:OwnS M.A w W [mksE v' ms,.mem M])=>agP hs hi' (Nat.lt_succ_of_le hc15) hn1 om om hmo hme ho emit;refine cR (λW=>OwnS M.A w W [mksE v' ms,.mem M]) ho.drew ?_;refine iV ?_;rw[aA om om,show (i:Int)+(n:Int)=((i+n:Nat):Int) by omega];refine q_at (.int .i64 (l.length:Int)) (λW h=>?_) (Nj ?_)
 ·obtain⟨_,a,cap,rfl,_⟩:=hs.1;exact Gr aoQ
 by_cases hnl:i+n < l.length
 case neg=>
  rw[anY (show ¬((i+n:Nat):Int) < (l.length:Int) by omega)];simp only[gq];refine q_pf ?_;intro w3 ho;simp only[i_f];exact stop w3 ho
 rw[anZ (show ((i+n:Nat):Int) < (l.length:Int) by omega)];simp only[gq];obtain⟨p1,ia1,ld1⟩:=Xe hs hnl;refine iV ?_;rw[aA om om,show (i:Int)+(n:Int)=((i+n:Nat):Int) by omega];refine q_do _ ia1 (q_at _ (λW h=>ld1 W (h.hasM 1 rfl)) ?_);refine q_do _ ia0 (q_at _ (λW h=>ld0 W (h.hasM 1 rfl)) (q_eq (q_pt ?_)));intro w3 ho;by_cases he:l[i+n]=l[i]
 ·rw[anZ (show ((l[i+n]:Nat):Int)=((l[i]:Nat):Int) by omega)];simp only[i_t,rs];rw[aA om om];refine aQ ⟨n+1,rfl,om,om,λj hj=>?_,ho⟩ (by simp[n0,RowKit.intOf];omega);rcases apD j n with h|h
  ·exact hrun j h
  ·rw[show j=n by omega,aoE,aoI hnl];exact he
 ·rw[anY (show ¬((l[i+n]:Nat):Int)=((l[i]:Nat):Int) by omega)];simp only[i_f];exact stop w3 ho
def ordV:Value:=.agg (aM bq).toArray
theorem afB:aggN ah 308=aw 19:=krx
theorem alT:(Tryz.prog.info? 308).map (·.size)=aw 19:=krx
theorem Qs (w:ak):Ret ah 301 #[] w (λv w'=>v=ordV∧Below w.heap.size w w'):=by
 refine aK λK hK=>Eg ?_;unfold zL nz;refine bD (λb=>.pointer (aw ⟨b,0,av⟩)) (List.replicate 19 (.int .i64 0)) 308 (λ_=>by kernel_rfl) (Own.start w) λb w1 ho=>?_;have mb:∀W:ak,(bA 308 #[(0,(.int .i64 16)),(1,(.int .i64 17)),(2,(.int .i64 18)),(3,(.int .i64 0)),(4,(.int .i64 8)),(5,(.int .i64 7)),(6,(.int .i64 9)),(7,(.int .i64 6)),(8,(.int .i64 10)),(9,(.int .i64 5)),(10,(.int .i64 11)),(11,(.int .i64 4)),(12,(.int .i64 12)),(13,(.int .i64 3)),(14,(.int .i64 13)),(15,(.int .i64 2)),(16,(.int .i64 14)),(17,(.int .i64 1)),(18,(.int .i64 15))]).run ah W=.ok (.value ordV) W:=λW=>by kernel_rfl
 refine aC (mb w1) |>.mpr ?_;refine GI 0 ho rfl (new:=aM bq) alT EU (by show 0+19<=19;omega) λw2 ho=>?_;exact lK (bN (ho.agg (cs:=aM bq) 0 rfl afB)) (hK _ _ ⟨rfl,ho.done⟩)
theorem afC (hi:i < 19)(W:ak):(mIx 308 ordV (.int .i64 (i:Int))).run ah W=.ok (.value (.int .i64 ((bq.getD i 0:Nat):Int))) W:=by
 rcases lt19 hi with rfl|rfl|rfl|rfl|rfl|rfl|rfl|rfl|rfl|rfl|rfl|rfl|rfl|rfl|rfl|rfl|rfl|rfl|rfl<;>kernel_rfl
end
section
open Eng Go.RowKit
theorem rm:∀{l:List cg} {acc:List Nat},ji acc l->∀m∈l,m.1<=18∧m.2.1 < 2 ^ m.2.2∧m.2.2<=7
|m::l,acc,h,x,hx=>by
  rcases aoM.1 hx with rfl|hx
  ·have h1:=h.1;unfold gx at h1;by_cases h0:x.1 < 16
   ·rw[anX h0] at h1;rw[h1.1,h1.2];exact⟨om,dc,dc⟩
   ·rw[anW h0] at h1;refine⟨h1.1,h1.2.2.1,?_⟩;rw[h1.2.1];unfold bp;split
    ·decide
    ·split<;>decide
  ·exact rm h.2 x hx
theorem xx {cl:List Nat}(h15:∀x∈cl,x<=15):∀{l:List cg},(∀m∈l,m.2.2<=7)->(gn cl l).length<=22*l.length
|[],_=>aoG _
|m::l,h=>by
  have h1:=h m (apU ..);have h2:=xx h15 (l:=l) λy hy=>h y (apA _ hy);have h3:cl.getD m.1 0<=15:=jj h15 dc _;unfold gn at h2 ⊢;rw[aqC,aoC,apB];have e:(km cl m).length=cl.getD m.1 0+m.2.2:=by
   unfold km;rw[aoC,fo,cc]
  omega
theorem aam (cl:List Nat)(l:List cg)(m:cg):gn cl (l++[m])=gn cl l++dt cl m.1++bf m.2.1 m.2.2:=by
 unfold gn;rw[atC,atT,aoL];rfl
def gk (cl:List Nat)(k:Nat):List Nat:=(List.range k).map λi=>cl.getD (bq.getD i 0) 0
theorem rn (cl:List Nat)(k:Nat):(gk cl k).length=k:=by simp[gk]
theorem xy {k:Nat}(h:i < k):(gk cl k).getD i 0=cl.getD (bq.getD i 0) 0:=by
 rw[aoE];simp[gk,h]
theorem aan (cl:List Nat)(k:Nat):gk cl (k+1)=gk cl k++[cl.getD (bq.getD k 0) 0]:=by
 unfold gk;rw[asS,apX];rfl
abbrev mkE (b:Nat)(m:cg):Ent:=.cells b (mkC m) 307
theorem mkAt {l:List cg}(hs:SlA M.A M.w v 3 l.length (l.flatMap mkC))(hi:i < l.length) :
  ∃p,(∀W,(mIA 304 v (.int .i64 (i:Int))).run ah W=.ok (.value (.pointer (aw p))) W)∧∀W,M.has W->(aJ 307 (.pointer (aw p))).run ah W=.ok (.value (mkV l[i])) W:=by
 obtain⟨b,off,cap,rfl,_⟩:=bY hs.1 om;refine⟨⟨b,off+i*3,av⟩,λW=>?_,λW hW=>?_⟩
 ·have:=dZ (P:=ah) (T:=304) (b:=b) (off:=off) (cap:=cap) (n:=l.length) (k:=.i64) (i:=(i:Int)) (w:=W) avS szMk om om;rw[aoF] at this;exact this
 ·obtain⟨b',off',cap',he,hc⟩:=bY (hs.now hW) om;cases he;refine bE (AtV.agg akL (cs:=mkC l[i]) rfl λj u hj=>?_);rw[arM];exact hc _ _ (Eng.CL WG hi hj)
section
variable {w:ak}{PK:PKT}{K:VWP}{S:Nat->Prop}{w0:ak}{L T:List Ent}
theorem agW (ho:OwnS S w0 w L)(k:∀b w',OwnS S w0 w' (mkE b (0,0,0)::L)->K (.pointer (aw ⟨b,0,av⟩)) w'):DoX ah (Dv 307) w PK K:=
 bD (λb=>.pointer (aw ⟨b,0,av⟩)) (mkC (0,0,0)) 307 (λ_=>by kernel_rfl) ho k
theorem aaN (j:Nat){x y:cg}(ho:OwnS S w0 w L)(hi:L[j]?=aw (mkE b x))(k:∀w',OwnS S w0 w' (L.set j (mkE b y))->K undef w') :
  DoX ah (aV 307 (.pointer (aw ⟨b,0,av⟩)) (mkV y)) w PK K:=GI j ho hi (new:=mkC y) szMk Wf (by show 0+3<=3;omega) k
theorem mk_0 (ho:OwnS S w0 w L)(j:Nat){x:cg}(hi:L[j]?=aw (mkE b x)):DoX ah (aJ 3 (.pointer (aw ⟨b,0+0,av⟩))) w PK K=K (.int .i64 (x.1:Int)) w:=aS bP (ho.cell j hi 0 rfl)
theorem mk_1 (ho:OwnS S w0 w L)(j:Nat){x:cg}(hi:L[j]?=aw (mkE b x)):DoX ah (aJ 3 (.pointer (aw ⟨b,0+1,av⟩))) w PK K=K (.int .i64 (x.2.1:Int)) w:=aS bP (ho.cell j hi 1 rfl)
theorem mk_2 (ho:OwnS S w0 w L)(j:Nat){x:cg}(hi:L[j]?=aw (mkE b x)):DoX ah (aJ 3 (.pointer (aw ⟨b,0+2,av⟩))) w PK K=K (.int .i64 (x.2.2:Int)) w:=aS bP (ho.cell j hi 2 rfl)
end
theorem rp (counts:List Nat):(dm counts).length<=counts.length:=by
 unfold dm;have:=auT (λs=>ai (0 < counts.getD s 0)) (List.range counts.length)
 rwa [avI] at this
theorem ajW {K:Ending->ak->Prop}{pv sa sb mv iv:ao}{pb ta tt:Nat}{ps:List bn}{la lb a b lc:List Nat}{ms:List cg}{ka kb nin:Nat}
  (ho:OwnS S w0 W [.cells pb (prC ta tb) 296,.mem N]) (hta:TbW N.A N.w ta la) (htb:TbW N.A N.w tb lb) (htt:TbW N.A N.w tt lc) (hla:la=a++List.replicate ka 0) (hlb:lb=b++List.replicate kb 0)
  (hca:az la=0) (hcb:az lb=0) (hcc:az lc=0) (ha15:∀x∈la,x<=15) (hb15:∀x∈lb,x<=15) (hc7:∀x∈lc,x<=7) (hlc:lc.length=19)
  (han:257<=a.length) (han2:a.length<=286) (hbn:1<=b.length) (hbn2:b.length<=30) (hk:4<=nin) (hk2:nin<=19) (h0:∀i,nin<=i->i < 19->lc.getD (bq.getD i 0) 0=0)
  (hsa:SlA N.A N.w sa 1 a.length (aM a)) (hsb:SlA N.A N.w sb 1 b.length (aM b)) (hsi:SlA N.A N.w iv 1 (gk lc nin).length (aM (gk lc nin))) (hsm:SlA N.A N.w mv 3 ms.length (ms.flatMap mkC)) (hps:SlA N.A N.w pv 3 ps.length (ps.flatMap ptC))
  (hms:∀m∈ms,0 < lc.getD m.1 0) (hmo:ji [] ms) (hme:fe [] ms=a++b) (h256:0 < la.getD 256 0) (hh:∀x∈ps,fc la lb x) (hpo:iu 0 ps) (hpl:ps.length<=1048576)
  (k:∀W,OwnS S w0 W [.cells pb (prC ta tb) 296,.mem N]->K (.returned (.string ⟨(ay (ly a b lc nin ms ps)).toArray⟩)) W) :
  CallX ah 287 #[] W (pk K) λt102 W=>
 CallX ah 288 #[t102,(.int .i64 1),(.int .i64 1)] W (pk K) λt104 W=>
 CallX ah 288 #[t102,(.int .i64 2),(.int .i64 2)] W (pk K) λt106 W=>
 DoX ah (mB .len #[123] 3 #[aq] #[sa]) W (pk K) λt109 W=>
 DoX ah (mBin .sub 3 t109 (.int .i64 257)) W (pk K) λt110 W=>
 CallX ah 288 #[t102,t110,(.int .i64 5)] W (pk K) λt111 W=>
 DoX ah (mB .len #[123] 3 #[aq] #[sb]) W (pk K) λt114 W=>
 DoX ah (mBin .sub 3 t114 (.int .i64 1)) W (pk K) λt115 W=>
 CallX ah 288 #[t102,t115,(.int .i64 5)] W (pk K) λt116 W=>
 DoX ah (mB .len #[123] 3 #[aq] #[iv]) W (pk K) λt119 W=>
 DoX ah (mBin .sub 3 t119 (.int .i64 4)) W (pk K) λt120 W=>
 CallX ah 288 #[t102,t120,(.int .i64 4)] W (pk K) λt121 W=>
 DoX ah (mB .len #[123] 3 #[aq] #[iv]) W (pk K) λt123 W=>
 LoopX [(.int .i64 0)] W (λvs3 W N3=>∀_:Sg,rZ pv (.pointer (aw ⟨pb,0,av⟩)) mv (.pointer (aw ⟨tt,0,av⟩)) t102 iv t123 (vs3.getD 0 undef) W N3 K):=by
 have hil:=rn lc nin;have hc15:∀x∈lc,x<=15:=λx hx=>aqQ (hc7 x hx) dc;have hmm:=rm hmo;have hml:=mq ms [];rw[hme,aoC] at hml;simp only[arL,aoN] at hml;refine Vv ho λwb w7 ho=>?_;refine pG (x:=1) (n:=1) ho (λb hb=>by cases hb) (.inl rfl) om dc sm λway1 v1 w8 hw1 ho=>?_;rw[apK] at ho;have ok1:=ee 1 1;refine pG (x:=2) (n:=2) ho ok1 hw1 om dc (by rw[cc];decide) λway2 v2 w9 hw2 ho=>?_;have ok2:=cd ok1 (ee 2 2);rw[bB aoQ (hsa.now (ho.hasM 3 rfl))];simp only[rs];rw[aA om om,show (a.length:Int) - 257=((a.length - 257:Nat):Int) by omega];refine pG (n:=5) ho ok2 hw2 om om (by simp[cc]) λway3 v3 w10 hw3 ho=>?_;have ok3:=cd ok2 (ee (a.length - 257) 5);rw[bB aoQ (hsb.now (ho.hasM 3 rfl))]
 try simp only[rs]
 rw[aA om om,show (b.length:Int) - 1=((b.length - 1:Nat):Int) by omega];refine pG (n:=5) ho ok3 hw3 om om (by simp[cc]) λway4 v4 w11 hw4 ho=>?_;have ok4:=cd ok3 (ee (b.length - 1) 5);rw[bB aoQ (hsi.now (ho.hasM 3 rfl)),hil]
 try simp only[rs]
 rw[aA om om,show (nin:Int) - 4=((nin - 4:Nat):Int) by omega];refine pG (n:=4) ho ok4 hw4 om om (by simp[cc]) λway5 v5 w12 hw5 ho=>?_;have ok5:=cd ok4 (ee (nin - 4) 4);rw[bB aoQ (hsi.now (ho.hasM 3 rfl)),hil];have hBl:(bf 1 1++bf 2 2++bf (a.length - 257) 5++bf (b.length - 1) 5++bf (nin - 4) 4).length=17:=by simp[cc]
 have hB:bf 1 1++bf 2 2++bf (a.length - 257) 5++bf (b.length - 1) 5++bf (nin - 4) 4++ja lc nin++gn lc ms++dk la lb ps=ly a b lc nin ms ps:=by
  rw[hla,hlb,aae];unfold ly;simp only[aoL]
 generalize bf 1 1++bf 2 2++bf (a.length - 257) 5++bf (b.length - 1) 5++bf (nin - 4) 4=B at ho hBl hB ok5;refine loop (λvs W=>∃(i:Nat) (way:Int) (v:ao),vs=[.int .i64 (i:Int)]∧i<=nin∧(way=0∨way=1)∧OwnS S w0 W (Wr wb way (B++ja lc i) v [.cells pb (prC ta tb) 296,.mem N])) (λvs _=>nin - n0 vs) ⟨0,way5,v5,rfl,om,hw5,by show OwnS S w0 w12 (Wr wb way5 (B++[]) v5 _);rw[aoV];exact ho⟩ ?_;clear ho hw5;rintro vs w13 ⟨i,way,v,rfl,hi,hw,ho⟩ _;simp only[rZ,gd,rs,nz];have hinl:=mr lc i;by_cases hlt:(i:Int) < (nin:Int)
 ·simp only[hlt,aoA,i_t];obtain⟨p,ia,ld⟩:=Xe hsi (i:=i) om;refine aC (ia w13) |>.mpr (aC (ld w13 (ho.hasM 3 rfl)) |>.mpr ?_);have hge:(gk lc nin)[i]'(om)=lc.getD (bq.getD i 0) 0:=by
   have:=xy (cl:=lc) (k:=nin) (i:=i) om;rw[aoE,aoI om] at this;exact this
  rw[hge];have hle:lc.getD (bq.getD i 0) 0<=7:=jj hc7 dc _;refine pG (n:=3) ho (cd ok5 (rk _ _)) hw om om (by rw[aoC];omega) λway6 v6 w14 hw6 ho=>?_;rw[aoL,<-rj] at ho
  try simp only[rs]
  rw[aA om om];exact aQ ⟨i+1,way6,v6,rfl,om,hw6,ho⟩ (by simp[n0,RowKit.intOf];omega)
 simp only[hlt,aoB,i_f];have hie:i=nin:=om
 subst hie;rw[bB avS (hsm.now (ho.hasM 3 rfl))];have ok6:=cd ok5 (rk lc i);have hB6:(B++ja lc i).length<=100:=by rw[aoC];omega
 generalize B++ja lc i=B6 at ho ok6 hB6 hB;refine loop (λvs W=>∃(j:Nat) (way:Int) (v:ao),vs=[.int .i64 (j:Int)]∧j<=ms.length∧(way=0∨way=1)∧OwnS S w0 W (Wr wb way (B6++gn lc (ms.take j)) v [.cells pb (prC ta tb) 296,.mem N])) (λvs _=>ms.length - n0 vs) ⟨0,way,v,rfl,om,hw,by show OwnS S w0 w13 (Wr wb way (B6++[]) v _);rw[aoV];exact ho⟩ ?_;clear ho hw;rintro vs w15 ⟨j,way,v,rfl,hj,hw,ho⟩ _;simp only[BX,gd,rs,nz];have hmbl:=xx hc15 (l:=ms.take j) λm hm=>(hmm m (aqV hm)).2.2;rw[aoH,apI hj] at hmbl;have ok7:=cd ok6 (wu lc (ms.take j));by_cases hlt2:(j:Int) < (ms.length:Int)
 ·simp only[hlt2,aoA,i_t];have hj':j < ms.length:=om
  obtain⟨p,ia,ld⟩:=mkAt hsm hj';refine aC (ia w15) |>.mpr (aC (ld w15 (ho.hasM 3 rfl)) |>.mpr ?_);have hmx:=hmm _ (aoR hj');have hmp:=hms _ (aoR hj');have htk:ms.take (j+1)=ms.take j++[ms[j]]:=apG hj';generalize ms[j]=m at hmx hmp htk;refine agW ho λxb w16 ho=>?_;refine aaN (y:=m) 0 ho rfl λw17 ho=>?_;have ho:OwnS S w0 w17 ([mkE xb m]++(Wr wb way (B6++gn lc (ms.take j)) v []++[.cells pb (prC ta tb) 296,.mem N])):=ho;have ho:OwnS S w0 w17 (Wr wb way (B6++gn lc (ms.take j)) v (mkE xb m::[.cells pb (prC ta tb) 296,.mem N])):=ho.front;rw[aP aaM,mk_0 ho 2 rfl];refine E1 (jm:=2) (i:=m.1) ho rfl htt hcc hc15 hmp ok7 hw (by rw[aoC];omega) λway8 v8 w18 hw8 ho=>?_;have h15:lc.getD m.1 0<=15:=jj hc15 dc _;rw[aP ahJ,mk_1 ho 2 rfl,aP afO,mk_2 ho 2 rfl];refine pG ho (cd ok7 (lh _ _)) hw8 om hmx.2.1 (by simp only[aoC,fo];omega) λway9 v9 w19 hw9 ho=>?_
  try simp only[rs]
  rw[aA om om];refine aQ ⟨j+1,way9,v9,rfl,om,hw9,?_⟩ (by simp[n0,RowKit.intOf];omega);rw[htk,aam,<-aoL,<-aoL];have ho:OwnS S w0 w19 ((Wr wb way9 (B6++gn lc (ms.take j)++dt lc m.1++bf m.2.1 m.2.2) v9 [])++([mkE xb m]++[.cells pb (prC ta tb) 296,.mem N])):=ho;exact ho.front.tail
 simp only[hlt2,aoB,i_f];have hje:j=ms.length:=om
 subst hje;rw[aqJ] at ho ok7 hmbl;refine aC (bE (AtV.agg aeW (cs:=prC ta tb) rfl λj u hj=>by rw[aoN];exact ho.cell 2 rfl j hj)) |>.mpr ?_;refine Se (jm:=1) ho rfl hta htb hca hcb ha15 hb15 h256 hps hh hpo hpl ok7 hw (by rw[aoC];omega) λway3 v3 w20 hw3 ho=>?_;rw[hB] at ho;have hpfl:=pf ha15 hb15 (l:=ps) λx hx=>mf hpo x hx;have h15:la.getD 256 0<=15:=jj ha15 dc _;have hRl:(ly a b lc i ms ps).length=B6.length+(gn lc ms).length+((ps.flatMap (fg la lb)).length+la.getD 256 0):=by
  rw[<-hB,aoC,aoC];unfold dk;rw[aoC,fo]
 refine Qv ho om om λW ho=>?_;exact k W ho
theorem Ys (ps:List bn)(pv:ao)(M:Mem)(w:ak)(hM:M.has w)(hps:SlA M.A M.w pv 3 ps.length (ps.flatMap ptC))(hpo:iu 0 ps)(hpl:ps.length<=1048576) :
  RetM ah 268 #[pv] M w (λv _=>∃R,v=.string ⟨(ay R).toArray⟩∧bo R∧jd R (fx [] ps)):=by
 refine aU hM λK hK=>HM ?_;unfold ER nz;have ho:OwnS M.A w w [.mem M]:=OwnS.memS hM;refine bI ho 0 rfl (NS ps pv M w hM hps hpo hpl) ?_;rintro _ N1 w1 g1 ⟨va,vb,ca,cb,rfl,hsa,hsb,hca,hcb,h256,hhas,hcab,hcbb⟩ ho;simp only[ex];refine bI ho 0 rfl (Bk ca 15 va N1 w1 (ho.hasM 0 rfl) hsa om om hcab om om (by have:=rp ca;have e:(2:Nat) ^ 15=32768:=rfl;omega)) ?_;rintro _ N2 w2 g2 ⟨la,lav,rfl,hla,hla1,hlas⟩ ho;simp only[ex];refine bI ho 0 rfl (Bk cb 15 vb N2 w2 (ho.hasM 0 rfl) (hsb.le g2) om om hcbb om om (by have:=rp cb;have e:(2:Nat) ^ 15=32768:=rfl;omega)) ?_;rintro _ N3 w3 g3 ⟨lb,lbv,rfl,hlb,hlb1,hlbs⟩ ho;simp only[ex];have hlal:la.length=286:=by rw[hla.len,hca]
 have hlbl:lb.length=30:=by rw[hlb.len,hcb]
 refine bD (λb=>.pointer (aw ⟨b,0,av⟩)) [.pointer av,.pointer av] 296 (λ_=>by kernel_rfl) ho λpb w4 ho=>?_;refine bI ho 1 rfl (Bb la lav N3 w4 hla.le om om (ho.hasM 1 rfl) (hlas.le g3)) ?_;rintro _ N4 w5 g4 h4 ho;rw[anW (by rw[hla.chk];exactλh=>h rfl)] at h4;obtain⟨ta,rfl,hta⟩:=h4;simp only[ex];rw[aP Pf];refine aN 0 ho rfl krx rfl (by show 0+0 < 2;omega) λw6 ho=>?_;refine bI ho 1 rfl (Bb lb lbv N4 w6 hlb.le om om (ho.hasM 1 rfl) (hlbs.le g4)) ?_;rintro _ N5 w7 g5 h5 ho;rw[anW (by rw[hlb.chk];exactλh=>h rfl)] at h5;obtain⟨tb,rfl,htb⟩:=h5;simp only[ex];rw[aP VT];refine aN 0 ho rfl krx rfl (by show 0+1 < 2;omega) λw8 ho=>?_;have ho:OwnS M.A w w8 [.cells pb (prC ta tb) 296,.mem N5]:=ho;have hta:=TbW.le g5 hta;have hlas5:=hlas.le (g3.trans (g4.trans g5));have hlbs5:=hlbs.le (g4.trans g5);refine Eh (Mp la lav 257 N5 w8 (ho.hasM 1 rfl) hlas5 om om om) ?_;rintro sa _ ⟨⟨na,hna,hna2,hza,hsa1,hsas⟩,rfl⟩;refine Eh (Mp lb lbv 1 N5 w8 (ho.hasM 1 rfl) hlbs5 om om om) ?_;rintro sb _ ⟨⟨nb,hnb,hnb2,hzb,hsb1,hsbs⟩,rfl⟩;have hea:=xn hna2 hza;have heb:=xn hnb2 hzb;have hal:(la.take na).length=na:=by rw[aoH];omega
 have hbl:(lb.take nb).length=nb:=by rw[aoH];omega
 have ha15:∀x∈la.take na,x<=15:=λx hx=>hla.le x (aqV hx);have hb15:∀x∈lb.take nb,x<=15:=λx hx=>hlb.le x (aqV hx);generalize la.take na=a at hea hal ha15 hsas;generalize lb.take nb=b at heb hbl hb15 hsbs;rw[<-hal] at hsas;rw[<-hbl] at hsbs;refine Ui ho λv0 w9 ho=>?_;refine jD 0 ho rfl (hsas.now (ho.hasM 2 rfl)) EU om λv1 w10 ho=>?_;refine jD 0 ho rfl (hsbs.now (ho.hasM 2 rfl)) EU om λv2 w11 ho=>?_;have ho:OwnS M.A w w11 (.urow 3 1 v2 (a++b).length (aM (a++b))::[.cells pb (prC ta tb) 296,.mem N5]):=by
  rw[gS,aoC];rw[aoN,apK] at ho;exact ho
 obtain⟨N6,g6,hab,ho⟩:=OwnS.cI (L:=[.cells pb (prC ta tb) 296,.mem N5]) ho 1 rfl;refine bI ho 1 rfl (T6 (a++b) v2 N6 w11 (ho.hasM 1 rfl) hab (by rw[aoC];omega) (λx hx=>(apF.1 hx).elim (ha15 x) (hb15 x))) ?_;rintro mv N7 w12 g7 ⟨ms,hmo,hme,hm1,hsm⟩ ho;have ho:OwnS M.A w w12 [.cells pb (prC ta tb) 296,.mem N7]:=ho;have hmm:=rm hmo;have hml:=mq ms [];rw[hme,aoC] at hml;simp only[arL,aoN] at hml;refine yK (n:=19) om ho λgo w13 ho=>?_;have hz:aM (List.replicate 19 0)=List.replicate 19 (.int .i64 0):=by simp[aM]
 rw[<-hz] at ho;rw[bB avS (hsm.now (ho.hasM 2 rfl))];refine loop (λvs W=>∃(i:Nat) (co:List Nat),vs=[.int .i64 (i:Int)]∧i<=ms.length∧co.length=19∧(∀m∈ms.take i,0 < co.getD m.1 0)∧(∀j,co.getD j 0<=i)∧OwnS M.A w W [lrE go co,.cells pb (prC ta tb) 296,.mem N7]) (λvs _=>ms.length - n0 vs) ⟨0,List.replicate 19 0,rfl,om,apC,(λm hm=>by cases hm),λj=>by
  refine jj (P:=λc=>c<=0) (λc hc=>?_) (aoG 0) j;rw[aqZ hc];exact aoG 0,ho⟩ ?_
 clear ho;rintro vs w14 ⟨i,co,rfl,hi,hco,hcp,hcb2,ho⟩ _;simp only[Ci,gd,rs,nz];by_cases hlt:(i:Int) < (ms.length:Int)
 ·simp only[hlt,aoA,i_t];have hi':i < ms.length:=om
  obtain⟨p,ia,ld⟩:=mkAt hsm hi';refine aC (ia w14) |>.mpr (aC (ld w14 (ho.hasM 2 rfl)) |>.mpr ?_);have hmx:=hmm _ (aoR hi');have htk:ms.take (i+1)=ms.take i++[ms[i]]:=apG hi';generalize ms[i]=m at hmx htk;refine agW ho λxb w15 ho=>?_;refine aaN (y:=m) 0 ho rfl λw16 ho=>?_;have ho:OwnS M.A w w16 (mkE xb m::[lrE go co,.cells pb (prC ta tb) 296,.mem N7]):=ho;rw[aP aaM,mk_0 ho 0 rfl];have hcj:=hcb2 m.1;refine XI 1 ho rfl hco om om λw17 ho=>?_
  try simp only[rs]
  rw[aA om om];have hg:=ph (l:=co) (j:=m.1) om;refine aQ ⟨i+1,lg co m.1,rfl,om,by rw[pg];exact hco,?_,λj=>by rw[hg];have:=hcb2 j;split<;>omega,ho.tail⟩ (by simp[n0,RowKit.intOf];omega);rw[htk];intro x hx;rw[hg];rcases apF.1 hx with hx|hx
  ·have:=hcp x hx;omega
  ·rw[aoZ.1 hx,anX rfl];omega
 simp only[hlt,aoB,i_f];have hie:i=ms.length:=om
 subst hie;rw[aqJ] at hcp;have ho:=ho.toU 1 19 19 (by rw[eE,hco]) (aoG _) om;rw[aoS,apE (by rw[eE];omega)] at ho;obtain⟨N8,g8,hcos,ho⟩:=OwnS.cI (L:=[.cells pb (prC ta tb) 296,.mem N7]) ho 1 rfl;refine bI ho 1 rfl (Bk co 7 _ N8 w14 (ho.hasM 1 rfl) (by rw[hco];exact hcos) om om (rl λj=>by have:=hcb2 j;omega) om om (by have:=rp co;have e:(2:Nat) ^ 7=128:=rfl;omega)) ?_;rintro _ N9 w18 g9 ⟨lc,lcv,rfl,hlc,hlc1,hlcs⟩ ho;simp only[ex];have hlcl:lc.length=19:=by rw[hlc.len,hco]
 refine bI ho 1 rfl (Bb lc lcv N9 w18 (λx hx=>aqQ (hlc.le x hx) dc) om om (ho.hasM 1 rfl) hlcs) ?_;rintro _ N10 w19 g10 h10 ho;rw[anW (by rw[hlc.chk];exactλh=>h rfl)] at h10;obtain⟨tt,rfl,htt⟩:=h10;simp only[ex];refine aH ho (Qs w19) ?_;rintro _ w20 rfl ho;have ho:OwnS M.A w w20 [.cells pb (prC ta tb) 296,.mem N10]:=ho;have hlcs10:=hlcs.le g10;have ho:OwnS M.A w w20 [.urow 3 1 nilS 0 [],.cells pb (prC ta tb) 296,.mem N10]:=OwnS.nilU (L:=[.cells pb (prC ta tb) 296,.mem N10]) ho _ _;refine loop (λvs W=>∃(i:Nat) (v:ao),vs=[v,.int .i64 (i:Int)]∧i<=19∧OwnS M.A w W [.urow 3 1 v (gk lc i).length (aM (gk lc i)),.cells pb (prC ta tb) 296,.mem N10]) (λvs _=>19 - n1 vs) ⟨0,nilS,rfl,om,ho⟩ ?_;clear ho;rintro vs w21 ⟨i,v,rfl,hi,ho⟩ _;simp only[BC,gd,rs,nz];have hinl:=rn lc i;by_cases hlt2:(i:Int) < 19
 ·simp only[hlt2,aoA,i_t];have hi19:i < 19:=om
  have hol:=wy hi19;refine aC (afC hi19 w21) |>.mpr ?_;obtain⟨p,ia,ld⟩:=Xe hlcs10 (i:=bq.getD i 0) om;refine aC (ia w21) |>.mpr (aC (ld w21 (ho.hasM 2 rfl)) |>.mpr ?_);have hge:∀(j:Nat) (hj:j < lc.length),lc[j]'hj=lc.getD j 0:=λj hj=>by
   rw[aoE,aoI hj];rfl
  rw[hge];refine mY _ ho λb3 w22 ho=>?_;refine jD 1 ho rfl (ho.sl 0 rfl 1 1 1 rfl) iY om λv' w23 ho=>?_
  try simp only[rs]
  rw[aA om om];refine aQ ⟨i+1,v',rfl,om,?_⟩ (by simp[n1,RowKit.intOf];omega);rw[aan,gS,aoC];exact ho.tail
 simp only[hlt2,aoB,i_f];have hie:i=19:=om
 subst hie;obtain⟨N11,g11,hins,ho⟩:=OwnS.cI (L:=[.cells pb (prC ta tb) 296,.mem N10]) ho 1 rfl;have ho:OwnS M.A w w21 [.cells pb (prC ta tb) 296,.mem N11]:=ho;refine Eh (Mp (gk lc 19) v 4 N11 w21 (ho.hasM 1 rfl) hins om om om) ?_;rintro iv _ ⟨⟨nin,hn4,hn19,hzi,hi1,hivs⟩,rfl⟩;rw[hinl] at hn19;have hit:(gk lc 19).take nin=gk lc nin:=by
  unfold gk;rw[<-atB,List.take_range,apI hn19]
 rw[hit] at hivs;have g6':=g6.trans (g7.trans (g8.trans (g9.trans (g10.trans g11))));have h256l:0 < la.getD 256 0:=hla.pos 256 h256;have hh:∀x∈ps,fc la lb x:=λx hx=>by
  have:=hhas x hx;unfold fc at this ⊢;split
  ·rename_i h0;rw[anX h0] at this;exact hla.pos _ this
  ·rename_i h0;rw[anW h0] at this;exact⟨hla.pos _ this.1,hlb.pos _ this.2⟩
 have h0i:∀i,nin<=i->i < 19->lc.getD (bq.getD i 0) 0=0:=λi h1 h2=>by
  have:=hzi i h1
  rwa [xy h2] at this
 have hmsp:∀m∈ms,0 < lc.getD m.1 0:=λm hm=>hlc.pos _ (hcp m hm);refine ajW (S:=M.A) (w0:=w) (W:=w21) (a:=a) (b:=b) (lc:=lc) (ms:=ms) (nin:=nin) (ps:=ps) ho (TbW.le g6' hta) (TbW.le g6' htb) (TbW.le g11 htt) hea heb hla.chk hlb.chk hlc.chk hla.le hlb.le hlc.le hlcl om om om om hn4 om h0i (hsas.le g6') (hsbs.le g6') (by rw[rn];exact hivs) (hsm.le (g8.trans (g9.trans (g10.trans g11)))) (hps.le (g1.trans (g2.trans (g3.trans (g4.trans (g5.trans g6')))))) hmsp hmo hme h256l hh hpo hpl λW ho=>?_;refine hK _ _ N11 _ 1 ho rfl (g1.trans (g2.trans (g3.trans (g4.trans (g5.trans g6'))))) ⟨_,rfl,zm _ _ _ _ _ _,?_⟩;have hca':az a=0:=by have:=hla.chk;rw[hea] at this;exact xl this
 have hcb':az b=0:=by have:=hlb.chk;rw[heb] at this;exact xl this
 refine Z0 om om om om hn4 om hlcl hlc.le h0i hlc.chk hmsp hmo hme hca' hcb' ha15 hb15 ?_ ?_ hpo
 ·have:=h256l;rw[hea,oy] at this;exact this
 ·intro x hx;have:=hh x hx;unfold fc at this ⊢;rw[hea,heb] at this;simp only[oy] at this;exact this
end
section
open Eng Go.RowKit
theorem Lr (k:List UInt8):∀(es:List MapEntry) (al:List (List UInt8×ao)) (i j:Nat) (u:ao),es.map (λe=>(e.key,e.val))=al.map (λp=>(strK p.1,p.2))->al[j]?=aw (k,u)->(∀m,m < j->∀p,al[m]?=aw p->p.1≠k) ->
  Instr.findNow .string (strK k) es i=aw (aw (i+j,u))
|[],[],i,j,u,_,h,_=>by simp at h
|e::es,p::al,i,j,u,h,hj,hn=>by
  simp only[aqL,atJ,asA] at h;obtain⟨⟨h1,h2⟩,h3⟩:=h;have hs:Instr.sameNow .string (strK k) e.key=aw (ai (k=p.1)):=by
   rw[h1];show aw ((⟨k.toArray⟩:ByteArray)==⟨p.1.toArray⟩)=_
   congr 1
   show (k.toArray==p.1.toArray)=_;by_cases hk:k=p.1<;>simp[hk]
  cases j with
 |zero=>
   simp only[atF,arV] at hj;subst hj;rw[Instr.findNow,hs];simp[h2]
 |succ j=>
   have hk:k≠p.1:=λe=>hn 0 om p rfl e.symm;have ih:=Lr k es al (i+1) j u h3 (by simpa using hj) (λm hm q hq=>hn (m+1) om q (by simpa using hq));rw[Instr.findNow,hs];simp[hk,ih];omega
|[],_::_,_,_,_,h,_,_=>by simp at h
|_::_,[],_,_,_,h,_,_=>by simp at h
section
variable {S:Nat->Prop}{P:Program}{w w0:ak}{L:List Ent}{PK:PKT}{K:VWP}
theorem XN (i j:Nat){T k e:TypeId}{al:List (List UInt8×ao)}(ht:P.underlying T=aw (.map k e))(hk:P.underlying k=aw .string)(ho:OwnS S w0 w L)(hi:L[i]?=aw (.map b al))(x:List UInt8)(u v:ao)(hj:al[j]?=aw (x,u))
  (hn:∀m,m < j->∀p,al[m]?=aw p->p.1≠x) (kk:∀w',OwnS S w0 w' (L.set i (.map b (al.set j (x,v))))->K undef w'):DoX P (Vw T (.map (aw b)) (strK x) v) w PK K:=by
 obtain⟨es,clock,h1,h2⟩:=(show TI w b al from ho.at_ i hi);have r1:=Lr x es.toList al 0 j u h2 hj hn;rw[aoN] at r1;have hjl:j < es.toList.length:=by
  have:=congrArg List.length h2;rw[apP,apP] at this;rw[this];exact (aoX.1 hj).1
 have hjs:j < es.size:=by simpa using hjl
 have hkj:es[j].key=strK x:=by
  have h3:=congrArg (λl=>l[j]?) h2;simp only[asE,hj,atG] at h3;rw[aoI hjl] at h3;simp only[atG,arV,asA,Array.getElem_toList] at h3;exact h3.1
 have hsb:Instr.sameBits 10000 (strK x) (strK x)=true:=by
  unfold strK;rw[Instr.sameBits];show (x.toArray==x.toArray)=au;simp
 have hr:(Instr.mapUpdate T (.map (aw b)) (strK x) v).run P w=.ok () { w with heap:=w.heap.setIfInBounds b (.map (es.modify j λe=>{ e with key:=strK x,val:=v }) clock) }:=by
  have hf:(Instr.findKey k (strK x) es.toList).run P w=.ok (aw (j,u)) w:=by simp[Instr.findKey,run_underlying hk,r1]
  simp[Instr.mapUpdate,run_underlying ht,getObj,setObj,Sem.run,h1,tR hk x,hf,Instr.keyThatStays,hjs,hkj,hsb]
 refine D4 (Jx hr) (kk _ ?_);refine ho.put i hi (w':={ w with heap:=w.heap.setIfInBounds b _ }) ⟨rfl,rfl,rfl,sm,λk _ hk=>?_⟩ (.map b (al.set j (x,v))) ?_ (λk hk=>.inl hk)
 ·show (w.heap.setIfInBounds b _)[k]?=_;exact asL (λe=>hk (by simp[Ent.map,e]))
 ·refine⟨es.modify j λe=>{ e with key:=strK x,val:=v },clock,?_,?_⟩
  ·show (w.heap.setIfInBounds b _)[b]?=_;exact avZ (dW h1)
  ·rw[Array.toList_modify];refine List.ext_getElem? λm=>?_;have h3:=congrArg (λl=>l[m]?) h2;simp only[asE] at h3 ⊢;rw[List.getElem?_modify,List.getElem?_set];by_cases hm:j=m
   ·subst hm;rw[aoI hjl];have hal:j < al.length:=(aoX.1 hj).1;simp[hal]
   ·simp only[anW hm];rw[<-h3];cases es.toList[m]?<;>rfl
end
theorem Tl (s:List UInt8)(a b most:Nat)(w:ak)(hab:a < b)(hb:b+most<=s.length)(hs:s.length<=1048576) :
  Ret ah 319 #[strK s,.int .i64 (a:Int),.int .i64 (b:Int),.int .i64 (most:Int)] w (λv w'=>(∃n:Nat,v=.int .i64 (n:Int)∧n<=most∧(∀i,i < n->s[a+i]?=s[b+i]?)∧(n=most∨s[a+n]?≠s[b+n]?))∧Below w.heap.size w w'):=by
 refine aK λK hK=>FG ?_;unfold AJ nz;refine loop (λvs W=>∃n:Nat,vs=[.int .i64 (n:Int)]∧n<=most∧(∀i,i < n->s[a+i]?=s[b+i]?)∧Own w W []) (λvs _=>most - n0 vs) ⟨0,rfl,om,(λi h=>by omega),Own.start w⟩ ?_;rintro vs w1 ⟨n,rfl,hn,hal,hB⟩ _;simp only[wP,gd,rs,nz];refine quiet (Nj ?_);by_cases hlt:(n:Int) < (most:Int)
 ·simp only[hlt,aoA,gq];have hn':n < most:=om
  have ha:a+n < s.length:=om
  have hb':b+n < s.length:=om
  refine iV ?_;rw[aA om om,show (a:Int)+n=((a+n:Nat):Int) by omega];refine q_ix (a:=s) (c:=s[a+n]) aoD om (by rw[aoF,aoI ha]) ?_;refine iV ?_;rw[aA om om,show (b:Int)+n=((b+n:Nat):Int) by omega];refine q_ix (a:=s) (c:=s[b+n]) aoD om (by rw[aoF,aoI hb']) ?_;refine q_eq (q_pt ?_);intro w2 h2;have hB:=hB.grow h2;by_cases he:s[a+n]=s[b+n]
  ·simp only[he,aoA,i_t,rs];rw[aA om om];refine aQ ⟨n+1,rfl,om,λi hi=>?_,hB⟩ (by simp[n0,RowKit.intOf];omega);by_cases h:i=n
   ·subst h;rw[aoI ha,aoI hb',he]
   ·exact hal i om
  ·have he':¬((s[a+n].toNat:Int)=(s[b+n].toNat:Int)):=λh=>he (asP.1 om);simp only[he',aoB,i_f];refine hK _ _ ⟨⟨n,rfl,hn,hal,.inr ?_⟩,hB.done⟩;rw[aoI ha,aoI hb'];exactλh=>he (arH h)
 ·simp only[hlt,aoB,gq];refine q_pf ?_;intro w2 h2;have hB:=hB.grow h2;simp only[i_f];exact hK _ _ ⟨⟨n,rfl,hn,hal,.inl om⟩,hB.done⟩
end
section
open Eng Go.RowKit
abbrev ik:=List UInt8×ao×List Nat
def fu (rr:List ik):List (List UInt8×ao):=rr.map λr=>(r.1,r.2.1)
def ez (r:ik):Ent:=.urow 3 1 r.2.1 r.2.2.length (aM r.2.2)
def ew (b:Nat)(rr:List ik)(T:List Ent):List Ent:=.map b (fu rr)::(rr.map ez++T)
def lq (s:List UInt8)(at_:Nat)(rr:List ik):Prop:=∀r∈rr,r.2.2.length<=at_∧∀i∈r.2.2,i < at_∧i+3<=s.length∧(s.drop i).take 3=r.1
theorem nq (x:List UInt8):∀rr:List ik,FL (fu rr) x=av∨∃(j:Nat) (v:ao) (l:List Nat),rr[j]?=aw (x,v,l)∧FL (fu rr) x=aw v∧∀m:Nat,m < j->∀p:List UInt8×ao,(fu rr)[m]?=aw p->p.1≠x
|[]=>.inl rfl
|r::rr=>by
  by_cases h:r.1=x
  ·subst h;exact .inr ⟨0,r.2.1,r.2.2,rfl,by simp[FL,fu],λm hm=>absurd hm (Nat.not_lt_zero _)⟩
  ·rcases nq x rr with h0|⟨j,v,l,h1,h2,h3⟩
   ·refine .inl ?_;simp only[FL,fu,aqL,List.find?_cons] at h0 ⊢;simp only[h,aoB];exact h0
   ·refine .inr ⟨j+1,v,l,h1,?_,λm hm p hp=>?_⟩
    ·simp only[FL,fu,aqL,List.find?_cons] at h2 ⊢;simp only[h,aoB];exact h2
    ·cases m with
    |zero=>
      have:(r.1,r.2.1)=p:=by simpa[fu] using hp
      subst this;exact h
    |succ m=>exact h3 m om p (by simpa[fu] using hp)
theorem zu (rr:List ik)(j:Nat)(x:List UInt8)(v:ao)(l:List Nat):fu (rr.set j (x,v,l))=(fu rr).set j (x,v):=by
 unfold fu;rw[atQ]
theorem zw {rr:List ik}(hj:j < rr.length)(r:ik)(T:List Ent):(rr.map ez++T).set j (ez r)=(rr.set j r).map ez++T:=by
 rw[List.set_append,anX (by rw[apP];exact hj),atQ]
theorem ss {rr:List ik}{r:ik}(h:rr[j]?=aw r)(T:List Ent):(rr.map ez++T)[j]?=aw (ez r):=by
 have hj:=(aoX.1 h).1;rw[aqO (by rw[apP];exact hj),asE,h];rfl
theorem qb {s:List UInt8}{a:Nat}{rr:List ik}(h:lq s a rr)(hab:a<=b):lq s b rr:=λr hr=>⟨aqQ (h r hr).1 hab,λi hi=>⟨arO ((h r hr).2 i hi).1 hab,((h r hr).2 i hi).2⟩⟩
theorem aiD:(Tryz.prog.info? 123).bind (·.zero)=aw nilS:=krx
section
variable {w:ak}{PK:PKT}{K:VWP}{S:Nat->Prop}{w0:ak}{L T:List Ent}
theorem ajB {s:List UInt8}{fr te:Nat}{rr:List ik}(ho:OwnS S w0 w (ew b rr T))(hok:lq s fr rr)(hf:fr<=te)(ht:te<=s.length)(hs:s.length<=1048576)
  (k:∀rr' W,OwnS S w0 W (ew b rr' T)->lq s te rr'->K (.tuple #[]) W):CallX ah 293 #[.map (aw b),strK s,.int .i64 (fr:Int),.int .i64 (te:Int)] w PK K:=by
 refine eW (Aj (k0:=RetK λv W=>v=.tuple #[]∧∃rr',OwnS S w0 W (ew b rr' T)∧lq s te rr') ?_) (λe W ⟨v,he,hv,rr',ho,hok⟩=>by subst he;subst hv;exact k rr' W ho hok);unfold rB nz;refine loop (λvs W=>∃(i:Nat) (rr:List ik),vs=[.int .i64 (i:Int)]∧i<=te∧lq s i rr∧OwnS S w0 W (ew b rr T)) (λvs _=>te - n0 vs) ⟨fr,rr,rfl,hf,hok,ho⟩ ?_;clear ho hok;rintro vs w1 ⟨i,rr,rfl,hi,hok,ho⟩ _;simp only[nE,gd,rs,iN,dx,bnx,gtx,etx];have stop:∀W,OwnS S w0 W (ew b rr T)->RetK (λv W=>v=.tuple #[]∧∃rr',OwnS S w0 W (ew b rr' T)∧lq s te rr') (.returned (.tuple #[])) W:=λW ho=>retK ⟨rfl,rr,ho,qb hok hi⟩;by_cases hlt:(i:Int) < (te:Int)
 case neg=>
  simp only[hlt,aoB,gd,rs,i_f];exact stop w1 ho
 simp only[hlt,aoA,gd,rs];have hst:(strK s)=.string ⟨s.toArray⟩:=rfl;rw[hst,cL aoD,aA om om];simp only[rs];by_cases h3:(i:Int)+3<=(s.length:Int)
 case neg=>
  simp only[h3,aoB,i_f];exact stop w1 ho
 simp only[h3,aoA,i_t];have h3':i+3<=s.length:=om
 have ho:=ho.drew;refine⟨λW=>TI W b (fu rr),ho.at_ 0 rfl,?_⟩;have hcut:((s.drop ((i:Int)).toNat).take (((i:Int)+3).toNat - ((i:Int)).toNat))=(s.drop i).take 3:=by
  rw[aoF,show ((i:Int)+3).toNat - i=3 by omega]
 refine aL _ (λ_=>OB) ?_;rw[aA om om];refine aL _ (λ_=>jG aoD om om om) ?_;refine aL _ (λ_=>OB) ?_;rw[aA om om];refine aL _ (λ_=>jG aoD om om om) ?_;rw[hcut];generalize hx:(s.drop i).take 3=x;refine sL ((FL (fu rr) x).getD nilS) (λW h=>Rz (ok:=aq) avT aoD aiD h x) ?_;rw[aA om om,show (i:Int)+1=((i+1:Nat):Int) by omega];rcases nq x rr with hn|⟨j,v,l,hj,hl,hnj⟩
 ·rw[hn];refine mY (i:Int) (OwnS.nilU ho 3 1) λb3 w2 ho=>⟨ho.at_ 2 rfl,?_⟩;refine jD 1 ho rfl (ho.sl 0 rfl 1 1 1 rfl) iY om λv' w3 ho=>?_;have ho:OwnS S w0 w3 (.urow 3 1 v' 1 (aM [i])::.map b (fu rr)::(rr.map ez++T)):=ho.tail;refine YM 1 avT aoD ho rfl x v' hn λw4 ho=>?_;refine aQ ⟨i+1,rr++[(x,v',[i])],rfl,om,?_,?_⟩ (by simp[n0,RowKit.intOf];omega)
  ·intro r hr;rcases apF.1 hr with hr|hr
   ·exact qb hok om r hr
   ·rw[aoZ.1 hr];exact⟨sm,λm hm=>by rw[aoZ.1 hm];exact⟨om,h3',hx⟩⟩
  ·have e:ew b (rr++[(x,v',[i])]) T=.map b (fu rr++[(x,v')])::(rr.map ez++([ez (x,v',[i])]++T)):=by
    unfold ew fu;simp[apX,aoL]
   rw[e];have ho:OwnS S w0 w4 ([ez (x,v',[i])]++((.map b (fu rr++[(x,v')])::rr.map ez)++T)):=ho;exact ho.front
 ·rw[hl];have hjl:=(aoX.1 hj).1;have hjm:=arN hj;have hjo:=hok _ hjm;refine mY (i:Int) ho λb3 w2 ho=>⟨ho.at_ 1 rfl,?_⟩;refine jD (j+2) (v:=v) (n:=l.length) (xs:=aM l) ho (by show (rr.map ez++T)[j]?=_;rw[ss hj];rfl) (ho.sl 0 rfl 1 1 1 rfl) iY (by have:=hjo.1;simp only at this;omega) λv' w3 ho=>?_;have e1:((rr.map ez++T).set j (.urow 3 1 v' (l.length+1) (aM l++Qt [(i:Int)])))=(rr.set j (x,v',l++[i])).map ez++T:=by
   rw[<-zw hjl];unfold ez;rw[gS,aoC];rfl
  have ho:OwnS S w0 w3 (.map b (fu rr)::((rr.map ez++T).set j (.urow 3 1 v' (l.length+1) (aM l++Qt [(i:Int)])))):=ho.tail;rw[e1] at ho;refine XN 0 j avT aoD ho rfl x v v' (by unfold fu;rw[asE,hj];rfl) hnj λw4 ho=>?_;refine aQ ⟨i+1,rr.set j (x,v',l++[i]),rfl,om,?_,?_⟩ (by simp[n0,RowKit.intOf];omega)
  ·intro r hr;rcases auK hr with hr|hr
   ·exact qb hok om r hr
   ·subst hr;refine⟨by simp only[aoC,apL];have:=hjo.1;simp only at this;omega,λm hm=>?_⟩;rcases apF.1 hm with hm|hm
    ·exact⟨by have:=(hjo.2 m hm).1;omega,(hjo.2 m hm).2⟩
    ·rw[aoZ.1 hm];exact⟨om,h3',hx⟩
  ·unfold ew;rw[zu];exact ho
end
end
section
open Eng Go.RowKit
theorem ahQ (hs:Sl w v 1 l.length (aM l))(hi:i < l.length) :
  ∃p,(mIA 123 v (.int .i64 (i:Int))).run ah w=.ok (.value (.pointer (aw p))) w∧(aJ 3 (.pointer (aw p))).run ah w=.ok (.value (.int .i64 (l[i]:Int))) w:=by
 obtain⟨b,off,cap,rfl,hc⟩:=bY hs om;refine⟨⟨b,off+i,av⟩,?_,?_⟩
 ·have:=dZ (P:=ah) (T:=123) (b:=b) (off:=off) (cap:=cap) (n:=l.length) (k:=.i64) (i:=(i:Int)) (w:=w) aoQ NM om om;rw[aoF,aoS] at this;exact this
 ·refine bE (AtV.cell bP (hc _ _ ?_));unfold aM;rw[asE,aoI hi];rfl
def kd (s:List UInt8)(at_:Nat)(x:bn):Prop:=x.1=0∧(x.2.1=0∧x.2.2=0∨3<=x.2.1∧x.2.1<=258∧1<=x.2.2∧x.2.2<=32768∧x.2.2<=at_∧at_+x.2.1<=s.length∧∀i,i < x.2.1->s[at_ - x.2.2+i]?=s[at_+i]?)
theorem zx {s:List UInt8}{a:Nat}(h:(s.drop a).take 3=(s.drop b).take 3)(hi:i < 3):s[a+i]?=s[b+i]?:=by
 have:=congrArg (λl=>l[i]?) h;simp only[arB,anX hi,aqG] at this;exact this
theorem amS (n f:Nat):DoX ah (bA 291 #[(1,.int .i64 (n:Int)),(2,.int .i64 (f:Int))]) w PK K=K (ptV (0,n,f)) w:=aC krx
section
variable {w:ak}{PK:PKT}{K:VWP}{S:Nat->Prop}{w0:ak}{L T:List Ent}
theorem agC (j:Nat){x:bn}(ho:OwnS S w0 w L)(hi:L[j]?=aw (ptE b x)):DoX ah (aJ 291 (.pointer (aw ⟨b,0,av⟩))) w PK K=K (ptV x) w:=l_at (ho.agg j hi adQ)
theorem aiT {K:Ending->ak->Prop}{x:bn}(i:Nat)(ho:OwnS S w0 w L)(hi:L[i]?=aw (ptE b x))(k:K (.returned (ptV x)) w):RetX ah [.cell (.pointer (aw ⟨b,0,av⟩)) 291] w K:=
 lK (bN (ho.agg i hi adQ)) k
theorem WH {s:List UInt8}{a:Nat}{rr:List ik}(ho:OwnS S w0 w (ew b rr T))(hok:lq s a rr)(ha:a<=s.length)(hs:s.length<=1048576)
  (k:∀x W,OwnS S w0 W (ew b rr T)->kd s a x->K (ptV x) W):CallX ah 292 #[.map (aw b),strK s,.int .i64 (a:Int)] w PK K:=by
 refine eW (uY (k0:=RetK λv W=>∃x,v=ptV x∧OwnS S w0 W (ew b rr T)∧kd s a x) ?_) (λe W ⟨v,he,x,hv,ho,hc⟩=>by subst he;subst hv;exact k x W ho hc);unfold mG nz;refine Xo ho λb6 w1 ho=>?_;refine Xo ho λb7 w2 ho=>?_;have hst:(strK s)=.string ⟨s.toArray⟩:=rfl;have fin:∀(W:ak) (x:bn),OwnS S w0 W (ptE b7 x::ptE b6 (0,0,0)::ew b rr T)->kd s a x->DoX ah (aJ 291 (.pointer (aw ⟨b7,0,av⟩))) W (pk (RetK λv W=>∃x,v=ptV x∧OwnS S w0 W (ew b rr T)∧kd s a x)) λt72 w=>
   DoX ah (aV 291 (.pointer (aw ⟨b6,0,av⟩)) t72) w (pk (RetK λv W=>∃x,v=ptV x∧OwnS S w0 W (ew b rr T)∧kd s a x)) λ_ w=>
   RetX ah [.cell (.pointer (aw ⟨b6,0,av⟩)) 291] w (RetK λv W=>∃x,v=ptV x∧OwnS S w0 W (ew b rr T)∧kd s a x):=by
  intro W x ho hx;rw[agC 0 ho rfl];refine Oa (y:=x) 1 ho rfl λw3 ho=>?_;exact aiT 1 ho rfl (retK ⟨x,rfl,ho.tail.tail,hx⟩)
 have h000:kd s a (0,0,0):=⟨rfl,.inl ⟨rfl,rfl⟩⟩;simp only[rs];rw[hst,cL aoD,aA om om];simp only[rs];by_cases h3:(s.length:Int) < (a:Int)+3
 ·simp only[h3,aoA,i_t];exact fin w2 _ ho h000
 simp only[h3,aoB,i_f];have h3':a+3<=s.length:=om
 rw[cL aoD];simp only[rs];rw[aA (n:=(s.length:Int) - a) om om,GP,show min (258:Int) ((s.length:Int) - a)=((min 258 (s.length - a):Nat):Int) by omega];generalize hmost:min 258 (s.length - a)=most;rw[My aoD om om om,aoF,show ((a:Int)+3).toNat - a=3 by omega];generalize hx:(s.drop a).take 3=x;refine aC (Rz (ok:=aq) avT aoD aiD (show TI w2 b (fu rr) from ho.at_ 2 rfl) x) |>.mpr ?_;simp only[asN,if_false];have main:∀(v:ao) (l:List Nat),(∀W x,OwnS S w0 W (ptE b7 x::ptE b6 (0,0,0)::ew b rr T)->Sl W v 1 l.length (aM l))->l.length<=a->(∀i∈l,i < a∧i+3<=s.length∧(s.drop i).take 3=x) ->
   LoopX [.int .i64 ((l.length:Int) - 1)] w2 (λvs1 w N1=>∀_:Sg,fB (.string ⟨s.toArray⟩) (.int .i64 (a:Int)) (.pointer (aw ⟨b6,0,av⟩)) (.pointer (aw ⟨b7,0,av⟩)) (.int .i64 (most:Int)) v (vs1.getD 0 undef) w N1 (RetK λv W=>∃x,v=ptV x∧OwnS S w0 W (ew b rr T)∧kd s a x)):=by
  intro v l hsl hla hl;refine loop (λvs W=>∃(i:Nat) (x:bn),vs=[.int .i64 ((i:Int) - 1)]∧i<=l.length∧kd s a x∧OwnS S w0 W (ptE b7 x::ptE b6 (0,0,0)::ew b rr T)) (λvs _=>(RowKit.intOf (vs.getD 0 undef)+1).toNat) ⟨l.length,(0,0,0),rfl,om,h000,ho⟩ ?_;clear ho;rintro vs w3 ⟨i,y,rfl,hi,hy,ho⟩ _;simp only[fB,gd,rs,nz];cases i with
 |zero=>
   simp only[show ai ((0:Int)<=((0:Nat):Int) - 1)=aq by decide,gd,rs,i_f];exact fin w3 y ho hy
 |succ i=>
   rw[show ((i+1:Nat):Int) - 1=(i:Int) by omega];simp only[show ai ((0:Int)<=(i:Int))=au from anZ om,gd,rs];obtain⟨p,hia,hld⟩:=ahQ (hsl w3 y ho) (i:=i) om;rw[aC hia,aC hld];obtain⟨hm1,hm2,hm3⟩:=hl l[i] (aoR _);generalize hli:l[i]=m at hm1 hm2 hm3;simp only[rs];rw[aA om om,show (a:Int) - m=((a - m:Nat):Int) by omega];by_cases hfar:((a - m:Nat):Int)<=32768
   case neg=>
    simp only[hfar,aoB,gd,rs,i_f];exact fin w3 y ho hy
   simp only[hfar,aoA,gd,rs];rw[aP Hv,pt_1 ho 0 rfl];simp only[rs];by_cases hsz:(y.2.1:Int) < (most:Int)
   case neg=>
    simp only[hsz,aoB,gd,rs,i_f];exact fin w3 y ho hy
   simp only[hsz,aoA,gd,rs,i_t];refine join λJ hJ=>?_;rw[aC hia,aC hld,hli];have next:∀(W:ak) (z:bn),OwnS S w0 W (ptE b7 z::ptE b6 (0,0,0)::ew b rr T)->kd s a z->J [] W:=by
    intro W z ho hz;refine hJ _ _ λ_=>?_;simp only[jO,gd,rs,nz];rw[aA om om];exact aQ ⟨i,z,rfl,om,hz,ho⟩ (by simp[RowKit.intOf])
   refine aH ho (Tl s m a most w3 hm1 om hs) ?_;rintro _ w4 ⟨n,rfl,hn,hal,hst⟩ ho;rw[aP Hv,pt_1 ho 0 rfl];simp only[rs];by_cases hgt:(y.2.1:Int) < (n:Int)
   case neg=>
    simp only[hgt,aoB,i_f];exact next w4 y ho hy
   simp only[hgt,aoA,i_t];obtain⟨p2,hia2,hld2⟩:=ahQ (hsl w4 y ho) (i:=i) om;rw[aC hia2,aC hld2,hli];simp only[rs];rw[aA om om,show (a:Int) - m=((a - m:Nat):Int) by omega,amS];refine Oa (y:=(0,n,a - m)) 0 ho rfl λw5 ho=>?_;refine next w5 (0,n,a - m) ho ⟨rfl,.inr ⟨?_,by show n<=258;omega,by show 1<=a - m;omega,by show a - m<=32768;omega,by show a - m<=a;omega,by show a+n<=s.length;omega,λj hj=>?_⟩⟩
   ·show 3<=n;rcases hst with h|h
    ·omega
    ·refine Nat.le_of_not_lt λhlt=>h (zx (hm3.trans hx.symm) hlt)
   ·show s[a - (a - m)+j]?=_;rw[show a - (a - m)=m by omega];exact hal j hj
 rcases nq x rr with hn|⟨j,v,l,hj,hl,hnj⟩
 ·rw[hn];show DoX ah (mB .len #[123] 3 #[aq] #[nilS]) w2 _ _;rw[show nilS=.slice av 0 0 from rfl,bG aoQ];simp only[rs];rw[aA om om];exact main (.slice av 0 0) [] (λW x ho=>by exact (OwnS.nilU ho 3 1).slU 0 rfl) sm (λi hi=>by cases hi)
 ·rw[hl];have hjo:=hok _ (arN hj);have hsl:∀(W:ak) (y:bn),OwnS S w0 W (ptE b7 y::ptE b6 (0,0,0)::ew b rr T)->Sl W v 1 l.length (aM l):=λW y ho=>ho.slU (j+3) (by show (rr.map ez++T)[j]?=_;rw[ss hj];rfl);show DoX ah (mB .len #[123] 3 #[aq] #[v]) w2 _ _;rw[bB aoQ (hsl w2 _ ho)];simp only[rs];have hll:l.length<=a:=hjo.1;rw[aA om om];exact main v l hsl hll hjo.2
end
end
end Go.Proofs.YtlipjfcbjemicaaGreatDoor
