/- Texts that go together: CsD CsF CsG CsI CsH CsJ Plain20B Plain20C CsK CsL CsM CsN SCrossR CsO SBody Plain08K BoChk CsP Plain20D Plain20E Plain20F Plain20G Plain20H CsR CsS TbOp LayR SLaw16 FeL FeM FeO FeN CsT. -/
import Derived.Test.YtlipjfcbjemicaaGreatDoorRows
import Derived.Test.YtlipjfcbjemicaaGreatDoorMbaehbcbl
set_option linter.defProp false
set_option linter.unusedSimpArgs false
set_option linter.unusedVariables false
set_option maxRecDepth 20000
open Go.Proofs.Tryz
open Go.Proofs.Tryz renaming prog->ah
open Option renaming some->ax,none->aw
open Bool renaming true->av,false->au
open Go renaming Value->aq,World->ao
open Decidable renaming decide->ai
namespace Go.Proofs.YtlipjfcbjemicaaGreatDoor
variable{K:VWP}{M N:Eng.Mem}{PK:PKT}{R:Ending->FrameMode->ao->Prop}{W w:ao}{a:Int}{args ca fa:Array aq}{b f fuel i j:Nat}{cs:List aq}{key:List UInt8}{o:Ob}{pv t0 v vc vk:aq}{q:Bool}{u:FrameMode}{t0:aq}{k0:Eng.KT}
section
open Eng Go.RowKit
namespace Ff
def encF (o:Ob)(p:Pm)(D:List UInt8):Ob×Int:=
 if (plain o D).2≠0 then plain o D
 else if (Vl.set (plain o D).1 aX (cE nFl)).2≠0 then (Vl.ob0,(Vl.set (plain o D).1 aX (cE nFl)).2)
 else if (Vl.set (Vl.set (plain o D).1 aX (cE nFl)).1 cL (eS p)).2≠0 then (Vl.ob0,(Vl.set (Vl.set (plain o D).1 aX (cE nFl)).1 cL (eS p)).2)
 else ((Vl.set (Vl.set (plain o D).1 aX (cE nFl)).1 cL (eS p)).1,0)
end Ff
theorem Vt (o:Ob)(v:aq)(n:List UInt8)(p:Pm)(vn vp:aq)(data:List UInt8)(M:Mem)(w:ao)(c5:Pws M)(hk:o.k=9∨o.k=7)(hf:Ff.full n=Ff.nFl)(hp:p≠Ff.Av)(c6:Ff.pmI p)(b5:dt p data=0)(c7:data.length<=1000000)
  (hw:o.wt<=100000000) (hx:∀D,Ff.OneR Ff.nFl p data D 0->D.length<=1000000∧(Ff.plain o D).1.wt<=1000000000) (hM:M.has w) (hv:OV M.A M.w v o) (hn:SlA M.A M.w vn 1 [n].length (bS [n])) (c8:SlA M.A M.w vp 3 1 (pmC p)) :
  RetM ah 22 #[v,vn,vp,.string ⟨data.toArray⟩] M w (λr N=>∃D v',Ff.OneR Ff.nFl p data D 0∧r=errV v' (Ff.encF o p D).2∧OV N.A N.w v' (Ff.encF o p D).1):=by
 obtain⟨vk,vc,e7,rfl,b6⟩:=hv.open;refine bB hM λK hK=>Dz ?_;unfold xB nz;refine iE o b6.keys.one b6.kids.one (OwnS.memS hM) λd w1 a=>?_;refine fK a λf w2 a=>?_;rw[fP,ob_k a 1 rfl];simp only[rs];have main:∀W,OwnS M.A w W [obE f ob0 nilS nilS,obE d o vk vc,.mem M]->CallX ah 67 #[vn,vp] W (pk K) λt31 w=>
 DoX ah (mExt t31 0) w (pk K) λt32 w=>
 DoX ah (mExt t31 1) w (pk K) λt33 w=>
 DoX ah (mExt t31 2) w (pk K) λt34 w=>
 DoX ah (mEq .neq 30 (.tmp 35) (.const (.int .i64 0)) t34 (.int .i64 0)) w (pk K) λt36 w=>
 IfX t36 (DoX ah (aS 25 #[]) w (pk K) λt37 w=>
 DoX ah (aN 25 (.pointer (ax ⟨f,0,aw⟩)) t37) w (pk K) λ_ w=>
 RetX ah [.cell (.pointer (ax ⟨f,0,aw⟩)) 25,.val t34] w K) (DoX ah (mB .len #[22] 3 #[au] #[t32]) w (pk K) λt40 w=>
 DoX ah (mBin .sub 3 t40 (.int .i64 1)) w (pk K) λt41 w=>
 LoopX [.string ⟨data.toArray⟩,(.int .i64 0),t41] w (λa6 w N1=>∀_:Sg,gQ t32 t33 (a6.getD 0 undef) (.pointer (ax ⟨d,0,aw⟩)) (.pointer (ax ⟨f,0,aw⟩)) (a6.getD 1 undef) (a6.getD 2 undef) w N1 K)):=by
  intro w2 a;refine bH a 2 rfl (SS n p vn vp M w2 hf (a.hasM 2 rfl) hn c8) ?_;rintro _ N w3 l1 ⟨va,vb,rfl,g,O⟩ a;have a:OwnS M.A w w3 [obE f ob0 nilS nilS,obE d o vk vc,.mem N]:=a;simp only[ex,sS (show [va,vb,Value.int .i64 0][2]?=ax (Value.int .i64 0) from rfl),sS (show [va,vb,Value.int .i64 0][1]?=ax vb from rfl),sS (show [va,vb,Value.int .i64 0][0]?=ax va from rfl),eN,show ai ((0:Int)≠0)=au from rfl,i_f];rw[yU g]
  try simp only[rs]
  rw[show IntKind.i64.wrap ((([Ff.nFl].length:Nat):Int) - 1)=0 from rfl];refine loop (λvs W=>(vs=[.string ⟨data.toArray⟩,.int .i64 0,.int .i64 0]∧OwnS M.A w W [obE f ob0 nilS nilS,obE d o vk vc,.mem N])∨∃(D:List UInt8) (Q:Mem),vs=[.string ⟨D.toArray⟩,.int .i64 0,.int .i64 (-1)]∧Ff.OneR Ff.nFl p data D 0∧N.le Q∧OwnS M.A w W [obE f ob0 nilS nilS,obE d o vk vc,.mem Q]) (λvs _=>(RowKit.intOf (vs.getD 2 undef)+1).toNat) (.inl ⟨rfl,a⟩) ?_;clear a;rintro vs w4 (⟨rfl,a⟩|⟨D,N',rfl,hD,l0,a⟩) _
  ·simp only[gQ,gd,rs,show ai ((0:Int)<=0)=av from rfl,i_t,iN,dx,ldx,bnx,exx,stx,lnx,ecx,gfx,efx,cx];obtain⟨q,l,a7⟩:=LC (i:=0) g dc;obtain⟨q2,c,F⟩:=pmAt (i:=0) O (by show 0 < 1;decide);have a:=a.drew;refine⟨λW=>N.has W,a.hasM 2 rfl,?_⟩;refine aR _ l (jH _ (λW h=>a7 W h) ?_);refine aR _ c (jH _ (λW h=>F W h) ?_);refine bH a 2 rfl (aaT Ff.nFl p (peR p) (ahP dc) data N _ (c5.le l1) (a.hasM 2 rfl) c7) ?_;rintro _ N3 w5 l3 ⟨t,e,rfl,hR⟩ a;have he:e=0:=by
    unfold Ff.OneR at hR;rw[amA dc,amB dc,amB b5] at hR;exact hR.1
   subst he;refine⟨Mem.MJ l3 (a.hasM 2 rfl),?_⟩;simp only[zlT];refine aR (.string ⟨t.toArray⟩) (λ_=>by kernel_rfl) (aR (.int .i64 0) (λ_=>by kernel_rfl) ?_);simp only[eN,show ai ((0:Int)≠0)=au from rfl,i_f]
   try simp only[rs]
   exact aY (.inr ⟨t,N3,rfl,hR,l3,a⟩) (by show (0:Nat) < 1;decide)
  simp only[gQ,gd,rs,show ai ((0:Int)<=-1)=au from rfl,i_f,iN,dx,ldx,bnx,exx,stx,lnx,ecx,gfx,efx,cx]
  replace l1:=l1.trans l0
  replace g:=g.le l0
  replace O:=O.le l0
  clear l0;obtain⟨e8,hx⟩:=hx D hD;generalize b:Ff.encF o p D=X;have hK:∀(v:aq) (w':ao) (N:Mem) (L:List Ent) (i:Nat),OwnS M.A w w' L->L[i]?=ax (.mem N)->M.le N->(∃v',v=errV v' X.2∧OV N.A N.w v' X.1)->K (.returned v) w':=λv w' N L i h1 h2 h3 ⟨v',h4,h5⟩=>hK v w' N L i h1 h2 h3 ⟨D,v',hD,by rw[b];exact h4,by rw[b];exact h5⟩;unfold Ff.encF at b;rw[ob_v a 1 rfl];refine bH a 2 rfl (RT o _ D N' w4 om om (a.hasM 2 rfl) (hv.le l1)) ?_;generalize Ff.plain o D=P at b hx;obtain⟨x,pe⟩:=P;rintro _ Q w5 l2 ⟨xv,rfl,b7⟩ a;obtain⟨C,E,e9,rfl,m⟩:=b7.open;dsimp only at b hx m;simp only[errV,ex];refine bK 1 m.keys.one m.kids.one a rfl λw6 a=>?_;have a:OwnS M.A w w6 [obE f ob0 nilS nilS,obE d x C E,.mem Q]:=a;simp only[eN,rs];by_cases R:pe=0
  case neg=>
   rw[amB R] at b;simp only[amG (show pe≠0 from R),rs,g_un,i_t];rw[ob_v a 1 rfl];refine bK 0 m.keys.one m.kids.one a rfl λY a=>?_;exact fE 0 a rfl (hK _ _ Q _ 2 a rfl (l1.trans l2) ⟨_,by rw[<-b];rfl,by rw[<-b];exact m.ov⟩)
  rw[amA (λh=>h R)] at b;subst R;simp only[show ai ((0:Int)≠0)=au from rfl,rs];rw[yU g];simp only[rs,show ai ((([Ff.nFl].length:Nat):Int)=0)=au from rfl,i_f];rw[yU g];have b9:=g.le l2;have c0:=O.le l2;have a:=(OwnS.nilU a 25 6);have a:=(OwnS.nilU a 25 6);have a:OwnS M.A w w6 [.urow 25 6 nilS 0 [],.urow 25 6 nilS 0 [],obE f ob0 nilS nilS,obE d x C E,.mem Q]:=a;refine loop (λvs W=>(vs=[.int .i64 0,nilS,nilS,.bool au,.int .i64 0]∧OwnS M.A w W [.urow 25 6 nilS 0 [],.urow 25 6 nilS 0 [],obE f ob0 nilS nilS,obE d x C E,.mem Q])∨∃(fv pv G H:aq) (N3:Mem),vs=[.int .i64 0,fv,pv,.bool av,.int .i64 1]∧Q.le N3∧OV N3.A N3.w (obV (Ff.eS p) G H) (Ff.eS p)∧OwnS M.A w W [.urow 25 6 fv 1 (obC (Ff.cE Ff.nFl) nilS nilS),.urow 25 6 pv 1 (obC (Ff.eS p) G H),obE f ob0 nilS nilS,obE d x C E,.mem N3]) (λvs _=>1 - (RowKit.intOf (vs.getD 4 undef)).toNat) (.inl ⟨rfl,a⟩) ?_;clear a;rintro vs Y (⟨rfl,a⟩|⟨fv,pv,G,H,N3,rfl,l3,ht,a⟩) _
  ·simp only[lB,gd,rs,show ai ((0:Int) < (([Ff.nFl].length:Nat):Int))=av from rfl,i_t,iN,dx,ldx,bnx,iax,exx,stx,alx,ecx,apx,gfx,cx];obtain⟨q,l,a7⟩:=LC (i:=0) b9 dc;obtain⟨q2,c,F⟩:=pmAt (i:=0) c0 (by show 0 < 1;decide);have l:=l Y;have c:=c Y;rw[show ((0:Nat):Int)=0 from rfl] at l c;rw[aD l,aD (a7 Y (a.hasM 4 rfl)),aD c,aD (F Y (a.hasM 4 rfl))];refine bH a 4 rfl (R8 p hp c6 Q Y (a.hasM 4 rfl)) ?_;rintro _ N4 w8 l4 ⟨tv,rfl,ht⟩ a;obtain⟨G,H,h0,rfl,s⟩:=ht.open;simp only[errV,ex];refine fK a λa8 w9 a=>?_;refine bK 0 s.keys.one s.kids.one a rfl λb0 a=>?_;simp only[eN,show ai ((0:Int)≠0)=au from rfl,i_f];refine aL a (iM Ff.nFl b0) ?_;rintro _ S rfl a;have a:OwnS M.A w S [obE a8 (Ff.eS p) G H,.urow 25 6 nilS 0 [],.urow 25 6 nilS 0 [],obE f ob0 nilS nilS,obE d x C E,.mem N4]:=a;refine JX (Ff.cE Ff.nFl) (vk:=nilS) (vc:=nilS) rfl rfl a λnb c9 a=>?_;refine Q4 2 a rfl (a.sl 0 rfl 6 1 1 rfl) (lI _ rfl rfl) om λfv b1 a=>?_;have a:=a.tail;have a:OwnS M.A w b1 [obE a8 (Ff.eS p) G H,.urow 25 6 fv 1 (obC (Ff.cE Ff.nFl) nilS nilS),.urow 25 6 nilS 0 [],obE f ob0 nilS nilS,obE d x C E,.mem N4]:=a;rw[ob_v a 0 rfl];refine JX (Ff.eS p) s.keys.one s.kids.one a λnb c1 a=>?_;refine Q4 3 a rfl (a.sl 0 rfl 6 1 1 rfl) (lI _ s.keys.one s.kids.one) om λpv e0 a=>?_;have a:=a.tail;have a:OwnS M.A w e0 [obE a8 (Ff.eS p) G H,.urow 25 6 fv 1 (obC (Ff.cE Ff.nFl) nilS nilS),.urow 25 6 pv 1 (obC (Ff.eS p) G H),obE f ob0 nilS nilS,obE d x C E,.mem N4]:=a
   try simp only[rs]
   rw[fP,ob_k a 0 rfl];simp only[rs,show ai ((Ff.eS p).k≠0)=av from rfl];exact aY (.inr ⟨fv,pv,G,H,N4,rfl,l4,ht,a.tail⟩) (by show (0:Nat) < 1;decide)
  simp only[lB,gd,rs,show ai ((1:Int) < (([Ff.nFl].length:Nat):Int))=au from rfl,i_f,iN,dx,ldx,bnx,iax,exx,stx,alx,ecx,apx,gfx,cx];obtain⟨N4,l4,e1,a⟩:=a.bI 3 rfl;have a:OwnS M.A w Y [.urow 25 6 pv 1 (obC (Ff.eS p) G H),obE f ob0 nilS nilS,obE d x C E,.mem N4]:=a;obtain⟨N5,l5,e2,a⟩:=a.bI 2 rfl;have a:OwnS M.A w Y [obE f ob0 nilS nilS,obE d x C E,.mem N5]:=a;have e3:LsAt N5 fv [Ff.cE Ff.nFl] (obC (Ff.cE Ff.nFl) nilS nilS):=⟨e1.le l5,oG (iC N5 5 0 0 Ff.nFl)⟩;have c2:LsAt N5 pv [Ff.eS p] (obC (Ff.eS p) G H):=⟨e2,oG ((ht.le l4).le l5)⟩;have c3:=(((l1.trans l2).trans l3).trans l4).trans l5;have c4:=(((b7.le l3).le l4).le l5);have e5:(Ff.cE Ff.nFl).wt<=1000:=dc
  have e6:(Ff.eS p).wt<=1000:=Nat.le_of_ble_eq_true krx;have a:=a.drew;refine⟨λW=>(obE d x C E).is W,a.at_ 1 rfl,?_⟩;refine jH (obV x C E) (λW h=>aW (AtV.agg kY (cs:=obC x C E) rfl λj u hj=>by rw[amO];exact aI (T:=25) h hj)) ?_;refine bH a 2 rfl (Jr [Ff.cE Ff.nFl] fv _ N5 _ (by show (_:Nat)<=_;decide) (a.hasM 2 rfl) e3) λy N6 w8 l6 hy a=>?_;refine⟨a.at_ 1 rfl,?_⟩;have hy:OV N6.A N6.w y (Ff.cE Ff.nFl):=hy;refine bH a 2 rfl (Ks x (Ff.cE Ff.nFl) _ y Ff.aX N6 w8 om om dc (a.hasM 2 rfl) (c4.le l6) hy) ?_;have U:(Vl.set x Ff.aX (Ff.cE Ff.nFl)).2=0->(Vl.set x Ff.aX (Ff.cE Ff.nFl)).1.wt<=2000000000:=λ_=>by
   have:=Vl.LX x Ff.aX (Ff.cE Ff.nFl);have hk:Ff.aX.length=6:=rfl;omega
  generalize Vl.set x Ff.aX (Ff.cE Ff.nFl)=Rr at b U;obtain⟨z,ze⟩:=Rr;dsimp only at b U;rintro _ N7 w9 l7 ⟨zv,rfl,hz⟩ a;obtain⟨zk,zc,h6,rfl,b2⟩:=hz.open;dsimp only at b2 hz;unfold errV;refine aR (obV z zk zc) (λ_=>by kernel_rfl) (aR (.int .i64 ze) (λ_=>by kernel_rfl) ?_);refine bK 1 b2.keys.one b2.kids.one a rfl λb0 a=>?_;have a:OwnS M.A w b0 [obE f ob0 nilS nilS,obE d z zk zc,.mem N7]:=a;have Z:=(c3.trans l6).trans l7;simp only[eN];by_cases I:ze=0
  case neg=>
   rw[amB I] at b;simp only[amG (show ze≠0 from I),i_t];rw[Kz];refine bK 0 rfl rfl a rfl λS a=>?_;exact fE 0 a rfl (hK _ _ N7 _ 2 a rfl Z ⟨_,by rw[<-b];rfl,by rw[<-b];exact vB N7⟩)
  rw[amA (λh=>h I)] at b;have U:=U I;simp only[amE (show ¬ze≠0 fromλh=>h I),i_f];refine join λJ hJ=>?_
  try simp only[i_t]
  have a:=a.drew;refine⟨λW=>(obE d z zk zc).is W,a.at_ 1 rfl,?_⟩;refine jH (obV z zk zc) (λW h=>aW (AtV.agg kY (cs:=obC z zk zc) rfl λj u hj=>by rw[amO];exact aI (T:=25) h hj)) ?_;refine bH a 2 rfl (Jr [Ff.eS p] pv _ N7 _ (by show (_:Nat)+0<=_;omega) (a.hasM 2 rfl) ⟨(c2.sl.le l6).le l7,(c2.all.le l6).le l7⟩) λy2 N8 S l8 b3 a=>?_;refine⟨a.at_ 1 rfl,?_⟩;have b3:OV N8.A N8.w y2 (Ff.eS p):=b3;refine bH a 2 rfl (Ks z (Ff.eS p) _ y2 Ff.cL N8 S om om dc (a.hasM 2 rfl) (hz.le l8) b3) ?_;generalize Vl.set z Ff.cL (Ff.eS p)=Rr at b;obtain⟨y,ye⟩:=Rr;dsimp only at b;rintro _ N9 c9 l9 ⟨yv,rfl,e4⟩ a;obtain⟨yk,yc,h7,rfl,B⟩:=e4.open;dsimp only at B;unfold errV;refine aR (obV y yk yc) (λ_=>by kernel_rfl) (aR (.int .i64 ye) (λ_=>by kernel_rfl) ?_);refine bK 1 B.keys.one B.kids.one a rfl λb1 a=>?_;have a:OwnS M.A w b1 [obE f ob0 nilS nilS,obE d y yk yc,.mem N9]:=a;have a1:=(Z.trans l8).trans l9;simp only[eN];by_cases V:ye=0
  case neg=>
   rw[amB V] at b;simp only[amG (show ye≠0 from V),i_t];rw[Kz];refine bK 0 rfl rfl a rfl λc1 a=>?_;exact fE 0 a rfl (hK _ _ N9 _ 2 a rfl a1 ⟨_,by rw[<-b];rfl,by rw[<-b];exact vB N9⟩)
  rw[amA (λh=>h V)] at b;simp only[amE (show ¬ye≠0 fromλh=>h V),i_f];refine hJ _ _ λ_=>?_;unfold sU nz;rw[ob_v a 1 rfl];refine bK 0 B.keys.one B.kids.one a rfl λc1 a=>?_;exact fE 0 a rfl (hK _ _ N9 _ 2 a rfl a1 ⟨_,by rw[<-b];rfl,by rw[<-b];exact B.ov⟩)
 by_cases k9:o.k=9
 ·simp only[amE (show ¬o.k≠9 fromλh=>h k9),rs,g_un,i_f];exact main w2 a
 have k7:o.k=7:=by rcases hk with h|h;exact absurd h k9;exact h
 simp only[amG (show o.k≠9 from k9),rs];rw[fP,ob_k a 1 rfl];simp only[rs,amE (show ¬o.k≠7 fromλh=>h k7),i_f];exact main w2 a
end
section
open Eng Go.RowKit
theorem aac (l:List (Int×Int))(r:Int×Int):Cs.size (l++[r])=r.1+r.2:=by unfold Cs.size;rw[List.getLast?_append];rfl
theorem Jt {l:List (Int×Int)}(a:j < l.length):l.take (j+1)=l.take j++[l[j]]:=anH a
theorem aad (l:List (Int×Int))(r:Int×Int):Cs.flat (l++[r])=Cs.flat l++[r.1,r.2]:=by unfold Cs.flat;rw[apL,aqM]
theorem qp:∀l:List (Int×Int),(Cs.flat l).length=2*l.length
|[]=>rfl
|r::l=>by
  have:=qp l;show ((Cs.flat l).length+1)+1=_;rw[amW];omega
theorem ny:∀l:List Int,Ob.wts (l.map Cs.intO)<=6*l.length
|[]=>amJ _
|n::l=>by
  have a:=ny l;have h:(Cs.intO n).wt=6:=rfl;show (Cs.intO n).wt+Ob.wts (l.map Cs.intO)<=_;rw[amW];omega
theorem xa (l:List Int):(Cs.arrO l).wt<=6*l.length+6:=by
 have h:=ny l;have e:(Cs.arrO l).wt=6+0+0+Ob.wts (l.map Cs.intO):=Vl.jX (Cs.arrO l);omega
theorem agT {S0:Nat->Prop}{Y:ao}{F s b2 b3:Nat}{c3:List aq}{x:Sec}{vs vk vc:aq}{ds:List aq}{ps:List (List UInt8×Ob)}{ok I:aq}{K:Ending->ao->Prop}{X:Ob×Int}
  (c:Cs.mE o ps=X) (J:∀p∈ps,p.1.length<=10∧p.2.wt<=100000) (a6:ps.length<=5) (a:OwnS M.A w Y [obE s o ok I,obE F ob0 nilS nilS,.mem N]) (hle:M.le N) (b:OV N.A N.w (obV o ok I) o) (t:o.wt<=1000000000)
  (n:SlA N.A N.w pv 6 (Cs.row ps).length ds) (g:OVs N.A N.w ds (Cs.row ps))
  (Z:∀(v:aq) (w':ao) (N:Mem) (L:List Ent) (i:Nat),OwnS M.A w w' L->L[i]?=ax (.mem N)->M.le N->(∃v',v=errV v' X.2∧OV N.A N.w v' X.1)->K (.returned v) w') :
  lM (.pointer (ax ⟨F,0,aw⟩)) (.int .i64 0) (.pointer (ax ⟨s,0,aw⟩)) pv Y K:=by
 unfold lM nz;have a7:=Cs.NF ps;refine loop (λvs W=>∃(i:Nat) (o':Ob) (d e:aq) (k:Mem),vs=[.int .i64 0,.int .i64 ((2*i:Nat):Int)]∧i<=ps.length∧Cs.mE o' (ps.drop i)=X∧o'.wt<=1000000000+200000*i∧N.le k∧OV k.A k.w (obV o' d e) o'∧OwnS M.A w W [obE s o' d e,obE F ob0 nilS nilS,.mem k]) (λvs _=>2*ps.length - n1 vs) ⟨0,o,ok,I,N,rfl,om,c,om,N.le_refl,b,a⟩ ?_;clear a c b t;rintro vs w2 ⟨i,o',d,e,k,rfl,hi,c,t,l,b,a⟩ _;simp only[AG,gd,iN,dx,ldx,bnx,stx,lnx,ecx];rw[bD amT ((n.le l).now (a.hasM 2 rfl))];simp only[rs];by_cases q:i < ps.length
 ·simp only[show ai (((2*i:Nat):Int) < ((Cs.row ps).length:Int))=av from amG om,i_t];have h1:2*i < (Cs.row ps).length:=om
  have h2:2*i+1 < (Cs.row ps).length:=om
  obtain⟨e1,e2⟩:=Cs.Sm q h2;obtain⟨p1,q1,a8,b0,y,a1,O⟩:=Tg (n.le l) (g.le l) h1;obtain⟨p2,q2,B,C,D,m,P⟩:=Tg (n.le l) (g.le l) h2;obtain⟨b1,b5⟩:=J ps[i] (amR q);have a:=a.drew;refine⟨λW=>(obE s o' d e).is W∧k.has W,⟨a.at_ 0 rfl,a.hasM 2 rfl⟩,?_⟩;refine jH (obV o' d e) (λW h=>aW (AtV.agg kY (cs:=obC o' d e) rfl λj u hj=>by rw[amO];exact aI (T:=25) h.1 hj)) ?_;refine aR _ y ?_;refine aR (.pointer (ax ⟨p1,q1+3,aw⟩)) (λ_=>bE afK) ?_;refine jH (.string ⟨(ps[i].1).toArray⟩) (λW h=>aB Iv (O W h.2 3 _ (by rw[e1];rfl))) ?_;refine aR (.int .i64 ((2*i+1:Nat):Int)) (λW=>by rw[Iy,aA om om];rfl) ?_;refine aR _ D ?_;refine jH (obV (Cs.row ps)[2*i+1] B C) (λW h=>aW (AtV.agg kY (cs:=obC (Cs.row ps)[2*i+1] B C) rfl (P W h.2))) ?_;rw[e2] at m ⊢;refine bH a 2 rfl (Ks o' ps[i].2 _ _ ps[i].1 k _ om om om (a.hasM 2 rfl) b m) ?_;have E:=Vl.LX o' ps[i].1 ps[i].2;have Q:ps.drop i=ps[i]::ps.drop (i+1):=anX q;rw[Q,Cs.mE] at c;generalize Vl.set o' ps[i].1 ps[i].2=R at c E;obtain⟨z,G⟩:=R;dsimp only at c E;rintro _ H w3 l2 ⟨zv,rfl,S⟩ a;obtain⟨U,V,b7,rfl,r⟩:=S.open;dsimp only at S r;unfold errV;refine aR (obV z U V) (λ_=>by kernel_rfl) (aR (.int .i64 G) (λ_=>by kernel_rfl) ?_);refine bK 0 r.keys.one r.kids.one a rfl λw4 a=>?_;have a:OwnS M.A w w4 [obE s z U V,obE F ob0 nilS nilS,.mem H]:=a;simp only[eN];by_cases f:G=0
  case neg=>
   rw[amB f] at c;simp only[amG (show G≠0 from f),i_t];rw[Kz];refine bK 1 rfl rfl a rfl λw5 a=>?_;exact fE 1 a rfl (Z _ _ H _ 2 a rfl ((hle.trans l).trans l2) ⟨_,by rw[<-c];rfl,by rw[<-c];exact vB H⟩)
  rw[amA (λh=>h f)] at c;simp only[amE (show ¬G≠0 fromλh=>h f),i_f]
  try simp only[rs]
  rw[aA om om];exact aY ⟨i+1,z,U,V,H,by rw[show ((2*i:Nat):Int)+2=((2*(i+1):Nat):Int) by omega],om,c,om,l.trans l2,S,a⟩ (by simp[n1,RowKit.intOf];omega)
 simp only[show ai (((2*i:Nat):Int) < ((Cs.row ps).length:Int))=au from amE om,i_f];have:i=ps.length:=om
 subst this;rw[List.drop_length,Cs.mE] at c;rw[ob_v a 0 rfl];refine bK 1 (b.oneK) (b.oneC) a rfl λw3 a=>?_;exact fE 1 a rfl (Z _ _ k _ 2 a rfl (hle.trans l) ⟨_,by rw[<-c];rfl,by rw[<-c];exact b⟩)
end
section
open Eng Go.RowKit
theorem Cs.La (x:Sec)(b:(Tl.runs x.aG).length<=8192):(∀p∈Cs.bF x,p.1.length<=10∧p.2.wt<=100000)∧(Cs.bF x).length<=5:=by
 have hi:∀n:Int,(Cs.intO n).wt=6:=λ_=>rfl;have c:=xa [1,(Cs.wa x.aG:Nat),(Cs.wb x.aG:Nat)];have a:=xa (Cs.flat (Tl.runs x.aG));rw[qp] at a;have d:([1,((Cs.wa x.aG:Nat):Int),((Cs.wb x.aG:Nat):Int)]:List Int).length=3:=rfl;unfold Cs.bF;refine⟨λp hp=>?_,by
  split
  ·show (5:Nat)<=5;decide
  ·show (4:Nat)<=5;decide⟩
 rcases anF.1 hp with hp|hp
 ·simp only[amH,anW,or_false] at hp;rcases hp with rfl|rfl|rfl|rfl
  ·exact⟨dc,dc⟩
  ·exact⟨by show (4:Nat)<=10;decide,by show (6:Nat)<=_;decide⟩
  ·exact⟨by show (1:Nat)<=10;decide,by show (Cs.arrO _).wt<=_;omega⟩
  ·exact⟨by show (5:Nat)<=10;decide,by show (Cs.arrO _).wt<=_;omega⟩
 ·split at hp
  ·simp only[amH,anW,or_false] at hp;subst hp;exact⟨by show (4:Nat)<=10;decide,by show (6:Nat)<=_;decide⟩
  ·cases hp
theorem Sx (x:Sec)(vs vk vc:aq)(M:Mem)(w:ao)(hb:x.aG.length<=8192)(hf:R4 x.aG)(T:∀r∈Tl.runs x.aG,0<=r.1∧r.1<=8191∧0<=r.2∧r.2<=1000000)(hw:x.trailer.wt<=100000000)(b8:(Cs.sV x.trailer).wt<=1000000000)(hM:M.has w)
  (U:SlA M.A M.w vs 4 x.aG.length (slsC x.aG)) (H:OV M.A M.w (obV x.trailer vk vc) x.trailer) :
  RetM ah 102 #[secV x vs vk vc,w3V (Cs.wa x.aG:Nat) (Cs.wb x.aG:Nat)] M w (λr N=>∃v',r=errV v' (Cs.dict x).2∧OV N.A N.w v' (Cs.dict x).1):=by
 have e3:=Tl.CN x.aG;obtain⟨b9,c0⟩:=Cs.La x om;refine bB hM λK hK=>Ho ?_;unfold EW nz;refine Xq x U.one H.oneK H.oneC (OwnS.memS hM) λb2 w1 c=>?_;refine akK c λb3 w2 c=>?_;refine fK c λj w3 c=>?_;rw[LQ,aaO c 2 rfl];refine bH c 3 rfl (MW x.trailer _ M w3 om (c.hasM 3 rfl) H) λy N1 w4 l1 hy c=>?_;obtain⟨k,l,e4,rfl,V⟩:=hy.open;refine fK c λm w5 c=>?_;refine bK 0 V.keys.one V.kids.one c rfl λw6 c=>?_;have c:OwnS M.A w w6 [obE m (Cs.sV x.trailer) k l,obE j ob0 nilS nilS,.cells b3 (w3C (Cs.wa x.aG:Nat) (Cs.wb x.aG:Nat)) 71,secE b2 x vs vk vc,.mem N1]:=c;rw[C6,Ll c 3 rfl];refine bH c 4 rfl (TB x.aG vs N1 w6 om hf (c.hasM 4 rfl) (U.le l1)) λrv E w7 l2 s c=>?_;have s:SlA E.A E.w rv 2 (Tl.runs x.aG).length (rnsC (Tl.runs x.aG)):=s;rw[bD asO (s.now (c.hasM 4 rfl))];have c:=OwnS.nilU c 25 6;have c:OwnS M.A w w7 [inR nilS (Cs.flat ((Tl.runs x.aG).take 0)),obE m (Cs.sV x.trailer) k l,obE j ob0 nilS nilS,.cells b3 (w3C (Cs.wa x.aG:Nat) (Cs.wb x.aG:Nat)) 71,secE b2 x vs vk vc,.mem E]:=c;have q:Cs.bF x=[(Cs.mY,Ff.cE Cs.zK),(Cs.iT,Cs.intO (Cs.size (Tl.runs x.aG))),(Cs.kW,Cs.arrO [1,(Cs.wa x.aG:Nat),(Cs.wb x.aG:Nat)]),(Cs.gD,Cs.arrO (Cs.flat (Tl.runs x.aG)))]++if 0<=x.prev then [(Cs.rG,Cs.intO x.prev)] else []:=rfl
 unfold Cs.dict at hK;generalize e5:Tl.runs x.aG=f at *;generalize ((Cs.wa x.aG:Nat):Int)=a at *;generalize ((Cs.wb x.aG:Nat):Int)=d at *;generalize Cs.sV x.trailer=tr at *;have I:∀i,0<=Cs.size (f.take i)∧Cs.size (f.take i)<=1008191:=by
  intro i;unfold Cs.size;cases h:(f.take i).getLast? with
 |none=>exact⟨arV _,dc⟩
 |some r=>
   have:=T r (aoO (List.mem_of_mem_getLast? h));show 0<=r.1+r.2∧r.1+r.2<=_;omega
 refine loop (λvs' W=>∃(i:Nat) (cv:aq),vs'=[.int .i64 (Cs.size (f.take i)),cv,.int .i64 (i:Int)]∧i<=f.length∧OwnS M.A w W [inR cv (Cs.flat (f.take i)),obE m tr k l,obE j ob0 nilS nilS,.cells b3 (w3C a d) 71,secE b2 x vs vk vc,.mem E]) (λvs _=>f.length - (RowKit.intOf (vs.getD 2 undef)).toNat) ⟨0,nilS,rfl,om,c⟩ ?_;clear c;rintro vs' w8 ⟨i,cv,rfl,hi,c⟩ _;simp only[A3,gd,rs,iN,ldx,bnx,iax,stx,alx];have X:=qp (f.take i);rw[amL] at X;by_cases Y:(i:Int) < (f.length:Int)
 ·simp only[amG Y,i_t];have t:i < f.length:=om
  have hr:=T f[i] (amR t);obtain⟨p,c1,c2⟩:=ahI s t;rw[aD (c1 w8),aD (c2 w8 (c.hasM 5 rfl))];refine o_rn c λZ w9 c=>?_;refine XU 0 (y:=f[i]) c rfl λz c=>?_;have c:OwnS M.A w z [.cells Z (rnC f[i]) 135,inR cv (Cs.flat (f.take i)),obE m tr k l,obE j ob0 nilS nilS,.cells b3 (w3C a d) 71,secE b2 x vs vk vc,.mem E]:=c;rw[YW,aJ aU (c.cell 0 rfl 0 rfl),XZ,aJ aU (c.cell 0 rfl 1 rfl),Kb,aA om om];refine dW (λW=>OwnS M.A w W [.cells Z (rnC f[i]) 135,inR cv (Cs.flat (f.take i)),obE m tr k l,obE j ob0 nilS nilS,.cells b3 (w3C a d) 71,secE b2 x vs vk vc,.mem E]) c.drew ?_;refine q_do _ (λ_=>YA) ?_;refine q_at (.int .i64 f[i].1) (λW h=>aB aU (h.cell 0 rfl 0 rfl)) ?_;refine mG (obV (Cs.intO f[i].1) nilS nilS) (λW h=>(qN f[i].1 W).mono λv w' ⟨O,P⟩=>⟨O,h.grow P⟩) ?_;refine q_do _ (λ_=>QG) ?_;refine q_at (.int .i64 f[i].2) (λW h=>aB aU (h.cell 0 rfl 1 rfl)) ?_;refine mG (obV (Cs.intO f[i].2) nilS nilS) (λW h=>(qN f[i].2 W).mono λv w' ⟨O,P⟩=>⟨O,h.grow P⟩) ?_;intro Q c;refine akX 1 c rfl om λcv' a1 c=>?_
  try simp only[rs]
  rw[aA om om];refine aY ⟨i+1,cv',?_,om,?_⟩ (by simp[RowKit.intOf];omega)
  ·rw[Jt t,aac];rfl
  ·rw[Jt t,aad];exact c.tail
 simp only[amE Y,i_f];have:i=f.length:=om
 subst this;rw[aoA] at c;rw[l_at (c.agg 3 rfl agg3)];have c:=OwnS.nilU c 25 6;have I:=I f.length;rw[aoA] at I X ⊢;show LoopX [nilS,.int .i64 0] w8 _;refine loop (λvs' W=>∃(i:Nat) (wv:aq),vs'=[wv,.int .i64 (i:Int)]∧i<=3∧OwnS M.A w W [inR wv ([1,a,d].take i),inR cv (Cs.flat f),obE m tr k l,obE j ob0 nilS nilS,.cells b3 (w3C a d) 71,secE b2 x vs vk vc,.mem E]) (λvs _=>3 - n1 vs) ⟨0,nilS,rfl,om,c⟩ ?_;clear c;rintro vs' w9 ⟨i,wv,rfl,hi,c⟩ _;simp only[A9,gd,rs,iN,dx,ldx,bnx,fax,apx,cx];by_cases h3:(i:Int) < 3
 ·simp only[amG h3,i_t];have c4:i < 3:=om
  show DoX ah (mIx 71 (w3V a d) (.int .i64 (i:Int))) w9 (pk K) _;rw[alN c4];refine aL c (qN _ w9) ?_;rintro _ z rfl c;refine aiK 0 c rfl (by rw[amL];omega) λc5 Q c=>?_
  try simp only[rs]
  rw[aA om om];refine aY ⟨i+1,c5,rfl,om,?_⟩ (by simp[n1,RowKit.intOf];omega);have e:([1,a,d]:List Int).take (i+1)=[1,a,d].take i++[([1,a,d]:List Int).getD i 0]:=by
   rcases (by omega:i=0∨i=1∨i=2) with rfl|rfl|rfl<;>rfl
  rw[e];exact c
 simp only[amE h3,i_f];have:i=3:=om
 subst this;have c:OwnS M.A w w9 [inR wv [1,a,d],inR cv (Cs.flat f),obE m tr k l,obE j ob0 nilS nilS,.cells b3 (w3C a d) 71,secE b2 x vs vk vc,.mem E]:=c;refine aL c (iM Cs.mY w9) ?_;rintro _ z rfl c;refine aL c (iM Cs.zK z) ?_;rintro _ Q rfl c;refine aL c (iM Cs.iT Q) ?_;rintro _ a1 rfl c;refine aL c (qN (Cs.size f) a1) ?_;rintro _ c6 rfl c;refine aL c (iM Cs.kW c6) ?_;rintro _ R rfl c;obtain⟨N3,l3,c7,c⟩:=c.bI 5 rfl;have c:OwnS M.A w R [inR cv (Cs.flat f),obE m tr k l,obE j ob0 nilS nilS,.cells b3 (w3C a d) 71,secE b2 x vs vk vc,.mem N3]:=c;obtain⟨N4,l4,c8,c⟩:=c.bI 4 rfl;have c:OwnS M.A w R [obE m tr k l,obE j ob0 nilS nilS,.cells b3 (w3C a d) 71,secE b2 x vs vk vc,.mem N4]:=c;have e6:=ny [1,a,d];have e7:=ny (Cs.flat f);have e8:([1,a,d]:List Int).length=3:=rfl;refine bH c 4 rfl (Ko ([1,a,d].map Cs.intO) wv _ N4 R om (c.hasM 4 rfl) (by rw[anP];exact c7.le l4) (Lk N4 _)) λz1 N5 c9 l5 B c=>?_;obtain⟨a6,a7,e9,rfl,F⟩:=B.open;refine aL c (iM Cs.gD c9) ?_;rintro _ e0 rfl c;refine bH c 4 rfl (Ko ((Cs.flat f).map Cs.intO) cv _ N5 e0 om (c.hasM 4 rfl) (by rw[anP];exact c8.le l5) (Lk N5 _)) λz2 o h0 l6 a8 c=>?_;obtain⟨b0,b1,h4,rfl,G⟩:=a8.open;refine ajU (n:=Cs.size f) c (λnb e1 c=>?_) F.keys.one F.kids.one G.keys.one G.kids.one;have c:=c.toU 6 8 8 rfl om om;have B:=B.le l6;have g:=eJ (eJ (eJ (eJ (eJ (eJ (eJ (oG (iC o 5 0 0 Cs.mY)) (oG (iC o 5 0 0 Cs.zK))) (oG (iC o 5 0 0 Cs.iT))) (oG (iC o 2 (Cs.size f) 0 []))) (oG (iC o 5 0 0 Cs.kW))) (oG B)) (oG (iC o 5 0 0 Cs.gD))) (oG a8);have c:OwnS M.A w e1 [.urow 25 6 (.slice (ax ⟨nb,0,aw⟩) 8 8) 8 (obC (ob1 5 0 0 Cs.mY) nilS nilS++obC (ob1 5 0 0 Cs.zK) nilS nilS++obC (ob1 5 0 0 Cs.iT) nilS nilS++obC (ob1 2 (Cs.size f) 0 []) nilS nilS++obC (ob1 5 0 0 Cs.kW) nilS nilS++obC (.mk 6 0 0 [] [] ([1,a,d].map Cs.intO)) a6 a7++obC (ob1 5 0 0 Cs.gD) nilS nilS++obC (.mk 6 0 0 [] [] ((Cs.flat f).map Cs.intO)) b0 b1),obE m tr k l,obE j ob0 nilS nilS,.cells b3 (w3C a d) 71,secE b2 x vs vk vc,.mem o]:=c;generalize (obC (ob1 5 0 0 Cs.mY) nilS nilS++obC (ob1 5 0 0 Cs.zK) nilS nilS++obC (ob1 5 0 0 Cs.iT) nilS nilS++obC (ob1 2 (Cs.size f) 0 []) nilS nilS++obC (ob1 5 0 0 Cs.kW) nilS nilS++obC (.mk 6 0 0 [] [] ([1,a,d].map Cs.intO)) a6 a7++obC (ob1 5 0 0 Cs.gD) nilS nilS++obC (.mk 6 0 0 [] [] ((Cs.flat f).map Cs.intO)) b0 b1)=b5 at c g;have g:OVs o.A o.w b5 (Cs.row [(Cs.mY,Ff.cE Cs.zK),(Cs.iT,Cs.intO (Cs.size f)),(Cs.kW,Cs.arrO [1,a,d]),(Cs.gD,Cs.arrO (Cs.flat f))]):=g;have b7:=(((l1.trans l2).trans l3).trans l4).trans (l5.trans l6);have e2:OV o.A o.w (obV tr k l) tr:=((((hy.le l2).le l3).le l4).le l5).le l6;have fin:∀{W:ao} {N:Mem} {pv:aq} {ps:List (List UInt8×Ob)} {ds:List aq},ps=Cs.bF x->o.le N->OwnS M.A w W [obE m tr k l,obE j ob0 nilS nilS,.cells b3 (w3C a d) 71,secE b2 x vs vk vc,.mem N]->SlA N.A N.w pv 6 (Cs.row ps).length ds->OVs N.A N.w ds (Cs.row ps)->lM (.pointer (ax ⟨j,0,aw⟩)) (.int .i64 0) (.pointer (ax ⟨m,0,aw⟩)) pv W K:=by
  intro W N pv ps ds he hl c h1 h2;subst he;have c:OwnS M.A w W ([obE m tr k l,obE j ob0 nilS nilS]++([.cells b3 (w3C a d) 71,secE b2 x vs vk vc]++[.mem N])):=c;have c:=c.front.tail.tail;exact agT (S0:=M.A) (b2:=b2) (b3:=b3) (c3:=[]) (x:=x) (vs:=vs) (vk:=vk) (vc:=vc) rfl b9 c0 c (b7.trans hl) (e2.le hl) b8 h1 h2 hK
 refine join λJ hJ=>?_;rw[JF,aJ aU (c.cell 4 rfl 8 rfl)];simp only[rs];by_cases C:0<=x.prev
 ·simp only[amG C,i_t];refine dW (λW=>OwnS M.A w W [.urow 25 6 (.slice (ax ⟨nb,0,aw⟩) 8 8) 8 b5,obE m tr k l,obE j ob0 nilS nilS,.cells b3 (w3C a d) 71,secE b2 x vs vk vc,.mem o]) c.drew ?_;refine mG (obV (Ff.cE Cs.rG) nilS nilS) (λW h=>(iM Cs.rG W).mono λv w' ⟨O,P⟩=>⟨O,h.grow P⟩) ?_;refine q_do _ (λ_=>bE fse3) ?_;refine q_at (.int .i64 x.prev) (λW h=>aB aU (h.cell 4 rfl 8 rfl)) ?_;refine mG (obV (Cs.intO x.prev) nilS nilS) (λW h=>(qN x.prev W).mono λv w' ⟨O,P⟩=>⟨O,h.grow P⟩) ?_;intro h5 c;refine bA (λb=>.slice (ax ⟨b,0,aw⟩) 2 2) (obC (Ff.cE Cs.rG) nilS nilS++intC x.prev) 25 (λ_=>by kernel_rfl) c λh6 h7 c=>?_;refine Q4 1 c rfl (c.sl 0 rfl 6 2 2 rfl) (λu hu=>by rcases anF.1 hu with h|h<;>exact lI _ rfl rfl u h) om λpv h8 c=>?_;have c:=c.tail;obtain⟨N7,l7,S,c⟩:=OwnS.bI (L:=[obE m tr k l,obE j ob0 nilS nilS,.cells b3 (w3C a d) 71,secE b2 x vs vk vc,.mem o]) c 4 rfl;have D:=eJ (g.le l7) (eJ (oG (iC N7 5 0 0 Cs.rG)) (oG (iC N7 2 x.prev 0 [])));refine hJ _ _ λ_=>?_;simp only[gd];exact fin (ps:=[(Cs.mY,Ff.cE Cs.zK),(Cs.iT,Cs.intO (Cs.size f)),(Cs.kW,Cs.arrO [1,a,d]),(Cs.gD,Cs.arrO (Cs.flat f))]++[(Cs.rG,Cs.intO x.prev)]) (by rw[q,amB C]) l7 c S D
 ·simp only[amE C,i_f];obtain⟨N7,l7,S,c⟩:=OwnS.bI (L:=[obE m tr k l,obE j ob0 nilS nilS,.cells b3 (w3C a d) 71,secE b2 x vs vk vc,.mem o]) c 4 rfl;refine hJ _ _ λ_=>?_;simp only[gd];exact fin (ps:=[(Cs.mY,Ff.cE Cs.zK),(Cs.iT,Cs.intO (Cs.size f)),(Cs.kW,Cs.arrO [1,a,d]),(Cs.gD,Cs.arrO (Cs.flat f))]) (by rw[q,amA C];rfl) l7 c S (g.le l7)
end
section
open Eng Go.RowKit
namespace Cs
def inr (o:Ob)(most:Int):Prop:=o.k=2∧0<=o.n∧o.n<=most
instance (o:Ob) (most:Int):Decidable (inr o most):=inferInstanceAs (Decidable (_∧_))
def index:Int->List Ob->Option (List (Int×Int))
|_,[]=>ax []
|_,[_]=>aw
|up,a::b::r=>if inr a 2147483647∧inr b 2147483647∧up<=a.n∧a.n+b.n<=8192 then (index (a.n+b.n) r).map ((a.n,b.n)::·) else aw
theorem L5:∀{l:List Ob} {up:Int},l.length % 2=1->index up l=aw
|[],_,h=>by cases h
|[_],_,_=>rfl
|a::b::r,up,h=>by
  unfold index;rw[L5 (l:=r) (by simp only[amW] at h;omega)];split<;>rfl
end Cs
def upC:PanicEntry:={ v:=.iface 167 (.agg #[]),recovered:=au }
theorem aeV:lL ah 167=true:=krx
theorem aaK (w:ao):Ret ah 157 #[.bool av] w (λv w'=>v=.tuple #[]∧w=w'):=by
 refine aZ λK a=>xN ?_;unfold zQ nz;simp only[rs,aoB,i_f];exact a _ _ ⟨rfl,rfl⟩
theorem abV (w:ao):Pan ah 157 #[.bool au] w (λc w'=>c=[upC]∧w=w'):=by
 refine UQ λK a=>xN ?_;unfold zQ nz;simp only[rs,aoD,i_t];have b:∀{PK:PKT} {K:VWP},DoX ah (aS 167 #[]) w PK K=K (.agg #[]) w:=aD krx;rw[b,Ky aeV,HZ];exact a _ _ ⟨rfl,rfl⟩
section
variable {w:ao}{PK:PKT}{K:VWP}{S:Nat->Prop}{w0:ao}{L:List Ent}
theorem kC (a:q=av->K (.tuple #[]) w)(b:q=au->PK [upC] w):CallX ah 157 #[.bool q] w PK K:=by
 cases q with
|true=>exact c_eq (aaK w) (a rfl)
|false=>exact Y9 (abV w) λc w' ⟨d,hw⟩=>by subst d;subst hw;exact b rfl
theorem Hi {most:Int}(a:OwnS S w0 w L)(e:vk.oneCell'=av)(f:vc.oneCell'=av)(i:0<=most∧most<=2147483647)
  (g:Cs.inr o most->∀W,OwnS S w0 W L->K (.int .i64 o.n) W) (d:¬Cs.inr o most->∀W,OwnS S w0 W L->PK [upC] W):CallX ah 158 #[obV o vk vc,.int .i64 most] w PK K:=by
 refine⟨FU ?_⟩;unfold CE nz;refine iE o e f a λj b a=>?_;rw[fP,ob_k a 0 rfl];simp only[rs];by_cases c:o.k=2
 case neg=>
  simp only[amE c,rs,g_un];exact kC (λh=>by cases h) λ_=>d (λh=>c h.1) b a.tail
 simp only[amG c,rs];rw[IU,ob_n a 0 rfl];simp only[rs];by_cases a2:0<=o.n
 case neg=>
  simp only[amE a2,rs,g_un];exact kC (λh=>by cases h) λ_=>d (λh=>a2 h.2.1) b a.tail
 simp only[amG a2,rs];rw[IU,ob_n a 0 rfl];simp only[rs];refine kC (λh=>?_) λh=>d (λk=>(anO h) k.2.2) b a.tail;rw[IU,ob_n a 0 rfl];exact g ⟨c,a2,amU h⟩ b a.tail
theorem UU (a:OwnS S w0 w L)(c:vk.oneCell'=av)(d:vc.oneCell'=av)
  (e:o.k=6->∀W,OwnS S w0 W L->K vc W) (f:¬o.k=6->∀W,OwnS S w0 W L->PK [upC] W):CallX ah 159 #[obV o vk vc] w PK K:=by
 refine⟨FY ?_⟩;unfold Ct nz;refine iE o c d a λg b a=>?_;rw[fP,ob_k a 0 rfl];simp only[rs];refine kC (λh=>?_) λh=>f (anO h) b a.tail;rw[oQ,fD a 0 rfl];exact e (amU h) b a.tail
theorem Z6 {l:List Ob}(a:OwnS S w0 w (.mem M::L))(b:LsAt M v l cs)(Q:l.length<=1000000000)
  (C:∀ps,Cs.index 0 l=ax ps->∀N pv W,M.le N->SlA N.A N.w pv 2 ps.length (rnsC ps)->OwnS S w0 W (.mem N::L)->K pv W)
  (u:Cs.index 0 l=aw->∀W,OwnS S w0 W (.mem M::L)->PK [upC] W):CallX ah 160 #[v] w PK K:=by
 refine⟨FC ?_⟩;unfold Cm nz;rw[EI b];have hm:(l.length:Int).tmod 2=((l.length % 2:Nat):Int):=by rw[auP om];omega
 rw[KX dc,hm];simp only[rs];refine kC (λhe=>?_) λhe=>u (Cs.L5 (by have:=anO he;omega)) w a;have he:=amU he;have a:=OwnS.nilU a 135 2;have a:OwnS S w0 w (rnsE nilS []::.mem M::L):=a;generalize c:Cs.index 0 l=X at C u;refine loop (λvs W=>∃(i:Nat) (ov:aq) (out:List (Int×Int)) (up:Int),vs=[ov,.int .i64 up,.int .i64 ((2*i:Nat):Int)]∧2*i<=l.length∧(Cs.index up (l.drop (2*i))).map (out++·)=X∧(0<=up∧up<=8192)∧out.length=i∧OwnS S w0 W (rnsE ov out::.mem M::L)) (λvs _=>l.length - (RowKit.intOf (vs.getD 2 undef)).toNat) ⟨0,nilS,[],0,rfl,om,by rw[<-c];cases h:Cs.index 0 l<;>simp[h],om,rfl,a⟩ ?_;clear a c;rintro vs F ⟨i,ov,out,up,rfl,hi,c,G,x,a⟩ _;simp only[wU,gd,iN,dx,bnx,lnx,apx,gtx,etx,cx];rw[EI b];simp only[rs];by_cases f:((2*i:Nat):Int) < (l.length:Int)
 case neg=>
  simp only[amE f,i_f];have:2*i=l.length:=om
  rw[this,List.drop_length,Cs.index] at c;obtain⟨N,hle,H,a⟩:=a.bI 0 rfl;refine C out (by rw[<-c];simp) N ov F hle ?_ a;exact H
 simp only[amG f,i_t];have D:2*i < l.length:=om
 have E:2*i+1 < l.length:=om
 obtain⟨R,T,g,j,k,d,y⟩:=Tg b.sl b.all D;obtain⟨U,V,m,o,p,e,z⟩:=Tg b.sl b.all E;have I:l.drop (2*i)=l[2*i]::l[2*i+1]::l.drop (2*(i+1)):=by
  rw[anX D,anX E,show 2*(i+1)=2*i+1+1 by omega]
 rw[I,Cs.index] at c;have bad:∀{W},¬(Cs.inr l[2*i] 2147483647∧Cs.inr l[2*i+1] 2147483647∧up<=l[2*i].n∧l[2*i].n+l[2*i+1].n<=8192)->OwnS S w0 W (rnsE ov out::.mem M::L)->PK [upC] W:=by
  intro W h a;rw[amA h] at c;exact u (by rw[<-c];rfl) W a.tail
 have a:=a.drew;refine⟨λW=>M.has W,a.hasM 1 rfl,?_⟩;refine aR _ k ?_;refine jH (obV l[2*i] g j) (λW h=>aW (AtV.agg kY (cs:=obC l[2*i] g j) rfl (y W h))) ?_;refine aR (.int .i64 ((2*i+1:Nat):Int)) (λW=>by rw[Iy,aA om om];rfl) ?_;refine aR _ p ?_;refine jH (obV l[2*i+1] m o) (λW h=>aW (AtV.agg kY (cs:=obC l[2*i+1] m o) rfl (z W h))) ?_;refine Hi a d.oneK d.oneC dc (λq w2 a=>?_) (λq W a=>?_)
 rotate_left
 ·repeat refineλ_=>?_
  exact bad (λh=>q h.1) a
 refine⟨a.hasM 1 rfl,?_⟩;refine Hi a e.oneK e.oneC dc (λs w3 a=>?_) (λs W a=>?_)
 rotate_left
 ·repeat refineλ_=>?_
  exact bad (λh=>s h.2.1) a
 refine⟨a.hasM 1 rfl,?_⟩;have J:=q.2;have O:=s.2;simp only[rs];by_cases t:up<=l[2*i].n
 case neg=>
  simp only[amE t,rs,g_un];exact kC (λh=>by cases h) λ_=>bad (λh=>t h.2.2.1) a
 simp only[amG t,rs];rw[aA om om];refine kC (λa2=>?_) λa2=>bad (λh=>(anO a2) h.2.2.2) a;have a2:=amU a2;rw[amB ⟨q,s,t,a2⟩] at c;have P:∀{PK:PKT} {K:VWP},DoX ah (aS 135 #[(0,.int .i64 l[2*i].n),(1,.int .i64 l[2*i+1].n)]) w3 PK K=K (rnV (l[2*i].n,l[2*i+1].n)) w3:=aD krx;rw[P];refine XX 0 a rfl om λB Y a=>?_
 try simp only[rs]
 rw[aA om om];refine aY ⟨i+1,B,out++[(l[2*i].n,l[2*i+1].n)],l[2*i].n+l[2*i+1].n,by rw[show ((2*i:Nat):Int)+2=((2*(i+1):Nat):Int) by omega],om,?_,om,by rw[amC,x];rfl,a⟩ (by simp[RowKit.intOf];omega);rw[<-c];cases Cs.index (l[2*i].n+l[2*i+1].n) (l.drop (2*(i+1))) with
|none=>rfl
|some r=>simp
end
end
section
open Eng Go.RowKit
namespace Cs
def why (x:Sec):Int:=
 if Tl.check x.aG≠0 then Tl.check x.aG
 else if x.own < 1∨8191 < x.own∨x.prev < -1∨2147483647 < x.prev then 1
 else if Vl.check 1 x.trailer≠0 then Vl.check 1 x.trailer
 else if x.trailer.k≠7 then 10 else if (dict x).2≠0 then (dict x).2 else 0
def IJ (x:Sec)(i:It)(e:Int):Prop:=
 if why x≠0 then i=Dk.it0∧e=why x
 else ∃D,Ff.OneR Ff.nFl (pm x.aG) (rows x.aG) D 0∧e=(Ff.encF (dict x).1 (pm x.aG) D).2∧i=if (Ff.encF (dict x).1 (pm x.aG) D).2≠0 then Dk.it0 else ⟨x.own,0,(Ff.encF (dict x).1 (pm x.aG) D).1⟩
theorem R6 (l:List Slt)(s:Slt)(a b:Nat):tE (l++[s]) a b=tE l a b++mV s a b:=by unfold tE;rw[apL,aqM]
end Cs
theorem Jx :DoX ah (mFA 63 (.pointer (ax ⟨b,0,aw⟩)) 5) w PK K=K (.pointer (ax ⟨b,10,aw⟩)) w:=aO fse5
theorem WC {off:Nat}(hi:i < 3):(mIA 71 (.pointer (ax ⟨b,off,aw⟩)) (.int .i64 (i:Int))).run ah w=.ok (.value (.pointer (ax ⟨b,off+i,aw⟩))) w:=by
 rcases (by omega:i=0∨i=1∨i=2) with rfl|rfl|rfl<;>kernel_rfl
theorem m_k3 {k b:Int}:DoX ah (aS 71 #[(0,.int .i64 k),(1,.int .i64 a),(2,.int .i64 b)]) w PK K=K (.agg #[.int .i64 k,.int .i64 a,.int .i64 b]) w:=aD krx
theorem ahX {k b:Int}(hi:i < 3):DoX ah (mIx 71 (.agg #[.int .i64 k,.int .i64 a,.int .i64 b]) (.int .i64 (i:Int))) w PK K=K (.int .i64 ([k,a,b].getD i 0)) w:=by
 rcases (by omega:i=0∨i=1∨i=2) with rfl|rfl|rfl<;>exact aD krx
theorem GV (x:Sec)(vs vk vc:aq)(M:Mem)(w:ao)(c4:Pws M)(hb:x.aG.length<=8192)(hw:x.trailer.wt<=10000000)(hM:M.has w)
  (u:SlA M.A M.w vs 4 x.aG.length (slsC x.aG)) (U:OV M.A M.w (obV x.trailer vk vc) x.trailer) :
  RetM ah 38 #[secV x vs vk vc] M w (λr N=>∃i e Z ic,r=.tuple #[itV i Z ic,.int .i64 e]∧Cs.IJ x i e∧OV N.A N.w (obV i.obj Z ic) i.obj):=by
 refine bB hM λK hK=>HT ?_;unfold Fc nz;refine Xq x u.one U.oneK U.oneC (OwnS.memS hM) λl w1 c=>?_;refine Wa c λb2 w2 c=>?_;have no:∀{W:ao} {N:Mem} {L:List Ent} {e:Int},OwnS M.A w W (itE b2 Dk.it0 nilS nilS::.mem N::L)->M.le N->Cs.why x=e->e≠0->DoX ah (aS 57 #[]) W (pk K) (λt W=>DoX ah (aN 57 (.pointer (ax ⟨b2,0,aw⟩)) t) W (pk K) λ_ W=>RetX ah [.cell (.pointer (ax ⟨b2,0,aw⟩)) 57,.val (.int .i64 e)] W K):=by
  intro W N L e c hle he c5;rw[agG];refine Jn 0 (i':=Dk.it0) rfl rfl c rfl λw4 c=>?_;refine wB (bJ (c.agg 0 rfl OR)) vS (hK _ _ N _ 1 c rfl hle ⟨Dk.it0,e,nilS,nilS,rfl,?_,vB N⟩);unfold Cs.IJ;rw[he,amB c5];exact⟨rfl,rfl⟩
 have c:OwnS M.A w w2 [itE b2 Dk.it0 nilS nilS,secE l x vs vk vc,.mem M]:=c;have swp:∀{W:ao} {N:Mem},OwnS M.A w W [itE b2 Dk.it0 nilS nilS,secE l x vs vk vc,.mem N]->OwnS M.A w W (itE b2 Dk.it0 nilS nilS::.mem N::[secE l x vs vk vc]):=λc=>by
  have c:OwnS M.A w _ ([itE b2 Dk.it0 nilS nilS]++([secE l x vs vk vc]++[.mem _])):=c;exact (OwnS.perm c (auU _ (asB)))
 rw[C6,Ll c 1 rfl];refine aL c (R:=λv=>v=.int .i64 (Tl.check x.aG)) (JN x.aG vs M w2 om (c.hasM 2 rfl) u) ?_;rintro _ w3 rfl c;have m:=Cs.why.eq_1 x;simp only[eN];by_cases hc:Tl.check x.aG=0
 case neg=>
  rw[amB hc] at m;simp only[amG (show Tl.check x.aG≠0 from hc),i_t];exact no (swp c) M.le_refl m hc
 rw[amA (λh=>h hc)] at m;simp only[hc,show ai ((0:Int)≠0)=au from rfl,i_f];rw[Jx,aJ aU (c.cell 1 rfl 10 rfl)];simp only[rs];have bad:x.own < 1∨8191 < x.own∨x.prev < -1∨2147483647 < x.prev->Cs.why x=1:=λh=>by rw[m,amB h]
 by_cases a1:x.own < 1
 ·simp only[amG a1,rs,g_un,i_t];exact no (swp c) M.le_refl (bad (.inl a1)) dc
 simp only[amE a1,rs];rw[Jx,aJ aU (c.cell 1 rfl 10 rfl)];simp only[rs];by_cases a2:8191 < x.own
 ·simp only[amG a2,rs,g_un,i_t];exact no (swp c) M.le_refl (bad (.inr (.inl a2))) dc
 simp only[amE a2,rs];rw[JF,aJ aU (c.cell 1 rfl 8 rfl)];simp only[rs];by_cases a3:x.prev < -1
 ·simp only[amG a3,rs,g_un,i_t];exact no (swp c) M.le_refl (bad (.inr (.inr (.inl a3)))) dc
 simp only[amE a3,rs];rw[JF,aJ aU (c.cell 1 rfl 8 rfl)];simp only[rs];by_cases a4:2147483647 < x.prev
 ·simp only[amG a4,rs,i_t];exact no (swp c) M.le_refl (bad (.inr (.inr (.inr a4)))) dc
 simp only[amE a4,rs,i_f];rw[amA (by rintro (h|h|h|h);exact a1 h;exact a2 h;exact a3 h;exact a4 h)] at m;rw[LQ,aaO c 1 rfl];refine aL c (R:=λv=>v=.int .i64 (Vl.check 1 x.trailer)) (jB x.trailer _ w3 (OV.inw (c.hasM 2 rfl) U) om) ?_;rintro _ w4 rfl c;simp only[eN];by_cases hk:Vl.check 1 x.trailer=0
 case neg=>
  rw[amB hk] at m;simp only[amG (show Vl.check 1 x.trailer≠0 from hk),i_t];exact no (swp c) M.le_refl m hk
 rw[amA (λh=>h hk)] at m;simp only[hk,show ai ((0:Int)≠0)=au from rfl,i_f];rw[LQ,fP,YZ c 1 rfl];simp only[rs];by_cases h7:x.trailer.k=7
 case neg=>
  rw[amB h7] at m;simp only[amG (show x.trailer.k≠7 from h7),i_t];exact no (swp c) M.le_refl m dc
 rw[amA (λh=>h h7)] at m;simp only[amE (show ¬x.trailer.k≠7 fromλh=>h h7),i_f];rw[C6,Ll c 1 rfl];refine bH c 2 rfl (Hn x.aG vs M w4 om (c.hasM 2 rfl) u) ?_;rintro _ N1 w5 l1 rfl c;refine o_w3 c λf w6 c=>?_;refine X1 0 rfl c rfl λw7 c=>?_;have c:OwnS M.A w w7 [.cells f (w3C (Cs.wa x.aG:Nat) (Cs.wb x.aG:Nat)) 71,itE b2 Dk.it0 nilS nilS,secE l x vs vk vc,.mem N1]:=c;rw[se_v c 2 rfl,l_at (c.agg 0 rfl agg3)];have c6:=Tl.GJ hc;have j0:=Cs.Pz x.trailer;refine bH c 3 rfl (Sx x vs vk vc N1 w7 hb (Xp hc) (λr hr=>by have:=c6 r hr;omega) om om (c.hasM 3 rfl) (u.le l1) (U.le l1)) ?_;have F:=@Cs.M1 x;have a6:(Cs.dict x).1.wt<=100000000:=by
  have hp:=(Cs.La x (by have:=Tl.CN x.aG;omega));have h:=Cs.GG (Cs.bF x) (Cs.sV x.trailer) 100000 hp.1;have h2:(100000+11)*(Cs.bF x).length<=(100000+11)*5:=atV _ hp.2;unfold Cs.dict;omega
 have V:=Cs.IJ.eq_1 x;generalize Cs.dict x=P at m F a6 V;obtain⟨o,pe⟩:=P;dsimp only at m F a6 V;rintro _ T w8 l2 ⟨ov,rfl,a7⟩ c;obtain⟨ok,z,j1,rfl,a8⟩:=a7.open;dsimp only at a8 a7;simp only[errV,ex];refine fK c λs w9 c=>?_;refine bK 0 a8.keys.one a8.kids.one c rfl λc7 c=>?_;have c:OwnS M.A w c7 [obE s o ok z,.cells f (w3C (Cs.wa x.aG:Nat) (Cs.wb x.aG:Nat)) 71,itE b2 Dk.it0 nilS nilS,secE l x vs vk vc,.mem T]:=c;simp only[eN];by_cases B:pe=0
 case neg=>
  rw[amB B] at m;simp only[amG (show pe≠0 from B),i_t];exact no (swp c.tail.tail) (l1.trans l2) m B
 rw[amA (λh=>h B)] at m;simp only[amE (show ¬pe≠0 fromλh=>h B),i_f];have F:=F B;rw[C6,Ll c 3 rfl,bD apT (((u.le l1).le l2).now (c.hasM 4 rfl))];have b5:=(u.le l1).le l2;have c8:=Cs.Mc x.aG;have c9:=Cs.MQ x.aG;have b8:∀i,(Cs.tE (x.aG.take i) (Cs.wa x.aG) (Cs.wb x.aG)).length<=8192*9:=by
  intro i;rw[Cs.tC];exact apM (by rw[amL];omega) om
 have b9:pmV (Cs.pm x.aG)=.agg #[.int .i64 12,.int .i64 1,.int .i64 (1+(Cs.wa x.aG:Nat)+(Cs.wb x.aG:Nat))]:=rfl;have G:Cs.rows x.aG=Cs.tE x.aG (Cs.wa x.aG) (Cs.wb x.aG):=rfl;generalize h0:Cs.wa x.aG=a at *;generalize h8:Cs.wb x.aG=d at *;have c:=OwnS.nilU c 5 1;refine loop (λvs' W=>∃(i:Nat) (ov:aq),vs'=[ov,.int .i64 (i:Int)]∧i<=x.aG.length∧OwnS M.A w W [outR ov (Cs.tE (x.aG.take i) a d),obE s o ok z,.cells f (w3C a d) 71,itE b2 Dk.it0 nilS nilS,secE l x vs vk vc,.mem T]) (λvs _=>x.aG.length - n1 vs) ⟨0,nilS,rfl,om,c⟩ ?_;clear c;rintro vs' n ⟨i,ov,rfl,hi,c⟩ _;simp only[AP,gd,rs,nz];by_cases c0:(i:Int) < (x.aG.length:Int)
 ·simp only[amG c0,i_t];have c1:i < x.aG.length:=om
  obtain⟨g,off,hr⟩:=oR b5 c1;obtain⟨r1,r2⟩:=hr n (c.hasM 5 rfl);refine aD r1 |>.mpr (aD (xC r2) |>.mpr ?_);refine Im c λj2 e0 c=>?_;refine Fe (y:=x.aG[i]) 0 c rfl λb0 c=>?_;rw[Hr,aJ aU (c.cell 0 rfl 1 rfl),JD,aJ aU (c.cell 0 rfl 2 rfl),JQ,aJ aU (c.cell 0 rfl 3 rfl),m_k3];have c:OwnS M.A w b0 [outR ov (Cs.tE (x.aG.take i) a d),obE s o ok z,.cells f (w3C a d) 71,itE b2 Dk.it0 nilS nilS,secE l x vs vk vc,.mem T]:=c.tail;have e1:=b8 i;generalize hq:Cs.tE (x.aG.take i) a d=q at c e1;have b3:Cs.tE (x.aG.take (i+1)) a d=q++Cs.mV x.aG[i] a d:=by rw[Et c1,Cs.R6,hq]
  refine loop (λvs' W=>∃(j:Nat) (ov:aq),vs'=[ov,.int .i64 (j:Int)]∧j<=3∧OwnS M.A w W [outR ov (q++(if 0 < j then Cs.num x.aG[i].kind 1 else [])++(if 1 < j then Cs.num x.aG[i].a a else [])++(if 2 < j then Cs.num x.aG[i].b d else [])),obE s o ok z,.cells f (w3C a d) 71,itE b2 Dk.it0 nilS nilS,secE l x vs vk vc,.mem T]) (λvs _=>3 - n1 vs) ⟨0,ov,rfl,om,by simpa using c⟩ ?_;clear c;rintro vs' C ⟨j,H,rfl,hj,c⟩ _;simp only[Bp,gd,rs,nz];by_cases h3:(j:Int) < 3
  ·simp only[amG h3,i_t];have c2:j < 3:=om
   rw[ahX c2,aD (WC c2)];rcases (by omega:j=0∨j=1∨j=2) with rfl|rfl|rfl
   ·have c:OwnS M.A w C (outR H q::[obE s o ok z,.cells f (w3C a d) 71,itE b2 Dk.it0 nilS nilS,secE l x vs vk vc,.mem T]):=by simpa using c
    rw[aJ aU (c.cell 2 rfl 0 rfl)];refine Hd (wd:=1) c dc om λI J c=>?_
    try simp only[rs]
    exact aY ⟨1,I,rfl,om,by simpa using c⟩ (by show (2:Nat) < 3;decide)
   ·have c:OwnS M.A w C (outR H (q++Cs.num x.aG[i].kind 1)::[obE s o ok z,.cells f (w3C a d) 71,itE b2 Dk.it0 nilS nilS,secE l x vs vk vc,.mem T]):=by simpa using c
    rw[aJ aU (c.cell 2 rfl 1 rfl)];refine Hd (wd:=a) c c8 (by rw[amC,Cs.jJ];omega) λI J c=>?_
    try simp only[rs]
    exact aY ⟨2,I,rfl,om,by simpa using c⟩ (by show (1:Nat) < 2;decide)
   ·have c:OwnS M.A w C (outR H (q++Cs.num x.aG[i].kind 1++Cs.num x.aG[i].a a)::[obE s o ok z,.cells f (w3C a d) 71,itE b2 Dk.it0 nilS nilS,secE l x vs vk vc,.mem T]):=by simpa using c
    rw[aJ aU (c.cell 2 rfl 2 rfl)];refine Hd (wd:=d) c c9 (by rw[amC,amC,Cs.jJ,Cs.jJ];omega) λI J c=>?_
    try simp only[rs]
    exact aY ⟨3,I,rfl,om,by simpa using c⟩ (by show (0:Nat) < 1;decide)
  simp only[amE h3,i_f];have:j=3:=om
  subst this;have c:OwnS M.A w C [outR H (q++Cs.mV x.aG[i] a d),obE s o ok z,.cells f (w3C a d) 71,itE b2 Dk.it0 nilS nilS,secE l x vs vk vc,.mem T]:=by
   have e:q++Cs.mV x.aG[i] a d=q++Cs.num x.aG[i].kind 1++Cs.num x.aG[i].a a++Cs.num x.aG[i].b d:=by unfold Cs.mV;rw[amM,amM,amM]
   rw[e];simpa using c
  try simp only[rs]
  rw[aA om om];refine aY ⟨i+1,H,rfl,om,?_⟩ (by simp[n1,RowKit.intOf];omega);rw[b3];exact c
 simp only[amE c0,i_f];have:i=x.aG.length:=om
 subst this;rw[aoA] at c;have e2:=b8 x.aG.length;rw[aoA] at e2;have ia:∀(i:Nat) {W:ao},i < 3->∀{PK:PKT} {K:VWP},DoX ah (mIA 71 (.pointer (ax ⟨f,0,aw⟩)) (.int .i64 (i:Int))) W PK K=K (.pointer (ax ⟨f,0+i,aw⟩)) W:=λi _ h=>aD (WC h);rw[show DoX ah (mIA 71 (.pointer (ax ⟨f,0,aw⟩)) (.int .i64 0)) n (pk K)=λY=>Y (.pointer (ax ⟨f,0+0,aw⟩)) n from funext λY=>ia 0 dc];dsimp only;rw[aJ aU (c.cell 2 rfl 0 rfl)];rw[show DoX ah (mIA 71 (.pointer (ax ⟨f,0,aw⟩)) (.int .i64 1)) n (pk K)=λY=>Y (.pointer (ax ⟨f,0+1,aw⟩)) n from funext λY=>ia 1 dc];dsimp only;rw[aJ aU (c.cell 2 rfl 1 rfl),Kb,aA om om];rw[show DoX ah (mIA 71 (.pointer (ax ⟨f,0,aw⟩)) (.int .i64 2)) n (pk K)=λY=>Y (.pointer (ax ⟨f,0+2,aw⟩)) n from funext λY=>ia 2 dc];dsimp only;rw[aJ aU (c.cell 2 rfl 2 rfl),Kb,aA om om];have c3:∀{W:ao} {PK:PKT} {K:VWP},DoX ah (aS 27 #[(0,.int .i64 12),(1,.int .i64 1),(2,.int .i64 (1+(a:Int)+(d:Int)))]) W PK K=K (pmV (Cs.pm x.aG)) W:=by
  intro W PK K;rw[b9];exact aD krx
 rw[c3];have e3:=Cs.aiL x.aG;have e4:=Cs.pm_I x.aG;have b4:=Cs.Gj hb;have e5:=Cs.F9 hb;have h9:=Cs.ZT x.aG;rw[G] at b4 e5;simp only[m,G] at V;generalize Cs.pm x.aG=p at *;generalize Cs.tE x.aG a d=data at *;refine bA (λb=>.pointer (ax ⟨b,0,aw⟩)) (pmC ⟨0,0,0⟩) 27 (λ_=>by kernel_rfl) c λE e0 c=>?_;refine gX 0 c rfl (new:=pmC p) szPm Ic rfl λb0 c=>?_;have c:OwnS M.A w b0 [pmE E p,outR ov data,obE s o ok z,.cells f (w3C a d) 71,itE b2 Dk.it0 nilS nilS,secE l x vs vk vc,.mem T]:=c;rw[ob_v c 2 rfl];refine Nc Ff.nFl c λnb C c=>?_;obtain⟨N3,l3,b3,c⟩:=OwnS.bI (L:=[pmE E p,outR ov data,obE s o ok z,.cells f (w3C a d) 71,itE b2 Dk.it0 nilS nilS,secE l x vs vk vc,.mem T]) (c.toU 1 1 1 rfl om om) 6 rfl;have c:OwnS M.A w C [pmE E p,outR ov data,obE s o ok z,.cells f (w3C a d) 71,itE b2 Dk.it0 nilS nilS,secE l x vs vk vc,.mem N3]:=c;rw[pm_v c 0 rfl];refine bA (λb=>.slice (ax ⟨b,0,aw⟩) 1 1) (pmC p) 27 (λ_=>by kernel_rfl) c λj3 J c=>?_;obtain⟨N4,l4,e6,c⟩:=OwnS.bI (L:=[pmE E p,outR ov data,obE s o ok z,.cells f (w3C a d) 71,itE b2 Dk.it0 nilS nilS,secE l x vs vk vc,.mem N3]) (c.toU 3 1 1 rfl om om) 6 rfl;have c:OwnS M.A w J [pmE E p,outR ov data,obE s o ok z,.cells f (w3C a d) 71,itE b2 Dk.it0 nilS nilS,secE l x vs vk vc,.mem N4]:=c;rw[KA anD aoK amP (yO (c.at_ 1 rfl))];have O:=(((l1.trans l2).trans l3).trans l4);refine bH c 6 rfl (Vt o _ Ff.nFl p _ _ data N4 J (c4.le O) (.inr F) dc e3 e4 b4 om a6 (λD hD=>?_) (c.hasM 6 rfl) ((a7.le l3).le l4) (b3.le l4) e6) ?_
 ·unfold Ff.OneR at hD;rw[amA dc,amB dc,amB b4] at hD;have:=Ff.Qh o D;omega
 rintro _ N5 j4 l5 ⟨D,rv,hD,rfl,X⟩ c;have hX:∀(W:ao) (N:Mem) (L:List Ent) (i:Nat) (it:It) (e:Int) (Z ic:aq),OwnS M.A w W L->L[i]?=ax (.mem N)->M.le N->e=(Ff.encF o p D).2->it=(if (Ff.encF o p D).2≠0 then Dk.it0 else ⟨x.own,0,(Ff.encF o p D).1⟩)->OV N.A N.w (obV it.obj Z ic) it.obj->K (.returned (.tuple #[itV it Z ic,.int .i64 e])) W:=λW N L i it e Z ic h1 h2 h3 h4 h5 h6=>
  hK _ W N L i h1 h2 h3 ⟨it,e,Z,ic,rfl,by rw[V,amA (λh=>h rfl)];exact⟨D,hD,h4,h5⟩,h6⟩
 generalize Ff.encF o p D=R at X hX;obtain⟨y,ye⟩:=R;obtain⟨yk,yc,j5,rfl,Q⟩:=X.open;dsimp only at Q X hX;simp only[errV,ex];refine bK 2 Q.keys.one Q.kids.one c rfl λe7 c=>?_;have c:OwnS M.A w e7 [pmE E p,outR ov data,obE s y yk yc,.cells f (w3C a d) 71,itE b2 Dk.it0 nilS nilS,secE l x vs vk vc,.mem N5]:=c;simp only[eN];by_cases S:ye=0
 case neg=>
  simp only[amG (show ye≠0 from S),i_t];rw[agG];refine Jn 4 (i':=Dk.it0) rfl rfl c rfl λe8 c=>?_;refine wB (bJ (c.agg 4 rfl OR)) vS (hX _ N5 _ 6 Dk.it0 ye nilS nilS c rfl (O.trans l5) rfl (by rw[amB S]) (vB N5))
 simp only[amE (show ¬ye≠0 fromλh=>h S),i_f];rw[Jx,aJ aU (c.cell 5 rfl 10 rfl),ob_v c 2 rfl];have e9:∀{W:ao} {PK:PKT} {K:VWP},DoX ah (aS 57 #[(0,.int .i64 x.own),(2,obV y yk yc)]) W PK K=K (itV ⟨x.own,0,y⟩ yk yc) W:=aD krx;rw[e9];refine Jn 4 (i':=⟨x.own,0,y⟩) Q.keys.one Q.kids.one c rfl λe8 c=>?_;exact wB (bJ (c.agg 4 rfl OR)) vS (hX _ N5 _ 6 ⟨x.own,0,y⟩ 0 yk yc c rfl (O.trans l5) S.symm (by rw[amA (λh=>h S)]) X)
end
section
open Eng Go.RowKit
structure Stm where
 w:List Int
 bF:List (Int×Int)
 prev:Int
namespace Cs
def got (o:Ob)(k:List UInt8):Ob:=(Vl.get o k).getD Vl.ob0
def uK (o:Ob):Option (List (Int×Int)):=match Vl.get o gD with|none=>ax [(0,(got o iT).n)]|some v=>if v.k=6 then index 0 v.kids else aw
def Ew (o:Ob):Option Int:=match Vl.get o rG with|none=>ax (-1)|some v=>if inr v 2147483647 then ax v.n else aw
def isX (o:Ob):Prop:=o.k=9∧((got o mY).k=5∧(got o mY).s=zK)∧inr (got o iT) 8192∧(got o kW).k=6∧(got o kW).kids.length=3∧∀x∈(got o kW).kids,inr x 4
instance (o:Ob):Decidable (isX o):=inferInstanceAs (Decidable (_∧_))
def keys (o:Ob):Option Stm:=
 if isX o then (uK o).bind λp=>(Ew o).map λq=>⟨(got o kW).kids.map Ob.n,p,q⟩ else aw
def ws (l:List Int)(i:Nat):List Int:=l.take i++List.replicate (3 - i) 0
theorem MZ {k:List UInt8}:(got o k).wt<=o.wt:=Vl.Yf
end Cs
def stmC (x:Stm)(pv:aq):List Value:=x.w.map (.int .i64 ·)++[pv,.int .i64 x.prev]
def stmV (x:Stm)(pv:aq):Value:=.agg (stmC x pv).toArray
abbrev stmE (b:Nat)(x:Stm)(pv:aq):Ent:=.cells b (stmC x pv) 118
def stm0:Stm:=⟨[0,0,0],[],0⟩
theorem Zg {l:List Int}{ps:List (Int×Int)}{q:Int}(h:l.length=3)(hi:i < l.length):(stmC ⟨Cs.ws l i,ps,q⟩ pv).set (0+i) (.int .i64 l[i])=stmC ⟨Cs.ws l (i+1),ps,q⟩ pv:=by
 match l,h with
|[a,b,c],_=>rcases (by have:i < 3:=hi;omega:i=0∨i=1∨i=2) with rfl|rfl|rfl<;>rfl
theorem ws3 {l:List Int}(h:l.length=3):Cs.ws l 3=l∧∀i,(Cs.ws l i).length=3∨3 < i:=by
 match l,h with
|[a,b,c],_=>exact⟨rfl,λi=>by
   rcases (by omega:i=0∨i=1∨i=2∨i=3∨3 < i) with rfl|rfl|rfl|rfl|h
   ·exact .inl rfl
   ·exact .inl rfl
   ·exact .inl rfl
   ·exact .inl rfl
   ·exact .inr h⟩
theorem Yd {l:List Int}{ps ps':List (Int×Int)}{q:Int}{d:aq}(h:l.length=3):(stmC ⟨l,ps,q⟩ pv).set 3 d=stmC ⟨l,ps',q⟩ d:=by
 match l,h with
|[a,b,c],_=>rfl
theorem Wc {l:List Int}{ps:List (Int×Int)}{q d:Int}(h:l.length=3):(stmC ⟨l,ps,q⟩ pv).set 4 (.int .i64 d)=stmC ⟨l,ps,d⟩ pv:=by
 match l,h with
|[a,b,c],_=>rfl
theorem qZ {x:Stm}(h:x.w.length=3):(stmC x pv).length=5:=by unfold stmC;rw[amC,anP,h];rfl
theorem WV {x:Stm}(h:pv.oneCell'=av):∀v∈stmC x pv,v.oneCell'=true:=by
 intro v a;rcases anF.1 a with a|a
 ·obtain⟨n,_,rfl⟩:=anK.1 a;rfl
 ·simp only[amH,anW,or_false] at a;rcases a with rfl|rfl
  ·exact h
  ·rfl
theorem Sw {x:Stm}(h:x.w.length=3):(stmC x pv)[3]?=ax pv∧(stmC x pv)[4]?=ax (.int .i64 x.prev)∧∀i (hi:i < x.w.length),(stmC x pv)[i]?=ax (.int .i64 x.w[i]):=by
 obtain⟨l,ps,q⟩:=x
 match l,h with
|[a,b,c],_=>
  refine⟨rfl,rfl,λi hi=>?_⟩;rcases (by have:i < 3:=hi;omega:i=0∨i=1∨i=2) with rfl|rfl|rfl<;>rfl
theorem SM:aggN ah 118=ax 5:=krx
theorem aiU:(Tryz.prog.info? 118).map (·.size)=ax 5:=krx
theorem fst0:fOff ah 118 0=ax 0:=krx
theorem fst1:fOff ah 118 1=ax 3:=krx
theorem fst2:fOff ah 118 2=ax 4:=krx
theorem nRns:eD ah 116=true:=krx
section
variable {w:ao}{PK PK2 PK3 PK4 PK5 PK6:PKT}{K:VWP}{S:Nat->Prop}{w0:ao}{L:List Ent}
theorem Y4 :DoX ah (mFA 118 (.pointer (ax ⟨b,0,aw⟩)) 0) w PK K=K (.pointer (ax ⟨b,0,aw⟩)) w:=aO fst0
theorem TJ :DoX ah (mFA 118 (.pointer (ax ⟨b,0,aw⟩)) 1) w PK K=K (.pointer (ax ⟨b,3,aw⟩)) w:=aO fst1
theorem YN :DoX ah (mFA 118 (.pointer (ax ⟨b,0,aw⟩)) 2) w PK K=K (.pointer (ax ⟨b,4,aw⟩)) w:=aO fst2
theorem TG (a:OwnS S w0 w L)(k:∀b w',OwnS S w0 w' (stmE b stm0 nilS::L)->K (.pointer (ax ⟨b,0,aw⟩)) w'):DoX ah (iH 118) w PK K:=
 bA (λb=>.pointer (ax ⟨b,0,aw⟩)) (stmC stm0 nilS) 118 (λ_=>by kernel_rfl) a k
theorem aiJ:DoX ah (aS 118 #[(2,.int .i64 (-1))]) w PK K=K (stmV ⟨[0,0,0],[],-1⟩ nilS) w:=aD krx
theorem NM (j:Nat){c:List aq}{x:Stm}(d:x.w.length=3)(hp:pv.oneCell'=av)(g:c.length=5)(a:OwnS S w0 w L)(hi:L[j]?=ax (.cells b c 118))(k:∀w',OwnS S w0 w' (L.set j (stmE b x pv))->K undef w') :
  DoX ah (aN 118 (.pointer (ax ⟨b,0,aw⟩)) (stmV x pv)) w PK K:=by
 have f:=qZ (pv:=pv) d;refine xR j a hi (new:=stmC x pv) (by rw[f];exact aiU) (WV hp) om λw' a=>k w' ?_;have e:c.take 0++stmC x pv++c.drop (0+(stmC x pv).length)=stmC x pv:=by
  rw[aoF om];simp
 rw[e] at a;exact a
theorem Ml {K:aq->VWP}{d:Nat}{e f:Ent}(a:OwnS S w0 w (e::f::obE d o vk vc::.mem M::L))(hw:o.wt<=100000000000)(j:OV M.A M.w (obV o vk vc) o)
  (k:∀N b h i W,M.le N->OV N.A N.w (obV (Cs.got o key) h i) (Cs.got o key)->OwnS S w0 W (obE b (Cs.got o key) h i::e::f::obE d o vk vc::.mem N::L)->K (.pointer (ax ⟨b,0,aw⟩)) (.bool (Vl.get o key).isSome) W) :
  DoX ah (aH 25 (.pointer (ax ⟨d,0,aw⟩))) w PK λt w=>CallX ah 146 #[t,.string ⟨key.toArray⟩] w PK2 λr w=>DoX ah (mExt r 0) w PK3 λx w=>DoX ah (mExt r 1) w PK4 λg w=>
   DoX ah (iH 25) w PK5 λp w=>DoX ah (aN 25 p x) w PK6 λ_ w=>K p g w:=by
 rw[ob_v a 2 rfl];refine bH a 3 rfl (zX o _ key M w hw (a.hasM 3 rfl) j) ?_;rintro _ N w2 hle ⟨t,rfl,c⟩ a;obtain⟨l,m,rfl,c⟩:=HO c;simp only[getV,ex];refine fK a λn s a=>?_;refine bK 0 c.oneK c.oneC a rfl λq a=>?_;exact k N n l m q hle c a
end
end
section
open Go Eng
namespace Vl
theorem Pw (a:keyed o=av)(k:List UInt8):get o k=lk k o.keys o.kids:=by
 unfold get;rw[amB a,Xo]
theorem Db {key k:List UInt8}(h:k≠key):∀(b:List (List UInt8)) (cs:List Ob),lk k (eM key b cs).1 (eM key b cs).2=lk k b cs
|[],cs=>by cases cs<;>rfl
|a::b,[]=>rfl
|a::b,c::cs=>by
  have d:=Db h b cs;unfold eM;split
  ·rename_i e
   rw[d,lk,amA (λf=>h (by rw[<-f,e]))]
  ·rw[lk,lk,d]
theorem Og {k:List UInt8}{v:Ob}(h:(set o k v).2=0)(d:v.k≠0):set o k v=(put o k v,0)∧keyed o=av∧check 1 o=0∧check 1 (put o k v)=0:=by
 unfold set at h ⊢;by_cases c:keyed o=au
 ·rw[amB c] at h;cases h
 rw[amA c] at h ⊢;by_cases a:check 1 o≠0
 ·rw[amB a] at h;exact absurd h a
 rw[amA a,amA d] at h ⊢;unfold right at h ⊢;by_cases b:check 1 (put o k v)≠0
 ·rw[amB b] at h;exact absurd h b
 rw[amA b];exact⟨rfl,by cases h:keyed o<;>simp_all,apJ.1 a,apJ.1 b⟩
end Vl
namespace Cs
theorem LP:∀{l:List (List UInt8×Ob)} {o:Ob},(mE o l).2=0->(∀p∈l,p.2.k≠0)->(l.map (·.1)).Nodup->l≠[] ->
  Vl.keyed (mE o l).1=av∧Vl.check 1 (mE o l).1=0∧(∀p∈l,Vl.get (mE o l).1 p.1=ax p.2)∧∀k,k ∉ l.map (·.1)->Vl.get (mE o l).1 k=Vl.get o k
|[],_,_,_,_,h=>absurd rfl h
|p::r,o,h,j,c,_=>by
  unfold mE at h ⊢;by_cases d:(Vl.set o p.1 p.2).2≠0
  ·rw[amB d] at h;exact absurd h d
  rw[amA d] at h ⊢;obtain⟨e,a,u,f⟩:=Vl.Og (apJ.1 d) (j p (anQ ..));rw[e] at h ⊢;dsimp only at h ⊢;have m:=(Vl.lH u a).2;have g:Vl.keyed (Vl.put o p.1 p.2)=true:=a;have c:p.1 ∉ r.map (·.1)∧(r.map (·.1)).Nodup:=by simpa using c
  have n:=Vl.OS (key:=p.1) (v:=p.2) a m;have s:∀k,p.1≠k->Vl.get (Vl.put o p.1 p.2) k=Vl.get o k:=λk i=>Vl.Ah m i;by_cases t:r=[]
  ·subst t;refine⟨g,f,λq b=>?_,λk a=>?_⟩
   ·rw[anB.1 b];exact n
   ·exact s k (λe=>a (by simp[e]))
  obtain⟨i1,i2,i3,i4⟩:=LP h (λq b=>j q (anA _ b)) c.2 t;refine⟨i1,i2,λq b=>?_,λk a=>?_⟩
  ·rcases amH.1 b with rfl|b
   ·rw[i4 _ c.1];exact n
   ·exact i3 q b
  ·rw[i4 k (λh=>a (by simp[h])),s k (λe=>a (by simp[e]))]
end Cs
end
section
open Go Eng
namespace Ff
theorem Tu (p:Pm):parm (eS p)=(p,0):=by
 have a:num (eS p) Fy=(p.p,0):=rfl;have b:num (eS p) Fm=(p.c,0):=rfl;have d:num (eS p) FJ=(p.n,0):=rfl;unfold parm;rw[amA (show ¬(eS p).k=0 by show ¬(7:Int)=0;decide),a,b,d,amB ⟨rfl,rfl,rfl,rfl⟩]
theorem RE (p:Pm):eight (eS p)=true:=rfl
theorem SI {p:Pm}{D data:List UInt8}(h:(encF o p D).2=0)(B:OneR nFl p data D 0)(d:p.ok)(C:D.length<=1048576)(E:data.length<=1048576) :
  (encF o p D).1.k=9∧Vl.check 1 (encF o p D).1=0∧(decode (encF o p D).1=(data,0)∧of (encF o p D).1=([nFl],[p],0))∧∀k,k≠aX->k≠cL->k≠Vl.lenK->(o.k=7∨o.k=9)->Vl.get (encF o p D).1 k=Vl.get o k:=by
 unfold encF at h ⊢;by_cases a:(plain o D).2≠0
 ·rw[amB a] at h;exact absurd h a
 rw[amA a] at h ⊢;by_cases j:(Vl.set (plain o D).1 aX (cE nFl)).2≠0
 ·rw[amB j] at h;exact absurd h j
 rw[amA j] at h ⊢;by_cases e:(Vl.set (Vl.set (plain o D).1 aX (cE nFl)).1 cL (eS p)).2≠0
 ·rw[amB e] at h;exact absurd h e
 rw[amA e];have a:=apJ.1 a;obtain⟨t,F,N,O,Q,R⟩:=QL a C;obtain⟨G,u,H,I⟩:=Vl.Og (apJ.1 j) (show (5:Int)≠0 by decide);rw[G] at e ⊢;obtain⟨J,w,_,K⟩:=Vl.Og (apJ.1 e) (show (7:Int)≠0 by decide);rw[J];have f:=(Vl.lH H u).2;have b:=(Vl.lH I w).2;have x:=Vl.OS (key:=cL) (v:=eS p) w b;have y:Vl.get (Vl.put (Vl.put (plain o D).1 aX (cE nFl)) cL (eS p)) aX=ax (cE nFl):=by
  rw[Vl.Ah b dc];exact Vl.OS u f
 refine⟨t,K,?_,λk n1 n2 n3 l=>?_⟩
 ·have g:(Vl.put (Vl.put (plain o D).1 aX (cE nFl)) cL (eS p)).k=9:=t;have z:(Vl.put (Vl.put (plain o D).1 aX (cE nFl)) cL (eS p)).s=D:=F;generalize Vl.put (Vl.put (plain o D).1 aX (cE nFl)) cL (eS p)=P at x y g z;have c:filt P=[cE nFl]:=by unfold filt;rw[y];rfl
  have L:names P=([nFl],0):=by unfold names;rw[c];rfl
  have M:tN P=([eS p],0):=by unfold tN;rw[x];rfl
  have m:tV P 1=([p],0):=by
   unfold tV;rw[M];simp only[List.any_cons,List.any_nil,Tu,RE,anS,apW];rfl
  have i:of P=([nFl],[p],0):=by
   unfold of;rw[amA (λh=>h g),L];dsimp only;rw[amA dc,show ([nFl]:List (List UInt8)).length=1 from rfl,m];dsimp only;rw[amA dc,amA (by simp[d])]
  refine⟨?_,i⟩;unfold decode;rw[i,z];dsimp only;rw[amA dc];unfold chain;rw[XL B rfl E,amA (by show ¬((0:Int)≠0);decide)];rfl
 ·rw[Vl.Ah b (Ne.symm n2),Vl.Ah f (Ne.symm n1)];have n:(plain o D).1=Bd.strm (bare o) D:=by
   unfold plain at a ⊢;by_cases A:o.k≠9∧o.k≠7
   ·rw[amB A] at a;cases a
   rw[amA A] at a ⊢;by_cases q:Vl.check 1 (nV o)≠0
   ·rw[amB q] at a;exact absurd a q
   rw[amA q]
  have r:Vl.keyed o=true:=by rcases l with h|h<;>simp[Vl.keyed,h]
  rw[n,Vl.Pw (o:=Bd.strm (bare o) D) rfl,Vl.Pw r];show Vl.lk k (Vl.eM Vl.lenK _ _).1 (Vl.eM Vl.lenK _ _).2=_;rw[Vl.Db n3];show Vl.lk k (Vl.eM cL _ _).1 (Vl.eM cL _ _).2=_;rw[Vl.Db n2];show Vl.lk k (Vl.eM aX _ _).1 (Vl.eM aX _ _).2=_;rw[Vl.Db n1];rfl
end Ff
end
section
open Eng Go.RowKit
section
variable {w:ao}{PK:PKT}{K:VWP}{S:Nat->Prop}{w0:ao}{L:List Ent}
theorem adR (a:OwnS S w0 w (.mem M::L))(hw:o.wt<=1000000000)(Y:OV M.A M.w v o)
  (kt:∀x,Cs.keys o=ax x->∀N pv W,M.le N->SlA N.A N.w pv 2 x.bF.length (rnsC x.bF)->OwnS S w0 W (.mem N::L)->K (stmV x pv) W)
  (t:Cs.keys o=aw->∀N W,M.le N->OwnS S w0 W (.mem N::L)->PK [upC] W):CallX ah 92 #[v] w PK K:=by
 obtain⟨vk,vc,cs,rfl,ha⟩:=Y.open;refine⟨GR ?_⟩;unfold EC nz;refine iE o ha.keys.one ha.kids.one a λg w1 a=>?_;refine TG a λb2 w2 a=>?_;rw[aiJ];refine TG a λb3 w3 a=>?_;refine NM 0 rfl rfl rfl a rfl λw4 a=>?_;have a:OwnS S w0 w4 (stmE b3 ⟨[0,0,0],[],-1⟩ nilS::stmE b2 stm0 nilS::obE g o vk vc::.mem M::L):=a;have f:¬Cs.isX o->Cs.keys o=none:=λh=>by unfold Cs.keys;rw[amA h]
 have cut:∀{W:ao} {N:Mem} {e1 e2 e3:Ent},OwnS S w0 W (e1::e2::e3::.mem N::L)->OwnS S w0 W (.mem N::L):=λa=>a.tail.tail.tail;rw[fP,ob_k a 2 rfl];simp only[rs];refine kC (λh9=>?_) λh9=>t (f λh=>anO h9 h.1) M w4 M.le_refl (cut a);have h9:=amU h9;refine Ml a om Y λN1 b4 tk tc w5 E ht a=>?_;rw[fP,ob_k a 0 rfl];simp only[rs];have hT:∀{W},¬((Cs.got o Cs.mY).k=5∧(Cs.got o Cs.mY).s=Cs.zK)->OwnS S w0 W (obE b4 (Cs.got o Cs.mY) tk tc::stmE b3 ⟨[0,0,0],[],-1⟩ nilS::stmE b2 stm0 nilS::obE g o vk vc::.mem N1::L)->PK [upC] W:=
  λh a=>t (f λk=>h k.2.1) N1 _ E (cut a.tail)
 by_cases h5:(Cs.got o Cs.mY).k=5
 case neg=>
  simp only[amE h5,rs,g_un];exact kC (λh=>by cases h) λ_=>hT (λh=>h5 h.1) a
 simp only[amG h5,rs];rw[FN,ob_s a 0 rfl];simp only[rs];refine kC (λF=>?_) λF=>hT (λh=>?_) a
 rotate_left
 ·exact anO F h.2
 have c1:(Cs.got o Cs.mY).s=Cs.zK:=amU F;have a:=a.tail;refine Ml a om (Y.le E) λN2 b6 sk sc w6 l2 hs a=>?_;rw[ob_v a 0 rfl];refine Hi a hs.oneK hs.oneC dc (λG w7 a=>?_) λG W a=>t (f λh=>G h.2.2.1) N2 W (E.trans l2) (cut a.tail);have a:=a.tail;refine Ml a om ((Y.le E).le l2) λN3 b9 xk xc w8 l3 u a=>?_;rw[ob_v a 0 rfl];refine UU a u.oneK u.oneC (λH w9 a=>?_) λH W a=>t (f λh=>H h.2.2.2.1) N3 W ((E.trans l2).trans l3) (cut a.tail);obtain⟨cs,a1⟩:=Km u;rw[EI a1];simp only[rs];refine kC (λI=>?_) λI=>t (f λh=>anO I (by have:(Cs.got o Cs.kW).kids.length=3:=h.2.2.2.2.1;show ((Cs.got o Cs.kW).kids.length:Int)=3;omega)) N3 w9 ((E.trans l2).trans l3) (cut a.tail);have I:(Cs.got o Cs.kW).kids.length=3:=by have:((Cs.got o Cs.kW).kids.length:Int)=3:=amU I;omega
 have a:=a.tail;have O:=(E.trans l2).trans l3;have c:((Cs.got o Cs.kW).kids.map Ob.n).length=3:=by rw[anP,I]
 refine loop (λvs W=>∃(i:Nat),vs=[.int .i64 (i:Int)]∧i<=3∧(∀x∈(Cs.got o Cs.kW).kids.take i,Cs.inr x 4)∧OwnS S w0 W (stmE b3 ⟨Cs.ws ((Cs.got o Cs.kW).kids.map Ob.n) i,[],-1⟩ nilS::stmE b2 stm0 nilS::obE g o vk vc::.mem N3::L)) (λvs _=>3 - n0 vs) ⟨0,rfl,om,sm,a⟩ ?_;clear a;rintro vs a6 ⟨i,rfl,hi,j,a⟩ _;simp only[A4,gd,rs,nz];by_cases a7:(i:Int) < 3
 ·simp only[amG a7,i_t];have P:i < (Cs.got o Cs.kW).kids.length:=om
  refine LZ a1 P (a.hasM 3 rfl) λyk yc hy=>?_;refine Hi a hy.oneK hy.oneC dc (λd c2 a=>?_) λd W a=>t (f λh=>d (h.2.2.2.2.2 _ (amR P))) N3 W O (cut a);rw[Y4];refine aD (WC om) |>.mpr ?_;have c3:=((ws3 c).2 i).resolve_right om;refine aK 0 a rfl krx rfl (by rw[qZ c3];omega) λQ a=>?_
  try simp only[rs]
  rw[aA om om];refine aY ⟨i+1,rfl,om,?_,?_⟩ (by simp[n0,RowKit.intOf];omega)
  ·rw[anH P];intro x u;rcases anF.1 u with u|u
   ·exact j x u
   ·rw[anB.1 u];exact d
  ·have e:=Zg (ps:=[]) (q:=-1) (pv:=nilS) c (show i < ((Cs.got o Cs.kW).kids.map Ob.n).length by omega);rw[List.getElem_map] at e;rw[stmE,<-e];exact a
 simp only[amE a7,i_f];have:i=3:=om
 subst this;have F:Cs.isX o:=⟨h9,⟨h5,c1⟩,G,H,I,by rw[<-I,aoA] at j;exact j⟩;rw[(ws3 c).1] at a;have R:∀{p q},Cs.uK o=ax p->Cs.Ew o=ax q->Cs.keys o=ax ⟨(Cs.got o Cs.kW).kids.map Ob.n,p,q⟩:=λh1 h2=>by unfold Cs.keys;rw[amB F,h1,h2];rfl
 have T:Cs.uK o=aw∨Cs.Ew o=aw->Cs.keys o=none:=λh=>by
  unfold Cs.keys;rw[amB F];rcases h with h|h
  ·rw[h];rfl
  ·rw[h];cases Cs.uK o<;>rfl
 clear F;generalize (Cs.got o Cs.kW).kids.map Ob.n=ns at *;have hb:∀{PK:PKT} {K:VWP},DoX ah (aS 135 #[(0,.int .i64 0),(1,.int .i64 (Cs.got o Cs.iT).n)]) a6 PK K=K (rnV (0,(Cs.got o Cs.iT).n)) a6:=aD krx;rw[hb];refine bA (λb=>.slice (ax ⟨b,0,aw⟩) 1 1) (rnC (0,(Cs.got o Cs.iT).n)) 135 (λ_=>by kernel_rfl) a λnb c2 a=>?_;rw[TJ];refine aK 1 a rfl krx rfl (by rw[qZ c];omega) λQ a=>?_;have a:OwnS S w0 Q (.cells nb (rnC (0,(Cs.got o Cs.iT).n)) 135::.cells b3 ((stmC ⟨ns,[],-1⟩ nilS).set 3 (.slice (ax ⟨nb,0,aw⟩) 1 1)) 118::stmE b2 stm0 nilS::obE g o vk vc::.mem N3::L):=a;rw[Yd c (ps':=[(0,(Cs.got o Cs.iT).n)])] at a;have a:=a.toU 2 1 1 rfl om om;obtain⟨N4,Z,c4,a⟩:=a.bI 3 rfl;have a:OwnS S w0 Q (stmE b3 ⟨ns,[(0,(Cs.got o Cs.iT).n)],-1⟩ (.slice (ax ⟨nb,0,aw⟩) 1 1)::stmE b2 stm0 nilS::obE g o vk vc::.mem N4::L):=a;refine join λJ hJ=>?_;have main:∀{ps pv N W},Cs.uK o=ax ps->N4.le N->SlA N.A N.w pv 2 ps.length (rnsC ps)->OwnS S w0 W (stmE b3 ⟨ns,ps,-1⟩ pv::stmE b2 stm0 nilS::obE g o vk vc::.mem N::L)->J [] W:=by
  intro ps pv N W hp hN hs a;refine hJ _ _ λ_=>?_;unfold AW nz;refine join λJ3 c5=>?_;have l:∀{q N' W},Cs.Ew o=ax q->N.le N'->OwnS S w0 W (stmE b3 ⟨ns,ps,q⟩ pv::stmE b2 stm0 nilS::obE g o vk vc::.mem N'::L)->J3 [] W:=by
   intro q N' W D a8 a;refine c5 _ _ λ_=>?_;unfold Bl nz;have b0:aggN ah 118=ax (stmC ⟨ns,ps,q⟩ pv).length:=by rw[qZ c];exact SM
   rw[l_at (a.agg 0 rfl b0)];refine NM 1 c hs.one rfl a rfl λU a=>?_;exact iA (bJ (a.agg 1 rfl b0)) (kt _ (R hp D) N' pv U ((O.trans Z).trans (hN.trans a8)) (hs.le a8) (cut a))
  refine Ml a om (((Y.le O).le Z).le hN) λV c6 pk pc U z B a=>?_;have D:Cs.Ew o=match Vl.get o Cs.rG with|none=>ax (-1)|some v=>if Cs.inr v 2147483647 then ax v.n else none:=rfl
  have m:Cs.got o Cs.rG=(Vl.get o Cs.rG).getD Vl.ob0:=rfl;cases hg:Vl.get o Cs.rG with
 |none=>
   rw[hg] at D;simp only[aqP,i_f];exact l D z a.tail
 |some y=>
   rw[hg] at D m;simp only[aqY,i_t];rw[m] at B a;simp only[apY] at B a D;rw[ob_v a 0 rfl];refine Hi a B.oneK B.oneC dc (λd b5 a=>?_) λd W a=>t (T (.inr (by rw[D,amA d]))) V W ((O.trans Z).trans (hN.trans z)) (cut a.tail);rw[YN];refine aK 1 a rfl krx rfl (by rw[qZ c];omega) λX a=>?_;have a:OwnS S w0 X (obE c6 y pk pc::.cells b3 ((stmC ⟨ns,ps,-1⟩ pv).set 4 (.int .i64 y.n)) 118::stmE b2 stm0 nilS::obE g o vk vc::.mem V::L):=a;rw[Wc c] at a;exact l (by rw[D,amB d]) z a.tail
 have hp:Cs.uK o=match Vl.get o Cs.gD with|none=>ax [(0,(Cs.got o Cs.iT).n)]|some v=>if v.k=6 then Cs.index 0 v.kids else none:=rfl
 have m:Cs.got o Cs.gD=(Vl.get o Cs.gD).getD Vl.ob0:=rfl;refine Ml a om ((Y.le O).le Z) λV C ik ic U z r a=>?_;have b7:=Cs.MZ (o:=o) (k:=Cs.gD);cases hg:Vl.get o Cs.gD with
|none=>
  rw[hg] at hp;simp only[aqP,i_f];exact main hp z (c4.le z) a.tail
|some y=>
  rw[hg] at hp m;simp only[aqY,i_t];rw[m] at r a b7;simp only[apY] at r a hp b7;rw[ob_v a 0 rfl];refine UU a r.oneK r.oneC (λH b5 a=>?_) λH W a=>t (T (.inl (by rw[hp,amA H]))) V W ((O.trans Z).trans z) (cut a.tail);rw[amB H] at hp;obtain⟨c8,b8⟩:=Km r;have c9:=@Ff.nS y;have a:OwnS S w0 b5 ([obE C y ik ic,stmE b3 ⟨ns,[(0,(Cs.got o Cs.iT).n)],-1⟩ (.slice (ax ⟨nb,0,aw⟩) 1 1),stmE b2 stm0 nilS,obE g o vk vc]++([.mem V]++L)):=a;refine Z6 a.front b8 om (λps he N6 pv X l6 c0 a=>?_) λhe W a=>t (T (.inl (by rw[hp,he]))) V W ((O.trans Z).trans z) (by
   have a:OwnS S w0 W (.mem V::obE C y ik ic::stmE b3 ⟨ns,[(0,(Cs.got o Cs.iT).n)],-1⟩ (.slice (ax ⟨nb,0,aw⟩) 1 1)::stmE b2 stm0 nilS::obE g o vk vc::L):=a;exact a.sub (.cons_cons _ (.cons _ (.cons _ (.cons _ (.cons _ (arK _)))))))
  rw[TJ];have a:OwnS S w0 X (.mem N6::obE C y ik ic::stmE b3 ⟨ns,[(0,(Cs.got o Cs.iT).n)],-1⟩ (.slice (ax ⟨nb,0,aw⟩) 1 1)::stmE b2 stm0 nilS::obE g o vk vc::L):=a;refine aK 2 a rfl krx c0.one (by rw[qZ c];omega) λc7 a=>?_;have a:OwnS S w0 c7 ([.mem N6]++([obE C y ik ic,.cells b3 ((stmC ⟨ns,[(0,(Cs.got o Cs.iT).n)],-1⟩ (.slice (ax ⟨nb,0,aw⟩) 1 1)).set 3 pv) 118,stmE b2 stm0 nilS,obE g o vk vc]++L)):=a;rw[Yd c (ps':=ps)] at a;exact main (by rw[hp,he]) (z.trans l6) c0 a.front.tail
end
end
section
open Eng Go.RowKit
namespace Cs
def run1 (p:Int×Int):List Int:=(List.range p.2.toNat).map λk=>p.1+(k:Nat)
def nums (l:List (Int×Int)):List Int:=l.flatMap run1
theorem QQ (p:Int×Int):(run1 p).length=p.2.toNat:=by simp[run1]
theorem Rx {l:List (Int×Int)}(hi:i < l.length):nums l=nums (l.take i)++(run1 l[i]++nums (l.drop (i+1))):=by
 unfold nums;rw[show run1 l[i]++(l.drop (i+1)).flatMap run1=(l[i]::l.drop (i+1)).flatMap run1 from rfl,<-anX hi,<-apL,anR]
theorem WJ {l:List (Int×Int)}(hi:i < l.length)(a:j < l[i].2.toNat):(nums l)[(nums (l.take i)).length+j]?=ax (l[i].1+(j:Nat)):=by
 rw[Rx hi,aoQ om,arQ,aoL (by rw[QQ];exact a)];unfold run1;rw[aqL,List.getElem?_range a];rfl
theorem Vi {l:List (Int×Int)}(hi:i < l.length):(nums (l.take (i+1))).length=(nums (l.take i)).length+l[i].2.toNat:=by
 rw[anH hi];unfold nums;rw[apL,amC,aqM,QQ]
def be (l:List UInt8):Nat:=l.foldl (λv c=>v*256+c.toNat) 0
theorem Uz (l:List UInt8)(c:UInt8):be (l++[c])=be l*256+c.toNat:=by unfold be;rw[atD];rfl
theorem agM:∀(n:Nat) (l:List UInt8),l.length=n->be l < 256 ^ n
|0,l,h=>by rw[aqW h];decide
|n+1,l,h=>by
  have a:l≠[]:=by intro b;rw[b] at h;cases h
  rw[<-atU a,Uz];have:=agM n l.dropLast (by rw[auT];omega);have c:=(l.getLast a).toNat_lt;rw[aoN];have d:(2:Nat) ^ 8=256:=rfl;omega
def fld (s:List UInt8)(at_:Nat)(n:Int):Int:=(be ((s.drop at_).take n.toNat):Nat)
def field (s:List UInt8)(i at_:Nat)(n:Int):Int:=if n=0∧i=0 then 1 else fld s at_ n
end Cs
theorem orW8 {v c:Nat}(a:v < 256 ^ 4)(b:c < 256):bOr .i64 ((v*2 ^ 8:Nat):Int) (c:Int)=((v*2 ^ 8+c:Nat):Int):=by
 have a:v < 4294967296:=a;have h:v*2 ^ 8 ||| c=v*2 ^ 8+c:=by rw[aoY];exact (atO (i:=8) b v).symm
 unfold bOr;rw[BitVec.toNat_or];simp only[BitVec.ofInt_natCast,BitVec.toNat_ofNat];rw[anZ (show v*2 ^ 8 < 2 ^ IntKind.i64.bits by show _ < 18446744073709551616;omega),anZ (show c < 2 ^ IntKind.i64.bits by show _ < 18446744073709551616;omega),h];exact aA om om
section
variable {w:ao}{PK:PKT}{K:VWP}{S:Nat->Prop}{w0:ao}{L:List Ent}
theorem Eo {x:Stm}{s:List UInt8}{b2 b3 b:Nat}{at_:Nat}(i2 i3 i6:Nat)(a:OwnS S w0 w L)(u:L[i2]?=ax (stmE b2 x pv))(t:L[i3]?=ax (strE b3 s))(o:L[i6]?=ax (.cells b [.int .i64 (at_:Nat)] 3))
  (n3:i3≠i6) (v:x.w.length=3) (hi:i < x.w.length) (hw:0<=x.w[i]∧x.w[i]<=4) (y:at_+x.w[i].toNat<=s.length) (D:s.length<=1000000000)
  (k:∀W,OwnS S w0 W (L.set i6 (.cells b [.int .i64 ((at_+x.w[i].toNat:Nat):Int)] 3))->K (.int .i64 (Cs.field s i at_ x.w[i])) W) :
  CallX ah 161 #[.int .i64 (i:Int),.pointer (ax ⟨b2,0,aw⟩),.pointer (ax ⟨b,0,aw⟩),.pointer (ax ⟨b3,0,aw⟩)] w PK K:=by
 have z:i6 < L.length:=(amS.1 o).1;refine⟨pO ?_⟩;unfold jO nz;rw[Y4];refine aD (WC om) |>.mpr ?_;rw[aJ aU (a.cell i2 u (0+i) ((by rw[amO];exact (Sw v).2.2 i hi)))];simp only[rs];have rest:Cs.field s i at_ x.w[i]=Cs.fld s at_ x.w[i]->DoX ah (aH 3 (.pointer (ax ⟨b,0,aw⟩))) w (pk (Cont K PK)) (λt18 w=>
   DoX ah (mBin .add 3 t18 (.int .i64 x.w[i])) w (pk (Cont K PK)) λt20 w=>
   DoX ah (aH 9 (.pointer (ax ⟨b3,0,aw⟩))) w (pk (Cont K PK)) λt21 w=>
   DoX ah (mB .len #[9] 3 #[au] #[t21]) w (pk (Cont K PK)) λt22 w=>
   DoX ah (mBin .leq 3 t20 t22) w (pk (Cont K PK)) λt23 w=>
   CallX ah 157 #[t23] w (pk (Cont K PK)) λt24 w=>
   LoopX [(.int .i64 0),(.int .i64 0)] w (λd w N1=>∀_:Sg,eX (.pointer (ax ⟨b,0,aw⟩)) (.pointer (ax ⟨b3,0,aw⟩)) (d.getD 0 undef) (.int .i64 x.w[i]) (d.getD 1 undef) w N1 (Cont K PK))):=by
  intro he;rw[he] at k;generalize x.w[i]=n at *;obtain⟨n,rfl⟩:∃m:Nat,n=(m:Int):=⟨n.toNat,om⟩;rw[amK] at y k;rw[aJ aU (a.cell i6 o 0 rfl)];simp only[rs];rw[aA om om,aJ Iv (a.cell i3 t 0 rfl)];simp only[rs,gM amP];refine kC (λ_=>?_) λh=>absurd (show (at_:Int)+n<=(s.length:Int) by omega) (anO h);refine loop (λvs W=>∃(j:Nat),vs=[.int .i64 ((Cs.be ((s.drop at_).take j):Nat):Int),.int .i64 (j:Int)]∧j<=n∧OwnS S w0 W (L.set i6 (.cells b [.int .i64 ((at_+j:Nat):Int)] 3))) (λvs _=>n - n1 vs) ⟨0,rfl,om,by rw[aoC,uH o];exact a⟩ ?_;clear a;rintro vs A ⟨j,rfl,E,a⟩ _;simp only[eX,gd,rs,nz];by_cases f:(j:Int) < (n:Int)
  case neg=>
   simp only[amE f,i_f];have:j=n:=om
   subst this;have:=k A a;unfold Cs.fld at this;rw[amK] at this;exact this
  simp only[amG f,i_t];have p:at_+j < s.length:=om
  have q:=Cs.agM j ((s.drop at_).take j) (by rw[amL,amQ];omega);have g:Cs.be ((s.drop at_).take j) < 256 ^ 4:=apH q (aoH dc om);have B:Cs.be ((s.drop at_).take j) < 4294967296:=g;have C:=s[at_+j].toNat_lt;rw[FV dc,show (2:Int) ^ min (8:Int).toNat IntKind.i64.bits=2 ^ 8 from rfl,aA om om];have r:(L.set i6 (Ent.cells b [.int .i64 ((at_+j:Nat):Int)] 3))[i6]?=ax (.cells b [.int .i64 ((at_+j:Nat):Int)] 3):=apN z;have c3:(L.set i6 (Ent.cells b [.int .i64 ((at_+j:Nat):Int)] 3))[i3]?=ax (strE b3 s):=by rw[arJ (Ne.symm n3)];exact t
  rw[aJ Iv (a.cell i3 c3 0 rfl),aJ aU (a.cell i6 r 0 rfl),s_ix (c:=s[at_+j]) amP om (by rw[amK];exact amN p),u8ix,b_or,show ((Cs.be ((s.drop at_).take j):Nat):Int)*2 ^ 8=((Cs.be ((s.drop at_).take j)*2 ^ 8:Nat):Int) by omega,orW8 g C,aJ aU (a.cell i6 r 0 rfl)];simp only[rs];rw[aA om om];refine aK i6 a r krx rfl sm λw2 a=>?_;rw[arI] at a
  try simp only[rs]
  rw[aA om om];refine aY ⟨j+1,?_,om,?_⟩ (by simp[n1,RowKit.intOf];omega)
  ·have e:(s.drop at_).take (j+1)=(s.drop at_).take j++[s[at_+j]]:=by
    rw[anH (by rw[amQ];omega),List.getElem_drop]
   rw[e,Cs.Uz];rfl
  ·exact a
 by_cases l:x.w[i]=0
 case neg=>
  simp only[amE l,rs,g_un,i_f];exact rest (by unfold Cs.field;rw[amA (λh=>l h.1)])
 simp only[amG l,rs];by_cases a2:i=0
 case neg=>
  simp only[amE (show ¬(i:Int)=0 by omega),rs,i_f];exact rest (by unfold Cs.field;rw[amA (λh=>a2 h.2)])
 simp only[amG (show (i:Int)=0 by omega),rs,i_t];have e:Cs.field s i at_ x.w[i]=1:=by unfold Cs.field;rw[amB ⟨l,a2⟩]
 rw[e] at k;refine k w ?_;rw[l];rw[show at_+(0:Int).toNat=at_ from rfl,uH o];exact a
end
end
section
open Eng Go.RowKit
theorem RB (x:Stm)(pv:aq)(N:Mem)(b:Nat)(J:x.w.length=3)(F:SlA N.A N.w pv 2 x.bF.length (rnsC x.bF))(L:x.bF.length<=1000000000)(O:∀p∈x.bF,0<=p.1∧0<=p.2∧p.1+p.2<=1000000)
  (S:Nat->Prop) (w0 G:ao) (L0:Loop) (d df:Nat) (z:List Ent) (R:Nat->List Ent->Prop) (K:Ending->ao->Prop)
  (P:∀k M,R k M->Ent.mem N∈M) (c:OwnS S w0 G (Ap L0 d df++(z++[stmE b x pv]))) (e:R 0 z)
  (Q:∀(k:Nat) (n:Int) (M X:List Ent) (W:ao),(Cs.nums x.bF)[k]?=ax n->R k M->OwnS S w0 W (Ap L0 d df++(M++X)) ->
   Yld ah d [.int .i64 n] W (λr H=>(r=.bool av∧∃u,R (k+1) u∧OwnS S w0 H (Ap L0 d df++(u++X)))∨(r=.bool au∧K (.returned (.tuple #[])) H)))
  (q:∀(M X:List Ent) (W:ao),R (Cs.nums x.bF).length M->OwnS S w0 W (Ap L0 d df++(M++X))->K (.returned (.tuple #[])) W) :
  Calls ah 221 #[.func (.yield d) #[] #[],.pointer (ax ⟨b,0,aw⟩)] G K:=by
 refine nA ?_;unfold iB nz;have s:∀{M:List Ent} {X:List Ent} {W:ao},R 0 M∨True->OwnS S w0 W (Ap L0 d df++(M++(X++[stmE b x pv])))->W.cell? ⟨b,3,aw⟩=ax pv:=by
  intro M X W _ h;have:stmE b x pv∈Ap L0 d df++(M++(X++[stmE b x pv])):=sm
  have:=aI (T:=118) (h.mem this) (i:=3) ((Sw J).1);exact this
 have g:∀{k:Nat} {M X:List Ent} {W:ao},R k M->OwnS S w0 W (Ap L0 d df++(M++X))->N.has W:=by
  intro k M X W e h;have U:=P k M e;have:Ent.mem N∈Ap L0 d df++(M++X):=atX _ (atW _ U);obtain⟨i,hi⟩:=List.getElem?_of_mem this;exact h.hasM i hi
 rw[TJ,aJ nRns (s (X:=[]) (.inr trivial) c)];rw[bD asO (F.now (g e c))];refine loop (λvs W=>∃(i:Nat) (M:List Ent),vs=[.int .i64 (i:Int)]∧i<=x.bF.length∧R (Cs.nums (x.bF.take i)).length M∧OwnS S w0 W (Ap L0 d df++(M++[stmE b x pv]))) (λvs _=>x.bF.length - n0 vs) ⟨0,z,rfl,om,e,c⟩ ?_;clear c e;rintro vs w2 ⟨i,M,rfl,hi,e,c⟩ _;simp only[fW,gd,rs,nz];by_cases t:(i:Int) < (x.bF.length:Int)
 case neg=>
  simp only[amE t,i_f];have:i=x.bF.length:=om
  subst this;rw[aoA] at e;exact q M _ w2 e c
 simp only[amG t,i_t];have f:i < x.bF.length:=om
 obtain⟨p,B,C⟩:=ahI F f;obtain⟨V,Y,Z⟩:=O x.bF[i] (amR f);rw[aD (B w2),aD (C w2 (g e c))];refine o_rn c λl w3 c=>?_;refine XU 0 (y:=x.bF[i]) c rfl λI c=>?_;have c:OwnS S w0 I (.cells l (rnC x.bF[i]) 135::(Ap L0 d df++(M++[stmE b x pv]))):=c;rw[XZ,aJ aU (c.cell 0 rfl 1 rfl)];have c:OwnS S w0 I (Ap L0 d df++(M++([.cells l (rnC x.bF[i]) 135]++[stmE b x pv]))):=by
  refine c.perm ?_;rw[<-amM,<-amM];refine (List.perm_middle (l₁:=Ap L0 d df++M) (l₂:=[stmE b x pv]) (a:=.cells l (rnC x.bF[i]) 135)).symm.trans ?_;exact aqS _
 have o:∀{M:List Ent} {W:ao},OwnS S w0 W (Ap L0 d df++(M++([.cells l (rnC x.bF[i]) 135]++[stmE b x pv])))->W.cell? ⟨l,0,aw⟩=ax (.int .i64 x.bF[i].1):=by
  intro M W h;have:Ent.cells l (rnC x.bF[i]) 135∈Ap L0 d df++(M++([.cells l (rnC x.bF[i]) 135]++[stmE b x pv])):=sm
  exact aI (h.mem this) (i:=0) rfl
 refine loop (λvs W=>∃(j:Nat) (M:List Ent),vs=[.int .i64 (j:Int)]∧(j:Int)<=x.bF[i].2∧R ((Cs.nums (x.bF.take i)).length+j) M∧OwnS S w0 W (Ap L0 d df++(M++([.cells l (rnC x.bF[i]) 135]++[stmE b x pv])))) (λvs _=>x.bF[i].2.toNat - n0 vs) ⟨0,M,rfl,om,e,c⟩ ?_;clear c e;rintro vs w5 ⟨j,M,rfl,hj,e,c⟩ _;simp only[fV,gd,rs,nz];by_cases m:(j:Int) < x.bF[i].2
 case neg=>
  simp only[amE m,i_f]
  try simp only[rs]
  rw[aA om om];refine aY ⟨i+1,M,rfl,om,?_,?_⟩ (by simp[n0,RowKit.intOf];omega)
  ·rw[Cs.Vi f,show x.bF[i].2.toNat=j by omega];exact e
  ·refine c.sub ?_;refine List.Sublist.append_left (List.Sublist.append_left (List.sublist_append_right _ _) _) _
 simp only[amG m,i_t];rw[YW,aJ aU (o c)]
 try simp only[rs]
 rw[aA om om];refine akP (args:=[.int .i64 (x.bF[i].1+j)]) (Q _ (x.bF[i].1+j) M _ w5 (Cs.WJ f om) e c) ?_;rintro v w6 (⟨rfl,u,D,E⟩|⟨rfl,hK⟩)
 ·rw[LI,aoB,i_f]
  try simp only[rs]
  rw[aA om om];exact aY ⟨j+1,u,rfl,om,D,E⟩ (by simp[n0,RowKit.intOf];omega)
 ·rw[LI,aoD,i_t];exact hK
section
variable {w:ao}{PK:PKT}{K:VWP}{S:Nat->Prop}{w0:ao}{L:List Ent}
theorem X3 (x:Stm)(d:x.w.length=3)(hp:pv.oneCell'=av)(e:OwnS S w0 w L)(k:∀b w',OwnS S w0 w' (stmE b x pv::L)->K (.pointer (ax ⟨b,0,aw⟩)) w'):DoX ah (mBox 118 (stmV x pv)) w PK K:=by
 obtain⟨l,ps,q⟩:=x
 match l,d with
|[a,b,c],_=>exact bA (λb=>.pointer (ax ⟨b,0,aw⟩)) (stmC ⟨[a,b,c],ps,q⟩ pv) 118 (λ_=>by kernel_rfl) e k
theorem SW (x:Stm)(c:x.w.length=3)(hp:pv.oneCell'=av)(a:OwnS S w0 w L)(k:∀b W,OwnS S w0 W (stmE b x pv::L)->K (.func (.func 221) #[] #[.pointer (ax ⟨b,0,aw⟩)]) W) :
  CallX ah 162 #[stmV x pv] w PK K:=by
 refine⟨rI ?_⟩;unfold kS nz;refine X3 x c hp a λb d a=>?_;rw[qB];exact k b d a
end
end
section
open Eng Go.RowKit
namespace Cs
def wide (x:Stm):Nat:=(x.w.getD 0 0).toNat+(x.w.getD 1 0).toNat+(x.w.getD 2 0).toNat
def rowAt (x:Stm)(s:List UInt8)(k:Nat)(n:Int):Slt:=
 let a:=x.w.getD 0 0;let b:=x.w.getD 1 0;let c:=x.w.getD 2 0;let p:=k*wide x
 ⟨n,field s 0 p a,field s 1 (p+a.toNat) b,field s 2 (p+a.toNat+b.toNat) c⟩
def aG (x:Stm)(s:List UInt8):List Slt:=(nums x.bF).mapIdx (rowAt x s)
theorem Mp (x:Stm)(s:List UInt8):(aG x s).length=(nums x.bF).length:=by unfold aG;rw[List.length_mapIdx]
theorem Mq {x:Stm}{s:List UInt8}{k:Nat}{n:Int}(h:(nums x.bF)[k]?=ax n):(aG x s)[k]?=ax (rowAt x s k n):=by
 unfold aG;rw[List.getElem?_mapIdx,h];rfl
end Cs
theorem Zp (hp:cN ah f=av)(h:CallX ah f (fa++args++ca) w PK K):CVX ah (.func (.func f) fa ca) args w PK K:=⟨⟨f,fa,ca,rfl,hp,h⟩⟩
theorem BB:cN ah 161=true:=krx
abbrev cloV (b2 a b3:Nat):Value:=.func (.func 161) #[] #[.pointer (ax ⟨b2,0,aw⟩),.pointer (ax ⟨a,0,aw⟩),.pointer (ax ⟨b3,0,aw⟩)]
abbrev cloE (b b2 a b3:Nat):Ent:=.cells b [cloV b2 a b3] 131
theorem alE:eD ah 131=true:=krx
abbrev atE (b at_:Nat):Ent:=.cells b [.int .i64 (at_:Int)] 3
abbrev svE (b:Nat)(v:aq):Ent:=.cells b [v] 61
theorem acK {n k b:Int}:(aS 83 #[(0,.int .i64 n),(1,.int .i64 k),(2,.int .i64 a),(3,.int .i64 b)]).run ah W=.ok (.value (slV ⟨n,k,a,b⟩)) W:=krx
section
variable {w:ao}{PK:PKT}{K:VWP}{S:Nat->Prop}{w0:ao}{L:List Ent}
theorem agB {x:Stm}{s:List UInt8}(d:OwnS S w0 w (.mem N::L))(V:x.w.length=3)(hw:∀n∈x.w,0<=n∧n<=4)(hs:SlA N.A N.w pv 2 x.bF.length (rnsC x.bF))
  (a8:x.bF.length<=1000000000) (hb:∀p∈x.bF,0<=p.1∧0<=p.2∧p.1+p.2<=1000000) (hn:(Cs.nums x.bF).length<=100000) (hd:(Cs.nums x.bF).length*Cs.wide x<=s.length) (u:s.length<=1000000000)
  (hk:∀y∈Cs.aG x s,y.kind<=2) (hc:Tl.check (Cs.aG x s)=0)
  (kt:∀E j W,N.le E->SlA E.A E.w j 4 (Cs.aG x s).length (slsC (Cs.aG x s))->OwnS S w0 W (.mem E::L)->K j W):CallX ah 94 #[stmV x pv,.string ⟨s.toArray⟩] w PK K:=by
 obtain⟨xw,ps,q⟩:=x
 match xw,V with
|[a,b,c],V=>
 refine⟨wL ?_⟩;unfold iW iN dx ldx stx alx cx;refine X3 _ V hs.one d λb2 w1 d=>?_;refine bA (λb=>.pointer (ax ⟨b,0,aw⟩)) [.string ⟨s.toArray⟩] 9 (λ_=>by kernel_rfl) d λb3 w2 d=>?_;refine bA (λb=>.pointer (ax ⟨b,0,aw⟩)) [nilS] 61 (λ_=>by kernel_rfl) d λG w3 d=>?_;refine bA (λb=>.pointer (ax ⟨b,0,aw⟩)) [.int .i64 0] 3 (λ_=>by kernel_rfl) d λf w4 d=>?_;refine aK 0 d rfl krx rfl sm λw5 d=>?_;rw[qB];refine bA (λb=>.pointer (ax ⟨b,0,aw⟩)) [.nilFunc] 131 (λ_=>by kernel_rfl) d λr w6 d=>?_;refine aK 0 d rfl krx rfl sm λw7 d=>?_;have d:OwnS S w0 w7 (cloE r b2 f b3::atE f 0::svE G nilS::strE b3 s::stmE b2 ⟨[a,b,c],ps,q⟩ pv::.mem N::L):=d;have b0:aggN ah 118=ax (stmC ⟨[a,b,c],ps,q⟩ pv).length:=by rw[qZ V];exact SM
 rw[l_at (d.agg 4 rfl b0)];refine SW _ V hs.one d λbi w8 d=>?_;have d:=OwnS.nilU d 83 4;generalize I:(⟨[a,b,c],ps,q⟩:Stm)=x at *;obtain⟨b8,c0,c1⟩:(0<=a∧a<=4)∧(0<=b∧b<=4)∧(0<=c∧c<=4):=by
  subst I;exact⟨hw a sm,hw b sm,hw c sm⟩
 have b1:Cs.wide x=a.toNat+b.toNat+c.toNat:=by subst I;rfl
 have o:x.w=[a,b,c]:=by subst I;rfl
 have Y:∀k n,Cs.rowAt x s k n=⟨n,Cs.field s 0 (k*Cs.wide x) a,Cs.field s 1 (k*Cs.wide x+a.toNat) b,Cs.field s 2 (k*Cs.wide x+a.toNat+b.toNat) c⟩:=by subst I;intro k n;rfl
 have O:=Cs.Mp x s
 let P:Nat->aq->List Slt->List Ent:=λat_ j l=>[slsE j l,cloE r b2 f b3,atE f at_,svE G j,strE b3 s,stmE b2 x pv,.mem N]
 have d:OwnS S w0 w8 ((P 0 nilS []++L)++[stmE bi x pv]):=by
  refine d.perm ?_;show List.Perm (_::_::([cloE r b2 f b3,atE f 0,svE G nilS,strE b3 s,stmE b2 x pv,.mem N]++L)) (_::(([cloE r b2 f b3,atE f 0,svE G nilS,strE b3 s,stmE b2 x pv,.mem N]++L)++[_]));exact List.Perm.cons _ (auW _ _).symm
 refine range d (show cN ah 221=av by kernel_rfl) λL0 df H w9 d hy=>?_;refine RB x pv N bi (by rw[o];rfl) hs a8 hb S w0 w9 L0 H df (P 0 nilS []++L) (λk M=>∃j,M=P (k*Cs.wide x) j ((Cs.aG x s).take k)++L) _ (λk M ⟨j,h⟩=>by subst h;simp[P]) d ⟨nilS,by simp[P]⟩ ?_ ?_
 ·rintro k n M X W Z ⟨j,rfl⟩ d;have c2:k < (Cs.nums x.bF).length:=(amS.1 Z).1;have c3:k*Cs.wide x+Cs.wide x<=s.length:=by
   have:=anY (Cs.wide x) (show k+1<=(Cs.nums x.bF).length by omega);rw[aoM] at this;omega
  have b4:(Cs.aG x s).take (k+1)=(Cs.aG x s).take k++[Cs.rowAt x s k n]:=by
   have h:=Cs.Mq (s:=s) Z;obtain⟨h1,h2⟩:=amS.1 h;rw[anH h1,h2]
  have a1:((Cs.aG x s).take k).length<=1000000000:=by rw[amL];omega
  rw[aoM,b4,Y];generalize (Cs.aG x s).take k=l at *;generalize c4:k*Cs.wide x=at_ at *;have i0:0 < x.w.length:=by rw[o];simp
  have i1:1 < x.w.length:=by rw[o];simp
  have i2:2 < x.w.length:=by rw[o];simp
  have g0:x.w[0]=a:=by simp[o]
  have g1:x.w[1]=b:=by simp[o]
  have g2:x.w[2]=c:=by simp[o]
  have z:x.w.length=3:=by rw[o];rfl
  have d:OwnS S w0 W (.obj H (lp L0 .ready aw)::.obj df (.deferred (ax []))::slsE j l::cloE r b2 f b3::atE f at_::svE G j::strE b3 s::stmE b2 x pv::.mem N::(L++X)):=d;have key:∀R:VWP,(∀W' Q,OwnS S w0 W' (Ap L0 H df++((P (at_+Cs.wide x) Q (l++[⟨n,Cs.field s 0 at_ a,Cs.field s 1 (at_+a.toNat) b,Cs.field s 2 (at_+a.toNat+b.toNat) c⟩])++L)++X))->R (.bool av) W')->Yld ah H [.int .i64 n] W R:=by
   intro R hR;refine hy _ W _ (d.at_ 0 rfl) rfl ?_;refine ajF 0 d rfl λW3 d=>?_;simp only[List.getD_cons_zero]
   let B:Nat->List Ent:=λat_=>.obj H (lp L0 .busy aw)::.obj df (.deferred (ax []))::slsE j l::cloE r b2 f b3::atE f at_::svE G j::strE b3 s::stmE b2 x pv::.mem N::(L++X)
   have d:OwnS S w0 W3 (B at_):=d;have d:=d.drew;have f0:∀{F W PK K},(F=[]∨∃e,F=[e])->OwnS S w0 W (F++B at_)->(∀W,OwnS S w0 W (F++B (at_+a.toNat))->K (.int .i64 (Cs.field s 0 at_ a)) W)->CVX ah (cloV b2 f b3) #[.int .i64 0] W PK K:=by
    intro F W PK K hF d k;rw[<-g0] at k;refine Zp BB ?_;rcases hF with rfl|⟨e,rfl⟩
    ·exact Eo (i:=0) 7 6 4 d rfl rfl rfl dc z i0 (by rw[g0];omega) (by rw[g0];omega) u k
    ·exact Eo (i:=0) 8 7 5 d rfl rfl rfl dc z i0 (by rw[g0];omega) (by rw[g0];omega) u k
   have f1:∀{F W PK K},(F=[]∨∃e,F=[e])->OwnS S w0 W (F++B (at_+a.toNat))->(∀W,OwnS S w0 W (F++B (at_+a.toNat+b.toNat))->K (.int .i64 (Cs.field s 1 (at_+a.toNat) b)) W)->CVX ah (cloV b2 f b3) #[.int .i64 1] W PK K:=by
    intro F W PK K hF d k;rw[<-g1] at k;refine Zp BB ?_;rcases hF with rfl|⟨e,rfl⟩
    ·exact Eo (i:=1) 7 6 4 d rfl rfl rfl dc z i1 (by rw[g1];omega) (by rw[g1];omega) u k
    ·exact Eo (i:=1) 8 7 5 d rfl rfl rfl dc z i1 (by rw[g1];omega) (by rw[g1];omega) u k
   have f2:∀{F W PK K},(F=[]∨∃e,F=[e])->OwnS S w0 W (F++B (at_+a.toNat+b.toNat))->(∀W,OwnS S w0 W (F++B (at_+Cs.wide x))->K (.int .i64 (Cs.field s 2 (at_+a.toNat+b.toNat) c)) W)->CVX ah (cloV b2 f b3) #[.int .i64 2] W PK K:=by
    intro F W PK K hF d k;rw[b1,<-aoS,<-aoS] at k;rw[<-g2] at k;refine Zp BB ?_;rcases hF with rfl|⟨e,rfl⟩
    ·exact Eo (i:=2) 7 6 4 d rfl rfl rfl dc z i2 (by rw[g2];omega) (by rw[g2];omega) u k
    ·exact Eo (i:=2) 8 7 5 d rfl rfl rfl dc z i2 (by rw[g2];omega) (by rw[g2];omega) u k
   refine⟨λW=>(cloE r b2 f b3).is W,d.at_ 3 rfl,?_⟩;have ld:∀W,(cloE r b2 f b3).is W->(aH 131 (.pointer (ax ⟨r,0,aw⟩))).run ah W=.ok (.value (cloV b2 f b3)) W:=λW h=>aB alE (aI (T:=131) h (i:=0) rfl);refine jH _ ld (jH _ ld (jH _ ld ?_));have out:∀{W C},OwnS S w0 W ([slE C ⟨n,Cs.field s 0 at_ a,Cs.field s 1 (at_+a.toNat) b,Cs.field s 2 (at_+a.toNat+b.toNat) c⟩]++B (at_+Cs.wide x))->cB (.pointer (ax ⟨G,0,aw⟩)) (.pointer (ax ⟨C,0,aw⟩)) H R W:=by
    intro W C d;unfold cB;rw[aJ nSls (d.cell 6 rfl 0 rfl),sl_v d 0 rfl];refine agL 3 d rfl a1 λv' W2 d=>?_;have h1:v'.oneCell'=true:=(cQ (d.at_ 3 rfl));refine aK 6 d rfl krx h1 sm λW3 d=>?_;refine aiP 1 d rfl λJ d=>hR J v' d.tail
   have st:∀{W C} {PK:PKT},OwnS S w0 W ([slE C sl0]++B (at_+Cs.wide x))->HDo ah (λ_=>True) (aS 83 #[(0,.int .i64 n),(1,.int .i64 (Cs.field s 0 at_ a)),(2,.int .i64 (Cs.field s 1 (at_+a.toNat) b)),(3,.int .i64 (Cs.field s 2 (at_+a.toNat+b.toNat) c))]) λt=>DoX ah (aN 83 (.pointer (ax ⟨C,0,aw⟩)) t) W PK λ_ w=>cB (.pointer (ax ⟨G,0,aw⟩)) (.pointer (ax ⟨C,0,aw⟩)) H R w:=by
    intro W C PK d;exact aR _ (λ_=>acK) (Fe 0 d rfl λW2 d=>out d)
   have m:∀{W e at_},OwnS S w0 W ([e]++B at_)->(cloE r b2 f b3).is W:=λd=>d.at_ 4 rfl;have U:∀{W at_},OwnS S w0 W ([]++B at_)->(cloE r b2 f b3).is W:=λd=>d.at_ 3 rfl;have d:OwnS S w0 _ ([]++B at_):=d;refine⟨f0 (.inl rfl) d λJ d=>⟨U d,f1 (.inl rfl) d λW5 d=>⟨U d,f2 (.inl rfl) d λW6 d=>⟨U d,?_⟩,?_⟩,?_⟩,?_⟩
   ·exact aR _ (λ_=>acK) (Im d λC W7 d=>⟨m d,Fe 0 d rfl λW8 d=>out d⟩)
   ·exact Im d λC W6 d=>⟨m d,f2 (.inr ⟨_,rfl⟩) d λW7 d=>⟨m d,st d⟩⟩
   ·exact Im d λC W5 d=>⟨m d,f1 (.inr ⟨_,rfl⟩) d λW6 d=>⟨m d,f2 (.inr ⟨_,rfl⟩) d λW7 d=>⟨m d,st d⟩⟩⟩
   ·exact Im d λC J d=>⟨m d,f0 (.inr ⟨_,rfl⟩) d λW5 d=>⟨m d,f1 (.inr ⟨_,rfl⟩) d λW6 d=>⟨m d,f2 (.inr ⟨_,rfl⟩) d λW7 d=>⟨m d,st d⟩⟩⟩⟩
  exact key _ λW' Q d=>.inl ⟨rfl,_,⟨Q,rfl⟩,d⟩
 ·rintro M X W ⟨j,rfl⟩ d;refine⟨_,.ready,aw,_,rfl,(by intro h;cases h),d.at_ 0 rfl,amH.2 (.inl rfl),?_⟩;have hp:OwnS S w0 (putO W H (lp L0 .exhausted aw)) (.obj H (lp L0 .exhausted aw)::.obj df (.deferred (ax []))::((P ((Cs.nums x.bF).length*Cs.wide x) j ((Cs.aG x s).take (Cs.nums x.bF).length)++L)++X)):=Gb (o':=lp L0 .exhausted aw) d 0 rfl;rw[<-O,aoA] at hp;have d:=hp.tail.swap;obtain⟨E,hle,D,d⟩:=OwnS.bI (L:=.obj df (.deferred (ax []))::cloE r b2 f b3::atE f ((Cs.aG x s).length*Cs.wide x)::svE G j::strE b3 s::stmE b2 x pv::.mem N::(L++X)) d 6 rfl;have D:SlA E.A E.w j 4 (Cs.aG x s).length (slsC (Cs.aG x s)):=D;have d:OwnS S w0 _ (.obj df (.deferred (ax []))::cloE r b2 f b3::atE f ((Cs.aG x s).length*Cs.wide x)::svE G j::strE b3 s::stmE b2 x pv::.mem E::(L++X)):=d;generalize putO W H (lp L0 .exhausted aw)=W1 at d;rw[aJ nSls (d.cell 3 rfl 0 rfl),bD apT (D.now (d.hasM 6 rfl))];refine loop (λvs W=>∃(i:Nat),vs=[.int .i64 (i:Int)]∧i<=(Cs.aG x s).length∧OwnS S w0 W (.obj df (.deferred (ax []))::cloE r b2 f b3::atE f ((Cs.aG x s).length*Cs.wide x)::svE G j::strE b3 s::stmE b2 x pv::.mem E::(L++X))) (λvs _=>(Cs.aG x s).length - n0 vs) ⟨0,rfl,om,d⟩ ?_;clear d hp;rintro vs W2 ⟨i,rfl,hi,d⟩ _;simp only[lS,gd,rs,iN];by_cases a6:(i:Int) < ((Cs.aG x s).length:Int)
  ·simp only[amG a6,i_t];have a7:i < (Cs.aG x s).length:=om
   obtain⟨g,off,hr⟩:=oR D a7;obtain⟨r1,r2⟩:=hr W2 (d.hasM 6 rfl);refine aD r1 |>.mpr (aD (xC r2) |>.mpr ?_);refine Im d λC W3 d=>?_;refine Fe (y:=(Cs.aG x s)[i]) 0 d rfl λJ d=>?_;rw[Hr,aJ aU (d.cell 0 rfl 1 rfl)];simp only[rs];refine kC (λ_=>?_) λh=>absurd (hk _ (amR a7)) (anO h)
   try simp only[rs]
   rw[aA om om];exact⟨rfl,aY ⟨i+1,rfl,om,d.tail⟩ (by simp[n0,RowKit.intOf];omega)⟩
  simp only[amE a6,i_f];rw[aJ nSls (d.cell 3 rfl 0 rfl)];refine aL d (R:=λv=>v=.int .i64 (Tl.check (Cs.aG x s))) (JN (Cs.aG x s) j E W2 om (d.hasM 6 rfl) D) ?_;rintro _ W3 rfl d;rw[hc];simp only[rs];refine kC (λ_=>?_) λh=>(by cases h);rw[aJ nSls (d.cell 3 rfl 0 rfl)];refine adA 0 d rfl λJ d=>?_;show Cont K PK (.returned j) J;refine kt E j J hle D ?_;have d:OwnS S w0 J (.obj df (.deferred aw)::cloE r b2 f b3::atE f ((Cs.aG x s).length*Cs.wide x)::svE G j::strE b3 s::stmE b2 x pv::.mem E::(L++X)):=d;exact d.sub (.cons _ (.cons _ (.cons _ (.cons _ (.cons _ (.cons _ (.cons_cons _ (List.sublist_append_left _ _))))))))
end
end
section
open Eng
def nQ(a w)(K:KT):=
 stx 30 a (iN 20) w K λ_ w=>K (.returned (.tuple #[])) w
def fT(b r w)(K:KT):=
 eqx .neq 20 (.tmp 5) (.const .nilIface) r .nilIface w K λc w=>IfX c (JoinX (λh=>dx (mTA r 20 167 av) w K λa w=>exx a 0 w K λd w=>exx a 1 w K λe w=>alx 167 w K λf w=>stx 167 f d w K λ_ w=>dx (mUn .not e) w K λg w=>IfX g (dx (EE r) w K λ_ w=>h [] w) (h [] w)) (λi w=>∀_:Sg,nQ b w K)) (K (.returned (.tuple #[])) w)
theorem xH (t0 r:aq)(w:ao)(K:Ending->ao->Prop):wpX ah 15 [(5,[])] [] aw (XE (A2 f156)) (topD ah [] K) (upd (upd (kO [t0]) 4 r) 1 r) [] w=fT t0 r w K:=krx
theorem kR (h:fT t0 (recV u) w (λe w=>R e (recM u) w)):CallsD ah 156 #[t0] u w R:=
 yP func156 rfl rfl rfl rfl rfl rfl rfl rfl rfl rfl rfl rfl (Eq.mpr (xH t0 (recV u) w _) h)
end
section
open Eng Go.RowKit
theorem DE:cN ah 156=true:=krx
abbrev eeE (b:Nat)(e:Int):Ent:=.cells b [.int .i64 e] 30
section
variable {w:ao}{PK:PKT}{K:VWP}{S:Nat->Prop}{w0:ao}{L:List Ent}
theorem Qp {d:Array aq}{T F:List Ent->Prop}(hp:cN ah f=av)(a:OwnS S w0 w L)
  (h:∀b W,OwnS S w0 W (eeE b 0::L)->∀(K':VWP) (e:PKT),(∀v c L',T L'->OwnS S w0 c (eeE b 0::L')->K' v c)->(∀c L',F L'->OwnS S w0 c (eeE b 0::L')->e [upC] c)->CallX ah f (#[]++#[]++d) W e K')
  (g:∀c L',T L'->OwnS S w0 c L'->K (.int .i64 0) c) (i:∀c L',F L'->OwnS S w0 c L'->K (.int .i64 20) c) :
  CallX ah 90 #[.func (.func f) #[] d] w PK K:=by
 refine⟨DV ?_⟩;unfold AR iN dx alx;refine bA (λb=>.pointer (ax ⟨b,0,aw⟩)) [.int .i64 0] 30 (λ_=>by kernel_rfl) a λb2 w2 a=>?_;rw[qB];refine⟨_,rfl,?_⟩;refine IG hp ?_;refine h b2 w2 a _ _ (λv W L' j a=>?_) λW L' k a=>?_
 ·refine aK 0 a rfl krx rfl sm λm a=>?_;refine nR sm DE (kR ?_);simp only[fT,recV,recM,Eng.ZN aqZ,rs,i_f,dx,exx,stx,eqx,alx];refine DB GP (a.cell 0 rfl 0 rfl) ?_;exact g _ _ j a.tail
 ·simp only[lE,pd];refine nR sm DE (kR ?_);simp only[fT,recV,recM,upC,Eng.YQ aqZ,rs,i_t,dx,exx,stx,eqx,alx];refine join λJ l=>?_;simp only[XF aeV,sS (show [Value.agg #[],Value.bool av][1]?=ax (Value.bool av) from rfl),sS (show [Value.agg #[],Value.bool av][0]?=ax (Value.agg #[]) from rfl)];refine bA (λb=>.pointer (ax ⟨b,0,aw⟩)) [] 167 (λ_=>by kernel_rfl) a λn o a=>?_;refine gX 0 a rfl (new:=[]) (show (Tryz.prog.info? 167).map (·.size)=ax 0 by kernel_rfl) sm rfl λp a=>?_;simp only[rs,aoB,i_f];refine l _ _ λ_=>?_;unfold nQ iN stx;refine aK 1 a rfl krx rfl sm λq a=>?_;refine DB GP (a.cell 1 rfl 0 rfl) ?_;exact i _ _ k a.tail.tail
end
end
section
open Eng
def Ey(t0 w)(K:KT):=nz f89 1 [] [] [] (zg [0] [t0]) w K
theorem HD:Ey t0 w k0->Calls ah 89 #[t0] w k0:=cw func89
end
section
open Go
namespace Bd
def check (i:It):Int:=if Dk.numbers i=au then 2 else if Vl.check 1 i.obj≠0 then Vl.check 1 i.obj else if i.obj.k=8 then 10 else 0
end Bd
end
section
open Eng Go.RowKit
theorem RX (i:It)(w:ao)(hw:i.obj.wt<=100000000000)(l:OV (InW w) w (obV i.obj vk vc) i.obj):Ret ah 89 #[itV i vk vc] w (λv w'=>v=.int .i64 (Bd.check i)∧Below w.heap.size w w'):=by
 refine aZ λK f=>HD ?_;unfold Ey nz;refine aeI i l.oneK l.oneC (Own.start w) λb m a=>?_;have out:Dk.numbers i=au->K (.returned (.int .i64 2)) m:=λh=>f _ _ ⟨by rw[Bd.check,amB h],a.done⟩;have o:Dk.numbers i=av↔1<=i.num∧i.num<=8191∧0<=i.gen∧i.gen<=65535:=by
  simp only[Dk.numbers,amX,anI];omega
 have outs:¬(1<=i.num∧i.num<=8191∧0<=i.gen∧i.gen<=65535)->K (.returned (.int .i64 2)) m:=λh=>out (by
  cases q:Dk.numbers i with
 |true=>exact absurd (o.1 q) h
 |false=>rfl)
 by_cases d:i.num < 1
 ·simp only[rs,NJ,GF a 0 rfl,amG d,g_un];exact outs om
 by_cases g:i.num>8191
 ·simp only[rs,NJ,GF a 0 rfl,amE d,amG g,g_un];exact outs om
 by_cases n:i.gen < 0
 ·simp only[rs,NJ,V7,GF a 0 rfl,PS a 0 rfl,amE d,amE g,amG n,g_un];exact outs om
 by_cases p:i.gen>65535
 ·simp only[rs,NJ,V7,GF a 0 rfl,PS a 0 rfl,amE d,amE g,amE n,amG p,g_un];exact outs om
 simp only[rs,NJ,V7,GF a 0 rfl,PS a 0 rfl,amE d,amE g,amE n,amE p,g_un,SN,Qn a 0 rfl];have c:Dk.numbers i=true:=o.2 om;obtain⟨cs,r⟩:=l.slices;refine GO (jB i.obj _ m (r.in_ a).ov om) rfl a λw2 a=>?_;rw[eN];by_cases e:Vl.check 1 i.obj=0
 case neg=>
  simp only[amG (show Vl.check 1 i.obj≠0 from e),i_t];exact f _ _ ⟨by rw[Bd.check,amA (by simp[c]),amB e],a.done⟩
 simp only[e,show ai ((0:Int)≠0)=au by decide,i_f,SN,fP,it_k a 0 rfl,rs];by_cases j:i.obj.k=8
 ·simp only[amG j,i_t];exact f _ _ ⟨by rw[Bd.check,amA (by simp[c]),amA (by simp[e]),amB j],a.done⟩
 ·simp only[amE j,i_f];exact f _ _ ⟨by rw[Bd.check,amA (by simp[c]),amA (by simp[e]),amA j],a.done⟩
end
section
open Eng Go.RowKit
namespace Cs
def PM (x:Stm)(s:List UInt8):Prop:=
 (x.w.length=3∧∀n∈x.w,0<=n∧n<=4)∧(x.bF.length<=1000000000∧∀p∈x.bF,0<=p.1∧0<=p.2∧p.1+p.2<=1000000) ∧
 ((nums x.bF).length<=100000∧(nums x.bF).length*wide x<=s.length∧s.length<=1000000000)∧(∀y∈aG x s,y.kind<=2)∧Tl.check (aG x s)=0
def read (i:It)(a:Int):Sec×Int:=
 if a < 0 then (Tl.sec0,1) else if Bd.check i≠0 then (Tl.sec0,Bd.check i) else match keys i.obj with
 |none=>(Tl.sec0,20)
 |some x=>if (Ff.decode i.obj).2≠0 then (Tl.sec0,(Ff.decode i.obj).2)
   else (⟨a,aG x (Ff.decode i.obj).1,.mk 7 i.obj.n i.obj.g [] i.obj.keys i.obj.kids,x.prev,-1,i.num⟩,0)
theorem acU {x:Stm}(h:keys o=ax x):x.w.length=3:=by
 unfold keys at h;split at h
 ·rename_i c
  cases a:uK o with
 |none=>rw[a] at h;cases h
 |some p=>
   cases b:Ew o with
  |none=>rw[a,b] at h;cases h
  |some q=>
    rw[a,b] at h;have:=apF h;rw[<-this];show ((got o kW).kids.map Ob.n).length=3;rw[anP];exact c.2.2.2.2.1
 ·cases h
end Cs
theorem NW:cN ah 91=true:=krx
theorem OD:cN ah 93=true:=krx
theorem akO {p n:Int}{l:List Slt}{b a2 a3:Option Addr}{n1 c n2 d n3 c3:Nat}:DoX ah (aS 63 #[(0,.int .i64 a),(1,.slice b n1 c),(2,obV o (.slice a2 n2 d) (.slice a3 n3 c3)),(3,.int .i64 p),(4,.int .i64 (-1)),(5,.int .i64 n)]) W PK K=K (secV ⟨a,l,o,p,-1,n⟩ (.slice b n1 c) (.slice a2 n2 d) (.slice a3 n3 c3)) W:=aD krx
theorem B1 (i:It)(a:Int){p q:aq}(M:Mem)(w:ao)(a6:Rp M)(a7:Od M)(a8:Pws M)(hw:i.obj.wt<=1000000000)(hM:M.has w)(I:OV M.A M.w (obV i.obj p q) i.obj)
  (b0:∀n∈(Ff.of i.obj).1,Ff.full n=Ff.nFl)
  (k:∀x,0<=a->Bd.check i=0->Cs.keys i.obj=ax x->(Ff.decode i.obj).2=0->Cs.PM x (Ff.decode i.obj).1) :
  RetM ah 34 #[itV i p q,.int .i64 a] M w (λr N=>∃sv,r=.tuple #[sv,.int .i64 (Cs.read i a).2]∧SecV N sv (Cs.read i a).1):=by
 refine bB hM λK hK=>Gr ?_;unfold EL nz;refine aeI i I.oneK I.oneC (OwnS.memS hM) λb2 w1 c=>?_;refine Sj c λm w2 c=>?_;have E:∀N:Mem,SecV N (secV Tl.sec0 nilS nilS nilS) Tl.sec0:=λN=>⟨nilS,nilS,nilS,rfl,SlA.nil _ _ _ _,vB N⟩;have no:∀{W:ao} {N:Mem} {L:List Ent} {e:Int} (j:Nat),OwnS M.A w W L->L[j]?=ax (secE m Tl.sec0 nilS nilS nilS)->(∃Q,L[Q]?=ax (.mem N)∧Q≠j)->M.le N->Cs.read i a=(Tl.sec0,e)->DoX ah (aS 63 #[]) W (pk K) (λt W=>DoX ah (aN 63 (.pointer (ax ⟨m,0,aw⟩)) t) W (pk K) λ_ W=>RetX ah [.cell (.pointer (ax ⟨m,0,aw⟩)) 63,.val (.int .i64 e)] W K):=by
  intro W N L e j c hj ⟨Q,b1,b3⟩ hle he;rw[ajT];refine Hu (y:=Tl.sec0) j rfl rfl rfl c hj λw4 c=>?_;have b5:=(amS.1 hj).1;refine wB (bJ (c.agg j (apN b5) VG)) vS (hK _ _ N _ Q c (by rw[arJ (Ne.symm b3)];exact b1) hle ⟨_,by rw[he],by rw[he];exact E N⟩)
 have d:=Cs.read.eq_1 i a;simp only[rs];by_cases S:a < 0
 ·rw[amB S] at d;simp only[amG S,i_t];exact no 0 c rfl ⟨2,rfl,dc⟩ M.le_refl d
 rw[amA S] at d;simp only[amE S,i_f];rw[l_at (c.agg 1 rfl OR)];refine aL c (R:=λv=>v=.int .i64 (Bd.check i)) (RX i w2 om (OV.inw (c.hasM 2 rfl) I)) ?_;rintro _ w3 rfl c;simp only[eN];by_cases O:Bd.check i=0
 case neg=>
  rw[amB O] at d;simp only[amG (show Bd.check i≠0 from O),i_t];exact no 0 c rfl ⟨2,rfl,dc⟩ M.le_refl d
 rw[amA (λh=>h O)] at d;simp only[O,show ai ((0:Int)≠0)=au from rfl,i_f];refine TG c λu w4 c=>?_
 try rw[qB]
 have c:OwnS M.A w w4 [stmE u stm0 nilS,secE m Tl.sec0 nilS nilS nilS,itE b2 i p q,.mem M]:=c;refine Qp (T:=λL=>∃x N pv,Cs.keys i.obj=ax x∧M.le N∧SlA N.A N.w pv 2 x.bF.length (rnsC x.bF)∧L=[stmE u x pv,secE m Tl.sec0 nilS nilS nilS,itE b2 i p q,.mem N])
  (F:=λL=>Cs.keys i.obj=aw∧∃N,M.le N∧L=[stmE u stm0 nilS,secE m Tl.sec0 nilS nilS nilS,itE b2 i p q,.mem N]) NW c (λbe W c K' G kT kF=>?_) ?_ ?_
 ·show CallX ah 91 #[.pointer (ax ⟨b2,0,aw⟩),.pointer (ax ⟨u,0,aw⟩)] W G K';refine⟨BQ ?_⟩;unfold uW nz;rw[SN,Qn c 3 rfl];have c:OwnS M.A w W ([eeE be 0,stmE u stm0 nilS,secE m Tl.sec0 nilS nilS nilS,itE b2 i p q]++([.mem M]++[])):=c;have bk:∀{W N e1 e2 e3 e4},OwnS M.A w W (.mem N::[e1,e2,e3,e4])->OwnS M.A w W [e1,e2,e3,e4,.mem N]:=λc=>c.perm (auW _ _).symm;refine adR c.front hw I (λx B N pv W2 hle U c=>?_) λB N W2 hle c=>kF W2 _ ⟨B,N,hle,rfl⟩ (bk c);have c:=bk c;refine NM 1 (Cs.acU B) U.one rfl c rfl λw6 c=>?_;exact kT _ _ _ ⟨x,N,pv,B,hle,U,rfl⟩ c
 rotate_left
 ·rintro W _ ⟨B,N,hle,rfl⟩ c;rw[B] at d;simp only[eN,show ai ((20:Int)≠0)=av from rfl,i_t];exact no 1 c rfl ⟨3,rfl,dc⟩ hle d
 rintro W _ ⟨x,N,pv,B,hle,U,rfl⟩ c;rw[B] at d;dsimp only at d;simp only[eN,show ai ((0:Int)≠0)=au from rfl,i_f];rw[SN,Qn c 2 rfl];refine bH c 3 rfl (RC i.obj (λx _=>pdR x) (λn h x=>agC (b0 n h)) _ N W (a6.le hle) (a7.le hle) (a8.le hle) hw (c.hasM 3 rfl) (I.le hle)) ?_;rintro _ V W2 X rfl c;have k:=k x om O B;generalize Ff.decode i.obj=D at *;obtain⟨s,e⟩:=D;dsimp only at d k;simp only[zlT,ex];refine bA (λb=>.pointer (ax ⟨b,0,aw⟩)) [.string ⟨#[]⟩] 9 (λ_=>by kernel_rfl) c λH w7 c=>?_;refine aK 0 c rfl krx rfl sm λw8 c=>?_;have c:OwnS M.A w w8 [strE H s,stmE u x pv,secE m Tl.sec0 nilS nilS nilS,itE b2 i p q,.mem V]:=c;simp only[eN];by_cases he:e=0
 case neg=>
  rw[amB he] at d;simp only[amG (show e≠0 from he),i_t];exact no 2 c rfl ⟨4,rfl,dc⟩ (hle.trans X) d
 rw[amA (λh=>h he)] at d;simp only[amE (show ¬e≠0 fromλh=>h he),i_f];obtain⟨⟨r1,r2⟩,⟨r3,r4⟩,⟨r5,r6,r7⟩,r8,r9⟩:=k he;refine bA (λb=>.pointer (ax ⟨b,0,aw⟩)) [nilS] 61 (λ_=>by kernel_rfl) c λo w9 c=>?_
 try rw[qB]
 have c:OwnS M.A w w9 [svE o nilS,strE H s,stmE u x pv,secE m Tl.sec0 nilS nilS nilS,itE b2 i p q,.mem V]:=c;refine Qp (T:=λL=>∃C J,V.le C∧SlA C.A C.w J 4 (Cs.aG x s).length (slsC (Cs.aG x s))∧L=[svE o J,strE H s,stmE u x pv,secE m Tl.sec0 nilS nilS nilS,itE b2 i p q,.mem C])
  (F:=λ_=>False) OD c (λbe W c K' G kT kF=>?_) ?_ λ_ _ h=>h.elim
 ·show CallX ah 93 #[.pointer (ax ⟨u,0,aw⟩),.pointer (ax ⟨H,0,aw⟩),.pointer (ax ⟨o,0,aw⟩)] W G K';refine⟨BS ?_⟩;unfold vM nz;have b6:aggN ah 118=ax (stmC x pv).length:=by rw[qZ r1];exact SM
  rw[l_at (c.agg 3 rfl b6),aJ Iv (c.cell 2 rfl 0 rfl)];have c:OwnS M.A w W ([eeE be 0,svE o nilS,strE H s,stmE u x pv,secE m Tl.sec0 nilS nilS nilS,itE b2 i p q]++([.mem V]++[])):=c;refine agB c.front r1 r2 (U.le X) r3 r4 r5 r6 r7 r8 r9 λC J W3 Y z c=>?_;have c:OwnS M.A w W3 (.mem C::[eeE be 0,svE o nilS,strE H s,stmE u x pv,secE m Tl.sec0 nilS nilS nilS,itE b2 i p q]):=c;have c:=c.perm (auW (Ent.mem C) _).symm;refine aK 1 c rfl krx z.one sm λw6 c=>?_;exact kT _ _ _ ⟨C,J,Y,z,rfl⟩ c
 rintro W3 _ ⟨N3,J,Y,z,rfl⟩ c;simp only[eN,show ai ((0:Int)≠0)=au from rfl,i_f];rw[SN,Qn c 4 rfl];refine bH c 5 rfl (sJ i.obj _ N3 W3 om (c.hasM 5 rfl) (((I.le hle).le X).le Y)) ?_;intro tv Z W4 l4 ht c;obtain⟨tk,tc,b8,rfl,f⟩:=ht.open;refine fK c λc0 c5 c=>?_;refine bK 0 f.keys.one f.kids.one c rfl λc6 c=>?_;rw[fP];refine aK 0 c rfl krx rfl (by simp[obC]) λc7 c=>?_;rw[FN];refine aK 0 c rfl krx rfl (by simp[obC]) λc4 c=>?_;have c:OwnS M.A w c4 [obE c0 (.mk 7 i.obj.n i.obj.g [] i.obj.keys i.obj.kids) tk tc,svE o J,strE H s,stmE u x pv,secE m Tl.sec0 nilS nilS nilS,itE b2 i p q,.mem Z]:=c;have P:OV Z.A Z.w (obV (.mk 7 i.obj.n i.obj.g [] i.obj.keys i.obj.kids) tk tc) (.mk 7 i.obj.n i.obj.g [] i.obj.keys i.obj.kids):=ObAt.ov (cs:=b8) ⟨f.keys,f.kids,f.all⟩;rw[aJ nSls (c.cell 1 rfl 0 rfl),ob_v c 0 rfl,YN,aJ aU (c.cell 3 rfl 4 ((Sw r1).2.1)),NJ,GF c 5 rfl];obtain⟨q1,c1,rfl,_⟩:=z.form;obtain⟨q2,c2,rfl,_⟩:=f.keys.form;obtain⟨q3,c3,rfl,_⟩:=f.kids.form;rw[akO (l:=Cs.aG x s)];refine Hu (y:=⟨a,Cs.aG x s,.mk 7 i.obj.n i.obj.g [] i.obj.keys i.obj.kids,x.prev,-1,i.num⟩) 4 rfl rfl rfl c rfl λc8 c=>?_;refine wB (bJ (c.agg 4 rfl VG)) vS (hK _ _ Z _ 6 c rfl (((hle.trans X).trans Y).trans l4) ⟨_,by rw[d],?_⟩);rw[d];exact⟨_,_,_,rfl,z.le l4,P⟩
end
section
open Go Eng
namespace Cs
theorem Yx (m:Nat):∀(w v:Nat),(num (m:Int) w).foldl (λv (c:UInt8)=>v*256+c.toNat) v=v*256 ^ w+m % 256 ^ w
|0,v=>by simp[num,Nat.mod_one]
|w+1,v=>by
  unfold num;rw[atG,Yx m w];have a:(UInt8.ofNat (((m:Int) / 256 ^ w) % 256).toNat).toNat=m / 256 ^ w % 256:=by
   have e:((m:Int) / 256 ^ w) % 256=((m / 256 ^ w % 256:Nat):Int):=by push_cast;rfl
   rw[e,amK,aqN,anZ (show _ < 2 ^ 8 by have:=apO (m / 256 ^ w) (show 0 < 256 by decide);omega)]
  rw[a,Nat.mod_pow_succ,aoN,aoW,arG,aoY 256 (256 ^ w),aoY (m / 256 ^ w % 256)];omega
theorem OW {n:Int}{w:Nat}(a:0<=n)(h:n < ((256 ^ w:Nat):Int)):((be (num n w):Nat):Int)=n:=by
 obtain⟨m,rfl⟩:∃m:Nat,n=(m:Int):=⟨n.toNat,om⟩;unfold be;rw[Yx m w 0,anZ om];omega
theorem YL:∀(f:Nat) (n:Int),0<=n->n < ((256 ^ f:Nat):Int)->n < ((256 ^ nbG f n:Nat):Int)
|0,n,a,h=>h
|f+1,n,a,h=>by
  unfold nbG;split
  ·have b:n.fdiv 256=n / 256:=atN _ dc;rw[b];rw[aoN] at h ⊢;have:=YL f (n / 256) om (by push_cast at h ⊢;omega)
   push_cast at this ⊢;omega
  ·show n < ((256 ^ 0:Nat):Int);have:(256:Nat) ^ 0=1:=rfl;omega
theorem foldl_max:∀(l:List Int) (m:Int),m<=l.foldl (λm x=>max m x) m∧∀x∈l,x<=l.foldl (λm x=>max m x) m
|[],m=>⟨arV _,λ_ h=>by cases h⟩
|a::l,m=>by
  obtain⟨d,c⟩:=foldl_max l (max m a);rw[atG];refine⟨om,λx b=>?_⟩;rcases amH.1 b with rfl|b
  ·omega
  ·exact c x b
theorem Qd {B:Int}:∀(l:List Int) (m:Int),m<=B->(∀x∈l,x<=B)->l.foldl (λm x=>max m x) m<=B
|[],m,h,_=>h
|a::l,m,h,b=>by
  rw[atG];exact Qd l _ (by have:=b a (anQ ..);omega) λx c=>b x (anA _ c)
theorem Vd {l:List Int}(a:∀x∈l,x<=2147483647){x:Int}(b:x∈l):x < ((256 ^ nb (maxL l):Nat):Int):=by
 obtain⟨c,d⟩:=foldl_max l 0;have f:=Qd (B:=2147483647) l 0 dc a;have e:=YL 4 (maxL l) c (by show maxL l < 4294967296;unfold maxL;omega);have g:=d x b;unfold nb;unfold maxL at e ⊢;omega
theorem Jo (a b:Nat):∀(l:List Slt) (k:Nat) (h:k < l.length),(tE l a b).drop (k*(1+a+b))=mV l[k] a b++tE (l.drop (k+1)) a b
|s::l,0,_=>by rw[apI];rfl
|s::l,k+1,h=>by
  have c:=Jo a b l k (by simpa using h);show (mV s a b++tE l a b).drop _=_;rw[aoM,arX,<-aqJ,asP (Hx s a b),c];rfl
theorem M7 {l:List Slt}{ps:List (Int×Int)}{q:Int}(i:Tl.check l=0)(g:nums ps=l.map (·.num)):aG ⟨[1,(wa l:Nat),(wb l:Nat)],ps,q⟩ (rows l)=l:=by
 have c:=λx d=>Tl.Me (Tl.xE i x d);refine atT ?_ λk v e=>?_
 ·rw[Mp];show (nums ps).length=_;rw[g,anP]
 have j:=Mq (x:=⟨[1,(wa l:Nat),(wb l:Nat)],ps,q⟩) (s:=rows l) (k:=k) (n:=l[k].num) (by show (nums ps)[k]?=_;rw[g,aqL,amN e];rfl);rw[(amS.1 j).2];obtain⟨⟨w,a2⟩,⟨m,z⟩,⟨o,b2⟩,p,A⟩:=c l[k] (amR e);have r:l[k].a < ((256 ^ wa l:Nat):Int):=Vd (λx d=>by obtain⟨y,f,rfl⟩:=anK.1 d;exact (c y f).2.2.1.2) (anK.2 ⟨l[k],amR e,rfl⟩);have t:l[k].b < ((256 ^ wb l:Nat):Int):=Vd (λx d=>by obtain⟨y,f,rfl⟩:=anK.1 d;have:=(c y f).2.2.2.2;omega) (anK.2 ⟨l[k],amR e,rfl⟩);have hw:wide ⟨[1,(wa l:Nat),(wb l:Nat)],ps,q⟩=1+wa l+wb l:=by
  show (1:Int).toNat+((wa l:Nat):Int).toNat+((wb l:Nat):Int).toNat=_;rw[amK,amK];rfl
 have u:=Jo (wa l) (wb l) l k e;unfold rowAt;dsimp only;rw[hw];show (⟨l[k].num,field (rows l) 0 (k*(1+wa l+wb l)) 1,field (rows l) 1 (k*(1+wa l+wb l)+1) ((wa l:Nat):Int),field (rows l) 2 (k*(1+wa l+wb l)+1+((wa l:Nat):Int).toNat) ((wb l:Nat):Int)⟩:Slt)=l[k];have d0:(rows l).drop (k*(1+wa l+wb l))=num l[k].kind 1++(num l[k].a (wa l)++(num l[k].b (wb l)++tE (l.drop (k+1)) (wa l) (wb l))):=by
  unfold rows;rw[u];unfold mV;simp only[amM]
 have d1:(rows l).drop (k*(1+wa l+wb l)+1)=num l[k].a (wa l)++(num l[k].b (wb l)++tE (l.drop (k+1)) (wa l) (wb l)):=by
  rw[<-aqJ,d0,asP (jJ _ _)]
 have d2:(rows l).drop (k*(1+wa l+wb l)+1+wa l)=num l[k].b (wb l)++tE (l.drop (k+1)) (wa l) (wb l):=by
  rw[<-aqJ,d1,asP (jJ _ _)]
 have f0:field (rows l) 0 (k*(1+wa l+wb l)) 1=l[k].kind:=by
  unfold field;rw[amA (λh=>by have:=h.1;exact absurd this dc)];unfold fld;rw[d0,show (1:Int).toNat=1 from rfl,aoG (jJ _ _)];exact OW m (by show l[k].kind < 256;omega)
 have f1:field (rows l) 1 (k*(1+wa l+wb l)+1) ((wa l:Nat):Int)=l[k].a:=by
  unfold field;rw[amA (λh=>by have:=h.2;exact absurd this dc)];unfold fld;rw[d1,amK,aoG (jJ _ _)];exact OW o r
 have f2:field (rows l) 2 (k*(1+wa l+wb l)+1+((wa l:Nat):Int).toNat) ((wb l:Nat):Int)=l[k].b:=by
  unfold field;rw[amA (λh=>by have:=h.2;exact absurd this dc)];unfold fld;rw[amK (wb l),amK (wa l),d2,aoG (jJ _ _)];exact OW p t
 rw[f0,f1,f2]
end Cs
end
section
open Go Eng
namespace Cs
def Runs:Int->List (Int×Int)->Prop
|_,[]=>True
|up,r::l=>(up<=r.1∧0<=r.2∧r.1+r.2<=8192)∧Runs (r.1+r.2) l
theorem GJ:∀{l:List (Int×Int)} {up:Int},0<=up->Runs up l->∀r∈l,0<=r.1∧0<=r.2∧r.1+r.2<=8192
|[],_,_,_,_,h=>by cases h
|a::l,up,f,⟨⟨g,c,d⟩,e⟩,r,b=>by
  rcases amH.1 b with rfl|b
  ·exact⟨om,c,d⟩
  ·exact GJ om e r b
theorem Js:∀{l:List (Int×Int)} {up:Int},0<=up->Runs up l->index up ((flat l).map intO)=ax l
|[],_,_,_=>rfl
|a::l,up,h,⟨⟨d,i,e⟩,f⟩=>by
  have g:=Js (l:=l) (up:=a.1+a.2) om f;show index up (intO a.1::intO a.2::(flat l).map intO)=_;unfold index;have b:(intO a.1).n=a.1:=rfl;have c:(intO a.2).n=a.2:=rfl;rw[b,c,amB ⟨⟨rfl,by rw[b];omega,by rw[b];omega⟩,⟨rfl,by rw[c];omega,by rw[c];omega⟩,d,e⟩,g];rfl
theorem ZA:∀{l:List (Int×Int)} {up:Int},0<=up->Runs up l->0<=size l∧size l<=8192:=by
 intro l up a h;unfold size;cases e:l.getLast? with
|none=>exact⟨arV _,dc⟩
|some r=>
  obtain⟨b,c,d⟩:=GJ a h r (List.mem_of_mem_getLast? e);show 0<=r.1+r.2∧r.1+r.2<=8192;omega
theorem LA:∀{g:List Slt} {n:Int},Tl.IL n g->run1 (n,(g.length:Int))=g.map (·.num)
|[],n,_=>rfl
|x::g,n,⟨b,c⟩=>by
  have a:=LA c;unfold run1 at a ⊢;rw[amK] at a ⊢;rw[amW,List.range_succ_eq_map,anS,anS,asA,b]
  congr 1
  ·show n+((0:Nat):Int)=n;omega
  ·rw[<-a];refine arM λk _=>?_;show n+((k+1:Nat):Int)=n+1+(k:Nat);omega
theorem HI:∀{gs:List (List Slt)},(∀g∈gs,Tl.Grp g)->nums (gs.map Tl.run)=gs.flatten.map (·.num)
|[],_=>rfl
|g::gs,h=>by
  have a:=HI (gs:=gs) λg b=>h g (anA _ b);have:=LA (h g (anQ ..)).2;show run1 (Tl.run g)++nums (gs.map Tl.run)=_;rw[a,atA,anN,<-this];rfl
theorem MY (l:List Slt):nums (Tl.runs l)=l.map (·.num):=by
 obtain⟨a,b⟩:=Tl.xX l;unfold Tl.runs;rw[HI b,a]
theorem Gz:∀{gs:List (List Slt)} {up:Int},(∀g∈gs,Tl.Grp g)->(∀x∈gs.flatten,up<=x.num∧x.num<=8191)->Tl.adC gs.flatten->Runs up (gs.map Tl.run)
|[],_,_,_,_=>trivial
|g::gs,up,h,a,c=>by
  rw[atA] at a c;obtain⟨m,f,i⟩:=aqI.1 c;have b:=h g (anQ ..);obtain⟨y,d,j⟩:=Tl.Xc b;have k:up<=Tl.first g:=by
   cases g with
  |nil=>exact absurd rfl b.1
  |cons z g=>exact (a z sm).1
  have l:=(a y (atW _ d)).2;refine⟨⟨k,Int.natCast_nonneg _,by show Tl.first g+(g.length:Int)<=8192;omega⟩,?_⟩;refine Gz (λg b=>h g (anA _ b)) (λx e=>⟨?_,(a x (atX _ e)).2⟩) f;have:=i y d x e;show Tl.first g+(g.length:Int)<=x.num
  omega
theorem L1 {l:List Slt}(a:Tl.check l=0):Runs 0 (Tl.runs l):=by
 obtain⟨b,d⟩:=Tl.xX l;refine Gz d (λx c=>?_) (by rw[b];exact (Tl.LJ a).2.1);rw[b] at c;have:=Tl.Me (Tl.xE a x c);omega
end Cs
end
section
open Go Eng
namespace Cs
theorem Nw (x:Sec):(∀p∈bF x,p.2.k≠0)∧((bF x).map (·.1)).Nodup∧bF x≠[]:=by
 unfold bF;split
 ·refine⟨λp hp=>?_,by show [mY,iT,kW,gD,rG].Nodup;decide,sm⟩;simp only[apR,anV,amH,anW,or_false] at hp;rcases hp with rfl|rfl|rfl|rfl|rfl
  ·show (5:Int)≠0;decide
  ·show (2:Int)≠0;decide
  ·show (6:Int)≠0;decide
  ·show (6:Int)≠0;decide
  ·show (2:Int)≠0;decide
 ·refine⟨λp hp=>?_,by show [mY,iT,kW,gD].Nodup;decide,sm⟩;simp only[amY,amH,anW,or_false] at hp;rcases hp with rfl|rfl|rfl|rfl
  ·show (5:Int)≠0;decide
  ·show (2:Int)≠0;decide
  ·show (6:Int)≠0;decide
  ·show (6:Int)≠0;decide
theorem Rc (o:Ob):Vl.get (sV o) rG=none:=by
 refine Vl.Zd λh=>?_;have h:rG∈bw:=by
  unfold sV at h;split at h
  ·cases h
  ·have h:rG∈(has o bw).map (·.1):=h;obtain⟨p,hp,e⟩:=anK.1 h;obtain⟨k,c,a⟩:=List.mem_filterMap.1 hp;cases b:Vl.get o k with
  |none=>rw[b] at a;cases a
  |some v=>
    rw[b] at a;have:=apF a;rw[<-e,<-this];exact c
 exact absurd h dc
theorem WK {x:Sec}(h:(dict x).2=0):(∀p∈bF x,Vl.get (dict x).1 p.1=ax p.2)∧Vl.get (dict x).1 rG=if 0<=x.prev then ax (intO x.prev) else none:=by
 obtain⟨a,b,c⟩:=Nw x;obtain⟨_,_,i3,i4⟩:=LP (o:=sV x.trailer) (l:=bF x) h a b c;refine⟨i3,?_⟩;by_cases hp:0<=x.prev
 ·rw[amB hp];refine i3 (rG,intO x.prev) ?_;unfold bF;rw[amB hp];exact atX _ (anB.2 rfl)
 ·rw[amA hp];refine (i4 rG ?_).trans (Rc _);unfold bF;rw[amA hp];show rG ∉ [mY,iT,kW,gD]
  decide
theorem SE {x:Sec}{P:Ob}(j:(dict x).2=0)(l:Tl.check x.aG=0)(hp:-1<=x.prev∧x.prev<=2147483647)(m:P.k=9)(b:∀k,k≠Ff.aX->k≠Ff.cL->k≠Vl.lenK->Vl.get P k=Vl.get (dict x).1 k) :
  keys P=ax ⟨[1,(wa x.aG:Nat),(wb x.aG:Nat)],Tl.runs x.aG,x.prev⟩:=by
 obtain⟨d1,d2⟩:=WK j;have g:=L1 l;have d:=ZA (arV 0) g;have z:=Mc x.aG;have A:=MQ x.aG;have a:∀p∈[(mY,Ff.cE zK),(iT,intO (size (Tl.runs x.aG))),(kW,arrO [1,(wa x.aG:Nat),(wb x.aG:Nat)]),(gD,arrO (flat (Tl.runs x.aG)))],Vl.get (dict x).1 p.1=ax p.2:=λp hp=>d1 p (atW _ hp);have o:Vl.get P mY=ax (Ff.cE zK):=(b _ dc dc dc).trans (a (mY,_) (.head _));have q:Vl.get P iT=ax (intO (size (Tl.runs x.aG))):=(b _ dc dc dc).trans (a (iT,_) (.tail _ (.head _)));have r:Vl.get P kW=ax (arrO [1,(wa x.aG:Nat),(wb x.aG:Nat)]):=(b _ dc dc dc).trans (a (kW,_) (.tail _ (.tail _ (.head _))));have s:Vl.get P gD=ax (arrO (flat (Tl.runs x.aG))):=(b _ dc dc dc).trans (a (gD,_) (.tail _ (.tail _ (.tail _ (.head _)))));have t:Vl.get P rG=if 0<=x.prev then ax (intO x.prev) else none:=(b _ dc dc dc).trans d2
 have u:got P mY=Ff.cE zK:=by unfold got;rw[o];rfl
 have v:got P iT=intO (size (Tl.runs x.aG)):=by unfold got;rw[q];rfl
 have i:got P kW=arrO [1,(wa x.aG:Nat),(wb x.aG:Nat)]:=by unfold got;rw[r];rfl
 have w:isX P:=by
  unfold isX;rw[u,v,i];refine⟨m,⟨rfl,rfl⟩,⟨rfl,d⟩,rfl,rfl,λy c=>?_⟩;have c:y∈[intO 1,intO (wa x.aG:Nat),intO (wb x.aG:Nat)]:=c;simp only[amH,anW,or_false] at c;rcases c with rfl|rfl|rfl
  ·exact⟨rfl,by show (0:Int)<=1;decide,by show (1:Int)<=4;decide⟩
  ·exact⟨rfl,by show (0:Int)<=(wa x.aG:Nat);omega,by show ((wa x.aG:Nat):Int)<=4;omega⟩
  ·exact⟨rfl,by show (0:Int)<=(wb x.aG:Nat);omega,by show ((wb x.aG:Nat):Int)<=4;omega⟩
 have e:uK P=ax (Tl.runs x.aG):=by
  unfold uK;rw[s];show (if (6:Int)=6 then index 0 ((flat (Tl.runs x.aG)).map intO) else aw)=_;rw[amB rfl];exact Js (arV 0) g
 have f:Ew P=ax x.prev:=by
  unfold Ew;rw[t];by_cases h:0<=x.prev
  ·rw[amB h];show (if inr (intO x.prev) 2147483647 then ax (intO x.prev).n else aw)=_;rw[amB ⟨rfl,h,hp.2⟩];rfl
  ·rw[amA h];show ax (-1:Int)=ax x.prev;rw[show x.prev=-1 by omega]
 unfold keys;rw[amB w,e,f,i];rfl
theorem aaG {x:Sec}(e:x.aG.length<=8192)(c:Tl.check x.aG=0):PM ⟨[1,(wa x.aG:Nat),(wb x.aG:Nat)],Tl.runs x.aG,x.prev⟩ (rows x.aG) ∧
  aG ⟨[1,(wa x.aG:Nat),(wb x.aG:Nat)],Tl.runs x.aG,x.prev⟩ (rows x.aG)=x.aG:=by
 have a:=M7 (q:=x.prev) c (MY x.aG);have f:=GJ (arV 0) (L1 c);have h:=Mc x.aG;have i:=MQ x.aG;have g:=Tl.CN x.aG;have b:(nums (Tl.runs x.aG)).length=x.aG.length:=by rw[MY,anP]
 have hw:wide ⟨[1,(wa x.aG:Nat),(wb x.aG:Nat)],Tl.runs x.aG,x.prev⟩=1+wa x.aG+wb x.aG:=by
  show (1:Int).toNat+((wa x.aG:Nat):Int).toNat+((wb x.aG:Nat):Int).toNat=_;rw[amK,amK];rfl
 have hlen:(rows x.aG).length=x.aG.length*(1+wa x.aG+wb x.aG):=tC _ _ _;have hle:x.aG.length*(1+wa x.aG+wb x.aG)<=8192*9:=apM e om;refine⟨⟨⟨rfl,λn b=>?_⟩,⟨by show (Tl.runs x.aG).length<=_;omega,λp hp=>by have:=f p hp;omega⟩,⟨by show (nums (Tl.runs x.aG)).length<=_;omega,by rw[hw];show (nums (Tl.runs x.aG)).length*_<=_;rw[b,hlen];exact amJ _,om⟩,λy d=>?_,by rw[a];exact c⟩,a⟩
 ·have b:n∈[1,((wa x.aG:Nat):Int),((wb x.aG:Nat):Int)]:=b;simp only[amH,anW,or_false] at b;rcases b with rfl|rfl|rfl<;>omega
 ·rw[a] at d;exact (Tl.Me (Tl.xE c y d)).2.1.2
theorem Lr {x:Sec}{i:It}(h:IJ x i 0)(f:x.aG.length<=8192)(F:0<=a) :
  (∀y,0<=a->Bd.check i=0->keys i.obj=ax y->(Ff.decode i.obj).2=0->PM y (Ff.decode i.obj).1)∧(∀n∈(Ff.of i.obj).1,Ff.full n=Ff.nFl)∧i.num=x.own∧i.gen=0∧∃t,t.k=7∧read i a=(⟨a,x.aG,t,x.prev,-1,x.own⟩,0):=by
 unfold IJ at h;have b:=why.eq_1 x;by_cases hw:why x≠0
 ·rw[amB hw] at h;exact absurd h.2.symm hw
 rw[amA hw] at h;have hw:=apJ.1 hw;rw[hw] at b;obtain⟨D,m,he,hi⟩:=h;rw[amA (λh=>h he.symm)] at hi;by_cases d:Tl.check x.aG≠0
 ·rw[amB d] at b;exact absurd b.symm d
 rw[amA d] at b;have d:=apJ.1 d;by_cases o:x.own < 1∨8191 < x.own∨x.prev < -1∨2147483647 < x.prev
 ·rw[amB o] at b;cases b
 rw[amA o] at b;by_cases c3:Vl.check 1 x.trailer≠0
 ·rw[amB c3] at b;exact absurd b.symm c3
 rw[amA c3] at b;by_cases p:x.trailer.k≠7
 ·rw[amB p] at b;cases b
 rw[amA p] at b;by_cases e:(dict x).2≠0
 ·rw[amB e] at b;exact absurd b.symm e
 have e:=apJ.1 e;have l:=M1 e;have q:=F9 f;have hlen:(rows x.aG).length=x.aG.length*(1+wa x.aG+wb x.aG):=tC _ _ _;have G:=Mc x.aG;have H:=MQ x.aG;have hle:x.aG.length*(1+wa x.aG+wb x.aG)<=8192*9:=apM f om;have u:D.length<=1048576:=by
  have:=m;unfold Ff.OneR at this;rw[amA dc,amB dc,amB (Gj f)] at this;omega
 obtain⟨r,v,⟨s,w⟩,z⟩:=Ff.SI he.symm m (ZT x.aG) u om;have c:=SE e d om r λk n1 n2 n3=>z k n1 n2 n3 (.inl l);obtain⟨A,B⟩:=aaG f d;subst hi;have C:Bd.check ⟨x.own,0,(Ff.encF (dict x).1 (pm x.aG) D).1⟩=0:=by
  unfold Bd.check;rw[amA,amA (λh=>h v),amA (by show ¬(Ff.encF (dict x).1 (pm x.aG) D).1.k=8;rw[r];decide)];have:Dk.numbers ⟨x.own,0,(Ff.encF (dict x).1 (pm x.aG) D).1⟩=true:=by
   simp only[Dk.numbers,amX,anI];omega
  rw[this];decide
 refine⟨λy _ _ E _=>?_,λn j=>?_,rfl,rfl,.mk 7 (Ff.encF (dict x).1 (pm x.aG) D).1.n (Ff.encF (dict x).1 (pm x.aG) D).1.g [] (Ff.encF (dict x).1 (pm x.aG) D).1.keys (Ff.encF (dict x).1 (pm x.aG) D).1.kids,rfl,?_⟩
 ·have:=c.symm.trans E;rw[<-apF this];show PM _ (Ff.decode (Ff.encF (dict x).1 (pm x.aG) D).1).1;rw[s];exact A
 ·have j:n∈(Ff.of (Ff.encF (dict x).1 (pm x.aG) D).1).1:=j;rw[w] at j;rw[anB.1 j];decide
 ·unfold read;rw[amA om,amA (λh=>h C)];show (match keys (Ff.encF (dict x).1 (pm x.aG) D).1 with|none=>_|some x=>_)=_;rw[c];dsimp only;rw[s,amA (show ¬((0:Int)≠0) by decide),B]
end Cs
end
section
open Go Eng
namespace Ff
theorem Wm {v:Ob}:(Vl.put o key v).kids.length<=o.kids.length+1:=by
 show (o.kids.take _++v::o.kids.drop _).length<=_;rw[amC,amW,amL,amQ];omega
theorem Uj {v:Ob}(c:Vl.check 1 o=0)(d:Vl.keyed o=av)(f:Vl.name key=av)(hL:key≠Vl.lenK)(e:v.k≠0)(a:Vl.check 2 v=0)(g:o.kids.length<=8190):Vl.set o key v=(Vl.put o key v,0):=by
 have b:=Vl.MG c d f (λ_=>hL) e a g;unfold Vl.set Vl.right;rw[amA (by rw[d];decide),amA (by rw[c];decide),amA e,amA (by rw[b];decide)]
theorem V8 {p:Pm}{D:List UInt8}(h:(plain o D).2=0)(c:D.length<=1048576)(hp:pmI p)(j:o.kids.length<=8188):(encF o p D).2=0:=by
 obtain⟨d,l,b,m,n,q⟩:=QL h c;have a:Vl.keyed (plain o D).1=true:=by simp[Vl.keyed,d]
 have e:=Uj (key:=aX) (v:=cE nFl) b a dc dc (show (5:Int)≠0 by decide) (Gs nFl 2 dc) om;have f:=Vl.MG (key:=aX) (v:=cE nFl) b a dc (λ_=>by decide) (show (5:Int)≠0 by decide) (Gs nFl 2 dc) om;have g:=Wm (o:=(plain o D).1) (key:=aX) (v:=cE nFl);have i:=Uj (key:=cL) (v:=eS p) f a dc dc (show (7:Int)≠0 by decide) (GD p 2 dc hp) om;unfold encF;rw[amA (λk=>k h),e,amA (show ¬((0:Int)≠0) by decide)];dsimp only;rw[i,amA (show ¬((0:Int)≠0) by decide)]
end Ff
namespace Cs
theorem Xw {x:Sec}{i:It}{e:Int}(h:IJ x i e)(a:x.aG.length<=8192)(hw:why x=0)(hp:∀D,(Ff.plain (dict x).1 D).2=0)(d:(dict x).1.kids.length<=8188):e=0:=by
 unfold IJ at h;rw[amA (λk=>k hw)] at h;obtain⟨D,b,he,_⟩:=h;rw[he];have c:=F9 a;refine Ff.V8 (hp D) ?_ (pm_I _) d;unfold Ff.OneR at b;rw[amA dc,amB dc,amB (Gj a)] at b;omega
def smpL:List Slt:=[⟨1,1,300,0⟩,⟨2,1,5,0⟩]
def smpX:Sec:=⟨0,smpL,.mk 7 0 0 [] [] [],7,-1,2⟩
def smpZ:Sec:=⟨0,[],.mk 7 0 0 [] [] [],0,0,0⟩
def smpI:It:=⟨1,0,.mk 7 0 0 [] [] []⟩
theorem Zt:why smpX=0:=by decide +kernel
theorem WE:(dict smpX).1.kids.length<=8188:=by decide +kernel
theorem Tk (D:List UInt8):(Ff.plain (dict smpX).1 D).2=0:=by
 unfold Ff.plain;rw[amA (by decide +kernel),amA (by decide +kernel)]
theorem Pq:why smpZ=1:=by decide +kernel
theorem XK:read smpI 0=(Tl.sec0,20):=by
 have a:Bd.check smpI=0:=by decide +kernel
 have b:keys smpI.obj=none:=by decide +kernel
 unfold read;rw[amA dc,amA (λh=>h a),b]
theorem X4:wa smpL=2∧wb smpL=0:=by decide +kernel
end Cs
end
section
open Go Eng
namespace Cs
theorem WO (p:Pm):(Ff.eS p).wt<=100:=by
 have:(Ff.eS p).wt=(Ff.eS ⟨0,0,0⟩).wt:=rfl;rw[this];decide +kernel
theorem Zu (o:Ob)(p:Pm)(D:List UInt8):(Ff.encF o p D).1.wt<=o.wt+D.length+1000:=by
 have a:=Ff.Qh o D;have b:=Vl.LX (Ff.plain o D).1 Ff.aX (Ff.cE Ff.nFl);have c:=Vl.LX (Vl.set (Ff.plain o D).1 Ff.aX (Ff.cE Ff.nFl)).1 Ff.cL (Ff.eS p);have d:=WO p;have e:(Ff.cE Ff.nFl).wt<=100:=by decide +kernel
 have f:Ff.aX.length<=20:=dc
 have g:Ff.cL.length<=20:=dc
 have h:Vl.ob0.wt<=6:=dc
 unfold Ff.encF;split
 ·omega
 split
 ·show Vl.ob0.wt<=_;omega
 split
 ·show Vl.ob0.wt<=_;omega
 ·show (Vl.set (Vl.set (Ff.plain o D).1 Ff.aX (Ff.cE Ff.nFl)).1 Ff.cL (Ff.eS p)).1.wt<=_;omega
theorem Uk {x:Sec}{i:It}{e:Int}(h:IJ x i e)(a:x.aG.length<=8192)(hw:x.trailer.wt<=10000000):i.obj.wt<=1000000000:=by
 have k:Dk.it0.obj.wt<=6:=dc
 unfold IJ at h;split at h
 ·rw[h.1];omega
 obtain⟨D,b,he,hi⟩:=h;rw[hi];split
 ·omega
 have c:=F9 a;have l:D.length<=1048576:=by
  unfold Ff.OneR at b;rw[amA dc,amB dc,amB (Gj a)] at b;omega
 have m:=Zu (dict x).1 (pm x.aG) D;have n:=Pz x.trailer;have d:=Tl.CN x.aG;obtain⟨f,g⟩:=La x om;have j:=GG (bF x) (sV x.trailer) 100000 f;have o:(100000+11)*(bF x).length<=(100000+11)*5:=atV _ g;have p:(dict x).1.wt<=(sV x.trailer).wt+(100000+11)*(bF x).length+6:=j;show (Ff.encF (dict x).1 (pm x.aG) D).1.wt<=_;omega
end Cs
end
section
open Eng Go.RowKit
theorem ov7 (N:Mem):OV N.A N.w (obV (.mk 7 0 0 [] [] []) nilS nilS) (.mk 7 0 0 [] [] []):=ObAt.ov (o:=.mk 7 0 0 [] [] []) (vk:=nilS) (vc:=nilS) (cs:=[]) ⟨SlA.nil _ _ _ _,SlA.nil _ _ _ _,.nil⟩
theorem HK (M:Mem)(w:ao)(o:Rp M)(p:Od M)(f:Pws M)(hM:M.has w):RetM ah 32 #[] M w (λr _=>r=.bool av):=by
 refine bB hM λK hK=>tL ?_;unfold nP nz;have e1:∀{PK:PKT} {K:VWP} {W:ao},DoX ah (aS 83 #[(0,.int .i64 1),(1,.int .i64 1),(2,.int .i64 300)]) W PK K=K (slV ⟨1,1,300,0⟩) W:=λ{PK K W}=>aD krx;have e2:∀{PK:PKT} {K:VWP} {W:ao},DoX ah (aS 83 #[(0,.int .i64 2),(1,.int .i64 1),(2,.int .i64 5)]) W PK K=K (slV ⟨2,1,5,0⟩) W:=λ{PK K W}=>aD krx;have e3:∀{PK:PKT} {K:VWP} {W:ao},DoX ah (aS 25 #[(0,.int .i64 7)]) W PK K=K (obV (.mk 7 0 0 [] [] []) nilS nilS) W:=λ{PK K W}=>aD krx;have e4:∀{b:Nat} {PK:PKT} {K:VWP} {W:ao},DoX ah (aS 63 #[(1,.slice (ax ⟨b,0,aw⟩) 2 2),(2,obV (.mk 7 0 0 [] [] []) nilS nilS),(3,.int .i64 7),(4,.int .i64 (-1)),(5,.int .i64 2)]) W PK K=K (secV Cs.smpX (.slice (ax ⟨b,0,aw⟩) 2 2) nilS nilS) W:=λ{b PK K W}=>aD krx;have e5:∀{PK:PKT} {K:VWP} {W:ao},DoX ah (aS 63 #[(2,obV (.mk 7 0 0 [] [] []) nilS nilS)]) W PK K=K (secV Cs.smpZ nilS nilS nilS) W:=λ{PK K W}=>aD krx;have e6:∀{PK:PKT} {K:VWP} {W:ao},DoX ah (aS 57 #[(0,.int .i64 1),(2,obV (.mk 7 0 0 [] [] []) nilS nilS)]) W PK K=K (itV Cs.smpI nilS nilS) W:=λ{PK K W}=>aD krx;rw[e1,e2];refine bA (λb=>.slice (ax ⟨b,0,aw⟩) 2 2) (slsC Cs.smpL) 83 (λ_=>by kernel_rfl) (OwnS.memS hM) λb1 w1 c=>?_;have c:=c.toU 4 2 2 rfl om om;obtain⟨N1,l1,g,c⟩:=c.bI 0 rfl;have g:SlA N1.A N1.w (.slice (ax ⟨b1,0,aw⟩) 2 2) 4 Cs.smpL.length (slsC Cs.smpL):=g;rw[e3,e4];refine Sj c λb2 w2 c=>?_;refine Hu (y:=Cs.smpX) 0 rfl rfl rfl c rfl λw3 c=>?_;rw[se_v c 0 rfl];have c:OwnS M.A w w3 [secE b2 Cs.smpX (.slice (ax ⟨b1,0,aw⟩) 2 2) nilS nilS,.mem N1]:=c;refine bH c 1 rfl (GV Cs.smpX _ nilS nilS N1 w3 (f.le l1) dc dc (c.hasM 1 rfl) g (ov7 N1)) ?_;rintro _ N2 w4 l2 ⟨i,e,u,x,rfl,q,h⟩ c;have he:e=0:=Cs.Xw q dc Cs.Zt Cs.Tk Cs.WE;subst he;obtain⟨B,C,D,E,t,b6,a1⟩:=Cs.Lr q dc (a:=9) dc;have m:i.obj.wt<=1000000000:=Cs.Uk q dc dc;have c:=c.tail;simp only[ex];refine Wa c λb3 w5 c=>?_;refine Jn 0 (i':=i) h.oneK h.oneC c rfl λw6 c=>?_;have c:OwnS M.A w w6 [itE b3 i u x,.mem N2]:=c;rw[l_at (c.agg 0 rfl OR)];have j:=l1.trans l2;refine bH c 1 rfl (B1 i 9 N2 w6 (o.le j) (p.le j) (f.le j) m (c.hasM 1 rfl) h C B) ?_;rintro _ N3 w7 l3 ⟨sv,rfl,d⟩ c;rw[a1] at d ⊢;obtain⟨z,F,G,rfl,H,I⟩:=d;simp only[ex];refine Sj c λJ w8 c=>?_;refine Hu (y:=⟨9,Cs.smpL,t,7,-1,2⟩) 0 H.one I.oneK I.oneC c rfl λw9 c=>?_;have c:OwnS M.A w w9 [secE J ⟨9,Cs.smpL,t,7,-1,2⟩ z F G,itE b3 i u x,.mem N3]:=c;rw[e3,e6];have k:=j.trans l3;refine bH c 2 rfl (B1 Cs.smpI 0 N3 w9 (o.le k) (p.le k) (f.le k) dc (c.hasM 2 rfl) (ov7 N3) (λn hn=>by cases hn) (λy _ _ hy _=>by
  have:Cs.keys Cs.smpI.obj=none:=by decide +kernel
  rw[this] at hy;cases hy)) ?_
 rintro _ N4 b8 Y ⟨sv,rfl,d⟩ c;rw[Cs.XK] at d ⊢;obtain⟨zs,zk,zc,rfl,a6,L⟩:=d;simp only[ex];refine Sj c λb7 c0 c=>?_;refine Hu (y:=Tl.sec0) 0 a6.one L.oneK L.oneC c rfl λN c=>?_;have c:=c.tail;have c:OwnS M.A w N [secE J ⟨9,Cs.smpL,t,7,-1,2⟩ z F G,itE b3 i u x,.mem N4]:=c;rw[l_at (c.agg 1 rfl OR)];have l:=k.trans Y;refine bH c 2 rfl (B1 i (-1) N4 N (o.le l) (p.le l) (f.le l) m (c.hasM 2 rfl) ((h.le l3).le Y) C (λy h0 _ _ _=>absurd h0 dc)) ?_;rintro _ N5 c1 l5 ⟨sv,rfl,d⟩ c;have a7:Cs.read i (-1)=(Tl.sec0,1):=by unfold Cs.read;rw[amB dc]
 rw[a7] at d ⊢;obtain⟨us,uk,uc,rfl,a8,O⟩:=d;simp only[ex];refine Sj c λb9 c2 c=>?_;refine Hu (y:=Tl.sec0) 0 a8.one O.oneK O.oneC c rfl λP c=>?_;have c:=c.tail;have c:OwnS M.A w P [secE J ⟨9,Cs.smpL,t,7,-1,2⟩ z F G,itE b3 i u x,.mem N5]:=c;rw[e3,e5];have b0:=l.trans l5;refine bH c 2 rfl (GV Cs.smpZ nilS nilS nilS N5 P (f.le b0) dc dc (c.hasM 2 rfl) (SlA.nil _ _ _ _) (ov7 N5)) ?_;rintro _ N6 c3 l6 ⟨i2,b4,jk,jc,rfl,s,Q⟩ c;have hZ:b4=1:=by
  unfold Cs.IJ at s;rw[amB (by rw[Cs.Pq];decide)] at s;rw[s.2,Cs.Pq]
 subst hZ;simp only[ex];refine Wa c λc4 c5 c=>?_;refine Jn 0 (i':=i2) Q.oneK Q.oneC c rfl λS c=>?_;have c:=c.tail;have c:OwnS M.A w S [secE J ⟨9,Cs.smpL,t,7,-1,2⟩ z F G,itE b3 i u x,.mem N6]:=c;have lN:=((((l2.trans l3).trans Y).trans l5).trans l6);refine bH c 2 rfl (Hn Cs.smpL _ N6 S dc (c.hasM 2 rfl) (g.le lN)) ?_;rintro _ Z T l7 rfl c;have c:OwnS M.A w T [secE J ⟨9,Cs.smpL,t,7,-1,2⟩ z F G,itE b3 i u x,.mem Z]:=c;rw[m_w3,Cs.X4.1,Cs.X4.2];have e7:∀{PK:PKT} {K:VWP} {W:ao} {xo yo:Operand},DoX ah (mEq .eql 71 xo yo (w3V ((2:Nat):Int) ((0:Nat):Int)) (w3V 2 0)) W PK K=K (.bool av) W:=λ{PK K W xo yo}=>aD krx;rw[e7];have U:=(g.le lN).le l7;have V:=((((H.le Y).le l5).le l6).le l7);have X:M.le Z:=(l1.trans lN).trans l7;simp only[rs,amD];rw[NJ,GF c 1 rfl,D];have e8:Cs.smpX.own=2:=rfl;simp only[rs,e8,amD];rw[V7,PS c 1 rfl,E];simp only[rs,amD];rw[C6,Ll c 0 rfl]
 try simp only[rs,amD]
 refine aL c (R:=λv=>v=.bool (ai (Cs.smpL=Cs.smpL))) (E7 Cs.smpL Cs.smpL z _ Z T dc (c.hasM 2 rfl) V U) ?_;rintro _ c6 rfl c;simp only[rs,amD];rw[JF,aJ aU (c.cell 0 rfl 8 rfl)];simp only[rs,amD];rw[YK,aJ aU (c.cell 0 rfl 9 rfl)];simp only[rs,amD];rw[Jx,aJ aU (c.cell 0 rfl 10 rfl)];simp only[rs,amD];rw[Yi,aJ aU (c.cell 0 rfl 0 rfl)];simp only[rs,amD];exact hK _ _ Z _ 2 c rfl X rfl
end
section
open Eng Go.RowKit
theorem J8 (x:Sec)(vs vk vc:aq)(a:Int)(M:Mem)(w:ao)(k:Rp M)(l:Od M)(g:Pws M)(O:M.has w)(P:x.aG.length<=1000000000)(hw:x.trailer.wt<=10000000)
  (d:SlA M.A M.w vs 4 x.aG.length (slsC x.aG)) (h:OV M.A M.w (obV x.trailer vk vc) x.trailer) :
  RetM ah 9 #[secV x vs vk vc,.int .i64 a] M w (λr _=>r=.bool av):=by
 refine bB O λK Q=>oP ?_;unfold jE nz;refine Xq x d.one h.oneK h.oneC (OwnS.memS O) λb2 w1 c=>?_;have C:∀{W:ao} {L:List Ent} {N:Mem} (j:Nat),OwnS M.A w W L->L[j]?=ax (.mem N)->M.le N->CallX ah 32 #[] W (pk K) λt w=>K (.returned t) w:=by
  intro W L N j c E hle;refine bH c j E (HK N W (k.le hle) (l.le hle) (g.le hle) (c.hasM j E)) ?_;rintro _ D W2 f rfl c;exact Q _ _ D _ j c (apN (amS.1 E).1) (hle.trans f) rfl
 rw[se_v c 0 rfl];refine aL c (R:=λr=>∃b,r=.bool b∧(b=av->x.aG.length<=200)) (Oq x vs vk vc w1 P om d (OV.inw (c.hasM 1 rfl) h)) ?_;rintro _ w2 ⟨q,rfl,hq⟩ c;rw[LI];cases q with
|false=>
  simp only[aoD,rs,g_un,i_t];exact C 1 c rfl M.le_refl
|true=>
 have hl:=hq rfl;simp only[aoB,rs];rw[C6,Ll c 0 rfl]
 try simp only[rs]
 refine aL c (R:=λv=>v=.int .i64 (Tl.check x.aG)) (MA x.aG vs M w2 om (c.hasM 1 rfl) d) ?_;rintro _ w3 rfl c;simp only[eN,rs];by_cases S:Tl.check x.aG=0
 case neg=>
  simp only[amG (show Tl.check x.aG≠0 from S),rs,g_un,i_t];exact C 1 c rfl M.le_refl
 simp only[S,show ai ((0:Int)≠0)=au from rfl,rs];by_cases T:a < 0
 ·simp only[amG T,rs,i_t];exact C 1 c rfl M.le_refl
 simp only[amE T,rs,i_f];rw[se_v c 0 rfl];refine bH c 1 rfl (GV x vs vk vc M w3 g om hw (c.hasM 1 rfl) d h) ?_;rintro _ D w4 f ⟨i,e,U,V,rfl,n,m⟩ c;have o:=Cs.Uk n om hw;simp only[ex];refine Wa c λX w5 c=>?_;refine Jn 0 (i':=i) m.oneK m.oneC c rfl λY c=>?_;have c:OwnS M.A w Y [itE X i U V,secE b2 x vs vk vc,.mem D]:=c;simp only[eN];by_cases he:e=0
 case neg=>
  simp only[amG (show e≠0 from he),i_t];exact C 2 c rfl f
 subst he;simp only[show ai ((0:Int)≠0)=au from rfl,i_f];obtain⟨p,F,Z,a1,t,G,H⟩:=Cs.Lr n om (a:=a) om;rw[l_at (c.agg 0 rfl OR)];refine bH c 2 rfl (B1 i a D Y (k.le f) (l.le f) (g.le f) o (c.hasM 2 rfl) m F p) ?_;rintro _ I w7 s ⟨sv,rfl,u⟩ c;rw[H] at u ⊢;obtain⟨ys,yk,yc,rfl,z,B⟩:=u;simp only[ex];refine Sj c λb7 w8 c=>?_;refine Hu (y:=⟨a,x.aG,t,x.prev,-1,x.own⟩) 0 z.one B.oneK B.oneC c rfl λw9 c=>?_;have c:OwnS M.A w w9 [secE b7 ⟨a,x.aG,t,x.prev,-1,x.own⟩ ys yk yc,itE X i U V,secE b2 x vs vk vc,.mem I]:=c;simp only[rs,amD];rw[Yi,aJ aU (c.cell 0 rfl 0 rfl)];simp only[rs,amD];rw[C6,Ll c 0 rfl]
 try simp only[rs,amD]
 rw[C6,Ll c 2 rfl]
 try simp only[rs,amD]
 refine aL c (R:=λv=>v=.bool (ai (x.aG=x.aG))) (E7 x.aG x.aG ys vs I w9 P (c.hasM 3 rfl) z ((d.le f).le s)) ?_;rintro _ J rfl c;simp only[rs,amD];rw[JF,aJ aU (c.cell 0 rfl 8 rfl)];simp only[rs,amD];rw[JF,aJ aU (c.cell 2 rfl 8 rfl)];simp only[rs,amD];rw[Jx,aJ aU (c.cell 0 rfl 10 rfl)];simp only[rs,amD];rw[Jx,aJ aU (c.cell 2 rfl 10 rfl)];simp only[rs,amD];rw[YK,aJ aU (c.cell 0 rfl 9 rfl)];simp only[rs,amD];rw[LQ,fP,YZ c 0 rfl,G];simp only[rs,amD];refine bH c 3 rfl (HK I J (k.le (f.trans s)) (l.le (f.trans s)) (g.le (f.trans s)) (c.hasM 3 rfl)) ?_;rintro _ N4 W2 l4 rfl c
 try simp only[rs,amD]
 exact Q _ _ N4 _ 3 c rfl ((f.trans s).trans l4) rfl
end
section
open Eng Go.RowKit Go.ChangeShapes Go.WideShapes Go.ChangeAt
set_option maxRecDepth 100000
theorem YS {α:Type}:∀{l:List α},l.length=4->∃a b c d,l=[a,b,c,d]
|[a,b,c,d],_=>⟨a,b,c,d,rfl⟩
theorem adJ {α:Type}:∀{l:List α},l.length=6->∃a b c d e f,l=[a,b,c,d,e,f]
|[a,b,c,d,e,f],_=>⟨a,b,c,d,e,f,rfl⟩
theorem Z2 {α:Type}:∀{l:List α},l.length=11->∃a b c d e f g h i j k,l=[a,b,c,d,e,f,g,h,i,j,k]
|[a,b,c,d,e,f,g,h,i,j,k],_=>⟨a,b,c,d,e,f,g,h,i,j,k,rfl⟩
section
variable {H:Type}{enc:TypeId×aq->H}{W:ao}{sp:Nat->Bool}{held:Bool}
theorem UO (fuel:Nat)(cs:List aq)(x:DataW H×List MemPlace)(h:DataW.trod enc ah W 0 sp held fuel 83 cs=ax x):∃l:Slt,(cs=slC l∧(-9223372036854775808<=l.num∧l.num<=9223372036854775807)∧l.a<=9223372036854775807∧l.b<=9223372036854775807)∧cs.length=4∧1<=Rows.uptoBulk x.1:=by
 obtain⟨xs,n,rfl,rfl,p,e,f⟩:=DataW.trod_struct underlying83 h;have u:Tryz.prog.cellsOf 83=4:=krx
 rw[u] at p;have e:xs.length=4:=e;obtain⟨v,w,y,z,rfl⟩:=YS e;obtain⟨v0,v1,v2,v3,rfl⟩:=YS p;have q:=f 0 _ rfl;have r:=f 1 _ rfl;have s:=f 2 _ rfl;have t:=f 3 _ rfl;have k0:Tryz.prog.cellsOf 3=1:=krx
 simp only[k0,aoT,asD,arN,apX,aqU,anM] at q r s t;obtain⟨a,g,rfl,hw⟩:=DataW.trod_int anT q;obtain⟨b,i,rfl,_⟩:=DataW.trod_int anT r;obtain⟨c,j,rfl,k⟩:=DataW.trod_int anT s;obtain⟨d,m,rfl,o⟩:=DataW.trod_int anT t
 injection g with g _
 injection i with i _
 injection j with j _
 injection m with m _
 subst g;subst i;subst j;subst m;refine⟨⟨a,b,c,d⟩,⟨rfl,lP hw,(lP k).2,(lP o).2⟩,rfl,?_⟩;simp only[Rows.uptoBulk,anS,apW,Rows.uptoBulkAll];omega
theorem QE {α:Type}:∀l:List α,(l.map λ_=>1).sum=l.length
|[]=>rfl
|a::l=>by rw[anS,aqC,QE l,amW];omega
theorem Pd:∀{cs:List aq} {l:List Slt},Rws (λcs x=>cs=slC x∧(-9223372036854775808<=x.num∧x.num<=9223372036854775807)∧x.a<=9223372036854775807∧x.b<=9223372036854775807) cs l->cs=slsC l∧R4 l∧SltI l
|_,_,.nil=>⟨rfl,(λx c=>by cases c),λx c=>by cases c⟩
|_,_,.cons (a:=a) (rest:=rest) h t=>by
  obtain⟨d,e,f⟩:=Pd t;refine⟨by rw[h.1,d];rfl,λx c=>?_,λx c=>?_⟩
  ·rcases amH.1 c with rfl|c
   ·exact h.2.1
   ·exact e x c
  ·rcases amH.1 c with rfl|c
   ·exact h.2.2
   ·exact f x c
theorem MN {E:Nat}{d:DataW H}{ps:List MemPlace}(g:Value.okWide ah W .any E 63 v)(F:DataW.Trod enc ah W 0 sp held 63 v d ps) :
  ∃x:Sec,SecV (Mem.all W) v x∧R4 x.aG∧SltI x.aG∧x.trailer.wt<=Rows.uptoBulk d∧x.aG.length<=Rows.uptoBulk d:=by
 obtain⟨cs,rfl,_⟩:=okWide_struct underlying63 g;obtain⟨fuel,h⟩:=F;have h:DataW.trod enc ah W 0 sp held fuel 63 cs.toList=ax (d,ps):=h;obtain⟨xs,n,rfl,c,s,e,f⟩:=DataW.trod_struct underlying63 h;have j:Tryz.prog.cellsOf 63=11:=krx
 rw[j] at s;have e:xs.length=6:=e;obtain⟨Q,G,I,S,T,U,rfl⟩:=adJ e;obtain⟨v0,v1,v2,v3,v4,v5,v6,t,V,v9,v10,i⟩:=Z2 s;rw[i] at f;have u:=f 0 _ rfl;have z:=f 1 _ rfl;have A:=f 2 _ rfl;have B:=f 3 _ rfl;have C:=f 4 _ rfl;have D:=f 5 _ rfl;have k0:Tryz.prog.cellsOf 61=1:=krx
 have J:Tryz.prog.cellsOf 3=1:=krx
 have K:Tryz.prog.cellsOf 25=6:=krx
 simp only[k0,J,K,aoT,asD,arN,apX,aqU,anM] at u z A B C D;obtain⟨a,k,_,_⟩:=DataW.trod_int anT u;obtain⟨v',ds,is,l,L,M,X,N⟩:=Kg (R:=λcs x=>cs=slC x∧(-9223372036854775808<=x.num∧x.num<=9223372036854775807)∧x.a<=9223372036854775807∧x.b<=9223372036854775807) (wt:=λ_:Slt=>1) (n:=4) apT krx dc UO z;obtain⟨o,g1,g2,g3⟩:=Xu _ _ _ A;obtain⟨p,hp,_,_⟩:=DataW.trod_int anT B;obtain⟨y,m,_,_⟩:=DataW.trod_int anT C;obtain⟨w,hw,_,_⟩:=DataW.trod_int anT D
 injection l with l _
 injection k with k _
 injection hp with hp _
 injection m with m _
 injection hw with hw _
 subst l;subst k;subst hp;subst m;subst hw;obtain⟨vk,vc,O,he,q⟩:=g1.open;have he:[v2,v3,v4,v5,v6,t]=obC o vk vc:=by
  have:[v2,v3,v4,v5,v6,t].toArray=(obC o vk vc).toArray:=by injection he
  simpa using congrArg Array.toList this
 obtain⟨r,P,hi⟩:=Pd M;subst r;have Y:Rows.uptoBulk G.1+Rows.uptoBulk I.1<=Rows.uptoBulk d:=by
  have c:d=_:=congrArg Prod.fst c;rw[c];simp only[Rows.uptoBulk,anS,apW,Rows.uptoBulkAll];omega
 rw[QE] at N;refine⟨⟨a,is,o,p,y,w⟩,⟨v1,vk,vc,?_,L,q.ov⟩,P,hi,?_,?_⟩
 ·rw[secV,secC];show Value.agg cs=.agg ([Value.int .i64 a,v1]++(obC o vk vc++[Value.int .i64 p,Value.int .i64 y,Value.int .i64 w])).toArray;rw[<-he];have:cs=cs.toList.toArray:=sm
  rw[this,i];rfl
 ·show o.wt<=_;omega
 ·show is.length<=_;omega
theorem Np {b:Nat}{d:DataW H}{ps:List MemPlace}(a:Value.okWide ah W .any b 63 v)(c:DataW.Trod enc ah W 0 sp held 63 v d ps) :
  ∃x:Sec,SecV (Mem.all W) v x∧R4 x.aG∧x.trailer.wt<=Rows.uptoBulk d∧x.aG.length<=Rows.uptoBulk d:=by
 obtain⟨x,e,f,_,g,h⟩:=MN a c;exact⟨x,e,f,g,h⟩
end
end
section
open Eng Go.RowKit
def Zy (w:ao)(g:Nat):World:=
 { w with heap:=(w.heap.modify g λ
  |.cells _ t frozen=>.cells #[.map (ax w.heap.size)] t frozen
  |o=>o).push (.map #[⟨.int .i64 16,.agg #[.int .i64 3,.int .i64 2],0⟩,⟨.int .i64 17,.agg #[.int .i64 3,.int .i64 3],1⟩,⟨.int .i64 18,.agg #[.int .i64 11,.int .i64 7],2⟩] 3) }
end
end Go.Proofs.YtlipjfcbjemicaaGreatDoor



namespace Go.Proofs.YtlipjfcbjemicaaGreatDoor
variable{K:VWP}{M N:Eng.Mem}{PK:PKT}{R:Ending->FrameMode->ao->Prop}{W w:ao}{a:Int}{args ca fa:Array aq}{b f fuel i j:Nat}{cs:List aq}{key:List UInt8}{o:Ob}{pv t0 v vc vk:aq}{q:Bool}{u:FrameMode}{t0:aq}{k0:Eng.KT}
section
open Eng Go.RowKit Go.ChangeShapes Go.WideShapes Go.ChangeAt
set_option maxRecDepth 100000
theorem YX {α:Type}:∀{l:List α},l.length=2->∃a b,l=[a,b]
|[a,b],_=>⟨a,b,rfl⟩
theorem mapM_mem {α β:Type}{f:α->Option β}:∀{l:List α} {r:List β},l.mapM f=ax r->(∀a∈l,∃b∈r,f a=ax b)∧∀b∈r,∃a∈l,f a=ax b
|[],r,h=>by
  simp only[List.mapM_nil,Option.pure_def,aqH] at h;subst h;exact⟨(λa d=>by cases d),(λb g=>by cases g)⟩
|x::l,r,h=>by
  simp only[List.mapM_cons,Option.bind_eq_bind,arD,Option.pure_def,aqH] at h;obtain⟨b,g,j,i,rfl⟩:=h;obtain⟨i1,i2⟩:=mapM_mem i;refine⟨λa d=>?_,λc e=>?_⟩
  ·rcases amH.1 d with rfl|d
   ·exact⟨b,anQ,g⟩
   ·obtain⟨c,e,he⟩:=i1 a d;exact⟨c,anA _ e,he⟩
  ·rcases amH.1 e with rfl|e
   ·exact⟨x,anQ,g⟩
   ·obtain⟨a,d,he⟩:=i2 c e;exact⟨a,anA _ d,he⟩
theorem U6 {H:Type}(x y:Lit×DataW H):∀l:List (Lit×DataW H),y∈DataW.insert x l↔y=x∨y∈l
|[]=>by simp[DataW.insert]
|z::r=>by
  unfold DataW.insert;split
  ·simp
  ·rw[amH,U6 x y r,amH];constructor
   ·rintro (h|h|h)
    ·exact .inr (.inl h)
    ·exact .inl h
    ·exact .inr (.inr h)
   ·rintro (h|h|h)
    ·exact .inr (.inl h)
    ·exact .inl h
    ·exact .inr (.inr h)
theorem IY {H:Type}(y:Lit×DataW H):∀l:List (Lit×DataW H),y∈l.foldr DataW.insert []↔y∈l
|[]=>by simp
|x::r=>by rw[List.foldr_cons,U6,IY y r,amH]
section
variable {H:Type}{enc:TypeId×aq->H}{W:ao}{sp:Nat->Bool}{held:Bool}
theorem P7 (fuel:Nat)(cs:List aq)(x:DataW H×List MemPlace)(h:DataW.trod enc ah W 0 sp held fuel 363 cs=ax x):∃a b:Int,cs=[.int .i64 a,.int .i64 b]∧x.1=.agg [.lit (.int .i64 a),.lit (.int .i64 b)]:=by
 obtain⟨xs,n,rfl,d,g,c,i⟩:=DataW.trod_struct underlying363 h;have l:Tryz.prog.cellsOf 363=2:=krx
 rw[l] at g;have c:xs.length=2:=c;obtain⟨m,o,rfl⟩:=YX c;obtain⟨v0,v1,rfl⟩:=YX g;have j:=i 0 _ rfl;have k:=i 1 _ rfl;have k0:Tryz.prog.cellsOf 3=1:=krx
 simp only[k0,aoT,asD,arN,apX,aqU,anM] at j k;obtain⟨a,e,rfl,_⟩:=DataW.trod_int anT j;obtain⟨b,f,rfl,_⟩:=DataW.trod_int anT k
 injection e with e _
 injection f with f _
 subst e;subst f;exact⟨a,b,rfl,by rw[d];rfl⟩
end
section
variable {H:Type}{enc:TypeId×aq->H}{P:Program}{W:ao}{sp:Nat->Bool}{held:Bool}
theorem Uw {t k e:TypeId}(i:P.underlying t=ax (.map k e)){L:List (Lit×DataW H)}{p:List MemPlace}(h:DataW.trod enc P W 0 sp held fuel t cs=ax (.map L,p)) :
  ∃b es clock n entries,cs=[.map (ax b)]∧W.heap[b]?=ax (.map es clock) ∧
   (es.toList.mapM λx=>(keyOf P k x.key).bind λkey=>if x.val.formed P e then (DataW.trod enc P W 0 sp held n e x.val.cells.toList).map λy=>((key,y.1),y.2) else aw)=ax entries ∧
   (entries.map (·.1)).foldr DataW.insert []=L:=by
 cases fuel with
|zero=>simp[DataW.trod] at h
|succ n=>
  unfold DataW.trod at h;rw[i] at h;rcases cs with _|⟨c,_|⟨d,r⟩⟩
  ·simp at h
  ·cases c with
  |map a=>
    cases a with
   |none=>simp at h
   |some b=>
     dsimp only at h;cases g:W.heap[b]? with
    |none=>rw[g] at h;simp at h
    |some o=>
      rw[g] at h;cases o with
     |map es clock=>
       dsimp only at h;split at h
       ·obtain⟨entries,j,f⟩:=arD.1 h;refine⟨b,es,clock,n,entries,rfl,g,j,?_⟩
        try dsimp only at f
        split at f
        ·injection f with f
         injection f with f _
         injection f with f
        ·cases f
       ·cases h
     |_=>simp at h
  |_=>simp at h
  ·simp at h
end
def rpD {H:Type}:List (Lit×DataW H):=[(.int .i64 16,.agg [.lit (.int .i64 3),.lit (.int .i64 2)]),(.int .i64 17,.agg [.lit (.int .i64 3),.lit (.int .i64 3)]),(.int .i64 18,.agg [.lit (.int .i64 11),.lit (.int .i64 7)])]
def repK (x:MapEntry):Int×Value:=(match x.key with|.int _ n=>n|_=>0,x.val)
theorem Vq {a:Lit}(h:keyOf ah 3 v=ax a):∃n:Int,v=.int .i64 n∧a=.int .i64 n:=by
 unfold keyOf at h;rw[anT] at h;dsimp only at h;unfold mapKey at h;rw[anT] at h;cases v with
|int q n=>
  dsimp only at h;split at h
  ·rename_i b
   obtain⟨rfl,_⟩:=b
   injection h with h
   exact⟨n,rfl,h.symm⟩
  ·cases h
|_=>simp at h
theorem WB (a:List (Int×aq))(d:∀p∈a,p∈rpM)(e:∀p∈rpM,p∈a)(k:Int):uG a k=uG rpM k:=by
 unfold uG;cases b:a.find? (λp=>ai (p.1=k)) with
|none=>
  have f:=auO.1 b;have:rpM.find? (λp=>ai (p.1=k))=none:=auO.2 λp hp=>f p (e p hp);rw[this]
|some p=>
  have hm:=d p (List.mem_of_find?_eq_some b);have c:p.1=k:=by simpa using List.find?_some b
  simp only[rpM,amH,anW,or_false] at hm;rcases hm with rfl|rfl|rfl<;>(dsimp only at c;subst c;rfl)
theorem ZH {rest:List (String×DataW Unit)}(h:laidMet ah (("foliant/inflate.repeats",.map rpD)::rest) W):Rp (Mem.all W):=by
 obtain⟨ps,⟨g',t',cs,fuel,p,q,hg',ht',hvar,hd,_,_⟩,_⟩:=h;obtain rfl:=apF ((show Tryz.prog.globalNamed "foliant/inflate.repeats"=ax 3 by kernel_rfl).symm.trans hg')
 obtain rfl:=apF ((show (Tryz.prog.globals[3]?).map (·.type)=ax 365 by kernel_rfl).symm.trans ht');obtain⟨b,es,clock,n,entries,hcs,hb,hm,hs⟩:=Uw mpRp hd;have hcell:=World.var?_cell (show Tryz.prog.globalNamed "foliant/inflate.repeats"=ax 3 by kernel_rfl) hvar 0
 have hc0:cs[0]?=ax (.map (ax b)):=by
  rw[<-Array.getElem?_toList,hcs];rfl
 rw[hc0] at hcell;have hgb:3 < W.heap.size:=by
  have:=hcell;unfold World.cell? at this;cases hh:W.heap[3]? with
 |none=>simp[hh] at this
 |some o=>exact dS hh
 obtain⟨m1,m2⟩:=mapM_mem hm;have hL:∀y:Lit×DataW Unit,y∈(rpD:List (Lit×DataW Unit))↔y∈entries.map (·.1):=λy=>by rw[<-hs];exact IY y _
 -- each entry
 have ent:∀x∈es.toList,∃k a c:Int,x.key=.int .i64 k∧x.val=.agg #[.int .i64 a,.int .i64 c]∧((Lit.int .i64 k,DataW.agg [.lit (.int .i64 a),.lit (.int .i64 c)]):Lit×DataW Unit)∈rpD:=by
  intro x hx;obtain⟨en,hen,hf⟩:=m1 x hx;obtain⟨kl,hk,hf⟩:=arD.1 hf;obtain⟨k,hk1,rfl⟩:=Vq hk;split at hf
  ·rename_i hfm
   obtain⟨y,hy,rfl⟩:=aoJ.1 hf;obtain⟨a,c,hcs2,hy1⟩:=P7 _ _ _ hy;refine⟨k,a,c,hk1,?_,?_⟩
   ·cases hv:x.val with
   |agg vs=>
     rw[hv] at hcs2;have:vs.toList=[.int .i64 a,.int .i64 c]:=hcs2;rw[show vs=vs.toList.toArray by simp,this]
   |_=>rw[hv] at hfm;exact absurd hfm (by unfold Value.formed;rw[underlying363];simp)
   ·rw[hL,<-hy1];exact anK.2 ⟨_,hen,rfl⟩
  ·cases hf
 have inR:∀{k a c:Int},((Lit.int .i64 k,DataW.agg [.lit (.int .i64 a),.lit (.int .i64 c)]):Lit×DataW Unit)∈rpD->(k,Value.agg #[.int .i64 a,.int .i64 c])∈rpM:=by
  intro k a c h;simp only[rpD,amH,anW,or_false,aqG] at h;rcases h with ⟨h1,h2⟩|⟨h1,h2⟩|⟨h1,h2⟩<;>(injection h1 with _ h1;injection h2 with h2;simp only[arE,and_true] at h2;obtain⟨h3,h4⟩:=h2;injection h3 with h3;injection h4 with h4;injection h3 with _ h3;injection h4 with _ h4;subst h1;subst h3;subst h4;simp[rpM])
 refine⟨b,hgb,hcell,dS hb,es.toList.map repK,WB _ ?_ ?_,es,clock,hb,?_⟩
 ·intro p hp;obtain⟨x,hx,rfl⟩:=anK.1 hp;obtain⟨k,a,c,e1,e2,e3⟩:=ent x hx;have:repK x=(k,.agg #[.int .i64 a,.int .i64 c]):=by unfold repK;rw[e1,e2]
  rw[this];exact inR e3
 ·intro p hp;have key:∀{k a c:Int},((Lit.int .i64 k,DataW.agg [.lit (.int .i64 a),.lit (.int .i64 c)]):Lit×DataW Unit)∈rpD->(k,Value.agg #[.int .i64 a,.int .i64 c])∈es.toList.map repK:=by
   intro k a c h;obtain⟨en,hen,he⟩:=anK.1 ((hL _).1 h);obtain⟨x,hx,hf⟩:=m2 en hen;obtain⟨k',a',c',e1,e2,_⟩:=ent x hx;obtain⟨kl,hk,hf⟩:=arD.1 hf;obtain⟨k2,hk1,rfl⟩:=Vq hk;split at hf
   ·obtain⟨y,hy,rfl⟩:=aoJ.1 hf;obtain⟨a2,c2,hcs2,hy1⟩:=P7 _ _ _ hy;rw[e2] at hcs2;have hcs2:[Value.int .i64 a',Value.int .i64 c']=[.int .i64 a2,.int .i64 c2]:=hcs2;simp only[arE,and_true] at hcs2;obtain⟨q1,q2⟩:=hcs2
    injection q1 with _ q1
    injection q2 with _ q2
    rw[e1] at hk1
    injection hk1 with _ hk1
    dsimp only at he;rw[hy1] at he
    injection he with he1 he2
    injection he1 with _ he1
    injection he2 with he2
    simp only[arE,and_true] at he2;obtain⟨w1,w2⟩:=he2
    injection w1 with w1
    injection w2 with w2
    injection w1 with _ w1
    injection w2 with _ w2
    refine anK.2 ⟨x,hx,?_⟩;unfold repK;rw[e1,e2];subst q1;subst q2;subst hk1;subst he1;subst w1;subst w2;rfl
   ·cases hf
  simp only[rpM,amH,anW,or_false] at hp;rcases hp with rfl|rfl|rfl
  ·exact key (by simp[rpD])
  ·exact key (by simp[rpD])
  ·exact key (by simp[rpD])
 ·rw[asA];refine arM λx hx=>?_;obtain⟨k,a,c,e1,e2,e3⟩:=ent x hx;show (x.key,x.val)=(intK (repK x).1,(repK x).2);unfold repK;rw[e1];rfl
end
section
open Eng Go.RowKit Go.ChangeShapes Go.WideShapes Go.ChangeAt
set_option maxRecDepth 100000
section
variable {H:Type}{enc:TypeId×aq->H}{W:ao}{sp:Nat->Bool}{held:Bool}
end
theorem TC {g:Nat}(h:W.cell? ⟨g,i,aw⟩=ax v):g < W.heap.size:=by
 unfold World.cell? at h;cases a:W.heap[g]? with
|none=>simp[a] at h
|some o=>exact dS a
theorem Zz (h:Lib.TabIs ah W "foliant/inflate.order" .i64 [16,17,18,0,8,7,9,6,10,5,11,4,12,3,13,2,14,1,15]):Od (Mem.all W):=by
 refine⟨TC (Lib.TabIs.cell (g:=2) h krx 0 dc),λi hi=>?_⟩;have:=Lib.TabIs.cell (g:=2) h krx i hi;rw[show (Mem.all W).w=W from rfl,this];rcases lt19 hi with rfl|rfl|rfl|rfl|rfl|rfl|rfl|rfl|rfl|rfl|rfl|rfl|rfl|rfl|rfl|rfl|rfl|rfl|rfl<;>rfl
theorem WT (h:Lib.TabIs ah W "foliant/ascii.powers" .u64 [52200625,614125,7225,85,1]):Pws (Mem.all W):=by
 refine⟨TC (Lib.TabIs.cell (g:=0) h krx 0 dc),λi hi=>?_⟩;have:=Lib.TabIs.cell (g:=0) h krx i hi;rw[show (Mem.all W).w=W from rfl,this];rcases lt5 hi with rfl|rfl|rfl|rfl|rfl<;>rfl
end
section
open Eng Go.RowKit
theorem crossBack_row (x:Sec)(v:aq)(a:Int)(w:ao)(b:Rp (Mem.all w))(c:Od (Mem.all w))(d:Pws (Mem.all w))(e:SecV (Mem.all w) v x)(hw:x.trailer.wt<=1048576)(h:x.aG.length<=1048576) :
  Ret ah 9 #[v,.int .i64 a] w (λv w'=>v=.bool av∧Below w.heap.size w w'):=by
 obtain⟨vs,vk,vc,rfl,f,g⟩:=e;exact RetM.told (J8 x vs vk vc a (Mem.all w) w b c d (Mem.abS w) om om f g)
end
end Go.Proofs.YtlipjfcbjemicaaGreatDoor
