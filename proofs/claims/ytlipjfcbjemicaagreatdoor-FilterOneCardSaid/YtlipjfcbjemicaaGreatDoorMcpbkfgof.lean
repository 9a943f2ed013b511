/- Texts that go together: SFiltR FeD FeE Plain16N Plain16C Plain16D Plain16E Plain16F Plain16G Plain16H Plain16I Plain16J Plain16K Plain16L PlainSrt PlainSrtB PlainSrtC SSlcS DfE DfF DfG DfH SCodeW. -/
import Derived.Test.YtlipjfcbjemicaaGreatDoorRows
import Derived.Test.YtlipjfcbjemicaaGreatDoorMphjkffjc
set_option linter.defProp false
set_option linter.unusedSimpArgs false
set_option linter.unusedVariables false
set_option maxRecDepth 20000
open Go.Proofs.Tryz
open Go.Proofs.Tryz renaming prog->ah
open Option renaming some->aw,none->av
open Bool renaming true->au,false->aq
open Go renaming Value->ao,World->ak
open Decidable renaming decide->ai
namespace Go.Proofs.YtlipjfcbjemicaaGreatDoor
variable{B Sy cl counts l near:List Nat}{C:ak->Prop}{M:Eng.Mem}{P:Program}{W w:ak}{above:List UInt8}{args:Array ao}{b cap d f i j jm m most p t:Nat}{colors:Int}{cv t0:ao}{u:FrameMode}{α:Type}{t0 t1 t2 t3 t4:ao}{k0:Eng.KT}
section
open Eng
def dR(w)(K:KT):=
 K (.returned (.tuple #[])) w
def vV(c a b d w)(K:KT):=
 DrawX w (λw=>(fax 107 d 0 w K λe w=>(ldx 30 e w K λf w=>stx 22 c (.slice av 0 0) w K λ_ w=>stx 40 a (.slice av 0 0) w K λ_ w=>stx 30 b f w K λ_ w=>dR w K)∧(stx 22 c (.slice av 0 0) w K λ_ w=>(ldx 30 e w K λt18_1 w=>stx 40 a (.slice av 0 0) w K λ_ w=>stx 30 b t18_1 w K λ_ w=>dR w K)∧(stx 40 a (.slice av 0 0) w K λ_ w=>ldx 30 e w K λt18_2 w=>stx 30 b t18_2 w K λ_ w=>dR w K)))∧(stx 22 c (.slice av 0 0) w K λ_ w=>(fax 107 d 0 w K λt17_1 w=>(ldx 30 t17_1 w K λt18_3 w=>stx 40 a (.slice av 0 0) w K λ_ w=>stx 30 b t18_3 w K λ_ w=>dR w K)∧(stx 40 a (.slice av 0 0) w K λ_ w=>ldx 30 t17_1 w K λt18_4 w=>stx 30 b t18_4 w K λ_ w=>dR w K))∧(stx 40 a (.slice av 0 0) w K λ_ w=>fax 107 d 0 w K λt17_2 w=>ldx 30 t17_2 w K λt18_5 w=>stx 30 b t18_5 w K λ_ w=>dR w K)))
def gQ(c d e r w)(K:KT):=
 eqx .neq 20 (.tmp 7) (.const .nilIface) r .nilIface w K λf w=>IfX f (dx (mTA r 20 107 au) w K λa w=>exx a 0 w K λg w=>exx a 1 w K λh w=>alx 107 w K λb w=>stx 107 b g w K λ_ w=>JoinX (λJ1=>dx (mUn .not h) w K λi w=>IfX i (dx (Ho r) w K λ_ w=>J1 [] w) (J1 [] w)) (λvs1 w=>∀_:Sg,vV c d e b w K)) (K (.returned (.tuple #[])) w)
theorem Ew (t0 t1 t2 r:ao)(w:ak)(K:Ending->ak->Prop):wpX ah 19 [(5,[])] [] av (Zn (DD f77)) (topD ah [] K) (upd (upd (lQ [t0,t1,t2]) 6 r) 3 r) [] w=gQ t0 t1 t2 r w K:=krx
theorem jI {t1 t2:ao}{R:Ending->FrameMode->ak->Prop}(h:gQ t0 t1 t2 (recV u) w (λe w=>R e (recM u) w)):CallsD ah 77 #[t0,t1,t2] u w R:=
 JR func77 rfl rfl rfl rfl rfl rfl rfl rfl rfl rfl rfl rfl (Eq.mpr (Ew t0 t1 t2 (recV u) w _) h)
end
section
open Eng Go.RowKit
namespace Ff
def names (o:Ob):List (List UInt8)×Int:=
 if (filt o).any (λx=>ai (x.k≠5))=au then ([],10)
 else if 8 < (filt o).length then ([],6)
 else if (filt o).any (λx=>ai (full x.s=[]))=au then ([],15)
 else ((filt o).map (λx=>full x.s),0)
def of (o:Ob):List (List UInt8)×List Pm×Int:=
 if o.k≠9 then ([],[],10)
 else if (names o).2≠0 then ([],[],(names o).2)
 else if (A5 o (names o).1.length).2≠0 then ([],[],(A5 o (names o).1.length).2)
 else if (A5 o (names o).1.length).1.any (λx=>!decide x.ok)=au then ([],[],1)
 else ((names o).1,(A5 o (names o).1.length).1,0)
theorem O9 {o:Ob}{n:Nat}(h:(A5 o n).2=0):(A5 o n).1.length=n:=by
 unfold A5 at h ⊢;by_cases h1:(Cl o).2≠0
 ·rw[anX h1] at h;cases h
 rw[anW h1] at h ⊢;by_cases h2:(Cl o).1.any (λx=>ai ((parm x).2≠0))=au
 ·rw[anX h2] at h;cases h
 rw[anW h2] at h ⊢;by_cases h3:n < (Cl o).1.length
 ·rw[anX h3] at h;cases h
 rw[anW h3] at h ⊢;by_cases h4:(Cl o).1.any (λx=>!eight x)=au
 ·rw[anX h4] at h;cases h
 rw[anW h4];simp only[aoC,apP,apC];omega
theorem VN {o:Ob}:(names o).1.length<=8:=by
 unfold names
 repeat' split
 all_goals first|exact aoO _|(simp only[apP];omega)
end Ff
theorem Jk:bZ ah 77=true:=krx
theorem XQ:eM ah 40=true:=krx
theorem aiN:fOff ah 107 0=aw 0:=krx
theorem alE:(Tryz.prog.info? 107).map (·.size)=aw 1:=krx
abbrev ofC (b1 b2 b3 b4:Nat)(o:Ob)(vk vc vn vp:ao)(e:Int):List Ent:=[.cells b4 [.int .i64 e] 30,.cells b3 [vp] 40,.cells b2 [vn] 22,obE b1 o vk vc]
theorem Jm (o:Ob)(v:ao)(M:Mem)(w:ak)(hw:o.wt<=1000000000)(hM:M.has w)(hv:OV M.A M.w v o) :
  RetM ah 28 #[v] M w (λr N=>∃vn vp,r=.tuple #[vn,vp,.int .i64 (Ff.of o).2.2]∧SlA N.A N.w vn 1 (Ff.of o).1.length (cD (Ff.of o).1)∧SlA N.A N.w vp 3 (Ff.of o).2.1.length ((Ff.of o).2.1.flatMap pmC)):=by
 obtain⟨vk,vc,ocs,rfl,ha⟩:=hv.open;refine aU hM λK hK=>KU ?_;generalize hX:Ff.of o=X at hK;unfold Ff.of at hX;unfold JW iN dx alx;refine mW o ha.keys.one ha.kids.one (OwnS.memS hM) λb1 w1 ho=>?_;refine bD (λb=>.pointer (aw ⟨b,0,av⟩)) [nilS] 22 (λ_=>by kernel_rfl) ho λb2 w2 ho=>?_;refine bD (λb=>.pointer (aw ⟨b,0,av⟩)) [nilS] 40 (λ_=>by kernel_rfl) ho λb3 w3 ho=>?_;refine bD (λb=>.pointer (aw ⟨b,0,av⟩)) [.int .i64 0] 30 (λ_=>by kernel_rfl) ho λb4 w4 ho=>?_;have ho:OwnS M.A w w4 (ofC b1 b2 b3 b4 o vk vc nilS nilS 0++([.mem M]++[])):=ho;have ho:=ho.front;have ho:OwnS M.A w w4 (.mem M::ofC b1 b2 b3 b4 o vk vc nilS nilS 0):=ho;rw[Cs];refine⟨_,rfl,?_⟩
 -- the end with an error
 have ofEnd:∀{W:ak} {N:Mem} {e:Int} {R:List Ent},OwnS M.A w W (.mem N::(ofC b1 b2 b3 b4 o vk vc nilS nilS e++R))->M.le N->X=([],[],e) ->
   RetX ah [.cell (.pointer (aw ⟨b2,0,av⟩)) 22,.cell (.pointer (aw ⟨b3,0,av⟩)) 40,.cell (.pointer (aw ⟨b4,0,av⟩)) 30] W K:=by
  intro W N e R ho hle hx;refine QZ (bN (AtV.cell Qf (ho.cell 3 rfl 0 rfl))) (bN (AtV.cell XQ (ho.cell 2 rfl 0 rfl))) (bN (AtV.cell HS (ho.cell 1 rfl 0 rfl))) (hK _ _ N _ 0 ho rfl hle ⟨nilS,nilS,by rw[hx],by rw[hx];exact SlA.nil _ _ _ _,by rw[hx];exact SlA.nil _ _ _ _⟩)
 have fail:∀{W:ak} {N:Mem} {e:Int} {vn vp:ao},OwnS M.A w W (.mem N::ofC b1 b2 b3 b4 o vk vc vn vp 0)->M.le N->X=([],[],e) ->
   aD { target:=.fn (.func 77) #[.pointer (aw ⟨b2,0,av⟩),.pointer (aw ⟨b3,0,av⟩),.pointer (aw ⟨b4,0,av⟩)],args:=#[]++#[] } (.pointer (aw ⟨b2,0,av⟩)) (.pointer (aw ⟨b3,0,av⟩)) (.pointer (aw ⟨b4,0,av⟩)) K [upF e] W:=by
  intro W N e vn vp ho hle hx;show pd ah _ K _ [upF e] W;unfold pd;refine qN sm Jk (jI (t0:=.pointer (aw ⟨b2,0,av⟩)) (t1:=.pointer (aw ⟨b3,0,av⟩)) (t2:=.pointer (aw ⟨b4,0,av⟩)) ?_);simp only[gQ,recV,recM,upF,Eng.ahT asH,rs,X7 ahP,ex,i_t,i_f,dx,exx,stx,eqx,alx];refine bD (λb=>.pointer (aw ⟨b,0,av⟩)) [.int .i64 0] 107 (λ_=>by kernel_rfl) ho λb7 w5 ho=>?_;refine iL 0 ho rfl (new:=[.int .i64 e]) alE (λu hu=>by rw[aoZ.1 hu];rfl) rfl λw6 ho=>?_;have ho:OwnS M.A w w6 (.cells b7 [.int .i64 e] 107::.mem N::ofC b1 b2 b3 b4 o vk vc vn vp 0):=ho;refine join λJ hJ=>?_
  try simp only[aqF,i_f]
  refine hJ _ _ λ_=>?_;unfold vV ldx fax stx;refine⟨?_⟩;have ho:=ho.drew
  repeat' first
  |apply And.intro
  |refine aC (bH aiN) |>.mpr ?_
  |refine aC (aB HS (ho.cell 0 rfl 0 rfl)) |>.mpr ?_
  |refine aN 4 ho rfl krx rfl sm (λ_ ho=>?_)
  |refine aN 3 ho rfl krx rfl sm (λ_ ho=>?_)
  |refine aN 2 ho rfl krx rfl sm (λ_ ho=>?_)
  all_goals
   unfold dR;exact ofEnd (R:=[]) ho.tail hle hx
 rw[oL,ob_k ho 4 rfl];simp only[rs];refine qL (λh9=>?_) (λh9=>?_)
 rotate_left
 ·rw[anX (apM h9)] at hX;exact fail ho M.le_refl hX.symm
 have h9:=aoU h9;rw[anW (λh=>h h9)] at hX;rw[ob_v ho 4 rfl];have hfl:=Ff.R9 hw;have hnm:Ff.names o=Ff.names o:=rfl;generalize hN:Ff.names o=Nn at hX;unfold Ff.names at hN;refine Wq ho hw hv (λh5 vl N w5 l1 hs1 ho=>?_) (λh5 N w5 l1 ho=>?_)
 rotate_left
 ·have:(Ff.filt o).any (λx=>ai (x.k≠5))=true:=by
   refine arU.2 (Classical.byContradiction λhc=>h5 λx hx=>Classical.byContradiction λh=>hc ⟨x,hx,anZ h⟩)
  rw[anX this] at hN;rw[<-hN,anX dc] at hX;exact fail ho l1 hX.symm
 rw[anW (λh=>by
  obtain⟨x,hx,h⟩:=arU.1 h;exact (aoU h) (h5 x hx))] at hN
 have hlen:∀{W:ak} {PK:PKT} {K:VWP},DoX ah (mB .len #[22] 3 #[aq] #[vl]) W PK K=K (.int .i64 (((Ff.filt o).map Ob.s).length:Int)) W:=λ{_ _ _}=>by
  obtain⟨a,cap,rfl,_⟩:=hs1.form;exact bG aoT
 rw[hlen];simp only[rs];refine qL (λh8=>?_) (λh8=>?_)
 rotate_left
 ·have h8:=apM h8;rw[apP] at h8;rw[anX om] at hN;rw[<-hN,anX dc] at hX;exact fail ho l1 hX.symm
 have h8:=aoU h8;rw[anW (by rw[apP] at h8;omega)] at hN;rw[hlen];generalize hln:(Ff.filt o).map Ob.s=ln at hs1 hlen h8;have hany:∀{p:List UInt8->Bool},(Ff.filt o).any (λx=>p x.s)=ln.any p:=λ{p}=>by rw[<-hln,List.any_map];rfl
 have hmap:(Ff.filt o).map (λx=>Ff.full x.s)=ln.map Ff.full:=by rw[<-hln,auP];rfl
 rw[hany (p:=λx=>ai (Ff.full x=[])),hmap] at hN;have ho:=OwnS.nilU ho 9 1;refine loop (λvs W=>∃(i:Nat) (ov:ao),vs=[.int .i64 (i:Int)]∧i<=ln.length∧(∀x∈ln.take i,Ff.full x≠[])∧OwnS M.A w W (stsE ov ((ln.take i).map Ff.full)::.mem N::ofC b1 b2 b3 b4 o vk vc ov nilS 0)) (λvs _=>ln.length - n0 vs) ⟨0,nilS,rfl,om,sm,ho⟩ ?_;clear ho;rintro vs w6 ⟨i,ov,rfl,hi,hf,ho⟩ _;simp only[FI,gd,rs,iN];by_cases hlt:(i:Int) < (ln.length:Int)
 ·simp only[hlt,aoA,i_t];have hi':i < ln.length:=om
  obtain⟨p,hia,hld⟩:=Qo hs1 hi';rw[aC (hia w6),aC (hld w6 (ho.hasM 1 rfl))];refine c_eq (Ez ln[i] w6) ?_;simp only[ex];refine qL (λh=>?_) (λh=>?_)
  rotate_left
  ·have h:=Decidable.not_not.1 (apM h);rw[anX (arU.2 ⟨_,aoR hi',anZ h⟩)] at hN;rw[<-hN,anX dc] at hX;exact fail ho.tail l1 hX.symm
  have h:Ff.full ln[i]≠[]:=aoU h;rw[aS Qf (ho.cell 4 rfl 0 rfl)];refine UP _ ho (by rw[apP,aoH];omega) λov' W2 ho=>?_;have hov:ov'.oneCell'=true:=kC (Sl.urow (ho.at_ 0 rfl));refine aN 4 ho rfl krx hov sm λw7 ho=>?_
  try simp only[rs]
  rw[aA om om];refine⟨rfl,?_⟩;refine aQ ⟨i+1,ov',rfl,om,?_,?_⟩ (by simp[n0,RowKit.intOf];omega)
  ·rw[apG hi'];intro x hx;rcases apF.1 hx with hx|hx
   ·exact hf x hx
   ·rw[aoZ.1 hx];exact h
  ·rw[apG hi',apX];exact ho
 simp only[hlt,aoB,i_f];have:i=ln.length:=om
 subst this;rw[aqJ] at hf ho;rw[anW (λh=>by
  obtain⟨x,hx,h⟩:=arU.1 h;exact hf x hx (aoU h))] at hN
 subst hN;dsimp only at hX;rw[anW dc] at hX;generalize hns:ln.map Ff.full=ns at hX ho;have hnl:ns.length=ln.length:=by rw[<-hns,apP]
 have hne:∀x∈ns,x≠[]:=by
  rw[<-hns];intro x hx;obtain⟨y,hy,rfl⟩:=apN.1 hx;exact hf y hy
 rw[ob_v ho 5 rfl];rw[hlen,<-hnl];obtain⟨N2,l2,hs2,ho⟩:=ho.cI 0 rfl;have ho:OwnS M.A w w6 (.mem N2::ofC b1 b2 b3 b4 o vk vc ov nilS 0):=ho;have hpl:=@Ff.O9 o ns.length;generalize hP:Ff.A5 o ns.length=P at hX hpl;refine Yr (many:=ns.length) ho hw om ((hv.le l1).le l2) (λh0 vp N3 w7 l3 hs3 ho=>?_) (λh0 N3 w7 l3 ho=>?_)
 rotate_left
 ·rw[hP] at h0 ⊢;rw[anX h0] at hX;exact fail ho ((l1.trans l2).trans l3) hX.symm
 rw[hP] at h0 hs3;have hpl:=hpl h0;rw[anW (λh=>h h0)] at hX;have hvp:vp.oneCell'=true:=hs3.one;refine aN 2 ho rfl krx hvp sm λw8 ho=>?_;have ho:OwnS M.A w w8 (.mem N3::ofC b1 b2 b3 b4 o vk vc ov vp 0):=ho;rw[aS Qf (ho.cell 3 rfl 0 rfl)];have hle:=(l1.trans l2).trans l3;have hs2:=hs2.le l3;have hlen2:∀{W:ak} {PK:PKT} {K:VWP},DoX ah (mB .len #[22] 3 #[aq] #[ov]) W PK K=K (.int .i64 (ns.length:Int)) W:=λ{_ _ _}=>by
  obtain⟨a,cap,rfl,_⟩:=hs2.form;exact bG aoT
 rw[hlen2];refine loop (λvs W=>∃i:Nat,vs=[.int .i64 (i:Int)]∧i<=ns.length∧(∀x∈P.1.take i,x.ok)∧OwnS M.A w W (.mem N3::ofC b1 b2 b3 b4 o vk vc ov vp 0)) (λvs _=>ns.length - n0 vs) ⟨0,rfl,om,sm,ho⟩ ?_;clear ho;rintro vs w9 ⟨i,rfl,hi,hok,ho⟩ _;simp only[FQ,gd,rs,iN,etx];by_cases hlt:(i:Int) < (ns.length:Int)
 ·simp only[hlt,aoA,i_t];have hi':i < ns.length:=om
  have hip:i < P.1.length:=om
  obtain⟨p,hia,hld⟩:=Qo hs2 hi';rw[aC (hia w9),aC (hld w9 (ho.hasM 0 rfl)),aS XQ (ho.cell 2 rfl 0 rfl)];obtain⟨p2,hia2,hld2⟩:=pmAt hs3 hip;rw[aC (hia2 w9),aC (hld2 w9 (ho.hasM 0 rfl))];refine aH ho (Lm P.1[i] w9) ?_;rintro _ w10 rfl ho;simp only[bQ];by_cases hx:P.1[i].ok
  ·rw[anX hx];simp only[show ai ((0:Int)≠0)=aq from rfl,rs,i_f];rw[aA om om];refine⟨rfl,?_⟩;refine aQ ⟨i+1,rfl,om,?_,ho⟩ (by simp[n0,RowKit.intOf];omega);rw[apG hip];intro y hy;rcases apF.1 hy with hy|hy
   ·exact hok y hy
   ·rw[aoZ.1 hy];exact hx
  ·rw[anW hx];rw[anX (arU.2 ⟨_,aoR hip,by simp[hx]⟩)] at hX;have hn:=hne _ (aoR hi');simp only[show ai ((1:Int)≠0)=au from rfl,rs]
   try simp only[rs]
   rw[anZ hn]
   try simp only[rs]
   try rw[i_t]
   refine aN 3 ho rfl krx rfl sm λw11 ho=>?_;refine aN 2 ho rfl krx rfl sm λw12 ho=>?_;refine aN 1 ho rfl krx rfl sm λw13 ho=>?_;refine qN sm Jk (jI (t0:=.pointer (aw ⟨b2,0,av⟩)) (t1:=.pointer (aw ⟨b3,0,av⟩)) (t2:=.pointer (aw ⟨b4,0,av⟩)) ?_);simp only[gQ,recV,recM,Eng.afX asH,i_f,dx,exx,stx,eqx,alx];exact ofEnd (R:=[]) ho hle hX.symm
 simp only[hlt,aoB,i_f];have:i=ns.length:=om
 subst this;rw[apE om] at hok;rw[anW (λh=>by
  obtain⟨x,hx,h⟩:=arU.1 h;have:=hok x hx;simp[this] at h)] at hX
 have fin:∀{W:ak},OwnS M.A w W (.mem N3::ofC b1 b2 b3 b4 o vk vc ov vp 0) ->
   kU (.pointer (aw ⟨b2,0,av⟩)) (.pointer (aw ⟨b3,0,av⟩)) (.pointer (aw ⟨b4,0,av⟩)) { target:=.fn (.func 77) #[.pointer (aw ⟨b2,0,av⟩),.pointer (aw ⟨b3,0,av⟩),.pointer (aw ⟨b4,0,av⟩)],args:=#[]++#[] } W K:=by
  intro W ho;unfold kU;refine qN sm Jk (jI (t0:=.pointer (aw ⟨b2,0,av⟩)) (t1:=.pointer (aw ⟨b3,0,av⟩)) (t2:=.pointer (aw ⟨b4,0,av⟩)) ?_);simp only[gQ,recV,recM,Eng.afX asH,i_f,dx,exx,stx,eqx,alx];refine QZ (bN (AtV.cell Qf (ho.cell 3 rfl 0 rfl))) (bN (AtV.cell XQ (ho.cell 2 rfl 0 rfl))) (bN (AtV.cell HS (ho.cell 1 rfl 0 rfl))) ?_;exact hK _ _ N3 _ 0 ho rfl hle ⟨ov,vp,by rw[<-hX],by rw[<-hX];exact hs2,by rw[<-hX];exact hs3⟩
 have hov:ov.oneCell'=true:=hs2.one;refine⟨?_⟩;have ho:=ho.drew
 repeat' first
 |exact fin ho
 |apply And.intro
 |refine aC (aB Qf (ho.cell 3 rfl 0 rfl)) |>.mpr ?_
 |refine aC (aB XQ (ho.cell 2 rfl 0 rfl)) |>.mpr ?_
 |refine aN 3 ho rfl krx hov sm (λ_ ho=>?_)
 |refine aN 2 ho rfl krx hvp sm (λ_ ho=>?_)
 |refine aN 1 ho rfl krx rfl sm (λ_ ho=>?_)
end
end Go.Proofs.YtlipjfcbjemicaaGreatDoor

namespace Go.Proofs.YtlipjfcbjemicaaGreatDoor
variable{B Sy cl counts l near:List Nat}{C:ak->Prop}{M:Eng.Mem}{P:Program}{W w:ak}{above:List UInt8}{args:Array ao}{b cap d f i j jm m most p t:Nat}{colors:Int}{cv t0:ao}{u:FrameMode}{α:Type}{t0 t1 t2 t3 t4:ao}{k0:Eng.KT}
section
open Go
def dv (tag:Int)(above row:List UInt8)(colors:Int):List UInt8:=(List.range row.length).map λi=>row.getD i 0 - dn tag above row (i:Int) colors
theorem jn {tag:Int}{row:List UInt8}:(dv tag above row colors).length=row.length:=by simp[dv]
theorem uu {tag:Int}{row:List UInt8}(h:i < row.length):(dv tag above row colors)[i]?=aw (row[i] - dn tag above row (i:Int) colors):=by
 simp[dv,h,aoE]
theorem uv {tag:Int}{above row:List UInt8}{colors:Int}(hc:1<=colors):∀(k i:Nat),row.length=i+k->dp tag above colors (row.take i) ((dv tag above row colors).drop i)=row
|0,i,h=>by
  rw[auH (by rw[jn];omega),apE om];rfl
|k+1,i,h=>by
  have hi:i < row.length:=om
  have hl:(row.take i).length=i:=by rw[aoH];omega
  have e:(dv tag above row colors).drop i=(row[i] - dn tag above row (i:Int) colors)::(dv tag above row colors).drop (i+1):=by
   rw[apV (by rw[jn];exact hi)]
   congr 1
   have:=uu (tag:=tag) (above:=above) (colors:=colors) hi;rw[aoI (by rw[jn];exact hi)] at this;exact arH this
  have eo:dn tag above row (i:Int) colors=dn tag above (row.take i) (i:Int) colors:=by
   have:=ur (tag:=tag) (above:=above) (p:=row.take i) (r:=row.drop i) (colors:=colors) hc;rw[apS,hl] at this;exact this
  rw[e,dp,hl,eo];have e2:row[i] - dn tag above (row.take i) (i:Int) colors+dn tag above (row.take i) (i:Int) colors=row[i]:=UInt8.sub_add_cancel _ _;rw[e2,<-apG hi];exact uv hc k (i+1) om
def fw (T:List UInt8->List UInt8->Nat)(c:Int)(n h:Nat):Nat->List UInt8->List UInt8->List UInt8
|0,_,_=>[]
|f+1,s,prev=>if s=[] then [] else (if h=1 then [UInt8.ofNat (T prev (s.take n))] else [])++(dv (T prev (s.take n):Nat) prev (s.take n) c++fw T c n h f (s.drop n) (s.take n))
theorem uw {T:List UInt8->List UInt8->Nat}{c:Int}{n h:Nat}(hn:0 < n)(hh:h=0∨h=1):∀(k f:Nat) (s prev:List UInt8),s.length=k*n->s.length < f->(fw T c n h f s prev).length=k*(n+h)
|_,0,_,_,_,hf=>by omega
|0,f+1,s,prev,hk,_=>by
  have:s=[]:=arS.1 om;unfold fw;rw[anX this];simp
|k+1,f+1,s,prev,hk,hf=>by
  rw[aqX] at hk;have hne:s≠[]:=λe=>by rw[e] at hk;simp at hk;omega
  have lt:(s.take n).length=n:=by rw[aoH];omega
  have ld:(s.drop n).length=s.length - n:=aoJ;unfold fw;rw[anW hne,aoC,aoC,jn,lt,uw hn hh k f (s.drop n) (s.take n) om om,aqX];rcases hh with rfl|rfl
  ·rw[anW dc];simp;omega
  ·rw[anX rfl];simp;omega
theorem ux {T:List UInt8->List UInt8->Nat}{c:Int}{n h:Nat}(hc:1<=c)(hn:0 < n)(hh:h=0∨h=1)(hT:∀a b,T a b<=4)(hT0:h=0->∀a b,T a b=1) :
  ∀(k f g:Nat) (s prev out:List UInt8),s.length=k*n->s.length < f->k < g->jz c n h g (fw T c n h f s prev) prev out=(out++s,0)
|_,0,_,_,_,_,_,hf,_=>by omega
|_,_,0,_,_,_,_,_,hg=>by omega
|0,f+1,g+1,s,prev,out,hk,_,_=>by
  have:s=[]:=arS.1 om;unfold fw;rw[anX this,this];unfold jz;rw[anX (show ([]:List UInt8).length=0 from rfl),aoV]
|k+1,f+1,g+1,s,prev,out,hk,hf,hg=>by
  rw[aqX] at hk;have hne:s≠[]:=λe=>by rw[e] at hk;simp at hk;omega
  have et:s.take n++s.drop n=s:=apS ..
  have lt:(s.take n).length=n:=by rw[aoH];omega
  have ld:(s.drop n).length=s.length - n:=aoJ;unfold fw;rw[anW hne];have ih:=ux hc hn hh hT hT0 k f g (s.drop n) (s.take n) (out++s.take n) om om om;rw[aoL,et] at ih;rw[<-ih];have hle:(dv (T prev (s.take n):Nat) prev (s.take n) c).length=n:=by rw[jn,lt]
  have hdec:=uv (tag:=(T prev (s.take n):Nat)) (above:=prev) (row:=s.take n) hc n 0 om;rw[arP,aqH] at hdec
  conv=>lhs;unfold jz
  have ht:=hT prev (s.take n);rcases hh with rfl|rfl
  ·have h1:=hT0 rfl prev (s.take n);rw[h1] at hdec hle ⊢;have e0:(if (0:Nat)=1 then [UInt8.ofNat 1] else [])++(dv ((1:Nat):Int) prev (s.take n) c++fw T c n 0 f (s.drop n) (s.take n))=dv ((1:Nat):Int) prev (s.take n) c++fw T c n 0 f (s.drop n) (s.take n):=rfl;rw[e0,anW (by rw[aoC];omega)];dsimp only;rw[anW (show ¬(0:Nat)=1 by decide),anW dc,aqH,apO,aqY hle,List.drop_left' hle];have hd:dp ((1:Nat):Int) prev c [] (dv ((1:Nat):Int) prev (s.take n) c)=s.take n:=hdec;rw[hd]
  ·rw[anX rfl];have e0:([UInt8.ofNat (T prev (s.take n))]++(dv (T prev (s.take n):Nat) prev (s.take n) c++fw T c n 1 f (s.drop n) (s.take n))).getD 0 0=UInt8.ofNat (T prev (s.take n)):=rfl;have en:(UInt8.ofNat (T prev (s.take n))).toNat=T prev (s.take n):=by rw[asI,aqA om]
   have ed:([UInt8.ofNat (T prev (s.take n))]++(dv (T prev (s.take n):Nat) prev (s.take n) c++fw T c n 1 f (s.drop n) (s.take n))).drop 1=dv (T prev (s.take n):Nat) prev (s.take n) c++fw T c n 1 f (s.drop n) (s.take n):=rfl;rw[anW (by rw[aoC,apL];omega)];dsimp only;rw[anX rfl,e0,en,anW om,ed,aqY hle,atE n 1,<-arE,ed,List.drop_left' hle,hdec]
def fk (l:List UInt8):Nat:=(l.map λc=>min c.toNat (256 - c.toNat)).sum
def jq (above row:List UInt8)(c:Int):Nat->Nat×Nat
|0=>(0,fk (dv 0 above row c))
|k+1=>if fk (dv ((k+1:Nat):Int) above row c) < (jq above row c k).2 then (k+1,fk (dv ((k+1:Nat):Int) above row c)) else jq above row c k
def qc (above row:List UInt8)(c:Int):Nat:=(jq above row c 4).1
theorem uy (above row:List UInt8)(c:Int):∀k,(jq above row c k).1<=k
|0=>aoG _
|k+1=>by
  have:=uy above row c k;unfold jq;split
  ·exact aoG _
  ·omega
def lu (p c:Int)(above row:List UInt8):Nat:=if p=2 then 1 else if p=15 then qc above row c else (p - 10).toNat
theorem yy {p:Int}(h:p=2∨(10<=p∧p<=15))(c:Int)(a b:List UInt8):lu p c a b<=4:=by
 unfold lu;split
 ·omega
 ·split
  ·exact uy a b c 4
  ·omega
end
section
open Go
def bz (l:List Nat)(i:Nat):Nat:=
 l.getD (8*i) 0+2*l.getD (8*i+1) 0+4*l.getD (8*i+2) 0+8*l.getD (8*i+3) 0+16*l.getD (8*i+4) 0+32*l.getD (8*i+5) 0+64*l.getD (8*i+6) 0+128*l.getD (8*i+7) 0
def ay (l:List Nat):List UInt8:=(List.range ((l.length+7) / 8)).map λi=>UInt8.ofNat (bz l i)
def bf (v n:Nat):List Nat:=(List.range n).map λi=>v / 2 ^ i % 2
def bo (l:List Nat):Prop:=∀b∈l,b < 2
theorem cc (v n:Nat):(bf v n).length=n:=by simp[bf]
theorem ee (v n:Nat):bo (bf v n):=by
 intro b hb;obtain⟨i,_,rfl⟩:=apN.1 hb;exact aqW _ dc
theorem ir (h:bo l)(i:Nat):l.getD i 0 < 2:=by
 rw[aoE];cases hx:l[i]? with
|none=>decide
|some b=>exact h b (arN hx)
theorem yz (h:bo l)(i:Nat):bz l i < 256:=by
 unfold bz;have h0:=ir h (8*i);have h1:=ir h (8*i+1);have h2:=ir h (8*i+2);have h3:=ir h (8*i+3);have h4:=ir h (8*i+4);have h5:=ir h (8*i+5);have h6:=ir h (8*i+6);have h7:=ir h (8*i+7);omega
theorem lx (l:List Nat):(ay l).length=(l.length+7) / 8:=by simp[ay]
theorem I0 (h:i < (l.length+7) / 8):(ay l).getD i 0=UInt8.ofNat (bz l i):=by
 rw[aoE];simp[ay,h]
theorem za (h:bo l)(i j:Nat)(hj:j < 8):bz l i / 2 ^ j % 2=l.getD (8*i+j) 0:=by
 unfold bz;have h0:=ir h (8*i);have h1:=ir h (8*i+1);have h2:=ir h (8*i+2);have h3:=ir h (8*i+3);have h4:=ir h (8*i+4);have h5:=ir h (8*i+5);have h6:=ir h (8*i+6);have h7:=ir h (8*i+7);rcases (by omega:j=0∨j=1∨j=2∨j=3∨j=4∨j=5∨j=6∨j=7) with rfl|rfl|rfl|rfl|rfl|rfl|rfl|rfl<;>(try simp only[apO])<;>omega
theorem re (h:bo l)(p:Nat):Fl.bit (ay l) p=l.getD p 0:=by
 unfold Fl.bit;by_cases hp:p / 8 < (l.length+7) / 8
 ·have hlt:=yz h (p / 8);rw[I0 hp,asI,aqA (show bz l (p / 8) < 2 ^ 8 from hlt),za h _ _ (aqW _ dc),show 8*(p / 8)+p % 8=p by omega]
 ·have h1:(ay l).getD (p / 8) 0=0:=by
   rw[aoE,aqB (by rw[lx];omega)];rfl
  have h2:l.getD p 0=0:=by
   rw[aoE,aqB om];rfl
  rw[h1,h2];simp
theorem uz {l:List Nat}(h:bo l)(p v:Nat):∀n,(∀i,i < n->l.getD (p+i) 0=v / 2 ^ i % 2)->Fl.num (ay l) p n=v % 2 ^ n
|0,_=>by rw[Fl.num,Nat.pow_zero,Nat.mod_one]
|n+1,hv=>by
  rw[Fl.num,uz h p v n (λi hi=>hv i om),re h,hv n om,Nat.mod_pow_succ,arG]
theorem J0 {a b:List Nat}{v n:Nat}(h:bo (a++bf v n++b))(hv:v < 2 ^ n):Fl.num (ay (a++bf v n++b)) a.length n=v:=by
 rw[uz h a.length v n,aqA hv];intro i hi;rw[aoE,aoL,arD om,asZ,aqO (by rw[cc];exact hi)];simp[bf,hi]
theorem cd {a b:List Nat}(ha:bo a)(hb:bo b):bo (a++b):=λx hx=>(apF.1 hx).elim (ha x) (hb x)
end
def jc (v n:Nat):List Nat:=(List.range n).map λi=>v / 2 ^ (n - 1 - i) % 2
theorem vd (v n:Nat):(jc v n).length=n:=by simp[jc]
theorem zb (v n:Nat):bo (jc v n):=by
 intro b hb;obtain⟨i,_,rfl⟩:=apN.1 hb;exact aqW _ dc
def dt (lens:List Nat)(i:Nat):List Nat:=jc (dh lens i) (lens.getD i 0)
theorem fo (lens:List Nat)(i:Nat):(dt lens i).length=lens.getD i 0:=vd ..
theorem lh (lens:List Nat)(i:Nat):bo (dt lens i):=zb _ _
theorem ve (lens:List Nat):∀l,l < 15->(Fl.first lens (l+1)+lens.count (l+1))*2 ^ (15 - (l+1))=Fl.fW lens (l+1)
|0,_=>by simp[Fl.first,Fl.fW]
|l+1,h=>by
  have ih:=ve lens l om;rw[Fl.fW,<-ih,Fl.first,arC]
  congr 1
  rw[show 15 - (l+1)=(15 - (l+1+1))+1 by omega,aqS,arG 2,atM,arG 2]
theorem No (lens:List Nat){a:Nat}(h:a<=b):Fl.fW lens a<=Fl.fW lens b:=by
 induction b with
|zero=>
  have:a=0:=om
  subst this;exact aoG _
|succ b ih=>
  rcases apD a (b+1) with h'|h'
  ·have:=ih om;rw[Fl.fW];omega
  ·have:a=b+1:=om
   subst this;exact aoG _
theorem vh (lens:List Nat):∀l,Fl.fW lens l<=Fl.aR lens l*2 ^ 15
|0=>by simp[Fl.fW]
|l+1=>by
  have ih:=vh lens l;rw[Fl.fW,Fl.aR,arC];have:lens.count (l+1)*2 ^ (15 - (l+1))<=lens.count (l+1)*2 ^ 15:=Nat.mul_le_mul_left _ (apJ dc om);omega
theorem vi {lens:List Nat}(h:Fl.check lens=0):Fl.fW lens 15<=2 ^ 15:=by
 unfold Fl.check at h;split at h
 ·rename_i h1
  have:=vh lens 15;rcases h1 with h1|h1|h1
  ·omega
  ·rw[h1] at this;omega
  ·rw[h1.1] at this;omega
 ·cases h
theorem vj {lens:List Nat}(h:az lens=0):Fl.check lens=0:=by
 unfold az at h;split at h
 ·cases h
 ·exact h
theorem N0 {lens:List Nat}(h:Fl.fW lens 15<=2 ^ 15){n:Nat}(h0:0 < n)(hn:n<=15):Fl.first lens n+lens.count n<=2 ^ n:=by
 obtain⟨l,rfl⟩:∃l,n=l+1:=⟨n - 1,om⟩;have h1:=ve lens l om;have h2:=No lens hn;have h3:(Fl.first lens (l+1)+lens.count (l+1))*2 ^ (15 - (l+1))<=2 ^ (l+1)*2 ^ (15 - (l+1)):=by
  rw[h1,<-Nat.pow_add,show l+1+(15 - (l+1))=15 by omega];omega
 exact Nat.le_of_mul_le_mul_right h3 (atP _)
theorem vm (lens:List Nat)(l:Nat):∀k,(Fl.first lens (l+1)+lens.count (l+1))*2 ^ (k+1)<=Fl.first lens (l+1+(k+1))
|0=>by
  show _<=2*(Fl.first lens (l+1)+lens.count (l+1));omega
|k+1=>by
  have ih:=vm lens l k;rw[show l+1+(k+1+1)=(l+1+k)+2 by omega,Fl.first,aqS,<-atM];rw[show l+1+(k+1)=l+1+k+1 by omega] at ih;omega
theorem vo {lens:List Nat}(hi:i < lens.length):(lens.take i).count (lens.getD i 0) < lens.count (lens.getD i 0):=by
 have h:lens=lens.take i++lens.drop i:=(apS i lens).symm;have h2:lens.drop i=lens.getD i 0::lens.drop (i+1):=by
  rw[apV hi,aoE,aoI hi];rfl
 have e:lens.count (lens.getD i 0)=(lens.take i++lens.getD i 0::lens.drop (i+1)).count (lens.getD i 0):=by rw[<-h2,<-h]
 rw[e,asC,List.count_cons_self];omega
theorem OF {lens:List Nat}(hi:i < lens.length):(jy lens (lens.getD i 0)).getD ((lens.take i).count (lens.getD i 0)) 0=i:=by
 unfold jy;obtain⟨m,hm⟩:∃m,lens.length=i+(m+1):=⟨lens.length - i - 1,om⟩;have e:((List.range i).filter λj=>ai (lens.getD j 0=lens.getD i 0)).length=(lens.take i).count (lens.getD i 0):=by
  have h:=qm (lens.take i) (lens.getD i 0);rw[<-h];unfold jy;rw[aoH,apI om]
  congr 1
  refine List.filter_congr λj hj=>?_;rw[aoE,aoE (l:=lens.take i),arB,anX (apZ.1 hj)]
 rw[hm,List.range_add,auU,aoE,arD om,e,aqK,List.range_succ_eq_map,aqL,asV,apO];simp
theorem vq {lens:List Nat}(h:Fl.fW lens 15<=2 ^ 15)(h15:∀l∈lens,l<=15)(hi:0 < lens.getD i 0):dh lens i < 2 ^ lens.getD i 0:=by
 have hil:i < lens.length:=by
  rcases apD i lens.length with h|h
  ·exact h
  ·rw[aoE,aqB h] at hi;exact absurd hi (asX _)
 have hm:lens.getD i 0∈lens:=by rw[aoE,aoI hil];exact aoR ..
 unfold dh;rw[anW om];have h1:=vo hil;have h2:=N0 h hi (h15 _ hm);omega
theorem vt {a x b:List Nat}(hi:i < x.length):(a++x++b).getD (a.length+i) 0=x.getD i 0:=by
 rw[aoE,aoL,arD om,asZ,aqO hi,aoE]
theorem vu {v n:Nat}(hi:i < n):(jc v n).getD i 0=v / 2 ^ (n - 1 - i) % 2:=by
 rw[aoE];simp[jc,hi]
theorem vv (l:List Nat):l.length<=8*(ay l).length:=by rw[lx];omega
theorem O0 {lens:List Nat}(h:Fl.fW lens 15<=2 ^ 15)(h15:∀l∈lens,l<=15)(hi:0 < lens.getD i 0){a b:List Nat}(hok:bo (a++dt lens i++b)) :
  ∀(k l f:Nat),lens.getD i 0=l+(k+1)->k < f ->
   ig lens (ay (a++dt lens i++b)) f l (a.length+l) (dh lens i / 2 ^ (k+1))=(i,a.length+lens.getD i 0,0):=by
 have hil:i < lens.length:=by
  rcases apD i lens.length with h|h
  ·exact h
  ·rw[aoE,aqB h] at hi;exact absurd hi (asX _)
 have hm:lens.getD i 0∈lens:=by rw[aoE,aoI hil];exact aoR ..
 have hn15:=h15 _ hm;have hrk:=vo hil;have hlen:=vv (a++dt lens i++b);simp only[aoC,fo] at hlen;intro k
 induction k with
|zero=>
  intro l f hl hf;obtain⟨f,rfl⟩:∃g,f=g+1:=⟨f - 1,om⟩;have hu:Fl.aR lens l < Fl.aR lens (l+1):=by rw[Fl.aR];rw[hl,aoN] at hrk;omega
  have hu2:=lz lens (a:=l+1) (b:=15) om;have hbit:Fl.bit (ay (a++dt lens i++b)) (a.length+l)=dh lens i % 2:=by
   rw[re hok,vt (by rw[fo];omega)];unfold dt;rw[vu om,show lens.getD i 0 - 1 - l=0 by omega,Nat.pow_zero,Nat.div_one]
  have hc:2*(dh lens i / 2 ^ (0+1))+dh lens i % 2=dh lens i:=by
   have:(2:Nat) ^ (0+1)=2:=rfl;rw[this];omega
  have hcode:dh lens i=Fl.first lens (l+1)+(lens.take i).count (l+1):=by
   unfold dh;rw[anW om,hl]
  rw[hl,aoN] at hrk;unfold ig;rw[anW om,anW om,hbit,hc,anX (by rw[hcode];omega),show dh lens i - Fl.first lens (l+1)=(lens.take i).count (l+1) by rw[hcode];omega,uf om hrk];have:=OF hil;rw[hl] at this;rw[this,hl];rfl
|succ k ih=>
  intro l f hl hf;obtain⟨f,rfl⟩:∃g,f=g+1:=⟨f - 1,om⟩;have hu:Fl.aR lens l < Fl.aR lens (lens.getD i 0):=by
   have:=lz lens (a:=l) (b:=l+(k+1)) om;rw[hl] at hrk ⊢;rw[show l+(k+1+1)=(l+(k+1))+1 by omega] at hrk ⊢;rw[Fl.aR];omega
  have hu2:=lz lens (a:=lens.getD i 0) (b:=15) hn15;have hbit:Fl.bit (ay (a++dt lens i++b)) (a.length+l)=dh lens i / 2 ^ (k+1) % 2:=by
   rw[re hok,vt (by rw[fo];omega)];unfold dt;rw[vu om,show lens.getD i 0 - 1 - l=k+1 by omega]
  have hc:2*(dh lens i / 2 ^ (k+1+1))+dh lens i / 2 ^ (k+1) % 2=dh lens i / 2 ^ (k+1):=by
   rw[aqS 2 (k+1),<-arA];omega
  have hup:=vm lens l k;have hcode:Fl.first lens (l+1+(k+1))<=dh lens i:=by
   unfold dh;rw[anW om,hl,show l+1+(k+1)=l+(k+1+1) by omega];omega
  have hge:Fl.first lens (l+1)+lens.count (l+1)<=dh lens i / 2 ^ (k+1):=(Nat.le_div_iff_mul_le (atP _)).2 om
  unfold ig;rw[anW om,anW om,hbit,hc,anW om];exact ih (l+1) f om om
theorem P0 {lens:List Nat}(h:az lens=0)(h15:∀l∈lens,l<=15)(hi:0 < lens.getD i 0){a b:List Nat}(hok:bo (a++dt lens i++b)) :
  cj lens (ay (a++dt lens i++b)) a.length=(i,a.length+lens.getD i 0,0):=by
 have hs:=vi (vj h);have hl:=vq hs h15 hi;have hm:lens.getD i 0<=15:=by
  rcases apD i lens.length with h|h
  ·exact h15 _ (by rw[aoE,aoI h];exact aoR ..)
  ·rw[aoE,aqB h];exact aoO _
 have:=O0 hs h15 hi hok (lens.getD i 0 - 1) 0 16 om om;rw[show lens.getD i 0 - 1+1=lens.getD i 0 by omega,Nat.div_eq_of_lt hl] at this;exact this
def lj (group:Nat):Nat->Nat->Nat->Nat->Nat×Nat×Nat
|0,n,sign,bits=>(sign+n / 2 ^ bits,n % 2 ^ bits,bits)
|f+1,n,sign,bits=>if group*2 ^ bits<=n then lj group f (n - group*2 ^ bits) (sign+group) (bits+1) else (sign+n / 2 ^ bits,n % 2 ^ bits,bits)
def jt (n ones group:Nat):Nat×Nat×Nat:=if n < ones then (n,0,0) else lj group 20 (n - ones) ones 1
def ck (size:Nat):Nat×Nat×Nat:=if size=258 then (285,0,0) else (257+(jt (size - 3) 8 4).1,(jt (size - 3) 8 4).2)
def du (d:Nat):Nat×Nat×Nat:=jt (d - 1) 4 2
def sj (n:Nat):Bool:=let r:=ck (n+3);ai (257<=r.1)&&ai (r.1<=285)&&ai (cy (r.1 - 257)=r.2.2)&&ai (gl (r.1 - 257)+r.2.1=n+3)&&ai (r.2.1 < 2 ^ r.2.2)&&ai (r.2.2<=5)
theorem mm {n:Nat}(h3:3<=n)(h:n<=258):257<=(ck n).1∧(ck n).1<=285∧cy ((ck n).1 - 257)=(ck n).2.2∧gl ((ck n).1 - 257)+(ck n).2.1=n∧(ck n).2.1 < 2 ^ (ck n).2.2∧(ck n).2.2<=5:=by
 have h1:(List.range 256).all sj=true:=by decide +kernel
 have h2:=aqU.1 h1 (n - 3) (apZ.2 om);unfold sj at h2;rw[show n - 3+3=n by omega] at h2;simp only[aoY,apY] at h2;obtain⟨⟨⟨⟨⟨a,b⟩,c⟩,d⟩,e⟩,f⟩:=h2;exact⟨a,b,c,d,e,f⟩
theorem vw (n:Nat):∀(f k:Nat),2 ^ (k+1)<=n->n < 2 ^ (k+f+2) ->
  ∃m,k<=m∧2 ^ (m+1)<=n∧n < 2 ^ (m+2)∧lj 2 f (n - 2 ^ (k+1)) (2+2*k) k=(2+2*m+(n - 2 ^ (m+1)) / 2 ^ m,(n - 2 ^ (m+1)) % 2 ^ m,m)
|0,k,h,h2=>⟨k,aoG _,h,h2,rfl⟩
|f+1,k,h,h2=>by
  have e1:2 ^ (k+2)=2*2 ^ (k+1):=by rw[aqS];omega
  have e0:2 ^ (k+1)=2*2 ^ k:=by rw[aqS];omega
  unfold lj;by_cases hc:2*2 ^ k<=n - 2 ^ (k+1)
  ·rw[anX hc];obtain⟨m,a,b,c,d⟩:=vw n f (k+1) (by rw[show k+1+1=k+2 by omega];omega) (by rw[show k+1+f+2=k+(f+1)+2 by omega];exact h2);refine⟨m,om,b,c,?_⟩;rw[<-d,show n - 2 ^ (k+1) - 2*2 ^ k=n - 2 ^ (k+1+1) by rw[show k+1+1=k+2 by omega];omega,show 2+2*k+2=2+2*(k+1) by omega]
  ·rw[anW hc];exact⟨k,aoG _,h,om,rfl⟩
def qd (m:Nat):Bool:=ai (dq (2+2*m)=1+2 ^ (m+1))&&ai (dq (2+2*m+1)=1+2 ^ (m+1)+2 ^ m)
theorem mz (h0:1<=d)(h:d<=32768):(du d).1<=29∧bu (du d).1=(du d).2.2∧dq (du d).1+(du d).2.1=d∧(du d).2.1 < 2 ^ (du d).2.2∧(du d).2.2<=13:=by
 unfold du jt;by_cases h4:d - 1 < 4
 ·rw[anX h4];rcases (by omega:d=1∨d=2∨d=3∨d=4) with rfl|rfl|rfl|rfl<;>decide
 ·rw[anW h4];obtain⟨m,a,b,c,e⟩:=vw (d - 1) 20 1 om (by have:(2:Nat) ^ (1+20+2)=8388608:=rfl;omega);have hm:m<=13:=by
   rcases apD m 14 with h'|h'
   ·omega
   ·have:=apJ (n:=2) dc (show 15<=m+1 by omega);have e15:(2:Nat) ^ 15=32768:=rfl;omega
  have e4:lj 2 20 (d - 1 - 4) 4 1=lj 2 20 (d - 1 - 2 ^ (1+1)) (2+2*1) 1:=rfl;rw[e4,e];have p1:2 ^ (m+1)=2*2 ^ m:=by rw[aqS];omega
  have p2:2 ^ (m+2)=4*2 ^ m:=by rw[aqS,aqS];omega
  have pp:=atP m;have hq:(List.range 14).all qd=true:=by decide +kernel
  have hq:=aqU.1 hq m (apZ.2 om);unfold qd at hq;rw[aoY,apY,apY] at hq;have hdm:=Nat.div_add_mod (d - 1 - 2 ^ (m+1)) (2 ^ m);have hlt:=aqW (d - 1 - 2 ^ (m+1)) pp;have hq2:(d - 1 - 2 ^ (m+1)) / 2 ^ m < 2:=(Nat.div_lt_iff_lt_mul pp).2 om;generalize (d - 1 - 2 ^ (m+1)) / 2 ^ m=q at hdm hq2 ⊢;generalize (d - 1 - 2 ^ (m+1)) % 2 ^ m=r at hdm hlt ⊢;rcases (by omega:q=0∨q=1) with rfl|rfl
  ·refine⟨by show 2+2*m+0<=29;omega,by show (2+2*m+0) / 2 - 1=m;omega,?_,hlt,hm⟩;show dq (2+2*m)+r=d;rw[hq.1];omega
  ·refine⟨by show 2+2*m+1<=29;omega,by show (2+2*m+1) / 2 - 1=m;omega,?_,hlt,hm⟩;show dq (2+2*m+1)+r=d;rw[hq.2];omega
def fm (l:List Nat)(p:Nat)(x:List Nat):Prop:=∃a b,l=a++x++b∧p=a.length
theorem fm.fst {x y:List Nat}(h:fm l p (x++y)):fm l p x:=by
 obtain⟨a,b,rfl,rfl⟩:=h;exact⟨a,y++b,by simp[aoL],rfl⟩
theorem fm.snd {x y:List Nat}(h:fm l p (x++y)):fm l (p+x.length) y:=by
 obtain⟨a,b,rfl,rfl⟩:=h;exact⟨a++x,b,by simp[aoL],sm⟩
theorem fm.le {x:List Nat}(h:fm l p x):p+x.length<=8*(ay l).length:=by
 obtain⟨a,b,rfl,rfl⟩:=h;have:=vv (a++x++b);simp only[aoC] at this;omega
theorem fm.num {l:List Nat}{p v n:Nat}(h:fm l p (bf v n))(hok:bo l)(hv:v < 2 ^ n):Fl.num (ay l) p n=v:=by
 obtain⟨a,b,rfl,rfl⟩:=h;exact J0 hok hv
theorem fm.sign {l:List Nat}{p i:Nat}{lens:List Nat}(h:fm l p (dt lens i))(hok:bo l)(hc:az lens=0)(h15:∀l∈lens,l<=15)(hi:0 < lens.getD i 0):cj lens (ay l) p=(i,p+lens.getD i 0,0):=by
 obtain⟨a,b,rfl,rfl⟩:=h;exact P0 hc h15 hi hok
abbrev bn:=UInt8×Nat×Nat
def gu (out:List UInt8)(x:bn):List UInt8:=if x.2.1=0 then out++[x.1] else gi x.2.2 x.2.1 out
def fx (out:List UInt8)(l:List bn):List UInt8:=l.foldl gu out
def gw (n:Nat)(x:bn):Prop:=if x.2.1=0 then x.2.2=0 else x.1=0∧3<=x.2.1∧x.2.1<=258∧1<=x.2.2∧x.2.2<=32768∧x.2.2<=n
def iu:Nat->List bn->Prop
|_,[]=>True
|n,x::l=>gw n x∧iu (n+max x.2.1 1) l
theorem oh {out:List UInt8}{x:bn}:(gu out x).length=out.length+max x.2.1 1:=by
 unfold gu;by_cases h:x.2.1=0
 ·rw[anX h,h];simp
 ·rw[anW h,qo];omega
theorem vx:∀(l:List bn) (out:List UInt8),out.length<=(fx out l).length
|[],out=>aoG _
|x::l,out=>by
  have:=vx l (gu out x);rw[oh] at this;show out.length<=(fx (gu out x) l).length;omega
def fg (near far:List Nat)(x:bn):List Nat:=
 if x.2.1=0 then dt near x.1.toNat
 else dt near (ck x.2.1).1++(bf (ck x.2.1).2.1 (ck x.2.1).2.2++(dt far (du x.2.2).1++bf (du x.2.2).2.1 (du x.2.2).2.2))
def fc (near far:List Nat)(x:bn):Prop:=
 if x.2.1=0 then 0 < near.getD x.1.toNat 0 else 0 < near.getD (ck x.2.1).1 0∧0 < far.getD (du x.2.2).1 0
def dk (near far:List Nat)(l:List bn):List Nat:=l.flatMap (fg near far)++dt near 256
theorem vy (near far:List Nat)(x:bn):bo (fg near far x):=by
 unfold fg;split
 ·exact lh _ _
 ·exact cd (lh _ _) (cd (ee _ _) (cd (lh _ _) (ee _ _)))
theorem vz (near far:List Nat)(l:List bn):bo (dk near far l):=by
 refine cd (λb hb=>?_) (lh _ _);obtain⟨x,_,hx⟩:=atK.1 hb;exact vy near far x b hx
theorem wa {near far:List Nat}(hn:az near=0)(hf:az far=0)(hn15:∀l∈near,l<=15)(hf15:∀l∈far,l<=15)(h256:0 < near.getD 256 0){B:List Nat}(hok:bo B){most:Nat} :
  ∀(l:List bn) (p:Nat) (out:List UInt8) (f:Nat),(∀x∈l,fc near far x)->iu out.length l->fm B p (dk near far l)->(fx out l).length<=most->l.length < f ->
   jh near far (ay B) most f p out=(fx out l,p+(dk near far l).length,0)
|[],p,out,f,_,_,hat,hm,hl=>by
  obtain⟨f,rfl⟩:∃g,f=g+1:=⟨f - 1,by simp at hl;omega⟩;have hat:fm B p (dt near 256):=hat;unfold jh;simp only[hat.sign hok hn hn15 h256];rw[anW sm,anW om,anX trivial];show (out,_,_)=(out,p+(dt near 256).length,0);rw[fo]
|x::l,p,out,f,hh,ho,hat,hm,hl=>by
  obtain⟨f,rfl⟩:∃g,f=g+1:=⟨f - 1,by simp at hl;omega⟩;have hl:l.length < f:=by simp at hl;omega
  have hx:=hh x (apU ..);have e:dk near far (x::l)=fg near far x++dk near far l:=by
   unfold dk;rw[aqC,aoL]
  rw[e] at hat;have h1:=hat.fst;have h2:=hat.snd;have hm':(fx (gu out x) l).length<=most:=hm;have hm1:=aqQ (vx l (gu out x)) hm';have ho1:=ho.1;have ho2:=ho.2;rw[<-oh] at ho2;have ih:=wa hn hf hn15 hf15 h256 hok l (p+(fg near far x).length) (gu out x) f (λy hy=>hh y (apA _ hy)) ho2 h2 hm' hl;have fin:fx (gu out x) l=fx out (x::l):=rfl;rw[fin] at ih;rw[e,aoC,<-arM,<-ih]
  conv=>lhs;unfold jh
  unfold fc at hx;unfold fg at h1 h2 ih ⊢;unfold gw at ho1;rw[oh] at hm1;unfold gu at ih ⊢;by_cases h0:x.2.1=0
  ·rw[anX h0] at hx ho1;simp only[anX h0] at h1 ih ⊢;have hb:x.1.toNat < 256:=x.1.toNat_lt;simp only[h1.sign hok hn hn15 hx];rw[anW sm,anX hb,anW om,fo,UInt8.ofNat_toNat]
  ·rw[anW h0] at hx ho1;simp only[anW h0] at h1 h2 ih ⊢;obtain⟨s1,s2,s3,s4,s5,s6⟩:=mm ho1.2.1 ho1.2.2.1;obtain⟨f1,f2,f3,f4,f5⟩:=mz ho1.2.2.2.1 ho1.2.2.2.2.1;have a1:=h1.fst;have a2:=h1.snd;rw[fo] at a2;have a3:=a2.snd;rw[cc] at a3;have a4:=a3.snd;rw[fo] at a4;have n2:=a2.fst.num hok s5;have n4:=a4.num hok f4;have l2:=a2.fst.le;have l4:=a4.le;rw[cc] at l2 l4;have g3:=a3.fst.sign hok hf hf15 hx.2;simp only[a1.sign hok hn hn15 hx.1];have hcop:bw far (ay B) (p+near.getD (ck x.2.1).1 0) (ck x.2.1).1 out most=(gi x.2.2 x.2.1 out,p+near.getD (ck x.2.1).1 0+(ck x.2.1).2.2+far.getD (du x.2.2).1 0+(du x.2.2).2.2,0):=by
    unfold bw;rw[anW om,s3,anW om,n2,s4];simp only[g3];rw[anW sm,anW om,f2,anW om,n4,f3,anW om,anW om]
   simp only[hcop];rw[anW sm,anW om,anW om,anW sm]
   congr 1
   simp only[aoC,fo,cc];omega
theorem we {near far:List Nat}:∀{l:List bn},(∀x∈l,fc near far x)->0 < near.getD 256 0->l.length+1<=(dk near far l).length
|[],_,h=>by
  show 1<=(dt near 256).length;rw[fo];exact h
|x::l,hh,h=>by
  have ih:=we (λy hy=>hh y (apA _ hy)) h;have hx:=hh x (apU ..);have e:dk near far (x::l)=fg near far x++dk near far l:=by
   unfold dk;rw[aqC,aoL]
  have:1<=(fg near far x).length:=by
   unfold fg;unfold fc at hx;by_cases h0:x.2.1=0
   ·rw[anX h0] at hx ⊢;rw[fo];exact hx
   ·rw[anW h0] at hx ⊢;rw[aoC,fo];omega
  rw[e,aoC,apB];omega
theorem wg {far:List Nat}(hn:az near=0)(hf:az far=0)(hn15:∀l∈near,l<=15)(hf15:∀l∈far,l<=15)(h256:0 < near.getD 256 0)(hok:bo B){l:List bn}
  (hh:∀x∈l,fc near far x) (ho:iu 0 l) (hat:fm B p (dk near far l)) (hm:(fx [] l).length<=most) :
  ec near far (ay B) most p []=(fx [] l,p+(dk near far l).length,0):=by
 have h1:=we hh h256;have h2:=hat.le;exact wa hn hf hn15 hf15 h256 hok l p [] _ hh ho hat hm om
def gg (s:List UInt8):List Nat:=s.flatMap λc=>bf c.toNat 8
theorem rh:∀s:List UInt8,(gg s).length=8*s.length
|[]=>rfl
|c::s=>by
  have:=rh s;unfold gg at this ⊢;rw[aqC,aoC,this,cc,apB];omega
theorem sk (s:List UInt8):bo (gg s):=λb hb=>by
 obtain⟨c,_,hc⟩:=atK.1 hb;exact ee _ _ b hc
theorem zd {a b:List Nat}{k:Nat}(h:a.length=8*k)(hi:i < k):bz (a++b) i=bz a i:=by
 have e:∀j,j < 8->(a++b).getD (8*i+j) 0=a.getD (8*i+j) 0:=λj hj=>by
  rw[aoE,aqO om,aoE]
 unfold bz;rw[e 1 om,e 2 om,e 3 om,e 4 om,e 5 om,e 6 om,e 7 om,show (a++b).getD (8*i) 0=a.getD (8*i) 0 from e 0 om]
theorem zf {a b:List Nat}{k:Nat}(h:a.length=8*k):bz (a++b) (k+i)=bz b i:=by
 have e:∀j,(a++b).getD (8*(k+i)+j) 0=b.getD (8*i+j) 0:=λj=>by
  rw[aoE,arD om,aoE,show 8*(k+i)+j - a.length=8*i+j by omega]
 unfold bz;rw[e 1,e 2,e 3,e 4,e 5,e 6,e 7,show (a++b).getD (8*(k+i)) 0=b.getD (8*i) 0 from e 0]
theorem mn {a b:List Nat}{k:Nat}(h:a.length=8*k):ay (a++b)=ay a++ay b:=by
 unfold ay;rw[aoC,h,show (8*k+b.length+7) / 8=k+(b.length+7) / 8 by omega,show (8*k+7) / 8=k by omega,List.range_add,apX,auP]
 congr 1
 ·refine auA λi hi=>?_;rw[zd h (apZ.1 hi)]
 ·refine auA λi _=>?_;show UInt8.ofNat (bz (a++b) (k+i))=_;rw[zf h]
theorem Q0:∀n:Fin 256,ay (bf n.val 8)=[UInt8.ofNat n.val]:=by decide +kernel
theorem yn (c:UInt8):ay (bf c.toNat 8)=[c]:=by
 have:=Q0 ⟨c.toNat,c.toNat_lt⟩;rw[this,UInt8.ofNat_toNat]
theorem oo (b:List Nat):∀s:List UInt8,ay (gg s++b)=s++ay b
|[]=>rfl
|c::s=>by
  have e:gg (c::s)=bf c.toNat 8++gg s:=by unfold gg;rw[aqC]
  rw[e,aoL,mn (k:=1) (cc _ _),oo b s,yn];rfl
theorem fm.raw {l:List Nat}{p k:Nat}{s:List UInt8}(h:fm l p (gg s))(hp:p=8*k):((ay l).drop k).take s.length=s:=by
 obtain⟨a,b,rfl,rfl⟩:=h;have hl:(ay a).length=k:=by rw[lx,hp];omega
 rw[aoL,mn hp,oo,asJ,hl,aqK,aqH,auH om,apK,avC,aqK,arP,aoV,aqJ]
def gh (l:List Nat):List Nat:=l++List.replicate ((8 - l.length % 8) % 8) 0
theorem oq (l:List Nat):(gh l).length=8*((l.length+7) / 8):=by
 unfold gh;rw[aoC,apC];omega
theorem wh (l:List Nat):ay (gh l)=ay l:=by
 have e:∀j,(gh l).getD j 0=l.getD j 0:=λj=>by
  unfold gh;rw[aoE,aoE];rcases apD j l.length with h|h
  ·rw[aqO h]
  ·rw[arD h,aqB (l:=l) h,atO];split<;>rfl
 unfold ay;rw[oq,show (8*((l.length+7) / 8)+7) / 8=(l.length+7) / 8 by omega];refine auA λi _=>?_;unfold bz;rw[e,e,e,e,e,e,e,e]
theorem wi (h:bo l):bo (gh l):=cd h λb hb=>by rw[aqZ hb];decide
def jd (R:List Nat)(s:List UInt8):Prop:=∀(L:List Nat) (most:Nat),bo L->fm L 0 R->s.length<=most->jb (ay L) most (8*(ay L).length+1) 0 []=(s,(R.length+7) / 8,0)
theorem R0 {R:List Nat}{s t:List UInt8}(h:jd R s)(hok:bo R){most:Int}(hm:(s.length:Int)<=most)(hs:s.length<=1048576):gy (ay R++t) most=(s,(ay R).length,0):=by
 have e:ay R++t=ay (gh R++gg t):=by
  have:ay (gg t)=t:=by
   have:=oo [] t;rw[aoV] at this;rw[this];exact aoV _
  rw[mn (oq R),wh,this]
 unfold gy;rw[anW om,e,h _ _ (cd (wi hok) (sk t)) ⟨[],List.replicate ((8 - R.length % 8) % 8) 0++gg t,by unfold gh;simp,rfl⟩ om,lx]
def ki (last n:Nat)(s:List UInt8):List Nat:=bf last 1++(bf 0 2++(List.replicate 5 0++(bf n 16++(bf (65535 - n) 16++gg s))))
def iy:Nat->List UInt8->List Nat
|0,_=>[]
|f+1,s=>if s.length<=65535 then ki 1 s.length s else ki 0 65535 (s.take 65535)++iy f (s.drop 65535)
theorem kj (last n:Nat)(s:List UInt8):(ki last n s).length=40+8*s.length:=by
 unfold ki;simp only[aoC,cc,apC,rh];omega
theorem pr (last n:Nat)(s:List UInt8):bo (ki last n s):=
 cd (ee _ _) (cd (ee _ _) (cd (λb hb=>by rw[aqZ hb];decide) (cd (ee _ _) (cd (ee _ _) (sk _)))))
theorem sn:∀(f:Nat) (s:List UInt8),bo (iy f s)
|0,_=>λb hb=>by cases hb
|f+1,s=>by
  unfold iy;split
  ·exact pr _ _ _
  ·exact cd (pr _ _ _) (sn f _)
theorem wj {L:List Nat}{k last:Nat}{s out:List UInt8}(h:fm L (8*k) (ki last s.length s))(hok:bo L)(hl:last < 2)(hs:s.length<=65535)(hm:out.length+s.length<=most) :
  8*k+1<=8*(ay L).length∧Fl.num (ay L) (8*k) 1=last∧bt (ay L) most (8*k+1) out=(out++s,8*k+(ki last s.length s).length,0):=by
 have hle:=h.le;rw[kj] at hle ⊢;unfold ki at h;have h1:=h.snd;rw[cc] at h1;have h2:=h1.snd.snd;rw[cc,apC] at h2;have h3:=h2.snd;rw[cc] at h3;have h4:=h3.snd;rw[cc] at h4;have n1:=h1.fst.num hok dc;have n2:=h2.fst.num hok om;have n3:=h3.fst.num hok om;have n4:=h4.raw (k:=k+5) om;refine⟨om,h.fst.num hok om,?_⟩;unfold bt;rw[anW om,n1,anX rfl];unfold cm;dsimp only;have ea:(8*k+1+2+7) / 8*8=8*k+1+2+5:=om
 rw[ea,anW om,anW om,n2,n3,anW om,anW om,anW om,show (8*k+1+2+5) / 8+4=k+5 by omega,n4]
 congr 2
 omega
theorem wk:∀(f:Nat) (s:List UInt8) (L:List Nat) (k:Nat) (out:List UInt8) (most g:Nat),s.length < f*65535->fm L (8*k) (iy f s)->bo L->out.length+s.length<=most->f<=g ->
  jb (ay L) most g (8*k) out=(out++s,k+((iy f s).length+7) / 8,0)
|0,s,L,k,out,most,g,hs,_,_,_,_=>by omega
|f+1,s,L,k,out,most,g,hs,h,hok,hm,hg=>by
  obtain⟨g,rfl⟩:∃j,g=j+1:=⟨g - 1,om⟩;unfold iy at h ⊢;unfold jb;by_cases hc:s.length<=65535
  ·rw[anX hc] at h ⊢;obtain⟨b1,b2,b3⟩:=wj h hok dc hc hm;rw[anW om];simp only[b3,b2];rw[anW sm,anX trivial]
   congr 2
   omega
  ·rw[anW hc] at h ⊢;have hl:(s.take 65535).length=65535:=by rw[aoH];omega
   have hf:=h.fst
   conv at hf=>arg 3;arg 2;rw[<-hl]
   obtain⟨b1,b2,b3⟩:=wj (out:=out) (most:=most) hf hok dc om om;have h2:=h.snd;rw[kj,hl] at h2;rw[hl,kj,hl] at b3;rw[anW om];simp only[b3,b2];rw[anW sm,anW dc];have hd:(s.drop 65535).length=s.length - 65535:=aoJ;have ih:=wk f (s.drop 65535) L (k+65540) (out++s.take 65535) most g om (by rw[show 8*(k+65540)=8*k+(40+8*65535) by omega];exact h2) hok (by rw[aoC];omega) om;rw[show 8*k+(40+8*65535)=8*(k+65540) by omega,ih,aoL,apS,aoC,kj,hl]
   congr 2
   omega
theorem sq:∀(f:Nat) (s:List UInt8),s.length < f*65535->s.length<=(iy f s).length
|0,s,h=>by omega
|f+1,s,h=>by
  unfold iy;by_cases hc:s.length<=65535
  ·rw[anX hc,kj];omega
  ·have hd:(s.drop 65535).length=s.length - 65535:=aoJ;have hl:(s.take 65535).length=65535:=by rw[aoH];omega
   have ih:=sq f (s.drop 65535) om;rw[anW hc,aoC,kj,hl];omega
def gp (s:List UInt8):List Nat:=iy (s.length / 65535+1) s
theorem S0 (s:List UInt8):bo (gp s):=sn _ _
theorem T0 (s:List UInt8):jd (gp s) s:=by
 intro L most hok hat hm;unfold gp at hat ⊢;have h1:=hat.le;have h0:s.length < (s.length / 65535+1)*65535:=om
 have h2:=sq _ s h0;have:=wk _ s L 0 [] most (8*(ay L).length+1) h0 hat hok (by simpa using hm) om;simpa using this
def im (l:List bn):List Nat:=bf 1 1++(bf 1 2++dk bm da l)
theorem U0 (l:List bn):bo (im l):=cd (ee _ _) (cd (ee _ _) (vz _ _ _))
def zh (i:Nat):Bool:=ai (0 < bm.getD i 0)
theorem ou (h:i < 288):0 < bm.getD i 0:=by
 have h1:(List.range 288).all zh=true:=by decide +kernel
 exact aoU (aqU.1 h1 i (apZ.2 h))
theorem V0 (h:i < 32):0 < da.getD i 0:=by
 unfold da;rw[aoE,atO,anX h];decide
theorem nc:∀l∈bm,l<=15:=by
 have h1:bm.all (λl=>ai (l<=15))=true:=by decide +kernel
 exactλl hl=>aoU (aqU.1 h1 l hl)
theorem ow:∀l∈da,l<=15:=λl hl=>by rw[aqZ hl];decide
theorem mf:∀{l:List bn} {n:Nat},iu n l->∀x∈l,∃m,gw m x
|y::l,n,h,x,hx=>by
  rcases aoM.1 hx with rfl|hx
  ·exact⟨n,h.1⟩
  ·exact mf h.2 x hx
theorem wm {l:List bn}{n:Nat}(h:iu n l):∀x∈l,fc bm da x:=by
 intro x hx;obtain⟨m,hm⟩:=mf h x hx;unfold gw at hm;unfold fc;by_cases h0:x.2.1=0
 ·rw[anX h0];have:=x.1.toNat_lt;exact ou om
 ·rw[anW h0] at hm ⊢;have a:=mm hm.2.1 hm.2.2.1;have b:=mz hm.2.2.2.1 hm.2.2.2.2.1;exact⟨ou om,V0 om⟩
theorem wo {R x:List Nat}{s:List UInt8}(hR:R=bf 1 1++x)(h:∀(L:List Nat) (most:Nat),bo L->fm L 1 x->s.length<=most->1<=8*(ay L).length->bt (ay L) most 1 []=(s,1+x.length,0)):jd R s:=by
 subst hR;intro L most hok hat hm;have h1:=hat.snd;rw[cc] at h1;have hle:=hat.fst.le;rw[cc] at hle;unfold jb;rw[anW om];simp only[aoN,h L most hok (by simpa using h1) hm om,hat.fst.num hok dc];rw[anW sm,anX trivial]
 congr 2
 rw[aoC,cc]
theorem W0 {l:List bn}(h:iu 0 l):jd (im l) (fx [] l):=by
 refine wo rfl λL most hok hat hm hle=>?_;have h1:=hat.fst.le;have h2:=hat.snd;rw[cc] at h1 h2;unfold bt;rw[anW om,hat.fst.num hok dc,anW dc,anX rfl,wg nv nw nc ow (ou dc) hok (wm h) h (by simpa using h2) hm]
 congr 2
 rw[aoC,cc];omega
abbrev cg:=Nat×Nat×Nat
def fl (acc:List Nat)(m:cg):List Nat:=if m.1 < 16 then acc++[m.1] else acc++List.replicate (cr m.1+m.2.1) (if m.1=16 then acc.getD (acc.length - 1) 0 else 0)
def gx (acc:List Nat)(m:cg):Prop:=if m.1 < 16 then m.2.1=0∧m.2.2=0 else m.1<=18∧m.2.2=bp m.1∧m.2.1 < 2 ^ m.2.2∧(m.1=16->0 < acc.length)
def fe (acc:List Nat)(l:List cg):List Nat:=l.foldl fl acc
def ji:List Nat->List cg->Prop
|_,[]=>True
|acc,m::l=>gx acc m∧ji (fl acc m) l
theorem wq (acc:List Nat)(l:List cg)(m:cg):fe acc (l++[m])=fl (fe acc l) m:=by unfold fe;rw[List.foldl_append];rfl
theorem ri:∀{l:List cg} {acc:List Nat} {m:cg},ji acc l->gx (fe acc l) m->ji acc (l++[m])
|[],_,_,_,h=>⟨h,trivial⟩
|_::_,_,_,h,h2=>⟨h.1,ri h.2 h2⟩
def km (cl:List Nat)(m:cg):List Nat:=dt cl m.1++bf m.2.1 m.2.2
def gn (cl:List Nat)(l:List cg):List Nat:=l.flatMap (km cl)
theorem zi (cl:List Nat)(m:cg):bo (km cl m):=cd (lh _ _) (ee _ _)
theorem wu (cl:List Nat)(l:List cg):bo (gn cl l):=λb hb=>by
 obtain⟨x,_,hx⟩:=atK.1 hb;exact zi cl x b hx
theorem X0 (g:Nat):3<=cr g:=by unfold cr;split<;>omega
theorem wv (acc:List Nat)(m:cg):acc.length < (fl acc m).length:=by
 have:=X0 m.1;unfold fl;split<;>simp<;>omega
theorem mq:∀(l:List cg) (acc:List Nat),acc.length+l.length<=(fe acc l).length
|[],_=>aoG _
|m::l,acc=>by
  have h1:=mq l (fl acc m);have h2:=wv acc m;show acc.length+(l.length+1)<=(fe (fl acc m) l).length;omega
theorem wx {cl:List Nat}(hc:az cl=0)(h15:∀l∈cl,l<=15){B:List Nat}(hok:bo B){n:Nat} :
  ∀(l:List cg) (p:Nat) (acc:List Nat) (f:Nat),(∀m∈l,0 < cl.getD m.1 0)->ji acc l->fm B p (gn cl l)->(fe acc l).length=n->l.length < f ->
   iq cl (ay B) n f p acc=(fe acc l,p+(gn cl l).length,0)
|[],p,acc,f,_,_,_,hn,hf=>by
  obtain⟨f,rfl⟩:∃g,f=g+1:=⟨f - 1,by simp at hf;omega⟩;have hn:acc.length=n:=hn;unfold iq;rw[anX om];rfl
|m::l,p,acc,f,hh,ho,hat,hn,hf=>by
  obtain⟨f,rfl⟩:∃g,f=g+1:=⟨f - 1,by simp at hf;omega⟩;have hf:l.length < f:=by simp at hf;omega
  have hm:=hh m (apU ..);have e:gn cl (m::l)=km cl m++gn cl l:=by unfold gn;rw[aqC]
  rw[e] at hat ⊢;have h1:=hat.fst;have h2:=hat.snd;have hn':(fe (fl acc m) l).length=n:=hn;have hlt:=wv acc m;have hle:=mq l (fl acc m);have ih:=wx hc h15 hok l (p+(km cl m).length) (fl acc m) f (λy hy=>hh y (apA _ hy)) ho.2 h2 hn' hf;have fin:fe (fl acc m) l=fe acc (m::l):=rfl;rw[fin] at ih;rw[aoC,<-arM,<-ih]
  conv=>lhs;unfold iq
  have hmo:=ho.1;unfold gx at hmo;unfold km at h1 ih ⊢;rw[anW om];have hs:=h1.fst.sign hok hc h15 hm;have hnm:=h1.snd;rw[fo] at hnm;have hl:=hnm.le;rw[cc] at hl;simp only[hs];rw[anW sm];unfold fl at ih hlt hle hn' ⊢;rw[aoC,fo,cc];by_cases h16:m.1 < 16
  ·rw[anX h16] at hmo;simp only[anX h16] at ih ⊢;rw[hmo.2,apO]
  ·rw[anW h16] at hmo;simp only[anW h16] at ih hlt hle hn' ⊢;simp only[aoC,apC] at hlt hle;have hv:=hnm.num hok hmo.2.2.1;have hacc:=hmo.2.2.2;rw[anW (λk=>by have:=hacc k.1;omega),<-hmo.2.1,anW om,hv,anW om,<-arM]
theorem jj {P:Nat->Prop}(h:∀x∈l,P x)(h0:P 0)(i:Nat):P (l.getD i 0):=by
 rw[aoE];cases hx:l[i]? with
|none=>exact h0
|some b=>exact h b (arN hx)
def qe (i:Nat):Bool:=(List.range 19).all λj=>ai (i=j)||decide (bq.getD i 0≠bq.getD j 0)
def qf (j:Nat):Bool:=(List.range 19).any λi=>ai (bq.getD i 0=j)
theorem zj (hi:i < 19)(hj:j < 19)(h:i≠j):bq.getD i 0≠bq.getD j 0:=by
 have h1:(List.range 19).all qe=true:=by decide +kernel
 have h2:=aqU.1 h1 i (apZ.2 hi);unfold qe at h2;have h3:=aqU.1 h2 j (apZ.2 hj);rw[atD,apY,apY] at h3;exact h3.resolve_left h
theorem Y0 (hj:j < 19):∃i,i < 19∧bq.getD i 0=j:=by
 have h1:(List.range 19).all qf=true:=by decide +kernel
 have h2:=aqU.1 h1 j (apZ.2 hj);unfold qf at h2;obtain⟨i,hi,h⟩:=arU.1 h2;exact⟨i,apZ.1 hi,aoU h⟩
theorem wy (h:i < 19):bq.getD i 0 < 19:=by
 have h1:(List.range 19).all (λi=>ai (bq.getD i 0 < 19))=true:=by decide +kernel
 exact aoU (aqU.1 h1 i (apZ.2 h))
theorem wz (s:List UInt8)(p:Nat):∀(k i:Nat),k<=19->i < 19->(ev s p k).getD (bq.getD i 0) 0=if i < k then Fl.num s (p+3*i) 3 else 0
|0,i,_,hi=>by
  rw[anW om,ev,aoE,atO];split<;>rfl
|k+1,i,hk,hi=>by
  have hl:=ma s p k;rw[ev,aoE];by_cases h:k=i
  ·subst h;rw[arR (by rw[hl];exact wy hi),anX om];rfl
  ·rw[auI (zj om hi h),<-aoE,wz s p k i om hi];by_cases h2:i < k
   ·rw[anX h2,anX om]
   ·rw[anW h2,anW om]
def ja (cl:List Nat)(k:Nat):List Nat:=(List.range k).flatMap λi=>bf (cl.getD (bq.getD i 0) 0) 3
theorem rj (cl:List Nat)(k:Nat):ja cl (k+1)=ja cl k++bf (cl.getD (bq.getD k 0) 0) 3:=by
 unfold ja;rw[asS,atC];simp
theorem mr (cl:List Nat):∀k,(ja cl k).length=3*k
|0=>rfl
|k+1=>by rw[rj,aoC,mr cl k,cc];omega
theorem rk (cl:List Nat)(k:Nat):bo (ja cl k):=λb hb=>by
 obtain⟨x,_,hx⟩:=atK.1 hb;exact ee _ _ b hx
theorem xa {cl:List Nat}(h7:∀x∈cl,x<=7){B:List Nat}(hok:bo B){p:Nat}:∀(k:Nat),fm B p (ja cl k)->∀i,i < k->Fl.num (ay B) (p+3*i) 3=cl.getD (bq.getD i 0) 0
|k+1,h,i,hi=>by
  rw[rj] at h;rcases apD i k with h'|h'
  ·exact xa h7 hok k h.fst i h'
  ·obtain rfl:i=k:=om
   have h2:=h.snd;rw[mr] at h2;have:cl.getD (bq.getD i 0) 0<=7:=jj h7 dc _;exact h2.num hok om
theorem zl (hl:cl.length=19)(h7:∀x∈cl,x<=7){k:Nat}(hk:k<=19)(h0:∀i,k<=i->i < 19->cl.getD (bq.getD i 0) 0=0)(hok:bo B)(hat:fm B p (ja cl k)) :
  ev (ay B) p k=cl:=by
 refine List.ext_getElem (by rw[ma,hl]) λj h1 h2=>?_;obtain⟨i,hi,hj⟩:=Y0 (j:=j) om;have g:=wz (ay B) p k i hk hi;have e:(if i < k then Fl.num (ay B) (p+3*i) 3 else 0)=cl.getD (bq.getD i 0) 0:=by
  by_cases h:i < k
  ·rw[anX h,xa h7 hok k hat i h]
  ·rw[anW h,h0 i om hi]
 rw[e,hj,aoE,aoE,aoI h1,aoI h2] at g;exact g
def ly (a b cl:List Nat)(k:Nat)(ms:List cg)(l:List bn):List Nat:=
 bf 1 1++(bf 2 2++(bf (a.length - 257) 5++(bf (b.length - 1) 5++(bf (k - 4) 4++(ja cl k++(gn cl ms++dk a b l))))))
theorem zm (a b cl:List Nat)(k:Nat)(ms:List cg)(l:List bn):bo (ly a b cl k ms l):=
 cd (ee _ _) (cd (ee _ _) (cd (ee _ _) (cd (ee _ _) (cd (ee _ _) (cd (rk _ _) (cd (wu _ _) (vz _ _ _)))))))
theorem Z0 {a b:List Nat}{k:Nat}{ms:List cg}{l:List bn}(ha:257<=a.length)(ha2:a.length<=286)(hb:1<=b.length)(hb2:b.length<=30)(hk:4<=k)(hk2:k<=19)
  (hl:cl.length=19) (h7:∀x∈cl,x<=7) (h0:∀i,k<=i->i < 19->cl.getD (bq.getD i 0) 0=0) (hc:az cl=0) (hms:∀m∈ms,0 < cl.getD m.1 0) (hmo:ji [] ms) (hme:fe [] ms=a++b)
  (hca:az a=0) (hcb:az b=0) (ha15:∀x∈a,x<=15) (hb15:∀x∈b,x<=15) (h256:0 < a.getD 256 0) (hh:∀x∈l,fc a b x) (ho:iu 0 l):jd (ly a b cl k ms l) (fx [] l):=by
 refine wo rfl λL most hok hat hm hle=>?_;have a1:=hat.snd;rw[cc] at a1;have a2:=a1.snd;rw[cc] at a2;have a3:=a2.snd;rw[cc] at a3;have a4:=a3.snd;rw[cc] at a4;have a5:=a4.snd;rw[mr] at a5;have a6:=a5.snd;have l1:=a1.fst.le;have l2:=a2.fst.le;have l3:=a3.fst.le;have l4:=a4.fst.le;have l0:=hat.fst.le;rw[cc] at l0 l1 l2 l3;rw[mr] at l4;have n1:=a1.fst.num hok om;have n2:=a2.fst.num hok om;have n3:=a3.fst.num hok om;unfold bt;rw[anW om,hat.fst.num hok dc,anW dc,anW dc,anX rfl];unfold gj;have ek:k - 4+4=k:=om
 rw[anW om,n1,anW om,anW om,n2,anW om,anW om,n3,ek,anW om];have hcl:=zl hl h7 hk2 h0 hok a4.fst;have hcl:ev (ay L) (1+2+14) k=cl:=hcl;have hlen:=wx hc (λx hx=>aqQ (h7 x hx) dc) hok (n:=a.length - 257+257+(b.length - 1+1)) ms (1+2+14+3*k) [] (a.length - 257+257+(b.length - 1+1)+1) hms hmo a5.fst (by rw[hme,aoC];omega) (by have:=mq ms [];rw[hme,aoC] at this;simp at this;omega);have hlen:Fl.lens cl (ay L) (a.length - 257+257+(b.length - 1+1)) (1+2+14+3*k)=(a++b,1+2+14+3*k+(gn cl ms).length,0):=by rw[<-hme];exact hlen
 have et:(a++b).take (a.length - 257+257)=a:=by rw[show a.length - 257+257=a.length by omega,List.take_left]
 have ed:(a++b).drop (a.length - 257+257)=b:=by rw[show a.length - 257+257=a.length by omega,List.drop_left]
 have eg:(a++b).getD 256 0=a.getD 256 0:=by rw[aoE,aqO om,aoE]
 simp only[hcl,hlen,et,ed,eg,hc,hca,hcb];rw[anW sm,anW sm,anW om,anW sm,anW sm,wg hca hcb ha15 hb15 h256 hok hh ho a6 hm]
 congr 2
 simp only[aoC,cc,mr];omega
inductive Cn where
|leaf (w s:Nat)
|node (a b:Cn)
 deriving DecidableEq
def Cn.wt:Cn->Nat
|.leaf w _=>w
|.node a b=>a.wt+b.wt
def Cn.cnt (s:Nat):Cn->Nat
|.leaf _ t=>if t=s then 1 else 0
|.node a b=>a.cnt s+b.cnt s
def Cn.De:Cn->List Cn
|.leaf _ _=>[]
|.node a b=>[a,b]
def Cn.lL:Cn->Bool
|.leaf _ _=>au
|.node _ _=>aq
def Cn.top (s:Nat):Cn->Nat
|.leaf _ t=>if t=s then 1 else 0
|.node _ _=>0
def Cn.kids (l:List Cn):List Cn:=l.flatMap Cn.De
def Cn.jR:List Cn->List Cn
|a::b::l=>.node a b::Cn.jR l
|_=>[]
def Cn.sorted (l:List Cn):Prop:=l.Pairwise λa b=>a.wt<=b.wt
def Cn.sum (f:Cn->Nat)(l:List Cn):Nat:=(l.map f).sum
theorem Cn.sum_cons (f:Cn->Nat)(c:Cn)(l:List Cn):Cn.sum f (c::l)=f c+Cn.sum f l:=rfl
theorem Cn.JL (f:Cn->Nat)(a b:List Cn):Cn.sum f (a++b)=Cn.sum f a+Cn.sum f b:=by unfold Cn.sum;rw[apX,avJ]
theorem Cn.Mo {f:Cn->Nat}{a b:List Cn}(h:a.Perm b):Cn.sum f a=Cn.sum f b:=(h.map f).sum_nat
theorem Cn.Xu {f:Cn->Nat}:∀{q p:List Cn},q.Nodup->(∀x∈q,x∈p)->Cn.sum f q<=Cn.sum f p
|[],_,_,_=>aoO _
|c::q,p,hn,hs=>by
  rw[auM] at hn;have hc:=hs c (apU ..);have hp:=awI hc;rw[Cn.Mo hp,Cn.sum_cons,Cn.sum_cons];have:=Cn.Xu (f:=f) (p:=p.erase c) hn.2 λx hx=>by
   have:=hs x (apA _ hx);have hne:x≠c:=λe=>hn.1 (e▸hx);exact (List.mem_erase_of_ne hne).2 this
  omega
theorem Cn.Gx (y:Cn):∀l:List Cn,(Cn.kids l).count y=Cn.sum (λc=>c.De.count y) l
|[]=>rfl
|c::l=>by
  have:=Cn.Gx y l;unfold Cn.kids at this ⊢;rw[aqC,asC,this,Cn.sum_cons]
theorem Cn.LJ:∀l:List Cn,∃t,l=Cn.kids (Cn.jR l)++t∧t.length<=1
|[]=>⟨[],rfl,dc⟩
|[a]=>⟨[a],rfl,sm⟩
|a::b::l=>by
  obtain⟨t,h,h1⟩:=Cn.LJ l;refine⟨t,?_,h1⟩;show a::b::l=(Cn.De (.node a b)++Cn.kids (Cn.jR l))++t
  conv=>lhs;rw[h]
  rfl
theorem Cn.fS:∀{l:List Cn} {x:Cn},x∈Cn.jR l->∃a b,x=.node a b∧a∈l∧b∈l
|a::b::l,x,h=>by
  rcases aoM.1 h with rfl|h
  ·exact⟨a,b,rfl,apU ..,apA _ (apU ..)⟩
  ·obtain⟨c,d,h1,h2,h3⟩:=Cn.fS h;exact⟨c,d,h1,apA _ (apA _ h2),apA _ (apA _ h3)⟩
theorem Cn.Jf:∀{l:List Cn},l.Nodup->(Cn.jR l).Nodup
|[],_=>List.nodup_nil
|[_],_=>List.nodup_nil
|a::b::l,h=>by
  rw[auM,auM] at h;show (Cn.node a b::Cn.jR l).Nodup;rw[auM];refine⟨λhm=>?_,Cn.Jf h.2.2⟩;obtain⟨c,d,h1,h2,_⟩:=Cn.fS hm
  injection h1 with e1 _
  subst e1;exact h.1 (apA _ h2)
theorem Cn.Fh:∀l:List Cn,(Cn.jR l).length=l.length / 2
|[]=>rfl
|[_]=>by simp[Cn.jR]
|a::b::l=>by
  show (Cn.jR l).length+1=(l.length+1+1) / 2;rw[Cn.Fh l];omega
theorem Cn.Kp {l:List Cn}:l.Nodup↔∀a,l.count a<=1:=List.nodup_iff_count
theorem Cn.S8 {l q:List Cn}(hl:l.Nodup)(hq:q.Nodup)(hs:∀x∈q,x∈Cn.jR l):(Cn.kids q).Nodup:=by
 rw[Cn.Kp];intro y;rw[Cn.Gx];have h1:=Cn.Xu (f:=λc=>c.De.count y) hq hs;rw[<-Cn.Gx y (Cn.jR l)] at h1;obtain⟨t,ht,_⟩:=Cn.LJ l;have h2:=Cn.Kp.1 hl y;rw[ht,asC] at h2;omega
def Cn.low (d r:List Cn):Prop:=∀x∈d,∀y∈r,y ∉ d->x.wt<=y.wt
theorem Cn.MK {p:Cn->Prop}:∀{l:List Cn},Cn.sorted l->(∀x∈Cn.jR l,p x->∀y∈Cn.jR l,¬p y->x.wt<=y.wt) ->
  ∀u v,(∃x∈Cn.jR l,p x∧u∈x.De)->v∈l->(∀x∈Cn.jR l,p x->v ∉ x.De)->u.wt<=v.wt
|[],_,_,u,v,_,hv,_=>by cases hv
|[a],_,_,u,v,⟨x,hx,_⟩,_,_=>by cases hx
|a::b::l,hs,hp,u,v,⟨x,hx,hpx,hu⟩,hv,hn=>by
  unfold Cn.sorted at hs;rw[aqR,aqR] at hs;have hx':x=.node a b∨x∈Cn.jR l:=aoM.1 hx;have mem1:Cn.node a b∈Cn.jR (a::b::l):=apU ..
  have mem2:∀{z},z∈Cn.jR l->z∈Cn.jR (a::b::l):=λh=>apA _ h;have hab:=hs.1 b (apU ..);by_cases hab0:p (.node a b)
  ·have hn1:=hn _ mem1 hab0;have hva:v≠a:=λe=>hn1 (e▸apU ..);have hvb:v≠b:=λe=>hn1 (e▸apA _ (apU ..));have hvl:v∈l:=by
    rcases aoM.1 hv with h|h
    ·exact absurd h hva
    ·rcases aoM.1 h with h|h
     ·exact absurd h hvb
     ·exact h
   rcases hx' with rfl|hx'
   ·have h1:=hs.2.1 v hvl;rcases aoM.1 hu with rfl|hu
    ·omega
    ·rw[aoZ.1 hu];exact h1
   ·exact Cn.MK hs.2.2 (λx hx px y hy py=>hp x (mem2 hx) px y (mem2 hy) py) u v ⟨x,hx',hpx,hu⟩ hvl λx hx=>hn x (mem2 hx)
  ·have hx':x∈Cn.jR l:=hx'.resolve_left λe=>hab0 (e▸hpx);rcases aoM.1 hv with hva|hv
   ·-- v=a: the package (a,b) is out,so x weighs no more than it;all are equal
    have h1:=hp x hx hpx _ mem1 hab0;obtain⟨c,d,rfl,hc,hd⟩:=Cn.fS hx';have h1:c.wt+d.wt<=a.wt+b.wt:=h1;have e1:=hs.2.1 c hc;have e2:=hs.2.1 d hd;rcases aoM.1 hu with rfl|hu
    ·subst hva;omega
    ·rw[aoZ.1 hu];subst hva;omega
   ·rcases aoM.1 hv with hvb|hvl
    ·have h1:=hp x hx hpx _ mem1 hab0;obtain⟨c,d,rfl,hc,hd⟩:=Cn.fS hx';have h1:c.wt+d.wt<=a.wt+b.wt:=h1;have e1:=hs.2.1 c hc;have e2:=hs.2.1 d hd;rcases aoM.1 hu with rfl|hu
     ·subst hvb;omega
     ·rw[aoZ.1 hu];subst hvb;omega
    ·exact Cn.MK hs.2.2 (λx hx px y hy py=>hp x (mem2 hx) px y (mem2 hy) py) u v ⟨x,hx',hpx,hu⟩ hvl λx hx=>hn x (mem2 hx)
inductive Cn.Row (L:List Cn):Nat->List Cn->Prop
|zero {r:List Cn}:Cn.sorted r->r.Perm L->Cn.Row L 0 r
|succ {t:Nat} {q r:List Cn}:Cn.Row L t q->Cn.sorted r->r.Perm (L++Cn.jR q)->Cn.Row L (t+1) r
structure Cn.Lv (L:List Cn) (Sy:List Nat):Prop where
 leaf:∀x∈L,∃w s,x=.leaf w s∧0 < w∧s∈Sy
 has:∀s∈Sy,∃w,Cn.leaf w s∈L
 uniq:∀w v s,Cn.leaf w s∈L->Cn.leaf v s∈L->w=v
 nodup:L.Nodup
 nodupS:Sy.Nodup
 len:L.length=Sy.length
theorem Cn.Row.nodup {L:List Cn}{Sy:List Nat}(hL:Cn.Lv L Sy){t:Nat}{r:List Cn}(h:Cn.Row L t r):r.Nodup∧∀x∈r,(x∈L)∨x.lL=false:=by
 induction h with
|zero _ hp=>exact⟨hp.nodup_iff.2 hL.nodup,λx hx=>.inl (hp.mem_iff.1 hx)⟩
|succ hq _ hp ih=>
  refine⟨hp.nodup_iff.2 ?_,λx hx=>?_⟩
  ·rw[List.nodup_append];refine⟨hL.nodup,Cn.Jf ih.1,λx hx y hy e=>?_⟩;subst e;obtain⟨a,b,rfl,_,_⟩:=Cn.fS hy;obtain⟨w,s,h,_⟩:=hL.leaf _ hx;cases h
  ·rcases apF.1 (hp.mem_iff.1 hx) with h|h
   ·exact .inl h
   ·obtain⟨a,b,rfl,_,_⟩:=Cn.fS h;exact .inr rfl
theorem Cn.Row.has {L:List Cn}{r:List Cn}(h:Cn.Row L t r):∀x∈L,x∈r:=by
 intro x hx;cases h with
|zero _ hp=>exact hp.mem_iff.2 hx
|succ _ _ hp=>exact hp.mem_iff.2 (List.mem_append_left _ hx)
theorem Cn.Row.pos {L:List Cn}(hL:Cn.Lv L Sy){r:List Cn}(h:Cn.Row L t r):∀x∈r,0 < x.wt:=by
 induction h with
|zero _ hp=>
  intro x hx;obtain⟨w,s,rfl,h,_⟩:=hL.leaf x (hp.mem_iff.1 hx);exact h
|succ hq _ hp ih=>
  intro x hx;rcases apF.1 (hp.mem_iff.1 hx) with h|h
  ·obtain⟨w,s,rfl,h,_⟩:=hL.leaf x h;exact h
  ·obtain⟨a,b,rfl,ha,_⟩:=Cn.fS h;have:=ih a ha;show 0 < a.wt+b.wt;omega
theorem Cn.MO {f:Cn->Nat}:∀{l:List Cn},(∀x∈l,f x=0)->Cn.sum f l=0
|[],_=>rfl
|c::l,h=>by rw[Cn.sum_cons,h c (apU ..),Cn.MO λx hx=>h x (apA _ hx)]
theorem Cn.Ws {f:Cn->Nat}:∀{l:List Cn},0 < Cn.sum f l->∃x∈l,0 < f x
|c::l,h=>by
  rw[Cn.sum_cons] at h;by_cases hc:0 < f c
  ·exact⟨c,apU ..,hc⟩
  ·obtain⟨x,hx,h2⟩:=Cn.Ws (f:=f) (l:=l) om;exact⟨x,apA _ hx,h2⟩
theorem Cn.Qk {f:Cn->Nat}:∀{l:List Cn} {x:Cn},x∈l->f x<=Cn.sum f l
|c::l,x,h=>by
  rw[Cn.sum_cons];rcases aoM.1 h with rfl|h
  ·omega
  ·have:=Cn.Qk (f:=f) h;omega
theorem Cn.PC (s:Nat):∀d:List Cn,Cn.sum (Cn.cnt s) d=Cn.sum (Cn.top s) d+Cn.sum (Cn.cnt s) (Cn.kids d)
|[]=>rfl
|c::d=>by
  have ih:=Cn.PC s d;have e:Cn.kids (c::d)=c.De++Cn.kids d:=by unfold Cn.kids;rw[aqC]
  rw[e,Cn.JL,Cn.sum_cons,Cn.sum_cons,ih];cases c with
 |leaf w t=>show (if t=s then 1 else 0)+_=_;simp only[Cn.top,Cn.De,Cn.sum,asY,List.sum_nil];omega
 |node a b=>show (a.cnt s+b.cnt s)+_=_;simp only[Cn.top,Cn.De,Cn.sum,aqL,asY,asO,List.sum_nil];omega
def Cn.val (s:Nat):Nat->List Cn->Nat
|0,d=>Cn.sum (Cn.top s) d
|t+1,d=>Cn.sum (Cn.top s) d*2 ^ (t+1)+Cn.val s t (Cn.kids d)
theorem Cn.ZT {L:List Cn}(hL:Cn.Lv L Sy){d:List Cn}(hd:d.Nodup)(hm:∀x∈d,x∈L∨x.lL=aq)(s:Nat):Cn.sum (Cn.top s) d<=1:=by
 induction d with
|nil=>exact aoO _
|cons c d ih=>
  rw[auM] at hd;have ih:=ih hd.2 λx hx=>hm x (apA _ hx);rw[Cn.sum_cons];by_cases h0:Cn.top s c=0
  ·omega
  ·have e:Cn.sum (Cn.top s) d=0:=by
    refine Cn.MO λx hx=>?_;cases x with
   |node a b=>rfl
   |leaf v t=>
     cases c with
    |node a b=>exact absurd rfl h0
    |leaf w u=>
      simp only[Cn.top] at h0 ⊢;by_cases h1:u=s
      ·by_cases h2:t=s
       ·subst h1;subst h2;have m1:=(hm _ (apU ..)).resolve_right (by simp[Cn.lL]);have m2:=(hm _ (apA _ hx)).resolve_right (by simp[Cn.lL]);have:=hL.uniq _ _ _ m1 m2;subst this;exact absurd hx hd.1
       ·rw[anW h2]
      ·rw[anW h1] at h0;exact absurd rfl h0
   have h1:Cn.top s c<=1:=by
    cases c with
   |leaf w t=>simp only[Cn.top];split<;>omega
   |node a b=>exact aoO _
   omega
theorem Cn.OM {d:List Cn}(h:∀x∈d,x.lL=au):Cn.kids d=[]:=by
 induction d with
|nil=>rfl
|cons c d ih=>
  have e:Cn.kids (c::d)=c.De++Cn.kids d:=by unfold Cn.kids;rw[aqC]
  have hc:=h c (apU ..);rw[e,ih λx hx=>h x (apA _ hx)];cases c with
 |leaf w t=>rfl
 |node a b=>cases hc
theorem Cn.IQ {d:List Cn}{u:Cn}:u∈Cn.kids d↔∃x∈d,u∈x.De:=by unfold Cn.kids;exact atK
theorem Cn.Row.down {L:List Cn}(hL:Cn.Lv L Sy){q r d:List Cn}(hq:Cn.Row L t q)(hs:Cn.sorted q)(hp:r.Perm (L++Cn.jR q))(hd:d.Nodup)(hm:∀x∈d,x∈r)(hl:Cn.low d r) :
  (Cn.kids d).Nodup∧(∀x∈Cn.kids d,x∈q)∧Cn.low (Cn.kids d) q:=by
 have hnode:∀x∈d,x.lL=aq->x∈Cn.jR q:=by
  intro x hx h;rcases apF.1 (hp.mem_iff.1 (hm x hx)) with h1|h1
  ·obtain⟨w,s,rfl,_⟩:=hL.leaf x h1;cases h
  ·exact h1
 have hkid:∀x u,u∈Cn.De x->x.lL=false:=by
  intro x u hu;cases x with
 |leaf w s=>cases hu
 |node a b=>rfl
 have ek:Cn.kids d=Cn.kids (d.filter λx=>!x.lL):=by
  clear hd hm hl hnode
  induction d with
 |nil=>rfl
 |cons c d ih=>
   have e:Cn.kids (c::d)=c.De++Cn.kids d:=by unfold Cn.kids;rw[aqC]
   rw[e,ih,asV];cases c with
  |leaf w s=>rfl
  |node a b=>unfold Cn.kids;rfl
 refine⟨?_,?_,?_⟩
 ·rw[ek];refine Cn.S8 (l:=q) (hq.nodup hL).1 (hd.filter _) λx hx=>?_;obtain⟨h1,h2⟩:=List.mem_filter.1 hx;exact hnode x h1 (by simpa using h2)
 ·intro u hu;obtain⟨x,hx,hux⟩:=Cn.IQ.1 hu;obtain⟨a,b,rfl,ha,hb⟩:=Cn.fS (hnode x hx (hkid x u hux));rcases aoM.1 hux with rfl|h
  ·exact ha
  ·rw[aoZ.1 h];exact hb
 ·intro u hu v hv hnv;obtain⟨x,hx,hux⟩:=Cn.IQ.1 hu;refine Cn.MK (p:=λz=>z∈d) hs (λx hx px y hy py=>hl x px y (hp.mem_iff.2 (List.mem_append_right _ hy)) py) u v ⟨x,hnode x hx (hkid x u hux),hx,hux⟩ hv λz hz hzd hvz=>hnv (Cn.IQ.2 ⟨z,hzd,hvz⟩)
theorem Cn.Row.sorted {L:List Cn}{t:Nat}{r:List Cn}(h:Cn.Row L t r):Cn.sorted r:=by
 cases h with
|zero h _=>exact h
|succ _ h _=>exact h
theorem Cn.Row.levels {L:List Cn}(hL:Cn.Lv L Sy){r:List Cn}(h:Cn.Row L t r):∀(d:List Cn),d.Nodup->(∀x∈d,x∈r)->Cn.low d r->∀s,
  Cn.sum (Cn.cnt s) d<=t+1∧Cn.val s t d+2 ^ (t+1 - Cn.sum (Cn.cnt s) d)=2 ^ (t+1)∧(Cn.sum (Cn.top s) d=0->Cn.sum (Cn.cnt s) d=0):=by
 induction h with
|zero hs hp=>
  intro d hd hm hl s;have hleaf:∀x∈d,x.lL=true:=λx hx=>by
   obtain⟨w,s,rfl,_⟩:=hL.leaf x (hp.mem_iff.1 (hm x hx));rfl
  have ht:=Cn.ZT hL hd (λx hx=>.inl (hp.mem_iff.1 (hm x hx))) s;have e:=Cn.PC s d;rw[Cn.OM hleaf] at e;have e:Cn.sum (Cn.cnt s) d=Cn.sum (Cn.top s) d:=e;rw[e];refine⟨om,?_,λh=>h⟩;show Cn.sum (Cn.top s) d+_=_;rcases (by omega:Cn.sum (Cn.top s) d=0∨Cn.sum (Cn.top s) d=1) with h|h<;>rw[h]<;>decide
|@succ t q r hq hs hp ih=>
  intro d hd hm hl s;have hrow:Cn.Row L (t+1) r:=.succ hq hs hp;obtain⟨k1,k2,k3⟩:=Cn.Row.down hL hq hq.sorted hp hd hm hl;obtain⟨i1,i2,i3⟩:=ih (Cn.kids d) k1 k2 k3 s;have ht:=Cn.ZT hL hd (λx hx=>(hrow.nodup hL).2 x (hm x hx)) s;have e:=Cn.PC s d;have hz:Cn.sum (Cn.top s) d=0->Cn.sum (Cn.cnt s) (Cn.kids d)=0:=by
   intro h0;refine i3 ?_;rcases arF (Cn.sum (Cn.top s) (Cn.kids d)) with h|h
   ·exact h
   ·exfalso;obtain⟨x,hx,hxs⟩:=Cn.Ws h;cases x with
   |node a b=>exact absurd hxs (asX _)
   |leaf w u=>
     simp only[Cn.top] at hxs;have hus:u=s:=by
      by_cases h:u=s
      ·exact h
      ·rw[anW h] at hxs;omega
     subst hus;have hxL:Cn.leaf w u∈L:=((hq.nodup hL).2 _ (k2 _ hx)).resolve_right (by simp[Cn.lL]);have hxr:=hrow.has _ hxL;by_cases hin:Cn.leaf w u∈d
     ·have:=Cn.Qk (f:=Cn.top u) hin;simp only[Cn.top,if_true] at this;omega
     ·obtain⟨y,hy,hxy⟩:=Cn.IQ.1 hx;have h1:=hl y hy _ hxr hin;cases y with
     |leaf _ _=>cases hxy
     |node a b=>
       have hpos:=hrow.pos hL;have hy2:Cn.node a b∈Cn.jR q:=by
        rcases apF.1 (hp.mem_iff.1 (hm _ hy)) with h1|h1
        ·obtain⟨w,s,h,_⟩:=hL.leaf _ h1;cases h
        ·exact h1
       obtain⟨a',b',e',ha,hb⟩:=Cn.fS hy2
       injection e' with ea eb
       subst ea;subst eb;have pa:=hq.pos hL _ ha;have pb:=hq.pos hL _ hb;have h1:a.wt+b.wt<=w:=h1;rcases aoM.1 hxy with h2|h2
       ·rw[<-h2] at h1 pa;have h1:w+b.wt<=w:=h1;omega
       ·rw[<-aoZ.1 h2] at h1 pb;have h1:a.wt+w<=w:=h1;omega
  rw[e];show _∧Cn.sum (Cn.top s) d*2 ^ (t+1)+Cn.val s t (Cn.kids d)+_=_∧_;have p2:2 ^ (t+1+1)=2*2 ^ (t+1):=by rw[aqS];omega
  rcases (by omega:Cn.sum (Cn.top s) d=0∨Cn.sum (Cn.top s) d=1) with h|h
  ·have h1:=hz h;rw[h1] at i2 ⊢;rw[h];refine⟨om,?_,λ_=>rfl⟩;rw[atX] at i2;rw[arJ,apO,atX];omega
  ·rw[h];refine⟨om,?_,λh=>absurd h dc⟩;rw[show t+1+1 - (1+Cn.sum (Cn.cnt s) (Cn.kids d))=t+1 - Cn.sum (Cn.cnt s) (Cn.kids d) by omega,auJ];omega
def Cn.over (Sy:List Nat)(f:Nat->Nat):Nat:=(Sy.map f).sum
theorem Cn.gJ (s:Nat)(Sy:List Nat)(f:Nat->Nat):Cn.over (s::Sy) f=f s+Cn.over Sy f:=rfl
theorem Cn.IZ (f g:Nat->Nat):∀Sy:List Nat,Cn.over Sy (λs=>f s+g s)=Cn.over Sy f+Cn.over Sy g
|[]=>rfl
|s::Sy=>by rw[Cn.gJ,Cn.gJ,Cn.gJ,Cn.IZ f g Sy];omega
theorem Cn.ME (f:Nat->Nat)(k:Nat):∀Sy:List Nat,Cn.over Sy (λs=>f s*k)=Cn.over Sy f*k
|[]=>by simp[Cn.over]
|s::Sy=>by rw[Cn.gJ,Cn.gJ,Cn.ME f k Sy,arC]
theorem Cn.CM {f g:Nat->Nat}:∀{Sy:List Nat},(∀s∈Sy,f s=g s)->Cn.over Sy f=Cn.over Sy g
|[],_=>rfl
|s::Sy,h=>by rw[Cn.gJ,Cn.gJ,h s (apU ..),Cn.CM λx hx=>h x (apA _ hx)]
theorem Cn.JB {f:Nat->Nat}(h:∀s∈Sy,f s=0):Cn.over Sy f=0:=by
 rw[Cn.CM h]
 induction Sy with
|nil=>rfl
|cons s Sy ih=>rw[Cn.gJ,ih λx hx=>h x (apA _ hx)]
theorem Cn.LQ (k:Nat):∀Sy:List Nat,Cn.over Sy (λ_=>k)=Sy.length*k
|[]=>by simp[Cn.over]
|s::Sy=>by rw[Cn.gJ,Cn.LQ k Sy,apB,aqX];omega
theorem Cn.WQ (hn:Sy.Nodup){w:Nat}(ht:t∈Sy):Cn.over Sy (λs=>Cn.top s (.leaf w t))=1:=by
 induction Sy with
|nil=>cases ht
|cons s Sy ih=>
  rw[auM] at hn;rw[Cn.gJ];by_cases h:t=s
  ·subst h;rw[Cn.JB λu hu=>?_]
   ·simp[Cn.top]
   ·simp only[Cn.top];rw[anW (λe=>hn.1 (by rw[e];exact hu))]
  ·rw[ih hn.2 ((aoM.1 ht).resolve_left h)];simp[Cn.top,h]
def Cn.leaves (d:List Cn):Nat:=(d.filter Cn.lL).length
theorem Cn.M1 {L:List Cn}{Sy:List Nat}(hL:Cn.Lv L Sy):∀{d:List Cn},(∀x∈d,x∈L∨x.lL=aq)->Cn.over Sy (λs=>Cn.sum (Cn.top s) d)=Cn.leaves d
|[],_=>Cn.JB λ_ _=>rfl
|c::d,hm=>by
  have ih:=Cn.M1 hL (d:=d) λx hx=>hm x (apA _ hx);have e:(λs=>Cn.sum (Cn.top s) (c::d))=λs=>Cn.top s c+Cn.sum (Cn.top s) d:=rfl;rw[e,Cn.IZ,ih];unfold Cn.leaves;rw[asV];cases c with
 |leaf w t=>
   obtain⟨w',t',h,_,hs⟩:=hL.leaf _ ((hm _ (apU ..)).resolve_right (by simp[Cn.lL]))
   injection h with _ e2
   subst e2;rw[Cn.WQ hL.nodupS hs];simp only[Cn.lL,if_true,apB];omega
 |node a b=>
   rw[Cn.JB (f:=λs=>Cn.top s (.node a b)) λ_ _=>rfl];simp[Cn.lL]
theorem Cn.yU:∀d:List Cn,(Cn.kids d).length+2*Cn.leaves d=2*d.length
|[]=>rfl
|c::d=>by
  have ih:=Cn.yU d;have e:Cn.kids (c::d)=c.De++Cn.kids d:=by unfold Cn.kids;rw[aqC]
  unfold Cn.leaves at ih ⊢;rw[e,aoC,asV,apB];cases c with
 |leaf w t=>simp only[Cn.lL,if_true,apB,Cn.De,arL];omega
 |node a b=>simp only[Cn.lL,asN,if_false,Cn.De,apB,arL];omega
theorem Cn.Row.worth {L:List Cn}(hL:Cn.Lv L Sy){r:List Cn}(h:Cn.Row L t r):∀(d:List Cn),d.Nodup->(∀x∈d,x∈r)->Cn.low d r->Cn.over Sy (λs=>Cn.val s t d)=d.length*2 ^ t:=by
 induction h with
|zero hs hp=>
  intro d hd hm hl;have hleaf:∀x∈d,x.lL=true:=λx hx=>by
   obtain⟨w,s,rfl,_⟩:=hL.leaf x (hp.mem_iff.1 (hm x hx));rfl
  show Cn.over Sy (λs=>Cn.sum (Cn.top s) d)=_;rw[Cn.M1 hL λx hx=>.inl (hp.mem_iff.1 (hm x hx))];have:=Cn.yU d;rw[Cn.OM hleaf] at this;simp only[arL] at this;omega
|@succ t q r hq hs hp ih=>
  intro d hd hm hl;have hrow:Cn.Row L (t+1) r:=.succ hq hs hp;obtain⟨k1,k2,k3⟩:=Cn.Row.down hL hq hq.sorted hp hd hm hl;have h1:=ih (Cn.kids d) k1 k2 k3;show Cn.over Sy (λs=>Cn.sum (Cn.top s) d*2 ^ (t+1)+Cn.val s t (Cn.kids d))=_;rw[Cn.IZ,Cn.ME,h1,Cn.M1 hL λx hx=>(hrow.nodup hL).2 x (hm x hx)];have h2:=Cn.yU d;have e1:Cn.leaves d*2 ^ (t+1)=2*Cn.leaves d*2 ^ t:=by rw[aqS,arG (2 ^ t) 2,<-atM,arG (Cn.leaves d) 2]
  have e2:d.length*2 ^ (t+1)=2*d.length*2 ^ t:=by rw[aqS,arG (2 ^ t) 2,<-atM,arG d.length 2]
  rw[e1,e2,<-arC,<-h2]
  congr 1
  omega
theorem Cn.Row.len {L:List Cn}{r:List Cn}(h:Cn.Row L t r):∀k,L.length<=k*2 ^ t->2*L.length<=r.length+k:=by
 induction h with
|zero _ hp=>
  intro k hk;rw[hp.length_eq];omega
|@succ t q r hq _ hp ih=>
  intro k hk;have h1:=ih (2*k) (by rw[aqS] at hk;rw[arG 2 k,atM,arG 2];exact hk);rw[hp.length_eq,aoC,Cn.Fh];omega
theorem Cn.Row.lt {L:List Cn}{r:List Cn}(h:Cn.Row L t r)(h0:0 < L.length):r.length < 2*L.length:=by
 induction h with
|zero _ hp=>rw[hp.length_eq];omega
|@succ t q r hq _ hp ih=>
  rw[hp.length_eq,aoC,Cn.Fh];omega
theorem Cn.Sz {r:List Cn}(h:Cn.sorted r)(n:Nat):Cn.low (r.take n) r:=by
 intro x hx y hy hn;have hy2:y∈r.drop n:=by
  have:y∈r.take n++r.drop n:=by rw[apS];exact hy
  exact (apF.1 this).resolve_left hn
 have hs:(r.take n++r.drop n).Pairwise λa b=>a.wt<=b.wt:=by rw[apS];exact h
 exact (asQ.1 hs).2.2 x hx y hy2
theorem Cn.Row.code {L:List Cn}(hL:Cn.Lv L Sy){r:List Cn}(h:Cn.Row L m r)(h2:2<=L.length)(hn:L.length<=2 ^ (m+1)) :
  2*L.length - 2<=r.length∧(∀s∈Sy,1<=Cn.sum (Cn.cnt s) (r.take (2*L.length - 2))∧Cn.sum (Cn.cnt s) (r.take (2*L.length - 2))<=m+1) ∧
   Cn.over Sy (λs=>2 ^ (m+1 - Cn.sum (Cn.cnt s) (r.take (2*L.length - 2))))=2 ^ (m+1):=by
 have hle:=h.len 2 (by rw[aqS] at hn;omega);have hd:(r.take (2*L.length - 2)).Nodup:=(List.take_sublist _ _).nodup (h.nodup hL).1;have hm:∀x∈r.take (2*L.length - 2),x∈r:=λx hx=>aqV hx;have hlow:=Cn.Sz h.sorted (2*L.length - 2);have hlev:=h.levels hL _ hd hm hlow;have hw:=h.worth hL _ hd hm hlow;rw[aoH,apI om] at hw;generalize hD:r.take (2*L.length - 2)=d at hd hm hlow hlev hw ⊢;have hsum:Cn.over Sy (λs=>Cn.val s m d+2 ^ (m+1 - Cn.sum (Cn.cnt s) d))=Sy.length*2 ^ (m+1):=by
  rw[Cn.CM λs _=>(hlev s).2.1,Cn.LQ]
 rw[Cn.IZ,hw,<-hL.len] at hsum;have e1:(2*L.length - 2)*2 ^ m=(L.length - 1)*2 ^ (m+1):=by
  rw[aqS,arG (2 ^ m) 2,<-atM]
  congr 1
  omega
 have e2:L.length*2 ^ (m+1)=(L.length - 1)*2 ^ (m+1)+2 ^ (m+1):=by
  conv=>lhs;rw[show L.length=L.length - 1+1 by omega,aqX]
 have hk:Cn.over Sy (λs=>2 ^ (m+1 - Cn.sum (Cn.cnt s) d))=2 ^ (m+1):=om
 refine⟨om,λs hs=>⟨?_,(hlev s).1⟩,hk⟩
 -- a symbol bC a coin would fill the sum alone
 rcases arF (Cn.sum (Cn.cnt s) d) with h0|h0
 ·exfalso;have hlen:2<=Sy.length:=by rw[<-hL.len];exact h2
  have key:∀(l:List Nat),s∈l->2<=l.length->2 ^ (m+1) < Cn.over l (λs=>2 ^ (m+1 - Cn.sum (Cn.cnt s) d)):=by
   intro l hl hll;have hp:=(awI hl).map λs=>2 ^ (m+1 - Cn.sum (Cn.cnt s) d);have hp:=hp.sum_nat;have hlen:=(awI hl).length_eq;unfold Cn.over;rw[hp,aqL,asO,h0,atX];cases he:l.erase s with
  |nil=>rw[he] at hlen;simp at hlen;omega
  |cons u t=>
    rw[aqL,asO];have:=atP (m+1 - Cn.sum (Cn.cnt u) d);omega
  have:=key Sy hs hlen;omega
 ·exact h0
theorem Cn.Row.none {L:List Cn}(hL:Cn.Lv L Sy){s:Nat}(hs:s ∉ Sy){r:List Cn}(h:Cn.Row L t r):∀x∈r,Cn.cnt s x=0:=by
 induction h with
|zero _ hp=>
  intro x hx;obtain⟨w,u,rfl,_,hu⟩:=hL.leaf x (hp.mem_iff.1 hx);simp only[Cn.cnt];rw[anW (λe=>hs (by rw[<-e];exact hu))]
|succ hq _ hp ih=>
  intro x hx;rcases apF.1 (hp.mem_iff.1 hx) with h|h
  ·obtain⟨w,u,rfl,_,hu⟩:=hL.leaf x h;simp only[Cn.cnt];rw[anW (λe=>hs (by rw[<-e];exact hu))]
  ·obtain⟨a,b,rfl,ha,hb⟩:=Cn.fS h;show Cn.cnt s a+Cn.cnt s b=0;rw[ih a ha,ih b hb]
structure Df.OT (counts lens:List Nat) (most:Nat):Prop where
 len:lens.length=counts.length
 le:∀x∈lens,x<=most
 chk:az lens=0
 pos:∀i,0 < counts.getD i 0->0 < lens.getD i 0
def dm (counts:List Nat):List Nat:=(List.range counts.length).filter λi=>ai (0 < counts.getD i 0)
theorem ku {s:Nat}:s∈dm counts↔0 < counts.getD s 0:=by
 unfold dm;rw[List.mem_filter,apZ,apY];refine⟨λh=>h.2,λh=>⟨?_,h⟩⟩;rcases apD s counts.length with h'|h'
 ·exact h'
 ·rw[aoE,aqB h'] at h;exact absurd h (asX _)
theorem xd (counts:List Nat):(dm counts).Nodup:=List.nodup_range.filter _
def kx (counts:List Nat):List Cn:=(dm counts).map λs=>.leaf (counts.getD s 0) s
theorem xe (counts:List Nat):Cn.Lv (kx counts) (dm counts) where
 leaf:=λx hx=>by
  obtain⟨s,hs,rfl⟩:=apN.1 hx;exact⟨_,_,rfl,ku.1 hs,hs⟩
 has:=λs hs=>⟨_,apN.2 ⟨s,hs,rfl⟩⟩
 uniq:=λw v s h1 h2=>by
  obtain⟨a,_,e1⟩:=apN.1 h1;obtain⟨b,_,e2⟩:=apN.1 h2
  injection e1 with e1 e3
  injection e2 with e2 e4
  rw[<-e1,<-e2,e3,e4]
 nodup:=by
  unfold kx;rw[List.nodup_iff_pairwise_ne,List.pairwise_map];refine (List.nodup_iff_pairwise_ne.1 (xd counts)).imp λh e=>?_
  injection e with _ e
  exact h e
 nodupS:=xd counts
 len:=by unfold kx;rw[apP]
theorem xf (f:Nat->Nat):∀(l:List Nat),((l.map f).map λx=>if x=0 then 0 else 2 ^ (15 - x)).sum=Cn.over (l.filter λs=>ai (0 < f s)) (λs=>2 ^ (15 - f s))
|[]=>rfl
|s::l=>by
  have ih:=xf f l;rw[aqL,aqL,asO,ih,asV];by_cases h:0 < f s
  ·rw[anW om,anX (by simpa using h),Cn.gJ]
  ·rw[anX om,anW (by simpa using h),aoN]
theorem aaa {lens:List Nat}{r:List Cn}(hm:m < 15)(h:Cn.Row (kx counts) m r)(h2:2<=(dm counts).length)(hn:(dm counts).length<=2 ^ (m+1))(hc:counts.length<=288)(hl:lens.length=counts.length)
  (hv:∀s,s < counts.length->lens.getD s 0=Cn.sum (Cn.cnt s) (r.take (2*(dm counts).length - 2))):Df.OT counts lens (m+1):=by
 have hL:=xe counts;rw[<-hL.len] at h2 hn hv;obtain⟨c1,c2,c3⟩:=h.code hL h2 hn;have hlt:∀{s},0 < counts.getD s 0->s < counts.length:=λ{s} h=>by
  rcases apD s counts.length with h'|h'
  ·exact h'
  ·rw[aoE,aqB h'] at h;exact absurd h (asX _)
 have hpos:∀i,0 < counts.getD i 0->0 < lens.getD i 0:=λi hi=>by
  rw[hv i (hlt hi)];exact (c2 i (ku.2 hi)).1
 have hzero:∀i,i < counts.length->¬0 < counts.getD i 0->lens.getD i 0=0:=λi hi h0=>by
  rw[hv i hi];exact Cn.MO λx hx=>h.none hL (λhm=>h0 (ku.1 hm)) x (aqV hx)
 have elens:lens=(List.range counts.length).map λi=>lens.getD i 0:=by rw[<-hl];exact (ti lens).symm
 have hle:∀x∈lens,x<=m+1:=by
  intro x hx;rw[elens] at hx;obtain⟨i,hi,rfl⟩:=apN.1 hx;have hi:=apZ.1 hi;by_cases h0:0 < counts.getD i 0
  ·rw[hv i hi];exact (c2 i (ku.2 h0)).2
  ·rw[hzero i hi h0];exact aoO _
 have hk:dr lens=2 ^ 15:=by
  unfold dr;rw[elens,xf];have ef:((List.range counts.length).filter λs=>ai (0 < lens.getD s 0))=dm counts:=by
   unfold dm;refine List.filter_congr λs hs=>?_;have hs:=apZ.1 hs;by_cases h0:0 < counts.getD s 0
   ·rw[anZ h0,anZ (hpos s h0)]
   ·rw[anY h0,anY (by rw[hzero s hs h0];omega)]
  rw[ef,Cn.CM (g:=λs=>2 ^ (m+1 - Cn.sum (Cn.cnt s) (r.take (2*(kx counts).length - 2)))*2 ^ (15 - (m+1))) λs hs=>?_,Cn.ME,c3,<-Nat.pow_add,show m+1+(15 - (m+1))=15 by omega];have:=(c2 s hs).2;rw[hv s (hlt (ku.1 hs)),<-Nat.pow_add]
  congr 1
  omega
 refine⟨hl,hle,?_,hpos⟩;unfold az;rw[anW om];unfold Fl.check;rw[<-qu λx hx=>by have:=hle x hx;omega,hk,anX (.inl rfl)]
theorem xg {lens:List Nat}(h:∀x∈lens,x=0):∀m,Fl.aR lens m=0
|0=>rfl
|m+1=>by
  rw[Fl.aR,xg h m,List.count_eq_zero_of_not_mem λhm=>by have:=h _ hm;omega]
theorem aab (hc:counts.length<=288)(h:dm counts=[])(most:Nat):Df.OT counts (List.replicate counts.length 0) most where
 len:=apC
 le:=λx hx=>by rw[aqZ hx];exact aoO _
 chk:=by
  unfold az;rw[apC,anW om];unfold Fl.check;rw[anX (.inr (.inl (xg (λx hx=>aqZ hx) 15)))]
 pos:=λi hi=>by
  have:=ku.2 hi;rw[h] at this;cases this
theorem aac (hc:counts.length<=288){s:Nat}(h:dm counts=[s])(hm:1<=most):Df.OT counts ((List.replicate counts.length 0).set s 1) most:=by
 have hs:0 < counts.getD s 0:=ku.1 (by rw[h];exact avP s);have hlt:s < counts.length:=by
  rcases apD s counts.length with h'|h'
  ·exact h'
  ·rw[aoE,aqB h'] at hs;exact absurd hs (asX _)
 have e:(List.replicate counts.length 0).set s 1=List.replicate s 0++1::List.replicate (counts.length - s - 1) 0:=by
  conv=>lhs;rw[show counts.length=s+((counts.length - s - 1)+1) by omega,<-List.replicate_append_replicate,asD _ _ sm,apC,aqK,atI,aqP]
 have hcnt:∀l,0 < l->((List.replicate counts.length 0).set s 1).count l=if l=1 then 1 else 0:=by
  intro l hl;rw[e,asC,List.count_cons,awJ,awJ];by_cases h1:l=1
  ·subst h1;simp
  ·have h2:(1==l)=false:=by simp;omega
   have h0:(0==l)=false:=by simp;omega
   rw[h2,h0];simp[h1]
 have hu:∀m,Fl.aR ((List.replicate counts.length 0).set s 1) (m+1)=1:=by
  intro m
  induction m with
 |zero=>rw[Fl.aR,Fl.aR,hcnt _ om];rfl
 |succ m ih=>rw[Fl.aR,ih,hcnt _ om,anW om]
 refine⟨sm,λx hx=>?_,?_,λi hi=>?_⟩
 ·rcases auK hx with h|h
  ·rw[aqZ h];omega
  ·omega
 ·unfold az;rw[aqM,apC,anW om];unfold Fl.check;rw[anX (.inr (.inr ⟨hu 14,by rw[hcnt 1 dc];rfl⟩))]
 ·have:=ku.2 hi;rw[h] at this;rw[aoZ.1 this,aoE,arR (by simpa using hlt)]
  decide
theorem ox (a:List Nat)(k:Nat){l:Nat}(hl:0 < l):(a++List.replicate k 0).count l=a.count l:=by
 rw[asC,awJ];have h0:(0==l)=false:=by simp;omega
 rw[h0];simp
theorem xh (a:List Nat)(k:Nat):∀m,Fl.fW (a++List.replicate k 0) m=Fl.fW a m
|0=>rfl
|m+1=>by rw[Fl.fW,Fl.fW,xh a k m,ox a k om]
theorem xi (a:List Nat)(k:Nat):∀m,Fl.aR (a++List.replicate k 0) m=Fl.aR a m
|0=>rfl
|m+1=>by rw[Fl.aR,Fl.aR,xi a k m,ox a k om]
theorem xj (a:List Nat)(k:Nat):∀m,Fl.first (a++List.replicate k 0) m=Fl.first a m
|0=>rfl
|1=>rfl
|m+2=>by rw[Fl.first,Fl.first,xj a k (m+1),ox a k om]
theorem xl {a:List Nat}{k:Nat}(h:az (a++List.replicate k 0)=0):az a=0:=by
 unfold az at h ⊢;split at h
 ·cases h
 ·rename_i h1
  rw[aoC] at h1;rw[anW om];unfold Fl.check at h ⊢;rw[xh,xi,ox a k dc] at h;exact h
theorem oy (a:List Nat)(k i:Nat):(a++List.replicate k 0).getD i 0=a.getD i 0:=by
 rw[aoE,aoE];rcases apD i a.length with h|h
 ·rw[aqO h]
 ·rw[arD h,aqB (l:=a) h,atO];split<;>rfl
theorem xm (a:List Nat)(k i:Nat):dt (a++List.replicate k 0) i=dt a i:=by
 unfold dt;rw[oy];by_cases h0:a.getD i 0=0
 ·rw[h0];rfl
 ·congr 1
  unfold dh;rw[oy,anW h0,anW h0,xj];have hi:i < a.length:=by
   rcases apD i a.length with h|h
   ·exact h
   ·rw[aoE,aqB h] at h0;exact absurd rfl h0
  rw[avE om]
theorem aad (a b:List Nat)(k j:Nat)(x:bn):fg (a++List.replicate k 0) (b++List.replicate j 0) x=fg a b x:=by
 unfold fg;simp only[xm]
theorem aae (a b:List Nat)(k j:Nat)(l:List bn):dk (a++List.replicate k 0) (b++List.replicate j 0) l=dk a b l:=by
 unfold dk;rw[xm]
 congr 1
 induction l with
|nil=>rfl
|cons x l ih=>rw[aqC,aqC,ih,aad]
theorem xn {n:Nat}(hn:n<=l.length)(h:∀j,n<=j->l.getD j 0=0):l=l.take n++List.replicate (l.length - n) 0:=by
 refine List.ext_getElem (by simp;omega) λi h1 h2=>?_;rcases apD i n with h'|h'
 ·rw[List.getElem_append_left (by simp;omega),avK]
 ·have:=h i h';rw[aoE,aoI h1] at this;rw[List.getElem_append_right (by simp;omega),auS];exact this
section
namespace Srt
section
variable {α:Type}(d:α)(wt:α->Nat)
def sw (xs:List α)(i j:Nat):List α:=(xs.set i (xs.getD j d)).set j (xs.getD i d)
def lt (x y:α):Bool:=ai (wt x < wt y)
def insJ (a:Nat):Nat->List α->List α
|0,xs=>xs
|j+1,xs=>if a < j+1∧lt wt (xs.getD (j+1) d) (xs.getD j d)=au then insJ a j (sw d xs (j+1) j) else xs
def insI (a:Nat):Nat->Nat->List α->List α
|0,_,xs=>xs
|n+1,i,xs=>insI a n (i+1) (insJ d wt a i xs)
def ins (xs:List α)(a b:Nat):List α:=insI d wt a (b - (a+1)) (a+1) xs
def swr:Nat->Nat->Nat->List α->List α
|0,_,_,xs=>xs
|n+1,a,b,xs=>swr n (a+1) (b+1) (sw d xs a b)
def rot:Nat->Nat->Nat->Nat->List α->List α
|0,_,_,_,xs=>xs
|f+1,i,j,m,xs=>if i=j then swr d i (m - i) m xs else if j < i then rot f (i - j) j m (swr d j (m - i) m xs) else rot f i (j - i) m (swr d i (m - i) (m+j - i) xs)
def bs (p:Nat->Bool):Nat->Nat->Nat->Nat
|0,i,_=>i
|f+1,i,j=>if i < j then (if p ((i+j) / 2)=au then bs p f i ((i+j) / 2) else bs p f ((i+j) / 2+1) j) else i
def up:Nat->Nat->List α->List α
|0,_,xs=>xs
|n+1,k,xs=>up n (k+1) (sw d xs k (k+1))
def down:Nat->Nat->List α->List α
|0,_,xs=>xs
|n+1,k,xs=>down n (k - 1) (sw d xs k (k - 1))
def symS (xs:List α)(a m b:Nat):Nat:=bs (λc=>lt wt (xs.getD ((a+b) / 2+m - 1 - c) d) (xs.getD c d)) (b - a) (if (a+b) / 2 < m then (a+b) / 2+m - b else a) (if (a+b) / 2 < m then (a+b) / 2 else m)
def sym:Nat->Nat->Nat->Nat->List α->List α
|0,_,_,_,xs=>xs
|f+1,a,m,b,xs=>
  if m - a=1 then up d (bs (λh=>!lt wt (xs.getD h d) (xs.getD a d)) (b - m) m b - 1 - a) a xs
  else if b - m=1 then down d (m - bs (λh=>lt wt (xs.getD m d) (xs.getD h d)) (m - a) a m) m xs
  else
   let mid:=(a+b) / 2
   let s:=symS d wt xs a m b
   let e:=mid+m - s
   let x1:=if s < m∧m < e then rot d (e - s) (m - s) (e - m) m xs else xs
   let x2:=if a < s∧s < mid then sym f a s mid x1 else x1
   if mid < e∧e < b then sym f mid e b x2 else x2
def blk (n:Nat):Nat->Nat->List α->List α
|0,_,xs=>xs
|f+1,a,xs=>if a+n<=xs.length then blk n f (a+n) (ins d wt xs a (a+n)) else ins d wt xs a xs.length
def mrg (n:Nat):Nat->Nat->List α->List α
|0,_,xs=>xs
|f+1,a,xs=>if a+2*n<=xs.length then mrg n f (a+2*n) (sym d wt (2*n) a (a+n) (a+2*n) xs) else if a+n < xs.length then sym d wt (xs.length - a) a (a+n) xs.length xs else xs
def rounds:Nat->Nat->List α->List α
|0,_,xs=>xs
|f+1,n,xs=>if n < xs.length then rounds f (2*n) (mrg d wt n (xs.length+1) 0 xs) else xs
def LK (xs:List α):List α:=rounds d wt (xs.length+1) 20 (blk d wt 20 (xs.length+1) 0 xs)
end
section
variable {α:Type}{d:α}{wt:α->Nat}
theorem HE {xs:List α}:(sw d xs i j).length=xs.length:=by unfold sw;rw[aqM,aqM]
theorem SB {a:Nat}:∀(j:Nat) (xs:List α),(insJ d wt a j xs).length=xs.length
|0,_=>rfl
|j+1,xs=>by
  unfold insJ;split
  ·rw[SB j,HE]
  ·rfl
theorem RO {a:Nat}:∀(n i:Nat) (xs:List α),(insI d wt a n i xs).length=xs.length
|0,_,_=>rfl
|n+1,i,xs=>by unfold insI;rw[RO n,SB]
theorem Vh {xs:List α}{a:Nat}:(ins d wt xs a b).length=xs.length:=RO _ _ _
theorem Gh:∀(n a b:Nat) (xs:List α),(swr d n a b xs).length=xs.length
|0,_,_,_=>rfl
|n+1,a,b,xs=>by unfold swr;rw[Gh n,HE]
theorem Np:∀(f i j m:Nat) (xs:List α),(rot d f i j m xs).length=xs.length
|0,_,_,_,_=>rfl
|f+1,i,j,m,xs=>by
  unfold rot;split
  ·rw[Gh]
  ·split
   ·rw[Np f,Gh]
   ·rw[Np f,Gh]
theorem ZN:∀(n k:Nat) (xs:List α),(up d n k xs).length=xs.length
|0,_,_=>rfl
|n+1,k,xs=>by unfold up;rw[ZN n,HE]
theorem Rh:∀(n k:Nat) (xs:List α),(down d n k xs).length=xs.length
|0,_,_=>rfl
|n+1,k,xs=>by unfold down;rw[Rh n,HE]
theorem Kh:∀(f a m b:Nat) (xs:List α),(sym d wt f a m b xs).length=xs.length
|0,_,_,_,_=>rfl
|f+1,a,m,b,xs=>by
  unfold sym;split
  ·rw[ZN]
  ·split
   ·rw[Rh]
   ·dsimp only;have h1:(if symS d wt xs a m b < m∧m < (a+b) / 2+m - symS d wt xs a m b then rot d ((a+b) / 2+m - symS d wt xs a m b - symS d wt xs a m b) (m - symS d wt xs a m b) ((a+b) / 2+m - symS d wt xs a m b - m) m xs else xs).length=xs.length:=by
     split
     ·rw[Np]
     ·rfl
    generalize (if symS d wt xs a m b < m∧m < (a+b) / 2+m - symS d wt xs a m b then rot d ((a+b) / 2+m - symS d wt xs a m b - symS d wt xs a m b) (m - symS d wt xs a m b) ((a+b) / 2+m - symS d wt xs a m b - m) m xs else xs)=x1 at h1 ⊢;have h2:(if a < symS d wt xs a m b∧symS d wt xs a m b < (a+b) / 2 then sym d wt f a (symS d wt xs a m b) ((a+b) / 2) x1 else x1).length=xs.length:=by
     split
     ·rw[Kh f,h1]
     ·exact h1
    generalize (if a < symS d wt xs a m b∧symS d wt xs a m b < (a+b) / 2 then sym d wt f a (symS d wt xs a m b) ((a+b) / 2) x1 else x1)=x2 at h2 ⊢;split
    ·rw[Kh f,h2]
    ·exact h2
theorem getD_at {P R:List α}{x:α}:(P++x::R).getD P.length d=x:=by
 rw[aoE,arD (aoG _),aqK];rfl
theorem getD_in {P V R:List α}(hi:i < V.length):(P++(V++R)).getD (P.length+i) d=V.getD i d:=by
 rw[aoE,arD om,asZ,aqO hi,aoE]
theorem aaE (P R Q:List α)(x y:α)(hi:i=P.length)(hj:j=P.length+1+R.length):sw d (P++x::(R++y::Q)) i j=P++y::(R++x::Q):=by
 subst hi;subst hj;have e1:(P++x::(R++y::Q)).getD (P.length+1+R.length) d=y:=by
  rw[show P++x::(R++y::Q)=(P++x::R)++y::Q by simp,show P.length+1+R.length=(P++x::R).length by simp;omega];exact getD_at
 unfold sw;rw[e1,getD_at,asD _ _ (aoG _),aqK,aqP,asD _ _ om,show P.length+1+R.length - P.length=R.length+1 by omega,List.set_cons_succ,asD _ _ (aoG _),aqK,aqP]
theorem Ww (P R Q:List α)(x y:α)(hi:i=P.length)(hj:j=P.length+1+R.length):sw d (P++x::(R++y::Q)) j i=P++y::(R++x::Q):=by
 subst hi;subst hj;have e1:(P++x::(R++y::Q)).getD (P.length+1+R.length) d=y:=by
  rw[show P++x::(R++y::Q)=(P++x::R)++y::Q by simp,show P.length+1+R.length=(P++x::R).length by simp;omega];exact getD_at
 unfold sw;rw[e1,getD_at,asD _ _ om,show P.length+1+R.length - P.length=R.length+1 by omega,List.set_cons_succ,asD _ _ (aoG _),aqK,aqP,asD _ _ (aoG _),aqK,aqP]
theorem Mw:∀(U V P R Q:List α) {a b:Nat},U.length=V.length->a=P.length->b=P.length+U.length+R.length->swr d U.length a b (P++(U++(R++(V++Q))))=P++(V++(R++(U++Q)))
|[],[],P,R,Q,a,b,_,_,_=>rfl
|u::U,v::V,P,R,Q,a,b,h,ha,hb=>by
  simp only[apB] at h hb;show swr d U.length (a+1) (b+1) (sw d (P++(u::U++(R++(v::V++Q)))) a b)=_;have e:P++(u::U++(R++(v::V++Q)))=P++u::((U++R)++v::(V++Q)):=sm
  rw[e,aaE P (U++R) (V++Q) u v ha (by rw[aoC];omega)];have e2:P++v::((U++R)++u::(V++Q))=(P++[v])++(U++((R++[u])++(V++Q))):=sm
  rw[e2,Mw U V (P++[v]) (R++[u]) Q om (by simp;omega) (by simp;omega)];simp
theorem PA:∀(f:Nat) (P U V Q:List α) {m:Nat},U.length+V.length<=f->0 < U.length->0 < V.length->m=P.length+U.length->rot d f U.length V.length m (P++(U++(V++Q)))=P++(V++(U++Q))
|0,_,U,V,_,_,h,h1,_,_=>by omega
|f+1,P,U,V,Q,m,h,h1,h2,hm=>by
  unfold rot;by_cases hc:U.length=V.length
  ·rw[anX hc];exact Mw U V P [] Q hc om (by simp;omega)
  rw[anW hc];by_cases hlt:V.length < U.length
  ·rw[anX hlt];have hU:U.take V.length++U.drop V.length=U:=apS ..
   have l1:(U.take V.length).length=V.length:=by rw[aoH];omega
   have l2:(U.drop V.length).length=U.length - V.length:=aoJ;have e:=Mw (d:=d) (U.take V.length) V P (U.drop V.length) Q (a:=m - U.length) (b:=m) l1 om om;rw[l1] at e;have e1:P++(U.take V.length++(U.drop V.length++(V++Q)))=P++(U++(V++Q)):=by rw[<-aoL (U.take V.length),hU]
   rw[e1] at e;rw[e];have ih:=PA f (P++V) (U.drop V.length) (U.take V.length) Q (m:=m) om om om (by rw[aoC];omega);rw[l1,l2] at ih;rw[<-aoL P,ih,<-aoL (U.take V.length),hU,aoL]
  ·rw[anW hlt];have hV:V.take (V.length - U.length)++V.drop (V.length - U.length)=V:=apS ..
   have l1:(V.take (V.length - U.length)).length=V.length - U.length:=by rw[aoH];omega
   have l2:(V.drop (V.length - U.length)).length=U.length:=by rw[aoJ];omega
   have e:=Mw (d:=d) U (V.drop (V.length - U.length)) P (V.take (V.length - U.length)) Q (a:=m - U.length) (b:=m+V.length - U.length) l2.symm om om;have e1:P++(U++(V.take (V.length - U.length)++(V.drop (V.length - U.length)++Q)))=P++(U++(V++Q)):=by rw[<-aoL (V.take _),hV]
   rw[e1] at e;rw[e];have ih:=PA f P (V.drop (V.length - U.length)) (V.take (V.length - U.length)) (U++Q) (m:=m) om om om om;rw[l1,l2] at ih;rw[ih,<-aoL (V.take _),hV]
theorem ZU:∀(V P Q:List α) (u:α) {k:Nat},k=P.length->up d V.length k (P++u::(V++Q))=P++(V++u::Q)
|[],P,Q,u,k,_=>rfl
|v::V,P,Q,u,k,hk=>by
  show up d V.length (k+1) (sw d (P++u::([]++v::(V++Q))) k (k+1))=_;rw[aaE P [] (V++Q) u v hk (by simp;omega)];have e:P++v::([]++u::(V++Q))=(P++[v])++u::(V++Q):=sm
  rw[e,ZU V (P++[v]) Q u (by simp;omega)];simp
theorem SD:∀(n:Nat) (V P Q:List α) (u:α) {k:Nat},V.length=n->k=P.length+n->down d n k (P++(V++u::Q))=P++u::(V++Q)
|0,V,P,Q,u,k,h,hk=>by
  have:V=[]:=arS.1 h;subst this;rfl
|n+1,V,P,Q,u,k,h,hk=>by
  have hne:V≠[]:=λe=>by rw[e] at h;simp at h
  have hV:=List.dropLast_concat_getLast hne;have hl:V.dropLast.length=n:=by rw[List.length_dropLast];omega
  show down d n (k - 1) (sw d (P++(V++u::Q)) k (k - 1))=_;generalize V.getLast hne=v at hV;generalize V.dropLast=W at hV hl;subst hV;have e:P++(W++[v]++u::Q)=(P++W)++v::([]++u::Q):=sm
  rw[e,Ww (P++W) [] Q v u (by rw[aoC];omega) (by simp;omega)];have e2:(P++W)++u::([]++v::Q)=P++(W++u::(v::Q)):=sm
  rw[e2,SD n W P (v::Q) u hl om];simp
theorem UR {p:Nat->Bool}:∀(f i j:Nat),j - i<=f->i<=j->(∀c e,i<=c->c<=e->e < j->p c=au->p e=au) ->
  i<=bs p f i j∧bs p f i j<=j∧(∀c,i<=c->c < bs p f i j->p c=aq)∧(∀c,bs p f i j<=c->c < j->p c=au)
|0,i,j,hf,hij,_=>⟨aoG _,hij,λc h1 h2=>absurd h2 (by unfold bs;omega),λc h1 h2=>by unfold bs at h1;omega⟩
|f+1,i,j,hf,hij,hm=>by
  unfold bs;by_cases h:i < j
  ·rw[anX h];by_cases hp:p ((i+j) / 2)=au
   ·rw[anX hp];obtain⟨a,b,c,e⟩:=UR f i ((i+j) / 2) om om λc e h1 h2 h3 h4=>hm c e h1 h2 om h4;refine⟨a,om,c,λx h1 h2=>?_⟩;rcases apD x ((i+j) / 2) with h'|h'
    ·exact e x h1 h'
    ·exact hm _ x om h' h2 hp
   ·rw[anW hp];obtain⟨a,b,c,e⟩:=UR f ((i+j) / 2+1) j om om λc e h1 h2 h3 h4=>hm c e om h2 h3 h4;refine⟨om,b,λx h1 h2=>?_,e⟩;rcases apD ((i+j) / 2) x with h'|h'
    ·exact c x om h2
    ·cases hx:p x with
    |false=>rfl
    |true=>exact absurd (hm x _ h1 h' om hx) hp
  ·rw[anW h];exact⟨aoG _,hij,λc h1 h2=>by omega,λc h1 h2=>by omega⟩
end
end Srt
end
section
namespace Srt
section
variable {α:Type}{d:α}{wt:α->Nat}
def srt (wt:α->Nat)(l:List α):Prop:=l.Pairwise λx y=>wt x<=wt y
theorem Ko {A B:List α}(ha:srt wt A)(hb:srt wt B)(h:∀x∈A,∀y∈B,wt x<=wt y):srt wt (A++B):=asQ.2 ⟨ha,hb,h⟩
theorem BV {V:List α}(h:srt wt V)(hij:i<=j)(hj:j < V.length):wt (V.getD i d)<=wt (V.getD j d):=by
 rw[aoE,aoE,aoI hj,aoI om];rcases apD i j with h'|h'
 ·exact asM.1 h i j om hj h'
 ·obtain rfl:i=j:=om
  exact aoG _
theorem jU {V:List α}{P:α->Prop}{k:Nat}(h:∀i,i < k->i < V.length->P (V.getD i d)):∀x∈V.take k,P x:=by
 intro x hx;obtain⟨i,hi,rfl⟩:=asF hx;rw[aoH] at hi;have:=h i om om;rw[aoE,aoI om] at this;rw[avK];exact this
theorem M8 {V:List α}{P:α->Prop}{k:Nat}(h:∀i,k<=i->i < V.length->P (V.getD i d)):∀x∈V.drop k,P x:=by
 intro x hx;obtain⟨i,hi,rfl⟩:=asF hx;rw[aoJ] at hi;have:=h (k+i) om om;rw[aoE,aoI om] at this;rw[List.getElem_drop];exact this
theorem CQ {V:List α}(h:srt wt V)(k:Nat):srt wt (V.take k):=List.Pairwise.sublist (List.take_sublist k V) h
theorem Fu {V:List α}(h:srt wt V)(k:Nat):srt wt (V.drop k):=List.Pairwise.sublist (List.drop_sublist k V) h
theorem MN {P U R:List α}{c:Nat}(h1:P.length<=c)(h2:c < P.length+U.length):(P++(U++R)).getD c d=U.getD (c - P.length) d:=by
 have:=getD_in (d:=d) (P:=P) (V:=U) (R:=R) (i:=c - P.length) om;rw[show P.length+(c - P.length)=c by omega] at this;exact this
theorem FN {P U V R:List α}{c:Nat}(h1:P.length+U.length<=c)(h2:c < P.length+U.length+V.length):(P++(U++(V++R))).getD c d=V.getD (c - (P.length+U.length)) d:=by
 rw[<-aoL P,MN (by rw[aoC];exact h1) (by rw[aoC];exact h2),aoC]
theorem acF (P V Q:List α)(u:α)(f:Nat)(hv:srt wt V){a:Nat}(ha:a=P.length)(hm:m=P.length+1)(hb:b=m+V.length) :
  ∃W,sym d wt (f+1) a m b (P++u::(V++Q))=P++(W++Q)∧W.Perm (u::V)∧srt wt W:=by
 have hg:∀c,m<=c->c < b->(P++u::(V++Q)).getD c d=V.getD (c - m) d:=λc h1 h2=>by
  have:=FN (d:=d) (P:=P) (U:=[u]) (V:=V) (R:=Q) (c:=c) (by simp;omega) (by simp;omega);rw[show P++u::(V++Q)=P++([u]++(V++Q)) by simp,this]
  congr 1
  simp;omega
 have hu:(P++u::(V++Q)).getD a d=u:=by rw[ha];exact getD_at
 unfold sym;rw[anX om];obtain⟨s1,s2,s3,s4⟩:=UR (p:=λh=>!lt wt ((P++u::(V++Q)).getD h d) ((P++u::(V++Q)).getD a d)) (b - m) m b om om (by
  intro c e h1 h2 h3 h4;simp only[hg c h1 om,hg e om h3,hu,lt,atV,aqE] at h4 ⊢;have:=BV (d:=d) hv (i:=c - m) (j:=e - m) om om;omega)
 generalize bs (λh=>!lt wt ((P++u::(V++Q)).getD h d) ((P++u::(V++Q)).getD a d)) (b - m) m b=s at s1 s2 s3 s4 ⊢;have l1:(V.take (s - m)).length=s - m:=by rw[aoH];omega
 have e:=ZU (d:=d) (V.take (s - m)) P (V.drop (s - m)++Q) u (k:=a) ha;rw[<-aoL (V.take (s - m)),apS,l1] at e;rw[show s - 1 - a=s - m by omega,e];refine⟨V.take (s - m)++u::V.drop (s - m),sm,?_,?_⟩
 ·have h:(V.take (s - m)++u::V.drop (s - m)).Perm (u::(V.take (s - m)++V.drop (s - m))):=List.perm_middle
  rwa [apS] at h
 ·refine Ko (CQ hv _) (aqR.2 ⟨?_,Fu hv _⟩) ?_
  ·refine M8 (d:=d) (P:=λy=>wt u<=wt y) λi h1 h2=>?_;have:=s4 (i+m) om om;simp only[hg (i+m) om om,hu,lt,atV,aqE] at this;rw[asU] at this;omega
  ·intro x hx y hy;have hxu:wt x < wt u:=jU (d:=d) (P:=λy=>wt y < wt u) (λi h1 h2=>by
    have:=s3 (i+m) om om;simp only[hg (i+m) om om,hu,lt,Bool.not_eq_false',apY] at this;rw[asU] at this;exact this) x hx
   rcases aoM.1 hy with rfl|hy
   ·omega
   ·have:=CQ hv V.length;have hxy:(V.take (s - m)++V.drop (s - m)).Pairwise λx y=>wt x<=wt y:=by rw[apS];exact hv
    exact (asQ.1 hxy).2.2 x hx y hy
theorem XR (P U Q:List α)(v:α)(f:Nat)(hu:srt wt U){a:Nat}(ha:a=P.length)(hm:m=a+U.length)(hb:b=m+1)(hU:m - a≠1) :
  ∃W,sym d wt (f+1) a m b (P++(U++v::Q))=P++(W++Q)∧W.Perm (U++[v])∧srt wt W:=by
 have hg:∀c,a<=c->c < m->(P++(U++v::Q)).getD c d=U.getD (c - a) d:=λc h1 h2=>by
  rw[MN om om,ha]
 have hv:(P++(U++v::Q)).getD m d=v:=by
  rw[<-aoL,show m=(P++U).length by rw[aoC];omega];exact getD_at
 unfold sym;rw[anW hU,anX om];obtain⟨s1,s2,s3,s4⟩:=UR (p:=λh=>lt wt ((P++(U++v::Q)).getD m d) ((P++(U++v::Q)).getD h d)) (m - a) a m om om (by
  intro c e h1 h2 h3 h4;simp only[hg c h1 om,hg e om h3,hv,lt,apY] at h4 ⊢;have:=BV (d:=d) hu (i:=c - a) (j:=e - a) om om;omega)
 generalize bs (λh=>lt wt ((P++(U++v::Q)).getD m d) ((P++(U++v::Q)).getD h d)) (m - a) a m=s at s1 s2 s3 s4 ⊢;have l1:(U.take (s - a)).length=s - a:=by rw[aoH];omega
 have l2:(U.drop (s - a)).length=m - s:=by rw[aoJ];omega
 have e:=SD (d:=d) (m - s) (U.drop (s - a)) (P++U.take (s - a)) Q v (k:=m) l2 (by rw[aoC];omega);rw[aoL,<-aoL (U.take (s - a)),apS] at e;rw[e];refine⟨U.take (s - a)++v::U.drop (s - a),sm,?_,?_⟩
 ·have h:(U.take (s - a)++v::U.drop (s - a)).Perm (v::(U.take (s - a)++U.drop (s - a))):=List.perm_middle;rw[apS] at h;exact h.trans (auD (l₁:=[v]) (l₂:=U))
 ·refine Ko (CQ hu _) (aqR.2 ⟨?_,Fu hu _⟩) ?_
  ·refine M8 (d:=d) (P:=λy=>wt v<=wt y) λi h1 h2=>?_;have:=s4 (i+a) om om;simp only[hg (i+a) om om,hv,lt,apY] at this;rw[asU] at this;omega
  ·intro x hx y hy;have hxu:wt x<=wt v:=jU (d:=d) (P:=λy=>wt y<=wt v) (λi h1 h2=>by
    have:=s3 (i+a) om om;simp only[hg (i+a) om om,hv,lt,aqE] at this;rw[asU] at this;omega) x hx
   rcases aoM.1 hy with rfl|hy
   ·exact hxu
   ·have hxy:(U.take (s - a)++U.drop (s - a)).Pairwise λx y=>wt x<=wt y:=by rw[apS];exact hu
    exact (asQ.1 hxy).2.2 x hx y hy
theorem RE:∀(f:Nat) (P U V Q:List α) {a m b:Nat},U.length+V.length<=f->0 < U.length->0 < V.length->srt wt U->srt wt V->a=P.length->m=a+U.length->b=m+V.length ->
  ∃W,sym d wt f a m b (P++(U++(V++Q)))=P++(W++Q)∧W.Perm (U++V)∧srt wt W
|0,P,U,V,Q,a,m,b,hf,hU,hV,_,_,_,_,_=>by omega
|f+1,P,U,V,Q,a,m,b,hf,hU,hV,su,sv,ha,hm,hb=>by
  by_cases h1:U.length=1
  ·obtain⟨u,rfl⟩:=avQ.1 h1;exact acF P V Q u f sv ha (by simp at hm;omega) hb
  by_cases h2:V.length=1
  ·obtain⟨v,rfl⟩:=avQ.1 h2;exact XR P U Q v f su ha hm (by simpa using hb) om
  unfold sym;rw[anW om,anW om];dsimp only;generalize hmid:(a+b) / 2=mid;generalize hlo:(if mid < m then mid+m - b else a)=lo;generalize hhi:(if mid < m then mid else m)=hi;have hlo1:a<=lo∧mid+m - b<=lo∧(lo=a∨lo=mid+m - b):=by
   rw[<-hlo];split<;>omega
  have hhi1:hi<=m∧hi<=mid∧lo<=hi∧(hi=m∨hi=mid):=by
   rw[<-hhi,<-hlo];split<;>omega
  have gU:∀c,a<=c->c < m->(P++(U++(V++Q))).getD c d=U.getD (c - a) d:=λc h1 h2=>by
   rw[MN om om,ha]
  have gV:∀c,m<=c->c < b->(P++(U++(V++Q))).getD c d=V.getD (c - m) d:=λc h1 h2=>by
   rw[FN om om,hm,ha]
  have hp:∀c,lo<=c->c < hi->(lt wt ((P++(U++(V++Q))).getD (mid+m - 1 - c) d) ((P++(U++(V++Q))).getD c d)=au↔wt (V.getD (mid - 1 - c) d) < wt (U.getD (c - a) d)):=λc h1 h2=>by
   rw[gU c om om,gV (mid+m - 1 - c) om om,show mid+m - 1 - c - m=mid - 1 - c by omega];simp[lt]
  obtain⟨s1,s2,s3,s4⟩:=UR (p:=λc=>lt wt ((P++(U++(V++Q))).getD (mid+m - 1 - c) d) ((P++(U++(V++Q))).getD c d)) (b - a) lo hi om om (by
   intro c e k1 k2 k3 k4;have k4:=(hp c k1 om).1 k4;refine (hp e om k3).2 ?_;have q1:=BV (d:=d) su (i:=c - a) (j:=e - a) om om;have q2:=BV (d:=d) sv (i:=mid - 1 - e) (j:=mid - 1 - c) om om;omega)
  have hs:symS d wt (P++(U++(V++Q))) a m b=bs (λc=>lt wt ((P++(U++(V++Q))).getD (mid+m - 1 - c) d) ((P++(U++(V++Q))).getD c d)) (b - a) lo hi:=by
   unfold symS;rw[hmid,hlo,hhi]
  rw[hs];generalize bs (λc=>lt wt ((P++(U++(V++Q))).getD (mid+m - 1 - c) d) ((P++(U++(V++Q))).getD c d)) (b - a) lo hi=s at s1 s2 s3 s4 ⊢;have eU:U.take (s - a)++U.drop (s - a)=U:=apS ..
  have eV:V.take (mid - s)++V.drop (mid - s)=V:=apS ..
  have lU1:(U.take (s - a)).length=s - a:=by rw[aoH];omega
  have lU2:(U.drop (s - a)).length=m - s:=by rw[aoJ];omega
  have lV1:(V.take (mid - s)).length=mid - s:=by rw[aoH];omega
  have lV2:(V.drop (mid - s)).length=b - (mid+m - s):=by rw[aoJ];omega
  have su1:=CQ su (s - a);have su2:=Fu su (s - a);have sv1:=CQ sv (mid - s);have sv2:=Fu sv (mid - s);have cross:∀x∈U.take (s - a)++V.take (mid - s),∀y∈U.drop (s - a)++V.drop (mid - s),wt x<=wt y:=by
   have cU:(U.take (s - a)++U.drop (s - a)).Pairwise λx y=>wt x<=wt y:=by rw[eU];exact su
   have cV:(V.take (mid - s)++V.drop (mid - s)).Pairwise λx y=>wt x<=wt y:=by rw[eV];exact sv
   intro x hx y hy;rcases apF.1 hx with hx|hx<;>rcases apF.1 hy with hy|hy
   ·exact (asQ.1 cU).2.2 x hx y hy
   ·refine M8 (d:=d) (P:=λy=>wt x<=wt y) (λj j1 j2=>?_) y hy;refine jU (d:=d) (P:=λx=>wt x<=wt (V.getD j d)) (λi i1 i2=>?_) x hx;rcases apD lo s with h|h
    ·have q:=s3 (s - 1) om om;have q:¬wt (V.getD (mid - 1 - (s - 1)) d) < wt (U.getD (s - 1 - a) d):=λk=>by
      rw[(hp (s - 1) om om).2 k] at q;cases q
     have q1:=BV (d:=d) su (i:=i) (j:=s - 1 - a) om om;have q2:=BV (d:=d) sv (i:=mid - 1 - (s - 1)) (j:=j) om om;omega
    ·omega
   ·refine M8 (d:=d) (P:=λy=>wt x<=wt y) (λj j1 j2=>?_) y hy;refine jU (d:=d) (P:=λx=>wt x<=wt (U.getD j d)) (λi i1 i2=>?_) x hx;rcases apD s hi with h|h
    ·have q:=(hp s om h).1 (s4 s (aoG _) h);have q1:=BV (d:=d) su (i:=s - a) (j:=j) om om;have q2:=BV (d:=d) sv (i:=i) (j:=mid - 1 - s) om om;omega
    ·omega
   ·exact (asQ.1 cV).2.2 x hx y hy
  have x1:(if s < m∧m < mid+m - s then rot d (mid+m - s - s) (m - s) (mid+m - s - m) m (P++(U++(V++Q))) else P++(U++(V++Q)))=P++(U.take (s - a)++(V.take (mid - s)++(U.drop (s - a)++(V.drop (mid - s)++Q)))):=by
   by_cases h:s < m∧m < mid+m - s
   ·rw[anX h];have e:=PA (d:=d) (mid+m - s - s) (P++U.take (s - a)) (U.drop (s - a)) (V.take (mid - s)) (V.drop (mid - s)++Q) (m:=m) om om om (by rw[aoC];omega);rw[lU2,lV1] at e;rw[show mid+m - s - m=mid - s by omega];have e1:P++U.take (s - a)++(U.drop (s - a)++(V.take (mid - s)++(V.drop (mid - s)++Q)))=P++(U++(V++Q)):=by
     rw[<-aoL (V.take _),eV,aoL,<-aoL (U.take _),eU]
    rw[e1] at e;rw[e,aoL]
   ·rw[anW h];have e0:P++(U++(V++Q))=P++((U.take (s - a)++U.drop (s - a))++((V.take (mid - s)++V.drop (mid - s))++Q)):=by rw[eU,eV]
    rw[e0];rcases (by omega:m - s=0∨mid - s=0) with h0|h0
    ·have e:U.drop (s - a)=[]:=arS.1 om;rw[e];simp only[aoV,apK,aoL]
    ·have e:V.take (mid - s)=[]:=arS.1 om;rw[e];simp only[aoV,apK,aoL]
  rw[x1];have x2:∃W1,(if a < s∧s < mid then sym d wt f a s mid (P++(U.take (s - a)++(V.take (mid - s)++(U.drop (s - a)++(V.drop (mid - s)++Q))))) else P++(U.take (s - a)++(V.take (mid - s)++(U.drop (s - a)++(V.drop (mid - s)++Q)))))=P++(W1++(U.drop (s - a)++(V.drop (mid - s)++Q)))∧W1.Perm (U.take (s - a)++V.take (mid - s))∧srt wt W1:=by
   by_cases h:a < s∧s < mid
   ·rw[anX h];exact RE f P (U.take (s - a)) (V.take (mid - s)) (U.drop (s - a)++(V.drop (mid - s)++Q)) om om om su1 sv1 ha om om
   ·rw[anW h];refine⟨U.take (s - a)++V.take (mid - s),sm,asW _,?_⟩;rcases (by omega:s - a=0∨mid - s=0) with h0|h0
    ·have:U.take (s - a)=[]:=arS.1 om;rw[this];exact sv1
    ·have:V.take (mid - s)=[]:=arS.1 om;rw[this,aoV];exact su1
  obtain⟨W1,e2,p1,q1⟩:=x2;rw[e2];have lW1:W1.length=mid - a:=by rw[p1.length_eq,aoC];omega
  have x3:∃W2,(if mid < mid+m - s∧mid+m - s < b then sym d wt f mid (mid+m - s) b (P++(W1++(U.drop (s - a)++(V.drop (mid - s)++Q)))) else P++(W1++(U.drop (s - a)++(V.drop (mid - s)++Q))))=P++(W1++(W2++Q))∧W2.Perm (U.drop (s - a)++V.drop (mid - s))∧srt wt W2:=by
   by_cases h:mid < mid+m - s∧mid+m - s < b
   ·rw[anX h];obtain⟨W2,e3,p2,q2⟩:=RE f (P++W1) (U.drop (s - a)) (V.drop (mid - s)) Q (a:=mid) (m:=mid+m - s) (b:=b) om om om su2 sv2 (by rw[aoC];omega) om om;rw[aoL,aoL] at e3;exact⟨W2,e3,p2,q2⟩
   ·rw[anW h];refine⟨U.drop (s - a)++V.drop (mid - s),sm,asW _,?_⟩;rcases (by omega:m - s=0∨b - (mid+m - s)=0) with h0|h0
    ·have:U.drop (s - a)=[]:=arS.1 om;rw[this];exact sv2
    ·have:V.drop (mid - s)=[]:=arS.1 om;rw[this,aoV];exact su2
  obtain⟨W2,e3,p2,q2⟩:=x3;refine⟨W1++W2,by rw[e3,aoL],?_,Ko q1 q2 λx hx y hy=>cross x (p1.mem_iff.1 hx) y (p2.mem_iff.1 hy)⟩;have h:=p1.append p2;refine h.trans ?_;have h2:((U.take (s - a)++V.take (mid - s))++(U.drop (s - a)++V.drop (mid - s))).Perm ((U.take (s - a)++U.drop (s - a))++(V.take (mid - s)++V.drop (mid - s))):=by
   rw[aoL,aoL];refine List.Perm.append_left _ ?_;rw[<-aoL,<-aoL];exact List.Perm.append_right _ auD
  rwa [eU,eV] at h2
end
end Srt
end
section
namespace Srt
section
variable {α:Type}{d:α}{wt:α->Nat}
theorem Va (P:List α)(x:α):∀(n:Nat) (U R:List α),U.length=n->srt wt U->∃W,insJ d wt P.length (P.length+n) (P++(U++x::R))=P++(W++R)∧W.Perm (U++[x])∧srt wt W
|0,U,R,hU,_=>by
  have:U=[]:=arS.1 hU;subst this;refine⟨[x],?_,asW _,by unfold srt;simp⟩;show insJ d wt P.length P.length _=_;cases P with
 |nil=>rfl
 |cons p P=>
   show insJ d wt (P.length+1) (P.length+1) _=_;unfold insJ;rw[anW om];rfl
|n+1,U,R,hU,su=>by
  have hne:U≠[]:=λe=>by rw[e] at hU;simp at hU
  have hV:=List.dropLast_concat_getLast hne;have hl:U.dropLast.length=n:=by rw[List.length_dropLast];omega
  generalize U.getLast hne=v at hV;generalize U.dropLast=Y at hV hl;subst hV;have e:P++(Y++[v]++x::R)=(P++Y)++v::([]++x::R):=sm
  have g1:(P++(Y++[v]++x::R)).getD (P.length+n) d=v:=by
   rw[e,show P.length+n=(P++Y).length by rw[aoC];omega];exact getD_at
  have g2:(P++(Y++[v]++x::R)).getD (P.length+n+1) d=x:=by
   rw[show P++(Y++[v]++x::R)=(P++(Y++[v]))++x::R by simp,show P.length+n+1=(P++(Y++[v])).length by simp;omega];exact getD_at
  have sY:srt wt Y:=(asQ.1 su).1;have hYv:∀y∈Y,wt y<=wt v:=λy hy=>(asQ.1 su).2.2 y hy v (avP v);show ∃W,insJ d wt P.length (P.length+n+1) _=_∧_;unfold insJ;rw[g1,g2];by_cases h:wt x < wt v
  ·rw[anX ⟨om,by simp[lt,h]⟩,e,Ww (P++Y) [] R v x (by rw[aoC];omega) (by simp;omega)];have e2:P++Y++x::([]++v::R)=P++(Y++x::(v::R)):=sm
   rw[e2];obtain⟨W,e3,p3,q3⟩:=Va P x n Y (v::R) hl sY;refine⟨W++[v],by rw[e3];simp,?_,Ko q3 (by unfold srt;simp) ?_⟩
   ·refine (p3.append_right [v]).trans ?_;rw[aoL,aoL];exact List.Perm.append_left _ (List.Perm.swap v x [])
   ·intro y hy z hz;rw[aoZ.1 hz];rcases apF.1 (p3.mem_iff.1 hy) with hy|hy
    ·exact hYv y hy
    ·rw[aoZ.1 hy];omega
  ·rw[anW (by intro hc;have:=hc.2;simp[lt] at this;omega)];refine⟨Y++[v]++[x],sm,asW _,Ko su (by unfold srt;simp) ?_⟩;intro y hy z hz;rw[aoZ.1 hz];rcases apF.1 hy with hy|hy
   ·have:=hYv y hy;omega
   ·rw[aoZ.1 hy];omega
theorem VX (P:List α):∀(Y U R:List α) {i:Nat},i=P.length+U.length->srt wt U->∃W,insI d wt P.length Y.length i (P++(U++(Y++R)))=P++(W++R)∧W.Perm (U++Y)∧srt wt W
|[],U,R,i,_,su=>⟨U,rfl,by rw[aoV],su⟩
|y::Y,U,R,i,hi,su=>by
  show ∃W,insI d wt P.length Y.length (i+1) (insJ d wt P.length i (P++(U++y::(Y++R))))=_∧_;subst hi;obtain⟨W,e,p,q⟩:=Va (d:=d) P y U.length U (Y++R) rfl su;rw[e];have lW:W.length=U.length+1:=by rw[p.length_eq,aoC];rfl
  obtain⟨Z,e2,p2,q2⟩:=VX P Y W R (i:=P.length+U.length+1) om q;refine⟨Z,e2,p2.trans ?_,q2⟩;have:=p.append_right Y;simpa using this
theorem aaO (P Y R:List α){a:Nat}(ha:a=P.length)(hb:b=a+Y.length):∃W,ins d wt (P++(Y++R)) a b=P++(W++R)∧W.Perm Y∧srt wt W:=by
 subst ha;unfold ins;cases Y with
|nil=>
  refine⟨[],?_,asW _,List.Pairwise.nil⟩;rw[show b - (P.length+1)=0 by simp at hb;omega];rfl
|cons y Y=>
  have h:=VX (d:=d) (wt:=wt) P Y [y] R (i:=P.length+1) sm (by unfold srt;simp);rw[show b - (P.length+1)=Y.length by simp at hb;omega];exact h
def bks (wt:α->Nat)(n:Nat)(l:List α):Prop:=∀k,srt wt ((l.drop (k*n)).take n)
theorem WK {l:List α}(h:srt wt l)(n:Nat):bks wt n l:=λk=>CQ (Fu h _) _
theorem St {W T:List α}{n:Nat}(hW:srt wt W)(hl:W.length=n)(hT:bks wt n T):bks wt n (W++T):=by
 intro k;cases k with
|zero=>
  rw[arJ,aqH,<-hl,List.take_left];exact hW
|succ k=>
  rw[aqX,atE,<-arE,<-hl,List.drop_left,hl];exact hT k
theorem X3 {l:List α}{n:Nat}(h:bks wt n l)(j:Nat):bks wt n (l.drop (j*n)):=by
 intro k;rw[arE,<-arC];exact h _
theorem aaF {n:Nat}(hn:0 < n):∀(f:Nat) (P T:List α) {a:Nat},T.length < f->a=P.length->∃T',blk d wt n f a (P++T)=P++T'∧T'.Perm T∧bks wt n T'
|0,_,_,_,h,_=>by omega
|f+1,P,T,a,hf,ha=>by
  unfold blk;rw[aoC];by_cases h:a+n<=P.length+T.length
  ·rw[anX h];have eT:T.take n++T.drop n=T:=apS ..
   have lY:(T.take n).length=n:=by rw[aoH];omega
   have lR:(T.drop n).length=T.length - n:=aoJ;obtain⟨W,e,p,q⟩:=aaO (d:=d) (wt:=wt) P (T.take n) (T.drop n) (a:=a) (b:=a+n) ha om;rw[eT] at e;have lW:W.length=n:=by rw[p.length_eq,lY]
   obtain⟨T',e2,p2,q2⟩:=aaF hn f (P++W) (T.drop n) (a:=a+n) om (by rw[aoC];omega);rw[e,<-aoL,e2];refine⟨W++T',by rw[aoL],?_,St q lW q2⟩;have:=p.append p2
   rwa [eT] at this
  ·rw[anW h];obtain⟨W,e,p,q⟩:=aaO (d:=d) (wt:=wt) P T [] (a:=a) (b:=P.length+T.length) ha om;rw[aoV,aoV] at e;exact⟨W,e,p,WK q n⟩
theorem ZQ {n:Nat}(hn:0 < n):∀(f:Nat) (P T:List α) {a:Nat},T.length < f->a=P.length->bks wt n T->∃T',mrg d wt n f a (P++T)=P++T'∧T'.Perm T∧bks wt (2*n) T'
|0,_,_,_,h,_,_=>by omega
|f+1,P,T,a,hf,ha,hT=>by
  unfold mrg;rw[aoC];have c0:srt wt (T.take n):=by have:=hT 0;rwa [arJ,aqH] at this
  have c1:srt wt ((T.drop n).take n):=by have:=hT 1;rwa [auJ] at this
  have e1:T.take n++T.drop n=T:=apS ..
  have lU:(T.take n).length=min n T.length:=aoH;have lD:(T.drop n).length=T.length - n:=aoJ;by_cases h:a+2*n<=P.length+T.length
  ·rw[anX h];have e2:(T.drop n).take n++T.drop (2*n)=T.drop n:=by rw[Nat.two_mul,<-arE];exact apS ..
   have lV:((T.drop n).take n).length=n:=by rw[aoH];omega
   have lR:(T.drop (2*n)).length=T.length - 2*n:=aoJ;obtain⟨W,e,p,q⟩:=RE (d:=d) (wt:=wt) (2*n) P (T.take n) ((T.drop n).take n) (T.drop (2*n)) (a:=a) (m:=a+n) (b:=a+2*n) om om om c0 c1 ha om om;rw[e2,e1] at e;have lW:W.length=2*n:=by rw[p.length_eq,aoC];omega
   obtain⟨T',e3,p3,q3⟩:=ZQ hn f (P++W) (T.drop (2*n)) (a:=a+2*n) om (by rw[aoC];omega) (X3 hT 2);rw[e,<-aoL,e3];refine⟨W++T',by rw[aoL],?_,St q lW q3⟩;have:=p.append p3;rw[aoL,e2,e1] at this;exact this
  ·rw[anW h];by_cases h2:a+n < P.length+T.length
   ·rw[anX h2];have e2:(T.drop n).take n=T.drop n:=apE om;rw[e2] at c1;obtain⟨W,e,p,q⟩:=RE (d:=d) (wt:=wt) (P.length+T.length - a) P (T.take n) (T.drop n) [] (a:=a) (m:=a+n) (b:=P.length+T.length) om om om c0 c1 ha om om;rw[aoV,aoV,e1] at e;rw[e1] at p;exact⟨W,e,p,WK q _⟩
   ·rw[anW h2];rw[apE om] at c0;exact⟨T,rfl,asW _,WK c0 _⟩
theorem OQ:∀(f n:Nat) (xs:List α),0 < n->xs.length < f+n->bks wt n xs->(rounds d wt f n xs).Perm xs∧srt wt (rounds d wt f n xs)
|0,n,xs,hn,hf,h=>by
  have:=h 0;rw[arJ,aqH,apE om] at this;exact⟨asW _,this⟩
|f+1,n,xs,hn,hf,h=>by
  unfold rounds;by_cases hc:n < xs.length
  ·rw[anX hc];obtain⟨T',e,p,q⟩:=ZQ (d:=d) hn (xs.length+1) [] xs (a:=0) om rfl h;rw[apK,apK] at e;rw[e];have lT:=p.length_eq;obtain⟨p2,q2⟩:=OQ f (2*n) T' om om q;exact⟨p2.trans p,q2⟩
  ·rw[anW hc];have:=h 0;rw[arJ,aqH,apE om] at this;exact⟨asW _,this⟩
theorem Uj (d:α)(wt:α->Nat)(xs:List α):(LK d wt xs).Perm xs∧srt wt (LK d wt xs):=by
 unfold LK;obtain⟨T',e,p,q⟩:=aaF (d:=d) (wt:=wt) (n:=20) dc (xs.length+1) [] xs (a:=0) om rfl;rw[apK,apK] at e;rw[e];have lT:=p.length_eq;obtain⟨p2,q2⟩:=OQ (d:=d) (xs.length+1) 20 T' dc om q;exact⟨p2.trans p,q2⟩
end
end Srt
end
section
open Eng
def bR(t6 t25 t26 t27 w)(N3:JT)(K:KT):=nz f350 175 [N3] [nh 23 [6,27]] [] (zg [6,25,26,27] [t6,t25,t26,t27]) w K
def bS(t3 t11 w)(N1:JT)(K:KT):=nz f350 491 [N1] [nh 7 [3,11]] [] (zg [3,11] [t3,t11]) w K
def bT(t0 t3 t9 t10 t11 w)(N1:JT)(K:KT):=nz f350 43 [N1] [nh 7 [3,11],(16,[3],λs v j w f=>bS (vg v 0) (s 11) w (f 0) K),(23,[6,27],λs v j w f=>bR (vg v 0) (s 25) (s 26) (vg v 1) w (f 0) K)] [] (zg [0,3,9,10,11] [t0,t3,t9,t10,t11]) w K
def cB(t0 w)(K:KT):=nz f350 1 [] [(7,[3,11],λs v j w f=>bT (s 0) (vg v 0) (s 9) (s 10) (vg v 1) w (f 0) K)] [] (zg [0] [t0]) w K
theorem eD:cB t0 w k0->Calls ah 350 #[t0] w k0:=cz [(8,[3])] [(3,[3,11]),(11,[6,27])] func350
def cA(t0 w)(K:KT):=nz f360 15 [] [] [] (zg [0] [t0]) w K
def cC(t0 t1 w)(K:KT):=nz f360 7 [] [(12,[0],λs v j w f=>cA (vg v 0) w K)] [] (zg [0,1] [t0,t1]) w K
def cH(t0 t1 w)(K:KT):=nz f360 1 [] [(6,[],λs v j w f=>cC (s 0) (s 1) w K)] [] (zg [0,1] [t0,t1]) w K
theorem eJ:cH t0 t1 w k0->Calls ah 360 #[t0,t1] w k0:=cz [(3,[]),(6,[0])] [] func360
def bO(t0 t1 w)(K:KT):=nz f351 1 [] [] [] (zg [0,1] [t0,t1]) w K
theorem dH:bO t0 t1 w k0->Calls ah 351 #[t0,t1] w k0:=cw func351
def cG(c d e f b w)(N1 N2:JT)(K:KT):=
 QuietX w (λC3=>QDo ah C3 (mBin .gtr 3 b d) λa=>GQ a au (λE=>E e) λg=>GQ a au (λE=>E c) λh=>GQ a au (λE=>E b) λi=>GQ a au (λE=>QDo ah C3 (mIA 341 h i) E) λj=>GQ a au (λE=>QDo ah C3 (aJ 342 j) E) λk=>GQ a au (λE=>E c) λl=>GQ a au (λE=>E b) λm=>GQ a au (λE=>QDo ah C3 (mBin .sub 3 m (iN 1)) E) λn=>GQ a au (λE=>QDo ah C3 (mIA 341 l n) E) λo=>GQ a au (λE=>QDo ah C3 (aJ 342 o) E) λp=>GQ a au (λE=>QDo ah C3 (gK g #[k,p]) E) λq=>GQ a au (λE=>QDo ah C3 (mBin .lss 3 q (iN 0)) E) λr=>QDo ah C3 (eH a r (.bool aq)) λs=>
 ∀w,C3 w ->
 IfX s (QuietX w (λC4=>PDo ah (mBin .sub 3 b (iN 1)) λt=>QDo ah C4 (mBin .sub 3 b (iN 1)) λu=>QDo ah C4 (mIA 341 c u) λv=>QDo ah C4 (aJ 342 v) λx=>QDo ah C4 (mIA 341 c b) λy=>QDo ah C4 (aJ 342 y) λz=>QDo ah C4 (mIA 341 c b) λA=>
 ∀w,C4 w ->
 DoX ah (aV 342 A x) w (ax 3 (pk K)) λ_ w=>DoX ah (mIA 341 c t) w (ax 3 (pk K)) λB w=>DoX ah (aV 342 B z) w (ax 3 (pk K)) λ_ w=>bnx .sub 3 b (iN 1) w K λC w=>N2 [C] w)) (bnx .add 3 f (iN 1) w K λD w=>N1 [D] w))
def cF(t0 t1 t2 t3 t8 w)(N1:JT)(K:KT):=nz f365 5 [N1] [nh 3 [8],(9,[9],λs v j w f=>cG (s 0) (s 1) (s 3) (s 8) (vg v 0) w (f 1) (f 0) K)] [] (zg [0,1,2,3,8] [t0,t1,t2,t3,t8]) w K
def cO(t0 t1 t2 t3 w)(K:KT):=nz f365 1 [] [(3,[8],λs v j w f=>cF (s 0) (s 1) (s 2) (s 3) (vg v 0) w (f 0) K)] [] (zg [0,1,2,3] [t0,t1,t2,t3]) w K
theorem eO:cO t0 t1 t2 t3 w k0->Calls ah 365 #[t0,t1,t2,t3] w k0:=cz [] [(1,[8]),(4,[9])] func365
def dN(t0 t2 t4 t10 t11 w)(N1:JT)(K:KT):=nz f367 19 [N1] [nh 5 [10,11]] [] (zg [0,2,4,10,11] [t0,t2,t4,t10,t11]) w K
def dV(t0 t1 t2 t3 t4 w)(K:KT):=nz f367 1 [] [(5,[10,11],λs v j w f=>dN (s 0) (s 2) (s 4) (vg v 0) (vg v 1) w (f 0) K)] [] (zg [0,1,2,3,4] [t0,t1,t2,t3,t4]) w K
theorem fM:dV t0 t1 t2 t3 t4 w k0->Calls ah 367 #[t0,t1,t2,t3,t4] w k0:=cz [] [(2,[10,11])] func367
def dM(t6 w)(N2:JT)(K:KT):=nz f361 1007 [N2] [nh 15 [6]] [] (zg [6] [t6]) w K
def dL(t0 t1 t2 t6 t7 t8 w)(N2 N3:JT)(K:KT):=nz f361 623 [N2,N3] [nh 15 [6],nh 19 [7,8],(32,[],λs v j w f=>dM (s 6) w (f 0) K)] [] (zg [0,1,2,6,7,8] [t0,t1,t2,t6,t7,t8]) w K
def dI(t0 t1 t2 t6 w)(N2:JT)(K:KT):=nz f361 47 [N2] [nh 15 [6],(19,[7,8],λs v j w f=>dL (s 0) (s 1) (s 2) (s 6) (vg v 0) (vg v 1) w (f 1) (f 0) K)] [] (zg [0,1,2,6] [t0,t1,t2,t6]) w K
def dK(t0 t1 t2 t6 t7 t8 w)(N1:JT)(K:KT):=nz f361 19 [N1] [nh 5 [7,8],(15,[6],λs v j w f=>dI (s 0) (s 1) (s 2) (vg v 0) w (f 0) K)] [] (zg [0,1,2,6,7,8] [t0,t1,t2,t6,t7,t8]) w K
def dU(t0 t1 t2 w)(K:KT):=nz f361 1 [] [(5,[7,8],λs v j w f=>dK (s 0) (s 1) (s 2) (s 6) (vg v 0) (vg v 1) w (f 0) K)] [] (zg [0,1,2] [t0,t1,t2]) w K
theorem fO:dU t0 t1 t2 w k0->Calls ah 361 #[t0,t1,t2] w k0:=cz [(16,[])] [(2,[7,8]),(7,[6]),(9,[7,8])] func361
def cT(b c d e a w)(N1:JT)(K:KT):=
 bnx .lss 3 a e w K λf w=>IfX f (QuietX w (λC2=>PDo ah (mBin .add 3 d a) λg=>QDo ah C2 (mBin .add 3 c a) λh=>QDo ah C2 (mBin .add 3 d a) λi=>QDo ah C2 (mIA 341 b i) λj=>QDo ah C2 (aJ 342 j) λk=>QDo ah C2 (mBin .add 3 c a) λl=>QDo ah C2 (mIA 341 b l) λm=>QDo ah C2 (aJ 342 m) λn=>QDo ah C2 (mIA 341 b h) λo=>
 ∀w,C2 w ->
 DoX ah (aV 342 o k) w (ax 4 (pk K)) λ_ w=>DoX ah (mIA 341 b g) w (ax 4 (pk K)) λp w=>DoX ah (aV 342 p n) w (ax 4 (pk K)) λ_ w=>bnx .add 3 a (iN 1) w K λq w=>N1 [q] w)) (K (.returned (.tuple #[])) w)
def dF(t0 t1 t2 t3 t4 w)(K:KT):=nz f368 1 [] [(3,[10],λs v j w f=>cT (s 0) (s 1) (s 2) (s 3) (vg v 0) w (f 0) K)] [] (zg [0,1,2,3,4] [t0,t1,t2,t3,t4]) w K
theorem eY:dF t0 t1 t2 t3 t4 w k0->Calls ah 368 #[t0,t1,t2,t3,t4] w k0:=cz [] [(1,[10])] func368
def dC(t0 t3 t4 t18 t24 w)(K:KT):=nz f366 4095 [] [] [] (zg [0,3,4,18,24] [t0,t3,t4,t18,t24]) w K
def cY(t0 t1 t3 t4 t18 t20 t24 w)(K:KT):=nz f366 2047 [] [(86,[],λs v j w f=>dC (s 0) (s 3) (s 4) (s 18) (s 24) w K)] [] (zg [0,1,3,4,18,20,24] [t0,t1,t3,t4,t18,t20,t24]) w K
def dD(t0 t1 t2 t3 t4 t18 t19 t20 t21 t22 w)(N10:JT)(K:KT):=nz f366 639 [N10] [nh 67 [20,21],(82,[],λs v j w f=>cY (s 0) (s 1) (s 3) (s 4) (s 18) (s 20) (s 24) w K)] [(35,14)] (zg [0,1,2,3,4,18,19,20,21,22] [t0,t1,t2,t3,t4,t18,t19,t20,t21,t22]) w K
def dA(t0 t1 t2 t3 t4 t18 t19 t20 t21 w)(K:KT):=nz f366 127 [] [(67,[20,21],λs v j w f=>dD (s 0) (s 1) (s 2) (s 3) (s 4) (s 18) (s 19) (vg v 0) (vg v 1) (s 22) w (f 0) K)] [] (zg [0,1,2,3,4,18,19,20,21] [t0,t1,t2,t3,t4,t18,t19,t20,t21]) w K
def cX(b c a w)(N7:JT)(K:KT):=
 bnx .gtr 3 a c w K λd w=>IfX d (QuietX w (λC8=>PDo ah (mBin .sub 3 a (iN 1)) λe=>QDo ah C8 (mBin .sub 3 a (iN 1)) λf=>QDo ah C8 (mIA 341 b f) λg=>QDo ah C8 (aJ 342 g) λh=>QDo ah C8 (mIA 341 b a) λi=>QDo ah C8 (aJ 342 i) λj=>QDo ah C8 (mIA 341 b a) λk=>
 ∀w,C8 w ->
 DoX ah (aV 342 k h) w (ax 3 (pk K)) λ_ w=>DoX ah (mIA 341 b e) w (ax 3 (pk K)) λl w=>DoX ah (aV 342 l j) w (ax 3 (pk K)) λ_ w=>bnx .sub 3 a (iN 1) w K λm w=>N7 [m] w)) (K (.returned (.tuple #[])) w)
def dB(t0 t2 t4 t14 t15 w)(N5:JT)(K:KT):=nz f366 309 [N5] [nh 31 [14,15],(43,[17],λs v j w f=>cX (s 0) (s 14) (vg v 0) w (f 0) K)] [(17,12)] (zg [0,2,4,14,15] [t0,t2,t4,t14,t15]) w K
def cZ(b c a w)(N3:JT)(K:KT):=
 bnx .sub 3 c (iN 1) w K λd w=>bnx .lss 3 a d w K λe w=>IfX e (QuietX w (λC4=>PDo ah (mBin .add 3 a (iN 1)) λf=>QDo ah C4 (mBin .add 3 a (iN 1)) λg=>QDo ah C4 (mIA 341 b g) λh=>QDo ah C4 (aJ 342 h) λi=>QDo ah C4 (mIA 341 b a) λj=>QDo ah C4 (aJ 342 j) λk=>QDo ah C4 (mIA 341 b a) λl=>
 ∀w,C4 w ->
 DoX ah (aV 342 l i) w (ax 3 (pk K)) λ_ w=>DoX ah (mIA 341 b f) w (ax 3 (pk K)) λm w=>DoX ah (aV 342 m k) w (ax 3 (pk K)) λ_ w=>bnx .add 3 a (iN 1) w K λn w=>N3 [n] w)) (K (.returned (.tuple #[])) w)
def dE(t0 t1 t4 t10 t11 w)(N1:JT)(K:KT):=nz f366 154 [N1] [nh 7 [10,11],(19,[13],λs v j w f=>cZ (s 0) (s 10) (vg v 0) w (f 0) K)] [(5,11)] (zg [0,1,4,10,11] [t0,t1,t4,t10,t11]) w K
def dJ(t0 t1 t2 t3 t4 w)(K:KT):=nz f366 1 [] [(7,[10,11],λs v j w f=>dE (s 0) (s 1) (s 4) (vg v 0) (vg v 1) w (f 0) K),(31,[14,15],λs v j w f=>dB (s 0) (s 2) (s 4) (vg v 0) (vg v 1) w (f 0) K),(64,[20,21],λs v j w f=>dA (s 0) (s 1) (s 2) (s 3) (s 4) (s 18) (s 19) (vg v 0) (vg v 1) w K)] [] (zg [0,1,2,3,4] [t0,t1,t2,t3,t4]) w K
theorem fF:dJ t0 t1 t2 t3 t4 w k0->Calls ah 366 #[t0,t1,t2,t3,t4] w k0:=cz [(32,[20,21]),(41,[]),(43,[])] [(3,[10,11]),(9,[13]),(15,[14,15]),(21,[17]),(33,[20,21])] func366
end
section
open Eng Go.RowKit
theorem Eng.XS {K:ao->Prop}{fa ca:Array ao}(hp:bZ P f=au)(v:ao)(h:∀w,C w->Ret P f (fa++args++ca) w (λv' w'=>v'=v∧C w'))(k:K v):QDo P C (gK (.func (.func f) fa ca) args) K:=
 ⟨v,λw hw=>by
  have e:(gK (.func (.func f) fa ca) args).run P w=.ok (.enter f (fa++args++ca)) w:=by
   unfold gK;simp only[Deferred.ofValue,invoke,bind,pure,Sem.bind];exact nY hp _ _
  rw[e];exact⟨rfl,Calls.mono (h w hw) λ_ _ ⟨_,he,hv,hc⟩=>⟨by rw[he,hv],hc⟩⟩,k⟩
abbrev Pc:=ao×Cn
def pd:Pc:=(undef,.leaf 0 0)
def pcW (ps:List Pc):List Value:=ps.map (·.1)
abbrev pcE (v:ao)(ps:List Pc):Ent:=.urow 342 1 v ps.length (pcW ps)
def pw (x:Pc):Nat:=x.2.wt
def cmpI (a b:Nat):Int:=if a < b then -1 else if b < a then 1 else 0
theorem Nd (a b:Nat):ai (cmpI a b < 0)=ai (a < b):=by
 unfold cmpI;split
 ·rename_i h;simp[h]
 ·rename_i h;split<;>simp[h]
structure CmpOk (M:Mem) (cv:ao) (ok:Pc->Prop):Prop where
 ptr:∀x,ok x->x.1.oneCell'=au∧x.1.cells=#[x.1]
 run:∃f fa ca,cv=.func (.func f) fa ca∧bZ ah f=au∧∀W x y,M.has W->ok x->ok y->Ret ah f (fa++#[x.1,y.1]++ca) W (λv w'=>v=.int .i64 (cmpI (pw x) (pw y))∧Below W.heap.size W w')
theorem Nu:eM ah 342=true:=krx
theorem GN:(Tryz.prog.info? 342).map (·.size)=aw 1:=krx
theorem nd {d:α}{xs:List α}(hi:i < xs.length)(hj:j < xs.length){x:α}(h:x∈Srt.sw d xs i j):x∈xs:=by
 unfold Srt.sw at h;rcases auK h with h|h
 ·rcases auK h with h|h
  ·exact h
  ·rw[h,aoE,aoI hj];exact aoR hj
 ·rw[h,aoE,aoI hi];exact aoR hi
theorem wQ {ps:List Pc}(hi:i < ps.length):ps.getD i pd∈ps:=by
 rw[aoE,aoI hi];exact aoR hi
theorem WX {ps:List Pc}(hi:i < ps.length):(pcW ps)[i]?=aw (ps.getD i pd).1:=by
 unfold pcW;rw[asE,aoE,aoI hi];rfl
theorem sM {g n:Nat}(hi:i < n)(W:ak):(mIA 341 (.slice (aw ⟨g,0,av⟩) n cap) (.int .i64 (i:Int))).run ah W=.ok (.value (.pointer (aw ⟨g,i,av⟩))) W:=by
 have:=dZ (P:=ah) (T:=341) (b:=g) (off:=0) (cap:=cap) (n:=n) (k:=.i64) (i:=(i:Int)) (w:=W) aqT GN om om
 rwa [aoF,aoS,aoN] at this
theorem Cv {g n:Nat}{ps:List Pc}(h:(pcE (.slice (aw ⟨g,0,av⟩) n cap) ps).is W)(hi:i < ps.length):(aJ 342 (.pointer (aw ⟨g,i,av⟩))).run ah W=.ok (.value (ps.getD i pd).1) W:=by
 obtain⟨b',off',cap',e,h2⟩:=bY (Sl.urow h) om
 injection e with e1 e2 e3
 injection e1 with e1
 have hg:=congrArg Addr.block e1;have hof:=congrArg Addr.off e1;dsimp only at hg hof;subst hg;subst hof;have:=h2 i _ (WX hi);rw[aoN] at this;exact aB Nu this
section
variable {w:ak}{PK PK2 PK3:PKT}{K:VWP}{S:Nat->Prop}{w0:ak}{L T:List Ent}
theorem WT {ps:List Pc}{x:Pc}(hi:i < ps.length):(pcW ps).take i++[x.1]++(pcW ps).drop (i+[x.1].length)=pcW (ps.set i x):=by
 unfold pcW;rw[atQ,awL,anX (by simpa using hi)];simp
theorem o_sw {g:Nat}{ps:List Pc}{N:ak->Prop}{ok:Pc->Prop}(hc:CmpOk M cv ok)(ho:OwnS S w0 w (pcE (.slice (aw ⟨g,0,av⟩) ps.length cap) ps::T))(hok:∀x∈ps,ok x)(hi:i < ps.length)(hj:j < ps.length)
  (k:∀W,OwnS S w0 W (pcE (.slice (aw ⟨g,0,av⟩) ps.length cap) (Srt.sw pd ps i j)::T)->N W) :
  DoX ah (aV 342 (.pointer (aw ⟨g,i,av⟩)) (ps.getD j pd).1) w PK λ_ w=>DoX ah (mIA 341 (.slice (aw ⟨g,0,av⟩) ps.length cap) (.int .i64 (j:Int))) w PK2 λt w=>DoX ah (aV 342 t (ps.getD i pd).1) w PK3 λ_ w=>N w:=by
 obtain⟨o1,c1⟩:=hc.ptr _ (hok _ (wQ hi));obtain⟨o2,c2⟩:=hc.ptr _ (hok _ (wQ hj));refine FB (sz:=1) (new:=[(ps.getD j pd).1]) 0 ho rfl (by rw[c2]) GN (λu hu=>by rw[aoZ.1 hu];exact o2) (by simp;omega) λW1 ho=>?_;have ho:OwnS S w0 W1 (.urow 342 1 (.slice (aw ⟨g,0,av⟩) (ps.set i (ps.getD j pd)).length cap) (ps.set i (ps.getD j pd)).length (pcW (ps.set i (ps.getD j pd)))::T):=by
  rw[<-WT hi,aqM];exact ho
 have hj2:j < (ps.set i (ps.getD j pd)).length:=by rw[aqM];exact hj
 refine aC (sM hj W1) |>.mpr ?_;refine FB (sz:=1) (new:=[(ps.getD i pd).1]) 0 ho rfl (by rw[c1]) GN (λu hu=>by rw[aoZ.1 hu];exact o1) (by simp;omega) λW2 ho=>?_;refine k W2 ?_;unfold Srt.sw pcE;rw[<-WT hj2];have e:((ps.set i (ps.getD j pd)).set j (ps.getD i pd)).length=(ps.set i (ps.getD j pd)).length:=aqM;rw[e];have e2:(ps.set i (ps.getD j pd)).length=ps.length:=aqM;rw[e2] at ho ⊢;exact ho
theorem aeJ {g n a:Nat}{ps:List Pc}{cv2:ao}{ok:Pc->Prop}(hc:CmpOk M cv2 ok)(ho:OwnS S w0 w (pcE (.slice (aw ⟨g,0,av⟩) ps.length cap) ps::T))(hok:∀x∈ps,ok x)(ha:a+n<=ps.length)(hb:b+n<=ps.length)(hl:ps.length<=1000000000)
  (k:∀W,(∀x∈Srt.swr pd n a b ps,ok x)->OwnS S w0 W (pcE (.slice (aw ⟨g,0,av⟩) ps.length cap) (Srt.swr pd n a b ps)::T)->K (.tuple #[]) W) :
  CallX ah 368 #[.slice (aw ⟨g,0,av⟩) ps.length cap,.int .i64 (a:Int),.int .i64 (b:Int),.int .i64 (n:Int),cv] w PK K:=by
 generalize hR:Srt.swr pd n a b ps=R at k;refine eW (eY (k0:=RetK λv W=>v=.tuple #[]∧(∀x∈R,ok x)∧OwnS S w0 W (pcE (.slice (aw ⟨g,0,av⟩) ps.length cap) R::T)) ?_) (λe W ⟨v,he,hv,h1,ho⟩=>by subst he;subst hv;exact k W h1 ho);unfold dF nz;generalize hN:ps.length=N at *;refine loop (λvs W=>∃(i:Nat) (zs:List Pc),vs=[.int .i64 (i:Int)]∧i<=n∧zs.length=N∧(∀x∈zs,ok x)∧Srt.swr pd (n - i) (a+i) (b+i) zs=R∧OwnS S w0 W (pcE (.slice (aw ⟨g,0,av⟩) N cap) zs::T)) (λvs _=>n - n0 vs) ⟨0,ps,rfl,om,hN,hok,hR,ho⟩ ?_;clear ho;rintro vs w1 ⟨i,zs,rfl,hi,hz,hzo,hX,ho⟩ _;simp only[cT,gd,rs,iN,bnx];by_cases hlt:(i:Int) < (n:Int)
 ·simp only[hlt,aoA,i_t];obtain⟨m,hm⟩:∃m,n - i=m+1:=⟨n - i - 1,om⟩;rw[hm] at hX;unfold Srt.swr at hX;refine cR (λW=>OwnS S w0 W (pcE (.slice (aw ⟨g,0,av⟩) N cap) zs::T)) ho.drew ?_;refine p_do _ (λ_=>OB) ?_;rw[aA om om,show (b:Int)+(i:Int)=((b+i:Nat):Int) by omega];refine iV ?_;rw[aA om om,show (a:Int)+(i:Int)=((a+i:Nat):Int) by omega];refine iV ?_;rw[aA om om,show (b:Int)+(i:Int)=((b+i:Nat):Int) by omega];refine q_do _ (λW=>sM om W) (q_at _ (λW h=>Cv (h.at_ 0 rfl) om) ?_);refine iV ?_;rw[aA om om,show (a:Int)+(i:Int)=((a+i:Nat):Int) by omega];refine q_do _ (λW=>sM om W) (q_at _ (λW h=>Cv (h.at_ 0 rfl) om) ?_);refine q_do _ (λW=>sM om W) ?_;intro w2 ho;subst hz;refine o_sw hc ho hzo om om λw3 ho=>?_
  try simp only[rs]
  rw[aA om om];refine aQ ⟨i+1,Srt.sw pd zs (a+i) (b+i),rfl,om,Srt.HE,λx hx=>hzo x (nd om om hx),?_,ho⟩ (by simp[n0,RowKit.intOf];omega);rw[show n - (i+1)=m by omega];exact hX
 ·simp only[hlt,aoB,i_f];rw[show n - i=0 by omega] at hX;unfold Srt.swr at hX;subst hX;exact retK ⟨rfl,hzo,ho⟩
end
end
section
open Eng Go.RowKit
section
variable {w:ak}{PK PK2 PK3:PKT}{K:VWP}{S:Nat->Prop}{w0:ak}{L T:List Ent}
theorem anM {g a N:Nat}{ps:List Pc}{cv2:ao}{ok:Pc->Prop}(hc:CmpOk M cv2 ok)(hN:ps.length=N)(ho:OwnS S w0 w (pcE (.slice (aw ⟨g,0,av⟩) N cap) ps::T))(hok:∀x∈ps,ok x)(ha:a < m)(hm:m < b)(hb:b<=N)(hl:N<=1000000000)
  (k:∀W,(∀x∈Srt.rot pd (b - a) (m - a) (b - m) m ps,ok x)->OwnS S w0 W (pcE (.slice (aw ⟨g,0,av⟩) N cap) (Srt.rot pd (b - a) (m - a) (b - m) m ps)::T)->K (.tuple #[]) W) :
  CallX ah 367 #[.slice (aw ⟨g,0,av⟩) N cap,.int .i64 (a:Int),.int .i64 (m:Int),.int .i64 (b:Int),cv] w PK K:=by
 generalize hR:Srt.rot pd (b - a) (m - a) (b - m) m ps=R at k;refine eW (fM (k0:=RetK λv W=>v=.tuple #[]∧(∀x∈R,ok x)∧OwnS S w0 W (pcE (.slice (aw ⟨g,0,av⟩) N cap) R::T)) ?_) (λe W ⟨v,he,hv,h1,ho⟩=>by subst he;subst hv;exact k W h1 ho);unfold dV nz;simp only[rs];rw[aA om om,aA om om,show (m:Int) - (a:Int)=((m - a:Nat):Int) by omega,show (b:Int) - (m:Int)=((b - m:Nat):Int) by omega];refine loop (λvs W=>∃(i j f:Nat) (zs:List Pc),vs=[.int .i64 (i:Int),.int .i64 (j:Int)]∧i+j<=f∧0 < i∧0 < j∧i<=m∧m+j<=N∧zs.length=N∧(∀x∈zs,ok x)∧Srt.rot pd f i j m zs=R∧OwnS S w0 W (pcE (.slice (aw ⟨g,0,av⟩) N cap) zs::T)) (λvs _=>n0 vs+n1 vs) ⟨m - a,b - m,b - a,ps,rfl,om,om,om,om,om,hN,hok,hR,ho⟩ ?_;clear ho;rintro vs w1 ⟨i,j,f,zs,rfl,hf,hi,hj,him,hjn,hz,hzo,hX,ho⟩ _;simp only[dN,gd,rs,nz];obtain⟨f,rfl⟩:∃q,f=q+1:=⟨f - 1,om⟩;unfold Srt.rot at hX;subst hz;by_cases he:i=j
 ·subst he;simp only[show ai ((i:Int)≠(i:Int))=aq from anY sm,i_f];rw[anX rfl] at hX;rw[aA om om,show (m:Int) - (i:Int)=((m - i:Nat):Int) by omega];refine aeJ hc ho hzo om om om λw2 h1 ho=>?_;rw[hX] at h1 ho;exact retK ⟨rfl,h1,ho⟩
 ·rw[anW he] at hX;simp only[show ai ((i:Int)≠(j:Int))=au from anZ om,i_t];by_cases hlt:j < i
  ·rw[anX hlt] at hX;simp only[show ai ((j:Int) < (i:Int))=au from anZ om,i_t];rw[aA om om,show (m:Int) - (i:Int)=((m - i:Nat):Int) by omega];refine aeJ hc ho hzo om om om λw2 h1 ho=>?_
   try simp only[rs]
   rw[aA om om,show (i:Int) - (j:Int)=((i - j:Nat):Int) by omega];exact aQ ⟨i - j,j,f,_,rfl,om,om,om,om,om,Srt.Gh _ _ _ _,h1,hX,ho⟩ (by simp[n0,n1,RowKit.intOf];omega)
  ·rw[anW hlt] at hX;simp only[show ai ((j:Int) < (i:Int))=aq from anY om,i_f];rw[aA (n:=(m:Int) - (i:Int)) om om,aA (n:=(m:Int)+(j:Int)) om om,aA (n:=(m:Int)+(j:Int) - (i:Int)) om om,show (m:Int) - (i:Int)=((m - i:Nat):Int) by omega,show (m:Int)+(j:Int) - (i:Int)=((m+j - i:Nat):Int) by omega];refine aeJ hc ho hzo om om om λw2 h1 ho=>?_
   try simp only[rs]
   rw[aA om om,show (j:Int) - (i:Int)=((j - i:Nat):Int) by omega];exact aQ ⟨i,j - i,f,_,rfl,om,om,om,om,om,Srt.Gh _ _ _ _,h1,hX,ho⟩ (by simp[n0,n1,RowKit.intOf];omega)
theorem ahD {g a N:Nat}{ps:List Pc}{ok:Pc->Prop}(hc:CmpOk M cv ok)(hm:T[jm]?=aw (.mem M))(hN:ps.length=N)(ho:OwnS S w0 w (pcE (.slice (aw ⟨g,0,av⟩) N cap) ps::T))(hok:∀x∈ps,ok x)(hb:b<=N)(ha:a<=N)(hl:N<=1000000000)
  (k:∀W,(∀x∈Srt.ins pd pw ps a b,ok x)->OwnS S w0 W (pcE (.slice (aw ⟨g,0,av⟩) N cap) (Srt.ins pd pw ps a b)::T)->K (.tuple #[]) W) :
  CallX ah 365 #[.slice (aw ⟨g,0,av⟩) N cap,.int .i64 (a:Int),.int .i64 (b:Int),cv] w PK K:=by
 unfold Srt.ins at k;generalize hR:Srt.insI pd pw a (b - (a+1)) (a+1) ps=R at k;refine eW (eO (k0:=RetK λv W=>v=.tuple #[]∧(∀x∈R,ok x)∧OwnS S w0 W (pcE (.slice (aw ⟨g,0,av⟩) N cap) R::T)) ?_) (λe W ⟨v,he,hv,h1,ho⟩=>by subst he;subst hv;exact k W h1 ho);unfold cO nz;obtain⟨cf,cfa,cca,hcv,hcp,hcr⟩:=hc.run;have hm2:∀{W:ak} {e:Ent},OwnS S w0 W (e::T)->M.has W:=λho=>ho.hasM (jm+1) (by rw[apW];exact hm);simp only[rs];rw[aA om om];refine loop (λvs W=>∃(i:Nat) (zs:List Pc),vs=[.int .i64 (i:Int)]∧a+1<=i∧i<=max b (a+1)∧zs.length=N∧(∀x∈zs,ok x)∧Srt.insI pd pw a (b - i) i zs=R∧OwnS S w0 W (pcE (.slice (aw ⟨g,0,av⟩) N cap) zs::T)) (λvs _=>b - n0 vs) ⟨a+1,ps,rfl,om,om,hN,hok,hR,ho⟩ ?_;clear ho;rintro vs w1 ⟨i,zs,rfl,hi,hib,hz,hzo,hX,ho⟩ _;simp only[cF,gd,rs,nz];by_cases hlt:(i:Int) < (b:Int)
 ·simp only[hlt,aoA,i_t];obtain⟨q,hq⟩:∃q,b - i=q+1:=⟨b - i - 1,om⟩;rw[hq] at hX;unfold Srt.insI at hX;refine loop (λvs W=>∃(j:Nat) (zs:List Pc),vs=[.int .i64 (j:Int)]∧a<=j∧j<=i∧zs.length=N∧(∀x∈zs,ok x)∧Srt.insI pd pw a q (i+1) (Srt.insJ pd pw a j zs)=R∧OwnS S w0 W (pcE (.slice (aw ⟨g,0,av⟩) N cap) zs::T)) (λvs _=>n0 vs) ⟨i,zs,rfl,om,om,hz,hzo,hX,ho⟩ ?_;clear ho hX hzo hz;rintro vs w2 ⟨j,zs,rfl,haj,hji,hz,hzo,hX,ho⟩ _;simp only[cG,gd,iN,bnx];have stop:∀W,Srt.insJ pd pw a j zs=zs->OwnS S w0 W (pcE (.slice (aw ⟨g,0,av⟩) N cap) zs::T)->It (λvs W=>∃(i:Nat) (zs:List Pc),vs=[.int .i64 (i:Int)]∧a+1<=i∧i<=max b (a+1)∧zs.length=N∧(∀x∈zs,ok x)∧Srt.insI pd pw a (b - i) i zs=R∧OwnS S w0 W (pcE (.slice (aw ⟨g,0,av⟩) N cap) zs::T)) (λvs _=>b - n0 vs) [.int .i64 (i:Int)] w1 [.int .i64 (IntKind.i64.wrap ((i:Int)+1))] W:=by
   intro W he ho;rw[aA om om];rw[he] at hX;refine aQ ⟨i+1,zs,rfl,om,om,hz,hzo,?_,ho⟩ (by simp[n0,RowKit.intOf];omega);rw[show b - (i+1)=q by omega];exact hX
  refine cR (λW=>OwnS S w0 W (pcE (.slice (aw ⟨g,0,av⟩) N cap) zs::T)) ho.drew ?_;refine acK ?_;by_cases hj:a < j
  ·obtain⟨j,rfl⟩:∃p,j=p+1:=⟨j - 1,om⟩;rw[anZ (show (a:Int) < ((j+1:Nat):Int) by omega)];simp only[gq];refine q_do _ (λW=>sM om W) (q_at _ (λW h=>Cv (h.at_ 0 rfl) om) ?_);refine q_do _ (λ_=>AH) ?_;rw[aA om om,show ((j+1:Nat):Int) - 1=(j:Int) by omega];refine q_do _ (λW=>sM om W) (q_at _ (λW h=>Cv (h.at_ 0 rfl) om) ?_);subst hcv;refine XS hcp (.int .i64 (cmpI (pw (zs.getD (j+1) pd)) (pw (zs.getD j pd)))) (λW h=>(hcr W _ _ (hm2 h) (hzo _ (wQ om)) (hzo _ (wQ om))).mono λv w' r=>⟨r.1,h.grow r.2⟩) ?_;refine Nj (q_pt ?_);rw[Nd];intro w3 ho;unfold Srt.insJ at hX stop;by_cases hl2:pw (zs.getD (j+1) pd) < pw (zs.getD j pd)
   ·rw[anX ⟨hj,anZ hl2⟩] at hX;simp only[hl2,aoA,i_t];refine cR (λW=>OwnS S w0 W (pcE (.slice (aw ⟨g,0,av⟩) N cap) zs::T)) ho.drew ?_;refine p_do _ (λ_=>AH) ?_;rw[aA om om,show ((j+1:Nat):Int) - 1=(j:Int) by omega];refine q_do _ (λ_=>AH) ?_;rw[aA om om,show ((j+1:Nat):Int) - 1=(j:Int) by omega];refine q_do _ (λW=>sM om W) (q_at _ (λW h=>Cv (h.at_ 0 rfl) om) ?_);refine q_do _ (λW=>sM om W) (q_at _ (λW h=>Cv (h.at_ 0 rfl) om) ?_);refine q_do _ (λW=>sM om W) ?_;intro w4 ho;subst hz;refine o_sw hc ho hzo om om λw5 ho=>?_
    try simp only[rs]
    rw[aA om om,show ((j+1:Nat):Int) - 1=(j:Int) by omega];exact aQ ⟨j,_,rfl,om,om,Srt.HE,λx hx=>hzo x (nd om om hx),hX,ho⟩ (by simp[n0,RowKit.intOf])
   ·simp only[hl2,aoB,i_f,rs];exact stop w3 (anW λh=>hl2 (aoU h.2)) ho
  ·rw[anY (show ¬(a:Int) < (j:Int) by omega)];simp only[gq];refine q_pf ?_;intro w3 ho;simp only[i_f,rs];refine stop w3 ?_ ho;cases j with
  |zero=>rfl
  |succ j=>
    unfold Srt.insJ;rw[anW (λh=>hj h.1)]
 ·simp only[hlt,aoB,i_f];rw[show b - i=0 by omega] at hX;unfold Srt.insI at hX;subst hX;exact retK ⟨rfl,hzo,ho⟩
end
end
section
open Eng Go.RowKit
theorem pz {wt:α->Nat}{x y:α}(h:wt x < wt y):Srt.lt wt x y=true:=anZ h
theorem qa {wt:α->Nat}{x y:α}(h:¬wt x < wt y):¬Srt.lt wt x y=true:=λk=>h (aoU k)
section
variable {w:ak}{PK PK2 PK3:PKT}{K:VWP}{S:Nat->Prop}{w0:ak}{L T:List Ent}
theorem aaI {b:Bool}:(mUn .not (.bool b)).run P W=.ok (.value (.bool (!b))) W:=bK (by simp[Op.unary])
theorem Rk {n:Nat}(h:n<=4000000000):DoX ah (fA 3 84 (.int .i64 (n:Int))) w PK (λt w=>DoX ah (mBin .shr 84 t (.int .u64 1)) w PK2 λt w=>DoX ah (fA 84 3 t) w PK3 K)=K (.int .i64 ((n / 2:Nat):Int)) w:=by
 rw[TS (show (Tryz.prog.underlying 3).isSome=au by kernel_rfl) arW,FC om,shr1 om om,
  TS (show (Tryz.prog.underlying 84).isSome=au by kernel_rfl) apH,aA om om]
 rfl
theorem XD {g cap N jm:Nat}{cv:ao}{ok:Pc->Prop}{M:Mem}(hc:CmpOk M cv ok)(hm:T[jm]?=aw (.mem M))(hl:N<=1000000000):∀(f a m b:Nat) {w:ak} {PK:PKT} {K:VWP} {ps:List Pc},b - a<=f->a < m->m < b->b<=N->ps.length=N->OwnS S w0 w (pcE (.slice (aw ⟨g,0,av⟩) N cap) ps::T)->(∀x∈ps,ok x) ->
  (∀W,(∀x∈Srt.sym pd pw f a m b ps,ok x)->OwnS S w0 W (pcE (.slice (aw ⟨g,0,av⟩) N cap) (Srt.sym pd pw f a m b ps)::T)->K (.tuple #[]) W) ->
  CallX ah 366 #[.slice (aw ⟨g,0,av⟩) N cap,.int .i64 (a:Int),.int .i64 (m:Int),.int .i64 (b:Int),cv] w PK K
|0,a,m,b,_,_,_,_,hf,ham,hmb,_,_,_,_,_=>by omega
|f+1,a,m,b,w,PK,K,ps,hf,ham,hmb,hbN,hN,ho,hok,k=>by
  generalize hR:Srt.sym pd pw (f+1) a m b ps=R at k;refine eW (fF (k0:=RetK λv W=>v=.tuple #[]∧(∀x∈R,ok x)∧OwnS S w0 W (pcE (.slice (aw ⟨g,0,av⟩) N cap) R::T)) ?_) (λe W ⟨v,he,hv,h1,ho⟩=>by subst he;subst hv;exact k W h1 ho);unfold dJ nz;obtain⟨cf,cfa,cca,hcv,hcp,hcr⟩:=hc.run;have hm2:∀{W:ak} {e:Ent},OwnS S w0 W (e::T)->M.has W:=λho=>ho.hasM (jm+1) (by rw[apW];exact hm);have cmp:∀{C:ao->Prop} {zs:List Pc} {i j:Nat},zs.length=N->(∀x∈zs,ok x)->i < N->j < N->C (.int .i64 (cmpI (pw (zs.getD i pd)) (pw (zs.getD j pd))))->QDo ah (λW=>OwnS S w0 W (pcE (.slice (aw ⟨g,0,av⟩) N cap) zs::T)) (gK cv #[(zs.getD i pd).1,(zs.getD j pd).1]) C:=by
   intro C zs i j hz hzo hi hj hC;subst hcv;exact XS hcp _ (λW h=>(hcr W _ _ (hm2 h) (hzo _ (wQ om)) (hzo _ (wQ om))).mono λv w' r=>⟨r.1,h.grow r.2⟩) hC
  unfold Srt.sym at hR;simp only[rs];rw[aA om om,show (m:Int) - (a:Int)=((m - a:Nat):Int) by omega];by_cases h1:m - a=1
  ·rw[anX h1] at hR;simp only[show ai (((m - a:Nat):Int)=1)=au from anZ om,i_t];generalize hs:Srt.bs (λh=>!Srt.lt pw (ps.getD h pd) (ps.getD a pd)) (b - m) m b=s at hR;refine loop (λvs W=>∃(i j f:Nat),vs=[.int .i64 (i:Int),.int .i64 (j:Int)]∧m<=i∧i<=j∧j<=b∧j - i<=f∧Srt.bs (λh=>!Srt.lt pw (ps.getD h pd) (ps.getD a pd)) f i j=s∧OwnS S w0 W (pcE (.slice (aw ⟨g,0,av⟩) N cap) ps::T)) (λvs _=>n1 vs - n0 vs) ⟨m,b,b - m,rfl,om,om,om,om,hs,ho⟩ ?_;clear ho hs;rintro vs w1 ⟨i,j,f',rfl,hi,hij,hj,hfl,hX,ho⟩ _;simp only[dE,gd,rs,nz];by_cases hlt:(i:Int) < (j:Int)
   ·simp only[hlt,aoA,i_t];obtain⟨f',rfl⟩:∃q,f'=q+1:=⟨f' - 1,om⟩;unfold Srt.bs at hX;rw[anX om] at hX;rw[aA om om,show (i:Int)+(j:Int)=((i+j:Nat):Int) by omega,Rk om];refine cR (λW=>OwnS S w0 W (pcE (.slice (aw ⟨g,0,av⟩) N cap) ps::T)) ho.drew ?_;refine q_do _ (λW=>sM om W) (q_at _ (λW h=>Cv (h.at_ 0 rfl) om) ?_);refine q_do _ (λW=>sM om W) (q_at _ (λW h=>Cv (h.at_ 0 rfl) om) ?_);refine cmp hN hok om om (Nj ?_);rw[Nd];intro w2 ho;by_cases hl2:pw (ps.getD ((i+j) / 2) pd) < pw (ps.getD a pd)
    ·rw[anW (by have e:Srt.lt pw (ps.getD ((i+j) / 2) pd) (ps.getD a pd)=true:=anZ hl2;rw[e];decide)] at hX;simp only[hl2,aoA,i_t,rs];rw[aA om om,show (((i+j) / 2:Nat):Int)+1=(((i+j) / 2+1:Nat):Int) by omega];exact aQ ⟨(i+j) / 2+1,j,f',rfl,om,om,om,om,hX,ho⟩ (by simp[n0,n1,RowKit.intOf];omega)
    ·rw[anX (by have e:Srt.lt pw (ps.getD ((i+j) / 2) pd) (ps.getD a pd)=false:=anY hl2;rw[e];rfl)] at hX;simp only[hl2,aoB,i_f];exact aQ ⟨i,(i+j) / 2,f',rfl,om,om,om,om,hX,ho⟩ (by simp[n0,n1,RowKit.intOf];omega)
   ·simp only[hlt,aoB,i_f];have hsi:s=i:=by
     rw[<-hX];cases f' with
    |zero=>rfl
    |succ q=>unfold Srt.bs;rw[anW om]
    subst hsi;refine loop (λvs W=>∃(q:Nat) (zs:List Pc),vs=[.int .i64 (q:Int)]∧a<=q∧(q<=s - 1∨q=a)∧zs.length=N∧(∀x∈zs,ok x)∧Srt.up pd (s - 1 - q) q zs=R∧OwnS S w0 W (pcE (.slice (aw ⟨g,0,av⟩) N cap) zs::T)) (λvs _=>s - n0 vs) ⟨a,ps,rfl,om,.inr rfl,hN,hok,hR,ho⟩ ?_;clear ho;rintro vs w2 ⟨q,zs,rfl,hq,hqs,hz,hzo,hX2,ho⟩ _;simp only[cZ,gd,rs,iN,bnx];rw[aA (n:=(s:Int) - 1) om om];by_cases hlt2:(q:Int) < (s:Int) - 1
    ·simp only[hlt2,aoA,i_t];obtain⟨r,hr⟩:∃r,s - 1 - q=r+1:=⟨s - 1 - q - 1,om⟩;rw[hr] at hX2;unfold Srt.up at hX2;refine cR (λW=>OwnS S w0 W (pcE (.slice (aw ⟨g,0,av⟩) N cap) zs::T)) ho.drew ?_;refine p_do _ (λ_=>OB) ?_;rw[aA om om,show (q:Int)+1=((q+1:Nat):Int) by omega];refine iV ?_;rw[aA om om,show (q:Int)+1=((q+1:Nat):Int) by omega];refine q_do _ (λW=>sM om W) (q_at _ (λW h=>Cv (h.at_ 0 rfl) om) ?_);refine q_do _ (λW=>sM om W) (q_at _ (λW h=>Cv (h.at_ 0 rfl) om) ?_);refine q_do _ (λW=>sM om W) ?_;intro w3 ho;subst hz;refine o_sw hc ho hzo om om λw4 ho=>?_
     try simp only[rs]
     try rw[aA (n:=(q:Int)+1) om om,show (q:Int)+1=((q+1:Nat):Int) by omega]
     refine aQ ⟨q+1,_,rfl,om,.inl om,Srt.HE,λx hx=>hzo x (nd om om hx),?_,ho⟩ (by simp[n0,RowKit.intOf];omega);rw[show s - 1 - (q+1)=r by omega];exact hX2
    ·simp only[hlt2,aoB,i_f];rw[show s - 1 - q=0 by omega] at hX2;unfold Srt.up at hX2;subst hX2;exact retK ⟨rfl,hzo,ho⟩
  rw[anW h1] at hR;simp only[show ai (((m - a:Nat):Int)=1)=aq from anY om,i_f];rw[aA om om,show (b:Int) - (m:Int)=((b - m:Nat):Int) by omega];by_cases h2:b - m=1
  ·rw[anX h2] at hR;simp only[show ai (((b - m:Nat):Int)=1)=au from anZ om,i_t];generalize hs:Srt.bs (λh=>Srt.lt pw (ps.getD m pd) (ps.getD h pd)) (m - a) a m=s at hR;refine loop (λvs W=>∃(i j f:Nat),vs=[.int .i64 (i:Int),.int .i64 (j:Int)]∧a<=i∧i<=j∧j<=m∧j - i<=f∧Srt.bs (λh=>Srt.lt pw (ps.getD m pd) (ps.getD h pd)) f i j=s∧OwnS S w0 W (pcE (.slice (aw ⟨g,0,av⟩) N cap) ps::T)) (λvs _=>n1 vs - n0 vs) ⟨a,m,m - a,rfl,om,om,om,om,hs,ho⟩ ?_;clear ho hs;rintro vs w1 ⟨i,j,f',rfl,hi,hij,hj,hfl,hX,ho⟩ _;simp only[dB,gd,rs,nz];by_cases hlt:(i:Int) < (j:Int)
   ·simp only[hlt,aoA,i_t];obtain⟨f',rfl⟩:∃q,f'=q+1:=⟨f' - 1,om⟩;unfold Srt.bs at hX;rw[anX om] at hX;rw[aA om om,show (i:Int)+(j:Int)=((i+j:Nat):Int) by omega,Rk om];refine cR (λW=>OwnS S w0 W (pcE (.slice (aw ⟨g,0,av⟩) N cap) ps::T)) ho.drew ?_;refine q_do _ (λW=>sM om W) (q_at _ (λW h=>Cv (h.at_ 0 rfl) om) ?_);refine q_do _ (λW=>sM om W) (q_at _ (λW h=>Cv (h.at_ 0 rfl) om) ?_);refine cmp hN hok om om (Nj ?_);rw[Nd];refine q_do _ (λW=>aaI) ?_;intro w2 ho;by_cases hl2:pw (ps.getD m pd) < pw (ps.getD ((i+j) / 2) pd)
    ·rw[anX (pz hl2)] at hX;simp only[hl2,aoA,aqF,i_f];exact aQ ⟨i,(i+j) / 2,f',rfl,om,om,om,om,hX,ho⟩ (by simp[n0,n1,RowKit.intOf];omega)
    ·rw[anW (qa hl2)] at hX;simp only[hl2,aoB,aqD,i_t,rs];rw[aA om om,show (((i+j) / 2:Nat):Int)+1=(((i+j) / 2+1:Nat):Int) by omega];exact aQ ⟨(i+j) / 2+1,j,f',rfl,om,om,om,om,hX,ho⟩ (by simp[n0,n1,RowKit.intOf];omega)
   ·simp only[hlt,aoB,i_f];have hsi:s=i:=by
     rw[<-hX];cases f' with
    |zero=>rfl
    |succ q=>unfold Srt.bs;rw[anW om]
    subst hsi;refine loop (λvs W=>∃(q:Nat) (zs:List Pc),vs=[.int .i64 (q:Int)]∧s<=q∧q<=m∧zs.length=N∧(∀x∈zs,ok x)∧Srt.down pd (q - s) q zs=R∧OwnS S w0 W (pcE (.slice (aw ⟨g,0,av⟩) N cap) zs::T)) (λvs _=>n0 vs) ⟨m,ps,rfl,om,om,hN,hok,hR,ho⟩ ?_;clear ho;rintro vs w2 ⟨q,zs,rfl,hq,hqm,hz,hzo,hX2,ho⟩ _;simp only[cX,gd,rs,iN,bnx];by_cases hlt2:(s:Int) < (q:Int)
    ·simp only[hlt2,aoA,i_t];obtain⟨q,rfl⟩:∃p,q=p+1:=⟨q - 1,om⟩;obtain⟨r,hr⟩:∃r,q+1 - s=r+1:=⟨q - s,om⟩;rw[hr] at hX2;unfold Srt.down at hX2;rw[asU] at hX2;refine cR (λW=>OwnS S w0 W (pcE (.slice (aw ⟨g,0,av⟩) N cap) zs::T)) ho.drew ?_;refine p_do _ (λ_=>AH) ?_;rw[aA om om,show ((q+1:Nat):Int) - 1=(q:Int) by omega];refine q_do _ (λ_=>AH) ?_;rw[aA om om,show ((q+1:Nat):Int) - 1=(q:Int) by omega];refine q_do _ (λW=>sM om W) (q_at _ (λW h=>Cv (h.at_ 0 rfl) om) ?_);refine q_do _ (λW=>sM om W) (q_at _ (λW h=>Cv (h.at_ 0 rfl) om) ?_);refine q_do _ (λW=>sM om W) ?_;intro w3 ho;subst hz;refine o_sw hc ho hzo om om λw4 ho=>?_
     try simp only[rs]
     try rw[aA (n:=((q+1:Nat):Int) - 1) om om,show ((q+1:Nat):Int) - 1=(q:Int) by omega]
     refine aQ ⟨q,_,rfl,om,om,Srt.HE,λx hx=>hzo x (nd om om hx),?_,ho⟩ (by simp[n0,RowKit.intOf]);rw[show q - s=r by omega];exact hX2
    ·simp only[hlt2,aoB,i_f];rw[show q - s=0 by omega] at hX2;unfold Srt.down at hX2;subst hX2;exact retK ⟨rfl,hzo,ho⟩
  rw[anW h2] at hR;simp only[show ai (((b - m:Nat):Int)=1)=aq from anY om,i_f];rw[aA (n:=(a:Int)+(b:Int)) om om,show (a:Int)+(b:Int)=((a+b:Nat):Int) by omega,Rk om];dsimp only at hR;unfold Srt.symS at hR;generalize hmid:(a+b) / 2=mid at hR;simp only[rs];rw[aA (n:=(mid:Int)+(m:Int)) om om,show (mid:Int)+(m:Int)=((mid+m:Nat):Int) by omega];generalize hlo:(if mid < m then mid+m - b else a)=lo at hR;generalize hhi:(if mid < m then mid else m)=hi at hR;have hlo1:a<=lo∧mid+m - b<=lo∧(lo=a∨lo=mid+m - b):=by
   rw[<-hlo];split<;>omega
  have hhi1:hi<=m∧hi<=mid∧lo<=hi∧(hi=m∨hi=mid):=by
   rw[<-hhi,<-hlo];split<;>omega
  refine join λJ hJ=>?_;have fin:∀W,OwnS S w0 W (pcE (.slice (aw ⟨g,0,av⟩) N cap) ps::T)->J [.int .i64 (lo:Int),.int .i64 (hi:Int)] W:=by
   intro W ho;refine hJ _ _ λ_=>?_;simp only[dA,gd,rs,nz];rw[aA (n:=((mid+m:Nat):Int) - 1) om om,show ((mid+m:Nat):Int) - 1=((mid+m - 1:Nat):Int) by omega];generalize hs:Srt.bs (λc=>Srt.lt pw (ps.getD (mid+m - 1 - c) pd) (ps.getD c pd)) (b - a) lo hi=s at hR;refine loop (λvs W=>∃(i j f:Nat),vs=[.int .i64 (i:Int),.int .i64 (j:Int)]∧lo<=i∧i<=j∧j<=hi∧j - i<=f∧Srt.bs (λc=>Srt.lt pw (ps.getD (mid+m - 1 - c) pd) (ps.getD c pd)) f i j=s∧OwnS S w0 W (pcE (.slice (aw ⟨g,0,av⟩) N cap) ps::T)) (λvs _=>n1 vs - n0 vs) ⟨lo,hi,b - a,rfl,om,om,om,om,hs,ho⟩ ?_;clear ho hs;rintro vs w1 ⟨i,j,f',rfl,hi',hij,hj,hfl,hX,ho⟩ _;simp only[dD,gd,rs,nz];by_cases hlt:(i:Int) < (j:Int)
   ·simp only[hlt,aoA,i_t];obtain⟨f',rfl⟩:∃q,f'=q+1:=⟨f' - 1,om⟩;unfold Srt.bs at hX;rw[anX om] at hX;rw[aA (n:=(i:Int)+(j:Int)) om om,show (i:Int)+(j:Int)=((i+j:Nat):Int) by omega,Rk om];refine cR (λW=>OwnS S w0 W (pcE (.slice (aw ⟨g,0,av⟩) N cap) ps::T)) ho.drew ?_;refine q_do _ (λ_=>AH) ?_;rw[aA (n:=((mid+m - 1:Nat):Int) - (((i+j) / 2:Nat):Int)) om om,show ((mid+m - 1:Nat):Int) - (((i+j) / 2:Nat):Int)=((mid+m - 1 - (i+j) / 2:Nat):Int) by omega];refine q_do _ (λW=>sM om W) (q_at _ (λW h=>Cv (h.at_ 0 rfl) om) ?_);refine q_do _ (λW=>sM om W) (q_at _ (λW h=>Cv (h.at_ 0 rfl) om) ?_);refine cmp hN hok om om (Nj ?_);rw[Nd];refine q_do _ (λW=>aaI) ?_;intro w2 ho;by_cases hl2:pw (ps.getD (mid+m - 1 - (i+j) / 2) pd) < pw (ps.getD ((i+j) / 2) pd)
    ·rw[anX (pz hl2)] at hX;simp only[hl2,aoA,aqF,i_f];exact aQ ⟨i,(i+j) / 2,f',rfl,om,om,om,om,hX,ho⟩ (by simp[n0,n1,RowKit.intOf];omega)
    ·rw[anW (qa hl2)] at hX;simp only[hl2,aoB,aqD,i_t,rs];rw[aA om om,show (((i+j) / 2:Nat):Int)+1=(((i+j) / 2+1:Nat):Int) by omega];exact aQ ⟨(i+j) / 2+1,j,f',rfl,om,om,om,om,hX,ho⟩ (by simp[n0,n1,RowKit.intOf];omega)
   ·simp only[hlt,aoB,i_f];have hsi:s=i:=by
     rw[<-hX];cases f' with
    |zero=>rfl
    |succ q=>unfold Srt.bs;rw[anW om]
    subst hsi;rw[aA (n:=((mid+m:Nat):Int) - (s:Int)) om om,show ((mid+m:Nat):Int) - (s:Int)=((mid+m - s:Nat):Int) by omega];generalize he:mid+m - s=e at hR;have rot_ok:∀(zs x1:List Pc) (W1:ak),(if s < m∧m < e then Srt.rot pd (e - s) (m - s) (e - m) m ps else ps)=x1->True:=λ_ _ _ _=>trivial;generalize hx1:(if s < m∧m < e then Srt.rot pd (e - s) (m - s) (e - m) m ps else ps)=x1 at hR;refine join λJ2 hJ2=>?_;have fin2:∀W,x1.length=N->(∀x∈x1,ok x)->OwnS S w0 W (pcE (.slice (aw ⟨g,0,av⟩) N cap) x1::T)->J2 [] W:=by
     intro W hz1 hok1 ho;refine hJ2 _ _ λ_=>?_;simp only[cY,gd,rs,nz];generalize hx2:(if a < s∧s < mid then Srt.sym pd pw f a s mid x1 else x1)=x2 at hR;refine join λJ3 hJ3=>?_;have fin3:∀W,x2.length=N->(∀x∈x2,ok x)->OwnS S w0 W (pcE (.slice (aw ⟨g,0,av⟩) N cap) x2::T)->J3 [] W:=by
      intro W hz2 hok2 ho;refine hJ3 _ _ λ_=>?_;simp only[dC,gd,rs,nz];by_cases c1:mid < e
      ·simp only[show ai ((mid:Int) < (e:Int))=au from anZ om,rs];by_cases c2:e < b
       ·simp only[show ai ((e:Int) < (b:Int))=au from anZ om,i_t,rs];rw[anX ⟨c1,c2⟩] at hR;refine XD hc hm hl f mid e b om c1 c2 hbN hz2 ho hok2 λW h1 ho=>?_;rw[hR] at h1 ho;exact retK ⟨rfl,h1,ho⟩
       ·simp only[show ai ((e:Int) < (b:Int))=aq from anY om,i_f,rs];rw[anW (λh=>c2 h.2)] at hR;rw[hR] at hok2 ho;exact retK ⟨rfl,hok2,ho⟩
      ·simp only[show ai ((mid:Int) < (e:Int))=aq from anY om,i_f,rs];rw[anW (λh=>c1 h.1)] at hR;rw[hR] at hok2 ho;exact retK ⟨rfl,hok2,ho⟩
     by_cases c1:a < s
     ·simp only[show ai ((a:Int) < (s:Int))=au from anZ om,rs];by_cases c2:s < mid
      ·simp only[show ai ((s:Int) < (mid:Int))=au from anZ om,i_t,rs];rw[anX ⟨c1,c2⟩] at hx2;refine XD hc hm hl f a s mid om c1 c2 om hz1 ho hok1 λW h1 ho=>?_;rw[hx2] at h1 ho;exact fin3 W (by rw[<-hx2,Srt.Kh];exact hz1) h1 ho
      ·simp only[show ai ((s:Int) < (mid:Int))=aq from anY om,i_f,rs];rw[anW (λh=>c2 h.2)] at hx2;rw[hx2] at hz1 hok1 ho;exact fin3 W hz1 hok1 ho
     ·simp only[show ai ((a:Int) < (s:Int))=aq from anY om,i_f,rs];rw[anW (λh=>c1 h.1)] at hx2;rw[hx2] at hz1 hok1 ho;exact fin3 W hz1 hok1 ho
    by_cases c1:s < m
    ·simp only[show ai ((s:Int) < (m:Int))=au from anZ om,rs];by_cases c2:m < e
     ·simp only[show ai ((m:Int) < (e:Int))=au from anZ om,i_t,rs];rw[anX ⟨c1,c2⟩] at hx1;refine anM hc hN ho hok c1 c2 om hl λW h1 ho=>?_;rw[hx1] at h1 ho;exact fin2 W (by rw[<-hx1,Srt.Np];exact hN) h1 ho
     ·simp only[show ai ((m:Int) < (e:Int))=aq from anY om,i_f,rs];rw[anW (λh=>c2 h.2)] at hx1;subst hx1;exact fin2 w1 hN hok ho
    ·simp only[show ai ((s:Int) < (m:Int))=aq from anY om,i_f,rs];rw[anW (λh=>c1 h.1)] at hx1;subst hx1;exact fin2 w1 hN hok ho
  by_cases c:mid < m
  ·simp only[show ai ((mid:Int) < (m:Int))=au from anZ om,i_t,rs];rw[anX c] at hlo hhi;rw[aA (n:=((mid+m:Nat):Int) - (b:Int)) om om,show ((mid+m:Nat):Int) - (b:Int)=(lo:Int) by omega,show (mid:Int)=(hi:Int) by omega];exact fin w ho
  ·simp only[show ai ((mid:Int) < (m:Int))=aq from anY om,i_f,rs];rw[anW c] at hlo hhi;rw[show (a:Int)=(lo:Int) by omega,show (m:Int)=(hi:Int) by omega];exact fin w ho
end
end
section
open Eng Go.RowKit
section
variable {w:ak}{PK PK2 PK3:PKT}{K:VWP}{S:Nat->Prop}{w0:ak}{L T:List Ent}
theorem Yu {g N:Nat}{ok:Pc->Prop}{ps:List Pc}(hc:CmpOk M cv ok)(hm:T[jm]?=aw (.mem M))(hl:N<=100000000)(hN:ps.length=N)(ho:OwnS S w0 w (pcE (.slice (aw ⟨g,0,av⟩) N cap) ps::T))(hok:∀x∈ps,ok x)
  (k:∀W,(∀x∈Srt.LK pd pw ps,ok x)->OwnS S w0 W (pcE (.slice (aw ⟨g,0,av⟩) N cap) (Srt.LK pd pw ps)::T)->K (.tuple #[]) W) :
  CallX ah 361 #[.slice (aw ⟨g,0,av⟩) N cap,.int .i64 (N:Int),cv] w PK K:=by
 unfold Srt.LK at k;rw[hN] at k;generalize hR:Srt.rounds pd pw (N+1) 20 (Srt.blk pd pw 20 (N+1) 0 ps)=R at k;refine eW (fO (k0:=RetK λv W=>v=.tuple #[]∧(∀x∈R,ok x)∧OwnS S w0 W (pcE (.slice (aw ⟨g,0,av⟩) N cap) R::T)) ?_) (λe W ⟨v,he,hv,h1,ho⟩=>by subst he;subst hv;exact k W h1 ho);unfold dU nz;generalize hZ:Srt.blk pd pw 20 (N+1) 0 ps=Z at hR;refine loop (λvs W=>∃(a f:Nat) (zs:List Pc),vs=[.int .i64 (a:Int),.int .i64 ((a+20:Nat):Int)]∧a<=N∧N < a+f∧zs.length=N∧(∀x∈zs,ok x)∧Srt.blk pd pw 20 f a zs=Z∧OwnS S w0 W (pcE (.slice (aw ⟨g,0,av⟩) N cap) zs::T)) (λvs _=>N+20 - n0 vs) ⟨0,N+1,ps,rfl,om,om,hN,hok,hZ,ho⟩ ?_;clear ho hZ;rintro vs w1 ⟨a,f,zs,rfl,ha,hf,hz,hzo,hX,ho⟩ _;simp only[dK,gd,rs,nz];obtain⟨f,rfl⟩:∃q,f=q+1:=⟨f - 1,om⟩;unfold Srt.blk at hX;rw[hz] at hX;by_cases hlt:((a+20:Nat):Int)<=(N:Int)
 ·simp only[hlt,aoA,i_t];rw[anX om] at hX;refine ahD hc hm hz ho hzo om ha om λw2 h1 ho=>?_
  try simp only[rs]
  rw[aA om om];exact aQ ⟨a+20,f,_,by congr 2,om,om,by rw[Srt.Vh];exact hz,h1,hX,ho⟩ (by simp[n0,RowKit.intOf];omega)
 ·simp only[hlt,aoB,i_f];rw[anW om] at hX;refine ahD hc hm hz ho hzo om ha om λw2 h1 ho=>?_;rw[hX] at h1 ho;have hzl:Z.length=N:=by rw[<-hX,Srt.Vh];exact hz
  refine loop (λvs W=>∃(n f:Nat) (zs:List Pc),vs=[.int .i64 (n:Int)]∧1<=n∧N < f+n∧zs.length=N∧(∀x∈zs,ok x)∧Srt.rounds pd pw f n zs=R∧OwnS S w0 W (pcE (.slice (aw ⟨g,0,av⟩) N cap) zs::T)) (λvs _=>N - n0 vs) ⟨20,N+1,Z,rfl,om,om,hzl,h1,hR,ho⟩ ?_;clear ho hR hX h1 hzl;rintro vs w3 ⟨n,f2,zs,rfl,hn,hf2,hz,hzo,hX,ho⟩ _;simp only[dI,gd,rs,nz];by_cases hlt2:(n:Int) < (N:Int)
  ·simp only[hlt2,aoA,i_t];obtain⟨f2,rfl⟩:∃q,f2=q+1:=⟨f2 - 1,om⟩;unfold Srt.rounds at hX;rw[hz,anX om] at hX;rw[aA om om];generalize hY:Srt.mrg pd pw n (N+1) 0 zs=Y at hX;have back:∀W,Y.length=N->(∀x∈Y,ok x)->OwnS S w0 W (pcE (.slice (aw ⟨g,0,av⟩) N cap) Y::T)->It (λvs W=>∃(n f:Nat) (zs:List Pc),vs=[.int .i64 (n:Int)]∧1<=n∧N < f+n∧zs.length=N∧(∀x∈zs,ok x)∧Srt.rounds pd pw f n zs=R∧OwnS S w0 W (pcE (.slice (aw ⟨g,0,av⟩) N cap) zs::T)) (λvs _=>N - n0 vs) [.int .i64 (n:Int)] w3 [.int .i64 (IntKind.i64.wrap ((n:Int)*2))] W:=by
    intro W hy hyo ho;rw[aA om om,show (n:Int)*2=((2*n:Nat):Int) by omega];exact aQ ⟨2*n,f2,Y,rfl,om,om,hy,hyo,hX,ho⟩ (by simp[n0,RowKit.intOf];omega)
   refine loop (λvs W=>∃(a f:Nat) (zs:List Pc),vs=[.int .i64 (a:Int),.int .i64 ((a+2*n:Nat):Int)]∧a<=N∧N < a+f∧zs.length=N∧(∀x∈zs,ok x)∧Srt.mrg pd pw n f a zs=Y∧OwnS S w0 W (pcE (.slice (aw ⟨g,0,av⟩) N cap) zs::T)) (λvs _=>N+2*n - n0 vs) ⟨0,N+1,zs,by congr 3;omega,om,om,hz,hzo,hY,ho⟩ ?_;clear ho hY hzo hz;rintro vs w4 ⟨a2,f3,zs,rfl,ha2,hf3,hz,hzo,hX2,ho⟩ _;simp only[dL,gd,rs,nz];obtain⟨f3,rfl⟩:∃q,f3=q+1:=⟨f3 - 1,om⟩;unfold Srt.mrg at hX2;rw[hz] at hX2;rw[aA (n:=(a2:Int)+(n:Int)) om om,show (a2:Int)+(n:Int)=((a2+n:Nat):Int) by omega];by_cases hlt3:((a2+2*n:Nat):Int)<=(N:Int)
   ·simp only[hlt3,aoA,i_t];rw[anX om] at hX2;refine XD hc hm om (2*n) a2 (a2+n) (a2+2*n) om om om om hz ho hzo λw5 h1 ho=>?_
    try simp only[rs]
    rw[aA (n:=(2:Int)*(n:Int)) om om,aA om om];exact aQ ⟨a2+2*n,f3,_,by congr 4<;>omega,om,om,by rw[Srt.Kh];exact hz,h1,hX2,ho⟩ (by simp[n0,RowKit.intOf];omega)
   ·simp only[hlt3,aoB,i_f];rw[anW om] at hX2;refine join λJ hJ=>?_;have fin:∀W,Y.length=N->(∀x∈Y,ok x)->OwnS S w0 W (pcE (.slice (aw ⟨g,0,av⟩) N cap) Y::T)->J [] W:=by
     intro W h1 h2 ho;refine hJ _ _ λ_=>?_;simp only[dM,gd,rs,nz];exact back W h1 h2 ho
    by_cases c:a2+n < N
    ·simp only[show ai (((a2+n:Nat):Int) < (N:Int))=au from anZ om,i_t];rw[anX c] at hX2;refine XD hc hm om (N - a2) a2 (a2+n) N om om c om hz ho hzo λw5 h1 ho=>?_;rw[hX2] at h1 ho;exact fin w5 (by rw[<-hX2,Srt.Kh];exact hz) h1 ho
    ·simp only[show ai (((a2+n:Nat):Int) < (N:Int))=aq from anY om,i_f];rw[anW c] at hX2;rw[hX2] at hz hzo ho;exact fin w4 hz hzo ho
  ·simp only[hlt2,aoB,i_f];have hXe:zs=R:=by
    cases f2 with
   |zero=>exact hX
   |succ q=>
     unfold Srt.rounds at hX;rw[hz,anW om] at hX;exact hX
   rw[hXe] at hzo ho;exact retK ⟨rfl,hzo,ho⟩
theorem adM {g N:Nat}{ok:Pc->Prop}{ps:List Pc}(hc:CmpOk M cv ok)(hm:T[jm]?=aw (.mem M))(hl:N<=100000000)(hN:ps.length=N)(ho:OwnS S w0 w (pcE (.slice (aw ⟨g,0,av⟩) N cap) ps::T))(hok:∀x∈ps,ok x)
  (k:∀W qs,qs.Perm ps->Srt.srt pw qs->OwnS S w0 W (pcE (.slice (aw ⟨g,0,av⟩) N cap) qs::T)->K (.tuple #[]) W) :
  CallX ah 351 #[.slice (aw ⟨g,0,av⟩) N cap,cv] w PK K:=by
 refine⟨dH ?_⟩;unfold bO nz;rw[bG aqT];refine Yu hc hm hl hN ho hok λW h1 ho=>?_;obtain⟨p,q⟩:=Srt.Uj pd pw ps;exact k W _ p q ho
end
end
section
open Eng
def pY(t0 t1 t2 t8 w)(N1:JT)(K:KT):=nz f302 175 [N1] [nh 15 [8]] [] (zg [0,1,2,8] [t0,t1,t2,t8]) w K
def sW(t0 t1 t2 w)(K:KT):=nz f302 1 [] [(15,[8],λs v j w f=>pY (s 0) (s 1) (s 2) (vg v 0) w (f 0) K)] [] (zg [0,1,2] [t0,t1,t2]) w K
theorem Bt:sW t0 t1 t2 w k0->Calls ah 302 #[t0,t1,t2] w k0:=cz [] [(7,[8])] func302
def oT(t0 t1 w)(K:KT):=nz f329 1 [] [] [] (zg [0,1] [t0,t1]) w K
theorem sK:oT t0 t1 w k0->Calls ah 329 #[t0,t1] w k0:=cw func329
def zO(t9 t85 t86 t87 w)(N6:JT)(K:KT):=nz f298 45055 [N6] [nh 57 [87]] [] (zg [9,85,86,87] [t9,t85,t86,t87]) w K
def zI(t6 t9 t10 t72 t73 w)(N5:JT)(K:KT):=nz f298 22527 [N5] [nh 49 [10,73],(57,[87],λs v j w f=>zO (s 9) (s 85) (s 86) (vg v 0) w (f 0) K)] [] (zg [6,9,10,72,73] [t6,t9,t10,t72,t73]) w K
def zF(t1 t6 t9 w)(K:KT):=nz f298 511 [] [(49,[10,73],λs v j w f=>zI (s 6) (s 9) (vg v 0) (s 72) (vg v 1) w (f 0) K)] [] (zg [1,6,9] [t1,t6,t9]) w K
def zT(t6 t24 w)(N1:JT)(K:KT):=nz f298 1967 [N1] [nh 15 [6,24]] [] (zg [6,24] [t6,t24]) w K
def zN(t0 t1 t6 t22 t23 t24 w)(N1:JT)(K:KT):=nz f298 175 [N1] [nh 15 [6,24],(26,[6],λs v j w f=>zT (vg v 0) (s 24) w (f 0) K),(38,[],λs v j w f=>zF (s 1) (s 6) (s 9) w K)] [(18,8)] (zg [0,1,6,22,23,24] [t0,t1,t6,t22,t23,t24]) w K
def DH(t0 t1 w)(K:KT):=nz f298 1 [] [(15,[6,24],λs v j w f=>zN (s 0) (s 1) (vg v 0) (s 22) (s 23) (vg v 1) w (f 0) K)] [] (zg [0,1] [t0,t1]) w K
theorem GC:DH t0 t1 w k0->Calls ah 298 #[t0,t1] w k0:=cz [(13,[6]),(19,[])] [(7,[6,24]),(24,[10,73]),(28,[87])] func298
def uN(t0 t1 w)(K:KT):=nz f330 1 [] [] [] (zg [0,1] [t0,t1]) w K
theorem Bs:uN t0 t1 w k0->Calls ah 330 #[t0,t1] w k0:=cw func330
def ET(t0 t1 w)(K:KT):=nz f327 1 [] [] [] (zg [0,1] [t0,t1]) w K
theorem Ig:ET t0 t1 w k0->Calls ah 327 #[t0,t1] w k0:=cw func327
def Bu(t0 w)(K:KT):=nz f345 1 [] [] [] (zg [0] [t0]) w K
theorem Ey:Bu t0 w k0->Calls ah 345 #[t0] w k0:=cw func345
def Dz(b c a w)(N1:JT)(K:KT):=
 bnx .add 3 a (iN 1) w K λd w=>lnx 341 b w K λe w=>bnx .lss 3 d e w K λf w=>IfX f (QuietX w (λC2=>QDo ah C2 (mIA 341 b a) λg=>QDo ah C2 (aJ 342 g) λh=>QDo ah C2 (mNil h) λi=>QDo ah C2 (mFA 344 i 0) λj=>QDo ah C2 (aJ 3 j) λk=>QDo ah C2 (mBin .add 3 a (iN 1)) λl=>QDo ah C2 (mIA 341 b l) λm=>QDo ah C2 (aJ 342 m) λn=>QDo ah C2 (mNil n) λo=>QDo ah C2 (mFA 344 o 0) λp=>QDo ah C2 (aJ 3 p) λq=>QDo ah C2 (mBin .add 3 k q) λr=>QDo ah C2 (mIA 341 b a) λs=>QDo ah C2 (aJ 342 s) λt=>QDo ah C2 (mBin .add 3 a (iN 1)) λu=>QDo ah C2 (mIA 341 b u) λv=>QDo ah C2 (aJ 342 v) λx=>QDo ah C2 (bA 344 #[(0,r),(2,t),(3,x)]) λy=>
 ∀w,C2 w ->
 DoX ah (mBox 344 y) w (ax 9 (pk K)) λz w=>DoX ah (bF 341 1 #[(0,z)]) w (ax 9 (pk K)) λA w=>DoX ah (mB .append #[341,341] 341 #[aq,aq] #[c,A]) w (ax 9 (pk K)) λB w=>bnx .add 3 a (iN 2) w K λC w=>N1 [B,C] w)) (K (.returned c) w)
def Hp(t0 w)(K:KT):=nz f328 1 [] [(7,[3,4],λs v j w f=>Dz (s 0) (vg v 0) (vg v 1) w (f 0) K)] [] (zg [0] [t0]) w K
theorem Ke:Hp t0 w k0->Calls ah 328 #[t0] w k0:=cz [] [(3,[3,4])] func328
def fD(t0 t1 t2 w)(K:KT):=nz f344 1 [] [] [] (zg [0,1,2] [t0,t1,t2]) w K
theorem jS:fD t0 t1 t2 w k0->Calls ah 344 #[t0,t1,t2] w k0:=cw func344
def eQ(t0 t1 t2 w)(K:KT):=nz f352 1 [] [] [(1,8)] (zg [0,1,2] [t0,t1,t2]) w K
theorem iW:eQ t0 t1 t2 w k0->Calls ah 352 #[t0,t1,t2] w k0:=cw func352
end
end Go.Proofs.YtlipjfcbjemicaaGreatDoor
