/- Parts of the proof. -/
import Derived.Test.YtlipjfcbjemicaaGreatDoorRows
import Derived.Lib.Overlaps
import Derived.Laws.Externs
import Derived.Lib.Repeat
import Derived.Lib.Case
import Derived.Test.YtlipjfcbjemicaaGreatDoorMaihepbpi
set_option linter.all false
set_option maxRecDepth 20000
open Go.Proofs.Tryz
open Go.Proofs.Tryz renaming prog->ah
open Option renaming some->ax,none->aw
open Bool renaming true->av,false->au
open Go renaming Value->aq,World->ao
open Decidable renaming decide->ai
namespace Go.Proofs.YtlipjfcbjemicaaGreatDoor
variable{A:Nat->Prop}{C:ao->Prop}{K:VWP}{L:List Eng.Ent}{M:Eng.Mem}{P:Program}{PK:PKT}{T1 T2 U:TypeId}{W w w0:ao}{a way:Int}{args:Array aq}{b cap d f fb i j most p rb sz tb:Nat}{c v v2 va vc vk:aq}{cb:Array Bool}{cs news xs:List aq}{e:Eng.Ent}{k':IntKind}{key:List UInt8}{l:List Nat}{o:Ob}{q:Bool}{xo yo:Operand}{α:Type}{t0 t1 t2:aq}{k0:Eng.KT}
section
open Eng Go.RowKit
theorem asK:elB ah 9 1 16=true:=krx
theorem elOb:elB ah 25 6 88=true:=krx
theorem ajN:(Tryz.prog.info? 9).map (·.size)=ax 1:=krx
section
variable {w:ao}{S:Nat->Prop}{w0:ao}{L:List Ent}{PK:PKT}{K:VWP}
theorem agP (a:cH S w0 w L)(k:∀v w',cH S w0 w' (.urow 9 1 v 0 []::L)->K v w'):DoX ah (aT 22 0 #[]) w PK K:=
 bI (λb=>bR b 0 0 0) [] 9 (λ_=>by kernel_rfl) a λb c a=>k _ _ (a.toU 1 0 0 sm om om)
theorem aoD (a:cH S w0 w L)(k:∀v w',cH S w0 w' (.urow 25 6 v 0 []::L)->K v w'):DoX ah (aT 23 0 #[]) w PK K:=
 bI (λb=>bR b 0 0 0) [] 25 (λ_=>by kernel_rfl) a λb c a=>k _ _ (a.toU 6 0 0 sm om om)
theorem ZV (i:Nat){n m:Nat}(a:cH S w0 w L)(hi:L[i]?=ax (.urow 9 1 v n xs))(b:Sl w v2 1 m news)(c:∀u∈news,u.oneCell'=av)(d:n+m<=1000000000000)
  (k:∀v' w',cH S w0 w' (L.set i (.urow 9 1 v' (n+m) (xs++news)))->K v' w'):DoX ah (mB .append #[22,22] 22 cb #[v,v2]) w PK K:=
 bL i atN asK dc a hi b c om om k
theorem UD (i:Nat){n m:Nat}(a:cH S w0 w L)(hi:L[i]?=ax (.urow 25 6 v n xs))(b:Sl w v2 6 m news)(c:∀u∈news,u.oneCell'=av)(d:n+m<=1000000000000)
  (k:∀v' w',cH S w0 w' (L.set i (.urow 25 6 v' (n+m) (xs++news)))->K v' w'):DoX ah (mB .append #[23,23] 23 cb #[v,v2]) w PK K:=
 bL i atO elOb dc a hi b c om om k
end
theorem Sh {l:List aq}(h:∀u∈l,u.oneCell'=av):∀u∈l.drop i,u.oneCell'=true:=λu hu=>h u (awZ hu)
theorem R9 {l:List aq}(h:∀u∈l,u.oneCell'=av):∀u∈l.take i,u.oneCell'=true:=λu hu=>h u (avQ hu)
theorem SK (o x:Ob)(v u:aq)(key:List UInt8)(M:Mem)(w:ao)(hw:o.wt<=10000000000)(Y:M.has w)(Z:OV M.A M.w v o)(hu:OV M.A M.w u x)(hlen:o.keys.length=o.kids.length) :
  jJ ah 150 #[v,ae key,u] M w (λr N=>OV N.A N.w r (Vl.put o key x)):=by
 obtain⟨vk,vc,cs,rfl,d⟩:=Z.open;obtain⟨b,c,a1,rfl,y⟩:=hu.open;have a6:Ob.wts o.kids<=10000000000:=by cases o;rw[Ob.wt] at hw;simp only[Ob.kids];omega
 have a7:Pl.tot o.keys<=10000000000:=by cases o;rw[Ob.wt] at hw;simp only[Ob.keys];omega
 have a8:=Pl.iY o.keys;have b0:=Ob.vC o.kids;have p:=Vl.xV o.keys key;obtain⟨C,D,rfl,I⟩:=d.keys.form;obtain⟨ac,q,rfl,O⟩:=d.kids.form;refine aU Y λK hK=>Cd ?_;unfold tG nz;refine eI o d.keys.one d.kids.one (cH.memS Y) λi w1 a=>?_;refine eI x y.keys.one y.kids.one a λl w2 a=>?_;refine dM a λm w3 a=>?_;rw[lE,eN a 2 rfl];refine aJ a (R:=λv=>v=.tuple #[ad (Vl.place o.keys key:Nat),.bool (Vl.hit o.keys key)]) (Vq _ o.keys key w3 (d.keys.now (a.hasM 3 rfl)) om) ?_;rintro _ w4 rfl a;simp only[ex];refine agP a λv1 w5 a=>?_;rw[lE,eN a 3 rfl];refine aC (iW atN ajN om om) |>.mpr ?_;rw[atC];refine ZV 0 a rfl (Sl.upto (d.keys.now (a.hasM 4 rfl)) p) (R9 nA) om λv2 w6 a=>?_;rw[Hc,auI,atK] at a;have a:cH M.A w w6 [.urow 9 1 v2 (Vl.place o.keys key) (bF (o.keys.take (Vl.place o.keys key))),obE m ob0 cO cO,obE l x b c,obE i o (.slice C o.keys.length D) (.slice ac o.kids.length q),.mem M]:=a;refine aoD a λv3 w7 a=>?_;rw[jL,cX a 4 rfl];refine aC (iW atO LV om om) |>.mpr ?_;rw[atC];refine UD 0 a rfl (Sl.upto (d.kids.now (a.hasM 5 rfl)) om) (R9 (Em d.all)) om λv4 w8 a=>?_;rw[auI,atK] at a;have a:cH M.A w w8 [.urow 25 6 v4 (Vl.place o.keys key) (cs.take (Vl.place o.keys key*6)),.urow 9 1 v2 (Vl.place o.keys key) (bF (o.keys.take (Vl.place o.keys key))),obE m ob0 cO cO,obE l x b c,obE i o (.slice C o.keys.length D) (.slice ac o.kids.length q),.mem M]:=a;refine QD key a λnb w9 a=>?_;refine ZV 2 a rfl (a.sl 0 rfl 1 1 1 rfl) (by simp[Value.oneCell']) om λv5 P a=>?_;have a:=a.tail;have a:cH M.A w P [.urow 25 6 v4 (Vl.place o.keys key) (cs.take (Vl.place o.keys key*6)),.urow 9 1 v5 (Vl.place o.keys key+1) (bF (o.keys.take (Vl.place o.keys key))++[ae key]),obE m ob0 cO cO,obE l x b c,obE i o (.slice C o.keys.length D) (.slice ac o.kids.length q),.mem M]:=a;rw[iV a 3 rfl];refine Ga x y.keys.one y.kids.one a λb1 b2 a=>?_;refine UD 1 a rfl (a.sl 0 rfl 6 1 1 rfl) (yO _ y.keys.one y.kids.one) om λv6 E a=>?_;have a:=a.tail;have a:cH M.A w E [.urow 25 6 v6 (Vl.place o.keys key+1) (cs.take (Vl.place o.keys key*6)++obC x b c),.urow 9 1 v5 (Vl.place o.keys key+1) (bF (o.keys.take (Vl.place o.keys key))++[ae key]),obE m ob0 cO cO,obE l x b c,obE i o (.slice C o.keys.length D) (.slice ac o.kids.length q),.mem M]:=a;refine join λJ hJ=>?_;have fin:∀j:Nat,j=Vl.place o.keys key+(if Vl.hit o.keys key then 1 else 0)->j<=o.keys.length->J [ad (j:Int)] E:=by
  intro j hj Q;refine hJ _ _ λ_=>?_;simp only[pJ,gd,nz];rw[lE,eN a 4 rfl];refine aC (dD atN ajN om om) |>.mpr ?_;rw[atC];refine ZV 1 a rfl (Sl.from (d.keys.now (a.hasM 5 rfl)) Q I) (Sh nA) om λf S a=>?_;rw[Ht] at a;have a:cH M.A w S [.urow 25 6 v6 (Vl.place o.keys key+1) (cs.take (Vl.place o.keys key*6)++obC x b c),.urow 9 1 f (Vl.place o.keys key+1+(o.keys.length - j)) (bF (o.keys.take (Vl.place o.keys key))++[ae key]++bF (o.keys.drop j)),obE m ob0 cO cO,obE l x b c,obE i o (.slice C o.keys.length D) (.slice ac o.kids.length q),.mem M]:=a;have F:=dO (a.at_ 1 rfl);rw[lE];refine aN 4 a rfl krx F (show 0+4 < 6 by omega) λT a=>?_;have a:cH M.A w T [.urow 25 6 v6 (Vl.place o.keys key+1) (cs.take (Vl.place o.keys key*6)++obC x b c),.urow 9 1 f (Vl.place o.keys key+1+(o.keys.length - j)) (bF (o.keys.take (Vl.place o.keys key))++[ae key]++bF (o.keys.drop j)),obE m ob0 cO cO,obE l x b c,obE i o f (.slice ac o.kids.length q),.mem M]:=a;rw[jL,cX a 4 rfl];refine aC (dD atO LV om om) |>.mpr ?_;rw[atC];refine UD 0 a rfl (Sl.from (d.kids.now (a.hasM 5 rfl)) om O) (Sh (Em d.all)) om λz U a=>?_;have a:cH M.A w U [.urow 25 6 z (Vl.place o.keys key+1+(o.kids.length - j)) (cs.take (Vl.place o.keys key*6)++obC x b c++cs.drop (j*6)),.urow 9 1 f (Vl.place o.keys key+1+(o.keys.length - j)) (bF (o.keys.take (Vl.place o.keys key))++[ae key]++bF (o.keys.drop j)),obE m ob0 cO cO,obE l x b c,obE i o f (.slice ac o.kids.length q),.mem M]:=a;have G:=dO (a.at_ 0 rfl);rw[jL];refine aN 4 a rfl krx G (show 0+5 < 6 by omega) λV a=>?_;obtain⟨N,hle,H,a⟩:=cH.bV (L:=[.urow 9 1 f (Vl.place o.keys key+1+(o.keys.length - j)) (bF (o.keys.take (Vl.place o.keys key))++[ae key]++bF (o.keys.drop j)),obE m ob0 cO cO,obE l x b c,obE i o f z,.mem M]) a 4 rfl;obtain⟨B,h,t,a⟩:=cH.bV (L:=[obE m ob0 cO cO,obE l x b c,obE i o f z,.mem N]) a 3 rfl;have a:cH M.A w V [obE m ob0 cO cO,obE l x b c,obE i o f z,.mem B]:=a;rw[iV a 2 rfl];refine aP 0 F G a rfl λb4 a=>?_;refine fH (bJ (a.agg 0 rfl kE)) (hK _ _ B _ 3 a rfl (hle.trans h) ?_);have e:Vl.put o key x=.mk o.k o.n o.g o.s (o.keys.take (Vl.place o.keys key)++key::o.keys.drop j) (o.kids.take (Vl.place o.keys key)++x::o.kids.drop j):=by rw[hj];rfl
  rw[e];have el:(o.kids.take (Vl.place o.keys key)++x::o.kids.drop j).length=Vl.place o.keys key+1+(o.kids.length - j):=by simp;omega
  have W:(o.keys.take (Vl.place o.keys key)++key::o.keys.drop j).length=Vl.place o.keys key+1+(o.keys.length - j):=by simp;omega
  have es:bF (o.keys.take (Vl.place o.keys key)++key::o.keys.drop j)=bF (o.keys.take (Vl.place o.keys key))++[ae key]++bF (o.keys.drop j):=by
   rw[FA];simp[bF,strV]
  refine rE.ov (o:=.mk o.k o.n o.g o.s (o.keys.take (Vl.place o.keys key)++key::o.keys.drop j) (o.kids.take (Vl.place o.keys key)++x::o.kids.drop j)) (vk:=f) (vc:=z) (cs:=cs.take (Vl.place o.keys key*6)++obC x b c++cs.drop (j*6)) ⟨?_,?_,?_⟩
  ·show SlA B.A B.w f 1 (o.keys.take (Vl.place o.keys key)++key::o.keys.drop j).length (bF (o.keys.take (Vl.place o.keys key)++key::o.keys.drop j));rw[W,es];exact t
  ·show SlA B.A B.w z 6 (o.kids.take (Vl.place o.keys key)++x::o.kids.drop j).length _;rw[el];exact H.le h
  ·have:=gI (FV (Vl.place o.keys key) d.all) (gI (Da hu) (Fb j d.all));rw[<-atJ] at this;exact this.le (hle.trans h)
 cases X:Vl.hit o.keys key with
|true=>
  have hi:o.keys[Vl.place o.keys key]?=ax key:=atQ X;have b7:Vl.place o.keys key < o.keys.length:=(atT.1 hi).1;simp only[rs];rw[aA om om,show (Vl.place o.keys key:Int)+1=((Vl.place o.keys key+1:Nat):Int) by omega];exact fin _ (by rw[X];rfl) om
|false=>
  simp only[i_f];exact fin _ (by rw[X];rfl) p
theorem LF (key:List UInt8):∀(ks:List (List UInt8)) (cs:List Ob) (i:Nat) (a:i < ks.length) (b:i < cs.length),
  Vl.cY key (ks.take (i+1)) (cs.take (i+1))=if ks[i]=key then Vl.cY key (ks.take i) (cs.take i) else ((Vl.cY key (ks.take i) (cs.take i)).1++[ks[i]],(Vl.cY key (ks.take i) (cs.take i)).2++[cs[i]])
|k::ks,c::cs,0,_,_=>by
  simp only[ayB,awQ,Vl.cY,aAb,auI]
|k::ks,c::cs,i+1,a,b=>by
  simp only[ayB,Vl.cY,aAd];have e:=LF key ks cs i (by simpa using a) (by simpa using b);rw[e];by_cases d:k=key
  ·simp only[d,if_true]
  ·simp only[d,if_false];split<;>simp
|[],_,_,a,_=>by simp at a
|_::_,[],_,_,b=>by simp at b
theorem OM (key:List UInt8):∀(ks:List (List UInt8)) (cs:List Ob),(Vl.cY key ks cs).1.length=(Vl.cY key ks cs).2.length∧(Vl.cY key ks cs).1.length<=ks.length
|[],cs=>by simp[Vl.cY]
|k::ks,[]=>by simp[Vl.cY]
|k::ks,c::cs=>by
  have a:=OM key ks cs;rw[Vl.cY];split
  ·simp;omega
  ·simp;omega
theorem tH (o:Ob)(v:aq)(key:List UInt8)(M:Mem)(w:ao)(hw:o.wt<=10000000000)(C:M.has w)(O:OV M.A M.w v o)(hlen:o.keys.length=o.kids.length) :
  jJ ah 144 #[v,ae key] M w (λr N=>OV N.A N.w r (Vl.aM o key)):=by
 obtain⟨vk,vc,cs,rfl,h⟩:=O.open;have P:Ob.wts o.kids<=10000000000:=by cases o;rw[Ob.wt] at hw;simp only[Ob.kids];omega
 have Q:Pl.tot o.keys<=10000000000:=by cases o;rw[Ob.wt] at hw;simp only[Ob.keys];omega
 have R:=Pl.iY o.keys;have S:=Ob.vC o.kids;refine aU C λK T=>vD ?_;unfold mO nz;refine eI o h.keys.one h.kids.one (cH.memS C) λj w1 a=>?_;refine dM a λk w2 a=>?_;rw[lE,eN a 1 rfl,aZ atN (h.keys.now (a.hasM 2 rfl))];refine loop (λvs W=>∃(i:Nat) (c cv:aq) (ds:List aq),vs=[c,cv,ad i]∧i<=o.keys.length∧OVs M.A M.w ds (Vl.cY key (o.keys.take i) (o.kids.take i)).2 ∧
   cH M.A w W [.urow 25 6 cv (Vl.cY key (o.keys.take i) (o.kids.take i)).2.length ds,.urow 9 1 c (Vl.cY key (o.keys.take i) (o.kids.take i)).1.length (bF (Vl.cY key (o.keys.take i) (o.kids.take i)).1),obE k ob0 cO cO,obE j o vk vc,.mem M])
  (λvs _=>o.keys.length - n2 vs) ⟨0,cO,cO,[],rfl,om,OVs.nil,(a.nilU 9 1).nilU 25 6⟩ ?_
 clear a;rintro vs w3 ⟨i,c,cv,ds,rfl,hi,d,a⟩ _;have U:=OM key (o.keys.take i) (o.kids.take i);have V:(o.keys.take i).length<=o.keys.length:=by rw[atF];omega
 simp only[kK,gd,rs,nz];by_cases l:(i:Int) < (o.keys.length:Int)
 ·have D:i < o.keys.length:=om
  have E:i < o.kids.length:=om
  simp only[l,asX,i_t];have b:=LF key o.keys o.kids i D E;refine join λJ X=>?_;have fin:∀(W:ao) (c cv:aq) (ds:List aq),OVs M.A M.w ds (Vl.cY key (o.keys.take (i+1)) (o.kids.take (i+1))).2 ->
    cH M.A w W [.urow 25 6 cv (Vl.cY key (o.keys.take (i+1)) (o.kids.take (i+1))).2.length ds,.urow 9 1 c (Vl.cY key (o.keys.take (i+1)) (o.kids.take (i+1))).1.length (bF (Vl.cY key (o.keys.take (i+1)) (o.kids.take (i+1))).1),obE k ob0 cO cO,obE j o vk vc,.mem M]->J [c,cv] W:=by
   intro W c cv ds d a;refine X _ _ λ_=>?_;simp only[kI,gd,rs,nz];rw[aA om om];exact aS ⟨i+1,c,cv,ds,rfl,om,d,a⟩ (by simp[n2,RowKit.intOf];omega)
  rw[lE,eN a 3 rfl];obtain⟨q,u⟩:=akC h D;obtain⟨F,G⟩:=u w3 (a.hasM 4 rfl);refine aC F |>.mpr (aC G |>.mpr ?_);simp only[rs];by_cases he:o.keys[i]=key
  ·simp only[he,ne_eq,not_true,asW,rs,nE];rw[asU he] at b;exact fin w3 c cv ds (by rw[b];exact d) (by rw[b];exact a)
  ·have y:(i:Int) < (o.kids.length:Int):=om
   simp only[he,ne_eq,avD,asX,rs,jL,cX a 3 rfl];rw[aZ atO (h.kids.now (a.hasM 4 rfl))];simp only[rs,y,asX];rw[asT he] at b;rw[lE,eN a 3 rfl];refine aC F |>.mpr (aC G |>.mpr ?_);refine QD o.keys[i] a λnb Y a=>?_;refine ZV 2 a rfl (a.sl 0 rfl 1 1 1 rfl) (by simp[Value.oneCell']) om λm t a=>?_;have a:=a.tail;have a:cH M.A w t [.urow 25 6 cv (Vl.cY key (o.keys.take i) (o.kids.take i)).2.length ds,.urow 9 1 m ((Vl.cY key (o.keys.take i) (o.kids.take i)).1.length+1) (bF (Vl.cY key (o.keys.take i) (o.kids.take i)).1++[.string ⟨o.keys[i].toArray⟩]),obE k ob0 cO cO,obE j o vk vc,.mem M]:=a;rw[cX a 3 rfl];obtain⟨x,q2,H,z⟩:=JY h E;obtain⟨Z,r4⟩:=z t (a.hasM 4 rfl);refine aC Z |>.mpr (aC r4 |>.mpr ?_);obtain⟨xk,xc,a1,rfl,f⟩:=H.open;refine Ga o.kids[i] f.keys.one f.kids.one a λa6 w6 a=>?_;refine UD 1 a rfl (a.sl 0 rfl 6 1 1 rfl) (yO _ f.keys.one f.kids.one) om λB w7 a=>?_;have a:=a.tail;refine fin w7 m B (ds++obC o.kids[i] xk xc) ?_ ?_
   ·rw[b];exact gI d (Da H)
   ·have es:bF ((Vl.cY key (o.keys.take i) (o.kids.take i)).1++[o.keys[i]])=bF (Vl.cY key (o.keys.take i) (o.kids.take i)).1++[.string ⟨o.keys[i].toArray⟩]:=by
     rw[FA];simp[bF,strV]
    rw[b];simp only[es,asY,atW,awI,atK];exact a
 ·simp only[l,asW,i_f];have n:=dO (a.at_ 1 rfl);have p:=dO (a.at_ 0 rfl);rw[auG (show o.keys.length<=i by omega),auG (show o.kids.length<=i by omega)] at a d;rw[lE];refine aN 3 a rfl krx n (show 0+4 < 6 by omega) λY a=>?_;rw[jL];refine aN 3 a rfl krx p (show 0+5 < 6 by omega) λt a=>?_;obtain⟨N,hle,s,a⟩:=cH.bV (L:=[.urow 9 1 c (Vl.cY key o.keys o.kids).1.length (bF (Vl.cY key o.keys o.kids).1),obE k ob0 cO cO,obE j o c cv,.mem M]) a 3 rfl;obtain⟨I,e,g,a⟩:=cH.bV (L:=[obE k ob0 cO cO,obE j o c cv,.mem N]) a 2 rfl;have a:cH M.A w t [obE k ob0 cO cO,obE j o c cv,.mem I]:=a;rw[iV a 1 rfl];refine aP 0 n p a rfl λw6 a=>?_;refine fH (bJ (a.agg 0 rfl kE)) (T _ _ I _ 2 a rfl (hle.trans e) ?_);exact rE.ov (o:=Vl.aM o key) (vk:=c) (vc:=cv) (cs:=ds) ⟨g,s.le e,d.le (hle.trans e)⟩
theorem TA (o x:Ob)(v u:aq)(key:List UInt8)(M:Mem)(w:ao)(hw:o.wt<=10000000000)(Q:x.wt<=10000000000)(S:key.length<=10000000000)(L:M.has w)(j:OV M.A M.w v o)(hu:OV M.A M.w u x) :
  jJ ah 85 #[v,ae key,u] M w (λr N=>∃v',r=vI v' (Vl.set o key x).2∧OV N.A N.w v' (Vl.set o key x).1):=by
 obtain⟨vk,vc,cs,rfl,O⟩:=j.open;obtain⟨Y,Z,T,rfl,P⟩:=hu.open;refine aU L λK l=>BX ?_;unfold tI nz;refine eI o O.keys.one O.kids.one (cH.memS L) λb3 w1 a=>?_;refine eI x P.keys.one P.kids.one a λb5 w2 a=>?_;refine dM a λb6 w3 a=>?_;rw[eO,sA a 2 rfl];have m:(o.k=7)∨(o.k≠7∧o.k=9)∨(o.k≠7∧o.k≠9):=om
 rcases m with n|⟨n,s⟩|⟨n,s⟩
 rotate_left 2
 ·have b:Vl.keyed o=false:=by simp[Vl.keyed,n,s]
  simp only[rs,n,s,ne_eq,avD,asX,eO,sA a 2 rfl];rw[sR];refine aP 0 rfl rfl a rfl λq a=>?_;refine bX 0 a rfl (l _ _ M _ 3 a rfl M.le_refl ⟨obV Vl.ob0 cO cO,?_,?_⟩)
  ·simp[Vl.set,b,vI]
  ·simpa[Vl.set,b] using jD M
 ·have b:Vl.keyed o=true:=by simp[Vl.keyed,n]
  simp only[rs,n,ne_eq,not_true,asW,nE]
  revert b
  clear n;intro b;rw[iV a 2 rfl];refine aJ a (R:=λv=>v=ad (Vl.check 1 o)) (iK o _ w3 (OV.inw (a.hasM 3 rfl) j) om) ?_;rintro _ q rfl a;simp only[eF];by_cases c:Vl.check 1 o=0
  ·simp only[c,ne_eq,not_true,asW,i_f];simp only[eO,sA a 1 rfl,rs];obtain⟨U,hlen⟩:=Vl.gQ c b;by_cases h:x.k=0
   ·simp only[h,asX,i_t];rw[iV a 2 rfl];refine bG a 3 rfl (tH o _ key M q hw (a.hasM 3 rfl) j hlen) λy N p hle i a=>?_;obtain⟨B,C,D,rfl,d⟩:=i.open;refine aP 0 d.keys.one d.kids.one a rfl λV a=>?_;have e:Vl.set o key x=(Vl.aM o key,0):=by simp[Vl.set,b,c,h]
    refine bX 0 a rfl (l _ _ N _ 3 a rfl hle ⟨obV (Vl.aM o key) B C,?_,?_⟩)
    ·rw[e];rfl
    ·rw[e];exact i
   ·simp only[h,asW,i_f];rw[iV a 2 rfl,iV a 1 rfl];have E:=Vl.Qa o key x;refine bG a 3 rfl (SK o x _ _ key M q hw (a.hasM 3 rfl) j hu hlen) λy N p hle i a=>?_;refine bG a 3 rfl (G8 _ _ N p om (a.hasM 3 rfl) i) ?_;rintro _ F W f ⟨t,rfl,z⟩ a;obtain⟨G,H,I,rfl,g⟩:=z.open;simp only[vI,ex];refine aP 0 g.keys.one g.kids.one a rfl λX a=>?_;have e:Vl.set o key x=Vl.right (Vl.put o key x):=by simp[Vl.set,b,c,h]
    refine bX 0 a rfl (l _ _ F _ 3 a rfl (hle.trans f) ⟨obV (Vl.right (Vl.put o key x)).1 G H,?_,?_⟩)
    ·rw[e];rfl
    ·rw[e];exact z
  ·simp only[c,ne_eq,avD,asX,i_t];rw[sR];refine aP 0 rfl rfl a rfl λp a=>?_;refine bX 0 a rfl (l _ _ M _ 3 a rfl M.le_refl ⟨obV Vl.ob0 cO cO,?_,?_⟩)
   ·simp[Vl.set,b,c,vI]
   ·simpa[Vl.set,b,c] using jD M
 ·have b:Vl.keyed o=true:=by simp[Vl.keyed,s]
  have J:¬((9:Int)=7):=om
  simp only[rs,s,J,ne_eq,not_true,avD,asX,asW,eO,sA a 2 rfl,nE];rw[iV a 2 rfl];refine aJ a (R:=λv=>v=ad (Vl.check 1 o)) (iK o _ w3 (OV.inw (a.hasM 3 rfl) j) om) ?_;rintro _ q rfl a;simp only[eF];by_cases c:Vl.check 1 o=0
  ·simp only[c,ne_eq,not_true,asW,i_f];simp only[eO,sA a 1 rfl,rs];obtain⟨U,hlen⟩:=Vl.gQ c b;by_cases h:x.k=0
   ·simp only[h,asX,i_t];rw[iV a 2 rfl];refine bG a 3 rfl (tH o _ key M q hw (a.hasM 3 rfl) j hlen) λy N p hle i a=>?_;obtain⟨B,C,D,rfl,d⟩:=i.open;refine aP 0 d.keys.one d.kids.one a rfl λV a=>?_;have e:Vl.set o key x=(Vl.aM o key,0):=by simp[Vl.set,b,c,h]
    refine bX 0 a rfl (l _ _ N _ 3 a rfl hle ⟨obV (Vl.aM o key) B C,?_,?_⟩)
    ·rw[e];rfl
    ·rw[e];exact i
   ·simp only[h,asW,i_f];rw[iV a 2 rfl,iV a 1 rfl];have E:=Vl.Qa o key x;refine bG a 3 rfl (SK o x _ _ key M q hw (a.hasM 3 rfl) j hu hlen) λy N p hle i a=>?_;refine bG a 3 rfl (G8 _ _ N p om (a.hasM 3 rfl) i) ?_;rintro _ F W f ⟨t,rfl,z⟩ a;obtain⟨G,H,I,rfl,g⟩:=z.open;simp only[vI,ex];refine aP 0 g.keys.one g.kids.one a rfl λX a=>?_;have e:Vl.set o key x=Vl.right (Vl.put o key x):=by simp[Vl.set,b,c,h]
    refine bX 0 a rfl (l _ _ F _ 3 a rfl (hle.trans f) ⟨obV (Vl.right (Vl.put o key x)).1 G H,?_,?_⟩)
    ·rw[e];rfl
    ·rw[e];exact z
  ·simp only[c,ne_eq,avD,asX,i_t];rw[sR];refine aP 0 rfl rfl a rfl λp a=>?_;refine bX 0 a rfl (l _ _ M _ 3 a rfl M.le_refl ⟨obV Vl.ob0 cO cO,?_,?_⟩)
   ·simp[Vl.set,b,c,vI]
   ·simpa[Vl.set,b,c] using jD M
end
section
open Go
namespace Vl
def yC:List Ob->Bool
|k::_::r=>ai (k.k=5)&&yC r
|[k]=>ai (k.k=5)
|[]=>av
def Rf (met:List (List UInt8))(o:Ob):List Ob->Ob×Int
|k::v::r=>if k.s∈met then (ob0,9) else Rf (met++[k.s]) (if v.k≠0 then put o k.s v else o) r
|_=>right o
def dict (ps:List Ob):Ob×Int:=if ps.length % 2≠0 then (ob0,1) else if yC ps=au then (ob0,1) else Rf [] (.mk 7 0 0 [] [] []) ps
theorem NK {v:Ob}(h:NX o.keys)(u:o.keys.length=o.kids.length):NX (put o key v).keys∧(put o key v).keys.length=(put o key v).kids.length:=by
 have hp:=xV o.keys key;refine⟨?_,?_⟩
 ·show NX (o.keys.take (place o.keys key)++key::o.keys.drop (place o.keys key+if hit o.keys key then 1 else 0));have f:∀x∈o.keys.take (place o.keys key),less x key=true:=by
   intro x c;obtain⟨m,hm,rfl⟩:=awK c;rw[atF] at hm;rw[azP];exact RZ om
  have g:∀x∈o.keys.drop (place o.keys key+if hit o.keys key then 1 else 0),less key x=true:=by
   intro x c;cases d:hit o.keys key with
  |true=>
    rw[d] at c;obtain⟨m,hm,rfl⟩:=awK c;simp only[if_true,atG] at hm;have hi:o.keys[place o.keys key]?=ax key:=atQ d;have t:o.keys[place o.keys key]=key:=(atT.1 hi).2;have:=uR h (i:=place o.keys key) (j:=place o.keys key+1+m) om om;rw[t] at this;simpa using this
  |false=>
    rw[d] at c;obtain⟨m,hm,rfl⟩:=awK c;simp only[axI,if_false,atG] at hm;have k:place o.keys key < o.keys.length:=om
    have l:=Z9 k;have n:o.keys[place o.keys key]≠key:=by
     intro e;unfold hit at d;rw[atI k,e] at d;simp at d
    have q:=Uz l n;rcases awB m with r|r
    ·subst r;simpa using q
    ·have:=uR h (i:=place o.keys key) (j:=place o.keys key+m) om om;simpa using qI q this
  refine axO.2 ⟨h.sublist (aAs _ _),avT.2 ⟨g,h.sublist (List.drop_sublist _ _)⟩,λa s b p=>?_⟩;rcases atL.1 p with rfl|p
  ·exact f a s
  ·exact qI (f a s) (g b p)
 ·show (o.keys.take (place o.keys key)++key::o.keys.drop (place o.keys key+if hit o.keys key then 1 else 0)).length=(o.kids.take (place o.keys key)++v::o.kids.drop (place o.keys key+if hit o.keys key then 1 else 0)).length;simp only[asY,atF,atW,atG];omega
theorem Ox {ps:List Ob}(h:i+1 < ps.length):yC (ps.drop i)=(ai ((ps[i]'(om)).k=5)&&yC (ps.drop (i+2))):=by
 rw[auL (show i < ps.length by omega),auL h,yC]
theorem Ux {ps:List Ob}{met:List (List UInt8)}(h:i+1 < ps.length):Rf met o (ps.drop i)=if (ps[i]'(om)).s∈met then (ob0,9) else Rf (met++[(ps[i]'(om)).s]) (if ps[i+1].k≠0 then put o (ps[i]'(om)).s ps[i+1] else o) (ps.drop (i+2)):=by
 rw[auL (show i < ps.length by omega),auL h,Rf]
theorem abI {ps:List Ob}(h:i+1 < ps.length):Ob.wts (ps.drop i)=(ps[i]'(om)).wt+ps[i+1].wt+Ob.wts (ps.drop (i+2)):=by
 rw[auL (show i < ps.length by omega),auL h,Ob.wts,Ob.wts,show i+1+1=i+2 from rfl];omega
end Vl
end
section
open Eng Go.RowKit
theorem aaG (os:List Ob)(v:aq)(cs:List aq)(M:Mem)(w:ao)(hw:Ob.wts os<=10000000000)(g:M.has w)(h:SlA M.A M.w v 6 os.length cs)(d:OVs M.A M.w cs os) :
  jJ ah 141 #[v] M w (λr N=>OV N.A N.w r (.mk 6 0 0 [] [] os)):=by
 obtain⟨a,cap,rfl,_⟩:=h.form;refine aU g λK j=>Ii ?_;unfold F4 nz;refine dM (cH.memS g) λb f c=>?_;have k:∀{PK:PKT} {K:VWP},DoX ah (aW 25 #[(0,(ad 6)),(5,.slice a os.length cap)]) f PK K=K (obV (.mk 6 0 0 [] [] os) cO (.slice a os.length cap)) f:=aC krx;rw[k];refine bG c 1 rfl (Bc (.mk 6 0 0 [] [] os) _ M f (by rw[Ob.wt];simp[Pl.tot];omega) (c.hasM 1 rfl) (rE.ov (o:=.mk 6 0 0 [] [] os) (vk:=cO) (cs:=cs) ⟨SlA.nil _ _ _ _,h,d⟩)) λy N w2 hle i c=>?_;obtain⟨m,n,l,rfl,e⟩:=i.open;refine aP 0 e.keys.one e.kids.one c rfl λw3 c=>?_;exact fH (bJ (c.agg 0 rfl kE)) (j _ _ N _ 1 c rfl hle i)
theorem Sl.cellAt {off n:Nat}(h:Sl w (bR b off n cap) sz n cs):∀j u,cs[j]?=ax u->w.cell? ⟨b,off+j,aw⟩=ax u:=by
 obtain⟨_,a,c,e,_,d⟩:=h
 injection e with f _ _
 exactλj u g=>(d _ f.symm).2 j u g
theorem arK :DoX ah (aW 25 #[(0,(ad 7))]) w PK K=K (obV (.mk 7 0 0 [] [] []) cO cO) w:=aC krx
theorem Wp (ps:List Ob)(v:aq)(cs:List aq)(M:Mem)(w:ao)(hw:Ob.wts ps<=1000000000)(hM:M.has w)(hs:SlA M.A M.w v 6 ps.length cs)(n:OVs M.A M.w cs ps) :
  jJ ah 136 #[v] M w (λr N=>∃v',r=vI v' (Vl.dict ps).2∧OV N.A N.w v' (Vl.dict ps).1):=by
 have a1:rE M.A M.w (.mk 0 0 0 [] [] ps) cO v cs:=⟨SlA.nil _ _ _ _,hs,n⟩;have e2:=Ob.vC ps;refine aU hM λK hK=>Kg ?_;unfold H4 nz;refine dM (cH.memS hM) λQ w1 b=>?_;rw[aZ atO (hs.now (b.hasM 1 rfl)),Di om];have hr:((ps.length:Int).tmod 2)=((ps.length % 2:Nat):Int):=by rw[aAL om];omega
 rw[hr];simp only[rs];have no:∀{W:ao} {N:Mem} {L:List Ent} (e:Int),cH M.A w W (obE Q ob0 cO cO::.mem N::L)->M.le N->Vl.dict ps=(Vl.ob0,e)->DoX ah (aW 25 #[]) W (pk K) (λt W=>DoX ah (aV 25 (af Q 0) t) W (pk K) λ_ W=>A2 ah [.cell (af Q 0) 25,.val (ad e)] W K):=by
  intro W N L e b hle hd;rw[sR];refine aP 0 rfl rfl b rfl λw4 b=>?_;refine bX 0 b rfl (hK _ _ N _ 1 b rfl hle ⟨obV Vl.ob0 cO cO,?_,?_⟩)
  ·rw[hd];rfl
  ·rw[hd];exact jD N
 by_cases a6:ps.length % 2=0
 case neg=>
  have h1:¬(((ps.length % 2:Nat):Int)=0):=om
  simp only[h1,ne_eq,avD,asX,i_t];exact no 1 b M.le_refl (by unfold Vl.dict;rw[asU a6])
 have h1:(((ps.length % 2:Nat):Int)=0):=om
 simp only[h1,ne_eq,not_true,asW,i_f];have G:Vl.dict ps=if Vl.yC ps=au then (Vl.ob0,1) else Vl.Rf [] (.mk 7 0 0 [] [] []) ps:=by unfold Vl.dict;rw[asT om]
 refine loop (λvs W=>∃(i:Nat) (x:aq),vs=[x,ad i]∧i<=ps.length∧i % 2=0∧Vl.yC ps=Vl.yC (ps.drop i)∧cH M.A w W [obE Q ob0 cO cO,.mem M]) (λvs _=>ps.length - n1 vs) ⟨0,_,rfl,om,rfl,sm,b⟩ ?_;clear b;rintro vs w2 ⟨i,x,rfl,hi,a7,B,b⟩ _;simp only[Dt,gd,nz];rw[aZ atO (hs.now (b.hasM 1 rfl))];simp only[rs];by_cases f:(i:Int) < (ps.length:Int)
 ·have g:i+1 < ps.length:=om
  have H:i < ps.length:=om
  simp only[f,asX,i_t];obtain⟨p,q,hp,c3⟩:=JY a1 H;have hp:OV M.A M.w p ps[i]:=hp;obtain⟨r1,_⟩:=c3 w2 (b.hasM 1 rfl);obtain⟨e3,pc,e4,rfl,e5⟩:=hp.open;obtain⟨bq,oq,cq,rfl,a8⟩:=bU (hs.now (b.hasM 1 rfl)) om;refine aC (dP atO LV om om) |>.mpr ?_;rw[atC,eO];have I:w2.cell? ⟨bq,oq+i*6,aw⟩=ax (ad ps[i].k):=by
   obtain⟨a,O,S,C⟩:=OVs.get ps cs i H n;obtain⟨R,ac,c4,he,c5⟩:=S.open;have e:a=obC ps[i] R ac:=by
    have e:a.toArray=(obC ps[i] R ac).toArray:=by injection he
    simpa using congrArg Array.toList e
   have:=a8 (i*6+0) _ (C 0 (ad ps[i].k) (by rw[e];rfl))
   rwa [auU] at this
  rw[aR bZ I];simp only[rs];rw[Vl.Ox g] at B;by_cases h5:ps[i].k=5
  ·simp only[h5,ne_eq,not_true,asW,i_f];rw[aA om om];refine aS ⟨i+2,x,sm,om,om,?_,b⟩ (by simp[n1,RowKit.intOf];omega);rw[B,h5];simp
  ·simp only[h5,ne_eq,avD,asX,i_t];refine no 1 b M.le_refl ?_;rw[G,B,asU (by simp[h5])]
 ·have b0:i=ps.length:=om
  simp only[f,asW,i_f];have c6:Vl.yC ps=true:=by rw[B,auW om];rfl
  rw[c6] at G;simp only[Bool.true_eq_false,if_false] at G;rw[arK];refine dM b λb5 w3 b=>?_;refine aP 0 rfl rfl b rfl λw4 b=>?_;refine Sb b λbm w5 b=>?_;clear B hi a7 f b0;refine loop (λvs W=>∃(i:Nat) (x:aq) (h:List (List UInt8×aq)) (o:Ob) (ok X:aq) (N:Mem),vs=[x,ad i]∧i<=ps.length∧i % 2=0∧Vl.dict ps=Vl.Rf (h.map (·.1)) o (ps.drop i)∧Vl.NX o.keys∧o.keys.length=o.kids.length ∧
    o.wt+Ob.wts (ps.drop i)<=6+Ob.wts ps∧(∀p∈h,p.2=.bool av)∧M.le N∧OV N.A N.w (obV o ok X) o∧cH M.A w W [.map bm h,obE b5 o ok X,obE Q ob0 cO cO,.mem N]) (λvs _=>ps.length - n1 vs)
   ⟨0,x,[],.mk 7 0 0 [] [] [],cO,cO,M,rfl,om,rfl,by simpa using G,List.Pairwise.nil,rfl,by simp[Ob.wt,Ob.wts,Pl.tot],sm,M.le_refl,rE.ov (o:=.mk 7 0 0 [] [] []) (cs:=[]) ⟨SlA.nil _ _ _ _,SlA.nil _ _ _ _,OVs.nil⟩,b⟩ ?_
  clear b;rintro vs w6 ⟨i,y,h,o,ok,X,N,rfl,hi,a7,hd,c,hlen,c7,O,hle,P,b⟩ _;have b1:=P.open;obtain⟨D,E,e6,heq,e7⟩:=b1;have e1:D=ok∧E=X:=by
   have:(obC o ok X).toArray=(obC o D E).toArray:=by injection heq
   have:obC o ok X=obC o D E:=by simpa using congrArg Array.toList this
   simp only[obC,ayJ,true_and,and_true] at this;exact⟨this.1.symm,this.2.symm⟩
  obtain⟨rfl,rfl⟩:=e1;simp only[DQ,gd,nz];have T:=hs.le hle;have b3:=a1.le hle;rw[aZ atO (T.now (b.hasM 3 rfl))];simp only[rs];by_cases f:(i:Int) < (ps.length:Int)
  ·have g:i+1 < ps.length:=om
   have H:i < ps.length:=om
   simp only[f,asX,i_t];have b4:=Vl.Ux (met:=h.map (·.1)) (o:=o) g;have e8:=Vl.abI g;refine join λJ hJ=>?_;obtain⟨bq,oq,cq,rfl,a8⟩:=bU (T.now (b.hasM 3 rfl)) om;have cellAt:∀{W:ao} (l:N.has W) (m:Nat) (hm:m < ps.length) (j:Nat) (u:aq),(∀R ac,(obC ps[m] R ac)[j]?=ax u)->W.cell? ⟨bq,oq+m*6+j,aw⟩=ax u:=by
    intro W l m hm j u hu;obtain⟨a,O,S,C⟩:=OVs.get ps cs m hm n;obtain⟨R,ac,c4,he,c5⟩:=S.open;have e:a=obC ps[m] R ac:=by
     have e:a.toArray=(obC ps[m] R ac).toArray:=by injection he
     simpa using congrArg Array.toList e
    have:=Sl.cellAt (T.now l) (m*6+j) _ (C j u (by rw[e];exact hu R ac))
    rwa [<-awP] at this
   have fin:∀(W:ao) (Y:Mem) (kv cv:aq),cH M.A w W [.map bm (h++[(ps[i].s,.bool av)]),obE b5 (if ps[i+1].k≠0 then Vl.put o ps[i].s ps[i+1] else o) kv cv,obE Q ob0 cO cO,.mem Y]->M.le Y ->
     OV Y.A Y.w (obV (if ps[i+1].k≠0 then Vl.put o ps[i].s ps[i+1] else o) kv cv) (if ps[i+1].k≠0 then Vl.put o ps[i].s ps[i+1] else o)->ps[i].s ∉ h.map (·.1)->J [y] W:=by
    intro W Y kv cv b b6 b7 hm;refine hJ _ _ λ_=>?_;simp only[DI,gd,rs,nz];rw[aA om om];have c8:=Vl.Qa o ps[i].s ps[i+1];have e9:ps[i].s.length+1<=ps[i].wt:=by rw[Vl.oK];omega
    have e0:=ps[i+1].Jx;refine aS ⟨i+2,y,h++[(ps[i].s,.bool av)],_,kv,cv,Y,sm,om,om,?_,?_,?_,?_,?_,b6,b7,b⟩ (by simp[n1,RowKit.intOf];omega)
    ·rw[hd,b4,asT hm];simp
    ·split
     ·exact (Vl.NK c hlen).1
     ·exact c
    ·split
     ·exact (Vl.NK c hlen).2
     ·exact hlen
    ·split<;>omega
    ·intro p hp;rcases auF.1 hp with hp|hp
     ·exact O p hp
     ·simp only[auB] at hp;rw[hp]
   refine aC (dP atO LV om om) |>.mpr ?_;rw[atC,Dn,aR Io (cellAt (b.hasM 3 rfl) i H 3 _ λ_ _=>rfl)];refine aC (M5 (z:=.bool au) underlying215 atB krx (b.at_ 0 rfl) ps[i].s) |>.mpr ?_;by_cases d:ps[i].s∈h.map (·.1)
   ·have hl:vP h ps[i].s=ax (.bool av):=by
     cases U:vP h ps[i].s with
    |none=>exact absurd d (Mo.1 U)
    |some u=>
      unfold vP at U;obtain⟨p,hp,rfl⟩:=avM.1 U;rw[O p (List.mem_of_find?_eq_some hp)]
    rw[hl];simp only[axI,if_false,awW,i_t];have b:cH M.A w w6 (obE Q ob0 cO cO::.mem N::[]):=b.tail.tail;exact no 9 b hle (by rw[hd,b4,asU d])
   ·have hl:vP h ps[i].s=none:=Mo.2 d;rw[hl];simp only[axI,if_false,Option.getD_none,i_f];refine TK 0 underlying215 atB b rfl ps[i].s (.bool av) hl λZ b=>?_;have b:cH M.A w Z [.map bm (h++[(ps[i].s,.bool av)]),obE b5 o D E,obE Q ob0 cO cO,.mem N]:=b;rw[aA om om,show (i:Int)+1=((i+1:Nat):Int) by omega];refine aC (dP atO LV om om) |>.mpr ?_;have I:=cellAt (b.hasM 3 rfl) (i+1) g 0 (ad ps[i+1].k) λ_ _=>rfl;rw[auU] at I;rw[atC,eO,aR bZ I];simp only[rs];by_cases h0:ps[i+1].k=0
    ·simp only[h0,ne_eq,not_true,asW,i_f];refine fin Z N D E ?_ hle ?_ d
     ·rw[asT (by simp[h0])];exact b
     ·rw[asT (by simp[h0])];exact P
    ·simp only[h0,ne_eq,avD,asX,i_t];obtain⟨x2,q2,V,b8⟩:=JY b3 g;have V:OV N.A N.w x2 ps[i+1]:=V;have b9:∀W,Below Z.heap.size Z W->N.has W:=λW l=>Mem.KR (b.hasM 3 rfl) l;refine quiet ?_;refine iL _ (λW l=>bB ((b.grow l).agg 1 rfl kE)) ?_;refine nF ?_;rw[aA om om,show (i:Int)+1=((i+1:Nat):Int) by omega];refine iL _ (λW l=>(b8 W (b9 W l)).1) ?_;refine iL _ (λW l=>(b8 W (b9 W l)).2) ?_;intro w8 l;have b:=b.grow l;have c8:=Vl.oK ps[i];refine bG b 3 rfl (Tc o ps[i+1] _ _ ps[i].s N w8 om (b.hasM 3 rfl) P V c hlen) λz N2 w9 F hz b=>?_;obtain⟨zk,zc,h2,rfl,c0⟩:=hz.open;refine aP 1 c0.keys.one c0.kids.one b rfl λc9 b=>?_;refine fin c9 N2 zk zc ?_ (hle.trans F) ?_ d
     ·rw[asU (by simp[h0])];exact b
     ·rw[asU (by simp[h0])];exact hz
  ·have b0:i=ps.length:=om
   simp only[f,asW,i_f];rw[auW om] at hd c7;have hd:Vl.dict ps=Vl.right o:=hd;rw[iV b 1 rfl];refine bG b 3 rfl (Bc o _ N w6 om (b.hasM 3 rfl) P) λz N2 Z F hz b=>?_;refine bG b 3 rfl (Kw o _ N2 Z om (b.hasM 3 rfl) hz) ?_;rintro _ N3 w8 c1 ⟨t,rfl,ht⟩ b;obtain⟨tk,tc,h3,rfl,c2⟩:=ht.open;simp only[vI,ex];refine aP 2 c2.keys.one c2.kids.one b rfl λw9 b=>?_;refine bX 2 b rfl (hK _ _ N3 _ 3 b rfl (hle.trans (F.trans c1)) ⟨obV (Vl.right o).1 tk tc,?_,?_⟩)
   ·rw[hd];rfl
   ·rw[hd];exact ht
end
section
open Go
structure It where
 num:Int
 gen:Int
 obj:Ob
structure Dc where
 items:List It
 trailer:Ob
namespace Dk
end Dk
end
section
open Eng Go.RowKit Go.ChangeShapes Go.WideShapes
inductive Rws {α:Type} (R:List aq->α->Prop):List aq->List α->Prop
|nil:Rws R [] []
|cons {a rest:List aq} {x:α} {xs:List α}:R a x->Rws R rest xs->Rws R (a++rest) (x::xs)
section
variable {α:Type}{R R':List aq->α->Prop}
theorem Rws.snoc {a:List aq}{x:α}(b:R a x):∀{cs:List aq} {xs:List α},Rws R cs xs->Rws R (cs++a) (xs++[x])
|_,_,.nil=>by
  have:=Rws.cons b (Rws.nil (R:=R));simpa using this
|_,_,.cons h t=>by
  rw[atJ,axF];exact .cons h (Rws.snoc b t)
theorem Rws.flat {c:α->List aq}:∀{cs:List aq} {xs:List α},Rws (λcs x=>cs=c x) cs xs->cs=xs.flatMap c
|_,_,.nil=>rfl
|_,_,.cons a t=>by rw[a,Rws.flat t,avE]
end
section
variable {H:Type}{enc:TypeId×aq->H}{W:ao}{sp:Nat->Bool}{held:Bool}
theorem ET {E T:TypeId}{n:Nat}{R:List aq->α->Prop}{wt:α->Nat}(F:Tryz.prog.underlying T=ax (.slice E))(G:Tryz.prog.cellsOf E=n)(I:0 < n)
  (p:∀fuel cs x,DataW.trod enc ah W 0 sp held fuel E cs=ax x->∃a,R cs a∧cs.length=n∧wt a<=Rows.uptoBulk x.1)
  {fuel:Nat} {cs:List aq} {x:DataW H×List MemPlace} (h:DataW.trod enc ah W 0 sp held fuel T cs=ax x) :
  ∃(v:aq) (ds:List aq) (xs:List α),cs=[v]∧SlA (InW W) W v n xs.length ds∧Rws R ds xs∧xs.length<=9223372036854775807∧(xs.map wt).sum+1<=Rows.uptoBulk x.1:=by
 rcases DataW.trod_slice F h with ⟨rfl,rfl⟩|⟨a,len,cap,elems,rest,J,rfl,rfl,rfl,_,q,r,f,g,_,_⟩
 ·exact⟨_,[],[],rfl,SlA.nil _ _ _ _,.nil,sm,by simp[Rows.uptoBulk]⟩
 ·rw[G] at g;have step:∀k,k<=len->∃(cs:List aq) (os:List α),os.length=k∧cs.length=k*n∧Rws R cs os∧(∀j u,cs[j]?=ax u->W.cell? (a.add j)=ax u)∧(os.map wt).sum<=Rows.uptoBulkAll ((elems.take k).map (·.1)):=by
   intro k
   induction k with
  |zero=>intro _;exact⟨[],[],rfl,sm,.nil,(λj u c=>by simp at c),by simp[Rows.uptoBulkAll]⟩
  |succ k s=>
    intro L;obtain⟨cs,os,l,d,t,w,C⟩:=s om;have i:k < elems.length:=om
    have m:=g k om;rw[atI i,ayI] at m;obtain⟨D,y,z⟩:=m;obtain⟨o,K,A,hw⟩:=p J D _ z;refine⟨cs++D,os++[o],by simp[l],by rw[asY,d,A,awA,ayU],Rws.snoc K t,λj u c=>?_,?_⟩
    ·rcases auC j cs.length with e|e
     ·rw[avK e] at c;exact w j u c
     ·rw[avU e] at c;have B:j - cs.length < n:=by
       have:=(atT.1 c).1;omega
      have:=(World.cells?_some y).2.2 (j - cs.length) B;rw[<-c,<-this,Su,show k*n+(j - cs.length)=j by omega]
    ·rw[auD i,auJ,auJ,vN,ayS];simp only[avC,axG,Rows.uptoBulkAll,axA,List.sum_nil];omega
  obtain⟨cs,os,l,d,t,w,C⟩:=step len (atE _);refine⟨_,cs,os,rfl,?_,t,?_,?_⟩
  ·rw[l];exact SlA.M8 I (by rw[d]) w (λb m=>m) q
  ·rw[l];simp only[maxLen] at r;omega
  ·rw[<-f,auZ] at C;simp only[Rows.uptoBulk];omega
end
end
section
open Eng Go.RowKit
theorem aiY {p:Ob}{a b:aq}(h:obV o vk vc=obV p a b):vk=a∧vc=b:=by
 have:(obC o vk vc).toArray=(obC p a b).toArray:=by injection h
 have:obC o vk vc=obC p a b:=by simpa using congrArg Array.toList this
 simp only[obC,ayJ,and_true] at this;exact⟨this.2.2.2.2.1,this.2.2.2.2.2⟩
theorem OV.slices (h:OV A w (obV o vk vc) o):∃cs,rE A w o vk vc cs:=by
 obtain⟨b,c,cs,e,a⟩:=h.open;obtain⟨rfl,rfl⟩:=aiY e;exact⟨cs,a⟩
theorem OV.oneK (h:OV A w (obV o vk vc) o):vk.oneCell'=true:=by obtain⟨cs,a⟩:=h.slices;exact a.keys.one
theorem OV.oneC (h:OV A w (obV o vk vc) o):vc.oneCell'=true:=by obtain⟨cs,a⟩:=h.slices;exact a.kids.one
section
variable {w:ao}{PK:PKT}{K:VWP}{S:Nat->Prop}{w0:ao}{L:List Ent}
end
end
end Go.Proofs.YtlipjfcbjemicaaGreatDoor


namespace Go.Proofs.YtlipjfcbjemicaaGreatDoor
variable{A:Nat->Prop}{C:ao->Prop}{K:VWP}{L:List Eng.Ent}{M:Eng.Mem}{P:Program}{PK:PKT}{T1 T2 U:TypeId}{W w w0:ao}{a way:Int}{args:Array aq}{b cap d f fb i j most p rb sz tb:Nat}{c v v2 va vc vk:aq}{cb:Array Bool}{cs news xs:List aq}{e:Eng.Ent}{k':IntKind}{key:List UInt8}{l:List Nat}{o:Ob}{q:Bool}{xo yo:Operand}{α:Type}{t0 t1 t2:aq}{k0:Eng.KT}
section
open Eng Go.RowKit
theorem jJ.told {x:aq}(h:jJ ah f args M w (λv _=>v=x)):Ret ah f args w (λv w'=>v=x∧Below w.heap.size w w'):=
 Ret.mono h λv w' ⟨N,g,r⟩=>⟨r,g.below⟩
theorem Nu {x:Option Ob}(h:OV M.A M.w v (x.getD Vl.ob0)):∃vk vc,v=obV (x.getD Vl.ob0) vk vc∧OV M.A M.w (obV (x.getD Vl.ob0) vk vc) (x.getD Vl.ob0):=by
 obtain⟨vk,vc,cs,rfl,a⟩:=h.open;exact⟨vk,vc,rfl,h⟩
end
end Go.Proofs.YtlipjfcbjemicaaGreatDoor

namespace Go.Proofs.YtlipjfcbjemicaaGreatDoor
variable{A:Nat->Prop}{C:ao->Prop}{K:VWP}{L:List Eng.Ent}{M:Eng.Mem}{P:Program}{PK:PKT}{T1 T2 U:TypeId}{W w w0:ao}{a way:Int}{args:Array aq}{b cap d f fb i j most p rb sz tb:Nat}{c v v2 va vc vk:aq}{cb:Array Bool}{cs news xs:List aq}{e:Eng.Ent}{k':IntKind}{key:List UInt8}{l:List Nat}{o:Ob}{q:Bool}{xo yo:Operand}{α:Type}{t0 t1 t2:aq}{k0:Eng.KT}
section
open Eng
def vZ(t0 t1 w)(K:KT):=nz f353 1 [] [] [] (zg [0,1] [t0,t1]) w K
theorem C9:vZ t0 t1 w k0->Calls ah 353 #[t0,t1] w k0:=cw func353
def Cr(t0 w)(K:KT):=nz f362 1 [] [] [] (zg [0] [t0]) w K
theorem EE:Cr t0 w k0->Calls ah 362 #[t0] w k0:=cw func362
end
end Go.Proofs.YtlipjfcbjemicaaGreatDoor


namespace Go.Proofs.YtlipjfcbjemicaaGreatDoor
variable{A:Nat->Prop}{C:ao->Prop}{K:VWP}{L:List Eng.Ent}{M:Eng.Mem}{P:Program}{PK:PKT}{T1 T2 U:TypeId}{W w w0:ao}{a way:Int}{args:Array aq}{b cap d f fb i j most p rb sz tb:Nat}{c v v2 va vc vk:aq}{cb:Array Bool}{cs news xs:List aq}{e:Eng.Ent}{k':IntKind}{key:List UInt8}{l:List Nat}{o:Ob}{q:Bool}{xo yo:Operand}{α:Type}{t0 t1 t2:aq}{k0:Eng.KT}
section
open Eng Go.RowKit
theorem qh {v:Ob}{k:List UInt8}(h:Vl.get o k=ax v):v.wt<=o.wt:=by
 unfold Vl.get at h;split at h
 ·split at h
  ·rename_i b c
   obtain⟨a,rfl⟩:=atT.1 h;have:=HE a;omega
  ·cases h
 ·cases h
section
variable {w:ao}{S:Nat->Prop}{w0:ao}{L:List Ent}
end
end
end Go.Proofs.YtlipjfcbjemicaaGreatDoor


namespace Go.Proofs.YtlipjfcbjemicaaGreatDoor
variable{A:Nat->Prop}{C:ao->Prop}{K:VWP}{L:List Eng.Ent}{M:Eng.Mem}{P:Program}{PK:PKT}{T1 T2 U:TypeId}{W w w0:ao}{a way:Int}{args:Array aq}{b cap d f fb i j most p rb sz tb:Nat}{c v v2 va vc vk:aq}{cb:Array Bool}{cs news xs:List aq}{e:Eng.Ent}{k':IntKind}{key:List UInt8}{l:List Nat}{o:Ob}{q:Bool}{xo yo:Operand}{α:Type}{t0 t1 t2:aq}{k0:Eng.KT}
section
open Eng Go.RowKit
namespace Eng
def Ent.two (e f:Ent):Ent:=⟨λk=>e.blk k∨f.blk k,λw=>e.is w∧f.is w∧∀k,e.blk k->¬f.blk k,
 λh k=>⟨e.keep h.1 λb a=>k b (.inl a),f.keep h.2.1 λb a=>k b (.inr a),h.2.2⟩,λh k c=>c.elim (e.lt h.1 k) (f.lt h.2.1 k)⟩
section
variable {S:Nat->Prop}{w w0:ao}{L:List Ent}
theorem cH.split {f:Ent}(c:cH S w0 w (.two e f::L)):cH S w0 w (e::f::L):=by
 obtain⟨⟨he,h,hd⟩,d⟩:=c.all (.two e f) sm;obtain⟨g,a2⟩:=avT.1 c.apart;refine⟨c.grew,λx a=>?_,avT.2 ⟨λx a k b=>?_,avT.2 ⟨λx a k b=>g x a k (.inr b),a2⟩⟩⟩
 ·rcases atL.1 a with rfl|a
  ·exact⟨he,λk b=>d k (.inl b)⟩
  rcases atL.1 a with rfl|a
  ·exact⟨h,λk b=>d k (.inr b)⟩
  ·exact c.all x (auE _ a)
 ·rcases atL.1 a with rfl|a
  ·exact hd k b
  ·exact g x a k (.inl b)
end
end Eng
section
variable {P:Program}{S:ao->Prop}{K:aq->Prop}
theorem gJ {m:Sem Next}(v:aq)(h:∀w,S w->m.run P w=.ok (.value v) w)(k:K v):HDo P S m K:=⟨v,h,k⟩
theorem aI {m:Sem Next}(v:aq)(h:∀w,m.run P w=.ok (.value v) w)(k:K v):HDo P S m K:=⟨v,λw _=>h w,k⟩
end
section
variable {w:ao}{PK:PKT}{K:VWP}{S:Nat->Prop}{w0:ao}{L:List Ent}
theorem gS {T:TypeId}(h:w.heap[b]?=ax (.cells cs.toArray T (0,0)))(a:0 < sz)(d:cs.length=sz):Sl w (bR b 0 1 1) sz 1 cs:=
 ⟨om,ax ⟨b,0,aw⟩,1,rfl,λh=>(by cases h),λp hp=>by cases hp;exact⟨λ_=>rfl,λj u c=>by rw[atK];exact aG (T:=T) h c⟩⟩
end
theorem LQ (x:Int)(w:ao):Ret ah 362 #[ad x] w (λv w'=>v=.bool au∧w=w'):=by
 refine aL λK a=>EE ?_;unfold Cr nz;rw[abD];exact a _ _ ⟨sm,rfl⟩
end
end Go.Proofs.YtlipjfcbjemicaaGreatDoor




namespace Go.Proofs.YtlipjfcbjemicaaGreatDoor
variable{A:Nat->Prop}{C:ao->Prop}{K:VWP}{L:List Eng.Ent}{M:Eng.Mem}{P:Program}{PK:PKT}{T1 T2 U:TypeId}{W w w0:ao}{a way:Int}{args:Array aq}{b cap d f fb i j most p rb sz tb:Nat}{c v v2 va vc vk:aq}{cb:Array Bool}{cs news xs:List aq}{e:Eng.Ent}{k':IntKind}{key:List UInt8}{l:List Nat}{o:Ob}{q:Bool}{xo yo:Operand}{α:Type}{t0 t1 t2:aq}{k0:Eng.KT}
section
open Eng Go.RowKit Go.ChangeShapes Go.WideShapes Go.ChangeAt
set_option maxRecDepth 100000
section
variable {H:Type}{enc:TypeId×aq->H}{W:ao}{sp:Nat->Bool}{held:Bool}
theorem agL {b:Nat}{d:DataW H}{ps:List MemPlace}(a:Value.okWide ah W .any b 25 v)(hd:DataW.Trod enc ah W 0 sp held 25 v d ps):∃o:Ob,OV (InW W) W v o∧o.wt<=Rows.uptoBulk d:=by
 obtain⟨cs,rfl,_⟩:=okWide_struct underlying25 a;obtain⟨fuel,c⟩:=hd;obtain⟨o,e,f,_⟩:=abO fuel _ _ c;exact⟨o,by simpa[Value.cells] using e,f⟩
end
end
section
open Eng
def mH(t0 t1 t12 t13 w)(N1:JT)(K:KT):=nz f45 43 [N1] [nh 9 [13]] [(6,9)] (zg [0,1,12,13] [t0,t1,t12,t13]) w K
def pB(t0 t1 w)(K:KT):=nz f45 1 [] [(9,[13],λs v j w f=>mH (s 0) (s 1) (s 12) (vg v 0) w (f 0) K)] [] (zg [0,1] [t0,t1]) w K
theorem yR:pB t0 t1 w k0->Calls ah 45 #[t0,t1] w k0:=cz [] [(4,[13])] func45
end
section
open Eng Go.RowKit
theorem alK:eP ah 9=true:=krx
theorem MF (va n:aq)(a b:List (List UInt8))(w:ao)(h:Sl w va 1 a.length (bF a))(o:Sl w n 1 b.length (bF b))(t:a.length<=1099511627776) :
  Ret ah 45 #[va,n] w (λr w'=>r=.bool (ai (a=b))∧Below w.heap.size w w'):=by
 refine aL λK j=>yR ?_;unfold pB nz;rw[aZ atN h,aZ atN o];simp only[rs];by_cases hlen:(a.length:Int)≠(b.length:Int)
 ·simp only[atA hlen,i_t];have c:a≠b:=λe=>hlen (by rw[e]);exact j _ _ ⟨by rw[asZ c],(Own.start w).done⟩
 have hle:a.length=b.length:=om
 simp only[asZ hlen,i_f,aZ atN h];refine loop (λvs w'=>∃(i:Nat),vs=[ad i]∧i<=a.length∧a.take i=b.take i∧Own w w' []) (λvs _=>a.length - n0 vs) ⟨0,rfl,om,sm,Own.start w⟩ ?_;rintro vs w2 ⟨i,rfl,hi,he,d⟩ _;simp only[mH,gd,rs,nz];by_cases f:(i:Int) < (a.length:Int)
 ·have p:i < a.length:=om
  have q:i < b.length:=om
  simp only[f,asX,rs];obtain⟨u,v,ca,rfl,k⟩:=bU h om;obtain⟨x,y,cb,rfl,l⟩:=bU o om;refine quiet (gr _ (λ_=>dP atN (show _=ax 1 by kernel_rfl) om om) ?_);refine iL (ae (a[i])) (λs hw=>aB alK ((d.grow hw).old ?_)) ?_
  ·rw[atC,atY];exact k i _ (eW p)
  refine gr _ (λ_=>dP atN (show _=ax 1 by kernel_rfl) om om) ?_;refine iL (ae (b[i])) (λs hw=>aB alK ((d.grow hw).old ?_)) ?_
  ·rw[atC,atY];exact l i _ (eW q)
  refine Xm ?_;intro w3 hw;have d:=d.grow hw;by_cases g:a[i]=b[i]
  ·simp only[g,ne_eq,not_true,asW,i_f,rs];rw[aA om om];refine aS ⟨i+1,rfl,om,?_,d⟩ (by simp[n0,RowKit.intOf];omega);rw[auD p,auD q,he,g]
  ·simp only[g,ne_eq,avD,asX,i_t];have c:a≠b:=λe=>g (by subst e;rfl);exact j _ _ ⟨by rw[asZ c],d.done⟩
 ·simp only[f,asW,rs,nE];have m:a=b:=by
   rw[auG om,auG om] at he;exact he
  exact j _ _ ⟨by rw[atA m],d.done⟩
end
section
open Eng
def rW(t0 t1 w)(K:KT):=nz f24 1 [] [] [] (zg [0,1] [t0,t1]) w K
theorem AA:rW t0 t1 w k0->Calls ah 24 #[t0,t1] w k0:=cw func24
def oO(t0 t1 t12 t13 w)(N1:JT)(K:KT):=nz f46 43 [N1] [nh 9 [13]] [(6,10)] (zg [0,1,12,13] [t0,t1,t12,t13]) w K
def rL(t0 t1 w)(K:KT):=nz f46 1 [] [(9,[13],λs v j w f=>oO (s 0) (s 1) (s 12) (vg v 0) w (f 0) K)] [] (zg [0,1] [t0,t1]) w K
theorem Ap:rL t0 t1 w k0->Calls ah 46 #[t0,t1] w k0:=cz [] [(4,[13])] func46
end
section
open Eng Go.RowKit
theorem VM {x y:aq}(h:Ret P f args w (λv w'=>v=x∧Below w.heap.size w w'))(a:x=y)(b:Own w0 w L)
  (k:∀w',Own w0 w' L->K y w'):dZ P f args w PK K:=by
 refine C5 h ?_;rintro v w' ⟨rfl,c⟩;rw[a];exact k _ (b.grow c)
namespace Ob
 mutual
def eqb:Ob->Ob->Bool
|.mk k n g s ks cs,b=>ai (k=b.k)&&ai (n=b.n)&&ai (g=b.g)&&ai (s=b.s)&&ai (ks=b.keys)&&KY cs b.kids
def KY:List Ob->List Ob->Bool
|[],[]=>av
|a::l,b::m=>eqb a b&&KY l m
|[],_::_=>au
|_::_,[]=>au
end
 mutual
theorem jY:∀a b:Ob,eqb a b=av↔a=b
|.mk k n g s ks cs,.mk k' f h i d c=>by
  have e:=ND cs c;rw[eqb];simp only[atZ,auP];simp only[Ob.k,Ob.n,Ob.g,Ob.s,Ob.keys,Ob.kids,e,Ob.mk.injEq,and_assoc]
theorem ND:∀a b:List Ob,KY a b=av↔a=b
|[],[]=>by simp[KY]
|a::l,b::m=>by
  rw[KY,atZ,jY a b,ND l m];simp
|[],_::_=>by simp[KY]
|_::_,[]=>by simp[KY]
end
theorem amK (a b:Ob):eqb a b=(ai (a.k=b.k)&&ai (a.n=b.n)&&ai (a.g=b.g)&&ai (a.s=b.s)&&ai (a.keys=b.keys)&&KY a.kids b.kids):=by cases a;rw[eqb];rfl
theorem VE {a b:List Ob}(c:i < a.length)(d:i < b.length):KY (a.drop i) (b.drop i)=(eqb a[i] b[i]&&KY (a.drop (i+1)) (b.drop (i+1))):=by
 rw[auL c,auL d,KY]
theorem Zm:∀{a b:List Ob},a.length≠b.length->KY a b=false:=by
 intro a b h;cases he:KY a b with
|false=>rfl
|true=>rw[ND] at he;exact absurd (by rw[he]) h
end Ob
theorem XF {a b:Ob}{r s m:aq}{ca cb:List aq}(w:ao)(k:rE (InW w) w a r va ca)(n:rE (InW w) w b s m cb)(A:a.kids.length<=1000000000)
  (t:∀(i:Nat) (h:i < a.kids.length) (j:i < b.kids.length) (x y:aq) (W:ao),OV (InW W) W x a.kids[i]->OV (InW W) W y b.kids[i]->Ret ah 24 #[x,y] W (λv w'=>v=.bool (Ob.eqb a.kids[i] b.kids[i])∧Below W.heap.size W w')) :
  Ret ah 46 #[va,m] w (λv w'=>v=.bool (Ob.KY a.kids b.kids)∧Below w.heap.size w w'):=by
 refine aL λK l=>Ap ?_;unfold rL nz;rw[aZ atO k.kids.1,aZ atO n.kids.1];simp only[rs];by_cases hlen:(a.kids.length:Int)≠(b.kids.length:Int)
 ·simp only[atA hlen,i_t];exact l _ _ ⟨by rw[Ob.Zm om],(Own.start w).done⟩
 have hle:a.kids.length=b.kids.length:=om
 simp only[asZ hlen,i_f,aZ atO k.kids.1];refine loop (λvs w'=>∃(i:Nat),vs=[.int .i64 i]∧i<=a.kids.length∧Ob.KY a.kids b.kids=Ob.KY (a.kids.drop i) (b.kids.drop i)∧Own w w' []) (λvs _=>a.kids.length - n0 vs) ⟨0,rfl,om,sm,Own.start w⟩ ?_;rintro vs w2 ⟨i,rfl,hi,he,c⟩ _;simp only[oO,gd,rs,nz];by_cases e:(i:Int) < (a.kids.length:Int)
 ·have h:i < a.kids.length:=om
  have j:i < b.kids.length:=om
  simp only[e,asX,rs];obtain⟨x,p,u,f⟩:=JY k h;obtain⟨y,q,z,g⟩:=JY n j;refine quiet (iL _ (λW d=>(f W (cH.keptIn (c.grow d))).1) ?_);refine iL _ (λW d=>(f W (cH.keptIn (c.grow d))).2) ?_;refine iL _ (λW d=>(g W (cH.keptIn (c.grow d))).1) ?_;refine iL _ (λW d=>(g W (cH.keptIn (c.grow d))).2) ?_;refine iH _ (λW d=>Y8 (t i h j x y W (u.at_ (c.grow d)) (z.at_ (c.grow d))) d) ?_;refine gr _ (λW=>bQ (by simp[Op.unary];rfl)) ?_;intro w3 hw;have c:=c.grow hw;rw[Ob.VE h j] at he;cases o:Ob.eqb a.kids[i] b.kids[i] with
 |true=>
   simp only[auO,i_f,rs];rw[aA om om];refine aS ⟨i+1,rfl,om,?_,c⟩ (by simp[n0,RowKit.intOf];omega);rw[he,o];rfl
 |false=>
   simp only[auN,i_t];exact l _ _ ⟨by rw[he,o];rfl,c.done⟩
 ·simp only[e,asW,rs];refine l _ _ ⟨?_,c.done⟩;rw[he,auW om,auW om,Ob.KY]
theorem MB (n:Nat):∀(a b:Ob) (x y:aq) (w:ao),a.wt<=n->a.wt<=1000000000->OV (InW w) w x a->OV (InW w) w y b->Ret ah 24 #[x,y] w (λv w'=>v=.bool (Ob.eqb a b)∧Below w.heap.size w w'):=by
 induction n with
|zero=>intro a b x y w h;have:=a.Jx;omega
|succ n z=>
 intro a b x y w G hw j l;obtain⟨A,va,ca,rfl,e⟩:=j.open;obtain⟨B,H,cb,rfl,f⟩:=l.open;have C:Ob.wts a.kids<=1000000000:=by cases a;rw[Ob.wt] at hw;simp only[Ob.kids];omega
 have D:Pl.tot a.keys<=1000000000:=by cases a;rw[Ob.wt] at hw;simp only[Ob.keys];omega
 have E:=Ob.vC a.kids;rw[Ob.amK];refine aL λK d=>AA ?_;unfold rW nz;refine eI a e.keys.one e.kids.one (Own.start w) λp I c=>?_;refine eI b f.keys.one f.kids.one c λq w2 c=>?_;rw[eO,sA c 1 rfl,eO,sA c 0 rfl];by_cases m:a.k=b.k
 case neg=>simp only[rs,m,asW,azN] at d ⊢;exact d _ _ ⟨rfl,c.done⟩
 simp only[rs,m,asX,GI,LX c 1 rfl,LX c 0 rfl,axV] at d ⊢;by_cases o:a.n=b.n
 case neg=>simp only[rs,o,asW,azN] at d ⊢;exact d _ _ ⟨rfl,c.done⟩
 simp only[rs,o,asX,Yq,ob_g c 1 rfl,ob_g c 0 rfl,axV] at d ⊢;by_cases r:a.g=b.g
 case neg=>simp only[rs,r,asW,azN] at d ⊢;exact d _ _ ⟨rfl,c.done⟩
 simp only[rs,r,asX,Dn,Mb c 1 rfl,Mb c 0 rfl,axV] at d ⊢;by_cases t:a.s=b.s
 case neg=>simp only[rs,t,asW,azN] at d ⊢;exact d _ _ ⟨rfl,c.done⟩
 simp only[rs,t,asX,lE,eN c 1 rfl,eN c 0 rfl,axV] at d ⊢;have F:=Pl.iY a.keys;refine VM (MF A B a.keys b.keys w2 (c.Qz e.keys.1) (c.Qz f.keys.1) om) rfl c λw3 c=>?_;by_cases u:a.keys=b.keys
 case neg=>simp only[rs,u,asW,azN] at d ⊢;exact d _ _ ⟨rfl,c.done⟩
 simp only[rs,u,asX,jL,cX c 1 rfl,cX c 0 rfl,axV] at d ⊢;refine VM (XF w3 (e.in_ c) (f.in_ c) om ?_) rfl c λJ c=>?_
 ·intro i hi L x y W j l;have:=HE hi;exact z _ _ x y W om om j l
 exact d _ _ ⟨rfl,c.done⟩
end
end Go.Proofs.YtlipjfcbjemicaaGreatDoor






namespace Go.Proofs.YtlipjfcbjemicaaGreatDoor
variable{A:Nat->Prop}{C:ao->Prop}{K:VWP}{L:List Eng.Ent}{M:Eng.Mem}{P:Program}{PK:PKT}{T1 T2 U:TypeId}{W w w0:ao}{a way:Int}{args:Array aq}{b cap d f fb i j most p rb sz tb:Nat}{c v v2 va vc vk:aq}{cb:Array Bool}{cs news xs:List aq}{e:Eng.Ent}{k':IntKind}{key:List UInt8}{l:List Nat}{o:Ob}{q:Bool}{xo yo:Operand}{α:Type}{t0 t1 t2:aq}{k0:Eng.KT}
section
open Go
structure Lx where
 off:Int
 sty:List UInt8
 pre:List UInt8
 first:Int
 deriving DecidableEq
namespace Lb
end Lb
end
end Go.Proofs.YtlipjfcbjemicaaGreatDoor



namespace Go.Proofs.YtlipjfcbjemicaaGreatDoor
variable{A:Nat->Prop}{C:ao->Prop}{K:VWP}{L:List Eng.Ent}{M:Eng.Mem}{P:Program}{PK:PKT}{T1 T2 U:TypeId}{W w w0:ao}{a way:Int}{args:Array aq}{b cap d f fb i j most p rb sz tb:Nat}{c v v2 va vc vk:aq}{cb:Array Bool}{cs news xs:List aq}{e:Eng.Ent}{k':IntKind}{key:List UInt8}{l:List Nat}{o:Ob}{q:Bool}{xo yo:Operand}{α:Type}{t0 t1 t2:aq}{k0:Eng.KT}
section
open Eng Go.RowKit
theorem WQ (h:Calls ah f args w λe w'=>e=.returned v∧Below w.heap.size w w'):Ret ah f args w (λv' w'=>v'=v∧Below w.heap.size w w'):=
 Calls.mono h λe w' ⟨he,a⟩=>⟨v,he,rfl,a⟩
theorem Vg (s:List UInt8)(c:Nat)(w:ao)(a:s.length*c<=100000000)(b:c<=100000000):Ret ah 189 #[ae s,ad c] w (λv w'=>v=ae (Lib.repeatL s c)∧Below w.heap.size w w'):=by
 have:=Tryz.strings_Repeat ⟨s.toArray⟩ c w om (by show s.toArray.size*c<=_;simp;omega);exact WQ (by simpa using this)
theorem BB (s:List UInt8):∀c,Lib.repeatL s (c+1)=Lib.repeatL s c++s
|0=>by simp[Lib.repeatL]
|c+1=>by
  have a:Lib.repeatL s (c+1+1)=s++Lib.repeatL s (c+1):=rfl;have b:Lib.repeatL s (c+1)=s++Lib.repeatL s c:=rfl;rw[a,BB s c,<-atJ,<-b,BB s c]
end
end Go.Proofs.YtlipjfcbjemicaaGreatDoor








namespace Go.Proofs.YtlipjfcbjemicaaGreatDoor
variable{A:Nat->Prop}{C:ao->Prop}{K:VWP}{L:List Eng.Ent}{M:Eng.Mem}{P:Program}{PK:PKT}{T1 T2 U:TypeId}{W w w0:ao}{a way:Int}{args:Array aq}{b cap d f fb i j most p rb sz tb:Nat}{c v v2 va vc vk:aq}{cb:Array Bool}{cs news xs:List aq}{e:Eng.Ent}{k':IntKind}{key:List UInt8}{l:List Nat}{o:Ob}{q:Bool}{xo yo:Operand}{α:Type}{t0 t1 t2:aq}{k0:Eng.KT}
section
open Go
namespace Vl
theorem A8 (key:List UInt8):∀(ks:List (List UInt8)) (cs:List Ob),key ∉ (cY key ks cs).1
|[],_=>by simp[cY]
|_::_,[]=>by simp[cY]
|a::ks,c::cs=>by
  rw[cY];split
  ·exact A8 key ks cs
  ·rename_i h
   simp only[atL,not_or];exact⟨λe=>h e.symm,A8 key ks cs⟩
theorem Hf (key:List UInt8):∀(ks:List (List UInt8)) (cs:List Ob),(cY key ks cs).1.length=(cY key ks cs).2.length
|[],_=>by simp[cY]
|_::_,[]=>by simp[cY]
|a::ks,c::cs=>by
  rw[cY];split
  ·exact Hf key ks cs
  ·simp[Hf key ks cs]
theorem CV (key:List UInt8):∀(ks:List (List UInt8)) (cs:List Ob),(cY key ks cs).1.Sublist ks
|[],_=>by simp[cY]
|_::_,[]=>by simp[cY]
|a::ks,c::cs=>by
  rw[cY];split
  ·exact (CV key ks cs).trans (List.sublist_cons_self _ _)
  ·exact (CV key ks cs).cons_cons _
theorem CS (key:List UInt8):∀(ks:List (List UInt8)) (cs:List Ob),(cY key ks cs).2.Sublist cs
|[],_=>by simp[cY]
|_::_,[]=>by simp[cY]
|a::ks,c::cs=>by
  rw[cY];split
  ·exact (CS key ks cs).trans (List.sublist_cons_self _ _)
  ·exact (CS key ks cs).cons_cons _
theorem Q6 (o:Ob)(key:List UInt8):get (aM o key) key=none:=by
 unfold get;split
 ·rw[asT];rw[aAK];exact A8 key o.keys o.kids
 ·rfl
theorem Pp {l:List (List UInt8)}:key ∉ l.take (place l key):=by
 intro h;obtain⟨m,hm,he⟩:=awK h;rw[atF] at hm;have a:m < place l key:=om
 have:=RZ a;rw[azP] at he;rw[he,yH] at this;cases this
theorem YH {v:Ob}(a:keyed o=av)(c:o.keys.length=o.kids.length):get (put o key v) key=ax v:=by
 have hp:=xV o.keys key;unfold get;rw[show keyed (put o key v)=keyed o from rfl,a,asU rfl];have e:(put o key v).keys=o.keys.take (place o.keys key)++key::o.keys.drop (place o.keys key+if hit o.keys key then 1 else 0):=rfl;have b:(put o key v).kids=o.kids.take (place o.keys key)++v::o.kids.drop (place o.keys key+if hit o.keys key then 1 else 0):=rfl;have hi:(put o key v).keys.idxOf key=place o.keys key:=by
  rw[e];refine adM (by simp;omega) ?_ ?_
  ·rw[avW (by rw[atF];omega)];exact Pp
  ·rw[aAM (by rw[atF];omega)];simp[atF,auM hp]
 rw[hi,asU (by rw[e];simp;omega),b,avU (by rw[atF];omega),atF];have:place o.keys key - min (place o.keys key) o.kids.length=0:=om
 rw[this];rfl
theorem Ml {d:Nat}:∀{os:List Ob},nN d os=0↔∀o∈os,check d o=0
|[]=>by simp[nN]
|o::os=>by
  rw[nN];split
  ·rename_i h
   constructor
   ·intro e;exact absurd e h
   ·intro e;exact absurd (e o auV) h
  ·rename_i h
   have h:=ayL.1 h;rw[Ml];simp[h]
theorem abC (l:List (List UInt8))(h:i < l.length):l.getD i []=l[i]:=by rw[atD,atI h];rfl
theorem qJ :rising o=av↔o.keys.length=o.kids.length∧NX o.keys∧(∀k∈o.keys,name k=av∧(o.k=9->k≠qF))∧∀c∈o.kids,c.k≠0:=by
 unfold rising;simp only[atZ,auP,avY,avG];constructor
 ·rintro⟨q,h⟩;have f:∀i (hi:i < o.keys.length),name o.keys[i]=av∧(i=0∨less (o.keys.getD (i - 1) []) o.keys[i]=av)∧(o.k=9->o.keys[i]≠qF)∧(o.kids[i]'(om)).k≠0:=by
   intro i hi;have:=h i hi;unfold Az at this;rw[abC _ hi,atD (l:=o.kids),atI (by omega:i < o.kids.length)] at this;simp only[atZ,axS,auP,awW,awY,ayQ,avL] at this;obtain⟨⟨⟨a,b⟩,c⟩,e⟩:=this;exact⟨a,b,λp g=>c.elim (λx=>x p) (λx=>x g),e⟩
  refine⟨q,?_,?_,?_⟩
  ·refine axX.2 λi j hi m s=>?_;have step:∀i (hi:i+1 < o.keys.length),less o.keys[i] o.keys[i+1]=true:=by
    intro i hi;have:=(f (i+1) hi).2.1;rcases this with n|n
    ·omega
    ·rwa [axQ,abC _ (by omega:i < o.keys.length)] at n
   have:∀d,∀j (m:j < o.keys.length),j=i+1+d->less o.keys[i] o.keys[j]=true:=by
    intro d
    induction d with
   |zero=>intro j m he;subst he;exact step i m
   |succ d t=>
     intro j m he;subst he;exact qI (t (i+1+d) om rfl) (step (i+1+d) m)
   exact this (j - (i+1)) j m om
  ·intro k g;obtain⟨i,hi,rfl⟩:=awK g;exact⟨(f i hi).1,(f i hi).2.2.1⟩
  ·intro c r;obtain⟨i,hi,rfl⟩:=awK r;exact (f i om).2.2.2
 ·rintro⟨q,u,g,r⟩;refine⟨q,λi hi=>?_⟩;unfold Az;rw[abC _ hi,atD (l:=o.kids),atI (by omega:i < o.kids.length)];simp only[atZ,axS,auP,awW,awY,ayQ,avL];refine⟨⟨⟨(g _ (atP hi)).1,?_⟩,?_⟩,r _ (atP _)⟩
  ·rcases awB i with n|n
   ·exact .inl n
   ·refine .inr ?_;rw[abC _ (by omega:i - 1 < o.keys.length)];exact uR u om hi
  ·by_cases p:o.k=9
   ·exact .inr ((g _ (atP hi)).2 p)
   ·exact .inl p
theorem fU :check d o=0↔(d<=24∧gB o=av∧(o.k=9->d<=1)∧fits o=av∧o.s.length<=long o.k∧o.kids.length<=8191∧form o=av)∧∀c∈o.kids,check (d+1) c=0:=by
 rw[E3];have hw:why d o=0↔(d<=24∧gB o=av∧(o.k=9->d<=1)∧fits o=av∧o.s.length<=long o.k∧o.kids.length<=8191∧form o=av):=by
  unfold why;split
  ·simp;omega
  rename_i m
  split
  ·rename_i f
   simp only[show (10:Int)≠0 by decide,false_iff,not_and];rintro - a b;rcases f with f|f
   ·rw[f] at a;cases a
   ·have:=b f.1;omega
  rename_i f
  simp only[not_or,Bool.not_eq_false,not_and,Nat.not_lt] at f;split
  ·rename_i g;simp[g]
  rename_i g
  split
  ·rename_i j;simp;intros;omega
  rename_i j
  split
  ·rename_i l;simp;intros;omega
  rename_i l
  split
  ·rename_i i;simp[i]
  rename_i i
  simp only[Bool.not_eq_false] at g i;exact⟨λ_=>⟨om,f.1,f.2,g,om,om,i⟩,λ_=>rfl⟩
 split
 ·rename_i h
  constructor
  ·intro e;exact absurd e h
  ·intro e;exact absurd (hw.2 e.1) h
 ·rename_i h
  have h:=ayL.1 h;rw[Ml];exact⟨λe=>⟨hw.1 h,e⟩,λe=>e.2⟩
theorem eZ (h:check d o=0)(i:keyed o=av):check d (aM o key)=0:=by
 obtain⟨⟨p,a2,a3,a4,a5,q,e⟩,j⟩:=fU.1 h;have s1:=CV key o.keys o.kids;have s2:=CS key o.keys o.kids;have f:o.k=7∨o.k=9:=by simpa[keyed] using i
 have m:(aM o key).k=o.k:=rfl;have a:(aM o key).keys=(cY key o.keys o.kids).1:=rfl;have b:(aM o key).kids=(cY key o.keys o.kids).2:=rfl;refine fU.2 ⟨⟨p,?_,a3,a4,a5,?_,?_⟩,λc l=>j c (s2.subset l)⟩
 ·unfold gB at a2 ⊢;rw[m];rcases f with r|t
  ·rw[r] at a2 ⊢;simpa[used,show (aM o key).n=o.n from rfl,show (aM o key).g=o.g from rfl,show (aM o key).s=o.s from rfl] using a2
  ·rw[t] at a2 ⊢;simpa[used,show (aM o key).n=o.n from rfl,show (aM o key).g=o.g from rfl,show (aM o key).s=o.s from rfl] using a2
 ·rw[b];exact avH s2.length_le q
 ·unfold form at e ⊢;rw[m];simp only[atZ] at e ⊢;refine⟨e.1,?_⟩;rw[atA f] at e ⊢;have u:rising o=true:=by simpa using e.2
  obtain⟨y,v,w,x⟩:=qJ.1 u;have:rising (aM o key)=true:=by
   refine qJ.2 ⟨?_,?_,?_,?_⟩
   ·rw[a,b];exact Hf key _ _
   ·rw[a];exact List.Pairwise.sublist s1 v
   ·rw[a];exactλk i=>w k (s1.subset i)
   ·rw[b];exactλc j=>x c (s2.subset j)
  simp[this]
end Vl
namespace Dk
end Dk
end
end Go.Proofs.YtlipjfcbjemicaaGreatDoor


namespace Go.Proofs.YtlipjfcbjemicaaGreatDoor
variable{A:Nat->Prop}{C:ao->Prop}{K:VWP}{L:List Eng.Ent}{M:Eng.Mem}{P:Program}{PK:PKT}{T1 T2 U:TypeId}{W w w0:ao}{a way:Int}{args:Array aq}{b cap d f fb i j most p rb sz tb:Nat}{c v v2 va vc vk:aq}{cb:Array Bool}{cs news xs:List aq}{e:Eng.Ent}{k':IntKind}{key:List UInt8}{l:List Nat}{o:Ob}{q:Bool}{xo yo:Operand}{α:Type}{t0 t1 t2:aq}{k0:Eng.KT}
section
open Go
namespace Vl
def lk (k:List UInt8):List (List UInt8)->List Ob->Option Ob
|a::ks,c::cs=>if a=k then ax c else lk k ks cs
|_,_=>aw
theorem ahG (k:List UInt8):∀(ks:List (List UInt8)) (cs:List Ob),(if ks.idxOf k < ks.length then cs[ks.idxOf k]? else aw)=lk k ks cs
|[],cs=>by simp[lk]
|a::ks,[]=>by simp[lk]
|a::ks,c::cs=>by
  rw[lk,<-ahG k ks cs,List.idxOf_cons];by_cases h:a=k
  ·subst h;simp
  ·have b:(a==k)=false:=by simpa using h
   simp[b,h]
theorem Ys {k:List UInt8}:∀{ks:List (List UInt8)} {cs:List Ob} (b:List (List UInt8)) (d:List Ob),ks.length=cs.length->lk k (ks++b) (cs++d)=(lk k ks cs).or (lk k b d)
|[],[],_,_,_=>by simp[lk]
|[],c::cs,_,_,h=>by simp at h
|a::ks,[],_,_,h=>by simp at h
|a::ks,c::cs,b,d,h=>by
  rw[axF,axF,lk,lk,Ys b d (by simpa using h)];split<;>rfl
theorem MJ {k:List UInt8}{v:Ob}(e:o.keys.length=o.kids.length)(a:key≠k):get (put o key v) k=get o k:=by
 unfold get;rw[show keyed (put o key v)=keyed o from rfl,ahG,ahG]
 congr 1
 have hp:=xV o.keys key;rw[show (put o key v).keys=o.keys.take (place o.keys key)++key::o.keys.drop (place o.keys key+if hit o.keys key then 1 else 0) from rfl,
  show (put o key v).kids=o.kids.take (place o.keys key)++v::o.kids.drop (place o.keys key+if hit o.keys key then 1 else 0) from rfl,
  Ys _ _ (by rw[atF,atF];omega),lk,asT a]
 conv=>rhs;rw[<-auR (place o.keys key) o.keys,<-auR (place o.keys key) o.kids,Ys _ _ (by rw[atF,atF];omega)]
 congr 1
 by_cases b:hit o.keys key=av
 ·rw[asU b];have c:o.keys[place o.keys key]?=ax key:=by simpa[hit] using b
  obtain⟨d,c⟩:=atT.1 c;rw[auL (i:=place o.keys key) d,auL (i:=place o.keys key) (l:=o.kids) om,lk,asT (by rw[c];exact a)]
 ·rw[asT b];rfl
end Vl
namespace Dk
end Dk
namespace Pg
section
variable {d:Dc}{j:It}{o o':Ob}
end
end Pg
end
end Go.Proofs.YtlipjfcbjemicaaGreatDoor





namespace Go.Proofs.YtlipjfcbjemicaaGreatDoor
variable{A:Nat->Prop}{C:ao->Prop}{K:VWP}{L:List Eng.Ent}{M:Eng.Mem}{P:Program}{PK:PKT}{T1 T2 U:TypeId}{W w w0:ao}{a way:Int}{args:Array aq}{b cap d f fb i j most p rb sz tb:Nat}{c v v2 va vc vk:aq}{cb:Array Bool}{cs news xs:List aq}{e:Eng.Ent}{k':IntKind}{key:List UInt8}{l:List Nat}{o:Ob}{q:Bool}{xo yo:Operand}{α:Type}{t0 t1 t2:aq}{k0:Eng.KT}
section
open Eng Go.RowKit
theorem Br {k:IntKind}{b:Int}:DoX P (mB .max #[T1,T2] U cb #[.int k a,.int k' b]) w PK K=K (.int k (max a b)) w:=by
 refine aC ?_;have e:(if a < b then b else a)=max a b:=by split<;>omega
 simp[mB,builtin,Builtin.max_,Builtin.max2,e]
section
variable {w:ao}{PK:PKT}{K:VWP}{S:Nat->Prop}{w0:ao}{L:List Ent}
theorem bD {off:Nat}:DoX ah (Jf (af b off)) w PK K=K (af b off) w:=aC rfl
end
end
section
open Go
namespace Fl
def bit (s:List UInt8)(p:Nat):Nat:=(s.getD (p / 8) 0).toNat / 2 ^ (p % 8) % 2
theorem Ww (s:List UInt8)(p:Nat):bit s p < 2:=awC _ dc
def num (s:List UInt8)(p:Nat):Nat->Nat
|0=>0
|n+1=>num s p n+bit s (p+n)*2 ^ n
theorem Cm (s:List UInt8)(p:Nat):∀n,num s p n < 2 ^ n
|0=>by rw[num];decide
|n+1=>by
  have a:=Cm s p n;have b:=Ww s (p+n);rw[num,awD];rcases (by omega:bit s (p+n)=0∨bit s (p+n)=1) with h|h<;>rw[h]<;>omega
def iE (lens:List Nat):Nat->Nat
|0=>0
|l+1=>iE lens l+lens.count (l+1)*2 ^ (15 - (l+1))
def bH (lens:List Nat):Nat->Nat
|0=>0
|l+1=>bH lens l+lens.count (l+1)
def check (lens:List Nat):Int:=if iE lens 15=32768∨bH lens 15=0∨(bH lens 15=1∧lens.count 1=1) then 0 else 13
def first (lens:List Nat):Nat->Nat
|0=>0
|1=>0
|l+2=>2*(first lens (l+1)+lens.count (l+1))
theorem TQ {lens:List Nat}:∀l,iE lens l<=l*(lens.length*32768)
|0=>by simp[iE]
|l+1=>by
  have a:=TQ (lens:=lens) l;have b:lens.count (l+1)*2 ^ (15 - (l+1))<=lens.length*32768:=awX ayN (by
   have:2 ^ (15 - (l+1))<=2 ^ 15:=avP dc om;simpa using this)
  rw[iE,awM];omega
theorem JV {lens:List Nat}:∀l,bH lens l<=l*lens.length
|0=>by simp[bH]
|l+1=>by
  have a:=JV (lens:=lens) l;have b:lens.count (l+1)<=lens.length:=ayN;rw[bH,awM];omega
theorem MT {lens:List Nat}:∀l,first lens l<=4 ^ l*lens.length
|0=>by simp[first]
|1=>by simp[first]
|l+2=>by
  have b:=MT (lens:=lens) (l+1);have c:lens.count (l+1)<=lens.length:=ayN;have a:4 ^ (l+2)*lens.length=4*(4 ^ (l+1)*lens.length):=by rw[awD 4 (l+1),awN (4 ^ (l+1)) 4,ayV]
  have d:1*lens.length<=4 ^ (l+1)*lens.length:=auY _ (Nat.one_le_pow _ _ dc);rw[first,a];omega
end Fl
end
section
open Eng
def Mf(t0 w)(K:KT):=nz f273 1 [] [] [] (zg [0] [t0]) w K
theorem Nz:Mf t0 w k0->Calls ah 273 #[t0] w k0:=cw func273
def oZ(t0 t1 w)(K:KT):=nz f340 1 [] [] [] (zg [0,1] [t0,t1]) w K
theorem qR:oZ t0 t1 w k0->Calls ah 340 #[t0,t1] w k0:=cw func340
def oX(t0 t1 w)(K:KT):=nz f349 1 [] [] [] (zg [0,1] [t0,t1]) w K
theorem rV:oX t0 t1 w k0->Calls ah 349 #[t0,t1] w k0:=cw func349
def tE(t5 w)(K:KT):=nz f355 15 [] [] [] (zg [5] [t5]) w K
def zZ(t0 t1 w)(K:KT):=nz f355 1 [] [(12,[],λs v j w f=>tE (s 5) w K)] [(1,18)] (zg [0,1] [t0,t1]) w K
theorem Et:zZ t0 t1 w k0->Calls ah 355 #[t0,t1] w k0:=cz [(6,[])] [] func355
def rD(t8 w)(K:KT):=nz f346 63 [] [] [] (zg [8] [t8]) w K
def qM(t8 t35 w)(N1:JT)(K:KT):=nz f346 983 [N1] [nh 15 [8,35]] [] (zg [8,35] [t8,t35]) w K
def rO(t0 t1 t2 t8 t34 t35 w)(N1:JT)(K:KT):=nz f346 87 [N1] [nh 15 [8,35],(26,[8],λs v j w f=>qM (vg v 0) (s 35) w (f 0) K),(32,[],λs v j w f=>rD (s 8) w K)] [] (zg [0,1,2,8,34,35] [t0,t1,t2,t8,t34,t35]) w K
def wD(t0 t1 t2 w)(K:KT):=nz f346 1 [] [(15,[8,35],λs v j w f=>rO (s 0) (s 1) (s 2) (vg v 0) (s 34) (vg v 1) w (f 0) K)] [] (zg [0,1,2] [t0,t1,t2]) w K
theorem CX:wD t0 t1 t2 w k0->Calls ah 346 #[t0,t1,t2] w k0:=cz [(13,[8]),(16,[])] [(7,[8,35])] func346
def zF(t0 t1 w)(K:KT):=nz f332 1 [] [] [] (zg [0,1] [t0,t1]) w K
theorem Ef:zF t0 t1 w k0->Calls ah 332 #[t0,t1] w k0:=cw func332
def pH(t0 w)(K:KT):=nz f333 7 [] [] [] (zg [0] [t0]) w K
def tP(t0 w)(K:KT):=nz f333 1 [] [(6,[],λs v j w f=>pH (s 0) w K)] [] (zg [0] [t0]) w K
theorem BH:tP t0 w k0->Calls ah 333 #[t0] w k0:=cz [(3,[])] [] func333
def zK(t0 t1 w)(K:KT):=nz f336 1 [] [] [(3,13),(6,17)] (zg [0,1] [t0,t1]) w K
theorem ED:zK t0 t1 w k0->Calls ah 336 #[t0,t1] w k0:=cw func336
def A4(t0 w)(K:KT):=nz f275 1 [] [] [] (zg [0] [t0]) w K
theorem Gv:A4 t0 w k0->Calls ah 275 #[t0] w k0:=cw func275
def wN(t0 w)(K:KT):=nz f354 1 [] [] [(3,18)] (zg [0] [t0]) w K
theorem Dh:wN t0 w k0->Calls ah 354 #[t0] w k0:=cw func354
end
section
open Eng Go.RowKit
theorem aaO:∀n:Fin 256,LL .i64 (n.val:Int) 1=((n.val % 2:Nat):Int):=by decide +kernel
theorem and1 {n:Nat}(h:n < 256):LL .i64 (n:Int) 1=((n % 2:Nat):Int):=aaO ⟨n,h⟩
theorem ahK {v:Nat}(a:v < 2 ^ i)(f:b < 2)(hi:i<=30):bOr .i64 (v:Int) ((b*2 ^ i:Nat):Int)=((v+b*2 ^ i:Nat):Int):=by
 have hp:2 ^ i<=2 ^ 30:=avP dc hi;have c:(2:Nat) ^ 30=1073741824:=dc
 have d:b*2 ^ i<=2 ^ 30:=by
  have:b*2 ^ i<=1*2 ^ i:=auY _ om;omega
 have e:v ||| b*2 ^ i=v+b*2 ^ i:=by
  have:=aAN a b;rw[Nat.or_comm,awN b,<-this,axT]
 unfold bOr;show IntKind.wrap .i64 (((BitVec.ofInt 64 (v:Int) ||| BitVec.ofInt 64 ((b*2 ^ i:Nat):Int)).toNat:Nat):Int)=_;rw[BitVec.ofInt_natCast,BitVec.ofInt_natCast,BitVec.toNat_or,BitVec.toNat_ofNat,BitVec.toNat_ofNat,avF om,avF om,e];exact aA om om
theorem RH (a n:Nat):((a:Nat):Int).fdiv (2 ^ n)=((a / 2 ^ n:Nat):Int):=by
 rw[aAI _ (by exact Int.pow_nonneg dc)]
 push_cast
 rfl
def bqC (s:List UInt8)(way:Int)(p:Nat):List Value:=[ad way,ad ((p % 8:Nat):Int),ae s,ad ((p / 8:Nat):Int)]
def bqE (b:Nat)(s:List UInt8)(way:Int)(p:Nat):Ent:=.cells b (bqC s way p) 317
theorem Yy:kC ah 317 0=ax 0:=krx
theorem Ty:kC ah 317 1=ax 2:=krx
theorem Mg:kC ah 317 2=ax 3:=krx
theorem amP:kC ah 315 0=ax 0:=krx
theorem acS:kC ah 315 1=ax 1:=krx
theorem szSd:(Tryz.prog.info? 315).map (·.size)=ax 2:=krx
theorem WU:eP ah 9=true:=krx
section
variable {w:ao}{PK:PKT}{K:VWP}{S:Nat->Prop}{w0:ao}{L:List Ent}
theorem DU {off:Nat}:DoX ah (mFA 317 (af b off) 0) w PK K=K (af b off) w:=aO Yy
theorem HW {off:Nat}:DoX ah (mFA 317 (af b off) 2) w PK K=K (af b (off+3)) w:=aO Mg
theorem LH {off:Nat}:DoX ah (mFA 315 (af b off) 0) w PK K=K (af b off) w:=aO amP
theorem wU {off:Nat}:DoX ah (mFA 315 (af b off) 1) w PK K=K (af b (off+1)) w:=aO acS
theorem Qh (a:cH S w0 w L)(j:Nat){s:List UInt8}(hi:L[j]?=ax (bqE b s way p)):DoX ah (aK 3 (af b (0+1))) w PK K=K (ad ((p % 8:Nat):Int)) w:=aR bZ (a.cell j hi 1 rfl)
theorem aoX (a:cH S w0 w L)(j:Nat){s:List UInt8}(hi:L[j]?=ax (bqE b s way p)):DoX ah (aK 3 (af b (0+3))) w PK K=K (ad ((p / 8:Nat):Int)) w:=aR bZ (a.cell j hi 3 rfl)
end
section
variable {W:ao}{b:Nat}{s:List UInt8}{way:Int}{p:Nat}
theorem Hp (h:(bqE b s way p).is W):(aK 3 (af b (0+1))).run ah W=.ok (.value (ad ((p % 8:Nat):Int))) W:=aB bZ (aG (T:=317) (cs:=bqC s way p) h rfl)
theorem Nd (h:(bqE b s way p).is W):(aK 9 (af b (0+2))).run ah W=.ok (.value (ae s)) W:=aB WU (aG (T:=317) (cs:=bqC s way p) h rfl)
theorem xR (h:(bqE b s way p).is W):(aK 3 (af b (0+3))).run ah W=.ok (.value (ad ((p / 8:Nat):Int))) W:=aB bZ (aG (T:=317) (cs:=bqC s way p) h rfl)
theorem Uu (h:(bqE b s way p).is W):Ret ah 349 #[af b 0,ad 1] W (λv w'=>v=ad ((p % 8:Nat):Int)∧Below W.heap.size W w'):=by
 refine aL λK a=>rV ?_;unfold oX nz;simp only[rs,asX,bD];rw[wU];refine aC (Hp h) |>.mpr ?_;exact a _ _ ⟨rfl,(Own.start W).done⟩
theorem Vk (h:(bqE b s way p).is W)(hw:way=0∨way=1):Ret ah 340 #[af b 0,ad 1] W (λv w'=>v=.bool au∧Below W.heap.size W w'):=by
 refine aL λK a=>qR ?_;unfold oZ nz;have r:=aB (P:=ah) (T:=3) bZ (aG (T:=317) (cs:=bqC s way p) h (i:=0) rfl);rw[bD,LH];refine aC r |>.mpr ?_;rcases hw with rfl|rfl
 ·simp only[rs,ne_eq,not_true,asW,nE];exact a _ _ ⟨rfl,(Own.start W).done⟩
 ·simp only[rs,show ai ((1:Int)≠0)=av by decide,bD];rw[LH];refine aC r |>.mpr ?_;simp only[rs,ne_eq,not_true,asW];exact a _ _ ⟨rfl,(Own.start W).done⟩
end
def rqE (b:Nat)(s:List UInt8)(way u a:Int):Ent:=.cells b [ad way,ad u,ae s,ad a] 317
section
variable {w:ao}{PK:PKT}{K:VWP}{S:Nat->Prop}{w0:ao}{L:List Ent}
theorem aiQ (c:cH S w0 w L)(j:Nat){s:List UInt8}{u:Int}(hi:L[j]?=ax (rqE b s way u a)):DoX ah (aK 3 (af b (0+1))) w PK K=K (ad u) w:=aR bZ (c.cell j hi 1 rfl)
theorem aqR (c:cH S w0 w L)(j:Nat){s:List UInt8}{u:Int}(hi:L[j]?=ax (rqE b s way u a)):DoX ah (aK 3 (af b (0+3))) w PK K=K (ad a) w:=aR bZ (c.cell j hi 3 rfl)
theorem V4 (j:Nat){s:List UInt8}{u c:Int}(d:cH S w0 w L)(hi:L[j]?=ax (rqE b s way u a))(k:∀w',cH S w0 w' (L.set j (rqE b s way c a))->K undef w'):DoX ah (aV 3 (af b (0+1)) (ad c)) w PK K:=aN j d hi krx rfl (by show 0+1 < 4;omega) k
theorem QV (j:Nat){s:List UInt8}{u a':Int}(c:cH S w0 w L)(hi:L[j]?=ax (rqE b s way u a))(k:∀w',cH S w0 w' (L.set j (rqE b s way u a'))->K undef w'):DoX ah (aV 3 (af b (0+3)) (ad a')) w PK K:=aN j c hi krx rfl (by show 0+3 < 4;omega) k
theorem agM (j:Nat){s:List UInt8}{u way':Int}(c:cH S w0 w L)(hi:L[j]?=ax (rqE b s way u a))(k:∀w',cH S w0 w' (L.set j (rqE b s way' u a))->K undef w'):DoX ah (aV 3 (af b 0) (ad way')) w PK K:=aN j c hi krx rfl (by show 0 < 4;omega) k
theorem apT {s:List UInt8}(j:Nat)(a:cH S w0 w L)(c:L[j]?=ax (bqE b s way p))(hp:p < 8*s.length)(t:s.length<=1000000000)
  (k:∀W,cH S w0 W (L.set j (bqE b s way (p+1)))->K (ad (Fl.bit s p)) W):dZ ah 355 #[af b 0,ad 1] w PK K:=by
 have d:j < L.length:=(atT.1 c).1;refine fY (Et (k0:=wM λv W=>v=ad (Fl.bit s p)∧cH S w0 W (L.set j (bqE b s way (p+1)))) ?_) (λe W ⟨v,he,m,a⟩=>by subst he;subst m;exact k W a);unfold zZ nz;have hi:p / 8 < s.length:=om
 refine cQ (λW=>cH S w0 W L) a.drew ?_;refine gr _ (λ_=>cR) (gr _ (λ_=>bC Ty) (iL _ (λW h=>Nd (h.at_ j c)) ?_));refine gr _ (λ_=>cR) (gr _ (λ_=>bC Mg) (iL _ (λW h=>xR (h.at_ j c)) ?_));refine q_ix atB om (by rw[atC,atI hi]) ?_;refine gr _ (λ_=>bA krx auQ) ?_;have u:=(s[p / 8]).toNat_lt;rw[aA om om];refine gr _ (λ_=>cR) (gr _ (λ_=>bC Yy) ?_);refine iH (ad ((p % 8:Nat):Int)) (λW h=>(Uu (h.at_ j c)).mono λv w' r=>⟨r.1,h.grow r.2⟩) ?_;refine gr _ (λ_=>ZL om) ?_;rw[show min ((p % 8:Nat):Int).toNat IntKind.i64.bits=p % 8 by show min ((p % 8:Nat):Int).toNat 64=p % 8;omega,RH];refine gr _ (λ_=>Zj) ?_;have n:s[p / 8].toNat / 2 ^ (p % 8)<=s[p / 8].toNat:=axD _ _;rw[and1 om];have f:s[p / 8].toNat / 2 ^ (p % 8) % 2=Fl.bit s p:=by
  unfold Fl.bit;rw[atD,atI hi];rfl
 rw[f];intro w2 a;refine join λJ o=>?_;have fin:∀W,cH S w0 W (L.set j (bqE b s way (p+1)))->J [] W:=by
  intro W a;refine o _ _ λ_=>?_;unfold tE nz;exact vB ⟨rfl,a⟩
 rw[bD,DU,wU,Qh a j c];simp only[rs,bD];rw[DU,wU,aA om om];refine V4 j a c λw3 a=>?_;have g:(L.set j (rqE b s way (((p % 8:Nat):Int)+1) ((p / 8:Nat):Int)))[j]?=ax (rqE b s way (((p % 8:Nat):Int)+1) ((p / 8:Nat):Int)):=by rw[awU d]
 rw[DU,wU,aiQ a j g];simp only[rs,bD];by_cases l:((p % 8:Nat):Int)+1=8
 ·simp only[l,asX,i_t,rs,bD];rw[DU,wU];refine V4 j a g λx a=>?_;rw[ayW] at a;have i:(L.set j (rqE b s way 0 ((p / 8:Nat):Int)))[j]?=ax (rqE b s way 0 ((p / 8:Nat):Int)):=by rw[awU d]
  rw[HW,aqR a j i];simp only[rs,bD];rw[HW,aA om om];refine QV j a i λq a=>?_;rw[ayW] at a;refine fin q ?_;have e:rqE b s way 0 (((p / 8:Nat):Int)+1)=bqE b s way (p+1):=by
   unfold rqE bqE bqC;rw[show (p+1) % 8=0 by omega,show (p+1) / 8=p / 8+1 by omega];rfl
  rw[<-e];exact a
 ·simp only[l,asW,i_f];refine fin w3 ?_;have e:rqE b s way (((p % 8:Nat):Int)+1) ((p / 8:Nat):Int)=bqE b s way (p+1):=by
   unfold rqE bqE bqC;rw[show (p+1) % 8=p % 8+1 by omega,show (p+1) / 8=p / 8 by omega];rfl
  rw[<-e];exact a
theorem GS :DoX ah (mEq .eql 275 xo yo (af b 0) (.pointer aw)) w PK K=K (.bool au) w:=aC krx
theorem XI {s:List UInt8}(h:(bqE b s way p).is W)(hp:p<=8*s.length)(d:s.length<=1000000000):Ret ah 354 #[af b 0] W (λv w'=>v=ad ((8*s.length - p:Nat):Int)∧Below W.heap.size W w'):=by
 refine aL λK a=>Dh ?_;unfold wN nz;rw[GS,i_f];have c:cH (bqE b s way p).blk W W [bqE b s way p]:=cH.lend h;refine cQ (λw'=>(bqE b s way p).is w'∧Below W.heap.size W w') ⟨?_,?_⟩ ?_
 ·exact c.drew.at_ 0 rfl
 ·exact (Own.start W).drew.done
 refine gr _ (λ_=>cR) (gr _ (λ_=>bC Ty) (iL _ (λW h=>Nd h.1) (Pq atB ?_)));refine gr _ (λ_=>cR) (gr _ (λ_=>bC Mg) (iL _ (λW h=>xR h.1) (gr _ (λ_=>Ck) ?_)));rw[aA om om];refine gr _ (λ_=>alY) ?_;rw[aA om om];refine gr _ (λ_=>cR) (gr _ (λ_=>bC Yy) (gr _ (λ_=>bC acS) (iL _ (λW h=>Hp h.1) (gr _ (λ_=>Ck) ?_))));rw[aA om om];intro w' hw;refine a _ _ ⟨?_,hw.2⟩
 congr 1
 omega
theorem E7 {L:List α}{e:α}(h:L[j]?=ax e):L.set j e=L:=by
 refine List.ext_getElem? λi=>?_;by_cases hi:i=j
 ·subst hi;rw[awU (atT.1 h).1,h]
 ·rw[azQ (Ne.symm hi)]
theorem aoK {s:List UInt8}{n:Nat}(j:Nat)(a:cH S w0 w L)(g:L[j]?=ax (bqE b s way p))(hw:way=0∨way=1)(hp:p<=8*s.length)(D:n<=24)(q:s.length<=1000000000)
  (u:p+n<=8*s.length->∀W,cH S w0 W (L.set j (bqE b s (if 0 < n then 1 else way) (p+n)))->K (.tuple #[ad (Fl.num s p n),ad 0]) W)
  (x:8*s.length < p+n->∀W,cH S w0 W L->K (.tuple #[ad 0,ad 4]) W):dZ ah 346 #[af b 0,ad (n:Int),ad 1] w PK K:=by
 have h:j < L.length:=(atT.1 g).1;refine fY (CX (k0:=wM λv W=>(p+n<=8*s.length∧v=.tuple #[ad (Fl.num s p n),ad 0]∧cH S w0 W (L.set j (bqE b s (if 0 < n then 1 else way) (p+n))))∨(8*s.length < p+n∧v=.tuple #[ad 0,ad 4]∧cH S w0 W L)) ?_) (λe W ⟨v,he,k⟩=>by
  subst he;rcases k with ⟨l,rfl,a⟩|⟨l,rfl,a⟩
  ·exact u l W a
  ·exact x l W a)
 unfold wD nz;rw[GS];simp only[rs,show ai ((n:Int) < 0)=au from asZ om,show ai ((24:Int) < (n:Int))=au from asZ om,bD];rw[DU];refine aJ a (R:=λv=>v=.bool au) (Vk (a.at_ j g) hw) ?_;rintro _ w2 rfl a;simp only[rs];refine aJ a (R:=λv=>v=ad ((8*s.length - p:Nat):Int)) (XI (a.at_ j g) hp q) ?_;rintro _ w3 rfl a;simp only[rs];by_cases c:((8*s.length - p:Nat):Int) < (n:Int)
 ·simp only[c,asX,i_t];exact vB (.inr ⟨om,rfl,a⟩)
 simp only[c,asW,i_f];refine loop (λvs W=>∃i:Nat,vs=[ad (Fl.num s p i),ad i]∧i<=n∧cH S w0 W (L.set j (bqE b s way (p+i)))) (λvs _=>n - n1 vs) ⟨0,rfl,om,by rw[auU,E7 g];exact a⟩ ?_;clear a;rintro vs y ⟨i,rfl,hi,a⟩ _;simp only[rO,gd,rs,nz];have d:(L.set j (bqE b s way (p+i)))[j]?=ax (bqE b s way (p+i)):=by rw[awU h]
 by_cases f:(i:Int) < (n:Int)
 ·simp only[f,asX,i_t];refine join λJ m=>?_;refine apT j a d om q λr a=>?_;rw[ayW] at a
  try simp only[rs,asX]
  rw[Fa om];have z:=Fl.Ww s (p+i);have k:=Fl.Cm s p i;have A:2 ^ i<=2 ^ 24:=avP dc om;have B:(2:Nat) ^ 24=16777216:=dc
  have C:Fl.bit s (p+i)*2 ^ i<=2 ^ 24:=by
   have:Fl.bit s (p+i)*2 ^ i<=1*2 ^ i:=auY _ om;omega
  rw[show min ((i:Nat):Int).toNat IntKind.i64.bits=i by show min ((i:Nat):Int).toNat 64=i;omega];rw[show ((Fl.bit s (p+i):Nat):Int)*2 ^ i=((Fl.bit s (p+i)*2 ^ i:Nat):Int) by push_cast;rfl];rw[aA om om,b_or,ahK k z om];refine m _ _ λ_=>?_;simp only[qM,gd,rs,nz];rw[aA om om];exact aS ⟨i+1,by rw[Fl.num];rfl,om,a⟩ (by simp[n1,RowKit.intOf];omega)
 ·simp only[f,asW,i_f];have o:i=n:=om
  subst o;refine join λJ m=>?_;have fin:∀W,cH S w0 W (L.set j (bqE b s (if 0 < i then 1 else way) (p+i)))->J [] W:=by
   intro W a;refine m _ _ λ_=>?_;simp only[rD,nz];exact vB (.inl ⟨om,rfl,a⟩)
  by_cases t:0 < i
  ·rw[asU t] at fin;simp only[show ai ((0:Int) < (i:Int))=av from atA om,rs,bD];rw[DU,LH];refine agM (way':=1) j a d λr a=>?_;rw[ayW] at a;exact fin r a
  ·rw[asT t] at fin;simp only[show ai ((0:Int) < (i:Int))=au from asZ om,rs];exact fin y a
theorem ajO {s:List UInt8}{n:Nat}(j:Nat)(a:cH S w0 w L)(d:L[j]?=ax (bqE b s way p))(hw:way=0∨way=1)(hp:p<=8*s.length)(f:n<=24)(g:s.length<=1000000000)
  (h:p+n<=8*s.length->∀W,cH S w0 W (L.set j (bqE b s (if 0 < n then 1 else way) (p+n)))->K (.tuple #[ad (Fl.num s p n),ad 0]) W)
  (i:8*s.length < p+n->∀W,cH S w0 W L->K (.tuple #[ad 0,ad 4]) W):dZ ah 332 #[af b 0,ad (n:Int)] w PK K:=by
 refine fY (Ef (k0:=wM λv W=>(p+n<=8*s.length∧v=.tuple #[ad (Fl.num s p n),ad 0]∧cH S w0 W (L.set j (bqE b s (if 0 < n then 1 else way) (p+n))))∨(8*s.length < p+n∧v=.tuple #[ad 0,ad 4]∧cH S w0 W L)) ?_) (λe W ⟨v,he,k⟩=>by
  subst he;rcases k with ⟨c,rfl,a⟩|⟨c,rfl,a⟩
  ·exact h c W a
  ·exact i c W a)
 unfold zF nz;refine aoK j a d hw hp f g (λc W a=>?_) (λc W a=>?_)
 ·simp only[ex];exact vB (.inl ⟨c,rfl,a⟩)
 ·simp only[ex];exact vB (.inr ⟨c,rfl,a⟩)
end
end
section
open Eng
def vK(t0 t1 w)(K:KT):=nz f272 1 [] [] [] (zg [0,1] [t0,t1]) w K
theorem wT:vK t0 t1 w k0->Calls ah 272 #[t0,t1] w k0:=cw func272
def tO(t0 t1 w)(K:KT):=nz f331 1 [] [] [] (zg [0,1] [t0,t1]) w K
theorem AZ:tO t0 t1 w k0->Calls ah 331 #[t0,t1] w k0:=cw func331
def oM(t0 t1 w)(K:KT):=nz f335 1 [] [] [] (zg [0,1] [t0,t1]) w K
theorem wK:oM t0 t1 w k0->Calls ah 335 #[t0,t1] w k0:=cw func335
def fE(t0 t1 w)(K:KT):=nz f338 1 [] [] [] (zg [0,1] [t0,t1]) w K
theorem jP:fE t0 t1 w k0->Calls ah 338 #[t0,t1] w k0:=cw func338
def pQ(t0 t1 w)(K:KT):=nz f305 1 [] [] [] (zg [0,1] [t0,t1]) w K
theorem xP:pQ t0 t1 w k0->Calls ah 305 #[t0,t1] w k0:=cw func305
def qA(t0 t1 w)(K:KT):=nz f334 1 [] [] [(0,12)] (zg [0,1] [t0,t1]) w K
theorem yE:qA t0 t1 w k0->Calls ah 334 #[t0,t1] w k0:=cw func334
def mJ(a w)(K:KT):=
 nlx a w K λd w=>fax 278 d 0 w K λe w=>ldx 275 e w K λf w=>cx 333 #[f] w K λv w=>cx 305 #[a,(iN 16)] w K λb w=>cx 305 #[a,(iN 16)] w K λg w=>bnx .sub 3 (iN 65535) b w K λh w=>eqx .eql 3 (.tmp 11) (.tmp 13) g h w K λi w=>cx 272 #[i,(iN 3)] w K λx w=>cx 334 #[a,b] w K λy w=>Au w (λS1 w=>HDo ah (λ_=>True) (Jf a) λj=>HDo ah (λ_=>True) (mFA 278 j 1) λk=>HDo ah S1 (aK 53 k) λl=>HDo ah (λ_=>True) (Jf a) λm=>HDo ah (λ_=>True) (mFA 278 m 0) λn=>HDo ah S1 (aK 275 n) λo=>dZ ah 336 #[o,b] w (ay 14 (pk K)) λc w=>S1 w∧(HDo ah (λ_=>True) (At c 0) λp=>HDo ah (λ_=>True) (At c 1) λq=>dZ ah 335 #[p,q] w (ay 14 (pk K)) λr w=>S1 w∧(DoX ah (mB .append #[53,9] 53 #[au,au] #[l,r]) w (ay 14 (pk K)) λs w=>S1 w∧(HDo ah (λ_=>True) (Jf a) λt=>HDo ah (λ_=>True) (mFA 278 t 1) λu=>DoX ah (aV 53 u s) w (ay 14 (pk K)) λ_ w=>(K (.returned (.tuple #[])) w)))))
theorem vH:mJ t0 w k0->Calls ah 306 #[t0] w k0:=cw func306
def oN(t0 w)(K:KT):=nz f307 1 [] [] [] (zg [0] [t0]) w K
theorem wO:oN t0 w k0->Calls ah 307 #[t0] w k0:=cw func307
def jS(a b i e j k c w)(N1:JT)(K:KT):=
 bnx .lss 3 c k w K λl w=>IfX l (iax 123 j c w K λm w=>ldx 3 m w K λn w=>cx 305 #[a,(iN 3)] w K λo w=>iax 308 e n w K λp w=>stx 3 p o w K λ_ w=>bnx .add 3 c (iN 1) w K λq w=>N1 [q] w) (slx 308 e aw aw aw w K λr w=>cx 295 #[r] w K λf w=>exx f 0 w K λs w=>exx f 1 w K λt w=>cx 338 #[s,t] w K λu w=>bnx .add 3 b i w K λv w=>cx 339 #[a,u,v] w K λd w=>iax 123 d (iN 256) w K λx w=>ldx 3 x w K λy w=>bnx .gtr 3 y (iN 0) w K λz w=>cx 272 #[z,(iN 13)] w K λL w=>Au w (λS2 w=>HDo ah S2 (cT 123 d aw (ax b) aw) λA=>HDo ah S2 (cT 123 d (ax b) aw aw) λB=>dZ ah 295 #[A] w (ay 11 (pk K)) λg w=>S2 w∧(HDo ah S2 (At g 0) λC=>HDo ah S2 (At g 1) λD=>dZ ah 338 #[C,D] w (ay 11 (pk K)) λF w=>S2 w∧(dZ ah 295 #[B] w (ay 11 (pk K)) λh w=>S2 w∧(HDo ah S2 (At h 0) λG=>HDo ah S2 (At h 1) λH=>dZ ah 338 #[G,H] w (ay 11 (pk K)) λI w=>S2 w∧(dZ ah 337 #[a,F,I] w (ay 11 (pk K)) λM w=>S2 w∧(K (.returned (.tuple #[])) w)))))))
def lA(t0 w)(K:KT):=nz f308 1 [] [(13,[25],λs v j w f=>jS (s 0) (s 2) (s 3) (s 4) (s 23) (s 24) (vg v 0) w (f 0) K)] [] (zg [0] [t0]) w K
theorem sM:lA t0 w k0->Calls ah 308 #[t0] w k0:=cz [] [(6,[25])] func308
def jO(d e a b f w)(N1:JT)(K:KT):=
 Au w (λS3 w=>HDo ah S3 (mFA 363 b 0) λg=>HDo ah S3 (aK 3 g) λh=>HDo ah S3 (mFA 363 b 1) λi=>HDo ah S3 (aK 3 i) λj=>dZ ah 305 #[d,j] w (ay 7 (pk K)) λk w=>S3 w∧(HDo ah S3 (iA .add 3 h k) λc=>lnx 123 a w K λl w=>bnx .add 3 l c w K λm w=>bnx .leq 3 m e w K λn w=>cx 272 #[n,(iN 3)] w K λr w=>dx (aT 123 1 #[(0,f)]) w K λo w=>cx 320 #[o,c] w K λp w=>apx 123 a p w K λq w=>N1 [q] w))
def jQ(t0 t1 t2 t7 w)(N1:JT)(K:KT):=nz f339 19 [N1] [nh 5 [7],(22,[11],λs v j w f=>jO (s 0) (s 2) (s 7) (s 9) (vg v 0) w (f 0) K)] [] (zg [0,1,2,7] [t0,t1,t2,t7]) w K
def lI(t0 t1 t2 w)(K:KT):=nz f339 1 [] [(5,[7],λs v j w f=>jQ (s 0) (s 1) (s 2) (vg v 0) w (f 0) K)] [] (zg [0,1,2] [t0,t1,t2]) w K
theorem sQ:lI t0 t1 t2 w k0->Calls ah 339 #[t0,t1,t2] w k0:=cz [(11,[11])] [(2,[7])] func339
def lM(t0 t1 t2 w)(N1:JT)(K:KT):=nz f337 2 [N1] [nh 1 []] [] (zg [0,1,2] [t0,t1,t2]) w K
def nX(t0 t1 t2 w)(K:KT):=nz f337 1 [] [(1,[],λs v j w f=>lM (s 0) (s 1) (s 2) w (f 0) K)] [] (zg [0,1,2] [t0,t1,t2]) w K
theorem xA:nX t0 t1 t2 w k0->Calls ah 337 #[t0,t1,t2] w k0:=cz [] [(0,[])] func337
def kM(a c d b w)(N1:JT)(K:KT):=
 bnx .lss 3 b d w K λe w=>IfX e (Au w (λS2 w=>HDo ah (λ_=>True) (Jf a) λf=>HDo ah (λ_=>True) (mFA 278 f 1) λg=>HDo ah S2 (aK 53 g) λh=>HDo ah (λ_=>True) (Jf a) λi=>HDo ah (λ_=>True) (mFA 278 i 1) λj=>HDo ah S2 (aK 53 j) λk=>HDo ah (λ_=>True) (Jf a) λl=>HDo ah (λ_=>True) (mFA 278 l 1) λm=>HDo ah S2 (aK 53 m) λn=>HDo ah (λ_=>True) (mB .len #[53] 3 #[au] #[n]) λo=>HDo ah (λ_=>True) (iA .sub 3 o c) λp=>HDo ah (λ_=>True) (mIA 53 k p) λq=>HDo ah S2 (aK 5 q) λr=>DoX ah (aT 53 1 #[(0,r)]) w (ay 20 (pk K)) λs w=>S2 w∧(DoX ah (mB .append #[53,53] 53 #[au,au] #[h,s]) w (ay 20 (pk K)) λt w=>S2 w∧(HDo ah (λ_=>True) (Jf a) λu=>HDo ah (λ_=>True) (mFA 278 u 1) λv=>DoX ah (aV 53 v t) w (ay 20 (pk K)) λ_ w=>(bnx .add 3 b (iN 1) w K λx w=>N1 [x] w))))) (K (.returned (.tuple #[])) w)
def mN(t0 t1 t2 w)(K:KT):=nz f348 1 [] [(17,[57],λs v j w f=>kM (s 0) (s 8) (s 56) (vg v 0) w (f 0) K)] [] (zg [0,1,2] [t0,t1,t2]) w K
theorem vF:mN t0 t1 t2 w k0->Calls ah 348 #[t0,t1,t2] w k0:=cz [] [(8,[57])] func348
def lG(t3 w)(K:KT):=nz f274 15 [] [] [] (zg [3] [t3]) w K
def nO(t0 w)(K:KT):=nz f274 1 [] [(20,[],λs v j w f=>lG (s 3) w K)] [] (zg [0] [t0]) w K
theorem wC:nO t0 w k0->Calls ah 274 #[t0] w k0:=cz [(10,[])] [] func274
def DP(t0 t1 w)(K:KT):=nz f356 1 [] [] [] (zg [0,1] [t0,t1]) w K
theorem GZ:DP t0 t1 w k0->Calls ah 356 #[t0,t1] w k0:=cw func356
def DN(t0 w)(K:KT):=nz f357 1 [] [] [] (zg [0] [t0]) w K
theorem G3:DN t0 w k0->Calls ah 357 #[t0] w k0:=cw func357
def FT(t0 t1 w)(K:KT):=nz f358 1 [] [] [] (zg [0,1] [t0,t1]) w K
theorem IK:FT t0 t1 w k0->Calls ah 358 #[t0,t1] w k0:=cw func358
def FW(t0 w)(K:KT):=nz f359 1 [] [] [] (zg [0] [t0]) w K
theorem Ir:FW t0 w k0->Calls ah 359 #[t0] w k0:=cw func359
def tF(t0 t1 t2 t6 t8 t9 w)(N1:JT)(K:KT):=nz f364 21 [N1] [nh 5 [1,9]] [] (zg [0,1,2,6,8,9] [t0,t1,t2,t6,t8,t9]) w K
def Ad(t0 t1 t2 w)(K:KT):=nz f364 1 [] [(5,[1,9],λs v j w f=>tF (s 0) (vg v 0) (s 2) (s 6) (s 8) (vg v 1) w (f 0) K)] [] (zg [0,1,2] [t0,t1,t2]) w K
theorem Eh:Ad t0 t1 t2 w k0->Calls ah 364 #[t0,t1,t2] w k0:=cz [] [(2,[1,9])] func364
def rA(t0 t1 w)(K:KT):=nz f363 1 [] [] [] (zg [0,1] [t0,t1]) w K
theorem As:rA t0 t1 w k0->Calls ah 363 #[t0,t1] w k0:=cw func363
def vY(t0 t8 t9 w)(N1:JT)(K:KT):=nz f294 21 [N1] [nh 5 [0,9]] [] (zg [0,8,9] [t0,t8,t9]) w K
def Ch(w)(K:KT):=nz f294 1 [] [(5,[0,9],λs v j w f=>vY (vg v 0) (s 8) (vg v 1) w (f 0) K)] [] (zg [] []) w K
theorem Gc:Ch w k0->Calls ah 294 #[] w k0:=cz [] [(2,[0,9])] func294
end
section
open Eng Go.RowKit
theorem nfI:nD ah 273=true:=krx
def upI (e:Int):PanicEntry:={ v:=.iface 273 (.agg #[ad e]),recovered:=au }
theorem afH (e:Int)(w:ao):Ret ah 272 #[.bool av,ad e] w (λv w'=>v=.tuple #[]∧w=w'):=by
 refine aL λK a=>wT ?_;unfold vK nz;simp only[rs,auO,i_f];exact a _ _ ⟨rfl,rfl⟩
theorem aeR (e:Int)(w:ao):Pan ah 272 #[.bool au,ad e] w (λc w'=>c=[upI e]∧w=w'):=by
 refine VB λK a=>wT ?_;unfold vK nz;simp only[rs,auN,i_t];have b:∀{PK:PKT} {K:VWP},DoX ah (aW 273 #[(0,ad e)]) w PK K=K (.agg #[ad e]) w:=aC krx;rw[b,Np nfI,Jo];exact a _ _ ⟨rfl,rfl⟩
section
variable {w:ao}{PK:PKT}{K:VWP}{S:Nat->Prop}{w0:ao}{L:List Ent}
theorem kF {e:Int}(a:q=av->K (.tuple #[]) w)(b:q=au->PK [upI e] w):dZ ah 272 #[.bool q,ad e] w PK K:=by
 cases q with
|true=>exact qE (afH e w) (a rfl)
|false=>exact agE (aeR e w) λc w' ⟨d,hw⟩=>by subst d;subst hw;exact b rfl
theorem xW {n e:Int}(a:e=0->K (ad n) w)(b:e≠0->PK [upI e] w):dZ ah 331 #[ad n,ad e] w PK K:=by
 refine⟨AZ ?_⟩;unfold tO nz;simp only[rs];exact kF (λh=>a (atQ h)) λh=>b (auS h)
theorem RP {s:List UInt8}{e:Int}(a:e=0->K (ae s) w)(b:e≠0->PK [upI e] w):dZ ah 335 #[ae s,ad e] w PK K:=by
 refine⟨wK ?_⟩;unfold oM nz;simp only[rs];exact kF (λh=>a (atQ h)) λh=>b (auS h)
theorem aeY {s:List UInt8}(j:Nat)(c:cH S w0 w L)(d:L[j]?=ax (bqE b s way p))(hp:p<=8*s.length)(o:s.length<=1000000000)
  (k:∀W,cH S w0 W (L.set j (bqE b s 0 ((p+7) / 8*8)))->K (.tuple #[]) W):dZ ah 333 #[af b 0] w PK K:=by
 have f:j < L.length:=(atT.1 d).1;refine fY (BH (k0:=wM λv W=>v=.tuple #[]∧cH S w0 W (L.set j (bqE b s 0 ((p+7) / 8*8)))) ?_) (λe W ⟨v,he,i,c⟩=>by subst he;subst i;exact k W c);unfold tP nz;rw[GS,i_f];refine join λJ l=>?_;have fin:∀(W:ao) (u a:Int),a=(((p+7) / 8:Nat):Int)->cH S w0 W (L.set j (rqE b s way u a))->J [] W:=by
  intro W u a m c;refine l _ _ λ_=>?_;unfold pH nz;have g:(L.set j (rqE b s way u a))[j]?=ax (rqE b s way u a):=by rw[awU f]
  have n:∀{PK:PKT} {K:VWP},DoX ah (aW 315 #[]) W PK K=K (.agg #[ad 0,ad 0]) W:=aC krx;rw[n,bD,DU];refine GD j c g (new:=[ad 0,ad 0]) szSd dc (by show 0+2<=4;omega) λw2 c=>?_;rw[ayW] at c;refine vB ⟨rfl,?_⟩;subst m;have e:bqE b s 0 ((p+7) / 8*8)=rqE b s 0 0 (((p+7) / 8:Nat):Int):=by
   unfold rqE bqE bqC;rw[show (p+7) / 8*8 % 8=0 by omega,show (p+7) / 8*8 / 8=(p+7) / 8 by omega];rfl
  rw[e];exact c
 rw[bD,DU,wU,Qh c j d];simp only[rs,bD];by_cases h:(0:Int) < ((p % 8:Nat):Int)
 ·simp only[h,asX,i_t,rs,bD];rw[HW,aoX c j d];simp only[rs,bD];rw[HW,aA om om];refine QV (a':=((p / 8:Nat):Int)+1) j c d λw3 c=>?_;exact fin w3 _ _ om c
 ·simp only[h,asW,i_f];refine fin w ((p % 8:Nat):Int) ((p / 8:Nat):Int) om ?_;rw[show rqE b s way ((p % 8:Nat):Int) ((p / 8:Nat):Int)=bqE b s way p from rfl,E7 d];exact c
theorem aqV {s:List UInt8}{n:Nat}(j:Nat)(a:cH S w0 w L)(f:L[j]?=ax (bqE b s way p))(k:p % 8=0)(hp:p<=8*s.length)(q:n<=1000000000)(r:s.length<=1000000000)
  (l:p+8*n<=8*s.length->∀W,cH S w0 W (L.set j (bqE b s way (p+8*n)))->K (.tuple #[ae ((s.drop (p / 8)).take n),ad 0]) W)
  (m:8*s.length < p+8*n->∀W,cH S w0 W L->K (.tuple #[.string ⟨#[]⟩,ad 4]) W):dZ ah 336 #[af b 0,ad (n:Int)] w PK K:=by
 have g:j < L.length:=(atT.1 f).1;refine fY (ED (k0:=wM λv W=>(p+8*n<=8*s.length∧v=.tuple #[ae ((s.drop (p / 8)).take n),ad 0]∧cH S w0 W (L.set j (bqE b s way (p+8*n))))∨(8*s.length < p+8*n∧v=.tuple #[.string ⟨#[]⟩,ad 4]∧cH S w0 W L)) ?_) (λe W ⟨v,he,o⟩=>by
  subst he;rcases o with ⟨i,rfl,a⟩|⟨i,rfl,a⟩
  ·exact l i W a
  ·exact m i W a)
 unfold zK nz;rw[GS];simp only[rs,show ai ((n:Int) < 0)=au from asZ om,bD];rw[DU,wU,Qh a j f,k];simp only[rs,show ai ((0:Int) < ((0:Nat):Int))=au from rfl];refine cQ (λW=>cH S w0 W L) a.drew ?_;refine gr _ (λ_=>cR) (gr _ (λ_=>bC Ty) (iL _ (λW h=>Nd (h.at_ j f)) (Pq atB ?_)));refine gr _ (λ_=>cR) (gr _ (λ_=>bC Mg) (iL _ (λW h=>xR (h.at_ j f)) (gr _ (λ_=>Ck) ?_)));rw[aA om om];refine ahB ?_;intro w2 a;by_cases c:(s.length:Int) - ((p / 8:Nat):Int) < (n:Int)
 ·simp only[c,asX,i_t];exact vB (.inr ⟨om,rfl,a⟩)
 simp only[c,asW,i_f,rs,bD];rw[HW,aoX a j f];simp only[rs,bD];rw[HW,aA om om];refine QV (a':=((p / 8:Nat):Int)+n) j a f λw3 a=>?_;have e:rqE b s way ((p % 8:Nat):Int) (((p / 8:Nat):Int)+n)=bqE b s way (p+8*n):=by
  unfold rqE bqE bqC;rw[show (p+8*n) % 8=p % 8 by omega,show (p+8*n) / 8=p / 8+n by omega];rfl
 rw[e] at a;have d:(L.set j (bqE b s way (p+8*n)))[j]?=ax (bqE b s way (p+8*n)):=by rw[awU g]
 refine cQ (λW=>cH S w0 W (L.set j (bqE b s way (p+8*n)))) a.drew ?_;refine gr _ (λ_=>cR) (gr _ (λ_=>bC Ty) (iL _ (λW h=>Nd (h.at_ j d)) ?_));refine gr _ (λ_=>cR) (gr _ (λ_=>bC Mg) (iL _ (λW h=>xR (h.at_ j d)) (gr _ (λ_=>Ck) ?_)));rw[show (p+8*n) / 8=p / 8+n by omega,aA om om];refine gr _ (λ_=>cR) (gr _ (λ_=>bC Mg) (iL _ (λW h=>xR (h.at_ j d)) ?_));rw[show (p+8*n) / 8=p / 8+n by omega];refine gr _ (λ_=>mY atB om om om) ?_;intro t a;refine vB (.inl ⟨om,?_,a⟩);rw[show (((p / 8+n:Nat):Int) - (n:Int)).toNat=p / 8 by omega,show ((p / 8+n:Nat):Int).toNat - p / 8=n by omega]
theorem aiJ {s:List UInt8}(h:(bqE b s way p).is W)(hp:p<=8*s.length)(d:s.length<=1000000000):Ret ah 275 #[af b 0] W (λv w'=>v=ad (((p+7) / 8:Nat):Int)∧Below W.heap.size W w'):=by
 refine aL λK a=>Gv ?_;unfold A4 nz;rw[GS,i_f,bD,DU,wU];refine aC (Hp h) |>.mpr ?_;simp only[rs,bD];by_cases c:(0:Int) < ((p % 8:Nat):Int)
 ·simp only[c,asX,i_t,rs,bD];rw[HW];refine aC (xR h) |>.mpr ?_;simp only[rs];rw[aA om om];exact a _ _ ⟨by congr 1;omega,(Own.start W).done⟩
 ·simp only[c,asW,i_f,rs,bD];rw[HW];refine aC (xR h) |>.mpr ?_;exact a _ _ ⟨by congr 1;omega,(Own.start W).done⟩
end
end
section
open Eng
def zO(t8 w)(N1:JT)(K:KT):=nz f323 491 [N1] [nh 7 [8]] [] (zg [8] [t8]) w K
def zD(t2 t3 t6 t7 t8 w)(N1:JT)(K:KT):=nz f323 43 [N1] [nh 7 [8],(14,[],λs v j w f=>zO (s 8) w (f 0) K)] [] (zg [2,3,6,7,8] [t2,t3,t6,t7,t8]) w K
def Du(t0 w)(K:KT):=nz f323 1 [] [(7,[8],λs v j w f=>zD (s 2) (s 3) (s 6) (s 7) (vg v 0) w (f 0) K)] [] (zg [0] [t0]) w K
theorem Hj:Du t0 w k0->Calls ah 323 #[t0] w k0:=cz [(7,[])] [(3,[8])] func323
def DT(t5 t6 t7 t8 w)(a:JT)(K:KT):=nz f342 351 [a] [nh 25 [6,7,8]] [] (zg [5,6,7,8] [t5,t6,t7,t8]) w K
def DE(t0 t12 t13 t14 w)(N1:JT)(K:KT):=nz f342 43 [N1] [nh 9 [14],(25,[6,7,8],λs v j w f=>DT (s 5) (vg v 0) (vg v 1) (vg v 2) w (f 0) K)] [] (zg [0,12,13,14] [t0,t12,t13,t14]) w K
def HA(t0 w)(K:KT):=nz f342 1 [] [(9,[14],λs v j w f=>DE (s 0) (s 12) (s 13) (vg v 0) w (f 0) K)] [] (zg [0] [t0]) w K
theorem JF:HA t0 w k0->Calls ah 342 #[t0] w k0:=cz [] [(4,[14]),(12,[6,7,8])] func342
def Bt(t1 t2 t3 t4 w)(N1:JT)(K:KT):=nz f324 43 [N1] [nh 7 [4]] [(5,11)] (zg [1,2,3,4] [t1,t2,t3,t4]) w K
def Fm(t0 w)(K:KT):=nz f324 1 [] [(7,[4],λs v j w f=>Bt (s 1) (s 2) (s 3) (vg v 0) w (f 0) K)] [] (zg [0] [t0]) w K
theorem IF:Fm t0 w k0->Calls ah 324 #[t0] w k0:=cz [] [(3,[4])] func324
def DY(t22 w)(N1:JT)(K:KT):=nz f321 1967 [N1] [nh 15 [22]] [] (zg [22] [t22]) w K
def Dv(t5 t6 t20 t21 t22 w)(N1:JT)(K:KT):=nz f321 175 [N1] [nh 15 [22],(24,[],λs v j w f=>DY (s 22) w (f 0) K)] [] (zg [5,6,20,21,22] [t5,t6,t20,t21,t22]) w K
def H8(t0 w)(K:KT):=nz f321 1 [] [(15,[22],λs v j w f=>Dv (s 5) (s 6) (s 20) (s 21) (vg v 0) w (f 0) K)] [] (zg [0] [t0]) w K
theorem JN:H8 t0 w k0->Calls ah 321 #[t0] w k0:=cz [(12,[])] [(7,[22])] func321
def BL(t39 w)(a:JT)(K:KT):=nz f295 62815 [nj,a] [nh 15 [7],nh 21 [39]] [] (zg [39] [t39]) w K
def B3(t6 t7 t37 t38 t39 w)(N1 a:JT)(K:KT):=nz f295 5471 [N1,a] [nh 15 [7],nh 21 [39],(28,[],λs v j w f=>BL (s 39) w (f 0) K)] [] (zg [6,7,37,38,39] [t6,t7,t37,t38,t39]) w K
def Cx(t0 t6 t7 w)(N1:JT)(K:KT):=nz f295 351 [N1] [nh 15 [7],(21,[39],λs v j w f=>B3 (s 6) (s 7) (s 37) (s 38) (vg v 0) w (f 1) (f 0) K)] [] (zg [0,6,7] [t0,t6,t7]) w K
def Hm(t0 w)(K:KT):=nz f295 1 [] [(15,[7],λs v j w f=>Cx (s 0) (s 6) (vg v 0) w (f 0) K)] [] (zg [0] [t0]) w K
theorem Ge:Hm t0 w k0->Calls ah 295 #[t0] w k0:=cz [(14,[])] [(7,[7]),(10,[39])] func295
def sF(t0 t1 t6 t7 t8 w)(N1:JT)(K:KT):=nz f347 175 [N1] [nh 13 [6,7,8]] [] (zg [0,1,6,7,8] [t0,t1,t6,t7,t8]) w K
def xE(t0 t1 w)(K:KT):=nz f347 1 [] [(13,[6,7,8],λs v j w f=>sF (s 0) (s 1) (vg v 0) (vg v 1) (vg v 2) w (f 0) K)] [] (zg [0,1] [t0,t1]) w K
theorem De:xE t0 t1 w k0->Calls ah 347 #[t0,t1] w k0:=cz [] [(6,[6,7,8])] func347
end
section
open Eng Go.RowKit
def nsC (f:Nat->Int):List Value:=[ad (f 0),ad (f 1),ad (f 2),ad (f 3),ad (f 4),ad (f 5),ad (f 6),ad (f 7),ad (f 8),ad (f 9),ad (f 10),ad (f 11),ad (f 12),ad (f 13),ad (f 14),ad (f 15)]
def nsV (f:Nat->Int):Value:=.agg (nsC f).toArray
def nsE (b:Nat)(f:Nat->Int):Ent:=.cells b (nsC f) 334
theorem XM (f:Nat->Int):∀v∈nsC f,v.oneCell'=true:=by
 intro v a;simp only[nsC,atL,avO,or_false] at a;rcases a with rfl|rfl|rfl|rfl|rfl|rfl|rfl|rfl|rfl|rfl|rfl|rfl|rfl|rfl|rfl|rfl<;>rfl
theorem lt16 (hi:i < 16):i=0∨i=1∨i=2∨i=3∨i=4∨i=5∨i=6∨i=7∨i=8∨i=9∨i=10∨i=11∨i=12∨i=13∨i=14∨i=15:=om
theorem KZ (f:Nat->Int)(hi:i < 16):(nsC f)[i]?=ax (ad (f i)):=by
 rcases lt16 hi with rfl|rfl|rfl|rfl|rfl|rfl|rfl|rfl|rfl|rfl|rfl|rfl|rfl|rfl|rfl|rfl<;>rfl
theorem afP (f:Nat->Int)(x:Int)(hi:i < 16):(nsC f).set i (ad x)=nsC (λj=>if j=i then x else f j):=by
 rcases lt16 hi with rfl|rfl|rfl|rfl|rfl|rfl|rfl|rfl|rfl|rfl|rfl|rfl|rfl|rfl|rfl|rfl<;>rfl
theorem agD:I2 ah 334=ax 16:=krx
theorem szNs:(Tryz.prog.info? 334).map (·.size)=ax 16:=krx
section
variable {w:ao}{PK:PKT}{K:VWP}{S:Nat->Prop}{w0:ao}{L:List Ent}
theorem I4 {off:Nat}(hi:i < 16):(mIA 334 (af b off) (ad (i:Int))).run ah W=.ok (.value (af b (off+i))) W:=by
 rcases lt16 hi with rfl|rfl|rfl|rfl|rfl|rfl|rfl|rfl|rfl|rfl|rfl|rfl|rfl|rfl|rfl|rfl<;>kernel_rfl
theorem JB {off:Nat}(hi:i < 16):DoX ah (mIA 334 (af b off) (ad (i:Int))) w PK K=K (af b (off+i)) w:=aC (I4 hi)
theorem Un (a:cH S w0 w L)(k:∀b w',cH S w0 w' (nsE b (λ_=>0)::L)->K (af b 0) w'):DoX ah (DO 334) w PK K:=
 bI (λb=>af b 0) (nsC λ_=>0) 334 (λ_=>by kernel_rfl) a k
theorem aqL (f:Nat->Int)(a:cH S w0 w L)(k:∀b w',cH S w0 w' (nsE b f::L)->K (af b 0) w'):DoX ah (Hr 334 (nsV f)) w PK K:=
 bI (λb=>af b 0) (nsC f) 334 (λ_=>by kernel_rfl) a k
theorem L7 (c:cH S w0 w L)(j:Nat){f:Nat->Int}(hi:L[j]?=ax (nsE b f))(a:i < 16):DoX ah (aK 3 (af b (0+i))) w PK K=K (ad (f i)) w:=aR bZ (c.cell j hi (0+i) (by rw[atK];exact KZ f a))
theorem YR (j:Nat){f:Nat->Int}{x:Int}(a:i < 16)(c:cH S w0 w L)(hi:L[j]?=ax (nsE b f))(k:∀w',cH S w0 w' (L.set j (nsE b (λm=>if m=i then x else f m)))->K undef w') :
  DoX ah (aV 3 (af b (0+i)) (ad x)) w PK K:=aN j c hi krx rfl (by show 0+i < 16;omega) λw' c=>k w' (by
   unfold nsE;rw[<-afP f x a,<-atK i];rw[atK i] at c ⊢;simpa using c)
theorem ns_v (a:cH S w0 w L)(j:Nat){f:Nat->Int}(hi:L[j]?=ax (nsE b f)):DoX ah (aK 334 (af b 0)) w PK K=K (nsV f) w:=Jn (a.agg j hi agD)
theorem TI (j:Nat){f f':Nat->Int}(a:cH S w0 w L)(hi:L[j]?=ax (nsE b f))(k:∀w',cH S w0 w' (L.set j (nsE b f'))->K undef w') :
  DoX ah (aV 334 (af b 0) (nsV f')) w PK K:=jK j a hi (new:=nsC f') szNs (XM f') rfl k
theorem acN {K:Ending->ao->Prop}{f:Nat->Int}(i:Nat)(a:cH S w0 w L)(hi:L[i]?=ax (nsE b f))(k:K (.returned (nsV f)) w):A2 ah [.cell (af b 0) 334] w K:=
 fH (bJ (a.agg i hi agD)) k
end
def cnt (lens:List Nat):Nat->Int:=λi=>if i=0 then 0 else ((lens.count i:Nat):Int)
def aY (l:List Nat):List Value:=l.map λn=>ad ((n:Nat):Int)
theorem oU (a:Sl w v 1 l.length (aY l))(hi:i < l.length) :
  ∃b off,(∀W,(mIA 123 v (ad (i:Int))).run ah W=.ok (.value (af b off)) W)∧w.cell? ⟨b,off,aw⟩=ax (ad ((l[i]:Nat):Int)):=by
 obtain⟨b,off,cap,rfl,c⟩:=bU a om;refine⟨b,off+i,λW=>?_,c i _ (by simp[aY,hi])⟩;have:=dP (P:=ah) (T:=123) (b:=b) (off:=off) (cap:=cap) (n:=l.length) (k:=.i64) (i:=(i:Int)) (w:=W) auA (show _=ax 1 by kernel_rfl) om om;rw[atC,atY] at this;exact this
theorem yA (lens:List Nat)(v:aq)(M:Mem)(w:ao)(k:∀l∈lens,l<=15)(F:lens.length<=100000)(p:M.has w)(q:SlA M.A M.w v 1 lens.length (aY lens)) :
  jJ ah 323 #[v] M w (λr _=>r=nsV (cnt lens)):=by
 refine aU p λK z=>Hj ?_;unfold Du nz;refine Un (cH.memS p) λs G c=>?_;refine Un c λt w2 c=>?_;rw[aZ auA (q.now (c.hasM 2 rfl))];refine loop (λvs W=>∃i:Nat,vs=[ad i]∧i<=lens.length∧cH M.A w W [nsE t (cnt (lens.take i)),nsE s (λ_=>0),.mem M]) (λvs _=>lens.length - n0 vs) ⟨0,rfl,om,?_⟩ ?_
 ·have e:cnt (lens.take 0)=λ_=>0:=by funext i;simp[cnt]
  rw[e];exact c
 clear c;rintro vs w3 ⟨i,rfl,hi,c⟩ _;simp only[zD,gd,rs,nz];by_cases g:(i:Int) < (lens.length:Int)
 ·have f:i < lens.length:=om
  simp only[g,asX,i_t];refine join λJ B=>?_;obtain⟨b,off,C,D⟩:=oU (q.now (c.hasM 2 rfl)) f;have u:=k _ (atP f);refine aC (C w3) |>.mpr (aC (aB bZ D) |>.mpr ?_);have j:lens.take (i+1)=lens.take i++[lens[i]]:=by rw[auD f]
  have fin:∀W,cH M.A w W [nsE t (cnt (lens.take (i+1))),nsE s (λ_=>0),.mem M]->J [] W:=by
   intro W c;refine B _ _ λ_=>?_;simp only[zO,gd,rs,nz];rw[aA om om];exact aS ⟨i+1,rfl,om,c⟩ (by simp[n0,RowKit.intOf];omega)
  simp only[rs];by_cases x:(0:Int) < ((lens[i]:Nat):Int)
  ·simp only[x,asX,i_t];rw[JB om,L7 c 0 rfl om];simp only[rs];rw[JB om];have E:(lens.take i).count lens[i]<=100000:=by
    have:=ayN (a:=lens[i]) (l:=lens.take i);rw[atF] at this;omega
   have n:cnt (lens.take i) lens[i]=(((lens.take i).count lens[i]:Nat):Int):=by unfold cnt;rw[asT om]
   rw[n,aA om om];refine YR 0 om c rfl λy c=>fin y ?_;have e:(λm=>if m=lens[i] then (((lens.take i).count lens[i]:Nat):Int)+1 else cnt (lens.take i) m)=cnt (lens.take (i+1)):=by
    funext m
    unfold cnt;rw[j,axR,aAg];by_cases hm:m=lens[i]
    ·subst hm;rw[asU rfl,asT om];simp
    ·rw[asT hm];by_cases d:m=0
     ·rw[asU d,asU d]
     ·rw[asT d,asT d];have:(lens[i]==m)=false:=by simp;exactλh=>hm h.symm
      rw[this];simp
   rw[<-e];exact c
  ·simp only[x,asW,i_f];refine fin w3 ?_;have e:cnt (lens.take (i+1))=cnt (lens.take i):=by
    funext m
    unfold cnt;rw[j,axR,aAg];by_cases d:m=0
    ·rw[asU d,asU d]
    ·rw[asT d,asT d];have:(lens[i]==m)=false:=by simp;omega
     rw[this];simp
   rw[e];exact c
 ·simp only[g,asW,i_f];have o:i=lens.length:=om
  subst o;rw[auZ] at c;rw[ns_v c 0 rfl];refine TI 1 c rfl λy c=>?_;exact acN 1 c rfl (z _ _ M _ 2 c rfl M.le_refl rfl)
theorem GX (lens:List Nat)(M:Mem)(w:ao)(q:lens.length<=100000)(f:M.has w) :
  jJ ah 324 #[nsV (cnt lens)] M w (λr _=>r=nsV (λi=>((Fl.first lens (if i<=15 then i else 0):Nat):Int))):=by
 refine aU f λK s=>IF ?_;unfold Fm nz;refine aqL (cnt lens) (cH.memS f) λg z a=>?_;refine Un a λj w2 a=>?_;refine Un a λn w3 a=>?_;refine loop (λvs W=>∃l:Nat,vs=[ad l]∧1<=l∧l<=15∧cH M.A w W [nsE n (λi=>((Fl.first lens (if i<=l then i else 0):Nat):Int)),nsE j (λ_=>0),nsE g (cnt lens),.mem M]) (λvs _=>15 - n0 vs) ⟨1,rfl,om,om,?_⟩ ?_
 ·have e:(λi=>((Fl.first lens (if i<=1 then i else 0):Nat):Int))=λ_=>0:=by
   funext i
   by_cases h:i<=1
   ·rw[asU h];rcases (by omega:i=0∨i=1) with rfl|rfl<;>rfl
   ·rw[asT h];rfl
  rw[e];exact a
 clear a;rintro vs t ⟨l,rfl,u,o,a⟩ _;simp only[Bt,gd,rs,nz];by_cases b:(l:Int) < 15
 ·simp only[b,asX,i_t];have v:=Fl.MT (lens:=lens) l;have x:lens.count l<=lens.length:=ayN;have hp:4 ^ l<=4 ^ 15:=avP dc om;have y:(4:Nat) ^ 15=1073741824:=dc
  have p:4 ^ l*lens.length<=1073741824*100000:=awX om q;have d:cnt lens l=((lens.count l:Nat):Int):=by unfold cnt;rw[asT om]
  refine cQ (λW=>cH M.A w W [nsE n (λi=>((Fl.first lens (if i<=l then i else 0):Nat):Int)),nsE j (λ_=>0),nsE g (cnt lens),.mem M]) a.drew ?_;refine nF ?_;rw[aA om om];refine gr _ (λ_=>I4 om) (iL (ad (Fl.first lens l)) (λW h=>aB bZ (h.cell 0 rfl (0+l) (by rw[atK];refine (KZ _ om).trans ?_;rw[asU (atE l)]))) ?_);refine gr _ (λ_=>I4 om) (iL (ad (lens.count l:Nat)) (λW h=>aB bZ (h.cell 2 rfl (0+l) (by rw[atK];refine (KZ _ om).trans ?_;rw[d]))) ?_);refine nF ?_;rw[aA om om];refine gr _ (λ_=>alY) ?_;rw[aA om om];rw[show ((l:Nat):Int)+1=((l+1:Nat):Int) by omega];refine gr _ (λ_=>I4 om) ?_;intro B a;refine YR 0 om a rfl λC a=>?_;refine aS ⟨l+1,rfl,om,om,?_⟩ (by simp[n0,RowKit.intOf];omega);have e:(λm=>if m=l+1 then (2:Int)*(((Fl.first lens l:Nat):Int)+((lens.count l:Nat):Int)) else ((Fl.first lens (if m<=l then m else 0):Nat):Int))=λi=>((Fl.first lens (if i<=l+1 then i else 0):Nat):Int):=by
   funext m
   by_cases hm:m=l+1
   ·subst hm;rw[asU rfl,asU (atE _)];obtain⟨k,rfl⟩:∃k,l=k+1:=⟨l - 1,om⟩;rw[Fl.first];push_cast;rfl
   ·rw[asT hm];by_cases c:m<=l
    ·rw[asU c,asU om]
    ·rw[asT c,asT om]
  rw[<-e];exact a
 ·simp only[b,asW,i_f];have:l=15:=om
  subst this;rw[ns_v a 0 rfl];refine TI 1 a rfl λt a=>?_;exact acN 1 a rfl (s _ _ M _ 3 a rfl M.le_refl rfl)
def bj (lens:List Nat):Int:=if 288 < lens.length then 6 else Fl.check lens
theorem UM (lens:List Nat)(v:aq)(M:Mem)(w:ao)(m:∀l∈lens,l<=15)(n:lens.length<=100000)(s:M.has w)(t:SlA M.A M.w v 1 lens.length (aY lens)) :
  jJ ah 342 #[v] M w (λr _=>r=ad (bj lens)):=by
 refine aU s λK u=>JF ?_;unfold HA nz;have d:cH M.A w w [.mem M]:=cH.memS s;rw[aZ auA (t.now s)];simp only[rs];by_cases g:(288:Int) < (lens.length:Int)
 ·simp only[g,asX,i_t];exact u _ _ M _ 0 d rfl M.le_refl (by unfold bj;rw[asU om])
 have y:bj lens=Fl.check lens:=by unfold bj;rw[asT om]
 simp only[g,asW,i_f];rw[aZ auA (t.now s)];refine loop (λvs W=>∃i:Nat,vs=[ad i]∧i<=lens.length∧cH M.A w W [.mem M]) (λvs _=>lens.length - n0 vs) ⟨0,rfl,om,d⟩ ?_;clear d;rintro vs w2 ⟨i,rfl,hi,d⟩ _;simp only[DE,gd,rs,nz];by_cases f:(i:Int) < (lens.length:Int)
 ·have o:i < lens.length:=om
  simp only[f,asX,i_t];obtain⟨b,off,z,B⟩:=oU (t.now (d.hasM 0 rfl)) o;have p:=m _ (atP o);refine aC (z w2) |>.mpr (aC (aB bZ B) |>.mpr ?_);simp only[rs,show ai (((lens[i]:Nat):Int) < 0)=au from asZ om,show ai ((15:Int) < ((lens[i]:Nat):Int))=au from asZ om];rw[aA om om];exact aS ⟨i+1,rfl,om,d⟩ (by simp[n0,RowKit.intOf];omega)
 simp only[f,asW,i_f];refine bG d 0 rfl (yA lens v M w2 m n (d.hasM 0 rfl) t) ?_;rintro _ N w3 hle rfl d;refine Un d λx G d=>?_;refine TI 0 d rfl λC d=>?_;have d:cH M.A w C [nsE x (cnt lens),.mem N]:=d;refine loop (λvs W=>∃l:Nat,vs=[ad (Fl.iE lens l),ad (Fl.bH lens l),ad ((l+1:Nat):Int)]∧l<=15∧cH M.A w W [nsE x (cnt lens),.mem N]) (λvs _=>16 - n2 vs) ⟨0,rfl,om,d⟩ ?_;clear d f hi;rintro vs D ⟨l,rfl,p,d⟩ _;simp only[DT,gd,rs,nz];have j:∀k,k≠0->cnt lens k=((lens.count k:Nat):Int):=λk h=>by unfold cnt;rw[asT h]
 by_cases f:((l+1:Nat):Int)<=15
 ·simp only[f,asX,i_t];have E:lens.count (l+1)<=lens.length:=ayN;have s1:=Fl.TQ (lens:=lens) (l+1);have s2:=Fl.JV (lens:=lens) (l+1);have H:(l+1)*(lens.length*32768)<=16*(100000*32768):=awX om (auY _ n);have I:(l+1)*lens.length<=16*100000:=awX om n;rw[Fl.iE] at s1;rw[Fl.bH] at s2;rw[JB om,L7 d 0 rfl om,j _ om]
  try simp only[rs]
  rw[aA om om,Fa om];rw[show min ((15:Int) - ((l+1:Nat):Int)).toNat IntKind.i64.bits=15 - (l+1) by show min ((15:Int) - ((l+1:Nat):Int)).toNat 64=15 - (l+1);omega];rw[show ((lens.count (l+1):Nat):Int)*2 ^ (15 - (l+1))=((lens.count (l+1)*2 ^ (15 - (l+1)):Nat):Int) by push_cast;rfl];generalize F:lens.count (l+1)*2 ^ (15 - (l+1))=q at s1 ⊢;rw[aA om om]
  try simp only[rs]
  rw[aA om om,JB om,L7 d 0 rfl om,j _ om]
  try simp only[rs]
  rw[aA om om,aA om om];refine aS ⟨l+1,?_,om,d⟩ (by simp[n2,RowKit.intOf];omega);rw[Fl.iE,Fl.bH,F];rfl
 ·have n:l=15:=om
  subst n;simp only[f,asW,i_f];have fin:∀e:Int,e=Fl.check lens->K (.returned (ad e)) D:=λe he=>u _ _ N _ 1 d rfl hle (by rw[y,he]);unfold Fl.check at fin;by_cases a:Fl.iE lens 15=32768
  ·simp only[show ai (((Fl.iE lens 15:Nat):Int)=32768)=av from atA om,rs,nE];exact fin 0 (by rw[asU (.inl a)])
  simp only[show ai (((Fl.iE lens 15:Nat):Int)=32768)=au from asZ om,rs];by_cases b:Fl.bH lens 15=0
  ·simp only[show ai (((Fl.bH lens 15:Nat):Int)=0)=av from atA om,rs,nE];exact fin 0 (by rw[asU (.inr (.inl b))])
  simp only[show ai (((Fl.bH lens 15:Nat):Int)=0)=au from asZ om,rs];by_cases c:Fl.bH lens 15=1
  ·simp only[show ai (((Fl.bH lens 15:Nat):Int)=1)=av from atA om,rs];rw[show ((1:Int))=((1:Nat):Int) from rfl,JB om,L7 d 0 rfl om,j 1 om];by_cases e:lens.count 1=1
   ·simp only[rs,show ai (((lens.count 1:Nat):Int)=((1:Nat):Int))=av from atA om];exact fin 0 (by rw[asU (.inr (.inr ⟨c,e⟩))])
   ·simp only[rs,show ai (((lens.count 1:Nat):Int)=((1:Nat):Int))=au from asZ om];exact fin 13 (by rw[asT (λh=>h.elim a λh=>h.elim b λh=>e h.2)])
  ·simp only[show ai (((Fl.bH lens 15:Nat):Int)=1)=au from asZ om,rs,nE];exact fin 13 (by rw[asT (λh=>h.elim a λh=>h.elim b λh=>c h.1)])
def Rd (l:List Int):List Value:=l.map λn=>ad n
theorem xH {l:List Int}:∀x∈Rd l,x.oneCell'=true:=by
 intro x a;obtain⟨n,-,rfl⟩:=auH.1 a;rfl
theorem H5:eP ah 123=true:=krx
theorem apU:elB ah 3 1 8=true:=krx
theorem MH {K:aq->Prop}{a b:aq}(h:K a):HDo P C (At (.tuple #[a,b]) 0) K:=aI a (λ_=>rfl) h
theorem GB {K:aq->Prop}{a b:aq}(h:K b):HDo P C (At (.tuple #[a,b]) 1) K:=aI b (λ_=>rfl) h
section
variable {w:ao}{PK:PKT}{K:VWP}{S:Nat->Prop}{w0:ao}{L:List Ent}
theorem YS (a:cH S w0 w L)(k:∀v w',cH S w0 w' (.urow 3 1 v 0 []::L)->K v w'):DoX ah (aT 123 0 #[]) w PK K:=
 bI (λb=>bR b 0 0 0) [] 3 (λ_=>by kernel_rfl) a λb c a=>k _ _ (a.toU 1 0 0 sm om om)
theorem yM (n:Int)(a:cH S w0 w L)(k:∀b w',cH S w0 w' (.cells b (Rd [n]) 3::L)->K (bR b 0 1 1) w'):DoX ah (aT 123 1 #[(0,ad n)]) w PK K:=
 bI (λb=>bR b 0 1 1) (Rd [n]) 3 (λ_=>by kernel_rfl) a k
theorem sE (i:Nat){n m:Nat}(a:cH S w0 w L)(hi:L[i]?=ax (.urow 3 1 v n xs))(b:Sl w v2 1 m news)(c:∀u∈news,u.oneCell'=av)(d:n+m<=100000000000)
  (k:∀v' w',cH S w0 w' (L.set i (.urow 3 1 v' (n+m) (xs++news)))->K v' w'):DoX ah (mB .append #[123,123] 123 cb #[v,v2]) w PK K:=
 bL i auA apU dc a hi b c om om k
end
theorem TO (n:Nat):(Go.madeCells (Value.int .i64 0).cells (n*1))=(List.replicate n (Value.int .i64 0)).toArray:=by
 unfold Go.madeCells;refine Array.ext sm λi a b=>?_;have e:(Value.int .i64 0).cells=#[Value.int .i64 0]:=rfl;simp only[Array.getElem_map,List.getElem_toArray,aAO,e];simp[Nat.mod_one]
theorem Tw:∃i,Tryz.prog.info? 3=ax i∧i.zero=ax (Value.int .i64 0)∧i.size=1∧i.bytes=8:=⟨_,rfl,krx,krx,krx⟩
section
variable {w:ao}{PK:PKT}{K:VWP}{S:Nat->Prop}{w0:ao}{L:List Ent}
theorem B9 {n:Nat}(f:n<=1000000)(a:cH S w0 w L)(k:∀b w',cH S w0 w' (.cells b (List.replicate n (ad 0)) 3::L)->K (bR b 0 n n) w') :
  DoX ah (ID 123 (ad (n:Int)) (ad (n:Int))) w PK K:=by
 obtain⟨i,hi,c,d,e⟩:=Tw;refine bI (λb=>bR b 0 n n) (List.replicate n (ad 0)) 3 (λW=>?_) a k;have:=Go.run_make (P:=ah) W 123 3 i (Value.int .i64 0) auA hi c .i64 .i64 (n:Int) (n:Int) om om (by rw[e];omega) om;rw[d,atC,TO] at this;exact bQ this
end
def da (lens:List Nat)(i:Nat):Nat:=if lens.getD i 0=0 then 0 else Fl.first lens (lens.getD i 0)+(lens.take i).count (lens.getD i 0)
def jn (lens:List Nat):List Nat:=(List.range lens.length).map (da lens)
theorem jv (lens:List Nat):(jn lens).length=lens.length:=by simp[jn]
theorem th {lens:List Nat}(hi:i < lens.length):(jn lens)[i]?=ax (da lens i):=by
 simp[jn,hi]
def iF (lens:List Nat)(i:Nat):List Value:=aY ((jn lens).take i)++List.replicate (lens.length - i) (ad 0)
theorem Rj {lens:List Nat}(hi:i<=lens.length):(iF lens i).length=lens.length:=by
 unfold iF aY;rw[asY,atV,atF,auK,jv];omega
theorem JM {lens:List Nat}(hi:i < lens.length):(iF lens i).set i (ad ((da lens i:Nat):Int))=iF lens (i+1):=by
 unfold iF;have a:(aY ((jn lens).take i)).length=i:=by unfold aY;rw[atV,atF,jv];omega
 rw[axJ _ _ om,a,avV];obtain⟨k,b⟩:∃k,lens.length - i=k+1:=⟨lens.length - i - 1,om⟩;rw[b,azR,avN,show lens.length - (i+1)=k by omega];rw[auD (by rw[jv];exact hi)];have e:(jn lens)[i]'(by rw[jv];exact hi)=da lens i:=by
  have:=th hi;rw[atI (by rw[jv];exact hi)] at this;exact awT this
 rw[e];simp[aY]
theorem Qb {lens:List Nat}(hi:i < lens.length)(a:da lens i=0):iF lens (i+1)=iF lens i:=by
 rw[<-JM hi,a];refine E7 ?_;unfold iF;have b:(aY ((jn lens).take i)).length=i:=by unfold aY;rw[atV,atF,jv];omega
 rw[avU om,b,avV,azS,asU om];rfl
def nxt (lens:List Nat)(i:Nat):Nat->Int:=λm=>((Fl.first lens (if m<=15 then m else 0)+(if m=0 then 0 else (lens.take i).count m):Nat):Int)
theorem Mz (lens:List Nat)(v:aq)(M:Mem)(w:ao)(o:∀l∈lens,l<=15)(z:lens.length<=100000)(C:M.has w)(q:SlA M.A M.w v 1 lens.length (aY lens)) :
  jJ ah 321 #[v] M w (λr N=>∃v',r=.tuple #[v',ad (bj lens)]∧v'.oneCell'=av∧(bj lens=0->SlA N.A N.w v' 1 lens.length (aY (jn lens)))):=by
 refine aU C λK O=>JN ?_;unfold H8 nz;have c:cH M.A w w [.mem M]:=cH.memS C;refine aJ c (R:=λr=>r=ad (bj lens)) (jJ.told (UM lens v M w o z C q)) ?_;rintro _ U rfl c;rw[eF];by_cases B:bj lens=0
 case neg=>
  simp only[B,ne_eq,avD,asX,i_t];exact O _ _ M _ 0 c rfl M.le_refl ⟨_,rfl,rfl,λh=>absurd h B⟩
 simp only[B,ne_eq,not_true,asW,i_f];refine aJ c (R:=λr=>r=nsV (cnt lens)) (jJ.told (yA lens v M U o z (c.hasM 0 rfl) q)) ?_;rintro _ w2 rfl c;refine aJ c (R:=λr=>r=nsV (λi=>((Fl.first lens (if i<=15 then i else 0):Nat):Int))) (jJ.told (GX lens M w2 z (c.hasM 0 rfl))) ?_;rintro _ w3 rfl c;refine Un c λD w4 c=>?_;refine TI 0 c rfl λw5 c=>?_;rw[aZ auA (q.now (c.hasM 1 rfl))];refine B9 om c λs w6 c=>?_;rw[aZ auA (q.now (c.hasM 2 rfl))];refine loop (λvs W=>∃i:Nat,vs=[ad i]∧i<=lens.length∧cH M.A w W [.cells s (iF lens i) 3,nsE D (nxt lens i),.mem M]) (λvs _=>lens.length - n0 vs) ⟨0,rfl,om,?_⟩ ?_
 ·have F:iF lens 0=List.replicate lens.length (ad 0):=by simp[iF,aY]
  have G:nxt lens 0=λi=>((Fl.first lens (if i<=15 then i else 0):Nat):Int):=by
   funext m;unfold nxt;simp
  rw[F,G];exact c
 clear c;rintro vs H ⟨i,rfl,hi,c⟩ _;simp only[Dv,gd,rs,nz];by_cases t:(i:Int) < (lens.length:Int)
 ·have d:i < lens.length:=om
  simp only[t,asX,i_t];refine join λJ V=>?_;obtain⟨b,off,X,Y⟩:=oU (q.now (c.hasM 2 rfl)) d;have f:=o _ (atP d);have u:lens.getD i 0=lens[i]:=by rw[atD,atI d];rfl
  refine aC (X H) |>.mpr (aC (aB bZ Y) |>.mpr ?_);have p:lens.take (i+1)=lens.take i++[lens[i]]:=by rw[auD d]
  have fin:∀W,cH M.A w W [.cells s (iF lens (i+1)) 3,nsE D (nxt lens (i+1)),.mem M]->J [] W:=by
   intro W c;refine V _ _ λ_=>?_;simp only[DY,gd,rs,nz];rw[aA om om];exact aS ⟨i+1,rfl,om,c⟩ (by simp[n0,RowKit.intOf];omega)
  simp only[rs];by_cases Q:(0:Int) < ((lens[i]:Nat):Int)
  ·simp only[Q,asX,i_t];have Z:=Fl.MT (lens:=lens) lens[i];have hp:4 ^ lens[i]<=4 ^ 15:=avP dc f;have a1:(4:Nat) ^ 15=1073741824:=dc
   have S:4 ^ lens[i]*lens.length<=1073741824*100000:=awX om z;have a6:(lens.take i).count lens[i]<=100000:=by
    have:=ayN (a:=lens[i]) (l:=lens.take i);rw[atF] at this;omega
   have x:da lens i=Fl.first lens lens[i]+(lens.take i).count lens[i]:=by
    unfold da;rw[u,asT om]
   have y:nxt lens i lens[i]=((da lens i:Nat):Int):=by
    unfold nxt;rw[asU f,asT om,x]
   rw[JB om,L7 c 1 rfl om,y];have I:=dP (P:=ah) (T:=123) (b:=s) (off:=0) (cap:=lens.length) (n:=lens.length) (k:=.i64) (i:=(i:Int)) (w:=H) auA (show _=ax 1 by kernel_rfl) om om;refine aC I |>.mpr ?_;rw[atC,atY,atK];refine aN 0 c rfl krx rfl (by rw[Rj hi];exact d) λw8 c=>?_;rw[JM d] at c;have c:cH M.A w w8 [.cells s (iF lens (i+1)) 3,nsE D (nxt lens i),.mem M]:=c;rw[JB om,L7 c 1 rfl om,y];simp only[rs];rw[JB om,aA om om];refine YR 1 om c rfl λw9 c=>fin w9 ?_;have e:(λm=>if m=lens[i] then ((da lens i:Nat):Int)+1 else nxt lens i m)=nxt lens (i+1):=by
    funext m
    by_cases hm:m=lens[i]
    ·subst hm;rw[asU rfl];unfold nxt;rw[asU f,asT om,p,axR,aAg,x];simp;omega
    ·rw[asT hm];unfold nxt;rw[p,axR,aAg];have:(lens[i]==m)=false:=by simp;exactλh=>hm h.symm
     rw[this];simp
   rw[<-e];exact c
  ·simp only[Q,asW,i_f];have hz:lens[i]=0:=om
   refine fin H ?_;have F:iF lens (i+1)=iF lens i:=Qb d (by unfold da;rw[u,asU hz]);have G:nxt lens (i+1)=nxt lens i:=by
    funext m
    unfold nxt;rw[p,axR,aAg];by_cases g:m=0
    ·rw[asU g,asU g]
    ·rw[asT g,asT g];have:(lens[i]==m)=false:=by simp;omega
     rw[this];simp
   rw[F,G];exact c
 ·simp only[t,asW,i_f];have L:i=lens.length:=om
  subst L;have er:iF lens lens.length=aY (jn lens):=by
   unfold iF;rw[auG (by rw[jv];omega)];simp
  rw[er] at c;have c:=cH.toU (b:=s) (cs:=aY (jn lens)) (E:=3) c 1 lens.length lens.length (by unfold aY;rw[atV,jv];omega) om om;obtain⟨N,hle,j,c⟩:=cH.bV c 1 rfl;rw[auG (by unfold aY;rw[atV,jv];omega)] at j;exact O _ _ N _ 1 c rfl hle ⟨_,by rw[B],rfl,λ_=>j⟩
end
section
open Eng
def lZ(t0 w)(K:KT):=nz f322 1 [] [] [] (zg [0] [t0]) w K
theorem vM:lZ t0 w k0->Calls ah 322 #[t0] w k0:=cw func322
def jT(a b w)(j:JT)(K:KT):=
 lnx 123 a w K λc w=>bnx .lss 3 b c w K λd w=>IfX d (nK w (λi=>QDo ah i (cT 123 a (ax b) aw aw) λe=>QDo ah i (cT 123 a aw (ax b) aw) λf=>
 ∀w,i w ->
 DoX ah (mB .copy #[123,123] 3 #[au,au] #[e,f]) w (ay 5 (pk K)) λg w=>DoX ah (iA .add 3 b g) w (ay 5 (pk K)) λh w=>j [h] w)) (K (.returned a) w)
def jV(t0 t6 w)(K:KT):=nz f320 31 [] [(17,[8],λs v j w f=>jT (s 7) (vg v 0) w (f 0) K)] [] (zg [0,6] [t0,t6]) w K
def jN(t0 t1 w)(K:KT):=nz f320 7 [] [(12,[],λs v j w f=>jV (s 0) (s 6) w K)] [] (zg [0,1] [t0,t1]) w K
def lC(t0 t1 w)(K:KT):=nz f320 1 [] [(6,[],λs v j w f=>jN (s 0) (s 1) w K)] [] (zg [0,1] [t0,t1]) w K
theorem sV:lC t0 t1 w k0->Calls ah 320 #[t0,t1] w k0:=cz [(3,[]),(6,[])] [(8,[8])] func320
end
section
open Eng Go.RowKit
theorem Ft :∀x∈aY l,x.oneCell'=true:=by
 intro x a;obtain⟨n,-,rfl⟩:=auH.1 a;rfl
theorem fC (l:List Nat):(aY l).length=l.length:=by simp[aY]
theorem agX {off n c:Nat}:DoX ah (mEq .eql 123 xo yo (bR b off n c) (.slice aw 0 0)) w PK K=K (.bool au) w:=aC krx
theorem Mm (l:List Nat)(v:aq)(M:Mem)(w:ao)(i:l.length<=100000)(j:0 < l.length)(e:M.has w)(f:SlA M.A M.w v 1 l.length (aY l)) :
  jJ ah 322 #[v] M w (λr N=>SlA N.A N.w r 1 l.length (aY l)):=by
 refine aU e λK g=>vM ?_;unfold lZ nz;have a:cH M.A w w [.mem M]:=cH.memS e;have go:∀{b off n c:Nat},v=bR b off n c->DoX ah (mEq .eql 123 (.tmp 3) (.const (.slice aw 0 0)) v (.slice aw 0 0)) w (Eng.pk K) λt4 w=>IfX t4 (K (.returned (.slice aw 0 0)) w) (DoX ah (aT 123 0 #[]) w (Eng.pk K) λt5 w=>
   DoX ah (mB .append #[123,123] 123 #[au,au] #[t5,v]) w (Eng.pk K) λt7 w=>K (.returned t7) w):=by
  rintro b off n c rfl;rw[agX,i_f];refine YS a λv0 k a=>?_;refine sE 0 a rfl (f.now (a.hasM 1 rfl)) Ft om λv1 w2 a=>?_;obtain⟨N,hle,d,a⟩:=cH.bV (L:=[.mem M]) a 0 rfl;refine g _ _ N _ 0 a rfl hle ?_;rw[atK] at d;exact d
 obtain⟨b,off,cap,h,-⟩:=bU f.1 om;exact go h
def tbC (a b:aq)(f g:Nat->Int)(o:aq):List Value:=a::b::(nsC f++(nsC g++[o]))
def tbV (a b:aq)(f g:Nat->Int)(o:aq):Value:=.agg (tbC a b f g o).toArray
def tbE (c:Nat)(a b:aq)(f g:Nat->Int)(o:aq):Ent:=.cells c (tbC a b f g o) 337
theorem adB:kC ah 337 0=ax 0:=krx
theorem amB:kC ah 337 1=ax 1:=krx
theorem amE:kC ah 337 2=ax 2:=krx
theorem anR:kC ah 337 3=ax 18:=krx
theorem akY:kC ah 337 4=ax 34:=krx
def lf (lens:List Nat)(l:Nat):List Nat:=(List.range lens.length).filter λi=>ai (lens.getD i 0=l)
def bh (lens:List Nat):Nat->List Nat
|0=>[]
|l+1=>bh lens l++lf lens (l+1)
abbrev FL (lens:List Nat):Nat->Int:=λi=>((Fl.first lens (if i<=15 then i else 0):Nat):Int)
def TbAt (A:Nat->Prop)(w:ao)(b:Nat)(lens:List Nat):Prop:=∃a c o,A b∧(tbE b a c (cnt lens) (FL lens) o).is w∧SlA A w o 1 (bh lens 15).length (aY (bh lens 15))
theorem SH:eP ah 294=true:=krx
section
variable {w:ao}{PK:PKT}{K:VWP}{S:Nat->Prop}{w0:ao}{L:List Ent}
theorem R7 {off:Nat}:DoX ah (mFA 337 (af b off) 2) w PK K=K (af b (off+2)) w:=aO amE
theorem Wl {off:Nat}:DoX ah (mFA 337 (af b off) 3) w PK K=K (af b (off+18)) w:=aO anR
theorem Ov {off:Nat}:DoX ah (mFA 337 (af b off) 4) w PK K=K (af b (off+34)) w:=aO akY
theorem m_tb {a:aq}{f:Nat->Int}(b:a.oneCell'=av)(d:c.oneCell'=av):DoX ah (aW 337 #[(0,a),(1,c),(2,nsV f)]) w PK K=K (tbV a c f (λ_=>0) cO) w:=by
 cases a<;>first|(cases b;done)|skip
 all_goals cases c<;>first|(cases d;done)|exact aC krx
theorem ajP {a:aq}{f g:Nat->Int}(d:a.oneCell'=av)(e:c.oneCell'=av)(h:cH S w0 w L)(k:∀b w',cH S w0 w' (tbE b a c f g cO::L)->K (af b 0) w'):DoX ah (Hr 337 (tbV a c f g cO)) w PK K:=by
 cases a<;>first|(cases d;done)|skip
 all_goals cases c<;>first|(cases e;done)|exact bI (λb=>af b 0) (tbC _ _ f g cO) 337 (λ_=>by kernel_rfl) h k
theorem tb_n (d:cH S w0 w L)(j:Nat){a o:aq}{f g:Nat->Int}(hi:L[j]?=ax (tbE b a c f g o)):DoX ah (aK 334 (af b (0+2))) w PK K=K (nsV f) w:=Jn (d.amG j hi (0+2) (nsC f) rfl agD)
theorem Tu (d:cH S w0 w L)(j:Nat){a o:aq}{f g:Nat->Int}(hi:L[j]?=ax (tbE b a c f g o)):DoX ah (aK 123 (af b (0+34))) w PK K=K o w:=aR H5 (d.cell j hi 34 rfl)
theorem WD (j:Nat){a o:aq}{f g d:Nat->Int}(e:cH S w0 w L)(hi:L[j]?=ax (tbE b a c f g o))(k:∀w',cH S w0 w' (L.set j (tbE b a c f d o))->K undef w') :
  DoX ah (aV 334 (af b (0+18)) (nsV d)) w PK K:=GD j e hi (new:=nsC d) szNs (XM d) (by show 0+18+16<=35;omega) k
theorem WA (j:Nat){a o o':aq}{f g:Nat->Int}(h:o'.oneCell'=av)(d:cH S w0 w L)(hi:L[j]?=ax (tbE b a c f g o))(k:∀w',cH S w0 w' (L.set j (tbE b a c f g o'))->K undef w') :
  DoX ah (aV 123 (af b (0+34)) o') w PK K:=aN j d hi krx h (by show 0+34 < 35;omega) k
end
def dd (lens:List Nat)(l i:Nat):List Nat:=(List.range i).filter λi=>ai (lens.getD i 0=l)
theorem qi (lens:List Nat)(l i:Nat):(dd lens l i).length<=i:=by
 have:=aAt (λi=>ai (lens.getD i 0=l)) (List.range i);rw[aAu] at this;exact this
theorem qj (lens:List Nat):∀l,(bh lens l).length<=l*lens.length
|0=>by simp[bh]
|l+1=>by
  have a:=qj lens l;have b:=qi lens (l+1) lens.length;have e:lf lens (l+1)=dd lens (l+1) lens.length:=rfl;rw[bh,asY,e,awM];omega
theorem nH (a b:List Nat):aY (a++b)=aY a++aY b:=by simp[aY]
theorem E6 (lens:List Nat)(v:aq)(M:Mem)(w:ao)(j:∀l∈lens,l<=15)(g:lens.length<=100000)(P:0 < lens.length)(z:M.has w)(y:SlA M.A M.w v 1 lens.length (aY lens)) :
  jJ ah 295 #[v] M w (λr N=>if bj lens≠0 then r=.tuple #[.pointer aw,ad (bj lens)] else ∃b,r=.tuple #[af b 0,ad 0]∧TbAt N.A N.w b lens):=by
 refine aU z λK G=>Ge ?_;unfold Hm nz;have a:cH M.A w w [.mem M]:=cH.memS z;refine bG a 0 rfl (Mz lens v M w j g z y) ?_;rintro _ N1 Q g1 ⟨cv,rfl,k,m⟩ a;simp only[ex,eF];by_cases n:bj lens=0
 case neg=>
  simp only[n,ne_eq,avD,asX,i_t];exact G _ _ N1 _ 0 a rfl g1 (by rw[asU n])
 have m:=m n;simp only[n,ne_eq,not_true,asW,i_f];refine bG a 0 rfl (Mm lens v N1 Q g P (a.hasM 0 rfl) (y.le g1)) λd e w2 g2 o a=>?_;refine aJ a (R:=λr=>r=nsV (cnt lens)) (jJ.told (yA lens v e w2 j g (a.hasM 0 rfl) (y.le (g1.trans g2)))) ?_;rintro _ w3 rfl a;rw[m_tb o.one k];refine ajP o.one k a λb S a=>?_;rw[bD,R7,tb_n a 0 rfl];refine aJ a (R:=λr=>r=nsV (FL lens)) (jJ.told (GX lens e S g (a.hasM 1 rfl))) ?_;rintro _ w5 rfl a;rw[bD,Wl];refine WD 0 a rfl λT a=>?_;have p:=y.le (g1.trans g2);have a:cH M.A w T [.urow 3 1 cO 0 [],tbE b d cv (cnt lens) (FL lens) cO,.mem e]:=cH.nilU (L:=[tbE b d cv (cnt lens) (FL lens) cO,.mem e]) a _ _;refine loop (λvs W=>∃(l:Nat) (ov:aq),vs=[ad ((l+1:Nat):Int)]∧l<=15∧cH M.A w W [.urow 3 1 ov (bh lens l).length (aY (bh lens l)),tbE b d cv (cnt lens) (FL lens) ov,.mem e]) (λvs _=>16 - n0 vs) ⟨0,cO,rfl,om,a⟩ ?_;clear a;rintro vs U ⟨l,ov,rfl,q,a⟩ _;simp only[Cx,gd,rs,nz];by_cases s:((l+1:Nat):Int)<=15
 ·simp only[s,asX,i_t];rw[aZ auA (p.now (a.hasM 2 rfl))];have V:=qj lens l;have H:l*lens.length<=15*100000:=awX q g;refine loop (λvs W=>∃(i:Nat) (ov:aq),vs=[ad i]∧i<=lens.length∧cH M.A w W [.urow 3 1 ov (bh lens l++dd lens (l+1) i).length (aY (bh lens l++dd lens (l+1) i)),tbE b d cv (cnt lens) (FL lens) ov,.mem e]) (λvs _=>lens.length - n0 vs) ⟨0,ov,rfl,om,by
   rw[show dd lens (l+1) 0=[] from rfl,atX];exact a⟩ ?_
  clear a;rintro vs I ⟨i,ov,rfl,hi,a⟩ _;simp only[B3,gd,rs,nz];by_cases f:(i:Int) < (lens.length:Int)
  ·have t:i < lens.length:=om
   simp only[f,asX,i_t];refine join λJ X=>?_;obtain⟨b2,off,Y,Z⟩:=oU (p.now (a.hasM 2 rfl)) t;have B:lens.getD i 0=lens[i]:=by rw[atD,atI t];rfl
   refine aC (Y I) |>.mpr (aC (aB bZ Z) |>.mpr ?_);have a1:=qi lens (l+1) i;have c:dd lens (l+1) (i+1)=dd lens (l+1) i++(if lens[i]=l+1 then [i] else []):=by
    unfold dd;rw[ayE,aAv]
    congr 1
    rw[<-B];by_cases h:lens.getD i 0=l+1
    ·rw[asU h];exact List.filter_cons_of_pos (atA h)
    ·rw[asT h];exact List.filter_cons_of_neg (by rw[asZ h];decide)
   have fin:∀(W:ao) (ov:aq),cH M.A w W [.urow 3 1 ov (bh lens l++dd lens (l+1) (i+1)).length (aY (bh lens l++dd lens (l+1) (i+1))),tbE b d cv (cnt lens) (FL lens) ov,.mem e]->J [] W:=by
    intro W ov a;refine X _ _ λ_=>?_;simp only[BL,gd,rs,nz];rw[aA om om];exact aS ⟨i+1,ov,rfl,om,a⟩ (by simp[n0,RowKit.intOf];omega)
   simp only[rs];by_cases he:lens[i]=l+1
   ·rw[asU he] at c;simp only[show ai (((lens[i]:Nat):Int)=((l+1:Nat):Int))=av from atA om,i_t,rs,bD];rw[Ov,Tu a 1 rfl];refine yM (i:Int) a λb3 w9 a=>?_;refine sE 1 a rfl (a.sl 0 rfl 1 1 1 rfl) xH (by rw[asY];omega) λv' a6 a=>?_
    try simp only[rs,bD]
    rw[Ov];refine WA 2 (dO (a.at_ 1 rfl)) a rfl λC a=>?_;refine fin C v' ?_;have e1:aY (bh lens l++dd lens (l+1) (i+1))=aY (bh lens l++dd lens (l+1) i)++Rd [(i:Int)]:=by
     rw[c,<-atJ,nH];rfl
    have e2:(bh lens l++dd lens (l+1) (i+1)).length=(bh lens l++dd lens (l+1) i).length+1:=by
     rw[c,<-atJ,asY];rfl
    rw[e1,e2];exact a.tail
   ·rw[asT he,atX] at c;simp only[show ai (((lens[i]:Nat):Int)=((l+1:Nat):Int))=au from asZ om,i_f];refine fin I ov ?_;rw[c];exact a
  ·simp only[f,asW,i_f];have D:i=lens.length:=om
   subst D;rw[aA om om];exact aS ⟨l+1,ov,rfl,om,a⟩ (by simp[n0,RowKit.intOf];omega)
 ·have g:l=15:=om
  subst g;simp only[s,asW,i_f];obtain⟨O,g3,u,a⟩:=cH.bV (L:=[tbE b d cv (cnt lens) (FL lens) ov,.mem e]) a 1 rfl;have a:cH M.A w U [tbE b d cv (cnt lens) (FL lens) ov,.mem O]:=a;have E:=a.at_ 0 rfl;obtain⟨N4,g4,F,x,a⟩:=cH.freeze (L:=[.mem O]) a 0 rfl;refine G _ _ N4 _ 0 a rfl (g1.trans (g2.trans (g3.trans g4))) ?_;rw[asT (by simp[n])];exact⟨b,rfl,d,cv,ov,x b rfl,by rw[F];exact E,u.le g4⟩
def je (lens:List Nat)(s:List UInt8):Nat->Nat->Nat->Nat->Nat×Nat×Int
|0,_,p,_=>(0,p,13)
|f+1,l,p,code=>if Fl.bH lens 15<=Fl.bH lens l then (0,p,13) else if 8*s.length<=p then (0,p,4)
  else if 2*code+Fl.bit s p < Fl.first lens (l+1)+lens.count (l+1) then ((bh lens 15).getD (Fl.bH lens l+(2*code+Fl.bit s p - Fl.first lens (l+1))) 0,p+1,0)
  else je lens s f (l+1) (p+1) (2*code+Fl.bit s p)
def ec (lens:List Nat)(s:List UInt8)(p:Nat):Nat×Nat×Int:=je lens s 16 0 p 0
theorem ti (lens:List Nat):(List.range lens.length).map (λi=>lens.getD i 0)=lens:=by
 refine List.ext_getElem sm λi b a=>?_;rw[aAh,List.getElem_range,atD,atI a];rfl
theorem qk (lens:List Nat)(l:Nat):(lf lens l).length=lens.count l:=by
 conv=>rhs;rw[<-ti lens]
 rw[List.count_eq_countP,List.countP_map,List.countP_eq_length_filter];unfold lf
 congr 1
theorem nr (lens:List Nat):∀l,(bh lens l).length=Fl.bH lens l
|0=>rfl
|l+1=>by rw[bh,asY,nr lens l,qk,Fl.bH]
theorem my (lens:List Nat){a:Nat}(h:a<=b):Fl.bH lens a<=Fl.bH lens b:=by
 induction b with
|zero=>
  have:a=0:=om
  subst this;exact atE _
|succ b c=>
  rcases auC a (b+1) with d|d
  ·have:=c om;rw[Fl.bH];omega
  ·have:a=b+1:=om
   subst this;exact atE _
theorem akM {c:Nat}(a:b < 2)(d:c<=1000000):bOr .i64 ((c*2:Nat):Int) (b:Int)=((2*c+b:Nat):Int):=by
 have e:c*2 ||| b=2*c+b:=by
  have:=aAN (i:=1) (b:=b) (by simpa using a) c;rw[awN c];simpa using this.symm
 unfold bOr;show IntKind.wrap .i64 (((BitVec.ofInt 64 ((c*2:Nat):Int) ||| BitVec.ofInt 64 (b:Int)).toNat:Nat):Int)=_;rw[BitVec.ofInt_natCast,BitVec.ofInt_natCast,BitVec.toNat_or,BitVec.toNat_ofNat,BitVec.toNat_ofNat,avF om,avF om,e];exact aA om om
theorem Za {a o:aq}{f g:Nat->Int}(d:M.A b)(h:(tbE b a c f g o).is M.w)(e:M.has W):(tbE b a c f g o).is W:=by
 show W.heap[b]?=_;rw[e b d];exact h
section
variable {W:ao}{b:Nat}{a c o:aq}{f g:Nat->Int}
theorem afT (h:(tbE b a c f g o).is W):(aK 123 (af b (0+34))).run ah W=.ok (.value o) W:=aB H5 (aG (T:=337) (cs:=tbC a c f g o) h rfl)
theorem Xl (h:(tbE b a c f g o).is W)(hi:i < 16):(aK 3 (af b (0+2+i))).run ah W=.ok (.value (ad (f i))) W:=aB bZ (aG (T:=337) (cs:=tbC a c f g o) h (by
 unfold tbC;rw[show 0+2+i=i+1+1 by omega,auT,auT,avK (by show i < 16;exact hi)];exact KZ f hi))
theorem afM (h:(tbE b a c f g o).is W)(hi:i < 16):(aK 3 (af b (0+18+i))).run ah W=.ok (.value (ad (g i))) W:=aB bZ (aG (T:=337) (cs:=tbC a c f g o) h (by
 unfold tbC;rw[show 0+18+i=(i+16)+1+1 by omega,auT,auT,avU (by show 16<=i+16;omega)];show (nsC g++[o])[i+16 - 16]?=_;rw[axQ,avK (by show i < 16;exact hi)];exact KZ g hi))
end
theorem KW {a:Option Addr}{l:Nat}{p:Addr}(h:wF a l cap sz=ax p):∃q:Addr,a=ax q∧q.block=p.block:=by
 unfold wF at h;split at h
 ·exact⟨p,h,rfl⟩
 ·obtain⟨q,b,rfl⟩:=avM.1 h;exact⟨q,b,by unfold Addr.add;split<;>rfl⟩
theorem SlA.adX {a:Option Addr}{n:Nat}(h:SlA A w (.slice a n cap) sz n cs)(hi:i<=n):SlA A w (.slice (wF a i cap sz) (n - i) (cap - i)) sz (n - i) (cs.drop (i*sz)):=by
 have b:=h.2.2 _ _ _ rfl;refine⟨Sl.from h.1 hi b,λp l c e g=>?_,λa' l c e=>?_⟩
 ·injection e with e _ _
  obtain⟨q,d,f⟩:=KW e;have:=h.2.1 q n cap (by rw[d]) om
  rwa [<-f]
 ·injection e with _ j k
  omega
theorem V7 :DoX ah (mEq .eql 294 xo yo (af b 0) (.pointer aw)) w PK K=K (.bool au) w:=aC krx
section
variable {w:ao}{PK:PKT}{K:VWP}{S:Nat->Prop}{w0:ao}{L:List Ent}
theorem Rl {s:List UInt8}{lens:List Nat}(j jm:Nat)(D:jm≠j)(a:cH S w0 w L)(P:L[j]?=ax (bqE b s way p))(hm:L[jm]?=ax (.mem M))(ht:TbAt M.A M.w tb lens)(hl:lens.length<=1000)(hw:way=0∨way=1)(hp:p<=8*s.length)(hs:s.length<=1000000000)
  (k:∀way' W,way'=0∨way'=1->(ec lens s p).2.1<=8*s.length->cH S w0 W (L.set j (bqE b s way' (ec lens s p).2.1))->K (.tuple #[ad (ec lens s p).1,ad (ec lens s p).2.2]) W) :
  dZ ah 347 #[af tb 0,af b 0] w PK K:=by
 have E:j < L.length:=(atT.1 P).1;generalize hR:ec lens s p=R at k;refine fY (De (k0:=wM λv W=>∃way',(way'=0∨way'=1)∧R.2.1<=8*s.length∧v=.tuple #[ad R.1,ad R.2.2]∧cH S w0 W (L.set j (bqE b s way' R.2.1))) ?_) (λe W ⟨v,he,way',F,h2,hv,a⟩=>by subst he;subst hv;exact k way' W F h2 a);unfold xE nz;obtain⟨ta,tc,tv,Q,g,m⟩:=ht;rw[V7];simp only[rs];rw[GS];simp only[rs,bD];have o:∀x:Int×Nat,(L.set j (bqE b s x.1 x.2))[jm]?=ax (.mem M):=λx=>by rw[azQ (Ne.symm D)];exact hm
 rw[Ov];refine aC (afT (Za Q g (a.hasM jm hm))) |>.mpr ?_;have hlen:=nr lens 15;refine loop (λvs W=>∃(l q code:Nat) (way:Int) (G:aq),vs=[G,ad code,ad ((l+1:Nat):Int)]∧SlA M.A M.w G 1 (Fl.bH lens 15 - Fl.bH lens l) (aY ((bh lens 15).drop (Fl.bH lens l)))∧l<=15∧code < 2 ^ l∧Fl.first lens (l+1)<=2*code∧(way=0∨way=1)∧q<=8*s.length ∧
  je lens s (16 - l) l q code=R∧cH S w0 W (L.set j (bqE b s way q))) (λvs _=>16 - n2 vs) ⟨0,p,0,way,tv,rfl,?_,om,dc,by simp[Fl.first],hw,hp,hR,by rw[E7 P];exact a⟩ ?_
 ·rw[show Fl.bH lens 0=0 from rfl,auX,azE,<-hlen];exact m
 clear a;rintro vs w2 ⟨l,q,code,way,G,rfl,f,r,a1,a6,hw,H,c,a⟩ _;simp only[sF,gd,nz];rw[aZ auA (f.now (a.hasM jm (o (way,q))))];simp only[rs];have a7:=my lens r;have a8:=Fl.JV (lens:=lens) 15;have I:16 - l=(15 - l)+1:=om
 rw[I,je] at c;have J:(L.set j (bqE b s way q))[j]?=ax (bqE b s way q):=by rw[awU E]
 by_cases t:(0:Int) < ((Fl.bH lens 15 - Fl.bH lens l:Nat):Int)
 case neg=>
  simp only[t,asW,i_f];rw[asU om] at c;subst c;exact vB ⟨way,hw,H,rfl,a⟩
 have T:l < 15:=by
  rcases auC l 15 with h|h
  ·exact h
  ·have:l=15:=om
   subst this;omega
 rw[asT om] at c;simp only[t,asX,i_t];refine ajO (n:=1) j a J hw H om hs (λF W a=>?_) (λF W a=>?_)
 ·rw[asU dc,ayW] at a;rw[asT om] at c;have u:Fl.num s q 1=Fl.bit s q:=by simp[Fl.num]
  simp only[ex,eF,show ai ((0:Int)≠0)=au by decide,i_f];have hb:=Fl.Ww s q;have U:2 ^ l<=2 ^ 14:=avP dc om;have V:(2:Nat) ^ 14=16384:=dc
  rw[Fa dc];rw[show (code:Int)*2 ^ (min (1:Int).toNat IntKind.i64.bits)=((code*2:Nat):Int) by
   rw[show min (1:Int).toNat IntKind.i64.bits=1 from rfl];push_cast;omega]
  rw[aA om om,u,b_or,akM hb om];have X:=a.hasM jm (o (1,q+1));have d:=Za Q g X
  try simp only[rs,bD]
  rw[Wl,JB om];refine aC (afM d om) |>.mpr ?_;have y:FL lens (l+1)=((Fl.first lens (l+1):Nat):Int):=by show ((Fl.first lens (if l+1<=15 then l+1 else 0):Nat):Int)=_;rw[asU om]
  have z:cnt lens (l+1)=((lens.count (l+1):Nat):Int):=by unfold cnt;rw[asT om]
  have b0:lens.count (l+1)<=lens.length:=ayN;rw[y]
  try simp only[rs,bD]
  rw[aA om om,R7,JB om];refine aC (Xl d om) |>.mpr ?_;rw[z]
  try simp only[rs]
  have N:Fl.bH lens (l+1)=Fl.bH lens l+lens.count (l+1):=by rw[Fl.bH]
  have Y:=my lens (show l+1<=15 by omega);by_cases B:((2*code+Fl.bit s q:Nat):Int) - ((Fl.first lens (l+1):Nat):Int) < ((lens.count (l+1):Nat):Int)
  ·simp only[B,asX,i_t];rw[asU om] at c;have O:((bh lens 15).drop (Fl.bH lens l)).length=Fl.bH lens 15 - Fl.bH lens l:=by rw[atG,hlen]
   have C:2*code+Fl.bit s q - Fl.first lens (l+1) < ((bh lens 15).drop (Fl.bH lens l)).length:=om
   obtain⟨b2,off,r1,r2⟩:=oU (l:=(bh lens 15).drop (Fl.bH lens l)) (by rw[O];exact f.now X) C;rw[show ((2*code+Fl.bit s q:Nat):Int) - ((Fl.first lens (l+1):Nat):Int)=((2*code+Fl.bit s q - Fl.first lens (l+1):Nat):Int) by omega];refine aC (r1 W) |>.mpr (aC (aB bZ r2) |>.mpr ?_);have e0:((bh lens 15).drop (Fl.bH lens l))[2*code+Fl.bit s q - Fl.first lens (l+1)]=(bh lens 15).getD (Fl.bH lens l+(2*code+Fl.bit s q - Fl.first lens (l+1))) 0:=by
    rw[List.getElem_drop,atD,atI (by rw[atG] at C;omega)];rfl
   rw[e0];generalize (bh lens 15).getD (Fl.bH lens l+(2*code+Fl.bit s q - Fl.first lens (l+1))) 0=sym at c;subst c;exact vB ⟨1,.inr rfl,by show q+1<=_;omega,rfl,a⟩
  ·simp only[B,asW,i_f];rw[asT om] at c
   try simp only[rs,bD]
   rw[R7,JB om];refine aC (Xl d om) |>.mpr ?_;rw[z];obtain⟨oa,oc,rfl,Z⟩:=f.form;refine aC (dD auA (show _=ax 1 by kernel_rfl) om om) |>.mpr ?_;rw[atC]
   try simp only[rs]
   rw[aA om om];refine aS ⟨l+1,q+1,2*code+Fl.bit s q,1,_,rfl,?_,om,?_,?_,.inr rfl,om,?_,a⟩ (by simp[n2,RowKit.intOf];omega)
   ·have:=f.adX (i:=lens.count (l+1)) om;rw[show Fl.bH lens 15 - Fl.bH lens (l+1)=Fl.bH lens 15 - Fl.bH lens l - lens.count (l+1) by omega];have e:(aY ((bh lens 15).drop (Fl.bH lens l))).drop (lens.count (l+1)*1)=aY ((bh lens 15).drop (Fl.bH lens (l+1))):=by
     unfold aY;rw[atY,<-List.map_drop,awS,N]
    rw[<-e];exact this
   ·rw[awD];omega
   ·rw[Fl.first];omega
   ·rw[show 16 - (l+1)=15 - l by omega];exact c
 ·simp only[ex,eF,show ai ((4:Int)≠0)=av by decide,i_t];rw[asU om] at c;subst c;exact vB ⟨way,hw,H,rfl,a⟩
end
def flC (rb:Nat)(ov:aq)(most:Int):List Value:=[af rb 0,ov,ad most]
def flE (b rb:Nat)(ov:aq)(most:Int):Ent:=.cells b (flC rb ov most) 278
def kQ (ov:aq)(out:List UInt8):Ent:=.urow 5 1 ov out.length (aH out)
theorem WW:kC ah 278 0=ax 0:=krx
theorem BG:kC ah 278 1=ax 1:=krx
theorem anF:kC ah 278 2=ax 2:=krx
theorem acV:eP ah 275=true:=krx
theorem GK:eP ah 53=true:=krx
section
variable {w:ao}{PK:PKT}{K:VWP}{S:Nat->Prop}{w0:ao}{L:List Ent}
theorem Pn {off:Nat}:DoX ah (mFA 278 (af b off) 0) w PK K=K (af b off) w:=aO WW
theorem YM (a:cH S w0 w L)(j:Nat){ov:aq}{most:Int}(hi:L[j]?=ax (flE b rb ov most)):DoX ah (aK 275 (af b 0)) w PK K=K (af rb 0) w:=aR acV (a.cell j hi 0 rfl)
theorem sI {ov:aq}{most:Int}{s:List UInt8}{n:Nat}(e j:Nat)(a:cH S w0 w L)(c:L[e]?=ax (flE fb b ov most))(f:L[j]?=ax (bqE b s way p))(hw:way=0∨way=1)(hp:p<=8*s.length)(g:n<=24)(i:s.length<=1000000000)
  (k:p+n<=8*s.length->∀W,cH S w0 W (L.set j (bqE b s (if 0 < n then 1 else way) (p+n)))->K (ad (Fl.num s p n)) W)
  (l:8*s.length < p+n->∀W,cH S w0 W L->PK [upI 4] W):dZ ah 305 #[af fb 0,ad (n:Int)] w PK K:=by
 refine⟨xP ?_⟩;unfold pQ nz;rw[bD,Pn,YM a e c];refine ajO j a f hw hp g i (λd W a=>?_) (λd W a=>?_)
 ·simp only[ex];exact xW (λ_=>k d W a) (λh=>absurd rfl h)
 ·simp only[ex];exact xW (λh=>absurd h dc) (λ_=>l d W a)
theorem Yg {ov:aq}{n:Nat}{out:List UInt8}(e g:Nat)(d:cH S w0 w L)(c:L[e]?=ax (flE fb b ov most))(f:L[g]?=ax (kQ ov out))(l:n<=1000000000)(hm:most<=1000000000)(i:out.length<=1000000000)
  (j:out.length+n<=most->∀W,cH S w0 W L->K (.tuple #[]) W) (k:most < out.length+n->∀W,cH S w0 W L->PK [upI 5] W):dZ ah 334 #[af fb 0,ad (n:Int)] w PK K:=by
 refine⟨yE ?_⟩;unfold qA nz;refine cQ (λW=>cH S w0 W L) d.drew ?_;refine gr _ (λ_=>cR) (gr _ (λ_=>bC BG) (iL ov (λW h=>aB GK (h.cell e c 1 rfl)) ?_));refine iL (ad (out.length:Int)) (λW h=>?_) ?_
 ·have:=h.slU g f;obtain⟨_,a,cap,rfl,_⟩:=this;simp[mB,builtin,Builtin.len_,run_underlying atM,goInt]
 refine nF ?_;rw[aA om om];refine gr _ (λ_=>cR) (gr _ (λ_=>bC anF) (iL (ad (most:Int)) (λW h=>aB bZ (h.cell e c 2 rfl)) (abR ?_)));intro w2 d;exact kF (λh=>j (by have:=atQ h;omega) w2 d) (λh=>k (by have:=auS h;omega) w2 d)
theorem tL {e:Int}(a:e=0->K v w)(b:e≠0->PK [upI e] w):dZ ah 338 #[v,ad e] w PK K:=by
 refine⟨jP ?_⟩;unfold fE nz;simp only[rs];exact kF (λh=>a (atQ h)) λh=>b (auS h)
end
def gu (each first:Nat):Nat->Nat
|0=>first
|i+1=>gu each first i+2 ^ (i / each - 1)
theorem ql (each first:Nat):∀i,i<=40->gu each first i<=first+i*2 ^ 40
|0,_=>by simp[gu]
|i+1,h=>by
  have a:=ql each first i om
  have b:i / each<=i:=axD _ _;have c:2 ^ (i / each - 1)<=2 ^ 40:=avP dc om;rw[gu,awM];omega
def snC (a b:Int):List Value:=[ad a,ad b]
def snV (a b:Int):Value:=.agg (snC a b).toArray
def snE (c:Nat)(a b:Int):Ent:=.cells c (snC a b) 371
theorem asD:I2 ah 371=ax 2:=krx
theorem szSn:(Tryz.prog.info? 371).map (·.size)=ax 2:=krx
theorem alQ:kC ah 371 0=ax 0:=krx
theorem aoJ:kC ah 371 1=ax 1:=krx
section
variable {w:ao}{PK:PKT}{K:VWP}{S:Nat->Prop}{w0:ao}{L:List Ent}
theorem aeT (a:cH S w0 w L)(k:∀b w',cH S w0 w' (snE b 0 0::L)->K (af b 0) w'):DoX ah (DO 371) w PK K:=
 bI (λb=>af b 0) (snC 0 0) 371 (λ_=>by kernel_rfl) a k
theorem aqS (a c:Int)(d:cH S w0 w L)(k:∀b w',cH S w0 w' (snE b a c::L)->K (af b 0) w'):DoX ah (Hr 371 (snV a c)) w PK K:=
 bI (λb=>af b 0) (snC a c) 371 (λ_=>by kernel_rfl) d k
theorem m_sn {c:Int}:DoX ah (aW 371 #[(0,ad a),(1,ad c)]) w PK K=K (snV a c) w:=aC krx
theorem arB :DoX ah (aW 371 #[(0,ad a)]) w PK K=K (snV a 0) w:=aC krx
theorem TG (j:Nat){c a' d:Int}(f:cH S w0 w L)(hi:L[j]?=ax (snE b a c))(k:∀w',cH S w0 w' (L.set j (snE b a' d))->K undef w') :
  DoX ah (aV 371 (af b 0) (snV a' d)) w PK K:=jK j f hi (new:=snC a' d) szSn (by intro v e;simp only[snC,atL,avO,or_false] at e;rcases e with rfl|rfl<;>rfl) rfl k
theorem TC {K:Ending->ao->Prop}{c:Int}(i:Nat)(d:cH S w0 w L)(hi:L[i]?=ax (snE b a c))(k:K (.returned (snV a c)) w):A2 ah [.cell (af b 0) 371] w K:=
 fH (bJ (d.agg i hi asD)) k
end
theorem MD (i first each:Nat)(w:ao)(hi:i<=40)(he:1<=each)(o:first<=1000):Ret ah 364 #[ad (i:Int),ad (first:Int),ad (each:Int)] w (λv w'=>v=snV (gu each first i) ((i / each - 1:Nat):Int)∧Below w.heap.size w w'):=by
 refine aL λK j=>Eh ?_;unfold Ad nz;refine aeT (Own.start w) λb l a=>?_;have a:Own w l [snE b 0 0]:=a;have more:∀q:Nat,max 0 (((q:Nat):Int) - 1)=((q - 1:Nat):Int):=λq=>by omega
 have quo:∀k:Nat,((k:Nat):Int).tdiv (each:Int)=((k / each:Nat):Int):=λk=>by
  rw[aAr om];rfl
 refine loop (λvs W=>∃k:Nat,vs=[ad (gu each first k),ad k]∧k<=i∧Own w W [snE b 0 0]) (λvs _=>i - n1 vs) ⟨0,rfl,om,a⟩ ?_;clear a;rintro vs w2 ⟨k,rfl,p,a⟩ _;simp only[tF,gd,rs,nz];by_cases e:(k:Int) < (i:Int)
 ·simp only[e,asX,i_t];have g:k / each<=k:=axD _ _;have c:=ql each first (k+1)
  rw[gu] at c;have f:gu each first (k+1)=gu each first k+2 ^ (k / each - 1):=rfl
  rw[Ih om,quo];generalize k / each=d at *;rw[aA om om]
  try simp only[rs]
  rw[aA om om,Br,more,Fa om];have c:=c om;have m:(2:Nat) ^ 40=1099511627776:=dc
  have n:2 ^ (d - 1)<=2 ^ 40:=avP dc om;rw[show min ((d - 1:Nat):Int).toNat IntKind.i64.bits=d - 1 by show min ((d - 1:Nat):Int).toNat 64=d - 1;omega];rw[show (1:Int)*2 ^ (d - 1)=((2 ^ (d - 1):Nat):Int) by push_cast;omega];have hm:(k+1)*2 ^ 40<=41*2 ^ 40:=auY _ om;generalize r:2 ^ (d - 1)=q at *;rw[aA om om]
  try simp only[rs]
  rw[aA om om,aA om om];exact aS ⟨k+1,by rw[f];rfl,om,a⟩ (by simp[n1,RowKit.intOf];omega)
 ·simp only[e,asW,i_f];have h:k=i:=om
  subst h;have g:k / each<=k:=axD _ _;have c:=ql each first (k+1)
  rw[gu] at c;have f:gu each first (k+1)=gu each first k+2 ^ (k / each - 1):=rfl
  rw[Ih om,quo];generalize k / each=d at *;rw[aA om om]
  try simp only[rs]
  rw[aA om om,Br,more,m_sn];have a:cH NoB w w2 [snE b 0 0]:=a;refine TG 0 a rfl λw3 a=>?_;exact TC 0 a rfl (j _ _ ⟨rfl,a.below⟩)
def jy (i:Nat):Nat:=if i=28 then 258 else gu 4 3 i
def fu (i:Nat):Nat:=if i=28 then 0 else i / 4 - 1
def fh (i:Nat):Nat:=gu 2 1 i
def ee (i:Nat):Nat:=i / 2 - 1
theorem Qd (i:Nat)(w:ao)(hi:i<=28):Ret ah 357 #[ad (i:Int)] w (λv w'=>v=snV (jy i) (fu i)∧Below w.heap.size w w'):=by
 refine aL λK c=>G3 ?_;unfold DN nz;refine aeT (Own.start w) λb d a=>?_;have a:cH NoB w d [snE b 0 0]:=a;simp only[rs];by_cases h:(i:Int)=28
 ·have hi:i=28:=om
  subst hi;simp only[h,asX,i_t];rw[arB];refine TG 0 a rfl λw3 a=>?_;exact TC 0 a rfl (c _ _ ⟨rfl,a.below⟩)
 ·simp only[h,asW,i_f];refine aJ a (R:=λv=>v=snV (gu 4 3 i) ((i / 4 - 1:Nat):Int)) (MD i 3 4 d om om om) ?_;rintro _ w2 rfl a;refine TG 0 a rfl λw3 a=>?_;refine TC 0 a rfl (c _ _ ⟨?_,a.below⟩);unfold jy fu;rw[asT om,asT om]
theorem TJ (i:Nat)(w:ao)(hi:i<=30):Ret ah 359 #[ad (i:Int)] w (λv w'=>v=snV (fh i) (ee i)∧Below w.heap.size w w'):=by
 refine aL λK d=>Ir ?_;unfold FW nz;refine aeT (Own.start w) λb c a=>?_;have a:cH NoB w c [snE b 0 0]:=a;refine aJ a (R:=λv=>v=snV (gu 2 1 i) ((i / 2 - 1:Nat):Int)) (MD i 1 2 c om om om) ?_;rintro _ w2 rfl a;refine TG 0 a rfl λw3 a=>?_;exact TC 0 a rfl (d _ _ ⟨rfl,a.below⟩)
theorem Oy (a e m:Nat)(w:ao)(h:a<=1000000000)(he:e<=30)(hm:m < 2 ^ e):Ret ah 363 #[snV (a:Int) (e:Int),ad (m:Int)] w (λv w'=>v=.tuple #[ad ((a+m:Nat):Int),ad 0]∧Below w.heap.size w w'):=by
 refine aL λK d=>As ?_;unfold rA nz;refine aqS _ _ (Own.start w) λb f c=>?_;have c:cH NoB w f [snE b a e]:=c;have hp:2 ^ e<=2 ^ 30:=avP dc he;have g:(2:Nat) ^ 30=1073741824:=dc
 simp only[rs,show ai ((m:Int) < 0)=au from asZ om];rw[aO aoJ,aR bZ (c.cell 0 rfl 1 rfl),Fa om];rw[show min (e:Int).toNat IntKind.i64.bits=e by show min (e:Int).toNat 64=e;omega];rw[show (1:Int)*2 ^ e=((2 ^ e:Nat):Int) by push_cast;omega,aA om om];simp only[rs,show ai (((2 ^ e:Nat):Int)<=(m:Int))=au from asZ om];rw[aO alQ,aR bZ (c.cell 0 rfl 0 rfl)];simp only[rs];rw[aA om om];exact d _ _ ⟨rfl,c.below⟩
theorem tj (h:i<=28):jy i<=1000∧fu i<=5:=by
 have:i=0∨i=1∨i=2∨i=3∨i=4∨i=5∨i=6∨i=7∨i=8∨i=9∨i=10∨i=11∨i=12∨i=13∨i=14∨i=15∨i=16∨i=17∨i=18∨i=19∨i=20∨i=21∨i=22∨i=23∨i=24∨i=25∨i=26∨i=27∨i=28:=om
 rcases this with rfl|rfl|rfl|rfl|rfl|rfl|rfl|rfl|rfl|rfl|rfl|rfl|rfl|rfl|rfl|rfl|rfl|rfl|rfl|rfl|rfl|rfl|rfl|rfl|rfl|rfl|rfl|rfl|rfl<;>decide
theorem tm (h:i<=29):fh i<=100000∧ee i<=13:=by
 have:i=0∨i=1∨i=2∨i=3∨i=4∨i=5∨i=6∨i=7∨i=8∨i=9∨i=10∨i=11∨i=12∨i=13∨i=14∨i=15∨i=16∨i=17∨i=18∨i=19∨i=20∨i=21∨i=22∨i=23∨i=24∨i=25∨i=26∨i=27∨i=28∨i=29:=om
 rcases this with rfl|rfl|rfl|rfl|rfl|rfl|rfl|rfl|rfl|rfl|rfl|rfl|rfl|rfl|rfl|rfl|rfl|rfl|rfl|rfl|rfl|rfl|rfl|rfl|rfl|rfl|rfl|rfl|rfl|rfl<;>decide
theorem Xi (i m:Nat)(w:ao)(hi:i<=28)(hm:m < 2 ^ fu i):Ret ah 356 #[ad ((257+i:Nat):Int),ad (m:Int)] w (λv w'=>v=.tuple #[ad ((jy i+m:Nat):Int),ad 0]∧Below w.heap.size w w'):=by
 refine aL λK b=>GZ ?_;unfold DP nz;have a:cH NoB w w []:=Own.start w;obtain⟨c,d⟩:=tj hi;simp only[rs,show ai (((257+i:Nat):Int) < 257)=au from asZ om,show ai ((285:Int) < ((257+i:Nat):Int))=au from asZ om];rw[aA om om,show ((257+i:Nat):Int) - 257=(i:Int) by omega];refine aJ a (R:=λv=>v=snV (jy i) (fu i)) (Qd i w hi) ?_;rintro _ w2 rfl a;refine aJ a (R:=λv=>v=.tuple #[ad ((jy i+m:Nat):Int),ad 0]) (Oy _ _ m w2 om om hm) ?_;rintro _ w3 rfl a;simp only[ex];exact b _ _ ⟨rfl,a.below⟩
theorem abZ (i m:Nat)(w:ao)(hi:i<=29)(hm:m < 2 ^ ee i):Ret ah 358 #[ad (i:Int),ad (m:Int)] w (λv w'=>v=.tuple #[ad ((fh i+m:Nat):Int),ad 0]∧Below w.heap.size w w'):=by
 refine aL λK b=>IK ?_;unfold FT nz;have a:cH NoB w w []:=Own.start w;obtain⟨c,d⟩:=tm hi;simp only[rs,show ai ((i:Int) < 0)=au from asZ om,show ai ((29:Int) < (i:Int))=au from asZ om];refine aJ a (R:=λv=>v=snV (fh i) (ee i)) (TJ i w om) ?_;rintro _ w2 rfl a;refine aJ a (R:=λv=>v=.tuple #[ad ((fh i+m:Nat):Int),ad 0]) (Oy _ _ m w2 om om hm) ?_;rintro _ w3 rfl a;simp only[ex];exact b _ _ ⟨rfl,a.below⟩
end
end Go.Proofs.YtlipjfcbjemicaaGreatDoor
