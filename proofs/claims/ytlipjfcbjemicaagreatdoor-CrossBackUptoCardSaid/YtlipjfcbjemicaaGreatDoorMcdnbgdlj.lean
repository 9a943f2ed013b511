/- Texts that go together: InfQ SInflR SInflQ InfR IrB IrC IrD SZlib SRef13 ZlA EngAK SPred SRef15 PrA PrB SAsci SAsciR SAsciQ AsA SRef14 AsR AsS AsT AsU SFilt SFilt16 FeA SRef16 FeB CsB Plain18D Plain18E EngAE. -/
import Derived.Test.YtlipjfcbjemicaaGreatDoorRows
import Derived.Lib.ConvBytes
import Derived.Laws.IdiomCopy
import Derived.Test.YtlipjfcbjemicaaGreatDoorMimcpefbm
set_option linter.defProp false
set_option linter.unusedSimpArgs false
set_option linter.unusedVariables false
set_option maxRecDepth 20000
open Go.Proofs.Tryz
open Go.Proofs.Tryz renaming prog->ah
open Option renaming some->ax,none->aw
open Bool renaming true->av,false->au
open Go renaming Value->aq,World->ao
open Decidable renaming decide->ai
namespace Go.Proofs.YtlipjfcbjemicaaGreatDoor
variable{A S:Nat->Prop}{D:TypeId}{K:VWP}{L:List Eng.Ent}{M:Eng.Mem}{PK:PKT}{R:Ending->FrameMode->ao->Prop}{W w w0:ao}{a colors way:Int}{above key:List UInt8}{b cap fb i most p rb sz:Nat}{cs:List aq}{e:Eng.Ent}{o:Ob}{os:List Ob}{q:Bool}{t0 v va vc vk:aq}{u:FrameMode}{t0 t1 t2 t3:aq}{k0:Eng.KT}
section
open Eng Go.RowKit
theorem TbAt.le {M N:Mem}(h:M.le N){b:Nat}{lens:List Nat}(k:TbAt M.A M.w b lens):TbAt N.A N.w b lens:=by
 obtain⟨a,c,o,d,e,f⟩:=k;exact⟨a,c,o,h.A b d,(tbE b a c (cnt lens) (fstW lens) o).keep e (λk g=>by cases g;exact h.has b d),f.le h⟩
theorem za:∀l∈cr,l<=15:=by
 intro l a;have h:cr.all (λl=>ai (l<=15))=true:=by decide +kernel
 exact amU (apA.1 h l a)
theorem xm:∀l∈db,l<=15:=by
 intro l a;rw[apP a];decide
theorem pq:cr.length=288:=by decide +kernel
theorem mg:db.length=32:=by decide +kernel
theorem mz:bh cr=0:=by decide +kernel
theorem nc:bh db=0:=by decide +kernel
def cd:List Nat:=[16,17,18,0,8,7,9,6,10,5,11,4,12,3,13,2,14,1,15]
theorem zb (h:i < 19):cd.getD i 0 < 19:=by
 have a:(List.range 19).all (λi=>ai (cd.getD i 0 < 19))=true:=by decide +kernel
 exact amU (apA.1 a i (aoE.2 h))
def Od (M:Mem):Prop:=M.A 2∧∀i,i < 19->M.w.cell? ⟨2,i,aw⟩=ax (.int .i64 ((cd.getD i 0:Nat):Int))
theorem Od.le {M N:Mem}(h:M.le N)(k:Od M):Od N:=⟨h.A _ k.1,λi hi=>Mem.cell h.has k.1 (k.2 i hi)⟩
theorem lt19 (h:i < 19):i=0∨i=1∨i=2∨i=3∨i=4∨i=5∨i=6∨i=7∨i=8∨i=9∨i=10∨i=11∨i=12∨i=13∨i=14∨i=15∨i=16∨i=17∨i=18:=om
def fo (s:List UInt8)(p:Nat):Nat->List Nat
|0=>List.replicate 19 0
|i+1=>(fo s p i).set (cd.getD i 0) (Fl.num s (p+3*i) 3)
theorem mh (s:List UInt8)(p:Nat):∀i,(fo s p i).length=19
|0=>rfl
|i+1=>by rw[fo,aoV,mh s p i]
theorem rq (s:List UInt8)(p:Nat):∀i,∀x∈fo s p i,x<=7
|0,x,h=>by rw[apP h];decide
|i+1,x,h=>by
  rcases asL h with h|h
  ·exact rq s p i x h
  ·have:=Fl.xV s (p+3*i) 3;rw[h];omega
def gh (s:List UInt8)(most p:Nat)(out:List UInt8):List UInt8×Nat×Int:=
 if 8*s.length < p+5 then (out,p,4)
 else if 29 < Fl.num s p 5 then (out,p,3)
 else if 8*s.length < p+10 then (out,p,4)
 else if 29 < Fl.num s (p+5) 5 then (out,p,3)
 else if 8*s.length < p+14 then (out,p,4)
 else if 8*s.length < p+14+3*(Fl.num s (p+10) 4+4) then (out,p,4)
 else
  let cl:=fo s (p+14) (Fl.num s (p+10) 4+4)
  if bh cl≠0 then (out,p,bh cl)
  else
   let r:=Fl.lens cl s (Fl.num s p 5+257+(Fl.num s (p+5) 5+1)) (p+14+3*(Fl.num s (p+10) 4+4))
   if r.2.2≠0 then (out,p,r.2.2)
   else if r.1.getD 256 0=0 then (out,p,13)
   else if bh (r.1.take (Fl.num s p 5+257))≠0 then (out,p,bh (r.1.take (Fl.num s p 5+257)))
   else if bh (r.1.drop (Fl.num s p 5+257))≠0 then (out,p,bh (r.1.drop (Fl.num s p 5+257)))
   else fl (r.1.take (Fl.num s p 5+257)) (r.1.drop (Fl.num s p 5+257)) s most r.2.1 out
def dd (s:List UInt8)(most p:Nat)(out:List UInt8):List UInt8×Nat×Int:=
 if 8*s.length < p+2 then (out,p,4)
 else if Fl.num s p 2=0 then dy s most (p+2) out
 else if Fl.num s p 2=1 then fl cr db s most (p+2) out
 else if Fl.num s p 2=2 then gh s most (p+2) out
 else (out,p,3)
theorem SlA.TP {a:Option Addr}{n:Nat}(h:SlA A w (.slice a n cap) sz n cs)(hi:i<=n)(d:0 < i->0 < n):SlA A w (.slice (subA a 0 cap sz) i cap) sz i (cs.take (i*sz)):=by
 obtain⟨f,g,j⟩:=h;have r:=j _ _ _ rfl;refine⟨Sl.upto f hi,λp l c e k=>?_,λa l c e=>?_⟩
 ·injection e with b _ _
  obtain⟨q,m,o⟩:=G4 b;have:=g q n cap (by rw[m]) (d k)
  rwa [<-o]
 ·injection e with b s t
  omega
section
variable {w:ao}{PK:PKT}{K:VWP}{S:Nat->Prop}{w0:ao}{L:List Ent}
abbrev arT:TypeId:=308
theorem Wt :(eI arT (.pointer (ax ⟨b,0,aw⟩)) aw aw aw).run ah W=.ok (.value (.slice (ax ⟨b,0,aw⟩) 19 19)) W:=krx
theorem ZP {h:Nat}(c:h<=19):(eI arT (.pointer (ax ⟨b,0,aw⟩)) aw (ax (.int .i64 (h:Int))) aw).run ah W=.ok (.value (.slice (ax ⟨b,0,aw⟩) h 19)) W:=by
 rcases (by omega:h=19∨h < 19) with rfl|a
 ·kernel_rfl
 ·rcases lt19 a with rfl|rfl|rfl|rfl|rfl|rfl|rfl|rfl|rfl|rfl|rfl|rfl|rfl|rfl|rfl|rfl|rfl|rfl|rfl<;>kernel_rfl
theorem VR (hi:i < 19):(mIA arT (.pointer (ax ⟨b,0,aw⟩)) (.int .i64 (i:Int))).run ah W=.ok (.value (.pointer (ax ⟨b,i,aw⟩))) W:=by
 rcases lt19 hi with rfl|rfl|rfl|rfl|rfl|rfl|rfl|rfl|rfl|rfl|rfl|rfl|rfl|rfl|rfl|rfl|rfl|rfl|rfl<;>kernel_rfl
theorem ZD {ov:aq}{s:List UInt8}{out:List UInt8}{T:List Ent}(c:OwnS S w0 w (Fs fb rb s most ov way p out (.mem M::T)))(hw:way=0∨way=1)(hp:p<=8*s.length)(t:s.length<=1000000000)(g:most<=1000000000)(i:out.length<=most)
  (u:(fl cr db s most p out).2.2=0->(fl cr db s most p out).2.1<=8*s.length->(fl cr db s most p out).1.length<=most->∀N way' d W,M.le N->(way'=0∨way'=1)->OwnS S w0 W (Fs fb rb s most d way' (fl cr db s most p out).2.1 (fl cr db s most p out).1 (.mem N::T))->K (.tuple #[]) W)
  (x:(fl cr db s most p out).2.2≠0->∀N d way' j e W,M.le N->OwnS S w0 W (Fs fb rb s most d way' j e (.mem N::T))->PK [upI (fl cr db s most p out).2.2] W) :
  CallX ah 307 #[.pointer (ax ⟨fb,0,aw⟩)] w PK K:=by
 refine⟨sZ ?_⟩;unfold lZ nz;refine bH c 3 rfl (Jh M w (c.hasM 3 rfl)) ?_;rintro _ N1 q g1 ⟨a,b,rfl,y,z⟩ c;have c:OwnS S w0 q (Fs fb rb s most ov way p out (.mem N1::T)):=c;simp only[ex];refine bH c 3 rfl (BX cr a N1 q za (by rw[pq];omega) (by rw[pq];omega) (c.hasM 3 rfl) y) ?_;intro v r w2 g2 f c;rw[amA (by rw[mz];decide)] at f;obtain⟨tb,rfl,k⟩:=f;have c:OwnS S w0 w2 (Fs fb rb s most ov way p out (.mem r::T)):=c;simp only[ex];refine pX (λ_=>?_) (λh=>absurd rfl h);refine bH c 3 rfl (BX db b r w2 xm (by rw[mg];omega) (by rw[mg];omega) (c.hasM 3 rfl) (z.le g2)) ?_;intro v l w3 g3 f c;rw[amA (by rw[nc];decide)] at f;obtain⟨C,rfl,m⟩:=f;have c:OwnS S w0 w3 (Fs fb rb s most ov way p out (.mem l::T)):=c;simp only[ex];refine pX (λ_=>?_) (λh=>absurd rfl h);have hle:=g1.trans (g2.trans g3);exact Ts 0 c rfl (k.le g3) m (by rw[pq];omega) (by rw[mg];omega) hw hp t g i (λn A B way' d W o c=>u n A B l way' d W hle o c) (λn d way' j e W c=>x n l d way' j e W hle c)
theorem Vy (l:List Nat)(i n:Nat):aV (l.set i n)=(aV l).set i (.int .i64 (n:Int)):=by simp[aV,asM]
theorem TM {ov:aq}{s:List UInt8}{out:List UInt8}{T:List Ent}(d:OwnS S w0 w (Fs fb rb s most ov way p out (.mem M::T)))(b2:Rp M)(Y:Od M)(hw:way=0∨way=1)(hp:p<=8*s.length)(U:s.length<=1000000000)(b3:most<=1000000000)(b4:out.length<=most)
  (k1:(gh s most p out).2.2=0->(gh s most p out).2.1<=8*s.length->(gh s most p out).1.length<=most->∀N way' u W,M.le N->(way'=0∨way'=1)->OwnS S w0 W (Fs fb rb s most u way' (gh s most p out).2.1 (gh s most p out).1 (.mem N::T))->K (.tuple #[]) W)
  (z:(gh s most p out).2.2≠0->∀N u way' p' C W,M.le N->OwnS S w0 W (Fs fb rb s most u way' p' C (.mem N::T))->PK [upI (gh s most p out).2.2] W) :
  CallX ah 308 #[.pointer (ax ⟨fb,0,aw⟩)] w PK K:=by
 generalize f:gh s most p out=X at k1 z;unfold gh at f;dsimp only at f;refine⟨pN ?_⟩;unfold jY nz;have h5:(2:Nat) ^ 5=32:=dc
 have h4:(2:Nat) ^ 4=16:=dc
 refine oC (n:=5) 0 1 d rfl rfl hw hp om U (λD W1 d=>?_) (λD W1 d=>?_)
 rotate_left
 ·rw[amB D] at f;subst f;exact z (by dsimp only;decide) M _ _ _ _ _ M.le_refl d
 rw[amA om] at f;have d:OwnS S w0 W1 (Fs fb rb s most ov 1 (p+5) out (.mem M::T)):=d;have n1:=Fl.xV s p 5;generalize Fl.num s p 5=g at f n1
 try simp only[rs]
 rw[aA om om];refine iU (λE=>?_) (λE=>?_)
 rotate_left
 ·have:=anO E;rw[amB om] at f;subst f;exact z (by dsimp only;decide) M _ _ _ _ _ M.le_refl d
 have E:=amU E;rw[amA om] at f;refine oC (n:=5) 0 1 d rfl rfl (.inr rfl) D om U (λO W2 d=>?_) (λO W2 d=>?_)
 rotate_left
 ·rw[amB om] at f;subst f;exact z (by dsimp only;decide) M _ _ _ _ _ M.le_refl d
 rw[amA om] at f;have d:OwnS S w0 W2 (Fs fb rb s most ov 1 (p+5+5) out (.mem M::T)):=d;have n2:=Fl.xV s (p+5) 5;generalize Fl.num s (p+5) 5=hd at f n2
 try simp only[rs]
 rw[aA om om];refine iU (λF=>?_) (λF=>?_)
 rotate_left
 ·have:=anO F;rw[amB om] at f;subst f;exact z (by dsimp only;decide) M _ _ _ _ _ M.le_refl d
 have F:=amU F;rw[amA om] at f;refine bA (λb=>.pointer (ax ⟨b,0,aw⟩)) (aV (List.replicate 19 0)) arT (λ_=>by kernel_rfl) d λZ W3 d=>?_;refine oC (n:=4) 1 2 d rfl rfl (.inr rfl) O om U (λV W4 d=>?_) (λV W4 d=>?_)
 rotate_left
 ·rw[amB om] at f;subst f;exact z (by dsimp only;decide) M _ _ _ _ _ M.le_refl d.tail
 rw[amA om] at f;have d:OwnS S w0 W4 (.cells Z (aV (List.replicate 19 0)) arT::Fs fb rb s most ov 1 (p+14) out (.mem M::T)):=d;have n3:=Fl.xV s (p+10) 4;rw[show Fl.num s (p+5+5) 4=Fl.num s (p+10) 4 from rfl];generalize Fl.num s (p+10) 4=o at f n3
 try simp only[rs]
 rw[aA om om,show (o:Int)+4=((o+4:Nat):Int) by omega];refine aD (ZP om) |>.mpr ?_;have hlen:∀W:ao,DoX ah (mB .len #[123] 3 #[au] #[.slice (ax ⟨2,0,aw⟩) (o+4) 19]) W (Eng.pk λ_ _=>True) (λv _=>v=.int .i64 ((o+4:Nat):Int)):=λW=>by
  refine tG (v:=.int .i64 ((o+4:Nat):Int)) (w':=W) ?_ rfl;simp[mB,builtin,Builtin.len_,run_underlying amZ,goInt]
 clear hlen;refine tG (v:=.int .i64 ((o+4:Nat):Int)) (w':=W4) (by simp[mB,builtin,Builtin.len_,run_underlying amZ,goInt]) ?_;have b5:aV (List.replicate 19 0)=aV (fo s (p+14) 0):=rfl;rw[b5] at d;refine loop (λvs W=>∃i:Nat,vs=[.int .i64 (i:Int)]∧i<=o+4∧p+14+3*i<=8*s.length∧OwnS S w0 W (.cells Z (aV (fo s (p+14) i)) arT::Fs fb rb s most ov 1 (p+14+3*i) out (.mem M::T))) (λvs _=>o+4 - n0 vs) ⟨0,rfl,om,om,d⟩ ?_;clear d;rintro vs w5 ⟨i,rfl,hi,a1,d⟩ _;simp only[iI,gd,rs,iN,ldx,bnx,iax,exx,stx,slx,cx];by_cases a6:(i:Int) < ((o+4:Nat):Int)
 ·simp only[a6,amD,i_t];have H:i < 19:=om
  have a7:=dX (P:=ah) (T:=123) (b:=2) (off:=0) (cap:=19) (n:=o+4) (k:=.i64) (i:=(i:Int)) (w:=w5) amZ szI1 om om;rw[amK,anC,amO] at a7;refine aD a7 |>.mpr ?_;rw[aJ aU (Mem.cell (d.hasM 4 rfl) Y.1 (Y.2 i H))];refine oC (n:=3) 1 2 d rfl rfl (.inr rfl) a1 om U (λe6 W6 d=>?_) (λe6 W6 d=>?_)
  rotate_left
  ·rw[amB om] at f;subst f;exact z (by dsimp only;decide) M _ _ _ _ _ M.le_refl d.tail
  have d:OwnS S w0 W6 (.cells Z (aV (fo s (p+14) i)) arT::Fs fb rb s most ov 1 (p+14+3*i+3) out (.mem M::T)):=d;have I:=zb H;refine aD (VR I) |>.mpr ?_;refine aK 0 d rfl krx rfl (by rw[eO,mh];exact I) λw7 d=>?_
  try simp only[rs]
  rw[aA om om];refine aY ⟨i+1,rfl,om,om,?_⟩ (by simp[n0,RowKit.intOf];omega);rw[fo,Vy];exact d
 simp only[a6,amF,i_f];have b7:i=o+4:=om
 subst b7;rw[amA om] at f;have G:=mh s (p+14) (o+4);have a8:=rq s (p+14) (o+4);generalize fo s (p+14) (o+4)=cl at f G a8 d;refine aD Wt |>.mpr ?_;have b8:=d.at_ 0 rfl;obtain⟨N1,g1,b9,b0,d⟩:=OwnS.freeze (L:=Fs fb rb s most ov 1 (p+14+3*(o+4)) out (.mem M::T)) d 3 rfl;have d:OwnS S w0 w5 (Fs fb rb s most ov 1 (p+14+3*(o+4)) out (.mem N1::T)):=d;have c0:SlA N1.A N1.w (.slice (ax ⟨Z,0,aw⟩) 19 19) 1 cl.length (aV cl):=by
  rw[b9,G];refine⟨Sl.cells b8 1 19 19 (by rw[eO,G]),λq l c e _=>?_,λa l c e=>?_⟩
  ·injection e with D E O
   cases D;exact b0 Z rfl
  ·injection e with D E O
   omega
 refine bH d 3 rfl (BX cl _ N1 w5 (λl h=>by have:=a8 l h;omega) om om (d.hasM 3 rfl) c0) ?_;intro v N2 w6 g2 y d;have d:OwnS S w0 w6 (Fs fb rb s most ov 1 (p+14+3*(o+4)) out (.mem N2::T)):=d;by_cases B:bh cl=0
 case neg=>
  rw[amB B] at y;subst y;rw[amB B] at f;subst f;simp only[ex];refine pX (λh=>absurd h B) (λ_=>?_);exact z B N2 _ _ _ _ _ (g1.trans g2) d
 rw[amA (by simp[B])] at y;obtain⟨tb,rfl,c1⟩:=y;rw[amA (by simp[B])] at f;simp only[ex];refine pX (λ_=>?_) (λh=>absurd rfl h)
 try simp only[rs]
 rw[aA om om,show (g:Int)+257+((hd:Int)+1)=((g+257+(hd+1):Nat):Int) by omega];have g12:=g1.trans g2;refine Vf 0 d rfl c1 G (b2.le g12) (.inr rfl) a1 U om (λD E O F way' lv W Q d=>?_) (λD way' p' W d=>?_)
 rotate_left
 ·rw[amB D] at f;subst f;exact z D N2 _ _ _ _ _ g12 d
 rw[amA (by rw[D];decide)] at f;generalize Fl.lens cl s (g+257+(hd+1)) (p+14+3*(o+4))=r at f E O F d;obtain⟨l,q,e⟩:=r;dsimp only at f E O F d;obtain⟨R,g3,t,d⟩:=OwnS.bI (L:=Fs fb rb s most ov way' q out (.mem N2::T)) d 3 rfl;have d:OwnS S w0 W (Fs fb rb s most ov way' q out (.mem R::T)):=d;have g13:=g12.trans g3;have J:256 < l.length:=om
 obtain⟨b6,off,r1,r2⟩:=mU (t.now (d.hasM 3 rfl)) J;refine aD (r1 W) |>.mpr (aD (aB aU r2) |>.mpr ?_);have b1:l.getD 256 0=l[256]:=by rw[amI,amN J];rfl
 try simp only[rs]
 refine iU (λV=>?_) (λV=>?_)
 rotate_left
 ·have:=anO V;rw[amB (by rw[b1];omega)] at f;subst f;exact z (by dsimp only;decide) R _ _ _ _ _ g13 d
 have V:=amU V;rw[amA (by rw[b1];omega)] at f;obtain⟨la,lc,c2,c5⟩:=t.form;rw[c2] at t ⊢;have d:=d.drew;refine⟨λ_=>True,trivial,?_⟩;refine aR _ (λ_=>jT amZ szI1 om om) (aR _ (λ_=>dR amZ szI1 om om) ?_);have hA:SlA R.A R.w (.slice (subA la 0 lc 1) (g+257) lc) 1 (l.take (g+257)).length (aV (l.take (g+257))):=by
  have:=t.TP (i:=g+257) om om;rw[amL,anL om];rw[anC] at this;have e:aV (l.take (g+257))=(aV l).take (g+257):=by unfold aV;rw[asN]
  rw[e];exact this
 have hB:SlA R.A R.w (.slice (subA la (g+257) lc 1) (l.length - (g+257)) (lc - (g+257))) 1 (l.drop (g+257)).length (aV (l.drop (g+257))):=by
  have:=t.YT (i:=g+257) om;rw[amQ];rw[anC] at this;have e:aV (l.drop (g+257))=(aV l).drop (g+257):=by unfold aV;rw[List.map_drop]
  rw[e];exact this
 rw[show ((g:Int)+257).toNat=g+257 by omega];have t15:∀x∈l.take (g+257),x<=15:=λx hx=>F x (aoO hx);have d15:∀x∈l.drop (g+257),x<=15:=λx hx=>F x (aqF hx);have tl:(l.take (g+257)).length=g+257:=by rw[amL];omega
 have dl:(l.drop (g+257)).length=hd+1:=by rw[amQ];omega
 generalize l.take (g+257)=near at f hA t15 tl;generalize l.drop (g+257)=far at f hB d15 dl;refine bH d 3 rfl (BX near _ R _ t15 om om (d.hasM 3 rfl) hA) ?_;intro v N4 w8 g4 y d;have d:OwnS S w0 w8 (Fs fb rb s most ov way' q out (.mem N4::T)):=d;have g14:=g13.trans g4;refine⟨trivial,?_⟩;by_cases j:bh near=0
 case neg=>
  rw[amB j] at y;subst y;rw[amB j] at f;subst f;refine Ji (DR ?_);refine pX (λh=>absurd h j) (λ_=>?_)
  repeat intro _
  exact z j N4 _ _ _ _ _ g14 d
 rw[amA (by simp[j])] at y;obtain⟨tn,rfl,c3⟩:=y;rw[amA (by simp[j])] at f;refine Ji (DR ?_);refine pX (λ_=>?_) (λh=>absurd rfl h);refine⟨trivial,?_⟩;refine bH d 3 rfl (BX far _ N4 _ d15 om om (d.hasM 3 rfl) (hB.le g4)) ?_;intro v N5 w9 g5 y d;have d:OwnS S w0 w9 (Fs fb rb s most ov way' q out (.mem N5::T)):=d;have g15:=g14.trans g5;refine⟨trivial,?_⟩;by_cases m:bh far=0
 case neg=>
  rw[amB m] at y;subst y;rw[amB m] at f;subst f;refine Ji (DR ?_);refine pX (λh=>absurd h m) (λ_=>?_)
  repeat intro _
  exact z m N5 _ _ _ _ _ g15 d
 rw[amA (by simp[m])] at y;obtain⟨tf,rfl,c4⟩:=y;rw[amA (by simp[m])] at f;refine Ji (DR ?_);refine pX (λ_=>?_) (λh=>absurd rfl h);refine⟨trivial,?_⟩;refine Ts 0 d rfl (c3.le g5) c4 om om Q E U b3 b4 (λh1 h2 h3 way' u W Q d=>?_) (λh1 u way' p' C W d=>?_)
 ·refine⟨trivial,?_⟩;rw[f] at h1 h2 h3 d;exact k1 h1 h2 h3 N5 way' u W g15 Q d
 ·rw[f] at h1 ⊢
  repeat intro _
  exact z h1 N5 u way' p' C W g15 d
theorem Zc {ov:aq}{s:List UInt8}{out:List UInt8}{T:List Ent}(b:OwnS S w0 w (Fs fb rb s most ov way p out (.mem M::T)))(y:Rp M)(z:Od M)(hw:way=0∨way=1)(hp:p<=8*s.length)(o:s.length<=1000000000)(k:most<=1000000000)(l:out.length<=most)
  (k0:8*s.length < p+1->∀N a way' m c W,M.le N->OwnS S w0 W (Fs fb rb s most a way' m c (.mem N::T))->PK [upI 4] W)
  (x:p+1<=8*s.length->(dd s most (p+1) out).2.2=0->(dd s most (p+1) out).2.1<=8*s.length->(dd s most (p+1) out).1.length<=most->∀N way' a W,M.le N->(way'=0∨way'=1)->OwnS S w0 W (Fs fb rb s most a way' (dd s most (p+1) out).2.1 (dd s most (p+1) out).1 (.mem N::T))->K (.bool (ai (Fl.num s p 1=1))) W)
  (j:p+1<=8*s.length->(dd s most (p+1) out).2.2≠0->∀N a way' m c W,M.le N->OwnS S w0 W (Fs fb rb s most a way' m c (.mem N::T))->PK [upI (dd s most (p+1) out).2.2] W) :
  CallX ah 274 #[.pointer (ax ⟨fb,0,aw⟩)] w PK K:=by
 refine⟨sN ?_⟩;unfold mL nz;refine oC (n:=1) 0 1 b rfl rfl hw hp om o (λq A b=>?_) (λq A b=>?_)
 rotate_left
 ·exact k0 q M _ _ _ _ _ M.le_refl b
 have b:OwnS S w0 A (Fs fb rb s most ov 1 (p+1) out (.mem M::T)):=b;have x:=x q;have j:=j q;generalize e:dd s most (p+1) out=X at x j;unfold dd at e
 try simp only[rs]
 rw[show ai ((Fl.num s p 1:Int)=1)=ai (Fl.num s p 1=1) by congr 1;exact propext om];refine join λJ C=>?_;have fin:∀N way' a W,M.le N->(way'=0∨way'=1)->X.2.2=0->X.2.1<=8*s.length->X.1.length<=most->OwnS S w0 W (Fs fb rb s most a way' X.2.1 X.1 (.mem N::T))->J [] W:=by
  intro N way' a W hle f d g i b;refine C _ _ λ_=>?_;simp only[jM,nz];exact x d g i N way' a W hle f b
 refine oC (n:=2) 0 1 b rfl rfl (.inr rfl) q om o (λr B b=>?_) (λr B b=>?_)
 rotate_left
 ·rw[amB r] at e;subst e;exact j (by dsimp only;decide) M _ _ _ _ _ M.le_refl b
 rw[amA om] at e;have b:OwnS S w0 B (Fs fb rb s most ov 1 (p+1+2) out (.mem M::T)):=b
 try simp only[rs]
 by_cases t:Fl.num s (p+1) 2=0
 ·simp only[show ai ((Fl.num s (p+1) 2:Int)=0)=av from amG om,i_t];rw[amB t] at e;refine Xh b (.inr rfl) r o k l (λd g i way' a W f b=>?_) (λd a way' m c W b=>?_)
  ·rw[e] at d g i b;exact fin M way' a W M.le_refl f d g i b
  ·rw[e] at d ⊢;exact j d M _ _ _ _ _ M.le_refl b
 simp only[show ai ((Fl.num s (p+1) 2:Int)=0)=au from amE om,i_f];rw[amA t] at e
 try simp only[rs]
 by_cases u:Fl.num s (p+1) 2=1
 ·simp only[show ai ((Fl.num s (p+1) 2:Int)=1)=av from amG om,i_t];rw[amB u] at e;refine ZD b (.inr rfl) r o k l (λd g i N way' a W hle f b=>?_) (λd N a way' m c W hle b=>?_)
  ·rw[e] at d g i b;exact fin N way' a W hle f d g i b
  ·rw[e] at d ⊢;exact j d N _ _ _ _ _ hle b
 simp only[show ai ((Fl.num s (p+1) 2:Int)=1)=au from amE om,i_f];rw[amA u] at e
 try simp only[rs]
 by_cases v:Fl.num s (p+1) 2=2
 ·simp only[show ai ((Fl.num s (p+1) 2:Int)=2)=av from amG om,i_t];rw[amB v] at e;refine TM b y z (.inr rfl) r o k l (λd g i N way' a W hle f b=>?_) (λd N a way' m c W hle b=>?_)
  ·rw[e] at d g i b;exact fin N way' a W hle f d g i b
  ·rw[e] at d ⊢;exact j d N _ _ _ _ _ hle b
 simp only[show ai ((Fl.num s (p+1) 2:Int)=2)=au from amE om,i_f];rw[amA v] at e;subst e;exact iU (λh=>absurd h dc) λ_=>j (by dsimp only;decide) M _ _ _ _ _ M.le_refl b
end
end
section
open Eng
def bO (a:Deferred)(b:aq)(c:aq)(d:aq)(K:Ending->ao->Prop):=pd ah [.cell b 9,.cell c 3,.cell d 30] K [a]
def zW(a b c d d1 w)(p:JT)(K:KT):=
 CallX ah 274 #[d] w (bO d1 a b c K) λe w=>DoX ah (mUn .not e) w (bO d1 a b c K) λf w=>IfX f (AtX [d1] [d1] (p [] w)) (QuietX w (λo=>QDo ah o (mNil d) λg=>QDo ah o (mFA 278 g 1) λh=>QDo ah o (aH 53 h) λi=>QDo ah o (tP 53 9 i) λj=>QDo ah o (mNil d) λk=>QDo ah o (mFA 278 k 0) λl=>QDo ah o (aH 275 l) λm=>QCall ah o 275 #[m] λn=>
 ∀w,o w ->
 DoX ah (aN 9 a j) w (bO d1 a b c K) λ_ w=>DoX ah (aN 3 b n) w (bO d1 a b c K) λ_ w=>DoX ah (aN 30 c (iN 0)) w (bO d1 a b c K) λ_ w=>BN ah [.cell a 9,.cell b 3,.cell c 30] K [d1] .returning w))
def Cl(e d w)(K:KT):=
 alx 9 w K λa w=>alx 3 w K λb w=>alx 30 w K λc w=>dx (Nb (.func 271) #[] #[a,b,c]) w K λf w=>DfrX (dfrV f #[]) (λd1=>DoX ah (mBin .geq 3 d (iN 0)) w (bO d1 a b c K) λg w=>CallX ah 272 #[g,(iN 1)] w (bO d1 a b c K) λl w=>CallX ah 273 #[e] w (bO d1 a b c K) λh w=>DoX ah (mB .min #[3,3] 3 #[au,av] #[d,(iN 1048576)]) w (bO d1 a b c K) λi w=>DoX ah (aS 278 #[(0,h),(2,i)]) w (bO d1 a b c K) λj w=>DoX ah (mBox 278 j) w (bO d1 a b c K) λk w=>LoopX [] w (λm w n=>∀_:Sg,zW a b c k d1 w n K))
theorem FR:Cl t0 t1 w k0->Calls ah 239 #[t0,t1] w k0:=cz [] [(4,[])] func239
end
section
open Eng
def dO(w)(K:KT):=
 K (.returned (.tuple #[])) w
def jP(d a b r w)(K:KT):=
 eqx .eql 20 (.tmp 6) (.const .nilIface) r .nilIface w K λg w=>IfX g (K (.returned (.tuple #[])) w) (dx (mTA r 20 273 av) w K λf w=>exx f 1 w K λh w=>exx f 0 w K λi w=>IfX h (alx 273 w K λc w=>stx 273 c i w K λ_ w=>DrawX w (λw=>(fax 273 c 0 w K λe w=>(ldx 30 e w K λj w=>stx 9 d (.string ⟨#[]⟩) w K λ_ w=>stx 3 a (iN 0) w K λ_ w=>stx 30 b j w K λ_ w=>dO w K)∧(stx 9 d (.string ⟨#[]⟩) w K λ_ w=>(ldx 30 e w K λl w=>stx 3 a (iN 0) w K λ_ w=>stx 30 b l w K λ_ w=>dO w K)∧(stx 3 a (iN 0) w K λ_ w=>ldx 30 e w K λm w=>stx 30 b m w K λ_ w=>dO w K)))∧(stx 9 d (.string ⟨#[]⟩) w K λ_ w=>(fax 273 c 0 w K λk w=>(ldx 30 k w K λn w=>stx 3 a (iN 0) w K λ_ w=>stx 30 b n w K λ_ w=>dO w K)∧(stx 3 a (iN 0) w K λ_ w=>ldx 30 k w K λo w=>stx 30 b o w K λ_ w=>dO w K))∧(stx 3 a (iN 0) w K λ_ w=>fax 273 c 0 w K λp w=>ldx 30 p w K λq w=>stx 30 b q w K λ_ w=>dO w K)))) (dx (EE r) w K λ_ w=>K (.returned (.tuple #[])) w))
theorem Dv (t0 t1 t2 r:aq)(w:ao)(K:Ending->ao->Prop):wpX ah 14 [] [] aw (XE (A2 f271)) (topD ah [] K) (upd (kO [t0,t1,t2]) 6 r) [] w=jP t0 t1 t2 r w K:=krx
theorem oB {t1 t2:aq}(h:jP t0 t1 t2 (recV u) w (λe w=>R e (recM u) w)):CallsD ah 271 #[t0,t1,t2] u w R:=
 A6 func271 rfl rfl rfl rfl rfl rfl rfl rfl (Eq.mpr (Dv t0 t1 t2 (recV u) w _) h)
end
section
open Eng Go.RowKit
theorem nd (near far:List Nat)(s:List UInt8)(most:Nat):∀(f p:Nat) (out:List UInt8),(je near far s most f p out).2.2=0->p<=(je near far s most f p out).2.1
|0,_,_,h=>by simp[je] at h
|f+1,p,out,h=>by
  unfold je at h ⊢;dsimp only at h ⊢;split
  ·exact amJ _
  rename_i c;rw[amA c] at h
  have:=my (Decidable.not_not.1 c);split
  ·rename_i a;rw[amB a] at h
   split
   ·exact amJ _
   rename_i b;rw[amA b] at h
   have:=nd near far s most f _ _ h;omega
  rename_i a;rw[amA a] at h
  split
  ·dsimp only;omega
  rename_i b;rw[amA b] at h
  split
  ·exact amJ _
  rename_i d;rw[amA d] at h
  have e:=rk (Decidable.not_not.1 d);have:=nd near far s most f _ _ h;omega
theorem pr (cl:List Nat)(s:List UInt8)(n:Nat):∀(f p:Nat) (l:List Nat),(jg cl s n f p l).2.2=0->p<=(jg cl s n f p l).2.1
|0,_,_,h=>by simp[jg] at h
|f+1,p,l,h=>by
  unfold jg at h ⊢;dsimp only at h ⊢;split
  ·exact amJ _
  rename_i c;rw[amA c] at h
  split
  ·exact amJ _
  rename_i b;rw[amA b] at h
  have:=my (Decidable.not_not.1 b);split
  ·rename_i a;rw[amB a] at h
   have:=pr cl s n f _ _ h;omega
  rename_i a;rw[amA a] at h
  split
  ·exact amJ _
  rename_i d;rw[amA d] at h
  split
  ·exact amJ _
  rename_i e;rw[amA e] at h
  split
  ·exact amJ _
  rename_i g;rw[amA g] at h
  have:=pr cl s n f _ _ h;omega
theorem zd {s:List UInt8}{out:List UInt8}(h:(dy s most p out).2.2=0):p<=(dy s most p out).2.1:=by
 unfold dy at h ⊢;dsimp only at h ⊢
 repeat' split
 all_goals first|exact amJ _|(dsimp only;omega)
theorem xn {s:List UInt8}{out:List UInt8}(h:(gh s most p out).2.2=0):p<=(gh s most p out).2.1:=by
 unfold gh at h ⊢;by_cases g:8*s.length < p+5
 ·rw[amB g];exact amJ _
 rw[amA g] at h ⊢;by_cases i:29 < Fl.num s p 5
 ·rw[amB i];exact amJ _
 rw[amA i] at h ⊢;by_cases j:8*s.length < p+10
 ·rw[amB j];exact amJ _
 rw[amA j] at h ⊢;by_cases k:29 < Fl.num s (p+5) 5
 ·rw[amB k];exact amJ _
 rw[amA k] at h ⊢;by_cases m:8*s.length < p+14
 ·rw[amB m];exact amJ _
 rw[amA m] at h ⊢;by_cases o:8*s.length < p+14+3*(Fl.num s (p+10) 4+4)
 ·rw[amB o];exact amJ _
 rw[amA o] at h ⊢;have w:p<=p+14+3*(Fl.num s (p+10) 4+4):=om
 generalize p+14+3*(Fl.num s (p+10) 4+4)=q at h w ⊢;generalize fo s (p+14) (Fl.num s (p+10) 4+4)=cl at h ⊢;generalize Fl.num s p 5+257=b at h ⊢;generalize b+(Fl.num s (p+5) 5+1)=n at h ⊢;have a:(Fl.lens cl s n q).2.2=0->q<=(Fl.lens cl s n q).2.1:=pr cl s n _ _ _;dsimp only at h ⊢;generalize Fl.lens cl s n q=r at h a ⊢;obtain⟨l,t,e⟩:=r;dsimp only at h a ⊢;by_cases u:bh cl≠0
 ·rw[amB u];exact amJ _
 rw[amA u] at h ⊢;by_cases f:e≠0
 ·rw[amB f];exact amJ _
 rw[amA f] at h ⊢;by_cases v:l.getD 256 0=0
 ·rw[amB v];exact amJ _
 rw[amA v] at h ⊢;by_cases c:bh (l.take b)≠0
 ·rw[amB c];exact amJ _
 rw[amA c] at h ⊢;by_cases d:bh (l.drop b)≠0
 ·rw[amB d];exact amJ _
 rw[amA d] at h ⊢;have x:t<=(fl (l.take b) (l.drop b) s most t out).2.1:=nd _ _ _ _ _ _ _ h;have:=a (Decidable.not_not.1 f);omega
theorem zf {s:List UInt8}{most p:Nat}{out:List UInt8}(h:(dd s most p out).2.2=0):p<=(dd s most p out).2.1:=by
 unfold dd at h ⊢;split
 ·exact amJ _
 rename_i c;rw[amA c] at h
 split
 ·rename_i a;rw[amB a] at h
  have:=zd h;omega
 rename_i a;rw[amA a] at h
 split
 ·rename_i b;rw[amB b] at h
  have:=nd _ _ _ _ _ _ _ h;unfold fl;omega
 rename_i b;rw[amA b] at h
 split
 ·rename_i d;rw[amB d] at h
  have:=xn h;omega
 exact amJ _
namespace Eng
section
variable {P:Program}{w:ao}
theorem LY {S E:TypeId}{l:List UInt8}(j:P.underlying S=ax (.slice E))(he:P.underlying E=ax (.int .u8))(k:P.underlying D=ax .string)(h:Sl w v 1 l.length (aP l)):(tP S D v).run P w=.ok (.value (.string ⟨l.toArray⟩)) w:=by
 obtain⟨q,a,cap,rfl,n,o⟩:=h;cases a with
|none=>
  have g:=n rfl;have:l=[]:=aqW g;subst this;exact cJ (run_convert_bytes_nil w S E j he _ _ D k)
|some p=>
  obtain⟨f,d⟩:=o p rfl;by_cases g:l=[]
  ·subst g;refine cJ ?_;have m:(loadCells p 0).run P w=.ok (([]:List Int).map (Value.int .u8)).toArray w:=rfl;rw[show ([]:List UInt8).length=0 from rfl,run_convert_bytes_string w S D E _ 0 cap j he k,run_bytesToString w p 0 cap [] m];rfl
  replace f:=f (arC.2 g)
  obtain⟨b,off,spot⟩:=p;simp only at f d;subst f;have:=run_convert_bytes_arg (P:=P) w S E j he b off l.length cap (l.map λc=>(c.toNat:Int)) sm (λi hi=>by
   refine d i _ ?_;simp[aP,amN hi]) D k
  refine cJ ?_;rw[this];have e:strOfNums (l.map λc=>(c.toNat:Int))=⟨l.toArray⟩:=by
   unfold strOfNums;rw[asA]
   congr 2
   conv=>rhs;rw[<-List.map_id l]
   refine arM λc _=>?_;simp
  rw[e]
end
end Eng
def jl (s:List UInt8)(most:Nat):Nat->Nat->List UInt8->List UInt8×Nat×Int
|0,_,_=>([],0,13)
|f+1,p,out=>
  if 8*s.length < p+1 then ([],0,4)
  else
   let r:=dd s most (p+1) out
   if r.2.2≠0 then ([],0,r.2.2)
   else if Fl.num s p 1=1 then (r.1,(r.2.1+7) / 8,0)
   else jl s most f r.2.1 r.1
def jn (s:List UInt8)(most:Int):List UInt8×Nat×Int:=if most < 0 then ([],0,1) else jl s (min most.toNat 1048576) (8*s.length+1) 0 []
def flT (x:List UInt8×Nat×Int):Value:=.tuple #[.string ⟨x.1.toArray⟩,.int .i64 (x.2.1:Int),.int .i64 x.2.2]
abbrev Oh (b:Nat)(l:List UInt8):Ent:=.cells b [.string ⟨l.toArray⟩] 9
abbrev NY (b:Nat)(n:Int):Ent:=.cells b [.int .i64 n] 3
abbrev Ns (b:Nat)(e:Int):Ent:=.cells b [.int .i64 e] 30
theorem Jf:cN ah 271=true:=krx
theorem nfUp:lL ah 273=true:=krx
theorem ahV:fOff ah 273 0=ax 0:=krx
theorem szUp:(Tryz.prog.info? 273).map (·.size)=ax 1:=krx
section
variable {w:ao}{PK:PKT}{K:VWP}{S:Nat->Prop}{w0:ao}{L:List Ent}
theorem Vg (s:List UInt8)(a:OwnS S w0 w L)(k:∀b w',OwnS S w0 w' (bqE b s 0 0::L)->K (.pointer (ax ⟨b,0,aw⟩)) w'):CallX ah 273 #[.string ⟨s.toArray⟩] w PK K:=by
 refine fH (KB (k0:=RetK λv W=>∃b,v=.pointer (ax ⟨b,0,aw⟩)∧OwnS S w0 W (bqE b s 0 0::L)) ?_) (λe W ⟨v,he,b,c,a⟩=>by subst he;subst c;exact k b W a);unfold I5 nz;have e:∀W:ao,(aS 317 #[(1,.string ⟨s.toArray⟩)]).run ah W=.ok (.value (.agg (bqC s 0 0).toArray)) W:=λW=>by kernel_rfl
 refine aD (e w) |>.mpr ?_;exact bA (λb=>.pointer (ax ⟨b,0,aw⟩)) (bqC s 0 0) 317 (λ_=>by kernel_rfl) a λb w' a=>retK ⟨b,rfl,a⟩
end
theorem Wj (s:List UInt8)(most:Int)(M:Mem)(w:ao)(y:Rp M)(z:Od M)(R:s.length<=1000000000)(S:M.has w) :
  RetM ah 239 #[.string ⟨s.toArray⟩,.int .i64 most] M w (λv _=>v=flT (jn s most)∧(jn s most).2.1<=s.length∧(jn s most).1.length<=1048576):=by
 refine bB S λK C=>FR ?_;generalize c:jn s most=X at C;unfold jn at c;unfold Cl iN dx alx;refine bA (λb=>.pointer (ax ⟨b,0,aw⟩)) [.string ⟨#[]⟩] 9 (λ_=>by kernel_rfl) (OwnS.memS S) λj Z a=>?_;refine bA (λb=>.pointer (ax ⟨b,0,aw⟩)) [.int .i64 0] 3 (λ_=>by kernel_rfl) a λk w2 a=>?_;refine bA (λb=>.pointer (ax ⟨b,0,aw⟩)) [.int .i64 0] 30 (λ_=>by kernel_rfl) a λl w3 a=>?_;have a:OwnS M.A w w3 ([Ns l 0,NY k 0,Oh j []]++([.mem M]++[])):=a;have a:=a.front;rw[qB];refine⟨_,rfl,?_⟩;have fail:∀{W:ao} {L:List Ent} {e:Int} {N:Mem},OwnS M.A w W (L++([.mem N,Ns l 0,NY k 0,Oh j []]++[]))->M.le N->X=([],0,e) ->
   bO { target:=.fn (.func 271) #[.pointer (ax ⟨j,0,aw⟩),.pointer (ax ⟨k,0,aw⟩),.pointer (ax ⟨l,0,aw⟩)],args:=#[]++#[] } (.pointer (ax ⟨j,0,aw⟩)) (.pointer (ax ⟨k,0,aw⟩)) (.pointer (ax ⟨l,0,aw⟩)) K [upI e] W:=by
  intro W L e N a hle D;have a:=a.front;have a:OwnS M.A w W (.mem N::Ns l 0::NY k 0::Oh j []::(L++[])):=a;show pd ah _ K _ [upI e] W;unfold pd;refine nR sm Jf (oB (t0:=.pointer (ax ⟨j,0,aw⟩)) (t1:=.pointer (ax ⟨k,0,aw⟩)) (t2:=.pointer (ax ⟨l,0,aw⟩)) ?_);simp only[jP,recV,recM,upI,Eng.Yh aqZ,rs,XF nfUp,ex,i_t,i_f,iN,dx,ldx,fax,exx,stx,eqx,alx];refine bA (λb=>.pointer (ax ⟨b,0,aw⟩)) [.int .i64 0] 273 (λ_=>by kernel_rfl) a λb7 E a=>?_;refine gX 0 a rfl (new:=[.int .i64 e]) szUp (λu hu=>by rw[anB.1 hu];rfl) rfl λF a=>?_;refine⟨?_⟩;have a:=a.drew
  repeat' first
  |apply And.intro
  |refine aD (bE ahV) |>.mpr ?_
  |refine aD (aB GP (a.cell 0 rfl 0 rfl)) |>.mpr ?_
  |refine aK 4 a rfl krx rfl sm (λ_ a=>?_)
  |refine aK 3 a rfl krx rfl sm (λ_ a=>?_)
  |refine aK 2 a rfl krx rfl sm (λ_ a=>?_)
  all_goals
   unfold dO;refine Qt (bJ (AtV.cell aaH (a.cell 4 rfl 0 rfl))) (bJ (AtV.cell aU (a.cell 3 rfl 0 rfl))) (bJ (AtV.cell GP (a.cell 2 rfl 0 rfl))) (C _ _ N _ 1 a rfl hle ⟨by rw[D];rfl,by rw[D];exact anG _,by rw[D];exact anG _⟩)
 try simp only[rs]
 refine iU (λo=>?_) (λo=>?_)
 rotate_left
 ·have:=anO o;rw[amB om] at c;exact fail (L:=[]) a M.le_refl c.symm
 have o:=amU o;rw[amA om] at c;refine Vg s a λrb U a=>?_;rw[aiG,show min most 1048576=((min most.toNat 1048576:Nat):Int) by omega];have G:min most.toNat 1048576<=1048576:=Nat.min_le_right _ _;generalize min most.toNat 1048576=i at c G;have e:∀W:ao,(aS 278 #[(0,.pointer (ax ⟨rb,0,aw⟩)),(2,.int .i64 (i:Int))]).run ah W=.ok (.value (.agg (flC rb nilS (i:Int)).toArray)) W:=λW=>by kernel_rfl
 refine aD (e U) |>.mpr ?_;refine bA (λb=>.pointer (ax ⟨b,0,aw⟩)) (flC rb nilS (i:Int)) 278 (λ_=>by kernel_rfl) a λfb E a=>?_;have a:=OwnS.nilU a 5 1;have a:OwnS M.A w E ([outR nilS []]++([flE fb rb nilS (i:Int),bqE rb s 0 0]++[.mem M,Ns l 0,NY k 0,Oh j []])):=a;have a:OwnS M.A w E (Fs fb rb s i nilS 0 0 [] (.mem M::[Ns l 0,NY k 0,Oh j []])):=(OwnS.front a).perm (aqS _);refine loop (λvs W=>∃(p:Nat) (way:Int) (ov:aq) (out:List UInt8) (N:Mem),vs=[]∧(way=0∨way=1)∧p<=8*s.length∧out.length<=i∧M.le N∧(∃f,8*s.length+1 - p<=f∧jl s i f p out=X)∧OwnS M.A w W (Fs fb rb s i ov way p out (.mem N::[Ns l 0,NY k 0,Oh j []]))) (λ_ w=>8*s.length+1 - bqAt rb w) ⟨0,0,nilS,[],M,rfl,.inl rfl,om,sm,M.le_refl,⟨_,om,c⟩,a⟩ ?_;clear a c;rintro vs F ⟨p,way,ov,out,N,rfl,hw,hp,H,hle,⟨f,hf,c⟩,a⟩ _;have I:bqAt rb F=p:=Hz (a.at_ 1 rfl);simp only[zW,iN];obtain⟨f,rfl⟩:∃f',f=f'+1:=⟨f - 1,om⟩;rw[jl] at c;dsimp only at c;have m:=@zf s i (p+1) out;refine Zc a (y.le hle) (z.le hle) hw hp R om H (λJ q g way' O n W d a=>?_) (λJ r P T q way' g W d Q a=>?_) (λJ r q g way' O n W d a=>?_)
 ·rw[amB J] at c;exact fail (L:=[flE fb rb g (i:Int),bqE rb s way' O,outR g n]) a (hle.trans d) c.symm
 rotate_left
 ·rw[amA om,amB r] at c;exact fail (L:=[flE fb rb g (i:Int),bqE rb s way' O,outR g n]) a (hle.trans d) c.symm
 rw[amA om,amA (by rw[r];decide)] at c;have m:=m r;generalize dd s i (p+1) out=B at c a r P T m
 try simp only[rs]
 by_cases x:Fl.num s p 1=1
 case neg=>
  rw[amA x] at c;simp only[x,amF,aoD,i_t];have t:bqAt rb W=B.2.1:=Hz (a.at_ 1 rfl);refine⟨rfl,?_⟩;refine aY ⟨B.2.1,way',g,B.1,q,rfl,Q,P,T,hle.trans d,⟨f,om,c⟩,a⟩ (by show 8*s.length+1 - bqAt rb W < 8*s.length+1 - bqAt rb F;rw[I,t];omega)
 rw[amB x] at c;simp only[x,amD,aoB,i_f];refine dW (λW=>OwnS M.A w W (Fs fb rb s i g way' B.2.1 B.1 (.mem q::[Ns l 0,NY k 0,Oh j []]))) a.drew ?_;refine q_do _ (λ_=>dK) (q_do _ (λ_=>bE xS) (q_at _ (λW h=>Hg (h.at_ 0 rfl)) ?_));refine q_at (.string ⟨B.1.toArray⟩) (λW h=>LY anD aoK amP (yO (h.at_ 2 rfl))) ?_;refine q_do _ (λ_=>dK) (q_do _ (λ_=>bE Tc) (q_at _ (λW h=>P5 (h.at_ 0 rfl)) ?_));refine mG (.int .i64 (((B.2.1+7) / 8:Nat):Int)) (λW h=>(ZK (h.at_ 1 rfl) P R).mono λv w' ⟨o,V⟩=>⟨o,h.grow V⟩) ?_;intro w7 a;refine aK 6 a rfl krx rfl sm λw8 a=>?_;refine aK 5 a rfl krx rfl sm λw9 a=>?_;refine aK 4 a rfl krx rfl sm λY a=>?_;refine nR sm Jf (oB (t0:=.pointer (ax ⟨j,0,aw⟩)) (t1:=.pointer (ax ⟨k,0,aw⟩)) (t2:=.pointer (ax ⟨l,0,aw⟩)) ?_);simp only[jP,recV,recM,Eng.WA aqZ,rs,i_t,i_f,iN,dx,ldx,fax,exx,stx,eqx,alx];refine Qt (bJ (AtV.cell aaH (a.cell 6 rfl 0 rfl))) (bJ (AtV.cell aU (a.cell 5 rfl 0 rfl))) (bJ (AtV.cell GP (a.cell 4 rfl 0 rfl))) (C _ _ q _ 3 a rfl (hle.trans d) ⟨by rw[<-c];rfl,by rw[<-c];dsimp only;omega,by rw[<-c];dsimp only;omega⟩)
end
end Go.Proofs.YtlipjfcbjemicaaGreatDoor



namespace Go.Proofs.YtlipjfcbjemicaaGreatDoor
variable{A S:Nat->Prop}{D:TypeId}{K:VWP}{L:List Eng.Ent}{M:Eng.Mem}{PK:PKT}{R:Ending->FrameMode->ao->Prop}{W w w0:ao}{a colors way:Int}{above key:List UInt8}{b cap fb i most p rb sz:Nat}{cs:List aq}{e:Eng.Ent}{o:Ob}{os:List Ob}{q:Bool}{t0 v va vc vk:aq}{u:FrameMode}{t0 t1 t2 t3:aq}{k0:Eng.KT}
section
open Eng
def CB(t1 t5 t15 t16 w)(N1:JT)(K:KT):=nz f270 43 [N1] [nh 7 [16]] [(5,5)] (zg [1,5,15,16] [t1,t5,t15,t16]) w K
def HJ(t0 t1 w)(K:KT):=nz f270 1 [] [(7,[16],λs v j w f=>CB (s 1) (s 5) (s 15) (vg v 0) w (f 0) K)] [] (zg [0,1] [t0,t1]) w K
theorem Ix:HJ t0 t1 w k0->Calls ah 270 #[t0,t1] w k0:=cz [] [(3,[16])] func270
def I8(t0 w)(K:KT):=nz f237 1 [] [] [] (zg [0] [t0]) w K
theorem KL:I8 t0 w k0->Calls ah 237 #[t0] w k0:=cw func237
def Cb(t0 t1 w)(K:KT):=nz f304 1 [] [] [] (zg [0,1] [t0,t1]) w K
theorem Fw:Cb t0 t1 w k0->Calls ah 304 #[t0,t1] w k0:=cw func304
def Ig(t0 w)(K:KT):=nz f236 1 [] [] [] (zg [0] [t0]) w K
theorem IV:Ig t0 w k0->Calls ah 236 #[t0] w k0:=cw func236
def Ci(t0 w)(K:KT):=nz f238 1 [] [] [(3,8)] (zg [0] [t0]) w K
theorem FI:Ci t0 w k0->Calls ah 238 #[t0] w k0:=cw func238
def CS(t0 t1 w)(K:KT):=nz f192 1 [] [] [(10,10)] (zg [0,1] [t0,t1]) w K
theorem FX:CS t0 t1 w k0->Calls ah 192 #[t0,t1] w k0:=cw func192
end
end Go.Proofs.YtlipjfcbjemicaaGreatDoor

namespace Go.Proofs.YtlipjfcbjemicaaGreatDoor
variable{A S:Nat->Prop}{D:TypeId}{K:VWP}{L:List Eng.Ent}{M:Eng.Mem}{PK:PKT}{R:Ending->FrameMode->ao->Prop}{W w w0:ao}{a colors way:Int}{above key:List UInt8}{b cap fb i most p rb sz:Nat}{cs:List aq}{e:Eng.Ent}{o:Ob}{os:List Ob}{q:Bool}{t0 v va vc vk:aq}{u:FrameMode}{t0 t1 t2 t3:aq}{k0:Eng.KT}
section
open Eng Go.RowKit
def gx (x:Nat×Nat)(c:UInt8):Nat×Nat:=((x.1+c.toNat) % 65521,(x.2+(x.1+c.toNat) % 65521) % 65521)
def gi (s:List UInt8):Nat×Nat:=s.foldl gx (1,0)
def gg (s:List UInt8):Nat:=65536*(gi s).2+(gi s).1
def bz (n:Nat):List UInt8:=[UInt8.ofNat (n / 2 ^ 24),UInt8.ofNat (n / 2 ^ 16),UInt8.ofNat (n / 2 ^ 8),UInt8.ofNat n]
def lf (a b:Nat):Bool:=ai (a % 16≠8)||decide (7 < a / 16)||decide ((256*a+b) % 31≠0)||decide (b / 32 % 2≠0)
def gj (s:List UInt8)(most:Int):List UInt8×Int:=
 if s.length < 2 then ([],4)
 else if lf (s.getD 0 0).toNat (s.getD 1 0).toNat=av then ([],3)
 else
  let r:=jn (s.drop 2) most
  if r.2.2≠0 then ([],r.2.2)
  else if s.length < 2+r.2.1+4 then ([],4)
  else if (s.drop (2+r.2.1)).take 4≠bz (gg r.1) then ([],12)
  else (r.1,0)
theorem ru (s:List UInt8):(gi s).1 < 65521∧(gi s).2 < 65521:=by
 unfold gi;have:∀(l:List UInt8) (x:Nat×Nat),x.1 < 65521∧x.2 < 65521->(l.foldl gx x).1 < 65521∧(l.foldl gx x).2 < 65521:=by
  intro l
  induction l with
 |nil=>exactλx h=>h
 |cons c l a=>exactλx h=>a _ ⟨apO _ dc,apO _ dc⟩
 exact this s _ ⟨dc,dc⟩
theorem zh {s:List UInt8}(h:i < s.length):gi (s.take (i+1))=gx (gi (s.take i)) s[i]:=by
 unfold gi;rw[anH h,atD];rfl
def zlT (x:List UInt8×Int):Value:=.tuple #[.string ⟨x.1.toArray⟩,.int .i64 x.2]
theorem Cy {n:Nat}(h:n < 4294967296):IntKind.u32.wrap (n:Int)=(n:Int):=by unfold IntKind.wrap;simp[IntKind.bits,IntKind.signed];omega
theorem QK {n:Int}(a:0<=n)(h:n < 4294967296):IntKind.u32.wrap n=n:=by unfold IntKind.wrap;simp[IntKind.bits,IntKind.signed];omega
theorem Oy (n:Nat):IntKind.u8.wrap (n:Int)=((UInt8.ofNat n).toNat:Int):=by
 unfold IntKind.wrap;simp[IntKind.bits,IntKind.signed]
theorem aeK {a:Nat}(c:b < 2 ^ i):a*2 ^ i ||| b=a*2 ^ i+b:=by
 have:=atO c a;rw[aoY a,<-this]
theorem or32 {a:Nat}(c:a < 65536)(d:b < 65536):bOr .u32 ((b*65536:Nat):Int) (a:Int)=((65536*b+a:Nat):Int):=by
 have e:b*65536 ||| a=65536*b+a:=by
  have:b*65536 ||| a=b*65536+a:=aeK (i:=16) c;omega
 unfold bOr;show IntKind.wrap .u32 (((BitVec.ofInt 32 ((b*65536:Nat):Int) ||| BitVec.ofInt 32 (a:Int)).toNat:Nat):Int)=_;rw[BitVec.ofInt_natCast,BitVec.ofInt_natCast,BitVec.toNat_or,BitVec.toNat_ofNat,BitVec.toNat_ofNat,anZ om,anZ om,e];exact Cy om
theorem or64 {a:Nat}(d:a < 256)(c:b < 256):bOr .i64 ((a*256:Nat):Int) (b:Int)=((256*a+b:Nat):Int):=by
 have e:a*256 ||| b=256*a+b:=by
  have:a*256 ||| b=a*256+b:=aeK (i:=8) c;omega
 unfold bOr;show IntKind.wrap .i64 (((BitVec.ofInt 64 ((a*256:Nat):Int) ||| BitVec.ofInt 64 (b:Int)).toNat:Nat):Int)=_;rw[BitVec.ofInt_natCast,BitVec.ofInt_natCast,BitVec.toNat_or,BitVec.toNat_ofNat,BitVec.toNat_ofNat,anZ om,anZ om,e];exact aA om om
theorem Ru:∀n:Fin 256,bAnd .i64 (n.val:Int) 15=((n.val % 16:Nat):Int):=by decide +kernel
theorem Uu:∀n:Fin 256,bAnd .i64 (n.val:Int) 32=((n.val / 32 % 2*32:Nat):Int):=by decide +kernel
theorem afG {n:Nat}(h:n < 256):bAnd .i64 (n:Int) 15=((n % 16:Nat):Int):=Ru ⟨n,h⟩
theorem alO {n:Nat}(h:n < 256):bAnd .i64 (n:Int) 32=((n / 32 % 2*32:Nat):Int):=Uu ⟨n,h⟩
def suC (a b:Nat):List Value:=[.int .u32 (a:Int),.int .u32 (b:Int)]
def suV (a b:Nat):Value:=.agg (suC a b).toArray
abbrev suE (c a b:Nat):Ent:=.cells c (suC a b) 312
theorem Of {a:Nat}:∀u∈suC a b,u.oneCell'=true:=by
 intro u hu;simp only[suC,amH,anW,or_false] at hu;rcases hu with rfl|rfl<;>rfl
theorem aaE:aggN ah 312=ax 2:=krx
theorem szSu:(Tryz.prog.info? 312).map (·.size)=ax 2:=krx
theorem Po:fOff ah 312 0=ax 0:=krx
theorem Ur:fOff ah 312 1=ax 1:=krx
theorem nU32:eD ah 153=true:=krx
theorem abQ (a b:Nat)(c:UInt8)(w:ao)(j:a < 65521)(k:b < 65521):Ret ah 304 #[suV a b,.int .u8 (c.toNat:Int)] w (λv w'=>v=suV (gx (a,b) c).1 (gx (a,b) c).2∧Below w.heap.size w w'):=by
 refine aZ λK g=>Fw ?_;unfold Cb nz;have l:=aqE c;refine bA (λb=>.pointer (ax ⟨b,0,aw⟩)) (suC a b) 312 (λ_=>by kernel_rfl) (Own.start w) λb2 m e=>?_;refine bA (λb=>.pointer (ax ⟨b,0,aw⟩)) (suC 0 0) 312 (λ_=>by kernel_rfl) e λf w2 e=>?_;rw[aO Po,aJ nU32 (e.cell 1 rfl 0 rfl)];refine aD (eC krx underlying153) |>.mpr ?_;rw[Cy om,Kb,QK om om,show (a:Int)+(c.toNat:Int)=((a+c.toNat:Nat):Int) by push_cast;rfl,KX dc,show (((a+c.toNat:Nat):Int)).tmod 65521=(((a+c.toNat) % 65521:Nat):Int) from rfl,aO Po];refine aK 1 e rfl krx rfl (by show 0+0 < 2;omega) λw3 e=>?_;have hm:=apO (a+c.toNat) (show 65521>0 by decide);have e:OwnS NoB w w3 [suE f 0 0,suE b2 ((a+c.toNat) % 65521) b]:=e;generalize h:(a+c.toNat) % 65521=d at e hm;rw[aO Ur,aJ nU32 (e.cell 1 rfl 1 rfl),aO Po,aJ nU32 (e.cell 1 rfl 0 rfl),Kb,QK om om,show (b:Int)+(d:Int)=((b+d:Nat):Int) by push_cast;rfl,KX dc,show (((b+d:Nat):Int)).tmod 65521=(((b+d) % 65521:Nat):Int) from rfl,aO Ur];refine aK 1 e rfl krx rfl (by show 0+1 < 2;omega) λi e=>?_;have e:OwnS NoB w i [suE f 0 0,suE b2 d ((b+d) % 65521)]:=e;rw[l_at (e.agg 1 rfl aaE)];refine gX 0 e rfl (new:=suC d ((b+d) % 65521)) szSu Of rfl λn e=>?_;refine iA (bJ (e.agg 0 rfl aaE)) (g _ _ ⟨?_,e.done⟩);unfold gx suV;dsimp only;rw[h]
theorem QT (s:List UInt8)(w:ao)(q:s.length<=1000000000):Ret ah 237 #[.string ⟨s.toArray⟩] w (λv w'=>v=.int .u32 (gg s:Int)∧Below w.heap.size w w'):=by
 refine aZ λK l=>KL ?_;unfold I8 nz;have more:Ret ah 270 #[.int .u32 1,.string ⟨s.toArray⟩] w (λv w'=>v=.int .u32 (gg s:Int)∧Below w.heap.size w w'):=by
  refine aZ λK l=>Ix ?_;unfold HJ nz;rw[Vo,show bAnd .u32 1 65535=1 by decide +kernel,KX dc,show (1:Int).tmod 65521=((1:Nat):Int) from rfl,GH dc,show (1:Int).fdiv (2 ^ (min (16:Int).toNat IntKind.u32.bits))=0 by decide +kernel,KX dc,show (0:Int).tmod 65521=((0:Nat):Int) from rfl];refine aD (show (aS 312 #[(0,.int .u32 ((1:Nat):Int)),(1,.int .u32 ((0:Nat):Int))]).run ah w=.ok (.value (suV 1 0)) w by kernel_rfl) |>.mpr ?_;refine bA (λb=>.pointer (ax ⟨b,0,aw⟩)) (suC 0 0) 312 (λ_=>by kernel_rfl) (Own.start w) λn r d=>?_;refine gX 0 d rfl (new:=suC 1 0) szSu Of rfl λw2 d=>?_;rw[gM amP];refine loop (λvs W=>∃i:Nat,vs=[.int .i64 (i:Int)]∧i<=s.length∧OwnS NoB w W [suE n (gi (s.take i)).1 (gi (s.take i)).2]) (λvs _=>s.length - n0 vs) ⟨0,rfl,om,d⟩ ?_;clear d;rintro vs w3 ⟨i,rfl,hi,d⟩ _;simp only[CB,gd,rs,nz];by_cases g:(i:Int) < (s.length:Int)
  ·simp only[g,amD,i_t];have j:i < s.length:=om
   obtain⟨e,f⟩:=ru (s.take i);have k:=zh j;generalize gi (s.take i)=x at d e f k;obtain⟨a,b⟩:=x;refine dW (λW=>OwnS NoB w W [suE n a b]) d.drew ?_;refine q_at (suV a b) (λW h=>aW (h.agg 0 rfl aaE)) (q_ix (c:=s[i]) amP om (by rw[amK];exact amN j) ?_);refine mG (suV (gx (a,b) s[i]).1 (gx (a,b) s[i]).2) (λW h=>(abQ a b s[i] W e f).mono λv w' ⟨o,p⟩=>⟨o,h.grow p⟩) ?_;intro t d;refine gX 0 d rfl (new:=suC (gx (a,b) s[i]).1 (gx (a,b) s[i]).2) szSu Of rfl λu d=>?_
   try simp only[rs]
   rw[aA om om];refine aY ⟨i+1,rfl,om,?_⟩ (by simp[n0,RowKit.intOf];omega);rw[k];exact d
  ·simp only[g,amF,i_f];have:i=s.length:=om
   subst this;rw[aoA] at d;obtain⟨e,f⟩:=ru s;have m:gg s=65536*(gi s).2+(gi s).1:=rfl;generalize gi s=x at d e f m;obtain⟨a,b⟩:=x;dsimp only at e f m;rw[aO Ur,aJ nU32 (d.cell 0 rfl 1 rfl),FV dc,show min (16:Int).toNat IntKind.u32.bits=16 from rfl,show (b:Int)*2 ^ 16=((b*65536:Nat):Int) by omega,Cy om,aO Po,aJ nU32 (d.cell 0 rfl 0 rfl),b_or,or32 om om,<-m];exact l _ _ ⟨rfl,d.done⟩
 refine Dh more λv w' ⟨e,f⟩=>?_;exact l _ _ ⟨e,f⟩
theorem shrU {n k:Nat}(a:k<=32):((n:Nat):Int).fdiv (2 ^ (min ((k:Nat):Int).toNat IntKind.u32.bits))=((n / 2 ^ k:Nat):Int):=by
 rw[show min ((k:Nat):Int).toNat IntKind.u32.bits=k by show min ((k:Nat):Int).toNat 32=k;omega,RS]
theorem M4 (n:Nat)(w:ao):Ret ah 236 #[.int .u32 (n:Int)] w (λv w'=>v=.string ⟨(bz n).toArray⟩∧Below w.heap.size w w'):=by
 refine aZ λK c=>IV ?_;unfold Ig nz;rw[GH dc,show (24:Int)=((24:Nat):Int) from rfl,shrU dc];refine aD (eC krx aoK) |>.mpr ?_;rw[Oy,GH dc,show (16:Int)=((16:Nat):Int) from rfl,shrU dc];refine aD (eC krx aoK) |>.mpr ?_;rw[Oy,GH dc,show (8:Int)=((8:Nat):Int) from rfl,shrU dc];refine aD (eC krx aoK) |>.mpr ?_;rw[Oy];refine aD (eC krx aoK) |>.mpr ?_;rw[Oy];refine bA (λb=>.slice (ax ⟨b,0,aw⟩) 4 4) (aP (bz n)) 5 (λ_=>by kernel_rfl) (Own.start w) λb2 d a=>?_;rw[KA (l:=bz n) anD aoK amP (a.sl 0 rfl 1 4 4 rfl)];exact c _ _ ⟨rfl,a.done⟩
theorem get0 {s:List UInt8}(h:i < s.length):s[i]?=ax (s.getD i 0):=by
 rw[amI,amN h];rfl
theorem Ol (s:List UInt8)(w:ao)(l:s.length<=1000000000):Ret ah 238 #[.string ⟨s.toArray⟩] w (λv w'=>v=.int .i64 (if s.length < 2 then 4 else if lf (s.getD 0 0).toNat (s.getD 1 0).toNat=av then 3 else 0)∧Below w.heap.size w w'):=by
 refine aZ λK d=>FI ?_;unfold Ci nz;rw[gM amP]
 try simp only[rs]
 by_cases e:s.length < 2
 ·rw[amB e] at d;simp only[show ai ((s.length:Int) < 2)=av from amG om,i_t];exact d _ _ ⟨rfl,Below.refl _ _⟩
 rw[amA e] at d;simp only[show ai ((s.length:Int) < 2)=au from amE om,i_f];refine quiet (q_ix (c:=s.getD 0 0) amP dc (get0 om) (q_do _ (λ_=>eC krx anT) (q_ix (c:=s.getD 1 0) amP dc (get0 om) (q_do _ (λ_=>eC krx anT) ?_))));intro m hw;have f:=aqE (s.getD 0 0);have g:=aqE (s.getD 1 0);generalize (s.getD 0 0).toNat=a at f d;generalize (s.getD 1 0).toNat=b at g d;rw[show IntKind.i64.wrap (a:Int)=(a:Int) from aA om om,show IntKind.i64.wrap (b:Int)=(b:Int) from aA om om];rw[Vo,afG om];unfold lf at d
 try simp only[rs]
 by_cases h:a % 16=8
 case neg=>
  simp only[show ai (((a % 16:Nat):Int)≠8)=av from amG om,rs];rw[amB (by simp[h])] at d;exact d _ _ ⟨rfl,hw⟩
 simp only[show ai (((a % 16:Nat):Int)≠8)=au from amE om,rs];rw[GH dc,show ((a:Nat):Int).fdiv (2 ^ (min (4:Int).toNat IntKind.i64.bits))=((a / 2 ^ 4:Nat):Int) from RS a 4]
 try simp only[rs]
 by_cases i:7 < a / 16
 ·simp only[show ai ((7:Int) < ((a / 2 ^ 4:Nat):Int))=av from amG om,rs];rw[amB (by simp[i])] at d;exact d _ _ ⟨rfl,hw⟩
 simp only[show ai ((7:Int) < ((a / 2 ^ 4:Nat):Int))=au from amE om,rs];rw[FV dc,show min (8:Int).toNat IntKind.i64.bits=8 from rfl,show (a:Int)*2 ^ 8=((a*256:Nat):Int) by push_cast;rfl,aA om om]
 try simp only[rs]
 rw[b_or,or64 f g,KX dc,show ((256*a+b:Nat):Int).tmod 31=(((256*a+b) % 31:Nat):Int) from rfl]
 try simp only[rs]
 by_cases j:(256*a+b) % 31=0
 case neg=>
  simp only[show ai ((((256*a+b) % 31:Nat):Int)≠0)=av from amG om,rs];rw[amB (by simp[j])] at d;exact d _ _ ⟨rfl,hw⟩
 simp only[show ai ((((256*a+b) % 31:Nat):Int)≠0)=au from amE om,rs];rw[Vo,alO om]
 try simp only[rs]
 by_cases k:b / 32 % 2=0
 case neg=>
  simp only[show ai (((b / 32 % 2*32:Nat):Int)≠0)=av from amG om,rs];rw[amB (by simp[k])] at d;exact d _ _ ⟨rfl,hw⟩
 simp only[show ai (((b / 32 % 2*32:Nat):Int)≠0)=au from amE om,rs];rw[amA (by simp[h,i,j,k])] at d;exact d _ _ ⟨rfl,hw⟩
theorem NT (s:List UInt8)(most:Int)(M:Mem)(w:ao)(f:Rp M)(g:Od M)(p:s.length<=1000000000)(l:M.has w) :
  RetM ah 192 #[.string ⟨s.toArray⟩,.int .i64 most] M w (λv _=>v=zlT (gj s most)∧(gj s most).1.length<=1048576):=by
 refine bB l λK c=>FX ?_;generalize a:gj s most=X at c;unfold gj at a;unfold CS nz;have b:OwnS M.A w w [.mem M]:=OwnS.memS l;refine aL b (Ol s w p) ?_;rintro _ q rfl b;simp only[eN];by_cases m:s.length < 2
 ·rw[amB m] at a ⊢;simp only[show ai ((4:Int)≠0)=av from rfl,i_t];exact c _ _ M _ 0 b rfl M.le_refl ⟨by rw[<-a];rfl,by rw[<-a];exact anG _⟩
 rw[amA m] at a ⊢;by_cases n:lf (s.getD 0 0).toNat (s.getD 1 0).toNat=av
 ·rw[amB n] at a ⊢;simp only[show ai ((3:Int)≠0)=av from rfl,i_t];exact c _ _ M _ 0 b rfl M.le_refl ⟨by rw[<-a];rfl,by rw[<-a];exact anG _⟩
 rw[amA n] at a ⊢;simp only[show ai ((0:Int)≠0)=au from rfl,i_f];dsimp only at a;rw[Qa amP dc om,show (2:Int).toNat=2 from rfl];refine bH b 0 rfl (Wj (s.drop 2) most M q f g (by rw[amQ];omega) (b.hasM 0 rfl)) ?_;rintro _ N w2 g1 ⟨rfl,hu,i⟩ b;generalize jn (s.drop 2) most=r at a hu i;obtain⟨t,u,e⟩:=r;dsimp only at a hu i;rw[amQ] at hu;simp only[flT,ex,eN];by_cases he:e=0
 case neg=>
  rw[amB he] at a;simp only[amG (show e≠0 from he),i_t];exact c _ _ N _ 0 b rfl g1 ⟨by rw[<-a];rfl,by rw[<-a];exact anG _⟩
 rw[amA (by rw[he];decide)] at a;simp only[amE (show ¬e≠0 by rw[he];decide),i_f];rw[gM amP,amQ]
 try simp only[rs]
 rw[aA om om];by_cases o:s.length < 2+u+4
 ·rw[amB o] at a;simp only[show ai (((s.length - 2:Nat):Int) - (u:Int) < 4)=av from amG om,i_t];exact c _ _ N _ 0 b rfl g1 ⟨by rw[<-a];rfl,by rw[<-a];exact anG _⟩
 rw[amA o] at a;simp only[show ai (((s.length - 2:Nat):Int) - (u:Int) < 4)=au from amE om,i_f];refine dW (λW=>OwnS M.A w W [.mem N]) b.drew ?_;refine pJ ?_;rw[aA om om];refine q_do _ (λ_=>pE amP om om (by rw[amQ];omega)) ?_;refine mG _ (λW h=>(QT t W om).mono λv w' ⟨j,k⟩=>⟨j,h.grow k⟩) ?_;refine mG _ (λW h=>(M4 (gg t) W).mono λv w' ⟨j,k⟩=>⟨j,h.grow k⟩) ?_;refine afV ?_;intro w3 b;rw[show ((u:Int)+4).toNat - ((u:Nat):Int).toNat=4 by omega,amK,aqJ];by_cases d:(s.drop (2+u)).take 4=bz (gg t)
 case neg=>
  rw[amB d] at a;simp only[amG (show (s.drop (2+u)).take 4≠bz (gg t) from d),i_t];exact c _ _ N _ 0 b rfl g1 ⟨by rw[<-a];rfl,by rw[<-a];exact anG _⟩
 rw[amA (by rw[d];simp)] at a;simp only[amE (show ¬(s.drop (2+u)).take 4≠bz (gg t) by rw[d];simp),i_f];exact c _ _ N _ 0 b rfl g1 ⟨by rw[<-a];rfl,by rw[<-a];exact i⟩
end
section
namespace Eng
open Go.RowKit
def MkIs (w:ao)(E:TypeId)(b:Nat)(l:List UInt8):Prop:=∃rest:List aq,w.heap[b]?=ax (.cells (aP l++rest).toArray E (l.length+rest.length,l.length+rest.length+1))
def Ent.mkr (E:TypeId)(b:Nat)(l:List UInt8):Ent:=
 ⟨λk=>k=b,λw=>MkIs w E b l,λ{w w'} h k=>by obtain⟨rest,h⟩:=h;exact⟨rest,(k b rfl).trans h⟩,λ{w} h k a=>by obtain⟨rest,h⟩:=h;cases a;exact dS h⟩
theorem JB (l:List UInt8):(aP l).length=l.length:=by simp[aP]
theorem Nt {E:TypeId}{l:List UInt8}(h:(Ent.mkr E b l).is w)(a:(aP l)[i]?=ax v):w.cell? ⟨b,i,aw⟩=ax v:=by
 obtain⟨rest,h⟩:=h;have:(aP l++rest)[i]?=ax v:=by rw[aoL (amS.1 a).1];exact a
 simp[World.cell?,h,this]
theorem Vb {E:TypeId}{l:List UInt8}(h:(Ent.mkr E b l).is w):Sl w (.slice (ax ⟨b,0,aw⟩) l.length cap) 1 l.length (aP l):=
 ⟨by rw[JB,anC],ax ⟨b,0,aw⟩,cap,rfl,(λh=>by cases h),λp hp=>by cases hp;exact⟨λ_=>rfl,λj u a=>by rw[amO];exact Nt h a⟩⟩
section
variable {S:Nat->Prop}{P:Program}{w w0:ao}{L:List Ent}{PK:PKT}{K:VWP}
theorem KO {T E:TypeId}{l:List UInt8}(c:P.underlying T=ax .string)(d:P.underlying D=ax (.slice E))(he:P.underlying E=ax (.int .u8))(f:OwnS S w0 w L)
  (k:∀b cap w',OwnS S w0 w' (.mkr E b l::L)->K (.slice (ax ⟨b,0,aw⟩) l.length cap) w'):DoX P (tP T D (.string ⟨l.toArray⟩)) w PK K:=by
 have a:=Go.Lib.run_convert_string_bytes (P:=P) w T D E ⟨l.toArray⟩ c d he;rw[dL] at a;refine tG (cJ a) (k _ _ _ ?_);refine f.add ⟨?_,?_,?_,?_,?_⟩ (.mkr E w.heap.size l) ?_ (λk g=>by cases g;exact amJ _)
 ·unfold Go.Lib.bytesWorld World.freeze;split<;>rfl
 ·unfold Go.Lib.bytesWorld World.freeze;split<;>rfl
 ·unfold Go.Lib.bytesWorld World.freeze;split<;>rfl
 ·rw[Go.Lib.bytesWorld_size];omega
 ·intro j h _;exact Go.Lib.bytesWorld_at_old w E _ j h
 ·refine⟨(Array.replicate (grownCap w l.length 0 E - l.length) (Value.int .u8 0)).toList,?_⟩;have:=Go.Lib.bytesWorld_at_new w E ⟨l.toArray⟩;rw[this];have e:Go.Lib.bytesCells w E ⟨l.toArray⟩=(aP l++(Array.replicate (grownCap w l.length 0 E - l.length) (Value.int .u8 0)).toList).toArray:=by
   unfold Go.Lib.bytesCells;rw[dL];apply Array.ext';simp[aP]
  rw[e];simp[aP]
theorem T9 (i:Nat){T E:TypeId}{off:Nat}{l:List UInt8}{c:UInt8}(h:OwnS S w0 w L)(hi:L[i]?=ax (.mkr E b l))(t:(P.info? T).map (·.size)=ax 1)(a:off < l.length)
  (k:∀w',OwnS S w0 w' (L.set i (.mkr E b (l.set off c)))->K undef w'):DoX P (aN T (.pointer (ax ⟨b,off,aw⟩)) (.int .u8 (c.toNat:Int))) w PK K:=by
 obtain⟨rest,g⟩:=(show MkIs w E b l from h.at_ i hi);have d:=Nt (h.at_ i hi) (i:=off) (v:=.int .u8 (l[off].toNat:Int)) (by simp[aP,a]);have m:w.frozen? ⟨b,off,aw⟩=false:=by
  unfold World.frozen?;rw[g];simp;omega
 have n:=run_storeCells_cells (P:=P) b off [.int .u8 (c.toNat:Int)] 0 w (λj o=>by
  have:j=0:=by simpa using o
  subst this;exact (congrArg Option.isSome d)) (λj o=>by
  have:j=0:=by simpa using o
  subst this;exact m) (λv u=>by rw[anB.1 u];rfl)
 obtain⟨ii,p,x⟩:=aoJ.1 t;have f:(Instr.storeAt T (.pointer (ax ⟨b,off,aw⟩)) (.int .u8 (c.toNat:Int))).run P w=.ok () (w.setCells b (off+0) [.int .u8 (c.toNat:Int)]):=by
  have y:(Value.int .u8 (c.toNat:Int)).cells=#[Value.int .u8 (c.toNat:Int)]:=rfl;simp[Instr.storeAt,Instr.sureAddr,storeVar,y,sizeOf,typeInfo,p,x,n]
 refine BC (Gp f) (k _ ?_);have s:b < w.heap.size:=dS g;have z:w.setCells b (off+0) [.int .u8 (c.toNat:Int)]=w.setCell ⟨b,off,aw⟩ (.int .u8 (c.toNat:Int)):=rfl;rw[z];refine h.put i hi (w':=w.setCell ⟨b,off,aw⟩ (.int .u8 (c.toNat:Int))) ⟨rfl,rfl,rfl,by simp[World.setCell],λk _ q=>?_⟩ (.mkr E b (l.set off c)) ⟨rest,?_⟩ (λk q=>.inl q)
 ·have r:k≠b:=λe=>q e;simp[World.setCell,Array.getElem?_modify,Ne.symm r]
 ·have A:w.heap[b]=.cells (aP l++rest).toArray E (l.length+rest.length,l.length+rest.length+1):=(arW.1 g).2;simp only[World.setCell,Array.getElem?_modify,amB,g,asE,aqP,aqO,if_false,aoV]
  congr 2
  apply Array.ext';simp only[Array.toList_setIfInBounds];rw[List.set_append_left _ _ (by rw[JB];exact a)];simp[aP,asM]
end
end Eng
end
section
open Eng
def BZ(t0 w)(K:KT):=nz f149 1 [] [] [(2,25)] (zg [0] [t0]) w K
theorem Fq:BZ t0 w k0->Calls ah 149 #[t0] w k0:=cw func149
def yJ(t0 w)(K:KT):=nz f82 1 [] [] [] (zg [0] [t0]) w K
theorem CV:yJ t0 w k0->Calls ah 82 #[t0] w k0:=cw func82
def Cf(t0 w)(K:KT):=nz f231 1 [] [] [] (zg [0] [t0]) w K
theorem Fz:Cf t0 w k0->Calls ah 231 #[t0] w k0:=cw func231
def wT(t0 t1 w)(K:KT):=nz f316 1 [] [] [] (zg [0,1] [t0,t1]) w K
theorem Cj:wT t0 t1 w k0->Calls ah 316 #[t0,t1] w k0:=cw func316
def fC(t8 t23 w)(N1:JT)(K:KT):=nz f286 983 [N1] [nh 9 [8,23]] [] (zg [8,23] [t8,t23]) w K
def gN(t7 t8 t22 t23 w)(N1:JT)(K:KT):=nz f286 87 [N1] [nh 9 [8,23],(16,[8],λs v j w f=>fC (vg v 0) (s 23) w (f 0) K)] [] (zg [7,8,22,23] [t7,t8,t22,t23]) w K
def wP(t0 t1 t2 w)(K:KT):=nz f286 1 [] [(9,[8,23],λs v j w f=>gN (s 7) (vg v 0) (s 22) (vg v 1) w (f 0) K)] [] (zg [0,1,2] [t0,t1,t2]) w K
theorem CM:wP t0 t1 t2 w k0->Calls ah 286 #[t0,t1,t2] w k0:=cz [(8,[8])] [(4,[8,23])] func286
def Fa(t0 t1 w)(K:KT):=nz f285 1 [] [] [] (zg [0,1] [t0,t1]) w K
theorem Hp:Fa t0 t1 w k0->Calls ah 285 #[t0,t1] w k0:=cw func285
def qF(t0 t1 t2 w)(K:KT):=nz f263 1 [] [] [(1,21)] (zg [0,1,2] [t0,t1,t2]) w K
theorem yM:qF t0 t1 t2 w k0->Calls ah 263 #[t0,t1,t2] w k0:=cw func263
def lQ(t1 t2 t5 t13 t14 t15 w)(N1:JT)(K:KT):=nz f233 43 [N1] [nh 7 [15]] [] (zg [1,2,5,13,14,15] [t1,t2,t5,t13,t14,t15]) w K
def oZ(t0 t1 w)(K:KT):=nz f233 1 [] [(7,[15],λs v j w f=>lQ (s 1) (s 2) (s 5) (s 13) (s 14) (vg v 0) w (f 0) K)] [] (zg [0,1] [t0,t1]) w K
theorem wM:oZ t0 t1 w k0->Calls ah 233 #[t0,t1] w k0:=cz [] [(3,[15])] func233
def mQ(t1 t2 t7 t8 w)(N1:JT)(K:KT):=nz f240 11 [N1] [nh 5 [8]] [(4,11)] (zg [1,2,7,8] [t1,t2,t7,t8]) w K
def oY(t0 t1 w)(K:KT):=nz f240 1 [] [(5,[8],λs v j w f=>mQ (s 1) (s 2) (s 7) (vg v 0) w (f 0) K)] [] (zg [0,1] [t0,t1]) w K
theorem wF:oY t0 t1 w k0->Calls ah 240 #[t0,t1] w k0:=cz [] [(2,[8])] func240
def qD(t3 t6 t7 t8 w)(N1:JT)(K:KT):=nz f264 43 [N1] [nh 7 [3,8]] [] (zg [3,6,7,8] [t3,t6,t7,t8]) w K
def vN(t0 w)(K:KT):=nz f264 1 [] [(7,[3,8],λs v j w f=>qD (vg v 0) (s 6) (s 7) (vg v 1) w (f 0) K)] [] (zg [0] [t0]) w K
theorem BF:vN t0 w k0->Calls ah 264 #[t0] w k0:=cz [] [(3,[3,8])] func264
def mR(t3 t4 t5 w)(N1:JT)(K:KT):=nz f234 471 [N1] [nh 9 [3,4,5]] [] (zg [3,4,5] [t3,t4,t5]) w K
def mH(t1 t3 t4 t5 w)(N1:JT)(K:KT):=nz f234 87 [N1] [nh 9 [3,4,5],(10,[3,4],λs v j w f=>mR (vg v 0) (vg v 1) (s 5) w (f 0) K)] [] (zg [1,3,4,5] [t1,t3,t4,t5]) w K
def oV(t0 w)(K:KT):=nz f234 1 [] [(9,[3,4,5],λs v j w f=>mH (s 1) (vg v 0) (vg v 1) (vg v 2) w (f 0) K)] [] (zg [0] [t0]) w K
theorem wE:oV t0 w k0->Calls ah 234 #[t0] w k0:=cz [(5,[3,4])] [(4,[3,4,5])] func234
def vL(t0 t1 t2 w)(K:KT):=nz f232 1 [] [] [] (zg [0,1,2] [t0,t1,t2]) w K
theorem Bx:vL t0 t1 t2 w k0->Calls ah 232 #[t0,t1,t2] w k0:=cw func232
def pW(t1 t6 t8 w)(N1:JT)(K:KT):=nz f190 1855 [N1] [nh 23 [1,8]] [] (zg [1,6,8] [t1,t6,t8]) w K
def qO(b c a w)(j:JT)(K:KT):=
 HeldX w (λS5 w=>HDo ah S5 (tP 3 5 a) λd=>HDo ah S5 (aH 246 c) λe=>DoX ah (bN 53 1 #[(0,d)]) w (ay 6 (pk K)) λf w=>S5 w∧(DoX ah (mB .append #[53,53] 53 #[au,au] #[b,f]) w (ay 6 (pk K)) λg w=>S5 w∧(CallX ah 233 #[e,a] w (ay 6 (pk K)) λh w=>S5 w∧(DoX ah (mB .append #[53,53] 53 #[au,au] #[g,h]) w (ay 6 (pk K)) λi w=>S5 w∧(j [i] w)))))
def gA(c a b w)(q:JT)(K:KT):=
 fax 27 c 0 w K λe w=>ldx 3 e w K λf w=>bnx .sub 3 f (iN 10) w K λg w=>JoinX (λr=>fax 27 c 0 w K λh w=>ldx 3 h w K λd w=>ecx .eql 3 69 2 d w K λi w=>IfX i (ldx 246 b w K λj w=>cx 233 #[j,(iN 1)] w K λk w=>apx 53 a k w K λl w=>q [l] w) (ecx .eql 3 69 15 d w K λm w=>IfX m (ldx 246 b w K λn w=>cx 234 #[n] w K λo w=>r [a,o] w) (r [a,g] w))) (λp w=>∀_:Sg,qO (p.getD 0 undef) b (p.getD 1 undef) w q K)
def jQ(b d e c a w)(N1:JT)(K:KT):=
 lnx 9 b w K λi w=>bnx .gtr 3 i (iN 0) w K λj w=>IfX j (JoinX (λr=>HeldX w (λS3 w=>HDo ah (λ_=>True) (mFA 246 a 1) λk=>HDo ah S3 (aH 53 k) λf=>HDo ah (λ_=>True) (eI 9 b aw (ax e) aw) λg=>HDo ah (λ_=>True) (mFA 246 a 0) λh=>(DoX ah (tP 9 53 g) w (ay 7 (pk K)) λl w=>S3 w∧(DoX ah (aN 53 h f) w (ay 7 (pk K)) λ_ w=>(HDo ah (λ_=>True) (mFA 246 a 1) λm=>DoX ah (aN 53 m l) w (ay 7 (pk K)) λ_ w=>(gA d c a w r K))))∧(DoX ah (aN 53 h f) w (ay 7 (pk K)) λ_ w=>(DoX ah (tP 9 53 g) w (ay 7 (pk K)) λo w=>S3 w∧(HDo ah (λ_=>True) (mFA 246 a 1) λp=>DoX ah (aN 53 p o) w (ay 7 (pk K)) λ_ w=>(gA d c a w r K)))))) (λq w=>∀_:Sg,pW b e (q.getD 0 undef) w N1 K)) (dx (tP 53 9 c) w K λn w=>K (.returned (.tuple #[n,(iN 0)])) w)
def vX(t0 t1 w)(K:KT):=nz f190 1 [] [(23,[1,8],λs v j w f=>jQ (vg v 0) (s 2) (s 6) (vg v 1) (s 9) w (f 0) K)] [] (zg [0,1] [t0,t1]) w K
theorem Bt:vX t0 t1 w k0->Calls ah 190 #[t0,t1] w k0:=cz [(12,[8]),(20,[8,10])] [(11,[1,8])] func190
def fU(b c d e a f w)(n:JT)(K:KT):=
 ldx 246 a w K λg w=>cx 240 #[g,f] w K λm w=>fax 246 a 1 w K λh w=>ldx 53 h w K λi w=>apx 53 e i w K λj w=>bnx .add 3 c d w K λk w=>slx 9 b (ax k) aw aw w K λl w=>n [l,j] w
def pT(c d b f a e w)(q:JT)(K:KT):=
 bnx .geq 3 e (iN 5) w K λj w=>IfX j (K (.returned (.tuple #[(.string ⟨#[]⟩),(iN 3)])) w) (HeldX w (λS4 w=>HDo ah (λ_=>True) (mFA 246 a 1) λk=>HDo ah S4 (aH 53 k) λg=>HDo ah (λ_=>True) (mBin .add 3 d b) λl=>HDo ah (λ_=>True) (eI 9 c (ax b) (ax l) aw) λh=>HDo ah (λ_=>True) (mFA 246 a 0) λi=>(DoX ah (tP 9 53 h) w (ay 10 (pk K)) λm w=>S4 w∧(DoX ah (aN 53 i g) w (ay 10 (pk K)) λ_ w=>(HDo ah (λ_=>True) (mFA 246 a 1) λn=>DoX ah (aN 53 n m) w (ay 10 (pk K)) λ_ w=>(fU c d b f a e w q K))))∧(DoX ah (aN 53 i g) w (ay 10 (pk K)) λ_ w=>(DoX ah (tP 9 53 h) w (ay 10 (pk K)) λo w=>S4 w∧(HDo ah (λ_=>True) (mFA 246 a 1) λp=>DoX ah (aN 53 p o) w (ay 10 (pk K)) λ_ w=>(fU c d b f a e w q K))))))
def qL(t1 t6 t7 t9 t10 w)(a:JT)(K:KT):=nz f193 639 [a] [nh 23 [1,9],(32,[11],λs v j w f=>pT (s 1) (s 6) (s 7) (s 9) (s 10) (vg v 0) w (f 0) K)] [] (zg [1,6,7,9,10] [t1,t6,t7,t9,t10]) w K
def qH(t1 t2 t6 t7 w)(K:KT):=nz f193 15 [] [(23,[1,9],λs v j w f=>qL (vg v 0) (s 6) (s 7) (vg v 1) (s 10) w (f 0) K)] [] (zg [1,2,6,7] [t1,t2,t6,t7]) w K
def vK(t0 t1 w)(K:KT):=nz f193 1 [] [(8,[7],λs v j w f=>qH (s 1) (s 2) (s 6) (vg v 0) w K)] [] (zg [0,1] [t0,t1]) w K
theorem BP:vK t0 t1 w k0->Calls ah 193 #[t0,t1] w k0:=cz [(4,[7]),(16,[11])] [(11,[1,9])] func193
end
end Go.Proofs.YtlipjfcbjemicaaGreatDoor

namespace Go.Proofs.YtlipjfcbjemicaaGreatDoor
variable{A S:Nat->Prop}{D:TypeId}{K:VWP}{L:List Eng.Ent}{M:Eng.Mem}{PK:PKT}{R:Ending->FrameMode->ao->Prop}{W w w0:ao}{a colors way:Int}{above key:List UInt8}{b cap fb i most p rb sz:Nat}{cs:List aq}{e:Eng.Ent}{o:Ob}{os:List Ob}{q:Bool}{t0 v va vc vk:aq}{u:FrameMode}{t0 t1 t2 t3:aq}{k0:Eng.KT}
section
open Eng Go.RowKit
structure Pm where
 p:Int
 c:Int
 n:Int
def pmC (x:Pm):List Value:=[.int .i64 x.p,.int .i64 x.c,.int .i64 x.n]
def pmV (x:Pm):Value:=.agg (pmC x).toArray
abbrev pmE (b:Nat)(x:Pm):Ent:=.cells b (pmC x) 27
theorem Ic {x:Pm}:∀u∈pmC x,u.oneCell'=true:=by
 intro u hu;simp only[pmC,amH,anW,or_false] at hu;rcases hu with rfl|rfl|rfl<;>rfl
theorem KV:aggN ah 27=ax 3:=krx
theorem szPm:(Tryz.prog.info? 27).map (·.size)=ax 3:=krx
theorem Y5:fOff ah 27 0=ax 0:=krx
theorem MO:fOff ah 27 1=ax 1:=krx
theorem Pp:fOff ah 27 2=ax 2:=krx
def Pm.known (x:Pm):Prop:=x.p=1∨x.p=2∨(10<=x.p∧x.p<=15)
def Pm.ok (x:Pm):Prop:=x.known∧1<=x.c∧1<=x.n∧x.c<=8192∧x.c*x.n<=8192
instance (x:Pm):Decidable x.known:=by unfold Pm.known;infer_instance
instance (x:Pm):Decidable x.ok:=by unfold Pm.ok;infer_instance
theorem Pm.mul_pos {x:Pm}(h:x.ok):1<=x.c*x.n:=by
 obtain⟨_,a,b,_,d⟩:=h;have:1*1<=x.c*x.n:=Int.mul_le_mul a b om om;omega
section
variable {w:ao}{PK:PKT}{K:VWP}{S:Nat->Prop}{w0:ao}{L:List Ent}
theorem IW (x:Pm)(a:OwnS S w0 w L)(k:∀b w',OwnS S w0 w' (pmE b x::L)->K (.pointer (ax ⟨b,0,aw⟩)) w'):DoX ah (mBox 27 (pmV x)) w PK K:=
 bA (λb=>.pointer (ax ⟨b,0,aw⟩)) (pmC x) 27 (λ_=>by kernel_rfl) a k
theorem pm_v (a:OwnS S w0 w L)(j:Nat){x:Pm}(hi:L[j]?=ax (pmE b x)):DoX ah (aH 27 (.pointer (ax ⟨b,0,aw⟩))) w PK K=K (pmV x) w:=l_at (a.agg j hi KV)
theorem pm_0 (a:OwnS S w0 w L)(j:Nat){x:Pm}(hi:L[j]?=ax (pmE b x)):DoX ah (aH 3 (.pointer (ax ⟨b,0+0,aw⟩))) w PK K=K (.int .i64 x.p) w:=aJ aU (a.cell j hi 0 rfl)
theorem pm_1 (a:OwnS S w0 w L)(j:Nat){x:Pm}(hi:L[j]?=ax (pmE b x)):DoX ah (aH 3 (.pointer (ax ⟨b,0+1,aw⟩))) w PK K=K (.int .i64 x.c) w:=aJ aU (a.cell j hi 1 rfl)
theorem pm_2 (a:OwnS S w0 w L)(j:Nat){x:Pm}(hi:L[j]?=ax (pmE b x)):DoX ah (aH 3 (.pointer (ax ⟨b,0+2,aw⟩))) w PK K=K (.int .i64 x.n) w:=aJ aU (a.cell j hi 2 rfl)
theorem fpm0 {off:Nat}:DoX ah (mFA 27 (.pointer (ax ⟨b,off,aw⟩)) 0) w PK K=K (.pointer (ax ⟨b,off+0,aw⟩)) w:=aO Y5
theorem fpm1 {off:Nat}:DoX ah (mFA 27 (.pointer (ax ⟨b,off,aw⟩)) 1) w PK K=K (.pointer (ax ⟨b,off+1,aw⟩)) w:=aO MO
theorem fpm2 {off:Nat}:DoX ah (mFA 27 (.pointer (ax ⟨b,off,aw⟩)) 2) w PK K=K (.pointer (ax ⟨b,off+2,aw⟩)) w:=aO Pp
end
theorem NV {x:Pm}(h:(pmE b x).is W):(aH 3 (.pointer (ax ⟨b,0+1,aw⟩))).run ah W=.ok (.value (.int .i64 x.c)) W:=aB aU (aI (T:=27) (cs:=pmC x) h rfl)
theorem UN {x:Pm}(h:(pmE b x).is W):(aH 3 (.pointer (ax ⟨b,0+2,aw⟩))).run ah W=.ok (.value (.int .i64 x.n)) W:=aB aU (aI (T:=27) (cs:=pmC x) h rfl)
theorem Lm (x:Pm)(w:ao):Ret ah 149 #[pmV x] w (λv w'=>v=.bool (decide x.ok)∧Below w.heap.size w w'):=by
 refine aZ λK o=>Fq ?_;unfold BZ nz;refine IW x (Own.start w) λb q d=>?_;rw[fpm0,pm_0 d 0 rfl];have no:∀{W:ao},¬x.ok->Below w.heap.size w W->K (.returned (.bool au)) W:=λh hw=>o _ _ ⟨by rw[amE h],hw⟩;have rest:x.known->QuietX q (λa=>
   QDo ah a (mFA 27 (.pointer (ax ⟨b,0,aw⟩)) 1) λt24=>
   QDo ah a (aH 3 t24) λt25=>
   QDo ah a (mBin .geq 3 t25 (.int .i64 1)) λt26=>
   QDo ah a (lC (.bool av) t26 (.bool au)) λt27=>
   GQ t27 av (λE=>QDo ah a (mFA 27 (.pointer (ax ⟨b,0,aw⟩)) 2) E) λt29=>
   GQ t27 av (λE=>QDo ah a (aH 3 t29) E) λt30=>
   GQ t27 av (λE=>QDo ah a (mBin .geq 3 t30 (.int .i64 1)) E) λt31=>
   QDo ah a (lC t27 t31 (.bool au)) λt32=>
   GQ t32 av (λE=>QDo ah a (mFA 27 (.pointer (ax ⟨b,0,aw⟩)) 1) E) λt34=>
   GQ t32 av (λE=>QDo ah a (aH 3 t34) E) λt35=>
   GQ t32 av (λE=>QDo ah a (mBin .leq 3 t35 (.int .i64 8192)) E) λt36=>
   QDo ah a (lC t32 t36 (.bool au)) λt37=>
   GQ t37 av (λE=>QDo ah a (mFA 27 (.pointer (ax ⟨b,0,aw⟩)) 2) E) λt39=>
   GQ t37 av (λE=>QDo ah a (aH 3 t39) E) λt40=>
   GQ t37 av (λE=>QDo ah a (mFA 27 (.pointer (ax ⟨b,0,aw⟩)) 1) E) λt41=>
   GQ t37 av (λE=>QDo ah a (aH 3 t41) E) λt42=>
   GQ t37 av (λE=>QDo ah a (mBin .quo 3 (.int .i64 8192) t42) E) λt43=>
   GQ t37 av (λE=>QDo ah a (mBin .leq 3 t40 t43) E) λt44=>
   QDo ah a (lC t37 t44 (.bool au)) λt45=>
   ∀w,a w->K (.returned t45) w):=by
  intro r;refine dW (λW=>OwnS NoB w W [pmE b x]) d.drew ?_;refine q_do _ (λ_=>bE MO) (q_at _ (λW h=>NV (h.at_ 0 rfl)) (aeX (q_pt ?_)));by_cases f:1<=x.c
  case neg=>
   rw[amE f];simp only[gq];refine q_pf ?_;simp only[gq];refine q_pf ?_;simp only[gq];refine q_pf λW d=>?_;exact no (λh=>f h.2.1) d.done
  rw[amG f];simp only[gq];refine q_do _ (λ_=>bE Pp) (q_at _ (λW h=>UN (h.at_ 0 rfl)) (aeX (q_pt ?_)));by_cases g:1<=x.n
  case neg=>
   rw[amE g];simp only[gq];refine q_pf ?_;simp only[gq];refine q_pf λW d=>?_;exact no (λh=>g h.2.2.1) d.done
  rw[amG g];simp only[gq];refine q_do _ (λ_=>bE MO) (q_at _ (λW h=>NV (h.at_ 0 rfl)) (Zj (q_pt ?_)));by_cases i:x.c<=8192
  case neg=>
   rw[amE i];simp only[gq];refine q_pf λW d=>?_;exact no (λh=>i h.2.2.2.1) d.done
  rw[amG i];simp only[gq];refine q_do _ (λ_=>bE Pp) (q_at _ (λW h=>UN (h.at_ 0 rfl)) ?_);refine q_do _ (λ_=>bE MO) (q_at _ (λW h=>NV (h.at_ 0 rfl)) (aiD om (Zj (q_pt λW d=>?_))));have s:(8192:Int).tdiv x.c=8192 / x.c:=auM dc;have t:8192 / x.c<=8192:=Int.ediv_le_self _ dc;have u:0<=8192 / x.c:=Int.ediv_nonneg dc om;rw[s,aA om om];refine o _ _ ⟨?_,d.done⟩;have e:x.n<=8192 / x.c↔x.c*x.n<=8192:=by rw[Int.le_ediv_iff_mul_le om,Int.mul_comm]
  congr 1
  have:x.ok↔x.n<=8192 / x.c:=⟨λh=>e.2 h.2.2.2.2,λh=>⟨r,f,g,i,e.1 h⟩⟩;exact (decide_eq_decide.2 this).symm
 simp only[rs];by_cases j:x.p=1
 ·simp only[j,amD,rs,gq,g_un];exact rest (.inl j)
 simp only[j,amF,rs];rw[fpm0,pm_0 d 0 rfl];simp only[rs];by_cases k:x.p=2
 ·simp only[k,amD,rs,gq,g_un];exact rest (.inr (.inl k))
 simp only[k,amF,rs];rw[fpm0,pm_0 d 0 rfl];simp only[rs];by_cases l:10<=x.p
 ·simp only[l,amD,rs];rw[fpm0,pm_0 d 0 rfl];simp only[rs];by_cases m:x.p<=15
  ·simp only[m,amD,rs,gq,g_un];exact rest (.inr (.inr ⟨l,m⟩))
  ·simp only[m,amF,rs,gq,g_un];refine dW (λW=>OwnS NoB w W [pmE b x]) d.drew ?_;refine q_pf ?_;simp only[gq];refine q_pf ?_;simp only[gq];refine q_pf ?_;simp only[gq];refine q_pf λW d=>no (λh=>by have:=h.1;unfold Pm.known at this;omega) d.done
 ·simp only[l,amF,rs,gq,g_un];refine dW (λW=>OwnS NoB w W [pmE b x]) d.drew ?_;refine q_pf ?_;simp only[gq];refine q_pf ?_;simp only[gq];refine q_pf ?_;simp only[gq];refine q_pf λW d=>no (λh=>by have:=h.1;unfold Pm.known at this;omega) d.done
theorem Jv (x:Pm)(w:ao):Ret ah 82 #[pmV x] w (λv w'=>v=.int .i64 (if x.ok then 0 else 1)∧Below w.heap.size w w'):=by
 refine aZ λK c=>CV ?_;unfold yJ nz;refine IW x (Own.start w) λb d a=>?_;rw[pm_v a 0 rfl];refine aL a (Lm x d) ?_;rintro _ w2 rfl a;simp only[rs];by_cases h:x.ok
 ·rw[amB h] at c;simp only[h,amD,aoB,i_f];exact c _ _ ⟨rfl,a.done⟩
 ·rw[amA h] at c;simp only[h,amF,aoD,i_t];exact c _ _ ⟨rfl,a.done⟩
theorem PO (x:Pm)(w:ao):Ret ah 231 #[pmV x] w (λv w'=>v=.int .i64 (if x.ok then x.c*x.n else 0)∧Below w.heap.size w w'):=by
 refine aZ λK d=>Fz ?_;unfold Cf nz;refine IW x (Own.start w) λb e a=>?_;rw[pm_v a 0 rfl];refine aL a (Lm x e) ?_;rintro _ w2 rfl a;simp only[rs];by_cases h:x.ok
 ·rw[amB h] at d;simp only[h,amD,aoB,i_f];have f:=Pm.mul_pos h;have g:=h.2.2.2.2;rw[fpm1,pm_1 a 0 rfl,fpm2,pm_2 a 0 rfl];simp only[rs];rw[aA om om];exact d _ _ ⟨rfl,a.done⟩
 ·rw[amA h] at d;simp only[h,amF,aoD,i_t];exact d _ _ ⟨rfl,a.done⟩
def ct (x:Int):Int:=max x (-x)
def nf (a b c:UInt8):UInt8:=
 let d:Int:=(a.toNat:Int)+(b.toNat:Int) - (c.toNat:Int)
 if ct (d - (a.toNat:Int))<=ct (d - (b.toNat:Int))∧ct (d - (a.toNat:Int))<=ct (d - (c.toNat:Int)) then a
 else if ct (d - (b.toNat:Int))<=ct (d - (c.toNat:Int)) then b else c
theorem Aj (a b:Int)(w:ao)(d:-10000<=a∧a<=10000)(e:-10000<=b∧b<=10000):Ret ah 316 #[.int .i64 a,.int .i64 b] w (λv w'=>v=.int .i64 (ct (b - a))∧w=w'):=by
 refine aZ λK c=>Cj ?_;unfold wT nz;simp only[rs];rw[aA om om,aA om om,wN];exact c _ _ ⟨by unfold ct;congr 1;omega,rfl⟩
section
variable {w:ao}{PK:PKT}{K:VWP}
theorem u8ix {c:UInt8}:DoX ah (tP 5 3 (.int .u8 (c.toNat:Int))) w PK K=K (.int .i64 (c.toNat:Int)) w:=by
 have a:=aqE c;have e:IntKind.i64.wrap (c.toNat:Int)=(c.toNat:Int):=aA om om;have:=eC (P:=ah) (S:=5) (D:=3) (k:=.u8) (n:=(c.toNat:Int)) (w:=w) krx anT;rw[e] at this;exact aD this
end
theorem RQ (a b c:UInt8)(w:ao):Ret ah 286 #[.int .u8 (a.toNat:Int),.int .u8 (b.toNat:Int),.int .u8 (c.toNat:Int)] w (λv w'=>v=.int .u8 ((nf a b c).toNat:Int)∧w=w'):=by
 refine aZ λK j=>CM ?_;unfold wP nz;have s:=aqE a;have t:=aqE b;have u:=aqE c;rw[u8ix,u8ix];simp only[rs];rw[u8ix];simp only[rs];rw[aA (n:=(a.toNat:Int)+(b.toNat:Int)) om om,aA om om];have e:∀W:ao,(aS 323 #[(0,.int .u8 (b.toNat:Int)),(1,.int .u8 (c.toNat:Int))]).run ah W=.ok (.value (.agg #[.int .u8 (b.toNat:Int),.int .u8 (c.toNat:Int)])) W:=λW=>by kernel_rfl
 refine aD (e w) |>.mpr ?_;have hp:nf a b c=(let m:=if ct ((a.toNat:Int)+(b.toNat:Int) - (c.toNat:Int) - (b.toNat:Int)) < ct ((a.toNat:Int)+(b.toNat:Int) - (c.toNat:Int) - (a.toNat:Int)) then b else a
   if ct ((a.toNat:Int)+(b.toNat:Int) - (c.toNat:Int) - (c.toNat:Int)) < ct ((a.toNat:Int)+(b.toNat:Int) - (c.toNat:Int) - (m.toNat:Int)) then c else m):=by
  unfold nf;dsimp only;generalize l:ct ((a.toNat:Int)+(b.toNat:Int) - (c.toNat:Int) - (a.toNat:Int))=A;generalize o:ct ((a.toNat:Int)+(b.toNat:Int) - (c.toNat:Int) - (b.toNat:Int))=B;generalize hC:ct ((a.toNat:Int)+(b.toNat:Int) - (c.toNat:Int) - (c.toNat:Int))=C;by_cases k:B < A
  ·rw[amB k,o,amA om];by_cases g:B<=C
   ·rw[amB g,amA om]
   ·rw[amA g,amB om]
  ·rw[amA k,l];by_cases g:C < A
   ·rw[amB g,amA om,amA om]
   ·rw[amA g,amB om]
 rw[hp] at j;dsimp only at j;generalize p:(a.toNat:Int)+(b.toNat:Int) - (c.toNat:Int)=d at j;have f:-10000<=d∧d<=10000:=om
 have q:∀W:ao,(mIx 323 (.agg #[.int .u8 (b.toNat:Int),.int .u8 (c.toNat:Int)]) (.int .i64 0)).run ah W=.ok (.value (.int .u8 (b.toNat:Int))) W:=λW=>by kernel_rfl
 have r:∀W:ao,(mIx 323 (.agg #[.int .u8 (b.toNat:Int),.int .u8 (c.toNat:Int)]) (.int .i64 1)).run ah W=.ok (.value (.int .u8 (c.toNat:Int))) W:=λW=>by kernel_rfl
 refine loop (λvs W=>w=W∧(vs=[.int .u8 (a.toNat:Int),.int .i64 0]∨vs=[.int .u8 ((if ct (d - (b.toNat:Int)) < ct (d - (a.toNat:Int)) then b else a).toNat:Int),.int .i64 1] ∨
  vs=[.int .u8 ((if ct (d - (c.toNat:Int)) < ct (d - ((if ct (d - (b.toNat:Int)) < ct (d - (a.toNat:Int)) then b else a).toNat:Int)) then c else (if ct (d - (b.toNat:Int)) < ct (d - (a.toNat:Int)) then b else a)).toNat:Int),.int .i64 2])) (λvs _=>2 - n1 vs) ⟨rfl,.inl rfl⟩ ?_
 rintro vs _ ⟨rfl,rfl|rfl|rfl⟩ _
 ·simp only[gN,gd,rs,nz];simp only[show ai ((0:Int) < 2)=av from rfl,i_t];refine join λJ i=>?_;refine aD (q w) |>.mpr ?_;rw[u8ix];refine c_eq (Aj (b.toNat:Int) d w om f) ?_;rw[u8ix];refine c_eq (Aj (a.toNat:Int) d w om f) ?_;simp only[rs];by_cases h:ct (d - (b.toNat:Int)) < ct (d - (a.toNat:Int))
  ·simp only[h,amD,i_t];refine i _ _ λ_=>?_;simp only[fC,gd,rs,nz];exact aY ⟨rfl,.inr (.inl (by rw[amB h];rfl))⟩ (by show 2 - 1 < 2 - 0;decide)
  ·simp only[h,amF,i_f];refine i _ _ λ_=>?_;simp only[fC,gd,rs,nz];exact aY ⟨rfl,.inr (.inl (by rw[amA h];rfl))⟩ (by show 2 - 1 < 2 - 0;decide)
 ·generalize (if ct (d - (b.toNat:Int)) < ct (d - (a.toNat:Int)) then b else a)=m;have hm:=aqE m;simp only[gN,gd,rs,nz];simp only[show ai ((1:Int) < 2)=av from rfl,i_t];refine join λJ i=>?_;refine aD (r w) |>.mpr ?_;rw[u8ix];refine c_eq (Aj (c.toNat:Int) d w om f) ?_;rw[u8ix];refine c_eq (Aj (m.toNat:Int) d w om f) ?_;simp only[rs];by_cases h:ct (d - (c.toNat:Int)) < ct (d - (m.toNat:Int))
  ·simp only[h,amD,i_t];refine i _ _ λ_=>?_;simp only[fC,gd,rs,nz];exact aY ⟨rfl,.inr (.inr (by rw[amB h];rfl))⟩ (by show 2 - 2 < 2 - 1;decide)
  ·simp only[h,amF,i_f];refine i _ _ λ_=>?_;simp only[fC,gd,rs,nz];exact aY ⟨rfl,.inr (.inr (by rw[amA h];rfl))⟩ (by show 2 - 2 < 2 - 1;decide)
 ·simp only[gN,gd,rs,nz];simp only[show ai ((2:Int) < 2)=au from rfl,i_f];exact j _ _ ⟨rfl,rfl⟩
def gf (l:List UInt8)(i:Int):UInt8:=if i < 0∨(l.length:Int)<=i then 0 else l.getD i.toNat 0
theorem Nk (l:List UInt8)(v:aq)(i:Int)(w:ao)(d:Sl w v 1 l.length (aP l)):Ret ah 285 #[v,.int .i64 i] w (λr w'=>r=.int .u8 ((gf l i).toNat:Int)∧w=w'):=by
 refine aZ λK a=>Hp ?_;unfold Fa nz;unfold gf at a;simp only[rs];by_cases b:i < 0
 ·simp only[b,amD,rs,g_un];rw[amB (.inl b)] at a;exact a _ _ ⟨rfl,rfl⟩
 simp only[b,amF,rs];rw[bD anD d];simp only[rs];by_cases c:(l.length:Int)<=i
 ·simp only[c,amD,rs];rw[amB (.inr c)] at a;exact a _ _ ⟨rfl,rfl⟩
 simp only[c,amF,rs];rw[amA om] at a;obtain⟨n,rfl⟩:∃n:Nat,i=(n:Int):=⟨i.toNat,om⟩;have e:n < l.length:=om
 obtain⟨b2,off,f,g⟩:=V3 d e;refine aD (f w) |>.mpr (aD (aB nU8l g) |>.mpr ?_);rw[amK,amI,amN e] at a;exact a _ _ ⟨rfl,rfl⟩
def ec (tag:Int)(above row:List UInt8)(i colors:Int):UInt8:=
 if tag=1 then gf row (i - colors)
 else if tag=2 then gf above i
 else if tag=3 then UInt8.ofNat (((gf row (i - colors)).toNat+(gf above i).toNat) / 2)
 else if tag=4 then nf (gf row (i - colors)) (gf above i) (gf above (i - colors))
 else 0
def rwC (a r:aq)(c:Int):List Value:=[a,r,.int .i64 c]
def rwV (a r:aq)(c:Int):Value:=.agg (rwC a r c).toArray
abbrev rwE (b:Nat)(a r:aq)(c:Int):Ent:=.cells b (rwC a r c) 246
theorem Vp {a r:aq}{c:Int}(b:a.oneCell'=av)(d:r.oneCell'=av):∀u∈rwC a r c,u.oneCell'=true:=by
 intro u hu;simp only[rwC,amH,anW,or_false] at hu;rcases hu with rfl|rfl|rfl
 ·exact b
 ·exact d
 ·rfl
theorem ME:aggN ah 246=ax 3:=krx
theorem szRw:(Tryz.prog.info? 246).map (·.size)=ax 3:=krx
theorem P6:fOff ah 246 0=ax 0:=krx
theorem vQ:fOff ah 246 1=ax 1:=krx
theorem YE:fOff ah 246 2=ax 2:=krx
theorem lJ {n:Nat}(h:Sl w v sz n cs):v.oneCell'=true:=by
 obtain⟨_,a,cap,rfl,_⟩:=h;rfl
theorem Ta {a r:aq}{c:Int}(h:(rwE b a r c).is W):(aH 53 (.pointer (ax ⟨b,0+0,aw⟩))).run ah W=.ok (.value a) W:=aB On (aI (T:=246) (cs:=rwC a r c) h rfl)
theorem wO {a r:aq}{c:Int}(h:(rwE b a r c).is W):(aH 53 (.pointer (ax ⟨b,0+1,aw⟩))).run ah W=.ok (.value r) W:=aB On (aI (T:=246) (cs:=rwC a r c) h rfl)
theorem UC {a r:aq}{c:Int}(h:(rwE b a r c).is W):(aH 3 (.pointer (ax ⟨b,0+2,aw⟩))).run ah W=.ok (.value (.int .i64 c)) W:=aB aU (aI (T:=246) (cs:=rwC a r c) h rfl)
theorem alC (x y:UInt8):IntKind.u8.wrap (IntKind.i64.wrap (((x.toNat+y.toNat:Nat):Int).tdiv 2))=((UInt8.ofNat ((x.toNat+y.toNat) / 2)).toNat:Int):=by
 have a:=aqE x;have b:=aqE y;rw[show ((x.toNat+y.toNat:Nat):Int).tdiv 2=(((x.toNat+y.toNat) / 2:Nat):Int) from rfl,aA om om,Oy]
theorem P4 (tag:Int)(above row:List UInt8)(va e:aq)(i colors:Int)(w:ao)(hi:0<=i∧i<=1000000)(p:1<=colors∧colors<=1000000)(k:Sl w va 1 above.length (aP above))(l:Sl w e 1 row.length (aP row)) :
  Ret ah 263 #[rwV va e colors,.int .i64 tag,.int .i64 i] w (λr w'=>r=.int .u8 ((ec tag above row i colors).toNat:Int)∧Below w.heap.size w w'):=by
 refine aZ λK a=>yM ?_;unfold qF nz;unfold ec at a;have m:=lJ k;have n:=lJ l;have o:∀W:ao,(mBox 246 (rwV va e colors)).run ah W=.ok (.value (.pointer (ax ⟨W.heap.size,0,aw⟩))) (W.alloc (.cells (rwC va e colors).toArray 246)):=λW=>by
  cases va<;>first|(cases m;done)|skip
  all_goals cases e<;>first|(cases n;done)|kernel_rfl
 refine bA (λb=>.pointer (ax ⟨b,0,aw⟩)) (rwC va e colors) 246 o (Own.start w) λb q f=>?_;refine dW (λW=>OwnS NoB w W [rwE b va e colors]) f.drew ?_;refine q_do _ (λ_=>bE vQ) (q_at _ (λW h=>wO (h.at_ 0 rfl)) (q_do _ (λ_=>bE YE) (q_at _ (λW h=>UC (h.at_ 0 rfl)) (q_do _ (λ_=>sR) ?_))));rw[aA om om];refine mG _ (λW h=>(Nk row e (i - colors) W (OwnS.UG h l)).mono λv w' ⟨c,d⟩=>⟨c,d▸h⟩) ?_;refine q_do _ (λ_=>bE P6) (q_at _ (λW h=>Ta (h.at_ 0 rfl)) ?_);refine mG _ (λW h=>(Nk above va i W (OwnS.UG h k)).mono λv w' ⟨c,d⟩=>⟨c,d▸h⟩) ?_;refine q_do _ (λ_=>bE P6) (q_at _ (λW h=>Ta (h.at_ 0 rfl)) ?_);refine q_do _ (λ_=>bE YE) (q_at _ (λW h=>UC (h.at_ 0 rfl)) (q_do _ (λ_=>sR) ?_));rw[aA om om];refine mG _ (λW h=>(Nk above va (i - colors) W (OwnS.UG h k)).mono λv w' ⟨c,d⟩=>⟨c,d▸h⟩) ?_;intro w2 f;generalize gf row (i - colors)=x at a ⊢;generalize gf above i=y at a ⊢;generalize gf above (i - colors)=z at a ⊢;have s:=aqE x;have t:=aqE y;simp only[rs];by_cases c:tag=1
 ·simp only[c,amD,i_t];rw[amB c] at a;exact a _ _ ⟨rfl,f.done⟩
 simp only[c,amF,i_f];rw[amA c] at a
 try simp only[rs]
 by_cases d:tag=2
 ·simp only[d,amD,i_t];rw[amB d] at a;exact a _ _ ⟨rfl,f.done⟩
 simp only[d,amF,i_f];rw[amA d] at a
 try simp only[rs]
 by_cases g:tag=3
 ·simp only[g,amD,i_t];rw[amB g] at a;rw[u8ix,u8ix];simp only[rs];rw[aA om om,RH dc];refine aD (eC krx aoK) |>.mpr ?_;rw[show (x.toNat:Int)+(y.toNat:Int)=((x.toNat+y.toNat:Nat):Int) by omega,alC];exact a _ _ ⟨rfl,f.done⟩
 simp only[g,amF,i_f];rw[amA g] at a
 try simp only[rs]
 by_cases j:tag=4
 ·simp only[j,amD,i_t];rw[amB j] at a;refine c_eq (RQ x y z w2) ?_;exact a _ _ ⟨rfl,f.done⟩
 simp only[j,amF,i_f];rw[amA j] at a;exact a _ _ ⟨rfl,f.done⟩
end
section
open Eng Go.RowKit
def dv (tag:Int)(above:List UInt8)(colors:Int):List UInt8->List UInt8->List UInt8
|acc,[]=>acc
|acc,c::r=>dv tag above colors (acc++[c+ec tag above acc (acc.length:Int) colors]) r
theorem pz (tag:Int)(above:List UInt8)(colors:Int):∀(r acc:List UInt8),(dv tag above colors acc r).length=acc.length+r.length
|[],acc=>rfl
|c::r,acc=>by rw[dv,pz tag above colors r,amC,aoI,amW];omega
theorem xp {p r:List UInt8}{i:Int}(h:i < (p.length:Int)):gf (p++r) i=gf p i:=by
 unfold gf;by_cases a:i < 0
 ·rw[amB (.inl a),amB (.inl a)]
 ·rw[amA (by rw[amC];omega),amA om,amI,aoL om,amI]
theorem ry {tag:Int}{p r:List UInt8}(a:1<=colors):ec tag above (p++r) (p.length:Int) colors=ec tag above p (p.length:Int) colors:=by
 unfold ec;rw[xp om]
def jz (c:Int)(n h:Nat):Nat->List UInt8->List UInt8->List UInt8->List UInt8×Int
|0,_,_,_=>([],13)
|f+1,s,prev,out=>
  if s.length=0 then (out,0)
  else if 5<=(if h=1 then (s.getD 0 0).toNat else 1) then ([],3)
  else
   let row:=dv ((if h=1 then (s.getD 0 0).toNat else 1:Nat):Int) prev c [] ((s.drop h).take n)
   jz c n h f (s.drop (n+h)) row (out++row)
def Pm.head (x:Pm):Nat:=if 10<=x.p then 1 else 0
def ft (x:Pm)(s:List UInt8):List UInt8×Int:=
 if ¬x.ok then ([],1)
 else if 1048576 < s.length then ([],5)
 else if x.p=1 then (s,0)
 else if s.length % ((x.c*x.n).toNat+x.head)≠0 then ([],16)
 else jz x.c (x.c*x.n).toNat x.head (s.length+1) s [] []
theorem agH {a b:UInt8}:IntKind.u8.wrap ((a.toNat:Int)+(b.toNat:Int))=((a+b).toNat:Int):=by
 rw[show (a.toNat:Int)+(b.toNat:Int)=((a.toNat+b.toNat:Nat):Int) by omega,Oy]
 congr 1
def yE:aq->Nat|.string s=>s.size|_=>0
theorem sA (l:List UInt8):yE (.string ⟨l.toArray⟩)=l.length:=dL l
def BRd (e:Ent)(v:aq)(l:List UInt8):Prop:=∀W,e.is W->Sl W v 1 l.length (aP l)
theorem TH {b cap:Nat}{l:List UInt8}:BRd (.mkr 5 b l) (.slice (ax ⟨b,0,aw⟩) l.length cap) l:=λW h=>Vb h
section
variable {w:ao}{PK:PKT}{K:VWP}{S:Nat->Prop}{w0:ao}{L:List Ent}
theorem acR {tag:Nat}{b2:Nat}{src:List UInt8}(i j:Nat)(t:i≠j)(a:OwnS S w0 w L)(hi:L[i]?=ax e)(y:L[j]?=ax (.mkr 5 b2 src))(z:BRd e va above)(A:1<=colors∧colors<=1000000)(O:src.length<=1000000)
  (k:∀W,OwnS S w0 W (L.set j (.mkr 5 b2 (dv (tag:Int) above colors [] src)))->K (.tuple #[]) W) :
  CallX ah 240 #[rwV va (.slice (ax ⟨b2,0,aw⟩) src.length cap) colors,.int .i64 (tag:Int)] w PK K:=by
 have u:j < L.length:=(amS.1 y).1;have d:∀l,(L.set j (.mkr 5 b2 l))[j]?=ax (.mkr 5 b2 l):=λl=>by rw[apN u]
 generalize c:dv (tag:Int) above colors [] src=R at k;refine⟨wF ?_⟩;unfold oY nz;have B:va.oneCell'=true:=lJ (z w (a.at_ i hi));have C:∀W:ao,(mBox 246 (rwV va (.slice (ax ⟨b2,0,aw⟩) src.length cap) colors)).run ah W=.ok (.value (.pointer (ax ⟨W.heap.size,0,aw⟩))) (W.alloc (.cells (rwC va (.slice (ax ⟨b2,0,aw⟩) src.length cap) colors).toArray 246)):=λW=>by
  cases va<;>first|(cases B;done)|kernel_rfl
 refine bA (λb=>.pointer (ax ⟨b,0,aw⟩)) (rwC va (.slice (ax ⟨b2,0,aw⟩) src.length cap) colors) 246 C a λb D a=>?_;refine aD (bE vQ) |>.mpr (aD (wO (a.at_ 0 rfl)) |>.mpr ?_);have f:∀{W:ao} {l:List UInt8},OwnS S w0 W (rwE b va (.slice (ax ⟨b2,0,aw⟩) src.length cap) colors::L.set j (.mkr 5 b2 l))->l.length=src.length->Sl W (.slice (ax ⟨b2,0,aw⟩) src.length cap) 1 l.length (aP l):=λa E=>by
  have:=Vb (cap:=cap) (a.at_ (j+1) (d _));rw[E] at this ⊢;exact this
 have a:OwnS S w0 D (rwE b va (.slice (ax ⟨b2,0,aw⟩) src.length cap) colors::L.set j (.mkr 5 b2 ([]++src.drop 0))):=by
  rw[anV,aoT,uH y];exact a
 rw[bD anD (f a sm)];have F:([]++src.drop 0:List UInt8).length=src.length:=sm
 rw[F];refine loop (λvs W=>∃p:List UInt8,vs=[.int .i64 (p.length:Int)]∧p.length<=src.length∧dv (tag:Int) above colors p (src.drop p.length)=R∧OwnS S w0 W (rwE b va (.slice (ax ⟨b2,0,aw⟩) src.length cap) colors::L.set j (.mkr 5 b2 (p++src.drop p.length)))) (λvs _=>src.length - n0 vs) ⟨[],rfl,sm,c,a⟩ ?_;clear a c;rintro vs w2 ⟨p,rfl,hp,c,a⟩ _;simp only[mQ,gd,rs,nz];by_cases g:(p.length:Int) < (src.length:Int)
 ·simp only[g,amD,i_t];have m:p.length < src.length:=om
  have G:src.drop p.length=src[p.length]::src.drop (p.length+1):=anX m;rw[G] at c a;rw[dv] at c;have o:(p++src[p.length]::src.drop (p.length+1)).length=src.length:=by rw[amC,amW,amQ];omega
  have x:(p++src[p.length]::src.drop (p.length+1))[p.length]?=ax src[p.length]:=by rw[aoQ (amJ _),apD];rfl
  have q:∀W:ao,(mIA 53 (.slice (ax ⟨b2,0,aw⟩) src.length cap) (.int .i64 (p.length:Int))).run ah W=.ok (.value (.pointer (ax ⟨b2,p.length,aw⟩))) W:=λW=>by
   have:=dX (P:=ah) (T:=53) (b:=b2) (off:=0) (cap:=cap) (n:=src.length) (k:=.i64) (i:=(p.length:Int)) (w:=W) anD (show (Tryz.prog.info? 5).map (·.size)=ax 1 by kernel_rfl) om om
   rwa [amK,anC,amO] at this
  refine dW (λW=>OwnS S w0 W (rwE b va (.slice (ax ⟨b2,0,aw⟩) src.length cap) colors::L.set j (.mkr 5 b2 (p++src[p.length]::src.drop (p.length+1))))) a.drew ?_;refine q_do _ (λ_=>bE vQ) (q_at _ (λW h=>wO (h.at_ 0 rfl)) (q_do _ q ?_));refine q_at (.int .u8 (src[p.length].toNat:Int)) (λW h=>aB nU8l (Nt (h.at_ (j+1) (d _)) (by unfold aP;rw[aqL,x];rfl))) ?_;refine q_at (rwV va (.slice (ax ⟨b2,0,aw⟩) src.length cap) colors) (λW h=>aW (h.agg 0 rfl ME)) ?_;refine mG (.int .u8 ((ec (tag:Int) above p (p.length:Int) colors).toNat:Int)) (λW h=>?_) ?_
  ·have r:=f h o;have:=P4 (tag:Int) above (p++src[p.length]::src.drop (p.length+1)) va (.slice (ax ⟨b2,0,aw⟩) src.length cap) (p.length:Int) colors W om A (z W (h.at_ (i+1) (show (L.set j (.mkr 5 b2 _))[i]?=ax e by rw[arJ (λh=>t h.symm)];exact hi))) r;rw[ry A.1] at this;exact this.mono λv w' ⟨H,I⟩=>⟨H,h.grow I⟩
  refine pJ ?_;rw[agH];refine q_do _ q ?_;intro w3 a;refine T9 (j+1) (l:=p++src[p.length]::src.drop (p.length+1)) a (d _) krx (by rw[o];exact m) λJ a=>?_
  try simp only[rs]
  rw[aA om om];have s:(p++[src[p.length]+ec (tag:Int) above p (p.length:Int) colors]).length=p.length+1:=sm
  refine aY ⟨p++[src[p.length]+ec (tag:Int) above p (p.length:Int) colors],by rw[s];rfl,by rw[s];omega,by rw[s];exact c,?_⟩ (by simp[n0,RowKit.intOf];omega);rw[s];have M:(p++src[p.length]::src.drop (p.length+1)).set p.length (src[p.length]+ec (tag:Int) above p (p.length:Int) colors)=p++[src[p.length]+ec (tag:Int) above p (p.length:Int) colors]++src.drop (p.length+1):=by
   rw[arA _ _ (amJ _),apD,aoX];simp
  rw[<-M];have a:OwnS S w0 J (rwE b va (.slice (ax ⟨b2,0,aw⟩) src.length cap) colors::(L.set j (.mkr 5 b2 (p++src[p.length]::src.drop (p.length+1)))).set j (.mkr 5 b2 ((p++src[p.length]::src.drop (p.length+1)).set p.length (src[p.length]+ec (tag:Int) above p (p.length:Int) colors)))):=a;rw[arI] at a;exact a
 ·simp only[g,amF,i_f];have N:p.length=src.length:=om
  rw[aoF om] at c a;rw[amY] at a;have c:p=R:=c;subst c;exact k w2 a.tail
end
theorem HW (x:Pm)(s:List UInt8)(r:Nat)(w:ao)(i:1<=r)(j:s.length<=1000000000):Ret ah 232 #[pmV x,.string ⟨s.toArray⟩,.int .i64 (r:Int)] w (λv w'=>v=.int .i64 (if ¬x.ok then 1 else if 1048576 < s.length then 5 else if x.p≠1∧s.length % r≠0 then 16 else 0)∧Below w.heap.size w w'):=by
 refine aZ λK a=>Bx ?_;unfold vL nz;refine IW x (Own.start w) λb g c=>?_;rw[pm_v c 0 rfl];refine aL c (Lm x g) ?_;rintro _ w2 rfl c
 try simp only[rs]
 by_cases h:x.ok
 case neg=>
  rw[amB h] at a;simp only[h,amF,aoD,i_t];exact a _ _ ⟨rfl,c.done⟩
 rw[amA (by simp[h])] at a;simp only[h,amD,aoB,i_f];rw[gM amP]
 try simp only[rs]
 by_cases e:1048576 < s.length
 ·rw[amB e] at a;simp only[show ai ((1048576:Int) < (s.length:Int))=av from amG om,i_t];exact a _ _ ⟨rfl,c.done⟩
 rw[amA e] at a;simp only[show ai ((1048576:Int) < (s.length:Int))=au from amE om,i_f];rw[fpm0,pm_0 c 0 rfl]
 try simp only[rs]
 by_cases d:x.p=1
 ·rw[amA (by simp[d])] at a;simp only[d,ne_eq,not_true,amF,rs,g_un];exact a _ _ ⟨rfl,c.done⟩
 simp only[d,ne_eq,aqD,amD,rs];rw[gM amP]
 try simp only[rs]
 rw[KX om,ajS]
 try simp only[rs]
 by_cases f:s.length % r=0
 ·rw[amA (by simp[f])] at a;simp only[show ai (((s.length % r:Nat):Int)≠0)=au from amE om,i_f,rs];exact a _ _ ⟨rfl,c.done⟩
 ·rw[amB ⟨d,f⟩] at a;simp only[show ai (((s.length % r:Nat):Int)≠0)=av from amG om,i_t,rs];exact a _ _ ⟨rfl,c.done⟩
theorem NQ (x:Pm)(s:List UInt8)(w:ao)(T:s.length<=1000000000):Ret ah 193 #[pmV x,.string ⟨s.toArray⟩] w (λv w'=>v=zlT (ft x s)∧Below w.heap.size w w'):=by
 refine aZ λK o=>BP ?_;generalize g:ft x s=X at o;unfold ft at g;unfold vK nz;refine IW x (Own.start w) λb U d=>?_;rw[pm_v d 0 rfl];refine aL d (PO x U) ?_;rintro _ w2 rfl d;rw[wN];refine join λJ V=>?_;rw[fpm0,pm_0 d 0 rfl]
 try simp only[rs]
 have main:J [.int .i64 (x.head:Int)] w2:=by
  refine V _ _ λ_=>?_;simp only[qH,gd,nz];rw[pm_v d 0 rfl];have y:x.head<=1:=by unfold Pm.head;split<;>omega
  obtain⟨n,P,Y,Z⟩:∃n:Nat,max (if x.ok then x.c*x.n else 0) 1=(n:Int)∧1<=n∧n<=8192:=by
   by_cases h:x.ok
   ·rw[amB h];have h1:=Pm.mul_pos h;have H:=h.2.2.2.2;exact⟨(x.c*x.n).toNat,om,om,om⟩
   ·rw[amA h];exact⟨1,dc,dc,dc⟩
  rw[P]
  try simp only[rs]
  rw[aA om om,show (n:Int)+(x.head:Int)=((n+x.head:Nat):Int) by omega];refine aL d (HW x s (n+x.head) w2 om T) ?_;rintro _ w3 rfl d;simp only[eN];by_cases h:x.ok
  case neg=>
   rw[amB h] at g ⊢;simp only[show ai ((1:Int)≠0)=av from rfl,i_t];exact o _ _ ⟨by rw[<-g];rfl,d.done⟩
  rw[amA (by simp[h])] at g ⊢;have I:(x.c*x.n).toNat=n:=by
   rw[amB h] at P;have h1:=Pm.mul_pos h;omega
  rw[I] at g;by_cases H:1048576 < s.length
  ·rw[amB H] at g ⊢;simp only[show ai ((5:Int)≠0)=av from rfl,i_t];exact o _ _ ⟨by rw[<-g];rfl,d.done⟩
  rw[amA H] at g ⊢;by_cases z:x.p=1
  ·rw[amA (by simp[z])];rw[amB z] at g;simp only[show ai ((0:Int)≠0)=au from rfl,i_f];rw[fpm0,pm_0 d 0 rfl];simp only[z,rs,amD,i_t];exact o _ _ ⟨by rw[<-g];rfl,d.done⟩
  rw[amA z] at g;by_cases A:s.length % (n+x.head)=0
  case neg=>
   rw[amB ⟨z,A⟩];rw[amB A] at g;simp only[show ai ((16:Int)≠0)=av from rfl,i_t];exact o _ _ ⟨by rw[<-g];rfl,d.done⟩
  rw[amA (by simp[A])];rw[amA (by simp[A])] at g;simp only[show ai ((0:Int)≠0)=au from rfl,i_f];rw[fpm0,pm_0 d 0 rfl];simp only[z,rs,amF,i_f];rw[fpm1,pm_1 d 0 rfl];have Q:1<=x.c∧x.c<=1000000:=⟨h.2.1,by have:=h.2.2.2.1;omega⟩;have e:∀W:ao,(aS 246 #[(2,.int .i64 x.c)]).run ah W=.ok (.value (rwV nilS nilS x.c)) W:=λW=>by kernel_rfl
  refine aD (e w3) |>.mpr ?_;refine bA (λb=>.pointer (ax ⟨b,0,aw⟩)) (rwC nilS nilS 0) 246 (λ_=>by kernel_rfl) d λq w4 d=>?_;refine gX 0 d rfl (new:=rwC nilS nilS x.c) szRw (Vp rfl rfl) rfl λw5 d=>?_;generalize x.head=i at g y A ⊢;generalize x.c=co at g Q d ⊢;have d:=(d.nilU 5 1).nilU 5 1;have d:=d.sub (L':=[.urow 5 1 nilS 0 [],.urow 5 1 nilS 0 [],rwE q nilS nilS co]) (.cons_cons _ (.cons_cons _ (.cons_cons _ (List.nil_sublist _))));refine loop (λvs W=>∃(t prev out:List UInt8) (ov va j:aq) (e:Ent),vs=[.string ⟨t.toArray⟩,ov]∧t.length<=s.length∧t.length % (n+i)=0∧out.length+t.length<=s.length∧prev.length<=1000000∧BRd e j prev∧va.oneCell'=av∧(∃f,t.length < f∧jz co n i f t prev out=X)∧OwnS NoB w W [outR ov out,e,rwE q va j co]) (λvs _=>yE (vs.getD 0 undef)) ⟨s,[],[],nilS,nilS,nilS,_,rfl,om,A,sm,sm,λW h=>Sl.urow h,rfl,⟨_,om,g⟩,d⟩ ?_;clear d g;rintro vs L ⟨t,prev,out,ov,va,j,e,rfl,a1,M,a6,a7,B,a8,⟨f,hf,g⟩,d⟩ _;simp only[qL,gd,nz];obtain⟨f,rfl⟩:∃f',f=f'+1:=⟨f - 1,om⟩;rw[jz] at g;dsimp only at g;rw[gM amP]
  try simp only[rs]
  by_cases R:t.length=0
  ·rw[amB R] at g;simp only[show ai ((0:Int) < (t.length:Int))=au from amE om,i_f];rw[KA anD aoK amP (yO (d.at_ 0 rfl))];exact o _ _ ⟨by rw[<-g];rfl,d.done⟩
  rw[amA R] at g;simp only[show ai ((0:Int) < (t.length:Int))=av from amG om,i_t];have N:n+i<=t.length:=Nat.le_of_dvd om (Nat.dvd_of_mod_eq_zero M);refine join λJ3 O=>?_;have r:j.oneCell'=true:=lJ (B L (d.at_ 1 rfl));have next:∀tag:Nat,(tag=if i=1 then (t.getD 0 0).toNat else 1)->J3 [.int .i64 (tag:Int)] L:=by
   intro tag C;rw[<-C] at g;refine O _ _ λ_=>?_;simp only[pT,gd,rs,iN,bnx];by_cases S:5<=tag
   ·rw[amB S] at g;simp only[show ai ((5:Int)<=(tag:Int))=av from amG om,i_t];exact o _ _ ⟨by rw[<-g];rfl,d.done⟩
   rw[amA S] at g;simp only[show ai ((5:Int)<=(tag:Int))=au from amE om,i_f];have u:((t.drop i).take n).length=n:=by rw[amL,amQ];omega
   have k:(dv (tag:Int) prev co [] ((t.drop i).take n)).length=n:=by rw[pz,u];simp
   have fin:∀b cap W,OwnS NoB w W [.mkr 5 b ((t.drop i).take n),outR ov out,e,rwE q j (.slice (ax ⟨b,0,aw⟩) ((t.drop i).take n).length cap) co]->fU (.string ⟨t.toArray⟩) (.int .i64 (n:Int)) (.int .i64 (i:Int)) ov (.pointer (ax ⟨q,0,aw⟩)) (.int .i64 (tag:Int)) W (Rb (λvs W=>∃(t prev out:List UInt8) (ov va j:aq) (e:Ent),vs=[.string ⟨t.toArray⟩,ov]∧t.length<=s.length∧t.length % (n+i)=0∧out.length+t.length<=s.length∧prev.length<=1000000∧BRd e j prev∧va.oneCell'=av∧(∃f,t.length < f∧jz co n i f t prev out=X)∧OwnS NoB w W [outR ov out,e,rwE q va j co]) (λvs _=>yE (vs.getD 0 undef)) [.string ⟨t.toArray⟩,ov] L) K:=by
    intro b cap W d;unfold fU ldx bnx fax slx apx cx;rw[l_at (d.agg 3 rfl ME)];refine acR 2 0 dc d rfl rfl B Q om λW2 d=>?_;refine aD (bE vQ) |>.mpr (aD (wO (d.at_ 3 rfl)) |>.mpr ?_);have m:=Vb (cap:=cap) (d.at_ 0 rfl);rw[k] at m;rw[u];refine bR 1 anD elU8 dc d rfl m eW om om λv' D d=>?_
    try simp only[rs]
    rw[aA om om,Qa amP om om,show ((n:Int)+(i:Int)).toNat=n+i by omega];have E:BRd (.mkr 5 b (dv (tag:Int) prev co [] ((t.drop i).take n))) (.slice (ax ⟨b,0,aw⟩) n cap) (dv (tag:Int) prev co [] ((t.drop i).take n)):=by
     have:=@TH b cap (dv (tag:Int) prev co [] ((t.drop i).take n))
     rwa [k] at this
    have d:OwnS NoB w D [.mkr 5 b (dv (tag:Int) prev co [] ((t.drop i).take n)),outR v' (out++dv (tag:Int) prev co [] ((t.drop i).take n)),e,rwE q j (.slice (ax ⟨b,0,aw⟩) n cap) co]:=by
     rw[qM,k];rw[u] at d;exact d
    have F:(t.drop (n+i)).length=t.length - (n+i):=amQ;refine aY ⟨t.drop (n+i),_,_,v',j,_,_,rfl,om,?_,by rw[amC,k];omega,by rw[k];omega,E,r,⟨f,om,g⟩,?_⟩ ?_
    ·rw[F,Nat.mod_eq_sub_mod N] at *;omega
    ·exact (OwnS.swap d).sub (.cons_cons _ (.cons_cons _ (.cons _ (arK _))))
    ·show yE (.string ⟨(t.drop (n+i)).toArray⟩) < yE (.string ⟨t.toArray⟩);rw[sA,sA,F];omega
   have d:=d.drew;refine⟨λW=>∃a,(rwE q a j co).is W,⟨va,d.at_ 2 rfl⟩,?_⟩;refine aR _ (λ_=>bE vQ) (jH _ (λW ⟨a,h⟩=>wO h) ?_);refine aR _ (λ_=>Iy) ?_;rw[aA om om];refine aR _ (λ_=>pE amP om om om) ?_;rw[show ((n:Int)+(i:Int)).toNat - ((i:Nat):Int).toNat=n by omega,amK];refine aR _ (λ_=>bE P6) ⟨?_,?_⟩
   ·refine KO amP anD aoK d λb cap w7 d=>⟨⟨va,d.at_ 3 rfl⟩,?_⟩;refine aK 3 d rfl krx r (by show 0+0 < 3;omega) λw8 d=>?_;refine aR _ (λ_=>bE vQ) ?_;refine aK 3 d rfl krx rfl (by show 0+1 < 3;omega) λD d=>?_;exact fin b cap D d
   ·refine aK 2 d rfl krx r (by show 0+0 < 3;omega) λw8 d=>?_;refine KO amP anD aoK d λb cap w7 d=>⟨⟨j,d.at_ 3 rfl⟩,?_⟩;refine aR _ (λ_=>bE vQ) ?_;refine aK 3 d rfl krx rfl (by show 0+1 < 3;omega) λD d=>?_;exact fin b cap D d
  try simp only[rs]
  by_cases G:i=1
  ·simp only[show ai ((i:Int)=1)=av from amG om,i_t];rw[s_ix (c:=t.getD 0 0) amP dc (get0 om),u8ix];exact next _ (by rw[amB G])
  ·simp only[show ai ((i:Int)=1)=au from amE om,i_f];exact next 1 (by rw[amA G])
 have y:x.head=if 10<=x.p then 1 else 0:=rfl
 by_cases l:10<=x.p
 ·simp only[l,amD,i_t];rw[amB l] at y;rw[y] at main;exact main
 ·simp only[l,amF,i_f];rw[amA l] at y;rw[y] at main;exact main
end
end Go.Proofs.YtlipjfcbjemicaaGreatDoor



namespace Go.Proofs.YtlipjfcbjemicaaGreatDoor
variable{A S:Nat->Prop}{D:TypeId}{K:VWP}{L:List Eng.Ent}{M:Eng.Mem}{PK:PKT}{R:Ending->FrameMode->ao->Prop}{W w w0:ao}{a colors way:Int}{above key:List UInt8}{b cap fb i most p rb sz:Nat}{cs:List aq}{e:Eng.Ent}{o:Ob}{os:List Ob}{q:Bool}{t0 v va vc vk:aq}{u:FrameMode}{t0 t1 t2 t3:aq}{k0:Eng.KT}
section
open Eng Go.RowKit
def iw (most:Nat):List UInt8->Int->List UInt8->List UInt8×Int
|[],_,_=>([],4)
|c::r,half,out=>
  if Oc.HA c=av then iw most r half out
  else if c=62 then (if half < 0 then (out,0) else if most<=out.length then ([],5) else (out++[UInt8.ofNat (16*half.toNat)],0))
  else if Lx.digit c < 0 then ([],3)
  else if half < 0 then iw most r (Lx.digit c) out
  else if most<=out.length then ([],5)
  else iw most r (-1) (out++[UInt8.ofNat (16*half+Lx.digit c).toNat])
def ki (D:Nat->List UInt8×Int)(most:Int):List UInt8×Int:=if most < 0 then ([],1) else D (min most.toNat 1048576)
def od (s:List UInt8)(most:Int):List UInt8×Int:=ki (λm=>iw m s (-1) []) most
section
variable {w:ao}{PK:PKT}{K:VWP}{S:Nat->Prop}{w0:ao}{L T:List Ent}
end
end
end Go.Proofs.YtlipjfcbjemicaaGreatDoor

namespace Go.Proofs.YtlipjfcbjemicaaGreatDoor
variable{A S:Nat->Prop}{D:TypeId}{K:VWP}{L:List Eng.Ent}{M:Eng.Mem}{PK:PKT}{R:Ending->FrameMode->ao->Prop}{W w w0:ao}{a colors way:Int}{above key:List UInt8}{b cap fb i most p rb sz:Nat}{cs:List aq}{e:Eng.Ent}{o:Ob}{os:List Ob}{q:Bool}{t0 v va vc vk:aq}{u:FrameMode}{t0 t1 t2 t3:aq}{k0:Eng.KT}
section
open Eng Go.RowKit
def ix (most:Nat):Nat->List UInt8->List UInt8->List UInt8×Int
|0,_,_=>([],13)
|f+1,s,out=>
  match s with
 |[]=>([],4)
 |c::r=>
   if c.toNat=128 then (out,0)
   else if c.toNat < 128 then
    if r.length < c.toNat+1 then ([],4)
    else if most < out.length+(c.toNat+1) then ([],5)
    else ix most f (r.drop (c.toNat+1)) (out++r.take (c.toNat+1))
   else if r.length < 1 then ([],4)
   else if most < out.length+(257 - c.toNat) then ([],5)
   else ix most f (r.drop 1) (out++Lib.repeatL (r.take 1) (257 - c.toNat))
def qt (s:List UInt8)(most:Int):List UInt8×Int:=ki (λm=>ix m (s.length+1) s []) most
end
section
open Eng Go.RowKit
section
variable {w:ao}{PK:PKT}{K:VWP}{S:Nat->Prop}{w0:ao}{L T:List Ent}
theorem acL (c:UInt8){ov:aq}{out:List UInt8}(a:OwnS S w0 w (outR ov out::T))(e:out.length<=1000000000)(k:∀b W,OwnS S w0 W (outR b (out++[c])::T)->K b W) :
  DoX ah (bN 53 1 #[(0,.int .u8 (c.toNat:Int))]) w PK λt w=>DoX ah (mB .append #[53,53] 53 #[au,au] #[ov,t]) w PK K:=by
 refine TO _ a λf w2 a=>?_;refine bR 1 anD elU8 dc a rfl (pA (a.at_ 0 rfl) dc rfl) eW om om λv' d a=>k v' d ?_;rw[qM];exact a.tail
end
end
section
open Eng Go.RowKit
def rz:List Nat:=[52200625,614125,7225,85,1]
def lu (g:List UInt8)(i:Nat):Nat:=(g.getD i 84).toNat
def dq (g:List UInt8):Nat:=(((lu g 0*85+lu g 1)*85+lu g 2)*85+lu g 3)*85+lu g 4
theorem lt5 (h:i < 5):i=0∨i=1∨i=2∨i=3∨i=4:=om
def mn (a:Nat)(r g out:List UInt8):List UInt8×Int:=
 if r=[] then ([],4)
 else if r.getD 0 0≠62∨g.length=1 then ([],3)
 else if g.length=0 then (out,0)
 else if 4294967296<=dq g then ([],3)
 else if a < out.length+(g.length - 1) then ([],5)
 else (out++(bz (dq g)).take (g.length - 1),0)
def fc (a:Nat):List UInt8->List UInt8->List UInt8->List UInt8×Int
|[],_,_=>([],4)
|c::r,g,out=>
  if Oc.HA c=av then fc a r g out
  else if c.toNat=122∧g.length=0 then (if a < out.length+4 then ([],5) else fc a r [] (out++[0,0,0,0]))
  else if 33<=c.toNat∧c.toNat<=117 then
   if g.length+1 < 5 then fc a r (g++[c - 33]) out
   else if 4294967296<=dq (g++[c - 33]) then ([],3)
   else if a < out.length+4 then ([],5)
   else fc a r [] (out++bz (dq (g++[c - 33])))
  else if c.toNat=126 then mn a r g out
  else ([],3)
def sd (s:List UInt8)(most:Int):List UInt8×Int:=ki (λm=>fc m s [] []) most
def Pws (M:Mem):Prop:=M.A 0∧∀i,i < 5->M.w.cell? ⟨0,i,aw⟩=ax (.int .u64 ((rz.getD i 0:Nat):Int))
theorem Pws.le {M N:Mem}(h:M.le N)(k:Pws M):Pws N:=⟨h.A _ k.1,λi hi=>Mem.cell h.has k.1 (k.2 i hi)⟩
section
variable {w:ao}{PK:PKT}{K:VWP}{S:Nat->Prop}{w0:ao}{L T:List Ent}
end
section
variable {w:ao}{PK:PKT}{K:VWP}{S:Nat->Prop}{w0:ao}{T:List Ent}
end
end
section
open Eng Go.RowKit
def zi (g:List UInt8):Nat->Nat
|0=>0
|i+1=>zi g i*85+lu g i
section
variable {w:ao}{PK:PKT}{K:VWP}{S:Nat->Prop}{w0:ao}{L T:List Ent}
end
end
section
open Eng
def uD(t0 t1 w)(K:KT):=nz f78 1 [] [] [] (zg [0,1] [t0,t1]) w K
theorem vT:uD t0 t1 w k0->Calls ah 78 #[t0,t1] w k0:=cw func78
def rZ(t6 t25 t26 t27 w)(a:JT)(K:KT):=nz f79 351 [a] [nh 19 [6,27]] [] (zg [6,25,26,27] [t6,t25,t26,t27]) w K
def rP(t5 w)(K:KT):=nz f79 31 [] [(19,[6,27],λs v j w f=>rZ (vg v 0) (s 25) (s 26) (vg v 1) w (f 0) K)] [] (zg [5] [t5]) w K
def xW(t0 w)(K:KT):=nz f79 1 [] [(14,[5],λs v j w f=>rP (vg v 0) w K)] [] (zg [0] [t0]) w K
theorem Dp:xW t0 w k0->Calls ah 79 #[t0] w k0:=cz [(7,[5])] [(9,[6,27])] func79
def vU(t1 t8 w)(a:JT)(K:KT):=nz f81 639 [a] [nh 41 [8]] [] (zg [1,8] [t1,t8]) w K
def vC(t1 t8 t47 t48 t49 w)(a:JT)(K:KT):=nz f81 703 [a] [nh 33 [49],(41,[8],λs v j w f=>vU (s 1) (vg v 0) w (f 0) K)] [] (zg [1,8,47,48,49] [t1,t8,t47,t48,t49]) w K
def vW(t1 t5 t8 t30 t31 t32 w)(a:JT)(K:KT):=nz f81 175 [a] [nh 21 [8,32],(33,[49],λs v j w f=>vC (s 1) (s 8) (s 47) (s 48) (vg v 0) w (f 0) K)] [] (zg [1,5,8,30,31,32] [t1,t5,t8,t30,t31,t32]) w K
def vO(t1 t5 w)(K:KT):=nz f81 15 [] [(21,[8,32],λs v j w f=>vW (s 1) (s 5) (vg v 0) (s 30) (s 31) (vg v 1) w (f 0) K)] [] (zg [1,5] [t1,t5]) w K
def AQ(t0 t1 w)(K:KT):=nz f81 1 [] [(16,[5],λs v j w f=>vO (s 1) (vg v 0) w K)] [] (zg [0,1] [t0,t1]) w K
theorem Er:AQ t0 t1 w k0->Calls ah 81 #[t0,t1] w k0:=cz [(8,[5])] [(10,[8,32]),(16,[49]),(20,[8])] func81
def aC (a:Deferred)(b:aq)(c:aq)(d:aq)(K:Ending->ao->Prop):=pd ah [.cell b 22,.cell c 40,.cell d 30] K [a]
def jV(a b c d1 w)(K:KT):=
 BN ah [.cell a 22,.cell b 40,.cell c 30] K [d1] .returning w
def Dg(b a c h i d d1 w)(y:JT)(K:KT):=
 DoX ah (mBin .lss 3 d i) w (aC d1 b a c K) λj w=>IfX j (DoX ah (mIA 22 h d) w (aC d1 b a c K) λk w=>DoX ah (aH 9 k) w (aC d1 b a c K) λl w=>DoX ah (aH 40 a) w (aC d1 b a c K) λm w=>DoX ah (mIA 40 m d) w (aC d1 b a c K) λn w=>DoX ah (aH 27 n) w (aC d1 b a c K) λo w=>CallX ah 82 #[o] w (aC d1 b a c K) λf w=>DoX ah (mEq .neq 30 (.tmp 58) (.const (iN 0)) f (iN 0)) w (aC d1 b a c K) λe w=>etx e l w λp w=>GDo e av (λE=>DoX ah (mEq .neq 9 (.tmp 61) (.const (.string ⟨#[]⟩)) p (.string ⟨#[]⟩)) w (aC d1 b a c K) E) w λq w=>DoX ah (lC e q (.bool au)) w (aC d1 b a c K) λr w=>IfX r (DoX ah (aN 22 b (.slice aw 0 0)) w (aC d1 b a c K) λ_ w=>DoX ah (aN 40 a (.slice aw 0 0)) w (aC d1 b a c K) λ_ w=>DoX ah (aN 30 c f) w (aC d1 b a c K) λ_ w=>BN ah [.cell b 22,.cell a 40,.cell c 30] K [d1] .returning w) (DoX ah (mBin .add 3 d (iN 1)) w (aC d1 b a c K) λs w=>AtX [d1] [d1] (y [s] w))) (DrawX w (λw=>(DoX ah (aH 22 b) w (aC d1 b a c K) λg w=>(DoX ah (aH 40 a) w (aC d1 b a c K) λt w=>DoX ah (aN 22 b g) w (aC d1 b a c K) λ_ w=>DoX ah (aN 40 a t) w (aC d1 b a c K) λ_ w=>DoX ah (aN 30 c (iN 0)) w (aC d1 b a c K) λ_ w=>jV b a c d1 w K)∧(DoX ah (aN 22 b g) w (aC d1 b a c K) λ_ w=>DoX ah (aH 40 a) w (aC d1 b a c K) λu w=>DoX ah (aN 40 a u) w (aC d1 b a c K) λ_ w=>DoX ah (aN 30 c (iN 0)) w (aC d1 b a c K) λ_ w=>jV b a c d1 w K))∧(DoX ah (aH 40 a) w (aC d1 b a c K) λv w=>DoX ah (aH 22 b) w (aC d1 b a c K) λx w=>DoX ah (aN 22 b x) w (aC d1 b a c K) λ_ w=>DoX ah (aN 40 a v) w (aC d1 b a c K) λ_ w=>DoX ah (aN 30 c (iN 0)) w (aC d1 b a c K) λ_ w=>jV b a c d1 w K)))
def B4(g a b c h i j d d1 w)(A:JT)(K:KT):=
 DoX ah (mBin .lss 3 d j) w (aC d1 a b c K) λk w=>IfX k (DoX ah (mIA 22 i d) w (aC d1 a b c K) λl w=>DoX ah (aH 9 l) w (aC d1 a b c K) λm w=>CallX ah 80 #[m] w (aC d1 a b c K) λe w=>DoX ah (mExt e 0) w (aC d1 a b c K) λn w=>DoX ah (mExt e 1) w (aC d1 a b c K) λo w=>CallX ah 78 #[o,(iN 15)] w (aC d1 a b c K) λy w=>DoX ah (aH 22 a) w (aC d1 a b c K) λp w=>DoX ah (bN 22 1 #[(0,n)]) w (aC d1 a b c K) λq w=>DoX ah (mB .append #[22,22] 22 #[au,au] #[p,q]) w (aC d1 a b c K) λr w=>DoX ah (aN 22 a r) w (aC d1 a b c K) λ_ w=>DoX ah (mBin .add 3 d (iN 1)) w (aC d1 a b c K) λs w=>AtX [d1] [d1] (A [s] w)) (DoX ah (aH 25 g) w (aC d1 a b c K) λt w=>DoX ah (mB .len #[22] 3 #[au] #[h]) w (aC d1 a b c K) λu w=>CallX ah 81 #[t,u] w (aC d1 a b c K) λv w=>DoX ah (aN 40 b v) w (aC d1 a b c K) λ_ w=>DoX ah (aH 22 a) w (aC d1 a b c K) λf w=>DoX ah (mB .len #[22] 3 #[au] #[f]) w (aC d1 a b c K) λx w=>LoopX [(iN 0)] w (λz w B=>∀_:Sg,Dg a b c f x (z.getD 0 undef) d1 w B K))
def HP(f w)(K:KT):=
 dx (mBox 25 f) w K λe w=>alx 22 w K λa w=>alx 40 w K λb w=>alx 30 w K λc w=>dx (Nb (.func 77) #[] #[a,b,c]) w K λg w=>DfrX (dfrV g #[]) (λd1=>DoX ah (mFA 25 e 0) w (aC d1 a b c K) λh w=>DoX ah (aH 3 h) w (aC d1 a b c K) λi w=>DoX ah (mEq .eql 3 (.tmp 15) (.const (iN 9)) i (iN 9)) w (aC d1 a b c K) λj w=>CallX ah 78 #[j,(iN 10)] w (aC d1 a b c K) λo w=>DoX ah (aH 25 e) w (aC d1 a b c K) λk w=>CallX ah 79 #[k] w (aC d1 a b c K) λd w=>DoX ah (mB .len #[22] 3 #[au] #[d]) w (aC d1 a b c K) λl w=>DoX ah (mBin .leq 3 l (iN 8)) w (aC d1 a b c K) λm w=>CallX ah 78 #[m,(iN 6)] w (aC d1 a b c K) λp w=>DoX ah (mB .len #[22] 3 #[au] #[d]) w (aC d1 a b c K) λn w=>LoopX [(iN 0)] w (λq w r=>∀_:Sg,B4 e a b c d d n (q.getD 0 undef) d1 w r K))
theorem II:HP t0 w k0->Calls ah 28 #[t0] w k0:=cz [] [(6,[26]),(14,[48])] func28
def sW(t5 t7 t21 t22 t23 w)(N1:JT)(K:KT):=nz f13 175 [N1] [nh 13 [7,23]] [] (zg [5,7,21,22,23] [t5,t7,t21,t22,t23]) w K
def zT(t0 w)(K:KT):=nz f13 1 [] [(13,[7,23],λs v j w f=>sW (s 5) (vg v 0) (s 21) (s 22) (vg v 1) w (f 0) K)] [] (zg [0] [t0]) w K
theorem Ch:zT t0 w k0->Calls ah 13 #[t0] w k0:=cz [] [(6,[7,23])] func13
def zD(a w)(K:KT):=
 K (.returned (.tuple #[a,(.bool av)])) w
def yW(a w)(b:JT):=
 b [a] w
def xY(a w)(b:JT):=
 b [a] w
def wQ(a w)(b:JT):=
 b [a] w
def xM(a w)(b:JT):=
 b [a] w
def Da(a w)(K:KT):=
 JoinX (λj=>JoinX (λp=>JoinX (λq=>JoinX (λr=>JoinX (λs=>eqx .eql 9 (.tmp 4) (.const (.string ⟨#[65,72,120]⟩)) a (.string ⟨#[65,72,120]⟩) w K λb w=>IfX b (s [(.string ⟨#[65,83,67,73,73,72,101,120,68,101,99,111,100,101]⟩)] w) (eqx .eql 9 (.tmp 4) (.const (.string ⟨#[65,83,67,73,73,72,101,120,68,101,99,111,100,101]⟩)) a (.string ⟨#[65,83,67,73,73,72,101,120,68,101,99,111,100,101]⟩) w K λc w=>IfX c (s [a] w) (eqx .eql 9 (.tmp 4) (.const (.string ⟨#[65,56,53]⟩)) a (.string ⟨#[65,56,53]⟩) w K λd w=>IfX d (r [(.string ⟨#[65,83,67,73,73,56,53,68,101,99,111,100,101]⟩)] w) (eqx .eql 9 (.tmp 4) (.const (.string ⟨#[65,83,67,73,73,56,53,68,101,99,111,100,101]⟩)) a (.string ⟨#[65,83,67,73,73,56,53,68,101,99,111,100,101]⟩) w K λe w=>IfX e (r [a] w) (eqx .eql 9 (.tmp 4) (.const (.string ⟨#[82,76]⟩)) a (.string ⟨#[82,76]⟩) w K λf w=>IfX f (q [(.string ⟨#[82,117,110,76,101,110,103,116,104,68,101,99,111,100,101]⟩)] w) (eqx .eql 9 (.tmp 4) (.const (.string ⟨#[82,117,110,76,101,110,103,116,104,68,101,99,111,100,101]⟩)) a (.string ⟨#[82,117,110,76,101,110,103,116,104,68,101,99,111,100,101]⟩) w K λg w=>IfX g (q [a] w) (eqx .eql 9 (.tmp 4) (.const (.string ⟨#[70,108]⟩)) a (.string ⟨#[70,108]⟩) w K λh w=>IfX h (p [(.string ⟨#[70,108,97,116,101,68,101,99,111,100,101]⟩)] w) (eqx .eql 9 (.tmp 4) (.const (.string ⟨#[70,108,97,116,101,68,101,99,111,100,101]⟩)) a (.string ⟨#[70,108,97,116,101,68,101,99,111,100,101]⟩) w K λi w=>IfX i (p [a] w) (K (.returned (.tuple #[(.string ⟨#[]⟩),(.bool au)])) w))))))))) (λk w=>∀_:Sg,xM (k.getD 0 undef) w j)) (λl w=>∀_:Sg,wQ (l.getD 0 undef) w j)) (λm w=>∀_:Sg,xY (m.getD 0 undef) w j)) (λn w=>∀_:Sg,yW (n.getD 0 undef) w j)) (λo w=>∀_:Sg,zD (o.getD 0 undef) w K)
theorem Fh:Da t0 w k0->Calls ah 80 #[t0] w k0:=cz [(15,[0]),(999999,[0])] [] func80
def AU(w)(K:KT):=nz f135 1 [] [] [] (zg [] []) w K
theorem Ef:AU w k0->Calls ah 135 #[] w k0:=cw func135
def yF(t0 t1 w)(K:KT):=nz f208 1 [] [] [] (zg [0,1] [t0,t1]) w K
theorem Ds:yF t0 t1 w k0->Calls ah 208 #[t0,t1] w k0:=cw func208
def ET(c w)(K:KT):=
 dx (mBox 25 c) w K λa w=>alx 27 w K λb w=>fax 25 a 0 w K λd w=>ldx 3 d w K λe w=>ecx .eql 3 4 0 e w K λf w=>IfX f (cx 135 #[] w K λg w=>stx 27 b g w K λ_ w=>RetX ah [.cell b 27] w K) (fax 25 a 0 w K λh w=>ldx 3 h w K λi w=>ecx .eql 3 8 7 i w K λj w=>cx 78 #[j,(iN 10)] w K λr w=>HeldX w (λS1 w=>HDo ah S1 (aH 25 a) λk=>HDo ah S1 (aH 25 a) λl=>HDo ah S1 (aH 25 a) λm=>CallX ah 208 #[k,(.string ⟨#[80,114,101,100,105,99,116,111,114]⟩)] w (ay 4 (pk K)) λn w=>S1 w∧(CallX ah 208 #[l,(.string ⟨#[67,111,108,111,114,115]⟩)] w (ay 4 (pk K)) λo w=>S1 w∧(CallX ah 208 #[m,(.string ⟨#[67,111,108,117,109,110,115]⟩)] w (ay 4 (pk K)) λp w=>S1 w∧(HDo ah (λ_=>True) (aS 27 #[(0,n),(1,o),(2,p)]) λq=>DoX ah (aN 27 b q) w (ay 4 (pk K)) λ_ w=>(RetX ah [.cell b 27] w K))))))
theorem Hk:ET t0 w k0->Calls ah 147 #[t0] w k0:=cw func147
def AB(t0 w)(K:KT):=nz f148 1 [] [] [] (zg [0] [t0]) w K
theorem DZ:AB t0 w k0->Calls ah 148 #[t0] w k0:=cw func148
end
section
open Eng
def B3(t0 t1 t2 w)(K:KT):=nz f15 1 [] [] [] (zg [0,1,2] [t0,t1,t2]) w K
theorem FF:B3 t0 t1 t2 w k0->Calls ah 15 #[t0,t1,t2] w k0:=cw func15
def HS(t0 t1 w)(K:KT):=nz f54 1 [] [] [(12,7)] (zg [0,1] [t0,t1]) w K
theorem IQ:HS t0 t1 w k0->Calls ah 54 #[t0,t1] w k0:=cw func54
def CZ(t0 w)(K:KT):=nz f113 1 [] [] [] (zg [0] [t0]) w K
theorem FW:CZ t0 w k0->Calls ah 113 #[t0] w k0:=cw func113
def yA(t0 t1 w)(K:KT):=nz f171 1 [] [] [] (zg [0,1] [t0,t1]) w K
theorem CH:yA t0 t1 w k0->Calls ah 171 #[t0,t1] w k0:=cw func171
def Cg(t0 w)(K:KT):=nz f115 1 [] [] [] (zg [0] [t0]) w K
theorem FG:Cg t0 w k0->Calls ah 115 #[t0] w k0:=cw func115
def wY(t0 t1 w)(K:KT):=nz f173 1 [] [] [] (zg [0,1] [t0,t1]) w K
theorem Dn:wY t0 t1 w k0->Calls ah 173 #[t0,t1] w k0:=cw func173
def E9(t0 t1 t2 w)(K:KT):=nz f17 1 [] [] [] (zg [0,1,2] [t0,t1,t2]) w K
theorem GY:E9 t0 t1 t2 w k0->Calls ah 17 #[t0,t1,t2] w k0:=cw func17
def Ba(t0 t1 w)(K:KT):=nz f30 1 [] [] [] (zg [0,1] [t0,t1]) w K
theorem DO:Ba t0 t1 w k0->Calls ah 30 #[t0,t1] w k0:=cw func30
def sU(t4 t8 w)(K:KT):=nz f22 4095 [] [] [] (zg [4,8] [t4,t8]) w K
def lB(o b a e g h c p q d w)(J:JT)(K:KT):=
 bnx .lss 3 d q w K λr w=>IfX r (iax 22 p d w K λs w=>ldx 9 s w K λt w=>iax 40 o d w K λu w=>ldx 27 u w K λv w=>cx 68 #[v] w K λi w=>exx i 0 w K λx w=>exx i 1 w K λj w=>alx 25 w K λf w=>stx 25 f x w K λ_ w=>ecx .neq 30 93 0 j w K λy w=>IfX y (dx (aS 25 #[]) w K λz w=>stx 25 a z w K λ_ w=>RetX ah [.cell a 25,.val j] w K) (cx 69 #[t] w K λA w=>dx (bN 23 1 #[(0,A)]) w K λB w=>apx 23 g B w K λC w=>ldx 25 f w K λD w=>dx (bN 23 1 #[(0,D)]) w K λF w=>apx 23 h F w K λG w=>gfx c (mFA 25 f 0) w K λH w=>gfx c (aH 3 H) w K λI w=>gfx c (mEq .neq 3 (.tmp 109) (.const (iN 0)) I (iN 0)) w K λL w=>dx (lC c (.bool av) L) w K λM w=>bnx .add 3 d (iN 1) w K λO w=>J [e,C,G,M,O] w)) (HeldX w (λS4 w=>HDo ah S4 (aH 25 b) λP=>CallX ah 71 #[g] w (ay 6 (pk K)) λQ w=>S4 w∧(CallX ah 70 #[P,(.string ⟨#[70,105,108,116,101,114]⟩),Q] w (ay 6 (pk K)) λk w=>(HDo ah (λ_=>True) (mExt k 0) λR=>HDo ah (λ_=>True) (mExt k 1) λl=>DoX ah (aN 25 b R) w (ay 6 (pk K)) λ_ w=>(ecx .neq 30 120 0 l w K λS w=>IfX S (dx (aS 25 #[]) w K λT w=>stx 25 a T w K λ_ w=>RetX ah [.cell a 25,.val l] w K) (JoinX (λE=>IfX c (HeldX w (λS6 w=>HDo ah S6 (aH 25 b) λU=>CallX ah 71 #[h] w (ay 6 (pk K)) λV w=>S6 w∧(CallX ah 70 #[U,(.string ⟨#[68,101,99,111,100,101,80,97,114,109,115]⟩),V] w (ay 6 (pk K)) λm w=>(HDo ah (λ_=>True) (mExt m 0) λW=>HDo ah (λ_=>True) (mExt m 1) λn=>DoX ah (aN 25 b W) w (ay 6 (pk K)) λ_ w=>(ecx .neq 30 132 0 n w K λX w=>IfX X (dx (aS 25 #[]) w K λY w=>stx 25 a Y w K λ_ w=>RetX ah [.cell a 25,.val n] w K) (E [e] w)))))) (E [e] w)) (λN w=>∀_:Sg,sU b a w K)))))))
def gQ(b f g c a h d w)(N1:JT)(K:KT):=
 bnx .geq 3 d (iN 0) w K λm w=>IfX m (HeldX w (λS2 w=>HDo ah S2 (mIA 22 b d) λn=>HDo ah S2 (aH 9 n) λo=>HDo ah S2 (mIA 40 f d) λp=>HDo ah S2 (aH 27 p) λq=>CallX ah 17 #[o,q,g] w (ay 14 (pk K)) λi w=>S2 w∧(HDo ah S2 (mExt i 0) λr=>HDo ah S2 (mExt i 1) λj=>ecx .neq 30 59 0 j w K λs w=>IfX s (dx (aS 25 #[]) w K λt w=>stx 25 a t w K λ_ w=>RetX ah [.cell a 25,.val j] w K) (bnx .sub 3 d (iN 1) w K λu w=>N1 [r,h,u] w)))) (ldx 25 c w K λv w=>cx 30 #[v,g] w K λk w=>exx k 0 w K λx w=>exx k 1 w K λl w=>stx 25 c x w K λ_ w=>ecx .neq 30 69 0 l w K λe w=>efx e b w λy w=>gfx e (mB .len #[22] 3 #[au] #[y]) w K λz w=>gfx e (mEq .eql 3 (.tmp 73) (.const (iN 0)) z (iN 0)) w K λA w=>dx (lC e (.bool av) A) w K λB w=>IfX B (ldx 25 c w K λC w=>stx 25 a C w K λ_ w=>RetX ah [.cell a 25,.val l] w K) (lnx 22 b w K λD w=>LoopX [h,(.slice aw 0 0),(.slice aw 0 0),(.bool au),(iN 0)] w (λE w F=>∀_:Sg,lB f c a (E.getD 0 undef) (E.getD 1 undef) (E.getD 2 undef) (E.getD 3 undef) b D (E.getD 4 undef) w F K)))
def xB(t0 t1 t2 t3 w)(K:KT):=nz f22 1 [] [(15,[3,9,11],λs v j w f=>gQ (s 1) (s 2) (vg v 0) (s 4) (s 8) (vg v 1) (vg v 2) w (f 0) K)] [] (zg [0,1,2,3] [t0,t1,t2,t3]) w K
theorem Dz:xB t0 t1 t2 t3 w k0->Calls ah 22 #[t0,t1,t2,t3] w k0:=cz [(34,[9])] [(7,[3,9,11]),(18,[9,12,13,14,80])] func22
def CK(d w)(K:KT):=
 dx (mBox 27 d) w K λa w=>alx 25 w K λb w=>QuietX w (λy=>QDo ah y (aH 27 a) λe=>QCall ah y 135 #[] λf=>QDo ah y (mEq .eql 27 (.tmp 4) (.tmp 5) e f) λg=>
 ∀w,y w ->
 IfX g (dx (aS 25 #[]) w K λh w=>stx 25 b h w K λ_ w=>RetX ah [.cell b 25,.val (iN 0)] w K) (HeldX w (λS2 w=>HDo ah (λ_=>True) (mFA 27 a 1) λi=>HDo ah S2 (aH 3 i) λj=>HDo ah (λ_=>True) (mFA 27 a 2) λk=>HDo ah S2 (aH 3 k) λl=>HDo ah (λ_=>True) (mFA 27 a 0) λm=>HDo ah S2 (aH 3 m) λn=>CallX ah 69 #[(.string ⟨#[67,111,108,111,114,115]⟩)] w (ay 9 (pk K)) λo w=>S2 w∧(CallX ah 137 #[j] w (ay 9 (pk K)) λp w=>S2 w∧(CallX ah 69 #[(.string ⟨#[67,111,108,117,109,110,115]⟩)] w (ay 9 (pk K)) λq w=>S2 w∧(CallX ah 137 #[l] w (ay 9 (pk K)) λr w=>S2 w∧(CallX ah 69 #[(.string ⟨#[80,114,101,100,105,99,116,111,114]⟩)] w (ay 9 (pk K)) λs w=>S2 w∧(CallX ah 137 #[n] w (ay 9 (pk K)) λt w=>S2 w∧(DoX ah (bN 23 6 #[(0,o),(1,p),(2,q),(3,r),(4,s),(5,t)]) w (ay 9 (pk K)) λu w=>S2 w∧(CallX ah 136 #[u] w (ay 9 (pk K)) λc w=>S2 w∧(HDo ah (λ_=>True) (mExt c 0) λv=>HDo ah (λ_=>True) (mExt c 1) λx=>DoX ah (aN 25 b v) w (ay 9 (pk K)) λ_ w=>(RetX ah [.cell b 25,.val x] w K))))))))))))
theorem FL:CK t0 w k0->Calls ah 68 #[t0] w k0:=cw func68
def AL(t0 w)(K:KT):=nz f71 1 [] [] [] (zg [0] [t0]) w K
theorem DY:AL t0 w k0->Calls ah 71 #[t0] w k0:=cw func71
def Bq(t12 t13 t14 t51 w)(a:JT)(K:KT):=nz f67 30399 [a] [nh 33 [12,51]] [(20,10)] (zg [12,13,14,51] [t12,t13,t14,t51]) w K
def AY(t1 t7 t12 t49 t50 t51 w)(a:JT)(K:KT):=nz f67 703 [a] [nh 33 [12,51],(40,[12],λs v j w f=>Bq (vg v 0) (s 13) (s 14) (s 51) w (f 0) K)] [] (zg [1,7,12,49,50,51] [t1,t7,t12,t49,t50,t51]) w K
def A7(t0 t1 t7 t18 t19 t20 w)(N1:JT)(K:KT):=nz f67 87 [N1] [nh 11 [7,20],(33,[12,51],λs v j w f=>AY (s 1) (s 7) (vg v 0) (s 49) (s 50) (vg v 1) w (f 0) K)] [] (zg [0,1,7,18,19,20] [t0,t1,t7,t18,t19,t20]) w K
def EA(t0 t1 w)(K:KT):=nz f67 1 [] [(11,[7,20],λs v j w f=>A7 (s 0) (s 1) (vg v 0) (s 18) (s 19) (vg v 1) w (f 0) K)] [] (zg [0,1] [t0,t1]) w K
theorem Hl:EA t0 t1 w k0->Calls ah 67 #[t0,t1] w k0:=cz [(20,[12])] [(5,[7,20]),(16,[12,51])] func67
def pF(t0 t1 w)(K:KT):=nz f121 1 [] [] [] (zg [0,1] [t0,t1]) w K
theorem wI:pF t0 t1 w k0->Calls ah 121 #[t0,t1] w k0:=cw func121
def mI(t0 t1 w)(K:KT):=nz f122 1 [] [] [] (zg [0,1] [t0,t1]) w K
theorem rU:mI t0 t1 w k0->Calls ah 122 #[t0,t1] w k0:=cw func122
end
section
open Eng Go.RowKit
namespace Ff
abbrev nHx:List UInt8:=[65,83,67,73,73,72,101,120,68,101,99,111,100,101]
abbrev n85:List UInt8:=[65,83,67,73,73,56,53,68,101,99,111,100,101]
abbrev nRL:List UInt8:=[82,117,110,76,101,110,103,116,104,68,101,99,111,100,101]
abbrev nFl:List UInt8:=[70,108,97,116,101,68,101,99,111,100,101]
abbrev aX:List UInt8:=[70,105,108,116,101,114]
abbrev cL:List UInt8:=[68,101,99,111,100,101,80,97,114,109,115]
abbrev Fy:List UInt8:=[80,114,101,100,105,99,116,111,114]
abbrev Fm:List UInt8:=[67,111,108,111,114,115]
abbrev FJ:List UInt8:=[67,111,108,117,109,110,115]
abbrev Wq:List UInt8:=[66,105,116,115,80,101,114,67,111,109,112,111,110,101,110,116]
def full (n:List UInt8):List UInt8:=
 if n=[65,72,120]∨n=nHx then nHx
 else if n=[65,56,53]∨n=n85 then n85
 else if n=[82,76]∨n=nRL then nRL
 else if n=[70,108]∨n=nFl then nFl
 else []
def Av:Pm:=⟨1,1,1⟩
def num (o:Ob)(key:List UInt8):Int×Int:=match Vl.get o key with|none=>(1,0)|some v=>if v.k=2 then (v.n,0) else (0,10)
def parm (o:Ob):Pm×Int:=
 if o.k=0 then (Av,0)
 else if o.k=7∧(num o Fy).2=0∧(num o Fm).2=0∧(num o FJ).2=0 then (⟨(num o Fy).1,(num o Fm).1,(num o FJ).1⟩,0)
 else (⟨0,0,0⟩,10)
def eight (o:Ob):Bool:=match Vl.get o Wq with|none=>av|some v=>ai (v.k=2)&&ai (v.n=8)
theorem Eb (n:List UInt8):full n=nHx∨full n=n85∨full n=nRL∨full n=nFl∨full n=[]:=by
 unfold full
 repeat' split
 all_goals simp
end Ff
theorem Hs (n:List UInt8)(w:ao):Ret ah 80 #[.string ⟨n.toArray⟩] w (λv w'=>v=.tuple #[.string ⟨(Ff.full n).toArray⟩,.bool (ai (Ff.full n≠[]))]∧w=w'):=by
 refine aZ λK j=>Fh ?_;unfold Da eqx;refine join λr k=>join λs l=>join λt o=>join λu p=>join λx q=>?_;have fin:∀m:List UInt8,m=Ff.full n->m≠[]->r [.string ⟨m.toArray⟩] w:=λm hm a=>k _ _ λ_=>by
  simp only[zD,gd];exact j _ _ ⟨by rw[<-hm,amG a],rfl⟩
 have f5:∀m:List UInt8,m=Ff.full n->m≠[]->x [.string ⟨m.toArray⟩] w:=λm hm a=>q _ _ λ_=>by
  simp only[xM,gd];exact fin m hm a
 have f4:∀m:List UInt8,m=Ff.full n->m≠[]->u [.string ⟨m.toArray⟩] w:=λm hm a=>p _ _ λ_=>by
  simp only[wQ,gd];exact fin m hm a
 have f3:∀m:List UInt8,m=Ff.full n->m≠[]->t [.string ⟨m.toArray⟩] w:=λm hm a=>o _ _ λ_=>by
  simp only[xY,gd];exact fin m hm a
 have f2:∀m:List UInt8,m=Ff.full n->m≠[]->s [.string ⟨m.toArray⟩] w:=λm hm a=>l _ _ λ_=>by
  simp only[yW,gd];exact fin m hm a
 clear k l o p q fin;rw[Iz];by_cases c:n=[65,72,120]
 ·rw[amG c,i_t];exact f5 _ (by unfold Ff.full;rw[amB (.inl c)]) dc
 rw[amE c,i_f,Iz];by_cases b:n=Ff.nHx
 ·rw[amG b,i_t];exact f5 _ (by unfold Ff.full;rw[amB (.inr b),b]) (by rw[b];decide)
 rw[amE b,i_f,Iz];by_cases c3:n=[65,56,53]
 ·rw[amG c3,i_t];exact f4 _ (by unfold Ff.full;rw[amA (by simp[c,b]),amB (.inl c3)]) dc
 rw[amE c3,i_f,Iz];by_cases d:n=Ff.n85
 ·rw[amG d,i_t];exact f4 _ (by unfold Ff.full;rw[amA (by simp[c,b]),amB (.inr d),d]) (by rw[d];decide)
 rw[amE d,i_f,Iz];by_cases g:n=[82,76]
 ·rw[amG g,i_t];exact f3 _ (by unfold Ff.full;rw[amA (by simp[c,b]),amA (by simp[c3,d]),amB (.inl g)]) dc
 rw[amE g,i_f,Iz];by_cases f:n=Ff.nRL
 ·rw[amG f,i_t];exact f3 _ (by unfold Ff.full;rw[amA (by simp[c,b]),amA (by simp[c3,d]),amB (.inr f),f]) (by rw[f];decide)
 rw[amE f,i_f,Iz];by_cases i:n=[70,108]
 ·rw[amG i,i_t];exact f2 _ (by unfold Ff.full;rw[amA (by simp[c,b]),amA (by simp[c3,d]),amA (by simp[g,f]),amB (.inl i)]) dc
 rw[amE i,i_f,Iz];by_cases h:n=Ff.nFl
 ·rw[amG h,i_t];exact f2 _ (by unfold Ff.full;rw[amA (by simp[c,b]),amA (by simp[c3,d]),amA (by simp[g,f]),amB (.inr h),h]) (by rw[h];decide)
 rw[amE h,i_f];have e:Ff.full n=[]:=by unfold Ff.full;rw[amA (by simp[c,b]),amA (by simp[c3,d]),amA (by simp[g,f]),amA (by simp[i,h])]
 exact j _ _ ⟨by rw[e];rfl,rfl⟩
theorem akY {b c:Int}:DoX ah (aS 27 #[(0,.int .i64 a),(1,.int .i64 b),(2,.int .i64 c)]) w PK K=K (pmV ⟨a,b,c⟩) w:=aD krx
theorem ahC (a:OwnS S w0 w L)(k:∀b w',OwnS S w0 w' (pmE b ⟨0,0,0⟩::L)->K (.pointer (ax ⟨b,0,aw⟩)) w'):DoX ah (iH 27) w PK K:=
 bA (λb=>.pointer (ax ⟨b,0,aw⟩)) (pmC ⟨0,0,0⟩) 27 (λ_=>by kernel_rfl) a k
theorem Th (i:Nat){x:Pm}(y:Pm)(a:OwnS S w0 w L)(hi:L[i]?=ax (pmE b x))(k:∀w',OwnS S w0 w' (L.set i (pmE b y))->K undef w'):DoX ah (aN 27 (.pointer (ax ⟨b,0,aw⟩)) (pmV y)) w PK K:=
 gX i a hi szPm Ic rfl k
theorem Ea (w:ao):Ret ah 135 #[] w (λv w'=>v=pmV Ff.Av∧Below w.heap.size w w'):=by
 refine aZ λK c=>Ef ?_;unfold AU nz;refine ahC (Own.start w) λb d a=>?_;rw[akY];refine Th 0 Ff.Av a rfl λw2 a=>?_;exact iA (bJ (a.agg 0 rfl KV)) (c _ _ ⟨rfl,a.done⟩)
theorem adE:lL ah 107=true:=krx
def upF (e:Int):PanicEntry:={ v:=.iface 107 (.agg #[.int .i64 e]),recovered:=au }
theorem aaC (e:Int)(w:ao):Ret ah 78 #[.bool av,.int .i64 e] w (λv w'=>v=.tuple #[]∧w=w'):=by
 refine aZ λK a=>vT ?_;unfold uD nz;simp only[rs,aoB,i_f];exact a _ _ ⟨rfl,rfl⟩
theorem Zi (e:Int)(w:ao):Pan ah 78 #[.bool au,.int .i64 e] w (λc w'=>c=[upF e]∧w=w'):=by
 refine UQ λK a=>vT ?_;unfold uD nz;simp only[rs,aoD,i_t];have b:∀{PK:PKT} {K:VWP},DoX ah (aS 107 #[(0,.int .i64 e)]) w PK K=K (.agg #[.int .i64 e]) w:=aD krx;rw[b,Ky adE,HZ];exact a _ _ ⟨rfl,rfl⟩
section
variable {w:ao}{PK:PKT}{K:VWP}{S:Nat->Prop}{w0:ao}{L:List Ent}
theorem nT {e:Int}(a:q=av->K (.tuple #[]) w)(b:q=au->PK [upF e] w):CallX ah 78 #[.bool q,.int .i64 e] w PK K:=by
 cases q with
|true=>exact c_eq (aaC e w) (a rfl)
|false=>exact Y9 (Zi e w) λc w' ⟨d,hw⟩=>by subst d;subst hw;exact b rfl
theorem Vz (a:OwnS S w0 w (.mem M::L))(hw:o.wt<=100000000000)(j:OV M.A M.w v o)
  (c:(Ff.num o key).2=0->∀N W,M.le N->OwnS S w0 W (.mem N::L)->K (.int .i64 (Ff.num o key).1) W)
  (i:(Ff.num o key).2≠0->∀N W,M.le N->OwnS S w0 W (.mem N::L)->PK [upF 10] W):CallX ah 208 #[v,.string ⟨key.toArray⟩] w PK K:=by
 obtain⟨vk,vc,cs,rfl,k⟩:=j.open;generalize b:Ff.num o key=X at c i;unfold Ff.num at b;refine⟨Ds ?_⟩;unfold yF nz;refine iE o k.keys.one k.kids.one a λb2 m a=>?_;rw[ob_v a 0 rfl];refine bH a 1 rfl (zX o _ key M m hw (a.hasM 1 rfl) j) ?_;rintro _ N w2 hle ⟨t,rfl,d⟩ a;obtain⟨n,p,rfl,d⟩:=HO d;simp only[getV,ex];refine fK a λq r a=>?_;refine bK 0 d.oneK d.oneC a rfl λg a=>?_;have drop:∀{W:ao} {e f:Ent},OwnS S w0 W (e::f::.mem N::L)->OwnS S w0 W (.mem N::L):=λa=>a.tail.tail;have a:OwnS S w0 g (obE q ((Vl.get o key).getD Vl.ob0) n p::obE b2 o vk vc::.mem N::L):=a;cases l:Vl.get o key with
|none=>
  rw[l] at b a;simp only[aqP,rs,aoD,i_t];rw[<-b] at c;exact c rfl N g hle (drop a)
|some x=>
  rw[l] at b a;dsimp only at b;rw[apY] at a;simp only[aqY,rs,aoB,i_f];rw[fP,ob_k a 0 rfl];simp only[rs];refine nT (λh=>?_) (λh=>?_)
  ·have h:=amU h;rw[amB h] at b;rw[IU,ob_n a 0 rfl];rw[<-b] at c;exact c rfl N g hle (drop a)
  ·have h:=anO h;rw[amA h] at b;rw[<-b] at i;exact i dc N g hle (drop a)
theorem afL (a:OwnS S w0 w (.mem M::L))(hw:o.wt<=100000000000)(i:OV M.A M.w v o)
  (e:(Ff.parm o).2=0->∀N W,M.le N->OwnS S w0 W (.mem N::L)->K (pmV (Ff.parm o).1) W)
  (n:(Ff.parm o).2=10->∀N W,M.le N->OwnS S w0 W (.mem N::L)->PK [upF 10] W):CallX ah 147 #[v] w PK K:=by
 obtain⟨vk,vc,cs,rfl,z⟩:=i.open;generalize b:Ff.parm o=X at e n;unfold Ff.parm at b;refine⟨Hk ?_⟩;unfold ET iN dx ldx fax stx alx ecx cx;refine iE o z.keys.one z.kids.one a λc H a=>?_;refine ahC a λb2 w2 a=>?_;rw[fP,ob_k a 1 rfl];simp only[rs];by_cases l:o.k=0
 ·rw[amB l] at b;simp only[l,amD,i_t];refine aL a (Ea w2) ?_;rintro _ w3 rfl a;refine Th 0 Ff.Av a rfl λp a=>?_;rw[<-b] at e;exact iA (bJ (a.agg 0 rfl KV)) (e rfl M p M.le_refl a.tail.tail)
 rw[amA l] at b;simp only[l,amF,i_f];rw[fP,ob_k a 1 rfl];simp only[rs];have bad:∀{N W},¬(o.k=7∧(Ff.num o Ff.Fy).2=0∧(Ff.num o Ff.Fm).2=0∧(Ff.num o Ff.FJ).2=0)->M.le N->OwnS S w0 W (.mem N::L)->PK [upF 10] W:=by
  intro N W h hle a;rw[amA h] at b;rw[<-b] at n;exact n rfl N W hle a
 refine nT (λf=>?_) (λf=>bad (λk=>(anO f) k.1) M.le_refl a.tail.tail);have f:=amU f;have a:=a.drew;refine⟨λW=>(obE c o vk vc).is W,a.at_ 1 rfl,?_⟩;have q:∀W,(obE c o vk vc).is W->(aH 25 (.pointer (ax ⟨c,0,aw⟩))).run ah W=.ok (.value (obV o vk vc)) W:=λW h=>aW (AtV.agg kY (cs:=obC o vk vc) rfl λj u C=>by rw[amO];exact aI (T:=25) h C);refine jH _ q (jH _ q (jH _ q ?_));have fr:∀{W:ao} {N:Mem},OwnS S w0 W (pmE b2 ⟨0,0,0⟩::obE c o vk vc::.mem N::L)->OwnS S w0 W (.mem N::pmE b2 ⟨0,0,0⟩::obE c o vk vc::L):=λ{W N} a=>by
  have a:OwnS S w0 W ([pmE b2 ⟨0,0,0⟩,obE c o vk vc]++([.mem N]++L)):=a;exact a.front
 have m:∀{W:ao} {N:Mem} {x:Pm},OwnS S w0 W (.mem N::pmE b2 x::obE c o vk vc::L)->OwnS S w0 W (.mem N::L):=λ{W N x} a=>a.sub (.cons_cons _ (.cons _ (.cons _ (arK _))));refine Vz (fr a) hw i (λr N1 D d a=>?_) (λr N1 D d a=>λ_ _ _ _=>bad (λk=>r k.2.1) d (m a));refine⟨a.at_ 2 rfl,?_⟩;refine Vz a hw (i.le d) (λs E F g a=>?_) (λs E F g a=>λ_ _ _ _=>bad (λk=>s k.2.2.1) (d.trans g) (m a));refine⟨a.at_ 2 rfl,?_⟩;refine Vz a hw ((i.le d).le g) (λt B G y a=>?_) (λt B G y a=>λ_ _ _ _=>bad (λk=>t k.2.2.2) ((d.trans g).trans y) (m a));refine⟨a.at_ 2 rfl,?_⟩;rw[amB ⟨f,r,s,t⟩] at b;refine aR (pmV ⟨(Ff.num o Ff.Fy).1,(Ff.num o Ff.Fm).1,(Ff.num o Ff.FJ).1⟩) (λ_=>by kernel_rfl) ?_;refine Th 1 _ a rfl λp a=>?_;rw[<-b] at e;exact iA (bJ (a.agg 1 rfl KV)) (e rfl B p ((d.trans g).trans y) (m a))
end
theorem Re (o:Ob)(v:aq)(M:Mem)(w:ao)(hw:o.wt<=100000000000)(f:M.has w)(g:OV M.A M.w v o):RetM ah 148 #[v] M w (λr _=>r=.bool (Ff.eight o)):=by
 obtain⟨vk,vc,cs,rfl,h⟩:=g.open;refine bB f λK c=>DZ ?_;generalize b:Ff.eight o=X at c;unfold Ff.eight at b;unfold AB nz;refine iE o h.keys.one h.kids.one (OwnS.memS f) λb2 j a=>?_;rw[ob_v a 0 rfl];refine bH a 1 rfl (zX o _ Ff.Wq M j hw (a.hasM 1 rfl) g) ?_;rintro _ N w2 hle ⟨t,rfl,d⟩ a;obtain⟨l,m,rfl,d⟩:=HO d;simp only[getV,ex];refine fK a λn q a=>?_;refine bK 0 d.oneK d.oneC a rfl λp a=>?_;have a:OwnS M.A w p [obE n ((Vl.get o Ff.Wq).getD Vl.ob0) l m,obE b2 o vk vc,.mem N]:=a;cases i:Vl.get o Ff.Wq with
|none=>
  rw[i] at b a;simp only[aqP,rs,aoD,g_un,i_t];exact c _ _ N _ 2 a rfl hle (by rw[<-b])
|some x=>
  rw[i] at b a;dsimp only at b;rw[apY] at a;simp only[aqY,rs,aoB];rw[fP,ob_k a 0 rfl];simp only[rs];by_cases e:x.k=2
  ·simp only[e,amD,rs];rw[IU,ob_n a 0 rfl];simp only[rs];exact c _ _ N _ 2 a rfl hle (by rw[<-b,e];rfl)
  ·simp only[e,amF,rs,g_un];exact c _ _ N _ 2 a rfl hle (by rw[<-b,amE e];rfl)
end
end Go.Proofs.YtlipjfcbjemicaaGreatDoor

namespace Go.Proofs.YtlipjfcbjemicaaGreatDoor
variable{A S:Nat->Prop}{D:TypeId}{K:VWP}{L:List Eng.Ent}{M:Eng.Mem}{PK:PKT}{R:Ending->FrameMode->ao->Prop}{W w w0:ao}{a colors way:Int}{above key:List UInt8}{b cap fb i most p rb sz:Nat}{cs:List aq}{e:Eng.Ent}{o:Ob}{os:List Ob}{q:Bool}{t0 v va vc vk:aq}{u:FrameMode}{t0 t1 t2 t3:aq}{k0:Eng.KT}
section
open Eng Go.RowKit
theorem Tg (h:SlA M.A M.w vc 6 os.length cs)(c:OVs M.A M.w cs os)(hi:i < os.length) :
  ∃b off vk d,(∀W,(mIA 23 vc (.int .i64 (i:Int))).run ah W=.ok (.value (.pointer (ax ⟨b,off,aw⟩))) W)∧OV M.A M.w (obV os[i] vk d) os[i] ∧
   ∀W,M.has W->∀j u,(obC os[i] vk d)[j]?=ax u->W.cell? ⟨b,off+j,aw⟩=ax u:=by
 obtain⟨b,off,cap,rfl,_⟩:=bY h.1 om;obtain⟨a,v,e,f⟩:=OVs.get _ _ i hi c;obtain⟨vk,d,o,he,p⟩:=e.open;have q:a=obC os[i] vk d:=by
  unfold obV at he
  injection he with he
  exact congrArg Array.toList he
 subst q;refine⟨b,off+i*6,vk,d,λW=>?_,e,λW r j u s=>?_⟩
 ·have:=dX (P:=ah) (T:=23) (b:=b) (off:=off) (cap:=cap) (n:=os.length) (k:=.i64) (i:=(i:Int)) (w:=W) amT szOb om om
  rwa [amK] at this
 ·obtain⟨x,l,m,g,t⟩:=bY (h.now r) om;cases g;rw[aoS];exact t _ _ (f j u s)
theorem LC {l:List (List UInt8)}(a:SlA M.A M.w v 1 l.length (bS l))(hi:i < l.length) :
  ∃p,(∀W,(mIA 22 v (.int .i64 (i:Int))).run ah W=.ok (.value (.pointer (ax p))) W)∧∀W,M.has W->(aH 9 (.pointer (ax p))).run ah W=.ok (.value (.string ⟨l[i].toArray⟩)) W:=by
 obtain⟨b,off,cap,rfl,_⟩:=bY a.1 om;refine⟨⟨b,off+i,aw⟩,λW=>?_,λW e=>?_⟩
 ·have:=dX (P:=ah) (T:=22) (b:=b) (off:=off) (cap:=cap) (n:=l.length) (k:=.i64) (i:=(i:Int)) (w:=W) amV (show _=ax 1 by kernel_rfl) om om;rw[amK,anC] at this;exact this
 ·obtain⟨g,c,d,he,f⟩:=bY (a.now e) om;cases he;exact aB Iv (f i _ (mJ hi))
theorem abM (x:Pm):(pmC x).length=3:=rfl
theorem pmAt {l:List Pm}(a:SlA M.A M.w v 3 l.length (l.flatMap pmC))(hi:i < l.length) :
  ∃p,(∀W,(mIA 40 v (.int .i64 (i:Int))).run ah W=.ok (.value (.pointer (ax p))) W)∧∀W,M.has W->(aH 27 (.pointer (ax p))).run ah W=.ok (.value (pmV l[i])) W:=by
 obtain⟨b,off,cap,rfl,_⟩:=bY a.1 om;refine⟨⟨b,off+i*3,aw⟩,λW=>?_,λW e=>?_⟩
 ·have:=dX (P:=ah) (T:=40) (b:=b) (off:=off) (cap:=cap) (n:=l.length) (k:=.i64) (i:=(i:Int)) (w:=W) arS szPm om om;rw[amK] at this;exact this
 ·obtain⟨h,c,d,he,f⟩:=bY (a.now e) om;cases he;refine aW (AtV.agg KV (cs:=pmC l[i]) rfl λj u g=>?_);rw[aoS];exact f _ _ (Eng.qK abM hi g)
abbrev pmsE (v:aq)(l:List Pm):Ent:=.recs 27 pmC 3 v l
abbrev stsE (v:aq)(l:List (List UInt8)):Ent:=.urow 9 1 v l.length (bS l)
theorem elPm:elB ah 27 3 24=true:=krx
section
variable {w:ao}{PK PK2:PKT}{K:VWP}{S:Nat->Prop}{w0:ao}{L:List Ent}
theorem Yz (x:Pm){l:List Pm}{c:Array Bool}(a:OwnS S w0 w (pmsE v l::L))(d:l.length<=1000000000)(k:∀v' W,OwnS S w0 W (pmsE v' (l++[x])::L)->K v' W) :
  DoX ah (bN 40 1 #[(0,pmV x)]) w PK λt w=>DoX ah (mB .append #[40,40] 40 c #[v,t]) w PK2 K:=by
 refine bA (λb=>.slice (ax ⟨b,0,aw⟩) 1 1) (pmC x) 27 (λ_=>by kernel_rfl) a λb f a=>?_;refine bR 1 arS elPm dc a rfl (pA (a.at_ 0 rfl) dc rfl) Ic om om λv' w2 a=>k v' w2 ?_;have e:pmsE v' (l++[x])=.urow 27 3 v' (l.length+1) (l.flatMap pmC++pmC x):=by
  unfold pmsE Ent.recs;rw[amC,apL,aqM];rfl
 rw[e];exact a.tail
theorem U5 (x:List UInt8){l:List (List UInt8)}{c:Array Bool}(a:OwnS S w0 w (stsE v l::L))(d:l.length<=1000000000)(k:∀v' W,OwnS S w0 W (stsE v' (l++[x])::L)->K v' W) :
  DoX ah (bN 22 1 #[(0,.string ⟨x.toArray⟩)]) w PK λt w=>DoX ah (mB .append #[22,22] 22 c #[v,t]) w PK2 K:=by
 refine bA (λb=>.slice (ax ⟨b,0,aw⟩) 1 1) [.string ⟨x.toArray⟩] 9 (λ_=>by kernel_rfl) a λb f a=>?_;refine bR 1 amV (show elB ah 9 1 16=av by kernel_rfl) dc a rfl (pA (a.at_ 0 rfl) dc rfl) (λu hu=>by rw[anB.1 hu];rfl) om om λv' w2 a=>k v' w2 ?_;have e:stsE v' (l++[x])=.urow 9 1 v' (l.length+1) (bS l++[.string ⟨x.toArray⟩]):=by
  unfold stsE bS;rw[amC,anN];rfl
 rw[e];exact a.tail
theorem Vx (g:OwnS S w0 w (obE b o vk vc::L))(i:Nat)(hi:L[i]?=ax (.mem M))(d:OV M.A M.w (obV o vk vc) o) :
  ∃N:Mem,M.le N∧SlA N.A N.w (.slice (ax ⟨b,0,aw⟩) 1 1) 6 1 (obC o vk vc)∧OVs N.A N.w (obC o vk vc) [o]∧OwnS S w0 w (L.set i (.mem N)):=by
 have j:=g.at_ 0 rfl;obtain⟨N,h,k,m,n⟩:=g.freeze i hi;refine⟨N,h,⟨?_,λp l c e _=>?_,λa l c e=>?_⟩,?_,n⟩
 ·rw[k];exact pA j dc rfl
 ·injection e with f _ _
  injection f with f
  rw[<-f];exact m b rfl
 ·injection e with _ q r
  omega
 ·have:=OVs.snoc (a:=obC o vk vc) rfl (d.le h) [] [] OVs.nil;exact this
end
end
section
open Eng Go.RowKit
namespace Cs
def has (o:Ob)(a:List (List UInt8)):List (List UInt8×Ob):=a.filterMap λk=>(Vl.get o k).map λv=>(k,v)
def ofL (l:List (List UInt8×Ob)):Ob:=.mk 7 0 0 [] (l.map (·.1)) (l.map (·.2))
def sV (o:Ob):Ob:=if (o.k≠7∧o.k≠9)∨Vl.check 1 o≠0 then ofL [] else ofL (has o bw)
theorem P3 (o:Ob)(a:List (List UInt8))(k:List UInt8):has o (a++[k])=has o a++(match Vl.get o k with|some v=>[(k,v)]|none=>[]):=by
 unfold has;rw[List.filterMap_append]
 congr 1
 cases h:Vl.get o k<;>simp[h]
theorem aaX (o:Ob)(a:List (List UInt8)):(has o a).length<=a.length:=List.length_filterMap_le _ _
end Cs
section
variable {w:ao}{PK:PKT}{K:VWP}{S:Nat->Prop}{w0:ao}{L T:List Ent}
abbrev DcR (a cv:aq)(l:List (List UInt8×Ob))(ds:List aq)(b:Nat)(T:List Ent):List Ent:=
 .urow 9 1 a l.length (bS (l.map (·.1)))::.urow 25 6 cv l.length ds::obE b (ob1 7 0 0 []) a cv::T
end
theorem getD_some {k:List UInt8}{x:Ob}(h:Vl.get o k=ax x):(Vl.get o k).getD Vl.ob0=x:=by rw[h];rfl
theorem MW (o:Ob)(v:aq)(M:Mem)(w:ao)(hw:o.wt<=100000000000)(hM:M.has w)(V:OV M.A M.w v o):RetM ah 168 #[v] M w (λr N=>OV N.A N.w r (Cs.sV o)):=by
 obtain⟨vk,vc,cs,rfl,ha⟩:=V.open;refine bB hM λK hK=>Ej ?_;unfold AH nz;refine iE o ha.keys.one ha.kids.one (OwnS.memS hM) λb w1 a=>?_;refine fK a λb2 w2 a=>?_;rw[agK];refine fK a λb3 w3 a=>?_;refine bK (o':=ob1 7 0 0 []) (vk':=nilS) (vc':=nilS) 0 rfl rfl a rfl λB a=>?_;have a:OwnS M.A w B [obE b3 (ob1 7 0 0 []) nilS nilS,obE b2 ob0 nilS nilS,obE b o vk vc,.mem M]:=a;rw[fP,ob_k a 2 rfl];have no:∀{W:ao},OwnS M.A w W [obE b3 (ob1 7 0 0 []) nilS nilS,obE b2 ob0 nilS nilS,obE b o vk vc,.mem M]->Cs.sV o=Cs.ofL []->DoX ah (aH 25 (.pointer (ax ⟨b3,0,aw⟩))) W (pk K) (λt22 w=>DoX ah (aN 25 (.pointer (ax ⟨b2,0,aw⟩)) t22) w (pk K) λ_ w=>RetX ah [.cell (.pointer (ax ⟨b2,0,aw⟩)) 25] w K):=by
  intro W a he;rw[ob_v a 0 rfl];refine bK 1 rfl rfl a rfl λB a=>?_;have a:OwnS M.A w B [obE b3 (ob1 7 0 0 []) nilS nilS,obE b2 (ob1 7 0 0 []) nilS nilS,obE b o vk vc,.mem M]:=a;refine iA (bJ (a.agg 1 rfl kY)) (hK _ _ M _ 3 a rfl M.le_refl ?_);rw[he];exact ObAt.ov (o:=Cs.ofL []) (vk:=nilS) (vc:=nilS) (cs:=[]) ⟨SlA.nil _ _ _ _,SlA.nil _ _ _ _,.nil⟩
 have main:(o.k=7∨o.k=9)->∀{W:ao},OwnS M.A w W [obE b3 (ob1 7 0 0 []) nilS nilS,obE b2 ob0 nilS nilS,obE b o vk vc,.mem M]->Vl.check 1 o=0->CallX ah 222 #[] W (pk K) (λt23 w=>
 DoX ah (mB .len #[22] 3 #[au] #[t23]) w (pk K) λt24 w=>
 LoopX [(.int .i64 0)] w (λn w N1=>∀_:Sg,iR (.pointer (ax ⟨b,0,aw⟩)) (.pointer (ax ⟨b2,0,aw⟩)) (.pointer (ax ⟨b3,0,aw⟩)) t23 t24 (n.getD 0 undef) w N1 K)):=by
  intro X W a C;have het:Cs.sV o=Cs.ofL (Cs.has o bw):=by
   unfold Cs.sV;rw[amA];rintro (⟨h1,h2⟩|h);·rcases X with h|h;exact h1 h;exact h2 h
   exact h C
  refine bH a 3 rfl (Tj M W (a.hasM 3 rfl)) λkl N1 w5 l1 D a=>?_;rw[bD amV (D.now (a.hasM 3 rfl))];have a:=OwnS.nilU a 25 6;have a:=OwnS.nilU a 9 1;refine loop (λvs W=>∃(i:Nat) (f cv:aq) (ds:List aq) (N:Mem),vs=[.int .i64 (i:Int)]∧i<=3∧N1.le N∧OVs N.A N.w ds ((Cs.has o (bw.take i)).map (·.2))∧OwnS M.A w W (DcR f cv (Cs.has o (bw.take i)) ds b3 [obE b2 ob0 nilS nilS,obE b o vk vc,.mem N])) (λvs _=>3 - n0 vs) ⟨0,nilS,nilS,[],N1,rfl,om,N1.le_refl,.nil,a⟩ ?_;clear a;rintro vs P ⟨i,f,cv,ds,N,rfl,hi,Q,m,a⟩ _;simp only[iR,gd,rs,nz];by_cases F:(i:Int) < ((3:Nat):Int)
  ·simp only[amG F,i_t];have G:i < bw.length:=by show i < 3;omega
   refine join λJ hJ=>?_;obtain⟨p,Y,Z⟩:=LC (l:=bw) (D.le Q) G;rw[aD (Y P),aD (Z P (a.hasM 5 rfl)),ob_v a 4 rfl];refine bH a 5 rfl (zX o _ bw[i] N P hw (a.hasM 5 rfl) ((V.le l1).le Q)) ?_;rintro _ g w7 l3 ⟨xv,rfl,hx⟩ a;obtain⟨q,s,b0,rfl,c⟩:=hx.open;simp only[getV,ex];refine fK a λS w8 a=>?_;refine bK 0 c.keys.one c.kids.one a rfl λw9 a=>?_;have H:bw.take (i+1)=bw.take i++[bw[i]]:=anH G;have hlen:=Cs.aaX o (bw.take i);rw[amL] at hlen;have next:∀{W:ao} {kv' cv':aq} {ds':List aq},OVs g.A g.w ds' ((Cs.has o (bw.take (i+1))).map (·.2))->OwnS M.A w W (DcR kv' cv' (Cs.has o (bw.take (i+1))) ds' b3 [obE b2 ob0 nilS nilS,obE b o vk vc,.mem g])->J [] W:=by
    intro W kv' cv' ds' I a;refine hJ _ _ λ_=>?_;simp only[vV,rs,nz];rw[aA om om];exact aY ⟨i+1,kv',cv',ds',g,rfl,om,Q.trans l3,I,a⟩ (by simp[n0,RowKit.intOf];omega)
   cases hg:Vl.get o bw[i] with
  |none=>
    simp only[aqP,i_f];have e:Cs.has o (bw.take (i+1))=Cs.has o (bw.take i):=by rw[H,Cs.P3,hg];simp
    exact next (by rw[e];exact m.le l3) (by rw[e];exact a.tail)
  |some x=>
    simp only[aqY,i_t];rw[getD_some hg] at hx a c;have e:Cs.has o (bw.take (i+1))=Cs.has o (bw.take i)++[(bw[i],x)]:=by rw[H,Cs.P3,hg]
    generalize Cs.has o (bw.take i)=d at *;have a:OwnS M.A w w9 [obE S x q s,.urow 9 1 f d.length (bS (d.map (·.1))),.urow 25 6 cv d.length ds,obE b3 (ob1 7 0 0 []) f cv,obE b2 ob0 nilS nilS,obE b o vk vc,.mem g]:=a;rw[zU,mW a 3 rfl];refine Nc bw[i] a λnb b4 a=>?_;refine aiR 2 a rfl (a.sl 0 rfl 1 1 1 rfl) (by simp[Value.oneCell']) om λkv' a1 a=>?_;have a:=a.tail;have a:OwnS M.A w a1 [obE S x q s,.urow 9 1 kv' (d.length+1) (bS (d.map (·.1))++[.string ⟨bw[i].toArray⟩]),.urow 25 6 cv d.length ds,obE b3 (ob1 7 0 0 []) f cv,obE b2 ob0 nilS nilS,obE b o vk vc,.mem g]:=a;have t:=cQ (a.at_ 1 rfl);rw[zU];refine aK 3 a rfl krx t (show 0+4 < 6 by omega) λa6 a=>?_;have a:OwnS M.A w a6 [obE S x q s,.urow 9 1 kv' (d.length+1) (bS (d.map (·.1))++[.string ⟨bw[i].toArray⟩]),.urow 25 6 cv d.length ds,obE b3 (ob1 7 0 0 []) kv' cv,obE b2 ob0 nilS nilS,obE b o vk vc,.mem g]:=a;rw[oQ,fD a 3 rfl,ob_v a 0 rfl];refine JX x c.keys.one c.kids.one a λb5 b7 a=>?_;refine Q4 3 a rfl (a.sl 0 rfl 6 1 1 rfl) (lI _ c.keys.one c.kids.one) om λcv' a7 a=>?_;have a:=a.tail;have a:OwnS M.A w a7 [obE S x q s,.urow 9 1 kv' (d.length+1) (bS (d.map (·.1))++[.string ⟨bw[i].toArray⟩]),.urow 25 6 cv' (d.length+1) (ds++obC x q s),obE b3 (ob1 7 0 0 []) kv' cv,obE b2 ob0 nilS nilS,obE b o vk vc,.mem g]:=a;have u:=cQ (a.at_ 2 rfl);rw[oQ];refine aK 3 a rfl krx u (show 0+5 < 6 by omega) λa8 a=>?_;have a:=a.tail;refine next (kv':=kv') (cv':=cv') (ds':=ds++obC x q s) ?_ ?_
    ·rw[e,anN];exact eJ (m.le l3) (oG hx)
    ·rw[e];show OwnS M.A w a8 [.urow 9 1 kv' (d++[(bw[i],x)]).length (bS ((d++[(bw[i],x)]).map (·.1))),.urow 25 6 cv' (d++[(bw[i],x)]).length (ds++obC x q s),obE b3 (ob1 7 0 0 []) kv' cv',obE b2 ob0 nilS nilS,obE b o vk vc,.mem g];rw[amC,anN,Hm];exact a
  simp only[amE F,i_f];have:i=3:=om
  subst this;rw[show bw.take 3=bw from rfl] at m a;have t:=cQ (a.at_ 0 rfl);have u:=cQ (a.at_ 1 rfl);obtain⟨g,hle,O,a⟩:=OwnS.bI (L:=[.urow 25 6 cv (Cs.has o bw).length ds,obE b3 (ob1 7 0 0 []) f cv,obE b2 ob0 nilS nilS,obE b o vk vc,.mem N]) a 4 rfl;obtain⟨y,j,z,a⟩:=OwnS.bI (L:=[obE b3 (ob1 7 0 0 []) f cv,obE b2 ob0 nilS nilS,obE b o vk vc,.mem g]) a 3 rfl;have a:OwnS M.A w P [obE b3 (ob1 7 0 0 []) f cv,obE b2 ob0 nilS nilS,obE b o vk vc,.mem y]:=a;rw[ob_v a 0 rfl];refine bK 1 t u a rfl λw7 a=>?_;have a:OwnS M.A w w7 [obE b3 (ob1 7 0 0 []) f cv,obE b2 (ob1 7 0 0 []) f cv,obE b o vk vc,.mem y]:=a;refine iA (bJ (a.agg 1 rfl kY)) (hK _ _ y _ 3 a rfl (((l1.trans Q).trans hle).trans j) ?_);rw[het];refine ObAt.ov (o:=Cs.ofL (Cs.has o bw)) (vk:=f) (vc:=cv) (cs:=ds) ⟨?_,?_,(m.le (hle.trans j))⟩
  ·show SlA y.A y.w f 1 ((Cs.has o bw).map (·.1)).length (bS ((Cs.has o bw).map (·.1)));rw[anP];exact O.le j
  ·show SlA y.A y.w cv 6 ((Cs.has o bw).map (·.2)).length ds;rw[anP];exact z
 have rest:(o.k=7∨o.k=9)->GDo (.bool au) au (λE=>DoX ah (aH 25 (.pointer (ax ⟨b,0,aw⟩))) B (pk K) E) B λt18 w=>
 GDo (.bool au) au (λE=>CallX ah 86 #[t18] w (pk K) E) w λt19 w=>
 GDo (.bool au) au (λE=>DoX ah (mEq .neq 30 (.tmp 19) (.const (.int .i64 0)) t19 (.int .i64 0)) w (pk K) E) w λt20 w=>
 DoX ah (lC (.bool au) (.bool av) t20) w (pk K) λt21 w=>
 IfX t21 (DoX ah (aH 25 (.pointer (ax ⟨b3,0,aw⟩))) w (pk K) λt22 w=>
 DoX ah (aN 25 (.pointer (ax ⟨b2,0,aw⟩)) t22) w (pk K) λ_ w=>
 RetX ah [.cell (.pointer (ax ⟨b2,0,aw⟩)) 25] w K) (CallX ah 222 #[] w (pk K) λt23 w=>
 DoX ah (mB .len #[22] 3 #[au] #[t23]) w (pk K) λt24 w=>
 LoopX [(.int .i64 0)] w (λn w N1=>∀_:Sg,iR (.pointer (ax ⟨b,0,aw⟩)) (.pointer (ax ⟨b2,0,aw⟩)) (.pointer (ax ⟨b3,0,aw⟩)) t23 t24 (n.getD 0 undef) w N1 K)):=by
  intro X;simp only[rs];rw[ob_v a 2 rfl];refine aL a (R:=λv=>v=.int .i64 (Vl.check 1 o)) (jB o _ B (OV.inw (a.hasM 3 rfl) V) om) ?_;rintro _ w5 rfl a;simp only[eN,rs];by_cases C:Vl.check 1 o=0
  ·simp only[C,show ai ((0:Int)≠0)=au from rfl,i_f];exact main X a C
  ·simp only[amG (show Vl.check 1 o≠0 from C),i_t];exact no a (by unfold Cs.sV;rw[amB (.inr C)])
 simp only[rs];by_cases T:o.k=7
 ·simp only[amE (show ¬o.k≠7 fromλh=>h T),rs,g_un];have:=rest (.inl T);simp only[rs] at this;exact this
 simp only[amG (show o.k≠7 from T),rs];rw[fP,ob_k a 2 rfl];simp only[rs];by_cases U:o.k=9
 ·simp only[amE (show ¬o.k≠9 fromλh=>h U),rs,g_un];have:=rest (.inr U);simp only[rs] at this;exact this
 simp only[amG (show o.k≠9 from U),rs,g_un,i_t];exact no a (by unfold Cs.sV;rw[amB (.inl ⟨T,U⟩)])
end
end Go.Proofs.YtlipjfcbjemicaaGreatDoor

namespace Go.Proofs.YtlipjfcbjemicaaGreatDoor
variable{A S:Nat->Prop}{D:TypeId}{K:VWP}{L:List Eng.Ent}{M:Eng.Mem}{PK:PKT}{R:Ending->FrameMode->ao->Prop}{W w w0:ao}{a colors way:Int}{above key:List UInt8}{b cap fb i most p rb sz:Nat}{cs:List aq}{e:Eng.Ent}{o:Ob}{os:List Ob}{q:Bool}{t0 v va vc vk:aq}{u:FrameMode}{t0 t1 t2 t3:aq}{k0:Eng.KT}
section
open Go
namespace Tl
def adj (y x:Slt):Prop:=y.num < x.num∧x.num - 1=y.num
instance (y x:Slt):Decidable (adj y x):=by unfold adj;infer_instance
def Na (gs:List (List Slt))(x:Slt):List (List Slt):=match gs.getLast? with
|none=>[[x]]
|some g=>match g.getLast? with
 |none=>gs++[[x]]
 |some y=>if adj y x then gs.dropLast++[g++[x]] else gs++[[x]]
theorem DN:∀(l cur:List Slt),cur≠[]->eY cur l≠[]
|[],cur,h=>by rw[eY,amA h];simp
|x::l,cur,h=>by
  rw[eY];cases a:cur.getLast? with
 |none=>exact DN l [x] sm
 |some y=>
   simp only;split
   ·exact DN l _ sm
   ·simp
theorem Q5 {g:List Slt}{gs:List (List Slt)}{x:Slt}(h:gs≠[]):Na (g::gs) x=g::Na gs x:=by
 unfold Na;have e:(g::gs).getLast?=gs.getLast?:=by
  cases gs with
 |nil=>exact absurd rfl h
 |cons a b=>rw[List.getLast?_cons_cons]
 rw[e];cases c:gs.getLast? with
|none=>exact absurd (asI.1 c) h
|some u=>
  simp only;cases hu:u.getLast? with
 |none=>rfl
 |some y=>
   simp only;split
   ·rw[List.dropLast_cons_of_ne_nil h];rfl
   ·rfl
theorem mA (x:Slt):∀(l cur:List Slt),eY cur (l++[x])=Na (eY cur l) x
|[],cur=>by
  rw[anV,eY,eY];cases a:cur.getLast? with
 |none=>
   have b:cur=[]:=asI.1 a;subst b;rfl
 |some y=>
   have b:cur≠[]:=λe=>by rw[e] at a;cases a
   rw[amA b];unfold Na;simp only[List.getLast?_singleton,a];unfold adj;split
   ·rename_i h;rw[eY,amA sm];simp[h]
   ·rename_i h;rw[eY,amA sm];simp[h]
|z::l,cur=>by
  rw[apR,eY,eY];cases a:cur.getLast? with
 |none=>exact mA x l [z]
 |some y=>
   simp only;split
   ·exact mA x l _
   ·rw[mA x l [z],Q5 (DN l [z] sm)]
theorem GX {l:List Slt}{y:Slt}(h:l.getLast?=ax y):∃gs g,CU l=gs++[g]∧g.getLast?=ax y∧g≠[]∧g.length<=l.length:=by
 obtain⟨a,f⟩:=xX l;have b:CU l≠[]:=λe=>by
  rw[e] at a;rw[<-a] at h;cases h
 obtain⟨gs,g,e⟩:∃gs g,CU l=gs++[g]:=⟨_,_,(atU b).symm⟩;have c:g≠[]:=(f g (by rw[e];simp)).1;refine⟨gs,g,e,?_,c,?_⟩
 ·rw[e] at a;rw[<-a] at h;simp only[List.flatten_append,atA,List.flatten_nil,amY] at h;rw[List.getLast?_append] at h;cases d:g.getLast? with
 |none=>exact absurd (asI.1 d) c
 |some z=>rw[d] at h;exact h
 ·have:=congrArg List.length a;rw[e] at this;simp at this;omega
theorem VU {l:List Slt}{x y:Slt}(a:l.getLast?=ax y)(h:adj y x):∃(q:List (Int×Int)) (f:Int) (n:Nat),runs l=q++[(f,(n:Int))]∧runs (l++[x])=q++[(f,(n:Int)+1)]∧n<=l.length:=by
 obtain⟨gs,g,e,b,c,d⟩:=GX a;refine⟨gs.map run,first g,g.length,?_,?_,d⟩
 ·unfold runs;rw[e,anN];rfl
 ·unfold runs CU;rw[mA];have e':eY [] l=gs++[g]:=e;rw[e'];unfold Na;rw[List.getLast?_concat];simp only[b,amB h,List.dropLast_concat,anN,anS,apW];have:first (g++[x])=first g:=by
   cases g with
  |nil=>exact absurd rfl c
  |cons _ _=>rfl
  unfold run;rw[this,amC];simp
theorem Sr {l:List Slt}{x:Slt}(h:∀y,l.getLast?=ax y->¬adj y x):runs (l++[x])=runs l++[(x.num,1)]:=by
 unfold runs CU;rw[mA];cases a:l.getLast? with
|none=>
  have:l=[]:=asI.1 a;subst this;rfl
|some y=>
  obtain⟨gs,g,e,b,c,d⟩:=GX a;have e':eY [] l=gs++[g]:=e;rw[e'];unfold Na;rw[List.getLast?_concat];simp only[b,amA (h y a),anN,anS,apW];rfl
theorem CN (l:List Slt):(runs l).length<=l.length:=by
 obtain⟨c,d⟩:=xX l;have:∀gs:List (List Slt),(∀g∈gs,Grp g)->gs.length<=gs.flatten.length:=by
  intro gs
  induction gs with
 |nil=>intro _;simp
 |cons g gs e=>
   intro h;have a:=e λu hu=>h u (anA _ hu);have b:0 < g.length:=arC.2 (h g anQ).1;simp only[amW,atA,amC];omega
 have:=this _ d;rw[c] at this;unfold runs;simpa using this
end Tl
end
end Go.Proofs.YtlipjfcbjemicaaGreatDoor

