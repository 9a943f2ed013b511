/- Texts that go together: InfQ SInflR SInflQ InfR IrB IrC IrD SZlib SRef13 ZlA EngAK SPred SRef15 PrA PrB SAsci SAsciR SAsciQ AsA SRef14 AsR AsS AsT AsU SFilt SFilt16. -/
import Derived.Test.YtlipjfcbjemicaaGreatDoorRows
import Derived.Lib.ConvBytes
import Derived.Laws.IdiomCopy
import Derived.Test.YtlipjfcbjemicaaGreatDoorMmogppjjb
import Derived.Test.YtlipjfcbjemicaaGreatDoorMmobppmkb
import Derived.Test.YtlipjfcbjemicaaGreatDoorMmflabinf
import Derived.Test.YtlipjfcbjemicaaGreatDoorMnegemnlf
set_option linter.defProp false
set_option linter.unusedSimpArgs false
set_option linter.unusedVariables false
set_option maxRecDepth 20000
open Go.Proofs.Tryz (prog)
namespace Go.Proofs.YtlipjfcbjemicaaGreatDoor
variable{A S:Nat->Prop}{D:TypeId}{K:VWP}{M:Eng.Mem}{PK:PKT}{R:Ending->FrameMode->World->Prop}{W w w0:World}{above:List UInt8}{b cap fb h i m mo most p rb sz:Nat}{colors way:Int}{cs:List Value}{e:Eng.Ent}{q:Bool}{t0 v v2:Value}{u:FrameMode}
section
open Eng Go.RowKit
theorem TbAt.le {M N:Mem}(h:M.le N){b:Nat}{lens:List Nat}(k:TbAt M.A M.w b lens):TbAt N.A N.w b lens:=by
 obtain⟨a,c,o,h1,h2,h3⟩:=k;exact⟨a,c,o,h.A b h1,(tbE b a c (cnt lens) (fstW lens) o).keep h2 (fun k hk=>by cases hk;exact h.has b h1),h3.le h⟩
theorem Fl.YQ:∀l∈Fl.fixS,l<=15:=by
 intro l hl;have h:Fl.fixS.all (fun l=>decide (l<=15))=true:=by decide +kernel
 exact ahO (ajS.1 h l hl)
theorem Fl.YC:∀l∈Fl.fixF,l<=15:=by
 intro l hl;rw[akB hl];decide
theorem Fl.JV:Fl.fixS.length=288:=by decide +kernel
theorem Fl.BK:Fl.fixF.length=32:=by decide +kernel
theorem Fl.Ft:Fl.chk Fl.fixS=0:=by decide +kernel
theorem Fl.Fz:Fl.chk Fl.fixF=0:=by decide +kernel
def Fl.ord:List Nat:=[16,17,18,0,8,7,9,6,10,5,11,4,12,3,13,2,14,1,15]
theorem Fl.Np (h:i < 19):Fl.ord.getD i 0 < 19:=by
 have h1:(List.range 19).all (fun i=>decide (Fl.ord.getD i 0 < 19))=true:=by decide +kernel
 exact ahO (ajS.1 h1 i (aiV.2 h))
def Od (M:Mem):Prop:=M.A 2∧∀i,i < 19->M.w.cell? ⟨2,i,none⟩=some (.int .i64 ((Fl.ord.getD i 0:Nat):Int))
theorem Od.le {M N:Mem}(h:M.le N)(k:Od M):Od N:=⟨h.A _ k.1,fun i hi=>Mem.cell h.has k.1 (k.2 i hi)⟩
theorem lt19 (h:i < 19):i=0∨i=1∨i=2∨i=3∨i=4∨i=5∨i=6∨i=7∨i=8∨i=9∨i=10∨i=11∨i=12∨i=13∨i=14∨i=15∨i=16∨i=17∨i=18:=om
def Fl.clG (s:List UInt8)(p:Nat):Nat->List Nat
|0=>List.replicate 19 0
|i+1=>(Fl.clG s p i).set (Fl.ord.getD i 0) (Fl.num s (p+3*i) 3)
theorem Fl.F5 (s:List UInt8)(p:Nat):∀i,(Fl.clG s p i).length=19
|0=>rfl
|i+1=>by rw[Fl.clG,ajM,Fl.F5 s p i]
theorem Fl.Wg (s:List UInt8)(p:Nat):∀i,∀x∈Fl.clG s p i,x<=7
|0,x,h=>by rw[akB h];decide
|i+1,x,h=>by
  rcases anI h with h|h
  ·exact Fl.Wg s p i x h
  ·have:=Fl.wX s (p+3*i) 3;rw[h];omega
def Fl.dyn (s:List UInt8)(most p:Nat)(out:List UInt8):List UInt8×Nat×Int:=
 if 8*s.length < p+5 then (out,p,4)
 else if 29 < Fl.num s p 5 then (out,p,3)
 else if 8*s.length < p+10 then (out,p,4)
 else if 29 < Fl.num s (p+5) 5 then (out,p,3)
 else if 8*s.length < p+14 then (out,p,4)
 else if 8*s.length < p+14+3*(Fl.num s (p+10) 4+4) then (out,p,4)
 else
  let cl:=Fl.clG s (p+14) (Fl.num s (p+10) 4+4)
  if Fl.chk cl≠0 then (out,p,Fl.chk cl)
  else
   let r:=Fl.lens cl s (Fl.num s p 5+257+(Fl.num s (p+5) 5+1)) (p+14+3*(Fl.num s (p+10) 4+4))
   if r.2.2≠0 then (out,p,r.2.2)
   else if r.1.getD 256 0=0 then (out,p,13)
   else if Fl.chk (r.1.take (Fl.num s p 5+257))≠0 then (out,p,Fl.chk (r.1.take (Fl.num s p 5+257)))
   else if Fl.chk (r.1.drop (Fl.num s p 5+257))≠0 then (out,p,Fl.chk (r.1.drop (Fl.num s p 5+257)))
   else Fl.rE (r.1.take (Fl.num s p 5+257)) (r.1.drop (Fl.num s p 5+257)) s most r.2.1 out
def Fl.block (s:List UInt8)(most p:Nat)(out:List UInt8):List UInt8×Nat×Int:=
 if 8*s.length < p+2 then (out,p,4)
 else if Fl.num s p 2=0 then Fl.stored s most (p+2) out
 else if Fl.num s p 2=1 then Fl.rE Fl.fixS Fl.fixF s most (p+2) out
 else if Fl.num s p 2=2 then Fl.dyn s most (p+2) out
 else (out,p,3)
theorem SlA.Q6 {a:Option Addr}{n:Nat}(h:SlA A w (.slice a n cap) sz n cs)(hi:i<=n)(h0:0 < i->0 < n):SlA A w (.slice (subA a 0 cap sz) i cap) sz i (cs.take (i*sz)):=by
 obtain⟨h1,h2,h3⟩:=h;have hc:=h3 _ _ _ rfl;refine⟨Sl.upto h1 hi,fun p l c e hn=>?_,fun a l c e=>?_⟩
 ·injection e with e1 _ _
  obtain⟨q,hq,hb⟩:=GY e1;have:=h2 q n cap (by rw[hq]) (h0 hn)
  rwa [<-hb]
 ·injection e with e1 e2 e3
  omega
section
variable {w:World}{PK:PKT}{K:VWP}{S:Nat->Prop}{w0:World}{L:List Ent}
abbrev arT:TypeId:=308
theorem UC :(dB arT (.pointer (some ⟨b,0,none⟩)) none none none).run prog W=.ok (.value (.slice (some ⟨b,0,none⟩) 19 19)) W:=krx
theorem XH (hh:h<=19):(dB arT (.pointer (some ⟨b,0,none⟩)) none (some (.int .i64 (h:Int))) none).run prog W=.ok (.value (.slice (some ⟨b,0,none⟩) h 19)) W:=by
 rcases (by omega:h=19∨h < 19) with rfl|h19
 ·kernel_rfl
 ·rcases lt19 h19 with rfl|rfl|rfl|rfl|rfl|rfl|rfl|rfl|rfl|rfl|rfl|rfl|rfl|rfl|rfl|rfl|rfl|rfl|rfl<;>kernel_rfl
theorem UI (hi:i < 19):(mIA arT (.pointer (some ⟨b,0,none⟩)) (.int .i64 (i:Int))).run prog W=.ok (.value (.pointer (some ⟨b,i,none⟩))) W:=by
 rcases lt19 hi with rfl|rfl|rfl|rfl|rfl|rfl|rfl|rfl|rfl|rfl|rfl|rfl|rfl|rfl|rfl|rfl|rfl|rfl|rfl<;>kernel_rfl
theorem Yo {ov:Value}{s:List UInt8}{out:List UInt8}{T:List Ent}(ho:OwnS S w0 w (Fs fb rb s most ov way p out (.mem M::T)))(hw:way=0∨way=1)(hp:p<=8*s.length)(hs:s.length<=1000000000)(hmo:most<=1000000000)(hol:out.length<=most)
  (k1:(Fl.rE Fl.fixS Fl.fixF s most p out).2.2=0->(Fl.rE Fl.fixS Fl.fixF s most p out).2.1<=8*s.length->(Fl.rE Fl.fixS Fl.fixF s most p out).1.length<=most->∀N way' ov' W,M.le N->(way'=0∨way'=1)->OwnS S w0 W (Fs fb rb s most ov' way' (Fl.rE Fl.fixS Fl.fixF s most p out).2.1 (Fl.rE Fl.fixS Fl.fixF s most p out).1 (.mem N::T))->K (.tuple #[]) W)
  (k2:(Fl.rE Fl.fixS Fl.fixF s most p out).2.2≠0->∀N ov' way' p' out' W,M.le N->OwnS S w0 W (Fs fb rb s most ov' way' p' out' (.mem N::T))->PK [upI (Fl.rE Fl.fixS Fl.fixF s most p out).2.2] W) :
  CallX prog 307 #[.pointer (some ⟨fb,0,none⟩)] w PK K:=by
 refine⟨rZ ?_⟩;unfold lO nz;refine bF ho 3 rfl (Ip M w (ho.hasM 3 rfl)) ?_;rintro _ N1 w1 g1 ⟨a,b,rfl,ha,hb⟩ ho;have ho:OwnS S w0 w1 (Fs fb rb s most ov way p out (.mem N1::T)):=ho;simp only[ex];refine bF ho 3 rfl (BS Fl.fixS a N1 w1 Fl.YQ (by rw[Fl.JV];omega) (by rw[Fl.JV];omega) (ho.hasM 3 rfl) ha) ?_;intro v N2 w2 g2 hv ho;rw[agV (by rw[Fl.Ft];decide)] at hv;obtain⟨tb,rfl,htb⟩:=hv;have ho:OwnS S w0 w2 (Fs fb rb s most ov way p out (.mem N2::T)):=ho;simp only[ex];refine qE (fun _=>?_) (fun h=>absurd rfl h);refine bF ho 3 rfl (BS Fl.fixF b N2 w2 Fl.YC (by rw[Fl.BK];omega) (by rw[Fl.BK];omega) (ho.hasM 3 rfl) (hb.le g2)) ?_;intro v N3 w3 g3 hv ho;rw[agV (by rw[Fl.Fz];decide)] at hv;obtain⟨td,rfl,htd⟩:=hv;have ho:OwnS S w0 w3 (Fs fb rb s most ov way p out (.mem N3::T)):=ho;simp only[ex];refine qE (fun _=>?_) (fun h=>absurd rfl h);have hle:=g1.trans (g2.trans g3);exact SJ 0 ho rfl (htb.le g3) htd (by rw[Fl.JV];omega) (by rw[Fl.BK];omega) hw hp hs hmo hol (fun h1 h2 h3 way' ov' W hw' ho=>k1 h1 h2 h3 N3 way' ov' W hle hw' ho) (fun h1 ov' way' p' out' W ho=>k2 h1 N3 ov' way' p' out' W hle ho)
theorem SK (l:List Nat)(i n:Nat):aR (l.set i n)=(aR l).set i (.int .i64 (n:Int)):=by simp[aR,anJ]
theorem Sq {ov:Value}{s:List UInt8}{out:List UInt8}{T:List Ent}(ho:OwnS S w0 w (Fs fb rb s most ov way p out (.mem M::T)))(hrp:Rp M)(hod:Od M)(hw:way=0∨way=1)(hp:p<=8*s.length)(hs:s.length<=1000000000)(hmo:most<=1000000000)(hol:out.length<=most)
  (k1:(Fl.dyn s most p out).2.2=0->(Fl.dyn s most p out).2.1<=8*s.length->(Fl.dyn s most p out).1.length<=most->∀N way' ov' W,M.le N->(way'=0∨way'=1)->OwnS S w0 W (Fs fb rb s most ov' way' (Fl.dyn s most p out).2.1 (Fl.dyn s most p out).1 (.mem N::T))->K (.tuple #[]) W)
  (k2:(Fl.dyn s most p out).2.2≠0->∀N ov' way' p' out' W,M.le N->OwnS S w0 W (Fs fb rb s most ov' way' p' out' (.mem N::T))->PK [upI (Fl.dyn s most p out).2.2] W) :
  CallX prog 308 #[.pointer (some ⟨fb,0,none⟩)] w PK K:=by
 generalize hX:Fl.dyn s most p out=X at k1 k2;unfold Fl.dyn at hX;dsimp only at hX;refine⟨pC ?_⟩;unfold jH nz;have h5:(2:Nat) ^ 5=32:=dc
 have h4:(2:Nat) ^ 4=16:=dc
 refine nY (n:=5) 0 1 ho rfl rfl hw hp om hs (fun e1 W1 ho=>?_) (fun e1 W1 ho=>?_)
 rotate_left
 ·rw[agW e1] at hX;subst hX;exact k2 (by dsimp only;decide) M _ _ _ _ _ M.le_refl ho
 rw[agV om] at hX;have ho:OwnS S w0 W1 (Fs fb rb s most ov 1 (p+5) out (.mem M::T)):=ho;have n1:=Fl.wX s p 5;generalize Fl.num s p 5=hl at hX n1
 try simp only[rs]
 rw[aA om om];refine iJ (fun e2=>?_) (fun e2=>?_)
 rotate_left
 ·have:=aiK e2;rw[agW om] at hX;subst hX;exact k2 (by dsimp only;decide) M _ _ _ _ _ M.le_refl ho
 have e2:=ahO e2;rw[agV om] at hX;refine nY (n:=5) 0 1 ho rfl rfl (.inr rfl) e1 om hs (fun e3 W2 ho=>?_) (fun e3 W2 ho=>?_)
 rotate_left
 ·rw[agW om] at hX;subst hX;exact k2 (by dsimp only;decide) M _ _ _ _ _ M.le_refl ho
 rw[agV om] at hX;have ho:OwnS S w0 W2 (Fs fb rb s most ov 1 (p+5+5) out (.mem M::T)):=ho;have n2:=Fl.wX s (p+5) 5;generalize Fl.num s (p+5) 5=hd at hX n2
 try simp only[rs]
 rw[aA om om];refine iJ (fun e4=>?_) (fun e4=>?_)
 rotate_left
 ·have:=aiK e4;rw[agW om] at hX;subst hX;exact k2 (by dsimp only;decide) M _ _ _ _ _ M.le_refl ho
 have e4:=ahO e4;rw[agV om] at hX;refine bC (fun b=>.pointer (some ⟨b,0,none⟩)) (aR (List.replicate 19 0)) arT (fun _=>by kernel_rfl) ho fun ab W3 ho=>?_;refine nY (n:=4) 1 2 ho rfl rfl (.inr rfl) e3 om hs (fun e5 W4 ho=>?_) (fun e5 W4 ho=>?_)
 rotate_left
 ·rw[agW om] at hX;subst hX;exact k2 (by dsimp only;decide) M _ _ _ _ _ M.le_refl ho.tail
 rw[agV om] at hX;have ho:OwnS S w0 W4 (.cells ab (aR (List.replicate 19 0)) arT::Fs fb rb s most ov 1 (p+14) out (.mem M::T)):=ho;have n3:=Fl.wX s (p+10) 4;rw[show Fl.num s (p+5+5) 4=Fl.num s (p+10) 4 from rfl];generalize Fl.num s (p+10) 4=hc at hX n3
 try simp only[rs]
 rw[aA om om,show (hc:Int)+4=((hc+4:Nat):Int) by omega];refine aE (XH om) |>.mpr ?_;have hlen:∀W:World,DoX prog (mB .len #[123] 3 #[false] #[.slice (some ⟨2,0,none⟩) (hc+4) 19]) W (Eng.pk fun _ _=>True) (fun v _=>v=.int .i64 ((hc+4:Nat):Int)):=fun W=>by
  refine jU (v:=.int .i64 ((hc+4:Nat):Int)) (w':=W) ?_ rfl;simp[mB,builtin,Builtin.len_,run_underlying ahS,goInt]
 clear hlen;refine jU (v:=.int .i64 ((hc+4:Nat):Int)) (w':=W4) (by simp[mB,builtin,Builtin.len_,run_underlying ahS,goInt]) ?_;have hr0:aR (List.replicate 19 0)=aR (Fl.clG s (p+14) 0):=rfl;rw[hr0] at ho;refine loop (fun vs W=>∃i:Nat,vs=[.int .i64 (i:Int)]∧i<=hc+4∧p+14+3*i<=8*s.length∧OwnS S w0 W (.cells ab (aR (Fl.clG s (p+14) i)) arT::Fs fb rb s most ov 1 (p+14+3*i) out (.mem M::T))) (fun vs _=>hc+4 - n0 vs) ⟨0,rfl,om,om,ho⟩ ?_;clear ho;rintro vs w5 ⟨i,rfl,hi,hpi,ho⟩ _;simp only[iD,gd,rs,iN,ldx,bnx,iax,exx,stx,slx,cx];by_cases hlt:(i:Int) < ((hc+4:Nat):Int)
 ·simp only[hlt,agY,i_t];have hi19:i < 19:=om
  have hia:=eE (P:=prog) (T:=123) (b:=2) (off:=0) (cap:=19) (n:=hc+4) (k:=.i64) (i:=(i:Int)) (w:=w5) ahS szI1 om om;rw[ahI,ahZ,ahJ] at hia;refine aE hia |>.mpr ?_;rw[aO cI (Mem.cell (ho.hasM 4 rfl) hod.1 (hod.2 i hi19))];refine nY (n:=3) 1 2 ho rfl rfl (.inr rfl) hpi om hs (fun e6 W6 ho=>?_) (fun e6 W6 ho=>?_)
  rotate_left
  ·rw[agW om] at hX;subst hX;exact k2 (by dsimp only;decide) M _ _ _ _ _ M.le_refl ho.tail
  have ho:OwnS S w0 W6 (.cells ab (aR (Fl.clG s (p+14) i)) arT::Fs fb rb s most ov 1 (p+14+3*i+3) out (.mem M::T)):=ho;have ho19:=Fl.Np hi19;refine aE (UI ho19) |>.mpr ?_;refine aN 0 ho rfl krx rfl (by rw[eQ,Fl.F5];exact ho19) fun w7 ho=>?_
  try simp only[rs]
  rw[aA om om];refine aY ⟨i+1,rfl,om,om,?_⟩ (by simp[n0,RowKit.intOf];omega);rw[Fl.clG,SK];exact ho
 simp only[hlt,agX,i_f];have hie:i=hc+4:=om
 subst hie;rw[agV om] at hX;have hcl:=Fl.F5 s (p+14) (hc+4);have hc7:=Fl.Wg s (p+14) (hc+4);generalize Fl.clG s (p+14) (hc+4)=cl at hX hcl hc7 ho;refine aE UC |>.mpr ?_;have his:=ho.at_ 0 rfl;obtain⟨N1,g1,hw1,hblk,ho⟩:=OwnS.freeze (L:=Fs fb rb s most ov 1 (p+14+3*(hc+4)) out (.mem M::T)) ho 3 rfl;have ho:OwnS S w0 w5 (Fs fb rb s most ov 1 (p+14+3*(hc+4)) out (.mem N1::T)):=ho;have hsl:SlA N1.A N1.w (.slice (some ⟨ab,0,none⟩) 19 19) 1 cl.length (aR cl):=by
  rw[hw1,hcl];refine⟨Sl.cells his 1 19 19 (by rw[eQ,hcl]),fun q l c e _=>?_,fun a l c e=>?_⟩
  ·injection e with e1 e2 e3
   cases e1;exact hblk ab rfl
  ·injection e with e1 e2 e3
   omega
 refine bF ho 3 rfl (BS cl _ N1 w5 (fun l h=>by have:=hc7 l h;omega) om om (ho.hasM 3 rfl) hsl) ?_;intro v N2 w6 g2 hv ho;have ho:OwnS S w0 w6 (Fs fb rb s most ov 1 (p+14+3*(hc+4)) out (.mem N2::T)):=ho;by_cases hck:Fl.chk cl=0
 case neg=>
  rw[agW hck] at hv;subst hv;rw[agW hck] at hX;subst hX;simp only[ex];refine qE (fun h=>absurd h hck) (fun _=>?_);exact k2 hck N2 _ _ _ _ _ (g1.trans g2) ho
 rw[agV (by simp[hck])] at hv;obtain⟨tb,rfl,htb⟩:=hv;rw[agV (by simp[hck])] at hX;simp only[ex];refine qE (fun _=>?_) (fun h=>absurd rfl h)
 try simp only[rs]
 rw[aA om om,show (hl:Int)+257+((hd:Int)+1)=((hl+257+(hd+1):Nat):Int) by omega];have g12:=g1.trans g2;refine Qy 0 ho rfl htb hcl (hrp.le g12) (.inr rfl) hpi hs om (fun e1 e2 e3 e4 way' lv W hw' ho=>?_) (fun e1 way' p' W ho=>?_)
 rotate_left
 ·rw[agW e1] at hX;subst hX;exact k2 e1 N2 _ _ _ _ _ g12 ho
 rw[agV (by rw[e1];decide)] at hX;generalize Fl.lens cl s (hl+257+(hd+1)) (p+14+3*(hc+4))=r at hX e2 e3 e4 ho;obtain⟨l,q,e⟩:=r;dsimp only at hX e2 e3 e4 ho;obtain⟨N3,g3,hrow,ho⟩:=OwnS.cG (L:=Fs fb rb s most ov way' q out (.mem N2::T)) ho 3 rfl;have ho:OwnS S w0 W (Fs fb rb s most ov way' q out (.mem N3::T)):=ho;have g13:=g12.trans g3;have h256:256 < l.length:=om
 obtain⟨b6,off,r1,r2⟩:=mD (hrow.now (ho.hasM 3 rfl)) h256;refine aE (r1 W) |>.mpr (aE (aB cI r2) |>.mpr ?_);have hgd:l.getD 256 0=l[256]:=by rw[ahC,ahH h256];rfl
 try simp only[rs]
 refine iJ (fun e5=>?_) (fun e5=>?_)
 rotate_left
 ·have:=aiK e5;rw[agW (by rw[hgd];omega)] at hX;subst hX;exact k2 (by dsimp only;decide) N3 _ _ _ _ _ g13 ho
 have e5:=ahO e5;rw[agV (by rw[hgd];omega)] at hX;obtain⟨la,lc,hlv,hcap⟩:=hrow.form;rw[hlv] at hrow ⊢;have ho:=ho.drew;refine⟨fun _=>True,trivial,?_⟩;refine aM _ (fun _=>jD ahS szI1 om om) (aM _ (fun _=>dJ ahS szI1 om om) ?_);have hA:SlA N3.A N3.w (.slice (subA la 0 lc 1) (hl+257) lc) 1 (l.take (hl+257)).length (aR (l.take (hl+257))):=by
  have:=hrow.Q6 (i:=hl+257) om om;rw[ahE,aiH om];rw[ahZ] at this;have e:aR (l.take (hl+257))=(aR l).take (hl+257):=by unfold aR;rw[amL]
  rw[e];exact this
 have hB:SlA N3.A N3.w (.slice (subA la (hl+257) lc 1) (l.length - (hl+257)) (lc - (hl+257))) 1 (l.drop (hl+257)).length (aR (l.drop (hl+257))):=by
  have:=hrow.WT (i:=hl+257) om;rw[ahL];rw[ahZ] at this;have e:aR (l.drop (hl+257))=(aR l).drop (hl+257):=by unfold aR;rw[List.map_drop]
  rw[e];exact this
 rw[show ((hl:Int)+257).toNat=hl+257 by omega];have t15:∀x∈l.take (hl+257),x<=15:=fun x hx=>e4 x (ajK hx);have d15:∀x∈l.drop (hl+257),x<=15:=fun x hx=>e4 x (akQ hx);have tl:(l.take (hl+257)).length=hl+257:=by rw[ahE];omega
 have dl:(l.drop (hl+257)).length=hd+1:=by rw[ahL];omega
 generalize l.take (hl+257)=near at hX hA t15 tl;generalize l.drop (hl+257)=far at hX hB d15 dl;refine bF ho 3 rfl (BS near _ N3 _ t15 om om (ho.hasM 3 rfl) hA) ?_;intro v N4 w8 g4 hv ho;have ho:OwnS S w0 w8 (Fs fb rb s most ov way' q out (.mem N4::T)):=ho;have g14:=g13.trans g4;refine⟨trivial,?_⟩;by_cases hck2:Fl.chk near=0
 case neg=>
  rw[agW hck2] at hv;subst hv;rw[agW hck2] at hX;subst hX;refine Ih (DS ?_);refine qE (fun h=>absurd h hck2) (fun _=>?_)
  repeat intro _
  exact k2 hck2 N4 _ _ _ _ _ g14 ho
 rw[agV (by simp[hck2])] at hv;obtain⟨tn,rfl,htn⟩:=hv;rw[agV (by simp[hck2])] at hX;refine Ih (DS ?_);refine qE (fun _=>?_) (fun h=>absurd rfl h);refine⟨trivial,?_⟩;refine bF ho 3 rfl (BS far _ N4 _ d15 om om (ho.hasM 3 rfl) (hB.le g4)) ?_;intro v N5 w9 g5 hv ho;have ho:OwnS S w0 w9 (Fs fb rb s most ov way' q out (.mem N5::T)):=ho;have g15:=g14.trans g5;refine⟨trivial,?_⟩;by_cases hck3:Fl.chk far=0
 case neg=>
  rw[agW hck3] at hv;subst hv;rw[agW hck3] at hX;subst hX;refine Ih (DS ?_);refine qE (fun h=>absurd h hck3) (fun _=>?_)
  repeat intro _
  exact k2 hck3 N5 _ _ _ _ _ g15 ho
 rw[agV (by simp[hck3])] at hv;obtain⟨tf,rfl,htf⟩:=hv;rw[agV (by simp[hck3])] at hX;refine Ih (DS ?_);refine qE (fun _=>?_) (fun h=>absurd rfl h);refine⟨trivial,?_⟩;refine SJ 0 ho rfl (htn.le g5) htf om om hw' e2 hs hmo hol (fun h1 h2 h3 way' ov' W hw' ho=>?_) (fun h1 ov' way' p' out' W ho=>?_)
 ·refine⟨trivial,?_⟩;rw[hX] at h1 h2 h3 ho;exact k1 h1 h2 h3 N5 way' ov' W g15 hw' ho
 ·rw[hX] at h1 ⊢
  repeat intro _
  exact k2 h1 N5 ov' way' p' out' W g15 ho
theorem XE {ov:Value}{s:List UInt8}{out:List UInt8}{T:List Ent}(ho:OwnS S w0 w (Fs fb rb s most ov way p out (.mem M::T)))(hrp:Rp M)(hod:Od M)(hw:way=0∨way=1)(hp:p<=8*s.length)(hs:s.length<=1000000000)(hmo:most<=1000000000)(hol:out.length<=most)
  (k0:8*s.length < p+1->∀N ov' way' p' out' W,M.le N->OwnS S w0 W (Fs fb rb s most ov' way' p' out' (.mem N::T))->PK [upI 4] W)
  (k1:p+1<=8*s.length->(Fl.block s most (p+1) out).2.2=0->(Fl.block s most (p+1) out).2.1<=8*s.length->(Fl.block s most (p+1) out).1.length<=most->∀N way' ov' W,M.le N->(way'=0∨way'=1)->OwnS S w0 W (Fs fb rb s most ov' way' (Fl.block s most (p+1) out).2.1 (Fl.block s most (p+1) out).1 (.mem N::T))->K (.bool (decide (Fl.num s p 1=1))) W)
  (k2:p+1<=8*s.length->(Fl.block s most (p+1) out).2.2≠0->∀N ov' way' p' out' W,M.le N->OwnS S w0 W (Fs fb rb s most ov' way' p' out' (.mem N::T))->PK [upI (Fl.block s most (p+1) out).2.2] W) :
  CallX prog 274 #[.pointer (some ⟨fb,0,none⟩)] w PK K:=by
 refine⟨rO ?_⟩;unfold lE nz;refine nY (n:=1) 0 1 ho rfl rfl hw hp om hs (fun e1 W1 ho=>?_) (fun e1 W1 ho=>?_)
 rotate_left
 ·exact k0 e1 M _ _ _ _ _ M.le_refl ho
 have ho:OwnS S w0 W1 (Fs fb rb s most ov 1 (p+1) out (.mem M::T)):=ho;have k1:=k1 e1;have k2:=k2 e1;generalize hX:Fl.block s most (p+1) out=X at k1 k2;unfold Fl.block at hX
 try simp only[rs]
 rw[show decide ((Fl.num s p 1:Int)=1)=decide (Fl.num s p 1=1) by congr 1;exact propext om];refine join fun J hJ=>?_;have fin:∀N way' ov' W,M.le N->(way'=0∨way'=1)->X.2.2=0->X.2.1<=8*s.length->X.1.length<=most->OwnS S w0 W (Fs fb rb s most ov' way' X.2.1 X.1 (.mem N::T))->J [] W:=by
  intro N way' ov' W hle hw' h1 h2 h3 ho;refine hJ _ _ fun _=>?_;simp only[jK,nz];exact k1 h1 h2 h3 N way' ov' W hle hw' ho
 refine nY (n:=2) 0 1 ho rfl rfl (.inr rfl) e1 om hs (fun e2 W2 ho=>?_) (fun e2 W2 ho=>?_)
 rotate_left
 ·rw[agW e2] at hX;subst hX;exact k2 (by dsimp only;decide) M _ _ _ _ _ M.le_refl ho
 rw[agV om] at hX;have ho:OwnS S w0 W2 (Fs fb rb s most ov 1 (p+1+2) out (.mem M::T)):=ho
 try simp only[rs]
 by_cases hk0:Fl.num s (p+1) 2=0
 ·simp only[show decide ((Fl.num s (p+1) 2:Int)=0)=true from ahB om,i_t];rw[agW hk0] at hX;refine Uv ho (.inr rfl) e2 hs hmo hol (fun h1 h2 h3 way' ov' W hw' ho=>?_) (fun h1 ov' way' p' out' W ho=>?_)
  ·rw[hX] at h1 h2 h3 ho;exact fin M way' ov' W M.le_refl hw' h1 h2 h3 ho
  ·rw[hX] at h1 ⊢;exact k2 h1 M _ _ _ _ _ M.le_refl ho
 simp only[show decide ((Fl.num s (p+1) 2:Int)=0)=false from ahA om,i_f];rw[agV hk0] at hX
 try simp only[rs]
 by_cases hk1:Fl.num s (p+1) 2=1
 ·simp only[show decide ((Fl.num s (p+1) 2:Int)=1)=true from ahB om,i_t];rw[agW hk1] at hX;refine Yo ho (.inr rfl) e2 hs hmo hol (fun h1 h2 h3 N way' ov' W hle hw' ho=>?_) (fun h1 N ov' way' p' out' W hle ho=>?_)
  ·rw[hX] at h1 h2 h3 ho;exact fin N way' ov' W hle hw' h1 h2 h3 ho
  ·rw[hX] at h1 ⊢;exact k2 h1 N _ _ _ _ _ hle ho
 simp only[show decide ((Fl.num s (p+1) 2:Int)=1)=false from ahA om,i_f];rw[agV hk1] at hX
 try simp only[rs]
 by_cases hk2:Fl.num s (p+1) 2=2
 ·simp only[show decide ((Fl.num s (p+1) 2:Int)=2)=true from ahB om,i_t];rw[agW hk2] at hX;refine Sq ho hrp hod (.inr rfl) e2 hs hmo hol (fun h1 h2 h3 N way' ov' W hle hw' ho=>?_) (fun h1 N ov' way' p' out' W hle ho=>?_)
  ·rw[hX] at h1 h2 h3 ho;exact fin N way' ov' W hle hw' h1 h2 h3 ho
  ·rw[hX] at h1 ⊢;exact k2 h1 N _ _ _ _ _ hle ho
 simp only[show decide ((Fl.num s (p+1) 2:Int)=2)=false from ahA om,i_f];rw[agV hk2] at hX;subst hX;exact iJ (fun h=>absurd h dc) fun _=>k2 (by dsimp only;decide) M _ _ _ _ _ M.le_refl ho
end
end
section
open Eng
def bJ (x0:Deferred)(x1:Value)(x2:Value)(x3:Value)(K:Ending->World->Prop):=pd prog [.cell x1 9,.cell x2 3,.cell x3 30] K [x0]
def xI(a b c d d1 w)(N2:JT)(K:KT):=
 CallX prog 274 #[d] w (bJ d1 a b c K) fun e w=>DoX prog (mUn .not e) w (bJ d1 a b c K) fun f w=>IfX f (AtX [d1] [d1] (N2 [] w)) (QuietX w (fun C3=>QDo prog C3 (mNil d) fun g=>QDo prog C3 (mFA 278 g 1) fun h=>QDo prog C3 (aI 53 h) fun i=>QDo prog C3 (gL 53 9 i) fun j=>QDo prog C3 (mNil d) fun k=>QDo prog C3 (mFA 278 k 0) fun l=>QDo prog C3 (aI 275 l) fun m=>QCall prog C3 275 #[m] fun n=>
 ∀w,C3 w ->
 DoX prog (aS 9 a j) w (bJ d1 a b c K) fun _ w=>DoX prog (aS 3 b n) w (bJ d1 a b c K) fun _ w=>DoX prog (aS 30 c (iN 0)) w (bJ d1 a b c K) fun _ w=>AR prog [.cell a 9,.cell b 3,.cell c 30] K [d1] .returning w))
def BO(e d w)(K:KT):=
 alx 9 w K fun a w=>alx 3 w K fun b w=>alx 30 w K fun c w=>dx (PM (.func 271) #[] #[a,b,c]) w K fun f w=>DfrX (dfrV f #[]) (fun d1=>DoX prog (mBin .geq 3 d (iN 0)) w (bJ d1 a b c K) fun g w=>CallX prog 272 #[g,(iN 1)] w (bJ d1 a b c K) fun l w=>CallX prog 273 #[e] w (bJ d1 a b c K) fun h w=>DoX prog (mB .min #[3,3] 3 #[false,true] #[d,(iN 1048576)]) w (bJ d1 a b c K) fun i w=>DoX prog (aZ 278 #[(0,h),(2,i)]) w (bJ d1 a b c K) fun j w=>DoX prog (mBox 278 j) w (bJ d1 a b c K) fun k w=>LoopX [] w (fun vs2 w N2=>∀_:Sg,xI a b c k d1 w N2 K))
theorem EH{t0 t1 w K}(h:BO t0 t1 w K):Calls prog 239 #[t0,t1] w K:=cz [] [(4,[])] Tryz.func239 h
end
section
open Eng
def dM(w)(K:KT):=
 K (.returned (.tuple #[])) w
def jJ(d a b r w)(K:KT):=
 eqx .eql 20 (.tmp 6) (.const .nilIface) r .nilIface w K fun g w=>IfX g (K (.returned (.tuple #[])) w) (dx (mTA r 20 273 true) w K fun f w=>exx f 1 w K fun h w=>exx f 0 w K fun i w=>IfX h (alx 273 w K fun c w=>stx 273 c i w K fun _ w=>DrawX w (fun w=>(fax 273 c 0 w K fun e w=>(ldx 30 e w K fun j w=>stx 9 d (.string ⟨#[]⟩) w K fun _ w=>stx 3 a (iN 0) w K fun _ w=>stx 30 b j w K fun _ w=>dM w K)∧(stx 9 d (.string ⟨#[]⟩) w K fun _ w=>(ldx 30 e w K fun t13_1 w=>stx 3 a (iN 0) w K fun _ w=>stx 30 b t13_1 w K fun _ w=>dM w K)∧(stx 3 a (iN 0) w K fun _ w=>ldx 30 e w K fun t13_2 w=>stx 30 b t13_2 w K fun _ w=>dM w K)))∧(stx 9 d (.string ⟨#[]⟩) w K fun _ w=>(fax 273 c 0 w K fun t12_1 w=>(ldx 30 t12_1 w K fun t13_3 w=>stx 3 a (iN 0) w K fun _ w=>stx 30 b t13_3 w K fun _ w=>dM w K)∧(stx 3 a (iN 0) w K fun _ w=>ldx 30 t12_1 w K fun t13_4 w=>stx 30 b t13_4 w K fun _ w=>dM w K))∧(stx 3 a (iN 0) w K fun _ w=>fax 273 c 0 w K fun t12_2 w=>ldx 30 t12_2 w K fun t13_5 w=>stx 30 b t13_5 w K fun _ w=>dM w K)))) (dx (Ev r) w K fun _ w=>K (.returned (.tuple #[])) w))
theorem BR (t0 t1 t2 r:Value)(w:World)(K:Ending->World->Prop):wpX prog 14 [] [] none (VQ (Ag Tryz.f271)) (topD prog [] K) (upd (jW [t0,t1,t2]) 6 r) [] w=jJ t0 t1 t2 r w K:=krx
theorem nN {t1 t2:Value}(h:jJ t0 t1 t2 (recV u) w (fun e w=>R e (recM u) w)):CallsD prog 271 #[t0,t1,t2] u w R:=
 qK Tryz.func271 rfl rfl rfl rfl rfl rfl rfl rfl (Eq.mpr (BR t0 t1 t2 (recV u) w _) h)
end
section
open Eng Go.RowKit
theorem Fl.zE (near far:List Nat)(s:List UInt8)(most:Nat):∀(f p:Nat) (out:List UInt8),(Fl.vA near far s most f p out).2.2=0->p<=(Fl.vA near far s most f p out).2.1
|0,_,_,h=>by simp[Fl.vA] at h
|f+1,p,out,h=>by
  unfold Fl.vA at h ⊢;dsimp only at h ⊢;split
  ·exact ahD _
  rename_i h1;rw[agV h1] at h
  have:=Fl.Fw (Decidable.not_not.1 h1);split
  ·rename_i h2;rw[agW h2] at h
   split
   ·exact ahD _
   rename_i h3;rw[agV h3] at h
   have:=Fl.zE near far s most f _ _ h;omega
  rename_i h2;rw[agV h2] at h
  split
  ·dsimp only;omega
  rename_i h3;rw[agV h3] at h
  split
  ·exact ahD _
  rename_i h4;rw[agV h4] at h
  have h5:=Fl.IL (Decidable.not_not.1 h4);have:=Fl.zE near far s most f _ _ h;omega
theorem Fl.GO (cl:List Nat)(s:List UInt8)(n:Nat):∀(f p:Nat) (l:List Nat),(Fl.Fh cl s n f p l).2.2=0->p<=(Fl.Fh cl s n f p l).2.1
|0,_,_,h=>by simp[Fl.Fh] at h
|f+1,p,l,h=>by
  unfold Fl.Fh at h ⊢;dsimp only at h ⊢;split
  ·exact ahD _
  rename_i h0;rw[agV h0] at h
  split
  ·exact ahD _
  rename_i h1;rw[agV h1] at h
  have:=Fl.Fw (Decidable.not_not.1 h1);split
  ·rename_i h2;rw[agW h2] at h
   have:=Fl.GO cl s n f _ _ h;omega
  rename_i h2;rw[agV h2] at h
  split
  ·exact ahD _
  rename_i h3;rw[agV h3] at h
  split
  ·exact ahD _
  rename_i h4;rw[agV h4] at h
  split
  ·exact ahD _
  rename_i h5;rw[agV h5] at h
  have:=Fl.GO cl s n f _ _ h;omega
theorem Fl.PR {s:List UInt8}{out:List UInt8}(h:(Fl.stored s most p out).2.2=0):p<=(Fl.stored s most p out).2.1:=by
 unfold Fl.stored at h ⊢;dsimp only at h ⊢
 repeat' split
 all_goals first|exact ahD _|(dsimp only;omega)
theorem Fl.Ya {s:List UInt8}{out:List UInt8}(h:(Fl.dyn s most p out).2.2=0):p<=(Fl.dyn s most p out).2.1:=by
 unfold Fl.dyn at h ⊢;by_cases h1:8*s.length < p+5
 ·rw[agW h1];exact ahD _
 rw[agV h1] at h ⊢;by_cases h2:29 < Fl.num s p 5
 ·rw[agW h2];exact ahD _
 rw[agV h2] at h ⊢;by_cases h3:8*s.length < p+10
 ·rw[agW h3];exact ahD _
 rw[agV h3] at h ⊢;by_cases h4:29 < Fl.num s (p+5) 5
 ·rw[agW h4];exact ahD _
 rw[agV h4] at h ⊢;by_cases h5:8*s.length < p+14
 ·rw[agW h5];exact ahD _
 rw[agV h5] at h ⊢;by_cases h6:8*s.length < p+14+3*(Fl.num s (p+10) 4+4)
 ·rw[agW h6];exact ahD _
 rw[agV h6] at h ⊢;have hq:p<=p+14+3*(Fl.num s (p+10) 4+4):=om
 generalize p+14+3*(Fl.num s (p+10) 4+4)=q at h hq ⊢;generalize Fl.clG s (p+14) (Fl.num s (p+10) 4+4)=cl at h ⊢;generalize Fl.num s p 5+257=hl at h ⊢;generalize hl+(Fl.num s (p+5) 5+1)=n at h ⊢;have hadv:(Fl.lens cl s n q).2.2=0->q<=(Fl.lens cl s n q).2.1:=Fl.GO cl s n _ _ _;dsimp only at h ⊢;generalize Fl.lens cl s n q=r at h hadv ⊢;obtain⟨l,q2,e⟩:=r;dsimp only at h hadv ⊢;by_cases h7:Fl.chk cl≠0
 ·rw[agW h7];exact ahD _
 rw[agV h7] at h ⊢;by_cases h8:e≠0
 ·rw[agW h8];exact ahD _
 rw[agV h8] at h ⊢;by_cases h9:l.getD 256 0=0
 ·rw[agW h9];exact ahD _
 rw[agV h9] at h ⊢;by_cases h10:Fl.chk (l.take hl)≠0
 ·rw[agW h10];exact ahD _
 rw[agV h10] at h ⊢;by_cases h11:Fl.chk (l.drop hl)≠0
 ·rw[agW h11];exact ahD _
 rw[agV h11] at h ⊢;have h12:q2<=(Fl.rE (l.take hl) (l.drop hl) s most q2 out).2.1:=Fl.zE _ _ _ _ _ _ _ h;have:=hadv (Decidable.not_not.1 h8);omega
theorem Fl.RA {s:List UInt8}{most p:Nat}{out:List UInt8}(h:(Fl.block s most p out).2.2=0):p<=(Fl.block s most p out).2.1:=by
 unfold Fl.block at h ⊢;split
 ·exact ahD _
 rename_i h1;rw[agV h1] at h
 split
 ·rename_i h2;rw[agW h2] at h
  have:=Fl.PR h;omega
 rename_i h2;rw[agV h2] at h
 split
 ·rename_i h3;rw[agW h3] at h
  have:=Fl.zE _ _ _ _ _ _ _ h;unfold Fl.rE;omega
 rename_i h3;rw[agV h3] at h
 split
 ·rename_i h4;rw[agW h4] at h
  have:=Fl.Ya h;omega
 exact ahD _
namespace Eng
section
variable {P:Program}{w:World}
theorem KJ {S E:TypeId}{l:List UInt8}(hs:P.underlying S=some (.slice E))(he:P.underlying E=some (.int .u8))(hd:P.underlying D=some .string)(h:Sl w v 1 l.length (aH l)):(gL S D v).run P w=.ok (.value (.string ⟨l.toArray⟩)) w:=by
 obtain⟨hl,a,cap,rfl,hn,hc⟩:=h;cases a with
|none=>
  have h0:=hn rfl;have:l=[]:=akY h0;subst this;exact bL (run_convert_bytes_nil w S E hs he _ _ D hd)
|some p=>
  obtain⟨hsp,hcell⟩:=hc p rfl;by_cases h0:l=[]
  ·subst h0;refine bL ?_;have hl0:(loadCells p 0).run P w=.ok (([]:List Int).map (Value.int .u8)).toArray w:=rfl;rw[show ([]:List UInt8).length=0 from rfl,run_convert_bytes_string w S D E _ 0 cap hs he hd,run_bytesToString w p 0 cap [] hl0];rfl
  replace hsp:=hsp (akN.2 h0)
  obtain⟨b,off,spot⟩:=p;simp only at hsp hcell;subst hsp;have:=run_convert_bytes_arg (P:=P) w S E hs he b off l.length cap (l.map fun c=>(c.toNat:Int)) sm (fun i hi=>by
   refine hcell i _ ?_;simp[aH,ahH hi]) D hd
  refine bL ?_;rw[this];have e:strOfNums (l.map fun c=>(c.toNat:Int))=⟨l.toArray⟩:=by
   unfold strOfNums;rw[akZ]
   congr 2
   conv=>rhs;rw[<-List.map_id l]
   refine alW fun c _=>?_;simp
  rw[e]
end
end Eng
def Fl.allG (s:List UInt8)(most:Nat):Nat->Nat->List UInt8->List UInt8×Nat×Int
|0,_,_=>([],0,13)
|f+1,p,out=>
  if 8*s.length < p+1 then ([],0,4)
  else
   let r:=Fl.block s most (p+1) out
   if r.2.2≠0 then ([],0,r.2.2)
   else if Fl.num s p 1=1 then (r.1,(r.2.1+7) / 8,0)
   else Fl.allG s most f r.2.1 r.1
def Fl.all (s:List UInt8)(most:Int):List UInt8×Nat×Int:=if most < 0 then ([],0,1) else Fl.allG s (min most.toNat 1048576) (8*s.length+1) 0 []
def flT (x:List UInt8×Nat×Int):Value:=.tuple #[.string ⟨x.1.toArray⟩,.int .i64 (x.2.1:Int),.int .i64 x.2.2]
abbrev FP (b:Nat)(l:List UInt8):Ent:=.cells b [.string ⟨l.toArray⟩] 9
abbrev L3 (b:Nat)(n:Int):Ent:=.cells b [.int .i64 n] 3
abbrev GL (b:Nat)(e:Int):Ent:=.cells b [.int .i64 e] 30
theorem HS:bZ prog 271=true:=krx
theorem nfUp:kT prog 273=true:=krx
theorem afR:fOff prog 273 0=some 0:=krx
theorem szUp:(Tryz.prog.info? 273).map (·.size)=some 1:=krx
section
variable {w:World}{PK:PKT}{K:VWP}{S:Nat->Prop}{w0:World}{L:List Ent}
theorem Sr (s:List UInt8)(ho:OwnS S w0 w L)(k:∀b w',OwnS S w0 w' (bqE b s 0 0::L)->K (.pointer (some ⟨b,0,none⟩)) w'):CallX prog 273 #[.string ⟨s.toArray⟩] w PK K:=by
 refine fH (Jj (K:=RetK fun v W=>∃b,v=.pointer (some ⟨b,0,none⟩)∧OwnS S w0 W (bqE b s 0 0::L)) ?_) (fun e W ⟨v,he,b,hv,ho⟩=>by subst he;subst hv;exact k b W ho);unfold H8 nz;have e:∀W:World,(aZ 317 #[(1,.string ⟨s.toArray⟩)]).run prog W=.ok (.value (.agg (bqC s 0 0).toArray)) W:=fun W=>by kernel_rfl
 refine aE (e w) |>.mpr ?_;exact bC (fun b=>.pointer (some ⟨b,0,none⟩)) (bqC s 0 0) 317 (fun _=>by kernel_rfl) ho fun b w' ho=>retK ⟨b,rfl,ho⟩
end
theorem Vc (s:List UInt8)(most:Int)(M:Mem)(w:World)(hrp:Rp M)(hod:Od M)(hs:s.length<=1000000000)(hM:M.has w) :
  RetM prog 239 #[.string ⟨s.toArray⟩,.int .i64 most] M w (fun v _=>v=flT (Fl.all s most)∧(Fl.all s most).2.1<=s.length∧(Fl.all s most).1.length<=1048576):=by
 refine aT hM fun K hK=>EH ?_;generalize hX:Fl.all s most=X at hK;unfold Fl.all at hX;unfold BO iN dx alx;refine bC (fun b=>.pointer (some ⟨b,0,none⟩)) [.string ⟨#[]⟩] 9 (fun _=>by kernel_rfl) (OwnS.memS hM) fun b4 w1 ho=>?_;refine bC (fun b=>.pointer (some ⟨b,0,none⟩)) [.int .i64 0] 3 (fun _=>by kernel_rfl) ho fun b5 w2 ho=>?_;refine bC (fun b=>.pointer (some ⟨b,0,none⟩)) [.int .i64 0] 30 (fun _=>by kernel_rfl) ho fun b6 w3 ho=>?_;have ho:OwnS M.A w w3 ([GL b6 0,L3 b5 0,FP b4 []]++([.mem M]++[])):=ho;have ho:=ho.front;rw[yF];refine⟨_,rfl,?_⟩;have fail:∀{W:World} {L:List Ent} {e:Int} {N:Mem},OwnS M.A w W (L++([.mem N,GL b6 0,L3 b5 0,FP b4 []]++[]))->M.le N->X=([],0,e) ->
   bJ { target:=.fn (.func 271) #[.pointer (some ⟨b4,0,none⟩),.pointer (some ⟨b5,0,none⟩),.pointer (some ⟨b6,0,none⟩)],args:=#[]++#[] } (.pointer (some ⟨b4,0,none⟩)) (.pointer (some ⟨b5,0,none⟩)) (.pointer (some ⟨b6,0,none⟩)) K [upI e] W:=by
  intro W L e N ho hle hx;have ho:=ho.front;have ho:OwnS M.A w W (.mem N::GL b6 0::L3 b5 0::FP b4 []::(L++[])):=ho;show pd prog _ K _ [upI e] W;unfold pd;refine nF sm HS (nN (t0:=.pointer (some ⟨b4,0,none⟩)) (t1:=.pointer (some ⟨b5,0,none⟩)) (t2:=.pointer (some ⟨b6,0,none⟩)) ?_);simp only[jJ,recV,recM,upI,Eng.SG alA,rs,Vv nfUp,ex,i_t,i_f,iN,dx,ldx,fax,exx,stx,eqx,alx];refine bC (fun b=>.pointer (some ⟨b,0,none⟩)) [.int .i64 0] 273 (fun _=>by kernel_rfl) ho fun b7 w5 ho=>?_;refine iE 0 ho rfl (new:=[.int .i64 e]) szUp (fun u hu=>by rw[aiA.1 hu];rfl) rfl fun w6 ho=>?_;refine⟨?_⟩;have ho:=ho.drew
  repeat' first
  |apply And.intro
  |refine aE (bY afR) |>.mpr ?_
  |refine aE (aB Fm (ho.cell 0 rfl 0 rfl)) |>.mpr ?_
  |refine aN 4 ho rfl krx rfl sm (fun _ ho=>?_)
  |refine aN 3 ho rfl krx rfl sm (fun _ ho=>?_)
  |refine aN 2 ho rfl krx rfl sm (fun _ ho=>?_)
  all_goals
   unfold dM;refine Ok (bH (AtV.cell S9 (ho.cell 4 rfl 0 rfl))) (bH (AtV.cell cI (ho.cell 3 rfl 0 rfl))) (bH (AtV.cell Fm (ho.cell 2 rfl 0 rfl))) (hK _ _ N _ 1 ho rfl hle ⟨by rw[hx];rfl,by rw[hx];exact ahW _,by rw[hx];exact ahW _⟩)
 try simp only[rs]
 refine iJ (fun h1=>?_) (fun h1=>?_)
 rotate_left
 ·have:=aiK h1;rw[agW om] at hX;exact fail (L:=[]) ho M.le_refl hX.symm
 have h1:=ahO h1;rw[agV om] at hX;refine Sr s ho fun rb w4 ho=>?_;rw[Vn,show min most 1048576=((min most.toNat 1048576:Nat):Int) by omega];have hm1:min most.toNat 1048576<=1048576:=Nat.min_le_right _ _;generalize min most.toNat 1048576=mo at hX hm1;have e:∀W:World,(aZ 278 #[(0,.pointer (some ⟨rb,0,none⟩)),(2,.int .i64 (mo:Int))]).run prog W=.ok (.value (.agg (flC rb nilS (mo:Int)).toArray)) W:=fun W=>by kernel_rfl
 refine aE (e w4) |>.mpr ?_;refine bC (fun b=>.pointer (some ⟨b,0,none⟩)) (flC rb nilS (mo:Int)) 278 (fun _=>by kernel_rfl) ho fun fb w5 ho=>?_;have ho:=OwnS.nilU ho 5 1;have ho:OwnS M.A w w5 ([outR nilS []]++([flE fb rb nilS (mo:Int),bqE rb s 0 0]++[.mem M,GL b6 0,L3 b5 0,FP b4 []])):=ho;have ho:OwnS M.A w w5 (Fs fb rb s mo nilS 0 0 [] (.mem M::[GL b6 0,L3 b5 0,FP b4 []])):=(OwnS.front ho).perm (alS _);refine loop (fun vs W=>∃(p:Nat) (way:Int) (ov:Value) (out:List UInt8) (N:Mem),vs=[]∧(way=0∨way=1)∧p<=8*s.length∧out.length<=mo∧M.le N∧(∃f,8*s.length+1 - p<=f∧Fl.allG s mo f p out=X)∧OwnS M.A w W (Fs fb rb s mo ov way p out (.mem N::[GL b6 0,L3 b5 0,FP b4 []]))) (fun _ w=>8*s.length+1 - bqAt rb w) ⟨0,0,nilS,[],M,rfl,.inl rfl,om,sm,M.le_refl,⟨_,om,hX⟩,ho⟩ ?_;clear ho hX;rintro vs w6 ⟨p,way,ov,out,N,rfl,hw,hp,hol,hle,⟨f,hf,hX⟩,ho⟩ _;have hat:bqAt rb w6=p:=Hk (ho.at_ 1 rfl);simp only[xI,iN];obtain⟨f,rfl⟩:∃f',f=f'+1:=⟨f - 1,om⟩;rw[Fl.allG] at hX;dsimp only at hX;have hadv:=@Fl.RA s mo (p+1) out;refine XE ho (hrp.le hle) (hod.le hle) hw hp hs om hol (fun e1 N2 ov' way' p' out' W hle2 ho=>?_) (fun e1 e2 e3 e4 N2 way' ov' W hle2 hw' ho=>?_) (fun e1 e2 N2 ov' way' p' out' W hle2 ho=>?_)
 ·rw[agW e1] at hX;exact fail (L:=[flE fb rb ov' (mo:Int),bqE rb s way' p',outR ov' out']) ho (hle.trans hle2) hX.symm
 rotate_left
 ·rw[agV om,agW e2] at hX;exact fail (L:=[flE fb rb ov' (mo:Int),bqE rb s way' p',outR ov' out']) ho (hle.trans hle2) hX.symm
 rw[agV om,agV (by rw[e2];decide)] at hX;have hadv:=hadv e2;generalize Fl.block s mo (p+1) out=B at hX ho e2 e3 e4 hadv
 try simp only[rs]
 by_cases hl:Fl.num s p 1=1
 case neg=>
  rw[agV hl] at hX;simp only[hl,agX,aiR,i_t];have hat2:bqAt rb W=B.2.1:=Hk (ho.at_ 1 rfl);refine⟨rfl,?_⟩;refine aY ⟨B.2.1,way',ov',B.1,N2,rfl,hw',e3,e4,hle.trans hle2,⟨f,om,hX⟩,ho⟩ (by show 8*s.length+1 - bqAt rb W < 8*s.length+1 - bqAt rb w6;rw[hat,hat2];omega)
 rw[agW hl] at hX;simp only[hl,agY,aiQ,i_f];refine eB (fun W=>OwnS M.A w W (Fs fb rb s mo ov' way' B.2.1 B.1 (.mem N2::[GL b6 0,L3 b5 0,FP b4 []]))) ho.drew ?_;refine q_do _ (fun _=>cM) (q_do _ (fun _=>bY xJ) (q_at _ (fun W h=>Hh (h.at_ 0 rfl)) ?_));refine q_at (.string ⟨B.1.toArray⟩) (fun W h=>KJ ahX aiL ahF (Ck (h.at_ 2 rfl))) ?_;refine q_do _ (fun _=>cM) (q_do _ (fun _=>bY RW) (q_at _ (fun W h=>OC (h.at_ 0 rfl)) ?_));refine uO (.int .i64 (((B.2.1+7) / 8:Nat):Int)) (fun W h=>(Yg (h.at_ 1 rfl) e3 hs).mono fun v w' ⟨h1,h2⟩=>⟨h1,h.grow h2⟩) ?_;intro w7 ho;refine aN 6 ho rfl krx rfl sm fun w8 ho=>?_;refine aN 5 ho rfl krx rfl sm fun w9 ho=>?_;refine aN 4 ho rfl krx rfl sm fun w10 ho=>?_;refine nF sm HS (nN (t0:=.pointer (some ⟨b4,0,none⟩)) (t1:=.pointer (some ⟨b5,0,none⟩)) (t2:=.pointer (some ⟨b6,0,none⟩)) ?_);simp only[jJ,recV,recM,Eng.Py alA,rs,i_t,i_f,iN,dx,ldx,fax,exx,stx,eqx,alx];refine Ok (bH (AtV.cell S9 (ho.cell 6 rfl 0 rfl))) (bH (AtV.cell cI (ho.cell 5 rfl 0 rfl))) (bH (AtV.cell Fm (ho.cell 4 rfl 0 rfl))) (hK _ _ N2 _ 3 ho rfl (hle.trans hle2) ⟨by rw[<-hX];rfl,by rw[<-hX];dsimp only;omega,by rw[<-hX];dsimp only;omega⟩)
end
end Go.Proofs.YtlipjfcbjemicaaGreatDoor



namespace Go.Proofs.YtlipjfcbjemicaaGreatDoor
variable{A S:Nat->Prop}{D:TypeId}{K:VWP}{M:Eng.Mem}{PK:PKT}{R:Ending->FrameMode->World->Prop}{W w w0:World}{above:List UInt8}{b cap fb h i m mo most p rb sz:Nat}{colors way:Int}{cs:List Value}{e:Eng.Ent}{q:Bool}{t0 v v2:Value}{u:FrameMode}
section
open Eng
def Ct(t1 t5 t15 t16 w)(N1:JT)(K:KT):=nz Tryz.f270 43 [N1] [nh 7 [16]] [(5,5)] (zg [1,5,15,16] [t1,t5,t15,t16]) w K
def Hi(t0 t1 w)(K:KT):=nz Tryz.f270 1 [] [(7,[16],fun s v j w f=>Ct (s 1) (s 5) (s 15) (vg v 0) w (f 0) K)] [] (zg [0,1] [t0,t1]) w K
theorem Hz{t0 t1 w K}(h:Hi t0 t1 w K):Calls prog 270 #[t0,t1] w K:=cz [] [(3,[16])] Tryz.func270 h
def IW(t0 w)(K:KT):=nz Tryz.f237 1 [] [] [] (zg [0] [t0]) w K
theorem Jl{t0 w K}(h:IW t0 w K):Calls prog 237 #[t0] w K:=cw Tryz.func237 h
def BV(t0 t1 w)(K:KT):=nz Tryz.f304 1 [] [] [] (zg [0,1] [t0,t1]) w K
theorem EO{t0 t1 w K}(h:BV t0 t1 w K):Calls prog 304 #[t0,t1] w K:=cw Tryz.func304 h
def GN(t0 w)(K:KT):=nz Tryz.f236 1 [] [] [] (zg [0] [t0]) w K
theorem Hy{t0 w K}(h:GN t0 w K):Calls prog 236 #[t0] w K:=cw Tryz.func236 h
def CB(t0 w)(K:KT):=nz Tryz.f238 1 [] [] [(3,8)] (zg [0] [t0]) w K
theorem Fb{t0 w K}(h:CB t0 w K):Calls prog 238 #[t0] w K:=cw Tryz.func238 h
def Cg(t0 t1 w)(K:KT):=nz Tryz.f192 1 [] [] [(10,10)] (zg [0,1] [t0,t1]) w K
theorem Fj{t0 t1 w K}(h:Cg t0 t1 w K):Calls prog 192 #[t0,t1] w K:=cw Tryz.func192 h
end
end Go.Proofs.YtlipjfcbjemicaaGreatDoor

namespace Go.Proofs.YtlipjfcbjemicaaGreatDoor
variable{A S:Nat->Prop}{D:TypeId}{K:VWP}{M:Eng.Mem}{PK:PKT}{R:Ending->FrameMode->World->Prop}{W w w0:World}{above:List UInt8}{b cap fb h i m mo most p rb sz:Nat}{colors way:Int}{cs:List Value}{e:Eng.Ent}{q:Bool}{t0 v v2:Value}{u:FrameMode}
section
open Eng Go.RowKit
def Zl.step (x:Nat×Nat)(c:UInt8):Nat×Nat:=((x.1+c.toNat) % 65521,(x.2+(x.1+c.toNat) % 65521) % 65521)
def Zl.sum (s:List UInt8):Nat×Nat:=s.foldl Zl.step (1,0)
def Zl.vO (s:List UInt8):Nat:=65536*(Zl.sum s).2+(Zl.sum s).1
def Zl.four (n:Nat):List UInt8:=[UInt8.ofNat (n / 2 ^ 24),UInt8.ofNat (n / 2 ^ 16),UInt8.ofNat (n / 2 ^ 8),UInt8.ofNat n]
def Zl.bad (a b:Nat):Bool:=decide (a % 16≠8)||decide (7 < a / 16)||decide ((256*a+b) % 31≠0)||decide (b / 32 % 2≠0)
def Zl.lF (s:List UInt8)(most:Int):List UInt8×Int:=
 if s.length < 2 then ([],4)
 else if Zl.bad (s.getD 0 0).toNat (s.getD 1 0).toNat=true then ([],3)
 else
  let r:=Fl.all (s.drop 2) most
  if r.2.2≠0 then ([],r.2.2)
  else if s.length < 2+r.2.1+4 then ([],4)
  else if (s.drop (2+r.2.1)).take 4≠Zl.four (Zl.vO r.1) then ([],12)
  else (r.1,0)
theorem Zl.Wd (s:List UInt8):(Zl.sum s).1 < 65521∧(Zl.sum s).2 < 65521:=by
 unfold Zl.sum;have:∀(l:List UInt8) (x:Nat×Nat),x.1 < 65521∧x.2 < 65521->(l.foldl Zl.step x).1 < 65521∧(l.foldl Zl.step x).2 < 65521:=by
  intro l
  induction l with
 |nil=>exact fun x h=>h
 |cons c l ih=>exact fun x h=>ih _ ⟨ajW _ dc,ajW _ dc⟩
 exact this s _ ⟨dc,dc⟩
theorem Zl.VO {s:List UInt8}(h:i < s.length):Zl.sum (s.take (i+1))=Zl.step (Zl.sum (s.take i)) s[i]:=by
 unfold Zl.sum;rw[aiG h,List.foldl_append];rfl
def zlT (x:List UInt8×Int):Value:=.tuple #[.string ⟨x.1.toArray⟩,.int .i64 x.2]
theorem CF {n:Nat}(h:n < 4294967296):IntKind.u32.wrap (n:Int)=(n:Int):=by unfold IntKind.wrap;simp[IntKind.bits,IntKind.signed];omega
theorem NT {n:Int}(h0:0<=n)(h:n < 4294967296):IntKind.u32.wrap n=n:=by unfold IntKind.wrap;simp[IntKind.bits,IntKind.signed];omega
theorem DQ (n:Nat):IntKind.u8.wrap (n:Int)=((UInt8.ofNat n).toNat:Int):=by
 unfold IntKind.wrap;simp[IntKind.bits,IntKind.signed]
theorem YD {a:Nat}(hb:b < 2 ^ i):a*2 ^ i ||| b=a*2 ^ i+b:=by
 have:=apG hb a;rw[akE a,<-this]
theorem or32 {a:Nat}(ha:a < 65536)(hb:b < 65536):bOr .u32 ((b*65536:Nat):Int) (a:Int)=((65536*b+a:Nat):Int):=by
 have e:b*65536 ||| a=65536*b+a:=by
  have:b*65536 ||| a=b*65536+a:=YD (i:=16) ha;omega
 unfold bOr;show IntKind.wrap .u32 (((BitVec.ofInt 32 ((b*65536:Nat):Int) ||| BitVec.ofInt 32 (a:Int)).toNat:Nat):Int)=_;rw[BitVec.ofInt_natCast,BitVec.ofInt_natCast,BitVec.toNat_or,BitVec.toNat_ofNat,BitVec.toNat_ofNat,aiU om,aiU om,e];exact CF om
theorem or64 {a:Nat}(ha:a < 256)(hb:b < 256):bOr .i64 ((a*256:Nat):Int) (b:Int)=((256*a+b:Nat):Int):=by
 have e:a*256 ||| b=256*a+b:=by
  have:a*256 ||| b=a*256+b:=YD (i:=8) hb;omega
 unfold bOr;show IntKind.wrap .i64 (((BitVec.ofInt 64 ((a*256:Nat):Int) ||| BitVec.ofInt 64 (b:Int)).toNat:Nat):Int)=_;rw[BitVec.ofInt_natCast,BitVec.ofInt_natCast,BitVec.toNat_or,BitVec.toNat_ofNat,BitVec.toNat_ofNat,aiU om,aiU om,e];exact aA om om
theorem Qh:∀n:Fin 256,bAnd .i64 (n.val:Int) 15=((n.val % 16:Nat):Int):=by decide +kernel
theorem Rc:∀n:Fin 256,bAnd .i64 (n.val:Int) 32=((n.val / 32 % 2*32:Nat):Int):=by decide +kernel
theorem acF {n:Nat}(h:n < 256):bAnd .i64 (n:Int) 15=((n % 16:Nat):Int):=Qh ⟨n,h⟩
theorem adR {n:Nat}(h:n < 256):bAnd .i64 (n:Int) 32=((n / 32 % 2*32:Nat):Int):=Rc ⟨n,h⟩
def suC (a b:Nat):List Value:=[.int .u32 (a:Int),.int .u32 (b:Int)]
def suV (a b:Nat):Value:=.agg (suC a b).toArray
abbrev suE (bl a b:Nat):Ent:=.cells bl (suC a b) 312
theorem MX {a:Nat}:∀u∈suC a b,u.oneCell'=true:=by
 intro u hu;simp only[suC,ahG,ajH,or_false] at hu;rcases hu with rfl|rfl<;>rfl
theorem YV:aggN prog 312=some 2:=krx
theorem szSu:(Tryz.prog.info? 312).map (·.size)=some 2:=krx
theorem NC:fOff prog 312 0=some 0:=krx
theorem RF:fOff prog 312 1=some 1:=krx
theorem nU32:eF prog 153=true:=krx
theorem X3 (a b:Nat)(c:UInt8)(w:World)(ha:a < 65521)(hb:b < 65521):Ret prog 304 #[suV a b,.int .u8 (c.toNat:Int)] w (fun v w'=>v=suV (Zl.step (a,b) c).1 (Zl.step (a,b) c).2∧Below w.heap.size w w'):=by
 refine aP fun K hK=>EO ?_;unfold BV nz;have hc:=amB c;refine bC (fun b=>.pointer (some ⟨b,0,none⟩)) (suC a b) 312 (fun _=>by kernel_rfl) (Own.start w) fun b2 w1 ho=>?_;refine bC (fun b=>.pointer (some ⟨b,0,none⟩)) (suC 0 0) 312 (fun _=>by kernel_rfl) ho fun b4 w2 ho=>?_;rw[aK NC,aO nU32 (ho.cell 1 rfl 0 rfl)];refine aE (bO krx aoZ) |>.mpr ?_;rw[CF om,KF,NT om om,show (a:Int)+(c.toNat:Int)=((a+c.toNat:Nat):Int) by push_cast;rfl,Jo dc,show (((a+c.toNat:Nat):Int)).tmod 65521=(((a+c.toNat) % 65521:Nat):Int) from rfl,aK NC];refine aN 1 ho rfl krx rfl (by show 0+0 < 2;omega) fun w3 ho=>?_;have hm:=ajW (a+c.toNat) (show 65521>0 by decide);have ho:OwnS NoB w w3 [suE b4 0 0,suE b2 ((a+c.toNat) % 65521) b]:=ho;generalize hd:(a+c.toNat) % 65521=d at ho hm;rw[aK RF,aO nU32 (ho.cell 1 rfl 1 rfl),aK NC,aO nU32 (ho.cell 1 rfl 0 rfl),KF,NT om om,show (b:Int)+(d:Int)=((b+d:Nat):Int) by push_cast;rfl,Jo dc,show (((b+d:Nat):Int)).tmod 65521=(((b+d) % 65521:Nat):Int) from rfl,aK RF];refine aN 1 ho rfl krx rfl (by show 0+1 < 2;omega) fun w4 ho=>?_;have ho:OwnS NoB w w4 [suE b4 0 0,suE b2 d ((b+d) % 65521)]:=ho;rw[l_at (ho.agg 1 rfl YV)];refine iE 0 ho rfl (new:=suC d ((b+d) % 65521)) szSu MX rfl fun w5 ho=>?_;refine iW (bH (ho.agg 0 rfl YV)) (hK _ _ ⟨?_,ho.done⟩);unfold Zl.step suV;dsimp only;rw[hd]
theorem NL (s:List UInt8)(w:World)(hs:s.length<=1000000000):Ret prog 237 #[.string ⟨s.toArray⟩] w (fun v w'=>v=.int .u32 (Zl.vO s:Int)∧Below w.heap.size w w'):=by
 refine aP fun K hK=>Jl ?_;unfold IW nz;have more:Ret prog 270 #[.int .u32 1,.string ⟨s.toArray⟩] w (fun v w'=>v=.int .u32 (Zl.vO s:Int)∧Below w.heap.size w w'):=by
  refine aP fun K hK=>Hz ?_;unfold Hi nz;rw[SV,show bAnd .u32 1 65535=1 by decide +kernel,Jo dc,show (1:Int).tmod 65521=((1:Nat):Int) from rfl,HA dc,show (1:Int).fdiv (2 ^ (min (16:Int).toNat IntKind.u32.bits))=0 by decide +kernel,Jo dc,show (0:Int).tmod 65521=((0:Nat):Int) from rfl];refine aE (show (aZ 312 #[(0,.int .u32 ((1:Nat):Int)),(1,.int .u32 ((0:Nat):Int))]).run prog w=.ok (.value (suV 1 0)) w by kernel_rfl) |>.mpr ?_;refine bC (fun b=>.pointer (some ⟨b,0,none⟩)) (suC 0 0) 312 (fun _=>by kernel_rfl) (Own.start w) fun b5 w1 ho=>?_;refine iE 0 ho rfl (new:=suC 1 0) szSu MX rfl fun w2 ho=>?_;rw[fP ahF];refine loop (fun vs W=>∃i:Nat,vs=[.int .i64 (i:Int)]∧i<=s.length∧OwnS NoB w W [suE b5 (Zl.sum (s.take i)).1 (Zl.sum (s.take i)).2]) (fun vs _=>s.length - n0 vs) ⟨0,rfl,om,ho⟩ ?_;clear ho;rintro vs w3 ⟨i,rfl,hi,ho⟩ _;simp only[Ct,gd,rs,nz];by_cases hlt:(i:Int) < (s.length:Int)
  ·simp only[hlt,agY,i_t];have hi':i < s.length:=om
   obtain⟨h1,h2⟩:=Zl.Wd (s.take i);have hst:=Zl.VO hi';generalize Zl.sum (s.take i)=x at ho h1 h2 hst;obtain⟨a,b⟩:=x;refine eB (fun W=>OwnS NoB w W [suE b5 a b]) ho.drew ?_;refine q_at (suV a b) (fun W h=>bI (h.agg 0 rfl YV)) (q_ix (c:=s[i]) ahF om (by rw[ahI];exact ahH hi') ?_);refine uO (suV (Zl.step (a,b) s[i]).1 (Zl.step (a,b) s[i]).2) (fun W h=>(X3 a b s[i] W h1 h2).mono fun v w' ⟨k1,k2⟩=>⟨k1,h.grow k2⟩) ?_;intro w4 ho;refine iE 0 ho rfl (new:=suC (Zl.step (a,b) s[i]).1 (Zl.step (a,b) s[i]).2) szSu MX rfl fun w5 ho=>?_
   try simp only[rs]
   rw[aA om om];refine aY ⟨i+1,rfl,om,?_⟩ (by simp[n0,RowKit.intOf];omega);rw[hst];exact ho
  ·simp only[hlt,agX,i_f];have:i=s.length:=om
   subst this;rw[ajG] at ho;obtain⟨h1,h2⟩:=Zl.Wd s;have ha:Zl.vO s=65536*(Zl.sum s).2+(Zl.sum s).1:=rfl;generalize Zl.sum s=x at ho h1 h2 ha;obtain⟨a,b⟩:=x;dsimp only at h1 h2 ha;rw[aK RF,aO nU32 (ho.cell 0 rfl 1 rfl),CU dc,show min (16:Int).toNat IntKind.u32.bits=16 from rfl,show (b:Int)*2 ^ 16=((b*65536:Nat):Int) by omega,CF om,aK NC,aO nU32 (ho.cell 0 rfl 0 rfl),b_or,or32 om om,<-ha];exact hK _ _ ⟨rfl,ho.done⟩
 refine B5 more fun v w' ⟨h1,h2⟩=>?_;exact hK _ _ ⟨h1,h2⟩
theorem shrU {n k:Nat}(hk:k<=32):((n:Nat):Int).fdiv (2 ^ (min ((k:Nat):Int).toNat IntKind.u32.bits))=((n / 2 ^ k:Nat):Int):=by
 rw[show min ((k:Nat):Int).toNat IntKind.u32.bits=k by show min ((k:Nat):Int).toNat 32=k;omega,Md]
theorem Lc (n:Nat)(w:World):Ret prog 236 #[.int .u32 (n:Int)] w (fun v w'=>v=.string ⟨(Zl.four n).toArray⟩∧Below w.heap.size w w'):=by
 refine aP fun K hK=>Hy ?_;unfold GN nz;rw[HA dc,show (24:Int)=((24:Nat):Int) from rfl,shrU dc];refine aE (bO krx aiL) |>.mpr ?_;rw[DQ,HA dc,show (16:Int)=((16:Nat):Int) from rfl,shrU dc];refine aE (bO krx aiL) |>.mpr ?_;rw[DQ,HA dc,show (8:Int)=((8:Nat):Int) from rfl,shrU dc];refine aE (bO krx aiL) |>.mpr ?_;rw[DQ];refine aE (bO krx aiL) |>.mpr ?_;rw[DQ];refine bC (fun b=>.slice (some ⟨b,0,none⟩) 4 4) (aH (Zl.four n)) 5 (fun _=>by kernel_rfl) (Own.start w) fun b2 w1 ho=>?_;rw[My (l:=Zl.four n) ahX aiL ahF (ho.sl 0 rfl 1 4 4 rfl)];exact hK _ _ ⟨rfl,ho.done⟩
theorem get0 {s:List UInt8}(h:i < s.length):s[i]?=some (s.getD i 0):=by
 rw[ahC,ahH h];rfl
theorem Mh (s:List UInt8)(w:World)(hs:s.length<=1000000000):Ret prog 238 #[.string ⟨s.toArray⟩] w (fun v w'=>v=.int .i64 (if s.length < 2 then 4 else if Zl.bad (s.getD 0 0).toNat (s.getD 1 0).toNat=true then 3 else 0)∧Below w.heap.size w w'):=by
 refine aP fun K hK=>Fb ?_;unfold CB nz;rw[fP ahF]
 try simp only[rs]
 by_cases h2:s.length < 2
 ·rw[agW h2] at hK;simp only[show decide ((s.length:Int) < 2)=true from ahB om,i_t];exact hK _ _ ⟨rfl,Below.refl _ _⟩
 rw[agV h2] at hK;simp only[show decide ((s.length:Int) < 2)=false from ahA om,i_f];refine quiet (q_ix (c:=s.getD 0 0) ahF dc (get0 om) (q_do _ (fun _=>bO krx aiX) (q_ix (c:=s.getD 1 0) ahF dc (get0 om) (q_do _ (fun _=>bO krx aiX) ?_))));intro w1 hw;have ha:=amB (s.getD 0 0);have hb:=amB (s.getD 1 0);generalize (s.getD 0 0).toNat=a at ha hK;generalize (s.getD 1 0).toNat=b at hb hK;rw[show IntKind.i64.wrap (a:Int)=(a:Int) from aA om om,show IntKind.i64.wrap (b:Int)=(b:Int) from aA om om];rw[SV,acF om];unfold Zl.bad at hK
 try simp only[rs]
 by_cases k1:a % 16=8
 case neg=>
  simp only[show decide (((a % 16:Nat):Int)≠8)=true from ahB om,rs];rw[agW (by simp[k1])] at hK;exact hK _ _ ⟨rfl,hw⟩
 simp only[show decide (((a % 16:Nat):Int)≠8)=false from ahA om,rs];rw[HA dc,show ((a:Nat):Int).fdiv (2 ^ (min (4:Int).toNat IntKind.i64.bits))=((a / 2 ^ 4:Nat):Int) from Md a 4]
 try simp only[rs]
 by_cases k2:7 < a / 16
 ·simp only[show decide ((7:Int) < ((a / 2 ^ 4:Nat):Int))=true from ahB om,rs];rw[agW (by simp[k2])] at hK;exact hK _ _ ⟨rfl,hw⟩
 simp only[show decide ((7:Int) < ((a / 2 ^ 4:Nat):Int))=false from ahA om,rs];rw[CU dc,show min (8:Int).toNat IntKind.i64.bits=8 from rfl,show (a:Int)*2 ^ 8=((a*256:Nat):Int) by push_cast;rfl,aA om om]
 try simp only[rs]
 rw[b_or,or64 ha hb,Jo dc,show ((256*a+b:Nat):Int).tmod 31=(((256*a+b) % 31:Nat):Int) from rfl]
 try simp only[rs]
 by_cases k3:(256*a+b) % 31=0
 case neg=>
  simp only[show decide ((((256*a+b) % 31:Nat):Int)≠0)=true from ahB om,rs];rw[agW (by simp[k3])] at hK;exact hK _ _ ⟨rfl,hw⟩
 simp only[show decide ((((256*a+b) % 31:Nat):Int)≠0)=false from ahA om,rs];rw[SV,adR om]
 try simp only[rs]
 by_cases k4:b / 32 % 2=0
 case neg=>
  simp only[show decide (((b / 32 % 2*32:Nat):Int)≠0)=true from ahB om,rs];rw[agW (by simp[k4])] at hK;exact hK _ _ ⟨rfl,hw⟩
 simp only[show decide (((b / 32 % 2*32:Nat):Int)≠0)=false from ahA om,rs];rw[agV (by simp[k1,k2,k3,k4])] at hK;exact hK _ _ ⟨rfl,hw⟩
theorem LY (s:List UInt8)(most:Int)(M:Mem)(w:World)(hrp:Rp M)(hod:Od M)(hs:s.length<=1000000000)(hM:M.has w) :
  RetM prog 192 #[.string ⟨s.toArray⟩,.int .i64 most] M w (fun v _=>v=zlT (Zl.lF s most)∧(Zl.lF s most).1.length<=1048576):=by
 refine aT hM fun K hK=>Fj ?_;generalize hX:Zl.lF s most=X at hK;unfold Zl.lF at hX;unfold Cg nz;have ho:OwnS M.A w w [.mem M]:=OwnS.memS hM;refine aL ho (Mh s w hs) ?_;rintro _ w1 rfl ho;simp only[gD];by_cases h2:s.length < 2
 ·rw[agW h2] at hX ⊢;simp only[show decide ((4:Int)≠0)=true from rfl,i_t];exact hK _ _ M _ 0 ho rfl M.le_refl ⟨by rw[<-hX];rfl,by rw[<-hX];exact ahW _⟩
 rw[agV h2] at hX ⊢;by_cases hb:Zl.bad (s.getD 0 0).toNat (s.getD 1 0).toNat=true
 ·rw[agW hb] at hX ⊢;simp only[show decide ((3:Int)≠0)=true from rfl,i_t];exact hK _ _ M _ 0 ho rfl M.le_refl ⟨by rw[<-hX];rfl,by rw[<-hX];exact ahW _⟩
 rw[agV hb] at hX ⊢;simp only[show decide ((0:Int)≠0)=false from rfl,i_f];dsimp only at hX;rw[Di ahF dc om,show (2:Int).toNat=2 from rfl];refine bF ho 0 rfl (Vc (s.drop 2) most M w1 hrp hod (by rw[ahL];omega) (ho.hasM 0 rfl)) ?_;rintro _ N w2 g1 ⟨rfl,hu,hl⟩ ho;generalize Fl.all (s.drop 2) most=r at hX hu hl;obtain⟨t,u,e⟩:=r;dsimp only at hX hu hl;rw[ahL] at hu;simp only[flT,ex,gD];by_cases he:e=0
 case neg=>
  rw[agW he] at hX;simp only[ahB (show e≠0 from he),i_t];exact hK _ _ N _ 0 ho rfl g1 ⟨by rw[<-hX];rfl,by rw[<-hX];exact ahW _⟩
 rw[agV (by rw[he];decide)] at hX;simp only[ahA (show ¬e≠0 by rw[he];decide),i_f];rw[fP ahF,ahL]
 try simp only[rs]
 rw[aA om om];by_cases h4:s.length < 2+u+4
 ·rw[agW h4] at hX;simp only[show decide (((s.length - 2:Nat):Int) - (u:Int) < 4)=true from ahB om,i_t];exact hK _ _ N _ 0 ho rfl g1 ⟨by rw[<-hX];rfl,by rw[<-hX];exact ahW _⟩
 rw[agV h4] at hX;simp only[show decide (((s.length - 2:Nat):Int) - (u:Int) < 4)=false from ahA om,i_f];refine eB (fun W=>OwnS M.A w W [.mem N]) ho.drew ?_;refine qQ ?_;rw[aA om om];refine q_do _ (fun _=>sW ahF om om (by rw[ahL];omega)) ?_;refine uO _ (fun W h=>(NL t W om).mono fun v w' ⟨k1,k2⟩=>⟨k1,h.grow k2⟩) ?_;refine uO _ (fun W h=>(Lc (Zl.vO t) W).mono fun v w' ⟨k1,k2⟩=>⟨k1,h.grow k2⟩) ?_;refine Xb ?_;intro w3 ho;rw[show ((u:Int)+4).toNat - ((u:Nat):Int).toNat=4 by omega,ahI,alP];by_cases h5:(s.drop (2+u)).take 4=Zl.four (Zl.vO t)
 case neg=>
  rw[agW h5] at hX;simp only[ahB (show (s.drop (2+u)).take 4≠Zl.four (Zl.vO t) from h5),i_t];exact hK _ _ N _ 0 ho rfl g1 ⟨by rw[<-hX];rfl,by rw[<-hX];exact ahW _⟩
 rw[agV (by rw[h5];simp)] at hX;simp only[ahA (show ¬(s.drop (2+u)).take 4≠Zl.four (Zl.vO t) by rw[h5];simp),i_f];exact hK _ _ N _ 0 ho rfl g1 ⟨by rw[<-hX];rfl,by rw[<-hX];exact hl⟩
end
section
namespace Eng
open Go.RowKit
def MkIs (w:World)(E:TypeId)(b:Nat)(l:List UInt8):Prop:=∃rest:List Value,w.heap[b]?=some (.cells (aH l++rest).toArray E (l.length+rest.length,l.length+rest.length+1))
def Ent.mkr (E:TypeId)(b:Nat)(l:List UInt8):Ent:=
 ⟨fun k=>k=b,fun w=>MkIs w E b l,fun {w w'} h k=>by obtain⟨rest,h⟩:=h;exact⟨rest,(k b rfl).trans h⟩,fun {w} h k hk=>by obtain⟨rest,h⟩:=h;cases hk;exact dR h⟩
theorem gM (l:List UInt8):(aH l).length=l.length:=by simp[aH]
theorem Ri {E:TypeId}{l:List UInt8}(h:(Ent.mkr E b l).is w)(hv:(aH l)[i]?=some v):w.cell? ⟨b,i,none⟩=some v:=by
 obtain⟨rest,h⟩:=h;have:(aH l++rest)[i]?=some v:=by rw[ajA (ahQ.1 hv).1];exact hv
 simp[World.cell?,h,this]
theorem afQ {E:TypeId}{l:List UInt8}(h:(Ent.mkr E b l).is w):Sl w (.slice (some ⟨b,0,none⟩) l.length cap) 1 l.length (aH l):=
 ⟨by rw[gM,ahZ],some ⟨b,0,none⟩,cap,rfl,(fun h=>by cases h),fun p hp=>by cases hp;exact⟨fun _=>rfl,fun j u hj=>by rw[ahJ];exact Ri h hj⟩⟩
section
variable {S:Nat->Prop}{P:Program}{w w0:World}{L:List Ent}{PK:PKT}{K:VWP}
theorem Yl {T E:TypeId}{l:List UInt8}(hs:P.underlying T=some .string)(hd:P.underlying D=some (.slice E))(he:P.underlying E=some (.int .u8))(ho:OwnS S w0 w L)
  (k:∀b cap w',OwnS S w0 w' (.mkr E b l::L)->K (.slice (some ⟨b,0,none⟩) l.length cap) w'):DoX P (gL T D (.string ⟨l.toArray⟩)) w PK K:=by
 have hr:=Go.Lib.run_convert_string_bytes (P:=P) w T D E ⟨l.toArray⟩ hs hd he;rw[dK] at hr;refine jU (bL hr) (k _ _ _ ?_);refine ho.add ⟨?_,?_,?_,?_,?_⟩ (.mkr E w.heap.size l) ?_ (fun k hk=>by cases hk;exact ahD _)
 ·unfold Go.Lib.bytesWorld World.freeze;split<;>rfl
 ·unfold Go.Lib.bytesWorld World.freeze;split<;>rfl
 ·unfold Go.Lib.bytesWorld World.freeze;split<;>rfl
 ·rw[Go.Lib.bytesWorld_size];omega
 ·intro j hj _;exact Go.Lib.bytesWorld_at_old w E _ j hj
 ·refine⟨(Array.replicate (grownCap w l.length 0 E - l.length) (Value.int .u8 0)).toList,?_⟩;have:=Go.Lib.bytesWorld_at_new w E ⟨l.toArray⟩;rw[this];have e:Go.Lib.bytesCells w E ⟨l.toArray⟩=(aH l++(Array.replicate (grownCap w l.length 0 E - l.length) (Value.int .u8 0)).toList).toArray:=by
   unfold Go.Lib.bytesCells;rw[dK];apply Array.ext';simp[aH]
  rw[e];simp[aH]
end
end Eng
end
section
open Eng
def Co(t0 w)(K:KT):=nz Tryz.f149 1 [] [] [(2,25)] (zg [0] [t0]) w K
theorem EM{t0 w K}(h:Co t0 w K):Calls prog 149 #[t0] w K:=cw Tryz.func149 h
def wG(t0 w)(K:KT):=nz Tryz.f82 1 [] [] [] (zg [0] [t0]) w K
theorem Cc{t0 w K}(h:wG t0 w K):Calls prog 82 #[t0] w K:=cw Tryz.func82 h
def Cs(t0 w)(K:KT):=nz Tryz.f231 1 [] [] [] (zg [0] [t0]) w K
theorem Fk{t0 w K}(h:Cs t0 w K):Calls prog 231 #[t0] w K:=cw Tryz.func231 h
def uT(t0 t1 t2 w)(K:KT):=nz Tryz.f232 1 [] [] [] (zg [0,1,2] [t0,t1,t2]) w K
theorem AU{t0 t1 t2 w K}(h:uT t0 t1 t2 w K):Calls prog 232 #[t0,t1,t2] w K:=cw Tryz.func232 h
def Cx(t1 t6 t8 w)(N1:JT)(K:KT):=nz Tryz.f190 1855 [N1] [nh 23 [1,8]] [] (zg [1,6,8] [t1,t6,t8]) w K
def Cr(b c a w)(J2:JT)(K:KT):=
 HeldX w (fun S5 w=>HDo prog S5 (gL 3 5 a) fun d=>HDo prog S5 (aI 246 c) fun e=>DoX prog (bN 53 1 #[(0,d)]) w (pm1 (pm1 (pm1 (pm1 (pm1 (pm1 (pk K))))))) fun f w=>S5 w∧(DoX prog (mB .append #[53,53] 53 #[false,false] #[b,f]) w (pm1 (pm1 (pm1 (pm1 (pm1 (pm1 (pk K))))))) fun g w=>S5 w∧(CallX prog 233 #[e,a] w (pm1 (pm1 (pm1 (pm1 (pm1 (pm1 (pk K))))))) fun h w=>S5 w∧(DoX prog (mB .append #[53,53] 53 #[false,false] #[g,h]) w (pm1 (pm1 (pm1 (pm1 (pm1 (pm1 (pk K))))))) fun i w=>S5 w∧(J2 [i] w)))))
def pV(c a b w)(J2:JT)(K:KT):=
 fax 27 c 0 w K fun e w=>ldx 3 e w K fun f w=>bnx .sub 3 f (iN 10) w K fun g w=>JoinX (fun J4=>fax 27 c 0 w K fun h w=>ldx 3 h w K fun d w=>ecx .eql 3 69 2 d w K fun i w=>IfX i (ldx 246 b w K fun j w=>cx 233 #[j,(iN 1)] w K fun k w=>apx 53 a k w K fun l w=>J2 [l] w) (ecx .eql 3 69 15 d w K fun m w=>IfX m (ldx 246 b w K fun n w=>cx 234 #[n] w K fun o w=>J4 [a,o] w) (J4 [a,g] w))) (fun vs4 w=>∀_:Sg,Cr (vs4.getD 0 undef) b (vs4.getD 1 undef) w J2 K)
def B7(b d e c a w)(N1:JT)(K:KT):=
 lnx 9 b w K fun i w=>bnx .gtr 3 i (iN 0) w K fun j w=>IfX j (JoinX (fun J2=>HeldX w (fun S3 w=>HDo prog (fun _=>True) (mFA 246 a 1) fun k=>HDo prog S3 (aI 53 k) fun f=>HDo prog (fun _=>True) (dB 9 b none (some e) none) fun g=>HDo prog (fun _=>True) (mFA 246 a 0) fun h=>(DoX prog (gL 9 53 g) w (pm1 (pm1 (pm1 (pm1 (pm1 (pm1 (pm1 (pk K)))))))) fun l w=>S3 w∧(DoX prog (aS 53 h f) w (pm1 (pm1 (pm1 (pm1 (pm1 (pm1 (pm1 (pk K)))))))) fun _ w=>(HDo prog (fun _=>True) (mFA 246 a 1) fun m=>DoX prog (aS 53 m l) w (pm1 (pm1 (pm1 (pm1 (pm1 (pm1 (pm1 (pk K)))))))) fun _ w=>(pV d c a w J2 K))))∧(DoX prog (aS 53 h f) w (pm1 (pm1 (pm1 (pm1 (pm1 (pm1 (pm1 (pk K)))))))) fun _ w=>(DoX prog (gL 9 53 g) w (pm1 (pm1 (pm1 (pm1 (pm1 (pm1 (pm1 (pk K)))))))) fun t62_1 w=>S3 w∧(HDo prog (fun _=>True) (mFA 246 a 1) fun t64_1=>DoX prog (aS 53 t64_1 t62_1) w (pm1 (pm1 (pm1 (pm1 (pm1 (pm1 (pm1 (pk K)))))))) fun _ w=>(pV d c a w J2 K)))))) (fun vs2 w=>∀_:Sg,Cx b e (vs2.getD 0 undef) w N1 K)) (dx (gL 53 9 c) w K fun n w=>K (.returned (.tuple #[n,(iN 0)])) w)
def uJ(t0 t1 w)(K:KT):=nz Tryz.f190 1 [] [(23,[1,8],fun s v j w f=>B7 (vg v 0) (s 2) (s 6) (vg v 1) (s 9) w (f 0) K)] [] (zg [0,1] [t0,t1]) w K
theorem Be{t0 t1 w K}(h:uJ t0 t1 w K):Calls prog 190 #[t0,t1] w K:=cz [(12,[8]),(20,[8,10])] [(11,[1,8])] Tryz.func190 h
def qB(b c d e a f w)(N2:JT)(K:KT):=
 ldx 246 a w K fun g w=>cx 240 #[g,f] w K fun m w=>fax 246 a 1 w K fun h w=>ldx 53 h w K fun i w=>apx 53 e i w K fun j w=>bnx .add 3 c d w K fun k w=>slx 9 b (some k) none none w K fun l w=>N2 [l,j] w
def CZ(c d b f a e w)(N2:JT)(K:KT):=
 bnx .geq 3 e (iN 5) w K fun j w=>IfX j (K (.returned (.tuple #[(.string ⟨#[]⟩),(iN 3)])) w) (HeldX w (fun S4 w=>HDo prog (fun _=>True) (mFA 246 a 1) fun k=>HDo prog S4 (aI 53 k) fun g=>HDo prog (fun _=>True) (mBin .add 3 d b) fun l=>HDo prog (fun _=>True) (dB 9 c (some b) (some l) none) fun h=>HDo prog (fun _=>True) (mFA 246 a 0) fun i=>(DoX prog (gL 9 53 h) w (pm1 (pm1 (pm1 (pm1 (pm1 (pm1 (pm1 (pm1 (pm1 (pm1 (pk K))))))))))) fun m w=>S4 w∧(DoX prog (aS 53 i g) w (pm1 (pm1 (pm1 (pm1 (pm1 (pm1 (pm1 (pm1 (pm1 (pm1 (pk K))))))))))) fun _ w=>(HDo prog (fun _=>True) (mFA 246 a 1) fun n=>DoX prog (aS 53 n m) w (pm1 (pm1 (pm1 (pm1 (pm1 (pm1 (pm1 (pm1 (pm1 (pm1 (pk K))))))))))) fun _ w=>(qB c d b f a e w N2 K))))∧(DoX prog (aS 53 i g) w (pm1 (pm1 (pm1 (pm1 (pm1 (pm1 (pm1 (pm1 (pm1 (pm1 (pk K))))))))))) fun _ w=>(DoX prog (gL 9 53 h) w (pm1 (pm1 (pm1 (pm1 (pm1 (pm1 (pm1 (pm1 (pm1 (pm1 (pk K))))))))))) fun t57_1 w=>S4 w∧(HDo prog (fun _=>True) (mFA 246 a 1) fun t59_1=>DoX prog (aS 53 t59_1 t57_1) w (pm1 (pm1 (pm1 (pm1 (pm1 (pm1 (pm1 (pm1 (pm1 (pm1 (pk K))))))))))) fun _ w=>(qB c d b f a e w N2 K))))))
def BW(t1 t6 t7 t9 t10 w)(N2:JT)(K:KT):=nz Tryz.f193 639 [N2] [nh 23 [1,9],(32,[11],fun s v j w f=>CZ (s 1) (s 6) (s 7) (s 9) (s 10) (vg v 0) w (f 0) K)] [] (zg [1,6,7,9,10] [t1,t6,t7,t9,t10]) w K
def pF(t1 t2 t6 t7 w)(K:KT):=nz Tryz.f193 15 [] [(23,[1,9],fun s v j w f=>BW (vg v 0) (s 6) (s 7) (vg v 1) (s 10) w (f 0) K)] [] (zg [1,2,6,7] [t1,t2,t6,t7]) w K
def uM(t0 t1 w)(K:KT):=nz Tryz.f193 1 [] [(8,[7],fun s v j w f=>pF (s 1) (s 2) (s 6) (vg v 0) w K)] [] (zg [0,1] [t0,t1]) w K
theorem Bh{t0 t1 w K}(h:uM t0 t1 w K):Calls prog 193 #[t0,t1] w K:=cz [(4,[7]),(16,[11])] [(11,[1,9])] Tryz.func193 h
end
end Go.Proofs.YtlipjfcbjemicaaGreatDoor

namespace Go.Proofs.YtlipjfcbjemicaaGreatDoor
variable{A S:Nat->Prop}{D:TypeId}{K:VWP}{M:Eng.Mem}{PK:PKT}{R:Ending->FrameMode->World->Prop}{W w w0:World}{above:List UInt8}{b cap fb h i m mo most p rb sz:Nat}{colors way:Int}{cs:List Value}{e:Eng.Ent}{q:Bool}{t0 v v2:Value}{u:FrameMode}
section
open Eng Go.RowKit
structure Pm where
 p:Int
 c:Int
 n:Int
def pmC (x:Pm):List Value:=[.int .i64 x.p,.int .i64 x.c,.int .i64 x.n]
def pmV (x:Pm):Value:=.agg (pmC x).toArray
abbrev pmE (b:Nat)(x:Pm):Ent:=.cells b (pmC x) 27
theorem MU {x:Pm}:∀u∈pmC x,u.oneCell'=true:=by
 intro u hu;simp only[pmC,ahG,ajH,or_false] at hu;rcases hu with rfl|rfl|rfl<;>rfl
theorem Fg:aggN prog 27=some 3:=krx
theorem szPm:(Tryz.prog.info? 27).map (·.size)=some 3:=krx
theorem aaF:fOff prog 27 0=some 0:=krx
theorem NJ:fOff prog 27 1=some 1:=krx
theorem Rs:fOff prog 27 2=some 2:=krx
def Pm.known (x:Pm):Prop:=x.p=1∨x.p=2∨(10<=x.p∧x.p<=15)
def Pm.ok (x:Pm):Prop:=x.known∧1<=x.c∧1<=x.n∧x.c<=8192∧x.c*x.n<=8192
instance (x:Pm):Decidable x.known:=by unfold Pm.known;infer_instance
instance (x:Pm):Decidable x.ok:=by unfold Pm.ok;infer_instance
theorem Pm.mul_pos {x:Pm}(h:x.ok):1<=x.c*x.n:=by
 obtain⟨_,h1,h2,_,h4⟩:=h;have:1*1<=x.c*x.n:=Int.mul_le_mul h1 h2 om om;omega
section
variable {w:World}{PK:PKT}{K:VWP}{S:Nat->Prop}{w0:World}{L:List Ent}
theorem Hm (x:Pm)(ho:OwnS S w0 w L)(k:∀b w',OwnS S w0 w' (pmE b x::L)->K (.pointer (some ⟨b,0,none⟩)) w'):DoX prog (mBox 27 (pmV x)) w PK K:=
 bC (fun b=>.pointer (some ⟨b,0,none⟩)) (pmC x) 27 (fun _=>by kernel_rfl) ho k
theorem pm_v (ho:OwnS S w0 w L)(j:Nat){x:Pm}(hi:L[j]?=some (pmE b x)):DoX prog (aI 27 (.pointer (some ⟨b,0,none⟩))) w PK K=K (pmV x) w:=l_at (ho.agg j hi Fg)
theorem pm_0 (ho:OwnS S w0 w L)(j:Nat){x:Pm}(hi:L[j]?=some (pmE b x)):DoX prog (aI 3 (.pointer (some ⟨b,0+0,none⟩))) w PK K=K (.int .i64 x.p) w:=aO cI (ho.cell j hi 0 rfl)
theorem pm_1 (ho:OwnS S w0 w L)(j:Nat){x:Pm}(hi:L[j]?=some (pmE b x)):DoX prog (aI 3 (.pointer (some ⟨b,0+1,none⟩))) w PK K=K (.int .i64 x.c) w:=aO cI (ho.cell j hi 1 rfl)
theorem pm_2 (ho:OwnS S w0 w L)(j:Nat){x:Pm}(hi:L[j]?=some (pmE b x)):DoX prog (aI 3 (.pointer (some ⟨b,0+2,none⟩))) w PK K=K (.int .i64 x.n) w:=aO cI (ho.cell j hi 2 rfl)
theorem fpm0 {off:Nat}:DoX prog (mFA 27 (.pointer (some ⟨b,off,none⟩)) 0) w PK K=K (.pointer (some ⟨b,off+0,none⟩)) w:=aK aaF
theorem fpm1 {off:Nat}:DoX prog (mFA 27 (.pointer (some ⟨b,off,none⟩)) 1) w PK K=K (.pointer (some ⟨b,off+1,none⟩)) w:=aK NJ
theorem fpm2 {off:Nat}:DoX prog (mFA 27 (.pointer (some ⟨b,off,none⟩)) 2) w PK K=K (.pointer (some ⟨b,off+2,none⟩)) w:=aK Rs
end
theorem LW {x:Pm}(h:(pmE b x).is W):(aI 3 (.pointer (some ⟨b,0+1,none⟩))).run prog W=.ok (.value (.int .i64 x.c)) W:=aB cI (aG (T:=27) (cs:=pmC x) h rfl)
theorem SS {x:Pm}(h:(pmE b x).is W):(aI 3 (.pointer (some ⟨b,0+2,none⟩))).run prog W=.ok (.value (.int .i64 x.n)) W:=aB cI (aG (T:=27) (cs:=pmC x) h rfl)
theorem JW (x:Pm)(w:World):Ret prog 149 #[pmV x] w (fun v w'=>v=.bool (decide x.ok)∧Below w.heap.size w w'):=by
 refine aP fun K hK=>EM ?_;unfold Co nz;refine Hm x (Own.start w) fun b w1 ho=>?_;rw[fpm0,pm_0 ho 0 rfl];have no:∀{W:World},¬x.ok->Below w.heap.size w W->K (.returned (.bool false)) W:=fun h hw=>hK _ _ ⟨by rw[ahA h],hw⟩;have rest:x.known->QuietX w1 (fun C1=>
   QDo prog C1 (mFA 27 (.pointer (some ⟨b,0,none⟩)) 1) fun t24=>
   QDo prog C1 (aI 3 t24) fun t25=>
   QDo prog C1 (mBin .geq 3 t25 (.int .i64 1)) fun t26=>
   QDo prog C1 (eS (.bool true) t26 (.bool false)) fun t27=>
   GQ t27 true (fun E=>QDo prog C1 (mFA 27 (.pointer (some ⟨b,0,none⟩)) 2) E) fun t29=>
   GQ t27 true (fun E=>QDo prog C1 (aI 3 t29) E) fun t30=>
   GQ t27 true (fun E=>QDo prog C1 (mBin .geq 3 t30 (.int .i64 1)) E) fun t31=>
   QDo prog C1 (eS t27 t31 (.bool false)) fun t32=>
   GQ t32 true (fun E=>QDo prog C1 (mFA 27 (.pointer (some ⟨b,0,none⟩)) 1) E) fun t34=>
   GQ t32 true (fun E=>QDo prog C1 (aI 3 t34) E) fun t35=>
   GQ t32 true (fun E=>QDo prog C1 (mBin .leq 3 t35 (.int .i64 8192)) E) fun t36=>
   QDo prog C1 (eS t32 t36 (.bool false)) fun t37=>
   GQ t37 true (fun E=>QDo prog C1 (mFA 27 (.pointer (some ⟨b,0,none⟩)) 2) E) fun t39=>
   GQ t37 true (fun E=>QDo prog C1 (aI 3 t39) E) fun t40=>
   GQ t37 true (fun E=>QDo prog C1 (mFA 27 (.pointer (some ⟨b,0,none⟩)) 1) E) fun t41=>
   GQ t37 true (fun E=>QDo prog C1 (aI 3 t41) E) fun t42=>
   GQ t37 true (fun E=>QDo prog C1 (mBin .quo 3 (.int .i64 8192) t42) E) fun t43=>
   GQ t37 true (fun E=>QDo prog C1 (mBin .leq 3 t40 t43) E) fun t44=>
   QDo prog C1 (eS t37 t44 (.bool false)) fun t45=>
   ∀w,C1 w->K (.returned t45) w):=by
  intro hk;refine eB (fun W=>OwnS NoB w W [pmE b x]) ho.drew ?_;refine q_do _ (fun _=>bY NJ) (q_at _ (fun W h=>LW (h.at_ 0 rfl)) (Zk (q_pt ?_)));by_cases h1:1<=x.c
  case neg=>
   rw[ahA h1];simp only[gq];refine q_pf ?_;simp only[gq];refine q_pf ?_;simp only[gq];refine q_pf fun W ho=>?_;exact no (fun h=>h1 h.2.1) ho.done
  rw[ahB h1];simp only[gq];refine q_do _ (fun _=>bY Rs) (q_at _ (fun W h=>SS (h.at_ 0 rfl)) (Zk (q_pt ?_)));by_cases h2:1<=x.n
  case neg=>
   rw[ahA h2];simp only[gq];refine q_pf ?_;simp only[gq];refine q_pf fun W ho=>?_;exact no (fun h=>h2 h.2.2.1) ho.done
  rw[ahB h2];simp only[gq];refine q_do _ (fun _=>bY NJ) (q_at _ (fun W h=>LW (h.at_ 0 rfl)) (Vk (q_pt ?_)));by_cases h3:x.c<=8192
  case neg=>
   rw[ahA h3];simp only[gq];refine q_pf fun W ho=>?_;exact no (fun h=>h3 h.2.2.2.1) ho.done
  rw[ahB h3];simp only[gq];refine q_do _ (fun _=>bY Rs) (q_at _ (fun W h=>SS (h.at_ 0 rfl)) ?_);refine q_do _ (fun _=>bY NJ) (q_at _ (fun W h=>LW (h.at_ 0 rfl)) (adG om (Vk (q_pt fun W ho=>?_))));have hq:(8192:Int).tdiv x.c=8192 / x.c:=apE dc;have hq2:8192 / x.c<=8192:=Int.ediv_le_self _ dc;have hq3:0<=8192 / x.c:=Int.ediv_nonneg dc om;rw[hq,aA om om];refine hK _ _ ⟨?_,ho.done⟩;have e:x.n<=8192 / x.c↔x.c*x.n<=8192:=by rw[Int.le_ediv_iff_mul_le om,Int.mul_comm]
  congr 1
  have:x.ok↔x.n<=8192 / x.c:=⟨fun h=>e.2 h.2.2.2.2,fun h=>⟨hk,h1,h2,h3,e.1 h⟩⟩;exact (decide_eq_decide.2 this).symm
 simp only[rs];by_cases k1:x.p=1
 ·simp only[k1,agY,rs,gq,g_un];exact rest (.inl k1)
 simp only[k1,agX,rs];rw[fpm0,pm_0 ho 0 rfl];simp only[rs];by_cases k2:x.p=2
 ·simp only[k2,agY,rs,gq,g_un];exact rest (.inr (.inl k2))
 simp only[k2,agX,rs];rw[fpm0,pm_0 ho 0 rfl];simp only[rs];by_cases k3:10<=x.p
 ·simp only[k3,agY,rs];rw[fpm0,pm_0 ho 0 rfl];simp only[rs];by_cases k4:x.p<=15
  ·simp only[k4,agY,rs,gq,g_un];exact rest (.inr (.inr ⟨k3,k4⟩))
  ·simp only[k4,agX,rs,gq,g_un];refine eB (fun W=>OwnS NoB w W [pmE b x]) ho.drew ?_;refine q_pf ?_;simp only[gq];refine q_pf ?_;simp only[gq];refine q_pf ?_;simp only[gq];refine q_pf fun W ho=>no (fun h=>by have:=h.1;unfold Pm.known at this;omega) ho.done
 ·simp only[k3,agX,rs,gq,g_un];refine eB (fun W=>OwnS NoB w W [pmE b x]) ho.drew ?_;refine q_pf ?_;simp only[gq];refine q_pf ?_;simp only[gq];refine q_pf ?_;simp only[gq];refine q_pf fun W ho=>no (fun h=>by have:=h.1;unfold Pm.known at this;omega) ho.done
theorem Iw (x:Pm)(w:World):Ret prog 82 #[pmV x] w (fun v w'=>v=.int .i64 (if x.ok then 0 else 1)∧Below w.heap.size w w'):=by
 refine aP fun K hK=>Cc ?_;unfold wG nz;refine Hm x (Own.start w) fun b w1 ho=>?_;rw[pm_v ho 0 rfl];refine aL ho (JW x w1) ?_;rintro _ w2 rfl ho;simp only[rs];by_cases h:x.ok
 ·rw[agW h] at hK;simp only[h,agY,aiQ,i_f];exact hK _ _ ⟨rfl,ho.done⟩
 ·rw[agV h] at hK;simp only[h,agX,aiR,i_t];exact hK _ _ ⟨rfl,ho.done⟩
theorem OO (x:Pm)(w:World):Ret prog 231 #[pmV x] w (fun v w'=>v=.int .i64 (if x.ok then x.c*x.n else 0)∧Below w.heap.size w w'):=by
 refine aP fun K hK=>Fk ?_;unfold Cs nz;refine Hm x (Own.start w) fun b w1 ho=>?_;rw[pm_v ho 0 rfl];refine aL ho (JW x w1) ?_;rintro _ w2 rfl ho;simp only[rs];by_cases h:x.ok
 ·rw[agW h] at hK;simp only[h,agY,aiQ,i_f];have h1:=Pm.mul_pos h;have h2:=h.2.2.2.2;rw[fpm1,pm_1 ho 0 rfl,fpm2,pm_2 ho 0 rfl];simp only[rs];rw[aA om om];exact hK _ _ ⟨rfl,ho.done⟩
 ·rw[agV h] at hK;simp only[h,agX,aiR,i_t];exact hK _ _ ⟨rfl,ho.done⟩
def Pr.abs (x:Int):Int:=max x (-x)
def Pr.aeP (a b c:UInt8):UInt8:=
 let pt:Int:=(a.toNat:Int)+(b.toNat:Int) - (c.toNat:Int)
 if Pr.abs (pt - (a.toNat:Int))<=Pr.abs (pt - (b.toNat:Int))∧Pr.abs (pt - (a.toNat:Int))<=Pr.abs (pt - (c.toNat:Int)) then a
 else if Pr.abs (pt - (b.toNat:Int))<=Pr.abs (pt - (c.toNat:Int)) then b else c
section
variable {w:World}{PK:PKT}{K:VWP}
theorem u8ix {c:UInt8}:DoX prog (gL 5 3 (.int .u8 (c.toNat:Int))) w PK K=K (.int .i64 (c.toNat:Int)) w:=by
 have hc:=amB c;have e:IntKind.i64.wrap (c.toNat:Int)=(c.toNat:Int):=aA om om;have:=bO (P:=prog) (S:=5) (D:=3) (k:=.u8) (n:=(c.toNat:Int)) (w:=w) krx aiX;rw[e] at this;exact aE this
end
def Pr.at_ (l:List UInt8)(i:Int):UInt8:=if i < 0∨(l.length:Int)<=i then 0 else l.getD i.toNat 0
def Pr.off (tag:Int)(above row:List UInt8)(i colors:Int):UInt8:=
 if tag=1 then Pr.at_ row (i - colors)
 else if tag=2 then Pr.at_ above i
 else if tag=3 then UInt8.ofNat (((Pr.at_ row (i - colors)).toNat+(Pr.at_ above i).toNat) / 2)
 else if tag=4 then Pr.aeP (Pr.at_ row (i - colors)) (Pr.at_ above i) (Pr.at_ above (i - colors))
 else 0
theorem Oq {n:Nat}(h:Sl w v sz n cs):v.oneCell'=true:=by
 obtain⟨_,a,cap,rfl,_⟩:=h;rfl
end
section
open Eng Go.RowKit
def Pr.decG (tag:Int)(above:List UInt8)(colors:Int):List UInt8->List UInt8->List UInt8
|acc,[]=>acc
|acc,c::r=>Pr.decG tag above colors (acc++[c+Pr.off tag above acc (acc.length:Int) colors]) r
theorem Pr.O6 (tag:Int)(above:List UInt8)(colors:Int):∀(r acc:List UInt8),(Pr.decG tag above colors acc r).length=acc.length+r.length
|[],acc=>rfl
|c::r,acc=>by rw[Pr.decG,Pr.O6 tag above colors r,agZ,ajJ,ahU];omega
theorem Pr.aaU {p r:List UInt8}{i:Int}(h:i < (p.length:Int)):Pr.at_ (p++r) i=Pr.at_ p i:=by
 unfold Pr.at_;by_cases h0:i < 0
 ·rw[agW (.inl h0),agW (.inl h0)]
 ·rw[agV (by rw[agZ];omega),agV om,ahC,ajA om,ahC]
theorem Pr.YO {tag:Int}{p r:List UInt8}(hc:1<=colors):Pr.off tag above (p++r) (p.length:Int) colors=Pr.off tag above p (p.length:Int) colors:=by
 unfold Pr.off;rw[Pr.aaU om]
def Pr.Mi (c:Int)(n h:Nat):Nat->List UInt8->List UInt8->List UInt8->List UInt8×Int
|0,_,_,_=>([],13)
|f+1,s,prev,out=>
  if s.length=0 then (out,0)
  else if 5<=(if h=1 then (s.getD 0 0).toNat else 1) then ([],3)
  else
   let row:=Pr.decG ((if h=1 then (s.getD 0 0).toNat else 1:Nat):Int) prev c [] ((s.drop h).take n)
   Pr.Mi c n h f (s.drop (n+h)) row (out++row)
def Pm.head (x:Pm):Nat:=if 10<=x.p then 1 else 0
def Pr.decode (x:Pm)(s:List UInt8):List UInt8×Int:=
 if ¬x.ok then ([],1)
 else if 1048576 < s.length then ([],5)
 else if x.p=1 then (s,0)
 else if s.length % ((x.c*x.n).toNat+x.head)≠0 then ([],16)
 else Pr.Mi x.c (x.c*x.n).toNat x.head (s.length+1) s [] []
def nS:Value->Nat|.string s=>s.size|_=>0
theorem gY (l:List UInt8):nS (.string ⟨l.toArray⟩)=l.length:=dK l
def BRd (e:Ent)(v:Value)(l:List UInt8):Prop:=∀W,e.is W->Sl W v 1 l.length (aH l)
theorem XG {l:List UInt8}:BRd (.mkr 5 b l) (.slice (some ⟨b,0,none⟩) l.length cap) l:=fun W h=>afQ h
section
variable {w:World}{PK:PKT}{K:VWP}{S:Nat->Prop}{w0:World}{L:List Ent}
end
theorem FW (x:Pm)(s:List UInt8)(r:Nat)(w:World)(hr:1<=r)(hs:s.length<=1000000000):Ret prog 232 #[pmV x,.string ⟨s.toArray⟩,.int .i64 (r:Int)] w (fun v w'=>v=.int .i64 (if ¬x.ok then 1 else if 1048576 < s.length then 5 else if x.p≠1∧s.length % r≠0 then 16 else 0)∧Below w.heap.size w w'):=by
 refine aP fun K hK=>AU ?_;unfold uT nz;refine Hm x (Own.start w) fun b w1 ho=>?_;rw[pm_v ho 0 rfl];refine aL ho (JW x w1) ?_;rintro _ w2 rfl ho
 try simp only[rs]
 by_cases h:x.ok
 case neg=>
  rw[agW h] at hK;simp only[h,agX,aiR,i_t];exact hK _ _ ⟨rfl,ho.done⟩
 rw[agV (by simp[h])] at hK;simp only[h,agY,aiQ,i_f];rw[fP ahF]
 try simp only[rs]
 by_cases h2:1048576 < s.length
 ·rw[agW h2] at hK;simp only[show decide ((1048576:Int) < (s.length:Int))=true from ahB om,i_t];exact hK _ _ ⟨rfl,ho.done⟩
 rw[agV h2] at hK;simp only[show decide ((1048576:Int) < (s.length:Int))=false from ahA om,i_f];rw[fpm0,pm_0 ho 0 rfl]
 try simp only[rs]
 by_cases h3:x.p=1
 ·rw[agV (by simp[h3])] at hK;simp only[h3,ne_eq,not_true,agX,rs,g_un];exact hK _ _ ⟨rfl,ho.done⟩
 simp only[h3,ne_eq,akI,agY,rs];rw[fP ahF]
 try simp only[rs]
 rw[Jo om,afP]
 try simp only[rs]
 by_cases h4:s.length % r=0
 ·rw[agV (by simp[h4])] at hK;simp only[show decide (((s.length % r:Nat):Int)≠0)=false from ahA om,i_f,rs];exact hK _ _ ⟨rfl,ho.done⟩
 ·rw[agW ⟨h3,h4⟩] at hK;simp only[show decide (((s.length % r:Nat):Int)≠0)=true from ahB om,i_t,rs];exact hK _ _ ⟨rfl,ho.done⟩
end
section
open Eng
def xZ(t0 t1 w)(K:KT):=nz Tryz.f179 1 [] [] [] (zg [0,1] [t0,t1]) w K
theorem yK{t0 t1 w K}(h:xZ t0 t1 w K):Calls prog 179 #[t0,t1] w K:=cw Tryz.func179 h
def uX(t0 t1 w)(K:KT):=nz Tryz.f178 1 [] [] [(0,13)] (zg [0,1] [t0,t1]) w K
theorem Bi{t0 t1 w K}(h:uX t0 t1 w K):Calls prog 178 #[t0,t1] w K:=cw Tryz.func178 h
def GK(t0 w)(K:KT):=nz Tryz.f114 1 [] [] [] (zg [0] [t0]) w K
theorem HO{t0 w K}(h:GK t0 w K):Calls prog 114 #[t0] w K:=cw Tryz.func114 h
def xN(t0 t3 w)(N1:JT)(K:KT):=nz Tryz.f186 19 [N1] [nh 5 [3]] [(2,13)] (zg [0,3] [t0,t3]) w K
def Bu(t0 w)(K:KT):=nz Tryz.f186 1 [] [(5,[3],fun s v j w f=>xN (s 0) (vg v 0) w (f 0) K)] [] (zg [0] [t0]) w K
theorem Fc{t0 w K}(h:Bu t0 w K):Calls prog 186 #[t0] w K:=cz [] [(2,[3])] Tryz.func186 h
def CQ(t0 t3 t5 w)(N1 N2:JT)(K:KT):=nz Tryz.f119 627 [N1,N2] [nh 5 [0],nh 21 [5]] [] (zg [0,3,5] [t0,t3,t5]) w K
def Dj(t0 t3 w)(N1:JT)(K:KT):=nz Tryz.f119 19 [N1] [nh 5 [0],(21,[5],fun s v j w f=>CQ (s 0) (s 3) (vg v 0) w (f 1) (f 0) K)] [] (zg [0,3] [t0,t3]) w K
def Gx(t0 w)(K:KT):=nz Tryz.f119 1 [] [(5,[0],fun s v j w f=>Dj (vg v 0) (s 3) w (f 0) K)] [] (zg [0] [t0]) w K
theorem HG{t0 w K}(h:Gx t0 w K):Calls prog 119 #[t0] w K:=cz [] [(2,[0]),(10,[5])] Tryz.func119 h
def oS(t0 t1 t5 t22 t23 w)(N2:JT)(K:KT):=nz Tryz.f184 43 [N2] [nh 13 [5,23]] [] (zg [0,1,5,22,23] [t0,t1,t5,t22,t23]) w K
def nW(t0 t1 t4 w)(N1:JT)(K:KT):=nz Tryz.f184 10 [N1] [nh 3 [4],(13,[5,23],fun s v j w f=>oS (s 0) (s 1) (vg v 0) (s 22) (vg v 1) w (f 0) K)] [] (zg [0,1,4] [t0,t1,t4]) w K
def sO(t0 t1 w)(K:KT):=nz Tryz.f184 1 [] [(3,[4],fun s v j w f=>nW (s 0) (s 1) (vg v 0) w (f 0) K)] [] (zg [0,1] [t0,t1]) w K
theorem zO{t0 t1 w K}(h:sO t0 t1 w K):Calls prog 184 #[t0,t1] w K:=cz [] [(1,[4]),(6,[5,23])] Tryz.func184 h
def F3(t0 t1 t2 w)(K:KT):=nz Tryz.f185 1 [] [] [] (zg [0,1,2] [t0,t1,t2]) w K
theorem Hs{t0 t1 t2 w K}(h:F3 t0 t1 t2 w K):Calls prog 185 #[t0,t1,t2] w K:=cw Tryz.func185 h
end
section
open Eng
def aW (x0:Deferred)(x1:Value)(x2:Value)(K:Ending->World->Prop):=pd prog [.cell x1 9,.cell x2 30] K [x0]
def uH(e c f w)(K:KT):=
 alx 9 w K fun a w=>alx 30 w K fun b w=>dx (PM (.func 223) #[] #[a,b]) w K fun g w=>DfrX (dfrV g #[]) (fun d1=>DoX prog (mBin .geq 3 c (iN 0)) w (aW d1 a b K) fun h w=>CallX prog 179 #[h,(iN 1)] w (aW d1 a b K) fun o w=>DoX prog (mB .min #[3,3] 3 #[false,true] #[c,(iN 1048576)]) w (aW d1 a b K) fun i w=>DoX prog (aZ 236 #[(1,i)]) w (aW d1 a b K) fun j w=>DoX prog (mBox 236 j) w (aW d1 a b K) fun d w=>DoX prog (gI f #[e,d]) w (aW d1 a b K) fun p w=>DoX prog (mNil d) w (aW d1 a b K) fun k w=>DoX prog (mFA 236 k 0) w (aW d1 a b K) fun l w=>DoX prog (aI 53 l) w (aW d1 a b K) fun m w=>DoX prog (gL 53 9 m) w (aW d1 a b K) fun n w=>DoX prog (aS 9 a n) w (aW d1 a b K) fun _ w=>DoX prog (aS 30 b (iN 0)) w (aW d1 a b K) fun _ w=>AR prog [.cell a 9,.cell b 30] K [d1] .returning w)
theorem A8{t0 t1 t2 w K}(h:uH t0 t1 t2 w K):Calls prog 174 #[t0,t1,t2] w K:=cw Tryz.func174 h
def Bs(t0 t1 w)(K:KT):=nz Tryz.f116 1 [] [] [] (zg [0,1] [t0,t1]) w K
theorem EP{t0 t1 w K}(h:Bs t0 t1 w K):Calls prog 116 #[t0,t1] w K:=cw Tryz.func116 h
def Am(t0 t1 w)(K:KT):=nz Tryz.f118 1 [] [] [] (zg [0,1] [t0,t1]) w K
theorem DK{t0 t1 w K}(h:Am t0 t1 w K):Calls prog 118 #[t0,t1] w K:=cw Tryz.func118 h
def Bt(t0 t1 w)(K:KT):=nz Tryz.f120 1 [] [] [] (zg [0,1] [t0,t1]) w K
theorem EJ{t0 t1 w K}(h:Bt t0 t1 w K):Calls prog 120 #[t0,t1] w K:=cw Tryz.func120 h
def rM(a b w)(N1:JT)(K:KT):=
 bnx .add 3 b (iN 1) w K fun c w=>N1 [a,c] w
def kQ(w)(K:KT):=
 K (.returned (.tuple #[])) w
def sQ(f e a g b w)(N1:JT)(K:KT):=
 bnx .lss 3 b g w K fun h w=>IfX h (JoinX (fun J2=>dx (mIx 9 f b) w K fun c w=>cx 176 #[c] w K fun d w=>cx 177 #[c] w K fun i w=>IfX i (J2 [a] w) (eqx .eql 5 (.tmp 30) (.const (.int .u8 62)) c (.int .u8 62) w K fun j w=>IfX j (JoinX (fun J3=>bnx .geq 3 a (iN 0) w K fun k w=>IfX k (bnx .mul 3 (iN 16) a w K fun l w=>dx (gL 3 5 l) w K fun m w=>dx (bN 53 1 #[(0,m)]) w K fun n w=>cx 178 #[e,n] w K fun u w=>J3 [] w) (J3 [] w)) (fun vs3 w=>∀_:Sg,kQ w K)) (bnx .lss 3 d (iN 0) w K fun o w=>IfX o (cx 179 #[(.bool false),(iN 3)] w K fun v w=>J2 [a] w) (bnx .lss 3 a (iN 0) w K fun p w=>IfX p (J2 [d] w) (bnx .mul 3 (iN 16) a w K fun q w=>bnx .add 3 q d w K fun r w=>dx (gL 3 5 r) w K fun s w=>dx (bN 53 1 #[(0,s)]) w K fun t w=>cx 178 #[e,t] w K fun x w=>J2 [(iN (-1))] w))))) (fun vs2 w=>∀_:Sg,rM (vs2.getD 0 undef) b w N1 K)) (cx 179 #[(.bool false),(iN 4)] w K fun y w=>K (.returned (.tuple #[])) w)
def xH(a b w)(K:KT):=
 lnx 9 a w K fun c w=>LoopX [(iN (-1)),(iN 0)] w (fun vs1 w N1=>∀_:Sg,sQ a b (vs1.getD 0 undef) c (vs1.getD 1 undef) w N1 K)
theorem B8{t0 t1 w K}(h:xH t0 t1 w K):Calls prog 175 #[t0,t1] w K:=cz [(16,[4]),(999999,[])] [(2,[4,10])] Tryz.func175 h
def pH(t9 w)(N1:JT)(K:KT):=nz Tryz.f183 245 [N1] [nh 5 [9]] [] (zg [9] [t9]) w K
def pZ(t0 t1 t4 t8 t9 w)(N1:JT)(K:KT):=nz Tryz.f183 21 [N1] [nh 5 [9],(32,[],fun s v j w f=>pH (s 9) w (f 0) K)] [] (zg [0,1,4,8,9] [t0,t1,t4,t8,t9]) w K
def uW(t0 t1 w)(K:KT):=nz Tryz.f183 1 [] [(5,[9],fun s v j w f=>pZ (s 0) (s 1) (s 4) (s 8) (vg v 0) w (f 0) K)] [] (zg [0,1] [t0,t1]) w K
theorem Bg{t0 t1 w K}(h:uW t0 t1 w K):Calls prog 183 #[t0,t1] w K:=cz [(16,[])] [(2,[9])] Tryz.func183 h
def rH(t0 t1 w)(N1:JT)(K:KT):=nz Tryz.f188 2 [N1] [nh 1 [0]] [] (zg [0,1] [t0,t1]) w K
def xM(t0 t1 w)(K:KT):=nz Tryz.f188 1 [] [(1,[0],fun s v j w f=>rH (vg v 0) (s 1) w (f 0) K)] [] (zg [0,1] [t0,t1]) w K
theorem CE{t0 t1 w K}(h:xM t0 t1 w K):Calls prog 188 #[t0,t1] w K:=cz [] [(0,[0])] Tryz.func188 h
def xK (x0:Nat)(K:Ending->World->Prop):=pdM prog [.val (.string ⟨#[]⟩)] K [(mkD x0)]
def Ae(b c d e a l1 R1 w)(N2:JT):=
 DoX prog (mBin .lss 3 a e) w pkR fun f w=>IfX f (DoX prog (mIA 196 d a) w pkR fun g w=>DoX prog (aI 147 g) w pkR fun h w=>DoX prog (mBin .quo 147 c h) w pkR fun i w=>DoX prog (mBin .rem 147 i (.int .u64 85)) w pkR fun j w=>DoX prog (mBin .add 147 (.int .u64 33) j) w pkR fun k w=>DoX prog (gL 147 5 k) w pkR fun l w=>CallX prog 181 #[b,l] w pkR fun n w=>DoX prog (mBin .add 3 a (iN 1)) w pkR fun m w=>N2 [m] w) (EndX prog l1 none w R1)
def wS(f w)(K:KT):=
 alx 188 w K fun c w=>dx (gL 9 53 f) w K fun g w=>cx 180 #[g,(iN 4)] w K fun h w=>RangeX prog none 1 h w (fun l1 as1 w R1=>BegX prog l1 w (fun w=>DoX prog (mB .len #[53] 3 #[false] #[(as1.getD 0 undef)]) w pkR fun d w=>DoX prog (aZ 192 #[]) w pkR fun i w=>DoX prog (Da 192) w pkR fun a w=>DoX prog (aS 192 a i) w pkR fun _ w=>DoX prog (dB 192 a none none none) w pkR fun j w=>DoX prog (mB .copy #[53,53] 3 #[false,false] #[j,(as1.getD 0 undef)]) w pkR fun P w=>DoX prog (mEq .eql 3 (.tmp 20) (.const (iN 4)) d (iN 4)) w pkR fun b w=>GDo b true (fun E=>DoX prog (aI 192 a) w pkR E) w fun k w=>GDo b true (fun E=>DoX prog (aZ 192 #[]) w pkR E) w fun l w=>GDo b true (fun E=>DoX prog (mEq .eql 192 (.tmp 23) (.tmp 24) k l) w pkR E) w fun m w=>DoX prog (eS b m (.bool false)) w pkR fun n w=>IfX n (CallX prog 181 #[c,(.int .u8 122)] w pkR fun Q w=>EndX prog l1 none w R1) (DoX prog (mIA 192 a (iN 0)) w pkR fun o w=>DoX prog (aI 5 o) w pkR fun p w=>DoX prog (gL 5 147 p) w pkR fun q w=>DoX prog (mBin .shl 147 q (.int .u64 24)) w pkR fun r w=>DoX prog (mIA 192 a (iN 1)) w pkR fun s w=>DoX prog (aI 5 s) w pkR fun t w=>DoX prog (gL 5 147 t) w pkR fun u w=>DoX prog (mBin .shl 147 u (.int .u64 16)) w pkR fun v w=>DoX prog (mBin .or 147 r v) w pkR fun x w=>DoX prog (mIA 192 a (iN 2)) w pkR fun y w=>DoX prog (aI 5 y) w pkR fun z w=>DoX prog (gL 5 147 z) w pkR fun A w=>DoX prog (mBin .shl 147 A (.int .u64 8)) w pkR fun B w=>DoX prog (mBin .or 147 x B) w pkR fun C w=>DoX prog (mIA 192 a (iN 3)) w pkR fun D w=>DoX prog (aI 5 D) w pkR fun F w=>DoX prog (gL 5 147 F) w pkR fun G w=>DoX prog (mBin .or 147 C G) w pkR fun H w=>DoX prog (mBin .add 3 d (iN 1)) w pkR fun I w=>DoX prog (dB 197 (.pointer (some ⟨0,0,none⟩)) none (some I) none) w pkR fun e w=>DoX prog (mB .len #[196] 3 #[false] #[e]) w pkR fun L w=>LoopX [(iN 0)] w (fun vs2 w N2=>∀_:Sg,Ae c H e L (vs2.getD 0 undef) l1 R1 w N2))))
 [(none,fun r1 w=>CallX prog 182 #[c] w (xK r1 K) fun M w=>DoX prog (mBin .add 9 M (.string ⟨#[126,62]⟩)) w (xK r1 K) fun O w=>Eo prog [.val O] K [(mkD r1)] .returning w)]
theorem Ha (t0:Value)(w:World)(K:Ending->World->Prop):wpX prog 64 [] [(11,[50])] none (Ag Tryz.f117) (topM prog [.tmp 2] K) (jW [t0]) [] w=wS t0 w K:=krx
theorem GH {K:Ending->World->Prop}(h:wS t0 w K):Calls prog 117 #[t0] w K:=
 K6 Tryz.func117 rfl rfl rfl rfl (Eq.mpr (Ha t0 w K) h)
end
section
open Eng
def fA(w)(K:KT):=
 K (.returned (.tuple #[])) w
def fX(a b r w)(K:KT):=
 eqx .eql 20 (.tmp 5) (.const .nilIface) r .nilIface w K fun f w=>IfX f (K (.returned (.tuple #[])) w) (dx (mTA r 20 234 true) w K fun d w=>exx d 1 w K fun g w=>exx d 0 w K fun h w=>IfX g (alx 234 w K fun c w=>stx 234 c h w K fun _ w=>DrawX w (fun w=>(fax 234 c 0 w K fun e w=>(ldx 30 e w K fun i w=>stx 9 a (.string ⟨#[]⟩) w K fun _ w=>stx 30 b i w K fun _ w=>fA w K)∧(stx 9 a (.string ⟨#[]⟩) w K fun _ w=>ldx 30 e w K fun t12_1 w=>stx 30 b t12_1 w K fun _ w=>fA w K))∧(stx 9 a (.string ⟨#[]⟩) w K fun _ w=>fax 234 c 0 w K fun t11_1 w=>ldx 30 t11_1 w K fun t12_2 w=>stx 30 b t12_2 w K fun _ w=>fA w K))) (dx (Ev r) w K fun _ w=>K (.returned (.tuple #[])) w))
theorem xG (t0 t1 r:Value)(w:World)(K:Ending->World->Prop):wpX prog 13 [] [] none (VQ (Ag Tryz.f223)) (topD prog [] K) (upd (jW [t0,t1]) 5 r) [] w=fX t0 t1 r w K:=krx
theorem kH {t1:Value}(h:fX t0 t1 (recV u) w (fun e w=>R e (recM u) w)):CallsD prog 223 #[t0,t1] u w R:=
 qK Tryz.func223 rfl rfl rfl rfl rfl rfl rfl rfl (Eq.mpr (xG t0 t1 (recV u) w _) h)
end
section
open Eng Go.RowKit
def Ax.hexG (most:Nat):List UInt8->Int->List UInt8->List UInt8×Int
|[],_,_=>([],4)
|c::r,half,out=>
  if Oc.Bk c=true then Ax.hexG most r half out
  else if c=62 then (if half < 0 then (out,0) else if most<=out.length then ([],5) else (out++[UInt8.ofNat (16*half.toNat)],0))
  else if Lx.digit c < 0 then ([],3)
  else if half < 0 then Ax.hexG most r (Lx.digit c) out
  else if most<=out.length then ([],5)
  else Ax.hexG most r (-1) (out++[UInt8.ofNat (16*half+Lx.digit c).toNat])
def Ax.within (D:Nat->List UInt8×Int)(most:Int):List UInt8×Int:=if most < 0 then ([],1) else D (min most.toNat 1048576)
def Ax.unhex (s:List UInt8)(most:Int):List UInt8×Int:=Ax.within (fun m=>Ax.hexG m s (-1) []) most
def skC (ov:Value)(most:Nat):List Value:=[ov,.int .i64 (most:Int)]
abbrev skE (b:Nat)(ov:Value)(most:Nat):Ent:=.cells b (skC ov most) 236
abbrev Sk (b:Nat)(most:Nat)(ov:Value)(out:List UInt8)(T:List Ent):List Ent:=skE b ov most::outR ov out::T
theorem O2:fOff prog 236 0=some 0:=krx
theorem aaC:fOff prog 236 1=some 1:=krx
theorem acT:kT prog 234=true:=krx
theorem aaQ:fOff prog 234 0=some 0:=krx
theorem aeV:(Tryz.prog.info? 234).map (·.size)=some 1:=krx
theorem KM:bZ prog 223=true:=krx
def upA (e:Int):PanicEntry:={ v:=.iface 234 (.agg #[.int .i64 e]),recovered:=false }
theorem Xy (e:Int)(w:World):Ret prog 179 #[.bool true,.int .i64 e] w (fun v w'=>v=.tuple #[]∧w=w'):=by
 refine aP fun K hK=>yK ?_;unfold xZ nz;simp only[rs,aiQ,i_f];exact hK _ _ ⟨rfl,rfl⟩
theorem X8 (e:Int)(w:World):Pan prog 179 #[.bool false,.int .i64 e] w (fun c w'=>c=[upA e]∧w=w'):=by
 refine RG fun K hK=>yK ?_;unfold xZ nz;simp only[rs,aiR,i_t];have hb:∀{PK:PKT} {K:VWP},DoX prog (aZ 234 #[(0,.int .i64 e)]) w PK K=K (.agg #[.int .i64 e]) w:=aE krx;rw[hb,I3 acT,Gu];exact hK _ _ ⟨rfl,rfl⟩
section
variable {w:World}{PK:PKT}{K:VWP}{S:Nat->Prop}{w0:World}{L T:List Ent}
theorem kM {e:Int}(kt:q=true->K (.tuple #[]) w)(kf:q=false->PK [upA e] w):CallX prog 179 #[.bool q,.int .i64 e] w PK K:=by
 cases q with
|true=>exact c_eq (Xy e w) (kt rfl)
|false=>exact XJ (X8 e w) fun c w' ⟨hc,hw⟩=>by subst hc;subst hw;exact kf rfl
theorem Xx {ov:Value}(h:(skE b ov most).is W):(aI 53 (.pointer (some ⟨b,0+0,none⟩))).run prog W=.ok (.value ov) W:=aB G3 (aG (T:=236) (cs:=skC ov most) h rfl)
theorem Yy {ov:Value}(h:(skE b ov most).is W):(aI 3 (.pointer (some ⟨b,0+1,none⟩))).run prog W=.ok (.value (.int .i64 (most:Int))) W:=aB cI (aG (T:=236) (cs:=skC ov most) h rfl)
theorem Ki {l:List UInt8}(h:Sl W v 1 l.length (aH l)):(mB .len #[53] 3 #[false] #[v]).run prog W=.ok (.value (.int .i64 (l.length:Int))) W:=by
 obtain⟨_,a,cap,rfl,_⟩:=h;simp[mB,builtin,Builtin.len_,run_underlying ahX,goInt]
theorem NV {ov:Value}{out l:List UInt8}(ho:OwnS S w0 w (e::Sk b most ov out T))(hb:BRd e v2 l)(hm:most<=1048576)(hol:out.length<=most)(hl:l.length<=1000000000)
  (kt:out.length+l.length<=most->∀ov' W,OwnS S w0 W (Sk b most ov' (out++l) T)->K (.tuple #[]) W)
  (kf:most < out.length+l.length->∀W,OwnS S w0 W (Sk b most ov out T)->PK [upA 5] W):CallX prog 178 #[.pointer (some ⟨b,0,none⟩),v2] w PK K:=by
 refine⟨Bi ?_⟩;unfold uX nz;refine eB (fun W=>OwnS S w0 W (e::Sk b most ov out T)) ho.drew ?_;refine q_do _ (fun _=>cM) (q_do _ (fun _=>bY O2) (q_at _ (fun W h=>Xx (h.at_ 1 rfl)) ?_));refine q_at _ (fun W h=>Ki (Ck (h.at_ 2 rfl))) ?_;refine q_at _ (fun W h=>Ki (hb W (h.at_ 0 rfl))) (qQ ?_);rw[aA om om];refine q_do _ (fun _=>cM) (q_do _ (fun _=>bY aaC) (q_at _ (fun W h=>Yy (h.at_ 1 rfl)) (Vk ?_)));intro w1 ho;refine kM (fun h=>?_) (fun h=>kf (by have:=aiK h;omega) w1 ho.tail);have hle:=ahO h;rw[aV,aK O2,aO G3 (ho.cell 1 rfl 0 rfl)];refine cL 2 ahX elU8 dc ho rfl (hb _ (ho.at_ 0 rfl)) eY om om fun v' w2 ho=>?_;rw[aV,aK O2];have hv':v'.oneCell'=true:=Oq (Sl.urow (ho.at_ 2 rfl));refine aN 1 ho rfl krx hv' (by show 0+0 < 2;omega) fun w3 ho=>?_;refine kt om v' w3 ?_;unfold Sk;rw[FN];exact ho.tail
end
theorem xW (f:Nat)(hp:bZ prog f=true)(s:List UInt8)(most:Int)(D:Nat->List UInt8×Int)(M:Mem)(w:World)(hM:M.has w)
  (hF:∀{S:Nat->Prop} {w0 w:World} {T:List Ent} {PK:PKT} {K:VWP} (b mo:Nat),mo<=1048576->OwnS S w0 w (Sk b mo nilS [] (.mem M::T)) ->
   (∀ov' out W,D mo=(out,0)->out.length<=mo->OwnS S w0 W (Sk b mo ov' out (.mem M::T))->K (.tuple #[]) W)->(∀e ov' out W,D mo=([],e)->OwnS S w0 W (Sk b mo ov' out (.mem M::T))->PK [upA e] W) ->
   CallX prog f #[.string ⟨s.toArray⟩,.pointer (some ⟨b,0,none⟩)] w PK K) :
  RetM prog 174 #[.string ⟨s.toArray⟩,.int .i64 most,.func (.func f) #[] #[]] M w (fun v _=>v=zlT (Ax.within D most)∧(Ax.within D most).1.length<=1048576):=by
 refine aT hM fun K hK=>A8 ?_;generalize hX:Ax.within D most=X at hK;unfold Ax.within at hX;unfold uH iN dx alx;refine bC (fun b=>.pointer (some ⟨b,0,none⟩)) [.string ⟨#[]⟩] 9 (fun _=>by kernel_rfl) (OwnS.memS hM) fun b4 w1 ho=>?_;refine bC (fun b=>.pointer (some ⟨b,0,none⟩)) [.int .i64 0] 30 (fun _=>by kernel_rfl) ho fun b6 w3 ho=>?_;have ho:OwnS M.A w w3 ([GL b6 0,FP b4 []]++([.mem M]++[])):=ho;have ho:=ho.front;rw[yF];refine⟨_,rfl,?_⟩;have fail:∀{W:World} {L:List Ent} {e:Int},OwnS M.A w W (L++([.mem M,GL b6 0,FP b4 []]++[]))->X=([],e) ->
   aW { target:=.fn (.func 223) #[.pointer (some ⟨b4,0,none⟩),.pointer (some ⟨b6,0,none⟩)],args:=#[]++#[] } (.pointer (some ⟨b4,0,none⟩)) (.pointer (some ⟨b6,0,none⟩)) K [upA e] W:=by
  intro W L e ho hx;have ho:=ho.front;have ho:OwnS M.A w W (.mem M::GL b6 0::FP b4 []::(L++[])):=ho;show pd prog _ K _ [upA e] W;unfold pd;refine nF sm KM (kH (t0:=.pointer (some ⟨b4,0,none⟩)) (t1:=.pointer (some ⟨b6,0,none⟩)) ?_);simp only[fX,recV,recM,upA,Eng.SG alA,rs,Vv acT,ex,i_t,i_f,dx,ldx,fax,exx,stx,eqx,alx];refine bC (fun b=>.pointer (some ⟨b,0,none⟩)) [.int .i64 0] 234 (fun _=>by kernel_rfl) ho fun b7 w5 ho=>?_;refine iE 0 ho rfl (new:=[.int .i64 e]) aeV (fun u hu=>by rw[aiA.1 hu];rfl) rfl fun w6 ho=>?_;refine⟨?_⟩;have ho:=ho.drew
  repeat' first
  |apply And.intro
  |refine aE (bY aaQ) |>.mpr ?_
  |refine aE (aB Fm (ho.cell 0 rfl 0 rfl)) |>.mpr ?_
  |refine aN 3 ho rfl krx rfl sm (fun _ ho=>?_)
  |refine aN 2 ho rfl krx rfl sm (fun _ ho=>?_)
  all_goals
   unfold fA;refine Bp (bH (AtV.cell S9 (ho.cell 3 rfl 0 rfl))) (bH (AtV.cell Fm (ho.cell 2 rfl 0 rfl))) (hK _ _ M _ 1 ho rfl M.le_refl ⟨by rw[hx];rfl,by rw[hx];exact ahW _⟩)
 try simp only[rs]
 refine kM (fun h1=>?_) (fun h1=>?_)
 rotate_left
 ·have:=aiK h1;rw[agW om] at hX;exact fail (L:=[]) ho hX.symm
 have h1:=ahO h1;rw[agV om] at hX;rw[Vn,show min most 1048576=((min most.toNat 1048576:Nat):Int) by omega];have hm1:min most.toNat 1048576<=1048576:=Nat.min_le_right _ _;generalize min most.toNat 1048576=mo at hX hm1;have e:∀W:World,(aZ 236 #[(1,.int .i64 (mo:Int))]).run prog W=.ok (.value (.agg (skC nilS mo).toArray)) W:=fun W=>by kernel_rfl
 refine aE (e w3) |>.mpr ?_;refine bC (fun b=>.pointer (some ⟨b,0,none⟩)) (skC nilS mo) 236 (fun _=>by kernel_rfl) ho fun fb w5 ho=>?_;have ho:=(OwnS.nilU ho 5 1).swap;refine EI hp ?_;refine hF (T:=[GL b6 0,FP b4 []]) fb mo hm1 ho (fun ov out W hd hol ho=>?_) (fun e ov out W hd ho=>?_)
 rotate_left
 ·exact fail (L:=[skE fb ov mo,outR ov out]) ho (hX.symm.trans hd)
 rw[aV,aK O2,aO G3 (ho.cell 0 rfl 0 rfl),My ahX aiL ahF (Ck (ho.at_ 1 rfl))];refine aN 4 ho rfl krx rfl sm fun w8 ho=>?_;refine aN 3 ho rfl krx rfl sm fun w9 ho=>?_;refine nF sm KM (kH (t0:=.pointer (some ⟨b4,0,none⟩)) (t1:=.pointer (some ⟨b6,0,none⟩)) ?_);simp only[fX,recV,recM,Eng.Py alA,rs,i_t,i_f,dx,ldx,fax,exx,stx,eqx,alx];rw[hd] at hX;refine Bp (bH (AtV.cell S9 (ho.cell 4 rfl 0 rfl))) (bH (AtV.cell Fm (ho.cell 3 rfl 0 rfl))) (hK _ _ M _ 2 ho rfl M.le_refl ⟨by rw[<-hX];rfl,by rw[<-hX];dsimp only;omega⟩)
theorem KO:bZ prog 175=true:=krx
theorem acD (c:UInt8):-1<=Lx.digit c∧Lx.digit c<=15:=by
 unfold Lx.digit;have:=amB c
 repeat' split
 all_goals omega
theorem T4 {T:List Ent}(s:List UInt8)(b mo:Nat)(hs:s.length<=1000000000)(hm:mo<=1048576)(ho:OwnS S w0 w (Sk b mo nilS [] T))
  (kt:∀ov' out W,Ax.hexG mo s (-1) []=(out,0)->out.length<=mo->OwnS S w0 W (Sk b mo ov' out T)->K (.tuple #[]) W) (kf:∀e ov' out W,Ax.hexG mo s (-1) []=([],e)->OwnS S w0 W (Sk b mo ov' out T)->PK [upA e] W) :
  CallX prog 175 #[.string ⟨s.toArray⟩,.pointer (some ⟨b,0,none⟩)] w PK K:=by
 generalize hX:Ax.hexG mo s (-1) []=X at kt kf;refine⟨B8 ?_⟩;unfold xH iN lnx;rw[fP ahF];refine loop (fun vs W=>∃(i:Nat) (half:Int) (ov:Value) (out:List UInt8),vs=[.int .i64 half,.int .i64 (i:Int)]∧i<=s.length∧-1<=half∧half<=15∧out.length<=mo∧Ax.hexG mo (s.drop i) half out=X∧OwnS S w0 W (Sk b mo ov out T)) (fun vs _=>s.length - n1 vs) ⟨0,-1,nilS,[],rfl,om,om,om,sm,hX,ho⟩ ?_;clear ho hX;rintro vs w1 ⟨i,half,ov,out,rfl,hi,h1,h2,hol,hX,ho⟩ _;simp only[sQ,gd,rs,iN,dx,bnx,eqx,cx];by_cases hlt:(i:Int) < (s.length:Int)
 case neg=>
  simp only[hlt,agX,i_f];rw[ajC om] at hX;exact kM (fun h=>by cases h) (fun _=>kf 4 ov out w1 hX.symm ho)
 simp only[hlt,agY,i_t];have hi':i < s.length:=om
 rw[ajB hi',Ax.hexG] at hX;have hc:=ahH hi';generalize s[i]=c at hX hc;refine join fun J hJ=>?_;have next:∀(half':Int) (ov':Value) (out':List UInt8) (W:World),-1<=half'->half'<=15->out'.length<=mo->Ax.hexG mo (s.drop (i+1)) half' out'=X->OwnS S w0 W (Sk b mo ov' out' T)->J [.int .i64 half'] W:=by
  intro half' ov' out' W g1 g2 g3 g4 ho;refine hJ _ _ fun _=>?_;simp only[rM,gd,rs,iN,bnx];rw[aA om om];exact aY ⟨i+1,half',ov',out',rfl,om,g1,g2,g3,g4,ho⟩ (by simp[n1,RowKit.intOf];omega)
 rw[s_ix ahF om (by rw[ahI];exact hc)];refine c_eq (Tl c w1) (c_eq (KR c w1) ?_);have hdg:=acD c;by_cases hw:Oc.Bk c=true
 ·rw[agW hw] at hX;rw[hw,i_t];exact next half ov out w1 h1 h2 hol hX ho
 rw[agV hw] at hX;rw[Bool.eq_false_iff.2 hw,i_f]
 try simp only[rs]
 have key:∀{n:Nat} {PK:PKT} {K:VWP},(out.length < mo->∀ov' W,OwnS S w0 W (Sk b mo ov' (out++[UInt8.ofNat n]) T)->K (.tuple #[]) W)->(mo<=out.length->∀W,OwnS S w0 W (Sk b mo ov out T)->PK [upA 5] W) ->
   DoX prog (bN 53 1 #[(0,.int .u8 ((UInt8.ofNat n).toNat:Int))]) w1 PK fun t w=>CallX prog 178 #[.pointer (some ⟨b,0,none⟩),t] w PK K:=by
  intro n PK K a1 a2;refine V5 _ ho fun b8 w2 ho=>?_;exact NV (l:=[UInt8.ofNat n]) ho (fun W h=>lX h dc rfl) hm hol sm (fun g ov' W ho=>a1 (by simp at g;omega) ov' W ho) (fun g W ho=>a2 (by simp at g;omega) W ho)
 by_cases h62:c=62
 ·rw[agW h62] at hX;simp only[show decide ((c.toNat:Int)=62)=true by rw[h62];rfl,i_t];refine join fun J3 hJ3=>?_;by_cases hh:half < 0
  ·rw[agW hh] at hX;simp only[show decide ((0:Int)<=half)=false from ahA om,i_f];refine hJ3 _ _ fun _=>?_;unfold kQ;exact kt ov out w1 hX.symm hol ho
  rw[agV hh] at hX;simp only[show decide ((0:Int)<=half)=true from ahB om,i_t];rw[aA om om,show 16*half=((16*half.toNat:Nat):Int) by omega];refine aE (bO krx aiL) |>.mpr ?_;rw[DQ];refine key (fun g ov' W ho=>?_) (fun g W ho=>?_)
  ·rw[agV om] at hX;refine hJ3 _ _ fun _=>?_;unfold kQ;exact kt ov' _ W hX.symm (by simp;omega) ho
  ·rw[agW g] at hX;exact kf 5 ov out W hX.symm ho
 rw[agV h62] at hX;simp only[show decide ((c.toNat:Int)=62)=false from ahA (fun h=>h62 (amZ.1 (by rw[show (62:UInt8).toNat=62 from rfl];omega))),i_f];by_cases hd:Lx.digit c < 0
 ·rw[agW hd] at hX;simp only[hd,agY,i_t];exact kM (fun h=>by cases h) (fun _=>kf 3 ov out w1 hX.symm ho)
 rw[agV hd] at hX;simp only[hd,agX,i_f];by_cases hh:half < 0
 ·rw[agW hh] at hX;simp only[hh,agY,i_t];exact next _ ov out w1 om om hol hX ho
 rw[agV hh] at hX;simp only[hh,agX,i_f];rw[aA (n:=16*half) om om,aA om om,show 16*half+Lx.digit c=((16*half+Lx.digit c).toNat:Int) by omega];refine aE (bO krx aiL) |>.mpr ?_;rw[DQ];refine key (fun g ov' W ho=>?_) (fun g W ho=>?_)
 ·rw[agV om] at hX;exact next _ ov' _ W om om (by simp;omega) hX ho
 ·rw[agW g] at hX;exact kf 5 ov out W hX.symm ho
theorem Qf (s:List UInt8)(most:Int)(M:Mem)(w:World)(hs:s.length<=1000000000)(hM:M.has w):RetM prog 116 #[.string ⟨s.toArray⟩,.int .i64 most] M w (fun v _=>v=zlT (Ax.unhex s most)∧(Ax.unhex s most).1.length<=1048576):=by
 refine aT hM fun K hK=>EP ?_;unfold Bs nz;refine bF (OwnS.memS hM) 0 rfl (xW _ KO s most _ M w hM fun b mo hm ho kt kf=>T4 s b mo hs hm ho kt kf) ?_;rintro _ N w1 g1 ⟨rfl,hl⟩ ho;simp only[zlT,ex];exact hK _ _ N _ 0 ho rfl g1 ⟨rfl,hl⟩
end
end Go.Proofs.YtlipjfcbjemicaaGreatDoor

namespace Go.Proofs.YtlipjfcbjemicaaGreatDoor
variable{A S:Nat->Prop}{D:TypeId}{K:VWP}{M:Eng.Mem}{PK:PKT}{R:Ending->FrameMode->World->Prop}{W w w0:World}{above:List UInt8}{b cap fb h i m mo most p rb sz:Nat}{colors way:Int}{cs:List Value}{e:Eng.Ent}{q:Bool}{t0 v v2:Value}{u:FrameMode}
section
open Eng Go.RowKit
def Ax.runG (most:Nat):Nat->List UInt8->List UInt8->List UInt8×Int
|0,_,_=>([],13)
|f+1,s,out=>
  match s with
 |[]=>([],4)
 |c::r=>
   if c.toNat=128 then (out,0)
   else if c.toNat < 128 then
    if r.length < c.toNat+1 then ([],4)
    else if most < out.length+(c.toNat+1) then ([],5)
    else Ax.runG most f (r.drop (c.toNat+1)) (out++r.take (c.toNat+1))
   else if r.length < 1 then ([],4)
   else if most < out.length+(257 - c.toNat) then ([],5)
   else Ax.runG most f (r.drop 1) (out++Lib.repeatL (r.take 1) (257 - c.toNat))
def Ax.U1 (s:List UInt8)(most:Int):List UInt8×Int:=Ax.within (fun m=>Ax.runG m (s.length+1) s []) most
theorem Kd:bZ prog 188=true:=krx
theorem EC {s:List UInt8}(h:s.length=1):∀n,(Lib.repeatL s n).length=n
|0=>rfl
|n+1=>by rw[xX,agZ,EC h n,h]
theorem VY {T:List Ent}(s:List UInt8)(b mo:Nat)(hs:s.length<=1000000000)(hm:mo<=1048576)(ho:OwnS S w0 w (Sk b mo nilS [] T))
  (kt:∀ov' out W,Ax.runG mo (s.length+1) s []=(out,0)->out.length<=mo->OwnS S w0 W (Sk b mo ov' out T)->K (.tuple #[]) W) (kf:∀e ov' out W,Ax.runG mo (s.length+1) s []=([],e)->OwnS S w0 W (Sk b mo ov' out T)->PK [upA e] W) :
  CallX prog 188 #[.string ⟨s.toArray⟩,.pointer (some ⟨b,0,none⟩)] w PK K:=by
 generalize hX:Ax.runG mo (s.length+1) s []=X at kt kf;refine⟨CE ?_⟩;unfold xM nz;refine loop (fun vs W=>∃(t:List UInt8) (ov:Value) (out:List UInt8),vs=[.string ⟨t.toArray⟩]∧t.length<=s.length∧out.length<=mo∧(∃f,t.length < f∧Ax.runG mo f t out=X)∧OwnS S w0 W (Sk b mo ov out T)) (fun vs _=>nS (vs.getD 0 undef)) ⟨s,nilS,[],rfl,ahD _,sm,⟨_,om,hX⟩,ho⟩ ?_;clear ho hX;rintro vs w1 ⟨t,ov,out,rfl,hi,hol,⟨f,hf,hX⟩,ho⟩ _;simp only[rH,gd,nz];obtain⟨f,rfl⟩:∃f',f=f'+1:=⟨f - 1,om⟩;unfold Ax.runG at hX;have he:∀{u:List UInt8} {W:World} {xo yo:Operand} {PK:PKT} {K:VWP},DoX prog (mEq .neq 9 xo yo (.string ⟨u.toArray⟩) (.string ⟨#[]⟩)) W PK K=K (.bool (decide (u≠[]))) W:=fun {u _ _ _ _ _}=>Qu (b:=[]);rw[he];cases t with
|nil=>exact kM (fun h=>by simp at h) (fun _=>kf 4 ov out w1 hX.symm ho)
|cons c r=>
 rw[show decide ((c::r:List UInt8)≠[])=true from rfl];refine kM (fun _=>?_) (fun h=>by cases h);dsimp only at hX;rw[s_ix (c:=c) ahF dc rfl,u8ix,Di ahF dc (by simp;omega)];rw[show (1:Int).toNat=1 from rfl,List.drop_one,List.tail_cons];have hc:=amB c;generalize c.toNat=n at hX hc;rw[ahU] at hi hf
 try simp only[rs]
 by_cases h1:n=128
 ·rw[agW h1] at hX;simp only[show decide ((n:Int)=128)=true from ahB om,i_t];exact kt ov out w1 hX.symm hol ho
 rw[agV h1] at hX;simp only[show decide ((n:Int)=128)=false from ahA om,i_f];have put:∀{l:List UInt8} {W:World} {PK:PKT} {K:VWP},l.length<=1000->OwnS S w0 W (Sk b mo ov out T)->(out.length+l.length<=mo->∀ov' W,OwnS S w0 W (Sk b mo ov' (out++l) T)->K (.tuple #[]) W)->(mo < out.length+l.length->∀W,OwnS S w0 W (Sk b mo ov out T)->PK [upA 5] W) ->
   DoX prog (gL 9 53 (.string ⟨l.toArray⟩)) W PK fun t w=>CallX prog 178 #[.pointer (some ⟨b,0,none⟩),t] w PK K:=by
  intro l W PK K hl ho a1 a2;refine Yl ahF ahX aiL ho fun b2 cap w2 ho=>?_;exact NV ho XG hm hol om a1 a2
 by_cases h2:n < 128
 ·rw[agW h2] at hX;simp only[show decide ((n:Int) < 128)=true from ahB om,i_t];rw[fP ahF]
  try simp only[rs]
  refine kM (fun g=>?_) (fun g=>?_)
  rotate_left
  ·have:=aiK g;rw[agW om] at hX;exact kf 4 ov out w1 hX.symm ho
  have g:=ahO g;rw[agV om] at hX;rw[aA om om,OQ ahF om om,show ((n:Int)+1).toNat=n+1 by omega];have htl:(r.take (n+1)).length=n+1:=by rw[ahE];omega
  refine put om ho (fun g2 ov' W ho=>?_) (fun g2 W ho=>?_)
  ·rw[agV om] at hX;rw[Di ahF om om,show ((n:Int)+1).toNat=n+1 by omega];refine aY ⟨r.drop (n+1),ov',_,rfl,by rw[ahL];omega,by rw[agZ];omega,⟨f,by rw[ahL];omega,hX⟩,ho⟩ (by show nS (.string ⟨(r.drop (n+1)).toArray⟩) < nS (.string ⟨(c::r).toArray⟩);rw[gY,gY,ahL,ahU];omega)
  ·rw[agW om] at hX;exact kf 5 ov out W hX.symm ho
 rw[agV h2] at hX;simp only[show decide ((n:Int) < 128)=false from ahA om,i_f]
 try rw[he]
 refine kM (fun g=>?_) (fun g=>?_)
 rotate_left
 ·have g:=aiK g;rw[agW (by rw[Decidable.not_not.1 g];decide)] at hX;exact kf 4 ov out w1 hX.symm ho
 have g:r≠[]:=ahO g;have g:0 < r.length:=akN.2 g;rw[agV om] at hX;rw[OQ ahF dc om,show (1:Int).toNat=1 from rfl]
 try simp only[rs]
 rw[aA om om,show (257:Int) - (n:Int)=((257 - n:Nat):Int) by omega];have htl:(r.take 1).length=1:=by rw[ahE];omega
 refine aL ho (PO (r.take 1) (257 - n) w1 (by rw[htl];omega) om) ?_;rintro _ w2 rfl ho;have hrl:=EC htl (257 - n);refine put om ho (fun g2 ov' W ho=>?_) (fun g2 W ho=>?_)
 ·rw[agV om] at hX;rw[Di ahF om om,show (1:Int).toNat=1 from rfl];refine aY ⟨r.drop 1,ov',_,rfl,by rw[ahL];omega,by rw[agZ];omega,⟨f,by rw[ahL];omega,hX⟩,ho⟩ (by show nS (.string ⟨(r.drop 1).toArray⟩) < nS (.string ⟨(c::r).toArray⟩);rw[gY,gY,ahL,ahU];omega)
 ·rw[agW om] at hX;exact kf 5 ov out W hX.symm ho
theorem P7 (s:List UInt8)(most:Int)(M:Mem)(w:World)(hs:s.length<=1000000000)(hM:M.has w):RetM prog 120 #[.string ⟨s.toArray⟩,.int .i64 most] M w (fun v _=>v=zlT (Ax.U1 s most)∧(Ax.U1 s most).1.length<=1048576):=by
 refine aT hM fun K hK=>EJ ?_;unfold Bt nz;refine bF (OwnS.memS hM) 0 rfl (xW _ Kd s most _ M w hM fun b mo hm ho kt kf=>VY s b mo hs hm ho kt kf) ?_;rintro _ N w1 g1 ⟨rfl,hl⟩ ho;simp only[zlT,ex];exact hK _ _ N _ 0 ho rfl g1 ⟨rfl,hl⟩
end
end Go.Proofs.YtlipjfcbjemicaaGreatDoor

namespace Go.Proofs.YtlipjfcbjemicaaGreatDoor
variable{A S:Nat->Prop}{D:TypeId}{K:VWP}{M:Eng.Mem}{PK:PKT}{R:Ending->FrameMode->World->Prop}{W w w0:World}{above:List UInt8}{b cap fb h i m mo most p rb sz:Nat}{colors way:Int}{cs:List Value}{e:Eng.Ent}{q:Bool}{t0 v v2:Value}{u:FrameMode}
section
open Eng Go.RowKit
def Ax.pw:List Nat:=[52200625,614125,7225,85,1]
def Ax.dg (g:List UInt8)(i:Nat):Nat:=(g.getD i 84).toNat
def Ax.val (g:List UInt8):Nat:=(((Ax.dg g 0*85+Ax.dg g 1)*85+Ax.dg g 2)*85+Ax.dg g 3)*85+Ax.dg g 4
def Ax.vs (g:List UInt8):Nat->Nat
|0=>0
|i+1=>Ax.vs g i+Ax.dg g i*Ax.pw.getD i 0
theorem Ax.ZW (g:List UInt8)(i:Nat):Ax.dg g i < 256:=amB _
theorem Ax.vs_5 (g:List UInt8):Ax.vs g 5=Ax.val g:=by
 simp only[Ax.vs,Ax.val,Ax.pw];show 0+Ax.dg g 0*52200625+Ax.dg g 1*614125+Ax.dg g 2*7225+Ax.dg g 3*85+Ax.dg g 4*1=_;omega
theorem lt5 (h:i < 5):i=0∨i=1∨i=2∨i=3∨i=4:=om
theorem Ax.abJ (h:i < 5):Ax.pw.getD i 0<=52200625:=by
 rcases lt5 h with rfl|rfl|rfl|rfl|rfl<;>decide
theorem Ax.Xa (g:List UInt8):∀i,i<=5->Ax.vs g i<=i*13311159375
|0,_=>ahD _
|i+1,h=>by
  have h1:=Ax.Xa g i om;have h2:Ax.dg g i*Ax.pw.getD i 0<=255*52200625:=akO (by have:=Ax.ZW g i;omega) (Ax.abJ om);simp only[Ax.vs];omega
def Ax.endG (mo:Nat)(r g out:List UInt8):List UInt8×Int:=
 if r=[] then ([],4)
 else if r.getD 0 0≠62∨g.length=1 then ([],3)
 else if g.length=0 then (out,0)
 else if 4294967296<=Ax.val g then ([],3)
 else if mo < out.length+(g.length - 1) then ([],5)
 else (out++(Zl.four (Ax.val g)).take (g.length - 1),0)
def Ax.iY (mo:Nat):List UInt8->List UInt8->List UInt8->List UInt8×Int
|[],_,_=>([],4)
|c::r,g,out=>
  if Oc.Bk c=true then Ax.iY mo r g out
  else if c.toNat=122∧g.length=0 then (if mo < out.length+4 then ([],5) else Ax.iY mo r [] (out++[0,0,0,0]))
  else if 33<=c.toNat∧c.toNat<=117 then
   if g.length+1 < 5 then Ax.iY mo r (g++[c - 33]) out
   else if 4294967296<=Ax.val (g++[c - 33]) then ([],3)
   else if mo < out.length+4 then ([],5)
   else Ax.iY mo r [] (out++Zl.four (Ax.val (g++[c - 33])))
  else if c.toNat=126 then Ax.endG mo r g out
  else ([],3)
def Ax.Oy (s:List UInt8)(most:Int):List UInt8×Int:=Ax.within (fun m=>Ax.iY m s [] []) most
def Pws (M:Mem):Prop:=M.A 0∧∀i,i < 5->M.w.cell? ⟨0,i,none⟩=some (.int .u64 ((Ax.pw.getD i 0:Nat):Int))
theorem Pws.le {M N:Mem}(h:M.le N)(k:Pws M):Pws N:=⟨h.A _ k.1,fun i hi=>Mem.cell h.has k.1 (k.2 i hi)⟩
def pwV:Value:=.agg #[.int .u64 52200625,.int .u64 614125,.int .u64 7225,.int .u64 85,.int .u64 1]
def gpC (d:List UInt8)(n:Nat):List Value:=aH d++[.int .i64 (n:Int)]
abbrev gpE (b:Nat)(d:List UInt8)(n:Nat):Ent:=.cells b (gpC d n) 201
def gp0 (g:List UInt8):List UInt8:=g++List.replicate (5 - g.length) 0
theorem mF {g:List UInt8}(h:g.length<=5):(gp0 g).length=5:=by unfold gp0;rw[agZ,aiE];omega
theorem TT:fOff prog 201 0=some 0:=krx
theorem BF:fOff prog 201 1=some 5:=krx
theorem szGp:(Tryz.prog.info? 201).map (·.size)=some 6:=krx
theorem sz4b:(Tryz.prog.info? 192).map (·.size)=some 4:=krx
theorem afS:aggN prog 197=some 5:=krx
theorem Uf {d:List UInt8}{n:Nat}(h:d.length=5):(gpC d n)[5]?=some (.int .i64 (n:Int)):=by
 unfold gpC;rw[ajO (by rw[gM];omega),gM,h];rfl
theorem Xw {d:List UInt8}{n:Nat}(h:i < d.length):(gpC d n)[i]?=some (.int .u8 (d[i].toNat:Int)):=by
 unfold gpC;rw[ajA (by rw[gM];exact h),gQ h]
theorem SH {d:List UInt8}{n:Nat}{c:UInt8}(h:i < d.length):(gpC d n).set i (.int .u8 (c.toNat:Int))=gpC (d.set i c) n:=by
 unfold gpC;rw[List.set_append_left _ _ (by rw[gM];exact h)];simp[aH,anJ]
theorem Un {d:List UInt8}{n:Nat}(h:d.length=5):(gpC d n).set 5 (.int .i64 (m:Int))=gpC d m:=by
 unfold gpC;rw[alF _ _ (by rw[gM];omega),gM,h];rfl
theorem Jh {d:List UInt8}{n:Nat}:(gpC d n).length=d.length+1:=by simp[gpC,gM]
theorem agL {n k:Nat}(hk:k<=64):((n:Nat):Int).fdiv (2 ^ (min ((k:Nat):Int).toNat IntKind.u64.bits))=((n / 2 ^ k:Nat):Int):=by
 rw[show min ((k:Nat):Int).toNat IntKind.u64.bits=k by show min ((k:Nat):Int).toNat 64=k;omega,Md]
theorem Eb {n:Nat}(h:n < 18446744073709551616):IntKind.u64.wrap (n:Int)=(n:Int):=by unfold IntKind.wrap;simp[IntKind.bits,IntKind.signed];omega
theorem Sl.pre {l:List UInt8}{T:TypeId}(hw:W.heap[b]?=some (.cells (aH l).toArray T (0,0)))(hh:h<=l.length):Sl W (.slice (some ⟨b,0,none⟩) h cap) 1 (l.take h).length (aH (l.take h)):=by
 have hl:(l.take h).length=h:=by rw[ahE];omega
 refine⟨by rw[gM,ahZ],some ⟨b,0,none⟩,cap,by rw[hl],(fun h=>by cases h),fun p hp=>by
  cases hp;refine⟨fun _=>rfl,fun j u hj=>?_⟩;rw[ahJ];refine aG (T:=T) (cs:=aH l) hw ?_;have:aH (l.take h)=(aH l).take h:=by simp[aH,amL]
  rw[this] at hj;have hj2:=(ahQ.1 hj).1;rw[ahE] at hj2
  rwa [List.getElem?_take_of_lt om] at hj⟩
section
variable {w:World}{PK:PKT}{K:VWP}{S:Nat->Prop}{w0:World}{L T:List Ent}
theorem YY (h:Pws M)(hm:M.has W):DoX prog (aI 197 (.pointer (some ⟨0,0,none⟩))) W PK K=K pwV W:=by
 refine l_at (AtV.agg (cs:=[.int .u64 52200625,.int .u64 614125,.int .u64 7225,.int .u64 85,.int .u64 1]) afS rfl fun j v hj=>?_);have hj5:j < 5:=(ahQ.1 hj).1;rw[ahJ,Mem.cell hm h.1 (h.2 j hj5)];rcases lt5 hj5 with rfl|rfl|rfl|rfl|rfl<;>exact hj
theorem acP (hi:i < 5):(mIx 197 pwV (.int .i64 (i:Int))).run prog w=.ok (.value (.int .u64 ((Ax.pw.getD i 0:Nat):Int))) w:=by
 rcases lt5 hi with rfl|rfl|rfl|rfl|rfl<;>kernel_rfl
theorem TB (hi:i < 5):(mIA 199 (.pointer (some ⟨b,0,none⟩)) (.int .i64 (i:Int))).run prog w=.ok (.value (.pointer (some ⟨b,i,none⟩))) w:=by
 rcases lt5 hi with rfl|rfl|rfl|rfl|rfl<;>kernel_rfl
theorem aeZ (hh:h<=4):(dB 192 (.pointer (some ⟨b,0,none⟩)) none (some (.int .i64 (h:Int))) none).run prog w=.ok (.value (.slice (some ⟨b,0,none⟩) h 4)) w:=by
 rcases (by omega:h=0∨h=1∨h=2∨h=3∨h=4) with rfl|rfl|rfl|rfl|rfl<;>kernel_rfl
theorem wI (ho:OwnS S w0 w L)(j:Nat){n:Nat}{d:List UInt8}(hi:L[j]?=some (gpE b d n))(hd:d.length=5):DoX prog (aI 3 (.pointer (some ⟨b,0+5,none⟩))) w PK K=K (.int .i64 (n:Int)) w:=aO cI (ho.cell j hi 5 (Uf hd))
theorem V7 {gb:Nat}{ov:Value}{out g:List UInt8}(ho:OwnS S w0 w (Sk b mo ov out (gpE gb (gp0 g) g.length::.mem M::T)))(hpw:Pws M)(hm:mo<=1048576)(hol:out.length<=mo)(hg1:1<=g.length)(hg5:g.length<=5)
  (kt:Ax.val g < 4294967296->out.length+(g.length - 1)<=mo->∀ov' W,OwnS S w0 W (Sk b mo ov' (out++(Zl.four (Ax.val g)).take (g.length - 1)) (gpE gb (gp0 []) 0::.mem M::T))->K (.tuple #[]) W)
  (k3:4294967296<=Ax.val g->∀W,OwnS S w0 W (Sk b mo ov out (.mem M::T))->PK [upA 3] W)
  (k5:Ax.val g < 4294967296->mo < out.length+(g.length - 1)->∀W,OwnS S w0 W (Sk b mo ov out (.mem M::T))->PK [upA 5] W) :
  CallX prog 184 #[.pointer (some ⟨gb,0,none⟩),.pointer (some ⟨b,0,none⟩)] w PK K:=by
 refine⟨zO ?_⟩;unfold sO nz
 try rw[aV]
 rw[aK BF,wI ho 2 rfl (mF hg5)];refine loop (fun vs W=>∃(i:Nat) (d:List UInt8),vs=[.int .i64 (i:Int)]∧g.length<=i∧i<=5∧d.length=5∧(∀j,j < i->(d.getD j 0).toNat=Ax.dg g j)∧OwnS S w0 W (Sk b mo ov out (gpE gb d g.length::.mem M::T))) (fun vs _=>5 - n0 vs) ⟨g.length,gp0 g,rfl,ahD _,hg5,mF hg5,fun j hj=>by
  unfold gp0 Ax.dg;rw[ahC,ajA hj,ahC,ahH hj];rfl,ho⟩ ?_
 clear ho;rintro vs w1 ⟨i,d,rfl,hi1,hi5,hd,hdj,ho⟩ _;simp only[nW,gd,rs,nz];by_cases hlt:(i:Int) < 5
 ·simp only[hlt,agY,i_t]
  try rw[aV]
  rw[aK TT];refine aE (TB om) |>.mpr ?_;refine aN 2 ho rfl krx rfl (by rw[Jh];omega) fun w2 ho=>?_;rw[aA om om];refine aY ⟨i+1,d.set i 84,rfl,om,om,by rw[ajM];exact hd,fun j hj=>?_,?_⟩ (by simp[n0,RowKit.intOf];omega)
  ·rw[ahC,List.getElem?_set];split
   ·rename_i h;subst h
    rw[agW om];unfold Ax.dg;rw[ahC,ajD om];rfl
   ·rw[<-ahC];exact hdj j om
  ·have e:(gpC d g.length).set i (.int .u8 84)=gpC (d.set i 84) g.length:=SH (c:=84) om;show OwnS S w0 w2 (Sk b mo ov out (.cells gb (gpC (d.set i 84) g.length) 201::.mem M::T));rw[<-e];exact ho
 simp only[hlt,agX,i_f];have:i=5:=om
 subst this;rw[YY hpw (ho.hasM 3 rfl)];refine loop (fun vs W=>∃i:Nat,vs=[.int .u64 ((Ax.vs g i:Nat):Int),.int .i64 (i:Int)]∧i<=5∧OwnS S w0 W (Sk b mo ov out (gpE gb d g.length::.mem M::T))) (fun vs _=>5 - n1 vs) ⟨0,rfl,om,ho⟩ ?_;clear ho;rintro vs w2 ⟨i,rfl,hi5,ho⟩ _;simp only[oS,gd,rs,nz];by_cases hlt:(i:Int) < 5
 ·simp only[hlt,agY,i_t];refine aE (acP om) |>.mpr ?_
  try rw[aV]
  rw[aK TT];refine aE (TB om) |>.mpr ?_;rw[aO nU8l (ho.cell 2 rfl i (Xw om))];refine aE (bO krx anP) |>.mpr ?_;have e1:d[i].toNat=Ax.dg g i:=by
   have:=hdj i om
   rwa [ahC,ahH om,alD] at this
  have h1:=Ax.ZW g i;have h2:Ax.dg g i*Ax.pw.getD i 0<=255*52200625:=akO om (Ax.abJ om);have h3:=Ax.Xa g i om;rw[e1,Eb om]
  try simp only[rs]
  rw[show ((Ax.dg g i:Nat):Int)*((Ax.pw.getD i 0:Nat):Int)=((Ax.dg g i*Ax.pw.getD i 0:Nat):Int) by push_cast;rfl,Eb om,show ((Ax.vs g i:Nat):Int)+((Ax.dg g i*Ax.pw.getD i 0:Nat):Int)=((Ax.vs g (i+1):Nat):Int) by simp only[Ax.vs];push_cast;rfl,
   Eb (by simp only[Ax.vs];omega),aA om om]
  exact aY ⟨i+1,rfl,om,ho⟩ (by simp[n1,RowKit.intOf];omega)
 simp only[hlt,agX,i_f];have:i=5:=om
 subst this;have h3:=Ax.Xa g 5 om;rw[Ax.vs_5] at h3 ⊢;refine kM (fun h=>?_) (fun h=>?_)
 rotate_left
 ·have:=aiK h;exact k3 om w2 (ho.sub (.cons_cons _ (.cons_cons _ (.cons _ (alR _)))))
 have hv:=ahO h;have hv:Ax.val g < 4294967296:=om
 generalize Ax.val g=v at kt k5 hv;have hsh:∀k:Nat,k<=64->∀{W:World} {PK:PKT} {K:VWP},DoX prog (mBin .shr 147 (.int .u64 (v:Int)) (.int .u64 (k:Int))) W PK K=K (.int .u64 ((v / 2 ^ k:Nat):Int)) W:=by
  intro k hk W PK K;rw[HA om,agL hk]
 rw[show (24:Int)=((24:Nat):Int) from rfl,hsh 24 om];refine aE (bO krx aiL) |>.mpr ?_;rw[DQ,show (16:Int)=((16:Nat):Int) from rfl,hsh 16 om];refine aE (bO krx aiL) |>.mpr ?_;rw[DQ,show (8:Int)=((8:Nat):Int) from rfl,hsh 8 om];refine aE (bO krx aiL) |>.mpr ?_;rw[DQ];refine aE (bO krx aiL) |>.mpr ?_;rw[DQ];have hb4:∀{a b c d:Int} {W:World} {PK:PKT} {K:VWP},DoX prog (aZ 192 #[(0,.int .u8 a),(1,.int .u8 b),(2,.int .u8 c),(3,.int .u8 d)]) W PK K=K (.agg #[.int .u8 a,.int .u8 b,.int .u8 c,.int .u8 d]) W:=fun {_ _ _ _ _ _ _}=>aE krx;rw[hb4];refine bC (fun b=>.pointer (some ⟨b,0,none⟩)) (aH [0,0,0,0]) 192 (fun _=>by kernel_rfl) ho fun b8 w3 ho=>?_;refine iE 0 ho rfl (new:=aH (Zl.four v)) sz4b eY rfl fun w4 ho=>?_
 try rw[aV]
 rw[aK BF,wI ho 3 rfl hd]
 try simp only[rs]
 rw[aA om om,show ((g.length:Int) - 1)=((g.length - 1:Nat):Int) by omega];refine aE (aeZ om) |>.mpr ?_;have htl:((Zl.four v).take (g.length - 1)).length=g.length - 1:=by rw[ahE,show (Zl.four v).length=4 from rfl];omega
 refine NV (l:=(Zl.four v).take (g.length - 1)) ho (fun W h=>?_) hm hol om (fun h5 ov' w5 ho=>?_) (fun h5 w5 ho=>?_)
 ·have:=Sl.pre (cap:=4) (h:=g.length - 1) h (by show _<=4;omega);rw[htl] at this ⊢;exact this
 rotate_left
 ·exact k5 hv om w5 (ho.sub (.cons_cons _ (.cons_cons _ (.cons _ (alR _)))))
 refine aE (show (aZ 201 #[]).run prog w5=.ok (.value (.agg (gpC (gp0 []) 0).toArray)) w5 by kernel_rfl) |>.mpr ?_
 try rw[aV]
 refine iE 2 ho rfl (new:=gpC (gp0 []) 0) szGp (fun u hu=>?_) (by rw[Jh,hd];rfl) fun w6 ho=>?_
 ·rcases aiC.1 hu with h|h
  ·exact eY u h
  ·rw[aiA.1 h];rfl
 exact kt hv om ov' w6 ho
end
theorem J7:bZ prog 183=true:=krx
section
variable {w:World}{PK:PKT}{K:VWP}{S:Nat->Prop}{w0:World}{T:List Ent}
theorem ZQ {gb:Nat}{ov:Value}{r out g:List UInt8}(ho:OwnS S w0 w (Sk b mo ov out (gpE gb (gp0 g) g.length::.mem M::T)))(hpw:Pws M)(hm:mo<=1048576)(hol:out.length<=mo)(hg5:g.length<=5)(hr:r.length<=1000000000)
  (kt:∀ov' out' W,Ax.endG mo r g out=(out',0)->out'.length<=mo->OwnS S w0 W (Sk b mo ov' out' (.mem M::T))->K (.tuple #[]) W)
  (kf:∀e ov' out' W,Ax.endG mo r g out=([],e)->OwnS S w0 W (Sk b mo ov' out' (.mem M::T))->PK [upA e] W) :
  CallX prog 185 #[.string ⟨r.toArray⟩,.pointer (some ⟨gb,0,none⟩),.pointer (some ⟨b,0,none⟩)] w PK K:=by
 generalize hX:Ax.endG mo r g out=X at kt kf;unfold Ax.endG at hX;have drop:∀{ov out d n W},OwnS S w0 W (Sk b mo ov out (gpE gb d n::.mem M::T))->OwnS S w0 W (Sk b mo ov out (.mem M::T)):=fun {_ _ _ _ _} ho=>ho.sub (.cons_cons _ (.cons_cons _ (.cons _ (alR _))));refine⟨Hs ?_⟩;unfold F3 nz;rw[show (Value.string ⟨#[]⟩)=.string ⟨([]:List UInt8).toArray⟩ from rfl,Qu];refine kM (fun h=>?_) (fun h=>?_)
 rotate_left
 ·rw[agW (Decidable.not_not.1 (aiK h))] at hX;exact kf 4 ov out w hX.symm (drop ho)
 have h1:r≠[]:=ahO h;rw[agV h1] at hX;have hl:=akN.2 h1;rw[s_ix ahF dc (get0 (i:=0) hl)];have hc:(((r.getD 0 0).toNat:Int)=62)↔r.getD 0 0=62:=⟨fun h=>amZ.1 (by rw[show (62:UInt8).toNat=62 from rfl];omega),fun h=>by rw[h];rfl⟩;have key:∀q:Bool,(q=true↔¬(r.getD 0 0≠62∨g.length=1))->CallX prog 179 #[.bool q,.int .i64 3] w (pk (Cont K PK)) fun t19 w=>
   DoX prog (mFA 201 (.pointer (some ⟨gb,0,none⟩)) 1) w (pk (Cont K PK)) fun t22 w=>
   DoX prog (aI 3 t22) w (pk (Cont K PK)) fun t23 w=>
   DoX prog (mBin .gtr 3 t23 (.int .i64 0)) w (pk (Cont K PK)) fun t24 w=>
   IfX t24 (CallX prog 184 #[.pointer (some ⟨gb,0,none⟩),.pointer (some ⟨b,0,none⟩)] w (pk (Cont K PK)) fun t27 w=>Cont K PK (.returned (.tuple #[])) w) (Cont K PK (.returned (.tuple #[])) w):=by
  intro q hq;refine kM (fun h=>?_) (fun h=>?_)
  rotate_left
  ·rw[agW (Decidable.not_not.1 (fun k=>by rw[h] at hq;exact absurd (hq.2 k) dc))] at hX;exact kf 3 ov out w hX.symm (drop ho)
  rw[agV (hq.1 h)] at hX;have hne:g.length≠1:=fun k=>(hq.1 h) (.inr k)
  try rw[aV]
  rw[aK BF,wI ho 2 rfl (mF hg5)];simp only[rs];by_cases h0:g.length=0
  ·rw[agW h0] at hX;simp only[show decide ((0:Int) < (g.length:Int))=false from ahA om,i_f];exact kt ov out w hX.symm hol (drop ho)
  rw[agV h0] at hX;simp only[show decide ((0:Int) < (g.length:Int))=true from ahB om,i_t];refine V7 ho hpw hm hol om hg5 (fun h5 h6 ov' W ho=>?_) (fun h5 W ho=>?_) (fun h5 h6 W ho=>?_)
  ·rw[agV om,agV om] at hX;exact kt ov' _ W hX.symm (by rw[agZ,ahE];omega) (drop ho)
  ·rw[agW h5] at hX;exact kf 3 ov out W hX.symm ho
  ·rw[agV om,agW h6] at hX;exact kf 5 ov out W hX.symm ho
 simp only[rs];by_cases h62:r.getD 0 0=62
 ·simp only[ahB (hc.2 h62),rs]
  try rw[aV]
  rw[aK BF,wI ho 2 rfl (mF hg5)];simp only[rs];refine key _ ?_;rw[decide_eq_true_iff];constructor
  ·intro h k;rcases k with k|k
   ·exact k h62
   ·omega
  ·intro h;have:g.length≠1:=fun k=>h (.inr k);omega
 ·simp only[ahA (fun h=>h62 (hc.1 h)),rs];refine key false ?_;constructor
  ·intro h;cases h
  ·intro h;exact absurd (.inl h62) h
theorem Ss (s:List UInt8)(b mo:Nat)(hpw:Pws M)(hs:s.length<=1000000000)(hm:mo<=1048576)(ho:OwnS S w0 w (Sk b mo nilS [] (.mem M::T)))
  (kt:∀ov' out W,Ax.iY mo s [] []=(out,0)->out.length<=mo->OwnS S w0 W (Sk b mo ov' out (.mem M::T))->K (.tuple #[]) W) (kf:∀e ov' out W,Ax.iY mo s [] []=([],e)->OwnS S w0 W (Sk b mo ov' out (.mem M::T))->PK [upA e] W) :
  CallX prog 183 #[.string ⟨s.toArray⟩,.pointer (some ⟨b,0,none⟩)] w PK K:=by
 generalize hX:Ax.iY mo s [] []=X at kt kf;refine⟨Bg ?_⟩;unfold uW nz;refine bC (fun b=>.pointer (some ⟨b,0,none⟩)) (gpC (gp0 []) 0) 201 (fun _=>by kernel_rfl) ho fun gb w1 ho=>?_;have ho:OwnS S w0 w1 ([gpE gb (gp0 []) 0]++([skE b nilS mo,outR nilS []]++(.mem M::T))):=ho;have ho:=ho.front;rw[fP ahF];refine loop (fun vs W=>∃(i:Nat) (g:List UInt8) (ov:Value) (out:List UInt8),vs=[.int .i64 (i:Int)]∧i<=s.length∧g.length < 5∧out.length<=mo∧Ax.iY mo (s.drop i) g out=X∧OwnS S w0 W (Sk b mo ov out (gpE gb (gp0 g) g.length::.mem M::T))) (fun vs _=>s.length - n0 vs) ⟨0,[],nilS,[],rfl,om,sm,sm,hX,ho⟩ ?_;clear ho hX;have drop:∀{ov out d n W},OwnS S w0 W (Sk b mo ov out (gpE gb d n::.mem M::T))->OwnS S w0 W (Sk b mo ov out (.mem M::T)):=fun {_ _ _ _ _} ho=>ho.sub (.cons_cons _ (.cons_cons _ (.cons _ (alR _))));rintro vs w2 ⟨i,g,ov,out,rfl,hi,hg,hol,hX,ho⟩ _;simp only[pZ,gd,rs,nz];by_cases hlt:(i:Int) < (s.length:Int)
 case neg=>
  simp only[hlt,agX,i_f];rw[ajC om] at hX;exact kM (fun h=>by cases h) (fun _=>kf 4 ov out w2 hX.symm (drop ho))
 simp only[hlt,agY,i_t];have hi':i < s.length:=om
 rw[ajB hi',Ax.iY] at hX;have hc:=ahH hi';generalize s[i]=c at hX hc;refine join fun J hJ=>?_;have next:∀(g':List UInt8) (ov':Value) (out':List UInt8) (W:World),g'.length < 5->out'.length<=mo->Ax.iY mo (s.drop (i+1)) g' out'=X->OwnS S w0 W (Sk b mo ov' out' (gpE gb (gp0 g') g'.length::.mem M::T))->J [] W:=by
  intro g' ov' out' W g1 g2 g3 ho;refine hJ _ _ fun _=>?_;simp only[pH,rs,nz];rw[aA om om];exact aY ⟨i+1,g',ov',out',rfl,om,g1,g2,g3,ho⟩ (by simp[n0,RowKit.intOf];omega)
 rw[s_ix ahF om (by rw[ahI];exact hc)];refine c_eq (KR c w2) ?_;by_cases hw:Oc.Bk c=true
 ·rw[agW hw] at hX;rw[hw,i_t];exact next g ov out w2 hg hol hX ho
 rw[agV hw] at hX;rw[Bool.eq_false_iff.2 hw,i_f];have hcl:=amB c;have hsub:IntKind.u8.wrap ((c.toNat:Int) - 33)=((c - 33).toNat:Int):=by
  have:(c - 33).toNat=(c.toNat+223) % 256:=by rw[UInt8.toNat_sub];show (256 - 33+c.toNat) % 256=_;rw[amQ]
  rw[this];unfold IntKind.wrap;simp[IntKind.bits,IntKind.signed];omega
 have rest:¬(c.toNat=122∧g.length=0)->IfX (.bool false) (DoX prog (bN 53 4 #[(0,(.int .u8 0)),(1,(.int .u8 0)),(2,(.int .u8 0)),(3,(.int .u8 0))]) w2 (pk (Cont K PK)) fun t28 w=>
   CallX prog 178 #[.pointer (some ⟨b,0,none⟩),t28] w (pk (Cont K PK)) fun t29 w=>J [] w) (DoX prog (mBin .geq 5 (.int .u8 (c.toNat:Int)) (.int .u8 33)) w2 (pk (Cont K PK)) fun t32 w=>
 GDo t32 true (fun E=>E (.int .u8 (c.toNat:Int)) w) w fun t34 w=>
 GDo t32 true (fun E=>DoX prog (mBin .leq 5 t34 (.int .u8 117)) w (pk (Cont K PK)) E) w fun t35 w=>
 DoX prog (eS t32 t35 (.bool false)) w (pk (Cont K PK)) fun t36 w=>
 IfX t36 (DoX prog (mFA 201 (.pointer (some ⟨gb,0,none⟩)) 1) w (pk (Cont K PK)) fun t37 w=>
 DoX prog (aI 3 t37) w (pk (Cont K PK)) fun t38 w=>
 DoX prog (mBin .sub 5 (.int .u8 (c.toNat:Int)) (.int .u8 33)) w (pk (Cont K PK)) fun t40 w=>
 DoX prog (mFA 201 (.pointer (some ⟨gb,0,none⟩)) 0) w (pk (Cont K PK)) fun t41 w=>
 DoX prog (mIA 199 t41 t38) w (pk (Cont K PK)) fun t42 w=>
 DoX prog (aS 5 t42 t40) w (pk (Cont K PK)) fun _ w=>
 DoX prog (mFA 201 (.pointer (some ⟨gb,0,none⟩)) 1) w (pk (Cont K PK)) fun t43 w=>
 DoX prog (aI 3 t43) w (pk (Cont K PK)) fun t44 w=>
 DoX prog (mBin .add 3 t44 (.int .i64 1)) w (pk (Cont K PK)) fun t45 w=>
 DoX prog (mFA 201 (.pointer (some ⟨gb,0,none⟩)) 1) w (pk (Cont K PK)) fun t46 w=>
 DoX prog (aS 3 t46 t45) w (pk (Cont K PK)) fun _ w=>
 DoX prog (mFA 201 (.pointer (some ⟨gb,0,none⟩)) 1) w (pk (Cont K PK)) fun t47 w=>
 DoX prog (aI 3 t47) w (pk (Cont K PK)) fun t48 w=>
 DoX prog (mEq .eql 3 (.tmp 48) (.const (.int .i64 5)) t48 (.int .i64 5)) w (pk (Cont K PK)) fun t49 w=>
 IfX t49 (CallX prog 184 #[.pointer (some ⟨gb,0,none⟩),.pointer (some ⟨b,0,none⟩)] w (pk (Cont K PK)) fun t51 w=>
 J [] w) (J [] w)) (DoX prog (mEq .eql 5 (.tmp 53) (.const (.int .u8 126)) (.int .u8 (c.toNat:Int)) (.int .u8 126)) w (pk (Cont K PK)) fun t54 w=>
 IfX t54 (DoX prog (mBin .add 3 (.int .i64 (i:Int)) (.int .i64 1)) w (pk (Cont K PK)) fun t57 w=>
 DoX prog (dB 9 (.string ⟨s.toArray⟩) (some t57) none none) w (pk (Cont K PK)) fun t58 w=>
 CallX prog 185 #[t58,.pointer (some ⟨gb,0,none⟩),.pointer (some ⟨b,0,none⟩)] w (pk (Cont K PK)) fun t60 w=>
 Cont K PK (.returned (.tuple #[])) w) (CallX prog 179 #[(.bool false),(.int .i64 3)] w (pk (Cont K PK)) fun t15 w=>
 J [] w))):=by
  intro hz;rw[agV hz] at hX;simp only[i_f,rs];have tail:¬(33<=c.toNat∧c.toNat<=117)->IfX (.bool (decide ((c.toNat:Int)=126))) (DoX prog (mBin .add 3 (.int .i64 (i:Int)) (.int .i64 1)) w2 (pk (Cont K PK)) fun t57 w=>
 DoX prog (dB 9 (.string ⟨s.toArray⟩) (some t57) none none) w (pk (Cont K PK)) fun t58 w=>
 CallX prog 185 #[t58,.pointer (some ⟨gb,0,none⟩),.pointer (some ⟨b,0,none⟩)] w (pk (Cont K PK)) fun t60 w=>
 Cont K PK (.returned (.tuple #[])) w) (CallX prog 179 #[(.bool false),(.int .i64 3)] w2 (pk (Cont K PK)) fun t15 w=>
 J [] w):=by
   intro hr;rw[agV hr] at hX;by_cases h126:c.toNat=126
   ·rw[agW h126] at hX;simp only[show decide ((c.toNat:Int)=126)=true from ahB om,i_t,rs];rw[aA om om,Di ahF om om,show ((i:Int)+1).toNat=i+1 by omega];exact ZQ ho hpw hm hol om (by rw[ahL];omega) (fun ov' out' W he hol' ho=>kt ov' out' W (hX.symm.trans he) hol' ho) (fun e ov' out' W he ho=>kf e ov' out' W (hX.symm.trans he) ho)
   ·rw[agV h126] at hX;simp only[show decide ((c.toNat:Int)=126)=false from ahA om,i_f];exact kM (fun h=>by cases h) (fun _=>kf 3 ov out w2 hX.symm (drop ho))
  by_cases h33:33<=c.toNat
  case neg=>
   simp only[show decide ((33:Int)<=(c.toNat:Int))=false from ahA om,rs,i_f];have:=tail (fun h=>h33 h.1);simp only[rs] at this;exact this
  simp only[show decide ((33:Int)<=(c.toNat:Int))=true from ahB om,rs];by_cases h117:c.toNat<=117
  case neg=>
   simp only[show decide ((c.toNat:Int)<=117)=false from ahA om,rs,i_f];have:=tail (fun h=>h117 h.2);simp only[rs] at this;exact this
  simp only[show decide ((c.toNat:Int)<=117)=true from ahB om,rs,i_t];rw[agW ⟨h33,h117⟩] at hX;rw[aK BF,wI ho 2 rfl (mF om)]
  try rw[Zp]
  rw[hsub,aK TT];refine aE (TB om) |>.mpr ?_;refine aN 2 ho rfl krx rfl (by rw[Jh,mF om];omega) fun w3 ho=>?_;rw[SH (by rw[mF om];omega)] at ho;have e1:(gp0 g).set g.length (c - 33)=gp0 (g++[c - 33]):=by
   unfold gp0;rw[alF _ _ (ahD _),akF,agZ,ajJ,show 5 - g.length=(5 - (g.length+1))+1 by omega,anG,ajX,ahK];rfl
  rw[e1] at ho;have hl1:(g++[c - 33]).length=g.length+1:=sm
  rw[<-hl1] at hX;have hX2:(if (g++[c - 33]).length < 5 then Ax.iY mo (s.drop (i+1)) (g++[c - 33]) out else if 4294967296<=Ax.val (g++[c - 33]) then ([],3) else if mo < out.length+4 then ([],5) else Ax.iY mo (s.drop (i+1)) [] (out++Zl.four (Ax.val (g++[c - 33]))))=X:=hX;clear hX;have ho:OwnS S w0 w3 (Sk b mo ov out (gpE gb (gp0 (g++[c - 33])) g.length::.mem M::T)):=ho;generalize hg':g++[c - 33]=g' at hX2 ho hl1;rw[aK BF,wI ho 2 rfl (mF om)]
  try simp only[rs]
  rw[aA om om,aK BF,show (g.length:Int)+1=(g'.length:Int) by omega];refine aN 2 ho rfl krx rfl (by rw[Jh,mF om];omega) fun w4 ho=>?_;rw[ahJ,Un (mF om)] at ho;have ho:OwnS S w0 w4 (Sk b mo ov out (gpE gb (gp0 g') g'.length::.mem M::T)):=ho;rw[aK BF,wI ho 2 rfl (mF om)]
  try simp only[rs]
  by_cases h5:g'.length < 5
  ·rw[agW h5] at hX2;simp only[show decide ((g'.length:Int)=5)=false from ahA om,i_f];exact next g' ov out w4 h5 hol hX2 ho
  rw[agV h5] at hX2;simp only[show decide ((g'.length:Int)=5)=true from ahB om,i_t];refine V7 ho hpw hm hol om om (fun k5 k6 ov' W ho=>?_) (fun k5 W ho=>?_) (fun k5 k6 W ho=>?_)
  ·rw[agV om,agV om] at hX2;rw[show g'.length - 1=4 by omega] at ho;exact next [] ov' _ W dc (by rw[agZ];show _+4<=_;omega) hX2 ho
  ·rw[agW k5] at hX2;exact kf 3 ov out W hX2.symm ho
  ·rw[agV om,agW om] at hX2;exact kf 5 ov out W hX2.symm ho
 try simp only[rs]
 by_cases hz:c.toNat=122
 case neg=>
  simp only[show decide ((c.toNat:Int)=122)=false from ahA om,rs];have:=rest (fun h=>hz h.1);simp only[rs] at this;exact this
 simp only[show decide ((c.toNat:Int)=122)=true from ahB om,rs];rw[aK BF,wI ho 2 rfl (mF om)];simp only[rs];by_cases hg0:g.length=0
 case neg=>
  simp only[show decide ((g.length:Int)=0)=false from ahA om,rs];have:=rest (fun h=>hg0 h.2);simp only[rs] at this;exact this
 rw[agW ⟨hz,hg0⟩] at hX;simp only[show decide ((g.length:Int)=0)=true from ahB om,i_t];have hgn:g=[]:=akY hg0;subst hgn;refine bC (fun b=>.slice (some ⟨b,0,none⟩) 4 4) (aH [0,0,0,0]) 5 (fun _=>by kernel_rfl) ho fun b8 w3 ho=>?_;refine NV (l:=[0,0,0,0]) ho (fun W h=>?_) hm hol dc (fun h5 ov' W ho=>?_) (fun h5 W ho=>?_)
 ·exact Sl.pre (l:=[0,0,0,0]) (h:=4) h dc
 ·rw[agV (by simp at h5;omega)] at hX;exact next [] ov' _ W dc (by simpa using h5) hX ho
 ·rw[agW (by simp at h5;omega)] at hX;exact kf 5 ov out W hX.symm (drop ho)
end
theorem Mq (s:List UInt8)(most:Int)(M:Mem)(w:World)(hpw:Pws M)(hs:s.length<=1000000000)(hM:M.has w):RetM prog 118 #[.string ⟨s.toArray⟩,.int .i64 most] M w (fun v _=>v=zlT (Ax.Oy s most)∧(Ax.Oy s most).1.length<=1048576):=by
 refine aT hM fun K hK=>DK ?_;unfold Am nz;refine bF (OwnS.memS hM) 0 rfl (xW _ J7 s most _ M w hM fun b mo hm ho kt kf=>Ss s b mo hpw hs hm ho kt kf) ?_;rintro _ N w1 g1 ⟨rfl,hl⟩ ho;simp only[zlT,ex];exact hK _ _ N _ 0 ho rfl g1 ⟨rfl,hl⟩
end
section
open Eng Go.RowKit
def Ax.hv (g:List UInt8):Nat->Nat
|0=>0
|i+1=>Ax.hv g i*85+Ax.dg g i
section
variable {w:World}{PK:PKT}{K:VWP}{S:Nat->Prop}{w0:World}{L T:List Ent}
end
end
section
open Eng
def tL(t0 t1 w)(K:KT):=nz Tryz.f78 1 [] [] [] (zg [0,1] [t0,t1]) w K
theorem uD{t0 t1 w K}(h:tL t0 t1 w K):Calls prog 78 #[t0,t1] w K:=cw Tryz.func78 h
def sP(t6 t25 t26 t27 w)(N2:JT)(K:KT):=nz Tryz.f79 351 [N2] [nh 19 [6,27]] [] (zg [6,25,26,27] [t6,t25,t26,t27]) w K
def rD(t5 w)(K:KT):=nz Tryz.f79 31 [] [(19,[6,27],fun s v j w f=>sP (vg v 0) (s 25) (s 26) (vg v 1) w (f 0) K)] [] (zg [5] [t5]) w K
def xP(t0 w)(K:KT):=nz Tryz.f79 1 [] [(14,[5],fun s v j w f=>rD (vg v 0) w K)] [] (zg [0] [t0]) w K
theorem Cw{t0 w K}(h:xP t0 w K):Calls prog 79 #[t0] w K:=cz [(7,[5])] [(9,[6,27])] Tryz.func79 h
def uR(t1 t8 w)(N4:JT)(K:KT):=nz Tryz.f81 639 [N4] [nh 41 [8]] [] (zg [1,8] [t1,t8]) w K
def uU(t1 t8 t47 t48 t49 w)(N3:JT)(K:KT):=nz Tryz.f81 703 [N3] [nh 33 [49],(41,[8],fun s v j w f=>uR (s 1) (vg v 0) w (f 0) K)] [] (zg [1,8,47,48,49] [t1,t8,t47,t48,t49]) w K
def vD(t1 t5 t8 t30 t31 t32 w)(N2:JT)(K:KT):=nz Tryz.f81 175 [N2] [nh 21 [8,32],(33,[49],fun s v j w f=>uU (s 1) (s 8) (s 47) (s 48) (vg v 0) w (f 0) K)] [] (zg [1,5,8,30,31,32] [t1,t5,t8,t30,t31,t32]) w K
def vF(t1 t5 w)(K:KT):=nz Tryz.f81 15 [] [(21,[8,32],fun s v j w f=>vD (s 1) (s 5) (vg v 0) (s 30) (s 31) (vg v 1) w (f 0) K)] [] (zg [1,5] [t1,t5]) w K
def AK(t0 t1 w)(K:KT):=nz Tryz.f81 1 [] [(16,[5],fun s v j w f=>vF (s 1) (vg v 0) w K)] [] (zg [0,1] [t0,t1]) w K
theorem Dw{t0 t1 w K}(h:AK t0 t1 w K):Calls prog 81 #[t0,t1] w K:=cz [(8,[5])] [(10,[8,32]),(16,[49]),(20,[8])] Tryz.func81 h
def aC (x0:Deferred)(x1:Value)(x2:Value)(x3:Value)(K:Ending->World->Prop):=pd prog [.cell x1 22,.cell x2 40,.cell x3 30] K [x0]
def jQ(a b c d1 w)(K:KT):=
 AR prog [.cell a 22,.cell b 40,.cell c 30] K [d1] .returning w
def B1(b a c h i d d1 w)(N3:JT)(K:KT):=
 DoX prog (mBin .lss 3 d i) w (aC d1 b a c K) fun j w=>IfX j (DoX prog (mIA 22 h d) w (aC d1 b a c K) fun k w=>DoX prog (aI 9 k) w (aC d1 b a c K) fun l w=>DoX prog (aI 40 a) w (aC d1 b a c K) fun m w=>DoX prog (mIA 40 m d) w (aC d1 b a c K) fun n w=>DoX prog (aI 27 n) w (aC d1 b a c K) fun o w=>CallX prog 82 #[o] w (aC d1 b a c K) fun f w=>DoX prog (mEq .neq 30 (.tmp 58) (.const (iN 0)) f (iN 0)) w (aC d1 b a c K) fun e w=>etx e l w fun p w=>GDo e true (fun E=>DoX prog (mEq .neq 9 (.tmp 61) (.const (.string ⟨#[]⟩)) p (.string ⟨#[]⟩)) w (aC d1 b a c K) E) w fun q w=>DoX prog (eS e q (.bool false)) w (aC d1 b a c K) fun r w=>IfX r (DoX prog (aS 22 b (.slice none 0 0)) w (aC d1 b a c K) fun _ w=>DoX prog (aS 40 a (.slice none 0 0)) w (aC d1 b a c K) fun _ w=>DoX prog (aS 30 c f) w (aC d1 b a c K) fun _ w=>AR prog [.cell b 22,.cell a 40,.cell c 30] K [d1] .returning w) (DoX prog (mBin .add 3 d (iN 1)) w (aC d1 b a c K) fun s w=>AtX [d1] [d1] (N3 [s] w))) (DrawX w (fun w=>(DoX prog (aI 22 b) w (aC d1 b a c K) fun g w=>(DoX prog (aI 40 a) w (aC d1 b a c K) fun t w=>DoX prog (aS 22 b g) w (aC d1 b a c K) fun _ w=>DoX prog (aS 40 a t) w (aC d1 b a c K) fun _ w=>DoX prog (aS 30 c (iN 0)) w (aC d1 b a c K) fun _ w=>jQ b a c d1 w K)∧(DoX prog (aS 22 b g) w (aC d1 b a c K) fun _ w=>DoX prog (aI 40 a) w (aC d1 b a c K) fun t67_1 w=>DoX prog (aS 40 a t67_1) w (aC d1 b a c K) fun _ w=>DoX prog (aS 30 c (iN 0)) w (aC d1 b a c K) fun _ w=>jQ b a c d1 w K))∧(DoX prog (aI 40 a) w (aC d1 b a c K) fun t67_2 w=>DoX prog (aI 22 b) w (aC d1 b a c K) fun t66_1 w=>DoX prog (aS 22 b t66_1) w (aC d1 b a c K) fun _ w=>DoX prog (aS 40 a t67_2) w (aC d1 b a c K) fun _ w=>DoX prog (aS 30 c (iN 0)) w (aC d1 b a c K) fun _ w=>jQ b a c d1 w K)))
def CJ(g a b c h i j d d1 w)(N2:JT)(K:KT):=
 DoX prog (mBin .lss 3 d j) w (aC d1 a b c K) fun k w=>IfX k (DoX prog (mIA 22 i d) w (aC d1 a b c K) fun l w=>DoX prog (aI 9 l) w (aC d1 a b c K) fun m w=>CallX prog 80 #[m] w (aC d1 a b c K) fun e w=>DoX prog (mExt e 0) w (aC d1 a b c K) fun n w=>DoX prog (mExt e 1) w (aC d1 a b c K) fun o w=>CallX prog 78 #[o,(iN 15)] w (aC d1 a b c K) fun y w=>DoX prog (aI 22 a) w (aC d1 a b c K) fun p w=>DoX prog (bN 22 1 #[(0,n)]) w (aC d1 a b c K) fun q w=>DoX prog (mB .append #[22,22] 22 #[false,false] #[p,q]) w (aC d1 a b c K) fun r w=>DoX prog (aS 22 a r) w (aC d1 a b c K) fun _ w=>DoX prog (mBin .add 3 d (iN 1)) w (aC d1 a b c K) fun s w=>AtX [d1] [d1] (N2 [s] w)) (DoX prog (aI 25 g) w (aC d1 a b c K) fun t w=>DoX prog (mB .len #[22] 3 #[false] #[h]) w (aC d1 a b c K) fun u w=>CallX prog 81 #[t,u] w (aC d1 a b c K) fun v w=>DoX prog (aS 40 b v) w (aC d1 a b c K) fun _ w=>DoX prog (aI 22 a) w (aC d1 a b c K) fun f w=>DoX prog (mB .len #[22] 3 #[false] #[f]) w (aC d1 a b c K) fun x w=>LoopX [(iN 0)] w (fun vs3 w N3=>∀_:Sg,B1 a b c f x (vs3.getD 0 undef) d1 w N3 K))
def Gs(f w)(K:KT):=
 dx (mBox 25 f) w K fun e w=>alx 22 w K fun a w=>alx 40 w K fun b w=>alx 30 w K fun c w=>dx (PM (.func 77) #[] #[a,b,c]) w K fun g w=>DfrX (dfrV g #[]) (fun d1=>DoX prog (mFA 25 e 0) w (aC d1 a b c K) fun h w=>DoX prog (aI 3 h) w (aC d1 a b c K) fun i w=>DoX prog (mEq .eql 3 (.tmp 15) (.const (iN 9)) i (iN 9)) w (aC d1 a b c K) fun j w=>CallX prog 78 #[j,(iN 10)] w (aC d1 a b c K) fun o w=>DoX prog (aI 25 e) w (aC d1 a b c K) fun k w=>CallX prog 79 #[k] w (aC d1 a b c K) fun d w=>DoX prog (mB .len #[22] 3 #[false] #[d]) w (aC d1 a b c K) fun l w=>DoX prog (mBin .leq 3 l (iN 8)) w (aC d1 a b c K) fun m w=>CallX prog 78 #[m,(iN 6)] w (aC d1 a b c K) fun p w=>DoX prog (mB .len #[22] 3 #[false] #[d]) w (aC d1 a b c K) fun n w=>LoopX [(iN 0)] w (fun vs2 w N2=>∀_:Sg,CJ e a b c d d n (vs2.getD 0 undef) d1 w N2 K))
theorem HH{t0 w K}(h:Gs t0 w K):Calls prog 28 #[t0] w K:=cz [] [(6,[26]),(14,[48])] Tryz.func28 h
def sK(t5 t7 t21 t22 t23 w)(N1:JT)(K:KT):=nz Tryz.f13 175 [N1] [nh 13 [7,23]] [] (zg [5,7,21,22,23] [t5,t7,t21,t22,t23]) w K
def wV(t0 w)(K:KT):=nz Tryz.f13 1 [] [(13,[7,23],fun s v j w f=>sK (s 5) (vg v 0) (s 21) (s 22) (vg v 1) w (f 0) K)] [] (zg [0] [t0]) w K
theorem BZ{t0 w K}(h:wV t0 w K):Calls prog 13 #[t0] w K:=cz [] [(6,[7,23])] Tryz.func13 h
def wB(a w)(K:KT):=
 K (.returned (.tuple #[a,(.bool true)])) w
def yN(a w)(J1:JT):=
 J1 [a] w
def yP(a w)(J1:JT):=
 J1 [a] w
def wO(a w)(J1:JT):=
 J1 [a] w
def yT(a w)(J1:JT):=
 J1 [a] w
def Cq(a w)(K:KT):=
 JoinX (fun J1=>JoinX (fun J2=>JoinX (fun J3=>JoinX (fun J4=>JoinX (fun J5=>eqx .eql 9 (.tmp 4) (.const (.string ⟨#[65,72,120]⟩)) a (.string ⟨#[65,72,120]⟩) w K fun b w=>IfX b (J5 [(.string ⟨#[65,83,67,73,73,72,101,120,68,101,99,111,100,101]⟩)] w) (eqx .eql 9 (.tmp 4) (.const (.string ⟨#[65,83,67,73,73,72,101,120,68,101,99,111,100,101]⟩)) a (.string ⟨#[65,83,67,73,73,72,101,120,68,101,99,111,100,101]⟩) w K fun c w=>IfX c (J5 [a] w) (eqx .eql 9 (.tmp 4) (.const (.string ⟨#[65,56,53]⟩)) a (.string ⟨#[65,56,53]⟩) w K fun d w=>IfX d (J4 [(.string ⟨#[65,83,67,73,73,56,53,68,101,99,111,100,101]⟩)] w) (eqx .eql 9 (.tmp 4) (.const (.string ⟨#[65,83,67,73,73,56,53,68,101,99,111,100,101]⟩)) a (.string ⟨#[65,83,67,73,73,56,53,68,101,99,111,100,101]⟩) w K fun e w=>IfX e (J4 [a] w) (eqx .eql 9 (.tmp 4) (.const (.string ⟨#[82,76]⟩)) a (.string ⟨#[82,76]⟩) w K fun f w=>IfX f (J3 [(.string ⟨#[82,117,110,76,101,110,103,116,104,68,101,99,111,100,101]⟩)] w) (eqx .eql 9 (.tmp 4) (.const (.string ⟨#[82,117,110,76,101,110,103,116,104,68,101,99,111,100,101]⟩)) a (.string ⟨#[82,117,110,76,101,110,103,116,104,68,101,99,111,100,101]⟩) w K fun g w=>IfX g (J3 [a] w) (eqx .eql 9 (.tmp 4) (.const (.string ⟨#[70,108]⟩)) a (.string ⟨#[70,108]⟩) w K fun h w=>IfX h (J2 [(.string ⟨#[70,108,97,116,101,68,101,99,111,100,101]⟩)] w) (eqx .eql 9 (.tmp 4) (.const (.string ⟨#[70,108,97,116,101,68,101,99,111,100,101]⟩)) a (.string ⟨#[70,108,97,116,101,68,101,99,111,100,101]⟩) w K fun i w=>IfX i (J2 [a] w) (K (.returned (.tuple #[(.string ⟨#[]⟩),(.bool false)])) w))))))))) (fun vs5 w=>∀_:Sg,yT (vs5.getD 0 undef) w J1)) (fun vs4 w=>∀_:Sg,wO (vs4.getD 0 undef) w J1)) (fun vs3 w=>∀_:Sg,yP (vs3.getD 0 undef) w J1)) (fun vs2 w=>∀_:Sg,yN (vs2.getD 0 undef) w J1)) (fun vs1 w=>∀_:Sg,wB (vs1.getD 0 undef) w K)
theorem EL{t0 w K}(h:Cq t0 w K):Calls prog 80 #[t0] w K:=cz [(15,[0]),(999999,[0])] [] Tryz.func80 h
def AE(w)(K:KT):=nz Tryz.f135 1 [] [] [] (zg [] []) w K
theorem DV{w K}(h:AE w K):Calls prog 135 #[] w K:=cw Tryz.func135 h
def wU(t0 t1 w)(K:KT):=nz Tryz.f208 1 [] [] [] (zg [0,1] [t0,t1]) w K
theorem Br{t0 t1 w K}(h:wU t0 t1 w K):Calls prog 208 #[t0,t1] w K:=cw Tryz.func208 h
def D9(c w)(K:KT):=
 dx (mBox 25 c) w K fun a w=>alx 27 w K fun b w=>fax 25 a 0 w K fun d w=>ldx 3 d w K fun e w=>ecx .eql 3 4 0 e w K fun f w=>IfX f (cx 135 #[] w K fun g w=>stx 27 b g w K fun _ w=>RetX prog [.cell b 27] w K) (fax 25 a 0 w K fun h w=>ldx 3 h w K fun i w=>ecx .eql 3 8 7 i w K fun j w=>cx 78 #[j,(iN 10)] w K fun r w=>HeldX w (fun S1 w=>HDo prog S1 (aI 25 a) fun k=>HDo prog S1 (aI 25 a) fun l=>HDo prog S1 (aI 25 a) fun m=>CallX prog 208 #[k,(.string ⟨#[80,114,101,100,105,99,116,111,114]⟩)] w (pm1 (pm1 (pm1 (pm1 (pk K))))) fun n w=>S1 w∧(CallX prog 208 #[l,(.string ⟨#[67,111,108,111,114,115]⟩)] w (pm1 (pm1 (pm1 (pm1 (pk K))))) fun o w=>S1 w∧(CallX prog 208 #[m,(.string ⟨#[67,111,108,117,109,110,115]⟩)] w (pm1 (pm1 (pm1 (pm1 (pk K))))) fun p w=>S1 w∧(HDo prog (fun _=>True) (aZ 27 #[(0,n),(1,o),(2,p)]) fun q=>DoX prog (aS 27 b q) w (pm1 (pm1 (pm1 (pm1 (pk K))))) fun _ w=>(RetX prog [.cell b 27] w K))))))
theorem Hg{t0 w K}(h:D9 t0 w K):Calls prog 147 #[t0] w K:=cw Tryz.func147 h
def Ab(t0 w)(K:KT):=nz Tryz.f148 1 [] [] [] (zg [0] [t0]) w K
theorem DW{t0 w K}(h:Ab t0 w K):Calls prog 148 #[t0] w K:=cw Tryz.func148 h
end
section
open Eng
def CT(t0 t1 t2 w)(K:KT):=nz Tryz.f15 1 [] [] [] (zg [0,1,2] [t0,t1,t2]) w K
theorem ET{t0 t1 t2 w K}(h:CT t0 t1 t2 w K):Calls prog 15 #[t0,t1,t2] w K:=cw Tryz.func15 h
def G1(t0 t1 w)(K:KT):=nz Tryz.f54 1 [] [] [(12,7)] (zg [0,1] [t0,t1]) w K
theorem HE{t0 t1 w K}(h:G1 t0 t1 w K):Calls prog 54 #[t0,t1] w K:=cw Tryz.func54 h
def CK(t0 w)(K:KT):=nz Tryz.f113 1 [] [] [] (zg [0] [t0]) w K
theorem EW{t0 w K}(h:CK t0 w K):Calls prog 113 #[t0] w K:=cw Tryz.func113 h
def oH(t0 t1 w)(K:KT):=nz Tryz.f171 1 [] [] [] (zg [0,1] [t0,t1]) w K
theorem qD{t0 t1 w K}(h:oH t0 t1 w K):Calls prog 171 #[t0,t1] w K:=cw Tryz.func171 h
def CO(t0 w)(K:KT):=nz Tryz.f115 1 [] [] [] (zg [0] [t0]) w K
theorem EN{t0 w K}(h:CO t0 w K):Calls prog 115 #[t0] w K:=cw Tryz.func115 h
def xO(t0 t1 w)(K:KT):=nz Tryz.f173 1 [] [] [] (zg [0,1] [t0,t1]) w K
theorem Bj{t0 t1 w K}(h:xO t0 t1 w K):Calls prog 173 #[t0,t1] w K:=cw Tryz.func173 h
def Aw(t0 w)(K:KT):=nz Tryz.f52 1 [] [] [] (zg [0] [t0]) w K
theorem DC{t0 w K}(h:Aw t0 w K):Calls prog 52 #[t0] w K:=cw Tryz.func52 h
def yW(t0 t1 t2 w)(K:KT):=nz Tryz.f17 1 [] [] [] (zg [0,1,2] [t0,t1,t2]) w K
theorem xB{t0 t1 t2 w K}(h:yW t0 t1 t2 w K):Calls prog 17 #[t0,t1,t2] w K:=cw Tryz.func17 h
def AF(t0 t1 w)(K:KT):=nz Tryz.f30 1 [] [] [] (zg [0,1] [t0,t1]) w K
theorem Dp{t0 t1 w K}(h:AF t0 t1 w K):Calls prog 30 #[t0,t1] w K:=cw Tryz.func30 h
def qX(t4 t8 w)(K:KT):=nz Tryz.f22 4095 [] [] [] (zg [4,8] [t4,t8]) w K
def sM(o b a e g h c p q d w)(N3:JT)(K:KT):=
 bnx .lss 3 d q w K fun r w=>IfX r (iax 22 p d w K fun s w=>ldx 9 s w K fun t w=>iax 40 o d w K fun u w=>ldx 27 u w K fun v w=>cx 68 #[v] w K fun i w=>exx i 0 w K fun x w=>exx i 1 w K fun j w=>alx 25 w K fun f w=>stx 25 f x w K fun _ w=>ecx .neq 30 93 0 j w K fun y w=>IfX y (dx (aZ 25 #[]) w K fun z w=>stx 25 a z w K fun _ w=>RetX prog [.cell a 25,.val j] w K) (cx 69 #[t] w K fun A w=>dx (bN 23 1 #[(0,A)]) w K fun B w=>apx 23 g B w K fun C w=>ldx 25 f w K fun D w=>dx (bN 23 1 #[(0,D)]) w K fun F w=>apx 23 h F w K fun G w=>gfx c (mFA 25 f 0) w K fun H w=>gfx c (aI 3 H) w K fun I w=>gfx c (mEq .neq 3 (.tmp 109) (.const (iN 0)) I (iN 0)) w K fun L w=>dx (eS c (.bool true) L) w K fun M w=>bnx .add 3 d (iN 1) w K fun O w=>N3 [e,C,G,M,O] w)) (HeldX w (fun S4 w=>HDo prog S4 (aI 25 b) fun P=>CallX prog 71 #[g] w (pm1 (pm1 (pm1 (pm1 (pm1 (pm1 (pk K))))))) fun Q w=>S4 w∧(CallX prog 70 #[P,(.string ⟨#[70,105,108,116,101,114]⟩),Q] w (pm1 (pm1 (pm1 (pm1 (pm1 (pm1 (pk K))))))) fun k w=>(HDo prog (fun _=>True) (mExt k 0) fun R=>HDo prog (fun _=>True) (mExt k 1) fun l=>DoX prog (aS 25 b R) w (pm1 (pm1 (pm1 (pm1 (pm1 (pm1 (pk K))))))) fun _ w=>(ecx .neq 30 120 0 l w K fun S w=>IfX S (dx (aZ 25 #[]) w K fun T w=>stx 25 a T w K fun _ w=>RetX prog [.cell a 25,.val l] w K) (JoinX (fun J5=>IfX c (HeldX w (fun S6 w=>HDo prog S6 (aI 25 b) fun U=>CallX prog 71 #[h] w (pm1 (pm1 (pm1 (pm1 (pm1 (pm1 (pk K))))))) fun V w=>S6 w∧(CallX prog 70 #[U,(.string ⟨#[68,101,99,111,100,101,80,97,114,109,115]⟩),V] w (pm1 (pm1 (pm1 (pm1 (pm1 (pm1 (pk K))))))) fun m w=>(HDo prog (fun _=>True) (mExt m 0) fun W=>HDo prog (fun _=>True) (mExt m 1) fun n=>DoX prog (aS 25 b W) w (pm1 (pm1 (pm1 (pm1 (pm1 (pm1 (pk K))))))) fun _ w=>(ecx .neq 30 132 0 n w K fun X w=>IfX X (dx (aZ 25 #[]) w K fun Y w=>stx 25 a Y w K fun _ w=>RetX prog [.cell a 25,.val n] w K) (J5 [e] w)))))) (J5 [e] w)) (fun vs5 w=>∀_:Sg,qX b a w K)))))))
def kL(b f g c a h d w)(N1:JT)(K:KT):=
 bnx .geq 3 d (iN 0) w K fun m w=>IfX m (HeldX w (fun S2 w=>HDo prog S2 (mIA 22 b d) fun n=>HDo prog S2 (aI 9 n) fun o=>HDo prog S2 (mIA 40 f d) fun p=>HDo prog S2 (aI 27 p) fun q=>CallX prog 17 #[o,q,g] w (pm1 (pm1 (pm1 (pm1 (pm1 (pm1 (pm1 (pm1 (pm1 (pm1 (pm1 (pm1 (pm1 (pm1 (pk K))))))))))))))) fun i w=>S2 w∧(HDo prog S2 (mExt i 0) fun r=>HDo prog S2 (mExt i 1) fun j=>ecx .neq 30 59 0 j w K fun s w=>IfX s (dx (aZ 25 #[]) w K fun t w=>stx 25 a t w K fun _ w=>RetX prog [.cell a 25,.val j] w K) (bnx .sub 3 d (iN 1) w K fun u w=>N1 [r,h,u] w)))) (ldx 25 c w K fun v w=>cx 30 #[v,g] w K fun k w=>exx k 0 w K fun x w=>exx k 1 w K fun l w=>stx 25 c x w K fun _ w=>ecx .neq 30 69 0 l w K fun e w=>efx e b w fun y w=>gfx e (mB .len #[22] 3 #[false] #[y]) w K fun z w=>gfx e (mEq .eql 3 (.tmp 73) (.const (iN 0)) z (iN 0)) w K fun A w=>dx (eS e (.bool true) A) w K fun B w=>IfX B (ldx 25 c w K fun C w=>stx 25 a C w K fun _ w=>RetX prog [.cell a 25,.val l] w K) (lnx 22 b w K fun D w=>LoopX [h,(.slice none 0 0),(.slice none 0 0),(.bool false),(iN 0)] w (fun vs3 w N3=>∀_:Sg,sM f c a (vs3.getD 0 undef) (vs3.getD 1 undef) (vs3.getD 2 undef) (vs3.getD 3 undef) b D (vs3.getD 4 undef) w N3 K)))
def xC(t0 t1 t2 t3 w)(K:KT):=nz Tryz.f22 1 [] [(15,[3,9,11],fun s v j w f=>kL (s 1) (s 2) (vg v 0) (s 4) (s 8) (vg v 1) (vg v 2) w (f 0) K)] [] (zg [0,1,2,3] [t0,t1,t2,t3]) w K
theorem CC{t0 t1 t2 t3 w K}(h:xC t0 t1 t2 t3 w K):Calls prog 22 #[t0,t1,t2,t3] w K:=cz [(34,[9])] [(7,[3,9,11]),(18,[9,12,13,14,80])] Tryz.func22 h
def B9(d w)(K:KT):=
 dx (mBox 27 d) w K fun a w=>alx 25 w K fun b w=>QuietX w (fun C1=>QDo prog C1 (aI 27 a) fun e=>QCall prog C1 135 #[] fun f=>QDo prog C1 (mEq .eql 27 (.tmp 4) (.tmp 5) e f) fun g=>
 ∀w,C1 w ->
 IfX g (dx (aZ 25 #[]) w K fun h w=>stx 25 b h w K fun _ w=>RetX prog [.cell b 25,.val (iN 0)] w K) (HeldX w (fun S2 w=>HDo prog (fun _=>True) (mFA 27 a 1) fun i=>HDo prog S2 (aI 3 i) fun j=>HDo prog (fun _=>True) (mFA 27 a 2) fun k=>HDo prog S2 (aI 3 k) fun l=>HDo prog (fun _=>True) (mFA 27 a 0) fun m=>HDo prog S2 (aI 3 m) fun n=>CallX prog 69 #[(.string ⟨#[67,111,108,111,114,115]⟩)] w (pm1 (pm1 (pm1 (pm1 (pm1 (pm1 (pm1 (pm1 (pm1 (pk K)))))))))) fun o w=>S2 w∧(CallX prog 137 #[j] w (pm1 (pm1 (pm1 (pm1 (pm1 (pm1 (pm1 (pm1 (pm1 (pk K)))))))))) fun p w=>S2 w∧(CallX prog 69 #[(.string ⟨#[67,111,108,117,109,110,115]⟩)] w (pm1 (pm1 (pm1 (pm1 (pm1 (pm1 (pm1 (pm1 (pm1 (pk K)))))))))) fun q w=>S2 w∧(CallX prog 137 #[l] w (pm1 (pm1 (pm1 (pm1 (pm1 (pm1 (pm1 (pm1 (pm1 (pk K)))))))))) fun r w=>S2 w∧(CallX prog 69 #[(.string ⟨#[80,114,101,100,105,99,116,111,114]⟩)] w (pm1 (pm1 (pm1 (pm1 (pm1 (pm1 (pm1 (pm1 (pm1 (pk K)))))))))) fun s w=>S2 w∧(CallX prog 137 #[n] w (pm1 (pm1 (pm1 (pm1 (pm1 (pm1 (pm1 (pm1 (pm1 (pk K)))))))))) fun t w=>S2 w∧(DoX prog (bN 23 6 #[(0,o),(1,p),(2,q),(3,r),(4,s),(5,t)]) w (pm1 (pm1 (pm1 (pm1 (pm1 (pm1 (pm1 (pm1 (pm1 (pk K)))))))))) fun u w=>S2 w∧(CallX prog 136 #[u] w (pm1 (pm1 (pm1 (pm1 (pm1 (pm1 (pm1 (pm1 (pm1 (pk K)))))))))) fun c w=>S2 w∧(HDo prog (fun _=>True) (mExt c 0) fun v=>HDo prog (fun _=>True) (mExt c 1) fun x=>DoX prog (aS 25 b v) w (pm1 (pm1 (pm1 (pm1 (pm1 (pm1 (pm1 (pm1 (pm1 (pk K)))))))))) fun _ w=>(RetX prog [.cell b 25,.val x] w K))))))))))))
theorem E8{t0 w K}(h:B9 t0 w K):Calls prog 68 #[t0] w K:=cw Tryz.func68 h
def Ar(t0 w)(K:KT):=nz Tryz.f71 1 [] [] [] (zg [0] [t0]) w K
theorem DX{t0 w K}(h:Ar t0 w K):Calls prog 71 #[t0] w K:=cw Tryz.func71 h
def AH(t12 t13 t14 t51 w)(N2:JT)(K:KT):=nz Tryz.f67 30399 [N2] [nh 33 [12,51]] [(20,10)] (zg [12,13,14,51] [t12,t13,t14,t51]) w K
def Ak(t1 t7 t12 t49 t50 t51 w)(N2:JT)(K:KT):=nz Tryz.f67 703 [N2] [nh 33 [12,51],(40,[12],fun s v j w f=>AH (vg v 0) (s 13) (s 14) (s 51) w (f 0) K)] [] (zg [1,7,12,49,50,51] [t1,t7,t12,t49,t50,t51]) w K
def Au(t0 t1 t7 t18 t19 t20 w)(N1:JT)(K:KT):=nz Tryz.f67 87 [N1] [nh 11 [7,20],(33,[12,51],fun s v j w f=>Ak (s 1) (s 7) (vg v 0) (s 49) (s 50) (vg v 1) w (f 0) K)] [] (zg [0,1,7,18,19,20] [t0,t1,t7,t18,t19,t20]) w K
def El(t0 t1 w)(K:KT):=nz Tryz.f67 1 [] [(11,[7,20],fun s v j w f=>Au (s 0) (s 1) (vg v 0) (s 18) (s 19) (vg v 1) w (f 0) K)] [] (zg [0,1] [t0,t1]) w K
theorem GP{t0 t1 w K}(h:El t0 t1 w K):Calls prog 67 #[t0,t1] w K:=cz [(20,[12])] [(5,[7,20]),(16,[12,51])] Tryz.func67 h
def nR(t0 t1 w)(K:KT):=nz Tryz.f121 1 [] [] [] (zg [0,1] [t0,t1]) w K
theorem vN{t0 t1 w K}(h:nR t0 t1 w K):Calls prog 121 #[t0,t1] w K:=cw Tryz.func121 h
def lC(t0 t1 w)(K:KT):=nz Tryz.f122 1 [] [] [] (zg [0,1] [t0,t1]) w K
theorem rC{t0 t1 w K}(h:lC t0 t1 w K):Calls prog 122 #[t0,t1] w K:=cw Tryz.func122 h
end
end Go.Proofs.YtlipjfcbjemicaaGreatDoor
