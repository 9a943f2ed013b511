/- Texts that go together: InfR IrB IrC IrD SZlib SRef13 ZlA EngAK SPred SRef15 PrA PrB. -/
import Derived.Test.YtlipjfcbjemicaaGreatDoorRows
import Derived.Lib.ConvBytes
import Derived.Laws.IdiomCopy
import Derived.Test.YtlipjfcbjemicaaGreatDoorMfeimdbci
set_option linter.defProp false
set_option linter.unusedSimpArgs false
set_option linter.unusedVariables false
set_option maxRecDepth 20000
open Go.Proofs.Tryz
open Go.Proofs.Tryz renaming prog->ah
open Option renaming some->aw,none->av
open Bool renaming true->au,false->aq
open Go renaming Value->ao,World->ak
open Decidable renaming decide->ai
namespace Go.Proofs.YtlipjfcbjemicaaGreatDoor
variable{D:TypeId}{M:Eng.Mem}{R:List Eng.Ent}{W w:ak}{above:List UInt8}{b cap i most p sz:Nat}{colors e:Int}{cs:List ao}{near:List Nat}{v va:ao}{t0 t1 t2 t3 t4:ao}{k0:Eng.KT}
section
open Eng Go.RowKit
theorem ny (near far:List Nat)(s:List UInt8)(most:Nat):∀(f p:Nat) (out:List UInt8),(jh near far s most f p out).2.2=0->p<=(jh near far s most f p out).2.1
|0,_,_,h=>by simp[jh] at h
|f+1,p,out,h=>by
  unfold jh at h ⊢;dsimp only at h ⊢;split
  ·exact aoG _
  rename_i h1;rw[anW h1] at h
  have:=mw (Decidable.not_not.1 h1);split
  ·rename_i h2;rw[anX h2] at h
   split
   ·exact aoG _
   rename_i h3;rw[anW h3] at h
   have:=ny near far s most f _ _ h;omega
  rename_i h2;rw[anW h2] at h
  split
  ·dsimp only;omega
  rename_i h3;rw[anW h3] at h
  split
  ·exact aoG _
  rename_i h4;rw[anW h4] at h
  have h5:=qp (Decidable.not_not.1 h4);have:=ny near far s most f _ _ h;omega
theorem qz (cl:List Nat)(s:List UInt8)(n:Nat):∀(f p:Nat) (l:List Nat),(iq cl s n f p l).2.2=0->p<=(iq cl s n f p l).2.1
|0,_,_,h=>by simp[iq] at h
|f+1,p,l,h=>by
  unfold iq at h ⊢;dsimp only at h ⊢;split
  ·exact aoG _
  rename_i h0;rw[anW h0] at h
  split
  ·exact aoG _
  rename_i h1;rw[anW h1] at h
  have:=mw (Decidable.not_not.1 h1);split
  ·rename_i h2;rw[anX h2] at h
   have:=qz cl s n f _ _ h;omega
  rename_i h2;rw[anW h2] at h
  split
  ·exact aoG _
  rename_i h3;rw[anW h3] at h
  split
  ·exact aoG _
  rename_i h4;rw[anW h4] at h
  split
  ·exact aoG _
  rename_i h5;rw[anW h5] at h
  have:=qz cl s n f _ _ h;omega
theorem H0 {s:List UInt8}{out:List UInt8}(h:(cm s most p out).2.2=0):p<=(cm s most p out).2.1:=by
 unfold cm at h ⊢;dsimp only at h ⊢
 repeat' split
 all_goals first|exact aoG _|(dsimp only;omega)
theorem yw {s:List UInt8}{out:List UInt8}(h:(gj s most p out).2.2=0):p<=(gj s most p out).2.1:=by
 unfold gj at h ⊢;by_cases h1:8*s.length < p+5
 ·rw[anX h1];exact aoG _
 rw[anW h1] at h ⊢;by_cases h2:29 < Fl.num s p 5
 ·rw[anX h2];exact aoG _
 rw[anW h2] at h ⊢;by_cases h3:8*s.length < p+10
 ·rw[anX h3];exact aoG _
 rw[anW h3] at h ⊢;by_cases h4:29 < Fl.num s (p+5) 5
 ·rw[anX h4];exact aoG _
 rw[anW h4] at h ⊢;by_cases h5:8*s.length < p+14
 ·rw[anX h5];exact aoG _
 rw[anW h5] at h ⊢;by_cases h6:8*s.length < p+14+3*(Fl.num s (p+10) 4+4)
 ·rw[anX h6];exact aoG _
 rw[anW h6] at h ⊢;have hq:p<=p+14+3*(Fl.num s (p+10) 4+4):=om
 generalize p+14+3*(Fl.num s (p+10) 4+4)=q at h hq ⊢;generalize ev s (p+14) (Fl.num s (p+10) 4+4)=cl at h ⊢;generalize Fl.num s p 5+257=hl at h ⊢;generalize hl+(Fl.num s (p+5) 5+1)=n at h ⊢;have hadv:(Fl.lens cl s n q).2.2=0->q<=(Fl.lens cl s n q).2.1:=qz cl s n _ _ _;dsimp only at h ⊢;generalize Fl.lens cl s n q=r at h hadv ⊢;obtain⟨l,q2,e⟩:=r;dsimp only at h hadv ⊢;by_cases h7:az cl≠0
 ·rw[anX h7];exact aoG _
 rw[anW h7] at h ⊢;by_cases h8:e≠0
 ·rw[anX h8];exact aoG _
 rw[anW h8] at h ⊢;by_cases h9:l.getD 256 0=0
 ·rw[anX h9];exact aoG _
 rw[anW h9] at h ⊢;by_cases h10:az (l.take hl)≠0
 ·rw[anX h10];exact aoG _
 rw[anW h10] at h ⊢;by_cases h11:az (l.drop hl)≠0
 ·rw[anX h11];exact aoG _
 rw[anW h11] at h ⊢;have h12:q2<=(ec (l.take hl) (l.drop hl) s most q2 out).2.1:=ny _ _ _ _ _ _ _ h;have:=hadv (Decidable.not_not.1 h8);omega
theorem uo {s:List UInt8}{most p:Nat}{out:List UInt8}(h:(bt s most p out).2.2=0):p<=(bt s most p out).2.1:=by
 unfold bt at h ⊢;split
 ·exact aoG _
 rename_i h1;rw[anW h1] at h
 split
 ·rename_i h2;rw[anX h2] at h
  have:=H0 h;omega
 rename_i h2;rw[anW h2] at h
 split
 ·rename_i h3;rw[anX h3] at h
  have:=ny _ _ _ _ _ _ _ h;unfold ec;omega
 rename_i h3;rw[anW h3] at h
 split
 ·rename_i h4;rw[anX h4] at h
  have:=yw h;omega
 exact aoG _
namespace Eng
section
variable {P:Program}{w:ak}
theorem Ph {S E:TypeId}{l:List UInt8}(hs:P.underlying S=aw (.slice E))(he:P.underlying E=aw (.int .u8))(hd:P.underlying D=aw .string)(h:Sl w v 1 l.length (aG l)):(fA S D v).run P w=.ok (.value (.string ⟨l.toArray⟩)) w:=by
 obtain⟨hl,a,cap,rfl,hn,hc⟩:=h;cases a with
|none=>
  have h0:=hn rfl;have:l=[]:=asG h0;subst this;exact bK (run_convert_bytes_nil w S E hs he _ _ D hd)
|some p=>
  obtain⟨hsp,hcell⟩:=hc p rfl;by_cases h0:l=[]
  ·subst h0;refine bK ?_;have hl0:(loadCells p 0).run P w=.ok (([]:List Int).map (Value.int .u8)).toArray w:=rfl;rw[show ([]:List UInt8).length=0 from rfl,run_convert_bytes_string w S D E _ 0 cap hs he hd,run_bytesToString w p 0 cap [] hl0];rfl
  replace hsp:=hsp (arI.2 h0)
  obtain⟨b,off,spot⟩:=p;simp only at hsp hcell;subst hsp;have:=run_convert_bytes_arg (P:=P) w S E hs he b off l.length cap (l.map λc=>(c.toNat:Int)) sm (λi hi=>by
   refine hcell i _ ?_;simp[aG,aoI hi]) D hd
  refine bK ?_;rw[this];have e:strOfNums (l.map λc=>(c.toNat:Int))=⟨l.toArray⟩:=by
   unfold strOfNums;rw[auP]
   congr 2
   conv=>rhs;rw[<-List.map_id l]
   refine auA λc _=>?_;simp
  rw[e]
end
end Eng
def jb (s:List UInt8)(most:Nat):Nat->Nat->List UInt8->List UInt8×Nat×Int
|0,_,_=>([],0,13)
|f+1,p,out=>
  if 8*s.length < p+1 then ([],0,4)
  else
   let r:=bt s most (p+1) out
   if r.2.2≠0 then ([],0,r.2.2)
   else if Fl.num s p 1=1 then (r.1,(r.2.1+7) / 8,0)
   else jb s most f r.2.1 r.1
def gy (s:List UInt8)(most:Int):List UInt8×Nat×Int:=if most < 0 then ([],0,1) else jb s (min most.toNat 1048576) (8*s.length+1) 0 []
def flT (x:List UInt8×Nat×Int):Value:=.tuple #[.string ⟨x.1.toArray⟩,.int .i64 (x.2.1:Int),.int .i64 x.2.2]
abbrev Kl (b:Nat)(l:List UInt8):Ent:=.cells b [.string ⟨l.toArray⟩] 9
abbrev Qr (b:Nat)(n:Int):Ent:=.cells b [.int .i64 n] 3
abbrev J6 (b:Nat)(e:Int):Ent:=.cells b [.int .i64 e] 30
theorem LG:bZ ah 271=true:=krx
theorem nfUp:nD ah 273=true:=krx
theorem akP:fOff ah 273 0=aw 0:=krx
theorem szUp:(Tryz.prog.info? 273).map (·.size)=aw 1:=krx
section
variable {w:ak}{PK:PKT}{K:VWP}{S:Nat->Prop}{w0:ak}{L:List Ent}
theorem WS (s:List UInt8)(ho:OwnS S w0 w L)(k:∀b w',OwnS S w0 w' (bqE b s 0 0::L)->K (.pointer (aw ⟨b,0,av⟩)) w'):CallX ah 273 #[.string ⟨s.toArray⟩] w PK K:=by
 refine eW (Mz (k0:=RetK λv W=>∃b,v=.pointer (aw ⟨b,0,av⟩)∧OwnS S w0 W (bqE b s 0 0::L)) ?_) (λe W ⟨v,he,b,hv,ho⟩=>by subst he;subst hv;exact k b W ho);unfold LD nz;have e:∀W:ak,(bA 317 #[(1,.string ⟨s.toArray⟩)]).run ah W=.ok (.value (.agg (bqC s 0 0).toArray)) W:=λW=>by kernel_rfl
 refine aC (e w) |>.mpr ?_;exact bD (λb=>.pointer (aw ⟨b,0,av⟩)) (bqC s 0 0) 317 (λ_=>by kernel_rfl) ho λb w' ho=>retK ⟨b,rfl,ho⟩
end
theorem Y5 (s:List UInt8)(most:Int)(M:Mem)(w:ak)(hrp:Rp M)(hod:Od M)(hs:s.length<=1000000000)(hM:M.has w) :
  RetM ah 239 #[.string ⟨s.toArray⟩,.int .i64 most] M w (λv _=>v=flT (gy s most)∧(gy s most).2.1<=s.length∧(gy s most).1.length<=1048576):=by
 refine aU hM λK hK=>Il ?_;generalize hX:gy s most=X at hK;unfold gy at hX;unfold FO iN dx alx;refine bD (λb=>.pointer (aw ⟨b,0,av⟩)) [.string ⟨#[]⟩] 9 (λ_=>by kernel_rfl) (OwnS.memS hM) λb4 w1 ho=>?_;refine bD (λb=>.pointer (aw ⟨b,0,av⟩)) [.int .i64 0] 3 (λ_=>by kernel_rfl) ho λb5 w2 ho=>?_;refine bD (λb=>.pointer (aw ⟨b,0,av⟩)) [.int .i64 0] 30 (λ_=>by kernel_rfl) ho λb6 w3 ho=>?_;have ho:OwnS M.A w w3 ([J6 b6 0,Qr b5 0,Kl b4 []]++([.mem M]++[])):=ho;have ho:=ho.front;rw[Cs];refine⟨_,rfl,?_⟩;have fail:∀{W:ak} {L:List Ent} {e:Int} {N:Mem},OwnS M.A w W (L++([.mem N,J6 b6 0,Qr b5 0,Kl b4 []]++[]))->M.le N->X=([],0,e) ->
   bL { target:=.fn (.func 271) #[.pointer (aw ⟨b4,0,av⟩),.pointer (aw ⟨b5,0,av⟩),.pointer (aw ⟨b6,0,av⟩)],args:=#[]++#[] } (.pointer (aw ⟨b4,0,av⟩)) (.pointer (aw ⟨b5,0,av⟩)) (.pointer (aw ⟨b6,0,av⟩)) K [upI e] W:=by
  intro W L e N ho hle hx;have ho:=ho.front;have ho:OwnS M.A w W (.mem N::J6 b6 0::Qr b5 0::Kl b4 []::(L++[])):=ho;show pd ah _ K _ [upI e] W;unfold pd;refine qN sm LG (rP (t0:=.pointer (aw ⟨b4,0,av⟩)) (t1:=.pointer (aw ⟨b5,0,av⟩)) (t2:=.pointer (aw ⟨b6,0,av⟩)) ?_);simp only[jX,recV,recM,upI,Eng.VG asH,rs,X7 nfUp,ex,i_t,i_f,iN,dx,ldx,fax,exx,stx,eqx,alx];refine bD (λb=>.pointer (aw ⟨b,0,av⟩)) [.int .i64 0] 273 (λ_=>by kernel_rfl) ho λb7 w5 ho=>?_;refine iL 0 ho rfl (new:=[.int .i64 e]) szUp (λu hu=>by rw[aoZ.1 hu];rfl) rfl λw6 ho=>?_;refine⟨?_⟩;have ho:=ho.drew
  repeat' first
  |apply And.intro
  |refine aC (bH akP) |>.mpr ?_
  |refine aC (aB HS (ho.cell 0 rfl 0 rfl)) |>.mpr ?_
  |refine aN 4 ho rfl krx rfl sm (λ_ ho=>?_)
  |refine aN 3 ho rfl krx rfl sm (λ_ ho=>?_)
  |refine aN 2 ho rfl krx rfl sm (λ_ ho=>?_)
  all_goals
   unfold dS;refine QZ (bN (AtV.cell VS (ho.cell 4 rfl 0 rfl))) (bN (AtV.cell bP (ho.cell 3 rfl 0 rfl))) (bN (AtV.cell HS (ho.cell 2 rfl 0 rfl))) (hK _ _ N _ 1 ho rfl hle ⟨by rw[hx];rfl,by rw[hx];exact aoO _,by rw[hx];exact aoO _⟩)
 try simp only[rs]
 refine jE (λh1=>?_) (λh1=>?_)
 rotate_left
 ·have:=apM h1;rw[anX om] at hX;exact fail (L:=[]) ho M.le_refl hX.symm
 have h1:=aoU h1;rw[anW om] at hX;refine WS s ho λrb w4 ho=>?_;rw[OH,show min most 1048576=((min most.toNat 1048576:Nat):Int) by omega];have hm1:min most.toNat 1048576<=1048576:=atA _ _;generalize min most.toNat 1048576=mo at hX hm1;have e:∀W:ak,(bA 278 #[(0,.pointer (aw ⟨rb,0,av⟩)),(2,.int .i64 (mo:Int))]).run ah W=.ok (.value (.agg (flC rb nilS (mo:Int)).toArray)) W:=λW=>by kernel_rfl
 refine aC (e w4) |>.mpr ?_;refine bD (λb=>.pointer (aw ⟨b,0,av⟩)) (flC rb nilS (mo:Int)) 278 (λ_=>by kernel_rfl) ho λfb w5 ho=>?_;have ho:=OwnS.nilU ho 5 1;have ho:OwnS M.A w w5 ([outR nilS []]++([flE fb rb nilS (mo:Int),bqE rb s 0 0]++[.mem M,J6 b6 0,Qr b5 0,Kl b4 []])):=ho;have ho:OwnS M.A w w5 (Fs fb rb s mo nilS 0 0 [] (.mem M::[J6 b6 0,Qr b5 0,Kl b4 []])):=(OwnS.front ho).perm (asW _);refine loop (λvs W=>∃(p:Nat) (way:Int) (ov:ao) (out:List UInt8) (N:Mem),vs=[]∧(way=0∨way=1)∧p<=8*s.length∧out.length<=mo∧M.le N∧(∃f,8*s.length+1 - p<=f∧jb s mo f p out=X)∧OwnS M.A w W (Fs fb rb s mo ov way p out (.mem N::[J6 b6 0,Qr b5 0,Kl b4 []]))) (λ_ w=>8*s.length+1 - bqAt rb w) ⟨0,0,nilS,[],M,rfl,.inl rfl,om,sm,M.le_refl,⟨_,om,hX⟩,ho⟩ ?_;clear ho hX;rintro vs w6 ⟨p,way,ov,out,N,rfl,hw,hp,hol,hle,⟨f,hf,hX⟩,ho⟩ _;have hat:bqAt rb w6=p:=Jp (ho.at_ 1 rfl);simp only[Bh,iN];obtain⟨f,rfl⟩:∃f',f=f'+1:=⟨f - 1,om⟩;rw[jb] at hX;dsimp only at hX;have hadv:=@uo s mo (p+1) out;refine acX ho (hrp.le hle) (hod.le hle) hw hp hs om hol (λe1 N2 ov' way' p' out' W hle2 ho=>?_) (λe1 e2 e3 e4 N2 way' ov' W hle2 hw' ho=>?_) (λe1 e2 N2 ov' way' p' out' W hle2 ho=>?_)
 ·rw[anX e1] at hX;exact fail (L:=[flE fb rb ov' (mo:Int),bqE rb s way' p',outR ov' out']) ho (hle.trans hle2) hX.symm
 rotate_left
 ·rw[anW om,anX e2] at hX;exact fail (L:=[flE fb rb ov' (mo:Int),bqE rb s way' p',outR ov' out']) ho (hle.trans hle2) hX.symm
 rw[anW om,anW (by rw[e2];decide)] at hX;have hadv:=hadv e2;generalize bt s mo (p+1) out=B at hX ho e2 e3 e4 hadv
 try simp only[rs]
 by_cases hl:Fl.num s p 1=1
 case neg=>
  rw[anW hl] at hX;simp only[hl,aoB,aqD,i_t];have hat2:bqAt rb W=B.2.1:=Jp (ho.at_ 1 rfl);refine⟨rfl,?_⟩;refine aQ ⟨B.2.1,way',ov',B.1,N2,rfl,hw',e3,e4,hle.trans hle2,⟨f,om,hX⟩,ho⟩ (by show 8*s.length+1 - bqAt rb W < 8*s.length+1 - bqAt rb w6;rw[hat,hat2];omega)
 rw[anX hl] at hX;simp only[hl,aoA,aqF,i_f];refine cR (λW=>OwnS M.A w W (Fs fb rb s mo ov' way' B.2.1 B.1 (.mem N2::[J6 b6 0,Qr b5 0,Kl b4 []]))) ho.drew ?_;refine q_do _ (λ_=>cN) (q_do _ (λ_=>bH AY) (q_at _ (λW h=>Je (h.at_ 0 rfl)) ?_));refine q_at (.string ⟨B.1.toArray⟩) (λW h=>Ph aoK aoP aoD (cS (h.at_ 2 rfl))) ?_;refine q_do _ (λ_=>cN) (q_do _ (λ_=>bH UD) (q_at _ (λW h=>Rg (h.at_ 0 rfl)) ?_));refine kS (.int .i64 (((B.2.1+7) / 8:Nat):Int)) (λW h=>(aeF (h.at_ 1 rfl) e3 hs).mono λv w' ⟨h1,h2⟩=>⟨h1,h.grow h2⟩) ?_;intro w7 ho;refine aN 6 ho rfl krx rfl sm λw8 ho=>?_;refine aN 5 ho rfl krx rfl sm λw9 ho=>?_;refine aN 4 ho rfl krx rfl sm λw10 ho=>?_;refine qN sm LG (rP (t0:=.pointer (aw ⟨b4,0,av⟩)) (t1:=.pointer (aw ⟨b5,0,av⟩)) (t2:=.pointer (aw ⟨b6,0,av⟩)) ?_);simp only[jX,recV,recM,Eng.Vs asH,rs,i_t,i_f,iN,dx,ldx,fax,exx,stx,eqx,alx];refine QZ (bN (AtV.cell VS (ho.cell 6 rfl 0 rfl))) (bN (AtV.cell bP (ho.cell 5 rfl 0 rfl))) (bN (AtV.cell HS (ho.cell 4 rfl 0 rfl))) (hK _ _ N2 _ 3 ho rfl (hle.trans hle2) ⟨by rw[<-hX];rfl,by rw[<-hX];dsimp only;omega,by rw[<-hX];dsimp only;omega⟩)
end
section
open Eng Go.RowKit
theorem Ek (i:Nat)(w:ak)(hi:i<=28):Ret ah 310 #[.int .i64 ((257+i:Nat):Int)] w (λv w'=>v=.int .i64 (cy i:Int)∧Below w.heap.size w w'):=by
 refine aK λK hK=>vY ?_;unfold oP nz;unfold cy at hK
 try simp only[rs]
 by_cases h1:i < 8
 ·simp only[show ai (((257+i:Nat):Int) < 265)=au from anZ om,rs];rw[anW om,show i / 4 - 1=0 by omega] at hK;exact hK _ _ ⟨rfl,Below.refl _ _⟩
 simp only[show ai (((257+i:Nat):Int) < 265)=aq from anY om,rs];by_cases h2:i=28
 ·simp only[show ai ((284:Int) < ((257+i:Nat):Int))=au from anZ om,rs];rw[anX h2] at hK;exact hK _ _ ⟨rfl,Below.refl _ _⟩
 simp only[show ai ((284:Int) < ((257+i:Nat):Int))=aq from anY om,rs];rw[anW h2] at hK;rw[aA om om,Ao dc,show ((257+i:Nat):Int) - 261=((i - 4:Nat):Int) by omega,show ((i - 4:Nat):Int).tdiv 4=(((i - 4) / 4:Nat):Int) from rfl,aA om om,show (i - 4) / 4=i / 4 - 1 by omega];exact hK _ _ ⟨rfl,Below.refl _ _⟩
theorem BU (i:Nat)(w:ak)(hi:i<=30):Ret ah 312 #[.int .i64 (i:Int)] w (λv w'=>v=.int .i64 (bu i:Int)∧Below w.heap.size w w'):=by
 refine aK λK hK=>vA ?_;unfold lF nz;unfold bu at hK
 try simp only[rs]
 by_cases h1:i < 4
 ·simp only[show ai (((i:Nat):Int) < 4)=au from anZ om,rs];rw[show i / 2 - 1=0 by omega] at hK;exact hK _ _ ⟨rfl,Below.refl _ _⟩
 simp only[show ai (((i:Nat):Int) < 4)=aq from anY om,rs];rw[aA om om,Ao dc,show ((i:Nat):Int) - 2=((i - 2:Nat):Int) by omega,show ((i - 2:Nat):Int).tdiv 2=(((i - 2) / 2:Nat):Int) from rfl,aA om om,show (i - 2) / 2=i / 2 - 1 by omega];exact hK _ _ ⟨rfl,Below.refl _ _⟩
theorem PD (i m:Nat)(w:ak)(hi:i<=28)(hm:m < 2 ^ cy i):Ret ah 311 #[.int .i64 ((257+i:Nat):Int),.int .i64 (m:Int)] w (λv w'=>v=.tuple #[.int .i64 ((gl i+m:Nat):Int),.int .i64 0]∧Below w.heap.size w w'):=by
 refine aK λK hK=>Ar ?_;unfold sD nz;have ho:OwnS NoB w w []:=Own.start w;obtain⟨h1,h2⟩:=mg hi;have hp5:2 ^ cy i<=2 ^ 5:=apJ dc h2;have h25:(2:Nat) ^ 5=32:=dc
 simp only[rs,show ai (((257+i:Nat):Int) < 257)=aq from anY om,show ai ((285:Int) < ((257+i:Nat):Int))=aq from anY om,show ai ((m:Int) < 0)=aq from anY om];refine aH ho (Ek i w hi) ?_;rintro _ w1 rfl ho;refine aC (aO krx arW) |>.mpr ?_;rw[GX om,wC om,shl1 om];simp only[rs,show ai (((2 ^ cy i:Nat):Int)<=(m:Int))=aq from anY om];by_cases h28:i=28
 ·have:m=0:=by rw[h28] at hm;simp[cy] at hm;exact hm
  subst this;simp only[show ai (((257+i:Nat):Int)=285)=au from anZ om,i_t];exact hK _ _ ⟨by rw[h28];rfl,ho.done⟩
 simp only[show ai (((257+i:Nat):Int)=285)=aq from anY om,i_f];have hsf:gl i=dz 4 3 i:=by unfold gl;rw[anW h28]
 refine loop (λvs W=>∃j:Nat,vs=[.int .i64 (dz 4 3 j:Int),.int .i64 ((257+j:Nat):Int)]∧j<=i∧OwnS NoB w W []) (λvs _=>257+i - n1 vs) ⟨0,rfl,om,ho⟩ ?_;clear ho;rintro vs w2 ⟨j,rfl,hj,ho⟩ _;simp only[nG,gd,rs,nz];by_cases hlt:((257+j:Nat):Int) < ((257+i:Nat):Int)
 ·simp only[hlt,aoA,i_t];refine aH ho (Ek j w2 om) ?_;rintro _ w3 rfl ho;have hjb:cy j=j / 4 - 1:=by unfold cy;rw[anW om]
  have hs2:=(mg (i:=j) om).2;have hs1:dz 4 3 j<=1000:=by
   have:=(mg (i:=j) om).1;unfold gl at this
   rwa [anW om] at this
  have hp6:2 ^ cy j<=2 ^ 5:=apJ dc hs2;refine aC (aO krx arW) |>.mpr ?_;rw[GX om,wC om,shl1 om];generalize hpw:2 ^ cy j=pw at hp6 ⊢
  try simp only[rs]
  rw[aA om om,aA om om];refine aQ ⟨j+1,?_,om,ho⟩ (by simp[n1,RowKit.intOf];omega);rw[dz,<-hjb,hpw]
  push_cast
  rfl
 ·simp only[hlt,aoB,i_f];have:j=i:=om
  subst this;rw[<-hsf,aA om om];refine hK _ _ ⟨?_,ho.done⟩
  push_cast
  rfl
theorem TJ (i m:Nat)(w:ak)(hi:i<=29)(hm:m < 2 ^ bu i):Ret ah 313 #[.int .i64 (i:Int),.int .i64 (m:Int)] w (λv w'=>v=.tuple #[.int .i64 ((dq i+m:Nat):Int),.int .i64 0]∧Below w.heap.size w w'):=by
 refine aK λK hK=>A6 ?_;unfold uL nz;have ho:OwnS NoB w w []:=Own.start w;obtain⟨h1,h2⟩:=mh hi;have hp5:2 ^ bu i<=2 ^ 13:=apJ dc h2;have h25:(2:Nat) ^ 13=8192:=dc
 simp only[rs,show ai (((i:Nat):Int) < 0)=aq from anY om,show ai ((29:Int) < ((i:Nat):Int))=aq from anY om,show ai ((m:Int) < 0)=aq from anY om];refine aH ho (BU i w om) ?_;rintro _ w1 rfl ho;refine aC (aO krx arW) |>.mpr ?_;rw[GX om,wC om,shl1 om];simp only[rs,show ai (((2 ^ bu i:Nat):Int)<=(m:Int))=aq from anY om];refine loop (λvs W=>∃j:Nat,vs=[.int .i64 (dz 2 1 j:Int),.int .i64 (j:Int)]∧j<=i∧OwnS NoB w W []) (λvs _=>i - n1 vs) ⟨0,rfl,om,ho⟩ ?_;clear ho;rintro vs w2 ⟨j,rfl,hj,ho⟩ _;simp only[pN,gd,rs,nz];by_cases hlt:(j:Int) < (i:Int)
 ·simp only[hlt,aoA,i_t];refine aH ho (BU j w2 om) ?_;rintro _ w3 rfl ho;have hs2:=(mh (i:=j) om).2;have hs1:dz 2 1 j<=100000:=(mh (i:=j) om).1;have hp6:2 ^ bu j<=2 ^ 13:=apJ dc hs2;refine aC (aO krx arW) |>.mpr ?_;rw[GX om,wC om,shl1 om];generalize hpw:2 ^ bu j=pw at hp6 ⊢
  try simp only[rs]
  rw[aA om om,aA om om];refine aQ ⟨j+1,?_,om,ho⟩ (by simp[n1,RowKit.intOf];omega);rw[dz,show j / 2 - 1=bu j from rfl,hpw]
  push_cast
  rfl
 ·simp only[hlt,aoB,i_f];have:j=i:=om
  subst this;have:dq j=dz 2 1 j:=rfl;rw[aA om om];refine hK _ _ ⟨?_,ho.done⟩;rw[this]
  push_cast
  rfl
theorem IN (h:i < 288):bm.take (i+1)=bm.take i++[if 256<=i∧i < 280 then 7 else if 144<=i∧i < 256 then 9 else 8]:=by
 have h1:(List.range 288).all (λi=>ai (bm.getD i 0=if 256<=i∧i < 280 then 7 else if 144<=i∧i < 256 then 9 else 8))=true:=by decide +kernel
 have h2:=aoU (aqU.1 h1 i (apZ.2 h));have h3:i < bm.length:=by rw[mi];exact h
 rw[Cx h3,<-h2,aoE,aoI h3];rfl
theorem T7 (M:Mem)(w:ak)(hM:M.has w):RetM ah 243 #[] M w (λv N=>∃a b,v=.tuple #[a,b]∧SlA N.A N.w a 1 bm.length (aM bm)∧SlA N.A N.w b 1 da.length (aM da)):=by
 refine aU hM λK hK=>xV ?_;unfold pC nz;have ho:OwnS M.A w w [.mem M]:=OwnS.memS hM;have ho:OwnS M.A w w [.urow 3 1 nilS 0 [],.mem M]:=OwnS.nilU (L:=[.mem M]) ho _ _;refine loop (λvs W=>∃(i:Nat) (ov:ao),vs=[ov,.int .i64 (i:Int)]∧i<=288∧OwnS M.A w W [.urow 3 1 ov (bm.take i).length (aM (bm.take i)),.mem M]) (λvs _=>288 - n1 vs) ⟨0,nilS,rfl,om,ho⟩ ?_;clear ho;rintro vs w1 ⟨i,ov,rfl,hi,ho⟩ _;simp only[lH,gd,rs,nz];by_cases hlt:(i:Int) < 288
 ·simp only[hlt,aoA,i_t];have hg:=IN (i:=i) om;have hln:(bm.take i).length<=288:=by rw[aoH];omega
  refine join λJ2 hJ2=>?_;have fin:∀n:Nat,bm.take (i+1)=bm.take i++[n]->fV ov (.int .i64 (i:Int)) (.int .i64 (n:Int)) w1 (It (λvs W=>∃(i:Nat) (ov:ao),vs=[ov,.int .i64 (i:Int)]∧i<=288∧OwnS M.A w W [.urow 3 1 ov (bm.take i).length (aM (bm.take i)),.mem M]) (λvs _=>288 - n1 vs) [ov,.int .i64 (i:Int)] w1) K:=by
   intro n hn;unfold fV nz;refine mY (n:Int) ho λb2 w4 ho=>?_;refine jD 1 ho rfl (ho.sl 0 rfl 1 1 1 rfl) iY om λv' w6 ho=>?_
   try simp only[rs]
   rw[aA om om];refine aQ ⟨i+1,v',rfl,om,?_⟩ (by simp[n1,RowKit.intOf];omega);rw[hn,gS,aoC];exact ho.tail
  have step:∀n:Nat,(bm.take (i+1)=bm.take i++[if 256<=i∧i < 280 then 7 else n])->J2 [.int .i64 (n:Int)] w1:=by
   intro n hn;refine hJ2 _ _ λ_=>?_;simp only[mK,gd,nz];refine join λJ3 hJ3=>?_
   try simp only[rs]
   by_cases h1:(256:Int)<=(i:Int)
   ·simp only[h1,aoA,rs];by_cases h2:(i:Int) < 280
    ·simp only[h2,aoA,rs];rw[anX om] at hn;exact hJ3 _ _ λ_=>fin 7 hn
    ·simp only[h2,aoB,rs];rw[anW om] at hn;exact hJ3 _ _ λ_=>fin n hn
   ·simp only[h1,aoB,rs];rw[anW om] at hn;exact hJ3 _ _ λ_=>fin n hn
  by_cases h1:(144:Int)<=(i:Int)
  ·simp only[h1,aoA,rs];by_cases h2:(i:Int) < 256
   ·simp only[h2,aoA,rs];exact step 9 (by rw[hg,anX (show 144<=i∧i < 256 by omega)])
   ·simp only[h2,aoB,rs];exact step 8 (by rw[hg,anW (show ¬(144<=i∧i < 256) by omega)])
  ·simp only[h1,aoB,rs];exact step 8 (by rw[hg,anW (show ¬(144<=i∧i < 256) by omega)])
 ·simp only[hlt,aoB,i_f];have:i=288:=om
  subst this;have e288:bm.take 288=bm:=apE (by rw[mi];omega);rw[e288] at ho;have ho:OwnS M.A w w1 [.urow 3 1 nilS 0 [],.urow 3 1 ov bm.length (aM bm),.mem M]:=OwnS.nilU ho _ _;refine loop (λvs W=>∃(i:Nat) (bv:ao),vs=[bv,.int .i64 (i:Int)]∧i<=32∧OwnS M.A w W [.urow 3 1 bv i (List.replicate i (.int .i64 5)),.urow 3 1 ov bm.length (aM bm),.mem M]) (λvs _=>32 - n1 vs) ⟨0,nilS,rfl,om,ho⟩ ?_;clear ho;rintro vs w2 ⟨i,bv,rfl,hi,ho⟩ _;simp only[lZ,gd,rs,nz];by_cases hlt:(i:Int) < 32
  ·simp only[hlt,aoA,i_t];refine mY 5 ho λb2 w4 ho=>?_;refine jD 1 ho rfl (ho.sl 0 rfl 1 1 1 rfl) iY om λv' w6 ho=>?_
   try simp only[rs]
   rw[aA om om];refine aQ ⟨i+1,v',rfl,om,?_⟩ (by simp[n1,RowKit.intOf];omega);rw[auL];exact ho.tail
  ·simp only[hlt,aoB,i_f];have:i=32:=om
   subst this;obtain⟨N1,g1,h1,ho⟩:=OwnS.cI (L:=[.urow 3 1 ov bm.length (aM bm),.mem M]) ho 1 rfl;obtain⟨N2,g2,h2,ho⟩:=OwnS.cI (L:=[.mem N1]) ho 0 rfl;refine hK _ _ N2 _ 0 ho rfl (g1.trans g2) ⟨_,_,rfl,h2,?_⟩;have h1:=h1.le g2;rw[show da.length=32 from rfl,show aM da=List.replicate 32 (.int .i64 5) from F5 32 5];exact h1
section
variable {w:ak}{PK:PKT}{K:VWP}{S:Nat->Prop}{w0:ak}{L:List Ent}
def r11T (v:ao)(p:Nat)(e:Int):Value:=.tuple #[v,.int .i64 (p:Int),.int .i64 e]
theorem Ik :DoX ah (mExt (r11T v p e) 0) w PK K=K v w:=gY rfl
theorem Ie :DoX ah (mExt (r11T v p e) 1) w PK K=K (.int .i64 (p:Int)) w:=gY rfl
theorem Iw :DoX ah (mExt (r11T v p e) 2) w PK K=K (.int .i64 e) w:=gY rfl
theorem nmT0 {x:Nat×Nat×Int}:DoX ah (mExt (nmT x) 0) w PK K=K (.int .i64 (x.1:Int)) w:=gY rfl
theorem nmT1 {x:Nat×Nat×Int}:DoX ah (mExt (nmT x) 1) w PK K=K (.int .i64 (x.2.1:Int)) w:=gY rfl
theorem nmT2 {x:Nat×Nat×Int}:DoX ah (mExt (nmT x) 2) w PK K=K (.int .i64 x.2.2) w:=gY rfl
theorem AO {s:List UInt8}{n:Nat}(ho:OwnS S w0 w L)(hp:p<=8*s.length)(hn:n<=32)(hs:s.length<=1000000000)
  (k1:p+n<=8*s.length->∀W,OwnS S w0 W L->K (nmT (Fl.num s p n,p+n,0)) W) (k2:8*s.length < p+n->∀W,OwnS S w0 W L->K (nmT (0,0,4)) W):CallX ah 194 #[.string ⟨s.toArray⟩,.int .i64 (p:Int),.int .i64 (n:Int)] w PK K:=by
 refine aH ho (Ng s p n w hp hn hs) ?_;rintro _ w1 rfl ho;unfold Fl.numE;split
 ·rename_i h;exact k1 h w1 ho
 ·rename_i h;exact k2 om w1 ho
theorem UG {ov:ao}{s:List UInt8}{out:List UInt8}(ho:OwnS S w0 w (outR ov out::R))(hp:p<=8*s.length)(hs:s.length<=1000000000)(hmo:most<=1000000000)(hol:out.length<=most)
  (k1:(cm s most p out).2.2=0->(cm s most p out).2.1<=8*s.length->(cm s most p out).1.length<=most->∀ov' W,OwnS S w0 W (outR ov' (cm s most p out).1::R)->K (r11T ov' (cm s most p out).2.1 0) W)
  (k2:(cm s most p out).2.2≠0->∀W,OwnS S w0 W R->K (r11T nilS 0 (cm s most p out).2.2) W) :
  CallX ah 242 #[.string ⟨s.toArray⟩,.int .i64 (p:Int),ov,.int .i64 (most:Int)] w PK K:=by
 generalize hX:cm s most p out=X at k1 k2;refine eW (vS (k0:=RetK λv W=>(X.2.2=0∧X.2.1<=8*s.length∧X.1.length<=most∧∃ov',v=r11T ov' X.2.1 0∧OwnS S w0 W (outR ov' X.1::R))∨(X.2.2≠0∧v=r11T nilS 0 X.2.2∧OwnS S w0 W R)) ?_) (λe W ⟨v,he,hv⟩=>by
  subst he;rcases hv with ⟨h1,h2,h3,ov',rfl,ho⟩|⟨h1,rfl,ho⟩
  ·exact k1 h1 h2 h3 ov' W ho
  ·exact k2 h1 W ho)
 clear k1 k2;unfold cm at hX;dsimp only at hX;unfold nX nz
 try simp only[rs]
 rw[aA om om,Ao dc,show (p:Int)+7=((p+7:Nat):Int) by omega,show ((p+7:Nat):Int).tdiv 8=(((p+7) / 8:Nat):Int) from rfl,aA om om]
 try simp only[rs]
 rw[aA om om,show (((p+7) / 8:Nat):Int)*8=(((p+7) / 8*8:Nat):Int) by push_cast;rfl];have ha8:(p+7) / 8*8 % 8=0:=om
 have hal:(p+7) / 8*8<=8*s.length:=om
 generalize (p+7) / 8*8=a at hX ha8 hal;refine AO (n:=16) ho hal om hs (λh1 W1 ho=>?_) (λh1 W1 ho=>?_)
 rotate_left
 ·rw[anX h1] at hX;subst hX;simp only[nmT0,nmT1,nmT2,bQ,show ai ((4:Int)≠0)=au from rfl,i_t];exact retK (.inr ⟨by (first|decide|(dsimp only;decide)),rfl,ho.tail⟩)
 rw[anW om] at hX;simp only[nmT0,nmT1,nmT2,bQ,show ai ((0:Int)≠0)=aq from rfl,i_f];refine AO (p:=a+16) (n:=16) ho h1 om hs (λh2 W2 ho=>?_) (λh2 W2 ho=>?_)
 rotate_left
 ·rw[anX om] at hX;subst hX;simp only[nmT0,nmT1,nmT2,bQ,show ai ((4:Int)≠0)=au from rfl,i_t];exact retK (.inr ⟨by (first|decide|(dsimp only;decide)),rfl,ho.tail⟩)
 rw[anW om] at hX;simp only[nmT0,nmT1,nmT2,bQ,show ai ((0:Int)≠0)=aq from rfl,i_f];have hn1:=Fl.iQ s a 16;have hn2:=Fl.iQ s (a+16) 16;have h16:(2:Nat) ^ 16=65536:=dc
 try simp only[rs]
 rw[aA om om];generalize Fl.num s a 16=n at hX hn1;generalize Fl.num s (a+16) 16=m at hX hn2;by_cases h3:n+m=65535
 case neg=>
  rw[anX h3] at hX;simp only[show ai ((m:Int)≠65535 - (n:Int))=au from anZ om,i_t];subst hX;exact retK (.inr ⟨by (first|decide|(dsimp only;decide)),rfl,ho.tail⟩)
 rw[anW om] at hX;simp only[show ai ((m:Int)≠65535 - (n:Int))=aq from anY om,i_f];rw[bB aoK (cS (ho.at_ 0 rfl))]
 try simp only[rs]
 rw[aA om om];by_cases h4:most < out.length+n
 ·rw[anX h4] at hX;simp only[show ai ((most:Int) - (out.length:Int) < (n:Int))=au from anZ om,i_t];subst hX;exact retK (.inr ⟨by (first|decide|(dsimp only;decide)),rfl,ho.tail⟩)
 rw[anW h4] at hX;simp only[show ai ((most:Int) - (out.length:Int) < (n:Int))=aq from anY om,i_f];rw[cL aoD,Ao dc,show ((a+16+16:Nat):Int).tdiv 8=(((a+16+16) / 8:Nat):Int) from rfl,aA om om]
 try simp only[rs]
 rw[aA om om];by_cases h5:8*s.length < a+32+8*n
 ·rw[anX h5] at hX;simp only[show ai ((s.length:Int) - (((a+16+16) / 8:Nat):Int) < (n:Int))=au from anZ om,i_t];subst hX;exact retK (.inr ⟨by (first|decide|(dsimp only;decide)),rfl,ho.tail⟩)
 rw[anW h5] at hX;simp only[show ai ((s.length:Int) - (((a+16+16) / 8:Nat):Int) < (n:Int))=aq from anY om,i_f];rw[Ao dc,Ao dc,show ((a+16+16:Nat):Int).tdiv 8=(((a+16+16) / 8:Nat):Int) from rfl,aA om om]
 try simp only[rs]
 rw[aA om om,My aoD om om om];rw[show ((((a+16+16) / 8:Nat):Int)+(n:Int)).toNat - (((a+16+16) / 8:Nat):Int).toNat=n by omega,aoF];have hln:((s.drop ((a+16+16) / 8)).take n).length=n:=by rw[aoH,aoJ];omega
 refine CD 0 aoK aoD elU8 aoP z8U ho rfl (by rw[hln];omega) λv' w9 ho=>?_
 try simp only[rs]
 rw[aA (n:=8*(n:Int)) om om,aA om om];rw[show (a+16+16) / 8=a / 8+4 by omega] at ho hln;have ho:OwnS S w0 w9 (outR v' (out++(s.drop (a / 8+4)).take n)::R):=by
  rw[cQ];exact ho
 subst hX;refine retK (.inl ⟨rfl,by dsimp only;omega,by dsimp only;rw[aoC,hln];omega,v',?_,ho⟩);unfold r11T
 congr 4
 all_goals first|rfl|(push_cast;omega)
theorem WE {ov vf:ao}{s:List UInt8}{out:List UInt8}{far:List Nat}(jm:Nat)(ho:OwnS S w0 w (outR ov out::R))(hm:R[jm]?=aw (.mem M))(hf:SlA M.A M.w vf 1 far.length (aM far))(h15:∀l∈far,l<=15)(hl:far.length<=1000)(hp:p<=8*s.length)(hs:s.length<=1000000000)(hmo:most<=1000000000)(hol:out.length<=most)(hi:i<=1000)
  (k1:(bw far s p (257+i) out most).2.2=0->(bw far s p (257+i) out most).2.1<=8*s.length->(bw far s p (257+i) out most).1.length<=most->∀ov' W,OwnS S w0 W (outR ov' (bw far s p (257+i) out most).1::R)->K (r11T ov' (bw far s p (257+i) out most).2.1 0) W)
  (k2:(bw far s p (257+i) out most).2.2≠0->∀W,OwnS S w0 W R->K (r11T nilS 0 (bw far s p (257+i) out most).2.2) W) :
  CallX ah 280 #[.string ⟨s.toArray⟩,.int .i64 (p:Int),.int .i64 ((257+i:Nat):Int),vf,ov,.int .i64 (most:Int)] w PK K:=by
 generalize hX:bw far s p (257+i) out most=X at k1 k2;refine eW (vL (k0:=RetK λv W=>(X.2.2=0∧X.2.1<=8*s.length∧X.1.length<=most∧∃ov',v=r11T ov' X.2.1 0∧OwnS S w0 W (outR ov' X.1::R))∨(X.2.2≠0∧v=r11T nilS 0 X.2.2∧OwnS S w0 W R)) ?_) (λe W ⟨v,he,hv⟩=>by
  subst he;rcases hv with ⟨h1,h2,h3,ov',rfl,ho⟩|⟨h1,rfl,ho⟩
  ·exact k1 h1 h2 h3 ov' W ho
  ·exact k2 h1 W ho)
 clear k1 k2;unfold bw at hX;unfold oB nz
 try simp only[rs]
 by_cases h1:285 < 257+i
 ·rw[anX h1] at hX;simp only[show ai ((285:Int) < ((257+i:Nat):Int))=au from anZ om,i_t];subst hX;exact retK (.inr ⟨by (first|decide|(dsimp only;decide)),rfl,ho.tail⟩)
 simp only[show ai ((285:Int) < ((257+i:Nat):Int))=aq from anY om,i_f];have hi28:i<=28:=om
 rw[anW h1,asZ] at hX;obtain⟨hz1,hz2⟩:=mg hi28;refine aH ho (Ek i w hi28) ?_;rintro _ w1 rfl ho;refine AO ho hp om hs (λh2 W ho=>?_) (λh2 W ho=>?_)
 rotate_left
 ·rw[anX h2] at hX;subst hX;simp only[nmT0,nmT1,nmT2,bQ,show ai ((4:Int)≠0)=au from rfl,i_t];exact retK (.inr ⟨by (first|decide|(dsimp only;decide)),rfl,ho.tail⟩)
 rw[anW om] at hX;dsimp only at hX;simp only[nmT0,nmT1,nmT2,bQ,show ai ((0:Int)≠0)=aq from rfl,i_f];have hnl:=Fl.iQ s p (cy i);refine aH ho (PD i _ W hi28 hnl) ?_;rintro _ w2 rfl ho;simp only[ex];have hsz:gl i+Fl.num s p (cy i)<=100000:=by
  have:2 ^ cy i<=2 ^ 5:=apJ dc hz2;omega
 generalize gl i+Fl.num s p (cy i)=sz at hX hsz;refine aH ho (Xj (Ja far vf s (p+cy i) M w2 h15 hl h2 hs (ho.hasM (jm+1) hm) hf)) ?_;rintro _ w3 ⟨a,b,rfl,hb8,hab⟩ ho;generalize cj far s (p+cy i)=T at hX hab;obtain⟨fi,q,e⟩:=T;dsimp only at hX hab;simp only[nmT0,nmT1,nmT2,bQ];by_cases h3:e=0
 case neg=>
  rw[anX h3] at hX;subst hX;simp only[anZ (show e≠0 from h3),i_t];exact retK (.inr ⟨h3,rfl,ho.tail⟩)
 obtain⟨rfl,rfl⟩:=hab h3;rw[anW (by rw[h3];decide)] at hX;simp only[anY (show ¬e≠0 by rw[h3];decide),i_f,rs];by_cases h4:29 < a
 ·rw[anX h4] at hX;simp only[show ai ((29:Int) < (a:Int))=au from anZ om,i_t];subst hX;exact retK (.inr ⟨by (first|decide|(dsimp only;decide)),rfl,ho.tail⟩)
 rw[anW h4] at hX;simp only[show ai ((29:Int) < (a:Int))=aq from anY om,i_f];have hf29:a<=29:=om
 obtain⟨hf1,hf2⟩:=mh hf29;refine aH ho (BU a w3 om) ?_;rintro _ w4 rfl ho;refine AO ho hb8 om hs (λh5 W ho=>?_) (λh5 W ho=>?_)
 rotate_left
 ·rw[anX h5] at hX;subst hX;simp only[nmT0,nmT1,nmT2,bQ,show ai ((4:Int)≠0)=au from rfl,i_t];exact retK (.inr ⟨by (first|decide|(dsimp only;decide)),rfl,ho.tail⟩)
 rw[anW om] at hX;simp only[nmT0,nmT1,nmT2,bQ,show ai ((0:Int)≠0)=aq from rfl,i_f];have hnl:=Fl.iQ s b (bu a);refine aH ho (TJ a _ W hf29 hnl) ?_;rintro _ w6 rfl ho;simp only[ex];have hfp:=tj a;have hd1:1<=dq a+Fl.num s b (bu a):=om
 have hd2:dq a+Fl.num s b (bu a)<=1000000:=by
  have:2 ^ bu a<=2 ^ 13:=apJ dc hf2;omega
 generalize dq a+Fl.num s b (bu a)=d at hX hd1 hd2;rw[bB aoK (cS (ho.at_ 0 rfl))]
 try simp only[rs]
 by_cases h6:out.length < d
 ·rw[anX h6] at hX;simp only[show ai ((out.length:Int) < (d:Int))=au from anZ om,i_t];subst hX;exact retK (.inr ⟨by (first|decide|(dsimp only;decide)),rfl,ho.tail⟩)
 rw[anW h6] at hX;simp only[show ai ((out.length:Int) < (d:Int))=aq from anY om,i_f];rw[bB aoK (cS (ho.at_ 0 rfl))]
 try simp only[rs]
 rw[aA om om];by_cases h7:most < out.length+sz
 ·rw[anX h7] at hX;simp only[show ai ((most:Int) - (out.length:Int) < (sz:Int))=au from anZ om,i_t];subst hX;exact retK (.inr ⟨by (first|decide|(dsimp only;decide)),rfl,ho.tail⟩)
 rw[anW h7] at hX;simp only[show ai ((most:Int) - (out.length:Int) < (sz:Int))=aq from anY om,i_f];have hbl:=qo d sz out;generalize hB:gi d sz out=B at hX hbl;refine loop (λvs W=>∃(k:Nat) (ov:ao) (out:List UInt8),vs=[ov,.int .i64 (k:Int)]∧k<=sz∧d<=out.length∧out.length+(sz - k)=B.length∧gi d (sz - k) out=B∧OwnS S w0 W (outR ov out::R)) (λvs _=>sz - n1 vs) ⟨0,ov,out,rfl,om,om,om,by rw[atX];exact hB,ho⟩ ?_;clear ho hB;rintro vs w7 ⟨k,ov,out,rfl,hk,hdo,hln,hB,ho⟩ _;simp only[kM,gd,rs,nz];by_cases hlt:(k:Int) < (sz:Int)
 ·simp only[hlt,aoA,i_t];obtain⟨m,hm2⟩:∃m,sz - k=m+1:=⟨sz - k - 1,om⟩;rw[hm2,gi] at hB;rw[bB aoK (cS (ho.at_ 0 rfl))]
  try simp only[rs]
  rw[aA om om,show (out.length:Int) - (d:Int)=((out.length - d:Nat):Int) by omega];have hid:out.length - d < out.length:=om
  obtain⟨b2,off,r1,r2⟩:=II (cS (ho.at_ 0 rfl)) hid;refine aC (r1 w7) |>.mpr (aC (aB nU8l r2) |>.mpr ?_);have hgd:out.getD (out.length - d) 0=out[out.length - d]:=by rw[aoE,aoI hid];rfl
  rw[<-hgd];refine Dc _ ho λb8 w8 ho=>?_;refine aX 1 aoK elU8 dc ho rfl (eG (ho.at_ 0 rfl) dc rfl) aW om om λv' w9 ho=>?_
  try simp only[rs]
  rw[aA om om];refine aQ ⟨k+1,v',out++[out.getD (out.length - d) 0],rfl,om,by rw[aoC];omega,by rw[aoC,apL];omega,by rw[show sz - (k+1)=m by omega];exact hB,?_⟩ (by simp[n1,RowKit.intOf];omega);rw[cQ];exact ho.tail
 ·simp only[hlt,aoB,i_f];have:k=sz:=om
  subst this;rw[aqK] at hB hln;have hB:out=B:=hB;subst hB;subst hX;exact retK (.inl ⟨rfl,by dsimp only;omega,by dsimp only;omega,ov,rfl,ho⟩)
end
end
section
open Eng Go.RowKit
def cu (s:List UInt8)(p:Nat):List Nat×List Nat×Nat×Int:=
 if 8*s.length < p+5 then ([],[],0,4)
 else if 29 < Fl.num s p 5 then ([],[],0,3)
 else if 8*s.length < p+10 then ([],[],0,4)
 else if 29 < Fl.num s (p+5) 5 then ([],[],0,3)
 else if 8*s.length < p+14 then ([],[],0,4)
 else if 8*s.length < p+14+3*(Fl.num s (p+10) 4+4) then ([],[],0,4)
 else
  let cl:=ev s (p+14) (Fl.num s (p+10) 4+4)
  if az cl≠0 then ([],[],0,az cl)
  else
   let r:=Fl.lens cl s (Fl.num s p 5+257+(Fl.num s (p+5) 5+1)) (p+14+3*(Fl.num s (p+10) 4+4))
   if r.2.2≠0 then ([],[],0,r.2.2)
   else (r.1.take (Fl.num s p 5+257),r.1.drop (Fl.num s p 5+257),r.2.1,0)
theorem IS (s:List UInt8)(most p:Nat)(out:List UInt8):gj s most p out =
  if (cu s p).2.2.2≠0 then (out,p,(cu s p).2.2.2)
  else if (cu s p).1.getD 256 0=0 then (out,p,13)
  else if az (cu s p).1≠0 then (out,p,az (cu s p).1)
  else if az (cu s p).2.1≠0 then (out,p,az (cu s p).2.1)
  else ec (cu s p).1 (cu s p).2.1 s most (cu s p).2.2.1 out:=by
 unfold gj cu;by_cases h1:8*s.length < p+5
 ·simp only[anX h1];rfl
 simp only[anW h1];by_cases h2:29 < Fl.num s p 5
 ·simp only[anX h2];rfl
 simp only[anW h2];by_cases h3:8*s.length < p+10
 ·simp only[anX h3];rfl
 simp only[anW h3];by_cases h4:29 < Fl.num s (p+5) 5
 ·simp only[anX h4];rfl
 simp only[anW h4];by_cases h5:8*s.length < p+14
 ·simp only[anX h5];rfl
 simp only[anW h5];by_cases h6:8*s.length < p+14+3*(Fl.num s (p+10) 4+4)
 ·simp only[anX h6];rfl
 simp only[anW h6];generalize p+14+3*(Fl.num s (p+10) 4+4)=q;generalize ev s (p+14) (Fl.num s (p+10) 4+4)=cl;generalize Fl.num s (p+5) 5+1=hd;have e:∀(l:List Nat) (n:Nat),(l.take (n+257)).getD 256 0=l.getD 256 0:=λl n=>by
  rw[aoE,auV om,aoE]
 have e:=λl=>e l (Fl.num s p 5);generalize Fl.num s p 5+257=hl at e ⊢;generalize Fl.lens cl s (hl+hd) q=r;obtain⟨l,q2,er⟩:=r;dsimp only;by_cases h7:az cl≠0
 ·rw[anX h7,anX h7,anX h7]
 rw[anW h7,anW h7];by_cases h8:er≠0
 ·rw[anX h8,anX h8,anX h8]
 rw[anW h8,anW h8];dsimp only;rw[anW (show ¬((0:Int)≠0) by decide),e]
theorem Tf (cl:List Nat)(v:ao)(s:List UInt8)(p n:Nat)(M:Mem)(w:ak)(hcl:cl.length=19)(h15:∀l∈cl,l<=15)(hp:p<=8*s.length)(hsl:s.length<=1000000000)(hn:n<=1000)(hM:M.has w)(hs:SlA M.A M.w v 1 cl.length (aM cl)) :
  RetM ah 277 #[.string ⟨s.toArray⟩,.int .i64 (p:Int),v,.int .i64 (n:Int)] M w (λr N=>((Fl.lens cl s n p).2.2≠0∧r=r11T nilS 0 (Fl.lens cl s n p).2.2)∨((Fl.lens cl s n p).2.2=0∧(Fl.lens cl s n p).2.1<=8*s.length∧(Fl.lens cl s n p).1.length=n∧(∀x∈(Fl.lens cl s n p).1,x<=15)∧∃lv,r=r11T lv (Fl.lens cl s n p).2.1 0∧SlA N.A N.w lv 1 (Fl.lens cl s n p).1.length (aM (Fl.lens cl s n p).1))):=by
 refine aU hM λK hK=>AL ?_;generalize hX:Fl.lens cl s n p=X at hK;unfold Fl.lens at hX;unfold tO nz;have ho:OwnS M.A w w [.mem M]:=OwnS.memS hM;have ho:OwnS M.A w w [.urow 3 1 nilS 0 [],.mem M]:=OwnS.nilU (L:=[.mem M]) ho _ _;refine loop (λvs W=>∃(p:Nat) (l:List Nat) (lv:ao),vs=[.int .i64 (p:Int),lv]∧p<=8*s.length∧l.length<=n∧(∀x∈l,x<=15)∧(∃f,n+1 - l.length<=f∧iq cl s n f p l=X)∧OwnS M.A w W [.urow 3 1 lv l.length (aM l),.mem M]) (λvs _=>n - lenV (vs.getD 1 undef)) ⟨p,[],nilS,rfl,hp,aoO _,(λx hx=>by cases hx),⟨_,aoG _,hX⟩,ho⟩ ?_;clear ho hX hp;rintro vs w1 ⟨p,l,lv,rfl,hp,hln,hl15,⟨f,hf,hX⟩,ho⟩ _;have hlv:lenV lv=l.length:=GF (ho.slU 0 rfl);simp only[pH,gd,nz];obtain⟨f,rfl⟩:∃f',f=f'+1:=⟨f - 1,om⟩;rw[iq] at hX;dsimp only at hX;rw[bB aoQ (ho.slU 0 rfl)]
 try simp only[rs]
 by_cases hlt:(l.length:Int) < (n:Int)
 case neg=>
  simp only[hlt,aoB,i_f];rw[anX om] at hX;subst hX;obtain⟨N1,g1,h1,ho⟩:=OwnS.cI (L:=[.mem M]) ho 0 rfl;exact hK _ _ N1 _ 0 ho rfl g1 (.inr ⟨rfl,hp,by dsimp only;omega,hl15,lv,rfl,h1⟩)
 simp only[hlt,aoA,i_t];rw[anW om] at hX;refine aH ho (Xj (Ja cl v s p M w1 h15 om hp hsl (ho.hasM 1 rfl) hs)) ?_;rintro _ w3 ⟨g,q,rfl,hq8,hab⟩ ho;have hg19:(cj cl s p).1 < cl.length:=nt s om 16 0 p 0;rw[hcl] at hg19;generalize cj cl s p=T at hX hab hg19;obtain⟨g',q',e⟩:=T;dsimp only at hX hab hg19;simp only[nmT0,nmT1,nmT2,bQ];by_cases h3:e=0
 case neg=>
  rw[anX h3] at hX;subst hX;simp only[anZ (show e≠0 from h3),i_t];exact hK _ _ M _ 1 ho rfl M.le_refl (.inl ⟨h3,rfl⟩)
 obtain⟨rfl,rfl⟩:=hab h3;rw[anW (by rw[h3];decide)] at hX;simp only[anY (show ¬e≠0 by rw[h3];decide),i_f,rs];by_cases h16:g < 16
 ·rw[anX h16] at hX;simp only[show ai ((g:Int) < 16)=au from anZ om,i_t];refine mY (g:Int) ho λb2 w6 ho=>?_;refine jD 1 ho rfl (ho.sl 0 rfl 1 1 1 rfl) iY om λv' w7 ho=>?_;have hlv2:lenV v'=l.length+1:=GF (ho.slU 1 rfl);refine aQ ⟨q,l++[g],v',rfl,hq8,by rw[aoC,apL];omega,?_,⟨f,by rw[aoC,apL];omega,hX⟩,?_⟩ (by show n - lenV v' < n - lenV lv;omega)
  ·intro x hx;rcases apF.1 hx with hx|hx
   ·exact hl15 x hx
   ·rw[aoZ.1 hx];omega
  ·rw[gS,aoC];exact ho.tail
 rw[anW h16] at hX;simp only[show ai ((g:Int) < 16)=aq from anY om,i_f,rs];have hB:=uh g;have hL:=ui g;have rest:∀(ag:Nat),(ag=if g=16 then l.getD (l.length - 1) 0 else 0)->ag<=15->¬(g=16∧l.length=0)->iI (.string ⟨s.toArray⟩) (.int .i64 (n:Int)) lv (.int .i64 (g:Int)) (.int .i64 (q:Int)) (.int .i64 2) (.int .i64 3) (.int .i64 (ag:Int)) w3 (It (λvs W=>∃(p:Nat) (l:List Nat) (lv:ao),vs=[.int .i64 (p:Int),lv]∧p<=8*s.length∧l.length<=n∧(∀x∈l,x<=15)∧(∃f,n+1 - l.length<=f∧iq cl s n f p l=X)∧OwnS M.A w W [.urow 3 1 lv l.length (aM l),.mem M]) (λvs _=>n - lenV (vs.getD 1 undef)) [.int .i64 (p:Int),lv] w1) K:=by
  intro ag hag hag15 hne;rw[anW hne,<-hag] at hX;have more:iM (.string ⟨s.toArray⟩) (.int .i64 (n:Int)) lv (.int .i64 (q:Int)) (.int .i64 (bp g:Int)) (.int .i64 (cr g:Int)) (.int .i64 (ag:Int)) w3 (It (λvs W=>∃(p:Nat) (l:List Nat) (lv:ao),vs=[.int .i64 (p:Int),lv]∧p<=8*s.length∧l.length<=n∧(∀x∈l,x<=15)∧(∃f,n+1 - l.length<=f∧iq cl s n f p l=X)∧OwnS M.A w W [.urow 3 1 lv l.length (aM l),.mem M]) (λvs _=>n - lenV (vs.getD 1 undef)) [.int .i64 (p:Int),lv] w1) K:=by
   unfold iM nz;refine AO ho hq8 om hsl (λh5 W5 ho=>?_) (λh5 W5 ho=>?_)
   rotate_left
   ·rw[anX h5] at hX;subst hX;simp only[nmT0,nmT1,nmT2,bQ,show ai ((4:Int)≠0)=au from rfl,i_t];exact hK _ _ M _ 1 ho rfl M.le_refl (.inl ⟨by (first|decide|(dsimp only;decide)),rfl⟩)
   rw[anW om] at hX;simp only[nmT0,nmT1,nmT2,bQ,show ai ((0:Int)≠0)=aq from rfl,i_f];have hnl:=Fl.iQ s q (bp g);have h27:2 ^ bp g<=2 ^ 7:=apJ dc hB;have h27':(2:Nat) ^ 7=128:=dc
   try simp only[rs]
   rw[aA om om,bB aoQ (ho.slU 0 rfl)]
   try simp only[rs]
   rw[aA om om];by_cases h6:n < l.length+(cr g+Fl.num s q (bp g))
   ·rw[anX h6] at hX;simp only[show ai ((n:Int) - (l.length:Int) < (cr g:Int)+(Fl.num s q (bp g):Int))=au from anZ om,i_t];subst hX;exact hK _ _ M _ 1 ho rfl M.le_refl (.inl ⟨by (first|decide|(dsimp only;decide)),rfl⟩)
   rw[anW h6] at hX;simp only[show ai ((n:Int) - (l.length:Int) < (cr g:Int)+(Fl.num s q (bp g):Int))=aq from anY om,i_f];refine loop (λvs W=>∃(i:Nat) (lv':ao),vs=[lv',.int .i64 (i:Int)]∧i<=cr g+Fl.num s q (bp g)∧OwnS M.A w W [.urow 3 1 lv' (l.length+i) (aM (l++List.replicate i ag)),.mem M]) (λvs _=>cr g+Fl.num s q (bp g) - n1 vs) ⟨0,lv,rfl,om,by rw[List.replicate_zero,aoV];exact ho⟩ ?_;clear ho;rintro vs w6 ⟨i,lv',rfl,hi,ho⟩ _;simp only[qF,gd,rs,nz];rw[aA om om];by_cases hlt2:(i:Int) < (cr g:Int)+(Fl.num s q (bp g):Int)
   ·simp only[hlt2,aoA,i_t];refine mY (ag:Int) ho λb2 w7 ho=>?_;refine jD 1 ho rfl (ho.sl 0 rfl 1 1 1 rfl) iY om λv' w8 ho=>?_
    try simp only[rs]
    rw[aA om om];refine aQ ⟨i+1,v',rfl,om,?_⟩ (by simp[n1,RowKit.intOf];omega);rw[auL,<-aoL,gS];exact ho.tail
   ·simp only[hlt2,aoB,i_f];have:i=cr g+Fl.num s q (bp g):=om
    subst this;have hlv2:=GF (ho.slU 0 rfl);refine aQ ⟨q+bp g,l++List.replicate _ ag,lv',rfl,h5,by rw[aoC,apC];omega,?_,⟨f,by rw[aoC,apC];omega,hX⟩,?_⟩ (by show n - lenV lv' < n - lenV lv;omega)
    ·intro x hx;rcases apF.1 hx with hx|hx
     ·exact hl15 x hx
     ·rw[aqZ hx];exact hag15
    ·rw[aoC,apC];exact ho
  unfold iI nz;refine join λJ3 hJ3=>?_
  try simp only[rs]
  by_cases h17:g=17
  ·simp only[show ai ((g:Int)=17)=au from anZ om,i_t];refine hJ3 _ _ λ_=>?_;simp only[iK,gd,nz];refine join λJ4 hJ4=>?_;simp only[rs,show ai ((g:Int)=18)=aq from anY om,i_f];refine hJ4 _ _ λ_=>?_;subst h17;exact more
  simp only[show ai ((g:Int)=17)=aq from anY om,i_f];refine hJ3 _ _ λ_=>?_;simp only[iK,gd,nz];refine join λJ4 hJ4=>?_
  try simp only[rs]
  by_cases h18:g=18
  ·simp only[show ai ((g:Int)=18)=au from anZ om,i_t];refine hJ4 _ _ λ_=>?_;subst h18;exact more
  simp only[show ai ((g:Int)=18)=aq from anY om,i_f];refine hJ4 _ _ λ_=>?_;have:g=16:=om
  subst this;exact more
 by_cases hg:g=16
 case neg=>
  simp only[show ai ((g:Int)=16)=aq from anY om,rs];refine join λJ2 hJ2=>?_
  try simp only[rs,show ai ((g:Int)=16)=aq from anY om,i_f]
  exact hJ2 _ _ λ_=>rest 0 (by rw[anW hg]) om (λh=>hg h.1)
 simp only[show ai ((g:Int)=16)=au from anZ om,rs];rw[bB aoQ (ho.slU 0 rfl)]
 try simp only[rs]
 by_cases h0:l.length=0
 ·simp only[show ai ((l.length:Int)=0)=au from anZ om,rs];rw[anX ⟨hg,h0⟩] at hX;subst hX;exact hK _ _ M _ 1 ho rfl M.le_refl (.inl ⟨by (first|decide|(dsimp only;decide)),rfl⟩)
 simp only[show ai ((l.length:Int)=0)=aq from anY om,rs];refine join λJ2 hJ2=>?_
 try simp only[rs,show ai ((g:Int)=16)=au from anZ om,i_t]
 rw[bB aoQ (ho.slU 0 rfl)]
 try simp only[rs]
 rw[aA om om,show (l.length:Int) - 1=((l.length - 1:Nat):Int) by omega];have hil:l.length - 1 < l.length:=om
 obtain⟨b2,off,r1,r2⟩:=eX (ho.slU 0 rfl) hil;refine aC (r1 w3) |>.mpr (aC (aB bP r2) |>.mpr ?_);have hgd:l.getD (l.length - 1) 0=l[l.length - 1]:=by rw[aoE,aoI hil];rfl
 exact hJ2 _ _ λ_=>rest _ (by rw[anX hg,hgd]) (hl15 _ (aoR hil)) (λh=>by omega)
def r11L (a b:ao)(p:Nat)(e:Int):Value:=.tuple #[a,b,.int .i64 (p:Int),.int .i64 e]
theorem OY (s:List UInt8)(p:Nat)(M:Mem)(w:ak)(hp:p<=8*s.length)(hsl:s.length<=1000000000)(hM:M.has w) :
  RetM ah 244 #[.string ⟨s.toArray⟩,.int .i64 (p:Int)] M w (λr N=>((cu s p).2.2.2≠0∧r=r11L nilS nilS 0 (cu s p).2.2.2)∨((cu s p).2.2.2=0∧(cu s p).2.2.1<=8*s.length∧257<=(cu s p).1.length∧(cu s p).1.length<=1000∧(cu s p).2.1.length<=1000∧(∀x∈(cu s p).1,x<=15)∧(∀x∈(cu s p).2.1,x<=15)∧∃a b,r=r11L a b (cu s p).2.2.1 0∧SlA N.A N.w a 1 (cu s p).1.length (aM (cu s p).1)∧SlA N.A N.w b 1 (cu s p).2.1.length (aM (cu s p).2.1))):=by
 refine aU hM λK hK=>uP ?_;generalize hX:cu s p=X at hK;unfold cu at hX;dsimp only at hX;unfold lP nz;have ho:OwnS M.A w w [.mem M]:=OwnS.memS hM;have h5:(2:Nat) ^ 5=32:=dc
 have h4:(2:Nat) ^ 4=16:=dc
 have er:∀{W:ak} {L:List Ent} (e:Int) (i:Nat),OwnS M.A w W L->L[i]?=aw (.mem M)->X=([],[],0,e)->e≠0->K (.returned (.tuple #[nilS,nilS,.int .i64 0,.int .i64 e])) W:=by
  intro W L e i ho hi hx h0;exact hK _ _ M _ i ho hi M.le_refl (.inl ⟨by rw[hx];exact h0,by rw[hx];rfl⟩)
 refine AO (n:=5) ho hp om hsl (λe1 W1 ho=>?_) (λe1 W1 ho=>?_)
 rotate_left
 ·rw[anX e1] at hX;simp only[nmT0,nmT1,nmT2,bQ,show ai ((4:Int)≠0)=au from rfl,i_t];exact er 4 0 ho rfl hX.symm dc
 rw[anW om] at hX;simp only[nmT0,nmT1,nmT2,bQ,show ai ((0:Int)≠0)=aq from rfl,i_f];have n1':=Fl.iQ s p 5;generalize Fl.num s p 5=hl at hX n1'
 try simp only[rs]
 by_cases e2:29 < hl
 ·rw[anX e2] at hX;simp only[show ai ((29:Int) < (hl:Int))=au from anZ om,i_t];exact er 3 0 ho rfl hX.symm dc
 rw[anW e2] at hX;simp only[show ai ((29:Int) < (hl:Int))=aq from anY om,i_f];refine AO (p:=p+5) (n:=5) ho e1 om hsl (λe3 W2 ho=>?_) (λe3 W2 ho=>?_)
 rotate_left
 ·rw[anX om] at hX;simp only[nmT0,nmT1,nmT2,bQ,show ai ((4:Int)≠0)=au from rfl,i_t];exact er 4 0 ho rfl hX.symm dc
 rw[anW om] at hX;simp only[nmT0,nmT1,nmT2,bQ,show ai ((0:Int)≠0)=aq from rfl,i_f];have n2':=Fl.iQ s (p+5) 5;generalize Fl.num s (p+5) 5=hd at hX n2'
 try simp only[rs]
 by_cases e4:29 < hd
 ·rw[anX e4] at hX;simp only[show ai ((29:Int) < (hd:Int))=au from anZ om,i_t];exact er 3 0 ho rfl hX.symm dc
 rw[anW e4] at hX;simp only[show ai ((29:Int) < (hd:Int))=aq from anY om,i_f];refine AO (p:=p+5+5) (n:=4) ho e3 om hsl (λe5 W3 ho=>?_) (λe5 W3 ho=>?_)
 rotate_left
 ·rw[anX om] at hX;simp only[nmT0,nmT1,nmT2,bQ,show ai ((4:Int)≠0)=au from rfl,i_t];exact er 4 0 ho rfl hX.symm dc
 rw[anW om] at hX;simp only[nmT0,nmT1,nmT2,bQ,show ai ((0:Int)≠0)=aq from rfl,i_f];have n3':=Fl.iQ s (p+10) 4;rw[show Fl.num s (p+5+5) 4=Fl.num s (p+10) 4 from rfl,show p+5+5+4=p+14 from rfl];generalize Fl.num s (p+10) 4=hc at hX n3';refine bD (λb=>.slice (aw ⟨b,0,av⟩) 19 19) (aM bq) 3 (λ_=>by kernel_rfl) ho λob W4 ho=>?_;refine yK (n:=19) om ho λlb W5 ho=>?_;have hr0:List.replicate 19 (Value.int .i64 0)=aM (ev s (p+14) 0):=rfl;rw[hr0] at ho;refine loop (λvs W=>∃i:Nat,vs=[.int .i64 ((p+14+3*i:Nat):Int),.int .i64 (i:Int)]∧i<=hc+4∧p+14+3*i<=8*s.length∧OwnS M.A w W [.cells lb (aM (ev s (p+14) i)) 3,.cells ob (aM bq) 3,.mem M]) (λvs _=>hc+4 - n1 vs) ⟨0,rfl,om,om,ho⟩ ?_;clear ho;rintro vs w5 ⟨i,rfl,hi,hpi,ho⟩ _;simp only[jN,gd,rs,nz];rw[aA om om];by_cases hlt:(i:Int) < (hc:Int)+4
 ·simp only[hlt,aoA,i_t];have hi19:i < 19:=om
  refine AO (n:=3) ho hpi om hsl (λe6 W6 ho=>?_) (λe6 W6 ho=>?_)
  rotate_left
  ·rw[anX om] at hX;simp only[nmT0,nmT1,nmT2,bQ,show ai ((4:Int)≠0)=au from rfl,i_t];exact er 4 2 ho rfl hX.symm dc
  simp only[nmT0,nmT1,nmT2,bQ,show ai ((0:Int)≠0)=aq from rfl,i_f];have ho19:=um hi19;have hol:bq.length=19:=rfl;obtain⟨b2,off,r1,r2⟩:=eX (l:=bq) (v:=.slice (aw ⟨ob,0,av⟩) 19 19) (ho.sl 1 rfl 1 19 19 rfl) (i:=i) (by rw[hol];exact hi19);refine aC (r1 W6) |>.mpr (aC (aB bP r2) |>.mpr ?_);have hgd:bq[i]'(by rw[hol];exact hi19)=bq.getD i 0:=by rw[aoE,aoI (by rw[hol];exact hi19)];rfl
  rw[hgd];have hia:=dZ (P:=ah) (T:=123) (b:=lb) (off:=0) (cap:=19) (n:=19) (k:=.i64) (i:=((bq.getD i 0:Nat):Int)) (w:=W6) aoQ szI1 om om;rw[aoF,aoS,aoN] at hia;refine aC hia |>.mpr ?_;refine aN 0 ho rfl krx rfl (by rw[eE,ma];exact ho19) λw7 ho=>?_
  try simp only[rs]
  rw[aA om om];refine aQ ⟨i+1,rfl,om,om,?_⟩ (by simp[n1,RowKit.intOf];omega);rw[ev,O2];exact ho
 simp only[hlt,aoB,i_f];have hie:i=hc+4:=om
 subst hie;rw[anW om] at hX;have hcl:=ma s (p+14) (hc+4);have hc7:=qy s (p+14) (hc+4);generalize ev s (p+14) (hc+4)=cl at hX hcl hc7 ho;have his:=ho.at_ 0 rfl;obtain⟨N1,g1,hw1,hblk,ho⟩:=OwnS.freeze (L:=[.cells ob (aM bq) 3,.mem M]) ho 1 rfl;have ho:OwnS M.A w w5 [.cells ob (aM bq) 3,.mem N1]:=ho;have hsl19:SlA N1.A N1.w (.slice (aw ⟨lb,0,av⟩) 19 19) 1 cl.length (aM cl):=by
  rw[hw1,hcl];refine⟨Sl.cells his 1 19 19 (by rw[eE,hcl]),λq l c e _=>?_,λa l c e=>?_⟩
  ·injection e with e1 e2 e3
   cases e1;exact hblk lb rfl
  ·injection e with e1 e2 e3
   omega
 have c15:∀l∈cl,l<=15:=λl h=>by have:=hc7 l h;omega
 refine bI ho 1 rfl (BR cl _ N1 w5 c15 om (ho.hasM 1 rfl) hsl19) ?_;rintro _ N2 w6 g2 rfl ho;have g12:=g1.trans g2;simp only[bQ];by_cases hck:az cl=0
 case neg=>
  rw[anX hck] at hX;subst hX;simp only[anZ (show az cl≠0 from hck),i_t];exact hK _ _ N2 _ 1 ho rfl g12 (.inl ⟨hck,rfl⟩)
 rw[anW (by simp[hck])] at hX;simp only[anY (show ¬az cl≠0 by simp[hck]),i_f,rs];rw[aA (n:=(hl:Int)+257) om om,aA (n:=(hl:Int)+257+(hd:Int)) om om,aA om om,show (hl:Int)+257+(hd:Int)+1=((hl+257+(hd+1):Nat):Int) by omega];refine bI ho 1 rfl (Tf cl _ s (p+14+3*(hc+4)) (hl+257+(hd+1)) N2 w6 hcl c15 hpi hsl om (ho.hasM 1 rfl) (hsl19.le g2)) ?_;intro v N3 w7 g3 hv ho;have g13:=g12.trans g3;generalize Fl.lens cl s (hl+257+(hd+1)) (p+14+3*(hc+4))=r at hX hv;obtain⟨l,q,e⟩:=r;dsimp only at hX hv;rcases hv with ⟨e1,rfl⟩|⟨e1,e2,e3,e4,lv,rfl,hrow⟩
 ·rw[anX e1] at hX;subst hX;simp only[Ik,Ie,Iw,bQ,anZ e1,i_t];exact hK _ _ N3 _ 1 ho rfl g13 (.inl ⟨e1,rfl⟩)
 rw[anW (by rw[e1];decide)] at hX;simp only[Ik,Ie,Iw,bQ,show ai ((0:Int)≠0)=aq from rfl,i_f];obtain⟨la,lc,hlv,hcap⟩:=hrow.form;rw[hlv] at hrow ⊢;refine cR (λW=>OwnS M.A w W [.cells ob (aM bq) 3,.mem N3]) ho.drew ?_;refine iV ?_;rw[aA om om];refine q_do _ (λ_=>jB aoQ szI1 om om) (iV ?_);rw[aA om om];refine q_do _ (λ_=>dG aoQ szI1 om om) ?_;intro w8 ho;rw[show ((hl:Int)+257).toNat=hl+257 by omega];subst hX;refine hK _ _ N3 _ 1 ho rfl g13 (.inr ⟨rfl,e2,by dsimp only;rw[aoH];omega,by dsimp only;rw[aoH];omega,by dsimp only;rw[aoJ];omega,λx hx=>e4 x (aqV hx),λx hx=>e4 x (arZ hx),_,_,rfl,?_,?_⟩)
 ·have:=hrow.Rl (i:=hl+257) om om;dsimp only;rw[aoH,apI om];rw[aoS] at this;have e:aM (l.take (hl+257))=(aM l).take (hl+257):=by unfold aM;rw[atB]
  rw[e];exact this
 ·have:=hrow.Ud (i:=hl+257) om;dsimp only;rw[aoJ];rw[aoS] at this;have e:aM (l.drop (hl+257))=(aM l).drop (hl+257):=by unfold aM;rw[List.map_drop]
  rw[e];exact this
section
variable {w:ak}{PK:PKT}{K:VWP}{S:Nat->Prop}{w0:ak}{L:List Ent}
theorem afT {a b:ao}:DoX ah (mExt (r11L a b p e) 0) w PK K=K a w:=gY rfl
theorem ajE {a b:ao}:DoX ah (mExt (r11L a b p e) 1) w PK K=K b w:=gY rfl
theorem ajG {a b:ao}:DoX ah (mExt (r11L a b p e) 2) w PK K=K (.int .i64 (p:Int)) w:=gY rfl
theorem aeU {a b:ao}:DoX ah (mExt (r11L a b p e) 3) w PK K=K (.int .i64 e) w:=gY rfl
theorem Sf {ov vn vf:ao}{s:List UInt8}{out:List UInt8}{far:List Nat}(jm:Nat)(ho:OwnS S w0 w (outR ov out::R))(hm:R[jm]?=aw (.mem M))(hn:SlA M.A M.w vn 1 near.length (aM near))(hf:SlA M.A M.w vf 1 far.length (aM far))(hn15:∀l∈near,l<=15)(h15:∀l∈far,l<=15)(hln:near.length<=1000)(hl:far.length<=1000)(hp:p<=8*s.length)(hs:s.length<=1000000000)(hmo:most<=1000000000)(hol:out.length<=most)
  (k1:(ec near far s most p out).2.2=0->(ec near far s most p out).2.1<=8*s.length->(ec near far s most p out).1.length<=most->∀ov' W,OwnS S w0 W (outR ov' (ec near far s most p out).1::R)->K (r11T ov' (ec near far s most p out).2.1 0) W)
  (k2:(ec near far s most p out).2.2≠0->∀W,OwnS S w0 W R->K (r11T nilS 0 (ec near far s most p out).2.2) W) :
  CallX ah 246 #[.string ⟨s.toArray⟩,.int .i64 (p:Int),vn,vf,ov,.int .i64 (most:Int)] w PK K:=by
 generalize hX:ec near far s most p out=X at k1 k2;refine eW (yJ (k0:=RetK λv W=>(X.2.2=0∧X.2.1<=8*s.length∧X.1.length<=most∧∃ov',v=r11T ov' X.2.1 0∧OwnS S w0 W (outR ov' X.1::R))∨(X.2.2≠0∧v=r11T nilS 0 X.2.2∧OwnS S w0 W R)) ?_) (λe W ⟨v,he,hv⟩=>by
  subst he;rcases hv with ⟨h1,h2,h3,ov',rfl,ho⟩|⟨h1,rfl,ho⟩
  ·exact k1 h1 h2 h3 ov' W ho
  ·exact k2 h1 W ho)
 clear k1 k2;unfold pX nz;refine loop (λvs W=>∃(p:Nat) (ov:ao) (out:List UInt8),vs=[.int .i64 (p:Int),ov]∧p<=8*s.length∧out.length<=most∧(∃f,8*s.length+1 - p<=f∧jh near far s most f p out=X)∧OwnS S w0 W (outR ov out::R)) (λvs _=>8*s.length+1 - n0 vs) ⟨p,ov,out,rfl,hp,hol,⟨_,aoG _,hX⟩,ho⟩ ?_;clear ho hX hp hol;rintro vs w1 ⟨p,ov,out,rfl,hp,hol,⟨f,hf2,hX⟩,ho⟩ _;simp only[mN,gd,nz];obtain⟨f,rfl⟩:∃f',f=f'+1:=⟨f - 1,om⟩;rw[jh] at hX;dsimp only at hX;refine aH ho (Xj (Ja near vn s p M w1 hn15 hln hp hs (ho.hasM (jm+1) hm) hn)) ?_;rintro _ w3 ⟨g,q,rfl,hq8,hab⟩ ho;have hadv:=@mw near s p;have hle:=@tq near s p;generalize cj near s p=T at hX hab hadv hle;obtain⟨g',q',e⟩:=T;dsimp only at hX hab hadv hle;simp only[nmT0,nmT1,nmT2,bQ];by_cases h3:e=0
 case neg=>
  rw[anX h3] at hX;subst hX;simp only[anZ (show e≠0 from h3),i_t];exact retK (.inr ⟨h3,rfl,ho.tail⟩)
 obtain⟨rfl,rfl⟩:=hab h3;have hadv:=hadv h3;rw[anW (by rw[h3];decide)] at hX;simp only[anY (show ¬e≠0 by rw[h3];decide),i_f,rs];by_cases h256:g=256
 ·rw[anW om,anX h256] at hX;simp only[show ai ((g:Int)=256)=au from anZ om,i_t];subst hX;exact retK (.inl ⟨rfl,hq8,hol,ov,rfl,ho⟩)
 simp only[show ai ((g:Int)=256)=aq from anY om,i_f,rs];by_cases hlo:g < 256
 ·rw[anX hlo] at hX;simp only[show ai ((256:Int) < (g:Int))=aq from anY om,i_f];rw[bB aoK (cS (ho.at_ 0 rfl))]
  try simp only[rs]
  by_cases h7:most < out.length+1
  ·rw[anX h7] at hX;simp only[show ai ((most:Int)<=(out.length:Int))=au from anZ om,i_t];subst hX;exact retK (.inr ⟨by (first|decide|(dsimp only;decide)),rfl,ho.tail⟩)
  rw[anW h7] at hX;simp only[show ai ((most:Int)<=(out.length:Int))=aq from anY om,i_f];refine aC (cU8 om) |>.mpr ?_;refine Dc _ ho λb8 w8 ho=>?_;refine aX 1 aoK elU8 dc ho rfl (eG (ho.at_ 0 rfl) dc rfl) aW om om λv' w9 ho=>?_;refine aQ ⟨q,v',_,rfl,hq8,by rw[aoC,apL];omega,⟨f,om,hX⟩,?_⟩ (by simp[n0,RowKit.intOf];omega);rw[cQ];exact ho.tail
 rw[anW hlo,anW h256] at hX;simp only[show ai ((256:Int) < (g:Int))=au from anZ om,i_t];obtain⟨i,rfl⟩:∃i,g=257+i:=⟨g - 257,om⟩;have hca:=@qp far s q (257+i) most out;refine WE jm ho hm hf h15 hl hq8 hs hmo hol om (λh8 h9 h10 ov4 W4 ho=>?_) (λh8 W4 ho=>?_)
 rotate_left
 ·rw[anX h8] at hX;subst hX;simp only[Ik,Ie,Iw,bQ,anZ h8,i_t];exact retK (.inr ⟨h8,rfl,ho⟩)
 rw[anW (by rw[h8];decide)] at hX;have hca:=hca h8;generalize bw far s q (257+i) out most=C at hX ho hca h9 h10;simp only[Ik,Ie,Iw,bQ,show ai ((0:Int)≠0)=aq from rfl,i_f];exact aQ ⟨C.2.1,ov4,C.1,rfl,h9,h10,⟨f,om,hX⟩,ho⟩ (by simp[n0,RowKit.intOf];omega)
end
end
section
open Eng Go.RowKit
section
variable {w:ak}{PK:PKT}{K:VWP}{S:Nat->Prop}{w0:ak}{L:List Ent}
theorem Y1 {ov:ao}{s:List UInt8}{out:List UInt8}{T:List Ent}(ho:OwnS S w0 w (outR ov out::.mem M::T))(hp:p+2<=8*s.length)(hs:s.length<=1000000000)(hmo:most<=1000000000)(hol:out.length<=most)
  (k1:(bt s most p out).2.2=0->(bt s most p out).2.1<=8*s.length->(bt s most p out).1.length<=most->∀N ov' W,M.le N->OwnS S w0 W (outR ov' (bt s most p out).1::.mem N::T)->K (r11T ov' (bt s most p out).2.1 0) W)
  (k2:(bt s most p out).2.2≠0->∀N W,M.le N->OwnS S w0 W (.mem N::T)->K (r11T nilS 0 (bt s most p out).2.2) W) :
  CallX ah 195 #[.string ⟨s.toArray⟩,.int .i64 ((p+2:Nat):Int),.int .i64 (Fl.num s p 2:Int),ov,.int .i64 (most:Int)] w PK K:=by
 generalize hX:bt s most p out=X at k1 k2;refine eW (yT (k0:=RetK λv W=>(X.2.2=0∧X.2.1<=8*s.length∧X.1.length<=most∧∃N ov',M.le N∧v=r11T ov' X.2.1 0∧OwnS S w0 W (outR ov' X.1::.mem N::T))∨(X.2.2≠0∧∃N,M.le N∧v=r11T nilS 0 X.2.2∧OwnS S w0 W (.mem N::T))) ?_) (λe W ⟨v,he,hv⟩=>by
  subst he;rcases hv with ⟨h1,h2,h3,N,ov',hle,rfl,ho⟩|⟨h1,N,hle,rfl,ho⟩
  ·exact k1 h1 h2 h3 N ov' W hle ho
  ·exact k2 h1 N W hle ho)
 clear k1 k2;unfold bt at hX;rw[anW om] at hX;have hk4:=Fl.iQ s p 2;have h24:(2:Nat) ^ 2=4:=dc
 generalize Fl.num s p 2=k at hX hk4;unfold qD nz
 try simp only[rs]
 by_cases h3:k=3
 ·rw[anW om,anW om,anW om] at hX;simp only[show ai ((k:Int)=3)=au from anZ om,i_t];subst hX;exact retK (.inr ⟨by (first|decide|(dsimp only;decide)),M,M.le_refl,rfl,ho.tail⟩)
 simp only[show ai ((k:Int)=3)=aq from anY om,i_f,rs];by_cases h0:k=0
 ·rw[anX h0] at hX;simp only[show ai ((k:Int)=0)=au from anZ om,i_t];refine UG ho hp hs hmo hol (λe1 e2 e3 ov' W ho=>?_) (λe1 W ho=>?_)
  ·rw[hX] at e1 e2 e3 ho ⊢;simp only[Ik,Ie,Iw];exact retK (.inl ⟨e1,e2,e3,M,ov',M.le_refl,rfl,ho⟩)
  ·rw[hX] at e1 ⊢;simp only[Ik,Ie,Iw];exact retK (.inr ⟨e1,M,M.le_refl,rfl,ho⟩)
 simp only[show ai ((k:Int)=0)=aq from anY om,i_f];rw[anW h0] at hX;refine bI ho 1 rfl (T7 M w (ho.hasM 1 rfl)) ?_;rintro _ N1 w1 g1 ⟨a,b,rfl,ha,hb⟩ ho;have ho:OwnS S w0 w1 (outR ov out::.mem N1::T):=ho;simp only[ex];refine join λJ hJ=>?_
 try simp only[rs]
 by_cases h1:k=1
 ·rw[anX h1] at hX;simp only[show ai ((k:Int)=2)=aq from anY om,i_f];refine hJ _ _ λ_=>?_;simp only[fX,gd,nz];refine Sf 0 ho rfl ha hb uj uk (by rw[mi];omega) (by rw[mj];omega) hp hs hmo hol (λe1 e2 e3 ov' W ho=>?_) (λe1 W ho=>?_)
  ·rw[hX] at e1 e2 e3 ho ⊢;simp only[Ik,Ie,Iw];exact retK (.inl ⟨e1,e2,e3,N1,ov',g1,rfl,ho⟩)
  ·rw[hX] at e1 ⊢;simp only[Ik,Ie,Iw];exact retK (.inr ⟨e1,N1,g1,rfl,ho⟩)
 have h2:k=2:=om
 rw[anW h1,anX h2,IS] at hX;simp only[show ai ((k:Int)=2)=au from anZ om,i_t];refine bI ho 1 rfl (OY s (p+2) N1 w1 hp hs (ho.hasM 1 rfl)) ?_;intro v N2 w2 g2 hv ho;have ho:OwnS S w0 w2 (outR ov out::.mem N2::T):=ho;have g12:=g1.trans g2;generalize cu s (p+2)=D at hX hv;obtain⟨near,far,q,e⟩:=D;dsimp only at hX hv;rcases hv with ⟨e1,rfl⟩|⟨e1,e2,e3,e4,e5,n15,f15,va,vb,rfl,hna,hfb⟩
 ·rw[anX e1] at hX;subst hX;simp only[afT,ajE,ajG,aeU,bQ,anZ e1,i_t];exact retK (.inr ⟨e1,N2,g12,rfl,ho.tail⟩)
 rw[anW (by rw[e1];decide)] at hX;simp only[afT,ajE,ajG,aeU,bQ,show ai ((0:Int)≠0)=aq from rfl,i_f];have h256:256 < near.length:=om
 obtain⟨b6,off,r1,r2⟩:=eX (hna.now (ho.hasM 1 rfl)) h256;refine aC (r1 w2) |>.mpr (aC (aB bP r2) |>.mpr ?_);have hgd:near.getD 256 0=near[256]:=by rw[aoE,aoI h256];rfl
 rw[hgd] at hX
 try simp only[rs]
 by_cases hz:near[256]=0
 ·rw[anX hz] at hX;simp only[show ai (((near[256]:Nat):Int)=0)=au from anZ om,i_t];subst hX;exact retK (.inr ⟨by (first|decide|(dsimp only;decide)),N2,g12,rfl,ho.tail⟩)
 rw[anW hz] at hX;simp only[show ai (((near[256]:Nat):Int)=0)=aq from anY om,i_f];refine bI ho 1 rfl (BR near va N2 w2 n15 om (ho.hasM 1 rfl) hna) ?_;rintro _ N3 w3 g3 rfl ho;have ho:OwnS S w0 w3 (outR ov out::.mem N3::T):=ho;have g13:=g12.trans g3;simp only[bQ];by_cases hck:az near=0
 case neg=>
  rw[anX hck] at hX;subst hX;simp only[anZ (show az near≠0 from hck),i_t];exact retK (.inr ⟨hck,N3,g13,rfl,ho.tail⟩)
 rw[anW (by simp[hck])] at hX;simp only[anY (show ¬az near≠0 by simp[hck]),i_f];refine bI ho 1 rfl (BR far vb N3 w3 f15 om (ho.hasM 1 rfl) (hfb.le g3)) ?_;rintro _ N4 w4 g4 rfl ho;have ho:OwnS S w0 w4 (outR ov out::.mem N4::T):=ho;have g14:=g13.trans g4;simp only[bQ];by_cases hck2:az far=0
 case neg=>
  rw[anX hck2] at hX;subst hX;simp only[anZ (show az far≠0 from hck2),i_t];exact retK (.inr ⟨hck2,N4,g14,rfl,ho.tail⟩)
 rw[anW (by simp[hck2])] at hX;simp only[anY (show ¬az far≠0 by simp[hck2]),i_f];refine hJ _ _ λ_=>?_;simp only[fX,gd,nz];refine Sf 0 ho rfl (hna.le (g3.trans g4)) (hfb.le (g3.trans g4)) n15 f15 e4 e5 e2 hs hmo hol (λe1 e2 e3 ov' W ho=>?_) (λe1 W ho=>?_)
 ·rw[hX] at e1 e2 e3 ho ⊢;simp only[Ik,Ie,Iw];exact retK (.inl ⟨e1,e2,e3,N4,ov',g14,rfl,ho⟩)
 ·rw[hX] at e1 ⊢;simp only[Ik,Ie,Iw];exact retK (.inr ⟨e1,N4,g14,rfl,ho⟩)
end
theorem SM (s:List UInt8)(most:Int)(M:Mem)(w:ak)(hs:s.length<=1000000000)(hM:M.has w) :
  RetM ah 128 #[.string ⟨s.toArray⟩,.int .i64 most] M w (λv _=>v=flT (gy s most)∧(gy s most).2.1<=s.length∧(gy s most).1.length<=1048576):=by
 refine aU hM λK hK=>B2 ?_;generalize hX:gy s most=X at hK;unfold gy at hX;unfold tC nz;have ho:OwnS M.A w w [.mem M]:=OwnS.memS hM
 try simp only[rs]
 by_cases h1:most < 0
 ·rw[anX h1] at hX;simp only[h1,aoA,i_t];exact hK _ _ M _ 0 ho rfl M.le_refl ⟨by rw[<-hX];rfl,by rw[<-hX];dsimp only;omega,by rw[<-hX];dsimp only;simp<;>omega⟩
 rw[anW h1] at hX;simp only[h1,aoB,i_f];rw[OH,show min most 1048576=((min most.toNat 1048576:Nat):Int) by omega];have hm1:min most.toNat 1048576<=1048576:=atA _ _;generalize min most.toNat 1048576=mo at hX hm1;have ho:=OwnS.nilU ho 5 1;have ho:OwnS M.A w w (outR nilS []::.mem M::[]):=ho;refine loop (λvs W=>∃(p:Nat) (ov:ao) (out:List UInt8) (N:Mem),vs=[ov,.int .i64 (p:Int)]∧p<=8*s.length∧out.length<=mo∧M.le N∧(∃f,8*s.length+1 - p<=f∧jb s mo f p out=X)∧OwnS M.A w W (outR ov out::.mem N::[])) (λvs _=>8*s.length+1 - n1 vs) ⟨0,nilS,[],M,rfl,om,sm,M.le_refl,⟨_,om,hX⟩,ho⟩ ?_;clear ho hX;rintro vs w6 ⟨p,ov,out,N,rfl,hp,hol,hle,⟨f,hf,hX⟩,ho⟩ _;simp only[pJ,gd,nz];obtain⟨f,rfl⟩:∃f',f=f'+1:=⟨f - 1,om⟩;rw[jb] at hX;dsimp only at hX;refine AO (n:=1) ho hp om hs (λe1 W1 ho=>?_) (λe1 W1 ho=>?_)
 rotate_left
 ·rw[anX e1] at hX;simp only[nmT0,nmT1,nmT2,bQ,show ai ((4:Int)≠0)=au from rfl,i_t];exact hK _ _ N _ 1 ho rfl hle ⟨by rw[<-hX];rfl,by rw[<-hX];dsimp only;omega,by rw[<-hX];dsimp only;simp<;>omega⟩
 rw[anW om] at hX;simp only[nmT0,nmT1,nmT2,bQ,show ai ((0:Int)≠0)=aq from rfl,i_f];have hadv:=@uo s mo (p+1) out;refine AO (p:=p+1) (n:=2) ho e1 om hs (λe2 W2 ho=>?_) (λe2 W2 ho=>?_)
 rotate_left
 ·have hb:bt s mo (p+1) out=(out,p+1,4):=by unfold bt;rw[anX om]
  rw[hb,anX (by dsimp only;decide)] at hX;simp only[nmT0,nmT1,nmT2,bQ,show ai ((4:Int)≠0)=au from rfl,i_t];exact hK _ _ N _ 1 ho rfl hle ⟨by rw[<-hX];rfl,by rw[<-hX];dsimp only;omega,by rw[<-hX];dsimp only;simp<;>omega⟩
 simp only[nmT0,nmT1,nmT2,bQ,show ai ((0:Int)≠0)=aq from rfl,i_f];refine Y1 ho e2 hs om hol (λh1 h2 h3 N2 ov' W hle2 ho=>?_) (λh1 N2 W hle2 ho=>?_)
 rotate_left
 ·rw[anX h1] at hX;simp only[Ik,Ie,Iw,bQ,anZ h1,i_t];exact hK _ _ N2 _ 0 ho rfl (hle.trans hle2) ⟨by rw[<-hX];rfl,by rw[<-hX];dsimp only;omega,by rw[<-hX];dsimp only;simp<;>omega⟩
 rw[anW (by rw[h1];decide)] at hX;have hadv:=hadv h1;generalize bt s mo (p+1) out=B at hX ho h1 h2 h3 hadv;simp only[Ik,Ie,Iw,bQ,show ai ((0:Int)≠0)=aq from rfl,i_f,rs];by_cases hl:Fl.num s p 1=1
 case neg=>
  rw[anW hl] at hX;simp only[show ai ((Fl.num s p 1:Int)=1)=aq from anY om,i_f];exact aQ ⟨B.2.1,ov',B.1,N2,rfl,h2,h3,hle.trans hle2,⟨f,om,hX⟩,ho⟩ (by simp[n1,RowKit.intOf];omega)
 rw[anX hl] at hX;simp only[show ai ((Fl.num s p 1:Int)=1)=au from anZ om,i_t];rw[gO aoK aoP aoD (cS (ho.at_ 0 rfl))]
 try simp only[rs]
 rw[aA om om,Ao dc,show (B.2.1:Int)+7=((B.2.1+7:Nat):Int) by omega,show ((B.2.1+7:Nat):Int).tdiv 8=(((B.2.1+7) / 8:Nat):Int) from rfl,aA om om];exact hK _ _ N2 _ 1 ho rfl (hle.trans hle2) ⟨by rw[<-hX];rfl,by rw[<-hX];dsimp only;omega,by rw[<-hX];dsimp only;omega⟩
end
section
open Eng
def F6(t1 t5 t15 t16 w)(N1:JT)(K:KT):=nz f270 43 [N1] [nh 7 [16]] [(5,5)] (zg [1,5,15,16] [t1,t5,t15,t16]) w K
def JJ(t0 t1 w)(K:KT):=nz f270 1 [] [(7,[16],λs v j w f=>F6 (s 1) (s 5) (s 15) (vg v 0) w (f 0) K)] [] (zg [0,1] [t0,t1]) w K
theorem K4:JJ t0 t1 w k0->Calls ah 270 #[t0,t1] w k0:=cz [] [(3,[16])] func270
def L9(t0 w)(K:KT):=nz f237 1 [] [] [] (zg [0] [t0]) w K
theorem Mf:L9 t0 w k0->Calls ah 237 #[t0] w k0:=cw func237
def EB(t0 t1 w)(K:KT):=nz f304 1 [] [] [] (zg [0,1] [t0,t1]) w K
theorem Iu:EB t0 t1 w k0->Calls ah 304 #[t0,t1] w k0:=cw func304
def Kt(t0 w)(K:KT):=nz f236 1 [] [] [] (zg [0] [t0]) w K
theorem K1:Kt t0 w k0->Calls ah 236 #[t0] w k0:=cw func236
def E6(t0 w)(K:KT):=nz f238 1 [] [] [(3,8)] (zg [0] [t0]) w K
theorem Ib:E6 t0 w k0->Calls ah 238 #[t0] w k0:=cw func238
def EG(t0 t1 w)(K:KT):=nz f192 1 [] [] [(10,10)] (zg [0,1] [t0,t1]) w K
theorem Ij:EG t0 t1 w k0->Calls ah 192 #[t0,t1] w k0:=cw func192
end
section
open Eng
def nI(t1 t5 t6 t7 w)(N1:JT)(K:KT):=nz f196 43 [N1] [nh 7 [5,6,7]] [] (zg [1,5,6,7] [t1,t5,t6,t7]) w K
def qV(t0 t1 w)(K:KT):=nz f196 1 [] [(7,[5,6,7],λs v j w f=>nI (s 1) (vg v 0) (vg v 1) (vg v 2) w (f 0) K)] [] (zg [0,1] [t0,t1]) w K
theorem AA:qV t0 t1 w k0->Calls ah 196 #[t0,t1] w k0:=cz [] [(3,[5,6,7])] func196
def uJ(t0 w)(K:KT):=nz f130 1 [] [] [] (zg [0] [t0]) w K
theorem Bm:uJ t0 w k0->Calls ah 130 #[t0] w k0:=cw func130
def rD(t0 w)(K:KT):=nz f129 1 [] [] [] (zg [0] [t0]) w K
theorem Am:rD t0 w k0->Calls ah 129 #[t0] w k0:=cw func129
def oJ(t0 t1 w)(K:KT):=nz f59 1 [] [] [(3,28),(11,9)] (zg [0,1] [t0,t1]) w K
theorem xC:oJ t0 t1 w k0->Calls ah 59 #[t0,t1] w k0:=cw func59
end
section
open Eng Go.RowKit
def ic (x:Nat×Nat)(c:UInt8):Nat×Nat:=((x.1+c.toNat) % 65521,(x.2+(x.1+c.toNat) % 65521) % 65521)
def fh (s:List UInt8):Nat×Nat:=s.foldl ic (1,0)
def ff (s:List UInt8):Nat:=65536*(fh s).2+(fh s).1
def bj (n:Nat):List UInt8:=[UInt8.ofNat (n / 2 ^ 24),UInt8.ofNat (n / 2 ^ 16),UInt8.ofNat (n / 2 ^ 8),UInt8.ofNat n]
def lr (a b:Nat):Bool:=ai (a % 16≠8)||decide (7 < a / 16)||decide ((256*a+b) % 31≠0)||decide (b / 32 % 2≠0)
def ft (s:List UInt8)(most:Int):List UInt8×Int:=
 if s.length < 2 then ([],4)
 else if lr (s.getD 0 0).toNat (s.getD 1 0).toNat=au then ([],3)
 else
  let r:=gy (s.drop 2) most
  if r.2.2≠0 then ([],r.2.2)
  else if s.length < 2+r.2.1+4 then ([],4)
  else if (s.drop (2+r.2.1)).take 4≠bj (ff r.1) then ([],12)
  else (r.1,0)
theorem od (s:List UInt8):(fh s).1 < 65521∧(fh s).2 < 65521:=by
 unfold fh;have:∀(l:List UInt8) (x:Nat×Nat),x.1 < 65521∧x.2 < 65521->(l.foldl ic x).1 < 65521∧(l.foldl ic x).2 < 65521:=by
  intro l
  induction l with
 |nil=>exactλx h=>h
 |cons c l ih=>exactλx h=>ih _ ⟨aqW _ dc,aqW _ dc⟩
 exact this s _ ⟨dc,dc⟩
theorem uq {s:List UInt8}(h:i < s.length):fh (s.take (i+1))=ic (fh (s.take i)) s[i]:=by
 unfold fh;rw[apG h,List.foldl_append];rfl
def zlT (x:List UInt8×Int):Value:=.tuple #[.string ⟨x.1.toArray⟩,.int .i64 x.2]
theorem Cq {n:Nat}(h:n < 4294967296):IntKind.u32.wrap (n:Int)=(n:Int):=by unfold IntKind.wrap;simp[IntKind.bits,IntKind.signed];omega
theorem CN {n:Int}(h0:0<=n)(h:n < 4294967296):IntKind.u32.wrap n=n:=by unfold IntKind.wrap;simp[IntKind.bits,IntKind.signed];omega
theorem lA (n:Nat):IntKind.u8.wrap (n:Int)=((UInt8.ofNat n).toNat:Int):=by
 unfold IntKind.wrap;simp[IntKind.bits,IntKind.signed]
theorem aeO {a:Nat}(hb:b < 2 ^ i):a*2 ^ i ||| b=a*2 ^ i+b:=by
 have:=awH hb a;rw[arG a,<-this]
theorem or32 {a:Nat}(ha:a < 65536)(hb:b < 65536):bOr .u32 ((b*65536:Nat):Int) (a:Int)=((65536*b+a:Nat):Int):=by
 have e:b*65536 ||| a=65536*b+a:=by
  have:b*65536 ||| a=b*65536+a:=aeO (i:=16) ha;omega
 unfold bOr;show IntKind.wrap .u32 (((BitVec.ofInt 32 ((b*65536:Nat):Int) ||| BitVec.ofInt 32 (a:Int)).toNat:Nat):Int)=_;rw[BitVec.ofInt_natCast,BitVec.ofInt_natCast,BitVec.toNat_or,BitVec.toNat_ofNat,BitVec.toNat_ofNat,aqA om,aqA om,e];exact Cq om
theorem or64 {a:Nat}(ha:a < 256)(hb:b < 256):bOr .i64 ((a*256:Nat):Int) (b:Int)=((256*a+b:Nat):Int):=by
 have e:a*256 ||| b=256*a+b:=by
  have:a*256 ||| b=a*256+b:=aeO (i:=8) hb;omega
 unfold bOr;show IntKind.wrap .i64 (((BitVec.ofInt 64 ((a*256:Nat):Int) ||| BitVec.ofInt 64 (b:Int)).toNat:Nat):Int)=_;rw[BitVec.ofInt_natCast,BitVec.ofInt_natCast,BitVec.toNat_or,BitVec.toNat_ofNat,BitVec.toNat_ofNat,aqA om,aqA om,e];exact aA om om
theorem TB:∀n:Fin 256,bAnd .i64 (n.val:Int) 15=((n.val % 16:Nat):Int):=by decide +kernel
theorem Vg:∀n:Fin 256,bAnd .i64 (n.val:Int) 32=((n.val / 32 % 2*32:Nat):Int):=by decide +kernel
theorem Tv:∀n:Fin 256,bAnd .u8 (n.val:Int) 32=((n.val / 32 % 2*32:Nat):Int):=by decide +kernel
theorem ahU {n:Nat}(h:n < 256):bAnd .i64 (n:Int) 15=((n % 16:Nat):Int):=TB ⟨n,h⟩
theorem akO {n:Nat}(h:n < 256):bAnd .i64 (n:Int) 32=((n / 32 % 2*32:Nat):Int):=Vg ⟨n,h⟩
theorem ajK {n:Nat}(h:n < 256):bAnd .u8 (n:Int) 32=((n / 32 % 2*32:Nat):Int):=Tv ⟨n,h⟩
def suC (a b:Nat):List Value:=[.int .u32 (a:Int),.int .u32 (b:Int)]
def suV (a b:Nat):Value:=.agg (suC a b).toArray
abbrev suE (bl a b:Nat):Ent:=.cells bl (suC a b) 312
theorem QX {a:Nat}:∀u∈suC a b,u.oneCell'=true:=by
 intro u hu;simp only[suC,aoM,aqI,or_false] at hu;rcases hu with rfl|rfl<;>rfl
theorem aeI:aggN ah 312=aw 2:=krx
theorem szSu:(Tryz.prog.info? 312).map (·.size)=aw 2:=krx
theorem R6:fOff ah 312 0=aw 0:=krx
theorem VZ:fOff ah 312 1=aw 1:=krx
theorem nU32:eM ah 153=true:=krx
theorem acG (a b:Nat)(c:UInt8)(w:ak)(ha:a < 65521)(hb:b < 65521):Ret ah 304 #[suV a b,.int .u8 (c.toNat:Int)] w (λv w'=>v=suV (ic (a,b) c).1 (ic (a,b) c).2∧Below w.heap.size w w'):=by
 refine aK λK hK=>Iu ?_;unfold EB nz;have hc:=apT c;refine bD (λb=>.pointer (aw ⟨b,0,av⟩)) (suC a b) 312 (λ_=>by kernel_rfl) (Own.start w) λb2 w1 ho=>?_;refine bD (λb=>.pointer (aw ⟨b,0,av⟩)) (suC 0 0) 312 (λ_=>by kernel_rfl) ho λb4 w2 ho=>?_;rw[aP R6,aS nU32 (ho.cell 1 rfl 0 rfl)];refine aC (aO krx auY) |>.mpr ?_;rw[Cq om,H7,CN om om,show (a:Int)+(c.toNat:Int)=((a+c.toNat:Nat):Int) by push_cast;rfl,CR dc,show (((a+c.toNat:Nat):Int)).tmod 65521=(((a+c.toNat) % 65521:Nat):Int) from rfl,aP R6];refine aN 1 ho rfl krx rfl (by show 0+0 < 2;omega) λw3 ho=>?_;have hm:=aqW (a+c.toNat) (show 65521>0 by decide);have ho:OwnS NoB w w3 [suE b4 0 0,suE b2 ((a+c.toNat) % 65521) b]:=ho;generalize hd:(a+c.toNat) % 65521=d at ho hm;rw[aP VZ,aS nU32 (ho.cell 1 rfl 1 rfl),aP R6,aS nU32 (ho.cell 1 rfl 0 rfl),H7,CN om om,show (b:Int)+(d:Int)=((b+d:Nat):Int) by push_cast;rfl,CR dc,show (((b+d:Nat):Int)).tmod 65521=(((b+d) % 65521:Nat):Int) from rfl,aP VZ];refine aN 1 ho rfl krx rfl (by show 0+1 < 2;omega) λw4 ho=>?_;have ho:OwnS NoB w w4 [suE b4 0 0,suE b2 d ((b+d) % 65521)]:=ho;rw[l_at (ho.agg 1 rfl aeI)];refine iL 0 ho rfl (new:=suC d ((b+d) % 65521)) szSu QX rfl λw5 ho=>?_;refine lK (bN (ho.agg 0 rfl aeI)) (hK _ _ ⟨?_,ho.done⟩);unfold ic suV;dsimp only;rw[hd]
theorem Rv (s:List UInt8)(w:ak)(hs:s.length<=1000000000):Ret ah 237 #[.string ⟨s.toArray⟩] w (λv w'=>v=.int .u32 (ff s:Int)∧Below w.heap.size w w'):=by
 refine aK λK hK=>Mf ?_;unfold L9 nz;have more:Ret ah 270 #[.int .u32 1,.string ⟨s.toArray⟩] w (λv w'=>v=.int .u32 (ff s:Int)∧Below w.heap.size w w'):=by
  refine aK λK hK=>K4 ?_;unfold JJ nz;rw[VH,show bAnd .u32 1 65535=1 by decide +kernel,CR dc,show (1:Int).tmod 65521=((1:Nat):Int) from rfl,FC dc,show (1:Int).fdiv (2 ^ (min (16:Int).toNat IntKind.u32.bits))=0 by decide +kernel,CR dc,show (0:Int).tmod 65521=((0:Nat):Int) from rfl];refine aC (show (bA 312 #[(0,.int .u32 ((1:Nat):Int)),(1,.int .u32 ((0:Nat):Int))]).run ah w=.ok (.value (suV 1 0)) w by kernel_rfl) |>.mpr ?_;refine bD (λb=>.pointer (aw ⟨b,0,av⟩)) (suC 0 0) 312 (λ_=>by kernel_rfl) (Own.start w) λb5 w1 ho=>?_;refine iL 0 ho rfl (new:=suC 1 0) szSu QX rfl λw2 ho=>?_;rw[cL aoD];refine loop (λvs W=>∃i:Nat,vs=[.int .i64 (i:Int)]∧i<=s.length∧OwnS NoB w W [suE b5 (fh (s.take i)).1 (fh (s.take i)).2]) (λvs _=>s.length - n0 vs) ⟨0,rfl,om,ho⟩ ?_;clear ho;rintro vs w3 ⟨i,rfl,hi,ho⟩ _;simp only[F6,gd,rs,nz];by_cases hlt:(i:Int) < (s.length:Int)
  ·simp only[hlt,aoA,i_t];have hi':i < s.length:=om
   obtain⟨h1,h2⟩:=od (s.take i);have hst:=uq hi';generalize fh (s.take i)=x at ho h1 h2 hst;obtain⟨a,b⟩:=x;refine cR (λW=>OwnS NoB w W [suE b5 a b]) ho.drew ?_;refine q_at (suV a b) (λW h=>bE (h.agg 0 rfl aeI)) (q_ix (c:=s[i]) aoD om (by rw[aoF];exact aoI hi') ?_);refine kS (suV (ic (a,b) s[i]).1 (ic (a,b) s[i]).2) (λW h=>(acG a b s[i] W h1 h2).mono λv w' ⟨k1,k2⟩=>⟨k1,h.grow k2⟩) ?_;intro w4 ho;refine iL 0 ho rfl (new:=suC (ic (a,b) s[i]).1 (ic (a,b) s[i]).2) szSu QX rfl λw5 ho=>?_
   try simp only[rs]
   rw[aA om om];refine aQ ⟨i+1,rfl,om,?_⟩ (by simp[n0,RowKit.intOf];omega);rw[hst];exact ho
  ·simp only[hlt,aoB,i_f];have:i=s.length:=om
   subst this;rw[aqJ] at ho;obtain⟨h1,h2⟩:=od s;have ha:ff s=65536*(fh s).2+(fh s).1:=rfl;generalize fh s=x at ho h1 h2 ha;obtain⟨a,b⟩:=x;dsimp only at h1 h2 ha;rw[aP VZ,aS nU32 (ho.cell 0 rfl 1 rfl),wC dc,show min (16:Int).toNat IntKind.u32.bits=16 from rfl,show (b:Int)*2 ^ 16=((b*65536:Nat):Int) by omega,Cq om,aP R6,aS nU32 (ho.cell 0 rfl 0 rfl),b_or,or32 om om,<-ha];exact hK _ _ ⟨rfl,ho.done⟩
 refine Eh more λv w' ⟨h1,h2⟩=>?_;exact hK _ _ ⟨h1,h2⟩
theorem Tz (s:List UInt8)(w:ak)(hs:s.length<=1000000000):Ret ah 130 #[.string ⟨s.toArray⟩] w (λv w'=>v=.int .u32 (ff s:Int)∧Below w.heap.size w w'):=by
 refine aK λK hK=>Bm ?_;unfold uJ nz;have more:Ret ah 196 #[.int .u32 1,.string ⟨s.toArray⟩] w (λv w'=>v=.int .u32 (ff s:Int)∧Below w.heap.size w w'):=by
  refine aK λK hK=>AA ?_;unfold qV nz;rw[CR dc,show (1:Int).tmod 65536=1 from rfl,CR dc,show (1:Int).tmod 65521=((1:Nat):Int) from rfl,Ao dc,show IntKind.u32.wrap ((1:Int).tdiv 65536)=0 by decide +kernel,CR dc,show (0:Int).tmod 65521=((0:Nat):Int) from rfl];refine loop (λvs W=>∃i:Nat,vs=[.int .u32 ((fh (s.take i)).1:Int),.int .u32 ((fh (s.take i)).2:Int),.int .i64 (i:Int)]∧i<=s.length∧w=W) (λvs _=>s.length - n2 vs) ⟨0,rfl,om,rfl⟩ ?_;rintro vs _ ⟨i,rfl,hi,rfl⟩ _;simp only[nI,gd,nz];rw[cL aoD]
  try simp only[rs]
  by_cases hlt:(i:Int) < (s.length:Int)
  ·simp only[hlt,aoA,i_t];have hi':i < s.length:=om
   obtain⟨h1,h2⟩:=od (s.take i);have hst:=uq hi';generalize fh (s.take i)=x at h1 h2 hst;obtain⟨a,b⟩:=x;dsimp only at h1 h2 ⊢;have hc:=apT s[i];rw[s_ix (c:=s[i]) aoD om (by rw[aoF];exact aoI hi')];refine aC (aO krx auY) |>.mpr ?_;rw[Cq om,H7,CN om om,show (a:Int)+(s[i].toNat:Int)=((a+s[i].toNat:Nat):Int) by push_cast;rfl,CR dc,show (((a+s[i].toNat:Nat):Int)).tmod 65521=(((a+s[i].toNat) % 65521:Nat):Int) from rfl];have hm:=aqW (a+s[i].toNat) (show 65521>0 by decide);generalize hd:(a+s[i].toNat) % 65521=d at hm;rw[H7,CN om om,show (b:Int)+(d:Int)=((b+d:Nat):Int) by push_cast;rfl,CR dc,show (((b+d:Nat):Int)).tmod 65521=(((b+d) % 65521:Nat):Int) from rfl]
   try simp only[rs]
   rw[aA om om];refine aQ ⟨i+1,?_,om,rfl⟩ (by simp[n2,RowKit.intOf];omega);rw[hst];unfold ic;dsimp only;rw[hd];rfl
  ·simp only[hlt,aoB,i_f];have:i=s.length:=om
   subst this;rw[aqJ];obtain⟨h1,h2⟩:=od s;have ha:ff s=65536*(fh s).2+(fh s).1:=rfl;generalize fh s=x at h1 h2 ha;obtain⟨a,b⟩:=x;dsimp only at h1 h2 ha ⊢
   try simp only[rs]
   rw[CN (n:=65536*(b:Int)) om om,CN om om,show 65536*(b:Int)+(a:Int)=((65536*b+a:Nat):Int) by omega,<-ha];exact hK _ _ ⟨rfl,Below.refl _ _⟩
 refine Eh more λv w' ⟨h1,h2⟩=>?_;exact hK _ _ ⟨h1,h2⟩
theorem shrU {n k:Nat}(hk:k<=32):((n:Nat):Int).fdiv (2 ^ (min ((k:Nat):Int).toNat IntKind.u32.bits))=((n / 2 ^ k:Nat):Int):=by
 rw[show min ((k:Nat):Int).toNat IntKind.u32.bits=k by show min ((k:Nat):Int).toNat 32=k;omega,PR]
theorem O1 (n:Nat)(w:ak):Ret ah 236 #[.int .u32 (n:Int)] w (λv w'=>v=.string ⟨(bj n).toArray⟩∧Below w.heap.size w w'):=by
 refine aK λK hK=>K1 ?_;unfold Kt nz;rw[FC dc,show (24:Int)=((24:Nat):Int) from rfl,shrU dc];refine aC (aO krx aoP) |>.mpr ?_;rw[lA,FC dc,show (16:Int)=((16:Nat):Int) from rfl,shrU dc];refine aC (aO krx aoP) |>.mpr ?_;rw[lA,FC dc,show (8:Int)=((8:Nat):Int) from rfl,shrU dc];refine aC (aO krx aoP) |>.mpr ?_;rw[lA];refine aC (aO krx aoP) |>.mpr ?_;rw[lA];refine bD (λb=>.slice (aw ⟨b,0,av⟩) 4 4) (aG (bj n)) 5 (λ_=>by kernel_rfl) (Own.start w) λb2 w1 ho=>?_;rw[gO (l:=bj n) aoK aoP aoD (ho.sl 0 rfl 1 4 4 rfl)];exact hK _ _ ⟨rfl,ho.done⟩
theorem PZ (n:Nat)(w:ak):Ret ah 129 #[.int .u32 (n:Int)] w (λv w'=>v=.string ⟨(bj n).toArray⟩∧Below w.heap.size w w'):=by
 refine aK λK hK=>Am ?_;unfold rD nz;rw[FC dc,show (24:Int)=((24:Nat):Int) from rfl,shrU dc];refine aC (aO krx aoP) |>.mpr ?_;rw[lA,FC dc,show (16:Int)=((16:Nat):Int) from rfl,shrU dc];refine aC (aO krx aoP) |>.mpr ?_;rw[lA,FC dc,show (8:Int)=((8:Nat):Int) from rfl,shrU dc];refine aC (aO krx aoP) |>.mpr ?_;rw[lA];refine aC (aO krx aoP) |>.mpr ?_;rw[lA];refine bD (λb=>.slice (aw ⟨b,0,av⟩) 4 4) (aG (bj n)) 5 (λ_=>by kernel_rfl) (Own.start w) λb2 w1 ho=>?_;rw[gO (l:=bj n) aoK aoP aoD (ho.sl 0 rfl 1 4 4 rfl)];exact hK _ _ ⟨rfl,ho.done⟩
theorem get0 {s:List UInt8}(h:i < s.length):s[i]?=aw (s.getD i 0):=by
 rw[aoE,aoI h];rfl
theorem QP (s:List UInt8)(w:ak)(hs:s.length<=1000000000):Ret ah 238 #[.string ⟨s.toArray⟩] w (λv w'=>v=.int .i64 (if s.length < 2 then 4 else if lr (s.getD 0 0).toNat (s.getD 1 0).toNat=au then 3 else 0)∧Below w.heap.size w w'):=by
 refine aK λK hK=>Ib ?_;unfold E6 nz;rw[cL aoD]
 try simp only[rs]
 by_cases h2:s.length < 2
 ·rw[anX h2] at hK;simp only[show ai ((s.length:Int) < 2)=au from anZ om,i_t];exact hK _ _ ⟨rfl,Below.refl _ _⟩
 rw[anW h2] at hK;simp only[show ai ((s.length:Int) < 2)=aq from anY om,i_f];refine quiet (q_ix (c:=s.getD 0 0) aoD dc (get0 om) (q_do _ (λ_=>aO krx apH) (q_ix (c:=s.getD 1 0) aoD dc (get0 om) (q_do _ (λ_=>aO krx apH) ?_))));intro w1 hw;have ha:=apT (s.getD 0 0);have hb:=apT (s.getD 1 0);generalize (s.getD 0 0).toNat=a at ha hK;generalize (s.getD 1 0).toNat=b at hb hK;rw[show IntKind.i64.wrap (a:Int)=(a:Int) from aA om om,show IntKind.i64.wrap (b:Int)=(b:Int) from aA om om];rw[VH,ahU om];unfold lr at hK
 try simp only[rs]
 by_cases k1:a % 16=8
 case neg=>
  simp only[show ai (((a % 16:Nat):Int)≠8)=au from anZ om,rs];rw[anX (by simp[k1])] at hK;exact hK _ _ ⟨rfl,hw⟩
 simp only[show ai (((a % 16:Nat):Int)≠8)=aq from anY om,rs];rw[FC dc,show ((a:Nat):Int).fdiv (2 ^ (min (4:Int).toNat IntKind.i64.bits))=((a / 2 ^ 4:Nat):Int) from PR a 4]
 try simp only[rs]
 by_cases k2:7 < a / 16
 ·simp only[show ai ((7:Int) < ((a / 2 ^ 4:Nat):Int))=au from anZ om,rs];rw[anX (by simp[k2])] at hK;exact hK _ _ ⟨rfl,hw⟩
 simp only[show ai ((7:Int) < ((a / 2 ^ 4:Nat):Int))=aq from anY om,rs];rw[wC dc,show min (8:Int).toNat IntKind.i64.bits=8 from rfl,show (a:Int)*2 ^ 8=((a*256:Nat):Int) by push_cast;rfl,aA om om]
 try simp only[rs]
 rw[b_or,or64 ha hb,CR dc,show ((256*a+b:Nat):Int).tmod 31=(((256*a+b) % 31:Nat):Int) from rfl]
 try simp only[rs]
 by_cases k3:(256*a+b) % 31=0
 case neg=>
  simp only[show ai ((((256*a+b) % 31:Nat):Int)≠0)=au from anZ om,rs];rw[anX (by simp[k3])] at hK;exact hK _ _ ⟨rfl,hw⟩
 simp only[show ai ((((256*a+b) % 31:Nat):Int)≠0)=aq from anY om,rs];rw[VH,akO om]
 try simp only[rs]
 by_cases k4:b / 32 % 2=0
 case neg=>
  simp only[show ai (((b / 32 % 2*32:Nat):Int)≠0)=au from anZ om,rs];rw[anX (by simp[k4])] at hK;exact hK _ _ ⟨rfl,hw⟩
 simp only[show ai (((b / 32 % 2*32:Nat):Int)≠0)=aq from anY om,rs];rw[anW (by simp[k1,k2,k3,k4])] at hK;exact hK _ _ ⟨rfl,hw⟩
theorem Qd (s:List UInt8)(most:Int)(M:Mem)(w:ak)(hrp:Rp M)(hod:Od M)(hs:s.length<=1000000000)(hM:M.has w) :
  RetM ah 192 #[.string ⟨s.toArray⟩,.int .i64 most] M w (λv _=>v=zlT (ft s most)∧(ft s most).1.length<=1048576):=by
 refine aU hM λK hK=>Ij ?_;generalize hX:ft s most=X at hK;unfold ft at hX;unfold EG nz;have ho:OwnS M.A w w [.mem M]:=OwnS.memS hM;refine aH ho (QP s w hs) ?_;rintro _ w1 rfl ho;simp only[bQ];by_cases h2:s.length < 2
 ·rw[anX h2] at hX ⊢;simp only[show ai ((4:Int)≠0)=au from rfl,i_t];exact hK _ _ M _ 0 ho rfl M.le_refl ⟨by rw[<-hX];rfl,by rw[<-hX];exact aoO _⟩
 rw[anW h2] at hX ⊢;by_cases hb:lr (s.getD 0 0).toNat (s.getD 1 0).toNat=au
 ·rw[anX hb] at hX ⊢;simp only[show ai ((3:Int)≠0)=au from rfl,i_t];exact hK _ _ M _ 0 ho rfl M.le_refl ⟨by rw[<-hX];rfl,by rw[<-hX];exact aoO _⟩
 rw[anW hb] at hX ⊢;simp only[show ai ((0:Int)≠0)=aq from rfl,i_f];dsimp only at hX;rw[Ac aoD dc om,show (2:Int).toNat=2 from rfl];refine bI ho 0 rfl (Y5 (s.drop 2) most M w1 hrp hod (by rw[aoJ];omega) (ho.hasM 0 rfl)) ?_;rintro _ N w2 g1 ⟨rfl,hu,hl⟩ ho;generalize gy (s.drop 2) most=r at hX hu hl;obtain⟨t,u,e⟩:=r;dsimp only at hX hu hl;rw[aoJ] at hu;simp only[flT,ex,bQ];by_cases he:e=0
 case neg=>
  rw[anX he] at hX;simp only[anZ (show e≠0 from he),i_t];exact hK _ _ N _ 0 ho rfl g1 ⟨by rw[<-hX];rfl,by rw[<-hX];exact aoO _⟩
 rw[anW (by rw[he];decide)] at hX;simp only[anY (show ¬e≠0 by rw[he];decide),i_f];rw[cL aoD,aoJ]
 try simp only[rs]
 rw[aA om om];by_cases h4:s.length < 2+u+4
 ·rw[anX h4] at hX;simp only[show ai (((s.length - 2:Nat):Int) - (u:Int) < 4)=au from anZ om,i_t];exact hK _ _ N _ 0 ho rfl g1 ⟨by rw[<-hX];rfl,by rw[<-hX];exact aoO _⟩
 rw[anW h4] at hX;simp only[show ai (((s.length - 2:Nat):Int) - (u:Int) < 4)=aq from anY om,i_f];refine cR (λW=>OwnS M.A w W [.mem N]) ho.drew ?_;refine iV ?_;rw[aA om om];refine q_do _ (λ_=>jG aoD om om (by rw[aoJ];omega)) ?_;refine kS _ (λW h=>(Rv t W om).mono λv w' ⟨k1,k2⟩=>⟨k1,h.grow k2⟩) ?_;refine kS _ (λW h=>(O1 (ff t) W).mono λv w' ⟨k1,k2⟩=>⟨k1,h.grow k2⟩) ?_;refine Y7 ?_;intro w3 ho;rw[show ((u:Int)+4).toNat - ((u:Nat):Int).toNat=4 by omega,aoF,arE];by_cases h5:(s.drop (2+u)).take 4=bj (ff t)
 case neg=>
  rw[anX h5] at hX;simp only[anZ (show (s.drop (2+u)).take 4≠bj (ff t) from h5),i_t];exact hK _ _ N _ 0 ho rfl g1 ⟨by rw[<-hX];rfl,by rw[<-hX];exact aoO _⟩
 rw[anW (by rw[h5];simp)] at hX;simp only[anY (show ¬(s.drop (2+u)).take 4≠bj (ff t) by rw[h5];simp),i_f];exact hK _ _ N _ 0 ho rfl g1 ⟨by rw[<-hX];rfl,by rw[<-hX];exact hl⟩
theorem MX (s:List UInt8)(most:Int)(M:Mem)(w:ak)(hs:s.length<=1000000000)(hM:M.has w) :
  RetM ah 59 #[.string ⟨s.toArray⟩,.int .i64 most] M w (λv _=>v=zlT (ft s most)∧(ft s most).1.length<=1048576):=by
 refine aU hM λK hK=>xC ?_;generalize hX:ft s most=X at hK;unfold ft at hX;unfold oJ nz;have ho:OwnS M.A w w [.mem M]:=OwnS.memS hM;rw[cL aoD]
 try simp only[rs]
 by_cases h2:s.length < 2
 ·rw[anX h2] at hX;simp only[show ai ((s.length:Int) < 2)=au from anZ om,i_t];exact hK _ _ M _ 0 ho rfl M.le_refl ⟨by rw[<-hX];rfl,by rw[<-hX];exact aoO _⟩
 rw[anW h2] at hX;simp only[show ai ((s.length:Int) < 2)=aq from anY om,i_f];dsimp only at hX;have ha:=apT (s.getD 0 0);have hb:=apT (s.getD 1 0);refine cR (λW=>OwnS M.A w W [.mem M]) ho.drew ?_;refine q_ix (c:=s.getD 0 0) aoD dc (get0 om) (YG dc (q_ne ?_));have x0:∀{K:ao->Prop} {C:ak->Prop},K (.int .u8 ((s.getD 0 0).toNat:Int))->QDo ah C (mIx 9 (.string ⟨s.toArray⟩) (.int .i64 0)) K:=λh=>q_ix (c:=s.getD 0 0) aoD dc (get0 om) h;have x1:∀{K:ao->Prop} {C:ak->Prop},K (.int .u8 ((s.getD 1 0).toNat:Int))->QDo ah C (mIx 9 (.string ⟨s.toArray⟩) (.int .i64 1)) K:=λh=>q_ix (c:=s.getD 1 0) aoD dc (get0 om) h;generalize (s.getD 0 0).toNat=a at ha hX x0;generalize (s.getD 1 0).toNat=b at hb hX x1;rw[show ((a:Nat):Int).tmod 16=((a % 16:Nat):Int) from rfl];unfold lr at hX;have bad:∀W,OwnS M.A w W [.mem M]->X=([],3)->K (.returned (.tuple #[.string ⟨#[]⟩,.int .i64 3])) W:=λW ho hx=>hK _ _ M _ 0 ho rfl M.le_refl ⟨by rw[hx];rfl,by rw[hx];exact aoO _⟩;by_cases k1:a % 16=8
 case neg=>
  rw[anZ (show ((a % 16:Nat):Int)≠8 by omega)];simp only[gq];refine q_pt ?_;simp only[gq];refine q_pt ?_;simp only[gq];refine q_pt ?_;intro w1 ho;rw[i_t];rw[anX (by simp[k1])] at hX;exact bad w1 ho hX.symm
 rw[anY (show ¬((a % 16:Nat):Int)≠8 by omega)];simp only[gq];refine x0 (YX dc ?_);rw[show IntKind.u8.wrap (((a:Nat):Int).tdiv 16)=((a / 16:Nat):Int) by rw[show ((a:Nat):Int).tdiv 16=((a / 16:Nat):Int) from rfl,lA];simp;omega];refine acK (q_pf ?_);by_cases k2:7 < a / 16
 ·rw[anZ (show (7:Int) < ((a / 16:Nat):Int) by omega)];simp only[gq];refine q_pt ?_;simp only[gq];refine q_pt ?_;intro w1 ho;rw[i_t];rw[anX (by simp[k2])] at hX;exact bad w1 ho hX.symm
 rw[anY (show ¬(7:Int) < ((a / 16:Nat):Int) by omega)];simp only[gq];refine x0 (q_do _ (λ_=>aO krx apH) (q_do _ (λ_=>acH) (x1 (q_do _ (λ_=>aO krx apH) (iV (YG dc (q_ne (q_pf ?_))))))));rw[show IntKind.i64.wrap (a:Int)=(a:Int) from aA om om,show IntKind.i64.wrap (b:Int)=(b:Int) from aA om om,aA (n:=256*(a:Int)) om om,aA om om,
  show (256*(a:Int)+(b:Int))=((256*a+b:Nat):Int) by push_cast;rfl,show ((256*a+b:Nat):Int).tmod 31=(((256*a+b) % 31:Nat):Int) from rfl]
 by_cases k3:(256*a+b) % 31=0
 case neg=>
  rw[anZ (show (((256*a+b) % 31:Nat):Int)≠0 by omega)];simp only[gq];refine q_pt ?_;intro w1 ho;rw[i_t];rw[anX (by simp[k3])] at hX;exact bad w1 ho hX.symm
 rw[anY (show ¬(((256*a+b) % 31:Nat):Int)≠0 by omega)];simp only[gq];refine x1 (q_do _ (λ_=>WU) (q_ne (q_pf ?_)));rw[ajK om];intro w1 ho;by_cases k4:b / 32 % 2=0
 case neg=>
  rw[anZ (show ((b / 32 % 2*32:Nat):Int)≠0 by omega),i_t];rw[anX (by simp[k4])] at hX;exact bad w1 ho hX.symm
 rw[anY (show ¬((b / 32 % 2*32:Nat):Int)≠0 by omega),i_f];rw[anW (by simp[k1,k2,k3,k4])] at hX;rw[Ac aoD dc om,show (2:Int).toNat=2 from rfl];refine bI ho 0 rfl (SM (s.drop 2) most M w1 (by rw[aoJ];omega) (ho.hasM 0 rfl)) ?_;rintro _ N w2 g1 ⟨rfl,hu,hl⟩ ho;generalize gy (s.drop 2) most=r at hX hu hl;obtain⟨t,u,e⟩:=r;dsimp only at hX hu hl;rw[aoJ] at hu;simp only[flT,ex,bQ];by_cases he:e=0
 case neg=>
  rw[anX he] at hX;simp only[anZ (show e≠0 from he),i_t];exact hK _ _ N _ 0 ho rfl g1 ⟨by rw[<-hX];rfl,by rw[<-hX];exact aoO _⟩
 rw[anW (by rw[he];decide)] at hX;simp only[anY (show ¬e≠0 by rw[he];decide),i_f,rs];rw[aA om om,cL aoD]
 try simp only[rs]
 rw[aA om om];by_cases h4:s.length < 2+u+4
 ·rw[anX h4] at hX;simp only[show ai ((s.length:Int) - (2+(u:Int)) < 4)=au from anZ om,i_t];exact hK _ _ N _ 0 ho rfl g1 ⟨by rw[<-hX];rfl,by rw[<-hX];exact aoO _⟩
 rw[anW h4] at hX;simp only[show ai ((s.length:Int) - (2+(u:Int)) < 4)=aq from anY om,i_f];refine cR (λW=>OwnS M.A w W [.mem N]) ho.drew ?_;refine iV ?_;rw[aA om om];refine q_do _ (λ_=>jG aoD om om om) ?_;refine kS _ (λW h=>(Tz t W om).mono λv w' ⟨k1,k2⟩=>⟨k1,h.grow k2⟩) ?_;refine kS _ (λW h=>(PZ (ff t) W).mono λv w' ⟨k1,k2⟩=>⟨k1,h.grow k2⟩) ?_;refine Y7 ?_;intro w3 ho;rw[show (2+(u:Int)+4).toNat - (2+(u:Int)).toNat=4 by omega,show (2+(u:Int)).toNat=2+u by omega];by_cases h5:(s.drop (2+u)).take 4=bj (ff t)
 case neg=>
  rw[anX h5] at hX;simp only[anZ (show (s.drop (2+u)).take 4≠bj (ff t) from h5),i_t];exact hK _ _ N _ 0 ho rfl g1 ⟨by rw[<-hX];rfl,by rw[<-hX];exact aoO _⟩
 rw[anW (by rw[h5];simp)] at hX;simp only[anY (show ¬(s.drop (2+u)).take 4≠bj (ff t) by rw[h5];simp),i_f];exact hK _ _ N _ 0 ho rfl g1 ⟨by rw[<-hX];rfl,by rw[<-hX];exact hl⟩
end
section
namespace Eng
open Go.RowKit
def MkIs (w:ak)(E:TypeId)(b:Nat)(l:List UInt8):Prop:=∃rest:List ao,w.heap[b]?=aw (.cells (aG l++rest).toArray E (l.length+rest.length,l.length+rest.length+1))
def Ent.mkr (E:TypeId)(b:Nat)(l:List UInt8):Ent:=
 ⟨λk=>k=b,λw=>MkIs w E b l,λ{w w'} h k=>by obtain⟨rest,h⟩:=h;exact⟨rest,(k b rfl).trans h⟩,λ{w} h k hk=>by obtain⟨rest,h⟩:=h;cases hk;exact dW h⟩
theorem fT (l:List UInt8):(aG l).length=l.length:=by simp[aG]
theorem ML {E:TypeId}{l:List UInt8}(h:(Ent.mkr E b l).is w)(hv:(aG l)[i]?=aw v):w.cell? ⟨b,i,av⟩=aw v:=by
 obtain⟨rest,h⟩:=h;have:(aG l++rest)[i]?=aw v:=by rw[aqO (aoX.1 hv).1];exact hv
 simp[World.cell?,h,this]
theorem Ti {E:TypeId}{l:List UInt8}(h:(Ent.mkr E b l).is w):Sl w (.slice (aw ⟨b,0,av⟩) l.length cap) 1 l.length (aG l):=
 ⟨by rw[fT,aoS],aw ⟨b,0,av⟩,cap,rfl,(λh=>by cases h),λp hp=>by cases hp;exact⟨λ_=>rfl,λj u hj=>by rw[aoN];exact ML h hj⟩⟩
section
variable {S:Nat->Prop}{P:Program}{w w0:ak}{L:List Ent}{PK:PKT}{K:VWP}
theorem Gp {T E:TypeId}{l:List UInt8}(hs:P.underlying T=aw .string)(hd:P.underlying D=aw (.slice E))(he:P.underlying E=aw (.int .u8))(ho:OwnS S w0 w L)
  (k:∀b cap w',OwnS S w0 w' (.mkr E b l::L)->K (.slice (aw ⟨b,0,av⟩) l.length cap) w'):DoX P (fA T D (.string ⟨l.toArray⟩)) w PK K:=by
 have hr:=Go.Lib.run_convert_string_bytes (P:=P) w T D E ⟨l.toArray⟩ hs hd he;rw[cW] at hr;refine jV (bK hr) (k _ _ _ ?_);refine ho.add ⟨?_,?_,?_,?_,?_⟩ (.mkr E w.heap.size l) ?_ (λk hk=>by cases hk;exact aoG _)
 ·unfold Go.Lib.bytesWorld World.freeze;split<;>rfl
 ·unfold Go.Lib.bytesWorld World.freeze;split<;>rfl
 ·unfold Go.Lib.bytesWorld World.freeze;split<;>rfl
 ·rw[Go.Lib.bytesWorld_size];omega
 ·intro j hj _;exact Go.Lib.bytesWorld_at_old w E _ j hj
 ·refine⟨(Array.replicate (grownCap w l.length 0 E - l.length) (Value.int .u8 0)).toList,?_⟩;have:=Go.Lib.bytesWorld_at_new w E ⟨l.toArray⟩;rw[this];have e:Go.Lib.bytesCells w E ⟨l.toArray⟩=(aG l++(Array.replicate (grownCap w l.length 0 E - l.length) (Value.int .u8 0)).toList).toArray:=by
   unfold Go.Lib.bytesCells;rw[cW];apply Array.ext';simp[aG]
  rw[e];simp[aG]
theorem Wg (i:Nat){T E:TypeId}{off:Nat}{l:List UInt8}{c:UInt8}(ho:OwnS S w0 w L)(hi:L[i]?=aw (.mkr E b l))(hs:(P.info? T).map (·.size)=aw 1)(hoff:off < l.length)
  (k:∀w',OwnS S w0 w' (L.set i (.mkr E b (l.set off c)))->K undef w'):DoX P (aV T (.pointer (aw ⟨b,off,av⟩)) (.int .u8 (c.toNat:Int))) w PK K:=by
 obtain⟨rest,hb⟩:=(show MkIs w E b l from ho.at_ i hi);have hcell:=ML (ho.at_ i hi) (i:=off) (v:=.int .u8 (l[off].toNat:Int)) (by simp[aG,hoff]);have hfz:w.frozen? ⟨b,off,av⟩=false:=by
  unfold World.frozen?;rw[hb];simp;omega
 have hst:=run_storeCells_cells (P:=P) b off [.int .u8 (c.toNat:Int)] 0 w (λj hj=>by
  have:j=0:=by simpa using hj
  subst this;exact (congrArg Option.isSome hcell)) (λj hj=>by
  have:j=0:=by simpa using hj
  subst this;exact hfz) (λv hv=>by rw[aoZ.1 hv];rfl)
 obtain⟨ii,hii,h1⟩:=aqN.1 hs;have hrun:(Instr.storeAt T (.pointer (aw ⟨b,off,av⟩)) (.int .u8 (c.toNat:Int))).run P w=.ok () (w.setCells b (off+0) [.int .u8 (c.toNat:Int)]):=by
  have hc:(Value.int .u8 (c.toNat:Int)).cells=#[Value.int .u8 (c.toNat:Int)]:=rfl;simp[Instr.storeAt,Instr.sureAddr,storeVar,hc,sizeOf,typeInfo,hii,h1,hst]
 refine D4 (Jx hrun) (k _ ?_);have hblt:b < w.heap.size:=dW hb;have e1:w.setCells b (off+0) [.int .u8 (c.toNat:Int)]=w.setCell ⟨b,off,av⟩ (.int .u8 (c.toNat:Int)):=rfl;rw[e1];refine ho.put i hi (w':=w.setCell ⟨b,off,av⟩ (.int .u8 (c.toNat:Int))) ⟨rfl,rfl,rfl,by simp[World.setCell],λk _ hk=>?_⟩ (.mkr E b (l.set off c)) ⟨rest,?_⟩ (λk hk=>.inl hk)
 ·have hkb:k≠b:=λe=>hk e;simp[World.setCell,avB,Ne.symm hkb]
 ·have hbg:w.heap[b]=.cells (aG l++rest).toArray E (l.length+rest.length,l.length+rest.length+1):=(atU.1 hb).2;simp only[World.setCell,avB,anX,hb,atG,atL,asN,if_false,aqM]
  congr 2
  apply Array.ext';simp only[Array.toList_setIfInBounds];rw[List.set_append_left _ _ (by rw[fT];exact hoff)];simp[aG,atQ]
end
end Eng
end
section
open Eng
def Fw(t0 w)(K:KT):=nz f149 1 [] [] [(2,25)] (zg [0] [t0]) w K
theorem HT:Fw t0 w k0->Calls ah 149 #[t0] w k0:=cw func149
def Ba(t0 w)(K:KT):=nz f82 1 [] [] [] (zg [0] [t0]) w K
theorem EM:Ba t0 w k0->Calls ah 82 #[t0] w k0:=cw func82
def EN(t0 w)(K:KT):=nz f231 1 [] [] [] (zg [0] [t0]) w K
theorem HW:EN t0 w k0->Calls ah 231 #[t0] w k0:=cw func231
def AP(t0 t1 w)(K:KT):=nz f316 1 [] [] [] (zg [0,1] [t0,t1]) w K
theorem Fq:AP t0 t1 w k0->Calls ah 316 #[t0,t1] w k0:=cw func316
def fG(t8 t23 w)(N1:JT)(K:KT):=nz f286 983 [N1] [nh 9 [8,23]] [] (zg [8,23] [t8,t23]) w K
def gZ(t7 t8 t22 t23 w)(N1:JT)(K:KT):=nz f286 87 [N1] [nh 9 [8,23],(16,[8],λs v j w f=>fG (vg v 0) (s 23) w (f 0) K)] [] (zg [7,8,22,23] [t7,t8,t22,t23]) w K
def Bc(t0 t1 t2 w)(K:KT):=nz f286 1 [] [(9,[8,23],λs v j w f=>gZ (s 7) (vg v 0) (s 22) (vg v 1) w (f 0) K)] [] (zg [0,1,2] [t0,t1,t2]) w K
theorem E3:Bc t0 t1 t2 w k0->Calls ah 286 #[t0,t1,t2] w k0:=cz [(8,[8])] [(4,[8,23])] func286
def Hs(t0 t1 w)(K:KT):=nz f285 1 [] [] [] (zg [0,1] [t0,t1]) w K
theorem J8:Hs t0 t1 w k0->Calls ah 285 #[t0,t1] w k0:=cw func285
def sZ(t0 t1 t2 w)(K:KT):=nz f263 1 [] [] [(1,21)] (zg [0,1,2] [t0,t1,t2]) w K
theorem AK:sZ t0 t1 t2 w k0->Calls ah 263 #[t0,t1,t2] w k0:=cw func263
def nV(t1 t2 t5 t13 t14 t15 w)(N1:JT)(K:KT):=nz f233 43 [N1] [nh 7 [15]] [] (zg [1,2,5,13,14,15] [t1,t2,t5,t13,t14,t15]) w K
def sC(t0 t1 w)(K:KT):=nz f233 1 [] [(7,[15],λs v j w f=>nV (s 1) (s 2) (s 5) (s 13) (s 14) (vg v 0) w (f 0) K)] [] (zg [0,1] [t0,t1]) w K
theorem Al:sC t0 t1 w k0->Calls ah 233 #[t0,t1] w k0:=cz [] [(3,[15])] func233
def oM(t1 t2 t7 t8 w)(N1:JT)(K:KT):=nz f240 11 [N1] [nh 5 [8]] [(4,11)] (zg [1,2,7,8] [t1,t2,t7,t8]) w K
def rM(t0 t1 w)(K:KT):=nz f240 1 [] [(5,[8],λs v j w f=>oM (s 1) (s 2) (s 7) (vg v 0) w (f 0) K)] [] (zg [0,1] [t0,t1]) w K
theorem AB:rM t0 t1 w k0->Calls ah 240 #[t0,t1] w k0:=cz [] [(2,[8])] func240
def tL(t3 t6 t7 t8 w)(N1:JT)(K:KT):=nz f264 43 [N1] [nh 7 [3,8]] [] (zg [3,6,7,8] [t3,t6,t7,t8]) w K
def zJ(t0 w)(K:KT):=nz f264 1 [] [(7,[3,8],λs v j w f=>tL (vg v 0) (s 6) (s 7) (vg v 1) w (f 0) K)] [] (zg [0] [t0]) w K
theorem D6:zJ t0 w k0->Calls ah 264 #[t0] w k0:=cz [] [(3,[3,8])] func264
def oD(t3 t4 t5 w)(N1:JT)(K:KT):=nz f234 471 [N1] [nh 9 [3,4,5]] [] (zg [3,4,5] [t3,t4,t5]) w K
def oF(t1 t3 t4 t5 w)(N1:JT)(K:KT):=nz f234 87 [N1] [nh 9 [3,4,5],(10,[3,4],λs v j w f=>oD (vg v 0) (vg v 1) (s 5) w (f 0) K)] [] (zg [1,3,4,5] [t1,t3,t4,t5]) w K
def rH(t0 w)(K:KT):=nz f234 1 [] [(9,[3,4,5],λs v j w f=>oF (s 1) (vg v 0) (vg v 1) (vg v 2) w (f 0) K)] [] (zg [0] [t0]) w K
theorem Av:rH t0 w k0->Calls ah 234 #[t0] w k0:=cz [(5,[3,4])] [(4,[3,4,5])] func234
def Ab(t0 t1 t2 w)(K:KT):=nz f232 1 [] [] [] (zg [0,1,2] [t0,t1,t2]) w K
theorem D2:Ab t0 t1 t2 w k0->Calls ah 232 #[t0,t1,t2] w k0:=cw func232
def uM(t1 t6 t8 w)(N1:JT)(K:KT):=nz f190 1855 [N1] [nh 23 [1,8]] [] (zg [1,6,8] [t1,t6,t8]) w K
def uF(b c a w)(J2:JT)(K:KT):=
 HeldX w (λS5 w=>HDo ah S5 (fA 3 5 a) λd=>HDo ah S5 (aJ 246 c) λe=>DoX ah (bF 53 1 #[(0,d)]) w (ax 6 (pk K)) λf w=>S5 w∧(DoX ah (mB .append #[53,53] 53 #[aq,aq] #[b,f]) w (ax 6 (pk K)) λg w=>S5 w∧(CallX ah 233 #[e,a] w (ax 6 (pk K)) λh w=>S5 w∧(DoX ah (mB .append #[53,53] 53 #[aq,aq] #[g,h]) w (ax 6 (pk K)) λi w=>S5 w∧(J2 [i] w)))))
def gB(c a b w)(J2:JT)(K:KT):=
 fax 27 c 0 w K λe w=>ldx 3 e w K λf w=>bnx .sub 3 f (iN 10) w K λg w=>JoinX (λJ4=>fax 27 c 0 w K λh w=>ldx 3 h w K λd w=>ecx .eql 3 69 2 d w K λi w=>IfX i (ldx 246 b w K λj w=>cx 233 #[j,(iN 1)] w K λk w=>apx 53 a k w K λl w=>J2 [l] w) (ecx .eql 3 69 15 d w K λm w=>IfX m (ldx 246 b w K λn w=>cx 234 #[n] w K λo w=>J4 [a,o] w) (J4 [a,g] w))) (λvs4 w=>∀_:Sg,uF (vs4.getD 0 undef) b (vs4.getD 1 undef) w J2 K)
def kD(b d e c a w)(N1:JT)(K:KT):=
 lnx 9 b w K λi w=>bnx .gtr 3 i (iN 0) w K λj w=>IfX j (JoinX (λJ2=>HeldX w (λS3 w=>HDo ah (λ_=>True) (mFA 246 a 1) λk=>HDo ah S3 (aJ 53 k) λf=>HDo ah (λ_=>True) (cM 9 b av (aw e) av) λg=>HDo ah (λ_=>True) (mFA 246 a 0) λh=>(DoX ah (fA 9 53 g) w (ax 7 (pk K)) λl w=>S3 w∧(DoX ah (aV 53 h f) w (ax 7 (pk K)) λ_ w=>(HDo ah (λ_=>True) (mFA 246 a 1) λm=>DoX ah (aV 53 m l) w (ax 7 (pk K)) λ_ w=>(gB d c a w J2 K))))∧(DoX ah (aV 53 h f) w (ax 7 (pk K)) λ_ w=>(DoX ah (fA 9 53 g) w (ax 7 (pk K)) λt62_1 w=>S3 w∧(HDo ah (λ_=>True) (mFA 246 a 1) λt64_1=>DoX ah (aV 53 t64_1 t62_1) w (ax 7 (pk K)) λ_ w=>(gB d c a w J2 K)))))) (λvs2 w=>∀_:Sg,uM b e (vs2.getD 0 undef) w N1 K)) (dx (fA 53 9 c) w K λn w=>K (.returned (.tuple #[n,(iN 0)])) w)
def oZ(t0 t1 w)(K:KT):=nz f190 1 [] [(23,[1,8],λs v j w f=>kD (vg v 0) (s 2) (s 6) (vg v 1) (s 9) w (f 0) K)] [] (zg [0,1] [t0,t1]) w K
theorem rX:oZ t0 t1 w k0->Calls ah 190 #[t0,t1] w k0:=cz [(12,[8]),(20,[8,10])] [(11,[1,8])] func190
def gC(b c d e a f w)(N2:JT)(K:KT):=
 ldx 246 a w K λg w=>cx 240 #[g,f] w K λm w=>fax 246 a 1 w K λh w=>ldx 53 h w K λi w=>apx 53 e i w K λj w=>bnx .add 3 c d w K λk w=>slx 9 b (aw k) av av w K λl w=>N2 [l,j] w
def sX(c d b f a e w)(N2:JT)(K:KT):=
 bnx .geq 3 e (iN 5) w K λj w=>IfX j (K (.returned (.tuple #[(.string ⟨#[]⟩),(iN 3)])) w) (HeldX w (λS4 w=>HDo ah (λ_=>True) (mFA 246 a 1) λk=>HDo ah S4 (aJ 53 k) λg=>HDo ah (λ_=>True) (mBin .add 3 d b) λl=>HDo ah (λ_=>True) (cM 9 c (aw b) (aw l) av) λh=>HDo ah (λ_=>True) (mFA 246 a 0) λi=>(DoX ah (fA 9 53 h) w (ax 10 (pk K)) λm w=>S4 w∧(DoX ah (aV 53 i g) w (ax 10 (pk K)) λ_ w=>(HDo ah (λ_=>True) (mFA 246 a 1) λn=>DoX ah (aV 53 n m) w (ax 10 (pk K)) λ_ w=>(gC c d b f a e w N2 K))))∧(DoX ah (aV 53 i g) w (ax 10 (pk K)) λ_ w=>(DoX ah (fA 9 53 h) w (ax 10 (pk K)) λt57_1 w=>S4 w∧(HDo ah (λ_=>True) (mFA 246 a 1) λt59_1=>DoX ah (aV 53 t59_1 t57_1) w (ax 10 (pk K)) λ_ w=>(gC c d b f a e w N2 K))))))
def tU(t1 t6 t7 t9 t10 w)(N2:JT)(K:KT):=nz f193 639 [N2] [nh 23 [1,9],(32,[11],λs v j w f=>sX (s 1) (s 6) (s 7) (s 9) (s 10) (vg v 0) w (f 0) K)] [] (zg [1,6,7,9,10] [t1,t6,t7,t9,t10]) w K
def kI(t1 t2 t6 t7 w)(K:KT):=nz f193 15 [] [(23,[1,9],λs v j w f=>tU (vg v 0) (s 6) (s 7) (vg v 1) (s 10) w (f 0) K)] [] (zg [1,2,6,7] [t1,t2,t6,t7]) w K
def oW(t0 t1 w)(K:KT):=nz f193 1 [] [(8,[7],λs v j w f=>kI (s 1) (s 2) (s 6) (vg v 0) w K)] [] (zg [0,1] [t0,t1]) w K
theorem qZ:oW t0 t1 w k0->Calls ah 193 #[t0,t1] w k0:=cz [(4,[7]),(16,[11])] [(11,[1,9])] func193
end
section
open Eng
def tJ(t0 w)(K:KT):=nz f64 1 [] [] [] (zg [0] [t0]) w K
theorem Bv:tJ t0 w k0->Calls ah 64 #[t0] w k0:=cw func64
def pT(t0 w)(K:KT):=nz f58 1 [] [] [] (zg [0] [t0]) w K
theorem xM:pT t0 w k0->Calls ah 58 #[t0] w k0:=cw func58
def sS(t0 w)(K:KT):=nz f247 1 [] [] [] (zg [0] [t0]) w K
theorem AG:sS t0 w k0->Calls ah 247 #[t0] w k0:=cw func247
def pS(t0 t1 t2 w)(K:KT):=nz f198 1 [] [] [] (zg [0,1,2] [t0,t1,t2]) w K
theorem yN:pS t0 t1 t2 w k0->Calls ah 198 #[t0,t1,t2] w k0:=cw func198
def wU(t0 t1 w)(K:KT):=nz f197 1 [] [] [] (zg [0,1] [t0,t1]) w K
theorem CU:wU t0 t1 w k0->Calls ah 197 #[t0,t1] w k0:=cw func197
def tG(t0 t1 t2 t3 t4 w)(K:KT):=nz f131 1 [] [] [] (zg [0,1,2,3,4] [t0,t1,t2,t3,t4]) w K
theorem B7:tG t0 t1 t2 t3 t4 w k0->Calls ah 131 #[t0,t1,t2,t3,t4] w k0:=cw func131
def nL(d e b f c a w)(N1:JT)(K:KT):=
 lnx 53 b w K λg w=>bnx .lss 3 a g w K λh w=>IfX h (QuietX w (λC2=>QDo ah C2 (mIA 53 b a) λi=>QDo ah C2 (aJ 5 i) λj=>QCall ah C2 131 #[d,e,b,a,f] λk=>QDo ah C2 (mBin .sub 5 j k) λl=>
 ∀w,C2 w ->
 DoX ah (bF 53 1 #[(0,l)]) w (ax 8 (pk K)) λm w=>DoX ah (mB .append #[53,53] 53 #[aq,aq] #[c,m]) w (ax 8 (pk K)) λn w=>bnx .add 3 a (iN 1) w K λo w=>N1 [n,o] w)) (K (.returned c) w)
def rF(t0 t1 t2 t3 w)(K:KT):=nz f66 1 [] [(7,[9,10],λs v j w f=>nL (s 0) (s 1) (s 2) (s 3) (vg v 0) (vg v 1) w (f 0) K)] [] (zg [0,1,2,3] [t0,t1,t2,t3]) w K
theorem Aw:rF t0 t1 t2 t3 w k0->Calls ah 66 #[t0,t1,t2,t3] w k0:=cz [] [(3,[9,10])] func66
def nR(t7 t8 t9 w)(N1:JT)(K:KT):=nz f65 235 [N1] [nh 7 [7,8,9]] [] (zg [7,8,9] [t7,t8,t9]) w K
def nJ(t7 t8 t9 t10 t11 t12 w)(J2 N3:JT)(K:KT):=nz f65 2731 [nj,J2,N3] [nh 7 [7,8,9],nh 8 [7,8],nh 15 [11,12]] [(9,15)] (zg [7,8,9,10,11,12] [t7,t8,t9,t10,t11,t12]) w K
def nN(t0 t1 t2 t7 t8 t9 w)(N1:JT)(K:KT):=nz f65 43 [N1] [nh 7 [7,8,9],(15,[11,12],λs v j w f=>nJ (s 7) (s 8) (s 9) (s 10) (vg v 0) (vg v 1) w (f 1) (f 0) K),(8,[7,8],λs v j w f=>nR (vg v 0) (vg v 1) (s 9) w (f 0) K)] [] (zg [0,1,2,7,8,9] [t0,t1,t2,t7,t8,t9]) w K
def qW(t0 t1 t2 w)(K:KT):=nz f65 1 [] [(7,[7,8,9],λs v j w f=>nN (s 0) (s 1) (s 2) (vg v 0) (vg v 1) (vg v 2) w (f 0) K)] [] (zg [0,1,2] [t0,t1,t2]) w K
theorem An:qW t0 t1 t2 w k0->Calls ah 65 #[t0,t1,t2] w k0:=cz [(4,[7,8])] [(3,[7,8,9]),(7,[11,12])] func65
def kG(t2 t6 t7 t8 t9 t10 t11 w)(N1:JT)(K:KT):=nz f21 125695 [N1] [nh 29 [7,8,9]] [] (zg [2,6,7,8,9,10,11] [t2,t6,t7,t8,t9,t10,t11]) w K
def jZ(t8 t11 w)(J2:JT)(K:KT):=nz f21 1927935 [nj,J2] [nh 29 [7,8,9],nh 46 [8,11]] [] (zg [8,11] [t8,t11]) w K
def fL(t1 t2 t6 t7 t8 t9 w)(N1:JT)(K:KT):=nz f21 2815 [N1] [nh 29 [7,8,9],(44,[11],λs v j w f=>jZ (s 8) (vg v 0) w (f 0) K),(46,[8,11],λs v j w f=>kG (s 2) (s 6) (s 7) (vg v 0) (s 9) (s 10) (vg v 1) w (f 0) K)] [] (zg [1,2,6,7,8,9] [t1,t2,t6,t7,t8,t9]) w K
def nQ(t0 t1 w)(K:KT):=nz f21 1 [] [(29,[7,8,9],λs v j w f=>fL (s 1) (s 2) (s 6) (vg v 0) (vg v 1) (vg v 2) w (f 0) K)] [] (zg [0,1] [t0,t1]) w K
theorem wS:nQ t0 t1 w k0->Calls ah 21 #[t0,t1] w k0:=cz [(22,[11]),(23,[8,11])] [(14,[7,8,9])] func21
def kT(f g c d h i e j a b w)(N2 N4:JT)(K:KT):=
 bnx .lss 3 b c w K λk w=>IfX k (QuietX w (λC5=>QDo ah C5 (mBin .add 3 e d) λl=>QDo ah C5 (mBin .add 3 l b) λm=>QDo ah C5 (mIx 9 f m) λn=>QDo ah C5 (mFA 27 g 1) λo=>QDo ah C5 (aJ 3 o) λp=>QCall ah C5 131 #[j,h,a,b,p] λq=>QDo ah C5 (mBin .add 5 n q) λr=>
 ∀w,C5 w ->
 DoX ah (bF 53 1 #[(0,r)]) w (ax 9 (pk K)) λs w=>DoX ah (mB .append #[53,53] 53 #[aq,aq] #[a,s]) w (ax 9 (pk K)) λt w=>bnx .add 3 b (iN 1) w K λu w=>N4 [t,u] w)) (apx 53 i a w K λv w=>bnx .add 3 c d w K λx w=>bnx .add 3 e x w K λy w=>N2 [a,v,y] w)
def jY(t1 t2 t6 t7 t8 t9 t10 t11 w)(N2:JT)(K:KT):=nz f60 60159 [N2] [nh 29 [8,9,10],(47,[12,13],λs v j w f=>kT (s 1) (s 2) (s 6) (s 7) (s 8) (s 9) (s 10) (s 11) (vg v 0) (vg v 1) w (f 1) (f 0) K)] [] (zg [1,2,6,7,8,9,10,11] [t1,t2,t6,t7,t8,t9,t10,t11]) w K
def kL(t1 t2 t6 t7 t8 t9 t10 w)(N2:JT)(K:KT):=nz f60 2815 [N2] [nh 29 [8,9,10],(38,[11],λs v j w f=>jY (s 1) (s 2) (s 6) (s 7) (s 8) (s 9) (s 10) (vg v 0) w (f 0) K)] [] (zg [1,2,6,7,8,9,10] [t1,t2,t6,t7,t8,t9,t10]) w K
def kY(t1 t2 t6 t7 w)(K:KT):=nz f60 127 [] [(29,[8,9,10],λs v j w f=>kL (s 1) (s 2) (s 6) (s 7) (vg v 0) (vg v 1) (vg v 2) w (f 0) K)] [] (zg [1,2,6,7] [t1,t2,t6,t7]) w K
def nU(t0 t1 w)(K:KT):=nz f60 1 [] [(20,[7],λs v j w f=>kY (s 1) (s 2) (s 6) (vg v 0) w K)] [] (zg [0,1] [t0,t1]) w K
theorem xA:nU t0 t1 w k0->Calls ah 60 #[t0,t1] w k0:=cz [(10,[7]),(19,[11])] [(14,[8,9,10]),(23,[12,13])] func60
end
section
open Eng Go.RowKit
structure Pm where
 p:Int
 c:Int
 n:Int
def pmC (x:Pm):List Value:=[.int .i64 x.p,.int .i64 x.c,.int .i64 x.n]
def pmV (x:Pm):Value:=.agg (pmC x).toArray
abbrev pmE (b:Nat)(x:Pm):Ent:=.cells b (pmC x) 27
theorem QB {x:Pm}:∀u∈pmC x,u.oneCell'=true:=by
 intro u hu;simp only[pmC,aoM,aqI,or_false] at hu;rcases hu with rfl|rfl|rfl<;>rfl
theorem HR:aggN ah 27=aw 3:=krx
theorem szPm:(Tryz.prog.info? 27).map (·.size)=aw 3:=krx
theorem afS:fOff ah 27 0=aw 0:=krx
theorem NP:fOff ah 27 1=aw 1:=krx
theorem WM:fOff ah 27 2=aw 2:=krx
def Pm.known (x:Pm):Prop:=x.p=1∨x.p=2∨(10<=x.p∧x.p<=15)
def Pm.ok (x:Pm):Prop:=x.known∧1<=x.c∧1<=x.n∧x.c<=8192∧x.c*x.n<=8192
instance (x:Pm):Decidable x.known:=by unfold Pm.known;infer_instance
instance (x:Pm):Decidable x.ok:=by unfold Pm.ok;infer_instance
theorem Pm.n_le {x:Pm}(h:x.ok):x.n<=8192:=by
 obtain⟨_,h1,h2,_,h4⟩:=h;have:1*x.n<=x.c*x.n:=Int.mul_le_mul_of_nonneg_right h1 om;omega
theorem Pm.mul_pos {x:Pm}(h:x.ok):1<=x.c*x.n:=by
 obtain⟨_,h1,h2,_,h4⟩:=h;have:1*1<=x.c*x.n:=Int.mul_le_mul h1 h2 om om;omega
section
variable {w:ak}{PK:PKT}{K:VWP}{S:Nat->Prop}{w0:ak}{L:List Ent}
theorem yE (x:Pm)(ho:OwnS S w0 w L)(k:∀b w',OwnS S w0 w' (pmE b x::L)->K (.pointer (aw ⟨b,0,av⟩)) w'):DoX ah (mBox 27 (pmV x)) w PK K:=
 bD (λb=>.pointer (aw ⟨b,0,av⟩)) (pmC x) 27 (λ_=>by kernel_rfl) ho k
theorem pm_v (ho:OwnS S w0 w L)(j:Nat){x:Pm}(hi:L[j]?=aw (pmE b x)):DoX ah (aJ 27 (.pointer (aw ⟨b,0,av⟩))) w PK K=K (pmV x) w:=l_at (ho.agg j hi HR)
theorem pm_0 (ho:OwnS S w0 w L)(j:Nat){x:Pm}(hi:L[j]?=aw (pmE b x)):DoX ah (aJ 3 (.pointer (aw ⟨b,0+0,av⟩))) w PK K=K (.int .i64 x.p) w:=aS bP (ho.cell j hi 0 rfl)
theorem pm_1 (ho:OwnS S w0 w L)(j:Nat){x:Pm}(hi:L[j]?=aw (pmE b x)):DoX ah (aJ 3 (.pointer (aw ⟨b,0+1,av⟩))) w PK K=K (.int .i64 x.c) w:=aS bP (ho.cell j hi 1 rfl)
theorem pm_2 (ho:OwnS S w0 w L)(j:Nat){x:Pm}(hi:L[j]?=aw (pmE b x)):DoX ah (aJ 3 (.pointer (aw ⟨b,0+2,av⟩))) w PK K=K (.int .i64 x.n) w:=aS bP (ho.cell j hi 2 rfl)
theorem fpm0 {off:Nat}:DoX ah (mFA 27 (.pointer (aw ⟨b,off,av⟩)) 0) w PK K=K (.pointer (aw ⟨b,off+0,av⟩)) w:=aP afS
theorem fpm1 {off:Nat}:DoX ah (mFA 27 (.pointer (aw ⟨b,off,av⟩)) 1) w PK K=K (.pointer (aw ⟨b,off+1,av⟩)) w:=aP NP
theorem fpm2 {off:Nat}:DoX ah (mFA 27 (.pointer (aw ⟨b,off,av⟩)) 2) w PK K=K (.pointer (aw ⟨b,off+2,av⟩)) w:=aP WM
end
theorem MR {x:Pm}(h:(pmE b x).is W):(aJ 3 (.pointer (aw ⟨b,0+1,av⟩))).run ah W=.ok (.value (.int .i64 x.c)) W:=aB bP (aI (T:=27) (cs:=pmC x) h rfl)
theorem Xq {x:Pm}(h:(pmE b x).is W):(aJ 3 (.pointer (aw ⟨b,0+2,av⟩))).run ah W=.ok (.value (.int .i64 x.n)) W:=aB bP (aI (T:=27) (cs:=pmC x) h rfl)
theorem Mh (x:Pm)(w:ak):Ret ah 149 #[pmV x] w (λv w'=>v=.bool (decide x.ok)∧Below w.heap.size w w'):=by
 refine aK λK hK=>HT ?_;unfold Fw nz;refine yE x (Own.start w) λb w1 ho=>?_;rw[fpm0,pm_0 ho 0 rfl];have no:∀{W:ak},¬x.ok->Below w.heap.size w W->K (.returned (.bool aq)) W:=λh hw=>hK _ _ ⟨by rw[anY h],hw⟩;have rest:x.known->QuietX w1 (λC1=>
   QDo ah C1 (mFA 27 (.pointer (aw ⟨b,0,av⟩)) 1) λt24=>
   QDo ah C1 (aJ 3 t24) λt25=>
   QDo ah C1 (mBin .geq 3 t25 (.int .i64 1)) λt26=>
   QDo ah C1 (eH (.bool au) t26 (.bool aq)) λt27=>
   GQ t27 au (λE=>QDo ah C1 (mFA 27 (.pointer (aw ⟨b,0,av⟩)) 2) E) λt29=>
   GQ t27 au (λE=>QDo ah C1 (aJ 3 t29) E) λt30=>
   GQ t27 au (λE=>QDo ah C1 (mBin .geq 3 t30 (.int .i64 1)) E) λt31=>
   QDo ah C1 (eH t27 t31 (.bool aq)) λt32=>
   GQ t32 au (λE=>QDo ah C1 (mFA 27 (.pointer (aw ⟨b,0,av⟩)) 1) E) λt34=>
   GQ t32 au (λE=>QDo ah C1 (aJ 3 t34) E) λt35=>
   GQ t32 au (λE=>QDo ah C1 (mBin .leq 3 t35 (.int .i64 8192)) E) λt36=>
   QDo ah C1 (eH t32 t36 (.bool aq)) λt37=>
   GQ t37 au (λE=>QDo ah C1 (mFA 27 (.pointer (aw ⟨b,0,av⟩)) 2) E) λt39=>
   GQ t37 au (λE=>QDo ah C1 (aJ 3 t39) E) λt40=>
   GQ t37 au (λE=>QDo ah C1 (mFA 27 (.pointer (aw ⟨b,0,av⟩)) 1) E) λt41=>
   GQ t37 au (λE=>QDo ah C1 (aJ 3 t41) E) λt42=>
   GQ t37 au (λE=>QDo ah C1 (mBin .quo 3 (.int .i64 8192) t42) E) λt43=>
   GQ t37 au (λE=>QDo ah C1 (mBin .leq 3 t40 t43) E) λt44=>
   QDo ah C1 (eH t37 t44 (.bool aq)) λt45=>
   ∀w,C1 w->K (.returned t45) w):=by
  intro hk;refine cR (λW=>OwnS NoB w W [pmE b x]) ho.drew ?_;refine q_do _ (λ_=>bH NP) (q_at _ (λW h=>MR (h.at_ 0 rfl)) (aiO (q_pt ?_)));by_cases h1:1<=x.c
  case neg=>
   rw[anY h1];simp only[gq];refine q_pf ?_;simp only[gq];refine q_pf ?_;simp only[gq];refine q_pf λW ho=>?_;exact no (λh=>h1 h.2.1) ho.done
  rw[anZ h1];simp only[gq];refine q_do _ (λ_=>bH WM) (q_at _ (λW h=>Xq (h.at_ 0 rfl)) (aiO (q_pt ?_)));by_cases h2:1<=x.n
  case neg=>
   rw[anY h2];simp only[gq];refine q_pf ?_;simp only[gq];refine q_pf λW ho=>?_;exact no (λh=>h2 h.2.2.1) ho.done
  rw[anZ h2];simp only[gq];refine q_do _ (λ_=>bH NP) (q_at _ (λW h=>MR (h.at_ 0 rfl)) (Yx (q_pt ?_)));by_cases h3:x.c<=8192
  case neg=>
   rw[anY h3];simp only[gq];refine q_pf λW ho=>?_;exact no (λh=>h3 h.2.2.2.1) ho.done
  rw[anZ h3];simp only[gq];refine q_do _ (λ_=>bH WM) (q_at _ (λW h=>Xq (h.at_ 0 rfl)) ?_);refine q_do _ (λ_=>bH NP) (q_at _ (λW h=>MR (h.at_ 0 rfl)) (YX om (Yx (q_pt λW ho=>?_))));have hq:(8192:Int).tdiv x.c=8192 / x.c:=awG dc;have hq2:8192 / x.c<=8192:=Int.ediv_le_self _ dc;have hq3:0<=8192 / x.c:=Int.ediv_nonneg dc om;rw[hq,aA om om];refine hK _ _ ⟨?_,ho.done⟩;have e:x.n<=8192 / x.c↔x.c*x.n<=8192:=by rw[Int.le_ediv_iff_mul_le om,Int.mul_comm]
  congr 1
  have:x.ok↔x.n<=8192 / x.c:=⟨λh=>e.2 h.2.2.2.2,λh=>⟨hk,h1,h2,h3,e.1 h⟩⟩;exact (decide_eq_decide.2 this).symm
 simp only[rs];by_cases k1:x.p=1
 ·simp only[k1,aoA,rs,gq,g_un];exact rest (.inl k1)
 simp only[k1,aoB,rs];rw[fpm0,pm_0 ho 0 rfl];simp only[rs];by_cases k2:x.p=2
 ·simp only[k2,aoA,rs,gq,g_un];exact rest (.inr (.inl k2))
 simp only[k2,aoB,rs];rw[fpm0,pm_0 ho 0 rfl];simp only[rs];by_cases k3:10<=x.p
 ·simp only[k3,aoA,rs];rw[fpm0,pm_0 ho 0 rfl];simp only[rs];by_cases k4:x.p<=15
  ·simp only[k4,aoA,rs,gq,g_un];exact rest (.inr (.inr ⟨k3,k4⟩))
  ·simp only[k4,aoB,rs,gq,g_un];refine cR (λW=>OwnS NoB w W [pmE b x]) ho.drew ?_;refine q_pf ?_;simp only[gq];refine q_pf ?_;simp only[gq];refine q_pf ?_;simp only[gq];refine q_pf λW ho=>no (λh=>by have:=h.1;unfold Pm.known at this;omega) ho.done
 ·simp only[k3,aoB,rs,gq,g_un];refine cR (λW=>OwnS NoB w W [pmE b x]) ho.drew ?_;refine q_pf ?_;simp only[gq];refine q_pf ?_;simp only[gq];refine q_pf ?_;simp only[gq];refine q_pf λW ho=>no (λh=>by have:=h.1;unfold Pm.known at this;omega) ho.done
theorem Lm (x:Pm)(w:ak):Ret ah 82 #[pmV x] w (λv w'=>v=.int .i64 (if x.ok then 0 else 1)∧Below w.heap.size w w'):=by
 refine aK λK hK=>EM ?_;unfold Ba nz;refine yE x (Own.start w) λb w1 ho=>?_;rw[pm_v ho 0 rfl];refine aH ho (Mh x w1) ?_;rintro _ w2 rfl ho;simp only[rs];by_cases h:x.ok
 ·rw[anX h] at hK;simp only[h,aoA,aqF,i_f];exact hK _ _ ⟨rfl,ho.done⟩
 ·rw[anW h] at hK;simp only[h,aoB,aqD,i_t];exact hK _ _ ⟨rfl,ho.done⟩
theorem IJ (x:Pm)(w:ak):Ret ah 231 #[pmV x] w (λv w'=>v=.int .i64 (if x.ok then x.c*x.n else 0)∧Below w.heap.size w w'):=by
 refine aK λK hK=>HW ?_;unfold EN nz;refine yE x (Own.start w) λb w1 ho=>?_;rw[pm_v ho 0 rfl];refine aH ho (Mh x w1) ?_;rintro _ w2 rfl ho;simp only[rs];by_cases h:x.ok
 ·rw[anX h] at hK;simp only[h,aoA,aqF,i_f];have h1:=Pm.mul_pos h;have h2:=h.2.2.2.2;rw[fpm1,pm_1 ho 0 rfl,fpm2,pm_2 ho 0 rfl];simp only[rs];rw[aA om om];exact hK _ _ ⟨rfl,ho.done⟩
 ·rw[anW h] at hK;simp only[h,aoB,aqD,i_t];exact hK _ _ ⟨rfl,ho.done⟩
theorem tF (x:Pm)(w:ak):Ret ah 58 #[pmV x] w (λv w'=>v=.int .i64 (if x.ok then 0 else 1)∧Below w.heap.size w w'):=by
 refine aK λK hK=>xM ?_;unfold pT nz;refine yE x (Own.start w) λb w1 ho=>?_;have no:¬x.ok->K (.returned (.int .i64 1)) w1:=λh=>hK _ _ ⟨by rw[anW h],ho.done⟩;rw[fpm0,pm_0 ho 0 rfl];simp only[rs];have rest:x.known->(DoX ah (mFA 27 (.pointer (aw ⟨b,0,av⟩)) 1) w1 (pk K) λt21 w=>
   DoX ah (aJ 3 t21) w (pk K) λt22 w=>
   DoX ah (mBin .lss 3 t22 (.int .i64 1)) w (pk K) λt23 w=>
   GDo t23 aq (λE=>DoX ah (mFA 27 (.pointer (aw ⟨b,0,av⟩)) 2) w (pk K) E) w λt25 w=>
   GDo t23 aq (λE=>DoX ah (aJ 3 t25) w (pk K) E) w λt26 w=>
   GDo t23 aq (λE=>DoX ah (mBin .lss 3 t26 (.int .i64 1)) w (pk K) E) w λt27 w=>
   DoX ah (eH t23 (.bool au) t27) w (pk K) λt28 w=>
   GDo t28 aq (λE=>DoX ah (mFA 27 (.pointer (aw ⟨b,0,av⟩)) 1) w (pk K) E) w λt30 w=>
   GDo t28 aq (λE=>DoX ah (aJ 3 t30) w (pk K) E) w λt31 w=>
   GDo t28 aq (λE=>DoX ah (mBin .gtr 3 t31 (.int .i64 8192)) w (pk K) E) w λt32 w=>
   DoX ah (eH t28 (.bool au) t32) w (pk K) λt33 w=>
   GDo t33 aq (λE=>DoX ah (mFA 27 (.pointer (aw ⟨b,0,av⟩)) 2) w (pk K) E) w λt35 w=>
   GDo t33 aq (λE=>DoX ah (aJ 3 t35) w (pk K) E) w λt36 w=>
   GDo t33 aq (λE=>DoX ah (mBin .gtr 3 t36 (.int .i64 8192)) w (pk K) E) w λt37 w=>
   DoX ah (eH t33 (.bool au) t37) w (pk K) λt38 w=>
   GDo t38 aq (λE=>DoX ah (mFA 27 (.pointer (aw ⟨b,0,av⟩)) 1) w (pk K) E) w λt40 w=>
   GDo t38 aq (λE=>DoX ah (aJ 3 t40) w (pk K) E) w λt41 w=>
   GDo t38 aq (λE=>DoX ah (mFA 27 (.pointer (aw ⟨b,0,av⟩)) 2) w (pk K) E) w λt42 w=>
   GDo t38 aq (λE=>DoX ah (aJ 3 t42) w (pk K) E) w λt43 w=>
   GDo t38 aq (λE=>DoX ah (mBin .mul 3 t41 t43) w (pk K) E) w λt44 w=>
   GDo t38 aq (λE=>DoX ah (mBin .gtr 3 t44 (.int .i64 8192)) w (pk K) E) w λt45 w=>
   DoX ah (eH t38 (.bool au) t45) w (pk K) λt46 w=>
   IfX t46 (K (.returned (.int .i64 1)) w) (K (.returned (.int .i64 0)) w)):=by
  intro hk;rw[fpm1,pm_1 ho 0 rfl];simp only[rs];by_cases h1:x.c < 1
  ·simp only[h1,aoA,rs,g_un];exact no λh=>by have:=h.2.1;omega
  simp only[h1,aoB,rs];rw[fpm2,pm_2 ho 0 rfl];simp only[rs];by_cases h2:x.n < 1
  ·simp only[h2,aoA,rs,g_un];exact no λh=>by have:=h.2.2.1;omega
  simp only[h2,aoB,rs];rw[fpm1,pm_1 ho 0 rfl];simp only[rs];by_cases h3:8192 < x.c
  ·simp only[h3,aoA,rs,g_un];exact no λh=>by have:=h.2.2.2.1;omega
  simp only[h3,aoB,rs];rw[fpm2,pm_2 ho 0 rfl];simp only[rs];by_cases h4:8192 < x.n
  ·simp only[h4,aoA,rs,g_un];exact no λh=>by have:=Pm.n_le h;omega
  simp only[h4,aoB,rs];rw[fpm1,pm_1 ho 0 rfl]
  try simp only[rs]
  rw[fpm2,pm_2 ho 0 rfl];simp only[rs];have hm0:0<=x.c*x.n:=Int.mul_nonneg om om;have hm1:x.c*x.n<=8192*8192:=Int.mul_le_mul om om om om;rw[aA om om];by_cases h5:8192 < x.c*x.n
  ·simp only[h5,aoA,rs,g_un];exact no λh=>by have:=h.2.2.2.2;omega
  ·simp only[h5,aoB,rs];exact hK _ _ ⟨by rw[anX ⟨hk,om,om,om,om⟩],ho.done⟩
 by_cases k1:x.p=1
 ·simp only[k1,ne_eq,not_true,aoB,rs,g_un];exact rest (.inl k1)
 simp only[k1,ne_eq,arX,aoA,rs];rw[fpm0,pm_0 ho 0 rfl];simp only[rs];by_cases k2:x.p=2
 ·simp only[k2,ne_eq,not_true,aoB,rs,g_un];exact rest (.inr (.inl k2))
 simp only[k2,ne_eq,arX,aoA,rs];rw[fpm0,pm_0 ho 0 rfl];simp only[rs];by_cases k3:x.p < 10
 ·simp only[k3,aoA,rs,g_un];exact no λh=>by have:=h.1;unfold Pm.known at this;omega
 simp only[k3,aoB,rs];rw[fpm0,pm_0 ho 0 rfl];simp only[rs];by_cases k4:15 < x.p
 ·simp only[k4,aoA,rs,g_un];exact no λh=>by have:=h.1;unfold Pm.known at this;omega
 ·simp only[k4,aoB,rs,g_un];exact rest (.inr (.inr ⟨om,om⟩))
theorem LO (x:Pm)(w:ak):Ret ah 64 #[pmV x] w (λv w'=>v=.int .i64 (if x.ok then x.c*x.n else 0)∧Below w.heap.size w w'):=by
 refine aK λK hK=>Bv ?_;unfold tJ nz;refine yE x (Own.start w) λb w1 ho=>?_;rw[pm_v ho 0 rfl];refine aH ho (tF x w1) ?_;rintro _ w2 rfl ho;simp only[bQ];by_cases h:x.ok
 ·rw[anX h] at hK ⊢;simp only[show ai ((0:Int)≠0)=aq from rfl,i_f];have h1:=Pm.mul_pos h;have h2:=h.2.2.2.2;rw[fpm1,pm_1 ho 0 rfl,fpm2,pm_2 ho 0 rfl];simp only[rs];rw[aA om om];exact hK _ _ ⟨rfl,ho.done⟩
 ·rw[anW h] at hK ⊢;simp only[show ai ((1:Int)≠0)=au from rfl,i_t];exact hK _ _ ⟨rfl,ho.done⟩
def ct (x:Int):Int:=max x (-x)
def ml (a b c:UInt8):UInt8:=
 let pt:Int:=(a.toNat:Int)+(b.toNat:Int) - (c.toNat:Int)
 if ct (pt - (a.toNat:Int))<=ct (pt - (b.toNat:Int))∧ct (pt - (a.toNat:Int))<=ct (pt - (c.toNat:Int)) then a
 else if ct (pt - (b.toNat:Int))<=ct (pt - (c.toNat:Int)) then b else c
theorem Cz (a b:Int)(w:ak)(ha:-10000<=a∧a<=10000)(hb:-10000<=b∧b<=10000):Ret ah 316 #[.int .i64 a,.int .i64 b] w (λv w'=>v=.int .i64 (ct (b - a))∧w=w'):=by
 refine aK λK hK=>Fq ?_;unfold AP nz;simp only[rs];rw[aA om om,aA om om,sB];exact hK _ _ ⟨by unfold ct;congr 1;omega,rfl⟩
theorem G1 (a:Int)(w:ak)(ha:-10000<=a∧a<=10000):Ret ah 247 #[.int .i64 a] w (λv w'=>v=.int .i64 (ct a)∧w=w'):=by
 refine aK λK hK=>AG ?_;unfold sS nz;simp only[rs];rw[aA om om,sB];exact hK _ _ ⟨rfl,rfl⟩
section
variable {w:ak}{PK:PKT}{K:VWP}
theorem u8ix {c:UInt8}:DoX ah (fA 5 3 (.int .u8 (c.toNat:Int))) w PK K=K (.int .i64 (c.toNat:Int)) w:=by
 have hc:=apT c;have e:IntKind.i64.wrap (c.toNat:Int)=(c.toNat:Int):=aA om om;have:=aO (P:=ah) (S:=5) (D:=3) (k:=.u8) (n:=(c.toNat:Int)) (w:=w) krx apH;rw[e] at this;exact aC this
end
theorem To (a b c:UInt8)(w:ak):Ret ah 286 #[.int .u8 (a.toNat:Int),.int .u8 (b.toNat:Int),.int .u8 (c.toNat:Int)] w (λv w'=>v=.int .u8 ((ml a b c).toNat:Int)∧w=w'):=by
 refine aK λK hK=>E3 ?_;unfold Bc nz;have ha:=apT a;have hb:=apT b;have hc:=apT c;rw[u8ix,u8ix];simp only[rs];rw[u8ix];simp only[rs];rw[aA (n:=(a.toNat:Int)+(b.toNat:Int)) om om,aA om om];have e:∀W:ak,(bA 323 #[(0,.int .u8 (b.toNat:Int)),(1,.int .u8 (c.toNat:Int))]).run ah W=.ok (.value (.agg #[.int .u8 (b.toNat:Int),.int .u8 (c.toNat:Int)])) W:=λW=>by kernel_rfl
 refine aC (e w) |>.mpr ?_;have hp:ml a b c=(let m:=if ct ((a.toNat:Int)+(b.toNat:Int) - (c.toNat:Int) - (b.toNat:Int)) < ct ((a.toNat:Int)+(b.toNat:Int) - (c.toNat:Int) - (a.toNat:Int)) then b else a
   if ct ((a.toNat:Int)+(b.toNat:Int) - (c.toNat:Int) - (c.toNat:Int)) < ct ((a.toNat:Int)+(b.toNat:Int) - (c.toNat:Int) - (m.toNat:Int)) then c else m):=by
  unfold ml;dsimp only;generalize hA:ct ((a.toNat:Int)+(b.toNat:Int) - (c.toNat:Int) - (a.toNat:Int))=A;generalize hB:ct ((a.toNat:Int)+(b.toNat:Int) - (c.toNat:Int) - (b.toNat:Int))=B;generalize hC:ct ((a.toNat:Int)+(b.toNat:Int) - (c.toNat:Int) - (c.toNat:Int))=C;by_cases h1:B < A
  ·rw[anX h1,hB,anW om];by_cases h2:B<=C
   ·rw[anX h2,anW om]
   ·rw[anW h2,anX om]
  ·rw[anW h1,hA];by_cases h2:C < A
   ·rw[anX h2,anW om,anW om]
   ·rw[anW h2,anX om]
 rw[hp] at hK;dsimp only at hK;generalize hpt:(a.toNat:Int)+(b.toNat:Int) - (c.toNat:Int)=pt at hK;have hpt1:-10000<=pt∧pt<=10000:=om
 have x0:∀W:ak,(mIx 323 (.agg #[.int .u8 (b.toNat:Int),.int .u8 (c.toNat:Int)]) (.int .i64 0)).run ah W=.ok (.value (.int .u8 (b.toNat:Int))) W:=λW=>by kernel_rfl
 have x1:∀W:ak,(mIx 323 (.agg #[.int .u8 (b.toNat:Int),.int .u8 (c.toNat:Int)]) (.int .i64 1)).run ah W=.ok (.value (.int .u8 (c.toNat:Int))) W:=λW=>by kernel_rfl
 refine loop (λvs W=>w=W∧(vs=[.int .u8 (a.toNat:Int),.int .i64 0]∨vs=[.int .u8 ((if ct (pt - (b.toNat:Int)) < ct (pt - (a.toNat:Int)) then b else a).toNat:Int),.int .i64 1] ∨
  vs=[.int .u8 ((if ct (pt - (c.toNat:Int)) < ct (pt - ((if ct (pt - (b.toNat:Int)) < ct (pt - (a.toNat:Int)) then b else a).toNat:Int)) then c else (if ct (pt - (b.toNat:Int)) < ct (pt - (a.toNat:Int)) then b else a)).toNat:Int),.int .i64 2])) (λvs _=>2 - n1 vs) ⟨rfl,.inl rfl⟩ ?_
 rintro vs _ ⟨rfl,rfl|rfl|rfl⟩ _
 ·simp only[gZ,gd,rs,nz];simp only[show ai ((0:Int) < 2)=au from rfl,i_t];refine join λJ hJ=>?_;refine aC (x0 w) |>.mpr ?_;rw[u8ix];refine c_eq (Cz (b.toNat:Int) pt w om hpt1) ?_;rw[u8ix];refine c_eq (Cz (a.toNat:Int) pt w om hpt1) ?_;simp only[rs];by_cases h:ct (pt - (b.toNat:Int)) < ct (pt - (a.toNat:Int))
  ·simp only[h,aoA,i_t];refine hJ _ _ λ_=>?_;simp only[fG,gd,rs,nz];exact aQ ⟨rfl,.inr (.inl (by rw[anX h];rfl))⟩ (by show 2 - 1 < 2 - 0;decide)
  ·simp only[h,aoB,i_f];refine hJ _ _ λ_=>?_;simp only[fG,gd,rs,nz];exact aQ ⟨rfl,.inr (.inl (by rw[anW h];rfl))⟩ (by show 2 - 1 < 2 - 0;decide)
 ·generalize (if ct (pt - (b.toNat:Int)) < ct (pt - (a.toNat:Int)) then b else a)=m;have hm:=apT m;simp only[gZ,gd,rs,nz];simp only[show ai ((1:Int) < 2)=au from rfl,i_t];refine join λJ hJ=>?_;refine aC (x1 w) |>.mpr ?_;rw[u8ix];refine c_eq (Cz (c.toNat:Int) pt w om hpt1) ?_;rw[u8ix];refine c_eq (Cz (m.toNat:Int) pt w om hpt1) ?_;simp only[rs];by_cases h:ct (pt - (c.toNat:Int)) < ct (pt - (m.toNat:Int))
  ·simp only[h,aoA,i_t];refine hJ _ _ λ_=>?_;simp only[fG,gd,rs,nz];exact aQ ⟨rfl,.inr (.inr (by rw[anX h];rfl))⟩ (by show 2 - 2 < 2 - 1;decide)
  ·simp only[h,aoB,i_f];refine hJ _ _ λ_=>?_;simp only[fG,gd,rs,nz];exact aQ ⟨rfl,.inr (.inr (by rw[anW h];rfl))⟩ (by show 2 - 2 < 2 - 1;decide)
 ·simp only[gZ,gd,rs,nz];simp only[show ai ((2:Int) < 2)=aq from rfl,i_f];exact hK _ _ ⟨rfl,rfl⟩
theorem Ns (a b c:UInt8)(w:ak):Ret ah 198 #[.int .u8 (a.toNat:Int),.int .u8 (b.toNat:Int),.int .u8 (c.toNat:Int)] w (λv w'=>v=.int .u8 ((ml a b c).toNat:Int)∧w=w'):=by
 refine aK λK hK=>yN ?_;unfold pS nz;unfold ml at hK;dsimp only at hK;have ha:=apT a;have hb:=apT b;have hc:=apT c;rw[u8ix,u8ix];simp only[rs];rw[u8ix];simp only[rs];rw[aA (n:=(a.toNat:Int)+(b.toNat:Int)) om om,aA om om,u8ix];generalize hpt:(a.toNat:Int)+(b.toNat:Int) - (c.toNat:Int)=pt at hK ⊢;have hpt1:-1000<=pt∧pt<=1000:=om
 try simp only[rs]
 rw[aA om om];refine c_eq (G1 (pt - (a.toNat:Int)) w om) ?_;rw[u8ix]
 try simp only[rs]
 rw[aA om om];refine c_eq (G1 (pt - (b.toNat:Int)) w om) ?_;rw[u8ix]
 try simp only[rs]
 rw[aA om om];refine c_eq (G1 (pt - (c.toNat:Int)) w om) ?_;generalize ct (pt - (a.toNat:Int))=A at hK ⊢;generalize ct (pt - (b.toNat:Int))=B at hK ⊢;generalize ct (pt - (c.toNat:Int))=C at hK ⊢;simp only[rs];by_cases h1:A<=B
 ·simp only[h1,aoA,rs];by_cases h2:A<=C
  ·simp only[h2,aoA,rs];rw[anX ⟨h1,h2⟩] at hK;exact hK _ _ ⟨rfl,rfl⟩
  ·simp only[h2,aoB,rs];rw[anW om] at hK;by_cases h3:B<=C
   ·simp only[h3,aoA,i_t];rw[anX h3] at hK;exact hK _ _ ⟨rfl,rfl⟩
   ·simp only[h3,aoB,i_f];rw[anW h3] at hK;exact hK _ _ ⟨rfl,rfl⟩
 ·simp only[h1,aoB,rs,g_un];rw[anW om] at hK;by_cases h3:B<=C
  ·simp only[h3,aoA,i_t];rw[anX h3] at hK;exact hK _ _ ⟨rfl,rfl⟩
  ·simp only[h3,aoB,i_f];rw[anW h3] at hK;exact hK _ _ ⟨rfl,rfl⟩
def fj (l:List UInt8)(i:Int):UInt8:=if i < 0∨(l.length:Int)<=i then 0 else l.getD i.toNat 0
theorem QN (l:List UInt8)(v:ao)(i:Int)(w:ak)(hs:Sl w v 1 l.length (aG l)):Ret ah 285 #[v,.int .i64 i] w (λr w'=>r=.int .u8 ((fj l i).toNat:Int)∧w=w'):=by
 refine aK λK hK=>J8 ?_;unfold Hs nz;unfold fj at hK;simp only[rs];by_cases h0:i < 0
 ·simp only[h0,aoA,rs,g_un];rw[anX (.inl h0)] at hK;exact hK _ _ ⟨rfl,rfl⟩
 simp only[h0,aoB,rs];rw[bB aoK hs];simp only[rs];by_cases h1:(l.length:Int)<=i
 ·simp only[h1,aoA,rs];rw[anX (.inr h1)] at hK;exact hK _ _ ⟨rfl,rfl⟩
 simp only[h1,aoB,rs];rw[anW om] at hK;obtain⟨n,rfl⟩:∃n:Nat,i=(n:Int):=⟨i.toNat,om⟩;have hn:n < l.length:=om
 obtain⟨b2,off,r1,r2⟩:=II hs hn;refine aC (r1 w) |>.mpr (aC (aB nU8l r2) |>.mpr ?_);rw[aoF,aoE,aoI hn] at hK;exact hK _ _ ⟨rfl,rfl⟩
theorem Ju (l:List UInt8)(v:ao)(i:Int)(w:ak)(hs:Sl w v 1 l.length (aG l)):Ret ah 197 #[v,.int .i64 i] w (λr w'=>r=.int .u8 ((fj l i).toNat:Int)∧w=w'):=by
 refine aK λK hK=>CU ?_;unfold wU nz;unfold fj at hK;simp only[rs];by_cases h0:i < 0
 ·simp only[h0,aoA,rs,g_un];rw[anX (.inl h0)] at hK;exact hK _ _ ⟨rfl,rfl⟩
 simp only[h0,aoB,rs];rw[bB aoK hs];simp only[rs];by_cases h1:(l.length:Int)<=i
 ·simp only[h1,aoA,rs];rw[anX (.inr h1)] at hK;exact hK _ _ ⟨rfl,rfl⟩
 simp only[h1,aoB,rs];rw[anW om] at hK;obtain⟨n,rfl⟩:∃n:Nat,i=(n:Int):=⟨i.toNat,om⟩;have hn:n < l.length:=om
 obtain⟨b2,off,r1,r2⟩:=II hs hn;refine aC (r1 w) |>.mpr (aC (aB nU8l r2) |>.mpr ?_);rw[aoF,aoE,aoI hn] at hK;exact hK _ _ ⟨rfl,rfl⟩
def dn (tag:Int)(above row:List UInt8)(i colors:Int):UInt8:=
 if tag=1 then fj row (i - colors)
 else if tag=2 then fj above i
 else if tag=3 then UInt8.ofNat (((fj row (i - colors)).toNat+(fj above i).toNat) / 2)
 else if tag=4 then ml (fj row (i - colors)) (fj above i) (fj above (i - colors))
 else 0
def rwC (a r:ao)(c:Int):List Value:=[a,r,.int .i64 c]
def rwV (a r:ao)(c:Int):Value:=.agg (rwC a r c).toArray
abbrev rwE (b:Nat)(a r:ao)(c:Int):Ent:=.cells b (rwC a r c) 246
theorem V2 {a r:ao}{c:Int}(h1:a.oneCell'=au)(h2:r.oneCell'=au):∀u∈rwC a r c,u.oneCell'=true:=by
 intro u hu;simp only[rwC,aoM,aqI,or_false] at hu;rcases hu with rfl|rfl|rfl
 ·exact h1
 ·exact h2
 ·rfl
theorem NO:aggN ah 246=aw 3:=krx
theorem szRw:(Tryz.prog.info? 246).map (·.size)=aw 3:=krx
theorem RD:fOff ah 246 0=aw 0:=krx
theorem zG:fOff ah 246 1=aw 1:=krx
theorem Z8:fOff ah 246 2=aw 2:=krx
theorem kC {n:Nat}(h:Sl w v sz n cs):v.oneCell'=true:=by
 obtain⟨_,a,cap,rfl,_⟩:=h;rfl
theorem UI {a r:ao}{c:Int}(h:(rwE b a r c).is W):(aJ 53 (.pointer (aw ⟨b,0+0,av⟩))).run ah W=.ok (.value a) W:=aB Ha (aI (T:=246) (cs:=rwC a r c) h rfl)
theorem A9 {a r:ao}{c:Int}(h:(rwE b a r c).is W):(aJ 53 (.pointer (aw ⟨b,0+1,av⟩))).run ah W=.ok (.value r) W:=aB Ha (aI (T:=246) (cs:=rwC a r c) h rfl)
theorem WV {a r:ao}{c:Int}(h:(rwE b a r c).is W):(aJ 3 (.pointer (aw ⟨b,0+2,av⟩))).run ah W=.ok (.value (.int .i64 c)) W:=aB bP (aI (T:=246) (cs:=rwC a r c) h rfl)
theorem aiQ (x y:UInt8):IntKind.u8.wrap (IntKind.i64.wrap (((x.toNat+y.toNat:Nat):Int).tdiv 2))=((UInt8.ofNat ((x.toNat+y.toNat) / 2)).toNat:Int):=by
 have hx:=apT x;have hy:=apT y;rw[show ((x.toNat+y.toNat:Nat):Int).tdiv 2=(((x.toNat+y.toNat) / 2:Nat):Int) from rfl,aA om om,lA]
theorem SE (tag:Int)(above row:List UInt8)(va vr:ao)(i colors:Int)(w:ak)(hi:0<=i∧i<=1000000)(hc:1<=colors∧colors<=1000000)(h1:Sl w va 1 above.length (aG above))(h2:Sl w vr 1 row.length (aG row)) :
  Ret ah 263 #[rwV va vr colors,.int .i64 tag,.int .i64 i] w (λr w'=>r=.int .u8 ((dn tag above row i colors).toNat:Int)∧Below w.heap.size w w'):=by
 refine aK λK hK=>AK ?_;unfold sZ nz;unfold dn at hK;have o1:=kC h1;have o2:=kC h2;have bx:∀W:ak,(mBox 246 (rwV va vr colors)).run ah W=.ok (.value (.pointer (aw ⟨W.heap.size,0,av⟩))) (W.alloc (.cells (rwC va vr colors).toArray 246)):=λW=>by
  cases va<;>first|(cases o1;done)|skip
  all_goals cases vr<;>first|(cases o2;done)|kernel_rfl
 refine bD (λb=>.pointer (aw ⟨b,0,av⟩)) (rwC va vr colors) 246 bx (Own.start w) λb w1 ho=>?_;refine cR (λW=>OwnS NoB w W [rwE b va vr colors]) ho.drew ?_;refine q_do _ (λ_=>bH zG) (q_at _ (λW h=>A9 (h.at_ 0 rfl)) (q_do _ (λ_=>bH Z8) (q_at _ (λW h=>WV (h.at_ 0 rfl)) (q_do _ (λ_=>AH) ?_))));rw[aA om om];refine kS _ (λW h=>(QN row vr (i - colors) W (OwnS.UZ h h2)).mono λv w' ⟨k1,k2⟩=>⟨k1,k2▸h⟩) ?_;refine q_do _ (λ_=>bH RD) (q_at _ (λW h=>UI (h.at_ 0 rfl)) ?_);refine kS _ (λW h=>(QN above va i W (OwnS.UZ h h1)).mono λv w' ⟨k1,k2⟩=>⟨k1,k2▸h⟩) ?_;refine q_do _ (λ_=>bH RD) (q_at _ (λW h=>UI (h.at_ 0 rfl)) ?_);refine q_do _ (λ_=>bH Z8) (q_at _ (λW h=>WV (h.at_ 0 rfl)) (q_do _ (λ_=>AH) ?_));rw[aA om om];refine kS _ (λW h=>(QN above va (i - colors) W (OwnS.UZ h h1)).mono λv w' ⟨k1,k2⟩=>⟨k1,k2▸h⟩) ?_;intro w2 ho;generalize fj row (i - colors)=x at hK ⊢;generalize fj above i=y at hK ⊢;generalize fj above (i - colors)=z at hK ⊢;have hx:=apT x;have hy:=apT y;simp only[rs];by_cases k1:tag=1
 ·simp only[k1,aoA,i_t];rw[anX k1] at hK;exact hK _ _ ⟨rfl,ho.done⟩
 simp only[k1,aoB,i_f];rw[anW k1] at hK
 try simp only[rs]
 by_cases k2:tag=2
 ·simp only[k2,aoA,i_t];rw[anX k2] at hK;exact hK _ _ ⟨rfl,ho.done⟩
 simp only[k2,aoB,i_f];rw[anW k2] at hK
 try simp only[rs]
 by_cases k3:tag=3
 ·simp only[k3,aoA,i_t];rw[anX k3] at hK;rw[u8ix,u8ix];simp only[rs];rw[aA om om,Ao dc];refine aC (aO krx aoP) |>.mpr ?_;rw[show (x.toNat:Int)+(y.toNat:Int)=((x.toNat+y.toNat:Nat):Int) by omega,aiQ];exact hK _ _ ⟨rfl,ho.done⟩
 simp only[k3,aoB,i_f];rw[anW k3] at hK
 try simp only[rs]
 by_cases k4:tag=4
 ·simp only[k4,aoA,i_t];rw[anX k4] at hK;refine c_eq (To x y z w2) ?_;exact hK _ _ ⟨rfl,ho.done⟩
 simp only[k4,aoB,i_f];rw[anW k4] at hK;exact hK _ _ ⟨rfl,ho.done⟩
theorem LR (tag:Int)(above row:List UInt8)(va vr:ao)(i colors:Int)(w:ak)(hi:0<=i∧i<=1000000)(hc:1<=colors∧colors<=1000000)(h1:Sl w va 1 above.length (aG above))(h2:Sl w vr 1 row.length (aG row)) :
  Ret ah 131 #[.int .i64 tag,va,vr,.int .i64 i,.int .i64 colors] w (λr w'=>r=.int .u8 ((dn tag above row i colors).toNat:Int)∧w=w'):=by
 refine aK λK hK=>B7 ?_;unfold tG nz;unfold dn at hK;simp only[rs];rw[aA om om];refine c_eq (Ju row vr (i - colors) w h2) ?_;refine c_eq (Ju above va i w h1) ?_
 try simp only[rs]
 refine c_eq (Ju above va (i - colors) w h1) ?_;generalize fj row (i - colors)=x at hK ⊢;generalize fj above i=y at hK ⊢;generalize fj above (i - colors)=z at hK ⊢;have hx:=apT x;have hy:=apT y
 try simp only[rs]
 by_cases k1:tag=1
 ·simp only[k1,aoA,i_t];rw[anX k1] at hK;exact hK _ _ ⟨rfl,rfl⟩
 simp only[k1,aoB,i_f];rw[anW k1] at hK
 try simp only[rs]
 by_cases k2:tag=2
 ·simp only[k2,aoA,i_t];rw[anX k2] at hK;exact hK _ _ ⟨rfl,rfl⟩
 simp only[k2,aoB,i_f];rw[anW k2] at hK
 try simp only[rs]
 by_cases k3:tag=3
 ·simp only[k3,aoA,i_t];rw[anX k3] at hK;rw[u8ix,u8ix];simp only[rs];rw[aA om om,Ao dc];refine aC (aO krx aoP) |>.mpr ?_;rw[show (x.toNat:Int)+(y.toNat:Int)=((x.toNat+y.toNat:Nat):Int) by omega,aiQ];exact hK _ _ ⟨rfl,rfl⟩
 simp only[k3,aoB,i_f];rw[anW k3] at hK
 try simp only[rs]
 by_cases k4:tag=4
 ·simp only[k4,aoA,i_t];rw[anX k4] at hK;refine c_eq (Ns x y z w) ?_;exact hK _ _ ⟨rfl,rfl⟩
 simp only[k4,aoB,i_f];rw[anW k4] at hK;exact hK _ _ ⟨rfl,rfl⟩
end
section
open Eng Go.RowKit
def dp (tag:Int)(above:List UInt8)(colors:Int):List UInt8->List UInt8->List UInt8
|acc,[]=>acc
|acc,c::r=>dp tag above colors (acc++[c+dn tag above acc (acc.length:Int) colors]) r
theorem oe (tag:Int)(above:List UInt8)(colors:Int):∀(r acc:List UInt8),(dp tag above colors acc r).length=acc.length+r.length
|[],acc=>rfl
|c::r,acc=>by rw[dp,oe tag above colors r,aoC,apL,apB];omega
theorem yx {p r:List UInt8}{i:Int}(h:i < (p.length:Int)):fj (p++r) i=fj p i:=by
 unfold fj;by_cases h0:i < 0
 ·rw[anX (.inl h0),anX (.inl h0)]
 ·rw[anW (by rw[aoC];omega),anW om,aoE,aqO om,aoE]
theorem ur {tag:Int}{p r:List UInt8}(hc:1<=colors):dn tag above (p++r) (p.length:Int) colors=dn tag above p (p.length:Int) colors:=by
 unfold dn;rw[yx om]
def jz (c:Int)(n h:Nat):Nat->List UInt8->List UInt8->List UInt8->List UInt8×Int
|0,_,_,_=>([],13)
|f+1,s,prev,out=>
  if s.length=0 then (out,0)
  else if 5<=(if h=1 then (s.getD 0 0).toNat else 1) then ([],3)
  else
   let row:=dp ((if h=1 then (s.getD 0 0).toNat else 1:Nat):Int) prev c [] ((s.drop h).take n)
   jz c n h f (s.drop (n+h)) row (out++row)
def Pm.head (x:Pm):Nat:=if 10<=x.p then 1 else 0
def dy (x:Pm)(s:List UInt8):List UInt8×Int:=
 if ¬x.ok then ([],1)
 else if 1048576 < s.length then ([],5)
 else if x.p=1 then (s,0)
 else if s.length % ((x.c*x.n).toNat+x.head)≠0 then ([],16)
 else jz x.c (x.c*x.n).toNat x.head (s.length+1) s [] []
theorem ZL {a b:UInt8}:IntKind.u8.wrap ((a.toNat:Int)+(b.toNat:Int))=((a+b).toNat:Int):=by
 rw[show (a.toNat:Int)+(b.toNat:Int)=((a.toNat+b.toNat:Nat):Int) by omega,lA]
 congr 1
def iG:ao->Nat|.string s=>s.size|_=>0
theorem eR (l:List UInt8):iG (.string ⟨l.toArray⟩)=l.length:=cW l
def BRd (e:Ent)(v:ao)(l:List UInt8):Prop:=∀W,e.is W->Sl W v 1 l.length (aG l)
theorem Mc {b cap:Nat}{l:List UInt8}:BRd (.mkr 5 b l) (.slice (aw ⟨b,0,av⟩) l.length cap) l:=λW h=>Ti h
section
variable {w:ak}{PK:PKT}{K:VWP}{S:Nat->Prop}{w0:ak}{L:List Ent}
theorem afU {tag:Nat}{e:Ent}{b2:Nat}{src:List UInt8}(i j:Nat)(hij:i≠j)(ho:OwnS S w0 w L)(hi:L[i]?=aw e)(hj:L[j]?=aw (.mkr 5 b2 src))(hb:BRd e va above)(hc:1<=colors∧colors<=1000000)(hs:src.length<=1000000)
  (k:∀W,OwnS S w0 W (L.set j (.mkr 5 b2 (dp (tag:Int) above colors [] src)))->K (.tuple #[]) W) :
  CallX ah 240 #[rwV va (.slice (aw ⟨b2,0,av⟩) src.length cap) colors,.int .i64 (tag:Int)] w PK K:=by
 have hjl:j < L.length:=(aoX.1 hj).1;have hgj:∀l,(L.set j (.mkr 5 b2 l))[j]?=aw (.mkr 5 b2 l):=λl=>by rw[arR hjl]
 generalize hR:dp (tag:Int) above colors [] src=R at k;refine⟨AB ?_⟩;unfold rM nz;have o1:va.oneCell'=true:=kC (hb w (ho.at_ i hi));have bx:∀W:ak,(mBox 246 (rwV va (.slice (aw ⟨b2,0,av⟩) src.length cap) colors)).run ah W=.ok (.value (.pointer (aw ⟨W.heap.size,0,av⟩))) (W.alloc (.cells (rwC va (.slice (aw ⟨b2,0,av⟩) src.length cap) colors).toArray 246)):=λW=>by
  cases va<;>first|(cases o1;done)|kernel_rfl
 refine bD (λb=>.pointer (aw ⟨b,0,av⟩)) (rwC va (.slice (aw ⟨b2,0,av⟩) src.length cap) colors) 246 bx ho λb w1 ho=>?_;refine aC (bH zG) |>.mpr (aC (A9 (ho.at_ 0 rfl)) |>.mpr ?_);have hsl:∀{W:ak} {l:List UInt8},OwnS S w0 W (rwE b va (.slice (aw ⟨b2,0,av⟩) src.length cap) colors::L.set j (.mkr 5 b2 l))->l.length=src.length->Sl W (.slice (aw ⟨b2,0,av⟩) src.length cap) 1 l.length (aG l):=λho hl=>by
  have:=Ti (cap:=cap) (ho.at_ (j+1) (hgj _));rw[hl] at this ⊢;exact this
 have ho:OwnS S w0 w1 (rwE b va (.slice (aw ⟨b2,0,av⟩) src.length cap) colors::L.set j (.mkr 5 b2 ([]++src.drop 0))):=by
  rw[apK,aqH,EY hj];exact ho
 rw[bB aoK (hsl ho sm)];have hz:([]++src.drop 0:List UInt8).length=src.length:=sm
 rw[hz];refine loop (λvs W=>∃p:List UInt8,vs=[.int .i64 (p.length:Int)]∧p.length<=src.length∧dp (tag:Int) above colors p (src.drop p.length)=R∧OwnS S w0 W (rwE b va (.slice (aw ⟨b2,0,av⟩) src.length cap) colors::L.set j (.mkr 5 b2 (p++src.drop p.length)))) (λvs _=>src.length - n0 vs) ⟨[],rfl,sm,hR,ho⟩ ?_;clear ho hR;rintro vs w2 ⟨p,rfl,hp,hR,ho⟩ _;simp only[oM,gd,rs,nz];by_cases hlt:(p.length:Int) < (src.length:Int)
 ·simp only[hlt,aoA,i_t];have hp':p.length < src.length:=om
  have hd:src.drop p.length=src[p.length]::src.drop (p.length+1):=apV hp';rw[hd] at hR ho;rw[dp] at hR;have hln:(p++src[p.length]::src.drop (p.length+1)).length=src.length:=by rw[aoC,apB,aoJ];omega
  have hgi:(p++src[p.length]::src.drop (p.length+1))[p.length]?=aw src[p.length]:=by rw[arD (aoG _),aqK];rfl
  have hia:∀W:ak,(mIA 53 (.slice (aw ⟨b2,0,av⟩) src.length cap) (.int .i64 (p.length:Int))).run ah W=.ok (.value (.pointer (aw ⟨b2,p.length,av⟩))) W:=λW=>by
   have:=dZ (P:=ah) (T:=53) (b:=b2) (off:=0) (cap:=cap) (n:=src.length) (k:=.i64) (i:=(p.length:Int)) (w:=W) aoK (show (Tryz.prog.info? 5).map (·.size)=aw 1 by kernel_rfl) om om
   rwa [aoF,aoS,aoN] at this
  refine cR (λW=>OwnS S w0 W (rwE b va (.slice (aw ⟨b2,0,av⟩) src.length cap) colors::L.set j (.mkr 5 b2 (p++src[p.length]::src.drop (p.length+1))))) ho.drew ?_;refine q_do _ (λ_=>bH zG) (q_at _ (λW h=>A9 (h.at_ 0 rfl)) (q_do _ hia ?_));refine q_at (.int .u8 (src[p.length].toNat:Int)) (λW h=>aB nU8l (ML (h.at_ (j+1) (hgj _)) (by unfold aG;rw[asE,hgi];rfl))) ?_;refine q_at (rwV va (.slice (aw ⟨b2,0,av⟩) src.length cap) colors) (λW h=>bE (h.agg 0 rfl NO)) ?_;refine kS (.int .u8 ((dn (tag:Int) above p (p.length:Int) colors).toNat:Int)) (λW h=>?_) ?_
  ·have hsl2:=hsl h hln;have:=SE (tag:Int) above (p++src[p.length]::src.drop (p.length+1)) va (.slice (aw ⟨b2,0,av⟩) src.length cap) (p.length:Int) colors W om hc (hb W (h.at_ (i+1) (show (L.set j (.mkr 5 b2 _))[i]?=aw e by rw[auI (λh=>hij h.symm)];exact hi))) hsl2;rw[ur hc.1] at this;exact this.mono λv w' ⟨k1,k2⟩=>⟨k1,h.grow k2⟩
  refine iV ?_;rw[ZL];refine q_do _ hia ?_;intro w3 ho;refine Wg (j+1) (l:=p++src[p.length]::src.drop (p.length+1)) ho (hgj _) krx (by rw[hln];exact hp') λw4 ho=>?_
  try simp only[rs]
  rw[aA om om];have e1:(p++[src[p.length]+dn (tag:Int) above p (p.length:Int) colors]).length=p.length+1:=sm
  refine aQ ⟨p++[src[p.length]+dn (tag:Int) above p (p.length:Int) colors],by rw[e1];rfl,by rw[e1];omega,by rw[e1];exact hR,?_⟩ (by simp[n0,RowKit.intOf];omega);rw[e1];have e2:(p++src[p.length]::src.drop (p.length+1)).set p.length (src[p.length]+dn (tag:Int) above p (p.length:Int) colors)=p++[src[p.length]+dn (tag:Int) above p (p.length:Int) colors]++src.drop (p.length+1):=by
   rw[asD _ _ (aoG _),aqK,aqP];simp
  rw[<-e2];have ho:OwnS S w0 w4 (rwE b va (.slice (aw ⟨b2,0,av⟩) src.length cap) colors::(L.set j (.mkr 5 b2 (p++src[p.length]::src.drop (p.length+1)))).set j (.mkr 5 b2 ((p++src[p.length]::src.drop (p.length+1)).set p.length (src[p.length]+dn (tag:Int) above p (p.length:Int) colors)))):=ho;rw[atN] at ho;exact ho
 ·simp only[hlt,aoB,i_f];have hpl:p.length=src.length:=om
  rw[apR om] at hR ho;rw[aoV] at ho;have hR:p=R:=hR;subst hR;exact k w2 ho.tail
end
theorem xI (x:Pm)(s:List UInt8)(r:Nat)(w:ak)(hr:1<=r)(hs:s.length<=1000000000):Ret ah 232 #[pmV x,.string ⟨s.toArray⟩,.int .i64 (r:Int)] w (λv w'=>v=.int .i64 (if ¬x.ok then 1 else if 1048576 < s.length then 5 else if x.p≠1∧s.length % r≠0 then 16 else 0)∧Below w.heap.size w w'):=by
 refine aK λK hK=>D2 ?_;unfold Ab nz;refine yE x (Own.start w) λb w1 ho=>?_;rw[pm_v ho 0 rfl];refine aH ho (Mh x w1) ?_;rintro _ w2 rfl ho
 try simp only[rs]
 by_cases h:x.ok
 case neg=>
  rw[anX h] at hK;simp only[h,aoB,aqD,i_t];exact hK _ _ ⟨rfl,ho.done⟩
 rw[anW (by simp[h])] at hK;simp only[h,aoA,aqF,i_f];rw[cL aoD]
 try simp only[rs]
 by_cases h2:1048576 < s.length
 ·rw[anX h2] at hK;simp only[show ai ((1048576:Int) < (s.length:Int))=au from anZ om,i_t];exact hK _ _ ⟨rfl,ho.done⟩
 rw[anW h2] at hK;simp only[show ai ((1048576:Int) < (s.length:Int))=aq from anY om,i_f];rw[fpm0,pm_0 ho 0 rfl]
 try simp only[rs]
 by_cases h3:x.p=1
 ·rw[anW (by simp[h3])] at hK;simp only[h3,ne_eq,not_true,aoB,rs,g_un];exact hK _ _ ⟨rfl,ho.done⟩
 simp only[h3,ne_eq,arX,aoA,rs];rw[cL aoD]
 try simp only[rs]
 rw[CR om,abH]
 try simp only[rs]
 by_cases h4:s.length % r=0
 ·rw[anW (by simp[h4])] at hK;simp only[show ai (((s.length % r:Nat):Int)≠0)=aq from anY om,i_f,rs];exact hK _ _ ⟨rfl,ho.done⟩
 ·rw[anX ⟨h3,h4⟩] at hK;simp only[show ai (((s.length % r:Nat):Int)≠0)=au from anZ om,i_t,rs];exact hK _ _ ⟨rfl,ho.done⟩
theorem QQ (x:Pm)(s:List UInt8)(w:ak)(hs:s.length<=1000000000):Ret ah 193 #[pmV x,.string ⟨s.toArray⟩] w (λv w'=>v=zlT (dy x s)∧Below w.heap.size w w'):=by
 refine aK λK hK=>qZ ?_;generalize hX:dy x s=X at hK;unfold dy at hX;unfold oW nz;refine yE x (Own.start w) λb w1 ho=>?_;rw[pm_v ho 0 rfl];refine aH ho (IJ x w1) ?_;rintro _ w2 rfl ho;rw[sB];refine join λJ hJ=>?_;rw[fpm0,pm_0 ho 0 rfl]
 try simp only[rs]
 have main:J [.int .i64 (x.head:Int)] w2:=by
  refine hJ _ _ λ_=>?_;simp only[kI,gd,nz];rw[pm_v ho 0 rfl];have hh:x.head<=1:=by unfold Pm.head;split<;>omega
  obtain⟨n,hn,hn1,hn2⟩:∃n:Nat,max (if x.ok then x.c*x.n else 0) 1=(n:Int)∧1<=n∧n<=8192:=by
   by_cases h:x.ok
   ·rw[anX h];have h1:=Pm.mul_pos h;have h2:=h.2.2.2.2;exact⟨(x.c*x.n).toNat,om,om,om⟩
   ·rw[anW h];exact⟨1,dc,dc,dc⟩
  rw[hn]
  try simp only[rs]
  rw[aA om om,show (n:Int)+(x.head:Int)=((n+x.head:Nat):Int) by omega];refine aH ho (xI x s (n+x.head) w2 om hs) ?_;rintro _ w3 rfl ho;simp only[bQ];by_cases h:x.ok
  case neg=>
   rw[anX h] at hX ⊢;simp only[show ai ((1:Int)≠0)=au from rfl,i_t];exact hK _ _ ⟨by rw[<-hX];rfl,ho.done⟩
  rw[anW (by simp[h])] at hX ⊢;have hn':(x.c*x.n).toNat=n:=by
   rw[anX h] at hn;have h1:=Pm.mul_pos h;omega
  rw[hn'] at hX;by_cases h2:1048576 < s.length
  ·rw[anX h2] at hX ⊢;simp only[show ai ((5:Int)≠0)=au from rfl,i_t];exact hK _ _ ⟨by rw[<-hX];rfl,ho.done⟩
  rw[anW h2] at hX ⊢;by_cases h3:x.p=1
  ·rw[anW (by simp[h3])];rw[anX h3] at hX;simp only[show ai ((0:Int)≠0)=aq from rfl,i_f];rw[fpm0,pm_0 ho 0 rfl];simp only[h3,rs,aoA,i_t];exact hK _ _ ⟨by rw[<-hX];rfl,ho.done⟩
  rw[anW h3] at hX;by_cases h4:s.length % (n+x.head)=0
  case neg=>
   rw[anX ⟨h3,h4⟩];rw[anX h4] at hX;simp only[show ai ((16:Int)≠0)=au from rfl,i_t];exact hK _ _ ⟨by rw[<-hX];rfl,ho.done⟩
  rw[anW (by simp[h4])];rw[anW (by simp[h4])] at hX;simp only[show ai ((0:Int)≠0)=aq from rfl,i_f];rw[fpm0,pm_0 ho 0 rfl];simp only[h3,rs,aoB,i_f];rw[fpm1,pm_1 ho 0 rfl];have hc:1<=x.c∧x.c<=1000000:=⟨h.2.1,by have:=h.2.2.2.1;omega⟩;have e:∀W:ak,(bA 246 #[(2,.int .i64 x.c)]).run ah W=.ok (.value (rwV nilS nilS x.c)) W:=λW=>by kernel_rfl
  refine aC (e w3) |>.mpr ?_;refine bD (λb=>.pointer (aw ⟨b,0,av⟩)) (rwC nilS nilS 0) 246 (λ_=>by kernel_rfl) ho λb9 w4 ho=>?_;refine iL 0 ho rfl (new:=rwC nilS nilS x.c) szRw (V2 rfl rfl) rfl λw5 ho=>?_;generalize x.head=hd at hX hh h4 ⊢;generalize x.c=co at hX hc ho ⊢;have ho:=(ho.nilU 5 1).nilU 5 1;have ho:=ho.sub (L':=[.urow 5 1 nilS 0 [],.urow 5 1 nilS 0 [],rwE b9 nilS nilS co]) (.cons_cons _ (.cons_cons _ (.cons_cons _ (List.nil_sublist _))));refine loop (λvs W=>∃(t prev out:List UInt8) (ov va vr:ao) (e:Ent),vs=[.string ⟨t.toArray⟩,ov]∧t.length<=s.length∧t.length % (n+hd)=0∧out.length+t.length<=s.length∧prev.length<=1000000∧BRd e vr prev∧va.oneCell'=au∧(∃f,t.length < f∧jz co n hd f t prev out=X)∧OwnS NoB w W [outR ov out,e,rwE b9 va vr co]) (λvs _=>iG (vs.getD 0 undef)) ⟨s,[],[],nilS,nilS,nilS,_,rfl,om,h4,sm,sm,λW h=>Sl.urow h,rfl,⟨_,om,hX⟩,ho⟩ ?_;clear ho hX;rintro vs w6 ⟨t,prev,out,ov,va,vr,e,rfl,htl,htm,hot,hpl,hbr,hva,⟨f,hf,hX⟩,ho⟩ _;simp only[tU,gd,nz];obtain⟨f,rfl⟩:∃f',f=f'+1:=⟨f - 1,om⟩;rw[jz] at hX;dsimp only at hX;rw[cL aoD]
  try simp only[rs]
  by_cases h0:t.length=0
  ·rw[anX h0] at hX;simp only[show ai ((0:Int) < (t.length:Int))=aq from anY om,i_f];rw[gO aoK aoP aoD (cS (ho.at_ 0 rfl))];exact hK _ _ ⟨by rw[<-hX];rfl,ho.done⟩
  rw[anW h0] at hX;simp only[show ai ((0:Int) < (t.length:Int))=au from anZ om,i_t];have hge:n+hd<=t.length:=avL om (avM htm);refine join λJ3 hJ3=>?_;have hvr:vr.oneCell'=true:=kC (hbr w6 (ho.at_ 1 rfl));have next:∀tag:Nat,(tag=if hd=1 then (t.getD 0 0).toNat else 1)->J3 [.int .i64 (tag:Int)] w6:=by
   intro tag htag;rw[<-htag] at hX;refine hJ3 _ _ λ_=>?_;simp only[sX,gd,rs,iN,bnx];by_cases h5:5<=tag
   ·rw[anX h5] at hX;simp only[show ai ((5:Int)<=(tag:Int))=au from anZ om,i_t];exact hK _ _ ⟨by rw[<-hX];rfl,ho.done⟩
   rw[anW h5] at hX;simp only[show ai ((5:Int)<=(tag:Int))=aq from anY om,i_f];have hsl:((t.drop hd).take n).length=n:=by rw[aoH,aoJ];omega
   have hdl:(dp (tag:Int) prev co [] ((t.drop hd).take n)).length=n:=by rw[oe,hsl];simp
   have fin:∀b cap W,OwnS NoB w W [.mkr 5 b ((t.drop hd).take n),outR ov out,e,rwE b9 vr (.slice (aw ⟨b,0,av⟩) ((t.drop hd).take n).length cap) co]->gC (.string ⟨t.toArray⟩) (.int .i64 (n:Int)) (.int .i64 (hd:Int)) ov (.pointer (aw ⟨b9,0,av⟩)) (.int .i64 (tag:Int)) W (It (λvs W=>∃(t prev out:List UInt8) (ov va vr:ao) (e:Ent),vs=[.string ⟨t.toArray⟩,ov]∧t.length<=s.length∧t.length % (n+hd)=0∧out.length+t.length<=s.length∧prev.length<=1000000∧BRd e vr prev∧va.oneCell'=au∧(∃f,t.length < f∧jz co n hd f t prev out=X)∧OwnS NoB w W [outR ov out,e,rwE b9 va vr co]) (λvs _=>iG (vs.getD 0 undef)) [.string ⟨t.toArray⟩,ov] w6) K:=by
    intro b cap W ho;unfold gC ldx bnx fax slx apx cx;rw[l_at (ho.agg 3 rfl NO)];refine afU 2 0 dc ho rfl rfl hbr hc om λW2 ho=>?_;refine aC (bH zG) |>.mpr (aC (A9 (ho.at_ 3 rfl)) |>.mpr ?_);have hsl2:=Ti (cap:=cap) (ho.at_ 0 rfl);rw[hdl] at hsl2;rw[hsl];refine aX 1 aoK elU8 dc ho rfl hsl2 aW om om λv' w9 ho=>?_
    try simp only[rs]
    rw[aA om om,Ac aoD om om,show ((n:Int)+(hd:Int)).toNat=n+hd by omega];have hbr2:BRd (.mkr 5 b (dp (tag:Int) prev co [] ((t.drop hd).take n))) (.slice (aw ⟨b,0,av⟩) n cap) (dp (tag:Int) prev co [] ((t.drop hd).take n)):=by
     have:=@Mc b cap (dp (tag:Int) prev co [] ((t.drop hd).take n))
     rwa [hdl] at this
    have ho:OwnS NoB w w9 [.mkr 5 b (dp (tag:Int) prev co [] ((t.drop hd).take n)),outR v' (out++dp (tag:Int) prev co [] ((t.drop hd).take n)),e,rwE b9 vr (.slice (aw ⟨b,0,av⟩) n cap) co]:=by
     rw[cQ,hdl];rw[hsl] at ho;exact ho
    have hld:(t.drop (n+hd)).length=t.length - (n+hd):=aoJ;refine aQ ⟨t.drop (n+hd),_,_,v',vr,_,_,rfl,om,?_,by rw[aoC,hdl];omega,by rw[hdl];omega,hbr2,hvr,⟨f,om,hX⟩,?_⟩ ?_
    ·rw[hld,avN hge] at *;omega
    ·exact (OwnS.swap ho).sub (.cons_cons _ (.cons_cons _ (.cons _ (arK _))))
    ·show iG (.string ⟨(t.drop (n+hd)).toArray⟩) < iG (.string ⟨t.toArray⟩);rw[eR,eR,hld];omega
   have ho:=ho.drew;refine⟨λW=>∃a,(rwE b9 a vr co).is W,⟨va,ho.at_ 2 rfl⟩,?_⟩;refine aL _ (λ_=>bH zG) (sL _ (λW ⟨a,h⟩=>A9 h) ?_);refine aL _ (λ_=>OB) ?_;rw[aA om om];refine aL _ (λ_=>jG aoD om om om) ?_;rw[show ((n:Int)+(hd:Int)).toNat - ((hd:Nat):Int).toNat=n by omega,aoF];refine aL _ (λ_=>bH RD) ⟨?_,?_⟩
   ·refine Gp aoD aoK aoP ho λb cap w7 ho=>⟨⟨va,ho.at_ 3 rfl⟩,?_⟩;refine aN 3 ho rfl krx hvr (by show 0+0 < 3;omega) λw8 ho=>?_;refine aL _ (λ_=>bH zG) ?_;refine aN 3 ho rfl krx rfl (by show 0+1 < 3;omega) λw9 ho=>?_;exact fin b cap w9 ho
   ·refine aN 2 ho rfl krx hvr (by show 0+0 < 3;omega) λw8 ho=>?_;refine Gp aoD aoK aoP ho λb cap w7 ho=>⟨⟨vr,ho.at_ 3 rfl⟩,?_⟩;refine aL _ (λ_=>bH zG) ?_;refine aN 3 ho rfl krx rfl (by show 0+1 < 3;omega) λw9 ho=>?_;exact fin b cap w9 ho
  try simp only[rs]
  by_cases hd1:hd=1
  ·simp only[show ai ((hd:Int)=1)=au from anZ om,i_t];rw[s_ix (c:=t.getD 0 0) aoD dc (get0 om),u8ix];exact next _ (by rw[anX hd1])
  ·simp only[show ai ((hd:Int)=1)=aq from anY om,i_f];exact next 1 (by rw[anW hd1])
 have hh:x.head=if 10<=x.p then 1 else 0:=rfl
 by_cases h10:10<=x.p
 ·simp only[h10,aoA,i_t];rw[anX h10] at hh;rw[hh] at main;exact main
 ·simp only[h10,aoB,i_f];rw[anW h10] at hh;rw[hh] at main;exact main
theorem MP (x:Pm)(s:List UInt8)(w:ak)(hs:s.length<=1000000000):Ret ah 60 #[pmV x,.string ⟨s.toArray⟩] w (λv w'=>v=zlT (dy x s)∧Below w.heap.size w w'):=by
 refine aK λK hK=>xA ?_;generalize hX:dy x s=X at hK;unfold dy at hX;unfold nU nz;refine yE x (Own.start w) λb w1 ho=>?_;rw[pm_v ho 0 rfl];refine aH ho (tF x w1) ?_;rintro _ w2 rfl ho;simp only[bQ];by_cases h:x.ok
 case neg=>
  rw[anX h] at hX;rw[anW h];simp only[show ai ((1:Int)≠0)=au from rfl,i_t];exact hK _ _ ⟨by rw[<-hX];rfl,ho.done⟩
 rw[anW (by simp[h])] at hX;rw[anX h];simp only[show ai ((0:Int)≠0)=aq from rfl,i_f];rw[cL aoD]
 try simp only[rs]
 by_cases h2:1048576 < s.length
 ·rw[anX h2] at hX;simp only[show ai ((1048576:Int) < (s.length:Int))=au from anZ om,i_t];exact hK _ _ ⟨by rw[<-hX];rfl,ho.done⟩
 rw[anW h2] at hX;simp only[show ai ((1048576:Int) < (s.length:Int))=aq from anY om,i_f];rw[fpm0,pm_0 ho 0 rfl]
 try simp only[rs]
 by_cases h3:x.p=1
 ·rw[anX h3] at hX;simp only[h3,aoA,i_t];exact hK _ _ ⟨by rw[<-hX];rfl,ho.done⟩
 rw[anW h3] at hX;simp only[h3,aoB,i_f];rw[pm_v ho 0 rfl];refine aH ho (LO x w2) ?_;rintro _ w3 rfl ho;rw[anX h];have hm1:=Pm.mul_pos h;have hm2:=h.2.2.2.2;have hc:1<=x.c∧x.c<=1000000:=⟨h.2.1,by have:=h.2.2.2.1;omega⟩;obtain⟨n,hn⟩:∃n:Nat,x.c*x.n=(n:Int):=⟨(x.c*x.n).toNat,om⟩;rw[hn] at hm1 hm2 hX ⊢;rw[aoF] at hX;refine join λJ hJ=>?_;rw[fpm0,pm_0 ho 0 rfl]
 try simp only[rs]
 have main:J [.int .i64 (x.head:Int)] w3:=by
  refine hJ _ _ λ_=>?_;simp only[kY,gd,nz];have hh:x.head<=1:=by unfold Pm.head;split<;>omega
  rw[cL aoD]
  try simp only[rs]
  rw[aA om om,show (n:Int)+(x.head:Int)=((n+x.head:Nat):Int) by omega,CR om,abH]
  try simp only[rs]
  by_cases h4:s.length % (n+x.head)=0
  case neg=>
   rw[anX h4] at hX;simp only[show ai (((s.length % (n+x.head):Nat):Int)≠0)=au from anZ om,i_t];exact hK _ _ ⟨by rw[<-hX];rfl,ho.done⟩
  rw[anW (by simp[h4])] at hX;simp only[show ai (((s.length % (n+x.head):Nat):Int)≠0)=aq from anY om,i_f];generalize x.head=hd at hX hh h4 ⊢;have ho:=(ho.nilU 5 1).nilU 5 1;have ho:OwnS NoB w w3 [outR nilS [],outR nilS [],pmE b x]:=ho;refine loop (λvs W=>∃(k:Nat) (prev out:List UInt8) (ov pv:ao),vs=[pv,ov,.int .i64 (k:Int)]∧k<=s.length∧(s.length - k) % (n+hd)=0∧out.length<=k∧prev.length<=1000000∧(∃f,s.length - k < f∧jz x.c n hd f (s.drop k) prev out=X)∧OwnS NoB w W [outR ov out,outR pv prev,pmE b x]) (λvs _=>s.length - n2 vs) ⟨0,[],[],nilS,nilS,rfl,om,h4,sm,sm,⟨_,om,hX⟩,ho⟩ ?_;clear ho hX;rintro vs w6 ⟨k,prev,out,ov,pv,rfl,hk,htm,hot,hpl,⟨f,hf,hX⟩,ho⟩ _;simp only[kL,gd,nz];obtain⟨f,rfl⟩:∃f',f=f'+1:=⟨f - 1,om⟩;rw[jz] at hX;dsimp only at hX;rw[aoJ] at hX;rw[cL aoD]
  try simp only[rs]
  by_cases h0:s.length - k=0
  ·rw[anX h0] at hX;simp only[show ai ((k:Int) < (s.length:Int))=aq from anY om,i_f];rw[gO aoK aoP aoD (cS (ho.at_ 0 rfl))];exact hK _ _ ⟨by rw[<-hX];rfl,ho.done⟩
  rw[anW h0] at hX;simp only[show ai ((k:Int) < (s.length:Int))=au from anZ om,i_t];have hge:n+hd<=s.length - k:=avL om (avM htm);have hg0:(s.drop k).getD 0 0=s.getD k 0:=by rw[aoE,aqG,aoE,apO]
  rw[hg0] at hX;refine join λJ3 hJ3=>?_;have next:∀tag:Nat,(tag=if hd=1 then (s.getD k 0).toNat else 1)->J3 [.int .i64 (tag:Int)] w6:=by
   intro tag htag;rw[<-htag] at hX;refine hJ3 _ _ λ_=>?_;simp only[jY,gd,rs,nz];by_cases h5:5<=tag
   ·rw[anX h5] at hX;simp only[show ai ((4:Int) < (tag:Int))=au from anZ om,i_t];exact hK _ _ ⟨by rw[<-hX];rfl,ho.done⟩
   rw[anW h5] at hX;simp only[show ai ((4:Int) < (tag:Int))=aq from anY om,i_f];have hsl:(((s.drop k).drop hd).take n).length=n:=by rw[aoH,aoJ,aoJ];omega
   have hdl:(dp (tag:Int) prev x.c [] (((s.drop k).drop hd).take n)).length=n:=by rw[oe,hsl];simp
   generalize hsrc:((s.drop k).drop hd).take n=src at hX hsl hdl;have hgs:∀i:Nat,i < n->s[k+hd+i]?=src[i]?:=λi hi=>by
    rw[<-hsrc,auV hi,aqG,aqG,show k+(hd+i)=k+hd+i by omega]
   generalize hrow:dp (tag:Int) prev x.c [] src=row at hX hdl;have ho:=ho.nilU 5 1;have ho:OwnS NoB w w6 [outR nilS [],outR ov out,outR pv prev,pmE b x]:=ho;refine loop (λvs W=>∃(p:List UInt8) (rv:ao),vs=[rv,.int .i64 (p.length:Int)]∧p.length<=n∧dp (tag:Int) prev x.c p (src.drop p.length)=row∧OwnS NoB w W [outR rv p,outR ov out,outR pv prev,pmE b x]) (λvs _=>n - n1 vs) ⟨[],nilS,rfl,sm,hrow,ho⟩ ?_;clear ho hrow;rintro vs w7 ⟨p,rv,rfl,hp,hrow,ho⟩ _;simp only[kT,gd,rs,iN,bnx,apx];by_cases hlt:(p.length:Int) < (n:Int)
   ·simp only[hlt,aoA,i_t];have hp':p.length < src.length:=om
    have hd2:src.drop p.length=src[p.length]::src.drop (p.length+1):=apV hp';rw[hd2,dp] at hrow;refine cR (λW=>OwnS NoB w W [outR rv p,outR ov out,outR pv prev,pmE b x]) ho.drew ?_;refine iV ?_;rw[aA om om];refine iV ?_;rw[aA om om];refine q_ix (c:=src[p.length]) aoD om (by rw[show ((k:Int)+(hd:Int)+(p.length:Int)).toNat=k+hd+p.length by omega,hgs _ om];exact aoI hp') ?_;refine q_do _ (λ_=>bH NP) (q_at _ (λW h=>MR (h.at_ 3 rfl)) ?_);refine kS (.int .u8 ((dn (tag:Int) prev p (p.length:Int) x.c).toNat:Int)) (λW h=>(LR (tag:Int) prev p pv rv (p.length:Int) x.c W om hc (cS (h.at_ 2 rfl)) (cS (h.at_ 0 rfl))).mono λv w' ⟨k1,k2⟩=>⟨k1,k2▸h⟩) ?_;refine iV ?_;rw[ZL];intro w8 ho;refine Dc _ ho λb8 w9 ho=>?_;refine aX 1 aoK elU8 dc ho rfl (eG (ho.at_ 0 rfl) dc rfl) aW om om λv' w10 ho=>?_
    try simp only[rs]
    rw[aA om om];have e1:(p++[src[p.length]+dn (tag:Int) prev p (p.length:Int) x.c]).length=p.length+1:=sm
    refine aQ ⟨p++[src[p.length]+dn (tag:Int) prev p (p.length:Int) x.c],v',by rw[e1];rfl,by rw[e1];omega,by rw[e1];exact hrow,?_⟩ (by simp[n1,RowKit.intOf];omega);rw[cQ];exact ho.tail
   ·simp only[hlt,aoB,i_f];have hpn:p.length=src.length:=om
    rw[apR om] at hrow;have hrow:p=row:=hrow;subst hrow;refine aX 1 aoK elU8 dc ho rfl (cS (ho.at_ 0 rfl)) aW om om λv' w10 ho=>?_
    try simp only[rs]
    rw[aA (n:=(n:Int)+(hd:Int)) om om,aA om om];have ho:OwnS NoB w w10 [outR rv p,outR v' (out++p),outR pv prev,pmE b x]:=by
     rw[cQ];exact ho
    refine aQ ⟨k+(n+hd),p,out++p,v',rv,?_,om,?_,by rw[aoC];omega,om,⟨f,om,by rw[arE] at hX;exact hX⟩,?_⟩ (by simp[n2,RowKit.intOf];omega)
    ·congr 3
    ·rw[avN hge] at htm;rw[show s.length - (k+(n+hd))=s.length - k - (n+hd) by omega];exact htm
    ·exact (OwnS.swap ho).sub (.cons_cons _ (.cons_cons _ (.cons _ (arK _))))
  try simp only[rs]
  by_cases hd1:hd=1
  ·simp only[show ai ((hd:Int)=1)=au from anZ om,i_t];rw[s_ix (c:=s.getD k 0) aoD om (by rw[aoF];exact get0 om),u8ix];exact next _ (by rw[anX hd1])
  ·simp only[show ai ((hd:Int)=1)=aq from anY om,i_f];exact next 1 (by rw[anW hd1])
 have hkn:=h.1;have hh:x.head=if 10<=x.p then 1 else 0:=rfl
 unfold Pm.known at hkn;by_cases h10:2 < x.p
 ·simp only[h10,aoA,i_t];rw[anX om] at hh;rw[hh] at main;exact main
 ·simp only[h10,aoB,i_f];rw[anW om] at hh;rw[hh] at main;exact main
end
end Go.Proofs.YtlipjfcbjemicaaGreatDoor
