/- Texts that go together: InfC InfD IntsA InfE SSlcN InfF InfG InfH InfI InfJ InfK EngAJ InfL InfM Plain16B SRef10 SRef11 IrA InfN InfO EngAA EngAB InfP InfQ SInflR SInflQ. -/
import Derived.Test.YtlipjfcbjemicaaGreatDoorRows
import Derived.Maps.RangeRun
import Derived.Test.YtlipjfcbjemicaaGreatDoorMapghdbbi
set_option linter.defProp false
set_option linter.unusedSimpArgs false
set_option linter.unusedVariables false
set_option maxRecDepth 20000
open Go.Proofs.Tryz
open Go.Proofs.Tryz renaming prog->ah
open Option renaming some->aw,none->av
open Bool renaming true->au,false->aq
open Go renaming Value->ao,World->ak
open Decidable renaming decide->ai
namespace Go.Proofs.YtlipjfcbjemicaaGreatDoor
variable{A:Nat->Prop}{C:ak->Prop}{K:VWP}{L R:List Eng.Ent}{M:Eng.Mem}{P:Program}{PK:PKT}{U U2:TypeId}{W w w' w0:ak}{a e way:Int}{args:Array ao}{b cap f fb h i j m most p rb sz tb:Nat}{c t0 v v' v2:ao}{cb:Array Bool}{cl l near:List Nat}{cs news xs:List ao}{u:FrameMode}{xo yo:Operand}{α:Type}{t0 t1 t2 t3 t4 t5:ao}{k0:Eng.KT}
section
open Eng Go.RowKit
def nsC (f:Nat->Int):List Value:=[.int .i64 (f 0),.int .i64 (f 1),.int .i64 (f 2),.int .i64 (f 3),.int .i64 (f 4),.int .i64 (f 5),.int .i64 (f 6),.int .i64 (f 7),.int .i64 (f 8),.int .i64 (f 9),.int .i64 (f 10),.int .i64 (f 11),.int .i64 (f 12),.int .i64 (f 13),.int .i64 (f 14),.int .i64 (f 15)]
def nsV (f:Nat->Int):Value:=.agg (nsC f).toArray
def nsE (b:Nat)(f:Nat->Int):Ent:=.cells b (nsC f) 334
theorem Vi (f:Nat->Int):∀v∈nsC f,v.oneCell'=true:=by
 intro v hv;simp only[nsC,aoM,aqI,or_false] at hv;rcases hv with rfl|rfl|rfl|rfl|rfl|rfl|rfl|rfl|rfl|rfl|rfl|rfl|rfl|rfl|rfl|rfl<;>rfl
theorem lt16 (hi:i < 16):i=0∨i=1∨i=2∨i=3∨i=4∨i=5∨i=6∨i=7∨i=8∨i=9∨i=10∨i=11∨i=12∨i=13∨i=14∨i=15:=om
theorem BI (f:Nat->Int)(hi:i < 16):(nsC f)[i]?=aw (.int .i64 (f i)):=by
 rcases lt16 hi with rfl|rfl|rfl|rfl|rfl|rfl|rfl|rfl|rfl|rfl|rfl|rfl|rfl|rfl|rfl|rfl<;>rfl
theorem UK (f:Nat->Int)(x:Int)(hi:i < 16):(nsC f).set i (.int .i64 x)=nsC (λj=>if j=i then x else f j):=by
 rcases lt16 hi with rfl|rfl|rfl|rfl|rfl|rfl|rfl|rfl|rfl|rfl|rfl|rfl|rfl|rfl|rfl|rfl<;>rfl
theorem abZ:aggN ah 334=aw 16:=krx
theorem szNs:(Tryz.prog.info? 334).map (·.size)=aw 16:=krx
section
variable {w:ak}{PK:PKT}{K:VWP}{S:Nat->Prop}{w0:ak}{L:List Ent}
theorem I5 {off:Nat}(hi:i < 16):(mIA 334 (.pointer (aw ⟨b,off,av⟩)) (.int .i64 (i:Int))).run ah W=.ok (.value (.pointer (aw ⟨b,off+i,av⟩))) W:=by
 rcases lt16 hi with rfl|rfl|rfl|rfl|rfl|rfl|rfl|rfl|rfl|rfl|rfl|rfl|rfl|rfl|rfl|rfl<;>kernel_rfl
theorem JG {off:Nat}(hi:i < 16):DoX ah (mIA 334 (.pointer (aw ⟨b,off,av⟩)) (.int .i64 (i:Int))) w PK K=K (.pointer (aw ⟨b,off+i,av⟩)) w:=aC (I5 hi)
theorem T3 (ho:OwnS S w0 w L)(k:∀b w',OwnS S w0 w' (nsE b (λ_=>0)::L)->K (.pointer (aw ⟨b,0,av⟩)) w'):DoX ah (Dv 334) w PK K:=
 bD (λb=>.pointer (aw ⟨b,0,av⟩)) (nsC λ_=>0) 334 (λ_=>by kernel_rfl) ho k
theorem anN (f:Nat->Int)(ho:OwnS S w0 w L)(k:∀b w',OwnS S w0 w' (nsE b f::L)->K (.pointer (aw ⟨b,0,av⟩)) w'):DoX ah (mBox 334 (nsV f)) w PK K:=
 bD (λb=>.pointer (aw ⟨b,0,av⟩)) (nsC f) 334 (λ_=>by kernel_rfl) ho k
theorem K8 (ho:OwnS S w0 w L)(j:Nat){f:Nat->Int}(hi:L[j]?=aw (nsE b f))(hi16:i < 16):DoX ah (aJ 3 (.pointer (aw ⟨b,0+i,av⟩))) w PK K=K (.int .i64 (f i)) w:=aS bP (ho.cell j hi (0+i) (by rw[aoN];exact BI f hi16))
theorem WA (j:Nat){f:Nat->Int}{x:Int}(hi16:i < 16)(ho:OwnS S w0 w L)(hi:L[j]?=aw (nsE b f))(k:∀w',OwnS S w0 w' (L.set j (nsE b (λm=>if m=i then x else f m)))->K undef w') :
  DoX ah (aV 3 (.pointer (aw ⟨b,0+i,av⟩)) (.int .i64 x)) w PK K:=aN j ho hi krx rfl (by show 0+i < 16;omega) λw' ho=>k w' (by
   unfold nsE;rw[<-UK f x hi16,<-aoN i];rw[aoN i] at ho ⊢;simpa using ho)
theorem ns_v (ho:OwnS S w0 w L)(j:Nat){f:Nat->Int}(hi:L[j]?=aw (nsE b f)):DoX ah (aJ 334 (.pointer (aw ⟨b,0,av⟩))) w PK K=K (nsV f) w:=l_at (ho.agg j hi abZ)
theorem RU (j:Nat){f f':Nat->Int}(ho:OwnS S w0 w L)(hi:L[j]?=aw (nsE b f))(k:∀w',OwnS S w0 w' (L.set j (nsE b f'))->K undef w') :
  DoX ah (aV 334 (.pointer (aw ⟨b,0,av⟩)) (nsV f')) w PK K:=iL j ho hi (new:=nsC f') szNs (Vi f') rfl k
theorem ZE {K:Ending->ak->Prop}{f:Nat->Int}(i:Nat)(ho:OwnS S w0 w L)(hi:L[i]?=aw (nsE b f))(k:K (.returned (nsV f)) w):RetX ah [.cell (.pointer (aw ⟨b,0,av⟩)) 334] w K:=
 lK (bN (ho.agg i hi abZ)) k
end
def cnt (lens:List Nat):Nat->Int:=λi=>if i=0 then 0 else ((lens.count i:Nat):Int)
def aM (l:List Nat):List Value:=l.map λn=>.int .i64 ((n:Nat):Int)
theorem eX (hs:Sl w v 1 l.length (aM l))(hi:i < l.length) :
  ∃b off,(∀W,(mIA 123 v (.int .i64 (i:Int))).run ah W=.ok (.value (.pointer (aw ⟨b,off,av⟩))) W)∧w.cell? ⟨b,off,av⟩=aw (.int .i64 ((l[i]:Nat):Int)):=by
 obtain⟨b,off,cap,rfl,hc⟩:=bY hs om;refine⟨b,off+i,λW=>?_,hc i _ (by simp[aM,hi])⟩;have:=dZ (P:=ah) (T:=123) (b:=b) (off:=off) (cap:=cap) (n:=l.length) (k:=.i64) (i:=(i:Int)) (w:=W) aoQ (show _=aw 1 by kernel_rfl) om om;rw[aoF,aoS] at this;exact this
theorem xL (lens:List Nat)(v:ao)(M:Mem)(w:ak)(h15:∀l∈lens,l<=15)(hl:lens.length<=100000)(hM:M.has w)(hs:SlA M.A M.w v 1 lens.length (aM lens)) :
  RetM ah 323 #[v] M w (λr _=>r=nsV (cnt lens)):=by
 refine aU hM λK hK=>Gf ?_;unfold Dr nz;refine T3 (OwnS.memS hM) λb2 w1 ho=>?_;refine T3 ho λb3 w2 ho=>?_;rw[bB aoQ (hs.now (ho.hasM 2 rfl))];refine loop (λvs W=>∃i:Nat,vs=[.int .i64 i]∧i<=lens.length∧OwnS M.A w W [nsE b3 (cnt (lens.take i)),nsE b2 (λ_=>0),.mem M]) (λvs _=>lens.length - n0 vs) ⟨0,rfl,om,?_⟩ ?_
 ·have e:cnt (lens.take 0)=λ_=>0:=by funext i;simp[cnt]
  rw[e];exact ho
 clear ho;rintro vs w3 ⟨i,rfl,hi,ho⟩ _;simp only[zK,gd,rs,nz];by_cases hlt:(i:Int) < (lens.length:Int)
 ·have hi':i < lens.length:=om
  simp only[hlt,aoA,i_t];refine join λJ hJ=>?_;obtain⟨b,off,r1,r2⟩:=eX (hs.now (ho.hasM 2 rfl)) hi';have hl15:=h15 _ (aoR hi');refine aC (r1 w3) |>.mpr (aC (aB bP r2) |>.mpr ?_);have htk:lens.take (i+1)=lens.take i++[lens[i]]:=by rw[apG hi']
  have fin:∀W,OwnS M.A w W [nsE b3 (cnt (lens.take (i+1))),nsE b2 (λ_=>0),.mem M]->J [] W:=by
   intro W ho;refine hJ _ _ λ_=>?_;simp only[zD,gd,rs,nz];rw[aA om om];exact aQ ⟨i+1,rfl,om,ho⟩ (by simp[n0,RowKit.intOf];omega)
  simp only[rs];by_cases h0:(0:Int) < ((lens[i]:Nat):Int)
  ·simp only[h0,aoA,i_t];rw[JG om,K8 ho 0 rfl om];simp only[rs];rw[JG om];have hc0:(lens.take i).count lens[i]<=100000:=by
    have:=asK (a:=lens[i]) (l:=lens.take i);rw[aoH] at this;omega
   have hcv:cnt (lens.take i) lens[i]=(((lens.take i).count lens[i]:Nat):Int):=by unfold cnt;rw[anW om]
   rw[hcv,aA om om];refine WA 0 om ho rfl λw4 ho=>fin w4 ?_;have e:(λm=>if m=lens[i] then (((lens.take i).count lens[i]:Nat):Int)+1 else cnt (lens.take i) m)=cnt (lens.take (i+1)):=by
    funext m
    unfold cnt;rw[htk,asC,auR];by_cases hm:m=lens[i]
    ·subst hm;rw[anX rfl,anW om];simp
    ·rw[anW hm];by_cases hm0:m=0
     ·rw[anX hm0,anX hm0]
     ·rw[anW hm0,anW hm0];have:(lens[i]==m)=false:=by simp;exactλh=>hm h.symm
      rw[this];simp
   rw[<-e];exact ho
  ·simp only[h0,aoB,i_f];refine fin w3 ?_;have e:cnt (lens.take (i+1))=cnt (lens.take i):=by
    funext m
    unfold cnt;rw[htk,asC,auR];by_cases hm0:m=0
    ·rw[anX hm0,anX hm0]
    ·rw[anW hm0,anW hm0];have:(lens[i]==m)=false:=by simp;omega
     rw[this];simp
   rw[e];exact ho
 ·simp only[hlt,aoB,i_f];have hie:i=lens.length:=om
  subst hie;rw[aqJ] at ho;rw[ns_v ho 0 rfl];refine RU 1 ho rfl λw4 ho=>?_;exact ZE 1 ho rfl (hK _ _ M _ 2 ho rfl M.le_refl rfl)
theorem GB (lens:List Nat)(M:Mem)(w:ak)(hl:lens.length<=100000)(hM:M.has w) :
  RetM ah 324 #[nsV (cnt lens)] M w (λr _=>r=nsV (λi=>((Fl.first lens (if i<=15 then i else 0):Nat):Int))):=by
 refine aU hM λK hK=>Ii ?_;unfold ED nz;refine anN (cnt lens) (OwnS.memS hM) λb1 w1 ho=>?_;refine T3 ho λb2 w2 ho=>?_;refine T3 ho λb3 w3 ho=>?_;refine loop (λvs W=>∃l:Nat,vs=[.int .i64 l]∧1<=l∧l<=15∧OwnS M.A w W [nsE b3 (λi=>((Fl.first lens (if i<=l then i else 0):Nat):Int)),nsE b2 (λ_=>0),nsE b1 (cnt lens),.mem M]) (λvs _=>15 - n0 vs) ⟨1,rfl,om,om,?_⟩ ?_
 ·have e:(λi=>((Fl.first lens (if i<=1 then i else 0):Nat):Int))=λ_=>0:=by
   funext i
   by_cases h:i<=1
   ·rw[anX h];rcases (by omega:i=0∨i=1) with rfl|rfl<;>rfl
   ·rw[anW h];rfl
  rw[e];exact ho
 clear ho;rintro vs w4 ⟨l,rfl,hl1,hl15,ho⟩ _;simp only[Cm,gd,rs,nz];by_cases hlt:(l:Int) < 15
 ·simp only[hlt,aoA,i_t];have hfb:=Fl.Nb (lens:=lens) l;have hcb:lens.count l<=lens.length:=asK;have hp:4 ^ l<=4 ^ 15:=apJ dc om;have hp2:(4:Nat) ^ 15=1073741824:=dc
  have hfb2:4 ^ l*lens.length<=1073741824*100000:=arQ om hl;have hcl:cnt lens l=((lens.count l:Nat):Int):=by unfold cnt;rw[anW om]
  refine cR (λW=>OwnS M.A w W [nsE b3 (λi=>((Fl.first lens (if i<=l then i else 0):Nat):Int)),nsE b2 (λ_=>0),nsE b1 (cnt lens),.mem M]) ho.drew ?_;refine iV ?_;rw[aA om om];refine q_do _ (λ_=>I5 om) (q_at (.int .i64 (Fl.first lens l)) (λW h=>aB bP (h.cell 0 rfl (0+l) (by rw[aoN];refine (BI _ om).trans ?_;rw[anX (aoG l)]))) ?_);refine q_do _ (λ_=>I5 om) (q_at (.int .i64 (lens.count l:Nat)) (λW h=>aB bP (h.cell 2 rfl (0+l) (by rw[aoN];refine (BI _ om).trans ?_;rw[hcl]))) ?_);refine iV ?_;rw[aA om om];refine q_do _ (λ_=>acH) ?_;rw[aA om om];rw[show ((l:Nat):Int)+1=((l+1:Nat):Int) by omega];refine q_do _ (λ_=>I5 om) ?_;intro w5 ho;refine WA 0 om ho rfl λw6 ho=>?_;refine aQ ⟨l+1,rfl,om,om,?_⟩ (by simp[n0,RowKit.intOf];omega);have e:(λm=>if m=l+1 then (2:Int)*(((Fl.first lens l:Nat):Int)+((lens.count l:Nat):Int)) else ((Fl.first lens (if m<=l then m else 0):Nat):Int))=λi=>((Fl.first lens (if i<=l+1 then i else 0):Nat):Int):=by
   funext m
   by_cases hm:m=l+1
   ·subst hm;rw[anX rfl,anX (aoG _)];obtain⟨k,rfl⟩:∃k,l=k+1:=⟨l - 1,om⟩;rw[Fl.first];push_cast;rfl
   ·rw[anW hm];by_cases hml:m<=l
    ·rw[anX hml,anX om]
    ·rw[anW hml,anW om]
  rw[<-e];exact ho
 ·simp only[hlt,aoB,i_f];have:l=15:=om
  subst this;rw[ns_v ho 0 rfl];refine RU 1 ho rfl λw4 ho=>?_;exact ZE 1 ho rfl (hK _ _ M _ 3 ho rfl M.le_refl rfl)
end
section
open Eng Go.RowKit
def az (lens:List Nat):Int:=if 288 < lens.length then 6 else Fl.check lens
theorem Tx (lens:List Nat)(v:ao)(M:Mem)(w:ak)(h15:∀l∈lens,l<=15)(hl:lens.length<=100000)(hM:M.has w)(hs:SlA M.A M.w v 1 lens.length (aM lens)) :
  RetM ah 342 #[v] M w (λr _=>r=.int .i64 (az lens)):=by
 refine aU hM λK hK=>Jo ?_;unfold Hn nz;have ho:OwnS M.A w w [.mem M]:=OwnS.memS hM;rw[bB aoQ (hs.now hM)];simp only[rs];by_cases h288:(288:Int) < (lens.length:Int)
 ·simp only[h288,aoA,i_t];exact hK _ _ M _ 0 ho rfl M.le_refl (by unfold az;rw[anX om])
 have hc:az lens=Fl.check lens:=by unfold az;rw[anW om]
 simp only[h288,aoB,i_f];rw[bB aoQ (hs.now hM)];refine loop (λvs W=>∃i:Nat,vs=[.int .i64 i]∧i<=lens.length∧OwnS M.A w W [.mem M]) (λvs _=>lens.length - n0 vs) ⟨0,rfl,om,ho⟩ ?_;clear ho;rintro vs w2 ⟨i,rfl,hi,ho⟩ _;simp only[Dl,gd,rs,nz];by_cases hlt:(i:Int) < (lens.length:Int)
 ·have hi':i < lens.length:=om
  simp only[hlt,aoA,i_t];obtain⟨b,off,r1,r2⟩:=eX (hs.now (ho.hasM 0 rfl)) hi';have hl15:=h15 _ (aoR hi');refine aC (r1 w2) |>.mpr (aC (aB bP r2) |>.mpr ?_);simp only[rs,show ai (((lens[i]:Nat):Int) < 0)=aq from anY om,show ai ((15:Int) < ((lens[i]:Nat):Int))=aq from anY om];rw[aA om om];exact aQ ⟨i+1,rfl,om,ho⟩ (by simp[n0,RowKit.intOf];omega)
 simp only[hlt,aoB,i_f];refine bI ho 0 rfl (xL lens v M w2 h15 hl (ho.hasM 0 rfl) hs) ?_;rintro _ N w3 hle rfl ho;refine T3 ho λb5 w4 ho=>?_;refine RU 0 ho rfl λw5 ho=>?_;have ho:OwnS M.A w w5 [nsE b5 (cnt lens),.mem N]:=ho;refine loop (λvs W=>∃l:Nat,vs=[.int .i64 (Fl.fW lens l),.int .i64 (Fl.aR lens l),.int .i64 ((l+1:Nat):Int)]∧l<=15∧OwnS M.A w W [nsE b5 (cnt lens),.mem N]) (λvs _=>16 - n2 vs) ⟨0,rfl,om,ho⟩ ?_;clear ho hlt hi;rintro vs w6 ⟨l,rfl,hl15,ho⟩ _;simp only[Dh,gd,rs,nz];have hcn:∀k,k≠0->cnt lens k=((lens.count k:Nat):Int):=λk h=>by unfold cnt;rw[anW h]
 by_cases hlt:((l+1:Nat):Int)<=15
 ·simp only[hlt,aoA,i_t];have hcb:lens.count (l+1)<=lens.length:=asK;have s1:=Fl.RR (lens:=lens) (l+1);have s2:=Fl.JN (lens:=lens) (l+1);have m1:(l+1)*(lens.length*32768)<=16*(100000*32768):=arQ om (apQ _ hl);have m2:(l+1)*lens.length<=16*100000:=arQ om hl;rw[Fl.fW] at s1;rw[Fl.aR] at s2;rw[JG om,K8 ho 0 rfl om,hcn _ om]
  try simp only[rs]
  rw[aA om om,wC om];rw[show min ((15:Int) - ((l+1:Nat):Int)).toNat IntKind.i64.bits=15 - (l+1) by show min ((15:Int) - ((l+1:Nat):Int)).toNat 64=15 - (l+1);omega];rw[show ((lens.count (l+1):Nat):Int)*2 ^ (15 - (l+1))=((lens.count (l+1)*2 ^ (15 - (l+1)):Nat):Int) by push_cast;rfl];generalize hq:lens.count (l+1)*2 ^ (15 - (l+1))=q at s1 ⊢;rw[aA om om]
  try simp only[rs]
  rw[aA om om,JG om,K8 ho 0 rfl om,hcn _ om]
  try simp only[rs]
  rw[aA om om,aA om om];refine aQ ⟨l+1,?_,om,ho⟩ (by simp[n2,RowKit.intOf];omega);rw[Fl.fW,Fl.aR,hq];rfl
 ·have hl:l=15:=om
  subst hl;simp only[hlt,aoB,i_f];have fin:∀e:Int,e=Fl.check lens->K (.returned (.int .i64 e)) w6:=λe he=>hK _ _ N _ 1 ho rfl hle (by rw[hc,he]);unfold Fl.check at fin;by_cases a:Fl.fW lens 15=32768
  ·simp only[show ai (((Fl.fW lens 15:Nat):Int)=32768)=au from anZ om,rs,g_un];exact fin 0 (by rw[anX (.inl a)])
  simp only[show ai (((Fl.fW lens 15:Nat):Int)=32768)=aq from anY om,rs];by_cases b:Fl.aR lens 15=0
  ·simp only[show ai (((Fl.aR lens 15:Nat):Int)=0)=au from anZ om,rs,g_un];exact fin 0 (by rw[anX (.inr (.inl b))])
  simp only[show ai (((Fl.aR lens 15:Nat):Int)=0)=aq from anY om,rs];by_cases c:Fl.aR lens 15=1
  ·simp only[show ai (((Fl.aR lens 15:Nat):Int)=1)=au from anZ om,rs];rw[show ((1:Int))=((1:Nat):Int) from rfl,JG om,K8 ho 0 rfl om,hcn 1 om];by_cases e:lens.count 1=1
   ·simp only[rs,show ai (((lens.count 1:Nat):Int)=((1:Nat):Int))=au from anZ om];exact fin 0 (by rw[anX (.inr (.inr ⟨c,e⟩))])
   ·simp only[rs,show ai (((lens.count 1:Nat):Int)=((1:Nat):Int))=aq from anY om];exact fin 13 (by rw[anW (λh=>h.elim a λh=>h.elim b λh=>e h.2)])
  ·simp only[show ai (((Fl.aR lens 15:Nat):Int)=1)=aq from anY om,rs,g_un];exact fin 13 (by rw[anW (λh=>h.elim a λh=>h.elim b λh=>c h.1)])
end
section
open Eng Go.RowKit
def Qt (l:List Int):List Value:=l.map λn=>.int .i64 n
theorem iY {l:List Int}:∀x∈Qt l,x.oneCell'=true:=by
 intro x hx;obtain⟨n,-,rfl⟩:=apN.1 hx;rfl
theorem Ht:eM ah 123=true:=krx
theorem amJ:elB ah 3 1 8=true:=krx
theorem LS {K:ao->Prop}{a b:ao}(h:K a):HDo P C (mExt (.tuple #[a,b]) 0) K:=aL a (λ_=>rfl) h
theorem GA {K:ao->Prop}{a b:ao}(h:K b):HDo P C (mExt (.tuple #[a,b]) 1) K:=aL b (λ_=>rfl) h
section
variable {w:ak}{PK:PKT}{K:VWP}{S:Nat->Prop}{w0:ak}{L:List Ent}
theorem Ui (ho:OwnS S w0 w L)(k:∀v w',OwnS S w0 w' (.urow 3 1 v 0 []::L)->K v w'):DoX ah (bF 123 0 #[]) w PK K:=
 bD (λb=>.slice (aw ⟨b,0,av⟩) 0 0) [] 3 (λ_=>by kernel_rfl) ho λb w1 ho=>k _ _ (ho.toU 1 0 0 sm om om)
theorem mY (n:Int)(ho:OwnS S w0 w L)(k:∀b w',OwnS S w0 w' (.cells b (Qt [n]) 3::L)->K (.slice (aw ⟨b,0,av⟩) 1 1) w'):DoX ah (bF 123 1 #[(0,.int .i64 n)]) w PK K:=
 bD (λb=>.slice (aw ⟨b,0,av⟩) 1 1) (Qt [n]) 3 (λ_=>by kernel_rfl) ho k
theorem jD (i:Nat){n:Nat}(ho:OwnS S w0 w L)(hi:L[i]?=aw (.urow 3 1 v n xs))(hs:Sl w v2 1 m news)(h1:∀u∈news,u.oneCell'=au)(hb:n+m<=100000000000)
  (k:∀v' w',OwnS S w0 w' (L.set i (.urow 3 1 v' (n+m) (xs++news)))->K v' w'):DoX ah (mB .append #[123,123] 123 cb #[v,v2]) w PK K:=
 aX i aoQ amJ dc ho hi hs h1 om om k
end
end
section
open Eng Go.RowKit
theorem Ri (n:Nat):(Go.madeCells (Value.int .i64 0).cells (n*1))=(List.replicate n (Value.int .i64 0)).toArray:=by
 unfold Go.madeCells;refine Array.ext sm λi h1 h2=>?_;have e:(Value.int .i64 0).cells=#[Value.int .i64 0]:=rfl;simp only[Array.getElem_map,List.getElem_toArray,auS,e];simp[Nat.mod_one]
theorem SH:∃i,Tryz.prog.info? 3=aw i∧i.zero=aw (Value.int .i64 0)∧i.size=1∧i.bytes=8:=⟨_,rfl,krx,krx,krx⟩
section
variable {w:ak}{PK:PKT}{K:VWP}{S:Nat->Prop}{w0:ak}{L:List Ent}
theorem yK {n:Nat}(hn:n<=1000000)(ho:OwnS S w0 w L)(k:∀b w',OwnS S w0 w' (.cells b (List.replicate n (.int .i64 0)) 3::L)->K (.slice (aw ⟨b,0,av⟩) n n) w') :
  DoX ah (H4 123 (.int .i64 (n:Int)) (.int .i64 (n:Int))) w PK K:=by
 obtain⟨i,hi,hz,h1,h8⟩:=SH;refine bD (λb=>.slice (aw ⟨b,0,av⟩) n n) (List.replicate n (.int .i64 0)) 3 (λW=>?_) ho k;have:=Go.run_make (P:=ah) W 123 3 i (Value.int .i64 0) aoQ hi hz .i64 .i64 (n:Int) (n:Int) om om (by rw[h8];omega) om;rw[h1,aoF,Ri] at this;exact bK this
end
def dh (lens:List Nat)(i:Nat):Nat:=if lens.getD i 0=0 then 0 else Fl.first lens (lens.getD i 0)+(lens.take i).count (lens.getD i 0)
def jg (lens:List Nat):List Nat:=(List.range lens.length).map (dh lens)
theorem jk (lens:List Nat):(jg lens).length=lens.length:=by simp[jg]
theorem th {lens:List Nat}(hi:i < lens.length):(jg lens)[i]?=aw (dh lens i):=by
 simp[jg,hi]
def gL (lens:List Nat)(i:Nat):List Value:=aM ((jg lens).take i)++List.replicate (lens.length - i) (.int .i64 0)
theorem PQ {lens:List Nat}(hi:i<=lens.length):(gL lens i).length=lens.length:=by
 unfold gL aM;rw[aoC,apP,aoH,apC,jk];omega
theorem Jw {lens:List Nat}(hi:i < lens.length):(gL lens i).set i (.int .i64 ((dh lens i:Nat):Int))=gL lens (i+1):=by
 unfold gL;have hl:(aM ((jg lens).take i)).length=i:=by unfold aM;rw[apP,aoH,jk];omega
 rw[asD _ _ om,hl,aqK];obtain⟨k,hk⟩:∃k,lens.length - i=k+1:=⟨lens.length - i - 1,om⟩;rw[hk,atI,aqP,show lens.length - (i+1)=k by omega];rw[apG (by rw[jk];exact hi)];have e:(jg lens)[i]'(by rw[jk];exact hi)=dh lens i:=by
  have:=th hi;rw[aoI (by rw[jk];exact hi)] at this;exact arH this
 rw[e];simp[aM]
theorem NJ {lens:List Nat}(hi:i < lens.length)(h0:dh lens i=0):gL lens (i+1)=gL lens i:=by
 rw[<-Jw hi,h0];refine EY ?_;unfold gL;have hl:(aM ((jg lens).take i)).length=i:=by unfold aM;rw[apP,aoH,jk];omega
 rw[arD om,hl,aqK,atO,anX om];rfl
def nxt (lens:List Nat)(i:Nat):Nat->Int:=λm=>((Fl.first lens (if m<=15 then m else 0)+(if m=0 then 0 else (lens.take i).count m):Nat):Int)
theorem LL (lens:List Nat)(v:ao)(M:Mem)(w:ak)(h15:∀l∈lens,l<=15)(hl:lens.length<=100000)(hM:M.has w)(hs:SlA M.A M.w v 1 lens.length (aM lens)) :
  RetM ah 321 #[v] M w (λr N=>∃v',r=.tuple #[v',.int .i64 (az lens)]∧v'.oneCell'=au∧(az lens=0->SlA N.A N.w v' 1 lens.length (aM (jg lens)))):=by
 refine aU hM λK hK=>I9 ?_;unfold Hb nz;have ho:OwnS M.A w w [.mem M]:=OwnS.memS hM;refine aH ho (R:=λr=>r=.int .i64 (az lens)) (RetM.told (Tx lens v M w h15 hl hM hs)) ?_;rintro _ w1 rfl ho;rw[bQ];by_cases hc:az lens=0
 case neg=>
  simp only[hc,ne_eq,arX,aoA,i_t];exact hK _ _ M _ 0 ho rfl M.le_refl ⟨_,rfl,rfl,λh=>absurd h hc⟩
 simp only[hc,ne_eq,not_true,aoB,i_f];refine aH ho (R:=λr=>r=nsV (cnt lens)) (RetM.told (xL lens v M w1 h15 hl (ho.hasM 0 rfl) hs)) ?_;rintro _ w2 rfl ho;refine aH ho (R:=λr=>r=nsV (λi=>((Fl.first lens (if i<=15 then i else 0):Nat):Int))) (RetM.told (GB lens M w2 hl (ho.hasM 0 rfl))) ?_;rintro _ w3 rfl ho;refine T3 ho λb5 w4 ho=>?_;refine RU 0 ho rfl λw5 ho=>?_;rw[bB aoQ (hs.now (ho.hasM 1 rfl))];refine yK om ho λb6 w6 ho=>?_;rw[bB aoQ (hs.now (ho.hasM 2 rfl))];refine loop (λvs W=>∃i:Nat,vs=[.int .i64 i]∧i<=lens.length∧OwnS M.A w W [.cells b6 (gL lens i) 3,nsE b5 (nxt lens i),.mem M]) (λvs _=>lens.length - n0 vs) ⟨0,rfl,om,?_⟩ ?_
 ·have e1:gL lens 0=List.replicate lens.length (.int .i64 0):=by simp[gL,aM]
  have e2:nxt lens 0=λi=>((Fl.first lens (if i<=15 then i else 0):Nat):Int):=by
   funext m;unfold nxt;simp
  rw[e1,e2];exact ho
 clear ho;rintro vs w7 ⟨i,rfl,hi,ho⟩ _;simp only[Di,gd,rs,nz];by_cases hlt:(i:Int) < (lens.length:Int)
 ·have hi':i < lens.length:=om
  simp only[hlt,aoA,i_t];refine join λJ hJ=>?_;obtain⟨b,off,r1,r2⟩:=eX (hs.now (ho.hasM 2 rfl)) hi';have hl15:=h15 _ (aoR hi');have hgd:lens.getD i 0=lens[i]:=by rw[aoE,aoI hi'];rfl
  refine aC (r1 w7) |>.mpr (aC (aB bP r2) |>.mpr ?_);have htk:lens.take (i+1)=lens.take i++[lens[i]]:=by rw[apG hi']
  have fin:∀W,OwnS M.A w W [.cells b6 (gL lens (i+1)) 3,nsE b5 (nxt lens (i+1)),.mem M]->J [] W:=by
   intro W ho;refine hJ _ _ λ_=>?_;simp only[DF,gd,rs,nz];rw[aA om om];exact aQ ⟨i+1,rfl,om,ho⟩ (by simp[n0,RowKit.intOf];omega)
  simp only[rs];by_cases h0:(0:Int) < ((lens[i]:Nat):Int)
  ·simp only[h0,aoA,i_t];have hfb:=Fl.Nb (lens:=lens) lens[i];have hp:4 ^ lens[i]<=4 ^ 15:=apJ dc hl15;have hp2:(4:Nat) ^ 15=1073741824:=dc
   have hfb2:4 ^ lens[i]*lens.length<=1073741824*100000:=arQ om hl;have hcb:(lens.take i).count lens[i]<=100000:=by
    have:=asK (a:=lens[i]) (l:=lens.take i);rw[aoH] at this;omega
   have hca:dh lens i=Fl.first lens lens[i]+(lens.take i).count lens[i]:=by
    unfold dh;rw[hgd,anW om]
   have hnx:nxt lens i lens[i]=((dh lens i:Nat):Int):=by
    unfold nxt;rw[anX hl15,anW om,hca]
   rw[JG om,K8 ho 1 rfl om,hnx];have ria:=dZ (P:=ah) (T:=123) (b:=b6) (off:=0) (cap:=lens.length) (n:=lens.length) (k:=.i64) (i:=(i:Int)) (w:=w7) aoQ (show _=aw 1 by kernel_rfl) om om;refine aC ria |>.mpr ?_;rw[aoF,aoS,aoN];refine aN 0 ho rfl krx rfl (by rw[PQ hi];exact hi') λw8 ho=>?_;rw[Jw hi'] at ho;have ho:OwnS M.A w w8 [.cells b6 (gL lens (i+1)) 3,nsE b5 (nxt lens i),.mem M]:=ho;rw[JG om,K8 ho 1 rfl om,hnx];simp only[rs];rw[JG om,aA om om];refine WA 1 om ho rfl λw9 ho=>fin w9 ?_;have e:(λm=>if m=lens[i] then ((dh lens i:Nat):Int)+1 else nxt lens i m)=nxt lens (i+1):=by
    funext m
    by_cases hm:m=lens[i]
    ·subst hm;rw[anX rfl];unfold nxt;rw[anX hl15,anW om,htk,asC,auR,hca];simp;omega
    ·rw[anW hm];unfold nxt;rw[htk,asC,auR];have:(lens[i]==m)=false:=by simp;exactλh=>hm h.symm
     rw[this];simp
   rw[<-e];exact ho
  ·simp only[h0,aoB,i_f];have hz:lens[i]=0:=om
   refine fin w7 ?_;have e1:gL lens (i+1)=gL lens i:=NJ hi' (by unfold dh;rw[hgd,anX hz]);have e2:nxt lens (i+1)=nxt lens i:=by
    funext m
    unfold nxt;rw[htk,asC,auR];by_cases hm0:m=0
    ·rw[anX hm0,anX hm0]
    ·rw[anW hm0,anW hm0];have:(lens[i]==m)=false:=by simp;omega
     rw[this];simp
   rw[e1,e2];exact ho
 ·simp only[hlt,aoB,i_f];have hie:i=lens.length:=om
  subst hie;have er:gL lens lens.length=aM (jg lens):=by
   unfold gL;rw[apE (by rw[jk];omega)];simp
  rw[er] at ho;have ho:=OwnS.toU (b:=b6) (cs:=aM (jg lens)) (E:=3) ho 1 lens.length lens.length (by unfold aM;rw[apP,jk];omega) om om;obtain⟨N,hle,hrow,ho⟩:=OwnS.cI ho 1 rfl;rw[apE (by unfold aM;rw[apP,jk];omega)] at hrow;exact hK _ _ N _ 1 ho rfl hle ⟨_,by rw[hc],rfl,λ_=>hrow⟩
end
section
open Eng
def mI(t0 w)(K:KT):=nz f322 1 [] [] [] (zg [0] [t0]) w K
theorem uR:mI t0 w k0->Calls ah 322 #[t0] w k0:=cw func322
def iZ(a b w)(N3:JT)(K:KT):=
 lnx 123 a w K λc w=>bnx .lss 3 b c w K λd w=>IfX d (QuietX w (λC4=>QDo ah C4 (cM 123 a (aw b) av av) λe=>QDo ah C4 (cM 123 a av (aw b) av) λf=>
 ∀w,C4 w ->
 DoX ah (mB .copy #[123,123] 3 #[aq,aq] #[e,f]) w (ax 5 (pk K)) λg w=>DoX ah (mBin .add 3 b g) w (ax 5 (pk K)) λh w=>N3 [h] w)) (K (.returned a) w)
def iX(t0 t6 w)(K:KT):=nz f320 31 [] [(17,[8],λs v j w f=>iZ (s 7) (vg v 0) w (f 0) K)] [] (zg [0,6] [t0,t6]) w K
def iT(t0 t1 w)(K:KT):=nz f320 7 [] [(12,[],λs v j w f=>iX (s 0) (s 6) w K)] [] (zg [0,1] [t0,t1]) w K
def kO(t0 t1 w)(K:KT):=nz f320 1 [] [(6,[],λs v j w f=>iT (s 0) (s 1) w K)] [] (zg [0,1] [t0,t1]) w K
theorem sO:kO t0 t1 w k0->Calls ah 320 #[t0,t1] w k0:=cz [(3,[]),(6,[])] [(8,[8])] func320
end
section
open Eng Go.RowKit
theorem EU :∀x∈aM l,x.oneCell'=true:=by
 intro x hx;obtain⟨n,-,rfl⟩:=apN.1 hx;rfl
theorem eE (l:List Nat):(aM l).length=l.length:=by simp[aM]
theorem acJ {off n c:Nat}:DoX ah (mEq .eql 123 xo yo (.slice (aw ⟨b,off,av⟩) n c) (.slice av 0 0)) w PK K=K (.bool aq) w:=aC krx
theorem Ld (l:List Nat)(v:ao)(M:Mem)(w:ak)(hl:l.length<=100000)(h0:0 < l.length)(hM:M.has w)(hs:SlA M.A M.w v 1 l.length (aM l)) :
  RetM ah 322 #[v] M w (λr N=>SlA N.A N.w r 1 l.length (aM l)):=by
 refine aU hM λK hK=>uR ?_;unfold mI nz;have ho:OwnS M.A w w [.mem M]:=OwnS.memS hM;have go:∀{b off n c:Nat},v=.slice (aw ⟨b,off,av⟩) n c->DoX ah (mEq .eql 123 (.tmp 3) (.const (.slice av 0 0)) v (.slice av 0 0)) w (Eng.pk K) λt4 w=>IfX t4 (K (.returned (.slice av 0 0)) w) (DoX ah (bF 123 0 #[]) w (Eng.pk K) λt5 w=>
   DoX ah (mB .append #[123,123] 123 #[aq,aq] #[t5,v]) w (Eng.pk K) λt7 w=>K (.returned t7) w):=by
  rintro b off n c rfl;rw[acJ,i_f];refine Ui ho λv0 w1 ho=>?_;refine jD 0 ho rfl (hs.now (ho.hasM 1 rfl)) EU om λv1 w2 ho=>?_;obtain⟨N,hle,hrow,ho⟩:=OwnS.cI (L:=[.mem M]) ho 0 rfl;refine hK _ _ N _ 0 ho rfl hle ?_;rw[aoN] at hrow;exact hrow
 obtain⟨b,off,cap,hv,-⟩:=bY hs.1 om;exact go hv
def tbC (a b:ao)(f g:Nat->Int)(o:ao):List Value:=a::b::(nsC f++(nsC g++[o]))
def tbV (a b:ao)(f g:Nat->Int)(o:ao):Value:=.agg (tbC a b f g o).toArray
def tbE (bl:Nat)(a b:ao)(f g:Nat->Int)(o:ao):Ent:=.cells bl (tbC a b f g o) 337
theorem Z7:fOff ah 337 0=aw 0:=krx
theorem aiR:fOff ah 337 1=aw 1:=krx
theorem ajR:fOff ah 337 2=aw 2:=krx
theorem aiL:fOff ah 337 3=aw 18:=krx
theorem agU:fOff ah 337 4=aw 34:=krx
def jy (lens:List Nat)(l:Nat):List Nat:=(List.range lens.length).filter λi=>ai (lens.getD i 0=l)
def bh (lens:List Nat):Nat->List Nat
|0=>[]
|l+1=>bh lens l++jy lens (l+1)
end
section
open Eng Go.RowKit
abbrev fstW (lens:List Nat):Nat->Int:=λi=>((Fl.first lens (if i<=15 then i else 0):Nat):Int)
def TbAt (A:Nat->Prop)(w:ak)(b:Nat)(lens:List Nat):Prop:=∃a c o,A b∧(tbE b a c (cnt lens) (fstW lens) o).is w∧SlA A w o 1 (bh lens 15).length (aM (bh lens 15))
theorem Ss:eM ah 294=true:=krx
section
variable {w:ak}{PK:PKT}{K:VWP}{S:Nat->Prop}{w0:ak}{L:List Ent}
theorem Rn {off:Nat}:DoX ah (mFA 337 (.pointer (aw ⟨b,off,av⟩)) 2) w PK K=K (.pointer (aw ⟨b,off+2,av⟩)) w:=aP ajR
theorem U7 {off:Nat}:DoX ah (mFA 337 (.pointer (aw ⟨b,off,av⟩)) 3) w PK K=K (.pointer (aw ⟨b,off+18,av⟩)) w:=aP aiL
theorem O4 {off:Nat}:DoX ah (mFA 337 (.pointer (aw ⟨b,off,av⟩)) 4) w PK K=K (.pointer (aw ⟨b,off+34,av⟩)) w:=aP agU
theorem m_tb {a:ao}{f:Nat->Int}(h1:a.oneCell'=au)(h2:c.oneCell'=au):DoX ah (bA 337 #[(0,a),(1,c),(2,nsV f)]) w PK K=K (tbV a c f (λ_=>0) nilS) w:=by
 cases a<;>first|(cases h1;done)|skip
 all_goals cases c<;>first|(cases h2;done)|exact aC krx
theorem agX {a:ao}{f g:Nat->Int}(h1:a.oneCell'=au)(h2:c.oneCell'=au)(ho:OwnS S w0 w L)(k:∀b w',OwnS S w0 w' (tbE b a c f g nilS::L)->K (.pointer (aw ⟨b,0,av⟩)) w'):DoX ah (mBox 337 (tbV a c f g nilS)) w PK K:=by
 cases a<;>first|(cases h1;done)|skip
 all_goals cases c<;>first|(cases h2;done)|exact bD (λb=>.pointer (aw ⟨b,0,av⟩)) (tbC _ _ f g nilS) 337 (λ_=>by kernel_rfl) ho k
theorem tb_n (ho:OwnS S w0 w L)(j:Nat){a o:ao}{f g:Nat->Int}(hi:L[j]?=aw (tbE b a c f g o)):DoX ah (aJ 334 (.pointer (aw ⟨b,0+2,av⟩))) w PK K=K (nsV f) w:=l_at (ho.ajH j hi (0+2) (nsC f) rfl abZ)
theorem Rb (ho:OwnS S w0 w L)(j:Nat){a o:ao}{f g:Nat->Int}(hi:L[j]?=aw (tbE b a c f g o)):DoX ah (aJ 123 (.pointer (aw ⟨b,0+34,av⟩))) w PK K=K o w:=aS Ht (ho.cell j hi 34 rfl)
theorem WN (j:Nat){a o:ao}{f g g':Nat->Int}(ho:OwnS S w0 w L)(hi:L[j]?=aw (tbE b a c f g o))(k:∀w',OwnS S w0 w' (L.set j (tbE b a c f g' o))->K undef w') :
  DoX ah (aV 334 (.pointer (aw ⟨b,0+18,av⟩)) (nsV g')) w PK K:=GI j ho hi (new:=nsC g') szNs (Vi g') (by show 0+18+16<=35;omega) k
theorem Xc (j:Nat){a o o':ao}{f g:Nat->Int}(h:o'.oneCell'=au)(ho:OwnS S w0 w L)(hi:L[j]?=aw (tbE b a c f g o))(k:∀w',OwnS S w0 w' (L.set j (tbE b a c f g o'))->K undef w') :
  DoX ah (aV 123 (.pointer (aw ⟨b,0+34,av⟩)) o') w PK K:=aN j ho hi krx h (by show 0+34 < 35;omega) k
end
def di (lens:List Nat)(l i:Nat):List Nat:=(List.range i).filter λi=>ai (lens.getD i 0=l)
theorem qk (lens:List Nat)(l i:Nat):(di lens l i).length<=i:=by
 have:=auT (λi=>ai (lens.getD i 0=l)) (List.range i);rw[avI] at this;exact this
theorem ql (lens:List Nat):∀l,(bh lens l).length<=l*lens.length
|0=>by simp[bh]
|l+1=>by
  have h1:=ql lens l;have h2:=qk lens (l+1) lens.length;have e:jy lens (l+1)=di lens (l+1) lens.length:=rfl;rw[bh,aoC,e,aqX];omega
theorem gS (a b:List Nat):aM (a++b)=aM a++aM b:=by simp[aM]
theorem Ga (lens:List Nat)(v:ao)(M:Mem)(w:ak)(h15:∀l∈lens,l<=15)(hl:lens.length<=100000)(h0:0 < lens.length)(hM:M.has w)(hs:SlA M.A M.w v 1 lens.length (aM lens)) :
  RetM ah 295 #[v] M w (λr N=>if az lens≠0 then r=.tuple #[.pointer av,.int .i64 (az lens)] else ∃b,r=.tuple #[.pointer (aw ⟨b,0,av⟩),.int .i64 0]∧TbAt N.A N.w b lens):=by
 refine aU hM λK hK=>EH ?_;unfold Gq nz;have ho:OwnS M.A w w [.mem M]:=OwnS.memS hM;refine bI ho 0 rfl (LL lens v M w h15 hl hM hs) ?_;rintro _ N1 w1 g1 ⟨cv,rfl,hc1,hcs⟩ ho;simp only[ex,bQ];by_cases hc:az lens=0
 case neg=>
  simp only[hc,ne_eq,arX,aoA,i_t];exact hK _ _ N1 _ 0 ho rfl g1 (by rw[anX hc])
 have hcs:=hcs hc;simp only[hc,ne_eq,not_true,aoB,i_f];refine bI ho 0 rfl (Ld lens v N1 w1 hl h0 (ho.hasM 0 rfl) (hs.le g1)) λlv N2 w2 g2 hlv ho=>?_;refine aH ho (R:=λr=>r=nsV (cnt lens)) (RetM.told (xL lens v N2 w2 h15 hl (ho.hasM 0 rfl) (hs.le (g1.trans g2)))) ?_;rintro _ w3 rfl ho;rw[m_tb hlv.one hc1];refine agX hlv.one hc1 ho λb w4 ho=>?_;rw[aY,Rn,tb_n ho 0 rfl];refine aH ho (R:=λr=>r=nsV (fstW lens)) (RetM.told (GB lens N2 w4 hl (ho.hasM 1 rfl))) ?_;rintro _ w5 rfl ho;rw[aY,U7];refine WN 0 ho rfl λw6 ho=>?_;have hsl:=hs.le (g1.trans g2);have ho:OwnS M.A w w6 [.urow 3 1 nilS 0 [],tbE b lv cv (cnt lens) (fstW lens) nilS,.mem N2]:=OwnS.nilU (L:=[tbE b lv cv (cnt lens) (fstW lens) nilS,.mem N2]) ho _ _;refine loop (λvs W=>∃(l:Nat) (ov:ao),vs=[.int .i64 ((l+1:Nat):Int)]∧l<=15∧OwnS M.A w W [.urow 3 1 ov (bh lens l).length (aM (bh lens l)),tbE b lv cv (cnt lens) (fstW lens) ov,.mem N2]) (λvs _=>16 - n0 vs) ⟨0,nilS,rfl,om,ho⟩ ?_;clear ho;rintro vs w7 ⟨l,ov,rfl,hl15,ho⟩ _;simp only[A2,gd,rs,nz];by_cases hlt:((l+1:Nat):Int)<=15
 ·simp only[hlt,aoA,i_t];rw[bB aoQ (hsl.now (ho.hasM 2 rfl))];have hob:=ql lens l;have hob2:l*lens.length<=15*100000:=arQ hl15 hl;refine loop (λvs W=>∃(i:Nat) (ov:ao),vs=[.int .i64 i]∧i<=lens.length∧OwnS M.A w W [.urow 3 1 ov (bh lens l++di lens (l+1) i).length (aM (bh lens l++di lens (l+1) i)),tbE b lv cv (cnt lens) (fstW lens) ov,.mem N2]) (λvs _=>lens.length - n0 vs) ⟨0,ov,rfl,om,by
   rw[show di lens (l+1) 0=[] from rfl,aoV];exact ho⟩ ?_
  clear ho;rintro vs w8 ⟨i,ov,rfl,hi,ho⟩ _;simp only[AX,gd,rs,nz];by_cases hlt2:(i:Int) < (lens.length:Int)
  ·have hi':i < lens.length:=om
   simp only[hlt2,aoA,i_t];refine join λJ hJ=>?_;obtain⟨b2,off,r1,r2⟩:=eX (hsl.now (ho.hasM 2 rfl)) hi';have hgd:lens.getD i 0=lens[i]:=by rw[aoE,aoI hi'];rfl
   refine aC (r1 w8) |>.mpr (aC (aB bP r2) |>.mpr ?_);have hot:=qk lens (l+1) i;have hrg:di lens (l+1) (i+1)=di lens (l+1) i++(if lens[i]=l+1 then [i] else []):=by
    unfold di;rw[asS,auU]
    congr 1
    rw[<-hgd];by_cases h:lens.getD i 0=l+1
    ·rw[anX h];exact List.filter_cons_of_pos (anZ h)
    ·rw[anW h];exact List.filter_cons_of_neg (by rw[anY h];decide)
   have fin:∀(W:ak) (ov:ao),OwnS M.A w W [.urow 3 1 ov (bh lens l++di lens (l+1) (i+1)).length (aM (bh lens l++di lens (l+1) (i+1))),tbE b lv cv (cnt lens) (fstW lens) ov,.mem N2]->J [] W:=by
    intro W ov ho;refine hJ _ _ λ_=>?_;simp only[BN,gd,rs,nz];rw[aA om om];exact aQ ⟨i+1,ov,rfl,om,ho⟩ (by simp[n0,RowKit.intOf];omega)
   simp only[rs];by_cases he:lens[i]=l+1
   ·rw[anX he] at hrg;simp only[show ai (((lens[i]:Nat):Int)=((l+1:Nat):Int))=au from anZ om,i_t,rs,aY];rw[O4,Rb ho 1 rfl];refine mY (i:Int) ho λb3 w9 ho=>?_;refine jD 1 ho rfl (ho.sl 0 rfl 1 1 1 rfl) iY (by rw[aoC];omega) λv' w10 ho=>?_
    try simp only[rs,aY]
    rw[O4];refine Xc 2 (eF (ho.at_ 1 rfl)) ho rfl λw11 ho=>?_;refine fin w11 v' ?_;have e1:aM (bh lens l++di lens (l+1) (i+1))=aM (bh lens l++di lens (l+1) i)++Qt [(i:Int)]:=by
     rw[hrg,<-aoL,gS];rfl
    have e2:(bh lens l++di lens (l+1) (i+1)).length=(bh lens l++di lens (l+1) i).length+1:=by
     rw[hrg,<-aoL,aoC];rfl
    rw[e1,e2];exact ho.tail
   ·rw[anW he,aoV] at hrg;simp only[show ai (((lens[i]:Nat):Int)=((l+1:Nat):Int))=aq from anY om,i_f];refine fin w8 ov ?_;rw[hrg];exact ho
  ·simp only[hlt2,aoB,i_f];have hie:i=lens.length:=om
   subst hie;rw[aA om om];exact aQ ⟨l+1,ov,rfl,om,ho⟩ (by simp[n0,RowKit.intOf];omega)
 ·have hl:l=15:=om
  subst hl;simp only[hlt,aoB,i_f];obtain⟨N3,g3,hrow,ho⟩:=OwnS.cI (L:=[tbE b lv cv (cnt lens) (fstW lens) ov,.mem N2]) ho 1 rfl;have ho:OwnS M.A w w7 [tbE b lv cv (cnt lens) (fstW lens) ov,.mem N3]:=ho;have his:=ho.at_ 0 rfl;obtain⟨N4,g4,hw4,hblk,ho⟩:=OwnS.freeze (L:=[.mem N3]) ho 0 rfl;refine hK _ _ N4 _ 0 ho rfl (g1.trans (g2.trans (g3.trans g4))) ?_;rw[anW (by simp[hc])];exact⟨b,rfl,lv,cv,ov,hblk b rfl,by rw[hw4];exact his,hrow.le g4⟩
end
section
open Eng Go.RowKit
def ig (lens:List Nat)(s:List UInt8):Nat->Nat->Nat->Nat->Nat×Nat×Int
|0,_,p,_=>(0,p,13)
|f+1,l,p,code=>if Fl.aR lens 15<=Fl.aR lens l then (0,p,13) else if 8*s.length<=p then (0,p,4)
  else if 2*code+Fl.bit s p < Fl.first lens (l+1)+lens.count (l+1) then ((bh lens 15).getD (Fl.aR lens l+(2*code+Fl.bit s p - Fl.first lens (l+1))) 0,p+1,0)
  else ig lens s f (l+1) (p+1) (2*code+Fl.bit s p)
def cj (lens:List Nat)(s:List UInt8)(p:Nat):Nat×Nat×Int:=ig lens s 16 0 p 0
theorem ti (lens:List Nat):(List.range lens.length).map (λi=>lens.getD i 0)=lens:=by
 refine List.ext_getElem sm λi h1 h2=>?_;rw[List.getElem_map,List.getElem_range,aoE,aoI h2];rfl
theorem qm (lens:List Nat)(l:Nat):(jy lens l).length=lens.count l:=by
 conv=>rhs;rw[<-ti lens]
 rw[List.count_eq_countP,List.countP_map,List.countP_eq_length_filter];unfold jy
 congr 1
theorem nr (lens:List Nat):∀l,(bh lens l).length=Fl.aR lens l
|0=>rfl
|l+1=>by rw[bh,aoC,nr lens l,qm,Fl.aR]
theorem lz (lens:List Nat){a:Nat}(h:a<=b):Fl.aR lens a<=Fl.aR lens b:=by
 induction b with
|zero=>
  have:a=0:=om
  subst this;exact aoG _
|succ b ih=>
  rcases apD a (b+1) with h'|h'
  ·have:=ih om;rw[Fl.aR];omega
  ·have:a=b+1:=om
   subst this;exact aoG _
theorem aiU {c:Nat}(hb:b < 2)(hc:c<=1000000):bOr .i64 ((c*2:Nat):Int) (b:Int)=((2*c+b:Nat):Int):=by
 have e:c*2 ||| b=2*c+b:=by
  have:=awH (i:=1) (b:=b) (by simpa using hb) c;rw[arG c];simpa using this.symm
 unfold bOr;show IntKind.wrap .i64 (((BitVec.ofInt 64 ((c*2:Nat):Int) ||| BitVec.ofInt 64 (b:Int)).toNat:Nat):Int)=_;rw[BitVec.ofInt_natCast,BitVec.ofInt_natCast,BitVec.toNat_or,BitVec.toNat_ofNat,BitVec.toNat_ofNat,aqA om,aqA om,e];exact aA om om
theorem Yy {a o:ao}{f g:Nat->Int}(hA:M.A b)(h:(tbE b a c f g o).is M.w)(hM:M.has W):(tbE b a c f g o).is W:=by
 show W.heap[b]?=_;rw[hM b hA];exact h
section
variable {W:ak}{b:Nat}{a c o:ao}{f g:Nat->Int}
theorem acC (h:(tbE b a c f g o).is W):(aJ 123 (.pointer (aw ⟨b,0+34,av⟩))).run ah W=.ok (.value o) W:=aB Ht (aI (T:=337) (cs:=tbC a c f g o) h rfl)
theorem Vb (h:(tbE b a c f g o).is W)(hi:i < 16):(aJ 3 (.pointer (aw ⟨b,0+2+i,av⟩))).run ah W=.ok (.value (.int .i64 (f i))) W:=aB bP (aI (T:=337) (cs:=tbC a c f g o) h (by
 unfold tbC;rw[show 0+2+i=i+1+1 by omega,apW,apW,aqO (by show i < 16;exact hi)];exact BI f hi))
theorem abR (h:(tbE b a c f g o).is W)(hi:i < 16):(aJ 3 (.pointer (aw ⟨b,0+18+i,av⟩))).run ah W=.ok (.value (.int .i64 (g i))) W:=aB bP (aI (T:=337) (cs:=tbC a c f g o) h (by
 unfold tbC;rw[show 0+18+i=(i+16)+1+1 by omega,apW,apW,arD (by show 16<=i+16;omega)];show (nsC g++[o])[i+16 - 16]?=_;rw[asU,aqO (by show i < 16;exact hi)];exact BI g hi))
end
theorem Ji {a:Option Addr}{l:Nat}{p:Addr}(h:subA a l cap sz=aw p):∃q:Addr,a=aw q∧q.block=p.block:=by
 unfold subA at h;split at h
 ·exact⟨p,h,rfl⟩
 ·obtain⟨q,hq,rfl⟩:=aqN.1 h;exact⟨q,hq,by unfold Addr.add;split<;>rfl⟩
theorem SlA.Ud {a:Option Addr}{n:Nat}(h:SlA A w (.slice a n cap) sz n cs)(hi:i<=n):SlA A w (.slice (subA a i cap sz) (n - i) (cap - i)) sz (n - i) (cs.drop (i*sz)):=by
 have hc:=h.2.2 _ _ _ rfl;refine⟨Sl.from h.1 hi hc,λp l c e hn=>?_,λa' l c e=>?_⟩
 ·injection e with e _ _
  obtain⟨q,hq,hb⟩:=Ji e;have:=h.2.1 q n cap (by rw[hq]) om
  rwa [<-hb]
 ·injection e with _ e2 e3
  omega
theorem Uz :DoX ah (mEq .eql 294 xo yo (.pointer (aw ⟨b,0,av⟩)) (.pointer av)) w PK K=K (.bool aq) w:=aC krx
section
variable {w:ak}{PK:PKT}{K:VWP}{S:Nat->Prop}{w0:ak}{L:List Ent}
theorem QL {s:List UInt8}{lens:List Nat}(j jm:Nat)(hjm:jm≠j)(ho:OwnS S w0 w L)(hj:L[j]?=aw (bqE b s way p))(hm:L[jm]?=aw (.mem M))(ht:TbAt M.A M.w tb lens)(hl:lens.length<=1000)(hw:way=0∨way=1)(hp:p<=8*s.length)(hs:s.length<=1000000000)
  (k:∀way' W,way'=0∨way'=1->(cj lens s p).2.1<=8*s.length->OwnS S w0 W (L.set j (bqE b s way' (cj lens s p).2.1))->K (.tuple #[.int .i64 (cj lens s p).1,.int .i64 (cj lens s p).2.2]) W) :
  CallX ah 347 #[.pointer (aw ⟨tb,0,av⟩),.pointer (aw ⟨b,0,av⟩)] w PK K:=by
 have hjl:j < L.length:=(aoX.1 hj).1;generalize hR:cj lens s p=R at k;refine eW (CZ (k0:=RetK λv W=>∃way',(way'=0∨way'=1)∧R.2.1<=8*s.length∧v=.tuple #[.int .i64 R.1,.int .i64 R.2.2]∧OwnS S w0 W (L.set j (bqE b s way' R.2.1))) ?_) (λe W ⟨v,he,way',h1,h2,hv,ho⟩=>by subst he;subst hv;exact k way' W h1 h2 ho);unfold vF nz;obtain⟨ta,tc,tv,hA,his,hord⟩:=ht;rw[Uz];simp only[rs];rw[GD];simp only[rs,aY];have hmj:∀x:Int×Nat,(L.set j (bqE b s x.1 x.2))[jm]?=aw (.mem M):=λx=>by rw[auI (Ne.symm hjm)];exact hm
 rw[O4];refine aC (acC (Yy hA his (ho.hasM jm hm))) |>.mpr ?_;have hlen:=nr lens 15;refine loop (λvs W=>∃(l q code:Nat) (way:Int) (lv:ao),vs=[lv,.int .i64 code,.int .i64 ((l+1:Nat):Int)]∧SlA M.A M.w lv 1 (Fl.aR lens 15 - Fl.aR lens l) (aM ((bh lens 15).drop (Fl.aR lens l)))∧l<=15∧code < 2 ^ l∧Fl.first lens (l+1)<=2*code∧(way=0∨way=1)∧q<=8*s.length ∧
  ig lens s (16 - l) l q code=R∧OwnS S w0 W (L.set j (bqE b s way q))) (λvs _=>16 - n2 vs) ⟨0,p,0,way,tv,rfl,?_,om,dc,by simp[Fl.first],hw,hp,hR,by rw[EY hj];exact ho⟩ ?_
 ·rw[show Fl.aR lens 0=0 from rfl,aqH,atX,<-hlen];exact hord
 clear ho;rintro vs w2 ⟨l,q,code,way,lv,rfl,hlv,hl15,hcd,hfc,hw,hq,hg,ho⟩ _;simp only[sI,gd,nz];rw[bB aoQ (hlv.now (ho.hasM jm (hmj (way,q))))];simp only[rs];have hum:=lz lens hl15;have hub:=Fl.JN (lens:=lens) 15;have hml:16 - l=(15 - l)+1:=om
 rw[hml,ig] at hg;have hji:(L.set j (bqE b s way q))[j]?=aw (bqE b s way q):=by rw[arR hjl]
 by_cases hlt:(0:Int) < ((Fl.aR lens 15 - Fl.aR lens l:Nat):Int)
 case neg=>
  simp only[hlt,aoB,i_f];rw[anX om] at hg;subst hg;exact retK ⟨way,hw,hq,rfl,ho⟩
 have hl14:l < 15:=by
  rcases apD l 15 with h|h
  ·exact h
  ·have:l=15:=om
   subst this;omega
 rw[anW om] at hg;simp only[hlt,aoA,i_t];refine aeZ (n:=1) j ho hji hw hq om hs (λh1 W ho=>?_) (λh1 W ho=>?_)
 ·rw[anX dc,atN] at ho;rw[anW om] at hg;have hnum:Fl.num s q 1=Fl.bit s q:=by simp[Fl.num]
  simp only[ex,bQ,show ai ((0:Int)≠0)=aq by decide,i_f];have hb:=Fl.Py s q;have hp15:2 ^ l<=2 ^ 14:=apJ dc om;have h214:(2:Nat) ^ 14=16384:=dc
  rw[wC dc];rw[show (code:Int)*2 ^ (min (1:Int).toNat IntKind.i64.bits)=((code*2:Nat):Int) by
   rw[show min (1:Int).toNat IntKind.i64.bits=1 from rfl];push_cast;omega]
  rw[aA om om,hnum,b_or,aiU hb om];have hM:=ho.hasM jm (hmj (1,q+1));have his2:=Yy hA his hM
  try simp only[rs,aY]
  rw[U7,JG om];refine aC (abR his2 om) |>.mpr ?_;have hfst:fstW lens (l+1)=((Fl.first lens (l+1):Nat):Int):=by show ((Fl.first lens (if l+1<=15 then l+1 else 0):Nat):Int)=_;rw[anX om]
  have hcn:cnt lens (l+1)=((lens.count (l+1):Nat):Int):=by unfold cnt;rw[anW om]
  have hcb:lens.count (l+1)<=lens.length:=asK;rw[hfst]
  try simp only[rs,aY]
  rw[aA om om,Rn,JG om];refine aC (Vb his2 om) |>.mpr ?_;rw[hcn]
  try simp only[rs]
  have hus:Fl.aR lens (l+1)=Fl.aR lens l+lens.count (l+1):=by rw[Fl.aR]
  have hum2:=lz lens (show l+1<=15 by omega);by_cases hin:((2*code+Fl.bit s q:Nat):Int) - ((Fl.first lens (l+1):Nat):Int) < ((lens.count (l+1):Nat):Int)
  ·simp only[hin,aoA,i_t];rw[anX om] at hg;have hdl:((bh lens 15).drop (Fl.aR lens l)).length=Fl.aR lens 15 - Fl.aR lens l:=by rw[aoJ,hlen]
   have hki:2*code+Fl.bit s q - Fl.first lens (l+1) < ((bh lens 15).drop (Fl.aR lens l)).length:=om
   obtain⟨b2,off,r1,r2⟩:=eX (l:=(bh lens 15).drop (Fl.aR lens l)) (by rw[hdl];exact hlv.now hM) hki;rw[show ((2*code+Fl.bit s q:Nat):Int) - ((Fl.first lens (l+1):Nat):Int)=((2*code+Fl.bit s q - Fl.first lens (l+1):Nat):Int) by omega];refine aC (r1 W) |>.mpr (aC (aB bP r2) |>.mpr ?_);have e0:((bh lens 15).drop (Fl.aR lens l))[2*code+Fl.bit s q - Fl.first lens (l+1)]=(bh lens 15).getD (Fl.aR lens l+(2*code+Fl.bit s q - Fl.first lens (l+1))) 0:=by
    rw[List.getElem_drop,aoE,aoI (by rw[aoJ] at hki;omega)];rfl
   rw[e0];generalize (bh lens 15).getD (Fl.aR lens l+(2*code+Fl.bit s q - Fl.first lens (l+1))) 0=sym at hg;subst hg;exact retK ⟨1,.inr rfl,by show q+1<=_;omega,rfl,ho⟩
  ·simp only[hin,aoB,i_f];rw[anW om] at hg
   try simp only[rs,aY]
   rw[Rn,JG om];refine aC (Vb his2 om) |>.mpr ?_;rw[hcn];obtain⟨oa,oc,rfl,hcap⟩:=hlv.form;refine aC (dG aoQ (show _=aw 1 by kernel_rfl) om om) |>.mpr ?_;rw[aoF]
   try simp only[rs]
   rw[aA om om];refine aQ ⟨l+1,q+1,2*code+Fl.bit s q,1,_,rfl,?_,om,?_,?_,.inr rfl,om,?_,ho⟩ (by simp[n2,RowKit.intOf];omega)
   ·have:=hlv.Ud (i:=lens.count (l+1)) om;rw[show Fl.aR lens 15 - Fl.aR lens (l+1)=Fl.aR lens 15 - Fl.aR lens l - lens.count (l+1) by omega];have e:(aM ((bh lens 15).drop (Fl.aR lens l))).drop (lens.count (l+1)*1)=aM ((bh lens 15).drop (Fl.aR lens (l+1))):=by
     unfold aM;rw[aoS,<-List.map_drop,arE,hus]
    rw[<-e];exact this
   ·rw[aqS];omega
   ·rw[Fl.first];omega
   ·rw[show 16 - (l+1)=15 - l by omega];exact hg
 ·simp only[ex,bQ,show ai ((4:Int)≠0)=au by decide,i_t];rw[anX om] at hg;subst hg;exact retK ⟨way,hw,hq,rfl,ho⟩
end
end
section
open Eng Go.RowKit
def flC (rb:Nat)(ov:ao)(most:Int):List Value:=[.pointer (aw ⟨rb,0,av⟩),ov,.int .i64 most]
def flE (b rb:Nat)(ov:ao)(most:Int):Ent:=.cells b (flC rb ov most) 278
def outR (ov:ao)(out:List UInt8):Ent:=.urow 5 1 ov out.length (aG out)
theorem UD:fOff ah 278 0=aw 0:=krx
theorem AY:fOff ah 278 1=aw 1:=krx
theorem ahM:fOff ah 278 2=aw 2:=krx
theorem aaH:eM ah 275=true:=krx
theorem Ha:eM ah 53=true:=krx
section
variable {w:ak}{PK:PKT}{K:VWP}{S:Nat->Prop}{w0:ak}{L:List Ent}
theorem NI {off:Nat}:DoX ah (mFA 278 (.pointer (aw ⟨b,off,av⟩)) 0) w PK K=K (.pointer (aw ⟨b,off,av⟩)) w:=aP UD
theorem UF (ho:OwnS S w0 w L)(j:Nat){ov:ao}{most:Int}(hi:L[j]?=aw (flE b rb ov most)):DoX ah (aJ 275 (.pointer (aw ⟨b,0,av⟩))) w PK K=K (.pointer (aw ⟨rb,0,av⟩)) w:=aS aaH (ho.cell j hi 0 rfl)
theorem rE {ov:ao}{most:Int}{s:List UInt8}{n:Nat}(jf j:Nat)(ho:OwnS S w0 w L)(hjf:L[jf]?=aw (flE fb b ov most))(hj:L[j]?=aw (bqE b s way p))(hw:way=0∨way=1)(hp:p<=8*s.length)(hn:n<=24)(hs:s.length<=1000000000)
  (k1:p+n<=8*s.length->∀W,OwnS S w0 W (L.set j (bqE b s (if 0 < n then 1 else way) (p+n)))->K (.int .i64 (Fl.num s p n)) W)
  (k2:8*s.length < p+n->∀W,OwnS S w0 W L->PK [upI 4] W):CallX ah 305 #[.pointer (aw ⟨fb,0,av⟩),.int .i64 (n:Int)] w PK K:=by
 refine⟨xW ?_⟩;unfold pZ nz;rw[aY,NI,UF ho jf hjf];refine aeZ j ho hj hw hp hn hs (λh1 W ho=>?_) (λh1 W ho=>?_)
 ·simp only[ex];exact yS (λ_=>k1 h1 W ho) (λh=>absurd rfl h)
 ·simp only[ex];exact yS (λh=>absurd h dc) (λ_=>k2 h1 W ho)
theorem VL {ov:ao}{n:Nat}{out:List UInt8}(jf jo:Nat)(ho:OwnS S w0 w L)(hjf:L[jf]?=aw (flE fb b ov most))(hjo:L[jo]?=aw (outR ov out))(hn:n<=1000000000)(hm:most<=1000000000)(hol:out.length<=1000000000)
  (k1:out.length+n<=most->∀W,OwnS S w0 W L->K (.tuple #[]) W) (k2:most < out.length+n->∀W,OwnS S w0 W L->PK [upI 5] W):CallX ah 334 #[.pointer (aw ⟨fb,0,av⟩),.int .i64 (n:Int)] w PK K:=by
 refine⟨yV ?_⟩;unfold qC nz;refine cR (λW=>OwnS S w0 W L) ho.drew ?_;refine q_do _ (λ_=>cN) (q_do _ (λ_=>bH AY) (q_at ov (λW h=>aB Ha (h.cell jf hjf 1 rfl)) ?_));refine q_at (.int .i64 (out.length:Int)) (λW h=>?_) ?_
 ·have:=h.slU jo hjo;obtain⟨_,a,cap,rfl,_⟩:=this;simp[mB,builtin,Builtin.len_,run_underlying aoK,goInt]
 refine iV ?_;rw[aA om om];refine q_do _ (λ_=>cN) (q_do _ (λ_=>bH ahM) (q_at (.int .i64 (most:Int)) (λW h=>aB bP (h.cell jf hjf 2 rfl)) (Yx ?_)));intro w2 ho;exact jE (λh=>k1 (by have:=aoU h;omega) w2 ho) (λh=>k2 (by have:=apM h;omega) w2 ho)
theorem sV (kr:e=0->K v w)(kp:e≠0->PK [upI e] w):CallX ah 338 #[v,.int .i64 e] w PK K:=by
 refine⟨iR ?_⟩;unfold eS nz;simp only[rs];exact jE (λh=>kr (aoU h)) λh=>kp (apM h)
end
end
section
open Eng Go.RowKit
def dz (each first:Nat):Nat->Nat
|0=>first
|i+1=>dz each first i+2 ^ (i / each - 1)
theorem qn (each first:Nat):∀i,i<=40->dz each first i<=first+i*2 ^ 40
|0,_=>by simp[dz]
|i+1,h=>by
  have h1:=qn each first i om
  have h3:i / each<=i:=arY _ _;have h2:2 ^ (i / each - 1)<=2 ^ 40:=apJ dc om;rw[dz,aqX];omega
def snC (a b:Int):List Value:=[.int .i64 a,.int .i64 b]
def snV (a b:Int):Value:=.agg (snC a b).toArray
def snE (bl:Nat)(a b:Int):Ent:=.cells bl (snC a b) 371
theorem akK:aggN ah 371=aw 2:=krx
theorem szSn:(Tryz.prog.info? 371).map (·.size)=aw 2:=krx
theorem aiI:fOff ah 371 0=aw 0:=krx
theorem aiX:fOff ah 371 1=aw 1:=krx
section
variable {w:ak}{PK:PKT}{K:VWP}{S:Nat->Prop}{w0:ak}{L:List Ent}
theorem adR (ho:OwnS S w0 w L)(k:∀b w',OwnS S w0 w' (snE b 0 0::L)->K (.pointer (aw ⟨b,0,av⟩)) w'):DoX ah (Dv 371) w PK K:=
 bD (λb=>.pointer (aw ⟨b,0,av⟩)) (snC 0 0) 371 (λ_=>by kernel_rfl) ho k
theorem alZ (a c:Int)(ho:OwnS S w0 w L)(k:∀b w',OwnS S w0 w' (snE b a c::L)->K (.pointer (aw ⟨b,0,av⟩)) w'):DoX ah (mBox 371 (snV a c)) w PK K:=
 bD (λb=>.pointer (aw ⟨b,0,av⟩)) (snC a c) 371 (λ_=>by kernel_rfl) ho k
theorem m_sn {c:Int}:DoX ah (bA 371 #[(0,.int .i64 a),(1,.int .i64 c)]) w PK K=K (snV a c) w:=aC krx
theorem akV :DoX ah (bA 371 #[(0,.int .i64 a)]) w PK K=K (snV a 0) w:=aC krx
theorem Q5 (j:Nat){c a' c':Int}(ho:OwnS S w0 w L)(hi:L[j]?=aw (snE b a c))(k:∀w',OwnS S w0 w' (L.set j (snE b a' c'))->K undef w') :
  DoX ah (aV 371 (.pointer (aw ⟨b,0,av⟩)) (snV a' c')) w PK K:=iL j ho hi (new:=snC a' c') szSn (by intro v hv;simp only[snC,aoM,aqI,or_false] at hv;rcases hv with rfl|rfl<;>rfl) rfl k
theorem RZ {K:Ending->ak->Prop}{c:Int}(i:Nat)(ho:OwnS S w0 w L)(hi:L[i]?=aw (snE b a c))(k:K (.returned (snV a c)) w):RetX ah [.cell (.pointer (aw ⟨b,0,av⟩)) 371] w K:=
 lK (bN (ho.agg i hi akK)) k
end
theorem K6 (i first each:Nat)(w:ak)(hi:i<=40)(he:1<=each)(hf:first<=1000):Ret ah 364 #[.int .i64 (i:Int),.int .i64 (first:Int),.int .i64 (each:Int)] w (λv w'=>v=snV (dz each first i) ((i / each - 1:Nat):Int)∧Below w.heap.size w w'):=by
 refine aK λK hK=>Ef ?_;unfold Af nz;refine adR (Own.start w) λb w1 ho=>?_;have ho:Own w w1 [snE b 0 0]:=ho;have more:∀q:Nat,max 0 (((q:Nat):Int) - 1)=((q - 1:Nat):Int):=λq=>by omega
 have quo:∀k:Nat,((k:Nat):Int).tdiv (each:Int)=((k / each:Nat):Int):=λk=>by
  rw[awG om];rfl
 refine loop (λvs W=>∃k:Nat,vs=[.int .i64 (dz each first k),.int .i64 k]∧k<=i∧Own w W [snE b 0 0]) (λvs _=>i - n1 vs) ⟨0,rfl,om,ho⟩ ?_;clear ho;rintro vs w2 ⟨k,rfl,hk,ho⟩ _;simp only[tX,gd,rs,nz];by_cases hlt:(k:Int) < (i:Int)
 ·simp only[hlt,aoA,i_t];have hkd:k / each<=k:=arY _ _;have hsp:=qn each first (k+1)
  rw[dz] at hsp;have hnx:dz each first (k+1)=dz each first k+2 ^ (k / each - 1):=rfl
  rw[Ao om,quo];generalize k / each=kq at *;rw[aA om om]
  try simp only[rs]
  rw[aA om om,sB,more,wC om];have hsp:=hsp om;have h40:(2:Nat) ^ 40=1099511627776:=dc
  have hpl:2 ^ (kq - 1)<=2 ^ 40:=apJ dc om;rw[show min ((kq - 1:Nat):Int).toNat IntKind.i64.bits=kq - 1 by show min ((kq - 1:Nat):Int).toNat 64=kq - 1;omega];rw[show (1:Int)*2 ^ (kq - 1)=((2 ^ (kq - 1):Nat):Int) by push_cast;omega];have hm:(k+1)*2 ^ 40<=41*2 ^ 40:=apQ _ om;generalize hq:2 ^ (kq - 1)=q at *;rw[aA om om]
  try simp only[rs]
  rw[aA om om,aA om om];exact aQ ⟨k+1,by rw[hnx];rfl,om,ho⟩ (by simp[n1,RowKit.intOf];omega)
 ·simp only[hlt,aoB,i_f];have hki:k=i:=om
  subst hki;have hkd:k / each<=k:=arY _ _;have hsp:=qn each first (k+1)
  rw[dz] at hsp;have hnx:dz each first (k+1)=dz each first k+2 ^ (k / each - 1):=rfl
  rw[Ao om,quo];generalize k / each=kq at *;rw[aA om om]
  try simp only[rs]
  rw[aA om om,sB,more,m_sn];have ho:OwnS NoB w w2 [snE b 0 0]:=ho;refine Q5 0 ho rfl λw3 ho=>?_;exact RZ 0 ho rfl (hK _ _ ⟨rfl,ho.below⟩)
end
section
open Eng Go.RowKit
def gl (i:Nat):Nat:=if i=28 then 258 else dz 4 3 i
def cy (i:Nat):Nat:=if i=28 then 0 else i / 4 - 1
def dq (i:Nat):Nat:=dz 2 1 i
def bu (i:Nat):Nat:=i / 2 - 1
theorem Oq (i:Nat)(w:ak)(hi:i<=28):Ret ah 357 #[.int .i64 (i:Int)] w (λv w'=>v=snV (gl i) (cy i)∧Below w.heap.size w w'):=by
 refine aK λK hK=>GG ?_;unfold Dw nz;refine adR (Own.start w) λb w1 ho=>?_;have ho:OwnS NoB w w1 [snE b 0 0]:=ho;simp only[rs];by_cases h:(i:Int)=28
 ·have hi:i=28:=om
  subst hi;simp only[h,aoA,i_t];rw[akV];refine Q5 0 ho rfl λw3 ho=>?_;exact RZ 0 ho rfl (hK _ _ ⟨rfl,ho.below⟩)
 ·simp only[h,aoB,i_f];refine aH ho (R:=λv=>v=snV (dz 4 3 i) ((i / 4 - 1:Nat):Int)) (K6 i 3 4 w1 om om om) ?_;rintro _ w2 rfl ho;refine Q5 0 ho rfl λw3 ho=>?_;refine RZ 0 ho rfl (hK _ _ ⟨?_,ho.below⟩);unfold gl cy;rw[anW om,anW om]
theorem Q6 (i:Nat)(w:ak)(hi:i<=30):Ret ah 359 #[.int .i64 (i:Int)] w (λv w'=>v=snV (dq i) (bu i)∧Below w.heap.size w w'):=by
 refine aK λK hK=>H6 ?_;unfold Er nz;refine adR (Own.start w) λb w1 ho=>?_;have ho:OwnS NoB w w1 [snE b 0 0]:=ho;refine aH ho (R:=λv=>v=snV (dz 2 1 i) ((i / 2 - 1:Nat):Int)) (K6 i 1 2 w1 om om om) ?_;rintro _ w2 rfl ho;refine Q5 0 ho rfl λw3 ho=>?_;exact RZ 0 ho rfl (hK _ _ ⟨rfl,ho.below⟩)
theorem OR (a e m:Nat)(w:ak)(ha:a<=1000000000)(he:e<=30)(hm:m < 2 ^ e):Ret ah 363 #[snV (a:Int) (e:Int),.int .i64 (m:Int)] w (λv w'=>v=.tuple #[.int .i64 ((a+m:Nat):Int),.int .i64 0]∧Below w.heap.size w w'):=by
 refine aK λK hK=>Az ?_;unfold rI nz;refine alZ _ _ (Own.start w) λb w1 ho=>?_;have ho:OwnS NoB w w1 [snE b a e]:=ho;have hp:2 ^ e<=2 ^ 30:=apJ dc he;have h30:(2:Nat) ^ 30=1073741824:=dc
 simp only[rs,show ai ((m:Int) < 0)=aq from anY om];rw[aP aiX,aS bP (ho.cell 0 rfl 1 rfl),wC om];rw[show min (e:Int).toNat IntKind.i64.bits=e by show min (e:Int).toNat 64=e;omega];rw[show (1:Int)*2 ^ e=((2 ^ e:Nat):Int) by push_cast;omega,aA om om];simp only[rs,show ai (((2 ^ e:Nat):Int)<=(m:Int))=aq from anY om];rw[aP aiI,aS bP (ho.cell 0 rfl 0 rfl)];simp only[rs];rw[aA om om];exact hK _ _ ⟨rfl,ho.below⟩
theorem mg (h:i<=28):gl i<=1000∧cy i<=5:=by
 have:i=0∨i=1∨i=2∨i=3∨i=4∨i=5∨i=6∨i=7∨i=8∨i=9∨i=10∨i=11∨i=12∨i=13∨i=14∨i=15∨i=16∨i=17∨i=18∨i=19∨i=20∨i=21∨i=22∨i=23∨i=24∨i=25∨i=26∨i=27∨i=28:=om
 rcases this with rfl|rfl|rfl|rfl|rfl|rfl|rfl|rfl|rfl|rfl|rfl|rfl|rfl|rfl|rfl|rfl|rfl|rfl|rfl|rfl|rfl|rfl|rfl|rfl|rfl|rfl|rfl|rfl|rfl<;>decide
theorem mh (h:i<=29):dq i<=100000∧bu i<=13:=by
 have:i=0∨i=1∨i=2∨i=3∨i=4∨i=5∨i=6∨i=7∨i=8∨i=9∨i=10∨i=11∨i=12∨i=13∨i=14∨i=15∨i=16∨i=17∨i=18∨i=19∨i=20∨i=21∨i=22∨i=23∨i=24∨i=25∨i=26∨i=27∨i=28∨i=29:=om
 rcases this with rfl|rfl|rfl|rfl|rfl|rfl|rfl|rfl|rfl|rfl|rfl|rfl|rfl|rfl|rfl|rfl|rfl|rfl|rfl|rfl|rfl|rfl|rfl|rfl|rfl|rfl|rfl|rfl|rfl|rfl<;>decide
theorem Wu (i m:Nat)(w:ak)(hi:i<=28)(hm:m < 2 ^ cy i):Ret ah 356 #[.int .i64 ((257+i:Nat):Int),.int .i64 (m:Int)] w (λv w'=>v=.tuple #[.int .i64 ((gl i+m:Nat):Int),.int .i64 0]∧Below w.heap.size w w'):=by
 refine aK λK hK=>G7 ?_;unfold DQ nz;have ho:OwnS NoB w w []:=Own.start w;obtain⟨h1,h2⟩:=mg hi;simp only[rs,show ai (((257+i:Nat):Int) < 257)=aq from anY om,show ai ((285:Int) < ((257+i:Nat):Int))=aq from anY om];rw[aA om om,show ((257+i:Nat):Int) - 257=(i:Int) by omega];refine aH ho (R:=λv=>v=snV (gl i) (cy i)) (Oq i w hi) ?_;rintro _ w2 rfl ho;refine aH ho (R:=λv=>v=.tuple #[.int .i64 ((gl i+m:Nat):Int),.int .i64 0]) (OR _ _ m w2 om om hm) ?_;rintro _ w3 rfl ho;simp only[ex];exact hK _ _ ⟨rfl,ho.below⟩
theorem YT (i m:Nat)(w:ak)(hi:i<=29)(hm:m < 2 ^ bu i):Ret ah 358 #[.int .i64 (i:Int),.int .i64 (m:Int)] w (λv w'=>v=.tuple #[.int .i64 ((dq i+m:Nat):Int),.int .i64 0]∧Below w.heap.size w w'):=by
 refine aK λK hK=>HK ?_;unfold Fy nz;have ho:OwnS NoB w w []:=Own.start w;obtain⟨h1,h2⟩:=mh hi;simp only[rs,show ai ((i:Int) < 0)=aq from anY om,show ai ((29:Int) < (i:Int))=aq from anY om];refine aH ho (R:=λv=>v=snV (dq i) (bu i)) (Q6 i w om) ?_;rintro _ w2 rfl ho;refine aH ho (R:=λv=>v=.tuple #[.int .i64 ((dq i+m:Nat):Int),.int .i64 0]) (OR _ _ m w2 om om hm) ?_;rintro _ w3 rfl ho;simp only[ex];exact hK _ _ ⟨rfl,ho.below⟩
end
section
namespace Eng
open Go.RowKit
theorem Nz {g:Nat}(h:w'.heap[g]?=w.heap[g]?):w'.cell? ⟨g,j,av⟩=w.cell? ⟨g,j,av⟩:=by
 unfold World.cell?;simp only[h]
theorem PE {T E:TypeId}{cs:Array Bool}{g n bytes:Nat}(ht:P.underlying T=aw (.slice E))(he:elB P E sz bytes=au)(hsz:0 < sz)
  (hown:(Ent.urow E sz (.slice (aw ⟨g,0,av⟩) n cap) n xs).is w) (hs:Sl w v2 sz m news) (hm:0 < m) (h1:∀u∈news,u.oneCell'=au) (hb:(n+m)*bytes<=140737488355328) (hb2:n+m<=140737488355328)
  (r:(mB .append #[T,T] U cs #[.slice (aw ⟨g,0,av⟩) n cap,v2]).run P w=.ok (.value v') w') (hi':(Ent.urow E sz v' (n+m) (xs++news)).is w') {j:Nat} {u:ao} (hj:xs[j]?=aw u):w'.cell? ⟨g,j,av⟩=aw u:=by
 obtain⟨i,z,hi,hz,hi1,hi2,hz1⟩:=jC he;subst hi1;subst hi2;have hown:w.ownsRow 0 E i.size (.slice (aw ⟨g,0,av⟩) n cap) n xs:=hown;have hi':w'.ownsRow 0 E i.size v' (n+m) (xs++news):=hi';obtain⟨hl,a,c,rfl,hn,hc⟩:=hs;have hmx:n+m<=maxLen:=by simp only[maxLen];omega
 cases a with
|none=>have:=hn rfl;omega
|some p=>
  have hh:∀j u,news[j]?=aw u->w.cell? (p.add j)=aw u:=by
   intro j u hj;obtain⟨hsp,hcell⟩:=hc p rfl;have:=hsp hm;obtain⟨b,off,spot⟩:=p;simp only at this hcell;subst this;rw[cK];exact hcell j u hj
  have holds:∀j u,xs[j]?=aw u->w.cell? ((⟨g,0,av⟩:Addr).add j)=aw u:=hown.cells (g:=g) rfl;have hx1:=hown.1;rcases hown.2 with ⟨h,_⟩|⟨g',cap',cur,hv,hbg,hg,hnc,hcm,hcs,htake⟩
  ·cases h
  injection hv with e1 e2 e3
  injection e1 with e1
  injection e1 with e1
  subst e1;subst e3;by_cases hroom:n+m<=cap
  ·have hfit:n*i.size+news.length<=cur.size:=by rw[hl,hcs,<-arC];exact apQ _ hroom
   have hr:=run_append_room (P:=P) w T U E i ht hi g n cap cur hg p m c news hl hh h1 hroom hfit;have:(mB .append #[T,T] U cs #[.slice (aw ⟨g,0,av⟩) n cap,.slice (aw p) m c]).run P w=.ok (.value (.slice (aw ⟨g,0,av⟩) (n+m) cap)) (w.setRow g (cur.toList.take (n*i.size)++news++cur.toList.drop (n*i.size+news.length)).toArray):=by simp[mB,builtin,hr]
   rw[this] at r;cases r;have:=hi'.cells (g:=g) rfl j u (by rw[aqO (aoX.1 hj).1];exact hj);rw[cK,aoN] at this;exact this
  ·have hr:=run_append_grow (P:=P) w T U E i z ht hi hz ⟨g,0,av⟩ n cap xs hx1 holds p m c news hl hh om (by simp only[maxLen] at hmx;omega) (growslice_fits om hb);have:(mB .append #[T,T] U cs #[.slice (aw ⟨g,0,av⟩) n cap,.slice (aw p) m c]).run P w=.ok (.value (.slice (aw ⟨w.heap.size,0,av⟩) (n+m) (grownCap w (n+m) cap E)))
    (w.drew.alloc (.cells (xs.toArray++news.toArray++Builtin.zeroCells z.cells (grownCap w (n+m) cap E - (n+m))) E)):=by simp[mB,builtin,hr]
   rw[this] at r;cases r;have hlt:g < w.heap.size:=(atU.1 hg).1;have e:(w.drew.alloc (.cells (xs.toArray++news.toArray++Builtin.zeroCells z.cells (grownCap w (n+m) cap E - (n+m))) E)).heap[g]?=w.heap[g]?:=by first|exact heap_alloc_old w.drew _ hlt|exact heap_alloc_old w.drew _ _ hlt
   rw[Nz e];have:=holds j u hj;rw[cK,aoN] at this;exact this
theorem EZ {T E:TypeId}{cs:Array Bool}{n:Nat}{l:List UInt8}(ht:P.underlying T=aw (.slice E))(hu:P.underlying U2=aw .string)(he:elB P E 1 1=au)(h8:P.underlying E=aw (.int .u8))
  (hz8:(P.info? E).bind (·.zero)=aw (.int .u8 0)) (hown:w.ownsRow 0 E 1 v n xs) (hb2:n+l.length<=140737488355328) :
  ∃v' w',(mB .append #[T,U2] U cs #[v,.string ⟨l.toArray⟩]).run P w=.ok (.value v') w'∧Turn (.urow E 1 v n xs) (.urow E 1 v' (n+l.length) (xs++aG l)) w w':=by
 obtain⟨v',w',r,t,_⟩:=wG (P:=P) (U:=U) (cs:=cs) ht hu he h8 hz8 (World.ownsRowF_of hown) hb2;refine⟨v',w',r,t.grew,?_,t.new⟩;obtain⟨i,z,hi,hz,hi1,hi2,hz1⟩:=jC he;have hz0:i.zero=aw (.int .u8 0):=by rw[hi] at hz8;exact hz8
 have hsz:=cW l;have hmx:n+(⟨l.toArray⟩:ByteArray).size<=maxLen:=by rw[hsz];simp only[maxLen];omega
 obtain⟨v2,w2,r1,r2,r3,r4⟩:=Lib.run_append_own_string (P:=P) w 0 T U2 U E i ht hu hi hz0 hi1 hi2 v n xs hown ⟨l.toArray⟩ hmx (by rw[hsz];omega) (aoO _);rw[AU,hsz] at r2;have:(mB .append #[T,U2] U cs #[v,.string ⟨l.toArray⟩]).run P w=.ok (.value v2) w2:=by simp[mB,builtin,r1]
 rw[this] at r;cases r;exact r2
section
variable {S:Nat->Prop}{P:Program}{w:ak}{PK:PKT}{K:VWP}
theorem UW (i:Nat){T E:TypeId}{cs:Array Bool}{g bytes n:Nat}(ht:P.underlying T=aw (.slice E))(he:elB P E sz bytes=au)(hsz:0 < sz)
  (ho:OwnS S w0 w L) (hi:L[i]?=aw (.urow E sz (.slice (aw ⟨g,0,av⟩) n cap) n xs)) (hs:Sl w v2 sz m news) (hm:0 < m) (h1:∀u∈news,u.oneCell'=au) (hb:(n+m)*bytes<=140737488355328) (hb2:n+m<=140737488355328)
  (k:∀v' w',(∀j u,xs[j]?=aw u->w'.cell? ⟨g,j,av⟩=aw u)->OwnS S w0 w' (L.set i (.urow E sz v' (n+m) (xs++news)))->K v' w'):DoX P (mB .append #[T,T] U cs #[.slice (aw ⟨g,0,av⟩) n cap,v2]) w PK K:=by
 obtain⟨v',w',r,t⟩:=Cj (cs:=cs) (U:=U) ht he hsz (ho.at_ i hi) hs h1 hb hb2;exact jV r (k _ _ (λj u hj=>PE ht he hsz (ho.at_ i hi) hs hm h1 hb hb2 r t.is hj) (ho.turn i hi t))
theorem CD (i:Nat){T E:TypeId}{cs:Array Bool}{n:Nat}{l:List UInt8}(ht:P.underlying T=aw (.slice E))(hu:P.underlying U2=aw .string)(he:elB P E 1 1=au)(h8:P.underlying E=aw (.int .u8))
  (hz8:(P.info? E).bind (·.zero)=aw (.int .u8 0)) (ho:OwnS S w0 w L) (hi:L[i]?=aw (.urow E 1 v n xs)) (hb2:n+l.length<=140737488355328)
  (k:∀v' w',OwnS S w0 w' (L.set i (.urow E 1 v' (n+l.length) (xs++aG l)))->K v' w'):DoX P (mB .append #[T,U2] U cs #[v,.string ⟨l.toArray⟩]) w PK K:=by
 obtain⟨v',w',r,t⟩:=EZ (cs:=cs) (U:=U) ht hu he h8 hz8 (ho.at_ i hi) hb2;exact jV r (k _ _ (ho.turn i hi t))
end
end Eng
end
section
open Eng Go.RowKit
def gi (d:Nat):Nat->List UInt8->List UInt8
|0,out=>out
|n+1,out=>gi d n (out++[out.getD (out.length - d) 0])
theorem qo (d:Nat):∀(n:Nat) (out:List UInt8),(gi d n out).length=out.length+n
|0,out=>rfl
|n+1,out=>by rw[gi,qo d n,aoC,apL];omega
theorem tj (i:Nat):1<=dq i:=by
 unfold dq
 induction i with
|zero=>decide
|succ i ih=>exact aqQ ih (Nat.le_add_right _ _)
def bw (far:List Nat)(s:List UInt8)(p sign:Nat)(out:List UInt8)(most:Nat):List UInt8×Nat×Int:=
 if 285 < sign then (out,p,13)
 else if 8*s.length < p+cy (sign - 257) then (out,p,4)
 else
  let size:=gl (sign - 257)+Fl.num s p (cy (sign - 257))
  let r:=cj far s (p+cy (sign - 257))
  if r.2.2≠0 then (out,p,r.2.2)
  else if 29 < r.1 then (out,p,13)
  else if 8*s.length < r.2.1+bu r.1 then (out,p,4)
  else
   let d:=dq r.1+Fl.num s r.2.1 (bu r.1)
   if out.length < d then (out,p,14)
   else if most < out.length+size then (out,p,5)
   else (gi d size out,r.2.1+bu r.1,0)
theorem abJ {b:Int}:(mFld 371 (snV a b) 1).run ah W=.ok (.value (.int .i64 b)) W:=krx
theorem aiZ {b:Int}:DoX ah (mFld 371 (snV a b) 1) w PK K=K (.int .i64 b) w:=aC abJ
section
variable {w:ak}{PK:PKT}{K:VWP}{S:Nat->Prop}{w0:ak}{L:List Ent}
theorem ZR (ho:OwnS S w0 w L)(j:Nat){ov:ao}{most:Int}(hi:L[j]?=aw (flE b rb ov most)):DoX ah (aJ 53 (.pointer (aw ⟨b,0+1,av⟩))) w PK K=K ov w:=aS Ha (ho.cell j hi 1 rfl)
theorem QA (j:Nat){ov ov':ao}{most:Int}(h:ov'.oneCell'=au)(ho:OwnS S w0 w L)(hi:L[j]?=aw (flE b rb ov most))(k:∀w',OwnS S w0 w' (L.set j (flE b rb ov' most))->K undef w') :
  DoX ah (aV 53 (.pointer (aw ⟨b,0+1,av⟩)) ov') w PK K:=aN j ho hi krx h (by show 0+1 < 3;omega) k
theorem elU8:elB ah 5 1 1=true:=krx
theorem Dc (c:UInt8)(ho:OwnS S w0 w L)(k:∀b w',OwnS S w0 w' (.cells b (aG [c]) 5::L)->K (.slice (aw ⟨b,0,av⟩) 1 1) w'):DoX ah (bF 53 1 #[(0,.int .u8 (c.toNat:Int))]) w PK K:=
 bD (λb=>.slice (aw ⟨b,0,av⟩) 1 1) (aG [c]) 5 (λ_=>by kernel_rfl) ho k
abbrev Fs (fb rb:Nat)(s:List UInt8)(most:Nat)(ov:ao)(way:Int)(p:Nat)(out:List UInt8)(R:List Ent):List Ent:=flE fb rb ov (most:Int)::bqE rb s way p::outR ov out::R
theorem Je {ov:ao}{most:Int}(h:(flE b rb ov most).is W):(aJ 53 (.pointer (aw ⟨b,0+1,av⟩))).run ah W=.ok (.value ov) W:=aB Ha (aI (T:=278) (cs:=flC rb ov most) h rfl)
theorem cS {ov:ao}{out:List UInt8}(h:(outR ov out).is W):Sl W ov 1 out.length (aG out):=Sl.urow h
theorem fC {l:List UInt8}(hi:i < l.length):(aG l)[i]?=aw (.int .u8 (l[i].toNat:Int)):=by
 unfold aG;rw[asE,aoI hi];rfl
theorem II {l:List UInt8}(hs:Sl w v 1 l.length (aG l))(hi:i < l.length) :
  ∃b off,(∀W,(mIA 53 v (.int .i64 (i:Int))).run ah W=.ok (.value (.pointer (aw ⟨b,off+i,av⟩))) W)∧w.cell? ⟨b,off+i,av⟩=aw (.int .u8 (l[i].toNat:Int)):=by
 obtain⟨b,off,cap,rfl,h2⟩:=bY hs om;refine⟨b,off,λW=>?_,h2 i _ (fC hi)⟩;have:=dZ (P:=ah) (T:=53) (b:=b) (off:=off) (cap:=cap) (n:=l.length) (k:=.i64) (i:=(i:Int)) (w:=W) aoK (show _=aw 1 by kernel_rfl) om om
 rwa [aoF,aoS] at this
theorem nU8l:eM ah 5=true:=krx
theorem aW {l:List UInt8}:∀u∈aG l,u.oneCell'=true:=by
 unfold aG;intro u hu;obtain⟨c,_,rfl⟩:=apN.1 hu;rfl
theorem Y3 {ov:ao}{s:List UInt8}{out:List UInt8}{lens:List Nat}(jm:Nat)(ho:OwnS S w0 w (Fs fb rb s most ov way p out R))(hm:R[jm]?=aw (.mem M))(ht:TbAt M.A M.w tb lens)(hl:lens.length<=1000)(hw:way=0∨way=1)(hp:p<=8*s.length)(hs:s.length<=1000000000)(hmo:most<=1000000000)(hol:out.length<=most)(hi:i<=1000)
  (k1:(bw lens s p (257+i) out most).2.2=0->(bw lens s p (257+i) out most).2.1<=8*s.length->(bw lens s p (257+i) out most).1.length<=most->∀way' ov' W,(way'=0∨way'=1)->OwnS S w0 W (Fs fb rb s most ov' way' (bw lens s p (257+i) out most).2.1 (bw lens s p (257+i) out most).1 R)->K (.tuple #[]) W)
  (k2:(bw lens s p (257+i) out most).2.2≠0->∀ov' way' p' out' W,OwnS S w0 W (Fs fb rb s most ov' way' p' out' R)->PK [upI (bw lens s p (257+i) out most).2.2] W) :
  CallX ah 348 #[.pointer (aw ⟨fb,0,av⟩),.int .i64 ((257+i:Nat):Int),.pointer (aw ⟨tb,0,av⟩)] w PK K:=by
 generalize hX:bw lens s p (257+i) out most=X at k1 k2;refine⟨uS ?_⟩;unfold mL nz;unfold bw at hX;simp only[rs];refine jE (λh1=>?_) (λh1=>?_)
 rotate_left
 ·have:=apM h1;rw[anX om] at hX;subst hX;exact k2 (by dsimp only;decide) _ _ _ _ _ ho
 have h1:=aoU h1;have hi28:i<=28:=om
 rw[anW om,asZ] at hX;obtain⟨hz1,hz2⟩:=mg hi28;rw[aA om om,show ((257+i:Nat):Int) - 257=(i:Int) by omega];refine aH ho (R:=λv=>v=snV (gl i) (cy i)) (Oq i w hi28) ?_;rintro _ w1 rfl ho;rw[aiZ];refine rE 0 1 ho rfl rfl hw hp om hs (λh2 W ho=>?_) (λh2 W ho=>?_)
 rotate_left
 ·rw[anX h2] at hX;subst hX;exact k2 (by dsimp only;decide) _ _ _ _ _ ho
 rw[anW om] at hX;dsimp only at hX;have hwy:(if 0 < cy i then (1:Int) else way)=0∨(if 0 < cy i then (1:Int) else way)=1:=by split;exact .inr rfl;exact hw
 have ho:OwnS S w0 W (Fs fb rb s most ov (if 0 < cy i then 1 else way) (p+cy i) out R):=ho;generalize (if 0 < cy i then (1:Int) else way)=way2 at ho hwy;have hnl:=Fl.iQ s p (cy i);refine aH ho (R:=λv=>v=.tuple #[.int .i64 ((gl i+Fl.num s p (cy i):Nat):Int),.int .i64 0]) (Wu i _ W hi28 hnl) ?_;rintro _ w2 rfl ho;simp only[ex];refine yS (λ_=>?_) (λh=>absurd rfl h);have hsz:gl i+Fl.num s p (cy i)<=100000:=by
  have:2 ^ cy i<=2 ^ 5:=apJ dc hz2;omega
 generalize gl i+Fl.num s p (cy i)=sz at hX hsz
 try rw[aY]
 rw[NI,UF ho 0 rfl];refine QL 1 (jm+3) om ho rfl hm ht hl hwy om hs λway3 W3 hw3 hp3 ho=>?_;have ho:OwnS S w0 W3 (Fs fb rb s most ov way3 (cj lens s (p+cy i)).2.1 out R):=ho;generalize cj lens s (p+cy i)=T at hX ho hp3;obtain⟨fi,q,e⟩:=T;dsimp only at hX ho hp3;simp only[ex];refine yS (λh3=>?_) (λh3=>?_)
 rotate_left
 ·rw[anX h3] at hX;subst hX;exact k2 h3 _ _ _ _ _ ho
 rw[anW (by rw[h3];decide)] at hX;simp only[rs];refine jE (λh4=>?_) (λh4=>?_)
 rotate_left
 ·have:=apM h4;rw[anX om] at hX;subst hX;exact k2 (by dsimp only;decide) _ _ _ _ _ ho
 have h4:=aoU h4;have hf29:fi<=29:=om
 rw[anW om] at hX;obtain⟨hf1,hf2⟩:=mh hf29;refine aH ho (R:=λv=>v=snV (dq fi) (bu fi)) (Q6 fi W3 om) ?_;rintro _ w4 rfl ho;rw[aiZ];refine rE 0 1 ho rfl rfl hw3 hp3 om hs (λh5 W ho=>?_) (λh5 W ho=>?_)
 rotate_left
 ·rw[anX h5] at hX;subst hX;exact k2 (by dsimp only;decide) _ _ _ _ _ ho
 rw[anW om] at hX;have hwy:(if 0 < bu fi then (1:Int) else way3)=0∨(if 0 < bu fi then (1:Int) else way3)=1:=by split;exact .inr rfl;exact hw3
 have ho:OwnS S w0 W (Fs fb rb s most ov (if 0 < bu fi then 1 else way3) (q+bu fi) out R):=ho;generalize (if 0 < bu fi then (1:Int) else way3)=way5 at ho hwy;have hnl:=Fl.iQ s q (bu fi);refine aH ho (R:=λv=>v=.tuple #[.int .i64 ((dq fi+Fl.num s q (bu fi):Nat):Int),.int .i64 0]) (YT fi _ W hf29 hnl) ?_;rintro _ w6 rfl ho;simp only[ex];refine yS (λ_=>?_) (λh=>absurd rfl h);have hfp:=tj fi;have hd1:1<=dq fi+Fl.num s q (bu fi):=om
 generalize dq fi+Fl.num s q (bu fi)=d at hX hd1
 try rw[aY]
 rw[aP AY,ZR ho 0 rfl,bB aoK (cS (ho.at_ 2 rfl))];simp only[rs];refine jE (λh6=>?_) (λh6=>?_)
 rotate_left
 ·have:=apM h6;rw[anX om] at hX;subst hX;exact k2 (by dsimp only;decide) _ _ _ _ _ ho
 have h6:=aoU h6;rw[anW om] at hX;refine VL (n:=sz) 0 2 ho rfl rfl om om om (λh7 W ho=>?_) (λh7 W ho=>?_)
 rotate_left
 ·rw[anX om] at hX;subst hX;exact k2 (by dsimp only;decide) _ _ _ _ _ ho
 rw[anW om] at hX;refine loop (λvs W=>∃(k:Nat) (ov':ao) (out':List UInt8),vs=[.int .i64 k]∧k<=sz∧d<=out'.length∧out'.length+(sz - k)<=most∧gi d (sz - k) out'=X.1∧OwnS S w0 W (Fs fb rb s most ov' way5 (q+bu fi) out' R)) (λvs _=>sz - n0 vs) ⟨0,ov,out,rfl,om,om,om,by rw[<-hX];rfl,ho⟩ ?_;clear ho;rintro vs w7 ⟨k,ov',out',rfl,hk,hd',hlm,hbk,ho⟩ _;simp only[jJ,gd,rs,iN,bnx];by_cases hlt:(k:Int) < (sz:Int)
 ·simp only[hlt,aoA,i_t];have ho:=ho.drew;have hpos:out'.length - d < out'.length:=om
  obtain⟨ga,gcap,rfl⟩:=rW (ho.at_ 2 rfl) om;obtain⟨cb,coff,ccap,e1,r2⟩:=bY (cS (ho.at_ 2 rfl)) om
  injection e1 with e1 e2 e3
  injection e1 with e1
  injection e1 with e1 e4
  subst e1;subst e4;refine⟨λW=>(flE fb rb (.slice (aw ⟨ga,0,av⟩) out'.length gcap) most).is W∧W.cell? ⟨ga,out'.length - d,av⟩=aw (.int .u8 (out'[out'.length - d].toNat:Int)),⟨ho.at_ 0 rfl,?_⟩,?_⟩
  ·have:=r2 _ _ (fC hpos)
   rwa [aoN] at this
  refine aL _ (λ_=>cN) (aL _ (λ_=>bH AY) (sL _ (λW h=>Je h.1) ?_));refine aL _ (λ_=>cN) (aL _ (λ_=>bH AY) (sL _ (λW h=>Je h.1) ?_));refine aL _ (λ_=>cN) (aL _ (λ_=>bH AY) (sL _ (λW h=>Je h.1) ?_));refine aL (.int .i64 (out'.length:Int)) (λW=>by simp[mB,builtin,Builtin.len_,run_underlying aoK,goInt]) ?_;refine aL _ (λW=>bK (by simp[binOp];rfl)) ?_;rw[aA om om,show (out'.length:Int) - (d:Int)=((out'.length - d:Nat):Int) by omega];refine aL (.pointer (aw ⟨ga,out'.length - d,av⟩)) (λW=>?_) ?_
  ·have:=dZ (P:=ah) (T:=53) (b:=ga) (off:=0) (cap:=gcap) (n:=out'.length) (k:=.i64) (i:=((out'.length - d:Nat):Int)) (w:=W) aoK (show _=aw 1 by kernel_rfl) om om
   rwa [aoF,aoS,aoN] at this
  refine sL _ (λW h=>aB nU8l h.2) ?_;generalize hc:out'[out'.length - d]=c;refine Dc c ho λb8 w8 ho=>?_;refine⟨⟨ho.at_ 1 rfl,?_⟩,?_⟩
  ·obtain⟨_,_,_,e1,r2⟩:=bY (cS (ho.at_ 3 rfl)) om
   injection e1 with e1 e2 e3
   injection e1 with e1
   injection e1 with e1 e4
   subst e1;subst e4;have:=r2 _ _ (fC hpos);rw[aoN,hc] at this;exact this
  refine UW 3 aoK elU8 dc ho rfl (eG (ho.at_ 0 rfl) dc rfl) dc aW om om λv' w9 hkp ho=>?_;have hov:v'.oneCell'=true:=eF (ho.at_ 3 rfl);refine⟨⟨ho.at_ 1 rfl,?_⟩,?_⟩
  ·have:=hkp _ _ (fC hpos);rw[hc] at this;exact this
  refine aL _ (λ_=>cN) (aL _ (λ_=>bH AY) ?_);refine QA 1 hov ho rfl λw10 ho=>?_;have ho:OwnS S w0 w10 (.cells b8 (aG [c]) 5::Fs fb rb s most v' way5 (q+bu fi) (out'++[c]) R):=by
   have e:outR v' (out'++[c])=.urow 5 1 v' (out'.length+1) (aG out'++aG [c]):=by
    unfold outR aG;rw[aoC,apX];rfl
   show OwnS S w0 w10 (.cells b8 (aG [c]) 5::flE fb rb v' (most:Int)::bqE rb s way5 (q+bu fi)::outR v' (out'++[c])::R);rw[e];exact ho
  rw[aA om om];refine aQ ⟨k+1,v',out'++[c],rfl,om,by rw[aoC];omega,by rw[aoC,apL];omega,?_,ho.tail⟩ (by simp[n0,RowKit.intOf];omega);rw[<-hbk,show sz - k=(sz - (k+1))+1 by omega,gi,aoE,aoI hpos,<-hc];rfl
 ·simp only[hlt,aoB,i_f];have hks:k=sz:=om
  subst hks;rw[aqK,gi] at hbk;rw[<-hX] at hbk;rw[<-hX] at k1;dsimp only at hbk k1;have:=k1 rfl om (by rw[<-hbk];omega) way5 ov' w7 hwy (by rw[<-hbk];exact ho);exact this
end
end
section
open Eng Go.RowKit
def bqAt (b:Nat)(w:ak):Nat:=match w.cell? ⟨b,1,av⟩,w.cell? ⟨b,3,av⟩ with|some (.int _ u),aw (.int _ a)=>8*a.toNat+u.toNat|_,_=>0
theorem Jp {s:List UInt8}(h:(bqE b s way p).is w):bqAt b w=p:=by
 unfold bqAt;rw[show w.cell? ⟨b,1,av⟩=aw (.int .i64 ((p % 8:Nat):Int)) from aI (T:=317) (cs:=bqC s way p) h rfl,show w.cell? ⟨b,3,av⟩=aw (.int .i64 ((p / 8:Nat):Int)) from aI (T:=317) (cs:=bqC s way p) h rfl];show 8*((p / 8:Nat):Int).toNat+((p % 8:Nat):Int).toNat=p;omega
theorem tm (lens:List Nat)(s:List UInt8):∀(f l p code:Nat),(ig lens s f l p code).2.2=0->p < (ig lens s f l p code).2.1
|0,_,_,_,h=>by simp[ig] at h
|f+1,l,p,code,h=>by
  unfold ig at h ⊢;split
  ·rename_i h1;rw[anX h1] at h;simp at h
  rename_i h1;rw[anW h1] at h
  split
  ·rename_i h2;rw[anX h2] at h;simp at h
  rename_i h2;rw[anW h2] at h
  split
  ·exact Nat.lt_succ_self _
  rename_i h3;rw[anW h3] at h
  have:=tm lens s f (l+1) (p+1) (2*code+Fl.bit s p) h;omega
theorem mw {lens:List Nat}{s:List UInt8}{p:Nat}(h:(cj lens s p).2.2=0):p < (cj lens s p).2.1:=tm lens s 16 0 p 0 h
theorem qp {far:List Nat}{s:List UInt8}{p sign most:Nat}{out:List UInt8}(h:(bw far s p sign out most).2.2=0):p<=(bw far s p sign out most).2.1:=by
 unfold bw at h ⊢;split
 ·exact aoG _
 rename_i h1;rw[anW h1] at h
 split
 ·exact aoG _
 rename_i h2;rw[anW h2] at h
 dsimp only at h ⊢;split
 ·exact aoG _
 rename_i h3;rw[anW h3] at h
 have:=mw (Decidable.not_not.1 h3);split
 ·exact aoG _
 rename_i h4;rw[anW h4] at h
 split
 ·exact aoG _
 rename_i h5;rw[anW h5] at h
 split
 ·exact aoG _
 rename_i h6;rw[anW h6] at h
 split
 ·exact aoG _
 dsimp only;omega
def jh (near far:List Nat)(s:List UInt8)(most:Nat):Nat->Nat->List UInt8->List UInt8×Nat×Int
|0,p,out=>(out,p,13)
|f+1,p,out=>
  let r:=cj near s p
  if r.2.2≠0 then (out,p,r.2.2)
  else if r.1 < 256 then if most < out.length+1 then (out,p,5) else jh near far s most f r.2.1 (out++[UInt8.ofNat r.1])
  else if r.1=256 then (out,r.2.1,0)
  else
   let c:=bw far s r.2.1 r.1 out most
   if c.2.2≠0 then (out,p,c.2.2) else jh near far s most f c.2.1 c.1
def ec (near far:List Nat)(s:List UInt8)(most p:Nat)(out:List UInt8):List UInt8×Nat×Int:=jh near far s most (8*s.length+1 - p) p out
theorem tp (lens:List Nat):∀(l i:Nat),i∈bh lens l->i < lens.length
|0,i,h=>by cases h
|l+1,i,h=>by
  rw[bh,apF] at h;rcases h with h|h
  ·exact tp lens l i h
  ·unfold jy at h;have:=(List.mem_filter.1 h).1;exact apZ.1 this
theorem nt {lens:List Nat}(s:List UInt8)(h0:0 < lens.length):∀(f l p code:Nat),(ig lens s f l p code).1 < lens.length
|0,_,_,_=>by simpa[ig] using h0
|f+1,l,p,code=>by
  unfold ig;split
  ·exact h0
  split
  ·exact h0
  split
  ·dsimp only;rw[aoE];rcases h:(bh lens 15)[Fl.aR lens l+(2*code+Fl.bit s p - Fl.first lens (l+1))]? with _|x
   ·exact h0
   ·exact tp lens 15 x (arN h)
  ·exact nt s h0 f _ _ _
theorem tq {lens:List Nat}(s:List UInt8)(p:Nat):(cj lens s p).1<=lens.length:=by
 rcases arF lens.length with h|h
 ·have:lens=[]:=asG h;subst this;simp[cj,ig,Fl.aR]
 ·exact Nat.le_of_lt (nt s h 16 0 p 0)
theorem cU8 {n:Nat}(h:n < 256):(fA 3 5 (.int .i64 (n:Int))).run ah W=.ok (.value (.int .u8 ((UInt8.ofNat n).toNat:Int))) W:=by
 have:=aO (P:=ah) (S:=3) (D:=5) (k:=.i64) (n:=(n:Int)) (w:=W) krx aoP;rw[this]
 congr 3
section
variable {w:ak}{PK:PKT}{K:VWP}{S:Nat->Prop}{w0:ak}
theorem WZ {td:Nat}{ov:ao}{s:List UInt8}{out:List UInt8}{far:List Nat}(jm:Nat)(ho:OwnS S w0 w (Fs fb rb s most ov way p out R))(hm:R[jm]?=aw (.mem M))(ht:TbAt M.A M.w tb near)(ht2:TbAt M.A M.w td far)(hl:near.length<=1000)(hl2:far.length<=1000)(hw:way=0∨way=1)(hp:p<=8*s.length)(hs:s.length<=1000000000)(hmo:most<=1000000000)(hol:out.length<=most)
  (k1:(ec near far s most p out).2.2=0->(ec near far s most p out).2.1<=8*s.length->(ec near far s most p out).1.length<=most->∀way' ov' W,(way'=0∨way'=1)->OwnS S w0 W (Fs fb rb s most ov' way' (ec near far s most p out).2.1 (ec near far s most p out).1 R)->K (.tuple #[]) W)
  (k2:(ec near far s most p out).2.2≠0->∀ov' way' p' out' W,OwnS S w0 W (Fs fb rb s most ov' way' p' out' R)->PK [upI (ec near far s most p out).2.2] W) :
  CallX ah 337 #[.pointer (aw ⟨fb,0,av⟩),.pointer (aw ⟨tb,0,av⟩),.pointer (aw ⟨td,0,av⟩)] w PK K:=by
 generalize hX:ec near far s most p out=X at k1 k2;refine⟨wR ?_⟩;unfold nM nz;refine loop (λvs W=>∃(p:Nat) (way:Int) (ov:ao) (out:List UInt8),vs=[]∧(way=0∨way=1)∧p<=8*s.length∧out.length<=most∧(∃f,8*s.length+1 - p<=f∧jh near far s most f p out=X)∧OwnS S w0 W (Fs fb rb s most ov way p out R)) (λ_ w=>8*s.length+1 - bqAt rb w) ⟨p,way,ov,out,rfl,hw,hp,hol,⟨_,aoG _,hX⟩,ho⟩ ?_;clear ho hX hp hw hol;rintro vs w1 ⟨p,way,ov,out,rfl,hw,hp,hol,⟨f,hf,hX⟩,ho⟩ _;have hat:bqAt rb w1=p:=Jp (ho.at_ 1 rfl);unfold kW nz;obtain⟨f,rfl⟩:∃f',f=f'+1:=⟨f - 1,om⟩;rw[jh] at hX;dsimp only at hX;rw[aY,NI,UF ho 0 rfl];refine QL 1 (jm+3) om ho rfl hm ht hl hw hp hs λway3 W3 hw3 hp3 ho=>?_;have ho:OwnS S w0 W3 (Fs fb rb s most ov way3 (cj near s p).2.1 out R):=ho;have hadv:=@mw near s p;have hle:=@tq near s p;generalize cj near s p=T at hX ho hp3 hadv hle;obtain⟨g,q,e⟩:=T;dsimp only at hX ho hp3 hadv hle;simp only[ex];refine yS (λh3=>?_) (λh3=>?_)
 rotate_left
 ·rw[anX h3] at hX;subst hX;exact k2 h3 _ _ _ _ _ ho
 rw[anW (by rw[h3];decide)] at hX;have hadv:=hadv h3;simp only[rs];by_cases h256:(g:Int) < 256
 ·simp only[h256,aoA,i_t];rw[anX om] at hX;refine VL (n:=1) 0 2 ho rfl rfl om om om (λh7 W ho=>?_) (λh7 W ho=>?_)
  rotate_left
  ·rw[anX om] at hX;subst hX;exact k2 (by dsimp only;decide) _ _ _ _ _ ho
  rw[anW om] at hX
  try rw[aY]
  rw[aP AY,ZR ho 0 rfl];refine aC (cU8 om) |>.mpr ?_;refine Dc _ ho λb8 w8 ho=>?_;refine aX 3 aoK elU8 dc ho rfl (eG (ho.at_ 0 rfl) dc rfl) aW om om λv' w9 ho=>?_;have hov:v'.oneCell'=true:=eF (ho.at_ 3 rfl)
  try rw[aY]
  rw[aP AY];refine QA 1 hov ho rfl λw10 ho=>?_;have ho:OwnS S w0 w10 (.cells b8 (aG [UInt8.ofNat g]) 5::Fs fb rb s most v' way3 q (out++[UInt8.ofNat g]) R):=by
   have e:outR v' (out++[UInt8.ofNat g])=.urow 5 1 v' (out.length+1) (aG out++aG [UInt8.ofNat g]):=by
    unfold outR aG;rw[aoC,apX];rfl
   show OwnS S w0 w10 (.cells b8 (aG [UInt8.ofNat g]) 5::flE fb rb v' (most:Int)::bqE rb s way3 q::outR v' (out++[UInt8.ofNat g])::R);rw[e];exact ho
  have hat2:bqAt rb w10=q:=Jp (ho.at_ 2 rfl);refine aQ ⟨q,way3,v',_,rfl,hw3,hp3,by rw[aoC,apL];omega,⟨f,om,hX⟩,ho.tail⟩ (by show 8*s.length+1 - bqAt rb w10 < 8*s.length+1 - bqAt rb w1;rw[hat,hat2];omega)
 simp only[h256,aoB,i_f];rw[anW om] at hX
 try simp only[rs]
 by_cases h0:(g:Int)=256
 ·simp only[h0,aoA,i_t];rw[anX om] at hX;subst hX;exact k1 rfl hp3 hol _ _ _ hw3 ho
 simp only[h0,aoB,i_f];rw[anW om] at hX;obtain⟨i,rfl⟩:∃i,g=257+i:=⟨g - 257,om⟩;have hca:=@qp far s q (257+i) most out;refine Y3 jm ho hm ht2 hl2 hw3 hp3 hs hmo hol om (λh8 h9 h10 way4 ov4 W4 hw4 ho=>?_) (λh8 ov4 way4 p4 out4 W4 ho=>?_)
 rotate_left
 ·rw[anX h8] at hX;subst hX;exact k2 h8 _ _ _ _ _ ho
 rw[anW (by rw[h8];decide)] at hX;have hca:=hca h8;generalize bw far s q (257+i) out most=C at hX ho hca h9 h10;have hat2:bqAt rb W4=C.2.1:=Jp (ho.at_ 1 rfl);refine aQ ⟨C.2.1,way4,ov4,C.1,rfl,hw4,h9,h10,⟨f,om,hX⟩,ho⟩ (by show 8*s.length+1 - bqAt rb W4 < 8*s.length+1 - bqAt rb w1;rw[hat,hat2];omega)
end
end
def dr (lens:List Nat):Nat:=(lens.map λl=>if l=0 then 0 else 2 ^ (15 - l)).sum
def jl (lens:List Nat):Nat:=(lens.filter λl=>ai (l≠0)).length
theorem tr (m:Nat):Fl.fW [] m=0:=by
 induction m with
|zero=>rfl
|succ m ih=>simp[Fl.fW,ih]
theorem qt (m:Nat):Fl.aR [] m=0:=by
 induction m with
|zero=>rfl
|succ m ih=>simp[Fl.aR,ih]
theorem tu (l:Nat)(ls:List Nat)(m:Nat):Fl.fW (l::ls) m=Fl.fW ls m+(if l=0 then 0 else if l<=m then 2 ^ (15 - l) else 0):=by
 induction m with
|zero=>
  simp only[Fl.fW];split;·rfl
  ·rw[anW om]
|succ m ih=>
  rw[Fl.fW,ih,Fl.fW,List.count_cons];by_cases h:l=m+1
  ·subst h;simp only[beq_self_eq_true,if_true,arC,auJ];rw[anW om,anW om,anW om,anX (aoG _)];omega
  ·have hb:(l==m+1)=false:=by simp[h]
   rw[hb];simp only[asN,if_false,apO];by_cases h0:l=0
   ·simp[h0]
   ·rw[anW h0,anW h0];by_cases hm:l<=m
    ·rw[anX hm,anX om];omega
    ·rw[anW hm,anW om];simp
theorem nu (l:Nat)(ls:List Nat)(m:Nat):Fl.aR (l::ls) m=Fl.aR ls m+(if l=0 then 0 else if l<=m then 1 else 0):=by
 induction m with
|zero=>
  simp only[Fl.aR];split;·rfl
  ·rw[anW om]
|succ m ih=>
  rw[Fl.aR,ih,Fl.aR,List.count_cons];by_cases h:l=m+1
  ·subst h;simp only[beq_self_eq_true,if_true];rw[anW om,anW om,anW om,anX (aoG _)];omega
  ·have hb:(l==m+1)=false:=by simp[h]
   rw[hb];simp only[asN,if_false,apO];by_cases h0:l=0
   ·simp[h0]
   ·rw[anW h0,anW h0];by_cases hm:l<=m
    ·rw[anX hm,anX om];omega
    ·rw[anW hm,anW om];simp
theorem qu:∀{lens:List Nat},(∀l∈lens,l<=15)->dr lens=Fl.fW lens 15
|[],_=>by rw[tr];rfl
|l::ls,h=>by
  have ih:=qu (lens:=ls) λx hx=>h x (apA _ hx);have h1:=h l (apU ..);unfold dr at ih ⊢;rw[aqL,asO,ih,tu,anX h1];omega
theorem tw:∀{lens:List Nat},(∀l∈lens,l<=15)->jl lens=Fl.aR lens 15
|[],_=>by rw[qt];rfl
|l::ls,h=>by
  have ih:=tw (lens:=ls) λx hx=>h x (apA _ hx);have h1:=h l (apU ..);unfold jl at ih ⊢;rw[nu,anX h1,<-ih,asV];by_cases h0:l=0
  ·simp[h0]
  ·simp[h0]
theorem tx (lens:List Nat)(l:Nat):Fl.fU (lens++[l])=max (Fl.fU lens) l:=by simp[Fl.fU]
theorem tz (m:Nat):∀(lens:List Nat) (a:Nat),lens.foldl max a<=m↔a<=m∧∀l∈lens,l<=m
|[],a=>by simp
|l::ls,a=>by
  rw[List.foldl_cons,tz m ls (max a l)];simp only[aoM,forall_eq_or_imp,Nat.max_le,and_assoc]
theorem ua {lens:List Nat}:Fl.fU lens<=m↔∀l∈lens,l<=m:=by
 unfold Fl.fU;rw[tz];simp
theorem uc:∀{lens:List Nat} {m:Nat},m<=15->(∀l∈lens,l<=15)->(Fl.aR lens 15<=Fl.aR lens m↔∀l∈lens,l<=m)
|[],m,_,_=>by simp[qt]
|l::ls,m,hm,h=>by
  have ih:=uc (lens:=ls) hm λx hx=>h x (apA _ hx);have h1:=h l (apU ..);have hle:∀ls:List Nat,Fl.aR ls m<=Fl.aR ls 15:=λls=>lz ls hm;have:=hle ls;rw[nu,nu,anX h1];simp only[aoM,forall_eq_or_imp,<-ih];by_cases h0:l=0
  ·simp[h0]
  ·rw[anW h0,anW h0];by_cases h2:l<=m
   ·rw[anX h2];omega
   ·rw[anW h2];omega
theorem qv {lens:List Nat}(hm:m<=15)(h:∀l∈lens,l<=15):Fl.aR lens 15<=Fl.aR lens m↔Fl.fU lens<=m:=by
 rw[uc hm h,ua]
theorem B0 {lens:List Nat}(h:∀l∈lens,l<=15):Fl.check lens=if dr lens=32768∨dr lens=0∨(jl lens=1∧Fl.fU lens=1) then 0 else 13:=by
 unfold Fl.check;rw[qu h,tw h];have h0:Fl.fW lens 15=0↔Fl.aR lens 15=0:=by
  clear h
  induction lens with
 |nil=>simp[tr,qt]
 |cons l ls ih=>
   rw[tu,nu];by_cases h0:l=0
   ·simp[h0,ih]
   ·rw[anW h0,anW h0];by_cases h2:l<=15
    ·rw[anX h2,anX h2];have:0 < 2 ^ (15 - l):=atP _;omega
    ·rw[anW h2,anW h2];simpa using ih
 have h1:Fl.aR lens 15=1->(lens.count 1=1↔Fl.fU lens=1):=by
  intro hu;have e1:Fl.aR lens 1=lens.count 1:=by simp[Fl.aR]
  have a:=qv (lens:=lens) (m:=1) om h;have b:=qv (lens:=lens) (m:=0) om h;have e0:Fl.aR lens 0=0:=rfl;have hm:=lz lens (show 1<=15 by omega);rw[e1] at a hm;rw[e0] at b;omega
 congr 1
 apply propext;constructor
 ·rintro (k|k|⟨k,k2⟩)
  ·exact .inl k
  ·exact .inr (.inl (h0.2 k))
  ·exact .inr (.inr ⟨k,(h1 k).1 k2⟩)
 ·rintro (k|k|⟨k,k2⟩)
  ·exact .inl k
  ·exact .inr (.inl (h0.1 k))
  ·exact .inr (.inr ⟨k,(h1 k).2 k2⟩)
theorem ud (lens:List Nat)(l:Nat):∀m,l<=m->∃t,bh lens m=bh lens l++t
|0,h=>by
  obtain rfl:l=0:=om
  exact⟨[],sm⟩
|m+1,h=>by
  rcases apD l (m+1) with h'|h'
  ·obtain⟨t,ht⟩:=ud lens l m om;exact⟨t++jy lens (m+1),by rw[bh,ht,aoL]⟩
  ·have:l=m+1:=om
   subst this;exact⟨[],sm⟩
theorem uf {lens:List Nat}{l k:Nat}(hl:l < 15)(hk:k < lens.count (l+1)):(bh lens 15).getD (Fl.aR lens l+k) 0=(jy lens (l+1)).getD k 0:=by
 obtain⟨t,ht⟩:=ud lens (l+1) 15 om;rw[ht,bh,aoL,aoE,arD (by rw[nr];omega),nr,asZ,
  aqO (by rw[qm];exact hk),aoE]
theorem qw (n:Nat):∀(lens:List Nat) (i k:Nat),Fl.Fk n i lens k=((List.range' i lens.length).filter λj=>ai (lens.getD (j - i) 0=n)).getD k 0
|[],i,k=>by simp[Fl.Fk]
|l::ls,i,k=>by
  have e:(List.range' (i+1) ls.length).filter (λj=>ai ((l::ls).getD (j - i) 0=n))=(List.range' (i+1) ls.length).filter (λj=>ai (ls.getD (j - (i+1)) 0=n)):=by
   refine List.filter_congr λj hj=>?_;have:=(List.mem_range'_1.1 hj).1;rw[show j - i=(j - (i+1))+1 by omega,List.getD_cons_succ]
  rw[apB,List.range'_succ,asV,e,aqK,List.getD_cons_zero];unfold Fl.Fk;by_cases h:l=n
  ·rw[anX h,anX (by simp[h])];cases k with
  |zero=>rfl
  |succ k=>simp only[List.getD_cons_succ];exact qw n ls (i+1) k
  ·rw[anW h,anW (by simp[h])];exact qw n ls (i+1) k
theorem C0 (lens:List Nat)(n k:Nat):Fl.place lens n k=(jy lens n).getD k 0:=by
 unfold Fl.place jy;rw[qw,List.range_eq_range'];simp
section
open Eng
def tD(t0 t1 w)(K:KT):=nz f241 1 [] [] [(3,11)] (zg [0,1] [t0,t1]) w K
theorem BA:tD t0 t1 w k0->Calls ah 241 #[t0,t1] w k0:=cw func241
def mD(t3 t4 t5 w)(N1:JT)(K:KT):=nz f245 471 [N1] [nh 11 [3,4,5]] [] (zg [3,4,5] [t3,t4,t5]) w K
def mF(t0 t3 t4 t5 w)(N1:JT)(K:KT):=nz f245 87 [N1] [nh 11 [3,4,5],(12,[3,4],λs v j w f=>mD (vg v 0) (vg v 1) (s 5) w (f 0) K)] [] (zg [0,3,4,5] [t0,t3,t4,t5]) w K
def pI(t0 w)(K:KT):=nz f245 1 [] [(11,[3,4,5],λs v j w f=>mF (s 0) (vg v 0) (vg v 1) (vg v 2) w (f 0) K)] [] (zg [0] [t0]) w K
theorem yP:pI t0 w k0->Calls ah 245 #[t0] w k0:=cz [(6,[3,4])] [(5,[3,4,5])] func245
def oG(t0 t1 t2 t9 t10 t12 t13 t14 w)(N2:JT)(K:KT):=nz f279 351 [N2] [nh 21 [2,12,13,14]] [] (zg [0,1,2,9,10,12,13,14] [t0,t1,t2,t9,t10,t12,t13,t14]) w K
def nS(t0 t1 t2 t9 t10 t11 w)(N1:JT)(K:KT):=nz f279 87 [N1] [nh 9 [10,11],(21,[2,12,13,14],λs v j w f=>oG (s 0) (s 1) (vg v 0) (s 9) (s 10) (vg v 1) (vg v 2) (vg v 3) w (f 0) K)] [] (zg [0,1,2,9,10,11] [t0,t1,t2,t9,t10,t11]) w K
def rK(t0 t1 t2 w)(K:KT):=nz f279 1 [] [(9,[10,11],λs v j w f=>nS (s 0) (s 1) (s 2) (s 9) (vg v 0) (vg v 1) w (f 0) K)] [] (zg [0,1,2] [t0,t1,t2]) w K
theorem Ai:rK t0 t1 t2 w k0->Calls ah 279 #[t0,t1,t2] w k0:=cz [] [(4,[10,11]),(10,[2,12,13,14])] func279
def rA(t0 w)(K:KT):=nz f276 1 [] [] [] (zg [0] [t0]) w K
theorem As:rA t0 w k0->Calls ah 276 #[t0] w k0:=cw func276
def mR(t2 t7 w)(N1:JT)(K:KT):=nz f309 117 [N1] [nh 5 [2,7]] [] (zg [2,7] [t2,t7]) w K
def lE(t0 t1 t2 t7 w)(N1:JT)(K:KT):=nz f309 21 [N1] [nh 5 [2,7],(6,[2],λs v j w f=>mR (vg v 0) (s 7) w (f 0) K)] [] (zg [0,1,2,7] [t0,t1,t2,t7]) w K
def pM(t0 t1 t2 w)(K:KT):=nz f309 1 [] [(5,[2,7],λs v j w f=>lE (s 0) (s 1) (vg v 0) (vg v 1) w (f 0) K)] [] (zg [0,1,2] [t0,t1,t2]) w K
theorem xZ:pM t0 t1 t2 w k0->Calls ah 309 #[t0,t1,t2] w k0:=cz [(3,[2])] [(2,[2,7])] func309
def nO(t3 t4 w)(N1:JT)(K:KT):=nz f278 235 [N1] [nh 7 [3,4]] [] (zg [3,4] [t3,t4]) w K
def oN(t0 t3 t4 w)(N1:JT)(K:KT):=nz f278 43 [N1] [nh 7 [3,4],(8,[3],λs v j w f=>nO (vg v 0) (s 4) w (f 0) K)] [] (zg [0,3,4] [t0,t3,t4]) w K
def sA(t0 w)(K:KT):=nz f278 1 [] [(7,[3,4],λs v j w f=>oN (s 0) (vg v 0) (vg v 1) w (f 0) K)] [] (zg [0] [t0]) w K
theorem Ak:sA t0 w k0->Calls ah 278 #[t0] w k0:=cz [(4,[3])] [(3,[3,4])] func278
end
section
open Eng
def kQ(t0 t1 t2 t9 t10 w)(N1:JT)(K:KT):=nz f194 43 [N1] [nh 7 [9,10]] [] (zg [0,1,2,9,10] [t0,t1,t2,t9,t10]) w K
def oA(t0 t1 t2 w)(K:KT):=nz f194 1 [] [(7,[9,10],λs v j w f=>kQ (s 0) (s 1) (s 2) (vg v 0) (vg v 1) w (f 0) K)] [] (zg [0,1,2] [t0,t1,t2]) w K
theorem vR:oA t0 t1 t2 w k0->Calls ah 194 #[t0,t1,t2] w k0:=cz [] [(3,[9,10])] func194
def oP(t0 w)(K:KT):=nz f310 1 [] [] [] (zg [0] [t0]) w K
theorem vY:oP t0 w k0->Calls ah 310 #[t0] w k0:=cw func310
def lF(t0 w)(K:KT):=nz f312 1 [] [] [] (zg [0] [t0]) w K
theorem vA:lF t0 w k0->Calls ah 312 #[t0] w k0:=cw func312
def nG(t0 t1 t6 t7 w)(N1:JT)(K:KT):=nz f311 175 [N1] [nh 15 [6,7]] [] (zg [0,1,6,7] [t0,t1,t6,t7]) w K
def sD(t0 t1 w)(K:KT):=nz f311 1 [] [(15,[6,7],λs v j w f=>nG (s 0) (s 1) (vg v 0) (vg v 1) w (f 0) K)] [] (zg [0,1] [t0,t1]) w K
theorem Ar:sD t0 t1 w k0->Calls ah 311 #[t0,t1] w k0:=cz [] [(7,[6,7])] func311
def pN(t0 t1 t6 t7 w)(N1:JT)(K:KT):=nz f313 87 [N1] [nh 11 [6,7]] [] (zg [0,1,6,7] [t0,t1,t6,t7]) w K
def uL(t0 t1 w)(K:KT):=nz f313 1 [] [(11,[6,7],λs v j w f=>pN (s 0) (s 1) (vg v 0) (vg v 1) w (f 0) K)] [] (zg [0,1] [t0,t1]) w K
theorem A6:uL t0 t1 w k0->Calls ah 313 #[t0,t1] w k0:=cz [] [(5,[6,7])] func313
def lZ(t2 t3 t6 w)(N4:JT)(K:KT):=nz f243 87 [N4] [nh 25 [3,6]] [] (zg [2,3,6] [t2,t3,t6]) w K
def fV(t2 t4 t5 w)(N1:JT)(K:KT):=nz f243 1963 [N1] [nh 7 [2,4]] [] (zg [2,4,5] [t2,t4,t5]) w K
def mK(t2 t4 t5 w)(N1:JT)(K:KT):=nz f243 939 [N1] [nh 7 [2,4],(20,[5],λs v j w f=>fV (s 2) (s 4) (vg v 0) w (f 0) K)] [] (zg [2,4,5] [t2,t4,t5]) w K
def lH(t2 t3 t4 w)(N1:JT)(K:KT):=nz f243 43 [N1] [nh 7 [2,4],(16,[5],λs v j w f=>mK (s 2) (s 4) (vg v 0) w (f 0) K),(25,[3,6],λs v j w f=>lZ (s 2) (vg v 0) (vg v 1) w (f 0) K)] [] (zg [2,3,4] [t2,t3,t4]) w K
def pC(w)(K:KT):=nz f243 1 [] [(7,[2,4],λs v j w f=>lH (vg v 0) (s 3) (vg v 1) w (f 0) K)] [] (zg [] []) w K
theorem xV:pC w k0->Calls ah 243 #[] w k0:=cz [(8,[5]),(10,[5])] [(3,[2,4]),(12,[3,6])] func243
def nX(t0 t1 t2 t3 w)(K:KT):=nz f242 1 [] [] [] (zg [0,1,2,3] [t0,t1,t2,t3]) w K
theorem vS:nX t0 t1 t2 t3 w k0->Calls ah 242 #[t0,t1,t2,t3] w k0:=cw func242
def jN(t0 t8 t11 t14 t15 t17 t18 t19 w)(N1:JT)(K:KT):=nz f244 22527 [N1] [nh 35 [15,19]] [(29,13)] (zg [0,8,11,14,15,17,18,19] [t0,t8,t11,t14,t15,t17,t18,t19]) w K
def lP(t0 t1 w)(K:KT):=nz f244 1 [] [(35,[15,19],λs v j w f=>jN (s 0) (s 8) (s 11) (s 14) (vg v 0) (s 17) (s 18) (vg v 1) w (f 0) K)] [] (zg [0,1] [t0,t1]) w K
theorem uP:lP t0 t1 w k0->Calls ah 244 #[t0,t1] w k0:=cz [] [(17,[15,19])] func244
def qF(t11 t16 t17 t18 t19 t21 w)(N1 N5:JT)(K:KT):=nz f277 720883 [N1,N5] [nh 5 [1,11],nh 47 [11,21]] [] (zg [11,16,17,18,19,21] [t11,t16,t17,t18,t19,t21]) w K
def iM(t0 t3 t11 t13 t15 t16 t17 w)(N1:JT)(K:KT):=nz f277 16371 [N1] [nh 5 [1,11],(47,[11,21],λs v j w f=>qF (vg v 0) (s 16) (s 17) (s 18) (s 19) (vg v 1) w (f 1) (f 0) K)] [] (zg [0,3,11,13,15,16,17] [t0,t3,t11,t13,t15,t16,t17]) w K
def iK(t0 t3 t11 t12 t13 t15 t16 t17 w)(N1:JT)(K:KT):=nz f277 8179 [N1] [nh 5 [1,11],(34,[15,16],λs v j w f=>iM (s 0) (s 3) (s 11) (s 13) (vg v 0) (vg v 1) (s 17) w (f 0) K)] [] (zg [0,3,11,12,13,15,16,17] [t0,t3,t11,t12,t13,t15,t16,t17]) w K
def iI(t0 t3 t11 t12 t13 t15 t16 t17 w)(N1:JT)(K:KT):=nz f277 4083 [N1] [nh 5 [1,11],(30,[15],λs v j w f=>iK (s 0) (s 3) (s 11) (s 12) (s 13) (vg v 0) (s 16) (s 17) w (f 0) K)] [] (zg [0,3,11,12,13,15,16,17] [t0,t3,t11,t12,t13,t15,t16,t17]) w K
def pH(t0 t1 t2 t3 t11 w)(N1:JT)(K:KT):=nz f277 19 [N1] [nh 5 [1,11],(26,[17],λs v j w f=>iI (s 0) (s 3) (s 11) (s 12) (s 13) (s 15) (s 16) (vg v 0) w (f 0) K)] [] (zg [0,1,2,3,11] [t0,t1,t2,t3,t11]) w K
def tO(t0 t1 t2 t3 w)(K:KT):=nz f277 1 [] [(5,[1,11],λs v j w f=>pH (s 0) (vg v 0) (s 2) (s 3) (vg v 1) w (f 0) K)] [] (zg [0,1,2,3] [t0,t1,t2,t3]) w K
theorem AL:tO t0 t1 t2 t3 w k0->Calls ah 277 #[t0,t1,t2,t3] w k0:=cz [(13,[17]),(15,[15]),(17,[15,16])] [(2,[1,11]),(23,[11,21])] func277
def kM(t4 t18 t24 t26 t28 w)(N1:JT)(K:KT):=nz f280 90111 [N1] [nh 43 [4,28]] [] (zg [4,18,24,26,28] [t4,t18,t24,t26,t28]) w K
def oB(t0 t1 t2 t3 t4 t5 w)(K:KT):=nz f280 1 [] [(43,[4,28],λs v j w f=>kM (vg v 0) (s 18) (s 24) (s 26) (vg v 1) w (f 0) K)] [] (zg [0,1,2,3,4,5] [t0,t1,t2,t3,t4,t5]) w K
theorem vL:oB t0 t1 t2 t3 t4 t5 w k0->Calls ah 280 #[t0,t1,t2,t3,t4,t5] w k0:=cz [] [(21,[4,28])] func280
def mN(t0 t1 t2 t3 t4 t5 w)(N1:JT)(K:KT):=nz f246 5 [N1] [nh 3 [1,4]] [] (zg [0,1,2,3,4,5] [t0,t1,t2,t3,t4,t5]) w K
def pX(t0 t1 t2 t3 t4 t5 w)(K:KT):=nz f246 1 [] [(3,[1,4],λs v j w f=>mN (s 0) (vg v 0) (s 2) (s 3) (vg v 1) (s 5) w (f 0) K)] [] (zg [0,1,2,3,4,5] [t0,t1,t2,t3,t4,t5]) w K
theorem yJ:pX t0 t1 t2 t3 t4 t5 w k0->Calls ah 246 #[t0,t1,t2,t3,t4,t5] w k0:=cz [] [(1,[1,4])] func246
def fX(t0 t1 t3 t4 t13 t14 w)(K:KT):=nz f195 63 [] [] [] (zg [0,1,3,4,13,14] [t0,t1,t3,t4,t13,t14]) w K
def qD(t0 t1 t2 t3 t4 w)(K:KT):=nz f195 1 [] [(38,[1,13,14],λs v j w f=>fX (s 0) (vg v 0) (s 3) (s 4) (vg v 1) (vg v 2) w K)] [] (zg [0,1,2,3,4] [t0,t1,t2,t3,t4]) w K
theorem yT:qD t0 t1 t2 t3 t4 w k0->Calls ah 195 #[t0,t1,t2,t3,t4] w k0:=cz [(19,[1,13,14])] [] func195
def pJ(t0 t1 t7 t8 w)(N1:JT)(K:KT):=nz f128 95 [N1] [nh 13 [7,8]] [] (zg [0,1,7,8] [t0,t1,t7,t8]) w K
def tC(t0 t1 w)(K:KT):=nz f128 1 [] [(13,[7,8],λs v j w f=>pJ (s 0) (s 1) (vg v 0) (vg v 1) w (f 0) K)] [] (zg [0,1] [t0,t1]) w K
theorem B2:tC t0 t1 w k0->Calls ah 128 #[t0,t1] w k0:=cz [] [(6,[7,8])] func128
end
section
open Eng Go.RowKit
theorem Xj {R:ao->Prop}(h:RetM P f args M w (λv _=>R v)):Ret P f args w (λv w'=>R v∧Below w.heap.size w w'):=Ret.mono h λv w' ⟨N,g,r⟩=>⟨r,g.below⟩
theorem anI (a b:Nat):((a:Nat):Int).tdiv ((b:Nat):Int)=((a / b:Nat):Int):=rfl
theorem abH (a b:Nat):((a:Nat):Int).tmod ((b:Nat):Int)=((a % b:Nat):Int):=rfl
theorem GX {n:Nat}(h:n<=1000000000):IntKind.u64.wrap (n:Int)=(n:Int):=by unfold IntKind.wrap;simp[IntKind.bits,IntKind.signed];omega
theorem shl1 {n:Nat}(hn:n<=62):IntKind.wrap .i64 (1*2 ^ (min ((n:Nat):Int).toNat IntKind.i64.bits))=((2 ^ n:Nat):Int):=by
 have hp:2 ^ n<=2 ^ 62:=apJ dc hn;have h62:(2:Nat) ^ 62=4611686018427387904:=dc
 rw[show min ((n:Nat):Int).toNat IntKind.i64.bits=n by show min ((n:Nat):Int).toNat 64=n;omega,show (1:Int)*2 ^ n=((2 ^ n:Nat):Int) by push_cast;omega];generalize 2 ^ n=q at hp;exact aA om om
theorem JC (n:Nat)(w:ak)(hn:n<=62):Ret ah 276 #[.int .i64 (n:Int)] w (λv w'=>v=.int .i64 ((2 ^ n:Nat):Int)∧w=w'):=by
 refine aK λK hK=>As ?_;unfold rA nz;refine aC (aO krx arW) |>.mpr ?_;rw[GX om,wC om,shl1 hn];exact hK _ _ ⟨rfl,rfl⟩
theorem Si (s:List UInt8)(p:Nat)(w:ak)(hp:p<=1000000000000)(hs:s.length<=1000000000):Ret ah 241 #[.string ⟨s.toArray⟩,.int .i64 (p:Int)] w (λv w'=>v=.int .i64 (if p < 8*s.length then ((Fl.bit s p:Nat):Int) else -1)∧Below w.heap.size w w'):=by
 refine aK λK hK=>BA ?_;unfold tD nz;simp only[rs,show ai ((p:Int) < 0)=aq from anY om];rw[Ao dc,show ((p:Nat):Int).tdiv 8=((p / 8:Nat):Int) from rfl,aA om om]
 try simp only[rs]
 rw[cL aoD]
 try simp only[rs]
 by_cases h:p < 8*s.length
 ·simp only[show ai ((s.length:Int)<=((p / 8:Nat):Int))=aq from anY om,rs];rw[anX h] at hK;refine quiet ?_;have hc:s[p / 8]?=aw (s.getD (p / 8) 0):=by
   rw[aoE,aoI om];rfl
  refine YX dc ?_;rw[show ((p:Nat):Int).tdiv 8=((p / 8:Nat):Int) from rfl,aA om om];refine q_ix (c:=s.getD (p / 8) 0) aoD om (by rw[aoF];exact hc) ?_;refine q_do _ (λ_=>aO krx apH) (YG dc ?_);rw[show ((p:Nat):Int).tmod 8=((p % 8:Nat):Int) from rfl];refine kS (.int .i64 ((2 ^ (p % 8):Nat):Int)) (λW h=>(JC (p % 8) W om).mono λv w' ⟨h1,h2⟩=>⟨h1,h2▸h⟩) ?_;have hb:=apT (s.getD (p / 8) 0);have h2:0 < 2 ^ (p % 8):=atP _;rw[show IntKind.i64.wrap ((s.getD (p / 8) 0).toNat:Int)=((s.getD (p / 8) 0).toNat:Int) from aA om om];refine YX om ?_;rw[anI];have hd:(s.getD (p / 8) 0).toNat / 2 ^ (p % 8)<=(s.getD (p / 8) 0).toNat:=arY _ _;have hbe:Fl.bit s p=(s.getD (p / 8) 0).toNat / 2 ^ (p % 8) % 2:=rfl;generalize (s.getD (p / 8) 0).toNat / 2 ^ (p % 8)=q at hd hbe ⊢;rw[aA om om];refine YG dc ?_;rw[show ((q:Nat):Int).tmod 2=((q % 2:Nat):Int) from rfl,<-hbe];intro w2 hw;exact hK _ _ ⟨rfl,hw⟩
 ·simp only[show ai ((s.length:Int)<=((p / 8:Nat):Int))=au from anZ om,rs];rw[anW h] at hK;exact hK _ _ ⟨rfl,Below.refl _ _⟩
def nmT (x:Nat×Nat×Int):Value:=.tuple #[.int .i64 (x.1:Int),.int .i64 (x.2.1:Int),.int .i64 x.2.2]
theorem Ng (s:List UInt8)(p n:Nat)(w:ak)(hp:p<=8*s.length)(hn:n<=32)(hs:s.length<=1000000000):Ret ah 194 #[.string ⟨s.toArray⟩,.int .i64 (p:Int),.int .i64 (n:Int)] w (λv w'=>v=nmT (Fl.numE s p n)∧Below w.heap.size w w'):=by
 refine aK λK hK=>vR ?_;unfold oA nz;have ho:OwnS NoB w w []:=Own.start w;refine loop (λvs W=>∃i:Nat,vs=[.int .i64 (Fl.num s p i:Int),.int .i64 (i:Int)]∧i<=n∧p+i<=8*s.length∧OwnS NoB w W []) (λvs _=>n - n1 vs) ⟨0,rfl,om,om,ho⟩ ?_;clear ho;rintro vs w1 ⟨i,rfl,hi,hpi,ho⟩ _;simp only[kQ,gd,rs,nz];by_cases hlt:(i:Int) < (n:Int)
 ·simp only[hlt,aoA,i_t];rw[aA om om,show (p:Int)+(i:Int)=((p+i:Nat):Int) by omega];refine aH ho (Si s (p+i) w1 om hs) ?_;rintro _ w2 rfl ho;by_cases hb:p+i < 8*s.length
  ·rw[anX hb];have hb2:=Fl.Py s (p+i);simp only[rs,show ai (((Fl.bit s (p+i):Nat):Int) < 0)=aq from anY om];refine aC (aO krx arW) |>.mpr ?_;have hpw:2 ^ i<=2 ^ 32:=apJ dc om;have h32:(2:Nat) ^ 32=4294967296:=dc
   have hnl:=Fl.iQ s p i;have hbm:Fl.bit s (p+i)*2 ^ i<=1*2 ^ i:=apQ _ om;rw[GX om,wC om,show min ((i:Nat):Int).toNat IntKind.i64.bits=i by show min ((i:Nat):Int).toNat 64=i;omega,
    show ((Fl.bit s (p+i):Nat):Int)*2 ^ i=((Fl.bit s (p+i)*2 ^ i:Nat):Int) by push_cast;rfl,aA om om]
   try simp only[rs]
   rw[aA om om,aA om om];refine aQ ⟨i+1,?_,om,om,ho⟩ (by simp[n1,RowKit.intOf];omega);rw[Fl.num]
   push_cast
   rfl
  ·rw[anW hb];simp only[rs,show ai ((-1:Int) < 0)=au from rfl];refine hK _ _ ⟨?_,ho.done⟩;unfold Fl.numE;rw[anW om];rfl
 ·simp only[hlt,aoB,i_f];have:i=n:=om
  subst this;rw[aA om om];refine hK _ _ ⟨?_,ho.done⟩;unfold Fl.numE;rw[anX om];unfold nmT
  push_cast
  rfl
theorem D0 (l:List Nat)(x:Nat):jl (l++[x])=jl l+(if x=0 then 0 else 1):=by
 unfold jl;rw[auU,aoC];by_cases h:x=0<;>simp[h]
theorem E0 (l:List Nat)(x:Nat):dr (l++[x])=dr l+(if x=0 then 0 else 2 ^ (15 - x)):=by
 unfold dr;rw[apX,avJ];simp
theorem qx:∀(l:List Nat),dr l<=l.length*32768
|[]=>by simp[dr]
|x::l=>by
  have ih:=qx l;unfold dr at ih ⊢;rw[aqL,asO,apB,aqX];have:(if x=0 then 0 else 2 ^ (15 - x))<=32768:=by
   split
   ·omega
   ·have:2 ^ (15 - x)<=2 ^ 15:=apJ dc om;simpa using this
  omega
theorem F0 (l:List Nat):jl l<=l.length:=auT _ _
theorem Cx (h:i < l.length):l.take (i+1)=l.take i++[l[i]]:=apG h
theorem Vo (lens:List Nat)(v:ao)(M:Mem)(w:ak)(hl:lens.length<=100000)(hM:M.has w)(hs:SlA M.A M.w v 1 lens.length (aM lens)) :
  RetM ah 278 #[v] M w (λr _=>r=.int .i64 (jl lens:Int)):=by
 refine aU hM λK hK=>Ak ?_;unfold sA nz;have ho:OwnS M.A w w [.mem M]:=OwnS.memS hM;refine loop (λvs W=>∃i:Nat,vs=[.int .i64 (jl (lens.take i):Int),.int .i64 (i:Int)]∧i<=lens.length∧OwnS M.A w W [.mem M]) (λvs _=>lens.length - n1 vs) ⟨0,rfl,om,ho⟩ ?_;clear ho;rintro vs w1 ⟨i,rfl,hi,ho⟩ _;simp only[oN,gd,nz];rw[bB aoQ (hs.now (ho.hasM 0 rfl))]
 try simp only[rs]
 by_cases hlt:(i:Int) < (lens.length:Int)
 ·simp only[hlt,aoA,i_t];have hi':i < lens.length:=om
  refine join λJ hJ=>?_;obtain⟨b2,off,r1,r2⟩:=eX (hs.now (ho.hasM 0 rfl)) hi';refine aC (r1 w1) |>.mpr (aC (aB bP r2) |>.mpr ?_);have hul:=F0 (lens.take i);rw[aoH] at hul;have fin:J [.int .i64 (jl (lens.take (i+1)):Int)] w1:=by
   refine hJ _ _ λ_=>?_;simp only[nO,gd,rs,nz];rw[aA om om];exact aQ ⟨i+1,rfl,om,ho⟩ (by simp[n1,RowKit.intOf];omega)
  rw[Cx hi',D0] at fin
  try simp only[rs]
  by_cases h0:lens[i]=0
  ·rw[anX h0,apO] at fin;simp only[show ai (((lens[i]:Nat):Int)≠0)=aq from anY om,i_f];exact fin
  ·rw[anW h0] at fin;simp only[show ai (((lens[i]:Nat):Int)≠0)=au from anZ om,i_t];rw[aA om om];exact fin
 ·simp only[hlt,aoB,i_f];have:i=lens.length:=om
  subst this;rw[aqJ];exact hK _ _ M _ 0 ho rfl M.le_refl rfl
theorem BR (lens:List Nat)(v:ao)(M:Mem)(w:ak)(h15:∀l∈lens,l<=15)(hl:lens.length<=100000)(hM:M.has w)(hs:SlA M.A M.w v 1 lens.length (aM lens)) :
  RetM ah 245 #[v] M w (λr _=>r=.int .i64 (az lens)):=by
 refine aU hM λK hK=>yP ?_;unfold pI nz;have ho:OwnS M.A w w [.mem M]:=OwnS.memS hM;rw[bB aoQ (hs.now hM)]
 try simp only[rs]
 by_cases h288:(288:Int) < (lens.length:Int)
 ·simp only[h288,aoA,i_t];exact hK _ _ M _ 0 ho rfl M.le_refl (by unfold az;rw[anX om])
 have hc:az lens=Fl.check lens:=by unfold az;rw[anW om]
 simp only[h288,aoB,i_f];refine loop (λvs W=>∃i:Nat,vs=[.int .i64 (dr (lens.take i):Int),.int .i64 (Fl.fU (lens.take i):Int),.int .i64 (i:Int)]∧i<=lens.length∧OwnS M.A w W [.mem M]) (λvs _=>lens.length - n2 vs) ⟨0,rfl,om,ho⟩ ?_;clear ho;rintro vs w1 ⟨i,rfl,hi,ho⟩ _;simp only[mF,gd,nz];rw[bB aoQ (hs.now (ho.hasM 0 rfl))]
 try simp only[rs]
 by_cases hlt:(i:Int) < (lens.length:Int)
 ·simp only[hlt,aoA,i_t];have hi':i < lens.length:=om
  have hl15:=h15 _ (aoR hi');refine join λJ hJ=>?_;obtain⟨b2,off,r1,r2⟩:=eX (hs.now (ho.hasM 0 rfl)) hi';refine aC (r1 w1) |>.mpr (aC (aB bP r2) |>.mpr ?_);simp only[rs,show ai (((lens[i]:Nat):Int) < 0)=aq from anY om];refine aC (r1 w1) |>.mpr (aC (aB bP r2) |>.mpr ?_);simp only[rs,show ai ((15:Int) < ((lens[i]:Nat):Int))=aq from anY om];refine aC (r1 w1) |>.mpr (aC (aB bP r2) |>.mpr ?_);have hkl:=qx (lens.take i);rw[aoH] at hkl;have hkm:min i lens.length*32768<=100000*32768:=apQ _ om;have fin:∀W,OwnS M.A w W [.mem M]->J [.int .i64 (dr (lens.take (i+1)):Int),.int .i64 (Fl.fU (lens.take (i+1)):Int)] W:=by
   intro W ho;refine hJ _ _ λ_=>?_;simp only[mD,gd,rs,nz];rw[aA om om];exact aQ ⟨i+1,rfl,om,ho⟩ (by simp[n2,RowKit.intOf];omega)
  rw[Cx hi',E0,tx] at fin
  try simp only[rs]
  by_cases h0:lens[i]=0
  ·rw[anX h0,apO,h0,Nat.max_zero] at fin;simp only[show ai ((0:Int) < ((lens[i]:Nat):Int))=aq from anY om,i_f];exact fin w1 ho
  ·rw[anW h0] at fin;simp only[show ai ((0:Int) < ((lens[i]:Nat):Int))=au from anZ om,i_t];refine aC (r1 w1) |>.mpr (aC (aB bP r2) |>.mpr ?_)
   try simp only[rs]
   rw[aA om om,show (15:Int) - ((lens[i]:Nat):Int)=((15 - lens[i]:Nat):Int) by omega];refine aH ho (R:=λr=>r=.int .i64 ((2 ^ (15 - lens[i]):Nat):Int)) ((JC (15 - lens[i]) w1 om).mono λv w' ⟨h1,h2⟩=>⟨h1,h2▸Below.refl _ _⟩) ?_;rintro _ w2 rfl ho;have hp2:2 ^ (15 - lens[i])<=2 ^ 15:=apJ dc om;have h215:(2:Nat) ^ 15=32768:=dc
   generalize 2 ^ (15 - lens[i])=pw at hp2 fin ⊢
   try simp only[rs]
   rw[aA om om];obtain⟨b3,off3,r3,r4⟩:=eX (hs.now (ho.hasM 0 rfl)) hi';refine aC (r3 w2) |>.mpr (aC (aB bP r4) |>.mpr ?_);rw[sB];have:=fin w2 ho;rw[show max ((Fl.fU (lens.take i):Nat):Int) ((lens[i]:Nat):Int)=((max (Fl.fU (lens.take i)) lens[i]:Nat):Int) by omega];rw[show ((dr (lens.take i):Nat):Int)+(pw:Int)=((dr (lens.take i)+pw:Nat):Int) by omega];exact this
 ·simp only[hlt,aoB,i_f];have:i=lens.length:=om
  subst this;rw[aqJ];have hkl:=qx lens;refine aH ho (R:=λr=>r=.int .i64 ((2 ^ 15:Nat):Int)) ((JC 15 w1 om).mono λv w' ⟨h1,h2⟩=>⟨h1,h2▸Below.refl _ _⟩) ?_;rintro _ w2 rfl ho;have hcr:=B0 h15;rw[<-hc] at hcr;have h215:((2 ^ 15:Nat):Int)=32768:=dc
  rw[h215]
  try simp only[rs]
  by_cases k1:dr lens=32768
  ·rw[anX (.inl k1)] at hcr;simp only[show ai (((dr lens:Nat):Int)=32768)=au from anZ om,rs,g_un];exact hK _ _ M _ 0 ho rfl M.le_refl (by rw[hcr])
  simp only[show ai (((dr lens:Nat):Int)=32768)=aq from anY om,rs,g_un];by_cases k2:dr lens=0
  ·rw[anX (.inr (.inl k2))] at hcr;simp only[show ai (((dr lens:Nat):Int)=0)=au from anZ om,rs,g_un];exact hK _ _ M _ 0 ho rfl M.le_refl (by rw[hcr])
  simp only[show ai (((dr lens:Nat):Int)=0)=aq from anY om,rs,g_un];refine bI ho 0 rfl (Vo lens v M w2 hl (ho.hasM 0 rfl) hs) ?_;rintro _ N w3 hle rfl ho
  try simp only[rs]
  by_cases k3:jl lens=1
  ·simp only[show ai (((jl lens:Nat):Int)=1)=au from anZ om,rs];by_cases k4:Fl.fU lens=1
   ·rw[anX (.inr (.inr ⟨k3,k4⟩))] at hcr;simp only[show ai (((Fl.fU lens:Nat):Int)=1)=au from anZ om,rs];exact hK _ _ N _ 0 ho rfl hle (by rw[hcr])
   ·rw[anW om] at hcr;simp only[show ai (((Fl.fU lens:Nat):Int)=1)=aq from anY om,rs];exact hK _ _ N _ 0 ho rfl hle (by rw[hcr])
  ·rw[anW om] at hcr;simp only[show ai (((jl lens:Nat):Int)=1)=aq from anY om,rs];exact hK _ _ N _ 0 ho rfl hle (by rw[hcr])
theorem OG (lens:List Nat)(n k:Nat)(v:ao)(M:Mem)(w:ak)(hl:lens.length<=100000)(hk:k<=1000000)(hM:M.has w)(hs:SlA M.A M.w v 1 lens.length (aM lens)) :
  RetM ah 309 #[v,.int .i64 (n:Int),.int .i64 (k:Int)] M w (λr _=>r=.int .i64 (Fl.place lens n k:Int)):=by
 refine aU hM λK hK=>xZ ?_;generalize hR:Fl.place lens n k=R at hK;unfold pM nz;have ho:OwnS M.A w w [.mem M]:=OwnS.memS hM;refine loop (λvs W=>∃(i k:Nat),vs=[.int .i64 (k:Int),.int .i64 (i:Int)]∧i<=lens.length∧k<=1000000∧Fl.Fk n i (lens.drop i) k=R∧OwnS M.A w W [.mem M]) (λvs _=>lens.length - n1 vs) ⟨0,k,rfl,om,hk,hR,ho⟩ ?_;clear ho hR hk;rintro vs w1 ⟨i,k,rfl,hi,hk,hR,ho⟩ _;simp only[lE,gd,nz];rw[bB aoQ (hs.now (ho.hasM 0 rfl))]
 try simp only[rs]
 by_cases hlt:(i:Int) < (lens.length:Int)
 ·simp only[hlt,aoA,i_t];have hi':i < lens.length:=om
  refine join λJ hJ=>?_;obtain⟨b2,off,r1,r2⟩:=eX (hs.now (ho.hasM 0 rfl)) hi';refine aC (r1 w1) |>.mpr (aC (aB bP r2) |>.mpr ?_);rw[apV hi'] at hR;unfold Fl.Fk at hR;have fin:∀k':Nat,k'<=1000000->Fl.Fk n (i+1) (lens.drop (i+1)) k'=R->J [.int .i64 (k':Int)] w1:=by
   intro k' hk' hR';refine hJ _ _ λ_=>?_;simp only[mR,gd,rs,nz];rw[aA om om];exact aQ ⟨i+1,k',rfl,om,hk',hR',ho⟩ (by simp[n1,RowKit.intOf];omega)
  try simp only[rs]
  by_cases he:lens[i]=n
  ·rw[anX he] at hR;simp only[show ai (((lens[i]:Nat):Int)=(n:Int))=au from anZ om,i_t,rs];cases k with
  |zero=>
    simp only[show ai (((0:Nat):Int)=0)=au from rfl,i_t];dsimp only at hR;subst hR;exact hK _ _ M _ 0 ho rfl M.le_refl rfl
  |succ k=>
    simp only[show ai (((k+1:Nat):Int)=0)=aq from anY om,i_f];rw[aA om om,show ((k+1:Nat):Int) - 1=(k:Int) by omega];exact fin k om hR
  ·rw[anW he] at hR;simp only[show ai (((lens[i]:Nat):Int)=(n:Int))=aq from anY om,i_f];exact fin k hk hR
 ·simp only[hlt,aoB,i_f];rw[apR om] at hR;have hR:0=R:=hR;subst hR;exact hK _ _ M _ 0 ho rfl M.le_refl rfl
abbrev n6T:TypeId:=318
abbrev n6E (b:Nat)(f:Nat->Int):Ent:=.cells b (nsC f) n6T
theorem I4 (hi:i < 16):(mIA n6T (.pointer (aw ⟨b,0,av⟩)) (.int .i64 (i:Int))).run ah W=.ok (.value (.pointer (aw ⟨b,i,av⟩))) W:=by
 rcases lt16 hi with rfl|rfl|rfl|rfl|rfl|rfl|rfl|rfl|rfl|rfl|rfl|rfl|rfl|rfl|rfl|rfl<;>kernel_rfl
def ib (lens:List Nat)(l:Nat):Nat:=if l=0 then 0 else Fl.first lens l+lens.count l
theorem G0 (lens:List Nat)(l:Nat):Fl.first lens (l+1)=2*ib lens l:=by
 unfold ib;cases l with
|zero=>rfl
|succ l=>rw[anW om,Fl.first]
theorem Ja (lens:List Nat)(v:ao)(s:List UInt8)(p:Nat)(M:Mem)(w:ak)(h15:∀l∈lens,l<=15)(hl:lens.length<=1000)(hp:p<=8*s.length)(hsl:s.length<=1000000000)(hM:M.has w)(hs:SlA M.A M.w v 1 lens.length (aM lens)) :
  RetM ah 279 #[v,.string ⟨s.toArray⟩,.int .i64 (p:Int)] M w (λr _=>∃a b:Nat,r=nmT (a,b,(cj lens s p).2.2)∧b<=8*s.length∧((cj lens s p).2.2=0->a=(cj lens s p).1∧b=(cj lens s p).2.1)):=by
 refine aU hM λK hK=>Ai ?_;generalize hR:cj lens s p=R at hK;unfold cj at hR;unfold rK nz;refine bD (λb=>.pointer (aw ⟨b,0,av⟩)) (nsC λ_=>0) n6T (λ_=>by kernel_rfl) (OwnS.memS hM) λb1 w1 ho=>?_;have hz:(λ_=>0:Nat->Int)=λm=>(((lens.take 0).count m:Nat):Int):=by funext m;simp
 rw[hz] at ho;refine loop (λvs W=>∃i:Nat,vs=[.int .i64 (Fl.fU (lens.take i):Int),.int .i64 (i:Int)]∧i<=lens.length∧OwnS M.A w W [n6E b1 (λm=>(((lens.take i).count m:Nat):Int)),.mem M]) (λvs _=>lens.length - n1 vs) ⟨0,rfl,om,ho⟩ ?_;clear ho hz;rintro vs w2 ⟨i,rfl,hi,ho⟩ _;simp only[nS,gd,nz];rw[bB aoQ (hs.now (ho.hasM 1 rfl))]
 try simp only[rs]
 by_cases hlt:(i:Int) < (lens.length:Int)
 ·simp only[hlt,aoA,i_t];have hi':i < lens.length:=om
  have hl15:=h15 _ (aoR hi');obtain⟨b2,off,r1,r2⟩:=eX (hs.now (ho.hasM 1 rfl)) hi';refine aC (r1 w2) |>.mpr (aC (aB bP r2) |>.mpr ?_);have hcb:(lens.take i).count lens[i]<=1000:=by
   have:=asK (a:=lens[i]) (l:=lens.take i);rw[aoH] at this;omega
  refine aC (I4 om) |>.mpr ?_;rw[aS bP (ho.cell 0 rfl lens[i] (BI _ om))]
  try simp only[rs]
  rw[aA om om];refine aC (I4 om) |>.mpr ?_;refine aN 0 ho rfl krx rfl (by show lens[i] < 16;omega) λw3 ho=>?_;rw[UK _ _ om] at ho;have ho:OwnS M.A w w3 [n6E b1 (λm=>(((lens.take (i+1)).count m:Nat):Int)),.mem M]:=by
   have e:(λm=>if m=lens[i] then (((lens.take i).count lens[i]:Nat):Int)+1 else (((lens.take i).count m:Nat):Int))=λm=>(((lens.take (i+1)).count m:Nat):Int):=by
    funext m
    rw[Cx hi',asC];by_cases h:m=lens[i]
    ·rw[anX h,h];simp
    ·rw[anW h];have:[lens[i]].count m=0:=by rw[List.count_eq_zero];simpa using h
     omega
   rw[<-e];exact ho
  obtain⟨b3,off3,r3,r4⟩:=eX (hs.now (ho.hasM 1 rfl)) hi';refine aC (r3 w3) |>.mpr (aC (aB bP r4) |>.mpr ?_);rw[sB]
  try simp only[rs]
  rw[aA om om];refine aQ ⟨i+1,?_,om,ho⟩ (by simp[n1,RowKit.intOf];omega);rw[Cx hi',tx]
  congr 2
  omega
 simp only[hlt,aoB,i_f];have:i=lens.length:=om
 subst this;rw[aqJ] at ho ⊢;have hcnt:∀m,lens.count m<=1000:=λm=>aqQ asK hl;have hlg:Fl.fU lens<=15:=ua.2 h15;refine loop (λvs W=>∃(l q code:Nat),vs=[.int .i64 (q:Int),.int .i64 (code:Int),.int .i64 (ib lens l:Int),.int .i64 ((l+1:Nat):Int)]∧l<=15∧q<=8*s.length∧ib lens l<=code∧code < 2 ^ l∧ig lens s (16 - l) l q code=R∧OwnS M.A w W [n6E b1 (λm=>((lens.count m:Nat):Int)),.mem M]) (λvs _=>16 - (RowKit.intOf (vs.getD 3 undef)).toNat) ⟨0,p,0,rfl,om,hp,by simp[ib],sm,hR,ho⟩ ?_;clear ho hR hi hlt;rintro vs w3 ⟨l,q,code,rfl,hl15,hq,hfc,hc2,hR,ho⟩ _;simp only[oG,gd,rs,nz];obtain⟨f,hf⟩:∃f,16 - l=f+1:=⟨15 - l,om⟩;rw[hf] at hR;unfold ig at hR;have hlu:=qv (lens:=lens) (m:=l) hl15 h15;by_cases hlo:((l+1:Nat):Int)<=((Fl.fU lens:Nat):Int)
 case neg=>
  simp only[hlo,aoB,i_f];rw[anX (hlu.2 om)] at hR;subst hR;exact hK _ _ M _ 1 ho rfl M.le_refl ⟨0,q,rfl,hq,λh=>absurd h (by dsimp only;decide)⟩
 simp only[hlo,aoA,i_t];rw[anW (by rw[hlu];omega)] at hR;refine aH ho (Si s q w3 om hsl) ?_;rintro _ w4 rfl ho;by_cases hb:q < 8*s.length
 case neg=>
  rw[anW hb];rw[anX om] at hR;subst hR;simp only[rs,show ai ((-1:Int) < 0)=au from rfl];exact hK _ _ M _ 1 ho rfl M.le_refl ⟨0,q,rfl,hq,λh=>absurd h (by dsimp only;decide)⟩
 rw[anX hb];rw[anW om] at hR;have hbt:=Fl.Py s q;have hp15:2 ^ l<=2 ^ 15:=apJ dc hl15;have h215:(2:Nat) ^ 15=32768:=dc
 have hfn:=G0 lens l;have hcl:=hcnt (l+1);simp only[rs,show ai (((Fl.bit s q:Nat):Int) < 0)=aq from anY om];have hl2:code < 32768:=om
 rw[aA (n:=(q:Int)+1) om om,aA (n:=2*(code:Int)) om om,aA (n:=2*((ib lens l:Nat):Int)) om om,aA (n:=2*(code:Int)+((Fl.bit s q:Nat):Int)) om om,aA (n:=2*(code:Int)+((Fl.bit s q:Nat):Int) - 2*((ib lens l:Nat):Int)) om om];refine aC (I4 om) |>.mpr ?_;rw[aS bP (ho.cell 0 rfl (l+1) (BI _ om))]
 try simp only[rs]
 by_cases hk:2*code+Fl.bit s q < Fl.first lens (l+1)+lens.count (l+1)
 ·rw[anX hk] at hR;simp only[show ai ((2*(code:Int)+((Fl.bit s q:Nat):Int)) - 2*((ib lens l:Nat):Int) < ((lens.count (l+1):Nat):Int))=au from anZ om,i_t];rw[show (2*(code:Int)+((Fl.bit s q:Nat):Int)) - 2*((ib lens l:Nat):Int)=((2*code+Fl.bit s q - Fl.first lens (l+1):Nat):Int) by omega];refine bI ho 1 rfl (OG lens (l+1) (2*code+Fl.bit s q - Fl.first lens (l+1)) v M w4 om om (ho.hasM 1 rfl) hs) ?_;rintro _ N w5 hle rfl ho;subst hR;refine hK _ _ N _ 1 ho rfl hle ⟨Fl.place lens (l+1) (2*code+Fl.bit s q - Fl.first lens (l+1)),q+1,rfl,om,λ_=>⟨?_,rfl⟩⟩;rw[C0,<-uf om om]
 ·rw[anW hk] at hR;simp only[show ai ((2*(code:Int)+((Fl.bit s q:Nat):Int)) - 2*((ib lens l:Nat):Int) < ((lens.count (l+1):Nat):Int))=aq from anY om,i_f];refine aC (I4 om) |>.mpr ?_;rw[aS bP (ho.cell 0 rfl (l+1) (BI _ om))]
  try simp only[rs]
  rw[aA om om,aA om om];have e2:ib lens (l+1)=Fl.first lens (l+1)+lens.count (l+1):=by unfold ib;rw[anW om]
  refine aQ ⟨l+1,q+1,2*code+Fl.bit s q,?_,om,om,om,by rw[aqS];omega,by rw[show 16 - (l+1)=f by omega];exact hR,ho⟩ (by simp[RowKit.intOf];omega);rw[e2,hfn]
  push_cast
  rfl
end
section
open Eng Go.RowKit
def cm (s:List UInt8)(most p:Nat)(out:List UInt8):List UInt8×Nat×Int:=
 let a:=(p+7) / 8*8
 if 8*s.length < a+16 then (out,p,4)
 else if 8*s.length < a+32 then (out,p,4)
 else if Fl.num s a 16+Fl.num s (a+16) 16≠65535 then (out,p,3)
 else if most < out.length+Fl.num s a 16 then (out,p,5)
 else if 8*s.length < a+32+8*Fl.num s a 16 then (out,p,4)
 else (out++(s.drop (a / 8+4)).take (Fl.num s a 16),a+32+8*Fl.num s a 16,0)
theorem cQ {a b:List UInt8}:outR v (a++b)=.urow 5 1 v (a.length+b.length) (aG a++aG b):=by
 unfold outR aG;rw[aoC,apX]
theorem Rg {ov:ao}{most:Int}(h:(flE b rb ov most).is W):(aJ 275 (.pointer (aw ⟨b,0,av⟩))).run ah W=.ok (.value (.pointer (aw ⟨rb,0,av⟩))) W:=aB aaH (aI (T:=278) (cs:=flC rb ov most) h rfl)
theorem z8U:(Tryz.prog.info? 5).bind (·.zero)=aw (.int .u8 0):=krx
section
variable {w:ak}{PK:PKT}{K:VWP}{S:Nat->Prop}{w0:ak}
theorem Zo {ov:ao}{s:List UInt8}{out:List UInt8}(ho:OwnS S w0 w (Fs fb rb s most ov way p out R))(hw:way=0∨way=1)(hp:p<=8*s.length)(hs:s.length<=1000000000)(hmo:most<=1000000000)(hol:out.length<=most)
  (k1:(cm s most p out).2.2=0->(cm s most p out).2.1<=8*s.length->(cm s most p out).1.length<=most->∀way' ov' W,(way'=0∨way'=1)->OwnS S w0 W (Fs fb rb s most ov' way' (cm s most p out).2.1 (cm s most p out).1 R)->K (.tuple #[]) W)
  (k2:(cm s most p out).2.2≠0->∀ov' way' p' out' W,OwnS S w0 W (Fs fb rb s most ov' way' p' out' R)->PK [upI (cm s most p out).2.2] W) :
  CallX ah 306 #[.pointer (aw ⟨fb,0,av⟩)] w PK K:=by
 generalize hX:cm s most p out=X at k1 k2;refine⟨vC ?_⟩;unfold lM iN ldx bnx fax nlx eqx cx;unfold cm at hX;dsimp only at hX;rw[aY,NI,UF ho 0 rfl];refine adU 1 ho rfl hp hs λW1 ho=>?_;have ho:OwnS S w0 W1 (Fs fb rb s most ov 0 ((p+7) / 8*8) out R):=ho;have ha8:(p+7) / 8*8 % 8=0:=om
 have hal:(p+7) / 8*8<=8*s.length:=om
 generalize (p+7) / 8*8=a at hX ho ha8 hal;refine rE (n:=16) 0 1 ho rfl rfl (.inl rfl) hal om hs (λh1 W2 ho=>?_) (λh1 W2 ho=>?_)
 rotate_left
 ·rw[anX h1] at hX;subst hX;exact k2 (by dsimp only;decide) _ _ _ _ _ ho
 rw[anW om] at hX;have ho:OwnS S w0 W2 (Fs fb rb s most ov 1 (a+16) out R):=ho;refine rE (n:=16) 0 1 ho rfl rfl (.inr rfl) h1 om hs (λh2 W3 ho=>?_) (λh2 W3 ho=>?_)
 rotate_left
 ·rw[anX om] at hX;subst hX;exact k2 (by dsimp only;decide) _ _ _ _ _ ho
 rw[anW om] at hX;have ho:OwnS S w0 W3 (Fs fb rb s most ov 1 (a+16+16) out R):=ho;have hn1:=Fl.iQ s a 16;have hn2:=Fl.iQ s (a+16) 16;have h16:(2:Nat) ^ 16=65536:=dc
 simp only[rs];rw[aA om om];refine jE (λh3=>?_) (λh3=>?_)
 rotate_left
 ·have:=apM h3;rw[anX om] at hX;subst hX;exact k2 (by dsimp only;decide) _ _ _ _ _ ho
 have h3:=aoU h3;rw[anW om] at hX;generalize Fl.num s a 16=n at hX hn1 h3;refine VL (n:=n) 0 2 ho rfl rfl om om om (λh7 W4 ho=>?_) (λh7 W4 ho=>?_)
 rotate_left
 ·rw[anX om] at hX;subst hX;exact k2 (by dsimp only;decide) _ _ _ _ _ ho
 rw[anW om] at hX;have ho:=ho.drew;refine⟨λW=>(flE fb rb ov most).is W,ho.at_ 0 rfl,?_⟩;refine aL _ (λ_=>cN) (aL _ (λ_=>bH AY) (sL _ (λW h=>Je h) ?_));refine aL _ (λ_=>cN) (aL _ (λ_=>bH UD) (sL _ (λW h=>Rg h) ?_));refine akX (n:=n) 1 ho rfl om om om hs (λh5 W5 ho=>?_) (λh5 W5 ho=>?_)
 rotate_left
 ·rw[anX om] at hX;subst hX;refine⟨ho.at_ 0 rfl,?_⟩;refine LS (GA ?_);refine Sm (s:=[]) (λh=>absurd h dc) λ_=>?_
  repeat intro _
  exact k2 (by dsimp only;decide) _ _ _ _ _ ho
 rw[anW om] at hX;have ho:OwnS S w0 W5 (Fs fb rb s most ov 1 (a+16+16+8*n) out R):=ho;refine⟨ho.at_ 0 rfl,?_⟩;refine LS (GA ?_);refine Sm (λ_=>?_) λh=>absurd rfl h;refine⟨ho.at_ 0 rfl,?_⟩;have hln:((s.drop ((a+16+16) / 8)).take n).length=n:=by rw[aoH,aoJ];omega
 refine CD 2 aoK aoD elU8 aoP z8U ho rfl (by rw[hln];omega) λv' w9 ho=>?_;have hov:v'.oneCell'=true:=eF (ho.at_ 2 rfl);refine⟨ho.at_ 0 rfl,?_⟩;refine aL _ (λ_=>cN) (aL _ (λ_=>bH AY) ?_);refine QA 0 hov ho rfl λw10 ho=>?_;have ho:OwnS S w0 w10 (Fs fb rb s most v' 1 (a+16+16+8*n) (out++(s.drop ((a+16+16) / 8)).take n) R):=by
  show OwnS S w0 w10 (flE fb rb v' (most:Int)::bqE rb s 1 (a+16+16+8*n)::outR v' (out++(s.drop ((a+16+16) / 8)).take n)::R);rw[cQ];exact ho
 rw[show (a+16+16) / 8=a / 8+4 by omega] at ho hln;subst hX;exact k1 rfl (by dsimp only;omega) (by dsimp only;rw[aoC,hln];omega) 1 v' w10 (.inr rfl) ho
end
end
section
open Eng Go.RowKit
theorem szI1:(Tryz.prog.info? 3).map (·.size)=aw 1:=krx
theorem yX {l:List α}{n:Nat}{v:α}(h:(l.take n)[j]?=aw v):l[j]?=aw v:=by
 obtain⟨h1,h2⟩:=aoX.1 h;rw[aoH] at h1;rw[aoI om,<-h2,avK]
section
variable {w:ak}{PK:PKT}{K:VWP}{S:Nat->Prop}{w0:ak}{L:List Ent}
theorem VW {b0 k:Nat}{x:ao}(i:Nat)(ho:OwnS S w0 w L)(hi:L[i]?=aw (.cells b0 [x] 3))(hx:x.oneCell'=au)(hk:k<=1000)
  (kk:∀b w',OwnS S w0 w' (.cells b (List.replicate k x) 3::L)->K (.slice (aw ⟨b,0,av⟩) k k) w') :
  CallX ah 320 #[.slice (aw ⟨b0,0,av⟩) 1 1,.int .i64 (k:Int)] w PK K:=by
 refine⟨sO ?_⟩;unfold kO nz;refine join λJ hJ=>?_;rw[adH,anY om,i_f];refine hJ _ _ λ_=>?_;unfold iT nz;rw[bB aoQ (eG (sz:=1) (ho.at_ i hi) dc rfl)];refine aC (aO krx arW) |>.mpr (aC (aO krx arW) |>.mpr ?_);rw[show IntKind.u64.wrap ((1:Nat):Int)=((1:Nat):Int) from rfl,show IntKind.u64.wrap (k:Int)=(k:Int) by unfold IntKind.wrap;simp[IntKind.bits,IntKind.signed];omega];refine eW (Tryz.bits_Mul 1 k dc om w) (λe W ⟨he,hW⟩=>?_);subst he;subst hW;have e0:1*k / 18446744073709551616=0:=om
 have e1:1*k % 18446744073709551616=k:=om
 rw[e0,e1];show Cont _ _ _ _;simp only[Cont,ex];refine join λJ2 hJ2=>?_;simp only[rs,show ai ((0:Int) < ((0:Nat):Int))=aq from rfl,show ai ((9223372036854775807:Int) < (k:Int))=aq from anY om];refine hJ2 _ _ λ_=>?_;unfold iX nz;refine aC (aO krx apH) |>.mpr ?_;rw[show IntKind.i64.wrap (k:Int)=(k:Int) from aA om om];refine yK om ho λg w1 ho=>?_;have hi1:(.cells g (List.replicate k (.int .i64 0)) 3::L)[i+1]?=aw (.cells b0 [x] 3):=hi;have hlr:(List.replicate k (Value.int .i64 0)).length=k:=apC;have hcp:=Kc (P:=ah) (dT:=123) (sT:=123) (ty:=3) (T:=3) (E:=3) (cb:=#[aq,aq]) (g:=g) (o:=0) (dLen:=k) (dCap:=k) (sz:=1) (a:=⟨b0,0,av⟩) (sLen:=1) (sCap:=1) (w:=w1) (cur:=List.replicate k (Value.int .i64 0)) (src:=[x].take (Nat.min 1 k)) aoQ szI1 (ho.at_ 0 rfl) (by rw[aoH,apL];simp) (λj v hj=>by
  have h0:[x][j]?=aw v:=yX hj;rw[cK,aoN];exact aI (T:=3) (ho.at_ (i+1) hi1) h0) (by rw[aoH,apL,hlr];have h2:Nat.min 1 k=min 1 k:=rfl;omega) (by
  intro v hv;have:=aqV hv;rw[aoZ] at this;rw[this];exact hx)
 refine jV hcp ?_;have ho:=gX ho 0 rfl ((List.replicate k (Value.int .i64 0)).take 0++[x].take (Nat.min 1 k)++(List.replicate k (Value.int .i64 0)).drop (0+([x].take (Nat.min 1 k)).length));refine loop (λvs W=>∃(n:Nat) (cur:List ao),vs=[.int .i64 n]∧n<=k∧(n=0->k=0)∧cur.length=k∧cur.take n=List.replicate n x∧OwnS S w0 W (.cells g cur 3::L)) (λvs _=>k - n0 vs) ⟨Nat.min 1 k,_,rfl,atA _ _,?_,?_,?_,ho⟩ ?_
 ·intro h;rcases arF k with h0|h0
  ·exact h0
  ·have:Nat.min 1 k=1:=apI h0;omega
 ·rcases arF k with h0|h0
  ·subst h0;rfl
  ·rw[show Nat.min 1 k=1 from apI h0];simp;omega
 ·rcases arF k with h0|h0
  ·subst h0;rfl
  ·rw[show Nat.min 1 k=1 from apI h0];rfl
 clear ho hcp;rintro vs w2 ⟨n,cur,rfl,hn,hn0,hcl,htk,ho⟩ _;simp only[iZ,gd,bnx,lnx];rw[bB aoQ (Sl.cells (ho.at_ 0 rfl) 1 k k (by rw[hcl,aoS]))];simp only[rs];by_cases hlt:(n:Int) < (k:Int)
 ·simp only[hlt,aoA,i_t];refine cR (λW=>OwnS S w0 W (.cells g cur 3::L)) ho.drew ?_;refine q_do _ (λ_=>dG aoQ szI1 om om) (q_do _ (λ_=>jB aoQ szI1 om om) ?_);intro w3 ho;rw[aoF,fE om,show subA (aw ⟨g,0,av⟩) 0 k 1=aw ⟨g,0,av⟩ from Hq (a:=⟨g,0,av⟩),aoN,aoS];have hcp:=Kc (P:=ah) (dT:=123) (sT:=123) (ty:=3) (T:=3) (E:=3) (cb:=#[aq,aq]) (g:=g) (o:=n) (dLen:=k - n) (dCap:=k - n) (sz:=1) (a:=⟨g,0,av⟩) (sLen:=n) (sCap:=k) (w:=w3) (cur:=cur) (src:=cur.take (Nat.min n (k - n))) aoQ szI1 (ho.at_ 0 rfl) (by
    rw[aoH,hcl,aoS];have h1:=Nat.min_le_left n (k - n);have h2:Nat.min n (k - n)=min n (k - n):=rfl;omega) (λj v hj=>by
   have h0:cur[j]?=aw v:=yX hj;rw[cK,aoN];exact aI (T:=3) (ho.at_ 0 rfl) h0) (by
    rw[aoH,hcl];have h2:Nat.min n (k - n)=min n (k - n):=rfl;omega) (by
   intro v hv;have h3:cur.take (Nat.min n (k - n))=(cur.take n).take (Nat.min n (k - n)):=by
    rw[asR]
    congr 1
    have h2:Nat.min n (k - n)=min n (k - n):=rfl;omega
   rw[h3,htk] at hv;have:=aqZ (aqV hv);rw[this];exact hx)
  refine jV hcp ?_;have ho:=gX ho 0 rfl (cur.take n++cur.take (Nat.min n (k - n))++cur.drop (n+(cur.take (Nat.min n (k - n))).length));have h2:Nat.min n (k - n)=min n (k - n):=rfl;have hm1:1<=Nat.min n (k - n):=om
  have hm2:Nat.min n (k - n)<=k - n:=om
  have hm3:Nat.min n (k - n)<=n:=om
  generalize Nat.min n (k - n)=m at ho hm1 hm2 hm3;rw[show goInt m=.int .i64 (m:Int) from rfl];simp only[rs];rw[aA om om];refine aQ ⟨n+m,_,rfl,om,om,?_,?_,ho⟩ (by simp[n0,RowKit.intOf];omega)
  ·simp only[aoC,aoH,aoJ,hcl];omega
  ·have h3:cur.take m=List.replicate m x:=by
    have:cur.take m=(cur.take n).take m:=by rw[asR];congr 1;omega
    rw[this,htk,List.take_replicate];congr 1;omega
   rw[htk,h3,avE sm,apE sm,List.replicate_append_replicate]
 ·simp only[hlt,aoB,i_f];have:n=k:=om
  subst this;rw[apE om] at htk;subst htk;exact kk g w2 ho
end
end
end Go.Proofs.YtlipjfcbjemicaaGreatDoor

namespace Go.Proofs.YtlipjfcbjemicaaGreatDoor
variable{A:Nat->Prop}{C:ak->Prop}{K:VWP}{L R:List Eng.Ent}{M:Eng.Mem}{P:Program}{PK:PKT}{U U2:TypeId}{W w w' w0:ak}{a e way:Int}{args:Array ao}{b cap f fb h i j m most p rb sz tb:Nat}{c t0 v v' v2:ao}{cb:Array Bool}{cl l near:List Nat}{cs news xs:List ao}{u:FrameMode}{xo yo:Operand}{α:Type}{t0 t1 t2 t3 t4 t5:ao}{k0:Eng.KT}
section
namespace Eng
open Go.RowKit
def intK (k:Int):Value:=.int .i64 k
def RI (w:ak)(b:Nat)(al:List (Int×ao)):Prop:=∃es clock,w.heap[b]?=aw (.map es clock)∧es.toList.map (λe=>(e.key,e.val))=al.map λp=>(intK p.1,p.2)
def yF (al:List (Int×ao))(k:Int):Option Value:=(al.find? λp=>ai (p.1=k)).map (·.2)
theorem Jv (k:Int):∀(es:List MapEntry) (al:List (Int×ao)) (i:Nat),es.map (λe=>(e.key,e.val))=al.map (λp=>(intK p.1,p.2)) ->
  ∃r,Instr.findNow (.int .i64) (intK k) es i=aw r∧r.map (·.2)=yF al k
|[],[],i,_=>⟨av,rfl,rfl⟩
|e::es,p::al,i,h=>by
  simp only[aqL,atJ,asA] at h;obtain⟨⟨h1,h2⟩,h3⟩:=h;have hs:Instr.sameNow (.int .i64) (intK k) e.key=aw (ai (k=p.1)):=by
   rw[h1];show aw (k==p.1)=_
   congr 1
  by_cases hk:k=p.1
  ·refine⟨aw (i,e.val),?_,?_⟩
   ·rw[Instr.findNow,hs];simp[hk]
   ·simp[yF,hk,h2]
  ·obtain⟨r,hr1,hr2⟩:=Jv k es al (i+1) h3;refine⟨r,?_,?_⟩
   ·rw[Instr.findNow,hs];simp[hk,hr1]
   ·have hk':¬p.1=k:=λe=>hk e.symm;rw[hr2];simp[yF,hk']
|[],_::_,_,h=>by simp at h
|_::_,[],_,h=>by simp at h
section
variable {S:Nat->Prop}{P:Program}{w w0:ak}{L:List Ent}{PK:PKT}{K:VWP}
theorem Hw {k:TypeId}{e:Bool}(hk:P.underlying k=aw (.int .i64))(x:Int):(Instr.checkKey e 10000 k (intK x)).run P w=.ok () w:=by
 show (Instr.checkKey e (9999+1) k (intK x)).run P w=_;rw[Instr.checkKey];simp[run_underlying hk,intK]
theorem PJ {k:TypeId}(hk:P.underlying k=aw (.int .i64))(x:Int){es:List MapEntry}{al:List (Int×ao)}(h:es.map (λe=>(e.key,e.val))=al.map (λp=>(intK p.1,p.2))) :
  ∃r,(Instr.findKey k (intK x) es).run P w=.ok r w∧r.map (·.2)=yF al x:=by
 obtain⟨r,h1,h2⟩:=Jv x es al 0 h;refine⟨r,?_,h2⟩;simp[Instr.findKey,run_underlying hk,h1]
theorem Vq {T k e:TypeId}{ok:Bool}{al:List (Int×ao)}{z:ao}(ht:P.underlying T=aw (.map k e))(hk:P.underlying k=aw (.int .i64))(hz:(P.info? e).bind (·.zero)=aw z)(h:RI w b al)(x:Int) :
  (Wn T (.map (aw b)) (intK x) ok).run P w=.ok (.value (if ok then .tuple #[(yF al x).getD z,.bool (yF al x).isSome] else (yF al x).getD z)) w:=by
 obtain⟨es,clock,h1,h2⟩:=h;obtain⟨r,r1,r2⟩:=PJ (P:=P) (w:=w) hk x h2;have hz':(zeroValue e).run P w=.ok z w:=by
  obtain⟨i,hi,hzi⟩:=auE.1 hz;simp[zeroValue,typeInfo,hi,hzi]
 refine bK ?_;rw[<-r2];cases r with
|none=>simp[Instr.lookup,run_underlying ht,getObj,Sem.run,h1,Hw hk x,r1,hz']
|some p=>
  obtain⟨i,v⟩:=p;simp[Instr.lookup,run_underlying ht,getObj,Sem.run,h1,Hw hk x,r1]
end
section
variable {S:Nat->Prop}{P:Program}{w w0:ak}{L:List Ent}{PK:PKT}{K:VWP}
end
end Eng
end
section
open Eng Go.RowKit
abbrev frT:TypeId:=330
abbrev frA:TypeId:=331
def fxL:List (Nat×Nat):=[(144,8),(112,9),(24,7),(8,8)]
def fxC:List Value:=fxL.flatMap λp=>[.int .i64 (p.1:Int),.int .i64 (p.2:Int)]
def KF (i:Nat):List Nat:=(fxL.take i).flatMap λp=>List.replicate p.1 p.2
def bm:List Nat:=KF 4
def da:List Nat:=List.replicate 32 5
theorem Uk (hi:i<=4):(KF i).length<=288:=by
 rcases (by omega:i=0∨i=1∨i=2∨i=3∨i=4) with rfl|rfl|rfl|rfl|rfl<;>decide +kernel
theorem TP (hi:i < 4):KF (i+1)=KF i++List.replicate (fxL.getD i (0,0)).1 (fxL.getD i (0,0)).2:=by
 rcases (by omega:i=0∨i=1∨i=2∨i=3) with rfl|rfl|rfl|rfl<;>decide +kernel
theorem afL (hi:i < 4):(fxL.getD i (0,0)).1<=144∧1<=(fxL.getD i (0,0)).1:=by
 rcases (by omega:i=0∨i=1∨i=2∨i=3) with rfl|rfl|rfl|rfl<;>decide
theorem F5 (k n:Nat):aM (List.replicate k n)=List.replicate k (.int .i64 (n:Int)):=by simp[aM]
section
variable {w:ak}{PK:PKT}{K:VWP}{S:Nat->Prop}{w0:ak}{L:List Ent}
theorem m_fr {b:Int}:DoX ah (bA frT #[(0,.int .i64 a),(1,.int .i64 b)]) w PK K=K (.agg #[.int .i64 a,.int .i64 b]) w:=aC krx
theorem anD:DoX ah (bA frA #[(0,.agg #[.int .i64 144,.int .i64 8]),(1,.agg #[.int .i64 112,.int .i64 9]),(2,.agg #[.int .i64 24,.int .i64 7]),(3,.agg #[.int .i64 8,.int .i64 8])]) w PK K=K (.agg fxC.toArray) w:=aC krx
theorem afK (hi:i < 4):(mIx frA (.agg fxC.toArray) (.int .i64 (i:Int))).run ah w=.ok (.value (.agg #[.int .i64 ((fxL.getD i (0,0)).1:Int),.int .i64 ((fxL.getD i (0,0)).2:Int)])) w:=by
 rcases (by omega:i=0∨i=1∨i=2∨i=3) with rfl|rfl|rfl|rfl<;>kernel_rfl
def frC (a b:Int):List Value:=[.int .i64 a,.int .i64 b]
theorem PS {b:Int}:∀u∈frC a b,u.oneCell'=true:=by
 intro u hu;simp only[frC,aoM,aqI,or_false] at hu;rcases hu with rfl|rfl<;>rfl
theorem afR:fOff ah frT 0=aw 0:=krx
theorem afF:fOff ah frT 1=aw 1:=krx
theorem szFr:(Tryz.prog.info? frT).map (·.size)=aw 2:=krx
theorem LP (M:Mem)(w:ak)(hM:M.has w):RetM ah 294 #[] M w (λv N=>∃a b,v=.tuple #[a,b]∧SlA N.A N.w a 1 bm.length (aM bm)∧SlA N.A N.w b 1 da.length (aM da)):=by
 refine aU hM λK hK=>EF ?_;unfold AR nz;have ho:OwnS M.A w w [.mem M]:=OwnS.memS hM;rw[m_fr,m_fr,m_fr,m_fr,anD];have ho:OwnS M.A w w [.urow 3 1 nilS 0 [],.mem M]:=OwnS.nilU (L:=[.mem M]) ho _ _;refine loop (λvs W=>∃(i:Nat) (ov:ao),vs=[ov,.int .i64 (i:Int)]∧i<=4∧OwnS M.A w W [.urow 3 1 ov (KF i).length (aM (KF i)),.mem M]) (λvs _=>4 - n1 vs) ⟨0,nilS,rfl,om,ho⟩ ?_;clear ho;rintro vs w1 ⟨i,ov,rfl,hi,ho⟩ _;simp only[wX,gd,rs,nz];by_cases hlt:(i:Int) < 4
 ·simp only[hlt,aoA,i_t];have hi4:i < 4:=om
  have hln:=Uk (Nat.le_of_lt hi4);have hle:=afL hi4;have hsu:=TP hi4;refine aC (afK hi4) |>.mpr ?_;generalize fxL.getD i (0,0)=e at hle hsu;obtain⟨k,n⟩:=e;dsimp only at hle hsu ⊢;refine bD (λb=>.pointer (aw ⟨b,0,av⟩)) (frC 0 0) frT (λ_=>by kernel_rfl) ho λb w2 ho=>?_;refine iL 0 ho rfl (new:=frC k n) szFr PS rfl λw3 ho=>?_;rw[aP afF,aS bP (ho.cell 0 rfl 1 rfl)];refine mY (n:Int) ho λb2 w4 ho=>?_;rw[aP afR,aS bP (ho.cell 1 rfl 0 rfl)];refine VW 0 ho rfl rfl om λb3 w5 ho=>?_;refine jD 3 ho rfl (Sl.cells (ho.at_ 0 rfl) 1 k k (by rw[apC,aoS])) (λu hu=>by rw[aqZ hu];rfl) om λv' w6 ho=>?_
  try simp only[rs]
  rw[aA om om];refine aQ ⟨i+1,v',rfl,om,?_⟩ (by simp[n1,RowKit.intOf];omega);rw[hsu,gS,F5,aoC,apC];exact ho.tail.tail.tail
 ·simp only[hlt,aoB,i_f];have:i=4:=om
  subst this;refine mY 5 ho λb2 w4 ho=>?_;refine VW (k:=32) 0 ho rfl rfl om λb3 w5 ho=>?_;have ho:=ho.sub (L':=[.cells b3 (List.replicate 32 (.int .i64 5)) 3,.urow 3 1 ov (KF 4).length (aM (KF 4)),.mem M]) (.cons_cons _ (.cons _ (arK _)));have ho:=OwnS.toU (b:=b3) ho 1 32 32 (by rw[apC]) om om;obtain⟨N1,g1,h1,ho⟩:=OwnS.cI (L:=[.urow 3 1 ov (KF 4).length (aM (KF 4)),.mem M]) ho 1 rfl;obtain⟨N2,g2,h2,ho⟩:=OwnS.cI (L:=[.mem N1]) ho 0 rfl;refine hK _ _ N2 _ 0 ho rfl (g1.trans g2) ⟨_,_,rfl,h2,?_⟩;have h1:=h1.le g2;rw[show da.length=32 from rfl,show aM da=List.replicate 32 (.int .i64 5) from F5 32 5];exact h1
end
def cr (g:Nat):Nat:=if g=18 then 11 else 3
def bp (g:Nat):Nat:=if g=16 then 2 else if g=17 then 3 else 7
def iq (cl:List Nat)(s:List UInt8)(n:Nat):Nat->Nat->List Nat->List Nat×Nat×Int
|0,p,l=>(l,p,13)
|f+1,p,l=>
  if n<=l.length then (l,p,0)
  else
   let r:=cj cl s p
   if r.2.2≠0 then (l,p,r.2.2)
   else if r.1 < 16 then iq cl s n f r.2.1 (l++[r.1])
   else if r.1=16∧l.length=0 then (l,p,3)
   else if 8*s.length < r.2.1+bp r.1 then (l,p,4)
   else if n < l.length+(cr r.1+Fl.num s r.2.1 (bp r.1)) then (l,p,3)
   else iq cl s n f (r.2.1+bp r.1) (l++List.replicate (cr r.1+Fl.num s r.2.1 (bp r.1)) (if r.1=16 then l.getD (l.length - 1) 0 else 0))
def Fl.lens (cl:List Nat)(s:List UInt8)(n p:Nat):List Nat×Nat×Int:=iq cl s n (n+1) p []
def rpM:List (Int×ao):=[(16,.agg #[.int .i64 3,.int .i64 2]),(17,.agg #[.int .i64 3,.int .i64 3]),(18,.agg #[.int .i64 11,.int .i64 7])]
def Rp (M:Mem):Prop:=∃mb,M.A 3∧M.w.cell? ⟨3,0,av⟩=aw (.map (aw mb))∧M.A mb∧∃al,(∀k:Int,yF al k=yF rpM k)∧RI M.w mb al
theorem Mem.cell {M:Mem}{w:ak}(h:M.has w){b j:Nat}{v:ao}(hb:M.A b)(hc:M.w.cell? ⟨b,j,av⟩=aw v):w.cell? ⟨b,j,av⟩=aw v:=(Nz (h b hb)).trans hc
theorem Rp.le {M N:Mem}(h:M.le N)(k:Rp M):Rp N:=by
 obtain⟨mb,h1,h2,h3,al,hal,es,cl,h4,h5⟩:=k;exact⟨mb,h.A _ h1,Mem.cell h.has h1 h2,h.A _ h3,al,hal,es,cl,(h.has mb h3).trans h4,h5⟩
theorem alW {g:Nat}(h:g < 16):yF rpM (g:Int)=none:=by
 simp[yF,rpM];omega
theorem alX {g:Nat}(h:16<=g)(h2:g < 19):yF rpM (g:Int)=aw (.agg #[.int .i64 (cr g:Int),.int .i64 (bp g:Int)]):=by
 rcases (by omega:g=16∨g=17∨g=18) with rfl|rfl|rfl<;>rfl
theorem mpRp:Tryz.prog.underlying 365=aw (.map 3 363):=underlying365
theorem zRp:(Tryz.prog.info? 363).bind (·.zero)=aw (.agg #[.int .i64 0,.int .i64 0]):=krx
theorem aiV:eM ah 365=true:=krx
theorem ahB:fOff ah 363 0=aw 0:=krx
theorem aiM:fOff ah 363 1=aw 1:=krx
theorem szRp:(Tryz.prog.info? 363).map (·.size)=aw 2:=krx
theorem uh (g:Nat):bp g<=7:=by
 unfold bp;split
 ·omega
 ·split<;>omega
theorem ui (g:Nat):3<=cr g∧cr g<=11:=by unfold cr;split<;>omega
def lenV:ao->Nat|.slice _ n _=>n|_=>0
def anA (vs:List ao):Nat:=lenV (vs.getD 0 undef)
theorem GF {n:Nat}(h:Sl w v sz n cs):lenV v=n:=by
 obtain⟨_,a,cap,rfl,_⟩:=h;rfl
section
variable {w:ak}{PK:PKT}{K:VWP}{S:Nat->Prop}{w0:ak}{L:List Ent}
theorem Zy {n:Nat}(hn:n<=1000000)(ho:OwnS S w0 w L)(k:∀v w',OwnS S w0 w' (.urow 3 1 v 0 []::L)->K v w') :
  DoX ah (H4 123 (.int .i64 0) (.int .i64 (n:Int))) w PK K:=by
 obtain⟨i,hi,hz,h1,h8⟩:=SH;refine bD (λb=>.slice (aw ⟨b,0,av⟩) 0 n) (List.replicate n (.int .i64 0)) 3 (λW=>?_) ho λb w' ho=>k _ _ ?_
 ·have:=Go.run_make (P:=ah) W 123 3 i (Value.int .i64 0) aoQ hi hz .i64 .i64 (0:Int) (n:Int) om om (by rw[h8];omega) om;rw[h1,aoF,Ri] at this;exact bK this
 ·have:=OwnS.toU (b:=b) ho 1 0 n (by rw[apC,aoS]) om om;exact this
theorem aeH {mb:Nat}{al:List (Int×ao)}(hal:∀k:Int,yF al k=yF rpM k)(hM:M.has w)(hA:M.A mb)(h:RI M.w mb al)(g:Nat):(Wn 365 (.map (aw mb)) (.int .i64 (g:Int)) au).run ah w=.ok (.value (.tuple #[(yF rpM (g:Int)).getD (.agg #[.int .i64 0,.int .i64 0]),.bool (yF rpM (g:Int)).isSome])) w:=by
 have hw:RI w mb al:=by
  obtain⟨es,cl,h4,h5⟩:=h;exact⟨es,cl,(hM mb hA).trans h4,h5⟩
 rw[<-hal];exact Vq (ok:=au) mpRp apH zRp hw (g:Int)
theorem VK {n:Nat}{ov:ao}{s:List UInt8}{out:List UInt8}(jm:Nat)(ho:OwnS S w0 w (Fs fb rb s most ov way p out R))(hm:R[jm]?=aw (.mem M))(ht:TbAt M.A M.w tb cl)(hl:cl.length=19)(hrp:Rp M)(hw:way=0∨way=1)(hp:p<=8*s.length)(hs:s.length<=1000000000)(hn:n<=1000)
  (k1:(Fl.lens cl s n p).2.2=0->(Fl.lens cl s n p).2.1<=8*s.length->(Fl.lens cl s n p).1.length=n->(∀x∈(Fl.lens cl s n p).1,x<=15)->∀way' lv W,(way'=0∨way'=1)->OwnS S w0 W (.urow 3 1 lv (Fl.lens cl s n p).1.length (aM (Fl.lens cl s n p).1)::Fs fb rb s most ov way' (Fl.lens cl s n p).2.1 out R)->K lv W)
  (k2:(Fl.lens cl s n p).2.2≠0->∀way' p' W,OwnS S w0 W (Fs fb rb s most ov way' p' out R)->PK [upI (Fl.lens cl s n p).2.2] W) :
  CallX ah 339 #[.pointer (aw ⟨fb,0,av⟩),.pointer (aw ⟨tb,0,av⟩),.int .i64 (n:Int)] w PK K:=by
 generalize hX:Fl.lens cl s n p=X at k1 k2;unfold Fl.lens at hX;refine⟨sP ?_⟩;unfold kE nz;refine Zy om ho λlv w1 ho=>?_;refine loop (λvs W=>∃(p:Nat) (way:Int) (l:List Nat) (lv:ao),vs=[lv]∧(way=0∨way=1)∧p<=8*s.length∧l.length<=n∧(∀x∈l,x<=15)∧(∃f,n+1 - l.length<=f∧iq cl s n f p l=X)∧OwnS S w0 W (.urow 3 1 lv l.length (aM l)::Fs fb rb s most ov way p out R)) (λvs _=>n - anA vs) ⟨p,way,[],lv,rfl,hw,hp,aoO _,(λx hx=>by cases hx),⟨_,aoG _,hX⟩,ho⟩ ?_;clear ho hX hp hw;rintro vs w1 ⟨p,way,l,lv,rfl,hw,hp,hln,hl15,⟨f,hf,hX⟩,ho⟩ _;have hlv:lenV lv=l.length:=GF (ho.slU 0 rfl);simp only[iS,gd,nz];obtain⟨f,rfl⟩:∃f',f=f'+1:=⟨f - 1,om⟩;rw[iq] at hX;dsimp only at hX;rw[bB aoQ (ho.slU 0 rfl)]
 try simp only[rs]
 by_cases hlt:(l.length:Int) < (n:Int)
 case neg=>
  simp only[hlt,aoB,i_f];rw[anX om] at hX;subst hX;exact k1 rfl hp (by dsimp only;omega) hl15 _ _ _ hw ho
 simp only[hlt,aoA,i_t];rw[anW om] at hX
 try rw[aY]
 rw[NI,UF ho 1 rfl];refine QL 2 (jm+4) om ho rfl hm ht om hw hp hs λway3 W3 hw3 hp3 ho=>?_;have ho:OwnS S w0 W3 (.urow 3 1 lv l.length (aM l)::Fs fb rb s most ov way3 (cj cl s p).2.1 out R):=ho;have hg19:(cj cl s p).1 < cl.length:=nt s om 16 0 p 0;rw[hl] at hg19;generalize cj cl s p=T at hX ho hp3 hg19;obtain⟨g,q,e⟩:=T;dsimp only at hX ho hp3 hg19;simp only[ex];refine yS (λh3=>?_) (λh3=>?_)
 rotate_left
 ·rw[anX h3] at hX;subst hX;exact k2 h3 _ _ _ ho.tail
 rw[anW (by rw[h3];decide)] at hX;obtain⟨mb,hr1,hr2,hr3,al,hal,hr4⟩:=hrp;have hM:=ho.hasM (jm+4) hm;rw[aS aiV (Mem.cell hM hr1 hr2)];refine aC (aeH hal hM hr3 hr4 g) |>.mpr ?_;simp only[ex];refine bD (λb=>.pointer (aw ⟨b,0,av⟩)) (frC 0 0) 363 (λ_=>by kernel_rfl) ho λrbx w4 ho=>?_;by_cases h16:g < 16
 ·rw[anX h16] at hX;rw[alW h16];simp only[Option.getD_none,atL];refine iL 0 ho rfl (new:=frC 0 0) szRp PS rfl λw5 ho=>?_;simp only[rs,nn_f];refine mY (g:Int) ho λb2 w6 ho=>?_;refine jD 2 ho rfl (ho.sl 0 rfl 1 1 1 rfl) iY om λv' w7 ho=>?_;have hlv2:lenV v'=l.length+1:=GF (ho.slU 2 rfl);refine aQ ⟨q,way3,l++[g],v',rfl,hw3,hp3,by rw[aoC,apL];omega,?_,⟨f,by rw[aoC,apL];omega,hX⟩,?_⟩ (by show n - lenV v' < n - lenV lv;omega)
  ·intro x hx;rcases apF.1 hx with hx|hx
   ·exact hl15 x hx
   ·rw[aoZ.1 hx];omega
  ·rw[gS,aoC];exact ho.tail.tail
 rw[anW h16] at hX;rw[alX om hg19];simp only[asB,auG];refine iL 0 ho rfl (new:=frC (cr g) (bp g)) szRp PS rfl λw5 ho=>?_;simp only[rs,nn_t];have hB:=uh g;have hL:=ui g;refine join λJ2 hJ2=>?_;have rest:∀(W:ak) (ag:Nat),(ag=if g=16 then l.getD (l.length - 1) 0 else 0)->ag<=15->¬(g=16∧l.length=0)->OwnS S w0 W (.cells rbx (frC (cr g) (bp g)) 363::.urow 3 1 lv l.length (aM l)::Fs fb rb s most ov way3 q out R)->J2 [.int .i64 (ag:Int)] W:=by
  intro W ag hag hag15 hne ho;rw[anW hne,<-hag] at hX;refine hJ2 _ _ λ_=>?_;simp only[iP,gd,iN,dx,bnx,lnx,apx,cx];have ho:=ho.drew;refine⟨λW=>(Ent.cells rbx (frC (cr g) (bp g)) 363).is W,ho.at_ 0 rfl,?_⟩;refine aL _ (λ_=>bH ahB) (sL _ (λW h=>aB bP (aI (T:=363) h rfl)) ?_);refine aL _ (λ_=>bH aiM) (sL _ (λW h=>aB bP (aI (T:=363) h rfl)) ?_);refine rE (n:=bp g) 2 3 ho rfl rfl hw3 hp3 om hs (λh5 W5 ho=>?_) (λh5 W5 ho=>?_)
  rotate_left
  ·rw[anX h5] at hX;subst hX
   repeat intro _
   exact k2 (by dsimp only;decide) _ _ _ ho.tail.tail
  rw[anW om] at hX;have hwy:(if 0 < bp g then (1:Int) else way3)=0∨(if 0 < bp g then (1:Int) else way3)=1:=by split;exact .inr rfl;exact hw3
  have ho:OwnS S w0 W5 (.cells rbx (frC (cr g) (bp g)) 363::.urow 3 1 lv l.length (aM l)::Fs fb rb s most ov (if 0 < bp g then 1 else way3) (q+bp g) out R):=ho;generalize (if 0 < bp g then (1:Int) else way3)=way5 at ho hwy;have hnl:=Fl.iQ s q (bp g);have h27:2 ^ bp g<=2 ^ 7:=apJ dc hB;have h27':(2:Nat) ^ 7=128:=dc
  refine⟨ho.at_ 0 rfl,?_⟩;refine aL _ (λ_=>OB) ?_;rw[aA om om,show (cr g:Int)+(Fl.num s q (bp g):Int)=((cr g+Fl.num s q (bp g):Nat):Int) by omega];generalize hk:cr g+Fl.num s q (bp g)=k at hX;rw[bB aoQ (ho.slU 1 rfl)]
  try simp only[rs]
  rw[aA om om];refine jE (λh6=>?_) (λh6=>?_)
  rotate_left
  ·have:=apM h6;rw[anX om] at hX;subst hX;exact k2 (by dsimp only;decide) _ _ _ ho.tail.tail
  have h6:=aoU h6;rw[anW om] at hX;refine mY (ag:Int) ho λb2 w6 ho=>?_;refine VW 0 ho rfl rfl om λb3 w7 ho=>?_;refine jD 3 ho rfl (Sl.cells (ho.at_ 0 rfl) 1 k k (by rw[apC,aoS])) (λu hu=>by rw[aqZ hu];rfl) om λv' w8 ho=>?_;have hlv2:lenV v'=l.length+k:=GF (ho.slU 3 rfl);refine aQ ⟨q+bp g,way5,l++List.replicate k ag,v',rfl,hwy,h5,by rw[aoC,apC];omega,?_,⟨f,by rw[aoC,apC];omega,hX⟩,?_⟩ (by show n - lenV v' < n - lenV lv;omega)
  ·intro x hx;rcases apF.1 hx with hx|hx
   ·exact hl15 x hx
   ·rw[aqZ hx];exact hag15
  ·rw[gS,F5,aoC,apC];exact ho.tail.tail.tail
 by_cases hg:g=16
 case neg=>
  simp only[show ai ((g:Int)=16)=aq from anY om,i_f];exact rest _ 0 (by rw[anW hg]) om (λh=>hg h.1) ho
 simp only[show ai ((g:Int)=16)=au from anZ om,i_t];rw[bB aoQ (ho.slU 1 rfl)]
 try simp only[rs]
 refine jE (λh6=>?_) (λh6=>?_)
 rotate_left
 ·have:=apM h6;rw[anX ⟨hg,om⟩] at hX;subst hX;exact k2 (by dsimp only;decide) _ _ _ ho.tail.tail
 have h6:=aoU h6;rw[bB aoQ (ho.slU 1 rfl)]
 try simp only[rs]
 rw[aA om om,show (l.length:Int) - 1=((l.length - 1:Nat):Int) by omega];have hil:l.length - 1 < l.length:=om
 obtain⟨b2,off,r1,r2⟩:=eX (ho.slU 1 rfl) hil;refine aC (r1 w5) |>.mpr (aC (aB bP r2) |>.mpr ?_);have hgd:l.getD (l.length - 1) 0=l[l.length - 1]:=by rw[aoE,aoI hil];rfl
 exact rest _ _ (by rw[anX hg,hgd]) (hl15 _ (aoR hil)) (λh=>by omega) ho
end
end
section
open Eng Go.RowKit
theorem TbAt.le {M N:Mem}(h:M.le N){b:Nat}{lens:List Nat}(k:TbAt M.A M.w b lens):TbAt N.A N.w b lens:=by
 obtain⟨a,c,o,h1,h2,h3⟩:=k;exact⟨a,c,o,h.A b h1,(tbE b a c (cnt lens) (fstW lens) o).keep h2 (λk hk=>by cases hk;exact h.has b h1),h3.le h⟩
theorem uj:∀l∈bm,l<=15:=by
 intro l hl;have h:bm.all (λl=>ai (l<=15))=true:=by decide +kernel
 exact aoU (aqU.1 h l hl)
theorem uk:∀l∈da,l<=15:=by
 intro l hl;rw[aqZ hl];decide
theorem mi:bm.length=288:=by decide +kernel
theorem mj:da.length=32:=by decide +kernel
theorem nv:az bm=0:=by decide +kernel
theorem nw:az da=0:=by decide +kernel
def bq:List Nat:=[16,17,18,0,8,7,9,6,10,5,11,4,12,3,13,2,14,1,15]
theorem um (h:i < 19):bq.getD i 0 < 19:=by
 have h1:(List.range 19).all (λi=>ai (bq.getD i 0 < 19))=true:=by decide +kernel
 exact aoU (aqU.1 h1 i (apZ.2 h))
def Od (M:Mem):Prop:=M.A 2∧∀i,i < 19->M.w.cell? ⟨2,i,av⟩=aw (.int .i64 ((bq.getD i 0:Nat):Int))
theorem Od.le {M N:Mem}(h:M.le N)(k:Od M):Od N:=⟨h.A _ k.1,λi hi=>Mem.cell h.has k.1 (k.2 i hi)⟩
theorem lt19 (h:i < 19):i=0∨i=1∨i=2∨i=3∨i=4∨i=5∨i=6∨i=7∨i=8∨i=9∨i=10∨i=11∨i=12∨i=13∨i=14∨i=15∨i=16∨i=17∨i=18:=om
def ev (s:List UInt8)(p:Nat):Nat->List Nat
|0=>List.replicate 19 0
|i+1=>(ev s p i).set (bq.getD i 0) (Fl.num s (p+3*i) 3)
theorem ma (s:List UInt8)(p:Nat):∀i,(ev s p i).length=19
|0=>rfl
|i+1=>by rw[ev,aqM,ma s p i]
theorem qy (s:List UInt8)(p:Nat):∀i,∀x∈ev s p i,x<=7
|0,x,h=>by rw[aqZ h];decide
|i+1,x,h=>by
  rcases auK h with h|h
  ·exact qy s p i x h
  ·have:=Fl.iQ s (p+3*i) 3;rw[h];omega
def gj (s:List UInt8)(most p:Nat)(out:List UInt8):List UInt8×Nat×Int:=
 if 8*s.length < p+5 then (out,p,4)
 else if 29 < Fl.num s p 5 then (out,p,3)
 else if 8*s.length < p+10 then (out,p,4)
 else if 29 < Fl.num s (p+5) 5 then (out,p,3)
 else if 8*s.length < p+14 then (out,p,4)
 else if 8*s.length < p+14+3*(Fl.num s (p+10) 4+4) then (out,p,4)
 else
  let cl:=ev s (p+14) (Fl.num s (p+10) 4+4)
  if az cl≠0 then (out,p,az cl)
  else
   let r:=Fl.lens cl s (Fl.num s p 5+257+(Fl.num s (p+5) 5+1)) (p+14+3*(Fl.num s (p+10) 4+4))
   if r.2.2≠0 then (out,p,r.2.2)
   else if r.1.getD 256 0=0 then (out,p,13)
   else if az (r.1.take (Fl.num s p 5+257))≠0 then (out,p,az (r.1.take (Fl.num s p 5+257)))
   else if az (r.1.drop (Fl.num s p 5+257))≠0 then (out,p,az (r.1.drop (Fl.num s p 5+257)))
   else ec (r.1.take (Fl.num s p 5+257)) (r.1.drop (Fl.num s p 5+257)) s most r.2.1 out
def bt (s:List UInt8)(most p:Nat)(out:List UInt8):List UInt8×Nat×Int:=
 if 8*s.length < p+2 then (out,p,4)
 else if Fl.num s p 2=0 then cm s most (p+2) out
 else if Fl.num s p 2=1 then ec bm da s most (p+2) out
 else if Fl.num s p 2=2 then gj s most (p+2) out
 else (out,p,3)
theorem SlA.Rl {a:Option Addr}{n:Nat}(h:SlA A w (.slice a n cap) sz n cs)(hi:i<=n)(h0:0 < i->0 < n):SlA A w (.slice (subA a 0 cap sz) i cap) sz i (cs.take (i*sz)):=by
 obtain⟨h1,h2,h3⟩:=h;have hc:=h3 _ _ _ rfl;refine⟨Sl.upto h1 hi,λp l c e hn=>?_,λa l c e=>?_⟩
 ·injection e with e1 _ _
  obtain⟨q,hq,hb⟩:=Ji e1;have:=h2 q n cap (by rw[hq]) (h0 hn)
  rwa [<-hb]
 ·injection e with e1 e2 e3
  omega
section
variable {w:ak}{PK:PKT}{K:VWP}{S:Nat->Prop}{w0:ak}{L:List Ent}
abbrev arT:TypeId:=308
theorem Yz :(cM arT (.pointer (aw ⟨b,0,av⟩)) av av av).run ah W=.ok (.value (.slice (aw ⟨b,0,av⟩) 19 19)) W:=krx
theorem acB (hh:h<=19):(cM arT (.pointer (aw ⟨b,0,av⟩)) av (aw (.int .i64 (h:Int))) av).run ah W=.ok (.value (.slice (aw ⟨b,0,av⟩) h 19)) W:=by
 rcases (by omega:h=19∨h < 19) with rfl|h19
 ·kernel_rfl
 ·rcases lt19 h19 with rfl|rfl|rfl|rfl|rfl|rfl|rfl|rfl|rfl|rfl|rfl|rfl|rfl|rfl|rfl|rfl|rfl|rfl|rfl<;>kernel_rfl
theorem XM (hi:i < 19):(mIA arT (.pointer (aw ⟨b,0,av⟩)) (.int .i64 (i:Int))).run ah W=.ok (.value (.pointer (aw ⟨b,i,av⟩))) W:=by
 rcases lt19 hi with rfl|rfl|rfl|rfl|rfl|rfl|rfl|rfl|rfl|rfl|rfl|rfl|rfl|rfl|rfl|rfl|rfl|rfl|rfl<;>kernel_rfl
theorem aaX {ov:ao}{s:List UInt8}{out:List UInt8}{T:List Ent}(ho:OwnS S w0 w (Fs fb rb s most ov way p out (.mem M::T)))(hw:way=0∨way=1)(hp:p<=8*s.length)(hs:s.length<=1000000000)(hmo:most<=1000000000)(hol:out.length<=most)
  (k1:(ec bm da s most p out).2.2=0->(ec bm da s most p out).2.1<=8*s.length->(ec bm da s most p out).1.length<=most->∀N way' ov' W,M.le N->(way'=0∨way'=1)->OwnS S w0 W (Fs fb rb s most ov' way' (ec bm da s most p out).2.1 (ec bm da s most p out).1 (.mem N::T))->K (.tuple #[]) W)
  (k2:(ec bm da s most p out).2.2≠0->∀N ov' way' p' out' W,M.le N->OwnS S w0 W (Fs fb rb s most ov' way' p' out' (.mem N::T))->PK [upI (ec bm da s most p out).2.2] W) :
  CallX ah 307 #[.pointer (aw ⟨fb,0,av⟩)] w PK K:=by
 refine⟨vP ?_⟩;unfold nZ nz;refine bI ho 3 rfl (LP M w (ho.hasM 3 rfl)) ?_;rintro _ N1 w1 g1 ⟨a,b,rfl,ha,hb⟩ ho;have ho:OwnS S w0 w1 (Fs fb rb s most ov way p out (.mem N1::T)):=ho;simp only[ex];refine bI ho 3 rfl (Ga bm a N1 w1 uj (by rw[mi];omega) (by rw[mi];omega) (ho.hasM 3 rfl) ha) ?_;intro v N2 w2 g2 hv ho;rw[anW (by rw[nv];decide)] at hv;obtain⟨tb,rfl,htb⟩:=hv;have ho:OwnS S w0 w2 (Fs fb rb s most ov way p out (.mem N2::T)):=ho;simp only[ex];refine sV (λ_=>?_) (λh=>absurd rfl h);refine bI ho 3 rfl (Ga da b N2 w2 uk (by rw[mj];omega) (by rw[mj];omega) (ho.hasM 3 rfl) (hb.le g2)) ?_;intro v N3 w3 g3 hv ho;rw[anW (by rw[nw];decide)] at hv;obtain⟨td,rfl,htd⟩:=hv;have ho:OwnS S w0 w3 (Fs fb rb s most ov way p out (.mem N3::T)):=ho;simp only[ex];refine sV (λ_=>?_) (λh=>absurd rfl h);have hle:=g1.trans (g2.trans g3);exact WZ 0 ho rfl (htb.le g3) htd (by rw[mi];omega) (by rw[mj];omega) hw hp hs hmo hol (λh1 h2 h3 way' ov' W hw' ho=>k1 h1 h2 h3 N3 way' ov' W hle hw' ho) (λh1 ov' way' p' out' W ho=>k2 h1 N3 ov' way' p' out' W hle ho)
theorem O2 (l:List Nat)(i n:Nat):aM (l.set i n)=(aM l).set i (.int .i64 (n:Int)):=by simp[aM,atQ]
theorem UL {ov:ao}{s:List UInt8}{out:List UInt8}{T:List Ent}(ho:OwnS S w0 w (Fs fb rb s most ov way p out (.mem M::T)))(hrp:Rp M)(hod:Od M)(hw:way=0∨way=1)(hp:p<=8*s.length)(hs:s.length<=1000000000)(hmo:most<=1000000000)(hol:out.length<=most)
  (k1:(gj s most p out).2.2=0->(gj s most p out).2.1<=8*s.length->(gj s most p out).1.length<=most->∀N way' ov' W,M.le N->(way'=0∨way'=1)->OwnS S w0 W (Fs fb rb s most ov' way' (gj s most p out).2.1 (gj s most p out).1 (.mem N::T))->K (.tuple #[]) W)
  (k2:(gj s most p out).2.2≠0->∀N ov' way' p' out' W,M.le N->OwnS S w0 W (Fs fb rb s most ov' way' p' out' (.mem N::T))->PK [upI (gj s most p out).2.2] W) :
  CallX ah 308 #[.pointer (aw ⟨fb,0,av⟩)] w PK K:=by
 generalize hX:gj s most p out=X at k1 k2;unfold gj at hX;dsimp only at hX;refine⟨sR ?_⟩;unfold kH nz;have h5:(2:Nat) ^ 5=32:=dc
 have h4:(2:Nat) ^ 4=16:=dc
 refine rE (n:=5) 0 1 ho rfl rfl hw hp om hs (λe1 W1 ho=>?_) (λe1 W1 ho=>?_)
 rotate_left
 ·rw[anX e1] at hX;subst hX;exact k2 (by dsimp only;decide) M _ _ _ _ _ M.le_refl ho
 rw[anW om] at hX;have ho:OwnS S w0 W1 (Fs fb rb s most ov 1 (p+5) out (.mem M::T)):=ho;have n1:=Fl.iQ s p 5;generalize Fl.num s p 5=hl at hX n1
 try simp only[rs]
 rw[aA om om];refine jE (λe2=>?_) (λe2=>?_)
 rotate_left
 ·have:=apM e2;rw[anX om] at hX;subst hX;exact k2 (by dsimp only;decide) M _ _ _ _ _ M.le_refl ho
 have e2:=aoU e2;rw[anW om] at hX;refine rE (n:=5) 0 1 ho rfl rfl (.inr rfl) e1 om hs (λe3 W2 ho=>?_) (λe3 W2 ho=>?_)
 rotate_left
 ·rw[anX om] at hX;subst hX;exact k2 (by dsimp only;decide) M _ _ _ _ _ M.le_refl ho
 rw[anW om] at hX;have ho:OwnS S w0 W2 (Fs fb rb s most ov 1 (p+5+5) out (.mem M::T)):=ho;have n2:=Fl.iQ s (p+5) 5;generalize Fl.num s (p+5) 5=hd at hX n2
 try simp only[rs]
 rw[aA om om];refine jE (λe4=>?_) (λe4=>?_)
 rotate_left
 ·have:=apM e4;rw[anX om] at hX;subst hX;exact k2 (by dsimp only;decide) M _ _ _ _ _ M.le_refl ho
 have e4:=aoU e4;rw[anW om] at hX;refine bD (λb=>.pointer (aw ⟨b,0,av⟩)) (aM (List.replicate 19 0)) arT (λ_=>by kernel_rfl) ho λab W3 ho=>?_;refine rE (n:=4) 1 2 ho rfl rfl (.inr rfl) e3 om hs (λe5 W4 ho=>?_) (λe5 W4 ho=>?_)
 rotate_left
 ·rw[anX om] at hX;subst hX;exact k2 (by dsimp only;decide) M _ _ _ _ _ M.le_refl ho.tail
 rw[anW om] at hX;have ho:OwnS S w0 W4 (.cells ab (aM (List.replicate 19 0)) arT::Fs fb rb s most ov 1 (p+14) out (.mem M::T)):=ho;have n3:=Fl.iQ s (p+10) 4;rw[show Fl.num s (p+5+5) 4=Fl.num s (p+10) 4 from rfl];generalize Fl.num s (p+10) 4=hc at hX n3
 try simp only[rs]
 rw[aA om om,show (hc:Int)+4=((hc+4:Nat):Int) by omega];refine aC (acB om) |>.mpr ?_;have hlen:∀W:ak,DoX ah (mB .len #[123] 3 #[aq] #[.slice (aw ⟨2,0,av⟩) (hc+4) 19]) W (Eng.pk λ_ _=>True) (λv _=>v=.int .i64 ((hc+4:Nat):Int)):=λW=>by
  refine jV (v:=.int .i64 ((hc+4:Nat):Int)) (w':=W) ?_ rfl;simp[mB,builtin,Builtin.len_,run_underlying aoQ,goInt]
 clear hlen;refine jV (v:=.int .i64 ((hc+4:Nat):Int)) (w':=W4) (by simp[mB,builtin,Builtin.len_,run_underlying aoQ,goInt]) ?_;have hr0:aM (List.replicate 19 0)=aM (ev s (p+14) 0):=rfl;rw[hr0] at ho;refine loop (λvs W=>∃i:Nat,vs=[.int .i64 (i:Int)]∧i<=hc+4∧p+14+3*i<=8*s.length∧OwnS S w0 W (.cells ab (aM (ev s (p+14) i)) arT::Fs fb rb s most ov 1 (p+14+3*i) out (.mem M::T))) (λvs _=>hc+4 - n0 vs) ⟨0,rfl,om,om,ho⟩ ?_;clear ho;rintro vs w5 ⟨i,rfl,hi,hpi,ho⟩ _;simp only[iU,gd,rs,iN,ldx,bnx,iax,exx,stx,slx,cx];by_cases hlt:(i:Int) < ((hc+4:Nat):Int)
 ·simp only[hlt,aoA,i_t];have hi19:i < 19:=om
  have hia:=dZ (P:=ah) (T:=123) (b:=2) (off:=0) (cap:=19) (n:=hc+4) (k:=.i64) (i:=(i:Int)) (w:=w5) aoQ szI1 om om;rw[aoF,aoS,aoN] at hia;refine aC hia |>.mpr ?_;rw[aS bP (Mem.cell (ho.hasM 4 rfl) hod.1 (hod.2 i hi19))];refine rE (n:=3) 1 2 ho rfl rfl (.inr rfl) hpi om hs (λe6 W6 ho=>?_) (λe6 W6 ho=>?_)
  rotate_left
  ·rw[anX om] at hX;subst hX;exact k2 (by dsimp only;decide) M _ _ _ _ _ M.le_refl ho.tail
  have ho:OwnS S w0 W6 (.cells ab (aM (ev s (p+14) i)) arT::Fs fb rb s most ov 1 (p+14+3*i+3) out (.mem M::T)):=ho;have ho19:=um hi19;refine aC (XM ho19) |>.mpr ?_;refine aN 0 ho rfl krx rfl (by rw[eE,ma];exact ho19) λw7 ho=>?_
  try simp only[rs]
  rw[aA om om];refine aQ ⟨i+1,rfl,om,om,?_⟩ (by simp[n0,RowKit.intOf];omega);rw[ev,O2];exact ho
 simp only[hlt,aoB,i_f];have hie:i=hc+4:=om
 subst hie;rw[anW om] at hX;have hcl:=ma s (p+14) (hc+4);have hc7:=qy s (p+14) (hc+4);generalize ev s (p+14) (hc+4)=cl at hX hcl hc7 ho;refine aC Yz |>.mpr ?_;have his:=ho.at_ 0 rfl;obtain⟨N1,g1,hw1,hblk,ho⟩:=OwnS.freeze (L:=Fs fb rb s most ov 1 (p+14+3*(hc+4)) out (.mem M::T)) ho 3 rfl;have ho:OwnS S w0 w5 (Fs fb rb s most ov 1 (p+14+3*(hc+4)) out (.mem N1::T)):=ho;have hsl:SlA N1.A N1.w (.slice (aw ⟨ab,0,av⟩) 19 19) 1 cl.length (aM cl):=by
  rw[hw1,hcl];refine⟨Sl.cells his 1 19 19 (by rw[eE,hcl]),λq l c e _=>?_,λa l c e=>?_⟩
  ·injection e with e1 e2 e3
   cases e1;exact hblk ab rfl
  ·injection e with e1 e2 e3
   omega
 refine bI ho 3 rfl (Ga cl _ N1 w5 (λl h=>by have:=hc7 l h;omega) om om (ho.hasM 3 rfl) hsl) ?_;intro v N2 w6 g2 hv ho;have ho:OwnS S w0 w6 (Fs fb rb s most ov 1 (p+14+3*(hc+4)) out (.mem N2::T)):=ho;by_cases hck:az cl=0
 case neg=>
  rw[anX hck] at hv;subst hv;rw[anX hck] at hX;subst hX;simp only[ex];refine sV (λh=>absurd h hck) (λ_=>?_);exact k2 hck N2 _ _ _ _ _ (g1.trans g2) ho
 rw[anW (by simp[hck])] at hv;obtain⟨tb,rfl,htb⟩:=hv;rw[anW (by simp[hck])] at hX;simp only[ex];refine sV (λ_=>?_) (λh=>absurd rfl h)
 try simp only[rs]
 rw[aA om om,show (hl:Int)+257+((hd:Int)+1)=((hl+257+(hd+1):Nat):Int) by omega];have g12:=g1.trans g2;refine VK 0 ho rfl htb hcl (hrp.le g12) (.inr rfl) hpi hs om (λe1 e2 e3 e4 way' lv W hw' ho=>?_) (λe1 way' p' W ho=>?_)
 rotate_left
 ·rw[anX e1] at hX;subst hX;exact k2 e1 N2 _ _ _ _ _ g12 ho
 rw[anW (by rw[e1];decide)] at hX;generalize Fl.lens cl s (hl+257+(hd+1)) (p+14+3*(hc+4))=r at hX e2 e3 e4 ho;obtain⟨l,q,e⟩:=r;dsimp only at hX e2 e3 e4 ho;obtain⟨N3,g3,hrow,ho⟩:=OwnS.cI (L:=Fs fb rb s most ov way' q out (.mem N2::T)) ho 3 rfl;have ho:OwnS S w0 W (Fs fb rb s most ov way' q out (.mem N3::T)):=ho;have g13:=g12.trans g3;have h256:256 < l.length:=om
 obtain⟨b6,off,r1,r2⟩:=eX (hrow.now (ho.hasM 3 rfl)) h256;refine aC (r1 W) |>.mpr (aC (aB bP r2) |>.mpr ?_);have hgd:l.getD 256 0=l[256]:=by rw[aoE,aoI h256];rfl
 try simp only[rs]
 refine jE (λe5=>?_) (λe5=>?_)
 rotate_left
 ·have:=apM e5;rw[anX (by rw[hgd];omega)] at hX;subst hX;exact k2 (by dsimp only;decide) N3 _ _ _ _ _ g13 ho
 have e5:=aoU e5;rw[anW (by rw[hgd];omega)] at hX;obtain⟨la,lc,hlv,hcap⟩:=hrow.form;rw[hlv] at hrow ⊢;have ho:=ho.drew;refine⟨λ_=>True,trivial,?_⟩;refine aL _ (λ_=>jB aoQ szI1 om om) (aL _ (λ_=>dG aoQ szI1 om om) ?_);have hA:SlA N3.A N3.w (.slice (subA la 0 lc 1) (hl+257) lc) 1 (l.take (hl+257)).length (aM (l.take (hl+257))):=by
  have:=hrow.Rl (i:=hl+257) om om;rw[aoH,apI om];rw[aoS] at this;have e:aM (l.take (hl+257))=(aM l).take (hl+257):=by unfold aM;rw[atB]
  rw[e];exact this
 have hB:SlA N3.A N3.w (.slice (subA la (hl+257) lc 1) (l.length - (hl+257)) (lc - (hl+257))) 1 (l.drop (hl+257)).length (aM (l.drop (hl+257))):=by
  have:=hrow.Ud (i:=hl+257) om;rw[aoJ];rw[aoS] at this;have e:aM (l.drop (hl+257))=(aM l).drop (hl+257):=by unfold aM;rw[List.map_drop]
  rw[e];exact this
 rw[show ((hl:Int)+257).toNat=hl+257 by omega];have t15:∀x∈l.take (hl+257),x<=15:=λx hx=>e4 x (aqV hx);have d15:∀x∈l.drop (hl+257),x<=15:=λx hx=>e4 x (arZ hx);have tl:(l.take (hl+257)).length=hl+257:=by rw[aoH];omega
 have dl:(l.drop (hl+257)).length=hd+1:=by rw[aoJ];omega
 generalize l.take (hl+257)=near at hX hA t15 tl;generalize l.drop (hl+257)=far at hX hB d15 dl;refine bI ho 3 rfl (Ga near _ N3 _ t15 om om (ho.hasM 3 rfl) hA) ?_;intro v N4 w8 g4 hv ho;have ho:OwnS S w0 w8 (Fs fb rb s most ov way' q out (.mem N4::T)):=ho;have g14:=g13.trans g4;refine⟨trivial,?_⟩;by_cases hck2:az near=0
 case neg=>
  rw[anX hck2] at hv;subst hv;rw[anX hck2] at hX;subst hX;refine LS (GA ?_);refine sV (λh=>absurd h hck2) (λ_=>?_)
  repeat intro _
  exact k2 hck2 N4 _ _ _ _ _ g14 ho
 rw[anW (by simp[hck2])] at hv;obtain⟨tn,rfl,htn⟩:=hv;rw[anW (by simp[hck2])] at hX;refine LS (GA ?_);refine sV (λ_=>?_) (λh=>absurd rfl h);refine⟨trivial,?_⟩;refine bI ho 3 rfl (Ga far _ N4 _ d15 om om (ho.hasM 3 rfl) (hB.le g4)) ?_;intro v N5 w9 g5 hv ho;have ho:OwnS S w0 w9 (Fs fb rb s most ov way' q out (.mem N5::T)):=ho;have g15:=g14.trans g5;refine⟨trivial,?_⟩;by_cases hck3:az far=0
 case neg=>
  rw[anX hck3] at hv;subst hv;rw[anX hck3] at hX;subst hX;refine LS (GA ?_);refine sV (λh=>absurd h hck3) (λ_=>?_)
  repeat intro _
  exact k2 hck3 N5 _ _ _ _ _ g15 ho
 rw[anW (by simp[hck3])] at hv;obtain⟨tf,rfl,htf⟩:=hv;rw[anW (by simp[hck3])] at hX;refine LS (GA ?_);refine sV (λ_=>?_) (λh=>absurd rfl h);refine⟨trivial,?_⟩;refine WZ 0 ho rfl (htn.le g5) htf om om hw' e2 hs hmo hol (λh1 h2 h3 way' ov' W hw' ho=>?_) (λh1 ov' way' p' out' W ho=>?_)
 ·refine⟨trivial,?_⟩;rw[hX] at h1 h2 h3 ho;exact k1 h1 h2 h3 N5 way' ov' W g15 hw' ho
 ·rw[hX] at h1 ⊢
  repeat intro _
  exact k2 h1 N5 ov' way' p' out' W g15 ho
theorem acX {ov:ao}{s:List UInt8}{out:List UInt8}{T:List Ent}(ho:OwnS S w0 w (Fs fb rb s most ov way p out (.mem M::T)))(hrp:Rp M)(hod:Od M)(hw:way=0∨way=1)(hp:p<=8*s.length)(hs:s.length<=1000000000)(hmo:most<=1000000000)(hol:out.length<=most)
  (k0:8*s.length < p+1->∀N ov' way' p' out' W,M.le N->OwnS S w0 W (Fs fb rb s most ov' way' p' out' (.mem N::T))->PK [upI 4] W)
  (k1:p+1<=8*s.length->(bt s most (p+1) out).2.2=0->(bt s most (p+1) out).2.1<=8*s.length->(bt s most (p+1) out).1.length<=most->∀N way' ov' W,M.le N->(way'=0∨way'=1)->OwnS S w0 W (Fs fb rb s most ov' way' (bt s most (p+1) out).2.1 (bt s most (p+1) out).1 (.mem N::T))->K (.bool (ai (Fl.num s p 1=1))) W)
  (k2:p+1<=8*s.length->(bt s most (p+1) out).2.2≠0->∀N ov' way' p' out' W,M.le N->OwnS S w0 W (Fs fb rb s most ov' way' p' out' (.mem N::T))->PK [upI (bt s most (p+1) out).2.2] W) :
  CallX ah 274 #[.pointer (aw ⟨fb,0,av⟩)] w PK K:=by
 refine⟨vN ?_⟩;unfold oK nz;refine rE (n:=1) 0 1 ho rfl rfl hw hp om hs (λe1 W1 ho=>?_) (λe1 W1 ho=>?_)
 rotate_left
 ·exact k0 e1 M _ _ _ _ _ M.le_refl ho
 have ho:OwnS S w0 W1 (Fs fb rb s most ov 1 (p+1) out (.mem M::T)):=ho;have k1:=k1 e1;have k2:=k2 e1;generalize hX:bt s most (p+1) out=X at k1 k2;unfold bt at hX
 try simp only[rs]
 rw[show ai ((Fl.num s p 1:Int)=1)=ai (Fl.num s p 1=1) by congr 1;exact propext om];refine join λJ hJ=>?_;have fin:∀N way' ov' W,M.le N->(way'=0∨way'=1)->X.2.2=0->X.2.1<=8*s.length->X.1.length<=most->OwnS S w0 W (Fs fb rb s most ov' way' X.2.1 X.1 (.mem N::T))->J [] W:=by
  intro N way' ov' W hle hw' h1 h2 h3 ho;refine hJ _ _ λ_=>?_;simp only[kJ,nz];exact k1 h1 h2 h3 N way' ov' W hle hw' ho
 refine rE (n:=2) 0 1 ho rfl rfl (.inr rfl) e1 om hs (λe2 W2 ho=>?_) (λe2 W2 ho=>?_)
 rotate_left
 ·rw[anX e2] at hX;subst hX;exact k2 (by dsimp only;decide) M _ _ _ _ _ M.le_refl ho
 rw[anW om] at hX;have ho:OwnS S w0 W2 (Fs fb rb s most ov 1 (p+1+2) out (.mem M::T)):=ho
 try simp only[rs]
 by_cases hk0:Fl.num s (p+1) 2=0
 ·simp only[show ai ((Fl.num s (p+1) 2:Int)=0)=au from anZ om,i_t];rw[anX hk0] at hX;refine Zo ho (.inr rfl) e2 hs hmo hol (λh1 h2 h3 way' ov' W hw' ho=>?_) (λh1 ov' way' p' out' W ho=>?_)
  ·rw[hX] at h1 h2 h3 ho;exact fin M way' ov' W M.le_refl hw' h1 h2 h3 ho
  ·rw[hX] at h1 ⊢;exact k2 h1 M _ _ _ _ _ M.le_refl ho
 simp only[show ai ((Fl.num s (p+1) 2:Int)=0)=aq from anY om,i_f];rw[anW hk0] at hX
 try simp only[rs]
 by_cases hk1:Fl.num s (p+1) 2=1
 ·simp only[show ai ((Fl.num s (p+1) 2:Int)=1)=au from anZ om,i_t];rw[anX hk1] at hX;refine aaX ho (.inr rfl) e2 hs hmo hol (λh1 h2 h3 N way' ov' W hle hw' ho=>?_) (λh1 N ov' way' p' out' W hle ho=>?_)
  ·rw[hX] at h1 h2 h3 ho;exact fin N way' ov' W hle hw' h1 h2 h3 ho
  ·rw[hX] at h1 ⊢;exact k2 h1 N _ _ _ _ _ hle ho
 simp only[show ai ((Fl.num s (p+1) 2:Int)=1)=aq from anY om,i_f];rw[anW hk1] at hX
 try simp only[rs]
 by_cases hk2:Fl.num s (p+1) 2=2
 ·simp only[show ai ((Fl.num s (p+1) 2:Int)=2)=au from anZ om,i_t];rw[anX hk2] at hX;refine UL ho hrp hod (.inr rfl) e2 hs hmo hol (λh1 h2 h3 N way' ov' W hle hw' ho=>?_) (λh1 N ov' way' p' out' W hle ho=>?_)
  ·rw[hX] at h1 h2 h3 ho;exact fin N way' ov' W hle hw' h1 h2 h3 ho
  ·rw[hX] at h1 ⊢;exact k2 h1 N _ _ _ _ _ hle ho
 simp only[show ai ((Fl.num s (p+1) 2:Int)=2)=aq from anY om,i_f];rw[anW hk2] at hX;subst hX;exact jE (λh=>absurd h dc) λ_=>k2 (by dsimp only;decide) M _ _ _ _ _ M.le_refl ho
end
end
section
open Eng
def bL (x0:Deferred)(x1:ao)(x2:ao)(x3:ao)(K:Ending->ak->Prop):=pd ah [.cell x1 9,.cell x2 3,.cell x3 30] K [x0]
def Bh(a b c d d1 w)(N2:JT)(K:KT):=
 CallX ah 274 #[d] w (bL d1 a b c K) λe w=>DoX ah (mUn .not e) w (bL d1 a b c K) λf w=>IfX f (AtX [d1] [d1] (N2 [] w)) (QuietX w (λC3=>QDo ah C3 (mNil d) λg=>QDo ah C3 (mFA 278 g 1) λh=>QDo ah C3 (aJ 53 h) λi=>QDo ah C3 (fA 53 9 i) λj=>QDo ah C3 (mNil d) λk=>QDo ah C3 (mFA 278 k 0) λl=>QDo ah C3 (aJ 275 l) λm=>QCall ah C3 275 #[m] λn=>
 ∀w,C3 w ->
 DoX ah (aV 9 a j) w (bL d1 a b c K) λ_ w=>DoX ah (aV 3 b n) w (bL d1 a b c K) λ_ w=>DoX ah (aV 30 c (iN 0)) w (bL d1 a b c K) λ_ w=>Ej ah [.cell a 9,.cell b 3,.cell c 30] K [d1] .returning w))
def FO(e d w)(K:KT):=
 alx 9 w K λa w=>alx 3 w K λb w=>alx 30 w K λc w=>dx (TV (.func 271) #[] #[a,b,c]) w K λf w=>DfrX (dfrV f #[]) (λd1=>DoX ah (mBin .geq 3 d (iN 0)) w (bL d1 a b c K) λg w=>CallX ah 272 #[g,(iN 1)] w (bL d1 a b c K) λl w=>CallX ah 273 #[e] w (bL d1 a b c K) λh w=>DoX ah (mB .min #[3,3] 3 #[aq,au] #[d,(iN 1048576)]) w (bL d1 a b c K) λi w=>DoX ah (bA 278 #[(0,h),(2,i)]) w (bL d1 a b c K) λj w=>DoX ah (mBox 278 j) w (bL d1 a b c K) λk w=>LoopX [] w (λvs2 w N2=>∀_:Sg,Bh a b c k d1 w N2 K))
theorem Il:FO t0 t1 w k0->Calls ah 239 #[t0,t1] w k0:=cz [] [(4,[])] func239
end
section
open Eng
def dS(w)(K:KT):=
 K (.returned (.tuple #[])) w
def jX(d a b r w)(K:KT):=
 eqx .eql 20 (.tmp 6) (.const .nilIface) r .nilIface w K λg w=>IfX g (K (.returned (.tuple #[])) w) (dx (mTA r 20 273 au) w K λf w=>exx f 1 w K λh w=>exx f 0 w K λi w=>IfX h (alx 273 w K λc w=>stx 273 c i w K λ_ w=>DrawX w (λw=>(fax 273 c 0 w K λe w=>(ldx 30 e w K λj w=>stx 9 d (.string ⟨#[]⟩) w K λ_ w=>stx 3 a (iN 0) w K λ_ w=>stx 30 b j w K λ_ w=>dS w K)∧(stx 9 d (.string ⟨#[]⟩) w K λ_ w=>(ldx 30 e w K λt13_1 w=>stx 3 a (iN 0) w K λ_ w=>stx 30 b t13_1 w K λ_ w=>dS w K)∧(stx 3 a (iN 0) w K λ_ w=>ldx 30 e w K λt13_2 w=>stx 30 b t13_2 w K λ_ w=>dS w K)))∧(stx 9 d (.string ⟨#[]⟩) w K λ_ w=>(fax 273 c 0 w K λt12_1 w=>(ldx 30 t12_1 w K λt13_3 w=>stx 3 a (iN 0) w K λ_ w=>stx 30 b t13_3 w K λ_ w=>dS w K)∧(stx 3 a (iN 0) w K λ_ w=>ldx 30 t12_1 w K λt13_4 w=>stx 30 b t13_4 w K λ_ w=>dS w K))∧(stx 3 a (iN 0) w K λ_ w=>fax 273 c 0 w K λt12_2 w=>ldx 30 t12_2 w K λt13_5 w=>stx 30 b t13_5 w K λ_ w=>dS w K)))) (dx (Ho r) w K λ_ w=>K (.returned (.tuple #[])) w))
theorem EI (t0 t1 t2 r:ao)(w:ak)(K:Ending->ak->Prop):wpX ah 14 [] [] av (Zn (DD f271)) (topD ah [] K) (upd (lQ [t0,t1,t2]) 6 r) [] w=jX t0 t1 t2 r w K:=krx
theorem rP {t1 t2:ao}{R:Ending->FrameMode->ak->Prop}(h:jX t0 t1 t2 (recV u) w (λe w=>R e (recM u) w)):CallsD ah 271 #[t0,t1,t2] u w R:=
 uQ func271 rfl rfl rfl rfl rfl rfl rfl rfl (Eq.mpr (EI t0 t1 t2 (recV u) w _) h)
end
end Go.Proofs.YtlipjfcbjemicaaGreatDoor
