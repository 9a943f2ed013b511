/- Texts that go together: FeA SRef16 FeB FeC EngAI SFiltR FeD FeE Plain16N Plain16C Plain16D Plain16E Plain16F Plain16G Plain16H Plain16I Plain16J Plain16K Plain16L PlainSrt PlainSrtB PlainSrtC SSlcS DfE DfF. -/
import Derived.Test.YtlipjfcbjemicaaGreatDoorRows
import Derived.Test.YtlipjfcbjemicaaGreatDoorMmogppjjb
import Derived.Test.YtlipjfcbjemicaaGreatDoorMmobppmkb
import Derived.Test.YtlipjfcbjemicaaGreatDoorMmflabinf
import Derived.Test.YtlipjfcbjemicaaGreatDoorMnegemnlf
import Derived.Test.YtlipjfcbjemicaaGreatDoorMnnoonhij
set_option linter.defProp false
set_option linter.unusedSimpArgs false
set_option linter.unusedVariables false
set_option maxRecDepth 20000
open Go.Proofs.Tryz (prog)
namespace Go.Proofs.YtlipjfcbjemicaaGreatDoor
variable{B Sy cl counts l near:List Nat}{C:World->Prop}{K:VWP}{L:List Eng.Ent}{M:Eng.Mem}{P:Program}{PK:PKT}{R:Ending->FrameMode->World->Prop}{S:Nat->Prop}{W w w0:World}{a colors:Int}{above key:List UInt8}{aj:List (Nat×List Nat)}{args:Array Value}{b cap d f i id j jm m most p t:Nat}{cs:List Value}{cv t0 v vc vk:Value}{fn:Func}{o:Ob}{os:List Ob}{q:Bool}{u:FrameMode}{x:Pm}{α:Type}
section
open Eng Go.RowKit
namespace Ff
abbrev nHx:List UInt8:=[65,83,67,73,73,72,101,120,68,101,99,111,100,101]
abbrev n85:List UInt8:=[65,83,67,73,73,56,53,68,101,99,111,100,101]
abbrev nRL:List UInt8:=[82,117,110,76,101,110,103,116,104,68,101,99,111,100,101]
abbrev nFl:List UInt8:=[70,108,97,116,101,68,101,99,111,100,101]
abbrev aU:List UInt8:=[70,105,108,116,101,114]
abbrev dW:List UInt8:=[68,101,99,111,100,101,80,97,114,109,115]
abbrev UT:List UInt8:=[80,114,101,100,105,99,116,111,114]
abbrev V1:List UInt8:=[67,111,108,111,114,115]
abbrev Vg:List UInt8:=[67,111,108,117,109,110,115]
abbrev Uq:List UInt8:=[66,105,116,115,80,101,114,67,111,109,112,111,110,101,110,116]
def full (n:List UInt8):List UInt8:=
 if n=[65,72,120]∨n=nHx then nHx
 else if n=[65,56,53]∨n=n85 then n85
 else if n=[82,76]∨n=nRL then nRL
 else if n=[70,108]∨n=nFl then nFl
 else []
def cJ:Pm:=⟨1,1,1⟩
def num (o:Ob)(key:List UInt8):Int×Int:=match Vl.get o key with|none=>(1,0)|some v=>if v.k=2 then (v.n,0) else (0,10)
def parm (o:Ob):Pm×Int:=
 if o.k=0 then (cJ,0)
 else if o.k=7∧(num o UT).2=0∧(num o V1).2=0∧(num o Vg).2=0 then (⟨(num o UT).1,(num o V1).1,(num o Vg).1⟩,0)
 else (⟨0,0,0⟩,10)
def eight (o:Ob):Bool:=match Vl.get o Uq with|none=>true|some v=>decide (v.k=2)&&decide (v.n=8)
theorem nG (n:List UInt8):full n=nHx∨full n=n85∨full n=nRL∨full n=nFl∨full n=[]:=by
 unfold full
 repeat' split
 all_goals simp
end Ff
theorem BC (n:List UInt8)(w:World):Ret prog 80 #[.string ⟨n.toArray⟩] w (fun v w'=>v=.tuple #[.string ⟨(Ff.full n).toArray⟩,.bool (decide (Ff.full n≠[]))]∧w=w'):=by
 refine aP fun K hK=>EL ?_;unfold Cq eqx;refine join fun J1 h1=>join fun J2 h2=>join fun J3 h3=>join fun J4 h4=>join fun J5 h5=>?_;have fin:∀m:List UInt8,m=Ff.full n->m≠[]->J1 [.string ⟨m.toArray⟩] w:=fun m hm hne=>h1 _ _ fun _=>by
  simp only[wB,gd];exact hK _ _ ⟨by rw[<-hm,ahB hne],rfl⟩
 have f5:∀m:List UInt8,m=Ff.full n->m≠[]->J5 [.string ⟨m.toArray⟩] w:=fun m hm hne=>h5 _ _ fun _=>by
  simp only[yT,gd];exact fin m hm hne
 have f4:∀m:List UInt8,m=Ff.full n->m≠[]->J4 [.string ⟨m.toArray⟩] w:=fun m hm hne=>h4 _ _ fun _=>by
  simp only[wO,gd];exact fin m hm hne
 have f3:∀m:List UInt8,m=Ff.full n->m≠[]->J3 [.string ⟨m.toArray⟩] w:=fun m hm hne=>h3 _ _ fun _=>by
  simp only[yP,gd];exact fin m hm hne
 have f2:∀m:List UInt8,m=Ff.full n->m≠[]->J2 [.string ⟨m.toArray⟩] w:=fun m hm hne=>h2 _ _ fun _=>by
  simp only[yN,gd];exact fin m hm hne
 clear h1 h2 h3 h4 h5 fin;rw[HB];by_cases c1:n=[65,72,120]
 ·rw[ahB c1,i_t];exact f5 _ (by unfold Ff.full;rw[agW (.inl c1)]) dc
 rw[ahA c1,i_f,HB];by_cases c2:n=Ff.nHx
 ·rw[ahB c2,i_t];exact f5 _ (by unfold Ff.full;rw[agW (.inr c2),c2]) (by rw[c2];decide)
 rw[ahA c2,i_f,HB];by_cases c3:n=[65,56,53]
 ·rw[ahB c3,i_t];exact f4 _ (by unfold Ff.full;rw[agV (by simp[c1,c2]),agW (.inl c3)]) dc
 rw[ahA c3,i_f,HB];by_cases c4:n=Ff.n85
 ·rw[ahB c4,i_t];exact f4 _ (by unfold Ff.full;rw[agV (by simp[c1,c2]),agW (.inr c4),c4]) (by rw[c4];decide)
 rw[ahA c4,i_f,HB];by_cases c5:n=[82,76]
 ·rw[ahB c5,i_t];exact f3 _ (by unfold Ff.full;rw[agV (by simp[c1,c2]),agV (by simp[c3,c4]),agW (.inl c5)]) dc
 rw[ahA c5,i_f,HB];by_cases c6:n=Ff.nRL
 ·rw[ahB c6,i_t];exact f3 _ (by unfold Ff.full;rw[agV (by simp[c1,c2]),agV (by simp[c3,c4]),agW (.inr c6),c6]) (by rw[c6];decide)
 rw[ahA c6,i_f,HB];by_cases c7:n=[70,108]
 ·rw[ahB c7,i_t];exact f2 _ (by unfold Ff.full;rw[agV (by simp[c1,c2]),agV (by simp[c3,c4]),agV (by simp[c5,c6]),agW (.inl c7)]) dc
 rw[ahA c7,i_f,HB];by_cases c8:n=Ff.nFl
 ·rw[ahB c8,i_t];exact f2 _ (by unfold Ff.full;rw[agV (by simp[c1,c2]),agV (by simp[c3,c4]),agV (by simp[c5,c6]),agW (.inr c8),c8]) (by rw[c8];decide)
 rw[ahA c8,i_f];have e:Ff.full n=[]:=by unfold Ff.full;rw[agV (by simp[c1,c2]),agV (by simp[c3,c4]),agV (by simp[c5,c6]),agV (by simp[c7,c8])]
 exact hK _ _ ⟨by rw[e];rfl,rfl⟩
theorem Is (n:List UInt8)(w:World):Ret prog 52 #[.string ⟨n.toArray⟩] w (fun v w'=>v=.bool (decide (Ff.full n≠[]))∧w=w'):=by
 refine aP fun K hK=>DC ?_;unfold Aw nz;refine c_eq (BC n w) ?_;simp only[ex];exact hK _ _ ⟨rfl,rfl⟩
theorem abF {b c:Int}:DoX prog (aZ 27 #[(0,.int .i64 a),(1,.int .i64 b),(2,.int .i64 c)]) w PK K=K (pmV ⟨a,b,c⟩) w:=aE krx
theorem XP (ho:OwnS S w0 w L)(k:∀b w',OwnS S w0 w' (pmE b ⟨0,0,0⟩::L)->K (.pointer (some ⟨b,0,none⟩)) w'):DoX prog (Da 27) w PK K:=
 bC (fun b=>.pointer (some ⟨b,0,none⟩)) (pmC ⟨0,0,0⟩) 27 (fun _=>by kernel_rfl) ho k
theorem Oz (i:Nat)(y:Pm)(ho:OwnS S w0 w L)(hi:L[i]?=some (pmE b x))(k:∀w',OwnS S w0 w' (L.set i (pmE b y))->K undef w'):DoX prog (aS 27 (.pointer (some ⟨b,0,none⟩)) (pmV y)) w PK K:=
 iE i ho hi szPm MU rfl k
theorem rP (w:World):Ret prog 135 #[] w (fun v w'=>v=pmV Ff.cJ∧Below w.heap.size w w'):=by
 refine aP fun K hK=>DV ?_;unfold AE nz;refine XP (Own.start w) fun b w1 ho=>?_;rw[abF];refine Oz 0 Ff.cJ ho rfl fun w2 ho=>?_;exact iW (bH (ho.agg 0 rfl Fg)) (hK _ _ ⟨rfl,ho.done⟩)
theorem ZI:kT prog 107=true:=krx
def upF (e:Int):PanicEntry:={ v:=.iface 107 (.agg #[.int .i64 e]),recovered:=false }
theorem YT (e:Int)(w:World):Ret prog 78 #[.bool true,.int .i64 e] w (fun v w'=>v=.tuple #[]∧w=w'):=by
 refine aP fun K hK=>uD ?_;unfold tL nz;simp only[rs,aiQ,i_f];exact hK _ _ ⟨rfl,rfl⟩
theorem Xl (e:Int)(w:World):Pan prog 78 #[.bool false,.int .i64 e] w (fun c w'=>c=[upF e]∧w=w'):=by
 refine RG fun K hK=>uD ?_;unfold tL nz;simp only[rs,aiR,i_t];have hb:∀{PK:PKT} {K:VWP},DoX prog (aZ 107 #[(0,.int .i64 e)]) w PK K=K (.agg #[.int .i64 e]) w:=aE krx;rw[hb,I3 ZI,Gu];exact hK _ _ ⟨rfl,rfl⟩
section
variable {w:World}{PK:PKT}{K:VWP}{S:Nat->Prop}{w0:World}{L:List Ent}
theorem nB {e:Int}(kt:q=true->K (.tuple #[]) w)(kf:q=false->PK [upF e] w):CallX prog 78 #[.bool q,.int .i64 e] w PK K:=by
 cases q with
|true=>exact c_eq (YT e w) (kt rfl)
|false=>exact XJ (Xl e w) fun c w' ⟨hc,hw⟩=>by subst hc;subst hw;exact kf rfl
theorem QL (ho:OwnS S w0 w (.mem M::L))(hw:o.wt<=100000000000)(hv:OV M.A M.w v o)
  (kt:(Ff.num o key).2=0->∀N W,M.le N->OwnS S w0 W (.mem N::L)->K (.int .i64 (Ff.num o key).1) W)
  (kf:(Ff.num o key).2≠0->∀N W,M.le N->OwnS S w0 W (.mem N::L)->PK [upF 10] W):CallX prog 208 #[v,.string ⟨key.toArray⟩] w PK K:=by
 obtain⟨vk,vc,cs,rfl,ha⟩:=hv.open;generalize hX:Ff.num o key=X at kt kf;unfold Ff.num at hX;refine⟨Br ?_⟩;unfold wU nz;refine eW o ha.keys.one ha.kids.one ho fun b2 w1 ho=>?_;rw[ob_v ho 0 rfl];refine bF ho 1 rfl (FC o _ key M w1 hw (ho.hasM 1 rfl) hv) ?_;rintro _ N w2 hle ⟨t,rfl,ht⟩ ho;obtain⟨tk,tc,rfl,ht⟩:=I4 ht;simp only[getV,ex];refine eX ho fun b5 w4 ho=>?_;refine bD 0 ht.oneK ht.oneC ho rfl fun w5 ho=>?_;have drop:∀{W:World} {e f:Ent},OwnS S w0 W (e::f::.mem N::L)->OwnS S w0 W (.mem N::L):=fun ho=>ho.tail.tail;have ho:OwnS S w0 w5 (obE b5 ((Vl.get o key).getD Vl.ob0) tk tc::obE b2 o vk vc::.mem N::L):=ho;cases hg:Vl.get o key with
|none=>
  rw[hg] at hX ho;simp only[anB,rs,aiR,i_t];rw[<-hX] at kt;exact kt rfl N w5 hle (drop ho)
|some x=>
  rw[hg] at hX ho;dsimp only at hX;rw[alD] at ho;simp only[anC,rs,aiQ,i_f];rw[fI,ob_k ho 0 rfl];simp only[rs];refine nB (fun h=>?_) (fun h=>?_)
  ·have h:=ahO h;rw[agW h] at hX;rw[DI,ob_n ho 0 rfl];rw[<-hX] at kt;exact kt rfl N w5 hle (drop ho)
  ·have h:=aiK h;rw[agV h] at hX;rw[<-hX] at kf;exact kf dc N w5 hle (drop ho)
theorem abL (ho:OwnS S w0 w (.mem M::L))(hw:o.wt<=100000000000)(hv:OV M.A M.w v o)
  (kt:(Ff.parm o).2=0->∀N W,M.le N->OwnS S w0 W (.mem N::L)->K (pmV (Ff.parm o).1) W)
  (kf:(Ff.parm o).2=10->∀N W,M.le N->OwnS S w0 W (.mem N::L)->PK [upF 10] W):CallX prog 147 #[v] w PK K:=by
 obtain⟨vk,vc,cs,rfl,ha⟩:=hv.open;generalize hX:Ff.parm o=X at kt kf;unfold Ff.parm at hX;refine⟨Hg ?_⟩;unfold D9 iN dx ldx fax stx alx ecx cx;refine eW o ha.keys.one ha.kids.one ho fun b1 w1 ho=>?_;refine XP ho fun b2 w2 ho=>?_;rw[fI,ob_k ho 1 rfl];simp only[rs];by_cases h0:o.k=0
 ·rw[agW h0] at hX;simp only[h0,agY,i_t];refine aL ho (rP w2) ?_;rintro _ w3 rfl ho;refine Oz 0 Ff.cJ ho rfl fun w4 ho=>?_;rw[<-hX] at kt;exact iW (bH (ho.agg 0 rfl Fg)) (kt rfl M w4 M.le_refl ho.tail.tail)
 rw[agV h0] at hX;simp only[h0,agX,i_f];rw[fI,ob_k ho 1 rfl];simp only[rs];have bad:∀{N W},¬(o.k=7∧(Ff.num o Ff.UT).2=0∧(Ff.num o Ff.V1).2=0∧(Ff.num o Ff.Vg).2=0)->M.le N->OwnS S w0 W (.mem N::L)->PK [upF 10] W:=by
  intro N W h hle ho;rw[agV h] at hX;rw[<-hX] at kf;exact kf rfl N W hle ho
 refine nB (fun h7=>?_) (fun h7=>bad (fun k=>(aiK h7) k.1) M.le_refl ho.tail.tail);have h7:=ahO h7;have ho:=ho.drew;refine⟨fun W=>(obE b1 o vk vc).is W,ho.at_ 1 rfl,?_⟩;have ld:∀W,(obE b1 o vk vc).is W->(aI 25 (.pointer (some ⟨b1,0,none⟩))).run prog W=.ok (.value (obV o vk vc)) W:=fun W h=>bI (AtV.agg tI (cs:=obC o vk vc) rfl fun j u hj=>by rw[ahJ];exact aG (T:=25) h hj);refine sN _ ld (sN _ ld (sN _ ld ?_));have fr:∀{W:World} {N:Mem},OwnS S w0 W (pmE b2 ⟨0,0,0⟩::obE b1 o vk vc::.mem N::L)->OwnS S w0 W (.mem N::pmE b2 ⟨0,0,0⟩::obE b1 o vk vc::L):=fun {W N} ho=>by
  have ho:OwnS S w0 W ([pmE b2 ⟨0,0,0⟩,obE b1 o vk vc]++([.mem N]++L)):=ho;exact ho.front
 have bk:∀{W:World} {N:Mem} {x:Pm},OwnS S w0 W (.mem N::pmE b2 x::obE b1 o vk vc::L)->OwnS S w0 W (.mem N::L):=fun {W N x} ho=>ho.sub (.cons_cons _ (.cons _ (.cons _ (alR _))));refine QL (fr ho) hw hv (fun e1 N1 W1 l1 ho=>?_) (fun e1 N1 W1 l1 ho=>fun _ _ _ _=>bad (fun k=>e1 k.2.1) l1 (bk ho));refine⟨ho.at_ 2 rfl,?_⟩;refine QL ho hw (hv.le l1) (fun e2 N2 W2 l2 ho=>?_) (fun e2 N2 W2 l2 ho=>fun _ _ _ _=>bad (fun k=>e2 k.2.2.1) (l1.trans l2) (bk ho));refine⟨ho.at_ 2 rfl,?_⟩;refine QL ho hw ((hv.le l1).le l2) (fun e3 N3 W3 l3 ho=>?_) (fun e3 N3 W3 l3 ho=>fun _ _ _ _=>bad (fun k=>e3 k.2.2.2) ((l1.trans l2).trans l3) (bk ho));refine⟨ho.at_ 2 rfl,?_⟩;rw[agW ⟨h7,e1,e2,e3⟩] at hX;refine aM (pmV ⟨(Ff.num o Ff.UT).1,(Ff.num o Ff.V1).1,(Ff.num o Ff.Vg).1⟩) (fun _=>by kernel_rfl) ?_;refine Oz 1 _ ho rfl fun w4 ho=>?_;rw[<-hX] at kt;exact iW (bH (ho.agg 1 rfl Fg)) (kt rfl N3 w4 ((l1.trans l2).trans l3) (bk ho))
end
theorem Pw (o:Ob)(v:Value)(M:Mem)(w:World)(hw:o.wt<=100000000000)(hM:M.has w)(hv:OV M.A M.w v o):RetM prog 148 #[v] M w (fun r _=>r=.bool (Ff.eight o)):=by
 obtain⟨vk,vc,cs,rfl,ha⟩:=hv.open;refine aT hM fun K hK=>DW ?_;generalize hX:Ff.eight o=X at hK;unfold Ff.eight at hX;unfold Ab nz;refine eW o ha.keys.one ha.kids.one (OwnS.memS hM) fun b2 w1 ho=>?_;rw[ob_v ho 0 rfl];refine bF ho 1 rfl (FC o _ Ff.Uq M w1 hw (ho.hasM 1 rfl) hv) ?_;rintro _ N w2 hle ⟨t,rfl,ht⟩ ho;obtain⟨tk,tc,rfl,ht⟩:=I4 ht;simp only[getV,ex];refine eX ho fun b5 w4 ho=>?_;refine bD 0 ht.oneK ht.oneC ho rfl fun w5 ho=>?_;have ho:OwnS M.A w w5 [obE b5 ((Vl.get o Ff.Uq).getD Vl.ob0) tk tc,obE b2 o vk vc,.mem N]:=ho;cases hg:Vl.get o Ff.Uq with
|none=>
  rw[hg] at hX ho;simp only[anB,rs,aiR,g_un,i_t];exact hK _ _ N _ 2 ho rfl hle (by rw[<-hX])
|some x=>
  rw[hg] at hX ho;dsimp only at hX;rw[alD] at ho;simp only[anC,rs,aiQ];rw[fI,ob_k ho 0 rfl];simp only[rs];by_cases h2:x.k=2
  ·simp only[h2,agY,rs];rw[DI,ob_n ho 0 rfl];simp only[rs];exact hK _ _ N _ 2 ho rfl hle (by rw[<-hX,h2];rfl)
  ·simp only[h2,agX,rs,g_un];exact hK _ _ N _ 2 ho rfl hle (by rw[<-hX,ahA h2];rfl)
end
end Go.Proofs.YtlipjfcbjemicaaGreatDoor

namespace Go.Proofs.YtlipjfcbjemicaaGreatDoor
variable{B Sy cl counts l near:List Nat}{C:World->Prop}{K:VWP}{L:List Eng.Ent}{M:Eng.Mem}{P:Program}{PK:PKT}{R:Ending->FrameMode->World->Prop}{S:Nat->Prop}{W w w0:World}{a colors:Int}{above key:List UInt8}{aj:List (Nat×List Nat)}{args:Array Value}{b cap d f i id j jm m most p t:Nat}{cs:List Value}{cv t0 v vc vk:Value}{fn:Func}{o:Ob}{os:List Ob}{q:Bool}{u:FrameMode}{x:Pm}{α:Type}
section
open Eng Go.RowKit
theorem aeS (hs:SlA M.A M.w vc 6 os.length cs)(hall:OVs M.A M.w cs os)(hi:i < os.length) :
  ∃b off vk xc,(∀W,(mIA 23 vc (.int .i64 (i:Int))).run prog W=.ok (.value (.pointer (some ⟨b,off,none⟩))) W)∧OV M.A M.w (obV os[i] vk xc) os[i] ∧
   ∀W,M.has W->∀j u,(obC os[i] vk xc)[j]?=some u->W.cell? ⟨b,off+j,none⟩=some u:=by
 obtain⟨b,off,cap,rfl,_⟩:=cB hs.1 om;obtain⟨a,hl,hov,hget⟩:=OVs.get _ _ i hi hall;obtain⟨vk,xc,ocs,he,hoa⟩:=hov.open;have ea:a=obC os[i] vk xc:=by
  unfold obV at he
  injection he with he
  exact congrArg Array.toList he
 subst ea;refine⟨b,off+i*6,vk,xc,fun W=>?_,hov,fun W hW j u hj=>?_⟩
 ·have:=eE (P:=prog) (T:=23) (b:=b) (off:=off) (cap:=cap) (n:=os.length) (k:=.i64) (i:=(i:Int)) (w:=W) ahN szOb om om
  rwa [ahI] at this
 ·obtain⟨b',off',cap',he',hc⟩:=cB (hs.now hW) om;cases he';rw[akL];exact hc _ _ (hget j u hj)
theorem MD {l:List (List UInt8)}(hs:SlA M.A M.w v 1 l.length (bG l))(hi:i < l.length) :
  ∃p,(∀W,(mIA 22 v (.int .i64 (i:Int))).run prog W=.ok (.value (.pointer (some p))) W)∧∀W,M.has W->(aI 9 (.pointer (some p))).run prog W=.ok (.value (.string ⟨l[i].toArray⟩)) W:=by
 obtain⟨b,off,cap,rfl,_⟩:=cB hs.1 om;refine⟨⟨b,off+i,none⟩,fun W=>?_,fun W hW=>?_⟩
 ·have:=eE (P:=prog) (T:=22) (b:=b) (off:=off) (cap:=cap) (n:=l.length) (k:=.i64) (i:=(i:Int)) (w:=W) ahM (show _=some 1 by kernel_rfl) om om;rw[ahI,ahZ] at this;exact this
 ·obtain⟨b',off',cap',he,hc⟩:=cB (hs.now hW) om;cases he;exact aB HI (hc i _ (eM hi))
theorem R7 (x:Pm):(pmC x).length=3:=rfl
theorem pmAt {l:List Pm}(hs:SlA M.A M.w v 3 l.length (l.flatMap pmC))(hi:i < l.length) :
  ∃p,(∀W,(mIA 40 v (.int .i64 (i:Int))).run prog W=.ok (.value (.pointer (some p))) W)∧∀W,M.has W->(aI 27 (.pointer (some p))).run prog W=.ok (.value (pmV l[i])) W:=by
 obtain⟨b,off,cap,rfl,_⟩:=cB hs.1 om;refine⟨⟨b,off+i*3,none⟩,fun W=>?_,fun W hW=>?_⟩
 ·have:=eE (P:=prog) (T:=40) (b:=b) (off:=off) (cap:=cap) (n:=l.length) (k:=.i64) (i:=(i:Int)) (w:=W) amM szPm om om;rw[ahI] at this;exact this
 ·obtain⟨b',off',cap',he,hc⟩:=cB (hs.now hW) om;cases he;refine bI (AtV.agg Fg (cs:=pmC l[i]) rfl fun j u hj=>?_);rw[akL];exact hc _ _ (Eng.zK R7 hi hj)
abbrev pmsE (v:Value)(l:List Pm):Ent:=.recs 27 pmC 3 v l
abbrev stsE (v:Value)(l:List (List UInt8)):Ent:=.urow 9 1 v l.length (bG l)
theorem elPm:elB prog 27 3 24=true:=krx
section
variable {w:World}{PK PK2:PKT}{K:VWP}{S:Nat->Prop}{w0:World}{L:List Ent}
theorem Tx (x:Pm){l:List Pm}{c:Array Bool}(ho:OwnS S w0 w (pmsE v l::L))(hl:l.length<=1000000000)(k:∀v' W,OwnS S w0 W (pmsE v' (l++[x])::L)->K v' W) :
  DoX prog (bN 40 1 #[(0,pmV x)]) w PK fun t w=>DoX prog (mB .append #[40,40] 40 c #[v,t]) w PK2 K:=by
 refine bC (fun b=>.slice (some ⟨b,0,none⟩) 1 1) (pmC x) 27 (fun _=>by kernel_rfl) ho fun b w1 ho=>?_;refine cL 1 amM elPm dc ho rfl (lX (ho.at_ 0 rfl) dc rfl) MU om om fun v' w2 ho=>k v' w2 ?_;have e:pmsE v' (l++[x])=.urow 27 3 v' (l.length+1) (l.flatMap pmC++pmC x):=by
  unfold pmsE Ent.recs;rw[agZ,amC,amN];rfl
 rw[e];exact ho.tail
theorem Nu (x:List UInt8){l:List (List UInt8)}{c:Array Bool}(ho:OwnS S w0 w (stsE v l::L))(hl:l.length<=1000000000)(k:∀v' W,OwnS S w0 W (stsE v' (l++[x])::L)->K v' W) :
  DoX prog (bN 22 1 #[(0,.string ⟨x.toArray⟩)]) w PK fun t w=>DoX prog (mB .append #[22,22] 22 c #[v,t]) w PK2 K:=by
 refine bC (fun b=>.slice (some ⟨b,0,none⟩) 1 1) [.string ⟨x.toArray⟩] 9 (fun _=>by kernel_rfl) ho fun b w1 ho=>?_;refine cL 1 ahM (show elB prog 9 1 16=true by kernel_rfl) dc ho rfl (lX (ho.at_ 0 rfl) dc rfl) (fun u hu=>by rw[aiA.1 hu];rfl) om om fun v' w2 ho=>k v' w2 ?_;have e:stsE v' (l++[x])=.urow 9 1 v' (l.length+1) (bG l++[.string ⟨x.toArray⟩]):=by
  unfold stsE bG;rw[agZ,aiN];rfl
 rw[e];exact ho.tail
theorem Mw (ho:OwnS S w0 w (obE b o vk vc::L))(i:Nat)(hi:L[i]?=some (.mem M))(hov:OV M.A M.w (obV o vk vc) o) :
  ∃N:Mem,M.le N∧SlA N.A N.w (.slice (some ⟨b,0,none⟩) 1 1) 6 1 (obC o vk vc)∧OVs N.A N.w (obC o vk vc) [o]∧OwnS S w0 w (L.set i (.mem N)):=by
 have hb:=ho.at_ 0 rfl;obtain⟨N,h1,h2,h3,h4⟩:=ho.freeze i hi;refine⟨N,h1,⟨?_,fun p l c e _=>?_,fun a l c e=>?_⟩,?_,h4⟩
 ·rw[h2];exact lX hb dc rfl
 ·injection e with e1 _ _
  injection e1 with e1
  rw[<-e1];exact h3 b rfl
 ·injection e with _ e2 e3
  omega
 ·have:=OVs.snoc (a:=obC o vk vc) rfl (hov.le h1) [] [] OVs.nil;exact this
end
end
section
open Eng Go.RowKit
def Ye:Value->Nat|.slice _ n _=>n|_=>0
namespace Ff
def filt (o:Ob):List Ob:=match Vl.get o aU with|none=>[]|some f=>if f.k=6 then f.kids else [f]
def rS (o:Ob):List Ob×Int:=match Vl.get o dW with|none=>([],0)|some d=>if d.k=6 then (d.kids,0) else if d.k=7 then ([d],0) else ([],10)
def rQ (o:Ob)(many:Nat):List Pm×Int:=
 if (rS o).2≠0 then ([],10)
 else if (rS o).1.any (fun x=>decide ((parm x).2≠0))=true then ([],10)
 else if many < (rS o).1.length then ([],1)
 else if (rS o).1.any (fun x=>!eight x)=true then ([],1)
 else ((rS o).1.map (fun x=>(parm x).1)++List.replicate (many - (rS o).1.length) cJ,0)
theorem VG {x:Ob}(h:x∈(rS o).1):x.wt<=o.wt:=by
 unfold rS at h;cases hg:Vl.get o dW with
|none=>rw[hg] at h;simp at h
|some f=>
  rw[hg] at h;have hf:=Vl.St hg;dsimp only at h;split at h
  ·obtain⟨i,hi,rfl⟩:=akH (show x∈f.kids from h);have:=Es hi;omega
  split at h
  ·rw[aiA.1 h];exact hf
  ·simp at h
theorem pP {o:Ob}:o.kids.length<=o.wt:=by
 have:=Ob.wK o.kids;cases o;simp only[Ob.kids] at *;rw[Ob.wt];omega
theorem Pa (h:o.wt<=1000000000):(filt o).length<=1000000000:=by
 unfold filt;cases hg:Vl.get o aU with
|none=>exact ahW _
|some f=>
  have hf:=Vl.St hg;dsimp only;split
  ·have:=@pP f;omega
  ·exact (by decide:(1:Nat)<=1000000000)
theorem Rx (h:o.wt<=1000000000):(rS o).1.length<=1000000000:=by
 unfold rS;cases hg:Vl.get o dW with
|none=>exact ahW _
|some f=>
  have hf:=Vl.St hg;dsimp only;split
  ·have:=@pP f;show f.kids.length<=_;omega
  split
  ·exact (by decide:(1:Nat)<=1000000000)
  ·exact ahW _
end Ff
section
variable {w:World}{PK:PKT}{K:VWP}{S:Nat->Prop}{w0:World}{L:List Ent}
structure LsAt (M:Mem) (v:Value) (os:List Ob) (cs:List Value):Prop where
 sl:SlA M.A M.w v 6 os.length cs
 all:OVs M.A M.w cs os
theorem LsAt.le {M N:Mem}{v:Value}{os:List Ob}{cs:List Value}(h:M.le N)(k:LsAt M v os cs):LsAt N v os cs:=⟨k.sl.le h,k.all.le h⟩
theorem ZC (M:Mem):LsAt M nilS [] []:=⟨SlA.nil _ _ _ _,OVs.nil⟩
theorem RE (h:OV M.A M.w (obV o vk vc) o):∃cs,LsAt M vc o.kids cs:=by
 obtain⟨cs,ha⟩:=h.slices;exact⟨cs,ha.kids,ha.all⟩
theorem Ly (h:LsAt M v os cs):DoX prog (mB .len #[23] 3 #[false] #[v]) W PK K=K (.int .i64 (os.length:Int)) W:=by
 obtain⟨a,cap,rfl,_⟩:=h.sl.form;exact bA ahN
theorem M7 (h:LsAt M v os cs)(hi:i < os.length)(hM:M.has w){PK2:PKT}(k:∀vk vc,OV M.A M.w (obV os[i] vk vc) os[i]->K (obV os[i] vk vc) w) :
  DoX prog (mIA 23 v (.int .i64 (i:Int))) w PK fun t w=>DoX prog (aI 25 t) w PK2 K:=by
 obtain⟨b,off,vk,xc,hia,hov,hcell⟩:=aeS h.sl h.all hi;refine aE (hia w) |>.mpr ?_;refine aE (bI (AtV.agg tI (cs:=obC os[i] vk xc) rfl (hcell w hM))) |>.mpr ?_;exact k vk xc hov
theorem Rd (ho:OwnS S w0 w (.mem M::L))(hw:o.wt<=1000000000)(hv:OV M.A M.w v o)
  (kt:(∀x∈Ff.filt o,x.k=5)->∀vn N W,M.le N->SlA N.A N.w vn 1 ((Ff.filt o).map Ob.s).length (bG ((Ff.filt o).map Ob.s))->OwnS S w0 W (.mem N::L)->K vn W)
  (kf:¬(∀x∈Ff.filt o,x.k=5)->∀N W,M.le N->OwnS S w0 W (.mem N::L)->PK [upF 10] W):CallX prog 79 #[v] w PK K:=by
 obtain⟨vk,vc,ocs,rfl,ha⟩:=hv.open;have hfl:=Ff.Pa hw;generalize hX:Ff.filt o=X at kt kf hfl;unfold Ff.filt at hX;refine⟨Cw ?_⟩;unfold xP nz;refine eW o ha.keys.one ha.kids.one ho fun b1 w1 ho=>?_;rw[ob_v ho 0 rfl];refine bF ho 1 rfl (FC o _ Ff.aU M w1 om (ho.hasM 1 rfl) hv) ?_;rintro _ N w2 hle ⟨x,rfl,hx⟩ ho;obtain⟨xk,xc,rfl,hx⟩:=I4 hx;simp only[getV,ex];refine eX ho fun b3 w3 ho=>?_;refine bD 0 hx.oneK hx.oneC ho rfl fun w4 ho=>?_;rw[ob_v ho 0 rfl];refine Gd _ hx.oneK hx.oneC ho fun nb w5 ho=>?_;have ho:OwnS S w0 w5 (obE nb ((Vl.get o Ff.aU).getD Vl.ob0) xk xc::obE b3 ((Vl.get o Ff.aU).getD Vl.ob0) xk xc::obE b1 o vk vc::.mem N::L):=ho;refine join fun J hJ=>?_;have main:∀(N':Mem) (vl:Value) (cs:List Value) (W:World),M.le N'->LsAt N' vl X cs->OwnS S w0 W (.mem N'::L)->J [vl] W:=by
  intro N' vl cs W hle' hls ho;refine hJ _ _ fun _=>?_;simp only[rD,gd,nz];rw[Ly hls];have ho:=OwnS.nilU ho 9 1;refine loop (fun vs W=>∃(i:Nat) (ov:Value),vs=[ov,.int .i64 (i:Int)]∧i<=X.length∧(∀x∈X.take i,x.k=5)∧OwnS S w0 W (stsE ov ((X.take i).map Ob.s)::.mem N'::L)) (fun vs _=>X.length - n1 vs) ⟨0,nilS,rfl,om,sm,ho⟩ ?_;clear ho;rintro vs w6 ⟨i,ov,rfl,hi,h5,ho⟩ _;simp only[sP,gd,rs,nz];by_cases hlt:(i:Int) < (X.length:Int)
  case neg=>
   simp only[hlt,agX,i_f];have:i=X.length:=om
   subst this;rw[ajG] at h5 ho;obtain⟨N2,l2,hs2,ho⟩:=ho.cG 0 rfl;exact kt h5 ov N2 w6 (hle'.trans l2) hs2 ho
  simp only[hlt,agY,i_t];have hi':i < X.length:=om
  refine M7 hls hi' (ho.hasM 1 rfl) fun yk yc hy=>?_;refine eX ho fun b8 w7 ho=>?_;refine bD 0 hy.oneK hy.oneC ho rfl fun w8 ho=>?_;rw[fI,ob_k ho 0 rfl];simp only[rs];refine nB (fun h=>?_) (fun h=>?_)
  rotate_left
  ·exact kf (fun k=>(aiK h) (k _ (ahP hi'))) N' w8 hle' ho.tail.tail
  have h:=ahO h;rw[C5,ob_s ho 0 rfl];refine Nu _ ho.tail (by rw[ahT,ahE];omega) fun ov' W2 ho=>?_
  try simp only[rs]
  rw[aA om om];refine aY ⟨i+1,ov',rfl,om,?_,?_⟩ (by simp[n1,RowKit.intOf];omega)
  ·rw[aiG hi'];intro x hx;rcases aiC.1 hx with hx|hx
   ·exact h5 x hx
   ·rw[aiA.1 hx];exact h
  ·rw[aiG hi',aiN];exact ho
 cases hg:Vl.get o Ff.aU with
|none=>
  rw[hg] at hX;dsimp only at hX;subst hX;simp only[anB,rs,aiR,i_t];exact kt sm nilS N w5 hle (SlA.nil _ _ _ _) ho.tail.tail.tail
|some f=>
  rw[hg] at hX ho hx;dsimp only at hX;rw[alD] at ho hx;simp only[anC,rs,aiQ,i_f];rw[fI,ob_k ho 1 rfl];simp only[rs];by_cases h6:f.k=6
  ·rw[agW h6] at hX;subst hX;simp only[h6,agY,i_t];rw[jP,cZ ho 1 rfl];obtain⟨cs,hls⟩:=RE hx;exact main N xc cs w5 hle hls ho.tail.tail.tail
  ·rw[agV h6] at hX;subst hX;simp only[h6,agX,i_f];obtain⟨N2,l2,hs2,ha2,ho⟩:=Mw ho 2 rfl hx;exact main N2 _ _ w5 (hle.trans l2) ⟨hs2,ha2⟩ ho.tail.tail
theorem VT {many:Nat}(ho:OwnS S w0 w (.mem M::L))(hw:o.wt<=1000000000)(hm:many<=1000000000)(hv:OV M.A M.w v o)
  (kt:(Ff.rQ o many).2=0->∀vp N W,M.le N->SlA N.A N.w vp 3 (Ff.rQ o many).1.length ((Ff.rQ o many).1.flatMap pmC)->OwnS S w0 W (.mem N::L)->K vp W)
  (kf:(Ff.rQ o many).2≠0->∀N W,M.le N->OwnS S w0 W (.mem N::L)->PK [upF (Ff.rQ o many).2] W):CallX prog 81 #[v,.int .i64 (many:Int)] w PK K:=by
 obtain⟨vk,vc,ocs,rfl,ha⟩:=hv.open;have hdl:=Ff.Rx hw;have hdw:∀x∈(Ff.rS o).1,x.wt<=1000000000:=fun x hx=>by have:=Ff.VG hx;omega
 generalize hX:Ff.rQ o many=X at kt kf;unfold Ff.rQ at hX;generalize hD:Ff.rS o=D at hX hdl hdw;obtain⟨l,de⟩:=D;unfold Ff.rS at hD;dsimp only at hX hdl hdw;refine⟨Dw ?_⟩;unfold AK nz;refine eW o ha.keys.one ha.kids.one ho fun b1 w1 ho=>?_;refine join fun J hJ=>?_;rw[ob_v ho 0 rfl];refine bF ho 1 rfl (FC o _ Ff.dW M w1 om (ho.hasM 1 rfl) hv) ?_;rintro _ N w2 hle ⟨x,rfl,hx⟩ ho;obtain⟨xk,xc,rfl,hx⟩:=I4 hx;simp only[getV,ex];refine eX ho fun b3 w3 ho=>?_;refine bD 0 hx.oneK hx.oneC ho rfl fun w4 ho=>?_;have ho:OwnS S w0 w4 (obE b3 ((Vl.get o Ff.dW).getD Vl.ob0) xk xc::obE b1 o vk vc::.mem N::L):=ho;have fail:∀{e:Int} {N':Mem} {W:World},X=([],e)->e≠0->M.le N'->OwnS S w0 W (.mem N'::L)->PK [upF e] W:=by
  intro e N' W he h0 hle' ho;rw[he] at kf;exact kf h0 N' W hle' ho
 have main:de=0->∀(N':Mem) (vl:Value) (cs:List Value) (W:World),M.le N'->LsAt N' vl l cs->OwnS S w0 W (.mem N'::L)->J [vl] W:=by
  intro hde N' vl cs W hle' hls ho;rw[agV (by rw[hde];decide)] at hX;refine hJ _ _ fun _=>?_;simp only[vF,gd,nz];rw[Ly hls];have ho:=OwnS.nilU ho 27 3;refine loop (fun vs W=>∃(i:Nat) (ov:Value) (N2:Mem),vs=[ov,.int .i64 (i:Int)]∧i<=l.length∧(∀x∈l.take i,(Ff.parm x).2=0)∧N'.le N2∧OwnS S w0 W (pmsE ov ((l.take i).map fun x=>(Ff.parm x).1)::.mem N2::L)) (fun vs _=>l.length - n1 vs) ⟨0,nilS,N',rfl,om,sm,N'.le_refl,ho⟩ ?_;clear ho;rintro vs w6 ⟨i,ov,N2,rfl,hi,h0,l2,ho⟩ _;simp only[vD,gd,rs,nz];by_cases hlt:(i:Int) < (l.length:Int)
  ·simp only[hlt,agY,i_t];have hi':i < l.length:=om
   refine M7 (hls.le l2) hi' (ho.hasM 1 rfl) fun yk yc hy=>?_;refine eX ho fun b8 w7 ho=>?_;refine bD 0 hy.oneK hy.oneC ho rfl fun w8 ho=>?_;rw[ob_v ho 0 rfl];have ho:OwnS S w0 w8 ([obE b8 l[i] yk yc,pmsE ov ((l.take i).map fun x=>(Ff.parm x).1)]++([.mem N2]++L)):=ho;refine abL ho.front (by have:=hdw _ (ahP hi');omega) hy (fun e0 N3 W2 l3 ho=>?_) (fun e0 N3 W2 l3 ho=>?_)
   rotate_left
   ·refine fail (e:=10) ?_ dc ((hle'.trans l2).trans l3) (ho.sub (.cons_cons _ (.cons _ (.cons _ (alR _)))));rw[agW (akC.2 ⟨_,ahP hi',ahB (by rw[e0];decide)⟩)] at hX;exact hX.symm
   have ho:OwnS S w0 W2 ([.mem N3,obE b8 l[i] yk yc]++([pmsE ov ((l.take i).map fun x=>(Ff.parm x).1)]++L)):=ho;have ho:=ho.front;have ho:OwnS S w0 W2 (pmsE ov ((l.take i).map fun x=>(Ff.parm x).1)::.mem N3::obE b8 l[i] yk yc::L):=ho;refine Tx _ ho (by rw[ahT,ahE];omega) fun ov' W3 ho=>?_
   try simp only[rs]
   rw[aA om om];refine aY ⟨i+1,ov',N3,rfl,om,?_,l2.trans l3,?_⟩ (by simp[n1,RowKit.intOf];omega)
   ·rw[aiG hi'];intro x hx;rcases aiC.1 hx with hx|hx
    ·exact h0 x hx
    ·rw[aiA.1 hx];exact e0
   ·rw[aiG hi',aiN];exact ho.sub (.cons_cons _ (.cons_cons _ (.cons _ (alR _))))
  simp only[hlt,agX,i_f];have:i=l.length:=om
  subst this;rw[ajG] at h0 ho;rw[agV (fun h=>by
   obtain⟨x,hx,h⟩:=akC.1 h;exact (ahO h) (h0 x hx))] at hX
  rw[Ly hls];simp only[rs];refine nB (fun h=>?_) (fun h=>?_)
  rotate_left
  ·have:=aiK h;rw[agW om] at hX;exact fail hX.symm dc (hle'.trans l2) ho.tail
  have hml:=ahO h;rw[agV om] at hX;rw[Ly hls];generalize hps:(l.map fun x=>(Ff.parm x).1)=ps at hX ho;have hpl:ps.length=l.length:=by rw[<-hps,ahT]
  refine loop (fun vs W=>∃(i:Nat) (N3:Mem),vs=[.int .i64 (i:Int)]∧i<=l.length∧(∀x∈l.take i,Ff.eight x=true)∧N2.le N3∧OwnS S w0 W (pmsE ov ps::.mem N3::L)) (fun vs _=>l.length - n0 vs) ⟨0,N2,rfl,om,sm,N2.le_refl,ho⟩ ?_;clear ho;rintro vs w7 ⟨i,N3,rfl,hi,h8,l3,ho⟩ _;simp only[uU,gd,rs,nz];by_cases hlt:(i:Int) < (l.length:Int)
  ·simp only[hlt,agY,i_t];have hi':i < l.length:=om
   refine M7 ((hls.le l2).le l3) hi' (ho.hasM 1 rfl) fun yk yc hy=>?_;refine eX ho fun b8 w8 ho=>?_;refine bD 0 hy.oneK hy.oneC ho rfl fun w9 ho=>?_;rw[ob_v ho 0 rfl];refine bF ho 2 rfl (Pw l[i] _ N3 w9 (by have:=hdw _ (ahP hi');omega) (ho.hasM 2 rfl) hy) ?_;rintro _ N4 w10 l4 rfl ho;refine nB (fun h=>?_) (fun h=>?_)
   rotate_left
   ·rw[agW (akC.2 ⟨_,ahP hi',by rw[h];rfl⟩)] at hX;exact fail hX.symm dc (((hle'.trans l2).trans l3).trans l4) ho.tail.tail
   try simp only[rs]
   rw[aA om om];refine aY ⟨i+1,N4,rfl,om,?_,l3.trans l4,ho.tail⟩ (by simp[n0,RowKit.intOf];omega);rw[aiG hi'];intro x hx;rcases aiC.1 hx with hx|hx
   ·exact h8 x hx
   ·rw[aiA.1 hx];exact h
  simp only[hlt,agX,i_f];have:i=l.length:=om
  subst this;rw[ajG] at h8;rw[agV (fun h=>by
   obtain⟨x,hx,h⟩:=akC.1 h;rw[h8 x hx] at h;cases h)] at hX
  refine loop (fun vs W=>∃(j:Nat) (ov:Value),vs=[ov]∧l.length+j<=many∧OwnS S w0 W (pmsE ov (ps++List.replicate j Ff.cJ)::.mem N3::L)) (fun vs _=>many - Ye (vs.getD 0 undef)) ⟨0,ov,rfl,om,by rw[List.replicate_zero,ahV];exact ho⟩ ?_;clear ho;rintro vs w8 ⟨j,ov,rfl,hj,ho⟩ _;have hlj:(ps++List.replicate j Ff.cJ).length=l.length+j:=by rw[agZ,aiE,hpl]
  have hsl:∃a cap,ov=.slice a (l.length+j) cap:=by
   obtain⟨_,a,cap,h,_⟩:=Sl.urow (ho.at_ 0 rfl);exact⟨a,cap,by rw[h,hlj]⟩
  obtain⟨a,cap,hov⟩:=hsl;simp only[uR,gd,nz];rw[show DoX prog (mB .len #[40] 3 #[false] #[ov]) w8=DoX prog (mB .len #[40] 3 #[false] #[.slice a (l.length+j) cap]) w8 by rw[hov],bA amM];simp only[rs];by_cases hlt:((l.length+j:Nat):Int) < (many:Int)
  ·simp only[hlt,agY,i_t];refine aL ho (rP w8) ?_;rintro _ w9 rfl ho;refine Tx _ ho (by rw[hlj];omega) fun ov' W3 ho=>?_;have ho:OwnS S w0 W3 (pmsE ov' (ps++List.replicate (j+1) Ff.cJ)::.mem N3::L):=by
    rw[aoP,<-ahK];exact ho
   have hlj2:(ps++List.replicate (j+1) Ff.cJ).length=l.length+(j+1):=by rw[agZ,aiE,hpl]
   refine aY ⟨j+1,ov',rfl,om,ho⟩ ?_;obtain⟨_,a',cap',h',_⟩:=Sl.urow (ho.at_ 0 rfl);rw[hov,h',hlj2];show many - (l.length+(j+1)) < many - (l.length+j);omega
  simp only[hlt,agX,i_f];have hjm:j=many - l.length:=om
  subst hjm;rw[<-hX] at kt;obtain⟨N5,l5,hs5,ho⟩:=ho.cG 0 rfl;exact kt rfl ov N5 w8 (((hle'.trans l2).trans l3).trans l5) hs5 ho
 cases hg:Vl.get o Ff.dW with
|none=>
  rw[hg] at hD;dsimp only at hD
  injection hD with hd1 hd2
  subst hd1;simp only[anB,rs,i_f];exact main hd2.symm N nilS [] w4 hle (ZC N) ho.tail.tail
|some f=>
  rw[hg] at hD ho hx;dsimp only at hD;rw[alD] at ho hx;simp only[anC,i_t];rw[ob_v ho 0 rfl];refine Gd _ hx.oneK hx.oneC ho fun nb w5 ho=>?_;rw[fI,ob_k ho 1 rfl];simp only[rs];by_cases h6:f.k=6
  ·rw[agW h6] at hD
   injection hD with hd1 hd2
   subst hd1;simp only[h6,agY,i_t];rw[jP,cZ ho 1 rfl];obtain⟨cs,hls⟩:=RE hx;exact main hd2.symm N xc cs w5 hle hls ho.tail.tail.tail
  rw[agV h6] at hD;simp only[h6,agX,i_f];rw[fI,ob_k ho 1 rfl];simp only[rs];refine nB (fun h=>?_) (fun h=>?_)
  ·rw[agW (ahO h)] at hD
   injection hD with hd1 hd2
   subst hd1;obtain⟨N2,l2,hs2,ha2,ho⟩:=Mw ho 2 rfl hx;exact main hd2.symm N2 _ _ w5 (hle.trans l2) ⟨hs2,ha2⟩ ho.tail.tail
  ·rw[agV (aiK h)] at hD
   injection hD with hd1 hd2
   rw[agW (by rw[<-hd2];decide)] at hX;exact fail hX.symm dc hle ho.tail.tail.tail
end
end
namespace Eng
theorem Gj {f:FuncId}{o o2:Oper}{rest:Code}{args:List Value}{n d2:Nat}{al:List (Nat×List Nat)}{rs:List ResultVar}
  (hf:P.funcs[f]?=some fn) (hb:fn.body=some (.seq (.region id #[o,o2] false) rest)) (ho:o.op=.call { callee:=.builtin .recover,args:=#[],argTypes:=#[] }) (hg:o.guard=none) (hd:o.dst=some d) (hdn:Nat.blt d n=true)
  (ho2:o2.op=.assign (.tmp d)) (hg2:o2.guard=none) (hd2:o2.dst=some d2) (hdn2:Nat.blt d2 n=true)
  (hn:fn.ntmps=n) (hrs:fn.results.toList=rs) (hl:Nat.ble args.length n=true)
  (h:wpX P n aj al none rest (topD P rs (fun e w'=>R e (recM u) w')) (upd (upd (jW args) d (recV u)) d2 (recV u)) [] w):CallsD P f args.toArray u w R:=by
 refine callsD_of_wpS hf hb fun c₀ cs hu=>?_;rw[hn];refine wpS_seq (wpS_region ?_);have hex:∀ρ:Operand->Value,(execOp ρ o).run P w=.ok .recover w:=by
  intro ρ;unfold execOp;rw[ho];simp[resolve,invoke,builtin,bind,pure,Sem.bind,Sem.run]
 have hrep:=Bv (args:=args) hl;have hput:Rep n (upd (jW args) d (recV u)) (({ tmps:=args.toArray++Array.replicate (n - args.toArray.size) undef,defers:=[] }:Act).put o.dst (recV u)).tmps:=by
  rw[hd];exact Rep.put (a:={ tmps:=args.toArray++Array.replicate (n - args.toArray.size) undef,defers:=[] }) hrep (d:=some d) hdn (recV u)
 have hdef:(({ tmps:=args.toArray++Array.replicate (n - args.toArray.size) undef,defers:=[] }:Act).put o.dst (recV u)).defers=[]:=by rw[hd];rfl
 obtain⟨A1,hA1⟩:∃A,A=({ tmps:=args.toArray++Array.replicate (n - args.toArray.size) undef,defers:=[] }:Act).put o.dst (recV u):=⟨_,rfl⟩;rw[<-hA1] at hput hdef;have hex2:(execOp A1.eval o2).run P w=.ok (.value (recV u)) w:=by
  rw[Rep.eval hput];unfold execOp;rw[ho2];simp[rd,upd,pure,Sem.run]
 have key:wpOpsS P #[o,o2] (Exit.thenS (rest.wpS P (bodyPostS P fn c₀ cs R)) (bodyPostS P fn c₀ cs R)) [1] A1 ({ c₀ with mode:=recM u }::cs) w:=by
  unfold wpOpsS;simp only[aoX,aiP,amD];rw[agW (by simp[Region.wanted,hg2]),hex2];simp only[Oper.upon];have hput2:Rep n (upd (upd (jW args) d (recV u)) d2 (recV u)) (A1.put o2.dst (recV u)).tmps:=by
   rw[hd2];exact Rep.put hput (d:=some d2) hdn2 (recV u)
  have hdef2:(A1.put o2.dst (recV u)).defers=[]:=by rw[hd2];exact hdef
  refine wpS_of_wp (Code.wp_mono ?_ (wpIn_wide.1 (Ch rest none _ _ _ w hput2 (by rw[hdef2];exact h))));rintro e a w' ⟨σ,hr,hk⟩;have hdd:∀K:Ending->World->Prop,RetD P (rvOf σ rs) w' K->∃v,(results fn a.tmps).run P w'=.ok v w'∧K (.returned v) w':=fun K hk=>by
   rw[zF hr,hrs];exact Fu hk
  generalize hds:a.defers=ds at hk;cases e<;>cases ds<;>first|(exact hk.elim;done)|skip
  ·obtain⟨v,h1,h2⟩:=hdd (fun e w'=>R e (recM u) w') hk;exact⟨hds,recM u,rfl,v,h1,h2⟩
  ·obtain⟨v,h1,h2⟩:=hdd (fun e w'=>R e (recM u) w') hk;exact⟨hds,recM u,rfl,v,h1,h2⟩
  ·exact⟨hds,recM u,rfl,hk⟩
 have e:=rec_eq c₀ cs;rw[hu] at e;show wpOpsS P #[o,o2] _ [0,1] _ (c₀::cs) w;unfold wpOpsS;simp only[aoX,amD];rw[agW (by simp[Region.wanted,hg])];rw[hex];cases hrc:recoverD (c₀::cs) with
|none=>
  rw[hrc] at e;simp only[akV] at e;simp only;rw[e.1,e.2,<-hA1];exact key
|some x=>
  obtain⟨v,cs'⟩:=x;rw[hrc] at e;simp only[akV] at e;simp only;rw[e.1,e.2,<-hA1];exact key
end Eng
section
open Eng
def dN(w)(K:KT):=
 K (.returned (.tuple #[])) w
def qY(c a b d w)(K:KT):=
 DrawX w (fun w=>(fax 107 d 0 w K fun e w=>(ldx 30 e w K fun f w=>stx 22 c (.slice none 0 0) w K fun _ w=>stx 40 a (.slice none 0 0) w K fun _ w=>stx 30 b f w K fun _ w=>dN w K)∧(stx 22 c (.slice none 0 0) w K fun _ w=>(ldx 30 e w K fun t18_1 w=>stx 40 a (.slice none 0 0) w K fun _ w=>stx 30 b t18_1 w K fun _ w=>dN w K)∧(stx 40 a (.slice none 0 0) w K fun _ w=>ldx 30 e w K fun t18_2 w=>stx 30 b t18_2 w K fun _ w=>dN w K)))∧(stx 22 c (.slice none 0 0) w K fun _ w=>(fax 107 d 0 w K fun t17_1 w=>(ldx 30 t17_1 w K fun t18_3 w=>stx 40 a (.slice none 0 0) w K fun _ w=>stx 30 b t18_3 w K fun _ w=>dN w K)∧(stx 40 a (.slice none 0 0) w K fun _ w=>ldx 30 t17_1 w K fun t18_4 w=>stx 30 b t18_4 w K fun _ w=>dN w K))∧(stx 40 a (.slice none 0 0) w K fun _ w=>fax 107 d 0 w K fun t17_2 w=>ldx 30 t17_2 w K fun t18_5 w=>stx 30 b t18_5 w K fun _ w=>dN w K)))
def gH(c d e r w)(K:KT):=
 eqx .neq 20 (.tmp 7) (.const .nilIface) r .nilIface w K fun f w=>IfX f (dx (mTA r 20 107 true) w K fun a w=>exx a 0 w K fun g w=>exx a 1 w K fun h w=>alx 107 w K fun b w=>stx 107 b g w K fun _ w=>JoinX (fun J1=>dx (mUn .not h) w K fun i w=>IfX i (dx (Ev r) w K fun _ w=>J1 [] w) (J1 [] w)) (fun vs1 w=>∀_:Sg,qY c d e b w K)) (K (.returned (.tuple #[])) w)
theorem CY (t0 t1 t2 r:Value)(w:World)(K:Ending->World->Prop):wpX prog 19 [(5,[])] [] none (VQ (Ag Tryz.f77)) (topD prog [] K) (upd (upd (jW [t0,t1,t2]) 6 r) 3 r) [] w=gH t0 t1 t2 r w K:=krx
theorem iL {t1 t2:Value}(h:gH t0 t1 t2 (recV u) w (fun e w=>R e (recM u) w)):CallsD prog 77 #[t0,t1,t2] u w R:=
 Gj Tryz.func77 rfl rfl rfl rfl rfl rfl rfl rfl rfl rfl rfl rfl (Eq.mpr (CY t0 t1 t2 (recV u) w _) h)
end
section
open Eng Go.RowKit
namespace Ff
def names (o:Ob):List (List UInt8)×Int:=
 if (filt o).any (fun x=>decide (x.k≠5))=true then ([],10)
 else if 8 < (filt o).length then ([],6)
 else if (filt o).any (fun x=>decide (full x.s=[]))=true then ([],15)
 else ((filt o).map (fun x=>full x.s),0)
def of (o:Ob):List (List UInt8)×List Pm×Int:=
 if o.k≠9 then ([],[],10)
 else if (names o).2≠0 then ([],[],(names o).2)
 else if (rQ o (names o).1.length).2≠0 then ([],[],(rQ o (names o).1.length).2)
 else if (rQ o (names o).1.length).1.any (fun x=>!decide x.ok)=true then ([],[],1)
 else ((names o).1,(rQ o (names o).1.length).1,0)
theorem KZ {o:Ob}{n:Nat}(h:(rQ o n).2=0):(rQ o n).1.length=n:=by
 unfold rQ at h ⊢;by_cases h1:(rS o).2≠0
 ·rw[agW h1] at h;cases h
 rw[agV h1] at h ⊢;by_cases h2:(rS o).1.any (fun x=>decide ((parm x).2≠0))=true
 ·rw[agW h2] at h;cases h
 rw[agV h2] at h ⊢;by_cases h3:n < (rS o).1.length
 ·rw[agW h3] at h;cases h
 rw[agV h3] at h ⊢;by_cases h4:(rS o).1.any (fun x=>!eight x)=true
 ·rw[agW h4] at h;cases h
 rw[agV h4];simp only[agZ,ahT,aiE];omega
theorem Rk {o:Ob}:(names o).1.length<=8:=by
 unfold names
 repeat' split
 all_goals first|exact ahW _|(simp only[ahT];omega)
end Ff
theorem GS:bZ prog 77=true:=krx
theorem VA:eF prog 40=true:=krx
theorem abV:fOff prog 107 0=some 0:=krx
theorem adF:(Tryz.prog.info? 107).map (·.size)=some 1:=krx
abbrev ofC (b1 b2 b3 b4:Nat)(o:Ob)(vk vc vn vp:Value)(e:Int):List Ent:=[.cells b4 [.int .i64 e] 30,.cells b3 [vp] 40,.cells b2 [vn] 22,obE b1 o vk vc]
theorem GD (o:Ob)(v:Value)(M:Mem)(w:World)(hw:o.wt<=1000000000)(hM:M.has w)(hv:OV M.A M.w v o) :
  RetM prog 28 #[v] M w (fun r N=>∃vn vp,r=.tuple #[vn,vp,.int .i64 (Ff.of o).2.2]∧SlA N.A N.w vn 1 (Ff.of o).1.length (bG (Ff.of o).1)∧SlA N.A N.w vp 3 (Ff.of o).2.1.length ((Ff.of o).2.1.flatMap pmC)):=by
 obtain⟨vk,vc,ocs,rfl,ha⟩:=hv.open;refine aT hM fun K hK=>HH ?_;generalize hX:Ff.of o=X at hK;unfold Ff.of at hX;unfold Gs iN dx alx;refine eW o ha.keys.one ha.kids.one (OwnS.memS hM) fun b1 w1 ho=>?_;refine bC (fun b=>.pointer (some ⟨b,0,none⟩)) [nilS] 22 (fun _=>by kernel_rfl) ho fun b2 w2 ho=>?_;refine bC (fun b=>.pointer (some ⟨b,0,none⟩)) [nilS] 40 (fun _=>by kernel_rfl) ho fun b3 w3 ho=>?_;refine bC (fun b=>.pointer (some ⟨b,0,none⟩)) [.int .i64 0] 30 (fun _=>by kernel_rfl) ho fun b4 w4 ho=>?_;have ho:OwnS M.A w w4 (ofC b1 b2 b3 b4 o vk vc nilS nilS 0++([.mem M]++[])):=ho;have ho:=ho.front;have ho:OwnS M.A w w4 (.mem M::ofC b1 b2 b3 b4 o vk vc nilS nilS 0):=ho;rw[yF];refine⟨_,rfl,?_⟩
 -- the end with an error
 have ofEnd:∀{W:World} {N:Mem} {e:Int} {R:List Ent},OwnS M.A w W (.mem N::(ofC b1 b2 b3 b4 o vk vc nilS nilS e++R))->M.le N->X=([],[],e) ->
   RetX prog [.cell (.pointer (some ⟨b2,0,none⟩)) 22,.cell (.pointer (some ⟨b3,0,none⟩)) 40,.cell (.pointer (some ⟨b4,0,none⟩)) 30] W K:=by
  intro W N e R ho hle hx;refine Ok (bH (AtV.cell Mn (ho.cell 3 rfl 0 rfl))) (bH (AtV.cell VA (ho.cell 2 rfl 0 rfl))) (bH (AtV.cell Fm (ho.cell 1 rfl 0 rfl))) (hK _ _ N _ 0 ho rfl hle ⟨nilS,nilS,by rw[hx],by rw[hx];exact SlA.nil _ _ _ _,by rw[hx];exact SlA.nil _ _ _ _⟩)
 have fail:∀{W:World} {N:Mem} {e:Int} {vn vp:Value},OwnS M.A w W (.mem N::ofC b1 b2 b3 b4 o vk vc vn vp 0)->M.le N->X=([],[],e) ->
   aC { target:=.fn (.func 77) #[.pointer (some ⟨b2,0,none⟩),.pointer (some ⟨b3,0,none⟩),.pointer (some ⟨b4,0,none⟩)],args:=#[]++#[] } (.pointer (some ⟨b2,0,none⟩)) (.pointer (some ⟨b3,0,none⟩)) (.pointer (some ⟨b4,0,none⟩)) K [upF e] W:=by
  intro W N e vn vp ho hle hx;show pd prog _ K _ [upF e] W;unfold pd;refine nF sm GS (iL (t0:=.pointer (some ⟨b2,0,none⟩)) (t1:=.pointer (some ⟨b3,0,none⟩)) (t2:=.pointer (some ⟨b4,0,none⟩)) ?_);simp only[gH,recV,recM,upF,Eng.aaP alA,rs,Vv ZI,ex,i_t,i_f,dx,exx,stx,eqx,alx];refine bC (fun b=>.pointer (some ⟨b,0,none⟩)) [.int .i64 0] 107 (fun _=>by kernel_rfl) ho fun b7 w5 ho=>?_;refine iE 0 ho rfl (new:=[.int .i64 e]) adF (fun u hu=>by rw[aiA.1 hu];rfl) rfl fun w6 ho=>?_;have ho:OwnS M.A w w6 (.cells b7 [.int .i64 e] 107::.mem N::ofC b1 b2 b3 b4 o vk vc vn vp 0):=ho;refine join fun J hJ=>?_
  try simp only[aiQ,i_f]
  refine hJ _ _ fun _=>?_;unfold qY ldx fax stx;refine⟨?_⟩;have ho:=ho.drew
  repeat' first
  |apply And.intro
  |refine aE (bY abV) |>.mpr ?_
  |refine aE (aB Fm (ho.cell 0 rfl 0 rfl)) |>.mpr ?_
  |refine aN 4 ho rfl krx rfl sm (fun _ ho=>?_)
  |refine aN 3 ho rfl krx rfl sm (fun _ ho=>?_)
  |refine aN 2 ho rfl krx rfl sm (fun _ ho=>?_)
  all_goals
   unfold dN;exact ofEnd (R:=[]) ho.tail hle hx
 rw[fI,ob_k ho 4 rfl];simp only[rs];refine nB (fun h9=>?_) (fun h9=>?_)
 rotate_left
 ·rw[agW (aiK h9)] at hX;exact fail ho M.le_refl hX.symm
 have h9:=ahO h9;rw[agV (fun h=>h h9)] at hX;rw[ob_v ho 4 rfl];have hfl:=Ff.Pa hw;have hnm:Ff.names o=Ff.names o:=rfl;generalize hN:Ff.names o=Nn at hX;unfold Ff.names at hN;refine Rd ho hw hv (fun h5 vl N w5 l1 hs1 ho=>?_) (fun h5 N w5 l1 ho=>?_)
 rotate_left
 ·have:(Ff.filt o).any (fun x=>decide (x.k≠5))=true:=by
   refine akC.2 (Classical.byContradiction fun hc=>h5 fun x hx=>Classical.byContradiction fun h=>hc ⟨x,hx,ahB h⟩)
  rw[agW this] at hN;rw[<-hN,agW dc] at hX;exact fail ho l1 hX.symm
 rw[agV (fun h=>by
  obtain⟨x,hx,h⟩:=akC.1 h;exact (ahO h) (h5 x hx))] at hN
 have hlen:∀{W:World} {PK:PKT} {K:VWP},DoX prog (mB .len #[22] 3 #[false] #[vl]) W PK K=K (.int .i64 (((Ff.filt o).map Ob.s).length:Int)) W:=fun {_ _ _}=>by
  obtain⟨a,cap,rfl,_⟩:=hs1.form;exact bA ahM
 rw[hlen];simp only[rs];refine nB (fun h8=>?_) (fun h8=>?_)
 rotate_left
 ·have h8:=aiK h8;rw[ahT] at h8;rw[agW om] at hN;rw[<-hN,agW dc] at hX;exact fail ho l1 hX.symm
 have h8:=ahO h8;rw[agV (by rw[ahT] at h8;omega)] at hN;rw[hlen];generalize hln:(Ff.filt o).map Ob.s=ln at hs1 hlen h8;have hany:∀{p:List UInt8->Bool},(Ff.filt o).any (fun x=>p x.s)=ln.any p:=fun {p}=>by rw[<-hln,List.any_map];rfl
 have hmap:(Ff.filt o).map (fun x=>Ff.full x.s)=ln.map Ff.full:=by rw[<-hln,akZ];rfl
 rw[hany (p:=fun x=>decide (Ff.full x=[])),hmap] at hN;have ho:=OwnS.nilU ho 9 1;refine loop (fun vs W=>∃(i:Nat) (ov:Value),vs=[.int .i64 (i:Int)]∧i<=ln.length∧(∀x∈ln.take i,Ff.full x≠[])∧OwnS M.A w W (stsE ov ((ln.take i).map Ff.full)::.mem N::ofC b1 b2 b3 b4 o vk vc ov nilS 0)) (fun vs _=>ln.length - n0 vs) ⟨0,nilS,rfl,om,sm,ho⟩ ?_;clear ho;rintro vs w6 ⟨i,ov,rfl,hi,hf,ho⟩ _;simp only[CJ,gd,rs,iN];by_cases hlt:(i:Int) < (ln.length:Int)
 ·simp only[hlt,agY,i_t];have hi':i < ln.length:=om
  obtain⟨p,hia,hld⟩:=MD hs1 hi';rw[aE (hia w6),aE (hld w6 (ho.hasM 1 rfl))];refine c_eq (BC ln[i] w6) ?_;simp only[ex];refine nB (fun h=>?_) (fun h=>?_)
  rotate_left
  ·have h:=Decidable.not_not.1 (aiK h);rw[agW (akC.2 ⟨_,ahP hi',ahB h⟩)] at hN;rw[<-hN,agW dc] at hX;exact fail ho.tail l1 hX.symm
  have h:Ff.full ln[i]≠[]:=ahO h;rw[aO Mn (ho.cell 4 rfl 0 rfl)];refine Nu _ ho (by rw[ahT,ahE];omega) fun ov' W2 ho=>?_;have hov:ov'.oneCell'=true:=Oq (Sl.urow (ho.at_ 0 rfl));refine aN 4 ho rfl krx hov sm fun w7 ho=>?_
  try simp only[rs]
  rw[aA om om];refine⟨rfl,?_⟩;refine aY ⟨i+1,ov',rfl,om,?_,?_⟩ (by simp[n0,RowKit.intOf];omega)
  ·rw[aiG hi'];intro x hx;rcases aiC.1 hx with hx|hx
   ·exact hf x hx
   ·rw[aiA.1 hx];exact h
  ·rw[aiG hi',aiN];exact ho
 simp only[hlt,agX,i_f];have:i=ln.length:=om
 subst this;rw[ajG] at hf ho;rw[agV (fun h=>by
  obtain⟨x,hx,h⟩:=akC.1 h;exact hf x hx (ahO h))] at hN
 subst hN;dsimp only at hX;rw[agV dc] at hX;generalize hns:ln.map Ff.full=ns at hX ho;have hnl:ns.length=ln.length:=by rw[<-hns,ahT]
 have hne:∀x∈ns,x≠[]:=by
  rw[<-hns];intro x hx;obtain⟨y,hy,rfl⟩:=aiD.1 hx;exact hf y hy
 rw[ob_v ho 5 rfl];rw[hlen,<-hnl];obtain⟨N2,l2,hs2,ho⟩:=ho.cG 0 rfl;have ho:OwnS M.A w w6 (.mem N2::ofC b1 b2 b3 b4 o vk vc ov nilS 0):=ho;have hpl:=@Ff.KZ o ns.length;generalize hP:Ff.rQ o ns.length=P at hX hpl;refine VT (many:=ns.length) ho hw om ((hv.le l1).le l2) (fun h0 vp N3 w7 l3 hs3 ho=>?_) (fun h0 N3 w7 l3 ho=>?_)
 rotate_left
 ·rw[hP] at h0 ⊢;rw[agW h0] at hX;exact fail ho ((l1.trans l2).trans l3) hX.symm
 rw[hP] at h0 hs3;have hpl:=hpl h0;rw[agV (fun h=>h h0)] at hX;have hvp:vp.oneCell'=true:=hs3.one;refine aN 2 ho rfl krx hvp sm fun w8 ho=>?_;have ho:OwnS M.A w w8 (.mem N3::ofC b1 b2 b3 b4 o vk vc ov vp 0):=ho;rw[aO Mn (ho.cell 3 rfl 0 rfl)];have hle:=(l1.trans l2).trans l3;have hs2:=hs2.le l3;have hlen2:∀{W:World} {PK:PKT} {K:VWP},DoX prog (mB .len #[22] 3 #[false] #[ov]) W PK K=K (.int .i64 (ns.length:Int)) W:=fun {_ _ _}=>by
  obtain⟨a,cap,rfl,_⟩:=hs2.form;exact bA ahM
 rw[hlen2];refine loop (fun vs W=>∃i:Nat,vs=[.int .i64 (i:Int)]∧i<=ns.length∧(∀x∈P.1.take i,x.ok)∧OwnS M.A w W (.mem N3::ofC b1 b2 b3 b4 o vk vc ov vp 0)) (fun vs _=>ns.length - n0 vs) ⟨0,rfl,om,sm,ho⟩ ?_;clear ho;rintro vs w9 ⟨i,rfl,hi,hok,ho⟩ _;simp only[B1,gd,rs,iN,etx];by_cases hlt:(i:Int) < (ns.length:Int)
 ·simp only[hlt,agY,i_t];have hi':i < ns.length:=om
  have hip:i < P.1.length:=om
  obtain⟨p,hia,hld⟩:=MD hs2 hi';rw[aE (hia w9),aE (hld w9 (ho.hasM 0 rfl)),aO VA (ho.cell 2 rfl 0 rfl)];obtain⟨p2,hia2,hld2⟩:=pmAt hs3 hip;rw[aE (hia2 w9),aE (hld2 w9 (ho.hasM 0 rfl))];refine aL ho (Iw P.1[i] w9) ?_;rintro _ w10 rfl ho;simp only[gD];by_cases hx:P.1[i].ok
  ·rw[agW hx];simp only[show decide ((0:Int)≠0)=false from rfl,rs,i_f];rw[aA om om];refine⟨rfl,?_⟩;refine aY ⟨i+1,rfl,om,?_,ho⟩ (by simp[n0,RowKit.intOf];omega);rw[aiG hip];intro y hy;rcases aiC.1 hy with hy|hy
   ·exact hok y hy
   ·rw[aiA.1 hy];exact hx
  ·rw[agV hx];rw[agW (akC.2 ⟨_,ahP hip,by simp[hx]⟩)] at hX;have hn:=hne _ (ahP hi');simp only[show decide ((1:Int)≠0)=true from rfl,rs]
   try simp only[rs]
   rw[ahB hn]
   try simp only[rs]
   try rw[i_t]
   refine aN 3 ho rfl krx rfl sm fun w11 ho=>?_;refine aN 2 ho rfl krx rfl sm fun w12 ho=>?_;refine aN 1 ho rfl krx rfl sm fun w13 ho=>?_;refine nF sm GS (iL (t0:=.pointer (some ⟨b2,0,none⟩)) (t1:=.pointer (some ⟨b3,0,none⟩)) (t2:=.pointer (some ⟨b4,0,none⟩)) ?_);simp only[gH,recV,recM,Eng.ZS alA,i_f,dx,exx,stx,eqx,alx];exact ofEnd (R:=[]) ho hle hX.symm
 simp only[hlt,agX,i_f];have:i=ns.length:=om
 subst this;rw[aiF om] at hok;rw[agV (fun h=>by
  obtain⟨x,hx,h⟩:=akC.1 h;have:=hok x hx;simp[this] at h)] at hX
 have fin:∀{W:World},OwnS M.A w W (.mem N3::ofC b1 b2 b3 b4 o vk vc ov vp 0) ->
   jQ (.pointer (some ⟨b2,0,none⟩)) (.pointer (some ⟨b3,0,none⟩)) (.pointer (some ⟨b4,0,none⟩)) { target:=.fn (.func 77) #[.pointer (some ⟨b2,0,none⟩),.pointer (some ⟨b3,0,none⟩),.pointer (some ⟨b4,0,none⟩)],args:=#[]++#[] } W K:=by
  intro W ho;unfold jQ;refine nF sm GS (iL (t0:=.pointer (some ⟨b2,0,none⟩)) (t1:=.pointer (some ⟨b3,0,none⟩)) (t2:=.pointer (some ⟨b4,0,none⟩)) ?_);simp only[gH,recV,recM,Eng.ZS alA,i_f,dx,exx,stx,eqx,alx];refine Ok (bH (AtV.cell Mn (ho.cell 3 rfl 0 rfl))) (bH (AtV.cell VA (ho.cell 2 rfl 0 rfl))) (bH (AtV.cell Fm (ho.cell 1 rfl 0 rfl))) ?_;exact hK _ _ N3 _ 0 ho rfl hle ⟨ov,vp,by rw[<-hX],by rw[<-hX];exact hs2,by rw[<-hX];exact hs3⟩
 have hov:ov.oneCell'=true:=hs2.one;refine⟨?_⟩;have ho:=ho.drew
 repeat' first
 |exact fin ho
 |apply And.intro
 |refine aE (aB Mn (ho.cell 3 rfl 0 rfl)) |>.mpr ?_
 |refine aE (aB VA (ho.cell 2 rfl 0 rfl)) |>.mpr ?_
 |refine aN 3 ho rfl krx hov sm (fun _ ho=>?_)
 |refine aN 2 ho rfl krx hvp sm (fun _ ho=>?_)
 |refine aN 1 ho rfl krx rfl sm (fun _ ho=>?_)
end
end Go.Proofs.YtlipjfcbjemicaaGreatDoor

namespace Go.Proofs.YtlipjfcbjemicaaGreatDoor
variable{B Sy cl counts l near:List Nat}{C:World->Prop}{K:VWP}{L:List Eng.Ent}{M:Eng.Mem}{P:Program}{PK:PKT}{R:Ending->FrameMode->World->Prop}{S:Nat->Prop}{W w w0:World}{a colors:Int}{above key:List UInt8}{aj:List (Nat×List Nat)}{args:Array Value}{b cap d f i id j jm m most p t:Nat}{cs:List Value}{cv t0 v vc vk:Value}{fn:Func}{o:Ob}{os:List Ob}{q:Bool}{u:FrameMode}{x:Pm}{α:Type}
section
open Go
def Pr.vW (tag:Int)(above row:List UInt8)(colors:Int):List UInt8:=(List.range row.length).map fun i=>row.getD i 0 - Pr.off tag above row (i:Int) colors
theorem Pr.CV {tag:Int}{row:List UInt8}:(Pr.vW tag above row colors).length=row.length:=by simp[Pr.vW]
theorem Pr.Uk {tag:Int}{row:List UInt8}(h:i < row.length):(Pr.vW tag above row colors)[i]?=some (row[i] - Pr.off tag above row (i:Int) colors):=by
 simp[Pr.vW,h,ahC]
theorem Pr.O1 {tag:Int}{above row:List UInt8}{colors:Int}(hc:1<=colors):∀(k i:Nat),row.length=i+k->Pr.decG tag above colors (row.take i) ((Pr.vW tag above row colors).drop i)=row
|0,i,h=>by
  rw[amI (by rw[Pr.CV];omega),aiF om];rfl
|k+1,i,h=>by
  have hi:i < row.length:=om
  have hl:(row.take i).length=i:=by rw[ahE];omega
  have e:(Pr.vW tag above row colors).drop i=(row[i] - Pr.off tag above row (i:Int) colors)::(Pr.vW tag above row colors).drop (i+1):=by
   rw[ajB (by rw[Pr.CV];exact hi)]
   congr 1
   have:=Pr.Uk (tag:=tag) (above:=above) (colors:=colors) hi;rw[ahH (by rw[Pr.CV];exact hi)] at this;exact akJ this
  have eo:Pr.off tag above row (i:Int) colors=Pr.off tag above (row.take i) (i:Int) colors:=by
   have:=Pr.YO (tag:=tag) (above:=above) (p:=row.take i) (r:=row.drop i) (colors:=colors) hc;rw[aiJ,hl] at this;exact this
  rw[e,Pr.decG,hl,eo];have e2:row[i] - Pr.off tag above (row.take i) (i:Int) colors+Pr.off tag above (row.take i) (i:Int) colors=row[i]:=UInt8.sub_add_cancel _ _;rw[e2,<-aiG hi];exact Pr.O1 hc k (i+1) om
def Pr.enc (T:List UInt8->List UInt8->Nat)(c:Int)(n h:Nat):Nat->List UInt8->List UInt8->List UInt8
|0,_,_=>[]
|f+1,s,prev=>if s=[] then [] else (if h=1 then [UInt8.ofNat (T prev (s.take n))] else [])++(Pr.vW (T prev (s.take n):Nat) prev (s.take n) c++Pr.enc T c n h f (s.drop n) (s.take n))
theorem Pr.Rq {T:List UInt8->List UInt8->Nat}{c:Int}{n h:Nat}(hn:0 < n)(hh:h=0∨h=1):∀(k f:Nat) (s prev:List UInt8),s.length=k*n->s.length < f->(Pr.enc T c n h f s prev).length=k*(n+h)
|_,0,_,_,_,hf=>by omega
|0,f+1,s,prev,hk,_=>by
  have:s=[]:=akT.1 om;unfold Pr.enc;rw[agW this];simp
|k+1,f+1,s,prev,hk,hf=>by
  rw[akA] at hk;have hne:s≠[]:=fun e=>by rw[e] at hk;simp at hk;omega
  have lt:(s.take n).length=n:=by rw[ahE];omega
  have ld:(s.drop n).length=s.length - n:=ahL;unfold Pr.enc;rw[agV hne,agZ,agZ,Pr.CV,lt,Pr.Rq hn hh k f (s.drop n) (s.take n) om om,akA];rcases hh with rfl|rfl
  ·rw[agV dc];simp;omega
  ·rw[agW rfl];simp;omega
theorem Pr.NK {T:List UInt8->List UInt8->Nat}{c:Int}{n h:Nat}(hc:1<=c)(hn:0 < n)(hh:h=0∨h=1)(hT:∀a b,T a b<=4)(hT0:h=0->∀a b,T a b=1) :
  ∀(k f g:Nat) (s prev out:List UInt8),s.length=k*n->s.length < f->k < g->Pr.Mi c n h g (Pr.enc T c n h f s prev) prev out=(out++s,0)
|_,0,_,_,_,_,_,hf,_=>by omega
|_,_,0,_,_,_,_,_,hg=>by omega
|0,f+1,g+1,s,prev,out,hk,_,_=>by
  have:s=[]:=akT.1 om;unfold Pr.enc;rw[agW this,this];unfold Pr.Mi;rw[agW (show ([]:List UInt8).length=0 from rfl),ahV]
|k+1,f+1,g+1,s,prev,out,hk,hf,hg=>by
  rw[akA] at hk;have hne:s≠[]:=fun e=>by rw[e] at hk;simp at hk;omega
  have et:s.take n++s.drop n=s:=aiJ ..
  have lt:(s.take n).length=n:=by rw[ahE];omega
  have ld:(s.drop n).length=s.length - n:=ahL;unfold Pr.enc;rw[agV hne];have ih:=Pr.NK hc hn hh hT hT0 k f g (s.drop n) (s.take n) (out++s.take n) om om om;rw[ahK,et] at ih;rw[<-ih];have hle:(Pr.vW (T prev (s.take n):Nat) prev (s.take n) c).length=n:=by rw[Pr.CV,lt]
  have hdec:=Pr.O1 (tag:=(T prev (s.take n):Nat)) (above:=prev) (row:=s.take n) hc n 0 om;rw[akS,ajL] at hdec
  conv=>lhs;unfold Pr.Mi
  have ht:=hT prev (s.take n);rcases hh with rfl|rfl
  ·have h1:=hT0 rfl prev (s.take n);rw[h1] at hdec hle ⊢;have e0:(if (0:Nat)=1 then [UInt8.ofNat 1] else [])++(Pr.vW ((1:Nat):Int) prev (s.take n) c++Pr.enc T c n 0 f (s.drop n) (s.take n))=Pr.vW ((1:Nat):Int) prev (s.take n) c++Pr.enc T c n 0 f (s.drop n) (s.take n):=rfl;rw[e0,agV (by rw[agZ];omega)];dsimp only;rw[agV (show ¬(0:Nat)=1 by decide),agV dc,ajL,aiZ,ajP hle,List.drop_left' hle];have hd:Pr.decG ((1:Nat):Int) prev c [] (Pr.vW ((1:Nat):Int) prev (s.take n) c)=s.take n:=hdec;rw[hd]
  ·rw[agW rfl];have e0:([UInt8.ofNat (T prev (s.take n))]++(Pr.vW (T prev (s.take n):Nat) prev (s.take n) c++Pr.enc T c n 1 f (s.drop n) (s.take n))).getD 0 0=UInt8.ofNat (T prev (s.take n)):=rfl;have en:(UInt8.ofNat (T prev (s.take n))).toNat=T prev (s.take n):=by rw[akW,aiU om]
   have ed:([UInt8.ofNat (T prev (s.take n))]++(Pr.vW (T prev (s.take n):Nat) prev (s.take n) c++Pr.enc T c n 1 f (s.drop n) (s.take n))).drop 1=Pr.vW (T prev (s.take n):Nat) prev (s.take n) c++Pr.enc T c n 1 f (s.drop n) (s.take n):=rfl;rw[agV (by rw[agZ,ajJ];omega)];dsimp only;rw[agW rfl,e0,en,agV om,ed,ajP hle,amQ n 1,<-alP,ed,List.drop_left' hle,hdec]
def Pr.weight (l:List UInt8):Nat:=(l.map fun c=>min c.toNat (256 - c.toNat)).sum
def Pr.Qx (above row:List UInt8)(c:Int):Nat->Nat×Nat
|0=>(0,Pr.weight (Pr.vW 0 above row c))
|k+1=>if Pr.weight (Pr.vW ((k+1:Nat):Int) above row c) < (Pr.Qx above row c k).2 then (k+1,Pr.weight (Pr.vW ((k+1:Nat):Int) above row c)) else Pr.Qx above row c k
def Pr.best (above row:List UInt8)(c:Int):Nat:=(Pr.Qx above row c 4).1
theorem Pr.Ol (above row:List UInt8)(c:Int):∀k,(Pr.Qx above row c k).1<=k
|0=>ahD _
|k+1=>by
  have:=Pr.Ol above row c k;unfold Pr.Qx;split
  ·exact ahD _
  ·omega
def Pr.tag (p c:Int)(above row:List UInt8):Nat:=if p=2 then 1 else if p=15 then Pr.best above row c else (p - 10).toNat
theorem Pr.abR {p:Int}(h:p=2∨(10<=p∧p<=15))(c:Int)(a b:List UInt8):Pr.tag p c a b<=4:=by
 unfold Pr.tag;split
 ·omega
 ·split
  ·exact Pr.Ol a b c 4
  ·omega
end
section
open Go
def Bw.at_ (l:List Nat)(i:Nat):Nat:=
 l.getD (8*i) 0+2*l.getD (8*i+1) 0+4*l.getD (8*i+2) 0+8*l.getD (8*i+3) 0+16*l.getD (8*i+4) 0+32*l.getD (8*i+5) 0+64*l.getD (8*i+6) 0+128*l.getD (8*i+7) 0
def Bw.bytes (l:List Nat):List UInt8:=(List.range ((l.length+7) / 8)).map fun i=>UInt8.ofNat (Bw.at_ l i)
def Bw.low (v n:Nat):List Nat:=(List.range n).map fun i=>v / 2 ^ i % 2
def Bw.ok (l:List Nat):Prop:=∀b∈l,b < 2
theorem Bw.bE (v n:Nat):(Bw.low v n).length=n:=by simp[Bw.low]
theorem Bw.eK (v n:Nat):Bw.ok (Bw.low v n):=by
 intro b hb;obtain⟨i,_,rfl⟩:=aiD.1 hb;exact ajW _ dc
theorem Bw.gX (h:Bw.ok l)(i:Nat):l.getD i 0 < 2:=by
 rw[ahC];cases hx:l[i]? with
|none=>decide
|some b=>exact h b (akM hx)
theorem Bw.aeY (h:Bw.ok l)(i:Nat):Bw.at_ l i < 256:=by
 unfold Bw.at_;have h0:=Bw.gX h (8*i);have h1:=Bw.gX h (8*i+1);have h2:=Bw.gX h (8*i+2);have h3:=Bw.gX h (8*i+3);have h4:=Bw.gX h (8*i+4);have h5:=Bw.gX h (8*i+5);have h6:=Bw.gX h (8*i+6);have h7:=Bw.gX h (8*i+7);omega
theorem Bw.lQ (l:List Nat):(Bw.bytes l).length=(l.length+7) / 8:=by simp[Bw.bytes]
theorem Bw.QG (h:i < (l.length+7) / 8):(Bw.bytes l).getD i 0=UInt8.ofNat (Bw.at_ l i):=by
 rw[ahC];simp[Bw.bytes,h]
theorem Bw.ZY (h:Bw.ok l)(i j:Nat)(hj:j < 8):Bw.at_ l i / 2 ^ j % 2=l.getD (8*i+j) 0:=by
 unfold Bw.at_;have h0:=Bw.gX h (8*i);have h1:=Bw.gX h (8*i+1);have h2:=Bw.gX h (8*i+2);have h3:=Bw.gX h (8*i+3);have h4:=Bw.gX h (8*i+4);have h5:=Bw.gX h (8*i+5);have h6:=Bw.gX h (8*i+6);have h7:=Bw.gX h (8*i+7);rcases (by omega:j=0∨j=1∨j=2∨j=3∨j=4∨j=5∨j=6∨j=7) with rfl|rfl|rfl|rfl|rfl|rfl|rfl|rfl<;>(try simp only[aiZ])<;>omega
theorem Bw.JU (h:Bw.ok l)(p:Nat):Fl.bit (Bw.bytes l) p=l.getD p 0:=by
 unfold Fl.bit;by_cases hp:p / 8 < (l.length+7) / 8
 ·have hlt:=Bw.aeY h (p / 8);rw[Bw.QG hp,akW,aiU (show Bw.at_ l (p / 8) < 2 ^ 8 from hlt),Bw.ZY h _ _ (ajW _ dc),show 8*(p / 8)+p % 8=p by omega]
 ·have h1:(Bw.bytes l).getD (p / 8) 0=0:=by
   rw[ahC,ajD (by rw[Bw.lQ];omega)];rfl
  have h2:l.getD p 0=0:=by
   rw[ahC,ajD om];rfl
  rw[h1,h2];simp
theorem Bw.RD {l:List Nat}(h:Bw.ok l)(p v:Nat):∀n,(∀i,i < n->l.getD (p+i) 0=v / 2 ^ i % 2)->Fl.num (Bw.bytes l) p n=v % 2 ^ n
|0,_=>by rw[Fl.num,Nat.pow_zero,Nat.mod_one]
|n+1,hv=>by
  rw[Fl.num,Bw.RD h p v n (fun i hi=>hv i om),Bw.JU h,hv n om,Nat.mod_pow_succ,akE]
theorem Bw.Uw {a b:List Nat}{v n:Nat}(h:Bw.ok (a++Bw.low v n++b))(hv:v < 2 ^ n):Fl.num (Bw.bytes (a++Bw.low v n++b)) a.length n=v:=by
 rw[Bw.RD h a.length v n,aiU hv];intro i hi;rw[ahC,ahK,ajO om,amX,ajA (by rw[Bw.bE];exact hi)];simp[Bw.low,hi]
theorem Bw.cH {a b:List Nat}(ha:Bw.ok a)(hb:Bw.ok b):Bw.ok (a++b):=fun x hx=>(aiC.1 hx).elim (ha x) (hb x)
end
def Bw.high (v n:Nat):List Nat:=(List.range n).map fun i=>v / 2 ^ (n - 1 - i) % 2
theorem Bw.OU (v n:Nat):(Bw.high v n).length=n:=by simp[Bw.high]
theorem Bw.Xh (v n:Nat):Bw.ok (Bw.high v n):=by
 intro b hb;obtain⟨i,_,rfl⟩:=aiD.1 hb;exact ajW _ dc
def Fl.iK (lens:List Nat)(i:Nat):List Nat:=Bw.high (Fl.dL lens i) (lens.getD i 0)
theorem Fl.bX (lens:List Nat)(i:Nat):(Fl.iK lens i).length=lens.getD i 0:=Bw.OU ..
theorem Fl.nD (lens:List Nat)(i:Nat):Bw.ok (Fl.iK lens i):=Bw.Xh _ _
theorem Fl.K5 (lens:List Nat):∀l,l < 15->(Fl.first lens (l+1)+lens.count (l+1))*2 ^ (15 - (l+1))=Fl.gB lens (l+1)
|0,_=>by simp[Fl.first,Fl.gB]
|l+1,h=>by
  have ih:=Fl.K5 lens l om;rw[Fl.gB,<-ih,Fl.first,ajU]
  congr 1
  rw[show 15 - (l+1)=(15 - (l+1+1))+1 by omega,ajQ,akE 2,amK,akE 2]
theorem Fl.VH (lens:List Nat){a:Nat}(h:a<=b):Fl.gB lens a<=Fl.gB lens b:=by
 induction b with
|zero=>
  have:a=0:=om
  subst this;exact ahD _
|succ b ih=>
  rcases ahY a (b+1) with h'|h'
  ·have:=ih om;rw[Fl.gB];omega
  ·have:a=b+1:=om
   subst this;exact ahD _
theorem Fl.OW (lens:List Nat):∀l,Fl.gB lens l<=Fl.aX lens l*2 ^ 15
|0=>by simp[Fl.gB]
|l+1=>by
  have ih:=Fl.OW lens l;rw[Fl.gB,Fl.aX,ajU];have:lens.count (l+1)*2 ^ (15 - (l+1))<=lens.count (l+1)*2 ^ 15:=Nat.mul_le_mul_left _ (aiY dc om);omega
theorem Fl.Kv {lens:List Nat}(h:Fl.check lens=0):Fl.gB lens 15<=2 ^ 15:=by
 unfold Fl.check at h;split at h
 ·rename_i h1
  have:=Fl.OW lens 15;rcases h1 with h1|h1|h1
  ·omega
  ·rw[h1] at this;omega
  ·rw[h1.1] at this;omega
 ·cases h
theorem Fl.Lj {lens:List Nat}(h:Fl.chk lens=0):Fl.check lens=0:=by
 unfold Fl.chk at h;split at h
 ·cases h
 ·exact h
theorem Fl.QQ {lens:List Nat}(h:Fl.gB lens 15<=2 ^ 15){n:Nat}(h0:0 < n)(hn:n<=15):Fl.first lens n+lens.count n<=2 ^ n:=by
 obtain⟨l,rfl⟩:∃l,n=l+1:=⟨n - 1,om⟩;have h1:=Fl.K5 lens l om;have h2:=Fl.VH lens hn;have h3:(Fl.first lens (l+1)+lens.count (l+1))*2 ^ (15 - (l+1))<=2 ^ (l+1)*2 ^ (15 - (l+1)):=by
  rw[h1,<-Nat.pow_add,show l+1+(15 - (l+1))=15 by omega];omega
 exact Nat.le_of_mul_le_mul_right h3 (anZ _)
theorem Fl.M9 (lens:List Nat)(l:Nat):∀k,(Fl.first lens (l+1)+lens.count (l+1))*2 ^ (k+1)<=Fl.first lens (l+1+(k+1))
|0=>by
  show _<=2*(Fl.first lens (l+1)+lens.count (l+1));omega
|k+1=>by
  have ih:=Fl.M9 lens l k;rw[show l+1+(k+1+1)=(l+1+k)+2 by omega,Fl.first,ajQ,<-amK];rw[show l+1+(k+1)=l+1+k+1 by omega] at ih;omega
theorem Fl.QZ {lens:List Nat}(hi:i < lens.length):(lens.take i).count (lens.getD i 0) < lens.count (lens.getD i 0):=by
 have h:lens=lens.take i++lens.drop i:=(aiJ i lens).symm;have h2:lens.drop i=lens.getD i 0::lens.drop (i+1):=by
  rw[ajB hi,ahC,ahH hi];rfl
 have e:lens.count (lens.getD i 0)=(lens.take i++lens.getD i 0::lens.drop (i+1)).count (lens.getD i 0):=by rw[<-h2,<-h]
 rw[e,alE,List.count_cons_self];omega
theorem Fl.Pd {lens:List Nat}(hi:i < lens.length):(Fl.Hq lens (lens.getD i 0)).getD ((lens.take i).count (lens.getD i 0)) 0=i:=by
 unfold Fl.Hq;obtain⟨m,hm⟩:∃m,lens.length=i+(m+1):=⟨lens.length - i - 1,om⟩;have e:((List.range i).filter fun j=>decide (lens.getD j 0=lens.getD i 0)).length=(lens.take i).count (lens.getD i 0):=by
  have h:=Fl.G6 (lens.take i) (lens.getD i 0);rw[<-h];unfold Fl.Hq;rw[ahE,aiH om]
  congr 1
  refine List.filter_congr fun j hj=>?_;rw[ahC,ahC (l:=lens.take i),ajT,agW (aiV.1 hj)]
 rw[hm,List.range_add,aoO,ahC,ajO om,e,akF,List.range_succ_eq_map,aiW,amO,aiZ];simp
theorem Fl.QU {lens:List Nat}(h:Fl.gB lens 15<=2 ^ 15)(h15:∀l∈lens,l<=15)(hi:0 < lens.getD i 0):Fl.dL lens i < 2 ^ lens.getD i 0:=by
 have hil:i < lens.length:=by
  rcases ahY i lens.length with h|h
  ·exact h
  ·rw[ahC,ajD h] at hi;exact absurd hi (alT _)
 have hm:lens.getD i 0∈lens:=by rw[ahC,ahH hil];exact ahP ..
 unfold Fl.dL;rw[agV om];have h1:=Fl.QZ hil;have h2:=Fl.QQ h hi (h15 _ hm);omega
theorem Bw.Cj {a x b:List Nat}(hi:i < x.length):(a++x++b).getD (a.length+i) 0=x.getD i 0:=by
 rw[ahC,ahK,ajO om,amX,ajA hi,ahC]
theorem Bw.OK {v n:Nat}(hi:i < n):(Bw.high v n).getD i 0=v / 2 ^ (n - 1 - i) % 2:=by
 rw[ahC];simp[Bw.high,hi]
theorem Bw.II (l:List Nat):l.length<=8*(Bw.bytes l).length:=by rw[Bw.lQ];omega
theorem Fl.PJ {lens:List Nat}(h:Fl.gB lens 15<=2 ^ 15)(h15:∀l∈lens,l<=15)(hi:0 < lens.getD i 0){a b:List Nat}(hok:Bw.ok (a++Fl.iK lens i++b)) :
  ∀(k l f:Nat),lens.getD i 0=l+(k+1)->k < f ->
   Fl.Bf lens (Bw.bytes (a++Fl.iK lens i++b)) f l (a.length+l) (Fl.dL lens i / 2 ^ (k+1))=(i,a.length+lens.getD i 0,0):=by
 have hil:i < lens.length:=by
  rcases ahY i lens.length with h|h
  ·exact h
  ·rw[ahC,ajD h] at hi;exact absurd hi (alT _)
 have hm:lens.getD i 0∈lens:=by rw[ahC,ahH hil];exact ahP ..
 have hn15:=h15 _ hm;have hrk:=Fl.QZ hil;have hlen:=Bw.II (a++Fl.iK lens i++b);simp only[agZ,Fl.bX] at hlen;intro k
 induction k with
|zero=>
  intro l f hl hf;obtain⟨f,rfl⟩:∃g,f=g+1:=⟨f - 1,om⟩;have hu:Fl.aX lens l < Fl.aX lens (l+1):=by rw[Fl.aX];rw[hl,ahJ] at hrk;omega
  have hu2:=Fl.wD lens (a:=l+1) (b:=15) om;have hbit:Fl.bit (Bw.bytes (a++Fl.iK lens i++b)) (a.length+l)=Fl.dL lens i % 2:=by
   rw[Bw.JU hok,Bw.Cj (by rw[Fl.bX];omega)];unfold Fl.iK;rw[Bw.OK om,show lens.getD i 0 - 1 - l=0 by omega,Nat.pow_zero,Nat.div_one]
  have hc:2*(Fl.dL lens i / 2 ^ (0+1))+Fl.dL lens i % 2=Fl.dL lens i:=by
   have:(2:Nat) ^ (0+1)=2:=rfl;rw[this];omega
  have hcode:Fl.dL lens i=Fl.first lens (l+1)+(lens.take i).count (l+1):=by
   unfold Fl.dL;rw[agV om,hl]
  rw[hl,ahJ] at hrk;unfold Fl.Bf;rw[agV om,agV om,hbit,hc,agW (by rw[hcode];omega),show Fl.dL lens i - Fl.first lens (l+1)=(lens.take i).count (l+1) by rw[hcode];omega,Fl.SL om hrk];have:=Fl.Pd hil;rw[hl] at this;rw[this,hl];rfl
|succ k ih=>
  intro l f hl hf;obtain⟨f,rfl⟩:∃g,f=g+1:=⟨f - 1,om⟩;have hu:Fl.aX lens l < Fl.aX lens (lens.getD i 0):=by
   have:=Fl.wD lens (a:=l) (b:=l+(k+1)) om;rw[hl] at hrk ⊢;rw[show l+(k+1+1)=(l+(k+1))+1 by omega] at hrk ⊢;rw[Fl.aX];omega
  have hu2:=Fl.wD lens (a:=lens.getD i 0) (b:=15) hn15;have hbit:Fl.bit (Bw.bytes (a++Fl.iK lens i++b)) (a.length+l)=Fl.dL lens i / 2 ^ (k+1) % 2:=by
   rw[Bw.JU hok,Bw.Cj (by rw[Fl.bX];omega)];unfold Fl.iK;rw[Bw.OK om,show lens.getD i 0 - 1 - l=k+1 by omega]
  have hc:2*(Fl.dL lens i / 2 ^ (k+1+1))+Fl.dL lens i / 2 ^ (k+1) % 2=Fl.dL lens i / 2 ^ (k+1):=by
   rw[ajQ 2 (k+1),<-ajY];omega
  have hup:=Fl.M9 lens l k;have hcode:Fl.first lens (l+1+(k+1))<=Fl.dL lens i:=by
   unfold Fl.dL;rw[agV om,hl,show l+1+(k+1)=l+(k+1+1) by omega];omega
  have hge:Fl.first lens (l+1)+lens.count (l+1)<=Fl.dL lens i / 2 ^ (k+1):=(Nat.le_div_iff_mul_le (anZ _)).2 om
  unfold Fl.Bf;rw[agV om,agV om,hbit,hc,agV om];exact ih (l+1) f om om
theorem Fl.TI {lens:List Nat}(h:Fl.chk lens=0)(h15:∀l∈lens,l<=15)(hi:0 < lens.getD i 0){a b:List Nat}(hok:Bw.ok (a++Fl.iK lens i++b)) :
  Fl.sign lens (Bw.bytes (a++Fl.iK lens i++b)) a.length=(i,a.length+lens.getD i 0,0):=by
 have hs:=Fl.Kv (Fl.Lj h);have hl:=Fl.QU hs h15 hi;have hm:lens.getD i 0<=15:=by
  rcases ahY i lens.length with h|h
  ·exact h15 _ (by rw[ahC,ahH h];exact ahP ..)
  ·rw[ahC,ajD h];exact ahW _
 have:=Fl.PJ hs h15 hi hok (lens.getD i 0 - 1) 0 16 om om;rw[show lens.getD i 0 - 1+1=lens.getD i 0 by omega,Nat.div_eq_of_lt hl] at this;exact this
def Df.JS (group:Nat):Nat->Nat->Nat->Nat->Nat×Nat×Nat
|0,n,sign,bits=>(sign+n / 2 ^ bits,n % 2 ^ bits,bits)
|f+1,n,sign,bits=>if group*2 ^ bits<=n then Df.JS group f (n - group*2 ^ bits) (sign+group) (bits+1) else (sign+n / 2 ^ bits,n % 2 ^ bits,bits)
def Df.said (n ones group:Nat):Nat×Nat×Nat:=if n < ones then (n,0,0) else Df.JS group 20 (n - ones) ones 1
def Df.sign (size:Nat):Nat×Nat×Nat:=if size=258 then (285,0,0) else (257+(Df.said (size - 3) 8 4).1,(Df.said (size - 3) 8 4).2)
def Df.far (d:Nat):Nat×Nat×Nat:=Df.said (d - 1) 4 2
def Df.abN (n:Nat):Bool:=let r:=Df.sign (n+3);decide (257<=r.1)&&decide (r.1<=285)&&decide (Fl.oQ (r.1 - 257)=r.2.2)&&decide (Fl.Dl (r.1 - 257)+r.2.1=n+3)&&decide (r.2.1 < 2 ^ r.2.2)&&decide (r.2.2<=5)
theorem Df.DE {n:Nat}(h3:3<=n)(h:n<=258):257<=(Df.sign n).1∧(Df.sign n).1<=285∧Fl.oQ ((Df.sign n).1 - 257)=(Df.sign n).2.2∧Fl.Dl ((Df.sign n).1 - 257)+(Df.sign n).2.1=n∧(Df.sign n).2.1 < 2 ^ (Df.sign n).2.2∧(Df.sign n).2.2<=5:=by
 have h1:(List.range 256).all Df.abN=true:=by decide +kernel
 have h2:=ajS.1 h1 (n - 3) (aiV.2 om);unfold Df.abN at h2;rw[show n - 3+3=n by omega] at h2;simp only[ahR,aiI] at h2;obtain⟨⟨⟨⟨⟨a,b⟩,c⟩,d⟩,e⟩,f⟩:=h2;exact⟨a,b,c,d,e,f⟩
theorem Df.WV (n:Nat):∀(f k:Nat),2 ^ (k+1)<=n->n < 2 ^ (k+f+2) ->
  ∃m,k<=m∧2 ^ (m+1)<=n∧n < 2 ^ (m+2)∧Df.JS 2 f (n - 2 ^ (k+1)) (2+2*k) k=(2+2*m+(n - 2 ^ (m+1)) / 2 ^ m,(n - 2 ^ (m+1)) % 2 ^ m,m)
|0,k,h,h2=>⟨k,ahD _,h,h2,rfl⟩
|f+1,k,h,h2=>by
  have e1:2 ^ (k+2)=2*2 ^ (k+1):=by rw[ajQ];omega
  have e0:2 ^ (k+1)=2*2 ^ k:=by rw[ajQ];omega
  unfold Df.JS;by_cases hc:2*2 ^ k<=n - 2 ^ (k+1)
  ·rw[agW hc];obtain⟨m,a,b,c,d⟩:=Df.WV n f (k+1) (by rw[show k+1+1=k+2 by omega];omega) (by rw[show k+1+f+2=k+(f+1)+2 by omega];exact h2);refine⟨m,om,b,c,?_⟩;rw[<-d,show n - 2 ^ (k+1) - 2*2 ^ k=n - 2 ^ (k+1+1) by rw[show k+1+1=k+2 by omega];omega,show 2+2*k+2=2+2*(k+1) by omega]
  ·rw[agV hc];exact⟨k,ahD _,h,om,rfl⟩
def Df.farQ (m:Nat):Bool:=decide (Fl.farF (2+2*m)=1+2 ^ (m+1))&&decide (Fl.farF (2+2*m+1)=1+2 ^ (m+1)+2 ^ m)
theorem Df.LA (h0:1<=d)(h:d<=32768):(Df.far d).1<=29∧Fl.farB (Df.far d).1=(Df.far d).2.2∧Fl.farF (Df.far d).1+(Df.far d).2.1=d∧(Df.far d).2.1 < 2 ^ (Df.far d).2.2∧(Df.far d).2.2<=13:=by
 unfold Df.far Df.said;by_cases h4:d - 1 < 4
 ·rw[agW h4];rcases (by omega:d=1∨d=2∨d=3∨d=4) with rfl|rfl|rfl|rfl<;>decide
 ·rw[agV h4];obtain⟨m,a,b,c,e⟩:=Df.WV (d - 1) 20 1 om (by have:(2:Nat) ^ (1+20+2)=8388608:=rfl;omega);have hm:m<=13:=by
   rcases ahY m 14 with h'|h'
   ·omega
   ·have:=aiY (n:=2) dc (show 15<=m+1 by omega);have e15:(2:Nat) ^ 15=32768:=rfl;omega
  have e4:Df.JS 2 20 (d - 1 - 4) 4 1=Df.JS 2 20 (d - 1 - 2 ^ (1+1)) (2+2*1) 1:=rfl;rw[e4,e];have p1:2 ^ (m+1)=2*2 ^ m:=by rw[ajQ];omega
  have p2:2 ^ (m+2)=4*2 ^ m:=by rw[ajQ,ajQ];omega
  have pp:=anZ m;have hq:(List.range 14).all Df.farQ=true:=by decide +kernel
  have hq:=ajS.1 hq m (aiV.2 om);unfold Df.farQ at hq;rw[ahR,aiI,aiI] at hq;have hdm:=Nat.div_add_mod (d - 1 - 2 ^ (m+1)) (2 ^ m);have hlt:=ajW (d - 1 - 2 ^ (m+1)) pp;have hq2:(d - 1 - 2 ^ (m+1)) / 2 ^ m < 2:=(Nat.div_lt_iff_lt_mul pp).2 om;generalize (d - 1 - 2 ^ (m+1)) / 2 ^ m=q at hdm hq2 ⊢;generalize (d - 1 - 2 ^ (m+1)) % 2 ^ m=r at hdm hlt ⊢;rcases (by omega:q=0∨q=1) with rfl|rfl
  ·refine⟨by show 2+2*m+0<=29;omega,by show (2+2*m+0) / 2 - 1=m;omega,?_,hlt,hm⟩;show Fl.farF (2+2*m)+r=d;rw[hq.1];omega
  ·refine⟨by show 2+2*m+1<=29;omega,by show (2+2*m+1) / 2 - 1=m;omega,?_,hlt,hm⟩;show Fl.farF (2+2*m+1)+r=d;rw[hq.2];omega
def Bw.At (l:List Nat)(p:Nat)(x:List Nat):Prop:=∃a b,l=a++x++b∧p=a.length
theorem Bw.At.fst {x y:List Nat}(h:Bw.At l p (x++y)):Bw.At l p x:=by
 obtain⟨a,b,rfl,rfl⟩:=h;exact⟨a,y++b,by simp[ahK],rfl⟩
theorem Bw.At.snd {x y:List Nat}(h:Bw.At l p (x++y)):Bw.At l (p+x.length) y:=by
 obtain⟨a,b,rfl,rfl⟩:=h;exact⟨a++x,b,by simp[ahK],sm⟩
theorem Bw.At.le {x:List Nat}(h:Bw.At l p x):p+x.length<=8*(Bw.bytes l).length:=by
 obtain⟨a,b,rfl,rfl⟩:=h;have:=Bw.II (a++x++b);simp only[agZ] at this;omega
theorem Bw.At.num {l:List Nat}{p v n:Nat}(h:Bw.At l p (Bw.low v n))(hok:Bw.ok l)(hv:v < 2 ^ n):Fl.num (Bw.bytes l) p n=v:=by
 obtain⟨a,b,rfl,rfl⟩:=h;exact Bw.Uw hok hv
theorem Bw.At.sign {l:List Nat}{p i:Nat}{lens:List Nat}(h:Bw.At l p (Fl.iK lens i))(hok:Bw.ok l)(hc:Fl.chk lens=0)(h15:∀l∈lens,l<=15)(hi:0 < lens.getD i 0):Fl.sign lens (Bw.bytes l) p=(i,p+lens.getD i 0,0):=by
 obtain⟨a,b,rfl,rfl⟩:=h;exact Fl.TI hc h15 hi hok
abbrev Df.Pt:=UInt8×Nat×Nat
def Df.exp1 (out:List UInt8)(x:Df.Pt):List UInt8:=if x.2.1=0 then out++[x.1] else Fl.back x.2.2 x.2.1 out
def Df.exp (out:List UInt8)(l:List Df.Pt):List UInt8:=l.foldl Df.exp1 out
def Df.ptOk (n:Nat)(x:Df.Pt):Prop:=if x.2.1=0 then x.2.2=0 else x.1=0∧3<=x.2.1∧x.2.1<=258∧1<=x.2.2∧x.2.2<=32768∧x.2.2<=n
def Df.zZ:Nat->List Df.Pt->Prop
|_,[]=>True
|n,x::l=>Df.ptOk n x∧Df.zZ (n+max x.2.1 1) l
theorem Df.FG {out:List UInt8}{x:Df.Pt}:(Df.exp1 out x).length=out.length+max x.2.1 1:=by
 unfold Df.exp1;by_cases h:x.2.1=0
 ·rw[agW h,h];simp
 ·rw[agV h,Fl.Ni];omega
theorem Df.S7:∀(l:List Df.Pt) (out:List UInt8),out.length<=(Df.exp out l).length
|[],out=>ahD _
|x::l,out=>by
  have:=Df.S7 l (Df.exp1 out x);rw[Df.FG] at this;show out.length<=(Df.exp (Df.exp1 out x) l).length;omega
def Df.mK (near far:List Nat)(x:Df.Pt):List Nat:=
 if x.2.1=0 then Fl.iK near x.1.toNat
 else Fl.iK near (Df.sign x.2.1).1++(Bw.low (Df.sign x.2.1).2.1 (Df.sign x.2.1).2.2++(Fl.iK far (Df.far x.2.2).1++Bw.low (Df.far x.2.2).2.1 (Df.far x.2.2).2.2))
def Df.has (near far:List Nat)(x:Df.Pt):Prop:=
 if x.2.1=0 then 0 < near.getD x.1.toNat 0 else 0 < near.getD (Df.sign x.2.1).1 0∧0 < far.getD (Df.far x.2.2).1 0
def Df.pall (near far:List Nat)(l:List Df.Pt):List Nat:=l.flatMap (Df.mK near far)++Fl.iK near 256
theorem Df.Og (near far:List Nat)(x:Df.Pt):Bw.ok (Df.mK near far x):=by
 unfold Df.mK;split
 ·exact Fl.nD _ _
 ·exact Bw.cH (Fl.nD _ _) (Bw.cH (Bw.eK _ _) (Bw.cH (Fl.nD _ _) (Bw.eK _ _)))
theorem Df.Th (near far:List Nat)(l:List Df.Pt):Bw.ok (Df.pall near far l):=by
 refine Bw.cH (fun b hb=>?_) (Fl.nD _ _);obtain⟨x,_,hx⟩:=amG.1 hb;exact Df.Og near far x b hx
theorem Df.H6 {near far:List Nat}(hn:Fl.chk near=0)(hf:Fl.chk far=0)(hn15:∀l∈near,l<=15)(hf15:∀l∈far,l<=15)(h256:0 < near.getD 256 0){B:List Nat}(hok:Bw.ok B){most:Nat} :
  ∀(l:List Df.Pt) (p:Nat) (out:List UInt8) (f:Nat),(∀x∈l,Df.has near far x)->Df.zZ out.length l->Bw.At B p (Df.pall near far l)->(Df.exp out l).length<=most->l.length < f ->
   Fl.vA near far (Bw.bytes B) most f p out=(Df.exp out l,p+(Df.pall near far l).length,0)
|[],p,out,f,_,_,hat,hm,hl=>by
  obtain⟨f,rfl⟩:∃g,f=g+1:=⟨f - 1,by simp at hl;omega⟩;have hat:Bw.At B p (Fl.iK near 256):=hat;unfold Fl.vA;simp only[hat.sign hok hn hn15 h256];rw[agV sm,agV om,agW trivial];show (out,_,_)=(out,p+(Fl.iK near 256).length,0);rw[Fl.bX]
|x::l,p,out,f,hh,ho,hat,hm,hl=>by
  obtain⟨f,rfl⟩:∃g,f=g+1:=⟨f - 1,by simp at hl;omega⟩;have hl:l.length < f:=by simp at hl;omega
  have hx:=hh x (aiS ..);have e:Df.pall near far (x::l)=Df.mK near far x++Df.pall near far l:=by
   unfold Df.pall;rw[aiT,ahK]
  rw[e] at hat;have h1:=hat.fst;have h2:=hat.snd;have hm':(Df.exp (Df.exp1 out x) l).length<=most:=hm;have hm1:=ajZ (Df.S7 l (Df.exp1 out x)) hm';have ho1:=ho.1;have ho2:=ho.2;rw[<-Df.FG] at ho2;have ih:=Df.H6 hn hf hn15 hf15 h256 hok l (p+(Df.mK near far x).length) (Df.exp1 out x) f (fun y hy=>hh y (aiB _ hy)) ho2 h2 hm' hl;have fin:Df.exp (Df.exp1 out x) l=Df.exp out (x::l):=rfl;rw[fin] at ih;rw[e,agZ,<-akL,<-ih]
  conv=>lhs;unfold Fl.vA
  unfold Df.has at hx;unfold Df.mK at h1 h2 ih ⊢;unfold Df.ptOk at ho1;rw[Df.FG] at hm1;unfold Df.exp1 at ih ⊢;by_cases h0:x.2.1=0
  ·rw[agW h0] at hx ho1;simp only[agW h0] at h1 ih ⊢;have hb:x.1.toNat < 256:=x.1.toNat_lt;simp only[h1.sign hok hn hn15 hx];rw[agV sm,agW hb,agV om,Fl.bX,UInt8.ofNat_toNat]
  ·rw[agV h0] at hx ho1;simp only[agV h0] at h1 h2 ih ⊢;obtain⟨s1,s2,s3,s4,s5,s6⟩:=Df.DE ho1.2.1 ho1.2.2.1;obtain⟨f1,f2,f3,f4,f5⟩:=Df.LA ho1.2.2.2.1 ho1.2.2.2.2.1;have a1:=h1.fst;have a2:=h1.snd;rw[Fl.bX] at a2;have a3:=a2.snd;rw[Bw.bE] at a3;have a4:=a3.snd;rw[Fl.bX] at a4;have n2:=a2.fst.num hok s5;have n4:=a4.num hok f4;have l2:=a2.fst.le;have l4:=a4.le;rw[Bw.bE] at l2 l4;have g3:=a3.fst.sign hok hf hf15 hx.2;simp only[a1.sign hok hn hn15 hx.1];have hcop:Fl.copied far (Bw.bytes B) (p+near.getD (Df.sign x.2.1).1 0) (Df.sign x.2.1).1 out most=(Fl.back x.2.2 x.2.1 out,p+near.getD (Df.sign x.2.1).1 0+(Df.sign x.2.1).2.2+far.getD (Df.far x.2.2).1 0+(Df.far x.2.2).2.2,0):=by
    unfold Fl.copied;rw[agV om,s3,agV om,n2,s4];simp only[g3];rw[agV sm,agV om,f2,agV om,n4,f3,agV om,agV om]
   simp only[hcop];rw[agV sm,agV om,agV om,agV sm]
   congr 1
   simp only[agZ,Fl.bX,Bw.bE];omega
theorem Df.Ng {near far:List Nat}:∀{l:List Df.Pt},(∀x∈l,Df.has near far x)->0 < near.getD 256 0->l.length+1<=(Df.pall near far l).length
|[],_,h=>by
  show 1<=(Fl.iK near 256).length;rw[Fl.bX];exact h
|x::l,hh,h=>by
  have ih:=Df.Ng (fun y hy=>hh y (aiB _ hy)) h;have hx:=hh x (aiS ..);have e:Df.pall near far (x::l)=Df.mK near far x++Df.pall near far l:=by
   unfold Df.pall;rw[aiT,ahK]
  have:1<=(Df.mK near far x).length:=by
   unfold Df.mK;unfold Df.has at hx;by_cases h0:x.2.1=0
   ·rw[agW h0] at hx ⊢;rw[Fl.bX];exact hx
   ·rw[agV h0] at hx ⊢;rw[agZ,Fl.bX];omega
  rw[e,agZ,ahU];omega
theorem Df.Ld {far:List Nat}(hn:Fl.chk near=0)(hf:Fl.chk far=0)(hn15:∀l∈near,l<=15)(hf15:∀l∈far,l<=15)(h256:0 < near.getD 256 0)(hok:Bw.ok B){l:List Df.Pt}
  (hh:∀x∈l,Df.has near far x) (ho:Df.zZ 0 l) (hat:Bw.At B p (Df.pall near far l)) (hm:(Df.exp [] l).length<=most) :
  Fl.rE near far (Bw.bytes B) most p []=(Df.exp [] l,p+(Df.pall near far l).length,0):=by
 have h1:=Df.Ng hh h256;have h2:=hat.le;exact Df.H6 hn hf hn15 hf15 h256 hok l p [] _ hh ho hat hm om
def Bw.raw (s:List UInt8):List Nat:=s.flatMap fun c=>Bw.low c.toNat 8
theorem Bw.M1:∀s:List UInt8,(Bw.raw s).length=8*s.length
|[]=>rfl
|c::s=>by
  have:=Bw.M1 s;unfold Bw.raw at this ⊢;rw[aiT,agZ,this,Bw.bE,ahU];omega
theorem Bw.Wx (s:List UInt8):Bw.ok (Bw.raw s):=fun b hb=>by
 obtain⟨c,_,hc⟩:=amG.1 hb;exact Bw.eK _ _ b hc
theorem Bw.acA {a b:List Nat}{k:Nat}(h:a.length=8*k)(hi:i < k):Bw.at_ (a++b) i=Bw.at_ a i:=by
 have e:∀j,j < 8->(a++b).getD (8*i+j) 0=a.getD (8*i+j) 0:=fun j hj=>by
  rw[ahC,ajA om,ahC]
 unfold Bw.at_;rw[e 1 om,e 2 om,e 3 om,e 4 om,e 5 om,e 6 om,e 7 om,show (a++b).getD (8*i) 0=a.getD (8*i) 0 from e 0 om]
theorem Bw.ZR {a b:List Nat}{k:Nat}(h:a.length=8*k):Bw.at_ (a++b) (k+i)=Bw.at_ b i:=by
 have e:∀j,(a++b).getD (8*(k+i)+j) 0=b.getD (8*i+j) 0:=fun j=>by
  rw[ahC,ajO om,ahC,show 8*(k+i)+j - a.length=8*i+j by omega]
 unfold Bw.at_;rw[e 1,e 2,e 3,e 4,e 5,e 6,e 7,show (a++b).getD (8*(k+i)) 0=b.getD (8*i) 0 from e 0]
theorem Bw.sC {a b:List Nat}{k:Nat}(h:a.length=8*k):Bw.bytes (a++b)=Bw.bytes a++Bw.bytes b:=by
 unfold Bw.bytes;rw[agZ,h,show (8*k+b.length+7) / 8=k+(b.length+7) / 8 by omega,show (8*k+7) / 8=k by omega,List.range_add,aiN,akZ]
 congr 1
 ·refine alW fun i hi=>?_;rw[Bw.acA h (aiV.1 hi)]
 ·refine alW fun i _=>?_;show UInt8.ofNat (Bw.at_ (a++b) (k+i))=_;rw[Bw.ZR h]
theorem Bw.UH:∀n:Fin 256,Bw.bytes (Bw.low n.val 8)=[UInt8.ofNat n.val]:=by decide +kernel
theorem Bw.low8 (c:UInt8):Bw.bytes (Bw.low c.toNat 8)=[c]:=by
 have:=Bw.UH ⟨c.toNat,c.toNat_lt⟩;rw[this,UInt8.ofNat_toNat]
theorem Bw.BX (b:List Nat):∀s:List UInt8,Bw.bytes (Bw.raw s++b)=s++Bw.bytes b
|[]=>rfl
|c::s=>by
  have e:Bw.raw (c::s)=Bw.low c.toNat 8++Bw.raw s:=by unfold Bw.raw;rw[aiT]
  rw[e,ahK,Bw.sC (k:=1) (Bw.bE _ _),Bw.BX b s,Bw.low8];rfl
theorem Bw.At.raw {l:List Nat}{p k:Nat}{s:List UInt8}(h:Bw.At l p (Bw.raw s))(hp:p=8*k):((Bw.bytes l).drop k).take s.length=s:=by
 obtain⟨a,b,rfl,rfl⟩:=h;have hl:(Bw.bytes a).length=k:=by rw[Bw.lQ,hp];omega
 rw[ahK,Bw.sC hp,Bw.BX,alC,hl,akF,ajL,amI om,aiM,aoF,akF,akS,ahV,ajG]
def Bw.pad (l:List Nat):List Nat:=l++List.replicate ((8 - l.length % 8) % 8) 0
theorem Bw.Ji (l:List Nat):(Bw.pad l).length=8*((l.length+7) / 8):=by
 unfold Bw.pad;rw[agZ,aiE];omega
theorem Bw.Le (l:List Nat):Bw.bytes (Bw.pad l)=Bw.bytes l:=by
 have e:∀j,(Bw.pad l).getD j 0=l.getD j 0:=fun j=>by
  unfold Bw.pad;rw[ahC,ahC];rcases ahY j l.length with h|h
  ·rw[ajA h]
  ·rw[ajO h,ajD (l:=l) h,anH];split<;>rfl
 unfold Bw.bytes;rw[Bw.Ji,show (8*((l.length+7) / 8)+7) / 8=(l.length+7) / 8 by omega];refine alW fun i _=>?_;unfold Bw.at_;rw[e,e,e,e,e,e,e,e]
theorem Bw.WW (h:Bw.ok l):Bw.ok (Bw.pad l):=Bw.cH h fun b hb=>by rw[akB hb];decide
def Df.good (R:List Nat)(s:List UInt8):Prop:=∀(L:List Nat) (most:Nat),Bw.ok L->Bw.At L 0 R->s.length<=most->Fl.allG (Bw.bytes L) most (8*(Bw.bytes L).length+1) 0 []=(s,(R.length+7) / 8,0)
theorem Df.UU {R:List Nat}{s t:List UInt8}(h:Df.good R s)(hok:Bw.ok R){most:Int}(hm:(s.length:Int)<=most)(hs:s.length<=1048576):Fl.all (Bw.bytes R++t) most=(s,(Bw.bytes R).length,0):=by
 have e:Bw.bytes R++t=Bw.bytes (Bw.pad R++Bw.raw t):=by
  have:Bw.bytes (Bw.raw t)=t:=by
   have:=Bw.BX [] t;rw[ahV] at this;rw[this];exact ahV _
  rw[Bw.sC (Bw.Ji R),Bw.Le,this]
 unfold Fl.all;rw[agV om,e,h _ _ (Bw.cH (Bw.WW hok) (Bw.Wx t)) ⟨[],List.replicate ((8 - R.length % 8) % 8) 0++Bw.raw t,by unfold Bw.pad;simp,rfl⟩ om,Bw.lQ]
def Df.sb (last n:Nat)(s:List UInt8):List Nat:=Bw.low last 1++(Bw.low 0 2++(List.replicate 5 0++(Bw.low n 16++(Bw.low (65535 - n) 16++Bw.raw s))))
def Df.st:Nat->List UInt8->List Nat
|0,_=>[]
|f+1,s=>if s.length<=65535 then Df.sb 1 s.length s else Df.sb 0 65535 (s.take 65535)++Df.st f (s.drop 65535)
theorem Df.wR (last n:Nat)(s:List UInt8):(Df.sb last n s).length=40+8*s.length:=by
 unfold Df.sb;simp only[agZ,Bw.bE,aiE,Bw.M1];omega
theorem Df.Yz (last n:Nat)(s:List UInt8):Bw.ok (Df.sb last n s):=
 Bw.cH (Bw.eK _ _) (Bw.cH (Bw.eK _ _) (Bw.cH (fun b hb=>by rw[akB hb];decide) (Bw.cH (Bw.eK _ _) (Bw.cH (Bw.eK _ _) (Bw.Wx _)))))
theorem Df.Zj:∀(f:Nat) (s:List UInt8),Bw.ok (Df.st f s)
|0,_=>fun b hb=>by cases hb
|f+1,s=>by
  unfold Df.st;split
  ·exact Df.Yz _ _ _
  ·exact Bw.cH (Df.Yz _ _ _) (Df.Zj f _)
theorem Df.TH {L:List Nat}{k last:Nat}{s out:List UInt8}(h:Bw.At L (8*k) (Df.sb last s.length s))(hok:Bw.ok L)(hl:last < 2)(hs:s.length<=65535)(hm:out.length+s.length<=most) :
  8*k+1<=8*(Bw.bytes L).length∧Fl.num (Bw.bytes L) (8*k) 1=last∧Fl.block (Bw.bytes L) most (8*k+1) out=(out++s,8*k+(Df.sb last s.length s).length,0):=by
 have hle:=h.le;rw[Df.wR] at hle ⊢;unfold Df.sb at h;have h1:=h.snd;rw[Bw.bE] at h1;have h2:=h1.snd.snd;rw[Bw.bE,aiE] at h2;have h3:=h2.snd;rw[Bw.bE] at h3;have h4:=h3.snd;rw[Bw.bE] at h4;have n1:=h1.fst.num hok dc;have n2:=h2.fst.num hok om;have n3:=h3.fst.num hok om;have n4:=h4.raw (k:=k+5) om;refine⟨om,h.fst.num hok om,?_⟩;unfold Fl.block;rw[agV om,n1,agW rfl];unfold Fl.stored;dsimp only;have ea:(8*k+1+2+7) / 8*8=8*k+1+2+5:=om
 rw[ea,agV om,agV om,n2,n3,agV om,agV om,agV om,show (8*k+1+2+5) / 8+4=k+5 by omega,n4]
 congr 2
 omega
theorem Df.RU:∀(f:Nat) (s:List UInt8) (L:List Nat) (k:Nat) (out:List UInt8) (most g:Nat),s.length < f*65535->Bw.At L (8*k) (Df.st f s)->Bw.ok L->out.length+s.length<=most->f<=g ->
  Fl.allG (Bw.bytes L) most g (8*k) out=(out++s,k+((Df.st f s).length+7) / 8,0)
|0,s,L,k,out,most,g,hs,_,_,_,_=>by omega
|f+1,s,L,k,out,most,g,hs,h,hok,hm,hg=>by
  obtain⟨g,rfl⟩:∃j,g=j+1:=⟨g - 1,om⟩;unfold Df.st at h ⊢;unfold Fl.allG;by_cases hc:s.length<=65535
  ·rw[agW hc] at h ⊢;obtain⟨b1,b2,b3⟩:=Df.TH h hok dc hc hm;rw[agV om];simp only[b3,b2];rw[agV sm,agW trivial]
   congr 2
   omega
  ·rw[agV hc] at h ⊢;have hl:(s.take 65535).length=65535:=by rw[ahE];omega
   have hf:=h.fst
   conv at hf=>arg 3;arg 2;rw[<-hl]
   obtain⟨b1,b2,b3⟩:=Df.TH (out:=out) (most:=most) hf hok dc om om;have h2:=h.snd;rw[Df.wR,hl] at h2;rw[hl,Df.wR,hl] at b3;rw[agV om];simp only[b3,b2];rw[agV sm,agV dc];have hd:(s.drop 65535).length=s.length - 65535:=ahL;have ih:=Df.RU f (s.drop 65535) L (k+65540) (out++s.take 65535) most g om (by rw[show 8*(k+65540)=8*k+(40+8*65535) by omega];exact h2) hok (by rw[agZ];omega) om;rw[show 8*k+(40+8*65535)=8*(k+65540) by omega,ih,ahK,aiJ,agZ,Df.wR,hl]
   congr 2
   omega
theorem Df.V6:∀(f:Nat) (s:List UInt8),s.length < f*65535->s.length<=(Df.st f s).length
|0,s,h=>by omega
|f+1,s,h=>by
  unfold Df.st;by_cases hc:s.length<=65535
  ·rw[agW hc,Df.wR];omega
  ·have hd:(s.drop 65535).length=s.length - 65535:=ahL;have hl:(s.take 65535).length=65535:=by rw[ahE];omega
   have ih:=Df.V6 f (s.drop 65535) om;rw[agV hc,agZ,Df.wR,hl];omega
def Df.stored (s:List UInt8):List Nat:=Df.st (s.length / 65535+1) s
theorem Df.Q3 (s:List UInt8):Bw.ok (Df.stored s):=Df.Zj _ _
theorem Df.MW (s:List UInt8):Df.good (Df.stored s) s:=by
 intro L most hok hat hm;unfold Df.stored at hat ⊢;have h1:=hat.le;have h0:s.length < (s.length / 65535+1)*65535:=om
 have h2:=Df.V6 _ s h0;have:=Df.RU _ s L 0 [] most (8*(Bw.bytes L).length+1) h0 hat hok (by simpa using hm) om;simpa using this
def Df.fixed (l:List Df.Pt):List Nat:=Bw.low 1 1++(Bw.low 1 2++Df.pall Fl.fixS Fl.fixF l)
theorem Df.U3 (l:List Df.Pt):Bw.ok (Df.fixed l):=Bw.cH (Bw.eK _ _) (Bw.cH (Bw.eK _ _) (Df.Th _ _ _))
def Df.adN (i:Nat):Bool:=decide (0 < Fl.fixS.getD i 0)
theorem Df.FK (h:i < 288):0 < Fl.fixS.getD i 0:=by
 have h1:(List.range 288).all Df.adN=true:=by decide +kernel
 exact ahO (ajS.1 h1 i (aiV.2 h))
theorem Df.US (h:i < 32):0 < Fl.fixF.getD i 0:=by
 unfold Fl.fixF;rw[ahC,anH,agW h];decide
theorem Df.GJ:∀l∈Fl.fixS,l<=15:=by
 have h1:Fl.fixS.all (fun l=>decide (l<=15))=true:=by decide +kernel
 exact fun l hl=>ahO (ajS.1 h1 l hl)
theorem Df.Jm:∀l∈Fl.fixF,l<=15:=fun l hl=>by rw[akB hl];decide
theorem Df.A6:∀{l:List Df.Pt} {n:Nat},Df.zZ n l->∀x∈l,∃m,Df.ptOk m x
|y::l,n,h,x,hx=>by
  rcases ahG.1 hx with rfl|hx
  ·exact⟨n,h.1⟩
  ·exact Df.A6 h.2 x hx
theorem Df.K2 {l:List Df.Pt}{n:Nat}(h:Df.zZ n l):∀x∈l,Df.has Fl.fixS Fl.fixF x:=by
 intro x hx;obtain⟨m,hm⟩:=Df.A6 h x hx;unfold Df.ptOk at hm;unfold Df.has;by_cases h0:x.2.1=0
 ·rw[agW h0];have:=x.1.toNat_lt;exact Df.FK om
 ·rw[agV h0] at hm ⊢;have a:=Df.DE hm.2.1 hm.2.2.1;have b:=Df.LA hm.2.2.2.1 hm.2.2.2.2.1;exact⟨Df.FK om,Df.US om⟩
theorem Df.ON {R x:List Nat}{s:List UInt8}(hR:R=Bw.low 1 1++x)(h:∀(L:List Nat) (most:Nat),Bw.ok L->Bw.At L 1 x->s.length<=most->1<=8*(Bw.bytes L).length->Fl.block (Bw.bytes L) most 1 []=(s,1+x.length,0)):Df.good R s:=by
 subst hR;intro L most hok hat hm;have h1:=hat.snd;rw[Bw.bE] at h1;have hle:=hat.fst.le;rw[Bw.bE] at hle;unfold Fl.allG;rw[agV om];simp only[ahJ,h L most hok (by simpa using h1) hm om,hat.fst.num hok dc];rw[agV sm,agW trivial]
 congr 2
 rw[agZ,Bw.bE]
theorem Df.PF {l:List Df.Pt}(h:Df.zZ 0 l):Df.good (Df.fixed l) (Df.exp [] l):=by
 refine Df.ON rfl fun L most hok hat hm hle=>?_;have h1:=hat.fst.le;have h2:=hat.snd;rw[Bw.bE] at h1 h2;unfold Fl.block;rw[agV om,hat.fst.num hok dc,agV dc,agW rfl,Df.Ld Fl.Ft Fl.Fz Df.GJ Df.Jm (Df.FK dc) hok (Df.K2 h) h (by simpa using h2) hm]
 congr 2
 rw[agZ,Bw.bE];omega
abbrev Df.Mk:=Nat×Nat×Nat
def Df.mk1 (acc:List Nat)(m:Df.Mk):List Nat:=if m.1 < 16 then acc++[m.1] else acc++List.replicate (Fl.repL m.1+m.2.1) (if m.1=16 then acc.getD (acc.length - 1) 0 else 0)
def Df.mkOk (acc:List Nat)(m:Df.Mk):Prop:=if m.1 < 16 then m.2.1=0∧m.2.2=0 else m.1<=18∧m.2.2=Fl.repB m.1∧m.2.1 < 2 ^ m.2.2∧(m.1=16->0 < acc.length)
def Df.mks (acc:List Nat)(l:List Df.Mk):List Nat:=l.foldl Df.mk1 acc
def Df.CH:List Nat->List Df.Mk->Prop
|_,[]=>True
|acc,m::l=>Df.mkOk acc m∧Df.CH (Df.mk1 acc m) l
theorem Df.Ot (acc:List Nat)(l:List Df.Mk)(m:Df.Mk):Df.mks acc (l++[m])=Df.mk1 (Df.mks acc l) m:=by unfold Df.mks;rw[List.foldl_append];rfl
theorem Df.DA:∀{l:List Df.Mk} {acc:List Nat} {m:Df.Mk},Df.CH acc l->Df.mkOk (Df.mks acc l) m->Df.CH acc (l++[m])
|[],_,_,_,h=>⟨h,trivial⟩
|_::_,_,_,h,h2=>⟨h.1,Df.DA h.2 h2⟩
def Df.mbit (cl:List Nat)(m:Df.Mk):List Nat:=Fl.iK cl m.1++Bw.low m.2.1 m.2.2
def Df.tV (cl:List Nat)(l:List Df.Mk):List Nat:=l.flatMap (Df.mbit cl)
theorem Df.YK (cl:List Nat)(m:Df.Mk):Bw.ok (Df.mbit cl m):=Bw.cH (Fl.nD _ _) (Bw.eK _ _)
theorem Df.Ns (cl:List Nat)(l:List Df.Mk):Bw.ok (Df.tV cl l):=fun b hb=>by
 obtain⟨x,_,hx⟩:=amG.1 hb;exact Df.YK cl x b hx
theorem Df.UB (g:Nat):3<=Fl.repL g:=by unfold Fl.repL;split<;>omega
theorem Df.WS (acc:List Nat)(m:Df.Mk):acc.length < (Df.mk1 acc m).length:=by
 have:=Df.UB m.1;unfold Df.mk1;split<;>simp<;>omega
theorem Df.IP:∀(l:List Df.Mk) (acc:List Nat),acc.length+l.length<=(Df.mks acc l).length
|[],_=>ahD _
|m::l,acc=>by
  have h1:=Df.IP l (Df.mk1 acc m);have h2:=Df.WS acc m;show acc.length+(l.length+1)<=(Df.mks (Df.mk1 acc m) l).length;omega
theorem Df.Kt {cl:List Nat}(hc:Fl.chk cl=0)(h15:∀l∈cl,l<=15){B:List Nat}(hok:Bw.ok B){n:Nat} :
  ∀(l:List Df.Mk) (p:Nat) (acc:List Nat) (f:Nat),(∀m∈l,0 < cl.getD m.1 0)->Df.CH acc l->Bw.At B p (Df.tV cl l)->(Df.mks acc l).length=n->l.length < f ->
   Fl.Fh cl (Bw.bytes B) n f p acc=(Df.mks acc l,p+(Df.tV cl l).length,0)
|[],p,acc,f,_,_,_,hn,hf=>by
  obtain⟨f,rfl⟩:∃g,f=g+1:=⟨f - 1,by simp at hf;omega⟩;have hn:acc.length=n:=hn;unfold Fl.Fh;rw[agW om];rfl
|m::l,p,acc,f,hh,ho,hat,hn,hf=>by
  obtain⟨f,rfl⟩:∃g,f=g+1:=⟨f - 1,by simp at hf;omega⟩;have hf:l.length < f:=by simp at hf;omega
  have hm:=hh m (aiS ..);have e:Df.tV cl (m::l)=Df.mbit cl m++Df.tV cl l:=by unfold Df.tV;rw[aiT]
  rw[e] at hat ⊢;have h1:=hat.fst;have h2:=hat.snd;have hn':(Df.mks (Df.mk1 acc m) l).length=n:=hn;have hlt:=Df.WS acc m;have hle:=Df.IP l (Df.mk1 acc m);have ih:=Df.Kt hc h15 hok l (p+(Df.mbit cl m).length) (Df.mk1 acc m) f (fun y hy=>hh y (aiB _ hy)) ho.2 h2 hn' hf;have fin:Df.mks (Df.mk1 acc m) l=Df.mks acc (m::l):=rfl;rw[fin] at ih;rw[agZ,<-akL,<-ih]
  conv=>lhs;unfold Fl.Fh
  have hmo:=ho.1;unfold Df.mkOk at hmo;unfold Df.mbit at h1 ih ⊢;rw[agV om];have hs:=h1.fst.sign hok hc h15 hm;have hnm:=h1.snd;rw[Fl.bX] at hnm;have hl:=hnm.le;rw[Bw.bE] at hl;simp only[hs];rw[agV sm];unfold Df.mk1 at ih hlt hle hn' ⊢;rw[agZ,Fl.bX,Bw.bE];by_cases h16:m.1 < 16
  ·rw[agW h16] at hmo;simp only[agW h16] at ih ⊢;rw[hmo.2,aiZ]
  ·rw[agV h16] at hmo;simp only[agV h16] at ih hlt hle hn' ⊢;simp only[agZ,aiE] at hlt hle;have hv:=hnm.num hok hmo.2.2.1;have hacc:=hmo.2.2.2;rw[agV (fun k=>by have:=hacc k.1;omega),<-hmo.2.1,agV om,hv,agV om,<-akL]
theorem Df.fZ {P:Nat->Prop}(h:∀x∈l,P x)(h0:P 0)(i:Nat):P (l.getD i 0):=by
 rw[ahC];cases hx:l[i]? with
|none=>exact h0
|some b=>exact h b (akM hx)
def Df.ordB (i:Nat):Bool:=(List.range 19).all fun j=>decide (i=j)||decide (Fl.ord.getD i 0≠Fl.ord.getD j 0)
def Df.ordS (j:Nat):Bool:=(List.range 19).any fun i=>decide (Fl.ord.getD i 0=j)
theorem Df.YR (hi:i < 19)(hj:j < 19)(h:i≠j):Fl.ord.getD i 0≠Fl.ord.getD j 0:=by
 have h1:(List.range 19).all Df.ordB=true:=by decide +kernel
 have h2:=ajS.1 h1 i (aiV.2 hi);unfold Df.ordB at h2;have h3:=ajS.1 h2 j (aiV.2 hj);rw[alH,aiI,aiI] at h3;exact h3.resolve_left h
theorem Df.V4 (hj:j < 19):∃i,i < 19∧Fl.ord.getD i 0=j:=by
 have h1:(List.range 19).all Df.ordS=true:=by decide +kernel
 have h2:=ajS.1 h1 j (aiV.2 hj);unfold Df.ordS at h2;obtain⟨i,hi,h⟩:=akC.1 h2;exact⟨i,aiV.1 hi,ahO h⟩
theorem Df.Np (h:i < 19):Fl.ord.getD i 0 < 19:=by
 have h1:(List.range 19).all (fun i=>decide (Fl.ord.getD i 0 < 19))=true:=by decide +kernel
 exact ahO (ajS.1 h1 i (aiV.2 h))
theorem Df.Su (s:List UInt8)(p:Nat):∀(k i:Nat),k<=19->i < 19->(Fl.clG s p k).getD (Fl.ord.getD i 0) 0=if i < k then Fl.num s (p+3*i) 3 else 0
|0,i,_,hi=>by
  rw[agV om,Fl.clG,ahC,anH];split<;>rfl
|k+1,i,hk,hi=>by
  have hl:=Fl.F5 s p k;rw[Fl.clG,ahC];by_cases h:k=i
  ·subst h;rw[akP (by rw[hl];exact Df.Np hi),agW om];rfl
  ·rw[anW (Df.YR om hi h),<-ahC,Df.Su s p k i om hi];by_cases h2:i < k
   ·rw[agW h2,agW om]
   ·rw[agV h2,agV om]
def Df.inb (cl:List Nat)(k:Nat):List Nat:=(List.range k).flatMap fun i=>Bw.low (cl.getD (Fl.ord.getD i 0) 0) 3
theorem Df.JF (cl:List Nat)(k:Nat):Df.inb cl (k+1)=Df.inb cl k++Bw.low (cl.getD (Fl.ord.getD k 0) 0) 3:=by
 unfold Df.inb;rw[alY,amC];simp
theorem Df.Dv (cl:List Nat):∀k,(Df.inb cl k).length=3*k
|0=>rfl
|k+1=>by rw[Df.JF,agZ,Df.Dv cl k,Bw.bE];omega
theorem Df.Sx (cl:List Nat)(k:Nat):Bw.ok (Df.inb cl k):=fun b hb=>by
 obtain⟨x,_,hx⟩:=amG.1 hb;exact Bw.eK _ _ b hx
theorem Df.TK {cl:List Nat}(h7:∀x∈cl,x<=7){B:List Nat}(hok:Bw.ok B){p:Nat}:∀(k:Nat),Bw.At B p (Df.inb cl k)->∀i,i < k->Fl.num (Bw.bytes B) (p+3*i) 3=cl.getD (Fl.ord.getD i 0) 0
|k+1,h,i,hi=>by
  rw[Df.JF] at h;rcases ahY i k with h'|h'
  ·exact Df.TK h7 hok k h.fst i h'
  ·obtain rfl:i=k:=om
   have h2:=h.snd;rw[Df.Dv] at h2;have:cl.getD (Fl.ord.getD i 0) 0<=7:=Df.fZ h7 dc _;exact h2.num hok om
theorem Df.XD (hl:cl.length=19)(h7:∀x∈cl,x<=7){k:Nat}(hk:k<=19)(h0:∀i,k<=i->i < 19->cl.getD (Fl.ord.getD i 0) 0=0)(hok:Bw.ok B)(hat:Bw.At B p (Df.inb cl k)) :
  Fl.clG (Bw.bytes B) p k=cl:=by
 refine List.ext_getElem (by rw[Fl.F5,hl]) fun j h1 h2=>?_;obtain⟨i,hi,hj⟩:=Df.V4 (j:=j) om;have g:=Df.Su (Bw.bytes B) p k i hk hi;have e:(if i < k then Fl.num (Bw.bytes B) (p+3*i) 3 else 0)=cl.getD (Fl.ord.getD i 0) 0:=by
  by_cases h:i < k
  ·rw[agW h,Df.TK h7 hok k hat i h]
  ·rw[agV h,h0 i om hi]
 rw[e,hj,ahC,ahC,ahH h1,ahH h2] at g;exact g
def Df.own (a b cl:List Nat)(k:Nat)(ms:List Df.Mk)(l:List Df.Pt):List Nat:=
 Bw.low 1 1++(Bw.low 2 2++(Bw.low (a.length - 257) 5++(Bw.low (b.length - 1) 5++(Bw.low (k - 4) 4++(Df.inb cl k++(Df.tV cl ms++Df.pall a b l))))))
theorem Df.Zw (a b cl:List Nat)(k:Nat)(ms:List Df.Mk)(l:List Df.Pt):Bw.ok (Df.own a b cl k ms l):=
 Bw.cH (Bw.eK _ _) (Bw.cH (Bw.eK _ _) (Bw.cH (Bw.eK _ _) (Bw.cH (Bw.eK _ _) (Bw.cH (Bw.eK _ _) (Bw.cH (Df.Sx _ _) (Bw.cH (Df.Ns _ _) (Df.Th _ _ _)))))))
theorem Df.Vh {a b:List Nat}{k:Nat}{ms:List Df.Mk}{l:List Df.Pt}(ha:257<=a.length)(ha2:a.length<=286)(hb:1<=b.length)(hb2:b.length<=30)(hk:4<=k)(hk2:k<=19)
  (hl:cl.length=19) (h7:∀x∈cl,x<=7) (h0:∀i,k<=i->i < 19->cl.getD (Fl.ord.getD i 0) 0=0) (hc:Fl.chk cl=0) (hms:∀m∈ms,0 < cl.getD m.1 0) (hmo:Df.CH [] ms) (hme:Df.mks [] ms=a++b)
  (hca:Fl.chk a=0) (hcb:Fl.chk b=0) (ha15:∀x∈a,x<=15) (hb15:∀x∈b,x<=15) (h256:0 < a.getD 256 0) (hh:∀x∈l,Df.has a b x) (ho:Df.zZ 0 l):Df.good (Df.own a b cl k ms l) (Df.exp [] l):=by
 refine Df.ON rfl fun L most hok hat hm hle=>?_;have a1:=hat.snd;rw[Bw.bE] at a1;have a2:=a1.snd;rw[Bw.bE] at a2;have a3:=a2.snd;rw[Bw.bE] at a3;have a4:=a3.snd;rw[Bw.bE] at a4;have a5:=a4.snd;rw[Df.Dv] at a5;have a6:=a5.snd;have l1:=a1.fst.le;have l2:=a2.fst.le;have l3:=a3.fst.le;have l4:=a4.fst.le;have l0:=hat.fst.le;rw[Bw.bE] at l0 l1 l2 l3;rw[Df.Dv] at l4;have n1:=a1.fst.num hok om;have n2:=a2.fst.num hok om;have n3:=a3.fst.num hok om;unfold Fl.block;rw[agV om,hat.fst.num hok dc,agV dc,agV dc,agW rfl];unfold Fl.dyn;have ek:k - 4+4=k:=om
 rw[agV om,n1,agV om,agV om,n2,agV om,agV om,n3,ek,agV om];have hcl:=Df.XD hl h7 hk2 h0 hok a4.fst;have hcl:Fl.clG (Bw.bytes L) (1+2+14) k=cl:=hcl;have hlen:=Df.Kt hc (fun x hx=>ajZ (h7 x hx) dc) hok (n:=a.length - 257+257+(b.length - 1+1)) ms (1+2+14+3*k) [] (a.length - 257+257+(b.length - 1+1)+1) hms hmo a5.fst (by rw[hme,agZ];omega) (by have:=Df.IP ms [];rw[hme,agZ] at this;simp at this;omega);have hlen:Fl.lens cl (Bw.bytes L) (a.length - 257+257+(b.length - 1+1)) (1+2+14+3*k)=(a++b,1+2+14+3*k+(Df.tV cl ms).length,0):=by rw[<-hme];exact hlen
 have et:(a++b).take (a.length - 257+257)=a:=by rw[show a.length - 257+257=a.length by omega,List.take_left]
 have ed:(a++b).drop (a.length - 257+257)=b:=by rw[show a.length - 257+257=a.length by omega,List.drop_left]
 have eg:(a++b).getD 256 0=a.getD 256 0:=by rw[ahC,ajA om,ahC]
 simp only[hcl,hlen,et,ed,eg,hc,hca,hcb];rw[agV sm,agV sm,agV om,agV sm,agV sm,Df.Ld hca hcb ha15 hb15 h256 hok hh ho a6 hm]
 congr 2
 simp only[agZ,Bw.bE,Df.Dv];omega
inductive Cn where
|leaf (w s:Nat)
|node (a b:Cn)
 deriving DecidableEq
def Cn.wt:Cn->Nat
|.leaf w _=>w
|.node a b=>a.wt+b.wt
def Cn.cnt (s:Nat):Cn->Nat
|.leaf _ t=>if t=s then 1 else 0
|.node a b=>a.cnt s+b.cnt s
def Cn.zW:Cn->List Cn
|.leaf _ _=>[]
|.node a b=>[a,b]
def Cn.jV:Cn->Bool
|.leaf _ _=>true
|.node _ _=>false
def Cn.top (s:Nat):Cn->Nat
|.leaf _ t=>if t=s then 1 else 0
|.node _ _=>0
def Cn.kids (l:List Cn):List Cn:=l.flatMap Cn.zW
def Cn.iX:List Cn->List Cn
|a::b::l=>.node a b::Cn.iX l
|_=>[]
def Cn.sorted (l:List Cn):Prop:=l.Pairwise fun a b=>a.wt<=b.wt
def Cn.sum (f:Cn->Nat)(l:List Cn):Nat:=(l.map f).sum
theorem Cn.sum_cons (f:Cn->Nat)(c:Cn)(l:List Cn):Cn.sum f (c::l)=f c+Cn.sum f l:=rfl
theorem Cn.Gi (f:Cn->Nat)(a b:List Cn):Cn.sum f (a++b)=Cn.sum f a+Cn.sum f b:=by unfold Cn.sum;rw[aiN,aoK]
theorem Cn.I1 {f:Cn->Nat}{a b:List Cn}(h:a.Perm b):Cn.sum f a=Cn.sum f b:=(h.map f).sum_nat
theorem Cn.RZ {f:Cn->Nat}:∀{q p:List Cn},q.Nodup->(∀x∈q,x∈p)->Cn.sum f q<=Cn.sum f p
|[],_,_,_=>ahW _
|c::q,p,hn,hs=>by
  rw[anK] at hn;have hc:=hs c (aiS ..);have hp:=apH hc;rw[Cn.I1 hp,Cn.sum_cons,Cn.sum_cons];have:=Cn.RZ (f:=f) (p:=p.erase c) hn.2 fun x hx=>by
   have:=hs x (aiB _ hx);have hne:x≠c:=fun e=>hn.1 (e▸hx);exact (List.mem_erase_of_ne hne).2 this
  omega
theorem Cn.DM (y:Cn):∀l:List Cn,(Cn.kids l).count y=Cn.sum (fun c=>c.zW.count y) l
|[]=>rfl
|c::l=>by
  have:=Cn.DM y l;unfold Cn.kids at this ⊢;rw[aiT,alE,this,Cn.sum_cons]
theorem Cn.Io:∀l:List Cn,∃t,l=Cn.kids (Cn.iX l)++t∧t.length<=1
|[]=>⟨[],rfl,dc⟩
|[a]=>⟨[a],rfl,sm⟩
|a::b::l=>by
  obtain⟨t,h,h1⟩:=Cn.Io l;refine⟨t,?_,h1⟩;show a::b::l=(Cn.zW (.node a b)++Cn.kids (Cn.iX l))++t
  conv=>lhs;rw[h]
  rfl
theorem Cn.fT:∀{l:List Cn} {x:Cn},x∈Cn.iX l->∃a b,x=.node a b∧a∈l∧b∈l
|a::b::l,x,h=>by
  rcases ahG.1 h with rfl|h
  ·exact⟨a,b,rfl,aiS ..,aiB _ (aiS ..)⟩
  ·obtain⟨c,d,h1,h2,h3⟩:=Cn.fT h;exact⟨c,d,h1,aiB _ (aiB _ h2),aiB _ (aiB _ h3)⟩
theorem Cn.GC:∀{l:List Cn},l.Nodup->(Cn.iX l).Nodup
|[],_=>List.nodup_nil
|[_],_=>List.nodup_nil
|a::b::l,h=>by
  rw[anK,anK] at h;show (Cn.node a b::Cn.iX l).Nodup;rw[anK];refine⟨fun hm=>?_,Cn.GC h.2.2⟩;obtain⟨c,d,h1,h2,_⟩:=Cn.fT hm
  injection h1 with e1 _
  subst e1;exact h.1 (aiB _ h2)
theorem Cn.CN:∀l:List Cn,(Cn.iX l).length=l.length / 2
|[]=>rfl
|[_]=>by simp[Cn.iX]
|a::b::l=>by
  show (Cn.iX l).length+1=(l.length+1+1) / 2;rw[Cn.CN l];omega
theorem Cn.FR {l:List Cn}:l.Nodup↔∀a,l.count a<=1:=List.nodup_iff_count
theorem Cn.Qj {l q:List Cn}(hl:l.Nodup)(hq:q.Nodup)(hs:∀x∈q,x∈Cn.iX l):(Cn.kids q).Nodup:=by
 rw[Cn.FR];intro y;rw[Cn.DM];have h1:=Cn.RZ (f:=fun c=>c.zW.count y) hq hs;rw[<-Cn.DM y (Cn.iX l)] at h1;obtain⟨t,ht,_⟩:=Cn.Io l;have h2:=Cn.FR.1 hl y;rw[ht,alE] at h2;omega
def Cn.low (d r:List Cn):Prop:=∀x∈d,∀y∈r,y ∉ d->x.wt<=y.wt
theorem Cn.I9 {p:Cn->Prop}:∀{l:List Cn},Cn.sorted l->(∀x∈Cn.iX l,p x->∀y∈Cn.iX l,¬p y->x.wt<=y.wt) ->
  ∀u v,(∃x∈Cn.iX l,p x∧u∈x.zW)->v∈l->(∀x∈Cn.iX l,p x->v ∉ x.zW)->u.wt<=v.wt
|[],_,_,u,v,_,hv,_=>by cases hv
|[a],_,_,u,v,⟨x,hx,_⟩,_,_=>by cases hx
|a::b::l,hs,hp,u,v,⟨x,hx,hpx,hu⟩,hv,hn=>by
  unfold Cn.sorted at hs;rw[ajF,ajF] at hs;have hx':x=.node a b∨x∈Cn.iX l:=ahG.1 hx;have mem1:Cn.node a b∈Cn.iX (a::b::l):=aiS ..
  have mem2:∀{z},z∈Cn.iX l->z∈Cn.iX (a::b::l):=fun h=>aiB _ h;have hab:=hs.1 b (aiS ..);by_cases hab0:p (.node a b)
  ·have hn1:=hn _ mem1 hab0;have hva:v≠a:=fun e=>hn1 (e▸aiS ..);have hvb:v≠b:=fun e=>hn1 (e▸aiB _ (aiS ..));have hvl:v∈l:=by
    rcases ahG.1 hv with h|h
    ·exact absurd h hva
    ·rcases ahG.1 h with h|h
     ·exact absurd h hvb
     ·exact h
   rcases hx' with rfl|hx'
   ·have h1:=hs.2.1 v hvl;rcases ahG.1 hu with rfl|hu
    ·omega
    ·rw[aiA.1 hu];exact h1
   ·exact Cn.I9 hs.2.2 (fun x hx px y hy py=>hp x (mem2 hx) px y (mem2 hy) py) u v ⟨x,hx',hpx,hu⟩ hvl fun x hx=>hn x (mem2 hx)
  ·have hx':x∈Cn.iX l:=hx'.resolve_left fun e=>hab0 (e▸hpx);rcases ahG.1 hv with hva|hv
   ·-- v=a: the package (a,b) is out,so x weighs no more than it;all are equal
    have h1:=hp x hx hpx _ mem1 hab0;obtain⟨c,d,rfl,hc,hd⟩:=Cn.fT hx';have h1:c.wt+d.wt<=a.wt+b.wt:=h1;have e1:=hs.2.1 c hc;have e2:=hs.2.1 d hd;rcases ahG.1 hu with rfl|hu
    ·subst hva;omega
    ·rw[aiA.1 hu];subst hva;omega
   ·rcases ahG.1 hv with hvb|hvl
    ·have h1:=hp x hx hpx _ mem1 hab0;obtain⟨c,d,rfl,hc,hd⟩:=Cn.fT hx';have h1:c.wt+d.wt<=a.wt+b.wt:=h1;have e1:=hs.2.1 c hc;have e2:=hs.2.1 d hd;rcases ahG.1 hu with rfl|hu
     ·subst hvb;omega
     ·rw[aiA.1 hu];subst hvb;omega
    ·exact Cn.I9 hs.2.2 (fun x hx px y hy py=>hp x (mem2 hx) px y (mem2 hy) py) u v ⟨x,hx',hpx,hu⟩ hvl fun x hx=>hn x (mem2 hx)
inductive Cn.Row (L:List Cn):Nat->List Cn->Prop
|zero {r:List Cn}:Cn.sorted r->r.Perm L->Cn.Row L 0 r
|succ {t:Nat} {q r:List Cn}:Cn.Row L t q->Cn.sorted r->r.Perm (L++Cn.iX q)->Cn.Row L (t+1) r
structure Cn.Lv (L:List Cn) (Sy:List Nat):Prop where
 leaf:∀x∈L,∃w s,x=.leaf w s∧0 < w∧s∈Sy
 has:∀s∈Sy,∃w,Cn.leaf w s∈L
 uniq:∀w v s,Cn.leaf w s∈L->Cn.leaf v s∈L->w=v
 nodup:L.Nodup
 nodupS:Sy.Nodup
 len:L.length=Sy.length
theorem Cn.Row.nodup {L:List Cn}{Sy:List Nat}(hL:Cn.Lv L Sy){t:Nat}{r:List Cn}(h:Cn.Row L t r):r.Nodup∧∀x∈r,(x∈L)∨x.jV=false:=by
 induction h with
|zero _ hp=>exact⟨hp.nodup_iff.2 hL.nodup,fun x hx=>.inl (hp.mem_iff.1 hx)⟩
|succ hq _ hp ih=>
  refine⟨hp.nodup_iff.2 ?_,fun x hx=>?_⟩
  ·rw[List.nodup_append];refine⟨hL.nodup,Cn.GC ih.1,fun x hx y hy e=>?_⟩;subst e;obtain⟨a,b,rfl,_,_⟩:=Cn.fT hy;obtain⟨w,s,h,_⟩:=hL.leaf _ hx;cases h
  ·rcases aiC.1 (hp.mem_iff.1 hx) with h|h
   ·exact .inl h
   ·obtain⟨a,b,rfl,_,_⟩:=Cn.fT h;exact .inr rfl
theorem Cn.Row.has {L:List Cn}{r:List Cn}(h:Cn.Row L t r):∀x∈L,x∈r:=by
 intro x hx;cases h with
|zero _ hp=>exact hp.mem_iff.2 hx
|succ _ _ hp=>exact hp.mem_iff.2 (List.mem_append_left _ hx)
theorem Cn.Row.pos {L:List Cn}(hL:Cn.Lv L Sy){r:List Cn}(h:Cn.Row L t r):∀x∈r,0 < x.wt:=by
 induction h with
|zero _ hp=>
  intro x hx;obtain⟨w,s,rfl,h,_⟩:=hL.leaf x (hp.mem_iff.1 hx);exact h
|succ hq _ hp ih=>
  intro x hx;rcases aiC.1 (hp.mem_iff.1 hx) with h|h
  ·obtain⟨w,s,rfl,h,_⟩:=hL.leaf x h;exact h
  ·obtain⟨a,b,rfl,ha,_⟩:=Cn.fT h;have:=ih a ha;show 0 < a.wt+b.wt;omega
theorem Cn.JQ {f:Cn->Nat}:∀{l:List Cn},(∀x∈l,f x=0)->Cn.sum f l=0
|[],_=>rfl
|c::l,h=>by rw[Cn.sum_cons,h c (aiS ..),Cn.JQ fun x hx=>h x (aiB _ hx)]
theorem Cn.Rt {f:Cn->Nat}:∀{l:List Cn},0 < Cn.sum f l->∃x∈l,0 < f x
|c::l,h=>by
  rw[Cn.sum_cons] at h;by_cases hc:0 < f c
  ·exact⟨c,aiS ..,hc⟩
  ·obtain⟨x,hx,h2⟩:=Cn.Rt (f:=f) (l:=l) om;exact⟨x,aiB _ hx,h2⟩
theorem Cn.MK {f:Cn->Nat}:∀{l:List Cn} {x:Cn},x∈l->f x<=Cn.sum f l
|c::l,x,h=>by
  rw[Cn.sum_cons];rcases ahG.1 h with rfl|h
  ·omega
  ·have:=Cn.MK (f:=f) h;omega
theorem Cn.Mz (s:Nat):∀d:List Cn,Cn.sum (Cn.cnt s) d=Cn.sum (Cn.top s) d+Cn.sum (Cn.cnt s) (Cn.kids d)
|[]=>rfl
|c::d=>by
  have ih:=Cn.Mz s d;have e:Cn.kids (c::d)=c.zW++Cn.kids d:=by unfold Cn.kids;rw[aiT]
  rw[e,Cn.Gi,Cn.sum_cons,Cn.sum_cons,ih];cases c with
 |leaf w t=>show (if t=s then 1 else 0)+_=_;simp only[Cn.top,Cn.zW,Cn.sum,alI,List.sum_nil];omega
 |node a b=>show (a.cnt s+b.cnt s)+_=_;simp only[Cn.top,Cn.zW,Cn.sum,aiW,alI,akX,List.sum_nil];omega
def Cn.val (s:Nat):Nat->List Cn->Nat
|0,d=>Cn.sum (Cn.top s) d
|t+1,d=>Cn.sum (Cn.top s) d*2 ^ (t+1)+Cn.val s t (Cn.kids d)
theorem Cn.WC {L:List Cn}(hL:Cn.Lv L Sy){d:List Cn}(hd:d.Nodup)(hm:∀x∈d,x∈L∨x.jV=false)(s:Nat):Cn.sum (Cn.top s) d<=1:=by
 induction d with
|nil=>exact ahW _
|cons c d ih=>
  rw[anK] at hd;have ih:=ih hd.2 fun x hx=>hm x (aiB _ hx);rw[Cn.sum_cons];by_cases h0:Cn.top s c=0
  ·omega
  ·have e:Cn.sum (Cn.top s) d=0:=by
    refine Cn.JQ fun x hx=>?_;cases x with
   |node a b=>rfl
   |leaf v t=>
     cases c with
    |node a b=>exact absurd rfl h0
    |leaf w u=>
      simp only[Cn.top] at h0 ⊢;by_cases h1:u=s
      ·by_cases h2:t=s
       ·subst h1;subst h2;have m1:=(hm _ (aiS ..)).resolve_right (by simp[Cn.jV]);have m2:=(hm _ (aiB _ hx)).resolve_right (by simp[Cn.jV]);have:=hL.uniq _ _ _ m1 m2;subst this;exact absurd hx hd.1
       ·rw[agV h2]
      ·rw[agV h1] at h0;exact absurd rfl h0
   have h1:Cn.top s c<=1:=by
    cases c with
   |leaf w t=>simp only[Cn.top];split<;>omega
   |node a b=>exact ahW _
   omega
theorem Cn.Ku {d:List Cn}(h:∀x∈d,x.jV=true):Cn.kids d=[]:=by
 induction d with
|nil=>rfl
|cons c d ih=>
  have e:Cn.kids (c::d)=c.zW++Cn.kids d:=by unfold Cn.kids;rw[aiT]
  have hc:=h c (aiS ..);rw[e,ih fun x hx=>h x (aiB _ hx)];cases c with
 |leaf w t=>rfl
 |node a b=>cases hc
theorem Cn.FA {d:List Cn}{u:Cn}:u∈Cn.kids d↔∃x∈d,u∈x.zW:=by unfold Cn.kids;exact amG
theorem Cn.Row.down {L:List Cn}(hL:Cn.Lv L Sy){q r d:List Cn}(hq:Cn.Row L t q)(hs:Cn.sorted q)(hp:r.Perm (L++Cn.iX q))(hd:d.Nodup)(hm:∀x∈d,x∈r)(hl:Cn.low d r) :
  (Cn.kids d).Nodup∧(∀x∈Cn.kids d,x∈q)∧Cn.low (Cn.kids d) q:=by
 have hnode:∀x∈d,x.jV=false->x∈Cn.iX q:=by
  intro x hx h;rcases aiC.1 (hp.mem_iff.1 (hm x hx)) with h1|h1
  ·obtain⟨w,s,rfl,_⟩:=hL.leaf x h1;cases h
  ·exact h1
 have hkid:∀x u,u∈Cn.zW x->x.jV=false:=by
  intro x u hu;cases x with
 |leaf w s=>cases hu
 |node a b=>rfl
 have ek:Cn.kids d=Cn.kids (d.filter fun x=>!x.jV):=by
  clear hd hm hl hnode
  induction d with
 |nil=>rfl
 |cons c d ih=>
   have e:Cn.kids (c::d)=c.zW++Cn.kids d:=by unfold Cn.kids;rw[aiT]
   rw[e,ih,amO];cases c with
  |leaf w s=>rfl
  |node a b=>unfold Cn.kids;rfl
 refine⟨?_,?_,?_⟩
 ·rw[ek];refine Cn.Qj (l:=q) (hq.nodup hL).1 (hd.filter _) fun x hx=>?_;obtain⟨h1,h2⟩:=List.mem_filter.1 hx;exact hnode x h1 (by simpa using h2)
 ·intro u hu;obtain⟨x,hx,hux⟩:=Cn.FA.1 hu;obtain⟨a,b,rfl,ha,hb⟩:=Cn.fT (hnode x hx (hkid x u hux));rcases ahG.1 hux with rfl|h
  ·exact ha
  ·rw[aiA.1 h];exact hb
 ·intro u hu v hv hnv;obtain⟨x,hx,hux⟩:=Cn.FA.1 hu;refine Cn.I9 (p:=fun z=>z∈d) hs (fun x hx px y hy py=>hl x px y (hp.mem_iff.2 (List.mem_append_right _ hy)) py) u v ⟨x,hnode x hx (hkid x u hux),hx,hux⟩ hv fun z hz hzd hvz=>hnv (Cn.FA.2 ⟨z,hzd,hvz⟩)
theorem Cn.Row.sorted {L:List Cn}{t:Nat}{r:List Cn}(h:Cn.Row L t r):Cn.sorted r:=by
 cases h with
|zero h _=>exact h
|succ _ h _=>exact h
theorem Cn.Row.levels {L:List Cn}(hL:Cn.Lv L Sy){r:List Cn}(h:Cn.Row L t r):∀(d:List Cn),d.Nodup->(∀x∈d,x∈r)->Cn.low d r->∀s,
  Cn.sum (Cn.cnt s) d<=t+1∧Cn.val s t d+2 ^ (t+1 - Cn.sum (Cn.cnt s) d)=2 ^ (t+1)∧(Cn.sum (Cn.top s) d=0->Cn.sum (Cn.cnt s) d=0):=by
 induction h with
|zero hs hp=>
  intro d hd hm hl s;have hleaf:∀x∈d,x.jV=true:=fun x hx=>by
   obtain⟨w,s,rfl,_⟩:=hL.leaf x (hp.mem_iff.1 (hm x hx));rfl
  have ht:=Cn.WC hL hd (fun x hx=>.inl (hp.mem_iff.1 (hm x hx))) s;have e:=Cn.Mz s d;rw[Cn.Ku hleaf] at e;have e:Cn.sum (Cn.cnt s) d=Cn.sum (Cn.top s) d:=e;rw[e];refine⟨om,?_,fun h=>h⟩;show Cn.sum (Cn.top s) d+_=_;rcases (by omega:Cn.sum (Cn.top s) d=0∨Cn.sum (Cn.top s) d=1) with h|h<;>rw[h]<;>decide
|@succ t q r hq hs hp ih=>
  intro d hd hm hl s;have hrow:Cn.Row L (t+1) r:=.succ hq hs hp;obtain⟨k1,k2,k3⟩:=Cn.Row.down hL hq hq.sorted hp hd hm hl;obtain⟨i1,i2,i3⟩:=ih (Cn.kids d) k1 k2 k3 s;have ht:=Cn.WC hL hd (fun x hx=>(hrow.nodup hL).2 x (hm x hx)) s;have e:=Cn.Mz s d;have hz:Cn.sum (Cn.top s) d=0->Cn.sum (Cn.cnt s) (Cn.kids d)=0:=by
   intro h0;refine i3 ?_;rcases ajV (Cn.sum (Cn.top s) (Cn.kids d)) with h|h
   ·exact h
   ·exfalso;obtain⟨x,hx,hxs⟩:=Cn.Rt h;cases x with
   |node a b=>exact absurd hxs (alT _)
   |leaf w u=>
     simp only[Cn.top] at hxs;have hus:u=s:=by
      by_cases h:u=s
      ·exact h
      ·rw[agV h] at hxs;omega
     subst hus;have hxL:Cn.leaf w u∈L:=((hq.nodup hL).2 _ (k2 _ hx)).resolve_right (by simp[Cn.jV]);have hxr:=hrow.has _ hxL;by_cases hin:Cn.leaf w u∈d
     ·have:=Cn.MK (f:=Cn.top u) hin;simp only[Cn.top,if_true] at this;omega
     ·obtain⟨y,hy,hxy⟩:=Cn.FA.1 hx;have h1:=hl y hy _ hxr hin;cases y with
     |leaf _ _=>cases hxy
     |node a b=>
       have hpos:=hrow.pos hL;have hy2:Cn.node a b∈Cn.iX q:=by
        rcases aiC.1 (hp.mem_iff.1 (hm _ hy)) with h1|h1
        ·obtain⟨w,s,h,_⟩:=hL.leaf _ h1;cases h
        ·exact h1
       obtain⟨a',b',e',ha,hb⟩:=Cn.fT hy2
       injection e' with ea eb
       subst ea;subst eb;have pa:=hq.pos hL _ ha;have pb:=hq.pos hL _ hb;have h1:a.wt+b.wt<=w:=h1;rcases ahG.1 hxy with h2|h2
       ·rw[<-h2] at h1 pa;have h1:w+b.wt<=w:=h1;omega
       ·rw[<-aiA.1 h2] at h1 pb;have h1:a.wt+w<=w:=h1;omega
  rw[e];show _∧Cn.sum (Cn.top s) d*2 ^ (t+1)+Cn.val s t (Cn.kids d)+_=_∧_;have p2:2 ^ (t+1+1)=2*2 ^ (t+1):=by rw[ajQ];omega
  rcases (by omega:Cn.sum (Cn.top s) d=0∨Cn.sum (Cn.top s) d=1) with h|h
  ·have h1:=hz h;rw[h1] at i2 ⊢;rw[h];refine⟨om,?_,fun _=>rfl⟩;rw[anN] at i2;rw[akD,aiZ,anN];omega
  ·rw[h];refine⟨om,?_,fun h=>absurd h dc⟩;rw[show t+1+1 - (1+Cn.sum (Cn.cnt s) (Cn.kids d))=t+1 - Cn.sum (Cn.cnt s) (Cn.kids d) by omega,amJ];omega
def Cn.over (Sy:List Nat)(f:Nat->Nat):Nat:=(Sy.map f).sum
theorem Cn.gK (s:Nat)(Sy:List Nat)(f:Nat->Nat):Cn.over (s::Sy) f=f s+Cn.over Sy f:=rfl
theorem Cn.Fo (f g:Nat->Nat):∀Sy:List Nat,Cn.over Sy (fun s=>f s+g s)=Cn.over Sy f+Cn.over Sy g
|[]=>rfl
|s::Sy=>by rw[Cn.gK,Cn.gK,Cn.gK,Cn.Fo f g Sy];omega
theorem Cn.Ka (f:Nat->Nat)(k:Nat):∀Sy:List Nat,Cn.over Sy (fun s=>f s*k)=Cn.over Sy f*k
|[]=>by simp[Cn.over]
|s::Sy=>by rw[Cn.gK,Cn.gK,Cn.Ka f k Sy,ajU]
theorem Cn.zD {f g:Nat->Nat}:∀{Sy:List Nat},(∀s∈Sy,f s=g s)->Cn.over Sy f=Cn.over Sy g
|[],_=>rfl
|s::Sy,h=>by rw[Cn.gK,Cn.gK,h s (aiS ..),Cn.zD fun x hx=>h x (aiB _ hx)]
theorem Cn.GU {f:Nat->Nat}(h:∀s∈Sy,f s=0):Cn.over Sy f=0:=by
 rw[Cn.zD h]
 induction Sy with
|nil=>rfl
|cons s Sy ih=>rw[Cn.gK,ih fun x hx=>h x (aiB _ hx)]
theorem Cn.IV (k:Nat):∀Sy:List Nat,Cn.over Sy (fun _=>k)=Sy.length*k
|[]=>by simp[Cn.over]
|s::Sy=>by rw[Cn.gK,Cn.IV k Sy,ahU,akA];omega
theorem Cn.R4 (hn:Sy.Nodup){w:Nat}(ht:t∈Sy):Cn.over Sy (fun s=>Cn.top s (.leaf w t))=1:=by
 induction Sy with
|nil=>cases ht
|cons s Sy ih=>
  rw[anK] at hn;rw[Cn.gK];by_cases h:t=s
  ·subst h;rw[Cn.GU fun u hu=>?_]
   ·simp[Cn.top]
   ·simp only[Cn.top];rw[agV (fun e=>hn.1 (by rw[e];exact hu))]
  ·rw[ih hn.2 ((ahG.1 ht).resolve_left h)];simp[Cn.top,h]
def Cn.leaves (d:List Cn):Nat:=(d.filter Cn.jV).length
theorem Cn.J8 {L:List Cn}{Sy:List Nat}(hL:Cn.Lv L Sy):∀{d:List Cn},(∀x∈d,x∈L∨x.jV=false)->Cn.over Sy (fun s=>Cn.sum (Cn.top s) d)=Cn.leaves d
|[],_=>Cn.GU fun _ _=>rfl
|c::d,hm=>by
  have ih:=Cn.J8 hL (d:=d) fun x hx=>hm x (aiB _ hx);have e:(fun s=>Cn.sum (Cn.top s) (c::d))=fun s=>Cn.top s c+Cn.sum (Cn.top s) d:=rfl;rw[e,Cn.Fo,ih];unfold Cn.leaves;rw[amO];cases c with
 |leaf w t=>
   obtain⟨w',t',h,_,hs⟩:=hL.leaf _ ((hm _ (aiS ..)).resolve_right (by simp[Cn.jV]))
   injection h with _ e2
   subst e2;rw[Cn.R4 hL.nodupS hs];simp only[Cn.jV,if_true,ahU];omega
 |node a b=>
   rw[Cn.GU (f:=fun s=>Cn.top s (.node a b)) fun _ _=>rfl];simp[Cn.jV]
theorem Cn.pP:∀d:List Cn,(Cn.kids d).length+2*Cn.leaves d=2*d.length
|[]=>rfl
|c::d=>by
  have ih:=Cn.pP d;have e:Cn.kids (c::d)=c.zW++Cn.kids d:=by unfold Cn.kids;rw[aiT]
  unfold Cn.leaves at ih ⊢;rw[e,agZ,amO,ahU];cases c with
 |leaf w t=>simp only[Cn.jV,if_true,ahU,Cn.zW,akK];omega
 |node a b=>simp only[Cn.jV,alV,if_false,Cn.zW,ahU,akK];omega
theorem Cn.Row.worth {L:List Cn}(hL:Cn.Lv L Sy){r:List Cn}(h:Cn.Row L t r):∀(d:List Cn),d.Nodup->(∀x∈d,x∈r)->Cn.low d r->Cn.over Sy (fun s=>Cn.val s t d)=d.length*2 ^ t:=by
 induction h with
|zero hs hp=>
  intro d hd hm hl;have hleaf:∀x∈d,x.jV=true:=fun x hx=>by
   obtain⟨w,s,rfl,_⟩:=hL.leaf x (hp.mem_iff.1 (hm x hx));rfl
  show Cn.over Sy (fun s=>Cn.sum (Cn.top s) d)=_;rw[Cn.J8 hL fun x hx=>.inl (hp.mem_iff.1 (hm x hx))];have:=Cn.pP d;rw[Cn.Ku hleaf] at this;simp only[akK] at this;omega
|@succ t q r hq hs hp ih=>
  intro d hd hm hl;have hrow:Cn.Row L (t+1) r:=.succ hq hs hp;obtain⟨k1,k2,k3⟩:=Cn.Row.down hL hq hq.sorted hp hd hm hl;have h1:=ih (Cn.kids d) k1 k2 k3;show Cn.over Sy (fun s=>Cn.sum (Cn.top s) d*2 ^ (t+1)+Cn.val s t (Cn.kids d))=_;rw[Cn.Fo,Cn.Ka,h1,Cn.J8 hL fun x hx=>(hrow.nodup hL).2 x (hm x hx)];have h2:=Cn.pP d;have e1:Cn.leaves d*2 ^ (t+1)=2*Cn.leaves d*2 ^ t:=by rw[ajQ,akE (2 ^ t) 2,<-amK,akE (Cn.leaves d) 2]
  have e2:d.length*2 ^ (t+1)=2*d.length*2 ^ t:=by rw[ajQ,akE (2 ^ t) 2,<-amK,akE d.length 2]
  rw[e1,e2,<-ajU,<-h2]
  congr 1
  omega
theorem Cn.Row.len {L:List Cn}{r:List Cn}(h:Cn.Row L t r):∀k,L.length<=k*2 ^ t->2*L.length<=r.length+k:=by
 induction h with
|zero _ hp=>
  intro k hk;rw[hp.length_eq];omega
|@succ t q r hq _ hp ih=>
  intro k hk;have h1:=ih (2*k) (by rw[ajQ] at hk;rw[akE 2 k,amK,akE 2];exact hk);rw[hp.length_eq,agZ,Cn.CN];omega
theorem Cn.Row.lt {L:List Cn}{r:List Cn}(h:Cn.Row L t r)(h0:0 < L.length):r.length < 2*L.length:=by
 induction h with
|zero _ hp=>rw[hp.length_eq];omega
|@succ t q r hq _ hp ih=>
  rw[hp.length_eq,agZ,Cn.CN];omega
theorem Cn.NP {r:List Cn}(h:Cn.sorted r)(n:Nat):Cn.low (r.take n) r:=by
 intro x hx y hy hn;have hy2:y∈r.drop n:=by
  have:y∈r.take n++r.drop n:=by rw[aiJ];exact hy
  exact (aiC.1 this).resolve_left hn
 have hs:(r.take n++r.drop n).Pairwise fun a b=>a.wt<=b.wt:=by rw[aiJ];exact h
 exact (alB.1 hs).2.2 x hx y hy2
theorem Cn.Row.code {L:List Cn}(hL:Cn.Lv L Sy){r:List Cn}(h:Cn.Row L m r)(h2:2<=L.length)(hn:L.length<=2 ^ (m+1)) :
  2*L.length - 2<=r.length∧(∀s∈Sy,1<=Cn.sum (Cn.cnt s) (r.take (2*L.length - 2))∧Cn.sum (Cn.cnt s) (r.take (2*L.length - 2))<=m+1) ∧
   Cn.over Sy (fun s=>2 ^ (m+1 - Cn.sum (Cn.cnt s) (r.take (2*L.length - 2))))=2 ^ (m+1):=by
 have hle:=h.len 2 (by rw[ajQ] at hn;omega);have hd:(r.take (2*L.length - 2)).Nodup:=(aoL _ _).nodup (h.nodup hL).1;have hm:∀x∈r.take (2*L.length - 2),x∈r:=fun x hx=>ajK hx;have hlow:=Cn.NP h.sorted (2*L.length - 2);have hlev:=h.levels hL _ hd hm hlow;have hw:=h.worth hL _ hd hm hlow;rw[ahE,aiH om] at hw;generalize hD:r.take (2*L.length - 2)=d at hd hm hlow hlev hw ⊢;have hsum:Cn.over Sy (fun s=>Cn.val s m d+2 ^ (m+1 - Cn.sum (Cn.cnt s) d))=Sy.length*2 ^ (m+1):=by
  rw[Cn.zD fun s _=>(hlev s).2.1,Cn.IV]
 rw[Cn.Fo,hw,<-hL.len] at hsum;have e1:(2*L.length - 2)*2 ^ m=(L.length - 1)*2 ^ (m+1):=by
  rw[ajQ,akE (2 ^ m) 2,<-amK]
  congr 1
  omega
 have e2:L.length*2 ^ (m+1)=(L.length - 1)*2 ^ (m+1)+2 ^ (m+1):=by
  conv=>lhs;rw[show L.length=L.length - 1+1 by omega,akA]
 have hk:Cn.over Sy (fun s=>2 ^ (m+1 - Cn.sum (Cn.cnt s) d))=2 ^ (m+1):=om
 refine⟨om,fun s hs=>⟨?_,(hlev s).1⟩,hk⟩
 -- a symbol aJ a coin would fill the sum alone
 rcases ajV (Cn.sum (Cn.cnt s) d) with h0|h0
 ·exfalso;have hlen:2<=Sy.length:=by rw[<-hL.len];exact h2
  have key:∀(l:List Nat),s∈l->2<=l.length->2 ^ (m+1) < Cn.over l (fun s=>2 ^ (m+1 - Cn.sum (Cn.cnt s) d)):=by
   intro l hl hll;have hp:=(apH hl).map fun s=>2 ^ (m+1 - Cn.sum (Cn.cnt s) d);have hp:=hp.sum_nat;have hlen:=(apH hl).length_eq;unfold Cn.over;rw[hp,aiW,akX,h0,anN];cases he:l.erase s with
  |nil=>rw[he] at hlen;simp at hlen;omega
  |cons u t=>
    rw[aiW,akX];have:=anZ (m+1 - Cn.sum (Cn.cnt u) d);omega
  have:=key Sy hs hlen;omega
 ·exact h0
theorem Cn.Row.none {L:List Cn}(hL:Cn.Lv L Sy){s:Nat}(hs:s ∉ Sy){r:List Cn}(h:Cn.Row L t r):∀x∈r,Cn.cnt s x=0:=by
 induction h with
|zero _ hp=>
  intro x hx;obtain⟨w,u,rfl,_,hu⟩:=hL.leaf x (hp.mem_iff.1 hx);simp only[Cn.cnt];rw[agV (fun e=>hs (by rw[<-e];exact hu))]
|succ hq _ hp ih=>
  intro x hx;rcases aiC.1 (hp.mem_iff.1 hx) with h|h
  ·obtain⟨w,u,rfl,_,hu⟩:=hL.leaf x h;simp only[Cn.cnt];rw[agV (fun e=>hs (by rw[<-e];exact hu))]
  ·obtain⟨a,b,rfl,ha,hb⟩:=Cn.fT h;show Cn.cnt s a+Cn.cnt s b=0;rw[ih a ha,ih b hb]
structure Df.Kl (counts lens:List Nat) (most:Nat):Prop where
 len:lens.length=counts.length
 le:∀x∈lens,x<=most
 chk:Fl.chk lens=0
 pos:∀i,0 < counts.getD i 0->0 < lens.getD i 0
def Df.used (counts:List Nat):List Nat:=(List.range counts.length).filter fun i=>decide (0 < counts.getD i 0)
theorem Df.kR {s:Nat}:s∈Df.used counts↔0 < counts.getD s 0:=by
 unfold Df.used;rw[List.mem_filter,aiV,aiI];refine⟨fun h=>h.2,fun h=>⟨?_,h⟩⟩;rcases ahY s counts.length with h'|h'
 ·exact h'
 ·rw[ahC,ajD h'] at h;exact absurd h (alT _)
theorem Df.Ig (counts:List Nat):(Df.used counts).Nodup:=List.nodup_range.filter _
def Df.Ht (counts:List Nat):List Cn:=(Df.used counts).map fun s=>.leaf (counts.getD s 0) s
theorem Df.Nc (counts:List Nat):Cn.Lv (Df.Ht counts) (Df.used counts) where
 leaf:=fun x hx=>by
  obtain⟨s,hs,rfl⟩:=aiD.1 hx;exact⟨_,_,rfl,Df.kR.1 hs,hs⟩
 has:=fun s hs=>⟨_,aiD.2 ⟨s,hs,rfl⟩⟩
 uniq:=fun w v s h1 h2=>by
  obtain⟨a,_,e1⟩:=aiD.1 h1;obtain⟨b,_,e2⟩:=aiD.1 h2
  injection e1 with e1 e3
  injection e2 with e2 e4
  rw[<-e1,<-e2,e3,e4]
 nodup:=by
  unfold Df.Ht;rw[List.nodup_iff_pairwise_ne,List.pairwise_map];refine (List.nodup_iff_pairwise_ne.1 (Df.Ig counts)).imp fun h e=>?_
  injection e with _ e
  exact h e
 nodupS:=Df.Ig counts
 len:=by unfold Df.Ht;rw[ahT]
theorem Df.Lp (f:Nat->Nat):∀(l:List Nat),((l.map f).map fun x=>if x=0 then 0 else 2 ^ (15 - x)).sum=Cn.over (l.filter fun s=>decide (0 < f s)) (fun s=>2 ^ (15 - f s))
|[]=>rfl
|s::l=>by
  have ih:=Df.Lp f l;rw[aiW,aiW,akX,ih,amO];by_cases h:0 < f s
  ·rw[agV om,agW (by simpa using h),Cn.gK]
  ·rw[agW om,agV (by simpa using h),ahJ]
theorem Df.RM {lens:List Nat}{r:List Cn}(hm:m < 15)(h:Cn.Row (Df.Ht counts) m r)(h2:2<=(Df.used counts).length)(hn:(Df.used counts).length<=2 ^ (m+1))(hc:counts.length<=288)(hl:lens.length=counts.length)
  (hv:∀s,s < counts.length->lens.getD s 0=Cn.sum (Cn.cnt s) (r.take (2*(Df.used counts).length - 2))):Df.Kl counts lens (m+1):=by
 have hL:=Df.Nc counts;rw[<-hL.len] at h2 hn hv;obtain⟨c1,c2,c3⟩:=h.code hL h2 hn;have hlt:∀{s},0 < counts.getD s 0->s < counts.length:=fun {s} h=>by
  rcases ahY s counts.length with h'|h'
  ·exact h'
  ·rw[ahC,ajD h'] at h;exact absurd h (alT _)
 have hpos:∀i,0 < counts.getD i 0->0 < lens.getD i 0:=fun i hi=>by
  rw[hv i (hlt hi)];exact (c2 i (Df.kR.2 hi)).1
 have hzero:∀i,i < counts.length->¬0 < counts.getD i 0->lens.getD i 0=0:=fun i hi h0=>by
  rw[hv i hi];exact Cn.JQ fun x hx=>h.none hL (fun hm=>h0 (Df.kR.1 hm)) x (ajK hx)
 have elens:lens=(List.range counts.length).map fun i=>lens.getD i 0:=by rw[<-hl];exact (Fl.Of lens).symm
 have hle:∀x∈lens,x<=m+1:=by
  intro x hx;rw[elens] at hx;obtain⟨i,hi,rfl⟩:=aiD.1 hx;have hi:=aiV.1 hi;by_cases h0:0 < counts.getD i 0
  ·rw[hv i hi];exact (c2 i (Df.kR.2 h0)).2
  ·rw[hzero i hi h0];exact ahW _
 have hk:Fl.ksum lens=2 ^ 15:=by
  unfold Fl.ksum;rw[elens,Df.Lp];have ef:((List.range counts.length).filter fun s=>decide (0 < lens.getD s 0))=Df.used counts:=by
   unfold Df.used;refine List.filter_congr fun s hs=>?_;have hs:=aiV.1 hs;by_cases h0:0 < counts.getD s 0
   ·rw[ahB h0,ahB (hpos s h0)]
   ·rw[ahA h0,ahA (by rw[hzero s hs h0];omega)]
  rw[ef,Cn.zD (g:=fun s=>2 ^ (m+1 - Cn.sum (Cn.cnt s) (r.take (2*(Df.Ht counts).length - 2)))*2 ^ (15 - (m+1))) fun s hs=>?_,Cn.Ka,c3,<-Nat.pow_add,show m+1+(15 - (m+1))=15 by omega];have:=(c2 s hs).2;rw[hv s (hlt (Df.kR.1 hs)),<-Nat.pow_add]
  congr 1
  omega
 refine⟨hl,hle,?_,hpos⟩;unfold Fl.chk;rw[agV om];unfold Fl.check;rw[<-Fl.HZ fun x hx=>by have:=hle x hx;omega,hk,agW (.inl rfl)]
theorem Df.KY {lens:List Nat}(h:∀x∈lens,x=0):∀m,Fl.aX lens m=0
|0=>rfl
|m+1=>by
  rw[Fl.aX,Df.KY h m,List.count_eq_zero_of_not_mem fun hm=>by have:=h _ hm;omega]
theorem Df.R3 (hc:counts.length<=288)(h:Df.used counts=[])(most:Nat):Df.Kl counts (List.replicate counts.length 0) most where
 len:=aiE
 le:=fun x hx=>by rw[akB hx];exact ahW _
 chk:=by
  unfold Fl.chk;rw[aiE,agV om];unfold Fl.check;rw[agW (.inr (.inl (Df.KY (fun x hx=>akB hx) 15)))]
 pos:=fun i hi=>by
  have:=Df.kR.2 hi;rw[h] at this;cases this
theorem Df.Vr (hc:counts.length<=288){s:Nat}(h:Df.used counts=[s])(hm:1<=most):Df.Kl counts ((List.replicate counts.length 0).set s 1) most:=by
 have hs:0 < counts.getD s 0:=Df.kR.1 (by rw[h];exact aoQ s);have hlt:s < counts.length:=by
  rcases ahY s counts.length with h'|h'
  ·exact h'
  ·rw[ahC,ajD h'] at hs;exact absurd hs (alT _)
 have e:(List.replicate counts.length 0).set s 1=List.replicate s 0++1::List.replicate (counts.length - s - 1) 0:=by
  conv=>lhs;rw[show counts.length=s+((counts.length - s - 1)+1) by omega,<-List.replicate_append_replicate,alF _ _ sm,aiE,akF,anG,ajX]
 have hcnt:∀l,0 < l->((List.replicate counts.length 0).set s 1).count l=if l=1 then 1 else 0:=by
  intro l hl;rw[e,alE,List.count_cons,apI,apI];by_cases h1:l=1
  ·subst h1;simp
  ·have h2:(1==l)=false:=by simp;omega
   have h0:(0==l)=false:=by simp;omega
   rw[h2,h0];simp[h1]
 have hu:∀m,Fl.aX ((List.replicate counts.length 0).set s 1) (m+1)=1:=by
  intro m
  induction m with
 |zero=>rw[Fl.aX,Fl.aX,hcnt _ om];rfl
 |succ m ih=>rw[Fl.aX,ih,hcnt _ om,agV om]
 refine⟨sm,fun x hx=>?_,?_,fun i hi=>?_⟩
 ·rcases anI hx with h|h
  ·rw[akB h];omega
  ·omega
 ·unfold Fl.chk;rw[ajM,aiE,agV om];unfold Fl.check;rw[agW (.inr (.inr ⟨hu 14,by rw[hcnt 1 dc];rfl⟩))]
 ·have:=Df.kR.2 hi;rw[h] at this;rw[aiA.1 this,ahC,akP (by simpa using hlt)]
  decide
theorem Df.Cl (a:List Nat)(k:Nat){l:Nat}(hl:0 < l):(a++List.replicate k 0).count l=a.count l:=by
 rw[alE,apI];have h0:(0==l)=false:=by simp;omega
 rw[h0];simp
theorem Df.TU (a:List Nat)(k:Nat):∀m,Fl.gB (a++List.replicate k 0) m=Fl.gB a m
|0=>rfl
|m+1=>by rw[Fl.gB,Fl.gB,Df.TU a k m,Df.Cl a k om]
theorem Df.NM (a:List Nat)(k:Nat):∀m,Fl.aX (a++List.replicate k 0) m=Fl.aX a m
|0=>rfl
|m+1=>by rw[Fl.aX,Fl.aX,Df.NM a k m,Df.Cl a k om]
theorem Df.Kp (a:List Nat)(k:Nat):∀m,Fl.first (a++List.replicate k 0) m=Fl.first a m
|0=>rfl
|1=>rfl
|m+2=>by rw[Fl.first,Fl.first,Df.Kp a k (m+1),Df.Cl a k om]
theorem Df.SQ {a:List Nat}{k:Nat}(h:Fl.chk (a++List.replicate k 0)=0):Fl.chk a=0:=by
 unfold Fl.chk at h ⊢;split at h
 ·cases h
 ·rename_i h1
  rw[agZ] at h1;rw[agV om];unfold Fl.check at h ⊢;rw[Df.TU,Df.NM,Df.Cl a k dc] at h;exact h
theorem Df.Fv (a:List Nat)(k i:Nat):(a++List.replicate k 0).getD i 0=a.getD i 0:=by
 rw[ahC,ahC];rcases ahY i a.length with h|h
 ·rw[ajA h]
 ·rw[ajO h,ajD (l:=a) h,anH];split<;>rfl
theorem Df.KQ (a:List Nat)(k i:Nat):Fl.iK (a++List.replicate k 0) i=Fl.iK a i:=by
 unfold Fl.iK;rw[Df.Fv];by_cases h0:a.getD i 0=0
 ·rw[h0];rfl
 ·congr 1
  unfold Fl.dL;rw[Df.Fv,agV h0,agV h0,Df.Kp];have hi:i < a.length:=by
   rcases ahY i a.length with h|h
   ·exact h
   ·rw[ahC,ajD h] at h0;exact absurd rfl h0
  rw[aoH om]
theorem Df.TP (a b:List Nat)(k j:Nat)(x:Df.Pt):Df.mK (a++List.replicate k 0) (b++List.replicate j 0) x=Df.mK a b x:=by
 unfold Df.mK;simp only[Df.KQ]
theorem Df.Vs (a b:List Nat)(k j:Nat)(l:List Df.Pt):Df.pall (a++List.replicate k 0) (b++List.replicate j 0) l=Df.pall a b l:=by
 unfold Df.pall;rw[Df.KQ]
 congr 1
 induction l with
|nil=>rfl
|cons x l ih=>rw[aiT,aiT,ih,Df.TP]
theorem Df.On {n:Nat}(hn:n<=l.length)(h:∀j,n<=j->l.getD j 0=0):l=l.take n++List.replicate (l.length - n) 0:=by
 refine List.ext_getElem (by simp;omega) fun i h1 h2=>?_;rcases ahY i n with h'|h'
 ·rw[List.getElem_append_left (by simp;omega),anE]
 ·have:=h i h';rw[ahC,ahH h1] at this;rw[apF (by simp;omega),anY];exact this
section
namespace Srt
section
variable {α:Type}(d:α)(wt:α->Nat)
def sw (xs:List α)(i j:Nat):List α:=(xs.set i (xs.getD j d)).set j (xs.getD i d)
def lt (x y:α):Bool:=decide (wt x < wt y)
def insJ (a:Nat):Nat->List α->List α
|0,xs=>xs
|j+1,xs=>if a < j+1∧lt wt (xs.getD (j+1) d) (xs.getD j d)=true then insJ a j (sw d xs (j+1) j) else xs
def insI (a:Nat):Nat->Nat->List α->List α
|0,_,xs=>xs
|n+1,i,xs=>insI a n (i+1) (insJ d wt a i xs)
def ins (xs:List α)(a b:Nat):List α:=insI d wt a (b - (a+1)) (a+1) xs
def swr:Nat->Nat->Nat->List α->List α
|0,_,_,xs=>xs
|n+1,a,b,xs=>swr n (a+1) (b+1) (sw d xs a b)
def rot:Nat->Nat->Nat->Nat->List α->List α
|0,_,_,_,xs=>xs
|f+1,i,j,m,xs=>if i=j then swr d i (m - i) m xs else if j < i then rot f (i - j) j m (swr d j (m - i) m xs) else rot f i (j - i) m (swr d i (m - i) (m+j - i) xs)
def bs (p:Nat->Bool):Nat->Nat->Nat->Nat
|0,i,_=>i
|f+1,i,j=>if i < j then (if p ((i+j) / 2)=true then bs p f i ((i+j) / 2) else bs p f ((i+j) / 2+1) j) else i
def up:Nat->Nat->List α->List α
|0,_,xs=>xs
|n+1,k,xs=>up n (k+1) (sw d xs k (k+1))
def down:Nat->Nat->List α->List α
|0,_,xs=>xs
|n+1,k,xs=>down n (k - 1) (sw d xs k (k - 1))
def symS (xs:List α)(a m b:Nat):Nat:=bs (fun c=>lt wt (xs.getD ((a+b) / 2+m - 1 - c) d) (xs.getD c d)) (b - a) (if (a+b) / 2 < m then (a+b) / 2+m - b else a) (if (a+b) / 2 < m then (a+b) / 2 else m)
def sym:Nat->Nat->Nat->Nat->List α->List α
|0,_,_,_,xs=>xs
|f+1,a,m,b,xs=>
  if m - a=1 then up d (bs (fun h=>!lt wt (xs.getD h d) (xs.getD a d)) (b - m) m b - 1 - a) a xs
  else if b - m=1 then down d (m - bs (fun h=>lt wt (xs.getD m d) (xs.getD h d)) (m - a) a m) m xs
  else
   let mid:=(a+b) / 2
   let s:=symS d wt xs a m b
   let e:=mid+m - s
   let x1:=if s < m∧m < e then rot d (e - s) (m - s) (e - m) m xs else xs
   let x2:=if a < s∧s < mid then sym f a s mid x1 else x1
   if mid < e∧e < b then sym f mid e b x2 else x2
def blk (n:Nat):Nat->Nat->List α->List α
|0,_,xs=>xs
|f+1,a,xs=>if a+n<=xs.length then blk n f (a+n) (ins d wt xs a (a+n)) else ins d wt xs a xs.length
def mrg (n:Nat):Nat->Nat->List α->List α
|0,_,xs=>xs
|f+1,a,xs=>if a+2*n<=xs.length then mrg n f (a+2*n) (sym d wt (2*n) a (a+n) (a+2*n) xs) else if a+n < xs.length then sym d wt (xs.length - a) a (a+n) xs.length xs else xs
def rounds:Nat->Nat->List α->List α
|0,_,xs=>xs
|f+1,n,xs=>if n < xs.length then rounds f (2*n) (mrg d wt n (xs.length+1) 0 xs) else xs
def H7 (xs:List α):List α:=rounds d wt (xs.length+1) 20 (blk d wt 20 (xs.length+1) 0 xs)
end
section
variable {α:Type}{d:α}{wt:α->Nat}
theorem D7 {xs:List α}:(sw d xs i j).length=xs.length:=by unfold sw;rw[ajM,ajM]
theorem Pb {a:Nat}:∀(j:Nat) (xs:List α),(insJ d wt a j xs).length=xs.length
|0,_=>rfl
|j+1,xs=>by
  unfold insJ;split
  ·rw[Pb j,D7]
  ·rfl
theorem NF {a:Nat}:∀(n i:Nat) (xs:List α),(insI d wt a n i xs).length=xs.length
|0,_,_=>rfl
|n+1,i,xs=>by unfold insI;rw[NF n,Pb]
theorem SE {xs:List α}{a:Nat}:(ins d wt xs a b).length=xs.length:=NF _ _ _
theorem DR:∀(n a b:Nat) (xs:List α),(swr d n a b xs).length=xs.length
|0,_,_,_=>rfl
|n+1,a,b,xs=>by unfold swr;rw[DR n,D7]
theorem I2:∀(f i j m:Nat) (xs:List α),(rot d f i j m xs).length=xs.length
|0,_,_,_,_=>rfl
|f+1,i,j,m,xs=>by
  unfold rot;split
  ·rw[DR]
  ·split
   ·rw[I2 f,DR]
   ·rw[I2 f,DR]
theorem Wm:∀(n k:Nat) (xs:List α),(up d n k xs).length=xs.length
|0,_,_=>rfl
|n+1,k,xs=>by unfold up;rw[Wm n,D7]
theorem M6:∀(n k:Nat) (xs:List α),(down d n k xs).length=xs.length
|0,_,_=>rfl
|n+1,k,xs=>by unfold down;rw[M6 n,D7]
theorem Gm:∀(f a m b:Nat) (xs:List α),(sym d wt f a m b xs).length=xs.length
|0,_,_,_,_=>rfl
|f+1,a,m,b,xs=>by
  unfold sym;split
  ·rw[Wm]
  ·split
   ·rw[M6]
   ·dsimp only;have h1:(if symS d wt xs a m b < m∧m < (a+b) / 2+m - symS d wt xs a m b then rot d ((a+b) / 2+m - symS d wt xs a m b - symS d wt xs a m b) (m - symS d wt xs a m b) ((a+b) / 2+m - symS d wt xs a m b - m) m xs else xs).length=xs.length:=by
     split
     ·rw[I2]
     ·rfl
    generalize (if symS d wt xs a m b < m∧m < (a+b) / 2+m - symS d wt xs a m b then rot d ((a+b) / 2+m - symS d wt xs a m b - symS d wt xs a m b) (m - symS d wt xs a m b) ((a+b) / 2+m - symS d wt xs a m b - m) m xs else xs)=x1 at h1 ⊢;have h2:(if a < symS d wt xs a m b∧symS d wt xs a m b < (a+b) / 2 then sym d wt f a (symS d wt xs a m b) ((a+b) / 2) x1 else x1).length=xs.length:=by
     split
     ·rw[Gm f,h1]
     ·exact h1
    generalize (if a < symS d wt xs a m b∧symS d wt xs a m b < (a+b) / 2 then sym d wt f a (symS d wt xs a m b) ((a+b) / 2) x1 else x1)=x2 at h2 ⊢;split
    ·rw[Gm f,h2]
    ·exact h2
theorem getD_at {P R:List α}{x:α}:(P++x::R).getD P.length d=x:=by
 rw[ahC,ajO (ahD _),akF];rfl
theorem getD_in {P V R:List α}(hi:i < V.length):(P++(V++R)).getD (P.length+i) d=V.getD i d:=by
 rw[ahC,ajO om,amX,ajA hi,ahC]
theorem Wt (P R Q:List α)(x y:α)(hi:i=P.length)(hj:j=P.length+1+R.length):sw d (P++x::(R++y::Q)) i j=P++y::(R++x::Q):=by
 subst hi;subst hj;have e1:(P++x::(R++y::Q)).getD (P.length+1+R.length) d=y:=by
  rw[show P++x::(R++y::Q)=(P++x::R)++y::Q by simp,show P.length+1+R.length=(P++x::R).length by simp;omega];exact getD_at
 unfold sw;rw[e1,getD_at,alF _ _ (ahD _),akF,ajX,alF _ _ om,show P.length+1+R.length - P.length=R.length+1 by omega,List.set_cons_succ,alF _ _ (ahD _),akF,ajX]
theorem SX (P R Q:List α)(x y:α)(hi:i=P.length)(hj:j=P.length+1+R.length):sw d (P++x::(R++y::Q)) j i=P++y::(R++x::Q):=by
 subst hi;subst hj;have e1:(P++x::(R++y::Q)).getD (P.length+1+R.length) d=y:=by
  rw[show P++x::(R++y::Q)=(P++x::R)++y::Q by simp,show P.length+1+R.length=(P++x::R).length by simp;omega];exact getD_at
 unfold sw;rw[e1,getD_at,alF _ _ om,show P.length+1+R.length - P.length=R.length+1 by omega,List.set_cons_succ,alF _ _ (ahD _),akF,ajX,alF _ _ (ahD _),akF,ajX]
theorem I8:∀(U V P R Q:List α) {a b:Nat},U.length=V.length->a=P.length->b=P.length+U.length+R.length->swr d U.length a b (P++(U++(R++(V++Q))))=P++(V++(R++(U++Q)))
|[],[],P,R,Q,a,b,_,_,_=>rfl
|u::U,v::V,P,R,Q,a,b,h,ha,hb=>by
  simp only[ahU] at h hb;show swr d U.length (a+1) (b+1) (sw d (P++(u::U++(R++(v::V++Q)))) a b)=_;have e:P++(u::U++(R++(v::V++Q)))=P++u::((U++R)++v::(V++Q)):=sm
  rw[e,Wt P (U++R) (V++Q) u v ha (by rw[agZ];omega)];have e2:P++v::((U++R)++u::(V++Q))=(P++[v])++(U++((R++[u])++(V++Q))):=sm
  rw[e2,I8 U V (P++[v]) (R++[u]) Q om (by simp;omega) (by simp;omega)];simp
theorem LQ:∀(f:Nat) (P U V Q:List α) {m:Nat},U.length+V.length<=f->0 < U.length->0 < V.length->m=P.length+U.length->rot d f U.length V.length m (P++(U++(V++Q)))=P++(V++(U++Q))
|0,_,U,V,_,_,h,h1,_,_=>by omega
|f+1,P,U,V,Q,m,h,h1,h2,hm=>by
  unfold rot;by_cases hc:U.length=V.length
  ·rw[agW hc];exact I8 U V P [] Q hc om (by simp;omega)
  rw[agV hc];by_cases hlt:V.length < U.length
  ·rw[agW hlt];have hU:U.take V.length++U.drop V.length=U:=aiJ ..
   have l1:(U.take V.length).length=V.length:=by rw[ahE];omega
   have l2:(U.drop V.length).length=U.length - V.length:=ahL;have e:=I8 (d:=d) (U.take V.length) V P (U.drop V.length) Q (a:=m - U.length) (b:=m) l1 om om;rw[l1] at e;have e1:P++(U.take V.length++(U.drop V.length++(V++Q)))=P++(U++(V++Q)):=by rw[<-ahK (U.take V.length),hU]
   rw[e1] at e;rw[e];have ih:=LQ f (P++V) (U.drop V.length) (U.take V.length) Q (m:=m) om om om (by rw[agZ];omega);rw[l1,l2] at ih;rw[<-ahK P,ih,<-ahK (U.take V.length),hU,ahK]
  ·rw[agV hlt];have hV:V.take (V.length - U.length)++V.drop (V.length - U.length)=V:=aiJ ..
   have l1:(V.take (V.length - U.length)).length=V.length - U.length:=by rw[ahE];omega
   have l2:(V.drop (V.length - U.length)).length=U.length:=by rw[ahL];omega
   have e:=I8 (d:=d) U (V.drop (V.length - U.length)) P (V.take (V.length - U.length)) Q (a:=m - U.length) (b:=m+V.length - U.length) l2.symm om om;have e1:P++(U++(V.take (V.length - U.length)++(V.drop (V.length - U.length)++Q)))=P++(U++(V++Q)):=by rw[<-ahK (V.take _),hV]
   rw[e1] at e;rw[e];have ih:=LQ f P (V.drop (V.length - U.length)) (V.take (V.length - U.length)) (U++Q) (m:=m) om om om om;rw[l1,l2] at ih;rw[ih,<-ahK (V.take _),hV]
theorem WL:∀(V P Q:List α) (u:α) {k:Nat},k=P.length->up d V.length k (P++u::(V++Q))=P++(V++u::Q)
|[],P,Q,u,k,_=>rfl
|v::V,P,Q,u,k,hk=>by
  show up d V.length (k+1) (sw d (P++u::([]++v::(V++Q))) k (k+1))=_;rw[Wt P [] (V++Q) u v hk (by simp;omega)];have e:P++v::([]++u::(V++Q))=(P++[v])++u::(V++Q):=sm
  rw[e,WL V (P++[v]) Q u (by simp;omega)];simp
theorem OJ:∀(n:Nat) (V P Q:List α) (u:α) {k:Nat},V.length=n->k=P.length+n->down d n k (P++(V++u::Q))=P++u::(V++Q)
|0,V,P,Q,u,k,h,hk=>by
  have:V=[]:=akT.1 h;subst this;rfl
|n+1,V,P,Q,u,k,h,hk=>by
  have hne:V≠[]:=fun e=>by rw[e] at h;simp at h
  have hV:=List.dropLast_concat_getLast hne;have hl:V.dropLast.length=n:=by rw[List.length_dropLast];omega
  show down d n (k - 1) (sw d (P++(V++u::Q)) k (k - 1))=_;generalize V.getLast hne=v at hV;generalize V.dropLast=W at hV hl;subst hV;have e:P++(W++[v]++u::Q)=(P++W)++v::([]++u::Q):=sm
  rw[e,SX (P++W) [] Q v u (by rw[agZ];omega) (by simp;omega)];have e2:(P++W)++u::([]++v::Q)=P++(W++u::(v::Q)):=sm
  rw[e2,OJ n W P (v::Q) u hl om];simp
theorem QB {p:Nat->Bool}:∀(f i j:Nat),j - i<=f->i<=j->(∀c e,i<=c->c<=e->e < j->p c=true->p e=true) ->
  i<=bs p f i j∧bs p f i j<=j∧(∀c,i<=c->c < bs p f i j->p c=false)∧(∀c,bs p f i j<=c->c < j->p c=true)
|0,i,j,hf,hij,_=>⟨ahD _,hij,fun c h1 h2=>absurd h2 (by unfold bs;omega),fun c h1 h2=>by unfold bs at h1;omega⟩
|f+1,i,j,hf,hij,hm=>by
  unfold bs;by_cases h:i < j
  ·rw[agW h];by_cases hp:p ((i+j) / 2)=true
   ·rw[agW hp];obtain⟨a,b,c,e⟩:=QB f i ((i+j) / 2) om om fun c e h1 h2 h3 h4=>hm c e h1 h2 om h4;refine⟨a,om,c,fun x h1 h2=>?_⟩;rcases ahY x ((i+j) / 2) with h'|h'
    ·exact e x h1 h'
    ·exact hm _ x om h' h2 hp
   ·rw[agV hp];obtain⟨a,b,c,e⟩:=QB f ((i+j) / 2+1) j om om fun c e h1 h2 h3 h4=>hm c e om h2 h3 h4;refine⟨om,b,fun x h1 h2=>?_,e⟩;rcases ahY ((i+j) / 2) x with h'|h'
    ·exact c x om h2
    ·cases hx:p x with
    |false=>rfl
    |true=>exact absurd (hm x _ h1 h' om hx) hp
  ·rw[agV h];exact⟨ahD _,hij,fun c h1 h2=>by omega,fun c h1 h2=>by omega⟩
end
end Srt
end
section
namespace Srt
section
variable {α:Type}{d:α}{wt:α->Nat}
def srt (wt:α->Nat)(l:List α):Prop:=l.Pairwise fun x y=>wt x<=wt y
theorem FY {A B:List α}(ha:srt wt A)(hb:srt wt B)(h:∀x∈A,∀y∈B,wt x<=wt y):srt wt (A++B):=alB.2 ⟨ha,hb,h⟩
theorem yZ {V:List α}(h:srt wt V)(hij:i<=j)(hj:j < V.length):wt (V.getD i d)<=wt (V.getD j d):=by
 rw[ahC,ahC,ahH hj,ahH om];rcases ahY i j with h'|h'
 ·exact alL.1 h i j om hj h'
 ·obtain rfl:i=j:=om
  exact ahD _
theorem jF {V:List α}{P:α->Prop}{k:Nat}(h:∀i,i < k->i < V.length->P (V.getD i d)):∀x∈V.take k,P x:=by
 intro x hx;obtain⟨i,hi,rfl⟩:=akH hx;rw[ahE] at hi;have:=h i om om;rw[ahC,ahH om] at this;rw[anE];exact this
theorem Jp {V:List α}{P:α->Prop}{k:Nat}(h:∀i,k<=i->i < V.length->P (V.getD i d)):∀x∈V.drop k,P x:=by
 intro x hx;obtain⟨i,hi,rfl⟩:=akH hx;rw[ahL] at hi;have:=h (k+i) om om;rw[ahC,ahH om] at this;rw[List.getElem_drop];exact this
theorem zJ {V:List α}(h:srt wt V)(k:Nat):srt wt (V.take k):=List.Pairwise.sublist (aoL k V) h
theorem De {V:List α}(h:srt wt V)(k:Nat):srt wt (V.drop k):=List.Pairwise.sublist (List.drop_sublist k V) h
theorem Js {P U R:List α}{c:Nat}(h1:P.length<=c)(h2:c < P.length+U.length):(P++(U++R)).getD c d=U.getD (c - P.length) d:=by
 have:=getD_in (d:=d) (P:=P) (V:=U) (R:=R) (i:=c - P.length) om;rw[show P.length+(c - P.length)=c by omega] at this;exact this
theorem Cj {P U V R:List α}{c:Nat}(h1:P.length+U.length<=c)(h2:c < P.length+U.length+V.length):(P++(U++(V++R))).getD c d=V.getD (c - (P.length+U.length)) d:=by
 rw[<-ahK P,Js (by rw[agZ];exact h1) (by rw[agZ];exact h2),agZ]
theorem X1 (P V Q:List α)(u:α)(f:Nat)(hv:srt wt V){a:Nat}(ha:a=P.length)(hm:m=P.length+1)(hb:b=m+V.length) :
  ∃W,sym d wt (f+1) a m b (P++u::(V++Q))=P++(W++Q)∧W.Perm (u::V)∧srt wt W:=by
 have hg:∀c,m<=c->c < b->(P++u::(V++Q)).getD c d=V.getD (c - m) d:=fun c h1 h2=>by
  have:=Cj (d:=d) (P:=P) (U:=[u]) (V:=V) (R:=Q) (c:=c) (by simp;omega) (by simp;omega);rw[show P++u::(V++Q)=P++([u]++(V++Q)) by simp,this]
  congr 1
  simp;omega
 have hu:(P++u::(V++Q)).getD a d=u:=by rw[ha];exact getD_at
 unfold sym;rw[agW om];obtain⟨s1,s2,s3,s4⟩:=QB (p:=fun h=>!lt wt ((P++u::(V++Q)).getD h d) ((P++u::(V++Q)).getD a d)) (b - m) m b om om (by
  intro c e h1 h2 h3 h4;simp only[hg c h1 om,hg e om h3,hu,lt,alU,ajI] at h4 ⊢;have:=yZ (d:=d) hv (i:=c - m) (j:=e - m) om om;omega)
 generalize bs (fun h=>!lt wt ((P++u::(V++Q)).getD h d) ((P++u::(V++Q)).getD a d)) (b - m) m b=s at s1 s2 s3 s4 ⊢;have l1:(V.take (s - m)).length=s - m:=by rw[ahE];omega
 have e:=WL (d:=d) (V.take (s - m)) P (V.drop (s - m)++Q) u (k:=a) ha;rw[<-ahK (V.take (s - m)),aiJ,l1] at e;rw[show s - 1 - a=s - m by omega,e];refine⟨V.take (s - m)++u::V.drop (s - m),sm,?_,?_⟩
 ·have h:(V.take (s - m)++u::V.drop (s - m)).Perm (u::(V.take (s - m)++V.drop (s - m))):=List.perm_middle
  rwa [aiJ] at h
 ·refine FY (zJ hv _) (ajF.2 ⟨?_,De hv _⟩) ?_
  ·refine Jp (d:=d) (P:=fun y=>wt u<=wt y) fun i h1 h2=>?_;have:=s4 (i+m) om om;simp only[hg (i+m) om om,hu,lt,alU,ajI] at this;rw[alQ] at this;omega
  ·intro x hx y hy;have hxu:wt x < wt u:=jF (d:=d) (P:=fun y=>wt y < wt u) (fun i h1 h2=>by
    have:=s3 (i+m) om om;simp only[hg (i+m) om om,hu,lt,Bool.not_eq_false',aiI] at this;rw[alQ] at this;exact this) x hx
   rcases ahG.1 hy with rfl|hy
   ·omega
   ·have:=zJ hv V.length;have hxy:(V.take (s - m)++V.drop (s - m)).Pairwise fun x y=>wt x<=wt y:=by rw[aiJ];exact hv
    exact (alB.1 hxy).2.2 x hx y hy
theorem Vp (P U Q:List α)(v:α)(f:Nat)(hu:srt wt U){a:Nat}(ha:a=P.length)(hm:m=a+U.length)(hb:b=m+1)(hU:m - a≠1) :
  ∃W,sym d wt (f+1) a m b (P++(U++v::Q))=P++(W++Q)∧W.Perm (U++[v])∧srt wt W:=by
 have hg:∀c,a<=c->c < m->(P++(U++v::Q)).getD c d=U.getD (c - a) d:=fun c h1 h2=>by
  rw[Js om om,ha]
 have hv:(P++(U++v::Q)).getD m d=v:=by
  rw[<-ahK,show m=(P++U).length by rw[agZ];omega];exact getD_at
 unfold sym;rw[agV hU,agW om];obtain⟨s1,s2,s3,s4⟩:=QB (p:=fun h=>lt wt ((P++(U++v::Q)).getD m d) ((P++(U++v::Q)).getD h d)) (m - a) a m om om (by
  intro c e h1 h2 h3 h4;simp only[hg c h1 om,hg e om h3,hv,lt,aiI] at h4 ⊢;have:=yZ (d:=d) hu (i:=c - a) (j:=e - a) om om;omega)
 generalize bs (fun h=>lt wt ((P++(U++v::Q)).getD m d) ((P++(U++v::Q)).getD h d)) (m - a) a m=s at s1 s2 s3 s4 ⊢;have l1:(U.take (s - a)).length=s - a:=by rw[ahE];omega
 have l2:(U.drop (s - a)).length=m - s:=by rw[ahL];omega
 have e:=OJ (d:=d) (m - s) (U.drop (s - a)) (P++U.take (s - a)) Q v (k:=m) l2 (by rw[agZ];omega);rw[ahK,<-ahK (U.take (s - a)),aiJ] at e;rw[e];refine⟨U.take (s - a)++v::U.drop (s - a),sm,?_,?_⟩
 ·have h:(U.take (s - a)++v::U.drop (s - a)).Perm (v::(U.take (s - a)++U.drop (s - a))):=List.perm_middle;rw[aiJ] at h;exact h.trans (amW (l₁:=[v]) (l₂:=U))
 ·refine FY (zJ hu _) (ajF.2 ⟨?_,De hu _⟩) ?_
  ·refine Jp (d:=d) (P:=fun y=>wt v<=wt y) fun i h1 h2=>?_;have:=s4 (i+a) om om;simp only[hg (i+a) om om,hv,lt,aiI] at this;rw[alQ] at this;omega
  ·intro x hx y hy;have hxu:wt x<=wt v:=jF (d:=d) (P:=fun y=>wt y<=wt v) (fun i h1 h2=>by
    have:=s3 (i+a) om om;simp only[hg (i+a) om om,hv,lt,ajI] at this;rw[alQ] at this;omega) x hx
   rcases ahG.1 hy with rfl|hy
   ·exact hxu
   ·have hxy:(U.take (s - a)++U.drop (s - a)).Pairwise fun x y=>wt x<=wt y:=by rw[aiJ];exact hu
    exact (alB.1 hxy).2.2 x hx y hy
theorem NO:∀(f:Nat) (P U V Q:List α) {a m b:Nat},U.length+V.length<=f->0 < U.length->0 < V.length->srt wt U->srt wt V->a=P.length->m=a+U.length->b=m+V.length ->
  ∃W,sym d wt f a m b (P++(U++(V++Q)))=P++(W++Q)∧W.Perm (U++V)∧srt wt W
|0,P,U,V,Q,a,m,b,hf,hU,hV,_,_,_,_,_=>by omega
|f+1,P,U,V,Q,a,m,b,hf,hU,hV,su,sv,ha,hm,hb=>by
  by_cases h1:U.length=1
  ·obtain⟨u,rfl⟩:=amP.1 h1;exact X1 P V Q u f sv ha (by simp at hm;omega) hb
  by_cases h2:V.length=1
  ·obtain⟨v,rfl⟩:=amP.1 h2;exact Vp P U Q v f su ha hm (by simpa using hb) om
  unfold sym;rw[agV om,agV om];dsimp only;generalize hmid:(a+b) / 2=mid;generalize hlo:(if mid < m then mid+m - b else a)=lo;generalize hhi:(if mid < m then mid else m)=hi;have hlo1:a<=lo∧mid+m - b<=lo∧(lo=a∨lo=mid+m - b):=by
   rw[<-hlo];split<;>omega
  have hhi1:hi<=m∧hi<=mid∧lo<=hi∧(hi=m∨hi=mid):=by
   rw[<-hhi,<-hlo];split<;>omega
  have gU:∀c,a<=c->c < m->(P++(U++(V++Q))).getD c d=U.getD (c - a) d:=fun c h1 h2=>by
   rw[Js om om,ha]
  have gV:∀c,m<=c->c < b->(P++(U++(V++Q))).getD c d=V.getD (c - m) d:=fun c h1 h2=>by
   rw[Cj om om,hm,ha]
  have hp:∀c,lo<=c->c < hi->(lt wt ((P++(U++(V++Q))).getD (mid+m - 1 - c) d) ((P++(U++(V++Q))).getD c d)=true↔wt (V.getD (mid - 1 - c) d) < wt (U.getD (c - a) d)):=fun c h1 h2=>by
   rw[gU c om om,gV (mid+m - 1 - c) om om,show mid+m - 1 - c - m=mid - 1 - c by omega];simp[lt]
  obtain⟨s1,s2,s3,s4⟩:=QB (p:=fun c=>lt wt ((P++(U++(V++Q))).getD (mid+m - 1 - c) d) ((P++(U++(V++Q))).getD c d)) (b - a) lo hi om om (by
   intro c e k1 k2 k3 k4;have k4:=(hp c k1 om).1 k4;refine (hp e om k3).2 ?_;have q1:=yZ (d:=d) su (i:=c - a) (j:=e - a) om om;have q2:=yZ (d:=d) sv (i:=mid - 1 - e) (j:=mid - 1 - c) om om;omega)
  have hs:symS d wt (P++(U++(V++Q))) a m b=bs (fun c=>lt wt ((P++(U++(V++Q))).getD (mid+m - 1 - c) d) ((P++(U++(V++Q))).getD c d)) (b - a) lo hi:=by
   unfold symS;rw[hmid,hlo,hhi]
  rw[hs];generalize bs (fun c=>lt wt ((P++(U++(V++Q))).getD (mid+m - 1 - c) d) ((P++(U++(V++Q))).getD c d)) (b - a) lo hi=s at s1 s2 s3 s4 ⊢;have eU:U.take (s - a)++U.drop (s - a)=U:=aiJ ..
  have eV:V.take (mid - s)++V.drop (mid - s)=V:=aiJ ..
  have lU1:(U.take (s - a)).length=s - a:=by rw[ahE];omega
  have lU2:(U.drop (s - a)).length=m - s:=by rw[ahL];omega
  have lV1:(V.take (mid - s)).length=mid - s:=by rw[ahE];omega
  have lV2:(V.drop (mid - s)).length=b - (mid+m - s):=by rw[ahL];omega
  have su1:=zJ su (s - a);have su2:=De su (s - a);have sv1:=zJ sv (mid - s);have sv2:=De sv (mid - s);have cross:∀x∈U.take (s - a)++V.take (mid - s),∀y∈U.drop (s - a)++V.drop (mid - s),wt x<=wt y:=by
   have cU:(U.take (s - a)++U.drop (s - a)).Pairwise fun x y=>wt x<=wt y:=by rw[eU];exact su
   have cV:(V.take (mid - s)++V.drop (mid - s)).Pairwise fun x y=>wt x<=wt y:=by rw[eV];exact sv
   intro x hx y hy;rcases aiC.1 hx with hx|hx<;>rcases aiC.1 hy with hy|hy
   ·exact (alB.1 cU).2.2 x hx y hy
   ·refine Jp (d:=d) (P:=fun y=>wt x<=wt y) (fun j j1 j2=>?_) y hy;refine jF (d:=d) (P:=fun x=>wt x<=wt (V.getD j d)) (fun i i1 i2=>?_) x hx;rcases ahY lo s with h|h
    ·have q:=s3 (s - 1) om om;have q:¬wt (V.getD (mid - 1 - (s - 1)) d) < wt (U.getD (s - 1 - a) d):=fun k=>by
      rw[(hp (s - 1) om om).2 k] at q;cases q
     have q1:=yZ (d:=d) su (i:=i) (j:=s - 1 - a) om om;have q2:=yZ (d:=d) sv (i:=mid - 1 - (s - 1)) (j:=j) om om;omega
    ·omega
   ·refine Jp (d:=d) (P:=fun y=>wt x<=wt y) (fun j j1 j2=>?_) y hy;refine jF (d:=d) (P:=fun x=>wt x<=wt (U.getD j d)) (fun i i1 i2=>?_) x hx;rcases ahY s hi with h|h
    ·have q:=(hp s om h).1 (s4 s (ahD _) h);have q1:=yZ (d:=d) su (i:=s - a) (j:=j) om om;have q2:=yZ (d:=d) sv (i:=i) (j:=mid - 1 - s) om om;omega
    ·omega
   ·exact (alB.1 cV).2.2 x hx y hy
  have x1:(if s < m∧m < mid+m - s then rot d (mid+m - s - s) (m - s) (mid+m - s - m) m (P++(U++(V++Q))) else P++(U++(V++Q)))=P++(U.take (s - a)++(V.take (mid - s)++(U.drop (s - a)++(V.drop (mid - s)++Q)))):=by
   by_cases h:s < m∧m < mid+m - s
   ·rw[agW h];have e:=LQ (d:=d) (mid+m - s - s) (P++U.take (s - a)) (U.drop (s - a)) (V.take (mid - s)) (V.drop (mid - s)++Q) (m:=m) om om om (by rw[agZ];omega);rw[lU2,lV1] at e;rw[show mid+m - s - m=mid - s by omega];have e1:P++U.take (s - a)++(U.drop (s - a)++(V.take (mid - s)++(V.drop (mid - s)++Q)))=P++(U++(V++Q)):=by
     rw[<-ahK (V.take _),eV,ahK,<-ahK (U.take _),eU]
    rw[e1] at e;rw[e,ahK]
   ·rw[agV h];have e0:P++(U++(V++Q))=P++((U.take (s - a)++U.drop (s - a))++((V.take (mid - s)++V.drop (mid - s))++Q)):=by rw[eU,eV]
    rw[e0];rcases (by omega:m - s=0∨mid - s=0) with h0|h0
    ·have e:U.drop (s - a)=[]:=akT.1 om;rw[e];simp only[ahV,aiM,ahK]
    ·have e:V.take (mid - s)=[]:=akT.1 om;rw[e];simp only[ahV,aiM,ahK]
  rw[x1];have x2:∃W1,(if a < s∧s < mid then sym d wt f a s mid (P++(U.take (s - a)++(V.take (mid - s)++(U.drop (s - a)++(V.drop (mid - s)++Q))))) else P++(U.take (s - a)++(V.take (mid - s)++(U.drop (s - a)++(V.drop (mid - s)++Q)))))=P++(W1++(U.drop (s - a)++(V.drop (mid - s)++Q)))∧W1.Perm (U.take (s - a)++V.take (mid - s))∧srt wt W1:=by
   by_cases h:a < s∧s < mid
   ·rw[agW h];exact NO f P (U.take (s - a)) (V.take (mid - s)) (U.drop (s - a)++(V.drop (mid - s)++Q)) om om om su1 sv1 ha om om
   ·rw[agV h];refine⟨U.take (s - a)++V.take (mid - s),sm,alS _,?_⟩;rcases (by omega:s - a=0∨mid - s=0) with h0|h0
    ·have:U.take (s - a)=[]:=akT.1 om;rw[this];exact sv1
    ·have:V.take (mid - s)=[]:=akT.1 om;rw[this,ahV];exact su1
  obtain⟨W1,e2,p1,q1⟩:=x2;rw[e2];have lW1:W1.length=mid - a:=by rw[p1.length_eq,agZ];omega
  have x3:∃W2,(if mid < mid+m - s∧mid+m - s < b then sym d wt f mid (mid+m - s) b (P++(W1++(U.drop (s - a)++(V.drop (mid - s)++Q)))) else P++(W1++(U.drop (s - a)++(V.drop (mid - s)++Q))))=P++(W1++(W2++Q))∧W2.Perm (U.drop (s - a)++V.drop (mid - s))∧srt wt W2:=by
   by_cases h:mid < mid+m - s∧mid+m - s < b
   ·rw[agW h];obtain⟨W2,e3,p2,q2⟩:=NO f (P++W1) (U.drop (s - a)) (V.drop (mid - s)) Q (a:=mid) (m:=mid+m - s) (b:=b) om om om su2 sv2 (by rw[agZ];omega) om om;rw[ahK,ahK] at e3;exact⟨W2,e3,p2,q2⟩
   ·rw[agV h];refine⟨U.drop (s - a)++V.drop (mid - s),sm,alS _,?_⟩;rcases (by omega:m - s=0∨b - (mid+m - s)=0) with h0|h0
    ·have:U.drop (s - a)=[]:=akT.1 om;rw[this];exact sv2
    ·have:V.drop (mid - s)=[]:=akT.1 om;rw[this,ahV];exact su2
  obtain⟨W2,e3,p2,q2⟩:=x3;refine⟨W1++W2,by rw[e3,ahK],?_,FY q1 q2 fun x hx y hy=>cross x (p1.mem_iff.1 hx) y (p2.mem_iff.1 hy)⟩;have h:=p1.append p2;refine h.trans ?_;have h2:((U.take (s - a)++V.take (mid - s))++(U.drop (s - a)++V.drop (mid - s))).Perm ((U.take (s - a)++U.drop (s - a))++(V.take (mid - s)++V.drop (mid - s))):=by
   rw[ahK,ahK];refine List.Perm.append_left _ ?_;rw[<-ahK,<-ahK];exact List.Perm.append_right _ amW
  rwa [eU,eV] at h2
end
end Srt
end
section
namespace Srt
section
variable {α:Type}{d:α}{wt:α->Nat}
theorem Td (P:List α)(x:α):∀(n:Nat) (U R:List α),U.length=n->srt wt U->∃W,insJ d wt P.length (P.length+n) (P++(U++x::R))=P++(W++R)∧W.Perm (U++[x])∧srt wt W
|0,U,R,hU,_=>by
  have:U=[]:=akT.1 hU;subst this;refine⟨[x],?_,alS _,by unfold srt;simp⟩;show insJ d wt P.length P.length _=_;cases P with
 |nil=>rfl
 |cons p P=>
   show insJ d wt (P.length+1) (P.length+1) _=_;unfold insJ;rw[agV om];rfl
|n+1,U,R,hU,su=>by
  have hne:U≠[]:=fun e=>by rw[e] at hU;simp at hU
  have hV:=List.dropLast_concat_getLast hne;have hl:U.dropLast.length=n:=by rw[List.length_dropLast];omega
  generalize U.getLast hne=v at hV;generalize U.dropLast=Y at hV hl;subst hV;have e:P++(Y++[v]++x::R)=(P++Y)++v::([]++x::R):=sm
  have g1:(P++(Y++[v]++x::R)).getD (P.length+n) d=v:=by
   rw[e,show P.length+n=(P++Y).length by rw[agZ];omega];exact getD_at
  have g2:(P++(Y++[v]++x::R)).getD (P.length+n+1) d=x:=by
   rw[show P++(Y++[v]++x::R)=(P++(Y++[v]))++x::R by simp,show P.length+n+1=(P++(Y++[v])).length by simp;omega];exact getD_at
  have sY:srt wt Y:=(alB.1 su).1;have hYv:∀y∈Y,wt y<=wt v:=fun y hy=>(alB.1 su).2.2 y hy v (aoQ v);show ∃W,insJ d wt P.length (P.length+n+1) _=_∧_;unfold insJ;rw[g1,g2];by_cases h:wt x < wt v
  ·rw[agW ⟨om,by simp[lt,h]⟩,e,SX (P++Y) [] R v x (by rw[agZ];omega) (by simp;omega)];have e2:P++Y++x::([]++v::R)=P++(Y++x::(v::R)):=sm
   rw[e2];obtain⟨W,e3,p3,q3⟩:=Td P x n Y (v::R) hl sY;refine⟨W++[v],by rw[e3];simp,?_,FY q3 (by unfold srt;simp) ?_⟩
   ·refine (p3.append_right [v]).trans ?_;rw[ahK,ahK];exact List.Perm.append_left _ (List.Perm.swap v x [])
   ·intro y hy z hz;rw[aiA.1 hz];rcases aiC.1 (p3.mem_iff.1 hy) with hy|hy
    ·exact hYv y hy
    ·rw[aiA.1 hy];omega
  ·rw[agV (by intro hc;have:=hc.2;simp[lt] at this;omega)];refine⟨Y++[v]++[x],sm,alS _,FY su (by unfold srt;simp) ?_⟩;intro y hy z hz;rw[aiA.1 hz];rcases aiC.1 hy with hy|hy
   ·have:=hYv y hy;omega
   ·rw[aiA.1 hy];omega
theorem Tv (P:List α):∀(Y U R:List α) {i:Nat},i=P.length+U.length->srt wt U->∃W,insI d wt P.length Y.length i (P++(U++(Y++R)))=P++(W++R)∧W.Perm (U++Y)∧srt wt W
|[],U,R,i,_,su=>⟨U,rfl,by rw[ahV],su⟩
|y::Y,U,R,i,hi,su=>by
  show ∃W,insI d wt P.length Y.length (i+1) (insJ d wt P.length i (P++(U++y::(Y++R))))=_∧_;subst hi;obtain⟨W,e,p,q⟩:=Td (d:=d) P y U.length U (Y++R) rfl su;rw[e];have lW:W.length=U.length+1:=by rw[p.length_eq,agZ];rfl
  obtain⟨Z,e2,p2,q2⟩:=Tv P Y W R (i:=P.length+U.length+1) om q;refine⟨Z,e2,p2.trans ?_,q2⟩;have:=p.append_right Y;simpa using this
theorem Wi (P Y R:List α){a:Nat}(ha:a=P.length)(hb:b=a+Y.length):∃W,ins d wt (P++(Y++R)) a b=P++(W++R)∧W.Perm Y∧srt wt W:=by
 subst ha;unfold ins;cases Y with
|nil=>
  refine⟨[],?_,alS _,List.Pairwise.nil⟩;rw[show b - (P.length+1)=0 by simp at hb;omega];rfl
|cons y Y=>
  have h:=Tv (d:=d) (wt:=wt) P Y [y] R (i:=P.length+1) sm (by unfold srt;simp);rw[show b - (P.length+1)=Y.length by simp at hb;omega];exact h
def bks (wt:α->Nat)(n:Nat)(l:List α):Prop:=∀k,srt wt ((l.drop (k*n)).take n)
theorem RR {l:List α}(h:srt wt l)(n:Nat):bks wt n l:=fun k=>zJ (De h _) _
theorem Oo {W T:List α}{n:Nat}(hW:srt wt W)(hl:W.length=n)(hT:bks wt n T):bks wt n (W++T):=by
 intro k;cases k with
|zero=>
  rw[akD,ajL,<-hl,List.take_left];exact hW
|succ k=>
  rw[akA,amQ,<-alP,<-hl,List.drop_left,hl];exact hT k
theorem UX {l:List α}{n:Nat}(h:bks wt n l)(j:Nat):bks wt n (l.drop (j*n)):=by
 intro k;rw[alP,<-ajU];exact h _
theorem Wa {n:Nat}(hn:0 < n):∀(f:Nat) (P T:List α) {a:Nat},T.length < f->a=P.length->∃T',blk d wt n f a (P++T)=P++T'∧T'.Perm T∧bks wt n T'
|0,_,_,_,h,_=>by omega
|f+1,P,T,a,hf,ha=>by
  unfold blk;rw[agZ];by_cases h:a+n<=P.length+T.length
  ·rw[agW h];have eT:T.take n++T.drop n=T:=aiJ ..
   have lY:(T.take n).length=n:=by rw[ahE];omega
   have lR:(T.drop n).length=T.length - n:=ahL;obtain⟨W,e,p,q⟩:=Wi (d:=d) (wt:=wt) P (T.take n) (T.drop n) (a:=a) (b:=a+n) ha om;rw[eT] at e;have lW:W.length=n:=by rw[p.length_eq,lY]
   obtain⟨T',e2,p2,q2⟩:=Wa hn f (P++W) (T.drop n) (a:=a+n) om (by rw[agZ];omega);rw[e,<-ahK,e2];refine⟨W++T',by rw[ahK],?_,Oo q lW q2⟩;have:=p.append p2
   rwa [eT] at this
  ·rw[agV h];obtain⟨W,e,p,q⟩:=Wi (d:=d) (wt:=wt) P T [] (a:=a) (b:=P.length+T.length) ha om;rw[ahV,ahV] at e;exact⟨W,e,p,RR q n⟩
theorem WQ {n:Nat}(hn:0 < n):∀(f:Nat) (P T:List α) {a:Nat},T.length < f->a=P.length->bks wt n T->∃T',mrg d wt n f a (P++T)=P++T'∧T'.Perm T∧bks wt (2*n) T'
|0,_,_,_,h,_,_=>by omega
|f+1,P,T,a,hf,ha,hT=>by
  unfold mrg;rw[agZ];have c0:srt wt (T.take n):=by have:=hT 0;rwa [akD,ajL] at this
  have c1:srt wt ((T.drop n).take n):=by have:=hT 1;rwa [amJ] at this
  have e1:T.take n++T.drop n=T:=aiJ ..
  have lU:(T.take n).length=min n T.length:=ahE;have lD:(T.drop n).length=T.length - n:=ahL;by_cases h:a+2*n<=P.length+T.length
  ·rw[agW h];have e2:(T.drop n).take n++T.drop (2*n)=T.drop n:=by rw[Nat.two_mul,<-alP];exact aiJ ..
   have lV:((T.drop n).take n).length=n:=by rw[ahE];omega
   have lR:(T.drop (2*n)).length=T.length - 2*n:=ahL;obtain⟨W,e,p,q⟩:=NO (d:=d) (wt:=wt) (2*n) P (T.take n) ((T.drop n).take n) (T.drop (2*n)) (a:=a) (m:=a+n) (b:=a+2*n) om om om c0 c1 ha om om;rw[e2,e1] at e;have lW:W.length=2*n:=by rw[p.length_eq,agZ];omega
   obtain⟨T',e3,p3,q3⟩:=WQ hn f (P++W) (T.drop (2*n)) (a:=a+2*n) om (by rw[agZ];omega) (UX hT 2);rw[e,<-ahK,e3];refine⟨W++T',by rw[ahK],?_,Oo q lW q3⟩;have:=p.append p3;rw[ahK,e2,e1] at this;exact this
  ·rw[agV h];by_cases h2:a+n < P.length+T.length
   ·rw[agW h2];have e2:(T.drop n).take n=T.drop n:=aiF om;rw[e2] at c1;obtain⟨W,e,p,q⟩:=NO (d:=d) (wt:=wt) (P.length+T.length - a) P (T.take n) (T.drop n) [] (a:=a) (m:=a+n) (b:=P.length+T.length) om om om c0 c1 ha om om;rw[ahV,ahV,e1] at e;rw[e1] at p;exact⟨W,e,p,RR q _⟩
   ·rw[agV h2];rw[aiF om] at c0;exact⟨T,rfl,alS _,RR c0 _⟩
theorem Kx:∀(f n:Nat) (xs:List α),0 < n->xs.length < f+n->bks wt n xs->(rounds d wt f n xs).Perm xs∧srt wt (rounds d wt f n xs)
|0,n,xs,hn,hf,h=>by
  have:=h 0;rw[akD,ajL,aiF om] at this;exact⟨alS _,this⟩
|f+1,n,xs,hn,hf,h=>by
  unfold rounds;by_cases hc:n < xs.length
  ·rw[agW hc];obtain⟨T',e,p,q⟩:=WQ (d:=d) hn (xs.length+1) [] xs (a:=0) om rfl h;rw[aiM,aiM] at e;rw[e];have lT:=p.length_eq;obtain⟨p2,q2⟩:=Kx f (2*n) T' om om q;exact⟨p2.trans p,q2⟩
  ·rw[agV hc];have:=h 0;rw[akD,ajL,aiF om] at this;exact⟨alS _,this⟩
theorem Tp (d:α)(wt:α->Nat)(xs:List α):(H7 d wt xs).Perm xs∧srt wt (H7 d wt xs):=by
 unfold H7;obtain⟨T',e,p,q⟩:=Wa (d:=d) (wt:=wt) (n:=20) dc (xs.length+1) [] xs (a:=0) om rfl;rw[aiM,aiM] at e;rw[e];have lT:=p.length_eq;obtain⟨p2,q2⟩:=Kx (d:=d) (xs.length+1) 20 T' dc om q;exact⟨p2.trans p,q2⟩
end
end Srt
end
section
open Eng
def bR(t6 t25 t26 t27 w)(N3:JT)(K:KT):=nz Tryz.f350 175 [N3] [nh 23 [6,27]] [] (zg [6,25,26,27] [t6,t25,t26,t27]) w K
def bQ(t3 t11 w)(N1:JT)(K:KT):=nz Tryz.f350 491 [N1] [nh 7 [3,11]] [] (zg [3,11] [t3,t11]) w K
def bT(t0 t3 t9 t10 t11 w)(N1:JT)(K:KT):=nz Tryz.f350 43 [N1] [nh 7 [3,11],(16,[3],fun s v j w f=>bQ (vg v 0) (s 11) w (f 0) K),(23,[6,27],fun s v j w f=>bR (vg v 0) (s 25) (s 26) (vg v 1) w (f 0) K)] [] (zg [0,3,9,10,11] [t0,t3,t9,t10,t11]) w K
def bV(t0 w)(K:KT):=nz Tryz.f350 1 [] [(7,[3,11],fun s v j w f=>bT (s 0) (vg v 0) (s 9) (s 10) (vg v 1) w (f 0) K)] [] (zg [0] [t0]) w K
theorem eA{t0 w K}(h:bV t0 w K):Calls prog 350 #[t0] w K:=cz [(8,[3])] [(3,[3,11]),(11,[6,27])] Tryz.func350 h
def bW(t0 w)(K:KT):=nz Tryz.f360 15 [] [] [] (zg [0] [t0]) w K
def cA(t0 t1 w)(K:KT):=nz Tryz.f360 7 [] [(12,[0],fun s v j w f=>bW (vg v 0) w K)] [] (zg [0,1] [t0,t1]) w K
def cF(t0 t1 w)(K:KT):=nz Tryz.f360 1 [] [(6,[],fun s v j w f=>cA (s 0) (s 1) w K)] [] (zg [0,1] [t0,t1]) w K
theorem eD{t0 t1 w K}(h:cF t0 t1 w K):Calls prog 360 #[t0,t1] w K:=cz [(3,[]),(6,[0])] [] Tryz.func360 h
def bK(t0 t1 w)(K:KT):=nz Tryz.f351 1 [] [] [] (zg [0,1] [t0,t1]) w K
theorem dC{t0 t1 w K}(h:bK t0 t1 w K):Calls prog 351 #[t0,t1] w K:=cw Tryz.func351 h
def cE(c d e f b w)(N1 N2:JT)(K:KT):=
 QuietX w (fun C3=>QDo prog C3 (mBin .gtr 3 b d) fun a=>GQ a true (fun E=>E e) fun g=>GQ a true (fun E=>E c) fun h=>GQ a true (fun E=>E b) fun i=>GQ a true (fun E=>QDo prog C3 (mIA 341 h i) E) fun j=>GQ a true (fun E=>QDo prog C3 (aI 342 j) E) fun k=>GQ a true (fun E=>E c) fun l=>GQ a true (fun E=>E b) fun m=>GQ a true (fun E=>QDo prog C3 (mBin .sub 3 m (iN 1)) E) fun n=>GQ a true (fun E=>QDo prog C3 (mIA 341 l n) E) fun o=>GQ a true (fun E=>QDo prog C3 (aI 342 o) E) fun p=>GQ a true (fun E=>QDo prog C3 (gI g #[k,p]) E) fun q=>GQ a true (fun E=>QDo prog C3 (mBin .lss 3 q (iN 0)) E) fun r=>QDo prog C3 (eS a r (.bool false)) fun s=>
 ∀w,C3 w ->
 IfX s (QuietX w (fun C4=>PDo prog (mBin .sub 3 b (iN 1)) fun t=>QDo prog C4 (mBin .sub 3 b (iN 1)) fun u=>QDo prog C4 (mIA 341 c u) fun v=>QDo prog C4 (aI 342 v) fun x=>QDo prog C4 (mIA 341 c b) fun y=>QDo prog C4 (aI 342 y) fun z=>QDo prog C4 (mIA 341 c b) fun A=>
 ∀w,C4 w ->
 DoX prog (aS 342 A x) w (pm1 (pm1 (pm1 (pk K)))) fun _ w=>DoX prog (mIA 341 c t) w (pm1 (pm1 (pm1 (pk K)))) fun B w=>DoX prog (aS 342 B z) w (pm1 (pm1 (pm1 (pk K)))) fun _ w=>bnx .sub 3 b (iN 1) w K fun C w=>N2 [C] w)) (bnx .add 3 f (iN 1) w K fun D w=>N1 [D] w))
def cD(t0 t1 t2 t3 t8 w)(N1:JT)(K:KT):=nz Tryz.f365 5 [N1] [nh 3 [8],(9,[9],fun s v j w f=>cE (s 0) (s 1) (s 3) (s 8) (vg v 0) w (f 1) (f 0) K)] [] (zg [0,1,2,3,8] [t0,t1,t2,t3,t8]) w K
def cK(t0 t1 t2 t3 w)(K:KT):=nz Tryz.f365 1 [] [(3,[8],fun s v j w f=>cD (s 0) (s 1) (s 2) (s 3) (vg v 0) w (f 0) K)] [] (zg [0,1,2,3] [t0,t1,t2,t3]) w K
theorem eI{t0 t1 t2 t3 w K}(h:cK t0 t1 t2 t3 w K):Calls prog 365 #[t0,t1,t2,t3] w K:=cz [] [(1,[8]),(4,[9])] Tryz.func365 h
def dD(t0 t2 t4 t10 t11 w)(N1:JT)(K:KT):=nz Tryz.f367 19 [N1] [nh 5 [10,11]] [] (zg [0,2,4,10,11] [t0,t2,t4,t10,t11]) w K
def dP(t0 t1 t2 t3 t4 w)(K:KT):=nz Tryz.f367 1 [] [(5,[10,11],fun s v j w f=>dD (s 0) (s 2) (s 4) (vg v 0) (vg v 1) w (f 0) K)] [] (zg [0,1,2,3,4] [t0,t1,t2,t3,t4]) w K
theorem fN{t0 t1 t2 t3 t4 w K}(h:dP t0 t1 t2 t3 t4 w K):Calls prog 367 #[t0,t1,t2,t3,t4] w K:=cz [] [(2,[10,11])] Tryz.func367 h
def dF(t6 w)(N2:JT)(K:KT):=nz Tryz.f361 1007 [N2] [nh 15 [6]] [] (zg [6] [t6]) w K
def dE(t0 t1 t2 t6 t7 t8 w)(N2 N3:JT)(K:KT):=nz Tryz.f361 623 [N2,N3] [nh 15 [6],nh 19 [7,8],(32,[],fun s v j w f=>dF (s 6) w (f 0) K)] [] (zg [0,1,2,6,7,8] [t0,t1,t2,t6,t7,t8]) w K
def dH(t0 t1 t2 t6 w)(N2:JT)(K:KT):=nz Tryz.f361 47 [N2] [nh 15 [6],(19,[7,8],fun s v j w f=>dE (s 0) (s 1) (s 2) (s 6) (vg v 0) (vg v 1) w (f 1) (f 0) K)] [] (zg [0,1,2,6] [t0,t1,t2,t6]) w K
def dG(t0 t1 t2 t6 t7 t8 w)(N1:JT)(K:KT):=nz Tryz.f361 19 [N1] [nh 5 [7,8],(15,[6],fun s v j w f=>dH (s 0) (s 1) (s 2) (vg v 0) w (f 0) K)] [] (zg [0,1,2,6,7,8] [t0,t1,t2,t6,t7,t8]) w K
def dO(t0 t1 t2 w)(K:KT):=nz Tryz.f361 1 [] [(5,[7,8],fun s v j w f=>dG (s 0) (s 1) (s 2) (s 6) (vg v 0) (vg v 1) w (f 0) K)] [] (zg [0,1,2] [t0,t1,t2]) w K
theorem fO{t0 t1 t2 w K}(h:dO t0 t1 t2 w K):Calls prog 361 #[t0,t1,t2] w K:=cz [(16,[])] [(2,[7,8]),(7,[6]),(9,[7,8])] Tryz.func361 h
def cO(b c d e a w)(N1:JT)(K:KT):=
 bnx .lss 3 a e w K fun f w=>IfX f (QuietX w (fun C2=>PDo prog (mBin .add 3 d a) fun g=>QDo prog C2 (mBin .add 3 c a) fun h=>QDo prog C2 (mBin .add 3 d a) fun i=>QDo prog C2 (mIA 341 b i) fun j=>QDo prog C2 (aI 342 j) fun k=>QDo prog C2 (mBin .add 3 c a) fun l=>QDo prog C2 (mIA 341 b l) fun m=>QDo prog C2 (aI 342 m) fun n=>QDo prog C2 (mIA 341 b h) fun o=>
 ∀w,C2 w ->
 DoX prog (aS 342 o k) w (pm1 (pm1 (pm1 (pm1 (pk K))))) fun _ w=>DoX prog (mIA 341 b g) w (pm1 (pm1 (pm1 (pm1 (pk K))))) fun p w=>DoX prog (aS 342 p n) w (pm1 (pm1 (pm1 (pm1 (pk K))))) fun _ w=>bnx .add 3 a (iN 1) w K fun q w=>N1 [q] w)) (K (.returned (.tuple #[])) w)
def dA(t0 t1 t2 t3 t4 w)(K:KT):=nz Tryz.f368 1 [] [(3,[10],fun s v j w f=>cO (s 0) (s 1) (s 2) (s 3) (vg v 0) w (f 0) K)] [] (zg [0,1,2,3,4] [t0,t1,t2,t3,t4]) w K
theorem eZ{t0 t1 t2 t3 t4 w K}(h:dA t0 t1 t2 t3 t4 w K):Calls prog 368 #[t0,t1,t2,t3,t4] w K:=cz [] [(1,[10])] Tryz.func368 h
def cP(t0 t3 t4 t18 t24 w)(K:KT):=nz Tryz.f366 4095 [] [] [] (zg [0,3,4,18,24] [t0,t3,t4,t18,t24]) w K
def cX(t0 t1 t3 t4 t18 t20 t24 w)(K:KT):=nz Tryz.f366 2047 [] [(86,[],fun s v j w f=>cP (s 0) (s 3) (s 4) (s 18) (s 24) w K)] [] (zg [0,1,3,4,18,20,24] [t0,t1,t3,t4,t18,t20,t24]) w K
def cQ(t0 t1 t2 t3 t4 t18 t19 t20 t21 t22 w)(N10:JT)(K:KT):=nz Tryz.f366 639 [N10] [nh 67 [20,21],(82,[],fun s v j w f=>cX (s 0) (s 1) (s 3) (s 4) (s 18) (s 20) (s 24) w K)] [(35,14)] (zg [0,1,2,3,4,18,19,20,21,22] [t0,t1,t2,t3,t4,t18,t19,t20,t21,t22]) w K
def cT(t0 t1 t2 t3 t4 t18 t19 t20 t21 w)(K:KT):=nz Tryz.f366 127 [] [(67,[20,21],fun s v j w f=>cQ (s 0) (s 1) (s 2) (s 3) (s 4) (s 18) (s 19) (vg v 0) (vg v 1) (s 22) w (f 0) K)] [] (zg [0,1,2,3,4,18,19,20,21] [t0,t1,t2,t3,t4,t18,t19,t20,t21]) w K
def cS(b c a w)(N7:JT)(K:KT):=
 bnx .gtr 3 a c w K fun d w=>IfX d (QuietX w (fun C8=>PDo prog (mBin .sub 3 a (iN 1)) fun e=>QDo prog C8 (mBin .sub 3 a (iN 1)) fun f=>QDo prog C8 (mIA 341 b f) fun g=>QDo prog C8 (aI 342 g) fun h=>QDo prog C8 (mIA 341 b a) fun i=>QDo prog C8 (aI 342 i) fun j=>QDo prog C8 (mIA 341 b a) fun k=>
 ∀w,C8 w ->
 DoX prog (aS 342 k h) w (pm1 (pm1 (pm1 (pk K)))) fun _ w=>DoX prog (mIA 341 b e) w (pm1 (pm1 (pm1 (pk K)))) fun l w=>DoX prog (aS 342 l j) w (pm1 (pm1 (pm1 (pk K)))) fun _ w=>bnx .sub 3 a (iN 1) w K fun m w=>N7 [m] w)) (K (.returned (.tuple #[])) w)
def cR(t0 t2 t4 t14 t15 w)(N5:JT)(K:KT):=nz Tryz.f366 309 [N5] [nh 31 [14,15],(43,[17],fun s v j w f=>cS (s 0) (s 14) (vg v 0) w (f 0) K)] [(17,12)] (zg [0,2,4,14,15] [t0,t2,t4,t14,t15]) w K
def cY(b c a w)(N3:JT)(K:KT):=
 bnx .sub 3 c (iN 1) w K fun d w=>bnx .lss 3 a d w K fun e w=>IfX e (QuietX w (fun C4=>PDo prog (mBin .add 3 a (iN 1)) fun f=>QDo prog C4 (mBin .add 3 a (iN 1)) fun g=>QDo prog C4 (mIA 341 b g) fun h=>QDo prog C4 (aI 342 h) fun i=>QDo prog C4 (mIA 341 b a) fun j=>QDo prog C4 (aI 342 j) fun k=>QDo prog C4 (mIA 341 b a) fun l=>
 ∀w,C4 w ->
 DoX prog (aS 342 l i) w (pm1 (pm1 (pm1 (pk K)))) fun _ w=>DoX prog (mIA 341 b f) w (pm1 (pm1 (pm1 (pk K)))) fun m w=>DoX prog (aS 342 m k) w (pm1 (pm1 (pm1 (pk K)))) fun _ w=>bnx .add 3 a (iN 1) w K fun n w=>N3 [n] w)) (K (.returned (.tuple #[])) w)
def cW(t0 t1 t4 t10 t11 w)(N1:JT)(K:KT):=nz Tryz.f366 154 [N1] [nh 7 [10,11],(19,[13],fun s v j w f=>cY (s 0) (s 10) (vg v 0) w (f 0) K)] [(5,11)] (zg [0,1,4,10,11] [t0,t1,t4,t10,t11]) w K
def dI(t0 t1 t2 t3 t4 w)(K:KT):=nz Tryz.f366 1 [] [(7,[10,11],fun s v j w f=>cW (s 0) (s 1) (s 4) (vg v 0) (vg v 1) w (f 0) K),(31,[14,15],fun s v j w f=>cR (s 0) (s 2) (s 4) (vg v 0) (vg v 1) w (f 0) K),(64,[20,21],fun s v j w f=>cT (s 0) (s 1) (s 2) (s 3) (s 4) (s 18) (s 19) (vg v 0) (vg v 1) w K)] [] (zg [0,1,2,3,4] [t0,t1,t2,t3,t4]) w K
theorem fF{t0 t1 t2 t3 t4 w K}(h:dI t0 t1 t2 t3 t4 w K):Calls prog 366 #[t0,t1,t2,t3,t4] w K:=cz [(32,[20,21]),(41,[]),(43,[])] [(3,[10,11]),(9,[13]),(15,[14,15]),(21,[17]),(33,[20,21])] Tryz.func366 h
end
section
open Eng Go.RowKit
theorem Eng.U5 {K:Value->Prop}{fa ca:Array Value}(hp:bZ P f=true)(v:Value)(h:∀w,C w->Ret P f (fa++args++ca) w (fun v' w'=>v'=v∧C w'))(k:K v):QDo P C (gI (.func (.func f) fa ca) args) K:=
 ⟨v,fun w hw=>by
  have e:(gI (.func (.func f) fa ca) args).run P w=.ok (.enter f (fa++args++ca)) w:=by
   unfold gI;simp only[Deferred.ofValue,invoke,bind,pure,Sem.bind];exact lJ hp _ _
  rw[e];exact⟨rfl,Calls.mono (h w hw) fun _ _ ⟨_,he,hv,hc⟩=>⟨by rw[he,hv],hc⟩⟩,k⟩
abbrev Pc:=Value×Cn
def pd:Pc:=(undef,.leaf 0 0)
def pcW (ps:List Pc):List Value:=ps.map (·.1)
abbrev pcE (v:Value)(ps:List Pc):Ent:=.urow 342 1 v ps.length (pcW ps)
def pw (x:Pc):Nat:=x.2.wt
def cmpI (a b:Nat):Int:=if a < b then -1 else if b < a then 1 else 0
theorem Je (a b:Nat):decide (cmpI a b < 0)=decide (a < b):=by
 unfold cmpI;split
 ·rename_i h;simp[h]
 ·rename_i h;split<;>simp[h]
structure CmpOk (M:Mem) (cv:Value) (ok:Pc->Prop):Prop where
 ptr:∀x,ok x->x.1.oneCell'=true∧x.1.cells=#[x.1]
 run:∃f fa ca,cv=.func (.func f) fa ca∧bZ prog f=true∧∀W x y,M.has W->ok x->ok y->Ret prog f (fa++#[x.1,y.1]++ca) W (fun v w'=>v=.int .i64 (cmpI (pw x) (pw y))∧Below W.heap.size W w')
theorem Kk:eF prog 342=true:=krx
theorem Dr:(Tryz.prog.info? 342).map (·.size)=some 1:=krx
theorem Srt.Nz {d:α}{xs:List α}(hi:i < xs.length)(hj:j < xs.length){x:α}(h:x∈Srt.sw d xs i j):x∈xs:=by
 unfold Srt.sw at h;rcases anI h with h|h
 ·rcases anI h with h|h
  ·exact h
  ·rw[h,ahC,ahH hj];exact ahP hj
 ·rw[h,ahC,ahH hi];exact ahP hi
theorem rK {ps:List Pc}(hi:i < ps.length):ps.getD i pd∈ps:=by
 rw[ahC,ahH hi];exact ahP hi
theorem SZ {ps:List Pc}(hi:i < ps.length):(pcW ps)[i]?=some (ps.getD i pd).1:=by
 unfold pcW;rw[alG,ahC,ahH hi];rfl
theorem pA {g n:Nat}(hi:i < n)(W:World):(mIA 341 (.slice (some ⟨g,0,none⟩) n cap) (.int .i64 (i:Int))).run prog W=.ok (.value (.pointer (some ⟨g,i,none⟩))) W:=by
 have:=eE (P:=prog) (T:=341) (b:=g) (off:=0) (cap:=cap) (n:=n) (k:=.i64) (i:=(i:Int)) (w:=W) ajR Dr om om
 rwa [ahI,ahZ,ahJ] at this
theorem yU {g n:Nat}{ps:List Pc}(h:(pcE (.slice (some ⟨g,0,none⟩) n cap) ps).is W)(hi:i < ps.length):(aI 342 (.pointer (some ⟨g,i,none⟩))).run prog W=.ok (.value (ps.getD i pd).1) W:=by
 obtain⟨b',off',cap',e,h2⟩:=cB (Sl.urow h) om
 injection e with e1 e2 e3
 injection e1 with e1
 have hg:=congrArg Addr.block e1;have hof:=congrArg Addr.off e1;dsimp only at hg hof;subst hg;subst hof;have:=h2 i _ (SZ hi);rw[ahJ] at this;exact aB Kk this
section
variable {w:World}{PK PK2 PK3:PKT}{K:VWP}{S:Nat->Prop}{w0:World}{L T:List Ent}
theorem Sf {ps:List Pc}{x:Pc}(hi:i < ps.length):(pcW ps).take i++[x.1]++(pcW ps).drop (i+[x.1].length)=pcW (ps.set i x):=by
 unfold pcW;rw[anJ,apK,agW (by simpa using hi)];simp
theorem o_sw {g:Nat}{ps:List Pc}{N:World->Prop}{ok:Pc->Prop}(hc:CmpOk M cv ok)(ho:OwnS S w0 w (pcE (.slice (some ⟨g,0,none⟩) ps.length cap) ps::T))(hok:∀x∈ps,ok x)(hi:i < ps.length)(hj:j < ps.length)
  (k:∀W,OwnS S w0 W (pcE (.slice (some ⟨g,0,none⟩) ps.length cap) (Srt.sw pd ps i j)::T)->N W) :
  DoX prog (aS 342 (.pointer (some ⟨g,i,none⟩)) (ps.getD j pd).1) w PK fun _ w=>DoX prog (mIA 341 (.slice (some ⟨g,0,none⟩) ps.length cap) (.int .i64 (j:Int))) w PK2 fun t w=>DoX prog (aS 342 t (ps.getD i pd).1) w PK3 fun _ w=>N w:=by
 obtain⟨o1,c1⟩:=hc.ptr _ (hok _ (rK hi));obtain⟨o2,c2⟩:=hc.ptr _ (hok _ (rK hj));refine Cb (sz:=1) (new:=[(ps.getD j pd).1]) 0 ho rfl (by rw[c2]) Dr (fun u hu=>by rw[aiA.1 hu];exact o2) (by simp;omega) fun W1 ho=>?_;have ho:OwnS S w0 W1 (.urow 342 1 (.slice (some ⟨g,0,none⟩) (ps.set i (ps.getD j pd)).length cap) (ps.set i (ps.getD j pd)).length (pcW (ps.set i (ps.getD j pd)))::T):=by
  rw[<-Sf hi,ajM];exact ho
 have hj2:j < (ps.set i (ps.getD j pd)).length:=by rw[ajM];exact hj
 refine aE (pA hj W1) |>.mpr ?_;refine Cb (sz:=1) (new:=[(ps.getD i pd).1]) 0 ho rfl (by rw[c1]) Dr (fun u hu=>by rw[aiA.1 hu];exact o1) (by simp;omega) fun W2 ho=>?_;refine k W2 ?_;unfold Srt.sw pcE;rw[<-Sf hj2];have e:((ps.set i (ps.getD j pd)).set j (ps.getD i pd)).length=(ps.set i (ps.getD j pd)).length:=ajM;rw[e];have e2:(ps.set i (ps.getD j pd)).length=ps.length:=ajM;rw[e2] at ho ⊢;exact ho
theorem X2 {g n a:Nat}{ps:List Pc}{cv2:Value}{ok:Pc->Prop}(hc:CmpOk M cv2 ok)(ho:OwnS S w0 w (pcE (.slice (some ⟨g,0,none⟩) ps.length cap) ps::T))(hok:∀x∈ps,ok x)(ha:a+n<=ps.length)(hb:b+n<=ps.length)(hl:ps.length<=1000000000)
  (k:∀W,(∀x∈Srt.swr pd n a b ps,ok x)->OwnS S w0 W (pcE (.slice (some ⟨g,0,none⟩) ps.length cap) (Srt.swr pd n a b ps)::T)->K (.tuple #[]) W) :
  CallX prog 368 #[.slice (some ⟨g,0,none⟩) ps.length cap,.int .i64 (a:Int),.int .i64 (b:Int),.int .i64 (n:Int),cv] w PK K:=by
 generalize hR:Srt.swr pd n a b ps=R at k;refine fH (eZ (K:=RetK fun v W=>v=.tuple #[]∧(∀x∈R,ok x)∧OwnS S w0 W (pcE (.slice (some ⟨g,0,none⟩) ps.length cap) R::T)) ?_) (fun e W ⟨v,he,hv,h1,ho⟩=>by subst he;subst hv;exact k W h1 ho);unfold dA nz;generalize hN:ps.length=N at *;refine loop (fun vs W=>∃(i:Nat) (zs:List Pc),vs=[.int .i64 (i:Int)]∧i<=n∧zs.length=N∧(∀x∈zs,ok x)∧Srt.swr pd (n - i) (a+i) (b+i) zs=R∧OwnS S w0 W (pcE (.slice (some ⟨g,0,none⟩) N cap) zs::T)) (fun vs _=>n - n0 vs) ⟨0,ps,rfl,om,hN,hok,hR,ho⟩ ?_;clear ho;rintro vs w1 ⟨i,zs,rfl,hi,hz,hzo,hX,ho⟩ _;simp only[cO,gd,rs,iN,bnx];by_cases hlt:(i:Int) < (n:Int)
 ·simp only[hlt,agY,i_t];obtain⟨m,hm⟩:∃m,n - i=m+1:=⟨n - i - 1,om⟩;rw[hm] at hX;unfold Srt.swr at hX;refine eB (fun W=>OwnS S w0 W (pcE (.slice (some ⟨g,0,none⟩) N cap) zs::T)) ho.drew ?_;refine p_do _ (fun _=>PW) ?_;rw[aA om om,show (b:Int)+(i:Int)=((b+i:Nat):Int) by omega];refine qQ ?_;rw[aA om om,show (a:Int)+(i:Int)=((a+i:Nat):Int) by omega];refine qQ ?_;rw[aA om om,show (b:Int)+(i:Int)=((b+i:Nat):Int) by omega];refine q_do _ (fun W=>pA om W) (q_at _ (fun W h=>yU (h.at_ 0 rfl) om) ?_);refine qQ ?_;rw[aA om om,show (a:Int)+(i:Int)=((a+i:Nat):Int) by omega];refine q_do _ (fun W=>pA om W) (q_at _ (fun W h=>yU (h.at_ 0 rfl) om) ?_);refine q_do _ (fun W=>pA om W) ?_;intro w2 ho;subst hz;refine o_sw hc ho hzo om om fun w3 ho=>?_
  try simp only[rs]
  rw[aA om om];refine aY ⟨i+1,Srt.sw pd zs (a+i) (b+i),rfl,om,Srt.D7,fun x hx=>hzo x (Srt.Nz om om hx),?_,ho⟩ (by simp[n0,RowKit.intOf];omega);rw[show n - (i+1)=m by omega];exact hX
 ·simp only[hlt,agX,i_f];rw[show n - i=0 by omega] at hX;unfold Srt.swr at hX;subst hX;exact retK ⟨rfl,hzo,ho⟩
end
end
section
open Eng Go.RowKit
section
variable {w:World}{PK PK2 PK3:PKT}{K:VWP}{S:Nat->Prop}{w0:World}{L T:List Ent}
theorem afL {g a N:Nat}{ps:List Pc}{cv2:Value}{ok:Pc->Prop}(hc:CmpOk M cv2 ok)(hN:ps.length=N)(ho:OwnS S w0 w (pcE (.slice (some ⟨g,0,none⟩) N cap) ps::T))(hok:∀x∈ps,ok x)(ha:a < m)(hm:m < b)(hb:b<=N)(hl:N<=1000000000)
  (k:∀W,(∀x∈Srt.rot pd (b - a) (m - a) (b - m) m ps,ok x)->OwnS S w0 W (pcE (.slice (some ⟨g,0,none⟩) N cap) (Srt.rot pd (b - a) (m - a) (b - m) m ps)::T)->K (.tuple #[]) W) :
  CallX prog 367 #[.slice (some ⟨g,0,none⟩) N cap,.int .i64 (a:Int),.int .i64 (m:Int),.int .i64 (b:Int),cv] w PK K:=by
 generalize hR:Srt.rot pd (b - a) (m - a) (b - m) m ps=R at k;refine fH (fN (K:=RetK fun v W=>v=.tuple #[]∧(∀x∈R,ok x)∧OwnS S w0 W (pcE (.slice (some ⟨g,0,none⟩) N cap) R::T)) ?_) (fun e W ⟨v,he,hv,h1,ho⟩=>by subst he;subst hv;exact k W h1 ho);unfold dP nz;simp only[rs];rw[aA om om,aA om om,show (m:Int) - (a:Int)=((m - a:Nat):Int) by omega,show (b:Int) - (m:Int)=((b - m:Nat):Int) by omega];refine loop (fun vs W=>∃(i j f:Nat) (zs:List Pc),vs=[.int .i64 (i:Int),.int .i64 (j:Int)]∧i+j<=f∧0 < i∧0 < j∧i<=m∧m+j<=N∧zs.length=N∧(∀x∈zs,ok x)∧Srt.rot pd f i j m zs=R∧OwnS S w0 W (pcE (.slice (some ⟨g,0,none⟩) N cap) zs::T)) (fun vs _=>n0 vs+n1 vs) ⟨m - a,b - m,b - a,ps,rfl,om,om,om,om,om,hN,hok,hR,ho⟩ ?_;clear ho;rintro vs w1 ⟨i,j,f,zs,rfl,hf,hi,hj,him,hjn,hz,hzo,hX,ho⟩ _;simp only[dD,gd,rs,nz];obtain⟨f,rfl⟩:∃q,f=q+1:=⟨f - 1,om⟩;unfold Srt.rot at hX;subst hz;by_cases he:i=j
 ·subst he;simp only[show decide ((i:Int)≠(i:Int))=false from ahA sm,i_f];rw[agW rfl] at hX;rw[aA om om,show (m:Int) - (i:Int)=((m - i:Nat):Int) by omega];refine X2 hc ho hzo om om om fun w2 h1 ho=>?_;rw[hX] at h1 ho;exact retK ⟨rfl,h1,ho⟩
 ·rw[agV he] at hX;simp only[show decide ((i:Int)≠(j:Int))=true from ahB om,i_t];by_cases hlt:j < i
  ·rw[agW hlt] at hX;simp only[show decide ((j:Int) < (i:Int))=true from ahB om,i_t];rw[aA om om,show (m:Int) - (i:Int)=((m - i:Nat):Int) by omega];refine X2 hc ho hzo om om om fun w2 h1 ho=>?_
   try simp only[rs]
   rw[aA om om,show (i:Int) - (j:Int)=((i - j:Nat):Int) by omega];exact aY ⟨i - j,j,f,_,rfl,om,om,om,om,om,Srt.DR _ _ _ _,h1,hX,ho⟩ (by simp[n0,n1,RowKit.intOf];omega)
  ·rw[agV hlt] at hX;simp only[show decide ((j:Int) < (i:Int))=false from ahA om,i_f];rw[aA (n:=(m:Int) - (i:Int)) om om,aA (n:=(m:Int)+(j:Int)) om om,aA (n:=(m:Int)+(j:Int) - (i:Int)) om om,show (m:Int) - (i:Int)=((m - i:Nat):Int) by omega,show (m:Int)+(j:Int) - (i:Int)=((m+j - i:Nat):Int) by omega];refine X2 hc ho hzo om om om fun w2 h1 ho=>?_
   try simp only[rs]
   rw[aA om om,show (j:Int) - (i:Int)=((j - i:Nat):Int) by omega];exact aY ⟨i,j - i,f,_,rfl,om,om,om,om,om,Srt.DR _ _ _ _,h1,hX,ho⟩ (by simp[n0,n1,RowKit.intOf];omega)
theorem abQ {g a N:Nat}{ps:List Pc}{ok:Pc->Prop}(hc:CmpOk M cv ok)(hm:T[jm]?=some (.mem M))(hN:ps.length=N)(ho:OwnS S w0 w (pcE (.slice (some ⟨g,0,none⟩) N cap) ps::T))(hok:∀x∈ps,ok x)(hb:b<=N)(ha:a<=N)(hl:N<=1000000000)
  (k:∀W,(∀x∈Srt.ins pd pw ps a b,ok x)->OwnS S w0 W (pcE (.slice (some ⟨g,0,none⟩) N cap) (Srt.ins pd pw ps a b)::T)->K (.tuple #[]) W) :
  CallX prog 365 #[.slice (some ⟨g,0,none⟩) N cap,.int .i64 (a:Int),.int .i64 (b:Int),cv] w PK K:=by
 unfold Srt.ins at k;generalize hR:Srt.insI pd pw a (b - (a+1)) (a+1) ps=R at k;refine fH (eI (K:=RetK fun v W=>v=.tuple #[]∧(∀x∈R,ok x)∧OwnS S w0 W (pcE (.slice (some ⟨g,0,none⟩) N cap) R::T)) ?_) (fun e W ⟨v,he,hv,h1,ho⟩=>by subst he;subst hv;exact k W h1 ho);unfold cK nz;obtain⟨cf,cfa,cca,hcv,hcp,hcr⟩:=hc.run;have hm2:∀{W:World} {e:Ent},OwnS S w0 W (e::T)->M.has W:=fun ho=>ho.hasM (jm+1) (by rw[aiP];exact hm);simp only[rs];rw[aA om om];refine loop (fun vs W=>∃(i:Nat) (zs:List Pc),vs=[.int .i64 (i:Int)]∧a+1<=i∧i<=max b (a+1)∧zs.length=N∧(∀x∈zs,ok x)∧Srt.insI pd pw a (b - i) i zs=R∧OwnS S w0 W (pcE (.slice (some ⟨g,0,none⟩) N cap) zs::T)) (fun vs _=>b - n0 vs) ⟨a+1,ps,rfl,om,om,hN,hok,hR,ho⟩ ?_;clear ho;rintro vs w1 ⟨i,zs,rfl,hi,hib,hz,hzo,hX,ho⟩ _;simp only[cD,gd,rs,nz];by_cases hlt:(i:Int) < (b:Int)
 ·simp only[hlt,agY,i_t];obtain⟨q,hq⟩:∃q,b - i=q+1:=⟨b - i - 1,om⟩;rw[hq] at hX;unfold Srt.insI at hX;refine loop (fun vs W=>∃(j:Nat) (zs:List Pc),vs=[.int .i64 (j:Int)]∧a<=j∧j<=i∧zs.length=N∧(∀x∈zs,ok x)∧Srt.insI pd pw a q (i+1) (Srt.insJ pd pw a j zs)=R∧OwnS S w0 W (pcE (.slice (some ⟨g,0,none⟩) N cap) zs::T)) (fun vs _=>n0 vs) ⟨i,zs,rfl,om,om,hz,hzo,hX,ho⟩ ?_;clear ho hX hzo hz;rintro vs w2 ⟨j,zs,rfl,haj,hji,hz,hzo,hX,ho⟩ _;simp only[cE,gd,iN,bnx];have stop:∀W,Srt.insJ pd pw a j zs=zs->OwnS S w0 W (pcE (.slice (some ⟨g,0,none⟩) N cap) zs::T)->Mc (fun vs W=>∃(i:Nat) (zs:List Pc),vs=[.int .i64 (i:Int)]∧a+1<=i∧i<=max b (a+1)∧zs.length=N∧(∀x∈zs,ok x)∧Srt.insI pd pw a (b - i) i zs=R∧OwnS S w0 W (pcE (.slice (some ⟨g,0,none⟩) N cap) zs::T)) (fun vs _=>b - n0 vs) [.int .i64 (i:Int)] w1 [.int .i64 (IntKind.i64.wrap ((i:Int)+1))] W:=by
   intro W he ho;rw[aA om om];rw[he] at hX;refine aY ⟨i+1,zs,rfl,om,om,hz,hzo,?_,ho⟩ (by simp[n0,RowKit.intOf];omega);rw[show b - (i+1)=q by omega];exact hX
  refine eB (fun W=>OwnS S w0 W (pcE (.slice (some ⟨g,0,none⟩) N cap) zs::T)) ho.drew ?_;refine XL ?_;by_cases hj:a < j
  ·obtain⟨j,rfl⟩:∃p,j=p+1:=⟨j - 1,om⟩;rw[ahB (show (a:Int) < ((j+1:Nat):Int) by omega)];simp only[gq];refine q_do _ (fun W=>pA om W) (q_at _ (fun W h=>yU (h.at_ 0 rfl) om) ?_);refine q_do _ (fun _=>E9) ?_;rw[aA om om,show ((j+1:Nat):Int) - 1=(j:Int) by omega];refine q_do _ (fun W=>pA om W) (q_at _ (fun W h=>yU (h.at_ 0 rfl) om) ?_);subst hcv;refine U5 hcp (.int .i64 (cmpI (pw (zs.getD (j+1) pd)) (pw (zs.getD j pd)))) (fun W h=>(hcr W _ _ (hm2 h) (hzo _ (rK om)) (hzo _ (rK om))).mono fun v w' r=>⟨r.1,h.grow r.2⟩) ?_;refine LU (q_pt ?_);rw[Je];intro w3 ho;unfold Srt.insJ at hX stop;by_cases hl2:pw (zs.getD (j+1) pd) < pw (zs.getD j pd)
   ·rw[agW ⟨hj,ahB hl2⟩] at hX;simp only[hl2,agY,i_t];refine eB (fun W=>OwnS S w0 W (pcE (.slice (some ⟨g,0,none⟩) N cap) zs::T)) ho.drew ?_;refine p_do _ (fun _=>E9) ?_;rw[aA om om,show ((j+1:Nat):Int) - 1=(j:Int) by omega];refine q_do _ (fun _=>E9) ?_;rw[aA om om,show ((j+1:Nat):Int) - 1=(j:Int) by omega];refine q_do _ (fun W=>pA om W) (q_at _ (fun W h=>yU (h.at_ 0 rfl) om) ?_);refine q_do _ (fun W=>pA om W) (q_at _ (fun W h=>yU (h.at_ 0 rfl) om) ?_);refine q_do _ (fun W=>pA om W) ?_;intro w4 ho;subst hz;refine o_sw hc ho hzo om om fun w5 ho=>?_
    try simp only[rs]
    rw[aA om om,show ((j+1:Nat):Int) - 1=(j:Int) by omega];exact aY ⟨j,_,rfl,om,om,Srt.D7,fun x hx=>hzo x (Srt.Nz om om hx),hX,ho⟩ (by simp[n0,RowKit.intOf])
   ·simp only[hl2,agX,i_f,rs];exact stop w3 (agV fun h=>hl2 (ahO h.2)) ho
  ·rw[ahA (show ¬(a:Int) < (j:Int) by omega)];simp only[gq];refine q_pf ?_;intro w3 ho;simp only[i_f,rs];refine stop w3 ?_ ho;cases j with
  |zero=>rfl
  |succ j=>
    unfold Srt.insJ;rw[agV (fun h=>hj h.1)]
 ·simp only[hlt,agX,i_f];rw[show b - i=0 by omega] at hX;unfold Srt.insI at hX;subst hX;exact retK ⟨rfl,hzo,ho⟩
end
end
end Go.Proofs.YtlipjfcbjemicaaGreatDoor
