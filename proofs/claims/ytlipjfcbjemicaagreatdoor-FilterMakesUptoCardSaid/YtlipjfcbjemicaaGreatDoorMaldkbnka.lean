/- Texts that go together: FeO LayR FeN SMake5B SRef19B FeW Plain06 Plain06B Plain06C Plain06D Plain06E Plain16O Plain16P FeX FeY. -/
import Derived.Test.YtlipjfcbjemicaaGreatDoorRows
import Derived.Test.YtlipjfcbjemicaaGreatDoorMmogppjjb
import Derived.Test.YtlipjfcbjemicaaGreatDoorMmobppmkb
import Derived.Test.YtlipjfcbjemicaaGreatDoorMmflabinf
import Derived.Test.YtlipjfcbjemicaaGreatDoorMnegemnlf
import Derived.Test.YtlipjfcbjemicaaGreatDoorMnnoonhij
import Derived.Test.YtlipjfcbjemicaaGreatDoorMckkjeape
import Derived.Test.YtlipjfcbjemicaaGreatDoorMkampjacl
import Derived.Test.YtlipjfcbjemicaaGreatDoorMlmlibeig
set_option linter.defProp false
set_option linter.unusedSimpArgs false
set_option linter.unusedVariables false
set_option maxRecDepth 20000
open Go.Proofs.Tryz (prog)
namespace Go.Proofs.YtlipjfcbjemicaaGreatDoor
variable{H:Type}{K:VWP}{PK:PKT}{W w:World}{b fuel i:Nat}{cs:List Value}{key:List UInt8}{o:Ob}{os:List Ob}{v:Value}
section
open Eng Go.RowKit Go.ChangeShapes Go.WideShapes Go.ChangeAt
set_option maxRecDepth 100000
theorem Wc {α:Type}:∀{l:List α},l.length=2->∃a b,l=[a,b]
|[a,b],_=>⟨a,b,rfl⟩
theorem mapM_mem {α β:Type}{f:α->Option β}:∀{l:List α} {r:List β},l.mapM f=some r->(∀a∈l,∃b∈r,f a=some b)∧∀b∈r,∃a∈l,f a=some b
|[],r,h=>by
  simp only[List.mapM_nil,Option.pure_def,akR] at h;subst h;exact⟨(fun a ha=>by cases ha),(fun b hb=>by cases hb)⟩
|x::l,r,h=>by
  simp only[List.mapM_cons,Option.bind_eq_bind,alX,Option.pure_def,akR] at h;obtain⟨b,hb,r',hr',rfl⟩:=h;obtain⟨i1,i2⟩:=mapM_mem hr';refine⟨fun a ha=>?_,fun c hc=>?_⟩
  ·rcases ahG.1 ha with rfl|ha
   ·exact⟨b,aiS,hb⟩
   ·obtain⟨c,hc,he⟩:=i1 a ha;exact⟨c,aiB _ hc,he⟩
  ·rcases ahG.1 hc with rfl|hc
   ·exact⟨x,aiS,hb⟩
   ·obtain⟨a,ha,he⟩:=i2 c hc;exact⟨a,aiB _ ha,he⟩
theorem TA {H:Type}(x y:Lit×DataW H):∀l:List (Lit×DataW H),y∈DataW.insert x l↔y=x∨y∈l
|[]=>by simp[DataW.insert]
|z::r=>by
  unfold DataW.insert;split
  ·simp
  ·rw[ahG,TA x y r,ahG];constructor
   ·rintro (h|h|h)
    ·exact .inr (.inl h)
    ·exact .inl h
    ·exact .inr (.inr h)
   ·rintro (h|h|h)
    ·exact .inr (.inl h)
    ·exact .inl h
    ·exact .inr (.inr h)
theorem HY {H:Type}(y:Lit×DataW H):∀l:List (Lit×DataW H),y∈l.foldr DataW.insert []↔y∈l
|[]=>by simp
|x::r=>by rw[List.foldr_cons,TA,HY y r,ahG]
section
variable {H:Type}{enc:TypeId×Value->H}{W:World}{sp:Nat->Bool}{held:Bool}
theorem Ov (fuel:Nat)(cs:List Value)(x:DataW H×List MemPlace)(h:DataW.trod enc prog W 0 sp held fuel 363 cs=some x):∃a b:Int,cs=[.int .i64 a,.int .i64 b]∧x.1=.agg [.lit (.int .i64 a),.lit (.int .i64 b)]:=by
 obtain⟨xs,n,rfl,hdd,hl,hxl,hf⟩:=DataW.trod_struct Tryz.underlying363 h;have c2:Tryz.prog.cellsOf 363=2:=krx
 rw[c2] at hl;have hxl:xs.length=2:=hxl;obtain⟨x0,x1,rfl⟩:=Wc hxl;obtain⟨v0,v1,rfl⟩:=Wc hl;have e0:=hf 0 _ rfl;have e1:=hf 1 _ rfl;have k0:Tryz.prog.cellsOf 3=1:=krx
 simp only[k0,ajL,aoG,amE,akS,amD,aiP] at e0 e1;obtain⟨a,ha,rfl,_⟩:=DataW.trod_int aiX e0;obtain⟨b,hb,rfl,_⟩:=DataW.trod_int aiX e1
 injection ha with ha _
 injection hb with hb _
 subst ha;subst hb;exact⟨a,b,rfl,by rw[hdd];rfl⟩
end
section
variable {H:Type}{enc:TypeId×Value->H}{P:Program}{W:World}{sp:Nat->Bool}{held:Bool}
theorem Sb {t k e:TypeId}(ht:P.underlying t=some (.map k e)){L:List (Lit×DataW H)}{p:List MemPlace}(h:DataW.trod enc P W 0 sp held fuel t cs=some (.map L,p)) :
  ∃b es clock n entries,cs=[.map (some b)]∧W.heap[b]?=some (.map es clock) ∧
   (es.toList.mapM fun x=>(keyOf P k x.key).bind fun key=>if x.val.formed P e then (DataW.trod enc P W 0 sp held n e x.val.cells.toList).map fun y=>((key,y.1),y.2) else none)=some entries ∧
   (entries.map (·.1)).foldr DataW.insert []=L:=by
 cases fuel with
|zero=>simp[DataW.trod] at h
|succ n=>
  unfold DataW.trod at h;rw[ht] at h;rcases cs with _|⟨c,_|⟨d,r⟩⟩
  ·simp at h
  ·cases c with
  |map a=>
    cases a with
   |none=>simp at h
   |some b=>
     dsimp only at h;cases hb:W.heap[b]? with
    |none=>rw[hb] at h;simp at h
    |some o=>
      rw[hb] at h;cases o with
     |map es clock=>
       dsimp only at h;split at h
       ·obtain⟨entries,h1,h2⟩:=alX.1 h;refine⟨b,es,clock,n,entries,rfl,hb,h1,?_⟩
        try dsimp only at h2
        split at h2
        ·injection h2 with h2
         injection h2 with h2 _
         injection h2 with h2
        ·cases h2
       ·cases h
     |_=>simp at h
  |_=>simp at h
  ·simp at h
end
def rpD {H:Type}:List (Lit×DataW H):=[(.int .i64 16,.agg [.lit (.int .i64 3),.lit (.int .i64 2)]),(.int .i64 17,.agg [.lit (.int .i64 3),.lit (.int .i64 3)]),(.int .i64 18,.agg [.lit (.int .i64 11),.lit (.int .i64 7)])]
def repK (x:MapEntry):Int×Value:=(match x.key with|.int _ n=>n|_=>0,x.val)
theorem Ty {kl:Lit}(h:keyOf prog 3 v=some kl):∃n:Int,v=.int .i64 n∧kl=.int .i64 n:=by
 unfold keyOf at h;rw[aiX] at h;dsimp only at h;unfold mapKey at h;rw[aiX] at h;cases v with
|int q n=>
  dsimp only at h;split at h
  ·rename_i hc
   obtain⟨rfl,_⟩:=hc
   injection h with h
   exact⟨n,rfl,h.symm⟩
  ·cases h
|_=>simp at h
theorem Ub (al:List (Int×Value))(h1:∀p∈al,p∈rpM)(h2:∀p∈rpM,p∈al)(k:Int):tT al k=tT rpM k:=by
 unfold tT;cases hf:al.find? (fun p=>decide (p.1=k)) with
|none=>
  have hn:=List.find?_eq_none.1 hf;have:rpM.find? (fun p=>decide (p.1=k))=none:=List.find?_eq_none.2 fun p hp=>hn p (h2 p hp);rw[this]
|some p=>
  have hm:=h1 p (List.mem_of_find?_eq_some hf);have hk:p.1=k:=by simpa using List.find?_some hf
  simp only[rpM,ahG,ajH,or_false] at hm;rcases hm with rfl|rfl|rfl<;>(dsimp only at hk;subst hk;rfl)
theorem X5 {rest:List (String×DataW Unit)}(h:laidMet prog (("foliant/inflate.repeats",.map rpD)::rest) W):Rp (Mem.all W):=by
 obtain⟨ps,⟨g',t',cs,fuel,p,q,hg',ht',hvar,hd,_,_⟩,_⟩:=h;obtain rfl:=akJ ((show Tryz.prog.globalNamed "foliant/inflate.repeats"=some 3 by kernel_rfl).symm.trans hg')
 obtain rfl:=akJ ((show (Tryz.prog.globals[3]?).map (·.type)=some 365 by kernel_rfl).symm.trans ht');obtain⟨b,es,clock,n,entries,hcs,hb,hm,hs⟩:=Sb mpRp hd;have hcell:=World.var?_cell (show Tryz.prog.globalNamed "foliant/inflate.repeats"=some 3 by kernel_rfl) hvar 0
 have hc0:cs[0]?=some (.map (some b)):=by
  rw[<-Array.getElem?_toList,hcs];rfl
 rw[hc0] at hcell;have hgb:3 < W.heap.size:=by
  have:=hcell;unfold World.cell? at this;cases hh:W.heap[3]? with
 |none=>simp[hh] at this
 |some o=>exact dR hh
 obtain⟨m1,m2⟩:=mapM_mem hm;have hL:∀y:Lit×DataW Unit,y∈(rpD:List (Lit×DataW Unit))↔y∈entries.map (·.1):=fun y=>by rw[<-hs];exact HY y _
 -- each entry
 have ent:∀x∈es.toList,∃k a c:Int,x.key=.int .i64 k∧x.val=.agg #[.int .i64 a,.int .i64 c]∧((Lit.int .i64 k,DataW.agg [.lit (.int .i64 a),.lit (.int .i64 c)]):Lit×DataW Unit)∈rpD:=by
  intro x hx;obtain⟨en,hen,hf⟩:=m1 x hx;obtain⟨kl,hk,hf⟩:=alX.1 hf;obtain⟨k,hk1,rfl⟩:=Ty hk;split at hf
  ·rename_i hfm
   obtain⟨y,hy,rfl⟩:=ajN.1 hf;obtain⟨a,c,hcs2,hy1⟩:=Ov _ _ _ hy;refine⟨k,a,c,hk1,?_,?_⟩
   ·cases hv:x.val with
   |agg vs=>
     rw[hv] at hcs2;have:vs.toList=[.int .i64 a,.int .i64 c]:=hcs2;rw[show vs=vs.toList.toArray by simp,this]
   |_=>rw[hv] at hfm;exact absurd hfm (by unfold Value.formed;rw[Tryz.underlying363];simp)
   ·rw[hL,<-hy1];exact aiD.2 ⟨_,hen,rfl⟩
  ·cases hf
 have inR:∀{k a c:Int},((Lit.int .i64 k,DataW.agg [.lit (.int .i64 a),.lit (.int .i64 c)]):Lit×DataW Unit)∈rpD->(k,Value.agg #[.int .i64 a,.int .i64 c])∈rpM:=by
  intro k a c h;simp only[rpD,ahG,ajH,or_false,akV] at h;rcases h with ⟨h1,h2⟩|⟨h1,h2⟩|⟨h1,h2⟩<;>(injection h1 with _ h1;injection h2 with h2;simp only[amF,and_true] at h2;obtain⟨h3,h4⟩:=h2;injection h3 with h3;injection h4 with h4;injection h3 with _ h3;injection h4 with _ h4;subst h1;subst h3;subst h4;simp[rpM])
 refine⟨b,hgb,hcell,dR hb,es.toList.map repK,Ub _ ?_ ?_,es,clock,hb,?_⟩
 ·intro p hp;obtain⟨x,hx,rfl⟩:=aiD.1 hp;obtain⟨k,a,c,e1,e2,e3⟩:=ent x hx;have:repK x=(k,.agg #[.int .i64 a,.int .i64 c]):=by unfold repK;rw[e1,e2]
  rw[this];exact inR e3
 ·intro p hp;have key:∀{k a c:Int},((Lit.int .i64 k,DataW.agg [.lit (.int .i64 a),.lit (.int .i64 c)]):Lit×DataW Unit)∈rpD->(k,Value.agg #[.int .i64 a,.int .i64 c])∈es.toList.map repK:=by
   intro k a c h;obtain⟨en,hen,he⟩:=aiD.1 ((hL _).1 h);obtain⟨x,hx,hf⟩:=m2 en hen;obtain⟨k',a',c',e1,e2,_⟩:=ent x hx;obtain⟨kl,hk,hf⟩:=alX.1 hf;obtain⟨k2,hk1,rfl⟩:=Ty hk;split at hf
   ·obtain⟨y,hy,rfl⟩:=ajN.1 hf;obtain⟨a2,c2,hcs2,hy1⟩:=Ov _ _ _ hy;rw[e2] at hcs2;have hcs2:[Value.int .i64 a',Value.int .i64 c']=[.int .i64 a2,.int .i64 c2]:=hcs2;simp only[amF,and_true] at hcs2;obtain⟨q1,q2⟩:=hcs2
    injection q1 with _ q1
    injection q2 with _ q2
    rw[e1] at hk1
    injection hk1 with _ hk1
    dsimp only at he;rw[hy1] at he
    injection he with he1 he2
    injection he1 with _ he1
    injection he2 with he2
    simp only[amF,and_true] at he2;obtain⟨w1,w2⟩:=he2
    injection w1 with w1
    injection w2 with w2
    injection w1 with _ w1
    injection w2 with _ w2
    refine aiD.2 ⟨x,hx,?_⟩;unfold repK;rw[e1,e2];subst q1;subst q2;subst hk1;subst he1;subst w1;subst w2;rfl
   ·cases hf
  simp only[rpM,ahG,ajH,or_false] at hp;rcases hp with rfl|rfl|rfl
  ·exact key (by simp[rpD])
  ·exact key (by simp[rpD])
  ·exact key (by simp[rpD])
 ·rw[akZ];refine alW fun x hx=>?_;obtain⟨k,a,c,e1,e2,e3⟩:=ent x hx;show (x.key,x.val)=(intK (repK x).1,(repK x).2);unfold repK;rw[e1];rfl
end
section
open Eng Go.RowKit
def X9 (w:World)(g:Nat):World:=
 { w with heap:=(w.heap.modify g fun
  |.cells _ t frozen=>.cells #[.map (some w.heap.size)] t frozen
  |o=>o).push (.map #[⟨.int .i64 16,.agg #[.int .i64 3,.int .i64 2],0⟩,⟨.int .i64 17,.agg #[.int .i64 3,.int .i64 3],1⟩,⟨.int .i64 18,.agg #[.int .i64 11,.int .i64 7],2⟩] 3) }
end
section
open Eng Go.RowKit Go.ChangeShapes Go.WideShapes Go.ChangeAt
set_option maxRecDepth 100000
section
variable {H:Type}{enc:TypeId×Value->H}{W:World}{sp:Nat->Bool}{held:Bool}
end
theorem QY {g:Nat}(h:W.cell? ⟨g,i,none⟩=some v):g < W.heap.size:=by
 unfold World.cell? at h;cases hh:W.heap[g]? with
|none=>simp[hh] at h
|some o=>exact dR hh
theorem Yq (h:Lib.TabIs prog W "foliant/inflate.order" .i64 [16,17,18,0,8,7,9,6,10,5,11,4,12,3,13,2,14,1,15]):Od (Mem.all W):=by
 refine⟨QY (Lib.TabIs.cell (g:=2) h krx 0 dc),fun i hi=>?_⟩;have:=Lib.TabIs.cell (g:=2) h krx i hi;rw[show (Mem.all W).w=W from rfl,this];rcases lt19 hi with rfl|rfl|rfl|rfl|rfl|rfl|rfl|rfl|rfl|rfl|rfl|rfl|rfl|rfl|rfl|rfl|rfl|rfl|rfl<;>rfl
theorem Uy (h:Lib.TabIs prog W "foliant/ascii.powers" .u64 [52200625,614125,7225,85,1]):Pws (Mem.all W):=by
 refine⟨QY (Lib.TabIs.cell (g:=0) h krx 0 dc),fun i hi=>?_⟩;have:=Lib.TabIs.cell (g:=0) h krx i hi;rw[show (Mem.all W).w=W from rfl,this];rcases lt5 hi with rfl|rfl|rfl|rfl|rfl<;>rfl
end
section
open Eng
def lK(t0 t1 w)(K:KT):=nz Tryz.f76 1 [] [] [] (zg [0,1] [t0,t1]) w K
theorem rX{t0 t1 w K}(h:lK t0 t1 w K):Calls prog 76 #[t0,t1] w K:=cw Tryz.func76 h
end
section
open Eng
def mT(t0 t1 w)(K:KT):=nz Tryz.f27 1 [] [] [] (zg [0,1] [t0,t1]) w K
theorem tJ{t0 t1 w K}(h:mT t0 t1 w K):Calls prog 27 #[t0,t1] w K:=cw Tryz.func27 h
end
section
open Eng Go.RowKit
theorem adQ {s:List UInt8}{yk yc:Value}{ks:List (List UInt8)}(h1:yk.oneCell'=true)(h2:yc.oneCell'=true):DoX prog (aZ 25 #[(0,.int .i64 9),(3,.string ⟨s.toArray⟩),(4,yk),(5,yc)]) w PK K=K (obV (.mk 9 0 0 s ks os) yk yc) w:=by
 cases yk<;>first|(cases h1;done)|skip
 all_goals cases yc<;>first|(cases h2;done)|exact aE krx
theorem Kh (o:Ob)(v:Value)(data:List UInt8)(M:Mem)(w:World)(h7:o.k=7)(hc:Vl.check 1 o=0)(hd:data.length<=1048576)(hw:o.wt<=1000000000)(hM:M.has w)(hv:OV M.A M.w v o) :
  RetM prog 76 #[v,.string ⟨data.toArray⟩] M w (fun r N=>∃v',r=errV v' 0∧OV N.A N.w v' (Bd.strm o data)):=by
 obtain⟨vk,vc,cs,rfl,ha⟩:=hv.open;have hkd:Vl.keyed o=true:=by simp[Vl.keyed,h7]
 obtain⟨_,hlen⟩:=Vl.kN hc hkd;refine aT hM fun K hK=>rX ?_;unfold lK nz;refine eW o ha.keys.one ha.kids.one (OwnS.memS hM) fun b2 w1 ho=>?_;refine eX ho fun b4 w2 ho=>?_;rw[fI,ob_k ho 1 rfl];simp only[rs,h7,show decide ((7:Int)≠7)=false by decide,i_f];rw[ob_v ho 1 rfl];refine aL ho (R:=fun v=>v=.int .i64 (Vl.check 1 o)) (pR o _ w2 (OV.inw (ho.hasM 2 rfl) hv) om) ?_;rintro _ w3 rfl ho;simp only[hc,gD,show decide ((0:Int)≠0)=false by decide,i_f];rw[ob_v ho 1 rfl];refine bF ho 2 rfl (EE o _ Vl.lenK M w3 om (ho.hasM 2 rfl) hv hlen) fun y N w4 hle hy ho=>?_;have hck:=Bd.Dq (data:=data) hc h7 hd;have hwt:=Vl.fE o Vl.lenK;have hst:Bd.strm o data=.mk 9 (Vl.aJ o Vl.lenK).n (Vl.aJ o Vl.lenK).g data (Vl.aJ o Vl.lenK).keys (Vl.aJ o Vl.lenK).kids:=rfl;have hn0:(Vl.aJ o Vl.lenK).n=0∧(Vl.aJ o Vl.lenK).g=0:=by
  obtain⟨⟨_,a2,_⟩,_⟩:=Vl.jI.1 hc;unfold Vl.fL at a2;rw[h7] at a2;simp[Vl.used] at a2;exact⟨a2.1.1,a2.1.2⟩
 rw[hn0.1,hn0.2] at hst;generalize Vl.aJ o Vl.lenK=x at *;obtain⟨yk,yc,ycs,rfl,hya⟩:=hy.open;refine eX ho fun b7 w5 ho=>?_;refine bD 0 hya.keys.one hya.kids.one ho rfl fun w6 ho=>?_;rw[mJ,eR ho 0 rfl,jP,cZ ho 0 rfl,adQ (ks:=x.keys) (os:=x.kids) hya.keys.one hya.kids.one];have ho:OwnS M.A w w6 [obE b7 x yk yc,obE b4 ob0 nilS nilS,obE b2 o vk vc,.mem N]:=ho;have hsv:OV N.A N.w (obV (.mk 9 0 0 data x.keys x.kids) yk yc) (Bd.strm o data):=by
  rw[hst];exact ObAt.ov (o:=.mk 9 0 0 data x.keys x.kids) (vk:=yk) (vc:=yc) (cs:=ycs) ⟨hya.keys,hya.kids,hya.all⟩
 have hsw:(Bd.strm o data).wt<=100000000000:=by
  have e1:=Vl.nE (Bd.strm o data);have e2:=Vl.nE x;rw[hst] at e1 ⊢;simp only[Ob.s,Ob.keys,Ob.kids] at e1 e2 ⊢;omega
 refine bF ho 3 rfl (PX _ _ N w6 hsw (ho.hasM 3 rfl) hsv) ?_;rintro _ N2 w9 hle2 ⟨t,rfl,ht⟩ ho;have hrt:Vl.right (Bd.strm o data)=(Bd.strm o data,0):=by unfold Vl.right;rw[agV (by simp[hck])]
 rw[hrt] at ht;obtain⟨tk,tc,tcs,rfl,hta⟩:=ht.open;simp only[errV,ex,hrt];refine bD 1 hta.keys.one hta.kids.one ho rfl fun w10 ho=>?_;exact eJ 1 ho rfl (hK _ _ N2 _ 3 ho rfl (hle.trans hle2) ⟨_,rfl,hta.ov⟩)
theorem Pj (o:Ob)(v:Value)(data:List UInt8)(M:Mem)(w:World)(hd:data.length<=1048576)(hw:o.wt<=1000000000)(hM:M.has w)(hv:OV M.A M.w v o) :
  RetM prog 27 #[v,.string ⟨data.toArray⟩] M w (fun r N=>∃v',r=errV v' (Ff.plain o data).2∧OV N.A N.w v' (Ff.plain o data).1):=by
 obtain⟨vk,vc,cs,rfl,ha⟩:=hv.open;refine aT hM fun K hK=>tJ ?_;generalize hX:Ff.plain o data=X at hK;unfold Ff.plain at hX;unfold mT nz;refine eW o ha.keys.one ha.kids.one (OwnS.memS hM) fun b2 w1 ho=>?_;refine eX ho fun b4 w2 ho=>?_;rw[fI,ob_k ho 1 rfl];simp only[rs];have hv7:OV M.A M.w (obV (Ff.iZ o) vk vc) (Ff.iZ o):=ObAt.ov (o:=Ff.iZ o) (vk:=vk) (vc:=vc) (cs:=cs) ⟨ha.keys,ha.kids,ha.all⟩;by_cases hk:o.k≠9∧o.k≠7
 ·rw[agW hk] at hX;simp only[ahB (show o.k≠9 from hk.1),rs];rw[fI,ob_k ho 1 rfl];simp only[rs,ahB (show o.k≠7 from hk.2),i_t];rw[He];refine bD 0 rfl rfl ho rfl fun w4 ho=>?_;exact eJ 0 ho rfl (hK _ _ M _ 2 ho rfl M.le_refl ⟨obV Vl.ob0 nilS nilS,by rw[<-hX];rfl,by rw[<-hX];exact Af M⟩)
 rw[agV hk] at hX;by_cases k9:o.k=9
 case' pos=>
  simp only[ahA (show ¬o.k≠9 from fun h=>h k9),rs,g_un,i_f]
 case' neg=>
  have k7:o.k=7:=anT.1 fun h=>hk ⟨k9,h⟩;simp only[ahB (show o.k≠9 from k9),rs];rw[fI,ob_k ho 1 rfl];simp only[rs,ahA (show ¬o.k≠7 from fun h=>h k7),i_f]
 all_goals
  rw[ob_v ho 1 rfl];refine eX ho fun b6 w3 ho=>?_;refine bD 0 ha.keys.one ha.kids.one ho rfl fun w4 ho=>?_;rw[fI];refine aN 0 ho rfl krx rfl (show 0 < 6 by omega) fun w5 ho=>?_;rw[C5];refine aN 0 ho rfl krx rfl (show 0+3 < 6 by omega) fun w6 ho=>?_;have ho:OwnS M.A w w6 [obE b6 (Ff.iZ o) vk vc,obE b4 ob0 nilS nilS,obE b2 o vk vc,.mem M]:=ho;have hwt:=Ff.Jw o;have hb:Bd.strm (Ff.bare o) data=Bd.strm (Vl.aJ (Vl.aJ (Ff.iZ o) Ff.aU) Ff.dW) data:=rfl;have h7:(Ff.iZ o).k=7:=rfl;rw[hb] at hX;generalize Ff.iZ o=d at hX hwt ho hv7 h7;rw[ob_v ho 0 rfl];refine aL ho (R:=fun v=>v=.int .i64 (Vl.check 1 d)) (pR d _ w6 (OV.inw (ho.hasM 3 rfl) hv7) om) ?_;rintro _ w7 rfl ho;simp only[gD];by_cases hc:Vl.check 1 d=0
  case neg=>
   rw[agW hc] at hX;simp only[ahB (show Vl.check 1 d≠0 from hc),i_t];rw[He];refine bD 1 rfl rfl ho rfl fun w8 ho=>?_;exact eJ 1 ho rfl (hK _ _ M _ 3 ho rfl M.le_refl ⟨obV Vl.ob0 nilS nilS,by rw[<-hX];rfl,by rw[<-hX];exact Af M⟩)
  rw[agV (fun h=>h hc)] at hX;simp only[hc,show decide ((0:Int)≠0)=false from rfl,i_f];rw[ob_v ho 0 rfl];refine bF ho 3 rfl (HV d _ Ff.aU M w7 h7 hc om (ho.hasM 3 rfl) hv7) fun y1 N1 w8 l1 hy1 ho=>?_;have hc1:=Vl.eP (key:=Ff.aU) hc (by simp[Vl.keyed,h7]);have h71:(Vl.aJ d Ff.aU).k=7:=h7;have hw1:=Vl.fE d Ff.aU;generalize Vl.aJ d Ff.aU=d1 at *;refine bF ho 3 rfl (HV d1 _ Ff.dW N1 w8 h71 hc1 om (ho.hasM 3 rfl) hy1) fun y2 N2 w9 l2 hy2 ho=>?_;have hc2:=Vl.eP (key:=Ff.dW) hc1 (by simp[Vl.keyed,h71]);have h72:(Vl.aJ d1 Ff.dW).k=7:=h71;have hw2:=Vl.fE d1 Ff.dW;generalize Vl.aJ d1 Ff.dW=d2 at *;obtain⟨y2k,y2c,y2cs,rfl,hy2a⟩:=hy2.open;refine bD 0 hy2a.keys.one hy2a.kids.one ho rfl fun w10 ho=>?_;rw[ob_v ho 0 rfl];refine bF ho 3 rfl (Kh d2 _ data N2 w10 h72 hc2 hd om (ho.hasM 3 rfl) hy2) ?_;rintro _ N3 w11 l3 ⟨t,rfl,ht⟩ ho;obtain⟨tk,tc,tcs,rfl,hta⟩:=ht.open;simp only[errV,ex];refine bD 1 hta.keys.one hta.kids.one ho rfl fun w12 ho=>?_;exact eJ 1 ho rfl (hK _ _ N3 _ 3 ho rfl ((l1.trans l2).trans l3) ⟨_,by rw[<-hX];rfl,by rw[<-hX];exact hta.ov⟩)
end
end Go.Proofs.YtlipjfcbjemicaaGreatDoor




namespace Go.Proofs.YtlipjfcbjemicaaGreatDoor
variable{H:Type}{K:VWP}{PK:PKT}{W w:World}{b fuel i:Nat}{cs:List Value}{key:List UInt8}{o:Ob}{os:List Ob}{v:Value}
section
open Go
namespace Ps
open Lx (next Tok)
theorem X6 {v:Ob}:(∀k∈(Vl.put o key v).keys,k=key∨k∈o.keys)∧(∀c∈(Vl.put o key v).kids,c=v∨c∈o.kids)∧(Vl.put o key v).kids.length<=o.kids.length+1:=by
 unfold Vl.put;simp only[Ob.keys,Ob.kids];refine⟨fun k hk=>?_,fun c hc=>?_,?_⟩
 ·rcases aiC.1 hk with h|h
  ·exact .inr (ajK h)
  ·rcases ahG.1 h with h|h
   ·exact .inl h
   ·exact .inr (akQ h)
 ·rcases aiC.1 hc with h|h
  ·exact .inr (ajK h)
  ·rcases ahG.1 h with h|h
   ·exact .inl h
   ·exact .inr (akQ h)
 ·simp only[agZ,ahE,ahU,ahL];split<;>omega
end Ps
end
section
open Go Eng
namespace Vl
theorem A4 (o:Ob)(key:List UInt8):(∀k∈(aJ o key).keys,k∈o.keys)∧(aJ o key).kids.length<=o.kids.length:=⟨fun k h=>(zL key o.keys o.kids).subset h,(zI key o.keys o.kids).length_le⟩
theorem Mj (h:key ∉ o.keys):get o key=none:=by
 unfold get;split
 ·rw[agV (fun h2=>h (apD.1 h2))]
 ·rfl
theorem QF {v:Ob}(hc:check 1 o=0)(hk:keyed o=true)(hn:name key=true)(hL:o.k=9->key≠lenK)(hv:v.k≠0)(hcv:check 2 v=0)(hf:o.kids.length<=8190):check 1 (put o key v)=0:=by
 obtain⟨⟨a1,a2,a3,a4,a5,a6,a7⟩,hkids⟩:=jI.1 hc;have h79:o.k=7∨o.k=9:=by simpa[keyed] using hk
 have hr:rising o=true:=by
  unfold form at a7;simp only[ahR,alH,alU,ajI] at a7;rcases a7.2 with h|h
  ·exact absurd h79 h
  ·exact h
 obtain⟨r1,r2,r3,r4⟩:=nI.1 hr;obtain⟨p1,p2⟩:=VU (key:=key) (v:=v) r2 r1;obtain⟨m1,m2,m3⟩:=Ps.X6 (o:=o) (v:=v) (key:=key);have ek:(put o key v).k=o.k:=rfl;refine jI.2 ⟨⟨a1,?_,a3,a4,a5,om,?_⟩,fun c hcm=>?_⟩
 ·unfold fL at a2 ⊢;rw[ek];rcases h79 with e|e
  ·rw[e] at a2 ⊢;simp[used] at a2 ⊢;exact a2
  ·rw[e] at a2 ⊢;simp[used] at a2 ⊢;exact a2
 ·have hr2:rising (put o key v)=true:=nI.2 ⟨p2,p1,fun k hkk=>by
   rcases m1 k hkk with rfl|e
   ·exact⟨hn,fun h=>hL h⟩
   ·exact r3 k e,fun c hcc=>by
   rcases m2 c hcc with rfl|e
   ·exact hv
   ·exact r4 c e⟩
  unfold form;rw[ek,hr2];rcases h79 with e|e<;>rw[e]<;>rfl
 ·rcases m2 c hcm with rfl|e
  ·exact hcv
  ·exact hkids c e
end Vl
namespace Ff
theorem Ga {n:List UInt8}:full (full n)=full n:=by
 rcases nG n with e|e|e|e|e<;>rw[e]<;>decide
theorem Y1 {n:List UInt8}:Vl.name (full n)=true:=by
 rcases nG n with e|e|e|e|e<;>rw[e]<;>decide
theorem F4 (n:List UInt8)(d:Nat)(hd:d<=24):Vl.check d (dU (full n))=0:=by
 have hn:=Y1 (n:=n);refine Vl.jI.2 ⟨⟨hd,rfl,(fun e=>absurd e (show ¬((5:Int)=9) by decide)),rfl,?_,(show (0:Nat)<=8191 by decide),?_⟩,(fun c hc=>by cases hc)⟩
 ·unfold Vl.name at hn;simp only[ahR,aiI] at hn;exact hn.1
 ·show ((!(decide ((5:Int)=5))||Vl.name (full n))&&_)=true;rw[hn];rfl
theorem VB {ms:List (List UInt8)}(h:ms.length<=8):(alone ((ms.map full).map dU)).k≠0∧Vl.check 2 (alone ((ms.map full).map dU))=0:=by
 unfold alone;split
 ·rename_i h1
  rw[ahT,ahT] at h1;obtain⟨n,rfl⟩:=amP.1 h1;exact⟨by show (5:Int)≠0;decide,F4 n 2 dc⟩
 ·refine⟨by show (6:Int)≠0;decide,Vl.jI.2 ⟨⟨dc,rfl,(fun e=>absurd e (show ¬((6:Int)=9) by decide)),rfl,(show (0:Nat)<=_ from ahW _),?_,rfl⟩,(fun c hc=>?_)⟩⟩
  ·show ((ms.map full).map dU).length<=8191;rw[ahT,ahT];omega
  ·obtain⟨m,hm,rfl⟩:=aiD.1 (show c∈(ms.map full).map dU from hc);obtain⟨n,_,rfl⟩:=aiD.1 hm;exact F4 n 3 dc
theorem Ir:∀{ms:List (List UInt8)} {data D:List UInt8},(∀i E,EncR (ms.drop i) data E->E.length<=1048576)->EncR ms data D->chain ms (List.replicate ms.length cJ) D=(data,0)
|[],data,D,_,h=>by
  have:D=data:=h;subst this;rfl
|n::r,data,D,hb,⟨u,hu,h⟩=>by
  have hul:=hb 1 u hu;have:=Ue h rfl hul;show chain (n::r) (cJ::List.replicate r.length cJ) D=_;unfold chain;rw[this,agV (fun h=>h rfl)];exact Ir (fun i E hE=>hb (i+1) E hE) hu
end Ff
end
section
open Go Eng
namespace Ff
theorem VP {D:List UInt8}(h:(plain o D).2=0)(hD:D.length<=1048576):(plain o D).1.k=9∧(plain o D).1.s=D∧Vl.check 1 (plain o D).1=0∧aU ∉ (plain o D).1.keys∧dW ∉ (plain o D).1.keys∧(plain o D).1.kids.length<=o.kids.length:=by
 unfold plain at h ⊢;by_cases h1:o.k≠9∧o.k≠7
 ·rw[agW h1] at h;cases h
 rw[agV h1] at h ⊢;by_cases h2:Vl.check 1 (iZ o)≠0
 ·rw[agW h2] at h;exact absurd h h2
 rw[agV h2];have h2:=anT.1 h2;have k7:Vl.keyed (iZ o)=true:=rfl;have c1:=Vl.eP (key:=aU) h2 k7;have c2:=Vl.eP (key:=dW) c1 rfl;have s1:=Vl.A4 (iZ o) aU;have s2:=Vl.A4 (Vl.aJ (iZ o) aU) dW;have s3:=Vl.A4 (Vl.aJ (Vl.aJ (iZ o) aU) dW) Vl.lenK;have o1:aU ∉ (Vl.aJ (iZ o) aU).keys:=Vl.xA aU _ _;have o2:dW ∉ (Vl.aJ (Vl.aJ (iZ o) aU) dW).keys:=Vl.xA dW _ _;have hk:(iZ o).kids.length=o.kids.length:=rfl;refine⟨rfl,rfl,Bd.Dq c2 rfl hD,fun hm=>o1 (s2.1 _ (s3.1 _ hm)),fun hm=>o2 (s3.1 _ hm),?_⟩;show (Vl.aJ (Vl.aJ (Vl.aJ (iZ o) aU) dW) Vl.lenK).kids.length<=_;omega
theorem O3 (hk:o.k=9)(h1:aU ∉ o.keys)(h2:dW ∉ o.keys):of o=([],[],0):=by
 have g1:=Vl.Mj h1;have g2:=Vl.Mj h2;unfold of names rQ filt rS;rw[g1,g2,agV (by rw[hk];decide)];rfl
theorem Vf {ms:List (List UInt8)}(hk:o.k=9)(h8:ms.length<=8)(hne:∀m∈ms,full m≠[])(g1:Vl.get o aU=some (alone ((ms.map full).map dU)))(g2:Vl.get o dW=none):of o=(ms.map full,List.replicate ms.length cJ,0):=by
 have hf:filt o=(ms.map full).map dU:=by
  unfold filt;rw[g1];show (if (alone ((ms.map full).map dU)).k=6 then _ else _)=_;unfold alone;split
  ·rename_i h1
   rw[ahT,ahT] at h1;obtain⟨n,rfl⟩:=amP.1 h1;rfl
  ·rfl
 have hn:names o=(ms.map full,0):=by
  unfold names;rw[hf,agV,agV (by rw[ahT,ahT];omega),agV]
  ·rw[akZ]
   congr 1
   rw[akZ];refine alW fun m _=>?_;show full (full m)=full m;exact Ga
  ·intro h;obtain⟨x,hx,h⟩:=akC.1 h;obtain⟨m,hm,rfl⟩:=aiD.1 hx;obtain⟨m',hm',rfl⟩:=aiD.1 hm;have h:full (full m')=[]:=ahO h;rw[Ga] at h;exact hne m' hm' h
  ·intro h;obtain⟨x,hx,h⟩:=akC.1 h;obtain⟨m,hm,rfl⟩:=aiD.1 hx;exact ahO h rfl
 have hd:rS o=([],0):=by unfold rS;rw[g2]
 have hp:rQ o ms.length=(List.replicate ms.length cJ,0):=by
  unfold rQ;rw[hd];rfl
 unfold of;rw[agV (by rw[hk];decide),hn];simp only[ahT];rw[hp];simp only[];rw[agV dc,agV dc,agV];intro h;obtain⟨x,hx,h⟩:=akC.1 h;rw[(List.mem_replicate.1 hx).2] at h;exact absurd h dc
theorem Ro {ns:List (List UInt8)}{data D:List UInt8}(h8:ns.length<=8)(hne:∀m∈ns,full m≠[])(hb:∀i E,EncR ((ns.map full).drop i) data E->E.length<=1048576)(h:EncR (ns.map full) data D)(hp:(plain o D).2=0)(hk:o.kids.length<=8190) :
  (encP o (ns.map full) D).2=0∧decode (encP o (ns.map full) D).1=(data,0)∧∀x∈(of (encP o (ns.map full) D).1).2.1,x.p=1:=by
 have hD:D.length<=1048576:=hb 0 D h;obtain⟨p1,p2,p3,p4,p5,p6⟩:=VP hp hD;have hchain:=Ir hb h;unfold encP;rw[agV (fun h=>h hp)];by_cases h0:ns.map full=[]
 ·rw[agW h0];refine⟨hp,?_,fun x hx=>by rw[O3 p1 p4 p5] at hx;cases hx⟩;unfold decode;rw[O3 p1 p4 p5,p2,agV dc];rw[h0] at hchain;exact hchain
 rw[agV h0];have hmm:(ns.map full).map dU=((ns.map full).map full).map dU:=by
  rw[akZ,akZ,akZ];exact alW fun m _=>by show dU (full m)=dU (full (full m));rw[Ga]
 obtain⟨a1,a2⟩:=VB (ms:=ns) h8;generalize hP:(plain o D).1=P at p1 p2 p3 p4 p5 p6;have hkd:Vl.keyed P=true:=by simp[Vl.keyed,p1]
 have hck:=Vl.QF (key:=aU) (v:=alone ((ns.map full).map dU)) p3 hkd dc (fun _=>by decide) a1 a2 om;have hset:Vl.set P aU (alone ((ns.map full).map dU))=(Vl.put P aU (alone ((ns.map full).map dU)),0):=by
  unfold Vl.set Vl.right;rw[agV (by rw[hkd];decide),agV (by rw[p3];decide),agV a1,agV (by rw[hck];decide)]
 rw[hset,agV (show ¬((0:Int)≠0) by decide)];refine⟨rfl,?_⟩;have hl:=(Vl.kN p3 hkd).2;have g1:=Vl.Yv (key:=aU) (v:=alone ((ns.map full).map dU)) hkd hl;have g2:Vl.get (Vl.put P aU (alone ((ns.map full).map dU))) dW=none:=by
  rw[Vl.Qo hl dc];exact Vl.Mj p5
 have hof:=Vf (ms:=ns) (show (Vl.put P aU (alone ((ns.map full).map dU))).k=9 from p1) h8 hne g1 g2;refine⟨?_,fun x hx=>by
  have hx:x∈(of (Vl.put P aU (alone ((ns.map full).map dU)))).2.1:=hx;rw[hof] at hx;rw[(List.mem_replicate.1 hx).2];rfl⟩
 unfold decode;rw[hof,agV (show ¬((0:Int)≠0) by decide)];show chain (ns.map full) (List.replicate ns.length cJ) P.s=_;rw[p2];rw[ahT] at hchain;exact hchain
theorem one_le {n s t:List UInt8}{e:Int}(h:OneR n cJ s t e)(hs:s.length<=1048576):t.length<=5*s.length+16:=by
 unfold OneR at h;split at h
 ·rw[h.1];simp
 ·split at h
  ·rw[agW (K7 hs)] at h;have:Pr.encode cJ s=s:=by unfold Pr.encode;rw[agW (show cJ.p=1 from rfl)]
   rw[this] at h;omega
  ·rw[h.1];have:=Qt (n:=n) (s:=s);omega
theorem SC:∀{ms:List (List UInt8)} {data D:List UInt8},ms.length<=4->data.length<=200->EncR ms data D->D.length<=204*5 ^ ms.length - 4
|[],data,D,_,hd,h=>by
  have:D=data:=h;subst this;show _<=204*1 - 4;omega
|n::r,data,D,hl,hd,⟨u,hu,h⟩=>by
  rw[ahU] at hl;have ih:=SC om hd hu;have hp:5 ^ r.length<=5 ^ 3:=aiY dc om;have e3:(5:Nat) ^ 3=125:=rfl;have h1:1<=5 ^ r.length:=Nat.one_le_pow _ _ dc;have:=one_le h om;rw[ahU,ajQ];omega
end Ff
end
section
open Eng Go.RowKit
namespace Ff
def all8:List (List UInt8):=[nHx,n85,nRL,nFl,[65,72,120],[65,56,53],[82,76],[70,108]]
def nm8 (c:UInt8):List UInt8:=all8.getD (c.toNat % 8) []
theorem UM (c:UInt8):full (nm8 c)≠[]:=by
 unfold nm8;have h:c.toNat % 8 < 8:=ajW _ dc;generalize c.toNat % 8=i at h;rcases (by omega:i=0∨i=1∨i=2∨i=3∨i=4∨i=5∨i=6∨i=7) with rfl|rfl|rfl|rfl|rfl|rfl|rfl|rfl<;>decide
theorem OM (o:Ob)(D:List UInt8):(plain o D).1.wt<=o.wt+D.length:=by
 have h0:=Vl.nE o;unfold plain;split
 ·show (6:Nat)<=_;omega
 split
 ·show (6:Nat)<=_;omega
 ·have h1:=Jw o;have h2:=Vl.fE (iZ o) aU;have h3:=Vl.fE (Vl.aJ (iZ o) aU) dW;have h4:=Vl.fE (bare o) Vl.lenK;have e1:=Vl.nE (Bd.strm (bare o) D);have e2:=Vl.nE (Vl.aJ (bare o) Vl.lenK);have e:bare o=Vl.aJ (Vl.aJ (iZ o) aU) dW:=rfl;rw[<-e] at h3;have a1:(Bd.strm (bare o) D).s=D:=rfl;have a2:(Bd.strm (bare o) D).keys=(Vl.aJ (bare o) Vl.lenK).keys:=rfl;have a3:(Bd.strm (bare o) D).kids=(Vl.aJ (bare o) Vl.lenK).kids:=rfl;rw[a1,a2,a3] at e1;show (Bd.strm (bare o) D).wt<=_;omega
theorem Qv (o:Ob)(D E:List UInt8):(plain o D).2=(plain o E).2:=by
 unfold plain;split
 ·rfl
 split<;>rfl
theorem Kb:∀ms:List (List UInt8),Ob.wts ((ms.map full).map dU)<=30*ms.length
|[]=>by show (0:Nat)<=_;omega
|m::ms=>by
  have ih:=Kb ms;have h:(dU (full m)).wt<=30:=by
   rcases nG m with e|e|e|e|e<;>rw[e]<;>decide
  show (dU (full m)).wt+Ob.wts ((ms.map full).map dU)<=_;rw[ahU];omega
theorem UO (ms:List (List UInt8)):(alone ((ms.map full).map dU)).wt<=30*ms.length+6:=by
 have h:=Kb ms;unfold alone;split
 ·rename_i h1
  rw[ahT,ahT] at h1;obtain⟨n,rfl⟩:=amP.1 h1;have:Ob.wts (([n].map full).map dU)=(dU (full n)).wt+0:=rfl;show (dU (full n)).wt<=_;omega
 ·have:=Vl.nE (Ob.mk 6 0 0 [] [] ((ms.map full).map dU));have e:(Ob.mk 6 0 0 [] [] ((ms.map full).map dU)).wt=6+0+0+Ob.wts ((ms.map full).map dU):=this;omega
theorem Lr:∀l:List Ob,l.length<=Vl.oY l
|[]=>ahW _
|o::l=>by
  have:=Lr l;have h:=Vl.size_eq o;rw[Vl.oY,ahU];omega
theorem RN (o:Ob):o.kids.length<=Vl.size o:=by
 have:=Lr o.kids;rw[Vl.size_eq];omega
end Ff
theorem sz8s:(Tryz.prog.info? 54).map (·.size)=some 8:=krx
theorem afF (hi:i < 8):(mIA 54 (.pointer (some ⟨b,0,none⟩)) (.int .u8 (i:Int))).run prog w=.ok (.value (.pointer (some ⟨b,i,none⟩))) w:=by
 rcases (by omega:i=0∨i=1∨i=2∨i=3∨i=4∨i=5∨i=6∨i=7) with rfl|rfl|rfl|rfl|rfl|rfl|rfl|rfl<;>kernel_rfl
theorem Gq (o:Ob)(v vw:Value)(wl data:List UInt8)(M:Mem)(w:World)(hrp:Rp M)(hod:Od M)(hpw:Pws M)(hw:o.wt<=100000000)(hM:M.has w)(hv:OV M.A M.w v o)(hwl:SlA M.A M.w vw 1 wl.length (aH wl)) :
  RetM prog 6 #[v,vw,.string ⟨data.toArray⟩] M w (fun r _=>r=.bool true):=by
 obtain⟨vk,vc,ocs,rfl,ha⟩:=hv.open;refine aT hM fun K hK=>mG ?_;unfold gS nz;refine eW o ha.keys.one ha.kids.one (OwnS.memS hM) fun b3 w1 ho=>?_;rw[ob_v ho 0 rfl];refine bF ho 1 rfl (M3 o _ M w1 om (ho.hasM 1 rfl) hv) ?_;rintro _ N w3 l1 rfl ho;have ho:OwnS M.A w w3 [obE b3 o vk vc,.mem N]:=ho;have early:∀{W:World} {N:Mem} {L:List Ent} (j:Nat),OwnS M.A w W L->L[j]?=some (.mem N)->M.le N->CallX prog 12 #[] W (pk K) fun t25 w=>K (.returned t25) w:=by
  intro W N L j ho hj l;refine bF ho j hj (Gh N W (hrp.le l) (hod.le l) (hpw.le l) (ho.hasM j hj)) ?_;rintro _ N3 W3 l3 rfl ho;exact hK _ _ N3 _ j ho (by rw[akP (ahQ.1 hj).1]) (l.trans l3) rfl
 generalize hq:(decide (Vl.size o<=3000)&&decide (o.s.length<=600))=q;simp only[rs];cases q with
|false=>
  simp only[aiR,rs,g_un,gd,i_t];exact early 1 ho rfl l1
|true=>
 have hsz:Vl.size o<=3000:=by
  simp only[ahR,aiI] at hq;exact hq.1
 have hkid:=Ff.RN o;simp only[aiQ,rs,gd];rw[fP ahF];simp only[rs];by_cases h2:200 < data.length
 ·simp only[show decide ((200:Int) < (data.length:Int))=true from ahB om,rs,gd,g_un,i_t];exact early 1 ho rfl l1
 simp only[show decide ((200:Int) < (data.length:Int))=false from ahA om,rs,gd];rw[bB ahX ((hwl.le l1).now (ho.hasM 1 rfl))];simp only[rs];by_cases h4:4 < wl.length
 ·simp only[show decide ((4:Int) < (wl.length:Int))=true from ahB om,rs,i_t];exact early 1 ho rfl l1
 simp only[show decide ((4:Int) < (wl.length:Int))=false from ahA om,rs,i_f];rw[ob_v ho 0 rfl];have hpwt:=Ff.OM o data;refine bF ho 1 rfl (Dm o _ data N w3 om om (ho.hasM 1 rfl) (hv.le l1)) ?_;rintro _ N2 w4 l2 ⟨xv,rfl,hx⟩ ho;obtain⟨xk,xc,xcs,rfl,hxa⟩:=hx.open;simp only[errV,ex];refine eX ho fun b7 w5 ho=>?_;refine bD 0 hxa.keys.one hxa.kids.one ho rfl fun w6 ho=>?_;have ho:OwnS M.A w w6 [obE b7 (Ff.plain o data).1 xk xc,obE b3 o vk vc,.mem N2]:=ho;rw[ob_v ho 1 rfl];refine bF ho 2 rfl (Pj o _ data N2 w6 om om (ho.hasM 2 rfl) ((hv.le l1).le l2)) ?_;rintro _ N3 w7 l3 ⟨yv,rfl,hy⟩ ho;obtain⟨yk,yc,ycs,rfl,hya⟩:=hy.open;simp only[errV,ex];refine eX ho fun b9 w8 ho=>?_;refine bD 0 hya.keys.one hya.kids.one ho rfl fun w9 ho=>?_;have ho:OwnS M.A w w9 [obE b9 (Ff.plain o data).1 yk yc,obE b7 (Ff.plain o data).1 xk xc,obE b3 o vk vc,.mem N3]:=ho;rw[ob_v ho 1 rfl,ob_v ho 0 rfl];refine aL ho (R:=fun v=>v=.bool (Ob.eqb (Ff.plain o data).1 (Ff.plain o data).1)) (PC _ _ _ _ _ w9 (ahD _) om (OV.inw (ho.hasM 3 rfl) (hx.le l3)) (OV.inw (ho.hasM 3 rfl) hy)) ?_;rintro _ w10 rfl ho;rw[(Ob.RP _ _).2 rfl];have l13:=(l1.trans l2).trans l3;simp only[rs,aiQ,gd,ne_eq,not_true,agX,i_f];by_cases hz:(Ff.plain o data).2=0
 rotate_left
 ·simp only[hz,not_false_iff,agY,i_t];exact early 3 ho rfl l13
 simp only[hz,not_true,agX,i_f];have hk:o.k=9∨o.k=7:=by
  unfold Ff.plain at hz;by_cases h:o.k≠9∧o.k≠7
  ·rw[agW h] at hz;exact absurd hz dc
  ·omega
 refine aE (show (aZ 54 _).run prog w10=.ok (.value (.agg (bG Ff.all8).toArray)) w10 by kernel_rfl) |>.mpr ?_;refine bC (fun b=>.pointer (some ⟨b,0,none⟩)) (List.replicate 8 (.string ⟨#[]⟩)) 54 (fun _=>by kernel_rfl) ho fun b11 w11 ho=>?_;refine iE 0 ho rfl (new:=bG Ff.all8) sz8s (fun u hu=>by obtain⟨x,_,rfl⟩:=aiD.1 hu;rfl) rfl fun w12 ho=>?_;have ho:OwnS M.A w w12 [.cells b11 (bG Ff.all8) 54,obE b9 (Ff.plain o data).1 yk yc,obE b7 (Ff.plain o data).1 xk xc,obE b3 o vk vc,.mem N3]:=ho;have ho:=OwnS.nilU ho 9 1;refine loop (fun vs W=>∃(i:Nat) (ov:Value),vs=[ov,.int .i64 (i:Int)]∧i<=wl.length∧OwnS M.A w W [stsE ov ((wl.take i).map Ff.nm8),.cells b11 (bG Ff.all8) 54,obE b9 (Ff.plain o data).1 yk yc,obE b7 (Ff.plain o data).1 xk xc,obE b3 o vk vc,.mem N3]) (fun vs _=>wl.length - n1 vs) ⟨0,nilS,rfl,om,ho⟩ ?_;clear ho;rintro vs w13 ⟨i,ov,rfl,hi,ho⟩ _;simp only[gA,gd,rs,nz];have hwl':=(hwl.le l13).now (ho.hasM 5 rfl);rw[bB ahX hwl'];simp only[rs];by_cases hlt:(i:Int) < (wl.length:Int)
 ·simp only[hlt,agY,i_t];have hi':i < wl.length:=om
  obtain⟨p,hia,hld⟩:=u8Sl hwl' hi';rw[aE hia,aE hld,Jo dc,show ((wl[i].toNat:Nat):Int).tmod 8=((wl[i].toNat % 8:Nat):Int) from rfl];have h8:wl[i].toNat % 8 < 8:=ajW _ dc;rw[aE (afF h8),aO HI (ho.cell 1 rfl _ (eM (ps:=Ff.all8) (i:=wl[i].toNat % 8) h8))];refine Nu (Ff.all8[wl[i].toNat % 8]'h8) ho (by rw[ahT,ahE];omega) fun ov' W2 ho=>?_
  try simp only[rs]
  rw[aA om om];refine aY ⟨i+1,ov',rfl,om,?_⟩ (by simp[n1,RowKit.intOf];omega);rw[aiG hi',aiN];have e:Ff.nm8 wl[i]=Ff.all8[wl[i].toNat % 8]'h8:=by
   unfold Ff.nm8;rw[ahC,ahH h8];rfl
  rw[show [wl[i]].map Ff.nm8=[Ff.all8[wl[i].toNat % 8]'h8] by rw[<-e];rfl];exact ho
 simp only[hlt,agX,i_f];have:i=wl.length:=om
 subst this;rw[ajG] at ho;clear hwl';obtain⟨N4,l4,hs4,ho⟩:=ho.cG 4 rfl;have ho:OwnS M.A w w13 [.cells b11 (bG Ff.all8) 54,obE b9 (Ff.plain o data).1 yk yc,obE b7 (Ff.plain o data).1 xk xc,obE b3 o vk vc,.mem N4]:=ho;have l14:=l13.trans l4;rw[ob_v ho 3 rfl];generalize hns:wl.map Ff.nm8=ns at hs4;have hl4:ns.length<=4:=by rw[<-hns,ahT];omega
 have hfull:∀n∈ns,Ff.full n≠[]:=fun n hn=>by
  rw[<-hns] at hn;obtain⟨c,_,rfl⟩:=aiD.1 hn;exact Ff.UM c
 have hb:∀(i:Nat) (D:List UInt8),Ff.EncR ((ns.map Ff.full).drop i) data D->D.length<=1000000:=fun i D h=>by
  have hl:((ns.map Ff.full).drop i).length<=4:=by rw[ahL,ahT];omega
  have:=Ff.SC hl om h;have h5:=aiY (show 0 < 5 by decide) hl;omega
 have haw:=Ff.UO ns;have hnw:=Ff.Kb ns;have hPw:∀D,Ff.EncR (ns.map Ff.full) data D->(Ff.plain o D).1.wt<=101000000:=fun D h=>by
  have:=Ff.OM o D;have:=hb 0 D h;omega
 refine bF ho 4 rfl (Eg o _ ns ov data N4 w13 (hpw.le l14) hk om hfull hb hw (fun D h=>by have:=hPw D h;omega) om om (ho.hasM 4 rfl) (hv.le l14) hs4) ?_;rintro _ N5 w14 l5 ⟨D,zv,hD,rfl,hzo⟩ ho;obtain⟨zk,zc,zcs,rfl,hza⟩:=hzo.open;obtain⟨c1,c2,c3⟩:=Ff.Ro (o:=o) (ns:=ns) om hfull (fun i E h=>by have:=hb i E h;omega) hD ((Ff.Qv o D data).trans hz) om;simp only[errV,ex];have l15:=l14.trans l5;refine eX ho fun b14 w15 ho=>?_;refine bD 0 hza.keys.one hza.kids.one ho rfl fun w16 ho=>?_;have ho:OwnS M.A w w16 [obE b14 (Ff.encP o (ns.map Ff.full) D).1 zk zc,.cells b11 (bG Ff.all8) 54,obE b9 (Ff.plain o data).1 yk yc,obE b7 (Ff.plain o data).1 xk xc,obE b3 o vk vc,.mem N5]:=ho;rw[ob_v ho 0 rfl];have hE:(Ff.encP o (ns.map Ff.full) D).1.wt<=1000000000:=by
  have h1:=hPw D hD;have h2:=Vl.Z3 (Ff.plain o D).1 Ff.aU (Ff.alone ((ns.map Ff.full).map Ff.dU));have h3:Ff.aU.length=6:=rfl;unfold Ff.encP;split
  ·omega
  split
  ·omega
  split
  ·show (6:Nat)<=_;omega
  ·show (Vl.set _ _ _).1.wt<=_;omega
 refine bF ho 5 rfl (IG _ (fun x h=>pdR1 (c3 x h)) _ N5 w16 (hrp.le l15) (hod.le l15) (hpw.le l15) hE (ho.hasM 5 rfl) hzo) ?_;rintro _ N6 w17 l6 rfl ho;rw[c2,c1];simp only[zlT,ex];simp only[rs,agY,gd];refine bF ho 5 rfl (Gh N6 w17 (hrp.le (l15.trans l6)) (hod.le (l15.trans l6)) (hpw.le (l15.trans l6)) (ho.hasM 5 rfl)) ?_;rintro _ N7 w18 l7 rfl ho
 try simp only[rs]
 exact hK _ _ N7 _ 5 ho rfl ((l15.trans l6).trans l7) rfl
end
section
open Eng Go.RowKit Go.ChangeShapes Go.WideShapes Go.ChangeAt
set_option maxRecDepth 100000
theorem afI {a b c:DataW H}(h:Rows.uptoSmall H [a,b,c]=true):Rows.uptoBulk a<=1048576:=by
 have h:Rows.uptoBulkAll [a,b,c]<=1048576:=ahO h;simp only[Rows.uptoBulkAll] at h;omega
section
variable {H:Type}{enc:TypeId×Value->H}{W:World}{sp:Nat->Bool}{held:Bool}
theorem XI (fuel:Nat)(cs:List Value)(x:DataW H×List MemPlace)(h:DataW.trod enc prog W 0 sp held fuel 5 cs=some x):∃c:UInt8,cs=[.int .u8 (c.toNat:Int)]∧cs.length=1∧0<=Rows.uptoBulk x.1:=by
 obtain⟨n,rfl,_,hw⟩:=DataW.trod_int aiL h;have hb:=J6 hw;refine⟨UInt8.ofNat n.toNat,?_,rfl,ahW _⟩;have:(UInt8.ofNat n.toNat).toNat=n.toNat:=by
  rw[akW];omega
 rw[this,Int.toNat_of_nonneg om]
theorem Xf {b0:Nat}{d:DataW H}{ps:List MemPlace}(hval:Value.okWide prog W .any b0 53 v)(hd:DataW.Trod enc prog W 0 sp held 53 v d ps) :
  ∃l:List UInt8,SlA (InW W) W v 1 l.length (aH l):=by
 obtain⟨a,len,cap,rfl⟩:=okWide_slice ahX hval;obtain⟨fuel,hf⟩:=hd;obtain⟨v',ds,xs,h1,h2,h3,h4,h5⟩:=Jt (R:=fun cs (c:UInt8)=>cs=[.int .u8 (c.toNat:Int)]) (wt:=fun _:UInt8=>0) (n:=1) ahX krx dc XI hf;have e:v'=.slice a len cap:=by
  have h1:[Value.slice a len cap]=[v']:=h1
  injection h1 with h1 _
  exact h1.symm
 subst e;have hfl:ds=aH xs:=by
  rw[Rws.flat h3];clear h3 h2 h4 h5
  induction xs with
 |nil=>rfl
 |cons s xs ih=>rw[aiT,ih];rfl
 subst hfl;exact⟨xs,h2⟩
end
theorem filterMakes_row (o:Ob)(v vw:Value)(wl data:List UInt8)(w:World)(hrp:Rp (Mem.all w))(hod:Od (Mem.all w))(hpw:Pws (Mem.all w))(hv:OV (InW w) w v o)(hw:o.wt<=1048576)(hwl:SlA (InW w) w vw 1 wl.length (aH wl)) :
  Ret prog 6 #[v,vw,.string ⟨data.toArray⟩] w (fun v w'=>v=.bool true∧Below w.heap.size w w'):=
 RetM.told (Gq o v vw wl data (Mem.all w) w hrp hod hpw om (Mem.Y6 w) hv hwl)
end
end Go.Proofs.YtlipjfcbjemicaaGreatDoor
