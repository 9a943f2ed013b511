/- Texts that go together: DfM DfN DfO DfP DfQ SStrC SZlibW DfR PrC PrD PrF FeF FeG FeH Plain08S SStrm SDrop5 StrmA FeI FeJ PrE FeP Plain16M FeQ SChunk FeR FeS FeT FeK SLaw16 FeL FeM. -/
import Derived.Test.YtlipjfcbjemicaaGreatDoorRows
import Derived.Test.YtlipjfcbjemicaaGreatDoorMmogppjjb
import Derived.Test.YtlipjfcbjemicaaGreatDoorMmobppmkb
import Derived.Test.YtlipjfcbjemicaaGreatDoorMmflabinf
import Derived.Test.YtlipjfcbjemicaaGreatDoorMnegemnlf
import Derived.Test.YtlipjfcbjemicaaGreatDoorMnnoonhij
import Derived.Test.YtlipjfcbjemicaaGreatDoorMckkjeape
import Derived.Test.YtlipjfcbjemicaaGreatDoorMkampjacl
set_option linter.defProp false
set_option linter.unusedSimpArgs false
set_option linter.unusedVariables false
set_option maxRecDepth 20000
open Go.Proofs.Tryz (prog)
namespace Go.Proofs.YtlipjfcbjemicaaGreatDoor
variable{D T1 T2 U:TypeId}{K:VWP}{M N:Eng.Mem}{P:Program}{PK:PKT}{S:Nat->Prop}{W w w0:World}{a:Int}{b cap d f h i j mo sz tb:Nat}{cb:Array Bool}{cl l:List Nat}{cs cur:List Value}{k':IntKind}{o:Ob}{os:List Ob}{v:Value}{x:Pm}{xo yo:Operand}
section
open Eng Go.RowKit
theorem Df.RJ:∀{l:List Df.Mk} {acc:List Nat},Df.CH acc l->∀m∈l,m.1<=18∧m.2.1 < 2 ^ m.2.2∧m.2.2<=7
|m::l,acc,h,x,hx=>by
  rcases ahG.1 hx with rfl|hx
  ·have h1:=h.1;unfold Df.mkOk at h1;by_cases h0:x.1 < 16
   ·rw[agW h0] at h1;rw[h1.1,h1.2];exact⟨om,dc,dc⟩
   ·rw[agV h0] at h1;refine⟨h1.1,h1.2.2.1,?_⟩;rw[h1.2.1];unfold Fl.repB;split
    ·decide
    ·split<;>decide
  ·exact Df.RJ h.2 x hx
theorem Df.Kf {cl:List Nat}(h15:∀x∈cl,x<=15):∀{l:List Df.Mk},(∀m∈l,m.2.2<=7)->(Df.tV cl l).length<=22*l.length
|[],_=>ahD _
|m::l,h=>by
  have h1:=h m (aiS ..);have h2:=Df.Kf h15 (l:=l) fun y hy=>h y (aiB _ hy);have h3:cl.getD m.1 0<=15:=Df.fZ h15 dc _;unfold Df.tV at h2 ⊢;rw[aiT,agZ,ahU];have e:(Df.mbit cl m).length=cl.getD m.1 0+m.2.2:=by
   unfold Df.mbit;rw[agZ,Fl.bX,Bw.bE]
  omega
theorem Df.Qe (cl:List Nat)(l:List Df.Mk)(m:Df.Mk):Df.tV cl (l++[m])=Df.tV cl l++Fl.iK cl m.1++Bw.low m.2.1 m.2.2:=by
 unfold Df.tV;rw[amC,amN,ahK];rfl
def Df.inl (cl:List Nat)(k:Nat):List Nat:=(List.range k).map fun i=>cl.getD (Fl.ord.getD i 0) 0
theorem Df.M4 (cl:List Nat)(k:Nat):(Df.inl cl k).length=k:=by simp[Df.inl]
theorem Df.Tq {k:Nat}(h:i < k):(Df.inl cl k).getD i 0=cl.getD (Fl.ord.getD i 0) 0:=by
 rw[ahC];simp[Df.inl,h]
theorem Df.Uc (cl:List Nat)(k:Nat):Df.inl cl (k+1)=Df.inl cl k++[cl.getD (Fl.ord.getD k 0) 0]:=by
 unfold Df.inl;rw[alY,aiN];rfl
abbrev mkE (b:Nat)(m:Df.Mk):Ent:=.cells b (mkC m) 307
theorem mkAt {l:List Df.Mk}(hs:SlA M.A M.w v 3 l.length (l.flatMap mkC))(hi:i < l.length) :
  ∃p,(∀W,(mIA 304 v (.int .i64 (i:Int))).run prog W=.ok (.value (.pointer (some p))) W)∧∀W,M.has W->(aI 307 (.pointer (some p))).run prog W=.ok (.value (mkV l[i])) W:=by
 obtain⟨b,off,cap,rfl,_⟩:=cB hs.1 om;refine⟨⟨b,off+i*3,none⟩,fun W=>?_,fun W hW=>?_⟩
 ·have:=eE (P:=prog) (T:=304) (b:=b) (off:=off) (cap:=cap) (n:=l.length) (k:=.i64) (i:=(i:Int)) (w:=W) aoS szMk om om;rw[ahI] at this;exact this
 ·obtain⟨b',off',cap',he,hc⟩:=cB (hs.now hW) om;cases he;refine bI (AtV.agg adM (cs:=mkC l[i]) rfl fun j u hj=>?_);rw[akL];exact hc _ _ (Eng.zK Tj hi hj)
section
variable {w:World}{PK:PKT}{K:VWP}{S:Nat->Prop}{w0:World}{L T:List Ent}
theorem acH (ho:OwnS S w0 w L)(k:∀b w',OwnS S w0 w' (mkE b (0,0,0)::L)->K (.pointer (some ⟨b,0,none⟩)) w'):DoX prog (Da 307) w PK K:=
 bC (fun b=>.pointer (some ⟨b,0,none⟩)) (mkC (0,0,0)) 307 (fun _=>by kernel_rfl) ho k
theorem WH (j:Nat){x y:Df.Mk}(ho:OwnS S w0 w L)(hi:L[j]?=some (mkE b x))(k:∀w',OwnS S w0 w' (L.set j (mkE b y))->K undef w') :
  DoX prog (aS 307 (.pointer (some ⟨b,0,none⟩)) (mkV y)) w PK K:=D1 j ho hi (new:=mkC y) szMk SN (by show 0+3<=3;omega) k
theorem mk_0 (ho:OwnS S w0 w L)(j:Nat){x:Df.Mk}(hi:L[j]?=some (mkE b x)):DoX prog (aI 3 (.pointer (some ⟨b,0+0,none⟩))) w PK K=K (.int .i64 (x.1:Int)) w:=aO cI (ho.cell j hi 0 rfl)
theorem mk_1 (ho:OwnS S w0 w L)(j:Nat){x:Df.Mk}(hi:L[j]?=some (mkE b x)):DoX prog (aI 3 (.pointer (some ⟨b,0+1,none⟩))) w PK K=K (.int .i64 (x.2.1:Int)) w:=aO cI (ho.cell j hi 1 rfl)
theorem mk_2 (ho:OwnS S w0 w L)(j:Nat){x:Df.Mk}(hi:L[j]?=some (mkE b x)):DoX prog (aI 3 (.pointer (some ⟨b,0+2,none⟩))) w PK K=K (.int .i64 (x.2.2:Int)) w:=aO cI (ho.cell j hi 2 rfl)
end
theorem Df.MF (counts:List Nat):(Df.used counts).length<=counts.length:=by
 unfold Df.used;have:=aoM (fun s=>decide (0 < counts.getD s 0)) (List.range counts.length)
 rwa [aoN] at this
theorem acJ {K:Ending->World->Prop}{pv sa sb mv iv:Value}{pb ta tt:Nat}{ps:List Df.Pt}{la lb a b lc:List Nat}{ms:List Df.Mk}{ka kb nin:Nat}
  (ho:OwnS S w0 W [.cells pb (prC ta tb) 296,.mem N]) (hta:TbW N.A N.w ta la) (htb:TbW N.A N.w tb lb) (htt:TbW N.A N.w tt lc) (hla:la=a++List.replicate ka 0) (hlb:lb=b++List.replicate kb 0)
  (hca:Fl.chk la=0) (hcb:Fl.chk lb=0) (hcc:Fl.chk lc=0) (ha15:∀x∈la,x<=15) (hb15:∀x∈lb,x<=15) (hc7:∀x∈lc,x<=7) (hlc:lc.length=19)
  (han:257<=a.length) (han2:a.length<=286) (hbn:1<=b.length) (hbn2:b.length<=30) (hk:4<=nin) (hk2:nin<=19) (h0:∀i,nin<=i->i < 19->lc.getD (Fl.ord.getD i 0) 0=0)
  (hsa:SlA N.A N.w sa 1 a.length (aR a)) (hsb:SlA N.A N.w sb 1 b.length (aR b)) (hsi:SlA N.A N.w iv 1 (Df.inl lc nin).length (aR (Df.inl lc nin))) (hsm:SlA N.A N.w mv 3 ms.length (ms.flatMap mkC)) (hps:SlA N.A N.w pv 3 ps.length (ps.flatMap ptC))
  (hms:∀m∈ms,0 < lc.getD m.1 0) (hmo:Df.CH [] ms) (hme:Df.mks [] ms=a++b) (h256:0 < la.getD 256 0) (hh:∀x∈ps,Df.has la lb x) (hpo:Df.zZ 0 ps) (hpl:ps.length<=1048576)
  (k:∀W,OwnS S w0 W [.cells pb (prC ta tb) 296,.mem N]->K (.returned (.string ⟨(Bw.bytes (Df.own a b lc nin ms ps)).toArray⟩)) W) :
  CallX prog 287 #[] W (pk K) fun t102 W=>
 CallX prog 288 #[t102,(.int .i64 1),(.int .i64 1)] W (pk K) fun t104 W=>
 CallX prog 288 #[t102,(.int .i64 2),(.int .i64 2)] W (pk K) fun t106 W=>
 DoX prog (mB .len #[123] 3 #[false] #[sa]) W (pk K) fun t109 W=>
 DoX prog (mBin .sub 3 t109 (.int .i64 257)) W (pk K) fun t110 W=>
 CallX prog 288 #[t102,t110,(.int .i64 5)] W (pk K) fun t111 W=>
 DoX prog (mB .len #[123] 3 #[false] #[sb]) W (pk K) fun t114 W=>
 DoX prog (mBin .sub 3 t114 (.int .i64 1)) W (pk K) fun t115 W=>
 CallX prog 288 #[t102,t115,(.int .i64 5)] W (pk K) fun t116 W=>
 DoX prog (mB .len #[123] 3 #[false] #[iv]) W (pk K) fun t119 W=>
 DoX prog (mBin .sub 3 t119 (.int .i64 4)) W (pk K) fun t120 W=>
 CallX prog 288 #[t102,t120,(.int .i64 4)] W (pk K) fun t121 W=>
 DoX prog (mB .len #[123] 3 #[false] #[iv]) W (pk K) fun t123 W=>
 LoopX [(.int .i64 0)] W (fun vs3 W N3=>∀_:Sg,nZ pv (.pointer (some ⟨pb,0,none⟩)) mv (.pointer (some ⟨tt,0,none⟩)) t102 iv t123 (vs3.getD 0 undef) W N3 K):=by
 have hil:=Df.M4 lc nin;have hc15:∀x∈lc,x<=15:=fun x hx=>ajZ (hc7 x hx) dc;have hmm:=Df.RJ hmo;have hml:=Df.IP ms [];rw[hme,agZ] at hml;simp only[akK,ahJ] at hml;refine Rv ho fun wb w7 ho=>?_;refine mM (x:=1) (n:=1) ho (fun b hb=>by cases hb) (.inl rfl) om dc sm fun way1 v1 w8 hw1 ho=>?_;rw[aiM] at ho;have ok1:=Bw.eK 1 1;refine mM (x:=2) (n:=2) ho ok1 hw1 om dc (by rw[Bw.bE];decide) fun way2 v2 w9 hw2 ho=>?_;have ok2:=Bw.cH ok1 (Bw.eK 2 2);rw[bB ahS (hsa.now (ho.hasM 3 rfl))];simp only[rs];rw[aA om om,show (a.length:Int) - 257=((a.length - 257:Nat):Int) by omega];refine mM (n:=5) ho ok2 hw2 om om (by simp[Bw.bE]) fun way3 v3 w10 hw3 ho=>?_;have ok3:=Bw.cH ok2 (Bw.eK (a.length - 257) 5);rw[bB ahS (hsb.now (ho.hasM 3 rfl))]
 try simp only[rs]
 rw[aA om om,show (b.length:Int) - 1=((b.length - 1:Nat):Int) by omega];refine mM (n:=5) ho ok3 hw3 om om (by simp[Bw.bE]) fun way4 v4 w11 hw4 ho=>?_;have ok4:=Bw.cH ok3 (Bw.eK (b.length - 1) 5);rw[bB ahS (hsi.now (ho.hasM 3 rfl)),hil]
 try simp only[rs]
 rw[aA om om,show (nin:Int) - 4=((nin - 4:Nat):Int) by omega];refine mM (n:=4) ho ok4 hw4 om om (by simp[Bw.bE]) fun way5 v5 w12 hw5 ho=>?_;have ok5:=Bw.cH ok4 (Bw.eK (nin - 4) 4);rw[bB ahS (hsi.now (ho.hasM 3 rfl)),hil];have hBl:(Bw.low 1 1++Bw.low 2 2++Bw.low (a.length - 257) 5++Bw.low (b.length - 1) 5++Bw.low (nin - 4) 4).length=17:=by simp[Bw.bE]
 have hB:Bw.low 1 1++Bw.low 2 2++Bw.low (a.length - 257) 5++Bw.low (b.length - 1) 5++Bw.low (nin - 4) 4++Df.inb lc nin++Df.tV lc ms++Df.pall la lb ps=Df.own a b lc nin ms ps:=by
  rw[hla,hlb,Df.Vs];unfold Df.own;simp only[ahK]
 generalize Bw.low 1 1++Bw.low 2 2++Bw.low (a.length - 257) 5++Bw.low (b.length - 1) 5++Bw.low (nin - 4) 4=B at ho hBl hB ok5;refine loop (fun vs W=>∃(i:Nat) (way:Int) (v:Value),vs=[.int .i64 (i:Int)]∧i<=nin∧(way=0∨way=1)∧OwnS S w0 W (Wr wb way (B++Df.inb lc i) v [.cells pb (prC ta tb) 296,.mem N])) (fun vs _=>nin - n0 vs) ⟨0,way5,v5,rfl,om,hw5,by show OwnS S w0 w12 (Wr wb way5 (B++[]) v5 _);rw[ahV];exact ho⟩ ?_;clear ho hw5;rintro vs w13 ⟨i,way,v,rfl,hi,hw,ho⟩ _;simp only[nZ,gd,rs,nz];have hinl:=Df.Dv lc i;by_cases hlt:(i:Int) < (nin:Int)
 ·simp only[hlt,agY,i_t];obtain⟨p,ia,ld⟩:=Q9 hsi (i:=i) om;refine aE (ia w13) |>.mpr (aE (ld w13 (ho.hasM 3 rfl)) |>.mpr ?_);have hge:(Df.inl lc nin)[i]'(om)=lc.getD (Fl.ord.getD i 0) 0:=by
   have:=Df.Tq (cl:=lc) (k:=nin) (i:=i) om;rw[ahC,ahH om] at this;exact this
  rw[hge];have hle:lc.getD (Fl.ord.getD i 0) 0<=7:=Df.fZ hc7 dc _;refine mM (n:=3) ho (Bw.cH ok5 (Df.Sx _ _)) hw om om (by rw[agZ];omega) fun way6 v6 w14 hw6 ho=>?_;rw[ahK,<-Df.JF] at ho
  try simp only[rs]
  rw[aA om om];exact aY ⟨i+1,way6,v6,rfl,om,hw6,ho⟩ (by simp[n0,RowKit.intOf];omega)
 simp only[hlt,agX,i_f];have hie:i=nin:=om
 subst hie;rw[bB aoS (hsm.now (ho.hasM 3 rfl))];have ok6:=Bw.cH ok5 (Df.Sx lc i);have hB6:(B++Df.inb lc i).length<=100:=by rw[agZ];omega
 generalize B++Df.inb lc i=B6 at ho ok6 hB6 hB;refine loop (fun vs W=>∃(j:Nat) (way:Int) (v:Value),vs=[.int .i64 (j:Int)]∧j<=ms.length∧(way=0∨way=1)∧OwnS S w0 W (Wr wb way (B6++Df.tV lc (ms.take j)) v [.cells pb (prC ta tb) 296,.mem N])) (fun vs _=>ms.length - n0 vs) ⟨0,way,v,rfl,om,hw,by show OwnS S w0 w13 (Wr wb way (B6++[]) v _);rw[ahV];exact ho⟩ ?_;clear ho hw;rintro vs w15 ⟨j,way,v,rfl,hj,hw,ho⟩ _;simp only[yD,gd,rs,nz];have hmbl:=Df.Kf hc15 (l:=ms.take j) fun m hm=>(hmm m (ajK hm)).2.2;rw[ahE,aiH hj] at hmbl;have ok7:=Bw.cH ok6 (Df.Ns lc (ms.take j));by_cases hlt2:(j:Int) < (ms.length:Int)
 ·simp only[hlt2,agY,i_t];have hj':j < ms.length:=om
  obtain⟨p,ia,ld⟩:=mkAt hsm hj';refine aE (ia w15) |>.mpr (aE (ld w15 (ho.hasM 3 rfl)) |>.mpr ?_);have hmx:=hmm _ (ahP hj');have hmp:=hms _ (ahP hj');have htk:ms.take (j+1)=ms.take j++[ms[j]]:=aiG hj';generalize ms[j]=m at hmx hmp htk;refine acH ho fun xb w16 ho=>?_;refine WH (y:=m) 0 ho rfl fun w17 ho=>?_;have ho:OwnS S w0 w17 ([mkE xb m]++(Wr wb way (B6++Df.tV lc (ms.take j)) v []++[.cells pb (prC ta tb) 296,.mem N])):=ho;have ho:OwnS S w0 w17 (Wr wb way (B6++Df.tV lc (ms.take j)) v (mkE xb m::[.cells pb (prC ta tb) 296,.mem N])):=ho.front;rw[aK WM,mk_0 ho 2 rfl];refine Cp (jm:=2) (i:=m.1) ho rfl htt hcc hc15 hmp ok7 hw (by rw[agZ];omega) fun way8 v8 w18 hw8 ho=>?_;have h15:lc.getD m.1 0<=15:=Df.fZ hc15 dc _;rw[aK aaM,mk_1 ho 2 rfl,aK aaB,mk_2 ho 2 rfl];refine mM ho (Bw.cH ok7 (Fl.nD _ _)) hw8 om hmx.2.1 (by simp only[agZ,Fl.bX];omega) fun way9 v9 w19 hw9 ho=>?_
  try simp only[rs]
  rw[aA om om];refine aY ⟨j+1,way9,v9,rfl,om,hw9,?_⟩ (by simp[n0,RowKit.intOf];omega);rw[htk,Df.Qe,<-ahK,<-ahK];have ho:OwnS S w0 w19 ((Wr wb way9 (B6++Df.tV lc (ms.take j)++Fl.iK lc m.1++Bw.low m.2.1 m.2.2) v9 [])++([mkE xb m]++[.cells pb (prC ta tb) 296,.mem N])):=ho;exact ho.front.tail
 simp only[hlt2,agX,i_f];have hje:j=ms.length:=om
 subst hje;rw[ajG] at ho ok7 hmbl;refine aE (bI (AtV.agg abS (cs:=prC ta tb) rfl fun j u hj=>by rw[ahJ];exact ho.cell 2 rfl j hj)) |>.mpr ?_;refine NI (jm:=1) ho rfl hta htb hca hcb ha15 hb15 h256 hps hh hpo hpl ok7 hw (by rw[agZ];omega) fun way3 v3 w20 hw3 ho=>?_;rw[hB] at ho;have hpfl:=Df.CW ha15 hb15 (l:=ps) fun x hx=>Df.A6 hpo x hx;have h15:la.getD 256 0<=15:=Df.fZ ha15 dc _;have hRl:(Df.own a b lc i ms ps).length=B6.length+(Df.tV lc ms).length+((ps.flatMap (Df.mK la lb)).length+la.getD 256 0):=by
  rw[<-hB,agZ,agZ];unfold Df.pall;rw[agZ,Fl.bX]
 refine MQ ho om om fun W ho=>?_;exact k W ho
theorem UY (ps:List Df.Pt)(pv:Value)(M:Mem)(w:World)(hM:M.has w)(hps:SlA M.A M.w pv 3 ps.length (ps.flatMap ptC))(hpo:Df.zZ 0 ps)(hpl:ps.length<=1048576) :
  RetM prog 268 #[pv] M w (fun v _=>∃R,v=.string ⟨(Bw.bytes R).toArray⟩∧Bw.ok R∧Df.good R (Df.exp [] ps)):=by
 refine aT hM fun K hK=>Fa ?_;unfold BG nz;have ho:OwnS M.A w w [.mem M]:=OwnS.memS hM;refine bF ho 0 rfl (Ll ps pv M w hM hps hpo hpl) ?_;rintro _ N1 w1 g1 ⟨va,vb,ca,cb,rfl,hsa,hsb,hca,hcb,h256,hhas,hcab,hcbb⟩ ho;simp only[ex];refine bF ho 0 rfl (yG ca 15 va N1 w1 (ho.hasM 0 rfl) hsa om om hcab om om (by have:=Df.MF ca;have e:(2:Nat) ^ 15=32768:=rfl;omega)) ?_;rintro _ N2 w2 g2 ⟨la,lav,rfl,hla,hla1,hlas⟩ ho;simp only[ex];refine bF ho 0 rfl (yG cb 15 vb N2 w2 (ho.hasM 0 rfl) (hsb.le g2) om om hcbb om om (by have:=Df.MF cb;have e:(2:Nat) ^ 15=32768:=rfl;omega)) ?_;rintro _ N3 w3 g3 ⟨lb,lbv,rfl,hlb,hlb1,hlbs⟩ ho;simp only[ex];have hlal:la.length=286:=by rw[hla.len,hca]
 have hlbl:lb.length=30:=by rw[hlb.len,hcb]
 refine bC (fun b=>.pointer (some ⟨b,0,none⟩)) [.pointer none,.pointer none] 296 (fun _=>by kernel_rfl) ho fun pb w4 ho=>?_;refine bF ho 1 rfl (wE la lav N3 w4 hla.le om om (ho.hasM 1 rfl) (hlas.le g3)) ?_;rintro _ N4 w5 g4 h4 ho;rw[agV (by rw[hla.chk];exact fun h=>h rfl)] at h4;obtain⟨ta,rfl,hta⟩:=h4;simp only[ex];rw[aK KA];refine aN 0 ho rfl krx rfl (by show 0+0 < 2;omega) fun w6 ho=>?_;refine bF ho 1 rfl (wE lb lbv N4 w6 hlb.le om om (ho.hasM 1 rfl) (hlbs.le g4)) ?_;rintro _ N5 w7 g5 h5 ho;rw[agV (by rw[hlb.chk];exact fun h=>h rfl)] at h5;obtain⟨tb,rfl,htb⟩:=h5;simp only[ex];rw[aK SD];refine aN 0 ho rfl krx rfl (by show 0+1 < 2;omega) fun w8 ho=>?_;have ho:OwnS M.A w w8 [.cells pb (prC ta tb) 296,.mem N5]:=ho;have hta:=TbW.le g5 hta;have hlas5:=hlas.le (g3.trans (g4.trans g5));have hlbs5:=hlbs.le (g4.trans g5);refine B5 (Jk la lav 257 N5 w8 (ho.hasM 1 rfl) hlas5 om om om) ?_;rintro sa _ ⟨⟨na,hna,hna2,hza,hsa1,hsas⟩,rfl⟩;refine B5 (Jk lb lbv 1 N5 w8 (ho.hasM 1 rfl) hlbs5 om om om) ?_;rintro sb _ ⟨⟨nb,hnb,hnb2,hzb,hsb1,hsbs⟩,rfl⟩;have hea:=Df.On hna2 hza;have heb:=Df.On hnb2 hzb;have hal:(la.take na).length=na:=by rw[ahE];omega
 have hbl:(lb.take nb).length=nb:=by rw[ahE];omega
 have ha15:∀x∈la.take na,x<=15:=fun x hx=>hla.le x (ajK hx);have hb15:∀x∈lb.take nb,x<=15:=fun x hx=>hlb.le x (ajK hx);generalize la.take na=a at hea hal ha15 hsas;generalize lb.take nb=b at heb hbl hb15 hsbs;rw[<-hal] at hsas;rw[<-hbl] at hsbs;refine Q4 ho fun v0 w9 ho=>?_;refine oB 0 ho rfl (hsas.now (ho.hasM 2 rfl)) Db om fun v1 w10 ho=>?_;refine oB 0 ho rfl (hsbs.now (ho.hasM 2 rfl)) Db om fun v2 w11 ho=>?_;have ho:OwnS M.A w w11 (.urow 3 1 v2 (a++b).length (aR (a++b))::[.cells pb (prC ta tb) 296,.mem N5]):=by
  rw[lB,agZ];rw[ahJ,aiM] at ho;exact ho
 obtain⟨N6,g6,hab,ho⟩:=OwnS.cG (L:=[.cells pb (prC ta tb) 296,.mem N5]) ho 1 rfl;refine bF ho 1 rfl (PB (a++b) v2 N6 w11 (ho.hasM 1 rfl) hab (by rw[agZ];omega) (fun x hx=>(aiC.1 hx).elim (ha15 x) (hb15 x))) ?_;rintro mv N7 w12 g7 ⟨ms,hmo,hme,hm1,hsm⟩ ho;have ho:OwnS M.A w w12 [.cells pb (prC ta tb) 296,.mem N7]:=ho;have hmm:=Df.RJ hmo;have hml:=Df.IP ms [];rw[hme,agZ] at hml;simp only[akK,ahJ] at hml;refine xQ (n:=19) om ho fun go w13 ho=>?_;have hz:aR (List.replicate 19 0)=List.replicate 19 (.int .i64 0):=by simp[aR]
 rw[<-hz] at ho;rw[bB aoS (hsm.now (ho.hasM 2 rfl))];refine loop (fun vs W=>∃(i:Nat) (co:List Nat),vs=[.int .i64 (i:Int)]∧i<=ms.length∧co.length=19∧(∀m∈ms.take i,0 < co.getD m.1 0)∧(∀j,co.getD j 0<=i)∧OwnS M.A w W [lrE go co,.cells pb (prC ta tb) 296,.mem N7]) (fun vs _=>ms.length - n0 vs) ⟨0,List.replicate 19 0,rfl,om,aiE,(fun m hm=>by cases hm),fun j=>by
  refine Df.fZ (P:=fun c=>c<=0) (fun c hc=>?_) (ahD 0) j;rw[akB hc];exact ahD 0,ho⟩ ?_
 clear ho;rintro vs w14 ⟨i,co,rfl,hi,hco,hcp,hcb2,ho⟩ _;simp only[yL,gd,rs,nz];by_cases hlt:(i:Int) < (ms.length:Int)
 ·simp only[hlt,agY,i_t];have hi':i < ms.length:=om
  obtain⟨p,ia,ld⟩:=mkAt hsm hi';refine aE (ia w14) |>.mpr (aE (ld w14 (ho.hasM 2 rfl)) |>.mpr ?_);have hmx:=hmm _ (ahP hi');have htk:ms.take (i+1)=ms.take i++[ms[i]]:=aiG hi';generalize ms[i]=m at hmx htk;refine acH ho fun xb w15 ho=>?_;refine WH (y:=m) 0 ho rfl fun w16 ho=>?_;have ho:OwnS M.A w w16 (mkE xb m::[lrE go co,.cells pb (prC ta tb) 296,.mem N7]):=ho;rw[aK WM,mk_0 ho 0 rfl];have hcj:=hcb2 m.1;refine VK 1 ho rfl hco om om fun w17 ho=>?_
  try simp only[rs]
  rw[aA om om];have hg:=Df.Fp (l:=co) (j:=m.1) om;refine aY ⟨i+1,Df.inc co m.1,rfl,om,by rw[Df.JR];exact hco,?_,fun j=>by rw[hg];have:=hcb2 j;split<;>omega,ho.tail⟩ (by simp[n0,RowKit.intOf];omega);rw[htk];intro x hx;rw[hg];rcases aiC.1 hx with hx|hx
  ·have:=hcp x hx;omega
  ·rw[aiA.1 hx,agW rfl];omega
 simp only[hlt,agX,i_f];have hie:i=ms.length:=om
 subst hie;rw[ajG] at hcp;have ho:=ho.toU 1 19 19 (by rw[eQ,hco]) (ahD _) om;rw[ahZ,aiF (by rw[eQ];omega)] at ho;obtain⟨N8,g8,hcos,ho⟩:=OwnS.cG (L:=[.cells pb (prC ta tb) 296,.mem N7]) ho 1 rfl;refine bF ho 1 rfl (yG co 7 _ N8 w14 (ho.hasM 1 rfl) (by rw[hco];exact hcos) om om (Df.Mb fun j=>by have:=hcb2 j;omega) om om (by have:=Df.MF co;have e:(2:Nat) ^ 7=128:=rfl;omega)) ?_;rintro _ N9 w18 g9 ⟨lc,lcv,rfl,hlc,hlc1,hlcs⟩ ho;simp only[ex];have hlcl:lc.length=19:=by rw[hlc.len,hco]
 refine bF ho 1 rfl (wE lc lcv N9 w18 (fun x hx=>ajZ (hlc.le x hx) dc) om om (ho.hasM 1 rfl) hlcs) ?_;rintro _ N10 w19 g10 h10 ho;rw[agV (by rw[hlc.chk];exact fun h=>h rfl)] at h10;obtain⟨tt,rfl,htt⟩:=h10;simp only[ex];refine aL ho (Mt w19) ?_;rintro _ w20 rfl ho;have ho:OwnS M.A w w20 [.cells pb (prC ta tb) 296,.mem N10]:=ho;have hlcs10:=hlcs.le g10;have ho:OwnS M.A w w20 [.urow 3 1 nilS 0 [],.cells pb (prC ta tb) 296,.mem N10]:=OwnS.nilU (L:=[.cells pb (prC ta tb) 296,.mem N10]) ho _ _;refine loop (fun vs W=>∃(i:Nat) (v:Value),vs=[v,.int .i64 (i:Int)]∧i<=19∧OwnS M.A w W [.urow 3 1 v (Df.inl lc i).length (aR (Df.inl lc i)),.cells pb (prC ta tb) 296,.mem N10]) (fun vs _=>19 - n1 vs) ⟨0,nilS,rfl,om,ho⟩ ?_;clear ho;rintro vs w21 ⟨i,v,rfl,hi,ho⟩ _;simp only[xR,gd,rs,nz];have hinl:=Df.M4 lc i;by_cases hlt2:(i:Int) < 19
 ·simp only[hlt2,agY,i_t];have hi19:i < 19:=om
  have hol:=Df.Np hi19;refine aE (acO hi19 w21) |>.mpr ?_;obtain⟨p,ia,ld⟩:=Q9 hlcs10 (i:=Fl.ord.getD i 0) om;refine aE (ia w21) |>.mpr (aE (ld w21 (ho.hasM 2 rfl)) |>.mpr ?_);have hge:∀(j:Nat) (hj:j < lc.length),lc[j]'hj=lc.getD j 0:=fun j hj=>by
   rw[ahC,ahH hj];rfl
  rw[hge];refine sX _ ho fun b3 w22 ho=>?_;refine oB 1 ho rfl (ho.sl 0 rfl 1 1 1 rfl) rF om fun v' w23 ho=>?_
  try simp only[rs]
  rw[aA om om];refine aY ⟨i+1,v',rfl,om,?_⟩ (by simp[n1,RowKit.intOf];omega);rw[Df.Uc,lB,agZ];exact ho.tail
 simp only[hlt2,agX,i_f];have hie:i=19:=om
 subst hie;obtain⟨N11,g11,hins,ho⟩:=OwnS.cG (L:=[.cells pb (prC ta tb) 296,.mem N10]) ho 1 rfl;have ho:OwnS M.A w w21 [.cells pb (prC ta tb) 296,.mem N11]:=ho;refine B5 (Jk (Df.inl lc 19) v 4 N11 w21 (ho.hasM 1 rfl) hins om om om) ?_;rintro iv _ ⟨⟨nin,hn4,hn19,hzi,hi1,hivs⟩,rfl⟩;rw[hinl] at hn19;have hit:(Df.inl lc 19).take nin=Df.inl lc nin:=by
  unfold Df.inl;rw[<-amL,List.take_range,aiH hn19]
 rw[hit] at hivs;have g6':=g6.trans (g7.trans (g8.trans (g9.trans (g10.trans g11))));have h256l:0 < la.getD 256 0:=hla.pos 256 h256;have hh:∀x∈ps,Df.has la lb x:=fun x hx=>by
  have:=hhas x hx;unfold Df.has at this ⊢;split
  ·rename_i h0;rw[agW h0] at this;exact hla.pos _ this
  ·rename_i h0;rw[agV h0] at this;exact⟨hla.pos _ this.1,hlb.pos _ this.2⟩
 have h0i:∀i,nin<=i->i < 19->lc.getD (Fl.ord.getD i 0) 0=0:=fun i h1 h2=>by
  have:=hzi i h1
  rwa [Df.Tq h2] at this
 have hmsp:∀m∈ms,0 < lc.getD m.1 0:=fun m hm=>hlc.pos _ (hcp m hm);refine acJ (S:=M.A) (w0:=w) (W:=w21) (a:=a) (b:=b) (lc:=lc) (ms:=ms) (nin:=nin) (ps:=ps) ho (TbW.le g6' hta) (TbW.le g6' htb) (TbW.le g11 htt) hea heb hla.chk hlb.chk hlc.chk hla.le hlb.le hlc.le hlcl om om om om hn4 om h0i (hsas.le g6') (hsbs.le g6') (by rw[Df.M4];exact hivs) (hsm.le (g8.trans (g9.trans (g10.trans g11)))) (hps.le (g1.trans (g2.trans (g3.trans (g4.trans (g5.trans g6')))))) hmsp hmo hme h256l hh hpo hpl fun W ho=>?_;refine hK _ _ N11 _ 1 ho rfl (g1.trans (g2.trans (g3.trans (g4.trans (g5.trans g6'))))) ⟨_,rfl,Df.Zw _ _ _ _ _ _,?_⟩;have hca':Fl.chk a=0:=by have:=hla.chk;rw[hea] at this;exact Df.SQ this
 have hcb':Fl.chk b=0:=by have:=hlb.chk;rw[heb] at this;exact Df.SQ this
 refine Df.Vh om om om om hn4 om hlcl hlc.le h0i hlc.chk hmsp hmo hme hca' hcb' ha15 hb15 ?_ ?_ hpo
 ·have:=h256l;rw[hea,Df.Fv] at this;exact this
 ·intro x hx;have:=hh x hx;unfold Df.has at this ⊢;rw[hea,heb] at this;simp only[Df.Fv] at this;exact this
end
section
open Eng Go.RowKit
theorem Iv (k:List UInt8):∀(es:List MapEntry) (al:List (List UInt8×Value)) (i j:Nat) (u:Value),es.map (fun e=>(e.key,e.val))=al.map (fun p=>(strK p.1,p.2))->al[j]?=some (k,u)->(∀m,m < j->∀p,al[m]?=some p->p.1≠k) ->
  Instr.findNow .string (strK k) es i=some (some (i+j,u))
|[],[],i,j,u,_,h,_=>by simp at h
|e::es,p::al,i,j,u,h,hj,hn=>by
  simp only[aiW,amF,akV] at h;obtain⟨⟨h1,h2⟩,h3⟩:=h;have hs:Instr.sameNow .string (strK k) e.key=some (decide (k=p.1)):=by
   rw[h1];show some ((⟨k.toArray⟩:ByteArray)==⟨p.1.toArray⟩)=_
   congr 1
   show (k.toArray==p.1.toArray)=_;by_cases hk:k=p.1<;>simp[hk]
  cases j with
 |zero=>
   simp only[amD,akR] at hj;subst hj;rw[Instr.findNow,hs];simp[h2]
 |succ j=>
   have hk:k≠p.1:=fun e=>hn 0 om p rfl e.symm;have ih:=Iv k es al (i+1) j u h3 (by simpa using hj) (fun m hm q hq=>hn (m+1) om q (by simpa using hq));rw[Instr.findNow,hs];simp[hk,ih];omega
|[],_::_,_,_,_,h,_,_=>by simp at h
|_::_,[],_,_,_,h,_,_=>by simp at h
section
variable {S:Nat->Prop}{P:Program}{w w0:World}{L:List Ent}{PK:PKT}{K:VWP}
theorem Ud (i j:Nat){T k e:TypeId}{al:List (List UInt8×Value)}(ht:P.underlying T=some (.map k e))(hk:P.underlying k=some .string)(ho:OwnS S w0 w L)(hi:L[i]?=some (.map b al))(x:List UInt8)(u v:Value)(hj:al[j]?=some (x,u))
  (hn:∀m,m < j->∀p,al[m]?=some p->p.1≠x) (kk:∀w',OwnS S w0 w' (L.set i (.map b (al.set j (x,v))))->K undef w'):DoX P (Q8 T (.map (some b)) (strK x) v) w PK K:=by
 obtain⟨es,clock,h1,h2⟩:=(show PN w b al from ho.at_ i hi);have r1:=Iv x es.toList al 0 j u h2 hj hn;rw[ahJ] at r1;have hjl:j < es.toList.length:=by
  have:=congrArg List.length h2;rw[ahT,ahT] at this;rw[this];exact (ahQ.1 hj).1
 have hjs:j < es.size:=by simpa using hjl
 have hkj:es[j].key=strK x:=by
  have h3:=congrArg (fun l=>l[j]?) h2;simp only[alG,hj,amV] at h3;rw[ahH hjl] at h3;simp only[amV,akR,akV,Array.getElem_toList] at h3;exact h3.1
 have hsb:Instr.sameBits 10000 (strK x) (strK x)=true:=by
  unfold strK;rw[Instr.sameBits];show (x.toArray==x.toArray)=true;simp
 have hr:(Instr.mapUpdate T (.map (some b)) (strK x) v).run P w=.ok () { w with heap:=w.heap.setIfInBounds b (.map (es.modify j fun e=>{ e with key:=strK x,val:=v }) clock) }:=by
  have hf:(Instr.findKey k (strK x) es.toList).run P w=.ok (some (j,u)) w:=by simp[Instr.findKey,run_underlying hk,r1]
  simp[Instr.mapUpdate,run_underlying ht,getObj,setObj,Sem.run,h1,pE hk x,hf,Instr.keyThatStays,hjs,hkj,hsb]
 refine DF (IC hr) (kk _ ?_);refine ho.put i hi (w':={ w with heap:=w.heap.setIfInBounds b _ }) ⟨rfl,rfl,rfl,sm,fun k _ hk=>?_⟩ (.map b (al.set j (x,v))) ?_ (fun k hk=>.inl hk)
 ·show (w.heap.setIfInBounds b _)[k]?=_;exact alJ (fun e=>hk (by simp[Ent.map,e]))
 ·refine⟨es.modify j fun e=>{ e with key:=strK x,val:=v },clock,?_,?_⟩
  ·show (w.heap.setIfInBounds b _)[b]?=_;exact aoY (dR h1)
  ·rw[Array.toList_modify];refine List.ext_getElem? fun m=>?_;have h3:=congrArg (fun l=>l[m]?) h2;simp only[alG] at h3 ⊢;rw[List.getElem?_modify,List.getElem?_set];by_cases hm:j=m
   ·subst hm;rw[ahH hjl];have hal:j < al.length:=(ahQ.1 hj).1;simp[hal]
   ·simp only[agV hm];rw[<-h3];cases es.toList[m]?<;>rfl
end
theorem PS (s:List UInt8)(a b most:Nat)(w:World)(hab:a < b)(hb:b+most<=s.length)(hs:s.length<=1048576) :
  Ret prog 319 #[strK s,.int .i64 (a:Int),.int .i64 (b:Int),.int .i64 (most:Int)] w (fun v w'=>(∃n:Nat,v=.int .i64 (n:Int)∧n<=most∧(∀i,i < n->s[a+i]?=s[b+i]?)∧(n=most∨s[a+n]?≠s[b+n]?))∧Below w.heap.size w w'):=by
 refine aP fun K hK=>BH ?_;unfold wT nz;refine loop (fun vs W=>∃n:Nat,vs=[.int .i64 (n:Int)]∧n<=most∧(∀i,i < n->s[a+i]?=s[b+i]?)∧Own w W []) (fun vs _=>most - n0 vs) ⟨0,rfl,om,(fun i h=>by omega),Own.start w⟩ ?_;rintro vs w1 ⟨n,rfl,hn,hal,hB⟩ _;simp only[sL,gd,rs,nz];refine quiet (LU ?_);by_cases hlt:(n:Int) < (most:Int)
 ·simp only[hlt,agY,gq];have hn':n < most:=om
  have ha:a+n < s.length:=om
  have hb':b+n < s.length:=om
  refine qQ ?_;rw[aA om om,show (a:Int)+n=((a+n:Nat):Int) by omega];refine q_ix (a:=s) (c:=s[a+n]) ahF om (by rw[ahI,ahH ha]) ?_;refine qQ ?_;rw[aA om om,show (b:Int)+n=((b+n:Nat):Int) by omega];refine q_ix (a:=s) (c:=s[b+n]) ahF om (by rw[ahI,ahH hb']) ?_;refine q_eq (q_pt ?_);intro w2 h2;have hB:=hB.grow h2;by_cases he:s[a+n]=s[b+n]
  ·simp only[he,agY,i_t,rs];rw[aA om om];refine aY ⟨n+1,rfl,om,fun i hi=>?_,hB⟩ (by simp[n0,RowKit.intOf];omega);by_cases h:i=n
   ·subst h;rw[ahH ha,ahH hb',he]
   ·exact hal i om
  ·have he':¬((s[a+n].toNat:Int)=(s[b+n].toNat:Int)):=fun h=>he (amZ.1 om);simp only[he',agX,i_f];refine hK _ _ ⟨⟨n,rfl,hn,hal,.inr ?_⟩,hB.done⟩;rw[ahH ha,ahH hb'];exact fun h=>he (akJ h)
 ·simp only[hlt,agX,gq];refine q_pf ?_;intro w2 h2;have hB:=hB.grow h2;simp only[i_f];exact hK _ _ ⟨⟨n,rfl,hn,hal,.inl om⟩,hB.done⟩
end
section
open Eng Go.RowKit
abbrev Tr.Rw:=List UInt8×Value×List Nat
def Tr.al (rr:List Tr.Rw):List (List UInt8×Value):=rr.map fun r=>(r.1,r.2.1)
def Tr.rowE (r:Tr.Rw):Ent:=.urow 3 1 r.2.1 r.2.2.length (aR r.2.2)
def Tr.E (b:Nat)(rr:List Tr.Rw)(T:List Ent):List Ent:=.map b (Tr.al rr)::(rr.map Tr.rowE++T)
def Tr.ok (s:List UInt8)(at_:Nat)(rr:List Tr.Rw):Prop:=∀r∈rr,r.2.2.length<=at_∧∀i∈r.2.2,i < at_∧i+3<=s.length∧(s.drop i).take 3=r.1
theorem Tr.find (x:List UInt8):∀rr:List Tr.Rw,Bn (Tr.al rr) x=none∨∃(j:Nat) (v:Value) (l:List Nat),rr[j]?=some (x,v,l)∧Bn (Tr.al rr) x=some v∧∀m:Nat,m < j->∀p:List UInt8×Value,(Tr.al rr)[m]?=some p->p.1≠x
|[]=>.inl rfl
|r::rr=>by
  by_cases h:r.1=x
  ·subst h;exact .inr ⟨0,r.2.1,r.2.2,rfl,by simp[Bn,Tr.al],fun m hm=>absurd hm (Nat.not_lt_zero _)⟩
  ·rcases Tr.find x rr with h0|⟨j,v,l,h1,h2,h3⟩
   ·refine .inl ?_;simp only[Bn,Tr.al,aiW,List.find?_cons] at h0 ⊢;simp only[h,agX];exact h0
   ·refine .inr ⟨j+1,v,l,h1,?_,fun m hm p hp=>?_⟩
    ·simp only[Bn,Tr.al,aiW,List.find?_cons] at h2 ⊢;simp only[h,agX];exact h2
    ·cases m with
    |zero=>
      have:(r.1,r.2.1)=p:=by simpa[Tr.al] using hp
      subst this;exact h
    |succ m=>exact h3 m om p (by simpa[Tr.al] using hp)
theorem Tr.aaH (rr:List Tr.Rw)(j:Nat)(x:List UInt8)(v:Value)(l:List Nat):Tr.al (rr.set j (x,v,l))=(Tr.al rr).set j (x,v):=by
 unfold Tr.al;rw[anJ]
theorem Tr.afO {rr:List Tr.Rw}(hj:j < rr.length)(r:Tr.Rw)(T:List Ent):(rr.map Tr.rowE++T).set j (Tr.rowE r)=(rr.set j r).map Tr.rowE++T:=by
 rw[List.set_append,agW (by rw[ahT];exact hj),anJ]
theorem Tr.ZA {rr:List Tr.Rw}{r:Tr.Rw}(h:rr[j]?=some r)(T:List Ent):(rr.map Tr.rowE++T)[j]?=some (Tr.rowE r):=by
 have hj:=(ahQ.1 h).1;rw[ajA (by rw[ahT];exact hj),alG,h];rfl
theorem Tr.XT {s:List UInt8}{a:Nat}{rr:List Tr.Rw}(h:Tr.ok s a rr)(hab:a<=b):Tr.ok s b rr:=fun r hr=>⟨ajZ (h r hr).1 hab,fun i hi=>⟨ajE ((h r hr).2 i hi).1 hab,((h r hr).2 i hi).2⟩⟩
theorem acR:(Tryz.prog.info? 123).bind (·.zero)=some nilS:=krx
section
variable {w:World}{PK:PKT}{K:VWP}{S:Nat->Prop}{w0:World}{L T:List Ent}
theorem abO {s:List UInt8}{fr te:Nat}{rr:List Tr.Rw}(ho:OwnS S w0 w (Tr.E b rr T))(hok:Tr.ok s fr rr)(hf:fr<=te)(ht:te<=s.length)(hs:s.length<=1048576)
  (k:∀rr' W,OwnS S w0 W (Tr.E b rr' T)->Tr.ok s te rr'->K (.tuple #[]) W):CallX prog 293 #[.map (some b),strK s,.int .i64 (fr:Int),.int .i64 (te:Int)] w PK K:=by
 refine fH (wA (K:=RetK fun v W=>v=.tuple #[]∧∃rr',OwnS S w0 W (Tr.E b rr' T)∧Tr.ok s te rr') ?_) (fun e W ⟨v,he,hv,rr',ho,hok⟩=>by subst he;subst hv;exact k rr' W ho hok);unfold nL nz;refine loop (fun vs W=>∃(i:Nat) (rr:List Tr.Rw),vs=[.int .i64 (i:Int)]∧i<=te∧Tr.ok s i rr∧OwnS S w0 W (Tr.E b rr T)) (fun vs _=>te - n0 vs) ⟨fr,rr,rfl,hf,hok,ho⟩ ?_;clear ho hok;rintro vs w1 ⟨i,rr,rfl,hi,hok,ho⟩ _;simp only[lG,gd,rs,iN,dx,bnx,gtx,etx];have stop:∀W,OwnS S w0 W (Tr.E b rr T)->RetK (fun v W=>v=.tuple #[]∧∃rr',OwnS S w0 W (Tr.E b rr' T)∧Tr.ok s te rr') (.returned (.tuple #[])) W:=fun W ho=>retK ⟨rfl,rr,ho,Tr.XT hok hi⟩;by_cases hlt:(i:Int) < (te:Int)
 case neg=>
  simp only[hlt,agX,gd,rs,i_f];exact stop w1 ho
 simp only[hlt,agY,gd,rs];have hst:(strK s)=.string ⟨s.toArray⟩:=rfl;rw[hst,fP ahF,aA om om];simp only[rs];by_cases h3:(i:Int)+3<=(s.length:Int)
 case neg=>
  simp only[h3,agX,i_f];exact stop w1 ho
 simp only[h3,agY,i_t];have h3':i+3<=s.length:=om
 have ho:=ho.drew;refine⟨fun W=>PN W b (Tr.al rr),ho.at_ 0 rfl,?_⟩;have hcut:((s.drop ((i:Int)).toNat).take (((i:Int)+3).toNat - ((i:Int)).toNat))=(s.drop i).take 3:=by
  rw[ahI,show ((i:Int)+3).toNat - i=3 by omega]
 refine aM _ (fun _=>PW) ?_;rw[aA om om];refine aM _ (fun _=>sW ahF om om om) ?_;refine aM _ (fun _=>PW) ?_;rw[aA om om];refine aM _ (fun _=>sW ahF om om om) ?_;rw[hcut];generalize hx:(s.drop i).take 3=x;refine sN ((Bn (Tr.al rr) x).getD nilS) (fun W h=>OA (ok:=false) aoT ahF acR h x) ?_;rw[aA om om,show (i:Int)+1=((i+1:Nat):Int) by omega];rcases Tr.find x rr with hn|⟨j,v,l,hj,hl,hnj⟩
 ·rw[hn];refine sX (i:Int) (OwnS.nilU ho 3 1) fun b3 w2 ho=>⟨ho.at_ 2 rfl,?_⟩;refine oB 1 ho rfl (ho.sl 0 rfl 1 1 1 rfl) rF om fun v' w3 ho=>?_;have ho:OwnS S w0 w3 (.urow 3 1 v' 1 (aR [i])::.map b (Tr.al rr)::(rr.map Tr.rowE++T)):=ho.tail;refine Ua 1 aoT ahF ho rfl x v' hn fun w4 ho=>?_;refine aY ⟨i+1,rr++[(x,v',[i])],rfl,om,?_,?_⟩ (by simp[n0,RowKit.intOf];omega)
  ·intro r hr;rcases aiC.1 hr with hr|hr
   ·exact Tr.XT hok om r hr
   ·rw[aiA.1 hr];exact⟨sm,fun m hm=>by rw[aiA.1 hm];exact⟨om,h3',hx⟩⟩
  ·have e:Tr.E b (rr++[(x,v',[i])]) T=.map b (Tr.al rr++[(x,v')])::(rr.map Tr.rowE++([Tr.rowE (x,v',[i])]++T)):=by
    unfold Tr.E Tr.al;simp[aiN,ahK]
   rw[e];have ho:OwnS S w0 w4 ([Tr.rowE (x,v',[i])]++((.map b (Tr.al rr++[(x,v')])::rr.map Tr.rowE)++T)):=ho;exact ho.front
 ·rw[hl];have hjl:=(ahQ.1 hj).1;have hjm:=akM hj;have hjo:=hok _ hjm;refine sX (i:Int) ho fun b3 w2 ho=>⟨ho.at_ 1 rfl,?_⟩;refine oB (j+2) (v:=v) (n:=l.length) (xs:=aR l) ho (by show (rr.map Tr.rowE++T)[j]?=_;rw[Tr.ZA hj];rfl) (ho.sl 0 rfl 1 1 1 rfl) rF (by have:=hjo.1;simp only at this;omega) fun v' w3 ho=>?_;have e1:((rr.map Tr.rowE++T).set j (.urow 3 1 v' (l.length+1) (aR l++MN [(i:Int)])))=(rr.set j (x,v',l++[i])).map Tr.rowE++T:=by
   rw[<-Tr.afO hjl];unfold Tr.rowE;rw[lB,agZ];rfl
  have ho:OwnS S w0 w3 (.map b (Tr.al rr)::((rr.map Tr.rowE++T).set j (.urow 3 1 v' (l.length+1) (aR l++MN [(i:Int)])))):=ho.tail;rw[e1] at ho;refine Ud 0 j aoT ahF ho rfl x v v' (by unfold Tr.al;rw[alG,hj];rfl) hnj fun w4 ho=>?_;refine aY ⟨i+1,rr.set j (x,v',l++[i]),rfl,om,?_,?_⟩ (by simp[n0,RowKit.intOf];omega)
  ·intro r hr;rcases anI hr with hr|hr
   ·exact Tr.XT hok om r hr
   ·subst hr;refine⟨by simp only[agZ,ajJ];have:=hjo.1;simp only at this;omega,fun m hm=>?_⟩;rcases aiC.1 hm with hm|hm
    ·exact⟨by have:=(hjo.2 m hm).1;omega,(hjo.2 m hm).2⟩
    ·rw[aiA.1 hm];exact⟨om,h3',hx⟩
  ·unfold Tr.E;rw[Tr.aaH];exact ho
end
end
section
open Eng Go.RowKit
theorem acC (hs:Sl w v 1 l.length (aR l))(hi:i < l.length) :
  ∃p,(mIA 123 v (.int .i64 (i:Int))).run prog w=.ok (.value (.pointer (some p))) w∧(aI 3 (.pointer (some p))).run prog w=.ok (.value (.int .i64 (l[i]:Int))) w:=by
 obtain⟨b,off,cap,rfl,hc⟩:=cB hs om;refine⟨⟨b,off+i,none⟩,?_,?_⟩
 ·have:=eE (P:=prog) (T:=123) (b:=b) (off:=off) (cap:=cap) (n:=l.length) (k:=.i64) (i:=(i:Int)) (w:=w) ahS KK om om;rw[ahI,ahZ] at this;exact this
 ·refine bI (AtV.cell cI (hc _ _ ?_));unfold aR;rw[alG,ahH hi];rfl
def Tr.cp (s:List UInt8)(at_:Nat)(x:Df.Pt):Prop:=x.1=0∧(x.2.1=0∧x.2.2=0∨3<=x.2.1∧x.2.1<=258∧1<=x.2.2∧x.2.2<=32768∧x.2.2<=at_∧at_+x.2.1<=s.length∧∀i,i < x.2.1->s[at_ - x.2.2+i]?=s[at_+i]?)
theorem Tr.adI {s:List UInt8}{a:Nat}(h:(s.drop a).take 3=(s.drop b).take 3)(hi:i < 3):s[a+i]?=s[b+i]?:=by
 have:=congrArg (fun l=>l[i]?) h;simp only[ajT,agW hi,akG] at this;exact this
theorem agU (n f:Nat):DoX prog (aZ 291 #[(1,.int .i64 (n:Int)),(2,.int .i64 (f:Int))]) w PK K=K (ptV (0,n,f)) w:=aE krx
section
variable {w:World}{PK:PKT}{K:VWP}{S:Nat->Prop}{w0:World}{L T:List Ent}
theorem Z1 (j:Nat){x:Df.Pt}(ho:OwnS S w0 w L)(hi:L[j]?=some (ptE b x)):DoX prog (aI 291 (.pointer (some ⟨b,0,none⟩))) w PK K=K (ptV x) w:=l_at (ho.agg j hi YM)
theorem aaX {K:Ending->World->Prop}{x:Df.Pt}(i:Nat)(ho:OwnS S w0 w L)(hi:L[i]?=some (ptE b x))(k:K (.returned (ptV x)) w):RetX prog [.cell (.pointer (some ⟨b,0,none⟩)) 291] w K:=
 iW (bH (ho.agg i hi YM)) k
theorem TN {s:List UInt8}{a:Nat}{rr:List Tr.Rw}(ho:OwnS S w0 w (Tr.E b rr T))(hok:Tr.ok s a rr)(ha:a<=s.length)(hs:s.length<=1048576)
  (k:∀x W,OwnS S w0 W (Tr.E b rr T)->Tr.cp s a x->K (ptV x) W):CallX prog 292 #[.map (some b),strK s,.int .i64 (a:Int)] w PK K:=by
 refine fH (qR (K:=RetK fun v W=>∃x,v=ptV x∧OwnS S w0 W (Tr.E b rr T)∧Tr.cp s a x) ?_) (fun e W ⟨v,he,x,hv,ho,hc⟩=>by subst he;subst hv;exact k x W ho hc);unfold kD nz;refine Rb ho fun b6 w1 ho=>?_;refine Rb ho fun b7 w2 ho=>?_;have hst:(strK s)=.string ⟨s.toArray⟩:=rfl;have fin:∀(W:World) (x:Df.Pt),OwnS S w0 W (ptE b7 x::ptE b6 (0,0,0)::Tr.E b rr T)->Tr.cp s a x->DoX prog (aI 291 (.pointer (some ⟨b7,0,none⟩))) W (pk (RetK fun v W=>∃x,v=ptV x∧OwnS S w0 W (Tr.E b rr T)∧Tr.cp s a x)) fun t72 w=>
   DoX prog (aS 291 (.pointer (some ⟨b6,0,none⟩)) t72) w (pk (RetK fun v W=>∃x,v=ptV x∧OwnS S w0 W (Tr.E b rr T)∧Tr.cp s a x)) fun _ w=>
   RetX prog [.cell (.pointer (some ⟨b6,0,none⟩)) 291] w (RetK fun v W=>∃x,v=ptV x∧OwnS S w0 W (Tr.E b rr T)∧Tr.cp s a x):=by
  intro W x ho hx;rw[Z1 0 ho rfl];refine KS (y:=x) 1 ho rfl fun w3 ho=>?_;exact aaX 1 ho rfl (retK ⟨x,rfl,ho.tail.tail,hx⟩)
 have h000:Tr.cp s a (0,0,0):=⟨rfl,.inl ⟨rfl,rfl⟩⟩;simp only[rs];rw[hst,fP ahF,aA om om];simp only[rs];by_cases h3:(s.length:Int) < (a:Int)+3
 ·simp only[h3,agY,i_t];exact fin w2 _ ho h000
 simp only[h3,agX,i_f];have h3':a+3<=s.length:=om
 rw[fP ahF];simp only[rs];rw[aA (n:=(s.length:Int) - a) om om,Jv,show min (258:Int) ((s.length:Int) - a)=((min 258 (s.length - a):Nat):Int) by omega];generalize hmost:min 258 (s.length - a)=most;rw[WZ ahF om om om,ahI,show ((a:Int)+3).toNat - a=3 by omega];generalize hx:(s.drop a).take 3=x;refine aE (OA (ok:=false) aoT ahF acR (show PN w2 b (Tr.al rr) from ho.at_ 2 rfl) x) |>.mpr ?_;simp only[alV,if_false];have main:∀(v:Value) (l:List Nat),(∀W x,OwnS S w0 W (ptE b7 x::ptE b6 (0,0,0)::Tr.E b rr T)->Sl W v 1 l.length (aR l))->l.length<=a->(∀i∈l,i < a∧i+3<=s.length∧(s.drop i).take 3=x) ->
   LoopX [.int .i64 ((l.length:Int) - 1)] w2 (fun vs1 w N1=>∀_:Sg,fD (.string ⟨s.toArray⟩) (.int .i64 (a:Int)) (.pointer (some ⟨b6,0,none⟩)) (.pointer (some ⟨b7,0,none⟩)) (.int .i64 (most:Int)) v (vs1.getD 0 undef) w N1 (RetK fun v W=>∃x,v=ptV x∧OwnS S w0 W (Tr.E b rr T)∧Tr.cp s a x)):=by
  intro v l hsl hla hl;refine loop (fun vs W=>∃(i:Nat) (x:Df.Pt),vs=[.int .i64 ((i:Int) - 1)]∧i<=l.length∧Tr.cp s a x∧OwnS S w0 W (ptE b7 x::ptE b6 (0,0,0)::Tr.E b rr T)) (fun vs _=>(RowKit.intOf (vs.getD 0 undef)+1).toNat) ⟨l.length,(0,0,0),rfl,om,h000,ho⟩ ?_;clear ho;rintro vs w3 ⟨i,y,rfl,hi,hy,ho⟩ _;simp only[fD,gd,rs,nz];cases i with
 |zero=>
   simp only[show decide ((0:Int)<=((0:Nat):Int) - 1)=false by decide,gd,rs,i_f];exact fin w3 y ho hy
 |succ i=>
   rw[show ((i+1:Nat):Int) - 1=(i:Int) by omega];simp only[show decide ((0:Int)<=(i:Int))=true from ahB om,gd,rs];obtain⟨p,hia,hld⟩:=acC (hsl w3 y ho) (i:=i) om;rw[aE hia,aE hld];obtain⟨hm1,hm2,hm3⟩:=hl l[i] (ahP _);generalize hli:l[i]=m at hm1 hm2 hm3;simp only[rs];rw[aA om om,show (a:Int) - m=((a - m:Nat):Int) by omega];by_cases hfar:((a - m:Nat):Int)<=32768
   case neg=>
    simp only[hfar,agX,gd,rs,i_f];exact fin w3 y ho hy
   simp only[hfar,agY,gd,rs];rw[aK Ej,pt_1 ho 0 rfl];simp only[rs];by_cases hsz:(y.2.1:Int) < (most:Int)
   case neg=>
    simp only[hsz,agX,gd,rs,i_f];exact fin w3 y ho hy
   simp only[hsz,agY,gd,rs,i_t];refine join fun J hJ=>?_;rw[aE hia,aE hld,hli];have next:∀(W:World) (z:Df.Pt),OwnS S w0 W (ptE b7 z::ptE b6 (0,0,0)::Tr.E b rr T)->Tr.cp s a z->J [] W:=by
    intro W z ho hz;refine hJ _ _ fun _=>?_;simp only[iR,gd,rs,nz];rw[aA om om];exact aY ⟨i,z,rfl,om,hz,ho⟩ (by simp[RowKit.intOf])
   refine aL ho (PS s m a most w3 hm1 om hs) ?_;rintro _ w4 ⟨n,rfl,hn,hal,hst⟩ ho;rw[aK Ej,pt_1 ho 0 rfl];simp only[rs];by_cases hgt:(y.2.1:Int) < (n:Int)
   case neg=>
    simp only[hgt,agX,i_f];exact next w4 y ho hy
   simp only[hgt,agY,i_t];obtain⟨p2,hia2,hld2⟩:=acC (hsl w4 y ho) (i:=i) om;rw[aE hia2,aE hld2,hli];simp only[rs];rw[aA om om,show (a:Int) - m=((a - m:Nat):Int) by omega,agU];refine KS (y:=(0,n,a - m)) 0 ho rfl fun w5 ho=>?_;refine next w5 (0,n,a - m) ho ⟨rfl,.inr ⟨?_,by show n<=258;omega,by show 1<=a - m;omega,by show a - m<=32768;omega,by show a - m<=a;omega,by show a+n<=s.length;omega,fun j hj=>?_⟩⟩
   ·show 3<=n;rcases hst with h|h
    ·omega
    ·refine Nat.le_of_not_lt fun hlt=>h (Tr.adI (hm3.trans hx.symm) hlt)
   ·show s[a - (a - m)+j]?=_;rw[show a - (a - m)=m by omega];exact hal j hj
 rcases Tr.find x rr with hn|⟨j,v,l,hj,hl,hnj⟩
 ·rw[hn];show DoX prog (mB .len #[123] 3 #[false] #[nilS]) w2 _ _;rw[show nilS=.slice none 0 0 from rfl,bA ahS];simp only[rs];rw[aA om om];exact main (.slice none 0 0) [] (fun W x ho=>by exact (OwnS.nilU ho 3 1).slU 0 rfl) sm (fun i hi=>by cases hi)
 ·rw[hl];have hjo:=hok _ (akM hj);have hsl:∀(W:World) (y:Df.Pt),OwnS S w0 W (ptE b7 y::ptE b6 (0,0,0)::Tr.E b rr T)->Sl W v 1 l.length (aR l):=fun W y ho=>ho.slU (j+3) (by show (rr.map Tr.rowE++T)[j]?=_;rw[Tr.ZA hj];rfl);show DoX prog (mB .len #[123] 3 #[false] #[v]) w2 _ _;rw[bB ahS (hsl w2 _ ho)];simp only[rs];have hll:l.length<=a:=hjo.1;rw[aA om om];exact main v l hsl hll hjo.2
end
end
section
open Eng Go.RowKit
theorem Df.Ic:∀{l:List Df.Pt} {out:List UInt8} {x:Df.Pt},Df.zZ out.length l->Df.ptOk (Df.exp out l).length x->Df.zZ out.length (l++[x])
|[],out,x,_,h=>⟨h,trivial⟩
|y::l,out,x,hl,h=>by
  refine⟨hl.1,?_⟩;have h2:=hl.2;rw[<-Df.FG] at h2 ⊢;exact Df.Ic h2 h
theorem Df.UQ (l:List Df.Pt)(out:List UInt8)(x:Df.Pt):Df.exp out (l++[x])=Df.exp1 (Df.exp out l) x:=by
 unfold Df.exp;rw[List.foldl_append];rfl
theorem Tr.back:∀{n:Nat} {s:List UInt8} {a d:Nat},1<=d->d<=a->a+n<=s.length->(∀i,i < n->s[a - d+i]?=s[a+i]?)->Fl.back d n (s.take a)=s.take (a+n)
|0,s,a,d,_,_,_,_=>rfl
|n+1,s,a,d,h1,h2,h3,h=>by
  rw[Fl.back];have hl:(s.take a).length=a:=by rw[ahE];omega
  have e:(s.take a).getD ((s.take a).length - d) 0=s[a]:=by
   rw[hl,ahC,ajT,agW om];have:=h 0 om;rw[aiZ,aiZ] at this;rw[this,ahH om];rfl
  rw[e,<-aiG om,Tr.back h1 om om (fun i hi=>by
   have:=h (i+1) om;rw[show a - d+(i+1)=a+1 - d+i by omega,show a+(i+1)=a+1+i by omega] at this;exact this)]
  congr 1;omega
def Tr.pt (s:List UInt8)(a:Nat)(x:Df.Pt):Df.Pt:=if x.2.1=0 then (s.getD a 0,x.2.1,x.2.2) else x
theorem Tr.adO {s:List UInt8}{a:Nat}{x:Df.Pt}(h:Tr.cp s a x):Df.ptOk a (Tr.pt s a x):=by
 unfold Df.ptOk Tr.pt;obtain⟨h1,h2⟩:=h;by_cases h0:x.2.1=0
 ·simp only[agW h0];rcases h2 with h2|h2
  ·exact h2.2
  ·omega
 ·rw[agV h0,agV h0];rcases h2 with h2|h2
  ·exact absurd h2.1 h0
  ·exact⟨h1,h2.1,h2.2.1,h2.2.2.1,h2.2.2.2.1,h2.2.2.2.2.1⟩
theorem Tr.aaJ {s:List UInt8}{a:Nat}{x:Df.Pt}(h:Tr.cp s a x)(ha:a < s.length):Df.exp1 (s.take a) (Tr.pt s a x)=s.take (a+max x.2.1 1):=by
 unfold Df.exp1 Tr.pt;obtain⟨h1,h2⟩:=h;by_cases h0:x.2.1=0
 ·simp only[agW h0];rw[h0,ahC,ahH ha];exact (aiG ha).symm
 ·simp only[agV h0];rcases h2 with h2|⟨p1,p2,p3,p4,p5,p6,p7⟩
  ·exact absurd h2.1 h0
  ·rw[Tr.back p3 p5 p6 p7,Nat.max_eq_left om]
section
variable {w:World}{PK:PKT}{K:VWP}{S:Nat->Prop}{w0:World}{L T:List Ent}
theorem Tr.away {rr:List Tr.Rw}(ho:OwnS S w0 w (Tr.E b rr T)):OwnS S w0 w (T++Tr.E b rr []):=by
 have ho:OwnS S w0 w ((Ent.map b (Tr.al rr)::rr.map Tr.rowE)++T):=ho;unfold Tr.E;rw[ahV];exact ho.perm amW
theorem Tr.here {rr:List Tr.Rw}(ho:OwnS S w0 w (T++Tr.E b rr [])):OwnS S w0 w (Tr.E b rr T):=by
 unfold Tr.E at ho;rw[ahV] at ho;exact ho.perm amW
theorem aaI (x:Df.Pt)(ho:OwnS S w0 w L)(k:∀b w',OwnS S w0 w' (ptE b x::L)->K (.slice (some ⟨b,0,none⟩) 1 1) w'):DoX prog (bN 269 1 #[(0,ptV x)]) w PK K:=
 bC (fun b=>.slice (some ⟨b,0,none⟩) 1 1) (ptC x) 291 (fun _=>by kernel_rfl) ho k
end
theorem elPt:elB prog 291 3 24=true:=krx
theorem P5 (s:List UInt8)(M:Mem)(w:World)(hM:M.has w)(hs:s.length<=1048576) :
  RetM prog 266 #[strK s] M w (fun r N=>∃ps,SlA N.A N.w r 3 ps.length (ps.flatMap ptC)∧Df.zZ 0 ps∧Df.exp [] ps=s∧ps.length<=s.length):=by
 refine aT hM fun K hK=>Bq ?_;unfold yA nz;have hst:(strK s)=.string ⟨s.toArray⟩:=rfl;rw[hst,fP ahF];simp only[rs,show decide ((1048576:Int) < (s.length:Int))=false from ahA om,i_f];have ho:OwnS M.A w w [.mem M]:=OwnS.memS hM;refine Uz (OwnS.nilU ho 291 3) fun b w1 ho=>?_;refine loop (fun vs W=>∃(ps:List Df.Pt) (a:Nat) (rr:List Tr.Rw) (v:Value),vs=[v,.int .i64 (a:Int)]∧a<=s.length∧ps.length<=a∧Df.zZ 0 ps∧Df.exp [] ps=s.take a∧Tr.ok s a rr∧OwnS M.A w W (Tr.E b rr [.urow 291 3 v ps.length (ps.flatMap ptC),.mem M])) (fun vs _=>s.length - n1 vs)
  ⟨[],0,[],nilS,rfl,om,sm,trivial,rfl,(fun r hr=>by cases hr),ho⟩ ?_
 clear ho;rintro vs w2 ⟨ps,a,rr,v,rfl,ha,hpa,hpo,hpe,hok,ho⟩ _;simp only[rU,gd,rs,nz];rw[fP ahF];simp only[rs];by_cases hlt:(a:Int) < (s.length:Int)
 case neg=>
  simp only[hlt,agX,i_f];have ho:OwnS M.A w w2 (.urow 291 3 v ps.length (ps.flatMap ptC)::.mem M::Tr.E b rr []):=Tr.away ho;obtain⟨N,g,hsl,ho⟩:=OwnS.cG ho 0 rfl;refine hK _ _ N _ 0 ho rfl g ⟨ps,hsl,hpo,?_,om⟩;rw[hpe,aiF om]
 have ha':a < s.length:=om
 simp only[hlt,agY,i_t];refine TN (s:=s) ho hok ha hs fun x w3 ho hx=>?_;refine Rb ho fun b6 w4 ho=>?_;refine KS (y:=x) 0 ho rfl fun w5 ho=>?_;have ho:OwnS M.A w w5 (ptE b6 x::Tr.E b rr [.urow 291 3 v ps.length (ps.flatMap ptC),.mem M]):=ho;rw[aK Ej,pt_1 ho 0 rfl,FO];refine join fun J hJ=>?_;rw[aK Ej,pt_1 ho 0 rfl];simp only[rs];have hpo':Df.ptOk a (Tr.pt s a x):=Tr.adO hx;have hex:=Tr.aaJ hx ha';have hle:a+max x.2.1 1<=s.length:=by
  rcases hx.2 with h|h
  ·omega
  ·have:=h.2.2.2.2.2.1;omega
 have hla:(s.take a).length=a:=by rw[ahE];omega
 have next:∀W,OwnS M.A w W (ptE b6 (Tr.pt s a x)::Tr.E b rr [.urow 291 3 v ps.length (ps.flatMap ptC),.mem M])->J [] W:=by
  intro W ho;refine hJ _ _ fun _=>?_;simp only[sR,gd,rs,nz];rw[Z1 0 ho rfl];have ho:OwnS M.A w W (Tr.E b rr [.urow 291 3 v ps.length (ps.flatMap ptC),.mem M]):=ho.tail;refine aaI (Tr.pt s a x) (Tr.away ho) fun b8 w6 ho=>?_;refine cL 1 aoR elPt dc ho rfl (ho.sl 0 rfl 3 1 1 rfl) Rg om om fun v' w7 ho=>?_;have ho:OwnS M.A w w7 ([.urow 291 3 v' (ps.length+1) (ps.flatMap ptC++ptC (Tr.pt s a x)),.mem M]++Tr.E b rr []):=ho.tail
  try simp only[rs]
  rw[aA om om,show (a:Int)+max (x.2.1:Int) 1=((a+max x.2.1 1:Nat):Int) by omega];refine abO (s:=s) (Tr.here ho) hok om hle hs fun rr' w8 ho hok'=>?_;refine aY ⟨ps++[Tr.pt s a x],a+max x.2.1 1,rr',v',rfl,hle,by rw[agZ,ajJ];omega,?_,?_,hok',?_⟩ (by simp[n1,RowKit.intOf];omega)
  ·exact Df.Ic (out:=[]) hpo (by rw[hpe,hla];exact hpo')
  ·rw[Df.UQ,hpe,hex]
  ·rw[agZ,ajJ,amC,amN];exact ho
 by_cases h0:x.2.1=0
 ·simp only[show decide ((x.2.1:Int)=0)=true from ahB om,i_t];rw[s_ix (c:=s[a]) ahF om (by rw[ahI,ahH ha']),aK Sz];refine aN 0 ho rfl krx rfl (by show 0 < 3;decide) fun w6 ho=>?_;refine next w6 ?_
  have e:Tr.pt s a x=(s[a],x.2.1,x.2.2):=by
   unfold Tr.pt;rw[agW h0,ahC,ahH ha'];rfl
  rw[e];exact ho
 ·simp only[show decide ((x.2.1:Int)=0)=false from ahA om,i_f];refine next w5 ?_
  have e:Tr.pt s a x=x:=by unfold Tr.pt;rw[agV h0]
  rw[e];exact ho
end
section
open Eng
def wF(t0 w)(K:KT):=nz Tryz.f269 1 [] [] [] (zg [0] [t0]) w K
theorem B4{t0 w K}(h:wF t0 w K):Calls prog 269 #[t0] w K:=cw Tryz.func269 h
def fV(t0 w)(K:KT):=nz Tryz.f303 1 [] [] [] (zg [0] [t0]) w K
theorem kK{t0 w K}(h:fV t0 w K):Calls prog 303 #[t0] w K:=cw Tryz.func303 h
end
section
open Eng
def Gc(t0 t1 w)(K:KT):=nz Tryz.f191 1 [] [] [] (zg [0,1] [t0,t1]) w K
theorem HL{t0 t1 w K}(h:Gc t0 t1 w K):Calls prog 191 #[t0,t1] w K:=cw Tryz.func191 h
end
section
open Eng Go.RowKit
theorem agD:elB prog 5 1 1=true:=krx
theorem Zh:(Tryz.prog.info? 5).map (·.size)=some 1:=krx
theorem QC {dT sT ty T E:TypeId}{g n:Nat}{s:List UInt8}(hu:P.underlying dT=some (.slice E))(hsz:(P.info? E).map (·.size)=some 1)
  (hg:w.heap[g]?=some (.cells cur.toArray T (0,0))) (hn:s.length=n) (hc:cur.length=n) :
  (mB .copy #[dT,sT] ty cb #[.slice (some ⟨g,0,none⟩) n cap,.string ⟨s.toArray⟩]).run P w=.ok (.value (goInt n)) (w.setRow g (aH s).toArray):=by
 have hl:(aH s).length=n:=by rw[fM,hn]
 have hst:=run_storeCells_at P g 0 T (aH s) 0 cur.toArray w hg (by rw[hl];simp[hc]) eY;simp only[aiZ,ahJ,akS,aiM] at hst;rw[amI (by rw[hl];simp[hc]),ahV] at hst;obtain⟨i,hi,h2⟩:=ajN.1 hsz;have htk:List.take n (aH s)=aH s:=aiF om;have hs2:(⟨s.toArray⟩:ByteArray).size=n:=by rw[dK,hn]
 unfold aH at htk hst;simp[mB,builtin,Builtin.copy_,run_underlying hu,Builtin.lenOf,Builtin.firstCells,sizeOf,typeInfo,hi,h2,hst,hs2,htk,aH]
theorem Qa (s:List UInt8)(w:World)(hs:s.length<=1000000000):Ret prog 269 #[strK s] w (fun v w'=>v=strK s∧Below w.heap.size w w'):=by
 refine aP fun K hK=>B4 ?_;unfold wF nz;refine fH (kK (K:=RetK fun v w'=>v=strK s∧Below w.heap.size w w') ?_) (fun e W ⟨v,he,hv,ho⟩=>by subst he;subst hv;exact hK _ _ ⟨rfl,ho⟩);unfold fV nz;rw[show strK s=.string ⟨s.toArray⟩ from rfl,fP ahF];simp only[rs];by_cases h0:s=[]
 ·subst h0;simp only[akK,show decide (((0:Nat):Int)=0)=true from rfl,i_t];exact retK ⟨rfl,Below.refl _ _⟩
 have hl:0 < s.length:=akN.2 h0;simp only[show decide ((s.length:Int)=0)=false from ahA om,i_f];rw[fP ahF];refine Ts ahX agD om om (Own.start w) fun g w1 zs hz ho=>?_;rw[ahZ] at hz;refine jU (QC ahX Zh (ho.at_ 0 rfl) rfl hz) ?_;have ho2:Own w (w1.setRow g (aH s).toArray) [.cells g (aH s) 5]:=gP ho 0 rfl _;generalize w1.setRow g (aH s).toArray=w2 at ho2;refine aE (eE (P:=prog) (T:=53) (b:=g) (off:=0) (cap:=s.length) (n:=s.length) (k:=.i64) (i:=0) (w:=w2) ahX Zh om om) |>.mpr ?_;rw[bA ahX];have hg:w2.heap[g]?=some (.cells (aH s).toArray 5 (0,0)):=ho2.at_ 0 rfl;have hr:=Lib.run_unsafeString_row (P:=prog) w2 239 3 9 5 apA krx g s.length (by unfold World.shape?;rw[hg];simp[fM]) s h0 (ahD _) om (fun j x hj=>by
  have:=ho2.cell 0 rfl j (Eng.gQ hj);rw[cC,ahJ];exact this)
 refine jU (show (mB .unsafeString #[239,3] 9 #[false,false] #[.pointer (some ⟨g,0,none⟩),.int .i64 s.length]).run prog w2=.ok (.value (.string ⟨s.toArray⟩)) (w2.freeze ⟨g,0,none⟩ s.length) by
  simp[mB,builtin,hr]) ?_
 refine retK ⟨rfl,Lib.below_freeze ho2.done (p:=⟨g,0,none⟩) ?_ _⟩;exact ((ho2.all _ (aiA.2 rfl)).2 g rfl).elim (fun x=>x.elim) id
theorem Df.Y7:∀(f:Nat) (s:List UInt8),(Df.st f s).length<=40*f+8*s.length
|0,s=>by unfold Df.st;simp
|f+1,s=>by
  unfold Df.st;split
  ·rw[Df.wR];omega
  ·rw[agZ,Df.wR];have:=Df.Y7 f (s.drop 65535);rw[ahL] at this;rw[ahE];omega
theorem Df.TG (s:List UInt8):(Bw.bytes (Df.stored s)).length<=2*s.length+10:=by
 have:=Df.Y7 (s.length / 65535+1) s;rw[Bw.lQ];unfold Df.stored;omega
theorem Vi (s:List UInt8)(M:Mem)(w:World)(hM:M.has w)(hs:s.length<=1048576) :
  RetM prog 235 #[strK s,.int .i64 2] M w (fun v _=>∃R,v=.tuple #[.string ⟨(Bw.bytes R).toArray⟩,.int .i64 0]∧Bw.ok R∧Df.good R s∧(Bw.bytes R).length<=2*s.length+10):=by
 refine aT hM fun K hK=>EX ?_;unfold CP nz;have ho:OwnS M.A w w [.mem M]:=OwnS.memS hM;simp only[rs,gd,show decide ((2:Int) < 0)=false from rfl,show decide ((2:Int) < 2)=false from rfl,show decide ((2:Int)=0)=false from rfl,i_f];rw[show strK s=.string ⟨s.toArray⟩ from rfl,fP ahF];simp only[rs,show decide ((1048576:Int) < (s.length:Int))=false from ahA om,i_f];refine TS ho hs fun w1 ho=>?_;refine bF ho 0 rfl (P5 s M w1 (ho.hasM 0 rfl) hs) ?_;rintro pv N w2 g ⟨ps,hps,hpo,hpe,hpl⟩ ho;have ho:OwnS M.A w w2 [.mem N]:=ho;refine join fun J hJ=>?_;have next:∀(R:List Nat) (N2:Mem) (W:World),N.le N2->OwnS M.A w W [.mem N2]->Bw.ok R->Df.good R s->(Bw.bytes R).length<=2*s.length+10->J [.string ⟨(Bw.bytes R).toArray⟩] W:=by
  intro R N2 W g2 ho h1 h2 h3;refine hJ _ _ fun _=>?_;simp only[gd];unfold wL nz;refine join fun J2 hJ2=>?_;simp only[rs,agY,i_t];have last:∀(R:List Nat) (N2:Mem) (W:World),N.le N2->OwnS M.A w W [.mem N2]->Bw.ok R->Df.good R s->(Bw.bytes R).length<=2*s.length+10->J2 [.string ⟨(Bw.bytes R).toArray⟩] W:=by
   intro R N2 W g2 ho h1 h2 h3;refine hJ2 _ _ fun _=>?_;simp only[gd];unfold yB nz;refine aL ho (Qa (Bw.bytes R) W om) ?_;rintro _ w9 rfl ho;exact hK _ _ N2 _ 0 ho rfl (g.trans g2) ⟨R,rfl,h1,h2,h3⟩
  refine bF ho 0 rfl (UY ps pv N2 W (ho.hasM 0 rfl) (hps.le g2) hpo om) ?_;rintro _ N3 w5 g3 ⟨R2,rfl,h4,h5⟩ ho;have ho:OwnS M.A w w5 [.mem N3]:=ho;rw[fP ahF,fP ahF];simp only[rs];by_cases hlt:((Bw.bytes R2).length:Int) < ((Bw.bytes R).length:Int)
  ·simp only[hlt,agY,i_t];exact last R2 N3 w5 (g2.trans g3) ho h4 (by rw[<-hpe];exact h5) om
  ·simp only[hlt,agX,i_f];exact last R N3 w5 (g2.trans g3) ho h1 h2 h3
 refine bF ho 0 rfl (PG ps pv N w2 (ho.hasM 0 rfl) hps hpo om) ?_;rintro _ N3 w5 g3 rfl ho;have ho:OwnS M.A w w5 [.mem N3]:=ho;rw[fP ahF,fP ahF];simp only[rs];have hle:=Df.TG s;by_cases hlt:((Bw.bytes (Df.fixed ps)).length:Int) < ((Bw.bytes (Df.stored s)).length:Int)
 ·simp only[hlt,agY,i_t];exact next (Df.fixed ps) N3 w5 g3 ho (Df.U3 ps) (by rw[<-hpe];exact Df.PF hpo) om
 ·simp only[hlt,agX,i_f];exact next (Df.stored s) N3 w5 g3 ho (Df.Q3 s) (Df.MW s) hle
theorem Zl.Q2 {R:List Nat}{s:List UInt8}(h:Df.good R s)(hok:Bw.ok R)(hs:s.length<=1048576):Zl.lF ([120,156]++Bw.bytes R++Zl.four (Zl.vO s)) 1048576=(s,0):=by
 have h4:(Zl.four (Zl.vO s)).length=4:=rfl;unfold Zl.lF;have hd:([120,156]++Bw.bytes R++Zl.four (Zl.vO s)).drop 2=Bw.bytes R++Zl.four (Zl.vO s):=rfl;have hb:¬Zl.bad (([120,156]++Bw.bytes R++Zl.four (Zl.vO s)).getD 0 0).toNat (([120,156]++Bw.bytes R++Zl.four (Zl.vO s)).getD 1 0).toNat=true:=show ¬Zl.bad 120 156=true by decide
 rw[agV sm,agV hb,hd,Df.UU h hok om hs];simp only[];have hl:([120,156]++Bw.bytes R++Zl.four (Zl.vO s)).length=2+(Bw.bytes R).length+4:=by simp only[agZ,h4];simp
 have hd2:([120,156]++Bw.bytes R++Zl.four (Zl.vO s)).drop (2+(Bw.bytes R).length)=Zl.four (Zl.vO s):=by
  have e:2+(Bw.bytes R).length=([120,156]++Bw.bytes R:List UInt8).length:=by simp;omega
  rw[e,List.drop_left]
 rw[agV sm,agV (by rw[hl];omega),hd2,agV (by rw[aiF (Nat.le_of_eq h4)];simp)]
theorem QV (s:List UInt8)(M:Mem)(w:World)(hM:M.has w)(hs:s.length<=1048576) :
  RetM prog 191 #[strK s,.int .i64 2] M w (fun v _=>∃t,v=.tuple #[strK t,.int .i64 0]∧Zl.lF t 1048576=(s,0)∧t.length<=2*s.length+16):=by
 refine aT hM fun K hK=>HL ?_;unfold Gc nz;have ho:OwnS M.A w w [.mem M]:=OwnS.memS hM;refine bF ho 0 rfl (Vi s M w hM hs) ?_;rintro _ N w1 g ⟨R,rfl,h1,h2,h3⟩ ho;have ho:OwnS M.A w w1 [.mem N]:=ho;simp only[ex,gD,rs,show decide ((0:Int)≠0)=false from rfl,i_f];rw[show (Value.string ⟨#[120,156]⟩)=.string ⟨([120,156]:List UInt8).toArray⟩ from rfl,UN (by simp;omega)];refine aL ho (NL s w1 om) ?_;rintro _ w2 rfl ho;refine aL ho (Lc (Zl.vO s) w2) ?_;rintro _ w3 rfl ho;rw[UN (by simp[Zl.four];omega)];exact hK _ _ N _ 0 ho rfl g ⟨_,rfl,Zl.Q2 h2 h1 hs,by simp[Zl.four];omega⟩
end
section
open Eng Go.RowKit
theorem u8Sl {l:List UInt8}(hs:Sl w v 1 l.length (aH l))(hi:i < l.length) :
  ∃p,(mIA 53 v (.int .i64 (i:Int))).run prog w=.ok (.value (.pointer (some p))) w∧(aI 5 (.pointer (some p))).run prog w=.ok (.value (.int .u8 (l[i].toNat:Int))) w:=by
 obtain⟨b,off,cap,rfl,hc⟩:=cB hs om;refine⟨⟨b,off+i,none⟩,?_,?_⟩
 ·have:=eE (P:=prog) (T:=53) (b:=b) (off:=off) (cap:=cap) (n:=l.length) (k:=.i64) (i:=(i:Int)) (w:=w) ahX (show (Tryz.prog.info? 5).map (·.size)=some 1 by kernel_rfl) om om;rw[ahI,ahZ] at this;exact this
 ·refine bI (AtV.cell nU8l (hc _ _ (gQ hi)))
section
variable {w:World}{PK:PKT}{K:VWP}{S:Nat->Prop}{w0:World}{L:List Ent}
end
section
variable {w:World}{PK:PKT}{K:VWP}{S:Nat->Prop}{w0:World}{L:List Ent}
end
end
section
open Eng Go.RowKit
def Pr.T (x:Pm):List UInt8->List UInt8->Nat:=Pr.tag x.p x.c
def Pr.why (x:Pm)(s:List UInt8):Int:=
 if ¬x.ok then 1
 else if 1048576 < s.length then 5
 else if x.p=1 then 0
 else if s.length % (x.c*x.n).toNat≠0 then 16
 else if 10<=x.p∧1048576 < s.length+s.length / (x.c*x.n).toNat then 5
 else 0
def Pr.encode (x:Pm)(s:List UInt8):List UInt8:=if x.p=1 then s else Pr.enc (Pr.T x) x.c (x.c*x.n).toNat x.head (s.length+1) s []
theorem Pr.OG {s:List UInt8}(h:Pr.why x s=0):Pr.decode x (Pr.encode x s)=(s,0)∧(Pr.encode x s).length<=1048576:=by
 unfold Pr.why at h;by_cases h1:x.ok
 case neg=>rw[agW h1] at h;cases h
 rw[agV (by simp[h1])] at h;by_cases h2:1048576 < s.length
 ·rw[agW h2] at h;cases h
 rw[agV h2] at h;have hmp:=Pm.mul_pos h1;obtain⟨n,hn⟩:∃n:Nat,x.c*x.n=(n:Int):=⟨(x.c*x.n).toNat,om⟩;unfold Pr.decode Pr.encode;rw[hn] at h hmp ⊢;rw[ahI] at h ⊢;by_cases h3:x.p=1
 ·simp only[agW h3];rw[agV (by simp[h1]),agV om];exact⟨rfl,om⟩
 rw[agV h3] at h;simp only[agV h3];by_cases h4:s.length % n=0
 case neg=>rw[agW h4] at h;cases h
 rw[agV (by simp[h4])] at h;have hn1:0 < n:=om
 have hk:s.length=s.length / n*n:=by
  have:=Nat.div_add_mod s.length n;rw[h4,aiZ,akE] at this;exact this.symm
 have hh:x.head=0∨x.head=1:=by unfold Pm.head;split<;>simp
 have hlen:=Pr.Rq (T:=Pr.T x) (c:=x.c) hn1 hh (s.length / n) (s.length+1) s [] hk om;have hkn:x.p=2∨(10<=x.p∧x.p<=15):=by
  rcases h1.1 with h|h|h
  ·exact absurd h h3
  ·exact .inl h
  ·exact .inr h
 have hback:=Pr.NK (T:=Pr.T x) (c:=x.c) h1.2.1 hn1 hh (fun a b=>Pr.abR hkn x.c a b) (fun h0 a b=>by
  unfold Pm.head at h0;have:x.p=2:=by
   rcases hkn with h|h
   ·exact h
   ·rw[agW h.1] at h0;cases h0
  unfold Pr.T Pr.tag;rw[agW this]) (s.length / n) (s.length+1) ((Pr.enc (Pr.T x) x.c n x.head (s.length+1) s []).length+1) s [] [] hk om (by
   rw[hlen];have:s.length / n*1<=s.length / n*(n+x.head):=Nat.mul_le_mul_left _ om;omega)
 have hle:(Pr.enc (Pr.T x) x.c n x.head (s.length+1) s []).length<=1048576:=by
  rw[hlen,Nat.mul_add,<-hk];have hd:x.head=if 10<=x.p then 1 else 0:=rfl
  by_cases h10:10<=x.p
  ·rw[agW h10] at hd;rw[hd,ahZ];refine Nat.le_of_not_lt fun hlt=>?_;rw[agW ⟨h10,hlt⟩] at h;cases h
  ·rw[agV h10] at hd;rw[hd];omega
 refine⟨?_,hle⟩;rw[agV (by simp[h1]),agV om,agV (by rw[hlen,Nat.mul_mod_left];simp),hback];rfl
def encT (r:List UInt8)(e:Int):Value:=.tuple #[.string ⟨r.toArray⟩,.int .i64 e]
end
section
open Eng Go.RowKit
theorem Lk (x:Pm)(h3:x.p=1)(s:List UInt8)(w:World)(hs:s.length<=1000000000):Ret prog 193 #[pmV x,.string ⟨s.toArray⟩] w (fun v w'=>v=zlT (Pr.decode x s)∧Below w.heap.size w w'):=by
 refine aP fun K hK=>Bh ?_;generalize hX:Pr.decode x s=X at hK;unfold Pr.decode at hX;unfold uM nz;refine Hm x (Own.start w) fun b w1 ho=>?_;rw[pm_v ho 0 rfl];refine aL ho (OO x w1) ?_;rintro _ w2 rfl ho;rw[FO];refine join fun J hJ=>?_;rw[fpm0,pm_0 ho 0 rfl]
 try simp only[rs]
 have main:J [.int .i64 (x.head:Int)] w2:=by
  refine hJ _ _ fun _=>?_;simp only[pF,gd,nz];rw[pm_v ho 0 rfl];have hh:x.head<=1:=by unfold Pm.head;split<;>omega
  obtain⟨n,hn,hn1,hn2⟩:∃n:Nat,max (if x.ok then x.c*x.n else 0) 1=(n:Int)∧1<=n∧n<=8192:=by
   by_cases h:x.ok
   ·rw[agW h];have h1:=Pm.mul_pos h;have h2:=h.2.2.2.2;exact⟨(x.c*x.n).toNat,om,om,om⟩
   ·rw[agV h];exact⟨1,dc,dc,dc⟩
  rw[hn]
  try simp only[rs]
  rw[aA om om,show (n:Int)+(x.head:Int)=((n+x.head:Nat):Int) by omega];refine aL ho (FW x s (n+x.head) w2 om hs) ?_;rintro _ w3 rfl ho;simp only[gD];by_cases h:x.ok
  case neg=>
   rw[agW h] at hX ⊢;simp only[show decide ((1:Int)≠0)=true from rfl,i_t];exact hK _ _ ⟨by rw[<-hX];rfl,ho.done⟩
  rw[agV (by simp[h])] at hX ⊢;have hn':(x.c*x.n).toNat=n:=by
   rw[agW h] at hn;have h1:=Pm.mul_pos h;omega
  rw[hn'] at hX;by_cases h2:1048576 < s.length
  ·rw[agW h2] at hX ⊢;simp only[show decide ((5:Int)≠0)=true from rfl,i_t];exact hK _ _ ⟨by rw[<-hX];rfl,ho.done⟩
  rw[agV h2] at hX ⊢
  ·rw[agV (by simp[h3])];rw[agW h3] at hX;simp only[show decide ((0:Int)≠0)=false from rfl,i_f];rw[fpm0,pm_0 ho 0 rfl];simp only[h3,rs,agY,i_t];exact hK _ _ ⟨by rw[<-hX];rfl,ho.done⟩
 have hh:x.head=0:=by unfold Pm.head;rw[agV om]
 rw[hh] at main;simp only[show decide ((10:Int)<=x.p)=false from ahA om,i_f];exact main
theorem KB (x:Pm)(h3:x.p=1)(s:List UInt8)(w:World)(hs:s.length<=1000000000):Ret prog 190 #[pmV x,.string ⟨s.toArray⟩] w (fun v w'=>v=encT (if Pr.why x s=0 then Pr.encode x s else []) (Pr.why x s)∧Below w.heap.size w w'):=by
 refine aP fun K hK=>Be ?_;generalize hX:Pr.why x s=X at hK;unfold Pr.why at hX;unfold uJ nz;refine Hm x (Own.start w) fun b w1 ho=>?_;rw[pm_v ho 0 rfl];refine aL ho (OO x w1) ?_;rintro _ w2 rfl ho;rw[FO,pm_v ho 0 rfl];obtain⟨n,hn,hn1,hn2⟩:∃n:Nat,max (if x.ok then x.c*x.n else 0) 1=(n:Int)∧1<=n∧n<=8192:=by
  by_cases h:x.ok
  ·rw[agW h];have h1:=Pm.mul_pos h;have h2:=h.2.2.2.2;exact⟨(x.c*x.n).toNat,om,om,om⟩
  ·rw[agV h];exact⟨1,dc,dc,dc⟩
 rw[hn];refine aL ho (FW x s n w2 om hs) ?_;rintro _ w3 rfl ho;simp only[gD];by_cases h:x.ok
 case neg=>
  rw[agW h] at hX ⊢;simp only[show decide ((1:Int)≠0)=true from rfl,i_t];exact hK _ _ ⟨by rw[<-hX];rfl,ho.done⟩
 rw[agV (by simp[h])] at hX ⊢;have hn':(x.c*x.n).toNat=n:=by
  rw[agW h] at hn;have h1:=Pm.mul_pos h;omega
 rw[hn'] at hX;by_cases h2:1048576 < s.length
 ·rw[agW h2] at hX ⊢;simp only[show decide ((5:Int)≠0)=true from rfl,i_t];exact hK _ _ ⟨by rw[<-hX];rfl,ho.done⟩
 rw[agV h2] at hX ⊢
 ·rw[agV (by simp[h3])];rw[agW h3] at hX;simp only[show decide ((0:Int)≠0)=false from rfl,i_f];rw[fpm0,pm_0 ho 0 rfl];simp only[h3,rs,agY,i_t];exact hK _ _ ⟨by rw[<-hX];unfold Pr.encode;rw[agW rfl,agW h3];rfl,ho.done⟩
def PdR (x:Pm):Prop:=∀(s:List UInt8) (w:World),s.length<=1000000000->Ret prog 193 #[pmV x,.string ⟨s.toArray⟩] w (fun v w'=>v=zlT (Pr.decode x s)∧Below w.heap.size w w')
def PeR (x:Pm):Prop:=∀(s:List UInt8) (w:World),s.length<=1000000000->Ret prog 190 #[pmV x,.string ⟨s.toArray⟩] w (fun v w'=>v=encT (if Pr.why x s=0 then Pr.encode x s else []) (Pr.why x s)∧Below w.heap.size w w')
theorem pdR1 (h:x.p=1):PdR x:=Lk x h
theorem peR1 (h:x.p=1):PeR x:=KB x h
end
section
open Eng Go.RowKit
theorem Pr.KX (c:Int)(n h:Nat):∀(f:Nat) (s prev out:List UInt8),(Pr.Mi c n h f s prev out).1.length<=out.length+s.length
|0,_,_,_=>ahW _
|f+1,s,prev,out=>by
  unfold Pr.Mi;split
  ·exact Nat.le_add_right _ _
  generalize (if h=1 then (s.getD 0 0).toNat else 1:Nat)=tag;split
  ·exact ahW _
  dsimp only;have hl:(Pr.decG (tag:Int) prev c [] ((s.drop h).take n)).length=min n (s.length - h):=by
   rw[Pr.O6,ahE,ahL];simp
  generalize Pr.decG (tag:Int) prev c [] ((s.drop h).take n)=row at hl;have:=Pr.KX c n h f (s.drop (n+h)) row (out++row);rw[agZ,ahL] at this;omega
theorem Pr.Ph (x:Pm)(s:List UInt8):(Pr.decode x s).1.length<=s.length:=by
 unfold Pr.decode;split
 ·exact ahW _
 split
 ·exact ahW _
 split
 ·exact ahD _
 split
 ·exact ahW _
 ·have:=Pr.KX x.c (x.c*x.n).toNat x.head (s.length+1) s [] [];simpa using this
namespace Ff
def undo (n:List UInt8)(p:Pm)(s:List UInt8):List UInt8×Int:=
 if full n=nHx then Ax.unhex s 1048576
 else if full n=n85 then Ax.Oy s 1048576
 else if full n=nRL then Ax.U1 s 1048576
 else if full n=nFl then
  if ¬p.ok then ([],1)
  else if (Zl.lF s 1048576).2≠0 then ([],(Zl.lF s 1048576).2)
  else Pr.decode p (Zl.lF s 1048576).1
 else ([],15)
def chain:List (List UInt8)->List Pm->List UInt8->List UInt8×Int
|n::ns,p::ps,s=>if (undo n p s).2≠0 then ([],(undo n p s).2) else chain ns ps (undo n p s).1
|_,_,s=>(s,0)
def decode (o:Ob):List UInt8×Int:=if (of o).2.2≠0 then ([],(of o).2.2) else chain (of o).1 (of o).2.1 o.s
theorem Zu {o:Ob}:(of o).2.1.length=(of o).1.length:=by
 unfold of;by_cases h1:o.k≠9
 ·rw[agW h1];rfl
 rw[agV h1];by_cases h2:(names o).2≠0
 ·rw[agW h2];rfl
 rw[agV h2];by_cases h3:(rQ o (names o).1.length).2≠0
 ·rw[agW h3];rfl
 rw[agV h3];split
 ·rfl
 ·exact KZ (Decidable.not_not.1 h3)
end Ff
theorem Qn:bZ prog 173=true:=krx
theorem Iu:bZ prog 171=true:=krx
theorem Ke:bZ prog 122=true:=krx
theorem L1:bZ prog 116=true:=krx
theorem Lh:bZ prog 118=true:=krx
theorem Mf:bZ prog 120=true:=krx
theorem nFnU:eF prog 94=true:=krx
theorem nFnS:eF prog 36=true:=krx
theorem nFnW:eF prog 89=true:=krx
theorem TO:fOff prog 91 0=some 0:=krx
theorem V8:fOff prog 91 1=some 1:=krx
theorem szWy:(Tryz.prog.info? 91).map (·.size)=some 2:=krx
theorem TC:aggN prog 91=some 2:=krx
theorem ZL:aggN prog 143=some 3:=krx
theorem szFt:(Tryz.prog.info? 143).map (·.size)=some 3:=krx
theorem WI:fOff prog 143 0=some 0:=krx
def fnV (f:Nat):Value:=.func (.func f) #[] #[]
def zU (b:Nat):Value:=.func (.func 173) #[] #[.pointer (some ⟨b,0,none⟩)]
def yI (b:Nat):Value:=.func (.func 171) #[] #[.pointer (some ⟨b,0,none⟩)]
def JE (x:Pm):Value:=.func (.func 121) #[pmV x] #[]
def sZ (x:Pm):Value:=.func (.func 122) #[pmV x] #[]
abbrev upE (b f:Nat):Ent:=.cells b [fnV f] 94
abbrev Km (b f:Nat):Ent:=.cells b [fnV f] 36
def wyC (p u:Value):List Value:=[p,u]
abbrev wyE (b:Nat)(p u:Value):Ent:=.cells b (wyC p u) 91
section
variable {w:World}{PK:PKT}{K:VWP}{S:Nat->Prop}{w0:World}{L:List Ent}
theorem Rm (ho:OwnS S w0 w L)(k:∀b W,OwnS S w0 W (upE b f::L)->K (zU b) W):CallX prog 115 #[.func (.func f) #[] #[]] w PK K:=by
 refine fH (EN (K:=RetK fun v W=>∃b,v=zU b∧OwnS S w0 W (upE b f::L)) ?_) (fun e W ⟨v,he,b,hv,ho⟩=>by subst he;subst hv;exact k b W ho);unfold CO nz;refine bC (fun b=>.pointer (some ⟨b,0,none⟩)) [fnV f] 94 (fun _=>by kernel_rfl) ho fun b w1 ho=>?_;rw[yF];exact retK ⟨b,rfl,ho⟩
theorem Q7 (ho:OwnS S w0 w L)(k:∀b W,OwnS S w0 W (Km b f::L)->K (yI b) W):CallX prog 113 #[.func (.func f) #[] #[]] w PK K:=by
 refine fH (EW (K:=RetK fun v W=>∃b,v=yI b∧OwnS S w0 W (Km b f::L)) ?_) (fun e W ⟨v,he,b,hv,ho⟩=>by subst he;subst hv;exact k b W ho);unfold CK nz;refine bC (fun b=>.pointer (some ⟨b,0,none⟩)) [fnV f] 36 (fun _=>by kernel_rfl) ho fun b w1 ho=>?_;rw[yF];exact retK ⟨b,rfl,ho⟩
theorem Y5 {fn fn2:Fn}{a b a2 b2:Array Value}:DoX prog (aZ 91 #[(0,.func fn a b),(1,.func fn2 a2 b2)]) w PK K=K (.agg (wyC (.func fn a b) (.func fn2 a2 b2)).toArray) w:=aE krx
theorem XV {n:List UInt8}(ho:OwnS S w0 w L)
  (ka:∀(f g:Nat),(Ff.full n=Ff.nHx∧f=114∧g=116)∨(Ff.full n=Ff.n85∧f=117∧g=118)∨(Ff.full n=Ff.nRL∧f=119∧g=120)->∀b1 b2 W,OwnS S w0 W (upE b2 g::Km b1 f::L)->K (.tuple #[.agg (wyC (yI b1) (zU b2)).toArray,.int .i64 0]) W)
  (kl:Ff.full n=Ff.nFl->∀W,OwnS S w0 W L->K (.tuple #[.agg (wyC (JE x) (sZ x)).toArray,.int .i64 (if x.ok then 0 else 1)]) W)
  (kn:Ff.full n=[]->∀W,OwnS S w0 W L->K (.tuple #[.agg (wyC .nilFunc .nilFunc).toArray,.int .i64 15]) W):CallX prog 54 #[.string ⟨n.toArray⟩,pmV x] w PK K:=by
 refine⟨HE ?_⟩;unfold G1 nz;refine Hm x ho fun b3 w1 ho=>?_;refine bC (fun b=>.pointer (some ⟨b,0,none⟩)) (wyC .nilFunc .nilFunc) 91 (fun _=>by kernel_rfl) ho fun b4 w2 ho=>?_;refine c_eq (BC n w2) ?_;simp only[ex,rs];have one:∀{fn fn2:Fn} {a b a2 b2:Array Value},∀u∈wyC (.func fn a b) (.func fn2 a2 b2),u.oneCell'=true:=by
  intro fn fn2 a b a2 b2 u hu;simp only[wyC,ahG,ajH,or_false] at hu;rcases hu with rfl|rfl<;>rfl
 have fr:∀{W:World} {a b c d:Ent},OwnS S w0 W (a::b::c::d::L)->OwnS S w0 W (a::b::L):=fun ho=>ho.sub (.cons_cons _ (.cons_cons _ (.cons _ (.cons _ (alR _)))));have hf:=Ff.nG n;by_cases h0:Ff.full n=[]
 ·simp only[ahA (show ¬Ff.full n≠[] from fun h=>h h0),aiR,i_t];refine aE (show (aZ 91 #[]).run prog w2=.ok (.value (.agg (wyC .nilFunc .nilFunc).toArray)) w2 by kernel_rfl) |>.mpr ?_;refine iE 0 ho rfl (new:=wyC .nilFunc .nilFunc) szWy (fun u hu=>by
   simp only[wyC,ahG,ajH,or_false] at hu;rcases hu with rfl|rfl<;>rfl) rfl fun w3 ho=>?_
  exact Bp (bH (ho.agg 0 rfl TC)) F2 (kn h0 w3 ho.tail.tail)
 simp only[ahB (show Ff.full n≠[] from h0),aiQ,i_f];by_cases h1:Ff.full n=Ff.nHx
 ·simp only[ahB h1,i_t];refine Q7 ho fun b1 w3 ho=>?_;refine Rm ho fun b2 w4 ho=>?_;unfold yI zU;rw[Y5];refine iE 2 ho rfl (new:=wyC (yI b1) (zU b2)) szWy one rfl fun w5 ho=>?_;exact Bp (bH (ho.agg 2 rfl TC)) F2 (ka _ _ (.inl ⟨h1,rfl,rfl⟩) b1 b2 w5 (fr ho))
 simp only[ahA h1,i_f]
 try simp only[rs]
 by_cases h2:Ff.full n=Ff.n85
 ·simp only[ahB h2,i_t];refine Q7 ho fun b1 w3 ho=>?_;refine Rm ho fun b2 w4 ho=>?_;unfold yI zU;rw[Y5];refine iE 2 ho rfl (new:=wyC (yI b1) (zU b2)) szWy one rfl fun w5 ho=>?_;exact Bp (bH (ho.agg 2 rfl TC)) F2 (ka _ _ (.inr (.inl ⟨h2,rfl,rfl⟩)) b1 b2 w5 (fr ho))
 simp only[ahA h2,i_f]
 try simp only[rs]
 by_cases h3:Ff.full n=Ff.nRL
 ·simp only[ahB h3,i_t];refine Q7 ho fun b1 w3 ho=>?_;refine Rm ho fun b2 w4 ho=>?_;unfold yI zU;rw[Y5];refine iE 2 ho rfl (new:=wyC (yI b1) (zU b2)) szWy one rfl fun w5 ho=>?_;exact Bp (bH (ho.agg 2 rfl TC)) F2 (ka _ _ (.inr (.inr ⟨h3,rfl,rfl⟩)) b1 b2 w5 (fr ho))
 simp only[ahA h3,i_f];have h4:Ff.full n=Ff.nFl:=by
  rcases hf with h|h|h|h|h
  ·exact absurd h h1
  ·exact absurd h h2
  ·exact absurd h h3
  ·exact h
  ·exact absurd h h0
 rw[pm_v ho 1 rfl];refine aE (show (aZ 143 #[(0,pmV x)]).run prog w2=.ok (.value (.agg (pmC x).toArray)) w2 by kernel_rfl) |>.mpr ?_;refine bC (fun b=>.pointer (some ⟨b,0,none⟩)) (pmC ⟨0,0,0⟩) 143 (fun _=>by kernel_rfl) ho fun b8 w3 ho=>?_;refine iE 0 ho rfl (new:=pmC x) szFt MU rfl fun w4 ho=>?_;have ho:OwnS S w0 w4 (.cells b8 (pmC x) 143::wyE b4 .nilFunc .nilFunc::pmE b3 x::L):=ho;refine eB (fun W=>OwnS S w0 W (.cells b8 (pmC x) 143::wyE b4 .nilFunc .nilFunc::pmE b3 x::L)) ho.drew ?_;refine q_at (pmV x) (fun W h=>bI (h.agg 0 rfl ZL)) ?_;refine q_do (JE x) (fun _=>bL rfl) ?_;refine q_at (pmV x) (fun W h=>bI (h.agg 0 rfl ZL)) ?_;refine q_do (sZ x) (fun _=>bL rfl) ?_;refine q_do (.agg (wyC (JE x) (sZ x)).toArray) (fun _=>by kernel_rfl) ?_;refine q_at (pmV x) (fun W h=>bI (h.agg 2 rfl Fg)) ?_;refine uO _ (fun W h=>(Iw x W).mono fun v w' ⟨k1,k2⟩=>⟨k1,h.grow k2⟩) ?_;intro w5 ho;refine iE 1 ho rfl (new:=wyC (JE x) (sZ x)) szWy one rfl fun w6 ho=>?_;exact Bp (bH (ho.agg 1 rfl TC)) F2 (kl h4 w6 ho.tail.tail.tail)
end
theorem Qz (b f:Nat)(s:List UInt8)(D:List UInt8×Int)(M:Mem)(w:World)(hp:bZ prog f=true)(hb:(upE b f).is w)(hM:M.has w)
  (h:RetM prog f #[.string ⟨s.toArray⟩,.int .i64 1048576] M w (fun v _=>v=zlT D∧D.1.length<=1048576)):RetM prog 173 #[.string ⟨s.toArray⟩,.pointer (some ⟨b,0,none⟩)] M w (fun v _=>v=zlT D∧D.1.length<=1048576):=by
 refine aT hM fun K hK=>Bj ?_;unfold xO nz;rw[aO nFnU (aG (T:=94) (cs:=[fnV f]) hb (i:=0) rfl)];unfold fnV;refine EI hp (bF (OwnS.memS hM) 0 rfl h ?_);rintro _ N w1 g1 ⟨rfl,hl⟩ ho;simp only[zlT,ex];exact hK _ _ N _ 0 ho rfl g1 ⟨rfl,hl⟩
theorem LO (x:Pm)(hP:PdR x)(s:List UInt8)(M:Mem)(w:World)(hrp:Rp M)(hod:Od M)(hs:s.length<=1000000000)(hM:M.has w) :
  RetM prog 122 #[pmV x,.string ⟨s.toArray⟩] M w (fun v _=>v=zlT (if (Zl.lF s 1048576).2≠0 then ([],(Zl.lF s 1048576).2) else Pr.decode x (Zl.lF s 1048576).1)∧(Zl.lF s 1048576).1.length<=1048576):=by
 refine aT hM fun K hK=>rC ?_;unfold lC nz;refine bC (fun b=>.pointer (some ⟨b,0,none⟩)) (pmC x) 143 (fun _=>by kernel_rfl) (OwnS.memS hM) fun b2 w1 ho=>?_;refine bF ho 1 rfl (LY s 1048576 M w1 hrp hod hs (ho.hasM 1 rfl)) ?_;rintro _ N w2 g1 ⟨rfl,hl⟩ ho;generalize Zl.lF s 1048576=U at hK hl;obtain⟨t,e⟩:=U;dsimp only at hK hl;simp only[zlT,ex,gD];by_cases he:e=0
 case neg=>
  rw[agW he] at hK;simp only[ahB (show e≠0 from he),i_t];exact hK _ _ N _ 1 ho rfl g1 ⟨rfl,hl⟩
 rw[agV (fun h=>h he)] at hK;simp only[ahA (show ¬e≠0 from fun h=>h he),i_f];rw[aK WI,l_at (T:=27) (v:=pmV x) (AtV.agg Fg (cs:=pmC x) rfl fun j u hj=>by rw[aiZ,ahJ];exact ho.cell 0 rfl j hj)];refine aL ho (hP t w2 om) ?_;rintro _ w3 rfl ho;simp only[zlT,ex];exact hK _ _ N _ 1 ho rfl g1 ⟨rfl,hl⟩
theorem JA (n:List UInt8)(x:Pm)(hP:PdR x)(s:List UInt8)(M:Mem)(w:World)(hrp:Rp M)(hod:Od M)(hpw:Pws M)(hs:s.length<=1000000000)(hM:M.has w) :
  RetM prog 15 #[.string ⟨n.toArray⟩,pmV x,.string ⟨s.toArray⟩] M w (fun v _=>v=zlT (Ff.undo n x s)∧(Ff.undo n x s).1.length<=1048576):=by
 refine aT hM fun K hK=>ET ?_;generalize hX:Ff.undo n x s=X at hK;unfold Ff.undo at hX;unfold CT nz;refine Hm x (OwnS.memS hM) fun b4 w1 ho=>?_;rw[pm_v ho 0 rfl];have wone:∀{p u:Value},p.oneCell'=true->u.oneCell'=true->∀y∈wyC p u,y.oneCell'=true:=by
  intro p u hp hu y hy;simp only[wyC,ahG,ajH,or_false] at hy;rcases hy with rfl|rfl<;>assumption
 refine XV ho (fun f g hfg b1 b2 w2 ho=>?_) (fun hf w2 ho=>?_) (fun hf w2 ho=>?_)
 ·simp only[ex];refine bC (fun b=>.pointer (some ⟨b,0,none⟩)) (wyC .nilFunc .nilFunc) 91 (fun _=>by kernel_rfl) ho fun b8 w3 ho=>?_;refine iE 0 ho rfl (new:=wyC (yI b1) (zU b2)) szWy (wone rfl rfl) rfl fun w4 ho=>?_;have ho:OwnS M.A w w4 [wyE b8 (yI b1) (zU b2),upE b2 g,Km b1 f,pmE b4 x,.mem M]:=ho;simp only[gD,show decide ((0:Int)≠0)=false from rfl,i_f];rw[aK V8,aO nFnW (ho.cell 0 rfl 1 rfl)];have hM4:=ho.hasM 4 rfl;have key:∃_:bZ prog g=true,RetM prog g #[.string ⟨s.toArray⟩,.int .i64 1048576] M w4 (fun v _=>v=zlT X∧X.1.length<=1048576):=by
   rcases hfg with ⟨h,_,rfl⟩|⟨h,_,rfl⟩|⟨h,_,rfl⟩
   ·rw[agW h] at hX;subst hX;exact⟨L1,Qf s 1048576 M w4 hs hM4⟩
   ·rw[agV (by rw[h];decide),agW h] at hX;subst hX;exact⟨Lh,Mq s 1048576 M w4 hpw hs hM4⟩
   ·rw[agV (by rw[h];decide),agV (by rw[h];decide),agW h] at hX;subst hX;exact⟨Mf,P7 s 1048576 M w4 hs hM4⟩
  obtain⟨hp,key⟩:=key;unfold zU;refine EI Qn (bF ho 4 rfl (Qz b2 g s X M w4 hp (ho.at_ 1 rfl) hM4 key) ?_);rintro _ N w5 g1 ⟨rfl,hl⟩ ho;simp only[zlT,ex];exact hK _ _ N _ 4 ho rfl g1 ⟨rfl,hl⟩
 ·rw[agV (by rw[hf];decide),agV (by rw[hf];decide),agV (by rw[hf];decide),agW hf] at hX;simp only[ex];refine bC (fun b=>.pointer (some ⟨b,0,none⟩)) (wyC .nilFunc .nilFunc) 91 (fun _=>by kernel_rfl) ho fun b8 w3 ho=>?_;refine iE 0 ho rfl (new:=wyC (JE x) (sZ x)) szWy (wone rfl rfl) rfl fun w4 ho=>?_;have ho:OwnS M.A w w4 [wyE b8 (JE x) (sZ x),pmE b4 x,.mem M]:=ho;simp only[gD];by_cases hx:x.ok
  case neg=>
   rw[agW hx] at hX;simp only[agV hx,show decide ((1:Int)≠0)=true from rfl,i_t];exact hK _ _ M _ 2 ho rfl M.le_refl ⟨by rw[<-hX];rfl,by rw[<-hX];exact ahW _⟩
  rw[agV (by simp[hx])] at hX;simp only[agW hx,show decide ((0:Int)≠0)=false from rfl,i_f];rw[aK V8,aO nFnW (ho.cell 0 rfl 1 rfl)];unfold sZ;refine EI Ke (bF ho 2 rfl (LO x hP s M w4 hrp hod hs (ho.hasM 2 rfl)) ?_);rintro _ N w5 g1 ⟨rfl,hl⟩ ho;rw[hX];simp only[zlT,ex];refine hK _ _ N _ 2 ho rfl g1 ⟨rfl,?_⟩;rw[<-hX];split
  ·exact ahW _
  ·exact ajZ (Pr.Ph _ _) hl
 ·rw[agV (by rw[hf];decide),agV (by rw[hf];decide),agV (by rw[hf];decide),agV (by rw[hf];decide)] at hX;simp only[ex];refine bC (fun b=>.pointer (some ⟨b,0,none⟩)) (wyC .nilFunc .nilFunc) 91 (fun _=>by kernel_rfl) ho fun b8 w3 ho=>?_;refine iE 0 ho rfl (new:=wyC .nilFunc .nilFunc) szWy (wone rfl rfl) rfl fun w4 ho=>?_;simp only[gD,show decide ((15:Int)≠0)=true from rfl,i_t];exact hK _ _ M _ 2 ho rfl M.le_refl ⟨by rw[<-hX];rfl,by rw[<-hX];exact ahW _⟩
end
section
open Eng Go.RowKit
theorem Ff.P3 {ns:List (List UInt8)}{ps:List Pm}(h1:i < ns.length)(h2:i < ps.length)(s:List UInt8) :
  Ff.chain (ns.drop i) (ps.drop i) s=if (Ff.undo ns[i] ps[i] s).2≠0 then ([],(Ff.undo ns[i] ps[i] s).2) else Ff.chain (ns.drop (i+1)) (ps.drop (i+1)) (Ff.undo ns[i] ps[i] s).1:=by
 rw[ajB h1,ajB h2,Ff.chain]
theorem Ff.QM {ns:List (List UInt8)}{ps:List Pm}(h1:ns.length<=i)(s:List UInt8):Ff.chain (ns.drop i) (ps.drop i) s=(s,0):=by
 rw[ajC h1];unfold Ff.chain;rfl
theorem Ff.abU {o:Ob}:(Ff.of o).1.length<=8:=by
 have:=@Ff.Rk o;unfold Ff.of;by_cases h1:o.k≠9
 ·rw[agW h1];exact ahW _
 rw[agV h1];by_cases h2:(Ff.names o).2≠0
 ·rw[agW h2];exact ahW _
 rw[agV h2];by_cases h3:(Ff.rQ o (Ff.names o).1.length).2≠0
 ·rw[agW h3];exact ahW _
 rw[agV h3];split
 ·exact ahW _
 ·exact this
section
variable {M:Mem}{vn vp:Value}{ns:List (List UInt8)}{ps:List Pm}
theorem AY (hn:SlA M.A M.w vn 1 ns.length (bG ns)):DoX prog (mB .len #[22] 3 #[false] #[vn]) W PK K=K (.int .i64 (ns.length:Int)) W:=by
 obtain⟨a,cap,rfl,_⟩:=hn.form;exact bA ahM
end
theorem IG (o:Ob)(hP:∀x∈(Ff.of o).2.1,PdR x)(v:Value)(M:Mem)(w:World)(hrp:Rp M)(hod:Od M)(hpw:Pws M)(hw:o.wt<=1000000000)(hM:M.has w)(hv:OV M.A M.w v o) :
  RetM prog 13 #[v] M w (fun r _=>r=zlT (Ff.decode o)):=by
 obtain⟨vk,vc,ocs,rfl,ha⟩:=hv.open;refine aT hM fun K hK=>BZ ?_;generalize hX:Ff.decode o=X at hK;unfold Ff.decode at hX;unfold wV nz;refine eW o ha.keys.one ha.kids.one (OwnS.memS hM) fun b1 w1 ho=>?_;rw[ob_v ho 0 rfl];refine bF ho 1 rfl (GD o _ M w1 hw (ho.hasM 1 rfl) hv) ?_;have hpl:=@Ff.Zu o;have hn8:=@Ff.abU o;generalize Ff.of o=F at hX hpl hn8 hP;obtain⟨ns,ps,e⟩:=F;dsimp only at hX hpl hn8 hP;rintro _ N w2 l1 ⟨vn,vp,rfl,hn,hp⟩ ho;dsimp only at hn hp;simp only[ex,nC (show [vn,vp,Value.int .i64 e][2]?=some (Value.int .i64 e) from rfl),nC (show [vn,vp,Value.int .i64 e][1]?=some vp from rfl),nC (show [vn,vp,Value.int .i64 e][0]?=some vn from rfl),gD];by_cases he:e=0
 case neg=>
  rw[agW he] at hX;simp only[ahB (show e≠0 from he),i_t];exact hK _ _ N _ 1 ho rfl l1 (by rw[<-hX];rfl)
 rw[agV (fun h=>h he)] at hX;simp only[ahA (show ¬e≠0 from fun h=>h he),i_f];rw[C5,ob_s ho 0 rfl,AY hn];have hol:o.s.length<=1000000000:=by
  have:o.s.length<=o.wt:=by rw[o.nE];omega
  omega
 refine loop (fun vs W=>∃(i:Nat) (s:List UInt8) (N2:Mem),vs=[.string ⟨s.toArray⟩,.int .i64 (i:Int)]∧i<=ns.length∧s.length<=1000000000∧N.le N2∧Ff.chain (ns.drop i) (ps.drop i) s=X∧OwnS M.A w W [obE b1 o vk vc,.mem N2]) (fun vs _=>ns.length - n1 vs) ⟨0,o.s,N,rfl,om,hol,N.le_refl,hX,ho⟩ ?_;clear ho hX;rintro vs w3 ⟨i,s,N2,rfl,hi,hs,l2,hX,ho⟩ _;simp only[sK,gd,rs,nz];by_cases hlt:(i:Int) < (ns.length:Int)
 ·simp only[hlt,agY,i_t];have hi':i < ns.length:=om
  have hip:i < ps.length:=om
  rw[Ff.P3 hi' hip] at hX;obtain⟨p,hia,hld⟩:=MD (hn.le l2) hi';rw[aE (hia w3),aE (hld w3 (ho.hasM 1 rfl))];obtain⟨p2,hia2,hld2⟩:=pmAt (hp.le l2) hip;rw[aE (hia2 w3),aE (hld2 w3 (ho.hasM 1 rfl))];refine bF ho 1 rfl (JA ns[i] ps[i] (hP _ (ahP hip)) s N2 w3 ((hrp.le l1).le l2) ((hod.le l1).le l2) ((hpw.le l1).le l2) hs (ho.hasM 1 rfl)) ?_;rintro _ N3 w4 l3 ⟨rfl,hl⟩ ho;generalize Ff.undo ns[i] ps[i] s=U at hX hl;obtain⟨t,ue⟩:=U;dsimp only at hX hl;simp only[zlT,ex,gD];by_cases hu:ue=0
  case neg=>
   rw[agW hu] at hX;simp only[ahB (show ue≠0 from hu),i_t];exact hK _ _ N3 _ 1 ho rfl ((l1.trans l2).trans l3) (by rw[<-hX];rfl)
  rw[agV (fun h=>h hu)] at hX;simp only[ahA (show ¬ue≠0 from fun h=>h hu),i_f]
  try simp only[rs]
  rw[aA om om];exact aY ⟨i+1,t,N3,rfl,om,om,l2.trans l3,hX,ho⟩ (by simp[n1,RowKit.intOf];omega)
 simp only[hlt,agX,i_f];rw[Ff.QM om] at hX;exact hK _ _ N2 _ 1 ho rfl (l1.trans l2) (by rw[<-hX];rfl)
end
section
open Eng Go.RowKit
theorem Jf:∀s:List UInt8,(Oc.hex s).length=2*s.length
|[]=>rfl
|c::s=>by
  have h:Oc.hex (c::s)=Oc.hex1 c++Oc.hex s:=by unfold Oc.hex;rw[aiT]
  rw[h,agZ,Jf s,ahU];show 2+_=_;omega
theorem Ou (s:List UInt8)(w:World)(hs:s.length<=1000000):Ret prog 114 #[.string ⟨s.toArray⟩] w (fun v w'=>v=.string ⟨(Oc.hex s++[62]).toArray⟩∧Below w.heap.size w w'):=by
 refine aP fun K hK=>HO ?_;unfold GK nz;refine aL (Own.start w) (Xe s w hs) ?_;rintro _ w1 rfl ho;have hl:(Oc.hex s).length<=2000000:=by rw[Jf];omega
 rw[show (Value.string ⟨#[62]⟩)=.string ⟨([62]:List UInt8).toArray⟩ from rfl,UN (by simp;omega)];exact hK _ _ ⟨rfl,ho.done⟩
def Ax.lL (c:UInt8):Nat->List UInt8->Nat
|0,_=>0
|_,[]=>0
|f+1,d::r=>if d=c then Ax.lL c f r+1 else 0
def Ax.alike (s:List UInt8):Nat:=Ax.lL (s.getD 0 0) 128 s
theorem Ax.Dd (c:UInt8):∀(f:Nat) (s:List UInt8),Ax.lL c f s<=f∧Ax.lL c f s<=s.length
|0,s=>by unfold Ax.lL;omega
|f+1,[]=>by unfold Ax.lL;exact⟨om,sm⟩
|f+1,d::r=>by
  have:=Ax.Dd c f r;unfold Ax.lL;split
  ·rw[ahU];omega
  ·omega
theorem Kz {k:IntKind}{b:Int}:(mB .min #[T1,T2] U cb #[.int k a,.int k' b]).run prog W=.ok (.value (.int k (min a b))) W:=by
 have e:(if b < a then b else a)=min a b:=by split<;>omega
 simp[mB,builtin,Builtin.min_,Builtin.min2,e]
theorem Ax.PZ (c:UInt8)(f:Nat):Ax.lL c f []=0:=by cases f<;>rfl
theorem Iy (s:List UInt8)(w:World)(hs:s.length<=1000000000):Ret prog 186 #[.string ⟨s.toArray⟩] w (fun v w'=>v=.int .i64 (Ax.alike s:Int)∧Below w.heap.size w w'):=by
 refine aP fun K hK=>Fc ?_;unfold Bu nz;refine loop (fun vs W=>∃i:Nat,vs=[.int .i64 (i:Int)]∧i<=min s.length 128∧i+Ax.lL (s.getD 0 0) (128 - i) (s.drop i)=Ax.alike s∧Own w W []) (fun vs _=>s.length - n0 vs) ⟨0,rfl,om,by rw[ajL,ahJ];rfl,Own.start w⟩ ?_;rintro vs w1 ⟨i,rfl,hi,hX,ho⟩ _;simp only[xN,gd,nz];refine eB (fun W=>Own w W []) ho.drew ?_;refine O9 ahF (q_do (.int .i64 ((min s.length 128:Nat):Int)) (fun W=>?_) (LU ?_))
 ·have h:min (s.length:Int) 128=((min s.length 128:Nat):Int):=om
  rw[<-h];exact Kz
 by_cases hlt:i < min s.length 128
 case neg=>
  have hie:i=min s.length 128:=om
  rw[ahA (show ¬(i:Int) < ((min s.length 128:Nat):Int) by omega)];simp only[gq];refine q_pf ?_;intro w2 ho;rw[i_f];have:Ax.lL (s.getD 0 0) (128 - i) (s.drop i)=0:=by
   by_cases h:i=128
   ·rw[h];unfold Ax.lL;rfl
   ·rw[ajC om,Ax.PZ]
  rw[this,aiZ] at hX;exact hK _ _ ⟨by rw[hX],ho.done⟩
 rw[ahB (show (i:Int) < ((min s.length 128:Nat):Int) by omega)];have hi':i < s.length:=om
 simp only[gq];refine q_ix (c:=s[i]) ahF om (by rw[ahI];exact ahH hi') ?_;refine q_ix (c:=s.getD 0 0) ahF dc (get0 om) (q_eq (q_pt ?_));intro w2 ho;rw[ajB hi',show 128 - i=(128 - (i+1))+1 by omega,Ax.lL] at hX;by_cases he:s[i]=s.getD 0 0
 ·rw[agW he] at hX;rw[ahB (show (s[i].toNat:Int)=((s.getD 0 0).toNat:Int) by rw[he]),i_t]
  try simp only[rs]
  rw[aA om om];exact aY ⟨i+1,rfl,om,by rw[<-hX];omega,ho⟩ (by simp[n0,RowKit.intOf];omega)
 ·rw[agV he] at hX;rw[ahA (show ¬(s[i].toNat:Int)=((s.getD 0 0).toNat:Int) from fun h=>he (amZ.1 om)),i_f];exact hK _ _ ⟨by rw[<-hX];rfl,ho.done⟩
def Ax.litG:Nat->Nat->List UInt8->Nat
|0,n,_=>n
|f+1,n,s=>if n < min s.length 128∧Ax.alike (s.drop n) < 3 then Ax.litG f (n+1) s else n
def Ax.lit (s:List UInt8):Nat:=Ax.litG 128 1 s
theorem Ax.Te:∀(f n:Nat) (s:List UInt8),n<=min s.length 128->n<=Ax.litG f n s∧Ax.litG f n s<=min s.length 128
|0,n,s,h=>⟨ahD _,h⟩
|f+1,n,s,h=>by
  unfold Ax.litG;split
  ·rename_i hc
   have:=Ax.Te f (n+1) s om;omega
  ·exact⟨ahD _,h⟩
def Ax.sG:Nat->List UInt8->List UInt8
|0,_=>[]
|f+1,s=>
  if s=[] then [128]
  else if 3<=Ax.alike s then [UInt8.ofNat (257 - Ax.alike s),s.getD 0 0]++Ax.sG f (s.drop (Ax.alike s))
  else [UInt8.ofNat (Ax.lit s - 1)]++s.take (Ax.lit s)++Ax.sG f (s.drop (Ax.lit s))
def Ax.pack (s:List UInt8):List UInt8:=Ax.sG (s.length+1) s
section
variable {w:World}{PK:PKT}{K:Ending->World->Prop}{N1:List Value->World->Prop}{S:Nat->Prop}{w0:World}{L:List Ent}
theorem WU {n:Nat}{l t:List UInt8}(ho:OwnS S w0 w (Bld b v l::L))(h1:1<=n)(hn:n<=min t.length 128)(hl:l.length<=10000000000)
  (k:∀v' W,OwnS S w0 W (Bld b v' (l++[UInt8.ofNat (n - 1)]++t.take n)::L)->N1 [.string ⟨(t.drop n).toArray⟩] W) :
  DoX prog (gL 3 5 (.int .i64 (IntKind.i64.wrap ((n:Int) - 1)))) w (pk K) fun t40 w=>
 CallX prog 181 #[.pointer (some ⟨b,0,none⟩),t40] w (pk K) fun t41 w=>
 DoX prog (dB 9 (.string ⟨t.toArray⟩) none (some (.int .i64 (n:Int))) none) w (pk K) fun t44 w=>
 CallX prog 187 #[.pointer (some ⟨b,0,none⟩),t44] w (pk K) fun t45 w=>
 DoX prog (dB 9 (.string ⟨t.toArray⟩) (some (.int .i64 (n:Int))) none none) w (pk K) fun t48 w=>N1 [t48] w:=by
 rw[aA om om,show (n:Int) - 1=((n - 1:Nat):Int) by omega];refine aE (bO krx aiL) |>.mpr ?_;rw[DQ];refine oK 0 ho rfl (jM (c:=UInt8.ofNat (n - 1)) (ho.at_ 0 rfl) om) ?_;rintro _ _ w4 ⟨rfl,v',rfl⟩ ho;rw[OQ ahF om om,ahI];refine oK 0 ho rfl (Hd (ho.at_ 0 rfl) (by rw[agZ,ahE];show l.length+1+_<=_;omega)) ?_;rintro _ _ w5 ⟨⟨x,rfl⟩,v'',rfl⟩ ho;rw[Di ahF om om,ahI];exact k v'' w5 ho
end
theorem OE (s:List UInt8)(w:World)(hs:s.length<=1000000000):Ret prog 119 #[.string ⟨s.toArray⟩] w (fun v w'=>v=.string ⟨(Ax.pack s).toArray⟩∧Below w.heap.size w w'):=by
 refine aP fun K hK=>HG ?_;unfold Gx nz;refine bC (fun b=>.pointer (some ⟨b,0,none⟩)) [.pointer none,.slice none 0 0] 188 (fun _=>by kernel_rfl) (Own.start w) fun b w1 ho=>?_;have hB0:∃v0,Own w w1 [Bld b v0 []]:=⟨_,OwnS.Ei (l:=[]) (.inl rfl) K8 (ho.WG 5 1).swap⟩;obtain⟨v0,ho⟩:=hB0;refine loop (fun vs W=>∃(t:List UInt8) (v:Value) (l:List UInt8),vs=[.string ⟨t.toArray⟩]∧t.length<=s.length∧l.length+2*t.length<=2*s.length∧(∃f,t.length < f∧l++Ax.sG f t=Ax.pack s)∧Own w W [Bld b v l]) (fun vs _=>nS (vs.getD 0 undef)) ⟨s,v0,[],rfl,ahD _,sm,⟨s.length+1,om,rfl⟩,ho⟩ ?_;clear ho;rintro vs w2 ⟨t,v,l,rfl,ht,hl,⟨f,hf,hX⟩,ho⟩ _;simp only[Dj,gd,nz];obtain⟨f,rfl⟩:∃f',f=f'+1:=⟨f - 1,om⟩;unfold Ax.sG at hX;rw[show (Value.string ⟨#[]⟩)=.string ⟨([]:List UInt8).toArray⟩ from rfl,Qu];by_cases h0:t=[]
 ·rw[agW h0] at hX;rw[ahA (fun h=>h h0),i_f];refine oK 0 ho rfl (AL (n:=128) (k:=128) (ho.at_ 0 rfl) om rfl om) ?_;rintro _ _ w3 ⟨rfl,v',rfl⟩ ho;refine oK 0 ho rfl (Ca (ho.at_ 0 rfl)) ?_;rintro _ _ w4 ⟨rfl,rfl⟩ ho;exact hK _ _ ⟨by rw[<-hX];rfl,ho.done⟩
 rw[agV h0] at hX;rw[ahB (show t≠[] from h0),i_t];have htp:=akN.2 h0;refine aL ho (Iy t w2 om) ?_;rintro _ w3 rfl ho;have hal:Ax.alike t<=128∧Ax.alike t<=t.length:=Ax.Dd _ _ _
 try simp only[rs]
 by_cases h3:3<=Ax.alike t
 ·rw[agW h3] at hX;simp only[show decide ((3:Int)<=(Ax.alike t:Int))=true from ahB om,i_t];generalize Ax.alike t=n at *;rw[Vn,show min (n:Int) 128=(n:Int) by omega]
  try simp only[rs]
  rw[aA om om,show (257:Int) - (n:Int)=((257 - n:Nat):Int) by omega];refine aE (bO krx aiL) |>.mpr ?_;rw[DQ];refine oK 0 ho rfl (jM (c:=UInt8.ofNat (257 - n)) (ho.at_ 0 rfl) om) ?_;rintro _ _ w4 ⟨rfl,v',rfl⟩ ho;rw[s_ix (c:=t.getD 0 0) ahF dc (get0 htp)];refine oK 0 ho rfl (jM (c:=t.getD 0 0) (ho.at_ 0 rfl) (by rw[agZ];show l.length+1 < _;omega)) ?_;rintro _ _ w5 ⟨rfl,v'',rfl⟩ ho;rw[Di ahF om om,ahI];refine aY ⟨t.drop n,v'',_,rfl,by rw[ahL];omega,?_,⟨f,by rw[ahL];omega,?_⟩,ho⟩ ?_
  ·rw[agZ,agZ,ahL];show l.length+1+1+_<=_;omega
  ·rw[<-hX];simp[ahK]
  ·show nS (.string ⟨(t.drop n).toArray⟩) < nS (.string ⟨t.toArray⟩);rw[gY,gY,ahL];omega
 rw[agV h3] at hX;simp only[show decide ((3:Int)<=(Ax.alike t:Int))=false from ahA om,i_f];have fin:∀(v':Value) (W:World) (n:Nat),n=Ax.lit t->Own w W [Bld b v' (l++[UInt8.ofNat (n - 1)]++t.take n)]->1<=n->n<=min t.length 128->Mc (fun vs W=>∃(t:List UInt8) (v:Value) (l:List UInt8),vs=[.string ⟨t.toArray⟩]∧t.length<=s.length∧l.length+2*t.length<=2*s.length∧(∃f,t.length < f∧l++Ax.sG f t=Ax.pack s)∧Own w W [Bld b v l]) (fun vs _=>nS (vs.getD 0 undef)) [.string ⟨t.toArray⟩] w2 [.string ⟨(t.drop n).toArray⟩] W:=by
  intro v' W n hlit ho hn1 hn;refine aY ⟨t.drop n,v',_,rfl,by rw[ahL];omega,?_,⟨f,by rw[ahL];omega,?_⟩,ho⟩ ?_
  ·rw[agZ,agZ,ahL,ahE];show l.length+1+_+_<=_;omega
  ·rw[<-hX,<-hlit];simp[ahK]
  ·show nS (.string ⟨(t.drop n).toArray⟩) < nS (.string ⟨t.toArray⟩);rw[gY,gY,ahL];omega
 refine loop (fun vs W=>∃n:Nat,vs=[.int .i64 (n:Int)]∧1<=n∧n<=min t.length 128∧(∃g,128 - n < g∧Ax.litG g n t=Ax.lit t)∧Own w W [Bld b v l]) (fun vs _=>128 - n0 vs) ⟨1,rfl,om,om,⟨128,om,rfl⟩,ho⟩ ?_;clear ho;rintro vs w4 ⟨n,rfl,hn1,hn,⟨g,hg,hY⟩,ho⟩ _;simp only[CQ,gd,nz];obtain⟨g,rfl⟩:∃g',g=g'+1:=⟨g - 1,om⟩;unfold Ax.litG at hY;rw[fP ahF,Vn,show min (t.length:Int) 128=((min t.length 128:Nat):Int) by omega]
 try simp only[rs]
 by_cases hm:n < min t.length 128
 case neg=>
  rw[agV (fun h=>hm h.1)] at hY;simp only[ahA (show ¬(n:Int) < ((min t.length 128:Nat):Int) by omega),rs,i_f];refine WU ho hn1 om om fun v' W ho=>fin v' W n hY ho hn1 hn
 simp only[ahB (show (n:Int) < ((min t.length 128:Nat):Int) by omega),rs];rw[Di ahF om om,ahI];refine aL ho (Iy (t.drop n) w4 (by rw[ahL];omega)) ?_;rintro _ w5 rfl ho;simp only[rs];by_cases ha:Ax.alike (t.drop n) < 3
 ·rw[agW ⟨hm,ha⟩] at hY;simp only[ahB (show (Ax.alike (t.drop n):Int) < 3 by omega),rs,i_t];rw[aA om om];exact aY ⟨n+1,rfl,om,om,⟨g,om,hY⟩,ho⟩ (by simp[n0,RowKit.intOf];omega)
 ·rw[agV (fun h=>ha h.2)] at hY;simp only[ahA (show ¬(Ax.alike (t.drop n):Int) < 3 by omega),rs,i_f];refine WU ho hn1 om om fun v' W ho=>fin v' W n hY ho hn1 hn
end
section
open Go
namespace Bd
def strm (o:Ob)(data:List UInt8):Ob:=.mk 9 (Vl.aJ o Vl.lenK).n (Vl.aJ o Vl.lenK).g data (Vl.aJ o Vl.lenK).keys (Vl.aJ o Vl.lenK).kids
theorem LN (h:Vl.check 1 o=0)(h7:o.k=7):Vl.lenK ∉ (Vl.aJ o Vl.lenK).keys:=by
 have hk:Vl.keyed o=true:=by simp[Vl.keyed,h7]
 have hc:=Vl.eP (key:=Vl.lenK) h hk;have hk':Vl.keyed (Vl.aJ o Vl.lenK)=true:=by
  have e:(Vl.aJ o Vl.lenK).k=o.k:=rfl;simp[Vl.keyed,e,h7]
 obtain⟨_,hlen⟩:=Vl.kN hc hk';intro hm;have hg:=Vl.LR o Vl.lenK;unfold Vl.get at hg;rw[agW hk',agW (List.idxOf_lt_length_of_mem hm),ahH (by rw[<-hlen];exact List.idxOf_lt_length_of_mem hm)] at hg;cases hg
theorem Dq {data:List UInt8}(h:Vl.check 1 o=0)(h7:o.k=7)(hd:data.length<=1048576):Vl.check 1 (strm o data)=0:=by
 have hk:Vl.keyed o=true:=by simp[Vl.keyed,h7]
 have hc:=Vl.eP (key:=Vl.lenK) h hk;have hout:=LN h h7;have h7':(Vl.aJ o Vl.lenK).k=7:=h7;unfold strm;generalize Vl.aJ o Vl.lenK=x at *;obtain⟨⟨a1,a2,a3,a4,a5,a6,a7⟩,hkids⟩:=Vl.jI.1 hc;obtain⟨k,n,g,s,ks,cs⟩:=x;simp only[Ob.k,Ob.n,Ob.g,Ob.s,Ob.keys,Ob.kids] at *;subst h7';refine Vl.jI.2 ⟨⟨a1,?_,fun _=>Int.le_refl 1 |> fun _=>by omega,?_,?_,a6,?_⟩,hkids⟩
 ·unfold Vl.fL at a2 ⊢;simp only[Ob.k,Ob.n,Ob.g,Ob.s,Ob.keys,Ob.kids,Vl.used] at a2 ⊢
  simp_all
  exact a2.1
 ·simp[Vl.fits,Ob.k]
 ·simpa[Vl.long,Ob.k,Ob.s] using hd
 ·unfold Vl.form at a7 ⊢;simp only[Ob.k] at a7 ⊢;simp only[show decide ((7:Int)=7∨(7:Int)=9)=true by decide,aiQ,aoC,ahR] at a7;obtain⟨r1,r2,r3,r4⟩:=Vl.nI.1 a7.2;have hr:Vl.rising (.mk 9 n g data ks cs)=true:=Vl.nI.2 ⟨r1,r2,fun q hq=>⟨(r3 q hq).1,fun _ e=>hout (e▸hq)⟩,r4⟩;simp[hr]
theorem Ky (h:Vl.check 1 o=0)(h7:o.k=7):(if Vl.keyed o=true∧Vl.check 1 o=0 then Vl.aJ o Vl.lenK else o)=Vl.aJ o Vl.lenK:=by
 rw[agW ⟨by simp[Vl.keyed,h7],h⟩]
end Bd
end
section
open Eng
def An(t0 t1 w)(K:KT):=nz Tryz.f87 1 [] [] [] (zg [0,1] [t0,t1]) w K
theorem Du{t0 t1 w K}(h:An t0 t1 w K):Calls prog 87 #[t0,t1] w K:=cw Tryz.func87 h
end
section
open Eng
def oJ(t0 t1 w)(K:KT):=nz Tryz.f75 1 [] [] [] (zg [0,1] [t0,t1]) w K
theorem vR{t0 t1 w K}(h:oJ t0 t1 w K):Calls prog 75 #[t0,t1] w K:=cw Tryz.func75 h
end
section
open Eng Go.RowKit
theorem MG (o:Ob)(v:Value)(data:List UInt8)(M:Mem)(w:World)(h7:o.k=7)(hc:Vl.check 1 o=0)(hd:data.length<=1048576)(hw:o.wt<=1000000000)(hM:M.has w)(hv:OV M.A M.w v o) :
  RetM prog 87 #[v,.string ⟨data.toArray⟩] M w (fun r N=>∃v',r=errV v' 0∧OV N.A N.w v' (Bd.strm o data)):=by
 obtain⟨vk,vc,cs,rfl,ha⟩:=hv.open;refine aT hM fun K hK=>Du ?_;unfold An nz;refine eW o ha.keys.one ha.kids.one (OwnS.memS hM) fun b2 w1 ho=>?_;refine eX ho fun b4 w2 ho=>?_;rw[fI,ob_k ho 1 rfl];simp only[rs,h7,show decide ((7:Int)≠7)=false by decide,i_f];rw[ob_v ho 1 rfl];refine aL ho (R:=fun v=>v=.int .i64 (Vl.check 1 o)) (rJ o _ w2 (OV.inw (ho.hasM 2 rfl) hv) om) ?_;rintro _ w3 rfl ho;simp only[hc,gD,show decide ((0:Int)≠0)=false by decide,i_f];rw[ob_v ho 1 rfl];refine bF ho 2 rfl (B3 o _ Vl.lenK M w3 om (ho.hasM 2 rfl) hv) fun y N w4 hle hy ho=>?_;have hdr:Vl.drop o Vl.lenK=Vl.aJ o Vl.lenK:=by unfold Vl.drop;exact Bd.Ky hc h7
 rw[hdr] at hy;have hck:=Bd.Dq (data:=data) hc h7 hd;have hwt:=Vl.fE o Vl.lenK;have hst:Bd.strm o data=.mk 9 (Vl.aJ o Vl.lenK).n (Vl.aJ o Vl.lenK).g data (Vl.aJ o Vl.lenK).keys (Vl.aJ o Vl.lenK).kids:=rfl;generalize Vl.aJ o Vl.lenK=x at *;obtain⟨yk,yc,ycs,rfl,hya⟩:=hy.open;refine eX ho fun b7 w5 ho=>?_;refine bD 0 hya.keys.one hya.kids.one ho rfl fun w6 ho=>?_;rw[fI];refine aN 0 ho rfl krx rfl (show 0 < 6 by omega) fun w7 ho=>?_;rw[C5];refine aN 0 ho rfl krx rfl (show 0+3 < 6 by omega) fun w8 ho=>?_;have ho:OwnS M.A w w8 [obE b7 (Bd.strm o data) yk yc,obE b4 ob0 nilS nilS,obE b2 o vk vc,.mem N]:=by rw[hst];exact ho
 have hsv:OV N.A N.w (obV (Bd.strm o data) yk yc) (Bd.strm o data):=by
  rw[hst];exact ObAt.ov (o:=.mk 9 x.n x.g data x.keys x.kids) (vk:=yk) (vc:=yc) (cs:=ycs) ⟨hya.keys,hya.kids,hya.all⟩
 have hsw:(Bd.strm o data).wt<=100000000000:=by
  have e1:=Vl.nE (Bd.strm o data);have e2:=Vl.nE x;rw[hst] at e1 ⊢;simp only[Ob.s,Ob.keys,Ob.kids] at e1 e2 ⊢;omega
 rw[ob_v ho 0 rfl];refine bF ho 3 rfl (Ln _ _ N w8 hsw (ho.hasM 3 rfl) hsv) ?_;rintro _ N2 w9 hle2 ⟨t,rfl,ht⟩ ho;have hrt:Vl.right (Bd.strm o data)=(Bd.strm o data,0):=by unfold Vl.right;rw[agV (by simp[hck])]
 rw[hrt] at ht;obtain⟨tk,tc,tcs,rfl,hta⟩:=ht.open;simp only[errV,ex,hrt];refine bD 1 hta.keys.one hta.kids.one ho rfl fun w10 ho=>?_;exact eJ 1 ho rfl (hK _ _ N2 _ 3 ho rfl (hle.trans hle2) ⟨_,rfl,hta.ov⟩)
theorem HV (o:Ob)(v:Value)(key:List UInt8)(M:Mem)(w:World)(h7:o.k=7)(hc:Vl.check 1 o=0)(hw:o.wt<=1000000000)(hM:M.has w)(hv:OV M.A M.w v o) :
  RetM prog 75 #[v,.string ⟨key.toArray⟩] M w (fun r N=>OV N.A N.w r (Vl.aJ o key)):=by
 obtain⟨vk,vc,cs,rfl,ha⟩:=hv.open;obtain⟨_,hlen⟩:=Vl.kN hc (by simp[Vl.keyed,h7]);refine aT hM fun K hK=>vR ?_;unfold oJ nz;refine eW o ha.keys.one ha.kids.one (OwnS.memS hM) fun b2 w1 ho=>?_;refine eX ho fun b4 w2 ho=>?_;simp only[rs,fI,ob_k ho 1 rfl,h7,show decide ((7:Int)≠7)=false by decide,g_un,ob_v ho 1 rfl];refine aL ho (R:=fun v=>v=.int .i64 (Vl.check 1 o)) (pR o _ w2 (OV.inw (ho.hasM 2 rfl) hv) om) ?_;rintro _ w3 rfl ho;simp only[rs,hc,gD,show decide ((0:Int)≠0)=false by decide,g_un,i_f,ob_v ho 1 rfl];refine bF ho 2 rfl (EE o _ key M w3 om (ho.hasM 2 rfl) hv hlen) fun y N w4 hle hy ho=>?_;obtain⟨yk,yc,ycs,rfl,hya⟩:=hy.open;refine bD 0 hya.keys.one hya.kids.one ho rfl fun w5 ho=>?_;exact iW (bH (ho.agg 0 rfl tI)) (hK _ _ N _ 2 ho rfl hle hya.ov)
end
section
open Eng Go.RowKit
namespace Ff
def iZ (o:Ob):Ob:=.mk 7 o.n o.g [] o.keys o.kids
def bare (o:Ob):Ob:=Vl.aJ (Vl.aJ (iZ o) aU) dW
def plain (o:Ob)(data:List UInt8):Ob×Int:=
 if o.k≠9∧o.k≠7 then (Vl.ob0,10)
 else if Vl.check 1 (iZ o)≠0 then (Vl.ob0,Vl.check 1 (iZ o))
 else (Bd.strm (bare o) data,0)
theorem Jw (o:Ob):(iZ o).wt<=o.wt:=by
 obtain⟨k,n,g,s,ks,cs⟩:=o;show (Ob.mk 7 n g [] ks cs).wt<=(Ob.mk k n g s ks cs).wt;rw[Ob.wt,Ob.wt];have:([]:List UInt8).length=0:=rfl;omega
end Ff
theorem Dm (o:Ob)(v:Value)(data:List UInt8)(M:Mem)(w:World)(hd:data.length<=1048576)(hw:o.wt<=1000000000)(hM:M.has w)(hv:OV M.A M.w v o) :
  RetM prog 30 #[v,.string ⟨data.toArray⟩] M w (fun r N=>∃v',r=errV v' (Ff.plain o data).2∧OV N.A N.w v' (Ff.plain o data).1):=by
 obtain⟨vk,vc,cs,rfl,ha⟩:=hv.open;refine aT hM fun K hK=>Dp ?_;generalize hX:Ff.plain o data=X at hK;unfold Ff.plain at hX;unfold AF nz;refine eW o ha.keys.one ha.kids.one (OwnS.memS hM) fun b2 w1 ho=>?_;refine eX ho fun b4 w2 ho=>?_;have no:∀{W:World} {N:Mem} {e:Int} {x:Ob},OwnS M.A w W [obE b4 ob0 nilS nilS,obE b2 x vk vc,.mem N]->M.le N->X=(Vl.ob0,e)->DoX prog (aZ 25 #[]) W (pk K) (fun t W=>DoX prog (aS 25 (.pointer (some ⟨b4,0,none⟩)) t) W (pk K) fun _ W=>RetX prog [.cell (.pointer (some ⟨b4,0,none⟩)) 25,.val (.int .i64 e)] W K):=by
  intro W N e x ho hle hx;rw[He];refine bD 0 rfl rfl ho rfl fun w4 ho=>?_;refine eJ 0 ho rfl (hK _ _ N _ 2 ho rfl hle ⟨obV Vl.ob0 nilS nilS,?_,?_⟩)
  ·rw[hx];rfl
  ·rw[hx];exact Af N
 rw[fI,ob_k ho 1 rfl];simp only[rs];have hv7:OV M.A M.w (obV (Ff.iZ o) vk vc) (Ff.iZ o):=ObAt.ov (o:=Ff.iZ o) (vk:=vk) (vc:=vc) (cs:=cs) ⟨ha.keys,ha.kids,ha.all⟩;have main:¬(o.k≠9∧o.k≠7)->DoX prog (mFA 25 (.pointer (some ⟨b2,0,none⟩)) 0) w2 (pk K) fun t16 w=>
 DoX prog (aS 3 t16 (.int .i64 7)) w (pk K) fun _ w=>
 DoX prog (mFA 25 (.pointer (some ⟨b2,0,none⟩)) 3) w (pk K) fun t17 w=>
 DoX prog (aS 9 t17 (.string ⟨#[]⟩)) w (pk K) fun _ w=>
 DoX prog (aI 25 (.pointer (some ⟨b2,0,none⟩))) w (pk K) fun t18 w=>
 CallX prog 86 #[t18] w (pk K) fun t19 w=>
 DoX prog (mEq .neq 30 (.tmp 20) (.const (.int .i64 0)) t19 (.int .i64 0)) w (pk K) fun t21 w=>
 IfX t21 (DoX prog (aZ 25 #[]) w (pk K) fun t22 w=>
 DoX prog (aS 25 (.pointer (some ⟨b4,0,none⟩)) t22) w (pk K) fun _ w=>
 RetX prog [.cell (.pointer (some ⟨b4,0,none⟩)) 25,.val t19] w K) (DoX prog (aI 25 (.pointer (some ⟨b2,0,none⟩))) w (pk K) fun t24 w=>
 CallX prog 88 #[t24,(.string ⟨#[70,105,108,116,101,114]⟩)] w (pk K) fun t25 w=>
 CallX prog 88 #[t25,(.string ⟨#[68,101,99,111,100,101,80,97,114,109,115]⟩)] w (pk K) fun t26 w=>
 CallX prog 87 #[t26,.string ⟨data.toArray⟩] w (pk K) fun t28 w=>
 DoX prog (mExt t28 0) w (pk K) fun t29 w=>
 DoX prog (mExt t28 1) w (pk K) fun t30 w=>
 DoX prog (aS 25 (.pointer (some ⟨b4,0,none⟩)) t29) w (pk K) fun _ w=>
 RetX prog [.cell (.pointer (some ⟨b4,0,none⟩)) 25,.val t30] w K):=by
  intro hk;rw[agV hk] at hX;rw[fI];refine aN 1 ho rfl krx rfl (show 0 < 6 by omega) fun w3 ho=>?_;rw[C5];refine aN 1 ho rfl krx rfl (show 0+3 < 6 by omega) fun w4 ho=>?_;have ho:OwnS M.A w w4 [obE b4 ob0 nilS nilS,obE b2 (Ff.iZ o) vk vc,.mem M]:=ho;have hwt:=Ff.Jw o;have hb:Bd.strm (Ff.bare o) data=Bd.strm (Vl.aJ (Vl.aJ (Ff.iZ o) Ff.aU) Ff.dW) data:=rfl;have h7:(Ff.iZ o).k=7:=rfl;rw[hb] at hX;generalize Ff.iZ o=d at hX hwt ho hv7 h7;rw[ob_v ho 1 rfl];refine aL ho (R:=fun v=>v=.int .i64 (Vl.check 1 d)) (rJ d _ w4 (OV.inw (ho.hasM 2 rfl) hv7) om) ?_;rintro _ w5 rfl ho;simp only[gD];by_cases hc:Vl.check 1 d=0
  case neg=>
   rw[agW hc] at hX;simp only[ahB (show Vl.check 1 d≠0 from hc),i_t];exact no ho M.le_refl hX.symm
  rw[agV (fun h=>h hc)] at hX;simp only[hc,show decide ((0:Int)≠0)=false from rfl,i_f];rw[ob_v ho 1 rfl];refine bF ho 2 rfl (B3 d _ Ff.aU M w5 om (ho.hasM 2 rfl) hv7) fun y1 N1 w6 l1 hy1 ho=>?_;have e1:Vl.drop d Ff.aU=Vl.aJ d Ff.aU:=by unfold Vl.drop;rw[agW ⟨by simp[Vl.keyed,h7],hc⟩]
  rw[e1] at hy1;have hc1:=Vl.eP (key:=Ff.aU) hc (by simp[Vl.keyed,h7]);have h71:(Vl.aJ d Ff.aU).k=7:=h7;have hw1:=Vl.fE d Ff.aU;generalize Vl.aJ d Ff.aU=d1 at *;refine bF ho 2 rfl (B3 d1 _ Ff.dW N1 w6 om (ho.hasM 2 rfl) hy1) fun y2 N2 w7 l2 hy2 ho=>?_;have e2:Vl.drop d1 Ff.dW=Vl.aJ d1 Ff.dW:=by unfold Vl.drop;rw[agW ⟨by simp[Vl.keyed,h71],hc1⟩]
  rw[e2] at hy2;have hc2:=Vl.eP (key:=Ff.dW) hc1 (by simp[Vl.keyed,h71]);have h72:(Vl.aJ d1 Ff.dW).k=7:=h71;have hw2:=Vl.fE d1 Ff.dW;generalize Vl.aJ d1 Ff.dW=d2 at *;refine bF ho 2 rfl (MG d2 _ data N2 w7 h72 hc2 hd om (ho.hasM 2 rfl) hy2) ?_;rintro _ N3 w8 l3 ⟨t,rfl,ht⟩ ho;obtain⟨tk,tc,tcs,rfl,hta⟩:=ht.open;simp only[errV,ex];refine bD 0 hta.keys.one hta.kids.one ho rfl fun w9 ho=>?_;exact eJ 0 ho rfl (hK _ _ N3 _ 2 ho rfl ((l1.trans l2).trans l3) ⟨_,by rw[<-hX];rfl,by rw[<-hX];exact hta.ov⟩)
 by_cases k9:o.k=9
 ·simp only[ahA (show ¬o.k≠9 from fun h=>h k9),rs,g_un,i_f];exact main (fun h=>h.1 k9)
 simp only[ahB (show o.k≠9 from k9),rs];rw[fI,ob_k ho 1 rfl];simp only[rs];by_cases k7:o.k=7
 ·simp only[ahA (show ¬o.k≠7 from fun h=>h k7),rs,i_f];exact main (fun h=>h.2 k7)
 ·simp only[ahB (show o.k≠7 from k7),rs,i_t];rw[agW ⟨k9,k7⟩] at hX;exact no ho M.le_refl hX.symm
theorem eqPm:eqT prog 27 [(0,false),(1,false),(2,false)]:=⟨krx,krx,krx,krx⟩
def Pm.eqb (x y:Pm):Bool:=decide (x.p=y.p)&&(decide (x.c=y.c)&&decide (x.n=y.n))
theorem Wf (x y:Pm):([(0,false),(1,false),(2,false)]:List (Nat×Bool)).all (fun p=>Gb (pmC x).toArray[p.1]? (pmC y).toArray[p.1]?)=Pm.eqb x y:=by
 have e:([(0,false),(1,false),(2,false)]:List (Nat×Bool)).all (fun p=>Gb (pmC x).toArray[p.1]? (pmC y).toArray[p.1]?)=((x.p==y.p)&&((x.c==y.c)&&((x.n==y.n)&&true))):=rfl;rw[e];unfold Pm.eqb;rw[aoI];rfl
theorem QN {y:Pm}:(mEq .eql 27 xo yo (pmV x) (pmV y)).run prog w=.ok (.value (.bool (Pm.eqb x y))) w:=by
 rw[<-Wf];exact MV eqPm rfl
theorem ZN {y:Pm}:(mEq .neq 27 xo yo (pmV x) (pmV y)).run prog w=.ok (.value (.bool (!Pm.eqb x y))) w:=by
 rw[<-Wf];exact MM eqPm rfl
theorem Qi (M:Mem)(w:World)(hM:M.has w):RetM prog 68 #[pmV Ff.cJ] M w (fun r _=>r=errV (obV Vl.ob0 nilS nilS) 0):=by
 refine aT hM fun K hK=>E8 ?_;unfold B9 iN dx stx alx;refine Hm Ff.cJ (OwnS.memS hM) fun b1 w1 ho=>?_;refine eX ho fun b2 w2 ho=>?_;refine eB (fun W=>OwnS M.A w W [obE b2 ob0 nilS nilS,pmE b1 Ff.cJ,.mem M]) ho.drew ?_;refine q_at (pmV Ff.cJ) (fun W h=>bI (h.agg 1 rfl Fg)) ?_;refine uO (pmV Ff.cJ) (fun W h=>(rP W).mono fun v w' ⟨k1,k2⟩=>⟨k1,h.grow k2⟩) ?_;refine q_do _ (fun _=>QN) ?_;intro w3 ho;rw[show Pm.eqb Ff.cJ Ff.cJ=true from rfl,i_t,He];refine bD 0 rfl rfl ho rfl fun w4 ho=>?_;exact eJ 0 ho rfl (hK _ _ M _ 2 ho rfl M.le_refl rfl)
def Ff.alone (os:List Ob):Ob:=if os.length=1 then os.getD 0 Vl.ob0 else .mk 6 0 0 [] [] os
theorem PY (os:List Ob)(v:Value)(cs:List Value)(M:Mem)(w:World)(hw:Ob.wts os<=1000000000)(hM:M.has w)(h:LsAt M v os cs):RetM prog 71 #[v] M w (fun r N=>OV N.A N.w r (Ff.alone os)):=by
 refine aT hM fun K hK=>DX ?_;unfold Ar nz;refine eX (OwnS.memS hM) fun b2 w1 ho=>?_;rw[Ly h];simp only[rs];by_cases h1:os.length=1
 ·simp only[show decide ((os.length:Int)=1)=true from ahB om,i_t];refine M7 (i:=0) h om (ho.hasM 1 rfl) fun yk yc hy=>?_;refine bD 0 hy.oneK hy.oneC ho rfl fun w2 ho=>?_;refine iW (bH (ho.agg 0 rfl tI)) (hK _ _ M _ 1 ho rfl M.le_refl ?_);have:Ff.alone os=os[0]:=by unfold Ff.alone;rw[agW h1,ahC,ahH om,alD]
  rw[this];exact hy
 ·simp only[show decide ((os.length:Int)=1)=false from ahA om,i_f];refine bF ho 1 rfl (Uo os _ cs M w1 om (ho.hasM 1 rfl) h.sl h.all) fun y N w2 l1 hy ho=>?_;obtain⟨yk,yc,ycs,rfl,hya⟩:=hy.open;refine bD 0 hya.keys.one hya.kids.one ho rfl fun w3 ho=>?_;refine iW (bH (ho.agg 0 rfl tI)) (hK _ _ N _ 1 ho rfl l1 ?_);unfold Ff.alone;rw[agV h1];exact hya.ov
theorem Si (ns:List (List UInt8))(vn:Value)(M:Mem)(w:World)(h8:ns.length<=8)(hf:∀n∈ns,Ff.full n≠[])(hM:M.has w)(hn:SlA M.A M.w vn 1 ns.length (bG ns)) :
  RetM prog 67 #[vn,nilS] M w (fun r N=>∃va vb,r=.tuple #[va,vb,.int .i64 0]∧SlA N.A N.w va 1 (ns.map Ff.full).length (bG (ns.map Ff.full))∧SlA N.A N.w vb 3 (List.replicate ns.length Ff.cJ).length ((List.replicate ns.length Ff.cJ).flatMap pmC)):=by
 refine aT hM fun K hK=>GP ?_;unfold El nz;have ho:OwnS M.A w w [.mem M]:=OwnS.memS hM;rw[AY hn];simp only[rs,show decide ((8:Int) < (ns.length:Int))=false from ahA om,i_f];rw[AY hn];have ho:=OwnS.nilU ho 9 1;refine loop (fun vs W=>∃(i:Nat) (ov:Value),vs=[ov,.int .i64 (i:Int)]∧i<=ns.length∧OwnS M.A w W [stsE ov ((ns.take i).map Ff.full),.mem M]) (fun vs _=>ns.length - n1 vs) ⟨0,nilS,rfl,om,ho⟩ ?_;clear ho;rintro vs w1 ⟨i,ov,rfl,hi,ho⟩ _;simp only[Au,gd,rs,nz];by_cases hlt:(i:Int) < (ns.length:Int)
 ·simp only[hlt,agY,i_t];have hi':i < ns.length:=om
  obtain⟨p,hia,hld⟩:=MD hn hi';rw[aE (hia w1),aE (hld w1 (ho.hasM 1 rfl))];refine c_eq (BC ns[i] w1) ?_;simp only[ex,rs,ahB (hf _ (ahP hi')),aiQ,i_f];refine Nu _ ho (by rw[ahT,ahE];omega) fun ov' W2 ho=>?_
  try simp only[rs]
  rw[aA om om];refine aY ⟨i+1,ov',rfl,om,?_⟩ (by simp[n1,RowKit.intOf];omega);rw[aiG hi',aiN];exact ho
 simp only[hlt,agX,i_f];have:i=ns.length:=om
 subst this;rw[ajG] at ho;obtain⟨N1,l1,hs1,ho⟩:=ho.cG 0 rfl;have ho:OwnS M.A w w1 [.mem N1]:=ho;rw[bA amM];simp only[rs,show decide (((0:Nat):Int)≠0)=false from rfl,i_f,g_un];refine bC (fun b=>.slice (some ⟨b,0,none⟩) 0 0) [] 27 (fun _=>by kernel_rfl) ho fun b3 w2 ho=>?_;have ho:=OwnS.toU ho (sz:=3) (n:=0) (cap:=0) rfl (ahD _) dc;have ho:OwnS M.A w w2 [pmsE (.slice (some ⟨b3,0,none⟩) 0 0) [],.mem N1]:=ho;refine cL 0 amM elPm dc ho rfl (Sl.nil _ 3 0) sm dc dc fun va w3 ho=>?_;have ho:OwnS M.A w w3 [pmsE va [],.mem N1]:=ho;rw[AY hs1,ahT];refine loop (fun vs W=>∃(i:Nat) (ov:Value),vs=[ov,.int .i64 (i:Int)]∧i<=ns.length∧OwnS M.A w W [pmsE ov (List.replicate i Ff.cJ),.mem N1]) (fun vs _=>ns.length - n1 vs) ⟨0,va,rfl,om,ho⟩ ?_;clear ho;rintro vs w4 ⟨i,pv,rfl,hi,ho⟩ _;simp only[Ak,gd,rs,nz];by_cases hlt:(i:Int) < (ns.length:Int)
 ·simp only[hlt,agY,i_t];have hi':i < (ns.map Ff.full).length:=by rw[ahT];omega
  obtain⟨p,hia,hld⟩:=MD hs1 hi';rw[aE (hia w4),aE (hld w4 (ho.hasM 1 rfl))];refine join fun J hJ=>?_;rw[bA amM];simp only[rs,show decide (((0:Nat):Int)=0)=true from rfl,i_t];refine aL ho (rP w4) ?_;rintro _ w5 rfl ho;refine Tx _ ho (by rw[aiE];omega) fun pv' W2 ho=>?_;have ho:OwnS M.A w W2 [pmsE pv' (List.replicate (i+1) Ff.cJ),.mem N1]:=by rw[aoP];exact ho
  refine hJ _ _ fun _=>?_;simp only[AH,gd,nz];refine eB (fun W=>OwnS M.A w W [pmsE pv' (List.replicate (i+1) Ff.cJ),.mem N1]) ho.drew ?_;obtain⟨g,cap,hv1,hia2,hld2,_⟩:=rec_row R7 amM szPm Fg 0 ho rfl (j:=i) (by rw[aiE];omega);rw[show (Value.string ⟨#[70,108,97,116,101,68,101,99,111,100,101]⟩)=.string ⟨Ff.nFl.toArray⟩ from rfl];refine Xb ?_;have next:∀W,OwnS M.A w W [pmsE pv' (List.replicate (i+1) Ff.cJ),.mem N1]->DoX prog (mBin .add 3 (.int .i64 (i:Int)) (.int .i64 1)) W (pk K) (fun t73 W=>Mc (fun vs W=>∃(i:Nat) (ov:Value),vs=[ov,.int .i64 (i:Int)]∧i<=ns.length∧OwnS M.A w W [pmsE ov (List.replicate i Ff.cJ),.mem N1]) (fun vs _=>ns.length - n1 vs) [pv,.int .i64 (i:Int)] w4 [pv',t73] W):=by
   intro W ho;rw[KF,aA om om];exact aY ⟨i+1,pv',rfl,om,ho⟩ (by simp[n1,RowKit.intOf];omega)
  by_cases hfl:(ns.map Ff.full)[i]=Ff.nFl
  ·rw[ahA (fun h=>h hfl)];simp only[gq,acG];refine q_pf ?_;intro w6 ho;rw[i_f];exact next w6 ho
  ·rw[ahB (show (ns.map Ff.full)[i]≠Ff.nFl from hfl)];simp only[gq];refine q_do _ hia2 (q_at _ (fun W h=>hld2 W (h.at_ 0 rfl)) ?_);rw[anY];refine uO (pmV Ff.cJ) (fun W h=>(rP W).mono fun v w' ⟨k1,k2⟩=>⟨k1,h.grow k2⟩) ?_;refine q_do _ (fun _=>ZN) (q_pt ?_);intro w6 ho;rw[show (!Pm.eqb Ff.cJ Ff.cJ)=false from rfl,i_f];exact next w6 ho
 simp only[hlt,agX,i_f];have:i=ns.length:=om
 subst this;obtain⟨N2,l2,hs2,ho⟩:=ho.cG 0 rfl;exact hK _ _ N2 _ 0 ho rfl (l1.trans l2) ⟨ov,pv,rfl,hs1.le l2,hs2⟩
end
section
open Eng Go.RowKit
namespace Ff
def oneA (n s:List UInt8):List UInt8:=if full n=nHx then Oc.hex s++[62] else Ax.pack s
def encN:List (List UInt8)->List UInt8->List UInt8
|[],s=>s
|n::r,s=>oneA n (encN r s)
def dU (n:List UInt8):Ob:=ob1 5 0 0 n
def enc0 (o:Ob)(ns:List (List UInt8))(data:List UInt8):Ob×Int:=
 if (plain o (encN (ns.map full) data)).2≠0 then (plain o (encN (ns.map full) data))
 else if (Vl.set (plain o (encN (ns.map full) data)).1 aU (alone ((ns.map full).map dU))).2≠0 then (Vl.ob0,(Vl.set (plain o (encN (ns.map full) data)).1 aU (alone ((ns.map full).map dU))).2)
 else ((Vl.set (plain o (encN (ns.map full) data)).1 aU (alone ((ns.map full).map dU))).1,0)
end Ff
theorem H9:bZ prog 114=true:=krx
theorem Im:bZ prog 119=true:=krx
theorem Rl (b f:Nat)(s r:List UInt8)(w:World)(hp:bZ prog f=true)(hb:(Km b f).is w)(h:Ret prog f #[.string ⟨s.toArray⟩] w (fun v w'=>v=.string ⟨r.toArray⟩∧Below w.heap.size w w')) :
  Ret prog 171 #[.string ⟨s.toArray⟩,.pointer (some ⟨b,0,none⟩)] w (fun v w'=>v=zlT (r,0)∧Below w.heap.size w w'):=by
 refine aP fun K hK=>qD ?_;unfold oH nz;rw[aO nFnS (aG (T:=36) (cs:=[fnV f]) hb (i:=0) rfl)];unfold fnV;refine EI hp (aL (Own.start w) h ?_);rintro _ w1 rfl ho;exact hK _ _ ⟨rfl,ho.done⟩
theorem Sh (n:List UInt8)(x:Pm)(s:List UInt8)(w:World)(hn:Ff.full n=Ff.nHx∨Ff.full n=Ff.nRL)(hs:s.length<=1000000) :
  Ret prog 17 #[.string ⟨n.toArray⟩,pmV x,.string ⟨s.toArray⟩] w (fun v w'=>v=zlT (Ff.oneA n s,0)∧Below w.heap.size w w'):=by
 refine aP fun K hK=>xB ?_;unfold yW nz;refine Hm x (Own.start w) fun b4 w1 ho=>?_;rw[pm_v ho 0 rfl];have wone:∀{p u:Value},p.oneCell'=true->u.oneCell'=true->∀y∈wyC p u,y.oneCell'=true:=by
  intro p u hp hu y hy;simp only[wyC,ahG,ajH,or_false] at hy;rcases hy with rfl|rfl<;>assumption
 refine XV ho (fun f g hfg b1 b2 w2 ho=>?_) (fun hf w2 ho=>?_) (fun hf w2 ho=>?_)
 rotate_left
 ·rcases hn with h|h<;>rw[h] at hf<;>exact absurd hf dc
 ·rcases hn with h|h<;>rw[h] at hf<;>exact absurd hf dc
 simp only[ex];refine bC (fun b=>.pointer (some ⟨b,0,none⟩)) (wyC .nilFunc .nilFunc) 91 (fun _=>by kernel_rfl) ho fun b8 w3 ho=>?_;refine iE 0 ho rfl (new:=wyC (yI b1) (zU b2)) szWy (wone rfl rfl) rfl fun w4 ho=>?_;have ho:OwnS NoB w w4 [wyE b8 (yI b1) (zU b2),upE b2 g,Km b1 f,pmE b4 x]:=ho;simp only[gD,show decide ((0:Int)≠0)=false from rfl,i_f];rw[fP ahF];simp only[rs,show decide ((1048576:Int) < (s.length:Int))=false from ahA om,i_f];rw[aK TO,aO nFnW (ho.cell 0 rfl 0 rfl)];have key:∃_:bZ prog f=true,Ret prog f #[.string ⟨s.toArray⟩] w4 (fun v w'=>v=.string ⟨(Ff.oneA n s).toArray⟩∧Below w4.heap.size w4 w'):=by
  rcases hfg with ⟨h,rfl,_⟩|⟨h,rfl,_⟩|⟨h,rfl,_⟩
  ·have e:Ff.oneA n s=Oc.hex s++[62]:=by unfold Ff.oneA;rw[agW h]
   rw[e];exact⟨H9,Ou s w4 hs⟩
  ·rcases hn with h'|h'<;>rw[h'] at h<;>exact absurd h dc
  ·have e:Ff.oneA n s=Ax.pack s:=by unfold Ff.oneA;rw[agV (by rw[h];decide)]
   rw[e];exact⟨Im,OE s w4 om⟩
 obtain⟨hp,key⟩:=key;unfold yI;refine EI Iu (aL ho (Rl b1 f s _ w4 hp (ho.at_ 2 rfl) key) ?_);rintro _ w5 rfl ho;simp only[zlT,ex];exact hK _ _ ⟨rfl,ho.done⟩
def nmC (n:List UInt8):List Value:=obC (Ff.dU n) nilS nilS
theorem Xn {n:List UInt8}:∀u∈nmC n,u.oneCell'=true:=by
 intro u hu;simp only[nmC,obC,ahG,ajH,or_false] at hu;rcases hu with rfl|rfl|rfl|rfl|rfl|rfl<;>rfl
abbrev nmsE (v:Value)(l:List (List UInt8)):Ent:=.recs 25 nmC 6 v l
theorem R8:elB prog 25 6 88=true:=krx
theorem LZ {A:Nat->Prop}{W:World}:∀l:List (List UInt8),OVs A W (l.flatMap nmC) (l.map Ff.dU)
|[]=>by rw[alI,OVs];rfl
|n::l=>by
  rw[aiW,OVs];exact⟨nmC n,l.flatMap nmC,by rw[aiT],rfl,ObAt.ov (o:=Ff.dU n) (vk:=nilS) (vc:=nilS) (cs:=[]) ⟨SlA.nil _ _ _ _,SlA.nil _ _ _ _,OVs.nil⟩,LZ l⟩
section
variable {w:World}{PK PK2:PKT}{K:VWP}{S:Nat->Prop}{w0:World}{L:List Ent}
theorem aaL (n:List UInt8){l:List (List UInt8)}{c:Array Bool}(i:Nat)(ho:OwnS S w0 w L)(hi:L[i]?=some (nmsE v l))(hl:l.length<=1000000)(k:∀v' W,OwnS S w0 W (L.set i (nmsE v' (l++[n])))->K v' W) :
  DoX prog (bN 23 1 #[(0,obV (Ff.dU n) nilS nilS)]) w PK fun t w=>DoX prog (mB .append #[23,23] 23 c #[v,t]) w PK2 K:=by
 refine Gd (Ff.dU n) (vk:=nilS) (vc:=nilS) rfl rfl ho fun b w1 ho=>?_;refine cL (i+1) ahN R8 dc ho (by rw[aiP];exact hi) (lX (cs:=nmC n) (ho.at_ 0 rfl) dc rfl) Xn om om fun v' w2 ho=>k v' w2 ?_;have e:nmsE v' (l++[n])=.urow 25 6 v' (l.length+1) (l.flatMap nmC++nmC n):=by
  unfold nmsE Ent.recs;rw[agZ,amC,amN];rfl
 rw[e];exact ho.tail
end
end
end Go.Proofs.YtlipjfcbjemicaaGreatDoor


namespace Go.Proofs.YtlipjfcbjemicaaGreatDoor
variable{D T1 T2 U:TypeId}{K:VWP}{M N:Eng.Mem}{P:Program}{PK:PKT}{S:Nat->Prop}{W w w0:World}{a:Int}{b cap d f h i j mo sz tb:Nat}{cb:Array Bool}{cl l:List Nat}{cs cur:List Value}{k':IntKind}{o:Ob}{os:List Ob}{v:Value}{x:Pm}{xo yo:Operand}
section
open Go
theorem agT {p:UInt8->Prop}(h:∀n:Fin 256,p (UInt8.ofNat n.val))(c:UInt8):p c:=by
 have:=h ⟨c.toNat,c.toNat_lt⟩;simpa using this
theorem Ax.YA (c:UInt8):Lx.digit (Oc.hexD (c.toNat / 16))=((c.toNat / 16:Nat):Int)∧Lx.digit (Oc.hexD (c.toNat % 16))=((c.toNat % 16:Nat):Int)∧Oc.Bk (Oc.hexD (c.toNat / 16))=false∧Oc.Bk (Oc.hexD (c.toNat % 16))=false∧Oc.hexD (c.toNat / 16)≠62∧Oc.hexD (c.toNat % 16)≠62:=
 agT (p:=fun c=>Lx.digit (Oc.hexD (c.toNat / 16))=((c.toNat / 16:Nat):Int)∧Lx.digit (Oc.hexD (c.toNat % 16))=((c.toNat % 16:Nat):Int)∧Oc.Bk (Oc.hexD (c.toNat / 16))=false∧Oc.Bk (Oc.hexD (c.toNat % 16))=false∧Oc.hexD (c.toNat / 16)≠62∧Oc.hexD (c.toNat % 16)≠62) (by decide +kernel) c
theorem Ax.OX (most:Nat)(r:List UInt8):∀(s out:List UInt8),out.length+s.length<=most->Ax.hexG most (Oc.hex s++62::r) (-1) out=(out++s,0)
|[],out,_=>by
  show Ax.hexG most (62::r) (-1) out=_;unfold Ax.hexG;rw[agV dc,agW rfl,agW dc,ahV]
|c::s,out,h=>by
  obtain⟨h1,h2,h3,h4,h5,h6⟩:=Ax.YA c;have hlt:c.toNat < 256:=c.toNat_lt;simp only[ahU] at h;have e:Oc.hex (c::s)++62::r=Oc.hexD (c.toNat / 16)::Oc.hexD (c.toNat % 16)::(Oc.hex s++62::r):=rfl;rw[e];unfold Ax.hexG;rw[h3,agV dc,agV h5,h1,agV om,agW dc];unfold Ax.hexG;rw[h4,agV dc,agV h6,h2,agV om,agV om,agV om];have e2:(16*((c.toNat / 16:Nat):Int)+((c.toNat % 16:Nat):Int)).toNat=c.toNat:=om
  rw[e2,UInt8.ofNat_toNat,Ax.OX most r s (out++[c]) (by simp;omega),ahK];rfl
theorem Ax.FT {D:Nat->List UInt8×Int}{s:List UInt8}{most:Int}(hm:(s.length:Int)<=most)(hs:s.length<=1048576)(h:∀m,s.length<=m->D m=(s,0)):Ax.within D most=(s,0):=by
 unfold Ax.within;rw[agV om,h _ om]
theorem Ax.PE {s:List UInt8}{most:Int}(hm:(s.length:Int)<=most)(hs:s.length<=1048576):Ax.unhex (Oc.hex s++[62]) most=(s,0):=
 Ax.FT hm hs fun m h=>by
  rw[Ax.OX m [] s [] (by simpa using h)];rfl
theorem Ax.IA (c:UInt8):∀(f:Nat) (s:List UInt8),s.take (Ax.lL c f s)=List.replicate (Ax.lL c f s) c
|0,s=>by unfold Ax.lL;simp
|f+1,[]=>by unfold Ax.lL;simp
|f+1,d::r=>by
  unfold Ax.lL;by_cases h:d=c
  ·rw[agW h,amE,Ax.IA c f r,anG,h]
  ·rw[agV h];simp
theorem Ax.IK (c:UInt8):∀n,Lib.repeatL [c] n=List.replicate n c
|0=>rfl
|n+1=>by
  show [c]++Lib.repeatL [c] n=_;rw[Ax.IK c n,anG];rfl
theorem Ax.WR {s:List UInt8}(h:s≠[]):1<=Ax.lit s∧Ax.lit s<=min s.length 128:=by
 have hl:0 < s.length:=akN.2 h;unfold Ax.lit;exact Ax.Te 128 1 s om
theorem Ax.Jr (most:Nat):∀(g:Nat) (s out:List UInt8) (f:Nat),s.length < g->out.length+s.length<=most->(Ax.sG g s).length<=f->Ax.runG most f (Ax.sG g s) out=(out++s,0)
|0,_,_,_,h,_,_=>by omega
|g+1,s,out,f,hg,hm,hf=>by
  unfold Ax.sG at hf ⊢;by_cases h0:s=[]
  ·rw[agW h0] at hf ⊢;obtain⟨f,rfl⟩:∃j,f=j+1:=⟨f - 1,by simp at hf;omega⟩;rw[h0];unfold Ax.runG;simp
  rw[agV h0] at hf ⊢;have hl:0 < s.length:=akN.2 h0;have ha:=Ax.Dd (s.getD 0 0) 128 s;by_cases h3:3<=Ax.alike s
  ·rw[agW h3] at hf ⊢;simp only[agZ,ahU,akK] at hf;obtain⟨f,rfl⟩:∃j,f=j+1:=⟨f - 1,om⟩;have hrep:=Ax.IA (s.getD 0 0) 128 s;have et:s.take (Ax.alike s)++s.drop (Ax.alike s)=s:=aiJ ..
   have ld:(s.drop (Ax.alike s)).length=s.length - Ax.alike s:=ahL;change Ax.alike s<=128∧Ax.alike s<=s.length at ha;change s.take (Ax.alike s)=List.replicate (Ax.alike s) (s.getD 0 0) at hrep;have hc:(UInt8.ofNat (257 - Ax.alike s)).toNat=257 - Ax.alike s:=by
    rw[akW,aiU om]
   have ih:=Ax.Jr most g (s.drop (Ax.alike s)) (out++s.take (Ax.alike s)) f om (by rw[agZ,ahE];omega) om;rw[ahK,et] at ih;rw[<-ih];show Ax.runG most (f+1) (UInt8.ofNat (257 - Ax.alike s)::([s.getD 0 0]++Ax.sG g (s.drop (Ax.alike s)))) out=_
   conv=>lhs;unfold Ax.runG
   dsimp only;rw[hc,agV om,agV om,agV sm,agV om,show 257 - (257 - Ax.alike s)=Ax.alike s by omega];have e1:([s.getD 0 0]++Ax.sG g (s.drop (Ax.alike s))).take 1=[s.getD 0 0]:=rfl;have e2:([s.getD 0 0]++Ax.sG g (s.drop (Ax.alike s))).drop 1=Ax.sG g (s.drop (Ax.alike s)):=rfl;rw[e1,e2,Ax.IK,hrep]
  ·rw[agV h3] at hf ⊢;simp only[agZ,ahU,akK] at hf;obtain⟨f,rfl⟩:∃j,f=j+1:=⟨f - 1,om⟩;have hlit:=Ax.WR h0;have et:s.take (Ax.lit s)++s.drop (Ax.lit s)=s:=aiJ ..
   have lt:(s.take (Ax.lit s)).length=Ax.lit s:=by rw[ahE];omega
   have ld:(s.drop (Ax.lit s)).length=s.length - Ax.lit s:=ahL;have hc:(UInt8.ofNat (Ax.lit s - 1)).toNat=Ax.lit s - 1:=by
    rw[akW,aiU om]
   have ih:=Ax.Jr most g (s.drop (Ax.lit s)) (out++s.take (Ax.lit s)) f om (by rw[agZ];omega) om;rw[ahK,et] at ih;rw[<-ih];show Ax.runG most (f+1) (UInt8.ofNat (Ax.lit s - 1)::(s.take (Ax.lit s)++Ax.sG g (s.drop (Ax.lit s)))) out=_
   conv=>lhs;unfold Ax.runG
   dsimp only;rw[hc,show Ax.lit s - 1+1=Ax.lit s by omega,agV om,agW om,agV (by rw[agZ];omega),agV om];have e1:(s.take (Ax.lit s)++Ax.sG g (s.drop (Ax.lit s))).take (Ax.lit s)=s.take (Ax.lit s):=ajP lt;have e2:(s.take (Ax.lit s)++Ax.sG g (s.drop (Ax.lit s))).drop (Ax.lit s)=Ax.sG g (s.drop (Ax.lit s)):=List.drop_left' lt;rw[e1,e2]
def Ax.v4 (p:List UInt8):Nat:=((p.getD 0 0).toNat*256+(p.getD 1 0).toNat)*65536+(p.getD 2 0).toNat*256+(p.getD 3 0).toNat
def Ax.enc4 (p:List UInt8):List UInt8:=if Ax.v4 p=0∧p.length=4 then [122] else (List.range (p.length+1)).map fun k=>UInt8.ofNat (33+Ax.v4 p / Ax.pw.getD k 0 % 85)
def Ax.DO:Nat->List UInt8->List UInt8
|0,_=>[]
|f+1,s=>if s=[] then [126,62] else Ax.enc4 (s.take 4)++Ax.DO f (s.drop 4)
def Ax.five (s:List UInt8):List UInt8:=Ax.DO (s.length+1) s
theorem Ax.We (n:Nat)(h:n < 85):Oc.Bk (UInt8.ofNat (33+n))=false∧(UInt8.ofNat (33+n)).toNat=33+n∧(UInt8.ofNat (33+n) - 33).toNat=n∧UInt8.ofNat (33+n) - 33=UInt8.ofNat n:=by
 have h1:∀n:Fin 85,Oc.Bk (UInt8.ofNat (33+n.val))=false∧(UInt8.ofNat (33+n.val)).toNat=33+n.val∧(UInt8.ofNat (33+n.val) - 33).toNat=n.val∧UInt8.ofNat (33+n.val) - 33=UInt8.ofNat n.val:=by decide +kernel
 exact h1 ⟨n,h⟩
theorem Ax.gR {n:Nat}(h:n < 85){r g out:List UInt8}(hg:g.length < 4):Ax.iY mo (UInt8.ofNat (33+n)::r) g out=Ax.iY mo r (g++[UInt8.ofNat n]) out:=by
 obtain⟨h1,h2,h3,h4⟩:=Ax.We n h
 conv=>lhs;unfold Ax.iY
 rw[h1,agV dc,h2,agV om,agW ⟨om,om⟩,agW om,h4]
theorem Ax.Rj {n:Nat}(h:n < 85){r g out:List UInt8}(hg:g.length=4)(hv:Ax.val (g++[UInt8.ofNat n]) < 4294967296)(hm:out.length+4<=mo):Ax.iY mo (UInt8.ofNat (33+n)::r) g out=Ax.iY mo r [] (out++Zl.four (Ax.val (g++[UInt8.ofNat n]))):=by
 obtain⟨h1,h2,h3,h4⟩:=Ax.We n h
 conv=>lhs;unfold Ax.iY
 rw[h1,agV dc,h2,agV om,agW ⟨om,om⟩,agV om,h4,agV om,agV om]
theorem Ax.aaT (p:List UInt8):Ax.v4 p < 4294967296:=by
 have h0:=(p.getD 0 0).toNat_lt;have h1:=(p.getD 1 0).toNat_lt;have h2:=(p.getD 2 0).toNat_lt;have h3:=(p.getD 3 0).toNat_lt;unfold Ax.v4;omega
theorem Ax.afY {p:List UInt8}(hp:p.length=4):∃a b c d,p=[a,b,c,d]:=by
 rcases p with _|⟨a,_|⟨b,_|⟨c,_|⟨d,_|⟨e,t⟩⟩⟩⟩⟩
 case cons.cons.cons.cons.nil=>exact⟨a,b,c,d,rfl⟩
 all_goals simp at hp
theorem Ax.qT {n:Nat}{x:UInt8}(h:n % 256=x.toNat):UInt8.ofNat n=x:=by
 rw[<-amZ,akW];exact h
theorem Ax.Xr {p:List UInt8}(hp:p.length=4){v:Nat}(hv:v=Ax.v4 p):Zl.four v=p:=by
 obtain⟨a,b,c,d,rfl⟩:=Ax.afY hp;have h0:=a.toNat_lt;have h1:=b.toNat_lt;have h2:=c.toNat_lt;have h3:=d.toNat_lt;have e:Ax.v4 [a,b,c,d]=(a.toNat*256+b.toNat)*65536+c.toNat*256+d.toNat:=rfl;show [UInt8.ofNat (v / 16777216),UInt8.ofNat (v / 65536),UInt8.ofNat (v / 256),UInt8.ofNat v]=_;rw[hv,e];rw[Ax.qT (x:=a) om,Ax.qT (x:=b) om,Ax.qT (x:=c) om,Ax.qT (x:=d) om]
theorem Ax.MZ (v:Nat):Zl.four v=[UInt8.ofNat (v / 16777216),UInt8.ofNat (v / 65536),UInt8.ofNat (v / 256),UInt8.ofNat v]:=rfl
theorem Ax.val5 (a b c d e:UInt8):Ax.val [a,b,c,d,e]=(((a.toNat*85+b.toNat)*85+c.toNat)*85+d.toNat)*85+e.toNat:=rfl
theorem Ax.val4 (a b c d:UInt8):Ax.val [a,b,c,d]=(((a.toNat*85+b.toNat)*85+c.toNat)*85+d.toNat)*85+84:=rfl
theorem Ax.val3 (a b c:UInt8):Ax.val [a,b,c]=(((a.toNat*85+b.toNat)*85+c.toNat)*85+84)*85+84:=rfl
theorem Ax.val2 (a b:UInt8):Ax.val [a,b]=(((a.toNat*85+b.toNat)*85+84)*85+84)*85+84:=rfl
theorem Ax.n85 {n:Nat}(h:n < 85):(UInt8.ofNat n).toNat=n:=by rw[akW,aiU om]
theorem Ax.PT {v:Nat}(hv:v < 4294967296):Ax.val [UInt8.ofNat (v / 52200625 % 85),UInt8.ofNat (v / 614125 % 85),UInt8.ofNat (v / 7225 % 85),UInt8.ofNat (v / 85 % 85),UInt8.ofNat (v / 1 % 85)]=v:=by
 have h:∀n:Nat,n % 85 < 85:=fun n=>ajW _ dc;rw[Ax.val5,Ax.n85 (h _),Ax.n85 (h _),Ax.n85 (h _),Ax.n85 (h _),Ax.n85 (h _),Nat.div_one];have e1:v / 7225=v / 85 / 85:=by rw[ajY]
 have e2:v / 614125=v / 85 / 85 / 85:=by rw[ajY,ajY]
 have e3:v / 52200625=v / 85 / 85 / 85 / 85:=by rw[ajY,ajY,ajY]
 rw[e1,e2,e3];omega
theorem Ax.MT {g out p:List UInt8}(h1:g.length=p.length+1)(h2:0 < p.length)(hv:Ax.val g < 4294967296)(hm:out.length+p.length<=mo)(ht:(Zl.four (Ax.val g)).take p.length=p):Ax.iY mo [126,62] g out=(out++p,0):=by
 unfold Ax.iY;rw[agV dc,agV (fun h=>absurd h.1 dc),agV (fun h=>absurd h.2 dc),agW dc];unfold Ax.endG;rw[agV sm,agV (fun h=>h.elim (fun h=>h rfl) (fun h=>by omega)),agV om,agV om,agV om,h1,alQ,ht]
theorem Ax.LD (mo:Nat):∀(f:Nat) (s out:List UInt8),s.length < f->out.length+s.length<=mo->Ax.iY mo (Ax.DO f s) [] out=(out++s,0)
|0,_,_,h,_=>by omega
|f+1,s,out,hf,hm=>by
  unfold Ax.DO;by_cases h0:s=[]
  ·rw[agW h0,h0,ahV];unfold Ax.iY;rw[agV dc,agV (fun h=>absurd h.1 dc),agV (fun h=>absurd h.2 dc),agW dc];unfold Ax.endG;rw[agV sm,agV (fun h=>h.elim (fun h=>h rfl) (fun h=>absurd h dc)),agW (show ([]:List UInt8).length=0 from rfl)]
  rw[agV h0];have hl:0 < s.length:=akN.2 h0;have hmod:∀n:Nat,n % 85 < 85:=fun n=>ajW _ dc;by_cases h4:4<=s.length
  ·have et:s.take 4++s.drop 4=s:=aiJ ..
   have lt:(s.take 4).length=4:=by rw[ahE];omega
   have ld:(s.drop 4).length=s.length - 4:=ahL;have ih:=Ax.LD mo f (s.drop 4) (out++s.take 4) om (by rw[agZ];omega);rw[ahK,et] at ih;have hv:=Ax.aaT (s.take 4);have h4v:=Ax.Xr lt rfl;unfold Ax.enc4;by_cases hz:Ax.v4 (s.take 4)=0∧(s.take 4).length=4
   ·rw[agW hz];rw[hz.1] at h4v;have e:s.take 4=[0,0,0,0]:=by rw[<-h4v];rfl
    rw[e] at ih;show Ax.iY mo (122::Ax.DO f (s.drop 4)) [] out=_;unfold Ax.iY;rw[agV dc,agW ⟨dc,rfl⟩,agV om,ih]
   ·rw[agV hz,lt];generalize hV:Ax.v4 (s.take 4)=v at hv h4v;show Ax.iY mo (UInt8.ofNat (33+v / 52200625 % 85)::UInt8.ofNat (33+v / 614125 % 85)::UInt8.ofNat (33+v / 7225 % 85)::UInt8.ofNat (33+v / 85 % 85)::UInt8.ofNat (33+v / 1 % 85)::Ax.DO f (s.drop 4)) [] out=_;rw[Ax.gR (hmod _) dc,Ax.gR (hmod _) sm,Ax.gR (hmod _) sm,Ax.gR (hmod _) sm];have hw:=Ax.PT hv;rw[Ax.Rj (hmod _) sm (by show Ax.val [_,_,_,_,_] < _;rw[hw];exact hv) om];show Ax.iY mo _ [] (out++Zl.four (Ax.val [_,_,_,_,_]))=_;rw[hw,h4v,ih]
  ·have et:s.take 4=s:=aiF om;have ed:s.drop 4=[]:=amI om;have ef:Ax.DO f []=[126,62]:=by
    obtain⟨f,rfl⟩:∃j,f=j+1:=⟨f - 1,om⟩;unfold Ax.DO;rw[agW rfl]
   rw[et,ed,ef];unfold Ax.enc4;rw[agV om];rcases s with _|⟨a,_|⟨b,_|⟨c,_|⟨d,t⟩⟩⟩⟩
   ·exact absurd rfl h0
   ·have ha:=a.toNat_lt;have hv:Ax.v4 [a]=a.toNat*16777216:=by show (a.toNat*256+0)*65536+0*256+0=_;omega
    rw[hv];obtain⟨v,hn⟩:∃v,v=a.toNat*16777216:=⟨_,rfl⟩;rw[<-hn];show Ax.iY mo (UInt8.ofNat (33+v / 52200625 % 85)::UInt8.ofNat (33+v / 614125 % 85)::[126,62]) [] out=_;rw[Ax.gR (hmod _) dc,Ax.gR (hmod _) sm];have e:Ax.val [UInt8.ofNat (v / 52200625 % 85),UInt8.ofNat (v / 614125 % 85)]=v / 614125*614125+614124:=by
     rw[Ax.val2,Ax.n85 (hmod _),Ax.n85 (hmod _)];have e3:v / 52200625=v / 614125 / 85:=by rw[ajY]
     rw[e3];omega
    have hx1:v<=v / 614125*614125+614124:=om
    have hx2:v / 614125*614125+614124 < v+614125:=om
    generalize v / 614125*614125+614124=X at e hx1 hx2;refine Ax.MT rfl sm ?_ hm ?_
    ·show Ax.val [_,_] < _;rw[e];omega
    ·show (Zl.four (Ax.val [_,_])).take 1=_;rw[e,Ax.MZ,Ax.qT (x:=a) om];rfl
   ·have ha:=a.toNat_lt;have hb:=b.toNat_lt;have hv:Ax.v4 [a,b]=(a.toNat*256+b.toNat)*65536:=by show (a.toNat*256+b.toNat)*65536+0*256+0=_;omega
    rw[hv];generalize hn:(a.toNat*256+b.toNat)*65536=v;show Ax.iY mo (UInt8.ofNat (33+v / 52200625 % 85)::UInt8.ofNat (33+v / 614125 % 85)::UInt8.ofNat (33+v / 7225 % 85)::[126,62]) [] out=_;rw[Ax.gR (hmod _) dc,Ax.gR (hmod _) sm,Ax.gR (hmod _) sm];have e:Ax.val [UInt8.ofNat (v / 52200625 % 85),UInt8.ofNat (v / 614125 % 85),UInt8.ofNat (v / 7225 % 85)]=v / 7225*7225+7224:=by
     rw[Ax.val3,Ax.n85 (hmod _),Ax.n85 (hmod _),Ax.n85 (hmod _)];have e2:v / 614125=v / 7225 / 85:=by rw[ajY]
     have e3:v / 52200625=v / 7225 / 85 / 85:=by rw[ajY,ajY]
     rw[e2,e3];omega
    have hx1:v<=v / 7225*7225+7224:=om
    have hx2:v / 7225*7225+7224 < v+7225:=om
    generalize v / 7225*7225+7224=X at e hx1 hx2;refine Ax.MT rfl sm ?_ hm ?_
    ·show Ax.val [_,_,_] < _;rw[e];omega
    ·show (Zl.four (Ax.val [_,_,_])).take 2=_;rw[e,Ax.MZ,Ax.qT (x:=a) om,Ax.qT (x:=b) om];rfl
   ·have ha:=a.toNat_lt;have hb:=b.toNat_lt;have hc:=c.toNat_lt;have hv:Ax.v4 [a,b,c]=(a.toNat*256+b.toNat)*65536+c.toNat*256:=by show (a.toNat*256+b.toNat)*65536+c.toNat*256+0=_;omega
    rw[hv];generalize hn:(a.toNat*256+b.toNat)*65536+c.toNat*256=v;show Ax.iY mo (UInt8.ofNat (33+v / 52200625 % 85)::UInt8.ofNat (33+v / 614125 % 85)::UInt8.ofNat (33+v / 7225 % 85)::UInt8.ofNat (33+v / 85 % 85)::[126,62]) [] out=_;rw[Ax.gR (hmod _) dc,Ax.gR (hmod _) sm,Ax.gR (hmod _) sm,Ax.gR (hmod _) sm];have e:Ax.val [UInt8.ofNat (v / 52200625 % 85),UInt8.ofNat (v / 614125 % 85),UInt8.ofNat (v / 7225 % 85),UInt8.ofNat (v / 85 % 85)]=v / 85*85+84:=by
     rw[Ax.val4,Ax.n85 (hmod _),Ax.n85 (hmod _),Ax.n85 (hmod _),Ax.n85 (hmod _)];have e1:v / 7225=v / 85 / 85:=by rw[ajY]
     have e2:v / 614125=v / 85 / 85 / 85:=by rw[ajY,ajY]
     have e3:v / 52200625=v / 85 / 85 / 85 / 85:=by rw[ajY,ajY,ajY]
     rw[e1,e2,e3];omega
    have hx1:v<=v / 85*85+84:=om
    have hx2:v / 85*85+84 < v+85:=om
    generalize v / 85*85+84=X at e hx1 hx2;refine Ax.MT rfl sm ?_ hm ?_
    ·show Ax.val [_,_,_,_] < _;rw[e];omega
    ·show (Zl.four (Ax.val [_,_,_,_])).take 3=_;rw[e,Ax.MZ,Ax.qT (x:=a) om,Ax.qT (x:=b) om,Ax.qT (x:=c) om];rfl
   ·simp at h4
theorem Ax.Mu {s:List UInt8}{most:Int}(hm:(s.length:Int)<=most)(hs:s.length<=1048576):Ax.Oy (Ax.five s) most=(s,0):=
 Ax.FT hm hs fun m h=>by
  unfold Ax.five;rw[Ax.LD m (s.length+1) s [] om (by simpa using h)];rfl
theorem Ax.Qk {s:List UInt8}{most:Int}(hm:(s.length:Int)<=most)(hs:s.length<=1048576):Ax.U1 (Ax.pack s) most=(s,0):=
 Ax.FT hm hs fun m h=>by
  unfold Ax.pack;rw[Ax.Jr m (s.length+1) s [] _ om (by simpa using h) (Nat.le_succ _)];rfl
end
section
open Eng Go.RowKit
theorem VD (c:UInt8):DoX prog (gL 5 147 (.int .u8 (c.toNat:Int))) w PK K=K (.int .u64 (c.toNat:Int)) w:=by
 have h:=c.toNat_lt;rw[aE (bO krx anP),Eb om]
def Ax.d5 (p:List UInt8)(k:Nat):UInt8:=UInt8.ofNat (33+Ax.v4 p / Ax.pw.getD k 0 % 85)
theorem Ax.Ja (p:List UInt8):Ax.enc4 p=if Ax.v4 p=0∧p.length=4 then [122] else (List.range (p.length+1)).map (Ax.d5 p):=rfl
theorem Ax.YF {p:List UInt8}(hp:p.length<=4):(Ax.enc4 p).length<=5:=by
 rw[Ax.Ja];split
 ·decide
 ·simp;omega
end
section
open Eng
def gW(t2 t3 w)(K:KT):=nz Tryz.f180 7 [] [] [] (zg [2,3] [t2,t3]) w K
def iQ(t0 t1 w)(K:KT):=nz Tryz.f180 1 [] [(6,[],fun s v j w f=>gW (s 2) (s 3) w K)] [] (zg [0,1] [t0,t1]) w K
theorem oI{t0 t1 w K}(h:iQ t0 t1 w K):Calls prog 180 #[t0,t1] w K:=cz [(3,[])] [] Tryz.func180 h
def fY(t0 t1 t2 t4 w)(N1:JT)(K:KT):=nz Tryz.f225 5 [N1] [nh 3 [4]] [(3,7)] (zg [0,1,2,4] [t0,t1,t2,t4]) w K
def gT(t0 t1 t2 w)(K:KT):=nz Tryz.f225 1 [] [(3,[4],fun s v j w f=>fY (s 0) (s 1) (s 2) (vg v 0) w (f 0) K)] [] (zg [0,1,2] [t0,t1,t2]) w K
theorem mH{t0 t1 t2 w K}(h:gT t0 t1 t2 w K):Calls prog 225 #[t0,t1,t2] w K:=cz [] [(1,[4])] Tryz.func225 h
end
section
open Eng Go.RowKit
theorem ZX {a c:Nat}:(mEq .eql 192 xo yo (.agg #[.int .u8 (a:Int),.int .u8 (b:Int),.int .u8 (c:Int),.int .u8 (d:Int)]) (.agg #[.int .u8 0,.int .u8 0,.int .u8 0,.int .u8 0])).run prog w=.ok (.value (.bool (decide (a=0∧b=0∧c=0∧d=0)))) w:=by
 have hg:Tryz.prog.eqGuardType Tryz.prog.depth 192=false:=krx
 refine bL ?_;rw[Sem.run_bind,run_eqGuard_agg w .eql 192 xo yo _ _ hg];simp only[Result.andThen_ok];cases a with
|succ a=>
  rw[ahA om];kernel_rfl
|zero=>
  cases b with
 |succ b=>
   rw[ahA om];kernel_rfl
 |zero=>
   cases c with
  |succ c=>
    rw[ahA om];kernel_rfl
  |zero=>
    cases d with
   |succ d=>
     rw[ahA om];kernel_rfl
   |zero=>
     rw[ahB om];kernel_rfl
def ckV (b n k:Nat):Value:=.slice (some ⟨b,4*k,none⟩) (min 4 (n - 4*k)) (min 4 (n - 4*k))
def ckVs (b n:Nat):List Value:=(List.range ((n+3) / 4)).map (ckV b n)
theorem OS {n k:Nat}(h:4*k < n):(ckVs b n)[k]?=some (ckV b n k):=by
 unfold ckVs;rw[alG,List.getElem?_range om];rfl
theorem JO (b n:Nat):(ckVs b n).length=(n+3) / 4:=by simp[ckVs]
theorem QJ (db n cap c1 c2:Nat)(hn:n<=cap)(hn2:n<=1000000):Seq prog (fun _=>True) 225 #[] #[.pointer (some ⟨c1,0,none⟩),.pointer (some ⟨c2,0,none⟩)]
  [.cells c2 [.int .i64 4] 3,.cells c1 [.slice (some ⟨db,0,none⟩) n cap] 53] (ckVs db n):=by
 intro S w0 w1 L0 lb df M0 R K hI ho hR hy hend;show Calls prog 225 #[.func (.yield lb) #[] #[],.pointer (some ⟨c1,0,none⟩),.pointer (some ⟨c2,0,none⟩)] w1 K;refine mH ?_;unfold gT nz;have cell1:∀(M:List Ent) (W:World),OwnS S w0 W (Hx L0 lb df++(M++[.cells c2 [.int .i64 4] 3,.cells c1 [.slice (some ⟨db,0,none⟩) n cap] 53]))->W.cell? ⟨c1,0,none⟩=some (.slice (some ⟨db,0,none⟩) n cap):=by
  intro M W h;have:Ent.cells c1 [.slice (some ⟨db,0,none⟩) n cap] 53∈Hx L0 lb df++(M++[.cells c2 [.int .i64 4] 3,.cells c1 [.slice (some ⟨db,0,none⟩) n cap] 53]):=sm
  exact aG (h.mem this) (i:=0) rfl
 have cell2:∀(M:List Ent) (W:World),OwnS S w0 W (Hx L0 lb df++(M++[.cells c2 [.int .i64 4] 3,.cells c1 [.slice (some ⟨db,0,none⟩) n cap] 53]))->W.cell? ⟨c2,0,none⟩=some (.int .i64 4):=by
  intro M W h;have:Ent.cells c2 [.int .i64 4] 3∈Hx L0 lb df++(M++[.cells c2 [.int .i64 4] 3,.cells c1 [.slice (some ⟨db,0,none⟩) n cap] 53]):=sm
  exact aG (h.mem this) (i:=0) rfl
 refine loop (fun vs W=>∃(k:Nat) (M:List Ent),vs=[.int .i64 ((4*k:Nat):Int)]∧k<=(n+3) / 4∧R k M∧OwnS S w0 W (Hx L0 lb df++(M++[.cells c2 [.int .i64 4] 3,.cells c1 [.slice (some ⟨db,0,none⟩) n cap] 53]))) (fun vs _=>n - n0 vs) ⟨0,M0,rfl,om,hR,ho⟩ ?_;clear ho hR;rintro vs w2 ⟨k,M,rfl,hk,hR,ho⟩ _;simp only[fY,gd,rs,nz];rw[aO G3 (cell1 M w2 ho),bA ahX]
 try simp only[rs]
 by_cases hlt:((4*k:Nat):Int) < (n:Int)
 case neg=>
  simp only[hlt,agX,i_f];exact hend M _ w2 (by rw[JO,show (n+3) / 4=k by omega];exact hR) ho
 simp only[hlt,agY,i_t];refine eB (fun W=>OwnS S w0 W (Hx L0 lb df++(M++[.cells c2 [.int .i64 4] 3,.cells c1 [.slice (some ⟨db,0,none⟩) n cap] 53]))) ho.drew ?_;refine q_at _ (fun W h=>aB cI (cell2 M W h)) (q_at _ (fun W h=>aB G3 (cell1 M W h)) ?_);have sz1:(Tryz.prog.info? 5).map (·.size)=some 1:=krx
 refine q_do _ (fun W=>dJ ahX sz1 om om) ?_;refine q_do _ (fun W=>Dy ahX) (q_do _ (fun W=>Kz) ?_);rw[ahI,show min (4:Int) ((n - 4*k:Nat):Int)=((min 4 (n - 4*k):Nat):Int) by omega];intro w3 ho;rw[aO G3 (cell1 M w3 ho)]
 try simp only[rs]
 rw[aA om om];refine aE (DY ahX sz1 om om om om) |>.mpr ?_;rw[ahI,show (((4*k:Nat):Int)+((min 4 (n - 4*k):Nat):Int)).toNat=4*k+min 4 (n - 4*k) by omega,fC om,show 0+4*k*1=4*k by omega,show 4*k+min 4 (n - 4*k) - 4*k=min 4 (n - 4*k) by omega];refine adC (args:=[ckV db n k]) (hy k (ckV db n k) M _ w3 (OS om) hR ho) ?_;rintro v w4 (⟨rfl,M',hR',ho'⟩|⟨rfl,hK⟩)
 ·rw[Mo,aiQ,i_f,aO cI (cell2 M' w4 ho')]
  try simp only[rs]
  rw[aA om om];exact aY ⟨k+1,M',by rw[show ((4*k:Nat):Int)+4=((4*(k+1):Nat):Int) by omega],om,hR',ho'⟩ (by simp[n0,RowKit.intOf];omega)
 ·rw[Mo,aiR,i_t];exact hK
section
variable {w:World}{PK:PKT}{K:VWP}{S:Nat->Prop}{w0:World}{L:List Ent}
theorem Y4 {n:Nat}(ho:OwnS S w0 w L)(k:∀c1 c2 W,OwnS S w0 W (.cells c2 [.int .i64 4] 3::.cells c1 [.slice (some ⟨b,0,none⟩) n cap] 53::L)->K (.func (.func 225) #[] #[.pointer (some ⟨c1,0,none⟩),.pointer (some ⟨c2,0,none⟩)]) W) :
  CallX prog 180 #[.slice (some ⟨b,0,none⟩) n cap,.int .i64 4] w PK K:=by
 refine fH (oI (K:=RetK fun v W=>∃c1 c2,v=.func (.func 225) #[] #[.pointer (some ⟨c1,0,none⟩),.pointer (some ⟨c2,0,none⟩)]∧OwnS S w0 W (.cells c2 [.int .i64 4] 3::.cells c1 [.slice (some ⟨b,0,none⟩) n cap] 53::L)) ?_) (fun e W ⟨v,he,c1,c2,hv,ho⟩=>by subst he;subst hv;exact k c1 c2 W ho);unfold iQ nz;refine bC (fun b=>.pointer (some ⟨b,0,none⟩)) [.slice (some ⟨b,0,none⟩) n cap] 53 (fun _=>by kernel_rfl) ho fun c1 w1 ho=>?_;refine bC (fun b=>.pointer (some ⟨b,0,none⟩)) [.int .i64 4] 3 (fun _=>by kernel_rfl) ho fun c2 w2 ho=>?_;refine join fun J hJ=>?_;rw[aO cI (ho.cell 0 rfl 0 rfl)];simp only[rs,show decide ((4:Int) < 1)=false from rfl,i_f];refine hJ _ _ fun _=>?_;simp only[gW,gd,nz];rw[yF];exact retK ⟨c1,c2,rfl,ho⟩
theorem Vj {T E:TypeId}{l:List UInt8}(hs:P.underlying T=some .string)(hd:P.underlying D=some (.slice E))(he:P.underlying E=some (.int .u8))(ho:OwnS S w0 w L)
  (k:∀b cap w',l.length<=cap->OwnS S w0 w' (.mkr E b l::L)->K (.slice (some ⟨b,0,none⟩) l.length cap) w'):DoX P (gL T D (.string ⟨l.toArray⟩)) w PK K:=by
 have hr:=Go.Lib.run_convert_string_bytes (P:=P) w T D E ⟨l.toArray⟩ hs hd he;rw[dK] at hr;refine jU (bL hr) (k _ _ _ (grownCap_ge w l.length 0 E) ?_);refine ho.add ⟨?_,?_,?_,?_,?_⟩ (.mkr E w.heap.size l) ?_ (fun k hk=>by cases hk;exact ahD _)
 ·unfold Go.Lib.bytesWorld World.freeze;split<;>rfl
 ·unfold Go.Lib.bytesWorld World.freeze;split<;>rfl
 ·unfold Go.Lib.bytesWorld World.freeze;split<;>rfl
 ·rw[Go.Lib.bytesWorld_size];omega
 ·intro j hj _;exact Go.Lib.bytesWorld_at_old w E _ j hj
 ·refine⟨(Array.replicate (grownCap w l.length 0 E - l.length) (Value.int .u8 0)).toList,?_⟩;have:=Go.Lib.bytesWorld_at_new w E ⟨l.toArray⟩;rw[this];have e:Go.Lib.bytesCells w E ⟨l.toArray⟩=(aH l++(Array.replicate (grownCap w l.length 0 E - l.length) (Value.int .u8 0)).toList).toArray:=by
   unfold Go.Lib.bytesCells;rw[dK];apply Array.ext';simp[aH]
  rw[e];simp[aH]
end
end
section
open Eng Go.RowKit
theorem orU {a:Nat}(hb:b < 2 ^ i)(h:a*2 ^ i+b < 18446744073709551616):bOr .u64 ((a*2 ^ i:Nat):Int) (b:Int)=((a*2 ^ i+b:Nat):Int):=by
 have e:=YD (a:=a) hb;unfold bOr;show IntKind.wrap .u64 (((BitVec.ofInt 64 ((a*2 ^ i:Nat):Int) ||| BitVec.ofInt 64 (b:Int)).toNat:Nat):Int)=_;rw[BitVec.ofInt_natCast,BitVec.ofInt_natCast,BitVec.toNat_or,BitVec.toNat_ofNat,BitVec.toNat_ofNat,aiU om,aiU om,e];exact Eb h
theorem shlU {a k:Nat}(hk:k<=40)(h:a*2 ^ k < 18446744073709551616):IntKind.u64.wrap ((a:Int)*2 ^ min ((k:Nat):Int).toNat IntKind.u64.bits)=((a*2 ^ k:Nat):Int):=by
 have e:min ((k:Nat):Int).toNat IntKind.u64.bits=k:=by
  show min ((k:Nat):Int).toNat 64=k;rw[ahI];omega
 rw[e,show (a:Int)*2 ^ k=((a*2 ^ k:Nat):Int) by push_cast;rfl];exact Eb h
theorem UK (hi:i < 4):(mIA 192 (.pointer (some ⟨b,0,none⟩)) (.int .i64 (i:Int))).run prog w=.ok (.value (.pointer (some ⟨b,i,none⟩))) w:=by
 rcases (by omega:i=0∨i=1∨i=2∨i=3) with rfl|rfl|rfl|rfl<;>kernel_rfl
theorem ZT :(dB 192 (.pointer (some ⟨b,0,none⟩)) none none none).run prog w=.ok (.value (.slice (some ⟨b,0,none⟩) 4 4)) w:=krx
theorem agA (hh:h<=5):(dB 197 (.pointer (some ⟨b,0,none⟩)) none (some (.int .i64 (h:Int))) none).run prog w=.ok (.value (.slice (some ⟨b,0,none⟩) h 5)) w:=by
 rcases (by omega:h=0∨h=1∨h=2∨h=3∨h=4∨h=5) with rfl|rfl|rfl|rfl|rfl|rfl<;>kernel_rfl
theorem Z5:aggN prog 192=some 4:=krx
theorem sz1u:(Tryz.prog.info? 5).map (·.size)=some 1:=krx
theorem ZH:(Tryz.prog.info? 147).map (·.size)=some 1:=krx
theorem nU64:eF prog 147=true:=krx
theorem acX {p:List UInt8}(hp:p.length<=4):aH p++(aH [0,0,0,0]).drop p.length=aH [p.getD 0 0,p.getD 1 0,p.getD 2 0,p.getD 3 0]:=by
 rcases p with _|⟨a,_|⟨b,_|⟨c,_|⟨d,_|⟨e,t⟩⟩⟩⟩⟩
 ·rfl
 ·rfl
 ·rfl
 ·rfl
 ·rfl
 ·simp at hp
theorem Tu (s:List UInt8)(M:Mem)(w:World)(hpw:Pws M)(hM:M.has w)(hs:s.length<=1000000):RetM prog 117 #[.string ⟨s.toArray⟩] M w (fun v _=>v=.string ⟨(Ax.five s).toArray⟩):=by
 refine aT hM fun K hK=>GH ?_;unfold wS iN dx alx cx;have ho:OwnS M.A w w [.mem M]:=OwnS.memS hM;refine bC (fun b=>.pointer (some ⟨b,0,none⟩)) [.pointer none,.slice none 0 0] 188 (fun _=>by kernel_rfl) ho fun bb w1 ho=>?_;have hB0:∃v0,OwnS M.A w w1 [Bld bb v0 [],.mem M]:=⟨_,OwnS.Ei (l:=[]) (.inl rfl) K8 (ho.WG 5 1).swap⟩;obtain⟨v0,ho⟩:=hB0;refine Vj ahF ahX aiL ho fun db cap w2 hcap ho=>?_;refine Y4 ho fun c1 c2 w3 ho=>?_;refine range ho (show bZ prog 225=true by kernel_rfl) fun L0 df lb w4 ho hy=>?_;refine QJ db s.length cap c1 c2 hcap hs M.A w w4 L0 lb df [.mkr 5 db s,Bld bb v0 [],.mem M]
  (fun k Ms=>∃(v:Value) (l:List UInt8) (f:Nat),Ms=[.mkr 5 db s,Bld bb v l,.mem M]∧s.length - 4*k < f∧l++Ax.DO f (s.drop (4*k))=Ax.five s∧l.length<=5*k) _ (fun _ _ _=>trivial) ?_ ⟨v0,[],s.length+1,rfl,om,by rw[aiM];rfl,sm⟩ ?_ ?_
 ·refine ho.perm ?_;show List.Perm (_::_::([Ent.cells c2 _ _,Ent.cells c1 _ _]++[_,_,_])) (_::_::([_,_,_]++[_,_]));exact List.Perm.cons _ (List.Perm.cons _ amW)
 ·rintro k v Ms X W hk ⟨u,l,f,rfl,hf,hX,hll⟩ ho;have hkl:k < (s.length+3) / 4:=by
   have:=(ahQ.1 hk).1
   rwa [JO] at this
  have hk4:4*k < s.length:=om
  rw[OS hk4] at hk;have hk:=akJ hk;subst hk;have ho:OwnS M.A w W (.obj lb (lp L0 .ready none)::.obj df (.deferred (some []))::.mkr 5 db s::Bld bb u l::.mem M::X):=ho;refine hy _ W _ (ho.at_ 0 rfl) rfl ?_;refine aeG 0 ho rfl fun W3 ho=>?_;simp only[List.getD_cons_zero];obtain⟨f,rfl⟩:∃f',f=f'+1:=⟨f - 1,om⟩;have hne:¬s.drop (4*k)=[]:=by
   intro h;have:=congrArg List.length h;rw[ahL] at this;simp at this;omega
  rw[Ax.DO,agV hne,alP,<-ahK,show 4*k+4=4*(k+1) by omega] at hX;have hpl:((s.drop (4*k)).take 4).length=min 4 (s.length - 4*k):=by rw[ahE,ahL]
  have hpg:∀j,j < min 4 (s.length - 4*k)->((s.drop (4*k)).take 4)[j]?=s[4*k+j]?:=fun j hj=>by
   rw[List.getElem?_take_of_lt om,akG]
  generalize hpp:(s.drop (4*k)).take 4=p at hX hpl hpg;have hp4:p.length<=4:=om
  have hp0:0 < p.length:=om
  have hsx:ckV db s.length k=.slice (some ⟨db,4*k,none⟩) p.length p.length:=by unfold ckV;rw[hpl]
  rw[hsx,bA ahX];have e4:∀{PK:PKT} {K:VWP} {W:World},DoX prog (aZ 192 #[]) W PK K=K (.agg (aH [0,0,0,0]).toArray) W:=fun {PK K W}=>aE krx;rw[e4];refine bC (fun b=>.pointer (some ⟨b,0,none⟩)) (aH [0,0,0,0]) 192 (fun _=>by kernel_rfl) ho fun b4 W4 ho=>?_;refine iE 0 ho rfl (new:=aH [0,0,0,0]) sz4b eY rfl fun W5 ho=>?_;refine aE ZT |>.mpr ?_;have ho:OwnS M.A w W5 (.cells b4 (aH [0,0,0,0]) 192::.obj lb (lp L0 .busy none)::.obj df (.deferred (some []))::.mkr 5 db s::Bld bb u l::.mem M::X):=ho;refine tO 0 (src:=aH p) ahX sz1u ho rfl (by rw[fM,ahZ];omega) (fun j v hj=>?_) (by rw[fM];show 0+p.length<=4;omega) eY fun v' W6 ho=>?_
  ·have hjl:j < p.length:=by
    have:=(ahQ.1 hj).1
    rwa [fM] at this
   rw[cC];refine Ri (ho.at_ 3 rfl) ?_;have:=hpg j om;unfold aH at hj ⊢;rw[alG] at hj ⊢;rw[<-this];exact hj
  rw[akS,aiM,fM,ahJ,acX hp4] at ho;have hv4:Ax.v4 p=((p.getD 0 0).toNat*256+(p.getD 1 0).toNat)*65536+(p.getD 2 0).toNat*256+(p.getD 3 0).toNat:=rfl;have hb0:=(p.getD 0 0).toNat_lt;have hb1:=(p.getD 1 0).toNat_lt;have hb2:=(p.getD 2 0).toNat_lt;have hb3:=(p.getD 3 0).toNat_lt;generalize p.getD 0 0=q0 at ho hv4 hb0;generalize p.getD 1 0=q1 at ho hv4 hb1;generalize p.getD 2 0=q2 at ho hv4 hb2;generalize p.getD 3 0=q3 at ho hv4 hb3;have ho:OwnS M.A w W6 (.cells b4 (aH [q0,q1,q2,q3]) 192::.obj lb (lp L0 .busy none)::.obj df (.deferred (some []))::.mkr 5 db s::Bld bb u l::.mem M::X):=ho;have hv:=Ax.aaT p;have hen:=Ax.YF hp4
  try simp only[rs]
  by_cases hz:Ax.v4 p=0∧p.length=4
  ·have he:Ax.enc4 p=[122]:=by rw[Ax.Ja,agW hz]
   simp only[show decide ((p.length:Int)=4)=true from ahB om,gd,rs];rw[l_at (ho.agg 0 rfl Z5),e4];refine aE (ZX (a:=q0.toNat) (b:=q1.toNat) (c:=q2.toNat) (d:=q3.toNat)) |>.mpr ?_;rw[ahB om];simp only[rs,i_t];refine oK 4 ho rfl (AL (n:=122) (k:=122) (ho.at_ 4 rfl) om rfl om) ?_;rintro _ _ W7 ⟨rfl,v7,rfl⟩ ho;have ho:OwnS M.A w W7 (.obj lb (lp L0 .busy none)::.obj df (.deferred (some []))::.mkr 5 db s::Bld bb v7 (l++Ax.enc4 p)::.mem M::X):=by rw[he];exact ho.tail
   refine abG 0 ho rfl fun W9 ho=>?_;exact .inl ⟨rfl,_,⟨v7,_,f,rfl,om,hX,by rw[agZ];omega⟩,ho⟩
  have he:Ax.enc4 p=(List.range (p.length+1)).map (Ax.d5 p):=by rw[Ax.Ja,agV hz]
  by_cases h4:(p.length:Int)=4
  case' pos=>
   simp only[show decide ((p.length:Int)=4)=true from ahB h4,gd,rs];rw[l_at (ho.agg 0 rfl Z5),e4];refine aE (ZX (a:=q0.toNat) (b:=q1.toNat) (c:=q2.toNat) (d:=q3.toNat)) |>.mpr ?_;rw[ahA om];simp only[rs,i_f]
  case' neg=>
   simp only[show decide ((p.length:Int)=4)=false from ahA h4,gd,rs,i_f]
  all_goals
   refine aE (UK (b:=b4) (i:=0) om) |>.mpr ?_;rw[aO nU8l (ho.cell 0 rfl 0 rfl),VD,CU dc,show IntKind.u64.wrap ((q0.toNat:Int)*2 ^ min (24:Int).toNat IntKind.u64.bits)=((q0.toNat*2 ^ 24:Nat):Int) from shlU (k:=24) dc om];refine aE (UK (b:=b4) (i:=1) om) |>.mpr ?_;rw[aO nU8l (ho.cell 0 rfl 1 rfl),VD,CU dc,show IntKind.u64.wrap ((q1.toNat:Int)*2 ^ min (16:Int).toNat IntKind.u64.bits)=((q1.toNat*2 ^ 16:Nat):Int) from shlU (k:=16) dc om,b_or,orU (i:=24) om om];refine aE (UK (b:=b4) (i:=2) om) |>.mpr ?_;rw[aO nU8l (ho.cell 0 rfl 2 rfl),VD,CU dc,show IntKind.u64.wrap ((q2.toNat:Int)*2 ^ min (8:Int).toNat IntKind.u64.bits)=((q2.toNat*2 ^ 8:Nat):Int) from shlU (k:=8) dc om,b_or,
    show q0.toNat*2 ^ 24+q1.toNat*2 ^ 16=(q0.toNat*256+q1.toNat)*2 ^ 16 by omega,orU (i:=16) om om]
   refine aE (UK (b:=b4) (i:=3) om) |>.mpr ?_;rw[aO nU8l (ho.cell 0 rfl 3 rfl),VD,b_or,show (q0.toNat*256+q1.toNat)*2 ^ 16+q2.toNat*2 ^ 8=((q0.toNat*256+q1.toNat)*256+q2.toNat)*2 ^ 8 by omega,orU (i:=8) om om,
    show ((q0.toNat*256+q1.toNat)*256+q2.toNat)*2 ^ 8+q3.toNat=Ax.v4 p by omega]
   try simp only[rs]
   rw[aA om om,show (p.length:Int)+1=((p.length+1:Nat):Int) by omega];refine aE (agA om) |>.mpr ?_;rw[bA Tryz.underlying196];clear hv4 hb0 hb1 hb2 hb3;refine loop (fun vs W=>∃(i:Nat) (u:Value),vs=[.int .i64 (i:Int)]∧i<=p.length+1∧OwnS M.A w W (.cells b4 (aH [q0,q1,q2,q3]) 192::.obj lb (lp L0 .busy none)::.obj df (.deferred (some []))::.mkr 5 db s::Bld bb u (l++(List.range i).map (Ax.d5 p))::.mem M::X)) (fun vs _=>p.length+1 - n0 vs) ⟨0,u,rfl,om,by rw[List.range_zero,alI,ahV];exact ho⟩ ?_;clear ho;rintro vs W7 ⟨i,u7,rfl,hi,ho⟩ _;simp only[Ae,gd,rs,iN];by_cases hlt:(i:Int) < ((p.length+1:Nat):Int)
   case neg=>
    simp only[hlt,agX,i_f];obtain rfl:i=p.length+1:=om
    rw[<-he] at ho;refine abG 0 ho.tail rfl fun W9 ho=>?_;exact .inl ⟨rfl,_,⟨u7,_,f,rfl,om,hX,by rw[agZ];omega⟩,ho⟩
   simp only[hlt,agY,i_t];have hi5:i < 5:=om
   refine aE (eE (P:=prog) (T:=196) (b:=0) (off:=0) (cap:=5) (n:=p.length+1) (k:=.i64) (i:=(i:Int)) (w:=W7) Tryz.underlying196 ZH om om) |>.mpr ?_;rw[ahI,ahZ,ahJ,aO nU64 (Mem.cell (ho.hasM 5 rfl) hpw.1 (hpw.2 i hi5))];have hq0:0 < Ax.pw.getD i 0∧Ax.pw.getD i 0<=52200625:=by
    rcases lt5 hi5 with rfl|rfl|rfl|rfl|rfl<;>decide
   have hdf:Ax.d5 p i=UInt8.ofNat (33+Ax.v4 p / Ax.pw.getD i 0 % 85):=rfl;generalize Ax.pw.getD i 0=q at hq0 hdf;have hd:Ax.v4 p / q<=Ax.v4 p:=amA _ _;rw[TX om,show ((Ax.v4 p:Nat):Int).tdiv (q:Int)=((Ax.v4 p / q:Nat):Int) from rfl,Eb om,Jo dc,show ((Ax.v4 p / q:Nat):Int).tmod 85=((Ax.v4 p / q % 85:Nat):Int) from rfl];have hm:Ax.v4 p / q % 85 < 85:=ajW _ dc
   try simp only[rs]
   rw[show (33:Int)+((Ax.v4 p / q % 85:Nat):Int)=((33+Ax.v4 p / q % 85:Nat):Int) by omega,Eb om];refine aE (bO krx aiL) |>.mpr ?_;rw[DQ,<-hdf];have hrl:((List.range i).map (Ax.d5 p)).length=i:=sm
   refine oK 4 ho rfl (jM (c:=Ax.d5 p i) (ho.at_ 4 rfl) (by rw[agZ,hrl];omega)) ?_;rintro _ _ W8 ⟨rfl,v8,rfl⟩ ho
   try simp only[rs]
   rw[aA om om];refine aY ⟨i+1,v8,rfl,om,?_⟩ (by simp[n0,RowKit.intOf];omega);rw[alY,aiN,<-ahK];exact ho
 ·rintro Ms X W ⟨u,l,f,rfl,hf,hX,hll⟩ ho;rw[JO] at hf hX hll;obtain⟨f,rfl⟩:∃f',f=f'+1:=⟨f - 1,om⟩;rw[Ax.DO,agW (ajC om)] at hX;refine⟨_,.ready,none,_,rfl,(by intro h;cases h),ho.at_ 0 rfl,ahG.2 (.inl rfl),?_⟩;have hp':OwnS M.A w (putO W lb (lp L0 .exhausted none)) (.obj lb (lp L0 .exhausted none)::.obj df (.deferred (some []))::.mkr 5 db s::Bld bb u l::.mem M::X):=FE (o':=lp L0 .exhausted none) ho 0 rfl;have ho:OwnS M.A w (putO W lb (lp L0 .exhausted none)) (.obj df (.deferred (some []))::.mkr 5 db s::Bld bb u l::.mem M::X):=hp'.tail;refine oK 2 ho rfl (Ca (ho.at_ 2 rfl)) ?_;rintro _ _ w9 ⟨rfl,rfl⟩ ho;rw[show (Value.string ⟨#[126,62]⟩)=.string ⟨([126,62]:List UInt8).toArray⟩ from rfl,UN (by simp;omega),hX];refine ZF 0 ho rfl fun W4 ho=>?_;exact hK _ _ M _ 3 ho rfl M.le_refl rfl
end
section
open Eng Go.RowKit
namespace Ff
def jG (n s:List UInt8):List UInt8:=if full n=nHx then Oc.hex s++[62] else if full n=n85 then Ax.five s else if full n=nRL then Ax.pack s else []
def OneR (n:List UInt8)(x:Pm)(s t:List UInt8)(e:Int):Prop:=
 if full n=[] then t=[]∧e=15
 else if full n=nFl then (if Pr.why x s=0 then e=0∧Zl.lF t 1048576=(Pr.encode x s,0)∧t.length<=2*(Pr.encode x s).length+16 else t=[]∧e=Pr.why x s)
 else t=jG n s∧e=0
end Ff
theorem Ax.JM:∀(f:Nat) (s:List UInt8),(Ax.sG f s).length<=2*s.length+1
|0,s=>by unfold Ax.sG;simp
|f+1,s=>by
  unfold Ax.sG;split
  ·simp
  ·have hl:0 < s.length:=akN.2 (by assumption);split
   ·rename_i h3
    have ih:=Ax.JM f (s.drop (Ax.alike s));have ha:Ax.alike s<=128∧Ax.alike s<=s.length:=Ax.Dd _ _ _;rw[ahL] at ih;rw[agZ];show 2+_<=_;omega
   ·have hlit:=Ax.WR (s:=s) (by assumption);have ih:=Ax.JM f (s.drop (Ax.lit s));rw[ahL] at ih;rw[agZ,agZ,ahE];show 1+_+_<=_;omega
theorem Ax.NB:∀(f:Nat) (s:List UInt8),s.length < f->(Ax.DO f s).length<=5*s.length+2
|0,s,h=>by omega
|f+1,s,h=>by
  unfold Ax.DO;split
  ·simp
  ·have hl:0 < s.length:=akN.2 (by assumption);have ih:=Ax.NB f (s.drop 4) (by rw[ahL];omega);rw[ahL] at ih;have hp:(s.take 4).length<=4:=by rw[ahE];omega
   have he:(Ax.enc4 (s.take 4)).length<=(s.take 4).length+1:=by
    rw[Ax.Ja];split
    ·simp
    ·simp
   rw[agZ];rw[ahE] at he;omega
theorem Ff.Qt {n s:List UInt8}:(Ff.jG n s).length<=5*s.length+2:=by
 unfold Ff.jG;split
 ·rw[agZ,Jf];simp;omega
 ·split
  ·exact Ax.NB _ _ om
  ·split
   ·have:=Ax.JM (s.length+1) s;unfold Ax.pack;omega
   ·simp
theorem Ff.Ue {n:List UInt8}{s t:List UInt8}{e:Int}(h:Ff.OneR n x s t e)(he:e=0)(hs:s.length<=1048576):Ff.undo n x t=(s,0):=by
 unfold Ff.OneR at h;by_cases h0:Ff.full n=[]
 ·rw[agW h0] at h;rw[h.2] at he;cases he
 rw[agV h0] at h;unfold Ff.undo;by_cases h4:Ff.full n=Ff.nFl
 ·rw[agW h4] at h;rw[agV (by rw[h4];decide),agV (by rw[h4];decide),agV (by rw[h4];decide),agW h4];by_cases hw:Pr.why x s=0
  ·rw[agW hw] at h;have hok:x.ok:=by
    refine Decidable.byContradiction fun hx=>?_;unfold Pr.why at hw;rw[agW hx] at hw;cases hw
   rw[agV (by simp[hok])];simp only[h.2.1];rw[agV dc];exact (Pr.OG hw).1
  ·rw[agV hw] at h;rw[h.2] at he;exact absurd he hw
 ·rw[agV h4] at h;obtain⟨rfl,_⟩:=h;have hf:=Ff.nG n;rcases hf with h|h|h|h|h
  ·have hp:Ff.jG n s=Oc.hex s++[62]:=by unfold Ff.jG;rw[agW h]
   rw[hp,agW h];exact Ax.PE om hs
  ·have hp:Ff.jG n s=Ax.five s:=by unfold Ff.jG;rw[agV (by rw[h];decide),agW h]
   rw[hp,agV (by rw[h];decide),agW h];exact Ax.Mu om hs
  ·have hp:Ff.jG n s=Ax.pack s:=by unfold Ff.jG;rw[agV (by rw[h];decide),agV (by rw[h];decide),agW h]
   rw[hp,agV (by rw[h];decide),agV (by rw[h];decide),agW h];exact Ax.Qk om hs
  ·exact absurd h h4
  ·exact absurd h h0
theorem PD:bZ prog 117=true:=krx
theorem P1:bZ prog 121=true:=krx
theorem Pp (b f:Nat)(s r:List UInt8)(M:Mem)(w:World)(hp:bZ prog f=true)(hb:(Km b f).is w)(hM:M.has w)(h:RetM prog f #[.string ⟨s.toArray⟩] M w (fun v _=>v=.string ⟨r.toArray⟩)) :
  RetM prog 171 #[.string ⟨s.toArray⟩,.pointer (some ⟨b,0,none⟩)] M w (fun v _=>v=zlT (r,0)):=by
 refine aT hM fun K hK=>qD ?_;unfold oH nz;rw[aO nFnS (aG (T:=36) (cs:=[fnV f]) hb (i:=0) rfl)];unfold fnV;refine EI hp (bF (OwnS.memS hM) 0 rfl h ?_);rintro _ N w1 g1 rfl ho;exact hK _ _ N _ 0 ho rfl g1 rfl
theorem R6 (x:Pm)(hP:PeR x)(s:List UInt8)(M:Mem)(w:World)(hM:M.has w)(hs:s.length<=1000000000) :
  RetM prog 121 #[pmV x,.string ⟨s.toArray⟩] M w (fun v _=>∃t e,v=zlT (t,e)∧if Pr.why x s=0 then e=0∧Zl.lF t 1048576=(Pr.encode x s,0)∧t.length<=2*(Pr.encode x s).length+16 else t=[]∧e=Pr.why x s):=by
 refine aT hM fun K hK=>vN ?_;unfold nR nz;refine bC (fun b=>.pointer (some ⟨b,0,none⟩)) (pmC x) 143 (fun _=>by kernel_rfl) (OwnS.memS hM) fun b2 w1 ho=>?_;rw[aK WI,l_at (T:=27) (v:=pmV x) (AtV.agg Fg (cs:=pmC x) rfl fun j u hj=>by rw[aiZ,ahJ];exact ho.cell 0 rfl j hj)];refine aL ho (hP s w1 hs) ?_;rintro _ w2 rfl ho;simp only[encT,ex,gD];by_cases hw:Pr.why x s=0
 case neg=>
  simp only[ahB (show Pr.why x s≠0 from hw),i_t];exact hK _ _ M _ 1 ho rfl M.le_refl ⟨[],Pr.why x s,rfl,by rw[agV hw];exact⟨rfl,rfl⟩⟩
 simp only[ahA (show ¬Pr.why x s≠0 from fun h=>h hw),i_f,agW hw];refine bF ho 1 rfl (QV (Pr.encode x s) M w2 (ho.hasM 1 rfl) (Pr.OG hw).2) ?_;rintro _ N w3 g1 ⟨t,rfl,h1,h2⟩ ho;simp only[ex];exact hK _ _ N _ 1 ho rfl g1 ⟨t,0,rfl,by rw[agW hw];exact⟨rfl,h1,h2⟩⟩
theorem XB (n:List UInt8)(x:Pm)(hP:PeR x)(s:List UInt8)(M:Mem)(w:World)(hpw:Pws M)(hM:M.has w)(hs:s.length<=1000000) :
  RetM prog 17 #[.string ⟨n.toArray⟩,pmV x,.string ⟨s.toArray⟩] M w (fun v _=>∃t e,v=zlT (t,e)∧Ff.OneR n x s t e):=by
 refine aT hM fun K hK=>xB ?_;unfold yW nz;unfold Ff.OneR at hK;refine Hm x (OwnS.memS hM) fun b4 w1 ho=>?_;rw[pm_v ho 0 rfl];have wone:∀{p u:Value},p.oneCell'=true->u.oneCell'=true->∀y∈wyC p u,y.oneCell'=true:=by
  intro p u hp hu y hy;simp only[wyC,ahG,ajH,or_false] at hy;rcases hy with rfl|rfl<;>assumption
 refine XV ho (fun f g hfg b1 b2 w2 ho=>?_) (fun hf w2 ho=>?_) (fun hf w2 ho=>?_)
 ·simp only[ex];refine bC (fun b=>.pointer (some ⟨b,0,none⟩)) (wyC .nilFunc .nilFunc) 91 (fun _=>by kernel_rfl) ho fun b8 w3 ho=>?_;refine iE 0 ho rfl (new:=wyC (yI b1) (zU b2)) szWy (wone rfl rfl) rfl fun w4 ho=>?_;have ho:OwnS M.A w w4 [wyE b8 (yI b1) (zU b2),upE b2 g,Km b1 f,pmE b4 x,.mem M]:=ho;simp only[gD,show decide ((0:Int)≠0)=false from rfl,i_f];rw[fP ahF];simp only[rs,show decide ((1048576:Int) < (s.length:Int))=false from ahA om,i_f];rw[aK TO,aO nFnW (ho.cell 0 rfl 0 rfl)];have hM4:=ho.hasM 4 rfl;have ofRet:∀{f:Nat} {r:List UInt8},Ret prog f #[.string ⟨s.toArray⟩] w4 (fun v w'=>v=.string ⟨r.toArray⟩∧Below w4.heap.size w4 w')->RetM prog f #[.string ⟨s.toArray⟩] M w4 (fun v _=>v=.string ⟨r.toArray⟩):=fun h=>
   h.mono fun v w' ⟨h1,h2⟩=>⟨M,⟨M.le_refl,Mem.LB hM4 h2,fun _ h=>.inl h,h2⟩,h1⟩
  have key:∃_:bZ prog f=true,¬Ff.full n=[]∧¬Ff.full n=Ff.nFl∧RetM prog f #[.string ⟨s.toArray⟩] M w4 (fun v _=>v=.string ⟨(Ff.jG n s).toArray⟩):=by
   unfold Ff.jG;rcases hfg with ⟨h,rfl,_⟩|⟨h,rfl,_⟩|⟨h,rfl,_⟩
   ·rw[agW h];exact⟨H9,by rw[h];decide,by rw[h];decide,ofRet (Ou s w4 hs)⟩
   ·rw[agV (by rw[h];decide),agW h];exact⟨PD,by rw[h];decide,by rw[h];decide,Tu s M w4 hpw hM4 hs⟩
   ·rw[agV (by rw[h];decide),agV (by rw[h];decide),agW h];exact⟨Im,by rw[h];decide,by rw[h];decide,ofRet (OE s w4 om)⟩
  obtain⟨hp,hn0,hn4,key⟩:=key;simp only[agV hn0,agV hn4] at hK;unfold yI;refine EI Iu (bF ho 4 rfl (Pp b1 f s _ M w4 hp (ho.at_ 2 rfl) hM4 key) ?_);rintro _ N w5 g1 rfl ho;simp only[zlT,ex];exact hK _ _ N _ 4 ho rfl g1 ⟨_,_,rfl,rfl,rfl⟩
 ·have hn0:¬Ff.full n=[]:=by rw[hf];decide
  simp only[agV hn0,agW hf] at hK;simp only[ex];refine bC (fun b=>.pointer (some ⟨b,0,none⟩)) (wyC .nilFunc .nilFunc) 91 (fun _=>by kernel_rfl) ho fun b8 w3 ho=>?_;refine iE 0 ho rfl (new:=wyC (JE x) (sZ x)) szWy (wone rfl rfl) rfl fun w4 ho=>?_;have ho:OwnS M.A w w4 [wyE b8 (JE x) (sZ x),pmE b4 x,.mem M]:=ho;simp only[gD];by_cases hx:x.ok
  case neg=>
   have hw:Pr.why x s=1:=by unfold Pr.why;rw[agW hx]
   simp only[hw,agV (show ¬(1:Int)=0 by decide)] at hK;simp only[agV hx,show decide ((1:Int)≠0)=true from rfl,i_t];exact hK _ _ M _ 2 ho rfl M.le_refl ⟨[],1,rfl,rfl,rfl⟩
  simp only[agW hx,show decide ((0:Int)≠0)=false from rfl,i_f];rw[fP ahF];simp only[rs,show decide ((1048576:Int) < (s.length:Int))=false from ahA om,i_f];rw[aK TO,aO nFnW (ho.cell 0 rfl 0 rfl)];unfold JE;refine EI P1 (bF ho 2 rfl (R6 x hP s M w4 (ho.hasM 2 rfl) om) ?_);rintro _ N w5 g1 ⟨t,e,rfl,h⟩ ho;simp only[zlT,ex];exact hK _ _ N _ 2 ho rfl g1 ⟨t,e,rfl,h⟩
 ·simp only[agW hf] at hK;simp only[ex];refine bC (fun b=>.pointer (some ⟨b,0,none⟩)) (wyC .nilFunc .nilFunc) 91 (fun _=>by kernel_rfl) ho fun b8 w3 ho=>?_;refine iE 0 ho rfl (new:=wyC .nilFunc .nilFunc) szWy (wone rfl rfl) rfl fun w4 ho=>?_;simp only[gD,show decide ((15:Int)≠0)=true from rfl,i_t];exact hK _ _ M _ 2 ho rfl M.le_refl ⟨[],15,rfl,rfl,rfl⟩
end
section
open Eng Go.RowKit
theorem Ff.Tc (n:List UInt8)(h:Ff.full n=Ff.nHx∨Ff.full n=Ff.nRL):Ff.full (Ff.full n)=Ff.nHx∨Ff.full (Ff.full n)=Ff.nRL:=by
 rcases h with h|h<;>rw[h]
 ·exact .inl dc
 ·exact .inr dc
def n0C (_:Unit):List Value:=obC Vl.ob0 nilS nilS
theorem Y3 {x:Unit}:∀u∈n0C x,u.oneCell'=true:=by
 intro u hu;simp only[n0C,obC,ahG,ajH,or_false] at hu;rcases hu with rfl|rfl|rfl|rfl|rfl|rfl<;>rfl
abbrev n0sE (v:Value)(l:List Unit):Ent:=.recs 25 n0C 6 v l
namespace Ff
def EncR:List (List UInt8)->List UInt8->List UInt8->Prop
|[],s,t=>t=s
|n::r,s,t=>∃u,EncR r s u∧OneR n cJ u t 0
def encP (o:Ob)(ms:List (List UInt8))(D:List UInt8):Ob×Int:=
 if (plain o D).2≠0 then plain o D
 else if ms=[] then plain o D
 else if (Vl.set (plain o D).1 aU (alone (ms.map dU))).2≠0 then (Vl.ob0,(Vl.set (plain o D).1 aU (alone (ms.map dU))).2)
 else ((Vl.set (plain o D).1 aU (alone (ms.map dU))).1,0)
theorem K7 {s:List UInt8}(h:s.length<=1048576):Pr.why cJ s=0:=by
 unfold Pr.why;rw[agV dc,agV om,agW (show cJ.p=1 from rfl)]
theorem adA {n s t:List UInt8}{e:Int}(h:OneR n cJ s t e)(hn:full n≠[])(hs:s.length<=1048576):e=0:=by
 unfold OneR at h;rw[agV hn] at h;split at h
 ·rw[agW (K7 hs)] at h;exact h.1
 ·exact h.2
end Ff
theorem Ff.Yx {n:List UInt8}(h:Ff.full n≠[]):Ff.full (Ff.full n)≠[]:=by
 rcases Ff.nG n with e|e|e|e|e<;>rw[e]<;>first|decide|exact absurd e h
theorem Eg (o:Ob)(v:Value)(ns:List (List UInt8))(vn:Value)(data:List UInt8)(M:Mem)(w:World)(hpw:Pws M)(hk:o.k=9∨o.k=7)(h8:ns.length<=8)(hfl:∀n∈ns,Ff.full n≠[])
  (hb:∀i D,Ff.EncR ((ns.map Ff.full).drop i) data D->D.length<=1000000) (hw:o.wt<=100000000) (hx:∀D,Ff.EncR (ns.map Ff.full) data D->(Ff.plain o D).1.wt<=1000000000) (ha:(Ff.alone ((ns.map Ff.full).map Ff.dU)).wt<=1000000000) (hws:Ob.wts ((ns.map Ff.full).map Ff.dU)<=1000000000) (hM:M.has w) (hv:OV M.A M.w v o) (hn:SlA M.A M.w vn 1 ns.length (bG ns)) :
  RetM prog 22 #[v,vn,nilS,.string ⟨data.toArray⟩] M w (fun r N=>∃D v',Ff.EncR (ns.map Ff.full) data D∧r=errV v' (Ff.encP o (ns.map Ff.full) D).2∧OV N.A N.w v' (Ff.encP o (ns.map Ff.full) D).1):=by
 obtain⟨vk,vc,ocs,rfl,hoa⟩:=hv.open;refine aT hM fun K hK=>CC ?_;unfold xC nz;refine eW o hoa.keys.one hoa.kids.one (OwnS.memS hM) fun b4 w1 ho=>?_;refine eX ho fun b8 w2 ho=>?_;rw[fI,ob_k ho 1 rfl];simp only[rs];have hpl:=@Dm o;have hl1:(ns.map Ff.full).length=ns.length:=ahT _;have hcl2:∀n∈ns.map Ff.full,Ff.full n≠[]:=by
  intro n h;obtain⟨m,hm,rfl⟩:=aiD.1 h;exact Ff.Yx (hfl m hm)
 have main:∀W,OwnS M.A w W [obE b8 ob0 nilS nilS,obE b4 o vk vc,.mem M]->CallX prog 67 #[vn,nilS] W (pk K) fun t31 w=>
 DoX prog (mExt t31 0) w (pk K) fun t32 w=>
 DoX prog (mExt t31 1) w (pk K) fun t33 w=>
 DoX prog (mExt t31 2) w (pk K) fun t34 w=>
 DoX prog (mEq .neq 30 (.tmp 35) (.const (.int .i64 0)) t34 (.int .i64 0)) w (pk K) fun t36 w=>
 IfX t36 (DoX prog (aZ 25 #[]) w (pk K) fun t37 w=>
 DoX prog (aS 25 (.pointer (some ⟨b8,0,none⟩)) t37) w (pk K) fun _ w=>
 RetX prog [.cell (.pointer (some ⟨b8,0,none⟩)) 25,.val t34] w K) (DoX prog (mB .len #[22] 3 #[false] #[t32]) w (pk K) fun t40 w=>
 DoX prog (mBin .sub 3 t40 (.int .i64 1)) w (pk K) fun t41 w=>
 LoopX [.string ⟨data.toArray⟩,(.int .i64 0),t41] w (fun vs1 w N1=>∀_:Sg,kL t32 t33 (vs1.getD 0 undef) (.pointer (some ⟨b4,0,none⟩)) (.pointer (some ⟨b8,0,none⟩)) (vs1.getD 1 undef) (vs1.getD 2 undef) w N1 K)):=by
  intro w2 ho;refine bF ho 2 rfl (Si ns vn M w2 h8 hfl (ho.hasM 2 rfl) hn) ?_;rintro _ N w3 l1 ⟨va,vb,rfl,hva,hvb⟩ ho;have ho:OwnS M.A w w3 [obE b8 ob0 nilS nilS,obE b4 o vk vc,.mem N]:=ho;simp only[ex,nC (show [va,vb,Value.int .i64 0][2]?=some (Value.int .i64 0) from rfl),nC (show [va,vb,Value.int .i64 0][1]?=some vb from rfl),nC (show [va,vb,Value.int .i64 0][0]?=some va from rfl),gD,show decide ((0:Int)≠0)=false from rfl,i_f];generalize ns.map Ff.full=ms at *;have hlm:(List.replicate ns.length Ff.cJ).length=ms.length:=by rw[aiE,hl1]
  rw[AY hva]
  try simp only[rs]
  have hm8:ms.length<=8:=om
  rw[aA om om];refine loop (fun vs W=>∃(j:Nat) (D:List UInt8) (N2:Mem),vs=[.string ⟨D.toArray⟩,.int .i64 0,.int .i64 ((j:Int) - 1)]∧j<=ms.length∧Ff.EncR (ms.drop j) data D∧N.le N2∧OwnS M.A w W [obE b8 ob0 nilS nilS,obE b4 o vk vc,.mem N2]) (fun vs _=>(RowKit.intOf (vs.getD 2 undef)+1).toNat) ⟨ms.length,data,N,rfl,ahD _,by rw[List.drop_length];rfl,N.le_refl,ho⟩ ?_;clear ho;rintro vs w4 ⟨j,D,N',rfl,hj,hD,l0,ho⟩ _;simp only[kL,gd,rs,iN,dx,ldx,bnx,exx,stx,lnx,ecx,gfx,efx,cx];by_cases hj0:0 < j
  ·simp only[show decide ((0:Int)<=(j:Int) - 1)=true from ahB om,i_t];obtain⟨i,rfl⟩:∃i,j=i+1:=⟨j - 1,om⟩;rw[show ((i+1:Nat):Int) - 1=(i:Int) by omega];have hi:i < ms.length:=om
   obtain⟨p,hia,hld⟩:=MD (hva.le l0) hi;obtain⟨p2,hia2,hld2⟩:=pmAt (hvb.le l0) (i:=i) om;have hDl:=hb (i+1) D hD;have ho:=ho.drew;refine⟨fun W=>N'.has W,ho.hasM 2 rfl,?_⟩;refine aM _ hia (sN _ (fun W h=>hld W h) ?_);refine aM _ hia2 (sN _ (fun W h=>hld2 W h) ?_);rw[anY];refine bF ho 2 rfl (XB ms[i] Ff.cJ (peR1 rfl) D N' _ (hpw.le (l1.trans l0)) (ho.hasM 2 rfl) hDl) ?_;rintro _ N3 w5 l3 ⟨t,e,rfl,hR⟩ ho;obtain rfl:=Ff.adA hR (hcl2 _ (ahP hi)) om;refine⟨Mem.Lo l3 (ho.hasM 2 rfl),?_⟩;simp only[zlT];refine aM (.string ⟨t.toArray⟩) (fun _=>by kernel_rfl) (aM (.int .i64 0) (fun _=>by kernel_rfl) ?_);simp only[gD,show decide ((0:Int)≠0)=false from rfl,i_f]
   try simp only[rs]
   rw[aA om om];refine aY ⟨i,t,N3,rfl,om,?_,l0.trans l3,ho⟩ (by simp[RowKit.intOf]);rw[ajB hi,Ff.EncR];exact⟨D,hD,hR⟩
  have hj0:j=0:=om
  subst hj0;rw[ajL] at hD
  replace l1:=l1.trans l0
  replace hva:=hva.le l0
  replace hvb:=hvb.le l0
  clear l0;simp only[show decide ((0:Int)<=((0:Nat):Int) - 1)=false from rfl,i_f];have hbz:=hb 0 D (by rw[ajL];exact hD)
  replace hx:=hx D hD
  generalize hX:Ff.encP o ms D=X;have hK:∀(v:Value) (w':World) (N:Mem) (L:List Ent) (i:Nat),OwnS M.A w w' L->L[i]?=some (.mem N)->M.le N->(∃v',v=errV v' X.2∧OV N.A N.w v' X.1)->K (.returned v) w':=fun v w' N L i h1 h2 h3 ⟨v',h4,h5⟩=>hK v w' N L i h1 h2 h3 ⟨D,v',hD,by rw[hX];exact h4,by rw[hX];exact h5⟩;unfold Ff.encP at hX;rw[ob_v ho 1 rfl];refine bF ho 2 rfl (Dm o _ D N' w4 om om (ho.hasM 2 rfl) (hv.le l1)) ?_;generalize Ff.plain o D=P at hX hx;obtain⟨x,pe⟩:=P;rintro _ N2 w5 l2 ⟨xv,rfl,hxo⟩ ho;obtain⟨xk,xc,xcs,rfl,hxa⟩:=hxo.open;dsimp only at hX hx hxa;simp only[errV,ex];refine bD 1 hxa.keys.one hxa.kids.one ho rfl fun w6 ho=>?_;have ho:OwnS M.A w w6 [obE b8 ob0 nilS nilS,obE b4 x xk xc,.mem N2]:=ho;simp only[gD,rs];by_cases hpe:pe=0
  case neg=>
   rw[agW hpe] at hX;simp only[ahB (show pe≠0 from hpe),rs,g_un,i_t];rw[ob_v ho 1 rfl];refine bD 0 hxa.keys.one hxa.kids.one ho rfl fun w7 ho=>?_;exact eJ 0 ho rfl (hK _ _ N2 _ 2 ho rfl (l1.trans l2) ⟨_,by rw[<-hX];rfl,by rw[<-hX];exact hxa.ov⟩)
  rw[agV (fun h=>h hpe)] at hX;subst hpe;simp only[show decide ((0:Int)≠0)=false from rfl,rs];rw[AY hva];by_cases hms:ms=[]
  ·rw[agW hms] at hX;simp only[rs,show decide ((ms.length:Int)=0)=true from ahB (by rw[hms];rfl),i_t];rw[ob_v ho 1 rfl];refine bD 0 hxa.keys.one hxa.kids.one ho rfl fun w7 ho=>?_;exact eJ 0 ho rfl (hK _ _ N2 _ 2 ho rfl (l1.trans l2) ⟨_,by rw[<-hX];rfl,by rw[<-hX];exact hxa.ov⟩)
  rw[agV hms] at hX;have hm0:=akN.2 hms;simp only[rs,show decide ((ms.length:Int)=0)=false from ahA om,i_f];rw[AY hva];have ho:=(OwnS.nilU ho 25 6);have ho:=(OwnS.nilU ho 25 6);have ho:OwnS M.A w w6 [nmsE nilS [],n0sE nilS [],obE b8 ob0 nilS nilS,obE b4 x xk xc,.mem N2]:=ho;have hva2:=hva.le l2;have hvb2:=hvb.le l2;refine loop (fun vs W=>∃(i:Nat) (fv pv:Value) (N3:Mem),vs=[.int .i64 0,fv,pv,.bool false,.int .i64 (i:Int)]∧i<=ms.length∧N2.le N3∧OwnS M.A w W [nmsE fv (ms.take i),n0sE pv (List.replicate i ()),obE b8 ob0 nilS nilS,obE b4 x xk xc,.mem N3]) (fun vs _=>ms.length - (RowKit.intOf (vs.getD 4 undef)).toNat) ⟨0,nilS,nilS,N2,rfl,om,N2.le_refl,ho⟩ ?_;clear ho;rintro vs w7 ⟨i,fv,pv,N3,rfl,hi,l3,ho⟩ _;simp only[sM,gd,rs,iN,dx,ldx,bnx,iax,exx,stx,alx,ecx,apx,gfx,cx];by_cases hlt:(i:Int) < (ms.length:Int)
  ·simp only[hlt,agY,i_t];have hi':i < ms.length:=om
   obtain⟨p,hia,hld⟩:=MD (hva2.le l3) hi';obtain⟨p2,hia2,hld2⟩:=pmAt (hvb2.le l3) (i:=i) om;rw[aE (hia w7),aE (hld w7 (ho.hasM 4 rfl)),aE (hia2 w7),aE (hld2 w7 (ho.hasM 4 rfl)),anY];refine bF ho 4 rfl (Qi N3 w7 (ho.hasM 4 rfl)) ?_;rintro _ N4 w8 l4 rfl ho;simp only[errV,ex];refine eX ho fun b17 w9 ho=>?_;refine bD 0 (vk':=nilS) (vc':=nilS) rfl rfl ho rfl fun w10 ho=>?_;simp only[gD,show decide ((0:Int)≠0)=false from rfl,i_f];refine aL ho (SU ms[i] w10) ?_;rintro _ w11 rfl ho;have ho:OwnS M.A w w11 [obE b17 Vl.ob0 nilS nilS,nmsE fv (ms.take i),n0sE pv (List.replicate i ()),obE b8 ob0 nilS nilS,obE b4 x xk xc,.mem N4]:=ho;refine aaL ms[i] 1 ho rfl (by rw[ahE];omega) fun fv' w12 ho=>?_;have ho:OwnS M.A w w12 [obE b17 Vl.ob0 nilS nilS,nmsE fv' (ms.take i++[ms[i]]),n0sE pv (List.replicate i ()),obE b8 ob0 nilS nilS,obE b4 x xk xc,.mem N4]:=ho;rw[ob_v ho 0 rfl];refine Gd Vl.ob0 (vk:=nilS) (vc:=nilS) rfl rfl ho fun nb w13 ho=>?_;refine cL 3 ahN R8 dc ho rfl (lX (cs:=n0C ()) (ho.at_ 0 rfl) dc rfl) Y3 (by rw[aiE];omega) (by rw[aiE];omega) fun pv' w14 ho=>?_;have e:n0sE pv' (List.replicate (i+1) ())=.urow 25 6 pv' ((List.replicate i ()).length+1) ((List.replicate i ()).flatMap n0C++n0C ()):=by
    unfold n0sE Ent.recs;rw[aoP,agZ,amC,amN];rfl
   have ho:OwnS M.A w w14 [obE nb Vl.ob0 nilS nilS,obE b17 Vl.ob0 nilS nilS,nmsE fv' (ms.take i++[ms[i]]),n0sE pv' (List.replicate (i+1) ()),obE b8 ob0 nilS nilS,obE b4 x xk xc,.mem N4]:=by rw[e];exact ho
   try simp only[rs]
   rw[fI,ob_k ho 1 rfl];simp only[rs,show decide ((Vl.ob0).k≠0)=false from rfl];rw[aA om om];refine aY ⟨i+1,fv',pv',N4,rfl,om,l3.trans l4,?_⟩ (by simp[RowKit.intOf];omega);rw[aiG hi'];exact ho.tail.tail
  simp only[hlt,agX,i_f];have:i=ms.length:=om
  subst this;rw[ajG] at ho;obtain⟨N4,l4,hsf,ho⟩:=ho.cG 3 rfl;have ho:OwnS M.A w w7 [n0sE pv (List.replicate ms.length ()),obE b8 ob0 nilS nilS,obE b4 x xk xc,.mem N4]:=ho;have hls:LsAt N4 fv (ms.map Ff.dU) (ms.flatMap nmC):=⟨by rw[ahT];exact hsf,LZ ms⟩;have hle4:=((l1.trans l2).trans l3).trans l4;have ho:=ho.drew;refine⟨fun W=>(obE b4 x xk xc).is W,ho.at_ 2 rfl,?_⟩;refine sN (obV x xk xc) (fun W h=>bI (AtV.agg tI (cs:=obC x xk xc) rfl fun j u hj=>by rw[ahJ];exact aG (T:=25) h hj)) ?_;refine bF ho 3 rfl (PY (ms.map Ff.dU) fv _ N4 _ hws (ho.hasM 3 rfl) hls) fun y N5 w8 l5 hy ho=>?_;refine⟨ho.at_ 2 rfl,?_⟩;refine bF ho 3 rfl (V2 x (Ff.alone (ms.map Ff.dU)) _ y Ff.aU N5 w8 om om dc (ho.hasM 3 rfl) ((((hxo.le l3).le l4).le l5)) hy) ?_;generalize Vl.set x Ff.aU (Ff.alone (ms.map Ff.dU))=Rr at hX;obtain⟨z,ze⟩:=Rr;dsimp only at hX;rintro _ N6 w9 l6 ⟨zv,rfl,hz⟩ ho;obtain⟨zk,zc,zcs,rfl,hza⟩:=hz.open;dsimp only at hza;unfold errV;refine aM (obV z zk zc) (fun _=>by kernel_rfl) (aM (.int .i64 ze) (fun _=>by kernel_rfl) ?_);refine bD 2 hza.keys.one hza.kids.one ho rfl fun w10 ho=>?_;have ho:OwnS M.A w w10 [n0sE pv (List.replicate ms.length ()),obE b8 ob0 nilS nilS,obE b4 z zk zc,.mem N6]:=ho;have hle6:=(hle4.trans l5).trans l6;simp only[gD];by_cases hze:ze=0
  case neg=>
   rw[agW hze] at hX;simp only[ahB (show ze≠0 from hze),i_t];rw[He];refine bD 1 rfl rfl ho rfl fun w11 ho=>?_;exact eJ 1 ho rfl (hK _ _ N6 _ 3 ho rfl hle6 ⟨_,by rw[<-hX];rfl,by rw[<-hX];exact Af N6⟩)
  rw[agV (fun h=>h hze)] at hX;simp only[ahA (show ¬ze≠0 from fun h=>h hze),i_f];refine join fun J hJ=>?_;refine hJ _ _ fun _=>?_;unfold qX nz;rw[ob_v ho 2 rfl];refine bD 1 hza.keys.one hza.kids.one ho rfl fun w11 ho=>?_;exact eJ 1 ho rfl (hK _ _ N6 _ 3 ho rfl hle6 ⟨_,by rw[<-hX];rfl,by rw[<-hX];exact hza.ov⟩)
 by_cases k9:o.k=9
 ·simp only[ahA (show ¬o.k≠9 from fun h=>h k9),rs,g_un,i_f];exact main w2 ho
 have k7:o.k=7:=by rcases hk with h|h;exact absurd h k9;exact h
 simp only[ahB (show o.k≠9 from k9),rs];rw[fI,ob_k ho 1 rfl];simp only[rs,ahA (show ¬o.k≠7 from fun h=>h k7),i_f];exact main w2 ho
theorem Ff.adE {n s t:List UInt8}{e:Int}(hn:Ff.full n=Ff.nHx∨Ff.full n=Ff.nRL)(h:Ff.OneR n x s t e):t=Ff.oneA n s:=by
 unfold Ff.OneR at h;rcases hn with hn|hn
 ·rw[agV (by rw[hn];decide),agV (by rw[hn];decide)] at h;rw[h.1];unfold Ff.jG Ff.oneA;rw[agW hn,agW hn]
 ·rw[agV (by rw[hn];decide),agV (by rw[hn];decide)] at h;have p:Ff.jG n s=Ax.pack s:=by unfold Ff.jG;rw[agV (by rw[hn];decide),agV (by rw[hn];decide),agW hn]
  have q:Ff.oneA n s=Ax.pack s:=by unfold Ff.oneA;rw[agV (by rw[hn];decide)]
  rw[h.1,p,q]
theorem Ff.OY:∀{ms:List (List UInt8)} {data D:List UInt8},(∀n∈ms,Ff.full n=Ff.nHx∨Ff.full n=Ff.nRL)->Ff.EncR ms data D->D=Ff.encN ms data
|[],_,_,_,h=>h
|n::r,data,D,hcl,⟨u,hu,h⟩=>by
  rw[Ff.adE (hcl n (aiS ..)) h,Ff.OY (fun m hm=>hcl m (aiB _ hm)) hu];rfl
theorem Lf (o:Ob)(v:Value)(ns:List (List UInt8))(vn:Value)(data:List UInt8)(M:Mem)(w:World)(hpw:Pws M)(hk:o.k=9∨o.k=7)(h8:ns.length<=8)(h0:ns≠[])(hcls:∀n∈ns,Ff.full n=Ff.nHx∨Ff.full n=Ff.nRL)
  (hb:∀i,(Ff.encN ((ns.map Ff.full).drop i) data).length<=1000000) (hw:o.wt<=100000000) (hx:(Ff.plain o (Ff.encN (ns.map Ff.full) data)).1.wt<=1000000000) (ha:(Ff.alone ((ns.map Ff.full).map Ff.dU)).wt<=1000000000) (hws:Ob.wts ((ns.map Ff.full).map Ff.dU)<=1000000000) (hM:M.has w) (hv:OV M.A M.w v o) (hn:SlA M.A M.w vn 1 ns.length (bG ns)) :
  RetM prog 22 #[v,vn,nilS,.string ⟨data.toArray⟩] M w (fun r N=>∃v',r=errV v' (Ff.enc0 o ns data).2∧OV N.A N.w v' (Ff.enc0 o ns data).1):=by
 have hcl:∀n∈ns.map Ff.full,Ff.full n=Ff.nHx∨Ff.full n=Ff.nRL:=by
  intro n h;obtain⟨m,hm,rfl⟩:=aiD.1 h;exact Ff.Tc m (hcls m hm)
 refine (Eg o v ns vn data M w hpw hk h8 (fun n h=>by rcases hcls n h with h|h<;>rw[h]<;>decide) (fun i D h=>by
  rw[Ff.OY (fun m hm=>hcl m (akQ hm)) h];exact hb i) hw (fun D h=>by rw[Ff.OY hcl h];exact hx) ha hws hM hv hn).mono ?_
 rintro r N _ ⟨D,v',hD,hr,ho⟩;have e:Ff.encP o (ns.map Ff.full) D=Ff.enc0 o ns data:=by
  rw[Ff.OY hcl hD];unfold Ff.encP Ff.enc0;rw[agV (show ¬ns.map Ff.full=[] from fun h=>h0 (List.map_eq_nil_iff.1 h))]
 rw[e] at hr ho;exact⟨v',hr,ho⟩
end
section
open Eng
def nA(t0 w)(K:KT):=nz Tryz.f11 1 [] [] [] (zg [0] [t0]) w K
theorem tQ{t0 w K}(h:nA t0 w K):Calls prog 11 #[t0] w K:=cw Tryz.func11 h
def mS(w)(K:KT):=
 dx (bN 22 1 #[(0,(.string ⟨#[70,105,108,116,101,114]⟩))]) w K fun C w=>cx 51 #[(.string ⟨#[65,72,120]⟩)] w K fun D w=>cx 51 #[(.string ⟨#[70,108]⟩)] w K fun F w=>dx (bN 23 2 #[(0,D),(1,F)]) w K fun G w=>cx 50 #[G] w K fun H w=>dx (bN 23 1 #[(0,H)]) w K fun I w=>dx (aZ 25 #[(0,(iN 9)),(4,C),(5,I)]) w K fun L w=>alx 25 w K fun v w=>stx 25 v L w K fun _ w=>ldx 25 v w K fun M w=>cx 28 #[M] w K fun g w=>exx g 0 w K fun O w=>exx g 1 w K fun h w=>exx g 2 w K fun P w=>dx (aZ 27 #[(0,(iN 1)),(1,(iN 1)),(2,(iN 1))]) w K fun Q w=>alx 27 w K fun a w=>stx 27 a Q w K fun _ w=>ldx 27 a w K fun R w=>cx 17 #[(.string ⟨#[65,72,120]⟩),R,(.string ⟨#[74]⟩)] w K fun x w=>exx x 0 w K fun S w=>exx x 1 w K fun T w=>ldx 27 a w K fun U w=>cx 15 #[(.string ⟨#[65,83,67,73,73,72,101,120,68,101,99,111,100,101]⟩),U,(.string ⟨#[52,97,62]⟩)] w K fun y w=>exx y 0 w K fun V w=>exx y 1 w K fun W w=>ldx 27 a w K fun X w=>cx 15 #[(.string ⟨#[76,90,87,68,101,99,111,100,101]⟩),X,(.string ⟨#[]⟩)] w K fun z w=>exx z 0 w K fun t46 w=>exx z 1 w K fun Y w=>dx (aZ 25 #[(0,(iN 7))]) w K fun Z w=>dx (bN 22 2 #[(0,(.string ⟨#[82,76]⟩)),(1,(.string ⟨#[65,72,120]⟩))]) w K fun t50 w=>cx 22 #[Z,t50,(.slice none 0 0),(.string ⟨#[74]⟩)] w K fun A w=>exx A 0 w K fun t52 w=>exx A 1 w K fun t53 w=>alx 25 w K fun i w=>stx 25 i t52 w K fun _ w=>ldx 25 i w K fun t55 w=>cx 13 #[t55] w K fun B w=>exx B 0 w K fun t57 w=>exx B 1 w K fun t58 w=>dx (aZ 25 #[]) w K fun t60 w=>cx 28 #[t60] w K fun j w=>exx j 0 w K fun t62 w=>exx j 1 w K fun t63 w=>exx j 2 w K fun t64 w=>HeldX w (fun S1 w=>CallX prog 52 #[(.string ⟨#[65,56,53]⟩)] w (pm1 (pm1 (pm1 (pm1 (pm1 (pm1 (pm1 (pm1 (pm1 (pm1 (pm1 (pm1 (pm1 (pm1 (pm1 (pm1 (pm1 (pm1 (pm1 (pm1 (pm1 (pm1 (pm1 (pm1 (pm1 (pm1 (pm1 (pm1 (pm1 (pm1 (pm1 (pm1 (pm1 (pm1 (pm1 (pm1 (pm1 (pm1 (pm1 (pm1 (pm1 (pm1 (pm1 (pm1 (pm1 (pm1 (pm1 (pm1 (pm1 (pm1 (pm1 (pm1 (pm1 (pm1 (pm1 (pm1 (pm1 (pm1 (pm1 (pm1 (pm1 (pm1 (pm1 (pm1 (pm1 (pm1 (pm1 (pm1 (pm1 (pm1 (pm1 (pm1 (pk K))))))))))))))))))))))))))))))))))))))))))))))))))))))))))))))))))))))))) fun k w=>S1 w∧(GDo k true (fun E=>CallX prog 52 #[(.string ⟨#[76,90,87]⟩)] w (pm1 (pm1 (pm1 (pm1 (pm1 (pm1 (pm1 (pm1 (pm1 (pm1 (pm1 (pm1 (pm1 (pm1 (pm1 (pm1 (pm1 (pm1 (pm1 (pm1 (pm1 (pm1 (pm1 (pm1 (pm1 (pm1 (pm1 (pm1 (pm1 (pm1 (pm1 (pm1 (pm1 (pm1 (pm1 (pm1 (pm1 (pm1 (pm1 (pm1 (pm1 (pm1 (pm1 (pm1 (pm1 (pm1 (pm1 (pm1 (pm1 (pm1 (pm1 (pm1 (pm1 (pm1 (pm1 (pm1 (pm1 (pm1 (pm1 (pm1 (pm1 (pm1 (pm1 (pm1 (pm1 (pm1 (pm1 (pm1 (pm1 (pm1 (pm1 (pm1 (pk K))))))))))))))))))))))))))))))))))))))))))))))))))))))))))))))))))))))))) E) w fun t67 w=>S1 w∧(GQ k true (fun E=>HDo prog S1 (mUn .not t67) E) fun t68=>HDo prog S1 (eS k t68 (.bool false)) fun l=>GQ l true (fun E=>E P) fun t71=>GQ l true (fun E=>HDo prog S1 (mEq .eql 30 (.tmp 71) (.const (iN 0)) t71 (iN 0)) E) fun t72=>HDo prog S1 (eS l t72 (.bool false)) fun e=>GQ e true (fun E=>E O) fun t75=>GDo e true (fun E=>DoX prog (bN 22 2 #[(0,(.string ⟨#[65,83,67,73,73,72,101,120,68,101,99,111,100,101]⟩)),(1,(.string ⟨#[70,108,97,116,101,68,101,99,111,100,101]⟩))]) w (pm1 (pm1 (pm1 (pm1 (pm1 (pm1 (pm1 (pm1 (pm1 (pm1 (pm1 (pm1 (pm1 (pm1 (pm1 (pm1 (pm1 (pm1 (pm1 (pm1 (pm1 (pm1 (pm1 (pm1 (pm1 (pm1 (pm1 (pm1 (pm1 (pm1 (pm1 (pm1 (pm1 (pm1 (pm1 (pm1 (pm1 (pm1 (pm1 (pm1 (pm1 (pm1 (pm1 (pm1 (pm1 (pm1 (pm1 (pm1 (pm1 (pm1 (pm1 (pm1 (pm1 (pm1 (pm1 (pm1 (pm1 (pm1 (pm1 (pm1 (pm1 (pm1 (pm1 (pm1 (pm1 (pm1 (pm1 (pm1 (pm1 (pm1 (pm1 (pm1 (pk K))))))))))))))))))))))))))))))))))))))))))))))))))))))))))))))))))))))))) E) w fun t76 w=>S1 w∧(GDo e true (fun E=>CallX prog 45 #[t75,t76] w (pm1 (pm1 (pm1 (pm1 (pm1 (pm1 (pm1 (pm1 (pm1 (pm1 (pm1 (pm1 (pm1 (pm1 (pm1 (pm1 (pm1 (pm1 (pm1 (pm1 (pm1 (pm1 (pm1 (pm1 (pm1 (pm1 (pm1 (pm1 (pm1 (pm1 (pm1 (pm1 (pm1 (pm1 (pm1 (pm1 (pm1 (pm1 (pm1 (pm1 (pm1 (pm1 (pm1 (pm1 (pm1 (pm1 (pm1 (pm1 (pm1 (pm1 (pm1 (pm1 (pm1 (pm1 (pm1 (pm1 (pm1 (pm1 (pm1 (pm1 (pm1 (pm1 (pm1 (pm1 (pm1 (pm1 (pm1 (pm1 (pm1 (pm1 (pm1 (pm1 (pk K))))))))))))))))))))))))))))))))))))))))))))))))))))))))))))))))))))))))) E) w fun t77 w=>S1 w∧(HDo prog S1 (eS e t77 (.bool false)) fun f=>GQ f true (fun E=>E h) fun t80=>GQ f true (fun E=>HDo prog S1 (mB .len #[40] 3 #[false] #[t80]) E) fun t81=>GQ f true (fun E=>HDo prog S1 (mEq .eql 3 (.tmp 81) (.const (iN 2)) t81 (iN 2)) E) fun t82=>HDo prog S1 (eS f t82 (.bool false)) fun b=>GQ b true (fun E=>E h) fun t85=>GQ b true (fun E=>HDo prog S1 (mIA 40 t85 (iN 0)) E) fun t86=>GQ b true (fun E=>HDo prog S1 (aI 27 t86) E) fun t87=>GQ b true (fun E=>HDo prog S1 (aI 27 a) E) fun t88=>GQ b true (fun E=>HDo prog S1 (mEq .eql 27 (.tmp 87) (.tmp 88) t87 t88) E) fun t89=>HDo prog S1 (eS b t89 (.bool false)) fun c=>GQ c true (fun E=>E h) fun t92=>GQ c true (fun E=>HDo prog S1 (mIA 40 t92 (iN 1)) E) fun t93=>GQ c true (fun E=>HDo prog S1 (aI 27 t93) E) fun t94=>GQ c true (fun E=>HDo prog S1 (aI 27 a) E) fun t95=>GQ c true (fun E=>HDo prog S1 (mEq .eql 27 (.tmp 94) (.tmp 95) t94 t95) E) fun t96=>HDo prog S1 (eS c t96 (.bool false)) fun m=>GQ m true (fun E=>E S) fun t99=>GQ m true (fun E=>HDo prog S1 (mEq .eql 9 (.tmp 99) (.const (.string ⟨#[52,65,62]⟩)) t99 (.string ⟨#[52,65,62]⟩)) E) fun t100=>HDo prog S1 (eS m t100 (.bool false)) fun n=>GQ n true (fun E=>E T) fun t103=>GQ n true (fun E=>HDo prog S1 (mEq .eql 30 (.tmp 103) (.const (iN 0)) t103 (iN 0)) E) fun t104=>HDo prog S1 (eS n t104 (.bool false)) fun o=>GQ o true (fun E=>E V) fun t107=>GQ o true (fun E=>HDo prog S1 (mEq .eql 9 (.tmp 107) (.const (.string ⟨#[74]⟩)) t107 (.string ⟨#[74]⟩)) E) fun t108=>HDo prog S1 (eS o t108 (.bool false)) fun p=>GQ p true (fun E=>E W) fun t111=>GQ p true (fun E=>HDo prog S1 (mEq .eql 30 (.tmp 111) (.const (iN 0)) t111 (iN 0)) E) fun t112=>HDo prog S1 (eS p t112 (.bool false)) fun q=>GQ q true (fun E=>E Y) fun t115=>GQ q true (fun E=>HDo prog S1 (mEq .eql 30 (.tmp 115) (.const (iN 15)) t115 (iN 15)) E) fun t116=>HDo prog S1 (eS q t116 (.bool false)) fun r=>GQ r true (fun E=>E t53) fun t119=>GQ r true (fun E=>HDo prog S1 (mEq .eql 30 (.tmp 119) (.const (iN 0)) t119 (iN 0)) E) fun t120=>HDo prog S1 (eS r t120 (.bool false)) fun d=>GQ d true (fun E=>HDo prog S1 (mFA 25 i 4) E) fun t123=>GQ d true (fun E=>HDo prog S1 (aI 22 t123) E) fun t124=>GQ d true (fun E=>HDo prog S1 (mB .len #[22] 3 #[false] #[t124]) E) fun t125=>GQ d true (fun E=>HDo prog S1 (mEq .eql 3 (.tmp 125) (.const (iN 1)) t125 (iN 1)) E) fun t126=>HDo prog S1 (eS d t126 (.bool false)) fun s=>GQ s true (fun E=>E t57) fun t129=>GQ s true (fun E=>HDo prog S1 (mEq .eql 9 (.tmp 129) (.const (.string ⟨#[74]⟩)) t129 (.string ⟨#[74]⟩)) E) fun t130=>HDo prog S1 (eS s t130 (.bool false)) fun t=>GQ t true (fun E=>E t58) fun t133=>GQ t true (fun E=>HDo prog S1 (mEq .eql 30 (.tmp 133) (.const (iN 0)) t133 (iN 0)) E) fun t134=>HDo prog S1 (eS t t134 (.bool false)) fun u=>GQ u true (fun E=>E t64) fun t137=>GQ u true (fun E=>HDo prog S1 (mEq .eql 30 (.tmp 137) (.const (iN 10)) t137 (iN 10)) E) fun t138=>HDo prog S1 (eS u t138 (.bool false)) fun t139=>K (.returned t139) w)))))
theorem tU{w K}(h:mS w K):Calls prog 12 #[] w K:=cw Tryz.func12 h
def gA(t1 t2 t3 t11 t12 t13 w)(N1:JT)(K:KT):=nz Tryz.f6 2815 [N1] [nh 25 [12,13]] [] (zg [1,2,3,11,12,13] [t1,t2,t3,t11,t12,t13]) w K
def gS(t0 t1 t2 w)(K:KT):=nz Tryz.f6 1 [] [(25,[12,13],fun s v j w f=>gA (s 1) (s 2) (s 3) (s 11) (vg v 0) (vg v 1) w (f 0) K)] [] (zg [0,1,2] [t0,t1,t2]) w K
theorem mG{t0 t1 t2 w K}(h:gS t0 t1 t2 w K):Calls prog 6 #[t0,t1,t2] w K:=cz [] [(12,[12,13])] Tryz.func6 h
end
section
open Eng Go.RowKit
namespace Ff
def smpA:Ob:=.mk 6 0 0 [] [] [ob1 5 0 0 [65,72,120],ob1 5 0 0 [70,108]]
def smp1:Ob:=.mk 9 0 0 [] [aU] [smpA]
def smpD:Ob:=.mk 7 0 0 [] [] []
def smpX:Ob:=.mk 9 0 0 [2,52,65,62,128] [aU] [.mk 6 0 0 [] [] [dU nRL,dU nHx]]
theorem Xg:of smp1=([nHx,nFl],[cJ,cJ],0):=krx
theorem abB:of Vl.ob0=([],[],10):=krx
theorem XU:oneA [65,72,120] [74]=[52,65,62]:=krx
theorem Vx:undo nHx cJ [52,97,62]=([74],0):=krx
theorem U6:undo [76,90,87,68,101,99,111,100,101] cJ []=([],15):=krx
theorem YN:enc0 smpD [[82,76],[65,72,120]] [74]=(smpX,0):=krx
theorem XN:decode smpX=([74],0):=krx
theorem Vz:∀x∈(of smpX).2.1,x.p=1:=by
 have e:(of smpX).2.1=[cJ,cJ]:=krx
 rw[e];intro x hx;rw[akB (n:=2) (a:=cJ) hx];rfl
end Ff
theorem Q5 {T:TypeId}{a:List UInt8}:(mEq .eql T xo yo (.string ⟨a.toArray⟩) (.string ⟨a.toArray⟩)).run prog w=.ok (.value (.bool true)) w:=by
 refine bL ?_;simp[eqGuard,binOp,Op.stringOp,iP]
section
variable {S:Nat->Prop}{w0 w:World}{L:List Ent}
theorem Gw {n:Nat}{T:TypeId}(hl:cs.length=n*sz)(hn:0 < n)(ho:OwnS S w0 w (.cells b cs T::L))(i:Nat)(hi:L[i]?=some (.mem M)) :
  ∃N:Mem,M.le N∧SlA N.A N.w (.slice (some ⟨b,0,none⟩) n n) sz n cs∧OwnS S w0 w (L.set i (.mem N)):=by
 have hs:=ho.sl 0 rfl sz n n hl;obtain⟨N,h1,h2,h3,h4⟩:=ho.freeze i hi;refine⟨N,h1,⟨?_,fun p l c e _=>?_,fun a l c e=>?_⟩,h4⟩
 ·rw[h2];exact hs
 ·injection e with e1 _ _
  injection e1 with e1
  rw[<-e1];exact h3 b rfl
 ·injection e with _ e2 e3
  omega
end
theorem L7 :(mEq .eql 30 xo yo (.int .i64 a) (.int .i64 a)).run prog w=.ok (.value (.bool true)) w:=bL (by simp[eqGuard,binOp,Op.intCmp])
theorem aaA :(mEq .eql 3 xo yo (.int .i64 a) (.int .i64 a)).run prog w=.ok (.value (.bool true)) w:=bL (by simp[eqGuard,binOp,Op.intCmp])
theorem zS {a b:Value}:(eS (.bool true) a b).run prog w=.ok (.value a) w:=by simp[eS,asBool]
theorem aeF {a b:Option Addr}{n n2 c c2:Nat}{ks:List (List UInt8)}:DoX prog (aZ 25 #[(0,.int .i64 9),(4,.slice a n c),(5,.slice b n2 c2)]) w PK K=K (obV (.mk 9 0 0 [] ks os) (.slice a n c) (.slice b n2 c2)) w:=aE krx
theorem Gh (M:Mem)(w:World)(hrp:Rp M)(hod:Od M)(hpw:Pws M)(hM:M.has w):RetM prog 12 #[] M w (fun r _=>r=.bool true):=by
 refine aT hM fun K hK=>tU ?_;unfold mS iN dx ldx exx stx alx cx;have ho:OwnS M.A w w [.mem M]:=OwnS.memS hM
 -- the sample
 refine bC (fun b=>.slice (some ⟨b,0,none⟩) 1 1) (bG [Ff.aU]) 9 (fun _=>by kernel_rfl) ho fun b19 w1 ho=>?_;obtain⟨N1,l1,hs1,ho⟩:=Gw (sz:=1) (n:=1) rfl dc ho 0 rfl;refine aL ho (IE [65,72,120] w1) ?_;rintro _ w2 rfl ho;refine aL ho (IE [70,108] w2) ?_;rintro _ w3 rfl ho;refine bC (fun b=>.slice (some ⟨b,0,none⟩) 2 2) (nmC [65,72,120]++nmC [70,108]) 25 (fun _=>by kernel_rfl) ho fun b22 w4 ho=>?_;obtain⟨N2,l2,hs2,ho⟩:=Gw (sz:=6) (n:=2) rfl dc ho 0 rfl;have hall2:OVs N2.A N2.w (nmC [65,72,120]++nmC [70,108]) [ob1 5 0 0 [65,72,120],ob1 5 0 0 [70,108]]:=by
  have:=LZ (A:=N2.A) (W:=N2.w) [[65,72,120],[70,108]];exact this
 refine aL ho (Qb (some ⟨b22,0,none⟩) 2 2 [ob1 5 0 0 [65,72,120],ob1 5 0 0 [70,108]] w4) ?_;rintro _ w5 rfl ho;have hA:OV N2.A N2.w (obV Ff.smpA nilS (.slice (some ⟨b22,0,none⟩) 2 2)) Ff.smpA:=ObAt.ov (o:=Ff.smpA) (vk:=nilS) (cs:=nmC [65,72,120]++nmC [70,108]) ⟨SlA.nil _ _ _ _,hs2,hall2⟩;refine Gd Ff.smpA (vk:=nilS) (vc:=.slice (some ⟨b22,0,none⟩) 2 2) rfl rfl ho fun b24 w6 ho=>?_;obtain⟨N3,l3,hs3,ha3,ho⟩:=Mw ho 0 rfl hA;rw[aeF (ks:=[Ff.aU]) (os:=[Ff.smpA])];have h1:OV N3.A N3.w (obV Ff.smp1 (.slice (some ⟨b19,0,none⟩) 1 1) (.slice (some ⟨b24,0,none⟩) 1 1)) Ff.smp1:=ObAt.ov (o:=Ff.smp1) (cs:=obC Ff.smpA nilS (.slice (some ⟨b22,0,none⟩) 2 2)) ⟨(hs1.le l2).le l3,hs3,ha3⟩;refine eX ho fun b1 w7 ho=>?_;refine bD 0 (o':=Ff.smp1) (vk':=.slice (some ⟨b19,0,none⟩) 1 1) (vc':=.slice (some ⟨b24,0,none⟩) 1 1) rfl rfl ho rfl fun w8 ho=>?_;rw[ob_v ho 0 rfl];refine bF ho 1 rfl (GD Ff.smp1 _ N3 w8 dc (ho.hasM 1 rfl) h1) ?_;rw[Ff.Xg];rintro _ N4 w9 l4 ⟨vn,vp,rfl,hn,hp⟩ ho;simp only[ex,nC (show [vn,vp,Value.int .i64 0][2]?=some (Value.int .i64 0) from rfl),nC (show [vn,vp,Value.int .i64 0][1]?=some vp from rfl),nC (show [vn,vp,Value.int .i64 0][0]?=some vn from rfl)];rw[abF];refine XP ho fun b5 w10 ho=>?_;refine Oz 0 Ff.cJ ho rfl fun w11 ho=>?_;have ho:OwnS M.A w w11 [pmE b5 Ff.cJ,obE b1 Ff.smp1 (.slice (some ⟨b19,0,none⟩) 1 1) (.slice (some ⟨b24,0,none⟩) 1 1),.mem N4]:=ho;have hle4:=((l1.trans l2).trans l3).trans l4;rw[pm_v ho 0 rfl];refine aL ho (Sh [65,72,120] Ff.cJ [74] w11 (.inl dc) dc) ?_;rintro _ w12 rfl ho;rw[Ff.XU];simp only[zlT,ex];rw[pm_v ho 0 rfl];refine bF ho 2 rfl (JA Ff.nHx Ff.cJ (pdR1 rfl) [52,97,62] N4 w12 (hrp.le hle4) (hod.le hle4) (hpw.le hle4) dc (ho.hasM 2 rfl)) ?_;rintro _ N5 w13 l5 ⟨rfl,_⟩ ho;rw[Ff.Vx];simp only[zlT,ex];rw[pm_v ho 0 rfl];have hle5:=hle4.trans l5;rw[show (Value.string ⟨#[]⟩)=.string ⟨([]:List UInt8).toArray⟩ from rfl];refine bF ho 2 rfl (JA [76,90,87,68,101,99,111,100,101] Ff.cJ (pdR1 rfl) [] N5 w13 (hrp.le hle5) (hod.le hle5) (hpw.le hle5) dc (ho.hasM 2 rfl)) ?_;rintro _ N6 w14 l6 ⟨rfl,_⟩ ho;rw[Ff.U6];simp only[zlT,ex];have hle6:=hle5.trans l6;refine aE (show (aZ 25 #[(0,.int .i64 7)]).run prog w14=.ok (.value (obV Ff.smpD nilS nilS)) w14 by kernel_rfl) |>.mpr ?_;refine bC (fun b=>.slice (some ⟨b,0,none⟩) 2 2) (bG [[82,76],[65,72,120]]) 9 (fun _=>by kernel_rfl) ho fun b50 w15 ho=>?_;have ho:OwnS M.A w w15 [.cells b50 (bG [[82,76],[65,72,120]]) 9,pmE b5 Ff.cJ,obE b1 Ff.smp1 (.slice (some ⟨b19,0,none⟩) 1 1) (.slice (some ⟨b24,0,none⟩) 1 1),.mem N6]:=ho;obtain⟨N7,l7,hs7,ho⟩:=Gw (sz:=1) (n:=2) rfl dc ho 2 rfl;have ho:OwnS M.A w w15 [pmE b5 Ff.cJ,obE b1 Ff.smp1 (.slice (some ⟨b19,0,none⟩) 1 1) (.slice (some ⟨b24,0,none⟩) 1 1),.mem N7]:=ho;have hD:OV N7.A N7.w (obV Ff.smpD nilS nilS) Ff.smpD:=ObAt.ov (o:=Ff.smpD) (vk:=nilS) (vc:=nilS) (cs:=[]) ⟨SlA.nil _ _ _ _,SlA.nil _ _ _ _,OVs.nil⟩;refine bF ho 2 rfl (Lf Ff.smpD _ [[82,76],[65,72,120]] _ [74] N7 w15 (hpw.le (hle6.trans l7)) (.inr rfl) dc sm (fun n hn=>by
  rcases ahG.1 hn with rfl|hn
  ·exact .inr dc
  ·rw[aiA.1 hn];exact .inl dc) (fun i=>by
  rcases (by omega:i=0∨i=1∨2<=i) with rfl|rfl|h
  ·decide +kernel
  ·decide +kernel
  ·rw[ajC (by simpa using h)];decide) dc (by decide +kernel) (by decide +kernel) (by decide +kernel) (ho.hasM 2 rfl) hD hs7) ?_
 rw[Ff.YN];rintro _ N8 w16 l8 ⟨xv,rfl,hX⟩ ho;obtain⟨xk,xc,xcs,rfl,hxa⟩:=hX.open;dsimp only at hxa hX;simp only[errV,ex];refine eX ho fun b12 w17 ho=>?_;refine bD 0 hxa.keys.one hxa.kids.one ho rfl fun w18 ho=>?_;rw[ob_v ho 0 rfl];have hle8:=(hle6.trans l7).trans l8;refine bF ho 3 rfl (IG Ff.smpX (fun x h=>pdR1 (Ff.Vz x h)) _ N8 w18 (hrp.le hle8) (hod.le hle8) (hpw.le hle8) dc (ho.hasM 3 rfl) hX) ?_;rintro _ N9 w19 l9 rfl ho;rw[Ff.XN];simp only[zlT,ex];rw[He];refine bF ho 3 rfl (GD Vl.ob0 _ N9 w19 dc (ho.hasM 3 rfl) (Af N9)) ?_;rw[Ff.abB];rintro _ N10 w20 l10 ⟨zn,zp,rfl,_,_⟩ ho;simp only[ex,nC (show [zn,zp,Value.int .i64 10][2]?=some (Value.int .i64 10) from rfl),nC (show [zn,zp,Value.int .i64 10][1]?=some zp from rfl),nC (show [zn,zp,Value.int .i64 10][0]?=some zn from rfl)];have ho:OwnS M.A w w20 [obE b12 Ff.smpX xk xc,pmE b5 Ff.cJ,obE b1 Ff.smp1 (.slice (some ⟨b19,0,none⟩) 1 1) (.slice (some ⟨b24,0,none⟩) 1 1),.mem N10]:=ho;have hn10:=(((((hn.le l5).le l6).le l7).le l8).le l9).le l10;have hp10:=(((((hp.le l5).le l6).le l7).le l8).le l9).le l10;have hle10:=(hle8.trans l9).trans l10;obtain⟨pa,pc,rfl,_⟩:=hp10.form;obtain⟨q0,hia0,hld0⟩:=pmAt hp10 (i:=0) dc;obtain⟨q1,hia1,hld1⟩:=pmAt hp10 (i:=1) dc;obtain⟨ka,kc,rfl,_⟩:=hxa.keys.form;have ho:=ho.drew;refine⟨fun W=>(obE b12 Ff.smpX (.slice ka 1 kc) xc).is W∧(pmE b5 Ff.cJ).is W∧N10.has W,⟨ho.at_ 0 rfl,ho.at_ 1 rfl,ho.hasM 3 rfl⟩,?_⟩;have hS:∀{W:World},OwnS M.A w W [obE b12 Ff.smpX (.slice ka 1 kc) xc,pmE b5 Ff.cJ,obE b1 Ff.smp1 (.slice (some ⟨b19,0,none⟩) 1 1) (.slice (some ⟨b24,0,none⟩) 1 1),.mem N10]->(obE b12 Ff.smpX (.slice ka 1 kc) xc).is W∧(pmE b5 Ff.cJ).is W∧N10.has W:=fun ho=>⟨ho.at_ 0 rfl,ho.at_ 1 rfl,ho.hasM 3 rfl⟩;refine c_eq (Is [65,56,53] _) ?_;rw[show decide (Ff.full [65,56,53]≠[])=true by decide];refine⟨hS ho,?_⟩;simp only[rs];refine c_eq (Is [76,90,87] _) ?_;rw[show decide (Ff.full [76,90,87]≠[])=false by decide];refine⟨hS ho,?_⟩;simp only[gq];refine aM (.bool true) (fun _=>bL (by simp[Op.unary])) ?_;refine aM (.bool true) (fun _=>zS) ?_;simp only[gq];refine aM (.bool true) (fun _=>L7) (aM (.bool true) (fun _=>zS) ?_)
 try simp only[gq,rs]
 refine bC (fun b=>.slice (some ⟨b,0,none⟩) 2 2) (bG [Ff.nHx,Ff.nFl]) 9 (fun _=>by kernel_rfl) ho fun b76 w21 ho=>?_;have ho:OwnS M.A w w21 ([.cells b76 (bG [Ff.nHx,Ff.nFl]) 9]++[obE b12 Ff.smpX (.slice ka 1 kc) xc,pmE b5 Ff.cJ,obE b1 Ff.smp1 (.slice (some ⟨b19,0,none⟩) 1 1) (.slice (some ⟨b24,0,none⟩) 1 1),.mem N10]):=ho;refine⟨hS ho.tail,?_⟩
 try simp only[gq,rs]
 refine aL ho (HX vn _ [Ff.nHx,Ff.nFl] [Ff.nHx,Ff.nFl] w21 (hn10.now (ho.hasM 4 rfl)) (ho.sl 0 rfl 1 2 2 rfl) dc) ?_;rintro _ w22 rfl ho;refine⟨hS ho.tail,?_⟩;rw[ahB (show [Ff.nHx,Ff.nFl]=[Ff.nHx,Ff.nFl] from rfl)];refine aM (.bool true) (fun _=>zS) ?_;simp only[gq];refine aM (.int .i64 2) (fun _=>by kernel_rfl) (aM (.bool true) (fun _=>aaA) (aM (.bool true) (fun _=>zS) ?_));simp only[gq];refine aM _ hia0 (sN (pmV Ff.cJ) (fun W h=>hld0 W h.2.2) (sN (pmV Ff.cJ) (fun W h=>bI (AtV.agg Fg (cs:=pmC Ff.cJ) rfl fun j u hj=>by rw[ahJ];exact aG (T:=27) h.2.1 hj)) (aM (.bool true) (fun _=>QN) (aM (.bool true) (fun _=>zS) ?_))));simp only[gq];refine aM _ hia1 (sN (pmV Ff.cJ) (fun W h=>hld1 W h.2.2) (sN (pmV Ff.cJ) (fun W h=>bI (AtV.agg Fg (cs:=pmC Ff.cJ) rfl fun j u hj=>by rw[ahJ];exact aG (T:=27) h.2.1 hj)) (aM (.bool true) (fun _=>QN) (aM (.bool true) (fun _=>zS) ?_))));simp only[gq];refine aM (.bool true) (fun _=>Q5 (a:=[52,65,62])) (aM (.bool true) (fun _=>zS) ?_);simp only[gq];refine aM (.bool true) (fun _=>L7) (aM (.bool true) (fun _=>zS) ?_);simp only[gq];refine aM (.bool true) (fun _=>Q5 (a:=[74])) (aM (.bool true) (fun _=>zS) ?_);simp only[gq];refine aM (.bool true) (fun _=>L7) (aM (.bool true) (fun _=>zS) ?_);simp only[gq];refine aM (.bool true) (fun _=>L7) (aM (.bool true) (fun _=>zS) ?_);simp only[gq];refine aM (.bool true) (fun _=>L7) (aM (.bool true) (fun _=>zS) ?_);simp only[gq];refine aM _ (fun _=>bY acS) (sN (.slice ka 1 kc) (fun W h=>aB Mn (aG (T:=25) h.1 (i:=4) rfl)) (aM (.int .i64 1) (fun _=>by kernel_rfl) (aM (.bool true) (fun _=>aaA) (aM (.bool true) (fun _=>zS) ?_))));simp only[gq];refine aM (.bool true) (fun _=>Q5 (a:=[74])) (aM (.bool true) (fun _=>zS) ?_);simp only[gq];refine aM (.bool true) (fun _=>L7) (aM (.bool true) (fun _=>zS) ?_);simp only[gq];refine aM (.bool true) (fun _=>L7) (aM (.bool true) (fun _=>zS) ?_);exact hK _ _ N10 _ 4 ho rfl hle10 rfl
end
section
open Eng Go.RowKit
theorem M3 (o:Ob)(v:Value)(M:Mem)(w:World)(hw:o.wt<=1000000000)(hM:M.has w)(hv:OV M.A M.w v o) :
  RetM prog 11 #[v] M w (fun r _=>r=.bool (decide (Vl.size o<=3000)&&decide (o.s.length<=600))):=by
 obtain⟨vk,vc,ocs,rfl,ha⟩:=hv.open;refine aT hM fun K hK=>tQ ?_;unfold nA nz;refine eW o ha.keys.one ha.kids.one (OwnS.memS hM) fun b1 w1 ho=>?_;rw[ob_v ho 0 rfl];refine aL ho (R:=fun v=>v=.int .i64 (Vl.size o:Nat)) (Rn o.wt o _ w1 (ahD _) (OV.inw (ho.hasM 1 rfl) hv) om) ?_;rintro _ w2 rfl ho;simp only[rs];by_cases h1:Vl.size o<=3000
 ·simp only[show decide ((Vl.size o:Int)<=3000)=true from ahB om,rs];rw[C5,ob_s ho 0 rfl]
  try simp only[rs]
  rw[fP ahF]
  try simp only[rs]
  refine hK _ _ M _ 1 ho rfl M.le_refl ?_;rw[ahB h1,alK]
  congr 1
  exact decide_eq_decide.2 om
 ·simp only[show decide ((Vl.size o:Int)<=3000)=false from ahA om,rs,g_un];exact hK _ _ M _ 1 ho rfl M.le_refl (by rw[ahA h1];rfl)
end
end Go.Proofs.YtlipjfcbjemicaaGreatDoor
