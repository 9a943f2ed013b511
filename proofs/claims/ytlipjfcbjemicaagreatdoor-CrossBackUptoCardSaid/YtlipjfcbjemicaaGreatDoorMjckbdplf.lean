/- Texts that go together: TbO SCross CsA FeC EngAI SFiltR FeD FeE Plain16N Plain16C Plain16D Plain16E Plain16F Plain16G Plain16H Plain16I Plain16J Plain16K Plain16L PlainSrt PlainSrtB PlainSrtC. -/
import Derived.Test.YtlipjfcbjemicaaGreatDoorRows
import Derived.Test.YtlipjfcbjemicaaGreatDoorMcdnbgdlj
set_option linter.defProp false
set_option linter.unusedSimpArgs false
set_option linter.unusedVariables false
set_option maxRecDepth 20000
open Go.Proofs.Tryz
open Go.Proofs.Tryz renaming prog->ah
open Option renaming some->ax,none->aw
open Bool renaming true->av,false->au
open Go renaming Value->aq,World->ao
open Decidable renaming decide->ai
namespace Go.Proofs.YtlipjfcbjemicaaGreatDoor
variable{B Sy cl counts l near:List Nat}{K:VWP}{M:Eng.Mem}{P:Program}{PK PK2:PKT}{R:Ending->FrameMode->ao->Prop}{W w:ao}{a colors:Int}{above:List UInt8}{aj:List (Nat×List Nat)}{b cap d i id j m most p t:Nat}{cb:Array Bool}{cs:List aq}{fn:Func}{o:Ob}{os:List Ob}{t0 v vc vk:aq}{u:FrameMode}{t0 t1 t2 t3:aq}{k0:Eng.KT}
section
open Eng Go.RowKit
def rnC (p:Int×Int):List Value:=[.int .i64 p.1,.int .i64 p.2]
def rnV (p:Int×Int):Value:=.agg (rnC p).toArray
abbrev rnsC (l:List (Int×Int)):List Value:=l.flatMap rnC
abbrev rnsE (v:aq)(l:List (Int×Int)):Ent:=.recs 135 rnC 2 v l
theorem NX (p:Int×Int):(rnC p).length=2:=rfl
theorem UA (p:Int×Int):∀v∈rnC p,v.oneCell'=true:=by
 intro v a;simp only[rnC,amH,anW,or_false] at a;rcases a with rfl|rfl<;>rfl
theorem acY:aggN ah 135=ax 2:=krx
theorem szRn:(Tryz.prog.info? 135).map (·.size)=ax 2:=krx
theorem elRn:elB ah 135 2 16=true:=krx
section
variable {w:ao}{PK:PKT}{K:VWP}{S:Nat->Prop}{w0:ao}{L:List Ent}
theorem YA {off:Nat}:(mIA 135 (.pointer (ax ⟨b,off,aw⟩)) (.int .i64 0)).run ah w=.ok (.value (.pointer (ax ⟨b,off,aw⟩))) w:=krx
theorem QG {off:Nat}:(mIA 135 (.pointer (ax ⟨b,off,aw⟩)) (.int .i64 1)).run ah w=.ok (.value (.pointer (ax ⟨b,off+1,aw⟩))) w:=krx
theorem YW {off:Nat}:DoX ah (mIA 135 (.pointer (ax ⟨b,off,aw⟩)) (.int .i64 0)) w PK K=K (.pointer (ax ⟨b,off,aw⟩)) w:=aD YA
theorem XZ {off:Nat}:DoX ah (mIA 135 (.pointer (ax ⟨b,off,aw⟩)) (.int .i64 1)) w PK K=K (.pointer (ax ⟨b,off+1,aw⟩)) w:=aD QG
theorem m_rn {n:Int}{m:Int}:DoX ah (aS 135 #[(0,.int .i64 n),(1,.int .i64 m)]) w PK K=K (rnV (n,m)) w:=aD krx
theorem rns_row (i:Nat){l:List (Int×Int)}(a:OwnS S w0 w L)(hi:L[i]?=ax (rnsE v l))(b:j < l.length) :
  ∃g cap,v=.slice (ax ⟨g,0,aw⟩) l.length cap∧(∀w,(mIA 116 v (.int .i64 (j:Int))).run ah w=.ok (.value (.pointer (ax ⟨g,j*2,aw⟩))) w) ∧
   (∀w',(rnsE v l).is w'->(aH 135 (.pointer (ax ⟨g,j*2,aw⟩))).run ah w'=.ok (.value (rnV l[j])) w') ∧
   ∀w',(rnsE v l).is w'->∀m u,(rnC l[j])[m]?=ax u->w'.cell? ⟨g,j*2+m,aw⟩=ax u:=
 rec_row NX asO szRn acY i a hi b
theorem XX (i:Nat){l:List (Int×Int)}{p:Int×Int}(a:OwnS S w0 w L)(hi:L[i]?=ax (rnsE v l))(c:l.length<=1000000000)
  (k:∀v' w',OwnS S w0 w' (L.set i (rnsE v' (l++[p])))->K v' w') :
  DoX ah (bN 116 1 #[(0,rnV p)]) w PK λt w=>DoX ah (mB .append #[116,116] 116 cb #[v,t]) w PK2 K:=by
 refine bA (λb=>.slice (ax ⟨b,0,aw⟩) 1 1) (rnC p) 135 (λ_=>by kernel_rfl) a λnb d a=>?_;refine bR (i+1) asO elRn dc a (by rw[anM];exact hi) (a.sl 0 rfl 2 1 1 rfl) (UA p) om om λv' w2 a=>k v' w2 ?_;have e:rnsE v' (l++[p])=.urow 135 2 v' (l.length+1) (l.flatMap rnC++rnC p):=by
  rw[rnsE,Ent.recs,amC,apL];simp
 rw[e];exact a.tail
theorem abE (i:Nat){g:Nat}{q:List (Int×Int)}{f n m:Int}{N:Nat}(a:OwnS S w0 w L)(hi:L[i]?=ax (rnsE (.slice (ax ⟨g,0,aw⟩) N cap) (q++[(f,n)])))
  (h:∀w',OwnS S w0 w' (L.set i (rnsE (.slice (ax ⟨g,0,aw⟩) N cap) (q++[(f,m)])))->K undef w') :
  DoX ah (aN 3 (.pointer (ax ⟨g,q.length*2+1,aw⟩)) (.int .i64 m)) w PK K:=by
 obtain⟨k,c,e⟩:=mN (a.at_ i hi) sm
 injection e with l b
 subst b;refine Aa i a hi (u:=.int .i64 m) (new:=[.int .i64 m]) rfl krx (λv j=>by rcases anB.1 j with rfl;rfl) (by simp;omega) λw' a=>h w' ?_;have d:=Eng.uJ NX q;have e:((q++[(f,n)]).flatMap rnC).take (q.length*2+1)++[.int .i64 m]++((q++[(f,n)]).flatMap rnC).drop (q.length*2+1+[Value.int .i64 m].length)=(q++[(f,m)]).flatMap rnC:=by
  rw[apL,apL,aqM,aqM,asY,anJ om,aqK,aoF (by rw[d];simp only[amW,aqB];omega),d,
   show q.length*2+1 - q.length*2=1 by omega,show q.length*2+1+[Value.int .i64 m].length - q.length*2=2 by simp;omega]
  simp[rnC]
 have b:rnsE (.slice (ax ⟨g,0,aw⟩) (q++[(f,n)]).length cap) (q++[(f,m)])=.urow 135 2 (.slice (ax ⟨g,0,aw⟩) (q++[(f,n)]).length cap) (q++[(f,n)]).length ((q++[(f,m)]).flatMap rnC):=by
  rw[rnsE,Ent.recs,amC,amC];rfl
 rw[b,<-e];exact a
end
def R4 (l:List Slt):Prop:=∀x∈l,-9223372036854775808<=x.num∧x.num<=9223372036854775807
def SltI (l:List Slt):Prop:=∀x∈l,x.a<=9223372036854775807∧x.b<=9223372036854775807
theorem Sp {l:List Slt}(a:j < l.length):(l.take (j+1)).getLast?=ax l[j]:=by
 rw[List.getLast?_eq_getElem?,amL,anL om,aqQ,List.getElem?_take_of_lt om,amN a]
theorem Et {l:List Slt}(a:j < l.length):l.take (j+1)=l.take j++[l[j]]:=by
 rw[List.take_add_one,amN a];rfl
def RnsV (l:List Slt)(v:aq)(N:Mem):Prop:=SlA N.A N.w v 2 (Tl.runs l).length (rnsC (Tl.runs l))
theorem TB (l:List Slt)(v:aq)(M:Mem)(w:ao)(b:l.length<=1000000)(G:R4 l)(E:M.has w)(F:SlA M.A M.w v 4 l.length (slsC l)) :
  RetM ah 169 #[v] M w (RnsV l):=by
 refine bB E λK Q=>H5 ?_;unfold E2 nz;rw[bD apT (F.now E)];refine loop (λvs W=>∃(i:Nat) (u:aq),vs=[u,.int .i64 i]∧i<=l.length∧OwnS M.A w W [rnsE u (Tl.runs (l.take i)),.mem M]) (λvs _=>l.length - n1 vs) ⟨0,_,rfl,om,OwnS.nilU (OwnS.memS E) 135 2⟩ ?_;rintro vs R ⟨i,u,rfl,hi,a⟩ _;simp only[AJ,gd,rs,nz];by_cases p:(i:Int) < (l.length:Int)
 case neg=>
  simp only[amE p,i_f];rw[anJ om] at a;obtain⟨N,hle,r,a⟩:=OwnS.bI (L:=[.mem M]) a 0 rfl;exact Q _ _ N _ 0 a rfl hle r
 have m:i < l.length:=om
 simp only[amG p,i_t];refine join λJ S=>?_;obtain⟨g,off,T⟩:=oR F m;obtain⟨U,V⟩:=T R (a.hasM 1 rfl);refine aD U |>.mpr (aD (xC V) |>.mpr ?_);refine Im a λD w2 a=>?_;refine Fe (y:=l[i]) 0 a rfl λw3 a=>?_;have a:OwnS M.A w w3 [slE D l[i],rnsE u (Tl.runs (l.take i)),.mem M]:=a;have next:∀{s:aq} {W:ao},OwnS M.A w W [slE D l[i],rnsE s (Tl.runs (l.take (i+1))),.mem M]->J [s] W:=by
  intro s W a;refine S _ _ λ_=>?_;simp only[AF,gd,rs,nz];rw[aA om om];exact aY ⟨i+1,s,rfl,om,a.tail⟩ (by show l.length - Int.toNat ((i:Int)+1) < l.length - Int.toNat (i:Int);omega)
 have t:=Et m;have z:=Tl.CN (l.take i);rw[amL,anL om] at z;have X:=G l[i] (amR m);have d:∀{W:ao},OwnS M.A w W [slE D l[i],rnsE u (Tl.runs (l.take i)),.mem M]->(∀y,(l.take i).getLast?=ax y->¬Tl.adj y l[i])->DoX ah (mFA 83 (.pointer (ax ⟨D,0,aw⟩)) 0) W (pk K) λt49 w=>
 DoX ah (aH 3 t49) w (pk K) λt50 w=>
 DoX ah (aS 135 #[(0,t50),(1,(.int .i64 1))]) w (pk K) λt51 w=>
 DoX ah (bN 116 1 #[(0,t51)]) w (pk K) λt52 w=>
 DoX ah (mB .append #[116,116] 116 #[au,au] #[u,t52]) w (pk K) λt53 w=>
 J [t53] w:=by
  intro W a hm;rw[UJ,aJ aU (a.cell 0 rfl 0 rfl),m_rn];refine XX 1 a rfl om λs w4 a=>?_;rw[<-Tl.Sr hm,<-t] at a;exact next a
 refine quiet ?_;rcases aoP i with H|H
 ·subst H;refine KD ?_;simp only[show ai ((0:Int) < ((0:Nat):Int))=au by decide,gq,HL];refine q_pf ?_;simp only[gq,HL];refine q_pf λW b=>?_;simp only[i_f];exact d (a.grow b) (λy o=>by simp at o)
 obtain⟨j,rfl⟩:∃j,i=j+1:=⟨i - 1,om⟩;have Y:(0:Int) < ((j+1:Nat):Int):=om
 have B:IntKind.wrap .i64 (((j+1:Nat):Int) - 1)=(j:Int):=by rw[aA om om];omega
 obtain⟨g2,I,e⟩:=oR F (i:=j) om;have c:=Sp (l:=l) (j:=j) om;have Z:=G l[j] (amR om);refine KD ?_;simp only[amG Y,gq,HL];refine q_do _ (λ_=>bE fs0) ?_;refine q_at (.int .i64 l[j+1].num) (λ_ b=>aB aU ((a.grow b).cell 0 rfl 0 rfl)) ?_;refine q_do (.int .i64 (j:Int)) (λ_=>by rw[sR,B]) ?_;refine q_at _ (λW b=>(e W ((a.grow b).hasM 2 rfl)).1) ?_;refine q_do _ (λ_=>bE fs0) ?_;refine q_at (.int .i64 l[j].num) (λW b=>F2 (e W ((a.grow b).hasM 2 rfl)).2) ?_;refine KD (q_pt ?_);by_cases k:l[j].num < l[j+1].num
 case neg=>
  simp only[amE k,gq,HL];refine q_pf λW b=>?_;simp only[i_f];refine d (a.grow b) λy o=>?_;rw[c] at o;cases o;exactλh=>k h.1
 simp only[amG k,gq,HL];refine q_do _ (λ_=>bE fs0) ?_;refine q_at (.int .i64 l[j+1].num) (λ_ b=>aB aU ((a.grow b).cell 0 rfl 0 rfl)) ?_;refine q_do (.int .i64 (l[j+1].num - 1)) (λ_=>by rw[sR,aA om om]) ?_;refine q_do (.int .i64 (j:Int)) (λ_=>by rw[sR,B]) ?_;refine q_at _ (λW b=>(e W ((a.grow b).hasM 2 rfl)).1) ?_;refine q_do _ (λ_=>bE fs0) ?_;refine q_at (.int .i64 l[j].num) (λW b=>F2 (e W ((a.grow b).hasM 2 rfl)).2) ?_;refine q_eq (q_pt ?_);by_cases heq:l[j+1].num - 1=l[j].num
 case neg=>
  simp only[amE heq];intro W b;simp only[i_f];refine d (a.grow b) λy o=>?_;rw[c] at o;cases o;exactλh=>heq h.2
 simp only[amG heq];intro W b;simp only[i_t];have a:=a.grow b;obtain⟨q,f,n,e1,e2,hn⟩:=Tl.VU c (x:=l[j+1]) ⟨k,heq⟩;rw[amL,anL om] at hn;rw[e1] at a z;obtain⟨g3,O,rfl,P,_,cl⟩:=rns_row 1 a rfl (j:=q.length) sm;have C:(q++[(f,(n:Int))])[q.length]'(sm)=(f,(n:Int)):=sm
 rw[C] at cl;have hlen:(q++[(f,(n:Int))]).length=q.length+1:=sm
 refine quiet ?_;refine q_at (.int .i64 ((q.length+1:Nat):Int)) (λW b=>by rw[Sb asO ((a.grow b).slU 1 rfl),hlen]) ?_;refine q_do (.int .i64 (q.length:Int)) (λ_=>by rw[sR,aA om om,show ((q.length+1:Nat):Int) - 1=(q.length:Int) by omega]) ?_;refine q_do _ (λw=>P w) (q_do _ (λ_=>QG) ?_);refine q_at (.int .i64 (n:Int)) (λW b=>aB aU (cl _ ((a.grow b).at_ 1 rfl) 1 _ rfl)) ?_;refine q_do (.int .i64 ((n:Int)+1)) (λ_=>by rw[Iy,aA om om]) ?_;refine q_do _ (λw=>P w) (q_do _ (λ_=>QG) ?_);intro W2 b;have a:=a.grow b;refine abE 1 a rfl λw5 a=>?_;rw[<-e2,<-t] at a;exact next a
end
section
open Eng
def yG(t0 t3 w)(N1:JT)(K:KT):=nz f104 19 [N1] [nh 5 [0,3]] [] (zg [0,3] [t0,t3]) w K
def Cu(t0 w)(K:KT):=nz f104 1 [] [(5,[0,3],λs v j w f=>yG (vg v 0) (vg v 1) w (f 0) K)] [] (zg [0] [t0]) w K
theorem FE:Cu t0 w k0->Calls ah 104 #[t0] w k0:=cz [] [(2,[0,3])] func104
def wA(t2 t3 t4 t7 t8 t9 w)(N1:JT)(K:KT):=nz f39 43 [N1] [nh 7 [3,4,9]] [] (zg [2,3,4,7,8,9] [t2,t3,t4,t7,t8,t9]) w K
def Be(t0 w)(K:KT):=nz f39 1 [] [(7,[3,4,9],λs v j w f=>wA (s 2) (vg v 0) (vg v 1) (s 7) (s 8) (vg v 2) w (f 0) K)] [] (zg [0] [t0]) w K
theorem Em:Be t0 w k0->Calls ah 39 #[t0] w k0:=cz [] [(3,[3,4,9])] func39
def uS(t0 t1 t7 w)(N1:JT)(K:KT):=nz f103 21 [N1] [nh 5 [0,7]] [] (zg [0,1,7] [t0,t1,t7]) w K
def A5(t0 t1 t2 w)(K:KT):=nz f103 1 [] [(5,[0,7],λs v j w f=>uS (vg v 0) (s 1) (vg v 1) w (f 0) K)] [] (zg [0,1,2] [t0,t1,t2]) w K
theorem D5:A5 t0 t1 t2 w k0->Calls ah 103 #[t0,t1,t2] w k0:=cz [] [(2,[0,7])] func103
def AG(a g c d b w)(v:JT)(K:KT):=
 lnx 23 d w K λh w=>bnx .lss 3 b h w K λi w=>IfX i (HeldX w (λS7 w=>HDo ah S7 (aH 25 c) λj=>HDo ah (λ_=>True) (mIA 23 d b) λk=>HDo ah (λ_=>True) (mFA 25 k 3) λl=>HDo ah S7 (aH 9 l) λm=>HDo ah (λ_=>True) (mBin .add 3 b (iN 1)) λn=>HDo ah (λ_=>True) (mIA 23 d n) λo=>HDo ah S7 (aH 25 o) λp=>CallX ah 70 #[j,m,p] w (ay 15 (pk K)) λe w=>(HDo ah (λ_=>True) (mExt e 0) λq=>HDo ah (λ_=>True) (mExt e 1) λf=>DoX ah (aN 25 c q) w (ay 15 (pk K)) λ_ w=>(ecx .neq 30 96 0 f w K λr w=>IfX r (dx (aS 25 #[]) w K λs w=>stx 25 a s w K λ_ w=>RetX ah [.cell a 25,.val f] w K) (bnx .add 3 b (iN 2) w K λt w=>v [g,t] w))))) (ldx 25 c w K λu w=>stx 25 a u w K λ_ w=>RetX ah [.cell a 25,.val (iN 0)] w K)
def lM(t4 t5 t6 t14 w)(K:KT):=nz f102 1023 [] [(41,[5,15],λs v j w f=>AG (s 4) (vg v 0) (s 6) (s 14) (vg v 1) w (f 0) K)] [] (zg [4,5,6,14] [t4,t5,t6,t14]) w K
def A9(b e f g h i c j a w)(M:JT)(K:KT):=
 bnx .lss 3 a (iN 3) w K λk w=>IfX k (dx (mIx 71 j a) w K λl w=>cx 137 #[l] w K λm w=>dx (bN 23 1 #[(0,m)]) w K λn w=>apx 23 c n w K λo w=>bnx .add 3 a (iN 1) w K λp w=>M [o,p] w) (cx 69 #[(.string ⟨#[84,121,112,101]⟩)] w K λq w=>cx 69 #[(.string ⟨#[88,82,101,102]⟩)] w K λr w=>cx 69 #[(.string ⟨#[83,105,122,101]⟩)] w K λs w=>cx 137 #[h] w K λt w=>cx 69 #[(.string ⟨#[87]⟩)] w K λu w=>cx 141 #[c] w K λv w=>cx 69 #[(.string ⟨#[73,110,100,101,120]⟩)] w K λx w=>cx 141 #[i] w K λy w=>dx (bN 23 8 #[(0,q),(1,r),(2,s),(3,t),(4,u),(5,v),(6,x),(7,y)]) w K λd w=>JoinX (λL=>fax 63 b 3 w K λz w=>ldx 3 z w K λA w=>bnx .geq 3 A (iN 0) w K λB w=>IfX B (QuietX w (λE=>QCall ah E 69 #[(.string ⟨#[80,114,101,118]⟩)] λC=>QDo ah E (mFA 63 b 3) λD=>QDo ah E (aH 3 D) λF=>QCall ah E 137 #[F] λG=>
 ∀w,E w ->
 DoX ah (bN 23 2 #[(0,C),(1,G)]) w (pm1 (pk K)) λH w=>DoX ah (mB .append #[23,23] 23 #[au,au] #[d,H]) w (pm1 (pk K)) λI w=>L [I] w)) (L [d] w)) (λJ w=>∀_:Sg,lM e f g (J.getD 0 undef) w K))
def A3(d e f g h i c j k b w)(N1:JT)(K:KT):=
 bnx .lss 3 b k w K λl w=>IfX l (iax 116 j b w K λm w=>ldx 135 m w K λn w=>alx 135 w K λa w=>stx 135 a n w K λ_ w=>iax 135 a (iN 0) w K λo w=>ldx 3 o w K λp w=>iax 135 a (iN 1) w K λq w=>ldx 3 q w K λr w=>bnx .add 3 p r w K λs w=>QuietX w (λE=>QDo ah E (mIA 135 a (iN 0)) λt=>QDo ah E (aH 3 t) λu=>QCall ah E 137 #[u] λv=>QDo ah E (mIA 135 a (iN 1)) λx=>QDo ah E (aH 3 x) λy=>QCall ah E 137 #[y] λz=>
 ∀w,E w ->
 DoX ah (bN 23 2 #[(0,v),(1,z)]) w (pm1 (pk K)) λA w=>DoX ah (mB .append #[23,23] 23 #[au,au] #[c,A]) w (pm1 (pk K)) λB w=>bnx .add 3 b (iN 1) w K λC w=>N1 [s,B,C] w)) (ldx 71 e w K λD w=>LoopX [(.slice aw 0 0),(iN 0)] w (λF w G=>∀_:Sg,A9 d f g h i c (F.getD 0 undef) D (F.getD 1 undef) w G K))
def EW(t0 t1 w)(K:KT):=nz f102 1 [] [(11,[7,8,24],λs v j w f=>A3 (s 2) (s 3) (s 4) (s 5) (s 6) (vg v 0) (vg v 1) (s 22) (s 23) (vg v 2) w (f 0) K)] [] (zg [0,1] [t0,t1]) w K
theorem Ho:EW t0 t1 w k0->Calls ah 102 #[t0,t1] w k0:=cz [(19,[14])] [(5,[7,8,24]),(12,[11,44]),(20,[5,15])] func102
def Bp(t6 t9 t69 t79 t80 w)(N1 a:JT)(K:KT):=nz f38 374271 [N1,a] [nh 35 [9,69],nh 41 [9,80]] [] (zg [6,9,69,79,80] [t6,t9,t69,t79,t80]) w K
def AP(t1 t2 t6 t7 t9 t67 t68 t69 w)(N1:JT)(K:KT):=nz f38 5631 [N1] [nh 35 [9,69],(41,[9,80],λs v j w f=>Bp (s 6) (vg v 0) (s 69) (s 79) (vg v 1) w (f 1) (f 0) K)] [] (zg [1,2,6,7,9,67,68,69] [t1,t2,t6,t7,t9,t67,t68,t69]) w K
def Fc(t0 w)(K:KT):=nz f38 1 [] [(35,[9,69],λs v j w f=>AP (s 1) (s 2) (s 6) (s 7) (vg v 0) (s 67) (s 68) (vg v 1) w (f 0) K)] [] (zg [0] [t0]) w K
theorem HT:Fc t0 w k0->Calls ah 38 #[t0] w k0:=cz [] [(17,[9,69]),(20,[9,80])] func38
def zQ(t0 w)(K:KT):=nz f157 1 [] [] [] (zg [0] [t0]) w K
theorem xN:zQ t0 w k0->Calls ah 157 #[t0] w k0:=cw func157
def CE(t0 t1 w)(K:KT):=nz f158 1 [] [] [] (zg [0,1] [t0,t1]) w K
theorem FU:CE t0 t1 w k0->Calls ah 158 #[t0,t1] w k0:=cw func158
def Ct(t0 w)(K:KT):=nz f159 1 [] [] [] (zg [0] [t0]) w K
theorem FY:Ct t0 w k0->Calls ah 159 #[t0] w k0:=cw func159
def wU(d f g b w)(N1:JT)(K:KT):=
 lnx 23 d w K λh w=>bnx .lss 3 b h w K λi w=>IfX i (HeldX w (λS2 w=>HDo ah S2 (mIA 23 d b) λj=>HDo ah S2 (aH 25 j) λk=>HDo ah S2 (mBin .add 3 b (iN 1)) λl=>HDo ah S2 (mIA 23 d l) λm=>HDo ah S2 (aH 25 m) λn=>CallX ah 158 #[k,(iN 2147483647)] w (ay 11 (pk K)) λc w=>S2 w∧(CallX ah 158 #[n,(iN 2147483647)] w (ay 11 (pk K)) λe w=>S2 w∧(bnx .geq 3 c g w K λa w=>etx a c w λo w=>etx a e w λp w=>gtx a (mBin .add 3 o p) w K λq w=>gtx a (mBin .leq 3 q (iN 8192)) w K λr w=>dx (lC a r (.bool au)) w K λs w=>cx 157 #[s] w K λz w=>bnx .add 3 c e w K λt w=>dx (aS 135 #[(0,c),(1,e)]) w K λu w=>dx (bN 116 1 #[(0,u)]) w K λv w=>apx 116 f v w K λx w=>bnx .add 3 b (iN 2) w K λy w=>N1 [x,t,y] w)))) (K (.returned f) w)
def Cm(t0 w)(K:KT):=nz f160 1 [] [(11,[3,4,5],λs v j w f=>wU (s 0) (vg v 0) (vg v 1) (vg v 2) w (f 0) K)] [] (zg [0] [t0]) w K
theorem FC:Cm t0 w k0->Calls ah 160 #[t0] w k0:=cz [] [(5,[3,4,5])] func160
def Bl(t2 t3 w)(K:KT):=nz f92 32767 [] [] [] (zg [2,3] [t2,t3]) w K
def AW(t1 t2 t3 w)(K:KT):=nz f92 16383 [] [(44,[],λs v j w f=>Bl (s 2) (s 3) w K)] [] (zg [1,2,3] [t1,t2,t3]) w K
def A4(t1 t2 t3 t8 t11 t54 w)(N1:JT)(K:KT):=nz f92 11263 [N1] [nh 23 [54],(38,[],λs v j w f=>AW (s 1) (s 2) (s 3) w K)] [] (zg [1,2,3,8,11,54] [t1,t2,t3,t8,t11,t54]) w K
def EC(t0 w)(K:KT):=nz f92 1 [] [(23,[54],λs v j w f=>A4 (s 1) (s 2) (s 3) (s 8) (s 11) (vg v 0) w (f 0) K)] [] (zg [0] [t0]) w K
theorem GR:EC t0 w k0->Calls ah 92 #[t0] w k0:=cz [(19,[]),(22,[])] [(11,[54])] func92
def kS(t0 w)(K:KT):=nz f162 1 [] [] [] (zg [0] [t0]) w K
theorem rI:kS t0 w k0->Calls ah 162 #[t0] w k0:=cw func162
def fV(t0 t4 t9 t14 t15 w)(N1 a:JT)(K:KT):=nz f221 365 [N1,a] [nh 3 [9],nh 9 [15]] [] (zg [0,4,9,14,15] [t0,t4,t9,t14,t15]) w K
def fW(t0 t7 t8 t9 w)(N1:JT)(K:KT):=nz f221 5 [N1] [nh 3 [9],(9,[15],λs v j w f=>fV (s 0) (s 4) (s 9) (s 14) (vg v 0) w (f 1) (f 0) K)] [] (zg [0,7,8,9] [t0,t7,t8,t9]) w K
def iB(t0 t1 w)(K:KT):=nz f221 1 [] [(3,[9],λs v j w f=>fW (s 0) (s 7) (s 8) (vg v 0) w (f 0) K)] [] (zg [0,1] [t0,t1]) w K
theorem nA:iB t0 t1 w k0->Calls ah 221 #[t0,t1] w k0:=cz [] [(1,[9]),(4,[15])] func221
def eX(t2 t3 t7 t25 t26 w)(N1:JT)(K:KT):=nz f161 351 [N1] [nh 15 [7,26]] [] (zg [2,3,7,25,26] [t2,t3,t7,t25,t26]) w K
def jO(t0 t1 t2 t3 w)(K:KT):=nz f161 1 [] [(15,[7,26],λs v j w f=>eX (s 2) (s 3) (vg v 0) (s 25) (vg v 1) w (f 0) K)] [] (zg [0,1,2,3] [t0,t1,t2,t3]) w K
theorem pO:jO t0 t1 t2 t3 w k0->Calls ah 161 #[t0,t1,t2,t3] w k0:=cz [] [(7,[7,26])] func161
def kL (a:Nat)(K:Ending->ao->Prop):=pdM ah [.val (.slice aw 0 0)] K [(mkD a)]
def aM (a:Nat)(K:Ending->ao->Prop):=pdM ah [.val undef] K [(mkD a)]
def lS(b d e a s w)(t:JT)(K:KT):=
 DoX ah (mBin .lss 3 a e) w (aM s K) λf w=>IfX f (DoX ah (mIA 61 d a) w (aM s K) λg w=>DoX ah (aH 83 g) w (aM s K) λh w=>DoX ah (iH 83) w (aM s K) λc w=>DoX ah (aN 83 c h) w (aM s K) λ_ w=>DoX ah (mFA 83 c 1) w (aM s K) λi w=>DoX ah (aH 3 i) w (aM s K) λj w=>DoX ah (mBin .leq 3 j (iN 2)) w (aM s K) λk w=>CallX ah 157 #[k] w (aM s K) λq w=>DoX ah (mBin .add 3 a (iN 1)) w (aM s K) λl w=>AtX [(mkD s)] [(mkD s)] (t [l] w)) (DoX ah (aH 61 b) w (aM s K) λm w=>CallX ah 101 #[m] w (aM s K) λn w=>DoX ah (mEq .eql 30 (.tmp 40) (.const (iN 0)) n (iN 0)) w (aM s K) λo w=>CallX ah 157 #[o] w (aM s K) λr w=>DoX ah (aH 61 b) w (aM s K) λp w=>EX ah [.val p] K [(mkD s)] .returning w)
def cB(a b g h w):=
 DoX ah (aH 61 a) w pkR λc w=>DoX ah (aH 83 b) w pkR λd w=>DoX ah (bN 61 1 #[(0,d)]) w pkR λe w=>DoX ah (mB .append #[61,61] 61 #[au,au] #[c,e]) w pkR λf w=>DoX ah (aN 61 a f) w pkR λ_ w=>EndX ah g aw w h
def iW(l m w)(K:KT):=
 dx (mBox 118 l) w K λf w=>dx (mBox 9 m) w K λn w=>alx 61 w K λa w=>alx 3 w K λg w=>stx 3 g (iN 0) w K λ_ w=>dx (Nb (.func 161) #[] #[f,g,n]) w K λo w=>alx 131 w K λb w=>stx 131 b o w K λ_ w=>ldx 118 f w K λp w=>cx 162 #[p] w K λq w=>RangeX ah aw 1 q w (λI u w J=>BegX ah I w (λw=>HeldX w (λS2 w=>HDo ah S2 (aH 131 b) λh=>HDo ah S2 (aH 131 b) λd=>HDo ah S2 (aH 131 b) λc=>(CVX ah h #[(iN 0)] w (pm1 (pm1 (pm1 (pm1 (pm1 pkR))))) λe w=>S2 w∧((CVX ah d #[(iN 1)] w (pm1 (pm1 (pm1 (pm1 (pm1 pkR))))) λi w=>S2 w∧((CVX ah c #[(iN 2)] w (pm1 (pm1 (pm1 (pm1 (pm1 pkR))))) λr w=>S2 w∧(HDo ah (λ_=>True) (aS 83 #[(0,(u.getD 0 undef)),(1,e),(2,i),(3,r)]) λs=>DoX ah (iH 83) w (pm1 (pm1 (pm1 (pm1 (pm1 pkR))))) λj w=>S2 w∧(DoX ah (aN 83 j s) w (pm1 (pm1 (pm1 (pm1 (pm1 pkR))))) λ_ w=>(cB a j I J w))))∧(DoX ah (iH 83) w (pm1 (pm1 (pm1 (pm1 (pm1 pkR))))) λv w=>S2 w∧(CVX ah c #[(iN 2)] w (pm1 (pm1 (pm1 (pm1 (pm1 pkR))))) λz w=>S2 w∧(HDo ah (λ_=>True) (aS 83 #[(0,(u.getD 0 undef)),(1,e),(2,i),(3,z)]) λA=>DoX ah (aN 83 v A) w (pm1 (pm1 (pm1 (pm1 (pm1 pkR))))) λ_ w=>(cB a v I J w))))))∧(DoX ah (iH 83) w (pm1 (pm1 (pm1 (pm1 (pm1 pkR))))) λx w=>S2 w∧(CVX ah d #[(iN 1)] w (pm1 (pm1 (pm1 (pm1 (pm1 pkR))))) λB w=>S2 w∧(CVX ah c #[(iN 2)] w (pm1 (pm1 (pm1 (pm1 (pm1 pkR))))) λC w=>S2 w∧(HDo ah (λ_=>True) (aS 83 #[(0,(u.getD 0 undef)),(1,e),(2,B),(3,C)]) λD=>DoX ah (aN 83 x D) w (pm1 (pm1 (pm1 (pm1 (pm1 pkR))))) λ_ w=>(cB a x I J w)))))))∧(DoX ah (iH 83) w (pm1 (pm1 (pm1 (pm1 (pm1 pkR))))) λy w=>S2 w∧(CVX ah h #[(iN 0)] w (pm1 (pm1 (pm1 (pm1 (pm1 pkR))))) λE w=>S2 w∧(CVX ah d #[(iN 1)] w (pm1 (pm1 (pm1 (pm1 (pm1 pkR))))) λF w=>S2 w∧(CVX ah c #[(iN 2)] w (pm1 (pm1 (pm1 (pm1 (pm1 pkR))))) λG w=>S2 w∧(HDo ah (λ_=>True) (aS 83 #[(0,(u.getD 0 undef)),(1,E),(2,F),(3,G)]) λH=>DoX ah (aN 83 y H) w (pm1 (pm1 (pm1 (pm1 (pm1 pkR))))) λ_ w=>(cB a y I J w)))))))))
 [(aw,λL w=>DoX ah (aH 61 a) w (kL L K) λk w=>DoX ah (mB .len #[61] 3 #[au] #[k]) w (kL L K) λt w=>LoopX [(iN 0)] w (λM w N=>∀_:Sg,lS a k t (M.getD 0 undef) L w N K))]
theorem wK (t0 t1:aq)(w:ao)(K:Ending->ao->Prop):wpX ah 44 [] [(9,[30])] aw (A2 f94) (topM ah [.tmp 4] K) (kO [t0,t1]) [] w=iW t0 t1 w K:=krx
theorem wL {t1:aq}{K:Ending->ao->Prop}(h:iW t0 t1 w K):Calls ah 94 #[t0,t1] w K:=
 M5 func94 rfl rfl rfl rfl (Eq.mpr (wK t0 t1 w K) h)
def lE (a:Deferred)(b:aq)(K:Ending->ao->Prop):=pd ah [.cell b 30] K [a]
def AR(b w)(K:KT):=
 alx 30 w K λa w=>dx (Nb (.func 156) #[] #[a]) w K λc w=>DfrX (dfrV c #[]) (λd1=>DoX ah (fY b #[]) w (lE d1 a K) λd w=>DoX ah (aN 30 a (iN 0)) w (lE d1 a K) λ_ w=>BN ah [.cell a 30] K [d1] .returning w)
theorem DV:AR t0 w k0->Calls ah 90 #[t0] w k0:=cw func90
def uW(t0 t1 w)(K:KT):=nz f91 1 [] [] [] (zg [0,1] [t0,t1]) w K
theorem BQ:uW t0 t1 w k0->Calls ah 91 #[t0,t1] w k0:=cw func91
def vM(t0 t1 t2 w)(K:KT):=nz f93 1 [] [] [] (zg [0,1,2] [t0,t1,t2]) w K
theorem BS:vM t0 t1 t2 w k0->Calls ah 93 #[t0,t1,t2] w k0:=cw func93
def EL(t0 t1 w)(K:KT):=nz f34 1 [] [] [] (zg [0,1] [t0,t1]) w K
theorem Gr:EL t0 t1 w k0->Calls ah 34 #[t0,t1] w k0:=cw func34
end
section
open Eng Go.RowKit
namespace Cs
def nbG:Nat->Int->Nat
|0,_=>0
|f+1,n=>if 0 < n then nbG f (n.fdiv 256)+1 else 0
def nb (n:Int):Nat:=nbG 4 n
def maxL (l:List Int):Int:=l.foldl (λm x=>max m x) 0
def wa (l:List Slt):Nat:=nb (maxL (l.map (·.a)))
def wb (l:List Slt):Nat:=nb (maxL (l.map (·.b)))
def num (n:Int):Nat->List UInt8
|0=>[]
|w+1=>UInt8.ofNat ((n / (256 ^ w)) % 256).toNat::num n w
theorem XV:∀(f:Nat) (n:Int),nbG f n<=f
|0,_=>amJ _
|f+1,n=>by
  have:=XV f (n.fdiv 256);unfold nbG;split<;>omega
theorem afS (n:Int):nb n<=4:=XV 4 n
theorem jJ (n:Int):∀w,(num n w).length=w
|0=>rfl
|w+1=>by unfold num;rw[amW,jJ n w]
theorem MF (l:List Int)(x:Int):maxL (l++[x])=max (maxL l) x:=by unfold maxL;rw[atD];rfl
end Cs
theorem Jc (n:Int)(w:ao):Ret ah 104 #[.int .i64 n] w (λv w'=>v=.int .i64 (Cs.nb n:Nat)∧w=w'):=by
 refine aZ λK a=>FE ?_;unfold Cu nz;refine loop (λvs W=>∃(m:Int) (k:Nat),vs=[.int .i64 m,.int .i64 (k:Int)]∧k<=4∧Cs.nb n=k+Cs.nbG (4 - k) m∧w=W) (λvs _=>4 - n1 vs) ⟨n,0,rfl,om,by simp[Cs.nb],rfl⟩ ?_;rintro vs c ⟨m,k,rfl,d,he,rfl⟩ _;simp only[yG,gd,rs,nz];by_cases hm:0 < m
 ·simp only[amG hm,rs,g_un];by_cases b:(k:Int) < 4
  ·simp only[amG b,i_t];rw[aA om om,GH dc,show (2:Int) ^ min (8:Int).toNat IntKind.i64.bits=256 from rfl];refine aY ⟨m.fdiv 256,k+1,rfl,om,?_,rfl⟩ (by simp[n1,RowKit.intOf];omega);rw[he,show 4 - k=(4 - (k+1))+1 by omega,Cs.nbG,amB hm];omega
  ·simp only[amE b,i_f];have:k=4:=om
   subst this;exact a _ _ ⟨by rw[he];rfl,rfl⟩
 ·simp only[amE hm,rs,g_un,i_f];refine a _ _ ⟨?_,rfl⟩;rw[he];cases h:4 - k with
 |zero=>rfl
 |succ f=>rw[Cs.nbG,amA hm];rfl
def w3C (a b:Int):List Value:=[.int .i64 1,.int .i64 a,.int .i64 b]
def w3V (a b:Int):Value:=.agg (w3C a b).toArray
theorem agg3:aggN ah 71=ax 3:=krx
theorem sz3:(Tryz.prog.info? 71).map (·.size)=ax 3:=krx
def w0C:List Value:=[.int .i64 0,.int .i64 0,.int .i64 0]
section
variable {w:ao}{PK:PKT}{K:VWP}{S:Nat->Prop}{w0:ao}{L T:List Ent}
theorem o_w3 (a:OwnS S w0 w L)(k:∀b w',OwnS S w0 w' (.cells b w0C 71::L)->K (.pointer (ax ⟨b,0,aw⟩)) w'):DoX ah (iH 71) w PK K:=
 bA (λb=>.pointer (ax ⟨b,0,aw⟩)) w0C 71 (λ_=>by kernel_rfl) a k
theorem X1 (j:Nat){c:List aq}{d:Int}(g:c.length=3)(f:OwnS S w0 w L)(hi:L[j]?=ax (.cells b c 71))(k:∀w',OwnS S w0 w' (L.set j (.cells b (w3C a d) 71))->K undef w') :
  DoX ah (aN 71 (.pointer (ax ⟨b,0,aw⟩)) (w3V a d)) w PK K:=by
 refine xR j f hi (new:=w3C a d) sz3 (λv h=>?_) (by rw[g];show 0+3<=3;omega) λw' f=>k w' ?_
 ·simp only[w3C,amH,anW,or_false] at h;rcases h with rfl|rfl|rfl<;>rfl
 ·have e:c.take 0++w3C a d++c.drop (0+(w3C a d).length)=w3C a d:=by
   rw[aoF (by rw[g];show 3<=0+3;omega)];simp
  rw[e] at f;exact f
theorem m_w3 {b:Int}:DoX ah (aS 71 #[(0,.int .i64 1),(1,.int .i64 a),(2,.int .i64 b)]) w PK K=K (w3V a b) w:=aD krx
end
theorem Hn (l:List Slt)(v:aq)(M:Mem)(w:ao)(o:l.length<=1000000000)(f:M.has w)(h:SlA M.A M.w v 4 l.length (slsC l)) :
  RetM ah 39 #[v] M w (λr _=>r=w3V (Cs.wa l:Nat) (Cs.wb l:Nat)):=by
 refine bB f λK j=>Em ?_;unfold Be nz;refine o_w3 (OwnS.memS f) λb2 p c=>?_;rw[bD apT (h.now (c.hasM 1 rfl))];refine loop (λvs W=>∃(i:Nat),vs=[.int .i64 (Cs.maxL ((l.take i).map (·.a))),.int .i64 (Cs.maxL ((l.take i).map (·.b))),.int .i64 (i:Int)]∧i<=l.length∧OwnS M.A w W [.cells b2 w0C 71,.mem M]) (λvs _=>l.length - (RowKit.intOf (vs.getD 2 undef)).toNat) ⟨0,rfl,om,c⟩ ?_;clear c;rintro vs w2 ⟨i,rfl,hi,c⟩ _;simp only[wA,gd,rs,nz];by_cases d:(i:Int) < (l.length:Int)
 ·simp only[amG d,i_t];have e:i < l.length:=om
  obtain⟨g,off,k⟩:=oR h e;obtain⟨m,n⟩:=k w2 (c.hasM 1 rfl);refine aD m |>.mpr (aD (xC n) |>.mpr ?_);refine Im c λq w3 c=>?_;refine Fe (y:=l[i]) 0 c rfl λs c=>?_;rw[JD,aJ aU (c.cell 0 rfl 2 rfl),wN,JQ,aJ aU (c.cell 0 rfl 3 rfl),wN]
  try simp only[rs]
  rw[aA om om];refine aY ⟨i+1,?_,om,c.tail⟩ (by simp[RowKit.intOf];omega);rw[Et e,anN,anN,List.map_singleton,List.map_singleton,Cs.MF,Cs.MF];rfl
 simp only[amE d,i_f];have:i=l.length:=om
 subst this;rw[aoA];refine c_eq (Jc _ w2) ?_;refine c_eq (Jc _ w2) ?_;rw[m_w3];refine X1 0 rfl c rfl λw3 c=>?_;exact iA (bJ (c.agg 0 rfl agg3)) (j _ _ M _ 1 c rfl M.le_refl rfl)
section
variable {w:ao}{PK:PKT}{K:VWP}{S:Nat->Prop}{w0:ao}{L T:List Ent}
theorem ccu8 {n:Int}:DoX ah (tP 3 5 (.int .i64 n)) w PK K=K (.int .u8 (IntKind.wrap .u8 n)) w:=aD krx
theorem Hd {n:Int}{wd:Nat}{ov:aq}{out:List UInt8}(b:OwnS S w0 w (outR ov out::T))(hw:wd<=4)(o:out.length<=100000000)(k:∀a W,OwnS S w0 W (outR a (out++Cs.num n wd)::T)->K a W) :
  CallX ah 103 #[ov,.int .i64 n,.int .i64 (wd:Int)] w PK K:=by
 refine fH (D5 (k0:=RetK λv W=>OwnS S w0 W (outR v (out++Cs.num n wd)::T)) ?_) (λe W ⟨v,he,b⟩=>by subst he;exact k v W b);unfold A5 nz;simp only[rs];rw[aA om om];refine loop (λvs W=>∃(j:Nat) (a:aq) (q:List UInt8),vs=[a,.int .i64 ((j:Int) - 1)]∧j<=wd∧q++Cs.num n j=out++Cs.num n wd∧q.length<=out.length+wd∧OwnS S w0 W (outR a q::T)) (λvs _=>(RowKit.intOf (vs.getD 1 undef)+1).toNat) ⟨wd,ov,out,rfl,om,rfl,om,b⟩ ?_;clear b;rintro vs p ⟨j,a,q,rfl,r,c,h,b⟩ _;simp only[uS,gd,rs,nz];by_cases l:0 < j
 ·simp only[show ai ((0:Int)<=(j:Int) - 1)=av from amG om,i_t];obtain⟨i,rfl⟩:∃i,j=i+1:=⟨j - 1,om⟩;rw[show ((i+1:Nat):Int) - 1=(i:Int) by omega];have m:i < 4:=om
  have d:n.fdiv (2 ^ min (8*(i:Int)).toNat IntKind.i64.bits)=n / 256 ^ i:=by
   rw[atN _ (Int.le_of_lt (Int.pow_pos dc))]
   congr 1
   rcases (by omega:i=0∨i=1∨i=2∨i=3) with rfl|rfl|rfl|rfl<;>rfl
  rw[aA om om,GH om,d,ccu8];have hu:IntKind.wrap .u8 (n / 256 ^ i)=((UInt8.ofNat ((n / 256 ^ i) % 256).toNat).toNat:Int):=by
   have g:=Int.emod_nonneg (n / 256 ^ i) (show (256:Int)≠0 by decide);have s:=Int.emod_lt_of_pos (n / 256 ^ i) (show (0:Int) < 256 by decide);rw[aqN,anZ (show _ < 2 ^ 8 by omega)];show (n / 256 ^ i) % 256=_;omega
  rw[hu];refine acL _ b om λf w2 b=>?_
  try simp only[rs]
  rw[aA om om];refine aY ⟨i,f,_,rfl,om,?_,?_,b⟩ (by simp[RowKit.intOf])
  ·rw[<-c,Cs.num,amM];try rfl
  ·have g:=congrArg List.length c;rw[amC,amC,Cs.jJ,Cs.jJ] at g;rw[amC];show _+1<=_;omega
 have:j=0:=om
 subst this;simp only[show ai ((0:Int)<=((0:Nat):Int) - 1)=au from rfl,i_f];have e:q=out++Cs.num n wd:=by rw[<-c];simp[Cs.num]
 rw[e] at b;exact⟨_,rfl,b⟩
end
end
section
open Eng Go.RowKit
def Zw:aq->Nat|.slice _ n _=>n|_=>0
namespace Ff
def filt (o:Ob):List Ob:=match Vl.get o aX with|none=>[]|some f=>if f.k=6 then f.kids else [f]
def tN (o:Ob):List Ob×Int:=match Vl.get o cL with|none=>([],0)|some d=>if d.k=6 then (d.kids,0) else if d.k=7 then ([d],0) else ([],10)
def tV (o:Ob)(many:Nat):List Pm×Int:=
 if (tN o).2≠0 then ([],10)
 else if (tN o).1.any (λx=>ai ((parm x).2≠0))=av then ([],10)
 else if many < (tN o).1.length then ([],1)
 else if (tN o).1.any (λx=>!eight x)=av then ([],1)
 else ((tN o).1.map (λx=>(parm x).1)++List.replicate (many - (tN o).1.length) Av,0)
theorem Wu {x:Ob}(h:x∈(tN o).1):x.wt<=o.wt:=by
 unfold tN at h;cases a:Vl.get o cL with
|none=>rw[a] at h;simp at h
|some f=>
  rw[a] at h;have b:=pf a;dsimp only at h;split at h
  ·obtain⟨i,hi,rfl⟩:=apS (show x∈f.kids from h);have:=JC hi;omega
  split at h
  ·rw[anB.1 h];exact b
  ·simp at h
theorem nS {o:Ob}:o.kids.length<=o.wt:=by
 have:=Ob.BI o.kids;cases o;simp only[Ob.kids] at *;rw[Ob.wt];omega
theorem Ql (h:o.wt<=1000000000):(filt o).length<=1000000000:=by
 unfold filt;cases a:Vl.get o aX with
|none=>exact anG _
|some f=>
  have b:=pf a;dsimp only;split
  ·have:=@nS f;omega
  ·exact (by decide:(1:Nat)<=1000000000)
theorem TI (h:o.wt<=1000000000):(tN o).1.length<=1000000000:=by
 unfold tN;cases a:Vl.get o cL with
|none=>exact anG _
|some f=>
  have b:=pf a;dsimp only;split
  ·have:=@nS f;show f.kids.length<=_;omega
  split
  ·exact (by decide:(1:Nat)<=1000000000)
  ·exact anG _
end Ff
section
variable {w:ao}{PK:PKT}{K:VWP}{S:Nat->Prop}{w0:ao}{L:List Ent}
structure LsAt (M:Mem) (v:aq) (os:List Ob) (cs:List aq):Prop where
 sl:SlA M.A M.w v 6 os.length cs
 all:OVs M.A M.w cs os
theorem LsAt.le {M N:Mem}{v:aq}{os:List Ob}{cs:List aq}(h:M.le N)(k:LsAt M v os cs):LsAt N v os cs:=⟨k.sl.le h,k.all.le h⟩
theorem ahB (M:Mem):LsAt M nilS [] []:=⟨SlA.nil _ _ _ _,OVs.nil⟩
theorem Km (h:OV M.A M.w (obV o vk vc) o):∃cs,LsAt M vc o.kids cs:=by
 obtain⟨cs,a⟩:=h.slices;exact⟨cs,a.kids,a.all⟩
theorem EI (h:LsAt M v os cs):DoX ah (mB .len #[23] 3 #[au] #[v]) W PK K=K (.int .i64 (os.length:Int)) W:=by
 obtain⟨a,cap,rfl,_⟩:=h.sl.form;exact bQ amT
theorem LZ (h:LsAt M v os cs)(hi:i < os.length)(f:M.has w)(k:∀vk vc,OV M.A M.w (obV os[i] vk vc) os[i]->K (obV os[i] vk vc) w) :
  DoX ah (mIA 23 v (.int .i64 (i:Int))) w PK λt w=>DoX ah (aH 25 t) w PK2 K:=by
 obtain⟨b,off,vk,e,c,d,a⟩:=Tg h.sl h.all hi;refine aD (c w) |>.mpr ?_;refine aD (aW (AtV.agg kY (cs:=obC os[i] vk e) rfl (a w f))) |>.mpr ?_;exact k vk e d
theorem Vk (a:OwnS S w0 w (.mem M::L))(hw:o.wt<=1000000000)(E:OV M.A M.w v o)
  (q:(∀x∈Ff.filt o,x.k=5)->∀vn N W,M.le N->SlA N.A N.w vn 1 ((Ff.filt o).map Ob.s).length (bS ((Ff.filt o).map Ob.s))->OwnS S w0 W (.mem N::L)->K vn W)
  (F:¬(∀x∈Ff.filt o,x.k=5)->∀N W,M.le N->OwnS S w0 W (.mem N::L)->PK [upF 10] W):CallX ah 79 #[v] w PK K:=by
 obtain⟨vk,vc,P,rfl,G⟩:=E.open;have r:=Ff.Ql hw;generalize c:Ff.filt o=X at q F r;unfold Ff.filt at c;refine⟨Dp ?_⟩;unfold xW nz;refine iE o G.keys.one G.kids.one a λQ R a=>?_;rw[ob_v a 0 rfl];refine bH a 1 rfl (zX o _ Ff.aX M R om (a.hasM 1 rfl) E) ?_;rintro _ N w2 hle ⟨x,rfl,b⟩ a;obtain⟨H,t,rfl,b⟩:=HO b;simp only[getV,ex];refine fK a λb3 w3 a=>?_;refine bK 0 b.oneK b.oneC a rfl λY a=>?_;rw[ob_v a 0 rfl];refine JX _ b.oneK b.oneC a λnb n a=>?_;have a:OwnS S w0 n (obE nb ((Vl.get o Ff.aX).getD Vl.ob0) H t::obE b3 ((Vl.get o Ff.aX).getD Vl.ob0) H t::obE Q o vk vc::.mem N::L):=a;refine join λJ T=>?_;have main:∀(l:Mem) (u:aq) (cs:List aq) (W:ao),M.le l->LsAt l u X cs->OwnS S w0 W (.mem l::L)->J [u] W:=by
  intro l u cs W g d a;refine T _ _ λ_=>?_;simp only[rP,gd,nz];rw[EI d];have a:=OwnS.nilU a 9 1;refine loop (λvs W=>∃(i:Nat) (ov:aq),vs=[ov,.int .i64 (i:Int)]∧i<=X.length∧(∀x∈X.take i,x.k=5)∧OwnS S w0 W (stsE ov ((X.take i).map Ob.s)::.mem l::L)) (λvs _=>X.length - n1 vs) ⟨0,nilS,rfl,om,sm,a⟩ ?_;clear a;rintro vs U ⟨i,ov,rfl,hi,y,a⟩ _;simp only[rZ,gd,rs,nz];by_cases m:(i:Int) < (X.length:Int)
  case neg=>
   simp only[m,amF,i_f];have:i=X.length:=om
   subst this;rw[aoA] at y a;obtain⟨z,B,j,a⟩:=a.bI 0 rfl;exact q y ov z U (g.trans B) j a
  simp only[m,amD,i_t];have e:i < X.length:=om
  refine LZ d e (a.hasM 1 rfl) λZ yc I=>?_;refine fK a λb8 w7 a=>?_;refine bK 0 I.oneK I.oneC a rfl λV a=>?_;rw[fP,ob_k a 0 rfl];simp only[rs];refine nT (λh=>?_) (λh=>?_)
  rotate_left
  ·exact F (λk=>(anO h) (k _ (amR e))) l V g a.tail.tail
  have h:=amU h;rw[FN,ob_s a 0 rfl];refine U5 _ a.tail (by rw[anP,amL];omega) λC W2 a=>?_
  try simp only[rs]
  rw[aA om om];refine aY ⟨i+1,C,rfl,om,?_,?_⟩ (by simp[n1,RowKit.intOf];omega)
  ·rw[anH e];intro x b;rcases anF.1 b with b|b
   ·exact y x b
   ·rw[anB.1 b];exact h
  ·rw[anH e,anN];exact a
 cases O:Vl.get o Ff.aX with
|none=>
  rw[O] at c;dsimp only at c;subst c;simp only[aqP,rs,aoD,i_t];exact q sm nilS N n hle (SlA.nil _ _ _ _) a.tail.tail.tail
|some f=>
  rw[O] at c a b;dsimp only at c;rw[apY] at a b;simp only[aqY,rs,aoB,i_f];rw[fP,ob_k a 1 rfl];simp only[rs];by_cases p:f.k=6
  ·rw[amB p] at c;subst c;simp only[p,amD,i_t];rw[oQ,fD a 1 rfl];obtain⟨cs,d⟩:=Km b;exact main N t cs n hle d a.tail.tail.tail
  ·rw[amA p] at c;subst c;simp only[p,amF,i_f];obtain⟨z,B,j,D,a⟩:=Vx a 2 rfl b;exact main z _ _ n (hle.trans B) ⟨j,D⟩ a.tail.tail
theorem Xa {many:Nat}(b:OwnS S w0 w (.mem M::L))(hw:o.wt<=1000000000)(hm:many<=1000000000)(hv:OV M.A M.w v o)
  (Z:(Ff.tV o many).2=0->∀vp N W,M.le N->SlA N.A N.w vp 3 (Ff.tV o many).1.length ((Ff.tV o many).1.flatMap pmC)->OwnS S w0 W (.mem N::L)->K vp W)
  (kf:(Ff.tV o many).2≠0->∀N W,M.le N->OwnS S w0 W (.mem N::L)->PK [upF (Ff.tV o many).2] W):CallX ah 81 #[v,.int .i64 (many:Int)] w PK K:=by
 obtain⟨vk,vc,b6,rfl,ha⟩:=hv.open;have H:=Ff.TI hw;have y:∀x∈(Ff.tN o).1,x.wt<=1000000000:=λx c=>by have:=Ff.Wu c;omega
 generalize m:Ff.tV o many=X at Z kf;unfold Ff.tV at m;generalize r:Ff.tN o=D at m H y;obtain⟨l,de⟩:=D;unfold Ff.tN at r;dsimp only at m H y;refine⟨Er ?_⟩;unfold AQ nz;refine iE o ha.keys.one ha.kids.one b λb1 w1 b=>?_;refine join λJ hJ=>?_;rw[ob_v b 0 rfl];refine bH b 1 rfl (zX o _ Ff.cL M w1 om (b.hasM 1 rfl) hv) ?_;rintro _ N w2 hle ⟨x,rfl,c⟩ b;obtain⟨xk,xc,rfl,c⟩:=HO c;simp only[getV,ex];refine fK b λb3 w3 b=>?_;refine bK 0 c.oneK c.oneC b rfl λw4 b=>?_;have b:OwnS S w0 w4 (obE b3 ((Vl.get o Ff.cL).getD Vl.ob0) xk xc::obE b1 o vk vc::.mem N::L):=b;have fail:∀{e:Int} {t:Mem} {W:ao},X=([],e)->e≠0->M.le t->OwnS S w0 W (.mem t::L)->PK [upF e] W:=by
  intro e t W he I g b;rw[he] at kf;exact kf I t W g b
 have main:de=0->∀(t:Mem) (vl:aq) (cs:List aq) (W:ao),M.le t->LsAt t vl l cs->OwnS S w0 W (.mem t::L)->J [vl] W:=by
  intro a1 t vl cs W g p b;rw[amA (by rw[a1];decide)] at m;refine hJ _ _ λ_=>?_;simp only[vO,gd,nz];rw[EI p];have b:=OwnS.nilU b 27 3;refine loop (λvs W=>∃(i:Nat) (ov:aq) (z:Mem),vs=[ov,.int .i64 (i:Int)]∧i<=l.length∧(∀x∈l.take i,(Ff.parm x).2=0)∧t.le z∧OwnS S w0 W (pmsE ov ((l.take i).map λx=>(Ff.parm x).1)::.mem z::L)) (λvs _=>l.length - n1 vs) ⟨0,nilS,t,rfl,om,sm,t.le_refl,b⟩ ?_;clear b;rintro vs w6 ⟨i,ov,z,rfl,hi,I,B,b⟩ _;simp only[vW,gd,rs,nz];by_cases n:(i:Int) < (l.length:Int)
  ·simp only[n,amD,i_t];have d:i < l.length:=om
   refine LZ (p.le B) d (b.hasM 1 rfl) λT U F=>?_;refine fK b λV w7 b=>?_;refine bK 0 F.oneK F.oneC b rfl λG b=>?_;rw[ob_v b 0 rfl];have b:OwnS S w0 G ([obE V l[i] T U,pmsE ov ((l.take i).map λx=>(Ff.parm x).1)]++([.mem z]++L)):=b;refine afL b.front (by have:=y _ (amR d);omega) F (λe0 u W2 E b=>?_) (λe0 u W2 E b=>?_)
   rotate_left
   ·refine fail (e:=10) ?_ dc ((g.trans B).trans E) (b.sub (.cons_cons _ (.cons _ (.cons _ (arK _)))));rw[amB (aqA.2 ⟨_,amR d,amG (by rw[e0];decide)⟩)] at m;exact m.symm
   have b:OwnS S w0 W2 ([.mem u,obE V l[i] T U]++([pmsE ov ((l.take i).map λx=>(Ff.parm x).1)]++L)):=b;have b:=b.front;have b:OwnS S w0 W2 (pmsE ov ((l.take i).map λx=>(Ff.parm x).1)::.mem u::obE V l[i] T U::L):=b;refine Yz _ b (by rw[anP,amL];omega) λC W3 b=>?_
   try simp only[rs]
   rw[aA om om];refine aY ⟨i+1,C,u,rfl,om,?_,B.trans E,?_⟩ (by simp[n1,RowKit.intOf];omega)
   ·rw[anH d];intro x c;rcases anF.1 c with c|c
    ·exact I x c
    ·rw[anB.1 c];exact e0
   ·rw[anH d,anN];exact b.sub (.cons_cons _ (.cons_cons _ (.cons _ (arK _))))
  simp only[n,amF,i_f];have:i=l.length:=om
  subst this;rw[aoA] at I b;rw[amA (λh=>by
   obtain⟨x,c,h⟩:=aqA.1 h;exact (amU h) (I x c))] at m
  rw[EI p];simp only[rs];refine nT (λh=>?_) (λh=>?_)
  rotate_left
  ·have:=anO h;rw[amB om] at m;exact fail m.symm dc (g.trans B) b.tail
  have b7:=amU h;rw[amA om] at m;rw[EI p];generalize a6:(l.map λx=>(Ff.parm x).1)=ps at m b;have O:ps.length=l.length:=by rw[<-a6,anP]
  refine loop (λvs W=>∃(i:Nat) (u:Mem),vs=[.int .i64 (i:Int)]∧i<=l.length∧(∀x∈l.take i,Ff.eight x=av)∧z.le u∧OwnS S w0 W (pmsE ov ps::.mem u::L)) (λvs _=>l.length - n0 vs) ⟨0,z,rfl,om,sm,z.le_refl,b⟩ ?_;clear b;rintro vs w7 ⟨i,u,rfl,hi,h8,E,b⟩ _;simp only[vC,gd,rs,nz];by_cases n:(i:Int) < (l.length:Int)
  ·simp only[n,amD,i_t];have d:i < l.length:=om
   refine LZ ((p.le B).le E) d (b.hasM 1 rfl) λT U F=>?_;refine fK b λV G b=>?_;refine bK 0 F.oneK F.oneC b rfl λw9 b=>?_;rw[ob_v b 0 rfl];refine bH b 2 rfl (Re l[i] _ u w9 (by have:=y _ (amR d);omega) (b.hasM 2 rfl) F) ?_;rintro _ N4 b9 l4 rfl b;refine nT (λh=>?_) (λh=>?_)
   rotate_left
   ·rw[amB (aqA.2 ⟨_,amR d,by rw[h];rfl⟩)] at m;exact fail m.symm dc (((g.trans B).trans E).trans l4) b.tail.tail
   try simp only[rs]
   rw[aA om om];refine aY ⟨i+1,N4,rfl,om,?_,E.trans l4,b.tail⟩ (by simp[n0,RowKit.intOf];omega);rw[anH d];intro x c;rcases anF.1 c with c|c
   ·exact h8 x c
   ·rw[anB.1 c];exact h
  simp only[n,amF,i_f];have:i=l.length:=om
  subst this;rw[aoA] at h8;rw[amA (λh=>by
   obtain⟨x,c,h⟩:=aqA.1 h;rw[h8 x c] at h;cases h)] at m
  refine loop (λvs W=>∃(j:Nat) (ov:aq),vs=[ov]∧l.length+j<=many∧OwnS S w0 W (pmsE ov (ps++List.replicate j Ff.Av)::.mem u::L)) (λvs _=>many - Zw (vs.getD 0 undef)) ⟨0,ov,rfl,om,by rw[List.replicate_zero,amY];exact b⟩ ?_;clear b;rintro vs G ⟨j,ov,rfl,hj,b⟩ _;have P:(ps++List.replicate j Ff.Av).length=l.length+j:=by rw[amC,anU,O]
  have a7:∃a cap,ov=.slice a (l.length+j) cap:=by
   obtain⟨_,a,cap,h,_⟩:=Sl.urow (b.at_ 0 rfl);exact⟨a,cap,by rw[h,P]⟩
  obtain⟨a,cap,Q⟩:=a7;simp only[vU,gd,nz];rw[show DoX ah (mB .len #[40] 3 #[au] #[ov]) G=DoX ah (mB .len #[40] 3 #[au] #[.slice a (l.length+j) cap]) G by rw[Q],bQ arS];simp only[rs];by_cases n:((l.length+j:Nat):Int) < (many:Int)
  ·simp only[n,amD,i_t];refine aL b (Ea G) ?_;rintro _ w9 rfl b;refine Yz _ b (by rw[P];omega) λC W3 b=>?_;have b:OwnS S w0 W3 (pmsE C (ps++List.replicate (j+1) Ff.Av)::.mem u::L):=by
    rw[List.replicate_succ',<-amM];exact b
   have R:(ps++List.replicate (j+1) Ff.Av).length=l.length+(j+1):=by rw[amC,anU,O]
   refine aY ⟨j+1,C,rfl,om,b⟩ ?_;obtain⟨_,a',b5,h',_⟩:=Sl.urow (b.at_ 0 rfl);rw[Q,h',R];show many - (l.length+(j+1)) < many - (l.length+j);omega
  simp only[n,amF,i_f];have a8:j=many - l.length:=om
  subst a8;rw[<-m] at Z;obtain⟨N5,l5,b0,b⟩:=b.bI 0 rfl;exact Z rfl ov N5 G (((g.trans B).trans E).trans l5) b0 b
 cases hg:Vl.get o Ff.cL with
|none=>
  rw[hg] at r;dsimp only at r
  injection r with s q
  subst s;simp only[aqP,rs,i_f];exact main q.symm N nilS [] w4 hle (ahB N) b.tail.tail
|some f=>
  rw[hg] at r b c;dsimp only at r;rw[apY] at b c;simp only[aqY,i_t];rw[ob_v b 0 rfl];refine JX _ c.oneK c.oneC b λnb w5 b=>?_;rw[fP,ob_k b 1 rfl];simp only[rs];by_cases Y:f.k=6
  ·rw[amB Y] at r
   injection r with s q
   subst s;simp only[Y,amD,i_t];rw[oQ,fD b 1 rfl];obtain⟨cs,p⟩:=Km c;exact main q.symm N xc cs w5 hle p b.tail.tail.tail
  rw[amA Y] at r;simp only[Y,amF,i_f];rw[fP,ob_k b 1 rfl];simp only[rs];refine nT (λh=>?_) (λh=>?_)
  ·rw[amB (amU h)] at r
   injection r with s q
   subst s;obtain⟨z,B,b2,b4,b⟩:=Vx b 2 rfl c;exact main q.symm z _ _ w5 (hle.trans B) ⟨b2,b4⟩ b.tail.tail
  ·rw[amA (anO h)] at r
   injection r with s q
   rw[amB (by rw[<-q];decide)] at m;exact fail m.symm dc hle b.tail.tail.tail
end
end
namespace Eng
theorem yP {f:FuncId}{o c:Oper}{rest:Code}{args:List aq}{n d2:Nat}{J:List (Nat×List Nat)}{rs:List ResultVar}
  (L:P.funcs[f]?=ax fn) (M:fn.body=ax (.seq (.region id #[o,c] au) rest)) (N:o.op=.call { callee:=.builtin .recover,args:=#[],argTypes:=#[] }) (O:o.guard=aw) (I:o.dst=ax d) (C:Nat.blt d n=av)
  (D:c.op=.assign (.tmp d)) (E:c.guard=aw) (q:c.dst=ax d2) (r:Nat.blt d2 n=av)
  (Q:fn.ntmps=n) (F:fn.results.toList=rs) (S:Nat.ble args.length n=av)
  (h:wpX P n aj J aw rest (topD P rs (λe w'=>R e (recM u) w')) (upd (upd (kO args) d (recV u)) d2 (recV u)) [] w):CallsD P f args.toArray u w R:=by
 refine callsD_of_wpS L M λp cs hu=>?_;rw[Q];refine wpS_seq (wpS_region ?_);have hex:∀ρ:Operand->aq,(execOp ρ o).run P w=.ok .recover w:=by
  intro ρ;unfold execOp;rw[N];simp[resolve,invoke,builtin,bind,pure,Sem.bind,Sem.run]
 have s:=B7 (args:=args) S;have b:Rep n (upd (kO args) d (recV u)) (({ tmps:=args.toArray++Array.replicate (n - args.toArray.size) undef,defers:=[] }:Act).put o.dst (recV u)).tmps:=by
  rw[I];exact Rep.put (a:={ tmps:=args.toArray++Array.replicate (n - args.toArray.size) undef,defers:=[] }) s (d:=ax d) C (recV u)
 have g:(({ tmps:=args.toArray++Array.replicate (n - args.toArray.size) undef,defers:=[] }:Act).put o.dst (recV u)).defers=[]:=by rw[I];rfl
 obtain⟨B,i⟩:∃A,A=({ tmps:=args.toArray++Array.replicate (n - args.toArray.size) undef,defers:=[] }:Act).put o.dst (recV u):=⟨_,rfl⟩;rw[<-i] at b g;have t:(execOp B.eval c).run P w=.ok (.value (recV u)) w:=by
  rw[Rep.eval b];unfold execOp;rw[D];simp[rd,upd,pure,Sem.run]
 have key:wpOpsS P #[o,c] (Exit.thenS (rest.wpS P (bodyPostS P fn p cs R)) (bodyPostS P fn p cs R)) [1] B ({ p with mode:=recM u }::cs) w:=by
  unfold wpOpsS;simp only[auH,anM,aqU];rw[amB (by simp[Region.wanted,E]),t];simp only[Oper.upon];have j:Rep n (upd (upd (kO args) d (recV u)) d2 (recV u)) (B.put c.dst (recV u)).tmps:=by
   rw[q];exact Rep.put b (d:=ax d2) r (recV u)
  have k:(B.put c.dst (recV u)).defers=[]:=by rw[q];exact g
  refine wpS_of_wp (Code.wp_mono ?_ (wpIn_wide.1 (CX rest aw _ _ _ w j (by rw[k];exact h))));rintro e a w' ⟨σ,T,l⟩;have y:∀K:Ending->ao->Prop,RetD P (rvOf σ rs) w' K->∃v,(results fn a.tmps).run P w'=.ok v w'∧K (.returned v) w':=λK l=>by
   rw[Ab T,F];exact F3 l
  generalize m:a.defers=ds at l;cases e<;>cases ds<;>first|(exact l.elim;done)|skip
  ·obtain⟨v,G,H⟩:=y (λe w'=>R e (recM u) w') l;exact⟨m,recM u,rfl,v,G,H⟩
  ·obtain⟨v,G,H⟩:=y (λe w'=>R e (recM u) w') l;exact⟨m,recM u,rfl,v,G,H⟩
  ·exact⟨m,recM u,rfl,l⟩
 have e:=rec_eq p cs;rw[hu] at e;show wpOpsS P #[o,c] _ [0,1] _ (p::cs) w;unfold wpOpsS;simp only[auH,aqU];rw[amB (by simp[Region.wanted,O])];rw[hex];cases z:recoverD (p::cs) with
|none=>
  rw[z] at e;simp only[aqG] at e;simp only;rw[e.1,e.2,<-i];exact key
|some x=>
  obtain⟨v,U⟩:=x;rw[z] at e;simp only[aqG] at e;simp only;rw[e.1,e.2,<-i];exact key
end Eng
section
open Eng
def dN(w)(K:KT):=
 K (.returned (.tuple #[])) w
def sO(c a b d w)(K:KT):=
 DrawX w (λw=>(fax 107 d 0 w K λe w=>(ldx 30 e w K λf w=>stx 22 c (.slice aw 0 0) w K λ_ w=>stx 40 a (.slice aw 0 0) w K λ_ w=>stx 30 b f w K λ_ w=>dN w K)∧(stx 22 c (.slice aw 0 0) w K λ_ w=>(ldx 30 e w K λh w=>stx 40 a (.slice aw 0 0) w K λ_ w=>stx 30 b h w K λ_ w=>dN w K)∧(stx 40 a (.slice aw 0 0) w K λ_ w=>ldx 30 e w K λi w=>stx 30 b i w K λ_ w=>dN w K)))∧(stx 22 c (.slice aw 0 0) w K λ_ w=>(fax 107 d 0 w K λg w=>(ldx 30 g w K λj w=>stx 40 a (.slice aw 0 0) w K λ_ w=>stx 30 b j w K λ_ w=>dN w K)∧(stx 40 a (.slice aw 0 0) w K λ_ w=>ldx 30 g w K λk w=>stx 30 b k w K λ_ w=>dN w K))∧(stx 40 a (.slice aw 0 0) w K λ_ w=>fax 107 d 0 w K λl w=>ldx 30 l w K λm w=>stx 30 b m w K λ_ w=>dN w K)))
def gH(c d e r w)(K:KT):=
 eqx .neq 20 (.tmp 7) (.const .nilIface) r .nilIface w K λf w=>IfX f (dx (mTA r 20 107 av) w K λa w=>exx a 0 w K λg w=>exx a 1 w K λh w=>alx 107 w K λb w=>stx 107 b g w K λ_ w=>JoinX (λj=>dx (mUn .not h) w K λi w=>IfX i (dx (EE r) w K λ_ w=>j [] w) (j [] w)) (λk w=>∀_:Sg,sO c d e b w K)) (K (.returned (.tuple #[])) w)
theorem CR (t0 t1 t2 r:aq)(w:ao)(K:Ending->ao->Prop):wpX ah 19 [(5,[])] [] aw (XE (A2 f77)) (topD ah [] K) (upd (upd (kO [t0,t1,t2]) 6 r) 3 r) [] w=gH t0 t1 t2 r w K:=krx
theorem iX {t1 t2:aq}(h:gH t0 t1 t2 (recV u) w (λe w=>R e (recM u) w)):CallsD ah 77 #[t0,t1,t2] u w R:=
 yP func77 rfl rfl rfl rfl rfl rfl rfl rfl rfl rfl rfl rfl (Eq.mpr (CR t0 t1 t2 (recV u) w _) h)
end
section
open Eng Go.RowKit
namespace Ff
def names (o:Ob):List (List UInt8)×Int:=
 if (filt o).any (λx=>ai (x.k≠5))=av then ([],10)
 else if 8 < (filt o).length then ([],6)
 else if (filt o).any (λx=>ai (full x.s=[]))=av then ([],15)
 else ((filt o).map (λx=>full x.s),0)
def of (o:Ob):List (List UInt8)×List Pm×Int:=
 if o.k≠9 then ([],[],10)
 else if (names o).2≠0 then ([],[],(names o).2)
 else if (tV o (names o).1.length).2≠0 then ([],[],(tV o (names o).1.length).2)
 else if (tV o (names o).1.length).1.any (λx=>!decide x.ok)=av then ([],[],1)
 else ((names o).1,(tV o (names o).1.length).1,0)
theorem LF {o:Ob}{n:Nat}(h:(tV o n).2=0):(tV o n).1.length=n:=by
 unfold tV at h ⊢;by_cases a:(tN o).2≠0
 ·rw[amB a] at h;cases h
 rw[amA a] at h ⊢;by_cases b:(tN o).1.any (λx=>ai ((parm x).2≠0))=av
 ·rw[amB b] at h;cases h
 rw[amA b] at h ⊢;by_cases c:n < (tN o).1.length
 ·rw[amB c] at h;cases h
 rw[amA c] at h ⊢;by_cases d:(tN o).1.any (λx=>!eight x)=av
 ·rw[amB d] at h;cases h
 rw[amA d];simp only[amC,anP,anU];omega
theorem SZ {o:Ob}:(names o).1.length<=8:=by
 unfold names
 repeat' split
 all_goals first|exact anG _|(simp only[anP];omega)
end Ff
theorem Hq:cN ah 77=true:=krx
theorem V6:eD ah 40=true:=krx
theorem adO:fOff ah 107 0=ax 0:=krx
theorem aiT:(Tryz.prog.info? 107).map (·.size)=ax 1:=krx
abbrev ofC (a b2 b3 b:Nat)(o:Ob)(vk vc vn vp:aq)(e:Int):List Ent:=[.cells b [.int .i64 e] 30,.cells b3 [vp] 40,.cells b2 [vn] 22,obE a o vk vc]
theorem VB (o:Ob)(v:aq)(M:Mem)(w:ao)(hw:o.wt<=1000000000)(hM:M.has w)(hv:OV M.A M.w v o) :
  RetM ah 28 #[v] M w (λr N=>∃vn vp,r=.tuple #[vn,vp,.int .i64 (Ff.of o).2.2]∧SlA N.A N.w vn 1 (Ff.of o).1.length (bS (Ff.of o).1)∧SlA N.A N.w vp 3 (Ff.of o).2.1.length ((Ff.of o).2.1.flatMap pmC)):=by
 obtain⟨vk,vc,b9,rfl,ha⟩:=hv.open;refine bB hM λK hK=>II ?_;generalize f:Ff.of o=X at hK;unfold Ff.of at f;unfold HP iN dx alx;refine iE o ha.keys.one ha.kids.one (OwnS.memS hM) λz w1 c=>?_;refine bA (λb=>.pointer (ax ⟨b,0,aw⟩)) [nilS] 22 (λ_=>by kernel_rfl) c λb2 w2 c=>?_;refine bA (λb=>.pointer (ax ⟨b,0,aw⟩)) [nilS] 40 (λ_=>by kernel_rfl) c λb3 w3 c=>?_;refine bA (λb=>.pointer (ax ⟨b,0,aw⟩)) [.int .i64 0] 30 (λ_=>by kernel_rfl) c λg w4 c=>?_;have c:OwnS M.A w w4 (ofC z b2 b3 g o vk vc nilS nilS 0++([.mem M]++[])):=c;have c:=c.front;have c:OwnS M.A w w4 (.mem M::ofC z b2 b3 g o vk vc nilS nilS 0):=c;rw[qB];refine⟨_,rfl,?_⟩
 -- c0 end with an error
 have q:∀{W:ao} {N:Mem} {e:Int} {R:List Ent},OwnS M.A w W (.mem N::(ofC z b2 b3 g o vk vc nilS nilS e++R))->M.le N->X=([],[],e) ->
   RetX ah [.cell (.pointer (ax ⟨b2,0,aw⟩)) 22,.cell (.pointer (ax ⟨b3,0,aw⟩)) 40,.cell (.pointer (ax ⟨g,0,aw⟩)) 30] W K:=by
  intro W N e R c hle d;refine Qt (bJ (AtV.cell Q9 (c.cell 3 rfl 0 rfl))) (bJ (AtV.cell V6 (c.cell 2 rfl 0 rfl))) (bJ (AtV.cell GP (c.cell 1 rfl 0 rfl))) (hK _ _ N _ 0 c rfl hle ⟨nilS,nilS,by rw[d],by rw[d];exact SlA.nil _ _ _ _,by rw[d];exact SlA.nil _ _ _ _⟩)
 have fail:∀{W:ao} {N:Mem} {e:Int} {vn vp:aq},OwnS M.A w W (.mem N::ofC z b2 b3 g o vk vc vn vp 0)->M.le N->X=([],[],e) ->
   aC { target:=.fn (.func 77) #[.pointer (ax ⟨b2,0,aw⟩),.pointer (ax ⟨b3,0,aw⟩),.pointer (ax ⟨g,0,aw⟩)],args:=#[]++#[] } (.pointer (ax ⟨b2,0,aw⟩)) (.pointer (ax ⟨b3,0,aw⟩)) (.pointer (ax ⟨g,0,aw⟩)) K [upF e] W:=by
  intro W N e vn vp c hle d;show pd ah _ K _ [upF e] W;unfold pd;refine nR sm Hq (iX (t0:=.pointer (ax ⟨b2,0,aw⟩)) (t1:=.pointer (ax ⟨b3,0,aw⟩)) (t2:=.pointer (ax ⟨g,0,aw⟩)) ?_);simp only[gH,recV,recM,upF,Eng.YQ aqZ,rs,XF adE,ex,i_t,i_f,dx,exx,stx,eqx,alx];refine bA (λb=>.pointer (ax ⟨b,0,aw⟩)) [.int .i64 0] 107 (λ_=>by kernel_rfl) c λb7 w5 c=>?_;refine gX 0 c rfl (new:=[.int .i64 e]) aiT (λu hu=>by rw[anB.1 hu];rfl) rfl λT c=>?_;have c:OwnS M.A w T (.cells b7 [.int .i64 e] 107::.mem N::ofC z b2 b3 g o vk vc vn vp 0):=c;refine join λJ hJ=>?_
  try simp only[aoB,i_f]
  refine hJ _ _ λ_=>?_;unfold sO ldx fax stx;refine⟨?_⟩;have c:=c.drew
  repeat' first
  |apply And.intro
  |refine aD (bE adO) |>.mpr ?_
  |refine aD (aB GP (c.cell 0 rfl 0 rfl)) |>.mpr ?_
  |refine aK 4 c rfl krx rfl sm (λ_ c=>?_)
  |refine aK 3 c rfl krx rfl sm (λ_ c=>?_)
  |refine aK 2 c rfl krx rfl sm (λ_ c=>?_)
  all_goals
   unfold dN;exact q (R:=[]) c.tail hle d
 rw[fP,ob_k c 4 rfl];simp only[rs];refine nT (λV=>?_) (λV=>?_)
 rotate_left
 ·rw[amB (anO V)] at f;exact fail c M.le_refl f.symm
 have V:=amU V;rw[amA (λh=>h V)] at f;rw[ob_v c 4 rfl];have c1:=Ff.Ql hw;have c2:Ff.names o=Ff.names o:=rfl;generalize n:Ff.names o=Nn at f;unfold Ff.names at n;refine Vk c hw hv (λh5 vl N w5 D E c=>?_) (λh5 N w5 D c=>?_)
 rotate_left
 ·have:(Ff.filt o).any (λx=>ai (x.k≠5))=true:=by
   refine aqA.2 (Classical.byContradiction λhc=>h5 λx d=>Classical.byContradiction λh=>hc ⟨x,d,amG h⟩)
  rw[amB this] at n;rw[<-n,amB dc] at f;exact fail c D f.symm
 rw[amA (λh=>by
  obtain⟨x,d,h⟩:=aqA.1 h;exact (amU h) (h5 x d))] at n
 have hlen:∀{W:ao} {PK:PKT} {K:VWP},DoX ah (mB .len #[22] 3 #[au] #[vl]) W PK K=K (.int .i64 (((Ff.filt o).map Ob.s).length:Int)) W:=λ{_ _ _}=>by
  obtain⟨a,cap,rfl,_⟩:=E.form;exact bQ amV
 rw[hlen];simp only[rs];refine nT (λC=>?_) (λC=>?_)
 rotate_left
 ·have C:=anO C;rw[anP] at C;rw[amB om] at n;rw[<-n,amB dc] at f;exact fail c D f.symm
 have C:=amU C;rw[amA (by rw[anP] at C;omega)] at n;rw[hlen];generalize Y:(Ff.filt o).map Ob.s=l at E hlen C;have Z:∀{p:List UInt8->Bool},(Ff.filt o).any (λx=>p x.s)=l.any p:=λ{p}=>by rw[<-Y,List.any_map];rfl
 have a1:(Ff.filt o).map (λx=>Ff.full x.s)=l.map Ff.full:=by rw[<-Y,asA];rfl
 rw[Z (p:=λx=>ai (Ff.full x=[])),a1] at n;have c:=OwnS.nilU c 9 1;refine loop (λvs W=>∃(i:Nat) (ov:aq),vs=[.int .i64 (i:Int)]∧i<=l.length∧(∀x∈l.take i,Ff.full x≠[])∧OwnS M.A w W (stsE ov ((l.take i).map Ff.full)::.mem N::ofC z b2 b3 g o vk vc ov nilS 0)) (λvs _=>l.length - n0 vs) ⟨0,nilS,rfl,om,sm,c⟩ ?_;clear c;rintro vs T ⟨i,ov,rfl,hi,hf,c⟩ _;simp only[B4,gd,rs,iN];by_cases t:(i:Int) < (l.length:Int)
 ·simp only[t,amD,i_t];have j:i < l.length:=om
  obtain⟨p,F,G⟩:=LC E j;rw[aD (F T),aD (G T (c.hasM 1 rfl))];refine c_eq (Hs l[i] T) ?_;simp only[ex];refine nT (λh=>?_) (λh=>?_)
  rotate_left
  ·have h:=Decidable.not_not.1 (anO h);rw[amB (aqA.2 ⟨_,amR j,amG h⟩)] at n;rw[<-n,amB dc] at f;exact fail c.tail D f.symm
  have h:Ff.full l[i]≠[]:=amU h;rw[aJ Q9 (c.cell 4 rfl 0 rfl)];refine U5 _ c (by rw[anP,amL];omega) λa6 W2 c=>?_;have H:a6.oneCell'=true:=lJ (Sl.urow (c.at_ 0 rfl));refine aK 4 c rfl krx H sm λw7 c=>?_
  try simp only[rs]
  rw[aA om om];refine⟨rfl,?_⟩;refine aY ⟨i+1,a6,rfl,om,?_,?_⟩ (by simp[n0,RowKit.intOf];omega)
  ·rw[anH j];intro x d;rcases anF.1 d with d|d
   ·exact hf x d
   ·rw[anB.1 d];exact h
  ·rw[anH j,anN];exact c
 simp only[t,amF,i_f];have:i=l.length:=om
 subst this;rw[aoA] at hf c;rw[amA (λh=>by
  obtain⟨x,d,h⟩:=aqA.1 h;exact hf x d (amU h))] at n
 subst n;dsimp only at f;rw[amA dc] at f;generalize a7:l.map Ff.full=ns at f c;have b6:ns.length=l.length:=by rw[<-a7,anP]
 have b8:∀x∈ns,x≠[]:=by
  rw[<-a7];intro x d;obtain⟨y,I,rfl⟩:=anK.1 d;exact hf y I
 rw[ob_v c 5 rfl];rw[hlen,<-b6];obtain⟨N2,l2,m,c⟩:=c.bI 0 rfl;have c:OwnS M.A w T (.mem N2::ofC z b2 b3 g o vk vc ov nilS 0):=c;have L:=@Ff.LF o ns.length;generalize hP:Ff.tV o ns.length=P at f L;refine Xa (many:=ns.length) c hw om ((hv.le D).le l2) (λU vp N3 w7 l3 B c=>?_) (λU N3 w7 l3 c=>?_)
 rotate_left
 ·rw[hP] at U ⊢;rw[amB U] at f;exact fail c ((D.trans l2).trans l3) f.symm
 rw[hP] at U B;have L:=L U;rw[amA (λh=>h U)] at f;have a8:vp.oneCell'=true:=B.one;refine aK 2 c rfl krx a8 sm λw8 c=>?_;have c:OwnS M.A w w8 (.mem N3::ofC z b2 b3 g o vk vc ov vp 0):=c;rw[aJ Q9 (c.cell 3 rfl 0 rfl)];have hle:=(D.trans l2).trans l3;have m:=m.le l3;have O:∀{W:ao} {PK:PKT} {K:VWP},DoX ah (mB .len #[22] 3 #[au] #[ov]) W PK K=K (.int .i64 (ns.length:Int)) W:=λ{_ _ _}=>by
  obtain⟨a,cap,rfl,_⟩:=m.form;exact bQ amV
 rw[O];refine loop (λvs W=>∃i:Nat,vs=[.int .i64 (i:Int)]∧i<=ns.length∧(∀x∈P.1.take i,x.ok)∧OwnS M.A w W (.mem N3::ofC z b2 b3 g o vk vc ov vp 0)) (λvs _=>ns.length - n0 vs) ⟨0,rfl,om,sm,c⟩ ?_;clear c;rintro vs w9 ⟨i,rfl,hi,Q,c⟩ _;simp only[Dg,gd,rs,iN,etx];by_cases t:(i:Int) < (ns.length:Int)
 ·simp only[t,amD,i_t];have j:i < ns.length:=om
  have S:i < P.1.length:=om
  obtain⟨p,F,G⟩:=LC m j;rw[aD (F w9),aD (G w9 (c.hasM 0 rfl)),aJ V6 (c.cell 2 rfl 0 rfl)];obtain⟨p2,b0,b5⟩:=pmAt B S;rw[aD (b0 w9),aD (b5 w9 (c.hasM 0 rfl))];refine aL c (Jv P.1[i] w9) ?_;rintro _ c3 rfl c;simp only[eN];by_cases d:P.1[i].ok
  ·rw[amB d];simp only[show ai ((0:Int)≠0)=au from rfl,rs,i_f];rw[aA om om];refine⟨rfl,?_⟩;refine aY ⟨i+1,rfl,om,?_,c⟩ (by simp[n0,RowKit.intOf];omega);rw[anH S];intro y I;rcases anF.1 I with I|I
   ·exact Q y I
   ·rw[anB.1 I];exact d
  ·rw[amA d];rw[amB (aqA.2 ⟨_,amR S,by simp[d]⟩)] at f;have hn:=b8 _ (amR j);simp only[show ai ((1:Int)≠0)=av from rfl,rs]
   try simp only[rs]
   rw[amG hn]
   try simp only[rs]
   try rw[i_t]
   refine aK 3 c rfl krx rfl sm λc4 c=>?_;refine aK 2 c rfl krx rfl sm λc5 c=>?_;refine aK 1 c rfl krx rfl sm λc6 c=>?_;refine nR sm Hq (iX (t0:=.pointer (ax ⟨b2,0,aw⟩)) (t1:=.pointer (ax ⟨b3,0,aw⟩)) (t2:=.pointer (ax ⟨g,0,aw⟩)) ?_);simp only[gH,recV,recM,Eng.ZN aqZ,i_f,dx,exx,stx,eqx,alx];exact q (R:=[]) c hle f.symm
 simp only[t,amF,i_f];have:i=ns.length:=om
 subst this;rw[anJ om] at Q;rw[amA (λh=>by
  obtain⟨x,d,h⟩:=aqA.1 h;have:=Q x d;simp[this] at h)] at f
 have fin:∀{W:ao},OwnS M.A w W (.mem N3::ofC z b2 b3 g o vk vc ov vp 0) ->
   jV (.pointer (ax ⟨b2,0,aw⟩)) (.pointer (ax ⟨b3,0,aw⟩)) (.pointer (ax ⟨g,0,aw⟩)) { target:=.fn (.func 77) #[.pointer (ax ⟨b2,0,aw⟩),.pointer (ax ⟨b3,0,aw⟩),.pointer (ax ⟨g,0,aw⟩)],args:=#[]++#[] } W K:=by
  intro W c;unfold jV;refine nR sm Hq (iX (t0:=.pointer (ax ⟨b2,0,aw⟩)) (t1:=.pointer (ax ⟨b3,0,aw⟩)) (t2:=.pointer (ax ⟨g,0,aw⟩)) ?_);simp only[gH,recV,recM,Eng.ZN aqZ,i_f,dx,exx,stx,eqx,alx];refine Qt (bJ (AtV.cell Q9 (c.cell 3 rfl 0 rfl))) (bJ (AtV.cell V6 (c.cell 2 rfl 0 rfl))) (bJ (AtV.cell GP (c.cell 1 rfl 0 rfl))) ?_;exact hK _ _ N3 _ 0 c rfl hle ⟨ov,vp,by rw[<-f],by rw[<-f];exact m,by rw[<-f];exact B⟩
 have H:ov.oneCell'=true:=m.one;refine⟨?_⟩;have c:=c.drew
 repeat' first
 |exact fin c
 |apply And.intro
 |refine aD (aB Q9 (c.cell 3 rfl 0 rfl)) |>.mpr ?_
 |refine aD (aB V6 (c.cell 2 rfl 0 rfl)) |>.mpr ?_
 |refine aK 3 c rfl krx H sm (λ_ c=>?_)
 |refine aK 2 c rfl krx a8 sm (λ_ c=>?_)
 |refine aK 1 c rfl krx rfl sm (λ_ c=>?_)
end
end Go.Proofs.YtlipjfcbjemicaaGreatDoor

namespace Go.Proofs.YtlipjfcbjemicaaGreatDoor
variable{B Sy cl counts l near:List Nat}{K:VWP}{M:Eng.Mem}{P:Program}{PK PK2:PKT}{R:Ending->FrameMode->ao->Prop}{W w:ao}{a colors:Int}{above:List UInt8}{aj:List (Nat×List Nat)}{b cap d i id j m most p t:Nat}{cb:Array Bool}{cs:List aq}{fn:Func}{o:Ob}{os:List Ob}{t0 v vc vk:aq}{u:FrameMode}{t0 t1 t2 t3:aq}{k0:Eng.KT}
section
open Go
def dj (tag:Int)(above row:List UInt8)(colors:Int):List UInt8:=(List.range row.length).map λi=>row.getD i 0 - ec tag above row (i:Int) colors
theorem iy {tag:Int}{row:List UInt8}:(dj tag above row colors).length=row.length:=by simp[dj]
theorem se {tag:Int}{row:List UInt8}(h:i < row.length):(dj tag above row colors)[i]?=ax (row[i] - ec tag above row (i:Int) colors):=by
 simp[dj,h,amI]
theorem sf {tag:Int}{above row:List UInt8}{colors:Int}(a:1<=colors):∀(k i:Nat),row.length=i+k->dv tag above colors (row.take i) ((dj tag above row colors).drop i)=row
|0,i,h=>by
  rw[asH (by rw[iy];omega),anJ om];rfl
|k+1,i,h=>by
  have hi:i < row.length:=om
  have b:(row.take i).length=i:=by rw[amL];omega
  have e:(dj tag above row colors).drop i=(row[i] - ec tag above row (i:Int) colors)::(dj tag above row colors).drop (i+1):=by
   rw[anX (by rw[iy];exact hi)]
   congr 1
   have:=se (tag:=tag) (above:=above) (colors:=colors) hi;rw[amN (by rw[iy];exact hi)] at this;exact apF this
  have c:ec tag above row (i:Int) colors=ec tag above (row.take i) (i:Int) colors:=by
   have:=ry (tag:=tag) (above:=above) (p:=row.take i) (r:=row.drop i) (colors:=colors) a;rw[anR,b] at this;exact this
  rw[e,dv,b,c];have d:row[i] - ec tag above (row.take i) (i:Int) colors+ec tag above (row.take i) (i:Int) colors=row[i]:=UInt8.sub_add_cancel _ _;rw[d,<-anH hi];exact sf a k (i+1) om
def ff (T:List UInt8->List UInt8->Nat)(c:Int)(n h:Nat):Nat->List UInt8->List UInt8->List UInt8
|0,_,_=>[]
|f+1,s,prev=>if s=[] then [] else (if h=1 then [UInt8.ofNat (T prev (s.take n))] else [])++(dj (T prev (s.take n):Nat) prev (s.take n) c++ff T c n h f (s.drop n) (s.take n))
theorem qa {T:List UInt8->List UInt8->Nat}{c:Int}{n h:Nat}(g:0 < n)(d:h=0∨h=1):∀(k f:Nat) (s prev:List UInt8),s.length=k*n->s.length < f->(ff T c n h f s prev).length=k*(n+h)
|_,0,_,_,_,i=>by omega
|0,f+1,s,prev,a,_=>by
  have:s=[]:=apZ.1 om;unfold ff;rw[amB this];simp
|k+1,f+1,s,prev,a,i=>by
  rw[aoM] at a;have b:s≠[]:=λe=>by rw[e] at a;simp at a;omega
  have lt:(s.take n).length=n:=by rw[amL];omega
  have j:(s.drop n).length=s.length - n:=amQ;unfold ff;rw[amA b,amC,amC,iy,lt,qa g d k f (s.drop n) (s.take n) om om,aoM];rcases d with rfl|rfl
  ·rw[amA dc];simp;omega
  ·rw[amB rfl];simp;omega
theorem si {T:List UInt8->List UInt8->Nat}{c:Int}{n h:Nat}(o:1<=c)(u:0 < n)(p:h=0∨h=1)(q:∀a b,T a b<=4)(i:h=0->∀a b,T a b=1) :
  ∀(k f g:Nat) (s prev out:List UInt8),s.length=k*n->s.length < f->k < g->jz c n h g (ff T c n h f s prev) prev out=(out++s,0)
|_,0,_,_,_,_,_,v,_=>by omega
|_,_,0,_,_,_,_,_,w=>by omega
|0,f+1,g+1,s,prev,out,j,_,_=>by
  have:s=[]:=apZ.1 om;unfold ff;rw[amB this,this];unfold jz;rw[amB (show ([]:List UInt8).length=0 from rfl),amY]
|k+1,f+1,g+1,s,prev,out,j,v,w=>by
  rw[aoM] at j;have l:s≠[]:=λe=>by rw[e] at j;simp at j;omega
  have x:s.take n++s.drop n=s:=anR ..
  have lt:(s.take n).length=n:=by rw[amL];omega
  have B:(s.drop n).length=s.length - n:=amQ;unfold ff;rw[amA l];have r:=si o u p q i k f g (s.drop n) (s.take n) (out++s.take n) om om om;rw[amM,x] at r;rw[<-r];have hle:(dj (T prev (s.take n):Nat) prev (s.take n) c).length=n:=by rw[iy,lt]
  have d:=sf (tag:=(T prev (s.take n):Nat)) (above:=prev) (row:=s.take n) o n 0 om;rw[apX,aoT] at d
  conv=>lhs;unfold jz
  have C:=q prev (s.take n);rcases p with rfl|rfl
  ·have y:=i rfl prev (s.take n);rw[y] at d hle ⊢;have m:(if (0:Nat)=1 then [UInt8.ofNat 1] else [])++(dj ((1:Nat):Int) prev (s.take n) c++ff T c n 0 f (s.drop n) (s.take n))=dj ((1:Nat):Int) prev (s.take n) c++ff T c n 0 f (s.drop n) (s.take n):=rfl;rw[m,amA (by rw[amC];omega)];dsimp only;rw[amA (show ¬(0:Nat)=1 by decide),amA dc,aoT,aoC,aoG hle,asP hle];have z:dv ((1:Nat):Int) prev c [] (dj ((1:Nat):Int) prev (s.take n) c)=s.take n:=d;rw[z]
  ·rw[amB rfl];have m:([UInt8.ofNat (T prev (s.take n))]++(dj (T prev (s.take n):Nat) prev (s.take n) c++ff T c n 1 f (s.drop n) (s.take n))).getD 0 0=UInt8.ofNat (T prev (s.take n)):=rfl;have A:(UInt8.ofNat (T prev (s.take n))).toNat=T prev (s.take n):=by rw[aqN,anZ om]
   have t:([UInt8.ofNat (T prev (s.take n))]++(dj (T prev (s.take n):Nat) prev (s.take n) c++ff T c n 1 f (s.drop n) (s.take n))).drop 1=dj (T prev (s.take n):Nat) prev (s.take n) c++ff T c n 1 f (s.drop n) (s.take n):=rfl;rw[amA (by rw[amC,aoI];omega)];dsimp only;rw[amB rfl,m,A,amA om,t,aoG hle,arX n 1,<-aqJ,t,asP hle,d]
def ep (l:List UInt8):Nat:=(l.map λc=>min c.toNat (256 - c.toNat)).sum
def iz (above row:List UInt8)(c:Int):Nat->Nat×Nat
|0=>(0,ep (dj 0 above row c))
|k+1=>if ep (dj ((k+1:Nat):Int) above row c) < (iz above row c k).2 then (k+1,ep (dj ((k+1:Nat):Int) above row c)) else iz above row c k
def oo (above row:List UInt8)(c:Int):Nat:=(iz above row c 4).1
theorem sj (above row:List UInt8)(c:Int):∀k,(iz above row c k).1<=k
|0=>amJ _
|k+1=>by
  have:=sj above row c k;unfold iz;split
  ·exact amJ _
  ·omega
def kx (p c:Int)(above row:List UInt8):Nat:=if p=2 then 1 else if p=15 then oo above row c else (p - 10).toNat
theorem xq {p:Int}(h:p=2∨(10<=p∧p<=15))(c:Int)(a b:List UInt8):kx p c a b<=4:=by
 unfold kx;split
 ·omega
 ·split
  ·exact sj a b c 4
  ·omega
end
section
open Go
def bo (l:List Nat)(i:Nat):Nat:=
 l.getD (8*i) 0+2*l.getD (8*i+1) 0+4*l.getD (8*i+2) 0+8*l.getD (8*i+3) 0+16*l.getD (8*i+4) 0+32*l.getD (8*i+5) 0+64*l.getD (8*i+6) 0+128*l.getD (8*i+7) 0
def az (l:List Nat):List UInt8:=(List.range ((l.length+7) / 8)).map λi=>UInt8.ofNat (bo l i)
def bf (v n:Nat):List Nat:=(List.range n).map λi=>v / 2 ^ i % 2
def bn (l:List Nat):Prop:=∀b∈l,b < 2
theorem bp (v n:Nat):(bf v n).length=n:=by simp[bf]
theorem dr (v n:Nat):bn (bf v n):=by
 intro b a;obtain⟨i,_,rfl⟩:=anK.1 a;exact apO _ dc
theorem gr (h:bn l)(i:Nat):l.getD i 0 < 2:=by
 rw[amI];cases a:l[i]? with
|none=>decide
|some b=>exact h b (apV a)
theorem xr (h:bn l)(i:Nat):bo l i < 256:=by
 unfold bo;have a:=gr h (8*i);have b:=gr h (8*i+1);have c:=gr h (8*i+2);have d:=gr h (8*i+3);have e:=gr h (8*i+4);have f:=gr h (8*i+5);have g:=gr h (8*i+6);have j:=gr h (8*i+7);omega
theorem ky (l:List Nat):(az l).length=(l.length+7) / 8:=by simp[az]
theorem zj (h:i < (l.length+7) / 8):(az l).getD i 0=UInt8.ofNat (bo l i):=by
 rw[amI];simp[az,h]
theorem xt (h:bn l)(i j:Nat)(a:j < 8):bo l i / 2 ^ j % 2=l.getD (8*i+j) 0:=by
 unfold bo;have b:=gr h (8*i);have c:=gr h (8*i+1);have d:=gr h (8*i+2);have e:=gr h (8*i+3);have f:=gr h (8*i+4);have g:=gr h (8*i+5);have k:=gr h (8*i+6);have m:=gr h (8*i+7);rcases (by omega:j=0∨j=1∨j=2∨j=3∨j=4∨j=5∨j=6∨j=7) with rfl|rfl|rfl|rfl|rfl|rfl|rfl|rfl<;>(try simp only[aoC])<;>omega
theorem qb (h:bn l)(p:Nat):Fl.bit (az l) p=l.getD p 0:=by
 unfold Fl.bit;by_cases hp:p / 8 < (l.length+7) / 8
 ·have a:=xr h (p / 8);rw[zj hp,aqN,anZ (show bo l (p / 8) < 2 ^ 8 from a),xt h _ _ (apO _ dc),show 8*(p / 8)+p % 8=p by omega]
 ·have b:(az l).getD (p / 8) 0=0:=by
   rw[amI,aoU (by rw[ky];omega)];rfl
  have c:l.getD p 0=0:=by
   rw[amI,aoU om];rfl
  rw[b,c];simp
theorem sn {l:List Nat}(h:bn l)(p v:Nat):∀n,(∀i,i < n->l.getD (p+i) 0=v / 2 ^ i % 2)->Fl.num (az l) p n=v % 2 ^ n
|0,_=>by rw[Fl.num,Nat.pow_zero,Nat.mod_one]
|n+1,a=>by
  rw[Fl.num,sn h p v n (λi hi=>a i om),qb h,a n om,Nat.mod_pow_succ,aoY]
theorem zl {a b:List Nat}{v n:Nat}(h:bn (a++bf v n++b))(c:v < 2 ^ n):Fl.num (az (a++bf v n++b)) a.length n=v:=by
 rw[sn h a.length v n,anZ c];intro i hi;rw[amI,amM,aoQ om,arQ,aoL (by rw[bp];exact hi)];simp[bf,hi]
theorem br {a b:List Nat}(c:bn a)(d:bn b):bn (a++b):=λx e=>(anF.1 e).elim (c x) (d x)
end
def ie (v n:Nat):List Nat:=(List.range n).map λi=>v / 2 ^ (n - 1 - i) % 2
theorem sq (v n:Nat):(ie v n).length=n:=by simp[ie]
theorem zm (v n:Nat):bn (ie v n):=by
 intro b a;obtain⟨i,_,rfl⟩:=anK.1 a;exact apO _ dc
def dh (lens:List Nat)(i:Nat):List Nat:=ie (cg lens i) (lens.getD i 0)
theorem ez (lens:List Nat)(i:Nat):(dh lens i).length=lens.getD i 0:=sq ..
theorem km (lens:List Nat)(i:Nat):bn (dh lens i):=zm _ _
theorem sr (lens:List Nat):∀l,l < 15->(Fl.first lens (l+1)+lens.count (l+1))*2 ^ (15 - (l+1))=Fl.gC lens (l+1)
|0,_=>by simp[Fl.first,Fl.gC]
|l+1,h=>by
  have a:=sr lens l om;rw[Fl.gC,<-a,Fl.first,aoW]
  congr 1
  rw[show 15 - (l+1)=(15 - (l+1+1))+1 by omega,aoN,aoY 2,arG,aoY 2]
theorem zn (lens:List Nat){a:Nat}(h:a<=b):Fl.gC lens a<=Fl.gC lens b:=by
 induction b with
|zero=>
  have:a=0:=om
  subst this;exact amJ _
|succ b c=>
  rcases anE a (b+1) with d|d
  ·have:=c om;rw[Fl.gC];omega
  ·have:a=b+1:=om
   subst this;exact amJ _
theorem sx (lens:List Nat):∀l,Fl.gC lens l<=Fl.bC lens l*2 ^ 15
|0=>by simp[Fl.gC]
|l+1=>by
  have a:=sx lens l;rw[Fl.gC,Fl.bC,aoW];have:lens.count (l+1)*2 ^ (15 - (l+1))<=lens.count (l+1)*2 ^ 15:=atV _ (aoH dc om);omega
theorem sy {lens:List Nat}(h:Fl.check lens=0):Fl.gC lens 15<=2 ^ 15:=by
 unfold Fl.check at h;split at h
 ·rename_i a
  have:=sx lens 15;rcases a with a|a|a
  ·omega
  ·rw[a] at this;omega
  ·rw[a.1] at this;omega
 ·cases h
theorem tg {lens:List Nat}(h:bh lens=0):Fl.check lens=0:=by
 unfold bh at h;split at h
 ·cases h
 ·exact h
theorem zo {lens:List Nat}(h:Fl.gC lens 15<=2 ^ 15){n:Nat}(d:0 < n)(a:n<=15):Fl.first lens n+lens.count n<=2 ^ n:=by
 obtain⟨l,rfl⟩:∃l,n=l+1:=⟨n - 1,om⟩;have b:=sr lens l om;have e:=zn lens a;have c:(Fl.first lens (l+1)+lens.count (l+1))*2 ^ (15 - (l+1))<=2 ^ (l+1)*2 ^ (15 - (l+1)):=by
  rw[b,<-Nat.pow_add,show l+1+(15 - (l+1))=15 by omega];omega
 exact Nat.le_of_mul_le_mul_right c (atF _)
theorem th (lens:List Nat)(l:Nat):∀k,(Fl.first lens (l+1)+lens.count (l+1))*2 ^ (k+1)<=Fl.first lens (l+1+(k+1))
|0=>by
  show _<=2*(Fl.first lens (l+1)+lens.count (l+1));omega
|k+1=>by
  have a:=th lens l k;rw[show l+1+(k+1+1)=(l+1+k)+2 by omega,Fl.first,aoN,<-arG];rw[show l+1+(k+1)=l+1+k+1 by omega] at a;omega
theorem ti {lens:List Nat}(hi:i < lens.length):(lens.take i).count (lens.getD i 0) < lens.count (lens.getD i 0):=by
 have h:lens=lens.take i++lens.drop i:=(anR i lens).symm;have a:lens.drop i=lens.getD i 0::lens.drop (i+1):=by
  rw[anX hi,amI,amN hi];rfl
 have e:lens.count (lens.getD i 0)=(lens.take i++lens.getD i 0::lens.drop (i+1)).count (lens.getD i 0):=by rw[<-a,<-h]
 rw[e,aqR,List.count_cons_self];omega
theorem zp {lens:List Nat}(hi:i < lens.length):(jy lens (lens.getD i 0)).getD ((lens.take i).count (lens.getD i 0)) 0=i:=by
 unfold jy;obtain⟨m,hm⟩:∃m,lens.length=i+(m+1):=⟨lens.length - i - 1,om⟩;have e:((List.range i).filter λj=>ai (lens.getD j 0=lens.getD i 0)).length=(lens.take i).count (lens.getD i 0):=by
  have h:=pj (lens.take i) (lens.getD i 0);rw[<-h];unfold jy;rw[amL,anL om]
  congr 1
  refine List.filter_congr λj a=>?_;rw[amI,amI (l:=lens.take i),apB,amB (aoE.1 a)]
 rw[hm,List.range_add,atS,amI,aoQ om,e,apD,List.range_succ_eq_map,anS,arU,aoC];simp
theorem tj {lens:List Nat}(h:Fl.gC lens 15<=2 ^ 15)(b:∀l∈lens,l<=15)(hi:0 < lens.getD i 0):cg lens i < 2 ^ lens.getD i 0:=by
 have a:i < lens.length:=by
  rcases anE i lens.length with h|h
  ·exact h
  ·rw[amI,aoU h] at hi;exact absurd hi (arB _)
 have hm:lens.getD i 0∈lens:=by rw[amI,amN a];exact amR ..
 unfold cg;rw[amA om];have c:=ti a;have d:=zo h hi (b _ hm);omega
theorem tm {a x b:List Nat}(hi:i < x.length):(a++x++b).getD (a.length+i) 0=x.getD i 0:=by
 rw[amI,amM,aoQ om,arQ,aoL hi,amI]
theorem tp {v n:Nat}(hi:i < n):(ie v n).getD i 0=v / 2 ^ (n - 1 - i) % 2:=by
 rw[amI];simp[ie,hi]
theorem tq (l:List Nat):l.length<=8*(az l).length:=by rw[ky];omega
theorem zq {lens:List Nat}(h:Fl.gC lens 15<=2 ^ 15)(p:∀l∈lens,l<=15)(hi:0 < lens.getD i 0){a b:List Nat}(n:bn (a++dh lens i++b)) :
  ∀(k l f:Nat),lens.getD i 0=l+(k+1)->k < f ->
   gy lens (az (a++dh lens i++b)) f l (a.length+l) (cg lens i / 2 ^ (k+1))=(i,a.length+lens.getD i 0,0):=by
 have m:i < lens.length:=by
  rcases anE i lens.length with h|h
  ·exact h
  ·rw[amI,aoU h] at hi;exact absurd hi (arB _)
 have hm:lens.getD i 0∈lens:=by rw[amI,amN m];exact amR ..
 have o:=p _ hm;have d:=ti m;have hlen:=tq (a++dh lens i++b);simp only[amC,ez] at hlen;intro k
 induction k with
|zero=>
  intro l f j s;obtain⟨f,rfl⟩:∃g,f=g+1:=⟨f - 1,om⟩;have hu:Fl.bC lens l < Fl.bC lens (l+1):=by rw[Fl.bC];rw[j,amO] at d;omega
  have q:=mf lens (a:=l+1) (b:=15) om;have e:Fl.bit (az (a++dh lens i++b)) (a.length+l)=cg lens i % 2:=by
   rw[qb n,tm (by rw[ez];omega)];unfold dh;rw[tp om,show lens.getD i 0 - 1 - l=0 by omega,Nat.pow_zero,Nat.div_one]
  have r:2*(cg lens i / 2 ^ (0+1))+cg lens i % 2=cg lens i:=by
   have:(2:Nat) ^ (0+1)=2:=rfl;rw[this];omega
  have c:cg lens i=Fl.first lens (l+1)+(lens.take i).count (l+1):=by
   unfold cg;rw[amA om,j]
  rw[j,amO] at d;unfold gy;rw[amA om,amA om,e,r,amB (by rw[c];omega),show cg lens i - Fl.first lens (l+1)=(lens.take i).count (l+1) by rw[c];omega,yx om d];have:=zp m;rw[j] at this;rw[this,j];rfl
|succ k t=>
  intro l f j s;obtain⟨f,rfl⟩:∃g,f=g+1:=⟨f - 1,om⟩;have hu:Fl.bC lens l < Fl.bC lens (lens.getD i 0):=by
   have:=mf lens (a:=l) (b:=l+(k+1)) om;rw[j] at d ⊢;rw[show l+(k+1+1)=(l+(k+1))+1 by omega] at d ⊢;rw[Fl.bC];omega
  have q:=mf lens (a:=lens.getD i 0) (b:=15) o;have e:Fl.bit (az (a++dh lens i++b)) (a.length+l)=cg lens i / 2 ^ (k+1) % 2:=by
   rw[qb n,tm (by rw[ez];omega)];unfold dh;rw[tp om,show lens.getD i 0 - 1 - l=k+1 by omega]
  have r:2*(cg lens i / 2 ^ (k+1+1))+cg lens i / 2 ^ (k+1) % 2=cg lens i / 2 ^ (k+1):=by
   rw[aoN 2 (k+1),<-apE];omega
  have u:=th lens l k;have c:Fl.first lens (l+1+(k+1))<=cg lens i:=by
   unfold cg;rw[amA om,j,show l+1+(k+1)=l+(k+1+1) by omega];omega
  have v:Fl.first lens (l+1)+lens.count (l+1)<=cg lens i / 2 ^ (k+1):=(Nat.le_div_iff_mul_le (atF _)).2 om
  unfold gy;rw[amA om,amA om,e,r,amA om];exact t (l+1) f om om
theorem zr {lens:List Nat}(h:bh lens=0)(c:∀l∈lens,l<=15)(hi:0 < lens.getD i 0){a b:List Nat}(d:bn (a++dh lens i++b)) :
  dk lens (az (a++dh lens i++b)) a.length=(i,a.length+lens.getD i 0,0):=by
 have e:=sy (tg h);have f:=tj e c hi;have hm:lens.getD i 0<=15:=by
  rcases anE i lens.length with h|h
  ·exact c _ (by rw[amI,amN h];exact amR ..)
  ·rw[amI,aoU h];exact anG _
 have:=zq e c hi d (lens.getD i 0 - 1) 0 16 om om;rw[show lens.getD i 0 - 1+1=lens.getD i 0 by omega,Nat.div_eq_of_lt f] at this;exact this
def ko (group:Nat):Nat->Nat->Nat->Nat->Nat×Nat×Nat
|0,n,sign,bits=>(sign+n / 2 ^ bits,n % 2 ^ bits,bits)
|f+1,n,sign,bits=>if group*2 ^ bits<=n then ko group f (n - group*2 ^ bits) (sign+group) (bits+1) else (sign+n / 2 ^ bits,n % 2 ^ bits,bits)
def ja (n a group:Nat):Nat×Nat×Nat:=if n < a then (n,0,0) else ko group 20 (n - a) a 1
def bu (size:Nat):Nat×Nat×Nat:=if size=258 then (285,0,0) else (257+(ja (size - 3) 8 4).1,(ja (size - 3) 8 4).2)
def di (d:Nat):Nat×Nat×Nat:=ja (d - 1) 4 2
def qu (n:Nat):Bool:=let r:=bu (n+3);ai (257<=r.1)&&ai (r.1<=285)&&ai (ey (r.1 - 257)=r.2.2)&&ai (iu (r.1 - 257)+r.2.1=n+3)&&ai (r.2.1 < 2 ^ r.2.2)&&ai (r.2.2<=5)
theorem lx {n:Nat}(j:3<=n)(h:n<=258):257<=(bu n).1∧(bu n).1<=285∧ey ((bu n).1 - 257)=(bu n).2.2∧iu ((bu n).1 - 257)+(bu n).2.1=n∧(bu n).2.1 < 2 ^ (bu n).2.2∧(bu n).2.2<=5:=by
 have i:(List.range 256).all qu=true:=by decide +kernel
 have g:=apA.1 i (n - 3) (aoE.2 om);unfold qu at g;rw[show n - 3+3=n by omega] at g;simp only[amX,anI] at g;obtain⟨⟨⟨⟨⟨a,b⟩,c⟩,d⟩,e⟩,f⟩:=g;exact⟨a,b,c,d,e,f⟩
theorem tu (n:Nat):∀(f k:Nat),2 ^ (k+1)<=n->n < 2 ^ (k+f+2) ->
  ∃m,k<=m∧2 ^ (m+1)<=n∧n < 2 ^ (m+2)∧ko 2 f (n - 2 ^ (k+1)) (2+2*k) k=(2+2*m+(n - 2 ^ (m+1)) / 2 ^ m,(n - 2 ^ (m+1)) % 2 ^ m,m)
|0,k,h,e=>⟨k,amJ _,h,e,rfl⟩
|f+1,k,h,e=>by
  have i:2 ^ (k+2)=2*2 ^ (k+1):=by rw[aoN];omega
  have j:2 ^ (k+1)=2*2 ^ k:=by rw[aoN];omega
  unfold ko;by_cases g:2*2 ^ k<=n - 2 ^ (k+1)
  ·rw[amB g];obtain⟨m,a,b,c,d⟩:=tu n f (k+1) (by rw[show k+1+1=k+2 by omega];omega) (by rw[show k+1+f+2=k+(f+1)+2 by omega];exact e);refine⟨m,om,b,c,?_⟩;rw[<-d,show n - 2 ^ (k+1) - 2*2 ^ k=n - 2 ^ (k+1+1) by rw[show k+1+1=k+2 by omega];omega,show 2+2*k+2=2+2*(k+1) by omega]
  ·rw[amA g];exact⟨k,amJ _,h,om,rfl⟩
def ou (m:Nat):Bool:=ai (ej (2+2*m)=1+2 ^ (m+1))&&ai (ej (2+2*m+1)=1+2 ^ (m+1)+2 ^ m)
theorem mi (s:1<=d)(h:d<=32768):(di d).1<=29∧dm (di d).1=(di d).2.2∧ej (di d).1+(di d).2.1=d∧(di d).2.1 < 2 ^ (di d).2.2∧(di d).2.2<=13:=by
 unfold di ja;by_cases k:d - 1 < 4
 ·rw[amB k];rcases (by omega:d=1∨d=2∨d=3∨d=4) with rfl|rfl|rfl|rfl<;>decide
 ·rw[amA k];obtain⟨m,a,b,c,e⟩:=tu (d - 1) 20 1 om (by have:(2:Nat) ^ (1+20+2)=8388608:=rfl;omega);have hm:m<=13:=by
   rcases anE m 14 with l|l
   ·omega
   ·have:=aoH (n:=2) dc (show 15<=m+1 by omega);have o:(2:Nat) ^ 15=32768:=rfl;omega
  have p:ko 2 20 (d - 1 - 4) 4 1=ko 2 20 (d - 1 - 2 ^ (1+1)) (2+2*1) 1:=rfl;rw[p,e];have t:2 ^ (m+1)=2*2 ^ m:=by rw[aoN];omega
  have u:2 ^ (m+2)=4*2 ^ m:=by rw[aoN,aoN];omega
  have pp:=atF m;have g:(List.range 14).all ou=true:=by decide +kernel
  have g:=apA.1 g m (aoE.2 om);unfold ou at g;rw[amX,anI,anI] at g;have i:=Nat.div_add_mod (d - 1 - 2 ^ (m+1)) (2 ^ m);have f:=apO (d - 1 - 2 ^ (m+1)) pp;have j:(d - 1 - 2 ^ (m+1)) / 2 ^ m < 2:=(Nat.div_lt_iff_lt_mul pp).2 om;generalize (d - 1 - 2 ^ (m+1)) / 2 ^ m=q at i j ⊢;generalize (d - 1 - 2 ^ (m+1)) % 2 ^ m=r at i f ⊢;rcases (by omega:q=0∨q=1) with rfl|rfl
  ·refine⟨by show 2+2*m+0<=29;omega,by show (2+2*m+0) / 2 - 1=m;omega,?_,f,hm⟩;show ej (2+2*m)+r=d;rw[g.1];omega
  ·refine⟨by show 2+2*m+1<=29;omega,by show (2+2*m+1) / 2 - 1=m;omega,?_,f,hm⟩;show ej (2+2*m+1)+r=d;rw[g.2];omega
def ew (l:List Nat)(p:Nat)(x:List Nat):Prop:=∃a b,l=a++x++b∧p=a.length
theorem ew.fst {x y:List Nat}(h:ew l p (x++y)):ew l p x:=by
 obtain⟨a,b,rfl,rfl⟩:=h;exact⟨a,y++b,by simp[amM],rfl⟩
theorem ew.snd {x y:List Nat}(h:ew l p (x++y)):ew l (p+x.length) y:=by
 obtain⟨a,b,rfl,rfl⟩:=h;exact⟨a++x,b,by simp[amM],sm⟩
theorem ew.le {x:List Nat}(h:ew l p x):p+x.length<=8*(az l).length:=by
 obtain⟨a,b,rfl,rfl⟩:=h;have:=tq (a++x++b);simp only[amC] at this;omega
theorem ew.num {l:List Nat}{p v n:Nat}(h:ew l p (bf v n))(c:bn l)(d:v < 2 ^ n):Fl.num (az l) p n=v:=by
 obtain⟨a,b,rfl,rfl⟩:=h;exact zl c d
theorem ew.sign {l:List Nat}{p i:Nat}{lens:List Nat}(h:ew l p (dh lens i))(c:bn l)(e:bh lens=0)(d:∀l∈lens,l<=15)(hi:0 < lens.getD i 0):dk lens (az l) p=(i,p+lens.getD i 0,0):=by
 obtain⟨a,b,rfl,rfl⟩:=h;exact zr e d hi c
abbrev bj:=UInt8×Nat×Nat
def fw (out:List UInt8)(x:bj):List UInt8:=if x.2.1=0 then out++[x.1] else gw x.2.2 x.2.1 out
def fg (out:List UInt8)(l:List bj):List UInt8:=l.foldl fw out
def fx (n:Nat)(x:bj):Prop:=if x.2.1=0 then x.2.2=0 else x.1=0∧3<=x.2.1∧x.2.1<=258∧1<=x.2.2∧x.2.2<=32768∧x.2.2<=n
def gu:Nat->List bj->Prop
|_,[]=>True
|n,x::l=>fx n x∧gu (n+max x.2.1 1) l
theorem ng {out:List UInt8}{x:bj}:(fw out x).length=out.length+max x.2.1 1:=by
 unfold fw;by_cases h:x.2.1=0
 ·rw[amB h,h];simp
 ·rw[amA h,ri];omega
theorem tw:∀(l:List bj) (out:List UInt8),out.length<=(fg out l).length
|[],out=>amJ _
|x::l,out=>by
  have:=tw l (fw out x);rw[ng] at this;show out.length<=(fg (fw out x) l).length;omega
def ei (near far:List Nat)(x:bj):List Nat:=
 if x.2.1=0 then dh near x.1.toNat
 else dh near (bu x.2.1).1++(bf (bu x.2.1).2.1 (bu x.2.1).2.2++(dh far (di x.2.2).1++bf (di x.2.2).2.1 (di x.2.2).2.2))
def ee (near far:List Nat)(x:bj):Prop:=
 if x.2.1=0 then 0 < near.getD x.1.toNat 0 else 0 < near.getD (bu x.2.1).1 0∧0 < far.getD (di x.2.2).1 0
def cy (near far:List Nat)(l:List bj):List Nat:=l.flatMap (ei near far)++dh near 256
theorem tx (near far:List Nat)(x:bj):bn (ei near far x):=by
 unfold ei;split
 ·exact km _ _
 ·exact br (km _ _) (br (dr _ _) (br (km _ _) (dr _ _)))
theorem tz (near far:List Nat)(l:List bj):bn (cy near far l):=by
 refine br (λb a=>?_) (km _ _);obtain⟨x,_,c⟩:=arR.1 a;exact tx near far x b c
theorem ua {near far:List Nat}(s:bh near=0)(w:bh far=0)(d:∀l∈near,l<=15)(h:∀l∈far,l<=15)(i:0 < near.getD 256 0){B:List Nat}(a:bn B){most:Nat} :
  ∀(l:List bj) (p:Nat) (out:List UInt8) (f:Nat),(∀x∈l,ee near far x)->gu out.length l->ew B p (cy near far l)->(fg out l).length<=most->l.length < f ->
   je near far (az B) most f p out=(fg out l,p+(cy near far l).length,0)
|[],p,out,f,_,_,b,hm,j=>by
  obtain⟨f,rfl⟩:∃g,f=g+1:=⟨f - 1,by simp at j;omega⟩;have b:ew B p (dh near 256):=b;unfold je;simp only[b.sign a s d i];rw[amA sm,amA om,amB trivial];show (out,_,_)=(out,p+(dh near 256).length,0);rw[ez]
|x::l,p,out,f,z,A,b,hm,j=>by
  obtain⟨f,rfl⟩:∃g,f=g+1:=⟨f - 1,by simp at j;omega⟩;have j:l.length < f:=by simp at j;omega
  have k:=z x (anQ ..);have e:cy near far (x::l)=ei near far x++cy near far l:=by
   unfold cy;rw[aoR,amM]
  rw[e] at b;have m:=b.fst;have u:=b.snd;have o:(fg (fw out x) l).length<=most:=hm;have v:=apG (tw l (fw out x)) o;have c:=A.1;have q:=A.2;rw[<-ng] at q;have n:=ua s w d h i a l (p+(ei near far x).length) (fw out x) f (λy C=>z y (anA _ C)) q u o j;have fin:fg (fw out x) l=fg out (x::l):=rfl;rw[fin] at n;rw[e,amC,<-aoS,<-n]
  conv=>lhs;unfold je
  unfold ee at k;unfold ei at m u n ⊢;unfold fx at c;rw[ng] at v;unfold fw at n ⊢;by_cases t:x.2.1=0
  ·rw[amB t] at k c;simp only[amB t] at m n ⊢;have D:x.1.toNat < 256:=x.1.toNat_lt;simp only[m.sign a s d k];rw[amA sm,amB D,amA om,ez,UInt8.ofNat_toNat]
  ·rw[amA t] at k c;simp only[amA t] at m u n ⊢;obtain⟨s1,s2,E,F,G,L⟩:=lx c.2.1 c.2.2.1;obtain⟨f1,f2,f3,f4,f5⟩:=mi c.2.2.2.1 c.2.2.2.2.1;have H:=m.fst;have a2:=m.snd;rw[ez] at a2;have a3:=a2.snd;rw[bp] at a3;have a4:=a3.snd;rw[ez] at a4;have n2:=a2.fst.num a G;have I:=a4.num a f4;have J:=a2.fst.le;have K:=a4.le;rw[bp] at J K;have g3:=a3.fst.sign a w h k.2;simp only[H.sign a s d k.1];have r:dp far (az B) (p+near.getD (bu x.2.1).1 0) (bu x.2.1).1 out most=(gw x.2.2 x.2.1 out,p+near.getD (bu x.2.1).1 0+(bu x.2.1).2.2+far.getD (di x.2.2).1 0+(di x.2.2).2.2,0):=by
    unfold dp;rw[amA om,E,amA om,n2,F];simp only[g3];rw[amA sm,amA om,f2,amA om,I,f3,amA om,amA om]
   simp only[r];rw[amA sm,amA om,amA om,amA sm]
   congr 1
   simp only[amC,ez,bp];omega
theorem ud {near far:List Nat}:∀{l:List bj},(∀x∈l,ee near far x)->0 < near.getD 256 0->l.length+1<=(cy near far l).length
|[],_,h=>by
  show 1<=(dh near 256).length;rw[ez];exact h
|x::l,b,h=>by
  have f:=ud (λy d=>b y (anA _ d)) h;have a:=b x (anQ ..);have e:cy near far (x::l)=ei near far x++cy near far l:=by
   unfold cy;rw[aoR,amM]
  have:1<=(ei near far x).length:=by
   unfold ei;unfold ee at a;by_cases c:x.2.1=0
   ·rw[amB c] at a ⊢;rw[ez];exact a
   ·rw[amA c] at a ⊢;rw[amC,ez];omega
  rw[e,amC,amW];omega
theorem uf {far:List Nat}(g:bh near=0)(h:bh far=0)(b:∀l∈near,l<=15)(c:∀l∈far,l<=15)(a:0 < near.getD 256 0)(e:bn B){l:List bj}
  (f:∀x∈l,ee near far x) (i:gu 0 l) (d:ew B p (cy near far l)) (hm:(fg [] l).length<=most) :
  fl near far (az B) most p []=(fg [] l,p+(cy near far l).length,0):=by
 have j:=ud f a;have k:=d.le;exact ua g h b c a e l p [] _ f i d hm om
def fj (s:List UInt8):List Nat:=s.flatMap λc=>bf c.toNat 8
theorem qc:∀s:List UInt8,(fj s).length=8*s.length
|[]=>rfl
|c::s=>by
  have:=qc s;unfold fj at this ⊢;rw[aoR,amC,this,bp,amW];omega
theorem uh (s:List UInt8):bn (fj s):=λb a=>by
 obtain⟨c,_,d⟩:=arR.1 a;exact dr _ _ b d
theorem xu {a b:List Nat}{k:Nat}(h:a.length=8*k)(hi:i < k):bo (a++b) i=bo a i:=by
 have e:∀j,j < 8->(a++b).getD (8*i+j) 0=a.getD (8*i+j) 0:=λj c=>by
  rw[amI,aoL om,amI]
 unfold bo;rw[e 1 om,e 2 om,e 3 om,e 4 om,e 5 om,e 6 om,e 7 om,show (a++b).getD (8*i) 0=a.getD (8*i) 0 from e 0 om]
theorem xx {a b:List Nat}{k:Nat}(h:a.length=8*k):bo (a++b) (k+i)=bo b i:=by
 have e:∀j,(a++b).getD (8*(k+i)+j) 0=b.getD (8*i+j) 0:=λj=>by
  rw[amI,aoQ om,amI,show 8*(k+i)+j - a.length=8*i+j by omega]
 unfold bo;rw[e 1,e 2,e 3,e 4,e 5,e 6,e 7,show (a++b).getD (8*(k+i)) 0=b.getD (8*i) 0 from e 0]
theorem ly {a b:List Nat}{k:Nat}(h:a.length=8*k):az (a++b)=az a++az b:=by
 unfold az;rw[amC,h,show (8*k+b.length+7) / 8=k+(b.length+7) / 8 by omega,show (8*k+7) / 8=k by omega,List.range_add,anN,asA]
 congr 1
 ·refine arM λi hi=>?_;rw[xu h (aoE.1 hi)]
 ·refine arM λi _=>?_;show UInt8.ofNat (bo (a++b) (k+i))=_;rw[xx h]
theorem zt:∀n:Fin 256,az (bf n.val 8)=[UInt8.ofNat n.val]:=by decide +kernel
theorem xd (c:UInt8):az (bf c.toNat 8)=[c]:=by
 have:=zt ⟨c.toNat,c.toNat_lt⟩;rw[this,UInt8.ofNat_toNat]
theorem ni (b:List Nat):∀s:List UInt8,az (fj s++b)=s++az b
|[]=>rfl
|c::s=>by
  have e:fj (c::s)=bf c.toNat 8++fj s:=by unfold fj;rw[aoR]
  rw[e,amM,ly (k:=1) (bp _ _),ni b s,xd];rfl
theorem ew.raw {l:List Nat}{p k:Nat}{s:List UInt8}(h:ew l p (fj s))(hp:p=8*k):((az l).drop k).take s.length=s:=by
 obtain⟨a,b,rfl,rfl⟩:=h;have c:(az a).length=k:=by rw[ky,hp];omega
 rw[amM,ly hp,ni,aqK,c,apD,aoT,asH om,anV,asY,apD,apX,amY,aoA]
def fk (l:List Nat):List Nat:=l++List.replicate ((8 - l.length % 8) % 8) 0
theorem nm (l:List Nat):(fk l).length=8*((l.length+7) / 8):=by
 unfold fk;rw[amC,anU];omega
theorem ui (l:List Nat):az (fk l)=az l:=by
 have e:∀j,(fk l).getD j 0=l.getD j 0:=λj=>by
  unfold fk;rw[amI,amI];rcases anE j l.length with h|h
  ·rw[aoL h]
  ·rw[aoQ h,aoU (l:=l) h,asK];split<;>rfl
 unfold az;rw[nm,show (8*((l.length+7) / 8)+7) / 8=(l.length+7) / 8 by omega];refine arM λi _=>?_;unfold bo;rw[e,e,e,e,e,e,e,e]
theorem uj (h:bn l):bn (fk l):=br h λb a=>by rw[apP a];decide
def ig (R:List Nat)(s:List UInt8):Prop:=∀(L:List Nat) (most:Nat),bn L->ew L 0 R->s.length<=most->jl (az L) most (8*(az L).length+1) 0 []=(s,(R.length+7) / 8,0)
theorem zu {R:List Nat}{s t:List UInt8}(h:ig R s)(a:bn R){most:Int}(hm:(s.length:Int)<=most)(b:s.length<=1048576):jn (az R++t) most=(s,(az R).length,0):=by
 have e:az R++t=az (fk R++fj t):=by
  have:az (fj t)=t:=by
   have:=ni [] t;rw[amY] at this;rw[this];exact amY _
  rw[ly (nm R),ui,this]
 unfold jn;rw[amA om,e,h _ _ (br (uj a) (uh t)) ⟨[],List.replicate ((8 - R.length % 8) % 8) 0++fj t,by unfold fk;simp,rfl⟩ om,ky]
def jq (last n:Nat)(s:List UInt8):List Nat:=bf last 1++(bf 0 2++(List.replicate 5 0++(bf n 16++(bf (65535 - n) 16++fj s))))
def gz:Nat->List UInt8->List Nat
|0,_=>[]
|f+1,s=>if s.length<=65535 then jq 1 s.length s else jq 0 65535 (s.take 65535)++gz f (s.drop 65535)
theorem jt (last n:Nat)(s:List UInt8):(jq last n s).length=40+8*s.length:=by
 unfold jq;simp only[amC,bp,anU,qc];omega
theorem oe (last n:Nat)(s:List UInt8):bn (jq last n s):=
 br (dr _ _) (br (dr _ _) (br (λb a=>by rw[apP a];decide) (br (dr _ _) (br (dr _ _) (uh _)))))
theorem qv:∀(f:Nat) (s:List UInt8),bn (gz f s)
|0,_=>λb a=>by cases a
|f+1,s=>by
  unfold gz;split
  ·exact oe _ _ _
  ·exact br (oe _ _ _) (qv f _)
theorem um {L:List Nat}{k last:Nat}{s out:List UInt8}(h:ew L (8*k) (jq last s.length s))(a:bn L)(i:last < 2)(j:s.length<=65535)(hm:out.length+s.length<=most) :
  8*k+1<=8*(az L).length∧Fl.num (az L) (8*k) 1=last∧dd (az L) most (8*k+1) out=(out++s,8*k+(jq last s.length s).length,0):=by
 have hle:=h.le;rw[jt] at hle ⊢;unfold jq at h;have b:=h.snd;rw[bp] at b;have c:=b.snd.snd;rw[bp,anU] at c;have d:=c.snd;rw[bp] at d;have e:=d.snd;rw[bp] at e;have n1:=b.fst.num a dc;have n2:=c.fst.num a om;have n3:=d.fst.num a om;have f:=e.raw (k:=k+5) om;refine⟨om,h.fst.num a om,?_⟩;unfold dd;rw[amA om,n1,amB rfl];unfold dy;dsimp only;have g:(8*k+1+2+7) / 8*8=8*k+1+2+5:=om
 rw[g,amA om,amA om,n2,n3,amA om,amA om,amA om,show (8*k+1+2+5) / 8+4=k+5 by omega,f]
 congr 2
 omega
theorem uo:∀(f:Nat) (s:List UInt8) (L:List Nat) (k:Nat) (out:List UInt8) (most g:Nat),s.length < f*65535->ew L (8*k) (gz f s)->bn L->out.length+s.length<=most->f<=g ->
  jl (az L) most g (8*k) out=(out++s,k+((gz f s).length+7) / 8,0)
|0,s,L,k,out,most,g,i,_,_,_,_=>by omega
|f+1,s,L,k,out,most,g,i,h,a,hm,n=>by
  obtain⟨g,rfl⟩:∃j,g=j+1:=⟨g - 1,om⟩;unfold gz at h ⊢;unfold jl;by_cases c:s.length<=65535
  ·rw[amB c] at h ⊢;obtain⟨l,b2,b3⟩:=um h a dc c hm;rw[amA om];simp only[b3,b2];rw[amA sm,amB trivial]
   congr 2
   omega
  ·rw[amA c] at h ⊢;have b:(s.take 65535).length=65535:=by rw[amL];omega
   have d:=h.fst
   conv at d=>arg 3;arg 2;rw[<-b]
   obtain⟨l,b2,b3⟩:=um (out:=out) (most:=most) d a dc om om;have e:=h.snd;rw[jt,b] at e;rw[b,jt,b] at b3;rw[amA om];simp only[b3,b2];rw[amA sm,amA dc];have o:(s.drop 65535).length=s.length - 65535:=amQ;have m:=uo f (s.drop 65535) L (k+65540) (out++s.take 65535) most g om (by rw[show 8*(k+65540)=8*k+(40+8*65535) by omega];exact e) a (by rw[amC];omega) om;rw[show 8*k+(40+8*65535)=8*(k+65540) by omega,m,amM,anR,amC,jt,b]
   congr 2
   omega
theorem uq:∀(f:Nat) (s:List UInt8),s.length < f*65535->s.length<=(gz f s).length
|0,s,h=>by omega
|f+1,s,h=>by
  unfold gz;by_cases a:s.length<=65535
  ·rw[amB a,jt];omega
  ·have c:(s.drop 65535).length=s.length - 65535:=amQ;have b:(s.take 65535).length=65535:=by rw[amL];omega
   have d:=uq f (s.drop 65535) om;rw[amA a,amC,jt,b];omega
def fu (s:List UInt8):List Nat:=gz (s.length / 65535+1) s
theorem zw (s:List UInt8):bn (fu s):=qv _ _
theorem zx (s:List UInt8):ig (fu s) s:=by
 intro L most b a hm;unfold fu at a ⊢;have d:=a.le;have c:s.length < (s.length / 65535+1)*65535:=om
 have e:=uq _ s c;have:=uo _ s L 0 [] most (8*(az L).length+1) c a b (by simpa using hm) om;simpa using this
def gm (l:List bj):List Nat:=bf 1 1++(bf 1 2++cy cr db l)
theorem zy (l:List bj):bn (gm l):=br (dr _ _) (br (dr _ _) (tz _ _ _))
def xy (i:Nat):Bool:=ai (0 < cr.getD i 0)
theorem nn (h:i < 288):0 < cr.getD i 0:=by
 have a:(List.range 288).all xy=true:=by decide +kernel
 exact amU (apA.1 a i (aoE.2 h))
theorem zz (h:i < 32):0 < db.getD i 0:=by
 unfold db;rw[amI,asK,amB h];decide
theorem mj:∀l∈cr,l<=15:=by
 have a:cr.all (λl=>ai (l<=15))=true:=by decide +kernel
 exactλl b=>amU (apA.1 a l b)
theorem nq:∀l∈db,l<=15:=λl a=>by rw[apP a];decide
theorem lj:∀{l:List bj} {n:Nat},gu n l->∀x∈l,∃m,fx m x
|y::l,n,h,x,a=>by
  rcases amH.1 a with rfl|a
  ·exact⟨n,h.1⟩
  ·exact lj h.2 x a
theorem ur {l:List bj}{n:Nat}(h:gu n l):∀x∈l,ee cr db x:=by
 intro x d;obtain⟨m,hm⟩:=lj h x d;unfold fx at hm;unfold ee;by_cases c:x.2.1=0
 ·rw[amB c];have:=x.1.toNat_lt;exact nn om
 ·rw[amA c] at hm ⊢;have a:=lx hm.2.1 hm.2.2.1;have b:=mi hm.2.2.2.1 hm.2.2.2.2.1;exact⟨nn om,zz om⟩
theorem uu {R x:List Nat}{s:List UInt8}(d:R=bf 1 1++x)(h:∀(L:List Nat) (most:Nat),bn L->ew L 1 x->s.length<=most->1<=8*(az L).length->dd (az L) most 1 []=(s,1+x.length,0)):ig R s:=by
 subst d;intro L most b a hm;have c:=a.snd;rw[bp] at c;have hle:=a.fst.le;rw[bp] at hle;unfold jl;rw[amA om];simp only[amO,h L most b (by simpa using c) hm om,a.fst.num b dc];rw[amA sm,amB trivial]
 congr 2
 rw[amC,bp]
theorem AI {l:List bj}(h:gu 0 l):ig (gm l) (fg [] l):=by
 refine uu rfl λL most b a hm hle=>?_;have d:=a.fst.le;have c:=a.snd;rw[bp] at d c;unfold dd;rw[amA om,a.fst.num b dc,amA dc,amB rfl,uf mz nc mj nq (nn dc) b (ur h) h (by simpa using c) hm]
 congr 2
 rw[amC,bp];omega
abbrev bt:=Nat×Nat×Nat
def ev (acc:List Nat)(m:bt):List Nat:=if m.1 < 16 then acc++[m.1] else acc++List.replicate (dn m.1+m.2.1) (if m.1=16 then acc.getD (acc.length - 1) 0 else 0)
def fy (acc:List Nat)(m:bt):Prop:=if m.1 < 16 then m.2.1=0∧m.2.2=0 else m.1<=18∧m.2.2=cm m.1∧m.2.1 < 2 ^ m.2.2∧(m.1=16->0 < acc.length)
def eh (acc:List Nat)(l:List bt):List Nat:=l.foldl ev acc
def il:List Nat->List bt->Prop
|_,[]=>True
|acc,m::l=>fy acc m∧il (ev acc m) l
theorem uv (acc:List Nat)(l:List bt)(m:bt):eh acc (l++[m])=ev (eh acc l) m:=by unfold eh;rw[atD];rfl
theorem qd:∀{l:List bt} {acc:List Nat} {m:bt},il acc l->fy (eh acc l) m->il acc (l++[m])
|[],_,_,_,h=>⟨h,trivial⟩
|_::_,_,_,h,a=>⟨h.1,qd h.2 a⟩
def jv (cl:List Nat)(m:bt):List Nat:=dh cl m.1++bf m.2.1 m.2.2
def fq (cl:List Nat)(l:List bt):List Nat:=l.flatMap (jv cl)
theorem xz (cl:List Nat)(m:bt):bn (jv cl m):=br (km _ _) (dr _ _)
theorem uw (cl:List Nat)(l:List bt):bn (fq cl l):=λb a=>by
 obtain⟨x,_,c⟩:=arR.1 a;exact xz cl x b c
theorem AS (g:Nat):3<=dn g:=by unfold dn;split<;>omega
theorem ux (acc:List Nat)(m:bt):acc.length < (ev acc m).length:=by
 have:=AS m.1;unfold ev;split<;>simp<;>omega
theorem lz:∀(l:List bt) (acc:List Nat),acc.length+l.length<=(eh acc l).length
|[],_=>amJ _
|m::l,acc=>by
  have a:=lz l (ev acc m);have b:=ux acc m;show acc.length+(l.length+1)<=(eh (ev acc m) l).length;omega
theorem uy {cl:List Nat}(v:bh cl=0)(r:∀l∈cl,l<=15){B:List Nat}(c:bn B){n:Nat} :
  ∀(l:List bt) (p:Nat) (acc:List Nat) (f:Nat),(∀m∈l,0 < cl.getD m.1 0)->il acc l->ew B p (fq cl l)->(eh acc l).length=n->l.length < f ->
   jg cl (az B) n f p acc=(eh acc l,p+(fq cl l).length,0)
|[],p,acc,f,_,_,_,t,o=>by
  obtain⟨f,rfl⟩:∃g,f=g+1:=⟨f - 1,by simp at o;omega⟩;have t:acc.length=n:=t;unfold jg;rw[amB om];rfl
|m::l,p,acc,f,w,x,d,t,o=>by
  obtain⟨f,rfl⟩:∃g,f=g+1:=⟨f - 1,by simp at o;omega⟩;have o:l.length < f:=by simp at o;omega
  have hm:=w m (anQ ..);have e:fq cl (m::l)=jv cl m++fq cl l:=by unfold fq;rw[aoR]
  rw[e] at d ⊢;have u:=d.fst;have z:=d.snd;have h:(eh (ev acc m) l).length=n:=t;have i:=ux acc m;have hle:=lz l (ev acc m);have q:=uy v r c l (p+(jv cl m).length) (ev acc m) f (λy A=>w y (anA _ A)) x.2 z h o;have fin:eh (ev acc m) l=eh acc (m::l):=rfl;rw[fin] at q;rw[amC,<-aoS,<-q]
  conv=>lhs;unfold jg
  have a:=x.1;unfold fy at a;unfold jv at u q ⊢;rw[amA om];have C:=u.fst.sign c v r hm;have j:=u.snd;rw[ez] at j;have D:=j.le;rw[bp] at D;simp only[C];rw[amA sm];unfold ev at q i hle h ⊢;rw[amC,ez,bp];by_cases b:m.1 < 16
  ·rw[amB b] at a;simp only[amB b] at q ⊢;rw[a.2,aoC]
  ·rw[amA b] at a;simp only[amA b] at q i hle h ⊢;simp only[amC,anU] at i hle;have E:=j.num c a.2.2.1;have s:=a.2.2.2;rw[amA (λk=>by have:=s k.1;omega),<-a.2.1,amA om,E,amA om,<-aoS]
theorem im {P:Nat->Prop}(h:∀x∈l,P x)(a:P 0)(i:Nat):P (l.getD i 0):=by
 rw[amI];cases c:l[i]? with
|none=>exact a
|some b=>exact h b (apV c)
def ow (i:Nat):Bool:=(List.range 19).all λj=>ai (i=j)||decide (cd.getD i 0≠cd.getD j 0)
def ox (j:Nat):Bool:=(List.range 19).any λi=>ai (cd.getD i 0=j)
theorem ya (hi:i < 19)(c:j < 19)(h:i≠j):cd.getD i 0≠cd.getD j 0:=by
 have d:(List.range 19).all ow=true:=by decide +kernel
 have a:=apA.1 d i (aoE.2 hi);unfold ow at a;have b:=apA.1 a j (aoE.2 c);rw[apQ,anI,anI] at b;exact b.resolve_left h
theorem AT (b:j < 19):∃i,i < 19∧cd.getD i 0=j:=by
 have c:(List.range 19).all ox=true:=by decide +kernel
 have a:=apA.1 c j (aoE.2 b);unfold ox at a;obtain⟨i,hi,h⟩:=aqA.1 a;exact⟨i,aoE.1 hi,amU h⟩
theorem uz (h:i < 19):cd.getD i 0 < 19:=by
 have a:(List.range 19).all (λi=>ai (cd.getD i 0 < 19))=true:=by decide +kernel
 exact amU (apA.1 a i (aoE.2 h))
theorem vd (s:List UInt8)(p:Nat):∀(k i:Nat),k<=19->i < 19->(fo s p k).getD (cd.getD i 0) 0=if i < k then Fl.num s (p+3*i) 3 else 0
|0,i,_,hi=>by
  rw[amA om,fo,amI,asK];split<;>rfl
|k+1,i,c,hi=>by
  have b:=mh s p k;rw[fo,amI];by_cases h:k=i
  ·subst h;rw[apN (by rw[b];exact uz hi),amB om];rfl
  ·rw[arJ (ya om hi h),<-amI,vd s p k i om hi];by_cases a:i < k
   ·rw[amB a,amB om]
   ·rw[amA a,amA om]
def ib (cl:List Nat)(k:Nat):List Nat:=(List.range k).flatMap λi=>bf (cl.getD (cd.getD i 0) 0) 3
theorem qe (cl:List Nat)(k:Nat):ib cl (k+1)=ib cl k++bf (cl.getD (cd.getD k 0) 0) 3:=by
 unfold ib;rw[arO,apL];simp
theorem ma (cl:List Nat):∀k,(ib cl k).length=3*k
|0=>rfl
|k+1=>by rw[qe,amC,ma cl k,bp];omega
theorem qf (cl:List Nat)(k:Nat):bn (ib cl k):=λb a=>by
 obtain⟨x,_,c⟩:=arR.1 a;exact dr _ _ b c
theorem ve {cl:List Nat}(b:∀x∈cl,x<=7){B:List Nat}(a:bn B){p:Nat}:∀(k:Nat),ew B p (ib cl k)->∀i,i < k->Fl.num (az B) (p+3*i) 3=cl.getD (cd.getD i 0) 0
|k+1,h,i,hi=>by
  rw[qe] at h;rcases anE i k with c|c
  ·exact ve b a k h.fst i c
  ·obtain rfl:i=k:=om
   have d:=h.snd;rw[ma] at d;have:cl.getD (cd.getD i 0) 0<=7:=im b dc _;exact d.num a om
theorem A0 (c:cl.length=19)(d:∀x∈cl,x<=7){k:Nat}(f:k<=19)(l:∀i,k<=i->i < 19->cl.getD (cd.getD i 0) 0=0)(a:bn B)(b:ew B p (ib cl k)) :
  fo (az B) p k=cl:=by
 refine atT (by rw[mh,c]) λj m n=>?_;obtain⟨i,hi,o⟩:=AT (j:=j) om;have g:=vd (az B) p k i f hi;have e:(if i < k then Fl.num (az B) (p+3*i) 3 else 0)=cl.getD (cd.getD i 0) 0:=by
  by_cases h:i < k
  ·rw[amB h,ve d a k b i h]
  ·rw[amA h,l i om hi]
 rw[e,o,amI,amI,amN m,amN n] at g;exact g
def lg (a b cl:List Nat)(k:Nat)(ms:List bt)(l:List bj):List Nat:=
 bf 1 1++(bf 2 2++(bf (a.length - 257) 5++(bf (b.length - 1) 5++(bf (k - 4) 4++(ib cl k++(fq cl ms++cy a b l))))))
theorem yb (a b cl:List Nat)(k:Nat)(ms:List bt)(l:List bj):bn (lg a b cl k ms l):=
 br (dr _ _) (br (dr _ _) (br (dr _ _) (br (dr _ _) (br (dr _ _) (br (qf _ _) (br (uw _ _) (tz _ _ _)))))))
theorem By {a b:List Nat}{k:Nat}{ms:List bt}{l:List bj}(P:257<=a.length)(w:a.length<=286)(Q:1<=b.length)(y:b.length<=30)(R:4<=k)(r:k<=19)
  (z:cl.length=19) (u:∀x∈cl,x<=7) (A:∀i,k<=i->i < 19->cl.getD (cd.getD i 0) 0=0) (v:bh cl=0) (s:∀m∈ms,0 < cl.getD m.1 0) (t:il [] ms) (d:eh [] ms=a++b)
  (g:bh a=0) (h:bh b=0) (j:∀x∈a,x<=15) (o:∀x∈b,x<=15) (p:0 < a.getD 256 0) (B:∀x∈l,ee a b x) (C:gu 0 l):ig (lg a b cl k ms l) (fg [] l):=by
 refine uu rfl λL most c e hm hle=>?_;have q:=e.snd;rw[bp] at q;have a2:=q.snd;rw[bp] at a2;have a3:=a2.snd;rw[bp] at a3;have a4:=a3.snd;rw[bp] at a4;have a5:=a4.snd;rw[ma] at a5;have D:=a5.snd;have E:=q.fst.le;have F:=a2.fst.le;have G:=a3.fst.le;have H:=a4.fst.le;have I:=e.fst.le;rw[bp] at I E F G;rw[ma] at H;have n1:=q.fst.num c om;have n2:=a2.fst.num c om;have n3:=a3.fst.num c om;unfold dd;rw[amA om,e.fst.num c dc,amA dc,amA dc,amB rfl];unfold gh;have J:k - 4+4=k:=om
 rw[amA om,n1,amA om,amA om,n2,amA om,amA om,n3,J,amA om];have f:=A0 z u r A c a4.fst;have f:fo (az L) (1+2+14) k=cl:=f;have hlen:=uy v (λx K=>apG (u x K) dc) c (n:=a.length - 257+257+(b.length - 1+1)) ms (1+2+14+3*k) [] (a.length - 257+257+(b.length - 1+1)+1) s t a5.fst (by rw[d,amC];omega) (by have:=lz ms [];rw[d,amC] at this;simp at this;omega);have hlen:Fl.lens cl (az L) (a.length - 257+257+(b.length - 1+1)) (1+2+14+3*k)=(a++b,1+2+14+3*k+(fq cl ms).length,0):=by rw[<-d];exact hlen
 have M:(a++b).take (a.length - 257+257)=a:=by rw[show a.length - 257+257=a.length by omega,List.take_left]
 have N:(a++b).drop (a.length - 257+257)=b:=by rw[show a.length - 257+257=a.length by omega,List.drop_left]
 have O:(a++b).getD 256 0=a.getD 256 0:=by rw[amI,aoL om,amI]
 simp only[f,hlen,M,N,O,v,g,h];rw[amA sm,amA sm,amA om,amA sm,amA sm,uf g h j o p c B C D hm]
 congr 2
 simp only[amC,bp,ma];omega
inductive Cn where
|leaf (w s:Nat)
|node (a b:Cn)
 deriving DecidableEq
def Cn.wt:Cn->Nat
|.leaf w _=>w
|.node a b=>a.wt+b.wt
def Cn.cnt (s:Nat):Cn->Nat
|.leaf _ t=>if t=s then 1 else 0
|.node a b=>a.cnt s+b.cnt s
def Cn.Ao:Cn->List Cn
|.leaf _ _=>[]
|.node a b=>[a,b]
def Cn.kM:Cn->Bool
|.leaf _ _=>av
|.node _ _=>au
def Cn.top (s:Nat):Cn->Nat
|.leaf _ t=>if t=s then 1 else 0
|.node _ _=>0
def Cn.kids (l:List Cn):List Cn:=l.flatMap Cn.Ao
def Cn.bF:List Cn->List Cn
|a::b::l=>.node a b::Cn.bF l
|_=>[]
def Cn.sorted (l:List Cn):Prop:=l.Pairwise λa b=>a.wt<=b.wt
def Cn.sum (f:Cn->Nat)(l:List Cn):Nat:=(l.map f).sum
theorem Cn.sum_cons (f:Cn->Nat)(c:Cn)(l:List Cn):Cn.sum f (c::l)=f c+Cn.sum f l:=rfl
theorem Cn.Gy (f:Cn->Nat)(a b:List Cn):Cn.sum f (a++b)=Cn.sum f a+Cn.sum f b:=by unfold Cn.sum;rw[anN,asG]
theorem Cn.KK {f:Cn->Nat}{a b:List Cn}(h:a.Perm b):Cn.sum f a=Cn.sum f b:=(h.map f).sum_nat
theorem Cn.VA {f:Cn->Nat}:∀{q p:List Cn},q.Nodup->(∀x∈q,x∈p)->Cn.sum f q<=Cn.sum f p
|[],_,_,_=>anG _
|c::q,p,a,d=>by
  rw[asQ] at a;have h:=d c (anQ ..);have hp:=auR h;rw[Cn.KK hp,Cn.sum_cons,Cn.sum_cons];have:=Cn.VA (f:=f) (p:=p.erase c) a.2 λx g=>by
   have:=d x (anA _ g);have b:x≠c:=λe=>a.1 (e▸g);exact (List.mem_erase_of_ne b).2 this
  omega
theorem Cn.Ep (y:Cn):∀l:List Cn,(Cn.kids l).count y=Cn.sum (λc=>c.Ao.count y) l
|[]=>rfl
|c::l=>by
  have:=Cn.Ep y l;unfold Cn.kids at this ⊢;rw[aoR,aqR,this,Cn.sum_cons]
theorem Cn.JP:∀l:List Cn,∃t,l=Cn.kids (Cn.bF l)++t∧t.length<=1
|[]=>⟨[],rfl,dc⟩
|[a]=>⟨[a],rfl,sm⟩
|a::b::l=>by
  obtain⟨t,h,c⟩:=Cn.JP l;refine⟨t,?_,c⟩;show a::b::l=(Cn.Ao (.node a b)++Cn.kids (Cn.bF l))++t
  conv=>lhs;rw[h]
  rfl
theorem Cn.fR:∀{l:List Cn} {x:Cn},x∈Cn.bF l->∃a b,x=.node a b∧a∈l∧b∈l
|a::b::l,x,h=>by
  rcases amH.1 h with rfl|h
  ·exact⟨a,b,rfl,anQ ..,anA _ (anQ ..)⟩
  ·obtain⟨c,d,e,f,g⟩:=Cn.fR h;exact⟨c,d,e,anA _ (anA _ f),anA _ (anA _ g)⟩
theorem Cn.Gx:∀{l:List Cn},l.Nodup->(Cn.bF l).Nodup
|[],_=>List.nodup_nil
|[_],_=>List.nodup_nil
|a::b::l,h=>by
  rw[asQ,asQ] at h;show (Cn.node a b::Cn.bF l).Nodup;rw[asQ];refine⟨λhm=>?_,Cn.Gx h.2.2⟩;obtain⟨c,d,e,f,_⟩:=Cn.fR hm
  injection e with g _
  subst g;exact h.1 (anA _ f)
theorem Cn.B8:∀l:List Cn,(Cn.bF l).length=l.length / 2
|[]=>rfl
|[_]=>by simp[Cn.bF]
|a::b::l=>by
  show (Cn.bF l).length+1=(l.length+1+1) / 2;rw[Cn.B8 l];omega
theorem Cn.Gq {l:List Cn}:l.Nodup↔∀a,l.count a<=1:=List.nodup_iff_count
theorem Cn.RF {l q:List Cn}(a:l.Nodup)(b:q.Nodup)(d:∀x∈q,x∈Cn.bF l):(Cn.kids q).Nodup:=by
 rw[Cn.Gq];intro y;rw[Cn.Ep];have e:=Cn.VA (f:=λc=>c.Ao.count y) b d;rw[<-Cn.Ep y (Cn.bF l)] at e;obtain⟨t,g,_⟩:=Cn.JP l;have h:=Cn.Gq.1 a y;rw[g,aqR] at h;omega
def Cn.low (d r:List Cn):Prop:=∀x∈d,∀y∈r,y ∉ d->x.wt<=y.wt
theorem Cn.KG {p:Cn->Prop}:∀{l:List Cn},Cn.sorted l->(∀x∈Cn.bF l,p x->∀y∈Cn.bF l,¬p y->x.wt<=y.wt) ->
  ∀u v,(∃x∈Cn.bF l,p x∧u∈x.Ao)->v∈l->(∀x∈Cn.bF l,p x->v ∉ x.Ao)->u.wt<=v.wt
|[],_,_,u,v,_,t,_=>by cases t
|[a],_,_,u,v,⟨x,j,_⟩,_,_=>by cases j
|a::b::l,n,hp,u,v,⟨x,j,k,hu⟩,t,B=>by
  unfold Cn.sorted at n;rw[apC,apC] at n;have g:x=.node a b∨x∈Cn.bF l:=amH.1 j;have m:Cn.node a b∈Cn.bF (a::b::l):=anQ ..
  have f:∀{z},z∈Cn.bF l->z∈Cn.bF (a::b::l):=λh=>anA _ h;have I:=n.1 b (anQ ..);by_cases i:p (.node a b)
  ·have w:=B _ m i;have o:v≠a:=λe=>w (e▸anQ ..);have q:v≠b:=λe=>w (e▸anA _ (anQ ..));have r:v∈l:=by
    rcases amH.1 t with h|h
    ·exact absurd h o
    ·rcases amH.1 h with h|h
     ·exact absurd h q
     ·exact h
   rcases g with rfl|g
   ·have s:=n.2.1 v r;rcases amH.1 hu with rfl|hu
    ·omega
    ·rw[anB.1 hu];exact s
   ·exact Cn.KG n.2.2 (λx j C y D E=>hp x (f j) C y (f D) E) u v ⟨x,g,k,hu⟩ r λx j=>B x (f j)
  ·have g:x∈Cn.bF l:=g.resolve_left λe=>i (e▸k);rcases amH.1 t with o|t
   ·-- v=a: J package (a,b) is out,N x A no more H it;all K equal
    have s:=hp x j k _ m i;obtain⟨c,d,rfl,F,G⟩:=Cn.fR g;have s:c.wt+d.wt<=a.wt+b.wt:=s;have L:=n.2.1 c F;have M:=n.2.1 d G;rcases amH.1 hu with rfl|hu
    ·subst o;omega
    ·rw[anB.1 hu];subst o;omega
   ·rcases amH.1 t with q|r
    ·have s:=hp x j k _ m i;obtain⟨c,d,rfl,F,G⟩:=Cn.fR g;have s:c.wt+d.wt<=a.wt+b.wt:=s;have L:=n.2.1 c F;have M:=n.2.1 d G;rcases amH.1 hu with rfl|hu
     ·subst q;omega
     ·rw[anB.1 hu];subst q;omega
    ·exact Cn.KG n.2.2 (λx j C y D E=>hp x (f j) C y (f D) E) u v ⟨x,g,k,hu⟩ r λx j=>B x (f j)
inductive Cn.Row (L:List Cn):Nat->List Cn->Prop
|zero {r:List Cn}:Cn.sorted r->r.Perm L->Cn.Row L 0 r
|succ {t:Nat} {q r:List Cn}:Cn.Row L t q->Cn.sorted r->r.Perm (L++Cn.bF q)->Cn.Row L (t+1) r
structure Cn.Lv (L:List Cn) (Sy:List Nat):Prop where
 leaf:∀x∈L,∃w s,x=.leaf w s∧0 < w∧s∈Sy
 has:∀s∈Sy,∃w,Cn.leaf w s∈L
 uniq:∀w v s,Cn.leaf w s∈L->Cn.leaf v s∈L->w=v
 nodup:L.Nodup
 nodupS:Sy.Nodup
 len:L.length=Sy.length
theorem Cn.Row.nodup {L:List Cn}{Sy:List Nat}(hL:Cn.Lv L Sy){t:Nat}{r:List Cn}(h:Cn.Row L t r):r.Nodup∧∀x∈r,(x∈L)∨x.kM=false:=by
 induction h with
|zero _ hp=>exact⟨hp.nodup_iff.2 hL.nodup,λx c=>.inl (hp.mem_iff.1 c)⟩
|succ g _ hp d=>
  refine⟨hp.nodup_iff.2 ?_,λx c=>?_⟩
  ·rw[List.nodup_append];refine⟨hL.nodup,Cn.Gx d.1,λx c y f e=>?_⟩;subst e;obtain⟨a,b,rfl,_,_⟩:=Cn.fR f;obtain⟨w,s,h,_⟩:=hL.leaf _ c;cases h
  ·rcases anF.1 (hp.mem_iff.1 c) with h|h
   ·exact .inl h
   ·obtain⟨a,b,rfl,_,_⟩:=Cn.fR h;exact .inr rfl
theorem Cn.Row.has {L:List Cn}{r:List Cn}(h:Cn.Row L t r):∀x∈L,x∈r:=by
 intro x a;cases h with
|zero _ hp=>exact hp.mem_iff.2 a
|succ _ _ hp=>exact hp.mem_iff.2 (atW _ a)
theorem Cn.Row.pos {L:List Cn}(hL:Cn.Lv L Sy){r:List Cn}(h:Cn.Row L t r):∀x∈r,0 < x.wt:=by
 induction h with
|zero _ hp=>
  intro x c;obtain⟨w,s,rfl,h,_⟩:=hL.leaf x (hp.mem_iff.1 c);exact h
|succ f _ hp d=>
  intro x c;rcases anF.1 (hp.mem_iff.1 c) with h|h
  ·obtain⟨w,s,rfl,h,_⟩:=hL.leaf x h;exact h
  ·obtain⟨a,b,rfl,e,_⟩:=Cn.fR h;have:=d a e;show 0 < a.wt+b.wt;omega
theorem Cn.J7 {f:Cn->Nat}:∀{l:List Cn},(∀x∈l,f x=0)->Cn.sum f l=0
|[],_=>rfl
|c::l,h=>by rw[Cn.sum_cons,h c (anQ ..),Cn.J7 λx a=>h x (anA _ a)]
theorem Cn.SD {f:Cn->Nat}:∀{l:List Cn},0 < Cn.sum f l->∃x∈l,0 < f x
|c::l,h=>by
  rw[Cn.sum_cons] at h;by_cases a:0 < f c
  ·exact⟨c,anQ ..,a⟩
  ·obtain⟨x,b,d⟩:=Cn.SD (f:=f) (l:=l) om;exact⟨x,anA _ b,d⟩
theorem Cn.Ou {f:Cn->Nat}:∀{l:List Cn} {x:Cn},x∈l->f x<=Cn.sum f l
|c::l,x,h=>by
  rw[Cn.sum_cons];rcases amH.1 h with rfl|h
  ·omega
  ·have:=Cn.Ou (f:=f) h;omega
theorem Cn.NN (s:Nat):∀d:List Cn,Cn.sum (Cn.cnt s) d=Cn.sum (Cn.top s) d+Cn.sum (Cn.cnt s) (Cn.kids d)
|[]=>rfl
|c::d=>by
  have f:=Cn.NN s d;have e:Cn.kids (c::d)=c.Ao++Cn.kids d:=by unfold Cn.kids;rw[aoR]
  rw[e,Cn.Gy,Cn.sum_cons,Cn.sum_cons,f];cases c with
 |leaf w t=>show (if t=s then 1 else 0)+_=_;simp only[Cn.top,Cn.Ao,Cn.sum,apW,List.sum_nil];omega
 |node a b=>show (a.cnt s+b.cnt s)+_=_;simp only[Cn.top,Cn.Ao,Cn.sum,anS,apW,aqC,List.sum_nil];omega
def Cn.val (s:Nat):Nat->List Cn->Nat
|0,d=>Cn.sum (Cn.top s) d
|t+1,d=>Cn.sum (Cn.top s) d*2 ^ (t+1)+Cn.val s t (Cn.kids d)
theorem Cn.X7 {L:List Cn}(hL:Cn.Lv L Sy){d:List Cn}(h:d.Nodup)(hm:∀x∈d,x∈L∨x.kM=au)(s:Nat):Cn.sum (Cn.top s) d<=1:=by
 induction d with
|nil=>exact anG _
|cons c d j=>
  rw[asQ] at h;have j:=j h.2 λx f=>hm x (anA _ f);rw[Cn.sum_cons];by_cases g:Cn.top s c=0
  ·omega
  ·have e:Cn.sum (Cn.top s) d=0:=by
    refine Cn.J7 λx f=>?_;cases x with
   |node a b=>rfl
   |leaf v t=>
     cases c with
    |node a b=>exact absurd rfl g
    |leaf w u=>
      simp only[Cn.top] at g ⊢;by_cases i:u=s
      ·by_cases k:t=s
       ·subst i;subst k;have l:=(hm _ (anQ ..)).resolve_right (by simp[Cn.kM]);have m:=(hm _ (anA _ f)).resolve_right (by simp[Cn.kM]);have:=hL.uniq _ _ _ l m;subst this;exact absurd f h.1
       ·rw[amA k]
      ·rw[amA i] at g;exact absurd rfl g
   have i:Cn.top s c<=1:=by
    cases c with
   |leaf w t=>simp only[Cn.top];split<;>omega
   |node a b=>exact anG _
   omega
theorem Cn.Mt {d:List Cn}(h:∀x∈d,x.kM=av):Cn.kids d=[]:=by
 induction d with
|nil=>rfl
|cons c d f=>
  have e:Cn.kids (c::d)=c.Ao++Cn.kids d:=by unfold Cn.kids;rw[aoR]
  have g:=h c (anQ ..);rw[e,f λx i=>h x (anA _ i)];cases c with
 |leaf w t=>rfl
 |node a b=>cases g
theorem Cn.Gm {d:List Cn}{u:Cn}:u∈Cn.kids d↔∃x∈d,u∈x.Ao:=by unfold Cn.kids;exact arR
theorem Cn.Row.down {L:List Cn}(hL:Cn.Lv L Sy){q r d:List Cn}(C:Cn.Row L t q)(D:Cn.sorted q)(hp:r.Perm (L++Cn.bF q))(A:d.Nodup)(hm:∀x∈d,x∈r)(B:Cn.low d r) :
  (Cn.kids d).Nodup∧(∀x∈Cn.kids d,x∈q)∧Cn.low (Cn.kids d) q:=by
 have f:∀x∈d,x.kM=au->x∈Cn.bF q:=by
  intro x i h;rcases anF.1 (hp.mem_iff.1 (hm x i)) with k|k
  ·obtain⟨w,s,rfl,_⟩:=hL.leaf x k;cases h
  ·exact k
 have j:∀x u,u∈Cn.Ao x->x.kM=false:=by
  intro x u hu;cases x with
 |leaf w s=>cases hu
 |node a b=>rfl
 have E:Cn.kids d=Cn.kids (d.filter λx=>!x.kM):=by
  clear A hm B f
  induction d with
 |nil=>rfl
 |cons c d F=>
   have e:Cn.kids (c::d)=c.Ao++Cn.kids d:=by unfold Cn.kids;rw[aoR]
   rw[e,F,arU];cases c with
  |leaf w s=>rfl
  |node a b=>unfold Cn.kids;rfl
 refine⟨?_,?_,?_⟩
 ·rw[E];refine Cn.RF (l:=q) (C.nodup hL).1 (A.filter _) λx i=>?_;obtain⟨k,G⟩:=List.mem_filter.1 i;exact f x k (by simpa using G)
 ·intro u hu;obtain⟨x,i,g⟩:=Cn.Gm.1 hu;obtain⟨a,b,rfl,H,I⟩:=Cn.fR (f x i (j x u g));rcases amH.1 g with rfl|h
  ·exact H
  ·rw[anB.1 h];exact I
 ·intro u hu v J m;obtain⟨x,i,g⟩:=Cn.Gm.1 hu;refine Cn.KG (p:=λz=>z∈d) D (λx i K y M N=>B x K y (hp.mem_iff.2 (atX _ M)) N) u v ⟨x,f x i (j x u g),i,g⟩ J λz O n o=>m (Cn.Gm.2 ⟨z,n,o⟩)
theorem Cn.Row.sorted {L:List Cn}{t:Nat}{r:List Cn}(h:Cn.Row L t r):Cn.sorted r:=by
 cases h with
|zero h _=>exact h
|succ _ h _=>exact h
theorem Cn.Row.levels {L:List Cn}(hL:Cn.Lv L Sy){r:List Cn}(h:Cn.Row L t r):∀(d:List Cn),d.Nodup->(∀x∈d,x∈r)->Cn.low d r->∀s,
  Cn.sum (Cn.cnt s) d<=t+1∧Cn.val s t d+2 ^ (t+1 - Cn.sum (Cn.cnt s) d)=2 ^ (t+1)∧(Cn.sum (Cn.top s) d=0->Cn.sum (Cn.cnt s) d=0):=by
 induction h with
|zero D hp=>
  intro d o hm p s;have j:∀x∈d,x.kM=true:=λx i=>by
   obtain⟨w,s,rfl,_⟩:=hL.leaf x (hp.mem_iff.1 (hm x i));rfl
  have H:=Cn.X7 hL o (λx i=>.inl (hp.mem_iff.1 (hm x i))) s;have e:=Cn.NN s d;rw[Cn.Mt j] at e;have e:Cn.sum (Cn.cnt s) d=Cn.sum (Cn.top s) d:=e;rw[e];refine⟨om,?_,λh=>h⟩;show Cn.sum (Cn.top s) d+_=_;rcases (by omega:Cn.sum (Cn.top s) d=0∨Cn.sum (Cn.top s) d=1) with h|h<;>rw[h]<;>decide
|@succ t q r l D hp I=>
  intro d o hm p s;have g:Cn.Row L (t+1) r:=.succ l D hp;obtain⟨J,E,K⟩:=Cn.Row.down hL l l.sorted hp o hm p;obtain⟨i1,i2,i3⟩:=I (Cn.kids d) J E K s;have H:=Cn.X7 hL o (λx i=>(g.nodup hL).2 x (hm x i)) s;have e:=Cn.NN s d;have M:Cn.sum (Cn.top s) d=0->Cn.sum (Cn.cnt s) (Cn.kids d)=0:=by
   intro T;refine i3 ?_;rcases aoP (Cn.sum (Cn.top s) (Cn.kids d)) with h|h
   ·exact h
   ·exfalso;obtain⟨x,i,k⟩:=Cn.SD h;cases x with
   |node a b=>exact absurd k (arB _)
   |leaf w u=>
     simp only[Cn.top] at k;have v:u=s:=by
      by_cases h:u=s
      ·exact h
      ·rw[amA h] at k;omega
     subst v;have z:Cn.leaf w u∈L:=((l.nodup hL).2 _ (E _ i)).resolve_right (by simp[Cn.kM]);have A:=g.has _ z;by_cases m:Cn.leaf w u∈d
     ·have:=Cn.Ou (f:=Cn.top u) m;simp only[Cn.top,if_true] at this;omega
     ·obtain⟨y,F,n⟩:=Cn.Gm.1 i;have c:=p y F _ A m;cases y with
     |leaf _ _=>cases n
     |node a b=>
       have G:=g.pos hL;have B:Cn.node a b∈Cn.bF q:=by
        rcases anF.1 (hp.mem_iff.1 (hm _ F)) with c|c
        ·obtain⟨w,s,h,_⟩:=hL.leaf _ c;cases h
        ·exact c
       obtain⟨a',U,e',N,O⟩:=Cn.fR B
       injection e' with P Q
       subst P;subst Q;have R:=l.pos hL _ N;have S:=l.pos hL _ O;have c:a.wt+b.wt<=w:=c;rcases amH.1 n with C|C
       ·rw[<-C] at c R;have c:w+b.wt<=w:=c;omega
       ·rw[<-anB.1 C] at c S;have c:a.wt+w<=w:=c;omega
  rw[e];show _∧Cn.sum (Cn.top s) d*2 ^ (t+1)+Cn.val s t (Cn.kids d)+_=_∧_;have V:2 ^ (t+1+1)=2*2 ^ (t+1):=by rw[aoN];omega
  rcases (by omega:Cn.sum (Cn.top s) d=0∨Cn.sum (Cn.top s) d=1) with h|h
  ·have c:=M h;rw[c] at i2 ⊢;rw[h];refine⟨om,?_,λ_=>rfl⟩;rw[asU] at i2;rw[apI,aoC,asU];omega
  ·rw[h];refine⟨om,?_,λh=>absurd h dc⟩;rw[show t+1+1 - (1+Cn.sum (Cn.cnt s) (Cn.kids d))=t+1 - Cn.sum (Cn.cnt s) (Cn.kids d) by omega,arP];omega
def Cn.over (Sy:List Nat)(f:Nat->Nat):Nat:=(Sy.map f).sum
theorem Cn.gG (s:Nat)(Sy:List Nat)(f:Nat->Nat):Cn.over (s::Sy) f=f s+Cn.over Sy f:=rfl
theorem Cn.F8 (f g:Nat->Nat):∀Sy:List Nat,Cn.over Sy (λs=>f s+g s)=Cn.over Sy f+Cn.over Sy g
|[]=>rfl
|s::Sy=>by rw[Cn.gG,Cn.gG,Cn.gG,Cn.F8 f g Sy];omega
theorem Cn.KJ (f:Nat->Nat)(k:Nat):∀Sy:List Nat,Cn.over Sy (λs=>f s*k)=Cn.over Sy f*k
|[]=>by simp[Cn.over]
|s::Sy=>by rw[Cn.gG,Cn.gG,Cn.KJ f k Sy,aoW]
theorem Cn.Ag {f g:Nat->Nat}:∀{Sy:List Nat},(∀s∈Sy,f s=g s)->Cn.over Sy f=Cn.over Sy g
|[],_=>rfl
|s::Sy,h=>by rw[Cn.gG,Cn.gG,h s (anQ ..),Cn.Ag λx a=>h x (anA _ a)]
theorem Cn.G8 {f:Nat->Nat}(h:∀s∈Sy,f s=0):Cn.over Sy f=0:=by
 rw[Cn.Ag h]
 induction Sy with
|nil=>rfl
|cons s Sy a=>rw[Cn.gG,a λx b=>h x (anA _ b)]
theorem Cn.JM (k:Nat):∀Sy:List Nat,Cn.over Sy (λ_=>k)=Sy.length*k
|[]=>by simp[Cn.over]
|s::Sy=>by rw[Cn.gG,Cn.JM k Sy,amW,aoM];omega
theorem Cn.U8 (a:Sy.Nodup){w:Nat}(b:t∈Sy):Cn.over Sy (λs=>Cn.top s (.leaf w t))=1:=by
 induction Sy with
|nil=>cases b
|cons s Sy c=>
  rw[asQ] at a;rw[Cn.gG];by_cases h:t=s
  ·subst h;rw[Cn.G8 λu hu=>?_]
   ·simp[Cn.top]
   ·simp only[Cn.top];rw[amA (λe=>a.1 (by rw[e];exact hu))]
  ·rw[c a.2 ((amH.1 b).resolve_left h)];simp[Cn.top,h]
def Cn.leaves (d:List Cn):Nat:=(d.filter Cn.kM).length
theorem Cn.Lh {L:List Cn}{Sy:List Nat}(hL:Cn.Lv L Sy):∀{d:List Cn},(∀x∈d,x∈L∨x.kM=au)->Cn.over Sy (λs=>Cn.sum (Cn.top s) d)=Cn.leaves d
|[],_=>Cn.G8 λ_ _=>rfl
|c::d,hm=>by
  have g:=Cn.Lh hL (d:=d) λx i=>hm x (anA _ i);have e:(λs=>Cn.sum (Cn.top s) (c::d))=λs=>Cn.top s c+Cn.sum (Cn.top s) d:=rfl;rw[e,Cn.F8,g];unfold Cn.leaves;rw[arU];cases c with
 |leaf w t=>
   obtain⟨w',l,h,_,j⟩:=hL.leaf _ ((hm _ (anQ ..)).resolve_right (by simp[Cn.kM]))
   injection h with _ k
   subst k;rw[Cn.U8 hL.nodupS j];simp only[Cn.kM,if_true,amW];omega
 |node a b=>
   rw[Cn.G8 (f:=λs=>Cn.top s (.node a b)) λ_ _=>rfl];simp[Cn.kM]
theorem Cn.nS:∀d:List Cn,(Cn.kids d).length+2*Cn.leaves d=2*d.length
|[]=>rfl
|c::d=>by
  have f:=Cn.nS d;have e:Cn.kids (c::d)=c.Ao++Cn.kids d:=by unfold Cn.kids;rw[aoR]
  unfold Cn.leaves at f ⊢;rw[e,amC,arU,amW];cases c with
 |leaf w t=>simp only[Cn.kM,if_true,amW,Cn.Ao,aqB];omega
 |node a b=>simp only[Cn.kM,aqO,if_false,Cn.Ao,amW,aqB];omega
theorem Cn.Row.worth {L:List Cn}(hL:Cn.Lv L Sy){r:List Cn}(h:Cn.Row L t r):∀(d:List Cn),d.Nodup->(∀x∈d,x∈r)->Cn.low d r->Cn.over Sy (λs=>Cn.val s t d)=d.length*2 ^ t:=by
 induction h with
|zero f hp=>
  intro d g hm i;have a:∀x∈d,x.kM=true:=λx b=>by
   obtain⟨w,s,rfl,_⟩:=hL.leaf x (hp.mem_iff.1 (hm x b));rfl
  show Cn.over Sy (λs=>Cn.sum (Cn.top s) d)=_;rw[Cn.Lh hL λx b=>.inl (hp.mem_iff.1 (hm x b))];have:=Cn.nS d;rw[Cn.Mt a] at this;simp only[aqB] at this;omega
|@succ t q r e f hp j=>
  intro d g hm i;have c:Cn.Row L (t+1) r:=.succ e f hp;obtain⟨k,l,m⟩:=Cn.Row.down hL e e.sorted hp g hm i;have n:=j (Cn.kids d) k l m;show Cn.over Sy (λs=>Cn.sum (Cn.top s) d*2 ^ (t+1)+Cn.val s t (Cn.kids d))=_;rw[Cn.F8,Cn.KJ,n,Cn.Lh hL λx b=>(c.nodup hL).2 x (hm x b)];have o:=Cn.nS d;have p:Cn.leaves d*2 ^ (t+1)=2*Cn.leaves d*2 ^ t:=by rw[aoN,aoY (2 ^ t) 2,<-arG,aoY (Cn.leaves d) 2]
  have u:d.length*2 ^ (t+1)=2*d.length*2 ^ t:=by rw[aoN,aoY (2 ^ t) 2,<-arG,aoY d.length 2]
  rw[p,u,<-aoW,<-o]
  congr 1
  omega
theorem Cn.Row.len {L:List Cn}{r:List Cn}(h:Cn.Row L t r):∀k,L.length<=k*2 ^ t->2*L.length<=r.length+k:=by
 induction h with
|zero _ hp=>
  intro k a;rw[hp.length_eq];omega
|@succ t q r c _ hp b=>
  intro k a;have d:=b (2*k) (by rw[aoN] at a;rw[aoY 2 k,arG,aoY 2];exact a);rw[hp.length_eq,amC,Cn.B8];omega
theorem Cn.Row.lt {L:List Cn}{r:List Cn}(h:Cn.Row L t r)(a:0 < L.length):r.length < 2*L.length:=by
 induction h with
|zero _ hp=>rw[hp.length_eq];omega
|@succ t q r b _ hp c=>
  rw[hp.length_eq,amC,Cn.B8];omega
theorem Cn.Qf {r:List Cn}(h:Cn.sorted r)(n:Nat):Cn.low (r.take n) r:=by
 intro x d y e f;have c:y∈r.drop n:=by
  have:y∈r.take n++r.drop n:=by rw[anR];exact e
  exact (anF.1 this).resolve_left f
 have g:(r.take n++r.drop n).Pairwise λa b=>a.wt<=b.wt:=by rw[anR];exact h
 exact (aqI.1 g).2.2 x d y c
theorem Cn.Row.code {L:List Cn}(hL:Cn.Lv L Sy){r:List Cn}(h:Cn.Row L m r)(n:2<=L.length)(o:L.length<=2 ^ (m+1)) :
  2*L.length - 2<=r.length∧(∀s∈Sy,1<=Cn.sum (Cn.cnt s) (r.take (2*L.length - 2))∧Cn.sum (Cn.cnt s) (r.take (2*L.length - 2))<=m+1) ∧
   Cn.over Sy (λs=>2 ^ (m+1 - Cn.sum (Cn.cnt s) (r.take (2*L.length - 2))))=2 ^ (m+1):=by
 have hle:=h.len 2 (by rw[aoN] at o;omega);have f:(r.take (2*L.length - 2)).Nodup:=(atK _ _).nodup (h.nodup hL).1;have hm:∀x∈r.take (2*L.length - 2),x∈r:=λx p=>aoO p;have b:=Cn.Qf h.sorted (2*L.length - 2);have c:=h.levels hL _ f hm b;have hw:=h.worth hL _ f hm b;rw[amL,anL om] at hw;generalize z:r.take (2*L.length - 2)=d at f hm b c hw ⊢;have e:Cn.over Sy (λs=>Cn.val s m d+2 ^ (m+1 - Cn.sum (Cn.cnt s) d))=Sy.length*2 ^ (m+1):=by
  rw[Cn.Ag λs _=>(c s).2.1,Cn.JM]
 rw[Cn.F8,hw,<-hL.len] at e;have A:(2*L.length - 2)*2 ^ m=(L.length - 1)*2 ^ (m+1):=by
  rw[aoN,aoY (2 ^ m) 2,<-arG]
  congr 1
  omega
 have B:L.length*2 ^ (m+1)=(L.length - 1)*2 ^ (m+1)+2 ^ (m+1):=by
  conv=>lhs;rw[show L.length=L.length - 1+1 by omega,aoM]
 have q:Cn.over Sy (λs=>2 ^ (m+1 - Cn.sum (Cn.cnt s) d))=2 ^ (m+1):=om
 refine⟨om,λs v=>⟨?_,(c s).1⟩,q⟩
 -- a symbol aQ a j g fill w sum alone
 rcases aoP (Cn.sum (Cn.cnt s) d) with i|i
 ·exfalso;have hlen:2<=Sy.length:=by rw[<-hL.len];exact n
  have key:∀(l:List Nat),s∈l->2<=l.length->2 ^ (m+1) < Cn.over l (λs=>2 ^ (m+1 - Cn.sum (Cn.cnt s) d)):=by
   intro l k y;have hp:=(auR k).map λs=>2 ^ (m+1 - Cn.sum (Cn.cnt s) d);have hp:=hp.sum_nat;have hlen:=(auR k).length_eq;unfold Cn.over;rw[hp,anS,aqC,i,asU];cases he:l.erase s with
  |nil=>rw[he] at hlen;simp at hlen;omega
  |cons u t=>
    rw[anS,aqC];have:=atF (m+1 - Cn.sum (Cn.cnt u) d);omega
  have:=key Sy v hlen;omega
 ·exact i
theorem Cn.Row.none {L:List Cn}(hL:Cn.Lv L Sy){s:Nat}(d:s ∉ Sy){r:List Cn}(h:Cn.Row L t r):∀x∈r,Cn.cnt s x=0:=by
 induction h with
|zero _ hp=>
  intro x c;obtain⟨w,u,rfl,_,hu⟩:=hL.leaf x (hp.mem_iff.1 c);simp only[Cn.cnt];rw[amA (λe=>d (by rw[<-e];exact hu))]
|succ j _ hp f=>
  intro x c;rcases anF.1 (hp.mem_iff.1 c) with h|h
  ·obtain⟨w,u,rfl,_,hu⟩:=hL.leaf x h;simp only[Cn.cnt];rw[amA (λe=>d (by rw[<-e];exact hu))]
  ·obtain⟨a,b,rfl,g,i⟩:=Cn.fR h;show Cn.cnt s a+Cn.cnt s b=0;rw[f a g,f b i]
structure Df.LV (counts lens:List Nat) (most:Nat):Prop where
 len:lens.length=counts.length
 le:∀x∈lens,x<=most
 chk:bh lens=0
 pos:∀i,0 < counts.getD i 0->0 < lens.getD i 0
def da (counts:List Nat):List Nat:=(List.range counts.length).filter λi=>ai (0 < counts.getD i 0)
theorem kd {s:Nat}:s∈da counts↔0 < counts.getD s 0:=by
 unfold da;rw[List.mem_filter,aoE,anI];refine⟨λh=>h.2,λh=>⟨?_,h⟩⟩;rcases anE s counts.length with a|a
 ·exact a
 ·rw[amI,aoU a] at h;exact absurd h (arB _)
theorem vf (counts:List Nat):(da counts).Nodup:=List.nodup_range.filter _
def ke (counts:List Nat):List Cn:=(da counts).map λs=>.leaf (counts.getD s 0) s
theorem vh (counts:List Nat):Cn.Lv (ke counts) (da counts) where
 leaf:=λx g=>by
  obtain⟨s,c,rfl⟩:=anK.1 g;exact⟨_,_,rfl,kd.1 c,c⟩
 has:=λs c=>⟨_,anK.2 ⟨s,c,rfl⟩⟩
 uniq:=λw v s i j=>by
  obtain⟨a,_,d⟩:=anK.1 i;obtain⟨b,_,f⟩:=anK.1 j
  injection d with d k
  injection f with f l
  rw[<-d,<-f,k,l]
 nodup:=by
  unfold ke;rw[List.nodup_iff_pairwise_ne,List.pairwise_map];refine (List.nodup_iff_pairwise_ne.1 (vf counts)).imp λh e=>?_
  injection e with _ e
  exact h e
 nodupS:=vf counts
 len:=by unfold ke;rw[anP]
theorem vi (f:Nat->Nat):∀(l:List Nat),((l.map f).map λx=>if x=0 then 0 else 2 ^ (15 - x)).sum=Cn.over (l.filter λs=>ai (0 < f s)) (λs=>2 ^ (15 - f s))
|[]=>rfl
|s::l=>by
  have a:=vi f l;rw[anS,anS,aqC,a,arU];by_cases h:0 < f s
  ·rw[amA om,amB (by simpa using h),Cn.gG]
  ·rw[amB om,amA (by simpa using h),amO]
theorem BY {lens:List Nat}{r:List Cn}(hm:m < 15)(h:Cn.Row (ke counts) m r)(n:2<=(da counts).length)(o:(da counts).length<=2 ^ (m+1))(u:counts.length<=288)(p:lens.length=counts.length)
  (f:∀s,s < counts.length->lens.getD s 0=Cn.sum (Cn.cnt s) (r.take (2*(da counts).length - 2))):Df.LV counts lens (m+1):=by
 have hL:=vh counts;rw[<-hL.len] at n o f;obtain⟨v,k,c3⟩:=h.code hL n o;have j:∀{s},0 < counts.getD s 0->s < counts.length:=λ{s} h=>by
  rcases anE s counts.length with l|l
  ·exact l
  ·rw[amI,aoU l] at h;exact absurd h (arB _)
 have c:∀i,0 < counts.getD i 0->0 < lens.getD i 0:=λi hi=>by
  rw[f i (j hi)];exact (k i (kd.2 hi)).1
 have hzero:∀i,i < counts.length->¬0 < counts.getD i 0->lens.getD i 0=0:=λi hi b=>by
  rw[f i hi];exact Cn.J7 λx d=>h.none hL (λhm=>b (kd.1 hm)) x (aoO d)
 have a:lens=(List.range counts.length).map λi=>lens.getD i 0:=by rw[<-p];exact (ra lens).symm
 have hle:∀x∈lens,x<=m+1:=by
  intro x d;rw[a] at d;obtain⟨i,hi,rfl⟩:=anK.1 d;have hi:=aoE.1 hi;by_cases b:0 < counts.getD i 0
  ·rw[f i hi];exact (k i (kd.2 b)).2
  ·rw[hzero i hi b];exact anG _
 have q:lr lens=2 ^ 15:=by
  unfold lr;rw[a,vi];have t:((List.range counts.length).filter λs=>ai (0 < lens.getD s 0))=da counts:=by
   unfold da;refine List.filter_congr λs e=>?_;have e:=aoE.1 e;by_cases b:0 < counts.getD s 0
   ·rw[amG b,amG (c s b)]
   ·rw[amE b,amE (by rw[hzero s e b];omega)]
  rw[t,Cn.Ag (g:=λs=>2 ^ (m+1 - Cn.sum (Cn.cnt s) (r.take (2*(ke counts).length - 2)))*2 ^ (15 - (m+1))) λs e=>?_,Cn.KJ,c3,<-Nat.pow_add,show m+1+(15 - (m+1))=15 by omega];have:=(k s e).2;rw[f s (j (kd.1 e)),<-Nat.pow_add]
  congr 1
  omega
 refine⟨p,hle,?_,c⟩;unfold bh;rw[amA om];unfold Fl.check;rw[<-rn λx d=>by have:=hle x d;omega,q,amB (.inl rfl)]
theorem vj {lens:List Nat}(h:∀x∈lens,x=0):∀m,Fl.bC lens m=0
|0=>rfl
|m+1=>by
  rw[Fl.bC,vj h m,List.count_eq_zero_of_not_mem λhm=>by have:=h _ hm;omega]
theorem B0 (b:counts.length<=288)(h:da counts=[])(most:Nat):Df.LV counts (List.replicate counts.length 0) most where
 len:=anU
 le:=λx a=>by rw[apP a];exact anG _
 chk:=by
  unfold bh;rw[anU,amA om];unfold Fl.check;rw[amB (.inr (.inl (vj (λx a=>apP a) 15)))]
 pos:=λi hi=>by
  have:=kd.2 hi;rw[h] at this;cases this
theorem C0 (o:counts.length<=288){s:Nat}(h:da counts=[s])(hm:1<=most):Df.LV counts ((List.replicate counts.length 0).set s 1) most:=by
 have d:0 < counts.getD s 0:=kd.1 (by rw[h];exact atY s);have b:s < counts.length:=by
  rcases anE s counts.length with c|c
  ·exact c
  ·rw[amI,aoU c] at d;exact absurd d (arB _)
 have e:(List.replicate counts.length 0).set s 1=List.replicate s 0++1::List.replicate (counts.length - s - 1) 0:=by
  conv=>lhs;rw[show counts.length=s+((counts.length - s - 1)+1) by omega,<-List.replicate_append_replicate,arA _ _ sm,anU,apD,atC,aoX]
 have a:∀l,0 < l->((List.replicate counts.length 0).set s 1).count l=if l=1 then 1 else 0:=by
  intro l p;rw[e,aqR,List.count_cons,auS,auS];by_cases f:l=1
  ·subst f;simp
  ·have g:(1==l)=false:=by simp;omega
   have j:(0==l)=false:=by simp;omega
   rw[g,j];simp[f]
 have hu:∀m,Fl.bC ((List.replicate counts.length 0).set s 1) (m+1)=1:=by
  intro m
  induction m with
 |zero=>rw[Fl.bC,Fl.bC,a _ om];rfl
 |succ m k=>rw[Fl.bC,k,a _ om,amA om]
 refine⟨sm,λx n=>?_,?_,λi hi=>?_⟩
 ·rcases asL n with h|h
  ·rw[apP h];omega
  ·omega
 ·unfold bh;rw[aoV,anU,amA om];unfold Fl.check;rw[amB (.inr (.inr ⟨hu 14,by rw[a 1 dc];rfl⟩))]
 ·have:=kd.2 hi;rw[h] at this;rw[anB.1 this,amI,apN (by simpa using b)]
  decide
theorem nr (a:List Nat)(k:Nat){l:Nat}(c:0 < l):(a++List.replicate k 0).count l=a.count l:=by
 rw[aqR,auS];have b:(0==l)=false:=by simp;omega
 rw[b];simp
theorem vm (a:List Nat)(k:Nat):∀m,Fl.gC (a++List.replicate k 0) m=Fl.gC a m
|0=>rfl
|m+1=>by rw[Fl.gC,Fl.gC,vm a k m,nr a k om]
theorem vo (a:List Nat)(k:Nat):∀m,Fl.bC (a++List.replicate k 0) m=Fl.bC a m
|0=>rfl
|m+1=>by rw[Fl.bC,Fl.bC,vo a k m,nr a k om]
theorem vq (a:List Nat)(k:Nat):∀m,Fl.first (a++List.replicate k 0) m=Fl.first a m
|0=>rfl
|1=>rfl
|m+2=>by rw[Fl.first,Fl.first,vq a k (m+1),nr a k om]
theorem vt {a:List Nat}{k:Nat}(h:bh (a++List.replicate k 0)=0):bh a=0:=by
 unfold bh at h ⊢;split at h
 ·cases h
 ·rename_i b
  rw[amC] at b;rw[amA om];unfold Fl.check at h ⊢;rw[vm,vo,nr a k dc] at h;exact h
theorem nt (a:List Nat)(k i:Nat):(a++List.replicate k 0).getD i 0=a.getD i 0:=by
 rw[amI,amI];rcases anE i a.length with h|h
 ·rw[aoL h]
 ·rw[aoQ h,aoU (l:=a) h,asK];split<;>rfl
theorem vu (a:List Nat)(k i:Nat):dh (a++List.replicate k 0) i=dh a i:=by
 unfold dh;rw[nt];by_cases b:a.getD i 0=0
 ·rw[b];rfl
 ·congr 1
  unfold cg;rw[nt,amA b,amA b,vq];have hi:i < a.length:=by
   rcases anE i a.length with h|h
   ·exact h
   ·rw[amI,aoU h] at b;exact absurd rfl b
  rw[atL om]
theorem D0 (a b:List Nat)(k j:Nat)(x:bj):ei (a++List.replicate k 0) (b++List.replicate j 0) x=ei a b x:=by
 unfold ei;simp only[vu]
theorem E0 (a b:List Nat)(k j:Nat)(l:List bj):cy (a++List.replicate k 0) (b++List.replicate j 0) l=cy a b l:=by
 unfold cy;rw[vu]
 congr 1
 induction l with
|nil=>rfl
|cons x l c=>rw[aoR,aoR,c,D0]
theorem vv {n:Nat}(c:n<=l.length)(h:∀j,n<=j->l.getD j 0=0):l=l.take n++List.replicate (l.length - n) 0:=by
 refine atT (by simp;omega) λi b d=>?_;rcases anE i n with a|a
 ·rw[List.getElem_append_left (by simp;omega),asC]
 ·have:=h i a;rw[amI,amN b] at this;rw[auQ (by simp;omega),List.getElem_replicate];exact this
section
namespace Srt
section
variable {α:Type}(d:α)(wt:α->Nat)
def sw (xs:List α)(i j:Nat):List α:=(xs.set i (xs.getD j d)).set j (xs.getD i d)
def lt (x y:α):Bool:=ai (wt x < wt y)
def insJ (a:Nat):Nat->List α->List α
|0,xs=>xs
|j+1,xs=>if a < j+1∧lt wt (xs.getD (j+1) d) (xs.getD j d)=av then insJ a j (sw d xs (j+1) j) else xs
def insI (a:Nat):Nat->Nat->List α->List α
|0,_,xs=>xs
|n+1,i,xs=>insI a n (i+1) (insJ d wt a i xs)
def ins (xs:List α)(a b:Nat):List α:=insI d wt a (b - (a+1)) (a+1) xs
def swr:Nat->Nat->Nat->List α->List α
|0,_,_,xs=>xs
|n+1,a,b,xs=>swr n (a+1) (b+1) (sw d xs a b)
def rot:Nat->Nat->Nat->Nat->List α->List α
|0,_,_,_,xs=>xs
|f+1,i,j,m,xs=>if i=j then swr d i (m - i) m xs else if j < i then rot f (i - j) j m (swr d j (m - i) m xs) else rot f i (j - i) m (swr d i (m - i) (m+j - i) xs)
def bs (p:Nat->Bool):Nat->Nat->Nat->Nat
|0,i,_=>i
|f+1,i,j=>if i < j then (if p ((i+j) / 2)=av then bs p f i ((i+j) / 2) else bs p f ((i+j) / 2+1) j) else i
def up:Nat->Nat->List α->List α
|0,_,xs=>xs
|n+1,k,xs=>up n (k+1) (sw d xs k (k+1))
def down:Nat->Nat->List α->List α
|0,_,xs=>xs
|n+1,k,xs=>down n (k - 1) (sw d xs k (k - 1))
def symS (xs:List α)(a m b:Nat):Nat:=bs (λc=>lt wt (xs.getD ((a+b) / 2+m - 1 - c) d) (xs.getD c d)) (b - a) (if (a+b) / 2 < m then (a+b) / 2+m - b else a) (if (a+b) / 2 < m then (a+b) / 2 else m)
def sym:Nat->Nat->Nat->Nat->List α->List α
|0,_,_,_,xs=>xs
|f+1,a,m,b,xs=>
  if m - a=1 then up d (bs (λh=>!lt wt (xs.getD h d) (xs.getD a d)) (b - m) m b - 1 - a) a xs
  else if b - m=1 then down d (m - bs (λh=>lt wt (xs.getD m d) (xs.getD h d)) (m - a) a m) m xs
  else
   let c:=(a+b) / 2
   let s:=symS d wt xs a m b
   let e:=c+m - s
   let g:=if s < m∧m < e then rot d (e - s) (m - s) (e - m) m xs else xs
   let i:=if a < s∧s < c then sym f a s c g else g
   if c < e∧e < b then sym f c e b i else i
def blk (n:Nat):Nat->Nat->List α->List α
|0,_,xs=>xs
|f+1,a,xs=>if a+n<=xs.length then blk n f (a+n) (ins d wt xs a (a+n)) else ins d wt xs a xs.length
def mrg (n:Nat):Nat->Nat->List α->List α
|0,_,xs=>xs
|f+1,a,xs=>if a+2*n<=xs.length then mrg n f (a+2*n) (sym d wt (2*n) a (a+n) (a+2*n) xs) else if a+n < xs.length then sym d wt (xs.length - a) a (a+n) xs.length xs else xs
def rounds:Nat->Nat->List α->List α
|0,_,xs=>xs
|f+1,n,xs=>if n < xs.length then rounds f (2*n) (mrg d wt n (xs.length+1) 0 xs) else xs
def JG (xs:List α):List α:=rounds d wt (xs.length+1) 20 (blk d wt 20 (xs.length+1) 0 xs)
end
section
variable {α:Type}{d:α}{wt:α->Nat}
theorem E6 {xs:List α}:(sw d xs i j).length=xs.length:=by unfold sw;rw[aoV,aoV]
theorem QI {a:Nat}:∀(j:Nat) (xs:List α),(insJ d wt a j xs).length=xs.length
|0,_=>rfl
|j+1,xs=>by
  unfold insJ;split
  ·rw[QI j,E6]
  ·rfl
theorem Qv {a:Nat}:∀(n i:Nat) (xs:List α),(insI d wt a n i xs).length=xs.length
|0,_,_=>rfl
|n+1,i,xs=>by unfold insI;rw[Qv n,QI]
theorem Uy {xs:List α}{a:Nat}:(ins d wt xs a b).length=xs.length:=Qv _ _ _
theorem El:∀(n a b:Nat) (xs:List α),(swr d n a b xs).length=xs.length
|0,_,_,_=>rfl
|n+1,a,b,xs=>by unfold swr;rw[El n,E6]
theorem Kx:∀(f i j m:Nat) (xs:List α),(rot d f i j m xs).length=xs.length
|0,_,_,_,_=>rfl
|f+1,i,j,m,xs=>by
  unfold rot;split
  ·rw[El]
  ·split
   ·rw[Kx f,El]
   ·rw[Kx f,El]
theorem Yn:∀(n k:Nat) (xs:List α),(up d n k xs).length=xs.length
|0,_,_=>rfl
|n+1,k,xs=>by unfold up;rw[Yn n,E6]
theorem Qo:∀(n k:Nat) (xs:List α),(down d n k xs).length=xs.length
|0,_,_=>rfl
|n+1,k,xs=>by unfold down;rw[Qo n,E6]
theorem Gt:∀(f a m b:Nat) (xs:List α),(sym d wt f a m b xs).length=xs.length
|0,_,_,_,_=>rfl
|f+1,a,m,b,xs=>by
  unfold sym;split
  ·rw[Yn]
  ·split
   ·rw[Qo]
   ·dsimp only;have e:(if symS d wt xs a m b < m∧m < (a+b) / 2+m - symS d wt xs a m b then rot d ((a+b) / 2+m - symS d wt xs a m b - symS d wt xs a m b) (m - symS d wt xs a m b) ((a+b) / 2+m - symS d wt xs a m b - m) m xs else xs).length=xs.length:=by
     split
     ·rw[Kx]
     ·rfl
    generalize (if symS d wt xs a m b < m∧m < (a+b) / 2+m - symS d wt xs a m b then rot d ((a+b) / 2+m - symS d wt xs a m b - symS d wt xs a m b) (m - symS d wt xs a m b) ((a+b) / 2+m - symS d wt xs a m b - m) m xs else xs)=c at e ⊢;have g:(if a < symS d wt xs a m b∧symS d wt xs a m b < (a+b) / 2 then sym d wt f a (symS d wt xs a m b) ((a+b) / 2) c else c).length=xs.length:=by
     split
     ·rw[Gt f,e]
     ·exact e
    generalize (if a < symS d wt xs a m b∧symS d wt xs a m b < (a+b) / 2 then sym d wt f a (symS d wt xs a m b) ((a+b) / 2) c else c)=h at g ⊢;split
    ·rw[Gt f,g]
    ·exact g
theorem getD_at {P R:List α}{x:α}:(P++x::R).getD P.length d=x:=by
 rw[amI,aoQ (amJ _),apD];rfl
theorem getD_in {P V R:List α}(hi:i < V.length):(P++(V++R)).getD (P.length+i) d=V.getD i d:=by
 rw[amI,aoQ om,arQ,aoL hi,amI]
theorem XY (P R Q:List α)(x y:α)(hi:i=P.length)(a:j=P.length+1+R.length):sw d (P++x::(R++y::Q)) i j=P++y::(R++x::Q):=by
 subst hi;subst a;have b:(P++x::(R++y::Q)).getD (P.length+1+R.length) d=y:=by
  rw[show P++x::(R++y::Q)=(P++x::R)++y::Q by simp,show P.length+1+R.length=(P++x::R).length by simp;omega];exact getD_at
 unfold sw;rw[b,getD_at,arA _ _ (amJ _),apD,aoX,arA _ _ om,show P.length+1+R.length - P.length=R.length+1 by omega,List.set_cons_succ,arA _ _ (amJ _),apD,aoX]
theorem Ue (P R Q:List α)(x y:α)(hi:i=P.length)(a:j=P.length+1+R.length):sw d (P++x::(R++y::Q)) j i=P++y::(R++x::Q):=by
 subst hi;subst a;have b:(P++x::(R++y::Q)).getD (P.length+1+R.length) d=y:=by
  rw[show P++x::(R++y::Q)=(P++x::R)++y::Q by simp,show P.length+1+R.length=(P++x::R).length by simp;omega];exact getD_at
 unfold sw;rw[b,getD_at,arA _ _ om,show P.length+1+R.length - P.length=R.length+1 by omega,List.set_cons_succ,arA _ _ (amJ _),apD,aoX,arA _ _ (amJ _),apD,aoX]
theorem KH:∀(U V P R Q:List α) {a b:Nat},U.length=V.length->a=P.length->b=P.length+U.length+R.length->swr d U.length a b (P++(U++(R++(V++Q))))=P++(V++(R++(U++Q)))
|[],[],P,R,Q,a,b,_,_,_=>rfl
|u::U,v::V,P,R,Q,a,b,h,c,f=>by
  simp only[amW] at h f;show swr d U.length (a+1) (b+1) (sw d (P++(u::U++(R++(v::V++Q)))) a b)=_;have e:P++(u::U++(R++(v::V++Q)))=P++u::((U++R)++v::(V++Q)):=sm
  rw[e,XY P (U++R) (V++Q) u v c (by rw[amC];omega)];have g:P++v::((U++R)++u::(V++Q))=(P++[v])++(U++((R++[u])++(V++Q))):=sm
  rw[g,KH U V (P++[v]) (R++[u]) Q om (by simp;omega) (by simp;omega)];simp
theorem Nl:∀(f:Nat) (P U V Q:List α) {m:Nat},U.length+V.length<=f->0 < U.length->0 < V.length->m=P.length+U.length->rot d f U.length V.length m (P++(U++(V++Q)))=P++(V++(U++Q))
|0,_,U,V,_,_,h,p,_,_=>by omega
|f+1,P,U,V,Q,m,h,p,q,hm=>by
  unfold rot;by_cases k:U.length=V.length
  ·rw[amB k];exact KH U V P [] Q k om (by simp;omega)
  rw[amA k];by_cases c:V.length < U.length
  ·rw[amB c];have n:U.take V.length++U.drop V.length=U:=anR ..
   have g:(U.take V.length).length=V.length:=by rw[amL];omega
   have j:(U.drop V.length).length=U.length - V.length:=amQ;have e:=KH (d:=d) (U.take V.length) V P (U.drop V.length) Q (a:=m - U.length) (b:=m) g om om;rw[g] at e;have l:P++(U.take V.length++(U.drop V.length++(V++Q)))=P++(U++(V++Q)):=by rw[<-amM (U.take V.length),n]
   rw[l] at e;rw[e];have i:=Nl f (P++V) (U.drop V.length) (U.take V.length) Q (m:=m) om om om (by rw[amC];omega);rw[g,j] at i;rw[<-amM P,i,<-amM (U.take V.length),n,amM]
  ·rw[amA c];have o:V.take (V.length - U.length)++V.drop (V.length - U.length)=V:=anR ..
   have g:(V.take (V.length - U.length)).length=V.length - U.length:=by rw[amL];omega
   have j:(V.drop (V.length - U.length)).length=U.length:=by rw[amQ];omega
   have e:=KH (d:=d) U (V.drop (V.length - U.length)) P (V.take (V.length - U.length)) Q (a:=m - U.length) (b:=m+V.length - U.length) j.symm om om;have l:P++(U++(V.take (V.length - U.length)++(V.drop (V.length - U.length)++Q)))=P++(U++(V++Q)):=by rw[<-amM (V.take _),o]
   rw[l] at e;rw[e];have i:=Nl f P (V.drop (V.length - U.length)) (V.take (V.length - U.length)) (U++Q) (m:=m) om om om om;rw[g,j] at i;rw[i,<-amM (V.take _),o]
theorem Yq:∀(V P Q:List α) (u:α) {k:Nat},k=P.length->up d V.length k (P++u::(V++Q))=P++(V++u::Q)
|[],P,Q,u,k,_=>rfl
|v::V,P,Q,u,k,a=>by
  show up d V.length (k+1) (sw d (P++u::([]++v::(V++Q))) k (k+1))=_;rw[XY P [] (V++Q) u v a (by simp;omega)];have e:P++v::([]++u::(V++Q))=(P++[v])++u::(V++Q):=sm
  rw[e,Yq V (P++[v]) Q u (by simp;omega)];simp
theorem Qq:∀(n:Nat) (V P Q:List α) (u:α) {k:Nat},V.length=n->k=P.length+n->down d n k (P++(V++u::Q))=P++u::(V++Q)
|0,V,P,Q,u,k,h,f=>by
  have:V=[]:=apZ.1 h;subst this;rfl
|n+1,V,P,Q,u,k,h,f=>by
  have a:V≠[]:=λe=>by rw[e] at h;simp at h
  have b:=atU a;have c:V.dropLast.length=n:=by rw[auT];omega
  show down d n (k - 1) (sw d (P++(V++u::Q)) k (k - 1))=_;generalize V.getLast a=v at b;generalize V.dropLast=W at b c;subst b;have e:P++(W++[v]++u::Q)=(P++W)++v::([]++u::Q):=sm
  rw[e,Ue (P++W) [] Q v u (by rw[amC];omega) (by simp;omega)];have g:(P++W)++u::([]++v::Q)=P++(W++u::(v::Q)):=sm
  rw[g,Qq n W P (v::Q) u c om];simp
theorem Vc {p:Nat->Bool}:∀(f i j:Nat),j - i<=f->i<=j->(∀c e,i<=c->c<=e->e < j->p c=av->p e=av) ->
  i<=bs p f i j∧bs p f i j<=j∧(∀c,i<=c->c < bs p f i j->p c=au)∧(∀c,bs p f i j<=c->c < j->p c=av)
|0,i,j,o,k,_=>⟨amJ _,k,λc g d=>absurd d (by unfold bs;omega),λc g d=>by unfold bs at g;omega⟩
|f+1,i,j,o,k,hm=>by
  unfold bs;by_cases h:i < j
  ·rw[amB h];by_cases hp:p ((i+j) / 2)=av
   ·rw[amB hp];obtain⟨a,b,c,e⟩:=Vc f i ((i+j) / 2) om om λc e g d n m=>hm c e g d om m;refine⟨a,om,c,λx g d=>?_⟩;rcases anE x ((i+j) / 2) with l|l
    ·exact e x g l
    ·exact hm _ x om l d hp
   ·rw[amA hp];obtain⟨a,b,c,e⟩:=Vc f ((i+j) / 2+1) j om om λc e g d n m=>hm c e om d n m;refine⟨om,b,λx g d=>?_,e⟩;rcases anE ((i+j) / 2) x with l|l
    ·exact c x om d
    ·cases q:p x with
    |false=>rfl
    |true=>exact absurd (hm x _ g l om q) hp
  ·rw[amA h];exact⟨amJ _,k,λc g d=>by omega,λc g d=>by omega⟩
end
end Srt
end
section
namespace Srt
section
variable {α:Type}{d:α}{wt:α->Nat}
def srt (wt:α->Nat)(l:List α):Prop:=l.Pairwise λx y=>wt x<=wt y
theorem HQ {A B:List α}(a:srt wt A)(b:srt wt B)(h:∀x∈A,∀y∈B,wt x<=wt y):srt wt (A++B):=aqI.2 ⟨a,b,h⟩
theorem wS {V:List α}(h:srt wt V)(c:i<=j)(a:j < V.length):wt (V.getD i d)<=wt (V.getD j d):=by
 rw[amI,amI,amN a,amN om];rcases anE i j with b|b
 ·exact aqV.1 h i j om a b
 ·obtain rfl:i=j:=om
  exact amJ _
theorem jN {V:List α}{P:α->Prop}{k:Nat}(h:∀i,i < k->i < V.length->P (V.getD i d)):∀x∈V.take k,P x:=by
 intro x a;obtain⟨i,hi,rfl⟩:=apS a;rw[amL] at hi;have:=h i om om;rw[amI,amN om] at this;rw[asC];exact this
theorem Kk {V:List α}{P:α->Prop}{k:Nat}(h:∀i,k<=i->i < V.length->P (V.getD i d)):∀x∈V.drop k,P x:=by
 intro x a;obtain⟨i,hi,rfl⟩:=apS a;rw[amQ] at hi;have:=h (k+i) om om;rw[amI,amN om] at this;rw[List.getElem_drop];exact this
theorem Af {V:List α}(h:srt wt V)(k:Nat):srt wt (V.take k):=List.Pairwise.sublist (atK k V) h
theorem DJ {V:List α}(h:srt wt V)(k:Nat):srt wt (V.drop k):=List.Pairwise.sublist (List.drop_sublist k V) h
theorem K8 {P U R:List α}{c:Nat}(a:P.length<=c)(b:c < P.length+U.length):(P++(U++R)).getD c d=U.getD (c - P.length) d:=by
 have:=getD_in (d:=d) (P:=P) (V:=U) (R:=R) (i:=c - P.length) om;rw[show P.length+(c - P.length)=c by omega] at this;exact this
theorem Dj {P U V R:List α}{c:Nat}(a:P.length+U.length<=c)(b:c < P.length+U.length+V.length):(P++(U++(V++R))).getD c d=V.getD (c - (P.length+U.length)) d:=by
 rw[<-amM P,K8 (by rw[amC];exact a) (by rw[amC];exact b),amC]
theorem ZW (P V Q:List α)(u:α)(f:Nat)(g:srt wt V){a:Nat}(t:a=P.length)(hm:m=P.length+1)(E:b=m+V.length) :
  ∃W,sym d wt (f+1) a m b (P++u::(V++Q))=P++(W++Q)∧W.Perm (u::V)∧srt wt W:=by
 have l:∀c,m<=c->c < b->(P++u::(V++Q)).getD c d=V.getD (c - m) d:=λc n o=>by
  have:=Dj (d:=d) (P:=P) (U:=[u]) (V:=V) (R:=Q) (c:=c) (by simp;omega) (by simp;omega);rw[show P++u::(V++Q)=P++([u]++(V++Q)) by simp,this]
  congr 1
  simp;omega
 have hu:(P++u::(V++Q)).getD a d=u:=by rw[t];exact getD_at
 unfold sym;rw[amB om];obtain⟨s1,s2,v,w⟩:=Vc (p:=λh=>!lt wt ((P++u::(V++Q)).getD h d) ((P++u::(V++Q)).getD a d)) (b - m) m b om om (by
  intro c e n o A B;simp only[l c n om,l e om A,hu,lt,arL,apK] at B ⊢;have:=wS (d:=d) g (i:=c - m) (j:=e - m) om om;omega)
 generalize bs (λh=>!lt wt ((P++u::(V++Q)).getD h d) ((P++u::(V++Q)).getD a d)) (b - m) m b=s at s1 s2 v w ⊢;have C:(V.take (s - m)).length=s - m:=by rw[amL];omega
 have e:=Yq (d:=d) (V.take (s - m)) P (V.drop (s - m)++Q) u (k:=a) t;rw[<-amM (V.take (s - m)),anR,C] at e;rw[show s - 1 - a=s - m by omega,e];refine⟨V.take (s - m)++u::V.drop (s - m),sm,?_,?_⟩
 ·have h:(V.take (s - m)++u::V.drop (s - m)).Perm (u::(V.take (s - m)++V.drop (s - m))):=List.perm_middle
  rwa [anR] at h
 ·refine HQ (Af g _) (apC.2 ⟨?_,DJ g _⟩) ?_
  ·refine Kk (d:=d) (P:=λy=>wt u<=wt y) λi n o=>?_;have:=w (i+m) om om;simp only[l (i+m) om om,hu,lt,arL,apK] at this;rw[aqQ] at this;omega
  ·intro x z y q;have D:wt x < wt u:=jN (d:=d) (P:=λy=>wt y < wt u) (λi n o=>by
    have:=v (i+m) om om;simp only[l (i+m) om om,hu,lt,Bool.not_eq_false',anI] at this;rw[aqQ] at this;exact this) x z
   rcases amH.1 q with rfl|q
   ·omega
   ·have:=Af g V.length;have r:(V.take (s - m)++V.drop (s - m)).Pairwise λx y=>wt x<=wt y:=by rw[anR];exact g
    exact (aqI.1 r).2.2 x z y q
theorem XC (P U Q:List α)(v:α)(f:Nat)(hu:srt wt U){a:Nat}(A:a=P.length)(hm:m=a+U.length)(F:b=m+1)(B:m - a≠1) :
  ∃W,sym d wt (f+1) a m b (P++(U++v::Q))=P++(W++Q)∧W.Perm (U++[v])∧srt wt W:=by
 have g:∀c,a<=c->c < m->(P++(U++v::Q)).getD c d=U.getD (c - a) d:=λc l n=>by
  rw[K8 om om,A]
 have o:(P++(U++v::Q)).getD m d=v:=by
  rw[<-amM,show m=(P++U).length by rw[amC];omega];exact getD_at
 unfold sym;rw[amA B,amB om];obtain⟨s1,s2,u,w⟩:=Vc (p:=λh=>lt wt ((P++(U++v::Q)).getD m d) ((P++(U++v::Q)).getD h d)) (m - a) a m om om (by
  intro c e l n C D;simp only[g c l om,g e om C,o,lt,anI] at D ⊢;have:=wS (d:=d) hu (i:=c - a) (j:=e - a) om om;omega)
 generalize bs (λh=>lt wt ((P++(U++v::Q)).getD m d) ((P++(U++v::Q)).getD h d)) (m - a) a m=s at s1 s2 u w ⊢;have G:(U.take (s - a)).length=s - a:=by rw[amL];omega
 have E:(U.drop (s - a)).length=m - s:=by rw[amQ];omega
 have e:=Qq (d:=d) (m - s) (U.drop (s - a)) (P++U.take (s - a)) Q v (k:=m) E (by rw[amC];omega);rw[amM,<-amM (U.take (s - a)),anR] at e;rw[e];refine⟨U.take (s - a)++v::U.drop (s - a),sm,?_,?_⟩
 ·have h:(U.take (s - a)++v::U.drop (s - a)).Perm (v::(U.take (s - a)++U.drop (s - a))):=List.perm_middle;rw[anR] at h;exact h.trans (asB (l₁:=[v]) (l₂:=U))
 ·refine HQ (Af hu _) (apC.2 ⟨?_,DJ hu _⟩) ?_
  ·refine Kk (d:=d) (P:=λy=>wt v<=wt y) λi l n=>?_;have:=w (i+a) om om;simp only[g (i+a) om om,o,lt,anI] at this;rw[aqQ] at this;omega
  ·intro x z y q;have r:wt x<=wt v:=jN (d:=d) (P:=λy=>wt y<=wt v) (λi l n=>by
    have:=u (i+a) om om;simp only[g (i+a) om om,o,lt,apK] at this;rw[aqQ] at this;omega) x z
   rcases amH.1 q with rfl|q
   ·exact r
   ·have t:(U.take (s - a)++U.drop (s - a)).Pairwise λx y=>wt x<=wt y:=by rw[anR];exact hu
    exact (aqI.1 t).2.2 x z y q
theorem QV:∀(f:Nat) (P U V Q:List α) {a m b:Nat},U.length+V.length<=f->0 < U.length->0 < V.length->srt wt U->srt wt V->a=P.length->m=a+U.length->b=m+V.length ->
  ∃W,sym d wt f a m b (P++(U++(V++Q)))=P++(W++Q)∧W.Perm (U++V)∧srt wt W
|0,P,U,V,Q,a,m,b,hf,hU,hV,_,_,_,_,_=>by omega
|f+1,P,U,V,Q,a,m,b,hf,hU,hV,r,t,D,hm,Z=>by
  by_cases L:U.length=1
  ·obtain⟨u,rfl⟩:=atZ.1 L;exact ZW P V Q u f t D (by simp at hm;omega) Z
  by_cases B:V.length=1
  ·obtain⟨v,rfl⟩:=atZ.1 B;exact XC P U Q v f r D hm (by simpa using Z) om
  unfold sym;rw[amA om,amA om];dsimp only;generalize E:(a+b) / 2=g;generalize w:(if g < m then g+m - b else a)=lo;generalize F:(if g < m then g else m)=hi;have a1:a<=lo∧g+m - b<=lo∧(lo=a∨lo=g+m - b):=by
   rw[<-w];split<;>omega
  have a6:hi<=m∧hi<=g∧lo<=hi∧(hi=m∨hi=g):=by
   rw[<-F,<-w];split<;>omega
  have gU:∀c,a<=c->c < m->(P++(U++(V++Q))).getD c d=U.getD (c - a) d:=λc L B=>by
   rw[K8 om om,D]
  have gV:∀c,m<=c->c < b->(P++(U++(V++Q))).getD c d=V.getD (c - m) d:=λc L B=>by
   rw[Dj om om,hm,D]
  have hp:∀c,lo<=c->c < hi->(lt wt ((P++(U++(V++Q))).getD (g+m - 1 - c) d) ((P++(U++(V++Q))).getD c d)=av↔wt (V.getD (g - 1 - c) d) < wt (U.getD (c - a) d)):=λc L B=>by
   rw[gU c om om,gV (g+m - 1 - c) om om,show g+m - 1 - c - m=g - 1 - c by omega];simp[lt]
  obtain⟨s1,s2,s3,s4⟩:=Vc (p:=λc=>lt wt ((P++(U++(V++Q))).getD (g+m - 1 - c) d) ((P++(U++(V++Q))).getD c d)) (b - a) lo hi om om (by
   intro c e k1 k2 k3 k4;have k4:=(hp c k1 om).1 k4;refine (hp e om k3).2 ?_;have M:=wS (d:=d) r (i:=c - a) (j:=e - a) om om;have C:=wS (d:=d) t (i:=g - 1 - e) (j:=g - 1 - c) om om;omega)
  have hs:symS d wt (P++(U++(V++Q))) a m b=bs (λc=>lt wt ((P++(U++(V++Q))).getD (g+m - 1 - c) d) ((P++(U++(V++Q))).getD c d)) (b - a) lo hi:=by
   unfold symS;rw[E,w,F]
  rw[hs];generalize bs (λc=>lt wt ((P++(U++(V++Q))).getD (g+m - 1 - c) d) ((P++(U++(V++Q))).getD c d)) (b - a) lo hi=s at s1 s2 s3 s4 ⊢;have N:U.take (s - a)++U.drop (s - a)=U:=anR ..
  have O:V.take (g - s)++V.drop (g - s)=V:=anR ..
  have a7:(U.take (s - a)).length=s - a:=by rw[amL];omega
  have T:(U.drop (s - a)).length=m - s:=by rw[amQ];omega
  have X:(V.take (g - s)).length=g - s:=by rw[amL];omega
  have a8:(V.drop (g - s)).length=b - (g+m - s):=by rw[amQ];omega
  have G:=Af r (s - a);have H:=DJ r (s - a);have I:=Af t (g - s);have J:=DJ t (g - s);have z:∀x∈U.take (s - a)++V.take (g - s),∀y∈U.drop (s - a)++V.drop (g - s),wt x<=wt y:=by
   have cU:(U.take (s - a)++U.drop (s - a)).Pairwise λx y=>wt x<=wt y:=by rw[N];exact r
   have cV:(V.take (g - s)++V.drop (g - s)).Pairwise λx y=>wt x<=wt y:=by rw[O];exact t
   intro x n y o;rcases anF.1 n with n|n<;>rcases anF.1 o with o|o
   ·exact (aqI.1 cU).2.2 x n y o
   ·refine Kk (d:=d) (P:=λy=>wt x<=wt y) (λj j1 j2=>?_) y o;refine jN (d:=d) (P:=λx=>wt x<=wt (V.getD j d)) (λi i1 i2=>?_) x n;rcases anE lo s with h|h
    ·have q:=s3 (s - 1) om om;have q:¬wt (V.getD (g - 1 - (s - 1)) d) < wt (U.getD (s - 1 - a) d):=λk=>by
      rw[(hp (s - 1) om om).2 k] at q;cases q
     have M:=wS (d:=d) r (i:=i) (j:=s - 1 - a) om om;have C:=wS (d:=d) t (i:=g - 1 - (s - 1)) (j:=j) om om;omega
    ·omega
   ·refine Kk (d:=d) (P:=λy=>wt x<=wt y) (λj j1 j2=>?_) y o;refine jN (d:=d) (P:=λx=>wt x<=wt (U.getD j d)) (λi i1 i2=>?_) x n;rcases anE s hi with h|h
    ·have q:=(hp s om h).1 (s4 s (amJ _) h);have M:=wS (d:=d) r (i:=s - a) (j:=j) om om;have C:=wS (d:=d) t (i:=i) (j:=g - 1 - s) om om;omega
    ·omega
   ·exact (aqI.1 cV).2.2 x n y o
  have x1:(if s < m∧m < g+m - s then rot d (g+m - s - s) (m - s) (g+m - s - m) m (P++(U++(V++Q))) else P++(U++(V++Q)))=P++(U.take (s - a)++(V.take (g - s)++(U.drop (s - a)++(V.drop (g - s)++Q)))):=by
   by_cases h:s < m∧m < g+m - s
   ·rw[amB h];have e:=Nl (d:=d) (g+m - s - s) (P++U.take (s - a)) (U.drop (s - a)) (V.take (g - s)) (V.drop (g - s)++Q) (m:=m) om om om (by rw[amC];omega);rw[T,X] at e;rw[show g+m - s - m=g - s by omega];have e1:P++U.take (s - a)++(U.drop (s - a)++(V.take (g - s)++(V.drop (g - s)++Q)))=P++(U++(V++Q)):=by
     rw[<-amM (V.take _),O,amM,<-amM (U.take _),N]
    rw[e1] at e;rw[e,amM]
   ·rw[amA h];have e0:P++(U++(V++Q))=P++((U.take (s - a)++U.drop (s - a))++((V.take (g - s)++V.drop (g - s))++Q)):=by rw[N,O]
    rw[e0];rcases (by omega:m - s=0∨g - s=0) with K|K
    ·have e:U.drop (s - a)=[]:=apZ.1 om;rw[e];simp only[amY,anV,amM]
    ·have e:V.take (g - s)=[]:=apZ.1 om;rw[e];simp only[amY,anV,amM]
  rw[x1];have x2:∃l,(if a < s∧s < g then sym d wt f a s g (P++(U.take (s - a)++(V.take (g - s)++(U.drop (s - a)++(V.drop (g - s)++Q))))) else P++(U.take (s - a)++(V.take (g - s)++(U.drop (s - a)++(V.drop (g - s)++Q)))))=P++(l++(U.drop (s - a)++(V.drop (g - s)++Q)))∧l.Perm (U.take (s - a)++V.take (g - s))∧srt wt l:=by
   by_cases h:a < s∧s < g
   ·rw[amB h];exact QV f P (U.take (s - a)) (V.take (g - s)) (U.drop (s - a)++(V.drop (g - s)++Q)) om om om G I D om om
   ·rw[amA h];refine⟨U.take (s - a)++V.take (g - s),sm,aqS _,?_⟩;rcases (by omega:s - a=0∨g - s=0) with K|K
    ·have:U.take (s - a)=[]:=apZ.1 om;rw[this];exact I
    ·have:V.take (g - s)=[]:=apZ.1 om;rw[this,amY];exact G
  obtain⟨l,e2,Y,M⟩:=x2;rw[e2];have b0:l.length=g - a:=by rw[Y.length_eq,amC];omega
  have x3:∃A,(if g < g+m - s∧g+m - s < b then sym d wt f g (g+m - s) b (P++(l++(U.drop (s - a)++(V.drop (g - s)++Q)))) else P++(l++(U.drop (s - a)++(V.drop (g - s)++Q))))=P++(l++(A++Q))∧A.Perm (U.drop (s - a)++V.drop (g - s))∧srt wt A:=by
   by_cases h:g < g+m - s∧g+m - s < b
   ·rw[amB h];obtain⟨A,R,S,C⟩:=QV f (P++l) (U.drop (s - a)) (V.drop (g - s)) Q (a:=g) (m:=g+m - s) (b:=b) om om om H J (by rw[amC];omega) om om;rw[amM,amM] at R;exact⟨A,R,S,C⟩
   ·rw[amA h];refine⟨U.drop (s - a)++V.drop (g - s),sm,aqS _,?_⟩;rcases (by omega:m - s=0∨b - (g+m - s)=0) with K|K
    ·have:U.drop (s - a)=[]:=apZ.1 om;rw[this];exact J
    ·have:V.drop (g - s)=[]:=apZ.1 om;rw[this,amY];exact H
  obtain⟨A,R,S,C⟩:=x3;refine⟨l++A,by rw[R,amM],?_,HQ M C λx n y o=>z x (Y.mem_iff.1 n) y (S.mem_iff.1 o)⟩;have h:=Y.append S;refine h.trans ?_;have B:((U.take (s - a)++V.take (g - s))++(U.drop (s - a)++V.drop (g - s))).Perm ((U.take (s - a)++U.drop (s - a))++(V.take (g - s)++V.drop (g - s))):=by
   rw[amM,amM];refine auU _ ?_;rw[<-amM,<-amM];exact List.Perm.append_right _ asB
  rwa [N,O] at B
end
end Srt
end
section
namespace Srt
section
variable {α:Type}{d:α}{wt:α->Nat}
theorem Vs (P:List α)(x:α):∀(n:Nat) (U R:List α),U.length=n->srt wt U->∃W,insJ d wt P.length (P.length+n) (P++(U++x::R))=P++(W++R)∧W.Perm (U++[x])∧srt wt W
|0,U,R,f,_=>by
  have:U=[]:=apZ.1 f;subst this;refine⟨[x],?_,aqS _,by unfold srt;simp⟩;show insJ d wt P.length P.length _=_;cases P with
 |nil=>rfl
 |cons p P=>
   show insJ d wt (P.length+1) (P.length+1) _=_;unfold insJ;rw[amA om];rfl
|n+1,U,R,f,g=>by
  have b:U≠[]:=λe=>by rw[e] at f;simp at f
  have i:=atU b;have k:U.dropLast.length=n:=by rw[auT];omega
  generalize U.getLast b=v at i;generalize U.dropLast=Y at i k;subst i;have e:P++(Y++[v]++x::R)=(P++Y)++v::([]++x::R):=sm
  have g1:(P++(Y++[v]++x::R)).getD (P.length+n) d=v:=by
   rw[e,show P.length+n=(P++Y).length by rw[amC];omega];exact getD_at
  have g2:(P++(Y++[v]++x::R)).getD (P.length+n+1) d=x:=by
   rw[show P++(Y++[v]++x::R)=(P++(Y++[v]))++x::R by simp,show P.length+n+1=(P++(Y++[v])).length by simp;omega];exact getD_at
  have m:srt wt Y:=(aqI.1 g).1;have c:∀y∈Y,wt y<=wt v:=λy a=>(aqI.1 g).2.2 y a v (atY v);show ∃W,insJ d wt P.length (P.length+n+1) _=_∧_;unfold insJ;rw[g1,g2];by_cases h:wt x < wt v
  ·rw[amB ⟨om,by simp[lt,h]⟩,e,Ue (P++Y) [] R v x (by rw[amC];omega) (by simp;omega)];have o:P++Y++x::([]++v::R)=P++(Y++x::(v::R)):=sm
   rw[o];obtain⟨W,q,l,r⟩:=Vs P x n Y (v::R) k m;refine⟨W++[v],by rw[q];simp,?_,HQ r (by unfold srt;simp) ?_⟩
   ·refine (l.append_right [v]).trans ?_;rw[amM,amM];exact auU _ (List.Perm.swap v x [])
   ·intro y a z j;rw[anB.1 j];rcases anF.1 (l.mem_iff.1 a) with a|a
    ·exact c y a
    ·rw[anB.1 a];omega
  ·rw[amA (by intro s;have:=s.2;simp[lt] at this;omega)];refine⟨Y++[v]++[x],sm,aqS _,HQ g (by unfold srt;simp) ?_⟩;intro y a z j;rw[anB.1 j];rcases anF.1 a with a|a
   ·have:=c y a;omega
   ·rw[anB.1 a];omega
theorem Td (P:List α):∀(Y U R:List α) {i:Nat},i=P.length+U.length->srt wt U->∃W,insI d wt P.length Y.length i (P++(U++(Y++R)))=P++(W++R)∧W.Perm (U++Y)∧srt wt W
|[],U,R,i,_,a=>⟨U,rfl,by rw[amY],a⟩
|y::Y,U,R,i,hi,a=>by
  show ∃W,insI d wt P.length Y.length (i+1) (insJ d wt P.length i (P++(U++y::(Y++R))))=_∧_;subst hi;obtain⟨W,e,p,q⟩:=Vs (d:=d) P y U.length U (Y++R) rfl a;rw[e];have g:W.length=U.length+1:=by rw[p.length_eq,amC];rfl
  obtain⟨Z,b,c,f⟩:=Td P Y W R (i:=P.length+U.length+1) om q;refine⟨Z,b,c.trans ?_,f⟩;have:=p.append_right Y;simpa using this
theorem Yu (P Y R:List α){a:Nat}(e:a=P.length)(c:b=a+Y.length):∃W,ins d wt (P++(Y++R)) a b=P++(W++R)∧W.Perm Y∧srt wt W:=by
 subst e;unfold ins;cases Y with
|nil=>
  refine⟨[],?_,aqS _,List.Pairwise.nil⟩;rw[show b - (P.length+1)=0 by simp at c;omega];rfl
|cons y Y=>
  have h:=Td (d:=d) (wt:=wt) P Y [y] R (i:=P.length+1) sm (by unfold srt;simp);rw[show b - (P.length+1)=Y.length by simp at c;omega];exact h
def bks (wt:α->Nat)(n:Nat)(l:List α):Prop:=∀k,srt wt ((l.drop (k*n)).take n)
theorem Uh {l:List α}(h:srt wt l)(n:Nat):bks wt n l:=λk=>Af (DJ h _) _
theorem O4 {W T:List α}{n:Nat}(b:srt wt W)(a:W.length=n)(c:bks wt n T):bks wt n (W++T):=by
 intro k;cases k with
|zero=>
  rw[apI,aoT,<-a,List.take_left];exact b
|succ k=>
  rw[aoM,arX,<-aqJ,<-a,List.drop_left,a];exact c k
theorem Wk {l:List α}{n:Nat}(h:bks wt n l)(j:Nat):bks wt n (l.drop (j*n)):=by
 intro k;rw[aqJ,<-aoW];exact h _
theorem Yo {n:Nat}(i:0 < n):∀(f:Nat) (P T:List α) {a:Nat},T.length < f->a=P.length->∃T',blk d wt n f a (P++T)=P++T'∧T'.Perm T∧bks wt n T'
|0,_,_,_,h,_=>by omega
|f+1,P,T,a,r,c=>by
  unfold blk;rw[amC];by_cases h:a+n<=P.length+T.length
  ·rw[amB h];have g:T.take n++T.drop n=T:=anR ..
   have j:(T.take n).length=n:=by rw[amL];omega
   have s:(T.drop n).length=T.length - n:=amQ;obtain⟨W,e,p,q⟩:=Yu (d:=d) (wt:=wt) P (T.take n) (T.drop n) (a:=a) (b:=a+n) c om;rw[g] at e;have k:W.length=n:=by rw[p.length_eq,j]
   obtain⟨T',l,m,o⟩:=Yo i f (P++W) (T.drop n) (a:=a+n) om (by rw[amC];omega);rw[e,<-amM,l];refine⟨W++T',by rw[amM],?_,O4 q k o⟩;have:=p.append m
   rwa [g] at this
  ·rw[amA h];obtain⟨W,e,p,q⟩:=Yu (d:=d) (wt:=wt) P T [] (a:=a) (b:=P.length+T.length) c om;rw[amY,amY] at e;exact⟨W,e,p,Uh q n⟩
theorem Yg {n:Nat}(r:0 < n):∀(f:Nat) (P T:List α) {a:Nat},T.length < f->a=P.length->bks wt n T->∃T',mrg d wt n f a (P++T)=P++T'∧T'.Perm T∧bks wt (2*n) T'
|0,_,_,_,h,_,_=>by omega
|f+1,P,T,a,w,l,j=>by
  unfold mrg;rw[amC];have c:srt wt (T.take n):=by have:=j 0;rwa [apI,aoT] at this
  have k:srt wt ((T.drop n).take n):=by have:=j 1;rwa [arP] at this
  have g:T.take n++T.drop n=T:=anR ..
  have x:(T.take n).length=min n T.length:=amL;have y:(T.drop n).length=T.length - n:=amQ;by_cases h:a+2*n<=P.length+T.length
  ·rw[amB h];have i:(T.drop n).take n++T.drop (2*n)=T.drop n:=by rw[Nat.two_mul,<-aqJ];exact anR ..
   have z:((T.drop n).take n).length=n:=by rw[amL];omega
   have A:(T.drop (2*n)).length=T.length - 2*n:=amQ;obtain⟨W,e,p,q⟩:=QV (d:=d) (wt:=wt) (2*n) P (T.take n) ((T.drop n).take n) (T.drop (2*n)) (a:=a) (m:=a+n) (b:=a+2*n) om om om c k l om om;rw[i,g] at e;have s:W.length=2*n:=by rw[p.length_eq,amC];omega
   obtain⟨T',t,u,v⟩:=Yg r f (P++W) (T.drop (2*n)) (a:=a+2*n) om (by rw[amC];omega) (Wk j 2);rw[e,<-amM,t];refine⟨W++T',by rw[amM],?_,O4 q s v⟩;have:=p.append u;rw[amM,i,g] at this;exact this
  ·rw[amA h];by_cases o:a+n < P.length+T.length
   ·rw[amB o];have i:(T.drop n).take n=T.drop n:=anJ om;rw[i] at k;obtain⟨W,e,p,q⟩:=QV (d:=d) (wt:=wt) (P.length+T.length - a) P (T.take n) (T.drop n) [] (a:=a) (m:=a+n) (b:=P.length+T.length) om om om c k l om om;rw[amY,amY,g] at e;rw[g] at p;exact⟨W,e,p,Uh q _⟩
   ·rw[amA o];rw[anJ om] at c;exact⟨T,rfl,aqS _,Uh c _⟩
theorem LH:∀(f n:Nat) (xs:List α),0 < n->xs.length < f+n->bks wt n xs->(rounds d wt f n xs).Perm xs∧srt wt (rounds d wt f n xs)
|0,n,xs,b,g,h=>by
  have:=h 0;rw[apI,aoT,anJ om] at this;exact⟨aqS _,this⟩
|f+1,n,xs,b,g,h=>by
  unfold rounds;by_cases c:n < xs.length
  ·rw[amB c];obtain⟨T',e,p,q⟩:=Yg (d:=d) b (xs.length+1) [] xs (a:=0) om rfl h;rw[anV,anV] at e;rw[e];have k:=p.length_eq;obtain⟨i,j⟩:=LH f (2*n) T' om om q;exact⟨i.trans p,j⟩
  ·rw[amA c];have:=h 0;rw[apI,aoT,anJ om] at this;exact⟨aqS _,this⟩
theorem Vh (d:α)(wt:α->Nat)(xs:List α):(JG d wt xs).Perm xs∧srt wt (JG d wt xs):=by
 unfold JG;obtain⟨T',e,p,q⟩:=Yo (d:=d) (wt:=wt) (n:=20) dc (xs.length+1) [] xs (a:=0) om rfl;rw[anV,anV] at e;rw[e];have f:=p.length_eq;obtain⟨b,c⟩:=LH (d:=d) (xs.length+1) 20 T' dc om q;exact⟨b.trans p,c⟩
end
end Srt
end
end Go.Proofs.YtlipjfcbjemicaaGreatDoor
