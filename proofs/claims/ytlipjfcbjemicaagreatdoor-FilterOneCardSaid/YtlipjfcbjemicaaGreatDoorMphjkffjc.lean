/- Texts that go together: SAsci SAsciR SAsciQ AsA SRef14 AsR AsS AsT AsU SFilt SFilt16 FeA SRef16 FeB FeC EngAI. -/
import Derived.Test.YtlipjfcbjemicaaGreatDoorRows
import Derived.Test.YtlipjfcbjemicaaGreatDoorMljflnkhf
set_option linter.defProp false
set_option linter.unusedSimpArgs false
set_option linter.unusedVariables false
set_option maxRecDepth 20000
open Go.Proofs.Tryz
open Go.Proofs.Tryz renaming prog->ah
open Option renaming some->aw,none->av
open Bool renaming true->au,false->aq
open Go renaming Value->ao,World->ak
open Decidable renaming decide->ai
namespace Go.Proofs.YtlipjfcbjemicaaGreatDoor
variable{K:VWP}{L:List Eng.Ent}{M:Eng.Mem}{P:Program}{PK PK2:PKT}{S:Nat->Prop}{W w w0:ak}{a e:Int}{aj:List (Nat×List Nat)}{b cap d h i id m mo most:Nat}{cs:List ao}{fn:Func}{key:List UInt8}{o:Ob}{os:List Ob}{q:Bool}{t0 v v2 vc vk:ao}{u:FrameMode}{x:Pm}{t0 t1 t2 t3:ao}{k0:Eng.KT}
section
open Eng
def Cw(t0 t1 w)(K:KT):=nz f179 1 [] [] [] (zg [0,1] [t0,t1]) w K
theorem Bx:Cw t0 t1 w k0->Calls ah 179 #[t0,t1] w k0:=cw func179
def Ad(t0 t1 w)(K:KT):=nz f178 1 [] [] [(0,13)] (zg [0,1] [t0,t1]) w K
theorem DU:Ad t0 t1 w k0->Calls ah 178 #[t0,t1] w k0:=cw func178
def JE(t0 w)(K:KT):=nz f114 1 [] [] [] (zg [0] [t0]) w K
theorem K2:JE t0 w k0->Calls ah 114 #[t0] w k0:=cw func114
def Bf(t0 t3 w)(N1:JT)(K:KT):=nz f186 19 [N1] [nh 5 [3]] [(2,13)] (zg [0,3] [t0,t3]) w K
def Fp(t0 w)(K:KT):=nz f186 1 [] [(5,[3],λs v j w f=>Bf (s 0) (vg v 0) w (f 0) K)] [] (zg [0] [t0]) w K
theorem HV:Fp t0 w k0->Calls ah 186 #[t0] w k0:=cz [] [(2,[3])] func186
def Ft(t0 t3 t5 w)(N1 N2:JT)(K:KT):=nz f119 627 [N1,N2] [nh 5 [0],nh 21 [5]] [] (zg [0,3,5] [t0,t3,t5]) w K
def EE(t0 t3 w)(N1:JT)(K:KT):=nz f119 19 [N1] [nh 5 [0],(21,[5],λs v j w f=>Ft (s 0) (s 3) (vg v 0) w (f 1) (f 0) K)] [] (zg [0,3] [t0,t3]) w K
def Jj(t0 w)(K:KT):=nz f119 1 [] [(5,[0],λs v j w f=>EE (vg v 0) (s 3) w (f 0) K)] [] (zg [0] [t0]) w K
theorem KR:Jj t0 w k0->Calls ah 119 #[t0] w k0:=cz [] [(2,[0]),(10,[5])] func119
def rC(t0 t1 t5 t22 t23 w)(N2:JT)(K:KT):=nz f184 43 [N2] [nh 13 [5,23]] [] (zg [0,1,5,22,23] [t0,t1,t5,t22,t23]) w K
def sF(t0 t1 t4 w)(N1:JT)(K:KT):=nz f184 10 [N1] [nh 3 [4],(13,[5,23],λs v j w f=>rC (s 0) (s 1) (vg v 0) (s 22) (vg v 1) w (f 0) K)] [] (zg [0,1,4] [t0,t1,t4]) w K
def wM(t0 t1 w)(K:KT):=nz f184 1 [] [(3,[4],λs v j w f=>sF (s 0) (s 1) (vg v 0) w (f 0) K)] [] (zg [0,1] [t0,t1]) w K
theorem CW:wM t0 t1 w k0->Calls ah 184 #[t0,t1] w k0:=cz [] [(1,[4]),(6,[5,23])] func184
def KE(t0 t1 t2 w)(K:KT):=nz f185 1 [] [] [] (zg [0,1,2] [t0,t1,t2]) w K
theorem KP:KE t0 t1 t2 w k0->Calls ah 185 #[t0,t1,t2] w k0:=cw func185
end
section
open Eng
def aZ (x0:Deferred)(x1:ao)(x2:ao)(K:Ending->ak->Prop):=pd ah [.cell x1 9,.cell x2 30] K [x0]
def zE(e c f w)(K:KT):=
 alx 9 w K λa w=>alx 30 w K λb w=>dx (TV (.func 223) #[] #[a,b]) w K λg w=>DfrX (dfrV g #[]) (λd1=>DoX ah (mBin .geq 3 c (iN 0)) w (aZ d1 a b K) λh w=>CallX ah 179 #[h,(iN 1)] w (aZ d1 a b K) λo w=>DoX ah (mB .min #[3,3] 3 #[aq,au] #[c,(iN 1048576)]) w (aZ d1 a b K) λi w=>DoX ah (bA 236 #[(1,i)]) w (aZ d1 a b K) λj w=>DoX ah (mBox 236 j) w (aZ d1 a b K) λd w=>DoX ah (gK f #[e,d]) w (aZ d1 a b K) λp w=>DoX ah (mNil d) w (aZ d1 a b K) λk w=>DoX ah (mFA 236 k 0) w (aZ d1 a b K) λl w=>DoX ah (aJ 53 l) w (aZ d1 a b K) λm w=>DoX ah (fA 53 9 m) w (aZ d1 a b K) λn w=>DoX ah (aV 9 a n) w (aZ d1 a b K) λ_ w=>DoX ah (aV 30 b (iN 0)) w (aZ d1 a b K) λ_ w=>Ej ah [.cell a 9,.cell b 30] K [d1] .returning w)
theorem Eb:zE t0 t1 t2 w k0->Calls ah 174 #[t0,t1,t2] w k0:=cw func174
def Fo(t0 t1 w)(K:KT):=nz f116 1 [] [] [] (zg [0,1] [t0,t1]) w K
theorem Ia:Fo t0 t1 w k0->Calls ah 116 #[t0,t1] w k0:=cw func116
def DN(t0 t1 w)(K:KT):=nz f118 1 [] [] [] (zg [0,1] [t0,t1]) w K
theorem Gg:DN t0 t1 w k0->Calls ah 118 #[t0,t1] w k0:=cw func118
def Et(t0 t1 w)(K:KT):=nz f120 1 [] [] [] (zg [0,1] [t0,t1]) w K
theorem Ih:Et t0 t1 w k0->Calls ah 120 #[t0,t1] w k0:=cw func120
def xE(a b w)(N1:JT)(K:KT):=
 bnx .add 3 b (iN 1) w K λc w=>N1 [a,c] w
def mV(w)(K:KT):=
 K (.returned (.tuple #[])) w
def wA(f e a g b w)(N1:JT)(K:KT):=
 bnx .lss 3 b g w K λh w=>IfX h (JoinX (λJ2=>dx (mIx 9 f b) w K λc w=>cx 176 #[c] w K λd w=>cx 177 #[c] w K λi w=>IfX i (J2 [a] w) (eqx .eql 5 (.tmp 30) (.const (.int .u8 62)) c (.int .u8 62) w K λj w=>IfX j (JoinX (λJ3=>bnx .geq 3 a (iN 0) w K λk w=>IfX k (bnx .mul 3 (iN 16) a w K λl w=>dx (fA 3 5 l) w K λm w=>dx (bF 53 1 #[(0,m)]) w K λn w=>cx 178 #[e,n] w K λu w=>J3 [] w) (J3 [] w)) (λvs3 w=>∀_:Sg,mV w K)) (bnx .lss 3 d (iN 0) w K λo w=>IfX o (cx 179 #[(.bool aq),(iN 3)] w K λv w=>J2 [a] w) (bnx .lss 3 a (iN 0) w K λp w=>IfX p (J2 [d] w) (bnx .mul 3 (iN 16) a w K λq w=>bnx .add 3 q d w K λr w=>dx (fA 3 5 r) w K λs w=>dx (bF 53 1 #[(0,s)]) w K λt w=>cx 178 #[e,t] w K λx w=>J2 [(iN (-1))] w))))) (λvs2 w=>∀_:Sg,xE (vs2.getD 0 undef) b w N1 K)) (cx 179 #[(.bool aq),(iN 4)] w K λy w=>K (.returned (.tuple #[])) w)
def AV(a b w)(K:KT):=
 lnx 9 a w K λc w=>LoopX [(iN (-1)),(iN 0)] w (λvs1 w N1=>∀_:Sg,wA a b (vs1.getD 0 undef) c (vs1.getD 1 undef) w N1 K)
theorem En:AV t0 t1 w k0->Calls ah 175 #[t0,t1] w k0:=cz [(16,[4]),(999999,[])] [(2,[4,10])] func175
def tQ(t9 w)(N1:JT)(K:KT):=nz f183 245 [N1] [nh 5 [9]] [] (zg [9] [t9]) w K
def tW(t0 t1 t4 t8 t9 w)(N1:JT)(K:KT):=nz f183 21 [N1] [nh 5 [9],(32,[],λs v j w f=>tQ (s 9) w (f 0) K)] [] (zg [0,1,4,8,9] [t0,t1,t4,t8,t9]) w K
def zS(t0 t1 w)(K:KT):=nz f183 1 [] [(5,[9],λs v j w f=>tW (s 0) (s 1) (s 4) (s 8) (vg v 0) w (f 0) K)] [] (zg [0,1] [t0,t1]) w K
theorem Em:zS t0 t1 w k0->Calls ah 183 #[t0,t1] w k0:=cz [(16,[])] [(2,[9])] func183
def wZ(t0 t1 w)(N1:JT)(K:KT):=nz f188 2 [N1] [nh 1 [0]] [] (zg [0,1] [t0,t1]) w K
def B8(t0 t1 w)(K:KT):=nz f188 1 [] [(1,[0],λs v j w f=>wZ (vg v 0) (s 1) w (f 0) K)] [] (zg [0,1] [t0,t1]) w K
theorem FW:B8 t0 t1 w k0->Calls ah 188 #[t0,t1] w k0:=cz [] [(0,[0])] func188
def Co (x0:Nat)(K:Ending->ak->Prop):=pdM ah [.val (.string ⟨#[]⟩)] K [(mkD x0)]
def Dt(b c d e a l1 R1 w)(N2:JT):=
 DoX ah (mBin .lss 3 a e) w pkR λf w=>IfX f (DoX ah (mIA 196 d a) w pkR λg w=>DoX ah (aJ 147 g) w pkR λh w=>DoX ah (mBin .quo 147 c h) w pkR λi w=>DoX ah (mBin .rem 147 i (.int .u64 85)) w pkR λj w=>DoX ah (mBin .add 147 (.int .u64 33) j) w pkR λk w=>DoX ah (fA 147 5 k) w pkR λl w=>CallX ah 181 #[b,l] w pkR λn w=>DoX ah (mBin .add 3 a (iN 1)) w pkR λm w=>N2 [m] w) (EndX ah l1 av w R1)
def Cr(f w)(K:KT):=
 alx 188 w K λc w=>dx (fA 9 53 f) w K λg w=>cx 180 #[g,(iN 4)] w K λh w=>RangeX ah av 1 h w (λl1 as1 w R1=>BegX ah l1 w (λw=>DoX ah (mB .len #[53] 3 #[aq] #[(as1.getD 0 undef)]) w pkR λd w=>DoX ah (bA 192 #[]) w pkR λi w=>DoX ah (Dv 192) w pkR λa w=>DoX ah (aV 192 a i) w pkR λ_ w=>DoX ah (cM 192 a av av av) w pkR λj w=>DoX ah (mB .copy #[53,53] 3 #[aq,aq] #[j,(as1.getD 0 undef)]) w pkR λP w=>DoX ah (mEq .eql 3 (.tmp 20) (.const (iN 4)) d (iN 4)) w pkR λb w=>GDo b au (λE=>DoX ah (aJ 192 a) w pkR E) w λk w=>GDo b au (λE=>DoX ah (bA 192 #[]) w pkR E) w λl w=>GDo b au (λE=>DoX ah (mEq .eql 192 (.tmp 23) (.tmp 24) k l) w pkR E) w λm w=>DoX ah (eH b m (.bool aq)) w pkR λn w=>IfX n (CallX ah 181 #[c,(.int .u8 122)] w pkR λQ w=>EndX ah l1 av w R1) (DoX ah (mIA 192 a (iN 0)) w pkR λo w=>DoX ah (aJ 5 o) w pkR λp w=>DoX ah (fA 5 147 p) w pkR λq w=>DoX ah (mBin .shl 147 q (.int .u64 24)) w pkR λr w=>DoX ah (mIA 192 a (iN 1)) w pkR λs w=>DoX ah (aJ 5 s) w pkR λt w=>DoX ah (fA 5 147 t) w pkR λu w=>DoX ah (mBin .shl 147 u (.int .u64 16)) w pkR λv w=>DoX ah (mBin .or 147 r v) w pkR λx w=>DoX ah (mIA 192 a (iN 2)) w pkR λy w=>DoX ah (aJ 5 y) w pkR λz w=>DoX ah (fA 5 147 z) w pkR λA w=>DoX ah (mBin .shl 147 A (.int .u64 8)) w pkR λB w=>DoX ah (mBin .or 147 x B) w pkR λC w=>DoX ah (mIA 192 a (iN 3)) w pkR λD w=>DoX ah (aJ 5 D) w pkR λF w=>DoX ah (fA 5 147 F) w pkR λG w=>DoX ah (mBin .or 147 C G) w pkR λH w=>DoX ah (mBin .add 3 d (iN 1)) w pkR λI w=>DoX ah (cM 197 (.pointer (aw ⟨0,0,av⟩)) av (aw I) av) w pkR λe w=>DoX ah (mB .len #[196] 3 #[aq] #[e]) w pkR λL w=>LoopX [(iN 0)] w (λvs2 w N2=>∀_:Sg,Dt c H e L (vs2.getD 0 undef) l1 R1 w N2))))
 [(av,λr1 w=>CallX ah 182 #[c] w (Co r1 K) λM w=>DoX ah (mBin .add 9 M (.string ⟨#[126,62]⟩)) w (Co r1 K) λO w=>Hj ah [.val O] K [(mkD r1)] .returning w)]
theorem JI (t0:ao)(w:ak)(K:Ending->ak->Prop):wpX ah 64 [] [(11,[50])] av (DD f117) (topM ah [.tmp 2] K) (lQ [t0]) [] w=Cr t0 w K:=krx
theorem Ki {K:Ending->ak->Prop}(h:Cr t0 w K):Calls ah 117 #[t0] w K:=
 NW func117 rfl rfl rfl rfl (Eq.mpr (JI t0 w K) h)
end
section
open Eng
def eZ(w)(K:KT):=
 K (.returned (.tuple #[])) w
def gE(a b r w)(K:KT):=
 eqx .eql 20 (.tmp 5) (.const .nilIface) r .nilIface w K λf w=>IfX f (K (.returned (.tuple #[])) w) (dx (mTA r 20 234 au) w K λd w=>exx d 1 w K λg w=>exx d 0 w K λh w=>IfX g (alx 234 w K λc w=>stx 234 c h w K λ_ w=>DrawX w (λw=>(fax 234 c 0 w K λe w=>(ldx 30 e w K λi w=>stx 9 a (.string ⟨#[]⟩) w K λ_ w=>stx 30 b i w K λ_ w=>eZ w K)∧(stx 9 a (.string ⟨#[]⟩) w K λ_ w=>ldx 30 e w K λt12_1 w=>stx 30 b t12_1 w K λ_ w=>eZ w K))∧(stx 9 a (.string ⟨#[]⟩) w K λ_ w=>fax 234 c 0 w K λt11_1 w=>ldx 30 t11_1 w K λt12_2 w=>stx 30 b t12_2 w K λ_ w=>eZ w K))) (dx (Ho r) w K λ_ w=>K (.returned (.tuple #[])) w))
theorem Cf (t0 t1 r:ao)(w:ak)(K:Ending->ak->Prop):wpX ah 13 [] [] av (Zn (DD f223)) (topD ah [] K) (upd (lQ [t0,t1]) 5 r) [] w=gE t0 t1 r w K:=krx
theorem mJ {t1:ao}{R:Ending->FrameMode->ak->Prop}(h:gE t0 t1 (recV u) w (λe w=>R e (recM u) w)):CallsD ah 223 #[t0,t1] u w R:=
 uQ func223 rfl rfl rfl rfl rfl rfl rfl rfl (Eq.mpr (Cf t0 t1 (recV u) w _) h)
end
section
open Eng Go.RowKit
def eh (most:Nat):List UInt8->Int->List UInt8->List UInt8×Int
|[],_,_=>([],4)
|c::r,half,out=>
  if Oc.AF c=au then eh most r half out
  else if c=62 then (if half < 0 then (out,0) else if most<=out.length then ([],5) else (out++[UInt8.ofNat (16*half.toNat)],0))
  else if Lx.digit c < 0 then ([],3)
  else if half < 0 then eh most r (Lx.digit c) out
  else if most<=out.length then ([],5)
  else eh most r (-1) (out++[UInt8.ofNat (16*half+Lx.digit c).toNat])
def ey (D:Nat->List UInt8×Int)(most:Int):List UInt8×Int:=if most < 0 then ([],1) else D (min most.toNat 1048576)
def ke (s:List UInt8)(most:Int):List UInt8×Int:=ey (λm=>eh m s (-1) []) most
def skC (ov:ao)(most:Nat):List Value:=[ov,.int .i64 (most:Int)]
abbrev skE (b:Nat)(ov:ao)(most:Nat):Ent:=.cells b (skC ov most) 236
abbrev Sk (b:Nat)(most:Nat)(ov:ao)(out:List UInt8)(T:List Ent):List Ent:=skE b ov most::outR ov out::T
theorem RF:fOff ah 236 0=aw 0:=krx
theorem aeY:fOff ah 236 1=aw 1:=krx
theorem aeX:nD ah 234=true:=krx
theorem afH:fOff ah 234 0=aw 0:=krx
theorem amG:(Tryz.prog.info? 234).map (·.size)=aw 1:=krx
theorem OC:bZ ah 223=true:=krx
def upA (e:Int):PanicEntry:={ v:=.iface 234 (.agg #[.int .i64 e]),recovered:=aq }
theorem adI (e:Int)(w:ak):Ret ah 179 #[.bool au,.int .i64 e] w (λv w'=>v=.tuple #[]∧w=w'):=by
 refine aK λK hK=>Bx ?_;unfold Cw nz;simp only[rs,aqF,i_f];exact hK _ _ ⟨rfl,rfl⟩
theorem abL (e:Int)(w:ak):Pan ah 179 #[.bool aq,.int .i64 e] w (λc w'=>c=[upA e]∧w=w'):=by
 refine UJ λK hK=>Bx ?_;unfold Cw nz;simp only[rs,aqD,i_t];have hb:∀{PK:PKT} {K:VWP},DoX ah (bA 234 #[(0,.int .i64 e)]) w PK K=K (.agg #[.int .i64 e]) w:=aC krx;rw[hb,MI aeX,Kz];exact hK _ _ ⟨rfl,rfl⟩
section
variable {w:ak}{PK:PKT}{K:VWP}{S:Nat->Prop}{w0:ak}{L T:List Ent}
theorem mU (kt:q=au->K (.tuple #[]) w)(kf:q=aq->PK [upA e] w):CallX ah 179 #[.bool q,.int .i64 e] w PK K:=by
 cases q with
|true=>exact c_eq (adI e w) (kt rfl)
|false=>exact acO (abL e w) λc w' ⟨hc,hw⟩=>by subst hc;subst hw;exact kf rfl
theorem abB {ov:ao}(h:(skE b ov most).is W):(aJ 53 (.pointer (aw ⟨b,0+0,av⟩))).run ah W=.ok (.value ov) W:=aB Ha (aI (T:=236) (cs:=skC ov most) h rfl)
theorem acN {ov:ao}(h:(skE b ov most).is W):(aJ 3 (.pointer (aw ⟨b,0+1,av⟩))).run ah W=.ok (.value (.int .i64 (most:Int))) W:=aB bP (aI (T:=236) (cs:=skC ov most) h rfl)
theorem wL {l:List UInt8}(h:Sl W v 1 l.length (aG l)):(mB .len #[53] 3 #[aq] #[v]).run ah W=.ok (.value (.int .i64 (l.length:Int))) W:=by
 obtain⟨_,a,cap,rfl,_⟩:=h;simp[mB,builtin,Builtin.len_,run_underlying aoK,goInt]
theorem Ra {ov:ao}{out l:List UInt8}{e:Ent}(ho:OwnS S w0 w (e::Sk b most ov out T))(hb:BRd e v2 l)(hm:most<=1048576)(hol:out.length<=most)(hl:l.length<=1000000000)
  (kt:out.length+l.length<=most->∀ov' W,OwnS S w0 W (Sk b most ov' (out++l) T)->K (.tuple #[]) W)
  (kf:most < out.length+l.length->∀W,OwnS S w0 W (Sk b most ov out T)->PK [upA 5] W):CallX ah 178 #[.pointer (aw ⟨b,0,av⟩),v2] w PK K:=by
 refine⟨DU ?_⟩;unfold Ad nz;refine cR (λW=>OwnS S w0 W (e::Sk b most ov out T)) ho.drew ?_;refine q_do _ (λ_=>cN) (q_do _ (λ_=>bH RF) (q_at _ (λW h=>abB (h.at_ 1 rfl)) ?_));refine q_at _ (λW h=>wL (cS (h.at_ 2 rfl))) ?_;refine q_at _ (λW h=>wL (hb W (h.at_ 0 rfl))) (iV ?_);rw[aA om om];refine q_do _ (λ_=>cN) (q_do _ (λ_=>bH aeY) (q_at _ (λW h=>acN (h.at_ 1 rfl)) (Yx ?_)));intro w1 ho;refine mU (λh=>?_) (λh=>kf (by have:=apM h;omega) w1 ho.tail);have hle:=aoU h;rw[aY,aP RF,aS Ha (ho.cell 1 rfl 0 rfl)];refine aX 2 aoK elU8 dc ho rfl (hb _ (ho.at_ 0 rfl)) aW om om λv' w2 ho=>?_;rw[aY,aP RF];have hv':v'.oneCell'=true:=kC (Sl.urow (ho.at_ 2 rfl));refine aN 1 ho rfl krx hv' (by show 0+0 < 2;omega) λw3 ho=>?_;refine kt om v' w3 ?_;unfold Sk;rw[cQ];exact ho.tail
end
theorem BM (f:Nat)(hp:bZ ah f=au)(s:List UInt8)(most:Int)(D:Nat->List UInt8×Int)(M:Mem)(w:ak)(hM:M.has w)
  (hF:∀{S:Nat->Prop} {w0 w:ak} {T:List Ent} {PK:PKT} {K:VWP} (b mo:Nat),mo<=1048576->OwnS S w0 w (Sk b mo nilS [] (.mem M::T)) ->
   (∀ov' out W,D mo=(out,0)->out.length<=mo->OwnS S w0 W (Sk b mo ov' out (.mem M::T))->K (.tuple #[]) W)->(∀e ov' out W,D mo=([],e)->OwnS S w0 W (Sk b mo ov' out (.mem M::T))->PK [upA e] W) ->
   CallX ah f #[.string ⟨s.toArray⟩,.pointer (aw ⟨b,0,av⟩)] w PK K) :
  RetM ah 174 #[.string ⟨s.toArray⟩,.int .i64 most,.func (.func f) #[] #[]] M w (λv _=>v=zlT (ey D most)∧(ey D most).1.length<=1048576):=by
 refine aU hM λK hK=>Eb ?_;generalize hX:ey D most=X at hK;unfold ey at hX;unfold zE iN dx alx;refine bD (λb=>.pointer (aw ⟨b,0,av⟩)) [.string ⟨#[]⟩] 9 (λ_=>by kernel_rfl) (OwnS.memS hM) λb4 w1 ho=>?_;refine bD (λb=>.pointer (aw ⟨b,0,av⟩)) [.int .i64 0] 30 (λ_=>by kernel_rfl) ho λb6 w3 ho=>?_;have ho:OwnS M.A w w3 ([J6 b6 0,Kl b4 []]++([.mem M]++[])):=ho;have ho:=ho.front;rw[Cs];refine⟨_,rfl,?_⟩;have fail:∀{W:ak} {L:List Ent} {e:Int},OwnS M.A w W (L++([.mem M,J6 b6 0,Kl b4 []]++[]))->X=([],e) ->
   aZ { target:=.fn (.func 223) #[.pointer (aw ⟨b4,0,av⟩),.pointer (aw ⟨b6,0,av⟩)],args:=#[]++#[] } (.pointer (aw ⟨b4,0,av⟩)) (.pointer (aw ⟨b6,0,av⟩)) K [upA e] W:=by
  intro W L e ho hx;have ho:=ho.front;have ho:OwnS M.A w W (.mem M::J6 b6 0::Kl b4 []::(L++[])):=ho;show pd ah _ K _ [upA e] W;unfold pd;refine qN sm OC (mJ (t0:=.pointer (aw ⟨b4,0,av⟩)) (t1:=.pointer (aw ⟨b6,0,av⟩)) ?_);simp only[gE,recV,recM,upA,Eng.VG asH,rs,X7 aeX,ex,i_t,i_f,dx,ldx,fax,exx,stx,eqx,alx];refine bD (λb=>.pointer (aw ⟨b,0,av⟩)) [.int .i64 0] 234 (λ_=>by kernel_rfl) ho λb7 w5 ho=>?_;refine iL 0 ho rfl (new:=[.int .i64 e]) amG (λu hu=>by rw[aoZ.1 hu];rfl) rfl λw6 ho=>?_;refine⟨?_⟩;have ho:=ho.drew
  repeat' first
  |apply And.intro
  |refine aC (bH afH) |>.mpr ?_
  |refine aC (aB HS (ho.cell 0 rfl 0 rfl)) |>.mpr ?_
  |refine aN 3 ho rfl krx rfl sm (λ_ ho=>?_)
  |refine aN 2 ho rfl krx rfl sm (λ_ ho=>?_)
  all_goals
   unfold eZ;refine Fv (bN (AtV.cell VS (ho.cell 3 rfl 0 rfl))) (bN (AtV.cell HS (ho.cell 2 rfl 0 rfl))) (hK _ _ M _ 1 ho rfl M.le_refl ⟨by rw[hx];rfl,by rw[hx];exact aoO _⟩)
 try simp only[rs]
 refine mU (λh1=>?_) (λh1=>?_)
 rotate_left
 ·have:=apM h1;rw[anX om] at hX;exact fail (L:=[]) ho hX.symm
 have h1:=aoU h1;rw[anW om] at hX;rw[OH,show min most 1048576=((min most.toNat 1048576:Nat):Int) by omega];have hm1:min most.toNat 1048576<=1048576:=atA _ _;generalize min most.toNat 1048576=mo at hX hm1;have e:∀W:ak,(bA 236 #[(1,.int .i64 (mo:Int))]).run ah W=.ok (.value (.agg (skC nilS mo).toArray)) W:=λW=>by kernel_rfl
 refine aC (e w3) |>.mpr ?_;refine bD (λb=>.pointer (aw ⟨b,0,av⟩)) (skC nilS mo) 236 (λ_=>by kernel_rfl) ho λfb w5 ho=>?_;have ho:=(OwnS.nilU ho 5 1).swap;refine HL hp ?_;refine hF (T:=[J6 b6 0,Kl b4 []]) fb mo hm1 ho (λov out W hd hol ho=>?_) (λe ov out W hd ho=>?_)
 rotate_left
 ·exact fail (L:=[skE fb ov mo,outR ov out]) ho (hX.symm.trans hd)
 rw[aY,aP RF,aS Ha (ho.cell 0 rfl 0 rfl),gO aoK aoP aoD (cS (ho.at_ 1 rfl))];refine aN 4 ho rfl krx rfl sm λw8 ho=>?_;refine aN 3 ho rfl krx rfl sm λw9 ho=>?_;refine qN sm OC (mJ (t0:=.pointer (aw ⟨b4,0,av⟩)) (t1:=.pointer (aw ⟨b6,0,av⟩)) ?_);simp only[gE,recV,recM,Eng.Vs asH,rs,i_t,i_f,dx,ldx,fax,exx,stx,eqx,alx];rw[hd] at hX;refine Fv (bN (AtV.cell VS (ho.cell 4 rfl 0 rfl))) (bN (AtV.cell HS (ho.cell 3 rfl 0 rfl))) (hK _ _ M _ 2 ho rfl M.le_refl ⟨by rw[<-hX];rfl,by rw[<-hX];dsimp only;omega⟩)
theorem OI:bZ ah 175=true:=krx
theorem aaP (c:UInt8):-1<=Lx.digit c∧Lx.digit c<=15:=by
 unfold Lx.digit;have:=apT c
 repeat' split
 all_goals omega
theorem YZ {T:List Ent}(s:List UInt8)(b mo:Nat)(hs:s.length<=1000000000)(hm:mo<=1048576)(ho:OwnS S w0 w (Sk b mo nilS [] T))
  (kt:∀ov' out W,eh mo s (-1) []=(out,0)->out.length<=mo->OwnS S w0 W (Sk b mo ov' out T)->K (.tuple #[]) W) (kf:∀e ov' out W,eh mo s (-1) []=([],e)->OwnS S w0 W (Sk b mo ov' out T)->PK [upA e] W) :
  CallX ah 175 #[.string ⟨s.toArray⟩,.pointer (aw ⟨b,0,av⟩)] w PK K:=by
 generalize hX:eh mo s (-1) []=X at kt kf;refine⟨En ?_⟩;unfold AV iN lnx;rw[cL aoD];refine loop (λvs W=>∃(i:Nat) (half:Int) (ov:ao) (out:List UInt8),vs=[.int .i64 half,.int .i64 (i:Int)]∧i<=s.length∧-1<=half∧half<=15∧out.length<=mo∧eh mo (s.drop i) half out=X∧OwnS S w0 W (Sk b mo ov out T)) (λvs _=>s.length - n1 vs) ⟨0,-1,nilS,[],rfl,om,om,om,sm,hX,ho⟩ ?_;clear ho hX;rintro vs w1 ⟨i,half,ov,out,rfl,hi,h1,h2,hol,hX,ho⟩ _;simp only[wA,gd,rs,iN,dx,bnx,eqx,cx];by_cases hlt:(i:Int) < (s.length:Int)
 case neg=>
  simp only[hlt,aoB,i_f];rw[apR om] at hX;exact mU (λh=>by cases h) (λ_=>kf 4 ov out w1 hX.symm ho)
 simp only[hlt,aoA,i_t];have hi':i < s.length:=om
 rw[apV hi',eh] at hX;have hc:=aoI hi';generalize s[i]=c at hX hc;refine join λJ hJ=>?_;have next:∀(half':Int) (ov':ao) (out':List UInt8) (W:ak),-1<=half'->half'<=15->out'.length<=mo->eh mo (s.drop (i+1)) half' out'=X->OwnS S w0 W (Sk b mo ov' out' T)->J [.int .i64 half'] W:=by
  intro half' ov' out' W g1 g2 g3 g4 ho;refine hJ _ _ λ_=>?_;simp only[xE,gd,rs,iN,bnx];rw[aA om om];exact aQ ⟨i+1,half',ov',out',rfl,om,g1,g2,g3,g4,ho⟩ (by simp[n1,RowKit.intOf];omega)
 rw[s_ix aoD om (by rw[aoF];exact hc)];refine c_eq (UC c w1) (c_eq (Pb c w1) ?_);have hdg:=aaP c;by_cases hw:Oc.AF c=au
 ·rw[anX hw] at hX;rw[hw,i_t];exact next half ov out w1 h1 h2 hol hX ho
 rw[anW hw] at hX;rw[avO.2 hw,i_f]
 try simp only[rs]
 have key:∀{n:Nat} {PK:PKT} {K:VWP},(out.length < mo->∀ov' W,OwnS S w0 W (Sk b mo ov' (out++[UInt8.ofNat n]) T)->K (.tuple #[]) W)->(mo<=out.length->∀W,OwnS S w0 W (Sk b mo ov out T)->PK [upA 5] W) ->
   DoX ah (bF 53 1 #[(0,.int .u8 ((UInt8.ofNat n).toNat:Int))]) w1 PK λt w=>CallX ah 178 #[.pointer (aw ⟨b,0,av⟩),t] w PK K:=by
  intro n PK K a1 a2;refine Dc _ ho λb8 w2 ho=>?_;exact Ra (l:=[UInt8.ofNat n]) ho (λW h=>eG h dc rfl) hm hol sm (λg ov' W ho=>a1 (by simp at g;omega) ov' W ho) (λg W ho=>a2 (by simp at g;omega) W ho)
 by_cases h62:c=62
 ·rw[anX h62] at hX;simp only[show ai ((c.toNat:Int)=62)=au by rw[h62];rfl,i_t];refine join λJ3 hJ3=>?_;by_cases hh:half < 0
  ·rw[anX hh] at hX;simp only[show ai ((0:Int)<=half)=aq from anY om,i_f];refine hJ3 _ _ λ_=>?_;unfold mV;exact kt ov out w1 hX.symm hol ho
  rw[anW hh] at hX;simp only[show ai ((0:Int)<=half)=au from anZ om,i_t];rw[aA om om,show 16*half=((16*half.toNat:Nat):Int) by omega];refine aC (aO krx aoP) |>.mpr ?_;rw[lA];refine key (λg ov' W ho=>?_) (λg W ho=>?_)
  ·rw[anW om] at hX;refine hJ3 _ _ λ_=>?_;unfold mV;exact kt ov' _ W hX.symm (by simp;omega) ho
  ·rw[anX g] at hX;exact kf 5 ov out W hX.symm ho
 rw[anW h62] at hX;simp only[show ai ((c.toNat:Int)=62)=aq from anY (λh=>h62 (asP.1 (by rw[show (62:UInt8).toNat=62 from rfl];omega))),i_f];by_cases hd:Lx.digit c < 0
 ·rw[anX hd] at hX;simp only[hd,aoA,i_t];exact mU (λh=>by cases h) (λ_=>kf 3 ov out w1 hX.symm ho)
 rw[anW hd] at hX;simp only[hd,aoB,i_f];by_cases hh:half < 0
 ·rw[anX hh] at hX;simp only[hh,aoA,i_t];exact next _ ov out w1 om om hol hX ho
 rw[anW hh] at hX;simp only[hh,aoB,i_f];rw[aA (n:=16*half) om om,aA om om,show 16*half+Lx.digit c=((16*half+Lx.digit c).toNat:Int) by omega];refine aC (aO krx aoP) |>.mpr ?_;rw[lA];refine key (λg ov' W ho=>?_) (λg W ho=>?_)
 ·rw[anW om] at hX;exact next _ ov' _ W om om (by simp;omega) hX ho
 ·rw[anX g] at hX;exact kf 5 ov out W hX.symm ho
theorem Tp (s:List UInt8)(most:Int)(M:Mem)(w:ak)(hs:s.length<=1000000000)(hM:M.has w):RetM ah 116 #[.string ⟨s.toArray⟩,.int .i64 most] M w (λv _=>v=zlT (ke s most)∧(ke s most).1.length<=1048576):=by
 refine aU hM λK hK=>Ia ?_;unfold Fo nz;refine bI (OwnS.memS hM) 0 rfl (BM _ OI s most _ M w hM λb mo hm ho kt kf=>YZ s b mo hs hm ho kt kf) ?_;rintro _ N w1 g1 ⟨rfl,hl⟩ ho;simp only[zlT,ex];exact hK _ _ N _ 0 ho rfl g1 ⟨rfl,hl⟩
end
section
open Eng
def tT(t0 w)(K:KT):=nz f61 1 [] [] [] (zg [0] [t0]) w K
theorem BJ:tT t0 w k0->Calls ah 61 #[t0] w k0:=cw func61
def lX(t6 t7 t8 w)(N1:JT)(K:KT):=nz f55 1887 [N1] [nh 15 [6,7,8]] [] (zg [6,7,8] [t6,t7,t8]) w K
def fY(t6 w)(K:KT):=nz f55 240991 [] [nh 15 [6,7,8],nh 16 [6,7]] [] (zg [6] [t6]) w K
def lI(t0 t1 t6 t7 t8 w)(N1:JT)(K:KT):=nz f55 351 [N1] [nh 15 [6,7,8],(32,[6],λs v j w f=>fY (vg v 0) w K),(16,[6,7],λs v j w f=>lX (vg v 0) (vg v 1) (s 8) w (f 0) K)] [] (zg [0,1,6,7,8] [t0,t1,t6,t7,t8]) w K
def qH(t0 t1 w)(K:KT):=nz f55 1 [] [(15,[6,7,8],λs v j w f=>lI (s 0) (s 1) (vg v 0) (vg v 1) (vg v 2) w (f 0) K)] [] (zg [0,1] [t0,t1]) w K
theorem xR:qH t0 t1 w k0->Calls ah 55 #[t0,t1] w k0:=cz [(8,[6,7]),(16,[6])] [(7,[6,7,8])] func55
def lJ(t3 t4 w)(N1:JT)(K:KT):=nz f133 235 [N1] [nh 7 [3,4]] [] (zg [3,4] [t3,t4]) w K
def mC(t0 t3 t4 w)(N1:JT)(K:KT):=nz f133 43 [N1] [nh 7 [3,4],(8,[3],λs v j w f=>lJ (vg v 0) (s 4) w (f 0) K)] [] (zg [0,3,4] [t0,t3,t4]) w K
def pF(t0 w)(K:KT):=nz f133 1 [] [(7,[3,4],λs v j w f=>mC (s 0) (vg v 0) (vg v 1) w (f 0) K)] [] (zg [0] [t0]) w K
theorem yA:pF t0 w k0->Calls ah 133 #[t0] w k0:=cz [(4,[3])] [(3,[3,4])] func133
def oO(t3 t4 w)(N1:JT)(K:KT):=nz f62 235 [N1] [nh 7 [3,4]] [] (zg [3,4] [t3,t4]) w K
def gR(t3 t5 t6 t7 t8 w)(J2 N3:JT)(K:KT):=nz f62 12203 [nj,J2,N3] [nh 7 [3,4],nh 8 [3],nh 23 [3,7,8]] [] (zg [3,5,6,7,8] [t3,t5,t6,t7,t8]) w K
def nF(t0 t3 t4 w)(N1:JT)(K:KT):=nz f62 43 [N1] [nh 7 [3,4],(23,[3,7,8],λs v j w f=>gR (vg v 0) (s 5) (s 6) (vg v 1) (vg v 2) w (f 1) (f 0) K),(8,[3],λs v j w f=>oO (vg v 0) (s 4) w (f 0) K)] [] (zg [0,3,4] [t0,t3,t4]) w K
def qS(t0 w)(K:KT):=nz f62 1 [] [(7,[3,4],λs v j w f=>nF (s 0) (vg v 0) (vg v 1) w (f 0) K)] [] (zg [0] [t0]) w K
theorem Aq:qS t0 w k0->Calls ah 62 #[t0] w k0:=cz [(4,[3])] [(3,[3,4]),(11,[3,7,8])] func62
def mE(t3 t4 w)(N1:JT)(K:KT):=nz f126 235 [N1] [nh 7 [3,4]] [] (zg [3,4] [t3,t4]) w K
def mA(t0 t3 t4 w)(N1:JT)(K:KT):=nz f126 43 [N1] [nh 7 [3,4],(8,[3],λs v j w f=>mE (vg v 0) (s 4) w (f 0) K)] [] (zg [0,3,4] [t0,t3,t4]) w K
def pQ(t0 w)(K:KT):=nz f126 1 [] [(7,[3,4],λs v j w f=>mA (s 0) (vg v 0) (vg v 1) w (f 0) K)] [] (zg [0] [t0]) w K
theorem xN:pQ t0 w k0->Calls ah 126 #[t0] w k0:=cz [(4,[3])] [(3,[3,4])] func126
def pW(t0 t1 w)(K:KT):=nz f127 1 [] [] [] (zg [0,1] [t0,t1]) w K
theorem yG:pW t0 t1 w k0->Calls ah 127 #[t0,t1] w k0:=cw func127
def sG(t0 t1 t2 w)(K:KT):=nz f125 1 [] [] [] (zg [0,1,2] [t0,t1,t2]) w K
theorem AD:sG t0 t1 t2 w k0->Calls ah 125 #[t0,t1,t2] w k0:=cw func125
def kN(t6 t7 t8 w)(N1:JT)(K:KT):=nz f56 943 [N1] [nh 13 [6,7,8]] [] (zg [6,7,8] [t6,t7,t8]) w K
def fN(t1 t6 t10 w)(J2:JT)(K:KT):=nz f56 65199 [nj,J2] [nh 13 [6,7,8],nh 14 [6,7]] [] (zg [1,6,10] [t1,t6,t10]) w K
def kX(t0 t1 t6 t7 t8 w)(N1:JT)(K:KT):=nz f56 175 [N1] [nh 13 [6,7,8],(46,[10],λs v j w f=>fN (s 1) (s 6) (vg v 0) w (f 0) K),(14,[6,7],λs v j w f=>kN (vg v 0) (vg v 1) (s 8) w (f 0) K)] [] (zg [0,1,6,7,8] [t0,t1,t6,t7,t8]) w K
def nK(t0 t1 w)(K:KT):=nz f56 1 [] [(13,[6,7,8],λs v j w f=>kX (s 0) (s 1) (vg v 0) (vg v 1) (vg v 2) w (f 0) K)] [] (zg [0,1] [t0,t1]) w K
theorem wN:nK t0 t1 w k0->Calls ah 56 #[t0,t1] w k0:=cz [(7,[6,7]),(23,[10])] [(6,[6,7,8])] func56
def mO(t0 t1 t5 w)(N1:JT)(K:KT):=nz f134 19 [N1] [nh 5 [5]] [(2,21)] (zg [0,1,5] [t0,t1,t5]) w K
def pV(t0 t1 w)(K:KT):=nz f134 1 [] [(5,[5],λs v j w f=>mO (s 0) (s 1) (vg v 0) w (f 0) K)] [] (zg [0,1] [t0,t1]) w K
theorem xS:pV t0 t1 w k0->Calls ah 134 #[t0,t1] w k0:=cz [] [(2,[5])] func134
def pD(e f d a w)(N1 N2:JT)(K:KT):=
 bnx .lss 3 a (iN 128) w K λb w=>etx b d w λg w=>etx b a w λh w=>gtx b (mBin .add 3 g h) w K λi w=>etx b e w λj w=>gtx b (mB .len #[9] 3 #[aq] #[j]) w K λk w=>gtx b (mBin .lss 3 i k) w K λl w=>dx (eH b l (.bool aq)) w K λc w=>etx c e w λm w=>etx c d w λn w=>etx c a w λo w=>gtx c (mBin .add 3 n o) w K λp w=>ctx c 134 #[m,p] w K λq w=>gtx c (mBin .lss 3 q (iN 3)) w K λr w=>dx (eH c r (.bool aq)) w K λs w=>IfX s (bnx .add 3 a (iN 1) w K λt w=>N2 [t] w) (HeldX w (λS3 w=>HDo ah S3 (mBin .sub 3 a (iN 1)) λu=>HDo ah S3 (fA 3 5 u) λv=>HDo ah S3 (mBin .add 3 d a) λx=>HDo ah S3 (cM 9 e (aw d) (aw x) av) λy=>DoX ah (bF 53 1 #[(0,v)]) w (ax 11 (pk K)) λz w=>S3 w∧(DoX ah (mB .append #[53,53] 53 #[aq,aq] #[f,z]) w (ax 11 (pk K)) λA w=>S3 w∧(DoX ah (mB .append #[53,9] 53 #[aq,aq] #[A,y]) w (ax 11 (pk K)) λB w=>S3 w∧(bnx .add 3 d a w K λC w=>N1 [B,C] w)))))
def pR(t0 t3 t4 w)(N1:JT)(K:KT):=nz f63 43 [N1] [nh 7 [3,4],(19,[5],λs v j w f=>pD (s 0) (s 3) (s 4) (vg v 0) w (f 1) (f 0) K)] [] (zg [0,3,4] [t0,t3,t4]) w K
def tH(t0 w)(K:KT):=nz f63 1 [] [(7,[3,4],λs v j w f=>pR (s 0) (vg v 0) (vg v 1) w (f 0) K)] [] (zg [0] [t0]) w K
theorem Ck:tH t0 w k0->Calls ah 63 #[t0] w k0:=cz [] [(3,[3,4]),(9,[5])] func63
def mP(t6 t11 w)(N3:JT)(K:KT):=nz f57 966575 [nj,N3] [nh 13 [6,7],nh 37 [6,11]] [] (zg [6,11] [t6,t11]) w K
def lG(t0 t6 t7 t8 t9 t10 t11 w)(N1 N3:JT)(K:KT):=nz f57 180143 [N1,N3] [nh 13 [6,7],nh 37 [6,11],(38,[6],λs v j w f=>mP (vg v 0) (s 11) w (f 0) K)] [] (zg [0,6,7,8,9,10,11] [t0,t6,t7,t8,t9,t10,t11]) w K
def lO(t0 t1 t6 t7 t8 t9 t10 w)(N1:JT)(K:KT):=nz f57 8111 [N1] [nh 13 [6,7],(37,[6,11],λs v j w f=>lG (s 0) (vg v 0) (s 7) (s 8) (s 9) (s 10) (vg v 1) w (f 1) (f 0) K)] [] (zg [0,1,6,7,8,9,10] [t0,t1,t6,t7,t8,t9,t10]) w K
def mH(t0 t1 t6 t7 w)(N1:JT)(K:KT):=nz f57 175 [N1] [nh 13 [6,7],(26,[9,10],λs v j w f=>lO (s 0) (s 1) (s 6) (s 7) (s 8) (vg v 0) (vg v 1) w (f 0) K)] [] (zg [0,1,6,7] [t0,t1,t6,t7]) w K
def qG(t0 t1 w)(K:KT):=nz f57 1 [] [(13,[6,7],λs v j w f=>mH (s 0) (s 1) (vg v 0) (vg v 1) w (f 0) K)] [] (zg [0,1] [t0,t1]) w K
theorem yI:qG t0 t1 w k0->Calls ah 57 #[t0,t1] w k0:=cz [(13,[9,10]),(19,[6])] [(6,[6,7]),(18,[6,11])] func57
end
section
open Eng Go.RowKit
theorem ra (mo:Nat):∀(s:List UInt8) (h:Int) (out:List UInt8),out.length<=mo->(eh mo s h out).1.length<=mo
|[],_,_,_=>aoO _
|c::r,h,out,ho=>by
  unfold eh
  repeat' split
  all_goals first|exact ra mo r _ _ ho|exact ho|exact aoO _|(simp;omega)|exact ra mo r _ _ (by simp;omega)
theorem NT (s:List UInt8)(most:Int)(w:ak)(hs:s.length<=1000000000):Ret ah 55 #[.string ⟨s.toArray⟩,.int .i64 most] w (λv w'=>v=zlT (ke s most)∧Below w.heap.size w w'):=by
 refine aK λK hK=>xR ?_;generalize hX:ke s most=X at hK;unfold ke ey at hX;unfold qH nz
 try simp only[rs]
 by_cases h0:most < 0
 ·rw[anX h0] at hX;simp only[h0,aoA,i_t];exact hK _ _ ⟨by rw[<-hX];rfl,Below.refl _ _⟩
 rw[anW h0] at hX;simp only[h0,aoB,i_f];rw[OH,show min most 1048576=((min most.toNat 1048576:Nat):Int) by omega];have hm:min most.toNat 1048576<=1048576:=atA _ _;generalize min most.toNat 1048576=mo at hX hm;refine loop (λvs W=>∃(i:Nat) (half:Int) (ov:ao) (out:List UInt8),vs=[ov,.int .i64 half,.int .i64 (i:Int)]∧i<=s.length∧-1<=half∧half<=15∧out.length<=mo∧eh mo (s.drop i) half out=X∧OwnS NoB w W [outR ov out]) (λvs _=>s.length - n2 vs) ⟨0,-1,nilS,[],rfl,om,om,om,sm,hX,(Own.start w).nilU 5 1⟩ ?_;clear hX;rintro vs w1 ⟨i,half,ov,out,rfl,hi,h1,h2,hol,hX,ho⟩ _;simp only[lI,gd,nz];rw[cL aoD]
 try simp only[rs]
 by_cases hlt:(i:Int) < (s.length:Int)
 case neg=>
  simp only[hlt,aoB,i_f];rw[apR om] at hX;exact hK _ _ ⟨by rw[<-hX];rfl,ho.done⟩
 simp only[hlt,aoA,i_t];have hi':i < s.length:=om
 rw[apV hi',eh] at hX;have hc:=aoI hi';generalize s[i]=c at hX hc;refine join λJ hJ=>?_;have next:∀(half':Int) (ov':ao) (out':List UInt8) (W:ak),-1<=half'->half'<=15->out'.length<=mo->eh mo (s.drop (i+1)) half' out'=X->OwnS NoB w W [outR ov' out']->J [ov',.int .i64 half'] W:=by
  intro half' ov' out' W g1 g2 g3 g4 ho;refine hJ _ _ λ_=>?_;simp only[lX,gd,rs,nz];rw[aA om om];exact aQ ⟨i+1,half',ov',out',rfl,om,g1,g2,g3,g4,ho⟩ (by simp[n2,RowKit.intOf];omega)
 have hix:∀{PK:PKT} {K:VWP} {W:ak},DoX ah (mIx 9 (.string ⟨s.toArray⟩) (.int .i64 (i:Int))) W PK K=K (.int .u8 (c.toNat:Int)) W:=λ{_ _ _}=>s_ix aoD om (by rw[aoF];exact hc);rw[hix];refine c_eq (Ly c w1) ?_;have hdg:=aaP c;by_cases hw:Oc.AF c=au
 ·rw[anX hw] at hX;rw[hw,i_t];exact next half ov out w1 h1 h2 hol hX ho
 rw[anW hw] at hX;rw[avO.2 hw,i_f,hix];refine c_eq (TK c w1) ?_;rw[hix]
 try simp only[rs]
 have put:∀{n:Nat} {PK:PKT} {K:VWP},(∀ov' W,OwnS NoB w W [outR ov' (out++[UInt8.ofNat n])]->K ov' W) ->
   DoX ah (bF 53 1 #[(0,.int .u8 ((UInt8.ofNat n).toNat:Int))]) w1 PK λt w=>DoX ah (mB .append #[53,53] 53 #[aq,aq] #[ov,t]) w PK K:=by
  intro n PK K a1;refine Dc _ ho λb8 w2 ho=>?_;refine aX 1 aoK elU8 dc ho rfl (eG (ho.at_ 0 rfl) dc rfl) aW om om λv' w10 ho=>a1 v' w10 ?_;rw[cQ];exact ho.tail
 have olen:∀{PK:PKT} {K:VWP},DoX ah (mB .len #[53] 3 #[aq] #[ov]) w1 PK K=K (.int .i64 (out.length:Int)) w1:=λ{_ _}=>aC (wL (cS (ho.at_ 0 rfl)));by_cases h62:c=62
 ·rw[anX h62] at hX;simp only[show ai ((c.toNat:Int)=62)=au by rw[h62];rfl,i_t];by_cases hh:half < 0
  ·rw[anX hh] at hX;simp only[show ai ((0:Int)<=half)=aq from anY om,rs,i_f];refine join λJ3 hJ3=>?_;refine hJ3 _ _ λ_=>?_;simp only[fY,gd,nz];rw[gO aoK aoP aoD (cS (ho.at_ 0 rfl))];exact hK _ _ ⟨by rw[<-hX];rfl,ho.done⟩
  rw[anW hh] at hX;simp only[show ai ((0:Int)<=half)=au from anZ om,rs,i_t];rw[olen]
  try simp only[rs]
  by_cases hf:mo<=out.length
  ·rw[anX hf] at hX;simp only[show ai ((mo:Int)<=(out.length:Int))=au from anZ om,i_t];exact hK _ _ ⟨by rw[<-hX];rfl,ho.done⟩
  rw[anW hf] at hX;simp only[show ai ((mo:Int)<=(out.length:Int))=aq from anY om,i_f];refine join λJ3 hJ3=>?_;rw[aA om om,show 16*half=((16*half.toNat:Nat):Int) by omega];refine aC (aO krx aoP) |>.mpr ?_;rw[lA];refine put λov' W ho=>?_;refine hJ3 _ _ λ_=>?_;simp only[fY,gd,nz];rw[gO aoK aoP aoD (cS (ho.at_ 0 rfl))];exact hK _ _ ⟨by rw[<-hX];rfl,ho.done⟩
 rw[anW h62] at hX;simp only[show ai ((c.toNat:Int)=62)=aq from anY (λh=>h62 (asP.1 (by rw[show (62:UInt8).toNat=62 from rfl];omega))),i_f];by_cases hd:Lx.digit c < 0
 ·rw[anX hd] at hX;simp only[hd,aoA,i_t];exact hK _ _ ⟨by rw[<-hX];rfl,ho.done⟩
 rw[anW hd] at hX;simp only[hd,aoB,i_f];by_cases hh:half < 0
 ·rw[anX hh] at hX;simp only[hh,aoA,i_t];exact next _ ov out w1 om om hol hX ho
 rw[anW hh] at hX;simp only[hh,aoB,i_f];rw[olen]
 try simp only[rs]
 by_cases hf:mo<=out.length
 ·rw[anX hf] at hX;simp only[show ai ((mo:Int)<=(out.length:Int))=au from anZ om,i_t];exact hK _ _ ⟨by rw[<-hX];rfl,ho.done⟩
 rw[anW hf] at hX;simp only[show ai ((mo:Int)<=(out.length:Int))=aq from anY om,i_f];rw[aA (n:=16*half) om om,aA om om,show 16*half+Lx.digit c=((16*half+Lx.digit c).toNat:Int) by omega];refine aC (aO krx aoP) |>.mpr ?_;rw[lA];refine put λov' W ho=>?_;exact next _ ov' _ W om om (by simp;omega) hX ho
def ep (most:Nat):Nat->List UInt8->List UInt8->List UInt8×Int
|0,_,_=>([],13)
|f+1,s,out=>
  match s with
 |[]=>([],4)
 |c::r=>
   if c.toNat=128 then (out,0)
   else if c.toNat < 128 then
    if r.length < c.toNat+1 then ([],4)
    else if most < out.length+(c.toNat+1) then ([],5)
    else ep most f (r.drop (c.toNat+1)) (out++r.take (c.toNat+1))
   else if r.length < 1 then ([],4)
   else if most < out.length+(257 - c.toNat) then ([],5)
   else ep most f (r.drop 1) (out++Lib.repeatL (r.take 1) (257 - c.toNat))
def mc (s:List UInt8)(most:Int):List UInt8×Int:=ey (λm=>ep m (s.length+1) s []) most
theorem Pu:bZ ah 188=true:=krx
theorem BE {s:List UInt8}(h:s.length=1):∀n,(Lib.repeatL s n).length=n
|0=>rfl
|n+1=>by rw[Bi,aoC,BE h n,h]
theorem XJ {T:List Ent}(s:List UInt8)(b mo:Nat)(hs:s.length<=1000000000)(hm:mo<=1048576)(ho:OwnS S w0 w (Sk b mo nilS [] T))
  (kt:∀ov' out W,ep mo (s.length+1) s []=(out,0)->out.length<=mo->OwnS S w0 W (Sk b mo ov' out T)->K (.tuple #[]) W) (kf:∀e ov' out W,ep mo (s.length+1) s []=([],e)->OwnS S w0 W (Sk b mo ov' out T)->PK [upA e] W) :
  CallX ah 188 #[.string ⟨s.toArray⟩,.pointer (aw ⟨b,0,av⟩)] w PK K:=by
 generalize hX:ep mo (s.length+1) s []=X at kt kf;refine⟨FW ?_⟩;unfold B8 nz;refine loop (λvs W=>∃(t:List UInt8) (ov:ao) (out:List UInt8),vs=[.string ⟨t.toArray⟩]∧t.length<=s.length∧out.length<=mo∧(∃f,t.length < f∧ep mo f t out=X)∧OwnS S w0 W (Sk b mo ov out T)) (λvs _=>iG (vs.getD 0 undef)) ⟨s,nilS,[],rfl,aoG _,sm,⟨_,om,hX⟩,ho⟩ ?_;clear ho hX;rintro vs w1 ⟨t,ov,out,rfl,hi,hol,⟨f,hf,hX⟩,ho⟩ _;simp only[wZ,gd,nz];obtain⟨f,rfl⟩:∃f',f=f'+1:=⟨f - 1,om⟩;unfold ep at hX;have he:∀{u:List UInt8} {W:ak} {xo yo:Operand} {PK:PKT} {K:VWP},DoX ah (mEq .neq 9 xo yo (.string ⟨u.toArray⟩) (.string ⟨#[]⟩)) W PK K=K (.bool (ai (u≠[]))) W:=λ{u _ _ _ _ _}=>Pv (b:=[]);rw[he];cases t with
|nil=>exact mU (λh=>by simp at h) (λ_=>kf 4 ov out w1 hX.symm ho)
|cons c r=>
 rw[show ai ((c::r:List UInt8)≠[])=au from rfl];refine mU (λ_=>?_) (λh=>by cases h);dsimp only at hX;rw[s_ix (c:=c) aoD dc rfl,u8ix,Ac aoD dc (by simp;omega)];rw[show (1:Int).toNat=1 from rfl,List.drop_one,List.tail_cons];have hc:=apT c;generalize c.toNat=n at hX hc;rw[apB] at hi hf
 try simp only[rs]
 by_cases h1:n=128
 ·rw[anX h1] at hX;simp only[show ai ((n:Int)=128)=au from anZ om,i_t];exact kt ov out w1 hX.symm hol ho
 rw[anW h1] at hX;simp only[show ai ((n:Int)=128)=aq from anY om,i_f];have put:∀{l:List UInt8} {W:ak} {PK:PKT} {K:VWP},l.length<=1000->OwnS S w0 W (Sk b mo ov out T)->(out.length+l.length<=mo->∀ov' W,OwnS S w0 W (Sk b mo ov' (out++l) T)->K (.tuple #[]) W)->(mo < out.length+l.length->∀W,OwnS S w0 W (Sk b mo ov out T)->PK [upA 5] W) ->
   DoX ah (fA 9 53 (.string ⟨l.toArray⟩)) W PK λt w=>CallX ah 178 #[.pointer (aw ⟨b,0,av⟩),t] w PK K:=by
  intro l W PK K hl ho a1 a2;refine Gp aoD aoK aoP ho λb2 cap w2 ho=>?_;exact Ra ho Mc hm hol om a1 a2
 by_cases h2:n < 128
 ·rw[anX h2] at hX;simp only[show ai ((n:Int) < 128)=au from anZ om,i_t];rw[cL aoD]
  try simp only[rs]
  refine mU (λg=>?_) (λg=>?_)
  rotate_left
  ·have:=apM g;rw[anX om] at hX;exact kf 4 ov out w1 hX.symm ho
  have g:=aoU g;rw[anW om] at hX;rw[aA om om,Rc aoD om om,show ((n:Int)+1).toNat=n+1 by omega];have htl:(r.take (n+1)).length=n+1:=by rw[aoH];omega
  refine put om ho (λg2 ov' W ho=>?_) (λg2 W ho=>?_)
  ·rw[anW om] at hX;rw[Ac aoD om om,show ((n:Int)+1).toNat=n+1 by omega];refine aQ ⟨r.drop (n+1),ov',_,rfl,by rw[aoJ];omega,by rw[aoC];omega,⟨f,by rw[aoJ];omega,hX⟩,ho⟩ (by show iG (.string ⟨(r.drop (n+1)).toArray⟩) < iG (.string ⟨(c::r).toArray⟩);rw[eR,eR,aoJ,apB];omega)
  ·rw[anX om] at hX;exact kf 5 ov out W hX.symm ho
 rw[anW h2] at hX;simp only[show ai ((n:Int) < 128)=aq from anY om,i_f]
 try rw[he]
 refine mU (λg=>?_) (λg=>?_)
 rotate_left
 ·have g:=apM g;rw[anX (by rw[Decidable.not_not.1 g];decide)] at hX;exact kf 4 ov out w1 hX.symm ho
 have g:r≠[]:=aoU g;have g:0 < r.length:=arI.2 g;rw[anW om] at hX;rw[Rc aoD dc om,show (1:Int).toNat=1 from rfl]
 try simp only[rs]
 rw[aA om om,show (257:Int) - (n:Int)=((257 - n:Nat):Int) by omega];have htl:(r.take 1).length=1:=by rw[aoH];omega
 refine aH ho (Tj (r.take 1) (257 - n) w1 (by rw[htl];omega) om) ?_;rintro _ w2 rfl ho;have hrl:=BE htl (257 - n);refine put om ho (λg2 ov' W ho=>?_) (λg2 W ho=>?_)
 ·rw[anW om] at hX;rw[Ac aoD om om,show (1:Int).toNat=1 from rfl];refine aQ ⟨r.drop 1,ov',_,rfl,by rw[aoJ];omega,by rw[aoC];omega,⟨f,by rw[aoJ];omega,hX⟩,ho⟩ (by show iG (.string ⟨(r.drop 1).toArray⟩) < iG (.string ⟨(c::r).toArray⟩);rw[eR,eR,aoJ,apB];omega)
 ·rw[anX om] at hX;exact kf 5 ov out W hX.symm ho
theorem T8 (s:List UInt8)(most:Int)(M:Mem)(w:ak)(hs:s.length<=1000000000)(hM:M.has w):RetM ah 120 #[.string ⟨s.toArray⟩,.int .i64 most] M w (λv _=>v=zlT (mc s most)∧(mc s most).1.length<=1048576):=by
 refine aU hM λK hK=>Ih ?_;unfold Et nz;refine bI (OwnS.memS hM) 0 rfl (BM _ Pu s most _ M w hM λb mo hm ho kt kf=>XJ s b mo hs hm ho kt kf) ?_;rintro _ N w1 g1 ⟨rfl,hl⟩ ho;simp only[zlT,ex];exact hK _ _ N _ 0 ho rfl g1 ⟨rfl,hl⟩
end
section
open Eng Go.RowKit
section
variable {w:ak}{PK:PKT}{K:VWP}{S:Nat->Prop}{w0:ak}{L T:List Ent}
theorem UQ (c:UInt8){ov:ao}{out:List UInt8}(ho:OwnS S w0 w (outR ov out::T))(hl:out.length<=1000000000)(k:∀ov' W,OwnS S w0 W (outR ov' (out++[c])::T)->K ov' W) :
  DoX ah (bF 53 1 #[(0,.int .u8 (c.toNat:Int))]) w PK λt w=>DoX ah (mB .append #[53,53] 53 #[aq,aq] #[ov,t]) w PK K:=by
 refine Dc _ ho λb8 w2 ho=>?_;refine aX 1 aoK elU8 dc ho rfl (eG (ho.at_ 0 rfl) dc rfl) aW om om λv' w10 ho=>k v' w10 ?_;rw[cQ];exact ho.tail
theorem Po {ov:ao}{out:List UInt8}(i:Nat)(ho:OwnS S w0 w L)(hi:L[i]?=aw (outR ov out)):DoX ah (mB .len #[53] 3 #[aq] #[ov]) w PK K=K (.int .i64 (out.length:Int)) w:=aC (wL (cS (ho.at_ i hi)))
end
theorem O8 (s:List UInt8)(most:Int)(w:ak)(hs:s.length<=1000000000):Ret ah 57 #[.string ⟨s.toArray⟩,.int .i64 most] w (λv w'=>v=zlT (mc s most)∧Below w.heap.size w w'):=by
 refine aK λK hK=>yI ?_;generalize hX:mc s most=X at hK;unfold mc ey at hX;unfold qG nz
 try simp only[rs]
 by_cases h0:most < 0
 ·rw[anX h0] at hX;simp only[h0,aoA,i_t];exact hK _ _ ⟨by rw[<-hX];rfl,Below.refl _ _⟩
 rw[anW h0] at hX;simp only[h0,aoB,i_f];rw[OH,show min most 1048576=((min most.toNat 1048576:Nat):Int) by omega];have hm:min most.toNat 1048576<=1048576:=atA _ _;generalize min most.toNat 1048576=mo at hX hm;refine loop (λvs W=>∃(i:Nat) (ov:ao) (out:List UInt8),vs=[ov,.int .i64 (i:Int)]∧i<=s.length∧out.length<=mo∧(∃f,s.length - i < f∧ep mo f (s.drop i) out=X)∧OwnS NoB w W [outR ov out]) (λvs _=>s.length - n1 vs) ⟨0,nilS,[],rfl,om,sm,⟨_,om,hX⟩,(Own.start w).nilU 5 1⟩ ?_;clear hX;rintro vs w1 ⟨i,ov,out,rfl,hi,hol,⟨f,hf,hX⟩,ho⟩ _;simp only[mH,gd,nz];obtain⟨f,rfl⟩:∃f',f=f'+1:=⟨f - 1,om⟩;unfold ep at hX;rw[cL aoD]
 try simp only[rs]
 by_cases hlt:(i:Int) < (s.length:Int)
 case neg=>
  simp only[hlt,aoB,i_f];rw[apR om] at hX;exact hK _ _ ⟨by rw[<-hX];rfl,ho.done⟩
 simp only[hlt,aoA,i_t];have hi':i < s.length:=om
 rw[apV hi'] at hX;dsimp only at hX;rw[s_ix aoD om (by rw[aoF];exact aoI hi'),u8ix];have hc:=apT s[i];generalize s[i].toNat=n at hX hc;rw[aoJ,arE] at hX
 try simp only[rs]
 by_cases h1:n=128
 ·rw[anX h1] at hX;simp only[show ai ((n:Int)=128)=au from anZ om,i_t];rw[gO aoK aoP aoD (cS (ho.at_ 0 rfl))];exact hK _ _ ⟨by rw[<-hX];rfl,ho.done⟩
 rw[anW h1] at hX;simp only[show ai ((n:Int)=128)=aq from anY om,i_f];rw[aA (n:=(n:Int)+1) om om,aA (n:=(i:Int)+1) om om,aA (n:=(i:Int)+1+(n:Int)) om om,aA (n:=(i:Int)+1+(n:Int)+1) om om];refine join λJ hJ=>?_;have main:∀(m nx:Nat) (src:List UInt8),m<=1000->i < nx->nx<=i+1000->(nx<=s.length->src.length=m∧∀j,j < m->src[j]?=s[if 128 < n then i+1 else i+1+j]?)->(if s.length < nx then ([],4) else if mo < out.length+m then ([],5) else ep mo f (s.drop nx) (out++src))=X->J [.int .i64 (m:Int),.int .i64 (nx:Int)] w1:=by
  intro m nx src g1 g2 g3 g4 hX;refine hJ _ _ λ_=>?_;simp only[lO,gd,nz];rw[cL aoD]
  try simp only[rs]
  by_cases h4:s.length < nx
  ·rw[anX h4] at hX;simp only[show ai ((s.length:Int) < (nx:Int))=au from anZ om,i_t];exact hK _ _ ⟨by rw[<-hX];rfl,ho.done⟩
  rw[anW h4] at hX;simp only[show ai ((s.length:Int) < (nx:Int))=aq from anY om,i_f];obtain⟨g5,g6⟩:=g4 om;rw[Po 0 ho rfl]
  try simp only[rs]
  rw[aA om om];by_cases h5:mo < out.length+m
  ·rw[anX h5] at hX;simp only[show ai ((mo:Int) - (out.length:Int) < (m:Int))=au from anZ om,i_t];exact hK _ _ ⟨by rw[<-hX];rfl,ho.done⟩
  rw[anW h5] at hX;simp only[show ai ((mo:Int) - (out.length:Int) < (m:Int))=aq from anY om,i_f];refine loop (λvs W=>∃(j:Nat) (ov:ao),vs=[ov,.int .i64 (j:Int)]∧j<=m∧OwnS NoB w W [outR ov (out++src.take j)]) (λvs _=>m - n1 vs) ⟨0,ov,rfl,om,by rw[arP,aoV];exact ho⟩ ?_;clear ho;rintro vs w2 ⟨j,ov,rfl,hj,ho⟩ _;simp only[lG,gd,rs,nz];by_cases hjm:(j:Int) < (m:Int)
  case neg=>
   simp only[hjm,aoB,i_f];have:j=m:=om
   subst this;rw[apE om] at ho;exact aQ ⟨nx,ov,out++src,rfl,om,by rw[aoC];omega,⟨f,om,hX⟩,ho⟩ (by simp[n1,RowKit.intOf];omega)
  simp only[hjm,aoA,i_t];have hj':j < src.length:=om
  have g7:=g6 j om;rw[aoI hj'] at g7;refine join λJ4 hJ4=>?_;have next:∀ov' W,OwnS NoB w W [outR ov' (out++src.take j++[src[j]])]->J4 [ov'] W:=by
   intro ov' W ho;refine hJ4 _ _ λ_=>?_;simp only[mP,gd,rs,nz];rw[aA om om];refine aQ ⟨j+1,ov',rfl,om,?_⟩ (by simp[n1,RowKit.intOf];omega);rw[apG hj',<-aoL];exact ho
  have hol2:(out++src.take j).length<=1000000000:=by rw[aoC,aoH];omega
  by_cases h6:128 < n
  ·simp only[show ai ((128:Int) < (n:Int))=au from anZ om,i_t];rw[anX h6] at g7;rw[aA om om,s_ix (c:=src[j]) aoD om (by rw[show ((i:Int)+1).toNat=i+1 by omega];exact g7.symm)];exact UQ _ ho hol2 next
  ·simp only[show ai ((128:Int) < (n:Int))=aq from anY om,i_f];rw[anW h6] at g7;rw[aA (n:=(i:Int)+1) om om,aA om om,s_ix (c:=src[j]) aoD om (by rw[show ((i:Int)+1+(j:Int)).toNat=i+1+j by omega];exact g7.symm)];exact UQ _ ho hol2 next
 by_cases h2:n < 128
 ·rw[anX h2] at hX;simp only[show ai ((128:Int) < (n:Int))=aq from anY om,i_f];have:=main (n+1) (i+1+n+1) ((s.drop (i+1)).take (n+1)) om om om (λh=>⟨by rw[aoH,aoJ];omega,λj hj=>by rw[anW om,auV hj,aqG]⟩) ?_
  ·exact this
  rw[<-hX];by_cases k1:s.length < i+1+n+1
  ·rw[anX k1,anX om]
  ·rw[anW k1,anW (show ¬s.length - (i+1) < n+1 by omega)];rfl
 ·rw[anW h2] at hX;simp only[show ai ((128:Int) < (n:Int))=au from anZ om,i_t];rw[aA om om,aA om om,show (257:Int) - (n:Int)=((257 - n:Nat):Int) by omega];refine main (257 - n) (i+2) (Lib.repeatL ((s.drop (i+1)).take 1) (257 - n)) om om om (λh=>?_) ?_
  ·have hl:((s.drop (i+1)).take 1)=[s[i+1]]:=by
    rw[apV om];rfl
   rw[hl,repeatL_one];refine⟨apC,λj hj=>?_⟩;rw[anX om,atO,anX hj,aoI]
  rw[<-hX];by_cases k1:s.length < i+2
  ·rw[anX k1,anX om]
  ·rw[anW k1,anW (show ¬s.length - (i+1) < 1 by omega),arE]
end
section
open Eng Go.RowKit
def ij:List Nat:=[52200625,614125,7225,85,1]
def ei (g:List UInt8)(i:Nat):Nat:=(g.getD i 84).toNat
def br (g:List UInt8):Nat:=(((ei g 0*85+ei g 1)*85+ei g 2)*85+ei g 3)*85+ei g 4
def ko (g:List UInt8):Nat->Nat
|0=>0
|i+1=>ko g i+ei g i*ij.getD i 0
theorem gz (g:List UInt8)(i:Nat):ei g i < 256:=apT _
theorem ym (g:List UInt8):ko g 5=br g:=by
 simp only[ko,br,ij];show 0+ei g 0*52200625+ei g 1*614125+ei g 2*7225+ei g 3*85+ei g 4*1=_;omega
theorem lt5 (h:i < 5):i=0∨i=1∨i=2∨i=3∨i=4:=om
theorem si (h:i < 5):ij.getD i 0<=52200625:=by
 rcases lt5 h with rfl|rfl|rfl|rfl|rfl<;>decide
theorem pq (g:List UInt8):∀i,i<=5->ko g i<=i*13311159375
|0,_=>aoG _
|i+1,h=>by
  have h1:=pq g i om;have h2:ei g i*ij.getD i 0<=255*52200625:=arQ (by have:=gz g i;omega) (si om);simp only[ko];omega
def ix (mo:Nat)(r g out:List UInt8):List UInt8×Int:=
 if r=[] then ([],4)
 else if r.getD 0 0≠62∨g.length=1 then ([],3)
 else if g.length=0 then (out,0)
 else if 4294967296<=br g then ([],3)
 else if mo < out.length+(g.length - 1) then ([],5)
 else (out++(bj (br g)).take (g.length - 1),0)
def dj (mo:Nat):List UInt8->List UInt8->List UInt8->List UInt8×Int
|[],_,_=>([],4)
|c::r,g,out=>
  if Oc.AF c=au then dj mo r g out
  else if c.toNat=122∧g.length=0 then (if mo < out.length+4 then ([],5) else dj mo r [] (out++[0,0,0,0]))
  else if 33<=c.toNat∧c.toNat<=117 then
   if g.length+1 < 5 then dj mo r (g++[c - 33]) out
   else if 4294967296<=br (g++[c - 33]) then ([],3)
   else if mo < out.length+4 then ([],5)
   else dj mo r [] (out++bj (br (g++[c - 33])))
  else if c.toNat=126 then ix mo r g out
  else ([],3)
def me (s:List UInt8)(most:Int):List UInt8×Int:=ey (λm=>dj m s [] []) most
def Pws (M:Mem):Prop:=M.A 0∧∀i,i < 5->M.w.cell? ⟨0,i,av⟩=aw (.int .u64 ((ij.getD i 0:Nat):Int))
theorem Pws.le {M N:Mem}(h:M.le N)(k:Pws M):Pws N:=⟨h.A _ k.1,λi hi=>Mem.cell h.has k.1 (k.2 i hi)⟩
def pwV:Value:=.agg #[.int .u64 52200625,.int .u64 614125,.int .u64 7225,.int .u64 85,.int .u64 1]
def gpC (d:List UInt8)(n:Nat):List Value:=aG d++[.int .i64 (n:Int)]
abbrev gpE (b:Nat)(d:List UInt8)(n:Nat):Ent:=.cells b (gpC d n) 201
def gp0 (g:List UInt8):List UInt8:=g++List.replicate (5 - g.length) 0
theorem oR {g:List UInt8}(h:g.length<=5):(gp0 g).length=5:=by unfold gp0;rw[aoC,apC];omega
theorem Wl:fOff ah 201 0=aw 0:=krx
theorem F4:fOff ah 201 1=aw 5:=krx
theorem szGp:(Tryz.prog.info? 201).map (·.size)=aw 6:=krx
theorem sz4b:(Tryz.prog.info? 192).map (·.size)=aw 4:=krx
theorem akW:aggN ah 197=aw 5:=krx
theorem Zs {d:List UInt8}{n:Nat}(h:d.length=5):(gpC d n)[5]?=aw (.int .i64 (n:Int)):=by
 unfold gpC;rw[arD (by rw[fT];omega),fT,h];rfl
theorem aaS {d:List UInt8}{n:Nat}(h:i < d.length):(gpC d n)[i]?=aw (.int .u8 (d[i].toNat:Int)):=by
 unfold gpC;rw[aqO (by rw[fT];exact h),fC h]
theorem Wt {d:List UInt8}{n:Nat}{c:UInt8}(h:i < d.length):(gpC d n).set i (.int .u8 (c.toNat:Int))=gpC (d.set i c) n:=by
 unfold gpC;rw[List.set_append_left _ _ (by rw[fT];exact h)];simp[aG,atQ]
theorem Zj {d:List UInt8}{n:Nat}(h:d.length=5):(gpC d n).set 5 (.int .i64 (m:Int))=gpC d m:=by
 unfold gpC;rw[asD _ _ (by rw[fT];omega),fT,h];rfl
theorem MY {d:List UInt8}{n:Nat}:(gpC d n).length=d.length+1:=by simp[gpC,fT]
theorem agS {n k:Nat}(hk:k<=64):((n:Nat):Int).fdiv (2 ^ (min ((k:Nat):Int).toNat IntKind.u64.bits))=((n / 2 ^ k:Nat):Int):=by
 rw[show min ((k:Nat):Int).toNat IntKind.u64.bits=k by show min ((k:Nat):Int).toNat 64=k;omega,PR]
theorem nW {n:Nat}(h:n < 18446744073709551616):IntKind.u64.wrap (n:Int)=(n:Int):=by unfold IntKind.wrap;simp[IntKind.bits,IntKind.signed];omega
theorem Sl.pre {l:List UInt8}{T:TypeId}(hw:W.heap[b]?=aw (.cells (aG l).toArray T (0,0)))(hh:h<=l.length):Sl W (.slice (aw ⟨b,0,av⟩) h cap) 1 (l.take h).length (aG (l.take h)):=by
 have hl:(l.take h).length=h:=by rw[aoH];omega
 refine⟨by rw[fT,aoS],aw ⟨b,0,av⟩,cap,by rw[hl],(λh=>by cases h),λp hp=>by
  cases hp;refine⟨λ_=>rfl,λj u hj=>?_⟩;rw[aoN];refine aI (T:=T) (cs:=aG l) hw ?_;have:aG (l.take h)=(aG l).take h:=by simp[aG,atB]
  rw[this] at hj;have hj2:=(aoX.1 hj).1;rw[aoH] at hj2
  rwa [auV om] at hj⟩
section
variable {w:ak}{PK:PKT}{K:VWP}{S:Nat->Prop}{w0:ak}{L T:List Ent}
theorem adF (h:Pws M)(hm:M.has W):DoX ah (aJ 197 (.pointer (aw ⟨0,0,av⟩))) W PK K=K pwV W:=by
 refine l_at (AtV.agg (cs:=[.int .u64 52200625,.int .u64 614125,.int .u64 7225,.int .u64 85,.int .u64 1]) akW rfl λj v hj=>?_);have hj5:j < 5:=(aoX.1 hj).1;rw[aoN,Mem.cell hm h.1 (h.2 j hj5)];rcases lt5 hj5 with rfl|rfl|rfl|rfl|rfl<;>exact hj
theorem afY (hi:i < 5):(mIx 197 pwV (.int .i64 (i:Int))).run ah w=.ok (.value (.int .u64 ((ij.getD i 0:Nat):Int))) w:=by
 rcases lt5 hi with rfl|rfl|rfl|rfl|rfl<;>kernel_rfl
theorem VF (hi:i < 5):(mIA 199 (.pointer (aw ⟨b,0,av⟩)) (.int .i64 (i:Int))).run ah w=.ok (.value (.pointer (aw ⟨b,i,av⟩))) w:=by
 rcases lt5 hi with rfl|rfl|rfl|rfl|rfl<;>kernel_rfl
theorem anE (hh:h<=4):(cM 192 (.pointer (aw ⟨b,0,av⟩)) av (aw (.int .i64 (h:Int))) av).run ah w=.ok (.value (.slice (aw ⟨b,0,av⟩) h 4)) w:=by
 rcases (by omega:h=0∨h=1∨h=2∨h=3∨h=4) with rfl|rfl|rfl|rfl|rfl<;>kernel_rfl
theorem A4 (ho:OwnS S w0 w L)(j:Nat){n:Nat}{d:List UInt8}(hi:L[j]?=aw (gpE b d n))(hd:d.length=5):DoX ah (aJ 3 (.pointer (aw ⟨b,0+5,av⟩))) w PK K=K (.int .i64 (n:Int)) w:=aS bP (ho.cell j hi 5 (Zs hd))
theorem aaL {gb:Nat}{ov:ao}{out g:List UInt8}(ho:OwnS S w0 w (Sk b mo ov out (gpE gb (gp0 g) g.length::.mem M::T)))(hpw:Pws M)(hm:mo<=1048576)(hol:out.length<=mo)(hg1:1<=g.length)(hg5:g.length<=5)
  (kt:br g < 4294967296->out.length+(g.length - 1)<=mo->∀ov' W,OwnS S w0 W (Sk b mo ov' (out++(bj (br g)).take (g.length - 1)) (gpE gb (gp0 []) 0::.mem M::T))->K (.tuple #[]) W)
  (k3:4294967296<=br g->∀W,OwnS S w0 W (Sk b mo ov out (.mem M::T))->PK [upA 3] W)
  (k5:br g < 4294967296->mo < out.length+(g.length - 1)->∀W,OwnS S w0 W (Sk b mo ov out (.mem M::T))->PK [upA 5] W) :
  CallX ah 184 #[.pointer (aw ⟨gb,0,av⟩),.pointer (aw ⟨b,0,av⟩)] w PK K:=by
 refine⟨CW ?_⟩;unfold wM nz
 try rw[aY]
 rw[aP F4,A4 ho 2 rfl (oR hg5)];refine loop (λvs W=>∃(i:Nat) (d:List UInt8),vs=[.int .i64 (i:Int)]∧g.length<=i∧i<=5∧d.length=5∧(∀j,j < i->(d.getD j 0).toNat=ei g j)∧OwnS S w0 W (Sk b mo ov out (gpE gb d g.length::.mem M::T))) (λvs _=>5 - n0 vs) ⟨g.length,gp0 g,rfl,aoG _,hg5,oR hg5,λj hj=>by
  unfold gp0 ei;rw[aoE,aqO hj,aoE,aoI hj];rfl,ho⟩ ?_
 clear ho;rintro vs w1 ⟨i,d,rfl,hi1,hi5,hd,hdj,ho⟩ _;simp only[sF,gd,rs,nz];by_cases hlt:(i:Int) < 5
 ·simp only[hlt,aoA,i_t]
  try rw[aY]
  rw[aP Wl];refine aC (VF om) |>.mpr ?_;refine aN 2 ho rfl krx rfl (by rw[MY];omega) λw2 ho=>?_;rw[aA om om];refine aQ ⟨i+1,d.set i 84,rfl,om,om,by rw[aqM];exact hd,λj hj=>?_,?_⟩ (by simp[n0,RowKit.intOf];omega)
  ·rw[aoE,List.getElem?_set];split
   ·rename_i h;subst h
    rw[anX om];unfold ei;rw[aoE,aqB om];rfl
   ·rw[<-aoE];exact hdj j om
  ·have e:(gpC d g.length).set i (.int .u8 84)=gpC (d.set i 84) g.length:=Wt (c:=84) om;show OwnS S w0 w2 (Sk b mo ov out (.cells gb (gpC (d.set i 84) g.length) 201::.mem M::T));rw[<-e];exact ho
 simp only[hlt,aoB,i_f];have:i=5:=om
 subst this;rw[adF hpw (ho.hasM 3 rfl)];refine loop (λvs W=>∃i:Nat,vs=[.int .u64 ((ko g i:Nat):Int),.int .i64 (i:Int)]∧i<=5∧OwnS S w0 W (Sk b mo ov out (gpE gb d g.length::.mem M::T))) (λvs _=>5 - n1 vs) ⟨0,rfl,om,ho⟩ ?_;clear ho;rintro vs w2 ⟨i,rfl,hi5,ho⟩ _;simp only[rC,gd,rs,nz];by_cases hlt:(i:Int) < 5
 ·simp only[hlt,aoA,i_t];refine aC (afY om) |>.mpr ?_
  try rw[aY]
  rw[aP Wl];refine aC (VF om) |>.mpr ?_;rw[aS nU8l (ho.cell 2 rfl i (aaS om))];refine aC (aO krx auB) |>.mpr ?_;have e1:d[i].toNat=ei g i:=by
   have:=hdj i om
   rwa [aoE,aoI om,asB] at this
  have h1:=gz g i;have h2:ei g i*ij.getD i 0<=255*52200625:=arQ om (si om);have h3:=pq g i om;rw[e1,nW om]
  try simp only[rs]
  rw[show ((ei g i:Nat):Int)*((ij.getD i 0:Nat):Int)=((ei g i*ij.getD i 0:Nat):Int) by push_cast;rfl,nW om,show ((ko g i:Nat):Int)+((ei g i*ij.getD i 0:Nat):Int)=((ko g (i+1):Nat):Int) by simp only[ko];push_cast;rfl,
   nW (by simp only[ko];omega),aA om om]
  exact aQ ⟨i+1,rfl,om,ho⟩ (by simp[n1,RowKit.intOf];omega)
 simp only[hlt,aoB,i_f];have:i=5:=om
 subst this;have h3:=pq g 5 om;rw[ym] at h3 ⊢;refine mU (λh=>?_) (λh=>?_)
 rotate_left
 ·have:=apM h;exact k3 om w2 (ho.sub (.cons_cons _ (.cons_cons _ (.cons _ (arK _)))))
 have hv:=aoU h;have hv:br g < 4294967296:=om
 generalize br g=v at kt k5 hv;have hsh:∀k:Nat,k<=64->∀{W:ak} {PK:PKT} {K:VWP},DoX ah (mBin .shr 147 (.int .u64 (v:Int)) (.int .u64 (k:Int))) W PK K=K (.int .u64 ((v / 2 ^ k:Nat):Int)) W:=by
  intro k hk W PK K;rw[FC om,agS hk]
 rw[show (24:Int)=((24:Nat):Int) from rfl,hsh 24 om];refine aC (aO krx aoP) |>.mpr ?_;rw[lA,show (16:Int)=((16:Nat):Int) from rfl,hsh 16 om];refine aC (aO krx aoP) |>.mpr ?_;rw[lA,show (8:Int)=((8:Nat):Int) from rfl,hsh 8 om];refine aC (aO krx aoP) |>.mpr ?_;rw[lA];refine aC (aO krx aoP) |>.mpr ?_;rw[lA];have hb4:∀{a b c d:Int} {W:ak} {PK:PKT} {K:VWP},DoX ah (bA 192 #[(0,.int .u8 a),(1,.int .u8 b),(2,.int .u8 c),(3,.int .u8 d)]) W PK K=K (.agg #[.int .u8 a,.int .u8 b,.int .u8 c,.int .u8 d]) W:=λ{_ _ _ _ _ _ _}=>aC krx;rw[hb4];refine bD (λb=>.pointer (aw ⟨b,0,av⟩)) (aG [0,0,0,0]) 192 (λ_=>by kernel_rfl) ho λb8 w3 ho=>?_;refine iL 0 ho rfl (new:=aG (bj v)) sz4b aW rfl λw4 ho=>?_
 try rw[aY]
 rw[aP F4,A4 ho 3 rfl hd]
 try simp only[rs]
 rw[aA om om,show ((g.length:Int) - 1)=((g.length - 1:Nat):Int) by omega];refine aC (anE om) |>.mpr ?_;have htl:((bj v).take (g.length - 1)).length=g.length - 1:=by rw[aoH,show (bj v).length=4 from rfl];omega
 refine Ra (l:=(bj v).take (g.length - 1)) ho (λW h=>?_) hm hol om (λh5 ov' w5 ho=>?_) (λh5 w5 ho=>?_)
 ·have:=Sl.pre (cap:=4) (h:=g.length - 1) h (by show _<=4;omega);rw[htl] at this ⊢;exact this
 rotate_left
 ·exact k5 hv om w5 (ho.sub (.cons_cons _ (.cons_cons _ (.cons _ (arK _)))))
 refine aC (show (bA 201 #[]).run ah w5=.ok (.value (.agg (gpC (gp0 []) 0).toArray)) w5 by kernel_rfl) |>.mpr ?_
 try rw[aY]
 refine iL 2 ho rfl (new:=gpC (gp0 []) 0) szGp (λu hu=>?_) (by rw[MY,hd];rfl) λw6 ho=>?_
 ·rcases apF.1 hu with h|h
  ·exact aW u h
  ·rw[aoZ.1 h];rfl
 exact kt hv om ov' w6 ho
end
theorem Na:bZ ah 183=true:=krx
section
variable {w:ak}{PK:PKT}{K:VWP}{S:Nat->Prop}{w0:ak}{T:List Ent}
theorem ahK {gb:Nat}{ov:ao}{r out g:List UInt8}(ho:OwnS S w0 w (Sk b mo ov out (gpE gb (gp0 g) g.length::.mem M::T)))(hpw:Pws M)(hm:mo<=1048576)(hol:out.length<=mo)(hg5:g.length<=5)(hr:r.length<=1000000000)
  (kt:∀ov' out' W,ix mo r g out=(out',0)->out'.length<=mo->OwnS S w0 W (Sk b mo ov' out' (.mem M::T))->K (.tuple #[]) W)
  (kf:∀e ov' out' W,ix mo r g out=([],e)->OwnS S w0 W (Sk b mo ov' out' (.mem M::T))->PK [upA e] W) :
  CallX ah 185 #[.string ⟨r.toArray⟩,.pointer (aw ⟨gb,0,av⟩),.pointer (aw ⟨b,0,av⟩)] w PK K:=by
 generalize hX:ix mo r g out=X at kt kf;unfold ix at hX;have drop:∀{ov out d n W},OwnS S w0 W (Sk b mo ov out (gpE gb d n::.mem M::T))->OwnS S w0 W (Sk b mo ov out (.mem M::T)):=λ{_ _ _ _ _} ho=>ho.sub (.cons_cons _ (.cons_cons _ (.cons _ (arK _))));refine⟨KP ?_⟩;unfold KE nz;rw[show (Value.string ⟨#[]⟩)=.string ⟨([]:List UInt8).toArray⟩ from rfl,Pv];refine mU (λh=>?_) (λh=>?_)
 rotate_left
 ·rw[anX (Decidable.not_not.1 (apM h))] at hX;exact kf 4 ov out w hX.symm (drop ho)
 have h1:r≠[]:=aoU h;rw[anW h1] at hX;have hl:=arI.2 h1;rw[s_ix aoD dc (get0 (i:=0) hl)];have hc:(((r.getD 0 0).toNat:Int)=62)↔r.getD 0 0=62:=⟨λh=>asP.1 (by rw[show (62:UInt8).toNat=62 from rfl];omega),λh=>by rw[h];rfl⟩;have key:∀q:Bool,(q=au↔¬(r.getD 0 0≠62∨g.length=1))->CallX ah 179 #[.bool q,.int .i64 3] w (pk (Cont K PK)) λt19 w=>
   DoX ah (mFA 201 (.pointer (aw ⟨gb,0,av⟩)) 1) w (pk (Cont K PK)) λt22 w=>
   DoX ah (aJ 3 t22) w (pk (Cont K PK)) λt23 w=>
   DoX ah (mBin .gtr 3 t23 (.int .i64 0)) w (pk (Cont K PK)) λt24 w=>
   IfX t24 (CallX ah 184 #[.pointer (aw ⟨gb,0,av⟩),.pointer (aw ⟨b,0,av⟩)] w (pk (Cont K PK)) λt27 w=>Cont K PK (.returned (.tuple #[])) w) (Cont K PK (.returned (.tuple #[])) w):=by
  intro q hq;refine mU (λh=>?_) (λh=>?_)
  rotate_left
  ·rw[anX (Decidable.not_not.1 (λk=>by rw[h] at hq;exact absurd (hq.2 k) dc))] at hX;exact kf 3 ov out w hX.symm (drop ho)
  rw[anW (hq.1 h)] at hX;have hne:g.length≠1:=λk=>(hq.1 h) (.inr k)
  try rw[aY]
  rw[aP F4,A4 ho 2 rfl (oR hg5)];simp only[rs];by_cases h0:g.length=0
  ·rw[anX h0] at hX;simp only[show ai ((0:Int) < (g.length:Int))=aq from anY om,i_f];exact kt ov out w hX.symm hol (drop ho)
  rw[anW h0] at hX;simp only[show ai ((0:Int) < (g.length:Int))=au from anZ om,i_t];refine aaL ho hpw hm hol om hg5 (λh5 h6 ov' W ho=>?_) (λh5 W ho=>?_) (λh5 h6 W ho=>?_)
  ·rw[anW om,anW om] at hX;exact kt ov' _ W hX.symm (by rw[aoC,aoH];omega) (drop ho)
  ·rw[anX h5] at hX;exact kf 3 ov out W hX.symm ho
  ·rw[anW om,anX h6] at hX;exact kf 5 ov out W hX.symm ho
 simp only[rs];by_cases h62:r.getD 0 0=62
 ·simp only[anZ (hc.2 h62),rs]
  try rw[aY]
  rw[aP F4,A4 ho 2 rfl (oR hg5)];simp only[rs];refine key _ ?_;rw[decide_eq_true_iff];constructor
  ·intro h k;rcases k with k|k
   ·exact k h62
   ·omega
  ·intro h;have:g.length≠1:=λk=>h (.inr k);omega
 ·simp only[anY (λh=>h62 (hc.1 h)),rs];refine key aq ?_;constructor
  ·intro h;cases h
  ·intro h;exact absurd (.inl h62) h
theorem Xw (s:List UInt8)(b mo:Nat)(hpw:Pws M)(hs:s.length<=1000000000)(hm:mo<=1048576)(ho:OwnS S w0 w (Sk b mo nilS [] (.mem M::T)))
  (kt:∀ov' out W,dj mo s [] []=(out,0)->out.length<=mo->OwnS S w0 W (Sk b mo ov' out (.mem M::T))->K (.tuple #[]) W) (kf:∀e ov' out W,dj mo s [] []=([],e)->OwnS S w0 W (Sk b mo ov' out (.mem M::T))->PK [upA e] W) :
  CallX ah 183 #[.string ⟨s.toArray⟩,.pointer (aw ⟨b,0,av⟩)] w PK K:=by
 generalize hX:dj mo s [] []=X at kt kf;refine⟨Em ?_⟩;unfold zS nz;refine bD (λb=>.pointer (aw ⟨b,0,av⟩)) (gpC (gp0 []) 0) 201 (λ_=>by kernel_rfl) ho λgb w1 ho=>?_;have ho:OwnS S w0 w1 ([gpE gb (gp0 []) 0]++([skE b nilS mo,outR nilS []]++(.mem M::T))):=ho;have ho:=ho.front;rw[cL aoD];refine loop (λvs W=>∃(i:Nat) (g:List UInt8) (ov:ao) (out:List UInt8),vs=[.int .i64 (i:Int)]∧i<=s.length∧g.length < 5∧out.length<=mo∧dj mo (s.drop i) g out=X∧OwnS S w0 W (Sk b mo ov out (gpE gb (gp0 g) g.length::.mem M::T))) (λvs _=>s.length - n0 vs) ⟨0,[],nilS,[],rfl,om,sm,sm,hX,ho⟩ ?_;clear ho hX;have drop:∀{ov out d n W},OwnS S w0 W (Sk b mo ov out (gpE gb d n::.mem M::T))->OwnS S w0 W (Sk b mo ov out (.mem M::T)):=λ{_ _ _ _ _} ho=>ho.sub (.cons_cons _ (.cons_cons _ (.cons _ (arK _))));rintro vs w2 ⟨i,g,ov,out,rfl,hi,hg,hol,hX,ho⟩ _;simp only[tW,gd,rs,nz];by_cases hlt:(i:Int) < (s.length:Int)
 case neg=>
  simp only[hlt,aoB,i_f];rw[apR om] at hX;exact mU (λh=>by cases h) (λ_=>kf 4 ov out w2 hX.symm (drop ho))
 simp only[hlt,aoA,i_t];have hi':i < s.length:=om
 rw[apV hi',dj] at hX;have hc:=aoI hi';generalize s[i]=c at hX hc;refine join λJ hJ=>?_;have next:∀(g':List UInt8) (ov':ao) (out':List UInt8) (W:ak),g'.length < 5->out'.length<=mo->dj mo (s.drop (i+1)) g' out'=X->OwnS S w0 W (Sk b mo ov' out' (gpE gb (gp0 g') g'.length::.mem M::T))->J [] W:=by
  intro g' ov' out' W g1 g2 g3 ho;refine hJ _ _ λ_=>?_;simp only[tQ,rs,nz];rw[aA om om];exact aQ ⟨i+1,g',ov',out',rfl,om,g1,g2,g3,ho⟩ (by simp[n0,RowKit.intOf];omega)
 rw[s_ix aoD om (by rw[aoF];exact hc)];refine c_eq (Pb c w2) ?_;by_cases hw:Oc.AF c=au
 ·rw[anX hw] at hX;rw[hw,i_t];exact next g ov out w2 hg hol hX ho
 rw[anW hw] at hX;rw[avO.2 hw,i_f];have hcl:=apT c;have hsub:IntKind.u8.wrap ((c.toNat:Int) - 33)=((c - 33).toNat:Int):=by
  have:(c - 33).toNat=(c.toNat+223) % 256:=by rw[UInt8.toNat_sub];show (256 - 33+c.toNat) % 256=_;rw[atE]
  rw[this];unfold IntKind.wrap;simp[IntKind.bits,IntKind.signed];omega
 have rest:¬(c.toNat=122∧g.length=0)->IfX (.bool aq) (DoX ah (bF 53 4 #[(0,(.int .u8 0)),(1,(.int .u8 0)),(2,(.int .u8 0)),(3,(.int .u8 0))]) w2 (pk (Cont K PK)) λt28 w=>
   CallX ah 178 #[.pointer (aw ⟨b,0,av⟩),t28] w (pk (Cont K PK)) λt29 w=>J [] w) (DoX ah (mBin .geq 5 (.int .u8 (c.toNat:Int)) (.int .u8 33)) w2 (pk (Cont K PK)) λt32 w=>
 GDo t32 au (λE=>E (.int .u8 (c.toNat:Int)) w) w λt34 w=>
 GDo t32 au (λE=>DoX ah (mBin .leq 5 t34 (.int .u8 117)) w (pk (Cont K PK)) E) w λt35 w=>
 DoX ah (eH t32 t35 (.bool aq)) w (pk (Cont K PK)) λt36 w=>
 IfX t36 (DoX ah (mFA 201 (.pointer (aw ⟨gb,0,av⟩)) 1) w (pk (Cont K PK)) λt37 w=>
 DoX ah (aJ 3 t37) w (pk (Cont K PK)) λt38 w=>
 DoX ah (mBin .sub 5 (.int .u8 (c.toNat:Int)) (.int .u8 33)) w (pk (Cont K PK)) λt40 w=>
 DoX ah (mFA 201 (.pointer (aw ⟨gb,0,av⟩)) 0) w (pk (Cont K PK)) λt41 w=>
 DoX ah (mIA 199 t41 t38) w (pk (Cont K PK)) λt42 w=>
 DoX ah (aV 5 t42 t40) w (pk (Cont K PK)) λ_ w=>
 DoX ah (mFA 201 (.pointer (aw ⟨gb,0,av⟩)) 1) w (pk (Cont K PK)) λt43 w=>
 DoX ah (aJ 3 t43) w (pk (Cont K PK)) λt44 w=>
 DoX ah (mBin .add 3 t44 (.int .i64 1)) w (pk (Cont K PK)) λt45 w=>
 DoX ah (mFA 201 (.pointer (aw ⟨gb,0,av⟩)) 1) w (pk (Cont K PK)) λt46 w=>
 DoX ah (aV 3 t46 t45) w (pk (Cont K PK)) λ_ w=>
 DoX ah (mFA 201 (.pointer (aw ⟨gb,0,av⟩)) 1) w (pk (Cont K PK)) λt47 w=>
 DoX ah (aJ 3 t47) w (pk (Cont K PK)) λt48 w=>
 DoX ah (mEq .eql 3 (.tmp 48) (.const (.int .i64 5)) t48 (.int .i64 5)) w (pk (Cont K PK)) λt49 w=>
 IfX t49 (CallX ah 184 #[.pointer (aw ⟨gb,0,av⟩),.pointer (aw ⟨b,0,av⟩)] w (pk (Cont K PK)) λt51 w=>
 J [] w) (J [] w)) (DoX ah (mEq .eql 5 (.tmp 53) (.const (.int .u8 126)) (.int .u8 (c.toNat:Int)) (.int .u8 126)) w (pk (Cont K PK)) λt54 w=>
 IfX t54 (DoX ah (mBin .add 3 (.int .i64 (i:Int)) (.int .i64 1)) w (pk (Cont K PK)) λt57 w=>
 DoX ah (cM 9 (.string ⟨s.toArray⟩) (aw t57) av av) w (pk (Cont K PK)) λt58 w=>
 CallX ah 185 #[t58,.pointer (aw ⟨gb,0,av⟩),.pointer (aw ⟨b,0,av⟩)] w (pk (Cont K PK)) λt60 w=>
 Cont K PK (.returned (.tuple #[])) w) (CallX ah 179 #[(.bool aq),(.int .i64 3)] w (pk (Cont K PK)) λt15 w=>
 J [] w))):=by
  intro hz;rw[anW hz] at hX;simp only[i_f,rs];have tail:¬(33<=c.toNat∧c.toNat<=117)->IfX (.bool (ai ((c.toNat:Int)=126))) (DoX ah (mBin .add 3 (.int .i64 (i:Int)) (.int .i64 1)) w2 (pk (Cont K PK)) λt57 w=>
 DoX ah (cM 9 (.string ⟨s.toArray⟩) (aw t57) av av) w (pk (Cont K PK)) λt58 w=>
 CallX ah 185 #[t58,.pointer (aw ⟨gb,0,av⟩),.pointer (aw ⟨b,0,av⟩)] w (pk (Cont K PK)) λt60 w=>
 Cont K PK (.returned (.tuple #[])) w) (CallX ah 179 #[(.bool aq),(.int .i64 3)] w2 (pk (Cont K PK)) λt15 w=>
 J [] w):=by
   intro hr;rw[anW hr] at hX;by_cases h126:c.toNat=126
   ·rw[anX h126] at hX;simp only[show ai ((c.toNat:Int)=126)=au from anZ om,i_t,rs];rw[aA om om,Ac aoD om om,show ((i:Int)+1).toNat=i+1 by omega];exact ahK ho hpw hm hol om (by rw[aoJ];omega) (λov' out' W he hol' ho=>kt ov' out' W (hX.symm.trans he) hol' ho) (λe ov' out' W he ho=>kf e ov' out' W (hX.symm.trans he) ho)
   ·rw[anW h126] at hX;simp only[show ai ((c.toNat:Int)=126)=aq from anY om,i_f];exact mU (λh=>by cases h) (λ_=>kf 3 ov out w2 hX.symm (drop ho))
  by_cases h33:33<=c.toNat
  case neg=>
   simp only[show ai ((33:Int)<=(c.toNat:Int))=aq from anY om,rs,i_f];have:=tail (λh=>h33 h.1);simp only[rs] at this;exact this
  simp only[show ai ((33:Int)<=(c.toNat:Int))=au from anZ om,rs];by_cases h117:c.toNat<=117
  case neg=>
   simp only[show ai ((c.toNat:Int)<=117)=aq from anY om,rs,i_f];have:=tail (λh=>h117 h.2);simp only[rs] at this;exact this
  simp only[show ai ((c.toNat:Int)<=117)=au from anZ om,rs,i_t];rw[anX ⟨h33,h117⟩] at hX;rw[aP F4,A4 ho 2 rfl (oR om)]
  try rw[TT]
  rw[hsub,aP Wl];refine aC (VF om) |>.mpr ?_;refine aN 2 ho rfl krx rfl (by rw[MY,oR om];omega) λw3 ho=>?_;rw[Wt (by rw[oR om];omega)] at ho;have e1:(gp0 g).set g.length (c - 33)=gp0 (g++[c - 33]):=by
   unfold gp0;rw[asD _ _ (aoG _),aqK,aoC,apL,show 5 - g.length=(5 - (g.length+1))+1 by omega,atI,aqP,aoL];rfl
  rw[e1] at ho;have hl1:(g++[c - 33]).length=g.length+1:=sm
  rw[<-hl1] at hX;have hX2:(if (g++[c - 33]).length < 5 then dj mo (s.drop (i+1)) (g++[c - 33]) out else if 4294967296<=br (g++[c - 33]) then ([],3) else if mo < out.length+4 then ([],5) else dj mo (s.drop (i+1)) [] (out++bj (br (g++[c - 33]))))=X:=hX;clear hX;have ho:OwnS S w0 w3 (Sk b mo ov out (gpE gb (gp0 (g++[c - 33])) g.length::.mem M::T)):=ho;generalize hg':g++[c - 33]=g' at hX2 ho hl1;rw[aP F4,A4 ho 2 rfl (oR om)]
  try simp only[rs]
  rw[aA om om,aP F4,show (g.length:Int)+1=(g'.length:Int) by omega];refine aN 2 ho rfl krx rfl (by rw[MY,oR om];omega) λw4 ho=>?_;rw[aoN,Zj (oR om)] at ho;have ho:OwnS S w0 w4 (Sk b mo ov out (gpE gb (gp0 g') g'.length::.mem M::T)):=ho;rw[aP F4,A4 ho 2 rfl (oR om)]
  try simp only[rs]
  by_cases h5:g'.length < 5
  ·rw[anX h5] at hX2;simp only[show ai ((g'.length:Int)=5)=aq from anY om,i_f];exact next g' ov out w4 h5 hol hX2 ho
  rw[anW h5] at hX2;simp only[show ai ((g'.length:Int)=5)=au from anZ om,i_t];refine aaL ho hpw hm hol om om (λk5 k6 ov' W ho=>?_) (λk5 W ho=>?_) (λk5 k6 W ho=>?_)
  ·rw[anW om,anW om] at hX2;rw[show g'.length - 1=4 by omega] at ho;exact next [] ov' _ W dc (by rw[aoC];show _+4<=_;omega) hX2 ho
  ·rw[anX k5] at hX2;exact kf 3 ov out W hX2.symm ho
  ·rw[anW om,anX om] at hX2;exact kf 5 ov out W hX2.symm ho
 try simp only[rs]
 by_cases hz:c.toNat=122
 case neg=>
  simp only[show ai ((c.toNat:Int)=122)=aq from anY om,rs];have:=rest (λh=>hz h.1);simp only[rs] at this;exact this
 simp only[show ai ((c.toNat:Int)=122)=au from anZ om,rs];rw[aP F4,A4 ho 2 rfl (oR om)];simp only[rs];by_cases hg0:g.length=0
 case neg=>
  simp only[show ai ((g.length:Int)=0)=aq from anY om,rs];have:=rest (λh=>hg0 h.2);simp only[rs] at this;exact this
 rw[anX ⟨hz,hg0⟩] at hX;simp only[show ai ((g.length:Int)=0)=au from anZ om,i_t];have hgn:g=[]:=asG hg0;subst hgn;refine bD (λb=>.slice (aw ⟨b,0,av⟩) 4 4) (aG [0,0,0,0]) 5 (λ_=>by kernel_rfl) ho λb8 w3 ho=>?_;refine Ra (l:=[0,0,0,0]) ho (λW h=>?_) hm hol dc (λh5 ov' W ho=>?_) (λh5 W ho=>?_)
 ·exact Sl.pre (l:=[0,0,0,0]) (h:=4) h dc
 ·rw[anW (by simp at h5;omega)] at hX;exact next [] ov' _ W dc (by simpa using h5) hX ho
 ·rw[anX (by simp at h5;omega)] at hX;exact kf 5 ov out W hX.symm (drop ho)
end
theorem QS (s:List UInt8)(most:Int)(M:Mem)(w:ak)(hpw:Pws M)(hs:s.length<=1000000000)(hM:M.has w):RetM ah 118 #[.string ⟨s.toArray⟩,.int .i64 most] M w (λv _=>v=zlT (me s most)∧(me s most).1.length<=1048576):=by
 refine aU hM λK hK=>Gg ?_;unfold DN nz;refine bI (OwnS.memS hM) 0 rfl (BM _ Na s most _ M w hM λb mo hm ho kt kf=>Xw s b mo hpw hs hm ho kt kf) ?_;rintro _ N w1 g1 ⟨rfl,hl⟩ ho;simp only[zlT,ex];exact hK _ _ N _ 0 ho rfl g1 ⟨rfl,hl⟩
end
section
open Eng Go.RowKit
def gm (g:List UInt8):Nat->Nat
|0=>0
|i+1=>gm g i*85+ei g i
theorem nn (g:List UInt8):gm g 5=br g:=by
 simp only[gm,br];omega
theorem og (g:List UInt8):∀i,i<=5->gm g i<=13572000000
|0,_=>aoO _
|1,_=>by have:=gz g 0;simp only[gm];omega
|2,_=>by have:=gz g 0;have:=gz g 1;simp only[gm];omega
|3,_=>by have:=gz g 0;have:=gz g 1;have:=gz g 2;simp only[gm];omega
|4,_=>by have:=gz g 0;have:=gz g 1;have:=gz g 2;have:=gz g 3;simp only[gm];omega
|5,_=>by have:=gz g 0;have:=gz g 1;have:=gz g 2;have:=gz g 3;have:=gz g 4;simp only[gm];omega
|n+6,h=>by omega
theorem Hf (g:List UInt8)(v:ao)(w:ak)(hl:g.length<=1000000000)(h:Sl w v 1 g.length (aG g)):Ret ah 126 #[v] w (λv w'=>v=.int .u64 (br g:Int)∧w=w'):=by
 refine aK λK hK=>xN ?_;unfold pQ nz;refine loop (λvs W=>∃i:Nat,vs=[.int .u64 ((gm g i:Nat):Int),.int .i64 (i:Int)]∧i<=5∧W=w) (λvs _=>5 - n1 vs) ⟨0,rfl,om,rfl⟩ ?_;rintro vs W ⟨i,rfl,hi,rfl⟩ _;simp only[mA,gd,rs,nz];by_cases hlt:(i:Int) < 5
 case neg=>
  simp only[hlt,aoB,i_f];have:i=5:=om
  subst this;rw[nn];exact hK _ _ ⟨rfl,rfl⟩
 simp only[hlt,aoA,i_t];have h1:=og g i om;have h2:=og g (i+1) om;have h3:gm g (i+1)=gm g i*85+ei g i:=rfl;refine join λJ hJ=>?_;have next:J [.int .u64 ((gm g (i+1):Nat):Int)] W:=by
  refine hJ _ _ λ_=>?_;simp only[mE,gd,rs,nz];rw[aA om om];exact aQ ⟨i+1,rfl,om,rfl⟩ (by simp[n1,RowKit.intOf];omega)
 try simp only[rs]
 rw[show ((gm g i:Nat):Int)*85=((gm g i*85:Nat):Int) by push_cast;rfl,nW om];rw[aC (wL h)]
 try simp only[rs]
 by_cases hg:i < g.length
 ·simp only[show ai ((i:Int) < (g.length:Int))=au from anZ om,i_t];obtain⟨b,off,hia,hcell⟩:=II h hg;rw[aC (hia W),aS nU8l hcell];refine aC (aO krx auB) |>.mpr ?_;have e1:g[i].toNat=ei g i:=by unfold ei;rw[aoE,aoI hg,asB]
  have:=gz g i;rw[e1,nW om]
  try simp only[rs]
  rw[show ((gm g i*85:Nat):Int)+((ei g i:Nat):Int)=((gm g (i+1):Nat):Int) by rw[h3];push_cast;rfl,nW om];exact next
 ·simp only[show ai ((i:Int) < (g.length:Int))=aq from anY om,i_f]
  try simp only[rs]
  have e1:ei g i=84:=by unfold ei;rw[aoE,aqB om];rfl
  rw[e1] at h3;rw[show ((gm g i*85:Nat):Int)+84=((gm g (i+1):Nat):Int) by rw[h3];push_cast;rfl,nW om];exact next
section
variable {w:ak}{PK:PKT}{K:VWP}{S:Nat->Prop}{w0:ak}{L T:List Ent}
theorem Td {v:Nat}(ho:OwnS S w0 w L)(hm:m<=4)(hv:v < 18446744073709551616)(k:∀b w',OwnS S w0 w' (.cells b (aG (bj v)) 5::L)->K (.slice (aw ⟨b,0,av⟩) m 4) w'):CallX ah 127 #[.int .u64 (v:Int),.int .i64 (m:Int)] w PK K:=by
 refine⟨yG ?_⟩;unfold pW nz;have hsh:∀k:Nat,k<=64->∀{W:ak} {PK:PKT} {K:VWP},DoX ah (mBin .shr 147 (.int .u64 (v:Int)) (.int .u64 (k:Int))) W PK K=K (.int .u64 ((v / 2 ^ k:Nat):Int)) W:=by
  intro k hk W PK K;rw[FC om,agS hk]
 rw[show (24:Int)=((24:Nat):Int) from rfl,hsh 24 om];refine aC (aO krx aoP) |>.mpr ?_;rw[lA,show (16:Int)=((16:Nat):Int) from rfl,hsh 16 om];refine aC (aO krx aoP) |>.mpr ?_;rw[lA,show (8:Int)=((8:Nat):Int) from rfl,hsh 8 om];refine aC (aO krx aoP) |>.mpr ?_;rw[lA];refine aC (aO krx aoP) |>.mpr ?_;rw[lA];refine bD (λb=>.slice (aw ⟨b,0,av⟩) 4 4) (aG (bj v)) 5 (λ_=>by kernel_rfl) ho λb8 w3 ho=>?_;have e:∀W:ak,(cM 53 (.slice (aw ⟨b8,0,av⟩) 4 4) av (aw (.int .i64 (m:Int))) av).run ah W=.ok (.value (.slice (aw ⟨b8,0,av⟩) m 4)) W:=λW=>by
  rcases (by omega:m=0∨m=1∨m=2∨m=3∨m=4) with rfl|rfl|rfl|rfl|rfl<;>kernel_rfl
 refine aC (e w3) |>.mpr ?_;exact k b8 w3 ho
theorem VP {v:Nat}{ov:ao}{out:List UInt8}(ho:OwnS S w0 w (outR ov out::T))(hl:out.length<=1000000000)(hm:m<=4)(hv:v < 18446744073709551616)(k:∀ov' W,OwnS S w0 W (outR ov' (out++(bj v).take m)::T)->K ov' W) :
  CallX ah 127 #[.int .u64 (v:Int),.int .i64 (m:Int)] w PK λt w=>DoX ah (mB .append #[53,53] 53 #[aq,aq] #[ov,t]) w PK K:=by
 refine Td ho hm hv λb w1 ho=>?_;have htl:((bj v).take m).length=m:=by rw[aoH,show (bj v).length=4 from rfl];omega
 have hsl:Sl w1 (.slice (aw ⟨b,0,av⟩) m 4) 1 ((bj v).take m).length (aG ((bj v).take m)):=Sl.pre (ho.at_ 0 rfl) (by show m<=4;omega);refine aX 1 aoK elU8 dc ho rfl hsl aW om om λv' w10 ho=>k v' w10 ?_;rw[cQ];exact ho.tail
end
def my (mo:Nat)(g out:List UInt8):List UInt8×Int:=
 if g.length=0 then (out,0)
 else if g.length=1 then ([],3)
 else if 4294967296<=br g then ([],3)
 else if mo < out.length+(g.length - 1) then ([],5)
 else (out++(bj (br g)).take (g.length - 1),0)
theorem QE (mo:Nat)(g out:List UInt8)(gv ov:ao)(w:ak)(hg:g.length<=5)(hol:out.length<=mo)(hm:mo<=1048576)(hgs:Sl w gv 1 g.length (aG g)){T:List Ent}(ho:OwnS S w0 w (outR ov out::T))
  (k:∀W ov' out',OwnS S w0 W (outR ov' out'::T)->K (zlT (my mo g out)) W):CallX ah 125 #[gv,ov,.int .i64 (mo:Int)] w PK K:=by
 generalize hX:my mo g out=X at k;unfold my at hX;refine⟨AD ?_⟩;unfold sG nz;have hlen:∀{PK:PKT} {K:VWP},DoX ah (mB .len #[53] 3 #[aq] #[gv]) w PK K=K (.int .i64 (g.length:Int)) w:=λ{_ _}=>aC (wL hgs);rw[hlen];simp only[rs];by_cases h0:g.length=0
 ·rw[anX h0] at hX;simp only[show ai ((g.length:Int)=0)=au from anZ om,i_t];rw[gO aoK aoP aoD (cS (ho.at_ 0 rfl))];rw[<-hX] at k;exact k _ _ _ ho
 rw[anW h0] at hX;simp only[show ai ((g.length:Int)=0)=aq from anY om,i_f];refine c_eq (Hf g gv w om hgs) ?_;rw[hlen];simp only[rs];have hv:=og g 5 om;rw[nn] at hv;have bad:X=([],3)->IfX (.bool au) (Cont K PK (.returned (.tuple #[(.string ⟨#[]⟩),(.int .i64 3)])) w) (Cont K PK (.returned (.tuple #[(.string ⟨#[]⟩),(.int .i64 3)])) w):=by
  intro hx;rw[i_t];rw[hx] at k;exact k _ _ _ ho
 by_cases h1:g.length=1
 ·rw[anX h1] at hX;simp only[show ai ((g.length:Int)=1)=au from anZ om,rs,i_t];have:=bad hX.symm;rw[i_t] at this;exact this
 rw[anW h1] at hX;simp only[show ai ((g.length:Int)=1)=aq from anY om,rs];by_cases h2:4294967296<=br g
 ·rw[anX h2] at hX;simp only[show ai ((4294967295:Int) < (br g:Int))=au from anZ om,rs,i_t];have:=bad hX.symm;rw[i_t] at this;exact this
 rw[anW h2] at hX;simp only[show ai ((4294967295:Int) < (br g:Int))=aq from anY om,rs,i_f];rw[hlen]
 try simp only[rs]
 rw[aA (n:=(g.length:Int) - 1) om om,Po 0 ho rfl]
 try simp only[rs]
 rw[aA (n:=(mo:Int) - (out.length:Int)) om om];by_cases h3:mo < out.length+(g.length - 1)
 ·rw[anX h3] at hX;simp only[show ai ((mo:Int) - (out.length:Int) < (g.length:Int) - 1)=au from anZ om,i_t];rw[<-hX] at k;exact k _ _ _ ho
 rw[anW h3] at hX;simp only[show ai ((mo:Int) - (out.length:Int) < (g.length:Int) - 1)=aq from anY om,i_f];rw[hlen]
 try simp only[rs]
 rw[aA (n:=(g.length:Int) - 1) om om,show (g.length:Int) - 1=((g.length - 1:Nat):Int) by omega];refine VP ho om om om λov' W ho=>?_;rw[gO aoK aoP aoD (cS (ho.at_ 0 rfl))];rw[<-hX] at k;exact k _ _ _ ho
theorem IT {r g out:List UInt8}(h:r≠[])(h62:r.getD 0 0=62):ix mo r g out=my mo g out:=by
 unfold ix my;rw[anW h];by_cases h1:g.length=1
 ·rw[anX (.inr h1),anW om,anX h1]
 ·rw[anW (λk=>k.elim (λk=>k h62) h1),anW h1]
theorem Nc (s:List UInt8)(most:Int)(w:ak)(hs:s.length<=1000000000):Ret ah 56 #[.string ⟨s.toArray⟩,.int .i64 most] w (λv w'=>v=zlT (me s most)∧Below w.heap.size w w'):=by
 refine aK λK hK=>wN ?_;generalize hX:me s most=X at hK;unfold me ey at hX;unfold nK nz
 try simp only[rs]
 by_cases h0:most < 0
 ·rw[anX h0] at hX;simp only[h0,aoA,i_t];exact hK _ _ ⟨by rw[<-hX];rfl,Below.refl _ _⟩
 rw[anW h0] at hX;simp only[h0,aoB,i_f];rw[OH,show min most 1048576=((min most.toNat 1048576:Nat):Int) by omega];have hm:min most.toNat 1048576<=1048576:=atA _ _;generalize min most.toNat 1048576=mo at hX hm;have ho:=((Own.start w).nilU 5 1).nilU 5 1;refine loop (λvs W=>∃(i:Nat) (g:List UInt8) (gv ov:ao) (out:List UInt8),vs=[ov,gv,.int .i64 (i:Int)]∧i<=s.length∧g.length < 5∧out.length<=mo∧dj mo (s.drop i) g out=X∧OwnS NoB w W [outR ov out,outR gv g]) (λvs _=>s.length - n2 vs) ⟨0,[],nilS,nilS,[],rfl,om,sm,sm,hX,ho⟩ ?_;clear hX ho;rintro vs w2 ⟨i,g,gv,ov,out,rfl,hi,hg,hol,hX,ho⟩ _;simp only[kX,gd,nz];rw[cL aoD]
 try simp only[rs]
 by_cases hlt:(i:Int) < (s.length:Int)
 case neg=>
  simp only[hlt,aoB,i_f];rw[apR om] at hX;exact hK _ _ ⟨by rw[<-hX];rfl,ho.done⟩
 simp only[hlt,aoA,i_t];have hi':i < s.length:=om
 rw[apV hi',dj] at hX;have hc:=aoI hi';generalize s[i]=c at hX hc;refine join λJ hJ=>?_;have next:∀(g':List UInt8) (gv' ov':ao) (out':List UInt8) (W:ak),g'.length < 5->out'.length<=mo->dj mo (s.drop (i+1)) g' out'=X->OwnS NoB w W [outR ov' out',outR gv' g']->J [ov',gv'] W:=by
  intro g' gv' ov' out' W g1 g2 g3 ho;refine hJ _ _ λ_=>?_;simp only[kN,gd,rs,nz];rw[aA om om];exact aQ ⟨i+1,g',gv',ov',out',rfl,om,g1,g2,g3,ho⟩ (by simp[n2,RowKit.intOf];omega)
 rw[s_ix aoD om (by rw[aoF];exact hc)];refine c_eq (Ly c w2) ?_;by_cases hw:Oc.AF c=au
 ·rw[anX hw] at hX;rw[hw,i_t];exact next g gv ov out w2 hg hol hX ho
 rw[anW hw] at hX;rw[avO.2 hw,i_f];have hcl:=apT c
 try simp only[rs]
 by_cases h126:c.toNat=126
 ·rw[anW om,anW om,anX h126] at hX;simp only[show ai ((c.toNat:Int)=126)=au from anZ om,i_t,rs];rw[aA om om,cL aoD]
  try simp only[rs]
  by_cases he:i+1=s.length
  ·simp only[show ai ((i:Int)+1=(s.length:Int))=au from anZ om,i_t];rw[apR om] at hX;exact hK _ _ ⟨by rw[<-hX];rfl,ho.done⟩
  simp only[show ai ((i:Int)+1=(s.length:Int))=aq from anY om,i_f];have hi2:i+1 < s.length:=om
  have hne:s.drop (i+1)≠[]:=by rw[apV hi2];exact List.cons_ne_nil _ _
  have hg0:(s.drop (i+1)).getD 0 0=s[i+1]:=by rw[apV hi2];rfl
  have hd:=aoI hi2;generalize s[i+1]=d at hd hg0
  try rw[aA om om]
  rw[s_ix (c:=d) aoD om (by rw[show ((i:Int)+1).toNat=i+1 by omega];exact hd)]
  try simp only[rs]
  by_cases h62:d=62
  ·simp only[show ai ((d.toNat:Int)≠62)=aq from anY (by rw[h62];decide),i_f];rw[IT hne (hg0.trans h62)] at hX;refine QE mo g out gv ov w2 om hol hm (cS (ho.at_ 1 rfl)) ho λW ov' out' ho=>?_;simp only[zlT,ex];exact hK _ _ ⟨by rw[<-hX];rfl,ho.done⟩
  ·simp only[show ai ((d.toNat:Int)≠62)=au from anZ (λh=>h62 (asP.1 (by rw[show (62:UInt8).toNat=62 from rfl];omega))),i_t];unfold ix at hX;rw[anW hne,anX (.inl (by rw[hg0];exact h62))] at hX;exact hK _ _ ⟨by rw[<-hX];rfl,ho.done⟩
 simp only[show ai ((c.toNat:Int)=126)=aq from anY om,i_f]
 try simp only[rs]
 -- a full group,or four zero bytes
 have full:∀(v:Nat) (gv':ao) (W:ak) (g':List UInt8),v < 13572000001->(if 4294967296<=v then ([],3) else if mo < out.length+4 then ([],5) else dj mo (s.drop (i+1)) [] (out++bj v))=X->OwnS NoB w W [outR ov out,outR gv' g']->fN (.int .i64 (mo:Int)) ov (.int .u64 (v:Int)) W J (λe w'=>K e w'):=by
  intro v gv' W g' hv hX ho;unfold fN nz
  try simp only[rs]
  by_cases h1:4294967296<=v
  ·rw[anX h1] at hX;simp only[show ai ((4294967295:Int) < (v:Int))=au from anZ om,i_t];exact hK _ _ ⟨by rw[<-hX];rfl,ho.done⟩
  rw[anW h1] at hX;simp only[show ai ((4294967295:Int) < (v:Int))=aq from anY om,i_f];rw[Po 0 ho rfl]
  try simp only[rs]
  rw[aA om om];by_cases h2:mo < out.length+4
  ·rw[anX h2] at hX;simp only[show ai ((mo:Int) - (out.length:Int) < 4)=au from anZ om,i_t];exact hK _ _ ⟨by rw[<-hX];rfl,ho.done⟩
  rw[anW h2] at hX;simp only[show ai ((mo:Int) - (out.length:Int) < 4)=aq from anY om,i_f];rw[show (4:Int)=((4:Nat):Int) from rfl];refine VP ho om om om λov' W ho=>?_;rw[apE (show (bj v).length<=4 from aoG 4)] at ho;have ho:=ho.sub (L':=[outR ov' (out++bj v)]) (.cons_cons _ (.cons _ (arK _)));have ho:=(OwnS.nilU ho 5 1).swap;exact next [] nilS ov' _ W dc (by rw[aoC];show _+4<=_;omega) hX ho
 by_cases hz:c.toNat=122
 ·have e1:ai ((c.toNat:Int)≠122)=false:=anY om;have e2:ai ((c.toNat:Int)=122)=true:=anZ om;simp only[e1,e2,rs,g_un];rw[Po 1 ho rfl];simp only[rs];by_cases hg0:g.length=0
  ·rw[anX ⟨hz,hg0⟩] at hX;simp only[show ai ((0:Int) < (g.length:Int))=aq from anY om,i_f];refine join λJ3 hJ3=>?_
   try simp only[e1,rs,i_f]
   refine hJ3 _ _ λ_=>?_;exact full 0 gv w2 g dc (by rw[anW dc];exact hX) ho
  ·rw[anW (λh=>hg0 h.2),anW om,anW h126] at hX;simp only[show ai ((0:Int) < (g.length:Int))=au from anZ om,i_t];exact hK _ _ ⟨by rw[<-hX];rfl,ho.done⟩
 rw[anW (λh=>hz h.1)] at hX;have e1:ai ((c.toNat:Int)≠122)=true:=anZ om;have e2:ai ((c.toNat:Int)=122)=false:=anY om;simp only[e1,e2,rs];by_cases hr:33<=c.toNat∧c.toNat<=117
 case neg=>
  rw[anW hr,anW h126] at hX;by_cases h33:c.toNat < 33
  ·simp only[show ai ((c.toNat:Int) < 33)=au from anZ om,e1,e2,rs,i_t,g_un];exact hK _ _ ⟨by rw[<-hX];rfl,ho.done⟩
  ·simp only[show ai ((c.toNat:Int) < 33)=aq from anY om,show ai ((117:Int) < (c.toNat:Int))=au from anZ om,e1,e2,rs,i_t,g_un];exact hK _ _ ⟨by rw[<-hX];rfl,ho.done⟩
 rw[anX hr] at hX;simp only[show ai ((c.toNat:Int) < 33)=aq from anY om,show ai ((117:Int) < (c.toNat:Int))=aq from anY om,e1,e2,rs,i_f,g_un];refine join λJ3 hJ3=>?_
 try simp only[e1,rs,i_t]
 have hsub:IntKind.u8.wrap ((c.toNat:Int) - 33)=((c - 33).toNat:Int):=by
  have:(c - 33).toNat=(c.toNat+223) % 256:=by rw[UInt8.toNat_sub];show (256 - 33+c.toNat) % 256=_;rw[atE]
  rw[this];unfold IntKind.wrap;simp[IntKind.bits,IntKind.signed];omega
 rw[hsub];refine UQ _ ho.swap om λgv' W ho=>?_;have hl1:(g++[c - 33]).length=g.length+1:=sm
 rw[<-hl1] at hX;generalize g++[c - 33]=g' at hX ho hl1;have ho:=ho.swap;rw[Po 1 ho rfl]
 try simp only[rs]
 by_cases h5:g'.length < 5
 ·rw[anX h5] at hX;simp only[show ai ((g'.length:Int) < 5)=au from anZ om,i_t];exact next g' gv' ov out W h5 hol hX ho
 rw[anW h5] at hX;simp only[show ai ((g'.length:Int) < 5)=aq from anY om,i_f];refine c_eq (Hf g' gv' W om (cS (ho.at_ 1 rfl))) ?_;refine hJ3 _ _ λ_=>?_;have hv:=og g' 5 om;rw[nn] at hv;exact full _ gv' W g' om hX ho
end
section
open Eng
def xO(t0 t1 w)(K:KT):=nz f78 1 [] [] [] (zg [0,1] [t0,t1]) w K
theorem zQ:xO t0 t1 w k0->Calls ah 78 #[t0,t1] w k0:=cw func78
def wH(t6 t25 t26 t27 w)(N2:JT)(K:KT):=nz f79 351 [N2] [nh 19 [6,27]] [] (zg [6,25,26,27] [t6,t25,t26,t27]) w K
def wW(t5 w)(K:KT):=nz f79 31 [] [(19,[6,27],λs v j w f=>wH (vg v 0) (s 25) (s 26) (vg v 1) w (f 0) K)] [] (zg [5] [t5]) w K
def A3(t0 w)(K:KT):=nz f79 1 [] [(14,[5],λs v j w f=>wW (vg v 0) w K)] [] (zg [0] [t0]) w K
theorem FA:A3 t0 w k0->Calls ah 79 #[t0] w k0:=cz [(7,[5])] [(9,[6,27])] func79
def Ag(t1 t8 w)(N4:JT)(K:KT):=nz f81 639 [N4] [nh 41 [8]] [] (zg [1,8] [t1,t8]) w K
def zW(t1 t8 t47 t48 t49 w)(N3:JT)(K:KT):=nz f81 703 [N3] [nh 33 [49],(41,[8],λs v j w f=>Ag (s 1) (vg v 0) w (f 0) K)] [] (zg [1,8,47,48,49] [t1,t8,t47,t48,t49]) w K
def zH(t1 t5 t8 t30 t31 t32 w)(N2:JT)(K:KT):=nz f81 175 [N2] [nh 21 [8,32],(33,[49],λs v j w f=>zW (s 1) (s 8) (s 47) (s 48) (vg v 0) w (f 0) K)] [] (zg [1,5,8,30,31,32] [t1,t5,t8,t30,t31,t32]) w K
def zU(t1 t5 w)(K:KT):=nz f81 15 [] [(21,[8,32],λs v j w f=>zH (s 1) (s 5) (vg v 0) (s 30) (s 31) (vg v 1) w (f 0) K)] [] (zg [1,5] [t1,t5]) w K
def DB(t0 t1 w)(K:KT):=nz f81 1 [] [(16,[5],λs v j w f=>zU (s 1) (vg v 0) w K)] [] (zg [0,1] [t0,t1]) w K
theorem GJ:DB t0 t1 w k0->Calls ah 81 #[t0,t1] w k0:=cz [(8,[5])] [(10,[8,32]),(16,[49]),(20,[8])] func81
def aD (x0:Deferred)(x1:ao)(x2:ao)(x3:ao)(K:Ending->ak->Prop):=pd ah [.cell x1 22,.cell x2 40,.cell x3 30] K [x0]
def kU(a b c d1 w)(K:KT):=
 Ej ah [.cell a 22,.cell b 40,.cell c 30] K [d1] .returning w
def FQ(b a c h i d d1 w)(N3:JT)(K:KT):=
 DoX ah (mBin .lss 3 d i) w (aD d1 b a c K) λj w=>IfX j (DoX ah (mIA 22 h d) w (aD d1 b a c K) λk w=>DoX ah (aJ 9 k) w (aD d1 b a c K) λl w=>DoX ah (aJ 40 a) w (aD d1 b a c K) λm w=>DoX ah (mIA 40 m d) w (aD d1 b a c K) λn w=>DoX ah (aJ 27 n) w (aD d1 b a c K) λo w=>CallX ah 82 #[o] w (aD d1 b a c K) λf w=>DoX ah (mEq .neq 30 (.tmp 58) (.const (iN 0)) f (iN 0)) w (aD d1 b a c K) λe w=>etx e l w λp w=>GDo e au (λE=>DoX ah (mEq .neq 9 (.tmp 61) (.const (.string ⟨#[]⟩)) p (.string ⟨#[]⟩)) w (aD d1 b a c K) E) w λq w=>DoX ah (eH e q (.bool aq)) w (aD d1 b a c K) λr w=>IfX r (DoX ah (aV 22 b (.slice av 0 0)) w (aD d1 b a c K) λ_ w=>DoX ah (aV 40 a (.slice av 0 0)) w (aD d1 b a c K) λ_ w=>DoX ah (aV 30 c f) w (aD d1 b a c K) λ_ w=>Ej ah [.cell b 22,.cell a 40,.cell c 30] K [d1] .returning w) (DoX ah (mBin .add 3 d (iN 1)) w (aD d1 b a c K) λs w=>AtX [d1] [d1] (N3 [s] w))) (DrawX w (λw=>(DoX ah (aJ 22 b) w (aD d1 b a c K) λg w=>(DoX ah (aJ 40 a) w (aD d1 b a c K) λt w=>DoX ah (aV 22 b g) w (aD d1 b a c K) λ_ w=>DoX ah (aV 40 a t) w (aD d1 b a c K) λ_ w=>DoX ah (aV 30 c (iN 0)) w (aD d1 b a c K) λ_ w=>kU b a c d1 w K)∧(DoX ah (aV 22 b g) w (aD d1 b a c K) λ_ w=>DoX ah (aJ 40 a) w (aD d1 b a c K) λt67_1 w=>DoX ah (aV 40 a t67_1) w (aD d1 b a c K) λ_ w=>DoX ah (aV 30 c (iN 0)) w (aD d1 b a c K) λ_ w=>kU b a c d1 w K))∧(DoX ah (aJ 40 a) w (aD d1 b a c K) λt67_2 w=>DoX ah (aJ 22 b) w (aD d1 b a c K) λt66_1 w=>DoX ah (aV 22 b t66_1) w (aD d1 b a c K) λ_ w=>DoX ah (aV 40 a t67_2) w (aD d1 b a c K) λ_ w=>DoX ah (aV 30 c (iN 0)) w (aD d1 b a c K) λ_ w=>kU b a c d1 w K)))
def FI(g a b c h i j d d1 w)(N2:JT)(K:KT):=
 DoX ah (mBin .lss 3 d j) w (aD d1 a b c K) λk w=>IfX k (DoX ah (mIA 22 i d) w (aD d1 a b c K) λl w=>DoX ah (aJ 9 l) w (aD d1 a b c K) λm w=>CallX ah 80 #[m] w (aD d1 a b c K) λe w=>DoX ah (mExt e 0) w (aD d1 a b c K) λn w=>DoX ah (mExt e 1) w (aD d1 a b c K) λo w=>CallX ah 78 #[o,(iN 15)] w (aD d1 a b c K) λy w=>DoX ah (aJ 22 a) w (aD d1 a b c K) λp w=>DoX ah (bF 22 1 #[(0,n)]) w (aD d1 a b c K) λq w=>DoX ah (mB .append #[22,22] 22 #[aq,aq] #[p,q]) w (aD d1 a b c K) λr w=>DoX ah (aV 22 a r) w (aD d1 a b c K) λ_ w=>DoX ah (mBin .add 3 d (iN 1)) w (aD d1 a b c K) λs w=>AtX [d1] [d1] (N2 [s] w)) (DoX ah (aJ 25 g) w (aD d1 a b c K) λt w=>DoX ah (mB .len #[22] 3 #[aq] #[h]) w (aD d1 a b c K) λu w=>CallX ah 81 #[t,u] w (aD d1 a b c K) λv w=>DoX ah (aV 40 b v) w (aD d1 a b c K) λ_ w=>DoX ah (aJ 22 a) w (aD d1 a b c K) λf w=>DoX ah (mB .len #[22] 3 #[aq] #[f]) w (aD d1 a b c K) λx w=>LoopX [(iN 0)] w (λvs3 w N3=>∀_:Sg,FQ a b c f x (vs3.getD 0 undef) d1 w N3 K))
def JW(f w)(K:KT):=
 dx (mBox 25 f) w K λe w=>alx 22 w K λa w=>alx 40 w K λb w=>alx 30 w K λc w=>dx (TV (.func 77) #[] #[a,b,c]) w K λg w=>DfrX (dfrV g #[]) (λd1=>DoX ah (mFA 25 e 0) w (aD d1 a b c K) λh w=>DoX ah (aJ 3 h) w (aD d1 a b c K) λi w=>DoX ah (mEq .eql 3 (.tmp 15) (.const (iN 9)) i (iN 9)) w (aD d1 a b c K) λj w=>CallX ah 78 #[j,(iN 10)] w (aD d1 a b c K) λo w=>DoX ah (aJ 25 e) w (aD d1 a b c K) λk w=>CallX ah 79 #[k] w (aD d1 a b c K) λd w=>DoX ah (mB .len #[22] 3 #[aq] #[d]) w (aD d1 a b c K) λl w=>DoX ah (mBin .leq 3 l (iN 8)) w (aD d1 a b c K) λm w=>CallX ah 78 #[m,(iN 6)] w (aD d1 a b c K) λp w=>DoX ah (mB .len #[22] 3 #[aq] #[d]) w (aD d1 a b c K) λn w=>LoopX [(iN 0)] w (λvs2 w N2=>∀_:Sg,FI e a b c d d n (vs2.getD 0 undef) d1 w N2 K))
theorem KU:JW t0 w k0->Calls ah 28 #[t0] w k0:=cz [] [(6,[26]),(14,[48])] func28
def xD(t5 t7 t21 t22 t23 w)(N1:JT)(K:KT):=nz f13 175 [N1] [nh 13 [7,23]] [] (zg [5,7,21,22,23] [t5,t7,t21,t22,t23]) w K
def AN(t0 w)(K:KT):=nz f13 1 [] [(13,[7,23],λs v j w f=>xD (s 5) (vg v 0) (s 21) (s 22) (vg v 1) w (f 0) K)] [] (zg [0] [t0]) w K
theorem Fa:AN t0 w k0->Calls ah 13 #[t0] w k0:=cz [] [(6,[7,23])] func13
def Cd(a w)(K:KT):=
 K (.returned (.tuple #[a,(.bool au)])) w
def Bj(a w)(J1:JT):=
 J1 [a] w
def Bz(a w)(J1:JT):=
 J1 [a] w
def Bq(a w)(J1:JT):=
 J1 [a] w
def B9(a w)(J1:JT):=
 J1 [a] w
def EC(a w)(K:KT):=
 JoinX (λJ1=>JoinX (λJ2=>JoinX (λJ3=>JoinX (λJ4=>JoinX (λJ5=>eqx .eql 9 (.tmp 4) (.const (.string ⟨#[65,72,120]⟩)) a (.string ⟨#[65,72,120]⟩) w K λb w=>IfX b (J5 [(.string ⟨#[65,83,67,73,73,72,101,120,68,101,99,111,100,101]⟩)] w) (eqx .eql 9 (.tmp 4) (.const (.string ⟨#[65,83,67,73,73,72,101,120,68,101,99,111,100,101]⟩)) a (.string ⟨#[65,83,67,73,73,72,101,120,68,101,99,111,100,101]⟩) w K λc w=>IfX c (J5 [a] w) (eqx .eql 9 (.tmp 4) (.const (.string ⟨#[65,56,53]⟩)) a (.string ⟨#[65,56,53]⟩) w K λd w=>IfX d (J4 [(.string ⟨#[65,83,67,73,73,56,53,68,101,99,111,100,101]⟩)] w) (eqx .eql 9 (.tmp 4) (.const (.string ⟨#[65,83,67,73,73,56,53,68,101,99,111,100,101]⟩)) a (.string ⟨#[65,83,67,73,73,56,53,68,101,99,111,100,101]⟩) w K λe w=>IfX e (J4 [a] w) (eqx .eql 9 (.tmp 4) (.const (.string ⟨#[82,76]⟩)) a (.string ⟨#[82,76]⟩) w K λf w=>IfX f (J3 [(.string ⟨#[82,117,110,76,101,110,103,116,104,68,101,99,111,100,101]⟩)] w) (eqx .eql 9 (.tmp 4) (.const (.string ⟨#[82,117,110,76,101,110,103,116,104,68,101,99,111,100,101]⟩)) a (.string ⟨#[82,117,110,76,101,110,103,116,104,68,101,99,111,100,101]⟩) w K λg w=>IfX g (J3 [a] w) (eqx .eql 9 (.tmp 4) (.const (.string ⟨#[70,108]⟩)) a (.string ⟨#[70,108]⟩) w K λh w=>IfX h (J2 [(.string ⟨#[70,108,97,116,101,68,101,99,111,100,101]⟩)] w) (eqx .eql 9 (.tmp 4) (.const (.string ⟨#[70,108,97,116,101,68,101,99,111,100,101]⟩)) a (.string ⟨#[70,108,97,116,101,68,101,99,111,100,101]⟩) w K λi w=>IfX i (J2 [a] w) (K (.returned (.tuple #[(.string ⟨#[]⟩),(.bool aq)])) w))))))))) (λvs5 w=>∀_:Sg,B9 (vs5.getD 0 undef) w J1)) (λvs4 w=>∀_:Sg,Bq (vs4.getD 0 undef) w J1)) (λvs3 w=>∀_:Sg,Bz (vs3.getD 0 undef) w J1)) (λvs2 w=>∀_:Sg,Bj (vs2.getD 0 undef) w J1)) (λvs1 w=>∀_:Sg,Cd (vs1.getD 0 undef) w K)
theorem HY:EC t0 w k0->Calls ah 80 #[t0] w k0:=cz [(15,[0]),(999999,[0])] [] func80
def DE(w)(K:KT):=nz f135 1 [] [] [] (zg [] []) w K
theorem GU:DE w k0->Calls ah 135 #[] w k0:=cw func135
def Cp(t0 t1 w)(K:KT):=nz f208 1 [] [] [] (zg [0,1] [t0,t1]) w K
theorem Gc:Cp t0 t1 w k0->Calls ah 208 #[t0,t1] w k0:=cw func208
def HB(c w)(K:KT):=
 dx (mBox 25 c) w K λa w=>alx 27 w K λb w=>fax 25 a 0 w K λd w=>ldx 3 d w K λe w=>ecx .eql 3 4 0 e w K λf w=>IfX f (cx 135 #[] w K λg w=>stx 27 b g w K λ_ w=>RetX ah [.cell b 27] w K) (fax 25 a 0 w K λh w=>ldx 3 h w K λi w=>ecx .eql 3 8 7 i w K λj w=>cx 78 #[j,(iN 10)] w K λr w=>HeldX w (λS1 w=>HDo ah S1 (aJ 25 a) λk=>HDo ah S1 (aJ 25 a) λl=>HDo ah S1 (aJ 25 a) λm=>CallX ah 208 #[k,(.string ⟨#[80,114,101,100,105,99,116,111,114]⟩)] w (ax 4 (pk K)) λn w=>S1 w∧(CallX ah 208 #[l,(.string ⟨#[67,111,108,111,114,115]⟩)] w (ax 4 (pk K)) λo w=>S1 w∧(CallX ah 208 #[m,(.string ⟨#[67,111,108,117,109,110,115]⟩)] w (ax 4 (pk K)) λp w=>S1 w∧(HDo ah (λ_=>True) (bA 27 #[(0,n),(1,o),(2,p)]) λq=>DoX ah (aV 27 b q) w (ax 4 (pk K)) λ_ w=>(RetX ah [.cell b 27] w K))))))
theorem Kk:HB t0 w k0->Calls ah 147 #[t0] w k0:=cw func147
def DA(t0 w)(K:KT):=nz f148 1 [] [] [] (zg [0] [t0]) w K
theorem GR:DA t0 w k0->Calls ah 148 #[t0] w k0:=cw func148
end
section
open Eng
def Gb(t0 t1 t2 w)(K:KT):=nz f15 1 [] [] [] (zg [0,1,2] [t0,t1,t2]) w K
theorem HQ:Gb t0 t1 t2 w k0->Calls ah 15 #[t0,t1,t2] w k0:=cw func15
def Kn(t0 t1 w)(K:KT):=nz f54 1 [] [] [(12,7)] (zg [0,1] [t0,t1]) w K
theorem KG:Kn t0 t1 w k0->Calls ah 54 #[t0,t1] w k0:=cw func54
def FZ(t0 w)(K:KT):=nz f113 1 [] [] [] (zg [0] [t0]) w K
theorem H8:FZ t0 w k0->Calls ah 113 #[t0] w k0:=cw func113
def rO(t0 t1 w)(K:KT):=nz f171 1 [] [] [] (zg [0,1] [t0,t1]) w K
theorem tK:rO t0 t1 w k0->Calls ah 171 #[t0,t1] w k0:=cw func171
def EK(t0 w)(K:KT):=nz f115 1 [] [] [] (zg [0] [t0]) w K
theorem H9:EK t0 w k0->Calls ah 115 #[t0] w k0:=cw func115
def AW(t0 t1 w)(K:KT):=nz f173 1 [] [] [] (zg [0,1] [t0,t1]) w K
theorem FJ:AW t0 t1 w k0->Calls ah 173 #[t0,t1] w k0:=cw func173
def Ds(t0 w)(K:KT):=nz f52 1 [] [] [] (zg [0] [t0]) w K
theorem Ge:Ds t0 w k0->Calls ah 52 #[t0] w k0:=cw func52
def Bn(t0 t1 t2 w)(K:KT):=nz f17 1 [] [] [] (zg [0,1,2] [t0,t1,t2]) w K
theorem AZ:Bn t0 t1 t2 w k0->Calls ah 17 #[t0,t1,t2] w k0:=cw func17
def DI(t0 t1 w)(K:KT):=nz f30 1 [] [] [] (zg [0,1] [t0,t1]) w K
theorem Gi:DI t0 t1 w k0->Calls ah 30 #[t0,t1] w k0:=cw func30
def vK(t4 t8 w)(K:KT):=nz f22 4095 [] [] [] (zg [4,8] [t4,t8]) w K
def vO(o b a e g h c p q d w)(N3:JT)(K:KT):=
 bnx .lss 3 d q w K λr w=>IfX r (iax 22 p d w K λs w=>ldx 9 s w K λt w=>iax 40 o d w K λu w=>ldx 27 u w K λv w=>cx 68 #[v] w K λi w=>exx i 0 w K λx w=>exx i 1 w K λj w=>alx 25 w K λf w=>stx 25 f x w K λ_ w=>ecx .neq 30 93 0 j w K λy w=>IfX y (dx (bA 25 #[]) w K λz w=>stx 25 a z w K λ_ w=>RetX ah [.cell a 25,.val j] w K) (cx 69 #[t] w K λA w=>dx (bF 23 1 #[(0,A)]) w K λB w=>apx 23 g B w K λC w=>ldx 25 f w K λD w=>dx (bF 23 1 #[(0,D)]) w K λF w=>apx 23 h F w K λG w=>gfx c (mFA 25 f 0) w K λH w=>gfx c (aJ 3 H) w K λI w=>gfx c (mEq .neq 3 (.tmp 109) (.const (iN 0)) I (iN 0)) w K λL w=>dx (eH c (.bool au) L) w K λM w=>bnx .add 3 d (iN 1) w K λO w=>N3 [e,C,G,M,O] w)) (HeldX w (λS4 w=>HDo ah S4 (aJ 25 b) λP=>CallX ah 71 #[g] w (ax 6 (pk K)) λQ w=>S4 w∧(CallX ah 70 #[P,(.string ⟨#[70,105,108,116,101,114]⟩),Q] w (ax 6 (pk K)) λk w=>(HDo ah (λ_=>True) (mExt k 0) λR=>HDo ah (λ_=>True) (mExt k 1) λl=>DoX ah (aV 25 b R) w (ax 6 (pk K)) λ_ w=>(ecx .neq 30 120 0 l w K λS w=>IfX S (dx (bA 25 #[]) w K λT w=>stx 25 a T w K λ_ w=>RetX ah [.cell a 25,.val l] w K) (JoinX (λJ5=>IfX c (HeldX w (λS6 w=>HDo ah S6 (aJ 25 b) λU=>CallX ah 71 #[h] w (ax 6 (pk K)) λV w=>S6 w∧(CallX ah 70 #[U,(.string ⟨#[68,101,99,111,100,101,80,97,114,109,115]⟩),V] w (ax 6 (pk K)) λm w=>(HDo ah (λ_=>True) (mExt m 0) λW=>HDo ah (λ_=>True) (mExt m 1) λn=>DoX ah (aV 25 b W) w (ax 6 (pk K)) λ_ w=>(ecx .neq 30 132 0 n w K λX w=>IfX X (dx (bA 25 #[]) w K λY w=>stx 25 a Y w K λ_ w=>RetX ah [.cell a 25,.val n] w K) (J5 [e] w)))))) (J5 [e] w)) (λvs5 w=>∀_:Sg,vK b a w K)))))))
def mZ(b f g c a h d w)(N1:JT)(K:KT):=
 bnx .geq 3 d (iN 0) w K λm w=>IfX m (HeldX w (λS2 w=>HDo ah S2 (mIA 22 b d) λn=>HDo ah S2 (aJ 9 n) λo=>HDo ah S2 (mIA 40 f d) λp=>HDo ah S2 (aJ 27 p) λq=>CallX ah 17 #[o,q,g] w (ax 14 (pk K)) λi w=>S2 w∧(HDo ah S2 (mExt i 0) λr=>HDo ah S2 (mExt i 1) λj=>ecx .neq 30 59 0 j w K λs w=>IfX s (dx (bA 25 #[]) w K λt w=>stx 25 a t w K λ_ w=>RetX ah [.cell a 25,.val j] w K) (bnx .sub 3 d (iN 1) w K λu w=>N1 [r,h,u] w)))) (ldx 25 c w K λv w=>cx 30 #[v,g] w K λk w=>exx k 0 w K λx w=>exx k 1 w K λl w=>stx 25 c x w K λ_ w=>ecx .neq 30 69 0 l w K λe w=>efx e b w λy w=>gfx e (mB .len #[22] 3 #[aq] #[y]) w K λz w=>gfx e (mEq .eql 3 (.tmp 73) (.const (iN 0)) z (iN 0)) w K λA w=>dx (eH e (.bool au) A) w K λB w=>IfX B (ldx 25 c w K λC w=>stx 25 a C w K λ_ w=>RetX ah [.cell a 25,.val l] w K) (lnx 22 b w K λD w=>LoopX [h,(.slice av 0 0),(.slice av 0 0),(.bool aq),(iN 0)] w (λvs3 w N3=>∀_:Sg,vO f c a (vs3.getD 0 undef) (vs3.getD 1 undef) (vs3.getD 2 undef) (vs3.getD 3 undef) b D (vs3.getD 4 undef) w N3 K)))
def Bg(t0 t1 t2 t3 w)(K:KT):=nz f22 1 [] [(15,[3,9,11],λs v j w f=>mZ (s 1) (s 2) (vg v 0) (s 4) (s 8) (vg v 1) (vg v 2) w (f 0) K)] [] (zg [0,1,2,3] [t0,t1,t2,t3]) w K
theorem E5:Bg t0 t1 t2 t3 w k0->Calls ah 22 #[t0,t1,t2,t3] w k0:=cz [(34,[9])] [(7,[3,9,11]),(18,[9,12,13,14,80])] func22
def F8(d w)(K:KT):=
 dx (mBox 27 d) w K λa w=>alx 25 w K λb w=>QuietX w (λC1=>QDo ah C1 (aJ 27 a) λe=>QCall ah C1 135 #[] λf=>QDo ah C1 (mEq .eql 27 (.tmp 4) (.tmp 5) e f) λg=>
 ∀w,C1 w ->
 IfX g (dx (bA 25 #[]) w K λh w=>stx 25 b h w K λ_ w=>RetX ah [.cell b 25,.val (iN 0)] w K) (HeldX w (λS2 w=>HDo ah (λ_=>True) (mFA 27 a 1) λi=>HDo ah S2 (aJ 3 i) λj=>HDo ah (λ_=>True) (mFA 27 a 2) λk=>HDo ah S2 (aJ 3 k) λl=>HDo ah (λ_=>True) (mFA 27 a 0) λm=>HDo ah S2 (aJ 3 m) λn=>CallX ah 69 #[(.string ⟨#[67,111,108,111,114,115]⟩)] w (ax 9 (pk K)) λo w=>S2 w∧(CallX ah 137 #[j] w (ax 9 (pk K)) λp w=>S2 w∧(CallX ah 69 #[(.string ⟨#[67,111,108,117,109,110,115]⟩)] w (ax 9 (pk K)) λq w=>S2 w∧(CallX ah 137 #[l] w (ax 9 (pk K)) λr w=>S2 w∧(CallX ah 69 #[(.string ⟨#[80,114,101,100,105,99,116,111,114]⟩)] w (ax 9 (pk K)) λs w=>S2 w∧(CallX ah 137 #[n] w (ax 9 (pk K)) λt w=>S2 w∧(DoX ah (bF 23 6 #[(0,o),(1,p),(2,q),(3,r),(4,s),(5,t)]) w (ax 9 (pk K)) λu w=>S2 w∧(CallX ah 136 #[u] w (ax 9 (pk K)) λc w=>S2 w∧(HDo ah (λ_=>True) (mExt c 0) λv=>HDo ah (λ_=>True) (mExt c 1) λx=>DoX ah (aV 25 b v) w (ax 9 (pk K)) λ_ w=>(RetX ah [.cell b 25,.val x] w K))))))))))))
theorem Is:F8 t0 w k0->Calls ah 68 #[t0] w k0:=cw func68
def Dy(t0 w)(K:KT):=nz f71 1 [] [] [] (zg [0] [t0]) w K
theorem Gs:Dy t0 w k0->Calls ah 71 #[t0] w k0:=cw func71
def DR(t12 t13 t14 t51 w)(N2:JT)(K:KT):=nz f67 30399 [N2] [nh 33 [12,51]] [(20,10)] (zg [12,13,14,51] [t12,t13,t14,t51]) w K
def DJ(t1 t7 t12 t49 t50 t51 w)(N2:JT)(K:KT):=nz f67 703 [N2] [nh 33 [12,51],(40,[12],λs v j w f=>DR (vg v 0) (s 13) (s 14) (s 51) w (f 0) K)] [] (zg [1,7,12,49,50,51] [t1,t7,t12,t49,t50,t51]) w K
def Dg(t0 t1 t7 t18 t19 t20 w)(N1:JT)(K:KT):=nz f67 87 [N1] [nh 11 [7,20],(33,[12,51],λs v j w f=>DJ (s 1) (s 7) (vg v 0) (s 49) (s 50) (vg v 1) w (f 0) K)] [] (zg [0,1,7,18,19,20] [t0,t1,t7,t18,t19,t20]) w K
def Hx(t0 t1 w)(K:KT):=nz f67 1 [] [(11,[7,20],λs v j w f=>Dg (s 0) (s 1) (vg v 0) (s 18) (s 19) (vg v 1) w (f 0) K)] [] (zg [0,1] [t0,t1]) w K
theorem Jt:Hx t0 t1 w k0->Calls ah 67 #[t0,t1] w k0:=cz [(20,[12])] [(5,[7,20]),(16,[12,51])] func67
def rY(t0 t1 w)(K:KT):=nz f121 1 [] [] [] (zg [0,1] [t0,t1]) w K
theorem Au:rY t0 t1 w k0->Calls ah 121 #[t0,t1] w k0:=cw func121
def oI(t0 t1 w)(K:KT):=nz f122 1 [] [] [] (zg [0,1] [t0,t1]) w K
theorem xB:oI t0 t1 w k0->Calls ah 122 #[t0,t1] w k0:=cw func122
end
section
open Eng Go.RowKit
namespace Ff
abbrev nHx:List UInt8:=[65,83,67,73,73,72,101,120,68,101,99,111,100,101]
abbrev n85:List UInt8:=[65,83,67,73,73,56,53,68,101,99,111,100,101]
abbrev nRL:List UInt8:=[82,117,110,76,101,110,103,116,104,68,101,99,111,100,101]
abbrev nFl:List UInt8:=[70,108,97,116,101,68,101,99,111,100,101]
abbrev dQ:List UInt8:=[70,105,108,116,101,114]
abbrev qP:List UInt8:=[68,101,99,111,100,101,80,97,114,109,115]
abbrev Yk:List UInt8:=[80,114,101,100,105,99,116,111,114]
abbrev Zk:List UInt8:=[67,111,108,111,114,115]
abbrev XF:List UInt8:=[67,111,108,117,109,110,115]
abbrev XX:List UInt8:=[66,105,116,115,80,101,114,67,111,109,112,111,110,101,110,116]
def full (n:List UInt8):List UInt8:=
 if n=[65,72,120]∨n=nHx then nHx
 else if n=[65,56,53]∨n=n85 then n85
 else if n=[82,76]∨n=nRL then nRL
 else if n=[70,108]∨n=nFl then nFl
 else []
def dO:Pm:=⟨1,1,1⟩
def num (o:Ob)(key:List UInt8):Int×Int:=match Vl.get o key with|none=>(1,0)|some v=>if v.k=2 then (v.n,0) else (0,10)
def parm (o:Ob):Pm×Int:=
 if o.k=0 then (dO,0)
 else if o.k=7∧(num o Yk).2=0∧(num o Zk).2=0∧(num o XF).2=0 then (⟨(num o Yk).1,(num o Zk).1,(num o XF).1⟩,0)
 else (⟨0,0,0⟩,10)
def eight (o:Ob):Bool:=match Vl.get o XX with|none=>au|some v=>ai (v.k=2)&&ai (v.n=8)
theorem G4 (n:List UInt8):full n=nHx∨full n=n85∨full n=nRL∨full n=nFl∨full n=[]:=by
 unfold full
 repeat' split
 all_goals simp
end Ff
theorem Ez (n:List UInt8)(w:ak):Ret ah 80 #[.string ⟨n.toArray⟩] w (λv w'=>v=.tuple #[.string ⟨(Ff.full n).toArray⟩,.bool (ai (Ff.full n≠[]))]∧w=w'):=by
 refine aK λK hK=>HY ?_;unfold EC eqx;refine join λJ1 h1=>join λJ2 h2=>join λJ3 h3=>join λJ4 h4=>join λJ5 h5=>?_;have fin:∀m:List UInt8,m=Ff.full n->m≠[]->J1 [.string ⟨m.toArray⟩] w:=λm hm hne=>h1 _ _ λ_=>by
  simp only[Cd,gd];exact hK _ _ ⟨by rw[<-hm,anZ hne],rfl⟩
 have f5:∀m:List UInt8,m=Ff.full n->m≠[]->J5 [.string ⟨m.toArray⟩] w:=λm hm hne=>h5 _ _ λ_=>by
  simp only[B9,gd];exact fin m hm hne
 have f4:∀m:List UInt8,m=Ff.full n->m≠[]->J4 [.string ⟨m.toArray⟩] w:=λm hm hne=>h4 _ _ λ_=>by
  simp only[Bq,gd];exact fin m hm hne
 have f3:∀m:List UInt8,m=Ff.full n->m≠[]->J3 [.string ⟨m.toArray⟩] w:=λm hm hne=>h3 _ _ λ_=>by
  simp only[Bz,gd];exact fin m hm hne
 have f2:∀m:List UInt8,m=Ff.full n->m≠[]->J2 [.string ⟨m.toArray⟩] w:=λm hm hne=>h2 _ _ λ_=>by
  simp only[Bj,gd];exact fin m hm hne
 clear h1 h2 h3 h4 h5 fin;rw[KW];by_cases c1:n=[65,72,120]
 ·rw[anZ c1,i_t];exact f5 _ (by unfold Ff.full;rw[anX (.inl c1)]) dc
 rw[anY c1,i_f,KW];by_cases c2:n=Ff.nHx
 ·rw[anZ c2,i_t];exact f5 _ (by unfold Ff.full;rw[anX (.inr c2),c2]) (by rw[c2];decide)
 rw[anY c2,i_f,KW];by_cases c3:n=[65,56,53]
 ·rw[anZ c3,i_t];exact f4 _ (by unfold Ff.full;rw[anW (by simp[c1,c2]),anX (.inl c3)]) dc
 rw[anY c3,i_f,KW];by_cases c4:n=Ff.n85
 ·rw[anZ c4,i_t];exact f4 _ (by unfold Ff.full;rw[anW (by simp[c1,c2]),anX (.inr c4),c4]) (by rw[c4];decide)
 rw[anY c4,i_f,KW];by_cases c5:n=[82,76]
 ·rw[anZ c5,i_t];exact f3 _ (by unfold Ff.full;rw[anW (by simp[c1,c2]),anW (by simp[c3,c4]),anX (.inl c5)]) dc
 rw[anY c5,i_f,KW];by_cases c6:n=Ff.nRL
 ·rw[anZ c6,i_t];exact f3 _ (by unfold Ff.full;rw[anW (by simp[c1,c2]),anW (by simp[c3,c4]),anX (.inr c6),c6]) (by rw[c6];decide)
 rw[anY c6,i_f,KW];by_cases c7:n=[70,108]
 ·rw[anZ c7,i_t];exact f2 _ (by unfold Ff.full;rw[anW (by simp[c1,c2]),anW (by simp[c3,c4]),anW (by simp[c5,c6]),anX (.inl c7)]) dc
 rw[anY c7,i_f,KW];by_cases c8:n=Ff.nFl
 ·rw[anZ c8,i_t];exact f2 _ (by unfold Ff.full;rw[anW (by simp[c1,c2]),anW (by simp[c3,c4]),anW (by simp[c5,c6]),anX (.inr c8),c8]) (by rw[c8];decide)
 rw[anY c8,i_f];have e:Ff.full n=[]:=by unfold Ff.full;rw[anW (by simp[c1,c2]),anW (by simp[c3,c4]),anW (by simp[c5,c6]),anW (by simp[c7,c8])]
 exact hK _ _ ⟨by rw[e];rfl,rfl⟩
theorem Ln (n:List UInt8)(w:ak):Ret ah 52 #[.string ⟨n.toArray⟩] w (λv w'=>v=.bool (ai (Ff.full n≠[]))∧w=w'):=by
 refine aK λK hK=>Ge ?_;unfold Ds nz;refine c_eq (Ez n w) ?_;simp only[ex];exact hK _ _ ⟨rfl,rfl⟩
theorem afJ {b c:Int}:DoX ah (bA 27 #[(0,.int .i64 a),(1,.int .i64 b),(2,.int .i64 c)]) w PK K=K (pmV ⟨a,b,c⟩) w:=aC krx
theorem adE (ho:OwnS S w0 w L)(k:∀b w',OwnS S w0 w' (pmE b ⟨0,0,0⟩::L)->K (.pointer (aw ⟨b,0,av⟩)) w'):DoX ah (Dv 27) w PK K:=
 bD (λb=>.pointer (aw ⟨b,0,av⟩)) (pmC ⟨0,0,0⟩) 27 (λ_=>by kernel_rfl) ho k
theorem Sx (i:Nat)(y:Pm)(ho:OwnS S w0 w L)(hi:L[i]?=aw (pmE b x))(k:∀w',OwnS S w0 w' (L.set i (pmE b y))->K undef w'):DoX ah (aV 27 (.pointer (aw ⟨b,0,av⟩)) (pmV y)) w PK K:=
 iL i ho hi szPm QB rfl k
theorem vT (w:ak):Ret ah 135 #[] w (λv w'=>v=pmV Ff.dO∧Below w.heap.size w w'):=by
 refine aK λK hK=>GU ?_;unfold DE nz;refine adE (Own.start w) λb w1 ho=>?_;rw[afJ];refine Sx 0 Ff.dO ho rfl λw2 ho=>?_;exact lK (bN (ho.agg 0 rfl HR)) (hK _ _ ⟨rfl,ho.done⟩)
theorem ahP:nD ah 107=true:=krx
def upF (e:Int):PanicEntry:={ v:=.iface 107 (.agg #[.int .i64 e]),recovered:=aq }
theorem aaW (e:Int)(w:ak):Ret ah 78 #[.bool au,.int .i64 e] w (λv w'=>v=.tuple #[]∧w=w'):=by
 refine aK λK hK=>zQ ?_;unfold xO nz;simp only[rs,aqF,i_f];exact hK _ _ ⟨rfl,rfl⟩
theorem aeP (e:Int)(w:ak):Pan ah 78 #[.bool aq,.int .i64 e] w (λc w'=>c=[upF e]∧w=w'):=by
 refine UJ λK hK=>zQ ?_;unfold xO nz;simp only[rs,aqD,i_t];have hb:∀{PK:PKT} {K:VWP},DoX ah (bA 107 #[(0,.int .i64 e)]) w PK K=K (.agg #[.int .i64 e]) w:=aC krx;rw[hb,MI ahP,Kz];exact hK _ _ ⟨rfl,rfl⟩
section
variable {w:ak}{PK:PKT}{K:VWP}{S:Nat->Prop}{w0:ak}{L:List Ent}
theorem qL (kt:q=au->K (.tuple #[]) w)(kf:q=aq->PK [upF e] w):CallX ah 78 #[.bool q,.int .i64 e] w PK K:=by
 cases q with
|true=>exact c_eq (aaW e w) (kt rfl)
|false=>exact acO (aeP e w) λc w' ⟨hc,hw⟩=>by subst hc;subst hw;exact kf rfl
theorem UX (ho:OwnS S w0 w (.mem M::L))(hw:o.wt<=100000000000)(hv:OV M.A M.w v o)
  (kt:(Ff.num o key).2=0->∀N W,M.le N->OwnS S w0 W (.mem N::L)->K (.int .i64 (Ff.num o key).1) W)
  (kf:(Ff.num o key).2≠0->∀N W,M.le N->OwnS S w0 W (.mem N::L)->PK [upF 10] W):CallX ah 208 #[v,.string ⟨key.toArray⟩] w PK K:=by
 obtain⟨vk,vc,cs,rfl,ha⟩:=hv.open;generalize hX:Ff.num o key=X at kt kf;unfold Ff.num at hX;refine⟨Gc ?_⟩;unfold Cp nz;refine mW o ha.keys.one ha.kids.one ho λb2 w1 ho=>?_;rw[ob_v ho 0 rfl];refine bI ho 1 rfl (IF o _ key M w1 hw (ho.hasM 1 rfl) hv) ?_;rintro _ N w2 hle ⟨t,rfl,ht⟩ ho;obtain⟨tk,tc,rfl,ht⟩:=Ml ht;simp only[getV,ex];refine jH ho λb5 w4 ho=>?_;refine cE 0 ht.oneK ht.oneC ho rfl λw5 ho=>?_;have drop:∀{W:ak} {e f:Ent},OwnS S w0 W (e::f::.mem N::L)->OwnS S w0 W (.mem N::L):=λho=>ho.tail.tail;have ho:OwnS S w0 w5 (obE b5 ((Vl.get o key).getD Vl.ob0) tk tc::obE b2 o vk vc::.mem N::L):=ho;cases hg:Vl.get o key with
|none=>
  rw[hg] at hX ho;simp only[atL,rs,aqD,i_t];rw[<-hX] at kt;exact kt rfl N w5 hle (drop ho)
|some x=>
  rw[hg] at hX ho;dsimp only at hX;rw[asB] at ho;simp only[auG,rs,aqF,i_f];rw[oL,ob_k ho 0 rfl];simp only[rs];refine qL (λh=>?_) (λh=>?_)
  ·have h:=aoU h;rw[anX h] at hX;rw[PI,ob_n ho 0 rfl];rw[<-hX] at kt;exact kt rfl N w5 hle (drop ho)
  ·have h:=apM h;rw[anW h] at hX;rw[<-hX] at kf;exact kf dc N w5 hle (drop ho)
theorem ahL (ho:OwnS S w0 w (.mem M::L))(hw:o.wt<=100000000000)(hv:OV M.A M.w v o)
  (kt:(Ff.parm o).2=0->∀N W,M.le N->OwnS S w0 W (.mem N::L)->K (pmV (Ff.parm o).1) W)
  (kf:(Ff.parm o).2=10->∀N W,M.le N->OwnS S w0 W (.mem N::L)->PK [upF 10] W):CallX ah 147 #[v] w PK K:=by
 obtain⟨vk,vc,cs,rfl,ha⟩:=hv.open;generalize hX:Ff.parm o=X at kt kf;unfold Ff.parm at hX;refine⟨Kk ?_⟩;unfold HB iN dx ldx fax stx alx ecx cx;refine mW o ha.keys.one ha.kids.one ho λb1 w1 ho=>?_;refine adE ho λb2 w2 ho=>?_;rw[oL,ob_k ho 1 rfl];simp only[rs];by_cases h0:o.k=0
 ·rw[anX h0] at hX;simp only[h0,aoA,i_t];refine aH ho (vT w2) ?_;rintro _ w3 rfl ho;refine Sx 0 Ff.dO ho rfl λw4 ho=>?_;rw[<-hX] at kt;exact lK (bN (ho.agg 0 rfl HR)) (kt rfl M w4 M.le_refl ho.tail.tail)
 rw[anW h0] at hX;simp only[h0,aoB,i_f];rw[oL,ob_k ho 1 rfl];simp only[rs];have bad:∀{N W},¬(o.k=7∧(Ff.num o Ff.Yk).2=0∧(Ff.num o Ff.Zk).2=0∧(Ff.num o Ff.XF).2=0)->M.le N->OwnS S w0 W (.mem N::L)->PK [upF 10] W:=by
  intro N W h hle ho;rw[anW h] at hX;rw[<-hX] at kf;exact kf rfl N W hle ho
 refine qL (λh7=>?_) (λh7=>bad (λk=>(apM h7) k.1) M.le_refl ho.tail.tail);have h7:=aoU h7;have ho:=ho.drew;refine⟨λW=>(obE b1 o vk vc).is W,ho.at_ 1 rfl,?_⟩;have ld:∀W,(obE b1 o vk vc).is W->(aJ 25 (.pointer (aw ⟨b1,0,av⟩))).run ah W=.ok (.value (obV o vk vc)) W:=λW h=>bE (AtV.agg Bl (cs:=obC o vk vc) rfl λj u hj=>by rw[aoN];exact aI (T:=25) h hj);refine sL _ ld (sL _ ld (sL _ ld ?_));have fr:∀{W:ak} {N:Mem},OwnS S w0 W (pmE b2 ⟨0,0,0⟩::obE b1 o vk vc::.mem N::L)->OwnS S w0 W (.mem N::pmE b2 ⟨0,0,0⟩::obE b1 o vk vc::L):=λ{W N} ho=>by
  have ho:OwnS S w0 W ([pmE b2 ⟨0,0,0⟩,obE b1 o vk vc]++([.mem N]++L)):=ho;exact ho.front
 have bk:∀{W:ak} {N:Mem} {x:Pm},OwnS S w0 W (.mem N::pmE b2 x::obE b1 o vk vc::L)->OwnS S w0 W (.mem N::L):=λ{W N x} ho=>ho.sub (.cons_cons _ (.cons _ (.cons _ (arK _))));refine UX (fr ho) hw hv (λe1 N1 W1 l1 ho=>?_) (λe1 N1 W1 l1 ho=>λ_ _ _ _=>bad (λk=>e1 k.2.1) l1 (bk ho));refine⟨ho.at_ 2 rfl,?_⟩;refine UX ho hw (hv.le l1) (λe2 N2 W2 l2 ho=>?_) (λe2 N2 W2 l2 ho=>λ_ _ _ _=>bad (λk=>e2 k.2.2.1) (l1.trans l2) (bk ho));refine⟨ho.at_ 2 rfl,?_⟩;refine UX ho hw ((hv.le l1).le l2) (λe3 N3 W3 l3 ho=>?_) (λe3 N3 W3 l3 ho=>λ_ _ _ _=>bad (λk=>e3 k.2.2.2) ((l1.trans l2).trans l3) (bk ho));refine⟨ho.at_ 2 rfl,?_⟩;rw[anX ⟨h7,e1,e2,e3⟩] at hX;refine aL (pmV ⟨(Ff.num o Ff.Yk).1,(Ff.num o Ff.Zk).1,(Ff.num o Ff.XF).1⟩) (λ_=>by kernel_rfl) ?_;refine Sx 1 _ ho rfl λw4 ho=>?_;rw[<-hX] at kt;exact lK (bN (ho.agg 1 rfl HR)) (kt rfl N3 w4 ((l1.trans l2).trans l3) (bk ho))
end
theorem SO (o:Ob)(v:ao)(M:Mem)(w:ak)(hw:o.wt<=100000000000)(hM:M.has w)(hv:OV M.A M.w v o):RetM ah 148 #[v] M w (λr _=>r=.bool (Ff.eight o)):=by
 obtain⟨vk,vc,cs,rfl,ha⟩:=hv.open;refine aU hM λK hK=>GR ?_;generalize hX:Ff.eight o=X at hK;unfold Ff.eight at hX;unfold DA nz;refine mW o ha.keys.one ha.kids.one (OwnS.memS hM) λb2 w1 ho=>?_;rw[ob_v ho 0 rfl];refine bI ho 1 rfl (IF o _ Ff.XX M w1 hw (ho.hasM 1 rfl) hv) ?_;rintro _ N w2 hle ⟨t,rfl,ht⟩ ho;obtain⟨tk,tc,rfl,ht⟩:=Ml ht;simp only[getV,ex];refine jH ho λb5 w4 ho=>?_;refine cE 0 ht.oneK ht.oneC ho rfl λw5 ho=>?_;have ho:OwnS M.A w w5 [obE b5 ((Vl.get o Ff.XX).getD Vl.ob0) tk tc,obE b2 o vk vc,.mem N]:=ho;cases hg:Vl.get o Ff.XX with
|none=>
  rw[hg] at hX ho;simp only[atL,rs,aqD,g_un,i_t];exact hK _ _ N _ 2 ho rfl hle (by rw[<-hX])
|some x=>
  rw[hg] at hX ho;dsimp only at hX;rw[asB] at ho;simp only[auG,rs,aqF];rw[oL,ob_k ho 0 rfl];simp only[rs];by_cases h2:x.k=2
  ·simp only[h2,aoA,rs];rw[PI,ob_n ho 0 rfl];simp only[rs];exact hK _ _ N _ 2 ho rfl hle (by rw[<-hX,h2];rfl)
  ·simp only[h2,aoB,rs,g_un];exact hK _ _ N _ 2 ho rfl hle (by rw[<-hX,anY h2];rfl)
end
section
open Eng
def rJ(t0 w)(K:KT):=nz f19 1 [] [] [] (zg [0] [t0]) w K
theorem Ap:rJ t0 w k0->Calls ah 19 #[t0] w k0:=cw func19
def qA(t0 w)(K:KT):=nz f18 1 [] [] [] (zg [0] [t0]) w K
theorem yL:qA t0 w k0->Calls ah 18 #[t0] w k0:=cw func18
def rV(t0 t1 t2 w)(K:KT):=nz f16 1 [] [] [] (zg [0,1,2] [t0,t1,t2]) w K
theorem Ah:rV t0 t1 t2 w k0->Calls ah 16 #[t0,t1,t2] w k0:=cw func16
def mQ(t0 t1 w)(K:KT):=nz f20 1 [] [] [] (zg [0,1] [t0,t1]) w K
theorem uU:mQ t0 t1 w k0->Calls ah 20 #[t0,t1] w k0:=cw func20
end
section
open Eng Go.RowKit
theorem yM (n:List UInt8)(w:ak):Ret ah 19 #[.string ⟨n.toArray⟩] w (λv w'=>v=.string ⟨(Ff.full n).toArray⟩∧w=w'):=by
 refine aK λK hK=>Ap ?_;unfold rJ nz;generalize hX:Ff.full n=X at hK;unfold Ff.full at hX;have fin:∀m:List UInt8,m=X->K (.returned (.string ⟨m.toArray⟩)) w:=λm hm=>hK _ _ ⟨by rw[hm],rfl⟩;simp only[rs];by_cases c1:n=Ff.nHx
 ·rw[anX (.inr c1)] at hX;simp only[anZ c1,rs,i_t,g_un];exact fin _ hX
 simp only[anY c1,rs];by_cases c2:n=[65,72,120]
 ·rw[anX (.inl c2)] at hX;simp only[anZ c2,rs,i_t];exact fin _ hX
 rw[anW (by simp[c1,c2])] at hX;simp only[anY c2,rs,i_f];by_cases c3:n=Ff.n85
 ·rw[anX (.inr c3)] at hX;simp only[anZ c3,rs,i_t,g_un];exact fin _ hX
 simp only[anY c3,rs];by_cases c4:n=[65,56,53]
 ·rw[anX (.inl c4)] at hX;simp only[anZ c4,rs,i_t];exact fin _ hX
 rw[anW (by simp[c3,c4])] at hX;simp only[anY c4,rs,i_f];by_cases c5:n=Ff.nRL
 ·rw[anX (.inr c5)] at hX;simp only[anZ c5,rs,i_t,g_un];exact fin _ hX
 simp only[anY c5,rs];by_cases c6:n=[82,76]
 ·rw[anX (.inl c6)] at hX;simp only[anZ c6,rs,i_t];exact fin _ hX
 rw[anW (by simp[c5,c6])] at hX;simp only[anY c6,rs,i_f];by_cases c7:n=Ff.nFl
 ·rw[anX (.inr c7)] at hX;simp only[anZ c7,rs,i_t,g_un];exact fin _ hX
 simp only[anY c7,rs];by_cases c8:n=[70,108]
 ·rw[anX (.inl c8)] at hX;simp only[anZ c8,rs,i_t];exact fin _ hX
 rw[anW (by simp[c7,c8])] at hX;simp only[anY c8,rs,i_f];exact fin [] hX
theorem Pa (n:List UInt8)(w:ak):Ret ah 18 #[.string ⟨n.toArray⟩] w (λv w'=>v=.bool (ai (Ff.full n≠[]))∧w=w'):=by
 refine aK λK hK=>yL ?_;unfold qA nz;refine c_eq (yM n w) ?_;rw[show (Value.string ⟨#[]⟩)=.string ⟨([]:List UInt8).toArray⟩ from rfl,Pv];exact hK _ _ ⟨rfl,rfl⟩
theorem akN (hs:SlA M.A M.w vc 6 os.length cs)(hall:OVs M.A M.w cs os)(hi:i < os.length) :
  ∃b off vk xc,(∀W,(mIA 23 vc (.int .i64 (i:Int))).run ah W=.ok (.value (.pointer (aw ⟨b,off,av⟩))) W)∧OV M.A M.w (obV os[i] vk xc) os[i] ∧
   ∀W,M.has W->∀j u,(obC os[i] vk xc)[j]?=aw u->W.cell? ⟨b,off+j,av⟩=aw u:=by
 obtain⟨b,off,cap,rfl,_⟩:=bY hs.1 om;obtain⟨a,hl,hov,hget⟩:=OVs.get _ _ i hi hall;obtain⟨vk,xc,ocs,he,hoa⟩:=hov.open;have ea:a=obC os[i] vk xc:=by
  unfold obV at he
  injection he with he
  exact congrArg Array.toList he
 subst ea;refine⟨b,off+i*6,vk,xc,λW=>?_,hov,λW hW j u hj=>?_⟩
 ·have:=dZ (P:=ah) (T:=23) (b:=b) (off:=off) (cap:=cap) (n:=os.length) (k:=.i64) (i:=(i:Int)) (w:=W) aoW szOb om om
  rwa [aoF] at this
 ·obtain⟨b',off',cap',he',hc⟩:=bY (hs.now hW) om;cases he';rw[arM];exact hc _ _ (hget j u hj)
theorem Qo {l:List (List UInt8)}(hs:SlA M.A M.w v 1 l.length (cD l))(hi:i < l.length) :
  ∃p,(∀W,(mIA 22 v (.int .i64 (i:Int))).run ah W=.ok (.value (.pointer (aw p))) W)∧∀W,M.has W->(aJ 9 (.pointer (aw p))).run ah W=.ok (.value (.string ⟨l[i].toArray⟩)) W:=by
 obtain⟨b,off,cap,rfl,_⟩:=bY hs.1 om;refine⟨⟨b,off+i,av⟩,λW=>?_,λW hW=>?_⟩
 ·have:=dZ (P:=ah) (T:=22) (b:=b) (off:=off) (cap:=cap) (n:=l.length) (k:=.i64) (i:=(i:Int)) (w:=W) aoT (show _=aw 1 by kernel_rfl) om om;rw[aoF,aoS] at this;exact this
 ·obtain⟨b',off',cap',he,hc⟩:=bY (hs.now hW) om;cases he;exact aB X2 (hc i _ (jW hi))
theorem Ur (x:Pm):(pmC x).length=3:=rfl
theorem pmAt {l:List Pm}(hs:SlA M.A M.w v 3 l.length (l.flatMap pmC))(hi:i < l.length) :
  ∃p,(∀W,(mIA 40 v (.int .i64 (i:Int))).run ah W=.ok (.value (.pointer (aw p))) W)∧∀W,M.has W->(aJ 27 (.pointer (aw p))).run ah W=.ok (.value (pmV l[i])) W:=by
 obtain⟨b,off,cap,rfl,_⟩:=bY hs.1 om;refine⟨⟨b,off+i*3,av⟩,λW=>?_,λW hW=>?_⟩
 ·have:=dZ (P:=ah) (T:=40) (b:=b) (off:=off) (cap:=cap) (n:=l.length) (k:=.i64) (i:=(i:Int)) (w:=W) atS szPm om om;rw[aoF] at this;exact this
 ·obtain⟨b',off',cap',he,hc⟩:=bY (hs.now hW) om;cases he;refine bE (AtV.agg HR (cs:=pmC l[i]) rfl λj u hj=>?_);rw[arM];exact hc _ _ (Eng.CL Ur hi hj)
abbrev pmsE (v:ao)(l:List Pm):Ent:=.recs 27 pmC 3 v l
abbrev stsE (v:ao)(l:List (List UInt8)):Ent:=.urow 9 1 v l.length (cD l)
theorem elPm:elB ah 27 3 24=true:=krx
section
variable {w:ak}{PK PK2:PKT}{K:VWP}{S:Nat->Prop}{w0:ak}{L:List Ent}
theorem Vz (x:Pm){l:List Pm}{c:Array Bool}(ho:OwnS S w0 w (pmsE v l::L))(hl:l.length<=1000000000)(k:∀v' W,OwnS S w0 W (pmsE v' (l++[x])::L)->K v' W) :
  DoX ah (bF 40 1 #[(0,pmV x)]) w PK λt w=>DoX ah (mB .append #[40,40] 40 c #[v,t]) w PK2 K:=by
 refine bD (λb=>.slice (aw ⟨b,0,av⟩) 1 1) (pmC x) 27 (λ_=>by kernel_rfl) ho λb w1 ho=>?_;refine aX 1 atS elPm dc ho rfl (eG (ho.at_ 0 rfl) dc rfl) QB om om λv' w2 ho=>k v' w2 ?_;have e:pmsE v' (l++[x])=.urow 27 3 v' (l.length+1) (l.flatMap pmC++pmC x):=by
  unfold pmsE Ent.recs;rw[aoC,atC,atT];rfl
 rw[e];exact ho.tail
theorem UP (x:List UInt8){l:List (List UInt8)}{c:Array Bool}(ho:OwnS S w0 w (stsE v l::L))(hl:l.length<=1000000000)(k:∀v' W,OwnS S w0 W (stsE v' (l++[x])::L)->K v' W) :
  DoX ah (bF 22 1 #[(0,.string ⟨x.toArray⟩)]) w PK λt w=>DoX ah (mB .append #[22,22] 22 c #[v,t]) w PK2 K:=by
 refine bD (λb=>.slice (aw ⟨b,0,av⟩) 1 1) [.string ⟨x.toArray⟩] 9 (λ_=>by kernel_rfl) ho λb w1 ho=>?_;refine aX 1 aoT (show elB ah 9 1 16=au by kernel_rfl) dc ho rfl (eG (ho.at_ 0 rfl) dc rfl) (λu hu=>by rw[aoZ.1 hu];rfl) om om λv' w2 ho=>k v' w2 ?_;have e:stsE v' (l++[x])=.urow 9 1 v' (l.length+1) (cD l++[.string ⟨x.toArray⟩]):=by
  unfold stsE cD;rw[aoC,apX];rfl
 rw[e];exact ho.tail
theorem Ql (ho:OwnS S w0 w (obE b o vk vc::L))(i:Nat)(hi:L[i]?=aw (.mem M))(hov:OV M.A M.w (obV o vk vc) o) :
  ∃N:Mem,M.le N∧SlA N.A N.w (.slice (aw ⟨b,0,av⟩) 1 1) 6 1 (obC o vk vc)∧OVs N.A N.w (obC o vk vc) [o]∧OwnS S w0 w (L.set i (.mem N)):=by
 have hb:=ho.at_ 0 rfl;obtain⟨N,h1,h2,h3,h4⟩:=ho.freeze i hi;refine⟨N,h1,⟨?_,λp l c e _=>?_,λa l c e=>?_⟩,?_,h4⟩
 ·rw[h2];exact eG hb dc rfl
 ·injection e with e1 _ _
  injection e1 with e1
  rw[<-e1];exact h3 b rfl
 ·injection e with _ e2 e3
  omega
 ·have:=OVs.snoc (a:=obC o vk vc) rfl (hov.le h1) [] [] OVs.nil;exact this
end
end
section
open Eng Go.RowKit
def abI:ao->Nat|.slice _ n _=>n|_=>0
namespace Ff
def filt (o:Ob):List Ob:=match Vl.get o dQ with|none=>[]|some f=>if f.k=6 then f.kids else [f]
def Cl (o:Ob):List Ob×Int:=match Vl.get o qP with|none=>([],0)|some d=>if d.k=6 then (d.kids,0) else if d.k=7 then ([d],0) else ([],10)
def A5 (o:Ob)(many:Nat):List Pm×Int:=
 if (Cl o).2≠0 then ([],10)
 else if (Cl o).1.any (λx=>ai ((parm x).2≠0))=au then ([],10)
 else if many < (Cl o).1.length then ([],1)
 else if (Cl o).1.any (λx=>!eight x)=au then ([],1)
 else ((Cl o).1.map (λx=>(parm x).1)++List.replicate (many - (Cl o).1.length) dO,0)
theorem YU {x:Ob}(h:x∈(Cl o).1):x.wt<=o.wt:=by
 unfold Cl at h;cases hg:Vl.get o qP with
|none=>rw[hg] at h;simp at h
|some f=>
  rw[hg] at h;have hf:=qj hg;dsimp only at h;split at h
  ·obtain⟨i,hi,rfl⟩:=asF (show x∈f.kids from h);have:=Pn hi;omega
  split at h
  ·rw[aoZ.1 h];exact hf
  ·simp at h
theorem yU {o:Ob}:o.kids.length<=o.wt:=by
 have:=Ob.Gt o.kids;cases o;simp only[Ob.kids] at *;rw[Ob.wt];omega
theorem R9 (h:o.wt<=1000000000):(filt o).length<=1000000000:=by
 unfold filt;cases hg:Vl.get o dQ with
|none=>exact aoO _
|some f=>
  have hf:=qj hg;dsimp only;split
  ·have:=@yU f;omega
  ·exact (by decide:(1:Nat)<=1000000000)
theorem U4 (h:o.wt<=1000000000):(Cl o).1.length<=1000000000:=by
 unfold Cl;cases hg:Vl.get o qP with
|none=>exact aoO _
|some f=>
  have hf:=qj hg;dsimp only;split
  ·have:=@yU f;show f.kids.length<=_;omega
  split
  ·exact (by decide:(1:Nat)<=1000000000)
  ·exact aoO _
end Ff
section
variable {w:ak}{PK:PKT}{K:VWP}{S:Nat->Prop}{w0:ak}{L:List Ent}
structure LsAt (M:Mem) (v:ao) (os:List Ob) (cs:List ao):Prop where
 sl:SlA M.A M.w v 6 os.length cs
 all:OVs M.A M.w cs os
theorem LsAt.le {M N:Mem}{v:ao}{os:List Ob}{cs:List ao}(h:M.le N)(k:LsAt M v os cs):LsAt N v os cs:=⟨k.sl.le h,k.all.le h⟩
theorem agT (M:Mem):LsAt M nilS [] []:=⟨SlA.nil _ _ _ _,OVs.nil⟩
theorem Wx (h:OV M.A M.w (obV o vk vc) o):∃cs,LsAt M vc o.kids cs:=by
 obtain⟨cs,ha⟩:=h.slices;exact⟨cs,ha.kids,ha.all⟩
theorem Nw (h:LsAt M v os cs):DoX ah (mB .len #[23] 3 #[aq] #[v]) W PK K=K (.int .i64 (os.length:Int)) W:=by
 obtain⟨a,cap,rfl,_⟩:=h.sl.form;exact bG aoW
theorem RA (h:LsAt M v os cs)(hi:i < os.length)(hM:M.has w)(k:∀vk vc,OV M.A M.w (obV os[i] vk vc) os[i]->K (obV os[i] vk vc) w) :
  DoX ah (mIA 23 v (.int .i64 (i:Int))) w PK λt w=>DoX ah (aJ 25 t) w PK2 K:=by
 obtain⟨b,off,vk,xc,hia,hov,hcell⟩:=akN h.sl h.all hi;refine aC (hia w) |>.mpr ?_;refine aC (bE (AtV.agg Bl (cs:=obC os[i] vk xc) rfl (hcell w hM))) |>.mpr ?_;exact k vk xc hov
theorem Wq (ho:OwnS S w0 w (.mem M::L))(hw:o.wt<=1000000000)(hv:OV M.A M.w v o)
  (kt:(∀x∈Ff.filt o,x.k=5)->∀vn N W,M.le N->SlA N.A N.w vn 1 ((Ff.filt o).map Ob.s).length (cD ((Ff.filt o).map Ob.s))->OwnS S w0 W (.mem N::L)->K vn W)
  (kf:¬(∀x∈Ff.filt o,x.k=5)->∀N W,M.le N->OwnS S w0 W (.mem N::L)->PK [upF 10] W):CallX ah 79 #[v] w PK K:=by
 obtain⟨vk,vc,ocs,rfl,ha⟩:=hv.open;have hfl:=Ff.R9 hw;generalize hX:Ff.filt o=X at kt kf hfl;unfold Ff.filt at hX;refine⟨FA ?_⟩;unfold A3 nz;refine mW o ha.keys.one ha.kids.one ho λb1 w1 ho=>?_;rw[ob_v ho 0 rfl];refine bI ho 1 rfl (IF o _ Ff.dQ M w1 om (ho.hasM 1 rfl) hv) ?_;rintro _ N w2 hle ⟨x,rfl,hx⟩ ho;obtain⟨xk,xc,rfl,hx⟩:=Ml hx;simp only[getV,ex];refine jH ho λb3 w3 ho=>?_;refine cE 0 hx.oneK hx.oneC ho rfl λw4 ho=>?_;rw[ob_v ho 0 rfl];refine Lp _ hx.oneK hx.oneC ho λnb w5 ho=>?_;have ho:OwnS S w0 w5 (obE nb ((Vl.get o Ff.dQ).getD Vl.ob0) xk xc::obE b3 ((Vl.get o Ff.dQ).getD Vl.ob0) xk xc::obE b1 o vk vc::.mem N::L):=ho;refine join λJ hJ=>?_;have main:∀(N':Mem) (vl:ao) (cs:List ao) (W:ak),M.le N'->LsAt N' vl X cs->OwnS S w0 W (.mem N'::L)->J [vl] W:=by
  intro N' vl cs W hle' hls ho;refine hJ _ _ λ_=>?_;simp only[wW,gd,nz];rw[Nw hls];have ho:=OwnS.nilU ho 9 1;refine loop (λvs W=>∃(i:Nat) (ov:ao),vs=[ov,.int .i64 (i:Int)]∧i<=X.length∧(∀x∈X.take i,x.k=5)∧OwnS S w0 W (stsE ov ((X.take i).map Ob.s)::.mem N'::L)) (λvs _=>X.length - n1 vs) ⟨0,nilS,rfl,om,sm,ho⟩ ?_;clear ho;rintro vs w6 ⟨i,ov,rfl,hi,h5,ho⟩ _;simp only[wH,gd,rs,nz];by_cases hlt:(i:Int) < (X.length:Int)
  case neg=>
   simp only[hlt,aoB,i_f];have:i=X.length:=om
   subst this;rw[aqJ] at h5 ho;obtain⟨N2,l2,hs2,ho⟩:=ho.cI 0 rfl;exact kt h5 ov N2 w6 (hle'.trans l2) hs2 ho
  simp only[hlt,aoA,i_t];have hi':i < X.length:=om
  refine RA hls hi' (ho.hasM 1 rfl) λyk yc hy=>?_;refine jH ho λb8 w7 ho=>?_;refine cE 0 hy.oneK hy.oneC ho rfl λw8 ho=>?_;rw[oL,ob_k ho 0 rfl];simp only[rs];refine qL (λh=>?_) (λh=>?_)
  rotate_left
  ·exact kf (λk=>(apM h) (k _ (aoR hi'))) N' w8 hle' ho.tail.tail
  have h:=aoU h;rw[NB,ob_s ho 0 rfl];refine UP _ ho.tail (by rw[apP,aoH];omega) λov' W2 ho=>?_
  try simp only[rs]
  rw[aA om om];refine aQ ⟨i+1,ov',rfl,om,?_,?_⟩ (by simp[n1,RowKit.intOf];omega)
  ·rw[apG hi'];intro x hx;rcases apF.1 hx with hx|hx
   ·exact h5 x hx
   ·rw[aoZ.1 hx];exact h
  ·rw[apG hi',apX];exact ho
 cases hg:Vl.get o Ff.dQ with
|none=>
  rw[hg] at hX;dsimp only at hX;subst hX;simp only[atL,rs,aqD,i_t];exact kt sm nilS N w5 hle (SlA.nil _ _ _ _) ho.tail.tail.tail
|some f=>
  rw[hg] at hX ho hx;dsimp only at hX;rw[asB] at ho hx;simp only[auG,rs,aqF,i_f];rw[oL,ob_k ho 1 rfl];simp only[rs];by_cases h6:f.k=6
  ·rw[anX h6] at hX;subst hX;simp only[h6,aoA,i_t];rw[yC,gT ho 1 rfl];obtain⟨cs,hls⟩:=Wx hx;exact main N xc cs w5 hle hls ho.tail.tail.tail
  ·rw[anW h6] at hX;subst hX;simp only[h6,aoB,i_f];obtain⟨N2,l2,hs2,ha2,ho⟩:=Ql ho 2 rfl hx;exact main N2 _ _ w5 (hle.trans l2) ⟨hs2,ha2⟩ ho.tail.tail
theorem Yr {many:Nat}(ho:OwnS S w0 w (.mem M::L))(hw:o.wt<=1000000000)(hm:many<=1000000000)(hv:OV M.A M.w v o)
  (kt:(Ff.A5 o many).2=0->∀vp N W,M.le N->SlA N.A N.w vp 3 (Ff.A5 o many).1.length ((Ff.A5 o many).1.flatMap pmC)->OwnS S w0 W (.mem N::L)->K vp W)
  (kf:(Ff.A5 o many).2≠0->∀N W,M.le N->OwnS S w0 W (.mem N::L)->PK [upF (Ff.A5 o many).2] W):CallX ah 81 #[v,.int .i64 (many:Int)] w PK K:=by
 obtain⟨vk,vc,ocs,rfl,ha⟩:=hv.open;have hdl:=Ff.U4 hw;have hdw:∀x∈(Ff.Cl o).1,x.wt<=1000000000:=λx hx=>by have:=Ff.YU hx;omega
 generalize hX:Ff.A5 o many=X at kt kf;unfold Ff.A5 at hX;generalize hD:Ff.Cl o=D at hX hdl hdw;obtain⟨l,de⟩:=D;unfold Ff.Cl at hD;dsimp only at hX hdl hdw;refine⟨GJ ?_⟩;unfold DB nz;refine mW o ha.keys.one ha.kids.one ho λb1 w1 ho=>?_;refine join λJ hJ=>?_;rw[ob_v ho 0 rfl];refine bI ho 1 rfl (IF o _ Ff.qP M w1 om (ho.hasM 1 rfl) hv) ?_;rintro _ N w2 hle ⟨x,rfl,hx⟩ ho;obtain⟨xk,xc,rfl,hx⟩:=Ml hx;simp only[getV,ex];refine jH ho λb3 w3 ho=>?_;refine cE 0 hx.oneK hx.oneC ho rfl λw4 ho=>?_;have ho:OwnS S w0 w4 (obE b3 ((Vl.get o Ff.qP).getD Vl.ob0) xk xc::obE b1 o vk vc::.mem N::L):=ho;have fail:∀{e:Int} {N':Mem} {W:ak},X=([],e)->e≠0->M.le N'->OwnS S w0 W (.mem N'::L)->PK [upF e] W:=by
  intro e N' W he h0 hle' ho;rw[he] at kf;exact kf h0 N' W hle' ho
 have main:de=0->∀(N':Mem) (vl:ao) (cs:List ao) (W:ak),M.le N'->LsAt N' vl l cs->OwnS S w0 W (.mem N'::L)->J [vl] W:=by
  intro hde N' vl cs W hle' hls ho;rw[anW (by rw[hde];decide)] at hX;refine hJ _ _ λ_=>?_;simp only[zU,gd,nz];rw[Nw hls];have ho:=OwnS.nilU ho 27 3;refine loop (λvs W=>∃(i:Nat) (ov:ao) (N2:Mem),vs=[ov,.int .i64 (i:Int)]∧i<=l.length∧(∀x∈l.take i,(Ff.parm x).2=0)∧N'.le N2∧OwnS S w0 W (pmsE ov ((l.take i).map λx=>(Ff.parm x).1)::.mem N2::L)) (λvs _=>l.length - n1 vs) ⟨0,nilS,N',rfl,om,sm,N'.le_refl,ho⟩ ?_;clear ho;rintro vs w6 ⟨i,ov,N2,rfl,hi,h0,l2,ho⟩ _;simp only[zH,gd,rs,nz];by_cases hlt:(i:Int) < (l.length:Int)
  ·simp only[hlt,aoA,i_t];have hi':i < l.length:=om
   refine RA (hls.le l2) hi' (ho.hasM 1 rfl) λyk yc hy=>?_;refine jH ho λb8 w7 ho=>?_;refine cE 0 hy.oneK hy.oneC ho rfl λw8 ho=>?_;rw[ob_v ho 0 rfl];have ho:OwnS S w0 w8 ([obE b8 l[i] yk yc,pmsE ov ((l.take i).map λx=>(Ff.parm x).1)]++([.mem N2]++L)):=ho;refine ahL ho.front (by have:=hdw _ (aoR hi');omega) hy (λe0 N3 W2 l3 ho=>?_) (λe0 N3 W2 l3 ho=>?_)
   rotate_left
   ·refine fail (e:=10) ?_ dc ((hle'.trans l2).trans l3) (ho.sub (.cons_cons _ (.cons _ (.cons _ (arK _)))));rw[anX (arU.2 ⟨_,aoR hi',anZ (by rw[e0];decide)⟩)] at hX;exact hX.symm
   have ho:OwnS S w0 W2 ([.mem N3,obE b8 l[i] yk yc]++([pmsE ov ((l.take i).map λx=>(Ff.parm x).1)]++L)):=ho;have ho:=ho.front;have ho:OwnS S w0 W2 (pmsE ov ((l.take i).map λx=>(Ff.parm x).1)::.mem N3::obE b8 l[i] yk yc::L):=ho;refine Vz _ ho (by rw[apP,aoH];omega) λov' W3 ho=>?_
   try simp only[rs]
   rw[aA om om];refine aQ ⟨i+1,ov',N3,rfl,om,?_,l2.trans l3,?_⟩ (by simp[n1,RowKit.intOf];omega)
   ·rw[apG hi'];intro x hx;rcases apF.1 hx with hx|hx
    ·exact h0 x hx
    ·rw[aoZ.1 hx];exact e0
   ·rw[apG hi',apX];exact ho.sub (.cons_cons _ (.cons_cons _ (.cons _ (arK _))))
  simp only[hlt,aoB,i_f];have:i=l.length:=om
  subst this;rw[aqJ] at h0 ho;rw[anW (λh=>by
   obtain⟨x,hx,h⟩:=arU.1 h;exact (aoU h) (h0 x hx))] at hX
  rw[Nw hls];simp only[rs];refine qL (λh=>?_) (λh=>?_)
  rotate_left
  ·have:=apM h;rw[anX om] at hX;exact fail hX.symm dc (hle'.trans l2) ho.tail
  have hml:=aoU h;rw[anW om] at hX;rw[Nw hls];generalize hps:(l.map λx=>(Ff.parm x).1)=ps at hX ho;have hpl:ps.length=l.length:=by rw[<-hps,apP]
  refine loop (λvs W=>∃(i:Nat) (N3:Mem),vs=[.int .i64 (i:Int)]∧i<=l.length∧(∀x∈l.take i,Ff.eight x=au)∧N2.le N3∧OwnS S w0 W (pmsE ov ps::.mem N3::L)) (λvs _=>l.length - n0 vs) ⟨0,N2,rfl,om,sm,N2.le_refl,ho⟩ ?_;clear ho;rintro vs w7 ⟨i,N3,rfl,hi,h8,l3,ho⟩ _;simp only[zW,gd,rs,nz];by_cases hlt:(i:Int) < (l.length:Int)
  ·simp only[hlt,aoA,i_t];have hi':i < l.length:=om
   refine RA ((hls.le l2).le l3) hi' (ho.hasM 1 rfl) λyk yc hy=>?_;refine jH ho λb8 w8 ho=>?_;refine cE 0 hy.oneK hy.oneC ho rfl λw9 ho=>?_;rw[ob_v ho 0 rfl];refine bI ho 2 rfl (SO l[i] _ N3 w9 (by have:=hdw _ (aoR hi');omega) (ho.hasM 2 rfl) hy) ?_;rintro _ N4 w10 l4 rfl ho;refine qL (λh=>?_) (λh=>?_)
   rotate_left
   ·rw[anX (arU.2 ⟨_,aoR hi',by rw[h];rfl⟩)] at hX;exact fail hX.symm dc (((hle'.trans l2).trans l3).trans l4) ho.tail.tail
   try simp only[rs]
   rw[aA om om];refine aQ ⟨i+1,N4,rfl,om,?_,l3.trans l4,ho.tail⟩ (by simp[n0,RowKit.intOf];omega);rw[apG hi'];intro x hx;rcases apF.1 hx with hx|hx
   ·exact h8 x hx
   ·rw[aoZ.1 hx];exact h
  simp only[hlt,aoB,i_f];have:i=l.length:=om
  subst this;rw[aqJ] at h8;rw[anW (λh=>by
   obtain⟨x,hx,h⟩:=arU.1 h;rw[h8 x hx] at h;cases h)] at hX
  refine loop (λvs W=>∃(j:Nat) (ov:ao),vs=[ov]∧l.length+j<=many∧OwnS S w0 W (pmsE ov (ps++List.replicate j Ff.dO)::.mem N3::L)) (λvs _=>many - abI (vs.getD 0 undef)) ⟨0,ov,rfl,om,by rw[List.replicate_zero,aoV];exact ho⟩ ?_;clear ho;rintro vs w8 ⟨j,ov,rfl,hj,ho⟩ _;have hlj:(ps++List.replicate j Ff.dO).length=l.length+j:=by rw[aoC,apC,hpl]
  have hsl:∃a cap,ov=.slice a (l.length+j) cap:=by
   obtain⟨_,a,cap,h,_⟩:=Sl.urow (ho.at_ 0 rfl);exact⟨a,cap,by rw[h,hlj]⟩
  obtain⟨a,cap,hov⟩:=hsl;simp only[Ag,gd,nz];rw[show DoX ah (mB .len #[40] 3 #[aq] #[ov]) w8=DoX ah (mB .len #[40] 3 #[aq] #[.slice a (l.length+j) cap]) w8 by rw[hov],bG atS];simp only[rs];by_cases hlt:((l.length+j:Nat):Int) < (many:Int)
  ·simp only[hlt,aoA,i_t];refine aH ho (vT w8) ?_;rintro _ w9 rfl ho;refine Vz _ ho (by rw[hlj];omega) λov' W3 ho=>?_;have ho:OwnS S w0 W3 (pmsE ov' (ps++List.replicate (j+1) Ff.dO)::.mem N3::L):=by
    rw[auL,<-aoL];exact ho
   have hlj2:(ps++List.replicate (j+1) Ff.dO).length=l.length+(j+1):=by rw[aoC,apC,hpl]
   refine aQ ⟨j+1,ov',rfl,om,ho⟩ ?_;obtain⟨_,a',cap',h',_⟩:=Sl.urow (ho.at_ 0 rfl);rw[hov,h',hlj2];show many - (l.length+(j+1)) < many - (l.length+j);omega
  simp only[hlt,aoB,i_f];have hjm:j=many - l.length:=om
  subst hjm;rw[<-hX] at kt;obtain⟨N5,l5,hs5,ho⟩:=ho.cI 0 rfl;exact kt rfl ov N5 w8 (((hle'.trans l2).trans l3).trans l5) hs5 ho
 cases hg:Vl.get o Ff.qP with
|none=>
  rw[hg] at hD;dsimp only at hD
  injection hD with hd1 hd2
  subst hd1;simp only[atL,rs,i_f];exact main hd2.symm N nilS [] w4 hle (agT N) ho.tail.tail
|some f=>
  rw[hg] at hD ho hx;dsimp only at hD;rw[asB] at ho hx;simp only[auG,i_t];rw[ob_v ho 0 rfl];refine Lp _ hx.oneK hx.oneC ho λnb w5 ho=>?_;rw[oL,ob_k ho 1 rfl];simp only[rs];by_cases h6:f.k=6
  ·rw[anX h6] at hD
   injection hD with hd1 hd2
   subst hd1;simp only[h6,aoA,i_t];rw[yC,gT ho 1 rfl];obtain⟨cs,hls⟩:=Wx hx;exact main hd2.symm N xc cs w5 hle hls ho.tail.tail.tail
  rw[anW h6] at hD;simp only[h6,aoB,i_f];rw[oL,ob_k ho 1 rfl];simp only[rs];refine qL (λh=>?_) (λh=>?_)
  ·rw[anX (aoU h)] at hD
   injection hD with hd1 hd2
   subst hd1;obtain⟨N2,l2,hs2,ha2,ho⟩:=Ql ho 2 rfl hx;exact main hd2.symm N2 _ _ w5 (hle.trans l2) ⟨hs2,ha2⟩ ho.tail.tail
  ·rw[anW (apM h)] at hD
   injection hD with hd1 hd2
   rw[anX (by rw[<-hd2];decide)] at hX;exact fail hX.symm dc hle ho.tail.tail.tail
end
end
namespace Eng
theorem JR {f:FuncId}{o o2:Oper}{rest:Code}{args:List ao}{R:Ending->FrameMode->ak->Prop}{n d2:Nat}{al:List (Nat×List Nat)}{rs:List ResultVar}
  (hf:P.funcs[f]?=aw fn) (hb:fn.body=aw (.seq (.region id #[o,o2] aq) rest)) (ho:o.op=.call { callee:=.builtin .recover,args:=#[],argTypes:=#[] }) (hg:o.guard=av) (hd:o.dst=aw d) (hdn:Nat.blt d n=au)
  (ho2:o2.op=.assign (.tmp d)) (hg2:o2.guard=av) (hd2:o2.dst=aw d2) (hdn2:Nat.blt d2 n=au)
  (hn:fn.ntmps=n) (hrs:fn.results.toList=rs) (hl:Nat.ble args.length n=au)
  (h:wpX P n aj al av rest (topD P rs (λe w'=>R e (recM u) w')) (upd (upd (lQ args) d (recV u)) d2 (recV u)) [] w):CallsD P f args.toArray u w R:=by
 refine callsD_of_wpS hf hb λc₀ cs hu=>?_;rw[hn];refine wpS_seq (wpS_region ?_);have hex:∀ρ:Operand->ao,(execOp ρ o).run P w=.ok .recover w:=by
  intro ρ;unfold execOp;rw[ho];simp[resolve,invoke,builtin,bind,pure,Sem.bind,Sem.run]
 have hrep:=FF (args:=args) hl;have hput:Rep n (upd (lQ args) d (recV u)) (({ tmps:=args.toArray++Array.replicate (n - args.toArray.size) undef,defers:=[] }:Act).put o.dst (recV u)).tmps:=by
  rw[hd];exact Rep.put (a:={ tmps:=args.toArray++Array.replicate (n - args.toArray.size) undef,defers:=[] }) hrep (d:=aw d) hdn (recV u)
 have hdef:(({ tmps:=args.toArray++Array.replicate (n - args.toArray.size) undef,defers:=[] }:Act).put o.dst (recV u)).defers=[]:=by rw[hd];rfl
 obtain⟨A1,hA1⟩:∃A,A=({ tmps:=args.toArray++Array.replicate (n - args.toArray.size) undef,defers:=[] }:Act).put o.dst (recV u):=⟨_,rfl⟩;rw[<-hA1] at hput hdef;have hex2:(execOp A1.eval o2).run P w=.ok (.value (recV u)) w:=by
  rw[Rep.eval hput];unfold execOp;rw[ho2];simp[rd,upd,pure,Sem.run]
 have key:wpOpsS P #[o,o2] (Exit.thenS (rest.wpS P (bodyPostS P fn c₀ cs R)) (bodyPostS P fn c₀ cs R)) [1] A1 ({ c₀ with mode:=recM u }::cs) w:=by
  unfold wpOpsS;simp only[avY,apW,atF];rw[anX (by simp[Region.wanted,hg2]),hex2];simp only[Oper.upon];have hput2:Rep n (upd (upd (lQ args) d (recV u)) d2 (recV u)) (A1.put o2.dst (recV u)).tmps:=by
   rw[hd2];exact Rep.put hput (d:=aw d2) hdn2 (recV u)
  have hdef2:(A1.put o2.dst (recV u)).defers=[]:=by rw[hd2];exact hdef
  refine wpS_of_wp (Code.wp_mono ?_ (wpIn_wide.1 (EA rest av _ _ _ w hput2 (by rw[hdef2];exact h))));rintro e a w' ⟨σ,hr,hk⟩;have hdd:∀K:Ending->ak->Prop,RetD P (rvOf σ rs) w' K->∃v,(results fn a.tmps).run P w'=.ok v w'∧K (.returned v) w':=λK hk=>by
   rw[CF hr,hrs];exact IG hk
  generalize hds:a.defers=ds at hk;cases e<;>cases ds<;>first|(exact hk.elim;done)|skip
  ·obtain⟨v,h1,h2⟩:=hdd (λe w'=>R e (recM u) w') hk;exact⟨hds,recM u,rfl,v,h1,h2⟩
  ·obtain⟨v,h1,h2⟩:=hdd (λe w'=>R e (recM u) w') hk;exact⟨hds,recM u,rfl,v,h1,h2⟩
  ·exact⟨hds,recM u,rfl,hk⟩
 have e:=rec_eq c₀ cs;rw[hu] at e;show wpOpsS P #[o,o2] _ [0,1] _ (c₀::cs) w;unfold wpOpsS;simp only[avY,atF];rw[anX (by simp[Region.wanted,hg])];rw[hex];cases hrc:recoverD (c₀::cs) with
|none=>
  rw[hrc] at e;simp only[asA] at e;simp only;rw[e.1,e.2,<-hA1];exact key
|some x=>
  obtain⟨v,cs'⟩:=x;rw[hrc] at e;simp only[asA] at e;simp only;rw[e.1,e.2,<-hA1];exact key
end Eng
end Go.Proofs.YtlipjfcbjemicaaGreatDoor
