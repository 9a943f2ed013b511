/- Texts that go together: SBit InfA SInfl InfB SCode InfC InfD IntsA InfE SSlcN InfF InfG InfH InfI InfJ InfK EngAJ InfL InfM Plain16B SRef10 SRef11 IrA InfN InfO EngAA EngAB InfP. -/
import Derived.Test.YtlipjfcbjemicaaGreatDoorRows
import Derived.Maps.RangeRun
import Derived.Test.YtlipjfcbjemicaaGreatDoorMmogppjjb
import Derived.Test.YtlipjfcbjemicaaGreatDoorMmobppmkb
import Derived.Test.YtlipjfcbjemicaaGreatDoorMmflabinf
set_option linter.defProp false
set_option linter.unusedSimpArgs false
set_option linter.unusedVariables false
set_option maxRecDepth 20000
open Go.Proofs.Tryz (prog)
namespace Go.Proofs.YtlipjfcbjemicaaGreatDoor
variable{A:Nat->Prop}{C:World->Prop}{K:VWP}{L:List Eng.Ent}{M:Eng.Mem}{P:Program}{PK:PKT}{U U2:TypeId}{W w w' w0:World}{a way:Int}{b cap fb i j m most p rb sz tb:Nat}{c v v' v2:Value}{cb:Array Bool}{cl l near:List Nat}{cs news xs:List Value}{q:Bool}{xo yo:Operand}{α:Type}
section
open Eng
def H8(t0 w)(K:KT):=nz Tryz.f273 1 [] [] [] (zg [0] [t0]) w K
theorem Jj{t0 w K}(h:H8 t0 w K):Calls prog 273 #[t0] w K:=cw Tryz.func273 h
def lZ(t0 t1 w)(K:KT):=nz Tryz.f340 1 [] [] [] (zg [0,1] [t0,t1]) w K
theorem oP{t0 t1 w K}(h:lZ t0 t1 w K):Calls prog 340 #[t0,t1] w K:=cw Tryz.func340 h
def mA(t0 t1 w)(K:KT):=nz Tryz.f349 1 [] [] [] (zg [0,1] [t0,t1]) w K
theorem nK{t0 t1 w K}(h:mA t0 t1 w K):Calls prog 349 #[t0,t1] w K:=cw Tryz.func349 h
def pJ(t5 w)(K:KT):=nz Tryz.f355 15 [] [] [] (zg [5] [t5]) w K
def uB(t0 t1 w)(K:KT):=nz Tryz.f355 1 [] [(12,[],fun s v j w f=>pJ (s 5) w K)] [(1,18)] (zg [0,1] [t0,t1]) w K
theorem Ba{t0 t1 w K}(h:uB t0 t1 w K):Calls prog 355 #[t0,t1] w K:=cz [(6,[])] [] Tryz.func355 h
def oU(t8 w)(K:KT):=nz Tryz.f346 63 [] [] [] (zg [8] [t8]) w K
def nV(t8 t35 w)(N1:JT)(K:KT):=nz Tryz.f346 983 [N1] [nh 15 [8,35]] [] (zg [8,35] [t8,t35]) w K
def nX(t0 t1 t2 t8 t34 t35 w)(N1:JT)(K:KT):=nz Tryz.f346 87 [N1] [nh 15 [8,35],(26,[8],fun s v j w f=>nV (vg v 0) (s 35) w (f 0) K),(32,[],fun s v j w f=>oU (s 8) w K)] [] (zg [0,1,2,8,34,35] [t0,t1,t2,t8,t34,t35]) w K
def rW(t0 t1 t2 w)(K:KT):=nz Tryz.f346 1 [] [(15,[8,35],fun s v j w f=>nX (s 0) (s 1) (s 2) (vg v 0) (s 34) (vg v 1) w (f 0) K)] [] (zg [0,1,2] [t0,t1,t2]) w K
theorem zR{t0 t1 t2 w K}(h:rW t0 t1 t2 w K):Calls prog 346 #[t0,t1,t2] w K:=cz [(13,[8]),(16,[])] [(7,[8,35])] Tryz.func346 h
def vJ(t0 t1 w)(K:KT):=nz Tryz.f332 1 [] [] [] (zg [0,1] [t0,t1]) w K
theorem A3{t0 t1 w K}(h:vJ t0 t1 w K):Calls prog 332 #[t0,t1] w K:=cw Tryz.func332 h
def mQ(t0 w)(K:KT):=nz Tryz.f333 7 [] [] [] (zg [0] [t0]) w K
def pD(t0 w)(K:KT):=nz Tryz.f333 1 [] [(6,[],fun s v j w f=>mQ (s 0) w K)] [] (zg [0] [t0]) w K
theorem xU{t0 w K}(h:pD t0 w K):Calls prog 333 #[t0] w K:=cz [(3,[])] [] Tryz.func333 h
def vB(t0 t1 w)(K:KT):=nz Tryz.f336 1 [] [] [(3,13),(6,17)] (zg [0,1] [t0,t1]) w K
theorem A5{t0 t1 w K}(h:vB t0 t1 w K):Calls prog 336 #[t0,t1] w K:=cw Tryz.func336 h
def wY(t0 w)(K:KT):=nz Tryz.f275 1 [] [] [] (zg [0] [t0]) w K
theorem Bl{t0 w K}(h:wY t0 w K):Calls prog 275 #[t0] w K:=cw Tryz.func275 h
def rY(t0 w)(K:KT):=nz Tryz.f354 1 [] [] [(3,18)] (zg [0] [t0]) w K
theorem zP{t0 w K}(h:rY t0 w K):Calls prog 354 #[t0] w K:=cw Tryz.func354 h
end
section
open Eng Go.RowKit
theorem T8:∀n:Fin 256,bAnd .i64 (n.val:Int) 1=((n.val % 2:Nat):Int):=by decide +kernel
theorem and1 {n:Nat}(h:n < 256):bAnd .i64 (n:Int) 1=((n % 2:Nat):Int):=T8 ⟨n,h⟩
theorem Xt {v:Nat}(hv:v < 2 ^ i)(hb:b < 2)(hi:i<=30):bOr .i64 (v:Int) ((b*2 ^ i:Nat):Int)=((v+b*2 ^ i:Nat):Int):=by
 have hp:2 ^ i<=2 ^ 30:=aiY dc hi;have h30:(2:Nat) ^ 30=1073741824:=dc
 have hbi:b*2 ^ i<=2 ^ 30:=by
  have:b*2 ^ i<=1*2 ^ i:=aiO _ om;omega
 have e:v ||| b*2 ^ i=v+b*2 ^ i:=by
  have:=apG hv b;rw[Nat.or_comm,akE b,<-this,amQ]
 unfold bOr;show IntKind.wrap .i64 (((BitVec.ofInt 64 (v:Int) ||| BitVec.ofInt 64 ((b*2 ^ i:Nat):Int)).toNat:Nat):Int)=_;rw[BitVec.ofInt_natCast,BitVec.ofInt_natCast,BitVec.toNat_or,BitVec.toNat_ofNat,BitVec.toNat_ofNat,aiU om,aiU om,e];exact aA om om
theorem Md (a n:Nat):((a:Nat):Int).fdiv (2 ^ n)=((a / 2 ^ n:Nat):Int):=by
 rw[apC _ (by exact Int.pow_nonneg dc)]
 push_cast
 rfl
def bqC (s:List UInt8)(way:Int)(p:Nat):List Value:=[.int .i64 way,.int .i64 ((p % 8:Nat):Int),.string ⟨s.toArray⟩,.int .i64 ((p / 8:Nat):Int)]
def bqE (b:Nat)(s:List UInt8)(way:Int)(p:Nat):Ent:=.cells b (bqC s way p) 317
theorem Tb:fOff prog 317 0=some 0:=krx
theorem OI:fOff prog 317 1=some 2:=krx
theorem IQ:fOff prog 317 2=some 3:=krx
theorem Ze:fOff prog 315 0=some 0:=krx
theorem Wq:fOff prog 315 1=some 1:=krx
theorem szSd:(Tryz.prog.info? 315).map (·.size)=some 2:=krx
theorem S9:eF prog 9=true:=krx
section
variable {w:World}{PK:PKT}{K:VWP}{S:Nat->Prop}{w0:World}{L:List Ent}
theorem Az {off:Nat}:DoX prog (mFA 317 (.pointer (some ⟨b,off,none⟩)) 0) w PK K=K (.pointer (some ⟨b,off,none⟩)) w:=aK Tb
theorem Ea {off:Nat}:DoX prog (mFA 317 (.pointer (some ⟨b,off,none⟩)) 2) w PK K=K (.pointer (some ⟨b,off+3,none⟩)) w:=aK IQ
theorem IB {off:Nat}:DoX prog (mFA 315 (.pointer (some ⟨b,off,none⟩)) 0) w PK K=K (.pointer (some ⟨b,off,none⟩)) w:=aK Ze
theorem rR {off:Nat}:DoX prog (mFA 315 (.pointer (some ⟨b,off,none⟩)) 1) w PK K=K (.pointer (some ⟨b,off+1,none⟩)) w:=aK Wq
theorem MJ (ho:OwnS S w0 w L)(j:Nat){s:List UInt8}(hi:L[j]?=some (bqE b s way p)):DoX prog (aI 3 (.pointer (some ⟨b,0+1,none⟩))) w PK K=K (.int .i64 ((p % 8:Nat):Int)) w:=aO cI (ho.cell j hi 1 rfl)
theorem aaE (ho:OwnS S w0 w L)(j:Nat){s:List UInt8}(hi:L[j]?=some (bqE b s way p)):DoX prog (aI 3 (.pointer (some ⟨b,0+3,none⟩))) w PK K=K (.int .i64 ((p / 8:Nat):Int)) w:=aO cI (ho.cell j hi 3 rfl)
end
section
variable {W:World}{b:Nat}{s:List UInt8}{way:Int}{p:Nat}
theorem DJ (h:(bqE b s way p).is W):(aI 3 (.pointer (some ⟨b,0+1,none⟩))).run prog W=.ok (.value (.int .i64 ((p % 8:Nat):Int))) W:=aB cI (aG (T:=317) (cs:=bqC s way p) h rfl)
theorem I5 (h:(bqE b s way p).is W):(aI 9 (.pointer (some ⟨b,0+2,none⟩))).run prog W=.ok (.value (.string ⟨s.toArray⟩)) W:=aB S9 (aG (T:=317) (cs:=bqC s way p) h rfl)
theorem tN (h:(bqE b s way p).is W):(aI 3 (.pointer (some ⟨b,0+3,none⟩))).run prog W=.ok (.value (.int .i64 ((p / 8:Nat):Int))) W:=aB cI (aG (T:=317) (cs:=bqC s way p) h rfl)
theorem PI (h:(bqE b s way p).is W):Ret prog 349 #[.pointer (some ⟨b,0,none⟩),.int .i64 1] W (fun v w'=>v=.int .i64 ((p % 8:Nat):Int)∧Below W.heap.size W w'):=by
 refine aP fun K hK=>nK ?_;unfold mA nz;simp only[rs,agY,aV];rw[rR];refine aE (DJ h) |>.mpr ?_;exact hK _ _ ⟨rfl,(Own.start W).done⟩
theorem P9 (h:(bqE b s way p).is W)(hw:way=0∨way=1):Ret prog 340 #[.pointer (some ⟨b,0,none⟩),.int .i64 1] W (fun v w'=>v=.bool false∧Below W.heap.size W w'):=by
 refine aP fun K hK=>oP ?_;unfold lZ nz;have r:=aB (P:=prog) (T:=3) cI (aG (T:=317) (cs:=bqC s way p) h (i:=0) rfl);rw[aV,IB];refine aE r |>.mpr ?_;rcases hw with rfl|rfl
 ·simp only[rs,ne_eq,not_true,agX,g_un];exact hK _ _ ⟨rfl,(Own.start W).done⟩
 ·simp only[rs,show decide ((1:Int)≠0)=true by decide,aV];rw[IB];refine aE r |>.mpr ?_;simp only[rs,ne_eq,not_true,agX];exact hK _ _ ⟨rfl,(Own.start W).done⟩
end
def rqE (b:Nat)(s:List UInt8)(way u a:Int):Ent:=.cells b [.int .i64 way,.int .i64 u,.string ⟨s.toArray⟩,.int .i64 a] 317
section
variable {w:World}{PK:PKT}{K:VWP}{S:Nat->Prop}{w0:World}{L:List Ent}
theorem XO (ho:OwnS S w0 w L)(j:Nat){s:List UInt8}{u:Int}(hi:L[j]?=some (rqE b s way u a)):DoX prog (aI 3 (.pointer (some ⟨b,0+1,none⟩))) w PK K=K (.int .i64 u) w:=aO cI (ho.cell j hi 1 rfl)
theorem agP (ho:OwnS S w0 w L)(j:Nat){s:List UInt8}{u:Int}(hi:L[j]?=some (rqE b s way u a)):DoX prog (aI 3 (.pointer (some ⟨b,0+3,none⟩))) w PK K=K (.int .i64 a) w:=aO cI (ho.cell j hi 3 rfl)
theorem Rf (j:Nat){s:List UInt8}{u u':Int}(ho:OwnS S w0 w L)(hi:L[j]?=some (rqE b s way u a))(k:∀w',OwnS S w0 w' (L.set j (rqE b s way u' a))->K undef w'):DoX prog (aS 3 (.pointer (some ⟨b,0+1,none⟩)) (.int .i64 u')) w PK K:=aN j ho hi krx rfl (by show 0+1 < 4;omega) k
theorem LV (j:Nat){s:List UInt8}{u a':Int}(ho:OwnS S w0 w L)(hi:L[j]?=some (rqE b s way u a))(k:∀w',OwnS S w0 w' (L.set j (rqE b s way u a'))->K undef w'):DoX prog (aS 3 (.pointer (some ⟨b,0+3,none⟩)) (.int .i64 a')) w PK K:=aN j ho hi krx rfl (by show 0+3 < 4;omega) k
theorem YP (j:Nat){s:List UInt8}{u way':Int}(ho:OwnS S w0 w L)(hi:L[j]?=some (rqE b s way u a))(k:∀w',OwnS S w0 w' (L.set j (rqE b s way' u a))->K undef w'):DoX prog (aS 3 (.pointer (some ⟨b,0,none⟩)) (.int .i64 way')) w PK K:=aN j ho hi krx rfl (by show 0 < 4;omega) k
theorem agB {s:List UInt8}(j:Nat)(ho:OwnS S w0 w L)(hj:L[j]?=some (bqE b s way p))(hp:p < 8*s.length)(hs:s.length<=1000000000)
  (k:∀W,OwnS S w0 W (L.set j (bqE b s way (p+1)))->K (.int .i64 (Fl.bit s p)) W):CallX prog 355 #[.pointer (some ⟨b,0,none⟩),.int .i64 1] w PK K:=by
 have hjl:j < L.length:=(ahQ.1 hj).1;refine fH (Ba (K:=RetK fun v W=>v=.int .i64 (Fl.bit s p)∧OwnS S w0 W (L.set j (bqE b s way (p+1)))) ?_) (fun e W ⟨v,he,hv,ho⟩=>by subst he;subst hv;exact k W ho);unfold uB nz;have hi:p / 8 < s.length:=om
 refine eB (fun W=>OwnS S w0 W L) ho.drew ?_;refine q_do _ (fun _=>cM) (q_do _ (fun _=>bY OI) (q_at _ (fun W h=>I5 (h.at_ j hj)) ?_));refine q_do _ (fun _=>cM) (q_do _ (fun _=>bY IQ) (q_at _ (fun W h=>tN (h.at_ j hj)) ?_));refine q_ix ahF om (by rw[ahI,ahH hi]) ?_;refine q_do _ (fun _=>bO krx aiX) ?_;have hc:=(s[p / 8]).toNat_lt;rw[aA om om];refine q_do _ (fun _=>cM) (q_do _ (fun _=>bY Tb) ?_);refine uO (.int .i64 ((p % 8:Nat):Int)) (fun W h=>(PI (h.at_ j hj)).mono fun v w' r=>⟨r.1,h.grow r.2⟩) ?_;refine q_do _ (fun _=>UE om) ?_;rw[show min ((p % 8:Nat):Int).toNat IntKind.i64.bits=p % 8 by show min ((p % 8:Nat):Int).toNat 64=p % 8;omega,Md];refine q_do _ (fun _=>TZ) ?_;have hdv:s[p / 8].toNat / 2 ^ (p % 8)<=s[p / 8].toNat:=amA _ _;rw[and1 om];have hbit:s[p / 8].toNat / 2 ^ (p % 8) % 2=Fl.bit s p:=by
  unfold Fl.bit;rw[ahC,ahH hi];rfl
 rw[hbit];intro w2 ho;refine join fun J hJ=>?_;have fin:∀W,OwnS S w0 W (L.set j (bqE b s way (p+1)))->J [] W:=by
  intro W ho;refine hJ _ _ fun _=>?_;unfold pJ nz;exact retK ⟨rfl,ho⟩
 rw[aV,Az,rR,MJ ho j hj];simp only[rs,aV];rw[Az,rR,aA om om];refine Rf j ho hj fun w3 ho=>?_;have hj3:(L.set j (rqE b s way (((p % 8:Nat):Int)+1) ((p / 8:Nat):Int)))[j]?=some (rqE b s way (((p % 8:Nat):Int)+1) ((p / 8:Nat):Int)):=by rw[akP hjl]
 rw[Az,rR,XO ho j hj3];simp only[rs,aV];by_cases h8:((p % 8:Nat):Int)+1=8
 ·simp only[h8,agY,i_t,rs,aV];rw[Az,rR];refine Rf j ho hj3 fun w4 ho=>?_;rw[anF] at ho;have hj4:(L.set j (rqE b s way 0 ((p / 8:Nat):Int)))[j]?=some (rqE b s way 0 ((p / 8:Nat):Int)):=by rw[akP hjl]
  rw[Ea,agP ho j hj4];simp only[rs,aV];rw[Ea,aA om om];refine LV j ho hj4 fun w5 ho=>?_;rw[anF] at ho;refine fin w5 ?_;have e:rqE b s way 0 (((p / 8:Nat):Int)+1)=bqE b s way (p+1):=by
   unfold rqE bqE bqC;rw[show (p+1) % 8=0 by omega,show (p+1) / 8=p / 8+1 by omega];rfl
  rw[<-e];exact ho
 ·simp only[h8,agX,i_f];refine fin w3 ?_;have e:rqE b s way (((p % 8:Nat):Int)+1) ((p / 8:Nat):Int)=bqE b s way (p+1):=by
   unfold rqE bqE bqC;rw[show (p+1) % 8=p % 8+1 by omega,show (p+1) / 8=p / 8 by omega];rfl
  rw[<-e];exact ho
theorem Dx :DoX prog (mEq .eql 275 xo yo (.pointer (some ⟨b,0,none⟩)) (.pointer none)) w PK K=K (.bool false) w:=aE krx
theorem RT {s:List UInt8}(h:(bqE b s way p).is W)(hp:p<=8*s.length)(hs:s.length<=1000000000):Ret prog 354 #[.pointer (some ⟨b,0,none⟩)] W (fun v w'=>v=.int .i64 ((8*s.length - p:Nat):Int)∧Below W.heap.size W w'):=by
 refine aP fun K hK=>zP ?_;unfold rY nz;rw[Dx,i_f];have ho:OwnS (bqE b s way p).blk W W [bqE b s way p]:=OwnS.lend h;refine eB (fun w'=>(bqE b s way p).is w'∧Below W.heap.size W w') ⟨?_,?_⟩ ?_
 ·exact ho.drew.at_ 0 rfl
 ·exact (Own.start W).drew.done
 refine q_do _ (fun _=>cM) (q_do _ (fun _=>bY OI) (q_at _ (fun W h=>I5 h.1) (O9 ahF ?_)));refine q_do _ (fun _=>cM) (q_do _ (fun _=>bY IQ) (q_at _ (fun W h=>tN h.1) (q_do _ (fun _=>E9) ?_)));rw[aA om om];refine q_do _ (fun _=>aaZ) ?_;rw[aA om om];refine q_do _ (fun _=>cM) (q_do _ (fun _=>bY Tb) (q_do _ (fun _=>bY Wq) (q_at _ (fun W h=>DJ h.1) (q_do _ (fun _=>E9) ?_))));rw[aA om om];intro w' hw;refine hK _ _ ⟨?_,hw.2⟩
 congr 1
 omega
theorem Fy {L:List α}{e:α}(h:L[j]?=some e):L.set j e=L:=by
 refine List.ext_getElem? fun i=>?_;by_cases hi:i=j
 ·subst hi;rw[akP (ahQ.1 h).1,h]
 ·rw[anW (Ne.symm hi)]
theorem ZK {s:List UInt8}{n:Nat}(j:Nat)(ho:OwnS S w0 w L)(hj:L[j]?=some (bqE b s way p))(hw:way=0∨way=1)(hp:p<=8*s.length)(hn:n<=24)(hs:s.length<=1000000000)
  (k1:p+n<=8*s.length->∀W,OwnS S w0 W (L.set j (bqE b s (if 0 < n then 1 else way) (p+n)))->K (.tuple #[.int .i64 (Fl.num s p n),.int .i64 0]) W)
  (k2:8*s.length < p+n->∀W,OwnS S w0 W L->K (.tuple #[.int .i64 0,.int .i64 4]) W):CallX prog 346 #[.pointer (some ⟨b,0,none⟩),.int .i64 (n:Int),.int .i64 1] w PK K:=by
 have hjl:j < L.length:=(ahQ.1 hj).1;refine fH (zR (K:=RetK fun v W=>(p+n<=8*s.length∧v=.tuple #[.int .i64 (Fl.num s p n),.int .i64 0]∧OwnS S w0 W (L.set j (bqE b s (if 0 < n then 1 else way) (p+n))))∨(8*s.length < p+n∧v=.tuple #[.int .i64 0,.int .i64 4]∧OwnS S w0 W L)) ?_) (fun e W ⟨v,he,hv⟩=>by
  subst he;rcases hv with ⟨h1,rfl,ho⟩|⟨h1,rfl,ho⟩
  ·exact k1 h1 W ho
  ·exact k2 h1 W ho)
 unfold rW nz;rw[Dx];simp only[rs,show decide ((n:Int) < 0)=false from ahA om,show decide ((24:Int) < (n:Int))=false from ahA om,aV];rw[Az];refine aL ho (R:=fun v=>v=.bool false) (P9 (ho.at_ j hj) hw) ?_;rintro _ w2 rfl ho;simp only[rs];refine aL ho (R:=fun v=>v=.int .i64 ((8*s.length - p:Nat):Int)) (RT (ho.at_ j hj) hp hs) ?_;rintro _ w3 rfl ho;simp only[rs];by_cases hend:((8*s.length - p:Nat):Int) < (n:Int)
 ·simp only[hend,agY,i_t];exact retK (.inr ⟨om,rfl,ho⟩)
 simp only[hend,agX,i_f];refine loop (fun vs W=>∃i:Nat,vs=[.int .i64 (Fl.num s p i),.int .i64 i]∧i<=n∧OwnS S w0 W (L.set j (bqE b s way (p+i)))) (fun vs _=>n - n1 vs) ⟨0,rfl,om,by rw[aiZ,Fy hj];exact ho⟩ ?_;clear ho;rintro vs w4 ⟨i,rfl,hi,ho⟩ _;simp only[nX,gd,rs,nz];have hji:(L.set j (bqE b s way (p+i)))[j]?=some (bqE b s way (p+i)):=by rw[akP hjl]
 by_cases hlt:(i:Int) < (n:Int)
 ·simp only[hlt,agY,i_t];refine join fun J hJ=>?_;refine agB j ho hji om hs fun w5 ho=>?_;rw[anF] at ho
  try simp only[rs,agY]
  rw[CU om];have hb:=Fl.Ry s (p+i);have hv:=Fl.wX s p i;have hpw:2 ^ i<=2 ^ 24:=aiY dc om;have h24:(2:Nat) ^ 24=16777216:=dc
  have hbi:Fl.bit s (p+i)*2 ^ i<=2 ^ 24:=by
   have:Fl.bit s (p+i)*2 ^ i<=1*2 ^ i:=aiO _ om;omega
  rw[show min ((i:Nat):Int).toNat IntKind.i64.bits=i by show min ((i:Nat):Int).toNat 64=i;omega];rw[show ((Fl.bit s (p+i):Nat):Int)*2 ^ i=((Fl.bit s (p+i)*2 ^ i:Nat):Int) by push_cast;rfl];rw[aA om om,b_or,Xt hv hb om];refine hJ _ _ fun _=>?_;simp only[nV,gd,rs,nz];rw[aA om om];exact aY ⟨i+1,by rw[Fl.num];rfl,om,ho⟩ (by simp[n1,RowKit.intOf];omega)
 ·simp only[hlt,agX,i_f];have hin:i=n:=om
  subst hin;refine join fun J hJ=>?_;have fin:∀W,OwnS S w0 W (L.set j (bqE b s (if 0 < i then 1 else way) (p+i)))->J [] W:=by
   intro W ho;refine hJ _ _ fun _=>?_;simp only[oU,nz];exact retK (.inl ⟨om,rfl,ho⟩)
  by_cases h0:0 < i
  ·rw[agW h0] at fin;simp only[show decide ((0:Int) < (i:Int))=true from ahB om,rs,aV];rw[Az,IB];refine YP (way':=1) j ho hji fun w5 ho=>?_;rw[anF] at ho;exact fin w5 ho
  ·rw[agV h0] at fin;simp only[show decide ((0:Int) < (i:Int))=false from ahA om,rs];exact fin w4 ho
theorem ZB {s:List UInt8}{n:Nat}(j:Nat)(ho:OwnS S w0 w L)(hj:L[j]?=some (bqE b s way p))(hw:way=0∨way=1)(hp:p<=8*s.length)(hn:n<=24)(hs:s.length<=1000000000)
  (k1:p+n<=8*s.length->∀W,OwnS S w0 W (L.set j (bqE b s (if 0 < n then 1 else way) (p+n)))->K (.tuple #[.int .i64 (Fl.num s p n),.int .i64 0]) W)
  (k2:8*s.length < p+n->∀W,OwnS S w0 W L->K (.tuple #[.int .i64 0,.int .i64 4]) W):CallX prog 332 #[.pointer (some ⟨b,0,none⟩),.int .i64 (n:Int)] w PK K:=by
 refine fH (A3 (K:=RetK fun v W=>(p+n<=8*s.length∧v=.tuple #[.int .i64 (Fl.num s p n),.int .i64 0]∧OwnS S w0 W (L.set j (bqE b s (if 0 < n then 1 else way) (p+n))))∨(8*s.length < p+n∧v=.tuple #[.int .i64 0,.int .i64 4]∧OwnS S w0 W L)) ?_) (fun e W ⟨v,he,hv⟩=>by
  subst he;rcases hv with ⟨h1,rfl,ho⟩|⟨h1,rfl,ho⟩
  ·exact k1 h1 W ho
  ·exact k2 h1 W ho)
 unfold vJ nz;refine ZK j ho hj hw hp hn hs (fun h1 W ho=>?_) (fun h1 W ho=>?_)
 ·simp only[ex];exact retK (.inl ⟨h1,rfl,ho⟩)
 ·simp only[ex];exact retK (.inr ⟨h1,rfl,ho⟩)
end
end
section
open Eng
def qS(t0 t1 w)(K:KT):=nz Tryz.f272 1 [] [] [] (zg [0,1] [t0,t1]) w K
theorem sE{t0 t1 w K}(h:qS t0 t1 w K):Calls prog 272 #[t0,t1] w K:=cw Tryz.func272 h
def pN(t0 t1 w)(K:KT):=nz Tryz.f331 1 [] [] [] (zg [0,1] [t0,t1]) w K
theorem zA{t0 t1 w K}(h:pN t0 t1 w K):Calls prog 331 #[t0,t1] w K:=cw Tryz.func331 h
def lH(t0 t1 w)(K:KT):=nz Tryz.f335 1 [] [] [] (zg [0,1] [t0,t1]) w K
theorem qZ{t0 t1 w K}(h:lH t0 t1 w K):Calls prog 335 #[t0,t1] w K:=cw Tryz.func335 h
def eN(t0 t1 w)(K:KT):=nz Tryz.f338 1 [] [] [] (zg [0,1] [t0,t1]) w K
theorem iG{t0 t1 w K}(h:eN t0 t1 w K):Calls prog 338 #[t0,t1] w K:=cw Tryz.func338 h
def mU(t0 t1 w)(K:KT):=nz Tryz.f305 1 [] [] [] (zg [0,1] [t0,t1]) w K
theorem tM{t0 t1 w K}(h:mU t0 t1 w K):Calls prog 305 #[t0,t1] w K:=cw Tryz.func305 h
def mY(t0 t1 w)(K:KT):=nz Tryz.f334 1 [] [] [(0,12)] (zg [0,1] [t0,t1]) w K
theorem sU{t0 t1 w K}(h:mY t0 t1 w K):Calls prog 334 #[t0,t1] w K:=cw Tryz.func334 h
def kI(a w)(K:KT):=
 nlx a w K fun d w=>fax 278 d 0 w K fun e w=>ldx 275 e w K fun f w=>cx 333 #[f] w K fun v w=>cx 305 #[a,(iN 16)] w K fun b w=>cx 305 #[a,(iN 16)] w K fun g w=>bnx .sub 3 (iN 65535) b w K fun h w=>eqx .eql 3 (.tmp 11) (.tmp 13) g h w K fun i w=>cx 272 #[i,(iN 3)] w K fun x w=>cx 334 #[a,b] w K fun y w=>HeldX w (fun S1 w=>HDo prog (fun _=>True) (mNil a) fun j=>HDo prog (fun _=>True) (mFA 278 j 1) fun k=>HDo prog S1 (aI 53 k) fun l=>HDo prog (fun _=>True) (mNil a) fun m=>HDo prog (fun _=>True) (mFA 278 m 0) fun n=>HDo prog S1 (aI 275 n) fun o=>CallX prog 336 #[o,b] w (pm1 (pm1 (pm1 (pm1 (pm1 (pm1 (pm1 (pm1 (pm1 (pm1 (pm1 (pm1 (pm1 (pm1 (pk K))))))))))))))) fun c w=>S1 w∧(HDo prog (fun _=>True) (mExt c 0) fun p=>HDo prog (fun _=>True) (mExt c 1) fun q=>CallX prog 335 #[p,q] w (pm1 (pm1 (pm1 (pm1 (pm1 (pm1 (pm1 (pm1 (pm1 (pm1 (pm1 (pm1 (pm1 (pm1 (pk K))))))))))))))) fun r w=>S1 w∧(DoX prog (mB .append #[53,9] 53 #[false,false] #[l,r]) w (pm1 (pm1 (pm1 (pm1 (pm1 (pm1 (pm1 (pm1 (pm1 (pm1 (pm1 (pm1 (pm1 (pm1 (pk K))))))))))))))) fun s w=>S1 w∧(HDo prog (fun _=>True) (mNil a) fun t=>HDo prog (fun _=>True) (mFA 278 t 1) fun u=>DoX prog (aS 53 u s) w (pm1 (pm1 (pm1 (pm1 (pm1 (pm1 (pm1 (pm1 (pm1 (pm1 (pm1 (pm1 (pm1 (pm1 (pk K))))))))))))))) fun _ w=>(K (.returned (.tuple #[])) w)))))
theorem qM{t0 w K}(h:kI t0 w K):Calls prog 306 #[t0] w K:=cw Tryz.func306 h
def lO(t0 w)(K:KT):=nz Tryz.f307 1 [] [] [] (zg [0] [t0]) w K
theorem rZ{t0 w K}(h:lO t0 w K):Calls prog 307 #[t0] w K:=cw Tryz.func307 h
def iD(a b i e j k c w)(N1:JT)(K:KT):=
 bnx .lss 3 c k w K fun l w=>IfX l (iax 123 j c w K fun m w=>ldx 3 m w K fun n w=>cx 305 #[a,(iN 3)] w K fun o w=>iax 308 e n w K fun p w=>stx 3 p o w K fun _ w=>bnx .add 3 c (iN 1) w K fun q w=>N1 [q] w) (slx 308 e none none none w K fun r w=>cx 295 #[r] w K fun f w=>exx f 0 w K fun s w=>exx f 1 w K fun t w=>cx 338 #[s,t] w K fun u w=>bnx .add 3 b i w K fun v w=>cx 339 #[a,u,v] w K fun d w=>iax 123 d (iN 256) w K fun x w=>ldx 3 x w K fun y w=>bnx .gtr 3 y (iN 0) w K fun z w=>cx 272 #[z,(iN 13)] w K fun L w=>HeldX w (fun S2 w=>HDo prog S2 (dB 123 d none (some b) none) fun A=>HDo prog S2 (dB 123 d (some b) none none) fun B=>CallX prog 295 #[A] w (pm1 (pm1 (pm1 (pm1 (pm1 (pm1 (pm1 (pm1 (pm1 (pm1 (pm1 (pk K)))))))))))) fun g w=>S2 w∧(HDo prog S2 (mExt g 0) fun C=>HDo prog S2 (mExt g 1) fun D=>CallX prog 338 #[C,D] w (pm1 (pm1 (pm1 (pm1 (pm1 (pm1 (pm1 (pm1 (pm1 (pm1 (pm1 (pk K)))))))))))) fun F w=>S2 w∧(CallX prog 295 #[B] w (pm1 (pm1 (pm1 (pm1 (pm1 (pm1 (pm1 (pm1 (pm1 (pm1 (pm1 (pk K)))))))))))) fun h w=>S2 w∧(HDo prog S2 (mExt h 0) fun G=>HDo prog S2 (mExt h 1) fun H=>CallX prog 338 #[G,H] w (pm1 (pm1 (pm1 (pm1 (pm1 (pm1 (pm1 (pm1 (pm1 (pm1 (pm1 (pk K)))))))))))) fun I w=>S2 w∧(CallX prog 337 #[a,F,I] w (pm1 (pm1 (pm1 (pm1 (pm1 (pm1 (pm1 (pm1 (pm1 (pm1 (pm1 (pk K)))))))))))) fun M w=>S2 w∧(K (.returned (.tuple #[])) w)))))))
def jH(t0 w)(K:KT):=nz Tryz.f308 1 [] [(13,[25],fun s v j w f=>iD (s 0) (s 2) (s 3) (s 4) (s 23) (s 24) (vg v 0) w (f 0) K)] [] (zg [0] [t0]) w K
theorem pC{t0 w K}(h:jH t0 w K):Calls prog 308 #[t0] w K:=cz [] [(6,[25])] Tryz.func308 h
def iA(d e a b f w)(N1:JT)(K:KT):=
 HeldX w (fun S3 w=>HDo prog S3 (mFA 363 b 0) fun g=>HDo prog S3 (aI 3 g) fun h=>HDo prog S3 (mFA 363 b 1) fun i=>HDo prog S3 (aI 3 i) fun j=>CallX prog 305 #[d,j] w (pm1 (pm1 (pm1 (pm1 (pm1 (pm1 (pm1 (pk K)))))))) fun k w=>S3 w∧(HDo prog S3 (mBin .add 3 h k) fun c=>lnx 123 a w K fun l w=>bnx .add 3 l c w K fun m w=>bnx .leq 3 m e w K fun n w=>cx 272 #[n,(iN 3)] w K fun r w=>dx (bN 123 1 #[(0,f)]) w K fun o w=>cx 320 #[o,c] w K fun p w=>apx 123 a p w K fun q w=>N1 [q] w))
def iH(t0 t1 t2 t7 w)(N1:JT)(K:KT):=nz Tryz.f339 19 [N1] [nh 5 [7],(22,[11],fun s v j w f=>iA (s 0) (s 2) (s 7) (s 9) (vg v 0) w (f 0) K)] [] (zg [0,1,2,7] [t0,t1,t2,t7]) w K
def jN(t0 t1 t2 w)(K:KT):=nz Tryz.f339 1 [] [(5,[7],fun s v j w f=>iH (s 0) (s 1) (s 2) (vg v 0) w (f 0) K)] [] (zg [0,1,2] [t0,t1,t2]) w K
theorem oX{t0 t1 t2 w K}(h:jN t0 t1 t2 w K):Calls prog 339 #[t0,t1,t2] w K:=cz [(11,[11])] [(2,[7])] Tryz.func339 h
def jO(t0 t1 t2 w)(N1:JT)(K:KT):=nz Tryz.f337 2 [N1] [nh 1 []] [] (zg [0,1,2] [t0,t1,t2]) w K
def kY(t0 t1 t2 w)(K:KT):=nz Tryz.f337 1 [] [(1,[],fun s v j w f=>jO (s 0) (s 1) (s 2) w (f 0) K)] [] (zg [0,1,2] [t0,t1,t2]) w K
theorem sD{t0 t1 t2 w K}(h:kY t0 t1 t2 w K):Calls prog 337 #[t0,t1,t2] w K:=cz [] [(0,[])] Tryz.func337 h
def iM(a c d b w)(N1:JT)(K:KT):=
 bnx .lss 3 b d w K fun e w=>IfX e (HeldX w (fun S2 w=>HDo prog (fun _=>True) (mNil a) fun f=>HDo prog (fun _=>True) (mFA 278 f 1) fun g=>HDo prog S2 (aI 53 g) fun h=>HDo prog (fun _=>True) (mNil a) fun i=>HDo prog (fun _=>True) (mFA 278 i 1) fun j=>HDo prog S2 (aI 53 j) fun k=>HDo prog (fun _=>True) (mNil a) fun l=>HDo prog (fun _=>True) (mFA 278 l 1) fun m=>HDo prog S2 (aI 53 m) fun n=>HDo prog (fun _=>True) (mB .len #[53] 3 #[false] #[n]) fun o=>HDo prog (fun _=>True) (mBin .sub 3 o c) fun p=>HDo prog (fun _=>True) (mIA 53 k p) fun q=>HDo prog S2 (aI 5 q) fun r=>DoX prog (bN 53 1 #[(0,r)]) w (pm1 (pm1 (pm1 (pm1 (pm1 (pm1 (pm1 (pm1 (pm1 (pm1 (pm1 (pm1 (pm1 (pm1 (pm1 (pm1 (pm1 (pm1 (pm1 (pm1 (pk K))))))))))))))))))))) fun s w=>S2 w∧(DoX prog (mB .append #[53,53] 53 #[false,false] #[h,s]) w (pm1 (pm1 (pm1 (pm1 (pm1 (pm1 (pm1 (pm1 (pm1 (pm1 (pm1 (pm1 (pm1 (pm1 (pm1 (pm1 (pm1 (pm1 (pm1 (pm1 (pk K))))))))))))))))))))) fun t w=>S2 w∧(HDo prog (fun _=>True) (mNil a) fun u=>HDo prog (fun _=>True) (mFA 278 u 1) fun v=>DoX prog (aS 53 v t) w (pm1 (pm1 (pm1 (pm1 (pm1 (pm1 (pm1 (pm1 (pm1 (pm1 (pm1 (pm1 (pm1 (pm1 (pm1 (pm1 (pm1 (pm1 (pm1 (pm1 (pk K))))))))))))))))))))) fun _ w=>(bnx .add 3 b (iN 1) w K fun x w=>N1 [x] w))))) (K (.returned (.tuple #[])) w)
def jZ(t0 t1 t2 w)(K:KT):=nz Tryz.f348 1 [] [(17,[57],fun s v j w f=>iM (s 0) (s 8) (s 56) (vg v 0) w (f 0) K)] [] (zg [0,1,2] [t0,t1,t2]) w K
theorem qU{t0 t1 t2 w K}(h:jZ t0 t1 t2 w K):Calls prog 348 #[t0,t1,t2] w K:=cz [] [(8,[57])] Tryz.func348 h
def jK(t3 w)(K:KT):=nz Tryz.f274 15 [] [] [] (zg [3] [t3]) w K
def lE(t0 w)(K:KT):=nz Tryz.f274 1 [] [(20,[],fun s v j w f=>jK (s 3) w K)] [] (zg [0] [t0]) w K
theorem rO{t0 w K}(h:lE t0 w K):Calls prog 274 #[t0] w K:=cz [(10,[])] [] Tryz.func274 h
def Ao(t0 t1 w)(K:KT):=nz Tryz.f356 1 [] [] [] (zg [0,1] [t0,t1]) w K
theorem D4{t0 t1 w K}(h:Ao t0 t1 w K):Calls prog 356 #[t0,t1] w K:=cw Tryz.func356 h
def Ah(t0 w)(K:KT):=nz Tryz.f357 1 [] [] [] (zg [0] [t0]) w K
theorem DP{t0 w K}(h:Ah t0 w K):Calls prog 357 #[t0] w K:=cw Tryz.func357 h
def BI(t0 t1 w)(K:KT):=nz Tryz.f358 1 [] [] [] (zg [0,1] [t0,t1]) w K
theorem EZ{t0 t1 w K}(h:BI t0 t1 w K):Calls prog 358 #[t0,t1] w K:=cw Tryz.func358 h
def BB(t0 w)(K:KT):=nz Tryz.f359 1 [] [] [] (zg [0] [t0]) w K
theorem ER{t0 w K}(h:BB t0 w K):Calls prog 359 #[t0] w K:=cw Tryz.func359 h
def pX(t0 t1 t2 t6 t8 t9 w)(N1:JT)(K:KT):=nz Tryz.f364 21 [N1] [nh 5 [1,9]] [] (zg [0,1,2,6,8,9] [t0,t1,t2,t6,t8,t9]) w K
def uA(t0 t1 t2 w)(K:KT):=nz Tryz.f364 1 [] [(5,[1,9],fun s v j w f=>pX (s 0) (vg v 0) (s 2) (s 6) (s 8) (vg v 1) w (f 0) K)] [] (zg [0,1,2] [t0,t1,t2]) w K
theorem Bc{t0 t1 t2 w K}(h:uA t0 t1 t2 w K):Calls prog 364 #[t0,t1,t2] w K:=cz [] [(2,[1,9])] Tryz.func364 h
def nJ(t0 t1 w)(K:KT):=nz Tryz.f363 1 [] [] [] (zg [0,1] [t0,t1]) w K
theorem vZ{t0 t1 w K}(h:nJ t0 t1 w K):Calls prog 363 #[t0,t1] w K:=cw Tryz.func363 h
def sI(t0 t8 t9 w)(N1:JT)(K:KT):=nz Tryz.f294 21 [N1] [nh 5 [0,9]] [] (zg [0,8,9] [t0,t8,t9]) w K
def wW(w)(K:KT):=nz Tryz.f294 1 [] [(5,[0,9],fun s v j w f=>sI (vg v 0) (s 8) (vg v 1) w (f 0) K)] [] (zg [] []) w K
theorem BA{w K}(h:wW w K):Calls prog 294 #[] w K:=cz [] [(2,[0,9])] Tryz.func294 h
end
section
open Eng Go.RowKit
theorem nfI:kT prog 273=true:=krx
def upI (e:Int):PanicEntry:={ v:=.iface 273 (.agg #[.int .i64 e]),recovered:=false }
theorem Yi (e:Int)(w:World):Ret prog 272 #[.bool true,.int .i64 e] w (fun v w'=>v=.tuple #[]∧w=w'):=by
 refine aP fun K hK=>sE ?_;unfold qS nz;simp only[rs,aiQ,i_f];exact hK _ _ ⟨rfl,rfl⟩
theorem Xo (e:Int)(w:World):Pan prog 272 #[.bool false,.int .i64 e] w (fun c w'=>c=[upI e]∧w=w'):=by
 refine RG fun K hK=>sE ?_;unfold qS nz;simp only[rs,aiR,i_t];have hb:∀{PK:PKT} {K:VWP},DoX prog (aZ 273 #[(0,.int .i64 e)]) w PK K=K (.agg #[.int .i64 e]) w:=aE krx;rw[hb,I3 nfI,Gu];exact hK _ _ ⟨rfl,rfl⟩
section
variable {w:World}{PK:PKT}{K:VWP}{S:Nat->Prop}{w0:World}{L:List Ent}
theorem iJ {e:Int}(kt:q=true->K (.tuple #[]) w)(kf:q=false->PK [upI e] w):CallX prog 272 #[.bool q,.int .i64 e] w PK K:=by
 cases q with
|true=>exact c_eq (Yi e w) (kt rfl)
|false=>exact XJ (Xo e w) fun c w' ⟨hc,hw⟩=>by subst hc;subst hw;exact kf rfl
theorem tS {n e:Int}(kr:e=0->K (.int .i64 n) w)(kp:e≠0->PK [upI e] w):CallX prog 331 #[.int .i64 n,.int .i64 e] w PK K:=by
 refine⟨zA ?_⟩;unfold pN nz;simp only[rs];exact iJ (fun h=>kr (ahO h)) fun h=>kp (aiK h)
theorem Nt {s:List UInt8}{e:Int}(kr:e=0->K (.string ⟨s.toArray⟩) w)(kp:e≠0->PK [upI e] w):CallX prog 335 #[.string ⟨s.toArray⟩,.int .i64 e] w PK K:=by
 refine⟨qZ ?_⟩;unfold lH nz;simp only[rs];exact iJ (fun h=>kr (ahO h)) fun h=>kp (aiK h)
theorem Yp {s:List UInt8}(j:Nat)(ho:OwnS S w0 w L)(hj:L[j]?=some (bqE b s way p))(hp:p<=8*s.length)(hs:s.length<=1000000000)
  (k:∀W,OwnS S w0 W (L.set j (bqE b s 0 ((p+7) / 8*8)))->K (.tuple #[]) W):CallX prog 333 #[.pointer (some ⟨b,0,none⟩)] w PK K:=by
 have hjl:j < L.length:=(ahQ.1 hj).1;refine fH (xU (K:=RetK fun v W=>v=.tuple #[]∧OwnS S w0 W (L.set j (bqE b s 0 ((p+7) / 8*8)))) ?_) (fun e W ⟨v,he,hv,ho⟩=>by subst he;subst hv;exact k W ho);unfold pD nz;rw[Dx,i_f];refine join fun J hJ=>?_;have fin:∀(W:World) (u a:Int),a=(((p+7) / 8:Nat):Int)->OwnS S w0 W (L.set j (rqE b s way u a))->J [] W:=by
  intro W u a ha ho;refine hJ _ _ fun _=>?_;unfold mQ nz;have hj2:(L.set j (rqE b s way u a))[j]?=some (rqE b s way u a):=by rw[akP hjl]
  have mb:∀{PK:PKT} {K:VWP},DoX prog (aZ 315 #[]) W PK K=K (.agg #[.int .i64 0,.int .i64 0]) W:=aE krx;rw[mb,aV,Az];refine D1 j ho hj2 (new:=[.int .i64 0,.int .i64 0]) szSd dc (by show 0+2<=4;omega) fun w2 ho=>?_;rw[anF] at ho;refine retK ⟨rfl,?_⟩;subst ha;have e:bqE b s 0 ((p+7) / 8*8)=rqE b s 0 0 (((p+7) / 8:Nat):Int):=by
   unfold rqE bqE bqC;rw[show (p+7) / 8*8 % 8=0 by omega,show (p+7) / 8*8 / 8=(p+7) / 8 by omega];rfl
  rw[e];exact ho
 rw[aV,Az,rR,MJ ho j hj];simp only[rs,aV];by_cases h0:(0:Int) < ((p % 8:Nat):Int)
 ·simp only[h0,agY,i_t,rs,aV];rw[Ea,aaE ho j hj];simp only[rs,aV];rw[Ea,aA om om];refine LV (a':=((p / 8:Nat):Int)+1) j ho hj fun w3 ho=>?_;exact fin w3 _ _ om ho
 ·simp only[h0,agX,i_f];refine fin w ((p % 8:Nat):Int) ((p / 8:Nat):Int) om ?_;rw[show rqE b s way ((p % 8:Nat):Int) ((p / 8:Nat):Int)=bqE b s way p from rfl,Fy hj];exact ho
theorem adT {s:List UInt8}{n:Nat}(j:Nat)(ho:OwnS S w0 w L)(hj:L[j]?=some (bqE b s way p))(h8:p % 8=0)(hp:p<=8*s.length)(hn:n<=1000000000)(hs:s.length<=1000000000)
  (k1:p+8*n<=8*s.length->∀W,OwnS S w0 W (L.set j (bqE b s way (p+8*n)))->K (.tuple #[.string ⟨((s.drop (p / 8)).take n).toArray⟩,.int .i64 0]) W)
  (k2:8*s.length < p+8*n->∀W,OwnS S w0 W L->K (.tuple #[.string ⟨#[]⟩,.int .i64 4]) W):CallX prog 336 #[.pointer (some ⟨b,0,none⟩),.int .i64 (n:Int)] w PK K:=by
 have hjl:j < L.length:=(ahQ.1 hj).1;refine fH (A5 (K:=RetK fun v W=>(p+8*n<=8*s.length∧v=.tuple #[.string ⟨((s.drop (p / 8)).take n).toArray⟩,.int .i64 0]∧OwnS S w0 W (L.set j (bqE b s way (p+8*n))))∨(8*s.length < p+8*n∧v=.tuple #[.string ⟨#[]⟩,.int .i64 4]∧OwnS S w0 W L)) ?_) (fun e W ⟨v,he,hv⟩=>by
  subst he;rcases hv with ⟨h1,rfl,ho⟩|⟨h1,rfl,ho⟩
  ·exact k1 h1 W ho
  ·exact k2 h1 W ho)
 unfold vB nz;rw[Dx];simp only[rs,show decide ((n:Int) < 0)=false from ahA om,aV];rw[Az,rR,MJ ho j hj,h8];simp only[rs,show decide ((0:Int) < ((0:Nat):Int))=false from rfl];refine eB (fun W=>OwnS S w0 W L) ho.drew ?_;refine q_do _ (fun _=>cM) (q_do _ (fun _=>bY OI) (q_at _ (fun W h=>I5 (h.at_ j hj)) (O9 ahF ?_)));refine q_do _ (fun _=>cM) (q_do _ (fun _=>bY IQ) (q_at _ (fun W h=>tN (h.at_ j hj)) (q_do _ (fun _=>E9) ?_)));rw[aA om om];refine XL ?_;intro w2 ho;by_cases hend:(s.length:Int) - ((p / 8:Nat):Int) < (n:Int)
 ·simp only[hend,agY,i_t];exact retK (.inr ⟨om,rfl,ho⟩)
 simp only[hend,agX,i_f,rs,aV];rw[Ea,aaE ho j hj];simp only[rs,aV];rw[Ea,aA om om];refine LV (a':=((p / 8:Nat):Int)+n) j ho hj fun w3 ho=>?_;have e:rqE b s way ((p % 8:Nat):Int) (((p / 8:Nat):Int)+n)=bqE b s way (p+8*n):=by
  unfold rqE bqE bqC;rw[show (p+8*n) % 8=p % 8 by omega,show (p+8*n) / 8=p / 8+n by omega];rfl
 rw[e] at ho;have hj2:(L.set j (bqE b s way (p+8*n)))[j]?=some (bqE b s way (p+8*n)):=by rw[akP hjl]
 refine eB (fun W=>OwnS S w0 W (L.set j (bqE b s way (p+8*n)))) ho.drew ?_;refine q_do _ (fun _=>cM) (q_do _ (fun _=>bY OI) (q_at _ (fun W h=>I5 (h.at_ j hj2)) ?_));refine q_do _ (fun _=>cM) (q_do _ (fun _=>bY IQ) (q_at _ (fun W h=>tN (h.at_ j hj2)) (q_do _ (fun _=>E9) ?_)));rw[show (p+8*n) / 8=p / 8+n by omega,aA om om];refine q_do _ (fun _=>cM) (q_do _ (fun _=>bY IQ) (q_at _ (fun W h=>tN (h.at_ j hj2)) ?_));rw[show (p+8*n) / 8=p / 8+n by omega];refine q_do _ (fun _=>sW ahF om om om) ?_;intro w4 ho;refine retK (.inl ⟨om,?_,ho⟩);rw[show (((p / 8+n:Nat):Int) - (n:Int)).toNat=p / 8 by omega,show ((p / 8+n:Nat):Int).toNat - p / 8=n by omega]
theorem Yg {s:List UInt8}(h:(bqE b s way p).is W)(hp:p<=8*s.length)(hs:s.length<=1000000000):Ret prog 275 #[.pointer (some ⟨b,0,none⟩)] W (fun v w'=>v=.int .i64 (((p+7) / 8:Nat):Int)∧Below W.heap.size W w'):=by
 refine aP fun K hK=>Bl ?_;unfold wY nz;rw[Dx,i_f,aV,Az,rR];refine aE (DJ h) |>.mpr ?_;simp only[rs,aV];by_cases h0:(0:Int) < ((p % 8:Nat):Int)
 ·simp only[h0,agY,i_t,rs,aV];rw[Ea];refine aE (tN h) |>.mpr ?_;simp only[rs];rw[aA om om];exact hK _ _ ⟨by congr 1;omega,(Own.start W).done⟩
 ·simp only[h0,agX,i_f,rs,aV];rw[Ea];refine aE (tN h) |>.mpr ?_;exact hK _ _ ⟨by congr 1;omega,(Own.start W).done⟩
end
end
section
open Eng
def uQ(t8 w)(N1:JT)(K:KT):=nz Tryz.f323 491 [N1] [nh 7 [8]] [] (zg [8] [t8]) w K
def uF(t2 t3 t6 t7 t8 w)(N1:JT)(K:KT):=nz Tryz.f323 43 [N1] [nh 7 [8],(14,[],fun s v j w f=>uQ (s 8) w (f 0) K)] [] (zg [2,3,6,7,8] [t2,t3,t6,t7,t8]) w K
def AB(t0 w)(K:KT):=nz Tryz.f323 1 [] [(7,[8],fun s v j w f=>uF (s 2) (s 3) (s 6) (s 7) (vg v 0) w (f 0) K)] [] (zg [0] [t0]) w K
theorem DH{t0 w K}(h:AB t0 w K):Calls prog 323 #[t0] w K:=cz [(7,[])] [(3,[8])] Tryz.func323 h
def Ai(t5 t6 t7 t8 w)(N2:JT)(K:KT):=nz Tryz.f342 351 [N2] [nh 25 [6,7,8]] [] (zg [5,6,7,8] [t5,t6,t7,t8]) w K
def AM(t0 t12 t13 t14 w)(N1:JT)(K:KT):=nz Tryz.f342 43 [N1] [nh 9 [14],(25,[6,7,8],fun s v j w f=>Ai (s 5) (vg v 0) (vg v 1) (vg v 2) w (f 0) K)] [] (zg [0,12,13,14] [t0,t12,t13,t14]) w K
def EA(t0 w)(K:KT):=nz Tryz.f342 1 [] [(9,[14],fun s v j w f=>AM (s 0) (s 12) (s 13) (vg v 0) w (f 0) K)] [] (zg [0] [t0]) w K
theorem GB{t0 w K}(h:EA t0 w K):Calls prog 342 #[t0] w K:=cz [] [(4,[14]),(12,[6,7,8])] Tryz.func342 h
def yC(t1 t2 t3 t4 w)(N1:JT)(K:KT):=nz Tryz.f324 43 [N1] [nh 7 [4]] [(5,11)] (zg [1,2,3,4] [t1,t2,t3,t4]) w K
def C9(t0 w)(K:KT):=nz Tryz.f324 1 [] [(7,[4],fun s v j w f=>yC (s 1) (s 2) (s 3) (vg v 0) w (f 0) K)] [] (zg [0] [t0]) w K
theorem E2{t0 w K}(h:C9 t0 w K):Calls prog 324 #[t0] w K:=cz [] [(3,[4])] Tryz.func324 h
def AJ(t22 w)(N1:JT)(K:KT):=nz Tryz.f321 1967 [N1] [nh 15 [22]] [] (zg [22] [t22]) w K
def AA(t5 t6 t20 t21 t22 w)(N1:JT)(K:KT):=nz Tryz.f321 175 [N1] [nh 15 [22],(24,[],fun s v j w f=>AJ (s 22) w (f 0) K)] [] (zg [5,6,20,21,22] [t5,t6,t20,t21,t22]) w K
def Ec(t0 w)(K:KT):=nz Tryz.f321 1 [] [(15,[22],fun s v j w f=>AA (s 5) (s 6) (s 20) (s 21) (vg v 0) w (f 0) K)] [] (zg [0] [t0]) w K
theorem G9{t0 w K}(h:Ec t0 w K):Calls prog 321 #[t0] w K:=cz [(12,[])] [(7,[22])] Tryz.func321 h
def xY(t39 w)(N2:JT)(K:KT):=nz Tryz.f295 62815 [nj,N2] [nh 15 [7],nh 21 [39]] [] (zg [39] [t39]) w K
def yM(t6 t7 t37 t38 t39 w)(N1 N2:JT)(K:KT):=nz Tryz.f295 5471 [N1,N2] [nh 15 [7],nh 21 [39],(28,[],fun s v j w f=>xY (s 39) w (f 0) K)] [] (zg [6,7,37,38,39] [t6,t7,t37,t38,t39]) w K
def yQ(t0 t6 t7 w)(N1:JT)(K:KT):=nz Tryz.f295 351 [N1] [nh 15 [7],(21,[39],fun s v j w f=>yM (s 6) (s 7) (s 37) (s 38) (vg v 0) w (f 1) (f 0) K)] [] (zg [0,6,7] [t0,t6,t7]) w K
def D3(t0 w)(K:KT):=nz Tryz.f295 1 [] [(15,[7],fun s v j w f=>yQ (s 0) (s 6) (vg v 0) w (f 0) K)] [] (zg [0] [t0]) w K
theorem Bz{t0 w K}(h:D3 t0 w K):Calls prog 295 #[t0] w K:=cz [(14,[])] [(7,[7]),(10,[39])] Tryz.func295 h
def nU(t0 t1 t6 t7 t8 w)(N1:JT)(K:KT):=nz Tryz.f347 175 [N1] [nh 13 [6,7,8]] [] (zg [0,1,6,7,8] [t0,t1,t6,t7,t8]) w K
def sB(t0 t1 w)(K:KT):=nz Tryz.f347 1 [] [(13,[6,7,8],fun s v j w f=>nU (s 0) (s 1) (vg v 0) (vg v 1) (vg v 2) w (f 0) K)] [] (zg [0,1] [t0,t1]) w K
theorem zY{t0 t1 w K}(h:sB t0 t1 w K):Calls prog 347 #[t0,t1] w K:=cz [] [(6,[6,7,8])] Tryz.func347 h
end
section
open Eng Go.RowKit
def nsC (f:Nat->Int):List Value:=[.int .i64 (f 0),.int .i64 (f 1),.int .i64 (f 2),.int .i64 (f 3),.int .i64 (f 4),.int .i64 (f 5),.int .i64 (f 6),.int .i64 (f 7),.int .i64 (f 8),.int .i64 (f 9),.int .i64 (f 10),.int .i64 (f 11),.int .i64 (f 12),.int .i64 (f 13),.int .i64 (f 14),.int .i64 (f 15)]
def nsV (f:Nat->Int):Value:=.agg (nsC f).toArray
def nsE (b:Nat)(f:Nat->Int):Ent:=.cells b (nsC f) 334
theorem TD (f:Nat->Int):∀v∈nsC f,v.oneCell'=true:=by
 intro v hv;simp only[nsC,ahG,ajH,or_false] at hv;rcases hv with rfl|rfl|rfl|rfl|rfl|rfl|rfl|rfl|rfl|rfl|rfl|rfl|rfl|rfl|rfl|rfl<;>rfl
theorem lt16 (hi:i < 16):i=0∨i=1∨i=2∨i=3∨i=4∨i=5∨i=6∨i=7∨i=8∨i=9∨i=10∨i=11∨i=12∨i=13∨i=14∨i=15:=om
theorem FV (f:Nat->Int)(hi:i < 16):(nsC f)[i]?=some (.int .i64 (f i)):=by
 rcases lt16 hi with rfl|rfl|rfl|rfl|rfl|rfl|rfl|rfl|rfl|rfl|rfl|rfl|rfl|rfl|rfl|rfl<;>rfl
theorem Ys (f:Nat->Int)(x:Int)(hi:i < 16):(nsC f).set i (.int .i64 x)=nsC (fun j=>if j=i then x else f j):=by
 rcases lt16 hi with rfl|rfl|rfl|rfl|rfl|rfl|rfl|rfl|rfl|rfl|rfl|rfl|rfl|rfl|rfl|rfl<;>rfl
theorem Yk:aggN prog 334=some 16:=krx
theorem szNs:(Tryz.prog.info? 334).map (·.size)=some 16:=krx
section
variable {w:World}{PK:PKT}{K:VWP}{S:Nat->Prop}{w0:World}{L:List Ent}
theorem Fq {off:Nat}(hi:i < 16):(mIA 334 (.pointer (some ⟨b,off,none⟩)) (.int .i64 (i:Int))).run prog W=.ok (.value (.pointer (some ⟨b,off+i,none⟩))) W:=by
 rcases lt16 hi with rfl|rfl|rfl|rfl|rfl|rfl|rfl|rfl|rfl|rfl|rfl|rfl|rfl|rfl|rfl|rfl<;>kernel_rfl
theorem Gy {off:Nat}(hi:i < 16):DoX prog (mIA 334 (.pointer (some ⟨b,off,none⟩)) (.int .i64 (i:Int))) w PK K=K (.pointer (some ⟨b,off+i,none⟩)) w:=aE (Fq hi)
theorem Qs (ho:OwnS S w0 w L)(k:∀b w',OwnS S w0 w' (nsE b (fun _=>0)::L)->K (.pointer (some ⟨b,0,none⟩)) w'):DoX prog (Da 334) w PK K:=
 bC (fun b=>.pointer (some ⟨b,0,none⟩)) (nsC fun _=>0) 334 (fun _=>by kernel_rfl) ho k
theorem aeJ (f:Nat->Int)(ho:OwnS S w0 w L)(k:∀b w',OwnS S w0 w' (nsE b f::L)->K (.pointer (some ⟨b,0,none⟩)) w'):DoX prog (mBox 334 (nsV f)) w PK K:=
 bC (fun b=>.pointer (some ⟨b,0,none⟩)) (nsC f) 334 (fun _=>by kernel_rfl) ho k
theorem Ik (ho:OwnS S w0 w L)(j:Nat){f:Nat->Int}(hi:L[j]?=some (nsE b f))(hi16:i < 16):DoX prog (aI 3 (.pointer (some ⟨b,0+i,none⟩))) w PK K=K (.int .i64 (f i)) w:=aO cI (ho.cell j hi (0+i) (by rw[ahJ];exact FV f hi16))
theorem RY (j:Nat){f:Nat->Int}{x:Int}(hi16:i < 16)(ho:OwnS S w0 w L)(hi:L[j]?=some (nsE b f))(k:∀w',OwnS S w0 w' (L.set j (nsE b (fun m=>if m=i then x else f m)))->K undef w') :
  DoX prog (aS 3 (.pointer (some ⟨b,0+i,none⟩)) (.int .i64 x)) w PK K:=aN j ho hi krx rfl (by show 0+i < 16;omega) fun w' ho=>k w' (by
   unfold nsE;rw[<-Ys f x hi16,<-ahJ i];rw[ahJ i] at ho ⊢;simpa using ho)
theorem ns_v (ho:OwnS S w0 w L)(j:Nat){f:Nat->Int}(hi:L[j]?=some (nsE b f)):DoX prog (aI 334 (.pointer (some ⟨b,0,none⟩))) w PK K=K (nsV f) w:=l_at (ho.agg j hi Yk)
theorem M8 (j:Nat){f f':Nat->Int}(ho:OwnS S w0 w L)(hi:L[j]?=some (nsE b f))(k:∀w',OwnS S w0 w' (L.set j (nsE b f'))->K undef w') :
  DoX prog (aS 334 (.pointer (some ⟨b,0,none⟩)) (nsV f')) w PK K:=iE j ho hi (new:=nsC f') szNs (TD f') rfl k
theorem Ww {K:Ending->World->Prop}{f:Nat->Int}(i:Nat)(ho:OwnS S w0 w L)(hi:L[i]?=some (nsE b f))(k:K (.returned (nsV f)) w):RetX prog [.cell (.pointer (some ⟨b,0,none⟩)) 334] w K:=
 iW (bH (ho.agg i hi Yk)) k
end
def cnt (lens:List Nat):Nat->Int:=fun i=>if i=0 then 0 else ((lens.count i:Nat):Int)
def aR (l:List Nat):List Value:=l.map fun n=>.int .i64 ((n:Nat):Int)
theorem mD (hs:Sl w v 1 l.length (aR l))(hi:i < l.length) :
  ∃b off,(∀W,(mIA 123 v (.int .i64 (i:Int))).run prog W=.ok (.value (.pointer (some ⟨b,off,none⟩))) W)∧w.cell? ⟨b,off,none⟩=some (.int .i64 ((l[i]:Nat):Int)):=by
 obtain⟨b,off,cap,rfl,hc⟩:=cB hs om;refine⟨b,off+i,fun W=>?_,hc i _ (by simp[aR,hi])⟩;have:=eE (P:=prog) (T:=123) (b:=b) (off:=off) (cap:=cap) (n:=l.length) (k:=.i64) (i:=(i:Int)) (w:=W) ahS (show _=some 1 by kernel_rfl) om om;rw[ahI,ahZ] at this;exact this
theorem tZ (lens:List Nat)(v:Value)(M:Mem)(w:World)(h15:∀l∈lens,l<=15)(hl:lens.length<=100000)(hM:M.has w)(hs:SlA M.A M.w v 1 lens.length (aR lens)) :
  RetM prog 323 #[v] M w (fun r _=>r=nsV (cnt lens)):=by
 refine aT hM fun K hK=>DH ?_;unfold AB nz;refine Qs (OwnS.memS hM) fun b2 w1 ho=>?_;refine Qs ho fun b3 w2 ho=>?_;rw[bB ahS (hs.now (ho.hasM 2 rfl))];refine loop (fun vs W=>∃i:Nat,vs=[.int .i64 i]∧i<=lens.length∧OwnS M.A w W [nsE b3 (cnt (lens.take i)),nsE b2 (fun _=>0),.mem M]) (fun vs _=>lens.length - n0 vs) ⟨0,rfl,om,?_⟩ ?_
 ·have e:cnt (lens.take 0)=fun _=>0:=by funext i;simp[cnt]
  rw[e];exact ho
 clear ho;rintro vs w3 ⟨i,rfl,hi,ho⟩ _;simp only[uF,gd,rs,nz];by_cases hlt:(i:Int) < (lens.length:Int)
 ·have hi':i < lens.length:=om
  simp only[hlt,agY,i_t];refine join fun J hJ=>?_;obtain⟨b,off,r1,r2⟩:=mD (hs.now (ho.hasM 2 rfl)) hi';have hl15:=h15 _ (ahP hi');refine aE (r1 w3) |>.mpr (aE (aB cI r2) |>.mpr ?_);have htk:lens.take (i+1)=lens.take i++[lens[i]]:=by rw[aiG hi']
  have fin:∀W,OwnS M.A w W [nsE b3 (cnt (lens.take (i+1))),nsE b2 (fun _=>0),.mem M]->J [] W:=by
   intro W ho;refine hJ _ _ fun _=>?_;simp only[uQ,gd,rs,nz];rw[aA om om];exact aY ⟨i+1,rfl,om,ho⟩ (by simp[n0,RowKit.intOf];omega)
  simp only[rs];by_cases h0:(0:Int) < ((lens[i]:Nat):Int)
  ·simp only[h0,agY,i_t];rw[Gy om,Ik ho 0 rfl om];simp only[rs];rw[Gy om];have hc0:(lens.take i).count lens[i]<=100000:=by
    have:=alZ (a:=lens[i]) (l:=lens.take i);rw[ahE] at this;omega
   have hcv:cnt (lens.take i) lens[i]=(((lens.take i).count lens[i]:Nat):Int):=by unfold cnt;rw[agV om]
   rw[hcv,aA om om];refine RY 0 om ho rfl fun w4 ho=>fin w4 ?_;have e:(fun m=>if m=lens[i] then (((lens.take i).count lens[i]:Nat):Int)+1 else cnt (lens.take i) m)=cnt (lens.take (i+1)):=by
    funext m
    unfold cnt;rw[htk,alE,anX];by_cases hm:m=lens[i]
    ·subst hm;rw[agW rfl,agV om];simp
    ·rw[agV hm];by_cases hm0:m=0
     ·rw[agW hm0,agW hm0]
     ·rw[agV hm0,agV hm0];have:(lens[i]==m)=false:=by simp;exact fun h=>hm h.symm
      rw[this];simp
   rw[<-e];exact ho
  ·simp only[h0,agX,i_f];refine fin w3 ?_;have e:cnt (lens.take (i+1))=cnt (lens.take i):=by
    funext m
    unfold cnt;rw[htk,alE,anX];by_cases hm0:m=0
    ·rw[agW hm0,agW hm0]
    ·rw[agV hm0,agV hm0];have:(lens[i]==m)=false:=by simp;omega
     rw[this];simp
   rw[e];exact ho
 ·simp only[hlt,agX,i_f];have hie:i=lens.length:=om
  subst hie;rw[ajG] at ho;rw[ns_v ho 0 rfl];refine M8 1 ho rfl fun w4 ho=>?_;exact Ww 1 ho rfl (hK _ _ M _ 2 ho rfl M.le_refl rfl)
theorem Ds (lens:List Nat)(M:Mem)(w:World)(hl:lens.length<=100000)(hM:M.has w) :
  RetM prog 324 #[nsV (cnt lens)] M w (fun r _=>r=nsV (fun i=>((Fl.first lens (if i<=15 then i else 0):Nat):Int))):=by
 refine aT hM fun K hK=>E2 ?_;unfold C9 nz;refine aeJ (cnt lens) (OwnS.memS hM) fun b1 w1 ho=>?_;refine Qs ho fun b2 w2 ho=>?_;refine Qs ho fun b3 w3 ho=>?_;refine loop (fun vs W=>∃l:Nat,vs=[.int .i64 l]∧1<=l∧l<=15∧OwnS M.A w W [nsE b3 (fun i=>((Fl.first lens (if i<=l then i else 0):Nat):Int)),nsE b2 (fun _=>0),nsE b1 (cnt lens),.mem M]) (fun vs _=>15 - n0 vs) ⟨1,rfl,om,om,?_⟩ ?_
 ·have e:(fun i=>((Fl.first lens (if i<=1 then i else 0):Nat):Int))=fun _=>0:=by
   funext i
   by_cases h:i<=1
   ·rw[agW h];rcases (by omega:i=0∨i=1) with rfl|rfl<;>rfl
   ·rw[agV h];rfl
  rw[e];exact ho
 clear ho;rintro vs w4 ⟨l,rfl,hl1,hl15,ho⟩ _;simp only[yC,gd,rs,nz];by_cases hlt:(l:Int) < 15
 ·simp only[hlt,agY,i_t];have hfb:=Fl.JH (lens:=lens) l;have hcb:lens.count l<=lens.length:=alZ;have hp:4 ^ l<=4 ^ 15:=aiY dc om;have hp2:(4:Nat) ^ 15=1073741824:=dc
  have hfb2:4 ^ l*lens.length<=1073741824*100000:=akO om hl;have hcl:cnt lens l=((lens.count l:Nat):Int):=by unfold cnt;rw[agV om]
  refine eB (fun W=>OwnS M.A w W [nsE b3 (fun i=>((Fl.first lens (if i<=l then i else 0):Nat):Int)),nsE b2 (fun _=>0),nsE b1 (cnt lens),.mem M]) ho.drew ?_;refine qQ ?_;rw[aA om om];refine q_do _ (fun _=>Fq om) (q_at (.int .i64 (Fl.first lens l)) (fun W h=>aB cI (h.cell 0 rfl (0+l) (by rw[ahJ];refine (FV _ om).trans ?_;rw[agW (ahD l)]))) ?_);refine q_do _ (fun _=>Fq om) (q_at (.int .i64 (lens.count l:Nat)) (fun W h=>aB cI (h.cell 2 rfl (0+l) (by rw[ahJ];refine (FV _ om).trans ?_;rw[hcl]))) ?_);refine qQ ?_;rw[aA om om];refine q_do _ (fun _=>aaZ) ?_;rw[aA om om];rw[show ((l:Nat):Int)+1=((l+1:Nat):Int) by omega];refine q_do _ (fun _=>Fq om) ?_;intro w5 ho;refine RY 0 om ho rfl fun w6 ho=>?_;refine aY ⟨l+1,rfl,om,om,?_⟩ (by simp[n0,RowKit.intOf];omega);have e:(fun m=>if m=l+1 then (2:Int)*(((Fl.first lens l:Nat):Int)+((lens.count l:Nat):Int)) else ((Fl.first lens (if m<=l then m else 0):Nat):Int))=fun i=>((Fl.first lens (if i<=l+1 then i else 0):Nat):Int):=by
   funext m
   by_cases hm:m=l+1
   ·subst hm;rw[agW rfl,agW (ahD _)];obtain⟨k,rfl⟩:∃k,l=k+1:=⟨l - 1,om⟩;rw[Fl.first];push_cast;rfl
   ·rw[agV hm];by_cases hml:m<=l
    ·rw[agW hml,agW om]
    ·rw[agV hml,agV om]
  rw[<-e];exact ho
 ·simp only[hlt,agX,i_f];have:l=15:=om
  subst this;rw[ns_v ho 0 rfl];refine M8 1 ho rfl fun w4 ho=>?_;exact Ww 1 ho rfl (hK _ _ M _ 3 ho rfl M.le_refl rfl)
end
section
open Eng Go.RowKit
def Fl.chk (lens:List Nat):Int:=if 288 < lens.length then 6 else Fl.check lens
theorem Pf (lens:List Nat)(v:Value)(M:Mem)(w:World)(h15:∀l∈lens,l<=15)(hl:lens.length<=100000)(hM:M.has w)(hs:SlA M.A M.w v 1 lens.length (aR lens)) :
  RetM prog 342 #[v] M w (fun r _=>r=.int .i64 (Fl.chk lens)):=by
 refine aT hM fun K hK=>GB ?_;unfold EA nz;have ho:OwnS M.A w w [.mem M]:=OwnS.memS hM;rw[bB ahS (hs.now hM)];simp only[rs];by_cases h288:(288:Int) < (lens.length:Int)
 ·simp only[h288,agY,i_t];exact hK _ _ M _ 0 ho rfl M.le_refl (by unfold Fl.chk;rw[agW om])
 have hc:Fl.chk lens=Fl.check lens:=by unfold Fl.chk;rw[agV om]
 simp only[h288,agX,i_f];rw[bB ahS (hs.now hM)];refine loop (fun vs W=>∃i:Nat,vs=[.int .i64 i]∧i<=lens.length∧OwnS M.A w W [.mem M]) (fun vs _=>lens.length - n0 vs) ⟨0,rfl,om,ho⟩ ?_;clear ho;rintro vs w2 ⟨i,rfl,hi,ho⟩ _;simp only[AM,gd,rs,nz];by_cases hlt:(i:Int) < (lens.length:Int)
 ·have hi':i < lens.length:=om
  simp only[hlt,agY,i_t];obtain⟨b,off,r1,r2⟩:=mD (hs.now (ho.hasM 0 rfl)) hi';have hl15:=h15 _ (ahP hi');refine aE (r1 w2) |>.mpr (aE (aB cI r2) |>.mpr ?_);simp only[rs,show decide (((lens[i]:Nat):Int) < 0)=false from ahA om,show decide ((15:Int) < ((lens[i]:Nat):Int))=false from ahA om];rw[aA om om];exact aY ⟨i+1,rfl,om,ho⟩ (by simp[n0,RowKit.intOf];omega)
 simp only[hlt,agX,i_f];refine bF ho 0 rfl (tZ lens v M w2 h15 hl (ho.hasM 0 rfl) hs) ?_;rintro _ N w3 hle rfl ho;refine Qs ho fun b5 w4 ho=>?_;refine M8 0 ho rfl fun w5 ho=>?_;have ho:OwnS M.A w w5 [nsE b5 (cnt lens),.mem N]:=ho;refine loop (fun vs W=>∃l:Nat,vs=[.int .i64 (Fl.gB lens l),.int .i64 (Fl.aX lens l),.int .i64 ((l+1:Nat):Int)]∧l<=15∧OwnS M.A w W [nsE b5 (cnt lens),.mem N]) (fun vs _=>16 - n2 vs) ⟨0,rfl,om,ho⟩ ?_;clear ho hlt hi;rintro vs w6 ⟨l,rfl,hl15,ho⟩ _;simp only[Ai,gd,rs,nz];have hcn:∀k,k≠0->cnt lens k=((lens.count k:Nat):Int):=fun k h=>by unfold cnt;rw[agV h]
 by_cases hlt:((l+1:Nat):Int)<=15
 ·simp only[hlt,agY,i_t];have hcb:lens.count (l+1)<=lens.length:=alZ;have s1:=Fl.Oj (lens:=lens) (l+1);have s2:=Fl.Gf (lens:=lens) (l+1);have m1:(l+1)*(lens.length*32768)<=16*(100000*32768):=akO om (aiO _ hl);have m2:(l+1)*lens.length<=16*100000:=akO om hl;rw[Fl.gB] at s1;rw[Fl.aX] at s2;rw[Gy om,Ik ho 0 rfl om,hcn _ om]
  try simp only[rs]
  rw[aA om om,CU om];rw[show min ((15:Int) - ((l+1:Nat):Int)).toNat IntKind.i64.bits=15 - (l+1) by show min ((15:Int) - ((l+1:Nat):Int)).toNat 64=15 - (l+1);omega];rw[show ((lens.count (l+1):Nat):Int)*2 ^ (15 - (l+1))=((lens.count (l+1)*2 ^ (15 - (l+1)):Nat):Int) by push_cast;rfl];generalize hq:lens.count (l+1)*2 ^ (15 - (l+1))=q at s1 ⊢;rw[aA om om]
  try simp only[rs]
  rw[aA om om,Gy om,Ik ho 0 rfl om,hcn _ om]
  try simp only[rs]
  rw[aA om om,aA om om];refine aY ⟨l+1,?_,om,ho⟩ (by simp[n2,RowKit.intOf];omega);rw[Fl.gB,Fl.aX,hq];rfl
 ·have hl:l=15:=om
  subst hl;simp only[hlt,agX,i_f];have fin:∀e:Int,e=Fl.check lens->K (.returned (.int .i64 e)) w6:=fun e he=>hK _ _ N _ 1 ho rfl hle (by rw[hc,he]);unfold Fl.check at fin;by_cases a:Fl.gB lens 15=32768
  ·simp only[show decide (((Fl.gB lens 15:Nat):Int)=32768)=true from ahB om,rs,g_un];exact fin 0 (by rw[agW (.inl a)])
  simp only[show decide (((Fl.gB lens 15:Nat):Int)=32768)=false from ahA om,rs];by_cases b:Fl.aX lens 15=0
  ·simp only[show decide (((Fl.aX lens 15:Nat):Int)=0)=true from ahB om,rs,g_un];exact fin 0 (by rw[agW (.inr (.inl b))])
  simp only[show decide (((Fl.aX lens 15:Nat):Int)=0)=false from ahA om,rs];by_cases c:Fl.aX lens 15=1
  ·simp only[show decide (((Fl.aX lens 15:Nat):Int)=1)=true from ahB om,rs];rw[show ((1:Int))=((1:Nat):Int) from rfl,Gy om,Ik ho 0 rfl om,hcn 1 om];by_cases e:lens.count 1=1
   ·simp only[rs,show decide (((lens.count 1:Nat):Int)=((1:Nat):Int))=true from ahB om];exact fin 0 (by rw[agW (.inr (.inr ⟨c,e⟩))])
   ·simp only[rs,show decide (((lens.count 1:Nat):Int)=((1:Nat):Int))=false from ahA om];exact fin 13 (by rw[agV (fun h=>h.elim a fun h=>h.elim b fun h=>e h.2)])
  ·simp only[show decide (((Fl.aX lens 15:Nat):Int)=1)=false from ahA om,rs,g_un];exact fin 13 (by rw[agV (fun h=>h.elim a fun h=>h.elim b fun h=>c h.1)])
end
section
open Eng Go.RowKit
def MN (l:List Int):List Value:=l.map fun n=>.int .i64 n
theorem rF {l:List Int}:∀x∈MN l,x.oneCell'=true:=by
 intro x hx;obtain⟨n,-,rfl⟩:=aiD.1 hx;rfl
theorem Ed:eF prog 123=true:=krx
theorem aeC:elB prog 3 1 8=true:=krx
theorem Ih {K:Value->Prop}{a b:Value}(h:K a):HDo P C (mExt (.tuple #[a,b]) 0) K:=aM a (fun _=>rfl) h
theorem DS {K:Value->Prop}{a b:Value}(h:K b):HDo P C (mExt (.tuple #[a,b]) 1) K:=aM b (fun _=>rfl) h
section
variable {w:World}{PK:PKT}{K:VWP}{S:Nat->Prop}{w0:World}{L:List Ent}
theorem Q4 (ho:OwnS S w0 w L)(k:∀v w',OwnS S w0 w' (.urow 3 1 v 0 []::L)->K v w'):DoX prog (bN 123 0 #[]) w PK K:=
 bC (fun b=>.slice (some ⟨b,0,none⟩) 0 0) [] 3 (fun _=>by kernel_rfl) ho fun b w1 ho=>k _ _ (ho.toU 1 0 0 sm om om)
theorem sX (n:Int)(ho:OwnS S w0 w L)(k:∀b w',OwnS S w0 w' (.cells b (MN [n]) 3::L)->K (.slice (some ⟨b,0,none⟩) 1 1) w'):DoX prog (bN 123 1 #[(0,.int .i64 n)]) w PK K:=
 bC (fun b=>.slice (some ⟨b,0,none⟩) 1 1) (MN [n]) 3 (fun _=>by kernel_rfl) ho k
theorem oB (i:Nat){n:Nat}(ho:OwnS S w0 w L)(hi:L[i]?=some (.urow 3 1 v n xs))(hs:Sl w v2 1 m news)(h1:∀u∈news,u.oneCell'=true)(hb:n+m<=100000000000)
  (k:∀v' w',OwnS S w0 w' (L.set i (.urow 3 1 v' (n+m) (xs++news)))->K v' w'):DoX prog (mB .append #[123,123] 123 cb #[v,v2]) w PK K:=
 cL i ahS aeC dc ho hi hs h1 om om k
end
end
section
open Eng Go.RowKit
theorem NU (n:Nat):(Go.madeCells (Value.int .i64 0).cells (n*1))=(List.replicate n (Value.int .i64 0)).toArray:=by
 unfold Go.madeCells;refine Array.ext sm fun i h1 h2=>?_;have e:(Value.int .i64 0).cells=#[Value.int .i64 0]:=rfl;simp only[Array.getElem_map,List.getElem_toArray,anY,e];simp[Nat.mod_one]
theorem OB:∃i,Tryz.prog.info? 3=some i∧i.zero=some (Value.int .i64 0)∧i.size=1∧i.bytes=8:=⟨_,rfl,krx,krx,krx⟩
section
variable {w:World}{PK:PKT}{K:VWP}{S:Nat->Prop}{w0:World}{L:List Ent}
theorem xQ {n:Nat}(hn:n<=1000000)(ho:OwnS S w0 w L)(k:∀b w',OwnS S w0 w' (.cells b (List.replicate n (.int .i64 0)) 3::L)->K (.slice (some ⟨b,0,none⟩) n n) w') :
  DoX prog (HM 123 (.int .i64 (n:Int)) (.int .i64 (n:Int))) w PK K:=by
 obtain⟨i,hi,hz,h1,h8⟩:=OB;refine bC (fun b=>.slice (some ⟨b,0,none⟩) n n) (List.replicate n (.int .i64 0)) 3 (fun W=>?_) ho k;have:=Go.run_make (P:=prog) W 123 3 i (Value.int .i64 0) ahS hi hz .i64 .i64 (n:Int) (n:Int) om om (by rw[h8];omega) om;rw[h1,ahI,NU] at this;exact bL this
end
def Fl.dL (lens:List Nat)(i:Nat):Nat:=if lens.getD i 0=0 then 0 else Fl.first lens (lens.getD i 0)+(lens.take i).count (lens.getD i 0)
def Fl.Cz (lens:List Nat):List Nat:=(List.range lens.length).map (Fl.dL lens)
theorem Fl.fG (lens:List Nat):(Fl.Cz lens).length=lens.length:=by simp[Fl.Cz]
theorem Fl.LH {lens:List Nat}(hi:i < lens.length):(Fl.Cz lens)[i]?=some (Fl.dL lens i):=by
 simp[Fl.Cz,hi]
def gC (lens:List Nat)(i:Nat):List Value:=aR ((Fl.Cz lens).take i)++List.replicate (lens.length - i) (.int .i64 0)
theorem Ma {lens:List Nat}(hi:i<=lens.length):(gC lens i).length=lens.length:=by
 unfold gC aR;rw[agZ,ahT,ahE,aiE,Fl.fG];omega
theorem GV {lens:List Nat}(hi:i < lens.length):(gC lens i).set i (.int .i64 ((Fl.dL lens i:Nat):Int))=gC lens (i+1):=by
 unfold gC;have hl:(aR ((Fl.Cz lens).take i)).length=i:=by unfold aR;rw[ahT,ahE,Fl.fG];omega
 rw[alF _ _ om,hl,akF];obtain⟨k,hk⟩:∃k,lens.length - i=k+1:=⟨lens.length - i - 1,om⟩;rw[hk,anG,ajX,show lens.length - (i+1)=k by omega];rw[aiG (by rw[Fl.fG];exact hi)];have e:(Fl.Cz lens)[i]'(by rw[Fl.fG];exact hi)=Fl.dL lens i:=by
  have:=Fl.LH hi;rw[ahH (by rw[Fl.fG];exact hi)] at this;exact akJ this
 rw[e];simp[aR]
theorem KW {lens:List Nat}(hi:i < lens.length)(h0:Fl.dL lens i=0):gC lens (i+1)=gC lens i:=by
 rw[<-GV hi,h0];refine Fy ?_;unfold gC;have hl:(aR ((Fl.Cz lens).take i)).length=i:=by unfold aR;rw[ahT,ahE,Fl.fG];omega
 rw[ajO om,hl,akF,anH,agW om];rfl
def nxt (lens:List Nat)(i:Nat):Nat->Int:=fun m=>((Fl.first lens (if m<=15 then m else 0)+(if m=0 then 0 else (lens.take i).count m):Nat):Int)
theorem HR (lens:List Nat)(v:Value)(M:Mem)(w:World)(h15:∀l∈lens,l<=15)(hl:lens.length<=100000)(hM:M.has w)(hs:SlA M.A M.w v 1 lens.length (aR lens)) :
  RetM prog 321 #[v] M w (fun r N=>∃v',r=.tuple #[v',.int .i64 (Fl.chk lens)]∧v'.oneCell'=true∧(Fl.chk lens=0->SlA N.A N.w v' 1 lens.length (aR (Fl.Cz lens)))):=by
 refine aT hM fun K hK=>G9 ?_;unfold Ec nz;have ho:OwnS M.A w w [.mem M]:=OwnS.memS hM;refine aL ho (R:=fun r=>r=.int .i64 (Fl.chk lens)) (RetM.told (Pf lens v M w h15 hl hM hs)) ?_;rintro _ w1 rfl ho;rw[gD];by_cases hc:Fl.chk lens=0
 case neg=>
  simp only[hc,ne_eq,akI,agY,i_t];exact hK _ _ M _ 0 ho rfl M.le_refl ⟨_,rfl,rfl,fun h=>absurd h hc⟩
 simp only[hc,ne_eq,not_true,agX,i_f];refine aL ho (R:=fun r=>r=nsV (cnt lens)) (RetM.told (tZ lens v M w1 h15 hl (ho.hasM 0 rfl) hs)) ?_;rintro _ w2 rfl ho;refine aL ho (R:=fun r=>r=nsV (fun i=>((Fl.first lens (if i<=15 then i else 0):Nat):Int))) (RetM.told (Ds lens M w2 hl (ho.hasM 0 rfl))) ?_;rintro _ w3 rfl ho;refine Qs ho fun b5 w4 ho=>?_;refine M8 0 ho rfl fun w5 ho=>?_;rw[bB ahS (hs.now (ho.hasM 1 rfl))];refine xQ om ho fun b6 w6 ho=>?_;rw[bB ahS (hs.now (ho.hasM 2 rfl))];refine loop (fun vs W=>∃i:Nat,vs=[.int .i64 i]∧i<=lens.length∧OwnS M.A w W [.cells b6 (gC lens i) 3,nsE b5 (nxt lens i),.mem M]) (fun vs _=>lens.length - n0 vs) ⟨0,rfl,om,?_⟩ ?_
 ·have e1:gC lens 0=List.replicate lens.length (.int .i64 0):=by simp[gC,aR]
  have e2:nxt lens 0=fun i=>((Fl.first lens (if i<=15 then i else 0):Nat):Int):=by
   funext m;unfold nxt;simp
  rw[e1,e2];exact ho
 clear ho;rintro vs w7 ⟨i,rfl,hi,ho⟩ _;simp only[AA,gd,rs,nz];by_cases hlt:(i:Int) < (lens.length:Int)
 ·have hi':i < lens.length:=om
  simp only[hlt,agY,i_t];refine join fun J hJ=>?_;obtain⟨b,off,r1,r2⟩:=mD (hs.now (ho.hasM 2 rfl)) hi';have hl15:=h15 _ (ahP hi');have hgd:lens.getD i 0=lens[i]:=by rw[ahC,ahH hi'];rfl
  refine aE (r1 w7) |>.mpr (aE (aB cI r2) |>.mpr ?_);have htk:lens.take (i+1)=lens.take i++[lens[i]]:=by rw[aiG hi']
  have fin:∀W,OwnS M.A w W [.cells b6 (gC lens (i+1)) 3,nsE b5 (nxt lens (i+1)),.mem M]->J [] W:=by
   intro W ho;refine hJ _ _ fun _=>?_;simp only[AJ,gd,rs,nz];rw[aA om om];exact aY ⟨i+1,rfl,om,ho⟩ (by simp[n0,RowKit.intOf];omega)
  simp only[rs];by_cases h0:(0:Int) < ((lens[i]:Nat):Int)
  ·simp only[h0,agY,i_t];have hfb:=Fl.JH (lens:=lens) lens[i];have hp:4 ^ lens[i]<=4 ^ 15:=aiY dc hl15;have hp2:(4:Nat) ^ 15=1073741824:=dc
   have hfb2:4 ^ lens[i]*lens.length<=1073741824*100000:=akO om hl;have hcb:(lens.take i).count lens[i]<=100000:=by
    have:=alZ (a:=lens[i]) (l:=lens.take i);rw[ahE] at this;omega
   have hca:Fl.dL lens i=Fl.first lens lens[i]+(lens.take i).count lens[i]:=by
    unfold Fl.dL;rw[hgd,agV om]
   have hnx:nxt lens i lens[i]=((Fl.dL lens i:Nat):Int):=by
    unfold nxt;rw[agW hl15,agV om,hca]
   rw[Gy om,Ik ho 1 rfl om,hnx];have ria:=eE (P:=prog) (T:=123) (b:=b6) (off:=0) (cap:=lens.length) (n:=lens.length) (k:=.i64) (i:=(i:Int)) (w:=w7) ahS (show _=some 1 by kernel_rfl) om om;refine aE ria |>.mpr ?_;rw[ahI,ahZ,ahJ];refine aN 0 ho rfl krx rfl (by rw[Ma hi];exact hi') fun w8 ho=>?_;rw[GV hi'] at ho;have ho:OwnS M.A w w8 [.cells b6 (gC lens (i+1)) 3,nsE b5 (nxt lens i),.mem M]:=ho;rw[Gy om,Ik ho 1 rfl om,hnx];simp only[rs];rw[Gy om,aA om om];refine RY 1 om ho rfl fun w9 ho=>fin w9 ?_;have e:(fun m=>if m=lens[i] then ((Fl.dL lens i:Nat):Int)+1 else nxt lens i m)=nxt lens (i+1):=by
    funext m
    by_cases hm:m=lens[i]
    ·subst hm;rw[agW rfl];unfold nxt;rw[agW hl15,agV om,htk,alE,anX,hca];simp;omega
    ·rw[agV hm];unfold nxt;rw[htk,alE,anX];have:(lens[i]==m)=false:=by simp;exact fun h=>hm h.symm
     rw[this];simp
   rw[<-e];exact ho
  ·simp only[h0,agX,i_f];have hz:lens[i]=0:=om
   refine fin w7 ?_;have e1:gC lens (i+1)=gC lens i:=KW hi' (by unfold Fl.dL;rw[hgd,agW hz]);have e2:nxt lens (i+1)=nxt lens i:=by
    funext m
    unfold nxt;rw[htk,alE,anX];by_cases hm0:m=0
    ·rw[agW hm0,agW hm0]
    ·rw[agV hm0,agV hm0];have:(lens[i]==m)=false:=by simp;omega
     rw[this];simp
   rw[e1,e2];exact ho
 ·simp only[hlt,agX,i_f];have hie:i=lens.length:=om
  subst hie;have er:gC lens lens.length=aR (Fl.Cz lens):=by
   unfold gC;rw[aiF (by rw[Fl.fG];omega)];simp
  rw[er] at ho;have ho:=OwnS.toU (b:=b6) (cs:=aR (Fl.Cz lens)) (E:=3) ho 1 lens.length lens.length (by unfold aR;rw[ahT,Fl.fG];omega) om om;obtain⟨N,hle,hrow,ho⟩:=OwnS.cG ho 1 rfl;rw[aiF (by unfold aR;rw[ahT,Fl.fG];omega)] at hrow;exact hK _ _ N _ 1 ho rfl hle ⟨_,by rw[hc],rfl,fun _=>hrow⟩
end
section
open Eng
def kE(t0 w)(K:KT):=nz Tryz.f322 1 [] [] [] (zg [0] [t0]) w K
theorem qJ{t0 w K}(h:kE t0 w K):Calls prog 322 #[t0] w K:=cw Tryz.func322 h
def iC(a b w)(N3:JT)(K:KT):=
 lnx 123 a w K fun c w=>bnx .lss 3 b c w K fun d w=>IfX d (QuietX w (fun C4=>QDo prog C4 (dB 123 a (some b) none none) fun e=>QDo prog C4 (dB 123 a none (some b) none) fun f=>
 ∀w,C4 w ->
 DoX prog (mB .copy #[123,123] 3 #[false,false] #[e,f]) w (pm1 (pm1 (pm1 (pm1 (pm1 (pk K)))))) fun g w=>DoX prog (mBin .add 3 b g) w (pm1 (pm1 (pm1 (pm1 (pm1 (pk K)))))) fun h w=>N3 [h] w)) (K (.returned a) w)
def iB(t0 t6 w)(K:KT):=nz Tryz.f320 31 [] [(17,[8],fun s v j w f=>iC (s 7) (vg v 0) w (f 0) K)] [] (zg [0,6] [t0,t6]) w K
def iF(t0 t1 w)(K:KT):=nz Tryz.f320 7 [] [(12,[],fun s v j w f=>iB (s 0) (s 6) w K)] [] (zg [0,1] [t0,t1]) w K
def jL(t0 t1 w)(K:KT):=nz Tryz.f320 1 [] [(6,[],fun s v j w f=>iF (s 0) (s 1) w K)] [] (zg [0,1] [t0,t1]) w K
theorem oW{t0 t1 w K}(h:jL t0 t1 w K):Calls prog 320 #[t0,t1] w K:=cz [(3,[]),(6,[])] [(8,[8])] Tryz.func320 h
end
section
open Eng Go.RowKit
theorem Db :∀x∈aR l,x.oneCell'=true:=by
 intro x hx;obtain⟨n,-,rfl⟩:=aiD.1 hx;rfl
theorem eQ (l:List Nat):(aR l).length=l.length:=by simp[aR]
theorem Xq {off n c:Nat}:DoX prog (mEq .eql 123 xo yo (.slice (some ⟨b,off,none⟩) n c) (.slice none 0 0)) w PK K=K (.bool false) w:=aE krx
theorem HW (l:List Nat)(v:Value)(M:Mem)(w:World)(hl:l.length<=100000)(h0:0 < l.length)(hM:M.has w)(hs:SlA M.A M.w v 1 l.length (aR l)) :
  RetM prog 322 #[v] M w (fun r N=>SlA N.A N.w r 1 l.length (aR l)):=by
 refine aT hM fun K hK=>qJ ?_;unfold kE nz;have ho:OwnS M.A w w [.mem M]:=OwnS.memS hM;have go:∀{b off n c:Nat},v=.slice (some ⟨b,off,none⟩) n c->DoX prog (mEq .eql 123 (.tmp 3) (.const (.slice none 0 0)) v (.slice none 0 0)) w (Eng.pk K) fun t4 w=>IfX t4 (K (.returned (.slice none 0 0)) w) (DoX prog (bN 123 0 #[]) w (Eng.pk K) fun t5 w=>
   DoX prog (mB .append #[123,123] 123 #[false,false] #[t5,v]) w (Eng.pk K) fun t7 w=>K (.returned t7) w):=by
  rintro b off n c rfl;rw[Xq,i_f];refine Q4 ho fun v0 w1 ho=>?_;refine oB 0 ho rfl (hs.now (ho.hasM 1 rfl)) Db om fun v1 w2 ho=>?_;obtain⟨N,hle,hrow,ho⟩:=OwnS.cG (L:=[.mem M]) ho 0 rfl;refine hK _ _ N _ 0 ho rfl hle ?_;rw[ahJ] at hrow;exact hrow
 obtain⟨b,off,cap,hv,-⟩:=cB hs.1 om;exact go hv
def tbC (a b:Value)(f g:Nat->Int)(o:Value):List Value:=a::b::(nsC f++(nsC g++[o]))
def tbV (a b:Value)(f g:Nat->Int)(o:Value):Value:=.agg (tbC a b f g o).toArray
def tbE (bl:Nat)(a b:Value)(f g:Nat->Int)(o:Value):Ent:=.cells bl (tbC a b f g o) 337
theorem WJ:fOff prog 337 0=some 0:=krx
theorem ZP:fOff prog 337 1=some 1:=krx
theorem Zc:fOff prog 337 2=some 2:=krx
theorem ZV:fOff prog 337 3=some 18:=krx
theorem acV:fOff prog 337 4=some 34:=krx
def Fl.Hq (lens:List Nat)(l:Nat):List Nat:=(List.range lens.length).filter fun i=>decide (lens.getD i 0=l)
def Fl.order (lens:List Nat):Nat->List Nat
|0=>[]
|l+1=>Fl.order lens l++Fl.Hq lens (l+1)
end
section
open Eng Go.RowKit
abbrev fstW (lens:List Nat):Nat->Int:=fun i=>((Fl.first lens (if i<=15 then i else 0):Nat):Int)
def TbAt (A:Nat->Prop)(w:World)(b:Nat)(lens:List Nat):Prop:=∃a c o,A b∧(tbE b a c (cnt lens) (fstW lens) o).is w∧SlA A w o 1 (Fl.order lens 15).length (aR (Fl.order lens 15))
theorem Oh:eF prog 294=true:=krx
section
variable {w:World}{PK:PKT}{K:VWP}{S:Nat->Prop}{w0:World}{L:List Ent}
theorem Nf {off:Nat}:DoX prog (mFA 337 (.pointer (some ⟨b,off,none⟩)) 2) w PK K=K (.pointer (some ⟨b,off+2,none⟩)) w:=aK Zc
theorem SW {off:Nat}:DoX prog (mFA 337 (.pointer (some ⟨b,off,none⟩)) 3) w PK K=K (.pointer (some ⟨b,off+18,none⟩)) w:=aK ZV
theorem KP {off:Nat}:DoX prog (mFA 337 (.pointer (some ⟨b,off,none⟩)) 4) w PK K=K (.pointer (some ⟨b,off+34,none⟩)) w:=aK acV
theorem m_tb {a:Value}{f:Nat->Int}(h1:a.oneCell'=true)(h2:c.oneCell'=true):DoX prog (aZ 337 #[(0,a),(1,c),(2,nsV f)]) w PK K=K (tbV a c f (fun _=>0) nilS) w:=by
 cases a<;>first|(cases h1;done)|skip
 all_goals cases c<;>first|(cases h2;done)|exact aE krx
theorem Za {a:Value}{f g:Nat->Int}(h1:a.oneCell'=true)(h2:c.oneCell'=true)(ho:OwnS S w0 w L)(k:∀b w',OwnS S w0 w' (tbE b a c f g nilS::L)->K (.pointer (some ⟨b,0,none⟩)) w'):DoX prog (mBox 337 (tbV a c f g nilS)) w PK K:=by
 cases a<;>first|(cases h1;done)|skip
 all_goals cases c<;>first|(cases h2;done)|exact bC (fun b=>.pointer (some ⟨b,0,none⟩)) (tbC _ _ f g nilS) 337 (fun _=>by kernel_rfl) ho k
theorem tb_n (ho:OwnS S w0 w L)(j:Nat){a o:Value}{f g:Nat->Int}(hi:L[j]?=some (tbE b a c f g o)):DoX prog (aI 334 (.pointer (some ⟨b,0+2,none⟩))) w PK K=K (nsV f) w:=l_at (ho.acK j hi (0+2) (nsC f) rfl Yk)
theorem Ow (ho:OwnS S w0 w L)(j:Nat){a o:Value}{f g:Nat->Int}(hi:L[j]?=some (tbE b a c f g o)):DoX prog (aI 123 (.pointer (some ⟨b,0+34,none⟩))) w PK K=K o w:=aO Ed (ho.cell j hi 34 rfl)
theorem Tn (j:Nat){a o:Value}{f g g':Nat->Int}(ho:OwnS S w0 w L)(hi:L[j]?=some (tbE b a c f g o))(k:∀w',OwnS S w0 w' (L.set j (tbE b a c f g' o))->K undef w') :
  DoX prog (aS 334 (.pointer (some ⟨b,0+18,none⟩)) (nsV g')) w PK K:=D1 j ho hi (new:=nsC g') szNs (TD g') (by show 0+18+16<=35;omega) k
theorem TF (j:Nat){a o o':Value}{f g:Nat->Int}(h:o'.oneCell'=true)(ho:OwnS S w0 w L)(hi:L[j]?=some (tbE b a c f g o))(k:∀w',OwnS S w0 w' (L.set j (tbE b a c f g o'))->K undef w') :
  DoX prog (aS 123 (.pointer (some ⟨b,0+34,none⟩)) o') w PK K:=aN j ho hi krx h (by show 0+34 < 35;omega) k
end
def Fl.ofTo (lens:List Nat)(l i:Nat):List Nat:=(List.range i).filter fun i=>decide (lens.getD i 0=l)
theorem Fl.MY (lens:List Nat)(l i:Nat):(Fl.ofTo lens l i).length<=i:=by
 have:=aoM (fun i=>decide (lens.getD i 0=l)) (List.range i);rw[aoN] at this;exact this
theorem Fl.Jc (lens:List Nat):∀l,(Fl.order lens l).length<=l*lens.length
|0=>by simp[Fl.order]
|l+1=>by
  have h1:=Fl.Jc lens l;have h2:=Fl.MY lens (l+1) lens.length;have e:Fl.Hq lens (l+1)=Fl.ofTo lens (l+1) lens.length:=rfl;rw[Fl.order,agZ,e,akA];omega
theorem lB (a b:List Nat):aR (a++b)=aR a++aR b:=by simp[aR]
theorem BS (lens:List Nat)(v:Value)(M:Mem)(w:World)(h15:∀l∈lens,l<=15)(hl:lens.length<=100000)(h0:0 < lens.length)(hM:M.has w)(hs:SlA M.A M.w v 1 lens.length (aR lens)) :
  RetM prog 295 #[v] M w (fun r N=>if Fl.chk lens≠0 then r=.tuple #[.pointer none,.int .i64 (Fl.chk lens)] else ∃b,r=.tuple #[.pointer (some ⟨b,0,none⟩),.int .i64 0]∧TbAt N.A N.w b lens):=by
 refine aT hM fun K hK=>Bz ?_;unfold D3 nz;have ho:OwnS M.A w w [.mem M]:=OwnS.memS hM;refine bF ho 0 rfl (HR lens v M w h15 hl hM hs) ?_;rintro _ N1 w1 g1 ⟨cv,rfl,hc1,hcs⟩ ho;simp only[ex,gD];by_cases hc:Fl.chk lens=0
 case neg=>
  simp only[hc,ne_eq,akI,agY,i_t];exact hK _ _ N1 _ 0 ho rfl g1 (by rw[agW hc])
 have hcs:=hcs hc;simp only[hc,ne_eq,not_true,agX,i_f];refine bF ho 0 rfl (HW lens v N1 w1 hl h0 (ho.hasM 0 rfl) (hs.le g1)) fun lv N2 w2 g2 hlv ho=>?_;refine aL ho (R:=fun r=>r=nsV (cnt lens)) (RetM.told (tZ lens v N2 w2 h15 hl (ho.hasM 0 rfl) (hs.le (g1.trans g2)))) ?_;rintro _ w3 rfl ho;rw[m_tb hlv.one hc1];refine Za hlv.one hc1 ho fun b w4 ho=>?_;rw[aV,Nf,tb_n ho 0 rfl];refine aL ho (R:=fun r=>r=nsV (fstW lens)) (RetM.told (Ds lens N2 w4 hl (ho.hasM 1 rfl))) ?_;rintro _ w5 rfl ho;rw[aV,SW];refine Tn 0 ho rfl fun w6 ho=>?_;have hsl:=hs.le (g1.trans g2);have ho:OwnS M.A w w6 [.urow 3 1 nilS 0 [],tbE b lv cv (cnt lens) (fstW lens) nilS,.mem N2]:=OwnS.nilU (L:=[tbE b lv cv (cnt lens) (fstW lens) nilS,.mem N2]) ho _ _;refine loop (fun vs W=>∃(l:Nat) (ov:Value),vs=[.int .i64 ((l+1:Nat):Int)]∧l<=15∧OwnS M.A w W [.urow 3 1 ov (Fl.order lens l).length (aR (Fl.order lens l)),tbE b lv cv (cnt lens) (fstW lens) ov,.mem N2]) (fun vs _=>16 - n0 vs) ⟨0,nilS,rfl,om,ho⟩ ?_;clear ho;rintro vs w7 ⟨l,ov,rfl,hl15,ho⟩ _;simp only[yQ,gd,rs,nz];by_cases hlt:((l+1:Nat):Int)<=15
 ·simp only[hlt,agY,i_t];rw[bB ahS (hsl.now (ho.hasM 2 rfl))];have hob:=Fl.Jc lens l;have hob2:l*lens.length<=15*100000:=akO hl15 hl;refine loop (fun vs W=>∃(i:Nat) (ov:Value),vs=[.int .i64 i]∧i<=lens.length∧OwnS M.A w W [.urow 3 1 ov (Fl.order lens l++Fl.ofTo lens (l+1) i).length (aR (Fl.order lens l++Fl.ofTo lens (l+1) i)),tbE b lv cv (cnt lens) (fstW lens) ov,.mem N2]) (fun vs _=>lens.length - n0 vs) ⟨0,ov,rfl,om,by
   rw[show Fl.ofTo lens (l+1) 0=[] from rfl,ahV];exact ho⟩ ?_
  clear ho;rintro vs w8 ⟨i,ov,rfl,hi,ho⟩ _;simp only[yM,gd,rs,nz];by_cases hlt2:(i:Int) < (lens.length:Int)
  ·have hi':i < lens.length:=om
   simp only[hlt2,agY,i_t];refine join fun J hJ=>?_;obtain⟨b2,off,r1,r2⟩:=mD (hsl.now (ho.hasM 2 rfl)) hi';have hgd:lens.getD i 0=lens[i]:=by rw[ahC,ahH hi'];rfl
   refine aE (r1 w8) |>.mpr (aE (aB cI r2) |>.mpr ?_);have hot:=Fl.MY lens (l+1) i;have hrg:Fl.ofTo lens (l+1) (i+1)=Fl.ofTo lens (l+1) i++(if lens[i]=l+1 then [i] else []):=by
    unfold Fl.ofTo;rw[alY,aoO]
    congr 1
    rw[<-hgd];by_cases h:lens.getD i 0=l+1
    ·rw[agW h];exact List.filter_cons_of_pos (ahB h)
    ·rw[agV h];exact List.filter_cons_of_neg (by rw[ahA h];decide)
   have fin:∀(W:World) (ov:Value),OwnS M.A w W [.urow 3 1 ov (Fl.order lens l++Fl.ofTo lens (l+1) (i+1)).length (aR (Fl.order lens l++Fl.ofTo lens (l+1) (i+1))),tbE b lv cv (cnt lens) (fstW lens) ov,.mem N2]->J [] W:=by
    intro W ov ho;refine hJ _ _ fun _=>?_;simp only[xY,gd,rs,nz];rw[aA om om];exact aY ⟨i+1,ov,rfl,om,ho⟩ (by simp[n0,RowKit.intOf];omega)
   simp only[rs];by_cases he:lens[i]=l+1
   ·rw[agW he] at hrg;simp only[show decide (((lens[i]:Nat):Int)=((l+1:Nat):Int))=true from ahB om,i_t,rs,aV];rw[KP,Ow ho 1 rfl];refine sX (i:Int) ho fun b3 w9 ho=>?_;refine oB 1 ho rfl (ho.sl 0 rfl 1 1 1 rfl) rF (by rw[agZ];omega) fun v' w10 ho=>?_
    try simp only[rs,aV]
    rw[KP];refine TF 2 (dQ (ho.at_ 1 rfl)) ho rfl fun w11 ho=>?_;refine fin w11 v' ?_;have e1:aR (Fl.order lens l++Fl.ofTo lens (l+1) (i+1))=aR (Fl.order lens l++Fl.ofTo lens (l+1) i)++MN [(i:Int)]:=by
     rw[hrg,<-ahK,lB];rfl
    have e2:(Fl.order lens l++Fl.ofTo lens (l+1) (i+1)).length=(Fl.order lens l++Fl.ofTo lens (l+1) i).length+1:=by
     rw[hrg,<-ahK,agZ];rfl
    rw[e1,e2];exact ho.tail
   ·rw[agV he,ahV] at hrg;simp only[show decide (((lens[i]:Nat):Int)=((l+1:Nat):Int))=false from ahA om,i_f];refine fin w8 ov ?_;rw[hrg];exact ho
  ·simp only[hlt2,agX,i_f];have hie:i=lens.length:=om
   subst hie;rw[aA om om];exact aY ⟨l+1,ov,rfl,om,ho⟩ (by simp[n0,RowKit.intOf];omega)
 ·have hl:l=15:=om
  subst hl;simp only[hlt,agX,i_f];obtain⟨N3,g3,hrow,ho⟩:=OwnS.cG (L:=[tbE b lv cv (cnt lens) (fstW lens) ov,.mem N2]) ho 1 rfl;have ho:OwnS M.A w w7 [tbE b lv cv (cnt lens) (fstW lens) ov,.mem N3]:=ho;have his:=ho.at_ 0 rfl;obtain⟨N4,g4,hw4,hblk,ho⟩:=OwnS.freeze (L:=[.mem N3]) ho 0 rfl;refine hK _ _ N4 _ 0 ho rfl (g1.trans (g2.trans (g3.trans g4))) ?_;rw[agV (by simp[hc])];exact⟨b,rfl,lv,cv,ov,hblk b rfl,by rw[hw4];exact his,hrow.le g4⟩
end
section
open Eng Go.RowKit
def Fl.Bf (lens:List Nat)(s:List UInt8):Nat->Nat->Nat->Nat->Nat×Nat×Int
|0,_,p,_=>(0,p,13)
|f+1,l,p,code=>if Fl.aX lens 15<=Fl.aX lens l then (0,p,13) else if 8*s.length<=p then (0,p,4)
  else if 2*code+Fl.bit s p < Fl.first lens (l+1)+lens.count (l+1) then ((Fl.order lens 15).getD (Fl.aX lens l+(2*code+Fl.bit s p - Fl.first lens (l+1))) 0,p+1,0)
  else Fl.Bf lens s f (l+1) (p+1) (2*code+Fl.bit s p)
def Fl.sign (lens:List Nat)(s:List UInt8)(p:Nat):Nat×Nat×Int:=Fl.Bf lens s 16 0 p 0
theorem Fl.Of (lens:List Nat):(List.range lens.length).map (fun i=>lens.getD i 0)=lens:=by
 refine List.ext_getElem sm fun i h1 h2=>?_;rw[List.getElem_map,List.getElem_range,ahC,ahH h2];rfl
theorem Fl.G6 (lens:List Nat)(l:Nat):(Fl.Hq lens l).length=lens.count l:=by
 conv=>rhs;rw[<-Fl.Of lens]
 rw[List.count_eq_countP,List.countP_map,List.countP_eq_length_filter];unfold Fl.Hq
 congr 1
theorem Fl.CR (lens:List Nat):∀l,(Fl.order lens l).length=Fl.aX lens l
|0=>rfl
|l+1=>by rw[Fl.order,agZ,Fl.CR lens l,Fl.G6,Fl.aX]
theorem Fl.wD (lens:List Nat){a:Nat}(h:a<=b):Fl.aX lens a<=Fl.aX lens b:=by
 induction b with
|zero=>
  have:a=0:=om
  subst this;exact ahD _
|succ b ih=>
  rcases ahY a (b+1) with h'|h'
  ·have:=ih om;rw[Fl.aX];omega
  ·have:a=b+1:=om
   subst this;exact ahD _
theorem abM {c:Nat}(hb:b < 2)(hc:c<=1000000):bOr .i64 ((c*2:Nat):Int) (b:Int)=((2*c+b:Nat):Int):=by
 have e:c*2 ||| b=2*c+b:=by
  have:=apG (i:=1) (b:=b) (by simpa using hb) c;rw[akE c];simpa using this.symm
 unfold bOr;show IntKind.wrap .i64 (((BitVec.ofInt 64 ((c*2:Nat):Int) ||| BitVec.ofInt 64 (b:Int)).toNat:Nat):Int)=_;rw[BitVec.ofInt_natCast,BitVec.ofInt_natCast,BitVec.toNat_or,BitVec.toNat_ofNat,BitVec.toNat_ofNat,aiU om,aiU om,e];exact aA om om
theorem Ug {a o:Value}{f g:Nat->Int}(hA:M.A b)(h:(tbE b a c f g o).is M.w)(hM:M.has W):(tbE b a c f g o).is W:=by
 show W.heap[b]?=_;rw[hM b hA];exact h
section
variable {W:World}{b:Nat}{a c o:Value}{f g:Nat->Int}
theorem Xi (h:(tbE b a c f g o).is W):(aI 123 (.pointer (some ⟨b,0+34,none⟩))).run prog W=.ok (.value o) W:=aB Ed (aG (T:=337) (cs:=tbC a c f g o) h rfl)
theorem RO (h:(tbE b a c f g o).is W)(hi:i < 16):(aI 3 (.pointer (some ⟨b,0+2+i,none⟩))).run prog W=.ok (.value (.int .i64 (f i))) W:=aB cI (aG (T:=337) (cs:=tbC a c f g o) h (by
 unfold tbC;rw[show 0+2+i=i+1+1 by omega,aiP,aiP,ajA (by show i < 16;exact hi)];exact FV f hi))
theorem Yj (h:(tbE b a c f g o).is W)(hi:i < 16):(aI 3 (.pointer (some ⟨b,0+18+i,none⟩))).run prog W=.ok (.value (.int .i64 (g i))) W:=aB cI (aG (T:=337) (cs:=tbC a c f g o) h (by
 unfold tbC;rw[show 0+18+i=(i+16)+1+1 by omega,aiP,aiP,ajO (by show 16<=i+16;omega)];show (nsC g++[o])[i+16 - 16]?=_;rw[alQ,ajA (by show i < 16;exact hi)];exact FV g hi))
end
theorem GY {a:Option Addr}{l:Nat}{p:Addr}(h:subA a l cap sz=some p):∃q:Addr,a=some q∧q.block=p.block:=by
 unfold subA at h;split at h
 ·exact⟨p,h,rfl⟩
 ·obtain⟨q,hq,rfl⟩:=ajN.1 h;exact⟨q,hq,by unfold Addr.add;split<;>rfl⟩
theorem SlA.WT {a:Option Addr}{n:Nat}(h:SlA A w (.slice a n cap) sz n cs)(hi:i<=n):SlA A w (.slice (subA a i cap sz) (n - i) (cap - i)) sz (n - i) (cs.drop (i*sz)):=by
 have hc:=h.2.2 _ _ _ rfl;refine⟨Sl.from h.1 hi hc,fun p l c e hn=>?_,fun a' l c e=>?_⟩
 ·injection e with e _ _
  obtain⟨q,hq,hb⟩:=GY e;have:=h.2.1 q n cap (by rw[hq]) om
  rwa [<-hb]
 ·injection e with _ e2 e3
  omega
theorem TJ :DoX prog (mEq .eql 294 xo yo (.pointer (some ⟨b,0,none⟩)) (.pointer none)) w PK K=K (.bool false) w:=aE krx
section
variable {w:World}{PK:PKT}{K:VWP}{S:Nat->Prop}{w0:World}{L:List Ent}
theorem MP {s:List UInt8}{lens:List Nat}(j jm:Nat)(hjm:jm≠j)(ho:OwnS S w0 w L)(hj:L[j]?=some (bqE b s way p))(hm:L[jm]?=some (.mem M))(ht:TbAt M.A M.w tb lens)(hl:lens.length<=1000)(hw:way=0∨way=1)(hp:p<=8*s.length)(hs:s.length<=1000000000)
  (k:∀way' W,way'=0∨way'=1->(Fl.sign lens s p).2.1<=8*s.length->OwnS S w0 W (L.set j (bqE b s way' (Fl.sign lens s p).2.1))->K (.tuple #[.int .i64 (Fl.sign lens s p).1,.int .i64 (Fl.sign lens s p).2.2]) W) :
  CallX prog 347 #[.pointer (some ⟨tb,0,none⟩),.pointer (some ⟨b,0,none⟩)] w PK K:=by
 have hjl:j < L.length:=(ahQ.1 hj).1;generalize hR:Fl.sign lens s p=R at k;refine fH (zY (K:=RetK fun v W=>∃way',(way'=0∨way'=1)∧R.2.1<=8*s.length∧v=.tuple #[.int .i64 R.1,.int .i64 R.2.2]∧OwnS S w0 W (L.set j (bqE b s way' R.2.1))) ?_) (fun e W ⟨v,he,way',h1,h2,hv,ho⟩=>by subst he;subst hv;exact k way' W h1 h2 ho);unfold sB nz;obtain⟨ta,tc,tv,hA,his,hord⟩:=ht;rw[TJ];simp only[rs];rw[Dx];simp only[rs,aV];have hmj:∀x:Int×Nat,(L.set j (bqE b s x.1 x.2))[jm]?=some (.mem M):=fun x=>by rw[anW (Ne.symm hjm)];exact hm
 rw[KP];refine aE (Xi (Ug hA his (ho.hasM jm hm))) |>.mpr ?_;have hlen:=Fl.CR lens 15;refine loop (fun vs W=>∃(l q code:Nat) (way:Int) (lv:Value),vs=[lv,.int .i64 code,.int .i64 ((l+1:Nat):Int)]∧SlA M.A M.w lv 1 (Fl.aX lens 15 - Fl.aX lens l) (aR ((Fl.order lens 15).drop (Fl.aX lens l)))∧l<=15∧code < 2 ^ l∧Fl.first lens (l+1)<=2*code∧(way=0∨way=1)∧q<=8*s.length ∧
  Fl.Bf lens s (16 - l) l q code=R∧OwnS S w0 W (L.set j (bqE b s way q))) (fun vs _=>16 - n2 vs) ⟨0,p,0,way,tv,rfl,?_,om,dc,by simp[Fl.first],hw,hp,hR,by rw[Fy hj];exact ho⟩ ?_
 ·rw[show Fl.aX lens 0=0 from rfl,ajL,anN,<-hlen];exact hord
 clear ho;rintro vs w2 ⟨l,q,code,way,lv,rfl,hlv,hl15,hcd,hfc,hw,hq,hg,ho⟩ _;simp only[nU,gd,nz];rw[bB ahS (hlv.now (ho.hasM jm (hmj (way,q))))];simp only[rs];have hum:=Fl.wD lens hl15;have hub:=Fl.Gf (lens:=lens) 15;have hml:16 - l=(15 - l)+1:=om
 rw[hml,Fl.Bf] at hg;have hji:(L.set j (bqE b s way q))[j]?=some (bqE b s way q):=by rw[akP hjl]
 by_cases hlt:(0:Int) < ((Fl.aX lens 15 - Fl.aX lens l:Nat):Int)
 case neg=>
  simp only[hlt,agX,i_f];rw[agW om] at hg;subst hg;exact retK ⟨way,hw,hq,rfl,ho⟩
 have hl14:l < 15:=by
  rcases ahY l 15 with h|h
  ·exact h
  ·have:l=15:=om
   subst this;omega
 rw[agV om] at hg;simp only[hlt,agY,i_t];refine ZB (n:=1) j ho hji hw hq om hs (fun h1 W ho=>?_) (fun h1 W ho=>?_)
 ·rw[agW dc,anF] at ho;rw[agV om] at hg;have hnum:Fl.num s q 1=Fl.bit s q:=by simp[Fl.num]
  simp only[ex,gD,show decide ((0:Int)≠0)=false by decide,i_f];have hb:=Fl.Ry s q;have hp15:2 ^ l<=2 ^ 14:=aiY dc om;have h214:(2:Nat) ^ 14=16384:=dc
  rw[CU dc];rw[show (code:Int)*2 ^ (min (1:Int).toNat IntKind.i64.bits)=((code*2:Nat):Int) by
   rw[show min (1:Int).toNat IntKind.i64.bits=1 from rfl];push_cast;omega]
  rw[aA om om,hnum,b_or,abM hb om];have hM:=ho.hasM jm (hmj (1,q+1));have his2:=Ug hA his hM
  try simp only[rs,aV]
  rw[SW,Gy om];refine aE (Yj his2 om) |>.mpr ?_;have hfst:fstW lens (l+1)=((Fl.first lens (l+1):Nat):Int):=by show ((Fl.first lens (if l+1<=15 then l+1 else 0):Nat):Int)=_;rw[agW om]
  have hcn:cnt lens (l+1)=((lens.count (l+1):Nat):Int):=by unfold cnt;rw[agV om]
  have hcb:lens.count (l+1)<=lens.length:=alZ;rw[hfst]
  try simp only[rs,aV]
  rw[aA om om,Nf,Gy om];refine aE (RO his2 om) |>.mpr ?_;rw[hcn]
  try simp only[rs]
  have hus:Fl.aX lens (l+1)=Fl.aX lens l+lens.count (l+1):=by rw[Fl.aX]
  have hum2:=Fl.wD lens (show l+1<=15 by omega);by_cases hin:((2*code+Fl.bit s q:Nat):Int) - ((Fl.first lens (l+1):Nat):Int) < ((lens.count (l+1):Nat):Int)
  ·simp only[hin,agY,i_t];rw[agW om] at hg;have hdl:((Fl.order lens 15).drop (Fl.aX lens l)).length=Fl.aX lens 15 - Fl.aX lens l:=by rw[ahL,hlen]
   have hki:2*code+Fl.bit s q - Fl.first lens (l+1) < ((Fl.order lens 15).drop (Fl.aX lens l)).length:=om
   obtain⟨b2,off,r1,r2⟩:=mD (l:=(Fl.order lens 15).drop (Fl.aX lens l)) (by rw[hdl];exact hlv.now hM) hki;rw[show ((2*code+Fl.bit s q:Nat):Int) - ((Fl.first lens (l+1):Nat):Int)=((2*code+Fl.bit s q - Fl.first lens (l+1):Nat):Int) by omega];refine aE (r1 W) |>.mpr (aE (aB cI r2) |>.mpr ?_);have e0:((Fl.order lens 15).drop (Fl.aX lens l))[2*code+Fl.bit s q - Fl.first lens (l+1)]=(Fl.order lens 15).getD (Fl.aX lens l+(2*code+Fl.bit s q - Fl.first lens (l+1))) 0:=by
    rw[List.getElem_drop,ahC,ahH (by rw[ahL] at hki;omega)];rfl
   rw[e0];generalize (Fl.order lens 15).getD (Fl.aX lens l+(2*code+Fl.bit s q - Fl.first lens (l+1))) 0=sym at hg;subst hg;exact retK ⟨1,.inr rfl,by show q+1<=_;omega,rfl,ho⟩
  ·simp only[hin,agX,i_f];rw[agV om] at hg
   try simp only[rs,aV]
   rw[Nf,Gy om];refine aE (RO his2 om) |>.mpr ?_;rw[hcn];obtain⟨oa,oc,rfl,hcap⟩:=hlv.form;refine aE (dJ ahS (show _=some 1 by kernel_rfl) om om) |>.mpr ?_;rw[ahI]
   try simp only[rs]
   rw[aA om om];refine aY ⟨l+1,q+1,2*code+Fl.bit s q,1,_,rfl,?_,om,?_,?_,.inr rfl,om,?_,ho⟩ (by simp[n2,RowKit.intOf];omega)
   ·have:=hlv.WT (i:=lens.count (l+1)) om;rw[show Fl.aX lens 15 - Fl.aX lens (l+1)=Fl.aX lens 15 - Fl.aX lens l - lens.count (l+1) by omega];have e:(aR ((Fl.order lens 15).drop (Fl.aX lens l))).drop (lens.count (l+1)*1)=aR ((Fl.order lens 15).drop (Fl.aX lens (l+1))):=by
     unfold aR;rw[ahZ,<-List.map_drop,alP,hus]
    rw[<-e];exact this
   ·rw[ajQ];omega
   ·rw[Fl.first];omega
   ·rw[show 16 - (l+1)=15 - l by omega];exact hg
 ·simp only[ex,gD,show decide ((4:Int)≠0)=true by decide,i_t];rw[agW om] at hg;subst hg;exact retK ⟨way,hw,hq,rfl,ho⟩
end
end
section
open Eng Go.RowKit
def flC (rb:Nat)(ov:Value)(most:Int):List Value:=[.pointer (some ⟨rb,0,none⟩),ov,.int .i64 most]
def flE (b rb:Nat)(ov:Value)(most:Int):Ent:=.cells b (flC rb ov most) 278
def outR (ov:Value)(out:List UInt8):Ent:=.urow 5 1 ov out.length (aH out)
theorem RW:fOff prog 278 0=some 0:=krx
theorem xJ:fOff prog 278 1=some 1:=krx
theorem ZO:fOff prog 278 2=some 2:=krx
theorem Wu:eF prog 275=true:=krx
theorem G3:eF prog 53=true:=krx
section
variable {w:World}{PK:PKT}{K:VWP}{S:Nat->Prop}{w0:World}{L:List Ent}
theorem Lm {off:Nat}:DoX prog (mFA 278 (.pointer (some ⟨b,off,none⟩)) 0) w PK K=K (.pointer (some ⟨b,off,none⟩)) w:=aK RW
theorem RI (ho:OwnS S w0 w L)(j:Nat){ov:Value}{most:Int}(hi:L[j]?=some (flE b rb ov most)):DoX prog (aI 275 (.pointer (some ⟨b,0,none⟩))) w PK K=K (.pointer (some ⟨rb,0,none⟩)) w:=aO Wu (ho.cell j hi 0 rfl)
theorem nY {ov:Value}{most:Int}{s:List UInt8}{n:Nat}(jf j:Nat)(ho:OwnS S w0 w L)(hjf:L[jf]?=some (flE fb b ov most))(hj:L[j]?=some (bqE b s way p))(hw:way=0∨way=1)(hp:p<=8*s.length)(hn:n<=24)(hs:s.length<=1000000000)
  (k1:p+n<=8*s.length->∀W,OwnS S w0 W (L.set j (bqE b s (if 0 < n then 1 else way) (p+n)))->K (.int .i64 (Fl.num s p n)) W)
  (k2:8*s.length < p+n->∀W,OwnS S w0 W L->PK [upI 4] W):CallX prog 305 #[.pointer (some ⟨fb,0,none⟩),.int .i64 (n:Int)] w PK K:=by
 refine⟨tM ?_⟩;unfold mU nz;rw[aV,Lm,RI ho jf hjf];refine ZB j ho hj hw hp hn hs (fun h1 W ho=>?_) (fun h1 W ho=>?_)
 ·simp only[ex];exact tS (fun _=>k1 h1 W ho) (fun h=>absurd rfl h)
 ·simp only[ex];exact tS (fun h=>absurd h dc) (fun _=>k2 h1 W ho)
theorem Q1 {ov:Value}{n:Nat}{out:List UInt8}(jf jo:Nat)(ho:OwnS S w0 w L)(hjf:L[jf]?=some (flE fb b ov most))(hjo:L[jo]?=some (outR ov out))(hn:n<=1000000000)(hm:most<=1000000000)(hol:out.length<=1000000000)
  (k1:out.length+n<=most->∀W,OwnS S w0 W L->K (.tuple #[]) W) (k2:most < out.length+n->∀W,OwnS S w0 W L->PK [upI 5] W):CallX prog 334 #[.pointer (some ⟨fb,0,none⟩),.int .i64 (n:Int)] w PK K:=by
 refine⟨sU ?_⟩;unfold mY nz;refine eB (fun W=>OwnS S w0 W L) ho.drew ?_;refine q_do _ (fun _=>cM) (q_do _ (fun _=>bY xJ) (q_at ov (fun W h=>aB G3 (h.cell jf hjf 1 rfl)) ?_));refine q_at (.int .i64 (out.length:Int)) (fun W h=>?_) ?_
 ·have:=h.slU jo hjo;obtain⟨_,a,cap,rfl,_⟩:=this;simp[mB,builtin,Builtin.len_,run_underlying ahX,goInt]
 refine qQ ?_;rw[aA om om];refine q_do _ (fun _=>cM) (q_do _ (fun _=>bY ZO) (q_at (.int .i64 (most:Int)) (fun W h=>aB cI (h.cell jf hjf 2 rfl)) (Vk ?_)));intro w2 ho;exact iJ (fun h=>k1 (by have:=ahO h;omega) w2 ho) (fun h=>k2 (by have:=aiK h;omega) w2 ho)
theorem qE {e:Int}(kr:e=0->K v w)(kp:e≠0->PK [upI e] w):CallX prog 338 #[v,.int .i64 e] w PK K:=by
 refine⟨iG ?_⟩;unfold eN nz;simp only[rs];exact iJ (fun h=>kr (ahO h)) fun h=>kp (aiK h)
end
end
section
open Eng Go.RowKit
def Fl.spr (each first:Nat):Nat->Nat
|0=>first
|i+1=>Fl.spr each first i+2 ^ (i / each - 1)
theorem Fl.R5 (each first:Nat):∀i,i<=40->Fl.spr each first i<=first+i*2 ^ 40
|0,_=>by simp[Fl.spr]
|i+1,h=>by
  have h1:=Fl.R5 each first i om
  have h3:i / each<=i:=amA _ _;have h2:2 ^ (i / each - 1)<=2 ^ 40:=aiY dc om;rw[Fl.spr,akA];omega
def snC (a b:Int):List Value:=[.int .i64 a,.int .i64 b]
def snV (a b:Int):Value:=.agg (snC a b).toArray
def snE (bl:Nat)(a b:Int):Ent:=.cells bl (snC a b) 371
theorem agI:aggN prog 371=some 2:=krx
theorem szSn:(Tryz.prog.info? 371).map (·.size)=some 2:=krx
theorem ZG:fOff prog 371 0=some 0:=krx
theorem Z8:fOff prog 371 1=some 1:=krx
section
variable {w:World}{PK:PKT}{K:VWP}{S:Nat->Prop}{w0:World}{L:List Ent}
theorem Xp (ho:OwnS S w0 w L)(k:∀b w',OwnS S w0 w' (snE b 0 0::L)->K (.pointer (some ⟨b,0,none⟩)) w'):DoX prog (Da 371) w PK K:=
 bC (fun b=>.pointer (some ⟨b,0,none⟩)) (snC 0 0) 371 (fun _=>by kernel_rfl) ho k
theorem afA (a c:Int)(ho:OwnS S w0 w L)(k:∀b w',OwnS S w0 w' (snE b a c::L)->K (.pointer (some ⟨b,0,none⟩)) w'):DoX prog (mBox 371 (snV a c)) w PK K:=
 bC (fun b=>.pointer (some ⟨b,0,none⟩)) (snC a c) 371 (fun _=>by kernel_rfl) ho k
theorem m_sn {c:Int}:DoX prog (aZ 371 #[(0,.int .i64 a),(1,.int .i64 c)]) w PK K=K (snV a c) w:=aE krx
theorem afE :DoX prog (aZ 371 #[(0,.int .i64 a)]) w PK K=K (snV a 0) w:=aE krx
theorem NG (j:Nat){c a' c':Int}(ho:OwnS S w0 w L)(hi:L[j]?=some (snE b a c))(k:∀w',OwnS S w0 w' (L.set j (snE b a' c'))->K undef w') :
  DoX prog (aS 371 (.pointer (some ⟨b,0,none⟩)) (snV a' c')) w PK K:=iE j ho hi (new:=snC a' c') szSn (by intro v hv;simp only[snC,ahG,ajH,or_false] at hv;rcases hv with rfl|rfl<;>rfl) rfl k
theorem OL {K:Ending->World->Prop}{c:Int}(i:Nat)(ho:OwnS S w0 w L)(hi:L[i]?=some (snE b a c))(k:K (.returned (snV a c)) w):RetX prog [.cell (.pointer (some ⟨b,0,none⟩)) 371] w K:=
 iW (bH (ho.agg i hi agI)) k
end
theorem Iz (i first each:Nat)(w:World)(hi:i<=40)(he:1<=each)(hf:first<=1000):Ret prog 364 #[.int .i64 (i:Int),.int .i64 (first:Int),.int .i64 (each:Int)] w (fun v w'=>v=snV (Fl.spr each first i) ((i / each - 1:Nat):Int)∧Below w.heap.size w w'):=by
 refine aP fun K hK=>Bc ?_;unfold uA nz;refine Xp (Own.start w) fun b w1 ho=>?_;have ho:Own w w1 [snE b 0 0]:=ho;have more:∀q:Nat,max 0 (((q:Nat):Int) - 1)=((q - 1:Nat):Int):=fun q=>by omega
 have quo:∀k:Nat,((k:Nat):Int).tdiv (each:Int)=((k / each:Nat):Int):=fun k=>by
  rw[apE om];rfl
 refine loop (fun vs W=>∃k:Nat,vs=[.int .i64 (Fl.spr each first k),.int .i64 k]∧k<=i∧Own w W [snE b 0 0]) (fun vs _=>i - n1 vs) ⟨0,rfl,om,ho⟩ ?_;clear ho;rintro vs w2 ⟨k,rfl,hk,ho⟩ _;simp only[pX,gd,rs,nz];by_cases hlt:(k:Int) < (i:Int)
 ·simp only[hlt,agY,i_t];have hkd:k / each<=k:=amA _ _;have hsp:=Fl.R5 each first (k+1)
  rw[Fl.spr] at hsp;have hnx:Fl.spr each first (k+1)=Fl.spr each first k+2 ^ (k / each - 1):=rfl
  rw[TX om,quo];generalize k / each=kq at *;rw[aA om om]
  try simp only[rs]
  rw[aA om om,FO,more,CU om];have hsp:=hsp om;have h40:(2:Nat) ^ 40=1099511627776:=dc
  have hpl:2 ^ (kq - 1)<=2 ^ 40:=aiY dc om;rw[show min ((kq - 1:Nat):Int).toNat IntKind.i64.bits=kq - 1 by show min ((kq - 1:Nat):Int).toNat 64=kq - 1;omega];rw[show (1:Int)*2 ^ (kq - 1)=((2 ^ (kq - 1):Nat):Int) by push_cast;omega];have hm:(k+1)*2 ^ 40<=41*2 ^ 40:=aiO _ om;generalize hq:2 ^ (kq - 1)=q at *;rw[aA om om]
  try simp only[rs]
  rw[aA om om,aA om om];exact aY ⟨k+1,by rw[hnx];rfl,om,ho⟩ (by simp[n1,RowKit.intOf];omega)
 ·simp only[hlt,agX,i_f];have hki:k=i:=om
  subst hki;have hkd:k / each<=k:=amA _ _;have hsp:=Fl.R5 each first (k+1)
  rw[Fl.spr] at hsp;have hnx:Fl.spr each first (k+1)=Fl.spr each first k+2 ^ (k / each - 1):=rfl
  rw[TX om,quo];generalize k / each=kq at *;rw[aA om om]
  try simp only[rs]
  rw[aA om om,FO,more,m_sn];have ho:OwnS NoB w w2 [snE b 0 0]:=ho;refine NG 0 ho rfl fun w3 ho=>?_;exact OL 0 ho rfl (hK _ _ ⟨rfl,ho.below⟩)
end
section
open Eng Go.RowKit
def Fl.Dl (i:Nat):Nat:=if i=28 then 258 else Fl.spr 4 3 i
def Fl.oQ (i:Nat):Nat:=if i=28 then 0 else i / 4 - 1
def Fl.farF (i:Nat):Nat:=Fl.spr 2 1 i
def Fl.farB (i:Nat):Nat:=i / 2 - 1
theorem Kn (i:Nat)(w:World)(hi:i<=28):Ret prog 357 #[.int .i64 (i:Int)] w (fun v w'=>v=snV (Fl.Dl i) (Fl.oQ i)∧Below w.heap.size w w'):=by
 refine aP fun K hK=>DP ?_;unfold Ah nz;refine Xp (Own.start w) fun b w1 ho=>?_;have ho:OwnS NoB w w1 [snE b 0 0]:=ho;simp only[rs];by_cases h:(i:Int)=28
 ·have hi:i=28:=om
  subst hi;simp only[h,agY,i_t];rw[afE];refine NG 0 ho rfl fun w3 ho=>?_;exact OL 0 ho rfl (hK _ _ ⟨rfl,ho.below⟩)
 ·simp only[h,agX,i_f];refine aL ho (R:=fun v=>v=snV (Fl.spr 4 3 i) ((i / 4 - 1:Nat):Int)) (Iz i 3 4 w1 om om om) ?_;rintro _ w2 rfl ho;refine NG 0 ho rfl fun w3 ho=>?_;refine OL 0 ho rfl (hK _ _ ⟨?_,ho.below⟩);unfold Fl.Dl Fl.oQ;rw[agV om,agV om]
theorem ND (i:Nat)(w:World)(hi:i<=30):Ret prog 359 #[.int .i64 (i:Int)] w (fun v w'=>v=snV (Fl.farF i) (Fl.farB i)∧Below w.heap.size w w'):=by
 refine aP fun K hK=>ER ?_;unfold BB nz;refine Xp (Own.start w) fun b w1 ho=>?_;have ho:OwnS NoB w w1 [snE b 0 0]:=ho;refine aL ho (R:=fun v=>v=snV (Fl.spr 2 1 i) ((i / 2 - 1:Nat):Int)) (Iz i 1 2 w1 om om om) ?_;rintro _ w2 rfl ho;refine NG 0 ho rfl fun w3 ho=>?_;exact OL 0 ho rfl (hK _ _ ⟨rfl,ho.below⟩)
theorem Kg (a e m:Nat)(w:World)(ha:a<=1000000000)(he:e<=30)(hm:m < 2 ^ e):Ret prog 363 #[snV (a:Int) (e:Int),.int .i64 (m:Int)] w (fun v w'=>v=.tuple #[.int .i64 ((a+m:Nat):Int),.int .i64 0]∧Below w.heap.size w w'):=by
 refine aP fun K hK=>vZ ?_;unfold nJ nz;refine afA _ _ (Own.start w) fun b w1 ho=>?_;have ho:OwnS NoB w w1 [snE b a e]:=ho;have hp:2 ^ e<=2 ^ 30:=aiY dc he;have h30:(2:Nat) ^ 30=1073741824:=dc
 simp only[rs,show decide ((m:Int) < 0)=false from ahA om];rw[aK Z8,aO cI (ho.cell 0 rfl 1 rfl),CU om];rw[show min (e:Int).toNat IntKind.i64.bits=e by show min (e:Int).toNat 64=e;omega];rw[show (1:Int)*2 ^ e=((2 ^ e:Nat):Int) by push_cast;omega,aA om om];simp only[rs,show decide (((2 ^ e:Nat):Int)<=(m:Int))=false from ahA om];rw[aK ZG,aO cI (ho.cell 0 rfl 0 rfl)];simp only[rs];rw[aA om om];exact hK _ _ ⟨rfl,ho.below⟩
theorem Fl.O5 (h:i<=28):Fl.Dl i<=1000∧Fl.oQ i<=5:=by
 have:i=0∨i=1∨i=2∨i=3∨i=4∨i=5∨i=6∨i=7∨i=8∨i=9∨i=10∨i=11∨i=12∨i=13∨i=14∨i=15∨i=16∨i=17∨i=18∨i=19∨i=20∨i=21∨i=22∨i=23∨i=24∨i=25∨i=26∨i=27∨i=28:=om
 rcases this with rfl|rfl|rfl|rfl|rfl|rfl|rfl|rfl|rfl|rfl|rfl|rfl|rfl|rfl|rfl|rfl|rfl|rfl|rfl|rfl|rfl|rfl|rfl|rfl|rfl|rfl|rfl|rfl|rfl<;>decide
theorem Fl.Sa (h:i<=29):Fl.farF i<=100000∧Fl.farB i<=13:=by
 have:i=0∨i=1∨i=2∨i=3∨i=4∨i=5∨i=6∨i=7∨i=8∨i=9∨i=10∨i=11∨i=12∨i=13∨i=14∨i=15∨i=16∨i=17∨i=18∨i=19∨i=20∨i=21∨i=22∨i=23∨i=24∨i=25∨i=26∨i=27∨i=28∨i=29:=om
 rcases this with rfl|rfl|rfl|rfl|rfl|rfl|rfl|rfl|rfl|rfl|rfl|rfl|rfl|rfl|rfl|rfl|rfl|rfl|rfl|rfl|rfl|rfl|rfl|rfl|rfl|rfl|rfl|rfl|rfl|rfl<;>decide
theorem QT (i m:Nat)(w:World)(hi:i<=28)(hm:m < 2 ^ Fl.oQ i):Ret prog 356 #[.int .i64 ((257+i:Nat):Int),.int .i64 (m:Int)] w (fun v w'=>v=.tuple #[.int .i64 ((Fl.Dl i+m:Nat):Int),.int .i64 0]∧Below w.heap.size w w'):=by
 refine aP fun K hK=>D4 ?_;unfold Ao nz;have ho:OwnS NoB w w []:=Own.start w;obtain⟨h1,h2⟩:=Fl.O5 hi;simp only[rs,show decide (((257+i:Nat):Int) < 257)=false from ahA om,show decide ((285:Int) < ((257+i:Nat):Int))=false from ahA om];rw[aA om om,show ((257+i:Nat):Int) - 257=(i:Int) by omega];refine aL ho (R:=fun v=>v=snV (Fl.Dl i) (Fl.oQ i)) (Kn i w hi) ?_;rintro _ w2 rfl ho;refine aL ho (R:=fun v=>v=.tuple #[.int .i64 ((Fl.Dl i+m:Nat):Int),.int .i64 0]) (Kg _ _ m w2 om om hm) ?_;rintro _ w3 rfl ho;simp only[ex];exact hK _ _ ⟨rfl,ho.below⟩
theorem Uu (i m:Nat)(w:World)(hi:i<=29)(hm:m < 2 ^ Fl.farB i):Ret prog 358 #[.int .i64 (i:Int),.int .i64 (m:Int)] w (fun v w'=>v=.tuple #[.int .i64 ((Fl.farF i+m:Nat):Int),.int .i64 0]∧Below w.heap.size w w'):=by
 refine aP fun K hK=>EZ ?_;unfold BI nz;have ho:OwnS NoB w w []:=Own.start w;obtain⟨h1,h2⟩:=Fl.Sa hi;simp only[rs,show decide ((i:Int) < 0)=false from ahA om,show decide ((29:Int) < (i:Int))=false from ahA om];refine aL ho (R:=fun v=>v=snV (Fl.farF i) (Fl.farB i)) (ND i w om) ?_;rintro _ w2 rfl ho;refine aL ho (R:=fun v=>v=.tuple #[.int .i64 ((Fl.farF i+m:Nat):Int),.int .i64 0]) (Kg _ _ m w2 om om hm) ?_;rintro _ w3 rfl ho;simp only[ex];exact hK _ _ ⟨rfl,ho.below⟩
end
section
namespace Eng
open Go.RowKit
theorem Ls {g:Nat}(h:w'.heap[g]?=w.heap[g]?):w'.cell? ⟨g,j,none⟩=w.cell? ⟨g,j,none⟩:=by
 unfold World.cell?;simp only[h]
theorem Mr {T E:TypeId}{cs:Array Bool}{g n bytes:Nat}(ht:P.underlying T=some (.slice E))(he:elB P E sz bytes=true)(hsz:0 < sz)
  (hown:(Ent.urow E sz (.slice (some ⟨g,0,none⟩) n cap) n xs).is w) (hs:Sl w v2 sz m news) (hm:0 < m) (h1:∀u∈news,u.oneCell'=true) (hb:(n+m)*bytes<=140737488355328) (hb2:n+m<=140737488355328)
  (r:(mB .append #[T,T] U cs #[.slice (some ⟨g,0,none⟩) n cap,v2]).run P w=.ok (.value v') w') (hi':(Ent.urow E sz v' (n+m) (xs++news)).is w') {j:Nat} {u:Value} (hj:xs[j]?=some u):w'.cell? ⟨g,j,none⟩=some u:=by
 obtain⟨i,z,hi,hz,hi1,hi2,hz1⟩:=jC he;subst hi1;subst hi2;have hown:w.ownsRow 0 E i.size (.slice (some ⟨g,0,none⟩) n cap) n xs:=hown;have hi':w'.ownsRow 0 E i.size v' (n+m) (xs++news):=hi';obtain⟨hl,a,c,rfl,hn,hc⟩:=hs;have hmx:n+m<=maxLen:=by simp only[maxLen];omega
 cases a with
|none=>have:=hn rfl;omega
|some p=>
  have hh:∀j u,news[j]?=some u->w.cell? (p.add j)=some u:=by
   intro j u hj;obtain⟨hsp,hcell⟩:=hc p rfl;have:=hsp hm;obtain⟨b,off,spot⟩:=p;simp only at this hcell;subst this;rw[cC];exact hcell j u hj
  have holds:∀j u,xs[j]?=some u->w.cell? ((⟨g,0,none⟩:Addr).add j)=some u:=hown.cells (g:=g) rfl;have hx1:=hown.1;rcases hown.2 with ⟨h,_⟩|⟨g',cap',cur,hv,hbg,hg,hnc,hcm,hcs,htake⟩
  ·cases h
  injection hv with e1 e2 e3
  injection e1 with e1
  injection e1 with e1
  subst e1;subst e3;by_cases hroom:n+m<=cap
  ·have hfit:n*i.size+news.length<=cur.size:=by rw[hl,hcs,<-ajU];exact aiO _ hroom
   have hr:=run_append_room (P:=P) w T U E i ht hi g n cap cur hg p m c news hl hh h1 hroom hfit;have:(mB .append #[T,T] U cs #[.slice (some ⟨g,0,none⟩) n cap,.slice (some p) m c]).run P w=.ok (.value (.slice (some ⟨g,0,none⟩) (n+m) cap)) (w.setRow g (cur.toList.take (n*i.size)++news++cur.toList.drop (n*i.size+news.length)).toArray):=by simp[mB,builtin,hr]
   rw[this] at r;cases r;have:=hi'.cells (g:=g) rfl j u (by rw[ajA (ahQ.1 hj).1];exact hj);rw[cC,ahJ] at this;exact this
  ·have hr:=run_append_grow (P:=P) w T U E i z ht hi hz ⟨g,0,none⟩ n cap xs hx1 holds p m c news hl hh om (by simp only[maxLen] at hmx;omega) (growslice_fits om hb);have:(mB .append #[T,T] U cs #[.slice (some ⟨g,0,none⟩) n cap,.slice (some p) m c]).run P w=.ok (.value (.slice (some ⟨w.heap.size,0,none⟩) (n+m) (grownCap w (n+m) cap E)))
    (w.drew.alloc (.cells (xs.toArray++news.toArray++Builtin.zeroCells z.cells (grownCap w (n+m) cap E - (n+m))) E)):=by simp[mB,builtin,hr]
   rw[this] at r;cases r;have hlt:g < w.heap.size:=(anL.1 hg).1;have e:(w.drew.alloc (.cells (xs.toArray++news.toArray++Builtin.zeroCells z.cells (grownCap w (n+m) cap E - (n+m))) E)).heap[g]?=w.heap[g]?:=by first|exact heap_alloc_old w.drew _ hlt|exact heap_alloc_old w.drew _ _ hlt
   rw[Ls e];have:=holds j u hj;rw[cC,ahJ] at this;exact this
theorem BL {T E:TypeId}{cs:Array Bool}{n:Nat}{l:List UInt8}(ht:P.underlying T=some (.slice E))(hu:P.underlying U2=some .string)(he:elB P E 1 1=true)(h8:P.underlying E=some (.int .u8))
  (hz8:(P.info? E).bind (·.zero)=some (.int .u8 0)) (hown:w.ownsRow 0 E 1 v n xs) (hb2:n+l.length<=140737488355328) :
  ∃v' w',(mB .append #[T,U2] U cs #[v,.string ⟨l.toArray⟩]).run P w=.ok (.value v') w'∧Turn (.urow E 1 v n xs) (.urow E 1 v' (n+l.length) (xs++aH l)) w w':=by
 obtain⟨v',w',r,t,_⟩:=rL (P:=P) (U:=U) (cs:=cs) ht hu he h8 hz8 (World.ownsRowF_of hown) hb2;refine⟨v',w',r,t.grew,?_,t.new⟩;obtain⟨i,z,hi,hz,hi1,hi2,hz1⟩:=jC he;have hz0:i.zero=some (.int .u8 0):=by rw[hi] at hz8;exact hz8
 have hsz:=dK l;have hmx:n+(⟨l.toArray⟩:ByteArray).size<=maxLen:=by rw[hsz];simp only[maxLen];omega
 obtain⟨v2,w2,r1,r2,r3,r4⟩:=Lib.run_append_own_string (P:=P) w 0 T U2 U E i ht hu hi hz0 hi1 hi2 v n xs hown ⟨l.toArray⟩ hmx (by rw[hsz];omega) (ahW _);rw[xL,hsz] at r2;have:(mB .append #[T,U2] U cs #[v,.string ⟨l.toArray⟩]).run P w=.ok (.value v2) w2:=by simp[mB,builtin,r1]
 rw[this] at r;cases r;exact r2
section
variable {S:Nat->Prop}{P:Program}{w:World}{PK:PKT}{K:VWP}
theorem QI (i:Nat){T E:TypeId}{cs:Array Bool}{g bytes n:Nat}(ht:P.underlying T=some (.slice E))(he:elB P E sz bytes=true)(hsz:0 < sz)
  (ho:OwnS S w0 w L) (hi:L[i]?=some (.urow E sz (.slice (some ⟨g,0,none⟩) n cap) n xs)) (hs:Sl w v2 sz m news) (hm:0 < m) (h1:∀u∈news,u.oneCell'=true) (hb:(n+m)*bytes<=140737488355328) (hb2:n+m<=140737488355328)
  (k:∀v' w',(∀j u,xs[j]?=some u->w'.cell? ⟨g,j,none⟩=some u)->OwnS S w0 w' (L.set i (.urow E sz v' (n+m) (xs++news)))->K v' w'):DoX P (mB .append #[T,T] U cs #[.slice (some ⟨g,0,none⟩) n cap,v2]) w PK K:=by
 obtain⟨v',w',r,t⟩:=yJ (cs:=cs) (U:=U) ht he hsz (ho.at_ i hi) hs h1 hb hb2;exact jU r (k _ _ (fun j u hj=>Mr ht he hsz (ho.at_ i hi) hs hm h1 hb hb2 r t.is hj) (ho.turn i hi t))
theorem HU (i:Nat){T E:TypeId}{cs:Array Bool}{n:Nat}{l:List UInt8}(ht:P.underlying T=some (.slice E))(hu:P.underlying U2=some .string)(he:elB P E 1 1=true)(h8:P.underlying E=some (.int .u8))
  (hz8:(P.info? E).bind (·.zero)=some (.int .u8 0)) (ho:OwnS S w0 w L) (hi:L[i]?=some (.urow E 1 v n xs)) (hb2:n+l.length<=140737488355328)
  (k:∀v' w',OwnS S w0 w' (L.set i (.urow E 1 v' (n+l.length) (xs++aH l)))->K v' w'):DoX P (mB .append #[T,U2] U cs #[v,.string ⟨l.toArray⟩]) w PK K:=by
 obtain⟨v',w',r,t⟩:=BL (cs:=cs) (U:=U) ht hu he h8 hz8 (ho.at_ i hi) hb2;exact jU r (k _ _ (ho.turn i hi t))
end
end Eng
end
section
open Eng Go.RowKit
def Fl.back (d:Nat):Nat->List UInt8->List UInt8
|0,out=>out
|n+1,out=>Fl.back d n (out++[out.getD (out.length - d) 0])
theorem Fl.Ni (d:Nat):∀(n:Nat) (out:List UInt8),(Fl.back d n out).length=out.length+n
|0,out=>rfl
|n+1,out=>by rw[Fl.back,Fl.Ni d n,agZ,ajJ];omega
theorem Fl.Um (i:Nat):1<=Fl.farF i:=by
 unfold Fl.farF
 induction i with
|zero=>decide
|succ i ih=>exact ajZ ih (Nat.le_add_right _ _)
def Fl.copied (far:List Nat)(s:List UInt8)(p sign:Nat)(out:List UInt8)(most:Nat):List UInt8×Nat×Int:=
 if 285 < sign then (out,p,13)
 else if 8*s.length < p+Fl.oQ (sign - 257) then (out,p,4)
 else
  let size:=Fl.Dl (sign - 257)+Fl.num s p (Fl.oQ (sign - 257))
  let r:=Fl.sign far s (p+Fl.oQ (sign - 257))
  if r.2.2≠0 then (out,p,r.2.2)
  else if 29 < r.1 then (out,p,13)
  else if 8*s.length < r.2.1+Fl.farB r.1 then (out,p,4)
  else
   let d:=Fl.farF r.1+Fl.num s r.2.1 (Fl.farB r.1)
   if out.length < d then (out,p,14)
   else if most < out.length+size then (out,p,5)
   else (Fl.back d size out,r.2.1+Fl.farB r.1,0)
theorem YW {b:Int}:(mFld 371 (snV a b) 1).run prog W=.ok (.value (.int .i64 b)) W:=krx
theorem abP {b:Int}:DoX prog (mFld 371 (snV a b) 1) w PK K=K (.int .i64 b) w:=aE YW
section
variable {w:World}{PK:PKT}{K:VWP}{S:Nat->Prop}{w0:World}{L:List Ent}
theorem Wo (ho:OwnS S w0 w L)(j:Nat){ov:Value}{most:Int}(hi:L[j]?=some (flE b rb ov most)):DoX prog (aI 53 (.pointer (some ⟨b,0+1,none⟩))) w PK K=K ov w:=aO G3 (ho.cell j hi 1 rfl)
theorem MB (j:Nat){ov ov':Value}{most:Int}(h:ov'.oneCell'=true)(ho:OwnS S w0 w L)(hi:L[j]?=some (flE b rb ov most))(k:∀w',OwnS S w0 w' (L.set j (flE b rb ov' most))->K undef w') :
  DoX prog (aS 53 (.pointer (some ⟨b,0+1,none⟩)) ov') w PK K:=aN j ho hi krx h (by show 0+1 < 3;omega) k
theorem elU8:elB prog 5 1 1=true:=krx
theorem V5 (c:UInt8)(ho:OwnS S w0 w L)(k:∀b w',OwnS S w0 w' (.cells b (aH [c]) 5::L)->K (.slice (some ⟨b,0,none⟩) 1 1) w'):DoX prog (bN 53 1 #[(0,.int .u8 (c.toNat:Int))]) w PK K:=
 bC (fun b=>.slice (some ⟨b,0,none⟩) 1 1) (aH [c]) 5 (fun _=>by kernel_rfl) ho k
abbrev Fs (fb rb:Nat)(s:List UInt8)(most:Nat)(ov:Value)(way:Int)(p:Nat)(out:List UInt8)(R:List Ent):List Ent:=flE fb rb ov (most:Int)::bqE rb s way p::outR ov out::R
theorem Hh {ov:Value}{most:Int}(h:(flE b rb ov most).is W):(aI 53 (.pointer (some ⟨b,0+1,none⟩))).run prog W=.ok (.value ov) W:=aB G3 (aG (T:=278) (cs:=flC rb ov most) h rfl)
theorem Ck {ov:Value}{out:List UInt8}(h:(outR ov out).is W):Sl W ov 1 out.length (aH out):=Sl.urow h
theorem gQ {l:List UInt8}(hi:i < l.length):(aH l)[i]?=some (.int .u8 (l[i].toNat:Int)):=by
 unfold aH;rw[alG,ahH hi];rfl
theorem nU8l:eF prog 5=true:=krx
theorem eY {l:List UInt8}:∀u∈aH l,u.oneCell'=true:=by
 unfold aH;intro u hu;obtain⟨c,_,rfl⟩:=aiD.1 hu;rfl
theorem UG {ov:Value}{s:List UInt8}{out:List UInt8}{lens:List Nat}{R:List Ent}(jm:Nat)(ho:OwnS S w0 w (Fs fb rb s most ov way p out R))(hm:R[jm]?=some (.mem M))(ht:TbAt M.A M.w tb lens)(hl:lens.length<=1000)(hw:way=0∨way=1)(hp:p<=8*s.length)(hs:s.length<=1000000000)(hmo:most<=1000000000)(hol:out.length<=most)(hi:i<=1000)
  (k1:(Fl.copied lens s p (257+i) out most).2.2=0->(Fl.copied lens s p (257+i) out most).2.1<=8*s.length->(Fl.copied lens s p (257+i) out most).1.length<=most->∀way' ov' W,(way'=0∨way'=1)->OwnS S w0 W (Fs fb rb s most ov' way' (Fl.copied lens s p (257+i) out most).2.1 (Fl.copied lens s p (257+i) out most).1 R)->K (.tuple #[]) W)
  (k2:(Fl.copied lens s p (257+i) out most).2.2≠0->∀ov' way' p' out' W,OwnS S w0 W (Fs fb rb s most ov' way' p' out' R)->PK [upI (Fl.copied lens s p (257+i) out most).2.2] W) :
  CallX prog 348 #[.pointer (some ⟨fb,0,none⟩),.int .i64 ((257+i:Nat):Int),.pointer (some ⟨tb,0,none⟩)] w PK K:=by
 generalize hX:Fl.copied lens s p (257+i) out most=X at k1 k2;refine⟨qU ?_⟩;unfold jZ nz;unfold Fl.copied at hX;simp only[rs];refine iJ (fun h1=>?_) (fun h1=>?_)
 rotate_left
 ·have:=aiK h1;rw[agW om] at hX;subst hX;exact k2 (by dsimp only;decide) _ _ _ _ _ ho
 have h1:=ahO h1;have hi28:i<=28:=om
 rw[agV om,amX] at hX;obtain⟨hz1,hz2⟩:=Fl.O5 hi28;rw[aA om om,show ((257+i:Nat):Int) - 257=(i:Int) by omega];refine aL ho (R:=fun v=>v=snV (Fl.Dl i) (Fl.oQ i)) (Kn i w hi28) ?_;rintro _ w1 rfl ho;rw[abP];refine nY 0 1 ho rfl rfl hw hp om hs (fun h2 W ho=>?_) (fun h2 W ho=>?_)
 rotate_left
 ·rw[agW h2] at hX;subst hX;exact k2 (by dsimp only;decide) _ _ _ _ _ ho
 rw[agV om] at hX;dsimp only at hX;have hwy:(if 0 < Fl.oQ i then (1:Int) else way)=0∨(if 0 < Fl.oQ i then (1:Int) else way)=1:=by split;exact .inr rfl;exact hw
 have ho:OwnS S w0 W (Fs fb rb s most ov (if 0 < Fl.oQ i then 1 else way) (p+Fl.oQ i) out R):=ho;generalize (if 0 < Fl.oQ i then (1:Int) else way)=way2 at ho hwy;have hnl:=Fl.wX s p (Fl.oQ i);refine aL ho (R:=fun v=>v=.tuple #[.int .i64 ((Fl.Dl i+Fl.num s p (Fl.oQ i):Nat):Int),.int .i64 0]) (QT i _ W hi28 hnl) ?_;rintro _ w2 rfl ho;simp only[ex];refine tS (fun _=>?_) (fun h=>absurd rfl h);have hsz:Fl.Dl i+Fl.num s p (Fl.oQ i)<=100000:=by
  have:2 ^ Fl.oQ i<=2 ^ 5:=aiY dc hz2;omega
 generalize Fl.Dl i+Fl.num s p (Fl.oQ i)=sz at hX hsz
 try rw[aV]
 rw[Lm,RI ho 0 rfl];refine MP 1 (jm+3) om ho rfl hm ht hl hwy om hs fun way3 W3 hw3 hp3 ho=>?_;have ho:OwnS S w0 W3 (Fs fb rb s most ov way3 (Fl.sign lens s (p+Fl.oQ i)).2.1 out R):=ho;generalize Fl.sign lens s (p+Fl.oQ i)=T at hX ho hp3;obtain⟨fi,q,e⟩:=T;dsimp only at hX ho hp3;simp only[ex];refine tS (fun h3=>?_) (fun h3=>?_)
 rotate_left
 ·rw[agW h3] at hX;subst hX;exact k2 h3 _ _ _ _ _ ho
 rw[agV (by rw[h3];decide)] at hX;simp only[rs];refine iJ (fun h4=>?_) (fun h4=>?_)
 rotate_left
 ·have:=aiK h4;rw[agW om] at hX;subst hX;exact k2 (by dsimp only;decide) _ _ _ _ _ ho
 have h4:=ahO h4;have hf29:fi<=29:=om
 rw[agV om] at hX;obtain⟨hf1,hf2⟩:=Fl.Sa hf29;refine aL ho (R:=fun v=>v=snV (Fl.farF fi) (Fl.farB fi)) (ND fi W3 om) ?_;rintro _ w4 rfl ho;rw[abP];refine nY 0 1 ho rfl rfl hw3 hp3 om hs (fun h5 W ho=>?_) (fun h5 W ho=>?_)
 rotate_left
 ·rw[agW h5] at hX;subst hX;exact k2 (by dsimp only;decide) _ _ _ _ _ ho
 rw[agV om] at hX;have hwy:(if 0 < Fl.farB fi then (1:Int) else way3)=0∨(if 0 < Fl.farB fi then (1:Int) else way3)=1:=by split;exact .inr rfl;exact hw3
 have ho:OwnS S w0 W (Fs fb rb s most ov (if 0 < Fl.farB fi then 1 else way3) (q+Fl.farB fi) out R):=ho;generalize (if 0 < Fl.farB fi then (1:Int) else way3)=way5 at ho hwy;have hnl:=Fl.wX s q (Fl.farB fi);refine aL ho (R:=fun v=>v=.tuple #[.int .i64 ((Fl.farF fi+Fl.num s q (Fl.farB fi):Nat):Int),.int .i64 0]) (Uu fi _ W hf29 hnl) ?_;rintro _ w6 rfl ho;simp only[ex];refine tS (fun _=>?_) (fun h=>absurd rfl h);have hfp:=Fl.Um fi;have hd1:1<=Fl.farF fi+Fl.num s q (Fl.farB fi):=om
 generalize Fl.farF fi+Fl.num s q (Fl.farB fi)=d at hX hd1
 try rw[aV]
 rw[aK xJ,Wo ho 0 rfl,bB ahX (Ck (ho.at_ 2 rfl))];simp only[rs];refine iJ (fun h6=>?_) (fun h6=>?_)
 rotate_left
 ·have:=aiK h6;rw[agW om] at hX;subst hX;exact k2 (by dsimp only;decide) _ _ _ _ _ ho
 have h6:=ahO h6;rw[agV om] at hX;refine Q1 (n:=sz) 0 2 ho rfl rfl om om om (fun h7 W ho=>?_) (fun h7 W ho=>?_)
 rotate_left
 ·rw[agW om] at hX;subst hX;exact k2 (by dsimp only;decide) _ _ _ _ _ ho
 rw[agV om] at hX;refine loop (fun vs W=>∃(k:Nat) (ov':Value) (out':List UInt8),vs=[.int .i64 k]∧k<=sz∧d<=out'.length∧out'.length+(sz - k)<=most∧Fl.back d (sz - k) out'=X.1∧OwnS S w0 W (Fs fb rb s most ov' way5 (q+Fl.farB fi) out' R)) (fun vs _=>sz - n0 vs) ⟨0,ov,out,rfl,om,om,om,by rw[<-hX];rfl,ho⟩ ?_;clear ho;rintro vs w7 ⟨k,ov',out',rfl,hk,hd',hlm,hbk,ho⟩ _;simp only[iM,gd,rs,iN,bnx];by_cases hlt:(k:Int) < (sz:Int)
 ·simp only[hlt,agY,i_t];have ho:=ho.drew;have hpos:out'.length - d < out'.length:=om
  obtain⟨ga,gcap,rfl⟩:=oN (ho.at_ 2 rfl) om;obtain⟨cb,coff,ccap,e1,r2⟩:=cB (Ck (ho.at_ 2 rfl)) om
  injection e1 with e1 e2 e3
  injection e1 with e1
  injection e1 with e1 e4
  subst e1;subst e4;refine⟨fun W=>(flE fb rb (.slice (some ⟨ga,0,none⟩) out'.length gcap) most).is W∧W.cell? ⟨ga,out'.length - d,none⟩=some (.int .u8 (out'[out'.length - d].toNat:Int)),⟨ho.at_ 0 rfl,?_⟩,?_⟩
  ·have:=r2 _ _ (gQ hpos)
   rwa [ahJ] at this
  refine aM _ (fun _=>cM) (aM _ (fun _=>bY xJ) (sN _ (fun W h=>Hh h.1) ?_));refine aM _ (fun _=>cM) (aM _ (fun _=>bY xJ) (sN _ (fun W h=>Hh h.1) ?_));refine aM _ (fun _=>cM) (aM _ (fun _=>bY xJ) (sN _ (fun W h=>Hh h.1) ?_));refine aM (.int .i64 (out'.length:Int)) (fun W=>by simp[mB,builtin,Builtin.len_,run_underlying ahX,goInt]) ?_;refine aM _ (fun W=>bL (by simp[binOp];rfl)) ?_;rw[aA om om,show (out'.length:Int) - (d:Int)=((out'.length - d:Nat):Int) by omega];refine aM (.pointer (some ⟨ga,out'.length - d,none⟩)) (fun W=>?_) ?_
  ·have:=eE (P:=prog) (T:=53) (b:=ga) (off:=0) (cap:=gcap) (n:=out'.length) (k:=.i64) (i:=((out'.length - d:Nat):Int)) (w:=W) ahX (show _=some 1 by kernel_rfl) om om
   rwa [ahI,ahZ,ahJ] at this
  refine sN _ (fun W h=>aB nU8l h.2) ?_;generalize hc:out'[out'.length - d]=c;refine V5 c ho fun b8 w8 ho=>?_;refine⟨⟨ho.at_ 1 rfl,?_⟩,?_⟩
  ·obtain⟨_,_,_,e1,r2⟩:=cB (Ck (ho.at_ 3 rfl)) om
   injection e1 with e1 e2 e3
   injection e1 with e1
   injection e1 with e1 e4
   subst e1;subst e4;have:=r2 _ _ (gQ hpos);rw[ahJ,hc] at this;exact this
  refine QI 3 ahX elU8 dc ho rfl (lX (ho.at_ 0 rfl) dc rfl) dc eY om om fun v' w9 hkp ho=>?_;have hov:v'.oneCell'=true:=dQ (ho.at_ 3 rfl);refine⟨⟨ho.at_ 1 rfl,?_⟩,?_⟩
  ·have:=hkp _ _ (gQ hpos);rw[hc] at this;exact this
  refine aM _ (fun _=>cM) (aM _ (fun _=>bY xJ) ?_);refine MB 1 hov ho rfl fun w10 ho=>?_;have ho:OwnS S w0 w10 (.cells b8 (aH [c]) 5::Fs fb rb s most v' way5 (q+Fl.farB fi) (out'++[c]) R):=by
   have e:outR v' (out'++[c])=.urow 5 1 v' (out'.length+1) (aH out'++aH [c]):=by
    unfold outR aH;rw[agZ,aiN];rfl
   show OwnS S w0 w10 (.cells b8 (aH [c]) 5::flE fb rb v' (most:Int)::bqE rb s way5 (q+Fl.farB fi)::outR v' (out'++[c])::R);rw[e];exact ho
  rw[aA om om];refine aY ⟨k+1,v',out'++[c],rfl,om,by rw[agZ];omega,by rw[agZ,ajJ];omega,?_,ho.tail⟩ (by simp[n0,RowKit.intOf];omega);rw[<-hbk,show sz - k=(sz - (k+1))+1 by omega,Fl.back,ahC,ahH hpos,<-hc];rfl
 ·simp only[hlt,agX,i_f];have hks:k=sz:=om
  subst hks;rw[akF,Fl.back] at hbk;rw[<-hX] at hbk;rw[<-hX] at k1;dsimp only at hbk k1;have:=k1 rfl om (by rw[<-hbk];omega) way5 ov' w7 hwy (by rw[<-hbk];exact ho);exact this
end
end
section
open Eng Go.RowKit
def bqAt (b:Nat)(w:World):Nat:=match w.cell? ⟨b,1,none⟩,w.cell? ⟨b,3,none⟩ with|some (.int _ u),some (.int _ a)=>8*a.toNat+u.toNat|_,_=>0
theorem Hk {s:List UInt8}(h:(bqE b s way p).is w):bqAt b w=p:=by
 unfold bqAt;rw[show w.cell? ⟨b,1,none⟩=some (.int .i64 ((p % 8:Nat):Int)) from aG (T:=317) (cs:=bqC s way p) h rfl,show w.cell? ⟨b,3,none⟩=some (.int .i64 ((p / 8:Nat):Int)) from aG (T:=317) (cs:=bqC s way p) h rfl];show 8*((p / 8:Nat):Int).toNat+((p % 8:Nat):Int).toNat=p;omega
theorem Fl.Kw (lens:List Nat)(s:List UInt8):∀(f l p code:Nat),(Fl.Bf lens s f l p code).2.2=0->p < (Fl.Bf lens s f l p code).2.1
|0,_,_,_,h=>by simp[Fl.Bf] at h
|f+1,l,p,code,h=>by
  unfold Fl.Bf at h ⊢;split
  ·rename_i h1;rw[agW h1] at h;simp at h
  rename_i h1;rw[agV h1] at h
  split
  ·rename_i h2;rw[agW h2] at h;simp at h
  rename_i h2;rw[agV h2] at h
  split
  ·exact Nat.lt_succ_self _
  rename_i h3;rw[agV h3] at h
  have:=Fl.Kw lens s f (l+1) (p+1) (2*code+Fl.bit s p) h;omega
theorem Fl.Fw {lens:List Nat}{s:List UInt8}{p:Nat}(h:(Fl.sign lens s p).2.2=0):p < (Fl.sign lens s p).2.1:=Fl.Kw lens s 16 0 p 0 h
theorem Fl.IL {far:List Nat}{s:List UInt8}{p sign most:Nat}{out:List UInt8}(h:(Fl.copied far s p sign out most).2.2=0):p<=(Fl.copied far s p sign out most).2.1:=by
 unfold Fl.copied at h ⊢;split
 ·exact ahD _
 rename_i h1;rw[agV h1] at h
 split
 ·exact ahD _
 rename_i h2;rw[agV h2] at h
 dsimp only at h ⊢;split
 ·exact ahD _
 rename_i h3;rw[agV h3] at h
 have:=Fl.Fw (Decidable.not_not.1 h3);split
 ·exact ahD _
 rename_i h4;rw[agV h4] at h
 split
 ·exact ahD _
 rename_i h5;rw[agV h5] at h
 split
 ·exact ahD _
 rename_i h6;rw[agV h6] at h
 split
 ·exact ahD _
 dsimp only;omega
def Fl.vA (near far:List Nat)(s:List UInt8)(most:Nat):Nat->Nat->List UInt8->List UInt8×Nat×Int
|0,p,out=>(out,p,13)
|f+1,p,out=>
  let r:=Fl.sign near s p
  if r.2.2≠0 then (out,p,r.2.2)
  else if r.1 < 256 then if most < out.length+1 then (out,p,5) else Fl.vA near far s most f r.2.1 (out++[UInt8.ofNat r.1])
  else if r.1=256 then (out,r.2.1,0)
  else
   let c:=Fl.copied far s r.2.1 r.1 out most
   if c.2.2≠0 then (out,p,c.2.2) else Fl.vA near far s most f c.2.1 c.1
def Fl.rE (near far:List Nat)(s:List UInt8)(most p:Nat)(out:List UInt8):List UInt8×Nat×Int:=Fl.vA near far s most (8*s.length+1 - p) p out
theorem Fl.O4 (lens:List Nat):∀(l i:Nat),i∈Fl.order lens l->i < lens.length
|0,i,h=>by cases h
|l+1,i,h=>by
  rw[Fl.order,aiC] at h;rcases h with h|h
  ·exact Fl.O4 lens l i h
  ·unfold Fl.Hq at h;have:=(List.mem_filter.1 h).1;exact aiV.1 this
theorem Fl.JI {lens:List Nat}(s:List UInt8)(h0:0 < lens.length):∀(f l p code:Nat),(Fl.Bf lens s f l p code).1 < lens.length
|0,_,_,_=>by simpa[Fl.Bf] using h0
|f+1,l,p,code=>by
  unfold Fl.Bf;split
  ·exact h0
  split
  ·exact h0
  split
  ·dsimp only;rw[ahC];rcases h:(Fl.order lens 15)[Fl.aX lens l+(2*code+Fl.bit s p - Fl.first lens (l+1))]? with _|x
   ·exact h0
   ·exact Fl.O4 lens 15 x (akM h)
  ·exact Fl.JI s h0 f _ _ _
theorem Fl.XA {lens:List Nat}(s:List UInt8)(p:Nat):(Fl.sign lens s p).1<=lens.length:=by
 rcases ajV lens.length with h|h
 ·have:lens=[]:=akY h;subst this;simp[Fl.sign,Fl.Bf,Fl.aX]
 ·exact Nat.le_of_lt (Fl.JI s h 16 0 p 0)
theorem cU8 {n:Nat}(h:n < 256):(gL 3 5 (.int .i64 (n:Int))).run prog W=.ok (.value (.int .u8 ((UInt8.ofNat n).toNat:Int))) W:=by
 have:=bO (P:=prog) (S:=3) (D:=5) (k:=.i64) (n:=(n:Int)) (w:=W) krx aiL;rw[this]
 congr 3
section
variable {w:World}{PK:PKT}{K:VWP}{S:Nat->Prop}{w0:World}
theorem SJ {td:Nat}{ov:Value}{s:List UInt8}{out:List UInt8}{far:List Nat}{R:List Ent}(jm:Nat)(ho:OwnS S w0 w (Fs fb rb s most ov way p out R))(hm:R[jm]?=some (.mem M))(ht:TbAt M.A M.w tb near)(ht2:TbAt M.A M.w td far)(hl:near.length<=1000)(hl2:far.length<=1000)(hw:way=0∨way=1)(hp:p<=8*s.length)(hs:s.length<=1000000000)(hmo:most<=1000000000)(hol:out.length<=most)
  (k1:(Fl.rE near far s most p out).2.2=0->(Fl.rE near far s most p out).2.1<=8*s.length->(Fl.rE near far s most p out).1.length<=most->∀way' ov' W,(way'=0∨way'=1)->OwnS S w0 W (Fs fb rb s most ov' way' (Fl.rE near far s most p out).2.1 (Fl.rE near far s most p out).1 R)->K (.tuple #[]) W)
  (k2:(Fl.rE near far s most p out).2.2≠0->∀ov' way' p' out' W,OwnS S w0 W (Fs fb rb s most ov' way' p' out' R)->PK [upI (Fl.rE near far s most p out).2.2] W) :
  CallX prog 337 #[.pointer (some ⟨fb,0,none⟩),.pointer (some ⟨tb,0,none⟩),.pointer (some ⟨td,0,none⟩)] w PK K:=by
 generalize hX:Fl.rE near far s most p out=X at k1 k2;refine⟨sD ?_⟩;unfold kY nz;refine loop (fun vs W=>∃(p:Nat) (way:Int) (ov:Value) (out:List UInt8),vs=[]∧(way=0∨way=1)∧p<=8*s.length∧out.length<=most∧(∃f,8*s.length+1 - p<=f∧Fl.vA near far s most f p out=X)∧OwnS S w0 W (Fs fb rb s most ov way p out R)) (fun _ w=>8*s.length+1 - bqAt rb w) ⟨p,way,ov,out,rfl,hw,hp,hol,⟨_,ahD _,hX⟩,ho⟩ ?_;clear ho hX hp hw hol;rintro vs w1 ⟨p,way,ov,out,rfl,hw,hp,hol,⟨f,hf,hX⟩,ho⟩ _;have hat:bqAt rb w1=p:=Hk (ho.at_ 1 rfl);unfold jO nz;obtain⟨f,rfl⟩:∃f',f=f'+1:=⟨f - 1,om⟩;rw[Fl.vA] at hX;dsimp only at hX;rw[aV,Lm,RI ho 0 rfl];refine MP 1 (jm+3) om ho rfl hm ht hl hw hp hs fun way3 W3 hw3 hp3 ho=>?_;have ho:OwnS S w0 W3 (Fs fb rb s most ov way3 (Fl.sign near s p).2.1 out R):=ho;have hadv:=@Fl.Fw near s p;have hle:=@Fl.XA near s p;generalize Fl.sign near s p=T at hX ho hp3 hadv hle;obtain⟨g,q,e⟩:=T;dsimp only at hX ho hp3 hadv hle;simp only[ex];refine tS (fun h3=>?_) (fun h3=>?_)
 rotate_left
 ·rw[agW h3] at hX;subst hX;exact k2 h3 _ _ _ _ _ ho
 rw[agV (by rw[h3];decide)] at hX;have hadv:=hadv h3;simp only[rs];by_cases h256:(g:Int) < 256
 ·simp only[h256,agY,i_t];rw[agW om] at hX;refine Q1 (n:=1) 0 2 ho rfl rfl om om om (fun h7 W ho=>?_) (fun h7 W ho=>?_)
  rotate_left
  ·rw[agW om] at hX;subst hX;exact k2 (by dsimp only;decide) _ _ _ _ _ ho
  rw[agV om] at hX
  try rw[aV]
  rw[aK xJ,Wo ho 0 rfl];refine aE (cU8 om) |>.mpr ?_;refine V5 _ ho fun b8 w8 ho=>?_;refine cL 3 ahX elU8 dc ho rfl (lX (ho.at_ 0 rfl) dc rfl) eY om om fun v' w9 ho=>?_;have hov:v'.oneCell'=true:=dQ (ho.at_ 3 rfl)
  try rw[aV]
  rw[aK xJ];refine MB 1 hov ho rfl fun w10 ho=>?_;have ho:OwnS S w0 w10 (.cells b8 (aH [UInt8.ofNat g]) 5::Fs fb rb s most v' way3 q (out++[UInt8.ofNat g]) R):=by
   have e:outR v' (out++[UInt8.ofNat g])=.urow 5 1 v' (out.length+1) (aH out++aH [UInt8.ofNat g]):=by
    unfold outR aH;rw[agZ,aiN];rfl
   show OwnS S w0 w10 (.cells b8 (aH [UInt8.ofNat g]) 5::flE fb rb v' (most:Int)::bqE rb s way3 q::outR v' (out++[UInt8.ofNat g])::R);rw[e];exact ho
  have hat2:bqAt rb w10=q:=Hk (ho.at_ 2 rfl);refine aY ⟨q,way3,v',_,rfl,hw3,hp3,by rw[agZ,ajJ];omega,⟨f,om,hX⟩,ho.tail⟩ (by show 8*s.length+1 - bqAt rb w10 < 8*s.length+1 - bqAt rb w1;rw[hat,hat2];omega)
 simp only[h256,agX,i_f];rw[agV om] at hX
 try simp only[rs]
 by_cases h0:(g:Int)=256
 ·simp only[h0,agY,i_t];rw[agW om] at hX;subst hX;exact k1 rfl hp3 hol _ _ _ hw3 ho
 simp only[h0,agX,i_f];rw[agV om] at hX;obtain⟨i,rfl⟩:∃i,g=257+i:=⟨g - 257,om⟩;have hca:=@Fl.IL far s q (257+i) most out;refine UG jm ho hm ht2 hl2 hw3 hp3 hs hmo hol om (fun h8 h9 h10 way4 ov4 W4 hw4 ho=>?_) (fun h8 ov4 way4 p4 out4 W4 ho=>?_)
 rotate_left
 ·rw[agW h8] at hX;subst hX;exact k2 h8 _ _ _ _ _ ho
 rw[agV (by rw[h8];decide)] at hX;have hca:=hca h8;generalize Fl.copied far s q (257+i) out most=C at hX ho hca h9 h10;have hat2:bqAt rb W4=C.2.1:=Hk (ho.at_ 1 rfl);refine aY ⟨C.2.1,way4,ov4,C.1,rfl,hw4,h9,h10,⟨f,om,hX⟩,ho⟩ (by show 8*s.length+1 - bqAt rb W4 < 8*s.length+1 - bqAt rb w1;rw[hat,hat2];omega)
end
end
def Fl.ksum (lens:List Nat):Nat:=(lens.map fun l=>if l=0 then 0 else 2 ^ (15 - l)).sum
theorem Fl.TV (m:Nat):Fl.gB [] m=0:=by
 induction m with
|zero=>rfl
|succ m ih=>simp[Fl.gB,ih]
theorem Fl.PV (l:Nat)(ls:List Nat)(m:Nat):Fl.gB (l::ls) m=Fl.gB ls m+(if l=0 then 0 else if l<=m then 2 ^ (15 - l) else 0):=by
 induction m with
|zero=>
  simp only[Fl.gB];split;·rfl
  ·rw[agV om]
|succ m ih=>
  rw[Fl.gB,ih,Fl.gB,List.count_cons];by_cases h:l=m+1
  ·subst h;simp only[beq_self_eq_true,if_true,ajU,amJ];rw[agV om,agV om,agV om,agW (ahD _)];omega
  ·have hb:(l==m+1)=false:=by simp[h]
   rw[hb];simp only[alV,if_false,aiZ];by_cases h0:l=0
   ·simp[h0]
   ·rw[agV h0,agV h0];by_cases hm:l<=m
    ·rw[agW hm,agW om];omega
    ·rw[agV hm,agV om];simp
theorem Fl.HZ:∀{lens:List Nat},(∀l∈lens,l<=15)->Fl.ksum lens=Fl.gB lens 15
|[],_=>by rw[Fl.TV];rfl
|l::ls,h=>by
  have ih:=Fl.HZ (lens:=ls) fun x hx=>h x (aiB _ hx);have h1:=h l (aiS ..);unfold Fl.ksum at ih ⊢;rw[aiW,akX,ih,Fl.PV,agW h1];omega
theorem Fl.IF (lens:List Nat)(l:Nat):∀m,l<=m->∃t,Fl.order lens m=Fl.order lens l++t
|0,h=>by
  obtain rfl:l=0:=om
  exact⟨[],sm⟩
|m+1,h=>by
  rcases ahY l (m+1) with h'|h'
  ·obtain⟨t,ht⟩:=Fl.IF lens l m om;exact⟨t++Fl.Hq lens (m+1),by rw[Fl.order,ht,ahK]⟩
  ·have:l=m+1:=om
   subst this;exact⟨[],sm⟩
theorem Fl.SL {lens:List Nat}{l k:Nat}(hl:l < 15)(hk:k < lens.count (l+1)):(Fl.order lens 15).getD (Fl.aX lens l+k) 0=(Fl.Hq lens (l+1)).getD k 0:=by
 obtain⟨t,ht⟩:=Fl.IF lens (l+1) 15 om;rw[ht,Fl.order,ahK,ahC,ajO (by rw[Fl.CR];omega),Fl.CR,amX,
  ajA (by rw[Fl.G6];exact hk),ahC]
end Go.Proofs.YtlipjfcbjemicaaGreatDoor


namespace Go.Proofs.YtlipjfcbjemicaaGreatDoor
variable{A:Nat->Prop}{C:World->Prop}{K:VWP}{L:List Eng.Ent}{M:Eng.Mem}{P:Program}{PK:PKT}{U U2:TypeId}{W w w' w0:World}{a way:Int}{b cap fb i j m most p rb sz tb:Nat}{c v v' v2:Value}{cb:Array Bool}{cl l near:List Nat}{cs news xs:List Value}{q:Bool}{xo yo:Operand}{α:Type}
section
open Eng Go.RowKit
theorem afP (a b:Nat):((a:Nat):Int).tmod ((b:Nat):Int)=((a % b:Nat):Int):=rfl
end
section
open Eng Go.RowKit
def Fl.stored (s:List UInt8)(most p:Nat)(out:List UInt8):List UInt8×Nat×Int:=
 let a:=(p+7) / 8*8
 if 8*s.length < a+16 then (out,p,4)
 else if 8*s.length < a+32 then (out,p,4)
 else if Fl.num s a 16+Fl.num s (a+16) 16≠65535 then (out,p,3)
 else if most < out.length+Fl.num s a 16 then (out,p,5)
 else if 8*s.length < a+32+8*Fl.num s a 16 then (out,p,4)
 else (out++(s.drop (a / 8+4)).take (Fl.num s a 16),a+32+8*Fl.num s a 16,0)
theorem FN {a b:List UInt8}:outR v (a++b)=.urow 5 1 v (a.length+b.length) (aH a++aH b):=by
 unfold outR aH;rw[agZ,aiN]
theorem OC {ov:Value}{most:Int}(h:(flE b rb ov most).is W):(aI 275 (.pointer (some ⟨b,0,none⟩))).run prog W=.ok (.value (.pointer (some ⟨rb,0,none⟩))) W:=aB Wu (aG (T:=278) (cs:=flC rb ov most) h rfl)
theorem z8U:(Tryz.prog.info? 5).bind (·.zero)=some (.int .u8 0):=krx
section
variable {w:World}{PK:PKT}{K:VWP}{S:Nat->Prop}{w0:World}
theorem Uv {ov:Value}{s:List UInt8}{out:List UInt8}{R:List Ent}(ho:OwnS S w0 w (Fs fb rb s most ov way p out R))(hw:way=0∨way=1)(hp:p<=8*s.length)(hs:s.length<=1000000000)(hmo:most<=1000000000)(hol:out.length<=most)
  (k1:(Fl.stored s most p out).2.2=0->(Fl.stored s most p out).2.1<=8*s.length->(Fl.stored s most p out).1.length<=most->∀way' ov' W,(way'=0∨way'=1)->OwnS S w0 W (Fs fb rb s most ov' way' (Fl.stored s most p out).2.1 (Fl.stored s most p out).1 R)->K (.tuple #[]) W)
  (k2:(Fl.stored s most p out).2.2≠0->∀ov' way' p' out' W,OwnS S w0 W (Fs fb rb s most ov' way' p' out' R)->PK [upI (Fl.stored s most p out).2.2] W) :
  CallX prog 306 #[.pointer (some ⟨fb,0,none⟩)] w PK K:=by
 generalize hX:Fl.stored s most p out=X at k1 k2;refine⟨qM ?_⟩;unfold kI iN ldx bnx fax nlx eqx cx;unfold Fl.stored at hX;dsimp only at hX;rw[aV,Lm,RI ho 0 rfl];refine Yp 1 ho rfl hp hs fun W1 ho=>?_;have ho:OwnS S w0 W1 (Fs fb rb s most ov 0 ((p+7) / 8*8) out R):=ho;have ha8:(p+7) / 8*8 % 8=0:=om
 have hal:(p+7) / 8*8<=8*s.length:=om
 generalize (p+7) / 8*8=a at hX ho ha8 hal;refine nY (n:=16) 0 1 ho rfl rfl (.inl rfl) hal om hs (fun h1 W2 ho=>?_) (fun h1 W2 ho=>?_)
 rotate_left
 ·rw[agW h1] at hX;subst hX;exact k2 (by dsimp only;decide) _ _ _ _ _ ho
 rw[agV om] at hX;have ho:OwnS S w0 W2 (Fs fb rb s most ov 1 (a+16) out R):=ho;refine nY (n:=16) 0 1 ho rfl rfl (.inr rfl) h1 om hs (fun h2 W3 ho=>?_) (fun h2 W3 ho=>?_)
 rotate_left
 ·rw[agW om] at hX;subst hX;exact k2 (by dsimp only;decide) _ _ _ _ _ ho
 rw[agV om] at hX;have ho:OwnS S w0 W3 (Fs fb rb s most ov 1 (a+16+16) out R):=ho;have hn1:=Fl.wX s a 16;have hn2:=Fl.wX s (a+16) 16;have h16:(2:Nat) ^ 16=65536:=dc
 simp only[rs];rw[aA om om];refine iJ (fun h3=>?_) (fun h3=>?_)
 rotate_left
 ·have:=aiK h3;rw[agW om] at hX;subst hX;exact k2 (by dsimp only;decide) _ _ _ _ _ ho
 have h3:=ahO h3;rw[agV om] at hX;generalize Fl.num s a 16=n at hX hn1 h3;refine Q1 (n:=n) 0 2 ho rfl rfl om om om (fun h7 W4 ho=>?_) (fun h7 W4 ho=>?_)
 rotate_left
 ·rw[agW om] at hX;subst hX;exact k2 (by dsimp only;decide) _ _ _ _ _ ho
 rw[agV om] at hX;have ho:=ho.drew;refine⟨fun W=>(flE fb rb ov most).is W,ho.at_ 0 rfl,?_⟩;refine aM _ (fun _=>cM) (aM _ (fun _=>bY xJ) (sN _ (fun W h=>Hh h) ?_));refine aM _ (fun _=>cM) (aM _ (fun _=>bY RW) (sN _ (fun W h=>OC h) ?_));refine adT (n:=n) 1 ho rfl om om om hs (fun h5 W5 ho=>?_) (fun h5 W5 ho=>?_)
 rotate_left
 ·rw[agW om] at hX;subst hX;refine⟨ho.at_ 0 rfl,?_⟩;refine Ih (DS ?_);refine Nt (s:=[]) (fun h=>absurd h dc) fun _=>?_
  repeat intro _
  exact k2 (by dsimp only;decide) _ _ _ _ _ ho
 rw[agV om] at hX;have ho:OwnS S w0 W5 (Fs fb rb s most ov 1 (a+16+16+8*n) out R):=ho;refine⟨ho.at_ 0 rfl,?_⟩;refine Ih (DS ?_);refine Nt (fun _=>?_) fun h=>absurd rfl h;refine⟨ho.at_ 0 rfl,?_⟩;have hln:((s.drop ((a+16+16) / 8)).take n).length=n:=by rw[ahE,ahL];omega
 refine HU 2 ahX ahF elU8 aiL z8U ho rfl (by rw[hln];omega) fun v' w9 ho=>?_;have hov:v'.oneCell'=true:=dQ (ho.at_ 2 rfl);refine⟨ho.at_ 0 rfl,?_⟩;refine aM _ (fun _=>cM) (aM _ (fun _=>bY xJ) ?_);refine MB 0 hov ho rfl fun w10 ho=>?_;have ho:OwnS S w0 w10 (Fs fb rb s most v' 1 (a+16+16+8*n) (out++(s.drop ((a+16+16) / 8)).take n) R):=by
  show OwnS S w0 w10 (flE fb rb v' (most:Int)::bqE rb s 1 (a+16+16+8*n)::outR v' (out++(s.drop ((a+16+16) / 8)).take n)::R);rw[FN];exact ho
 rw[show (a+16+16) / 8=a / 8+4 by omega] at ho hln;subst hX;exact k1 rfl (by dsimp only;omega) (by dsimp only;rw[agZ,hln];omega) 1 v' w10 (.inr rfl) ho
end
end
section
open Eng Go.RowKit
theorem szI1:(Tryz.prog.info? 3).map (·.size)=some 1:=krx
theorem tR {l:List α}{n:Nat}{v:α}(h:(l.take n)[j]?=some v):l[j]?=some v:=by
 obtain⟨h1,h2⟩:=ahQ.1 h;rw[ahE] at h1;rw[ahH om,<-h2,anE]
section
variable {w:World}{PK:PKT}{K:VWP}{S:Nat->Prop}{w0:World}{L:List Ent}
theorem SI {b0 k:Nat}{x:Value}(i:Nat)(ho:OwnS S w0 w L)(hi:L[i]?=some (.cells b0 [x] 3))(hx:x.oneCell'=true)(hk:k<=1000)
  (kk:∀b w',OwnS S w0 w' (.cells b (List.replicate k x) 3::L)->K (.slice (some ⟨b,0,none⟩) k k) w') :
  CallX prog 320 #[.slice (some ⟨b0,0,none⟩) 1 1,.int .i64 (k:Int)] w PK K:=by
 refine⟨oW ?_⟩;unfold jL nz;refine join fun J hJ=>?_;rw[aaY,ahA om,i_f];refine hJ _ _ fun _=>?_;unfold iF nz;rw[bB ahS (lX (sz:=1) (ho.at_ i hi) dc rfl)];refine aE (bO krx amT) |>.mpr (aE (bO krx amT) |>.mpr ?_);rw[show IntKind.u64.wrap ((1:Nat):Int)=((1:Nat):Int) from rfl,show IntKind.u64.wrap (k:Int)=(k:Int) by unfold IntKind.wrap;simp[IntKind.bits,IntKind.signed];omega];refine fH (Tryz.bits_Mul 1 k dc om w) (fun e W ⟨he,hW⟩=>?_);subst he;subst hW;have e0:1*k / 18446744073709551616=0:=om
 have e1:1*k % 18446744073709551616=k:=om
 rw[e0,e1];show Cont _ _ _ _;simp only[Cont,ex];refine join fun J2 hJ2=>?_;simp only[rs,show decide ((0:Int) < ((0:Nat):Int))=false from rfl,show decide ((9223372036854775807:Int) < (k:Int))=false from ahA om];refine hJ2 _ _ fun _=>?_;unfold iB nz;refine aE (bO krx aiX) |>.mpr ?_;rw[show IntKind.i64.wrap (k:Int)=(k:Int) from aA om om];refine xQ om ho fun g w1 ho=>?_;have hi1:(.cells g (List.replicate k (.int .i64 0)) 3::L)[i+1]?=some (.cells b0 [x] 3):=hi;have hlr:(List.replicate k (Value.int .i64 0)).length=k:=aiE;have hcp:=GG (P:=prog) (dT:=123) (sT:=123) (ty:=3) (T:=3) (E:=3) (cb:=#[false,false]) (g:=g) (o:=0) (dLen:=k) (dCap:=k) (sz:=1) (a:=⟨b0,0,none⟩) (sLen:=1) (sCap:=1) (w:=w1) (cur:=List.replicate k (Value.int .i64 0)) (src:=[x].take (Nat.min 1 k)) ahS szI1 (ho.at_ 0 rfl) (by rw[ahE,ajJ];simp) (fun j v hj=>by
  have h0:[x][j]?=some v:=tR hj;rw[cC,ahJ];exact aG (T:=3) (ho.at_ (i+1) hi1) h0) (by rw[ahE,ajJ,hlr];have h2:Nat.min 1 k=min 1 k:=rfl;omega) (by
  intro v hv;have:=ajK hv;rw[aiA] at this;rw[this];exact hx)
 refine jU hcp ?_;have ho:=gP ho 0 rfl ((List.replicate k (Value.int .i64 0)).take 0++[x].take (Nat.min 1 k)++(List.replicate k (Value.int .i64 0)).drop (0+([x].take (Nat.min 1 k)).length));refine loop (fun vs W=>∃(n:Nat) (cur:List Value),vs=[.int .i64 n]∧n<=k∧(n=0->k=0)∧cur.length=k∧cur.take n=List.replicate n x∧OwnS S w0 W (.cells g cur 3::L)) (fun vs _=>k - n0 vs) ⟨Nat.min 1 k,_,rfl,Nat.min_le_right _ _,?_,?_,?_,ho⟩ ?_
 ·intro h;rcases ajV k with h0|h0
  ·exact h0
  ·have:Nat.min 1 k=1:=aiH h0;omega
 ·rcases ajV k with h0|h0
  ·subst h0;rfl
  ·rw[show Nat.min 1 k=1 from aiH h0];simp;omega
 ·rcases ajV k with h0|h0
  ·subst h0;rfl
  ·rw[show Nat.min 1 k=1 from aiH h0];rfl
 clear ho hcp;rintro vs w2 ⟨n,cur,rfl,hn,hn0,hcl,htk,ho⟩ _;simp only[iC,gd,bnx,lnx];rw[bB ahS (Sl.cells (ho.at_ 0 rfl) 1 k k (by rw[hcl,ahZ]))];simp only[rs];by_cases hlt:(n:Int) < (k:Int)
 ·simp only[hlt,agY,i_t];refine eB (fun W=>OwnS S w0 W (.cells g cur 3::L)) ho.drew ?_;refine q_do _ (fun _=>dJ ahS szI1 om om) (q_do _ (fun _=>jD ahS szI1 om om) ?_);intro w3 ho;rw[ahI,fC om,show subA (some ⟨g,0,none⟩) 0 k 1=some ⟨g,0,none⟩ from Ey (a:=⟨g,0,none⟩),ahJ,ahZ];have hcp:=GG (P:=prog) (dT:=123) (sT:=123) (ty:=3) (T:=3) (E:=3) (cb:=#[false,false]) (g:=g) (o:=n) (dLen:=k - n) (dCap:=k - n) (sz:=1) (a:=⟨g,0,none⟩) (sLen:=n) (sCap:=k) (w:=w3) (cur:=cur) (src:=cur.take (Nat.min n (k - n))) ahS szI1 (ho.at_ 0 rfl) (by
    rw[ahE,hcl,ahZ];have h1:=Nat.min_le_left n (k - n);have h2:Nat.min n (k - n)=min n (k - n):=rfl;omega) (fun j v hj=>by
   have h0:cur[j]?=some v:=tR hj;rw[cC,ahJ];exact aG (T:=3) (ho.at_ 0 rfl) h0) (by
    rw[ahE,hcl];have h2:Nat.min n (k - n)=min n (k - n):=rfl;omega) (by
   intro v hv;have h3:cur.take (Nat.min n (k - n))=(cur.take n).take (Nat.min n (k - n)):=by
    rw[alM]
    congr 1
    have h2:Nat.min n (k - n)=min n (k - n):=rfl;omega
   rw[h3,htk] at hv;have:=akB (ajK hv);rw[this];exact hx)
  refine jU hcp ?_;have ho:=gP ho 0 rfl (cur.take n++cur.take (Nat.min n (k - n))++cur.drop (n+(cur.take (Nat.min n (k - n))).length));have h2:Nat.min n (k - n)=min n (k - n):=rfl;have hm1:1<=Nat.min n (k - n):=om
  have hm2:Nat.min n (k - n)<=k - n:=om
  have hm3:Nat.min n (k - n)<=n:=om
  generalize Nat.min n (k - n)=m at ho hm1 hm2 hm3;rw[show goInt m=.int .i64 (m:Int) from rfl];simp only[rs];rw[aA om om];refine aY ⟨n+m,_,rfl,om,om,?_,?_,ho⟩ (by simp[n0,RowKit.intOf];omega)
  ·simp only[agZ,ahE,ahL,hcl];omega
  ·have h3:cur.take m=List.replicate m x:=by
    have:cur.take m=(cur.take n).take m:=by rw[alM];congr 1;omega
    rw[this,htk,List.take_replicate];congr 1;omega
   rw[htk,h3,aoH sm,aiF sm,List.replicate_append_replicate]
 ·simp only[hlt,agX,i_f];have:n=k:=om
  subst this;rw[aiF om] at htk;subst htk;exact kk g w2 ho
end
end
end Go.Proofs.YtlipjfcbjemicaaGreatDoor

namespace Go.Proofs.YtlipjfcbjemicaaGreatDoor
variable{A:Nat->Prop}{C:World->Prop}{K:VWP}{L:List Eng.Ent}{M:Eng.Mem}{P:Program}{PK:PKT}{U U2:TypeId}{W w w' w0:World}{a way:Int}{b cap fb i j m most p rb sz tb:Nat}{c v v' v2:Value}{cb:Array Bool}{cl l near:List Nat}{cs news xs:List Value}{q:Bool}{xo yo:Operand}{α:Type}
section
namespace Eng
open Go.RowKit
def intK (k:Int):Value:=.int .i64 k
def Nl (w:World)(b:Nat)(al:List (Int×Value)):Prop:=∃es clock,w.heap[b]?=some (.map es clock)∧es.toList.map (fun e=>(e.key,e.val))=al.map fun p=>(intK p.1,p.2)
def tT (al:List (Int×Value))(k:Int):Option Value:=(al.find? fun p=>decide (p.1=k)).map (·.2)
theorem G7 (k:Int):∀(es:List MapEntry) (al:List (Int×Value)) (i:Nat),es.map (fun e=>(e.key,e.val))=al.map (fun p=>(intK p.1,p.2)) ->
  ∃r,Instr.findNow (.int .i64) (intK k) es i=some r∧r.map (·.2)=tT al k
|[],[],i,_=>⟨none,rfl,rfl⟩
|e::es,p::al,i,h=>by
  simp only[aiW,amF,akV] at h;obtain⟨⟨h1,h2⟩,h3⟩:=h;have hs:Instr.sameNow (.int .i64) (intK k) e.key=some (decide (k=p.1)):=by
   rw[h1];show some (k==p.1)=_
   congr 1
  by_cases hk:k=p.1
  ·refine⟨some (i,e.val),?_,?_⟩
   ·rw[Instr.findNow,hs];simp[hk]
   ·simp[tT,hk,h2]
  ·obtain⟨r,hr1,hr2⟩:=G7 k es al (i+1) h3;refine⟨r,?_,?_⟩
   ·rw[Instr.findNow,hs];simp[hk,hr1]
   ·have hk':¬p.1=k:=fun e=>hk e.symm;rw[hr2];simp[tT,hk']
|[],_::_,_,h=>by simp at h
|_::_,[],_,h=>by simp at h
section
variable {S:Nat->Prop}{P:Program}{w w0:World}{L:List Ent}{PK:PKT}{K:VWP}
theorem Eu {k:TypeId}{e:Bool}(hk:P.underlying k=some (.int .i64))(x:Int):(Instr.checkKey e 10000 k (intK x)).run P w=.ok () w:=by
 show (Instr.checkKey e (9999+1) k (intK x)).run P w=_;rw[Instr.checkKey];simp[run_underlying hk,intK]
theorem MH {k:TypeId}(hk:P.underlying k=some (.int .i64))(x:Int){es:List MapEntry}{al:List (Int×Value)}(h:es.map (fun e=>(e.key,e.val))=al.map (fun p=>(intK p.1,p.2))) :
  ∃r,(Instr.findKey k (intK x) es).run P w=.ok r w∧r.map (·.2)=tT al x:=by
 obtain⟨r,h1,h2⟩:=G7 x es al 0 h;refine⟨r,?_,h2⟩;simp[Instr.findKey,run_underlying hk,h1]
theorem RX {T k e:TypeId}{ok:Bool}{al:List (Int×Value)}{z:Value}(ht:P.underlying T=some (.map k e))(hk:P.underlying k=some (.int .i64))(hz:(P.info? e).bind (·.zero)=some z)(h:Nl w b al)(x:Int) :
  (Ru T (.map (some b)) (intK x) ok).run P w=.ok (.value (if ok then .tuple #[(tT al x).getD z,.bool (tT al x).isSome] else (tT al x).getD z)) w:=by
 obtain⟨es,clock,h1,h2⟩:=h;obtain⟨r,r1,r2⟩:=MH (P:=P) (w:=w) hk x h2;have hz':(zeroValue e).run P w=.ok z w:=by
  obtain⟨i,hi,hzi⟩:=alX.1 hz;simp[zeroValue,typeInfo,hi,hzi]
 refine bL ?_;rw[<-r2];cases r with
|none=>simp[Instr.lookup,run_underlying ht,getObj,Sem.run,h1,Eu hk x,r1,hz']
|some p=>
  obtain⟨i,v⟩:=p;simp[Instr.lookup,run_underlying ht,getObj,Sem.run,h1,Eu hk x,r1]
end
section
variable {S:Nat->Prop}{P:Program}{w w0:World}{L:List Ent}{PK:PKT}{K:VWP}
end
end Eng
end
section
open Eng Go.RowKit
abbrev frT:TypeId:=330
abbrev frA:TypeId:=331
def fxL:List (Nat×Nat):=[(144,8),(112,9),(24,7),(8,8)]
def fxC:List Value:=fxL.flatMap fun p=>[.int .i64 (p.1:Int),.int .i64 (p.2:Int)]
def Hp (i:Nat):List Nat:=(fxL.take i).flatMap fun p=>List.replicate p.1 p.2
def Fl.fixS:List Nat:=Hp 4
def Fl.fixF:List Nat:=List.replicate 32 5
theorem Ra (hi:i<=4):(Hp i).length<=288:=by
 rcases (by omega:i=0∨i=1∨i=2∨i=3∨i=4) with rfl|rfl|rfl|rfl|rfl<;>decide +kernel
theorem Qg (hi:i < 4):Hp (i+1)=Hp i++List.replicate (fxL.getD i (0,0)).1 (fxL.getD i (0,0)).2:=by
 rcases (by omega:i=0∨i=1∨i=2∨i=3) with rfl|rfl|rfl|rfl<;>decide +kernel
theorem Zq (hi:i < 4):(fxL.getD i (0,0)).1<=144∧1<=(fxL.getD i (0,0)).1:=by
 rcases (by omega:i=0∨i=1∨i=2∨i=3) with rfl|rfl|rfl|rfl<;>decide
theorem Hj (k n:Nat):aR (List.replicate k n)=List.replicate k (.int .i64 (n:Int)):=by simp[aR]
section
variable {w:World}{PK:PKT}{K:VWP}{S:Nat->Prop}{w0:World}{L:List Ent}
theorem m_fr {b:Int}:DoX prog (aZ frT #[(0,.int .i64 a),(1,.int .i64 b)]) w PK K=K (.agg #[.int .i64 a,.int .i64 b]) w:=aE krx
theorem afW:DoX prog (aZ frA #[(0,.agg #[.int .i64 144,.int .i64 8]),(1,.agg #[.int .i64 112,.int .i64 9]),(2,.agg #[.int .i64 24,.int .i64 7]),(3,.agg #[.int .i64 8,.int .i64 8])]) w PK K=K (.agg fxC.toArray) w:=aE krx
theorem abZ (hi:i < 4):(mIx frA (.agg fxC.toArray) (.int .i64 (i:Int))).run prog w=.ok (.value (.agg #[.int .i64 ((fxL.getD i (0,0)).1:Int),.int .i64 ((fxL.getD i (0,0)).2:Int)])) w:=by
 rcases (by omega:i=0∨i=1∨i=2∨i=3) with rfl|rfl|rfl|rfl<;>kernel_rfl
def frC (a b:Int):List Value:=[.int .i64 a,.int .i64 b]
theorem LK {b:Int}:∀u∈frC a b,u.oneCell'=true:=by
 intro u hu;simp only[frC,ahG,ajH,or_false] at hu;rcases hu with rfl|rfl<;>rfl
theorem acI:fOff prog frT 0=some 0:=krx
theorem acN:fOff prog frT 1=some 1:=krx
theorem szFr:(Tryz.prog.info? frT).map (·.size)=some 2:=krx
theorem Ip (M:Mem)(w:World)(hM:M.has w):RetM prog 294 #[] M w (fun v N=>∃a b,v=.tuple #[a,b]∧SlA N.A N.w a 1 Fl.fixS.length (aR Fl.fixS)∧SlA N.A N.w b 1 Fl.fixF.length (aR Fl.fixF)):=by
 refine aT hM fun K hK=>BA ?_;unfold wW nz;have ho:OwnS M.A w w [.mem M]:=OwnS.memS hM;rw[m_fr,m_fr,m_fr,m_fr,afW];have ho:OwnS M.A w w [.urow 3 1 nilS 0 [],.mem M]:=OwnS.nilU (L:=[.mem M]) ho _ _;refine loop (fun vs W=>∃(i:Nat) (ov:Value),vs=[ov,.int .i64 (i:Int)]∧i<=4∧OwnS M.A w W [.urow 3 1 ov (Hp i).length (aR (Hp i)),.mem M]) (fun vs _=>4 - n1 vs) ⟨0,nilS,rfl,om,ho⟩ ?_;clear ho;rintro vs w1 ⟨i,ov,rfl,hi,ho⟩ _;simp only[sI,gd,rs,nz];by_cases hlt:(i:Int) < 4
 ·simp only[hlt,agY,i_t];have hi4:i < 4:=om
  have hln:=Ra (Nat.le_of_lt hi4);have hle:=Zq hi4;have hsu:=Qg hi4;refine aE (abZ hi4) |>.mpr ?_;generalize fxL.getD i (0,0)=e at hle hsu;obtain⟨k,n⟩:=e;dsimp only at hle hsu ⊢;refine bC (fun b=>.pointer (some ⟨b,0,none⟩)) (frC 0 0) frT (fun _=>by kernel_rfl) ho fun b w2 ho=>?_;refine iE 0 ho rfl (new:=frC k n) szFr LK rfl fun w3 ho=>?_;rw[aK acN,aO cI (ho.cell 0 rfl 1 rfl)];refine sX (n:Int) ho fun b2 w4 ho=>?_;rw[aK acI,aO cI (ho.cell 1 rfl 0 rfl)];refine SI 0 ho rfl rfl om fun b3 w5 ho=>?_;refine oB 3 ho rfl (Sl.cells (ho.at_ 0 rfl) 1 k k (by rw[aiE,ahZ])) (fun u hu=>by rw[akB hu];rfl) om fun v' w6 ho=>?_
  try simp only[rs]
  rw[aA om om];refine aY ⟨i+1,v',rfl,om,?_⟩ (by simp[n1,RowKit.intOf];omega);rw[hsu,lB,Hj,agZ,aiE];exact ho.tail.tail.tail
 ·simp only[hlt,agX,i_f];have:i=4:=om
  subst this;refine sX 5 ho fun b2 w4 ho=>?_;refine SI (k:=32) 0 ho rfl rfl om fun b3 w5 ho=>?_;have ho:=ho.sub (L':=[.cells b3 (List.replicate 32 (.int .i64 5)) 3,.urow 3 1 ov (Hp 4).length (aR (Hp 4)),.mem M]) (.cons_cons _ (.cons _ (alR _)));have ho:=OwnS.toU (b:=b3) ho 1 32 32 (by rw[aiE]) om om;obtain⟨N1,g1,h1,ho⟩:=OwnS.cG (L:=[.urow 3 1 ov (Hp 4).length (aR (Hp 4)),.mem M]) ho 1 rfl;obtain⟨N2,g2,h2,ho⟩:=OwnS.cG (L:=[.mem N1]) ho 0 rfl;refine hK _ _ N2 _ 0 ho rfl (g1.trans g2) ⟨_,_,rfl,h2,?_⟩;have h1:=h1.le g2;rw[show Fl.fixF.length=32 from rfl,show aR Fl.fixF=List.replicate 32 (.int .i64 5) from Hj 32 5];exact h1
end
def Fl.repL (g:Nat):Nat:=if g=18 then 11 else 3
def Fl.repB (g:Nat):Nat:=if g=16 then 2 else if g=17 then 3 else 7
def Fl.Fh (cl:List Nat)(s:List UInt8)(n:Nat):Nat->Nat->List Nat->List Nat×Nat×Int
|0,p,l=>(l,p,13)
|f+1,p,l=>
  if n<=l.length then (l,p,0)
  else
   let r:=Fl.sign cl s p
   if r.2.2≠0 then (l,p,r.2.2)
   else if r.1 < 16 then Fl.Fh cl s n f r.2.1 (l++[r.1])
   else if r.1=16∧l.length=0 then (l,p,3)
   else if 8*s.length < r.2.1+Fl.repB r.1 then (l,p,4)
   else if n < l.length+(Fl.repL r.1+Fl.num s r.2.1 (Fl.repB r.1)) then (l,p,3)
   else Fl.Fh cl s n f (r.2.1+Fl.repB r.1) (l++List.replicate (Fl.repL r.1+Fl.num s r.2.1 (Fl.repB r.1)) (if r.1=16 then l.getD (l.length - 1) 0 else 0))
def Fl.lens (cl:List Nat)(s:List UInt8)(n p:Nat):List Nat×Nat×Int:=Fl.Fh cl s n (n+1) p []
def rpM:List (Int×Value):=[(16,.agg #[.int .i64 3,.int .i64 2]),(17,.agg #[.int .i64 3,.int .i64 3]),(18,.agg #[.int .i64 11,.int .i64 7])]
def Rp (M:Mem):Prop:=∃mb,M.A 3∧M.w.cell? ⟨3,0,none⟩=some (.map (some mb))∧M.A mb∧∃al,(∀k:Int,tT al k=tT rpM k)∧Nl M.w mb al
theorem Mem.cell {M:Mem}{w:World}(h:M.has w){b j:Nat}{v:Value}(hb:M.A b)(hc:M.w.cell? ⟨b,j,none⟩=some v):w.cell? ⟨b,j,none⟩=some v:=(Ls (h b hb)).trans hc
theorem Rp.le {M N:Mem}(h:M.le N)(k:Rp M):Rp N:=by
 obtain⟨mb,h1,h2,h3,al,hal,es,cl,h4,h5⟩:=k;exact⟨mb,h.A _ h1,Mem.cell h.has h1 h2,h.A _ h3,al,hal,es,cl,(h.has mb h3).trans h4,h5⟩
theorem agH {g:Nat}(h:g < 16):tT rpM (g:Int)=none:=by
 simp[tT,rpM];omega
theorem adU {g:Nat}(h:16<=g)(h2:g < 19):tT rpM (g:Int)=some (.agg #[.int .i64 (Fl.repL g:Int),.int .i64 (Fl.repB g:Int)]):=by
 rcases (by omega:g=16∨g=17∨g=18) with rfl|rfl|rfl<;>rfl
theorem mpRp:Tryz.prog.underlying 365=some (.map 3 363):=Tryz.underlying365
theorem zRp:(Tryz.prog.info? 363).bind (·.zero)=some (.agg #[.int .i64 0,.int .i64 0]):=krx
theorem Zo:eF prog 365=true:=krx
theorem ZZ:fOff prog 363 0=some 0:=krx
theorem Zn:fOff prog 363 1=some 1:=krx
theorem szRp:(Tryz.prog.info? 363).map (·.size)=some 2:=krx
theorem Fl.YG (g:Nat):Fl.repB g<=7:=by
 unfold Fl.repB;split
 ·omega
 ·split<;>omega
theorem Fl.YL (g:Nat):3<=Fl.repL g∧Fl.repL g<=11:=by unfold Fl.repL;split<;>omega
def lenV:Value->Nat|.slice _ n _=>n|_=>0
def agO (vs:List Value):Nat:=lenV (vs.getD 0 undef)
theorem Mx {n:Nat}(h:Sl w v sz n cs):lenV v=n:=by
 obtain⟨_,a,cap,rfl,_⟩:=h;rfl
section
variable {w:World}{PK:PKT}{K:VWP}{S:Nat->Prop}{w0:World}{L:List Ent}
theorem Vd {n:Nat}(hn:n<=1000000)(ho:OwnS S w0 w L)(k:∀v w',OwnS S w0 w' (.urow 3 1 v 0 []::L)->K v w') :
  DoX prog (HM 123 (.int .i64 0) (.int .i64 (n:Int))) w PK K:=by
 obtain⟨i,hi,hz,h1,h8⟩:=OB;refine bC (fun b=>.slice (some ⟨b,0,none⟩) 0 n) (List.replicate n (.int .i64 0)) 3 (fun W=>?_) ho fun b w' ho=>k _ _ ?_
 ·have:=Go.run_make (P:=prog) W 123 3 i (Value.int .i64 0) ahS hi hz .i64 .i64 (0:Int) (n:Int) om om (by rw[h8];omega) om;rw[h1,ahI,NU] at this;exact bL this
 ·have:=OwnS.toU (b:=b) ho 1 0 n (by rw[aiE,ahZ]) om om;exact this
theorem XM {mb:Nat}{al:List (Int×Value)}(hal:∀k:Int,tT al k=tT rpM k)(hM:M.has w)(hA:M.A mb)(h:Nl M.w mb al)(g:Nat):(Ru 365 (.map (some mb)) (.int .i64 (g:Int)) true).run prog w=.ok (.value (.tuple #[(tT rpM (g:Int)).getD (.agg #[.int .i64 0,.int .i64 0]),.bool (tT rpM (g:Int)).isSome])) w:=by
 have hw:Nl w mb al:=by
  obtain⟨es,cl,h4,h5⟩:=h;exact⟨es,cl,(hM mb hA).trans h4,h5⟩
 rw[<-hal];exact RX (ok:=true) mpRp aiX zRp hw (g:Int)
theorem Qy {n:Nat}{ov:Value}{s:List UInt8}{out:List UInt8}{R:List Ent}(jm:Nat)(ho:OwnS S w0 w (Fs fb rb s most ov way p out R))(hm:R[jm]?=some (.mem M))(ht:TbAt M.A M.w tb cl)(hl:cl.length=19)(hrp:Rp M)(hw:way=0∨way=1)(hp:p<=8*s.length)(hs:s.length<=1000000000)(hn:n<=1000)
  (k1:(Fl.lens cl s n p).2.2=0->(Fl.lens cl s n p).2.1<=8*s.length->(Fl.lens cl s n p).1.length=n->(∀x∈(Fl.lens cl s n p).1,x<=15)->∀way' lv W,(way'=0∨way'=1)->OwnS S w0 W (.urow 3 1 lv (Fl.lens cl s n p).1.length (aR (Fl.lens cl s n p).1)::Fs fb rb s most ov way' (Fl.lens cl s n p).2.1 out R)->K lv W)
  (k2:(Fl.lens cl s n p).2.2≠0->∀way' p' W,OwnS S w0 W (Fs fb rb s most ov way' p' out R)->PK [upI (Fl.lens cl s n p).2.2] W) :
  CallX prog 339 #[.pointer (some ⟨fb,0,none⟩),.pointer (some ⟨tb,0,none⟩),.int .i64 (n:Int)] w PK K:=by
 generalize hX:Fl.lens cl s n p=X at k1 k2;unfold Fl.lens at hX;refine⟨oX ?_⟩;unfold jN nz;refine Vd om ho fun lv w1 ho=>?_;refine loop (fun vs W=>∃(p:Nat) (way:Int) (l:List Nat) (lv:Value),vs=[lv]∧(way=0∨way=1)∧p<=8*s.length∧l.length<=n∧(∀x∈l,x<=15)∧(∃f,n+1 - l.length<=f∧Fl.Fh cl s n f p l=X)∧OwnS S w0 W (.urow 3 1 lv l.length (aR l)::Fs fb rb s most ov way p out R)) (fun vs _=>n - agO vs) ⟨p,way,[],lv,rfl,hw,hp,ahW _,(fun x hx=>by cases hx),⟨_,ahD _,hX⟩,ho⟩ ?_;clear ho hX hp hw;rintro vs w1 ⟨p,way,l,lv,rfl,hw,hp,hln,hl15,⟨f,hf,hX⟩,ho⟩ _;have hlv:lenV lv=l.length:=Mx (ho.slU 0 rfl);simp only[iH,gd,nz];obtain⟨f,rfl⟩:∃f',f=f'+1:=⟨f - 1,om⟩;rw[Fl.Fh] at hX;dsimp only at hX;rw[bB ahS (ho.slU 0 rfl)]
 try simp only[rs]
 by_cases hlt:(l.length:Int) < (n:Int)
 case neg=>
  simp only[hlt,agX,i_f];rw[agW om] at hX;subst hX;exact k1 rfl hp (by dsimp only;omega) hl15 _ _ _ hw ho
 simp only[hlt,agY,i_t];rw[agV om] at hX
 try rw[aV]
 rw[Lm,RI ho 1 rfl];refine MP 2 (jm+4) om ho rfl hm ht om hw hp hs fun way3 W3 hw3 hp3 ho=>?_;have ho:OwnS S w0 W3 (.urow 3 1 lv l.length (aR l)::Fs fb rb s most ov way3 (Fl.sign cl s p).2.1 out R):=ho;have hg19:(Fl.sign cl s p).1 < cl.length:=Fl.JI s om 16 0 p 0;rw[hl] at hg19;generalize Fl.sign cl s p=T at hX ho hp3 hg19;obtain⟨g,q,e⟩:=T;dsimp only at hX ho hp3 hg19;simp only[ex];refine tS (fun h3=>?_) (fun h3=>?_)
 rotate_left
 ·rw[agW h3] at hX;subst hX;exact k2 h3 _ _ _ ho.tail
 rw[agV (by rw[h3];decide)] at hX;obtain⟨mb,hr1,hr2,hr3,al,hal,hr4⟩:=hrp;have hM:=ho.hasM (jm+4) hm;rw[aO Zo (Mem.cell hM hr1 hr2)];refine aE (XM hal hM hr3 hr4 g) |>.mpr ?_;simp only[ex];refine bC (fun b=>.pointer (some ⟨b,0,none⟩)) (frC 0 0) 363 (fun _=>by kernel_rfl) ho fun rbx w4 ho=>?_;by_cases h16:g < 16
 ·rw[agW h16] at hX;rw[agH h16];simp only[Option.getD_none,anB];refine iE 0 ho rfl (new:=frC 0 0) szRp LK rfl fun w5 ho=>?_;simp only[rs,nn_f];refine sX (g:Int) ho fun b2 w6 ho=>?_;refine oB 2 ho rfl (ho.sl 0 rfl 1 1 1 rfl) rF om fun v' w7 ho=>?_;have hlv2:lenV v'=l.length+1:=Mx (ho.slU 2 rfl);refine aY ⟨q,way3,l++[g],v',rfl,hw3,hp3,by rw[agZ,ajJ];omega,?_,⟨f,by rw[agZ,ajJ];omega,hX⟩,?_⟩ (by show n - lenV v' < n - lenV lv;omega)
  ·intro x hx;rcases aiC.1 hx with hx|hx
   ·exact hl15 x hx
   ·rw[aiA.1 hx];omega
  ·rw[lB,agZ];exact ho.tail.tail
 rw[agV h16] at hX;rw[adU om hg19];simp only[alD,anC];refine iE 0 ho rfl (new:=frC (Fl.repL g) (Fl.repB g)) szRp LK rfl fun w5 ho=>?_;simp only[rs,nn_t];have hB:=Fl.YG g;have hL:=Fl.YL g;refine join fun J2 hJ2=>?_;have rest:∀(W:World) (ag:Nat),(ag=if g=16 then l.getD (l.length - 1) 0 else 0)->ag<=15->¬(g=16∧l.length=0)->OwnS S w0 W (.cells rbx (frC (Fl.repL g) (Fl.repB g)) 363::.urow 3 1 lv l.length (aR l)::Fs fb rb s most ov way3 q out R)->J2 [.int .i64 (ag:Int)] W:=by
  intro W ag hag hag15 hne ho;rw[agV hne,<-hag] at hX;refine hJ2 _ _ fun _=>?_;simp only[iA,gd,iN,dx,bnx,lnx,apx,cx];have ho:=ho.drew;refine⟨fun W=>(Ent.cells rbx (frC (Fl.repL g) (Fl.repB g)) 363).is W,ho.at_ 0 rfl,?_⟩;refine aM _ (fun _=>bY ZZ) (sN _ (fun W h=>aB cI (aG (T:=363) h rfl)) ?_);refine aM _ (fun _=>bY Zn) (sN _ (fun W h=>aB cI (aG (T:=363) h rfl)) ?_);refine nY (n:=Fl.repB g) 2 3 ho rfl rfl hw3 hp3 om hs (fun h5 W5 ho=>?_) (fun h5 W5 ho=>?_)
  rotate_left
  ·rw[agW h5] at hX;subst hX
   repeat intro _
   exact k2 (by dsimp only;decide) _ _ _ ho.tail.tail
  rw[agV om] at hX;have hwy:(if 0 < Fl.repB g then (1:Int) else way3)=0∨(if 0 < Fl.repB g then (1:Int) else way3)=1:=by split;exact .inr rfl;exact hw3
  have ho:OwnS S w0 W5 (.cells rbx (frC (Fl.repL g) (Fl.repB g)) 363::.urow 3 1 lv l.length (aR l)::Fs fb rb s most ov (if 0 < Fl.repB g then 1 else way3) (q+Fl.repB g) out R):=ho;generalize (if 0 < Fl.repB g then (1:Int) else way3)=way5 at ho hwy;have hnl:=Fl.wX s q (Fl.repB g);have h27:2 ^ Fl.repB g<=2 ^ 7:=aiY dc hB;have h27':(2:Nat) ^ 7=128:=dc
  refine⟨ho.at_ 0 rfl,?_⟩;refine aM _ (fun _=>PW) ?_;rw[aA om om,show (Fl.repL g:Int)+(Fl.num s q (Fl.repB g):Int)=((Fl.repL g+Fl.num s q (Fl.repB g):Nat):Int) by omega];generalize hk:Fl.repL g+Fl.num s q (Fl.repB g)=k at hX;rw[bB ahS (ho.slU 1 rfl)]
  try simp only[rs]
  rw[aA om om];refine iJ (fun h6=>?_) (fun h6=>?_)
  rotate_left
  ·have:=aiK h6;rw[agW om] at hX;subst hX;exact k2 (by dsimp only;decide) _ _ _ ho.tail.tail
  have h6:=ahO h6;rw[agV om] at hX;refine sX (ag:Int) ho fun b2 w6 ho=>?_;refine SI 0 ho rfl rfl om fun b3 w7 ho=>?_;refine oB 3 ho rfl (Sl.cells (ho.at_ 0 rfl) 1 k k (by rw[aiE,ahZ])) (fun u hu=>by rw[akB hu];rfl) om fun v' w8 ho=>?_;have hlv2:lenV v'=l.length+k:=Mx (ho.slU 3 rfl);refine aY ⟨q+Fl.repB g,way5,l++List.replicate k ag,v',rfl,hwy,h5,by rw[agZ,aiE];omega,?_,⟨f,by rw[agZ,aiE];omega,hX⟩,?_⟩ (by show n - lenV v' < n - lenV lv;omega)
  ·intro x hx;rcases aiC.1 hx with hx|hx
   ·exact hl15 x hx
   ·rw[akB hx];exact hag15
  ·rw[lB,Hj,agZ,aiE];exact ho.tail.tail.tail
 by_cases hg:g=16
 case neg=>
  simp only[show decide ((g:Int)=16)=false from ahA om,i_f];exact rest _ 0 (by rw[agV hg]) om (fun h=>hg h.1) ho
 simp only[show decide ((g:Int)=16)=true from ahB om,i_t];rw[bB ahS (ho.slU 1 rfl)]
 try simp only[rs]
 refine iJ (fun h6=>?_) (fun h6=>?_)
 rotate_left
 ·have:=aiK h6;rw[agW ⟨hg,om⟩] at hX;subst hX;exact k2 (by dsimp only;decide) _ _ _ ho.tail.tail
 have h6:=ahO h6;rw[bB ahS (ho.slU 1 rfl)]
 try simp only[rs]
 rw[aA om om,show (l.length:Int) - 1=((l.length - 1:Nat):Int) by omega];have hil:l.length - 1 < l.length:=om
 obtain⟨b2,off,r1,r2⟩:=mD (ho.slU 1 rfl) hil;refine aE (r1 w5) |>.mpr (aE (aB cI r2) |>.mpr ?_);have hgd:l.getD (l.length - 1) 0=l[l.length - 1]:=by rw[ahC,ahH hil];rfl
 exact rest _ _ (by rw[agW hg,hgd]) (hl15 _ (ahP hil)) (fun h=>by omega) ho
end
end
end Go.Proofs.YtlipjfcbjemicaaGreatDoor
