/- Texts that go together: IrB IrC IrD SZlib SRef13 ZlA EngAK SPred SRef15 PrA PrB SAsci SAsciR SAsciQ AsA. -/
import Derived.Test.YtlipjfcbjemicaaGreatDoorRows
import Derived.Lib.ConvBytes
import Derived.Laws.IdiomCopy
import Derived.Test.YtlipjfcbjemicaaGreatDoorMmaflihpg
import Derived.Test.YtlipjfcbjemicaaGreatDoorMkdodoemo
import Derived.Test.YtlipjfcbjemicaaGreatDoorMikgnniin
import Derived.Test.YtlipjfcbjemicaaGreatDoorMbdjagian
set_option linter.defProp false
set_option linter.unusedSimpArgs false
set_option linter.unusedVariables false
set_option maxRecDepth 20000
open Go.Proofs.Tryz (prog)
namespace Go.Proofs.YtlipjfcbjemicaaGreatDoor
section
open Eng Go.RowKit
theorem rlonger_ret (i:Nat)(w:World)(hi:i≤28):Ret prog 310 #[.int .i64 ((257+i:Nat):Int)] w (fun v w'=>v=.int .i64 (Fl.sizeB i:Int)∧Below w.heap.size w w'):=by
 refine ret_of fun K hK=>S_foliantref11_longer_ok ?_;unfold S_foliantref11_longer iN dx gfx efx;unfold Fl.sizeB at hK
 try simp only[rs]
 by_cases h1:i < 8
 ·simp only[show decide (((257+i:Nat):Int) < 265)=true from decide_eq_true (by omega),rs];rw[if_neg (by omega),show i / 4 - 1=0 by omega] at hK;exact hK _ _ ⟨rfl,Below.refl _ _⟩
 simp only[show decide (((257+i:Nat):Int) < 265)=false from decide_eq_false (by omega),rs];by_cases h2:i=28
 ·simp only[show decide ((284:Int) < ((257+i:Nat):Int))=true from decide_eq_true (by omega),rs];rw[if_pos h2] at hK;exact hK _ _ ⟨rfl,Below.refl _ _⟩
 simp only[show decide ((284:Int) < ((257+i:Nat):Int))=false from decide_eq_false (by omega),rs];rw[if_neg h2] at hK;rw[wrap64_id (by omega) (by omega),b_quo (by decide),show ((257+i:Nat):Int) - 261=((i - 4:Nat):Int) by omega,show ((i - 4:Nat):Int).tdiv 4=(((i - 4) / 4:Nat):Int) from rfl,wrap64_id (by omega) (by omega),show (i - 4) / 4=i / 4 - 1 by omega];exact hK _ _ ⟨rfl,Below.refl _ _⟩
theorem rfarther_ret (i:Nat)(w:World)(hi:i≤30):Ret prog 312 #[.int .i64 (i:Int)] w (fun v w'=>v=.int .i64 (Fl.farB i:Int)∧Below w.heap.size w w'):=by
 refine ret_of fun K hK=>S_foliantref11_farther_ok ?_;unfold S_foliantref11_farther iN dx;unfold Fl.farB at hK
 try simp only[rs]
 by_cases h1:i < 4
 ·simp only[show decide (((i:Nat):Int) < 4)=true from decide_eq_true (by omega),rs];rw[show i / 2 - 1=0 by omega] at hK;exact hK _ _ ⟨rfl,Below.refl _ _⟩
 simp only[show decide (((i:Nat):Int) < 4)=false from decide_eq_false (by omega),rs];rw[wrap64_id (by omega) (by omega),b_quo (by decide),show ((i:Nat):Int) - 2=((i - 2:Nat):Int) by omega,show ((i - 2:Nat):Int).tdiv 2=(((i - 2) / 2:Nat):Int) from rfl,wrap64_id (by omega) (by omega),show (i - 2) / 2=i / 2 - 1 by omega];exact hK _ _ ⟨rfl,Below.refl _ _⟩
theorem rSize11_ret (i m:Nat)(w:World)(hi:i≤28)(hm:m < 2 ^ Fl.sizeB i):Ret prog 311 #[.int .i64 ((257+i:Nat):Int),.int .i64 (m:Int)] w (fun v w'=>v=.tuple #[.int .i64 ((Fl.sizeF i+m:Nat):Int),.int .i64 0]∧Below w.heap.size w w'):=by
 refine ret_of fun K hK=>S_foliantref11_Size_ok ?_;unfold S_foliantref11_Size iN dx gfx cfx efx;have ho:OwnS NoB w w []:=Own.start w;obtain⟨h1,h2⟩:=Fl.sizeF_le hi;have hp5:2 ^ Fl.sizeB i≤2 ^ 5:=Nat.pow_le_pow_right (by decide) h2;have h25:(2:Nat) ^ 5=32:=by decide
 simp only[rs,show decide (((257+i:Nat):Int) < 257)=false from decide_eq_false (by omega),show decide ((285:Int) < ((257+i:Nat):Int))=false from decide_eq_false (by omega),show decide ((m:Int) < 0)=false from decide_eq_false (by omega)];refine c_below ho (rlonger_ret i w hi) ?_;rintro _ w1 rfl ho;refine do_eq (run_c_int (by kernel_rfl) Tryz.underlying84) |>.mpr ?_;rw[wrapU16 (by omega),b_shl (by omega),shl1 (by omega)];simp only[rs,show decide (((2 ^ Fl.sizeB i:Nat):Int)≤(m:Int))=false from decide_eq_false (by omega)];by_cases h28:i=28
 ·have:m=0:=by rw[h28] at hm;simp[Fl.sizeB] at hm;exact hm
  subst this;simp only[show decide (((257+i:Nat):Int)=285)=true from decide_eq_true (by omega),i_t];exact hK _ _ ⟨by rw[h28];rfl,ho.done⟩
 simp only[show decide (((257+i:Nat):Int)=285)=false from decide_eq_false (by omega),i_f];have hsf:Fl.sizeF i=Fl.spr 4 3 i:=by unfold Fl.sizeF;rw[if_neg h28]
 refine loop (fun vs W=>∃j:Nat,vs=[.int .i64 (Fl.spr 4 3 j:Int),.int .i64 ((257+j:Nat):Int)]∧j≤i∧OwnS NoB w W []) (fun vs _=>257+i - n1 vs) ⟨0,rfl,by omega,ho⟩ ?_;clear ho;rintro vs w2 ⟨j,rfl,hj,ho⟩ _;simp only[S_foliantref11_Size_0,gd,rs,iN,dx,cx];by_cases hlt:((257+j:Nat):Int) < ((257+i:Nat):Int)
 ·simp only[hlt,decide_true,i_t];refine c_below ho (rlonger_ret j w2 (by omega)) ?_;rintro _ w3 rfl ho;have hjb:Fl.sizeB j=j / 4 - 1:=by unfold Fl.sizeB;rw[if_neg (by omega)]
  have hs2:=(Fl.sizeF_le (i:=j) (by omega)).2;have hs1:Fl.spr 4 3 j≤1000:=by
   have:=(Fl.sizeF_le (i:=j) (by omega)).1;unfold Fl.sizeF at this
   rwa [if_neg (by omega)] at this
  have hp6:2 ^ Fl.sizeB j≤2 ^ 5:=Nat.pow_le_pow_right (by decide) hs2;refine do_eq (run_c_int (by kernel_rfl) Tryz.underlying84) |>.mpr ?_;rw[wrapU16 (by omega),b_shl (by omega),shl1 (by omega)];generalize hpw:2 ^ Fl.sizeB j=pw at hp6 ⊢
  try simp only[rs]
  rw[wrap64_id (by omega) (by omega),wrap64_id (by omega) (by omega)];refine nextX ⟨j+1,?_,by omega,ho⟩ (by simp[n1,RowKit.intOf];omega);rw[Fl.spr,←hjb,hpw]
  push_cast
  rfl
 ·simp only[hlt,decide_false,i_f];have:j=i:=by omega
  subst this;rw[←hsf,wrap64_id (by omega) (by omega)];refine hK _ _ ⟨?_,ho.done⟩
  push_cast
  rfl
theorem rFar11_ret (i m:Nat)(w:World)(hi:i≤29)(hm:m < 2 ^ Fl.farB i):Ret prog 313 #[.int .i64 (i:Int),.int .i64 (m:Int)] w (fun v w'=>v=.tuple #[.int .i64 ((Fl.farF i+m:Nat):Int),.int .i64 0]∧Below w.heap.size w w'):=by
 refine ret_of fun K hK=>S_foliantref11_Far_ok ?_;unfold S_foliantref11_Far iN dx gfx cfx efx;have ho:OwnS NoB w w []:=Own.start w;obtain⟨h1,h2⟩:=Fl.farF_le hi;have hp5:2 ^ Fl.farB i≤2 ^ 13:=Nat.pow_le_pow_right (by decide) h2;have h25:(2:Nat) ^ 13=8192:=by decide
 simp only[rs,show decide (((i:Nat):Int) < 0)=false from decide_eq_false (by omega),show decide ((29:Int) < ((i:Nat):Int))=false from decide_eq_false (by omega),show decide ((m:Int) < 0)=false from decide_eq_false (by omega)];refine c_below ho (rfarther_ret i w (by omega)) ?_;rintro _ w1 rfl ho;refine do_eq (run_c_int (by kernel_rfl) Tryz.underlying84) |>.mpr ?_;rw[wrapU16 (by omega),b_shl (by omega),shl1 (by omega)];simp only[rs,show decide (((2 ^ Fl.farB i:Nat):Int)≤(m:Int))=false from decide_eq_false (by omega)];refine loop (fun vs W=>∃j:Nat,vs=[.int .i64 (Fl.spr 2 1 j:Int),.int .i64 (j:Int)]∧j≤i∧OwnS NoB w W []) (fun vs _=>i - n1 vs) ⟨0,rfl,by omega,ho⟩ ?_;clear ho;rintro vs w2 ⟨j,rfl,hj,ho⟩ _;simp only[S_foliantref11_Far_0,gd,rs,iN,dx,cx];by_cases hlt:(j:Int) < (i:Int)
 ·simp only[hlt,decide_true,i_t];refine c_below ho (rfarther_ret j w2 (by omega)) ?_;rintro _ w3 rfl ho;have hs2:=(Fl.farF_le (i:=j) (by omega)).2;have hs1:Fl.spr 2 1 j≤100000:=(Fl.farF_le (i:=j) (by omega)).1;have hp6:2 ^ Fl.farB j≤2 ^ 13:=Nat.pow_le_pow_right (by decide) hs2;refine do_eq (run_c_int (by kernel_rfl) Tryz.underlying84) |>.mpr ?_;rw[wrapU16 (by omega),b_shl (by omega),shl1 (by omega)];generalize hpw:2 ^ Fl.farB j=pw at hp6 ⊢
  try simp only[rs]
  rw[wrap64_id (by omega) (by omega),wrap64_id (by omega) (by omega)];refine nextX ⟨j+1,?_,by omega,ho⟩ (by simp[n1,RowKit.intOf];omega);rw[Fl.spr,show j / 2 - 1=Fl.farB j from rfl,hpw]
  push_cast
  rfl
 ·simp only[hlt,decide_false,i_f];have:j=i:=by omega
  subst this;have:Fl.farF j=Fl.spr 2 1 j:=rfl;rw[wrap64_id (by omega) (by omega)];refine hK _ _ ⟨?_,ho.done⟩;rw[this]
  push_cast
  rfl
theorem Fl.fixS_get {i:Nat}(h:i < 288):Fl.fixS.take (i+1)=Fl.fixS.take i++[if 256≤i∧i < 280 then 7 else if 144≤i∧i < 256 then 9 else 8]:=by
 have h1:(List.range 288).all (fun i=>decide (Fl.fixS.getD i 0=if 256≤i∧i < 280 then 7 else if 144≤i∧i < 256 then 9 else 8))=true:=by decide +kernel
 have h2:=of_decide_eq_true (List.all_eq_true.1 h1 i (List.mem_range.2 h));have h3:i < Fl.fixS.length:=by rw[Fl.fixS_len];exact h
 rw[take_snoc h3,←h2,List.getD_eq_getElem?_getD,List.getElem?_eq_getElem h3];rfl
theorem rfixed_ret (M:Mem)(w:World)(hM:M.has w):RetM prog 243 #[] M w (fun v N=>∃a b,v=.tuple #[a,b]∧SlA N.A N.w a 1 Fl.fixS.length (natsW Fl.fixS)∧SlA N.A N.w b 1 Fl.fixF.length (natsW Fl.fixF)):=by
 refine retM_of hM fun K hK=>S_foliantref11_Fixed_ok ?_;unfold S_foliantref11_Fixed iN;have ho:OwnS M.A w w [.mem M]:=OwnS.memS hM;have ho:OwnS M.A w w [.urow 3 1 nilS 0 [],.mem M]:=OwnS.nilU (L:=[.mem M]) ho _ _;refine loop (fun vs W=>∃(i:Nat) (ov:Value),vs=[ov,.int .i64 (i:Int)]∧i≤288∧OwnS M.A w W [.urow 3 1 ov (Fl.fixS.take i).length (natsW (Fl.fixS.take i)),.mem M]) (fun vs _=>288 - n1 vs) ⟨0,nilS,rfl,by omega,ho⟩ ?_;clear ho;rintro vs w1 ⟨i,ov,rfl,hi,ho⟩ _;simp only[S_foliantref11_Fixed_0,gd,rs,iN,dx,gtx,etx];by_cases hlt:(i:Int) < 288
 ·simp only[hlt,decide_true,i_t];have hg:=Fl.fixS_get (i:=i) (by omega);have hln:(Fl.fixS.take i).length≤288:=by rw[List.length_take];omega
  refine join fun J2 hJ2=>?_;have fin:∀n:Nat,Fl.fixS.take (i+1)=Fl.fixS.take i++[n]→S_foliantref11_Fixed_2 ov (.int .i64 (i:Int)) (.int .i64 (n:Int)) w1 (NextX (fun vs W=>∃(i:Nat) (ov:Value),vs=[ov,.int .i64 (i:Int)]∧i≤288∧OwnS M.A w W [.urow 3 1 ov (Fl.fixS.take i).length (natsW (Fl.fixS.take i)),.mem M]) (fun vs _=>288 - n1 vs) [ov,.int .i64 (i:Int)] w1) K:=by
   intro n hn;unfold S_foliantref11_Fixed_2 iN dx;refine o_ints1 (n:Int) ho fun b2 w4 ho=>?_;refine o_apInt 1 ho rfl (ho.sl 0 rfl 1 1 1 rfl) intsW_one (by omega) fun v' w6 ho=>?_
   try simp only[rs]
   rw[wrap64_id (by omega) (by omega)];refine nextX ⟨i+1,v',rfl,by omega,?_⟩ (by simp[n1,RowKit.intOf];omega);rw[hn,natsW_app,List.length_append];exact ho.tail
  have step:∀n:Nat,(Fl.fixS.take (i+1)=Fl.fixS.take i++[if 256≤i∧i < 280 then 7 else n])→J2 [.int .i64 (n:Int)] w1:=by
   intro n hn;refine hJ2 _ _ fun _=>?_;simp only[S_foliantref11_Fixed_1,gd,iN,dx,gtx,etx];refine join fun J3 hJ3=>?_
   try simp only[rs]
   by_cases h1:(256:Int)≤(i:Int)
   ·simp only[h1,decide_true,rs];by_cases h2:(i:Int) < 280
    ·simp only[h2,decide_true,rs];rw[if_pos (by omega)] at hn;exact hJ3 _ _ fun _=>fin 7 hn
    ·simp only[h2,decide_false,rs];rw[if_neg (by omega)] at hn;exact hJ3 _ _ fun _=>fin n hn
   ·simp only[h1,decide_false,rs];rw[if_neg (by omega)] at hn;exact hJ3 _ _ fun _=>fin n hn
  by_cases h1:(144:Int)≤(i:Int)
  ·simp only[h1,decide_true,rs];by_cases h2:(i:Int) < 256
   ·simp only[h2,decide_true,rs];exact step 9 (by rw[hg,if_pos (show 144≤i∧i < 256 by omega)])
   ·simp only[h2,decide_false,rs];exact step 8 (by rw[hg,if_neg (show ¬(144≤i∧i < 256) by omega)])
  ·simp only[h1,decide_false,rs];exact step 8 (by rw[hg,if_neg (show ¬(144≤i∧i < 256) by omega)])
 ·simp only[hlt,decide_false,i_f];have:i=288:=by omega
  subst this;have e288:Fl.fixS.take 288=Fl.fixS:=List.take_of_length_le (by rw[Fl.fixS_len];omega);rw[e288] at ho;have ho:OwnS M.A w w1 [.urow 3 1 nilS 0 [],.urow 3 1 ov Fl.fixS.length (natsW Fl.fixS),.mem M]:=OwnS.nilU ho _ _;refine loop (fun vs W=>∃(i:Nat) (bv:Value),vs=[bv,.int .i64 (i:Int)]∧i≤32∧OwnS M.A w W [.urow 3 1 bv i (List.replicate i (.int .i64 5)),.urow 3 1 ov Fl.fixS.length (natsW Fl.fixS),.mem M]) (fun vs _=>32 - n1 vs) ⟨0,nilS,rfl,by omega,ho⟩ ?_;clear ho;rintro vs w2 ⟨i,bv,rfl,hi,ho⟩ _;simp only[S_foliantref11_Fixed_3,gd,rs,iN,dx];by_cases hlt:(i:Int) < 32
  ·simp only[hlt,decide_true,i_t];refine o_ints1 5 ho fun b2 w4 ho=>?_;refine o_apInt 1 ho rfl (ho.sl 0 rfl 1 1 1 rfl) intsW_one (by omega) fun v' w6 ho=>?_
   try simp only[rs]
   rw[wrap64_id (by omega) (by omega)];refine nextX ⟨i+1,v',rfl,by omega,?_⟩ (by simp[n1,RowKit.intOf];omega);rw[List.replicate_succ'];exact ho.tail
  ·simp only[hlt,decide_false,i_f];have:i=32:=by omega
   subst this;obtain⟨N1,g1,h1,ho⟩:=OwnS.freezeU (L:=[.urow 3 1 ov Fl.fixS.length (natsW Fl.fixS),.mem M]) ho 1 rfl;obtain⟨N2,g2,h2,ho⟩:=OwnS.freezeU (L:=[.mem N1]) ho 0 rfl;refine hK _ _ N2 _ 0 ho rfl (g1.trans g2) ⟨_,_,rfl,h2,?_⟩;have h1:=h1.le g2;rw[show Fl.fixF.length=32 from rfl,show natsW Fl.fixF=List.replicate 32 (.int .i64 5) from natsW_rep 32 5];exact h1
section
variable {w:World}{PK:PKT}{K:VWP}{S:Nat→Prop}{w0:World}{L:List Ent}
def r11T (v:Value)(p:Nat)(e:Int):Value:=.tuple #[v,.int .i64 (p:Int),.int .i64 e]
theorem outT0 {v:Value}{p:Nat}{e:Int}:DoX prog (mExt (r11T v p e) 0) w PK K=K v w:=x_ext rfl
theorem outT1 {v:Value}{p:Nat}{e:Int}:DoX prog (mExt (r11T v p e) 1) w PK K=K (.int .i64 (p:Int)) w:=x_ext rfl
theorem outT2 {v:Value}{p:Nat}{e:Int}:DoX prog (mExt (r11T v p e) 2) w PK K=K (.int .i64 e) w:=x_ext rfl
theorem nmT0 {x:Nat×Nat×Int}:DoX prog (mExt (nmT x) 0) w PK K=K (.int .i64 (x.1:Int)) w:=x_ext rfl
theorem nmT1 {x:Nat×Nat×Int}:DoX prog (mExt (nmT x) 1) w PK K=K (.int .i64 (x.2.1:Int)) w:=x_ext rfl
theorem nmT2 {x:Nat×Nat×Int}:DoX prog (mExt (nmT x) 2) w PK K=K (.int .i64 x.2.2) w:=x_ext rfl
theorem c_rnum {s:List UInt8}{p n:Nat}(ho:OwnS S w0 w L)(hp:p≤8*s.length)(hn:n≤32)(hs:s.length≤1000000000)
  (k1:p+n≤8*s.length→∀W,OwnS S w0 W L→K (nmT (Fl.num s p n,p+n,0)) W) (k2:8*s.length < p+n→∀W,OwnS S w0 W L→K (nmT (0,0,4)) W):CallX prog 194 #[.string ⟨s.toArray⟩,.int .i64 (p:Int),.int .i64 (n:Int)] w PK K:=by
 refine c_below ho (rnumber11_ret s p n w hp hn hs) ?_;rintro _ w1 rfl ho;unfold Fl.numE;split
 ·rename_i h;exact k1 h w1 ho
 ·rename_i h;exact k2 (by omega) w1 ho
theorem c_rstored {ov:Value}{s:List UInt8}{p most:Nat}{out:List UInt8}{R:List Ent}(ho:OwnS S w0 w (outR ov out::R))(hp:p≤8*s.length)(hs:s.length≤1000000000)(hmo:most≤1000000000)(hol:out.length≤most)
  (k1:(Fl.stored s most p out).2.2=0→(Fl.stored s most p out).2.1≤8*s.length→(Fl.stored s most p out).1.length≤most→∀ov' W,OwnS S w0 W (outR ov' (Fl.stored s most p out).1::R)→K (r11T ov' (Fl.stored s most p out).2.1 0) W)
  (k2:(Fl.stored s most p out).2.2≠0→∀W,OwnS S w0 W R→K (r11T nilS 0 (Fl.stored s most p out).2.2) W) :
  CallX prog 242 #[.string ⟨s.toArray⟩,.int .i64 (p:Int),ov,.int .i64 (most:Int)] w PK K:=by
 generalize hX:Fl.stored s most p out=X at k1 k2;refine c_any (S_foliantref11_stored_ok (K:=RetK fun v W=>(X.2.2=0∧X.2.1≤8*s.length∧X.1.length≤most∧∃ov',v=r11T ov' X.2.1 0∧OwnS S w0 W (outR ov' X.1::R))∨(X.2.2≠0∧v=r11T nilS 0 X.2.2∧OwnS S w0 W R)) ?_) (fun e W ⟨v,he,hv⟩=>by
  subst he;rcases hv with ⟨h1,h2,h3,ov',rfl,ho⟩|⟨h1,rfl,ho⟩
  ·exact k1 h1 h2 h3 ov' W ho
  ·exact k2 h1 W ho)
 clear k1 k2;unfold Fl.stored at hX;dsimp only at hX;unfold S_foliantref11_stored iN dx cx
 try simp only[rs]
 rw[wrap64_id (by omega) (by omega),b_quo (by decide),show (p:Int)+7=((p+7:Nat):Int) by omega,show ((p+7:Nat):Int).tdiv 8=(((p+7) / 8:Nat):Int) from rfl,wrap64_id (by omega) (by omega)]
 try simp only[rs]
 rw[wrap64_id (by omega) (by omega),show (((p+7) / 8:Nat):Int)*8=(((p+7) / 8*8:Nat):Int) by push_cast;rfl];have ha8:(p+7) / 8*8 % 8=0:=by omega
 have hal:(p+7) / 8*8≤8*s.length:=by omega
 generalize (p+7) / 8*8=a at hX ha8 hal;refine c_rnum (n:=16) ho hal (by omega) hs (fun h1 W1 ho=>?_) (fun h1 W1 ho=>?_)
 rotate_left
 ·rw[if_pos h1] at hX;subst hX;simp only[nmT0,nmT1,nmT2,n_err,show decide ((4:Int)≠0)=true from rfl,i_t];exact retK (.inr ⟨by (first|decide|(dsimp only;decide)),rfl,ho.tail⟩)
 rw[if_neg (by omega)] at hX;simp only[nmT0,nmT1,nmT2,n_err,show decide ((0:Int)≠0)=false from rfl,i_f];refine c_rnum (p:=a+16) (n:=16) ho h1 (by omega) hs (fun h2 W2 ho=>?_) (fun h2 W2 ho=>?_)
 rotate_left
 ·rw[if_pos (by omega)] at hX;subst hX;simp only[nmT0,nmT1,nmT2,n_err,show decide ((4:Int)≠0)=true from rfl,i_t];exact retK (.inr ⟨by (first|decide|(dsimp only;decide)),rfl,ho.tail⟩)
 rw[if_neg (by omega)] at hX;simp only[nmT0,nmT1,nmT2,n_err,show decide ((0:Int)≠0)=false from rfl,i_f];have hn1:=Fl.num_lt s a 16;have hn2:=Fl.num_lt s (a+16) 16;have h16:(2:Nat) ^ 16=65536:=by decide
 try simp only[rs]
 rw[wrap64_id (by omega) (by omega)];generalize Fl.num s a 16=n at hX hn1;generalize Fl.num s (a+16) 16=m at hX hn2;by_cases h3:n+m=65535
 case neg=>
  rw[if_pos h3] at hX;simp only[show decide ((m:Int)≠65535 - (n:Int))=true from decide_eq_true (by omega),i_t];subst hX;exact retK (.inr ⟨by (first|decide|(dsimp only;decide)),rfl,ho.tail⟩)
 rw[if_neg (by omega)] at hX;simp only[show decide ((m:Int)≠65535 - (n:Int))=false from decide_eq_false (by omega),i_f];rw[sl_len Tryz.underlying53 (out_sl (ho.at_ 0 rfl))]
 try simp only[rs]
 rw[wrap64_id (by omega) (by omega)];by_cases h4:most < out.length+n
 ·rw[if_pos h4] at hX;simp only[show decide ((most:Int) - (out.length:Int) < (n:Int))=true from decide_eq_true (by omega),i_t];subst hX;exact retK (.inr ⟨by (first|decide|(dsimp only;decide)),rfl,ho.tail⟩)
 rw[if_neg h4] at hX;simp only[show decide ((most:Int) - (out.length:Int) < (n:Int))=false from decide_eq_false (by omega),i_f];rw[s_len Tryz.underlying9,b_quo (by decide),show ((a+16+16:Nat):Int).tdiv 8=(((a+16+16) / 8:Nat):Int) from rfl,wrap64_id (by omega) (by omega)]
 try simp only[rs]
 rw[wrap64_id (by omega) (by omega)];by_cases h5:8*s.length < a+32+8*n
 ·rw[if_pos h5] at hX;simp only[show decide ((s.length:Int) - (((a+16+16) / 8:Nat):Int) < (n:Int))=true from decide_eq_true (by omega),i_t];subst hX;exact retK (.inr ⟨by (first|decide|(dsimp only;decide)),rfl,ho.tail⟩)
 rw[if_neg h5] at hX;simp only[show decide ((s.length:Int) - (((a+16+16) / 8:Nat):Int) < (n:Int))=false from decide_eq_false (by omega),i_f];rw[b_quo (by decide),b_quo (by decide),show ((a+16+16:Nat):Int).tdiv 8=(((a+16+16) / 8:Nat):Int) from rfl,wrap64_id (by omega) (by omega)]
 try simp only[rs]
 rw[wrap64_id (by omega) (by omega),s_slice Tryz.underlying9 (by omega) (by omega) (by omega)];rw[show ((((a+16+16) / 8:Nat):Int)+(n:Int)).toNat - (((a+16+16) / 8:Nat):Int).toNat=n by omega,Int.toNat_natCast];have hln:((s.drop ((a+16+16) / 8)).take n).length=n:=by rw[List.length_take,List.length_drop];omega
 refine o_appendSU 0 Tryz.underlying53 Tryz.underlying9 elU8 Tryz.underlying5 z8U ho rfl (by rw[hln];omega) fun v' w9 ho=>?_
 try simp only[rs]
 rw[wrap64_id (n:=8*(n:Int)) (by omega) (by omega),wrap64_id (by omega) (by omega)];rw[show (a+16+16) / 8=a / 8+4 by omega] at ho hln;have ho:OwnS S w0 w9 (outR v' (out++(s.drop (a / 8+4)).take n)::R):=by
  rw[outR_app];exact ho
 subst hX;refine retK (.inl ⟨rfl,by dsimp only;omega,by dsimp only;rw[List.length_append,hln];omega,v',?_,ho⟩);unfold r11T
 congr 4
 all_goals first|rfl|(push_cast;omega)
theorem c_rcopied {ov vf:Value}{s:List UInt8}{p most i:Nat}{out:List UInt8}{far:List Nat}{M:Mem}{R:List Ent}(jm:Nat)(ho:OwnS S w0 w (outR ov out::R))(hm:R[jm]?=some (.mem M))(hf:SlA M.A M.w vf 1 far.length (natsW far))(h15:∀l∈far,l≤15)(hl:far.length≤1000)(hp:p≤8*s.length)(hs:s.length≤1000000000)(hmo:most≤1000000000)(hol:out.length≤most)(hi:i≤1000)
  (k1:(Fl.copied far s p (257+i) out most).2.2=0→(Fl.copied far s p (257+i) out most).2.1≤8*s.length→(Fl.copied far s p (257+i) out most).1.length≤most→∀ov' W,OwnS S w0 W (outR ov' (Fl.copied far s p (257+i) out most).1::R)→K (r11T ov' (Fl.copied far s p (257+i) out most).2.1 0) W)
  (k2:(Fl.copied far s p (257+i) out most).2.2≠0→∀W,OwnS S w0 W R→K (r11T nilS 0 (Fl.copied far s p (257+i) out most).2.2) W) :
  CallX prog 280 #[.string ⟨s.toArray⟩,.int .i64 (p:Int),.int .i64 ((257+i:Nat):Int),vf,ov,.int .i64 (most:Int)] w PK K:=by
 generalize hX:Fl.copied far s p (257+i) out most=X at k1 k2;refine c_any (S_foliantref11_copied_ok (K:=RetK fun v W=>(X.2.2=0∧X.2.1≤8*s.length∧X.1.length≤most∧∃ov',v=r11T ov' X.2.1 0∧OwnS S w0 W (outR ov' X.1::R))∨(X.2.2≠0∧v=r11T nilS 0 X.2.2∧OwnS S w0 W R)) ?_) (fun e W ⟨v,he,hv⟩=>by
  subst he;rcases hv with ⟨h1,h2,h3,ov',rfl,ho⟩|⟨h1,rfl,ho⟩
  ·exact k1 h1 h2 h3 ov' W ho
  ·exact k2 h1 W ho)
 clear k1 k2;unfold Fl.copied at hX;unfold S_foliantref11_copied iN dx cx
 try simp only[rs]
 by_cases h1:285 < 257+i
 ·rw[if_pos h1] at hX;simp only[show decide ((285:Int) < ((257+i:Nat):Int))=true from decide_eq_true (by omega),i_t];subst hX;exact retK (.inr ⟨by (first|decide|(dsimp only;decide)),rfl,ho.tail⟩)
 simp only[show decide ((285:Int) < ((257+i:Nat):Int))=false from decide_eq_false (by omega),i_f];have hi28:i≤28:=by omega
 rw[if_neg h1,Nat.add_sub_cancel_left] at hX;obtain⟨hz1,hz2⟩:=Fl.sizeF_le hi28;refine c_below ho (rlonger_ret i w hi28) ?_;rintro _ w1 rfl ho;refine c_rnum ho hp (by omega) hs (fun h2 W ho=>?_) (fun h2 W ho=>?_)
 rotate_left
 ·rw[if_pos h2] at hX;subst hX;simp only[nmT0,nmT1,nmT2,n_err,show decide ((4:Int)≠0)=true from rfl,i_t];exact retK (.inr ⟨by (first|decide|(dsimp only;decide)),rfl,ho.tail⟩)
 rw[if_neg (by omega)] at hX;dsimp only at hX;simp only[nmT0,nmT1,nmT2,n_err,show decide ((0:Int)≠0)=false from rfl,i_f];have hnl:=Fl.num_lt s p (Fl.sizeB i);refine c_below ho (rSize11_ret i _ W hi28 hnl) ?_;rintro _ w2 rfl ho;simp only[ex];have hsz:Fl.sizeF i+Fl.num s p (Fl.sizeB i)≤100000:=by
  have:2 ^ Fl.sizeB i≤2 ^ 5:=Nat.pow_le_pow_right (by decide) hz2;omega
 generalize Fl.sizeF i+Fl.num s p (Fl.sizeB i)=sz at hX hsz;refine c_below ho (tellsM (rsign_ret far vf s (p+Fl.sizeB i) M w2 h15 hl h2 hs (ho.hasM (jm+1) hm) hf)) ?_;rintro _ w3 ⟨a,b,rfl,hb8,hab⟩ ho;generalize Fl.sign far s (p+Fl.sizeB i)=T at hX hab;obtain⟨fi,q,e⟩:=T;dsimp only at hX hab;simp only[nmT0,nmT1,nmT2,n_err];by_cases h3:e=0
 case neg=>
  rw[if_pos h3] at hX;subst hX;simp only[decide_eq_true (show e≠0 from h3),i_t];exact retK (.inr ⟨h3,rfl,ho.tail⟩)
 obtain⟨rfl,rfl⟩:=hab h3;rw[if_neg (by rw[h3];decide)] at hX;simp only[decide_eq_false (show ¬e≠0 by rw[h3];decide),i_f,rs];by_cases h4:29 < a
 ·rw[if_pos h4] at hX;simp only[show decide ((29:Int) < (a:Int))=true from decide_eq_true (by omega),i_t];subst hX;exact retK (.inr ⟨by (first|decide|(dsimp only;decide)),rfl,ho.tail⟩)
 rw[if_neg h4] at hX;simp only[show decide ((29:Int) < (a:Int))=false from decide_eq_false (by omega),i_f];have hf29:a≤29:=by omega
 obtain⟨hf1,hf2⟩:=Fl.farF_le hf29;refine c_below ho (rfarther_ret a w3 (by omega)) ?_;rintro _ w4 rfl ho;refine c_rnum ho hb8 (by omega) hs (fun h5 W ho=>?_) (fun h5 W ho=>?_)
 rotate_left
 ·rw[if_pos h5] at hX;subst hX;simp only[nmT0,nmT1,nmT2,n_err,show decide ((4:Int)≠0)=true from rfl,i_t];exact retK (.inr ⟨by (first|decide|(dsimp only;decide)),rfl,ho.tail⟩)
 rw[if_neg (by omega)] at hX;simp only[nmT0,nmT1,nmT2,n_err,show decide ((0:Int)≠0)=false from rfl,i_f];have hnl:=Fl.num_lt s b (Fl.farB a);refine c_below ho (rFar11_ret a _ W hf29 hnl) ?_;rintro _ w6 rfl ho;simp only[ex];have hfp:=Fl.farF_pos a;have hd1:1≤Fl.farF a+Fl.num s b (Fl.farB a):=by omega
 have hd2:Fl.farF a+Fl.num s b (Fl.farB a)≤1000000:=by
  have:2 ^ Fl.farB a≤2 ^ 13:=Nat.pow_le_pow_right (by decide) hf2;omega
 generalize Fl.farF a+Fl.num s b (Fl.farB a)=d at hX hd1 hd2;rw[sl_len Tryz.underlying53 (out_sl (ho.at_ 0 rfl))]
 try simp only[rs]
 by_cases h6:out.length < d
 ·rw[if_pos h6] at hX;simp only[show decide ((out.length:Int) < (d:Int))=true from decide_eq_true (by omega),i_t];subst hX;exact retK (.inr ⟨by (first|decide|(dsimp only;decide)),rfl,ho.tail⟩)
 rw[if_neg h6] at hX;simp only[show decide ((out.length:Int) < (d:Int))=false from decide_eq_false (by omega),i_f];rw[sl_len Tryz.underlying53 (out_sl (ho.at_ 0 rfl))]
 try simp only[rs]
 rw[wrap64_id (by omega) (by omega)];by_cases h7:most < out.length+sz
 ·rw[if_pos h7] at hX;simp only[show decide ((most:Int) - (out.length:Int) < (sz:Int))=true from decide_eq_true (by omega),i_t];subst hX;exact retK (.inr ⟨by (first|decide|(dsimp only;decide)),rfl,ho.tail⟩)
 rw[if_neg h7] at hX;simp only[show decide ((most:Int) - (out.length:Int) < (sz:Int))=false from decide_eq_false (by omega),i_f];have hbl:=Fl.back_len d sz out;generalize hB:Fl.back d sz out=B at hX hbl;refine loop (fun vs W=>∃(k:Nat) (ov:Value) (out:List UInt8),vs=[ov,.int .i64 (k:Int)]∧k≤sz∧d≤out.length∧out.length+(sz - k)=B.length∧Fl.back d (sz - k) out=B∧OwnS S w0 W (outR ov out::R)) (fun vs _=>sz - n1 vs) ⟨0,ov,out,rfl,by omega,by omega,by omega,by rw[Nat.sub_zero];exact hB,ho⟩ ?_;clear ho hB;rintro vs w7 ⟨k,ov,out,rfl,hk,hdo,hln,hB,ho⟩ _;simp only[S_foliantref11_copied_0,gd,rs,iN,dx];by_cases hlt:(k:Int) < (sz:Int)
 ·simp only[hlt,decide_true,i_t];obtain⟨m,hm2⟩:∃m,sz - k=m+1:=⟨sz - k - 1,by omega⟩;rw[hm2,Fl.back] at hB;rw[sl_len Tryz.underlying53 (out_sl (ho.at_ 0 rfl))]
  try simp only[rs]
  rw[wrap64_id (by omega) (by omega),show (out.length:Int) - (d:Int)=((out.length - d:Nat):Int) by omega];have hid:out.length - d < out.length:=by omega
  obtain⟨b2,off,r1,r2⟩:=bytes_at (out_sl (ho.at_ 0 rfl)) hid;refine do_eq (r1 w7) |>.mpr (do_eq (run_load_cell nU8l r2) |>.mpr ?_);have hgd:out.getD (out.length - d) 0=out[out.length - d]:=by rw[List.getD_eq_getElem?_getD,List.getElem?_eq_getElem hid];rfl
  rw[←hgd];refine o_u81 _ ho fun b8 w8 ho=>?_;refine o_appendU 1 Tryz.underlying53 elU8 (by decide) ho rfl (sl_one1 (ho.at_ 0 rfl) (by decide) rfl) bytesV_one' (by omega) (by omega) fun v' w9 ho=>?_
  try simp only[rs]
  rw[wrap64_id (by omega) (by omega)];refine nextX ⟨k+1,v',out++[out.getD (out.length - d) 0],rfl,by omega,by rw[List.length_append];omega,by rw[List.length_append,List.length_singleton];omega,by rw[show sz - (k+1)=m by omega];exact hB,?_⟩ (by simp[n1,RowKit.intOf];omega);rw[outR_app];exact ho.tail
 ·simp only[hlt,decide_false,i_f];have:k=sz:=by omega
  subst this;rw[Nat.sub_self] at hB hln;have hB:out=B:=hB;subst hB;subst hX;exact retK (.inl ⟨rfl,by dsimp only;omega,by dsimp only;omega,ov,rfl,ho⟩)
end
end
section
open Eng Go.RowKit
def Fl.dynL (s:List UInt8)(p:Nat):List Nat×List Nat×Nat×Int:=
 if 8*s.length < p+5 then ([],[],0,4)
 else if 29 < Fl.num s p 5 then ([],[],0,3)
 else if 8*s.length < p+10 then ([],[],0,4)
 else if 29 < Fl.num s (p+5) 5 then ([],[],0,3)
 else if 8*s.length < p+14 then ([],[],0,4)
 else if 8*s.length < p+14+3*(Fl.num s (p+10) 4+4) then ([],[],0,4)
 else
  let cl:=Fl.clG s (p+14) (Fl.num s (p+10) 4+4)
  if Fl.chk cl≠0 then ([],[],0,Fl.chk cl)
  else
   let r:=Fl.lens cl s (Fl.num s p 5+257+(Fl.num s (p+5) 5+1)) (p+14+3*(Fl.num s (p+10) 4+4))
   if r.2.2≠0 then ([],[],0,r.2.2)
   else (r.1.take (Fl.num s p 5+257),r.1.drop (Fl.num s p 5+257),r.2.1,0)
theorem Fl.dyn_dynL (s:List UInt8)(most p:Nat)(out:List UInt8):Fl.dyn s most p out =
  if (Fl.dynL s p).2.2.2≠0 then (out,p,(Fl.dynL s p).2.2.2)
  else if (Fl.dynL s p).1.getD 256 0=0 then (out,p,13)
  else if Fl.chk (Fl.dynL s p).1≠0 then (out,p,Fl.chk (Fl.dynL s p).1)
  else if Fl.chk (Fl.dynL s p).2.1≠0 then (out,p,Fl.chk (Fl.dynL s p).2.1)
  else Fl.coded (Fl.dynL s p).1 (Fl.dynL s p).2.1 s most (Fl.dynL s p).2.2.1 out:=by
 unfold Fl.dyn Fl.dynL;by_cases h1:8*s.length < p+5
 ·simp only[if_pos h1];rfl
 simp only[if_neg h1];by_cases h2:29 < Fl.num s p 5
 ·simp only[if_pos h2];rfl
 simp only[if_neg h2];by_cases h3:8*s.length < p+10
 ·simp only[if_pos h3];rfl
 simp only[if_neg h3];by_cases h4:29 < Fl.num s (p+5) 5
 ·simp only[if_pos h4];rfl
 simp only[if_neg h4];by_cases h5:8*s.length < p+14
 ·simp only[if_pos h5];rfl
 simp only[if_neg h5];by_cases h6:8*s.length < p+14+3*(Fl.num s (p+10) 4+4)
 ·simp only[if_pos h6];rfl
 simp only[if_neg h6];generalize p+14+3*(Fl.num s (p+10) 4+4)=q;generalize Fl.clG s (p+14) (Fl.num s (p+10) 4+4)=cl;generalize Fl.num s (p+5) 5+1=hd;have e:∀(l:List Nat) (n:Nat),(l.take (n+257)).getD 256 0=l.getD 256 0:=fun l n=>by
  rw[List.getD_eq_getElem?_getD,List.getElem?_take_of_lt (by omega),List.getD_eq_getElem?_getD]
 have e:=fun l=>e l (Fl.num s p 5);generalize Fl.num s p 5+257=hl at e ⊢;generalize Fl.lens cl s (hl+hd) q=r;obtain⟨l,q2,er⟩:=r;dsimp only;by_cases h7:Fl.chk cl≠0
 ·rw[if_pos h7,if_pos h7,if_pos h7]
 rw[if_neg h7,if_neg h7];by_cases h8:er≠0
 ·rw[if_pos h8,if_pos h8,if_pos h8]
 rw[if_neg h8,if_neg h8];dsimp only;rw[if_neg (show ¬((0:Int)≠0) by decide),e]
theorem rall11_ret (cl:List Nat)(v:Value)(s:List UInt8)(p n:Nat)(M:Mem)(w:World)(hcl:cl.length=19)(h15:∀l∈cl,l≤15)(hp:p≤8*s.length)(hsl:s.length≤1000000000)(hn:n≤1000)(hM:M.has w)(hs:SlA M.A M.w v 1 cl.length (natsW cl)) :
  RetM prog 277 #[.string ⟨s.toArray⟩,.int .i64 (p:Int),v,.int .i64 (n:Int)] M w (fun r N=>((Fl.lens cl s n p).2.2≠0∧r=r11T nilS 0 (Fl.lens cl s n p).2.2)∨((Fl.lens cl s n p).2.2=0∧(Fl.lens cl s n p).2.1≤8*s.length∧(Fl.lens cl s n p).1.length=n∧(∀x∈(Fl.lens cl s n p).1,x≤15)∧∃lv,r=r11T lv (Fl.lens cl s n p).2.1 0∧SlA N.A N.w lv 1 (Fl.lens cl s n p).1.length (natsW (Fl.lens cl s n p).1))):=by
 refine retM_of hM fun K hK=>S_foliantref11_all_ok ?_;generalize hX:Fl.lens cl s n p=X at hK;unfold Fl.lens at hX;unfold S_foliantref11_all;have ho:OwnS M.A w w [.mem M]:=OwnS.memS hM;have ho:OwnS M.A w w [.urow 3 1 nilS 0 [],.mem M]:=OwnS.nilU (L:=[.mem M]) ho _ _;refine loop (fun vs W=>∃(p:Nat) (l:List Nat) (lv:Value),vs=[.int .i64 (p:Int),lv]∧p≤8*s.length∧l.length≤n∧(∀x∈l,x≤15)∧(∃f,n+1 - l.length≤f∧Fl.lensG cl s n f p l=X)∧OwnS M.A w W [.urow 3 1 lv l.length (natsW l),.mem M]) (fun vs _=>n - lenV (vs.getD 1 undef)) ⟨p,[],nilS,rfl,hp,Nat.zero_le _,(fun x hx=>by cases hx),⟨_,Nat.le_refl _,hX⟩,ho⟩ ?_;clear ho hX hp;rintro vs w1 ⟨p,l,lv,rfl,hp,hln,hl15,⟨f,hf,hX⟩,ho⟩ _;have hlv:lenV lv=l.length:=sl_lenV (ho.slU 0 rfl);simp only[S_foliantref11_all_0,gd,iN,dx,gtx,etx,cx];obtain⟨f,rfl⟩:∃f',f=f'+1:=⟨f - 1,by omega⟩;rw[Fl.lensG] at hX;dsimp only at hX;rw[sl_len Tryz.underlying123 (ho.slU 0 rfl)]
 try simp only[rs]
 by_cases hlt:(l.length:Int) < (n:Int)
 case neg=>
  simp only[hlt,decide_false,i_f];rw[if_pos (by omega)] at hX;subst hX;obtain⟨N1,g1,h1,ho⟩:=OwnS.freezeU (L:=[.mem M]) ho 0 rfl;exact hK _ _ N1 _ 0 ho rfl g1 (.inr ⟨rfl,hp,by dsimp only;omega,hl15,lv,rfl,h1⟩)
 simp only[hlt,decide_true,i_t];rw[if_neg (by omega)] at hX;refine c_below ho (tellsM (rsign_ret cl v s p M w1 h15 (by omega) hp hsl (ho.hasM 1 rfl) hs)) ?_;rintro _ w3 ⟨g,q,rfl,hq8,hab⟩ ho;have hg19:(Fl.sign cl s p).1 < cl.length:=Fl.signG_lt s (by omega) 16 0 p 0;rw[hcl] at hg19;generalize Fl.sign cl s p=T at hX hab hg19;obtain⟨g',q',e⟩:=T;dsimp only at hX hab hg19;simp only[nmT0,nmT1,nmT2,n_err];by_cases h3:e=0
 case neg=>
  rw[if_pos h3] at hX;subst hX;simp only[decide_eq_true (show e≠0 from h3),i_t];exact hK _ _ M _ 1 ho rfl M.le_refl (.inl ⟨h3,rfl⟩)
 obtain⟨rfl,rfl⟩:=hab h3;rw[if_neg (by rw[h3];decide)] at hX;simp only[decide_eq_false (show ¬e≠0 by rw[h3];decide),i_f,rs];by_cases h16:g < 16
 ·rw[if_pos h16] at hX;simp only[show decide ((g:Int) < 16)=true from decide_eq_true (by omega),i_t];refine o_ints1 (g:Int) ho fun b2 w6 ho=>?_;refine o_apInt 1 ho rfl (ho.sl 0 rfl 1 1 1 rfl) intsW_one (by omega) fun v' w7 ho=>?_;have hlv2:lenV v'=l.length+1:=sl_lenV (ho.slU 1 rfl);refine nextX ⟨q,l++[g],v',rfl,hq8,by rw[List.length_append,List.length_singleton];omega,?_,⟨f,by rw[List.length_append,List.length_singleton];omega,hX⟩,?_⟩ (by show n - lenV v' < n - lenV lv;omega)
  ·intro x hx;rcases List.mem_append.1 hx with hx|hx
   ·exact hl15 x hx
   ·rw[List.mem_singleton.1 hx];omega
  ·rw[natsW_app,List.length_append];exact ho.tail
 rw[if_neg h16] at hX;simp only[show decide ((g:Int) < 16)=false from decide_eq_false (by omega),i_f,rs];have hB:=Fl.repB_le g;have hL:=Fl.repL_le g;have rest:∀(ag:Nat),(ag=if g=16 then l.getD (l.length - 1) 0 else 0)→ag≤15→¬(g=16∧l.length=0)→S_foliantref11_all_1 (.string ⟨s.toArray⟩) (.int .i64 (n:Int)) lv (.int .i64 (g:Int)) (.int .i64 (q:Int)) (.int .i64 2) (.int .i64 3) (.int .i64 (ag:Int)) w3 (NextX (fun vs W=>∃(p:Nat) (l:List Nat) (lv:Value),vs=[.int .i64 (p:Int),lv]∧p≤8*s.length∧l.length≤n∧(∀x∈l,x≤15)∧(∃f,n+1 - l.length≤f∧Fl.lensG cl s n f p l=X)∧OwnS M.A w W [.urow 3 1 lv l.length (natsW l),.mem M]) (fun vs _=>n - lenV (vs.getD 1 undef)) [.int .i64 (p:Int),lv] w1) K:=by
  intro ag hag hag15 hne;rw[if_neg hne,←hag] at hX;have more:S_foliantref11_all_3 (.string ⟨s.toArray⟩) (.int .i64 (n:Int)) lv (.int .i64 (q:Int)) (.int .i64 (Fl.repB g:Int)) (.int .i64 (Fl.repL g:Int)) (.int .i64 (ag:Int)) w3 (NextX (fun vs W=>∃(p:Nat) (l:List Nat) (lv:Value),vs=[.int .i64 (p:Int),lv]∧p≤8*s.length∧l.length≤n∧(∀x∈l,x≤15)∧(∃f,n+1 - l.length≤f∧Fl.lensG cl s n f p l=X)∧OwnS M.A w W [.urow 3 1 lv l.length (natsW l),.mem M]) (fun vs _=>n - lenV (vs.getD 1 undef)) [.int .i64 (p:Int),lv] w1) K:=by
   unfold S_foliantref11_all_3 iN dx cx;refine c_rnum ho hq8 (by omega) hsl (fun h5 W5 ho=>?_) (fun h5 W5 ho=>?_)
   rotate_left
   ·rw[if_pos h5] at hX;subst hX;simp only[nmT0,nmT1,nmT2,n_err,show decide ((4:Int)≠0)=true from rfl,i_t];exact hK _ _ M _ 1 ho rfl M.le_refl (.inl ⟨by (first|decide|(dsimp only;decide)),rfl⟩)
   rw[if_neg (by omega)] at hX;simp only[nmT0,nmT1,nmT2,n_err,show decide ((0:Int)≠0)=false from rfl,i_f];have hnl:=Fl.num_lt s q (Fl.repB g);have h27:2 ^ Fl.repB g≤2 ^ 7:=Nat.pow_le_pow_right (by decide) hB;have h27':(2:Nat) ^ 7=128:=by decide
   try simp only[rs]
   rw[wrap64_id (by omega) (by omega),sl_len Tryz.underlying123 (ho.slU 0 rfl)]
   try simp only[rs]
   rw[wrap64_id (by omega) (by omega)];by_cases h6:n < l.length+(Fl.repL g+Fl.num s q (Fl.repB g))
   ·rw[if_pos h6] at hX;simp only[show decide ((n:Int) - (l.length:Int) < (Fl.repL g:Int)+(Fl.num s q (Fl.repB g):Int))=true from decide_eq_true (by omega),i_t];subst hX;exact hK _ _ M _ 1 ho rfl M.le_refl (.inl ⟨by (first|decide|(dsimp only;decide)),rfl⟩)
   rw[if_neg h6] at hX;simp only[show decide ((n:Int) - (l.length:Int) < (Fl.repL g:Int)+(Fl.num s q (Fl.repB g):Int))=false from decide_eq_false (by omega),i_f];refine loop (fun vs W=>∃(i:Nat) (lv':Value),vs=[lv',.int .i64 (i:Int)]∧i≤Fl.repL g+Fl.num s q (Fl.repB g)∧OwnS M.A w W [.urow 3 1 lv' (l.length+i) (natsW (l++List.replicate i ag)),.mem M]) (fun vs _=>Fl.repL g+Fl.num s q (Fl.repB g) - n1 vs) ⟨0,lv,rfl,by omega,by rw[List.replicate_zero,List.append_nil];exact ho⟩ ?_;clear ho;rintro vs w6 ⟨i,lv',rfl,hi,ho⟩ _;simp only[S_foliantref11_all_4,gd,rs,iN,dx];rw[wrap64_id (by omega) (by omega)];by_cases hlt2:(i:Int) < (Fl.repL g:Int)+(Fl.num s q (Fl.repB g):Int)
   ·simp only[hlt2,decide_true,i_t];refine o_ints1 (ag:Int) ho fun b2 w7 ho=>?_;refine o_apInt 1 ho rfl (ho.sl 0 rfl 1 1 1 rfl) intsW_one (by omega) fun v' w8 ho=>?_
    try simp only[rs]
    rw[wrap64_id (by omega) (by omega)];refine nextX ⟨i+1,v',rfl,by omega,?_⟩ (by simp[n1,RowKit.intOf];omega);rw[List.replicate_succ',←List.append_assoc,natsW_app];exact ho.tail
   ·simp only[hlt2,decide_false,i_f];have:i=Fl.repL g+Fl.num s q (Fl.repB g):=by omega
    subst this;have hlv2:=sl_lenV (ho.slU 0 rfl);refine nextX ⟨q+Fl.repB g,l++List.replicate _ ag,lv',rfl,h5,by rw[List.length_append,List.length_replicate];omega,?_,⟨f,by rw[List.length_append,List.length_replicate];omega,hX⟩,?_⟩ (by show n - lenV lv' < n - lenV lv;omega)
    ·intro x hx;rcases List.mem_append.1 hx with hx|hx
     ·exact hl15 x hx
     ·rw[List.eq_of_mem_replicate hx];exact hag15
    ·rw[List.length_append,List.length_replicate];exact ho
  unfold S_foliantref11_all_1 iN dx;refine join fun J3 hJ3=>?_
  try simp only[rs]
  by_cases h17:g=17
  ·simp only[show decide ((g:Int)=17)=true from decide_eq_true (by omega),i_t];refine hJ3 _ _ fun _=>?_;simp only[S_foliantref11_all_2,gd,iN,dx];refine join fun J4 hJ4=>?_;simp only[rs,show decide ((g:Int)=18)=false from decide_eq_false (by omega),i_f];refine hJ4 _ _ fun _=>?_;subst h17;exact more
  simp only[show decide ((g:Int)=17)=false from decide_eq_false (by omega),i_f];refine hJ3 _ _ fun _=>?_;simp only[S_foliantref11_all_2,gd,iN,dx];refine join fun J4 hJ4=>?_
  try simp only[rs]
  by_cases h18:g=18
  ·simp only[show decide ((g:Int)=18)=true from decide_eq_true (by omega),i_t];refine hJ4 _ _ fun _=>?_;subst h18;exact more
  simp only[show decide ((g:Int)=18)=false from decide_eq_false (by omega),i_f];refine hJ4 _ _ fun _=>?_;have:g=16:=by omega
  subst this;exact more
 by_cases hg:g=16
 case neg=>
  simp only[show decide ((g:Int)=16)=false from decide_eq_false (by omega),rs];refine join fun J2 hJ2=>?_
  try simp only[rs,show decide ((g:Int)=16)=false from decide_eq_false (by omega),i_f]
  exact hJ2 _ _ fun _=>rest 0 (by rw[if_neg hg]) (by omega) (fun h=>hg h.1)
 simp only[show decide ((g:Int)=16)=true from decide_eq_true (by omega),rs];rw[sl_len Tryz.underlying123 (ho.slU 0 rfl)]
 try simp only[rs]
 by_cases h0:l.length=0
 ·simp only[show decide ((l.length:Int)=0)=true from decide_eq_true (by omega),rs];rw[if_pos ⟨hg,h0⟩] at hX;subst hX;exact hK _ _ M _ 1 ho rfl M.le_refl (.inl ⟨by (first|decide|(dsimp only;decide)),rfl⟩)
 simp only[show decide ((l.length:Int)=0)=false from decide_eq_false (by omega),rs];refine join fun J2 hJ2=>?_
 try simp only[rs,show decide ((g:Int)=16)=true from decide_eq_true (by omega),i_t]
 rw[sl_len Tryz.underlying123 (ho.slU 0 rfl)]
 try simp only[rs]
 rw[wrap64_id (by omega) (by omega),show (l.length:Int) - 1=((l.length - 1:Nat):Int) by omega];have hil:l.length - 1 < l.length:=by omega
 obtain⟨b2,off,r1,r2⟩:=nats_at (ho.slU 0 rfl) hil;refine do_eq (r1 w3) |>.mpr (do_eq (run_load_cell nInt5 r2) |>.mpr ?_);have hgd:l.getD (l.length - 1) 0=l[l.length - 1]:=by rw[List.getD_eq_getElem?_getD,List.getElem?_eq_getElem hil];rfl
 exact hJ2 _ _ fun _=>rest _ (by rw[if_pos hg,hgd]) (hl15 _ (List.getElem_mem hil)) (fun h=>by omega)
def r11L (a b:Value)(p:Nat)(e:Int):Value:=.tuple #[a,b,.int .i64 (p:Int),.int .i64 e]
theorem rlengths_ret (s:List UInt8)(p:Nat)(M:Mem)(w:World)(hp:p≤8*s.length)(hsl:s.length≤1000000000)(hM:M.has w) :
  RetM prog 244 #[.string ⟨s.toArray⟩,.int .i64 (p:Int)] M w (fun r N=>((Fl.dynL s p).2.2.2≠0∧r=r11L nilS nilS 0 (Fl.dynL s p).2.2.2)∨((Fl.dynL s p).2.2.2=0∧(Fl.dynL s p).2.2.1≤8*s.length∧257≤(Fl.dynL s p).1.length∧(Fl.dynL s p).1.length≤1000∧(Fl.dynL s p).2.1.length≤1000∧(∀x∈(Fl.dynL s p).1,x≤15)∧(∀x∈(Fl.dynL s p).2.1,x≤15)∧∃a b,r=r11L a b (Fl.dynL s p).2.2.1 0∧SlA N.A N.w a 1 (Fl.dynL s p).1.length (natsW (Fl.dynL s p).1)∧SlA N.A N.w b 1 (Fl.dynL s p).2.1.length (natsW (Fl.dynL s p).2.1))):=by
 refine retM_of hM fun K hK=>S_foliantref11_lengths_ok ?_;generalize hX:Fl.dynL s p=X at hK;unfold Fl.dynL at hX;dsimp only at hX;unfold S_foliantref11_lengths iN dx cx;have ho:OwnS M.A w w [.mem M]:=OwnS.memS hM;have h5:(2:Nat) ^ 5=32:=by decide
 have h4:(2:Nat) ^ 4=16:=by decide
 have er:∀{W:World} {L:List Ent} (e:Int) (i:Nat),OwnS M.A w W L→L[i]?=some (.mem M)→X=([],[],0,e)→e≠0→K (.returned (.tuple #[nilS,nilS,.int .i64 0,.int .i64 e])) W:=by
  intro W L e i ho hi hx h0;exact hK _ _ M _ i ho hi M.le_refl (.inl ⟨by rw[hx];exact h0,by rw[hx];rfl⟩)
 refine c_rnum (n:=5) ho hp (by omega) hsl (fun e1 W1 ho=>?_) (fun e1 W1 ho=>?_)
 rotate_left
 ·rw[if_pos e1] at hX;simp only[nmT0,nmT1,nmT2,n_err,show decide ((4:Int)≠0)=true from rfl,i_t];exact er 4 0 ho rfl hX.symm (by decide)
 rw[if_neg (by omega)] at hX;simp only[nmT0,nmT1,nmT2,n_err,show decide ((0:Int)≠0)=false from rfl,i_f];have n1':=Fl.num_lt s p 5;generalize Fl.num s p 5=hl at hX n1'
 try simp only[rs]
 by_cases e2:29 < hl
 ·rw[if_pos e2] at hX;simp only[show decide ((29:Int) < (hl:Int))=true from decide_eq_true (by omega),i_t];exact er 3 0 ho rfl hX.symm (by decide)
 rw[if_neg e2] at hX;simp only[show decide ((29:Int) < (hl:Int))=false from decide_eq_false (by omega),i_f];refine c_rnum (p:=p+5) (n:=5) ho e1 (by omega) hsl (fun e3 W2 ho=>?_) (fun e3 W2 ho=>?_)
 rotate_left
 ·rw[if_pos (by omega)] at hX;simp only[nmT0,nmT1,nmT2,n_err,show decide ((4:Int)≠0)=true from rfl,i_t];exact er 4 0 ho rfl hX.symm (by decide)
 rw[if_neg (by omega)] at hX;simp only[nmT0,nmT1,nmT2,n_err,show decide ((0:Int)≠0)=false from rfl,i_f];have n2':=Fl.num_lt s (p+5) 5;generalize Fl.num s (p+5) 5=hd at hX n2'
 try simp only[rs]
 by_cases e4:29 < hd
 ·rw[if_pos e4] at hX;simp only[show decide ((29:Int) < (hd:Int))=true from decide_eq_true (by omega),i_t];exact er 3 0 ho rfl hX.symm (by decide)
 rw[if_neg e4] at hX;simp only[show decide ((29:Int) < (hd:Int))=false from decide_eq_false (by omega),i_f];refine c_rnum (p:=p+5+5) (n:=4) ho e3 (by omega) hsl (fun e5 W3 ho=>?_) (fun e5 W3 ho=>?_)
 rotate_left
 ·rw[if_pos (by omega)] at hX;simp only[nmT0,nmT1,nmT2,n_err,show decide ((4:Int)≠0)=true from rfl,i_t];exact er 4 0 ho rfl hX.symm (by decide)
 rw[if_neg (by omega)] at hX;simp only[nmT0,nmT1,nmT2,n_err,show decide ((0:Int)≠0)=false from rfl,i_f];have n3':=Fl.num_lt s (p+10) 4;rw[show Fl.num s (p+5+5) 4=Fl.num s (p+10) 4 from rfl,show p+5+5+4=p+14 from rfl];generalize Fl.num s (p+10) 4=hc at hX n3';refine o_new (fun b=>.slice (some ⟨b,0,none⟩) 19 19) (natsW Fl.ord) 3 (fun _=>by kernel_rfl) ho fun ob W4 ho=>?_;refine o_makeI (n:=19) (by omega) ho fun lb W5 ho=>?_;have hr0:List.replicate 19 (Value.int .i64 0)=natsW (Fl.clG s (p+14) 0):=rfl;rw[hr0] at ho;refine loop (fun vs W=>∃i:Nat,vs=[.int .i64 ((p+14+3*i:Nat):Int),.int .i64 (i:Int)]∧i≤hc+4∧p+14+3*i≤8*s.length∧OwnS M.A w W [.cells lb (natsW (Fl.clG s (p+14) i)) 3,.cells ob (natsW Fl.ord) 3,.mem M]) (fun vs _=>hc+4 - n1 vs) ⟨0,rfl,by omega,by omega,ho⟩ ?_;clear ho;rintro vs w5 ⟨i,rfl,hi,hpi,ho⟩ _;simp only[S_foliantref11_lengths_0,gd,rs,iN,dx,cx];rw[wrap64_id (by omega) (by omega)];by_cases hlt:(i:Int) < (hc:Int)+4
 ·simp only[hlt,decide_true,i_t];have hi19:i < 19:=by omega
  refine c_rnum (n:=3) ho hpi (by omega) hsl (fun e6 W6 ho=>?_) (fun e6 W6 ho=>?_)
  rotate_left
  ·rw[if_pos (by omega)] at hX;simp only[nmT0,nmT1,nmT2,n_err,show decide ((4:Int)≠0)=true from rfl,i_t];exact er 4 2 ho rfl hX.symm (by decide)
  simp only[nmT0,nmT1,nmT2,n_err,show decide ((0:Int)≠0)=false from rfl,i_f];have ho19:=Fl.ord_lt hi19;have hol:Fl.ord.length=19:=rfl;obtain⟨b2,off,r1,r2⟩:=nats_at (l:=Fl.ord) (v:=.slice (some ⟨ob,0,none⟩) 19 19) (ho.sl 1 rfl 1 19 19 rfl) (i:=i) (by rw[hol];exact hi19);refine do_eq (r1 W6) |>.mpr (do_eq (run_load_cell nInt5 r2) |>.mpr ?_);have hgd:Fl.ord[i]'(by rw[hol];exact hi19)=Fl.ord.getD i 0:=by rw[List.getD_eq_getElem?_getD,List.getElem?_eq_getElem (by rw[hol];exact hi19)];rfl
  rw[hgd];have hia:=run_ia (P:=prog) (T:=123) (b:=lb) (off:=0) (cap:=19) (n:=19) (k:=.i64) (i:=((Fl.ord.getD i 0:Nat):Int)) (w:=W6) Tryz.underlying123 szI1 (by omega) (by omega);rw[Int.toNat_natCast,Nat.mul_one,Nat.zero_add] at hia;refine do_eq hia |>.mpr ?_;refine o_store 0 ho rfl (by kernel_rfl) rfl (by rw[natsW_len,Fl.clG_len];exact ho19) fun w7 ho=>?_
  try simp only[rs]
  rw[wrap64_id (by omega) (by omega)];refine nextX ⟨i+1,rfl,by omega,by omega,?_⟩ (by simp[n1,RowKit.intOf];omega);rw[Fl.clG,natsW_set];exact ho
 simp only[hlt,decide_false,i_f];have hie:i=hc+4:=by omega
 subst hie;rw[if_neg (by omega)] at hX;have hcl:=Fl.clG_len s (p+14) (hc+4);have hc7:=Fl.clG_le s (p+14) (hc+4);generalize Fl.clG s (p+14) (hc+4)=cl at hX hcl hc7 ho;have his:=ho.at_ 0 rfl;obtain⟨N1,g1,hw1,hblk,ho⟩:=OwnS.freeze (L:=[.cells ob (natsW Fl.ord) 3,.mem M]) ho 1 rfl;have ho:OwnS M.A w w5 [.cells ob (natsW Fl.ord) 3,.mem N1]:=ho;have hsl19:SlA N1.A N1.w (.slice (some ⟨lb,0,none⟩) 19 19) 1 cl.length (natsW cl):=by
  rw[hw1,hcl];refine⟨Sl.cells his 1 19 19 (by rw[natsW_len,hcl]),fun q l c e _=>?_,fun a l c e=>?_⟩
  ·injection e with e1 e2 e3
   cases e1;exact hblk lb rfl
  ·injection e with e1 e2 e3
   omega
 have c15:∀l∈cl,l≤15:=fun l h=>by have:=hc7 l h;omega
 refine c_mem ho 1 rfl (rcheck10_ret cl _ N1 w5 c15 (by omega) (ho.hasM 1 rfl) hsl19) ?_;rintro _ N2 w6 g2 rfl ho;have g12:=g1.trans g2;simp only[n_err];by_cases hck:Fl.chk cl=0
 case neg=>
  rw[if_pos hck] at hX;subst hX;simp only[decide_eq_true (show Fl.chk cl≠0 from hck),i_t];exact hK _ _ N2 _ 1 ho rfl g12 (.inl ⟨hck,rfl⟩)
 rw[if_neg (by simp[hck])] at hX;simp only[decide_eq_false (show ¬Fl.chk cl≠0 by simp[hck]),i_f,rs];rw[wrap64_id (n:=(hl:Int)+257) (by omega) (by omega),wrap64_id (n:=(hl:Int)+257+(hd:Int)) (by omega) (by omega),wrap64_id (by omega) (by omega),show (hl:Int)+257+(hd:Int)+1=((hl+257+(hd+1):Nat):Int) by omega];refine c_mem ho 1 rfl (rall11_ret cl _ s (p+14+3*(hc+4)) (hl+257+(hd+1)) N2 w6 hcl c15 hpi hsl (by omega) (ho.hasM 1 rfl) (hsl19.le g2)) ?_;intro v N3 w7 g3 hv ho;have g13:=g12.trans g3;generalize Fl.lens cl s (hl+257+(hd+1)) (p+14+3*(hc+4))=r at hX hv;obtain⟨l,q,e⟩:=r;dsimp only at hX hv;rcases hv with ⟨e1,rfl⟩|⟨e1,e2,e3,e4,lv,rfl,hrow⟩
 ·rw[if_pos e1] at hX;subst hX;simp only[outT0,outT1,outT2,n_err,decide_eq_true e1,i_t];exact hK _ _ N3 _ 1 ho rfl g13 (.inl ⟨e1,rfl⟩)
 rw[if_neg (by rw[e1];decide)] at hX;simp only[outT0,outT1,outT2,n_err,show decide ((0:Int)≠0)=false from rfl,i_f];obtain⟨la,lc,hlv,hcap⟩:=hrow.form;rw[hlv] at hrow ⊢;refine quietC (fun W=>OwnS M.A w W [.cells ob (natsW Fl.ord) 3,.mem N3]) ho.drew ?_;refine q_add ?_;rw[wrap64_id (by omega) (by omega)];refine q_do _ (fun _=>run_sl_h Tryz.underlying123 szI1 (by omega) (by omega)) (q_add ?_);rw[wrap64_id (by omega) (by omega)];refine q_do _ (fun _=>run_sl_l Tryz.underlying123 szI1 (by omega) (by omega)) ?_;intro w8 ho;rw[show ((hl:Int)+257).toNat=hl+257 by omega];subst hX;refine hK _ _ N3 _ 1 ho rfl g13 (.inr ⟨rfl,e2,by dsimp only;rw[List.length_take];omega,by dsimp only;rw[List.length_take];omega,by dsimp only;rw[List.length_drop];omega,fun x hx=>e4 x (List.mem_of_mem_take hx),fun x hx=>e4 x (List.mem_of_mem_drop hx),_,_,rfl,?_,?_⟩)
 ·have:=hrow.upto16 (i:=hl+257) (by omega) (by omega);dsimp only;rw[List.length_take,Nat.min_eq_left (by omega)];rw[Nat.mul_one] at this;have e:natsW (l.take (hl+257))=(natsW l).take (hl+257):=by unfold natsW;rw[List.map_take]
  rw[e];exact this
 ·have:=hrow.drop16 (i:=hl+257) (by omega);dsimp only;rw[List.length_drop];rw[Nat.mul_one] at this;have e:natsW (l.drop (hl+257))=(natsW l).drop (hl+257):=by unfold natsW;rw[List.map_drop]
  rw[e];exact this
section
variable {w:World}{PK:PKT}{K:VWP}{S:Nat→Prop}{w0:World}{L:List Ent}
theorem r11L0 {a b:Value}{p:Nat}{e:Int}:DoX prog (mExt (r11L a b p e) 0) w PK K=K a w:=x_ext rfl
theorem r11L1 {a b:Value}{p:Nat}{e:Int}:DoX prog (mExt (r11L a b p e) 1) w PK K=K b w:=x_ext rfl
theorem r11L2 {a b:Value}{p:Nat}{e:Int}:DoX prog (mExt (r11L a b p e) 2) w PK K=K (.int .i64 (p:Int)) w:=x_ext rfl
theorem r11L3 {a b:Value}{p:Nat}{e:Int}:DoX prog (mExt (r11L a b p e) 3) w PK K=K (.int .i64 e) w:=x_ext rfl
theorem c_rsigns {ov vn vf:Value}{s:List UInt8}{p most:Nat}{out:List UInt8}{near far:List Nat}{M:Mem}{R:List Ent}(jm:Nat)(ho:OwnS S w0 w (outR ov out::R))(hm:R[jm]?=some (.mem M))(hn:SlA M.A M.w vn 1 near.length (natsW near))(hf:SlA M.A M.w vf 1 far.length (natsW far))(hn15:∀l∈near,l≤15)(h15:∀l∈far,l≤15)(hln:near.length≤1000)(hl:far.length≤1000)(hp:p≤8*s.length)(hs:s.length≤1000000000)(hmo:most≤1000000000)(hol:out.length≤most)
  (k1:(Fl.coded near far s most p out).2.2=0→(Fl.coded near far s most p out).2.1≤8*s.length→(Fl.coded near far s most p out).1.length≤most→∀ov' W,OwnS S w0 W (outR ov' (Fl.coded near far s most p out).1::R)→K (r11T ov' (Fl.coded near far s most p out).2.1 0) W)
  (k2:(Fl.coded near far s most p out).2.2≠0→∀W,OwnS S w0 W R→K (r11T nilS 0 (Fl.coded near far s most p out).2.2) W) :
  CallX prog 246 #[.string ⟨s.toArray⟩,.int .i64 (p:Int),vn,vf,ov,.int .i64 (most:Int)] w PK K:=by
 generalize hX:Fl.coded near far s most p out=X at k1 k2;refine c_any (S_foliantref11_signs_ok (K:=RetK fun v W=>(X.2.2=0∧X.2.1≤8*s.length∧X.1.length≤most∧∃ov',v=r11T ov' X.2.1 0∧OwnS S w0 W (outR ov' X.1::R))∨(X.2.2≠0∧v=r11T nilS 0 X.2.2∧OwnS S w0 W R)) ?_) (fun e W ⟨v,he,hv⟩=>by
  subst he;rcases hv with ⟨h1,h2,h3,ov',rfl,ho⟩|⟨h1,rfl,ho⟩
  ·exact k1 h1 h2 h3 ov' W ho
  ·exact k2 h1 W ho)
 clear k1 k2;unfold S_foliantref11_signs;refine loop (fun vs W=>∃(p:Nat) (ov:Value) (out:List UInt8),vs=[.int .i64 (p:Int),ov]∧p≤8*s.length∧out.length≤most∧(∃f,8*s.length+1 - p≤f∧Fl.codedG near far s most f p out=X)∧OwnS S w0 W (outR ov out::R)) (fun vs _=>8*s.length+1 - n0 vs) ⟨p,ov,out,rfl,hp,hol,⟨_,Nat.le_refl _,hX⟩,ho⟩ ?_;clear ho hX hp hol;rintro vs w1 ⟨p,ov,out,rfl,hp,hol,⟨f,hf2,hX⟩,ho⟩ _;simp only[S_foliantref11_signs_0,gd,iN,dx,cx];obtain⟨f,rfl⟩:∃f',f=f'+1:=⟨f - 1,by omega⟩;rw[Fl.codedG] at hX;dsimp only at hX;refine c_below ho (tellsM (rsign_ret near vn s p M w1 hn15 hln hp hs (ho.hasM (jm+1) hm) hn)) ?_;rintro _ w3 ⟨g,q,rfl,hq8,hab⟩ ho;have hadv:=@Fl.sign_adv near s p;have hle:=@Fl.sign_le near s p;generalize Fl.sign near s p=T at hX hab hadv hle;obtain⟨g',q',e⟩:=T;dsimp only at hX hab hadv hle;simp only[nmT0,nmT1,nmT2,n_err];by_cases h3:e=0
 case neg=>
  rw[if_pos h3] at hX;subst hX;simp only[decide_eq_true (show e≠0 from h3),i_t];exact retK (.inr ⟨h3,rfl,ho.tail⟩)
 obtain⟨rfl,rfl⟩:=hab h3;have hadv:=hadv h3;rw[if_neg (by rw[h3];decide)] at hX;simp only[decide_eq_false (show ¬e≠0 by rw[h3];decide),i_f,rs];by_cases h256:g=256
 ·rw[if_neg (by omega),if_pos h256] at hX;simp only[show decide ((g:Int)=256)=true from decide_eq_true (by omega),i_t];subst hX;exact retK (.inl ⟨rfl,hq8,hol,ov,rfl,ho⟩)
 simp only[show decide ((g:Int)=256)=false from decide_eq_false (by omega),i_f,rs];by_cases hlo:g < 256
 ·rw[if_pos hlo] at hX;simp only[show decide ((256:Int) < (g:Int))=false from decide_eq_false (by omega),i_f];rw[sl_len Tryz.underlying53 (out_sl (ho.at_ 0 rfl))]
  try simp only[rs]
  by_cases h7:most < out.length+1
  ·rw[if_pos h7] at hX;simp only[show decide ((most:Int)≤(out.length:Int))=true from decide_eq_true (by omega),i_t];subst hX;exact retK (.inr ⟨by (first|decide|(dsimp only;decide)),rfl,ho.tail⟩)
  rw[if_neg h7] at hX;simp only[show decide ((most:Int)≤(out.length:Int))=false from decide_eq_false (by omega),i_f];refine do_eq (cU8 (by omega)) |>.mpr ?_;refine o_u81 _ ho fun b8 w8 ho=>?_;refine o_appendU 1 Tryz.underlying53 elU8 (by decide) ho rfl (sl_one1 (ho.at_ 0 rfl) (by decide) rfl) bytesV_one' (by omega) (by omega) fun v' w9 ho=>?_;refine nextX ⟨q,v',_,rfl,hq8,by rw[List.length_append,List.length_singleton];omega,⟨f,by omega,hX⟩,?_⟩ (by simp[n0,RowKit.intOf];omega);rw[outR_app];exact ho.tail
 rw[if_neg hlo,if_neg h256] at hX;simp only[show decide ((256:Int) < (g:Int))=true from decide_eq_true (by omega),i_t];obtain⟨i,rfl⟩:∃i,g=257+i:=⟨g - 257,by omega⟩;have hca:=@Fl.copied_adv far s q (257+i) most out;refine c_rcopied jm ho hm hf h15 hl hq8 hs hmo hol (by omega) (fun h8 h9 h10 ov4 W4 ho=>?_) (fun h8 W4 ho=>?_)
 rotate_left
 ·rw[if_pos h8] at hX;subst hX;simp only[outT0,outT1,outT2,n_err,decide_eq_true h8,i_t];exact retK (.inr ⟨h8,rfl,ho⟩)
 rw[if_neg (by rw[h8];decide)] at hX;have hca:=hca h8;generalize Fl.copied far s q (257+i) out most=C at hX ho hca h9 h10;simp only[outT0,outT1,outT2,n_err,show decide ((0:Int)≠0)=false from rfl,i_f];exact nextX ⟨C.2.1,ov4,C.1,rfl,h9,h10,⟨f,by omega,hX⟩,ho⟩ (by simp[n0,RowKit.intOf];omega)
end
end
section
open Eng Go.RowKit
section
variable {w:World}{PK:PKT}{K:VWP}{S:Nat→Prop}{w0:World}{L:List Ent}
theorem c_rblock {ov:Value}{s:List UInt8}{p most:Nat}{out:List UInt8}{M:Mem}{T:List Ent}(ho:OwnS S w0 w (outR ov out::.mem M::T))(hp:p+2≤8*s.length)(hs:s.length≤1000000000)(hmo:most≤1000000000)(hol:out.length≤most)
  (k1:(Fl.block s most p out).2.2=0→(Fl.block s most p out).2.1≤8*s.length→(Fl.block s most p out).1.length≤most→∀N ov' W,M.le N→OwnS S w0 W (outR ov' (Fl.block s most p out).1::.mem N::T)→K (r11T ov' (Fl.block s most p out).2.1 0) W)
  (k2:(Fl.block s most p out).2.2≠0→∀N W,M.le N→OwnS S w0 W (.mem N::T)→K (r11T nilS 0 (Fl.block s most p out).2.2) W) :
  CallX prog 195 #[.string ⟨s.toArray⟩,.int .i64 ((p+2:Nat):Int),.int .i64 (Fl.num s p 2:Int),ov,.int .i64 (most:Int)] w PK K:=by
 generalize hX:Fl.block s most p out=X at k1 k2;refine c_any (S_foliantref11_block_ok (K:=RetK fun v W=>(X.2.2=0∧X.2.1≤8*s.length∧X.1.length≤most∧∃N ov',M.le N∧v=r11T ov' X.2.1 0∧OwnS S w0 W (outR ov' X.1::.mem N::T))∨(X.2.2≠0∧∃N,M.le N∧v=r11T nilS 0 X.2.2∧OwnS S w0 W (.mem N::T))) ?_) (fun e W ⟨v,he,hv⟩=>by
  subst he;rcases hv with ⟨h1,h2,h3,N,ov',hle,rfl,ho⟩|⟨h1,N,hle,rfl,ho⟩
  ·exact k1 h1 h2 h3 N ov' W hle ho
  ·exact k2 h1 N W hle ho)
 clear k1 k2;unfold Fl.block at hX;rw[if_neg (by omega)] at hX;have hk4:=Fl.num_lt s p 2;have h24:(2:Nat) ^ 2=4:=by decide
 generalize Fl.num s p 2=k at hX hk4;unfold S_foliantref11_block iN dx cx
 try simp only[rs]
 by_cases h3:k=3
 ·rw[if_neg (by omega),if_neg (by omega),if_neg (by omega)] at hX;simp only[show decide ((k:Int)=3)=true from decide_eq_true (by omega),i_t];subst hX;exact retK (.inr ⟨by (first|decide|(dsimp only;decide)),M,M.le_refl,rfl,ho.tail⟩)
 simp only[show decide ((k:Int)=3)=false from decide_eq_false (by omega),i_f,rs];by_cases h0:k=0
 ·rw[if_pos h0] at hX;simp only[show decide ((k:Int)=0)=true from decide_eq_true (by omega),i_t];refine c_rstored ho hp hs hmo hol (fun e1 e2 e3 ov' W ho=>?_) (fun e1 W ho=>?_)
  ·rw[hX] at e1 e2 e3 ho ⊢;simp only[outT0,outT1,outT2];exact retK (.inl ⟨e1,e2,e3,M,ov',M.le_refl,rfl,ho⟩)
  ·rw[hX] at e1 ⊢;simp only[outT0,outT1,outT2];exact retK (.inr ⟨e1,M,M.le_refl,rfl,ho⟩)
 simp only[show decide ((k:Int)=0)=false from decide_eq_false (by omega),i_f];rw[if_neg h0] at hX;refine c_mem ho 1 rfl (rfixed_ret M w (ho.hasM 1 rfl)) ?_;rintro _ N1 w1 g1 ⟨a,b,rfl,ha,hb⟩ ho;have ho:OwnS S w0 w1 (outR ov out::.mem N1::T):=ho;simp only[ex];refine join fun J hJ=>?_
 try simp only[rs]
 by_cases h1:k=1
 ·rw[if_pos h1] at hX;simp only[show decide ((k:Int)=2)=false from decide_eq_false (by omega),i_f];refine hJ _ _ fun _=>?_;simp only[S_foliantref11_block_0,gd,dx,cx];refine c_rsigns 0 ho rfl ha hb Fl.fixS_15 Fl.fixF_15 (by rw[Fl.fixS_len];omega) (by rw[Fl.fixF_len];omega) hp hs hmo hol (fun e1 e2 e3 ov' W ho=>?_) (fun e1 W ho=>?_)
  ·rw[hX] at e1 e2 e3 ho ⊢;simp only[outT0,outT1,outT2];exact retK (.inl ⟨e1,e2,e3,N1,ov',g1,rfl,ho⟩)
  ·rw[hX] at e1 ⊢;simp only[outT0,outT1,outT2];exact retK (.inr ⟨e1,N1,g1,rfl,ho⟩)
 have h2:k=2:=by omega
 rw[if_neg h1,if_pos h2,Fl.dyn_dynL] at hX;simp only[show decide ((k:Int)=2)=true from decide_eq_true (by omega),i_t];refine c_mem ho 1 rfl (rlengths_ret s (p+2) N1 w1 hp hs (ho.hasM 1 rfl)) ?_;intro v N2 w2 g2 hv ho;have ho:OwnS S w0 w2 (outR ov out::.mem N2::T):=ho;have g12:=g1.trans g2;generalize Fl.dynL s (p+2)=D at hX hv;obtain⟨near,far,q,e⟩:=D;dsimp only at hX hv;rcases hv with ⟨e1,rfl⟩|⟨e1,e2,e3,e4,e5,n15,f15,va,vb,rfl,hna,hfb⟩
 ·rw[if_pos e1] at hX;subst hX;simp only[r11L0,r11L1,r11L2,r11L3,n_err,decide_eq_true e1,i_t];exact retK (.inr ⟨e1,N2,g12,rfl,ho.tail⟩)
 rw[if_neg (by rw[e1];decide)] at hX;simp only[r11L0,r11L1,r11L2,r11L3,n_err,show decide ((0:Int)≠0)=false from rfl,i_f];have h256:256 < near.length:=by omega
 obtain⟨b6,off,r1,r2⟩:=nats_at (hna.now (ho.hasM 1 rfl)) h256;refine do_eq (r1 w2) |>.mpr (do_eq (run_load_cell nInt5 r2) |>.mpr ?_);have hgd:near.getD 256 0=near[256]:=by rw[List.getD_eq_getElem?_getD,List.getElem?_eq_getElem h256];rfl
 rw[hgd] at hX
 try simp only[rs]
 by_cases hz:near[256]=0
 ·rw[if_pos hz] at hX;simp only[show decide (((near[256]:Nat):Int)=0)=true from decide_eq_true (by omega),i_t];subst hX;exact retK (.inr ⟨by (first|decide|(dsimp only;decide)),N2,g12,rfl,ho.tail⟩)
 rw[if_neg hz] at hX;simp only[show decide (((near[256]:Nat):Int)=0)=false from decide_eq_false (by omega),i_f];refine c_mem ho 1 rfl (rcheck10_ret near va N2 w2 n15 (by omega) (ho.hasM 1 rfl) hna) ?_;rintro _ N3 w3 g3 rfl ho;have ho:OwnS S w0 w3 (outR ov out::.mem N3::T):=ho;have g13:=g12.trans g3;simp only[n_err];by_cases hck:Fl.chk near=0
 case neg=>
  rw[if_pos hck] at hX;subst hX;simp only[decide_eq_true (show Fl.chk near≠0 from hck),i_t];exact retK (.inr ⟨hck,N3,g13,rfl,ho.tail⟩)
 rw[if_neg (by simp[hck])] at hX;simp only[decide_eq_false (show ¬Fl.chk near≠0 by simp[hck]),i_f];refine c_mem ho 1 rfl (rcheck10_ret far vb N3 w3 f15 (by omega) (ho.hasM 1 rfl) (hfb.le g3)) ?_;rintro _ N4 w4 g4 rfl ho;have ho:OwnS S w0 w4 (outR ov out::.mem N4::T):=ho;have g14:=g13.trans g4;simp only[n_err];by_cases hck2:Fl.chk far=0
 case neg=>
  rw[if_pos hck2] at hX;subst hX;simp only[decide_eq_true (show Fl.chk far≠0 from hck2),i_t];exact retK (.inr ⟨hck2,N4,g14,rfl,ho.tail⟩)
 rw[if_neg (by simp[hck2])] at hX;simp only[decide_eq_false (show ¬Fl.chk far≠0 by simp[hck2]),i_f];refine hJ _ _ fun _=>?_;simp only[S_foliantref11_block_0,gd,dx,cx];refine c_rsigns 0 ho rfl (hna.le (g3.trans g4)) (hfb.le (g3.trans g4)) n15 f15 e4 e5 e2 hs hmo hol (fun e1 e2 e3 ov' W ho=>?_) (fun e1 W ho=>?_)
 ·rw[hX] at e1 e2 e3 ho ⊢;simp only[outT0,outT1,outT2];exact retK (.inl ⟨e1,e2,e3,N4,ov',g14,rfl,ho⟩)
 ·rw[hX] at e1 ⊢;simp only[outT0,outT1,outT2];exact retK (.inr ⟨e1,N4,g14,rfl,ho⟩)
end
theorem rall_ret16 (s:List UInt8)(most:Int)(M:Mem)(w:World)(hs:s.length≤1000000000)(hM:M.has w) :
  RetM prog 128 #[.string ⟨s.toArray⟩,.int .i64 most] M w (fun v _=>v=flT (Fl.all s most)∧(Fl.all s most).2.1≤s.length∧(Fl.all s most).1.length≤1048576):=by
 refine retM_of hM fun K hK=>S_foliantref11_All_ok ?_;generalize hX:Fl.all s most=X at hK;unfold Fl.all at hX;unfold S_foliantref11_All iN dx;have ho:OwnS M.A w w [.mem M]:=OwnS.memS hM
 try simp only[rs]
 by_cases h1:most < 0
 ·rw[if_pos h1] at hX;simp only[h1,decide_true,i_t];exact hK _ _ M _ 0 ho rfl M.le_refl ⟨by rw[←hX];rfl,by rw[←hX];dsimp only;omega,by rw[←hX];dsimp only;simp<;>omega⟩
 rw[if_neg h1] at hX;simp only[h1,decide_false,i_f];rw[m_min,show min most 1048576=((min most.toNat 1048576:Nat):Int) by omega];have hm1:min most.toNat 1048576≤1048576:=Nat.min_le_right _ _;generalize min most.toNat 1048576=mo at hX hm1;have ho:=OwnS.nilU ho 5 1;have ho:OwnS M.A w w (outR nilS []::.mem M::[]):=ho;refine loop (fun vs W=>∃(p:Nat) (ov:Value) (out:List UInt8) (N:Mem),vs=[ov,.int .i64 (p:Int)]∧p≤8*s.length∧out.length≤mo∧M.le N∧(∃f,8*s.length+1 - p≤f∧Fl.allG s mo f p out=X)∧OwnS M.A w W (outR ov out::.mem N::[])) (fun vs _=>8*s.length+1 - n1 vs) ⟨0,nilS,[],M,rfl,by omega,by simp,M.le_refl,⟨_,by omega,hX⟩,ho⟩ ?_;clear ho hX;rintro vs w6 ⟨p,ov,out,N,rfl,hp,hol,hle,⟨f,hf,hX⟩,ho⟩ _;simp only[S_foliantref11_All_0,gd,iN,dx,cx];obtain⟨f,rfl⟩:∃f',f=f'+1:=⟨f - 1,by omega⟩;rw[Fl.allG] at hX;dsimp only at hX;refine c_rnum (n:=1) ho hp (by omega) hs (fun e1 W1 ho=>?_) (fun e1 W1 ho=>?_)
 rotate_left
 ·rw[if_pos e1] at hX;simp only[nmT0,nmT1,nmT2,n_err,show decide ((4:Int)≠0)=true from rfl,i_t];exact hK _ _ N _ 1 ho rfl hle ⟨by rw[←hX];rfl,by rw[←hX];dsimp only;omega,by rw[←hX];dsimp only;simp<;>omega⟩
 rw[if_neg (by omega)] at hX;simp only[nmT0,nmT1,nmT2,n_err,show decide ((0:Int)≠0)=false from rfl,i_f];have hadv:=@Fl.block_adv s mo (p+1) out;refine c_rnum (p:=p+1) (n:=2) ho e1 (by omega) hs (fun e2 W2 ho=>?_) (fun e2 W2 ho=>?_)
 rotate_left
 ·have hb:Fl.block s mo (p+1) out=(out,p+1,4):=by unfold Fl.block;rw[if_pos (by omega)]
  rw[hb,if_pos (by dsimp only;decide)] at hX;simp only[nmT0,nmT1,nmT2,n_err,show decide ((4:Int)≠0)=true from rfl,i_t];exact hK _ _ N _ 1 ho rfl hle ⟨by rw[←hX];rfl,by rw[←hX];dsimp only;omega,by rw[←hX];dsimp only;simp<;>omega⟩
 simp only[nmT0,nmT1,nmT2,n_err,show decide ((0:Int)≠0)=false from rfl,i_f];refine c_rblock ho e2 hs (by omega) hol (fun h1 h2 h3 N2 ov' W hle2 ho=>?_) (fun h1 N2 W hle2 ho=>?_)
 rotate_left
 ·rw[if_pos h1] at hX;simp only[outT0,outT1,outT2,n_err,decide_eq_true h1,i_t];exact hK _ _ N2 _ 0 ho rfl (hle.trans hle2) ⟨by rw[←hX];rfl,by rw[←hX];dsimp only;omega,by rw[←hX];dsimp only;simp<;>omega⟩
 rw[if_neg (by rw[h1];decide)] at hX;have hadv:=hadv h1;generalize Fl.block s mo (p+1) out=B at hX ho h1 h2 h3 hadv;simp only[outT0,outT1,outT2,n_err,show decide ((0:Int)≠0)=false from rfl,i_f,rs];by_cases hl:Fl.num s p 1=1
 case neg=>
  rw[if_neg hl] at hX;simp only[show decide ((Fl.num s p 1:Int)=1)=false from decide_eq_false (by omega),i_f];exact nextX ⟨B.2.1,ov',B.1,N2,rfl,h2,h3,hle.trans hle2,⟨f,by omega,hX⟩,ho⟩ (by simp[n1,RowKit.intOf];omega)
 rw[if_pos hl] at hX;simp only[show decide ((Fl.num s p 1:Int)=1)=true from decide_eq_true (by omega),i_t];rw[c_bytes Tryz.underlying53 Tryz.underlying5 Tryz.underlying9 (out_sl (ho.at_ 0 rfl))]
 try simp only[rs]
 rw[wrap64_id (by omega) (by omega),b_quo (by decide),show (B.2.1:Int)+7=((B.2.1+7:Nat):Int) by omega,show ((B.2.1+7:Nat):Int).tdiv 8=(((B.2.1+7) / 8:Nat):Int) from rfl,wrap64_id (by omega) (by omega)];exact hK _ _ N2 _ 1 ho rfl (hle.trans hle2) ⟨by rw[←hX];rfl,by rw[←hX];dsimp only;omega,by rw[←hX];dsimp only;omega⟩
end
section
open Eng
def S_zlib_More_0(t1 t5 t15 t16 w)(N1:JT)(K:KT):=
 dx (mBin .lss 3 t16 t15) w K fun t17 w=>IfX t17 (QuietX w (fun C2=>QDo prog C2 (mLoad 312 t5) fun t19=>QDo prog C2 (mIx 9 t1 t16) fun t22=>QCall prog C2 304 #[t19,t22] fun t23=>
 ∀w,C2 w →
 dx (mStore 312 t5 t23) w K fun _ w=>dx (mBin .add 3 t16 (iN 1)) w K fun t24 w=>N1 [t24] w)) (dx (mFA 312 t5 1) w K fun t25 w=>dx (mLoad 153 t25) w K fun t26 w=>dx (mBin .shl 153 t26 (.int .u64 16)) w K fun t27 w=>dx (mFA 312 t5 0) w K fun t28 w=>dx (mLoad 153 t28) w K fun t29 w=>dx (mBin .or 153 t27 t29) w K fun t30 w=>K (.returned t30) w)
def S_zlib_More(t0 t1 w)(K:KT):=
 dx (mBin .and 153 t0 (.int .u32 65535)) w K fun t8 w=>dx (mBin .rem 153 t8 (.int .u32 65521)) w K fun t9 w=>dx (mBin .shr 153 t0 (.int .u64 16)) w K fun t11 w=>dx (mBin .rem 153 t11 (.int .u32 65521)) w K fun t12 w=>dx (mBuild 312 #[(0,t9),(1,t12)]) w K fun t13 w=>dx (mAlloc 312) w K fun t5 w=>dx (mStore 312 t5 t13) w K fun _ w=>dx (mB .len #[9] 3 #[false] #[t1]) w K fun t15 w=>LoopX [(iN 0)] w (fun vs1 w N1=>∀_:Sg,S_zlib_More_0 t1 t5 t15 (vs1.getD 0 undef) w N1 K)
theorem S_zlib_More_eq (t0 t1:Value)(w:World)(K:Ending→World→Prop):wpX prog 31 [] [(3,[16])] none (bodyOf Tryz.f270) (topQ prog [.tmp 4] K) (startX [t0,t1]) [] w=S_zlib_More t0 t1 w K:=by kernel_rfl
theorem S_zlib_More_ok {t0 t1:Value}{w:World}{K:Ending→World→Prop}(h:S_zlib_More t0 t1 w K):Calls prog 270 #[t0,t1] w K:=
 calls_of_wpX Tryz.func270 rfl rfl rfl rfl (Eq.mpr (S_zlib_More_eq t0 t1 w K) h)
def S_zlib_Sum(t0 w)(K:KT):=
 cx 270 #[(.int .u32 1),t0] w K fun t4 w=>K (.returned t4) w
theorem S_zlib_Sum_ok{t0 w K}(h:S_zlib_Sum t0 w K):Calls prog 237 #[t0] w K:=cw Tryz.func237 rfl rfl (by kernel_rfl) h
def S_zlib_sum_by(t0 t1 w)(K:KT):=
 dx (mBox 312 t0) w K fun t2 w=>dx (mAlloc 312) w K fun t4 w=>dx (mFA 312 t2 0) w K fun t5 w=>dx (mLoad 153 t5) w K fun t6 w=>dx (mConv 5 153 t1) w K fun t8 w=>dx (mBin .add 153 t6 t8) w K fun t9 w=>dx (mBin .rem 153 t9 (.int .u32 65521)) w K fun t10 w=>dx (mFA 312 t2 0) w K fun t11 w=>dx (mStore 153 t11 t10) w K fun _ w=>dx (mFA 312 t2 1) w K fun t12 w=>dx (mLoad 153 t12) w K fun t13 w=>dx (mFA 312 t2 0) w K fun t14 w=>dx (mLoad 153 t14) w K fun t15 w=>dx (mBin .add 153 t13 t15) w K fun t16 w=>dx (mBin .rem 153 t16 (.int .u32 65521)) w K fun t17 w=>dx (mFA 312 t2 1) w K fun t18 w=>dx (mStore 153 t18 t17) w K fun _ w=>dx (mLoad 312 t2) w K fun t19 w=>dx (mStore 312 t4 t19) w K fun _ w=>RetX prog [.cell t4 312] w K
theorem S_zlib_sum_by_ok{t0 t1 w K}(h:S_zlib_sum_by t0 t1 w K):Calls prog 304 #[t0,t1] w K:=cw Tryz.func304 rfl rfl (by kernel_rfl) h
def S_zlib_four(t0 w)(K:KT):=
 dx (mBin .shr 153 t0 (.int .u64 24)) w K fun t4 w=>dx (mConv 153 5 t4) w K fun t5 w=>dx (mBin .shr 153 t0 (.int .u64 16)) w K fun t7 w=>dx (mConv 153 5 t7) w K fun t8 w=>dx (mBin .shr 153 t0 (.int .u64 8)) w K fun t10 w=>dx (mConv 153 5 t10) w K fun t11 w=>dx (mConv 153 5 t0) w K fun t13 w=>dx (mBuildS 53 4 #[(0,t5),(1,t8),(2,t11),(3,t13)]) w K fun t14 w=>dx (mConv 53 9 t14) w K fun t15 w=>K (.returned t15) w
theorem S_zlib_four_ok{t0 w K}(h:S_zlib_four t0 w K):Calls prog 236 #[t0] w K:=cw Tryz.func236 rfl rfl (by kernel_rfl) h
def S_zlib_begins(t0 w)(K:KT):=
 dx (mB .len #[9] 3 #[false] #[t0]) w K fun t6 w=>dx (mBin .lss 3 t6 (iN 2)) w K fun t7 w=>IfX t7 (K (.returned (iN 4)) w) (QuietX w (fun C1=>QDo prog C1 (mIx 9 t0 (iN 0)) fun t9=>QDo prog C1 (mConv 5 3 t9) fun t10=>QDo prog C1 (mIx 9 t0 (iN 1)) fun t12=>QDo prog C1 (mConv 5 3 t12) fun t13=>
 ∀w,C1 w →
 dx (mBin .and 3 t10 (iN 15)) w K fun t15 w=>dx (mEq .neq 3 (.tmp 15) (.const (iN 8)) t15 (iN 8)) w K fun t16 w=>efx t16 t10 w fun t18 w=>gfx t16 (mBin .shr 3 t18 (.int .u64 4)) w K fun t19 w=>gfx t16 (mBin .gtr 3 t19 (iN 7)) w K fun t20 w=>dx (mPick t16 (.bool true) t20) w K fun t21 w=>efx t21 t10 w fun t23 w=>gfx t21 (mBin .shl 3 t23 (.int .u64 8)) w K fun t24 w=>efx t21 t13 w fun t25 w=>gfx t21 (mBin .or 3 t24 t25) w K fun t26 w=>gfx t21 (mBin .rem 3 t26 (iN 31)) w K fun t27 w=>gfx t21 (mEq .neq 3 (.tmp 27) (.const (iN 0)) t27 (iN 0)) w K fun t28 w=>dx (mPick t21 (.bool true) t28) w K fun t29 w=>efx t29 t13 w fun t31 w=>gfx t29 (mBin .and 3 t31 (iN 32)) w K fun t32 w=>gfx t29 (mEq .neq 3 (.tmp 32) (.const (iN 0)) t32 (iN 0)) w K fun t33 w=>dx (mPick t29 (.bool true) t33) w K fun t34 w=>IfX t34 (K (.returned (iN 3)) w) (K (.returned (iN 0)) w)))
theorem S_zlib_begins_ok{t0 w K}(h:S_zlib_begins t0 w K):Calls prog 238 #[t0] w K:=cw Tryz.func238 rfl rfl (by kernel_rfl) h
def S_zlib_Unwrap(t0 t1 w)(K:KT):=
 cx 238 #[t0] w K fun t11 w=>dx (mEq .neq 30 (.tmp 12) (.const (iN 0)) t11 (iN 0)) w K fun t13 w=>IfX t13 (K (.returned (.tuple #[(.string ⟨#[]⟩),t11])) w) (dx (mSlice 9 t0 (some (iN 2)) none none) w K fun t16 w=>cx 239 #[t16,t1] w K fun t20 w=>dx (mExt t20 0) w K fun t21 w=>dx (mExt t20 1) w K fun t22 w=>dx (mExt t20 2) w K fun t23 w=>dx (mEq .neq 30 (.tmp 25) (.const (iN 0)) t23 (iN 0)) w K fun t26 w=>IfX t26 (K (.returned (.tuple #[(.string ⟨#[]⟩),t23])) w) (dx (mB .len #[9] 3 #[false] #[t16]) w K fun t30 w=>dx (mBin .sub 3 t30 t22) w K fun t32 w=>dx (mBin .lss 3 t32 (iN 4)) w K fun t33 w=>IfX t33 (K (.returned (.tuple #[(.string ⟨#[]⟩),(iN 4)])) w) (QuietX w (fun C1=>QDo prog C1 (mBin .add 3 t22 (iN 4)) fun t38=>QDo prog C1 (mSlice 9 t16 (some t22) (some t38) none) fun t39=>QCall prog C1 237 #[t21] fun t41=>QCall prog C1 236 #[t41] fun t42=>QDo prog C1 (mEq .neq 9 (.tmp 39) (.tmp 42) t39 t42) fun t43=>
 ∀w,C1 w →
 IfX t43 (K (.returned (.tuple #[(.string ⟨#[]⟩),(iN 12)])) w) (K (.returned (.tuple #[t21,(iN 0)])) w)))))
theorem S_zlib_Unwrap_ok{t0 t1 w K}(h:S_zlib_Unwrap t0 t1 w K):Calls prog 192 #[t0,t1] w K:=cw Tryz.func192 rfl rfl (by kernel_rfl) h
end
section
open Eng
def S_foliantref13_More_0(t1 t5 t6 t7 w)(N1:JT)(K:KT):=
 dx (mB .len #[9] 3 #[false] #[t1]) w K fun t16 w=>dx (mBin .lss 3 t7 t16) w K fun t17 w=>IfX t17 (dx (mIx 9 t1 t7) w K fun t23 w=>dx (mConv 5 153 t23) w K fun t24 w=>dx (mBin .add 153 t5 t24) w K fun t25 w=>dx (mBin .rem 153 t25 (.int .u32 65521)) w K fun t26 w=>dx (mBin .add 153 t6 t26) w K fun t29 w=>dx (mBin .rem 153 t29 (.int .u32 65521)) w K fun t30 w=>dx (mBin .add 3 t7 (iN 1)) w K fun t19 w=>N1 [t26,t30,t19] w) (dx (mBin .mul 153 (.int .u32 65536) t6) w K fun t32 w=>dx (mBin .add 153 t32 t5) w K fun t34 w=>K (.returned t34) w)
def S_foliantref13_More(t0 t1 w)(K:KT):=
 dx (mBin .rem 153 t0 (.int .u32 65536)) w K fun t9 w=>dx (mBin .rem 153 t9 (.int .u32 65521)) w K fun t10 w=>dx (mBin .quo 153 t0 (.int .u32 65536)) w K fun t12 w=>dx (mBin .rem 153 t12 (.int .u32 65521)) w K fun t13 w=>LoopX [t10,t13,(iN 0)] w (fun vs1 w N1=>∀_:Sg,S_foliantref13_More_0 t1 (vs1.getD 0 undef) (vs1.getD 1 undef) (vs1.getD 2 undef) w N1 K)
theorem S_foliantref13_More_eq (t0 t1:Value)(w:World)(K:Ending→World→Prop):wpX prog 35 [] [(3,[5,6,7])] none (bodyOf Tryz.f196) (topQ prog [.tmp 4] K) (startX [t0,t1]) [] w=S_foliantref13_More t0 t1 w K:=by kernel_rfl
theorem S_foliantref13_More_ok {t0 t1:Value}{w:World}{K:Ending→World→Prop}(h:S_foliantref13_More t0 t1 w K):Calls prog 196 #[t0,t1] w K:=
 calls_of_wpX Tryz.func196 rfl rfl rfl rfl (Eq.mpr (S_foliantref13_More_eq t0 t1 w K) h)
def S_foliantref13_Sum(t0 w)(K:KT):=
 cx 196 #[(.int .u32 1),t0] w K fun t4 w=>K (.returned t4) w
theorem S_foliantref13_Sum_ok{t0 w K}(h:S_foliantref13_Sum t0 w K):Calls prog 130 #[t0] w K:=cw Tryz.func130 rfl rfl (by kernel_rfl) h
def S_foliantref13_Tail(t0 w)(K:KT):=
 dx (mBin .shr 153 t0 (.int .u64 24)) w K fun t4 w=>dx (mConv 153 5 t4) w K fun t5 w=>dx (mBin .shr 153 t0 (.int .u64 16)) w K fun t7 w=>dx (mConv 153 5 t7) w K fun t8 w=>dx (mBin .shr 153 t0 (.int .u64 8)) w K fun t10 w=>dx (mConv 153 5 t10) w K fun t11 w=>dx (mConv 153 5 t0) w K fun t13 w=>dx (mBuildS 53 4 #[(0,t5),(1,t8),(2,t11),(3,t13)]) w K fun t14 w=>dx (mConv 53 9 t14) w K fun t15 w=>K (.returned t15) w
theorem S_foliantref13_Tail_ok{t0 w K}(h:S_foliantref13_Tail t0 w K):Calls prog 129 #[t0] w K:=cw Tryz.func129 rfl rfl (by kernel_rfl) h
def S_foliantref13_Unwrap(t0 t1 w)(K:KT):=
 dx (mB .len #[9] 3 #[false] #[t0]) w K fun t11 w=>dx (mBin .lss 3 t11 (iN 2)) w K fun t12 w=>IfX t12 (K (.returned (.tuple #[(.string ⟨#[]⟩),(iN 4)])) w) (QuietX w (fun C1=>QDo prog C1 (mIx 9 t0 (iN 0)) fun t14=>QDo prog C1 (mBin .rem 5 t14 (.int .u8 16)) fun t15=>QDo prog C1 (mEq .neq 5 (.tmp 15) (.const (.int .u8 8)) t15 (.int .u8 8)) fun t16=>GQ t16 false (fun E=>E t0) fun t18=>GQ t16 false (fun E=>QDo prog C1 (mIx 9 t18 (iN 0)) E) fun t19=>GQ t16 false (fun E=>QDo prog C1 (mBin .quo 5 t19 (.int .u8 16)) E) fun t20=>GQ t16 false (fun E=>QDo prog C1 (mBin .gtr 5 t20 (.int .u8 7)) E) fun t21=>QDo prog C1 (mPick t16 (.bool true) t21) fun t22=>GQ t22 false (fun E=>E t0) fun t24=>GQ t22 false (fun E=>QDo prog C1 (mIx 9 t24 (iN 0)) E) fun t25=>GQ t22 false (fun E=>QDo prog C1 (mConv 5 3 t25) E) fun t26=>GQ t22 false (fun E=>QDo prog C1 (mBin .mul 3 (iN 256) t26) E) fun t27=>GQ t22 false (fun E=>E t0) fun t28=>GQ t22 false (fun E=>QDo prog C1 (mIx 9 t28 (iN 1)) E) fun t29=>GQ t22 false (fun E=>QDo prog C1 (mConv 5 3 t29) E) fun t30=>GQ t22 false (fun E=>QDo prog C1 (mBin .add 3 t27 t30) E) fun t31=>GQ t22 false (fun E=>QDo prog C1 (mBin .rem 3 t31 (iN 31)) E) fun t32=>GQ t22 false (fun E=>QDo prog C1 (mEq .neq 3 (.tmp 32) (.const (iN 0)) t32 (iN 0)) E) fun t33=>QDo prog C1 (mPick t22 (.bool true) t33) fun t34=>GQ t34 false (fun E=>E t0) fun t36=>GQ t34 false (fun E=>QDo prog C1 (mIx 9 t36 (iN 1)) E) fun t37=>GQ t34 false (fun E=>QDo prog C1 (mBin .and 5 t37 (.int .u8 32)) E) fun t38=>GQ t34 false (fun E=>QDo prog C1 (mEq .neq 5 (.tmp 38) (.const (.int .u8 0)) t38 (.int .u8 0)) E) fun t39=>QDo prog C1 (mPick t34 (.bool true) t39) fun t40=>
 ∀w,C1 w →
 IfX t40 (K (.returned (.tuple #[(.string ⟨#[]⟩),(iN 3)])) w) (dx (mSlice 9 t0 (some (iN 2)) none none) w K fun t43 w=>cx 128 #[t43,t1] w K fun t45 w=>dx (mExt t45 0) w K fun t46 w=>dx (mExt t45 1) w K fun t47 w=>dx (mExt t45 2) w K fun t48 w=>dx (mEq .neq 30 (.tmp 49) (.const (iN 0)) t48 (iN 0)) w K fun t50 w=>IfX t50 (K (.returned (.tuple #[(.string ⟨#[]⟩),t48])) w) (dx (mBin .add 3 (iN 2) t47) w K fun t53 w=>dx (mB .len #[9] 3 #[false] #[t0]) w K fun t55 w=>dx (mBin .sub 3 t55 t53) w K fun t57 w=>dx (mBin .lss 3 t57 (iN 4)) w K fun t58 w=>IfX t58 (K (.returned (.tuple #[(.string ⟨#[]⟩),(iN 4)])) w) (QuietX w (fun C2=>QDo prog C2 (mBin .add 3 t53 (iN 4)) fun t62=>QDo prog C2 (mSlice 9 t0 (some t53) (some t62) none) fun t63=>QCall prog C2 130 #[t46] fun t65=>QCall prog C2 129 #[t65] fun t66=>QDo prog C2 (mEq .neq 9 (.tmp 63) (.tmp 66) t63 t66) fun t67=>
 ∀w,C2 w →
 IfX t67 (K (.returned (.tuple #[(.string ⟨#[]⟩),(iN 12)])) w) (K (.returned (.tuple #[t46,(iN 0)])) w)))))))
theorem S_foliantref13_Unwrap_ok{t0 t1 w K}(h:S_foliantref13_Unwrap t0 t1 w K):Calls prog 59 #[t0,t1] w K:=cw Tryz.func59 rfl rfl (by kernel_rfl) h
end
section
open Eng Go.RowKit
def Zl.step (x:Nat×Nat)(c:UInt8):Nat×Nat:=((x.1+c.toNat) % 65521,(x.2+(x.1+c.toNat) % 65521) % 65521)
def Zl.sum (s:List UInt8):Nat×Nat:=s.foldl Zl.step (1,0)
def Zl.adler (s:List UInt8):Nat:=65536*(Zl.sum s).2+(Zl.sum s).1
def Zl.four (n:Nat):List UInt8:=[UInt8.ofNat (n / 2 ^ 24),UInt8.ofNat (n / 2 ^ 16),UInt8.ofNat (n / 2 ^ 8),UInt8.ofNat n]
def Zl.bad (a b:Nat):Bool:=decide (a % 16≠8)||decide (7 < a / 16)||decide ((256*a+b) % 31≠0)||decide (b / 32 % 2≠0)
def Zl.unwrap (s:List UInt8)(most:Int):List UInt8×Int:=
 if s.length < 2 then ([],4)
 else if Zl.bad (s.getD 0 0).toNat (s.getD 1 0).toNat=true then ([],3)
 else
  let r:=Fl.all (s.drop 2) most
  if r.2.2≠0 then ([],r.2.2)
  else if s.length < 2+r.2.1+4 then ([],4)
  else if (s.drop (2+r.2.1)).take 4≠Zl.four (Zl.adler r.1) then ([],12)
  else (r.1,0)
theorem Zl.sum_lt (s:List UInt8):(Zl.sum s).1 < 65521∧(Zl.sum s).2 < 65521:=by
 unfold Zl.sum;have:∀(l:List UInt8) (x:Nat×Nat),x.1 < 65521∧x.2 < 65521→(l.foldl Zl.step x).1 < 65521∧(l.foldl Zl.step x).2 < 65521:=by
  intro l
  induction l with
 |nil=>exact fun x h=>h
 |cons c l ih=>exact fun x h=>ih _ ⟨Nat.mod_lt _ (by decide),Nat.mod_lt _ (by decide)⟩
 exact this s _ ⟨by decide,by decide⟩
theorem Zl.sum_take {s:List UInt8}{i:Nat}(h:i < s.length):Zl.sum (s.take (i+1))=Zl.step (Zl.sum (s.take i)) s[i]:=by
 unfold Zl.sum;rw[List.take_succ_eq_append_getElem h,List.foldl_append];rfl
def zlT (x:List UInt8×Int):Value:=.tuple #[.string ⟨x.1.toArray⟩,.int .i64 x.2]
theorem wrap32_id {n:Nat}(h:n < 4294967296):IntKind.u32.wrap (n:Int)=(n:Int):=by unfold IntKind.wrap;simp[IntKind.bits,IntKind.signed];omega
theorem wrap32_z {n:Int}(h0:0≤n)(h:n < 4294967296):IntKind.u32.wrap n=n:=by unfold IntKind.wrap;simp[IntKind.bits,IntKind.signed];omega
theorem wrap8 (n:Nat):IntKind.u8.wrap (n:Int)=((UInt8.ofNat n).toNat:Int):=by
 unfold IntKind.wrap;simp[IntKind.bits,IntKind.signed]
theorem orNat {a b i:Nat}(hb:b < 2 ^ i):a*2 ^ i ||| b=a*2 ^ i+b:=by
 have:=Nat.two_pow_add_eq_or_of_lt hb a;rw[Nat.mul_comm a,←this]
theorem or32 {a b:Nat}(ha:a < 65536)(hb:b < 65536):bOr .u32 ((b*65536:Nat):Int) (a:Int)=((65536*b+a:Nat):Int):=by
 have e:b*65536 ||| a=65536*b+a:=by
  have:b*65536 ||| a=b*65536+a:=orNat (i:=16) ha;omega
 unfold bOr;show IntKind.wrap .u32 (((BitVec.ofInt 32 ((b*65536:Nat):Int) ||| BitVec.ofInt 32 (a:Int)).toNat:Nat):Int)=_;rw[BitVec.ofInt_natCast,BitVec.ofInt_natCast,BitVec.toNat_or,BitVec.toNat_ofNat,BitVec.toNat_ofNat,Nat.mod_eq_of_lt (by omega),Nat.mod_eq_of_lt (by omega),e];exact wrap32_id (by omega)
theorem or64 {a b:Nat}(ha:a < 256)(hb:b < 256):bOr .i64 ((a*256:Nat):Int) (b:Int)=((256*a+b:Nat):Int):=by
 have e:a*256 ||| b=256*a+b:=by
  have:a*256 ||| b=a*256+b:=orNat (i:=8) hb;omega
 unfold bOr;show IntKind.wrap .i64 (((BitVec.ofInt 64 ((a*256:Nat):Int) ||| BitVec.ofInt 64 (b:Int)).toNat:Nat):Int)=_;rw[BitVec.ofInt_natCast,BitVec.ofInt_natCast,BitVec.toNat_or,BitVec.toNat_ofNat,BitVec.toNat_ofNat,Nat.mod_eq_of_lt (by omega),Nat.mod_eq_of_lt (by omega),e];exact wrap64_id (by omega) (by omega)
theorem and15z_fin:∀n:Fin 256,bAnd .i64 (n.val:Int) 15=((n.val % 16:Nat):Int):=by decide +kernel
theorem and32_fin:∀n:Fin 256,bAnd .i64 (n.val:Int) 32=((n.val / 32 % 2*32:Nat):Int):=by decide +kernel
theorem and32u_fin:∀n:Fin 256,bAnd .u8 (n.val:Int) 32=((n.val / 32 % 2*32:Nat):Int):=by decide +kernel
theorem and15z {n:Nat}(h:n < 256):bAnd .i64 (n:Int) 15=((n % 16:Nat):Int):=and15z_fin ⟨n,h⟩
theorem and32 {n:Nat}(h:n < 256):bAnd .i64 (n:Int) 32=((n / 32 % 2*32:Nat):Int):=and32_fin ⟨n,h⟩
theorem and32u {n:Nat}(h:n < 256):bAnd .u8 (n:Int) 32=((n / 32 % 2*32:Nat):Int):=and32u_fin ⟨n,h⟩
def suC (a b:Nat):List Value:=[.int .u32 (a:Int),.int .u32 (b:Int)]
def suV (a b:Nat):Value:=.agg (suC a b).toArray
abbrev suE (bl a b:Nat):Ent:=.cells bl (suC a b) 312
theorem suC_one {a b:Nat}:∀u∈suC a b,u.oneCell'=true:=by
 intro u hu;simp only[suC,List.mem_cons,List.not_mem_nil,or_false] at hu;rcases hu with rfl|rfl<;>rfl
theorem aggSu:aggN prog 312=some 2:=by kernel_rfl
theorem szSu:(Tryz.prog.info? 312).map (·.size)=some 2:=by kernel_rfl
theorem fo_su0:fOff prog 312 0=some 0:=by kernel_rfl
theorem fo_su1:fOff prog 312 1=some 1:=by kernel_rfl
theorem nU32:notAgg prog 153=true:=by kernel_rfl
theorem zby_ret (a b:Nat)(c:UInt8)(w:World)(ha:a < 65521)(hb:b < 65521):Ret prog 304 #[suV a b,.int .u8 (c.toNat:Int)] w (fun v w'=>v=suV (Zl.step (a,b) c).1 (Zl.step (a,b) c).2∧Below w.heap.size w w'):=by
 refine ret_of fun K hK=>S_zlib_sum_by_ok ?_;unfold S_zlib_sum_by dx;have hc:=UInt8.toNat_lt c;refine o_new (fun b=>.pointer (some ⟨b,0,none⟩)) (suC a b) 312 (fun _=>by kernel_rfl) (Own.start w) fun b2 w1 ho=>?_;refine o_new (fun b=>.pointer (some ⟨b,0,none⟩)) (suC 0 0) 312 (fun _=>by kernel_rfl) ho fun b4 w2 ho=>?_;rw[f_addr fo_su0,l_cell nU32 (ho.cell 1 rfl 0 rfl)];refine do_eq (run_c_int (by kernel_rfl) Tryz.underlying153) |>.mpr ?_;rw[wrap32_id (by omega),b_add,wrap32_z (by omega) (by omega),show (a:Int)+(c.toNat:Int)=((a+c.toNat:Nat):Int) by push_cast;rfl,b_rem (by decide),show (((a+c.toNat:Nat):Int)).tmod 65521=(((a+c.toNat) % 65521:Nat):Int) from rfl,f_addr fo_su0];refine o_store 1 ho rfl (by kernel_rfl) rfl (by show 0+0 < 2;omega) fun w3 ho=>?_;have hm:=Nat.mod_lt (a+c.toNat) (show 65521>0 by decide);have ho:OwnS NoB w w3 [suE b4 0 0,suE b2 ((a+c.toNat) % 65521) b]:=ho;generalize hd:(a+c.toNat) % 65521=d at ho hm;rw[f_addr fo_su1,l_cell nU32 (ho.cell 1 rfl 1 rfl),f_addr fo_su0,l_cell nU32 (ho.cell 1 rfl 0 rfl),b_add,wrap32_z (by omega) (by omega),show (b:Int)+(d:Int)=((b+d:Nat):Int) by push_cast;rfl,b_rem (by decide),show (((b+d:Nat):Int)).tmod 65521=(((b+d) % 65521:Nat):Int) from rfl,f_addr fo_su1];refine o_store 1 ho rfl (by kernel_rfl) rfl (by show 0+1 < 2;omega) fun w4 ho=>?_;have ho:OwnS NoB w w4 [suE b4 0 0,suE b2 d ((b+d) % 65521)]:=ho;rw[l_at (ho.agg 1 rfl aggSu)];refine o_put 0 ho rfl (new:=suC d ((b+d) % 65521)) szSu suC_one rfl fun w5 ho=>?_;refine ret_v1 (rv_cell (ho.agg 0 rfl aggSu)) (hK _ _ ⟨?_,ho.done⟩);unfold Zl.step suV;dsimp only;rw[hd]
theorem zsum_ret (s:List UInt8)(w:World)(hs:s.length≤1000000000):Ret prog 237 #[.string ⟨s.toArray⟩] w (fun v w'=>v=.int .u32 (Zl.adler s:Int)∧Below w.heap.size w w'):=by
 refine ret_of fun K hK=>S_zlib_Sum_ok ?_;unfold S_zlib_Sum cx;have more:Ret prog 270 #[.int .u32 1,.string ⟨s.toArray⟩] w (fun v w'=>v=.int .u32 (Zl.adler s:Int)∧Below w.heap.size w w'):=by
  refine ret_of fun K hK=>S_zlib_More_ok ?_;unfold S_zlib_More iN dx;rw[b_and,show bAnd .u32 1 65535=1 by decide +kernel,b_rem (by decide),show (1:Int).tmod 65521=((1:Nat):Int) from rfl,b_shr (by decide),show (1:Int).fdiv (2 ^ (min (16:Int).toNat IntKind.u32.bits))=0 by decide +kernel,b_rem (by decide),show (0:Int).tmod 65521=((0:Nat):Int) from rfl];refine do_eq (show (mBuild 312 #[(0,.int .u32 ((1:Nat):Int)),(1,.int .u32 ((0:Nat):Int))]).run prog w=.ok (.value (suV 1 0)) w by kernel_rfl) |>.mpr ?_;refine o_new (fun b=>.pointer (some ⟨b,0,none⟩)) (suC 0 0) 312 (fun _=>by kernel_rfl) (Own.start w) fun b5 w1 ho=>?_;refine o_put 0 ho rfl (new:=suC 1 0) szSu suC_one rfl fun w2 ho=>?_;rw[s_len Tryz.underlying9];refine loop (fun vs W=>∃i:Nat,vs=[.int .i64 (i:Int)]∧i≤s.length∧OwnS NoB w W [suE b5 (Zl.sum (s.take i)).1 (Zl.sum (s.take i)).2]) (fun vs _=>s.length - n0 vs) ⟨0,rfl,by omega,ho⟩ ?_;clear ho;rintro vs w3 ⟨i,rfl,hi,ho⟩ _;simp only[S_zlib_More_0,gd,rs,iN,dx];by_cases hlt:(i:Int) < (s.length:Int)
  ·simp only[hlt,decide_true,i_t];have hi':i < s.length:=by omega
   obtain⟨h1,h2⟩:=Zl.sum_lt (s.take i);have hst:=Zl.sum_take hi';generalize Zl.sum (s.take i)=x at ho h1 h2 hst;obtain⟨a,b⟩:=x;refine quietC (fun W=>OwnS NoB w W [suE b5 a b]) ho.drew ?_;refine q_at (suV a b) (fun W h=>run_load_at (h.agg 0 rfl aggSu)) (q_ix (c:=s[i]) Tryz.underlying9 (by omega) (by rw[Int.toNat_natCast];exact List.getElem?_eq_getElem hi') ?_);refine q_call (suV (Zl.step (a,b) s[i]).1 (Zl.step (a,b) s[i]).2) (fun W h=>(zby_ret a b s[i] W h1 h2).mono fun v w' ⟨k1,k2⟩=>⟨k1,h.grow k2⟩) ?_;intro w4 ho;refine o_put 0 ho rfl (new:=suC (Zl.step (a,b) s[i]).1 (Zl.step (a,b) s[i]).2) szSu suC_one rfl fun w5 ho=>?_
   try simp only[rs]
   rw[wrap64_id (by omega) (by omega)];refine nextX ⟨i+1,rfl,by omega,?_⟩ (by simp[n0,RowKit.intOf];omega);rw[hst];exact ho
  ·simp only[hlt,decide_false,i_f];have:i=s.length:=by omega
   subst this;rw[List.take_length] at ho;obtain⟨h1,h2⟩:=Zl.sum_lt s;have ha:Zl.adler s=65536*(Zl.sum s).2+(Zl.sum s).1:=rfl;generalize Zl.sum s=x at ho h1 h2 ha;obtain⟨a,b⟩:=x;dsimp only at h1 h2 ha;rw[f_addr fo_su1,l_cell nU32 (ho.cell 0 rfl 1 rfl),b_shl (by decide),show min (16:Int).toNat IntKind.u32.bits=16 from rfl,show (b:Int)*2 ^ 16=((b*65536:Nat):Int) by omega,wrap32_id (by omega),f_addr fo_su0,l_cell nU32 (ho.cell 0 rfl 0 rfl),b_or,or32 (by omega) (by omega),←ha];exact hK _ _ ⟨rfl,ho.done⟩
 refine c_ret more fun v w' ⟨h1,h2⟩=>?_;exact hK _ _ ⟨h1,h2⟩
theorem rsum13_ret (s:List UInt8)(w:World)(hs:s.length≤1000000000):Ret prog 130 #[.string ⟨s.toArray⟩] w (fun v w'=>v=.int .u32 (Zl.adler s:Int)∧Below w.heap.size w w'):=by
 refine ret_of fun K hK=>S_foliantref13_Sum_ok ?_;unfold S_foliantref13_Sum cx;have more:Ret prog 196 #[.int .u32 1,.string ⟨s.toArray⟩] w (fun v w'=>v=.int .u32 (Zl.adler s:Int)∧Below w.heap.size w w'):=by
  refine ret_of fun K hK=>S_foliantref13_More_ok ?_;unfold S_foliantref13_More iN dx;rw[b_rem (by decide),show (1:Int).tmod 65536=1 from rfl,b_rem (by decide),show (1:Int).tmod 65521=((1:Nat):Int) from rfl,b_quo (by decide),show IntKind.u32.wrap ((1:Int).tdiv 65536)=0 by decide +kernel,b_rem (by decide),show (0:Int).tmod 65521=((0:Nat):Int) from rfl];refine loop (fun vs W=>∃i:Nat,vs=[.int .u32 ((Zl.sum (s.take i)).1:Int),.int .u32 ((Zl.sum (s.take i)).2:Int),.int .i64 (i:Int)]∧i≤s.length∧w=W) (fun vs _=>s.length - n2 vs) ⟨0,rfl,by omega,rfl⟩ ?_;rintro vs _ ⟨i,rfl,hi,rfl⟩ _;simp only[S_foliantref13_More_0,gd,iN,dx];rw[s_len Tryz.underlying9]
  try simp only[rs]
  by_cases hlt:(i:Int) < (s.length:Int)
  ·simp only[hlt,decide_true,i_t];have hi':i < s.length:=by omega
   obtain⟨h1,h2⟩:=Zl.sum_lt (s.take i);have hst:=Zl.sum_take hi';generalize Zl.sum (s.take i)=x at h1 h2 hst;obtain⟨a,b⟩:=x;dsimp only at h1 h2 ⊢;have hc:=UInt8.toNat_lt s[i];rw[s_ix (c:=s[i]) Tryz.underlying9 (by omega) (by rw[Int.toNat_natCast];exact List.getElem?_eq_getElem hi')];refine do_eq (run_c_int (by kernel_rfl) Tryz.underlying153) |>.mpr ?_;rw[wrap32_id (by omega),b_add,wrap32_z (by omega) (by omega),show (a:Int)+(s[i].toNat:Int)=((a+s[i].toNat:Nat):Int) by push_cast;rfl,b_rem (by decide),show (((a+s[i].toNat:Nat):Int)).tmod 65521=(((a+s[i].toNat) % 65521:Nat):Int) from rfl];have hm:=Nat.mod_lt (a+s[i].toNat) (show 65521>0 by decide);generalize hd:(a+s[i].toNat) % 65521=d at hm;rw[b_add,wrap32_z (by omega) (by omega),show (b:Int)+(d:Int)=((b+d:Nat):Int) by push_cast;rfl,b_rem (by decide),show (((b+d:Nat):Int)).tmod 65521=(((b+d) % 65521:Nat):Int) from rfl]
   try simp only[rs]
   rw[wrap64_id (by omega) (by omega)];refine nextX ⟨i+1,?_,by omega,rfl⟩ (by simp[n2,RowKit.intOf];omega);rw[hst];unfold Zl.step;dsimp only;rw[hd];rfl
  ·simp only[hlt,decide_false,i_f];have:i=s.length:=by omega
   subst this;rw[List.take_length];obtain⟨h1,h2⟩:=Zl.sum_lt s;have ha:Zl.adler s=65536*(Zl.sum s).2+(Zl.sum s).1:=rfl;generalize Zl.sum s=x at h1 h2 ha;obtain⟨a,b⟩:=x;dsimp only at h1 h2 ha ⊢
   try simp only[rs]
   rw[wrap32_z (n:=65536*(b:Int)) (by omega) (by omega),wrap32_z (by omega) (by omega),show 65536*(b:Int)+(a:Int)=((65536*b+a:Nat):Int) by omega,←ha];exact hK _ _ ⟨rfl,Below.refl _ _⟩
 refine c_ret more fun v w' ⟨h1,h2⟩=>?_;exact hK _ _ ⟨h1,h2⟩
theorem shrU {n k:Nat}(hk:k≤32):((n:Nat):Int).fdiv (2 ^ (min ((k:Nat):Int).toNat IntKind.u32.bits))=((n / 2 ^ k:Nat):Int):=by
 rw[show min ((k:Nat):Int).toNat IntKind.u32.bits=k by show min ((k:Nat):Int).toNat 32=k;omega,fdivN]
theorem zfour_ret (n:Nat)(w:World):Ret prog 236 #[.int .u32 (n:Int)] w (fun v w'=>v=.string ⟨(Zl.four n).toArray⟩∧Below w.heap.size w w'):=by
 refine ret_of fun K hK=>S_zlib_four_ok ?_;unfold S_zlib_four dx;rw[b_shr (by decide),show (24:Int)=((24:Nat):Int) from rfl,shrU (by decide)];refine do_eq (run_c_int (by kernel_rfl) Tryz.underlying5) |>.mpr ?_;rw[wrap8,b_shr (by decide),show (16:Int)=((16:Nat):Int) from rfl,shrU (by decide)];refine do_eq (run_c_int (by kernel_rfl) Tryz.underlying5) |>.mpr ?_;rw[wrap8,b_shr (by decide),show (8:Int)=((8:Nat):Int) from rfl,shrU (by decide)];refine do_eq (run_c_int (by kernel_rfl) Tryz.underlying5) |>.mpr ?_;rw[wrap8];refine do_eq (run_c_int (by kernel_rfl) Tryz.underlying5) |>.mpr ?_;rw[wrap8];refine o_new (fun b=>.slice (some ⟨b,0,none⟩) 4 4) (bytesV (Zl.four n)) 5 (fun _=>by kernel_rfl) (Own.start w) fun b2 w1 ho=>?_;rw[c_bytes (l:=Zl.four n) Tryz.underlying53 Tryz.underlying5 Tryz.underlying9 (ho.sl 0 rfl 1 4 4 rfl)];exact hK _ _ ⟨rfl,ho.done⟩
theorem rtail13_ret (n:Nat)(w:World):Ret prog 129 #[.int .u32 (n:Int)] w (fun v w'=>v=.string ⟨(Zl.four n).toArray⟩∧Below w.heap.size w w'):=by
 refine ret_of fun K hK=>S_foliantref13_Tail_ok ?_;unfold S_foliantref13_Tail dx;rw[b_shr (by decide),show (24:Int)=((24:Nat):Int) from rfl,shrU (by decide)];refine do_eq (run_c_int (by kernel_rfl) Tryz.underlying5) |>.mpr ?_;rw[wrap8,b_shr (by decide),show (16:Int)=((16:Nat):Int) from rfl,shrU (by decide)];refine do_eq (run_c_int (by kernel_rfl) Tryz.underlying5) |>.mpr ?_;rw[wrap8,b_shr (by decide),show (8:Int)=((8:Nat):Int) from rfl,shrU (by decide)];refine do_eq (run_c_int (by kernel_rfl) Tryz.underlying5) |>.mpr ?_;rw[wrap8];refine do_eq (run_c_int (by kernel_rfl) Tryz.underlying5) |>.mpr ?_;rw[wrap8];refine o_new (fun b=>.slice (some ⟨b,0,none⟩) 4 4) (bytesV (Zl.four n)) 5 (fun _=>by kernel_rfl) (Own.start w) fun b2 w1 ho=>?_;rw[c_bytes (l:=Zl.four n) Tryz.underlying53 Tryz.underlying5 Tryz.underlying9 (ho.sl 0 rfl 1 4 4 rfl)];exact hK _ _ ⟨rfl,ho.done⟩
theorem get0 {s:List UInt8}{i:Nat}(h:i < s.length):s[i]?=some (s.getD i 0):=by
 rw[List.getD_eq_getElem?_getD,List.getElem?_eq_getElem h];rfl
theorem zbegins_ret (s:List UInt8)(w:World)(hs:s.length≤1000000000):Ret prog 238 #[.string ⟨s.toArray⟩] w (fun v w'=>v=.int .i64 (if s.length < 2 then 4 else if Zl.bad (s.getD 0 0).toNat (s.getD 1 0).toNat=true then 3 else 0)∧Below w.heap.size w w'):=by
 refine ret_of fun K hK=>S_zlib_begins_ok ?_;unfold S_zlib_begins iN dx gfx efx;rw[s_len Tryz.underlying9]
 try simp only[rs]
 by_cases h2:s.length < 2
 ·rw[if_pos h2] at hK;simp only[show decide ((s.length:Int) < 2)=true from decide_eq_true (by omega),i_t];exact hK _ _ ⟨rfl,Below.refl _ _⟩
 rw[if_neg h2] at hK;simp only[show decide ((s.length:Int) < 2)=false from decide_eq_false (by omega),i_f];refine quiet (q_ix (c:=s.getD 0 0) Tryz.underlying9 (by decide) (get0 (by omega)) (q_do _ (fun _=>run_c_int (by kernel_rfl) Tryz.underlying3) (q_ix (c:=s.getD 1 0) Tryz.underlying9 (by decide) (get0 (by omega)) (q_do _ (fun _=>run_c_int (by kernel_rfl) Tryz.underlying3) ?_))));intro w1 hw;have ha:=UInt8.toNat_lt (s.getD 0 0);have hb:=UInt8.toNat_lt (s.getD 1 0);generalize (s.getD 0 0).toNat=a at ha hK;generalize (s.getD 1 0).toNat=b at hb hK;rw[show IntKind.i64.wrap (a:Int)=(a:Int) from wrap64_id (by omega) (by omega),show IntKind.i64.wrap (b:Int)=(b:Int) from wrap64_id (by omega) (by omega)];rw[b_and,and15z (by omega)];unfold Zl.bad at hK
 try simp only[rs]
 by_cases k1:a % 16=8
 case neg=>
  simp only[show decide (((a % 16:Nat):Int)≠8)=true from decide_eq_true (by omega),rs];rw[if_pos (by simp[k1])] at hK;exact hK _ _ ⟨rfl,hw⟩
 simp only[show decide (((a % 16:Nat):Int)≠8)=false from decide_eq_false (by omega),rs];rw[b_shr (by decide),show ((a:Nat):Int).fdiv (2 ^ (min (4:Int).toNat IntKind.i64.bits))=((a / 2 ^ 4:Nat):Int) from fdivN a 4]
 try simp only[rs]
 by_cases k2:7 < a / 16
 ·simp only[show decide ((7:Int) < ((a / 2 ^ 4:Nat):Int))=true from decide_eq_true (by omega),rs];rw[if_pos (by simp[k2])] at hK;exact hK _ _ ⟨rfl,hw⟩
 simp only[show decide ((7:Int) < ((a / 2 ^ 4:Nat):Int))=false from decide_eq_false (by omega),rs];rw[b_shl (by decide),show min (8:Int).toNat IntKind.i64.bits=8 from rfl,show (a:Int)*2 ^ 8=((a*256:Nat):Int) by push_cast;rfl,wrap64_id (by omega) (by omega)]
 try simp only[rs]
 rw[b_or,or64 ha hb,b_rem (by decide),show ((256*a+b:Nat):Int).tmod 31=(((256*a+b) % 31:Nat):Int) from rfl]
 try simp only[rs]
 by_cases k3:(256*a+b) % 31=0
 case neg=>
  simp only[show decide ((((256*a+b) % 31:Nat):Int)≠0)=true from decide_eq_true (by omega),rs];rw[if_pos (by simp[k3])] at hK;exact hK _ _ ⟨rfl,hw⟩
 simp only[show decide ((((256*a+b) % 31:Nat):Int)≠0)=false from decide_eq_false (by omega),rs];rw[b_and,and32 (by omega)]
 try simp only[rs]
 by_cases k4:b / 32 % 2=0
 case neg=>
  simp only[show decide (((b / 32 % 2*32:Nat):Int)≠0)=true from decide_eq_true (by omega),rs];rw[if_pos (by simp[k4])] at hK;exact hK _ _ ⟨rfl,hw⟩
 simp only[show decide (((b / 32 % 2*32:Nat):Int)≠0)=false from decide_eq_false (by omega),rs];rw[if_neg (by simp[k1,k2,k3,k4])] at hK;exact hK _ _ ⟨rfl,hw⟩
theorem zunwrap_ret (s:List UInt8)(most:Int)(M:Mem)(w:World)(hrp:Rp M)(hod:Od M)(hs:s.length≤1000000000)(hM:M.has w) :
  RetM prog 192 #[.string ⟨s.toArray⟩,.int .i64 most] M w (fun v _=>v=zlT (Zl.unwrap s most)∧(Zl.unwrap s most).1.length≤1048576):=by
 refine retM_of hM fun K hK=>S_zlib_Unwrap_ok ?_;generalize hX:Zl.unwrap s most=X at hK;unfold Zl.unwrap at hX;unfold S_zlib_Unwrap iN dx cx;have ho:OwnS M.A w w [.mem M]:=OwnS.memS hM;refine c_below ho (zbegins_ret s w hs) ?_;rintro _ w1 rfl ho;simp only[n_err];by_cases h2:s.length < 2
 ·rw[if_pos h2] at hX ⊢;simp only[show decide ((4:Int)≠0)=true from rfl,i_t];exact hK _ _ M _ 0 ho rfl M.le_refl ⟨by rw[←hX];rfl,by rw[←hX];exact Nat.zero_le _⟩
 rw[if_neg h2] at hX ⊢;by_cases hb:Zl.bad (s.getD 0 0).toNat (s.getD 1 0).toNat=true
 ·rw[if_pos hb] at hX ⊢;simp only[show decide ((3:Int)≠0)=true from rfl,i_t];exact hK _ _ M _ 0 ho rfl M.le_refl ⟨by rw[←hX];rfl,by rw[←hX];exact Nat.zero_le _⟩
 rw[if_neg hb] at hX ⊢;simp only[show decide ((0:Int)≠0)=false from rfl,i_f];dsimp only at hX;rw[s_from Tryz.underlying9 (by decide) (by omega),show (2:Int).toNat=2 from rfl];refine c_mem ho 0 rfl (iall_ret (s.drop 2) most M w1 hrp hod (by rw[List.length_drop];omega) (ho.hasM 0 rfl)) ?_;rintro _ N w2 g1 ⟨rfl,hu,hl⟩ ho;generalize Fl.all (s.drop 2) most=r at hX hu hl;obtain⟨t,u,e⟩:=r;dsimp only at hX hu hl;rw[List.length_drop] at hu;simp only[flT,ex,n_err];by_cases he:e=0
 case neg=>
  rw[if_pos he] at hX;simp only[decide_eq_true (show e≠0 from he),i_t];exact hK _ _ N _ 0 ho rfl g1 ⟨by rw[←hX];rfl,by rw[←hX];exact Nat.zero_le _⟩
 rw[if_neg (by rw[he];decide)] at hX;simp only[decide_eq_false (show ¬e≠0 by rw[he];decide),i_f];rw[s_len Tryz.underlying9,List.length_drop]
 try simp only[rs]
 rw[wrap64_id (by omega) (by omega)];by_cases h4:s.length < 2+u+4
 ·rw[if_pos h4] at hX;simp only[show decide (((s.length - 2:Nat):Int) - (u:Int) < 4)=true from decide_eq_true (by omega),i_t];exact hK _ _ N _ 0 ho rfl g1 ⟨by rw[←hX];rfl,by rw[←hX];exact Nat.zero_le _⟩
 rw[if_neg h4] at hX;simp only[show decide (((s.length - 2:Nat):Int) - (u:Int) < 4)=false from decide_eq_false (by omega),i_f];refine quietC (fun W=>OwnS M.A w W [.mem N]) ho.drew ?_;refine q_add ?_;rw[wrap64_id (by omega) (by omega)];refine q_do _ (fun _=>run_s_slice Tryz.underlying9 (by omega) (by omega) (by rw[List.length_drop];omega)) ?_;refine q_call _ (fun W h=>(zsum_ret t W (by omega)).mono fun v w' ⟨k1,k2⟩=>⟨k1,h.grow k2⟩) ?_;refine q_call _ (fun W h=>(zfour_ret (Zl.adler t) W).mono fun v w' ⟨k1,k2⟩=>⟨k1,h.grow k2⟩) ?_;refine q_sne ?_;intro w3 ho;rw[show ((u:Int)+4).toNat - ((u:Nat):Int).toNat=4 by omega,Int.toNat_natCast,List.drop_drop];by_cases h5:(s.drop (2+u)).take 4=Zl.four (Zl.adler t)
 case neg=>
  rw[if_pos h5] at hX;simp only[decide_eq_true (show (s.drop (2+u)).take 4≠Zl.four (Zl.adler t) from h5),i_t];exact hK _ _ N _ 0 ho rfl g1 ⟨by rw[←hX];rfl,by rw[←hX];exact Nat.zero_le _⟩
 rw[if_neg (by rw[h5];simp)] at hX;simp only[decide_eq_false (show ¬(s.drop (2+u)).take 4≠Zl.four (Zl.adler t) by rw[h5];simp),i_f];exact hK _ _ N _ 0 ho rfl g1 ⟨by rw[←hX];rfl,by rw[←hX];exact hl⟩
theorem runwrap13_ret (s:List UInt8)(most:Int)(M:Mem)(w:World)(hs:s.length≤1000000000)(hM:M.has w) :
  RetM prog 59 #[.string ⟨s.toArray⟩,.int .i64 most] M w (fun v _=>v=zlT (Zl.unwrap s most)∧(Zl.unwrap s most).1.length≤1048576):=by
 refine retM_of hM fun K hK=>S_foliantref13_Unwrap_ok ?_;generalize hX:Zl.unwrap s most=X at hK;unfold Zl.unwrap at hX;unfold S_foliantref13_Unwrap iN dx cx;have ho:OwnS M.A w w [.mem M]:=OwnS.memS hM;rw[s_len Tryz.underlying9]
 try simp only[rs]
 by_cases h2:s.length < 2
 ·rw[if_pos h2] at hX;simp only[show decide ((s.length:Int) < 2)=true from decide_eq_true (by omega),i_t];exact hK _ _ M _ 0 ho rfl M.le_refl ⟨by rw[←hX];rfl,by rw[←hX];exact Nat.zero_le _⟩
 rw[if_neg h2] at hX;simp only[show decide ((s.length:Int) < 2)=false from decide_eq_false (by omega),i_f];dsimp only at hX;have ha:=UInt8.toNat_lt (s.getD 0 0);have hb:=UInt8.toNat_lt (s.getD 1 0);refine quietC (fun W=>OwnS M.A w W [.mem M]) ho.drew ?_;refine q_ix (c:=s.getD 0 0) Tryz.underlying9 (by decide) (get0 (by omega)) (q_rem (by decide) (q_ne ?_));have x0:∀{K:Value→Prop} {C:World→Prop},K (.int .u8 ((s.getD 0 0).toNat:Int))→QDo prog C (mIx 9 (.string ⟨s.toArray⟩) (.int .i64 0)) K:=fun h=>q_ix (c:=s.getD 0 0) Tryz.underlying9 (by decide) (get0 (by omega)) h;have x1:∀{K:Value→Prop} {C:World→Prop},K (.int .u8 ((s.getD 1 0).toNat:Int))→QDo prog C (mIx 9 (.string ⟨s.toArray⟩) (.int .i64 1)) K:=fun h=>q_ix (c:=s.getD 1 0) Tryz.underlying9 (by decide) (get0 (by omega)) h;generalize (s.getD 0 0).toNat=a at ha hX x0;generalize (s.getD 1 0).toNat=b at hb hX x1;rw[show ((a:Nat):Int).tmod 16=((a % 16:Nat):Int) from rfl];unfold Zl.bad at hX;have bad:∀W,OwnS M.A w W [.mem M]→X=([],3)→K (.returned (.tuple #[.string ⟨#[]⟩,.int .i64 3])) W:=fun W ho hx=>hK _ _ M _ 0 ho rfl M.le_refl ⟨by rw[hx];rfl,by rw[hx];exact Nat.zero_le _⟩;by_cases k1:a % 16=8
 case neg=>
  rw[decide_eq_true (show ((a % 16:Nat):Int)≠8 by omega)];simp only[gq];refine q_pt ?_;simp only[gq];refine q_pt ?_;simp only[gq];refine q_pt ?_;intro w1 ho;rw[i_t];rw[if_pos (by simp[k1])] at hX;exact bad w1 ho hX.symm
 rw[decide_eq_false (show ¬((a % 16:Nat):Int)≠8 by omega)];simp only[gq];refine x0 (q_quo (by decide) ?_);rw[show IntKind.u8.wrap (((a:Nat):Int).tdiv 16)=((a / 16:Nat):Int) by rw[show ((a:Nat):Int).tdiv 16=((a / 16:Nat):Int) from rfl,wrap8];simp;omega];refine q_gtr (q_pf ?_);by_cases k2:7 < a / 16
 ·rw[decide_eq_true (show (7:Int) < ((a / 16:Nat):Int) by omega)];simp only[gq];refine q_pt ?_;simp only[gq];refine q_pt ?_;intro w1 ho;rw[i_t];rw[if_pos (by simp[k2])] at hX;exact bad w1 ho hX.symm
 rw[decide_eq_false (show ¬(7:Int) < ((a / 16:Nat):Int) by omega)];simp only[gq];refine x0 (q_do _ (fun _=>run_c_int (by kernel_rfl) Tryz.underlying3) (q_do _ (fun _=>r_mul) (x1 (q_do _ (fun _=>run_c_int (by kernel_rfl) Tryz.underlying3) (q_add (q_rem (by decide) (q_ne (q_pf ?_))))))));rw[show IntKind.i64.wrap (a:Int)=(a:Int) from wrap64_id (by omega) (by omega),show IntKind.i64.wrap (b:Int)=(b:Int) from wrap64_id (by omega) (by omega),wrap64_id (n:=256*(a:Int)) (by omega) (by omega),wrap64_id (by omega) (by omega),
  show (256*(a:Int)+(b:Int))=((256*a+b:Nat):Int) by push_cast;rfl,show ((256*a+b:Nat):Int).tmod 31=(((256*a+b) % 31:Nat):Int) from rfl]
 by_cases k3:(256*a+b) % 31=0
 case neg=>
  rw[decide_eq_true (show (((256*a+b) % 31:Nat):Int)≠0 by omega)];simp only[gq];refine q_pt ?_;intro w1 ho;rw[i_t];rw[if_pos (by simp[k3])] at hX;exact bad w1 ho hX.symm
 rw[decide_eq_false (show ¬(((256*a+b) % 31:Nat):Int)≠0 by omega)];simp only[gq];refine x1 (q_do _ (fun _=>r_and) (q_ne (q_pf ?_)));rw[and32u (by omega)];intro w1 ho;by_cases k4:b / 32 % 2=0
 case neg=>
  rw[decide_eq_true (show ((b / 32 % 2*32:Nat):Int)≠0 by omega),i_t];rw[if_pos (by simp[k4])] at hX;exact bad w1 ho hX.symm
 rw[decide_eq_false (show ¬((b / 32 % 2*32:Nat):Int)≠0 by omega),i_f];rw[if_neg (by simp[k1,k2,k3,k4])] at hX;rw[s_from Tryz.underlying9 (by decide) (by omega),show (2:Int).toNat=2 from rfl];refine c_mem ho 0 rfl (rall_ret16 (s.drop 2) most M w1 (by rw[List.length_drop];omega) (ho.hasM 0 rfl)) ?_;rintro _ N w2 g1 ⟨rfl,hu,hl⟩ ho;generalize Fl.all (s.drop 2) most=r at hX hu hl;obtain⟨t,u,e⟩:=r;dsimp only at hX hu hl;rw[List.length_drop] at hu;simp only[flT,ex,n_err];by_cases he:e=0
 case neg=>
  rw[if_pos he] at hX;simp only[decide_eq_true (show e≠0 from he),i_t];exact hK _ _ N _ 0 ho rfl g1 ⟨by rw[←hX];rfl,by rw[←hX];exact Nat.zero_le _⟩
 rw[if_neg (by rw[he];decide)] at hX;simp only[decide_eq_false (show ¬e≠0 by rw[he];decide),i_f,rs];rw[wrap64_id (by omega) (by omega),s_len Tryz.underlying9]
 try simp only[rs]
 rw[wrap64_id (by omega) (by omega)];by_cases h4:s.length < 2+u+4
 ·rw[if_pos h4] at hX;simp only[show decide ((s.length:Int) - (2+(u:Int)) < 4)=true from decide_eq_true (by omega),i_t];exact hK _ _ N _ 0 ho rfl g1 ⟨by rw[←hX];rfl,by rw[←hX];exact Nat.zero_le _⟩
 rw[if_neg h4] at hX;simp only[show decide ((s.length:Int) - (2+(u:Int)) < 4)=false from decide_eq_false (by omega),i_f];refine quietC (fun W=>OwnS M.A w W [.mem N]) ho.drew ?_;refine q_add ?_;rw[wrap64_id (by omega) (by omega)];refine q_do _ (fun _=>run_s_slice Tryz.underlying9 (by omega) (by omega) (by omega)) ?_;refine q_call _ (fun W h=>(rsum13_ret t W (by omega)).mono fun v w' ⟨k1,k2⟩=>⟨k1,h.grow k2⟩) ?_;refine q_call _ (fun W h=>(rtail13_ret (Zl.adler t) W).mono fun v w' ⟨k1,k2⟩=>⟨k1,h.grow k2⟩) ?_;refine q_sne ?_;intro w3 ho;rw[show (2+(u:Int)+4).toNat - (2+(u:Int)).toNat=4 by omega,show (2+(u:Int)).toNat=2+u by omega];by_cases h5:(s.drop (2+u)).take 4=Zl.four (Zl.adler t)
 case neg=>
  rw[if_pos h5] at hX;simp only[decide_eq_true (show (s.drop (2+u)).take 4≠Zl.four (Zl.adler t) from h5),i_t];exact hK _ _ N _ 0 ho rfl g1 ⟨by rw[←hX];rfl,by rw[←hX];exact Nat.zero_le _⟩
 rw[if_neg (by rw[h5];simp)] at hX;simp only[decide_eq_false (show ¬(s.drop (2+u)).take 4≠Zl.four (Zl.adler t) by rw[h5];simp),i_f];exact hK _ _ N _ 0 ho rfl g1 ⟨by rw[←hX];rfl,by rw[←hX];exact hl⟩
end
section
namespace Eng
open Go.RowKit
def MkIs (w:World)(E:TypeId)(b:Nat)(l:List UInt8):Prop:=∃rest:List Value,w.heap[b]?=some (.cells (bytesV l++rest).toArray E (l.length+rest.length,l.length+rest.length+1))
def Ent.mkr (E:TypeId)(b:Nat)(l:List UInt8):Ent:=
 ⟨fun k=>k=b,fun w=>MkIs w E b l,fun {w w'} h k=>by obtain⟨rest,h⟩:=h;exact⟨rest,(k b rfl).trans h⟩,fun {w} h k hk=>by obtain⟨rest,h⟩:=h;cases hk;exact lt_of_get h⟩
theorem bytesV_len (l:List UInt8):(bytesV l).length=l.length:=by simp[bytesV]
theorem mk_cell {w:World}{E:TypeId}{b i:Nat}{l:List UInt8}{v:Value}(h:(Ent.mkr E b l).is w)(hv:(bytesV l)[i]?=some v):w.cell? ⟨b,i,none⟩=some v:=by
 obtain⟨rest,h⟩:=h;have:(bytesV l++rest)[i]?=some v:=by rw[List.getElem?_append_left (List.getElem?_eq_some_iff.1 hv).1];exact hv
 simp[World.cell?,h,this]
theorem mk_sl {w:World}{E:TypeId}{b cap:Nat}{l:List UInt8}(h:(Ent.mkr E b l).is w):Sl w (.slice (some ⟨b,0,none⟩) l.length cap) 1 l.length (bytesV l):=
 ⟨by rw[bytesV_len,Nat.mul_one],some ⟨b,0,none⟩,cap,rfl,(fun h=>by cases h),fun p hp=>by cases hp;exact⟨fun _=>rfl,fun j u hj=>by rw[Nat.zero_add];exact mk_cell h hj⟩⟩
section
variable {S:Nat→Prop}{P:Program}{w w0:World}{L:List Ent}{PK:PKT}{K:VWP}
theorem o_bconv {T D E:TypeId}{l:List UInt8}(hs:P.underlying T=some .string)(hd:P.underlying D=some (.slice E))(he:P.underlying E=some (.int .u8))(ho:OwnS S w0 w L)
  (k:∀b cap w',OwnS S w0 w' (.mkr E b l::L)→K (.slice (some ⟨b,0,none⟩) l.length cap) w'):DoX P (mConv T D (.string ⟨l.toArray⟩)) w PK K:=by
 have hr:=Go.Lib.run_convert_string_bytes (P:=P) w T D E ⟨l.toArray⟩ hs hd he;rw[str_size] at hr;refine do_ok (mv_run hr) (k _ _ _ ?_);refine ho.add ⟨?_,?_,?_,?_,?_⟩ (.mkr E w.heap.size l) ?_ (fun k hk=>by cases hk;exact Nat.le_refl _)
 ·unfold Go.Lib.bytesWorld World.freeze;split<;>rfl
 ·unfold Go.Lib.bytesWorld World.freeze;split<;>rfl
 ·unfold Go.Lib.bytesWorld World.freeze;split<;>rfl
 ·rw[Go.Lib.bytesWorld_size];omega
 ·intro j hj _;exact Go.Lib.bytesWorld_at_old w E _ j hj
 ·refine⟨(Array.replicate (grownCap w l.length 0 E - l.length) (Value.int .u8 0)).toList,?_⟩;have:=Go.Lib.bytesWorld_at_new w E ⟨l.toArray⟩;rw[this];have e:Go.Lib.bytesCells w E ⟨l.toArray⟩=(bytesV l++(Array.replicate (grownCap w l.length 0 E - l.length) (Value.int .u8 0)).toList).toArray:=by
   unfold Go.Lib.bytesCells;rw[str_size];apply Array.ext';simp[bytesV]
  rw[e];simp[bytesV]
theorem o_storeMk (i:Nat){T E:TypeId}{b off:Nat}{l:List UInt8}{c:UInt8}(ho:OwnS S w0 w L)(hi:L[i]?=some (.mkr E b l))(hs:(P.info? T).map (·.size)=some 1)(hoff:off < l.length)
  (k:∀w',OwnS S w0 w' (L.set i (.mkr E b (l.set off c)))→K undef w'):DoX P (mStore T (.pointer (some ⟨b,off,none⟩)) (.int .u8 (c.toNat:Int))) w PK K:=by
 obtain⟨rest,hb⟩:=(show MkIs w E b l from ho.at_ i hi);have hcell:=mk_cell (ho.at_ i hi) (i:=off) (v:=.int .u8 (l[off].toNat:Int)) (by simp[bytesV,hoff]);have hfz:w.frozen? ⟨b,off,none⟩=false:=by
  unfold World.frozen?;rw[hb];simp;omega
 have hst:=run_storeCells_cells (P:=P) b off [.int .u8 (c.toNat:Int)] 0 w (fun j hj=>by
  have:j=0:=by simpa using hj
  subst this;exact (congrArg Option.isSome hcell)) (fun j hj=>by
  have:j=0:=by simpa using hj
  subst this;exact hfz) (fun v hv=>by rw[List.mem_singleton.1 hv];rfl)
 obtain⟨ii,hii,h1⟩:=Option.map_eq_some_iff.1 hs;have hrun:(Instr.storeAt T (.pointer (some ⟨b,off,none⟩)) (.int .u8 (c.toNat:Int))).run P w=.ok () (w.setCells b (off+0) [.int .u8 (c.toNat:Int)]):=by
  have hc:(Value.int .u8 (c.toNat:Int)).cells=#[Value.int .u8 (c.toNat:Int)]:=rfl;simp[Instr.storeAt,Instr.sureAddr,storeVar,hc,sizeOf,typeInfo,hii,h1,hst]
 refine do_skip (mu_run hrun) (k _ ?_);have hblt:b < w.heap.size:=lt_of_get hb;have e1:w.setCells b (off+0) [.int .u8 (c.toNat:Int)]=w.setCell ⟨b,off,none⟩ (.int .u8 (c.toNat:Int)):=rfl;rw[e1];refine ho.put i hi (w':=w.setCell ⟨b,off,none⟩ (.int .u8 (c.toNat:Int))) ⟨rfl,rfl,rfl,by simp[World.setCell],fun k _ hk=>?_⟩ (.mkr E b (l.set off c)) ⟨rest,?_⟩ (fun k hk=>.inl hk)
 ·have hkb:k≠b:=fun e=>hk e;simp[World.setCell,Array.getElem?_modify,Ne.symm hkb]
 ·have hbg:w.heap[b]=.cells (bytesV l++rest).toArray E (l.length+rest.length,l.length+rest.length+1):=(Array.getElem?_eq_some_iff.1 hb).2;simp only[World.setCell,Array.getElem?_modify,if_pos,hb,Option.map_some,Option.isSome_none,Bool.false_eq_true,if_false,List.length_set]
  congr 2
  apply Array.ext';simp only[Array.toList_setIfInBounds];rw[List.set_append_left _ _ (by rw[bytesV_len];exact hoff)];simp[bytesV,List.map_set]
end
end Eng
end
section
open Eng
def S_predict_may(t0 w)(K:KT):=
 dx (mBox 27 t0) w K fun t1 w=>dx (mFA 27 t1 0) w K fun t4 w=>dx (mLoad 3 t4) w K fun t5 w=>dx (mEq .eql 3 (.tmp 5) (.const (iN 1)) t5 (iN 1)) w K fun t6 w=>gfx t6 (mFA 27 t1 0) w K fun t8 w=>gfx t6 (mLoad 3 t8) w K fun t9 w=>gfx t6 (mEq .eql 3 (.tmp 9) (.const (iN 2)) t9 (iN 2)) w K fun t10 w=>dx (mPick t6 (.bool true) t10) w K fun t11 w=>gfx t11 (mFA 27 t1 0) w K fun t13 w=>gfx t11 (mLoad 3 t13) w K fun t14 w=>gfx t11 (mBin .geq 3 t14 (iN 10)) w K fun t15 w=>efx t11 t15 w fun t16 w=>gtx t16 (mFA 27 t1 0) w K fun t17 w=>gtx t16 (mLoad 3 t17) w K fun t18 w=>gtx t16 (mBin .leq 3 t18 (iN 15)) w K fun t19 w=>gfx t11 (mPick t16 t19 (.bool false)) w K fun t20 w=>dx (mPick t11 (.bool true) t20) w K fun t21 w=>QuietX w (fun C1=>GQ t21 true (fun E=>QDo prog C1 (mFA 27 t1 1) E) fun t24=>GQ t21 true (fun E=>QDo prog C1 (mLoad 3 t24) E) fun t25=>GQ t21 true (fun E=>QDo prog C1 (mBin .geq 3 t25 (iN 1)) E) fun t26=>QDo prog C1 (mPick t21 t26 (.bool false)) fun t27=>GQ t27 true (fun E=>QDo prog C1 (mFA 27 t1 2) E) fun t29=>GQ t27 true (fun E=>QDo prog C1 (mLoad 3 t29) E) fun t30=>GQ t27 true (fun E=>QDo prog C1 (mBin .geq 3 t30 (iN 1)) E) fun t31=>QDo prog C1 (mPick t27 t31 (.bool false)) fun t32=>GQ t32 true (fun E=>QDo prog C1 (mFA 27 t1 1) E) fun t34=>GQ t32 true (fun E=>QDo prog C1 (mLoad 3 t34) E) fun t35=>GQ t32 true (fun E=>QDo prog C1 (mBin .leq 3 t35 (iN 8192)) E) fun t36=>QDo prog C1 (mPick t32 t36 (.bool false)) fun t37=>GQ t37 true (fun E=>QDo prog C1 (mFA 27 t1 2) E) fun t39=>GQ t37 true (fun E=>QDo prog C1 (mLoad 3 t39) E) fun t40=>GQ t37 true (fun E=>QDo prog C1 (mFA 27 t1 1) E) fun t41=>GQ t37 true (fun E=>QDo prog C1 (mLoad 3 t41) E) fun t42=>GQ t37 true (fun E=>QDo prog C1 (mBin .quo 3 (iN 8192) t42) E) fun t43=>GQ t37 true (fun E=>QDo prog C1 (mBin .leq 3 t40 t43) E) fun t44=>QDo prog C1 (mPick t37 t44 (.bool false)) fun t45=>
 ∀w,C1 w →
 K (.returned t45) w)
theorem S_predict_may_ok{t0 w K}(h:S_predict_may t0 w K):Calls prog 149 #[t0] w K:=cw Tryz.func149 rfl rfl (by kernel_rfl) h
def S_predict_Check(t0 w)(K:KT):=
 dx (mBox 27 t0) w K fun t1 w=>dx (mLoad 27 t1) w K fun t3 w=>cx 149 #[t3] w K fun t4 w=>dx (mUn .not t4) w K fun t5 w=>IfX t5 (K (.returned (iN 1)) w) (K (.returned (iN 0)) w)
theorem S_predict_Check_ok{t0 w K}(h:S_predict_Check t0 w K):Calls prog 82 #[t0] w K:=cw Tryz.func82 rfl rfl (by kernel_rfl) h
def S_predict_Row(t0 w)(K:KT):=
 dx (mBox 27 t0) w K fun t1 w=>dx (mLoad 27 t1) w K fun t3 w=>cx 149 #[t3] w K fun t4 w=>dx (mUn .not t4) w K fun t5 w=>IfX t5 (K (.returned (iN 0)) w) (dx (mFA 27 t1 1) w K fun t6 w=>dx (mLoad 3 t6) w K fun t7 w=>dx (mFA 27 t1 2) w K fun t8 w=>dx (mLoad 3 t8) w K fun t9 w=>dx (mBin .mul 3 t7 t9) w K fun t10 w=>K (.returned t10) w)
theorem S_predict_Row_ok{t0 w K}(h:S_predict_Row t0 w K):Calls prog 231 #[t0] w K:=cw Tryz.func231 rfl rfl (by kernel_rfl) h
def S_predict_apart(t0 t1 w)(K:KT):=
 dx (mBin .sub 3 t0 t1) w K fun t7 w=>dx (mBin .sub 3 t1 t0) w K fun t10 w=>dx (mB .max #[3,3] 3 #[false,false] #[t7,t10]) w K fun t11 w=>K (.returned t11) w
theorem S_predict_apart_ok{t0 t1 w K}(h:S_predict_apart t0 t1 w K):Calls prog 316 #[t0,t1] w K:=cw Tryz.func316 rfl rfl (by kernel_rfl) h
def S_predict_Paeth_1(t8 t23 w)(N1:JT)(K:KT):=
 dx (mBin .add 3 t23 (iN 1)) w K fun t36 w=>N1 [t8,t36] w
def S_predict_Paeth_0(t7 t8 t22 t23 w)(N1:JT)(K:KT):=
 dx (mBin .lss 3 t23 (iN 2)) w K fun t24 w=>IfX t24 (JoinX (fun J2=>dx (mIx 323 t22 t23) w K fun t25 w=>dx (mConv 5 3 t25) w K fun t27 w=>cx 316 #[t27,t7] w K fun t29 w=>dx (mConv 5 3 t8) w K fun t31 w=>cx 316 #[t31,t7] w K fun t33 w=>dx (mBin .lss 3 t29 t33) w K fun t34 w=>IfX t34 (J2 [t25] w) (J2 [t8] w)) (fun vs2 w=>∀_:Sg,S_predict_Paeth_1 (vs2.getD 0 undef) t23 w N1 K)) (K (.returned t8) w)
def S_predict_Paeth(t0 t1 t2 w)(K:KT):=
 dx (mConv 5 3 t0) w K fun t12 w=>dx (mConv 5 3 t1) w K fun t14 w=>dx (mBin .add 3 t12 t14) w K fun t15 w=>dx (mConv 5 3 t2) w K fun t17 w=>dx (mBin .sub 3 t15 t17) w K fun t18 w=>dx (mBuild 323 #[(0,t1),(1,t2)]) w K fun t22 w=>LoopX [t0,(iN 0)] w (fun vs1 w N1=>∀_:Sg,S_predict_Paeth_0 t18 (vs1.getD 0 undef) t22 (vs1.getD 1 undef) w N1 K)
theorem S_predict_Paeth_eq (t0 t1 t2:Value)(w:World)(K:Ending→World→Prop):wpX prog 38 [(8,[8])] [(4,[8,23])] none (bodyOf Tryz.f286) (topQ prog [.tmp 6] K) (startX [t0,t1,t2]) [] w=S_predict_Paeth t0 t1 t2 w K:=by kernel_rfl
theorem S_predict_Paeth_ok {t0 t1 t2:Value}{w:World}{K:Ending→World→Prop}(h:S_predict_Paeth t0 t1 t2 w K):Calls prog 286 #[t0,t1,t2] w K:=
 calls_of_wpX Tryz.func286 rfl rfl rfl rfl (Eq.mpr (S_predict_Paeth_eq t0 t1 t2 w K) h)
def S_predict_at(t0 t1 w)(K:KT):=
 dx (mBin .lss 3 t1 (iN 0)) w K fun t6 w=>efx t6 t1 w fun t8 w=>efx t6 t0 w fun t9 w=>gfx t6 (mB .len #[53] 3 #[false] #[t9]) w K fun t10 w=>gfx t6 (mBin .geq 3 t8 t10) w K fun t11 w=>dx (mPick t6 (.bool true) t11) w K fun t12 w=>IfX t12 (K (.returned (.int .u8 0)) w) (dx (mIA 53 t0 t1) w K fun t15 w=>dx (mLoad 5 t15) w K fun t16 w=>K (.returned t16) w)
theorem S_predict_at_ok{t0 t1 w K}(h:S_predict_at t0 t1 w K):Calls prog 285 #[t0,t1] w K:=cw Tryz.func285 rfl rfl (by kernel_rfl) h
def S_predict_rows_off(t0 t1 t2 w)(K:KT):=
 dx (mBox 246 t0) w K fun t3 w=>QuietX w (fun C1=>QDo prog C1 (mFA 246 t3 1) fun t10=>QDo prog C1 (mLoad 53 t10) fun t11=>QDo prog C1 (mFA 246 t3 2) fun t13=>QDo prog C1 (mLoad 3 t13) fun t14=>QDo prog C1 (mBin .sub 3 t2 t14) fun t15=>QCall prog C1 285 #[t11,t15] fun t16=>QDo prog C1 (mFA 246 t3 0) fun t17=>QDo prog C1 (mLoad 53 t17) fun t18=>QCall prog C1 285 #[t18,t2] fun t20=>QDo prog C1 (mFA 246 t3 0) fun t21=>QDo prog C1 (mLoad 53 t21) fun t22=>QDo prog C1 (mFA 246 t3 2) fun t24=>QDo prog C1 (mLoad 3 t24) fun t25=>QDo prog C1 (mBin .sub 3 t2 t25) fun t26=>QCall prog C1 285 #[t22,t26] fun t27=>
 ∀w,C1 w →
 dx (mEq .eql 3 (.tmp 28) (.const (iN 1)) t1 (iN 1)) w K fun t30 w=>IfX t30 (K (.returned t16) w) (dx (mEq .eql 3 (.tmp 28) (.const (iN 2)) t1 (iN 2)) w K fun t33 w=>IfX t33 (K (.returned t20) w) (dx (mEq .eql 3 (.tmp 28) (.const (iN 3)) t1 (iN 3)) w K fun t36 w=>IfX t36 (dx (mConv 5 3 t16) w K fun t38 w=>dx (mConv 5 3 t20) w K fun t40 w=>dx (mBin .add 3 t38 t40) w K fun t41 w=>dx (mBin .quo 3 t41 (iN 2)) w K fun t42 w=>dx (mConv 3 5 t42) w K fun t43 w=>K (.returned t43) w) (dx (mEq .eql 3 (.tmp 28) (.const (iN 4)) t1 (iN 4)) w K fun t45 w=>IfX t45 (cx 286 #[t16,t20,t27] w K fun t49 w=>K (.returned t49) w) (K (.returned (.int .u8 0)) w)))))
theorem S_predict_rows_off_ok{t0 t1 t2 w K}(h:S_predict_rows_off t0 t1 t2 w K):Calls prog 263 #[t0,t1,t2] w K:=cw Tryz.func263 rfl rfl (by kernel_rfl) h
def S_predict_rows_more_0(t1 t2 t7 t8 w)(N1:JT)(K:KT):=
 dx (mBin .lss 3 t8 t7) w K fun t9 w=>IfX t9 (QuietX w (fun C2=>QDo prog C2 (mFA 246 t2 1) fun t11=>QDo prog C2 (mLoad 53 t11) fun t12=>QDo prog C2 (mIA 53 t12 t8) fun t14=>QDo prog C2 (mLoad 5 t14) fun t15=>QDo prog C2 (mLoad 246 t2) fun t16=>QCall prog C2 263 #[t16,t1,t8] fun t19=>QDo prog C2 (mBin .add 5 t15 t19) fun t20=>QDo prog C2 (mIA 53 t12 t8) fun t21=>
 ∀w,C2 w →
 dx (mStore 5 t21 t20) w K fun _ w=>dx (mBin .add 3 t8 (iN 1)) w K fun t22 w=>N1 [t22] w)) (K (.returned (.tuple #[])) w)
def S_predict_rows_more(t0 t1 w)(K:KT):=
 dx (mBox 246 t0) w K fun t2 w=>dx (mFA 246 t2 1) w K fun t5 w=>dx (mLoad 53 t5) w K fun t6 w=>dx (mB .len #[53] 3 #[false] #[t6]) w K fun t7 w=>LoopX [(iN 0)] w (fun vs1 w N1=>∀_:Sg,S_predict_rows_more_0 t1 t2 t7 (vs1.getD 0 undef) w N1 K)
theorem S_predict_rows_more_eq (t0 t1:Value)(w:World)(K:Ending→World→Prop):wpX prog 23 [] [(2,[8])] none (bodyOf Tryz.f240) (topQ prog [] K) (startX [t0,t1]) [] w=S_predict_rows_more t0 t1 w K:=by kernel_rfl
theorem S_predict_rows_more_ok {t0 t1:Value}{w:World}{K:Ending→World→Prop}(h:S_predict_rows_more t0 t1 w K):Calls prog 240 #[t0,t1] w K:=
 calls_of_wpX Tryz.func240 rfl rfl rfl rfl (Eq.mpr (S_predict_rows_more_eq t0 t1 w K) h)
def S_predict_refuse(t0 t1 t2 w)(K:KT):=
 dx (mBox 27 t0) w K fun t3 w=>dx (mLoad 27 t3) w K fun t8 w=>cx 149 #[t8] w K fun t9 w=>dx (mUn .not t9) w K fun t10 w=>IfX t10 (K (.returned (iN 1)) w) (dx (mB .len #[9] 3 #[false] #[t1]) w K fun t13 w=>dx (mBin .gtr 3 t13 (iN 1048576)) w K fun t14 w=>IfX t14 (K (.returned (iN 5)) w) (dx (mFA 27 t3 0) w K fun t16 w=>dx (mLoad 3 t16) w K fun t17 w=>dx (mEq .neq 3 (.tmp 17) (.const (iN 1)) t17 (iN 1)) w K fun t18 w=>etx t18 t1 w fun t20 w=>gtx t18 (mB .len #[9] 3 #[false] #[t20]) w K fun t21 w=>etx t18 t2 w fun t22 w=>gtx t18 (mBin .rem 3 t21 t22) w K fun t23 w=>gtx t18 (mEq .neq 3 (.tmp 23) (.const (iN 0)) t23 (iN 0)) w K fun t24 w=>dx (mPick t18 t24 (.bool false)) w K fun t25 w=>IfX t25 (K (.returned (iN 16)) w) (K (.returned (iN 0)) w)))
theorem S_predict_refuse_ok{t0 t1 t2 w K}(h:S_predict_refuse t0 t1 t2 w K):Calls prog 232 #[t0,t1,t2] w K:=cw Tryz.func232 rfl rfl (by kernel_rfl) h
def S_predict_Decode_3(t1 t6 t7 t9 t10 t11 w)(N2:JT)(K:KT):=
 dx (mLoad 246 t10) w K fun t60 w=>cx 240 #[t60,t11] w K fun t62 w=>dx (mFA 246 t10 1) w K fun t64 w=>dx (mLoad 53 t64) w K fun t65 w=>dx (mB .append #[53,53] 53 #[false,false] #[t9,t65]) w K fun t66 w=>dx (mBin .add 3 t6 t7) w K fun t40 w=>dx (mSlice 9 t1 (some t40) none none) w K fun t41 w=>N2 [t41,t66] w
def S_predict_Decode_2(t1 t6 t7 t9 t10 t11 w)(N2:JT)(K:KT):=
 dx (mBin .geq 3 t11 (iN 5)) w K fun t48 w=>IfX t48 (K (.returned (.tuple #[(.string ⟨#[]⟩),(iN 3)])) w) (HeldX w (fun S4 w=>HDo prog (fun _=>True) (mFA 246 t10 1) fun t49=>HDo prog S4 (mLoad 53 t49) fun t50=>HDo prog (fun _=>True) (mBin .add 3 t6 t7) fun t55=>HDo prog (fun _=>True) (mSlice 9 t1 (some t7) (some t55) none) fun t56=>HDo prog (fun _=>True) (mFA 246 t10 0) fun t58=>(DoX prog (mConv 9 53 t56) w (pm1 (pm1 (pm1 (pm1 (pm1 (pm1 (pm1 (pm1 (pm1 (pm1 (pk K))))))))))) fun t57 w=>S4 w∧(DoX prog (mStore 53 t58 t50) w (pm1 (pm1 (pm1 (pm1 (pm1 (pm1 (pm1 (pm1 (pm1 (pm1 (pk K))))))))))) fun _ w=>(HDo prog (fun _=>True) (mFA 246 t10 1) fun t59=>DoX prog (mStore 53 t59 t57) w (pm1 (pm1 (pm1 (pm1 (pm1 (pm1 (pm1 (pm1 (pm1 (pm1 (pk K))))))))))) fun _ w=>(S_predict_Decode_3 t1 t6 t7 t9 t10 t11 w N2 K))))∧(DoX prog (mStore 53 t58 t50) w (pm1 (pm1 (pm1 (pm1 (pm1 (pm1 (pm1 (pm1 (pm1 (pm1 (pk K))))))))))) fun _ w=>(DoX prog (mConv 9 53 t56) w (pm1 (pm1 (pm1 (pm1 (pm1 (pm1 (pm1 (pm1 (pm1 (pm1 (pk K))))))))))) fun t57_1 w=>S4 w∧(HDo prog (fun _=>True) (mFA 246 t10 1) fun t59_1=>DoX prog (mStore 53 t59_1 t57_1) w (pm1 (pm1 (pm1 (pm1 (pm1 (pm1 (pm1 (pm1 (pm1 (pm1 (pk K))))))))))) fun _ w=>(S_predict_Decode_3 t1 t6 t7 t9 t10 t11 w N2 K))))))
def S_predict_Decode_1(t1 t6 t7 t9 t10 w)(N2:JT)(K:KT):=
 dx (mB .len #[9] 3 #[false] #[t1]) w K fun t35 w=>dx (mBin .gtr 3 t35 (iN 0)) w K fun t36 w=>IfX t36 (JoinX (fun J3=>dx (mEq .eql 3 (.tmp 42) (.const (iN 1)) t7 (iN 1)) w K fun t43 w=>IfX t43 (dx (mIx 9 t1 (iN 0)) w K fun t45 w=>dx (mConv 5 3 t45) w K fun t46 w=>J3 [t46] w) (J3 [(iN 1)] w)) (fun vs3 w=>∀_:Sg,S_predict_Decode_2 t1 t6 t7 t9 t10 (vs3.getD 0 undef) w N2 K)) (dx (mConv 53 9 t9) w K fun t68 w=>K (.returned (.tuple #[t68,(iN 0)])) w)
def S_predict_Decode_0(t1 t2 t6 t7 w)(K:KT):=
 dx (mLoad 27 t2) w K fun t18 w=>dx (mBin .add 3 t6 t7) w K fun t22 w=>cx 232 #[t18,t1,t22] w K fun t23 w=>dx (mEq .neq 30 (.tmp 24) (.const (iN 0)) t23 (iN 0)) w K fun t25 w=>IfX t25 (K (.returned (.tuple #[(.string ⟨#[]⟩),t23])) w) (dx (mFA 27 t2 0) w K fun t27 w=>dx (mLoad 3 t27) w K fun t28 w=>dx (mEq .eql 3 (.tmp 28) (.const (iN 1)) t28 (iN 1)) w K fun t29 w=>IfX t29 (K (.returned (.tuple #[t1,(iN 0)])) w) (dx (mFA 27 t2 1) w K fun t31 w=>dx (mLoad 3 t31) w K fun t32 w=>dx (mBuild 246 #[(2,t32)]) w K fun t33 w=>dx (mAlloc 246) w K fun t10 w=>dx (mStore 246 t10 t33) w K fun _ w=>LoopX [t1,(.slice none 0 0)] w (fun vs2 w N2=>∀_:Sg,S_predict_Decode_1 (vs2.getD 0 undef) t6 t7 (vs2.getD 1 undef) t10 w N2 K)))
def S_predict_Decode(t0 t1 w)(K:KT):=
 dx (mBox 27 t0) w K fun t2 w=>dx (mLoad 27 t2) w K fun t12 w=>cx 231 #[t12] w K fun t13 w=>dx (mB .max #[3,3] 3 #[false,true] #[t13,(iN 1)]) w K fun t14 w=>JoinX (fun J1=>dx (mFA 27 t2 0) w K fun t15 w=>dx (mLoad 3 t15) w K fun t16 w=>dx (mBin .geq 3 t16 (iN 10)) w K fun t17 w=>IfX t17 (J1 [(iN 1)] w) (J1 [(iN 0)] w)) (fun vs1 w=>∀_:Sg,S_predict_Decode_0 t1 t2 t14 (vs1.getD 0 undef) w K)
theorem S_predict_Decode_eq (t0 t1:Value)(w:World)(K:Ending→World→Prop):wpX prog 69 [(4,[7]),(16,[11])] [(11,[1,9])] none (bodyOf Tryz.f193) (topQ prog [.tmp 4,.tmp 5] K) (startX [t0,t1]) [] w=S_predict_Decode t0 t1 w K:=by kernel_rfl
theorem S_predict_Decode_ok {t0 t1:Value}{w:World}{K:Ending→World→Prop}(h:S_predict_Decode t0 t1 w K):Calls prog 193 #[t0,t1] w K:=
 calls_of_wpX Tryz.func193 rfl rfl rfl rfl (Eq.mpr (S_predict_Decode_eq t0 t1 w K) h)
end
section
open Eng
def S_foliantref15_Row(t0 w)(K:KT):=
 dx (mBox 27 t0) w K fun t1 w=>dx (mLoad 27 t1) w K fun t3 w=>cx 58 #[t3] w K fun t4 w=>dx (mEq .neq 30 (.tmp 4) (.const (iN 0)) t4 (iN 0)) w K fun t5 w=>IfX t5 (K (.returned (iN 0)) w) (dx (mFA 27 t1 1) w K fun t6 w=>dx (mLoad 3 t6) w K fun t7 w=>dx (mFA 27 t1 2) w K fun t8 w=>dx (mLoad 3 t8) w K fun t9 w=>dx (mBin .mul 3 t7 t9) w K fun t10 w=>K (.returned t10) w)
theorem S_foliantref15_Row_ok{t0 w K}(h:S_foliantref15_Row t0 w K):Calls prog 64 #[t0] w K:=cw Tryz.func64 rfl rfl (by kernel_rfl) h
def S_foliantref15_Check(t0 w)(K:KT):=
 dx (mBox 27 t0) w K fun t1 w=>dx (mFA 27 t1 0) w K fun t3 w=>dx (mLoad 3 t3) w K fun t4 w=>dx (mEq .neq 3 (.tmp 4) (.const (iN 1)) t4 (iN 1)) w K fun t5 w=>gtx t5 (mFA 27 t1 0) w K fun t7 w=>gtx t5 (mLoad 3 t7) w K fun t8 w=>gtx t5 (mEq .neq 3 (.tmp 8) (.const (iN 2)) t8 (iN 2)) w K fun t9 w=>dx (mPick t5 t9 (.bool false)) w K fun t10 w=>gtx t10 (mFA 27 t1 0) w K fun t12 w=>gtx t10 (mLoad 3 t12) w K fun t13 w=>gtx t10 (mBin .lss 3 t13 (iN 10)) w K fun t14 w=>etx t10 t14 w fun t15 w=>gfx t15 (mFA 27 t1 0) w K fun t16 w=>gfx t15 (mLoad 3 t16) w K fun t17 w=>gfx t15 (mBin .gtr 3 t17 (iN 15)) w K fun t18 w=>gtx t10 (mPick t15 (.bool true) t18) w K fun t19 w=>dx (mPick t10 t19 (.bool false)) w K fun t20 w=>IfX t20 (K (.returned (iN 1)) w) (dx (mFA 27 t1 1) w K fun t21 w=>dx (mLoad 3 t21) w K fun t22 w=>dx (mBin .lss 3 t22 (iN 1)) w K fun t23 w=>gfx t23 (mFA 27 t1 2) w K fun t25 w=>gfx t23 (mLoad 3 t25) w K fun t26 w=>gfx t23 (mBin .lss 3 t26 (iN 1)) w K fun t27 w=>dx (mPick t23 (.bool true) t27) w K fun t28 w=>gfx t28 (mFA 27 t1 1) w K fun t30 w=>gfx t28 (mLoad 3 t30) w K fun t31 w=>gfx t28 (mBin .gtr 3 t31 (iN 8192)) w K fun t32 w=>dx (mPick t28 (.bool true) t32) w K fun t33 w=>gfx t33 (mFA 27 t1 2) w K fun t35 w=>gfx t33 (mLoad 3 t35) w K fun t36 w=>gfx t33 (mBin .gtr 3 t36 (iN 8192)) w K fun t37 w=>dx (mPick t33 (.bool true) t37) w K fun t38 w=>gfx t38 (mFA 27 t1 1) w K fun t40 w=>gfx t38 (mLoad 3 t40) w K fun t41 w=>gfx t38 (mFA 27 t1 2) w K fun t42 w=>gfx t38 (mLoad 3 t42) w K fun t43 w=>gfx t38 (mBin .mul 3 t41 t43) w K fun t44 w=>gfx t38 (mBin .gtr 3 t44 (iN 8192)) w K fun t45 w=>dx (mPick t38 (.bool true) t45) w K fun t46 w=>IfX t46 (K (.returned (iN 1)) w) (K (.returned (iN 0)) w))
theorem S_foliantref15_Check_ok{t0 w K}(h:S_foliantref15_Check t0 w K):Calls prog 58 #[t0] w K:=cw Tryz.func58 rfl rfl (by kernel_rfl) h
def S_foliantref15_far(t0 w)(K:KT):=
 dx (mUn .neg t0) w K fun t5 w=>dx (mB .max #[3,3] 3 #[false,false] #[t0,t5]) w K fun t6 w=>K (.returned t6) w
theorem S_foliantref15_far_ok{t0 w K}(h:S_foliantref15_far t0 w K):Calls prog 247 #[t0] w K:=cw Tryz.func247 rfl rfl (by kernel_rfl) h
def S_foliantref15_Paeth(t0 t1 t2 w)(K:KT):=
 dx (mConv 5 3 t0) w K fun t12 w=>dx (mConv 5 3 t1) w K fun t14 w=>dx (mBin .add 3 t12 t14) w K fun t15 w=>dx (mConv 5 3 t2) w K fun t17 w=>dx (mBin .sub 3 t15 t17) w K fun t18 w=>dx (mConv 5 3 t0) w K fun t21 w=>dx (mBin .sub 3 t18 t21) w K fun t22 w=>cx 247 #[t22] w K fun t23 w=>dx (mConv 5 3 t1) w K fun t26 w=>dx (mBin .sub 3 t18 t26) w K fun t27 w=>cx 247 #[t27] w K fun t28 w=>dx (mConv 5 3 t2) w K fun t31 w=>dx (mBin .sub 3 t18 t31) w K fun t32 w=>cx 247 #[t32] w K fun t33 w=>dx (mBin .leq 3 t23 t28) w K fun t36 w=>etx t36 t23 w fun t38 w=>etx t36 t33 w fun t39 w=>gtx t36 (mBin .leq 3 t38 t39) w K fun t40 w=>dx (mPick t36 t40 (.bool false)) w K fun t41 w=>IfX t41 (K (.returned t0) w) (dx (mBin .leq 3 t28 t33) w K fun t45 w=>IfX t45 (K (.returned t1) w) (K (.returned t2) w))
theorem S_foliantref15_Paeth_ok{t0 t1 t2 w K}(h:S_foliantref15_Paeth t0 t1 t2 w K):Calls prog 198 #[t0,t1,t2] w K:=cw Tryz.func198 rfl rfl (by kernel_rfl) h
def S_foliantref15_at(t0 t1 w)(K:KT):=
 dx (mBin .lss 3 t1 (iN 0)) w K fun t6 w=>efx t6 t1 w fun t8 w=>efx t6 t0 w fun t9 w=>gfx t6 (mB .len #[53] 3 #[false] #[t9]) w K fun t10 w=>gfx t6 (mBin .geq 3 t8 t10) w K fun t11 w=>dx (mPick t6 (.bool true) t11) w K fun t12 w=>IfX t12 (K (.returned (.int .u8 0)) w) (dx (mIA 53 t0 t1) w K fun t15 w=>dx (mLoad 5 t15) w K fun t16 w=>K (.returned t16) w)
theorem S_foliantref15_at_ok{t0 t1 w K}(h:S_foliantref15_at t0 t1 w K):Calls prog 197 #[t0,t1] w K:=cw Tryz.func197 rfl rfl (by kernel_rfl) h
def S_foliantref15_off(t0 t1 t2 t3 t4 w)(K:KT):=
 dx (mBin .sub 3 t3 t4) w K fun t17 w=>cx 197 #[t2,t17] w K fun t18 w=>cx 197 #[t1,t3] w K fun t21 w=>dx (mBin .sub 3 t3 t4) w K fun t25 w=>cx 197 #[t1,t25] w K fun t26 w=>dx (mEq .eql 3 (.tmp 27) (.const (iN 1)) t0 (iN 1)) w K fun t29 w=>IfX t29 (K (.returned t18) w) (dx (mEq .eql 3 (.tmp 27) (.const (iN 2)) t0 (iN 2)) w K fun t32 w=>IfX t32 (K (.returned t21) w) (dx (mEq .eql 3 (.tmp 27) (.const (iN 3)) t0 (iN 3)) w K fun t35 w=>IfX t35 (dx (mConv 5 3 t18) w K fun t37 w=>dx (mConv 5 3 t21) w K fun t39 w=>dx (mBin .add 3 t37 t39) w K fun t40 w=>dx (mBin .quo 3 t40 (iN 2)) w K fun t41 w=>dx (mConv 3 5 t41) w K fun t42 w=>K (.returned t42) w) (dx (mEq .eql 3 (.tmp 27) (.const (iN 4)) t0 (iN 4)) w K fun t44 w=>IfX t44 (cx 198 #[t18,t21,t26] w K fun t48 w=>K (.returned t48) w) (K (.returned (.int .u8 0)) w))))
theorem S_foliantref15_off_ok{t0 t1 t2 t3 t4 w K}(h:S_foliantref15_off t0 t1 t2 t3 t4 w K):Calls prog 131 #[t0,t1,t2,t3,t4] w K:=cw Tryz.func131 rfl rfl (by kernel_rfl) h
def S_foliantref15_Decode_3(t1 t2 t6 t7 t8 t9 t10 t11 t12 t13 w)(N2 N4:JT)(K:KT):=
 dx (mBin .lss 3 t13 t6) w K fun t55 w=>IfX t55 (QuietX w (fun C5=>QDo prog C5 (mBin .add 3 t10 t7) fun t62=>QDo prog C5 (mBin .add 3 t62 t13) fun t64=>QDo prog C5 (mIx 9 t1 t64) fun t65=>QDo prog C5 (mFA 27 t2 1) fun t70=>QDo prog C5 (mLoad 3 t70) fun t71=>QCall prog C5 131 #[t11,t8,t12,t13,t71] fun t72=>QDo prog C5 (mBin .add 5 t65 t72) fun t73=>
 ∀w,C5 w →
 DoX prog (mBuildS 53 1 #[(0,t73)]) w (pm1 (pm1 (pm1 (pm1 (pm1 (pm1 (pm1 (pm1 (pm1 (pk K)))))))))) fun t74 w=>DoX prog (mB .append #[53,53] 53 #[false,false] #[t12,t74]) w (pm1 (pm1 (pm1 (pm1 (pm1 (pm1 (pm1 (pm1 (pm1 (pk K)))))))))) fun t75 w=>dx (mBin .add 3 t13 (iN 1)) w K fun t57 w=>N4 [t75,t57] w)) (dx (mB .append #[53,53] 53 #[false,false] #[t9,t12]) w K fun t79 w=>dx (mBin .add 3 t6 t7) w K fun t43 w=>dx (mBin .add 3 t10 t43) w K fun t44 w=>N2 [t12,t79,t44] w)
def S_foliantref15_Decode_2(t1 t2 t6 t7 t8 t9 t10 t11 w)(N2:JT)(K:KT):=
 dx (mBin .gtr 3 t11 (iN 4)) w K fun t52 w=>IfX t52 (K (.returned (.tuple #[(.string ⟨#[]⟩),(iN 3)])) w) (LoopX [(.slice none 0 0),(iN 0)] w (fun vs4 w N4=>∀_:Sg,S_foliantref15_Decode_3 t1 t2 t6 t7 t8 t9 t10 t11 (vs4.getD 0 undef) (vs4.getD 1 undef) w N2 N4 K))
def S_foliantref15_Decode_1(t1 t2 t6 t7 t8 t9 t10 w)(N2:JT)(K:KT):=
 dx (mB .len #[9] 3 #[false] #[t1]) w K fun t38 w=>dx (mBin .lss 3 t10 t38) w K fun t39 w=>IfX t39 (JoinX (fun J3=>dx (mEq .eql 3 (.tmp 45) (.const (iN 1)) t7 (iN 1)) w K fun t46 w=>IfX t46 (dx (mIx 9 t1 t10) w K fun t49 w=>dx (mConv 5 3 t49) w K fun t50 w=>J3 [t50] w) (J3 [(iN 1)] w)) (fun vs3 w=>∀_:Sg,S_foliantref15_Decode_2 t1 t2 t6 t7 t8 t9 t10 (vs3.getD 0 undef) w N2 K)) (dx (mConv 53 9 t9) w K fun t81 w=>K (.returned (.tuple #[t81,(iN 0)])) w)
def S_foliantref15_Decode_0(t1 t2 t6 t7 w)(K:KT):=
 dx (mB .len #[9] 3 #[false] #[t1]) w K fun t30 w=>dx (mBin .add 3 t6 t7) w K fun t33 w=>dx (mBin .rem 3 t30 t33) w K fun t34 w=>dx (mEq .neq 3 (.tmp 34) (.const (iN 0)) t34 (iN 0)) w K fun t35 w=>IfX t35 (K (.returned (.tuple #[(.string ⟨#[]⟩),(iN 16)])) w) (LoopX [(.slice none 0 0),(.slice none 0 0),(iN 0)] w (fun vs2 w N2=>∀_:Sg,S_foliantref15_Decode_1 t1 t2 t6 t7 (vs2.getD 0 undef) (vs2.getD 1 undef) (vs2.getD 2 undef) w N2 K))
def S_foliantref15_Decode(t0 t1 w)(K:KT):=
 dx (mBox 27 t0) w K fun t2 w=>dx (mLoad 27 t2) w K fun t14 w=>cx 58 #[t14] w K fun t15 w=>dx (mEq .neq 30 (.tmp 15) (.const (iN 0)) t15 (iN 0)) w K fun t16 w=>IfX t16 (K (.returned (.tuple #[(.string ⟨#[]⟩),(iN 1)])) w) (dx (mB .len #[9] 3 #[false] #[t1]) w K fun t18 w=>dx (mBin .gtr 3 t18 (iN 1048576)) w K fun t19 w=>IfX t19 (K (.returned (.tuple #[(.string ⟨#[]⟩),(iN 5)])) w) (dx (mFA 27 t2 0) w K fun t20 w=>dx (mLoad 3 t20) w K fun t21 w=>dx (mEq .eql 3 (.tmp 21) (.const (iN 1)) t21 (iN 1)) w K fun t22 w=>IfX t22 (K (.returned (.tuple #[t1,(iN 0)])) w) (dx (mLoad 27 t2) w K fun t24 w=>cx 64 #[t24] w K fun t25 w=>JoinX (fun J1=>dx (mFA 27 t2 0) w K fun t26 w=>dx (mLoad 3 t26) w K fun t27 w=>dx (mBin .gtr 3 t27 (iN 2)) w K fun t28 w=>IfX t28 (J1 [(iN 1)] w) (J1 [(iN 0)] w)) (fun vs1 w=>∀_:Sg,S_foliantref15_Decode_0 t1 t2 t25 (vs1.getD 0 undef) w K))))
theorem S_foliantref15_Decode_eq (t0 t1:Value)(w:World)(K:Ending→World→Prop):wpX prog 82 [(10,[7]),(19,[11])] [(14,[8,9,10]),(23,[12,13])] none (bodyOf Tryz.f60) (topQ prog [.tmp 4,.tmp 5] K) (startX [t0,t1]) [] w=S_foliantref15_Decode t0 t1 w K:=by kernel_rfl
theorem S_foliantref15_Decode_ok {t0 t1:Value}{w:World}{K:Ending→World→Prop}(h:S_foliantref15_Decode t0 t1 w K):Calls prog 60 #[t0,t1] w K:=
 calls_of_wpX Tryz.func60 rfl rfl rfl rfl (Eq.mpr (S_foliantref15_Decode_eq t0 t1 w K) h)
end
section
open Eng Go.RowKit
structure Pm where
 p:Int
 c:Int
 n:Int
def pmC (x:Pm):List Value:=[.int .i64 x.p,.int .i64 x.c,.int .i64 x.n]
def pmV (x:Pm):Value:=.agg (pmC x).toArray
abbrev pmE (b:Nat)(x:Pm):Ent:=.cells b (pmC x) 27
theorem pmC_one {x:Pm}:∀u∈pmC x,u.oneCell'=true:=by
 intro u hu;simp only[pmC,List.mem_cons,List.not_mem_nil,or_false] at hu;rcases hu with rfl|rfl|rfl<;>rfl
theorem aggPm:aggN prog 27=some 3:=by kernel_rfl
theorem szPm:(Tryz.prog.info? 27).map (·.size)=some 3:=by kernel_rfl
theorem fo_pm0:fOff prog 27 0=some 0:=by kernel_rfl
theorem fo_pm1:fOff prog 27 1=some 1:=by kernel_rfl
theorem fo_pm2:fOff prog 27 2=some 2:=by kernel_rfl
def Pm.known (x:Pm):Prop:=x.p=1∨x.p=2∨(10≤x.p∧x.p≤15)
def Pm.ok (x:Pm):Prop:=x.known∧1≤x.c∧1≤x.n∧x.c≤8192∧x.c*x.n≤8192
instance (x:Pm):Decidable x.known:=by unfold Pm.known;infer_instance
instance (x:Pm):Decidable x.ok:=by unfold Pm.ok;infer_instance
theorem Pm.n_le {x:Pm}(h:x.ok):x.n≤8192:=by
 obtain⟨_,h1,h2,_,h4⟩:=h;have:1*x.n≤x.c*x.n:=Int.mul_le_mul_of_nonneg_right h1 (by omega);omega
theorem Pm.mul_pos {x:Pm}(h:x.ok):1≤x.c*x.n:=by
 obtain⟨_,h1,h2,_,h4⟩:=h;have:1*1≤x.c*x.n:=Int.mul_le_mul h1 h2 (by omega) (by omega);omega
section
variable {w:World}{PK:PKT}{K:VWP}{S:Nat→Prop}{w0:World}{L:List Ent}
theorem o_pmb (x:Pm)(ho:OwnS S w0 w L)(k:∀b w',OwnS S w0 w' (pmE b x::L)→K (.pointer (some ⟨b,0,none⟩)) w'):DoX prog (mBox 27 (pmV x)) w PK K:=
 o_new (fun b=>.pointer (some ⟨b,0,none⟩)) (pmC x) 27 (fun _=>by kernel_rfl) ho k
theorem pm_v (ho:OwnS S w0 w L)(j:Nat){b:Nat}{x:Pm}(hi:L[j]?=some (pmE b x)):DoX prog (mLoad 27 (.pointer (some ⟨b,0,none⟩))) w PK K=K (pmV x) w:=l_at (ho.agg j hi aggPm)
theorem pm_0 (ho:OwnS S w0 w L)(j:Nat){b:Nat}{x:Pm}(hi:L[j]?=some (pmE b x)):DoX prog (mLoad 3 (.pointer (some ⟨b,0+0,none⟩))) w PK K=K (.int .i64 x.p) w:=l_cell nInt5 (ho.cell j hi 0 rfl)
theorem pm_1 (ho:OwnS S w0 w L)(j:Nat){b:Nat}{x:Pm}(hi:L[j]?=some (pmE b x)):DoX prog (mLoad 3 (.pointer (some ⟨b,0+1,none⟩))) w PK K=K (.int .i64 x.c) w:=l_cell nInt5 (ho.cell j hi 1 rfl)
theorem pm_2 (ho:OwnS S w0 w L)(j:Nat){b:Nat}{x:Pm}(hi:L[j]?=some (pmE b x)):DoX prog (mLoad 3 (.pointer (some ⟨b,0+2,none⟩))) w PK K=K (.int .i64 x.n) w:=l_cell nInt5 (ho.cell j hi 2 rfl)
theorem fpm0 {b off:Nat}:DoX prog (mFA 27 (.pointer (some ⟨b,off,none⟩)) 0) w PK K=K (.pointer (some ⟨b,off+0,none⟩)) w:=f_addr fo_pm0
theorem fpm1 {b off:Nat}:DoX prog (mFA 27 (.pointer (some ⟨b,off,none⟩)) 1) w PK K=K (.pointer (some ⟨b,off+1,none⟩)) w:=f_addr fo_pm1
theorem fpm2 {b off:Nat}:DoX prog (mFA 27 (.pointer (some ⟨b,off,none⟩)) 2) w PK K=K (.pointer (some ⟨b,off+2,none⟩)) w:=f_addr fo_pm2
end
theorem run_pm1 {W:World}{b:Nat}{x:Pm}(h:(pmE b x).is W):(mLoad 3 (.pointer (some ⟨b,0+1,none⟩))).run prog W=.ok (.value (.int .i64 x.c)) W:=run_load_cell nInt5 (cells_cell (T:=27) (cs:=pmC x) h rfl)
theorem run_pm2 {W:World}{b:Nat}{x:Pm}(h:(pmE b x).is W):(mLoad 3 (.pointer (some ⟨b,0+2,none⟩))).run prog W=.ok (.value (.int .i64 x.n)) W:=run_load_cell nInt5 (cells_cell (T:=27) (cs:=pmC x) h rfl)
theorem pmay_ret (x:Pm)(w:World):Ret prog 149 #[pmV x] w (fun v w'=>v=.bool (decide x.ok)∧Below w.heap.size w w'):=by
 refine ret_of fun K hK=>S_predict_may_ok ?_;unfold S_predict_may iN dx gtx gfx efx;refine o_pmb x (Own.start w) fun b w1 ho=>?_;rw[fpm0,pm_0 ho 0 rfl];have no:∀{W:World},¬x.ok→Below w.heap.size w W→K (.returned (.bool false)) W:=fun h hw=>hK _ _ ⟨by rw[decide_eq_false h],hw⟩;have rest:x.known→QuietX w1 (fun C1=>
   QDo prog C1 (mFA 27 (.pointer (some ⟨b,0,none⟩)) 1) fun t24=>
   QDo prog C1 (mLoad 3 t24) fun t25=>
   QDo prog C1 (mBin .geq 3 t25 (.int .i64 1)) fun t26=>
   QDo prog C1 (mPick (.bool true) t26 (.bool false)) fun t27=>
   GQ t27 true (fun E=>QDo prog C1 (mFA 27 (.pointer (some ⟨b,0,none⟩)) 2) E) fun t29=>
   GQ t27 true (fun E=>QDo prog C1 (mLoad 3 t29) E) fun t30=>
   GQ t27 true (fun E=>QDo prog C1 (mBin .geq 3 t30 (.int .i64 1)) E) fun t31=>
   QDo prog C1 (mPick t27 t31 (.bool false)) fun t32=>
   GQ t32 true (fun E=>QDo prog C1 (mFA 27 (.pointer (some ⟨b,0,none⟩)) 1) E) fun t34=>
   GQ t32 true (fun E=>QDo prog C1 (mLoad 3 t34) E) fun t35=>
   GQ t32 true (fun E=>QDo prog C1 (mBin .leq 3 t35 (.int .i64 8192)) E) fun t36=>
   QDo prog C1 (mPick t32 t36 (.bool false)) fun t37=>
   GQ t37 true (fun E=>QDo prog C1 (mFA 27 (.pointer (some ⟨b,0,none⟩)) 2) E) fun t39=>
   GQ t37 true (fun E=>QDo prog C1 (mLoad 3 t39) E) fun t40=>
   GQ t37 true (fun E=>QDo prog C1 (mFA 27 (.pointer (some ⟨b,0,none⟩)) 1) E) fun t41=>
   GQ t37 true (fun E=>QDo prog C1 (mLoad 3 t41) E) fun t42=>
   GQ t37 true (fun E=>QDo prog C1 (mBin .quo 3 (.int .i64 8192) t42) E) fun t43=>
   GQ t37 true (fun E=>QDo prog C1 (mBin .leq 3 t40 t43) E) fun t44=>
   QDo prog C1 (mPick t37 t44 (.bool false)) fun t45=>
   ∀w,C1 w→K (.returned t45) w):=by
  intro hk;refine quietC (fun W=>OwnS NoB w W [pmE b x]) ho.drew ?_;refine q_do _ (fun _=>run_fa fo_pm1) (q_at _ (fun W h=>run_pm1 (h.at_ 0 rfl)) (q_geq (q_pt ?_)));by_cases h1:1≤x.c
  case neg=>
   rw[decide_eq_false h1];simp only[gq];refine q_pf ?_;simp only[gq];refine q_pf ?_;simp only[gq];refine q_pf fun W ho=>?_;exact no (fun h=>h1 h.2.1) ho.done
  rw[decide_eq_true h1];simp only[gq];refine q_do _ (fun _=>run_fa fo_pm2) (q_at _ (fun W h=>run_pm2 (h.at_ 0 rfl)) (q_geq (q_pt ?_)));by_cases h2:1≤x.n
  case neg=>
   rw[decide_eq_false h2];simp only[gq];refine q_pf ?_;simp only[gq];refine q_pf fun W ho=>?_;exact no (fun h=>h2 h.2.2.1) ho.done
  rw[decide_eq_true h2];simp only[gq];refine q_do _ (fun _=>run_fa fo_pm1) (q_at _ (fun W h=>run_pm1 (h.at_ 0 rfl)) (q_leq (q_pt ?_)));by_cases h3:x.c≤8192
  case neg=>
   rw[decide_eq_false h3];simp only[gq];refine q_pf fun W ho=>?_;exact no (fun h=>h3 h.2.2.2.1) ho.done
  rw[decide_eq_true h3];simp only[gq];refine q_do _ (fun _=>run_fa fo_pm2) (q_at _ (fun W h=>run_pm2 (h.at_ 0 rfl)) ?_);refine q_do _ (fun _=>run_fa fo_pm1) (q_at _ (fun W h=>run_pm1 (h.at_ 0 rfl)) (q_quo (by omega) (q_leq (q_pt fun W ho=>?_))));have hq:(8192:Int).tdiv x.c=8192 / x.c:=Int.tdiv_eq_ediv_of_nonneg (by decide);have hq2:8192 / x.c≤8192:=Int.ediv_le_self _ (by decide);have hq3:0≤8192 / x.c:=Int.ediv_nonneg (by decide) (by omega);rw[hq,wrap64_id (by omega) (by omega)];refine hK _ _ ⟨?_,ho.done⟩;have e:x.n≤8192 / x.c↔x.c*x.n≤8192:=by rw[Int.le_ediv_iff_mul_le (by omega),Int.mul_comm]
  congr 1
  have:x.ok↔x.n≤8192 / x.c:=⟨fun h=>e.2 h.2.2.2.2,fun h=>⟨hk,h1,h2,h3,e.1 h⟩⟩;exact (decide_eq_decide.2 this).symm
 simp only[rs];by_cases k1:x.p=1
 ·simp only[k1,decide_true,rs,gq,g_un];exact rest (.inl k1)
 simp only[k1,decide_false,rs];rw[fpm0,pm_0 ho 0 rfl];simp only[rs];by_cases k2:x.p=2
 ·simp only[k2,decide_true,rs,gq,g_un];exact rest (.inr (.inl k2))
 simp only[k2,decide_false,rs];rw[fpm0,pm_0 ho 0 rfl];simp only[rs];by_cases k3:10≤x.p
 ·simp only[k3,decide_true,rs];rw[fpm0,pm_0 ho 0 rfl];simp only[rs];by_cases k4:x.p≤15
  ·simp only[k4,decide_true,rs,gq,g_un];exact rest (.inr (.inr ⟨k3,k4⟩))
  ·simp only[k4,decide_false,rs,gq,g_un];refine quietC (fun W=>OwnS NoB w W [pmE b x]) ho.drew ?_;refine q_pf ?_;simp only[gq];refine q_pf ?_;simp only[gq];refine q_pf ?_;simp only[gq];refine q_pf fun W ho=>no (fun h=>by have:=h.1;unfold Pm.known at this;omega) ho.done
 ·simp only[k3,decide_false,rs,gq,g_un];refine quietC (fun W=>OwnS NoB w W [pmE b x]) ho.drew ?_;refine q_pf ?_;simp only[gq];refine q_pf ?_;simp only[gq];refine q_pf ?_;simp only[gq];refine q_pf fun W ho=>no (fun h=>by have:=h.1;unfold Pm.known at this;omega) ho.done
theorem pcheck_ret (x:Pm)(w:World):Ret prog 82 #[pmV x] w (fun v w'=>v=.int .i64 (if x.ok then 0 else 1)∧Below w.heap.size w w'):=by
 refine ret_of fun K hK=>S_predict_Check_ok ?_;unfold S_predict_Check iN dx cx;refine o_pmb x (Own.start w) fun b w1 ho=>?_;rw[pm_v ho 0 rfl];refine c_below ho (pmay_ret x w1) ?_;rintro _ w2 rfl ho;simp only[rs];by_cases h:x.ok
 ·rw[if_pos h] at hK;simp only[h,decide_true,Bool.not_true,i_f];exact hK _ _ ⟨rfl,ho.done⟩
 ·rw[if_neg h] at hK;simp only[h,decide_false,Bool.not_false,i_t];exact hK _ _ ⟨rfl,ho.done⟩
theorem prow_ret (x:Pm)(w:World):Ret prog 231 #[pmV x] w (fun v w'=>v=.int .i64 (if x.ok then x.c*x.n else 0)∧Below w.heap.size w w'):=by
 refine ret_of fun K hK=>S_predict_Row_ok ?_;unfold S_predict_Row iN dx cx;refine o_pmb x (Own.start w) fun b w1 ho=>?_;rw[pm_v ho 0 rfl];refine c_below ho (pmay_ret x w1) ?_;rintro _ w2 rfl ho;simp only[rs];by_cases h:x.ok
 ·rw[if_pos h] at hK;simp only[h,decide_true,Bool.not_true,i_f];have h1:=Pm.mul_pos h;have h2:=h.2.2.2.2;rw[fpm1,pm_1 ho 0 rfl,fpm2,pm_2 ho 0 rfl];simp only[rs];rw[wrap64_id (by omega) (by omega)];exact hK _ _ ⟨rfl,ho.done⟩
 ·rw[if_neg h] at hK;simp only[h,decide_false,Bool.not_false,i_t];exact hK _ _ ⟨rfl,ho.done⟩
theorem rcheck15_ret (x:Pm)(w:World):Ret prog 58 #[pmV x] w (fun v w'=>v=.int .i64 (if x.ok then 0 else 1)∧Below w.heap.size w w'):=by
 refine ret_of fun K hK=>S_foliantref15_Check_ok ?_;unfold S_foliantref15_Check iN dx gtx gfx etx;refine o_pmb x (Own.start w) fun b w1 ho=>?_;have no:¬x.ok→K (.returned (.int .i64 1)) w1:=fun h=>hK _ _ ⟨by rw[if_neg h],ho.done⟩;rw[fpm0,pm_0 ho 0 rfl];simp only[rs];have rest:x.known→(DoX prog (mFA 27 (.pointer (some ⟨b,0,none⟩)) 1) w1 (pk K) fun t21 w=>
   DoX prog (mLoad 3 t21) w (pk K) fun t22 w=>
   DoX prog (mBin .lss 3 t22 (.int .i64 1)) w (pk K) fun t23 w=>
   GDo t23 false (fun E=>DoX prog (mFA 27 (.pointer (some ⟨b,0,none⟩)) 2) w (pk K) E) w fun t25 w=>
   GDo t23 false (fun E=>DoX prog (mLoad 3 t25) w (pk K) E) w fun t26 w=>
   GDo t23 false (fun E=>DoX prog (mBin .lss 3 t26 (.int .i64 1)) w (pk K) E) w fun t27 w=>
   DoX prog (mPick t23 (.bool true) t27) w (pk K) fun t28 w=>
   GDo t28 false (fun E=>DoX prog (mFA 27 (.pointer (some ⟨b,0,none⟩)) 1) w (pk K) E) w fun t30 w=>
   GDo t28 false (fun E=>DoX prog (mLoad 3 t30) w (pk K) E) w fun t31 w=>
   GDo t28 false (fun E=>DoX prog (mBin .gtr 3 t31 (.int .i64 8192)) w (pk K) E) w fun t32 w=>
   DoX prog (mPick t28 (.bool true) t32) w (pk K) fun t33 w=>
   GDo t33 false (fun E=>DoX prog (mFA 27 (.pointer (some ⟨b,0,none⟩)) 2) w (pk K) E) w fun t35 w=>
   GDo t33 false (fun E=>DoX prog (mLoad 3 t35) w (pk K) E) w fun t36 w=>
   GDo t33 false (fun E=>DoX prog (mBin .gtr 3 t36 (.int .i64 8192)) w (pk K) E) w fun t37 w=>
   DoX prog (mPick t33 (.bool true) t37) w (pk K) fun t38 w=>
   GDo t38 false (fun E=>DoX prog (mFA 27 (.pointer (some ⟨b,0,none⟩)) 1) w (pk K) E) w fun t40 w=>
   GDo t38 false (fun E=>DoX prog (mLoad 3 t40) w (pk K) E) w fun t41 w=>
   GDo t38 false (fun E=>DoX prog (mFA 27 (.pointer (some ⟨b,0,none⟩)) 2) w (pk K) E) w fun t42 w=>
   GDo t38 false (fun E=>DoX prog (mLoad 3 t42) w (pk K) E) w fun t43 w=>
   GDo t38 false (fun E=>DoX prog (mBin .mul 3 t41 t43) w (pk K) E) w fun t44 w=>
   GDo t38 false (fun E=>DoX prog (mBin .gtr 3 t44 (.int .i64 8192)) w (pk K) E) w fun t45 w=>
   DoX prog (mPick t38 (.bool true) t45) w (pk K) fun t46 w=>
   IfX t46 (K (.returned (.int .i64 1)) w) (K (.returned (.int .i64 0)) w)):=by
  intro hk;rw[fpm1,pm_1 ho 0 rfl];simp only[rs];by_cases h1:x.c < 1
  ·simp only[h1,decide_true,rs,g_un];exact no fun h=>by have:=h.2.1;omega
  simp only[h1,decide_false,rs];rw[fpm2,pm_2 ho 0 rfl];simp only[rs];by_cases h2:x.n < 1
  ·simp only[h2,decide_true,rs,g_un];exact no fun h=>by have:=h.2.2.1;omega
  simp only[h2,decide_false,rs];rw[fpm1,pm_1 ho 0 rfl];simp only[rs];by_cases h3:8192 < x.c
  ·simp only[h3,decide_true,rs,g_un];exact no fun h=>by have:=h.2.2.2.1;omega
  simp only[h3,decide_false,rs];rw[fpm2,pm_2 ho 0 rfl];simp only[rs];by_cases h4:8192 < x.n
  ·simp only[h4,decide_true,rs,g_un];exact no fun h=>by have:=Pm.n_le h;omega
  simp only[h4,decide_false,rs];rw[fpm1,pm_1 ho 0 rfl]
  try simp only[rs]
  rw[fpm2,pm_2 ho 0 rfl];simp only[rs];have hm0:0≤x.c*x.n:=Int.mul_nonneg (by omega) (by omega);have hm1:x.c*x.n≤8192*8192:=Int.mul_le_mul (by omega) (by omega) (by omega) (by omega);rw[wrap64_id (by omega) (by omega)];by_cases h5:8192 < x.c*x.n
  ·simp only[h5,decide_true,rs,g_un];exact no fun h=>by have:=h.2.2.2.2;omega
  ·simp only[h5,decide_false,rs];exact hK _ _ ⟨by rw[if_pos ⟨hk,by omega,by omega,by omega,by omega⟩],ho.done⟩
 by_cases k1:x.p=1
 ·simp only[k1,ne_eq,not_true,decide_false,rs,g_un];exact rest (.inl k1)
 simp only[k1,ne_eq,not_false_eq_true,decide_true,rs];rw[fpm0,pm_0 ho 0 rfl];simp only[rs];by_cases k2:x.p=2
 ·simp only[k2,ne_eq,not_true,decide_false,rs,g_un];exact rest (.inr (.inl k2))
 simp only[k2,ne_eq,not_false_eq_true,decide_true,rs];rw[fpm0,pm_0 ho 0 rfl];simp only[rs];by_cases k3:x.p < 10
 ·simp only[k3,decide_true,rs,g_un];exact no fun h=>by have:=h.1;unfold Pm.known at this;omega
 simp only[k3,decide_false,rs];rw[fpm0,pm_0 ho 0 rfl];simp only[rs];by_cases k4:15 < x.p
 ·simp only[k4,decide_true,rs,g_un];exact no fun h=>by have:=h.1;unfold Pm.known at this;omega
 ·simp only[k4,decide_false,rs,g_un];exact rest (.inr (.inr ⟨by omega,by omega⟩))
theorem rrow15_ret (x:Pm)(w:World):Ret prog 64 #[pmV x] w (fun v w'=>v=.int .i64 (if x.ok then x.c*x.n else 0)∧Below w.heap.size w w'):=by
 refine ret_of fun K hK=>S_foliantref15_Row_ok ?_;unfold S_foliantref15_Row iN dx cx;refine o_pmb x (Own.start w) fun b w1 ho=>?_;rw[pm_v ho 0 rfl];refine c_below ho (rcheck15_ret x w1) ?_;rintro _ w2 rfl ho;simp only[n_err];by_cases h:x.ok
 ·rw[if_pos h] at hK ⊢;simp only[show decide ((0:Int)≠0)=false from rfl,i_f];have h1:=Pm.mul_pos h;have h2:=h.2.2.2.2;rw[fpm1,pm_1 ho 0 rfl,fpm2,pm_2 ho 0 rfl];simp only[rs];rw[wrap64_id (by omega) (by omega)];exact hK _ _ ⟨rfl,ho.done⟩
 ·rw[if_neg h] at hK ⊢;simp only[show decide ((1:Int)≠0)=true from rfl,i_t];exact hK _ _ ⟨rfl,ho.done⟩
def Pr.abs (x:Int):Int:=max x (-x)
def Pr.paeth (a b c:UInt8):UInt8:=
 let pt:Int:=(a.toNat:Int)+(b.toNat:Int) - (c.toNat:Int)
 if Pr.abs (pt - (a.toNat:Int))≤Pr.abs (pt - (b.toNat:Int))∧Pr.abs (pt - (a.toNat:Int))≤Pr.abs (pt - (c.toNat:Int)) then a
 else if Pr.abs (pt - (b.toNat:Int))≤Pr.abs (pt - (c.toNat:Int)) then b else c
theorem papart_ret (a b:Int)(w:World)(ha:-10000≤a∧a≤10000)(hb:-10000≤b∧b≤10000):Ret prog 316 #[.int .i64 a,.int .i64 b] w (fun v w'=>v=.int .i64 (Pr.abs (b - a))∧w=w'):=by
 refine ret_of fun K hK=>S_predict_apart_ok ?_;unfold S_predict_apart dx;simp only[rs];rw[wrap64_id (by omega) (by omega),wrap64_id (by omega) (by omega),m_max64];exact hK _ _ ⟨by unfold Pr.abs;congr 1;omega,rfl⟩
theorem rfar15_ret (a:Int)(w:World)(ha:-10000≤a∧a≤10000):Ret prog 247 #[.int .i64 a] w (fun v w'=>v=.int .i64 (Pr.abs a)∧w=w'):=by
 refine ret_of fun K hK=>S_foliantref15_far_ok ?_;unfold S_foliantref15_far dx;simp only[rs];rw[wrap64_id (by omega) (by omega),m_max64];exact hK _ _ ⟨rfl,rfl⟩
section
variable {w:World}{PK:PKT}{K:VWP}
theorem u8ix {c:UInt8}:DoX prog (mConv 5 3 (.int .u8 (c.toNat:Int))) w PK K=K (.int .i64 (c.toNat:Int)) w:=by
 have hc:=UInt8.toNat_lt c;have e:IntKind.i64.wrap (c.toNat:Int)=(c.toNat:Int):=wrap64_id (by omega) (by omega);have:=run_c_int (P:=prog) (S:=5) (D:=3) (k:=.u8) (n:=(c.toNat:Int)) (w:=w) (by kernel_rfl) Tryz.underlying3;rw[e] at this;exact do_eq this
end
theorem ppaeth_ret (a b c:UInt8)(w:World):Ret prog 286 #[.int .u8 (a.toNat:Int),.int .u8 (b.toNat:Int),.int .u8 (c.toNat:Int)] w (fun v w'=>v=.int .u8 ((Pr.paeth a b c).toNat:Int)∧w=w'):=by
 refine ret_of fun K hK=>S_predict_Paeth_ok ?_;unfold S_predict_Paeth iN dx;have ha:=UInt8.toNat_lt a;have hb:=UInt8.toNat_lt b;have hc:=UInt8.toNat_lt c;rw[u8ix,u8ix];simp only[rs];rw[u8ix];simp only[rs];rw[wrap64_id (n:=(a.toNat:Int)+(b.toNat:Int)) (by omega) (by omega),wrap64_id (by omega) (by omega)];have e:∀W:World,(mBuild 323 #[(0,.int .u8 (b.toNat:Int)),(1,.int .u8 (c.toNat:Int))]).run prog W=.ok (.value (.agg #[.int .u8 (b.toNat:Int),.int .u8 (c.toNat:Int)])) W:=fun W=>by kernel_rfl
 refine do_eq (e w) |>.mpr ?_;have hp:Pr.paeth a b c=(let m:=if Pr.abs ((a.toNat:Int)+(b.toNat:Int) - (c.toNat:Int) - (b.toNat:Int)) < Pr.abs ((a.toNat:Int)+(b.toNat:Int) - (c.toNat:Int) - (a.toNat:Int)) then b else a
   if Pr.abs ((a.toNat:Int)+(b.toNat:Int) - (c.toNat:Int) - (c.toNat:Int)) < Pr.abs ((a.toNat:Int)+(b.toNat:Int) - (c.toNat:Int) - (m.toNat:Int)) then c else m):=by
  unfold Pr.paeth;dsimp only;generalize hA:Pr.abs ((a.toNat:Int)+(b.toNat:Int) - (c.toNat:Int) - (a.toNat:Int))=A;generalize hB:Pr.abs ((a.toNat:Int)+(b.toNat:Int) - (c.toNat:Int) - (b.toNat:Int))=B;generalize hC:Pr.abs ((a.toNat:Int)+(b.toNat:Int) - (c.toNat:Int) - (c.toNat:Int))=C;by_cases h1:B < A
  ·rw[if_pos h1,hB,if_neg (by omega)];by_cases h2:B≤C
   ·rw[if_pos h2,if_neg (by omega)]
   ·rw[if_neg h2,if_pos (by omega)]
  ·rw[if_neg h1,hA];by_cases h2:C < A
   ·rw[if_pos h2,if_neg (by omega),if_neg (by omega)]
   ·rw[if_neg h2,if_pos (by omega)]
 rw[hp] at hK;dsimp only at hK;generalize hpt:(a.toNat:Int)+(b.toNat:Int) - (c.toNat:Int)=pt at hK;have hpt1:-10000≤pt∧pt≤10000:=by omega
 have x0:∀W:World,(mIx 323 (.agg #[.int .u8 (b.toNat:Int),.int .u8 (c.toNat:Int)]) (.int .i64 0)).run prog W=.ok (.value (.int .u8 (b.toNat:Int))) W:=fun W=>by kernel_rfl
 have x1:∀W:World,(mIx 323 (.agg #[.int .u8 (b.toNat:Int),.int .u8 (c.toNat:Int)]) (.int .i64 1)).run prog W=.ok (.value (.int .u8 (c.toNat:Int))) W:=fun W=>by kernel_rfl
 refine loop (fun vs W=>w=W∧(vs=[.int .u8 (a.toNat:Int),.int .i64 0]∨vs=[.int .u8 ((if Pr.abs (pt - (b.toNat:Int)) < Pr.abs (pt - (a.toNat:Int)) then b else a).toNat:Int),.int .i64 1] ∨
  vs=[.int .u8 ((if Pr.abs (pt - (c.toNat:Int)) < Pr.abs (pt - ((if Pr.abs (pt - (b.toNat:Int)) < Pr.abs (pt - (a.toNat:Int)) then b else a).toNat:Int)) then c else (if Pr.abs (pt - (b.toNat:Int)) < Pr.abs (pt - (a.toNat:Int)) then b else a)).toNat:Int),.int .i64 2])) (fun vs _=>2 - n1 vs) ⟨rfl,.inl rfl⟩ ?_
 rintro vs _ ⟨rfl,rfl|rfl|rfl⟩ _
 ·simp only[S_predict_Paeth_0,gd,rs,iN,dx,cx];simp only[show decide ((0:Int) < 2)=true from rfl,i_t];refine join fun J hJ=>?_;refine do_eq (x0 w) |>.mpr ?_;rw[u8ix];refine c_eq (papart_ret (b.toNat:Int) pt w (by omega) hpt1) ?_;rw[u8ix];refine c_eq (papart_ret (a.toNat:Int) pt w (by omega) hpt1) ?_;simp only[rs];by_cases h:Pr.abs (pt - (b.toNat:Int)) < Pr.abs (pt - (a.toNat:Int))
  ·simp only[h,decide_true,i_t];refine hJ _ _ fun _=>?_;simp only[S_predict_Paeth_1,gd,rs,iN,dx];exact nextX ⟨rfl,.inr (.inl (by rw[if_pos h];rfl))⟩ (by show 2 - 1 < 2 - 0;decide)
  ·simp only[h,decide_false,i_f];refine hJ _ _ fun _=>?_;simp only[S_predict_Paeth_1,gd,rs,iN,dx];exact nextX ⟨rfl,.inr (.inl (by rw[if_neg h];rfl))⟩ (by show 2 - 1 < 2 - 0;decide)
 ·generalize (if Pr.abs (pt - (b.toNat:Int)) < Pr.abs (pt - (a.toNat:Int)) then b else a)=m;have hm:=UInt8.toNat_lt m;simp only[S_predict_Paeth_0,gd,rs,iN,dx,cx];simp only[show decide ((1:Int) < 2)=true from rfl,i_t];refine join fun J hJ=>?_;refine do_eq (x1 w) |>.mpr ?_;rw[u8ix];refine c_eq (papart_ret (c.toNat:Int) pt w (by omega) hpt1) ?_;rw[u8ix];refine c_eq (papart_ret (m.toNat:Int) pt w (by omega) hpt1) ?_;simp only[rs];by_cases h:Pr.abs (pt - (c.toNat:Int)) < Pr.abs (pt - (m.toNat:Int))
  ·simp only[h,decide_true,i_t];refine hJ _ _ fun _=>?_;simp only[S_predict_Paeth_1,gd,rs,iN,dx];exact nextX ⟨rfl,.inr (.inr (by rw[if_pos h];rfl))⟩ (by show 2 - 2 < 2 - 1;decide)
  ·simp only[h,decide_false,i_f];refine hJ _ _ fun _=>?_;simp only[S_predict_Paeth_1,gd,rs,iN,dx];exact nextX ⟨rfl,.inr (.inr (by rw[if_neg h];rfl))⟩ (by show 2 - 2 < 2 - 1;decide)
 ·simp only[S_predict_Paeth_0,gd,rs,iN,dx,cx];simp only[show decide ((2:Int) < 2)=false from rfl,i_f];exact hK _ _ ⟨rfl,rfl⟩
theorem rpaeth15_ret (a b c:UInt8)(w:World):Ret prog 198 #[.int .u8 (a.toNat:Int),.int .u8 (b.toNat:Int),.int .u8 (c.toNat:Int)] w (fun v w'=>v=.int .u8 ((Pr.paeth a b c).toNat:Int)∧w=w'):=by
 refine ret_of fun K hK=>S_foliantref15_Paeth_ok ?_;unfold S_foliantref15_Paeth dx gtx etx cx;unfold Pr.paeth at hK;dsimp only at hK;have ha:=UInt8.toNat_lt a;have hb:=UInt8.toNat_lt b;have hc:=UInt8.toNat_lt c;rw[u8ix,u8ix];simp only[rs];rw[u8ix];simp only[rs];rw[wrap64_id (n:=(a.toNat:Int)+(b.toNat:Int)) (by omega) (by omega),wrap64_id (by omega) (by omega),u8ix];generalize hpt:(a.toNat:Int)+(b.toNat:Int) - (c.toNat:Int)=pt at hK ⊢;have hpt1:-1000≤pt∧pt≤1000:=by omega
 try simp only[rs]
 rw[wrap64_id (by omega) (by omega)];refine c_eq (rfar15_ret (pt - (a.toNat:Int)) w (by omega)) ?_;rw[u8ix]
 try simp only[rs]
 rw[wrap64_id (by omega) (by omega)];refine c_eq (rfar15_ret (pt - (b.toNat:Int)) w (by omega)) ?_;rw[u8ix]
 try simp only[rs]
 rw[wrap64_id (by omega) (by omega)];refine c_eq (rfar15_ret (pt - (c.toNat:Int)) w (by omega)) ?_;generalize Pr.abs (pt - (a.toNat:Int))=A at hK ⊢;generalize Pr.abs (pt - (b.toNat:Int))=B at hK ⊢;generalize Pr.abs (pt - (c.toNat:Int))=C at hK ⊢;simp only[rs];by_cases h1:A≤B
 ·simp only[h1,decide_true,rs];by_cases h2:A≤C
  ·simp only[h2,decide_true,rs];rw[if_pos ⟨h1,h2⟩] at hK;exact hK _ _ ⟨rfl,rfl⟩
  ·simp only[h2,decide_false,rs];rw[if_neg (by omega)] at hK;by_cases h3:B≤C
   ·simp only[h3,decide_true,i_t];rw[if_pos h3] at hK;exact hK _ _ ⟨rfl,rfl⟩
   ·simp only[h3,decide_false,i_f];rw[if_neg h3] at hK;exact hK _ _ ⟨rfl,rfl⟩
 ·simp only[h1,decide_false,rs,g_un];rw[if_neg (by omega)] at hK;by_cases h3:B≤C
  ·simp only[h3,decide_true,i_t];rw[if_pos h3] at hK;exact hK _ _ ⟨rfl,rfl⟩
  ·simp only[h3,decide_false,i_f];rw[if_neg h3] at hK;exact hK _ _ ⟨rfl,rfl⟩
def Pr.at_ (l:List UInt8)(i:Int):UInt8:=if i < 0∨(l.length:Int)≤i then 0 else l.getD i.toNat 0
theorem pat_ret (l:List UInt8)(v:Value)(i:Int)(w:World)(hs:Sl w v 1 l.length (bytesV l)):Ret prog 285 #[v,.int .i64 i] w (fun r w'=>r=.int .u8 ((Pr.at_ l i).toNat:Int)∧w=w'):=by
 refine ret_of fun K hK=>S_predict_at_ok ?_;unfold S_predict_at iN dx gfx efx;unfold Pr.at_ at hK;simp only[rs];by_cases h0:i < 0
 ·simp only[h0,decide_true,rs,g_un];rw[if_pos (.inl h0)] at hK;exact hK _ _ ⟨rfl,rfl⟩
 simp only[h0,decide_false,rs];rw[sl_len Tryz.underlying53 hs];simp only[rs];by_cases h1:(l.length:Int)≤i
 ·simp only[h1,decide_true,rs];rw[if_pos (.inr h1)] at hK;exact hK _ _ ⟨rfl,rfl⟩
 simp only[h1,decide_false,rs];rw[if_neg (by omega)] at hK;obtain⟨n,rfl⟩:∃n:Nat,i=(n:Int):=⟨i.toNat,by omega⟩;have hn:n < l.length:=by omega
 obtain⟨b2,off,r1,r2⟩:=bytes_at hs hn;refine do_eq (r1 w) |>.mpr (do_eq (run_load_cell nU8l r2) |>.mpr ?_);rw[Int.toNat_natCast,List.getD_eq_getElem?_getD,List.getElem?_eq_getElem hn] at hK;exact hK _ _ ⟨rfl,rfl⟩
theorem rat15_ret (l:List UInt8)(v:Value)(i:Int)(w:World)(hs:Sl w v 1 l.length (bytesV l)):Ret prog 197 #[v,.int .i64 i] w (fun r w'=>r=.int .u8 ((Pr.at_ l i).toNat:Int)∧w=w'):=by
 refine ret_of fun K hK=>S_foliantref15_at_ok ?_;unfold S_foliantref15_at iN dx gfx efx;unfold Pr.at_ at hK;simp only[rs];by_cases h0:i < 0
 ·simp only[h0,decide_true,rs,g_un];rw[if_pos (.inl h0)] at hK;exact hK _ _ ⟨rfl,rfl⟩
 simp only[h0,decide_false,rs];rw[sl_len Tryz.underlying53 hs];simp only[rs];by_cases h1:(l.length:Int)≤i
 ·simp only[h1,decide_true,rs];rw[if_pos (.inr h1)] at hK;exact hK _ _ ⟨rfl,rfl⟩
 simp only[h1,decide_false,rs];rw[if_neg (by omega)] at hK;obtain⟨n,rfl⟩:∃n:Nat,i=(n:Int):=⟨i.toNat,by omega⟩;have hn:n < l.length:=by omega
 obtain⟨b2,off,r1,r2⟩:=bytes_at hs hn;refine do_eq (r1 w) |>.mpr (do_eq (run_load_cell nU8l r2) |>.mpr ?_);rw[Int.toNat_natCast,List.getD_eq_getElem?_getD,List.getElem?_eq_getElem hn] at hK;exact hK _ _ ⟨rfl,rfl⟩
def Pr.off (tag:Int)(above row:List UInt8)(i colors:Int):UInt8:=
 if tag=1 then Pr.at_ row (i - colors)
 else if tag=2 then Pr.at_ above i
 else if tag=3 then UInt8.ofNat (((Pr.at_ row (i - colors)).toNat+(Pr.at_ above i).toNat) / 2)
 else if tag=4 then Pr.paeth (Pr.at_ row (i - colors)) (Pr.at_ above i) (Pr.at_ above (i - colors))
 else 0
def rwC (a r:Value)(c:Int):List Value:=[a,r,.int .i64 c]
def rwV (a r:Value)(c:Int):Value:=.agg (rwC a r c).toArray
abbrev rwE (b:Nat)(a r:Value)(c:Int):Ent:=.cells b (rwC a r c) 246
theorem rwC_one {a r:Value}{c:Int}(h1:a.oneCell'=true)(h2:r.oneCell'=true):∀u∈rwC a r c,u.oneCell'=true:=by
 intro u hu;simp only[rwC,List.mem_cons,List.not_mem_nil,or_false] at hu;rcases hu with rfl|rfl|rfl
 ·exact h1
 ·exact h2
 ·rfl
theorem aggRw:aggN prog 246=some 3:=by kernel_rfl
theorem szRw:(Tryz.prog.info? 246).map (·.size)=some 3:=by kernel_rfl
theorem fo_rw0:fOff prog 246 0=some 0:=by kernel_rfl
theorem fo_rw1:fOff prog 246 1=some 1:=by kernel_rfl
theorem fo_rw2:fOff prog 246 2=some 2:=by kernel_rfl
theorem sl_one16 {w:World}{v:Value}{sz n:Nat}{cs:List Value}(h:Sl w v sz n cs):v.oneCell'=true:=by
 obtain⟨_,a,cap,rfl,_⟩:=h;rfl
theorem run_rw0 {W:World}{b:Nat}{a r:Value}{c:Int}(h:(rwE b a r c).is W):(mLoad 53 (.pointer (some ⟨b,0+0,none⟩))).run prog W=.ok (.value a) W:=run_load_cell nSlU8 (cells_cell (T:=246) (cs:=rwC a r c) h rfl)
theorem run_rw1 {W:World}{b:Nat}{a r:Value}{c:Int}(h:(rwE b a r c).is W):(mLoad 53 (.pointer (some ⟨b,0+1,none⟩))).run prog W=.ok (.value r) W:=run_load_cell nSlU8 (cells_cell (T:=246) (cs:=rwC a r c) h rfl)
theorem run_rw2 {W:World}{b:Nat}{a r:Value}{c:Int}(h:(rwE b a r c).is W):(mLoad 3 (.pointer (some ⟨b,0+2,none⟩))).run prog W=.ok (.value (.int .i64 c)) W:=run_load_cell nInt5 (cells_cell (T:=246) (cs:=rwC a r c) h rfl)
theorem half8 (x y:UInt8):IntKind.u8.wrap (IntKind.i64.wrap (((x.toNat+y.toNat:Nat):Int).tdiv 2))=((UInt8.ofNat ((x.toNat+y.toNat) / 2)).toNat:Int):=by
 have hx:=UInt8.toNat_lt x;have hy:=UInt8.toNat_lt y;rw[show ((x.toNat+y.toNat:Nat):Int).tdiv 2=(((x.toNat+y.toNat) / 2:Nat):Int) from rfl,wrap64_id (by omega) (by omega),wrap8]
theorem poff_ret (tag:Int)(above row:List UInt8)(va vr:Value)(i colors:Int)(w:World)(hi:0≤i∧i≤1000000)(hc:1≤colors∧colors≤1000000)(h1:Sl w va 1 above.length (bytesV above))(h2:Sl w vr 1 row.length (bytesV row)) :
  Ret prog 263 #[rwV va vr colors,.int .i64 tag,.int .i64 i] w (fun r w'=>r=.int .u8 ((Pr.off tag above row i colors).toNat:Int)∧Below w.heap.size w w'):=by
 refine ret_of fun K hK=>S_predict_rows_off_ok ?_;unfold S_predict_rows_off iN dx cx;unfold Pr.off at hK;have o1:=sl_one16 h1;have o2:=sl_one16 h2;have bx:∀W:World,(mBox 246 (rwV va vr colors)).run prog W=.ok (.value (.pointer (some ⟨W.heap.size,0,none⟩))) (W.alloc (.cells (rwC va vr colors).toArray 246)):=fun W=>by
  cases va<;>first|(cases o1;done)|skip
  all_goals cases vr<;>first|(cases o2;done)|kernel_rfl
 refine o_new (fun b=>.pointer (some ⟨b,0,none⟩)) (rwC va vr colors) 246 bx (Own.start w) fun b w1 ho=>?_;refine quietC (fun W=>OwnS NoB w W [rwE b va vr colors]) ho.drew ?_;refine q_do _ (fun _=>run_fa fo_rw1) (q_at _ (fun W h=>run_rw1 (h.at_ 0 rfl)) (q_do _ (fun _=>run_fa fo_rw2) (q_at _ (fun W h=>run_rw2 (h.at_ 0 rfl)) (q_do _ (fun _=>r_sub) ?_))));rw[wrap64_id (by omega) (by omega)];refine q_call _ (fun W h=>(pat_ret row vr (i - colors) W (OwnS.oldSl h h2)).mono fun v w' ⟨k1,k2⟩=>⟨k1,k2▸h⟩) ?_;refine q_do _ (fun _=>run_fa fo_rw0) (q_at _ (fun W h=>run_rw0 (h.at_ 0 rfl)) ?_);refine q_call _ (fun W h=>(pat_ret above va i W (OwnS.oldSl h h1)).mono fun v w' ⟨k1,k2⟩=>⟨k1,k2▸h⟩) ?_;refine q_do _ (fun _=>run_fa fo_rw0) (q_at _ (fun W h=>run_rw0 (h.at_ 0 rfl)) ?_);refine q_do _ (fun _=>run_fa fo_rw2) (q_at _ (fun W h=>run_rw2 (h.at_ 0 rfl)) (q_do _ (fun _=>r_sub) ?_));rw[wrap64_id (by omega) (by omega)];refine q_call _ (fun W h=>(pat_ret above va (i - colors) W (OwnS.oldSl h h1)).mono fun v w' ⟨k1,k2⟩=>⟨k1,k2▸h⟩) ?_;intro w2 ho;generalize Pr.at_ row (i - colors)=x at hK ⊢;generalize Pr.at_ above i=y at hK ⊢;generalize Pr.at_ above (i - colors)=z at hK ⊢;have hx:=UInt8.toNat_lt x;have hy:=UInt8.toNat_lt y;simp only[rs];by_cases k1:tag=1
 ·simp only[k1,decide_true,i_t];rw[if_pos k1] at hK;exact hK _ _ ⟨rfl,ho.done⟩
 simp only[k1,decide_false,i_f];rw[if_neg k1] at hK
 try simp only[rs]
 by_cases k2:tag=2
 ·simp only[k2,decide_true,i_t];rw[if_pos k2] at hK;exact hK _ _ ⟨rfl,ho.done⟩
 simp only[k2,decide_false,i_f];rw[if_neg k2] at hK
 try simp only[rs]
 by_cases k3:tag=3
 ·simp only[k3,decide_true,i_t];rw[if_pos k3] at hK;rw[u8ix,u8ix];simp only[rs];rw[wrap64_id (by omega) (by omega),b_quo (by decide)];refine do_eq (run_c_int (by kernel_rfl) Tryz.underlying5) |>.mpr ?_;rw[show (x.toNat:Int)+(y.toNat:Int)=((x.toNat+y.toNat:Nat):Int) by omega,half8];exact hK _ _ ⟨rfl,ho.done⟩
 simp only[k3,decide_false,i_f];rw[if_neg k3] at hK
 try simp only[rs]
 by_cases k4:tag=4
 ·simp only[k4,decide_true,i_t];rw[if_pos k4] at hK;refine c_eq (ppaeth_ret x y z w2) ?_;exact hK _ _ ⟨rfl,ho.done⟩
 simp only[k4,decide_false,i_f];rw[if_neg k4] at hK;exact hK _ _ ⟨rfl,ho.done⟩
theorem roff15_ret (tag:Int)(above row:List UInt8)(va vr:Value)(i colors:Int)(w:World)(hi:0≤i∧i≤1000000)(hc:1≤colors∧colors≤1000000)(h1:Sl w va 1 above.length (bytesV above))(h2:Sl w vr 1 row.length (bytesV row)) :
  Ret prog 131 #[.int .i64 tag,va,vr,.int .i64 i,.int .i64 colors] w (fun r w'=>r=.int .u8 ((Pr.off tag above row i colors).toNat:Int)∧w=w'):=by
 refine ret_of fun K hK=>S_foliantref15_off_ok ?_;unfold S_foliantref15_off iN dx cx;unfold Pr.off at hK;simp only[rs];rw[wrap64_id (by omega) (by omega)];refine c_eq (rat15_ret row vr (i - colors) w h2) ?_;refine c_eq (rat15_ret above va i w h1) ?_
 try simp only[rs]
 refine c_eq (rat15_ret above va (i - colors) w h1) ?_;generalize Pr.at_ row (i - colors)=x at hK ⊢;generalize Pr.at_ above i=y at hK ⊢;generalize Pr.at_ above (i - colors)=z at hK ⊢;have hx:=UInt8.toNat_lt x;have hy:=UInt8.toNat_lt y
 try simp only[rs]
 by_cases k1:tag=1
 ·simp only[k1,decide_true,i_t];rw[if_pos k1] at hK;exact hK _ _ ⟨rfl,rfl⟩
 simp only[k1,decide_false,i_f];rw[if_neg k1] at hK
 try simp only[rs]
 by_cases k2:tag=2
 ·simp only[k2,decide_true,i_t];rw[if_pos k2] at hK;exact hK _ _ ⟨rfl,rfl⟩
 simp only[k2,decide_false,i_f];rw[if_neg k2] at hK
 try simp only[rs]
 by_cases k3:tag=3
 ·simp only[k3,decide_true,i_t];rw[if_pos k3] at hK;rw[u8ix,u8ix];simp only[rs];rw[wrap64_id (by omega) (by omega),b_quo (by decide)];refine do_eq (run_c_int (by kernel_rfl) Tryz.underlying5) |>.mpr ?_;rw[show (x.toNat:Int)+(y.toNat:Int)=((x.toNat+y.toNat:Nat):Int) by omega,half8];exact hK _ _ ⟨rfl,rfl⟩
 simp only[k3,decide_false,i_f];rw[if_neg k3] at hK
 try simp only[rs]
 by_cases k4:tag=4
 ·simp only[k4,decide_true,i_t];rw[if_pos k4] at hK;refine c_eq (rpaeth15_ret x y z w) ?_;exact hK _ _ ⟨rfl,rfl⟩
 simp only[k4,decide_false,i_f];rw[if_neg k4] at hK;exact hK _ _ ⟨rfl,rfl⟩
end
section
open Eng Go.RowKit
def Pr.decG (tag:Int)(above:List UInt8)(colors:Int):List UInt8→List UInt8→List UInt8
|acc,[]=>acc
|acc,c::r=>Pr.decG tag above colors (acc++[c+Pr.off tag above acc (acc.length:Int) colors]) r
theorem Pr.decG_len (tag:Int)(above:List UInt8)(colors:Int):∀(r acc:List UInt8),(Pr.decG tag above colors acc r).length=acc.length+r.length
|[],acc=>rfl
|c::r,acc=>by rw[Pr.decG,Pr.decG_len tag above colors r,List.length_append,List.length_singleton,List.length_cons];omega
theorem Pr.at_app {p r:List UInt8}{i:Int}(h:i < (p.length:Int)):Pr.at_ (p++r) i=Pr.at_ p i:=by
 unfold Pr.at_;by_cases h0:i < 0
 ·rw[if_pos (.inl h0),if_pos (.inl h0)]
 ·rw[if_neg (by rw[List.length_append];omega),if_neg (by omega),List.getD_eq_getElem?_getD,List.getElem?_append_left (by omega),List.getD_eq_getElem?_getD]
theorem Pr.off_app {tag:Int}{above p r:List UInt8}{colors:Int}(hc:1≤colors):Pr.off tag above (p++r) (p.length:Int) colors=Pr.off tag above p (p.length:Int) colors:=by
 unfold Pr.off;rw[Pr.at_app (by omega)]
def Pr.rowsG (c:Int)(n h:Nat):Nat→List UInt8→List UInt8→List UInt8→List UInt8×Int
|0,_,_,_=>([],13)
|f+1,s,prev,out=>
  if s.length=0 then (out,0)
  else if 5≤(if h=1 then (s.getD 0 0).toNat else 1) then ([],3)
  else
   let row:=Pr.decG ((if h=1 then (s.getD 0 0).toNat else 1:Nat):Int) prev c [] ((s.drop h).take n)
   Pr.rowsG c n h f (s.drop (n+h)) row (out++row)
def Pm.head (x:Pm):Nat:=if 10≤x.p then 1 else 0
def Pr.decode (x:Pm)(s:List UInt8):List UInt8×Int:=
 if ¬x.ok then ([],1)
 else if 1048576 < s.length then ([],5)
 else if x.p=1 then (s,0)
 else if s.length % ((x.c*x.n).toNat+x.head)≠0 then ([],16)
 else Pr.rowsG x.c (x.c*x.n).toNat x.head (s.length+1) s [] []
theorem u8_add {a b:UInt8}:IntKind.u8.wrap ((a.toNat:Int)+(b.toNat:Int))=((a+b).toNat:Int):=by
 rw[show (a.toNat:Int)+(b.toNat:Int)=((a.toNat+b.toNat:Nat):Int) by omega,wrap8]
 congr 1
def strLen:Value→Nat|.string s=>s.size|_=>0
theorem strLen_is (l:List UInt8):strLen (.string ⟨l.toArray⟩)=l.length:=str_size l
def BRd (e:Ent)(v:Value)(l:List UInt8):Prop:=∀W,e.is W→Sl W v 1 l.length (bytesV l)
theorem brd_mkr {b cap:Nat}{l:List UInt8}:BRd (.mkr 5 b l) (.slice (some ⟨b,0,none⟩) l.length cap) l:=fun W h=>mk_sl h
section
variable {w:World}{PK:PKT}{K:VWP}{S:Nat→Prop}{w0:World}{L:List Ent}
theorem c_more {tag:Nat}{va:Value}{e:Ent}{b2 cap:Nat}{above src:List UInt8}{colors:Int}(i j:Nat)(hij:i≠j)(ho:OwnS S w0 w L)(hi:L[i]?=some e)(hj:L[j]?=some (.mkr 5 b2 src))(hb:BRd e va above)(hc:1≤colors∧colors≤1000000)(hs:src.length≤1000000)
  (k:∀W,OwnS S w0 W (L.set j (.mkr 5 b2 (Pr.decG (tag:Int) above colors [] src)))→K (.tuple #[]) W) :
  CallX prog 240 #[rwV va (.slice (some ⟨b2,0,none⟩) src.length cap) colors,.int .i64 (tag:Int)] w PK K:=by
 have hjl:j < L.length:=(List.getElem?_eq_some_iff.1 hj).1;have hgj:∀l,(L.set j (.mkr 5 b2 l))[j]?=some (.mkr 5 b2 l):=fun l=>by rw[List.getElem?_set_self hjl]
 generalize hR:Pr.decG (tag:Int) above colors [] src=R at k;refine⟨S_predict_rows_more_ok ?_⟩;unfold S_predict_rows_more iN dx;have o1:va.oneCell'=true:=sl_one16 (hb w (ho.at_ i hi));have bx:∀W:World,(mBox 246 (rwV va (.slice (some ⟨b2,0,none⟩) src.length cap) colors)).run prog W=.ok (.value (.pointer (some ⟨W.heap.size,0,none⟩))) (W.alloc (.cells (rwC va (.slice (some ⟨b2,0,none⟩) src.length cap) colors).toArray 246)):=fun W=>by
  cases va<;>first|(cases o1;done)|kernel_rfl
 refine o_new (fun b=>.pointer (some ⟨b,0,none⟩)) (rwC va (.slice (some ⟨b2,0,none⟩) src.length cap) colors) 246 bx ho fun b w1 ho=>?_;refine do_eq (run_fa fo_rw1) |>.mpr (do_eq (run_rw1 (ho.at_ 0 rfl)) |>.mpr ?_);have hsl:∀{W:World} {l:List UInt8},OwnS S w0 W (rwE b va (.slice (some ⟨b2,0,none⟩) src.length cap) colors::L.set j (.mkr 5 b2 l))→l.length=src.length→Sl W (.slice (some ⟨b2,0,none⟩) src.length cap) 1 l.length (bytesV l):=fun ho hl=>by
  have:=mk_sl (cap:=cap) (ho.at_ (j+1) (hgj _));rw[hl] at this ⊢;exact this
 have ho:OwnS S w0 w1 (rwE b va (.slice (some ⟨b2,0,none⟩) src.length cap) colors::L.set j (.mkr 5 b2 ([]++src.drop 0))):=by
  rw[List.nil_append,List.drop_zero,set_same hj];exact ho
 rw[sl_len Tryz.underlying53 (hsl ho (by simp))];have hz:([]++src.drop 0:List UInt8).length=src.length:=by simp
 rw[hz];refine loop (fun vs W=>∃p:List UInt8,vs=[.int .i64 (p.length:Int)]∧p.length≤src.length∧Pr.decG (tag:Int) above colors p (src.drop p.length)=R∧OwnS S w0 W (rwE b va (.slice (some ⟨b2,0,none⟩) src.length cap) colors::L.set j (.mkr 5 b2 (p++src.drop p.length)))) (fun vs _=>src.length - n0 vs) ⟨[],rfl,by simp,hR,ho⟩ ?_;clear ho hR;rintro vs w2 ⟨p,rfl,hp,hR,ho⟩ _;simp only[S_predict_rows_more_0,gd,rs,iN,dx];by_cases hlt:(p.length:Int) < (src.length:Int)
 ·simp only[hlt,decide_true,i_t];have hp':p.length < src.length:=by omega
  have hd:src.drop p.length=src[p.length]::src.drop (p.length+1):=List.drop_eq_getElem_cons hp';rw[hd] at hR ho;rw[Pr.decG] at hR;have hln:(p++src[p.length]::src.drop (p.length+1)).length=src.length:=by rw[List.length_append,List.length_cons,List.length_drop];omega
  have hgi:(p++src[p.length]::src.drop (p.length+1))[p.length]?=some src[p.length]:=by rw[List.getElem?_append_right (Nat.le_refl _),Nat.sub_self];rfl
  have hia:∀W:World,(mIA 53 (.slice (some ⟨b2,0,none⟩) src.length cap) (.int .i64 (p.length:Int))).run prog W=.ok (.value (.pointer (some ⟨b2,p.length,none⟩))) W:=fun W=>by
   have:=run_ia (P:=prog) (T:=53) (b:=b2) (off:=0) (cap:=cap) (n:=src.length) (k:=.i64) (i:=(p.length:Int)) (w:=W) Tryz.underlying53 (show (Tryz.prog.info? 5).map (·.size)=some 1 by kernel_rfl) (by omega) (by omega)
   rwa [Int.toNat_natCast,Nat.mul_one,Nat.zero_add] at this
  refine quietC (fun W=>OwnS S w0 W (rwE b va (.slice (some ⟨b2,0,none⟩) src.length cap) colors::L.set j (.mkr 5 b2 (p++src[p.length]::src.drop (p.length+1))))) ho.drew ?_;refine q_do _ (fun _=>run_fa fo_rw1) (q_at _ (fun W h=>run_rw1 (h.at_ 0 rfl)) (q_do _ hia ?_));refine q_at (.int .u8 (src[p.length].toNat:Int)) (fun W h=>run_load_cell nU8l (mk_cell (h.at_ (j+1) (hgj _)) (by unfold bytesV;rw[List.getElem?_map,hgi];rfl))) ?_;refine q_at (rwV va (.slice (some ⟨b2,0,none⟩) src.length cap) colors) (fun W h=>run_load_at (h.agg 0 rfl aggRw)) ?_;refine q_call (.int .u8 ((Pr.off (tag:Int) above p (p.length:Int) colors).toNat:Int)) (fun W h=>?_) ?_
  ·have hsl2:=hsl h hln;have:=poff_ret (tag:Int) above (p++src[p.length]::src.drop (p.length+1)) va (.slice (some ⟨b2,0,none⟩) src.length cap) (p.length:Int) colors W (by omega) hc (hb W (h.at_ (i+1) (show (L.set j (.mkr 5 b2 _))[i]?=some e by rw[List.getElem?_set_ne (fun h=>hij h.symm)];exact hi))) hsl2;rw[Pr.off_app hc.1] at this;exact this.mono fun v w' ⟨k1,k2⟩=>⟨k1,h.grow k2⟩
  refine q_add ?_;rw[u8_add];refine q_do _ hia ?_;intro w3 ho;refine o_storeMk (j+1) (l:=p++src[p.length]::src.drop (p.length+1)) ho (hgj _) (by kernel_rfl) (by rw[hln];exact hp') fun w4 ho=>?_
  try simp only[rs]
  rw[wrap64_id (by omega) (by omega)];have e1:(p++[src[p.length]+Pr.off (tag:Int) above p (p.length:Int) colors]).length=p.length+1:=by simp
  refine nextX ⟨p++[src[p.length]+Pr.off (tag:Int) above p (p.length:Int) colors],by rw[e1];rfl,by rw[e1];omega,by rw[e1];exact hR,?_⟩ (by simp[n0,RowKit.intOf];omega);rw[e1];have e2:(p++src[p.length]::src.drop (p.length+1)).set p.length (src[p.length]+Pr.off (tag:Int) above p (p.length:Int) colors)=p++[src[p.length]+Pr.off (tag:Int) above p (p.length:Int) colors]++src.drop (p.length+1):=by
   rw[List.set_append_right _ _ (Nat.le_refl _),Nat.sub_self,List.set_cons_zero];simp
  rw[←e2];have ho:OwnS S w0 w4 (rwE b va (.slice (some ⟨b2,0,none⟩) src.length cap) colors::(L.set j (.mkr 5 b2 (p++src[p.length]::src.drop (p.length+1)))).set j (.mkr 5 b2 ((p++src[p.length]::src.drop (p.length+1)).set p.length (src[p.length]+Pr.off (tag:Int) above p (p.length:Int) colors)))):=ho;rw[List.set_set] at ho;exact ho
 ·simp only[hlt,decide_false,i_f];have hpl:p.length=src.length:=by omega
  rw[List.drop_eq_nil_of_le (by omega)] at hR ho;rw[List.append_nil] at ho;have hR:p=R:=hR;subst hR;exact k w2 ho.tail
end
theorem prefuse_ret (x:Pm)(s:List UInt8)(r:Nat)(w:World)(hr:1≤r)(hs:s.length≤1000000000):Ret prog 232 #[pmV x,.string ⟨s.toArray⟩,.int .i64 (r:Int)] w (fun v w'=>v=.int .i64 (if ¬x.ok then 1 else if 1048576 < s.length then 5 else if x.p≠1∧s.length % r≠0 then 16 else 0)∧Below w.heap.size w w'):=by
 refine ret_of fun K hK=>S_predict_refuse_ok ?_;unfold S_predict_refuse iN dx gtx etx cx;refine o_pmb x (Own.start w) fun b w1 ho=>?_;rw[pm_v ho 0 rfl];refine c_below ho (pmay_ret x w1) ?_;rintro _ w2 rfl ho
 try simp only[rs]
 by_cases h:x.ok
 case neg=>
  rw[if_pos h] at hK;simp only[h,decide_false,Bool.not_false,i_t];exact hK _ _ ⟨rfl,ho.done⟩
 rw[if_neg (by simp[h])] at hK;simp only[h,decide_true,Bool.not_true,i_f];rw[s_len Tryz.underlying9]
 try simp only[rs]
 by_cases h2:1048576 < s.length
 ·rw[if_pos h2] at hK;simp only[show decide ((1048576:Int) < (s.length:Int))=true from decide_eq_true (by omega),i_t];exact hK _ _ ⟨rfl,ho.done⟩
 rw[if_neg h2] at hK;simp only[show decide ((1048576:Int) < (s.length:Int))=false from decide_eq_false (by omega),i_f];rw[fpm0,pm_0 ho 0 rfl]
 try simp only[rs]
 by_cases h3:x.p=1
 ·rw[if_neg (by simp[h3])] at hK;simp only[h3,ne_eq,not_true,decide_false,rs,g_un];exact hK _ _ ⟨rfl,ho.done⟩
 simp only[h3,ne_eq,not_false_eq_true,decide_true,rs];rw[s_len Tryz.underlying9]
 try simp only[rs]
 rw[b_rem (by omega),tmodN]
 try simp only[rs]
 by_cases h4:s.length % r=0
 ·rw[if_neg (by simp[h4])] at hK;simp only[show decide (((s.length % r:Nat):Int)≠0)=false from decide_eq_false (by omega),i_f,rs];exact hK _ _ ⟨rfl,ho.done⟩
 ·rw[if_pos ⟨h3,h4⟩] at hK;simp only[show decide (((s.length % r:Nat):Int)≠0)=true from decide_eq_true (by omega),i_t,rs];exact hK _ _ ⟨rfl,ho.done⟩
theorem pdecode_ret (x:Pm)(s:List UInt8)(w:World)(hs:s.length≤1000000000):Ret prog 193 #[pmV x,.string ⟨s.toArray⟩] w (fun v w'=>v=zlT (Pr.decode x s)∧Below w.heap.size w w'):=by
 refine ret_of fun K hK=>S_predict_Decode_ok ?_;generalize hX:Pr.decode x s=X at hK;unfold Pr.decode at hX;unfold S_predict_Decode iN dx cx;refine o_pmb x (Own.start w) fun b w1 ho=>?_;rw[pm_v ho 0 rfl];refine c_below ho (prow_ret x w1) ?_;rintro _ w2 rfl ho;rw[m_max64];refine join fun J hJ=>?_;rw[fpm0,pm_0 ho 0 rfl]
 try simp only[rs]
 have main:J [.int .i64 (x.head:Int)] w2:=by
  refine hJ _ _ fun _=>?_;simp only[S_predict_Decode_0,gd,iN,dx,cx];rw[pm_v ho 0 rfl];have hh:x.head≤1:=by unfold Pm.head;split<;>omega
  obtain⟨n,hn,hn1,hn2⟩:∃n:Nat,max (if x.ok then x.c*x.n else 0) 1=(n:Int)∧1≤n∧n≤8192:=by
   by_cases h:x.ok
   ·rw[if_pos h];have h1:=Pm.mul_pos h;have h2:=h.2.2.2.2;exact⟨(x.c*x.n).toNat,by omega,by omega,by omega⟩
   ·rw[if_neg h];exact⟨1,by decide,by decide,by decide⟩
  rw[hn]
  try simp only[rs]
  rw[wrap64_id (by omega) (by omega),show (n:Int)+(x.head:Int)=((n+x.head:Nat):Int) by omega];refine c_below ho (prefuse_ret x s (n+x.head) w2 (by omega) hs) ?_;rintro _ w3 rfl ho;simp only[n_err];by_cases h:x.ok
  case neg=>
   rw[if_pos h] at hX ⊢;simp only[show decide ((1:Int)≠0)=true from rfl,i_t];exact hK _ _ ⟨by rw[←hX];rfl,ho.done⟩
  rw[if_neg (by simp[h])] at hX ⊢;have hn':(x.c*x.n).toNat=n:=by
   rw[if_pos h] at hn;have h1:=Pm.mul_pos h;omega
  rw[hn'] at hX;by_cases h2:1048576 < s.length
  ·rw[if_pos h2] at hX ⊢;simp only[show decide ((5:Int)≠0)=true from rfl,i_t];exact hK _ _ ⟨by rw[←hX];rfl,ho.done⟩
  rw[if_neg h2] at hX ⊢;by_cases h3:x.p=1
  ·rw[if_neg (by simp[h3])];rw[if_pos h3] at hX;simp only[show decide ((0:Int)≠0)=false from rfl,i_f];rw[fpm0,pm_0 ho 0 rfl];simp only[h3,rs,decide_true,i_t];exact hK _ _ ⟨by rw[←hX];rfl,ho.done⟩
  rw[if_neg h3] at hX;by_cases h4:s.length % (n+x.head)=0
  case neg=>
   rw[if_pos ⟨h3,h4⟩];rw[if_pos h4] at hX;simp only[show decide ((16:Int)≠0)=true from rfl,i_t];exact hK _ _ ⟨by rw[←hX];rfl,ho.done⟩
  rw[if_neg (by simp[h4])];rw[if_neg (by simp[h4])] at hX;simp only[show decide ((0:Int)≠0)=false from rfl,i_f];rw[fpm0,pm_0 ho 0 rfl];simp only[h3,rs,decide_false,i_f];rw[fpm1,pm_1 ho 0 rfl];have hc:1≤x.c∧x.c≤1000000:=⟨h.2.1,by have:=h.2.2.2.1;omega⟩;have e:∀W:World,(mBuild 246 #[(2,.int .i64 x.c)]).run prog W=.ok (.value (rwV nilS nilS x.c)) W:=fun W=>by kernel_rfl
  refine do_eq (e w3) |>.mpr ?_;refine o_new (fun b=>.pointer (some ⟨b,0,none⟩)) (rwC nilS nilS 0) 246 (fun _=>by kernel_rfl) ho fun b9 w4 ho=>?_;refine o_put 0 ho rfl (new:=rwC nilS nilS x.c) szRw (rwC_one rfl rfl) rfl fun w5 ho=>?_;generalize x.head=hd at hX hh h4 ⊢;generalize x.c=co at hX hc ho ⊢;have ho:=(ho.nilU 5 1).nilU 5 1;have ho:=ho.sub (L':=[.urow 5 1 nilS 0 [],.urow 5 1 nilS 0 [],rwE b9 nilS nilS co]) (.cons_cons _ (.cons_cons _ (.cons_cons _ (List.nil_sublist _))));refine loop (fun vs W=>∃(t prev out:List UInt8) (ov va vr:Value) (e:Ent),vs=[.string ⟨t.toArray⟩,ov]∧t.length≤s.length∧t.length % (n+hd)=0∧out.length+t.length≤s.length∧prev.length≤1000000∧BRd e vr prev∧va.oneCell'=true∧(∃f,t.length < f∧Pr.rowsG co n hd f t prev out=X)∧OwnS NoB w W [outR ov out,e,rwE b9 va vr co]) (fun vs _=>strLen (vs.getD 0 undef)) ⟨s,[],[],nilS,nilS,nilS,_,rfl,by omega,h4,by simp,by simp,fun W h=>Sl.urow h,rfl,⟨_,by omega,hX⟩,ho⟩ ?_;clear ho hX;rintro vs w6 ⟨t,prev,out,ov,va,vr,e,rfl,htl,htm,hot,hpl,hbr,hva,⟨f,hf,hX⟩,ho⟩ _;simp only[S_predict_Decode_1,gd,iN,dx];obtain⟨f,rfl⟩:∃f',f=f'+1:=⟨f - 1,by omega⟩;rw[Pr.rowsG] at hX;dsimp only at hX;rw[s_len Tryz.underlying9]
  try simp only[rs]
  by_cases h0:t.length=0
  ·rw[if_pos h0] at hX;simp only[show decide ((0:Int) < (t.length:Int))=false from decide_eq_false (by omega),i_f];rw[c_bytes Tryz.underlying53 Tryz.underlying5 Tryz.underlying9 (out_sl (ho.at_ 0 rfl))];exact hK _ _ ⟨by rw[←hX];rfl,ho.done⟩
  rw[if_neg h0] at hX;simp only[show decide ((0:Int) < (t.length:Int))=true from decide_eq_true (by omega),i_t];have hge:n+hd≤t.length:=Nat.le_of_dvd (by omega) (Nat.dvd_of_mod_eq_zero htm);refine join fun J3 hJ3=>?_;have hvr:vr.oneCell'=true:=sl_one16 (hbr w6 (ho.at_ 1 rfl));have next:∀tag:Nat,(tag=if hd=1 then (t.getD 0 0).toNat else 1)→J3 [.int .i64 (tag:Int)] w6:=by
   intro tag htag;rw[←htag] at hX;refine hJ3 _ _ fun _=>?_;simp only[S_predict_Decode_2,gd,rs,iN,dx];by_cases h5:5≤tag
   ·rw[if_pos h5] at hX;simp only[show decide ((5:Int)≤(tag:Int))=true from decide_eq_true (by omega),i_t];exact hK _ _ ⟨by rw[←hX];rfl,ho.done⟩
   rw[if_neg h5] at hX;simp only[show decide ((5:Int)≤(tag:Int))=false from decide_eq_false (by omega),i_f];have hsl:((t.drop hd).take n).length=n:=by rw[List.length_take,List.length_drop];omega
   have hdl:(Pr.decG (tag:Int) prev co [] ((t.drop hd).take n)).length=n:=by rw[Pr.decG_len,hsl];simp
   have fin:∀b cap W,OwnS NoB w W [.mkr 5 b ((t.drop hd).take n),outR ov out,e,rwE b9 vr (.slice (some ⟨b,0,none⟩) ((t.drop hd).take n).length cap) co]→S_predict_Decode_3 (.string ⟨t.toArray⟩) (.int .i64 (n:Int)) (.int .i64 (hd:Int)) ov (.pointer (some ⟨b9,0,none⟩)) (.int .i64 (tag:Int)) W (NextX (fun vs W=>∃(t prev out:List UInt8) (ov va vr:Value) (e:Ent),vs=[.string ⟨t.toArray⟩,ov]∧t.length≤s.length∧t.length % (n+hd)=0∧out.length+t.length≤s.length∧prev.length≤1000000∧BRd e vr prev∧va.oneCell'=true∧(∃f,t.length < f∧Pr.rowsG co n hd f t prev out=X)∧OwnS NoB w W [outR ov out,e,rwE b9 va vr co]) (fun vs _=>strLen (vs.getD 0 undef)) [.string ⟨t.toArray⟩,ov] w6) K:=by
    intro b cap W ho;unfold S_predict_Decode_3 dx cx;rw[l_at (ho.agg 3 rfl aggRw)];refine c_more 2 0 (by decide) ho rfl rfl hbr hc (by omega) fun W2 ho=>?_;refine do_eq (run_fa fo_rw1) |>.mpr (do_eq (run_rw1 (ho.at_ 3 rfl)) |>.mpr ?_);have hsl2:=mk_sl (cap:=cap) (ho.at_ 0 rfl);rw[hdl] at hsl2;rw[hsl];refine o_appendU 1 Tryz.underlying53 elU8 (by decide) ho rfl hsl2 bytesV_one' (by omega) (by omega) fun v' w9 ho=>?_
    try simp only[rs]
    rw[wrap64_id (by omega) (by omega),s_from Tryz.underlying9 (by omega) (by omega),show ((n:Int)+(hd:Int)).toNat=n+hd by omega];have hbr2:BRd (.mkr 5 b (Pr.decG (tag:Int) prev co [] ((t.drop hd).take n))) (.slice (some ⟨b,0,none⟩) n cap) (Pr.decG (tag:Int) prev co [] ((t.drop hd).take n)):=by
     have:=@brd_mkr b cap (Pr.decG (tag:Int) prev co [] ((t.drop hd).take n))
     rwa [hdl] at this
    have ho:OwnS NoB w w9 [.mkr 5 b (Pr.decG (tag:Int) prev co [] ((t.drop hd).take n)),outR v' (out++Pr.decG (tag:Int) prev co [] ((t.drop hd).take n)),e,rwE b9 vr (.slice (some ⟨b,0,none⟩) n cap) co]:=by
     rw[outR_app,hdl];rw[hsl] at ho;exact ho
    have hld:(t.drop (n+hd)).length=t.length - (n+hd):=List.length_drop;refine nextX ⟨t.drop (n+hd),_,_,v',vr,_,_,rfl,by omega,?_,by rw[List.length_append,hdl];omega,by rw[hdl];omega,hbr2,hvr,⟨f,by omega,hX⟩,?_⟩ ?_
    ·rw[hld,Nat.mod_eq_sub_mod hge] at *;omega
    ·exact (OwnS.swap ho).sub (.cons_cons _ (.cons_cons _ (.cons _ (List.Sublist.refl _))))
    ·show strLen (.string ⟨(t.drop (n+hd)).toArray⟩) < strLen (.string ⟨t.toArray⟩);rw[strLen_is,strLen_is,hld];omega
   have ho:=ho.drew;refine⟨fun W=>∃a,(rwE b9 a vr co).is W,⟨va,ho.at_ 2 rfl⟩,?_⟩;refine hd_pure _ (fun _=>run_fa fo_rw1) (hd_do _ (fun W ⟨a,h⟩=>run_rw1 h) ?_);refine hd_pure _ (fun _=>r_add) ?_;rw[wrap64_id (by omega) (by omega)];refine hd_pure _ (fun _=>run_s_slice Tryz.underlying9 (by omega) (by omega) (by omega)) ?_;rw[show ((n:Int)+(hd:Int)).toNat - ((hd:Nat):Int).toNat=n by omega,Int.toNat_natCast];refine hd_pure _ (fun _=>run_fa fo_rw0) ⟨?_,?_⟩
   ·refine o_bconv Tryz.underlying9 Tryz.underlying53 Tryz.underlying5 ho fun b cap w7 ho=>⟨⟨va,ho.at_ 3 rfl⟩,?_⟩;refine o_store 3 ho rfl (by kernel_rfl) hvr (by show 0+0 < 3;omega) fun w8 ho=>?_;refine hd_pure _ (fun _=>run_fa fo_rw1) ?_;refine o_store 3 ho rfl (by kernel_rfl) rfl (by show 0+1 < 3;omega) fun w9 ho=>?_;exact fin b cap w9 ho
   ·refine o_store 2 ho rfl (by kernel_rfl) hvr (by show 0+0 < 3;omega) fun w8 ho=>?_;refine o_bconv Tryz.underlying9 Tryz.underlying53 Tryz.underlying5 ho fun b cap w7 ho=>⟨⟨vr,ho.at_ 3 rfl⟩,?_⟩;refine hd_pure _ (fun _=>run_fa fo_rw1) ?_;refine o_store 3 ho rfl (by kernel_rfl) rfl (by show 0+1 < 3;omega) fun w9 ho=>?_;exact fin b cap w9 ho
  try simp only[rs]
  by_cases hd1:hd=1
  ·simp only[show decide ((hd:Int)=1)=true from decide_eq_true (by omega),i_t];rw[s_ix (c:=t.getD 0 0) Tryz.underlying9 (by decide) (get0 (by omega)),u8ix];exact next _ (by rw[if_pos hd1])
  ·simp only[show decide ((hd:Int)=1)=false from decide_eq_false (by omega),i_f];exact next 1 (by rw[if_neg hd1])
 have hh:x.head=if 10≤x.p then 1 else 0:=rfl
 by_cases h10:10≤x.p
 ·simp only[h10,decide_true,i_t];rw[if_pos h10] at hh;rw[hh] at main;exact main
 ·simp only[h10,decide_false,i_f];rw[if_neg h10] at hh;rw[hh] at main;exact main
theorem rdecode15_ret (x:Pm)(s:List UInt8)(w:World)(hs:s.length≤1000000000):Ret prog 60 #[pmV x,.string ⟨s.toArray⟩] w (fun v w'=>v=zlT (Pr.decode x s)∧Below w.heap.size w w'):=by
 refine ret_of fun K hK=>S_foliantref15_Decode_ok ?_;generalize hX:Pr.decode x s=X at hK;unfold Pr.decode at hX;unfold S_foliantref15_Decode iN dx cx;refine o_pmb x (Own.start w) fun b w1 ho=>?_;rw[pm_v ho 0 rfl];refine c_below ho (rcheck15_ret x w1) ?_;rintro _ w2 rfl ho;simp only[n_err];by_cases h:x.ok
 case neg=>
  rw[if_pos h] at hX;rw[if_neg h];simp only[show decide ((1:Int)≠0)=true from rfl,i_t];exact hK _ _ ⟨by rw[←hX];rfl,ho.done⟩
 rw[if_neg (by simp[h])] at hX;rw[if_pos h];simp only[show decide ((0:Int)≠0)=false from rfl,i_f];rw[s_len Tryz.underlying9]
 try simp only[rs]
 by_cases h2:1048576 < s.length
 ·rw[if_pos h2] at hX;simp only[show decide ((1048576:Int) < (s.length:Int))=true from decide_eq_true (by omega),i_t];exact hK _ _ ⟨by rw[←hX];rfl,ho.done⟩
 rw[if_neg h2] at hX;simp only[show decide ((1048576:Int) < (s.length:Int))=false from decide_eq_false (by omega),i_f];rw[fpm0,pm_0 ho 0 rfl]
 try simp only[rs]
 by_cases h3:x.p=1
 ·rw[if_pos h3] at hX;simp only[h3,decide_true,i_t];exact hK _ _ ⟨by rw[←hX];rfl,ho.done⟩
 rw[if_neg h3] at hX;simp only[h3,decide_false,i_f];rw[pm_v ho 0 rfl];refine c_below ho (rrow15_ret x w2) ?_;rintro _ w3 rfl ho;rw[if_pos h];have hm1:=Pm.mul_pos h;have hm2:=h.2.2.2.2;have hc:1≤x.c∧x.c≤1000000:=⟨h.2.1,by have:=h.2.2.2.1;omega⟩;obtain⟨n,hn⟩:∃n:Nat,x.c*x.n=(n:Int):=⟨(x.c*x.n).toNat,by omega⟩;rw[hn] at hm1 hm2 hX ⊢;rw[Int.toNat_natCast] at hX;refine join fun J hJ=>?_;rw[fpm0,pm_0 ho 0 rfl]
 try simp only[rs]
 have main:J [.int .i64 (x.head:Int)] w3:=by
  refine hJ _ _ fun _=>?_;simp only[S_foliantref15_Decode_0,gd,iN,dx];have hh:x.head≤1:=by unfold Pm.head;split<;>omega
  rw[s_len Tryz.underlying9]
  try simp only[rs]
  rw[wrap64_id (by omega) (by omega),show (n:Int)+(x.head:Int)=((n+x.head:Nat):Int) by omega,b_rem (by omega),tmodN]
  try simp only[rs]
  by_cases h4:s.length % (n+x.head)=0
  case neg=>
   rw[if_pos h4] at hX;simp only[show decide (((s.length % (n+x.head):Nat):Int)≠0)=true from decide_eq_true (by omega),i_t];exact hK _ _ ⟨by rw[←hX];rfl,ho.done⟩
  rw[if_neg (by simp[h4])] at hX;simp only[show decide (((s.length % (n+x.head):Nat):Int)≠0)=false from decide_eq_false (by omega),i_f];generalize x.head=hd at hX hh h4 ⊢;have ho:=(ho.nilU 5 1).nilU 5 1;have ho:OwnS NoB w w3 [outR nilS [],outR nilS [],pmE b x]:=ho;refine loop (fun vs W=>∃(k:Nat) (prev out:List UInt8) (ov pv:Value),vs=[pv,ov,.int .i64 (k:Int)]∧k≤s.length∧(s.length - k) % (n+hd)=0∧out.length≤k∧prev.length≤1000000∧(∃f,s.length - k < f∧Pr.rowsG x.c n hd f (s.drop k) prev out=X)∧OwnS NoB w W [outR ov out,outR pv prev,pmE b x]) (fun vs _=>s.length - n2 vs) ⟨0,[],[],nilS,nilS,rfl,by omega,h4,by simp,by simp,⟨_,by omega,hX⟩,ho⟩ ?_;clear ho hX;rintro vs w6 ⟨k,prev,out,ov,pv,rfl,hk,htm,hot,hpl,⟨f,hf,hX⟩,ho⟩ _;simp only[S_foliantref15_Decode_1,gd,iN,dx];obtain⟨f,rfl⟩:∃f',f=f'+1:=⟨f - 1,by omega⟩;rw[Pr.rowsG] at hX;dsimp only at hX;rw[List.length_drop] at hX;rw[s_len Tryz.underlying9]
  try simp only[rs]
  by_cases h0:s.length - k=0
  ·rw[if_pos h0] at hX;simp only[show decide ((k:Int) < (s.length:Int))=false from decide_eq_false (by omega),i_f];rw[c_bytes Tryz.underlying53 Tryz.underlying5 Tryz.underlying9 (out_sl (ho.at_ 0 rfl))];exact hK _ _ ⟨by rw[←hX];rfl,ho.done⟩
  rw[if_neg h0] at hX;simp only[show decide ((k:Int) < (s.length:Int))=true from decide_eq_true (by omega),i_t];have hge:n+hd≤s.length - k:=Nat.le_of_dvd (by omega) (Nat.dvd_of_mod_eq_zero htm);have hg0:(s.drop k).getD 0 0=s.getD k 0:=by rw[List.getD_eq_getElem?_getD,List.getElem?_drop,List.getD_eq_getElem?_getD,Nat.add_zero]
  rw[hg0] at hX;refine join fun J3 hJ3=>?_;have next:∀tag:Nat,(tag=if hd=1 then (s.getD k 0).toNat else 1)→J3 [.int .i64 (tag:Int)] w6:=by
   intro tag htag;rw[←htag] at hX;refine hJ3 _ _ fun _=>?_;simp only[S_foliantref15_Decode_2,gd,rs,iN,dx];by_cases h5:5≤tag
   ·rw[if_pos h5] at hX;simp only[show decide ((4:Int) < (tag:Int))=true from decide_eq_true (by omega),i_t];exact hK _ _ ⟨by rw[←hX];rfl,ho.done⟩
   rw[if_neg h5] at hX;simp only[show decide ((4:Int) < (tag:Int))=false from decide_eq_false (by omega),i_f];have hsl:(((s.drop k).drop hd).take n).length=n:=by rw[List.length_take,List.length_drop,List.length_drop];omega
   have hdl:(Pr.decG (tag:Int) prev x.c [] (((s.drop k).drop hd).take n)).length=n:=by rw[Pr.decG_len,hsl];simp
   generalize hsrc:((s.drop k).drop hd).take n=src at hX hsl hdl;have hgs:∀i:Nat,i < n→s[k+hd+i]?=src[i]?:=fun i hi=>by
    rw[←hsrc,List.getElem?_take_of_lt hi,List.getElem?_drop,List.getElem?_drop,show k+(hd+i)=k+hd+i by omega]
   generalize hrow:Pr.decG (tag:Int) prev x.c [] src=row at hX hdl;have ho:=ho.nilU 5 1;have ho:OwnS NoB w w6 [outR nilS [],outR ov out,outR pv prev,pmE b x]:=ho;refine loop (fun vs W=>∃(p:List UInt8) (rv:Value),vs=[rv,.int .i64 (p.length:Int)]∧p.length≤n∧Pr.decG (tag:Int) prev x.c p (src.drop p.length)=row∧OwnS NoB w W [outR rv p,outR ov out,outR pv prev,pmE b x]) (fun vs _=>n - n1 vs) ⟨[],nilS,rfl,by simp,hrow,ho⟩ ?_;clear ho hrow;rintro vs w7 ⟨p,rv,rfl,hp,hrow,ho⟩ _;simp only[S_foliantref15_Decode_3,gd,rs,iN,dx];by_cases hlt:(p.length:Int) < (n:Int)
   ·simp only[hlt,decide_true,i_t];have hp':p.length < src.length:=by omega
    have hd2:src.drop p.length=src[p.length]::src.drop (p.length+1):=List.drop_eq_getElem_cons hp';rw[hd2,Pr.decG] at hrow;refine quietC (fun W=>OwnS NoB w W [outR rv p,outR ov out,outR pv prev,pmE b x]) ho.drew ?_;refine q_add ?_;rw[wrap64_id (by omega) (by omega)];refine q_add ?_;rw[wrap64_id (by omega) (by omega)];refine q_ix (c:=src[p.length]) Tryz.underlying9 (by omega) (by rw[show ((k:Int)+(hd:Int)+(p.length:Int)).toNat=k+hd+p.length by omega,hgs _ (by omega)];exact List.getElem?_eq_getElem hp') ?_;refine q_do _ (fun _=>run_fa fo_pm1) (q_at _ (fun W h=>run_pm1 (h.at_ 3 rfl)) ?_);refine q_call (.int .u8 ((Pr.off (tag:Int) prev p (p.length:Int) x.c).toNat:Int)) (fun W h=>(roff15_ret (tag:Int) prev p pv rv (p.length:Int) x.c W (by omega) hc (out_sl (h.at_ 2 rfl)) (out_sl (h.at_ 0 rfl))).mono fun v w' ⟨k1,k2⟩=>⟨k1,k2▸h⟩) ?_;refine q_add ?_;rw[u8_add];intro w8 ho;refine o_u81 _ ho fun b8 w9 ho=>?_;refine o_appendU 1 Tryz.underlying53 elU8 (by decide) ho rfl (sl_one1 (ho.at_ 0 rfl) (by decide) rfl) bytesV_one' (by omega) (by omega) fun v' w10 ho=>?_
    try simp only[rs]
    rw[wrap64_id (by omega) (by omega)];have e1:(p++[src[p.length]+Pr.off (tag:Int) prev p (p.length:Int) x.c]).length=p.length+1:=by simp
    refine nextX ⟨p++[src[p.length]+Pr.off (tag:Int) prev p (p.length:Int) x.c],v',by rw[e1];rfl,by rw[e1];omega,by rw[e1];exact hrow,?_⟩ (by simp[n1,RowKit.intOf];omega);rw[outR_app];exact ho.tail
   ·simp only[hlt,decide_false,i_f];have hpn:p.length=src.length:=by omega
    rw[List.drop_eq_nil_of_le (by omega)] at hrow;have hrow:p=row:=hrow;subst hrow;refine o_appendU 1 Tryz.underlying53 elU8 (by decide) ho rfl (out_sl (ho.at_ 0 rfl)) bytesV_one' (by omega) (by omega) fun v' w10 ho=>?_
    try simp only[rs]
    rw[wrap64_id (n:=(n:Int)+(hd:Int)) (by omega) (by omega),wrap64_id (by omega) (by omega)];have ho:OwnS NoB w w10 [outR rv p,outR v' (out++p),outR pv prev,pmE b x]:=by
     rw[outR_app];exact ho
    refine nextX ⟨k+(n+hd),p,out++p,v',rv,?_,by omega,?_,by rw[List.length_append];omega,by omega,⟨f,by omega,by rw[List.drop_drop] at hX;exact hX⟩,?_⟩ (by simp[n2,RowKit.intOf];omega)
    ·congr 3
    ·rw[Nat.mod_eq_sub_mod hge] at htm;rw[show s.length - (k+(n+hd))=s.length - k - (n+hd) by omega];exact htm
    ·exact (OwnS.swap ho).sub (.cons_cons _ (.cons_cons _ (.cons _ (List.Sublist.refl _))))
  try simp only[rs]
  by_cases hd1:hd=1
  ·simp only[show decide ((hd:Int)=1)=true from decide_eq_true (by omega),i_t];rw[s_ix (c:=s.getD k 0) Tryz.underlying9 (by omega) (by rw[Int.toNat_natCast];exact get0 (by omega)),u8ix];exact next _ (by rw[if_pos hd1])
  ·simp only[show decide ((hd:Int)=1)=false from decide_eq_false (by omega),i_f];exact next 1 (by rw[if_neg hd1])
 have hkn:=h.1;have hh:x.head=if 10≤x.p then 1 else 0:=rfl
 unfold Pm.known at hkn;by_cases h10:2 < x.p
 ·simp only[h10,decide_true,i_t];rw[if_pos (by omega)] at hh;rw[hh] at main;exact main
 ·simp only[h10,decide_false,i_f];rw[if_neg (by omega)] at hh;rw[hh] at main;exact main
end
section
open Eng
def S_ascii_need(t0 t1 w)(K:KT):=
 dx (mUn .not t0) w K fun t5 w=>IfX t5 (dx (mBuild 234 #[(0,t1)]) w K fun t7 w=>dx (mIface 234 t7) w K fun t8 w=>dx (mPanic t8) w K fun _ w=>K (.returned (.tuple #[])) w) (K (.returned (.tuple #[])) w)
theorem S_ascii_need_ok{t0 t1 w K}(h:S_ascii_need t0 t1 w K):Calls prog 179 #[t0,t1] w K:=cw Tryz.func179 rfl rfl (by kernel_rfl) h
def S_ascii_sink_put(t0 t1 w)(K:KT):=
 QuietX w (fun C1=>QDo prog C1 (mNil t0) fun t5=>QDo prog C1 (mFA 236 t5 0) fun t6=>QDo prog C1 (mLoad 53 t6) fun t7=>QDo prog C1 (mB .len #[53] 3 #[false] #[t7]) fun t8=>QDo prog C1 (mB .len #[53] 3 #[false] #[t1]) fun t10=>QDo prog C1 (mBin .add 3 t8 t10) fun t11=>QDo prog C1 (mNil t0) fun t13=>QDo prog C1 (mFA 236 t13 1) fun t14=>QDo prog C1 (mLoad 3 t14) fun t15=>QDo prog C1 (mBin .leq 3 t11 t15) fun t16=>
 ∀w,C1 w →
 cx 179 #[t16,(iN 5)] w K fun t17 w=>dx (mNil t0) w K fun t20 w=>dx (mFA 236 t20 0) w K fun t21 w=>dx (mLoad 53 t21) w K fun t22 w=>dx (mB .append #[53,53] 53 #[false,false] #[t22,t1]) w K fun t24 w=>dx (mNil t0) w K fun t25 w=>dx (mFA 236 t25 0) w K fun t26 w=>dx (mStore 53 t26 t24) w K fun _ w=>K (.returned (.tuple #[])) w)
theorem S_ascii_sink_put_ok{t0 t1 w K}(h:S_ascii_sink_put t0 t1 w K):Calls prog 178 #[t0,t1] w K:=cw Tryz.func178 rfl rfl (by kernel_rfl) h
def S_ascii_Hex(t0 w)(K:KT):=
 cx 172 #[t0] w K fun t4 w=>dx (mBin .add 9 t4 (.string ⟨#[62]⟩)) w K fun t5 w=>K (.returned t5) w
theorem S_ascii_Hex_ok{t0 w K}(h:S_ascii_Hex t0 w K):Calls prog 114 #[t0] w K:=cw Tryz.func114 rfl rfl (by kernel_rfl) h
def S_ascii_alike_0(t0 t3 w)(N1:JT)(K:KT):=
 QuietX w (fun C2=>QDo prog C2 (mB .len #[9] 3 #[false] #[t0]) fun t6=>QDo prog C2 (mB .min #[3,3] 3 #[false,true] #[t6,(iN 128)]) fun t7=>QDo prog C2 (mBin .lss 3 t3 t7) fun t8=>GQ t8 true (fun E=>E t0) fun t10=>GQ t8 true (fun E=>E t3) fun t11=>GQ t8 true (fun E=>QDo prog C2 (mIx 9 t10 t11) E) fun t12=>GQ t8 true (fun E=>E t0) fun t13=>GQ t8 true (fun E=>QDo prog C2 (mIx 9 t13 (iN 0)) E) fun t14=>GQ t8 true (fun E=>QDo prog C2 (mEq .eql 5 (.tmp 12) (.tmp 14) t12 t14) E) fun t15=>QDo prog C2 (mPick t8 t15 (.bool false)) fun t16=>
 ∀w,C2 w →
 IfX t16 (dx (mBin .add 3 t3 (iN 1)) w K fun t18 w=>N1 [t18] w) (K (.returned t3) w))
def S_ascii_alike(t0 w)(K:KT):=
 LoopX [(iN 0)] w (fun vs1 w N1=>∀_:Sg,S_ascii_alike_0 t0 (vs1.getD 0 undef) w N1 K)
theorem S_ascii_alike_eq (t0:Value)(w:World)(K:Ending→World→Prop):wpX prog 20 [] [(2,[3])] none (bodyOf Tryz.f186) (topQ prog [.tmp 2] K) (startX [t0]) [] w=S_ascii_alike t0 w K:=by kernel_rfl
theorem S_ascii_alike_ok {t0:Value}{w:World}{K:Ending→World→Prop}(h:S_ascii_alike t0 w K):Calls prog 186 #[t0] w K:=
 calls_of_wpX Tryz.func186 rfl rfl rfl rfl (Eq.mpr (S_ascii_alike_eq t0 w K) h)
def S_ascii_Run_1(t0 t3 t5 w)(N1 N2:JT)(K:KT):=
 dx (mB .len #[9] 3 #[false] #[t0]) w K fun t26 w=>dx (mB .min #[3,3] 3 #[false,true] #[t26,(iN 128)]) w K fun t27 w=>dx (mBin .lss 3 t5 t27) w K fun t28 w=>etx t28 t0 w fun t30 w=>etx t28 t5 w fun t31 w=>gtx t28 (mSlice 9 t30 (some t31) none none) w K fun t32 w=>ctx t28 186 #[t32] w K fun t33 w=>gtx t28 (mBin .lss 3 t33 (iN 3)) w K fun t34 w=>dx (mPick t28 t34 (.bool false)) w K fun t35 w=>IfX t35 (dx (mBin .add 3 t5 (iN 1)) w K fun t37 w=>N2 [t37] w) (dx (mBin .sub 3 t5 (iN 1)) w K fun t39 w=>dx (mConv 3 5 t39) w K fun t40 w=>cx 181 #[t3,t40] w K fun t41 w=>dx (mSlice 9 t0 none (some t5) none) w K fun t44 w=>cx 187 #[t3,t44] w K fun t45 w=>dx (mSlice 9 t0 (some t5) none none) w K fun t48 w=>N1 [t48] w)
def S_ascii_Run_0(t0 t3 w)(N1:JT)(K:KT):=
 dx (mEq .neq 9 (.tmp 6) (.const (.string ⟨#[]⟩)) t0 (.string ⟨#[]⟩)) w K fun t7 w=>IfX t7 (cx 186 #[t0] w K fun t9 w=>dx (mBin .geq 3 t9 (iN 3)) w K fun t11 w=>IfX t11 (dx (mB .min #[3,3] 3 #[false,true] #[t9,(iN 128)]) w K fun t13 w=>dx (mBin .sub 3 (iN 257) t13) w K fun t15 w=>dx (mConv 3 5 t15) w K fun t16 w=>cx 181 #[t3,t16] w K fun t17 w=>dx (mIx 9 t0 (iN 0)) w K fun t19 w=>cx 181 #[t3,t19] w K fun t20 w=>dx (mSlice 9 t0 (some t13) none none) w K fun t23 w=>N1 [t23] w) (LoopX [(iN 1)] w (fun vs2 w N2=>∀_:Sg,S_ascii_Run_1 t0 t3 (vs2.getD 0 undef) w N1 N2 K))) (cx 181 #[t3,(.int .u8 128)] w K fun t49 w=>cx 182 #[t3] w K fun t50 w=>K (.returned t50) w)
def S_ascii_Run(t0 w)(K:KT):=
 dx (mAlloc 188) w K fun t3 w=>LoopX [t0] w (fun vs1 w N1=>∀_:Sg,S_ascii_Run_0 (vs1.getD 0 undef) t3 w N1 K)
theorem S_ascii_Run_eq (t0:Value)(w:World)(K:Ending→World→Prop):wpX prog 51 [] [(2,[0]),(10,[5])] none (bodyOf Tryz.f119) (topQ prog [.tmp 2] K) (startX [t0]) [] w=S_ascii_Run t0 w K:=by kernel_rfl
theorem S_ascii_Run_ok {t0:Value}{w:World}{K:Ending→World→Prop}(h:S_ascii_Run t0 w K):Calls prog 119 #[t0] w K:=
 calls_of_wpX Tryz.func119 rfl rfl rfl rfl (Eq.mpr (S_ascii_Run_eq t0 w K) h)
def S_ascii_group_put_1(t0 t1 t5 t22 t23 w)(N2:JT)(K:KT):=
 dx (mBin .lss 3 t23 (iN 5)) w K fun t24 w=>IfX t24 (dx (mIx 197 t22 t23) w K fun t26 w=>dx (mNil t0) w K fun t30 w=>dx (mFA 201 t30 0) w K fun t31 w=>dx (mIA 199 t31 t23) w K fun t32 w=>dx (mLoad 5 t32) w K fun t33 w=>dx (mConv 5 147 t33) w K fun t34 w=>dx (mBin .mul 147 t34 t26) w K fun t36 w=>dx (mBin .add 147 t5 t36) w K fun t37 w=>dx (mBin .add 3 t23 (iN 1)) w K fun t38 w=>N2 [t37,t38] w) (dx (mBin .lss 147 t5 (.int .u64 4294967296)) w K fun t40 w=>cx 179 #[t40,(iN 3)] w K fun t41 w=>dx (mBin .shr 147 t5 (.int .u64 24)) w K fun t43 w=>dx (mConv 147 5 t43) w K fun t44 w=>dx (mBin .shr 147 t5 (.int .u64 16)) w K fun t46 w=>dx (mConv 147 5 t46) w K fun t47 w=>dx (mBin .shr 147 t5 (.int .u64 8)) w K fun t49 w=>dx (mConv 147 5 t49) w K fun t50 w=>dx (mConv 147 5 t5) w K fun t52 w=>dx (mBuild 192 #[(0,t44),(1,t47),(2,t50),(3,t52)]) w K fun t53 w=>dx (mAlloc 192) w K fun t8 w=>dx (mStore 192 t8 t53) w K fun _ w=>dx (mNil t0) w K fun t56 w=>dx (mFA 201 t56 1) w K fun t57 w=>dx (mLoad 3 t57) w K fun t58 w=>dx (mBin .sub 3 t58 (iN 1)) w K fun t59 w=>dx (mSlice 192 t8 none (some t59) none) w K fun t60 w=>cx 178 #[t1,t60] w K fun t61 w=>dx (mBuild 201 #[]) w K fun t63 w=>dx (mNil t0) w K fun t64 w=>dx (mStore 201 t64 t63) w K fun _ w=>K (.returned (.tuple #[])) w)
def S_ascii_group_put_0(t0 t1 t4 w)(N1:JT)(K:KT):=
 dx (mBin .lss 3 t4 (iN 5)) w K fun t14 w=>IfX t14 (dx (mNil t0) w K fun t19 w=>dx (mFA 201 t19 0) w K fun t20 w=>dx (mIA 199 t20 t4) w K fun t21 w=>dx (mStore 5 t21 (.int .u8 84)) w K fun _ w=>dx (mBin .add 3 t4 (iN 1)) w K fun t16 w=>N1 [t16] w) (dx (mLoad 197 (.pointer (some ⟨0,0,none⟩))) w K fun t22 w=>LoopX [(.int .u64 0),(iN 0)] w (fun vs2 w N2=>∀_:Sg,S_ascii_group_put_1 t0 t1 (vs2.getD 0 undef) t22 (vs2.getD 1 undef) w N2 K))
def S_ascii_group_put(t0 t1 w)(K:KT):=
 dx (mNil t0) w K fun t10 w=>dx (mFA 201 t10 1) w K fun t11 w=>dx (mLoad 3 t11) w K fun t12 w=>LoopX [t12] w (fun vs1 w N1=>∀_:Sg,S_ascii_group_put_0 t0 t1 (vs1.getD 0 undef) w N1 K)
theorem S_ascii_group_put_eq (t0 t1:Value)(w:World)(K:Ending→World→Prop):wpX prog 65 [] [(1,[4]),(6,[5,23])] none (bodyOf Tryz.f184) (topQ prog [] K) (startX [t0,t1]) [] w=S_ascii_group_put t0 t1 w K:=by kernel_rfl
theorem S_ascii_group_put_ok {t0 t1:Value}{w:World}{K:Ending→World→Prop}(h:S_ascii_group_put t0 t1 w K):Calls prog 184 #[t0,t1] w K:=
 calls_of_wpX Tryz.func184 rfl rfl rfl rfl (Eq.mpr (S_ascii_group_put_eq t0 t1 w K) h)
def S_ascii_end(t0 t1 t2 w)(K:KT):=
 dx (mEq .neq 9 (.tmp 6) (.const (.string ⟨#[]⟩)) t0 (.string ⟨#[]⟩)) w K fun t7 w=>cx 179 #[t7,(iN 4)] w K fun t8 w=>dx (mIx 9 t0 (iN 0)) w K fun t10 w=>dx (mEq .eql 5 (.tmp 10) (.const (.int .u8 62)) t10 (.int .u8 62)) w K fun t11 w=>etx t11 t1 w fun t13 w=>gtx t11 (mNil t13) w K fun t14 w=>gtx t11 (mFA 201 t14 1) w K fun t15 w=>gtx t11 (mLoad 3 t15) w K fun t16 w=>gtx t11 (mEq .neq 3 (.tmp 16) (.const (iN 1)) t16 (iN 1)) w K fun t17 w=>dx (mPick t11 t17 (.bool false)) w K fun t18 w=>cx 179 #[t18,(iN 3)] w K fun t19 w=>dx (mNil t1) w K fun t21 w=>dx (mFA 201 t21 1) w K fun t22 w=>dx (mLoad 3 t22) w K fun t23 w=>dx (mBin .gtr 3 t23 (iN 0)) w K fun t24 w=>IfX t24 (cx 184 #[t1,t2] w K fun t27 w=>K (.returned (.tuple #[])) w) (K (.returned (.tuple #[])) w)
theorem S_ascii_end_ok{t0 t1 t2 w K}(h:S_ascii_end t0 t1 t2 w K):Calls prog 185 #[t0,t1,t2] w K:=cw Tryz.func185 rfl rfl (by kernel_rfl) h
end
section
open Eng
def S_ascii_unpacked_p0 (x0:Deferred)(x1:Value)(x2:Value)(K:Ending→World→Prop):=pd prog [.cell x1 9,.cell x2 30] K [x0]
def S_ascii_unpacked(t0 t1 t2 w)(K:KT):=
 dx (mAlloc 9) w K fun t6 w=>dx (mAlloc 30) w K fun t7 w=>dx (mFunc (.func 223) #[] #[t6,t7]) w K fun t9 w=>DfrX (dfrV t9 #[]) (fun d1=>DoX prog (mBin .geq 3 t1 (iN 0)) w (S_ascii_unpacked_p0 d1 t6 t7 K) fun t11 w=>CallX prog 179 #[t11,(iN 1)] w (S_ascii_unpacked_p0 d1 t6 t7 K) fun t12 w=>DoX prog (mB .min #[3,3] 3 #[false,true] #[t1,(iN 1048576)]) w (S_ascii_unpacked_p0 d1 t6 t7 K) fun t14 w=>DoX prog (mBuild 236 #[(1,t14)]) w (S_ascii_unpacked_p0 d1 t6 t7 K) fun t15 w=>DoX prog (mBox 236 t15) w (S_ascii_unpacked_p0 d1 t6 t7 K) fun t16 w=>DoX prog (mCallV t2 #[t0,t16]) w (S_ascii_unpacked_p0 d1 t6 t7 K) fun t20 w=>DoX prog (mNil t16) w (S_ascii_unpacked_p0 d1 t6 t7 K) fun t22 w=>DoX prog (mFA 236 t22 0) w (S_ascii_unpacked_p0 d1 t6 t7 K) fun t23 w=>DoX prog (mLoad 53 t23) w (S_ascii_unpacked_p0 d1 t6 t7 K) fun t24 w=>DoX prog (mConv 53 9 t24) w (S_ascii_unpacked_p0 d1 t6 t7 K) fun t25 w=>DoX prog (mStore 9 t6 t25) w (S_ascii_unpacked_p0 d1 t6 t7 K) fun _ w=>DoX prog (mStore 30 t7 (iN 0)) w (S_ascii_unpacked_p0 d1 t6 t7 K) fun _ w=>Leave prog [.cell t6 9,.cell t7 30] K [d1] .returning w)
theorem S_ascii_unpacked_ok{t0 t1 t2 w K}(h:S_ascii_unpacked t0 t1 t2 w K):Calls prog 174 #[t0,t1,t2] w K:=cw Tryz.func174 rfl rfl (by kernel_rfl) h
def S_ascii_Unhex(t0 t1 w)(K:KT):=
 cx 174 #[t0,t1,(.func (.func 175) #[] #[])] w K fun t8 w=>dx (mExt t8 0) w K fun t9 w=>dx (mExt t8 1) w K fun t10 w=>K (.returned (.tuple #[t9,t10])) w
theorem S_ascii_Unhex_ok{t0 t1 w K}(h:S_ascii_Unhex t0 t1 w K):Calls prog 116 #[t0,t1] w K:=cw Tryz.func116 rfl rfl (by kernel_rfl) h
def S_ascii_Unfive(t0 t1 w)(K:KT):=
 cx 174 #[t0,t1,(.func (.func 183) #[] #[])] w K fun t8 w=>dx (mExt t8 0) w K fun t9 w=>dx (mExt t8 1) w K fun t10 w=>K (.returned (.tuple #[t9,t10])) w
theorem S_ascii_Unfive_ok{t0 t1 w K}(h:S_ascii_Unfive t0 t1 w K):Calls prog 118 #[t0,t1] w K:=cw Tryz.func118 rfl rfl (by kernel_rfl) h
def S_ascii_Unrun(t0 t1 w)(K:KT):=
 cx 174 #[t0,t1,(.func (.func 188) #[] #[])] w K fun t8 w=>dx (mExt t8 0) w K fun t9 w=>dx (mExt t8 1) w K fun t10 w=>K (.returned (.tuple #[t9,t10])) w
theorem S_ascii_Unrun_ok{t0 t1 w K}(h:S_ascii_Unrun t0 t1 w K):Calls prog 120 #[t0,t1] w K:=cw Tryz.func120 rfl rfl (by kernel_rfl) h
def S_ascii_Unhex_1_2(t4 t10 w)(N1:JT)(K:KT):=
 dx (mBin .add 3 t10 (iN 1)) w K fun t48 w=>N1 [t4,t48] w
def S_ascii_Unhex_1_1(w)(K:KT):=
 K (.returned (.tuple #[])) w
def S_ascii_Unhex_1_0(t0 t1 t4 t9 t10 w)(N1:JT)(K:KT):=
 dx (mBin .lss 3 t10 t9) w K fun t11 w=>IfX t11 (JoinX (fun J2=>dx (mIx 9 t0 t10) w K fun t15 w=>cx 176 #[t15] w K fun t17 w=>cx 177 #[t15] w K fun t28 w=>IfX t28 (J2 [t4] w) (dx (mEq .eql 5 (.tmp 30) (.const (.int .u8 62)) t15 (.int .u8 62)) w K fun t31 w=>IfX t31 (JoinX (fun J3=>dx (mBin .geq 3 t4 (iN 0)) w K fun t33 w=>IfX t33 (dx (mBin .mul 3 (iN 16) t4) w K fun t36 w=>dx (mConv 3 5 t36) w K fun t37 w=>dx (mBuildS 53 1 #[(0,t37)]) w K fun t38 w=>cx 178 #[t1,t38] w K fun t39 w=>J3 [] w) (J3 [] w)) (fun vs3 w=>∀_:Sg,S_ascii_Unhex_1_1 w K)) (dx (mBin .lss 3 t17 (iN 0)) w K fun t42 w=>IfX t42 (cx 179 #[(.bool false),(iN 3)] w K fun t43 w=>J2 [t4] w) (dx (mBin .lss 3 t4 (iN 0)) w K fun t46 w=>IfX t46 (J2 [t17] w) (dx (mBin .mul 3 (iN 16) t4) w K fun t20 w=>dx (mBin .add 3 t20 t17) w K fun t22 w=>dx (mConv 3 5 t22) w K fun t23 w=>dx (mBuildS 53 1 #[(0,t23)]) w K fun t24 w=>cx 178 #[t1,t24] w K fun t25 w=>J2 [(iN (-1))] w))))) (fun vs2 w=>∀_:Sg,S_ascii_Unhex_1_2 (vs2.getD 0 undef) t10 w N1 K)) (cx 179 #[(.bool false),(iN 4)] w K fun t49 w=>K (.returned (.tuple #[])) w)
def S_ascii_Unhex_1(t0 t1 w)(K:KT):=
 dx (mB .len #[9] 3 #[false] #[t0]) w K fun t9 w=>LoopX [(iN (-1)),(iN 0)] w (fun vs1 w N1=>∀_:Sg,S_ascii_Unhex_1_0 t0 t1 (vs1.getD 0 undef) t9 (vs1.getD 1 undef) w N1 K)
theorem S_ascii_Unhex_1_eq (t0 t1:Value)(w:World)(K:Ending→World→Prop):wpX prog 50 [(16,[4]),(999999,[])] [(2,[4,10])] none (bodyOf Tryz.f175) (topQ prog [] K) (startX [t0,t1]) [] w=S_ascii_Unhex_1 t0 t1 w K:=by kernel_rfl
theorem S_ascii_Unhex_1_ok {t0 t1:Value}{w:World}{K:Ending→World→Prop}(h:S_ascii_Unhex_1 t0 t1 w K):Calls prog 175 #[t0,t1] w K:=
 calls_of_wpX Tryz.func175 rfl rfl rfl rfl (Eq.mpr (S_ascii_Unhex_1_eq t0 t1 w K) h)
def S_ascii_Unfive_1_1(t9 w)(N1:JT)(K:KT):=
 dx (mBin .add 3 t9 (iN 1)) w K fun t61 w=>N1 [t61] w
def S_ascii_Unfive_1_0(t0 t1 t4 t8 t9 w)(N1:JT)(K:KT):=
 dx (mBin .lss 3 t9 t8) w K fun t10 w=>IfX t10 (JoinX (fun J2=>dx (mIx 9 t0 t9) w K fun t14 w=>cx 177 #[t14] w K fun t18 w=>IfX t18 (J2 [] w) (dx (mEq .eql 5 (.tmp 20) (.const (.int .u8 122)) t14 (.int .u8 122)) w K fun t21 w=>gtx t21 (mFA 201 t4 1) w K fun t23 w=>gtx t21 (mLoad 3 t23) w K fun t24 w=>gtx t21 (mEq .eql 3 (.tmp 24) (.const (iN 0)) t24 (iN 0)) w K fun t25 w=>dx (mPick t21 t25 (.bool false)) w K fun t26 w=>IfX t26 (dx (mBuildS 53 4 #[(0,(.int .u8 0)),(1,(.int .u8 0)),(2,(.int .u8 0)),(3,(.int .u8 0))]) w K fun t28 w=>cx 178 #[t1,t28] w K fun t29 w=>J2 [] w) (dx (mBin .geq 5 t14 (.int .u8 33)) w K fun t32 w=>etx t32 t14 w fun t34 w=>gtx t32 (mBin .leq 5 t34 (.int .u8 117)) w K fun t35 w=>dx (mPick t32 t35 (.bool false)) w K fun t36 w=>IfX t36 (dx (mFA 201 t4 1) w K fun t37 w=>dx (mLoad 3 t37) w K fun t38 w=>dx (mBin .sub 5 t14 (.int .u8 33)) w K fun t40 w=>dx (mFA 201 t4 0) w K fun t41 w=>dx (mIA 199 t41 t38) w K fun t42 w=>dx (mStore 5 t42 t40) w K fun _ w=>dx (mFA 201 t4 1) w K fun t43 w=>dx (mLoad 3 t43) w K fun t44 w=>dx (mBin .add 3 t44 (iN 1)) w K fun t45 w=>dx (mFA 201 t4 1) w K fun t46 w=>dx (mStore 3 t46 t45) w K fun _ w=>dx (mFA 201 t4 1) w K fun t47 w=>dx (mLoad 3 t47) w K fun t48 w=>dx (mEq .eql 3 (.tmp 48) (.const (iN 5)) t48 (iN 5)) w K fun t49 w=>IfX t49 (cx 184 #[t4,t1] w K fun t51 w=>J2 [] w) (J2 [] w)) (dx (mEq .eql 5 (.tmp 53) (.const (.int .u8 126)) t14 (.int .u8 126)) w K fun t54 w=>IfX t54 (dx (mBin .add 3 t9 (iN 1)) w K fun t57 w=>dx (mSlice 9 t0 (some t57) none none) w K fun t58 w=>cx 185 #[t58,t4,t1] w K fun t60 w=>K (.returned (.tuple #[])) w) (cx 179 #[(.bool false),(iN 3)] w K fun t15 w=>J2 [] w))))) (fun vs2 w=>∀_:Sg,S_ascii_Unfive_1_1 t9 w N1 K)) (cx 179 #[(.bool false),(iN 4)] w K fun t62 w=>K (.returned (.tuple #[])) w)
def S_ascii_Unfive_1(t0 t1 w)(K:KT):=
 dx (mAlloc 201) w K fun t4 w=>dx (mB .len #[9] 3 #[false] #[t0]) w K fun t8 w=>LoopX [(iN 0)] w (fun vs1 w N1=>∀_:Sg,S_ascii_Unfive_1_0 t0 t1 t4 t8 (vs1.getD 0 undef) w N1 K)
theorem S_ascii_Unfive_1_eq (t0 t1:Value)(w:World)(K:Ending→World→Prop):wpX prog 63 [(16,[])] [(2,[9])] none (bodyOf Tryz.f183) (topQ prog [] K) (startX [t0,t1]) [] w=S_ascii_Unfive_1 t0 t1 w K:=by kernel_rfl
theorem S_ascii_Unfive_1_ok {t0 t1:Value}{w:World}{K:Ending→World→Prop}(h:S_ascii_Unfive_1 t0 t1 w K):Calls prog 183 #[t0,t1] w K:=
 calls_of_wpX Tryz.func183 rfl rfl rfl rfl (Eq.mpr (S_ascii_Unfive_1_eq t0 t1 w K) h)
def S_ascii_Unrun_1_0(t0 t1 w)(N1:JT)(K:KT):=
 dx (mEq .neq 9 (.tmp 5) (.const (.string ⟨#[]⟩)) t0 (.string ⟨#[]⟩)) w K fun t6 w=>cx 179 #[t6,(iN 4)] w K fun t7 w=>dx (mIx 9 t0 (iN 0)) w K fun t9 w=>dx (mConv 5 3 t9) w K fun t10 w=>dx (mSlice 9 t0 (some (iN 1)) none none) w K fun t12 w=>dx (mEq .eql 3 (.tmp 27) (.const (iN 128)) t10 (iN 128)) w K fun t28 w=>IfX t28 (K (.returned (.tuple #[])) w) (dx (mBin .lss 3 t10 (iN 128)) w K fun t31 w=>IfX t31 (dx (mB .len #[9] 3 #[false] #[t12]) w K fun t33 w=>dx (mBin .gtr 3 t33 t10) w K fun t35 w=>cx 179 #[t35,(iN 4)] w K fun t36 w=>dx (mBin .add 3 t10 (iN 1)) w K fun t40 w=>dx (mSlice 9 t12 none (some t40) none) w K fun t41 w=>dx (mConv 9 53 t41) w K fun t42 w=>cx 178 #[t1,t42] w K fun t43 w=>dx (mBin .add 3 t10 (iN 1)) w K fun t46 w=>dx (mSlice 9 t12 (some t46) none none) w K fun t47 w=>N1 [t47] w) (dx (mEq .neq 9 (.tmp 13) (.const (.string ⟨#[]⟩)) t12 (.string ⟨#[]⟩)) w K fun t14 w=>cx 179 #[t14,(iN 4)] w K fun t15 w=>dx (mSlice 9 t12 none (some (iN 1)) none) w K fun t18 w=>dx (mBin .sub 3 (iN 257) t10) w K fun t20 w=>cx 189 #[t18,t20] w K fun t21 w=>dx (mConv 9 53 t21) w K fun t22 w=>cx 178 #[t1,t22] w K fun t23 w=>dx (mSlice 9 t12 (some (iN 1)) none none) w K fun t25 w=>N1 [t25] w))
def S_ascii_Unrun_1(t0 t1 w)(K:KT):=
 LoopX [t0] w (fun vs1 w N1=>∀_:Sg,S_ascii_Unrun_1_0 (vs1.getD 0 undef) t1 w N1 K)
theorem S_ascii_Unrun_1_eq (t0 t1:Value)(w:World)(K:Ending→World→Prop):wpX prog 48 [] [(0,[0])] none (bodyOf Tryz.f188) (topQ prog [] K) (startX [t0,t1]) [] w=S_ascii_Unrun_1 t0 t1 w K:=by kernel_rfl
theorem S_ascii_Unrun_1_ok {t0 t1:Value}{w:World}{K:Ending→World→Prop}(h:S_ascii_Unrun_1 t0 t1 w K):Calls prog 188 #[t0,t1] w K:=
 calls_of_wpX Tryz.func188 rfl rfl rfl rfl (Eq.mpr (S_ascii_Unrun_1_eq t0 t1 w K) h)
end
section
open Eng
def S_ascii_unpacked_1_0(w)(K:KT):=
 K (.returned (.tuple #[])) w
def S_ascii_unpacked_1(t0 t1 r w)(K:KT):=
 dx (mEq .eql 20 (.tmp 5) (.const .nilIface) r .nilIface) w K fun t7 w=>IfX t7 (K (.returned (.tuple #[])) w) (dx (mTA r 20 234 true) w K fun t8 w=>dx (mExt t8 1) w K fun t9 w=>dx (mExt t8 0) w K fun t10 w=>IfX t9 (dx (mAlloc 234) w K fun t3 w=>dx (mStore 234 t3 t10) w K fun _ w=>DrawX w (fun w=>(dx (mFA 234 t3 0) w K fun t11 w=>(dx (mLoad 30 t11) w K fun t12 w=>dx (mStore 9 t0 (.string ⟨#[]⟩)) w K fun _ w=>dx (mStore 30 t1 t12) w K fun _ w=>S_ascii_unpacked_1_0 w K)∧(dx (mStore 9 t0 (.string ⟨#[]⟩)) w K fun _ w=>dx (mLoad 30 t11) w K fun t12_1 w=>dx (mStore 30 t1 t12_1) w K fun _ w=>S_ascii_unpacked_1_0 w K))∧(dx (mStore 9 t0 (.string ⟨#[]⟩)) w K fun _ w=>dx (mFA 234 t3 0) w K fun t11_1 w=>dx (mLoad 30 t11_1) w K fun t12_2 w=>dx (mStore 30 t1 t12_2) w K fun _ w=>S_ascii_unpacked_1_0 w K))) (dx (mPanic r) w K fun _ w=>K (.returned (.tuple #[])) w))
theorem S_ascii_unpacked_1_eq (t0 t1 r:Value)(w:World)(K:Ending→World→Prop):wpX prog 13 [] [] none (sndOf (bodyOf Tryz.f223)) (topD prog [] K) (upd (startX [t0,t1]) 5 r) [] w=S_ascii_unpacked_1 t0 t1 r w K:=by kernel_rfl
theorem S_ascii_unpacked_1_dok {t0 t1:Value}{u:FrameMode}{w:World}{R:Ending→FrameMode→World→Prop}(h:S_ascii_unpacked_1 t0 t1 (recV u) w (fun e w=>R e (recM u) w)):CallsD prog 223 #[t0,t1] u w R:=
 callsD_recover Tryz.func223 rfl rfl rfl rfl rfl rfl rfl rfl (Eq.mpr (S_ascii_unpacked_1_eq t0 t1 (recV u) w _) h)
end
section
open Eng Go.RowKit
def Ax.hexG (most:Nat):List UInt8→Int→List UInt8→List UInt8×Int
|[],_,_=>([],4)
|c::r,half,out=>
  if Oc.white c=true then Ax.hexG most r half out
  else if c=62 then (if half < 0 then (out,0) else if most≤out.length then ([],5) else (out++[UInt8.ofNat (16*half.toNat)],0))
  else if Lx.digit c < 0 then ([],3)
  else if half < 0 then Ax.hexG most r (Lx.digit c) out
  else if most≤out.length then ([],5)
  else Ax.hexG most r (-1) (out++[UInt8.ofNat (16*half+Lx.digit c).toNat])
def Ax.within (D:Nat→List UInt8×Int)(most:Int):List UInt8×Int:=if most < 0 then ([],1) else D (min most.toNat 1048576)
def Ax.unhex (s:List UInt8)(most:Int):List UInt8×Int:=Ax.within (fun m=>Ax.hexG m s (-1) []) most
def skC (ov:Value)(most:Nat):List Value:=[ov,.int .i64 (most:Int)]
abbrev skE (b:Nat)(ov:Value)(most:Nat):Ent:=.cells b (skC ov most) 236
abbrev Sk (b:Nat)(most:Nat)(ov:Value)(out:List UInt8)(T:List Ent):List Ent:=skE b ov most::outR ov out::T
theorem fo_sk0:fOff prog 236 0=some 0:=by kernel_rfl
theorem fo_sk1:fOff prog 236 1=some 1:=by kernel_rfl
theorem nfUpA:notIface prog 234=true:=by kernel_rfl
theorem fo_upA:fOff prog 234 0=some 0:=by kernel_rfl
theorem szUpA:(Tryz.prog.info? 234).map (·.size)=some 1:=by kernel_rfl
theorem unp_plain:plainB prog 223=true:=by kernel_rfl
def upA (e:Int):PanicEntry:={ v:=.iface 234 (.agg #[.int .i64 e]),recovered:=false }
theorem aneed_t (e:Int)(w:World):Ret prog 179 #[.bool true,.int .i64 e] w (fun v w'=>v=.tuple #[]∧w=w'):=by
 refine ret_of fun K hK=>S_ascii_need_ok ?_;unfold S_ascii_need dx;simp only[rs,Bool.not_true,i_f];exact hK _ _ ⟨rfl,rfl⟩
theorem aneed_f (e:Int)(w:World):Pan prog 179 #[.bool false,.int .i64 e] w (fun c w'=>c=[upA e]∧w=w'):=by
 refine pan_of fun K hK=>S_ascii_need_ok ?_;unfold S_ascii_need dx;simp only[rs,Bool.not_false,i_t];have hb:∀{PK:PKT} {K:VWP},DoX prog (mBuild 234 #[(0,.int .i64 e)]) w PK K=K (.agg #[.int .i64 e]) w:=do_eq (by kernel_rfl);rw[hb,m_iface nfUpA,m_panic];exact hK _ _ ⟨rfl,rfl⟩
section
variable {w:World}{PK:PKT}{K:VWP}{S:Nat→Prop}{w0:World}{L T:List Ent}
theorem c_aneed {q:Bool}{e:Int}(kt:q=true→K (.tuple #[]) w)(kf:q=false→PK [upA e] w):CallX prog 179 #[.bool q,.int .i64 e] w PK K:=by
 cases q with
|true=>exact c_eq (aneed_t e w) (kt rfl)
|false=>exact c_pan (aneed_f e w) fun c w' ⟨hc,hw⟩=>by subst hc;subst hw;exact kf rfl
theorem run_sk0 {W:World}{b:Nat}{ov:Value}{most:Nat}(h:(skE b ov most).is W):(mLoad 53 (.pointer (some ⟨b,0+0,none⟩))).run prog W=.ok (.value ov) W:=run_load_cell nSlU8 (cells_cell (T:=236) (cs:=skC ov most) h rfl)
theorem run_sk1 {W:World}{b:Nat}{ov:Value}{most:Nat}(h:(skE b ov most).is W):(mLoad 3 (.pointer (some ⟨b,0+1,none⟩))).run prog W=.ok (.value (.int .i64 (most:Int))) W:=run_load_cell nInt5 (cells_cell (T:=236) (cs:=skC ov most) h rfl)
theorem run_sllen {W:World}{v:Value}{l:List UInt8}(h:Sl W v 1 l.length (bytesV l)):(mB .len #[53] 3 #[false] #[v]).run prog W=.ok (.value (.int .i64 (l.length:Int))) W:=by
 obtain⟨_,a,cap,rfl,_⟩:=h;simp[mB,builtin,Builtin.len_,run_underlying Tryz.underlying53,goInt]
theorem c_aput {b most:Nat}{ov v2:Value}{out l:List UInt8}{e:Ent}(ho:OwnS S w0 w (e::Sk b most ov out T))(hb:BRd e v2 l)(hm:most≤1048576)(hol:out.length≤most)(hl:l.length≤1000000000)
  (kt:out.length+l.length≤most→∀ov' W,OwnS S w0 W (Sk b most ov' (out++l) T)→K (.tuple #[]) W)
  (kf:most < out.length+l.length→∀W,OwnS S w0 W (Sk b most ov out T)→PK [upA 5] W):CallX prog 178 #[.pointer (some ⟨b,0,none⟩),v2] w PK K:=by
 refine⟨S_ascii_sink_put_ok ?_⟩;unfold S_ascii_sink_put iN dx cx;refine quietC (fun W=>OwnS S w0 W (e::Sk b most ov out T)) ho.drew ?_;refine q_do _ (fun _=>run_nil) (q_do _ (fun _=>run_fa fo_sk0) (q_at _ (fun W h=>run_sk0 (h.at_ 1 rfl)) ?_));refine q_at _ (fun W h=>run_sllen (out_sl (h.at_ 2 rfl))) ?_;refine q_at _ (fun W h=>run_sllen (hb W (h.at_ 0 rfl))) (q_add ?_);rw[wrap64_id (by omega) (by omega)];refine q_do _ (fun _=>run_nil) (q_do _ (fun _=>run_fa fo_sk1) (q_at _ (fun W h=>run_sk1 (h.at_ 1 rfl)) (q_leq ?_)));intro w1 ho;refine c_aneed (fun h=>?_) (fun h=>kf (by have:=of_decide_eq_false h;omega) w1 ho.tail);have hle:=of_decide_eq_true h;rw[m_nilP,f_addr fo_sk0,l_cell nSlU8 (ho.cell 1 rfl 0 rfl)];refine o_appendU 2 Tryz.underlying53 elU8 (by decide) ho rfl (hb _ (ho.at_ 0 rfl)) bytesV_one' (by omega) (by omega) fun v' w2 ho=>?_;rw[m_nilP,f_addr fo_sk0];have hv':v'.oneCell'=true:=sl_one16 (Sl.urow (ho.at_ 2 rfl));refine o_store 1 ho rfl (by kernel_rfl) hv' (by show 0+0 < 2;omega) fun w3 ho=>?_;refine kt (by omega) v' w3 ?_;unfold Sk;rw[outR_app];exact ho.tail
end
theorem unpacked_ret (f:Nat)(hp:plainB prog f=true)(s:List UInt8)(most:Int)(D:Nat→List UInt8×Int)(M:Mem)(w:World)(hM:M.has w)
  (hF:∀{S:Nat→Prop} {w0 w:World} {T:List Ent} {PK:PKT} {K:VWP} (b mo:Nat),mo≤1048576→OwnS S w0 w (Sk b mo nilS [] (.mem M::T)) →
   (∀ov' out W,D mo=(out,0)→out.length≤mo→OwnS S w0 W (Sk b mo ov' out (.mem M::T))→K (.tuple #[]) W)→(∀e ov' out W,D mo=([],e)→OwnS S w0 W (Sk b mo ov' out (.mem M::T))→PK [upA e] W) →
   CallX prog f #[.string ⟨s.toArray⟩,.pointer (some ⟨b,0,none⟩)] w PK K) :
  RetM prog 174 #[.string ⟨s.toArray⟩,.int .i64 most,.func (.func f) #[] #[]] M w (fun v _=>v=zlT (Ax.within D most)∧(Ax.within D most).1.length≤1048576):=by
 refine retM_of hM fun K hK=>S_ascii_unpacked_ok ?_;generalize hX:Ax.within D most=X at hK;unfold Ax.within at hX;unfold S_ascii_unpacked iN dx;refine o_new (fun b=>.pointer (some ⟨b,0,none⟩)) [.string ⟨#[]⟩] 9 (fun _=>by kernel_rfl) (OwnS.memS hM) fun b4 w1 ho=>?_;refine o_new (fun b=>.pointer (some ⟨b,0,none⟩)) [.int .i64 0] 30 (fun _=>by kernel_rfl) ho fun b6 w3 ho=>?_;have ho:OwnS M.A w w3 ([erE16 b6 0,stE16 b4 []]++([.mem M]++[])):=ho;have ho:=ho.front;rw[m_func];refine⟨_,rfl,?_⟩;have fail:∀{W:World} {L:List Ent} {e:Int},OwnS M.A w W (L++([.mem M,erE16 b6 0,stE16 b4 []]++[]))→X=([],e) →
   S_ascii_unpacked_p0 { target:=.fn (.func 223) #[.pointer (some ⟨b4,0,none⟩),.pointer (some ⟨b6,0,none⟩)],args:=#[]++#[] } (.pointer (some ⟨b4,0,none⟩)) (.pointer (some ⟨b6,0,none⟩)) K [upA e] W:=by
  intro W L e ho hx;have ho:=ho.front;have ho:OwnS M.A w W (.mem M::erE16 b6 0::stE16 b4 []::(L++[])):=ho;show pd prog _ K _ [upA e] W;unfold pd;refine leave_fn (by simp) unp_plain (S_ascii_unpacked_1_dok (t0:=.pointer (some ⟨b4,0,none⟩)) (t1:=.pointer (some ⟨b6,0,none⟩)) ?_);simp only[S_ascii_unpacked_1,recV,recM,upA,Eng.e_some Tryz.underlying20,rs,t_hit nfUpA,ex,i_t,i_f,dx];refine o_new (fun b=>.pointer (some ⟨b,0,none⟩)) [.int .i64 0] 234 (fun _=>by kernel_rfl) ho fun b7 w5 ho=>?_;refine o_put 0 ho rfl (new:=[.int .i64 e]) szUpA (fun u hu=>by rw[List.mem_singleton.1 hu];rfl) rfl fun w6 ho=>?_;refine⟨?_⟩;have ho:=ho.drew
  repeat' first
  |apply And.intro
  |refine do_eq (run_fa fo_upA) |>.mpr ?_
  |refine do_eq (run_load_cell nErr5 (ho.cell 0 rfl 0 rfl)) |>.mpr ?_
  |refine o_store 3 ho rfl (by kernel_rfl) rfl (by simp) (fun _ ho=>?_)
  |refine o_store 2 ho rfl (by kernel_rfl) rfl (by simp) (fun _ ho=>?_)
  all_goals
   unfold S_ascii_unpacked_1_0;refine ret_v2 (rv_cell (AtV.cell nStrR (ho.cell 3 rfl 0 rfl))) (rv_cell (AtV.cell nErr5 (ho.cell 2 rfl 0 rfl))) (hK _ _ M _ 1 ho rfl M.le_refl ⟨by rw[hx];rfl,by rw[hx];exact Nat.zero_le _⟩)
 try simp only[rs]
 refine c_aneed (fun h1=>?_) (fun h1=>?_)
 rotate_left
 ·have:=of_decide_eq_false h1;rw[if_pos (by omega)] at hX;exact fail (L:=[]) ho hX.symm
 have h1:=of_decide_eq_true h1;rw[if_neg (by omega)] at hX;rw[m_min,show min most 1048576=((min most.toNat 1048576:Nat):Int) by omega];have hm1:min most.toNat 1048576≤1048576:=Nat.min_le_right _ _;generalize min most.toNat 1048576=mo at hX hm1;have e:∀W:World,(mBuild 236 #[(1,.int .i64 (mo:Int))]).run prog W=.ok (.value (.agg (skC nilS mo).toArray)) W:=fun W=>by kernel_rfl
 refine do_eq (e w3) |>.mpr ?_;refine o_new (fun b=>.pointer (some ⟨b,0,none⟩)) (skC nilS mo) 236 (fun _=>by kernel_rfl) ho fun fb w5 ho=>?_;have ho:=(OwnS.nilU ho 5 1).swap;refine c_val hp ?_;refine hF (T:=[erE16 b6 0,stE16 b4 []]) fb mo hm1 ho (fun ov out W hd hol ho=>?_) (fun e ov out W hd ho=>?_)
 rotate_left
 ·exact fail (L:=[skE fb ov mo,outR ov out]) ho (hX.symm.trans hd)
 rw[m_nilP,f_addr fo_sk0,l_cell nSlU8 (ho.cell 0 rfl 0 rfl),c_bytes Tryz.underlying53 Tryz.underlying5 Tryz.underlying9 (out_sl (ho.at_ 1 rfl))];refine o_store 4 ho rfl (by kernel_rfl) rfl (by simp) fun w8 ho=>?_;refine o_store 3 ho rfl (by kernel_rfl) rfl (by simp) fun w9 ho=>?_;refine leave_fn (by simp) unp_plain (S_ascii_unpacked_1_dok (t0:=.pointer (some ⟨b4,0,none⟩)) (t1:=.pointer (some ⟨b6,0,none⟩)) ?_);simp only[S_ascii_unpacked_1,recV,recM,Eng.e_nil Tryz.underlying20,rs,i_t,i_f,dx];rw[hd] at hX;refine ret_v2 (rv_cell (AtV.cell nStrR (ho.cell 4 rfl 0 rfl))) (rv_cell (AtV.cell nErr5 (ho.cell 3 rfl 0 rfl))) (hK _ _ M _ 2 ho rfl M.le_refl ⟨by rw[←hX];rfl,by rw[←hX];dsimp only;omega⟩)
theorem unhex1_plain:plainB prog 175=true:=by kernel_rfl
theorem dig_ge (c:UInt8):-1≤Lx.digit c∧Lx.digit c≤15:=by
 unfold Lx.digit;have:=UInt8.toNat_lt c
 repeat' split
 all_goals omega
theorem c_unhex1 {S:Nat→Prop}{w0 w:World}{T:List Ent}{PK:PKT}{K:VWP}(s:List UInt8)(b mo:Nat)(hs:s.length≤1000000000)(hm:mo≤1048576)(ho:OwnS S w0 w (Sk b mo nilS [] T))
  (kt:∀ov' out W,Ax.hexG mo s (-1) []=(out,0)→out.length≤mo→OwnS S w0 W (Sk b mo ov' out T)→K (.tuple #[]) W) (kf:∀e ov' out W,Ax.hexG mo s (-1) []=([],e)→OwnS S w0 W (Sk b mo ov' out T)→PK [upA e] W) :
  CallX prog 175 #[.string ⟨s.toArray⟩,.pointer (some ⟨b,0,none⟩)] w PK K:=by
 generalize hX:Ax.hexG mo s (-1) []=X at kt kf;refine⟨S_ascii_Unhex_1_ok ?_⟩;unfold S_ascii_Unhex_1 iN dx;rw[s_len Tryz.underlying9];refine loop (fun vs W=>∃(i:Nat) (half:Int) (ov:Value) (out:List UInt8),vs=[.int .i64 half,.int .i64 (i:Int)]∧i≤s.length∧-1≤half∧half≤15∧out.length≤mo∧Ax.hexG mo (s.drop i) half out=X∧OwnS S w0 W (Sk b mo ov out T)) (fun vs _=>s.length - n1 vs) ⟨0,-1,nilS,[],rfl,by omega,by omega,by omega,by simp,hX,ho⟩ ?_;clear ho hX;rintro vs w1 ⟨i,half,ov,out,rfl,hi,h1,h2,hol,hX,ho⟩ _;simp only[S_ascii_Unhex_1_0,gd,rs,iN,dx,cx];by_cases hlt:(i:Int) < (s.length:Int)
 case neg=>
  simp only[hlt,decide_false,i_f];rw[List.drop_eq_nil_of_le (by omega)] at hX;exact c_aneed (fun h=>by cases h) (fun _=>kf 4 ov out w1 hX.symm ho)
 simp only[hlt,decide_true,i_t];have hi':i < s.length:=by omega
 rw[List.drop_eq_getElem_cons hi',Ax.hexG] at hX;have hc:=List.getElem?_eq_getElem hi';generalize s[i]=c at hX hc;refine join fun J hJ=>?_;have next:∀(half':Int) (ov':Value) (out':List UInt8) (W:World),-1≤half'→half'≤15→out'.length≤mo→Ax.hexG mo (s.drop (i+1)) half' out'=X→OwnS S w0 W (Sk b mo ov' out' T)→J [.int .i64 half'] W:=by
  intro half' ov' out' W g1 g2 g3 g4 ho;refine hJ _ _ fun _=>?_;simp only[S_ascii_Unhex_1_2,gd,rs,iN,dx];rw[wrap64_id (by omega) (by omega)];exact nextX ⟨i+1,half',ov',out',rfl,by omega,g1,g2,g3,g4,ho⟩ (by simp[n1,RowKit.intOf];omega)
 rw[s_ix Tryz.underlying9 (by omega) (by rw[Int.toNat_natCast];exact hc)];refine c_eq (digit_ret c w1) (c_eq (white_ret c w1) ?_);have hdg:=dig_ge c;by_cases hw:Oc.white c=true
 ·rw[if_pos hw] at hX;rw[hw,i_t];exact next half ov out w1 h1 h2 hol hX ho
 rw[if_neg hw] at hX;rw[Bool.eq_false_iff.2 hw,i_f]
 try simp only[rs]
 have key:∀{n:Nat} {PK:PKT} {K:VWP},(out.length < mo→∀ov' W,OwnS S w0 W (Sk b mo ov' (out++[UInt8.ofNat n]) T)→K (.tuple #[]) W)→(mo≤out.length→∀W,OwnS S w0 W (Sk b mo ov out T)→PK [upA 5] W) →
   DoX prog (mBuildS 53 1 #[(0,.int .u8 ((UInt8.ofNat n).toNat:Int))]) w1 PK fun t w=>CallX prog 178 #[.pointer (some ⟨b,0,none⟩),t] w PK K:=by
  intro n PK K a1 a2;refine o_u81 _ ho fun b8 w2 ho=>?_;exact c_aput (l:=[UInt8.ofNat n]) ho (fun W h=>sl_one1 h (by decide) rfl) hm hol (by simp) (fun g ov' W ho=>a1 (by simp at g;omega) ov' W ho) (fun g W ho=>a2 (by simp at g;omega) W ho)
 by_cases h62:c=62
 ·rw[if_pos h62] at hX;simp only[show decide ((c.toNat:Int)=62)=true by rw[h62];rfl,i_t];refine join fun J3 hJ3=>?_;by_cases hh:half < 0
  ·rw[if_pos hh] at hX;simp only[show decide ((0:Int)≤half)=false from decide_eq_false (by omega),i_f];refine hJ3 _ _ fun _=>?_;unfold S_ascii_Unhex_1_1;exact kt ov out w1 hX.symm hol ho
  rw[if_neg hh] at hX;simp only[show decide ((0:Int)≤half)=true from decide_eq_true (by omega),i_t];rw[wrap64_id (by omega) (by omega),show 16*half=((16*half.toNat:Nat):Int) by omega];refine do_eq (run_c_int (by kernel_rfl) Tryz.underlying5) |>.mpr ?_;rw[wrap8];refine key (fun g ov' W ho=>?_) (fun g W ho=>?_)
  ·rw[if_neg (by omega)] at hX;refine hJ3 _ _ fun _=>?_;unfold S_ascii_Unhex_1_1;exact kt ov' _ W hX.symm (by simp;omega) ho
  ·rw[if_pos g] at hX;exact kf 5 ov out W hX.symm ho
 rw[if_neg h62] at hX;simp only[show decide ((c.toNat:Int)=62)=false from decide_eq_false (fun h=>h62 (UInt8.toNat_inj.1 (by rw[show (62:UInt8).toNat=62 from rfl];omega))),i_f];by_cases hd:Lx.digit c < 0
 ·rw[if_pos hd] at hX;simp only[hd,decide_true,i_t];exact c_aneed (fun h=>by cases h) (fun _=>kf 3 ov out w1 hX.symm ho)
 rw[if_neg hd] at hX;simp only[hd,decide_false,i_f];by_cases hh:half < 0
 ·rw[if_pos hh] at hX;simp only[hh,decide_true,i_t];exact next _ ov out w1 (by omega) (by omega) hol hX ho
 rw[if_neg hh] at hX;simp only[hh,decide_false,i_f];rw[wrap64_id (n:=16*half) (by omega) (by omega),wrap64_id (by omega) (by omega),show 16*half+Lx.digit c=((16*half+Lx.digit c).toNat:Int) by omega];refine do_eq (run_c_int (by kernel_rfl) Tryz.underlying5) |>.mpr ?_;rw[wrap8];refine key (fun g ov' W ho=>?_) (fun g W ho=>?_)
 ·rw[if_neg (by omega)] at hX;exact next _ ov' _ W (by omega) (by omega) (by simp;omega) hX ho
 ·rw[if_pos g] at hX;exact kf 5 ov out W hX.symm ho
theorem aunhex_ret (s:List UInt8)(most:Int)(M:Mem)(w:World)(hs:s.length≤1000000000)(hM:M.has w):RetM prog 116 #[.string ⟨s.toArray⟩,.int .i64 most] M w (fun v _=>v=zlT (Ax.unhex s most)∧(Ax.unhex s most).1.length≤1048576):=by
 refine retM_of hM fun K hK=>S_ascii_Unhex_ok ?_;unfold S_ascii_Unhex dx cx;refine c_mem (OwnS.memS hM) 0 rfl (unpacked_ret _ unhex1_plain s most _ M w hM fun b mo hm ho kt kf=>c_unhex1 s b mo hs hm ho kt kf) ?_;rintro _ N w1 g1 ⟨rfl,hl⟩ ho;simp only[zlT,ex];exact hK _ _ N _ 0 ho rfl g1 ⟨rfl,hl⟩
end
end Go.Proofs.YtlipjfcbjemicaaGreatDoor
