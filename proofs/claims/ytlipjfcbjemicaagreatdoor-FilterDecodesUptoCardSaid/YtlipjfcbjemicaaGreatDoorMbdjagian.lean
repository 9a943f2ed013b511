/- Texts that go together: InfE SSlcN InfF InfG InfH InfI InfJ InfK EngAJ InfL InfM Plain16B SRef10 SRef11 IrA InfN InfO EngAA EngAB InfP InfQ SInflR SInflQ InfR. -/
import Derived.Test.YtlipjfcbjemicaaGreatDoorRows
import Derived.Maps.RangeRun
import Derived.Test.YtlipjfcbjemicaaGreatDoorMmaflihpg
import Derived.Test.YtlipjfcbjemicaaGreatDoorMkdodoemo
import Derived.Test.YtlipjfcbjemicaaGreatDoorMikgnniin
set_option linter.defProp false
set_option linter.unusedSimpArgs false
set_option linter.unusedVariables false
set_option maxRecDepth 20000
open Go.Proofs.Tryz (prog)
namespace Go.Proofs.YtlipjfcbjemicaaGreatDoor
section
open Eng Go.RowKit
theorem madeInts (n:Nat):(Go.madeCells (Value.int .i64 0).cells (n*1))=(List.replicate n (Value.int .i64 0)).toArray:=by
 unfold Go.madeCells;refine Array.ext (by simp) fun i h1 h2=>?_;have e:(Value.int .i64 0).cells=#[Value.int .i64 0]:=rfl;simp only[Array.getElem_map,List.getElem_toArray,List.getElem_replicate,e];simp[Nat.mod_one]
theorem info_int:∃i,Tryz.prog.info? 3=some i∧i.zero=some (Value.int .i64 0)∧i.size=1∧i.bytes=8:=⟨_,rfl,by kernel_rfl,by kernel_rfl,by kernel_rfl⟩
section
variable {w:World}{PK:PKT}{K:VWP}{S:Nat→Prop}{w0:World}{L:List Ent}
theorem o_makeI {n:Nat}(hn:n≤1000000)(ho:OwnS S w0 w L)(k:∀b w',OwnS S w0 w' (.cells b (List.replicate n (.int .i64 0)) 3::L)→K (.slice (some ⟨b,0,none⟩) n n) w') :
  DoX prog (mMake 123 (.int .i64 (n:Int)) (.int .i64 (n:Int))) w PK K:=by
 obtain⟨i,hi,hz,h1,h8⟩:=info_int;refine o_new (fun b=>.slice (some ⟨b,0,none⟩) n n) (List.replicate n (.int .i64 0)) 3 (fun W=>?_) ho k;have:=Go.run_make (P:=prog) W 123 3 i (Value.int .i64 0) Tryz.underlying123 hi hz .i64 .i64 (n:Int) (n:Int) (by omega) (by omega) (by rw[h8];omega) (by omega);rw[h1,Int.toNat_natCast,madeInts] at this;exact mv_run this
end
def Fl.codeAt (lens:List Nat)(i:Nat):Nat:=if lens.getD i 0=0 then 0 else Fl.first lens (lens.getD i 0)+(lens.take i).count (lens.getD i 0)
def Fl.codes (lens:List Nat):List Nat:=(List.range lens.length).map (Fl.codeAt lens)
theorem Fl.codes_len (lens:List Nat):(Fl.codes lens).length=lens.length:=by simp[Fl.codes]
theorem Fl.codes_get {lens:List Nat}{i:Nat}(hi:i < lens.length):(Fl.codes lens)[i]?=some (Fl.codeAt lens i):=by
 simp[Fl.codes,hi]
def codeRow (lens:List Nat)(i:Nat):List Value:=natsW ((Fl.codes lens).take i)++List.replicate (lens.length - i) (.int .i64 0)
theorem codeRow_len {lens:List Nat}{i:Nat}(hi:i≤lens.length):(codeRow lens i).length=lens.length:=by
 unfold codeRow natsW;rw[List.length_append,List.length_map,List.length_take,List.length_replicate,Fl.codes_len];omega
theorem codeRow_set {lens:List Nat}{i:Nat}(hi:i < lens.length):(codeRow lens i).set i (.int .i64 ((Fl.codeAt lens i:Nat):Int))=codeRow lens (i+1):=by
 unfold codeRow;have hl:(natsW ((Fl.codes lens).take i)).length=i:=by unfold natsW;rw[List.length_map,List.length_take,Fl.codes_len];omega
 rw[List.set_append_right _ _ (by omega),hl,Nat.sub_self];obtain⟨k,hk⟩:∃k,lens.length - i=k+1:=⟨lens.length - i - 1,by omega⟩;rw[hk,List.replicate_succ,List.set_cons_zero,show lens.length - (i+1)=k by omega];rw[List.take_succ_eq_append_getElem (by rw[Fl.codes_len];exact hi)];have e:(Fl.codes lens)[i]'(by rw[Fl.codes_len];exact hi)=Fl.codeAt lens i:=by
  have:=Fl.codes_get hi;rw[List.getElem?_eq_getElem (by rw[Fl.codes_len];exact hi)] at this;exact Option.some.inj this
 rw[e];simp[natsW]
theorem codeRow_same {lens:List Nat}{i:Nat}(hi:i < lens.length)(h0:Fl.codeAt lens i=0):codeRow lens (i+1)=codeRow lens i:=by
 rw[←codeRow_set hi,h0];refine set_same ?_;unfold codeRow;have hl:(natsW ((Fl.codes lens).take i)).length=i:=by unfold natsW;rw[List.length_map,List.length_take,Fl.codes_len];omega
 rw[List.getElem?_append_right (by omega),hl,Nat.sub_self,List.getElem?_replicate,if_pos (by omega)];rfl
def nxt (lens:List Nat)(i:Nat):Nat→Int:=fun m=>((Fl.first lens (if m≤15 then m else 0)+(if m=0 then 0 else (lens.take i).count m):Nat):Int)
theorem ccodes_ret (lens:List Nat)(v:Value)(M:Mem)(w:World)(h15:∀l∈lens,l≤15)(hl:lens.length≤100000)(hM:M.has w)(hs:SlA M.A M.w v 1 lens.length (natsW lens)) :
  RetM prog 321 #[v] M w (fun r N=>∃v',r=.tuple #[v',.int .i64 (Fl.chk lens)]∧v'.oneCell'=true∧(Fl.chk lens=0→SlA N.A N.w v' 1 lens.length (natsW (Fl.codes lens)))):=by
 refine retM_of hM fun K hK=>S_code_Codes_ok ?_;unfold S_code_Codes iN dx cx;have ho:OwnS M.A w w [.mem M]:=OwnS.memS hM;refine c_below ho (R:=fun r=>r=.int .i64 (Fl.chk lens)) (RetM.told (ccheck_ret lens v M w h15 hl hM hs)) ?_;rintro _ w1 rfl ho;rw[n_err];by_cases hc:Fl.chk lens=0
 case neg=>
  simp only[hc,ne_eq,not_false_eq_true,decide_true,i_t];exact hK _ _ M _ 0 ho rfl M.le_refl ⟨_,rfl,rfl,fun h=>absurd h hc⟩
 simp only[hc,ne_eq,not_true,decide_false,i_f];refine c_below ho (R:=fun r=>r=nsV (cnt lens)) (RetM.told (counted_ret lens v M w1 h15 hl (ho.hasM 0 rfl) hs)) ?_;rintro _ w2 rfl ho;refine c_below ho (R:=fun r=>r=nsV (fun i=>((Fl.first lens (if i≤15 then i else 0):Nat):Int))) (RetM.told (firsts_ret lens M w2 hl (ho.hasM 0 rfl))) ?_;rintro _ w3 rfl ho;refine o_nsa ho fun b5 w4 ho=>?_;refine ns_put 0 ho rfl fun w5 ho=>?_;rw[sl_len Tryz.underlying123 (hs.now (ho.hasM 1 rfl))];refine o_makeI (by omega) ho fun b6 w6 ho=>?_;rw[sl_len Tryz.underlying123 (hs.now (ho.hasM 2 rfl))];refine loop (fun vs W=>∃i:Nat,vs=[.int .i64 i]∧i≤lens.length∧OwnS M.A w W [.cells b6 (codeRow lens i) 3,nsE b5 (nxt lens i),.mem M]) (fun vs _=>lens.length - n0 vs) ⟨0,rfl,by omega,?_⟩ ?_
 ·have e1:codeRow lens 0=List.replicate lens.length (.int .i64 0):=by simp[codeRow,natsW]
  have e2:nxt lens 0=fun i=>((Fl.first lens (if i≤15 then i else 0):Nat):Int):=by
   funext m;unfold nxt;simp
  rw[e1,e2];exact ho
 clear ho;rintro vs w7 ⟨i,rfl,hi,ho⟩ _;simp only[S_code_Codes_0,gd,rs,iN,dx];by_cases hlt:(i:Int) < (lens.length:Int)
 ·have hi':i < lens.length:=by omega
  simp only[hlt,decide_true,i_t];refine join fun J hJ=>?_;obtain⟨b,off,r1,r2⟩:=nats_at (hs.now (ho.hasM 2 rfl)) hi';have hl15:=h15 _ (List.getElem_mem hi');have hgd:lens.getD i 0=lens[i]:=by rw[List.getD_eq_getElem?_getD,List.getElem?_eq_getElem hi'];rfl
  refine do_eq (r1 w7) |>.mpr (do_eq (run_load_cell nInt5 r2) |>.mpr ?_);have htk:lens.take (i+1)=lens.take i++[lens[i]]:=by rw[List.take_succ_eq_append_getElem hi']
  have fin:∀W,OwnS M.A w W [.cells b6 (codeRow lens (i+1)) 3,nsE b5 (nxt lens (i+1)),.mem M]→J [] W:=by
   intro W ho;refine hJ _ _ fun _=>?_;simp only[S_code_Codes_1,gd,rs,iN,dx];rw[wrap64_id (by omega) (by omega)];exact nextX ⟨i+1,rfl,by omega,ho⟩ (by simp[n0,RowKit.intOf];omega)
  simp only[rs];by_cases h0:(0:Int) < ((lens[i]:Nat):Int)
  ·simp only[h0,decide_true,i_t];have hfb:=Fl.first_le (lens:=lens) lens[i];have hp:4 ^ lens[i]≤4 ^ 15:=Nat.pow_le_pow_right (by decide) hl15;have hp2:(4:Nat) ^ 15=1073741824:=by decide
   have hfb2:4 ^ lens[i]*lens.length≤1073741824*100000:=Nat.mul_le_mul (by omega) hl;have hcb:(lens.take i).count lens[i]≤100000:=by
    have:=List.count_le_length (a:=lens[i]) (l:=lens.take i);rw[List.length_take] at this;omega
   have hca:Fl.codeAt lens i=Fl.first lens lens[i]+(lens.take i).count lens[i]:=by
    unfold Fl.codeAt;rw[hgd,if_neg (by omega)]
   have hnx:nxt lens i lens[i]=((Fl.codeAt lens i:Nat):Int):=by
    unfold nxt;rw[if_pos hl15,if_neg (by omega),hca]
   rw[ns_ia (by omega),ns_get ho 1 rfl (by omega),hnx];have ria:=run_ia (P:=prog) (T:=123) (b:=b6) (off:=0) (cap:=lens.length) (n:=lens.length) (k:=.i64) (i:=(i:Int)) (w:=w7) Tryz.underlying123 (show _=some 1 by kernel_rfl) (by omega) (by omega);refine do_eq ria |>.mpr ?_;rw[Int.toNat_natCast,Nat.mul_one,Nat.zero_add];refine o_store 0 ho rfl (by kernel_rfl) rfl (by rw[codeRow_len hi];exact hi') fun w8 ho=>?_;rw[codeRow_set hi'] at ho;have ho:OwnS M.A w w8 [.cells b6 (codeRow lens (i+1)) 3,nsE b5 (nxt lens i),.mem M]:=ho;rw[ns_ia (by omega),ns_get ho 1 rfl (by omega),hnx];simp only[rs];rw[ns_ia (by omega),wrap64_id (by omega) (by omega)];refine ns_set 1 (by omega) ho rfl fun w9 ho=>fin w9 ?_;have e:(fun m=>if m=lens[i] then ((Fl.codeAt lens i:Nat):Int)+1 else nxt lens i m)=nxt lens (i+1):=by
    funext m
    by_cases hm:m=lens[i]
    ·subst hm;rw[if_pos rfl];unfold nxt;rw[if_pos hl15,if_neg (by omega),htk,List.count_append,List.count_singleton,hca];simp;omega
    ·rw[if_neg hm];unfold nxt;rw[htk,List.count_append,List.count_singleton];have:(lens[i]==m)=false:=by simp;exact fun h=>hm h.symm
     rw[this];simp
   rw[←e];exact ho
  ·simp only[h0,decide_false,i_f];have hz:lens[i]=0:=by omega
   refine fin w7 ?_;have e1:codeRow lens (i+1)=codeRow lens i:=codeRow_same hi' (by unfold Fl.codeAt;rw[hgd,if_pos hz]);have e2:nxt lens (i+1)=nxt lens i:=by
    funext m
    unfold nxt;rw[htk,List.count_append,List.count_singleton];by_cases hm0:m=0
    ·rw[if_pos hm0,if_pos hm0]
    ·rw[if_neg hm0,if_neg hm0];have:(lens[i]==m)=false:=by simp;omega
     rw[this];simp
   rw[e1,e2];exact ho
 ·simp only[hlt,decide_false,i_f];have hie:i=lens.length:=by omega
  subst hie;have er:codeRow lens lens.length=natsW (Fl.codes lens):=by
   unfold codeRow;rw[List.take_of_length_le (by rw[Fl.codes_len];omega)];simp
  rw[er] at ho;have ho:=OwnS.toU (b:=b6) (cs:=natsW (Fl.codes lens)) (E:=3) ho 1 lens.length lens.length (by unfold natsW;rw[List.length_map,Fl.codes_len];omega) (by omega) (by omega);obtain⟨N,hle,hrow,ho⟩:=OwnS.freezeU ho 1 rfl;rw[List.take_of_length_le (by unfold natsW;rw[List.length_map,Fl.codes_len];omega)] at hrow;exact hK _ _ N _ 1 ho rfl hle ⟨_,by rw[hc],rfl,fun _=>hrow⟩
end
section
open Eng
def S_slices_Clone_int_int(t0 w)(K:KT):=
 dx (mEq .eql 123 (.tmp 3) (.const (.slice none 0 0)) t0 (.slice none 0 0)) w K fun t4 w=>IfX t4 (K (.returned (.slice none 0 0)) w) (dx (mBuildS 123 0 #[]) w K fun t5 w=>dx (mB .append #[123,123] 123 #[false,false] #[t5,t0]) w K fun t7 w=>K (.returned t7) w)
theorem S_slices_Clone_int_int_ok{t0 w K}(h:S_slices_Clone_int_int t0 w K):Calls prog 322 #[t0] w K:=cw Tryz.func322 rfl rfl (by kernel_rfl) h
def S_slices_Repeat_int_int_2(t7 t8 w)(N3:JT)(K:KT):=
 dx (mB .len #[123] 3 #[false] #[t7]) w K fun t36 w=>dx (mBin .lss 3 t8 t36) w K fun t37 w=>IfX t37 (QuietX w (fun C4=>QDo prog C4 (mSlice 123 t7 (some t8) none none) fun t41=>QDo prog C4 (mSlice 123 t7 none (some t8) none) fun t44=>
 ∀w,C4 w →
 DoX prog (mB .copy #[123,123] 3 #[false,false] #[t41,t44]) w (pm1 (pm1 (pm1 (pm1 (pm1 (pk K)))))) fun t45 w=>DoX prog (mBin .add 3 t8 t45) w (pm1 (pm1 (pm1 (pm1 (pm1 (pk K)))))) fun t46 w=>N3 [t46] w)) (K (.returned t7) w)
def S_slices_Repeat_int_int_1(t0 t6 w)(K:KT):=
 dx (mConv 84 3 t6) w K fun t29 w=>dx (mMake 123 t29 t29) w K fun t30 w=>dx (mB .copy #[123,123] 3 #[false,false] #[t30,t0]) w K fun t33 w=>LoopX [t33] w (fun vs3 w N3=>∀_:Sg,S_slices_Repeat_int_int_2 t30 (vs3.getD 0 undef) w N3 K)
def S_slices_Repeat_int_int_0(t0 t1 w)(K:KT):=
 dx (mB .len #[123] 3 #[false] #[t0]) w K fun t14 w=>dx (mConv 3 84 t14) w K fun t15 w=>dx (mConv 3 84 t1) w K fun t17 w=>cx 227 #[t15,t17] w K fun t18 w=>dx (mExt t18 0) w K fun t19 w=>dx (mExt t18 1) w K fun t20 w=>JoinX (fun J2=>dx (mBin .gtr 84 t19 (.int .u64 0)) w K fun t22 w=>efx t22 t20 w fun t24 w=>gfx t22 (mBin .gtr 84 t24 (.int .u64 9223372036854775807)) w K fun t25 w=>dx (mPick t22 (.bool true) t25) w K fun t26 w=>IfX t26 (dx (mIface 9 (.string ⟨#[116,104,101,32,114,101,115,117,108,116,32,111,102,32,40,108,101,110,40,120,41,32,42,32,99,111,117,110,116,41,32,111,118,101,114,102,108,111,119,115]⟩)) w K fun t27 w=>dx (mPanic t27) w K fun _ w=>J2 [] w) (J2 [] w)) (fun vs2 w=>∀_:Sg,S_slices_Repeat_int_int_1 t0 t20 w K)
def S_slices_Repeat_int_int(t0 t1 w)(K:KT):=
 JoinX (fun J1=>dx (mBin .lss 3 t1 (iN 0)) w K fun t10 w=>IfX t10 (dx (mIface 9 (.string ⟨#[99,97,110,110,111,116,32,98,101,32,110,101,103,97,116,105,118,101]⟩)) w K fun t11 w=>dx (mPanic t11) w K fun _ w=>J1 [] w) (J1 [] w)) (fun vs1 w=>∀_:Sg,S_slices_Repeat_int_int_0 t0 t1 w K)
theorem S_slices_Repeat_int_int_eq (t0 t1:Value)(w:World)(K:Ending→World→Prop):wpX prog 48 [(3,[]),(6,[])] [(8,[8])] none (bodyOf Tryz.f320) (topQ prog [.tmp 4] K) (startX [t0,t1]) [] w=S_slices_Repeat_int_int t0 t1 w K:=by kernel_rfl
theorem S_slices_Repeat_int_int_ok {t0 t1:Value}{w:World}{K:Ending→World→Prop}(h:S_slices_Repeat_int_int t0 t1 w K):Calls prog 320 #[t0,t1] w K:=
 calls_of_wpX Tryz.func320 rfl rfl rfl rfl (Eq.mpr (S_slices_Repeat_int_int_eq t0 t1 w K) h)
end
section
open Eng Go.RowKit
theorem natsW_one {l:List Nat}:∀x∈natsW l,x.oneCell'=true:=by
 intro x hx;obtain⟨n,-,rfl⟩:=List.mem_map.1 hx;rfl
theorem natsW_len (l:List Nat):(natsW l).length=l.length:=by simp[natsW]
theorem e_snilI {w:World}{PK:PKT}{K:VWP}{xo yo:Operand}{b off n c:Nat}:DoX prog (mEq .eql 123 xo yo (.slice (some ⟨b,off,none⟩) n c) (.slice none 0 0)) w PK K=K (.bool false) w:=do_eq (by kernel_rfl)
theorem cloneI_ret (l:List Nat)(v:Value)(M:Mem)(w:World)(hl:l.length≤100000)(h0:0 < l.length)(hM:M.has w)(hs:SlA M.A M.w v 1 l.length (natsW l)) :
  RetM prog 322 #[v] M w (fun r N=>SlA N.A N.w r 1 l.length (natsW l)):=by
 refine retM_of hM fun K hK=>S_slices_Clone_int_int_ok ?_;unfold S_slices_Clone_int_int dx;have ho:OwnS M.A w w [.mem M]:=OwnS.memS hM;have go:∀{b off n c:Nat},v=.slice (some ⟨b,off,none⟩) n c→DoX prog (mEq .eql 123 (.tmp 3) (.const (.slice none 0 0)) v (.slice none 0 0)) w (Eng.pk K) fun t4 w=>IfX t4 (K (.returned (.slice none 0 0)) w) (DoX prog (mBuildS 123 0 #[]) w (Eng.pk K) fun t5 w=>
   DoX prog (mB .append #[123,123] 123 #[false,false] #[t5,v]) w (Eng.pk K) fun t7 w=>K (.returned t7) w):=by
  rintro b off n c rfl;rw[e_snilI,i_f];refine o_ints0 ho fun v0 w1 ho=>?_;refine o_apInt 0 ho rfl (hs.now (ho.hasM 1 rfl)) natsW_one (by omega) fun v1 w2 ho=>?_;obtain⟨N,hle,hrow,ho⟩:=OwnS.freezeU (L:=[.mem M]) ho 0 rfl;refine hK _ _ N _ 0 ho rfl hle ?_;rw[Nat.zero_add] at hrow;exact hrow
 obtain⟨b,off,cap,hv,-⟩:=sl_open hs.1 (by omega);exact go hv
def tbC (a b:Value)(f g:Nat→Int)(o:Value):List Value:=a::b::(nsC f++(nsC g++[o]))
def tbV (a b:Value)(f g:Nat→Int)(o:Value):Value:=.agg (tbC a b f g o).toArray
def tbE (bl:Nat)(a b:Value)(f g:Nat→Int)(o:Value):Ent:=.cells bl (tbC a b f g o) 337
theorem fo_tb2:fOff prog 337 2=some 2:=by kernel_rfl
theorem fo_tb3:fOff prog 337 3=some 18:=by kernel_rfl
theorem fo_tb4:fOff prog 337 4=some 34:=by kernel_rfl
def Fl.ofLen (lens:List Nat)(l:Nat):List Nat:=(List.range lens.length).filter fun i=>decide (lens.getD i 0=l)
def Fl.order (lens:List Nat):Nat→List Nat
|0=>[]
|l+1=>Fl.order lens l++Fl.ofLen lens (l+1)
end
section
open Eng Go.RowKit
abbrev fstW (lens:List Nat):Nat→Int:=fun i=>((Fl.first lens (if i≤15 then i else 0):Nat):Int)
def TbAt (A:Nat→Prop)(w:World)(b:Nat)(lens:List Nat):Prop:=∃a c o,A b∧(tbE b a c (cnt lens) (fstW lens) o).is w∧SlA A w o 1 (Fl.order lens 15).length (natsW (Fl.order lens 15))
section
variable {w:World}{PK:PKT}{K:VWP}{S:Nat→Prop}{w0:World}{L:List Ent}
theorem fa_tb2 {b off:Nat}:DoX prog (mFA 337 (.pointer (some ⟨b,off,none⟩)) 2) w PK K=K (.pointer (some ⟨b,off+2,none⟩)) w:=f_addr fo_tb2
theorem fa_tb3 {b off:Nat}:DoX prog (mFA 337 (.pointer (some ⟨b,off,none⟩)) 3) w PK K=K (.pointer (some ⟨b,off+18,none⟩)) w:=f_addr fo_tb3
theorem fa_tb4 {b off:Nat}:DoX prog (mFA 337 (.pointer (some ⟨b,off,none⟩)) 4) w PK K=K (.pointer (some ⟨b,off+34,none⟩)) w:=f_addr fo_tb4
theorem m_tb {a c:Value}{f:Nat→Int}(h1:a.oneCell'=true)(h2:c.oneCell'=true):DoX prog (mBuild 337 #[(0,a),(1,c),(2,nsV f)]) w PK K=K (tbV a c f (fun _=>0) nilS) w:=by
 cases a<;>first|(cases h1;done)|skip
 all_goals cases c<;>first|(cases h2;done)|exact do_eq (by kernel_rfl)
theorem o_tbb {a c:Value}{f g:Nat→Int}(h1:a.oneCell'=true)(h2:c.oneCell'=true)(ho:OwnS S w0 w L)(k:∀b w',OwnS S w0 w' (tbE b a c f g nilS::L)→K (.pointer (some ⟨b,0,none⟩)) w'):DoX prog (mBox 337 (tbV a c f g nilS)) w PK K:=by
 cases a<;>first|(cases h1;done)|skip
 all_goals cases c<;>first|(cases h2;done)|exact o_new (fun b=>.pointer (some ⟨b,0,none⟩)) (tbC _ _ f g nilS) 337 (fun _=>by kernel_rfl) ho k
theorem tb_n (ho:OwnS S w0 w L)(j:Nat){b:Nat}{a c o:Value}{f g:Nat→Int}(hi:L[j]?=some (tbE b a c f g o)):DoX prog (mLoad 334 (.pointer (some ⟨b,0+2,none⟩))) w PK K=K (nsV f) w:=l_at (ho.subAgg j hi (0+2) (nsC f) rfl aggNs)
theorem tb_order (ho:OwnS S w0 w L)(j:Nat){b:Nat}{a c o:Value}{f g:Nat→Int}(hi:L[j]?=some (tbE b a c f g o)):DoX prog (mLoad 123 (.pointer (some ⟨b,0+34,none⟩))) w PK K=K o w:=l_cell nSlInt (ho.cell j hi 34 rfl)
theorem tb_putF (j:Nat){b:Nat}{a c o:Value}{f g g':Nat→Int}(ho:OwnS S w0 w L)(hi:L[j]?=some (tbE b a c f g o))(k:∀w',OwnS S w0 w' (L.set j (tbE b a c f g' o))→K undef w') :
  DoX prog (mStore 334 (.pointer (some ⟨b,0+18,none⟩)) (nsV g')) w PK K:=o_putAt j ho hi (new:=nsC g') szNs (nsC_one g') (by show 0+18+16≤35;omega) k
theorem tb_putO (j:Nat){b:Nat}{a c o o':Value}{f g:Nat→Int}(h:o'.oneCell'=true)(ho:OwnS S w0 w L)(hi:L[j]?=some (tbE b a c f g o))(k:∀w',OwnS S w0 w' (L.set j (tbE b a c f g o'))→K undef w') :
  DoX prog (mStore 123 (.pointer (some ⟨b,0+34,none⟩)) o') w PK K:=o_store j ho hi (by kernel_rfl) h (by show 0+34 < 35;omega) k
end
def Fl.ofTo (lens:List Nat)(l i:Nat):List Nat:=(List.range i).filter fun i=>decide (lens.getD i 0=l)
theorem Fl.ofTo_le (lens:List Nat)(l i:Nat):(Fl.ofTo lens l i).length≤i:=by
 have:=List.length_filter_le (fun i=>decide (lens.getD i 0=l)) (List.range i);rw[List.length_range] at this;exact this
theorem Fl.order_le (lens:List Nat):∀l,(Fl.order lens l).length≤l*lens.length
|0=>by simp[Fl.order]
|l+1=>by
  have h1:=Fl.order_le lens l;have h2:=Fl.ofTo_le lens (l+1) lens.length;have e:Fl.ofLen lens (l+1)=Fl.ofTo lens (l+1) lens.length:=rfl;rw[Fl.order,List.length_append,e,Nat.succ_mul];omega
theorem natsW_app (a b:List Nat):natsW (a++b)=natsW a++natsW b:=by simp[natsW]
theorem cnew_ret (lens:List Nat)(v:Value)(M:Mem)(w:World)(h15:∀l∈lens,l≤15)(hl:lens.length≤100000)(h0:0 < lens.length)(hM:M.has w)(hs:SlA M.A M.w v 1 lens.length (natsW lens)) :
  RetM prog 295 #[v] M w (fun r N=>if Fl.chk lens≠0 then r=.tuple #[.pointer none,.int .i64 (Fl.chk lens)] else ∃b,r=.tuple #[.pointer (some ⟨b,0,none⟩),.int .i64 0]∧TbAt N.A N.w b lens):=by
 refine retM_of hM fun K hK=>S_code_New_ok ?_;unfold S_code_New iN dx cx;have ho:OwnS M.A w w [.mem M]:=OwnS.memS hM;refine c_mem ho 0 rfl (ccodes_ret lens v M w h15 hl hM hs) ?_;rintro _ N1 w1 g1 ⟨cv,rfl,hc1,hcs⟩ ho;simp only[ex,n_err];by_cases hc:Fl.chk lens=0
 case neg=>
  simp only[hc,ne_eq,not_false_eq_true,decide_true,i_t];exact hK _ _ N1 _ 0 ho rfl g1 (by rw[if_pos hc])
 have hcs:=hcs hc;simp only[hc,ne_eq,not_true,decide_false,i_f];refine c_mem ho 0 rfl (cloneI_ret lens v N1 w1 hl h0 (ho.hasM 0 rfl) (hs.le g1)) fun lv N2 w2 g2 hlv ho=>?_;refine c_below ho (R:=fun r=>r=nsV (cnt lens)) (RetM.told (counted_ret lens v N2 w2 h15 hl (ho.hasM 0 rfl) (hs.le (g1.trans g2)))) ?_;rintro _ w3 rfl ho;rw[m_tb hlv.one hc1];refine o_tbb hlv.one hc1 ho fun b w4 ho=>?_;rw[m_nilP,fa_tb2,tb_n ho 0 rfl];refine c_below ho (R:=fun r=>r=nsV (fstW lens)) (RetM.told (firsts_ret lens N2 w4 hl (ho.hasM 1 rfl))) ?_;rintro _ w5 rfl ho;rw[m_nilP,fa_tb3];refine tb_putF 0 ho rfl fun w6 ho=>?_;have hsl:=hs.le (g1.trans g2);have ho:OwnS M.A w w6 [.urow 3 1 nilS 0 [],tbE b lv cv (cnt lens) (fstW lens) nilS,.mem N2]:=OwnS.nilU (L:=[tbE b lv cv (cnt lens) (fstW lens) nilS,.mem N2]) ho _ _;refine loop (fun vs W=>∃(l:Nat) (ov:Value),vs=[.int .i64 ((l+1:Nat):Int)]∧l≤15∧OwnS M.A w W [.urow 3 1 ov (Fl.order lens l).length (natsW (Fl.order lens l)),tbE b lv cv (cnt lens) (fstW lens) ov,.mem N2]) (fun vs _=>16 - n0 vs) ⟨0,nilS,rfl,by omega,ho⟩ ?_;clear ho;rintro vs w7 ⟨l,ov,rfl,hl15,ho⟩ _;simp only[S_code_New_0,gd,rs,iN,dx];by_cases hlt:((l+1:Nat):Int)≤15
 ·simp only[hlt,decide_true,i_t];rw[sl_len Tryz.underlying123 (hsl.now (ho.hasM 2 rfl))];have hob:=Fl.order_le lens l;have hob2:l*lens.length≤15*100000:=Nat.mul_le_mul hl15 hl;refine loop (fun vs W=>∃(i:Nat) (ov:Value),vs=[.int .i64 i]∧i≤lens.length∧OwnS M.A w W [.urow 3 1 ov (Fl.order lens l++Fl.ofTo lens (l+1) i).length (natsW (Fl.order lens l++Fl.ofTo lens (l+1) i)),tbE b lv cv (cnt lens) (fstW lens) ov,.mem N2]) (fun vs _=>lens.length - n0 vs) ⟨0,ov,rfl,by omega,by
   rw[show Fl.ofTo lens (l+1) 0=[] from rfl,List.append_nil];exact ho⟩ ?_
  clear ho;rintro vs w8 ⟨i,ov,rfl,hi,ho⟩ _;simp only[S_code_New_1,gd,rs,iN,dx];by_cases hlt2:(i:Int) < (lens.length:Int)
  ·have hi':i < lens.length:=by omega
   simp only[hlt2,decide_true,i_t];refine join fun J hJ=>?_;obtain⟨b2,off,r1,r2⟩:=nats_at (hsl.now (ho.hasM 2 rfl)) hi';have hgd:lens.getD i 0=lens[i]:=by rw[List.getD_eq_getElem?_getD,List.getElem?_eq_getElem hi'];rfl
   refine do_eq (r1 w8) |>.mpr (do_eq (run_load_cell nInt5 r2) |>.mpr ?_);have hot:=Fl.ofTo_le lens (l+1) i;have hrg:Fl.ofTo lens (l+1) (i+1)=Fl.ofTo lens (l+1) i++(if lens[i]=l+1 then [i] else []):=by
    unfold Fl.ofTo;rw[List.range_succ,List.filter_append]
    congr 1
    rw[←hgd];by_cases h:lens.getD i 0=l+1
    ·rw[if_pos h];exact List.filter_cons_of_pos (decide_eq_true h)
    ·rw[if_neg h];exact List.filter_cons_of_neg (by rw[decide_eq_false h];decide)
   have fin:∀(W:World) (ov:Value),OwnS M.A w W [.urow 3 1 ov (Fl.order lens l++Fl.ofTo lens (l+1) (i+1)).length (natsW (Fl.order lens l++Fl.ofTo lens (l+1) (i+1))),tbE b lv cv (cnt lens) (fstW lens) ov,.mem N2]→J [] W:=by
    intro W ov ho;refine hJ _ _ fun _=>?_;simp only[S_code_New_2,gd,rs,iN,dx];rw[wrap64_id (by omega) (by omega)];exact nextX ⟨i+1,ov,rfl,by omega,ho⟩ (by simp[n0,RowKit.intOf];omega)
   simp only[rs];by_cases he:lens[i]=l+1
   ·rw[if_pos he] at hrg;simp only[show decide (((lens[i]:Nat):Int)=((l+1:Nat):Int))=true from decide_eq_true (by omega),i_t,rs,m_nilP];rw[fa_tb4,tb_order ho 1 rfl];refine o_ints1 (i:Int) ho fun b3 w9 ho=>?_;refine o_apInt 1 ho rfl (ho.sl 0 rfl 1 1 1 rfl) intsW_one (by rw[List.length_append];omega) fun v' w10 ho=>?_
    try simp only[rs,m_nilP]
    rw[fa_tb4];refine tb_putO 2 (urow_one (ho.at_ 1 rfl)) ho rfl fun w11 ho=>?_;refine fin w11 v' ?_;have e1:natsW (Fl.order lens l++Fl.ofTo lens (l+1) (i+1))=natsW (Fl.order lens l++Fl.ofTo lens (l+1) i)++intsW [(i:Int)]:=by
     rw[hrg,←List.append_assoc,natsW_app];rfl
    have e2:(Fl.order lens l++Fl.ofTo lens (l+1) (i+1)).length=(Fl.order lens l++Fl.ofTo lens (l+1) i).length+1:=by
     rw[hrg,←List.append_assoc,List.length_append];rfl
    rw[e1,e2];exact ho.tail
   ·rw[if_neg he,List.append_nil] at hrg;simp only[show decide (((lens[i]:Nat):Int)=((l+1:Nat):Int))=false from decide_eq_false (by omega),i_f];refine fin w8 ov ?_;rw[hrg];exact ho
  ·simp only[hlt2,decide_false,i_f];have hie:i=lens.length:=by omega
   subst hie;rw[wrap64_id (by omega) (by omega)];exact nextX ⟨l+1,ov,rfl,by omega,ho⟩ (by simp[n0,RowKit.intOf];omega)
 ·have hl:l=15:=by omega
  subst hl;simp only[hlt,decide_false,i_f];obtain⟨N3,g3,hrow,ho⟩:=OwnS.freezeU (L:=[tbE b lv cv (cnt lens) (fstW lens) ov,.mem N2]) ho 1 rfl;have ho:OwnS M.A w w7 [tbE b lv cv (cnt lens) (fstW lens) ov,.mem N3]:=ho;have his:=ho.at_ 0 rfl;obtain⟨N4,g4,hw4,hblk,ho⟩:=OwnS.freeze (L:=[.mem N3]) ho 0 rfl;refine hK _ _ N4 _ 0 ho rfl (g1.trans (g2.trans (g3.trans g4))) ?_;rw[if_neg (by simp[hc])];exact⟨b,rfl,lv,cv,ov,hblk b rfl,by rw[hw4];exact his,hrow.le g4⟩
end
section
open Eng Go.RowKit
def Fl.signG (lens:List Nat)(s:List UInt8):Nat→Nat→Nat→Nat→Nat×Nat×Int
|0,_,p,_=>(0,p,13)
|f+1,l,p,code=>if Fl.usedTo lens 15≤Fl.usedTo lens l then (0,p,13) else if 8*s.length≤p then (0,p,4)
  else if 2*code+Fl.bit s p < Fl.first lens (l+1)+lens.count (l+1) then ((Fl.order lens 15).getD (Fl.usedTo lens l+(2*code+Fl.bit s p - Fl.first lens (l+1))) 0,p+1,0)
  else Fl.signG lens s f (l+1) (p+1) (2*code+Fl.bit s p)
def Fl.sign (lens:List Nat)(s:List UInt8)(p:Nat):Nat×Nat×Int:=Fl.signG lens s 16 0 p 0
theorem Fl.lens_map (lens:List Nat):(List.range lens.length).map (fun i=>lens.getD i 0)=lens:=by
 refine List.ext_getElem (by simp) fun i h1 h2=>?_;rw[List.getElem_map,List.getElem_range,List.getD_eq_getElem?_getD,List.getElem?_eq_getElem h2];rfl
theorem Fl.ofLen_len (lens:List Nat)(l:Nat):(Fl.ofLen lens l).length=lens.count l:=by
 conv=>rhs;rw[←Fl.lens_map lens]
 rw[List.count_eq_countP,List.countP_map,List.countP_eq_length_filter];unfold Fl.ofLen
 congr 1
theorem Fl.order_len (lens:List Nat):∀l,(Fl.order lens l).length=Fl.usedTo lens l
|0=>rfl
|l+1=>by rw[Fl.order,List.length_append,Fl.order_len lens l,Fl.ofLen_len,Fl.usedTo]
theorem Fl.used_mono (lens:List Nat){a b:Nat}(h:a≤b):Fl.usedTo lens a≤Fl.usedTo lens b:=by
 induction b with
|zero=>
  have:a=0:=by omega
  subst this;exact Nat.le_refl _
|succ b ih=>
  rcases Nat.lt_or_ge a (b+1) with h'|h'
  ·have:=ih (by omega);rw[Fl.usedTo];omega
  ·have:a=b+1:=by omega
   subst this;exact Nat.le_refl _
theorem or_low {c b:Nat}(hb:b < 2)(hc:c≤1000000):bOr .i64 ((c*2:Nat):Int) (b:Int)=((2*c+b:Nat):Int):=by
 have e:c*2 ||| b=2*c+b:=by
  have:=Nat.two_pow_add_eq_or_of_lt (i:=1) (b:=b) (by simpa using hb) c;rw[Nat.mul_comm c];simpa using this.symm
 unfold bOr;show IntKind.wrap .i64 (((BitVec.ofInt 64 ((c*2:Nat):Int) ||| BitVec.ofInt 64 (b:Int)).toNat:Nat):Int)=_;rw[BitVec.ofInt_natCast,BitVec.ofInt_natCast,BitVec.toNat_or,BitVec.toNat_ofNat,BitVec.toNat_ofNat,Nat.mod_eq_of_lt (by omega),Nat.mod_eq_of_lt (by omega),e];exact wrap64_id (by omega) (by omega)
theorem tb_is {M:Mem}{W:World}{b:Nat}{a c o:Value}{f g:Nat→Int}(hA:M.A b)(h:(tbE b a c f g o).is M.w)(hM:M.has W):(tbE b a c f g o).is W:=by
 show W.heap[b]?=_;rw[hM b hA];exact h
section
variable {W:World}{b:Nat}{a c o:Value}{f g:Nat→Int}
theorem run_tbo (h:(tbE b a c f g o).is W):(mLoad 123 (.pointer (some ⟨b,0+34,none⟩))).run prog W=.ok (.value o) W:=run_load_cell nSlInt (cells_cell (T:=337) (cs:=tbC a c f g o) h rfl)
theorem run_tbn (h:(tbE b a c f g o).is W){i:Nat}(hi:i < 16):(mLoad 3 (.pointer (some ⟨b,0+2+i,none⟩))).run prog W=.ok (.value (.int .i64 (f i))) W:=run_load_cell nInt5 (cells_cell (T:=337) (cs:=tbC a c f g o) h (by
 unfold tbC;rw[show 0+2+i=i+1+1 by omega,List.getElem?_cons_succ,List.getElem?_cons_succ,List.getElem?_append_left (by show i < 16;exact hi)];exact nsC_get f hi))
theorem run_tbf (h:(tbE b a c f g o).is W){i:Nat}(hi:i < 16):(mLoad 3 (.pointer (some ⟨b,0+18+i,none⟩))).run prog W=.ok (.value (.int .i64 (g i))) W:=run_load_cell nInt5 (cells_cell (T:=337) (cs:=tbC a c f g o) h (by
 unfold tbC;rw[show 0+18+i=(i+16)+1+1 by omega,List.getElem?_cons_succ,List.getElem?_cons_succ,List.getElem?_append_right (by show 16≤i+16;omega)];show (nsC g++[o])[i+16 - 16]?=_;rw[Nat.add_sub_cancel,List.getElem?_append_left (by show i < 16;exact hi)];exact nsC_get g hi))
end
theorem sub_block16 {a:Option Addr}{l cap sz:Nat}{p:Addr}(h:subA a l cap sz=some p):∃q:Addr,a=some q∧q.block=p.block:=by
 unfold subA at h;split at h
 ·exact⟨p,h,rfl⟩
 ·obtain⟨q,hq,rfl⟩:=Option.map_eq_some_iff.1 h;exact⟨q,hq,by unfold Addr.add;split<;>rfl⟩
theorem SlA.drop16 {A:Nat→Prop}{w:World}{a:Option Addr}{n cap sz i:Nat}{cs:List Value}(h:SlA A w (.slice a n cap) sz n cs)(hi:i≤n):SlA A w (.slice (subA a i cap sz) (n - i) (cap - i)) sz (n - i) (cs.drop (i*sz)):=by
 have hc:=h.2.2 _ _ _ rfl;refine⟨Sl.from h.1 hi hc,fun p l c e hn=>?_,fun a' l c e=>?_⟩
 ·injection e with e _ _
  obtain⟨q,hq,hb⟩:=sub_block16 e;have:=h.2.1 q n cap (by rw[hq]) (by omega)
  rwa [←hb]
 ·injection e with _ e2 e3
  omega
theorem e_tbnil {w:World}{PK:PKT}{K:VWP}{xo yo:Operand}{b:Nat}:DoX prog (mEq .eql 294 xo yo (.pointer (some ⟨b,0,none⟩)) (.pointer none)) w PK K=K (.bool false) w:=do_eq (by kernel_rfl)
section
variable {w:World}{PK:PKT}{K:VWP}{S:Nat→Prop}{w0:World}{L:List Ent}
theorem c_tread {tb b:Nat}{s:List UInt8}{way:Int}{p:Nat}{lens:List Nat}{M:Mem}(j jm:Nat)(hjm:jm≠j)(ho:OwnS S w0 w L)(hj:L[j]?=some (bqE b s way p))(hm:L[jm]?=some (.mem M))(ht:TbAt M.A M.w tb lens)(hl:lens.length≤1000)(hw:way=0∨way=1)(hp:p≤8*s.length)(hs:s.length≤1000000000)
  (k:∀way' W,way'=0∨way'=1→(Fl.sign lens s p).2.1≤8*s.length→OwnS S w0 W (L.set j (bqE b s way' (Fl.sign lens s p).2.1))→K (.tuple #[.int .i64 (Fl.sign lens s p).1,.int .i64 (Fl.sign lens s p).2.2]) W) :
  CallX prog 347 #[.pointer (some ⟨tb,0,none⟩),.pointer (some ⟨b,0,none⟩)] w PK K:=by
 have hjl:j < L.length:=(List.getElem?_eq_some_iff.1 hj).1;generalize hR:Fl.sign lens s p=R at k;refine c_any (S_code_Table_Read_ok (K:=RetK fun v W=>∃way',(way'=0∨way'=1)∧R.2.1≤8*s.length∧v=.tuple #[.int .i64 R.1,.int .i64 R.2.2]∧OwnS S w0 W (L.set j (bqE b s way' R.2.1))) ?_) (fun e W ⟨v,he,way',h1,h2,hv,ho⟩=>by subst he;subst hv;exact k way' W h1 h2 ho);unfold S_code_Table_Read iN dx gfx efx;obtain⟨ta,tc,tv,hA,his,hord⟩:=ht;rw[e_tbnil];simp only[rs];rw[e_rdnil];simp only[rs,m_nilP];have hmj:∀x:Int×Nat,(L.set j (bqE b s x.1 x.2))[jm]?=some (.mem M):=fun x=>by rw[List.getElem?_set_ne (Ne.symm hjm)];exact hm
 rw[fa_tb4];refine do_eq (run_tbo (tb_is hA his (ho.hasM jm hm))) |>.mpr ?_;have hlen:=Fl.order_len lens 15;refine loop (fun vs W=>∃(l q code:Nat) (way:Int) (lv:Value),vs=[lv,.int .i64 code,.int .i64 ((l+1:Nat):Int)]∧SlA M.A M.w lv 1 (Fl.usedTo lens 15 - Fl.usedTo lens l) (natsW ((Fl.order lens 15).drop (Fl.usedTo lens l)))∧l≤15∧code < 2 ^ l∧Fl.first lens (l+1)≤2*code∧(way=0∨way=1)∧q≤8*s.length ∧
  Fl.signG lens s (16 - l) l q code=R∧OwnS S w0 W (L.set j (bqE b s way q))) (fun vs _=>16 - n2 vs) ⟨0,p,0,way,tv,rfl,?_,by omega,by decide,by simp[Fl.first],hw,hp,hR,by rw[set_same hj];exact ho⟩ ?_
 ·rw[show Fl.usedTo lens 0=0 from rfl,List.drop_zero,Nat.sub_zero,←hlen];exact hord
 clear ho;rintro vs w2 ⟨l,q,code,way,lv,rfl,hlv,hl15,hcd,hfc,hw,hq,hg,ho⟩ _;simp only[S_code_Table_Read_0,gd,iN,dx,cx];rw[sl_len Tryz.underlying123 (hlv.now (ho.hasM jm (hmj (way,q))))];simp only[rs];have hum:=Fl.used_mono lens hl15;have hub:=Fl.usedTo_le (lens:=lens) 15;have hml:16 - l=(15 - l)+1:=by omega
 rw[hml,Fl.signG] at hg;have hji:(L.set j (bqE b s way q))[j]?=some (bqE b s way q):=by rw[List.getElem?_set_self hjl]
 by_cases hlt:(0:Int) < ((Fl.usedTo lens 15 - Fl.usedTo lens l:Nat):Int)
 case neg=>
  simp only[hlt,decide_false,i_f];rw[if_pos (by omega)] at hg;subst hg;exact retK ⟨way,hw,hq,rfl,ho⟩
 have hl14:l < 15:=by
  rcases Nat.lt_or_ge l 15 with h|h
  ·exact h
  ·have:l=15:=by omega
   subst this;omega
 rw[if_neg (by omega)] at hg;simp only[hlt,decide_true,i_t];refine c_low (n:=1) j ho hji hw hq (by omega) hs (fun h1 W ho=>?_) (fun h1 W ho=>?_)
 ·rw[if_pos (by decide),List.set_set] at ho;rw[if_neg (by omega)] at hg;have hnum:Fl.num s q 1=Fl.bit s q:=by simp[Fl.num]
  simp only[ex,n_err,show decide ((0:Int)≠0)=false by decide,i_f];have hb:=Fl.bit_lt s q;have hp15:2 ^ l≤2 ^ 14:=Nat.pow_le_pow_right (by decide) (by omega);have h214:(2:Nat) ^ 14=16384:=by decide
  rw[b_shl (by decide)];rw[show (code:Int)*2 ^ (min (1:Int).toNat IntKind.i64.bits)=((code*2:Nat):Int) by
   rw[show min (1:Int).toNat IntKind.i64.bits=1 from rfl];push_cast;omega]
  rw[wrap64_id (by omega) (by omega),hnum,b_or,or_low hb (by omega)];have hM:=ho.hasM jm (hmj (1,q+1));have his2:=tb_is hA his hM
  try simp only[rs,m_nilP]
  rw[fa_tb3,ns_ia (by omega)];refine do_eq (run_tbf his2 (by omega)) |>.mpr ?_;have hfst:fstW lens (l+1)=((Fl.first lens (l+1):Nat):Int):=by show ((Fl.first lens (if l+1≤15 then l+1 else 0):Nat):Int)=_;rw[if_pos (by omega)]
  have hcn:cnt lens (l+1)=((lens.count (l+1):Nat):Int):=by unfold cnt;rw[if_neg (by omega)]
  have hcb:lens.count (l+1)≤lens.length:=List.count_le_length;rw[hfst]
  try simp only[rs,m_nilP]
  rw[wrap64_id (by omega) (by omega),fa_tb2,ns_ia (by omega)];refine do_eq (run_tbn his2 (by omega)) |>.mpr ?_;rw[hcn]
  try simp only[rs]
  have hus:Fl.usedTo lens (l+1)=Fl.usedTo lens l+lens.count (l+1):=by rw[Fl.usedTo]
  have hum2:=Fl.used_mono lens (show l+1≤15 by omega);by_cases hin:((2*code+Fl.bit s q:Nat):Int) - ((Fl.first lens (l+1):Nat):Int) < ((lens.count (l+1):Nat):Int)
  ·simp only[hin,decide_true,i_t];rw[if_pos (by omega)] at hg;have hdl:((Fl.order lens 15).drop (Fl.usedTo lens l)).length=Fl.usedTo lens 15 - Fl.usedTo lens l:=by rw[List.length_drop,hlen]
   have hki:2*code+Fl.bit s q - Fl.first lens (l+1) < ((Fl.order lens 15).drop (Fl.usedTo lens l)).length:=by omega
   obtain⟨b2,off,r1,r2⟩:=nats_at (l:=(Fl.order lens 15).drop (Fl.usedTo lens l)) (by rw[hdl];exact hlv.now hM) hki;rw[show ((2*code+Fl.bit s q:Nat):Int) - ((Fl.first lens (l+1):Nat):Int)=((2*code+Fl.bit s q - Fl.first lens (l+1):Nat):Int) by omega];refine do_eq (r1 W) |>.mpr (do_eq (run_load_cell nInt5 r2) |>.mpr ?_);have e0:((Fl.order lens 15).drop (Fl.usedTo lens l))[2*code+Fl.bit s q - Fl.first lens (l+1)]=(Fl.order lens 15).getD (Fl.usedTo lens l+(2*code+Fl.bit s q - Fl.first lens (l+1))) 0:=by
    rw[List.getElem_drop,List.getD_eq_getElem?_getD,List.getElem?_eq_getElem (by rw[List.length_drop] at hki;omega)];rfl
   rw[e0];generalize (Fl.order lens 15).getD (Fl.usedTo lens l+(2*code+Fl.bit s q - Fl.first lens (l+1))) 0=sym at hg;subst hg;exact retK ⟨1,.inr rfl,by show q+1≤_;omega,rfl,ho⟩
  ·simp only[hin,decide_false,i_f];rw[if_neg (by omega)] at hg
   try simp only[rs,m_nilP]
   rw[fa_tb2,ns_ia (by omega)];refine do_eq (run_tbn his2 (by omega)) |>.mpr ?_;rw[hcn];obtain⟨oa,oc,rfl,hcap⟩:=hlv.form;refine do_eq (run_sl_l Tryz.underlying123 (show _=some 1 by kernel_rfl) (by omega) (by omega)) |>.mpr ?_;rw[Int.toNat_natCast]
   try simp only[rs]
   rw[wrap64_id (by omega) (by omega)];refine nextX ⟨l+1,q+1,2*code+Fl.bit s q,1,_,rfl,?_,by omega,?_,?_,.inr rfl,by omega,?_,ho⟩ (by simp[n2,RowKit.intOf];omega)
   ·have:=hlv.drop16 (i:=lens.count (l+1)) (by omega);rw[show Fl.usedTo lens 15 - Fl.usedTo lens (l+1)=Fl.usedTo lens 15 - Fl.usedTo lens l - lens.count (l+1) by omega];have e:(natsW ((Fl.order lens 15).drop (Fl.usedTo lens l))).drop (lens.count (l+1)*1)=natsW ((Fl.order lens 15).drop (Fl.usedTo lens (l+1))):=by
     unfold natsW;rw[Nat.mul_one,←List.map_drop,List.drop_drop,hus]
    rw[←e];exact this
   ·rw[Nat.pow_succ];omega
   ·rw[Fl.first];omega
   ·rw[show 16 - (l+1)=15 - l by omega];exact hg
 ·simp only[ex,n_err,show decide ((4:Int)≠0)=true by decide,i_t];rw[if_pos (by omega)] at hg;subst hg;exact retK ⟨way,hw,hq,rfl,ho⟩
end
end
section
open Eng Go.RowKit
def flC (rb:Nat)(ov:Value)(most:Int):List Value:=[.pointer (some ⟨rb,0,none⟩),ov,.int .i64 most]
def flE (b rb:Nat)(ov:Value)(most:Int):Ent:=.cells b (flC rb ov most) 278
def outR (ov:Value)(out:List UInt8):Ent:=.urow 5 1 ov out.length (bytesV out)
theorem fo_fl0:fOff prog 278 0=some 0:=by kernel_rfl
theorem fo_fl1:fOff prog 278 1=some 1:=by kernel_rfl
theorem fo_fl2:fOff prog 278 2=some 2:=by kernel_rfl
theorem nPtrRd:notAgg prog 275=true:=by kernel_rfl
theorem nSlU8:notAgg prog 53=true:=by kernel_rfl
section
variable {w:World}{PK:PKT}{K:VWP}{S:Nat→Prop}{w0:World}{L:List Ent}
theorem fa_fl0 {b off:Nat}:DoX prog (mFA 278 (.pointer (some ⟨b,off,none⟩)) 0) w PK K=K (.pointer (some ⟨b,off,none⟩)) w:=f_addr fo_fl0
theorem fl_rd (ho:OwnS S w0 w L)(j:Nat){b rb:Nat}{ov:Value}{most:Int}(hi:L[j]?=some (flE b rb ov most)):DoX prog (mLoad 275 (.pointer (some ⟨b,0,none⟩))) w PK K=K (.pointer (some ⟨rb,0,none⟩)) w:=l_cell nPtrRd (ho.cell j hi 0 rfl)
theorem c_ibits {fb b:Nat}{ov:Value}{most:Int}{s:List UInt8}{way:Int}{p n:Nat}(jf j:Nat)(ho:OwnS S w0 w L)(hjf:L[jf]?=some (flE fb b ov most))(hj:L[j]?=some (bqE b s way p))(hw:way=0∨way=1)(hp:p≤8*s.length)(hn:n≤24)(hs:s.length≤1000000000)
  (k1:p+n≤8*s.length→∀W,OwnS S w0 W (L.set j (bqE b s (if 0 < n then 1 else way) (p+n)))→K (.int .i64 (Fl.num s p n)) W)
  (k2:8*s.length < p+n→∀W,OwnS S w0 W L→PK [upI 4] W):CallX prog 305 #[.pointer (some ⟨fb,0,none⟩),.int .i64 (n:Int)] w PK K:=by
 refine⟨S_inflate_flate_bits_ok ?_⟩;unfold S_inflate_flate_bits dx cx;rw[m_nilP,fa_fl0,fl_rd ho jf hjf];refine c_low j ho hj hw hp hn hs (fun h1 W ho=>?_) (fun h1 W ho=>?_)
 ·simp only[ex];exact c_imustI (fun _=>k1 h1 W ho) (fun h=>absurd rfl h)
 ·simp only[ex];exact c_imustI (fun h=>absurd h (by decide)) (fun _=>k2 h1 W ho)
theorem c_room {fb b:Nat}{ov:Value}{most n:Nat}{out:List UInt8}(jf jo:Nat)(ho:OwnS S w0 w L)(hjf:L[jf]?=some (flE fb b ov most))(hjo:L[jo]?=some (outR ov out))(hn:n≤1000000000)(hm:most≤1000000000)(hol:out.length≤1000000000)
  (k1:out.length+n≤most→∀W,OwnS S w0 W L→K (.tuple #[]) W) (k2:most < out.length+n→∀W,OwnS S w0 W L→PK [upI 5] W):CallX prog 334 #[.pointer (some ⟨fb,0,none⟩),.int .i64 (n:Int)] w PK K:=by
 refine⟨S_inflate_flate_room_ok ?_⟩;unfold S_inflate_flate_room iN cx;refine quietC (fun W=>OwnS S w0 W L) ho.drew ?_;refine q_do _ (fun _=>run_nil) (q_do _ (fun _=>run_fa fo_fl1) (q_at ov (fun W h=>run_load_cell nSlU8 (h.cell jf hjf 1 rfl)) ?_));refine q_at (.int .i64 (out.length:Int)) (fun W h=>?_) ?_
 ·have:=h.slU jo hjo;obtain⟨_,a,cap,rfl,_⟩:=this;simp[mB,builtin,Builtin.len_,run_underlying Tryz.underlying53,goInt]
 refine q_add ?_;rw[wrap64_id (by omega) (by omega)];refine q_do _ (fun _=>run_nil) (q_do _ (fun _=>run_fa fo_fl2) (q_at (.int .i64 (most:Int)) (fun W h=>run_load_cell nInt5 (h.cell jf hjf 2 rfl)) (q_leq ?_)));intro w2 ho;exact c_ineed (fun h=>k1 (by have:=of_decide_eq_true h;omega) w2 ho) (fun h=>k2 (by have:=of_decide_eq_false h;omega) w2 ho)
theorem c_imustT {v:Value}{e:Int}(kr:e=0→K v w)(kp:e≠0→PK [upI e] w):CallX prog 338 #[v,.int .i64 e] w PK K:=by
 refine⟨S_inflate_must_foliant_code_Table_ok ?_⟩;unfold S_inflate_must_foliant_code_Table iN dx cx;simp only[rs];exact c_ineed (fun h=>kr (of_decide_eq_true h)) fun h=>kp (of_decide_eq_false h)
end
end
section
open Eng Go.RowKit
def Fl.spr (each first:Nat):Nat→Nat
|0=>first
|i+1=>Fl.spr each first i+2 ^ (i / each - 1)
theorem Fl.spr_le (each first:Nat):∀i,i≤40→Fl.spr each first i≤first+i*2 ^ 40
|0,_=>by simp[Fl.spr]
|i+1,h=>by
  have h1:=Fl.spr_le each first i (by omega)
  have h3:i / each≤i:=Nat.div_le_self _ _;have h2:2 ^ (i / each - 1)≤2 ^ 40:=Nat.pow_le_pow_right (by decide) (by omega);rw[Fl.spr,Nat.succ_mul];omega
def snC (a b:Int):List Value:=[.int .i64 a,.int .i64 b]
def snV (a b:Int):Value:=.agg (snC a b).toArray
def snE (bl:Nat)(a b:Int):Ent:=.cells bl (snC a b) 371
theorem aggSn:aggN prog 371=some 2:=by kernel_rfl
theorem szSn:(Tryz.prog.info? 371).map (·.size)=some 2:=by kernel_rfl
theorem fo_sn0:fOff prog 371 0=some 0:=by kernel_rfl
theorem fo_sn1:fOff prog 371 1=some 1:=by kernel_rfl
section
variable {w:World}{PK:PKT}{K:VWP}{S:Nat→Prop}{w0:World}{L:List Ent}
theorem o_sna (ho:OwnS S w0 w L)(k:∀b w',OwnS S w0 w' (snE b 0 0::L)→K (.pointer (some ⟨b,0,none⟩)) w'):DoX prog (mAlloc 371) w PK K:=
 o_new (fun b=>.pointer (some ⟨b,0,none⟩)) (snC 0 0) 371 (fun _=>by kernel_rfl) ho k
theorem o_snb (a c:Int)(ho:OwnS S w0 w L)(k:∀b w',OwnS S w0 w' (snE b a c::L)→K (.pointer (some ⟨b,0,none⟩)) w'):DoX prog (mBox 371 (snV a c)) w PK K:=
 o_new (fun b=>.pointer (some ⟨b,0,none⟩)) (snC a c) 371 (fun _=>by kernel_rfl) ho k
theorem m_sn {a c:Int}:DoX prog (mBuild 371 #[(0,.int .i64 a),(1,.int .i64 c)]) w PK K=K (snV a c) w:=do_eq (by kernel_rfl)
theorem m_sn1 {a:Int}:DoX prog (mBuild 371 #[(0,.int .i64 a)]) w PK K=K (snV a 0) w:=do_eq (by kernel_rfl)
theorem sn_put (j:Nat){b:Nat}{a c a' c':Int}(ho:OwnS S w0 w L)(hi:L[j]?=some (snE b a c))(k:∀w',OwnS S w0 w' (L.set j (snE b a' c'))→K undef w') :
  DoX prog (mStore 371 (.pointer (some ⟨b,0,none⟩)) (snV a' c')) w PK K:=o_put j ho hi (new:=snC a' c') szSn (by intro v hv;simp only[snC,List.mem_cons,List.not_mem_nil,or_false] at hv;rcases hv with rfl|rfl<;>rfl) rfl k
theorem ret_sn {K:Ending→World→Prop}{b:Nat}{a c:Int}(i:Nat)(ho:OwnS S w0 w L)(hi:L[i]?=some (snE b a c))(k:K (.returned (snV a c)) w):RetX prog [.cell (.pointer (some ⟨b,0,none⟩)) 371] w K:=
 ret_v1 (rv_cell (ho.agg i hi aggSn)) k
end
theorem spread_ret (i first each:Nat)(w:World)(hi:i≤40)(he:1≤each)(hf:first≤1000):Ret prog 364 #[.int .i64 (i:Int),.int .i64 (first:Int),.int .i64 (each:Int)] w (fun v w'=>v=snV (Fl.spr each first i) ((i / each - 1:Nat):Int)∧Below w.heap.size w w'):=by
 refine ret_of fun K hK=>S_inflate_spread_ok ?_;unfold S_inflate_spread iN dx;refine o_sna (Own.start w) fun b w1 ho=>?_;have ho:Own w w1 [snE b 0 0]:=ho;have more:∀q:Nat,max 0 (((q:Nat):Int) - 1)=((q - 1:Nat):Int):=fun q=>by omega
 have quo:∀k:Nat,((k:Nat):Int).tdiv (each:Int)=((k / each:Nat):Int):=fun k=>by
  rw[Int.tdiv_eq_ediv_of_nonneg (by omega)];rfl
 refine loop (fun vs W=>∃k:Nat,vs=[.int .i64 (Fl.spr each first k),.int .i64 k]∧k≤i∧Own w W [snE b 0 0]) (fun vs _=>i - n1 vs) ⟨0,rfl,by omega,ho⟩ ?_;clear ho;rintro vs w2 ⟨k,rfl,hk,ho⟩ _;simp only[S_inflate_spread_0,gd,rs,iN,dx];by_cases hlt:(k:Int) < (i:Int)
 ·simp only[hlt,decide_true,i_t];have hkd:k / each≤k:=Nat.div_le_self _ _;have hsp:=Fl.spr_le each first (k+1)
  rw[Fl.spr] at hsp;have hnx:Fl.spr each first (k+1)=Fl.spr each first k+2 ^ (k / each - 1):=rfl
  rw[b_quo (by omega),quo];generalize k / each=kq at *;rw[wrap64_id (by omega) (by omega)]
  try simp only[rs]
  rw[wrap64_id (by omega) (by omega),m_max64,more,b_shl (by omega)];have hsp:=hsp (by omega);have h40:(2:Nat) ^ 40=1099511627776:=by decide
  have hpl:2 ^ (kq - 1)≤2 ^ 40:=Nat.pow_le_pow_right (by decide) (by omega);rw[show min ((kq - 1:Nat):Int).toNat IntKind.i64.bits=kq - 1 by show min ((kq - 1:Nat):Int).toNat 64=kq - 1;omega];rw[show (1:Int)*2 ^ (kq - 1)=((2 ^ (kq - 1):Nat):Int) by push_cast;omega];have hm:(k+1)*2 ^ 40≤41*2 ^ 40:=Nat.mul_le_mul_right _ (by omega);generalize hq:2 ^ (kq - 1)=q at *;rw[wrap64_id (by omega) (by omega)]
  try simp only[rs]
  rw[wrap64_id (by omega) (by omega),wrap64_id (by omega) (by omega)];exact nextX ⟨k+1,by rw[hnx];rfl,by omega,ho⟩ (by simp[n1,RowKit.intOf];omega)
 ·simp only[hlt,decide_false,i_f];have hki:k=i:=by omega
  subst hki;have hkd:k / each≤k:=Nat.div_le_self _ _;have hsp:=Fl.spr_le each first (k+1)
  rw[Fl.spr] at hsp;have hnx:Fl.spr each first (k+1)=Fl.spr each first k+2 ^ (k / each - 1):=rfl
  rw[b_quo (by omega),quo];generalize k / each=kq at *;rw[wrap64_id (by omega) (by omega)]
  try simp only[rs]
  rw[wrap64_id (by omega) (by omega),m_max64,more,m_sn];have ho:OwnS NoB w w2 [snE b 0 0]:=ho;refine sn_put 0 ho rfl fun w3 ho=>?_;exact ret_sn 0 ho rfl (hK _ _ ⟨rfl,ho.below⟩)
end
section
open Eng Go.RowKit
def Fl.sizeF (i:Nat):Nat:=if i=28 then 258 else Fl.spr 4 3 i
def Fl.sizeB (i:Nat):Nat:=if i=28 then 0 else i / 4 - 1
def Fl.farF (i:Nat):Nat:=Fl.spr 2 1 i
def Fl.farB (i:Nat):Nat:=i / 2 - 1
theorem isize_ret (i:Nat)(w:World)(hi:i≤28):Ret prog 357 #[.int .i64 (i:Int)] w (fun v w'=>v=snV (Fl.sizeF i) (Fl.sizeB i)∧Below w.heap.size w w'):=by
 refine ret_of fun K hK=>S_inflate_size_ok ?_;unfold S_inflate_size iN dx cx;refine o_sna (Own.start w) fun b w1 ho=>?_;have ho:OwnS NoB w w1 [snE b 0 0]:=ho;simp only[rs];by_cases h:(i:Int)=28
 ·have hi:i=28:=by omega
  subst hi;simp only[h,decide_true,i_t];rw[m_sn1];refine sn_put 0 ho rfl fun w3 ho=>?_;exact ret_sn 0 ho rfl (hK _ _ ⟨rfl,ho.below⟩)
 ·simp only[h,decide_false,i_f];refine c_below ho (R:=fun v=>v=snV (Fl.spr 4 3 i) ((i / 4 - 1:Nat):Int)) (spread_ret i 3 4 w1 (by omega) (by omega) (by omega)) ?_;rintro _ w2 rfl ho;refine sn_put 0 ho rfl fun w3 ho=>?_;refine ret_sn 0 ho rfl (hK _ _ ⟨?_,ho.below⟩);unfold Fl.sizeF Fl.sizeB;rw[if_neg (by omega),if_neg (by omega)]
theorem ifar_ret (i:Nat)(w:World)(hi:i≤30):Ret prog 359 #[.int .i64 (i:Int)] w (fun v w'=>v=snV (Fl.farF i) (Fl.farB i)∧Below w.heap.size w w'):=by
 refine ret_of fun K hK=>S_inflate_far_ok ?_;unfold S_inflate_far iN dx cx;refine o_sna (Own.start w) fun b w1 ho=>?_;have ho:OwnS NoB w w1 [snE b 0 0]:=ho;refine c_below ho (R:=fun v=>v=snV (Fl.spr 2 1 i) ((i / 2 - 1:Nat):Int)) (spread_ret i 1 2 w1 (by omega) (by omega) (by omega)) ?_;rintro _ w2 rfl ho;refine sn_put 0 ho rfl fun w3 ho=>?_;exact ret_sn 0 ho rfl (hK _ _ ⟨rfl,ho.below⟩)
theorem itold_ret (a e m:Nat)(w:World)(ha:a≤1000000000)(he:e≤30)(hm:m < 2 ^ e):Ret prog 363 #[snV (a:Int) (e:Int),.int .i64 (m:Int)] w (fun v w'=>v=.tuple #[.int .i64 ((a+m:Nat):Int),.int .i64 0]∧Below w.heap.size w w'):=by
 refine ret_of fun K hK=>S_inflate_span_told_ok ?_;unfold S_inflate_span_told iN dx gfx efx;refine o_snb _ _ (Own.start w) fun b w1 ho=>?_;have ho:OwnS NoB w w1 [snE b a e]:=ho;have hp:2 ^ e≤2 ^ 30:=Nat.pow_le_pow_right (by decide) he;have h30:(2:Nat) ^ 30=1073741824:=by decide
 simp only[rs,show decide ((m:Int) < 0)=false from decide_eq_false (by omega)];rw[f_addr fo_sn1,l_cell nInt5 (ho.cell 0 rfl 1 rfl),b_shl (by omega)];rw[show min (e:Int).toNat IntKind.i64.bits=e by show min (e:Int).toNat 64=e;omega];rw[show (1:Int)*2 ^ e=((2 ^ e:Nat):Int) by push_cast;omega,wrap64_id (by omega) (by omega)];simp only[rs,show decide (((2 ^ e:Nat):Int)≤(m:Int))=false from decide_eq_false (by omega)];rw[f_addr fo_sn0,l_cell nInt5 (ho.cell 0 rfl 0 rfl)];simp only[rs];rw[wrap64_id (by omega) (by omega)];exact hK _ _ ⟨rfl,ho.below⟩
theorem Fl.sizeF_le {i:Nat}(h:i≤28):Fl.sizeF i≤1000∧Fl.sizeB i≤5:=by
 have:i=0∨i=1∨i=2∨i=3∨i=4∨i=5∨i=6∨i=7∨i=8∨i=9∨i=10∨i=11∨i=12∨i=13∨i=14∨i=15∨i=16∨i=17∨i=18∨i=19∨i=20∨i=21∨i=22∨i=23∨i=24∨i=25∨i=26∨i=27∨i=28:=by omega
 rcases this with rfl|rfl|rfl|rfl|rfl|rfl|rfl|rfl|rfl|rfl|rfl|rfl|rfl|rfl|rfl|rfl|rfl|rfl|rfl|rfl|rfl|rfl|rfl|rfl|rfl|rfl|rfl|rfl|rfl<;>decide
theorem Fl.farF_le {i:Nat}(h:i≤29):Fl.farF i≤100000∧Fl.farB i≤13:=by
 have:i=0∨i=1∨i=2∨i=3∨i=4∨i=5∨i=6∨i=7∨i=8∨i=9∨i=10∨i=11∨i=12∨i=13∨i=14∨i=15∨i=16∨i=17∨i=18∨i=19∨i=20∨i=21∨i=22∨i=23∨i=24∨i=25∨i=26∨i=27∨i=28∨i=29:=by omega
 rcases this with rfl|rfl|rfl|rfl|rfl|rfl|rfl|rfl|rfl|rfl|rfl|rfl|rfl|rfl|rfl|rfl|rfl|rfl|rfl|rfl|rfl|rfl|rfl|rfl|rfl|rfl|rfl|rfl|rfl|rfl<;>decide
theorem iSize_ret (i m:Nat)(w:World)(hi:i≤28)(hm:m < 2 ^ Fl.sizeB i):Ret prog 356 #[.int .i64 ((257+i:Nat):Int),.int .i64 (m:Int)] w (fun v w'=>v=.tuple #[.int .i64 ((Fl.sizeF i+m:Nat):Int),.int .i64 0]∧Below w.heap.size w w'):=by
 refine ret_of fun K hK=>S_inflate_Size_ok ?_;unfold S_inflate_Size iN dx gfx efx cx;have ho:OwnS NoB w w []:=Own.start w;obtain⟨h1,h2⟩:=Fl.sizeF_le hi;simp only[rs,show decide (((257+i:Nat):Int) < 257)=false from decide_eq_false (by omega),show decide ((285:Int) < ((257+i:Nat):Int))=false from decide_eq_false (by omega)];rw[wrap64_id (by omega) (by omega),show ((257+i:Nat):Int) - 257=(i:Int) by omega];refine c_below ho (R:=fun v=>v=snV (Fl.sizeF i) (Fl.sizeB i)) (isize_ret i w hi) ?_;rintro _ w2 rfl ho;refine c_below ho (R:=fun v=>v=.tuple #[.int .i64 ((Fl.sizeF i+m:Nat):Int),.int .i64 0]) (itold_ret _ _ m w2 (by omega) (by omega) hm) ?_;rintro _ w3 rfl ho;simp only[ex];exact hK _ _ ⟨rfl,ho.below⟩
theorem iFar_ret (i m:Nat)(w:World)(hi:i≤29)(hm:m < 2 ^ Fl.farB i):Ret prog 358 #[.int .i64 (i:Int),.int .i64 (m:Int)] w (fun v w'=>v=.tuple #[.int .i64 ((Fl.farF i+m:Nat):Int),.int .i64 0]∧Below w.heap.size w w'):=by
 refine ret_of fun K hK=>S_inflate_Far_ok ?_;unfold S_inflate_Far iN dx gfx efx cx;have ho:OwnS NoB w w []:=Own.start w;obtain⟨h1,h2⟩:=Fl.farF_le hi;simp only[rs,show decide ((i:Int) < 0)=false from decide_eq_false (by omega),show decide ((29:Int) < (i:Int))=false from decide_eq_false (by omega)];refine c_below ho (R:=fun v=>v=snV (Fl.farF i) (Fl.farB i)) (ifar_ret i w (by omega)) ?_;rintro _ w2 rfl ho;refine c_below ho (R:=fun v=>v=.tuple #[.int .i64 ((Fl.farF i+m:Nat):Int),.int .i64 0]) (itold_ret _ _ m w2 (by omega) (by omega) hm) ?_;rintro _ w3 rfl ho;simp only[ex];exact hK _ _ ⟨rfl,ho.below⟩
end
section
namespace Eng
open Go.RowKit
theorem cell_heap {w w':World}{g j:Nat}(h:w'.heap[g]?=w.heap[g]?):w'.cell? ⟨g,j,none⟩=w.cell? ⟨g,j,none⟩:=by
 unfold World.cell?;simp only[h]
theorem append_keep {P:Program}{w w':World}{T E U:TypeId}{cs:Array Bool}{v' v2:Value}{g cap m n sz bytes:Nat}{xs news:List Value}(ht:P.underlying T=some (.slice E))(he:elB P E sz bytes=true)(hsz:0 < sz)
  (hown:(Ent.urow E sz (.slice (some ⟨g,0,none⟩) n cap) n xs).is w) (hs:Sl w v2 sz m news) (hm:0 < m) (h1:∀u∈news,u.oneCell'=true) (hb:(n+m)*bytes≤140737488355328) (hb2:n+m≤140737488355328)
  (r:(mB .append #[T,T] U cs #[.slice (some ⟨g,0,none⟩) n cap,v2]).run P w=.ok (.value v') w') (hi':(Ent.urow E sz v' (n+m) (xs++news)).is w') {j:Nat} {u:Value} (hj:xs[j]?=some u):w'.cell? ⟨g,j,none⟩=some u:=by
 obtain⟨i,z,hi,hz,hi1,hi2,hz1⟩:=elB_spec he;subst hi1;subst hi2;have hown:w.ownsRow 0 E i.size (.slice (some ⟨g,0,none⟩) n cap) n xs:=hown;have hi':w'.ownsRow 0 E i.size v' (n+m) (xs++news):=hi';obtain⟨hl,a,c,rfl,hn,hc⟩:=hs;have hmx:n+m≤maxLen:=by simp only[maxLen];omega
 cases a with
|none=>have:=hn rfl;omega
|some p=>
  have hh:∀j u,news[j]?=some u→w.cell? (p.add j)=some u:=by
   intro j u hj;obtain⟨hsp,hcell⟩:=hc p rfl;have:=hsp hm;obtain⟨b,off,spot⟩:=p;simp only at this hcell;subst this;rw[add_none];exact hcell j u hj
  have holds:∀j u,xs[j]?=some u→w.cell? ((⟨g,0,none⟩:Addr).add j)=some u:=hown.cells (g:=g) rfl;have hx1:=hown.1;rcases hown.2 with ⟨h,_⟩|⟨g',cap',cur,hv,hbg,hg,hnc,hcm,hcs,htake⟩
  ·cases h
  injection hv with e1 e2 e3
  injection e1 with e1
  injection e1 with e1
  subst e1;subst e3;by_cases hroom:n+m≤cap
  ·have hfit:n*i.size+news.length≤cur.size:=by rw[hl,hcs,←Nat.add_mul];exact Nat.mul_le_mul_right _ hroom
   have hr:=run_append_room (P:=P) w T U E i ht hi g n cap cur hg p m c news hl hh h1 hroom hfit;have:(mB .append #[T,T] U cs #[.slice (some ⟨g,0,none⟩) n cap,.slice (some p) m c]).run P w=.ok (.value (.slice (some ⟨g,0,none⟩) (n+m) cap)) (w.setRow g (cur.toList.take (n*i.size)++news++cur.toList.drop (n*i.size+news.length)).toArray):=by simp[mB,builtin,hr]
   rw[this] at r;cases r;have:=hi'.cells (g:=g) rfl j u (by rw[List.getElem?_append_left (List.getElem?_eq_some_iff.1 hj).1];exact hj);rw[add_none,Nat.zero_add] at this;exact this
  ·have hr:=run_append_grow (P:=P) w T U E i z ht hi hz ⟨g,0,none⟩ n cap xs hx1 holds p m c news hl hh (by omega) (by simp only[maxLen] at hmx;omega) (growslice_fits (by omega) hb);have:(mB .append #[T,T] U cs #[.slice (some ⟨g,0,none⟩) n cap,.slice (some p) m c]).run P w=.ok (.value (.slice (some ⟨w.heap.size,0,none⟩) (n+m) (grownCap w (n+m) cap E)))
    (w.drew.alloc (.cells (xs.toArray++news.toArray++Builtin.zeroCells z.cells (grownCap w (n+m) cap E - (n+m))) E)):=by simp[mB,builtin,hr]
   rw[this] at r;cases r;have hlt:g < w.heap.size:=(Array.getElem?_eq_some_iff.1 hg).1;have e:(w.drew.alloc (.cells (xs.toArray++news.toArray++Builtin.zeroCells z.cells (grownCap w (n+m) cap E - (n+m))) E)).heap[g]?=w.heap[g]?:=by first|exact heap_alloc_old w.drew _ hlt|exact heap_alloc_old w.drew _ _ hlt
   rw[cell_heap e];have:=holds j u hj;rw[add_none,Nat.zero_add] at this;exact this
theorem run_append_stringU {P:Program}{w:World}{T U2 E U:TypeId}{cs:Array Bool}{v:Value}{n:Nat}{xs:List Value}{l:List UInt8}(ht:P.underlying T=some (.slice E))(hu:P.underlying U2=some .string)(he:elB P E 1 1=true)(h8:P.underlying E=some (.int .u8))
  (hz8:(P.info? E).bind (·.zero)=some (.int .u8 0)) (hown:w.ownsRow 0 E 1 v n xs) (hb2:n+l.length≤140737488355328) :
  ∃v' w',(mB .append #[T,U2] U cs #[v,.string ⟨l.toArray⟩]).run P w=.ok (.value v') w'∧Turn (.urow E 1 v n xs) (.urow E 1 v' (n+l.length) (xs++bytesV l)) w w':=by
 obtain⟨v',w',r,t,_⟩:=run_append_string (P:=P) (U:=U) (cs:=cs) ht hu he h8 hz8 (World.ownsRowF_of hown) hb2;refine⟨v',w',r,t.grew,?_,t.new⟩;obtain⟨i,z,hi,hz,hi1,hi2,hz1⟩:=elB_spec he;have hz0:i.zero=some (.int .u8 0):=by rw[hi] at hz8;exact hz8
 have hsz:=str_size l;have hmx:n+(⟨l.toArray⟩:ByteArray).size≤maxLen:=by rw[hsz];simp only[maxLen];omega
 obtain⟨v2,w2,r1,r2,r3,r4⟩:=Lib.run_append_own_string (P:=P) w 0 T U2 U E i ht hu hi hz0 hi1 hi2 v n xs hown ⟨l.toArray⟩ hmx (by rw[hsz];omega) (Nat.zero_le _);rw[strCells_bytesV,hsz] at r2;have:(mB .append #[T,U2] U cs #[v,.string ⟨l.toArray⟩]).run P w=.ok (.value v2) w2:=by simp[mB,builtin,r1]
 rw[this] at r;cases r;exact r2
section
variable {S:Nat→Prop}{P:Program}{w:World}{PK:PKT}{K:VWP}
theorem o_appendK {w0:World}{L:List Ent}(i:Nat){T E U:TypeId}{cs:Array Bool}{v2:Value}{g cap sz bytes n m:Nat}{xs news:List Value}(ht:P.underlying T=some (.slice E))(he:elB P E sz bytes=true)(hsz:0 < sz)
  (ho:OwnS S w0 w L) (hi:L[i]?=some (.urow E sz (.slice (some ⟨g,0,none⟩) n cap) n xs)) (hs:Sl w v2 sz m news) (hm:0 < m) (h1:∀u∈news,u.oneCell'=true) (hb:(n+m)*bytes≤140737488355328) (hb2:n+m≤140737488355328)
  (k:∀v' w',(∀j u,xs[j]?=some u→w'.cell? ⟨g,j,none⟩=some u)→OwnS S w0 w' (L.set i (.urow E sz v' (n+m) (xs++news)))→K v' w'):DoX P (mB .append #[T,T] U cs #[.slice (some ⟨g,0,none⟩) n cap,v2]) w PK K:=by
 obtain⟨v',w',r,t⟩:=run_append_anyU (cs:=cs) (U:=U) ht he hsz (ho.at_ i hi) hs h1 hb hb2;exact do_ok r (k _ _ (fun j u hj=>append_keep ht he hsz (ho.at_ i hi) hs hm h1 hb hb2 r t.is hj) (ho.turn i hi t))
theorem o_appendSU {w0:World}{L:List Ent}(i:Nat){T U2 E U:TypeId}{cs:Array Bool}{v:Value}{n:Nat}{xs:List Value}{l:List UInt8}(ht:P.underlying T=some (.slice E))(hu:P.underlying U2=some .string)(he:elB P E 1 1=true)(h8:P.underlying E=some (.int .u8))
  (hz8:(P.info? E).bind (·.zero)=some (.int .u8 0)) (ho:OwnS S w0 w L) (hi:L[i]?=some (.urow E 1 v n xs)) (hb2:n+l.length≤140737488355328)
  (k:∀v' w',OwnS S w0 w' (L.set i (.urow E 1 v' (n+l.length) (xs++bytesV l)))→K v' w'):DoX P (mB .append #[T,U2] U cs #[v,.string ⟨l.toArray⟩]) w PK K:=by
 obtain⟨v',w',r,t⟩:=run_append_stringU (cs:=cs) (U:=U) ht hu he h8 hz8 (ho.at_ i hi) hb2;exact do_ok r (k _ _ (ho.turn i hi t))
end
end Eng
end
section
open Eng Go.RowKit
def Fl.back (d:Nat):Nat→List UInt8→List UInt8
|0,out=>out
|n+1,out=>Fl.back d n (out++[out.getD (out.length - d) 0])
theorem Fl.back_len (d:Nat):∀(n:Nat) (out:List UInt8),(Fl.back d n out).length=out.length+n
|0,out=>rfl
|n+1,out=>by rw[Fl.back,Fl.back_len d n,List.length_append,List.length_singleton];omega
theorem Fl.farF_pos (i:Nat):1≤Fl.farF i:=by
 unfold Fl.farF
 induction i with
|zero=>decide
|succ i ih=>exact Nat.le_trans ih (Nat.le_add_right _ _)
def Fl.copied (far:List Nat)(s:List UInt8)(p sign:Nat)(out:List UInt8)(most:Nat):List UInt8×Nat×Int:=
 if 285 < sign then (out,p,13)
 else if 8*s.length < p+Fl.sizeB (sign - 257) then (out,p,4)
 else
  let size:=Fl.sizeF (sign - 257)+Fl.num s p (Fl.sizeB (sign - 257))
  let r:=Fl.sign far s (p+Fl.sizeB (sign - 257))
  if r.2.2≠0 then (out,p,r.2.2)
  else if 29 < r.1 then (out,p,13)
  else if 8*s.length < r.2.1+Fl.farB r.1 then (out,p,4)
  else
   let d:=Fl.farF r.1+Fl.num s r.2.1 (Fl.farB r.1)
   if out.length < d then (out,p,14)
   else if most < out.length+size then (out,p,5)
   else (Fl.back d size out,r.2.1+Fl.farB r.1,0)
theorem run_snF {W:World}{a b:Int}:(mFld 371 (snV a b) 1).run prog W=.ok (.value (.int .i64 b)) W:=by kernel_rfl
theorem m_snF {w:World}{PK:PKT}{K:VWP}{a b:Int}:DoX prog (mFld 371 (snV a b) 1) w PK K=K (.int .i64 b) w:=do_eq run_snF
section
variable {w:World}{PK:PKT}{K:VWP}{S:Nat→Prop}{w0:World}{L:List Ent}
theorem fl_out (ho:OwnS S w0 w L)(j:Nat){b rb:Nat}{ov:Value}{most:Int}(hi:L[j]?=some (flE b rb ov most)):DoX prog (mLoad 53 (.pointer (some ⟨b,0+1,none⟩))) w PK K=K ov w:=l_cell nSlU8 (ho.cell j hi 1 rfl)
theorem fl_putO (j:Nat){b rb:Nat}{ov ov':Value}{most:Int}(h:ov'.oneCell'=true)(ho:OwnS S w0 w L)(hi:L[j]?=some (flE b rb ov most))(k:∀w',OwnS S w0 w' (L.set j (flE b rb ov' most))→K undef w') :
  DoX prog (mStore 53 (.pointer (some ⟨b,0+1,none⟩)) ov') w PK K:=o_store j ho hi (by kernel_rfl) h (by show 0+1 < 3;omega) k
theorem elU8:elB prog 5 1 1=true:=by kernel_rfl
theorem o_u81 (c:UInt8)(ho:OwnS S w0 w L)(k:∀b w',OwnS S w0 w' (.cells b (bytesV [c]) 5::L)→K (.slice (some ⟨b,0,none⟩) 1 1) w'):DoX prog (mBuildS 53 1 #[(0,.int .u8 (c.toNat:Int))]) w PK K:=
 o_new (fun b=>.slice (some ⟨b,0,none⟩) 1 1) (bytesV [c]) 5 (fun _=>by kernel_rfl) ho k
abbrev Fs (fb rb:Nat)(s:List UInt8)(most:Nat)(ov:Value)(way:Int)(p:Nat)(out:List UInt8)(R:List Ent):List Ent:=flE fb rb ov (most:Int)::bqE rb s way p::outR ov out::R
theorem run_out {W:World}{b rb:Nat}{ov:Value}{most:Int}(h:(flE b rb ov most).is W):(mLoad 53 (.pointer (some ⟨b,0+1,none⟩))).run prog W=.ok (.value ov) W:=run_load_cell nSlU8 (cells_cell (T:=278) (cs:=flC rb ov most) h rfl)
theorem out_sl {W:World}{ov:Value}{out:List UInt8}(h:(outR ov out).is W):Sl W ov 1 out.length (bytesV out):=Sl.urow h
theorem bytesV_get {l:List UInt8}{i:Nat}(hi:i < l.length):(bytesV l)[i]?=some (.int .u8 (l[i].toNat:Int)):=by
 unfold bytesV;rw[List.getElem?_map,List.getElem?_eq_getElem hi];rfl
theorem bytes_at {w:World}{v:Value}{l:List UInt8}(hs:Sl w v 1 l.length (bytesV l)){i:Nat}(hi:i < l.length) :
  ∃b off,(∀W,(mIA 53 v (.int .i64 (i:Int))).run prog W=.ok (.value (.pointer (some ⟨b,off+i,none⟩))) W)∧w.cell? ⟨b,off+i,none⟩=some (.int .u8 (l[i].toNat:Int)):=by
 obtain⟨b,off,cap,rfl,h2⟩:=sl_open hs (by omega);refine⟨b,off,fun W=>?_,h2 i _ (bytesV_get hi)⟩;have:=run_ia (P:=prog) (T:=53) (b:=b) (off:=off) (cap:=cap) (n:=l.length) (k:=.i64) (i:=(i:Int)) (w:=W) Tryz.underlying53 (show _=some 1 by kernel_rfl) (by omega) (by omega)
 rwa [Int.toNat_natCast,Nat.mul_one] at this
theorem nU8l:notAgg prog 5=true:=by kernel_rfl
theorem bytesV_one' {l:List UInt8}:∀u∈bytesV l,u.oneCell'=true:=by
 unfold bytesV;intro u hu;obtain⟨c,_,rfl⟩:=List.mem_map.1 hu;rfl
theorem c_copied {fb rb tb:Nat}{ov:Value}{s:List UInt8}{way:Int}{p most i:Nat}{out:List UInt8}{lens:List Nat}{M:Mem}{R:List Ent}(jm:Nat)(ho:OwnS S w0 w (Fs fb rb s most ov way p out R))(hm:R[jm]?=some (.mem M))(ht:TbAt M.A M.w tb lens)(hl:lens.length≤1000)(hw:way=0∨way=1)(hp:p≤8*s.length)(hs:s.length≤1000000000)(hmo:most≤1000000000)(hol:out.length≤most)(hi:i≤1000)
  (k1:(Fl.copied lens s p (257+i) out most).2.2=0→(Fl.copied lens s p (257+i) out most).2.1≤8*s.length→(Fl.copied lens s p (257+i) out most).1.length≤most→∀way' ov' W,(way'=0∨way'=1)→OwnS S w0 W (Fs fb rb s most ov' way' (Fl.copied lens s p (257+i) out most).2.1 (Fl.copied lens s p (257+i) out most).1 R)→K (.tuple #[]) W)
  (k2:(Fl.copied lens s p (257+i) out most).2.2≠0→∀ov' way' p' out' W,OwnS S w0 W (Fs fb rb s most ov' way' p' out' R)→PK [upI (Fl.copied lens s p (257+i) out most).2.2] W) :
  CallX prog 348 #[.pointer (some ⟨fb,0,none⟩),.int .i64 ((257+i:Nat):Int),.pointer (some ⟨tb,0,none⟩)] w PK K:=by
 generalize hX:Fl.copied lens s p (257+i) out most=X at k1 k2;refine⟨S_inflate_flate_copied_ok ?_⟩;unfold S_inflate_flate_copied iN dx cx;unfold Fl.copied at hX;simp only[rs];refine c_ineed (fun h1=>?_) (fun h1=>?_)
 rotate_left
 ·have:=of_decide_eq_false h1;rw[if_pos (by omega)] at hX;subst hX;exact k2 (by dsimp only;decide) _ _ _ _ _ ho
 have h1:=of_decide_eq_true h1;have hi28:i≤28:=by omega
 rw[if_neg (by omega),Nat.add_sub_cancel_left] at hX;obtain⟨hz1,hz2⟩:=Fl.sizeF_le hi28;rw[wrap64_id (by omega) (by omega),show ((257+i:Nat):Int) - 257=(i:Int) by omega];refine c_below ho (R:=fun v=>v=snV (Fl.sizeF i) (Fl.sizeB i)) (isize_ret i w hi28) ?_;rintro _ w1 rfl ho;rw[m_snF];refine c_ibits 0 1 ho rfl rfl hw hp (by omega) hs (fun h2 W ho=>?_) (fun h2 W ho=>?_)
 rotate_left
 ·rw[if_pos h2] at hX;subst hX;exact k2 (by dsimp only;decide) _ _ _ _ _ ho
 rw[if_neg (by omega)] at hX;dsimp only at hX;have hwy:(if 0 < Fl.sizeB i then (1:Int) else way)=0∨(if 0 < Fl.sizeB i then (1:Int) else way)=1:=by split;exact .inr rfl;exact hw
 have ho:OwnS S w0 W (Fs fb rb s most ov (if 0 < Fl.sizeB i then 1 else way) (p+Fl.sizeB i) out R):=ho;generalize (if 0 < Fl.sizeB i then (1:Int) else way)=way2 at ho hwy;have hnl:=Fl.num_lt s p (Fl.sizeB i);refine c_below ho (R:=fun v=>v=.tuple #[.int .i64 ((Fl.sizeF i+Fl.num s p (Fl.sizeB i):Nat):Int),.int .i64 0]) (iSize_ret i _ W hi28 hnl) ?_;rintro _ w2 rfl ho;simp only[ex];refine c_imustI (fun _=>?_) (fun h=>absurd rfl h);have hsz:Fl.sizeF i+Fl.num s p (Fl.sizeB i)≤100000:=by
  have:2 ^ Fl.sizeB i≤2 ^ 5:=Nat.pow_le_pow_right (by decide) hz2;omega
 generalize Fl.sizeF i+Fl.num s p (Fl.sizeB i)=sz at hX hsz
 try rw[m_nilP]
 rw[fa_fl0,fl_rd ho 0 rfl];refine c_tread 1 (jm+3) (by omega) ho rfl hm ht hl hwy (by omega) hs fun way3 W3 hw3 hp3 ho=>?_;have ho:OwnS S w0 W3 (Fs fb rb s most ov way3 (Fl.sign lens s (p+Fl.sizeB i)).2.1 out R):=ho;generalize Fl.sign lens s (p+Fl.sizeB i)=T at hX ho hp3;obtain⟨fi,q,e⟩:=T;dsimp only at hX ho hp3;simp only[ex];refine c_imustI (fun h3=>?_) (fun h3=>?_)
 rotate_left
 ·rw[if_pos h3] at hX;subst hX;exact k2 h3 _ _ _ _ _ ho
 rw[if_neg (by rw[h3];decide)] at hX;simp only[rs];refine c_ineed (fun h4=>?_) (fun h4=>?_)
 rotate_left
 ·have:=of_decide_eq_false h4;rw[if_pos (by omega)] at hX;subst hX;exact k2 (by dsimp only;decide) _ _ _ _ _ ho
 have h4:=of_decide_eq_true h4;have hf29:fi≤29:=by omega
 rw[if_neg (by omega)] at hX;obtain⟨hf1,hf2⟩:=Fl.farF_le hf29;refine c_below ho (R:=fun v=>v=snV (Fl.farF fi) (Fl.farB fi)) (ifar_ret fi W3 (by omega)) ?_;rintro _ w4 rfl ho;rw[m_snF];refine c_ibits 0 1 ho rfl rfl hw3 hp3 (by omega) hs (fun h5 W ho=>?_) (fun h5 W ho=>?_)
 rotate_left
 ·rw[if_pos h5] at hX;subst hX;exact k2 (by dsimp only;decide) _ _ _ _ _ ho
 rw[if_neg (by omega)] at hX;have hwy:(if 0 < Fl.farB fi then (1:Int) else way3)=0∨(if 0 < Fl.farB fi then (1:Int) else way3)=1:=by split;exact .inr rfl;exact hw3
 have ho:OwnS S w0 W (Fs fb rb s most ov (if 0 < Fl.farB fi then 1 else way3) (q+Fl.farB fi) out R):=ho;generalize (if 0 < Fl.farB fi then (1:Int) else way3)=way5 at ho hwy;have hnl:=Fl.num_lt s q (Fl.farB fi);refine c_below ho (R:=fun v=>v=.tuple #[.int .i64 ((Fl.farF fi+Fl.num s q (Fl.farB fi):Nat):Int),.int .i64 0]) (iFar_ret fi _ W hf29 hnl) ?_;rintro _ w6 rfl ho;simp only[ex];refine c_imustI (fun _=>?_) (fun h=>absurd rfl h);have hfp:=Fl.farF_pos fi;have hd1:1≤Fl.farF fi+Fl.num s q (Fl.farB fi):=by omega
 generalize Fl.farF fi+Fl.num s q (Fl.farB fi)=d at hX hd1
 try rw[m_nilP]
 rw[f_addr fo_fl1,fl_out ho 0 rfl,sl_len Tryz.underlying53 (out_sl (ho.at_ 2 rfl))];simp only[rs];refine c_ineed (fun h6=>?_) (fun h6=>?_)
 rotate_left
 ·have:=of_decide_eq_false h6;rw[if_pos (by omega)] at hX;subst hX;exact k2 (by dsimp only;decide) _ _ _ _ _ ho
 have h6:=of_decide_eq_true h6;rw[if_neg (by omega)] at hX;refine c_room (n:=sz) 0 2 ho rfl rfl (by omega) (by omega) (by omega) (fun h7 W ho=>?_) (fun h7 W ho=>?_)
 rotate_left
 ·rw[if_pos (by omega)] at hX;subst hX;exact k2 (by dsimp only;decide) _ _ _ _ _ ho
 rw[if_neg (by omega)] at hX;refine loop (fun vs W=>∃(k:Nat) (ov':Value) (out':List UInt8),vs=[.int .i64 k]∧k≤sz∧d≤out'.length∧out'.length+(sz - k)≤most∧Fl.back d (sz - k) out'=X.1∧OwnS S w0 W (Fs fb rb s most ov' way5 (q+Fl.farB fi) out' R)) (fun vs _=>sz - n0 vs) ⟨0,ov,out,rfl,by omega,by omega,by omega,by rw[←hX];rfl,ho⟩ ?_;clear ho;rintro vs w7 ⟨k,ov',out',rfl,hk,hd',hlm,hbk,ho⟩ _;simp only[S_inflate_flate_copied_0,gd,rs,iN,dx];by_cases hlt:(k:Int) < (sz:Int)
 ·simp only[hlt,decide_true,i_t];have ho:=ho.drew;have hpos:out'.length - d < out'.length:=by omega
  obtain⟨ga,gcap,rfl⟩:=urow_open (ho.at_ 2 rfl) (by omega);obtain⟨cb,coff,ccap,e1,r2⟩:=sl_open (out_sl (ho.at_ 2 rfl)) (by omega)
  injection e1 with e1 e2 e3
  injection e1 with e1
  injection e1 with e1 e4
  subst e1;subst e4;refine⟨fun W=>(flE fb rb (.slice (some ⟨ga,0,none⟩) out'.length gcap) most).is W∧W.cell? ⟨ga,out'.length - d,none⟩=some (.int .u8 (out'[out'.length - d].toNat:Int)),⟨ho.at_ 0 rfl,?_⟩,?_⟩
  ·have:=r2 _ _ (bytesV_get hpos)
   rwa [Nat.zero_add] at this
  refine hd_pure _ (fun _=>run_nil) (hd_pure _ (fun _=>run_fa fo_fl1) (hd_do _ (fun W h=>run_out h.1) ?_));refine hd_pure _ (fun _=>run_nil) (hd_pure _ (fun _=>run_fa fo_fl1) (hd_do _ (fun W h=>run_out h.1) ?_));refine hd_pure _ (fun _=>run_nil) (hd_pure _ (fun _=>run_fa fo_fl1) (hd_do _ (fun W h=>run_out h.1) ?_));refine hd_pure (.int .i64 (out'.length:Int)) (fun W=>by simp[mB,builtin,Builtin.len_,run_underlying Tryz.underlying53,goInt]) ?_;refine hd_pure _ (fun W=>mv_run (by simp[binOp];rfl)) ?_;rw[wrap64_id (by omega) (by omega),show (out'.length:Int) - (d:Int)=((out'.length - d:Nat):Int) by omega];refine hd_pure (.pointer (some ⟨ga,out'.length - d,none⟩)) (fun W=>?_) ?_
  ·have:=run_ia (P:=prog) (T:=53) (b:=ga) (off:=0) (cap:=gcap) (n:=out'.length) (k:=.i64) (i:=((out'.length - d:Nat):Int)) (w:=W) Tryz.underlying53 (show _=some 1 by kernel_rfl) (by omega) (by omega)
   rwa [Int.toNat_natCast,Nat.mul_one,Nat.zero_add] at this
  refine hd_do _ (fun W h=>run_load_cell nU8l h.2) ?_;generalize hc:out'[out'.length - d]=c;refine o_u81 c ho fun b8 w8 ho=>?_;refine⟨⟨ho.at_ 1 rfl,?_⟩,?_⟩
  ·obtain⟨_,_,_,e1,r2⟩:=sl_open (out_sl (ho.at_ 3 rfl)) (by omega)
   injection e1 with e1 e2 e3
   injection e1 with e1
   injection e1 with e1 e4
   subst e1;subst e4;have:=r2 _ _ (bytesV_get hpos);rw[Nat.zero_add,hc] at this;exact this
  refine o_appendK 3 Tryz.underlying53 elU8 (by decide) ho rfl (sl_one1 (ho.at_ 0 rfl) (by decide) rfl) (by decide) bytesV_one' (by omega) (by omega) fun v' w9 hkp ho=>?_;have hov:v'.oneCell'=true:=urow_one (ho.at_ 3 rfl);refine⟨⟨ho.at_ 1 rfl,?_⟩,?_⟩
  ·have:=hkp _ _ (bytesV_get hpos);rw[hc] at this;exact this
  refine hd_pure _ (fun _=>run_nil) (hd_pure _ (fun _=>run_fa fo_fl1) ?_);refine fl_putO 1 hov ho rfl fun w10 ho=>?_;have ho:OwnS S w0 w10 (.cells b8 (bytesV [c]) 5::Fs fb rb s most v' way5 (q+Fl.farB fi) (out'++[c]) R):=by
   have e:outR v' (out'++[c])=.urow 5 1 v' (out'.length+1) (bytesV out'++bytesV [c]):=by
    unfold outR bytesV;rw[List.length_append,List.map_append];rfl
   show OwnS S w0 w10 (.cells b8 (bytesV [c]) 5::flE fb rb v' (most:Int)::bqE rb s way5 (q+Fl.farB fi)::outR v' (out'++[c])::R);rw[e];exact ho
  rw[wrap64_id (by omega) (by omega)];refine nextX ⟨k+1,v',out'++[c],rfl,by omega,by rw[List.length_append];omega,by rw[List.length_append,List.length_singleton];omega,?_,ho.tail⟩ (by simp[n0,RowKit.intOf];omega);rw[←hbk,show sz - k=(sz - (k+1))+1 by omega,Fl.back,List.getD_eq_getElem?_getD,List.getElem?_eq_getElem hpos,←hc];rfl
 ·simp only[hlt,decide_false,i_f];have hks:k=sz:=by omega
  subst hks;rw[Nat.sub_self,Fl.back] at hbk;rw[←hX] at hbk;rw[←hX] at k1;dsimp only at hbk k1;have:=k1 rfl (by omega) (by rw[←hbk];omega) way5 ov' w7 hwy (by rw[←hbk];exact ho);exact this
end
end
section
open Eng Go.RowKit
def bqAt (b:Nat)(w:World):Nat:=match w.cell? ⟨b,1,none⟩,w.cell? ⟨b,3,none⟩ with|some (.int _ u),some (.int _ a)=>8*a.toNat+u.toNat|_,_=>0
theorem bqAt_is {b:Nat}{s:List UInt8}{way:Int}{p:Nat}{w:World}(h:(bqE b s way p).is w):bqAt b w=p:=by
 unfold bqAt;rw[show w.cell? ⟨b,1,none⟩=some (.int .i64 ((p % 8:Nat):Int)) from cells_cell (T:=317) (cs:=bqC s way p) h rfl,show w.cell? ⟨b,3,none⟩=some (.int .i64 ((p / 8:Nat):Int)) from cells_cell (T:=317) (cs:=bqC s way p) h rfl];show 8*((p / 8:Nat):Int).toNat+((p % 8:Nat):Int).toNat=p;omega
theorem Fl.signG_adv (lens:List Nat)(s:List UInt8):∀(f l p code:Nat),(Fl.signG lens s f l p code).2.2=0→p < (Fl.signG lens s f l p code).2.1
|0,_,_,_,h=>by simp[Fl.signG] at h
|f+1,l,p,code,h=>by
  unfold Fl.signG at h ⊢;split
  ·rename_i h1;rw[if_pos h1] at h;simp at h
  rename_i h1;rw[if_neg h1] at h
  split
  ·rename_i h2;rw[if_pos h2] at h;simp at h
  rename_i h2;rw[if_neg h2] at h
  split
  ·exact Nat.lt_succ_self _
  rename_i h3;rw[if_neg h3] at h
  have:=Fl.signG_adv lens s f (l+1) (p+1) (2*code+Fl.bit s p) h;omega
theorem Fl.sign_adv {lens:List Nat}{s:List UInt8}{p:Nat}(h:(Fl.sign lens s p).2.2=0):p < (Fl.sign lens s p).2.1:=Fl.signG_adv lens s 16 0 p 0 h
theorem Fl.copied_adv {far:List Nat}{s:List UInt8}{p sign most:Nat}{out:List UInt8}(h:(Fl.copied far s p sign out most).2.2=0):p≤(Fl.copied far s p sign out most).2.1:=by
 unfold Fl.copied at h ⊢;split
 ·exact Nat.le_refl _
 rename_i h1;rw[if_neg h1] at h
 split
 ·exact Nat.le_refl _
 rename_i h2;rw[if_neg h2] at h
 dsimp only at h ⊢;split
 ·exact Nat.le_refl _
 rename_i h3;rw[if_neg h3] at h
 have:=Fl.sign_adv (Decidable.not_not.1 h3);split
 ·exact Nat.le_refl _
 rename_i h4;rw[if_neg h4] at h
 split
 ·exact Nat.le_refl _
 rename_i h5;rw[if_neg h5] at h
 split
 ·exact Nat.le_refl _
 rename_i h6;rw[if_neg h6] at h
 split
 ·exact Nat.le_refl _
 dsimp only;omega
def Fl.codedG (near far:List Nat)(s:List UInt8)(most:Nat):Nat→Nat→List UInt8→List UInt8×Nat×Int
|0,p,out=>(out,p,13)
|f+1,p,out=>
  let r:=Fl.sign near s p
  if r.2.2≠0 then (out,p,r.2.2)
  else if r.1 < 256 then if most < out.length+1 then (out,p,5) else Fl.codedG near far s most f r.2.1 (out++[UInt8.ofNat r.1])
  else if r.1=256 then (out,r.2.1,0)
  else
   let c:=Fl.copied far s r.2.1 r.1 out most
   if c.2.2≠0 then (out,p,c.2.2) else Fl.codedG near far s most f c.2.1 c.1
def Fl.coded (near far:List Nat)(s:List UInt8)(most p:Nat)(out:List UInt8):List UInt8×Nat×Int:=Fl.codedG near far s most (8*s.length+1 - p) p out
theorem Fl.order_lt (lens:List Nat):∀(l i:Nat),i∈Fl.order lens l→i < lens.length
|0,i,h=>by cases h
|l+1,i,h=>by
  rw[Fl.order,List.mem_append] at h;rcases h with h|h
  ·exact Fl.order_lt lens l i h
  ·unfold Fl.ofLen at h;have:=(List.mem_filter.1 h).1;exact List.mem_range.1 this
theorem Fl.signG_lt {lens:List Nat}(s:List UInt8)(h0:0 < lens.length):∀(f l p code:Nat),(Fl.signG lens s f l p code).1 < lens.length
|0,_,_,_=>by simpa[Fl.signG] using h0
|f+1,l,p,code=>by
  unfold Fl.signG;split
  ·exact h0
  split
  ·exact h0
  split
  ·dsimp only;rw[List.getD_eq_getElem?_getD];rcases h:(Fl.order lens 15)[Fl.usedTo lens l+(2*code+Fl.bit s p - Fl.first lens (l+1))]? with _|x
   ·exact h0
   ·exact Fl.order_lt lens 15 x (List.mem_of_getElem? h)
  ·exact Fl.signG_lt s h0 f _ _ _
theorem Fl.sign_le {lens:List Nat}(s:List UInt8)(p:Nat):(Fl.sign lens s p).1≤lens.length:=by
 rcases Nat.eq_zero_or_pos lens.length with h|h
 ·have:lens=[]:=List.eq_nil_of_length_eq_zero h;subst this;simp[Fl.sign,Fl.signG,Fl.usedTo]
 ·exact Nat.le_of_lt (Fl.signG_lt s h 16 0 p 0)
theorem cU8 {W:World}{n:Nat}(h:n < 256):(mConv 3 5 (.int .i64 (n:Int))).run prog W=.ok (.value (.int .u8 ((UInt8.ofNat n).toNat:Int))) W:=by
 have:=run_c_int (P:=prog) (S:=3) (D:=5) (k:=.i64) (n:=(n:Int)) (w:=W) (by kernel_rfl) Tryz.underlying5;rw[this]
 congr 3
section
variable {w:World}{PK:PKT}{K:VWP}{S:Nat→Prop}{w0:World}
theorem c_coded {fb rb tb td:Nat}{ov:Value}{s:List UInt8}{way:Int}{p most:Nat}{out:List UInt8}{near far:List Nat}{M:Mem}{R:List Ent}(jm:Nat)(ho:OwnS S w0 w (Fs fb rb s most ov way p out R))(hm:R[jm]?=some (.mem M))(ht:TbAt M.A M.w tb near)(ht2:TbAt M.A M.w td far)(hl:near.length≤1000)(hl2:far.length≤1000)(hw:way=0∨way=1)(hp:p≤8*s.length)(hs:s.length≤1000000000)(hmo:most≤1000000000)(hol:out.length≤most)
  (k1:(Fl.coded near far s most p out).2.2=0→(Fl.coded near far s most p out).2.1≤8*s.length→(Fl.coded near far s most p out).1.length≤most→∀way' ov' W,(way'=0∨way'=1)→OwnS S w0 W (Fs fb rb s most ov' way' (Fl.coded near far s most p out).2.1 (Fl.coded near far s most p out).1 R)→K (.tuple #[]) W)
  (k2:(Fl.coded near far s most p out).2.2≠0→∀ov' way' p' out' W,OwnS S w0 W (Fs fb rb s most ov' way' p' out' R)→PK [upI (Fl.coded near far s most p out).2.2] W) :
  CallX prog 337 #[.pointer (some ⟨fb,0,none⟩),.pointer (some ⟨tb,0,none⟩),.pointer (some ⟨td,0,none⟩)] w PK K:=by
 generalize hX:Fl.coded near far s most p out=X at k1 k2;refine⟨S_inflate_flate_coded_ok ?_⟩;unfold S_inflate_flate_coded;refine loop (fun vs W=>∃(p:Nat) (way:Int) (ov:Value) (out:List UInt8),vs=[]∧(way=0∨way=1)∧p≤8*s.length∧out.length≤most∧(∃f,8*s.length+1 - p≤f∧Fl.codedG near far s most f p out=X)∧OwnS S w0 W (Fs fb rb s most ov way p out R)) (fun _ w=>8*s.length+1 - bqAt rb w) ⟨p,way,ov,out,rfl,hw,hp,hol,⟨_,Nat.le_refl _,hX⟩,ho⟩ ?_;clear ho hX hp hw hol;rintro vs w1 ⟨p,way,ov,out,rfl,hw,hp,hol,⟨f,hf,hX⟩,ho⟩ _;have hat:bqAt rb w1=p:=bqAt_is (ho.at_ 1 rfl);unfold S_inflate_flate_coded_0 iN dx cx;obtain⟨f,rfl⟩:∃f',f=f'+1:=⟨f - 1,by omega⟩;rw[Fl.codedG] at hX;dsimp only at hX;rw[m_nilP,fa_fl0,fl_rd ho 0 rfl];refine c_tread 1 (jm+3) (by omega) ho rfl hm ht hl hw hp hs fun way3 W3 hw3 hp3 ho=>?_;have ho:OwnS S w0 W3 (Fs fb rb s most ov way3 (Fl.sign near s p).2.1 out R):=ho;have hadv:=@Fl.sign_adv near s p;have hle:=@Fl.sign_le near s p;generalize Fl.sign near s p=T at hX ho hp3 hadv hle;obtain⟨g,q,e⟩:=T;dsimp only at hX ho hp3 hadv hle;simp only[ex];refine c_imustI (fun h3=>?_) (fun h3=>?_)
 rotate_left
 ·rw[if_pos h3] at hX;subst hX;exact k2 h3 _ _ _ _ _ ho
 rw[if_neg (by rw[h3];decide)] at hX;have hadv:=hadv h3;simp only[rs];by_cases h256:(g:Int) < 256
 ·simp only[h256,decide_true,i_t];rw[if_pos (by omega)] at hX;refine c_room (n:=1) 0 2 ho rfl rfl (by omega) (by omega) (by omega) (fun h7 W ho=>?_) (fun h7 W ho=>?_)
  rotate_left
  ·rw[if_pos (by omega)] at hX;subst hX;exact k2 (by dsimp only;decide) _ _ _ _ _ ho
  rw[if_neg (by omega)] at hX
  try rw[m_nilP]
  rw[f_addr fo_fl1,fl_out ho 0 rfl];refine do_eq (cU8 (by omega)) |>.mpr ?_;refine o_u81 _ ho fun b8 w8 ho=>?_;refine o_appendU 3 Tryz.underlying53 elU8 (by decide) ho rfl (sl_one1 (ho.at_ 0 rfl) (by decide) rfl) bytesV_one' (by omega) (by omega) fun v' w9 ho=>?_;have hov:v'.oneCell'=true:=urow_one (ho.at_ 3 rfl)
  try rw[m_nilP]
  rw[f_addr fo_fl1];refine fl_putO 1 hov ho rfl fun w10 ho=>?_;have ho:OwnS S w0 w10 (.cells b8 (bytesV [UInt8.ofNat g]) 5::Fs fb rb s most v' way3 q (out++[UInt8.ofNat g]) R):=by
   have e:outR v' (out++[UInt8.ofNat g])=.urow 5 1 v' (out.length+1) (bytesV out++bytesV [UInt8.ofNat g]):=by
    unfold outR bytesV;rw[List.length_append,List.map_append];rfl
   show OwnS S w0 w10 (.cells b8 (bytesV [UInt8.ofNat g]) 5::flE fb rb v' (most:Int)::bqE rb s way3 q::outR v' (out++[UInt8.ofNat g])::R);rw[e];exact ho
  have hat2:bqAt rb w10=q:=bqAt_is (ho.at_ 2 rfl);refine nextX ⟨q,way3,v',_,rfl,hw3,hp3,by rw[List.length_append,List.length_singleton];omega,⟨f,by omega,hX⟩,ho.tail⟩ (by show 8*s.length+1 - bqAt rb w10 < 8*s.length+1 - bqAt rb w1;rw[hat,hat2];omega)
 simp only[h256,decide_false,i_f];rw[if_neg (by omega)] at hX
 try simp only[rs]
 by_cases h0:(g:Int)=256
 ·simp only[h0,decide_true,i_t];rw[if_pos (by omega)] at hX;subst hX;exact k1 rfl hp3 hol _ _ _ hw3 ho
 simp only[h0,decide_false,i_f];rw[if_neg (by omega)] at hX;obtain⟨i,rfl⟩:∃i,g=257+i:=⟨g - 257,by omega⟩;have hca:=@Fl.copied_adv far s q (257+i) most out;refine c_copied jm ho hm ht2 hl2 hw3 hp3 hs hmo hol (by omega) (fun h8 h9 h10 way4 ov4 W4 hw4 ho=>?_) (fun h8 ov4 way4 p4 out4 W4 ho=>?_)
 rotate_left
 ·rw[if_pos h8] at hX;subst hX;exact k2 h8 _ _ _ _ _ ho
 rw[if_neg (by rw[h8];decide)] at hX;have hca:=hca h8;generalize Fl.copied far s q (257+i) out most=C at hX ho hca h9 h10;have hat2:bqAt rb W4=C.2.1:=bqAt_is (ho.at_ 1 rfl);refine nextX ⟨C.2.1,way4,ov4,C.1,rfl,hw4,h9,h10,⟨f,by omega,hX⟩,ho⟩ (by show 8*s.length+1 - bqAt rb W4 < 8*s.length+1 - bqAt rb w1;rw[hat,hat2];omega)
end
end
def Fl.ksum (lens:List Nat):Nat:=(lens.map fun l=>if l=0 then 0 else 2 ^ (15 - l)).sum
def Fl.usedN (lens:List Nat):Nat:=(lens.filter fun l=>decide (l≠0)).length
theorem Fl.sumTo_nil (m:Nat):Fl.sumTo [] m=0:=by
 induction m with
|zero=>rfl
|succ m ih=>simp[Fl.sumTo,ih]
theorem Fl.usedTo_nil (m:Nat):Fl.usedTo [] m=0:=by
 induction m with
|zero=>rfl
|succ m ih=>simp[Fl.usedTo,ih]
theorem Fl.sumTo_cons (l:Nat)(ls:List Nat)(m:Nat):Fl.sumTo (l::ls) m=Fl.sumTo ls m+(if l=0 then 0 else if l≤m then 2 ^ (15 - l) else 0):=by
 induction m with
|zero=>
  simp only[Fl.sumTo];split;·rfl
  ·rw[if_neg (by omega)]
|succ m ih=>
  rw[Fl.sumTo,ih,Fl.sumTo,List.count_cons];by_cases h:l=m+1
  ·subst h;simp only[beq_self_eq_true,if_true,Nat.add_mul,Nat.one_mul];rw[if_neg (by omega),if_neg (by omega),if_neg (by omega),if_pos (Nat.le_refl _)];omega
  ·have hb:(l==m+1)=false:=by simp[h]
   rw[hb];simp only[Bool.false_eq_true,if_false,Nat.add_zero];by_cases h0:l=0
   ·simp[h0]
   ·rw[if_neg h0,if_neg h0];by_cases hm:l≤m
    ·rw[if_pos hm,if_pos (by omega)];omega
    ·rw[if_neg hm,if_neg (by omega)];simp
theorem Fl.usedTo_cons (l:Nat)(ls:List Nat)(m:Nat):Fl.usedTo (l::ls) m=Fl.usedTo ls m+(if l=0 then 0 else if l≤m then 1 else 0):=by
 induction m with
|zero=>
  simp only[Fl.usedTo];split;·rfl
  ·rw[if_neg (by omega)]
|succ m ih=>
  rw[Fl.usedTo,ih,Fl.usedTo,List.count_cons];by_cases h:l=m+1
  ·subst h;simp only[beq_self_eq_true,if_true];rw[if_neg (by omega),if_neg (by omega),if_neg (by omega),if_pos (Nat.le_refl _)];omega
  ·have hb:(l==m+1)=false:=by simp[h]
   rw[hb];simp only[Bool.false_eq_true,if_false,Nat.add_zero];by_cases h0:l=0
   ·simp[h0]
   ·rw[if_neg h0,if_neg h0];by_cases hm:l≤m
    ·rw[if_pos hm,if_pos (by omega)];omega
    ·rw[if_neg hm,if_neg (by omega)];simp
theorem Fl.ksum_sumTo:∀{lens:List Nat},(∀l∈lens,l≤15)→Fl.ksum lens=Fl.sumTo lens 15
|[],_=>by rw[Fl.sumTo_nil];rfl
|l::ls,h=>by
  have ih:=Fl.ksum_sumTo (lens:=ls) fun x hx=>h x (List.mem_cons_of_mem _ hx);have h1:=h l (List.mem_cons_self ..);unfold Fl.ksum at ih ⊢;rw[List.map_cons,List.sum_cons,ih,Fl.sumTo_cons,if_pos h1];omega
theorem Fl.usedN_usedTo:∀{lens:List Nat},(∀l∈lens,l≤15)→Fl.usedN lens=Fl.usedTo lens 15
|[],_=>by rw[Fl.usedTo_nil];rfl
|l::ls,h=>by
  have ih:=Fl.usedN_usedTo (lens:=ls) fun x hx=>h x (List.mem_cons_of_mem _ hx);have h1:=h l (List.mem_cons_self ..);unfold Fl.usedN at ih ⊢;rw[Fl.usedTo_cons,if_pos h1,←ih,List.filter_cons];by_cases h0:l=0
  ·simp[h0]
  ·simp[h0]
theorem Fl.longest_snoc (lens:List Nat)(l:Nat):Fl.longest (lens++[l])=max (Fl.longest lens) l:=by simp[Fl.longest]
theorem Fl.foldmax_le (m:Nat):∀(lens:List Nat) (a:Nat),lens.foldl max a≤m↔a≤m∧∀l∈lens,l≤m
|[],a=>by simp
|l::ls,a=>by
  rw[List.foldl_cons,Fl.foldmax_le m ls (max a l)];simp only[List.mem_cons,forall_eq_or_imp,Nat.max_le,and_assoc]
theorem Fl.longest_le {lens:List Nat}{m:Nat}:Fl.longest lens≤m↔∀l∈lens,l≤m:=by
 unfold Fl.longest;rw[Fl.foldmax_le];simp
theorem Fl.usedTo_all:∀{lens:List Nat} {m:Nat},m≤15→(∀l∈lens,l≤15)→(Fl.usedTo lens 15≤Fl.usedTo lens m↔∀l∈lens,l≤m)
|[],m,_,_=>by simp[Fl.usedTo_nil]
|l::ls,m,hm,h=>by
  have ih:=Fl.usedTo_all (lens:=ls) hm fun x hx=>h x (List.mem_cons_of_mem _ hx);have h1:=h l (List.mem_cons_self ..);have hle:∀ls:List Nat,Fl.usedTo ls m≤Fl.usedTo ls 15:=fun ls=>Fl.used_mono ls hm;have:=hle ls;rw[Fl.usedTo_cons,Fl.usedTo_cons,if_pos h1];simp only[List.mem_cons,forall_eq_or_imp,←ih];by_cases h0:l=0
  ·simp[h0]
  ·rw[if_neg h0,if_neg h0];by_cases h2:l≤m
   ·rw[if_pos h2];omega
   ·rw[if_neg h2];omega
theorem Fl.longest_used {lens:List Nat}{m:Nat}(hm:m≤15)(h:∀l∈lens,l≤15):Fl.usedTo lens 15≤Fl.usedTo lens m↔Fl.longest lens≤m:=by
 rw[Fl.usedTo_all hm h,Fl.longest_le]
theorem Fl.check_ref {lens:List Nat}(h:∀l∈lens,l≤15):Fl.check lens=if Fl.ksum lens=32768∨Fl.ksum lens=0∨(Fl.usedN lens=1∧Fl.longest lens=1) then 0 else 13:=by
 unfold Fl.check;rw[Fl.ksum_sumTo h,Fl.usedN_usedTo h];have h0:Fl.sumTo lens 15=0↔Fl.usedTo lens 15=0:=by
  clear h
  induction lens with
 |nil=>simp[Fl.sumTo_nil,Fl.usedTo_nil]
 |cons l ls ih=>
   rw[Fl.sumTo_cons,Fl.usedTo_cons];by_cases h0:l=0
   ·simp[h0,ih]
   ·rw[if_neg h0,if_neg h0];by_cases h2:l≤15
    ·rw[if_pos h2,if_pos h2];have:0 < 2 ^ (15 - l):=Nat.two_pow_pos _;omega
    ·rw[if_neg h2,if_neg h2];simpa using ih
 have h1:Fl.usedTo lens 15=1→(lens.count 1=1↔Fl.longest lens=1):=by
  intro hu;have e1:Fl.usedTo lens 1=lens.count 1:=by simp[Fl.usedTo]
  have a:=Fl.longest_used (lens:=lens) (m:=1) (by omega) h;have b:=Fl.longest_used (lens:=lens) (m:=0) (by omega) h;have e0:Fl.usedTo lens 0=0:=rfl;have hm:=Fl.used_mono lens (show 1≤15 by omega);rw[e1] at a hm;rw[e0] at b;omega
 congr 1
 apply propext;constructor
 ·rintro (k|k|⟨k,k2⟩)
  ·exact .inl k
  ·exact .inr (.inl (h0.2 k))
  ·exact .inr (.inr ⟨k,(h1 k).1 k2⟩)
 ·rintro (k|k|⟨k,k2⟩)
  ·exact .inl k
  ·exact .inr (.inl (h0.1 k))
  ·exact .inr (.inr ⟨k,(h1 k).2 k2⟩)
theorem Fl.order_more (lens:List Nat)(l:Nat):∀m,l≤m→∃t,Fl.order lens m=Fl.order lens l++t
|0,h=>by
  obtain rfl:l=0:=by omega
  exact⟨[],by simp⟩
|m+1,h=>by
  rcases Nat.lt_or_ge l (m+1) with h'|h'
  ·obtain⟨t,ht⟩:=Fl.order_more lens l m (by omega);exact⟨t++Fl.ofLen lens (m+1),by rw[Fl.order,ht,List.append_assoc]⟩
  ·have:l=m+1:=by omega
   subst this;exact⟨[],by simp⟩
theorem Fl.order_get {lens:List Nat}{l k:Nat}(hl:l < 15)(hk:k < lens.count (l+1)):(Fl.order lens 15).getD (Fl.usedTo lens l+k) 0=(Fl.ofLen lens (l+1)).getD k 0:=by
 obtain⟨t,ht⟩:=Fl.order_more lens (l+1) 15 (by omega);rw[ht,Fl.order,List.append_assoc,List.getD_eq_getElem?_getD,List.getElem?_append_right (by rw[Fl.order_len];omega),Fl.order_len,Nat.add_sub_cancel_left,
  List.getElem?_append_left (by rw[Fl.ofLen_len];exact hk),List.getD_eq_getElem?_getD]
theorem Fl.placeG_eq (n:Nat):∀(lens:List Nat) (i k:Nat),Fl.placeG n i lens k=((List.range' i lens.length).filter fun j=>decide (lens.getD (j - i) 0=n)).getD k 0
|[],i,k=>by simp[Fl.placeG]
|l::ls,i,k=>by
  have e:(List.range' (i+1) ls.length).filter (fun j=>decide ((l::ls).getD (j - i) 0=n))=(List.range' (i+1) ls.length).filter (fun j=>decide (ls.getD (j - (i+1)) 0=n)):=by
   refine List.filter_congr fun j hj=>?_;have:=(List.mem_range'_1.1 hj).1;rw[show j - i=(j - (i+1))+1 by omega,List.getD_cons_succ]
  rw[List.length_cons,List.range'_succ,List.filter_cons,e,Nat.sub_self,List.getD_cons_zero];unfold Fl.placeG;by_cases h:l=n
  ·rw[if_pos h,if_pos (by simp[h])];cases k with
  |zero=>rfl
  |succ k=>simp only[List.getD_cons_succ];exact Fl.placeG_eq n ls (i+1) k
  ·rw[if_neg h,if_neg (by simp[h])];exact Fl.placeG_eq n ls (i+1) k
theorem Fl.place_eq (lens:List Nat)(n k:Nat):Fl.place lens n k=(Fl.ofLen lens n).getD k 0:=by
 unfold Fl.place Fl.ofLen;rw[Fl.placeG_eq,List.range_eq_range'];simp
section
open Eng
def S_foliantref10_Bit(t0 t1 w)(K:KT):=
 dx (mBin .lss 3 t1 (iN 0)) w K fun t6 w=>efx t6 t1 w fun t8 w=>gfx t6 (mBin .quo 3 t8 (iN 8)) w K fun t9 w=>efx t6 t0 w fun t10 w=>gfx t6 (mB .len #[9] 3 #[false] #[t10]) w K fun t11 w=>gfx t6 (mBin .geq 3 t9 t11) w K fun t12 w=>dx (mPick t6 (.bool true) t12) w K fun t13 w=>IfX t13 (K (.returned (iN (-1))) w) (QuietX w (fun C1=>QDo prog C1 (mBin .quo 3 t1 (iN 8)) fun t16=>QDo prog C1 (mIx 9 t0 t16) fun t17=>QDo prog C1 (mConv 5 3 t17) fun t18=>QDo prog C1 (mBin .rem 3 t1 (iN 8)) fun t20=>QCall prog C1 276 #[t20] fun t21=>QDo prog C1 (mBin .quo 3 t18 t21) fun t22=>QDo prog C1 (mBin .rem 3 t22 (iN 2)) fun t23=>
 ∀w,C1 w →
 K (.returned t23) w))
theorem S_foliantref10_Bit_ok{t0 t1 w K}(h:S_foliantref10_Bit t0 t1 w K):Calls prog 241 #[t0,t1] w K:=cw Tryz.func241 rfl rfl (by kernel_rfl) h
def S_foliantref10_Check_1(t3 t4 t5 w)(N1:JT)(K:KT):=
 dx (mBin .add 3 t5 (iN 1)) w K fun t14 w=>N1 [t3,t4,t14] w
def S_foliantref10_Check_0(t0 t3 t4 t5 w)(N1:JT)(K:KT):=
 dx (mB .len #[123] 3 #[false] #[t0]) w K fun t11 w=>dx (mBin .lss 3 t5 t11) w K fun t12 w=>IfX t12 (JoinX (fun J2=>dx (mIA 123 t0 t5) w K fun t17 w=>dx (mLoad 3 t17) w K fun t18 w=>dx (mBin .lss 3 t18 (iN 0)) w K fun t19 w=>efx t19 t0 w fun t21 w=>efx t19 t5 w fun t22 w=>gfx t19 (mIA 123 t21 t22) w K fun t23 w=>gfx t19 (mLoad 3 t23) w K fun t24 w=>gfx t19 (mBin .gtr 3 t24 (iN 15)) w K fun t25 w=>dx (mPick t19 (.bool true) t25) w K fun t26 w=>IfX t26 (K (.returned (iN 1)) w) (dx (mIA 123 t0 t5) w K fun t29 w=>dx (mLoad 3 t29) w K fun t30 w=>dx (mBin .gtr 3 t30 (iN 0)) w K fun t31 w=>IfX t31 (dx (mIA 123 t0 t5) w K fun t35 w=>dx (mLoad 3 t35) w K fun t36 w=>dx (mBin .sub 3 (iN 15) t36) w K fun t37 w=>cx 276 #[t37] w K fun t38 w=>dx (mBin .add 3 t3 t38) w K fun t39 w=>dx (mIA 123 t0 t5) w K fun t43 w=>dx (mLoad 3 t43) w K fun t44 w=>dx (mB .max #[3,3] 3 #[false,false] #[t4,t44]) w K fun t45 w=>J2 [t39,t45] w) (J2 [t3,t4] w))) (fun vs2 w=>∀_:Sg,S_foliantref10_Check_1 (vs2.getD 0 undef) (vs2.getD 1 undef) t5 w N1 K)) (cx 276 #[(iN 15)] w K fun t47 w=>dx (mEq .eql 3 (.tmp 46) (.tmp 47) t3 t47) w K fun t48 w=>efx t48 t3 w fun t50 w=>gfx t48 (mEq .eql 3 (.tmp 50) (.const (iN 0)) t50 (iN 0)) w K fun t51 w=>dx (mPick t48 (.bool true) t51) w K fun t52 w=>efx t52 t0 w fun t54 w=>cfx t52 278 #[t54] w K fun t55 w=>gfx t52 (mEq .eql 3 (.tmp 55) (.const (iN 1)) t55 (iN 1)) w K fun t56 w=>efx t52 t56 w fun t57 w=>etx t57 t4 w fun t58 w=>gtx t57 (mEq .eql 3 (.tmp 58) (.const (iN 1)) t58 (iN 1)) w K fun t59 w=>gfx t52 (mPick t57 t59 (.bool false)) w K fun t60 w=>dx (mPick t52 (.bool true) t60) w K fun t61 w=>IfX t61 (K (.returned (iN 0)) w) (K (.returned (iN 13)) w))
def S_foliantref10_Check(t0 w)(K:KT):=
 dx (mB .len #[123] 3 #[false] #[t0]) w K fun t7 w=>dx (mBin .gtr 3 t7 (iN 288)) w K fun t8 w=>IfX t8 (K (.returned (iN 6)) w) (LoopX [(iN 0),(iN 0),(iN 0)] w (fun vs1 w N1=>∀_:Sg,S_foliantref10_Check_0 t0 (vs1.getD 0 undef) (vs1.getD 1 undef) (vs1.getD 2 undef) w N1 K))
theorem S_foliantref10_Check_eq (t0:Value)(w:World)(K:Ending→World→Prop):wpX prog 62 [(6,[3,4])] [(5,[3,4,5])] none (bodyOf Tryz.f245) (topQ prog [.tmp 2] K) (startX [t0]) [] w=S_foliantref10_Check t0 w K:=by kernel_rfl
theorem S_foliantref10_Check_ok {t0:Value}{w:World}{K:Ending→World→Prop}(h:S_foliantref10_Check t0 w K):Calls prog 245 #[t0] w K:=
 calls_of_wpX Tryz.func245 rfl rfl rfl rfl (Eq.mpr (S_foliantref10_Check_eq t0 w K) h)
def S_foliantref10_Sign_1(t0 t1 t2 t9 t10 t12 t13 t14 w)(N2:JT)(K:KT):=
 dx (mBin .leq 3 t14 t10) w K fun t38 w=>IfX t38 (cx 241 #[t1,t2] w K fun t43 w=>dx (mBin .lss 3 t43 (iN 0)) w K fun t45 w=>IfX t45 (K (.returned (.tuple #[(iN 0),t2,(iN 4)])) w) (dx (mBin .add 3 t2 (iN 1)) w K fun t48 w=>dx (mBin .mul 3 (iN 2) t12) w K fun t50 w=>dx (mBin .add 3 t50 t43) w K fun t52 w=>dx (mBin .mul 3 (iN 2) t13) w K fun t54 w=>dx (mBin .sub 3 t52 t54) w K fun t57 w=>dx (mIA 318 t9 t14) w K fun t59 w=>dx (mLoad 3 t59) w K fun t60 w=>dx (mBin .lss 3 t57 t60) w K fun t61 w=>IfX t61 (dx (mBin .sub 3 t52 t54) w K fun t66 w=>cx 309 #[t0,t14,t66] w K fun t67 w=>K (.returned (.tuple #[t67,t48,(iN 0)])) w) (dx (mIA 318 t9 t14) w K fun t71 w=>dx (mLoad 3 t71) w K fun t72 w=>dx (mBin .add 3 t54 t72) w K fun t73 w=>dx (mBin .add 3 t14 (iN 1)) w K fun t40 w=>N2 [t48,t52,t73,t40] w))) (K (.returned (.tuple #[(iN 0),t2,(iN 13)])) w)
def S_foliantref10_Sign_0(t0 t1 t2 t9 t10 t11 w)(N1:JT)(K:KT):=
 dx (mB .len #[123] 3 #[false] #[t0]) w K fun t18 w=>dx (mBin .lss 3 t11 t18) w K fun t19 w=>IfX t19 (dx (mIA 123 t0 t11) w K fun t24 w=>dx (mLoad 3 t24) w K fun t25 w=>dx (mIA 318 t9 t25) w K fun t26 w=>dx (mLoad 3 t26) w K fun t27 w=>dx (mBin .add 3 t27 (iN 1)) w K fun t28 w=>dx (mIA 318 t9 t25) w K fun t29 w=>dx (mStore 3 t29 t28) w K fun _ w=>dx (mIA 123 t0 t11) w K fun t33 w=>dx (mLoad 3 t33) w K fun t34 w=>dx (mB .max #[3,3] 3 #[false,false] #[t10,t34]) w K fun t35 w=>dx (mBin .add 3 t11 (iN 1)) w K fun t21 w=>N1 [t35,t21] w) (LoopX [t2,(iN 0),(iN 0),(iN 1)] w (fun vs2 w N2=>∀_:Sg,S_foliantref10_Sign_1 t0 t1 (vs2.getD 0 undef) t9 t10 (vs2.getD 1 undef) (vs2.getD 2 undef) (vs2.getD 3 undef) w N2 K))
def S_foliantref10_Sign(t0 t1 t2 w)(K:KT):=
 dx (mAlloc 318) w K fun t9 w=>LoopX [(iN 0),(iN 0)] w (fun vs1 w N1=>∀_:Sg,S_foliantref10_Sign_0 t0 t1 t2 t9 (vs1.getD 0 undef) (vs1.getD 1 undef) w N1 K)
theorem S_foliantref10_Sign_eq (t0 t1 t2:Value)(w:World)(K:Ending→World→Prop):wpX prog 75 [] [(4,[10,11]),(10,[2,12,13,14])] none (bodyOf Tryz.f279) (topQ prog [.tmp 6,.tmp 7,.tmp 8] K) (startX [t0,t1,t2]) [] w=S_foliantref10_Sign t0 t1 t2 w K:=by kernel_rfl
theorem S_foliantref10_Sign_ok {t0 t1 t2:Value}{w:World}{K:Ending→World→Prop}(h:S_foliantref10_Sign t0 t1 t2 w K):Calls prog 279 #[t0,t1,t2] w K:=
 calls_of_wpX Tryz.func279 rfl rfl rfl rfl (Eq.mpr (S_foliantref10_Sign_eq t0 t1 t2 w K) h)
def S_foliantref10_bits(t0 w)(K:KT):=
 dx (mConv 3 84 t0) w K fun t4 w=>dx (mBin .shl 3 (iN 1) t4) w K fun t5 w=>K (.returned t5) w
theorem S_foliantref10_bits_ok{t0 w K}(h:S_foliantref10_bits t0 w K):Calls prog 276 #[t0] w K:=cw Tryz.func276 rfl rfl (by kernel_rfl) h
def S_foliantref10_place_1(t2 t7 w)(N1:JT)(K:KT):=
 dx (mBin .add 3 t7 (iN 1)) w K fun t13 w=>N1 [t2,t13] w
def S_foliantref10_place_0(t0 t1 t2 t7 w)(N1:JT)(K:KT):=
 dx (mB .len #[123] 3 #[false] #[t0]) w K fun t10 w=>dx (mBin .lss 3 t7 t10) w K fun t11 w=>IfX t11 (JoinX (fun J2=>dx (mIA 123 t0 t7) w K fun t16 w=>dx (mLoad 3 t16) w K fun t17 w=>dx (mEq .eql 3 (.tmp 17) (.tmp 18) t17 t1) w K fun t19 w=>IfX t19 (dx (mEq .eql 3 (.tmp 20) (.const (iN 0)) t2 (iN 0)) w K fun t21 w=>IfX t21 (K (.returned t7) w) (dx (mBin .sub 3 t2 (iN 1)) w K fun t24 w=>J2 [t24] w)) (J2 [t2] w)) (fun vs2 w=>∀_:Sg,S_foliantref10_place_1 (vs2.getD 0 undef) t7 w N1 K)) (K (.returned (iN 0)) w)
def S_foliantref10_place(t0 t1 t2 w)(K:KT):=
 LoopX [t2,(iN 0)] w (fun vs1 w N1=>∀_:Sg,S_foliantref10_place_0 t0 t1 (vs1.getD 0 undef) (vs1.getD 1 undef) w N1 K)
theorem S_foliantref10_place_eq (t0 t1 t2:Value)(w:World)(K:Ending→World→Prop):wpX prog 25 [(3,[2])] [(2,[2,7])] none (bodyOf Tryz.f309) (topQ prog [.tmp 6] K) (startX [t0,t1,t2]) [] w=S_foliantref10_place t0 t1 t2 w K:=by kernel_rfl
theorem S_foliantref10_place_ok {t0 t1 t2:Value}{w:World}{K:Ending→World→Prop}(h:S_foliantref10_place t0 t1 t2 w K):Calls prog 309 #[t0,t1,t2] w K:=
 calls_of_wpX Tryz.func309 rfl rfl rfl rfl (Eq.mpr (S_foliantref10_place_eq t0 t1 t2 w K) h)
def S_foliantref10_used_1(t3 t4 w)(N1:JT)(K:KT):=
 dx (mBin .add 3 t4 (iN 1)) w K fun t10 w=>N1 [t3,t10] w
def S_foliantref10_used_0(t0 t3 t4 w)(N1:JT)(K:KT):=
 dx (mB .len #[123] 3 #[false] #[t0]) w K fun t7 w=>dx (mBin .lss 3 t4 t7) w K fun t8 w=>IfX t8 (JoinX (fun J2=>dx (mIA 123 t0 t4) w K fun t13 w=>dx (mLoad 3 t13) w K fun t14 w=>dx (mEq .neq 3 (.tmp 14) (.const (iN 0)) t14 (iN 0)) w K fun t15 w=>IfX t15 (dx (mBin .add 3 t3 (iN 1)) w K fun t17 w=>J2 [t17] w) (J2 [t3] w)) (fun vs2 w=>∀_:Sg,S_foliantref10_used_1 (vs2.getD 0 undef) t4 w N1 K)) (K (.returned t3) w)
def S_foliantref10_used(t0 w)(K:KT):=
 LoopX [(iN 0),(iN 0)] w (fun vs1 w N1=>∀_:Sg,S_foliantref10_used_0 t0 (vs1.getD 0 undef) (vs1.getD 1 undef) w N1 K)
theorem S_foliantref10_used_eq (t0:Value)(w:World)(K:Ending→World→Prop):wpX prog 19 [(4,[3])] [(3,[3,4])] none (bodyOf Tryz.f278) (topQ prog [.tmp 2] K) (startX [t0]) [] w=S_foliantref10_used t0 w K:=by kernel_rfl
theorem S_foliantref10_used_ok {t0:Value}{w:World}{K:Ending→World→Prop}(h:S_foliantref10_used t0 w K):Calls prog 278 #[t0] w K:=
 calls_of_wpX Tryz.func278 rfl rfl rfl rfl (Eq.mpr (S_foliantref10_used_eq t0 w K) h)
end
section
open Eng
def S_foliantref11_number_0(t0 t1 t2 t9 t10 w)(N1:JT)(K:KT):=
 dx (mBin .lss 3 t10 t2) w K fun t14 w=>IfX t14 (dx (mBin .add 3 t1 t10) w K fun t20 w=>cx 241 #[t0,t20] w K fun t21 w=>dx (mBin .lss 3 t21 (iN 0)) w K fun t23 w=>IfX t23 (K (.returned (.tuple #[(iN 0),(iN 0),(iN 4)])) w) (dx (mConv 3 84 t10) w K fun t27 w=>dx (mBin .shl 3 t21 t27) w K fun t28 w=>dx (mBin .add 3 t9 t28) w K fun t29 w=>dx (mBin .add 3 t10 (iN 1)) w K fun t16 w=>N1 [t29,t16] w)) (dx (mBin .add 3 t1 t2) w K fun t33 w=>K (.returned (.tuple #[t9,t33,(iN 0)])) w)
def S_foliantref11_number(t0 t1 t2 w)(K:KT):=
 LoopX [(iN 0),(iN 0)] w (fun vs1 w N1=>∀_:Sg,S_foliantref11_number_0 t0 t1 t2 (vs1.getD 0 undef) (vs1.getD 1 undef) w N1 K)
theorem S_foliantref11_number_eq (t0 t1 t2:Value)(w:World)(K:Ending→World→Prop):wpX prog 34 [] [(3,[9,10])] none (bodyOf Tryz.f194) (topQ prog [.tmp 6,.tmp 7,.tmp 8] K) (startX [t0,t1,t2]) [] w=S_foliantref11_number t0 t1 t2 w K:=by kernel_rfl
theorem S_foliantref11_number_ok {t0 t1 t2:Value}{w:World}{K:Ending→World→Prop}(h:S_foliantref11_number t0 t1 t2 w K):Calls prog 194 #[t0,t1,t2] w K:=
 calls_of_wpX Tryz.func194 rfl rfl rfl rfl (Eq.mpr (S_foliantref11_number_eq t0 t1 t2 w K) h)
def S_foliantref11_longer(t0 w)(K:KT):=
 dx (mBin .lss 3 t0 (iN 265)) w K fun t4 w=>efx t4 t0 w fun t6 w=>gfx t4 (mBin .gtr 3 t6 (iN 284)) w K fun t7 w=>dx (mPick t4 (.bool true) t7) w K fun t8 w=>IfX t8 (K (.returned (iN 0)) w) (dx (mBin .sub 3 t0 (iN 261)) w K fun t10 w=>dx (mBin .quo 3 t10 (iN 4)) w K fun t11 w=>K (.returned t11) w)
theorem S_foliantref11_longer_ok{t0 w K}(h:S_foliantref11_longer t0 w K):Calls prog 310 #[t0] w K:=cw Tryz.func310 rfl rfl (by kernel_rfl) h
def S_foliantref11_farther(t0 w)(K:KT):=
 dx (mBin .lss 3 t0 (iN 4)) w K fun t4 w=>IfX t4 (K (.returned (iN 0)) w) (dx (mBin .sub 3 t0 (iN 2)) w K fun t6 w=>dx (mBin .quo 3 t6 (iN 2)) w K fun t7 w=>K (.returned t7) w)
theorem S_foliantref11_farther_ok{t0 w K}(h:S_foliantref11_farther t0 w K):Calls prog 312 #[t0] w K:=cw Tryz.func312 rfl rfl (by kernel_rfl) h
def S_foliantref11_Size_0(t0 t1 t6 t7 w)(N1:JT)(K:KT):=
 dx (mBin .lss 3 t7 t0) w K fun t30 w=>IfX t30 (cx 310 #[t7] w K fun t35 w=>dx (mConv 3 84 t35) w K fun t36 w=>dx (mBin .shl 3 (iN 1) t36) w K fun t37 w=>dx (mBin .add 3 t6 t37) w K fun t38 w=>dx (mBin .add 3 t7 (iN 1)) w K fun t32 w=>N1 [t38,t32] w) (dx (mBin .add 3 t6 t1) w K fun t41 w=>K (.returned (.tuple #[t41,(iN 0)])) w)
def S_foliantref11_Size(t0 t1 w)(K:KT):=
 dx (mBin .lss 3 t0 (iN 257)) w K fun t9 w=>efx t9 t0 w fun t11 w=>gfx t9 (mBin .gtr 3 t11 (iN 285)) w K fun t12 w=>dx (mPick t9 (.bool true) t12) w K fun t13 w=>efx t13 t1 w fun t15 w=>gfx t13 (mBin .lss 3 t15 (iN 0)) w K fun t16 w=>dx (mPick t13 (.bool true) t16) w K fun t17 w=>efx t17 t1 w fun t19 w=>efx t17 t0 w fun t20 w=>cfx t17 310 #[t20] w K fun t21 w=>gfx t17 (mConv 3 84 t21) w K fun t22 w=>gfx t17 (mBin .shl 3 (iN 1) t22) w K fun t23 w=>gfx t17 (mBin .geq 3 t19 t23) w K fun t24 w=>dx (mPick t17 (.bool true) t24) w K fun t25 w=>IfX t25 (K (.returned (.tuple #[(iN 0),(iN 1)])) w) (dx (mEq .eql 3 (.tmp 26) (.const (iN 285)) t0 (iN 285)) w K fun t27 w=>IfX t27 (K (.returned (.tuple #[(iN 258),(iN 0)])) w) (LoopX [(iN 3),(iN 257)] w (fun vs1 w N1=>∀_:Sg,S_foliantref11_Size_0 t0 t1 (vs1.getD 0 undef) (vs1.getD 1 undef) w N1 K)))
theorem S_foliantref11_Size_eq (t0 t1:Value)(w:World)(K:Ending→World→Prop):wpX prog 42 [] [(7,[6,7])] none (bodyOf Tryz.f311) (topQ prog [.tmp 4,.tmp 5] K) (startX [t0,t1]) [] w=S_foliantref11_Size t0 t1 w K:=by kernel_rfl
theorem S_foliantref11_Size_ok {t0 t1:Value}{w:World}{K:Ending→World→Prop}(h:S_foliantref11_Size t0 t1 w K):Calls prog 311 #[t0,t1] w K:=
 calls_of_wpX Tryz.func311 rfl rfl rfl rfl (Eq.mpr (S_foliantref11_Size_eq t0 t1 w K) h)
def S_foliantref11_Far_0(t0 t1 t6 t7 w)(N1:JT)(K:KT):=
 dx (mBin .lss 3 t7 t0) w K fun t28 w=>IfX t28 (cx 312 #[t7] w K fun t33 w=>dx (mConv 3 84 t33) w K fun t34 w=>dx (mBin .shl 3 (iN 1) t34) w K fun t35 w=>dx (mBin .add 3 t6 t35) w K fun t36 w=>dx (mBin .add 3 t7 (iN 1)) w K fun t30 w=>N1 [t36,t30] w) (dx (mBin .add 3 t6 t1) w K fun t39 w=>K (.returned (.tuple #[t39,(iN 0)])) w)
def S_foliantref11_Far(t0 t1 w)(K:KT):=
 dx (mBin .lss 3 t0 (iN 0)) w K fun t9 w=>efx t9 t0 w fun t11 w=>gfx t9 (mBin .gtr 3 t11 (iN 29)) w K fun t12 w=>dx (mPick t9 (.bool true) t12) w K fun t13 w=>efx t13 t1 w fun t15 w=>gfx t13 (mBin .lss 3 t15 (iN 0)) w K fun t16 w=>dx (mPick t13 (.bool true) t16) w K fun t17 w=>efx t17 t1 w fun t19 w=>efx t17 t0 w fun t20 w=>cfx t17 312 #[t20] w K fun t21 w=>gfx t17 (mConv 3 84 t21) w K fun t22 w=>gfx t17 (mBin .shl 3 (iN 1) t22) w K fun t23 w=>gfx t17 (mBin .geq 3 t19 t23) w K fun t24 w=>dx (mPick t17 (.bool true) t24) w K fun t25 w=>IfX t25 (K (.returned (.tuple #[(iN 0),(iN 1)])) w) (LoopX [(iN 1),(iN 0)] w (fun vs1 w N1=>∀_:Sg,S_foliantref11_Far_0 t0 t1 (vs1.getD 0 undef) (vs1.getD 1 undef) w N1 K))
theorem S_foliantref11_Far_eq (t0 t1:Value)(w:World)(K:Ending→World→Prop):wpX prog 40 [] [(5,[6,7])] none (bodyOf Tryz.f313) (topQ prog [.tmp 4,.tmp 5] K) (startX [t0,t1]) [] w=S_foliantref11_Far t0 t1 w K:=by kernel_rfl
theorem S_foliantref11_Far_ok {t0 t1:Value}{w:World}{K:Ending→World→Prop}(h:S_foliantref11_Far t0 t1 w K):Calls prog 313 #[t0,t1] w K:=
 calls_of_wpX Tryz.func313 rfl rfl rfl rfl (Eq.mpr (S_foliantref11_Far_eq t0 t1 w K) h)
def S_foliantref11_Fixed_3(t2 t3 t6 w)(N4:JT)(K:KT):=
 dx (mBin .lss 3 t6 (iN 32)) w K fun t28 w=>IfX t28 (dx (mBuildS 123 1 #[(0,(iN 5))]) w K fun t32 w=>dx (mB .append #[123,123] 123 #[false,false] #[t3,t32]) w K fun t33 w=>dx (mBin .add 3 t6 (iN 1)) w K fun t30 w=>N4 [t33,t30] w) (K (.returned (.tuple #[t2,t3])) w)
def S_foliantref11_Fixed_2(t2 t4 t5 w)(N1:JT)(K:KT):=
 dx (mBuildS 123 1 #[(0,t5)]) w K fun t25 w=>dx (mB .append #[123,123] 123 #[false,false] #[t2,t25]) w K fun t26 w=>dx (mBin .add 3 t4 (iN 1)) w K fun t10 w=>N1 [t26,t10] w
def S_foliantref11_Fixed_1(t2 t4 t5 w)(N1:JT)(K:KT):=
 JoinX (fun J3=>dx (mBin .geq 3 t4 (iN 256)) w K fun t18 w=>etx t18 t4 w fun t20 w=>gtx t18 (mBin .lss 3 t20 (iN 280)) w K fun t21 w=>dx (mPick t18 t21 (.bool false)) w K fun t22 w=>IfX t22 (J3 [(iN 7)] w) (J3 [t5] w)) (fun vs3 w=>∀_:Sg,S_foliantref11_Fixed_2 t2 t4 (vs3.getD 0 undef) w N1 K)
def S_foliantref11_Fixed_0(t2 t3 t4 w)(N1:JT)(K:KT):=
 dx (mBin .lss 3 t4 (iN 288)) w K fun t8 w=>IfX t8 (JoinX (fun J2=>dx (mBin .geq 3 t4 (iN 144)) w K fun t12 w=>etx t12 t4 w fun t14 w=>gtx t12 (mBin .lss 3 t14 (iN 256)) w K fun t15 w=>dx (mPick t12 t15 (.bool false)) w K fun t16 w=>IfX t16 (J2 [(iN 9)] w) (J2 [(iN 8)] w)) (fun vs2 w=>∀_:Sg,S_foliantref11_Fixed_1 t2 t4 (vs2.getD 0 undef) w N1 K)) (LoopX [t3,(iN 0)] w (fun vs4 w N4=>∀_:Sg,S_foliantref11_Fixed_3 t2 (vs4.getD 0 undef) (vs4.getD 1 undef) w N4 K))
def S_foliantref11_Fixed(w)(K:KT):=
 LoopX [(.slice none 0 0),(iN 0)] w (fun vs1 w N1=>∀_:Sg,S_foliantref11_Fixed_0 (vs1.getD 0 undef) (.slice none 0 0) (vs1.getD 1 undef) w N1 K)
theorem S_foliantref11_Fixed_eq (w:World)(K:Ending→World→Prop):wpX prog 36 [(8,[5]),(10,[5])] [(3,[2,4]),(12,[3,6])] none (bodyOf Tryz.f243) (topQ prog [.tmp 0,.tmp 1] K) (startX []) [] w=S_foliantref11_Fixed w K:=by kernel_rfl
theorem S_foliantref11_Fixed_ok {w:World}{K:Ending→World→Prop}(h:S_foliantref11_Fixed w K):Calls prog 243 #[] w K:=
 calls_of_wpX Tryz.func243 rfl rfl rfl rfl (Eq.mpr (S_foliantref11_Fixed_eq w K) h)
def S_foliantref11_stored(t0 t1 t2 t3 w)(K:KT):=
 dx (mBin .add 3 t1 (iN 7)) w K fun t19 w=>dx (mBin .quo 3 t19 (iN 8)) w K fun t20 w=>dx (mBin .mul 3 t20 (iN 8)) w K fun t21 w=>cx 194 #[t0,t21,(iN 16)] w K fun t25 w=>dx (mExt t25 0) w K fun t26 w=>dx (mExt t25 1) w K fun t27 w=>dx (mExt t25 2) w K fun t28 w=>dx (mEq .neq 30 (.tmp 29) (.const (iN 0)) t28 (iN 0)) w K fun t30 w=>IfX t30 (K (.returned (.tuple #[(.slice none 0 0),(iN 0),t28])) w) (cx 194 #[t0,t27,(iN 16)] w K fun t35 w=>dx (mExt t35 0) w K fun t36 w=>dx (mExt t35 1) w K fun t37 w=>dx (mExt t35 2) w K fun t38 w=>dx (mEq .neq 30 (.tmp 39) (.const (iN 0)) t38 (iN 0)) w K fun t40 w=>IfX t40 (K (.returned (.tuple #[(.slice none 0 0),(iN 0),t38])) w) (dx (mBin .sub 3 (iN 65535) t26) w K fun t44 w=>dx (mEq .neq 3 (.tmp 42) (.tmp 44) t36 t44) w K fun t45 w=>IfX t45 (K (.returned (.tuple #[(.slice none 0 0),(iN 0),(iN 3)])) w) (dx (mB .len #[53] 3 #[false] #[t2]) w K fun t49 w=>dx (mBin .sub 3 t3 t49) w K fun t50 w=>dx (mBin .gtr 3 t26 t50) w K fun t51 w=>IfX t51 (K (.returned (.tuple #[(.slice none 0 0),(iN 0),(iN 5)])) w) (dx (mB .len #[9] 3 #[false] #[t0]) w K fun t54 w=>dx (mBin .quo 3 t37 (iN 8)) w K fun t56 w=>dx (mBin .sub 3 t54 t56) w K fun t57 w=>dx (mBin .gtr 3 t26 t57) w K fun t58 w=>IfX t58 (K (.returned (.tuple #[(.slice none 0 0),(iN 0),(iN 4)])) w) (dx (mBin .quo 3 t37 (iN 8)) w K fun t62 w=>dx (mBin .quo 3 t37 (iN 8)) w K fun t64 w=>dx (mBin .add 3 t64 t26) w K fun t66 w=>dx (mSlice 9 t0 (some t62) (some t66) none) w K fun t67 w=>dx (mB .append #[53,9] 53 #[false,false] #[t2,t67]) w K fun t68 w=>dx (mBin .mul 3 (iN 8) t26) w K fun t71 w=>dx (mBin .add 3 t37 t71) w K fun t72 w=>K (.returned (.tuple #[t68,t72,(iN 0)])) w)))))
theorem S_foliantref11_stored_ok{t0 t1 t2 t3 w K}(h:S_foliantref11_stored t0 t1 t2 t3 w K):Calls prog 242 #[t0,t1,t2,t3] w K:=cw Tryz.func242 rfl rfl (by kernel_rfl) h
def S_foliantref11_lengths_0(t0 t8 t11 t14 t15 t17 t18 t19 w)(N1:JT)(K:KT):=
 dx (mBin .add 3 t14 (iN 4)) w K fun t65 w=>dx (mBin .lss 3 t19 t65) w K fun t66 w=>IfX t66 (cx 194 #[t0,t15,(iN 3)] w K fun t72 w=>dx (mExt t72 0) w K fun t73 w=>dx (mExt t72 1) w K fun t74 w=>dx (mExt t72 2) w K fun t75 w=>dx (mEq .neq 30 (.tmp 76) (.const (iN 0)) t75 (iN 0)) w K fun t77 w=>IfX t77 (K (.returned (.tuple #[(.slice none 0 0),(.slice none 0 0),(iN 0),t75])) w) (dx (mIA 123 t17 t19) w K fun t82 w=>dx (mLoad 3 t82) w K fun t83 w=>dx (mIA 123 t18 t83) w K fun t86 w=>dx (mStore 3 t86 t73) w K fun _ w=>dx (mBin .add 3 t19 (iN 1)) w K fun t68 w=>N1 [t74,t68] w)) (cx 245 #[t18] w K fun t88 w=>dx (mEq .neq 30 (.tmp 89) (.const (iN 0)) t88 (iN 0)) w K fun t90 w=>IfX t90 (K (.returned (.tuple #[(.slice none 0 0),(.slice none 0 0),(iN 0),t88])) w) (dx (mBin .add 3 t8 (iN 257)) w K fun t97 w=>dx (mBin .add 3 t97 t11) w K fun t99 w=>dx (mBin .add 3 t99 (iN 1)) w K fun t100 w=>cx 277 #[t0,t15,t18,t100] w K fun t101 w=>dx (mExt t101 0) w K fun t102 w=>dx (mExt t101 1) w K fun t103 w=>dx (mExt t101 2) w K fun t104 w=>dx (mEq .neq 30 (.tmp 105) (.const (iN 0)) t104 (iN 0)) w K fun t106 w=>IfX t106 (K (.returned (.tuple #[(.slice none 0 0),(.slice none 0 0),(iN 0),t104])) w) (QuietX w (fun C2=>QDo prog C2 (mBin .add 3 t8 (iN 257)) fun t110=>QDo prog C2 (mSlice 123 t102 none (some t110) none) fun t111=>QDo prog C2 (mBin .add 3 t8 (iN 257)) fun t114=>QDo prog C2 (mSlice 123 t102 (some t114) none none) fun t115=>
 ∀w,C2 w →
 K (.returned (.tuple #[t111,t115,t103,(iN 0)])) w))))
def S_foliantref11_lengths(t0 t1 w)(K:KT):=
 cx 194 #[t0,t1,(iN 5)] w K fun t30 w=>dx (mExt t30 0) w K fun t31 w=>dx (mExt t30 1) w K fun t32 w=>dx (mExt t30 2) w K fun t33 w=>dx (mEq .neq 30 (.tmp 34) (.const (iN 0)) t33 (iN 0)) w K fun t35 w=>IfX t35 (K (.returned (.tuple #[(.slice none 0 0),(.slice none 0 0),(iN 0),t33])) w) (dx (mBin .gtr 3 t31 (iN 29)) w K fun t38 w=>IfX t38 (K (.returned (.tuple #[(.slice none 0 0),(.slice none 0 0),(iN 0),(iN 3)])) w) (cx 194 #[t0,t32,(iN 5)] w K fun t42 w=>dx (mExt t42 0) w K fun t43 w=>dx (mExt t42 1) w K fun t44 w=>dx (mExt t42 2) w K fun t45 w=>dx (mEq .neq 30 (.tmp 46) (.const (iN 0)) t45 (iN 0)) w K fun t47 w=>IfX t47 (K (.returned (.tuple #[(.slice none 0 0),(.slice none 0 0),(iN 0),t45])) w) (dx (mBin .gtr 3 t43 (iN 29)) w K fun t50 w=>IfX t50 (K (.returned (.tuple #[(.slice none 0 0),(.slice none 0 0),(iN 0),(iN 3)])) w) (cx 194 #[t0,t44,(iN 4)] w K fun t54 w=>dx (mExt t54 0) w K fun t55 w=>dx (mExt t54 1) w K fun t56 w=>dx (mExt t54 2) w K fun t57 w=>dx (mEq .neq 30 (.tmp 58) (.const (iN 0)) t57 (iN 0)) w K fun t59 w=>IfX t59 (K (.returned (.tuple #[(.slice none 0 0),(.slice none 0 0),(iN 0),t57])) w) (dx (mBuildS 123 19 #[(0,(iN 16)),(1,(iN 17)),(2,(iN 18)),(3,(iN 0)),(4,(iN 8)),(5,(iN 7)),(6,(iN 9)),(7,(iN 6)),(8,(iN 10)),(9,(iN 5)),(10,(iN 11)),(11,(iN 4)),(12,(iN 12)),(13,(iN 3)),(14,(iN 13)),(15,(iN 2)),(16,(iN 14)),(17,(iN 1)),(18,(iN 15))]) w K fun t61 w=>dx (mMake 123 (iN 19) (iN 19)) w K fun t62 w=>LoopX [t56,(iN 0)] w (fun vs1 w N1=>∀_:Sg,S_foliantref11_lengths_0 t0 t31 t43 t55 (vs1.getD 0 undef) t61 t62 (vs1.getD 1 undef) w N1 K))))))
theorem S_foliantref11_lengths_eq (t0 t1:Value)(w:World)(K:Ending→World→Prop):wpX prog 117 [] [(17,[15,19])] none (bodyOf Tryz.f244) (topQ prog [.tmp 4,.tmp 5,.tmp 6,.tmp 7] K) (startX [t0,t1]) [] w=S_foliantref11_lengths t0 t1 w K:=by kernel_rfl
theorem S_foliantref11_lengths_ok {t0 t1:Value}{w:World}{K:Ending→World→Prop}(h:S_foliantref11_lengths t0 t1 w K):Calls prog 244 #[t0,t1] w K:=
 calls_of_wpX Tryz.func244 rfl rfl rfl rfl (Eq.mpr (S_foliantref11_lengths_eq t0 t1 w K) h)
def S_foliantref11_all_4(t11 t16 t17 t18 t19 t21 w)(N1 N5:JT)(K:KT):=
 dx (mBin .add 3 t16 t18) w K fun t85 w=>dx (mBin .lss 3 t21 t85) w K fun t86 w=>IfX t86 (dx (mBuildS 123 1 #[(0,t17)]) w K fun t91 w=>dx (mB .append #[123,123] 123 #[false,false] #[t11,t91]) w K fun t92 w=>dx (mBin .add 3 t21 (iN 1)) w K fun t88 w=>N5 [t92,t88] w) (N1 [t19,t11] w)
def S_foliantref11_all_3(t0 t3 t11 t13 t15 t16 t17 w)(N1:JT)(K:KT):=
 cx 194 #[t0,t13,t15] w K fun t67 w=>dx (mExt t67 0) w K fun t68 w=>dx (mExt t67 1) w K fun t69 w=>dx (mExt t67 2) w K fun t70 w=>dx (mEq .neq 30 (.tmp 71) (.const (iN 0)) t70 (iN 0)) w K fun t72 w=>IfX t72 (K (.returned (.tuple #[(.slice none 0 0),(iN 0),t70])) w) (dx (mBin .add 3 t16 t68) w K fun t76 w=>dx (mB .len #[123] 3 #[false] #[t11]) w K fun t79 w=>dx (mBin .sub 3 t3 t79) w K fun t80 w=>dx (mBin .gtr 3 t76 t80) w K fun t81 w=>IfX t81 (K (.returned (.tuple #[(.slice none 0 0),(iN 0),(iN 3)])) w) (LoopX [t11,(iN 0)] w (fun vs5 w N5=>∀_:Sg,S_foliantref11_all_4 (vs5.getD 0 undef) t16 t17 t68 t69 (vs5.getD 1 undef) w N1 N5 K)))
def S_foliantref11_all_2(t0 t3 t11 t12 t13 t15 t16 t17 w)(N1:JT)(K:KT):=
 JoinX (fun J4=>dx (mEq .eql 3 (.tmp 61) (.const (iN 18)) t12 (iN 18)) w K fun t62 w=>IfX t62 (J4 [(iN 7),(iN 11)] w) (J4 [t15,t16] w)) (fun vs4 w=>∀_:Sg,S_foliantref11_all_3 t0 t3 t11 t13 (vs4.getD 0 undef) (vs4.getD 1 undef) t17 w N1 K)
def S_foliantref11_all_1(t0 t3 t11 t12 t13 t15 t16 t17 w)(N1:JT)(K:KT):=
 JoinX (fun J3=>dx (mEq .eql 3 (.tmp 59) (.const (iN 17)) t12 (iN 17)) w K fun t60 w=>IfX t60 (J3 [(iN 3)] w) (J3 [t15] w)) (fun vs3 w=>∀_:Sg,S_foliantref11_all_2 t0 t3 t11 t12 t13 (vs3.getD 0 undef) t16 t17 w N1 K)
def S_foliantref11_all_0(t0 t1 t2 t3 t11 w)(N1:JT)(K:KT):=
 dx (mB .len #[123] 3 #[false] #[t11]) w K fun t23 w=>dx (mBin .lss 3 t23 t3) w K fun t25 w=>IfX t25 (cx 279 #[t2,t0,t1] w K fun t30 w=>dx (mExt t30 0) w K fun t31 w=>dx (mExt t30 1) w K fun t32 w=>dx (mExt t30 2) w K fun t33 w=>dx (mEq .neq 30 (.tmp 34) (.const (iN 0)) t33 (iN 0)) w K fun t35 w=>IfX t35 (K (.returned (.tuple #[(.slice none 0 0),(iN 0),t33])) w) (dx (mBin .lss 3 t31 (iN 16)) w K fun t38 w=>IfX t38 (dx (mBuildS 123 1 #[(0,t31)]) w K fun t41 w=>dx (mB .append #[123,123] 123 #[false,false] #[t11,t41]) w K fun t42 w=>N1 [t32,t42] w) (dx (mEq .eql 3 (.tmp 44) (.const (iN 16)) t31 (iN 16)) w K fun t45 w=>etx t45 t11 w fun t47 w=>gtx t45 (mB .len #[123] 3 #[false] #[t47]) w K fun t48 w=>gtx t45 (mEq .eql 3 (.tmp 48) (.const (iN 0)) t48 (iN 0)) w K fun t49 w=>dx (mPick t45 t49 (.bool false)) w K fun t50 w=>IfX t50 (K (.returned (.tuple #[(.slice none 0 0),(iN 0),(iN 3)])) w) (JoinX (fun J2=>dx (mEq .eql 3 (.tmp 51) (.const (iN 16)) t31 (iN 16)) w K fun t52 w=>IfX t52 (dx (mB .len #[123] 3 #[false] #[t11]) w K fun t55 w=>dx (mBin .sub 3 t55 (iN 1)) w K fun t56 w=>dx (mIA 123 t11 t56) w K fun t57 w=>dx (mLoad 3 t57) w K fun t58 w=>J2 [t58] w) (J2 [(iN 0)] w)) (fun vs2 w=>∀_:Sg,S_foliantref11_all_1 t0 t3 t11 t31 t32 (iN 2) (iN 3) (vs2.getD 0 undef) w N1 K))))) (K (.returned (.tuple #[t11,t1,(iN 0)])) w)
def S_foliantref11_all(t0 t1 t2 t3 w)(K:KT):=
 LoopX [t1,(.slice none 0 0)] w (fun vs1 w N1=>∀_:Sg,S_foliantref11_all_0 t0 (vs1.getD 0 undef) t2 t3 (vs1.getD 1 undef) w N1 K)
theorem S_foliantref11_all_eq (t0 t1 t2 t3:Value)(w:World)(K:Ending→World→Prop):wpX prog 96 [(13,[17]),(15,[15]),(17,[15,16])] [(2,[1,11]),(23,[11,21])] none (bodyOf Tryz.f277) (topQ prog [.tmp 8,.tmp 9,.tmp 10] K) (startX [t0,t1,t2,t3]) [] w=S_foliantref11_all t0 t1 t2 t3 w K:=by kernel_rfl
theorem S_foliantref11_all_ok {t0 t1 t2 t3:Value}{w:World}{K:Ending→World→Prop}(h:S_foliantref11_all t0 t1 t2 t3 w K):Calls prog 277 #[t0,t1,t2,t3] w K:=
 calls_of_wpX Tryz.func277 rfl rfl rfl rfl (Eq.mpr (S_foliantref11_all_eq t0 t1 t2 t3 w K) h)
def S_foliantref11_copied_0(t4 t18 t24 t26 t28 w)(N1:JT)(K:KT):=
 dx (mBin .lss 3 t28 t18) w K fun t92 w=>IfX t92 (dx (mB .len #[53] 3 #[false] #[t4]) w K fun t98 w=>dx (mBin .sub 3 t98 t26) w K fun t100 w=>dx (mIA 53 t4 t100) w K fun t101 w=>dx (mLoad 5 t101) w K fun t102 w=>dx (mBuildS 53 1 #[(0,t102)]) w K fun t103 w=>dx (mB .append #[53,53] 53 #[false,false] #[t4,t103]) w K fun t104 w=>dx (mBin .add 3 t28 (iN 1)) w K fun t94 w=>N1 [t104,t94] w) (K (.returned (.tuple #[t4,t24,(iN 0)])) w)
def S_foliantref11_copied(t0 t1 t2 t3 t4 t5 w)(K:KT):=
 dx (mBin .gtr 3 t2 (iN 285)) w K fun t30 w=>IfX t30 (K (.returned (.tuple #[(.slice none 0 0),(iN 0),(iN 13)])) w) (cx 310 #[t2] w K fun t35 w=>cx 194 #[t0,t1,t35] w K fun t36 w=>dx (mExt t36 0) w K fun t37 w=>dx (mExt t36 1) w K fun t38 w=>dx (mExt t36 2) w K fun t39 w=>dx (mEq .neq 30 (.tmp 40) (.const (iN 0)) t39 (iN 0)) w K fun t41 w=>IfX t41 (K (.returned (.tuple #[(.slice none 0 0),(iN 0),t39])) w) (cx 311 #[t2,t37] w K fun t46 w=>dx (mExt t46 0) w K fun t47 w=>dx (mExt t46 1) w K fun t48 w=>cx 279 #[t3,t0,t38] w K fun t53 w=>dx (mExt t53 0) w K fun t54 w=>dx (mExt t53 1) w K fun t55 w=>dx (mExt t53 2) w K fun t56 w=>dx (mEq .neq 30 (.tmp 57) (.const (iN 0)) t56 (iN 0)) w K fun t58 w=>IfX t58 (K (.returned (.tuple #[(.slice none 0 0),(iN 0),t56])) w) (dx (mBin .gtr 3 t54 (iN 29)) w K fun t61 w=>IfX t61 (K (.returned (.tuple #[(.slice none 0 0),(iN 0),(iN 13)])) w) (cx 312 #[t54] w K fun t66 w=>cx 194 #[t0,t55,t66] w K fun t67 w=>dx (mExt t67 0) w K fun t68 w=>dx (mExt t67 1) w K fun t69 w=>dx (mExt t67 2) w K fun t70 w=>dx (mEq .neq 30 (.tmp 71) (.const (iN 0)) t70 (iN 0)) w K fun t72 w=>IfX t72 (K (.returned (.tuple #[(.slice none 0 0),(iN 0),t70])) w) (cx 313 #[t54,t68] w K fun t77 w=>dx (mExt t77 0) w K fun t78 w=>dx (mExt t77 1) w K fun t79 w=>dx (mB .len #[53] 3 #[false] #[t4]) w K fun t82 w=>dx (mBin .gtr 3 t78 t82) w K fun t83 w=>IfX t83 (K (.returned (.tuple #[(.slice none 0 0),(iN 0),(iN 14)])) w) (dx (mB .len #[53] 3 #[false] #[t4]) w K fun t87 w=>dx (mBin .sub 3 t5 t87) w K fun t88 w=>dx (mBin .gtr 3 t47 t88) w K fun t89 w=>IfX t89 (K (.returned (.tuple #[(.slice none 0 0),(iN 0),(iN 5)])) w) (LoopX [t4,(iN 0)] w (fun vs1 w N1=>∀_:Sg,S_foliantref11_copied_0 (vs1.getD 0 undef) t47 t69 t78 (vs1.getD 1 undef) w N1 K))))))))
theorem S_foliantref11_copied_eq (t0 t1 t2 t3 t4 t5:Value)(w:World)(K:Ending→World→Prop):wpX prog 107 [] [(21,[4,28])] none (bodyOf Tryz.f280) (topQ prog [.tmp 12,.tmp 13,.tmp 14] K) (startX [t0,t1,t2,t3,t4,t5]) [] w=S_foliantref11_copied t0 t1 t2 t3 t4 t5 w K:=by kernel_rfl
theorem S_foliantref11_copied_ok {t0 t1 t2 t3 t4 t5:Value}{w:World}{K:Ending→World→Prop}(h:S_foliantref11_copied t0 t1 t2 t3 t4 t5 w K):Calls prog 280 #[t0,t1,t2,t3,t4,t5] w K:=
 calls_of_wpX Tryz.func280 rfl rfl rfl rfl (Eq.mpr (S_foliantref11_copied_eq t0 t1 t2 t3 t4 t5 w K) h)
def S_foliantref11_signs_0(t0 t1 t2 t3 t4 t5 w)(N1:JT)(K:KT):=
 cx 279 #[t2,t0,t1] w K fun t25 w=>dx (mExt t25 0) w K fun t26 w=>dx (mExt t25 1) w K fun t27 w=>dx (mExt t25 2) w K fun t28 w=>dx (mEq .neq 30 (.tmp 29) (.const (iN 0)) t28 (iN 0)) w K fun t30 w=>IfX t30 (K (.returned (.tuple #[(.slice none 0 0),(iN 0),t28])) w) (dx (mEq .eql 3 (.tmp 32) (.const (iN 256)) t26 (iN 256)) w K fun t33 w=>IfX t33 (K (.returned (.tuple #[t4,t27,(iN 0)])) w) (dx (mBin .gtr 3 t26 (iN 256)) w K fun t37 w=>IfX t37 (cx 280 #[t0,t27,t26,t3,t4,t5] w K fun t45 w=>dx (mExt t45 0) w K fun t46 w=>dx (mExt t45 1) w K fun t47 w=>dx (mExt t45 2) w K fun t48 w=>dx (mEq .neq 30 (.tmp 49) (.const (iN 0)) t48 (iN 0)) w K fun t50 w=>IfX t50 (K (.returned (.tuple #[(.slice none 0 0),(iN 0),t48])) w) (N1 [t47,t46] w)) (dx (mB .len #[53] 3 #[false] #[t4]) w K fun t55 w=>dx (mBin .geq 3 t55 t5) w K fun t57 w=>IfX t57 (K (.returned (.tuple #[(.slice none 0 0),(iN 0),(iN 5)])) w) (dx (mConv 3 5 t26) w K fun t60 w=>dx (mBuildS 53 1 #[(0,t60)]) w K fun t61 w=>dx (mB .append #[53,53] 53 #[false,false] #[t4,t61]) w K fun t62 w=>N1 [t27,t62] w))))
def S_foliantref11_signs(t0 t1 t2 t3 t4 t5 w)(K:KT):=
 LoopX [t1,t4] w (fun vs1 w N1=>∀_:Sg,S_foliantref11_signs_0 t0 (vs1.getD 0 undef) t2 t3 (vs1.getD 1 undef) t5 w N1 K)
theorem S_foliantref11_signs_eq (t0 t1 t2 t3 t4 t5:Value)(w:World)(K:Ending→World→Prop):wpX prog 64 [] [(1,[1,4])] none (bodyOf Tryz.f246) (topQ prog [.tmp 12,.tmp 13,.tmp 14] K) (startX [t0,t1,t2,t3,t4,t5]) [] w=S_foliantref11_signs t0 t1 t2 t3 t4 t5 w K:=by kernel_rfl
theorem S_foliantref11_signs_ok {t0 t1 t2 t3 t4 t5:Value}{w:World}{K:Ending→World→Prop}(h:S_foliantref11_signs t0 t1 t2 t3 t4 t5 w K):Calls prog 246 #[t0,t1,t2,t3,t4,t5] w K:=
 calls_of_wpX Tryz.func246 rfl rfl rfl rfl (Eq.mpr (S_foliantref11_signs_eq t0 t1 t2 t3 t4 t5 w K) h)
def S_foliantref11_block_0(t0 t1 t3 t4 t13 t14 w)(K:KT):=
 cx 246 #[t0,t1,t13,t14,t3,t4] w K fun t73 w=>dx (mExt t73 0) w K fun t74 w=>dx (mExt t73 1) w K fun t75 w=>dx (mExt t73 2) w K fun t76 w=>K (.returned (.tuple #[t74,t75,t76])) w
def S_foliantref11_block(t0 t1 t2 t3 t4 w)(K:KT):=
 dx (mEq .eql 3 (.tmp 21) (.const (iN 3)) t2 (iN 3)) w K fun t22 w=>IfX t22 (K (.returned (.tuple #[(.slice none 0 0),(iN 0),(iN 3)])) w) (dx (mEq .eql 3 (.tmp 23) (.const (iN 0)) t2 (iN 0)) w K fun t24 w=>IfX t24 (cx 242 #[t0,t1,t3,t4] w K fun t29 w=>dx (mExt t29 0) w K fun t30 w=>dx (mExt t29 1) w K fun t31 w=>dx (mExt t29 2) w K fun t32 w=>K (.returned (.tuple #[t30,t31,t32])) w) (cx 243 #[] w K fun t34 w=>dx (mExt t34 0) w K fun t35 w=>dx (mExt t34 1) w K fun t36 w=>JoinX (fun J1=>dx (mEq .eql 3 (.tmp 37) (.const (iN 2)) t2 (iN 2)) w K fun t38 w=>IfX t38 (cx 244 #[t0,t1] w K fun t42 w=>dx (mExt t42 0) w K fun t43 w=>dx (mExt t42 1) w K fun t44 w=>dx (mExt t42 2) w K fun t45 w=>dx (mExt t42 3) w K fun t46 w=>dx (mEq .neq 30 (.tmp 47) (.const (iN 0)) t46 (iN 0)) w K fun t48 w=>IfX t48 (K (.returned (.tuple #[(.slice none 0 0),(iN 0),t46])) w) (dx (mIA 123 t43 (iN 256)) w K fun t51 w=>dx (mLoad 3 t51) w K fun t52 w=>dx (mEq .eql 3 (.tmp 52) (.const (iN 0)) t52 (iN 0)) w K fun t53 w=>IfX t53 (K (.returned (.tuple #[(.slice none 0 0),(iN 0),(iN 13)])) w) (cx 245 #[t43] w K fun t55 w=>dx (mEq .neq 30 (.tmp 56) (.const (iN 0)) t55 (iN 0)) w K fun t57 w=>IfX t57 (K (.returned (.tuple #[(.slice none 0 0),(iN 0),t55])) w) (cx 245 #[t44] w K fun t60 w=>dx (mEq .neq 30 (.tmp 61) (.const (iN 0)) t60 (iN 0)) w K fun t62 w=>IfX t62 (K (.returned (.tuple #[(.slice none 0 0),(iN 0),t60])) w) (J1 [t45,t43,t44] w))))) (J1 [t1,t35,t36] w)) (fun vs1 w=>∀_:Sg,S_foliantref11_block_0 t0 (vs1.getD 0 undef) t3 t4 (vs1.getD 1 undef) (vs1.getD 2 undef) w K)))
theorem S_foliantref11_block_eq (t0 t1 t2 t3 t4:Value)(w:World)(K:Ending→World→Prop):wpX prog 77 [(19,[1,13,14])] [] none (bodyOf Tryz.f195) (topQ prog [.tmp 10,.tmp 11,.tmp 12] K) (startX [t0,t1,t2,t3,t4]) [] w=S_foliantref11_block t0 t1 t2 t3 t4 w K:=by kernel_rfl
theorem S_foliantref11_block_ok {t0 t1 t2 t3 t4:Value}{w:World}{K:Ending→World→Prop}(h:S_foliantref11_block t0 t1 t2 t3 t4 w K):Calls prog 195 #[t0,t1,t2,t3,t4] w K:=
 calls_of_wpX Tryz.func195 rfl rfl rfl rfl (Eq.mpr (S_foliantref11_block_eq t0 t1 t2 t3 t4 w K) h)
def S_foliantref11_All_0(t0 t1 t7 t8 w)(N1:JT)(K:KT):=
 cx 194 #[t0,t8,(iN 1)] w K fun t25 w=>dx (mExt t25 0) w K fun t26 w=>dx (mExt t25 1) w K fun t27 w=>dx (mExt t25 2) w K fun t28 w=>dx (mEq .neq 30 (.tmp 29) (.const (iN 0)) t28 (iN 0)) w K fun t30 w=>IfX t30 (K (.returned (.tuple #[(.string ⟨#[]⟩),(iN 0),t28])) w) (cx 194 #[t0,t27,(iN 2)] w K fun t35 w=>dx (mExt t35 0) w K fun t36 w=>dx (mExt t35 1) w K fun t37 w=>dx (mExt t35 2) w K fun t38 w=>dx (mEq .neq 30 (.tmp 39) (.const (iN 0)) t38 (iN 0)) w K fun t40 w=>IfX t40 (K (.returned (.tuple #[(.string ⟨#[]⟩),(iN 0),t38])) w) (cx 195 #[t0,t37,t36,t7,t1] w K fun t48 w=>dx (mExt t48 0) w K fun t49 w=>dx (mExt t48 1) w K fun t50 w=>dx (mExt t48 2) w K fun t51 w=>dx (mEq .neq 30 (.tmp 52) (.const (iN 0)) t51 (iN 0)) w K fun t53 w=>IfX t53 (K (.returned (.tuple #[(.string ⟨#[]⟩),(iN 0),t51])) w) (dx (mEq .eql 3 (.tmp 57) (.const (iN 1)) t26 (iN 1)) w K fun t58 w=>IfX t58 (dx (mConv 53 9 t49) w K fun t60 w=>dx (mBin .add 3 t50 (iN 7)) w K fun t62 w=>dx (mBin .quo 3 t62 (iN 8)) w K fun t63 w=>K (.returned (.tuple #[t60,t63,(iN 0)])) w) (N1 [t49,t50] w))))
def S_foliantref11_All(t0 t1 w)(K:KT):=
 dx (mBin .lss 3 t1 (iN 0)) w K fun t19 w=>IfX t19 (K (.returned (.tuple #[(.string ⟨#[]⟩),(iN 0),(iN 1)])) w) (dx (mB .min #[3,3] 3 #[false,true] #[t1,(iN 1048576)]) w K fun t21 w=>LoopX [(.slice none 0 0),(iN 0)] w (fun vs1 w N1=>∀_:Sg,S_foliantref11_All_0 t0 t21 (vs1.getD 0 undef) (vs1.getD 1 undef) w N1 K))
theorem S_foliantref11_All_eq (t0 t1:Value)(w:World)(K:Ending→World→Prop):wpX prog 64 [] [(6,[7,8])] none (bodyOf Tryz.f128) (topQ prog [.tmp 4,.tmp 5,.tmp 6] K) (startX [t0,t1]) [] w=S_foliantref11_All t0 t1 w K:=by kernel_rfl
theorem S_foliantref11_All_ok {t0 t1:Value}{w:World}{K:Ending→World→Prop}(h:S_foliantref11_All t0 t1 w K):Calls prog 128 #[t0,t1] w K:=
 calls_of_wpX Tryz.func128 rfl rfl rfl rfl (Eq.mpr (S_foliantref11_All_eq t0 t1 w K) h)
end
section
open Eng Go.RowKit
theorem tellsM {P:Program}{f:Nat}{args:Array Value}{M:Mem}{w:World}{R:Value→Prop}(h:RetM P f args M w (fun v _=>R v)):Ret P f args w (fun v w'=>R v∧Below w.heap.size w w'):=Ret.mono h fun v w' ⟨N,g,r⟩=>⟨r,g.below⟩
theorem tdivN (a b:Nat):((a:Nat):Int).tdiv ((b:Nat):Int)=((a / b:Nat):Int):=rfl
theorem tmodN (a b:Nat):((a:Nat):Int).tmod ((b:Nat):Int)=((a % b:Nat):Int):=rfl
theorem wrapU16 {n:Nat}(h:n≤1000000000):IntKind.u64.wrap (n:Int)=(n:Int):=by unfold IntKind.wrap;simp[IntKind.bits,IntKind.signed];omega
theorem shl1 {n:Nat}(hn:n≤62):IntKind.wrap .i64 (1*2 ^ (min ((n:Nat):Int).toNat IntKind.i64.bits))=((2 ^ n:Nat):Int):=by
 have hp:2 ^ n≤2 ^ 62:=Nat.pow_le_pow_right (by decide) hn;have h62:(2:Nat) ^ 62=4611686018427387904:=by decide
 rw[show min ((n:Nat):Int).toNat IntKind.i64.bits=n by show min ((n:Nat):Int).toNat 64=n;omega,show (1:Int)*2 ^ n=((2 ^ n:Nat):Int) by push_cast;omega];generalize 2 ^ n=q at hp;exact wrap64_id (by omega) (by omega)
theorem rbits_ret (n:Nat)(w:World)(hn:n≤62):Ret prog 276 #[.int .i64 (n:Int)] w (fun v w'=>v=.int .i64 ((2 ^ n:Nat):Int)∧w=w'):=by
 refine ret_of fun K hK=>S_foliantref10_bits_ok ?_;unfold S_foliantref10_bits iN dx;refine do_eq (run_c_int (by kernel_rfl) Tryz.underlying84) |>.mpr ?_;rw[wrapU16 (by omega),b_shl (by omega),shl1 hn];exact hK _ _ ⟨rfl,rfl⟩
theorem rBit_ret (s:List UInt8)(p:Nat)(w:World)(hp:p≤1000000000000)(hs:s.length≤1000000000):Ret prog 241 #[.string ⟨s.toArray⟩,.int .i64 (p:Int)] w (fun v w'=>v=.int .i64 (if p < 8*s.length then ((Fl.bit s p:Nat):Int) else -1)∧Below w.heap.size w w'):=by
 refine ret_of fun K hK=>S_foliantref10_Bit_ok ?_;unfold S_foliantref10_Bit iN dx gfx efx;simp only[rs,show decide ((p:Int) < 0)=false from decide_eq_false (by omega)];rw[b_quo (by decide),show ((p:Nat):Int).tdiv 8=((p / 8:Nat):Int) from rfl,wrap64_id (by omega) (by omega)]
 try simp only[rs]
 rw[s_len Tryz.underlying9]
 try simp only[rs]
 by_cases h:p < 8*s.length
 ·simp only[show decide ((s.length:Int)≤((p / 8:Nat):Int))=false from decide_eq_false (by omega),rs];rw[if_pos h] at hK;refine quiet ?_;have hc:s[p / 8]?=some (s.getD (p / 8) 0):=by
   rw[List.getD_eq_getElem?_getD,List.getElem?_eq_getElem (by omega)];rfl
  refine q_quo (by decide) ?_;rw[show ((p:Nat):Int).tdiv 8=((p / 8:Nat):Int) from rfl,wrap64_id (by omega) (by omega)];refine q_ix (c:=s.getD (p / 8) 0) Tryz.underlying9 (by omega) (by rw[Int.toNat_natCast];exact hc) ?_;refine q_do _ (fun _=>run_c_int (by kernel_rfl) Tryz.underlying3) (q_rem (by decide) ?_);rw[show ((p:Nat):Int).tmod 8=((p % 8:Nat):Int) from rfl];refine q_call (.int .i64 ((2 ^ (p % 8):Nat):Int)) (fun W h=>(rbits_ret (p % 8) W (by omega)).mono fun v w' ⟨h1,h2⟩=>⟨h1,h2▸h⟩) ?_;have hb:=UInt8.toNat_lt (s.getD (p / 8) 0);have h2:0 < 2 ^ (p % 8):=Nat.two_pow_pos _;rw[show IntKind.i64.wrap ((s.getD (p / 8) 0).toNat:Int)=((s.getD (p / 8) 0).toNat:Int) from wrap64_id (by omega) (by omega)];refine q_quo (by omega) ?_;rw[tdivN];have hd:(s.getD (p / 8) 0).toNat / 2 ^ (p % 8)≤(s.getD (p / 8) 0).toNat:=Nat.div_le_self _ _;have hbe:Fl.bit s p=(s.getD (p / 8) 0).toNat / 2 ^ (p % 8) % 2:=rfl;generalize (s.getD (p / 8) 0).toNat / 2 ^ (p % 8)=q at hd hbe ⊢;rw[wrap64_id (by omega) (by omega)];refine q_rem (by decide) ?_;rw[show ((q:Nat):Int).tmod 2=((q % 2:Nat):Int) from rfl,←hbe];intro w2 hw;exact hK _ _ ⟨rfl,hw⟩
 ·simp only[show decide ((s.length:Int)≤((p / 8:Nat):Int))=true from decide_eq_true (by omega),rs];rw[if_neg h] at hK;exact hK _ _ ⟨rfl,Below.refl _ _⟩
def nmT (x:Nat×Nat×Int):Value:=.tuple #[.int .i64 (x.1:Int),.int .i64 (x.2.1:Int),.int .i64 x.2.2]
theorem rnumber11_ret (s:List UInt8)(p n:Nat)(w:World)(hp:p≤8*s.length)(hn:n≤32)(hs:s.length≤1000000000):Ret prog 194 #[.string ⟨s.toArray⟩,.int .i64 (p:Int),.int .i64 (n:Int)] w (fun v w'=>v=nmT (Fl.numE s p n)∧Below w.heap.size w w'):=by
 refine ret_of fun K hK=>S_foliantref11_number_ok ?_;unfold S_foliantref11_number iN;have ho:OwnS NoB w w []:=Own.start w;refine loop (fun vs W=>∃i:Nat,vs=[.int .i64 (Fl.num s p i:Int),.int .i64 (i:Int)]∧i≤n∧p+i≤8*s.length∧OwnS NoB w W []) (fun vs _=>n - n1 vs) ⟨0,rfl,by omega,by omega,ho⟩ ?_;clear ho;rintro vs w1 ⟨i,rfl,hi,hpi,ho⟩ _;simp only[S_foliantref11_number_0,gd,rs,iN,dx,cx];by_cases hlt:(i:Int) < (n:Int)
 ·simp only[hlt,decide_true,i_t];rw[wrap64_id (by omega) (by omega),show (p:Int)+(i:Int)=((p+i:Nat):Int) by omega];refine c_below ho (rBit_ret s (p+i) w1 (by omega) hs) ?_;rintro _ w2 rfl ho;by_cases hb:p+i < 8*s.length
  ·rw[if_pos hb];have hb2:=Fl.bit_lt s (p+i);simp only[rs,show decide (((Fl.bit s (p+i):Nat):Int) < 0)=false from decide_eq_false (by omega)];refine do_eq (run_c_int (by kernel_rfl) Tryz.underlying84) |>.mpr ?_;have hpw:2 ^ i≤2 ^ 32:=Nat.pow_le_pow_right (by decide) (by omega);have h32:(2:Nat) ^ 32=4294967296:=by decide
   have hnl:=Fl.num_lt s p i;have hbm:Fl.bit s (p+i)*2 ^ i≤1*2 ^ i:=Nat.mul_le_mul_right _ (by omega);rw[wrapU16 (by omega),b_shl (by omega),show min ((i:Nat):Int).toNat IntKind.i64.bits=i by show min ((i:Nat):Int).toNat 64=i;omega,
    show ((Fl.bit s (p+i):Nat):Int)*2 ^ i=((Fl.bit s (p+i)*2 ^ i:Nat):Int) by push_cast;rfl,wrap64_id (by omega) (by omega)]
   try simp only[rs]
   rw[wrap64_id (by omega) (by omega),wrap64_id (by omega) (by omega)];refine nextX ⟨i+1,?_,by omega,by omega,ho⟩ (by simp[n1,RowKit.intOf];omega);rw[Fl.num]
   push_cast
   rfl
  ·rw[if_neg hb];simp only[rs,show decide ((-1:Int) < 0)=true from rfl];refine hK _ _ ⟨?_,ho.done⟩;unfold Fl.numE;rw[if_neg (by omega)];rfl
 ·simp only[hlt,decide_false,i_f];have:i=n:=by omega
  subst this;rw[wrap64_id (by omega) (by omega)];refine hK _ _ ⟨?_,ho.done⟩;unfold Fl.numE;rw[if_pos (by omega)];unfold nmT
  push_cast
  rfl
theorem Fl.usedN_snoc (l:List Nat)(x:Nat):Fl.usedN (l++[x])=Fl.usedN l+(if x=0 then 0 else 1):=by
 unfold Fl.usedN;rw[List.filter_append,List.length_append];by_cases h:x=0<;>simp[h]
theorem Fl.ksum_snoc (l:List Nat)(x:Nat):Fl.ksum (l++[x])=Fl.ksum l+(if x=0 then 0 else 2 ^ (15 - x)):=by
 unfold Fl.ksum;rw[List.map_append,List.sum_append];simp
theorem Fl.ksum_le:∀(l:List Nat),Fl.ksum l≤l.length*32768
|[]=>by simp[Fl.ksum]
|x::l=>by
  have ih:=Fl.ksum_le l;unfold Fl.ksum at ih ⊢;rw[List.map_cons,List.sum_cons,List.length_cons,Nat.succ_mul];have:(if x=0 then 0 else 2 ^ (15 - x))≤32768:=by
   split
   ·omega
   ·have:2 ^ (15 - x)≤2 ^ 15:=Nat.pow_le_pow_right (by decide) (by omega);simpa using this
  omega
theorem Fl.usedN_le (l:List Nat):Fl.usedN l≤l.length:=List.length_filter_le _ _
theorem take_snoc {l:List Nat}{i:Nat}(h:i < l.length):l.take (i+1)=l.take i++[l[i]]:=List.take_succ_eq_append_getElem h
theorem rused_ret (lens:List Nat)(v:Value)(M:Mem)(w:World)(hl:lens.length≤100000)(hM:M.has w)(hs:SlA M.A M.w v 1 lens.length (natsW lens)) :
  RetM prog 278 #[v] M w (fun r _=>r=.int .i64 (Fl.usedN lens:Int)):=by
 refine retM_of hM fun K hK=>S_foliantref10_used_ok ?_;unfold S_foliantref10_used iN;have ho:OwnS M.A w w [.mem M]:=OwnS.memS hM;refine loop (fun vs W=>∃i:Nat,vs=[.int .i64 (Fl.usedN (lens.take i):Int),.int .i64 (i:Int)]∧i≤lens.length∧OwnS M.A w W [.mem M]) (fun vs _=>lens.length - n1 vs) ⟨0,rfl,by omega,ho⟩ ?_;clear ho;rintro vs w1 ⟨i,rfl,hi,ho⟩ _;simp only[S_foliantref10_used_0,gd,iN,dx];rw[sl_len Tryz.underlying123 (hs.now (ho.hasM 0 rfl))]
 try simp only[rs]
 by_cases hlt:(i:Int) < (lens.length:Int)
 ·simp only[hlt,decide_true,i_t];have hi':i < lens.length:=by omega
  refine join fun J hJ=>?_;obtain⟨b2,off,r1,r2⟩:=nats_at (hs.now (ho.hasM 0 rfl)) hi';refine do_eq (r1 w1) |>.mpr (do_eq (run_load_cell nInt5 r2) |>.mpr ?_);have hul:=Fl.usedN_le (lens.take i);rw[List.length_take] at hul;have fin:J [.int .i64 (Fl.usedN (lens.take (i+1)):Int)] w1:=by
   refine hJ _ _ fun _=>?_;simp only[S_foliantref10_used_1,gd,rs,iN,dx];rw[wrap64_id (by omega) (by omega)];exact nextX ⟨i+1,rfl,by omega,ho⟩ (by simp[n1,RowKit.intOf];omega)
  rw[take_snoc hi',Fl.usedN_snoc] at fin
  try simp only[rs]
  by_cases h0:lens[i]=0
  ·rw[if_pos h0,Nat.add_zero] at fin;simp only[show decide (((lens[i]:Nat):Int)≠0)=false from decide_eq_false (by omega),i_f];exact fin
  ·rw[if_neg h0] at fin;simp only[show decide (((lens[i]:Nat):Int)≠0)=true from decide_eq_true (by omega),i_t];rw[wrap64_id (by omega) (by omega)];exact fin
 ·simp only[hlt,decide_false,i_f];have:i=lens.length:=by omega
  subst this;rw[List.take_length];exact hK _ _ M _ 0 ho rfl M.le_refl rfl
theorem rcheck10_ret (lens:List Nat)(v:Value)(M:Mem)(w:World)(h15:∀l∈lens,l≤15)(hl:lens.length≤100000)(hM:M.has w)(hs:SlA M.A M.w v 1 lens.length (natsW lens)) :
  RetM prog 245 #[v] M w (fun r _=>r=.int .i64 (Fl.chk lens)):=by
 refine retM_of hM fun K hK=>S_foliantref10_Check_ok ?_;unfold S_foliantref10_Check iN dx;have ho:OwnS M.A w w [.mem M]:=OwnS.memS hM;rw[sl_len Tryz.underlying123 (hs.now hM)]
 try simp only[rs]
 by_cases h288:(288:Int) < (lens.length:Int)
 ·simp only[h288,decide_true,i_t];exact hK _ _ M _ 0 ho rfl M.le_refl (by unfold Fl.chk;rw[if_pos (by omega)])
 have hc:Fl.chk lens=Fl.check lens:=by unfold Fl.chk;rw[if_neg (by omega)]
 simp only[h288,decide_false,i_f];refine loop (fun vs W=>∃i:Nat,vs=[.int .i64 (Fl.ksum (lens.take i):Int),.int .i64 (Fl.longest (lens.take i):Int),.int .i64 (i:Int)]∧i≤lens.length∧OwnS M.A w W [.mem M]) (fun vs _=>lens.length - n2 vs) ⟨0,rfl,by omega,ho⟩ ?_;clear ho;rintro vs w1 ⟨i,rfl,hi,ho⟩ _;simp only[S_foliantref10_Check_0,gd,iN,dx,gtx,gfx,cfx,etx,efx,cx];rw[sl_len Tryz.underlying123 (hs.now (ho.hasM 0 rfl))]
 try simp only[rs]
 by_cases hlt:(i:Int) < (lens.length:Int)
 ·simp only[hlt,decide_true,i_t];have hi':i < lens.length:=by omega
  have hl15:=h15 _ (List.getElem_mem hi');refine join fun J hJ=>?_;obtain⟨b2,off,r1,r2⟩:=nats_at (hs.now (ho.hasM 0 rfl)) hi';refine do_eq (r1 w1) |>.mpr (do_eq (run_load_cell nInt5 r2) |>.mpr ?_);simp only[rs,show decide (((lens[i]:Nat):Int) < 0)=false from decide_eq_false (by omega)];refine do_eq (r1 w1) |>.mpr (do_eq (run_load_cell nInt5 r2) |>.mpr ?_);simp only[rs,show decide ((15:Int) < ((lens[i]:Nat):Int))=false from decide_eq_false (by omega)];refine do_eq (r1 w1) |>.mpr (do_eq (run_load_cell nInt5 r2) |>.mpr ?_);have hkl:=Fl.ksum_le (lens.take i);rw[List.length_take] at hkl;have hkm:min i lens.length*32768≤100000*32768:=Nat.mul_le_mul_right _ (by omega);have fin:∀W,OwnS M.A w W [.mem M]→J [.int .i64 (Fl.ksum (lens.take (i+1)):Int),.int .i64 (Fl.longest (lens.take (i+1)):Int)] W:=by
   intro W ho;refine hJ _ _ fun _=>?_;simp only[S_foliantref10_Check_1,gd,rs,iN,dx];rw[wrap64_id (by omega) (by omega)];exact nextX ⟨i+1,rfl,by omega,ho⟩ (by simp[n2,RowKit.intOf];omega)
  rw[take_snoc hi',Fl.ksum_snoc,Fl.longest_snoc] at fin
  try simp only[rs]
  by_cases h0:lens[i]=0
  ·rw[if_pos h0,Nat.add_zero,h0,Nat.max_zero] at fin;simp only[show decide ((0:Int) < ((lens[i]:Nat):Int))=false from decide_eq_false (by omega),i_f];exact fin w1 ho
  ·rw[if_neg h0] at fin;simp only[show decide ((0:Int) < ((lens[i]:Nat):Int))=true from decide_eq_true (by omega),i_t];refine do_eq (r1 w1) |>.mpr (do_eq (run_load_cell nInt5 r2) |>.mpr ?_)
   try simp only[rs]
   rw[wrap64_id (by omega) (by omega),show (15:Int) - ((lens[i]:Nat):Int)=((15 - lens[i]:Nat):Int) by omega];refine c_below ho (R:=fun r=>r=.int .i64 ((2 ^ (15 - lens[i]):Nat):Int)) ((rbits_ret (15 - lens[i]) w1 (by omega)).mono fun v w' ⟨h1,h2⟩=>⟨h1,h2▸Below.refl _ _⟩) ?_;rintro _ w2 rfl ho;have hp2:2 ^ (15 - lens[i])≤2 ^ 15:=Nat.pow_le_pow_right (by decide) (by omega);have h215:(2:Nat) ^ 15=32768:=by decide
   generalize 2 ^ (15 - lens[i])=pw at hp2 fin ⊢
   try simp only[rs]
   rw[wrap64_id (by omega) (by omega)];obtain⟨b3,off3,r3,r4⟩:=nats_at (hs.now (ho.hasM 0 rfl)) hi';refine do_eq (r3 w2) |>.mpr (do_eq (run_load_cell nInt5 r4) |>.mpr ?_);rw[m_max64];have:=fin w2 ho;rw[show max ((Fl.longest (lens.take i):Nat):Int) ((lens[i]:Nat):Int)=((max (Fl.longest (lens.take i)) lens[i]:Nat):Int) by omega];rw[show ((Fl.ksum (lens.take i):Nat):Int)+(pw:Int)=((Fl.ksum (lens.take i)+pw:Nat):Int) by omega];exact this
 ·simp only[hlt,decide_false,i_f];have:i=lens.length:=by omega
  subst this;rw[List.take_length];have hkl:=Fl.ksum_le lens;refine c_below ho (R:=fun r=>r=.int .i64 ((2 ^ 15:Nat):Int)) ((rbits_ret 15 w1 (by omega)).mono fun v w' ⟨h1,h2⟩=>⟨h1,h2▸Below.refl _ _⟩) ?_;rintro _ w2 rfl ho;have hcr:=Fl.check_ref h15;rw[←hc] at hcr;have h215:((2 ^ 15:Nat):Int)=32768:=by decide
  rw[h215]
  try simp only[rs]
  by_cases k1:Fl.ksum lens=32768
  ·rw[if_pos (.inl k1)] at hcr;simp only[show decide (((Fl.ksum lens:Nat):Int)=32768)=true from decide_eq_true (by omega),rs,g_un];exact hK _ _ M _ 0 ho rfl M.le_refl (by rw[hcr])
  simp only[show decide (((Fl.ksum lens:Nat):Int)=32768)=false from decide_eq_false (by omega),rs,g_un];by_cases k2:Fl.ksum lens=0
  ·rw[if_pos (.inr (.inl k2))] at hcr;simp only[show decide (((Fl.ksum lens:Nat):Int)=0)=true from decide_eq_true (by omega),rs,g_un];exact hK _ _ M _ 0 ho rfl M.le_refl (by rw[hcr])
  simp only[show decide (((Fl.ksum lens:Nat):Int)=0)=false from decide_eq_false (by omega),rs,g_un];refine c_mem ho 0 rfl (rused_ret lens v M w2 hl (ho.hasM 0 rfl) hs) ?_;rintro _ N w3 hle rfl ho
  try simp only[rs]
  by_cases k3:Fl.usedN lens=1
  ·simp only[show decide (((Fl.usedN lens:Nat):Int)=1)=true from decide_eq_true (by omega),rs];by_cases k4:Fl.longest lens=1
   ·rw[if_pos (.inr (.inr ⟨k3,k4⟩))] at hcr;simp only[show decide (((Fl.longest lens:Nat):Int)=1)=true from decide_eq_true (by omega),rs];exact hK _ _ N _ 0 ho rfl hle (by rw[hcr])
   ·rw[if_neg (by omega)] at hcr;simp only[show decide (((Fl.longest lens:Nat):Int)=1)=false from decide_eq_false (by omega),rs];exact hK _ _ N _ 0 ho rfl hle (by rw[hcr])
  ·rw[if_neg (by omega)] at hcr;simp only[show decide (((Fl.usedN lens:Nat):Int)=1)=false from decide_eq_false (by omega),rs];exact hK _ _ N _ 0 ho rfl hle (by rw[hcr])
theorem rplace10_ret (lens:List Nat)(n k:Nat)(v:Value)(M:Mem)(w:World)(hl:lens.length≤100000)(hk:k≤1000000)(hM:M.has w)(hs:SlA M.A M.w v 1 lens.length (natsW lens)) :
  RetM prog 309 #[v,.int .i64 (n:Int),.int .i64 (k:Int)] M w (fun r _=>r=.int .i64 (Fl.place lens n k:Int)):=by
 refine retM_of hM fun K hK=>S_foliantref10_place_ok ?_;generalize hR:Fl.place lens n k=R at hK;unfold S_foliantref10_place iN;have ho:OwnS M.A w w [.mem M]:=OwnS.memS hM;refine loop (fun vs W=>∃(i k:Nat),vs=[.int .i64 (k:Int),.int .i64 (i:Int)]∧i≤lens.length∧k≤1000000∧Fl.placeG n i (lens.drop i) k=R∧OwnS M.A w W [.mem M]) (fun vs _=>lens.length - n1 vs) ⟨0,k,rfl,by omega,hk,hR,ho⟩ ?_;clear ho hR hk;rintro vs w1 ⟨i,k,rfl,hi,hk,hR,ho⟩ _;simp only[S_foliantref10_place_0,gd,iN,dx];rw[sl_len Tryz.underlying123 (hs.now (ho.hasM 0 rfl))]
 try simp only[rs]
 by_cases hlt:(i:Int) < (lens.length:Int)
 ·simp only[hlt,decide_true,i_t];have hi':i < lens.length:=by omega
  refine join fun J hJ=>?_;obtain⟨b2,off,r1,r2⟩:=nats_at (hs.now (ho.hasM 0 rfl)) hi';refine do_eq (r1 w1) |>.mpr (do_eq (run_load_cell nInt5 r2) |>.mpr ?_);rw[List.drop_eq_getElem_cons hi'] at hR;unfold Fl.placeG at hR;have fin:∀k':Nat,k'≤1000000→Fl.placeG n (i+1) (lens.drop (i+1)) k'=R→J [.int .i64 (k':Int)] w1:=by
   intro k' hk' hR';refine hJ _ _ fun _=>?_;simp only[S_foliantref10_place_1,gd,rs,iN,dx];rw[wrap64_id (by omega) (by omega)];exact nextX ⟨i+1,k',rfl,by omega,hk',hR',ho⟩ (by simp[n1,RowKit.intOf];omega)
  try simp only[rs]
  by_cases he:lens[i]=n
  ·rw[if_pos he] at hR;simp only[show decide (((lens[i]:Nat):Int)=(n:Int))=true from decide_eq_true (by omega),i_t,rs];cases k with
  |zero=>
    simp only[show decide (((0:Nat):Int)=0)=true from rfl,i_t];dsimp only at hR;subst hR;exact hK _ _ M _ 0 ho rfl M.le_refl rfl
  |succ k=>
    simp only[show decide (((k+1:Nat):Int)=0)=false from decide_eq_false (by omega),i_f];rw[wrap64_id (by omega) (by omega),show ((k+1:Nat):Int) - 1=(k:Int) by omega];exact fin k (by omega) hR
  ·rw[if_neg he] at hR;simp only[show decide (((lens[i]:Nat):Int)=(n:Int))=false from decide_eq_false (by omega),i_f];exact fin k hk hR
 ·simp only[hlt,decide_false,i_f];rw[List.drop_eq_nil_of_le (by omega)] at hR;have hR:0=R:=hR;subst hR;exact hK _ _ M _ 0 ho rfl M.le_refl rfl
abbrev n6T:TypeId:=318
abbrev n6E (b:Nat)(f:Nat→Int):Ent:=.cells b (nsC f) n6T
theorem run_n6ia {W:World}{b i:Nat}(hi:i < 16):(mIA n6T (.pointer (some ⟨b,0,none⟩)) (.int .i64 (i:Int))).run prog W=.ok (.value (.pointer (some ⟨b,i,none⟩))) W:=by
 rcases lt16 hi with rfl|rfl|rfl|rfl|rfl|rfl|rfl|rfl|rfl|rfl|rfl|rfl|rfl|rfl|rfl|rfl<;>kernel_rfl
def Fl.fst2 (lens:List Nat)(l:Nat):Nat:=if l=0 then 0 else Fl.first lens l+lens.count l
theorem Fl.fst2_next (lens:List Nat)(l:Nat):Fl.first lens (l+1)=2*Fl.fst2 lens l:=by
 unfold Fl.fst2;cases l with
|zero=>rfl
|succ l=>rw[if_neg (by omega),Fl.first]
theorem rsign_ret (lens:List Nat)(v:Value)(s:List UInt8)(p:Nat)(M:Mem)(w:World)(h15:∀l∈lens,l≤15)(hl:lens.length≤1000)(hp:p≤8*s.length)(hsl:s.length≤1000000000)(hM:M.has w)(hs:SlA M.A M.w v 1 lens.length (natsW lens)) :
  RetM prog 279 #[v,.string ⟨s.toArray⟩,.int .i64 (p:Int)] M w (fun r _=>∃a b:Nat,r=nmT (a,b,(Fl.sign lens s p).2.2)∧b≤8*s.length∧((Fl.sign lens s p).2.2=0→a=(Fl.sign lens s p).1∧b=(Fl.sign lens s p).2.1)):=by
 refine retM_of hM fun K hK=>S_foliantref10_Sign_ok ?_;generalize hR:Fl.sign lens s p=R at hK;unfold Fl.sign at hR;unfold S_foliantref10_Sign iN dx;refine o_new (fun b=>.pointer (some ⟨b,0,none⟩)) (nsC fun _=>0) n6T (fun _=>by kernel_rfl) (OwnS.memS hM) fun b1 w1 ho=>?_;have hz:(fun _=>0:Nat→Int)=fun m=>(((lens.take 0).count m:Nat):Int):=by funext m;simp
 rw[hz] at ho;refine loop (fun vs W=>∃i:Nat,vs=[.int .i64 (Fl.longest (lens.take i):Int),.int .i64 (i:Int)]∧i≤lens.length∧OwnS M.A w W [n6E b1 (fun m=>(((lens.take i).count m:Nat):Int)),.mem M]) (fun vs _=>lens.length - n1 vs) ⟨0,rfl,by omega,ho⟩ ?_;clear ho hz;rintro vs w2 ⟨i,rfl,hi,ho⟩ _;simp only[S_foliantref10_Sign_0,gd,iN,dx];rw[sl_len Tryz.underlying123 (hs.now (ho.hasM 1 rfl))]
 try simp only[rs]
 by_cases hlt:(i:Int) < (lens.length:Int)
 ·simp only[hlt,decide_true,i_t];have hi':i < lens.length:=by omega
  have hl15:=h15 _ (List.getElem_mem hi');obtain⟨b2,off,r1,r2⟩:=nats_at (hs.now (ho.hasM 1 rfl)) hi';refine do_eq (r1 w2) |>.mpr (do_eq (run_load_cell nInt5 r2) |>.mpr ?_);have hcb:(lens.take i).count lens[i]≤1000:=by
   have:=List.count_le_length (a:=lens[i]) (l:=lens.take i);rw[List.length_take] at this;omega
  refine do_eq (run_n6ia (by omega)) |>.mpr ?_;rw[l_cell nInt5 (ho.cell 0 rfl lens[i] (nsC_get _ (by omega)))]
  try simp only[rs]
  rw[wrap64_id (by omega) (by omega)];refine do_eq (run_n6ia (by omega)) |>.mpr ?_;refine o_store 0 ho rfl (by kernel_rfl) rfl (by show lens[i] < 16;omega) fun w3 ho=>?_;rw[nsC_set _ _ (by omega)] at ho;have ho:OwnS M.A w w3 [n6E b1 (fun m=>(((lens.take (i+1)).count m:Nat):Int)),.mem M]:=by
   have e:(fun m=>if m=lens[i] then (((lens.take i).count lens[i]:Nat):Int)+1 else (((lens.take i).count m:Nat):Int))=fun m=>(((lens.take (i+1)).count m:Nat):Int):=by
    funext m
    rw[take_snoc hi',List.count_append];by_cases h:m=lens[i]
    ·rw[if_pos h,h];simp
    ·rw[if_neg h];have:[lens[i]].count m=0:=by rw[List.count_eq_zero];simpa using h
     omega
   rw[←e];exact ho
  obtain⟨b3,off3,r3,r4⟩:=nats_at (hs.now (ho.hasM 1 rfl)) hi';refine do_eq (r3 w3) |>.mpr (do_eq (run_load_cell nInt5 r4) |>.mpr ?_);rw[m_max64]
  try simp only[rs]
  rw[wrap64_id (by omega) (by omega)];refine nextX ⟨i+1,?_,by omega,ho⟩ (by simp[n1,RowKit.intOf];omega);rw[take_snoc hi',Fl.longest_snoc]
  congr 2
  omega
 simp only[hlt,decide_false,i_f];have:i=lens.length:=by omega
 subst this;rw[List.take_length] at ho ⊢;have hcnt:∀m,lens.count m≤1000:=fun m=>Nat.le_trans List.count_le_length hl;have hlg:Fl.longest lens≤15:=Fl.longest_le.2 h15;refine loop (fun vs W=>∃(l q code:Nat),vs=[.int .i64 (q:Int),.int .i64 (code:Int),.int .i64 (Fl.fst2 lens l:Int),.int .i64 ((l+1:Nat):Int)]∧l≤15∧q≤8*s.length∧Fl.fst2 lens l≤code∧code < 2 ^ l∧Fl.signG lens s (16 - l) l q code=R∧OwnS M.A w W [n6E b1 (fun m=>((lens.count m:Nat):Int)),.mem M]) (fun vs _=>16 - (RowKit.intOf (vs.getD 3 undef)).toNat) ⟨0,p,0,rfl,by omega,hp,by simp[Fl.fst2],by simp,hR,ho⟩ ?_;clear ho hR hi hlt;rintro vs w3 ⟨l,q,code,rfl,hl15,hq,hfc,hc2,hR,ho⟩ _;simp only[S_foliantref10_Sign_1,gd,rs,iN,dx,cx];obtain⟨f,hf⟩:∃f,16 - l=f+1:=⟨15 - l,by omega⟩;rw[hf] at hR;unfold Fl.signG at hR;have hlu:=Fl.longest_used (lens:=lens) (m:=l) hl15 h15;by_cases hlo:((l+1:Nat):Int)≤((Fl.longest lens:Nat):Int)
 case neg=>
  simp only[hlo,decide_false,i_f];rw[if_pos (hlu.2 (by omega))] at hR;subst hR;exact hK _ _ M _ 1 ho rfl M.le_refl ⟨0,q,rfl,hq,fun h=>absurd h (by dsimp only;decide)⟩
 simp only[hlo,decide_true,i_t];rw[if_neg (by rw[hlu];omega)] at hR;refine c_below ho (rBit_ret s q w3 (by omega) hsl) ?_;rintro _ w4 rfl ho;by_cases hb:q < 8*s.length
 case neg=>
  rw[if_neg hb];rw[if_pos (by omega)] at hR;subst hR;simp only[rs,show decide ((-1:Int) < 0)=true from rfl];exact hK _ _ M _ 1 ho rfl M.le_refl ⟨0,q,rfl,hq,fun h=>absurd h (by dsimp only;decide)⟩
 rw[if_pos hb];rw[if_neg (by omega)] at hR;have hbt:=Fl.bit_lt s q;have hp15:2 ^ l≤2 ^ 15:=Nat.pow_le_pow_right (by decide) hl15;have h215:(2:Nat) ^ 15=32768:=by decide
 have hfn:=Fl.fst2_next lens l;have hcl:=hcnt (l+1);simp only[rs,show decide (((Fl.bit s q:Nat):Int) < 0)=false from decide_eq_false (by omega)];have hl2:code < 32768:=by omega
 rw[wrap64_id (n:=(q:Int)+1) (by omega) (by omega),wrap64_id (n:=2*(code:Int)) (by omega) (by omega),wrap64_id (n:=2*((Fl.fst2 lens l:Nat):Int)) (by omega) (by omega),wrap64_id (n:=2*(code:Int)+((Fl.bit s q:Nat):Int)) (by omega) (by omega),wrap64_id (n:=2*(code:Int)+((Fl.bit s q:Nat):Int) - 2*((Fl.fst2 lens l:Nat):Int)) (by omega) (by omega)];refine do_eq (run_n6ia (by omega)) |>.mpr ?_;rw[l_cell nInt5 (ho.cell 0 rfl (l+1) (nsC_get _ (by omega)))]
 try simp only[rs]
 by_cases hk:2*code+Fl.bit s q < Fl.first lens (l+1)+lens.count (l+1)
 ·rw[if_pos hk] at hR;simp only[show decide ((2*(code:Int)+((Fl.bit s q:Nat):Int)) - 2*((Fl.fst2 lens l:Nat):Int) < ((lens.count (l+1):Nat):Int))=true from decide_eq_true (by omega),i_t];rw[show (2*(code:Int)+((Fl.bit s q:Nat):Int)) - 2*((Fl.fst2 lens l:Nat):Int)=((2*code+Fl.bit s q - Fl.first lens (l+1):Nat):Int) by omega];refine c_mem ho 1 rfl (rplace10_ret lens (l+1) (2*code+Fl.bit s q - Fl.first lens (l+1)) v M w4 (by omega) (by omega) (ho.hasM 1 rfl) hs) ?_;rintro _ N w5 hle rfl ho;subst hR;refine hK _ _ N _ 1 ho rfl hle ⟨Fl.place lens (l+1) (2*code+Fl.bit s q - Fl.first lens (l+1)),q+1,rfl,by omega,fun _=>⟨?_,rfl⟩⟩;rw[Fl.place_eq,←Fl.order_get (by omega) (by omega)]
 ·rw[if_neg hk] at hR;simp only[show decide ((2*(code:Int)+((Fl.bit s q:Nat):Int)) - 2*((Fl.fst2 lens l:Nat):Int) < ((lens.count (l+1):Nat):Int))=false from decide_eq_false (by omega),i_f];refine do_eq (run_n6ia (by omega)) |>.mpr ?_;rw[l_cell nInt5 (ho.cell 0 rfl (l+1) (nsC_get _ (by omega)))]
  try simp only[rs]
  rw[wrap64_id (by omega) (by omega),wrap64_id (by omega) (by omega)];have e2:Fl.fst2 lens (l+1)=Fl.first lens (l+1)+lens.count (l+1):=by unfold Fl.fst2;rw[if_neg (by omega)]
  refine nextX ⟨l+1,q+1,2*code+Fl.bit s q,?_,by omega,by omega,by omega,by rw[Nat.pow_succ];omega,by rw[show 16 - (l+1)=f by omega];exact hR,ho⟩ (by simp[RowKit.intOf];omega);rw[e2,hfn]
  push_cast
  rfl
end
section
open Eng Go.RowKit
def Fl.stored (s:List UInt8)(most p:Nat)(out:List UInt8):List UInt8×Nat×Int:=
 let a:=(p+7) / 8*8
 if 8*s.length < a+16 then (out,p,4)
 else if 8*s.length < a+32 then (out,p,4)
 else if Fl.num s a 16+Fl.num s (a+16) 16≠65535 then (out,p,3)
 else if most < out.length+Fl.num s a 16 then (out,p,5)
 else if 8*s.length < a+32+8*Fl.num s a 16 then (out,p,4)
 else (out++(s.drop (a / 8+4)).take (Fl.num s a 16),a+32+8*Fl.num s a 16,0)
theorem outR_app {v:Value}{a b:List UInt8}:outR v (a++b)=.urow 5 1 v (a.length+b.length) (bytesV a++bytesV b):=by
 unfold outR bytesV;rw[List.length_append,List.map_append]
theorem run_flrd {W:World}{b rb:Nat}{ov:Value}{most:Int}(h:(flE b rb ov most).is W):(mLoad 275 (.pointer (some ⟨b,0,none⟩))).run prog W=.ok (.value (.pointer (some ⟨rb,0,none⟩))) W:=run_load_cell nPtrRd (cells_cell (T:=278) (cs:=flC rb ov most) h rfl)
theorem z8U:(Tryz.prog.info? 5).bind (·.zero)=some (.int .u8 0):=by kernel_rfl
section
variable {w:World}{PK:PKT}{K:VWP}{S:Nat→Prop}{w0:World}
theorem c_stored {fb rb:Nat}{ov:Value}{s:List UInt8}{way:Int}{p most:Nat}{out:List UInt8}{R:List Ent}(ho:OwnS S w0 w (Fs fb rb s most ov way p out R))(hw:way=0∨way=1)(hp:p≤8*s.length)(hs:s.length≤1000000000)(hmo:most≤1000000000)(hol:out.length≤most)
  (k1:(Fl.stored s most p out).2.2=0→(Fl.stored s most p out).2.1≤8*s.length→(Fl.stored s most p out).1.length≤most→∀way' ov' W,(way'=0∨way'=1)→OwnS S w0 W (Fs fb rb s most ov' way' (Fl.stored s most p out).2.1 (Fl.stored s most p out).1 R)→K (.tuple #[]) W)
  (k2:(Fl.stored s most p out).2.2≠0→∀ov' way' p' out' W,OwnS S w0 W (Fs fb rb s most ov' way' p' out' R)→PK [upI (Fl.stored s most p out).2.2] W) :
  CallX prog 306 #[.pointer (some ⟨fb,0,none⟩)] w PK K:=by
 generalize hX:Fl.stored s most p out=X at k1 k2;refine⟨S_inflate_flate_stored_ok ?_⟩;unfold S_inflate_flate_stored iN dx cx;unfold Fl.stored at hX;dsimp only at hX;rw[m_nilP,fa_fl0,fl_rd ho 0 rfl];refine c_align 1 ho rfl hp hs fun W1 ho=>?_;have ho:OwnS S w0 W1 (Fs fb rb s most ov 0 ((p+7) / 8*8) out R):=ho;have ha8:(p+7) / 8*8 % 8=0:=by omega
 have hal:(p+7) / 8*8≤8*s.length:=by omega
 generalize (p+7) / 8*8=a at hX ho ha8 hal;refine c_ibits (n:=16) 0 1 ho rfl rfl (.inl rfl) hal (by omega) hs (fun h1 W2 ho=>?_) (fun h1 W2 ho=>?_)
 rotate_left
 ·rw[if_pos h1] at hX;subst hX;exact k2 (by dsimp only;decide) _ _ _ _ _ ho
 rw[if_neg (by omega)] at hX;have ho:OwnS S w0 W2 (Fs fb rb s most ov 1 (a+16) out R):=ho;refine c_ibits (n:=16) 0 1 ho rfl rfl (.inr rfl) h1 (by omega) hs (fun h2 W3 ho=>?_) (fun h2 W3 ho=>?_)
 rotate_left
 ·rw[if_pos (by omega)] at hX;subst hX;exact k2 (by dsimp only;decide) _ _ _ _ _ ho
 rw[if_neg (by omega)] at hX;have ho:OwnS S w0 W3 (Fs fb rb s most ov 1 (a+16+16) out R):=ho;have hn1:=Fl.num_lt s a 16;have hn2:=Fl.num_lt s (a+16) 16;have h16:(2:Nat) ^ 16=65536:=by decide
 simp only[rs];rw[wrap64_id (by omega) (by omega)];refine c_ineed (fun h3=>?_) (fun h3=>?_)
 rotate_left
 ·have:=of_decide_eq_false h3;rw[if_pos (by omega)] at hX;subst hX;exact k2 (by dsimp only;decide) _ _ _ _ _ ho
 have h3:=of_decide_eq_true h3;rw[if_neg (by omega)] at hX;generalize Fl.num s a 16=n at hX hn1 h3;refine c_room (n:=n) 0 2 ho rfl rfl (by omega) (by omega) (by omega) (fun h7 W4 ho=>?_) (fun h7 W4 ho=>?_)
 rotate_left
 ·rw[if_pos (by omega)] at hX;subst hX;exact k2 (by dsimp only;decide) _ _ _ _ _ ho
 rw[if_neg (by omega)] at hX;have ho:=ho.drew;refine⟨fun W=>(flE fb rb ov most).is W,ho.at_ 0 rfl,?_⟩;refine hd_pure _ (fun _=>run_nil) (hd_pure _ (fun _=>run_fa fo_fl1) (hd_do _ (fun W h=>run_out h) ?_));refine hd_pure _ (fun _=>run_nil) (hd_pure _ (fun _=>run_fa fo_fl0) (hd_do _ (fun W h=>run_flrd h) ?_));refine c_raw (n:=n) 1 ho rfl (by omega) (by omega) (by omega) hs (fun h5 W5 ho=>?_) (fun h5 W5 ho=>?_)
 rotate_left
 ·rw[if_pos (by omega)] at hX;subst hX;refine⟨ho.at_ 0 rfl,?_⟩;refine hd_ext (hd_ext1 ?_);refine c_imustS (s:=[]) (fun h=>absurd h (by decide)) fun _=>?_
  repeat intro _
  exact k2 (by dsimp only;decide) _ _ _ _ _ ho
 rw[if_neg (by omega)] at hX;have ho:OwnS S w0 W5 (Fs fb rb s most ov 1 (a+16+16+8*n) out R):=ho;refine⟨ho.at_ 0 rfl,?_⟩;refine hd_ext (hd_ext1 ?_);refine c_imustS (fun _=>?_) fun h=>absurd rfl h;refine⟨ho.at_ 0 rfl,?_⟩;have hln:((s.drop ((a+16+16) / 8)).take n).length=n:=by rw[List.length_take,List.length_drop];omega
 refine o_appendSU 2 Tryz.underlying53 Tryz.underlying9 elU8 Tryz.underlying5 z8U ho rfl (by rw[hln];omega) fun v' w9 ho=>?_;have hov:v'.oneCell'=true:=urow_one (ho.at_ 2 rfl);refine⟨ho.at_ 0 rfl,?_⟩;refine hd_pure _ (fun _=>run_nil) (hd_pure _ (fun _=>run_fa fo_fl1) ?_);refine fl_putO 0 hov ho rfl fun w10 ho=>?_;have ho:OwnS S w0 w10 (Fs fb rb s most v' 1 (a+16+16+8*n) (out++(s.drop ((a+16+16) / 8)).take n) R):=by
  show OwnS S w0 w10 (flE fb rb v' (most:Int)::bqE rb s 1 (a+16+16+8*n)::outR v' (out++(s.drop ((a+16+16) / 8)).take n)::R);rw[outR_app];exact ho
 rw[show (a+16+16) / 8=a / 8+4 by omega] at ho hln;subst hX;exact k1 rfl (by dsimp only;omega) (by dsimp only;rw[List.length_append,hln];omega) 1 v' w10 (.inr rfl) ho
end
end
section
open Eng Go.RowKit
theorem szI1:(Tryz.prog.info? 3).map (·.size)=some 1:=by kernel_rfl
theorem take_get {α:Type}{l:List α}{n j:Nat}{v:α}(h:(l.take n)[j]?=some v):l[j]?=some v:=by
 obtain⟨h1,h2⟩:=List.getElem?_eq_some_iff.1 h;rw[List.length_take] at h1;rw[List.getElem?_eq_getElem (by omega),←h2,List.getElem_take]
section
variable {w:World}{PK:PKT}{K:VWP}{S:Nat→Prop}{w0:World}{L:List Ent}
theorem c_irep {b0 k:Nat}{x:Value}(i:Nat)(ho:OwnS S w0 w L)(hi:L[i]?=some (.cells b0 [x] 3))(hx:x.oneCell'=true)(hk:k≤1000)
  (kk:∀b w',OwnS S w0 w' (.cells b (List.replicate k x) 3::L)→K (.slice (some ⟨b,0,none⟩) k k) w') :
  CallX prog 320 #[.slice (some ⟨b0,0,none⟩) 1 1,.int .i64 (k:Int)] w PK K:=by
 refine⟨S_slices_Repeat_int_int_ok ?_⟩;unfold S_slices_Repeat_int_int iN dx;refine join fun J hJ=>?_;rw[b_lss,decide_eq_false (by omega),i_f];refine hJ _ _ fun _=>?_;unfold S_slices_Repeat_int_int_0 dx gfx efx cx;rw[sl_len Tryz.underlying123 (sl_one1 (sz:=1) (ho.at_ i hi) (by decide) rfl)];refine do_eq (run_c_int (by kernel_rfl) Tryz.underlying84) |>.mpr (do_eq (run_c_int (by kernel_rfl) Tryz.underlying84) |>.mpr ?_);rw[show IntKind.u64.wrap ((1:Nat):Int)=((1:Nat):Int) from rfl,show IntKind.u64.wrap (k:Int)=(k:Int) by unfold IntKind.wrap;simp[IntKind.bits,IntKind.signed];omega];refine c_any (Tryz.bits_Mul 1 k (by decide) (by omega) w) (fun e W ⟨he,hW⟩=>?_);subst he;subst hW;have e0:1*k / 18446744073709551616=0:=by omega
 have e1:1*k % 18446744073709551616=k:=by omega
 rw[e0,e1];show Cont _ _ _ _;simp only[Cont,ex];refine join fun J2 hJ2=>?_;simp only[rs,show decide ((0:Int) < ((0:Nat):Int))=false from rfl,show decide ((9223372036854775807:Int) < (k:Int))=false from decide_eq_false (by omega)];refine hJ2 _ _ fun _=>?_;unfold S_slices_Repeat_int_int_1 dx;refine do_eq (run_c_int (by kernel_rfl) Tryz.underlying3) |>.mpr ?_;rw[show IntKind.i64.wrap (k:Int)=(k:Int) from wrap64_id (by omega) (by omega)];refine o_makeI (by omega) ho fun g w1 ho=>?_;have hi1:(.cells g (List.replicate k (.int .i64 0)) 3::L)[i+1]?=some (.cells b0 [x] 3):=hi;have hlr:(List.replicate k (Value.int .i64 0)).length=k:=List.length_replicate;have hcp:=run_copyC (P:=prog) (dT:=123) (sT:=123) (ty:=3) (T:=3) (E:=3) (cb:=#[false,false]) (g:=g) (o:=0) (dLen:=k) (dCap:=k) (sz:=1) (a:=⟨b0,0,none⟩) (sLen:=1) (sCap:=1) (w:=w1) (cur:=List.replicate k (Value.int .i64 0)) (src:=[x].take (Nat.min 1 k)) Tryz.underlying123 szI1 (ho.at_ 0 rfl) (by rw[List.length_take,List.length_singleton];simp) (fun j v hj=>by
  have h0:[x][j]?=some v:=take_get hj;rw[add_none,Nat.zero_add];exact cells_cell (T:=3) (ho.at_ (i+1) hi1) h0) (by rw[List.length_take,List.length_singleton,hlr];have h2:Nat.min 1 k=min 1 k:=rfl;omega) (by
  intro v hv;have:=List.mem_of_mem_take hv;rw[List.mem_singleton] at this;rw[this];exact hx)
 refine do_ok hcp ?_;have ho:=setRow_own ho 0 rfl ((List.replicate k (Value.int .i64 0)).take 0++[x].take (Nat.min 1 k)++(List.replicate k (Value.int .i64 0)).drop (0+([x].take (Nat.min 1 k)).length));refine loop (fun vs W=>∃(n:Nat) (cur:List Value),vs=[.int .i64 n]∧n≤k∧(n=0→k=0)∧cur.length=k∧cur.take n=List.replicate n x∧OwnS S w0 W (.cells g cur 3::L)) (fun vs _=>k - n0 vs) ⟨Nat.min 1 k,_,rfl,Nat.min_le_right _ _,?_,?_,?_,ho⟩ ?_
 ·intro h;rcases Nat.eq_zero_or_pos k with h0|h0
  ·exact h0
  ·have:Nat.min 1 k=1:=Nat.min_eq_left h0;omega
 ·rcases Nat.eq_zero_or_pos k with h0|h0
  ·subst h0;rfl
  ·rw[show Nat.min 1 k=1 from Nat.min_eq_left h0];simp;omega
 ·rcases Nat.eq_zero_or_pos k with h0|h0
  ·subst h0;rfl
  ·rw[show Nat.min 1 k=1 from Nat.min_eq_left h0];rfl
 clear ho hcp;rintro vs w2 ⟨n,cur,rfl,hn,hn0,hcl,htk,ho⟩ _;simp only[S_slices_Repeat_int_int_2,gd,dx];rw[sl_len Tryz.underlying123 (Sl.cells (ho.at_ 0 rfl) 1 k k (by rw[hcl,Nat.mul_one]))];simp only[rs];by_cases hlt:(n:Int) < (k:Int)
 ·simp only[hlt,decide_true,i_t];refine quietC (fun W=>OwnS S w0 W (.cells g cur 3::L)) ho.drew ?_;refine q_do _ (fun _=>run_sl_l Tryz.underlying123 szI1 (by omega) (by omega)) (q_do _ (fun _=>run_sl_h Tryz.underlying123 szI1 (by omega) (by omega)) ?_);intro w3 ho;rw[Int.toNat_natCast,subA_in (by omega),show subA (some ⟨g,0,none⟩) 0 k 1=some ⟨g,0,none⟩ from subA_0 (a:=⟨g,0,none⟩),Nat.zero_add,Nat.mul_one];have hcp:=run_copyC (P:=prog) (dT:=123) (sT:=123) (ty:=3) (T:=3) (E:=3) (cb:=#[false,false]) (g:=g) (o:=n) (dLen:=k - n) (dCap:=k - n) (sz:=1) (a:=⟨g,0,none⟩) (sLen:=n) (sCap:=k) (w:=w3) (cur:=cur) (src:=cur.take (Nat.min n (k - n))) Tryz.underlying123 szI1 (ho.at_ 0 rfl) (by
    rw[List.length_take,hcl,Nat.mul_one];have h1:=Nat.min_le_left n (k - n);have h2:Nat.min n (k - n)=min n (k - n):=rfl;omega) (fun j v hj=>by
   have h0:cur[j]?=some v:=take_get hj;rw[add_none,Nat.zero_add];exact cells_cell (T:=3) (ho.at_ 0 rfl) h0) (by
    rw[List.length_take,hcl];have h2:Nat.min n (k - n)=min n (k - n):=rfl;omega) (by
   intro v hv;have h3:cur.take (Nat.min n (k - n))=(cur.take n).take (Nat.min n (k - n)):=by
    rw[List.take_take]
    congr 1
    have h2:Nat.min n (k - n)=min n (k - n):=rfl;omega
   rw[h3,htk] at hv;have:=List.eq_of_mem_replicate (List.mem_of_mem_take hv);rw[this];exact hx)
  refine do_ok hcp ?_;have ho:=setRow_own ho 0 rfl (cur.take n++cur.take (Nat.min n (k - n))++cur.drop (n+(cur.take (Nat.min n (k - n))).length));have h2:Nat.min n (k - n)=min n (k - n):=rfl;have hm1:1≤Nat.min n (k - n):=by omega
  have hm2:Nat.min n (k - n)≤k - n:=by omega
  have hm3:Nat.min n (k - n)≤n:=by omega
  generalize Nat.min n (k - n)=m at ho hm1 hm2 hm3;rw[show goInt m=.int .i64 (m:Int) from rfl];simp only[rs];rw[wrap64_id (by omega) (by omega)];refine nextX ⟨n+m,_,rfl,by omega,by omega,?_,?_,ho⟩ (by simp[n0,RowKit.intOf];omega)
  ·simp only[List.length_append,List.length_take,List.length_drop,hcl];omega
  ·have h3:cur.take m=List.replicate m x:=by
    have:cur.take m=(cur.take n).take m:=by rw[List.take_take];congr 1;omega
    rw[this,htk,List.take_replicate];congr 1;omega
   rw[htk,h3,List.take_append_of_le_length (by simp),List.take_of_length_le (by simp),List.replicate_append_replicate]
 ·simp only[hlt,decide_false,i_f];have:n=k:=by omega
  subst this;rw[List.take_of_length_le (by omega)] at htk;subst htk;exact kk g w2 ho
end
end
end Go.Proofs.YtlipjfcbjemicaaGreatDoor

namespace Go.Proofs.YtlipjfcbjemicaaGreatDoor
section
namespace Eng
open Go.RowKit
def intK (k:Int):Value:=.int .i64 k
def MapIsI (w:World)(b:Nat)(al:List (Int×Value)):Prop:=∃es clock,w.heap[b]?=some (.map es clock)∧es.toList.map (fun e=>(e.key,e.val))=al.map fun p=>(intK p.1,p.2)
def lookI (al:List (Int×Value))(k:Int):Option Value:=(al.find? fun p=>decide (p.1=k)).map (·.2)
theorem findNow_int (k:Int):∀(es:List MapEntry) (al:List (Int×Value)) (i:Nat),es.map (fun e=>(e.key,e.val))=al.map (fun p=>(intK p.1,p.2)) →
  ∃r,Instr.findNow (.int .i64) (intK k) es i=some r∧r.map (·.2)=lookI al k
|[],[],i,_=>⟨none,rfl,rfl⟩
|e::es,p::al,i,h=>by
  simp only[List.map_cons,List.cons.injEq,Prod.mk.injEq] at h;obtain⟨⟨h1,h2⟩,h3⟩:=h;have hs:Instr.sameNow (.int .i64) (intK k) e.key=some (decide (k=p.1)):=by
   rw[h1];show some (k==p.1)=_
   congr 1
  by_cases hk:k=p.1
  ·refine⟨some (i,e.val),?_,?_⟩
   ·rw[Instr.findNow,hs];simp[hk]
   ·simp[lookI,hk,h2]
  ·obtain⟨r,hr1,hr2⟩:=findNow_int k es al (i+1) h3;refine⟨r,?_,?_⟩
   ·rw[Instr.findNow,hs];simp[hk,hr1]
   ·have hk':¬p.1=k:=fun e=>hk e.symm;rw[hr2];simp[lookI,hk']
|[],_::_,_,h=>by simp at h
|_::_,[],_,h=>by simp at h
section
variable {S:Nat→Prop}{P:Program}{w w0:World}{L:List Ent}{PK:PKT}{K:VWP}
theorem run_checkInt {k:TypeId}{e:Bool}(hk:P.underlying k=some (.int .i64))(x:Int):(Instr.checkKey e 10000 k (intK x)).run P w=.ok () w:=by
 show (Instr.checkKey e (9999+1) k (intK x)).run P w=_;rw[Instr.checkKey];simp[run_underlying hk,intK]
theorem run_findInt {k:TypeId}(hk:P.underlying k=some (.int .i64))(x:Int){es:List MapEntry}{al:List (Int×Value)}(h:es.map (fun e=>(e.key,e.val))=al.map (fun p=>(intK p.1,p.2))) :
  ∃r,(Instr.findKey k (intK x) es).run P w=.ok r w∧r.map (·.2)=lookI al x:=by
 obtain⟨r,h1,h2⟩:=findNow_int x es al 0 h;refine⟨r,?_,h2⟩;simp[Instr.findKey,run_underlying hk,h1]
theorem run_lookI {T k e:TypeId}{ok:Bool}{b:Nat}{al:List (Int×Value)}{z:Value}(ht:P.underlying T=some (.map k e))(hk:P.underlying k=some (.int .i64))(hz:(P.info? e).bind (·.zero)=some z)(h:MapIsI w b al)(x:Int) :
  (mLook T (.map (some b)) (intK x) ok).run P w=.ok (.value (if ok then .tuple #[(lookI al x).getD z,.bool (lookI al x).isSome] else (lookI al x).getD z)) w:=by
 obtain⟨es,clock,h1,h2⟩:=h;obtain⟨r,r1,r2⟩:=run_findInt (P:=P) (w:=w) hk x h2;have hz':(zeroValue e).run P w=.ok z w:=by
  obtain⟨i,hi,hzi⟩:=Option.bind_eq_some_iff.1 hz;simp[zeroValue,typeInfo,hi,hzi]
 refine mv_run ?_;rw[←r2];cases r with
|none=>simp[Instr.lookup,run_underlying ht,getObj,Sem.run,h1,run_checkInt hk x,r1,hz']
|some p=>
  obtain⟨i,v⟩:=p;simp[Instr.lookup,run_underlying ht,getObj,Sem.run,h1,run_checkInt hk x,r1]
end
section
variable {S:Nat→Prop}{P:Program}{w w0:World}{L:List Ent}{PK:PKT}{K:VWP}
end
end Eng
end
section
open Eng Go.RowKit
abbrev frT:TypeId:=330
abbrev frA:TypeId:=331
def fxL:List (Nat×Nat):=[(144,8),(112,9),(24,7),(8,8)]
def fxC:List Value:=fxL.flatMap fun p=>[.int .i64 (p.1:Int),.int .i64 (p.2:Int)]
def fxPre (i:Nat):List Nat:=(fxL.take i).flatMap fun p=>List.replicate p.1 p.2
def Fl.fixS:List Nat:=fxPre 4
def Fl.fixF:List Nat:=List.replicate 32 5
theorem fxPre_len {i:Nat}(hi:i≤4):(fxPre i).length≤288:=by
 rcases (by omega:i=0∨i=1∨i=2∨i=3∨i=4) with rfl|rfl|rfl|rfl|rfl<;>decide +kernel
theorem fxPre_succ {i:Nat}(hi:i < 4):fxPre (i+1)=fxPre i++List.replicate (fxL.getD i (0,0)).1 (fxL.getD i (0,0)).2:=by
 rcases (by omega:i=0∨i=1∨i=2∨i=3) with rfl|rfl|rfl|rfl<;>decide +kernel
theorem fxL_le {i:Nat}(hi:i < 4):(fxL.getD i (0,0)).1≤144∧1≤(fxL.getD i (0,0)).1:=by
 rcases (by omega:i=0∨i=1∨i=2∨i=3) with rfl|rfl|rfl|rfl<;>decide
theorem natsW_rep (k n:Nat):natsW (List.replicate k n)=List.replicate k (.int .i64 (n:Int)):=by simp[natsW]
section
variable {w:World}{PK:PKT}{K:VWP}{S:Nat→Prop}{w0:World}{L:List Ent}
theorem m_fr {a b:Int}:DoX prog (mBuild frT #[(0,.int .i64 a),(1,.int .i64 b)]) w PK K=K (.agg #[.int .i64 a,.int .i64 b]) w:=do_eq (by kernel_rfl)
theorem m_fra:DoX prog (mBuild frA #[(0,.agg #[.int .i64 144,.int .i64 8]),(1,.agg #[.int .i64 112,.int .i64 9]),(2,.agg #[.int .i64 24,.int .i64 7]),(3,.agg #[.int .i64 8,.int .i64 8])]) w PK K=K (.agg fxC.toArray) w:=do_eq (by kernel_rfl)
theorem r_fxix {i:Nat}(hi:i < 4):(mIx frA (.agg fxC.toArray) (.int .i64 (i:Int))).run prog w=.ok (.value (.agg #[.int .i64 ((fxL.getD i (0,0)).1:Int),.int .i64 ((fxL.getD i (0,0)).2:Int)])) w:=by
 rcases (by omega:i=0∨i=1∨i=2∨i=3) with rfl|rfl|rfl|rfl<;>kernel_rfl
def frC (a b:Int):List Value:=[.int .i64 a,.int .i64 b]
theorem frC_one {a b:Int}:∀u∈frC a b,u.oneCell'=true:=by
 intro u hu;simp only[frC,List.mem_cons,List.not_mem_nil,or_false] at hu;rcases hu with rfl|rfl<;>rfl
theorem fo_fr0:fOff prog frT 0=some 0:=by kernel_rfl
theorem fo_fr1:fOff prog frT 1=some 1:=by kernel_rfl
theorem szFr:(Tryz.prog.info? frT).map (·.size)=some 2:=by kernel_rfl
theorem ifixed_ret (M:Mem)(w:World)(hM:M.has w):RetM prog 294 #[] M w (fun v N=>∃a b,v=.tuple #[a,b]∧SlA N.A N.w a 1 Fl.fixS.length (natsW Fl.fixS)∧SlA N.A N.w b 1 Fl.fixF.length (natsW Fl.fixF)):=by
 refine retM_of hM fun K hK=>S_inflate_Fixed_ok ?_;unfold S_inflate_Fixed iN dx;have ho:OwnS M.A w w [.mem M]:=OwnS.memS hM;rw[m_fr,m_fr,m_fr,m_fr,m_fra];have ho:OwnS M.A w w [.urow 3 1 nilS 0 [],.mem M]:=OwnS.nilU (L:=[.mem M]) ho _ _;refine loop (fun vs W=>∃(i:Nat) (ov:Value),vs=[ov,.int .i64 (i:Int)]∧i≤4∧OwnS M.A w W [.urow 3 1 ov (fxPre i).length (natsW (fxPre i)),.mem M]) (fun vs _=>4 - n1 vs) ⟨0,nilS,rfl,by omega,ho⟩ ?_;clear ho;rintro vs w1 ⟨i,ov,rfl,hi,ho⟩ _;simp only[S_inflate_Fixed_0,gd,rs,iN,dx,cx];by_cases hlt:(i:Int) < 4
 ·simp only[hlt,decide_true,i_t];have hi4:i < 4:=by omega
  have hln:=fxPre_len (Nat.le_of_lt hi4);have hle:=fxL_le hi4;have hsu:=fxPre_succ hi4;refine do_eq (r_fxix hi4) |>.mpr ?_;generalize fxL.getD i (0,0)=e at hle hsu;obtain⟨k,n⟩:=e;dsimp only at hle hsu ⊢;refine o_new (fun b=>.pointer (some ⟨b,0,none⟩)) (frC 0 0) frT (fun _=>by kernel_rfl) ho fun b w2 ho=>?_;refine o_put 0 ho rfl (new:=frC k n) szFr frC_one rfl fun w3 ho=>?_;rw[f_addr fo_fr1,l_cell nInt5 (ho.cell 0 rfl 1 rfl)];refine o_ints1 (n:Int) ho fun b2 w4 ho=>?_;rw[f_addr fo_fr0,l_cell nInt5 (ho.cell 1 rfl 0 rfl)];refine c_irep 0 ho rfl rfl (by omega) fun b3 w5 ho=>?_;refine o_apInt 3 ho rfl (Sl.cells (ho.at_ 0 rfl) 1 k k (by rw[List.length_replicate,Nat.mul_one])) (fun u hu=>by rw[List.eq_of_mem_replicate hu];rfl) (by omega) fun v' w6 ho=>?_
  try simp only[rs]
  rw[wrap64_id (by omega) (by omega)];refine nextX ⟨i+1,v',rfl,by omega,?_⟩ (by simp[n1,RowKit.intOf];omega);rw[hsu,natsW_app,natsW_rep,List.length_append,List.length_replicate];exact ho.tail.tail.tail
 ·simp only[hlt,decide_false,i_f];have:i=4:=by omega
  subst this;refine o_ints1 5 ho fun b2 w4 ho=>?_;refine c_irep (k:=32) 0 ho rfl rfl (by omega) fun b3 w5 ho=>?_;have ho:=ho.sub (L':=[.cells b3 (List.replicate 32 (.int .i64 5)) 3,.urow 3 1 ov (fxPre 4).length (natsW (fxPre 4)),.mem M]) (.cons_cons _ (.cons _ (List.Sublist.refl _)));have ho:=OwnS.toU (b:=b3) ho 1 32 32 (by rw[List.length_replicate]) (by omega) (by omega);obtain⟨N1,g1,h1,ho⟩:=OwnS.freezeU (L:=[.urow 3 1 ov (fxPre 4).length (natsW (fxPre 4)),.mem M]) ho 1 rfl;obtain⟨N2,g2,h2,ho⟩:=OwnS.freezeU (L:=[.mem N1]) ho 0 rfl;refine hK _ _ N2 _ 0 ho rfl (g1.trans g2) ⟨_,_,rfl,h2,?_⟩;have h1:=h1.le g2;rw[show Fl.fixF.length=32 from rfl,show natsW Fl.fixF=List.replicate 32 (.int .i64 5) from natsW_rep 32 5];exact h1
end
def Fl.repL (g:Nat):Nat:=if g=18 then 11 else 3
def Fl.repB (g:Nat):Nat:=if g=16 then 2 else if g=17 then 3 else 7
def Fl.lensG (cl:List Nat)(s:List UInt8)(n:Nat):Nat→Nat→List Nat→List Nat×Nat×Int
|0,p,l=>(l,p,13)
|f+1,p,l=>
  if n≤l.length then (l,p,0)
  else
   let r:=Fl.sign cl s p
   if r.2.2≠0 then (l,p,r.2.2)
   else if r.1 < 16 then Fl.lensG cl s n f r.2.1 (l++[r.1])
   else if r.1=16∧l.length=0 then (l,p,3)
   else if 8*s.length < r.2.1+Fl.repB r.1 then (l,p,4)
   else if n < l.length+(Fl.repL r.1+Fl.num s r.2.1 (Fl.repB r.1)) then (l,p,3)
   else Fl.lensG cl s n f (r.2.1+Fl.repB r.1) (l++List.replicate (Fl.repL r.1+Fl.num s r.2.1 (Fl.repB r.1)) (if r.1=16 then l.getD (l.length - 1) 0 else 0))
def Fl.lens (cl:List Nat)(s:List UInt8)(n p:Nat):List Nat×Nat×Int:=Fl.lensG cl s n (n+1) p []
def rpM:List (Int×Value):=[(16,.agg #[.int .i64 3,.int .i64 2]),(17,.agg #[.int .i64 3,.int .i64 3]),(18,.agg #[.int .i64 11,.int .i64 7])]
def Rp (M:Mem):Prop:=∃mb,M.A 3∧M.w.cell? ⟨3,0,none⟩=some (.map (some mb))∧M.A mb∧∃al,(∀k:Int,lookI al k=lookI rpM k)∧MapIsI M.w mb al
theorem Mem.cell {M:Mem}{w:World}(h:M.has w){b j:Nat}{v:Value}(hb:M.A b)(hc:M.w.cell? ⟨b,j,none⟩=some v):w.cell? ⟨b,j,none⟩=some v:=(cell_heap (h b hb)).trans hc
theorem Rp.le {M N:Mem}(h:M.le N)(k:Rp M):Rp N:=by
 obtain⟨mb,h1,h2,h3,al,hal,es,cl,h4,h5⟩:=k;exact⟨mb,h.A _ h1,Mem.cell h.has h1 h2,h.A _ h3,al,hal,es,cl,(h.has mb h3).trans h4,h5⟩
theorem rp_lo {g:Nat}(h:g < 16):lookI rpM (g:Int)=none:=by
 simp[lookI,rpM];omega
theorem rp_hi {g:Nat}(h:16≤g)(h2:g < 19):lookI rpM (g:Int)=some (.agg #[.int .i64 (Fl.repL g:Int),.int .i64 (Fl.repB g:Int)]):=by
 rcases (by omega:g=16∨g=17∨g=18) with rfl|rfl|rfl<;>rfl
theorem mpRp:Tryz.prog.underlying 365=some (.map 3 363):=Tryz.underlying365
theorem zRp:(Tryz.prog.info? 363).bind (·.zero)=some (.agg #[.int .i64 0,.int .i64 0]):=by kernel_rfl
theorem nMapRp:notAgg prog 365=true:=by kernel_rfl
theorem fo_rp0:fOff prog 363 0=some 0:=by kernel_rfl
theorem fo_rp1:fOff prog 363 1=some 1:=by kernel_rfl
theorem szRp:(Tryz.prog.info? 363).map (·.size)=some 2:=by kernel_rfl
theorem Fl.repB_le (g:Nat):Fl.repB g≤7:=by
 unfold Fl.repB;split
 ·omega
 ·split<;>omega
theorem Fl.repL_le (g:Nat):3≤Fl.repL g∧Fl.repL g≤11:=by unfold Fl.repL;split<;>omega
def lenV:Value→Nat|.slice _ n _=>n|_=>0
def lenV0 (vs:List Value):Nat:=lenV (vs.getD 0 undef)
theorem sl_lenV {w:World}{v:Value}{sz n:Nat}{cs:List Value}(h:Sl w v sz n cs):lenV v=n:=by
 obtain⟨_,a,cap,rfl,_⟩:=h;rfl
section
variable {w:World}{PK:PKT}{K:VWP}{S:Nat→Prop}{w0:World}{L:List Ent}
theorem o_makeI0 {n:Nat}(hn:n≤1000000)(ho:OwnS S w0 w L)(k:∀v w',OwnS S w0 w' (.urow 3 1 v 0 []::L)→K v w') :
  DoX prog (mMake 123 (.int .i64 0) (.int .i64 (n:Int))) w PK K:=by
 obtain⟨i,hi,hz,h1,h8⟩:=info_int;refine o_new (fun b=>.slice (some ⟨b,0,none⟩) 0 n) (List.replicate n (.int .i64 0)) 3 (fun W=>?_) ho fun b w' ho=>k _ _ ?_
 ·have:=Go.run_make (P:=prog) W 123 3 i (Value.int .i64 0) Tryz.underlying123 hi hz .i64 .i64 (0:Int) (n:Int) (by omega) (by omega) (by rw[h8];omega) (by omega);rw[h1,Int.toNat_natCast,madeInts] at this;exact mv_run this
 ·have:=OwnS.toU (b:=b) ho 1 0 n (by rw[List.length_replicate,Nat.mul_one]) (by omega) (by omega);exact this
theorem look_rp {M:Mem}{mb:Nat}{al:List (Int×Value)}(hal:∀k:Int,lookI al k=lookI rpM k)(hM:M.has w)(hA:M.A mb)(h:MapIsI M.w mb al)(g:Nat):(mLook 365 (.map (some mb)) (.int .i64 (g:Int)) true).run prog w=.ok (.value (.tuple #[(lookI rpM (g:Int)).getD (.agg #[.int .i64 0,.int .i64 0]),.bool (lookI rpM (g:Int)).isSome])) w:=by
 have hw:MapIsI w mb al:=by
  obtain⟨es,cl,h4,h5⟩:=h;exact⟨es,cl,(hM mb hA).trans h4,h5⟩
 rw[←hal];exact run_lookI (ok:=true) mpRp Tryz.underlying3 zRp hw (g:Int)
theorem c_lengths {fb rb tb n:Nat}{ov:Value}{s:List UInt8}{way:Int}{p most:Nat}{out:List UInt8}{cl:List Nat}{M:Mem}{R:List Ent}(jm:Nat)(ho:OwnS S w0 w (Fs fb rb s most ov way p out R))(hm:R[jm]?=some (.mem M))(ht:TbAt M.A M.w tb cl)(hl:cl.length=19)(hrp:Rp M)(hw:way=0∨way=1)(hp:p≤8*s.length)(hs:s.length≤1000000000)(hn:n≤1000)
  (k1:(Fl.lens cl s n p).2.2=0→(Fl.lens cl s n p).2.1≤8*s.length→(Fl.lens cl s n p).1.length=n→(∀x∈(Fl.lens cl s n p).1,x≤15)→∀way' lv W,(way'=0∨way'=1)→OwnS S w0 W (.urow 3 1 lv (Fl.lens cl s n p).1.length (natsW (Fl.lens cl s n p).1)::Fs fb rb s most ov way' (Fl.lens cl s n p).2.1 out R)→K lv W)
  (k2:(Fl.lens cl s n p).2.2≠0→∀way' p' W,OwnS S w0 W (Fs fb rb s most ov way' p' out R)→PK [upI (Fl.lens cl s n p).2.2] W) :
  CallX prog 339 #[.pointer (some ⟨fb,0,none⟩),.pointer (some ⟨tb,0,none⟩),.int .i64 (n:Int)] w PK K:=by
 generalize hX:Fl.lens cl s n p=X at k1 k2;unfold Fl.lens at hX;refine⟨S_inflate_flate_lengths_ok ?_⟩;unfold S_inflate_flate_lengths iN dx;refine o_makeI0 (by omega) ho fun lv w1 ho=>?_;refine loop (fun vs W=>∃(p:Nat) (way:Int) (l:List Nat) (lv:Value),vs=[lv]∧(way=0∨way=1)∧p≤8*s.length∧l.length≤n∧(∀x∈l,x≤15)∧(∃f,n+1 - l.length≤f∧Fl.lensG cl s n f p l=X)∧OwnS S w0 W (.urow 3 1 lv l.length (natsW l)::Fs fb rb s most ov way p out R)) (fun vs _=>n - lenV0 vs) ⟨p,way,[],lv,rfl,hw,hp,Nat.zero_le _,(fun x hx=>by cases hx),⟨_,Nat.le_refl _,hX⟩,ho⟩ ?_;clear ho hX hp hw;rintro vs w1 ⟨p,way,l,lv,rfl,hw,hp,hln,hl15,⟨f,hf,hX⟩,ho⟩ _;have hlv:lenV lv=l.length:=sl_lenV (ho.slU 0 rfl);simp only[S_inflate_flate_lengths_0,gd,iN,dx,cx];obtain⟨f,rfl⟩:∃f',f=f'+1:=⟨f - 1,by omega⟩;rw[Fl.lensG] at hX;dsimp only at hX;rw[sl_len Tryz.underlying123 (ho.slU 0 rfl)]
 try simp only[rs]
 by_cases hlt:(l.length:Int) < (n:Int)
 case neg=>
  simp only[hlt,decide_false,i_f];rw[if_pos (by omega)] at hX;subst hX;exact k1 rfl hp (by dsimp only;omega) hl15 _ _ _ hw ho
 simp only[hlt,decide_true,i_t];rw[if_neg (by omega)] at hX
 try rw[m_nilP]
 rw[fa_fl0,fl_rd ho 1 rfl];refine c_tread 2 (jm+4) (by omega) ho rfl hm ht (by omega) hw hp hs fun way3 W3 hw3 hp3 ho=>?_;have ho:OwnS S w0 W3 (.urow 3 1 lv l.length (natsW l)::Fs fb rb s most ov way3 (Fl.sign cl s p).2.1 out R):=ho;have hg19:(Fl.sign cl s p).1 < cl.length:=Fl.signG_lt s (by omega) 16 0 p 0;rw[hl] at hg19;generalize Fl.sign cl s p=T at hX ho hp3 hg19;obtain⟨g,q,e⟩:=T;dsimp only at hX ho hp3 hg19;simp only[ex];refine c_imustI (fun h3=>?_) (fun h3=>?_)
 rotate_left
 ·rw[if_pos h3] at hX;subst hX;exact k2 h3 _ _ _ ho.tail
 rw[if_neg (by rw[h3];decide)] at hX;obtain⟨mb,hr1,hr2,hr3,al,hal,hr4⟩:=hrp;have hM:=ho.hasM (jm+4) hm;rw[l_cell nMapRp (Mem.cell hM hr1 hr2)];refine do_eq (look_rp hal hM hr3 hr4 g) |>.mpr ?_;simp only[ex];refine o_new (fun b=>.pointer (some ⟨b,0,none⟩)) (frC 0 0) 363 (fun _=>by kernel_rfl) ho fun rbx w4 ho=>?_;by_cases h16:g < 16
 ·rw[if_pos h16] at hX;rw[rp_lo h16];simp only[Option.getD_none,Option.isSome_none];refine o_put 0 ho rfl (new:=frC 0 0) szRp frC_one rfl fun w5 ho=>?_;simp only[rs,nn_f];refine o_ints1 (g:Int) ho fun b2 w6 ho=>?_;refine o_apInt 2 ho rfl (ho.sl 0 rfl 1 1 1 rfl) intsW_one (by omega) fun v' w7 ho=>?_;have hlv2:lenV v'=l.length+1:=sl_lenV (ho.slU 2 rfl);refine nextX ⟨q,way3,l++[g],v',rfl,hw3,hp3,by rw[List.length_append,List.length_singleton];omega,?_,⟨f,by rw[List.length_append,List.length_singleton];omega,hX⟩,?_⟩ (by show n - lenV v' < n - lenV lv;omega)
  ·intro x hx;rcases List.mem_append.1 hx with hx|hx
   ·exact hl15 x hx
   ·rw[List.mem_singleton.1 hx];omega
  ·rw[natsW_app,List.length_append];exact ho.tail.tail
 rw[if_neg h16] at hX;rw[rp_hi (by omega) hg19];simp only[Option.getD_some,Option.isSome_some];refine o_put 0 ho rfl (new:=frC (Fl.repL g) (Fl.repB g)) szRp frC_one rfl fun w5 ho=>?_;simp only[rs,nn_t];have hB:=Fl.repB_le g;have hL:=Fl.repL_le g;refine join fun J2 hJ2=>?_;have rest:∀(W:World) (ag:Nat),(ag=if g=16 then l.getD (l.length - 1) 0 else 0)→ag≤15→¬(g=16∧l.length=0)→OwnS S w0 W (.cells rbx (frC (Fl.repL g) (Fl.repB g)) 363::.urow 3 1 lv l.length (natsW l)::Fs fb rb s most ov way3 q out R)→J2 [.int .i64 (ag:Int)] W:=by
  intro W ag hag hag15 hne ho;rw[if_neg hne,←hag] at hX;refine hJ2 _ _ fun _=>?_;simp only[S_inflate_flate_lengths_1,gd,iN,dx,cx];have ho:=ho.drew;refine⟨fun W=>(Ent.cells rbx (frC (Fl.repL g) (Fl.repB g)) 363).is W,ho.at_ 0 rfl,?_⟩;refine hd_pure _ (fun _=>run_fa fo_rp0) (hd_do _ (fun W h=>run_load_cell nInt5 (cells_cell (T:=363) h rfl)) ?_);refine hd_pure _ (fun _=>run_fa fo_rp1) (hd_do _ (fun W h=>run_load_cell nInt5 (cells_cell (T:=363) h rfl)) ?_);refine c_ibits (n:=Fl.repB g) 2 3 ho rfl rfl hw3 hp3 (by omega) hs (fun h5 W5 ho=>?_) (fun h5 W5 ho=>?_)
  rotate_left
  ·rw[if_pos h5] at hX;subst hX
   repeat intro _
   exact k2 (by dsimp only;decide) _ _ _ ho.tail.tail
  rw[if_neg (by omega)] at hX;have hwy:(if 0 < Fl.repB g then (1:Int) else way3)=0∨(if 0 < Fl.repB g then (1:Int) else way3)=1:=by split;exact .inr rfl;exact hw3
  have ho:OwnS S w0 W5 (.cells rbx (frC (Fl.repL g) (Fl.repB g)) 363::.urow 3 1 lv l.length (natsW l)::Fs fb rb s most ov (if 0 < Fl.repB g then 1 else way3) (q+Fl.repB g) out R):=ho;generalize (if 0 < Fl.repB g then (1:Int) else way3)=way5 at ho hwy;have hnl:=Fl.num_lt s q (Fl.repB g);have h27:2 ^ Fl.repB g≤2 ^ 7:=Nat.pow_le_pow_right (by decide) hB;have h27':(2:Nat) ^ 7=128:=by decide
  refine⟨ho.at_ 0 rfl,?_⟩;refine hd_pure _ (fun _=>r_add) ?_;rw[wrap64_id (by omega) (by omega),show (Fl.repL g:Int)+(Fl.num s q (Fl.repB g):Int)=((Fl.repL g+Fl.num s q (Fl.repB g):Nat):Int) by omega];generalize hk:Fl.repL g+Fl.num s q (Fl.repB g)=k at hX;rw[sl_len Tryz.underlying123 (ho.slU 1 rfl)]
  try simp only[rs]
  rw[wrap64_id (by omega) (by omega)];refine c_ineed (fun h6=>?_) (fun h6=>?_)
  rotate_left
  ·have:=of_decide_eq_false h6;rw[if_pos (by omega)] at hX;subst hX;exact k2 (by dsimp only;decide) _ _ _ ho.tail.tail
  have h6:=of_decide_eq_true h6;rw[if_neg (by omega)] at hX;refine o_ints1 (ag:Int) ho fun b2 w6 ho=>?_;refine c_irep 0 ho rfl rfl (by omega) fun b3 w7 ho=>?_;refine o_apInt 3 ho rfl (Sl.cells (ho.at_ 0 rfl) 1 k k (by rw[List.length_replicate,Nat.mul_one])) (fun u hu=>by rw[List.eq_of_mem_replicate hu];rfl) (by omega) fun v' w8 ho=>?_;have hlv2:lenV v'=l.length+k:=sl_lenV (ho.slU 3 rfl);refine nextX ⟨q+Fl.repB g,way5,l++List.replicate k ag,v',rfl,hwy,h5,by rw[List.length_append,List.length_replicate];omega,?_,⟨f,by rw[List.length_append,List.length_replicate];omega,hX⟩,?_⟩ (by show n - lenV v' < n - lenV lv;omega)
  ·intro x hx;rcases List.mem_append.1 hx with hx|hx
   ·exact hl15 x hx
   ·rw[List.eq_of_mem_replicate hx];exact hag15
  ·rw[natsW_app,natsW_rep,List.length_append,List.length_replicate];exact ho.tail.tail.tail
 by_cases hg:g=16
 case neg=>
  simp only[show decide ((g:Int)=16)=false from decide_eq_false (by omega),i_f];exact rest _ 0 (by rw[if_neg hg]) (by omega) (fun h=>hg h.1) ho
 simp only[show decide ((g:Int)=16)=true from decide_eq_true (by omega),i_t];rw[sl_len Tryz.underlying123 (ho.slU 1 rfl)]
 try simp only[rs]
 refine c_ineed (fun h6=>?_) (fun h6=>?_)
 rotate_left
 ·have:=of_decide_eq_false h6;rw[if_pos ⟨hg,by omega⟩] at hX;subst hX;exact k2 (by dsimp only;decide) _ _ _ ho.tail.tail
 have h6:=of_decide_eq_true h6;rw[sl_len Tryz.underlying123 (ho.slU 1 rfl)]
 try simp only[rs]
 rw[wrap64_id (by omega) (by omega),show (l.length:Int) - 1=((l.length - 1:Nat):Int) by omega];have hil:l.length - 1 < l.length:=by omega
 obtain⟨b2,off,r1,r2⟩:=nats_at (ho.slU 1 rfl) hil;refine do_eq (r1 w5) |>.mpr (do_eq (run_load_cell nInt5 r2) |>.mpr ?_);have hgd:l.getD (l.length - 1) 0=l[l.length - 1]:=by rw[List.getD_eq_getElem?_getD,List.getElem?_eq_getElem hil];rfl
 exact rest _ _ (by rw[if_pos hg,hgd]) (hl15 _ (List.getElem_mem hil)) (fun h=>by omega) ho
end
end
section
open Eng Go.RowKit
theorem TbAt.le {M N:Mem}(h:M.le N){b:Nat}{lens:List Nat}(k:TbAt M.A M.w b lens):TbAt N.A N.w b lens:=by
 obtain⟨a,c,o,h1,h2,h3⟩:=k;exact⟨a,c,o,h.A b h1,(tbE b a c (cnt lens) (fstW lens) o).keep h2 (fun k hk=>by cases hk;exact h.has b h1),h3.le h⟩
theorem Fl.fixS_15:∀l∈Fl.fixS,l≤15:=by
 intro l hl;have h:Fl.fixS.all (fun l=>decide (l≤15))=true:=by decide +kernel
 exact of_decide_eq_true (List.all_eq_true.1 h l hl)
theorem Fl.fixF_15:∀l∈Fl.fixF,l≤15:=by
 intro l hl;rw[List.eq_of_mem_replicate hl];decide
theorem Fl.fixS_len:Fl.fixS.length=288:=by decide +kernel
theorem Fl.fixF_len:Fl.fixF.length=32:=by decide +kernel
theorem Fl.fixS_chk:Fl.chk Fl.fixS=0:=by decide +kernel
theorem Fl.fixF_chk:Fl.chk Fl.fixF=0:=by decide +kernel
def Fl.ord:List Nat:=[16,17,18,0,8,7,9,6,10,5,11,4,12,3,13,2,14,1,15]
theorem Fl.ord_lt {i:Nat}(h:i < 19):Fl.ord.getD i 0 < 19:=by
 have h1:(List.range 19).all (fun i=>decide (Fl.ord.getD i 0 < 19))=true:=by decide +kernel
 exact of_decide_eq_true (List.all_eq_true.1 h1 i (List.mem_range.2 h))
def Od (M:Mem):Prop:=M.A 2∧∀i,i < 19→M.w.cell? ⟨2,i,none⟩=some (.int .i64 ((Fl.ord.getD i 0:Nat):Int))
theorem Od.le {M N:Mem}(h:M.le N)(k:Od M):Od N:=⟨h.A _ k.1,fun i hi=>Mem.cell h.has k.1 (k.2 i hi)⟩
theorem lt19 {i:Nat}(h:i < 19):i=0∨i=1∨i=2∨i=3∨i=4∨i=5∨i=6∨i=7∨i=8∨i=9∨i=10∨i=11∨i=12∨i=13∨i=14∨i=15∨i=16∨i=17∨i=18:=by omega
def Fl.clG (s:List UInt8)(p:Nat):Nat→List Nat
|0=>List.replicate 19 0
|i+1=>(Fl.clG s p i).set (Fl.ord.getD i 0) (Fl.num s (p+3*i) 3)
theorem Fl.clG_len (s:List UInt8)(p:Nat):∀i,(Fl.clG s p i).length=19
|0=>rfl
|i+1=>by rw[Fl.clG,List.length_set,Fl.clG_len s p i]
theorem Fl.clG_le (s:List UInt8)(p:Nat):∀i,∀x∈Fl.clG s p i,x≤7
|0,x,h=>by rw[List.eq_of_mem_replicate h];decide
|i+1,x,h=>by
  rcases List.mem_or_eq_of_mem_set h with h|h
  ·exact Fl.clG_le s p i x h
  ·have:=Fl.num_lt s (p+3*i) 3;rw[h];omega
def Fl.dyn (s:List UInt8)(most p:Nat)(out:List UInt8):List UInt8×Nat×Int:=
 if 8*s.length < p+5 then (out,p,4)
 else if 29 < Fl.num s p 5 then (out,p,3)
 else if 8*s.length < p+10 then (out,p,4)
 else if 29 < Fl.num s (p+5) 5 then (out,p,3)
 else if 8*s.length < p+14 then (out,p,4)
 else if 8*s.length < p+14+3*(Fl.num s (p+10) 4+4) then (out,p,4)
 else
  let cl:=Fl.clG s (p+14) (Fl.num s (p+10) 4+4)
  if Fl.chk cl≠0 then (out,p,Fl.chk cl)
  else
   let r:=Fl.lens cl s (Fl.num s p 5+257+(Fl.num s (p+5) 5+1)) (p+14+3*(Fl.num s (p+10) 4+4))
   if r.2.2≠0 then (out,p,r.2.2)
   else if r.1.getD 256 0=0 then (out,p,13)
   else if Fl.chk (r.1.take (Fl.num s p 5+257))≠0 then (out,p,Fl.chk (r.1.take (Fl.num s p 5+257)))
   else if Fl.chk (r.1.drop (Fl.num s p 5+257))≠0 then (out,p,Fl.chk (r.1.drop (Fl.num s p 5+257)))
   else Fl.coded (r.1.take (Fl.num s p 5+257)) (r.1.drop (Fl.num s p 5+257)) s most r.2.1 out
def Fl.block (s:List UInt8)(most p:Nat)(out:List UInt8):List UInt8×Nat×Int:=
 if 8*s.length < p+2 then (out,p,4)
 else if Fl.num s p 2=0 then Fl.stored s most (p+2) out
 else if Fl.num s p 2=1 then Fl.coded Fl.fixS Fl.fixF s most (p+2) out
 else if Fl.num s p 2=2 then Fl.dyn s most (p+2) out
 else (out,p,3)
theorem SlA.upto16 {A:Nat→Prop}{w:World}{a:Option Addr}{n cap sz i:Nat}{cs:List Value}(h:SlA A w (.slice a n cap) sz n cs)(hi:i≤n)(h0:0 < i→0 < n):SlA A w (.slice (subA a 0 cap sz) i cap) sz i (cs.take (i*sz)):=by
 obtain⟨h1,h2,h3⟩:=h;have hc:=h3 _ _ _ rfl;refine⟨Sl.upto h1 hi,fun p l c e hn=>?_,fun a l c e=>?_⟩
 ·injection e with e1 _ _
  obtain⟨q,hq,hb⟩:=sub_block16 e1;have:=h2 q n cap (by rw[hq]) (h0 hn)
  rwa [←hb]
 ·injection e with e1 e2 e3
  omega
section
variable {w:World}{PK:PKT}{K:VWP}{S:Nat→Prop}{w0:World}{L:List Ent}
abbrev arT:TypeId:=308
theorem run_arsl {W:World}{b:Nat}:(mSlice arT (.pointer (some ⟨b,0,none⟩)) none none none).run prog W=.ok (.value (.slice (some ⟨b,0,none⟩) 19 19)) W:=by kernel_rfl
theorem run_arh {W:World}{b h:Nat}(hh:h≤19):(mSlice arT (.pointer (some ⟨b,0,none⟩)) none (some (.int .i64 (h:Int))) none).run prog W=.ok (.value (.slice (some ⟨b,0,none⟩) h 19)) W:=by
 rcases (by omega:h=19∨h < 19) with rfl|h19
 ·kernel_rfl
 ·rcases lt19 h19 with rfl|rfl|rfl|rfl|rfl|rfl|rfl|rfl|rfl|rfl|rfl|rfl|rfl|rfl|rfl|rfl|rfl|rfl|rfl<;>kernel_rfl
theorem run_aria {W:World}{b i:Nat}(hi:i < 19):(mIA arT (.pointer (some ⟨b,0,none⟩)) (.int .i64 (i:Int))).run prog W=.ok (.value (.pointer (some ⟨b,i,none⟩))) W:=by
 rcases lt19 hi with rfl|rfl|rfl|rfl|rfl|rfl|rfl|rfl|rfl|rfl|rfl|rfl|rfl|rfl|rfl|rfl|rfl|rfl|rfl<;>kernel_rfl
theorem c_fixed {fb rb:Nat}{ov:Value}{s:List UInt8}{way:Int}{p most:Nat}{out:List UInt8}{M:Mem}{T:List Ent}(ho:OwnS S w0 w (Fs fb rb s most ov way p out (.mem M::T)))(hw:way=0∨way=1)(hp:p≤8*s.length)(hs:s.length≤1000000000)(hmo:most≤1000000000)(hol:out.length≤most)
  (k1:(Fl.coded Fl.fixS Fl.fixF s most p out).2.2=0→(Fl.coded Fl.fixS Fl.fixF s most p out).2.1≤8*s.length→(Fl.coded Fl.fixS Fl.fixF s most p out).1.length≤most→∀N way' ov' W,M.le N→(way'=0∨way'=1)→OwnS S w0 W (Fs fb rb s most ov' way' (Fl.coded Fl.fixS Fl.fixF s most p out).2.1 (Fl.coded Fl.fixS Fl.fixF s most p out).1 (.mem N::T))→K (.tuple #[]) W)
  (k2:(Fl.coded Fl.fixS Fl.fixF s most p out).2.2≠0→∀N ov' way' p' out' W,M.le N→OwnS S w0 W (Fs fb rb s most ov' way' p' out' (.mem N::T))→PK [upI (Fl.coded Fl.fixS Fl.fixF s most p out).2.2] W) :
  CallX prog 307 #[.pointer (some ⟨fb,0,none⟩)] w PK K:=by
 refine⟨S_inflate_flate_fixed_ok ?_⟩;unfold S_inflate_flate_fixed dx cx;refine c_mem ho 3 rfl (ifixed_ret M w (ho.hasM 3 rfl)) ?_;rintro _ N1 w1 g1 ⟨a,b,rfl,ha,hb⟩ ho;have ho:OwnS S w0 w1 (Fs fb rb s most ov way p out (.mem N1::T)):=ho;simp only[ex];refine c_mem ho 3 rfl (cnew_ret Fl.fixS a N1 w1 Fl.fixS_15 (by rw[Fl.fixS_len];omega) (by rw[Fl.fixS_len];omega) (ho.hasM 3 rfl) ha) ?_;intro v N2 w2 g2 hv ho;rw[if_neg (by rw[Fl.fixS_chk];decide)] at hv;obtain⟨tb,rfl,htb⟩:=hv;have ho:OwnS S w0 w2 (Fs fb rb s most ov way p out (.mem N2::T)):=ho;simp only[ex];refine c_imustT (fun _=>?_) (fun h=>absurd rfl h);refine c_mem ho 3 rfl (cnew_ret Fl.fixF b N2 w2 Fl.fixF_15 (by rw[Fl.fixF_len];omega) (by rw[Fl.fixF_len];omega) (ho.hasM 3 rfl) (hb.le g2)) ?_;intro v N3 w3 g3 hv ho;rw[if_neg (by rw[Fl.fixF_chk];decide)] at hv;obtain⟨td,rfl,htd⟩:=hv;have ho:OwnS S w0 w3 (Fs fb rb s most ov way p out (.mem N3::T)):=ho;simp only[ex];refine c_imustT (fun _=>?_) (fun h=>absurd rfl h);have hle:=g1.trans (g2.trans g3);exact c_coded 0 ho rfl (htb.le g3) htd (by rw[Fl.fixS_len];omega) (by rw[Fl.fixF_len];omega) hw hp hs hmo hol (fun h1 h2 h3 way' ov' W hw' ho=>k1 h1 h2 h3 N3 way' ov' W hle hw' ho) (fun h1 ov' way' p' out' W ho=>k2 h1 N3 ov' way' p' out' W hle ho)
theorem natsW_set (l:List Nat)(i n:Nat):natsW (l.set i n)=(natsW l).set i (.int .i64 (n:Int)):=by simp[natsW,List.map_set]
theorem c_dynamic {fb rb:Nat}{ov:Value}{s:List UInt8}{way:Int}{p most:Nat}{out:List UInt8}{M:Mem}{T:List Ent}(ho:OwnS S w0 w (Fs fb rb s most ov way p out (.mem M::T)))(hrp:Rp M)(hod:Od M)(hw:way=0∨way=1)(hp:p≤8*s.length)(hs:s.length≤1000000000)(hmo:most≤1000000000)(hol:out.length≤most)
  (k1:(Fl.dyn s most p out).2.2=0→(Fl.dyn s most p out).2.1≤8*s.length→(Fl.dyn s most p out).1.length≤most→∀N way' ov' W,M.le N→(way'=0∨way'=1)→OwnS S w0 W (Fs fb rb s most ov' way' (Fl.dyn s most p out).2.1 (Fl.dyn s most p out).1 (.mem N::T))→K (.tuple #[]) W)
  (k2:(Fl.dyn s most p out).2.2≠0→∀N ov' way' p' out' W,M.le N→OwnS S w0 W (Fs fb rb s most ov' way' p' out' (.mem N::T))→PK [upI (Fl.dyn s most p out).2.2] W) :
  CallX prog 308 #[.pointer (some ⟨fb,0,none⟩)] w PK K:=by
 generalize hX:Fl.dyn s most p out=X at k1 k2;unfold Fl.dyn at hX;dsimp only at hX;refine⟨S_inflate_flate_dynamic_ok ?_⟩;unfold S_inflate_flate_dynamic iN dx cx;have h5:(2:Nat) ^ 5=32:=by decide
 have h4:(2:Nat) ^ 4=16:=by decide
 refine c_ibits (n:=5) 0 1 ho rfl rfl hw hp (by omega) hs (fun e1 W1 ho=>?_) (fun e1 W1 ho=>?_)
 rotate_left
 ·rw[if_pos e1] at hX;subst hX;exact k2 (by dsimp only;decide) M _ _ _ _ _ M.le_refl ho
 rw[if_neg (by omega)] at hX;have ho:OwnS S w0 W1 (Fs fb rb s most ov 1 (p+5) out (.mem M::T)):=ho;have n1:=Fl.num_lt s p 5;generalize Fl.num s p 5=hl at hX n1
 try simp only[rs]
 rw[wrap64_id (by omega) (by omega)];refine c_ineed (fun e2=>?_) (fun e2=>?_)
 rotate_left
 ·have:=of_decide_eq_false e2;rw[if_pos (by omega)] at hX;subst hX;exact k2 (by dsimp only;decide) M _ _ _ _ _ M.le_refl ho
 have e2:=of_decide_eq_true e2;rw[if_neg (by omega)] at hX;refine c_ibits (n:=5) 0 1 ho rfl rfl (.inr rfl) e1 (by omega) hs (fun e3 W2 ho=>?_) (fun e3 W2 ho=>?_)
 rotate_left
 ·rw[if_pos (by omega)] at hX;subst hX;exact k2 (by dsimp only;decide) M _ _ _ _ _ M.le_refl ho
 rw[if_neg (by omega)] at hX;have ho:OwnS S w0 W2 (Fs fb rb s most ov 1 (p+5+5) out (.mem M::T)):=ho;have n2:=Fl.num_lt s (p+5) 5;generalize Fl.num s (p+5) 5=hd at hX n2
 try simp only[rs]
 rw[wrap64_id (by omega) (by omega)];refine c_ineed (fun e4=>?_) (fun e4=>?_)
 rotate_left
 ·have:=of_decide_eq_false e4;rw[if_pos (by omega)] at hX;subst hX;exact k2 (by dsimp only;decide) M _ _ _ _ _ M.le_refl ho
 have e4:=of_decide_eq_true e4;rw[if_neg (by omega)] at hX;refine o_new (fun b=>.pointer (some ⟨b,0,none⟩)) (natsW (List.replicate 19 0)) arT (fun _=>by kernel_rfl) ho fun ab W3 ho=>?_;refine c_ibits (n:=4) 1 2 ho rfl rfl (.inr rfl) e3 (by omega) hs (fun e5 W4 ho=>?_) (fun e5 W4 ho=>?_)
 rotate_left
 ·rw[if_pos (by omega)] at hX;subst hX;exact k2 (by dsimp only;decide) M _ _ _ _ _ M.le_refl ho.tail
 rw[if_neg (by omega)] at hX;have ho:OwnS S w0 W4 (.cells ab (natsW (List.replicate 19 0)) arT::Fs fb rb s most ov 1 (p+14) out (.mem M::T)):=ho;have n3:=Fl.num_lt s (p+10) 4;rw[show Fl.num s (p+5+5) 4=Fl.num s (p+10) 4 from rfl];generalize Fl.num s (p+10) 4=hc at hX n3
 try simp only[rs]
 rw[wrap64_id (by omega) (by omega),show (hc:Int)+4=((hc+4:Nat):Int) by omega];refine do_eq (run_arh (by omega)) |>.mpr ?_;have hlen:∀W:World,DoX prog (mB .len #[123] 3 #[false] #[.slice (some ⟨2,0,none⟩) (hc+4) 19]) W (Eng.pk fun _ _=>True) (fun v _=>v=.int .i64 ((hc+4:Nat):Int)):=fun W=>by
  refine do_ok (v:=.int .i64 ((hc+4:Nat):Int)) (w':=W) ?_ rfl;simp[mB,builtin,Builtin.len_,run_underlying Tryz.underlying123,goInt]
 clear hlen;refine do_ok (v:=.int .i64 ((hc+4:Nat):Int)) (w':=W4) (by simp[mB,builtin,Builtin.len_,run_underlying Tryz.underlying123,goInt]) ?_;have hr0:natsW (List.replicate 19 0)=natsW (Fl.clG s (p+14) 0):=rfl;rw[hr0] at ho;refine loop (fun vs W=>∃i:Nat,vs=[.int .i64 (i:Int)]∧i≤hc+4∧p+14+3*i≤8*s.length∧OwnS S w0 W (.cells ab (natsW (Fl.clG s (p+14) i)) arT::Fs fb rb s most ov 1 (p+14+3*i) out (.mem M::T))) (fun vs _=>hc+4 - n0 vs) ⟨0,rfl,by omega,by omega,ho⟩ ?_;clear ho;rintro vs w5 ⟨i,rfl,hi,hpi,ho⟩ _;simp only[S_inflate_flate_dynamic_0,gd,rs,iN,dx,cx];by_cases hlt:(i:Int) < ((hc+4:Nat):Int)
 ·simp only[hlt,decide_true,i_t];have hi19:i < 19:=by omega
  have hia:=run_ia (P:=prog) (T:=123) (b:=2) (off:=0) (cap:=19) (n:=hc+4) (k:=.i64) (i:=(i:Int)) (w:=w5) Tryz.underlying123 szI1 (by omega) (by omega);rw[Int.toNat_natCast,Nat.mul_one,Nat.zero_add] at hia;refine do_eq hia |>.mpr ?_;rw[l_cell nInt5 (Mem.cell (ho.hasM 4 rfl) hod.1 (hod.2 i hi19))];refine c_ibits (n:=3) 1 2 ho rfl rfl (.inr rfl) hpi (by omega) hs (fun e6 W6 ho=>?_) (fun e6 W6 ho=>?_)
  rotate_left
  ·rw[if_pos (by omega)] at hX;subst hX;exact k2 (by dsimp only;decide) M _ _ _ _ _ M.le_refl ho.tail
  have ho:OwnS S w0 W6 (.cells ab (natsW (Fl.clG s (p+14) i)) arT::Fs fb rb s most ov 1 (p+14+3*i+3) out (.mem M::T)):=ho;have ho19:=Fl.ord_lt hi19;refine do_eq (run_aria ho19) |>.mpr ?_;refine o_store 0 ho rfl (by kernel_rfl) rfl (by rw[natsW_len,Fl.clG_len];exact ho19) fun w7 ho=>?_
  try simp only[rs]
  rw[wrap64_id (by omega) (by omega)];refine nextX ⟨i+1,rfl,by omega,by omega,?_⟩ (by simp[n0,RowKit.intOf];omega);rw[Fl.clG,natsW_set];exact ho
 simp only[hlt,decide_false,i_f];have hie:i=hc+4:=by omega
 subst hie;rw[if_neg (by omega)] at hX;have hcl:=Fl.clG_len s (p+14) (hc+4);have hc7:=Fl.clG_le s (p+14) (hc+4);generalize Fl.clG s (p+14) (hc+4)=cl at hX hcl hc7 ho;refine do_eq run_arsl |>.mpr ?_;have his:=ho.at_ 0 rfl;obtain⟨N1,g1,hw1,hblk,ho⟩:=OwnS.freeze (L:=Fs fb rb s most ov 1 (p+14+3*(hc+4)) out (.mem M::T)) ho 3 rfl;have ho:OwnS S w0 w5 (Fs fb rb s most ov 1 (p+14+3*(hc+4)) out (.mem N1::T)):=ho;have hsl:SlA N1.A N1.w (.slice (some ⟨ab,0,none⟩) 19 19) 1 cl.length (natsW cl):=by
  rw[hw1,hcl];refine⟨Sl.cells his 1 19 19 (by rw[natsW_len,hcl]),fun q l c e _=>?_,fun a l c e=>?_⟩
  ·injection e with e1 e2 e3
   cases e1;exact hblk ab rfl
  ·injection e with e1 e2 e3
   omega
 refine c_mem ho 3 rfl (cnew_ret cl _ N1 w5 (fun l h=>by have:=hc7 l h;omega) (by omega) (by omega) (ho.hasM 3 rfl) hsl) ?_;intro v N2 w6 g2 hv ho;have ho:OwnS S w0 w6 (Fs fb rb s most ov 1 (p+14+3*(hc+4)) out (.mem N2::T)):=ho;by_cases hck:Fl.chk cl=0
 case neg=>
  rw[if_pos hck] at hv;subst hv;rw[if_pos hck] at hX;subst hX;simp only[ex];refine c_imustT (fun h=>absurd h hck) (fun _=>?_);exact k2 hck N2 _ _ _ _ _ (g1.trans g2) ho
 rw[if_neg (by simp[hck])] at hv;obtain⟨tb,rfl,htb⟩:=hv;rw[if_neg (by simp[hck])] at hX;simp only[ex];refine c_imustT (fun _=>?_) (fun h=>absurd rfl h)
 try simp only[rs]
 rw[wrap64_id (by omega) (by omega),show (hl:Int)+257+((hd:Int)+1)=((hl+257+(hd+1):Nat):Int) by omega];have g12:=g1.trans g2;refine c_lengths 0 ho rfl htb hcl (hrp.le g12) (.inr rfl) hpi hs (by omega) (fun e1 e2 e3 e4 way' lv W hw' ho=>?_) (fun e1 way' p' W ho=>?_)
 rotate_left
 ·rw[if_pos e1] at hX;subst hX;exact k2 e1 N2 _ _ _ _ _ g12 ho
 rw[if_neg (by rw[e1];decide)] at hX;generalize Fl.lens cl s (hl+257+(hd+1)) (p+14+3*(hc+4))=r at hX e2 e3 e4 ho;obtain⟨l,q,e⟩:=r;dsimp only at hX e2 e3 e4 ho;obtain⟨N3,g3,hrow,ho⟩:=OwnS.freezeU (L:=Fs fb rb s most ov way' q out (.mem N2::T)) ho 3 rfl;have ho:OwnS S w0 W (Fs fb rb s most ov way' q out (.mem N3::T)):=ho;have g13:=g12.trans g3;have h256:256 < l.length:=by omega
 obtain⟨b6,off,r1,r2⟩:=nats_at (hrow.now (ho.hasM 3 rfl)) h256;refine do_eq (r1 W) |>.mpr (do_eq (run_load_cell nInt5 r2) |>.mpr ?_);have hgd:l.getD 256 0=l[256]:=by rw[List.getD_eq_getElem?_getD,List.getElem?_eq_getElem h256];rfl
 try simp only[rs]
 refine c_ineed (fun e5=>?_) (fun e5=>?_)
 rotate_left
 ·have:=of_decide_eq_false e5;rw[if_pos (by rw[hgd];omega)] at hX;subst hX;exact k2 (by dsimp only;decide) N3 _ _ _ _ _ g13 ho
 have e5:=of_decide_eq_true e5;rw[if_neg (by rw[hgd];omega)] at hX;obtain⟨la,lc,hlv,hcap⟩:=hrow.form;rw[hlv] at hrow ⊢;have ho:=ho.drew;refine⟨fun _=>True,trivial,?_⟩;refine hd_pure _ (fun _=>run_sl_h Tryz.underlying123 szI1 (by omega) (by omega)) (hd_pure _ (fun _=>run_sl_l Tryz.underlying123 szI1 (by omega) (by omega)) ?_);have hA:SlA N3.A N3.w (.slice (subA la 0 lc 1) (hl+257) lc) 1 (l.take (hl+257)).length (natsW (l.take (hl+257))):=by
  have:=hrow.upto16 (i:=hl+257) (by omega) (by omega);rw[List.length_take,Nat.min_eq_left (by omega)];rw[Nat.mul_one] at this;have e:natsW (l.take (hl+257))=(natsW l).take (hl+257):=by unfold natsW;rw[List.map_take]
  rw[e];exact this
 have hB:SlA N3.A N3.w (.slice (subA la (hl+257) lc 1) (l.length - (hl+257)) (lc - (hl+257))) 1 (l.drop (hl+257)).length (natsW (l.drop (hl+257))):=by
  have:=hrow.drop16 (i:=hl+257) (by omega);rw[List.length_drop];rw[Nat.mul_one] at this;have e:natsW (l.drop (hl+257))=(natsW l).drop (hl+257):=by unfold natsW;rw[List.map_drop]
  rw[e];exact this
 rw[show ((hl:Int)+257).toNat=hl+257 by omega];have t15:∀x∈l.take (hl+257),x≤15:=fun x hx=>e4 x (List.mem_of_mem_take hx);have d15:∀x∈l.drop (hl+257),x≤15:=fun x hx=>e4 x (List.mem_of_mem_drop hx);have tl:(l.take (hl+257)).length=hl+257:=by rw[List.length_take];omega
 have dl:(l.drop (hl+257)).length=hd+1:=by rw[List.length_drop];omega
 generalize l.take (hl+257)=near at hX hA t15 tl;generalize l.drop (hl+257)=far at hX hB d15 dl;refine c_mem ho 3 rfl (cnew_ret near _ N3 _ t15 (by omega) (by omega) (ho.hasM 3 rfl) hA) ?_;intro v N4 w8 g4 hv ho;have ho:OwnS S w0 w8 (Fs fb rb s most ov way' q out (.mem N4::T)):=ho;have g14:=g13.trans g4;refine⟨trivial,?_⟩;by_cases hck2:Fl.chk near=0
 case neg=>
  rw[if_pos hck2] at hv;subst hv;rw[if_pos hck2] at hX;subst hX;refine hd_ext (hd_ext1 ?_);refine c_imustT (fun h=>absurd h hck2) (fun _=>?_)
  repeat intro _
  exact k2 hck2 N4 _ _ _ _ _ g14 ho
 rw[if_neg (by simp[hck2])] at hv;obtain⟨tn,rfl,htn⟩:=hv;rw[if_neg (by simp[hck2])] at hX;refine hd_ext (hd_ext1 ?_);refine c_imustT (fun _=>?_) (fun h=>absurd rfl h);refine⟨trivial,?_⟩;refine c_mem ho 3 rfl (cnew_ret far _ N4 _ d15 (by omega) (by omega) (ho.hasM 3 rfl) (hB.le g4)) ?_;intro v N5 w9 g5 hv ho;have ho:OwnS S w0 w9 (Fs fb rb s most ov way' q out (.mem N5::T)):=ho;have g15:=g14.trans g5;refine⟨trivial,?_⟩;by_cases hck3:Fl.chk far=0
 case neg=>
  rw[if_pos hck3] at hv;subst hv;rw[if_pos hck3] at hX;subst hX;refine hd_ext (hd_ext1 ?_);refine c_imustT (fun h=>absurd h hck3) (fun _=>?_)
  repeat intro _
  exact k2 hck3 N5 _ _ _ _ _ g15 ho
 rw[if_neg (by simp[hck3])] at hv;obtain⟨tf,rfl,htf⟩:=hv;rw[if_neg (by simp[hck3])] at hX;refine hd_ext (hd_ext1 ?_);refine c_imustT (fun _=>?_) (fun h=>absurd rfl h);refine⟨trivial,?_⟩;refine c_coded 0 ho rfl (htn.le g5) htf (by omega) (by omega) hw' e2 hs hmo hol (fun h1 h2 h3 way' ov' W hw' ho=>?_) (fun h1 ov' way' p' out' W ho=>?_)
 ·refine⟨trivial,?_⟩;rw[hX] at h1 h2 h3 ho;exact k1 h1 h2 h3 N5 way' ov' W g15 hw' ho
 ·rw[hX] at h1 ⊢
  repeat intro _
  exact k2 h1 N5 ov' way' p' out' W g15 ho
theorem c_block {fb rb:Nat}{ov:Value}{s:List UInt8}{way:Int}{p most:Nat}{out:List UInt8}{M:Mem}{T:List Ent}(ho:OwnS S w0 w (Fs fb rb s most ov way p out (.mem M::T)))(hrp:Rp M)(hod:Od M)(hw:way=0∨way=1)(hp:p≤8*s.length)(hs:s.length≤1000000000)(hmo:most≤1000000000)(hol:out.length≤most)
  (k0:8*s.length < p+1→∀N ov' way' p' out' W,M.le N→OwnS S w0 W (Fs fb rb s most ov' way' p' out' (.mem N::T))→PK [upI 4] W)
  (k1:p+1≤8*s.length→(Fl.block s most (p+1) out).2.2=0→(Fl.block s most (p+1) out).2.1≤8*s.length→(Fl.block s most (p+1) out).1.length≤most→∀N way' ov' W,M.le N→(way'=0∨way'=1)→OwnS S w0 W (Fs fb rb s most ov' way' (Fl.block s most (p+1) out).2.1 (Fl.block s most (p+1) out).1 (.mem N::T))→K (.bool (decide (Fl.num s p 1=1))) W)
  (k2:p+1≤8*s.length→(Fl.block s most (p+1) out).2.2≠0→∀N ov' way' p' out' W,M.le N→OwnS S w0 W (Fs fb rb s most ov' way' p' out' (.mem N::T))→PK [upI (Fl.block s most (p+1) out).2.2] W) :
  CallX prog 274 #[.pointer (some ⟨fb,0,none⟩)] w PK K:=by
 refine⟨S_inflate_flate_block_ok ?_⟩;unfold S_inflate_flate_block iN dx cx;refine c_ibits (n:=1) 0 1 ho rfl rfl hw hp (by omega) hs (fun e1 W1 ho=>?_) (fun e1 W1 ho=>?_)
 rotate_left
 ·exact k0 e1 M _ _ _ _ _ M.le_refl ho
 have ho:OwnS S w0 W1 (Fs fb rb s most ov 1 (p+1) out (.mem M::T)):=ho;have k1:=k1 e1;have k2:=k2 e1;generalize hX:Fl.block s most (p+1) out=X at k1 k2;unfold Fl.block at hX
 try simp only[rs]
 rw[show decide ((Fl.num s p 1:Int)=1)=decide (Fl.num s p 1=1) by congr 1;exact propext (by omega)];refine join fun J hJ=>?_;have fin:∀N way' ov' W,M.le N→(way'=0∨way'=1)→X.2.2=0→X.2.1≤8*s.length→X.1.length≤most→OwnS S w0 W (Fs fb rb s most ov' way' X.2.1 X.1 (.mem N::T))→J [] W:=by
  intro N way' ov' W hle hw' h1 h2 h3 ho;refine hJ _ _ fun _=>?_;simp only[S_inflate_flate_block_0];exact k1 h1 h2 h3 N way' ov' W hle hw' ho
 refine c_ibits (n:=2) 0 1 ho rfl rfl (.inr rfl) e1 (by omega) hs (fun e2 W2 ho=>?_) (fun e2 W2 ho=>?_)
 rotate_left
 ·rw[if_pos e2] at hX;subst hX;exact k2 (by dsimp only;decide) M _ _ _ _ _ M.le_refl ho
 rw[if_neg (by omega)] at hX;have ho:OwnS S w0 W2 (Fs fb rb s most ov 1 (p+1+2) out (.mem M::T)):=ho
 try simp only[rs]
 by_cases hk0:Fl.num s (p+1) 2=0
 ·simp only[show decide ((Fl.num s (p+1) 2:Int)=0)=true from decide_eq_true (by omega),i_t];rw[if_pos hk0] at hX;refine c_stored ho (.inr rfl) e2 hs hmo hol (fun h1 h2 h3 way' ov' W hw' ho=>?_) (fun h1 ov' way' p' out' W ho=>?_)
  ·rw[hX] at h1 h2 h3 ho;exact fin M way' ov' W M.le_refl hw' h1 h2 h3 ho
  ·rw[hX] at h1 ⊢;exact k2 h1 M _ _ _ _ _ M.le_refl ho
 simp only[show decide ((Fl.num s (p+1) 2:Int)=0)=false from decide_eq_false (by omega),i_f];rw[if_neg hk0] at hX
 try simp only[rs]
 by_cases hk1:Fl.num s (p+1) 2=1
 ·simp only[show decide ((Fl.num s (p+1) 2:Int)=1)=true from decide_eq_true (by omega),i_t];rw[if_pos hk1] at hX;refine c_fixed ho (.inr rfl) e2 hs hmo hol (fun h1 h2 h3 N way' ov' W hle hw' ho=>?_) (fun h1 N ov' way' p' out' W hle ho=>?_)
  ·rw[hX] at h1 h2 h3 ho;exact fin N way' ov' W hle hw' h1 h2 h3 ho
  ·rw[hX] at h1 ⊢;exact k2 h1 N _ _ _ _ _ hle ho
 simp only[show decide ((Fl.num s (p+1) 2:Int)=1)=false from decide_eq_false (by omega),i_f];rw[if_neg hk1] at hX
 try simp only[rs]
 by_cases hk2:Fl.num s (p+1) 2=2
 ·simp only[show decide ((Fl.num s (p+1) 2:Int)=2)=true from decide_eq_true (by omega),i_t];rw[if_pos hk2] at hX;refine c_dynamic ho hrp hod (.inr rfl) e2 hs hmo hol (fun h1 h2 h3 N way' ov' W hle hw' ho=>?_) (fun h1 N ov' way' p' out' W hle ho=>?_)
  ·rw[hX] at h1 h2 h3 ho;exact fin N way' ov' W hle hw' h1 h2 h3 ho
  ·rw[hX] at h1 ⊢;exact k2 h1 N _ _ _ _ _ hle ho
 simp only[show decide ((Fl.num s (p+1) 2:Int)=2)=false from decide_eq_false (by omega),i_f];rw[if_neg hk2] at hX;subst hX;exact c_ineed (fun h=>absurd h (by decide)) fun _=>k2 (by dsimp only;decide) M _ _ _ _ _ M.le_refl ho
end
end
section
open Eng
def S_inflate_All_p0 (x0:Deferred)(x1:Value)(x2:Value)(x3:Value)(K:Ending→World→Prop):=pd prog [.cell x1 9,.cell x2 3,.cell x3 30] K [x0]
def S_inflate_All_0(t4 t5 t6 t7 d1 w)(N2:JT)(K:KT):=
 CallX prog 274 #[t7] w (S_inflate_All_p0 d1 t4 t5 t6 K) fun t19 w=>DoX prog (mUn .not t19) w (S_inflate_All_p0 d1 t4 t5 t6 K) fun t20 w=>IfX t20 (AtX [d1] [d1] (N2 [] w)) (QuietX w (fun C3=>QDo prog C3 (mNil t7) fun t22=>QDo prog C3 (mFA 278 t22 1) fun t23=>QDo prog C3 (mLoad 53 t23) fun t24=>QDo prog C3 (mConv 53 9 t24) fun t25=>QDo prog C3 (mNil t7) fun t27=>QDo prog C3 (mFA 278 t27 0) fun t28=>QDo prog C3 (mLoad 275 t28) fun t29=>QCall prog C3 275 #[t29] fun t30=>
 ∀w,C3 w →
 DoX prog (mStore 9 t4 t25) w (S_inflate_All_p0 d1 t4 t5 t6 K) fun _ w=>DoX prog (mStore 3 t5 t30) w (S_inflate_All_p0 d1 t4 t5 t6 K) fun _ w=>DoX prog (mStore 30 t6 (iN 0)) w (S_inflate_All_p0 d1 t4 t5 t6 K) fun _ w=>Leave prog [.cell t4 9,.cell t5 3,.cell t6 30] K [d1] .returning w))
def S_inflate_All(t0 t1 w)(K:KT):=
 dx (mAlloc 9) w K fun t4 w=>dx (mAlloc 3) w K fun t5 w=>dx (mAlloc 30) w K fun t6 w=>dx (mFunc (.func 271) #[] #[t4,t5,t6]) w K fun t8 w=>DfrX (dfrV t8 #[]) (fun d1=>DoX prog (mBin .geq 3 t1 (iN 0)) w (S_inflate_All_p0 d1 t4 t5 t6 K) fun t10 w=>CallX prog 272 #[t10,(iN 1)] w (S_inflate_All_p0 d1 t4 t5 t6 K) fun t11 w=>CallX prog 273 #[t0] w (S_inflate_All_p0 d1 t4 t5 t6 K) fun t13 w=>DoX prog (mB .min #[3,3] 3 #[false,true] #[t1,(iN 1048576)]) w (S_inflate_All_p0 d1 t4 t5 t6 K) fun t15 w=>DoX prog (mBuild 278 #[(0,t13),(2,t15)]) w (S_inflate_All_p0 d1 t4 t5 t6 K) fun t16 w=>DoX prog (mBox 278 t16) w (S_inflate_All_p0 d1 t4 t5 t6 K) fun t17 w=>LoopX [] w (fun vs2 w N2=>∀_:Sg,S_inflate_All_0 t4 t5 t6 t17 d1 w N2 K))
theorem S_inflate_All_eq (t0 t1:Value)(w:World)(K:Ending→World→Prop):wpX prog 31 [] [(4,[])] none (bodyOf Tryz.f239) (topQ prog [.cell 4 9,.cell 5 3,.cell 6 30] K) (startX [t0,t1]) [] w=S_inflate_All t0 t1 w K:=by kernel_rfl
theorem S_inflate_All_ok {t0 t1:Value}{w:World}{K:Ending→World→Prop}(h:S_inflate_All t0 t1 w K):Calls prog 239 #[t0,t1] w K:=
 calls_of_wpX Tryz.func239 rfl rfl rfl rfl (Eq.mpr (S_inflate_All_eq t0 t1 w K) h)
end
section
open Eng
def S_inflate_All_1_0(w)(K:KT):=
 K (.returned (.tuple #[])) w
def S_inflate_All_1(t0 t1 t2 r w)(K:KT):=
 dx (mEq .eql 20 (.tmp 6) (.const .nilIface) r .nilIface) w K fun t8 w=>IfX t8 (K (.returned (.tuple #[])) w) (dx (mTA r 20 273 true) w K fun t9 w=>dx (mExt t9 1) w K fun t10 w=>dx (mExt t9 0) w K fun t11 w=>IfX t10 (dx (mAlloc 273) w K fun t4 w=>dx (mStore 273 t4 t11) w K fun _ w=>DrawX w (fun w=>(dx (mFA 273 t4 0) w K fun t12 w=>(dx (mLoad 30 t12) w K fun t13 w=>dx (mStore 9 t0 (.string ⟨#[]⟩)) w K fun _ w=>dx (mStore 3 t1 (iN 0)) w K fun _ w=>dx (mStore 30 t2 t13) w K fun _ w=>S_inflate_All_1_0 w K)∧(dx (mStore 9 t0 (.string ⟨#[]⟩)) w K fun _ w=>(dx (mLoad 30 t12) w K fun t13_1 w=>dx (mStore 3 t1 (iN 0)) w K fun _ w=>dx (mStore 30 t2 t13_1) w K fun _ w=>S_inflate_All_1_0 w K)∧(dx (mStore 3 t1 (iN 0)) w K fun _ w=>dx (mLoad 30 t12) w K fun t13_2 w=>dx (mStore 30 t2 t13_2) w K fun _ w=>S_inflate_All_1_0 w K)))∧(dx (mStore 9 t0 (.string ⟨#[]⟩)) w K fun _ w=>(dx (mFA 273 t4 0) w K fun t12_1 w=>(dx (mLoad 30 t12_1) w K fun t13_3 w=>dx (mStore 3 t1 (iN 0)) w K fun _ w=>dx (mStore 30 t2 t13_3) w K fun _ w=>S_inflate_All_1_0 w K)∧(dx (mStore 3 t1 (iN 0)) w K fun _ w=>dx (mLoad 30 t12_1) w K fun t13_4 w=>dx (mStore 30 t2 t13_4) w K fun _ w=>S_inflate_All_1_0 w K))∧(dx (mStore 3 t1 (iN 0)) w K fun _ w=>dx (mFA 273 t4 0) w K fun t12_2 w=>dx (mLoad 30 t12_2) w K fun t13_5 w=>dx (mStore 30 t2 t13_5) w K fun _ w=>S_inflate_All_1_0 w K)))) (dx (mPanic r) w K fun _ w=>K (.returned (.tuple #[])) w))
theorem S_inflate_All_1_eq (t0 t1 t2 r:Value)(w:World)(K:Ending→World→Prop):wpX prog 14 [] [] none (sndOf (bodyOf Tryz.f271)) (topD prog [] K) (upd (startX [t0,t1,t2]) 6 r) [] w=S_inflate_All_1 t0 t1 t2 r w K:=by kernel_rfl
theorem S_inflate_All_1_dok {t0 t1 t2:Value}{u:FrameMode}{w:World}{R:Ending→FrameMode→World→Prop}(h:S_inflate_All_1 t0 t1 t2 (recV u) w (fun e w=>R e (recM u) w)):CallsD prog 271 #[t0,t1,t2] u w R:=
 callsD_recover Tryz.func271 rfl rfl rfl rfl rfl rfl rfl rfl (Eq.mpr (S_inflate_All_1_eq t0 t1 t2 (recV u) w _) h)
end
section
open Eng Go.RowKit
theorem Fl.codedG_adv (near far:List Nat)(s:List UInt8)(most:Nat):∀(f p:Nat) (out:List UInt8),(Fl.codedG near far s most f p out).2.2=0→p≤(Fl.codedG near far s most f p out).2.1
|0,_,_,h=>by simp[Fl.codedG] at h
|f+1,p,out,h=>by
  unfold Fl.codedG at h ⊢;dsimp only at h ⊢;split
  ·exact Nat.le_refl _
  rename_i h1;rw[if_neg h1] at h
  have:=Fl.sign_adv (Decidable.not_not.1 h1);split
  ·rename_i h2;rw[if_pos h2] at h
   split
   ·exact Nat.le_refl _
   rename_i h3;rw[if_neg h3] at h
   have:=Fl.codedG_adv near far s most f _ _ h;omega
  rename_i h2;rw[if_neg h2] at h
  split
  ·dsimp only;omega
  rename_i h3;rw[if_neg h3] at h
  split
  ·exact Nat.le_refl _
  rename_i h4;rw[if_neg h4] at h
  have h5:=Fl.copied_adv (Decidable.not_not.1 h4);have:=Fl.codedG_adv near far s most f _ _ h;omega
theorem Fl.lensG_adv (cl:List Nat)(s:List UInt8)(n:Nat):∀(f p:Nat) (l:List Nat),(Fl.lensG cl s n f p l).2.2=0→p≤(Fl.lensG cl s n f p l).2.1
|0,_,_,h=>by simp[Fl.lensG] at h
|f+1,p,l,h=>by
  unfold Fl.lensG at h ⊢;dsimp only at h ⊢;split
  ·exact Nat.le_refl _
  rename_i h0;rw[if_neg h0] at h
  split
  ·exact Nat.le_refl _
  rename_i h1;rw[if_neg h1] at h
  have:=Fl.sign_adv (Decidable.not_not.1 h1);split
  ·rename_i h2;rw[if_pos h2] at h
   have:=Fl.lensG_adv cl s n f _ _ h;omega
  rename_i h2;rw[if_neg h2] at h
  split
  ·exact Nat.le_refl _
  rename_i h3;rw[if_neg h3] at h
  split
  ·exact Nat.le_refl _
  rename_i h4;rw[if_neg h4] at h
  split
  ·exact Nat.le_refl _
  rename_i h5;rw[if_neg h5] at h
  have:=Fl.lensG_adv cl s n f _ _ h;omega
theorem Fl.stored_adv {s:List UInt8}{most p:Nat}{out:List UInt8}(h:(Fl.stored s most p out).2.2=0):p≤(Fl.stored s most p out).2.1:=by
 unfold Fl.stored at h ⊢;dsimp only at h ⊢
 repeat' split
 all_goals first|exact Nat.le_refl _|(dsimp only;omega)
theorem Fl.dyn_adv {s:List UInt8}{most p:Nat}{out:List UInt8}(h:(Fl.dyn s most p out).2.2=0):p≤(Fl.dyn s most p out).2.1:=by
 unfold Fl.dyn at h ⊢;by_cases h1:8*s.length < p+5
 ·rw[if_pos h1];exact Nat.le_refl _
 rw[if_neg h1] at h ⊢;by_cases h2:29 < Fl.num s p 5
 ·rw[if_pos h2];exact Nat.le_refl _
 rw[if_neg h2] at h ⊢;by_cases h3:8*s.length < p+10
 ·rw[if_pos h3];exact Nat.le_refl _
 rw[if_neg h3] at h ⊢;by_cases h4:29 < Fl.num s (p+5) 5
 ·rw[if_pos h4];exact Nat.le_refl _
 rw[if_neg h4] at h ⊢;by_cases h5:8*s.length < p+14
 ·rw[if_pos h5];exact Nat.le_refl _
 rw[if_neg h5] at h ⊢;by_cases h6:8*s.length < p+14+3*(Fl.num s (p+10) 4+4)
 ·rw[if_pos h6];exact Nat.le_refl _
 rw[if_neg h6] at h ⊢;have hq:p≤p+14+3*(Fl.num s (p+10) 4+4):=by omega
 generalize p+14+3*(Fl.num s (p+10) 4+4)=q at h hq ⊢;generalize Fl.clG s (p+14) (Fl.num s (p+10) 4+4)=cl at h ⊢;generalize Fl.num s p 5+257=hl at h ⊢;generalize hl+(Fl.num s (p+5) 5+1)=n at h ⊢;have hadv:(Fl.lens cl s n q).2.2=0→q≤(Fl.lens cl s n q).2.1:=Fl.lensG_adv cl s n _ _ _;dsimp only at h ⊢;generalize Fl.lens cl s n q=r at h hadv ⊢;obtain⟨l,q2,e⟩:=r;dsimp only at h hadv ⊢;by_cases h7:Fl.chk cl≠0
 ·rw[if_pos h7];exact Nat.le_refl _
 rw[if_neg h7] at h ⊢;by_cases h8:e≠0
 ·rw[if_pos h8];exact Nat.le_refl _
 rw[if_neg h8] at h ⊢;by_cases h9:l.getD 256 0=0
 ·rw[if_pos h9];exact Nat.le_refl _
 rw[if_neg h9] at h ⊢;by_cases h10:Fl.chk (l.take hl)≠0
 ·rw[if_pos h10];exact Nat.le_refl _
 rw[if_neg h10] at h ⊢;by_cases h11:Fl.chk (l.drop hl)≠0
 ·rw[if_pos h11];exact Nat.le_refl _
 rw[if_neg h11] at h ⊢;have h12:q2≤(Fl.coded (l.take hl) (l.drop hl) s most q2 out).2.1:=Fl.codedG_adv _ _ _ _ _ _ _ h;have:=hadv (Decidable.not_not.1 h8);omega
theorem Fl.block_adv {s:List UInt8}{most p:Nat}{out:List UInt8}(h:(Fl.block s most p out).2.2=0):p≤(Fl.block s most p out).2.1:=by
 unfold Fl.block at h ⊢;split
 ·exact Nat.le_refl _
 rename_i h1;rw[if_neg h1] at h
 split
 ·rename_i h2;rw[if_pos h2] at h
  have:=Fl.stored_adv h;omega
 rename_i h2;rw[if_neg h2] at h
 split
 ·rename_i h3;rw[if_pos h3] at h
  have:=Fl.codedG_adv _ _ _ _ _ _ _ h;unfold Fl.coded;omega
 rename_i h3;rw[if_neg h3] at h
 split
 ·rename_i h4;rw[if_pos h4] at h
  have:=Fl.dyn_adv h;omega
 exact Nat.le_refl _
namespace Eng
section
variable {P:Program}{w:World}
theorem run_bytes {S D E:TypeId}{v:Value}{l:List UInt8}(hs:P.underlying S=some (.slice E))(he:P.underlying E=some (.int .u8))(hd:P.underlying D=some .string)(h:Sl w v 1 l.length (bytesV l)):(mConv S D v).run P w=.ok (.value (.string ⟨l.toArray⟩)) w:=by
 obtain⟨hl,a,cap,rfl,hn,hc⟩:=h;cases a with
|none=>
  have h0:=hn rfl;have:l=[]:=List.eq_nil_of_length_eq_zero h0;subst this;exact mv_run (run_convert_bytes_nil w S E hs he _ _ D hd)
|some p=>
  obtain⟨hsp,hcell⟩:=hc p rfl;by_cases h0:l=[]
  ·subst h0;refine mv_run ?_;have hl0:(loadCells p 0).run P w=.ok (([]:List Int).map (Value.int .u8)).toArray w:=rfl;rw[show ([]:List UInt8).length=0 from rfl,run_convert_bytes_string w S D E _ 0 cap hs he hd,run_bytesToString w p 0 cap [] hl0];rfl
  replace hsp:=hsp (List.length_pos_iff.2 h0)
  obtain⟨b,off,spot⟩:=p;simp only at hsp hcell;subst hsp;have:=run_convert_bytes_arg (P:=P) w S E hs he b off l.length cap (l.map fun c=>(c.toNat:Int)) (by simp) (fun i hi=>by
   refine hcell i _ ?_;simp[bytesV,List.getElem?_eq_getElem hi]) D hd
  refine mv_run ?_;rw[this];have e:strOfNums (l.map fun c=>(c.toNat:Int))=⟨l.toArray⟩:=by
   unfold strOfNums;rw[List.map_map]
   congr 2
   conv=>rhs;rw[←List.map_id l]
   refine List.map_congr_left fun c _=>?_;simp
  rw[e]
end
end Eng
def Fl.allG (s:List UInt8)(most:Nat):Nat→Nat→List UInt8→List UInt8×Nat×Int
|0,_,_=>([],0,13)
|f+1,p,out=>
  if 8*s.length < p+1 then ([],0,4)
  else
   let r:=Fl.block s most (p+1) out
   if r.2.2≠0 then ([],0,r.2.2)
   else if Fl.num s p 1=1 then (r.1,(r.2.1+7) / 8,0)
   else Fl.allG s most f r.2.1 r.1
def Fl.all (s:List UInt8)(most:Int):List UInt8×Nat×Int:=if most < 0 then ([],0,1) else Fl.allG s (min most.toNat 1048576) (8*s.length+1) 0 []
def flT (x:List UInt8×Nat×Int):Value:=.tuple #[.string ⟨x.1.toArray⟩,.int .i64 (x.2.1:Int),.int .i64 x.2.2]
abbrev stE16 (b:Nat)(l:List UInt8):Ent:=.cells b [.string ⟨l.toArray⟩] 9
abbrev inE16 (b:Nat)(n:Int):Ent:=.cells b [.int .i64 n] 3
abbrev erE16 (b:Nat)(e:Int):Ent:=.cells b [.int .i64 e] 30
theorem all1_plain:plainB prog 271=true:=by kernel_rfl
theorem nfUp:notIface prog 273=true:=by kernel_rfl
theorem fo_up:fOff prog 273 0=some 0:=by kernel_rfl
theorem szUp:(Tryz.prog.info? 273).map (·.size)=some 1:=by kernel_rfl
section
variable {w:World}{PK:PKT}{K:VWP}{S:Nat→Prop}{w0:World}{L:List Ent}
theorem c_bfrom16 (s:List UInt8)(ho:OwnS S w0 w L)(k:∀b w',OwnS S w0 w' (bqE b s 0 0::L)→K (.pointer (some ⟨b,0,none⟩)) w'):CallX prog 273 #[.string ⟨s.toArray⟩] w PK K:=by
 refine c_any (S_bit_From_ok (K:=RetK fun v W=>∃b,v=.pointer (some ⟨b,0,none⟩)∧OwnS S w0 W (bqE b s 0 0::L)) ?_) (fun e W ⟨v,he,b,hv,ho⟩=>by subst he;subst hv;exact k b W ho);unfold S_bit_From dx;have e:∀W:World,(mBuild 317 #[(1,.string ⟨s.toArray⟩)]).run prog W=.ok (.value (.agg (bqC s 0 0).toArray)) W:=fun W=>by kernel_rfl
 refine do_eq (e w) |>.mpr ?_;exact o_new (fun b=>.pointer (some ⟨b,0,none⟩)) (bqC s 0 0) 317 (fun _=>by kernel_rfl) ho fun b w' ho=>retK ⟨b,rfl,ho⟩
end
theorem iall_ret (s:List UInt8)(most:Int)(M:Mem)(w:World)(hrp:Rp M)(hod:Od M)(hs:s.length≤1000000000)(hM:M.has w) :
  RetM prog 239 #[.string ⟨s.toArray⟩,.int .i64 most] M w (fun v _=>v=flT (Fl.all s most)∧(Fl.all s most).2.1≤s.length∧(Fl.all s most).1.length≤1048576):=by
 refine retM_of hM fun K hK=>S_inflate_All_ok ?_;generalize hX:Fl.all s most=X at hK;unfold Fl.all at hX;unfold S_inflate_All iN dx;refine o_new (fun b=>.pointer (some ⟨b,0,none⟩)) [.string ⟨#[]⟩] 9 (fun _=>by kernel_rfl) (OwnS.memS hM) fun b4 w1 ho=>?_;refine o_new (fun b=>.pointer (some ⟨b,0,none⟩)) [.int .i64 0] 3 (fun _=>by kernel_rfl) ho fun b5 w2 ho=>?_;refine o_new (fun b=>.pointer (some ⟨b,0,none⟩)) [.int .i64 0] 30 (fun _=>by kernel_rfl) ho fun b6 w3 ho=>?_;have ho:OwnS M.A w w3 ([erE16 b6 0,inE16 b5 0,stE16 b4 []]++([.mem M]++[])):=ho;have ho:=ho.front;rw[m_func];refine⟨_,rfl,?_⟩;have fail:∀{W:World} {L:List Ent} {e:Int} {N:Mem},OwnS M.A w W (L++([.mem N,erE16 b6 0,inE16 b5 0,stE16 b4 []]++[]))→M.le N→X=([],0,e) →
   S_inflate_All_p0 { target:=.fn (.func 271) #[.pointer (some ⟨b4,0,none⟩),.pointer (some ⟨b5,0,none⟩),.pointer (some ⟨b6,0,none⟩)],args:=#[]++#[] } (.pointer (some ⟨b4,0,none⟩)) (.pointer (some ⟨b5,0,none⟩)) (.pointer (some ⟨b6,0,none⟩)) K [upI e] W:=by
  intro W L e N ho hle hx;have ho:=ho.front;have ho:OwnS M.A w W (.mem N::erE16 b6 0::inE16 b5 0::stE16 b4 []::(L++[])):=ho;show pd prog _ K _ [upI e] W;unfold pd;refine leave_fn (by simp) all1_plain (S_inflate_All_1_dok (t0:=.pointer (some ⟨b4,0,none⟩)) (t1:=.pointer (some ⟨b5,0,none⟩)) (t2:=.pointer (some ⟨b6,0,none⟩)) ?_);simp only[S_inflate_All_1,recV,recM,upI,Eng.e_some Tryz.underlying20,rs,t_hit nfUp,ex,i_t,i_f,iN,dx];refine o_new (fun b=>.pointer (some ⟨b,0,none⟩)) [.int .i64 0] 273 (fun _=>by kernel_rfl) ho fun b7 w5 ho=>?_;refine o_put 0 ho rfl (new:=[.int .i64 e]) szUp (fun u hu=>by rw[List.mem_singleton.1 hu];rfl) rfl fun w6 ho=>?_;refine⟨?_⟩;have ho:=ho.drew
  repeat' first
  |apply And.intro
  |refine do_eq (run_fa fo_up) |>.mpr ?_
  |refine do_eq (run_load_cell nErr5 (ho.cell 0 rfl 0 rfl)) |>.mpr ?_
  |refine o_store 4 ho rfl (by kernel_rfl) rfl (by simp) (fun _ ho=>?_)
  |refine o_store 3 ho rfl (by kernel_rfl) rfl (by simp) (fun _ ho=>?_)
  |refine o_store 2 ho rfl (by kernel_rfl) rfl (by simp) (fun _ ho=>?_)
  all_goals
   unfold S_inflate_All_1_0;refine ret_v3 (rv_cell (AtV.cell nStrR (ho.cell 4 rfl 0 rfl))) (rv_cell (AtV.cell nInt5 (ho.cell 3 rfl 0 rfl))) (rv_cell (AtV.cell nErr5 (ho.cell 2 rfl 0 rfl))) (hK _ _ N _ 1 ho rfl hle ⟨by rw[hx];rfl,by rw[hx];exact Nat.zero_le _,by rw[hx];exact Nat.zero_le _⟩)
 try simp only[rs]
 refine c_ineed (fun h1=>?_) (fun h1=>?_)
 rotate_left
 ·have:=of_decide_eq_false h1;rw[if_pos (by omega)] at hX;exact fail (L:=[]) ho M.le_refl hX.symm
 have h1:=of_decide_eq_true h1;rw[if_neg (by omega)] at hX;refine c_bfrom16 s ho fun rb w4 ho=>?_;rw[m_min,show min most 1048576=((min most.toNat 1048576:Nat):Int) by omega];have hm1:min most.toNat 1048576≤1048576:=Nat.min_le_right _ _;generalize min most.toNat 1048576=mo at hX hm1;have e:∀W:World,(mBuild 278 #[(0,.pointer (some ⟨rb,0,none⟩)),(2,.int .i64 (mo:Int))]).run prog W=.ok (.value (.agg (flC rb nilS (mo:Int)).toArray)) W:=fun W=>by kernel_rfl
 refine do_eq (e w4) |>.mpr ?_;refine o_new (fun b=>.pointer (some ⟨b,0,none⟩)) (flC rb nilS (mo:Int)) 278 (fun _=>by kernel_rfl) ho fun fb w5 ho=>?_;have ho:=OwnS.nilU ho 5 1;have ho:OwnS M.A w w5 ([outR nilS []]++([flE fb rb nilS (mo:Int),bqE rb s 0 0]++[.mem M,erE16 b6 0,inE16 b5 0,stE16 b4 []])):=ho;have ho:OwnS M.A w w5 (Fs fb rb s mo nilS 0 0 [] (.mem M::[erE16 b6 0,inE16 b5 0,stE16 b4 []])):=(OwnS.front ho).perm (List.Perm.refl _);refine loop (fun vs W=>∃(p:Nat) (way:Int) (ov:Value) (out:List UInt8) (N:Mem),vs=[]∧(way=0∨way=1)∧p≤8*s.length∧out.length≤mo∧M.le N∧(∃f,8*s.length+1 - p≤f∧Fl.allG s mo f p out=X)∧OwnS M.A w W (Fs fb rb s mo ov way p out (.mem N::[erE16 b6 0,inE16 b5 0,stE16 b4 []]))) (fun _ w=>8*s.length+1 - bqAt rb w) ⟨0,0,nilS,[],M,rfl,.inl rfl,by omega,by simp,M.le_refl,⟨_,by omega,hX⟩,ho⟩ ?_;clear ho hX;rintro vs w6 ⟨p,way,ov,out,N,rfl,hw,hp,hol,hle,⟨f,hf,hX⟩,ho⟩ _;have hat:bqAt rb w6=p:=bqAt_is (ho.at_ 1 rfl);simp only[S_inflate_All_0,iN];obtain⟨f,rfl⟩:∃f',f=f'+1:=⟨f - 1,by omega⟩;rw[Fl.allG] at hX;dsimp only at hX;have hadv:=@Fl.block_adv s mo (p+1) out;refine c_block ho (hrp.le hle) (hod.le hle) hw hp hs (by omega) hol (fun e1 N2 ov' way' p' out' W hle2 ho=>?_) (fun e1 e2 e3 e4 N2 way' ov' W hle2 hw' ho=>?_) (fun e1 e2 N2 ov' way' p' out' W hle2 ho=>?_)
 ·rw[if_pos e1] at hX;exact fail (L:=[flE fb rb ov' (mo:Int),bqE rb s way' p',outR ov' out']) ho (hle.trans hle2) hX.symm
 rotate_left
 ·rw[if_neg (by omega),if_pos e2] at hX;exact fail (L:=[flE fb rb ov' (mo:Int),bqE rb s way' p',outR ov' out']) ho (hle.trans hle2) hX.symm
 rw[if_neg (by omega),if_neg (by rw[e2];decide)] at hX;have hadv:=hadv e2;generalize Fl.block s mo (p+1) out=B at hX ho e2 e3 e4 hadv
 try simp only[rs]
 by_cases hl:Fl.num s p 1=1
 case neg=>
  rw[if_neg hl] at hX;simp only[hl,decide_false,Bool.not_false,i_t];have hat2:bqAt rb W=B.2.1:=bqAt_is (ho.at_ 1 rfl);refine⟨rfl,?_⟩;refine nextX ⟨B.2.1,way',ov',B.1,N2,rfl,hw',e3,e4,hle.trans hle2,⟨f,by omega,hX⟩,ho⟩ (by show 8*s.length+1 - bqAt rb W < 8*s.length+1 - bqAt rb w6;rw[hat,hat2];omega)
 rw[if_pos hl] at hX;simp only[hl,decide_true,Bool.not_true,i_f];refine quietC (fun W=>OwnS M.A w W (Fs fb rb s mo ov' way' B.2.1 B.1 (.mem N2::[erE16 b6 0,inE16 b5 0,stE16 b4 []]))) ho.drew ?_;refine q_do _ (fun _=>run_nil) (q_do _ (fun _=>run_fa fo_fl1) (q_at _ (fun W h=>run_out (h.at_ 0 rfl)) ?_));refine q_at (.string ⟨B.1.toArray⟩) (fun W h=>run_bytes Tryz.underlying53 Tryz.underlying5 Tryz.underlying9 (out_sl (h.at_ 2 rfl))) ?_;refine q_do _ (fun _=>run_nil) (q_do _ (fun _=>run_fa fo_fl0) (q_at _ (fun W h=>run_flrd (h.at_ 0 rfl)) ?_));refine q_call (.int .i64 (((B.2.1+7) / 8:Nat):Int)) (fun W h=>(bat_ret (h.at_ 1 rfl) e3 hs).mono fun v w' ⟨h1,h2⟩=>⟨h1,h.grow h2⟩) ?_;intro w7 ho;refine o_store 6 ho rfl (by kernel_rfl) rfl (by simp) fun w8 ho=>?_;refine o_store 5 ho rfl (by kernel_rfl) rfl (by simp) fun w9 ho=>?_;refine o_store 4 ho rfl (by kernel_rfl) rfl (by simp) fun w10 ho=>?_;refine leave_fn (by simp) all1_plain (S_inflate_All_1_dok (t0:=.pointer (some ⟨b4,0,none⟩)) (t1:=.pointer (some ⟨b5,0,none⟩)) (t2:=.pointer (some ⟨b6,0,none⟩)) ?_);simp only[S_inflate_All_1,recV,recM,Eng.e_nil Tryz.underlying20,rs,i_t,i_f,iN,dx];refine ret_v3 (rv_cell (AtV.cell nStrR (ho.cell 6 rfl 0 rfl))) (rv_cell (AtV.cell nInt5 (ho.cell 5 rfl 0 rfl))) (rv_cell (AtV.cell nErr5 (ho.cell 4 rfl 0 rfl))) (hK _ _ N2 _ 3 ho rfl (hle.trans hle2) ⟨by rw[←hX];rfl,by rw[←hX];dsimp only;omega,by rw[←hX];dsimp only;omega⟩)
end
end Go.Proofs.YtlipjfcbjemicaaGreatDoor
