/- Texts that go together: FeE FeF FeG FeH Plain08S SStrm SDrop5 StrmA FeI FeJ FeK SLaw16 FeL FeM FeO LayR FeN. -/
import Derived.Test.YtlipjfcbjemicaaGreatDoorRows
import Derived.Test.YtlipjfcbjemicaaGreatDoorMmaflihpg
import Derived.Test.YtlipjfcbjemicaaGreatDoorMkdodoemo
import Derived.Test.YtlipjfcbjemicaaGreatDoorMikgnniin
import Derived.Test.YtlipjfcbjemicaaGreatDoorMbdjagian
import Derived.Test.YtlipjfcbjemicaaGreatDoorMcjgofdhk
import Derived.Test.YtlipjfcbjemicaaGreatDoorMpfccfgmk
set_option linter.defProp false
set_option linter.unusedSimpArgs false
set_option linter.unusedVariables false
set_option maxRecDepth 20000
open Go.Proofs.Tryz (prog)
namespace Go.Proofs.YtlipjfcbjemicaaGreatDoor
section
open Eng Go.RowKit
theorem rnames16_ret (o:Ob)(v:Value)(M:Mem)(w:World)(hw:o.wt≤1000000000)(hM:M.has w)(hv:OV M.A M.w v o) :
  RetM prog 110 #[v] M w (fun r N=>∃vn,r=.tuple #[vn,.int .i64 (Ff.names o).2]∧SlA N.A N.w vn 1 (Ff.names o).1.length (strsV (Ff.names o).1)):=by
 obtain⟨vk,vc,ocs,rfl,ha⟩:=hv.open;refine retM_of hM fun K hK=>S_foliantref16_names_ok ?_;have hfl:=Ff.filt_len hw;generalize hX:Ff.names o=X at hK;unfold Ff.names at hX;generalize hF:Ff.filt o=F at hX hfl;unfold Ff.filt at hF;unfold S_foliantref16_names iN dx cx;refine o_obb o ha.keys.one ha.kids.one (OwnS.memS hM) fun b1 w1 ho=>?_;rw[ob_v ho 0 rfl];refine c_mem ho 1 rfl (rget_ret o _ Ff.kFilter M w1 (by omega) (ho.hasM 1 rfl) hv) ?_;rintro _ N w2 hle ⟨x,rfl,hx⟩ ho;obtain⟨xk,xc,rfl,hx⟩:=getD_ov hx;simp only[getV,ex];refine o_oba ho fun b3 w3 ho=>?_;refine ob_put 0 hx.oneK hx.oneC ho rfl fun w4 ho=>?_;have ho:OwnS M.A w w4 [obE b3 ((Vl.get o Ff.kFilter).getD Vl.ob0) xk xc,obE b1 o vk vc,.mem N]:=ho;rw[fa_o5,ob_kids ho 0 rfl];have bad:∀{W:World} {N':Mem} {L:List Ent} {e:Int} (i:Nat),OwnS M.A w W L→L[i]?=some (.mem N')→M.le N'→X=([],e)→K (.returned (.tuple #[nilS,.int .i64 e])) W:=fun i ho hi hle hx=>
  hK _ _ _ _ i ho hi hle ⟨nilS,by rw[hx],by rw[hx];exact SlA.nil _ _ _ _⟩
 have main:∀(N':Mem) (vl:Value) (cs:List Value) (W:World) (L:List Ent),M.le N'→LsAt N' vl F cs→OwnS M.A w W (.mem N'::L)→S_foliantref16_names_0 vl W K:=by
  intro N' vl cs W L hle' hls ho;simp only[S_foliantref16_names_0,iN];refine loop (fun vs W=>∃i:Nat,vs=[.int .i64 (i:Int)]∧i≤F.length∧(∀x∈F.take i,x.k=5)∧OwnS M.A w W (.mem N'::L)) (fun vs _=>F.length - n0 vs) ⟨0,rfl,by omega,by simp,ho⟩ ?_;clear ho;rintro vs w6 ⟨i,rfl,hi,h5,ho⟩ _;simp only[S_foliantref16_names_1,gd,iN,dx];rw[ls_len hls];simp only[rs];by_cases hlt:(i:Int) < (F.length:Int)
  ·simp only[hlt,decide_true,i_t];have hi':i < F.length:=by omega
   obtain⟨b,off,yk,yc,hia,hov,hcell⟩:=kidsF hls.sl hls.all hi';have hc0:=hcell w6 (ho.hasM 0 rfl) 0 _ rfl;rw[Nat.add_zero] at hc0;rw[do_eq (hia w6),fa_o0,l_cell nInt5 hc0];simp only[rs];by_cases hk:F[i].k=5
   ·simp only[decide_eq_false (show ¬F[i].k≠5 from fun h=>h hk),i_f];rw[wrap64_id (by omega) (by omega)];refine nextX ⟨i+1,rfl,by omega,?_,ho⟩ (by simp[n0,RowKit.intOf];omega);rw[List.take_succ_eq_append_getElem hi'];intro x hx;rcases List.mem_append.1 hx with hx|hx
    ·exact h5 x hx
    ·rw[List.mem_singleton.1 hx];exact hk
   ·simp only[decide_eq_true (show F[i].k≠5 from hk),i_t];rw[if_pos (List.any_eq_true.2 ⟨_,List.getElem_mem hi',decide_eq_true hk⟩)] at hX;exact bad 0 ho rfl hle' hX.symm
  simp only[hlt,decide_false,i_f];have:i=F.length:=by omega
  subst this;rw[List.take_length] at h5;rw[if_neg (fun h=>by
   obtain⟨x,hx,h⟩:=List.any_eq_true.1 h;exact (of_decide_eq_true h) (h5 x hx))] at hX
  rw[ls_len hls];simp only[rs];by_cases h8:8 < F.length
  ·rw[if_pos h8] at hX;simp only[show decide ((8:Int) < (F.length:Int))=true from decide_eq_true (by omega),i_t];exact bad 0 ho rfl hle' hX.symm
  rw[if_neg h8] at hX;simp only[show decide ((8:Int) < (F.length:Int))=false from decide_eq_false (by omega),i_f];have ho:=OwnS.nilU ho 9 1;refine loop (fun vs W=>∃(i:Nat) (ov:Value),vs=[ov,.int .i64 (i:Int)]∧i≤F.length∧(∀x∈F.take i,Ff.full x.s≠[])∧OwnS M.A w W (stsE ov ((F.take i).map fun x=>Ff.full x.s)::.mem N'::L)) (fun vs _=>F.length - n1 vs) ⟨0,nilS,rfl,by omega,by simp,ho⟩ ?_;clear ho;rintro vs w7 ⟨i,ov,rfl,hi,hf,ho⟩ _;simp only[S_foliantref16_names_2,gd,iN,dx,cx];rw[ls_len hls];simp only[rs];by_cases hlt:(i:Int) < (F.length:Int)
  ·simp only[hlt,decide_true,i_t];have hi':i < F.length:=by omega
   obtain⟨b,off,yk,yc,hia,hov,hcell⟩:=kidsF hls.sl hls.all hi';rw[do_eq (hia w7),fa_o3,l_cell nStr5 (hcell w7 (ho.hasM 1 rfl) 3 _ rfl)];refine c_eq (rknown16_ret F[i].s w7) ?_;simp only[rs];by_cases hk:Ff.full F[i].s=[]
   ·rw[if_pos (List.any_eq_true.2 ⟨_,List.getElem_mem hi',decide_eq_true hk⟩)] at hX;simp only[decide_eq_false (show ¬Ff.full F[i].s≠[] from fun h=>h hk),Bool.not_false,i_t];exact bad 1 ho rfl hle' hX.symm
   simp only[decide_eq_true (show Ff.full F[i].s≠[] from hk),Bool.not_true,i_f];rw[do_eq (hia w7),fa_o3,l_cell nStr5 (hcell w7 (ho.hasM 1 rfl) 3 _ rfl)];refine c_eq (rfull16_ret F[i].s w7) ?_;refine o_sts1 _ ho (by rw[List.length_map,List.length_take];omega) fun ov' W2 ho=>?_
   try simp only[rs]
   rw[wrap64_id (by omega) (by omega)];refine nextX ⟨i+1,ov',rfl,by omega,?_,?_⟩ (by simp[n1,RowKit.intOf];omega)
   ·rw[List.take_succ_eq_append_getElem hi'];intro x hx;rcases List.mem_append.1 hx with hx|hx
    ·exact hf x hx
    ·rw[List.mem_singleton.1 hx];exact hk
   ·rw[List.take_succ_eq_append_getElem hi',List.map_append];exact ho
  simp only[hlt,decide_false,i_f];have:i=F.length:=by omega
  subst this;rw[List.take_length] at hf ho;rw[if_neg (fun h=>by
   obtain⟨x,hx,h⟩:=List.any_eq_true.1 h;exact hf x hx (of_decide_eq_true h))] at hX
  obtain⟨N2,l2,hs2,ho⟩:=ho.freezeU 0 rfl;exact hK _ _ N2 _ 0 ho rfl (hle'.trans l2) ⟨ov,by rw[←hX],by rw[←hX];exact hs2⟩
 have fr:∀{W:World} {N':Mem} {a b:Ent},OwnS M.A w W [a,b,.mem N']→OwnS M.A w W [.mem N',a,b]:=fun {W N' a b} ho=>by
  have ho:OwnS M.A w W ([a,b]++([.mem N']++[])):=ho;exact ho.front
 cases hg:Vl.get o Ff.kFilter with
|none=>
  rw[hg] at hF;dsimp only at hF;subst hF;simp only[Option.isSome_none,rs,Bool.not_false,i_t];exact bad 2 ho rfl hle hX.symm
|some f=>
  rw[hg] at hF ho hx;dsimp only at hF;rw[Option.getD_some] at ho hx;simp only[Option.isSome_some,rs,Bool.not_true,i_f];refine join fun J hJ=>?_;rw[fa_o0,ob_k ho 0 rfl];simp only[rs];by_cases h5:f.k=5
  ·rw[if_neg (by omega)] at hF;subst hF;simp only[h5,decide_true,i_t];rw[ob_v ho 0 rfl];refine o_obs1 _ hx.oneK hx.oneC ho fun nb w5 ho=>?_;obtain⟨N2,l2,hs2,ha2,ho⟩:=one_mem ho 2 rfl hx;refine hJ _ _ fun _=>?_;exact main N2 _ _ w5 _ (hle.trans l2) ⟨hs2,ha2⟩ (fr ho)
  simp only[h5,decide_false,i_f];rw[fa_o0,ob_k ho 0 rfl];simp only[rs];by_cases h6:f.k=6
  ·rw[if_pos h6] at hF;subst hF;simp only[decide_eq_false (show ¬f.k≠6 from fun h=>h h6),i_f];obtain⟨cs,hls⟩:=ls_kids hx;refine hJ _ _ fun _=>?_;exact main N xc cs w4 _ hle hls (fr ho)
  ·rw[if_neg h6] at hF;subst hF;simp only[decide_eq_true (show f.k≠6 from h6),i_t];rw[if_pos (by simp[h5])] at hX;exact bad 2 ho rfl hle hX.symm
theorem rof_ret16 (o:Ob)(v:Value)(M:Mem)(w:World)(hw:o.wt≤1000000000)(hM:M.has w)(hv:OV M.A M.w v o) :
  RetM prog 53 #[v] M w (fun r N=>∃vn vp,r=.tuple #[vn,vp,.int .i64 (Ff.of o).2.2]∧SlA N.A N.w vn 1 (Ff.of o).1.length (strsV (Ff.of o).1)∧SlA N.A N.w vp 3 (Ff.of o).2.1.length ((Ff.of o).2.1.flatMap pmC)):=by
 obtain⟨vk,vc,ocs,rfl,ha⟩:=hv.open;refine retM_of hM fun K hK=>S_foliantref16_Of_ok ?_;generalize hX:Ff.of o=X at hK;unfold Ff.of at hX;unfold S_foliantref16_Of iN dx gtx cx;have bad:∀{W:World} {N':Mem} {L:List Ent} {e:Int} (i:Nat),OwnS M.A w W L→L[i]?=some (.mem N')→M.le N'→X=([],[],e)→K (.returned (.tuple #[nilS,nilS,.int .i64 e])) W:=fun i ho hi hle hx=>
  hK _ _ _ _ i ho hi hle ⟨nilS,nilS,by rw[hx],by rw[hx];exact SlA.nil _ _ _ _,by rw[hx];exact SlA.nil _ _ _ _⟩
 refine o_obb o ha.keys.one ha.kids.one (OwnS.memS hM) fun b1 w1 ho=>?_;rw[fa_o0,ob_k ho 0 rfl];simp only[rs];by_cases h9:o.k=9
 case neg=>
  rw[if_pos h9] at hX;simp only[decide_eq_true (show o.k≠9 from h9),i_t];exact bad 1 ho rfl M.le_refl hX.symm
 rw[if_neg (fun h=>h h9)] at hX;simp only[decide_eq_false (show ¬o.k≠9 from fun h=>h h9),i_f];rw[ob_v ho 0 rfl];have hnl:=@Ff.names_len o;refine c_mem ho 1 rfl (rnames16_ret o _ M w1 hw (ho.hasM 1 rfl) hv) ?_;rintro _ N w2 l1 ⟨vn,rfl,hn⟩ ho;generalize Ff.names o=Nn at hX hn hnl;obtain⟨ns,ne⟩:=Nn;dsimp only at hX hn hnl;simp only[ex,n_err];by_cases hne:ne=0
 case neg=>
  rw[if_pos hne] at hX;simp only[decide_eq_true (show ne≠0 from hne),i_t];exact bad 1 ho rfl l1 hX.symm
 rw[if_neg (fun h=>h hne)] at hX;simp only[decide_eq_false (show ¬ne≠0 from fun h=>h hne),i_f];rw[ob_v ho 0 rfl];refine c_mem ho 1 rfl (rget_ret o _ Ff.kParms N w2 (by omega) (ho.hasM 1 rfl) (hv.le l1)) ?_;rintro _ N2 w3 l2 ⟨x,rfl,hx⟩ ho;obtain⟨xk,xc,rfl,hx⟩:=getD_ov hx;simp only[getV,ex];refine o_oba ho fun b7 w4 ho=>?_;refine ob_put 0 hx.oneK hx.oneC ho rfl fun w5 ho=>?_;have ho:OwnS M.A w w5 [obE b7 ((Vl.get o Ff.kParms).getD Vl.ob0) xk xc,obE b1 o vk vc,.mem N2]:=ho;rw[fa_o5,ob_kids ho 0 rfl];have hpl:=@Ff.parms_len o ns.length;have hdl:=Ff.dicts_len hw;have hdw:∀x∈(Ff.dicts o).1,x.wt≤1000000000:=fun x hx=>by have:=Ff.dicts_wt hx;omega
 generalize hP:Ff.parms o ns.length=P at hX hpl;unfold Ff.parms at hP;generalize hD:Ff.dicts o=D at hP hdl hdw;obtain⟨l,de⟩:=D;unfold Ff.dicts at hD;dsimp only at hP hdl hdw;have badP:∀{W:World} {N':Mem} {L:List Ent} {e:Int} (i:Nat),OwnS M.A w W L→L[i]?=some (.mem N')→M.le N'→P=([],e)→e≠0→K (.returned (.tuple #[nilS,nilS,.int .i64 e])) W:=fun i ho hi hle hp h0=>by
  rw[hp,if_pos h0] at hX;exact bad i ho hi hle hX.symm
 have hle0:=l1.trans l2;refine join fun J hJ=>?_;have main:de=0→∀(N':Mem) (vl:Value) (cs:List Value) (W:World) (L:List Ent),N2.le N'→LsAt N' vl l cs→OwnS M.A w W (.mem N'::L)→J [vl] W:=by
  intro hde N' vl cs W L hle' hls ho;rw[if_neg (by rw[hde];decide)] at hP;refine hJ _ _ fun _=>?_;simp only[S_foliantref16_Of_0,gd,iN];have ho:=OwnS.nilU ho 27 3;refine loop (fun vs W=>∃(i:Nat) (ov:Value) (N3:Mem),vs=[ov,.int .i64 (i:Int)]∧i≤l.length∧(∀x∈l.take i,(Ff.parm x).2=0)∧N'.le N3∧OwnS M.A w W (pmsE ov ((l.take i).map fun x=>(Ff.parm x).1)::.mem N3::L)) (fun vs _=>l.length - n1 vs) ⟨0,nilS,N',rfl,by omega,by simp,N'.le_refl,ho⟩ ?_;clear ho;rintro vs w6 ⟨i,ov,N3,rfl,hi,h0,l3,ho⟩ _;simp only[S_foliantref16_Of_1,gd,iN,dx,cx];rw[ls_len hls];simp only[rs];have hleA:=(hle0.trans hle').trans l3;by_cases hlt:(i:Int) < (l.length:Int)
  ·simp only[hlt,decide_true,i_t];have hi':i < l.length:=by omega
   refine ls_get (hls.le l3) hi' (ho.hasM 1 rfl) fun yk yc hy=>?_;refine c_mem ho 1 rfl (rparm16_ret l[i] _ N3 w6 (by have:=hdw _ (List.getElem_mem hi');omega) (ho.hasM 1 rfl) hy) ?_;rintro _ N4 w7 l4 rfl ho;simp only[ex];refine o_pma ho fun b12 w8 ho=>?_;refine pm_put 0 (Ff.parm l[i]).1 ho rfl fun w9 ho=>?_;simp only[n_err];by_cases he:(Ff.parm l[i]).2=0
   case neg=>
    have he10:(Ff.parm l[i]).2=10:=by
     unfold Ff.parm at he ⊢;split
     ·rename_i h;rw[if_pos h] at he;exact absurd rfl he
     rename_i h;rw[if_neg h] at he
     split
     ·rename_i h2;rw[if_pos h2] at he;exact absurd rfl he
     ·rfl
    rw[if_pos (List.any_eq_true.2 ⟨_,List.getElem_mem hi',decide_eq_true he⟩)] at hP;rw[decide_eq_true (show (Ff.parm l[i]).2≠0 from he),i_t,he10];exact badP 2 ho rfl (hleA.trans l4) hP.symm (by decide)
   simp only[decide_eq_false (show ¬(Ff.parm l[i]).2≠0 from fun h=>h he),i_f];rw[pm_v ho 0 rfl];refine o_pms1 _ ho.tail (by rw[List.length_map,List.length_take];omega) fun ov' W3 ho=>?_
   try simp only[rs]
   rw[wrap64_id (by omega) (by omega)];refine nextX ⟨i+1,ov',N4,rfl,by omega,?_,l3.trans l4,?_⟩ (by simp[n1,RowKit.intOf];omega)
   ·rw[List.take_succ_eq_append_getElem hi'];intro x hx;rcases List.mem_append.1 hx with hx|hx
    ·exact h0 x hx
    ·rw[List.mem_singleton.1 hx];exact he
   ·rw[List.take_succ_eq_append_getElem hi',List.map_append];exact ho
  simp only[hlt,decide_false,i_f];have:i=l.length:=by omega
  subst this;rw[List.take_length] at h0 ho;rw[if_neg (fun h=>by
   obtain⟨x,hx,h⟩:=List.any_eq_true.1 h;exact (of_decide_eq_true h) (h0 x hx))] at hP
  generalize hps:(l.map fun x=>(Ff.parm x).1)=ps at hP ho;have hpsl:ps.length=l.length:=by rw[←hps,List.length_map]
  have plen:∀{W:World} {u:Value} {qs:List Pm} {L:List Ent} {PK:PKT} {K:VWP},OwnS M.A w W (pmsE u qs::L)→DoX prog (mB .len #[40] 3 #[false] #[u]) W PK K=K (.int .i64 (qs.length:Int)) W:=fun {W u qs L PK K} ho=>by
   obtain⟨_,a,cap,h,_⟩:=Sl.urow (ho.at_ 0 rfl);subst h;exact sl_len_any Tryz.underlying40
  have nlen:∀{W:World} {PK:PKT} {K:VWP},DoX prog (mB .len #[22] 3 #[false] #[vn]) W PK K=K (.int .i64 (ns.length:Int)) W:=fun {_ _ _}=>by
   obtain⟨a,cap,rfl,_⟩:=hn.form;exact sl_len_any Tryz.underlying22
  rw[plen ho,nlen];simp only[rs];by_cases hml:ns.length < l.length
  ·rw[if_pos hml] at hP;simp only[show decide ((ns.length:Int) < (ps.length:Int))=true from decide_eq_true (by omega),i_t];exact badP 1 ho rfl hleA hP.symm (by decide)
  rw[if_neg hml] at hP;simp only[show decide ((ns.length:Int) < (ps.length:Int))=false from decide_eq_false (by omega),i_f];refine loop (fun vs W=>∃(i:Nat) (N4:Mem),vs=[.int .i64 (i:Int)]∧i≤l.length∧(∀x∈l.take i,Ff.eight x=true)∧N3.le N4∧OwnS M.A w W (pmsE ov ps::.mem N4::L)) (fun vs _=>l.length - n0 vs) ⟨0,N3,rfl,by omega,by simp,N3.le_refl,ho⟩ ?_;clear ho;rintro vs w7 ⟨i,N4,rfl,hi,h8,l4,ho⟩ _;simp only[S_foliantref16_Of_2,gd,iN,dx,cx];rw[ls_len hls];simp only[rs];by_cases hlt:(i:Int) < (l.length:Int)
  ·simp only[hlt,decide_true,i_t];have hi':i < l.length:=by omega
   refine ls_get ((hls.le l3).le l4) hi' (ho.hasM 1 rfl) fun yk yc hy=>?_;refine c_mem ho 1 rfl (rwide16_ret l[i] _ N4 w7 (by have:=hdw _ (List.getElem_mem hi');omega) (ho.hasM 1 rfl) hy) ?_;rintro _ N5 w8 l5 rfl ho;cases he:Ff.eight l[i] with
  |false=>
    rw[if_pos (List.any_eq_true.2 ⟨_,List.getElem_mem hi',by rw[he];rfl⟩)] at hP;simp only[Bool.not_false,i_t];exact badP 1 ho rfl ((hleA.trans l4).trans l5) hP.symm (by decide)
  |true=>
    simp only[Bool.not_true,i_f,rs];rw[wrap64_id (by omega) (by omega)];refine nextX ⟨i+1,N5,rfl,by omega,?_,l4.trans l5,ho⟩ (by simp[n0,RowKit.intOf];omega);rw[List.take_succ_eq_append_getElem hi'];intro x hx;rcases List.mem_append.1 hx with hx|hx
    ·exact h8 x hx
    ·rw[List.mem_singleton.1 hx];exact he
  simp only[hlt,decide_false,i_f];have:i=l.length:=by omega
  subst this;rw[List.take_length] at h8;rw[if_neg (fun h=>by
   obtain⟨x,hx,h⟩:=List.any_eq_true.1 h;rw[h8 x hx] at h;cases h)] at hP
  refine loop (fun vs W=>∃(j:Nat) (ov:Value),vs=[ov]∧l.length+j≤ns.length∧OwnS M.A w W (pmsE ov (ps++List.replicate j Ff.usual)::.mem N4::L)) (fun vs _=>ns.length - slLen16 (vs.getD 0 undef)) ⟨0,ov,rfl,by omega,by rw[List.replicate_zero,List.append_nil];exact ho⟩ ?_;clear ho;rintro vs w8 ⟨j,ov,rfl,hj,ho⟩ _;have hlj:(ps++List.replicate j Ff.usual).length=l.length+j:=by rw[List.length_append,List.length_replicate,hpsl]
  simp only[S_foliantref16_Of_3,gd,iN,dx,cx];rw[plen ho,nlen,hlj];simp only[rs];by_cases hlt:((l.length+j:Nat):Int) < (ns.length:Int)
  ·simp only[hlt,decide_true,i_t];have hsl:∃a cap,ov=.slice a (l.length+j) cap:=by
    obtain⟨_,a,cap,h,_⟩:=Sl.urow (ho.at_ 0 rfl);exact⟨a,cap,by rw[h,hlj]⟩
   obtain⟨a,cap,hov⟩:=hsl;refine c_below ho (rusual16_ret w8) ?_;rintro _ w9 rfl ho;refine o_pms1 _ ho (by rw[hlj];omega) fun ov' W3 ho=>?_;have ho:OwnS M.A w W3 (pmsE ov' (ps++List.replicate (j+1) Ff.usual)::.mem N4::L):=by
    rw[List.replicate_succ',←List.append_assoc];exact ho
   have hlj2:(ps++List.replicate (j+1) Ff.usual).length=l.length+(j+1):=by rw[List.length_append,List.length_replicate,hpsl]
   refine nextX ⟨j+1,ov',rfl,by omega,ho⟩ ?_;obtain⟨_,a',cap',h',_⟩:=Sl.urow (ho.at_ 0 rfl);rw[hov,h',hlj2];show ns.length - (l.length+(j+1)) < ns.length - (l.length+j);omega
  simp only[hlt,decide_false,i_f];have hjm:j=ns.length - l.length:=by omega
  subst hjm;subst hP;dsimp only at hX hpl;have hpl:=hpl rfl;rw[if_neg (by decide)] at hX;generalize ps++List.replicate (ns.length - l.length) Ff.usual=qs at hX ho hpl;refine loop (fun vs W=>∃i:Nat,vs=[.int .i64 (i:Int)]∧i≤qs.length∧(∀x∈qs.take i,x.ok)∧OwnS M.A w W (pmsE ov qs::.mem N4::L)) (fun vs _=>qs.length - n0 vs) ⟨0,rfl,by omega,by simp,ho⟩ ?_;clear ho;rintro vs w10 ⟨i,rfl,hi,hok,ho⟩ _;simp only[S_foliantref16_Of_4,gd,iN,dx,cx];rw[plen ho];simp only[rs];by_cases hlt:(i:Int) < (qs.length:Int)
  ·simp only[hlt,decide_true,i_t];have hi':i < qs.length:=by omega
   obtain⟨g,cap,hv1,hia,hld,_⟩:=rec_row pmC_len Tryz.underlying40 szPm aggPm 0 ho rfl hi';rw[do_eq (hia w10),do_eq (hld w10 (ho.at_ 0 rfl))];refine c_below ho (rcheck15_ret qs[i] w10) ?_;rintro _ w11 rfl ho;simp only[n_err];by_cases hx:qs[i].ok
   ·rw[if_pos hx];simp only[show decide ((0:Int)≠0)=false from rfl,i_f]
    try simp only[rs]
    rw[wrap64_id (by omega) (by omega)];refine nextX ⟨i+1,rfl,by omega,?_,ho⟩ (by simp[n0,RowKit.intOf];omega);rw[List.take_succ_eq_append_getElem hi'];intro y hy;rcases List.mem_append.1 hy with hy|hy
    ·exact hok y hy
    ·rw[List.mem_singleton.1 hy];exact hx
   ·rw[if_neg hx];rw[if_pos (List.any_eq_true.2 ⟨_,List.getElem_mem hi',by simp[hx]⟩)] at hX;simp only[show decide ((1:Int)≠0)=true from rfl,i_t];exact bad 1 ho rfl (hleA.trans l4) hX.symm
  simp only[hlt,decide_false,i_f];have:i=qs.length:=by omega
  subst this;rw[List.take_length] at hok;rw[if_neg (fun h=>by
   obtain⟨x,hx,h⟩:=List.any_eq_true.1 h;have:=hok x hx;simp[this] at h)] at hX
  obtain⟨N6,l6,hs6,ho⟩:=ho.freezeU 0 rfl;refine hK _ _ N6 _ 0 ho rfl ((hleA.trans l4).trans l6) ⟨vn,ov,by rw[←hX],by rw[←hX];exact ((((hn.le l2).le hle').le l3).le l4).le l6,by rw[←hX];exact hs6⟩
 have fr:∀{W:World} {N':Mem} {a b:Ent},OwnS M.A w W [a,b,.mem N']→OwnS M.A w W [.mem N',a,b]:=fun {W N' a b} ho=>by
  have ho:OwnS M.A w W ([a,b]++([.mem N']++[])):=ho;exact ho.front
 cases hg:Vl.get o Ff.kParms with
|none=>
  rw[hg] at hD hx;dsimp only at hD
  injection hD with hd1 hd2
  subst hd1;simp only[Option.isSome_none,rs,i_f,g_un];obtain⟨cs,hls⟩:=ls_kids hx;exact main hd2.symm N2 xc cs w5 _ N2.le_refl hls (fr ho)
|some f=>
  rw[hg] at hD ho hx;dsimp only at hD;rw[Option.getD_some] at ho hx;simp only[Option.isSome_some,rs];rw[fa_o0,ob_k ho 0 rfl];simp only[rs];by_cases h7:f.k=7
  ·rw[if_neg (by omega),if_pos h7] at hD
   injection hD with hd1 hd2
   subst hd1;simp only[h7,decide_true,i_t];rw[ob_v ho 0 rfl];refine o_obs1 _ hx.oneK hx.oneC ho fun nb w6 ho=>?_;obtain⟨N3,l3,hs3,ha3,ho⟩:=one_mem ho 2 rfl hx;exact main hd2.symm N3 _ _ w6 _ l3 ⟨hs3,ha3⟩ (fr ho)
  simp only[h7,decide_false,i_f];rw[fa_o0,ob_k ho 0 rfl];simp only[rs];by_cases h6:f.k=6
  ·rw[if_pos h6] at hD
   injection hD with hd1 hd2
   subst hd1;simp only[decide_eq_false (show ¬f.k≠6 from fun h=>h h6),i_f];obtain⟨cs,hls⟩:=ls_kids hx;exact main hd2.symm N2 xc cs w5 _ N2.le_refl hls (fr ho)
  ·rw[if_neg h6,if_neg h7] at hD
   injection hD with hd1 hd2
   simp only[decide_eq_true (show f.k≠6 from h6),i_t];rw[if_pos (by rw[←hd2];decide)] at hP;exact badP 2 ho rfl hle0 hP.symm (by decide)
end
section
open Eng Go.RowKit
theorem Pr.rowsG_len (c:Int)(n h:Nat):∀(f:Nat) (s prev out:List UInt8),(Pr.rowsG c n h f s prev out).1.length≤out.length+s.length
|0,_,_,_=>Nat.zero_le _
|f+1,s,prev,out=>by
  unfold Pr.rowsG;split
  ·exact Nat.le_add_right _ _
  generalize (if h=1 then (s.getD 0 0).toNat else 1:Nat)=tag;split
  ·exact Nat.zero_le _
  dsimp only;have hl:(Pr.decG (tag:Int) prev c [] ((s.drop h).take n)).length=min n (s.length - h):=by
   rw[Pr.decG_len,List.length_take,List.length_drop];simp
  generalize Pr.decG (tag:Int) prev c [] ((s.drop h).take n)=row at hl;have:=Pr.rowsG_len c n h f (s.drop (n+h)) row (out++row);rw[List.length_append,List.length_drop] at this;omega
theorem Pr.decode_len (x:Pm)(s:List UInt8):(Pr.decode x s).1.length≤s.length:=by
 unfold Pr.decode;split
 ·exact Nat.zero_le _
 split
 ·exact Nat.zero_le _
 split
 ·exact Nat.le_refl _
 split
 ·exact Nat.zero_le _
 ·have:=Pr.rowsG_len x.c (x.c*x.n).toNat x.head (s.length+1) s [] [];simpa using this
theorem Ax.runG_len (mo:Nat):∀(f:Nat) (s out:List UInt8),out.length≤mo→(Ax.runG mo f s out).1.length≤mo
|0,_,_,_=>Nat.zero_le _
|f+1,s,out,ho=>by
  unfold Ax.runG;cases s with
 |nil=>exact Nat.zero_le _
 |cons c r=>
   dsimp only;split
   ·exact ho
   split
   ·split
    ·exact Nat.zero_le _
    split
    ·exact Nat.zero_le _
    ·refine Ax.runG_len mo f _ _ ?_;rw[List.length_append,List.length_take];omega
   split
   ·exact Nat.zero_le _
   split
   ·exact Nat.zero_le _
   ·refine Ax.runG_len mo f _ _ ?_;rw[List.length_append,repeatL_len1 (by rw[List.length_take];omega)];omega
theorem Ax.fiveG_len (mo:Nat):∀(s g out:List UInt8),out.length≤mo→(Ax.fiveG mo s g out).1.length≤mo
|[],_,_,_=>Nat.zero_le _
|c::r,g,out,ho=>by
  have h4:∀v,(Zl.four v).length=4:=fun _=>rfl;unfold Ax.fiveG;split
  ·exact Ax.fiveG_len mo r _ _ ho
  split
  ·split
   ·exact Nat.zero_le _
   ·exact Ax.fiveG_len mo r _ _ (by rw[List.length_append];show _+4≤_;omega)
  split
  ·split
   ·exact Ax.fiveG_len mo r _ _ ho
   split
   ·exact Nat.zero_le _
   split
   ·exact Nat.zero_le _
   ·exact Ax.fiveG_len mo r _ _ (by rw[List.length_append,h4];omega)
  split
  ·unfold Ax.endG
   repeat' split
   all_goals first|exact Nat.zero_le _|exact ho|(rw[List.length_append,List.length_take];omega)
  ·exact Nat.zero_le _
theorem Ax.within_len {D:Nat→List UInt8×Int}(h:∀m,(D m).1.length≤m)(most:Int):(Ax.within D most).1.length≤1048576:=by
 unfold Ax.within;split
 ·exact Nat.zero_le _
 ·exact Nat.le_trans (h _) (Nat.min_le_right _ _)
namespace Ff
def undo (n:List UInt8)(p:Pm)(s:List UInt8):List UInt8×Int:=
 if full n=nHx then Ax.unhex s 1048576
 else if full n=n85 then Ax.unfive s 1048576
 else if full n=nRL then Ax.unrun s 1048576
 else if full n=nFl then
  if ¬p.ok then ([],1)
  else if (Zl.unwrap s 1048576).2≠0 then ([],(Zl.unwrap s 1048576).2)
  else Pr.decode p (Zl.unwrap s 1048576).1
 else ([],15)
def chain:List (List UInt8)→List Pm→List UInt8→List UInt8×Int
|n::ns,p::ps,s=>if (undo n p s).2≠0 then ([],(undo n p s).2) else chain ns ps (undo n p s).1
|_,_,s=>(s,0)
def decode (o:Ob):List UInt8×Int:=if (of o).2.2≠0 then ([],(of o).2.2) else chain (of o).1 (of o).2.1 o.s
theorem of_len {o:Ob}:(of o).2.1.length=(of o).1.length:=by
 unfold of;by_cases h1:o.k≠9
 ·rw[if_pos h1];rfl
 rw[if_neg h1];by_cases h2:(names o).2≠0
 ·rw[if_pos h2];rfl
 rw[if_neg h2];by_cases h3:(parms o (names o).1.length).2≠0
 ·rw[if_pos h3];rfl
 rw[if_neg h3];split
 ·rfl
 ·exact parms_len (Decidable.not_not.1 h3)
end Ff
theorem upto_plain:plainB prog 173=true:=by kernel_rfl
theorem sure_plain:plainB prog 171=true:=by kernel_rfl
theorem unpack_plain:plainB prog 122=true:=by kernel_rfl
theorem unhex_plain:plainB prog 116=true:=by kernel_rfl
theorem unfive_plain:plainB prog 118=true:=by kernel_rfl
theorem unrun_plain:plainB prog 120=true:=by kernel_rfl
theorem nFnU:notAgg prog 94=true:=by kernel_rfl
theorem nFnS:notAgg prog 36=true:=by kernel_rfl
theorem nFnW:notAgg prog 89=true:=by kernel_rfl
theorem fo_wy0:fOff prog 91 0=some 0:=by kernel_rfl
theorem fo_wy1:fOff prog 91 1=some 1:=by kernel_rfl
theorem szWy:(Tryz.prog.info? 91).map (·.size)=some 2:=by kernel_rfl
theorem aggWy:aggN prog 91=some 2:=by kernel_rfl
theorem aggFt:aggN prog 143=some 3:=by kernel_rfl
theorem szFt:(Tryz.prog.info? 143).map (·.size)=some 3:=by kernel_rfl
theorem fo_ft0:fOff prog 143 0=some 0:=by kernel_rfl
def fnV (f:Nat):Value:=.func (.func f) #[] #[]
def uptoV (b:Nat):Value:=.func (.func 173) #[] #[.pointer (some ⟨b,0,none⟩)]
def sureV (b:Nat):Value:=.func (.func 171) #[] #[.pointer (some ⟨b,0,none⟩)]
def packV (x:Pm):Value:=.func (.func 121) #[pmV x] #[]
def unpackV (x:Pm):Value:=.func (.func 122) #[pmV x] #[]
abbrev upE (b f:Nat):Ent:=.cells b [fnV f] 94
abbrev suE16 (b f:Nat):Ent:=.cells b [fnV f] 36
def wyC (p u:Value):List Value:=[p,u]
abbrev wyE (b:Nat)(p u:Value):Ent:=.cells b (wyC p u) 91
section
variable {w:World}{PK:PKT}{K:VWP}{S:Nat→Prop}{w0:World}{L:List Ent}
theorem c_upto {f:Nat}(ho:OwnS S w0 w L)(k:∀b W,OwnS S w0 W (upE b f::L)→K (uptoV b) W):CallX prog 115 #[.func (.func f) #[] #[]] w PK K:=by
 refine c_any (S_filter_upTo_ok (K:=RetK fun v W=>∃b,v=uptoV b∧OwnS S w0 W (upE b f::L)) ?_) (fun e W ⟨v,he,b,hv,ho⟩=>by subst he;subst hv;exact k b W ho);unfold S_filter_upTo dx;refine o_new (fun b=>.pointer (some ⟨b,0,none⟩)) [fnV f] 94 (fun _=>by kernel_rfl) ho fun b w1 ho=>?_;rw[m_func];exact retK ⟨b,rfl,ho⟩
theorem c_sure {f:Nat}(ho:OwnS S w0 w L)(k:∀b W,OwnS S w0 W (suE16 b f::L)→K (sureV b) W):CallX prog 113 #[.func (.func f) #[] #[]] w PK K:=by
 refine c_any (S_filter_sure_ok (K:=RetK fun v W=>∃b,v=sureV b∧OwnS S w0 W (suE16 b f::L)) ?_) (fun e W ⟨v,he,b,hv,ho⟩=>by subst he;subst hv;exact k b W ho);unfold S_filter_sure dx;refine o_new (fun b=>.pointer (some ⟨b,0,none⟩)) [fnV f] 36 (fun _=>by kernel_rfl) ho fun b w1 ho=>?_;rw[m_func];exact retK ⟨b,rfl,ho⟩
theorem m_wy2 {fn fn2:Fn}{a b a2 b2:Array Value}:DoX prog (mBuild 91 #[(0,.func fn a b),(1,.func fn2 a2 b2)]) w PK K=K (.agg (wyC (.func fn a b) (.func fn2 a2 b2)).toArray) w:=do_eq (by kernel_rfl)
theorem c_fby {n:List UInt8}{x:Pm}(ho:OwnS S w0 w L)
  (ka:∀(f g:Nat),(Ff.full n=Ff.nHx∧f=114∧g=116)∨(Ff.full n=Ff.n85∧f=117∧g=118)∨(Ff.full n=Ff.nRL∧f=119∧g=120)→∀b1 b2 W,OwnS S w0 W (upE b2 g::suE16 b1 f::L)→K (.tuple #[.agg (wyC (sureV b1) (uptoV b2)).toArray,.int .i64 0]) W)
  (kl:Ff.full n=Ff.nFl→∀W,OwnS S w0 W L→K (.tuple #[.agg (wyC (packV x) (unpackV x)).toArray,.int .i64 (if x.ok then 0 else 1)]) W)
  (kn:Ff.full n=[]→∀W,OwnS S w0 W L→K (.tuple #[.agg (wyC .nilFunc .nilFunc).toArray,.int .i64 15]) W):CallX prog 54 #[.string ⟨n.toArray⟩,pmV x] w PK K:=by
 refine⟨S_filter_by_ok ?_⟩;unfold S_filter_by iN dx cx;refine o_pmb x ho fun b3 w1 ho=>?_;refine o_new (fun b=>.pointer (some ⟨b,0,none⟩)) (wyC .nilFunc .nilFunc) 91 (fun _=>by kernel_rfl) ho fun b4 w2 ho=>?_;refine c_eq (ffull_ret n w2) ?_;simp only[ex,rs];have one:∀{fn fn2:Fn} {a b a2 b2:Array Value},∀u∈wyC (.func fn a b) (.func fn2 a2 b2),u.oneCell'=true:=by
  intro fn fn2 a b a2 b2 u hu;simp only[wyC,List.mem_cons,List.not_mem_nil,or_false] at hu;rcases hu with rfl|rfl<;>rfl
 have fr:∀{W:World} {a b c d:Ent},OwnS S w0 W (a::b::c::d::L)→OwnS S w0 W (a::b::L):=fun ho=>ho.sub (.cons_cons _ (.cons_cons _ (.cons _ (.cons _ (List.Sublist.refl _)))));have hf:=Ff.full_cases n;by_cases h0:Ff.full n=[]
 ·simp only[decide_eq_false (show ¬Ff.full n≠[] from fun h=>h h0),Bool.not_false,i_t];refine do_eq (show (mBuild 91 #[]).run prog w2=.ok (.value (.agg (wyC .nilFunc .nilFunc).toArray)) w2 by kernel_rfl) |>.mpr ?_;refine o_put 0 ho rfl (new:=wyC .nilFunc .nilFunc) szWy (fun u hu=>by
   simp only[wyC,List.mem_cons,List.not_mem_nil,or_false] at hu;rcases hu with rfl|rfl<;>rfl) rfl fun w3 ho=>?_
  exact ret_v2 (rv_cell (ho.agg 0 rfl aggWy)) rv_val (kn h0 w3 ho.tail.tail)
 simp only[decide_eq_true (show Ff.full n≠[] from h0),Bool.not_true,i_f];by_cases h1:Ff.full n=Ff.nHx
 ·simp only[decide_eq_true h1,i_t];refine c_sure ho fun b1 w3 ho=>?_;refine c_upto ho fun b2 w4 ho=>?_;unfold sureV uptoV;rw[m_wy2];refine o_put 2 ho rfl (new:=wyC (sureV b1) (uptoV b2)) szWy one rfl fun w5 ho=>?_;exact ret_v2 (rv_cell (ho.agg 2 rfl aggWy)) rv_val (ka _ _ (.inl ⟨h1,rfl,rfl⟩) b1 b2 w5 (fr ho))
 simp only[decide_eq_false h1,i_f]
 try simp only[rs]
 by_cases h2:Ff.full n=Ff.n85
 ·simp only[decide_eq_true h2,i_t];refine c_sure ho fun b1 w3 ho=>?_;refine c_upto ho fun b2 w4 ho=>?_;unfold sureV uptoV;rw[m_wy2];refine o_put 2 ho rfl (new:=wyC (sureV b1) (uptoV b2)) szWy one rfl fun w5 ho=>?_;exact ret_v2 (rv_cell (ho.agg 2 rfl aggWy)) rv_val (ka _ _ (.inr (.inl ⟨h2,rfl,rfl⟩)) b1 b2 w5 (fr ho))
 simp only[decide_eq_false h2,i_f]
 try simp only[rs]
 by_cases h3:Ff.full n=Ff.nRL
 ·simp only[decide_eq_true h3,i_t];refine c_sure ho fun b1 w3 ho=>?_;refine c_upto ho fun b2 w4 ho=>?_;unfold sureV uptoV;rw[m_wy2];refine o_put 2 ho rfl (new:=wyC (sureV b1) (uptoV b2)) szWy one rfl fun w5 ho=>?_;exact ret_v2 (rv_cell (ho.agg 2 rfl aggWy)) rv_val (ka _ _ (.inr (.inr ⟨h3,rfl,rfl⟩)) b1 b2 w5 (fr ho))
 simp only[decide_eq_false h3,i_f];have h4:Ff.full n=Ff.nFl:=by
  rcases hf with h|h|h|h|h
  ·exact absurd h h1
  ·exact absurd h h2
  ·exact absurd h h3
  ·exact h
  ·exact absurd h h0
 rw[pm_v ho 1 rfl];refine do_eq (show (mBuild 143 #[(0,pmV x)]).run prog w2=.ok (.value (.agg (pmC x).toArray)) w2 by kernel_rfl) |>.mpr ?_;refine o_new (fun b=>.pointer (some ⟨b,0,none⟩)) (pmC ⟨0,0,0⟩) 143 (fun _=>by kernel_rfl) ho fun b8 w3 ho=>?_;refine o_put 0 ho rfl (new:=pmC x) szFt pmC_one rfl fun w4 ho=>?_;have ho:OwnS S w0 w4 (.cells b8 (pmC x) 143::wyE b4 .nilFunc .nilFunc::pmE b3 x::L):=ho;refine quietC (fun W=>OwnS S w0 W (.cells b8 (pmC x) 143::wyE b4 .nilFunc .nilFunc::pmE b3 x::L)) ho.drew ?_;refine q_at (pmV x) (fun W h=>run_load_at (h.agg 0 rfl aggFt)) ?_;refine q_do (packV x) (fun _=>mv_run rfl) ?_;refine q_at (pmV x) (fun W h=>run_load_at (h.agg 0 rfl aggFt)) ?_;refine q_do (unpackV x) (fun _=>mv_run rfl) ?_;refine q_do (.agg (wyC (packV x) (unpackV x)).toArray) (fun _=>by kernel_rfl) ?_;refine q_at (pmV x) (fun W h=>run_load_at (h.agg 2 rfl aggPm)) ?_;refine q_call _ (fun W h=>(pcheck_ret x W).mono fun v w' ⟨k1,k2⟩=>⟨k1,h.grow k2⟩) ?_;intro w5 ho;refine o_put 1 ho rfl (new:=wyC (packV x) (unpackV x)) szWy one rfl fun w6 ho=>?_;exact ret_v2 (rv_cell (ho.agg 1 rfl aggWy)) rv_val (kl h4 w6 ho.tail.tail.tail)
end
theorem upto1_ret (b f:Nat)(s:List UInt8)(D:List UInt8×Int)(M:Mem)(w:World)(hp:plainB prog f=true)(hb:(upE b f).is w)(hM:M.has w)
  (h:RetM prog f #[.string ⟨s.toArray⟩,.int .i64 1048576] M w (fun v _=>v=zlT D∧D.1.length≤1048576)):RetM prog 173 #[.string ⟨s.toArray⟩,.pointer (some ⟨b,0,none⟩)] M w (fun v _=>v=zlT D∧D.1.length≤1048576):=by
 refine retM_of hM fun K hK=>S_filter_upTo_1_ok ?_;unfold S_filter_upTo_1 iN dx;rw[l_cell nFnU (cells_cell (T:=94) (cs:=[fnV f]) hb (i:=0) rfl)];unfold fnV;refine c_val hp (c_mem (OwnS.memS hM) 0 rfl h ?_);rintro _ N w1 g1 ⟨rfl,hl⟩ ho;simp only[zlT,ex];exact hK _ _ N _ 0 ho rfl g1 ⟨rfl,hl⟩
theorem funpack_ret (x:Pm)(s:List UInt8)(M:Mem)(w:World)(hrp:Rp M)(hod:Od M)(hs:s.length≤1000000000)(hM:M.has w) :
  RetM prog 122 #[pmV x,.string ⟨s.toArray⟩] M w (fun v _=>v=zlT (if (Zl.unwrap s 1048576).2≠0 then ([],(Zl.unwrap s 1048576).2) else Pr.decode x (Zl.unwrap s 1048576).1)∧(Zl.unwrap s 1048576).1.length≤1048576):=by
 refine retM_of hM fun K hK=>S_filter_flate_unpack_ok ?_;unfold S_filter_flate_unpack iN dx cx;refine o_new (fun b=>.pointer (some ⟨b,0,none⟩)) (pmC x) 143 (fun _=>by kernel_rfl) (OwnS.memS hM) fun b2 w1 ho=>?_;refine c_mem ho 1 rfl (zunwrap_ret s 1048576 M w1 hrp hod hs (ho.hasM 1 rfl)) ?_;rintro _ N w2 g1 ⟨rfl,hl⟩ ho;generalize Zl.unwrap s 1048576=U at hK hl;obtain⟨t,e⟩:=U;dsimp only at hK hl;simp only[zlT,ex,n_err];by_cases he:e=0
 case neg=>
  rw[if_pos he] at hK;simp only[decide_eq_true (show e≠0 from he),i_t];exact hK _ _ N _ 1 ho rfl g1 ⟨rfl,hl⟩
 rw[if_neg (fun h=>h he)] at hK;simp only[decide_eq_false (show ¬e≠0 from fun h=>h he),i_f];rw[f_addr fo_ft0,l_at (T:=27) (v:=pmV x) (AtV.agg aggPm (cs:=pmC x) rfl fun j u hj=>by rw[Nat.add_zero,Nat.zero_add];exact ho.cell 0 rfl j hj)];refine c_below ho (pdecode_ret x t w2 (by omega)) ?_;rintro _ w3 rfl ho;simp only[zlT,ex];exact hK _ _ N _ 1 ho rfl g1 ⟨rfl,hl⟩
theorem fundo_ret (n:List UInt8)(x:Pm)(s:List UInt8)(M:Mem)(w:World)(hrp:Rp M)(hod:Od M)(hpw:Pws M)(hs:s.length≤1000000000)(hM:M.has w) :
  RetM prog 15 #[.string ⟨n.toArray⟩,pmV x,.string ⟨s.toArray⟩] M w (fun v _=>v=zlT (Ff.undo n x s)∧(Ff.undo n x s).1.length≤1048576):=by
 refine retM_of hM fun K hK=>S_filter_Undo_ok ?_;generalize hX:Ff.undo n x s=X at hK;unfold Ff.undo at hX;unfold S_filter_Undo iN dx cx;refine o_pmb x (OwnS.memS hM) fun b4 w1 ho=>?_;rw[pm_v ho 0 rfl];have wone:∀{p u:Value},p.oneCell'=true→u.oneCell'=true→∀y∈wyC p u,y.oneCell'=true:=by
  intro p u hp hu y hy;simp only[wyC,List.mem_cons,List.not_mem_nil,or_false] at hy;rcases hy with rfl|rfl<;>assumption
 refine c_fby ho (fun f g hfg b1 b2 w2 ho=>?_) (fun hf w2 ho=>?_) (fun hf w2 ho=>?_)
 ·simp only[ex];refine o_new (fun b=>.pointer (some ⟨b,0,none⟩)) (wyC .nilFunc .nilFunc) 91 (fun _=>by kernel_rfl) ho fun b8 w3 ho=>?_;refine o_put 0 ho rfl (new:=wyC (sureV b1) (uptoV b2)) szWy (wone rfl rfl) rfl fun w4 ho=>?_;have ho:OwnS M.A w w4 [wyE b8 (sureV b1) (uptoV b2),upE b2 g,suE16 b1 f,pmE b4 x,.mem M]:=ho;simp only[n_err,show decide ((0:Int)≠0)=false from rfl,i_f];rw[f_addr fo_wy1,l_cell nFnW (ho.cell 0 rfl 1 rfl)];have hM4:=ho.hasM 4 rfl;have key:∃_:plainB prog g=true,RetM prog g #[.string ⟨s.toArray⟩,.int .i64 1048576] M w4 (fun v _=>v=zlT X∧X.1.length≤1048576):=by
   rcases hfg with ⟨h,_,rfl⟩|⟨h,_,rfl⟩|⟨h,_,rfl⟩
   ·rw[if_pos h] at hX;subst hX;exact⟨unhex_plain,aunhex_ret s 1048576 M w4 hs hM4⟩
   ·rw[if_neg (by rw[h];decide),if_pos h] at hX;subst hX;exact⟨unfive_plain,aunfive_ret s 1048576 M w4 hpw hs hM4⟩
   ·rw[if_neg (by rw[h];decide),if_neg (by rw[h];decide),if_pos h] at hX;subst hX;exact⟨unrun_plain,aunrun_ret s 1048576 M w4 hs hM4⟩
  obtain⟨hp,key⟩:=key;unfold uptoV;refine c_val upto_plain (c_mem ho 4 rfl (upto1_ret b2 g s X M w4 hp (ho.at_ 1 rfl) hM4 key) ?_);rintro _ N w5 g1 ⟨rfl,hl⟩ ho;simp only[zlT,ex];exact hK _ _ N _ 4 ho rfl g1 ⟨rfl,hl⟩
 ·rw[if_neg (by rw[hf];decide),if_neg (by rw[hf];decide),if_neg (by rw[hf];decide),if_pos hf] at hX;simp only[ex];refine o_new (fun b=>.pointer (some ⟨b,0,none⟩)) (wyC .nilFunc .nilFunc) 91 (fun _=>by kernel_rfl) ho fun b8 w3 ho=>?_;refine o_put 0 ho rfl (new:=wyC (packV x) (unpackV x)) szWy (wone rfl rfl) rfl fun w4 ho=>?_;have ho:OwnS M.A w w4 [wyE b8 (packV x) (unpackV x),pmE b4 x,.mem M]:=ho;simp only[n_err];by_cases hx:x.ok
  case neg=>
   rw[if_pos hx] at hX;simp only[if_neg hx,show decide ((1:Int)≠0)=true from rfl,i_t];exact hK _ _ M _ 2 ho rfl M.le_refl ⟨by rw[←hX];rfl,by rw[←hX];exact Nat.zero_le _⟩
  rw[if_neg (by simp[hx])] at hX;simp only[if_pos hx,show decide ((0:Int)≠0)=false from rfl,i_f];rw[f_addr fo_wy1,l_cell nFnW (ho.cell 0 rfl 1 rfl)];unfold unpackV;refine c_val unpack_plain (c_mem ho 2 rfl (funpack_ret x s M w4 hrp hod hs (ho.hasM 2 rfl)) ?_);rintro _ N w5 g1 ⟨rfl,hl⟩ ho;rw[hX];simp only[zlT,ex];refine hK _ _ N _ 2 ho rfl g1 ⟨rfl,?_⟩;rw[←hX];split
  ·exact Nat.zero_le _
  ·exact Nat.le_trans (Pr.decode_len _ _) hl
 ·rw[if_neg (by rw[hf];decide),if_neg (by rw[hf];decide),if_neg (by rw[hf];decide),if_neg (by rw[hf];decide)] at hX;simp only[ex];refine o_new (fun b=>.pointer (some ⟨b,0,none⟩)) (wyC .nilFunc .nilFunc) 91 (fun _=>by kernel_rfl) ho fun b8 w3 ho=>?_;refine o_put 0 ho rfl (new:=wyC .nilFunc .nilFunc) szWy (wone rfl rfl) rfl fun w4 ho=>?_;simp only[n_err,show decide ((15:Int)≠0)=true from rfl,i_t];exact hK _ _ M _ 2 ho rfl M.le_refl ⟨by rw[←hX];rfl,by rw[←hX];exact Nat.zero_le _⟩
theorem rundo16_ret (n:List UInt8)(x:Pm)(s:List UInt8)(M:Mem)(w:World)(hs:s.length≤1000000000)(hM:M.has w) :
  RetM prog 16 #[.string ⟨n.toArray⟩,pmV x,.string ⟨s.toArray⟩] M w (fun v _=>v=zlT (Ff.undo n x s)∧(Ff.undo n x s).1.length≤1048576):=by
 refine retM_of hM fun K hK=>S_foliantref16_Undo_ok ?_;generalize hX:Ff.undo n x s=X at hK;unfold Ff.undo at hX;unfold S_foliantref16_Undo iN dx cx;refine o_pmb x (OwnS.memS hM) fun b4 w1 ho=>?_;refine c_eq (rfull16_ret n w1) ?_;simp only[rs];by_cases h1:Ff.full n=Ff.nHx
 ·rw[if_pos h1] at hX;simp only[decide_eq_true h1,i_t];refine c_below ho (runhex14_ret s 1048576 w1 hs) ?_;rintro _ w2 rfl ho;simp only[zlT,ex];exact hK _ _ M _ 1 ho rfl M.le_refl ⟨by rw[←hX];rfl,by rw[←hX];exact Ax.within_len (fun m=>Ax.hexG_len m s _ _ (Nat.zero_le _)) _⟩
 rw[if_neg h1] at hX;simp only[decide_eq_false h1,i_f]
 try simp only[rs]
 by_cases h2:Ff.full n=Ff.n85
 ·rw[if_pos h2] at hX;simp only[decide_eq_true h2,i_t];refine c_below ho (runfive14_ret s 1048576 w1 hs) ?_;rintro _ w2 rfl ho;simp only[zlT,ex];exact hK _ _ M _ 1 ho rfl M.le_refl ⟨by rw[←hX];rfl,by rw[←hX];exact Ax.within_len (fun m=>Ax.fiveG_len m s _ _ (Nat.zero_le _)) _⟩
 rw[if_neg h2] at hX;simp only[decide_eq_false h2,i_f]
 try simp only[rs]
 by_cases h3:Ff.full n=Ff.nRL
 ·rw[if_pos h3] at hX;simp only[decide_eq_true h3,i_t];refine c_below ho (runrun14_ret s 1048576 w1 hs) ?_;rintro _ w2 rfl ho;simp only[zlT,ex];exact hK _ _ M _ 1 ho rfl M.le_refl ⟨by rw[←hX];rfl,by rw[←hX];exact Ax.within_len (fun m=>Ax.runG_len m _ s _ (Nat.zero_le _)) _⟩
 rw[if_neg h3] at hX;simp only[decide_eq_false h3,i_f]
 try simp only[rs]
 by_cases h4:Ff.full n=Ff.nFl
 case neg=>
  rw[if_neg h4] at hX;simp only[decide_eq_false h4,i_f];exact hK _ _ M _ 1 ho rfl M.le_refl ⟨by rw[←hX];rfl,by rw[←hX];exact Nat.zero_le _⟩
 rw[if_pos h4] at hX;simp only[decide_eq_true h4,i_t];rw[pm_v ho 0 rfl];refine c_below ho (rcheck15_ret x w1) ?_;rintro _ w2 rfl ho;simp only[n_err];by_cases hx:x.ok
 case neg=>
  rw[if_pos hx] at hX;simp only[if_neg hx,show decide ((1:Int)≠0)=true from rfl,i_t];exact hK _ _ M _ 1 ho rfl M.le_refl ⟨by rw[←hX];rfl,by rw[←hX];exact Nat.zero_le _⟩
 rw[if_neg (by simp[hx])] at hX;simp only[if_pos hx,show decide ((0:Int)≠0)=false from rfl,i_f];refine c_mem ho 1 rfl (runwrap13_ret s 1048576 M w2 hs (ho.hasM 1 rfl)) ?_;rintro _ N w3 g1 ⟨rfl,hl⟩ ho;generalize Zl.unwrap s 1048576=U at hX hl;obtain⟨t,e⟩:=U;dsimp only at hX hl;simp only[zlT,ex,n_err];by_cases he:e=0
 case neg=>
  rw[if_pos he] at hX;simp only[decide_eq_true (show e≠0 from he),i_t];exact hK _ _ N _ 1 ho rfl g1 ⟨by rw[←hX];rfl,by rw[←hX];exact Nat.zero_le _⟩
 rw[if_neg (fun h=>h he)] at hX;simp only[decide_eq_false (show ¬e≠0 from fun h=>h he),i_f];rw[pm_v ho 0 rfl];refine c_below ho (rdecode15_ret x t w3 (by omega)) ?_;rintro _ w4 rfl ho;simp only[zlT,ex];exact hK _ _ N _ 1 ho rfl g1 ⟨by rw[←hX];rfl,by rw[←hX];exact Nat.le_trans (Pr.decode_len _ _) hl⟩
end
section
open Eng Go.RowKit
theorem Ff.chain_cons {ns:List (List UInt8)}{ps:List Pm}{i:Nat}(h1:i < ns.length)(h2:i < ps.length)(s:List UInt8) :
  Ff.chain (ns.drop i) (ps.drop i) s=if (Ff.undo ns[i] ps[i] s).2≠0 then ([],(Ff.undo ns[i] ps[i] s).2) else Ff.chain (ns.drop (i+1)) (ps.drop (i+1)) (Ff.undo ns[i] ps[i] s).1:=by
 rw[List.drop_eq_getElem_cons h1,List.drop_eq_getElem_cons h2,Ff.chain]
theorem Ff.chain_nil {ns:List (List UInt8)}{ps:List Pm}{i:Nat}(h1:ns.length≤i)(s:List UInt8):Ff.chain (ns.drop i) (ps.drop i) s=(s,0):=by
 rw[List.drop_eq_nil_of_le h1];unfold Ff.chain;rfl
theorem Ff.of_le8 {o:Ob}:(Ff.of o).1.length≤8:=by
 have:=@Ff.names_len o;unfold Ff.of;by_cases h1:o.k≠9
 ·rw[if_pos h1];exact Nat.zero_le _
 rw[if_neg h1];by_cases h2:(Ff.names o).2≠0
 ·rw[if_pos h2];exact Nat.zero_le _
 rw[if_neg h2];by_cases h3:(Ff.parms o (Ff.names o).1.length).2≠0
 ·rw[if_pos h3];exact Nat.zero_le _
 rw[if_neg h3];split
 ·exact Nat.zero_le _
 ·exact this
section
variable {M:Mem}{vn vp:Value}{ns:List (List UInt8)}{ps:List Pm}
theorem str_len {W:World}{PK:PKT}{K:VWP}(hn:SlA M.A M.w vn 1 ns.length (strsV ns)):DoX prog (mB .len #[22] 3 #[false] #[vn]) W PK K=K (.int .i64 (ns.length:Int)) W:=by
 obtain⟨a,cap,rfl,_⟩:=hn.form;exact sl_len_any Tryz.underlying22
end
theorem fdecode_ret16 (o:Ob)(v:Value)(M:Mem)(w:World)(hrp:Rp M)(hod:Od M)(hpw:Pws M)(hw:o.wt≤1000000000)(hM:M.has w)(hv:OV M.A M.w v o) :
  RetM prog 13 #[v] M w (fun r _=>r=zlT (Ff.decode o)):=by
 obtain⟨vk,vc,ocs,rfl,ha⟩:=hv.open;refine retM_of hM fun K hK=>S_filter_Decode_ok ?_;generalize hX:Ff.decode o=X at hK;unfold Ff.decode at hX;unfold S_filter_Decode iN dx cx;refine o_obb o ha.keys.one ha.kids.one (OwnS.memS hM) fun b1 w1 ho=>?_;rw[ob_v ho 0 rfl];refine c_mem ho 1 rfl (fof_ret16 o _ M w1 hw (ho.hasM 1 rfl) hv) ?_;have hpl:=@Ff.of_len o;have hn8:=@Ff.of_le8 o;generalize Ff.of o=F at hX hpl hn8;obtain⟨ns,ps,e⟩:=F;dsimp only at hX hpl hn8;rintro _ N w2 l1 ⟨vn,vp,rfl,hn,hp⟩ ho;dsimp only at hn hp;simp only[ex,x_ext (show [vn,vp,Value.int .i64 e][2]?=some (Value.int .i64 e) from rfl),x_ext (show [vn,vp,Value.int .i64 e][1]?=some vp from rfl),x_ext (show [vn,vp,Value.int .i64 e][0]?=some vn from rfl),n_err];by_cases he:e=0
 case neg=>
  rw[if_pos he] at hX;simp only[decide_eq_true (show e≠0 from he),i_t];exact hK _ _ N _ 1 ho rfl l1 (by rw[←hX];rfl)
 rw[if_neg (fun h=>h he)] at hX;simp only[decide_eq_false (show ¬e≠0 from fun h=>h he),i_f];rw[fa_o3,ob_s ho 0 rfl,str_len hn];have hol:o.s.length≤1000000000:=by
  have:o.s.length≤o.wt:=by rw[o.wt_eq];omega
  omega
 refine loop (fun vs W=>∃(i:Nat) (s:List UInt8) (N2:Mem),vs=[.string ⟨s.toArray⟩,.int .i64 (i:Int)]∧i≤ns.length∧s.length≤1000000000∧N.le N2∧Ff.chain (ns.drop i) (ps.drop i) s=X∧OwnS M.A w W [obE b1 o vk vc,.mem N2]) (fun vs _=>ns.length - n1 vs) ⟨0,o.s,N,rfl,by omega,hol,N.le_refl,hX,ho⟩ ?_;clear ho hX;rintro vs w3 ⟨i,s,N2,rfl,hi,hs,l2,hX,ho⟩ _;simp only[S_filter_Decode_0,gd,rs,iN,dx,cx];by_cases hlt:(i:Int) < (ns.length:Int)
 ·simp only[hlt,decide_true,i_t];have hi':i < ns.length:=by omega
  have hip:i < ps.length:=by omega
  rw[Ff.chain_cons hi' hip] at hX;obtain⟨p,hia,hld⟩:=strAt (hn.le l2) hi';rw[do_eq (hia w3),do_eq (hld w3 (ho.hasM 1 rfl))];obtain⟨p2,hia2,hld2⟩:=pmAt (hp.le l2) hip;rw[do_eq (hia2 w3),do_eq (hld2 w3 (ho.hasM 1 rfl))];refine c_mem ho 1 rfl (fundo_ret ns[i] ps[i] s N2 w3 ((hrp.le l1).le l2) ((hod.le l1).le l2) ((hpw.le l1).le l2) hs (ho.hasM 1 rfl)) ?_;rintro _ N3 w4 l3 ⟨rfl,hl⟩ ho;generalize Ff.undo ns[i] ps[i] s=U at hX hl;obtain⟨t,ue⟩:=U;dsimp only at hX hl;simp only[zlT,ex,n_err];by_cases hu:ue=0
  case neg=>
   rw[if_pos hu] at hX;simp only[decide_eq_true (show ue≠0 from hu),i_t];exact hK _ _ N3 _ 1 ho rfl ((l1.trans l2).trans l3) (by rw[←hX];rfl)
  rw[if_neg (fun h=>h hu)] at hX;simp only[decide_eq_false (show ¬ue≠0 from fun h=>h hu),i_f]
  try simp only[rs]
  rw[wrap64_id (by omega) (by omega)];exact nextX ⟨i+1,t,N3,rfl,by omega,by omega,l2.trans l3,hX,ho⟩ (by simp[n1,RowKit.intOf];omega)
 simp only[hlt,decide_false,i_f];rw[Ff.chain_nil (by omega)] at hX;exact hK _ _ N2 _ 1 ho rfl (l1.trans l2) (by rw[←hX];rfl)
theorem rdecode16_ret (o:Ob)(v:Value)(M:Mem)(w:World)(hw:o.wt≤1000000000)(hM:M.has w)(hv:OV M.A M.w v o) :
  RetM prog 14 #[v] M w (fun r _=>r=zlT (Ff.decode o)):=by
 obtain⟨vk,vc,ocs,rfl,ha⟩:=hv.open;refine retM_of hM fun K hK=>S_foliantref16_Decode_ok ?_;generalize hX:Ff.decode o=X at hK;unfold Ff.decode at hX;unfold S_foliantref16_Decode iN dx cx;refine o_obb o ha.keys.one ha.kids.one (OwnS.memS hM) fun b1 w1 ho=>?_;rw[ob_v ho 0 rfl];refine c_mem ho 1 rfl (rof_ret16 o _ M w1 hw (ho.hasM 1 rfl) hv) ?_;have hpl:=@Ff.of_len o;have hn8:=@Ff.of_le8 o;generalize Ff.of o=F at hX hpl hn8;obtain⟨ns,ps,e⟩:=F;dsimp only at hX hpl hn8;rintro _ N w2 l1 ⟨vn,vp,rfl,hn,hp⟩ ho;dsimp only at hn hp;simp only[ex,x_ext (show [vn,vp,Value.int .i64 e][2]?=some (Value.int .i64 e) from rfl),x_ext (show [vn,vp,Value.int .i64 e][1]?=some vp from rfl),x_ext (show [vn,vp,Value.int .i64 e][0]?=some vn from rfl),n_err];by_cases he:e=0
 case neg=>
  rw[if_pos he] at hX;simp only[decide_eq_true (show e≠0 from he),i_t];exact hK _ _ N _ 1 ho rfl l1 (by rw[←hX];rfl)
 rw[if_neg (fun h=>h he)] at hX;simp only[decide_eq_false (show ¬e≠0 from fun h=>h he),i_f];rw[fa_o3,ob_s ho 0 rfl];have hol:o.s.length≤1000000000:=by
  have:o.s.length≤o.wt:=by rw[o.wt_eq];omega
  omega
 refine loop (fun vs W=>∃(i:Nat) (s:List UInt8),vs=[.string ⟨s.toArray⟩,.int .i64 (i:Int)]∧i≤ns.length∧s.length≤1000000000∧Ff.chain (ns.drop i) (ps.drop i) s=X∧OwnS M.A w W [obE b1 o vk vc,.mem N]) (fun vs _=>ns.length - n1 vs) ⟨0,o.s,rfl,by omega,hol,hX,ho⟩ ?_;clear ho hX;rintro vs w3 ⟨i,s,rfl,hi,hs,hX,ho⟩ _;simp only[S_foliantref16_Decode_0,gd,iN,dx];rw[str_len hn];simp only[rs];by_cases hlt:(i:Int) < (ns.length:Int)
 ·simp only[hlt,decide_true,i_t];have hi':i < ns.length:=by omega
  have hip:i < ps.length:=by omega
  rw[Ff.chain_cons hi' hip] at hX;obtain⟨p,hia,hld⟩:=strAt hn hi';obtain⟨p2,hia2,hld2⟩:=pmAt hp hip;refine quietC (fun W=>OwnS M.A w W [obE b1 o vk vc,.mem N]) ho.drew ?_;refine q_do _ hia (q_at _ (fun W h=>hld W (h.hasM 1 rfl)) ?_);refine q_do _ hia2 (q_at _ (fun W h=>hld2 W (h.hasM 1 rfl)) ?_);have hl:=(rundo16_ret ns[i] ps[i] s N w3 hs (ho.hasM 1 rfl));have hul:(Ff.undo ns[i] ps[i] s).1.length≤1048576:=by
   obtain⟨_,_,_,⟨_,_,_,_,_,h⟩,_⟩:=hl [];exact h
  refine q_call (zlT (Ff.undo ns[i] ps[i] s)) (fun W h=>(RetM.told ((rundo16_ret ns[i] ps[i] s N W hs (h.hasM 1 rfl)).mono fun v N' _ h=>h.1)).mono fun v w' ⟨k1,k2⟩=>⟨k1,h.grow k2⟩) ?_;generalize Ff.undo ns[i] ps[i] s=U at hX hul;obtain⟨t,ue⟩:=U;dsimp only at hX hul;simp only[zlT];refine q_do (.string ⟨t.toArray⟩) (fun _=>by kernel_rfl) (q_do (.int .i64 ue) (fun _=>by kernel_rfl) ?_);intro w4 ho;simp only[n_err];by_cases hu:ue=0
  case neg=>
   rw[if_pos hu] at hX;simp only[decide_eq_true (show ue≠0 from hu),i_t];exact hK _ _ N _ 1 ho rfl l1 (by rw[←hX];rfl)
  rw[if_neg (fun h=>h hu)] at hX;simp only[decide_eq_false (show ¬ue≠0 from fun h=>h hu),i_f]
  try simp only[rs]
  rw[wrap64_id (by omega) (by omega)];exact nextX ⟨i+1,t,rfl,by omega,by omega,hX,ho⟩ (by simp[n1,RowKit.intOf];omega)
 simp only[hlt,decide_false,i_f];rw[Ff.chain_nil (by omega)] at hX;exact hK _ _ N _ 1 ho rfl l1 (by rw[←hX];rfl)
end
section
open Eng Go.RowKit
theorem hexlen16:∀s:List UInt8,(Oc.hex s).length=2*s.length
|[]=>rfl
|c::s=>by
  have h:Oc.hex (c::s)=Oc.hex1 c++Oc.hex s:=by unfold Oc.hex;rw[List.flatMap_cons]
  rw[h,List.length_append,hexlen16 s,List.length_cons];show 2+_=_;omega
theorem ahex_ret (s:List UInt8)(w:World)(hs:s.length≤1000000):Ret prog 114 #[.string ⟨s.toArray⟩] w (fun v w'=>v=.string ⟨(Oc.hex s++[62]).toArray⟩∧Below w.heap.size w w'):=by
 refine ret_of fun K hK=>S_ascii_Hex_ok ?_;unfold S_ascii_Hex dx cx;refine c_below (Own.start w) (hex_ret s w hs) ?_;rintro _ w1 rfl ho;have hl:(Oc.hex s).length≤2000000:=by rw[hexlen16];omega
 rw[show (Value.string ⟨#[62]⟩)=.string ⟨([62]:List UInt8).toArray⟩ from rfl,s_add (by simp;omega)];exact hK _ _ ⟨rfl,ho.done⟩
def Ax.alikeG (c:UInt8):Nat→List UInt8→Nat
|0,_=>0
|_,[]=>0
|f+1,d::r=>if d=c then Ax.alikeG c f r+1 else 0
def Ax.alike (s:List UInt8):Nat:=Ax.alikeG (s.getD 0 0) 128 s
theorem Ax.alikeG_le (c:UInt8):∀(f:Nat) (s:List UInt8),Ax.alikeG c f s≤f∧Ax.alikeG c f s≤s.length
|0,s=>by unfold Ax.alikeG;omega
|f+1,[]=>by unfold Ax.alikeG;exact⟨by omega,by simp⟩
|f+1,d::r=>by
  have:=Ax.alikeG_le c f r;unfold Ax.alikeG;split
  ·rw[List.length_cons];omega
  ·omega
theorem run_min16 {W:World}{T1 T2 U:TypeId}{cb:Array Bool}{k k':IntKind}{a b:Int}:(mB .min #[T1,T2] U cb #[.int k a,.int k' b]).run prog W=.ok (.value (.int k (min a b))) W:=by
 have e:(if b < a then b else a)=min a b:=by split<;>omega
 simp[mB,builtin,Builtin.min_,Builtin.min2,e]
theorem Ax.alikeG_nil (c:UInt8)(f:Nat):Ax.alikeG c f []=0:=by cases f<;>rfl
theorem aalike_ret (s:List UInt8)(w:World)(hs:s.length≤1000000000):Ret prog 186 #[.string ⟨s.toArray⟩] w (fun v w'=>v=.int .i64 (Ax.alike s:Int)∧Below w.heap.size w w'):=by
 refine ret_of fun K hK=>S_ascii_alike_ok ?_;unfold S_ascii_alike iN;refine loop (fun vs W=>∃i:Nat,vs=[.int .i64 (i:Int)]∧i≤min s.length 128∧i+Ax.alikeG (s.getD 0 0) (128 - i) (s.drop i)=Ax.alike s∧Own w W []) (fun vs _=>s.length - n0 vs) ⟨0,rfl,by omega,by rw[List.drop_zero,Nat.zero_add];rfl,Own.start w⟩ ?_;rintro vs w1 ⟨i,rfl,hi,hX,ho⟩ _;simp only[S_ascii_alike_0,gd,iN,dx];refine quietC (fun W=>Own w W []) ho.drew ?_;refine q_slen Tryz.underlying9 (q_do (.int .i64 ((min s.length 128:Nat):Int)) (fun W=>?_) (q_lss ?_))
 ·have h:min (s.length:Int) 128=((min s.length 128:Nat):Int):=by omega
  rw[←h];exact run_min16
 by_cases hlt:i < min s.length 128
 case neg=>
  have hie:i=min s.length 128:=by omega
  rw[decide_eq_false (show ¬(i:Int) < ((min s.length 128:Nat):Int) by omega)];simp only[gq];refine q_pf ?_;intro w2 ho;rw[i_f];have:Ax.alikeG (s.getD 0 0) (128 - i) (s.drop i)=0:=by
   by_cases h:i=128
   ·rw[h];unfold Ax.alikeG;rfl
   ·rw[List.drop_eq_nil_of_le (by omega),Ax.alikeG_nil]
  rw[this,Nat.add_zero] at hX;exact hK _ _ ⟨by rw[hX],ho.done⟩
 rw[decide_eq_true (show (i:Int) < ((min s.length 128:Nat):Int) by omega)];have hi':i < s.length:=by omega
 simp only[gq];refine q_ix (c:=s[i]) Tryz.underlying9 (by omega) (by rw[Int.toNat_natCast];exact List.getElem?_eq_getElem hi') ?_;refine q_ix (c:=s.getD 0 0) Tryz.underlying9 (by decide) (get0 (by omega)) (q_eq (q_pt ?_));intro w2 ho;rw[List.drop_eq_getElem_cons hi',show 128 - i=(128 - (i+1))+1 by omega,Ax.alikeG] at hX;by_cases he:s[i]=s.getD 0 0
 ·rw[if_pos he] at hX;rw[decide_eq_true (show (s[i].toNat:Int)=((s.getD 0 0).toNat:Int) by rw[he]),i_t]
  try simp only[rs]
  rw[wrap64_id (by omega) (by omega)];exact nextX ⟨i+1,rfl,by omega,by rw[←hX];omega,ho⟩ (by simp[n0,RowKit.intOf];omega)
 ·rw[if_neg he] at hX;rw[decide_eq_false (show ¬(s[i].toNat:Int)=((s.getD 0 0).toNat:Int) from fun h=>he (UInt8.toNat_inj.1 (by omega))),i_f];exact hK _ _ ⟨by rw[←hX];rfl,ho.done⟩
def Ax.litG:Nat→Nat→List UInt8→Nat
|0,n,_=>n
|f+1,n,s=>if n < min s.length 128∧Ax.alike (s.drop n) < 3 then Ax.litG f (n+1) s else n
def Ax.lit (s:List UInt8):Nat:=Ax.litG 128 1 s
def Ax.packG:Nat→List UInt8→List UInt8
|0,_=>[]
|f+1,s=>
  if s=[] then [128]
  else if 3≤Ax.alike s then [UInt8.ofNat (257 - Ax.alike s),s.getD 0 0]++Ax.packG f (s.drop (Ax.alike s))
  else [UInt8.ofNat (Ax.lit s - 1)]++s.take (Ax.lit s)++Ax.packG f (s.drop (Ax.lit s))
def Ax.pack (s:List UInt8):List UInt8:=Ax.packG (s.length+1) s
section
variable {w:World}{PK:PKT}{K:Ending→World→Prop}{N1:List Value→World→Prop}{S:Nat→Prop}{w0:World}{L:List Ent}
theorem c_alit {b n:Nat}{v:Value}{l t:List UInt8}(ho:OwnS S w0 w (Bld b v l::L))(h1:1≤n)(hn:n≤min t.length 128)(hl:l.length≤10000000000)
  (k:∀v' W,OwnS S w0 W (Bld b v' (l++[UInt8.ofNat (n - 1)]++t.take n)::L)→N1 [.string ⟨(t.drop n).toArray⟩] W) :
  DoX prog (mConv 3 5 (.int .i64 (IntKind.i64.wrap ((n:Int) - 1)))) w (pk K) fun t40 w=>
 CallX prog 181 #[.pointer (some ⟨b,0,none⟩),t40] w (pk K) fun t41 w=>
 DoX prog (mSlice 9 (.string ⟨t.toArray⟩) none (some (.int .i64 (n:Int))) none) w (pk K) fun t44 w=>
 CallX prog 187 #[.pointer (some ⟨b,0,none⟩),t44] w (pk K) fun t45 w=>
 DoX prog (mSlice 9 (.string ⟨t.toArray⟩) (some (.int .i64 (n:Int))) none none) w (pk K) fun t48 w=>N1 [t48] w:=by
 rw[wrap64_id (by omega) (by omega),show (n:Int) - 1=((n - 1:Nat):Int) by omega];refine do_eq (run_c_int (by kernel_rfl) Tryz.underlying5) |>.mpr ?_;rw[wrap8];refine c_turn 0 ho rfl (writeByte_ret (c:=UInt8.ofNat (n - 1)) (ho.at_ 0 rfl) (by omega)) ?_;rintro _ _ w4 ⟨rfl,v',rfl⟩ ho;rw[s_upto Tryz.underlying9 (by omega) (by omega),Int.toNat_natCast];refine c_turn 0 ho rfl (writeString_ret (ho.at_ 0 rfl) (by rw[List.length_append,List.length_take];show l.length+1+_≤_;omega)) ?_;rintro _ _ w5 ⟨⟨x,rfl⟩,v'',rfl⟩ ho;rw[s_from Tryz.underlying9 (by omega) (by omega),Int.toNat_natCast];exact k v'' w5 ho
end
theorem arun_ret (s:List UInt8)(w:World)(hs:s.length≤1000000000):Ret prog 119 #[.string ⟨s.toArray⟩] w (fun v w'=>v=.string ⟨(Ax.pack s).toArray⟩∧Below w.heap.size w w'):=by
 refine ret_of fun K hK=>S_ascii_Run_ok ?_;unfold S_ascii_Run dx;refine o_new (fun b=>.pointer (some ⟨b,0,none⟩)) [.pointer none,.slice none 0 0] 188 (fun _=>by kernel_rfl) (Own.start w) fun b w1 ho=>?_;have hB0:∃v0,Own w w1 [Bld b v0 []]:=⟨_,OwnS.closeB (l:=[]) (.inl rfl) roomy_nil (ho.nilRow 5 1).swap⟩;obtain⟨v0,ho⟩:=hB0;refine loop (fun vs W=>∃(t:List UInt8) (v:Value) (l:List UInt8),vs=[.string ⟨t.toArray⟩]∧t.length≤s.length∧l.length+2*t.length≤2*s.length∧(∃f,t.length < f∧l++Ax.packG f t=Ax.pack s)∧Own w W [Bld b v l]) (fun vs _=>strLen (vs.getD 0 undef)) ⟨s,v0,[],rfl,Nat.le_refl _,by simp,⟨s.length+1,by omega,rfl⟩,ho⟩ ?_;clear ho;rintro vs w2 ⟨t,v,l,rfl,ht,hl,⟨f,hf,hX⟩,ho⟩ _;simp only[S_ascii_Run_0,gd,iN,dx,cx];obtain⟨f,rfl⟩:∃f',f=f'+1:=⟨f - 1,by omega⟩;unfold Ax.packG at hX;rw[show (Value.string ⟨#[]⟩)=.string ⟨([]:List UInt8).toArray⟩ from rfl,n_str];by_cases h0:t=[]
 ·rw[if_pos h0] at hX;rw[decide_eq_false (fun h=>h h0),i_f];refine c_turn 0 ho rfl (writeByteN_ret (n:=128) (k:=128) (ho.at_ 0 rfl) (by omega) rfl (by omega)) ?_;rintro _ _ w3 ⟨rfl,v',rfl⟩ ho;refine c_turn 0 ho rfl (bldString_ret (ho.at_ 0 rfl)) ?_;rintro _ _ w4 ⟨rfl,rfl⟩ ho;exact hK _ _ ⟨by rw[←hX];rfl,ho.done⟩
 rw[if_neg h0] at hX;rw[decide_eq_true (show t≠[] from h0),i_t];have htp:=List.length_pos_iff.2 h0;refine c_below ho (aalike_ret t w2 (by omega)) ?_;rintro _ w3 rfl ho;have hal:Ax.alike t≤128∧Ax.alike t≤t.length:=Ax.alikeG_le _ _ _
 try simp only[rs]
 by_cases h3:3≤Ax.alike t
 ·rw[if_pos h3] at hX;simp only[show decide ((3:Int)≤(Ax.alike t:Int))=true from decide_eq_true (by omega),i_t];generalize Ax.alike t=n at *;rw[m_min,show min (n:Int) 128=(n:Int) by omega]
  try simp only[rs]
  rw[wrap64_id (by omega) (by omega),show (257:Int) - (n:Int)=((257 - n:Nat):Int) by omega];refine do_eq (run_c_int (by kernel_rfl) Tryz.underlying5) |>.mpr ?_;rw[wrap8];refine c_turn 0 ho rfl (writeByte_ret (c:=UInt8.ofNat (257 - n)) (ho.at_ 0 rfl) (by omega)) ?_;rintro _ _ w4 ⟨rfl,v',rfl⟩ ho;rw[s_ix (c:=t.getD 0 0) Tryz.underlying9 (by decide) (get0 htp)];refine c_turn 0 ho rfl (writeByte_ret (c:=t.getD 0 0) (ho.at_ 0 rfl) (by rw[List.length_append];show l.length+1 < _;omega)) ?_;rintro _ _ w5 ⟨rfl,v'',rfl⟩ ho;rw[s_from Tryz.underlying9 (by omega) (by omega),Int.toNat_natCast];refine nextX ⟨t.drop n,v'',_,rfl,by rw[List.length_drop];omega,?_,⟨f,by rw[List.length_drop];omega,?_⟩,ho⟩ ?_
  ·rw[List.length_append,List.length_append,List.length_drop];show l.length+1+1+_≤_;omega
  ·rw[←hX];simp[List.append_assoc]
  ·show strLen (.string ⟨(t.drop n).toArray⟩) < strLen (.string ⟨t.toArray⟩);rw[strLen_is,strLen_is,List.length_drop];omega
 rw[if_neg h3] at hX;simp only[show decide ((3:Int)≤(Ax.alike t:Int))=false from decide_eq_false (by omega),i_f];have fin:∀(v':Value) (W:World) (n:Nat),n=Ax.lit t→Own w W [Bld b v' (l++[UInt8.ofNat (n - 1)]++t.take n)]→1≤n→n≤min t.length 128→NextX (fun vs W=>∃(t:List UInt8) (v:Value) (l:List UInt8),vs=[.string ⟨t.toArray⟩]∧t.length≤s.length∧l.length+2*t.length≤2*s.length∧(∃f,t.length < f∧l++Ax.packG f t=Ax.pack s)∧Own w W [Bld b v l]) (fun vs _=>strLen (vs.getD 0 undef)) [.string ⟨t.toArray⟩] w2 [.string ⟨(t.drop n).toArray⟩] W:=by
  intro v' W n hlit ho hn1 hn;refine nextX ⟨t.drop n,v',_,rfl,by rw[List.length_drop];omega,?_,⟨f,by rw[List.length_drop];omega,?_⟩,ho⟩ ?_
  ·rw[List.length_append,List.length_append,List.length_drop,List.length_take];show l.length+1+_+_≤_;omega
  ·rw[←hX,←hlit];simp[List.append_assoc]
  ·show strLen (.string ⟨(t.drop n).toArray⟩) < strLen (.string ⟨t.toArray⟩);rw[strLen_is,strLen_is,List.length_drop];omega
 refine loop (fun vs W=>∃n:Nat,vs=[.int .i64 (n:Int)]∧1≤n∧n≤min t.length 128∧(∃g,128 - n < g∧Ax.litG g n t=Ax.lit t)∧Own w W [Bld b v l]) (fun vs _=>128 - n0 vs) ⟨1,rfl,by omega,by omega,⟨128,by omega,rfl⟩,ho⟩ ?_;clear ho;rintro vs w4 ⟨n,rfl,hn1,hn,⟨g,hg,hY⟩,ho⟩ _;simp only[S_ascii_Run_1,gd,iN,dx,gtx,ctx,etx,cx];obtain⟨g,rfl⟩:∃g',g=g'+1:=⟨g - 1,by omega⟩;unfold Ax.litG at hY;rw[s_len Tryz.underlying9,m_min,show min (t.length:Int) 128=((min t.length 128:Nat):Int) by omega]
 try simp only[rs]
 by_cases hm:n < min t.length 128
 case neg=>
  rw[if_neg (fun h=>hm h.1)] at hY;simp only[decide_eq_false (show ¬(n:Int) < ((min t.length 128:Nat):Int) by omega),rs,i_f];refine c_alit ho hn1 (by omega) (by omega) fun v' W ho=>fin v' W n hY ho hn1 hn
 simp only[decide_eq_true (show (n:Int) < ((min t.length 128:Nat):Int) by omega),rs];rw[s_from Tryz.underlying9 (by omega) (by omega),Int.toNat_natCast];refine c_below ho (aalike_ret (t.drop n) w4 (by rw[List.length_drop];omega)) ?_;rintro _ w5 rfl ho;simp only[rs];by_cases ha:Ax.alike (t.drop n) < 3
 ·rw[if_pos ⟨hm,ha⟩] at hY;simp only[decide_eq_true (show (Ax.alike (t.drop n):Int) < 3 by omega),rs,i_t];rw[wrap64_id (by omega) (by omega)];exact nextX ⟨n+1,rfl,by omega,by omega,⟨g,by omega,hY⟩,ho⟩ (by simp[n0,RowKit.intOf];omega)
 ·rw[if_neg (fun h=>ha h.2)] at hY;simp only[decide_eq_false (show ¬(Ax.alike (t.drop n):Int) < 3 by omega),rs,i_f];refine c_alit ho hn1 (by omega) (by omega) fun v' W ho=>fin v' W n hY ho hn1 hn
end
section
open Go
namespace Bd
def strm (o:Ob)(data:List UInt8):Ob:=.mk 9 (Vl.without o Vl.lenK).n (Vl.without o Vl.lenK).g data (Vl.without o Vl.lenK).keys (Vl.without o Vl.lenK).kids
theorem without_out {o:Ob}(h:Vl.check 1 o=0)(h7:o.k=7):Vl.lenK ∉ (Vl.without o Vl.lenK).keys:=by
 have hk:Vl.keyed o=true:=by simp[Vl.keyed,h7]
 have hc:=Vl.without_check (key:=Vl.lenK) h hk;have hk':Vl.keyed (Vl.without o Vl.lenK)=true:=by
  have e:(Vl.without o Vl.lenK).k=o.k:=rfl;simp[Vl.keyed,e,h7]
 obtain⟨_,hlen⟩:=Vl.valid_keys hc hk';intro hm;have hg:=Vl.get_without o Vl.lenK;unfold Vl.get at hg;rw[if_pos hk',if_pos (List.idxOf_lt_length_of_mem hm),List.getElem?_eq_getElem (by rw[←hlen];exact List.idxOf_lt_length_of_mem hm)] at hg;cases hg
theorem strm_check {o:Ob}{data:List UInt8}(h:Vl.check 1 o=0)(h7:o.k=7)(hd:data.length≤1048576):Vl.check 1 (strm o data)=0:=by
 have hk:Vl.keyed o=true:=by simp[Vl.keyed,h7]
 have hc:=Vl.without_check (key:=Vl.lenK) h hk;have hout:=without_out h h7;have h7':(Vl.without o Vl.lenK).k=7:=h7;unfold strm;generalize Vl.without o Vl.lenK=x at *;obtain⟨⟨a1,a2,a3,a4,a5,a6,a7⟩,hkids⟩:=Vl.check_iff.1 hc;obtain⟨k,n,g,s,ks,cs⟩:=x;simp only[Ob.k,Ob.n,Ob.g,Ob.s,Ob.keys,Ob.kids] at *;subst h7';refine Vl.check_iff.2 ⟨⟨a1,?_,fun _=>Int.le_refl 1 |> fun _=>by omega,?_,?_,a6,?_⟩,hkids⟩
 ·unfold Vl.usesOk at a2 ⊢;simp only[Ob.k,Ob.n,Ob.g,Ob.s,Ob.keys,Ob.kids,Vl.used] at a2 ⊢
  simp_all
  exact a2.1
 ·simp[Vl.fits,Ob.k]
 ·simpa[Vl.long,Ob.k,Ob.s] using hd
 ·unfold Vl.form at a7 ⊢;simp only[Ob.k] at a7 ⊢;simp only[show decide ((7:Int)=7∨(7:Int)=9)=true by decide,Bool.not_true,Bool.false_or,Bool.and_eq_true] at a7;obtain⟨r1,r2,r3,r4⟩:=Vl.rising_iff.1 a7.2;have hr:Vl.rising (.mk 9 n g data ks cs)=true:=Vl.rising_iff.2 ⟨r1,r2,fun q hq=>⟨(r3 q hq).1,fun _ e=>hout (e▸hq)⟩,r4⟩;simp[hr]
theorem drop_without {o:Ob}(h:Vl.check 1 o=0)(h7:o.k=7):(if Vl.keyed o=true∧Vl.check 1 o=0 then Vl.without o Vl.lenK else o)=Vl.without o Vl.lenK:=by
 rw[if_pos ⟨by simp[Vl.keyed,h7],h⟩]
end Bd
end
section
open Eng
def S_value_Stream(t0 t1 w)(K:KT):=
 dx (mBox 25 t0) w K fun t2 w=>dx (mAlloc 25) w K fun t4 w=>dx (mFA 25 t2 0) w K fun t8 w=>dx (mLoad 3 t8) w K fun t9 w=>dx (mEq .neq 3 (.tmp 9) (.const (iN 7)) t9 (iN 7)) w K fun t10 w=>IfX t10 (dx (mBuild 25 #[]) w K fun t11 w=>dx (mStore 25 t4 t11) w K fun _ w=>RetX prog [.cell t4 25,.val (iN 10)] w K) (dx (mLoad 25 t2) w K fun t12 w=>cx 86 #[t12] w K fun t13 w=>dx (mEq .neq 30 (.tmp 14) (.const (iN 0)) t13 (iN 0)) w K fun t15 w=>IfX t15 (dx (mBuild 25 #[]) w K fun t16 w=>dx (mStore 25 t4 t16) w K fun _ w=>RetX prog [.cell t4 25,.val t13] w K) (dx (mLoad 25 t2) w K fun t18 w=>cx 88 #[t18,(.string ⟨#[76,101,110,103,116,104]⟩)] w K fun t19 w=>dx (mAlloc 25) w K fun t7 w=>dx (mStore 25 t7 t19) w K fun _ w=>dx (mFA 25 t7 0) w K fun t20 w=>dx (mStore 3 t20 (iN 9)) w K fun _ w=>dx (mFA 25 t7 3) w K fun t22 w=>dx (mStore 9 t22 t1) w K fun _ w=>dx (mLoad 25 t7) w K fun t23 w=>cx 139 #[t23] w K fun t24 w=>dx (mExt t24 0) w K fun t25 w=>dx (mExt t24 1) w K fun t26 w=>dx (mStore 25 t4 t25) w K fun _ w=>RetX prog [.cell t4 25,.val t26] w K))
theorem S_value_Stream_ok{t0 t1 w K}(h:S_value_Stream t0 t1 w K):Calls prog 87 #[t0,t1] w K:=cw Tryz.func87 rfl rfl (by kernel_rfl) h
end
end Go.Proofs.YtlipjfcbjemicaaGreatDoor

namespace Go.Proofs.YtlipjfcbjemicaaGreatDoor
section
open Eng Go.RowKit
theorem vstream_ret (o:Ob)(v:Value)(data:List UInt8)(M:Mem)(w:World)(h7:o.k=7)(hc:Vl.check 1 o=0)(hd:data.length≤1048576)(hw:o.wt≤1000000000)(hM:M.has w)(hv:OV M.A M.w v o) :
  RetM prog 87 #[v,.string ⟨data.toArray⟩] M w (fun r N=>∃v',r=errV v' 0∧OV N.A N.w v' (Bd.strm o data)):=by
 obtain⟨vk,vc,cs,rfl,ha⟩:=hv.open;refine retM_of hM fun K hK=>S_value_Stream_ok ?_;unfold S_value_Stream iN dx cx;refine o_obb o ha.keys.one ha.kids.one (OwnS.memS hM) fun b2 w1 ho=>?_;refine o_oba ho fun b4 w2 ho=>?_;rw[fa_o0,ob_k ho 1 rfl];simp only[rs,h7,show decide ((7:Int)≠7)=false by decide,i_f];rw[ob_v ho 1 rfl];refine c_below ho (R:=fun v=>v=.int .i64 (Vl.check 1 o)) (vCheck_ret o _ w2 (OV.inw (ho.hasM 2 rfl) hv) (by omega)) ?_;rintro _ w3 rfl ho;simp only[hc,n_err,show decide ((0:Int)≠0)=false by decide,i_f];rw[ob_v ho 1 rfl];refine c_mem ho 2 rfl (vdrop_ret o _ Vl.lenK M w3 (by omega) (ho.hasM 2 rfl) hv) fun y N w4 hle hy ho=>?_;have hdr:Vl.drop o Vl.lenK=Vl.without o Vl.lenK:=by unfold Vl.drop;exact Bd.drop_without hc h7
 rw[hdr] at hy;have hck:=Bd.strm_check (data:=data) hc h7 hd;have hwt:=Vl.without_wt o Vl.lenK;have hst:Bd.strm o data=.mk 9 (Vl.without o Vl.lenK).n (Vl.without o Vl.lenK).g data (Vl.without o Vl.lenK).keys (Vl.without o Vl.lenK).kids:=rfl;generalize Vl.without o Vl.lenK=x at *;obtain⟨yk,yc,ycs,rfl,hya⟩:=hy.open;refine o_oba ho fun b7 w5 ho=>?_;refine ob_put 0 hya.keys.one hya.kids.one ho rfl fun w6 ho=>?_;rw[fa_o0];refine o_store 0 ho rfl (by kernel_rfl) rfl (show 0 < 6 by omega) fun w7 ho=>?_;rw[fa_o3];refine o_store 0 ho rfl (by kernel_rfl) rfl (show 0+3 < 6 by omega) fun w8 ho=>?_;have ho:OwnS M.A w w8 [obE b7 (Bd.strm o data) yk yc,obE b4 ob0 nilS nilS,obE b2 o vk vc,.mem N]:=by rw[hst];exact ho
 have hsv:OV N.A N.w (obV (Bd.strm o data) yk yc) (Bd.strm o data):=by
  rw[hst];exact ObAt.ov (o:=.mk 9 x.n x.g data x.keys x.kids) (vk:=yk) (vc:=yc) (cs:=ycs) ⟨hya.keys,hya.kids,hya.all⟩
 have hsw:(Bd.strm o data).wt≤100000000000:=by
  have e1:=Vl.wt_eq (Bd.strm o data);have e2:=Vl.wt_eq x;rw[hst] at e1 ⊢;simp only[Ob.s,Ob.keys,Ob.kids] at e1 e2 ⊢;omega
 rw[ob_v ho 0 rfl];refine c_mem ho 3 rfl (sound_ret _ _ N w8 hsw (ho.hasM 3 rfl) hsv) ?_;rintro _ N2 w9 hle2 ⟨t,rfl,ht⟩ ho;have hrt:Vl.right (Bd.strm o data)=(Bd.strm o data,0):=by unfold Vl.right;rw[if_neg (by simp[hck])]
 rw[hrt] at ht;obtain⟨tk,tc,tcs,rfl,hta⟩:=ht.open;simp only[errV,ex,hrt];refine ob_put 1 hta.keys.one hta.kids.one ho rfl fun w10 ho=>?_;exact ret_ob2 1 ho rfl (hK _ _ N2 _ 3 ho rfl (hle.trans hle2) ⟨_,rfl,hta.ov⟩)
end
section
open Eng Go.RowKit
namespace Ff
def dict7 (o:Ob):Ob:=.mk 7 o.n o.g [] o.keys o.kids
def bare (o:Ob):Ob:=Vl.without (Vl.without (dict7 o) kFilter) kParms
def plain (o:Ob)(data:List UInt8):Ob×Int:=
 if o.k≠9∧o.k≠7 then (Vl.ob0,10)
 else if Vl.check 1 (dict7 o)≠0 then (Vl.ob0,Vl.check 1 (dict7 o))
 else (Bd.strm (bare o) data,0)
theorem dict7_wt (o:Ob):(dict7 o).wt≤o.wt:=by
 obtain⟨k,n,g,s,ks,cs⟩:=o;show (Ob.mk 7 n g [] ks cs).wt≤(Ob.mk k n g s ks cs).wt;rw[Ob.wt,Ob.wt];have:([]:List UInt8).length=0:=rfl;omega
end Ff
theorem fplain_ret (o:Ob)(v:Value)(data:List UInt8)(M:Mem)(w:World)(hd:data.length≤1048576)(hw:o.wt≤1000000000)(hM:M.has w)(hv:OV M.A M.w v o) :
  RetM prog 30 #[v,.string ⟨data.toArray⟩] M w (fun r N=>∃v',r=errV v' (Ff.plain o data).2∧OV N.A N.w v' (Ff.plain o data).1):=by
 obtain⟨vk,vc,cs,rfl,ha⟩:=hv.open;refine retM_of hM fun K hK=>S_filter_Plain_ok ?_;generalize hX:Ff.plain o data=X at hK;unfold Ff.plain at hX;unfold S_filter_Plain iN dx gtx cx;refine o_obb o ha.keys.one ha.kids.one (OwnS.memS hM) fun b2 w1 ho=>?_;refine o_oba ho fun b4 w2 ho=>?_;have no:∀{W:World} {N:Mem} {e:Int} {x:Ob},OwnS M.A w W [obE b4 ob0 nilS nilS,obE b2 x vk vc,.mem N]→M.le N→X=(Vl.ob0,e)→DoX prog (mBuild 25 #[]) W (pk K) (fun t W=>DoX prog (mStore 25 (.pointer (some ⟨b4,0,none⟩)) t) W (pk K) fun _ W=>RetX prog [.cell (.pointer (some ⟨b4,0,none⟩)) 25,.val (.int .i64 e)] W K):=by
  intro W N e x ho hle hx;rw[m_ob0];refine ob_put 0 rfl rfl ho rfl fun w4 ho=>?_;refine ret_ob2 0 ho rfl (hK _ _ N _ 2 ho rfl hle ⟨obV Vl.ob0 nilS nilS,?_,?_⟩)
  ·rw[hx];rfl
  ·rw[hx];exact ob0_ov N
 rw[fa_o0,ob_k ho 1 rfl];simp only[rs];have hv7:OV M.A M.w (obV (Ff.dict7 o) vk vc) (Ff.dict7 o):=ObAt.ov (o:=Ff.dict7 o) (vk:=vk) (vc:=vc) (cs:=cs) ⟨ha.keys,ha.kids,ha.all⟩;have main:¬(o.k≠9∧o.k≠7)→DoX prog (mFA 25 (.pointer (some ⟨b2,0,none⟩)) 0) w2 (pk K) fun t16 w=>
 DoX prog (mStore 3 t16 (.int .i64 7)) w (pk K) fun _ w=>
 DoX prog (mFA 25 (.pointer (some ⟨b2,0,none⟩)) 3) w (pk K) fun t17 w=>
 DoX prog (mStore 9 t17 (.string ⟨#[]⟩)) w (pk K) fun _ w=>
 DoX prog (mLoad 25 (.pointer (some ⟨b2,0,none⟩))) w (pk K) fun t18 w=>
 CallX prog 86 #[t18] w (pk K) fun t19 w=>
 DoX prog (mEq .neq 30 (.tmp 20) (.const (.int .i64 0)) t19 (.int .i64 0)) w (pk K) fun t21 w=>
 IfX t21 (DoX prog (mBuild 25 #[]) w (pk K) fun t22 w=>
 DoX prog (mStore 25 (.pointer (some ⟨b4,0,none⟩)) t22) w (pk K) fun _ w=>
 RetX prog [.cell (.pointer (some ⟨b4,0,none⟩)) 25,.val t19] w K) (DoX prog (mLoad 25 (.pointer (some ⟨b2,0,none⟩))) w (pk K) fun t24 w=>
 CallX prog 88 #[t24,(.string ⟨#[70,105,108,116,101,114]⟩)] w (pk K) fun t25 w=>
 CallX prog 88 #[t25,(.string ⟨#[68,101,99,111,100,101,80,97,114,109,115]⟩)] w (pk K) fun t26 w=>
 CallX prog 87 #[t26,.string ⟨data.toArray⟩] w (pk K) fun t28 w=>
 DoX prog (mExt t28 0) w (pk K) fun t29 w=>
 DoX prog (mExt t28 1) w (pk K) fun t30 w=>
 DoX prog (mStore 25 (.pointer (some ⟨b4,0,none⟩)) t29) w (pk K) fun _ w=>
 RetX prog [.cell (.pointer (some ⟨b4,0,none⟩)) 25,.val t30] w K):=by
  intro hk;rw[if_neg hk] at hX;rw[fa_o0];refine o_store 1 ho rfl (by kernel_rfl) rfl (show 0 < 6 by omega) fun w3 ho=>?_;rw[fa_o3];refine o_store 1 ho rfl (by kernel_rfl) rfl (show 0+3 < 6 by omega) fun w4 ho=>?_;have ho:OwnS M.A w w4 [obE b4 ob0 nilS nilS,obE b2 (Ff.dict7 o) vk vc,.mem M]:=ho;have hwt:=Ff.dict7_wt o;have hb:Bd.strm (Ff.bare o) data=Bd.strm (Vl.without (Vl.without (Ff.dict7 o) Ff.kFilter) Ff.kParms) data:=rfl;have h7:(Ff.dict7 o).k=7:=rfl;rw[hb] at hX;generalize Ff.dict7 o=d at hX hwt ho hv7 h7;rw[ob_v ho 1 rfl];refine c_below ho (R:=fun v=>v=.int .i64 (Vl.check 1 d)) (vCheck_ret d _ w4 (OV.inw (ho.hasM 2 rfl) hv7) (by omega)) ?_;rintro _ w5 rfl ho;simp only[n_err];by_cases hc:Vl.check 1 d=0
  case neg=>
   rw[if_pos hc] at hX;simp only[decide_eq_true (show Vl.check 1 d≠0 from hc),i_t];exact no ho M.le_refl hX.symm
  rw[if_neg (fun h=>h hc)] at hX;simp only[hc,show decide ((0:Int)≠0)=false from rfl,i_f];rw[ob_v ho 1 rfl];refine c_mem ho 2 rfl (vdrop_ret d _ Ff.kFilter M w5 (by omega) (ho.hasM 2 rfl) hv7) fun y1 N1 w6 l1 hy1 ho=>?_;have e1:Vl.drop d Ff.kFilter=Vl.without d Ff.kFilter:=by unfold Vl.drop;rw[if_pos ⟨by simp[Vl.keyed,h7],hc⟩]
  rw[e1] at hy1;have hc1:=Vl.without_check (key:=Ff.kFilter) hc (by simp[Vl.keyed,h7]);have h71:(Vl.without d Ff.kFilter).k=7:=h7;have hw1:=Vl.without_wt d Ff.kFilter;generalize Vl.without d Ff.kFilter=d1 at *;refine c_mem ho 2 rfl (vdrop_ret d1 _ Ff.kParms N1 w6 (by omega) (ho.hasM 2 rfl) hy1) fun y2 N2 w7 l2 hy2 ho=>?_;have e2:Vl.drop d1 Ff.kParms=Vl.without d1 Ff.kParms:=by unfold Vl.drop;rw[if_pos ⟨by simp[Vl.keyed,h71],hc1⟩]
  rw[e2] at hy2;have hc2:=Vl.without_check (key:=Ff.kParms) hc1 (by simp[Vl.keyed,h71]);have h72:(Vl.without d1 Ff.kParms).k=7:=h71;have hw2:=Vl.without_wt d1 Ff.kParms;generalize Vl.without d1 Ff.kParms=d2 at *;refine c_mem ho 2 rfl (vstream_ret d2 _ data N2 w7 h72 hc2 hd (by omega) (ho.hasM 2 rfl) hy2) ?_;rintro _ N3 w8 l3 ⟨t,rfl,ht⟩ ho;obtain⟨tk,tc,tcs,rfl,hta⟩:=ht.open;simp only[errV,ex];refine ob_put 0 hta.keys.one hta.kids.one ho rfl fun w9 ho=>?_;exact ret_ob2 0 ho rfl (hK _ _ N3 _ 2 ho rfl ((l1.trans l2).trans l3) ⟨_,by rw[←hX];rfl,by rw[←hX];exact hta.ov⟩)
 by_cases k9:o.k=9
 ·simp only[decide_eq_false (show ¬o.k≠9 from fun h=>h k9),rs,g_un,i_f];exact main (fun h=>h.1 k9)
 simp only[decide_eq_true (show o.k≠9 from k9),rs];rw[fa_o0,ob_k ho 1 rfl];simp only[rs];by_cases k7:o.k=7
 ·simp only[decide_eq_false (show ¬o.k≠7 from fun h=>h k7),rs,i_f];exact main (fun h=>h.2 k7)
 ·simp only[decide_eq_true (show o.k≠7 from k7),rs,i_t];rw[if_pos ⟨k9,k7⟩] at hX;exact no ho M.le_refl hX.symm
theorem eqPm:eqT prog 27 [(0,false),(1,false),(2,false)]:=⟨by kernel_rfl,by kernel_rfl,by kernel_rfl,by kernel_rfl⟩
def Pm.eqb (x y:Pm):Bool:=decide (x.p=y.p)&&(decide (x.c=y.c)&&decide (x.n=y.n))
theorem pm_beq (x y:Pm):([(0,false),(1,false),(2,false)]:List (Nat×Bool)).all (fun p=>cellEq (pmC x).toArray[p.1]? (pmC y).toArray[p.1]?)=Pm.eqb x y:=by
 have e:([(0,false),(1,false),(2,false)]:List (Nat×Bool)).all (fun p=>cellEq (pmC x).toArray[p.1]? (pmC y).toArray[p.1]?)=((x.p==y.p)&&((x.c==y.c)&&((x.n==y.n)&&true))):=rfl;rw[e];unfold Pm.eqb;rw[Bool.and_true];rfl
theorem r_pmeq {w:World}{xo yo:Operand}{x y:Pm}:(mEq .eql 27 xo yo (pmV x) (pmV y)).run prog w=.ok (.value (.bool (Pm.eqb x y))) w:=by
 rw[←pm_beq];exact run_eql_agg eqPm rfl
theorem r_pmne {w:World}{xo yo:Operand}{x y:Pm}:(mEq .neq 27 xo yo (pmV x) (pmV y)).run prog w=.ok (.value (.bool (!Pm.eqb x y))) w:=by
 rw[←pm_beq];exact run_neq_agg eqPm rfl
theorem ftoldU_ret (M:Mem)(w:World)(hM:M.has w):RetM prog 68 #[pmV Ff.usual] M w (fun r _=>r=errV (obV Vl.ob0 nilS nilS) 0):=by
 refine retM_of hM fun K hK=>S_filter_told_ok ?_;unfold S_filter_told iN dx;refine o_pmb Ff.usual (OwnS.memS hM) fun b1 w1 ho=>?_;refine o_oba ho fun b2 w2 ho=>?_;refine quietC (fun W=>OwnS M.A w W [obE b2 ob0 nilS nilS,pmE b1 Ff.usual,.mem M]) ho.drew ?_;refine q_at (pmV Ff.usual) (fun W h=>run_load_at (h.agg 1 rfl aggPm)) ?_;refine q_call (pmV Ff.usual) (fun W h=>(fusual_ret W).mono fun v w' ⟨k1,k2⟩=>⟨k1,h.grow k2⟩) ?_;refine q_do _ (fun _=>r_pmeq) ?_;intro w3 ho;rw[show Pm.eqb Ff.usual Ff.usual=true from rfl,i_t,m_ob0];refine ob_put 0 rfl rfl ho rfl fun w4 ho=>?_;exact ret_ob2 0 ho rfl (hK _ _ M _ 2 ho rfl M.le_refl rfl)
def Ff.alone (os:List Ob):Ob:=if os.length=1 then os.getD 0 Vl.ob0 else .mk 6 0 0 [] [] os
theorem falone_ret (os:List Ob)(v:Value)(cs:List Value)(M:Mem)(w:World)(hw:Ob.wts os≤1000000000)(hM:M.has w)(h:LsAt M v os cs):RetM prog 71 #[v] M w (fun r N=>OV N.A N.w r (Ff.alone os)):=by
 refine retM_of hM fun K hK=>S_filter_alone_ok ?_;unfold S_filter_alone iN dx cx;refine o_oba (OwnS.memS hM) fun b2 w1 ho=>?_;rw[ls_len h];simp only[rs];by_cases h1:os.length=1
 ·simp only[show decide ((os.length:Int)=1)=true from decide_eq_true (by omega),i_t];refine ls_get (i:=0) h (by omega) (ho.hasM 1 rfl) fun yk yc hy=>?_;refine ob_put 0 hy.oneK hy.oneC ho rfl fun w2 ho=>?_;refine ret_v1 (rv_cell (ho.agg 0 rfl aggOb)) (hK _ _ M _ 1 ho rfl M.le_refl ?_);have:Ff.alone os=os[0]:=by unfold Ff.alone;rw[if_pos h1,List.getD_eq_getElem?_getD,List.getElem?_eq_getElem (by omega),Option.getD_some]
  rw[this];exact hy
 ·simp only[show decide ((os.length:Int)=1)=false from decide_eq_false (by omega),i_f];refine c_mem ho 1 rfl (varr_ret os _ cs M w1 (by omega) (ho.hasM 1 rfl) h.sl h.all) fun y N w2 l1 hy ho=>?_;obtain⟨yk,yc,ycs,rfl,hya⟩:=hy.open;refine ob_put 0 hya.keys.one hya.kids.one ho rfl fun w3 ho=>?_;refine ret_v1 (rv_cell (ho.agg 0 rfl aggOb)) (hK _ _ N _ 1 ho rfl l1 ?_);unfold Ff.alone;rw[if_neg h1];exact hya.ov
theorem fmay0_ret (ns:List (List UInt8))(vn:Value)(M:Mem)(w:World)(h8:ns.length≤8)(hf:∀n∈ns,Ff.full n≠[])(hM:M.has w)(hn:SlA M.A M.w vn 1 ns.length (strsV ns)) :
  RetM prog 67 #[vn,nilS] M w (fun r N=>∃va vb,r=.tuple #[va,vb,.int .i64 0]∧SlA N.A N.w va 1 (ns.map Ff.full).length (strsV (ns.map Ff.full))∧SlA N.A N.w vb 3 (List.replicate ns.length Ff.usual).length ((List.replicate ns.length Ff.usual).flatMap pmC)):=by
 refine retM_of hM fun K hK=>S_filter_may_ok ?_;unfold S_filter_may iN dx;have ho:OwnS M.A w w [.mem M]:=OwnS.memS hM;rw[str_len hn];simp only[rs,show decide ((8:Int) < (ns.length:Int))=false from decide_eq_false (by omega),i_f];rw[str_len hn];have ho:=OwnS.nilU ho 9 1;refine loop (fun vs W=>∃(i:Nat) (ov:Value),vs=[ov,.int .i64 (i:Int)]∧i≤ns.length∧OwnS M.A w W [stsE ov ((ns.take i).map Ff.full),.mem M]) (fun vs _=>ns.length - n1 vs) ⟨0,nilS,rfl,by omega,ho⟩ ?_;clear ho;rintro vs w1 ⟨i,ov,rfl,hi,ho⟩ _;simp only[S_filter_may_0,gd,rs,iN,dx,gtx,etx,cx];by_cases hlt:(i:Int) < (ns.length:Int)
 ·simp only[hlt,decide_true,i_t];have hi':i < ns.length:=by omega
  obtain⟨p,hia,hld⟩:=strAt hn hi';rw[do_eq (hia w1),do_eq (hld w1 (ho.hasM 1 rfl))];refine c_eq (ffull_ret ns[i] w1) ?_;simp only[ex,rs,decide_eq_true (hf _ (List.getElem_mem hi')),Bool.not_true,i_f];refine o_sts1 _ ho (by rw[List.length_map,List.length_take];omega) fun ov' W2 ho=>?_
  try simp only[rs]
  rw[wrap64_id (by omega) (by omega)];refine nextX ⟨i+1,ov',rfl,by omega,?_⟩ (by simp[n1,RowKit.intOf];omega);rw[List.take_succ_eq_append_getElem hi',List.map_append];exact ho
 simp only[hlt,decide_false,i_f];have:i=ns.length:=by omega
 subst this;rw[List.take_length] at ho;obtain⟨N1,l1,hs1,ho⟩:=ho.freezeU 0 rfl;have ho:OwnS M.A w w1 [.mem N1]:=ho;rw[sl_len_any Tryz.underlying40];simp only[rs,show decide (((0:Nat):Int)≠0)=false from rfl,i_f,g_un];refine o_new (fun b=>.slice (some ⟨b,0,none⟩) 0 0) [] 27 (fun _=>by kernel_rfl) ho fun b3 w2 ho=>?_;have ho:=OwnS.toU ho (sz:=3) (n:=0) (cap:=0) rfl (Nat.le_refl _) (by decide);have ho:OwnS M.A w w2 [pmsE (.slice (some ⟨b3,0,none⟩) 0 0) [],.mem N1]:=ho;refine o_appendU 0 Tryz.underlying40 elPm (by decide) ho rfl (Sl.nil _ 3 0) (by simp) (by decide) (by decide) fun va w3 ho=>?_;have ho:OwnS M.A w w3 [pmsE va [],.mem N1]:=ho;rw[str_len hs1,List.length_map];refine loop (fun vs W=>∃(i:Nat) (ov:Value),vs=[ov,.int .i64 (i:Int)]∧i≤ns.length∧OwnS M.A w W [pmsE ov (List.replicate i Ff.usual),.mem N1]) (fun vs _=>ns.length - n1 vs) ⟨0,va,rfl,by omega,ho⟩ ?_;clear ho;rintro vs w4 ⟨i,pv,rfl,hi,ho⟩ _;simp only[S_filter_may_1,gd,rs,iN,dx,cx];by_cases hlt:(i:Int) < (ns.length:Int)
 ·simp only[hlt,decide_true,i_t];have hi':i < (ns.map Ff.full).length:=by rw[List.length_map];omega
  obtain⟨p,hia,hld⟩:=strAt hs1 hi';rw[do_eq (hia w4),do_eq (hld w4 (ho.hasM 1 rfl))];refine join fun J hJ=>?_;rw[sl_len_any Tryz.underlying40];simp only[rs,show decide (((0:Nat):Int)=0)=true from rfl,i_t];refine c_below ho (fusual_ret w4) ?_;rintro _ w5 rfl ho;refine o_pms1 _ ho (by rw[List.length_replicate];omega) fun pv' W2 ho=>?_;have ho:OwnS M.A w W2 [pmsE pv' (List.replicate (i+1) Ff.usual),.mem N1]:=by rw[List.replicate_succ'];exact ho
  refine hJ _ _ fun _=>?_;simp only[S_filter_may_2,gd,iN,dx];refine quietC (fun W=>OwnS M.A w W [pmsE pv' (List.replicate (i+1) Ff.usual),.mem N1]) ho.drew ?_;obtain⟨g,cap,hv1,hia2,hld2,_⟩:=rec_row pmC_len Tryz.underlying40 szPm aggPm 0 ho rfl (j:=i) (by rw[List.length_replicate];omega);rw[show (Value.string ⟨#[70,108,97,116,101,68,101,99,111,100,101]⟩)=.string ⟨Ff.nFl.toArray⟩ from rfl];refine q_sne ?_;have next:∀W,OwnS M.A w W [pmsE pv' (List.replicate (i+1) Ff.usual),.mem N1]→DoX prog (mBin .add 3 (.int .i64 (i:Int)) (.int .i64 1)) W (pk K) (fun t73 W=>NextX (fun vs W=>∃(i:Nat) (ov:Value),vs=[ov,.int .i64 (i:Int)]∧i≤ns.length∧OwnS M.A w W [pmsE ov (List.replicate i Ff.usual),.mem N1]) (fun vs _=>ns.length - n1 vs) [pv,.int .i64 (i:Int)] w4 [pv',t73] W):=by
   intro W ho;rw[b_add,wrap64_id (by omega) (by omega)];exact nextX ⟨i+1,pv',rfl,by omega,ho⟩ (by simp[n1,RowKit.intOf];omega)
  by_cases hfl:(ns.map Ff.full)[i]=Ff.nFl
  ·rw[decide_eq_false (fun h=>h hfl)];simp only[gq,gq_un];refine q_pf ?_;intro w6 ho;rw[i_f];exact next w6 ho
  ·rw[decide_eq_true (show (ns.map Ff.full)[i]≠Ff.nFl from hfl)];simp only[gq];refine q_do _ hia2 (q_at _ (fun W h=>hld2 W (h.at_ 0 rfl)) ?_);rw[List.getElem_replicate];refine q_call (pmV Ff.usual) (fun W h=>(fusual_ret W).mono fun v w' ⟨k1,k2⟩=>⟨k1,h.grow k2⟩) ?_;refine q_do _ (fun _=>r_pmne) (q_pt ?_);intro w6 ho;rw[show (!Pm.eqb Ff.usual Ff.usual)=false from rfl,i_f];exact next w6 ho
 simp only[hlt,decide_false,i_f];have:i=ns.length:=by omega
 subst this;obtain⟨N2,l2,hs2,ho⟩:=ho.freezeU 0 rfl;exact hK _ _ N2 _ 0 ho rfl (l1.trans l2) ⟨ov,pv,rfl,hs1.le l2,hs2⟩
end
section
open Eng Go.RowKit
namespace Ff
def oneA (n s:List UInt8):List UInt8:=if full n=nHx then Oc.hex s++[62] else Ax.pack s
def encN:List (List UInt8)→List UInt8→List UInt8
|[],s=>s
|n::r,s=>oneA n (encN r s)
def nameO (n:List UInt8):Ob:=ob1 5 0 0 n
def enc0 (o:Ob)(ns:List (List UInt8))(data:List UInt8):Ob×Int:=
 if (plain o (encN (ns.map full) data)).2≠0 then (plain o (encN (ns.map full) data))
 else if (Vl.set (plain o (encN (ns.map full) data)).1 kFilter (alone ((ns.map full).map nameO))).2≠0 then (Vl.ob0,(Vl.set (plain o (encN (ns.map full) data)).1 kFilter (alone ((ns.map full).map nameO))).2)
 else ((Vl.set (plain o (encN (ns.map full) data)).1 kFilter (alone ((ns.map full).map nameO))).1,0)
end Ff
theorem ahex_plain:plainB prog 114=true:=by kernel_rfl
theorem arun_plain:plainB prog 119=true:=by kernel_rfl
theorem sure1_ret (b f:Nat)(s r:List UInt8)(w:World)(hp:plainB prog f=true)(hb:(suE16 b f).is w)(h:Ret prog f #[.string ⟨s.toArray⟩] w (fun v w'=>v=.string ⟨r.toArray⟩∧Below w.heap.size w w')) :
  Ret prog 171 #[.string ⟨s.toArray⟩,.pointer (some ⟨b,0,none⟩)] w (fun v w'=>v=zlT (r,0)∧Below w.heap.size w w'):=by
 refine ret_of fun K hK=>S_filter_sure_1_ok ?_;unfold S_filter_sure_1 iN dx;rw[l_cell nFnS (cells_cell (T:=36) (cs:=[fnV f]) hb (i:=0) rfl)];unfold fnV;refine c_val hp (c_below (Own.start w) h ?_);rintro _ w1 rfl ho;exact hK _ _ ⟨rfl,ho.done⟩
theorem foneA_ret (n:List UInt8)(x:Pm)(s:List UInt8)(w:World)(hn:Ff.full n=Ff.nHx∨Ff.full n=Ff.nRL)(hs:s.length≤1000000) :
  Ret prog 17 #[.string ⟨n.toArray⟩,pmV x,.string ⟨s.toArray⟩] w (fun v w'=>v=zlT (Ff.oneA n s,0)∧Below w.heap.size w w'):=by
 refine ret_of fun K hK=>S_filter_One_ok ?_;unfold S_filter_One iN dx cx;refine o_pmb x (Own.start w) fun b4 w1 ho=>?_;rw[pm_v ho 0 rfl];have wone:∀{p u:Value},p.oneCell'=true→u.oneCell'=true→∀y∈wyC p u,y.oneCell'=true:=by
  intro p u hp hu y hy;simp only[wyC,List.mem_cons,List.not_mem_nil,or_false] at hy;rcases hy with rfl|rfl<;>assumption
 refine c_fby ho (fun f g hfg b1 b2 w2 ho=>?_) (fun hf w2 ho=>?_) (fun hf w2 ho=>?_)
 rotate_left
 ·rcases hn with h|h<;>rw[h] at hf<;>exact absurd hf (by decide)
 ·rcases hn with h|h<;>rw[h] at hf<;>exact absurd hf (by decide)
 simp only[ex];refine o_new (fun b=>.pointer (some ⟨b,0,none⟩)) (wyC .nilFunc .nilFunc) 91 (fun _=>by kernel_rfl) ho fun b8 w3 ho=>?_;refine o_put 0 ho rfl (new:=wyC (sureV b1) (uptoV b2)) szWy (wone rfl rfl) rfl fun w4 ho=>?_;have ho:OwnS NoB w w4 [wyE b8 (sureV b1) (uptoV b2),upE b2 g,suE16 b1 f,pmE b4 x]:=ho;simp only[n_err,show decide ((0:Int)≠0)=false from rfl,i_f];rw[s_len Tryz.underlying9];simp only[rs,show decide ((1048576:Int) < (s.length:Int))=false from decide_eq_false (by omega),i_f];rw[f_addr fo_wy0,l_cell nFnW (ho.cell 0 rfl 0 rfl)];have key:∃_:plainB prog f=true,Ret prog f #[.string ⟨s.toArray⟩] w4 (fun v w'=>v=.string ⟨(Ff.oneA n s).toArray⟩∧Below w4.heap.size w4 w'):=by
  rcases hfg with ⟨h,rfl,_⟩|⟨h,rfl,_⟩|⟨h,rfl,_⟩
  ·have e:Ff.oneA n s=Oc.hex s++[62]:=by unfold Ff.oneA;rw[if_pos h]
   rw[e];exact⟨ahex_plain,ahex_ret s w4 hs⟩
  ·rcases hn with h'|h'<;>rw[h'] at h<;>exact absurd h (by decide)
  ·have e:Ff.oneA n s=Ax.pack s:=by unfold Ff.oneA;rw[if_neg (by rw[h];decide)]
   rw[e];exact⟨arun_plain,arun_ret s w4 (by omega)⟩
 obtain⟨hp,key⟩:=key;unfold sureV;refine c_val sure_plain (c_below ho (sure1_ret b1 f s _ w4 hp (ho.at_ 2 rfl) key) ?_);rintro _ w5 rfl ho;simp only[zlT,ex];exact hK _ _ ⟨rfl,ho.done⟩
def nmC (n:List UInt8):List Value:=obC (Ff.nameO n) nilS nilS
theorem nmC_one {n:List UInt8}:∀u∈nmC n,u.oneCell'=true:=by
 intro u hu;simp only[nmC,obC,List.mem_cons,List.not_mem_nil,or_false] at hu;rcases hu with rfl|rfl|rfl|rfl|rfl|rfl<;>rfl
abbrev nmsE (v:Value)(l:List (List UInt8)):Ent:=.recs 25 nmC 6 v l
theorem elObj16:elB prog 25 6 88=true:=by kernel_rfl
theorem nms_ovs {A:Nat→Prop}{W:World}:∀l:List (List UInt8),OVs A W (l.flatMap nmC) (l.map Ff.nameO)
|[]=>by rw[List.map_nil,OVs];rfl
|n::l=>by
  rw[List.map_cons,OVs];exact⟨nmC n,l.flatMap nmC,by rw[List.flatMap_cons],rfl,ObAt.ov (o:=Ff.nameO n) (vk:=nilS) (vc:=nilS) (cs:=[]) ⟨SlA.nil _ _ _ _,SlA.nil _ _ _ _,OVs.nil⟩,nms_ovs l⟩
section
variable {w:World}{PK PK2:PKT}{K:VWP}{S:Nat→Prop}{w0:World}{L:List Ent}
theorem o_nms1 (n:List UInt8){v:Value}{l:List (List UInt8)}{c:Array Bool}(i:Nat)(ho:OwnS S w0 w L)(hi:L[i]?=some (nmsE v l))(hl:l.length≤1000000)(k:∀v' W,OwnS S w0 W (L.set i (nmsE v' (l++[n])))→K v' W) :
  DoX prog (mBuildS 23 1 #[(0,obV (Ff.nameO n) nilS nilS)]) w PK fun t w=>DoX prog (mB .append #[23,23] 23 c #[v,t]) w PK2 K:=by
 refine o_obs1 (Ff.nameO n) (vk:=nilS) (vc:=nilS) rfl rfl ho fun b w1 ho=>?_;refine o_appendU (i+1) Tryz.underlying23 elObj16 (by decide) ho (by rw[List.getElem?_cons_succ];exact hi) (sl_one1 (cs:=nmC n) (ho.at_ 0 rfl) (by decide) rfl) nmC_one (by omega) (by omega) fun v' w2 ho=>k v' w2 ?_;have e:nmsE v' (l++[n])=.urow 25 6 v' (l.length+1) (l.flatMap nmC++nmC n):=by
  unfold nmsE Ent.recs;rw[List.length_append,List.flatMap_append,List.flatMap_singleton];rfl
 rw[e];exact ho.tail
end
end
section
open Eng Go.RowKit
theorem Ff.full_full (n:List UInt8)(h:Ff.full n=Ff.nHx∨Ff.full n=Ff.nRL):Ff.full (Ff.full n)=Ff.nHx∨Ff.full (Ff.full n)=Ff.nRL:=by
 rcases h with h|h<;>rw[h]
 ·exact .inl (by decide)
 ·exact .inr (by decide)
def n0C (_:Unit):List Value:=obC Vl.ob0 nilS nilS
theorem n0C_one {x:Unit}:∀u∈n0C x,u.oneCell'=true:=by
 intro u hu;simp only[n0C,obC,List.mem_cons,List.not_mem_nil,or_false] at hu;rcases hu with rfl|rfl|rfl|rfl|rfl|rfl<;>rfl
abbrev n0sE (v:Value)(l:List Unit):Ent:=.recs 25 n0C 6 v l
theorem fencode0_ret (o:Ob)(v:Value)(ns:List (List UInt8))(vn:Value)(data:List UInt8)(M:Mem)(w:World)(hk:o.k=9∨o.k=7)(h8:ns.length≤8)(h0:ns≠[])(hcls:∀n∈ns,Ff.full n=Ff.nHx∨Ff.full n=Ff.nRL)
  (hb:∀i,(Ff.encN ((ns.map Ff.full).drop i) data).length≤1000000) (hw:o.wt≤100000000) (hx:(Ff.plain o (Ff.encN (ns.map Ff.full) data)).1.wt≤1000000000) (ha:(Ff.alone ((ns.map Ff.full).map Ff.nameO)).wt≤1000000000) (hws:Ob.wts ((ns.map Ff.full).map Ff.nameO)≤1000000000) (hM:M.has w) (hv:OV M.A M.w v o) (hn:SlA M.A M.w vn 1 ns.length (strsV ns)) :
  RetM prog 22 #[v,vn,nilS,.string ⟨data.toArray⟩] M w (fun r N=>∃v',r=errV v' (Ff.enc0 o ns data).2∧OV N.A N.w v' (Ff.enc0 o ns data).1):=by
 obtain⟨vk,vc,ocs,rfl,hoa⟩:=hv.open;refine retM_of hM fun K hK=>S_filter_Encode_ok ?_;generalize hX:Ff.enc0 o ns data=X at hK;unfold Ff.enc0 at hX;unfold S_filter_Encode iN dx gtx cx;refine o_obb o hoa.keys.one hoa.kids.one (OwnS.memS hM) fun b4 w1 ho=>?_;refine o_oba ho fun b8 w2 ho=>?_;rw[fa_o0,ob_k ho 1 rfl];simp only[rs];have hpl:=@fplain_ret o;have hfl:∀n∈ns,Ff.full n≠[]:=fun n h=>by rcases hcls n h with h|h<;>rw[h]<;>decide
 have hl1:(ns.map Ff.full).length=ns.length:=List.length_map _;have hcl2:∀n∈ns.map Ff.full,Ff.full n=Ff.nHx∨Ff.full n=Ff.nRL:=by
  intro n h;obtain⟨m,hm,rfl⟩:=List.mem_map.1 h;exact Ff.full_full m (hcls m hm)
 have main:∀W,OwnS M.A w W [obE b8 ob0 nilS nilS,obE b4 o vk vc,.mem M]→CallX prog 67 #[vn,nilS] W (pk K) fun t31 w=>
 DoX prog (mExt t31 0) w (pk K) fun t32 w=>
 DoX prog (mExt t31 1) w (pk K) fun t33 w=>
 DoX prog (mExt t31 2) w (pk K) fun t34 w=>
 DoX prog (mEq .neq 30 (.tmp 35) (.const (.int .i64 0)) t34 (.int .i64 0)) w (pk K) fun t36 w=>
 IfX t36 (DoX prog (mBuild 25 #[]) w (pk K) fun t37 w=>
 DoX prog (mStore 25 (.pointer (some ⟨b8,0,none⟩)) t37) w (pk K) fun _ w=>
 RetX prog [.cell (.pointer (some ⟨b8,0,none⟩)) 25,.val t34] w K) (DoX prog (mB .len #[22] 3 #[false] #[t32]) w (pk K) fun t40 w=>
 DoX prog (mBin .sub 3 t40 (.int .i64 1)) w (pk K) fun t41 w=>
 LoopX [.string ⟨data.toArray⟩,(.int .i64 0),t41] w (fun vs1 w N1=>∀_:Sg,S_filter_Encode_0 t32 t33 (vs1.getD 0 undef) (.pointer (some ⟨b4,0,none⟩)) (.pointer (some ⟨b8,0,none⟩)) (vs1.getD 1 undef) (vs1.getD 2 undef) w N1 K)):=by
  intro w2 ho;refine c_mem ho 2 rfl (fmay0_ret ns vn M w2 h8 hfl (ho.hasM 2 rfl) hn) ?_;rintro _ N w3 l1 ⟨va,vb,rfl,hva,hvb⟩ ho;have ho:OwnS M.A w w3 [obE b8 ob0 nilS nilS,obE b4 o vk vc,.mem N]:=ho;simp only[ex,x_ext (show [va,vb,Value.int .i64 0][2]?=some (Value.int .i64 0) from rfl),x_ext (show [va,vb,Value.int .i64 0][1]?=some vb from rfl),x_ext (show [va,vb,Value.int .i64 0][0]?=some va from rfl),n_err,show decide ((0:Int)≠0)=false from rfl,i_f];generalize ns.map Ff.full=ms at *;have hlm:(List.replicate ns.length Ff.usual).length=ms.length:=by rw[List.length_replicate,hl1]
  rw[str_len hva]
  try simp only[rs]
  have hm8:ms.length≤8:=by omega
  have hm0:0 < ms.length:=by have:=List.length_pos_iff.2 h0;omega
  rw[wrap64_id (by omega) (by omega)];refine loop (fun vs W=>∃(j:Nat),vs=[.string ⟨(Ff.encN (ms.drop j) data).toArray⟩,.int .i64 0,.int .i64 ((j:Int) - 1)]∧j≤ms.length∧OwnS M.A w W [obE b8 ob0 nilS nilS,obE b4 o vk vc,.mem N]) (fun vs _=>(RowKit.intOf (vs.getD 2 undef)+1).toNat) ⟨ms.length,by rw[List.drop_length];rfl,Nat.le_refl _,ho⟩ ?_;clear ho;rintro vs w4 ⟨j,rfl,hj,ho⟩ _;simp only[S_filter_Encode_0,gd,rs,iN,dx,gfx,efx,cx];by_cases hj0:0 < j
  ·simp only[show decide ((0:Int)≤(j:Int) - 1)=true from decide_eq_true (by omega),i_t];obtain⟨i,rfl⟩:∃i,j=i+1:=⟨j - 1,by omega⟩;rw[show ((i+1:Nat):Int) - 1=(i:Int) by omega];have hi:i < ms.length:=by omega
   obtain⟨p,hia,hld⟩:=strAt hva hi;obtain⟨p2,hia2,hld2⟩:=pmAt hvb (i:=i) (by omega);refine quietC (fun W=>OwnS M.A w W [obE b8 ob0 nilS nilS,obE b4 o vk vc,.mem N]) ho.drew ?_;refine q_do _ hia (q_at _ (fun W h=>hld W (h.hasM 2 rfl)) ?_);refine q_do _ hia2 (q_at _ (fun W h=>hld2 W (h.hasM 2 rfl)) ?_);rw[List.getElem_replicate];refine q_call (zlT (Ff.oneA ms[i] (Ff.encN (ms.drop (i+1)) data),0)) (fun W h=>(foneA_ret ms[i] Ff.usual _ W (hcl2 _ (List.getElem_mem hi)) (hb (i+1))).mono fun v w' ⟨k1,k2⟩=>⟨k1,h.grow k2⟩) ?_;simp only[zlT];refine q_do (.string ⟨(Ff.oneA ms[i] (Ff.encN (ms.drop (i+1)) data)).toArray⟩) (fun _=>by kernel_rfl) (q_do (.int .i64 0) (fun _=>by kernel_rfl) ?_);intro w5 ho;simp only[n_err,show decide ((0:Int)≠0)=false from rfl,i_f]
   try simp only[rs]
   rw[wrap64_id (by omega) (by omega)];refine nextX ⟨i,?_,by omega,ho⟩ (by simp[RowKit.intOf]);rw[List.drop_eq_getElem_cons hi,Ff.encN]
  have hj0:j=0:=by omega
  subst hj0;rw[List.drop_zero];simp only[show decide ((0:Int)≤((0:Nat):Int) - 1)=false from rfl,i_f];have hbz:=hb 0;rw[List.drop_zero] at hbz;generalize Ff.encN ms data=D at hX hbz hx;rw[ob_v ho 1 rfl];refine c_mem ho 2 rfl (fplain_ret o _ D N w4 (by omega) (by omega) (ho.hasM 2 rfl) (hv.le l1)) ?_;generalize Ff.plain o D=P at hX hx;obtain⟨x,pe⟩:=P;rintro _ N2 w5 l2 ⟨xv,rfl,hxo⟩ ho;obtain⟨xk,xc,xcs,rfl,hxa⟩:=hxo.open;dsimp only at hX hx hxa;simp only[errV,ex];refine ob_put 1 hxa.keys.one hxa.kids.one ho rfl fun w6 ho=>?_;have ho:OwnS M.A w w6 [obE b8 ob0 nilS nilS,obE b4 x xk xc,.mem N2]:=ho;simp only[n_err,rs];by_cases hpe:pe=0
  case neg=>
   rw[if_pos hpe] at hX;simp only[decide_eq_true (show pe≠0 from hpe),rs,g_un,i_t];rw[ob_v ho 1 rfl];refine ob_put 0 hxa.keys.one hxa.kids.one ho rfl fun w7 ho=>?_;exact ret_ob2 0 ho rfl (hK _ _ N2 _ 2 ho rfl (l1.trans l2) ⟨_,by rw[←hX];rfl,by rw[←hX];exact hxa.ov⟩)
  rw[if_neg (fun h=>h hpe)] at hX;subst hpe;simp only[show decide ((0:Int)≠0)=false from rfl,rs];rw[str_len hva];simp only[rs,show decide ((ms.length:Int)=0)=false from decide_eq_false (by omega),i_f];rw[str_len hva];have ho:=(OwnS.nilU ho 25 6);have ho:=(OwnS.nilU ho 25 6);have ho:OwnS M.A w w6 [nmsE nilS [],n0sE nilS [],obE b8 ob0 nilS nilS,obE b4 x xk xc,.mem N2]:=ho;have hva2:=hva.le l2;have hvb2:=hvb.le l2;refine loop (fun vs W=>∃(i:Nat) (fv pv:Value) (N3:Mem),vs=[.int .i64 0,fv,pv,.bool false,.int .i64 (i:Int)]∧i≤ms.length∧N2.le N3∧OwnS M.A w W [nmsE fv (ms.take i),n0sE pv (List.replicate i ()),obE b8 ob0 nilS nilS,obE b4 x xk xc,.mem N3]) (fun vs _=>ms.length - (RowKit.intOf (vs.getD 4 undef)).toNat) ⟨0,nilS,nilS,N2,rfl,by omega,N2.le_refl,ho⟩ ?_;clear ho;rintro vs w7 ⟨i,fv,pv,N3,rfl,hi,l3,ho⟩ _;simp only[S_filter_Encode_1,gd,rs,iN,dx,gfx,cx];by_cases hlt:(i:Int) < (ms.length:Int)
  ·simp only[hlt,decide_true,i_t];have hi':i < ms.length:=by omega
   obtain⟨p,hia,hld⟩:=strAt (hva2.le l3) hi';obtain⟨p2,hia2,hld2⟩:=pmAt (hvb2.le l3) (i:=i) (by omega);rw[do_eq (hia w7),do_eq (hld w7 (ho.hasM 4 rfl)),do_eq (hia2 w7),do_eq (hld2 w7 (ho.hasM 4 rfl)),List.getElem_replicate];refine c_mem ho 4 rfl (ftoldU_ret N3 w7 (ho.hasM 4 rfl)) ?_;rintro _ N4 w8 l4 rfl ho;simp only[errV,ex];refine o_oba ho fun b17 w9 ho=>?_;refine ob_put 0 (vk':=nilS) (vc':=nilS) rfl rfl ho rfl fun w10 ho=>?_;simp only[n_err,show decide ((0:Int)≠0)=false from rfl,i_f];refine c_below ho (vname_ret ms[i] w10) ?_;rintro _ w11 rfl ho;have ho:OwnS M.A w w11 [obE b17 Vl.ob0 nilS nilS,nmsE fv (ms.take i),n0sE pv (List.replicate i ()),obE b8 ob0 nilS nilS,obE b4 x xk xc,.mem N4]:=ho;refine o_nms1 ms[i] 1 ho rfl (by rw[List.length_take];omega) fun fv' w12 ho=>?_;have ho:OwnS M.A w w12 [obE b17 Vl.ob0 nilS nilS,nmsE fv' (ms.take i++[ms[i]]),n0sE pv (List.replicate i ()),obE b8 ob0 nilS nilS,obE b4 x xk xc,.mem N4]:=ho;rw[ob_v ho 0 rfl];refine o_obs1 Vl.ob0 (vk:=nilS) (vc:=nilS) rfl rfl ho fun nb w13 ho=>?_;refine o_appendU 3 Tryz.underlying23 elObj16 (by decide) ho rfl (sl_one1 (cs:=n0C ()) (ho.at_ 0 rfl) (by decide) rfl) n0C_one (by rw[List.length_replicate];omega) (by rw[List.length_replicate];omega) fun pv' w14 ho=>?_;have e:n0sE pv' (List.replicate (i+1) ())=.urow 25 6 pv' ((List.replicate i ()).length+1) ((List.replicate i ()).flatMap n0C++n0C ()):=by
    unfold n0sE Ent.recs;rw[List.replicate_succ',List.length_append,List.flatMap_append,List.flatMap_singleton];rfl
   have ho:OwnS M.A w w14 [obE nb Vl.ob0 nilS nilS,obE b17 Vl.ob0 nilS nilS,nmsE fv' (ms.take i++[ms[i]]),n0sE pv' (List.replicate (i+1) ()),obE b8 ob0 nilS nilS,obE b4 x xk xc,.mem N4]:=by rw[e];exact ho
   try simp only[rs]
   rw[fa_o0,ob_k ho 1 rfl];simp only[rs,show decide ((Vl.ob0).k≠0)=false from rfl];rw[wrap64_id (by omega) (by omega)];refine nextX ⟨i+1,fv',pv',N4,rfl,by omega,l3.trans l4,?_⟩ (by simp[RowKit.intOf];omega);rw[List.take_succ_eq_append_getElem hi'];exact ho.tail.tail
  simp only[hlt,decide_false,i_f];have:i=ms.length:=by omega
  subst this;rw[List.take_length] at ho;obtain⟨N4,l4,hsf,ho⟩:=ho.freezeU 3 rfl;have ho:OwnS M.A w w7 [n0sE pv (List.replicate ms.length ()),obE b8 ob0 nilS nilS,obE b4 x xk xc,.mem N4]:=ho;have hls:LsAt N4 fv (ms.map Ff.nameO) (ms.flatMap nmC):=⟨by rw[List.length_map];exact hsf,nms_ovs ms⟩;have hle4:=((l1.trans l2).trans l3).trans l4;have ho:=ho.drew;refine⟨fun W=>(obE b4 x xk xc).is W,ho.at_ 2 rfl,?_⟩;refine hd_do (obV x xk xc) (fun W h=>run_load_at (AtV.agg aggOb (cs:=obC x xk xc) rfl fun j u hj=>by rw[Nat.zero_add];exact cells_cell (T:=25) h hj)) ?_;refine c_mem ho 3 rfl (falone_ret (ms.map Ff.nameO) fv _ N4 _ hws (ho.hasM 3 rfl) hls) fun y N5 w8 l5 hy ho=>?_;refine⟨ho.at_ 2 rfl,?_⟩;refine c_mem ho 3 rfl (vset_ret x (Ff.alone (ms.map Ff.nameO)) _ y Ff.kFilter N5 w8 (by omega) (by omega) (by decide) (ho.hasM 3 rfl) ((((hxo.le l3).le l4).le l5)) hy) ?_;generalize Vl.set x Ff.kFilter (Ff.alone (ms.map Ff.nameO))=Rr at hX;obtain⟨z,ze⟩:=Rr;dsimp only at hX;rintro _ N6 w9 l6 ⟨zv,rfl,hz⟩ ho;obtain⟨zk,zc,zcs,rfl,hza⟩:=hz.open;dsimp only at hza;unfold errV;refine hd_pure (obV z zk zc) (fun _=>by kernel_rfl) (hd_pure (.int .i64 ze) (fun _=>by kernel_rfl) ?_);refine ob_put 2 hza.keys.one hza.kids.one ho rfl fun w10 ho=>?_;have ho:OwnS M.A w w10 [n0sE pv (List.replicate ms.length ()),obE b8 ob0 nilS nilS,obE b4 z zk zc,.mem N6]:=ho;have hle6:=(hle4.trans l5).trans l6;simp only[n_err];by_cases hze:ze=0
  case neg=>
   rw[if_pos hze] at hX;simp only[decide_eq_true (show ze≠0 from hze),i_t];rw[m_ob0];refine ob_put 1 rfl rfl ho rfl fun w11 ho=>?_;exact ret_ob2 1 ho rfl (hK _ _ N6 _ 3 ho rfl hle6 ⟨_,by rw[←hX];rfl,by rw[←hX];exact ob0_ov N6⟩)
  rw[if_neg (fun h=>h hze)] at hX;simp only[decide_eq_false (show ¬ze≠0 from fun h=>h hze),i_f];refine join fun J hJ=>?_;refine hJ _ _ fun _=>?_;unfold S_filter_Encode_2 iN dx;rw[ob_v ho 2 rfl];refine ob_put 1 hza.keys.one hza.kids.one ho rfl fun w11 ho=>?_;exact ret_ob2 1 ho rfl (hK _ _ N6 _ 3 ho rfl hle6 ⟨_,by rw[←hX];rfl,by rw[←hX];exact hza.ov⟩)
 by_cases k9:o.k=9
 ·simp only[decide_eq_false (show ¬o.k≠9 from fun h=>h k9),rs,g_un,i_f];exact main w2 ho
 have k7:o.k=7:=by rcases hk with h|h;exact absurd h k9;exact h
 simp only[decide_eq_true (show o.k≠9 from k9),rs];rw[fa_o0,ob_k ho 1 rfl];simp only[rs,decide_eq_false (show ¬o.k≠7 from fun h=>h k7),i_f];exact main w2 ho
end
section
open Eng
def S_foliantlaw16_small(t0 w)(K:KT):=
 dx (mBox 25 t0) w K fun t1 w=>dx (mLoad 25 t1) w K fun t3 w=>cx 49 #[t3] w K fun t4 w=>dx (mBin .leq 3 t4 (iN 3000)) w K fun t5 w=>gtx t5 (mFA 25 t1 3) w K fun t7 w=>gtx t5 (mLoad 9 t7) w K fun t8 w=>gtx t5 (mB .len #[9] 3 #[false] #[t8]) w K fun t9 w=>gtx t5 (mBin .leq 3 t9 (iN 600)) w K fun t10 w=>dx (mPick t5 t10 (.bool false)) w K fun t11 w=>K (.returned t11) w
theorem S_foliantlaw16_small_ok{t0 w K}(h:S_foliantlaw16_small t0 w K):Calls prog 11 #[t0] w K:=cw Tryz.func11 rfl rfl (by kernel_rfl) h
def S_foliantlaw16_lives(w)(K:KT):=
 dx (mBuildS 22 1 #[(0,(.string ⟨#[70,105,108,116,101,114]⟩))]) w K fun t19 w=>cx 51 #[(.string ⟨#[65,72,120]⟩)] w K fun t20 w=>cx 51 #[(.string ⟨#[70,108]⟩)] w K fun t21 w=>dx (mBuildS 23 2 #[(0,t20),(1,t21)]) w K fun t22 w=>cx 50 #[t22] w K fun t23 w=>dx (mBuildS 23 1 #[(0,t23)]) w K fun t24 w=>dx (mBuild 25 #[(0,(iN 9)),(4,t19),(5,t24)]) w K fun t25 w=>dx (mAlloc 25) w K fun t1 w=>dx (mStore 25 t1 t25) w K fun _ w=>dx (mLoad 25 t1) w K fun t27 w=>cx 28 #[t27] w K fun t28 w=>dx (mExt t28 0) w K fun t29 w=>dx (mExt t28 1) w K fun t30 w=>dx (mExt t28 2) w K fun t31 w=>dx (mBuild 27 #[(0,(iN 1)),(1,(iN 1)),(2,(iN 1))]) w K fun t32 w=>dx (mAlloc 27) w K fun t5 w=>dx (mStore 27 t5 t32) w K fun _ w=>dx (mLoad 27 t5) w K fun t34 w=>cx 17 #[(.string ⟨#[65,72,120]⟩),t34,(.string ⟨#[74]⟩)] w K fun t35 w=>dx (mExt t35 0) w K fun t36 w=>dx (mExt t35 1) w K fun t37 w=>dx (mLoad 27 t5) w K fun t39 w=>cx 15 #[(.string ⟨#[65,83,67,73,73,72,101,120,68,101,99,111,100,101]⟩),t39,(.string ⟨#[52,97,62]⟩)] w K fun t40 w=>dx (mExt t40 0) w K fun t41 w=>dx (mExt t40 1) w K fun t42 w=>dx (mLoad 27 t5) w K fun t44 w=>cx 15 #[(.string ⟨#[76,90,87,68,101,99,111,100,101]⟩),t44,(.string ⟨#[]⟩)] w K fun t45 w=>dx (mExt t45 0) w K fun t46 w=>dx (mExt t45 1) w K fun t47 w=>dx (mBuild 25 #[(0,(iN 7))]) w K fun t49 w=>dx (mBuildS 22 2 #[(0,(.string ⟨#[82,76]⟩)),(1,(.string ⟨#[65,72,120]⟩))]) w K fun t50 w=>cx 22 #[t49,t50,(.slice none 0 0),(.string ⟨#[74]⟩)] w K fun t51 w=>dx (mExt t51 0) w K fun t52 w=>dx (mExt t51 1) w K fun t53 w=>dx (mAlloc 25) w K fun t12 w=>dx (mStore 25 t12 t52) w K fun _ w=>dx (mLoad 25 t12) w K fun t55 w=>cx 13 #[t55] w K fun t56 w=>dx (mExt t56 0) w K fun t57 w=>dx (mExt t56 1) w K fun t58 w=>dx (mBuild 25 #[]) w K fun t60 w=>cx 28 #[t60] w K fun t61 w=>dx (mExt t61 0) w K fun t62 w=>dx (mExt t61 1) w K fun t63 w=>dx (mExt t61 2) w K fun t64 w=>HeldX w (fun S1 w=>CallX prog 52 #[(.string ⟨#[65,56,53]⟩)] w (pm1 (pm1 (pm1 (pm1 (pm1 (pm1 (pm1 (pm1 (pm1 (pm1 (pm1 (pm1 (pm1 (pm1 (pm1 (pm1 (pm1 (pm1 (pm1 (pm1 (pm1 (pm1 (pm1 (pm1 (pm1 (pm1 (pm1 (pm1 (pm1 (pm1 (pm1 (pm1 (pm1 (pm1 (pm1 (pm1 (pm1 (pm1 (pm1 (pm1 (pm1 (pm1 (pm1 (pm1 (pm1 (pm1 (pm1 (pm1 (pm1 (pm1 (pm1 (pm1 (pm1 (pm1 (pm1 (pm1 (pm1 (pm1 (pm1 (pm1 (pm1 (pm1 (pm1 (pm1 (pm1 (pm1 (pm1 (pm1 (pm1 (pm1 (pm1 (pm1 (pk K))))))))))))))))))))))))))))))))))))))))))))))))))))))))))))))))))))))))) fun t65 w=>S1 w∧(GDo t65 true (fun E=>CallX prog 52 #[(.string ⟨#[76,90,87]⟩)] w (pm1 (pm1 (pm1 (pm1 (pm1 (pm1 (pm1 (pm1 (pm1 (pm1 (pm1 (pm1 (pm1 (pm1 (pm1 (pm1 (pm1 (pm1 (pm1 (pm1 (pm1 (pm1 (pm1 (pm1 (pm1 (pm1 (pm1 (pm1 (pm1 (pm1 (pm1 (pm1 (pm1 (pm1 (pm1 (pm1 (pm1 (pm1 (pm1 (pm1 (pm1 (pm1 (pm1 (pm1 (pm1 (pm1 (pm1 (pm1 (pm1 (pm1 (pm1 (pm1 (pm1 (pm1 (pm1 (pm1 (pm1 (pm1 (pm1 (pm1 (pm1 (pm1 (pm1 (pm1 (pm1 (pm1 (pm1 (pm1 (pm1 (pm1 (pm1 (pm1 (pk K))))))))))))))))))))))))))))))))))))))))))))))))))))))))))))))))))))))))) E) w fun t67 w=>S1 w∧(GQ t65 true (fun E=>HDo prog S1 (mUn .not t67) E) fun t68=>HDo prog S1 (mPick t65 t68 (.bool false)) fun t69=>GQ t69 true (fun E=>E t31) fun t71=>GQ t69 true (fun E=>HDo prog S1 (mEq .eql 30 (.tmp 71) (.const (iN 0)) t71 (iN 0)) E) fun t72=>HDo prog S1 (mPick t69 t72 (.bool false)) fun t73=>GQ t73 true (fun E=>E t29) fun t75=>GDo t73 true (fun E=>DoX prog (mBuildS 22 2 #[(0,(.string ⟨#[65,83,67,73,73,72,101,120,68,101,99,111,100,101]⟩)),(1,(.string ⟨#[70,108,97,116,101,68,101,99,111,100,101]⟩))]) w (pm1 (pm1 (pm1 (pm1 (pm1 (pm1 (pm1 (pm1 (pm1 (pm1 (pm1 (pm1 (pm1 (pm1 (pm1 (pm1 (pm1 (pm1 (pm1 (pm1 (pm1 (pm1 (pm1 (pm1 (pm1 (pm1 (pm1 (pm1 (pm1 (pm1 (pm1 (pm1 (pm1 (pm1 (pm1 (pm1 (pm1 (pm1 (pm1 (pm1 (pm1 (pm1 (pm1 (pm1 (pm1 (pm1 (pm1 (pm1 (pm1 (pm1 (pm1 (pm1 (pm1 (pm1 (pm1 (pm1 (pm1 (pm1 (pm1 (pm1 (pm1 (pm1 (pm1 (pm1 (pm1 (pm1 (pm1 (pm1 (pm1 (pm1 (pm1 (pm1 (pk K))))))))))))))))))))))))))))))))))))))))))))))))))))))))))))))))))))))))) E) w fun t76 w=>S1 w∧(GDo t73 true (fun E=>CallX prog 45 #[t75,t76] w (pm1 (pm1 (pm1 (pm1 (pm1 (pm1 (pm1 (pm1 (pm1 (pm1 (pm1 (pm1 (pm1 (pm1 (pm1 (pm1 (pm1 (pm1 (pm1 (pm1 (pm1 (pm1 (pm1 (pm1 (pm1 (pm1 (pm1 (pm1 (pm1 (pm1 (pm1 (pm1 (pm1 (pm1 (pm1 (pm1 (pm1 (pm1 (pm1 (pm1 (pm1 (pm1 (pm1 (pm1 (pm1 (pm1 (pm1 (pm1 (pm1 (pm1 (pm1 (pm1 (pm1 (pm1 (pm1 (pm1 (pm1 (pm1 (pm1 (pm1 (pm1 (pm1 (pm1 (pm1 (pm1 (pm1 (pm1 (pm1 (pm1 (pm1 (pm1 (pm1 (pk K))))))))))))))))))))))))))))))))))))))))))))))))))))))))))))))))))))))))) E) w fun t77 w=>S1 w∧(HDo prog S1 (mPick t73 t77 (.bool false)) fun t78=>GQ t78 true (fun E=>E t30) fun t80=>GQ t78 true (fun E=>HDo prog S1 (mB .len #[40] 3 #[false] #[t80]) E) fun t81=>GQ t78 true (fun E=>HDo prog S1 (mEq .eql 3 (.tmp 81) (.const (iN 2)) t81 (iN 2)) E) fun t82=>HDo prog S1 (mPick t78 t82 (.bool false)) fun t83=>GQ t83 true (fun E=>E t30) fun t85=>GQ t83 true (fun E=>HDo prog S1 (mIA 40 t85 (iN 0)) E) fun t86=>GQ t83 true (fun E=>HDo prog S1 (mLoad 27 t86) E) fun t87=>GQ t83 true (fun E=>HDo prog S1 (mLoad 27 t5) E) fun t88=>GQ t83 true (fun E=>HDo prog S1 (mEq .eql 27 (.tmp 87) (.tmp 88) t87 t88) E) fun t89=>HDo prog S1 (mPick t83 t89 (.bool false)) fun t90=>GQ t90 true (fun E=>E t30) fun t92=>GQ t90 true (fun E=>HDo prog S1 (mIA 40 t92 (iN 1)) E) fun t93=>GQ t90 true (fun E=>HDo prog S1 (mLoad 27 t93) E) fun t94=>GQ t90 true (fun E=>HDo prog S1 (mLoad 27 t5) E) fun t95=>GQ t90 true (fun E=>HDo prog S1 (mEq .eql 27 (.tmp 94) (.tmp 95) t94 t95) E) fun t96=>HDo prog S1 (mPick t90 t96 (.bool false)) fun t97=>GQ t97 true (fun E=>E t36) fun t99=>GQ t97 true (fun E=>HDo prog S1 (mEq .eql 9 (.tmp 99) (.const (.string ⟨#[52,65,62]⟩)) t99 (.string ⟨#[52,65,62]⟩)) E) fun t100=>HDo prog S1 (mPick t97 t100 (.bool false)) fun t101=>GQ t101 true (fun E=>E t37) fun t103=>GQ t101 true (fun E=>HDo prog S1 (mEq .eql 30 (.tmp 103) (.const (iN 0)) t103 (iN 0)) E) fun t104=>HDo prog S1 (mPick t101 t104 (.bool false)) fun t105=>GQ t105 true (fun E=>E t41) fun t107=>GQ t105 true (fun E=>HDo prog S1 (mEq .eql 9 (.tmp 107) (.const (.string ⟨#[74]⟩)) t107 (.string ⟨#[74]⟩)) E) fun t108=>HDo prog S1 (mPick t105 t108 (.bool false)) fun t109=>GQ t109 true (fun E=>E t42) fun t111=>GQ t109 true (fun E=>HDo prog S1 (mEq .eql 30 (.tmp 111) (.const (iN 0)) t111 (iN 0)) E) fun t112=>HDo prog S1 (mPick t109 t112 (.bool false)) fun t113=>GQ t113 true (fun E=>E t47) fun t115=>GQ t113 true (fun E=>HDo prog S1 (mEq .eql 30 (.tmp 115) (.const (iN 15)) t115 (iN 15)) E) fun t116=>HDo prog S1 (mPick t113 t116 (.bool false)) fun t117=>GQ t117 true (fun E=>E t53) fun t119=>GQ t117 true (fun E=>HDo prog S1 (mEq .eql 30 (.tmp 119) (.const (iN 0)) t119 (iN 0)) E) fun t120=>HDo prog S1 (mPick t117 t120 (.bool false)) fun t121=>GQ t121 true (fun E=>HDo prog S1 (mFA 25 t12 4) E) fun t123=>GQ t121 true (fun E=>HDo prog S1 (mLoad 22 t123) E) fun t124=>GQ t121 true (fun E=>HDo prog S1 (mB .len #[22] 3 #[false] #[t124]) E) fun t125=>GQ t121 true (fun E=>HDo prog S1 (mEq .eql 3 (.tmp 125) (.const (iN 1)) t125 (iN 1)) E) fun t126=>HDo prog S1 (mPick t121 t126 (.bool false)) fun t127=>GQ t127 true (fun E=>E t57) fun t129=>GQ t127 true (fun E=>HDo prog S1 (mEq .eql 9 (.tmp 129) (.const (.string ⟨#[74]⟩)) t129 (.string ⟨#[74]⟩)) E) fun t130=>HDo prog S1 (mPick t127 t130 (.bool false)) fun t131=>GQ t131 true (fun E=>E t58) fun t133=>GQ t131 true (fun E=>HDo prog S1 (mEq .eql 30 (.tmp 133) (.const (iN 0)) t133 (iN 0)) E) fun t134=>HDo prog S1 (mPick t131 t134 (.bool false)) fun t135=>GQ t135 true (fun E=>E t64) fun t137=>GQ t135 true (fun E=>HDo prog S1 (mEq .eql 30 (.tmp 137) (.const (iN 10)) t137 (iN 10)) E) fun t138=>HDo prog S1 (mPick t135 t138 (.bool false)) fun t139=>K (.returned t139) w)))))
theorem S_foliantlaw16_lives_ok{w K}(h:S_foliantlaw16_lives w K):Calls prog 12 #[] w K:=cw Tryz.func12 rfl rfl (by kernel_rfl) h
def S_foliantlaw16_FilterDecodes(t0 t1 t2 t3 w)(K:KT):=
 dx (mBox 25 t0) w K fun t4 w=>dx (mBox 27 t2) w K fun t6 w=>dx (mLoad 25 t4) w K fun t17 w=>cx 11 #[t17] w K fun t18 w=>dx (mUn .not t18) w K fun t19 w=>efx t19 t3 w fun t21 w=>gfx t19 (mB .len #[9] 3 #[false] #[t21]) w K fun t22 w=>gfx t19 (mBin .gtr 3 t22 (iN 600)) w K fun t23 w=>dx (mPick t19 (.bool true) t23) w K fun t24 w=>IfX t24 (cx 12 #[] w K fun t25 w=>K (.returned t25) w) (dx (mLoad 25 t4) w K fun t27 w=>cx 13 #[t27] w K fun t28 w=>dx (mExt t28 0) w K fun t29 w=>dx (mExt t28 1) w K fun t30 w=>dx (mLoad 25 t4) w K fun t32 w=>cx 14 #[t32] w K fun t33 w=>dx (mExt t33 0) w K fun t34 w=>dx (mExt t33 1) w K fun t35 w=>dx (mLoad 27 t6) w K fun t38 w=>cx 15 #[t1,t38,t3] w K fun t40 w=>dx (mExt t40 0) w K fun t41 w=>dx (mExt t40 1) w K fun t42 w=>dx (mLoad 27 t6) w K fun t45 w=>cx 16 #[t1,t45,t3] w K fun t47 w=>dx (mExt t47 0) w K fun t48 w=>dx (mExt t47 1) w K fun t49 w=>dx (mEq .eql 9 (.tmp 50) (.tmp 51) t29 t34) w K fun t52 w=>etx t52 t30 w fun t54 w=>etx t52 t35 w fun t55 w=>gtx t52 (mEq .eql 30 (.tmp 54) (.tmp 55) t54 t55) w K fun t56 w=>dx (mPick t52 t56 (.bool false)) w K fun t57 w=>etx t57 t41 w fun t59 w=>etx t57 t48 w fun t60 w=>gtx t57 (mEq .eql 9 (.tmp 59) (.tmp 60) t59 t60) w K fun t61 w=>dx (mPick t57 t61 (.bool false)) w K fun t62 w=>etx t62 t42 w fun t64 w=>etx t62 t49 w fun t65 w=>gtx t62 (mEq .eql 30 (.tmp 64) (.tmp 65) t64 t65) w K fun t66 w=>dx (mPick t62 t66 (.bool false)) w K fun t67 w=>ctx t67 12 #[] w K fun t69 w=>dx (mPick t67 t69 (.bool false)) w K fun t70 w=>K (.returned t70) w)
theorem S_foliantlaw16_FilterDecodes_ok{t0 t1 t2 t3 w K}(h:S_foliantlaw16_FilterDecodes t0 t1 t2 t3 w K):Calls prog 3 #[t0,t1,t2,t3] w K:=cw Tryz.func3 rfl rfl (by kernel_rfl) h
end
section
open Eng Go.RowKit
namespace Ff
def smpA:Ob:=.mk 6 0 0 [] [] [ob1 5 0 0 [65,72,120],ob1 5 0 0 [70,108]]
def smp1:Ob:=.mk 9 0 0 [] [kFilter] [smpA]
def smpD:Ob:=.mk 7 0 0 [] [] []
def smpX:Ob:=.mk 9 0 0 [2,52,65,62,128] [kFilter] [.mk 6 0 0 [] [] [nameO nRL,nameO nHx]]
theorem of_smp1:of smp1=([nHx,nFl],[usual,usual],0):=by kernel_rfl
theorem of_ob0:of Vl.ob0=([],[],10):=by kernel_rfl
theorem one_smp:oneA [65,72,120] [74]=[52,65,62]:=by kernel_rfl
theorem undo_smp:undo nHx usual [52,97,62]=([74],0):=by kernel_rfl
theorem undo_lzw:undo [76,90,87,68,101,99,111,100,101] usual []=([],15):=by kernel_rfl
theorem enc_smp:enc0 smpD [[82,76],[65,72,120]] [74]=(smpX,0):=by kernel_rfl
theorem dec_smp:decode smpX=([74],0):=by kernel_rfl
end Ff
theorem r_seqT {w:World}{T:TypeId}{xo yo:Operand}{a:List UInt8}:(mEq .eql T xo yo (.string ⟨a.toArray⟩) (.string ⟨a.toArray⟩)).run prog w=.ok (.value (.bool true)) w:=by
 refine mv_run ?_;simp[eqGuard,binOp,Op.stringOp,str_toList]
section
variable {S:Nat→Prop}{w0 w:World}{L:List Ent}
theorem cells_mem {M:Mem}{b sz n:Nat}{cs:List Value}{T:TypeId}(hl:cs.length=n*sz)(hn:0 < n)(ho:OwnS S w0 w (.cells b cs T::L))(i:Nat)(hi:L[i]?=some (.mem M)) :
  ∃N:Mem,M.le N∧SlA N.A N.w (.slice (some ⟨b,0,none⟩) n n) sz n cs∧OwnS S w0 w (L.set i (.mem N)):=by
 have hs:=ho.sl 0 rfl sz n n hl;obtain⟨N,h1,h2,h3,h4⟩:=ho.freeze i hi;refine⟨N,h1,⟨?_,fun p l c e _=>?_,fun a l c e=>?_⟩,h4⟩
 ·rw[h2];exact hs
 ·injection e with e1 _ _
  injection e1 with e1
  rw[←e1];exact h3 b rfl
 ·injection e with _ e2 e3
  omega
end
theorem r_erT {w:World}{xo yo:Operand}{a:Int}:(mEq .eql 30 xo yo (.int .i64 a) (.int .i64 a)).run prog w=.ok (.value (.bool true)) w:=mv_run (by simp[eqGuard,binOp,Op.intCmp])
theorem r_inT {w:World}{xo yo:Operand}{a:Int}:(mEq .eql 3 xo yo (.int .i64 a) (.int .i64 a)).run prog w=.ok (.value (.bool true)) w:=mv_run (by simp[eqGuard,binOp,Op.intCmp])
theorem r_pkT {w:World}{a b:Value}:(mPick (.bool true) a b).run prog w=.ok (.value a) w:=by simp[mPick,asBool]
theorem m_obK {w:World}{PK:PKT}{K:VWP}{a b:Option Addr}{n n2 c c2:Nat}{ks:List (List UInt8)}{os:List Ob}:DoX prog (mBuild 25 #[(0,.int .i64 9),(4,.slice a n c),(5,.slice b n2 c2)]) w PK K=K (obV (.mk 9 0 0 [] ks os) (.slice a n c) (.slice b n2 c2)) w:=do_eq (by kernel_rfl)
theorem lives16_ret (M:Mem)(w:World)(hrp:Rp M)(hod:Od M)(hpw:Pws M)(hM:M.has w):RetM prog 12 #[] M w (fun r _=>r=.bool true):=by
 refine retM_of hM fun K hK=>S_foliantlaw16_lives_ok ?_;unfold S_foliantlaw16_lives iN dx cx;have ho:OwnS M.A w w [.mem M]:=OwnS.memS hM
 -- the sample
 refine o_new (fun b=>.slice (some ⟨b,0,none⟩) 1 1) (strsV [Ff.kFilter]) 9 (fun _=>by kernel_rfl) ho fun b19 w1 ho=>?_;obtain⟨N1,l1,hs1,ho⟩:=cells_mem (sz:=1) (n:=1) rfl (by decide) ho 0 rfl;refine c_below ho (rkey05_ret [65,72,120] w1) ?_;rintro _ w2 rfl ho;refine c_below ho (rkey05_ret [70,108] w2) ?_;rintro _ w3 rfl ho;refine o_new (fun b=>.slice (some ⟨b,0,none⟩) 2 2) (nmC [65,72,120]++nmC [70,108]) 25 (fun _=>by kernel_rfl) ho fun b22 w4 ho=>?_;obtain⟨N2,l2,hs2,ho⟩:=cells_mem (sz:=6) (n:=2) rfl (by decide) ho 0 rfl;have hall2:OVs N2.A N2.w (nmC [65,72,120]++nmC [70,108]) [ob1 5 0 0 [65,72,120],ob1 5 0 0 [70,108]]:=by
  have:=nms_ovs (A:=N2.A) (W:=N2.w) [[65,72,120],[70,108]];exact this
 refine c_below ho (rarr05_ret (some ⟨b22,0,none⟩) 2 2 [ob1 5 0 0 [65,72,120],ob1 5 0 0 [70,108]] w4) ?_;rintro _ w5 rfl ho;have hA:OV N2.A N2.w (obV Ff.smpA nilS (.slice (some ⟨b22,0,none⟩) 2 2)) Ff.smpA:=ObAt.ov (o:=Ff.smpA) (vk:=nilS) (cs:=nmC [65,72,120]++nmC [70,108]) ⟨SlA.nil _ _ _ _,hs2,hall2⟩;refine o_obs1 Ff.smpA (vk:=nilS) (vc:=.slice (some ⟨b22,0,none⟩) 2 2) rfl rfl ho fun b24 w6 ho=>?_;obtain⟨N3,l3,hs3,ha3,ho⟩:=one_mem ho 0 rfl hA;rw[m_obK (ks:=[Ff.kFilter]) (os:=[Ff.smpA])];have h1:OV N3.A N3.w (obV Ff.smp1 (.slice (some ⟨b19,0,none⟩) 1 1) (.slice (some ⟨b24,0,none⟩) 1 1)) Ff.smp1:=ObAt.ov (o:=Ff.smp1) (cs:=obC Ff.smpA nilS (.slice (some ⟨b22,0,none⟩) 2 2)) ⟨(hs1.le l2).le l3,hs3,ha3⟩;refine o_oba ho fun b1 w7 ho=>?_;refine ob_put 0 (o':=Ff.smp1) (vk':=.slice (some ⟨b19,0,none⟩) 1 1) (vc':=.slice (some ⟨b24,0,none⟩) 1 1) rfl rfl ho rfl fun w8 ho=>?_;rw[ob_v ho 0 rfl];refine c_mem ho 1 rfl (fof_ret16 Ff.smp1 _ N3 w8 (by decide) (ho.hasM 1 rfl) h1) ?_;rw[Ff.of_smp1];rintro _ N4 w9 l4 ⟨vn,vp,rfl,hn,hp⟩ ho;simp only[ex,x_ext (show [vn,vp,Value.int .i64 0][2]?=some (Value.int .i64 0) from rfl),x_ext (show [vn,vp,Value.int .i64 0][1]?=some vp from rfl),x_ext (show [vn,vp,Value.int .i64 0][0]?=some vn from rfl)];rw[m_pm3];refine o_pma ho fun b5 w10 ho=>?_;refine pm_put 0 Ff.usual ho rfl fun w11 ho=>?_;have ho:OwnS M.A w w11 [pmE b5 Ff.usual,obE b1 Ff.smp1 (.slice (some ⟨b19,0,none⟩) 1 1) (.slice (some ⟨b24,0,none⟩) 1 1),.mem N4]:=ho;have hle4:=((l1.trans l2).trans l3).trans l4;rw[pm_v ho 0 rfl];refine c_below ho (foneA_ret [65,72,120] Ff.usual [74] w11 (.inl (by decide)) (by decide)) ?_;rintro _ w12 rfl ho;rw[Ff.one_smp];simp only[zlT,ex];rw[pm_v ho 0 rfl];refine c_mem ho 2 rfl (fundo_ret Ff.nHx Ff.usual [52,97,62] N4 w12 (hrp.le hle4) (hod.le hle4) (hpw.le hle4) (by decide) (ho.hasM 2 rfl)) ?_;rintro _ N5 w13 l5 ⟨rfl,_⟩ ho;rw[Ff.undo_smp];simp only[zlT,ex];rw[pm_v ho 0 rfl];have hle5:=hle4.trans l5;rw[show (Value.string ⟨#[]⟩)=.string ⟨([]:List UInt8).toArray⟩ from rfl];refine c_mem ho 2 rfl (fundo_ret [76,90,87,68,101,99,111,100,101] Ff.usual [] N5 w13 (hrp.le hle5) (hod.le hle5) (hpw.le hle5) (by decide) (ho.hasM 2 rfl)) ?_;rintro _ N6 w14 l6 ⟨rfl,_⟩ ho;rw[Ff.undo_lzw];simp only[zlT,ex];have hle6:=hle5.trans l6;refine do_eq (show (mBuild 25 #[(0,.int .i64 7)]).run prog w14=.ok (.value (obV Ff.smpD nilS nilS)) w14 by kernel_rfl) |>.mpr ?_;refine o_new (fun b=>.slice (some ⟨b,0,none⟩) 2 2) (strsV [[82,76],[65,72,120]]) 9 (fun _=>by kernel_rfl) ho fun b50 w15 ho=>?_;have ho:OwnS M.A w w15 [.cells b50 (strsV [[82,76],[65,72,120]]) 9,pmE b5 Ff.usual,obE b1 Ff.smp1 (.slice (some ⟨b19,0,none⟩) 1 1) (.slice (some ⟨b24,0,none⟩) 1 1),.mem N6]:=ho;obtain⟨N7,l7,hs7,ho⟩:=cells_mem (sz:=1) (n:=2) rfl (by decide) ho 2 rfl;have ho:OwnS M.A w w15 [pmE b5 Ff.usual,obE b1 Ff.smp1 (.slice (some ⟨b19,0,none⟩) 1 1) (.slice (some ⟨b24,0,none⟩) 1 1),.mem N7]:=ho;have hD:OV N7.A N7.w (obV Ff.smpD nilS nilS) Ff.smpD:=ObAt.ov (o:=Ff.smpD) (vk:=nilS) (vc:=nilS) (cs:=[]) ⟨SlA.nil _ _ _ _,SlA.nil _ _ _ _,OVs.nil⟩;refine c_mem ho 2 rfl (fencode0_ret Ff.smpD _ [[82,76],[65,72,120]] _ [74] N7 w15 (.inr rfl) (by decide) (by simp) (fun n hn=>by
  rcases List.mem_cons.1 hn with rfl|hn
  ·exact .inr (by decide)
  ·rw[List.mem_singleton.1 hn];exact .inl (by decide)) (fun i=>by
  rcases (by omega:i=0∨i=1∨2≤i) with rfl|rfl|h
  ·decide +kernel
  ·decide +kernel
  ·rw[List.drop_eq_nil_of_le (by simpa using h)];decide) (by decide) (by decide +kernel) (by decide +kernel) (by decide +kernel) (ho.hasM 2 rfl) hD hs7) ?_
 rw[Ff.enc_smp];rintro _ N8 w16 l8 ⟨xv,rfl,hX⟩ ho;obtain⟨xk,xc,xcs,rfl,hxa⟩:=hX.open;dsimp only at hxa hX;simp only[errV,ex];refine o_oba ho fun b12 w17 ho=>?_;refine ob_put 0 hxa.keys.one hxa.kids.one ho rfl fun w18 ho=>?_;rw[ob_v ho 0 rfl];have hle8:=(hle6.trans l7).trans l8;refine c_mem ho 3 rfl (fdecode_ret16 Ff.smpX _ N8 w18 (hrp.le hle8) (hod.le hle8) (hpw.le hle8) (by decide) (ho.hasM 3 rfl) hX) ?_;rintro _ N9 w19 l9 rfl ho;rw[Ff.dec_smp];simp only[zlT,ex];rw[m_ob0];refine c_mem ho 3 rfl (fof_ret16 Vl.ob0 _ N9 w19 (by decide) (ho.hasM 3 rfl) (ob0_ov N9)) ?_;rw[Ff.of_ob0];rintro _ N10 w20 l10 ⟨zn,zp,rfl,_,_⟩ ho;simp only[ex,x_ext (show [zn,zp,Value.int .i64 10][2]?=some (Value.int .i64 10) from rfl),x_ext (show [zn,zp,Value.int .i64 10][1]?=some zp from rfl),x_ext (show [zn,zp,Value.int .i64 10][0]?=some zn from rfl)];have ho:OwnS M.A w w20 [obE b12 Ff.smpX xk xc,pmE b5 Ff.usual,obE b1 Ff.smp1 (.slice (some ⟨b19,0,none⟩) 1 1) (.slice (some ⟨b24,0,none⟩) 1 1),.mem N10]:=ho;have hn10:=(((((hn.le l5).le l6).le l7).le l8).le l9).le l10;have hp10:=(((((hp.le l5).le l6).le l7).le l8).le l9).le l10;have hle10:=(hle8.trans l9).trans l10;obtain⟨pa,pc,rfl,_⟩:=hp10.form;obtain⟨q0,hia0,hld0⟩:=pmAt hp10 (i:=0) (by decide);obtain⟨q1,hia1,hld1⟩:=pmAt hp10 (i:=1) (by decide);obtain⟨ka,kc,rfl,_⟩:=hxa.keys.form;have ho:=ho.drew;refine⟨fun W=>(obE b12 Ff.smpX (.slice ka 1 kc) xc).is W∧(pmE b5 Ff.usual).is W∧N10.has W,⟨ho.at_ 0 rfl,ho.at_ 1 rfl,ho.hasM 3 rfl⟩,?_⟩;have hS:∀{W:World},OwnS M.A w W [obE b12 Ff.smpX (.slice ka 1 kc) xc,pmE b5 Ff.usual,obE b1 Ff.smp1 (.slice (some ⟨b19,0,none⟩) 1 1) (.slice (some ⟨b24,0,none⟩) 1 1),.mem N10]→(obE b12 Ff.smpX (.slice ka 1 kc) xc).is W∧(pmE b5 Ff.usual).is W∧N10.has W:=fun ho=>⟨ho.at_ 0 rfl,ho.at_ 1 rfl,ho.hasM 3 rfl⟩;refine c_eq (fknown_ret [65,56,53] _) ?_;rw[show decide (Ff.full [65,56,53]≠[])=true by decide];refine⟨hS ho,?_⟩;simp only[rs];refine c_eq (fknown_ret [76,90,87] _) ?_;rw[show decide (Ff.full [76,90,87]≠[])=false by decide];refine⟨hS ho,?_⟩;simp only[gq];refine hd_pure (.bool true) (fun _=>mv_run (by simp[Op.unary])) ?_;refine hd_pure (.bool true) (fun _=>r_pkT) ?_;simp only[gq];refine hd_pure (.bool true) (fun _=>r_erT) (hd_pure (.bool true) (fun _=>r_pkT) ?_)
 try simp only[gq,rs]
 refine o_new (fun b=>.slice (some ⟨b,0,none⟩) 2 2) (strsV [Ff.nHx,Ff.nFl]) 9 (fun _=>by kernel_rfl) ho fun b76 w21 ho=>?_;have ho:OwnS M.A w w21 ([.cells b76 (strsV [Ff.nHx,Ff.nFl]) 9]++[obE b12 Ff.smpX (.slice ka 1 kc) xc,pmE b5 Ff.usual,obE b1 Ff.smp1 (.slice (some ⟨b19,0,none⟩) 1 1) (.slice (some ⟨b24,0,none⟩) 1 1),.mem N10]):=ho;refine⟨hS ho.tail,?_⟩
 try simp only[gq,rs]
 refine c_below ho (rtexts_ret vn _ [Ff.nHx,Ff.nFl] [Ff.nHx,Ff.nFl] w21 (hn10.now (ho.hasM 4 rfl)) (ho.sl 0 rfl 1 2 2 rfl) (by decide)) ?_;rintro _ w22 rfl ho;refine⟨hS ho.tail,?_⟩;rw[decide_eq_true (show [Ff.nHx,Ff.nFl]=[Ff.nHx,Ff.nFl] from rfl)];refine hd_pure (.bool true) (fun _=>r_pkT) ?_;simp only[gq];refine hd_pure (.int .i64 2) (fun _=>by kernel_rfl) (hd_pure (.bool true) (fun _=>r_inT) (hd_pure (.bool true) (fun _=>r_pkT) ?_));simp only[gq];refine hd_pure _ hia0 (hd_do (pmV Ff.usual) (fun W h=>hld0 W h.2.2) (hd_do (pmV Ff.usual) (fun W h=>run_load_at (AtV.agg aggPm (cs:=pmC Ff.usual) rfl fun j u hj=>by rw[Nat.zero_add];exact cells_cell (T:=27) h.2.1 hj)) (hd_pure (.bool true) (fun _=>r_pmeq) (hd_pure (.bool true) (fun _=>r_pkT) ?_))));simp only[gq];refine hd_pure _ hia1 (hd_do (pmV Ff.usual) (fun W h=>hld1 W h.2.2) (hd_do (pmV Ff.usual) (fun W h=>run_load_at (AtV.agg aggPm (cs:=pmC Ff.usual) rfl fun j u hj=>by rw[Nat.zero_add];exact cells_cell (T:=27) h.2.1 hj)) (hd_pure (.bool true) (fun _=>r_pmeq) (hd_pure (.bool true) (fun _=>r_pkT) ?_))));simp only[gq];refine hd_pure (.bool true) (fun _=>r_seqT (a:=[52,65,62])) (hd_pure (.bool true) (fun _=>r_pkT) ?_);simp only[gq];refine hd_pure (.bool true) (fun _=>r_erT) (hd_pure (.bool true) (fun _=>r_pkT) ?_);simp only[gq];refine hd_pure (.bool true) (fun _=>r_seqT (a:=[74])) (hd_pure (.bool true) (fun _=>r_pkT) ?_);simp only[gq];refine hd_pure (.bool true) (fun _=>r_erT) (hd_pure (.bool true) (fun _=>r_pkT) ?_);simp only[gq];refine hd_pure (.bool true) (fun _=>r_erT) (hd_pure (.bool true) (fun _=>r_pkT) ?_);simp only[gq];refine hd_pure (.bool true) (fun _=>r_erT) (hd_pure (.bool true) (fun _=>r_pkT) ?_);simp only[gq];refine hd_pure _ (fun _=>run_fa fo_o4) (hd_do (.slice ka 1 kc) (fun W h=>run_load_cell nSlS5 (cells_cell (T:=25) h.1 (i:=4) rfl)) (hd_pure (.int .i64 1) (fun _=>by kernel_rfl) (hd_pure (.bool true) (fun _=>r_inT) (hd_pure (.bool true) (fun _=>r_pkT) ?_))));simp only[gq];refine hd_pure (.bool true) (fun _=>r_seqT (a:=[74])) (hd_pure (.bool true) (fun _=>r_pkT) ?_);simp only[gq];refine hd_pure (.bool true) (fun _=>r_erT) (hd_pure (.bool true) (fun _=>r_pkT) ?_);simp only[gq];refine hd_pure (.bool true) (fun _=>r_erT) (hd_pure (.bool true) (fun _=>r_pkT) ?_);exact hK _ _ N10 _ 4 ho rfl hle10 rfl
end
section
open Eng Go.RowKit
theorem small16_ret (o:Ob)(v:Value)(M:Mem)(w:World)(hw:o.wt≤1000000000)(hM:M.has w)(hv:OV M.A M.w v o) :
  RetM prog 11 #[v] M w (fun r _=>r=.bool (decide (Vl.size o≤3000)&&decide (o.s.length≤600))):=by
 obtain⟨vk,vc,ocs,rfl,ha⟩:=hv.open;refine retM_of hM fun K hK=>S_foliantlaw16_small_ok ?_;unfold S_foliantlaw16_small iN dx gtx cx;refine o_obb o ha.keys.one ha.kids.one (OwnS.memS hM) fun b1 w1 ho=>?_;rw[ob_v ho 0 rfl];refine c_below ho (R:=fun v=>v=.int .i64 (Vl.size o:Nat)) (rsize_ret o.wt o _ w1 (Nat.le_refl _) (OV.inw (ho.hasM 1 rfl) hv) (by omega)) ?_;rintro _ w2 rfl ho;simp only[rs];by_cases h1:Vl.size o≤3000
 ·simp only[show decide ((Vl.size o:Int)≤3000)=true from decide_eq_true (by omega),rs];rw[fa_o3,ob_s ho 0 rfl]
  try simp only[rs]
  rw[s_len Tryz.underlying9]
  try simp only[rs]
  refine hK _ _ M _ 1 ho rfl M.le_refl ?_;rw[decide_eq_true h1,Bool.true_and]
  congr 1
  exact decide_eq_decide.2 (by omega)
 ·simp only[show decide ((Vl.size o:Int)≤3000)=false from decide_eq_false (by omega),rs,g_un];exact hK _ _ M _ 1 ho rfl M.le_refl (by rw[decide_eq_false h1];rfl)
theorem filterDecodes_ret (o:Ob)(v:Value)(n:List UInt8)(x:Pm)(data:List UInt8)(M:Mem)(w:World)(hrp:Rp M)(hod:Od M)(hpw:Pws M)(hw:o.wt≤1000000000)(hM:M.has w)(hv:OV M.A M.w v o) :
  RetM prog 3 #[v,.string ⟨n.toArray⟩,pmV x,.string ⟨data.toArray⟩] M w (fun r _=>r=.bool true):=by
 obtain⟨vk,vc,ocs,rfl,ha⟩:=hv.open;refine retM_of hM fun K hK=>S_foliantlaw16_FilterDecodes_ok ?_;unfold S_foliantlaw16_FilterDecodes iN dx gtx gfx ctx etx efx cx;refine o_obb o ha.keys.one ha.kids.one (OwnS.memS hM) fun b4 w1 ho=>?_;refine o_pmb x ho fun b6 w2 ho=>?_;rw[ob_v ho 1 rfl];refine c_mem ho 2 rfl (small16_ret o _ M w2 hw (ho.hasM 2 rfl) hv) ?_;rintro _ N w3 l1 rfl ho;have ho:OwnS M.A w w3 [pmE b6 x,obE b4 o vk vc,.mem N]:=ho;generalize (decide (Vl.size o≤3000)&&decide (o.s.length≤600))=q;simp only[rs];have lives:∀{W:World} {N2:Mem} {PK:PKT} {KK:VWP},M.le N2→OwnS M.A w W [pmE b6 x,obE b4 o vk vc,.mem N2]→(∀N3 W,M.le N3→OwnS M.A w W [pmE b6 x,obE b4 o vk vc,.mem N3]→KK (.bool true) W)→CallX prog 12 #[] W PK KK:=by
  intro W N2 PK KK l2 ho k;refine c_mem ho 2 rfl (lives16_ret N2 W (hrp.le l2) (hod.le l2) (hpw.le l2) (ho.hasM 2 rfl)) ?_;rintro _ N3 W3 l3 rfl ho;exact k N3 W3 (l2.trans l3) ho
 have early:CallX prog 12 #[] w3 (pk K) fun t25 w=>K (.returned t25) w:=lives l1 ho fun N3 W l3 ho=>hK _ _ N3 _ 2 ho rfl l3 rfl;cases q with
|false=>
  simp only[Bool.not_false,rs,g_un,i_t];exact early
|true=>
 simp only[Bool.not_true,rs];rw[s_len Tryz.underlying9];simp only[rs];by_cases h6:600 < data.length
 ·simp only[show decide ((600:Int) < (data.length:Int))=true from decide_eq_true (by omega),i_t];exact early
 simp only[show decide ((600:Int) < (data.length:Int))=false from decide_eq_false (by omega),i_f];have hd:data.length≤1000000000:=by omega
 rw[ob_v ho 1 rfl];refine c_mem ho 2 rfl (fdecode_ret16 o _ N w3 (hrp.le l1) (hod.le l1) (hpw.le l1) hw (ho.hasM 2 rfl) (hv.le l1)) ?_;rintro _ N2 w4 l2 rfl ho;simp only[zlT,ex];rw[ob_v ho 1 rfl];refine c_mem ho 2 rfl (rdecode16_ret o _ N2 w4 hw (ho.hasM 2 rfl) ((hv.le l1).le l2)) ?_;rintro _ N3 w5 l3 rfl ho;simp only[zlT,ex];rw[pm_v ho 0 rfl];have hle3:=(l1.trans l2).trans l3;refine c_mem ho 2 rfl (fundo_ret n x data N3 w5 (hrp.le hle3) (hod.le hle3) (hpw.le hle3) hd (ho.hasM 2 rfl)) ?_;rintro _ N4 w6 l4 ⟨rfl,_⟩ ho;simp only[zlT,ex];rw[pm_v ho 0 rfl];refine c_mem ho 2 rfl (rundo16_ret n x data N4 w6 hd (ho.hasM 2 rfl)) ?_;rintro _ N5 w7 l5 ⟨rfl,_⟩ ho;simp only[zlT,ex];generalize Ff.decode o=D;generalize Ff.undo n x data=U;simp only[rs,decide_true];refine lives ((hle3.trans l4).trans l5) ho fun N6 W l6 ho=>?_
 try simp only[rs]
 exact hK _ _ N6 _ 2 ho rfl l6 rfl
end
section
open Eng Go.RowKit Go.ChangeShapes Go.WideShapes Go.ChangeAt
set_option maxRecDepth 100000
theorem list2f {α:Type}:∀{l:List α},l.length=2→∃a b,l=[a,b]
|[a,b],_=>⟨a,b,rfl⟩
theorem mapM_mem {α β:Type}{f:α→Option β}:∀{l:List α} {r:List β},l.mapM f=some r→(∀a∈l,∃b∈r,f a=some b)∧∀b∈r,∃a∈l,f a=some b
|[],r,h=>by
  simp only[List.mapM_nil,Option.pure_def,Option.some.injEq] at h;subst h;exact⟨(fun a ha=>by cases ha),(fun b hb=>by cases hb)⟩
|x::l,r,h=>by
  simp only[List.mapM_cons,Option.bind_eq_bind,Option.bind_eq_some_iff,Option.pure_def,Option.some.injEq] at h;obtain⟨b,hb,r',hr',rfl⟩:=h;obtain⟨i1,i2⟩:=mapM_mem hr';refine⟨fun a ha=>?_,fun c hc=>?_⟩
  ·rcases List.mem_cons.1 ha with rfl|ha
   ·exact⟨b,List.mem_cons_self,hb⟩
   ·obtain⟨c,hc,he⟩:=i1 a ha;exact⟨c,List.mem_cons_of_mem _ hc,he⟩
  ·rcases List.mem_cons.1 hc with rfl|hc
   ·exact⟨x,List.mem_cons_self,hb⟩
   ·obtain⟨a,ha,he⟩:=i2 c hc;exact⟨a,List.mem_cons_of_mem _ ha,he⟩
theorem ins_mem {H:Type}(x y:Lit×DataW H):∀l:List (Lit×DataW H),y∈DataW.insert x l↔y=x∨y∈l
|[]=>by simp[DataW.insert]
|z::r=>by
  unfold DataW.insert;split
  ·simp
  ·rw[List.mem_cons,ins_mem x y r,List.mem_cons];constructor
   ·rintro (h|h|h)
    ·exact .inr (.inl h)
    ·exact .inl h
    ·exact .inr (.inr h)
   ·rintro (h|h|h)
    ·exact .inr (.inl h)
    ·exact .inl h
    ·exact .inr (.inr h)
theorem sorted_mem {H:Type}(y:Lit×DataW H):∀l:List (Lit×DataW H),y∈l.foldr DataW.insert []↔y∈l
|[]=>by simp
|x::r=>by rw[List.foldr_cons,ins_mem,sorted_mem y r,List.mem_cons]
section
variable {H:Type}{enc:TypeId×Value→H}{W:World}{sp:Nat→Bool}{held:Bool}
theorem open_rep (fuel:Nat)(cs:List Value)(x:DataW H×List MemPlace)(h:DataW.trod enc prog W 0 sp held fuel 363 cs=some x):∃a b:Int,cs=[.int .i64 a,.int .i64 b]∧x.1=.agg [.lit (.int .i64 a),.lit (.int .i64 b)]:=by
 obtain⟨xs,n,rfl,hdd,hl,hxl,hf⟩:=DataW.trod_struct Tryz.underlying363 h;have c2:Tryz.prog.cellsOf 363=2:=by kernel_rfl
 rw[c2] at hl;have hxl:xs.length=2:=hxl;obtain⟨x0,x1,rfl⟩:=list2f hxl;obtain⟨v0,v1,rfl⟩:=list2f hl;have e0:=hf 0 _ rfl;have e1:=hf 1 _ rfl;have k0:Tryz.prog.cellsOf 3=1:=by kernel_rfl
 simp only[k0,List.drop_zero,List.drop_succ_cons,List.take_succ_cons,List.take_zero,List.getElem?_cons_zero,List.getElem?_cons_succ] at e0 e1;obtain⟨a,ha,rfl,_⟩:=DataW.trod_int Tryz.underlying3 e0;obtain⟨b,hb,rfl,_⟩:=DataW.trod_int Tryz.underlying3 e1
 injection ha with ha _
 injection hb with hb _
 subst ha;subst hb;exact⟨a,b,rfl,by rw[hdd];rfl⟩
end
section
variable {H:Type}{enc:TypeId×Value→H}{P:Program}{W:World}{sp:Nat→Bool}{held:Bool}
theorem open_mapR {t k e:TypeId}(ht:P.underlying t=some (.map k e)){fuel:Nat}{cs:List Value}{L:List (Lit×DataW H)}{p:List MemPlace}(h:DataW.trod enc P W 0 sp held fuel t cs=some (.map L,p)) :
  ∃b es clock n entries,cs=[.map (some b)]∧W.heap[b]?=some (.map es clock) ∧
   (es.toList.mapM fun x=>(keyOf P k x.key).bind fun key=>if x.val.formed P e then (DataW.trod enc P W 0 sp held n e x.val.cells.toList).map fun y=>((key,y.1),y.2) else none)=some entries ∧
   (entries.map (·.1)).foldr DataW.insert []=L:=by
 cases fuel with
|zero=>simp[DataW.trod] at h
|succ n=>
  unfold DataW.trod at h;rw[ht] at h;rcases cs with _|⟨c,_|⟨d,r⟩⟩
  ·simp at h
  ·cases c with
  |map a=>
    cases a with
   |none=>simp at h
   |some b=>
     dsimp only at h;cases hb:W.heap[b]? with
    |none=>rw[hb] at h;simp at h
    |some o=>
      rw[hb] at h;cases o with
     |map es clock=>
       dsimp only at h;split at h
       ·obtain⟨entries,h1,h2⟩:=Option.bind_eq_some_iff.1 h;refine⟨b,es,clock,n,entries,rfl,hb,h1,?_⟩
        try dsimp only at h2
        split at h2
        ·injection h2 with h2
         injection h2 with h2 _
         injection h2 with h2
        ·cases h2
       ·cases h
     |_=>simp at h
  |_=>simp at h
  ·simp at h
end
def rpD {H:Type}:List (Lit×DataW H):=[(.int .i64 16,.agg [.lit (.int .i64 3),.lit (.int .i64 2)]),(.int .i64 17,.agg [.lit (.int .i64 3),.lit (.int .i64 3)]),(.int .i64 18,.agg [.lit (.int .i64 11),.lit (.int .i64 7)])]
def repK (x:MapEntry):Int×Value:=(match x.key with|.int _ n=>n|_=>0,x.val)
theorem key_i64 {v:Value}{kl:Lit}(h:keyOf prog 3 v=some kl):∃n:Int,v=.int .i64 n∧kl=.int .i64 n:=by
 unfold keyOf at h;rw[Tryz.underlying3] at h;dsimp only at h;unfold mapKey at h;rw[Tryz.underlying3] at h;cases v with
|int q n=>
  dsimp only at h;split at h
  ·rename_i hc
   obtain⟨rfl,_⟩:=hc
   injection h with h
   exact⟨n,rfl,h.symm⟩
  ·cases h
|_=>simp at h
theorem look_iff (al:List (Int×Value))(h1:∀p∈al,p∈rpM)(h2:∀p∈rpM,p∈al)(k:Int):lookI al k=lookI rpM k:=by
 unfold lookI;cases hf:al.find? (fun p=>decide (p.1=k)) with
|none=>
  have hn:=List.find?_eq_none.1 hf;have:rpM.find? (fun p=>decide (p.1=k))=none:=List.find?_eq_none.2 fun p hp=>hn p (h2 p hp);rw[this]
|some p=>
  have hm:=h1 p (List.mem_of_find?_eq_some hf);have hk:p.1=k:=by simpa using List.find?_some hf
  simp only[rpM,List.mem_cons,List.not_mem_nil,or_false] at hm;rcases hm with rfl|rfl|rfl<;>(dsimp only at hk;subst hk;rfl)
theorem rp_laid {W:World}{rest:List (String×DataW Unit)}(h:laidMet prog (("foliant/inflate.repeats",.map rpD)::rest) W):Rp (Mem.all W):=by
 obtain⟨ps,⟨g',t',cs,fuel,p,q,hg',ht',hvar,hd,_,_⟩,_⟩:=h;obtain rfl:=Option.some.inj ((show Tryz.prog.globalNamed "foliant/inflate.repeats"=some 3 by kernel_rfl).symm.trans hg')
 obtain rfl:=Option.some.inj ((show (Tryz.prog.globals[3]?).map (·.type)=some 365 by kernel_rfl).symm.trans ht');obtain⟨b,es,clock,n,entries,hcs,hb,hm,hs⟩:=open_mapR mpRp hd;have hcell:=World.var?_cell (show Tryz.prog.globalNamed "foliant/inflate.repeats"=some 3 by kernel_rfl) hvar 0
 have hc0:cs[0]?=some (.map (some b)):=by
  rw[←Array.getElem?_toList,hcs];rfl
 rw[hc0] at hcell;have hgb:3 < W.heap.size:=by
  have:=hcell;unfold World.cell? at this;cases hh:W.heap[3]? with
 |none=>simp[hh] at this
 |some o=>exact lt_of_get hh
 obtain⟨m1,m2⟩:=mapM_mem hm;have hL:∀y:Lit×DataW Unit,y∈(rpD:List (Lit×DataW Unit))↔y∈entries.map (·.1):=fun y=>by rw[←hs];exact sorted_mem y _
 -- each entry
 have ent:∀x∈es.toList,∃k a c:Int,x.key=.int .i64 k∧x.val=.agg #[.int .i64 a,.int .i64 c]∧((Lit.int .i64 k,DataW.agg [.lit (.int .i64 a),.lit (.int .i64 c)]):Lit×DataW Unit)∈rpD:=by
  intro x hx;obtain⟨en,hen,hf⟩:=m1 x hx;obtain⟨kl,hk,hf⟩:=Option.bind_eq_some_iff.1 hf;obtain⟨k,hk1,rfl⟩:=key_i64 hk;split at hf
  ·rename_i hfm
   obtain⟨y,hy,rfl⟩:=Option.map_eq_some_iff.1 hf;obtain⟨a,c,hcs2,hy1⟩:=open_rep _ _ _ hy;refine⟨k,a,c,hk1,?_,?_⟩
   ·cases hv:x.val with
   |agg vs=>
     rw[hv] at hcs2;have:vs.toList=[.int .i64 a,.int .i64 c]:=hcs2;rw[show vs=vs.toList.toArray by simp,this]
   |_=>rw[hv] at hfm;exact absurd hfm (by unfold Value.formed;rw[Tryz.underlying363];simp)
   ·rw[hL,←hy1];exact List.mem_map.2 ⟨_,hen,rfl⟩
  ·cases hf
 have inR:∀{k a c:Int},((Lit.int .i64 k,DataW.agg [.lit (.int .i64 a),.lit (.int .i64 c)]):Lit×DataW Unit)∈rpD→(k,Value.agg #[.int .i64 a,.int .i64 c])∈rpM:=by
  intro k a c h;simp only[rpD,List.mem_cons,List.not_mem_nil,or_false,Prod.mk.injEq] at h;rcases h with ⟨h1,h2⟩|⟨h1,h2⟩|⟨h1,h2⟩<;>(injection h1 with _ h1;injection h2 with h2;simp only[List.cons.injEq,and_true] at h2;obtain⟨h3,h4⟩:=h2;injection h3 with h3;injection h4 with h4;injection h3 with _ h3;injection h4 with _ h4;subst h1;subst h3;subst h4;simp[rpM])
 refine⟨b,hgb,hcell,lt_of_get hb,es.toList.map repK,look_iff _ ?_ ?_,es,clock,hb,?_⟩
 ·intro p hp;obtain⟨x,hx,rfl⟩:=List.mem_map.1 hp;obtain⟨k,a,c,e1,e2,e3⟩:=ent x hx;have:repK x=(k,.agg #[.int .i64 a,.int .i64 c]):=by unfold repK;rw[e1,e2]
  rw[this];exact inR e3
 ·intro p hp;have key:∀{k a c:Int},((Lit.int .i64 k,DataW.agg [.lit (.int .i64 a),.lit (.int .i64 c)]):Lit×DataW Unit)∈rpD→(k,Value.agg #[.int .i64 a,.int .i64 c])∈es.toList.map repK:=by
   intro k a c h;obtain⟨en,hen,he⟩:=List.mem_map.1 ((hL _).1 h);obtain⟨x,hx,hf⟩:=m2 en hen;obtain⟨k',a',c',e1,e2,_⟩:=ent x hx;obtain⟨kl,hk,hf⟩:=Option.bind_eq_some_iff.1 hf;obtain⟨k2,hk1,rfl⟩:=key_i64 hk;split at hf
   ·obtain⟨y,hy,rfl⟩:=Option.map_eq_some_iff.1 hf;obtain⟨a2,c2,hcs2,hy1⟩:=open_rep _ _ _ hy;rw[e2] at hcs2;have hcs2:[Value.int .i64 a',Value.int .i64 c']=[.int .i64 a2,.int .i64 c2]:=hcs2;simp only[List.cons.injEq,and_true] at hcs2;obtain⟨q1,q2⟩:=hcs2
    injection q1 with _ q1
    injection q2 with _ q2
    rw[e1] at hk1
    injection hk1 with _ hk1
    dsimp only at he;rw[hy1] at he
    injection he with he1 he2
    injection he1 with _ he1
    injection he2 with he2
    simp only[List.cons.injEq,and_true] at he2;obtain⟨w1,w2⟩:=he2
    injection w1 with w1
    injection w2 with w2
    injection w1 with _ w1
    injection w2 with _ w2
    refine List.mem_map.2 ⟨x,hx,?_⟩;unfold repK;rw[e1,e2];subst q1;subst q2;subst hk1;subst he1;subst w1;subst w2;rfl
   ·cases hf
  simp only[rpM,List.mem_cons,List.not_mem_nil,or_false] at hp;rcases hp with rfl|rfl|rfl
  ·exact key (by simp[rpD])
  ·exact key (by simp[rpD])
  ·exact key (by simp[rpD])
 ·rw[List.map_map];refine List.map_congr_left fun x hx=>?_;obtain⟨k,a,c,e1,e2,e3⟩:=ent x hx;show (x.key,x.val)=(intK (repK x).1,(repK x).2);unfold repK;rw[e1];rfl
end
section
open Eng Go.RowKit
def layReps (w:World)(g:Nat):World:=
 { w with heap:=(w.heap.modify g fun
  |.cells _ t frozen=>.cells #[.map (some w.heap.size)] t frozen
  |o=>o).push (.map #[⟨.int .i64 16,.agg #[.int .i64 3,.int .i64 2],0⟩,⟨.int .i64 17,.agg #[.int .i64 3,.int .i64 3],1⟩,⟨.int .i64 18,.agg #[.int .i64 11,.int .i64 7],2⟩] 3) }
end
section
open Eng Go.RowKit Go.ChangeShapes Go.WideShapes Go.ChangeAt
set_option maxRecDepth 100000
theorem list3f {α:Type}:∀{l:List α},l.length=3→∃a b c,l=[a,b,c]
|[a,b,c],_=>⟨a,b,c,rfl⟩
section
variable {H:Type}{enc:TypeId×Value→H}{W:World}{sp:Nat→Bool}{held:Bool}
theorem row_parms {b0:Nat}{v:Value}{d:DataW H}{ps:List MemPlace}(hval:Value.okWide prog W .any b0 27 v)(hd:DataW.Trod enc prog W 0 sp held 27 v d ps):∃x:Pm,v=pmV x:=by
 obtain⟨cs,rfl,_⟩:=okWide_struct Tryz.underlying27 hval;obtain⟨fuel,h⟩:=hd;have h:DataW.trod enc prog W 0 sp held fuel 27 cs.toList=some (d,ps):=h;obtain⟨xs,n,rfl,hdd,hl,hxl,hf⟩:=DataW.trod_struct Tryz.underlying27 h;have c3:Tryz.prog.cellsOf 27=3:=by kernel_rfl
 rw[c3] at hl;have hxl:xs.length=3:=hxl;obtain⟨x0,x1,x2,rfl⟩:=list3f hxl;obtain⟨v0,v1,v2,hcs⟩:=list3f hl;rw[hcs] at hf;have e0:=hf 0 _ rfl;have e1:=hf 1 _ rfl;have e2:=hf 2 _ rfl;have k0:Tryz.prog.cellsOf 3=1:=by kernel_rfl
 simp only[k0,List.drop_zero,List.drop_succ_cons,List.take_succ_cons,List.take_zero,List.getElem?_cons_zero,List.getElem?_cons_succ] at e0 e1 e2;obtain⟨a,ha,_,_⟩:=DataW.trod_int Tryz.underlying3 e0;obtain⟨b,hb,_,_⟩:=DataW.trod_int Tryz.underlying3 e1;obtain⟨c,hc,_,_⟩:=DataW.trod_int Tryz.underlying3 e2
 injection ha with ha _
 injection hb with hb _
 injection hc with hc _
 subst ha;subst hb;subst hc;refine⟨⟨a,b,c⟩,?_⟩;have:cs=cs.toList.toArray:=by simp
 rw[this,hcs];rfl
end
theorem cell_lt {W:World}{g i:Nat}{v:Value}(h:W.cell? ⟨g,i,none⟩=some v):g < W.heap.size:=by
 unfold World.cell? at h;cases hh:W.heap[g]? with
|none=>simp[hh] at h
|some o=>exact lt_of_get hh
theorem od_laid {W:World}(h:Lib.TabIs prog W "foliant/inflate.order" .i64 [16,17,18,0,8,7,9,6,10,5,11,4,12,3,13,2,14,1,15]):Od (Mem.all W):=by
 refine⟨cell_lt (Lib.TabIs.cell (g:=2) h (by kernel_rfl) 0 (by decide)),fun i hi=>?_⟩;have:=Lib.TabIs.cell (g:=2) h (by kernel_rfl) i hi;rw[show (Mem.all W).w=W from rfl,this];rcases lt19 hi with rfl|rfl|rfl|rfl|rfl|rfl|rfl|rfl|rfl|rfl|rfl|rfl|rfl|rfl|rfl|rfl|rfl|rfl|rfl<;>rfl
theorem pws_laid {W:World}(h:Lib.TabIs prog W "foliant/ascii.powers" .u64 [52200625,614125,7225,85,1]):Pws (Mem.all W):=by
 refine⟨cell_lt (Lib.TabIs.cell (g:=0) h (by kernel_rfl) 0 (by decide)),fun i hi=>?_⟩;have:=Lib.TabIs.cell (g:=0) h (by kernel_rfl) i hi;rw[show (Mem.all W).w=W from rfl,this];rcases lt5 hi with rfl|rfl|rfl|rfl|rfl<;>rfl
theorem bulk4 {H:Type}{a b c d:DataW H}(h:Rows.uptoSmall H [a,b,c,d]=true):Rows.uptoBulk a≤1048576:=by
 have h:Rows.uptoBulkAll [a,b,c,d]≤1048576:=of_decide_eq_true h;simp only[Rows.uptoBulkAll] at h;omega
theorem filterDecodes_row (o:Ob)(v:Value)(n:List UInt8)(x:Pm)(data:List UInt8)(w:World)(hrp:Rp (Mem.all w))(hod:Od (Mem.all w))(hpw:Pws (Mem.all w))(hv:OV (InW w) w v o)(hw:o.wt≤1048576) :
  Ret prog 3 #[v,.string ⟨n.toArray⟩,pmV x,.string ⟨data.toArray⟩] w (fun v w'=>v=.bool true∧Below w.heap.size w w'):=
 RetM.told (filterDecodes_ret o v n x data (Mem.all w) w hrp hod hpw (by omega) (Mem.all_has w) hv)
end
end Go.Proofs.YtlipjfcbjemicaaGreatDoor
