/- Texts that go together: PgL PgM SLaw35 PgN PgO PgP PgQ PgR PgS PgT SDrop5 SRef19B PgU PgV LbG LbH LbI LbJ LbK EngV SLaw38 LbL LbM LbN LbO PgX. -/
import Derived.Test.YtoobidofdpdkbaaGreatDoorRows
import Derived.Test.YtoobidofdpdkbaaGreatDoorMcacjffhi
import Derived.Test.YtoobidofdpdkbaaGreatDoorMpmkbkgdj
import Derived.Test.YtoobidofdpdkbaaGreatDoorMfkapcdne
import Derived.Test.YtoobidofdpdkbaaGreatDoorMkcfpfbna
set_option linter.defProp false
set_option linter.unusedSimpArgs false
set_option linter.unusedVariables false
set_option maxRecDepth 20000
open Go.Proofs.Tryz (prog)
namespace Go.Proofs.YtoobidofdpdkbaaGreatDoor
section
open Eng Go.RowKit
theorem Pg.plain_ok {o:Ob}(h:Pg.plainS o=true):o.k=9∧∀k,Vl.get o k=none:=by
 simp only[Pg.plainS,Bool.and_eq_true,decide_eq_true_eq] at h;refine⟨h.1,fun k=>?_⟩;unfold Vl.get;rw[h.2];simp
section
variable {w:World}{PK:PKT}{K:VWP}{S:Nat→Prop}{w0:World}{L:List Ent}
theorem c_fmust {e:Int}(k:K (.tuple #[]) w):CallX prog 108 #[.bool true,.int .i64 e] w PK K:=by
 refine⟨S_filter_must_ok ?_⟩;simp only[S_filter_must,rs,Bool.not_true];exact k
end
theorem flisted_ret (o:Ob)(v:Value)(M:Mem)(w:World)(hp:Pg.plainS o=true)(hw:o.wt≤1000000000)(hM:M.has w)(hv:OV M.A M.w v o) :
  RetM prog 109 #[v] M w (fun r _=>r=nilS):=by
 obtain⟨vk,vc,ocs,rfl,ha⟩:=hv.open;obtain⟨h9,hg⟩:=Pg.plain_ok hp;refine retM_of hM fun K hK=>S_filter_listed_ok ?_;unfold S_filter_listed;refine o_obb o ha.keys.one ha.kids.one (OwnS.memS hM) fun b1 w1 ho=>?_;rw[ob_v ho 0 rfl];refine c_mem ho 1 rfl (vget_ret o _ [70,105,108,116,101,114] M w1 (by omega) (ho.hasM 1 rfl) hv) ?_;rintro _ N w2 hle ⟨x,rfl,hx⟩ ho;rw[hg] at hx ⊢;obtain⟨xk,xc,xcs,rfl,hxa⟩:=hx.open;simp only[getV,ex];refine o_oba ho fun b3 w3 ho=>?_;refine ob_put 0 hxa.keys.one hxa.kids.one ho rfl fun w4 ho=>?_;rw[ob_v ho 0 rfl];refine o_obs1 _ hxa.keys.one hxa.kids.one ho fun nb w5 ho=>?_;refine join fun J hJ=>?_;simp only[Option.isSome_none,rs,Bool.not_false];exact hK _ _ N _ 3 ho rfl hle rfl
theorem fparms_ret (o:Ob)(v:Value)(M:Mem)(w:World)(hp:Pg.plainS o=true)(hw:o.wt≤1000000000)(hM:M.has w)(hv:OV M.A M.w v o) :
  RetM prog 111 #[v,.int .i64 0] M w (fun r _=>r=nilS):=by
 obtain⟨vk,vc,ocs,rfl,ha⟩:=hv.open;obtain⟨h9,hg⟩:=Pg.plain_ok hp;refine retM_of hM fun K hK=>S_filter_parms_ok ?_;unfold S_filter_parms;refine o_obb o ha.keys.one ha.kids.one (OwnS.memS hM) fun b1 w1 ho=>?_;refine join fun J hJ=>?_;rw[ob_v ho 0 rfl];refine c_mem ho 1 rfl (vget_ret o _ [68,101,99,111,100,101,80,97,114,109,115] M w1 (by omega) (ho.hasM 1 rfl) hv) ?_;rintro _ N w2 hle ⟨x,rfl,hx⟩ ho;rw[hg] at hx ⊢;obtain⟨xk,xc,xcs,rfl,hxa⟩:=hx.open;simp only[getV,ex];refine o_oba ho fun b3 w3 ho=>?_;refine ob_put 0 hxa.keys.one hxa.kids.one ho rfl fun w4 ho=>?_;simp only[Option.isSome_none,rs];refine hJ _ _ fun _=>?_;simp only[gd,S_filter_parms_0];rw[sl_len_any Tryz.underlying24];refine loop (fun vs W=>vs=[nilS,.int .i64 0]∧w4=W) (fun _ _=>0) ⟨rfl,rfl⟩ ?_;rintro _ _ ⟨rfl,rfl⟩ _;simp only[S_filter_parms_1,gd,rs];rw[show decide ((0:Int) < ((0:Nat):Int))=false from rfl,i_f,sl_len_any Tryz.underlying24];simp only[rs];rw[show decide (((0:Nat):Int)≤0)=true from rfl];refine c_fmust ?_;rw[sl_len_any Tryz.underlying24];refine loop (fun vs W=>vs=[.int .i64 0]∧w4=W) (fun _ _=>0) ⟨rfl,rfl⟩ ?_;rintro _ _ ⟨rfl,rfl⟩ _;simp only[S_filter_parms_2,gd,rs];rw[show decide ((0:Int) < ((0:Nat):Int))=false from rfl,i_f];refine loop (fun vs W=>vs=[nilS]∧w4=W) (fun _ _=>0) ⟨rfl,rfl⟩ ?_;rintro _ _ ⟨rfl,rfl⟩ _;simp only[S_filter_parms_3,gd];rw[sl_len_any Tryz.underlying142];simp only[rs];rw[show decide (((0:Nat):Int) < 0)=false from rfl,i_f];exact hK _ _ N _ 2 ho rfl hle rfl
theorem of1_plain:plainB prog 107=true:=by kernel_rfl
theorem fof_ret (o:Ob)(v:Value)(M:Mem)(w:World)(hp:Pg.plainS o=true)(hw:o.wt≤1000000000)(hM:M.has w)(hv:OV M.A M.w v o) :
  RetM prog 86 #[v] M w (fun r _=>r=.tuple #[nilS,nilS,.int .i64 0]):=by
 obtain⟨vk,vc,ocs,rfl,ha⟩:=hv.open;obtain⟨h9,hg⟩:=Pg.plain_ok hp;refine retM_of hM fun K hK=>S_filter_Of_ok ?_;unfold S_filter_Of;refine o_obb o ha.keys.one ha.kids.one (OwnS.memS hM) fun b1 w1 ho=>?_;refine o_new (fun b=>.pointer (some ⟨b,0,none⟩)) [nilS] 23 (fun _=>by kernel_rfl) ho fun b2 w2 ho=>?_;refine o_new (fun b=>.pointer (some ⟨b,0,none⟩)) [nilS] 142 (fun _=>by kernel_rfl) ho fun b3 w3 ho=>?_;refine o_new (fun b=>.pointer (some ⟨b,0,none⟩)) [.int .i64 0] 32 (fun _=>by kernel_rfl) ho fun b4 w4 ho=>?_;rw[m_func];refine⟨_,rfl,?_⟩;rw[fa_o0,ob_k ho 3 rfl];simp only[rs,h9];refine c_fmust ?_;rw[ob_v ho 3 rfl];refine c_below ho (R:=fun v=>v=nilS) (RetM.told (flisted_ret o _ M w4 hp hw (ho.hasM 4 rfl) hv)) ?_;rintro _ w5 rfl ho;rw[sl_len_any Tryz.underlying23];simp only[rs];rw[show decide (((0:Nat):Int)≤8)=true from rfl];refine c_fmust ?_;rw[sl_len_any Tryz.underlying23];refine loop (fun vs W=>vs=[.int .i64 0]∧w5=W) (fun _ _=>0) ⟨rfl,rfl⟩ ?_;rintro _ _ ⟨rfl,rfl⟩ _;simp only[S_filter_Of_0,gd,rs];rw[show decide ((0:Int) < ((0:Nat):Int))=false from rfl,i_f,ob_v ho 3 rfl,sl_len_any Tryz.underlying23];refine c_below ho (R:=fun v=>v=nilS) (RetM.told (fparms_ret o _ M w5 hp hw (ho.hasM 4 rfl) hv)) ?_;rintro _ w6 rfl ho;refine o_store 1 ho rfl (by kernel_rfl) rfl (by simp) fun w7 ho=>?_;have ho:OwnS M.A w w7 [.cells b4 [.int .i64 0] 32,.cells b3 [nilS] 142,.cells b2 [nilS] 23,obE b1 o vk vc,.mem M]:=ho;rw[l_cell (by kernel_rfl) (ho.cell 2 rfl 0 rfl),sl_len_any Tryz.underlying23];refine loop (fun vs W=>vs=[.int .i64 0]∧w7=W) (fun _ _=>0) ⟨rfl,rfl⟩ ?_;rintro _ _ ⟨rfl,rfl⟩ _;simp only[S_filter_Of_1,gd,rs];rw[show decide ((0:Int) < ((0:Nat):Int))=false from rfl,i_f];have fin:∀{W:World},OwnS M.A w W [.cells b4 [.int .i64 0] 32,.cells b3 [nilS] 142,.cells b2 [nilS] 23,obE b1 o vk vc,.mem M] →
   S_filter_Of_2 (.pointer (some ⟨b2,0,none⟩)) (.pointer (some ⟨b3,0,none⟩)) (.pointer (some ⟨b4,0,none⟩)) { target:=.fn (.func 107) #[.pointer (some ⟨b2,0,none⟩),.pointer (some ⟨b3,0,none⟩),.pointer (some ⟨b4,0,none⟩)],args:=#[]++#[] } W K:=by
  intro W ho;unfold S_filter_Of_2;refine leave_fn (by simp) of1_plain (S_filter_Of_fn1_dok (t0:=.pointer (some ⟨b2,0,none⟩)) (t1:=.pointer (some ⟨b3,0,none⟩)) (t2:=.pointer (some ⟨b4,0,none⟩)) ?_);simp only[S_filter_Of_fn1,recV,recM,Eng.n_nil Tryz.underlying20,i_f];refine ret_v3 (rv_cell (AtV.cell (by kernel_rfl) (ho.cell 2 rfl 0 rfl))) (rv_cell (AtV.cell (by kernel_rfl) (ho.cell 1 rfl 0 rfl))) (rv_cell (AtV.cell nErr5 (ho.cell 0 rfl 0 rfl))) ?_;exact hK _ _ M _ 4 ho rfl M.le_refl rfl
 have ho:=ho.drew;have st:∀{W:World} {PK:PKT},OwnS M.A w W [.cells b4 [.int .i64 0] 32,.cells b3 [nilS] 142,.cells b2 [nilS] 23,obE b1 o vk vc,.mem M]→∀{F:VWP},(∀W,OwnS M.A w W [.cells b4 [.int .i64 0] 32,.cells b3 [nilS] 142,.cells b2 [nilS] 23,obE b1 o vk vc,.mem M]→F undef W) →
   DoX prog (mStore 23 (.pointer (some ⟨b2,0,none⟩)) nilS) W PK F:=fun ho F k=>o_store 2 ho rfl (by kernel_rfl) rfl (by simp) fun W2 ho=>k W2 ho
 have sp:∀{W:World} {PK:PKT},OwnS M.A w W [.cells b4 [.int .i64 0] 32,.cells b3 [nilS] 142,.cells b2 [nilS] 23,obE b1 o vk vc,.mem M]→∀{F:VWP},(∀W,OwnS M.A w W [.cells b4 [.int .i64 0] 32,.cells b3 [nilS] 142,.cells b2 [nilS] 23,obE b1 o vk vc,.mem M]→F undef W) →
   DoX prog (mStore 142 (.pointer (some ⟨b3,0,none⟩)) nilS) W PK F:=fun ho F k=>o_store 1 ho rfl (by kernel_rfl) rfl (by simp) fun W2 ho=>k W2 ho
 have se:∀{W:World} {PK:PKT},OwnS M.A w W [.cells b4 [.int .i64 0] 32,.cells b3 [nilS] 142,.cells b2 [nilS] 23,obE b1 o vk vc,.mem M]→∀{F:VWP},(∀W,OwnS M.A w W [.cells b4 [.int .i64 0] 32,.cells b3 [nilS] 142,.cells b2 [nilS] 23,obE b1 o vk vc,.mem M]→F undef W) →
   DoX prog (mStore 32 (.pointer (some ⟨b4,0,none⟩)) (.int .i64 0)) W PK F:=fun ho F k=>o_store 0 ho rfl (by kernel_rfl) rfl (by simp) fun W2 ho=>k W2 ho
 have ls:∀{W:World} {PK:PKT},OwnS M.A w W [.cells b4 [.int .i64 0] 32,.cells b3 [nilS] 142,.cells b2 [nilS] 23,obE b1 o vk vc,.mem M]→∀{F:VWP},DoX prog (mLoad 23 (.pointer (some ⟨b2,0,none⟩))) W PK F=F nilS W:=fun ho=>l_cell (by kernel_rfl) (ho.cell 2 rfl 0 rfl);have lq:∀{W:World} {PK:PKT},OwnS M.A w W [.cells b4 [.int .i64 0] 32,.cells b3 [nilS] 142,.cells b2 [nilS] 23,obE b1 o vk vc,.mem M]→∀{F:VWP},DoX prog (mLoad 142 (.pointer (some ⟨b3,0,none⟩))) W PK F=F nilS W:=fun ho=>l_cell (by kernel_rfl) (ho.cell 1 rfl 0 rfl);refine draw ⟨?_,?_⟩
 ·rw[ls ho];constructor
  ·rw[lq ho];exact st ho fun _ ho=>sp ho fun _ ho=>se ho fun _ ho=>fin ho
  ·refine st ho fun _ ho=>?_;rw[lq ho];exact sp ho fun _ ho=>se ho fun _ ho=>fin ho
 ·rw[lq ho,ls ho];exact st ho fun _ ho=>sp ho fun _ ho=>se ho fun _ ho=>fin ho
theorem fdecode_ret (o:Ob)(v:Value)(M:Mem)(w:World)(hp:Pg.plainS o=true)(hw:o.wt≤1000000000)(hM:M.has w)(hv:OV M.A M.w v o) :
  RetM prog 59 #[v] M w (fun r _=>r=.tuple #[.string ⟨o.s.toArray⟩,.int .i64 0]):=by
 obtain⟨vk,vc,ocs,rfl,ha⟩:=hv.open;refine retM_of hM fun K hK=>S_filter_Decode_ok ?_;unfold S_filter_Decode;refine o_obb o ha.keys.one ha.kids.one (OwnS.memS hM) fun b1 w1 ho=>?_;rw[ob_v ho 0 rfl];refine c_below ho (R:=fun v=>v=.tuple #[nilS,nilS,.int .i64 0]) (RetM.told (fof_ret o _ M w1 hp hw (ho.hasM 1 rfl) hv)) ?_;rintro _ w2 rfl ho;simp only[ex,x_ext (show [nilS,nilS,Value.int .i64 0][2]?=some (Value.int .i64 0) from rfl),x_ext (show [nilS,nilS,Value.int .i64 0][1]?=some nilS from rfl),x_ext (show [nilS,nilS,Value.int .i64 0][0]?=some nilS from rfl),n_err,show decide ((0:Int)≠0)=false by decide,i_f];rw[fa_o3,ob_s ho 0 rfl,sl_len_any Tryz.underlying23];refine loop (fun vs W=>vs=[.string ⟨o.s.toArray⟩,.int .i64 0]∧w2=W) (fun _ _=>0) ⟨rfl,rfl⟩ ?_;rintro _ _ ⟨rfl,rfl⟩ _;simp only[S_filter_Decode_0,gd,rs];rw[show decide ((0:Int) < ((0:Nat):Int))=false from rfl,i_f];exact hK _ _ M _ 1 ho rfl M.le_refl rfl
end
section
open Eng Go.RowKit
theorem Pg.texts_snoc:∀(m:List Ob) (o:Ob),Pg.texts (m++[o])=(if m=[] then [] else Pg.texts m++[10])++o.s
|[],o=>by simp[Pg.texts]
|[a],o=>by simp[Pg.texts]
|a::b::m,o=>by
  have ih:=Pg.texts_snoc (b::m) o;simp only[List.cons_append,Pg.texts,reduceCtorEq,if_false] at ih ⊢;rw[ih];simp
theorem Pg.texts_le:∀(k m:List Ob),(Pg.texts m).length≤(Pg.texts (m++k)).length
|[],m=>by rw[List.append_nil];exact Nat.le_refl _
|o::k,m=>by
  have h1:=Pg.texts_le k (m++[o]);rw[List.append_assoc] at h1;refine Nat.le_trans ?_ h1;rw[Pg.texts_snoc];split
  ·rename_i h;subst h;simp[Pg.texts]
  ·simp
theorem Pg.texts_take {l:List Ob}{i:Nat}(hi:i < l.length):Pg.texts (l.take (i+1))=(if i=0 then [] else Pg.texts (l.take i)++[10])++l[i].s:=by
 rw[List.take_succ_eq_append_getElem hi,Pg.texts_snoc]
 congr 1
 by_cases h0:i=0
 ·subst h0;simp
 ·rw[if_neg h0,if_neg];intro h;have:=congrArg List.length h;rw[List.length_take,List.length_nil] at this;omega
theorem bldLen_ret {b:Nat}{v:Value}{l:List UInt8}{w:World}(h:(Bld b v l).is w):Ret prog 62 #[.pointer (some ⟨b,0,none⟩)] w (fun r w'=>r=.int .i64 l.length∧Below w.heap.size w w'):=by
 obtain⟨p,hp,hcap,ho⟩:=(OwnS.lend h).openB;refine ret_of fun K hK=>S_strings_Builder_Len_ok ?_;unfold S_strings_Builder_Len;rw[m_nilP,f_addr (show fOff prog 104 1=some 1 by kernel_rfl),l_cell (by kernel_rfl) (ho.cell 0 rfl 1 rfl),sl_len Tryz.underlying102 (ho.slRow 1 rfl)];exact hK _ _ ⟨rfl,Below.refl _ _⟩
theorem content2 {M N:Mem}{w W:World}{av:Value}{ss:List Ob}{K:Ending→World→Prop}(hM:M.has w)(hc:Chn N.A N.w av ss)(hp:∀o∈ss,Pg.plainS o=true∧o.wt≤1000000000)(hl:ss.length≤1000000)(ht:(Pg.texts ss).length≤1048576)
  (ho:OwnS M.A w W [.mem N]) (hK:∀(W':World) (L:List Ent) (i:Nat),OwnS M.A w W' L→L[i]?=some (.mem N)→K (.returned (.tuple #[.string ⟨(Pg.texts ss).toArray⟩,.int .i64 0])) W'):S_pages_Content_2 av W K:=by
 unfold S_pages_Content_2;rw[hc.len (ho.hasM 0 rfl)];refine loop (fun vs W=>∃i:Nat,vs=[.int .i64 i]∧i≤ss.length∧OwnS M.A w W [.mem N]) (fun vs _=>ss.length - n0 vs) ⟨0,rfl,by omega,ho⟩ ?_;clear ho;rintro vs w1 ⟨i,rfl,hi,ho⟩ _;simp only[S_pages_Content_3,gd,rs];by_cases hlt:(i:Int) < (ss.length:Int)
 ·have hi':i < ss.length:=by omega
  simp only[hlt,decide_true,i_t];obtain⟨xv,p,hxv,r1,r2⟩:=chn_at hc hi';refine do_eq (r1 w1) |>.mpr (do_eq (r2 w1 (ho.hasM 0 rfl)) |>.mpr ?_);obtain⟨xk,xc,xcs,rfl,hxa⟩:=hxv.open;refine o_oba ho fun b15 w2 ho=>?_;refine ob_put 0 hxa.keys.one hxa.kids.one ho rfl fun w3 ho=>?_;obtain⟨h9,_⟩:=Pg.plain_ok (hp _ (List.getElem_mem hi')).1;rw[fa_o0,ob_k ho 0 rfl];simp only[rs,h9,show decide ((9:Int)≠9)=false by decide];rw[wrap64_id (by omega) (by omega)];exact nextX ⟨i+1,rfl,by omega,ho.tail⟩ (by simp[n0,RowKit.intOf];omega)
 simp only[hlt,decide_false,i_f];refine o_new (fun b=>.pointer (some ⟨b,0,none⟩)) [.pointer none,.slice none 0 0] 104 (fun _=>by kernel_rfl) ho fun b16 w4 ho=>?_;have hB0:∃v0,OwnS M.A w w4 [Bld b16 v0 [],.mem N]:=⟨_,OwnS.closeB (l:=[]) (.inl rfl) roomy_nil (ho.nilRow 5 1).swap⟩;obtain⟨v0,ho⟩:=hB0;rw[hc.len (ho.hasM 1 rfl)];refine loop (fun vs W=>∃(i:Nat) (bv:Value),vs=[.int .i64 i]∧i≤ss.length∧OwnS M.A w W [Bld b16 bv (Pg.texts (ss.take i)),.mem N]) (fun vs _=>ss.length - n0 vs) ⟨0,v0,rfl,by omega,by simpa[Pg.texts] using ho⟩ ?_;clear ho hlt hi;rintro vs w5 ⟨i,bv,rfl,hi,ho⟩ _;simp only[S_pages_Content_4,gd,rs];by_cases hlt:(i:Int) < (ss.length:Int)
 ·have hi':i < ss.length:=by omega
  simp only[hlt,decide_true,i_t];obtain⟨xv,p,hxv,r1,r2⟩:=chn_at hc hi';refine do_eq (r1 w5) |>.mpr (do_eq (r2 w5 (ho.hasM 1 rfl)) |>.mpr ?_);obtain⟨xk,xc,xcs,rfl,hxa⟩:=hxv.open;refine o_oba ho fun b18 w6 ho=>?_;refine ob_put 0 hxa.keys.one hxa.kids.one ho rfl fun w7 ho=>?_;obtain⟨hpl,hwx⟩:=hp _ (List.getElem_mem hi');have htk:=Pg.texts_take hi';have hle1:(Pg.texts (ss.take (i+1))).length≤1048576:=by
   have:=Pg.texts_le (ss.drop (i+1)) (ss.take (i+1));rw[List.take_append_drop] at this;omega
  have hlen:=congrArg List.length htk;rw[List.length_append] at hlen;rw[ob_v ho 0 rfl];refine c_below ho (R:=fun v=>v=.tuple #[.string ⟨ss[i].s.toArray⟩,.int .i64 0]) (RetM.told (fdecode_ret ss[i] _ N w7 hpl hwx (ho.hasM 2 rfl) hxv)) ?_;rintro _ w8 rfl ho;simp only[ex,n_err,show decide ((0:Int)≠0)=false by decide,i_f];have ho:OwnS M.A w w8 [obE b18 ss[i] xk xc,Bld b16 bv (Pg.texts (ss.take i)),.mem N]:=ho;refine join fun J hJ=>?_;have fin:∀{W:World} {bv:Value},OwnS M.A w W [obE b18 ss[i] xk xc,Bld b16 bv (if i=0 then [] else Pg.texts (ss.take i)++[10]),.mem N]→J [] W:=by
   intro W bv ho;refine hJ _ _ fun _=>?_;unfold S_pages_Content_5;refine c_turn 1 ho rfl (writeString_ret (s:=ss[i].s) (ho.at_ 1 rfl) (by omega)) ?_;rintro _ _ w9 ⟨_,v9,rfl⟩ ho;rw[←htk] at ho;have ho:OwnS M.A w w9 [obE b18 ss[i] xk xc,Bld b16 v9 (Pg.texts (ss.take (i+1))),.mem N]:=ho;refine c_below ho (R:=fun v=>v=.int .i64 (Pg.texts (ss.take (i+1))).length) (bldLen_ret (ho.at_ 1 rfl)) ?_;rintro _ w10 rfl ho;simp only[rs];rw[decide_eq_false (by omega),i_f,wrap64_id (by omega) (by omega)];exact nextX ⟨i+1,v9,rfl,by omega,ho.tail⟩ (by simp[n0,RowKit.intOf];omega)
  by_cases h0:i=0
  ·subst h0;rw[show decide ((0:Int) < ((0:Nat):Int))=false from rfl,i_f];exact fin (bv:=bv) ho
  ·rw[decide_eq_true (by omega),i_t];refine c_turn 1 ho rfl (writeByteN_ret (n:=10) (k:=10) (ho.at_ 1 rfl) (by
    have:=Pg.texts_le (ss.drop i) (ss.take i);rw[List.take_append_drop] at this;omega) rfl (by omega)) ?_
   rintro _ _ w9 ⟨_,v9,rfl⟩ ho;refine fin (bv:=v9) ?_;rw[if_neg h0];exact ho
 ·simp only[hlt,decide_false,i_f];have hie:i=ss.length:=by omega
  subst hie;rw[List.take_length] at ho;refine c_turn 0 ho rfl (bldString_ret (ho.at_ 0 rfl)) ?_;rintro _ _ w6 ⟨rfl,rfl⟩ ho;exact hK _ _ 1 ho rfl
theorem pcontent_ret (d:Dc)(n:Int)(dv:Value)(M:Mem)(w:World)(hd:Dk.Ok d)(hg:(Pg.get d n).2=0)(x:Lf)(hx:(Pg.at_ d n).1=x)(c:Ob)(o:Ob)(ab:List Ob)(hch:x.chain=o::ab)(hcv:Pg.val d o Pg.conK=c)(h0:c.k≠0)
  (hp:∀o∈Pg.streams d c,Pg.plainS o=true) (hl:(Pg.streams d c).length≤100000) (ht:(Pg.texts (Pg.streams d c)).length≤1048576) (hM:M.has w) (hdv:DV M.A M.w dv d) :
  RetM prog 32 #[dv,.int .i64 n] M w (fun r _=>r=.tuple #[.string ⟨(Pg.texts (Pg.streams d c)).toArray⟩,.int .i64 0]):=by
 obtain⟨vi,tk,tc,dcs,rfl,hda⟩:=hdv;refine retM_of hM fun K hK=>S_pages_Content_ok ?_;unfold S_pages_Content;obtain⟨ha,-⟩:=Pg.get_ok hg;obtain⟨-,-,hn,hat⟩:=Pg.at_ok ha;have hok:ChOk x.chain:=by rw[←hx,hat];exact Pg.leaf_ok hd hn
 refine o_dcb d hda.items.one hda.trailer.oneK hda.trailer.oneC (OwnS.memS hM) fun b2 w1 ho=>?_;rw[dc_v ho 0 rfl];refine c_mem ho 1 rfl (pget_ret d n _ M w1 hd (ho.hasM 1 rfl) hda.dv) ?_;rintro _ N w2 hle ⟨_,rfl,pk,pc,rfl,hpg⟩ ho;simp only[errV,ex];refine o_pga ho fun b6 w3 ho=>?_;refine pg_put 0 hpg.oneK hpg.oneC ho rfl fun w4 ho=>?_;have ho:OwnS M.A w w4 [dcE b2 d vi tk tc,.mem N]:=ho.tail;simp only[n_err,hg,show decide ((0:Int)≠0)=false by decide,i_f];rw[dc_v ho 0 rfl];refine c_mem ho 1 rfl (pat_ret d n _ N w4 hd (ho.hasM 1 rfl) (hda.le hle).dv) ?_;rintro _ N1 w5 hle1 ⟨cv,rfl,hcv1⟩ ho;simp only[errV,ex];refine o_lfa ho fun b8 w6 ho=>?_;refine lf_put 0 hcv1.one ho rfl fun w7 ho=>?_;rw[hx] at hcv1 ho;have ho:OwnS M.A w w7 [lfE b8 x cv,dcE b2 d vi tk tc,.mem N1]:=ho;simp only[n_err,ha,show decide ((0:Int)≠0)=false by decide,i_f];have hle01:=hle.trans hle1;have h0l:0 < x.chain.length:=by rw[hch];simp
 obtain⟨xv,p,hxv,r1,r2⟩:=chn_at hcv1 h0l;have hx0:x.chain[0]=o:=by simp[hch]
 rw[hx0] at hxv;have how:o.wt≤1000000000:=hok.wt o (by rw[hch];simp);have hok8:Dk.follow d o=o:=Pg.follow_id (hok.k o (by rw[hch];simp));have hcw:c.wt≤1000000000:=by rw[←hcv];exact Pg.val_wt hd _ how
 have hpv:Dk.path d (Dk.follow d o) [Pg.conK]=c:=by rw[hok8,←hcv];rfl
 have fin:∀{W:World} {N2:Mem} {b10:Nat} {ck cc:Value},N1.le N2→OV N2.A N2.w (obV c ck cc) c→OwnS M.A w W [obE b10 c ck cc,lfE b8 x cv,dcE b2 d vi tk tc,.mem N2]→S_pages_Content_0 (.pointer (some ⟨b2,0,none⟩)) (.pointer (some ⟨b10,0,none⟩)) W K:=by
  intro W N2 b10 ck cc hle2 hc ho;unfold S_pages_Content_0;rw[ob_v ho 0 rfl];refine o_obs1 c hc.oneK hc.oneC ho fun nb w8 ho=>?_;have ho:=OwnS.toU (b:=nb) (cs:=obC c ck cc) (E:=26) ho 6 1 1 rfl (by omega) (by omega);obtain⟨N3,hle3,hrow,ho⟩:=OwnS.freezeU ho 3 rfl;have ho:OwnS M.A w w8 [obE b10 c ck cc,lfE b8 x cv,dcE b2 d vi tk tc,.mem N3]:=ho;have hone:Chn N3.A N3.w (.slice (some ⟨nb,0,none⟩) 1 1) [c]:=⟨_,hrow,ovs_1 (hc.le hle3)⟩;refine join fun J hJ=>?_;rw[fa_o0,ob_k ho 0 rfl];simp only[rs,h0,decide_false];by_cases h6:c.k=6
  ·have hss:Pg.streams d c=c.kids.map (Dk.follow d):=by unfold Pg.streams;rw[if_pos h6]
   rw[hss] at hp hl ht hK;rw[List.length_map] at hl;obtain⟨kcs,hka⟩:=(hc.le hle3).slices;simp only[h6,decide_true,i_t];rw[fa_o5,ob_kids ho 0 rfl,sl_len Tryz.underlying24 (hka.kids.now (ho.hasM 3 rfl))];have ho:OwnS M.A w w8 [.urow 26 6 nilS 0 [],obE b10 c ck cc,lfE b8 x cv,dcE b2 d vi tk tc,.mem N3]:=ho.nilU _ _;refine loop (fun vs W=>∃(i:Nat) (N':Mem) (v':Value) (ds:List Value),vs=[v',.int .i64 i]∧i≤c.kids.length∧N3.le N'∧OVs N'.A N'.w ds ((c.kids.take i).map (Dk.follow d))∧OwnS M.A w W [.urow 26 6 v' i ds,obE b10 c ck cc,lfE b8 x cv,dcE b2 d vi tk tc,.mem N']) (fun vs _=>c.kids.length - n1 vs)
    ⟨0,N3,nilS,[],rfl,by omega,N3.le_refl,.nil,ho⟩ ?_
   clear ho;rintro vs w9 ⟨i,N',v',ds,rfl,hi,hle4,hds,ho⟩ _;simp only[S_pages_Content_1,gd,rs];by_cases hlt:(i:Int) < (c.kids.length:Int)
   ·have hi':i < c.kids.length:=by omega
    simp only[hlt,decide_true,i_t];obtain⟨kv,q,hk,hr⟩:=kid_at hka hi';obtain⟨q1,q2⟩:=hr w9 (Mem.has_of hle4 (ho.hasM 4 rfl));refine do_eq q1 |>.mpr (do_eq q2 |>.mpr ?_);obtain⟨kk,kc,kcs2,rfl,hkk⟩:=hk.open;have hkw:=kid_wt hi';refine o_oba ho fun b13 w10 ho=>?_;refine ob_put 0 hkk.keys.one hkk.kids.one ho rfl fun w11 ho=>?_;rw[dc_v ho 4 rfl,ob_v ho 0 rfl];refine c_mem ho 5 rfl (dfollow_ret d c.kids[i] _ _ N' w11 hd (by omega) (ho.hasM 5 rfl) (hda.le (((hle01.trans hle2).trans hle3).trans hle4)).dv (hk.le hle4)) fun y N5 w12 hle5 hy ho=>?_;obtain⟨yk,yc,ycs,rfl,hya⟩:=hy.open;refine o_obs1 _ hya.keys.one hya.kids.one ho fun nb2 w13 ho=>?_;refine o_apO 2 ho rfl (ho.sl 0 rfl 6 1 1 rfl) (obC_one _ hya.keys.one hya.kids.one) (by omega) fun v2 w14 ho=>?_;rw[wrap64_id (by omega) (by omega)];refine nextX ⟨i+1,N5,v2,_,rfl,by omega,hle4.trans hle5,?_,ho.tail.tail⟩ (by simp[n1,RowKit.intOf];omega);rw[List.take_succ_eq_append_getElem hi',List.map_append];exact ovs_app (hds.le hle5) (ovs_1 hy)
   ·simp only[hlt,decide_false,i_f];have hie:i=c.kids.length:=by omega
    subst hie;rw[List.take_length] at hds;obtain⟨N5,hle5,hrow2,ho⟩:=OwnS.freezeU ho 3 rfl;refine hJ _ _ fun _=>?_;simp only[gd];refine content2 (M:=M) (w:=w) (N:=N5) hM ⟨ds,by rw[List.length_map];exact hrow2,hds.le hle5⟩ (fun z hz=>⟨hp z hz,?_⟩) (by rw[List.length_map];omega) ht ho.tail.tail.tail fun W' L j ho hj=>hK _ _ N5 _ j ho hj ((((hle01.trans hle2).trans hle3).trans hle4).trans hle5) rfl;obtain⟨y,hy,rfl⟩:=List.mem_map.1 hz;obtain⟨m,hm,rfl⟩:=List.getElem_of_mem hy;have:=kid_wt hm;exact Dk.follow_wt hd (by omega)
  ·have hss:Pg.streams d c=[c]:=by unfold Pg.streams;rw[if_neg h6]
   rw[hss] at hp hl ht hK;simp only[h6,decide_false,i_f];refine hJ _ _ fun _=>?_;simp only[gd];refine content2 (M:=M) (w:=w) (N:=N3) hM hone (fun z hz=>⟨hp z hz,?_⟩) (by simp) ht ho.tail.tail.tail fun W' L j ho hj=>hK _ _ N3 _ j ho hj ((hle01.trans hle2).trans hle3) rfl;have:z=c:=by simpa using hz
   rw[this];exact hcw
 have ho:=ho.drew;refine⟨fun W=>(dcE b2 d vi tk tc).is W∧(lfE b8 x cv).is W∧N1.has W,⟨ho.at_ 1 rfl,ho.at_ 0 rfl,ho.hasM 2 rfl⟩,?_⟩;refine hd_do _ (fun W h=>run_dcv h.1) (hd_pure _ (fun _=>run_fa fo_lf1) (hd_do cv (fun W h=>run_load_cell nSlObP (cells_cell (T:=76) h.2.1 (i:=0+1) rfl)) (hd_pure _ (fun W=>r1 W) (hd_do _ (fun W h=>r2 W h.2.2) ?_))));have st:∀{W:World} {PK:PKT} {N2:Mem} {b10:Nat} {y:Value} {Q:World→Prop},N1.le N2→OV N2.A N2.w y c→OwnS M.A w W [obE b10 ob0 nilS nilS,lfE b8 x cv,dcE b2 d vi tk tc,.mem N2] →
   DoX prog (mStore 26 (.pointer (some ⟨b10,0,none⟩)) y) W PK fun _ w=>S_pages_Content_0 (.pointer (some ⟨b2,0,none⟩)) (.pointer (some ⟨b10,0,none⟩)) w K:=by
  intro W PK N2 b10 y Q hle2 hy ho;obtain⟨yk,yc,ycs,rfl,hya⟩:=hy.open;refine ob_put 0 hya.keys.one hya.kids.one ho rfl fun w6 ho=>?_;exact fin hle2 hy ho
 constructor
 ·refine o_str1M Pg.conK 2 ho rfl fun sv N2 w8 hle2 hs ho=>?_;have ho:OwnS M.A w w8 [lfE b8 x cv,dcE b2 d vi tk tc,.mem N2]:=ho;refine⟨⟨ho.at_ 1 rfl,ho.at_ 0 rfl,Mem.has_of hle2 (ho.hasM 2 rfl)⟩,?_,?_⟩
  ·refine c_mem ho 2 rfl (dpath_ret d o [Pg.conK] _ _ _ N2 w8 hd how (by simp) (ho.hasM 2 rfl) (hda.le (hle01.trans hle2)).dv (hxv.le hle2) hs) fun y N3 w9 hle3 hy ho=>?_;rw[hpv] at hy;refine⟨⟨ho.at_ 1 rfl,ho.at_ 0 rfl,Mem.has_of (hle2.trans hle3) (ho.hasM 2 rfl)⟩,?_⟩;refine o_oba ho fun b10 w10 ho=>?_;exact⟨⟨ho.at_ 2 rfl,ho.at_ 1 rfl,Mem.has_of (hle2.trans hle3) (ho.hasM 3 rfl)⟩,st (Q:=fun _=>True) (hle2.trans hle3) hy ho⟩
  ·refine o_oba ho fun b10 w10 ho=>?_;refine⟨⟨ho.at_ 2 rfl,ho.at_ 1 rfl,Mem.has_of hle2 (ho.hasM 3 rfl)⟩,?_⟩;refine c_mem ho 3 rfl (dpath_ret d o [Pg.conK] _ _ _ N2 w10 hd how (by simp) (ho.hasM 3 rfl) (hda.le (hle01.trans hle2)).dv (hxv.le hle2) hs) fun y N3 w9 hle3 hy ho=>?_;rw[hpv] at hy;exact⟨⟨ho.at_ 2 rfl,ho.at_ 1 rfl,Mem.has_of (hle2.trans hle3) (ho.hasM 3 rfl)⟩,st (Q:=fun _=>True) (hle2.trans hle3) hy ho⟩
 ·refine o_oba ho fun b10 w10 ho=>?_;refine⟨⟨ho.at_ 2 rfl,ho.at_ 1 rfl,ho.hasM 3 rfl⟩,?_⟩;refine o_str1M Pg.conK 3 ho rfl fun sv N2 w8 hle2 hs ho=>?_;have ho:OwnS M.A w w8 [obE b10 ob0 nilS nilS,lfE b8 x cv,dcE b2 d vi tk tc,.mem N2]:=ho;refine⟨⟨ho.at_ 2 rfl,ho.at_ 1 rfl,Mem.has_of hle2 (ho.hasM 3 rfl)⟩,?_⟩;refine c_mem ho 3 rfl (dpath_ret d o [Pg.conK] _ _ _ N2 w8 hd how (by simp) (ho.hasM 3 rfl) (hda.le (hle01.trans hle2)).dv (hxv.le hle2) hs) fun y N3 w9 hle3 hy ho=>?_;rw[hpv] at hy;exact⟨⟨ho.at_ 2 rfl,ho.at_ 1 rfl,Mem.has_of (hle2.trans hle3) (ho.hasM 3 rfl)⟩,st (Q:=fun _=>True) (hle2.trans hle3) hy ho⟩
end
section
open Eng
def S_foliantlaw35_dict (t0:Value)(w:World)(K:Ending→World→Prop):Prop:=
 DoX prog (mAlloc 26) w (pk K) fun t2 w=>
 CallX prog 83 #[t0] w (pk K) fun t7 w=>
 DoX prog (mExt t7 0) w (pk K) fun t8 w=>
 DoX prog (mExt t7 1) w (pk K) fun t9 w=>
 DoX prog (mAlloc 26) w (pk K) fun t3 w=>
 DoX prog (mStore 26 t3 t8) w (pk K) fun _ w=>
 DoX prog (mLoad 26 t3) w (pk K) fun t10 w=>
 DoX prog (mStore 26 t2 t10) w (pk K) fun _ w=>
 RetX prog [.cell t2 26] w K
theorem S_foliantlaw35_dict_eq (t0:Value)(w:World)(K:Ending→World→Prop):wpX prog 11 [] [] none (bodyOf Tryz.f53) (topQ prog [.cell 2 26] K) (startX [t0]) [] w=S_foliantlaw35_dict t0 w K:=by kernel_rfl
theorem S_foliantlaw35_dict_ok {t0:Value}{w:World}{K:Ending→World→Prop}(h:S_foliantlaw35_dict t0 w K):Calls prog 53 #[t0] w K:=
 calls_of_wpX Tryz.func53 rfl rfl rfl rfl (Eq.mpr (S_foliantlaw35_dict_eq t0 w K) h)
def S_foliantlaw35_key (t0:Value)(w:World)(K:Ending→World→Prop):Prop:=
 DoX prog (mAlloc 26) w (pk K) fun t2 w=>
 CallX prog 84 #[t0] w (pk K) fun t4 w=>
 DoX prog (mStore 26 t2 t4) w (pk K) fun _ w=>
 RetX prog [.cell t2 26] w K
theorem S_foliantlaw35_key_eq (t0:Value)(w:World)(K:Ending→World→Prop):wpX prog 5 [] [] none (bodyOf Tryz.f54) (topQ prog [.cell 2 26] K) (startX [t0]) [] w=S_foliantlaw35_key t0 w K:=by kernel_rfl
theorem S_foliantlaw35_key_ok {t0:Value}{w:World}{K:Ending→World→Prop}(h:S_foliantlaw35_key t0 w K):Calls prog 54 #[t0] w K:=
 calls_of_wpX Tryz.func54 rfl rfl rfl rfl (Eq.mpr (S_foliantlaw35_key_eq t0 w K) h)
def S_foliantlaw35_box (t0 t1 t2 t3:Value)(w:World)(K:Ending→World→Prop):Prop:=
 DoX prog (mAlloc 26) w (pk K) fun t8 w=>
 CallX prog 26 #[t0] w (pk K) fun t10 w=>
 CallX prog 26 #[t1] w (pk K) fun t12 w=>
 CallX prog 26 #[t2] w (pk K) fun t14 w=>
 CallX prog 26 #[t3] w (pk K) fun t16 w=>
 DoX prog (mBuildS 24 4 #[(0,t10),(1,t12),(2,t14),(3,t16)]) w (pk K) fun t17 w=>
 CallX prog 24 #[t17] w (pk K) fun t18 w=>
 DoX prog (mStore 26 t8 t18) w (pk K) fun _ w=>
 RetX prog [.cell t8 26] w K
theorem S_foliantlaw35_box_eq (t0 t1 t2 t3:Value)(w:World)(K:Ending→World→Prop):wpX prog 19 [] [] none (bodyOf Tryz.f34) (topQ prog [.cell 8 26] K) (startX [t0,t1,t2,t3]) [] w=S_foliantlaw35_box t0 t1 t2 t3 w K:=by kernel_rfl
theorem S_foliantlaw35_box_ok {t0 t1 t2 t3:Value}{w:World}{K:Ending→World→Prop}(h:S_foliantlaw35_box t0 t1 t2 t3 w K):Calls prog 34 #[t0,t1,t2,t3] w K:=
 calls_of_wpX Tryz.func34 rfl rfl rfl rfl (Eq.mpr (S_foliantlaw35_box_eq t0 t1 t2 t3 w K) h)
def S_foliantlaw35_sample_1 (t0:Value)(w:World)(K:Ending→World→Prop):Prop:=
 RetX prog [.cell t0 28] w K
def S_foliantlaw35_sample_0 (t0 t2:Value)(w:World)(K:Ending→World→Prop):Prop:=
 CallX prog 54 #[(.string ⟨#[84,121,112,101]⟩)] w (pk K) fun t13 w=>
 CallX prog 54 #[(.string ⟨#[80,97,103,101,115]⟩)] w (pk K) fun t14 w=>
 CallX prog 54 #[(.string ⟨#[75,105,100,115]⟩)] w (pk K) fun t15 w=>
 CallX prog 31 #[(.int .i64 3),(.int .i64 0)] w (pk K) fun t16 w=>
 CallX prog 31 #[(.int .i64 4),(.int .i64 0)] w (pk K) fun t17 w=>
 DoX prog (mBuildS 24 2 #[(0,t16),(1,t17)]) w (pk K) fun t18 w=>
 CallX prog 24 #[t18] w (pk K) fun t19 w=>
 CallX prog 54 #[(.string ⟨#[77,101,100,105,97,66,111,120]⟩)] w (pk K) fun t20 w=>
 CallX prog 34 #[(.int .i64 3),(.int .i64 4),(.int .i64 1),(.int .i64 2)] w (pk K) fun t21 w=>
 DoX prog (mBuildS 24 6 #[(0,t13),(1,t14),(2,t15),(3,t19),(4,t20),(5,t21)]) w (pk K) fun t22 w=>
 CallX prog 53 #[t22] w (pk K) fun t23 w=>
 DoX prog (mAlloc 26) w (pk K) fun t3 w=>
 DoX prog (mStore 26 t3 t23) w (pk K) fun _ w=>
 CallX prog 54 #[(.string ⟨#[84,121,112,101]⟩)] w (pk K) fun t24 w=>
 CallX prog 54 #[(.string ⟨#[80,97,103,101]⟩)] w (pk K) fun t25 w=>
 CallX prog 54 #[(.string ⟨#[67,111,110,116,101,110,116,115]⟩)] w (pk K) fun t26 w=>
 CallX prog 31 #[(.int .i64 5),(.int .i64 0)] w (pk K) fun t27 w=>
 CallX prog 31 #[(.int .i64 5),(.int .i64 0)] w (pk K) fun t28 w=>
 DoX prog (mBuildS 24 2 #[(0,t27),(1,t28)]) w (pk K) fun t29 w=>
 CallX prog 24 #[t29] w (pk K) fun t30 w=>
 DoX prog (mBuildS 24 4 #[(0,t24),(1,t25),(2,t26),(3,t30)]) w (pk K) fun t31 w=>
 CallX prog 53 #[t31] w (pk K) fun t32 w=>
 DoX prog (mAlloc 26) w (pk K) fun t4 w=>
 DoX prog (mStore 26 t4 t32) w (pk K) fun _ w=>
 CallX prog 54 #[(.string ⟨#[84,121,112,101]⟩)] w (pk K) fun t33 w=>
 CallX prog 54 #[(.string ⟨#[80,97,103,101]⟩)] w (pk K) fun t34 w=>
 CallX prog 54 #[(.string ⟨#[77,101,100,105,97,66,111,120]⟩)] w (pk K) fun t35 w=>
 CallX prog 34 #[(.int .i64 0),(.int .i64 0),(.int .i64 9),(.int .i64 9)] w (pk K) fun t36 w=>
 CallX prog 54 #[(.string ⟨#[67,114,111,112,66,111,120]⟩)] w (pk K) fun t37 w=>
 CallX prog 34 #[(.int .i64 5),(.int .i64 5),(.int .i64 20),(.int .i64 20)] w (pk K) fun t38 w=>
 CallX prog 54 #[(.string ⟨#[82,111,116,97,116,101]⟩)] w (pk K) fun t39 w=>
 CallX prog 26 #[(.int .i64 (-90))] w (pk K) fun t40 w=>
 DoX prog (mBuildS 24 8 #[(0,t33),(1,t34),(2,t35),(3,t36),(4,t37),(5,t38),(6,t39),(7,t40)]) w (pk K) fun t41 w=>
 CallX prog 53 #[t41] w (pk K) fun t42 w=>
 DoX prog (mAlloc 26) w (pk K) fun t5 w=>
 DoX prog (mStore 26 t5 t42) w (pk K) fun _ w=>
 HeldX w (fun S2 w=>
 HDo prog S2 (mLoad 26 t2) fun t43=>
 HDo prog (fun _=>True) (mBuild 53 #[(0,(.int .i64 1)),(2,t43)]) fun t44=>
 HDo prog S2 (mLoad 26 t3) fun t45=>
 HDo prog (fun _=>True) (mBuild 53 #[(0,(.int .i64 2)),(2,t45)]) fun t46=>
 HDo prog S2 (mLoad 26 t4) fun t47=>
 HDo prog (fun _=>True) (mBuild 53 #[(0,(.int .i64 3)),(2,t47)]) fun t48=>
 HDo prog S2 (mLoad 26 t5) fun t49=>
 HDo prog (fun _=>True) (mBuild 53 #[(0,(.int .i64 4)),(2,t49)]) fun t50=>
 HDo prog (fun _=>True) (mBuild 26 #[(0,(.int .i64 9)),(3,(.string ⟨#[113]⟩))]) fun t51=>
 HDo prog (fun _=>True) (mBuild 53 #[(0,(.int .i64 5)),(2,t51)]) fun t52=>
 (DoX prog (mBuildS 22 5 #[(0,t44),(1,t46),(2,t48),(3,t50),(4,t52)]) w (pm1 (pm1 (pm1 (pm1 (pm1 (pm1 (pm1 (pm1 (pm1 (pm1 (pm1 (pk K)))))))))))) fun t53 w=>
 S2 w∧(CallX prog 54 #[(.string ⟨#[82,111,111,116]⟩)] w (pm1 (pm1 (pm1 (pm1 (pm1 (pm1 (pm1 (pm1 (pm1 (pm1 (pm1 (pk K)))))))))))) fun t54 w=>
 S2 w∧(CallX prog 31 #[(.int .i64 1),(.int .i64 0)] w (pm1 (pm1 (pm1 (pm1 (pm1 (pm1 (pm1 (pm1 (pm1 (pm1 (pm1 (pk K)))))))))))) fun t55 w=>
 S2 w∧(DoX prog (mBuildS 24 2 #[(0,t54),(1,t55)]) w (pm1 (pm1 (pm1 (pm1 (pm1 (pm1 (pm1 (pm1 (pm1 (pm1 (pm1 (pk K)))))))))))) fun t56 w=>
 S2 w∧(CallX prog 53 #[t56] w (pm1 (pm1 (pm1 (pm1 (pm1 (pm1 (pm1 (pm1 (pm1 (pm1 (pm1 (pk K)))))))))))) fun t57 w=>
 S2 w∧(HDo prog (fun _=>True) (mBuild 28 #[(0,t53),(1,t57)]) fun t58=>
 DoX prog (mStore 28 t0 t58) w (pm1 (pm1 (pm1 (pm1 (pm1 (pm1 (pm1 (pm1 (pm1 (pm1 (pm1 (pk K)))))))))))) fun _ w=>
 (S_foliantlaw35_sample_1 t0 w K)))))))∧(CallX prog 54 #[(.string ⟨#[82,111,111,116]⟩)] w (pm1 (pm1 (pm1 (pm1 (pm1 (pm1 (pm1 (pm1 (pm1 (pm1 (pm1 (pk K)))))))))))) fun t54_1 w=>
 S2 w∧((DoX prog (mBuildS 22 5 #[(0,t44),(1,t46),(2,t48),(3,t50),(4,t52)]) w (pm1 (pm1 (pm1 (pm1 (pm1 (pm1 (pm1 (pm1 (pm1 (pm1 (pm1 (pk K)))))))))))) fun t53_1 w=>
 S2 w∧(CallX prog 31 #[(.int .i64 1),(.int .i64 0)] w (pm1 (pm1 (pm1 (pm1 (pm1 (pm1 (pm1 (pm1 (pm1 (pm1 (pm1 (pk K)))))))))))) fun t55_1 w=>
 S2 w∧(DoX prog (mBuildS 24 2 #[(0,t54_1),(1,t55_1)]) w (pm1 (pm1 (pm1 (pm1 (pm1 (pm1 (pm1 (pm1 (pm1 (pm1 (pm1 (pk K)))))))))))) fun t56_1 w=>
 S2 w∧(CallX prog 53 #[t56_1] w (pm1 (pm1 (pm1 (pm1 (pm1 (pm1 (pm1 (pm1 (pm1 (pm1 (pm1 (pk K)))))))))))) fun t57_1 w=>
 S2 w∧(HDo prog (fun _=>True) (mBuild 28 #[(0,t53_1),(1,t57_1)]) fun t58_1=>
 DoX prog (mStore 28 t0 t58_1) w (pm1 (pm1 (pm1 (pm1 (pm1 (pm1 (pm1 (pm1 (pm1 (pm1 (pm1 (pk K)))))))))))) fun _ w=>
 (S_foliantlaw35_sample_1 t0 w K))))))∧(CallX prog 31 #[(.int .i64 1),(.int .i64 0)] w (pm1 (pm1 (pm1 (pm1 (pm1 (pm1 (pm1 (pm1 (pm1 (pm1 (pm1 (pk K)))))))))))) fun t55_2 w=>
 S2 w∧((DoX prog (mBuildS 22 5 #[(0,t44),(1,t46),(2,t48),(3,t50),(4,t52)]) w (pm1 (pm1 (pm1 (pm1 (pm1 (pm1 (pm1 (pm1 (pm1 (pm1 (pm1 (pk K)))))))))))) fun t53_2 w=>
 S2 w∧(DoX prog (mBuildS 24 2 #[(0,t54_1),(1,t55_2)]) w (pm1 (pm1 (pm1 (pm1 (pm1 (pm1 (pm1 (pm1 (pm1 (pm1 (pm1 (pk K)))))))))))) fun t56_2 w=>
 S2 w∧(CallX prog 53 #[t56_2] w (pm1 (pm1 (pm1 (pm1 (pm1 (pm1 (pm1 (pm1 (pm1 (pm1 (pm1 (pk K)))))))))))) fun t57_2 w=>
 S2 w∧(HDo prog (fun _=>True) (mBuild 28 #[(0,t53_2),(1,t57_2)]) fun t58_2=>
 DoX prog (mStore 28 t0 t58_2) w (pm1 (pm1 (pm1 (pm1 (pm1 (pm1 (pm1 (pm1 (pm1 (pm1 (pm1 (pk K)))))))))))) fun _ w=>
 (S_foliantlaw35_sample_1 t0 w K)))))∧(DoX prog (mBuildS 24 2 #[(0,t54_1),(1,t55_2)]) w (pm1 (pm1 (pm1 (pm1 (pm1 (pm1 (pm1 (pm1 (pm1 (pm1 (pm1 (pk K)))))))))))) fun t56_3 w=>
 S2 w∧((DoX prog (mBuildS 22 5 #[(0,t44),(1,t46),(2,t48),(3,t50),(4,t52)]) w (pm1 (pm1 (pm1 (pm1 (pm1 (pm1 (pm1 (pm1 (pm1 (pm1 (pm1 (pk K)))))))))))) fun t53_3 w=>
 S2 w∧(CallX prog 53 #[t56_3] w (pm1 (pm1 (pm1 (pm1 (pm1 (pm1 (pm1 (pm1 (pm1 (pm1 (pm1 (pk K)))))))))))) fun t57_3 w=>
 S2 w∧(HDo prog (fun _=>True) (mBuild 28 #[(0,t53_3),(1,t57_3)]) fun t58_3=>
 DoX prog (mStore 28 t0 t58_3) w (pm1 (pm1 (pm1 (pm1 (pm1 (pm1 (pm1 (pm1 (pm1 (pm1 (pm1 (pk K)))))))))))) fun _ w=>
 (S_foliantlaw35_sample_1 t0 w K))))∧(CallX prog 53 #[t56_3] w (pm1 (pm1 (pm1 (pm1 (pm1 (pm1 (pm1 (pm1 (pm1 (pm1 (pm1 (pk K)))))))))))) fun t57_4 w=>
 S2 w∧(DoX prog (mBuildS 22 5 #[(0,t44),(1,t46),(2,t48),(3,t50),(4,t52)]) w (pm1 (pm1 (pm1 (pm1 (pm1 (pm1 (pm1 (pm1 (pm1 (pm1 (pm1 (pk K)))))))))))) fun t53_4 w=>
 S2 w∧(HDo prog (fun _=>True) (mBuild 28 #[(0,t53_4),(1,t57_4)]) fun t58_4=>
 DoX prog (mStore 28 t0 t58_4) w (pm1 (pm1 (pm1 (pm1 (pm1 (pm1 (pm1 (pm1 (pm1 (pm1 (pm1 (pk K)))))))))))) fun _ w=>
 (S_foliantlaw35_sample_1 t0 w K)))))))))))
def S_foliantlaw35_sample (w:World)(K:Ending→World→Prop):Prop:=
 DoX prog (mAlloc 28) w (pk K) fun t0 w=>
 CallX prog 31 #[(.int .i64 2),(.int .i64 0)] w (pk K) fun t6 w=>
 DoX prog (mAlloc 26) w (pk K) fun t1 w=>
 DoX prog (mStore 26 t1 t6) w (pk K) fun _ w=>
 HeldX w (fun S1 w=>
 HDo prog S1 (mLoad 26 t1) fun t10=>
 (CallX prog 54 #[(.string ⟨#[84,121,112,101]⟩)] w (pm1 (pk K)) fun t7 w=>
 S1 w∧((CallX prog 54 #[(.string ⟨#[67,97,116,97,108,111,103]⟩)] w (pm1 (pk K)) fun t8 w=>
 S1 w∧((CallX prog 54 #[(.string ⟨#[80,97,103,101,115]⟩)] w (pm1 (pk K)) fun t9 w=>
 S1 w∧((DoX prog (mBuildS 24 4 #[(0,t7),(1,t8),(2,t9),(3,t10)]) w (pm1 (pk K)) fun t11 w=>
 ((CallX prog 53 #[t11] w (pm1 (pk K)) fun t12 w=>
 S1 w∧(DoX prog (mAlloc 26) w (pm1 (pk K)) fun t2 w=>
 S1 w∧(DoX prog (mStore 26 t2 t12) w (pm1 (pk K)) fun _ w=>
 (S_foliantlaw35_sample_0 t0 t2 w K))))∧(DoX prog (mAlloc 26) w (pm1 (pk K)) fun t2_1 w=>
 S1 w∧(CallX prog 53 #[t11] w (pm1 (pk K)) fun t12_1 w=>
 S1 w∧(DoX prog (mStore 26 t2_1 t12_1) w (pm1 (pk K)) fun _ w=>
 (S_foliantlaw35_sample_0 t0 t2_1 w K))))))∧(DoX prog (mAlloc 26) w (pm1 (pk K)) fun t2_2 w=>
 S1 w∧(DoX prog (mBuildS 24 4 #[(0,t7),(1,t8),(2,t9),(3,t10)]) w (pm1 (pk K)) fun t11_1 w=>
 (CallX prog 53 #[t11_1] w (pm1 (pk K)) fun t12_2 w=>
 S1 w∧(DoX prog (mStore 26 t2_2 t12_2) w (pm1 (pk K)) fun _ w=>
 (S_foliantlaw35_sample_0 t0 t2_2 w K)))))))∧(DoX prog (mAlloc 26) w (pm1 (pk K)) fun t2_3 w=>
 S1 w∧(CallX prog 54 #[(.string ⟨#[80,97,103,101,115]⟩)] w (pm1 (pk K)) fun t9_1 w=>
 S1 w∧(DoX prog (mBuildS 24 4 #[(0,t7),(1,t8),(2,t9_1),(3,t10)]) w (pm1 (pk K)) fun t11_2 w=>
 (CallX prog 53 #[t11_2] w (pm1 (pk K)) fun t12_3 w=>
 S1 w∧(DoX prog (mStore 26 t2_3 t12_3) w (pm1 (pk K)) fun _ w=>
 (S_foliantlaw35_sample_0 t0 t2_3 w K))))))))∧(DoX prog (mAlloc 26) w (pm1 (pk K)) fun t2_4 w=>
 S1 w∧(CallX prog 54 #[(.string ⟨#[67,97,116,97,108,111,103]⟩)] w (pm1 (pk K)) fun t8_1 w=>
 S1 w∧(CallX prog 54 #[(.string ⟨#[80,97,103,101,115]⟩)] w (pm1 (pk K)) fun t9_2 w=>
 S1 w∧(DoX prog (mBuildS 24 4 #[(0,t7),(1,t8_1),(2,t9_2),(3,t10)]) w (pm1 (pk K)) fun t11_3 w=>
 (CallX prog 53 #[t11_3] w (pm1 (pk K)) fun t12_4 w=>
 S1 w∧(DoX prog (mStore 26 t2_4 t12_4) w (pm1 (pk K)) fun _ w=>
 (S_foliantlaw35_sample_0 t0 t2_4 w K)))))))))∧(DoX prog (mAlloc 26) w (pm1 (pk K)) fun t2_5 w=>
 S1 w∧(CallX prog 54 #[(.string ⟨#[84,121,112,101]⟩)] w (pm1 (pk K)) fun t7_1 w=>
 S1 w∧(CallX prog 54 #[(.string ⟨#[67,97,116,97,108,111,103]⟩)] w (pm1 (pk K)) fun t8_2 w=>
 S1 w∧(CallX prog 54 #[(.string ⟨#[80,97,103,101,115]⟩)] w (pm1 (pk K)) fun t9_3 w=>
 S1 w∧(DoX prog (mBuildS 24 4 #[(0,t7_1),(1,t8_2),(2,t9_3),(3,t10)]) w (pm1 (pk K)) fun t11_4 w=>
 (CallX prog 53 #[t11_4] w (pm1 (pk K)) fun t12_5 w=>
 S1 w∧(DoX prog (mStore 26 t2_5 t12_5) w (pm1 (pk K)) fun _ w=>
 (S_foliantlaw35_sample_0 t0 t2_5 w K)))))))))
theorem S_foliantlaw35_sample_eq (w:World)(K:Ending→World→Prop):wpX prog 59 [] [] none (bodyOf Tryz.f28) (topQ prog [.cell 0 28] K) (startX []) [] w=S_foliantlaw35_sample w K:=by kernel_rfl
theorem S_foliantlaw35_sample_ok {w:World}{K:Ending→World→Prop}(h:S_foliantlaw35_sample w K):Calls prog 28 #[] w K:=
 calls_of_wpX Tryz.func28 rfl rfl rfl rfl (Eq.mpr (S_foliantlaw35_sample_eq w K) h)
def S_foliantlaw35_lives_0 (t2 t3 t4 t5 t6 t7 t9 t10 t11 t13 t14 t15 t17:Value)(w:World)(K:Ending→World→Prop):Prop:=
 DoX prog (mBuild 28 #[]) w (pk K) fun t66 w=>
 CallX prog 10 #[t66] w (pk K) fun t67 w=>
 DoX prog (mExt t67 0) w (pk K) fun t68 w=>
 DoX prog (mExt t67 1) w (pk K) fun t69 w=>
 DoX prog (mEq .eql 3 (.tmp 70) (.const (.int .i64 2)) t2 (.int .i64 2)) w (pk K) fun t71 w=>
 GDo t71 true (fun E=>E t3 w) w fun t73 w=>
 GDo t71 true (fun E=>DoX prog (mEq .eql 32 (.tmp 73) (.const (.int .i64 0)) t73 (.int .i64 0)) w (pk K) E) w fun t74 w=>
 DoX prog (mPick t71 t74 (.bool false)) w (pk K) fun t75 w=>
 GDo t75 true (fun E=>E t5 w) w fun t77 w=>
 GDo t75 true (fun E=>DoX prog (mEq .eql 32 (.tmp 77) (.const (.int .i64 0)) t77 (.int .i64 0)) w (pk K) E) w fun t78 w=>
 DoX prog (mPick t75 t78 (.bool false)) w (pk K) fun t79 w=>
 GDo t79 true (fun E=>DoX prog (mFA 48 t4 0) w (pk K) E) w fun t81 w=>
 GDo t79 true (fun E=>DoX prog (mLoad 3 t81) w (pk K) E) w fun t82 w=>
 GDo t79 true (fun E=>DoX prog (mEq .eql 3 (.tmp 82) (.const (.int .i64 3)) t82 (.int .i64 3)) w (pk K) E) w fun t83 w=>
 DoX prog (mPick t79 t83 (.bool false)) w (pk K) fun t84 w=>
 GDo t84 true (fun E=>DoX prog (mFA 48 t4 1) w (pk K) E) w fun t86 w=>
 GDo t84 true (fun E=>DoX prog (mLoad 43 t86) w (pk K) E) w fun t87 w=>
 GDo t84 true (fun E=>DoX prog (mBuild 43 #[(0,(.int .i64 10000)),(1,(.int .i64 20000)),(2,(.int .i64 30000)),(3,(.int .i64 40000))]) w (pk K) E) w fun t88 w=>
 GDo t84 true (fun E=>DoX prog (mEq .eql 43 (.tmp 87) (.tmp 88) t87 t88) w (pk K) E) w fun t89 w=>
 DoX prog (mPick t84 t89 (.bool false)) w (pk K) fun t90 w=>
 GDo t90 true (fun E=>DoX prog (mFA 48 t4 2) w (pk K) E) w fun t92 w=>
 GDo t90 true (fun E=>DoX prog (mLoad 43 t92) w (pk K) E) w fun t93 w=>
 GDo t90 true (fun E=>DoX prog (mFA 48 t4 1) w (pk K) E) w fun t94 w=>
 GDo t90 true (fun E=>DoX prog (mLoad 43 t94) w (pk K) E) w fun t95 w=>
 GDo t90 true (fun E=>DoX prog (mEq .eql 43 (.tmp 93) (.tmp 95) t93 t95) w (pk K) E) w fun t96 w=>
 DoX prog (mPick t90 t96 (.bool false)) w (pk K) fun t97 w=>
 GDo t97 true (fun E=>E t7 w) w fun t99 w=>
 GDo t97 true (fun E=>DoX prog (mEq .eql 32 (.tmp 99) (.const (.int .i64 0)) t99 (.int .i64 0)) w (pk K) E) w fun t100 w=>
 DoX prog (mPick t97 t100 (.bool false)) w (pk K) fun t101 w=>
 GDo t101 true (fun E=>DoX prog (mFA 48 t6 2) w (pk K) E) w fun t103 w=>
 GDo t101 true (fun E=>DoX prog (mLoad 43 t103) w (pk K) E) w fun t104 w=>
 GDo t101 true (fun E=>DoX prog (mBuild 43 #[(0,(.int .i64 50000)),(1,(.int .i64 50000)),(2,(.int .i64 90000)),(3,(.int .i64 90000))]) w (pk K) E) w fun t105 w=>
 GDo t101 true (fun E=>DoX prog (mEq .eql 43 (.tmp 104) (.tmp 105) t104 t105) w (pk K) E) w fun t106 w=>
 DoX prog (mPick t101 t106 (.bool false)) w (pk K) fun t107 w=>
 GDo t107 true (fun E=>DoX prog (mFA 48 t6 3) w (pk K) E) w fun t109 w=>
 GDo t107 true (fun E=>DoX prog (mLoad 3 t109) w (pk K) E) w fun t110 w=>
 GDo t107 true (fun E=>DoX prog (mEq .eql 3 (.tmp 110) (.const (.int .i64 270)) t110 (.int .i64 270)) w (pk K) E) w fun t111 w=>
 DoX prog (mPick t107 t111 (.bool false)) w (pk K) fun t112 w=>
 GDo t112 true (fun E=>DoX prog (mFA 48 t6 4) w (pk K) E) w fun t114 w=>
 GDo t112 true (fun E=>DoX prog (mFA 26 t114 0) w (pk K) E) w fun t115 w=>
 GDo t112 true (fun E=>DoX prog (mLoad 3 t115) w (pk K) E) w fun t116 w=>
 GDo t112 true (fun E=>DoX prog (mEq .eql 3 (.tmp 116) (.const (.int .i64 7)) t116 (.int .i64 7)) w (pk K) E) w fun t117 w=>
 DoX prog (mPick t112 t117 (.bool false)) w (pk K) fun t118 w=>
 GDo t118 true (fun E=>E t9 w) w fun t120 w=>
 GDo t118 true (fun E=>DoX prog (mEq .eql 32 (.tmp 120) (.const (.int .i64 8)) t120 (.int .i64 8)) w (pk K) E) w fun t121 w=>
 DoX prog (mPick t118 t121 (.bool false)) w (pk K) fun t122 w=>
 GDo t122 true (fun E=>E t10 w) w fun t124 w=>
 GDo t122 true (fun E=>DoX prog (mEq .eql 3 (.tmp 124) (.const (.int .i64 1)) t124 (.int .i64 1)) w (pk K) E) w fun t125 w=>
 DoX prog (mPick t122 t125 (.bool false)) w (pk K) fun t126 w=>
 GDo t126 true (fun E=>E t11 w) w fun t128 w=>
 DoX prog (mPick t126 t128 (.bool false)) w (pk K) fun t129 w=>
 GDo t129 true (fun E=>E t13 w) w fun t131 w=>
 GDo t129 true (fun E=>DoX prog (mUn .not t131) w (pk K) E) w fun t132 w=>
 DoX prog (mPick t129 t132 (.bool false)) w (pk K) fun t133 w=>
 GDo t133 true (fun E=>E t14 w) w fun t135 w=>
 GDo t133 true (fun E=>DoX prog (mEq .eql 9 (.tmp 135) (.const (.string ⟨#[113,10,113]⟩)) t135 (.string ⟨#[113,10,113]⟩)) w (pk K) E) w fun t136 w=>
 DoX prog (mPick t133 t136 (.bool false)) w (pk K) fun t137 w=>
 GDo t137 true (fun E=>E t15 w) w fun t139 w=>
 GDo t137 true (fun E=>DoX prog (mEq .eql 32 (.tmp 139) (.const (.int .i64 0)) t139 (.int .i64 0)) w (pk K) E) w fun t140 w=>
 DoX prog (mPick t137 t140 (.bool false)) w (pk K) fun t141 w=>
 GDo t141 true (fun E=>E t17 w) w fun t143 w=>
 GDo t141 true (fun E=>DoX prog (mEq .eql 32 (.tmp 143) (.const (.int .i64 3)) t143 (.int .i64 3)) w (pk K) E) w fun t144 w=>
 DoX prog (mPick t141 t144 (.bool false)) w (pk K) fun t145 w=>
 GDo t145 true (fun E=>E t69 w) w fun t147 w=>
 GDo t145 true (fun E=>DoX prog (mEq .eql 32 (.tmp 147) (.const (.int .i64 10)) t147 (.int .i64 10)) w (pk K) E) w fun t148 w=>
 DoX prog (mPick t145 t148 (.bool false)) w (pk K) fun t149 w=>
 K (.returned t149) w
def S_foliantlaw35_lives (w:World)(K:Ending→World→Prop):Prop:=
 CallX prog 28 #[] w (pk K) fun t20 w=>
 DoX prog (mAlloc 28) w (pk K) fun t1 w=>
 DoX prog (mStore 28 t1 t20) w (pk K) fun _ w=>
 DoX prog (mLoad 28 t1) w (pk K) fun t22 w=>
 CallX prog 12 #[t22] w (pk K) fun t23 w=>
 DoX prog (mExt t23 0) w (pk K) fun t24 w=>
 DoX prog (mExt t23 1) w (pk K) fun t25 w=>
 DoX prog (mLoad 28 t1) w (pk K) fun t27 w=>
 CallX prog 20 #[t27,(.int .i64 0)] w (pk K) fun t28 w=>
 DoX prog (mExt t28 0) w (pk K) fun t29 w=>
 DoX prog (mExt t28 1) w (pk K) fun t30 w=>
 DoX prog (mAlloc 48) w (pk K) fun t4 w=>
 DoX prog (mStore 48 t4 t29) w (pk K) fun _ w=>
 DoX prog (mLoad 28 t1) w (pk K) fun t32 w=>
 CallX prog 20 #[t32,(.int .i64 1)] w (pk K) fun t33 w=>
 DoX prog (mExt t33 0) w (pk K) fun t34 w=>
 DoX prog (mExt t33 1) w (pk K) fun t35 w=>
 DoX prog (mAlloc 48) w (pk K) fun t6 w=>
 DoX prog (mStore 48 t6 t34) w (pk K) fun _ w=>
 DoX prog (mLoad 28 t1) w (pk K) fun t37 w=>
 CallX prog 20 #[t37,(.int .i64 2)] w (pk K) fun t38 w=>
 DoX prog (mExt t38 0) w (pk K) fun t39 w=>
 DoX prog (mExt t38 1) w (pk K) fun t40 w=>
 DoX prog (mAlloc 48) w (pk K) fun t8 w=>
 DoX prog (mStore 48 t8 t39) w (pk K) fun _ w=>
 DoX prog (mLoad 28 t1) w (pk K) fun t42 w=>
 CallX prog 14 #[t42,(.int .i64 4)] w (pk K) fun t43 w=>
 DoX prog (mExt t43 0) w (pk K) fun t44 w=>
 DoX prog (mExt t43 1) w (pk K) fun t45 w=>
 DoX prog (mLoad 28 t1) w (pk K) fun t47 w=>
 CallX prog 14 #[t47,(.int .i64 2)] w (pk K) fun t48 w=>
 DoX prog (mExt t48 0) w (pk K) fun t49 w=>
 DoX prog (mExt t48 1) w (pk K) fun t50 w=>
 DoX prog (mLoad 28 t1) w (pk K) fun t52 w=>
 CallX prog 32 #[t52,(.int .i64 0)] w (pk K) fun t53 w=>
 DoX prog (mExt t53 0) w (pk K) fun t54 w=>
 DoX prog (mExt t53 1) w (pk K) fun t55 w=>
 HeldX w (fun S1 w=>
 HDo prog S1 (mLoad 28 t1) fun t57=>
 (CallX prog 34 #[(.int .i64 1),(.int .i64 2),(.int .i64 3),(.int .i64 4)] w (pm1 (pm1 (pm1 (pm1 (pm1 (pm1 (pm1 (pk K)))))))) fun t58 w=>
 S1 w∧(HDo prog (fun _=>True) (mFld 26 t58 5) fun t59=>
 HDo prog (fun _=>True) (mIA 24 t59 (.int .i64 0)) fun t60=>
 (DoX prog (mLoad 26 t60) w (pm1 (pm1 (pm1 (pm1 (pm1 (pm1 (pm1 (pk K)))))))) fun t61 w=>
 S1 w∧((CallX prog 18 #[t57,t61] w (pm1 (pm1 (pm1 (pm1 (pm1 (pm1 (pm1 (pk K)))))))) fun t62 w=>
 (HDo prog (fun _=>True) (mExt t62 0) fun t63=>
 HDo prog (fun _=>True) (mExt t62 1) fun t64=>
 DoX prog (mAlloc 43) w (pm1 (pm1 (pm1 (pm1 (pm1 (pm1 (pm1 (pk K)))))))) fun t16 w=>
 S1 w∧(DoX prog (mStore 43 t16 t63) w (pm1 (pm1 (pm1 (pm1 (pm1 (pm1 (pm1 (pk K)))))))) fun _ w=>
 (S_foliantlaw35_lives_0 t24 t25 t4 t30 t6 t35 t40 t44 t45 t50 t54 t55 t64 w K))))∧(DoX prog (mAlloc 43) w (pm1 (pm1 (pm1 (pm1 (pm1 (pm1 (pm1 (pk K)))))))) fun t16_1 w=>
 S1 w∧(CallX prog 18 #[t57,t61] w (pm1 (pm1 (pm1 (pm1 (pm1 (pm1 (pm1 (pk K)))))))) fun t62_1 w=>
 (HDo prog (fun _=>True) (mExt t62_1 0) fun t63_1=>
 HDo prog (fun _=>True) (mExt t62_1 1) fun t64_1=>
 DoX prog (mStore 43 t16_1 t63_1) w (pm1 (pm1 (pm1 (pm1 (pm1 (pm1 (pm1 (pk K)))))))) fun _ w=>
 (S_foliantlaw35_lives_0 t24 t25 t4 t30 t6 t35 t40 t44 t45 t50 t54 t55 t64_1 w K))))))∧(DoX prog (mAlloc 43) w (pm1 (pm1 (pm1 (pm1 (pm1 (pm1 (pm1 (pk K)))))))) fun t16_2 w=>
 S1 w∧(DoX prog (mLoad 26 t60) w (pm1 (pm1 (pm1 (pm1 (pm1 (pm1 (pm1 (pk K)))))))) fun t61_1 w=>
 S1 w∧(CallX prog 18 #[t57,t61_1] w (pm1 (pm1 (pm1 (pm1 (pm1 (pm1 (pm1 (pk K)))))))) fun t62_2 w=>
 (HDo prog (fun _=>True) (mExt t62_2 0) fun t63_2=>
 HDo prog (fun _=>True) (mExt t62_2 1) fun t64_2=>
 DoX prog (mStore 43 t16_2 t63_2) w (pm1 (pm1 (pm1 (pm1 (pm1 (pm1 (pm1 (pk K)))))))) fun _ w=>
 (S_foliantlaw35_lives_0 t24 t25 t4 t30 t6 t35 t40 t44 t45 t50 t54 t55 t64_2 w K)))))))∧(DoX prog (mAlloc 43) w (pm1 (pm1 (pm1 (pm1 (pm1 (pm1 (pm1 (pk K)))))))) fun t16_3 w=>
 S1 w∧(CallX prog 34 #[(.int .i64 1),(.int .i64 2),(.int .i64 3),(.int .i64 4)] w (pm1 (pm1 (pm1 (pm1 (pm1 (pm1 (pm1 (pk K)))))))) fun t58_1 w=>
 S1 w∧(HDo prog (fun _=>True) (mFld 26 t58_1 5) fun t59_1=>
 HDo prog (fun _=>True) (mIA 24 t59_1 (.int .i64 0)) fun t60_1=>
 DoX prog (mLoad 26 t60_1) w (pm1 (pm1 (pm1 (pm1 (pm1 (pm1 (pm1 (pk K)))))))) fun t61_2 w=>
 S1 w∧(CallX prog 18 #[t57,t61_2] w (pm1 (pm1 (pm1 (pm1 (pm1 (pm1 (pm1 (pk K)))))))) fun t62_3 w=>
 (HDo prog (fun _=>True) (mExt t62_3 0) fun t63_3=>
 HDo prog (fun _=>True) (mExt t62_3 1) fun t64_3=>
 DoX prog (mStore 43 t16_3 t63_3) w (pm1 (pm1 (pm1 (pm1 (pm1 (pm1 (pm1 (pk K)))))))) fun _ w=>
 (S_foliantlaw35_lives_0 t24 t25 t4 t30 t6 t35 t40 t44 t45 t50 t54 t55 t64_3 w K)))))))
theorem S_foliantlaw35_lives_eq (w:World)(K:Ending→World→Prop):wpX prog 150 [] [] none (bodyOf Tryz.f9) (topQ prog [.tmp 0] K) (startX []) [] w=S_foliantlaw35_lives w K:=by kernel_rfl
theorem S_foliantlaw35_lives_ok {w:World}{K:Ending→World→Prop}(h:S_foliantlaw35_lives w K):Calls prog 9 #[] w K:=
 calls_of_wpX Tryz.func9 rfl rfl rfl rfl (Eq.mpr (S_foliantlaw35_lives_eq w K) h)
def S_foliantlaw35_small (t0:Value)(w:World)(K:Ending→World→Prop):Prop:=
 DoX prog (mBox 28 t0) w (pk K) fun t1 w=>
 DoX prog (mFA 28 t1 0) w (pk K) fun t3 w=>
 DoX prog (mLoad 22 t3) w (pk K) fun t4 w=>
 DoX prog (mB .len #[22] 3 #[false] #[t4]) w (pk K) fun t5 w=>
 DoX prog (mBin .leq 3 t5 (.int .i64 40)) w (pk K) fun t6 w=>
 GDo t6 true (fun E=>DoX prog (mLoad 28 t1) w (pk K) E) w fun t8 w=>
 GDo t6 true (fun E=>CallX prog 33 #[t8] w (pk K) E) w fun t9 w=>
 GDo t6 true (fun E=>DoX prog (mBin .leq 3 t9 (.int .i64 3000)) w (pk K) E) w fun t10 w=>
 DoX prog (mPick t6 t10 (.bool false)) w (pk K) fun t11 w=>
 K (.returned t11) w
theorem S_foliantlaw35_small_eq (t0:Value)(w:World)(K:Ending→World→Prop):wpX prog 12 [] [] none (bodyOf Tryz.f8) (topQ prog [.tmp 2] K) (startX [t0]) [] w=S_foliantlaw35_small t0 w K:=by kernel_rfl
theorem S_foliantlaw35_small_ok {t0:Value}{w:World}{K:Ending→World→Prop}(h:S_foliantlaw35_small t0 w K):Calls prog 8 #[t0] w K:=
 calls_of_wpX Tryz.func8 rfl rfl rfl rfl (Eq.mpr (S_foliantlaw35_small_eq t0 w K) h)
def S_foliantlaw35_PagesOwn_0 (t1 t2 t5 t7 t10 t11:Value)(w:World)(K:Ending→World→Prop):Prop:=
 HeldX w (fun S2 w=>
 HDo prog S2 (mLoad 26 t10) fun t63=>
 HDo prog (fun _=>True) (mFA 48 t5 3) fun t64=>
 HDo prog S2 (mLoad 3 t64) fun t65=>
 CallX prog 26 #[t65] w (pm1 (pm1 (pm1 (pm1 (pm1 (pm1 (pm1 (pk K)))))))) fun t66 w=>
 S2 w∧(CallX prog 23 #[t63,(.string ⟨#[82,111,116,97,116,101]⟩),t66] w (pm1 (pm1 (pm1 (pm1 (pm1 (pm1 (pm1 (pk K)))))))) fun t67 w=>
 S2 w∧(HDo prog (fun _=>True) (mExt t67 0) fun t68=>
 HDo prog (fun _=>True) (mExt t67 1) fun t69=>
 DoX prog (mStore 26 t10 t68) w (pm1 (pm1 (pm1 (pm1 (pm1 (pm1 (pm1 (pk K)))))))) fun _ w=>
 (DoX prog (mLoad 26 t10) w (pk K) fun t71 w=>
 DoX prog (mFA 48 t5 4) w (pk K) fun t72 w=>
 DoX prog (mLoad 26 t72) w (pk K) fun t73 w=>
 CallX prog 23 #[t71,(.string ⟨#[82,101,115,111,117,114,99,101,115]⟩),t73] w (pk K) fun t74 w=>
 DoX prog (mExt t74 0) w (pk K) fun t75 w=>
 DoX prog (mExt t74 1) w (pk K) fun t76 w=>
 DoX prog (mStore 26 t10 t75) w (pk K) fun _ w=>
 DoX prog (mEq .neq 32 (.tmp 77) (.const (.int .i64 0)) t11 (.int .i64 0)) w (pk K) fun t78 w=>
 GDo t78 false (fun E=>E t69 w) w fun t80 w=>
 GDo t78 false (fun E=>DoX prog (mEq .neq 32 (.tmp 80) (.const (.int .i64 0)) t80 (.int .i64 0)) w (pk K) E) w fun t81 w=>
 DoX prog (mPick t78 (.bool true) t81) w (pk K) fun t82 w=>
 GDo t82 false (fun E=>E t76 w) w fun t84 w=>
 GDo t82 false (fun E=>DoX prog (mEq .neq 32 (.tmp 84) (.const (.int .i64 0)) t84 (.int .i64 0)) w (pk K) E) w fun t85 w=>
 DoX prog (mPick t82 (.bool true) t85) w (pk K) fun t86 w=>
 IfX t86 (CallX prog 9 #[] w (pk K) fun t87 w=>
 K (.returned t87) w) (DoX prog (mLoad 28 t2) w (pk K) fun t89 w=>
 DoX prog (mFA 53 t7 0) w (pk K) fun t90 w=>
 DoX prog (mLoad 3 t90) w (pk K) fun t91 w=>
 DoX prog (mFA 53 t7 1) w (pk K) fun t92 w=>
 DoX prog (mLoad 3 t92) w (pk K) fun t93 w=>
 DoX prog (mLoad 26 t10) w (pk K) fun t94 w=>
 DoX prog (mBuild 53 #[(0,t91),(1,t93),(2,t94)]) w (pk K) fun t95 w=>
 CallX prog 27 #[t89,t95] w (pk K) fun t96 w=>
 DoX prog (mExt t96 0) w (pk K) fun t97 w=>
 DoX prog (mExt t96 1) w (pk K) fun t98 w=>
 DoX prog (mAlloc 28) w (pk K) fun t14 w=>
 DoX prog (mStore 28 t14 t97) w (pk K) fun _ w=>
 DoX prog (mEq .neq 32 (.tmp 99) (.const (.int .i64 0)) t98 (.int .i64 0)) w (pk K) fun t100 w=>
 IfX t100 (CallX prog 9 #[] w (pk K) fun t101 w=>
 K (.returned t101) w) (DoX prog (mLoad 28 t14) w (pk K) fun t103 w=>
 CallX prog 20 #[t103,t1] w (pk K) fun t105 w=>
 DoX prog (mExt t105 0) w (pk K) fun t106 w=>
 DoX prog (mExt t105 1) w (pk K) fun t107 w=>
 DoX prog (mAlloc 48) w (pk K) fun t16 w=>
 DoX prog (mStore 48 t16 t106) w (pk K) fun _ w=>
 DoX prog (mEq .eql 32 (.tmp 108) (.const (.int .i64 0)) t107 (.int .i64 0)) w (pk K) fun t109 w=>
 GDo t109 true (fun E=>DoX prog (mLoad 48 t5) w (pk K) E) w fun t111 w=>
 GDo t109 true (fun E=>DoX prog (mLoad 48 t16) w (pk K) E) w fun t112 w=>
 GDo t109 true (fun E=>CallX prog 21 #[t111,t112] w (pk K) E) w fun t113 w=>
 DoX prog (mPick t109 t113 (.bool false)) w (pk K) fun t114 w=>
 GDo t114 true (fun E=>CallX prog 9 #[] w (pk K) E) w fun t116 w=>
 DoX prog (mPick t114 t116 (.bool false)) w (pk K) fun t117 w=>
 K (.returned t117) w))))))
def S_foliantlaw35_PagesOwn (t0 t1:Value)(w:World)(K:Ending→World→Prop):Prop:=
 DoX prog (mBox 28 t0) w (pk K) fun t2 w=>
 DoX prog (mLoad 28 t2) w (pk K) fun t18 w=>
 CallX prog 8 #[t18] w (pk K) fun t19 w=>
 DoX prog (mUn .not t19) w (pk K) fun t20 w=>
 IfX t20 (CallX prog 9 #[] w (pk K) fun t21 w=>
 K (.returned t21) w) (DoX prog (mLoad 28 t2) w (pk K) fun t23 w=>
 CallX prog 20 #[t23,t1] w (pk K) fun t25 w=>
 DoX prog (mExt t25 0) w (pk K) fun t26 w=>
 DoX prog (mExt t25 1) w (pk K) fun t27 w=>
 DoX prog (mAlloc 48) w (pk K) fun t5 w=>
 DoX prog (mStore 48 t5 t26) w (pk K) fun _ w=>
 DoX prog (mEq .neq 32 (.tmp 28) (.const (.int .i64 0)) t27 (.int .i64 0)) w (pk K) fun t29 w=>
 IfX t29 (CallX prog 9 #[] w (pk K) fun t30 w=>
 K (.returned t30) w) (DoX prog (mLoad 28 t2) w (pk K) fun t32 w=>
 DoX prog (mFA 48 t5 0) w (pk K) fun t33 w=>
 DoX prog (mLoad 3 t33) w (pk K) fun t34 w=>
 CallX prog 22 #[t32,t34] w (pk K) fun t35 w=>
 DoX prog (mExt t35 0) w (pk K) fun t36 w=>
 DoX prog (mExt t35 1) w (pk K) fun t37 w=>
 DoX prog (mAlloc 53) w (pk K) fun t7 w=>
 DoX prog (mStore 53 t7 t36) w (pk K) fun _ w=>
 DoX prog (mUn .not t37) w (pk K) fun t39 w=>
 IfX t39 (K (.returned (.bool false)) w) (DoX prog (mFA 48 t5 1) w (pk K) fun t40 w=>
 DoX prog (mLoad 43 t40) w (pk K) fun t41 w=>
 DoX prog (mAlloc 43) w (pk K) fun t9 w=>
 DoX prog (mStore 43 t9 t41) w (pk K) fun _ w=>
 HeldX w (fun S1 w=>
 HDo prog (fun _=>True) (mFA 53 t7 2) fun t43=>
 HDo prog S1 (mLoad 26 t43) fun t44=>
 HDo prog (fun _=>True) (mFA 43 t9 0) fun t45=>
 HDo prog S1 (mLoad 2 t45) fun t46=>
 HDo prog (fun _=>True) (mFA 43 t9 1) fun t48=>
 HDo prog S1 (mLoad 2 t48) fun t49=>
 HDo prog (fun _=>True) (mFA 43 t9 2) fun t51=>
 HDo prog S1 (mLoad 2 t51) fun t52=>
 HDo prog (fun _=>True) (mFA 43 t9 3) fun t54=>
 HDo prog S1 (mLoad 2 t54) fun t55=>
 (CallX prog 25 #[t46] w (pm1 (pm1 (pm1 (pm1 (pm1 (pm1 (pm1 (pm1 (pm1 (pm1 (pm1 (pm1 (pm1 (pm1 (pk K))))))))))))))) fun t47 w=>
 S1 w∧((CallX prog 25 #[t49] w (pm1 (pm1 (pm1 (pm1 (pm1 (pm1 (pm1 (pm1 (pm1 (pm1 (pm1 (pm1 (pm1 (pm1 (pk K))))))))))))))) fun t50 w=>
 S1 w∧((CallX prog 25 #[t52] w (pm1 (pm1 (pm1 (pm1 (pm1 (pm1 (pm1 (pm1 (pm1 (pm1 (pm1 (pm1 (pm1 (pm1 (pk K))))))))))))))) fun t53 w=>
 S1 w∧((CallX prog 25 #[t55] w (pm1 (pm1 (pm1 (pm1 (pm1 (pm1 (pm1 (pm1 (pm1 (pm1 (pm1 (pm1 (pm1 (pm1 (pk K))))))))))))))) fun t56 w=>
 S1 w∧((DoX prog (mBuildS 24 4 #[(0,t47),(1,t50),(2,t53),(3,t56)]) w (pm1 (pm1 (pm1 (pm1 (pm1 (pm1 (pm1 (pm1 (pm1 (pm1 (pm1 (pm1 (pm1 (pm1 (pk K))))))))))))))) fun t57 w=>
 S1 w∧((CallX prog 24 #[t57] w (pm1 (pm1 (pm1 (pm1 (pm1 (pm1 (pm1 (pm1 (pm1 (pm1 (pm1 (pm1 (pm1 (pm1 (pk K))))))))))))))) fun t58 w=>
 S1 w∧((CallX prog 23 #[t44,(.string ⟨#[77,101,100,105,97,66,111,120]⟩),t58] w (pm1 (pm1 (pm1 (pm1 (pm1 (pm1 (pm1 (pm1 (pm1 (pm1 (pm1 (pm1 (pm1 (pm1 (pk K))))))))))))))) fun t59 w=>
 S1 w∧(HDo prog (fun _=>True) (mExt t59 0) fun t60=>
 HDo prog (fun _=>True) (mExt t59 1) fun t61=>
 DoX prog (mAlloc 26) w (pm1 (pm1 (pm1 (pm1 (pm1 (pm1 (pm1 (pm1 (pm1 (pm1 (pm1 (pm1 (pm1 (pm1 (pk K))))))))))))))) fun t10 w=>
 S1 w∧(DoX prog (mStore 26 t10 t60) w (pm1 (pm1 (pm1 (pm1 (pm1 (pm1 (pm1 (pm1 (pm1 (pm1 (pm1 (pm1 (pm1 (pm1 (pk K))))))))))))))) fun _ w=>
 (S_foliantlaw35_PagesOwn_0 t1 t2 t5 t7 t10 t61 w K))))∧(DoX prog (mAlloc 26) w (pm1 (pm1 (pm1 (pm1 (pm1 (pm1 (pm1 (pm1 (pm1 (pm1 (pm1 (pm1 (pm1 (pm1 (pk K))))))))))))))) fun t10_1 w=>
 S1 w∧(CallX prog 23 #[t44,(.string ⟨#[77,101,100,105,97,66,111,120]⟩),t58] w (pm1 (pm1 (pm1 (pm1 (pm1 (pm1 (pm1 (pm1 (pm1 (pm1 (pm1 (pm1 (pm1 (pm1 (pk K))))))))))))))) fun t59_1 w=>
 S1 w∧(HDo prog (fun _=>True) (mExt t59_1 0) fun t60_1=>
 HDo prog (fun _=>True) (mExt t59_1 1) fun t61_1=>
 DoX prog (mStore 26 t10_1 t60_1) w (pm1 (pm1 (pm1 (pm1 (pm1 (pm1 (pm1 (pm1 (pm1 (pm1 (pm1 (pm1 (pm1 (pm1 (pk K))))))))))))))) fun _ w=>
 (S_foliantlaw35_PagesOwn_0 t1 t2 t5 t7 t10_1 t61_1 w K))))))∧(DoX prog (mAlloc 26) w (pm1 (pm1 (pm1 (pm1 (pm1 (pm1 (pm1 (pm1 (pm1 (pm1 (pm1 (pm1 (pm1 (pm1 (pk K))))))))))))))) fun t10_2 w=>
 S1 w∧(CallX prog 24 #[t57] w (pm1 (pm1 (pm1 (pm1 (pm1 (pm1 (pm1 (pm1 (pm1 (pm1 (pm1 (pm1 (pm1 (pm1 (pk K))))))))))))))) fun t58_1 w=>
 S1 w∧(CallX prog 23 #[t44,(.string ⟨#[77,101,100,105,97,66,111,120]⟩),t58_1] w (pm1 (pm1 (pm1 (pm1 (pm1 (pm1 (pm1 (pm1 (pm1 (pm1 (pm1 (pm1 (pm1 (pm1 (pk K))))))))))))))) fun t59_2 w=>
 S1 w∧(HDo prog (fun _=>True) (mExt t59_2 0) fun t60_2=>
 HDo prog (fun _=>True) (mExt t59_2 1) fun t61_2=>
 DoX prog (mStore 26 t10_2 t60_2) w (pm1 (pm1 (pm1 (pm1 (pm1 (pm1 (pm1 (pm1 (pm1 (pm1 (pm1 (pm1 (pm1 (pm1 (pk K))))))))))))))) fun _ w=>
 (S_foliantlaw35_PagesOwn_0 t1 t2 t5 t7 t10_2 t61_2 w K)))))))∧(DoX prog (mAlloc 26) w (pm1 (pm1 (pm1 (pm1 (pm1 (pm1 (pm1 (pm1 (pm1 (pm1 (pm1 (pm1 (pm1 (pm1 (pk K))))))))))))))) fun t10_3 w=>
 S1 w∧(DoX prog (mBuildS 24 4 #[(0,t47),(1,t50),(2,t53),(3,t56)]) w (pm1 (pm1 (pm1 (pm1 (pm1 (pm1 (pm1 (pm1 (pm1 (pm1 (pm1 (pm1 (pm1 (pm1 (pk K))))))))))))))) fun t57_1 w=>
 S1 w∧(CallX prog 24 #[t57_1] w (pm1 (pm1 (pm1 (pm1 (pm1 (pm1 (pm1 (pm1 (pm1 (pm1 (pm1 (pm1 (pm1 (pm1 (pk K))))))))))))))) fun t58_2 w=>
 S1 w∧(CallX prog 23 #[t44,(.string ⟨#[77,101,100,105,97,66,111,120]⟩),t58_2] w (pm1 (pm1 (pm1 (pm1 (pm1 (pm1 (pm1 (pm1 (pm1 (pm1 (pm1 (pm1 (pm1 (pm1 (pk K))))))))))))))) fun t59_3 w=>
 S1 w∧(HDo prog (fun _=>True) (mExt t59_3 0) fun t60_3=>
 HDo prog (fun _=>True) (mExt t59_3 1) fun t61_3=>
 DoX prog (mStore 26 t10_3 t60_3) w (pm1 (pm1 (pm1 (pm1 (pm1 (pm1 (pm1 (pm1 (pm1 (pm1 (pm1 (pm1 (pm1 (pm1 (pk K))))))))))))))) fun _ w=>
 (S_foliantlaw35_PagesOwn_0 t1 t2 t5 t7 t10_3 t61_3 w K))))))))∧(DoX prog (mAlloc 26) w (pm1 (pm1 (pm1 (pm1 (pm1 (pm1 (pm1 (pm1 (pm1 (pm1 (pm1 (pm1 (pm1 (pm1 (pk K))))))))))))))) fun t10_4 w=>
 S1 w∧(CallX prog 25 #[t55] w (pm1 (pm1 (pm1 (pm1 (pm1 (pm1 (pm1 (pm1 (pm1 (pm1 (pm1 (pm1 (pm1 (pm1 (pk K))))))))))))))) fun t56_1 w=>
 S1 w∧(DoX prog (mBuildS 24 4 #[(0,t47),(1,t50),(2,t53),(3,t56_1)]) w (pm1 (pm1 (pm1 (pm1 (pm1 (pm1 (pm1 (pm1 (pm1 (pm1 (pm1 (pm1 (pm1 (pm1 (pk K))))))))))))))) fun t57_2 w=>
 S1 w∧(CallX prog 24 #[t57_2] w (pm1 (pm1 (pm1 (pm1 (pm1 (pm1 (pm1 (pm1 (pm1 (pm1 (pm1 (pm1 (pm1 (pm1 (pk K))))))))))))))) fun t58_3 w=>
 S1 w∧(CallX prog 23 #[t44,(.string ⟨#[77,101,100,105,97,66,111,120]⟩),t58_3] w (pm1 (pm1 (pm1 (pm1 (pm1 (pm1 (pm1 (pm1 (pm1 (pm1 (pm1 (pm1 (pm1 (pm1 (pk K))))))))))))))) fun t59_4 w=>
 S1 w∧(HDo prog (fun _=>True) (mExt t59_4 0) fun t60_4=>
 HDo prog (fun _=>True) (mExt t59_4 1) fun t61_4=>
 DoX prog (mStore 26 t10_4 t60_4) w (pm1 (pm1 (pm1 (pm1 (pm1 (pm1 (pm1 (pm1 (pm1 (pm1 (pm1 (pm1 (pm1 (pm1 (pk K))))))))))))))) fun _ w=>
 (S_foliantlaw35_PagesOwn_0 t1 t2 t5 t7 t10_4 t61_4 w K)))))))))∧(DoX prog (mAlloc 26) w (pm1 (pm1 (pm1 (pm1 (pm1 (pm1 (pm1 (pm1 (pm1 (pm1 (pm1 (pm1 (pm1 (pm1 (pk K))))))))))))))) fun t10_5 w=>
 S1 w∧(CallX prog 25 #[t52] w (pm1 (pm1 (pm1 (pm1 (pm1 (pm1 (pm1 (pm1 (pm1 (pm1 (pm1 (pm1 (pm1 (pm1 (pk K))))))))))))))) fun t53_1 w=>
 S1 w∧(CallX prog 25 #[t55] w (pm1 (pm1 (pm1 (pm1 (pm1 (pm1 (pm1 (pm1 (pm1 (pm1 (pm1 (pm1 (pm1 (pm1 (pk K))))))))))))))) fun t56_2 w=>
 S1 w∧(DoX prog (mBuildS 24 4 #[(0,t47),(1,t50),(2,t53_1),(3,t56_2)]) w (pm1 (pm1 (pm1 (pm1 (pm1 (pm1 (pm1 (pm1 (pm1 (pm1 (pm1 (pm1 (pm1 (pm1 (pk K))))))))))))))) fun t57_3 w=>
 S1 w∧(CallX prog 24 #[t57_3] w (pm1 (pm1 (pm1 (pm1 (pm1 (pm1 (pm1 (pm1 (pm1 (pm1 (pm1 (pm1 (pm1 (pm1 (pk K))))))))))))))) fun t58_4 w=>
 S1 w∧(CallX prog 23 #[t44,(.string ⟨#[77,101,100,105,97,66,111,120]⟩),t58_4] w (pm1 (pm1 (pm1 (pm1 (pm1 (pm1 (pm1 (pm1 (pm1 (pm1 (pm1 (pm1 (pm1 (pm1 (pk K))))))))))))))) fun t59_5 w=>
 S1 w∧(HDo prog (fun _=>True) (mExt t59_5 0) fun t60_5=>
 HDo prog (fun _=>True) (mExt t59_5 1) fun t61_5=>
 DoX prog (mStore 26 t10_5 t60_5) w (pm1 (pm1 (pm1 (pm1 (pm1 (pm1 (pm1 (pm1 (pm1 (pm1 (pm1 (pm1 (pm1 (pm1 (pk K))))))))))))))) fun _ w=>
 (S_foliantlaw35_PagesOwn_0 t1 t2 t5 t7 t10_5 t61_5 w K))))))))))∧(DoX prog (mAlloc 26) w (pm1 (pm1 (pm1 (pm1 (pm1 (pm1 (pm1 (pm1 (pm1 (pm1 (pm1 (pm1 (pm1 (pm1 (pk K))))))))))))))) fun t10_6 w=>
 S1 w∧(CallX prog 25 #[t49] w (pm1 (pm1 (pm1 (pm1 (pm1 (pm1 (pm1 (pm1 (pm1 (pm1 (pm1 (pm1 (pm1 (pm1 (pk K))))))))))))))) fun t50_1 w=>
 S1 w∧(CallX prog 25 #[t52] w (pm1 (pm1 (pm1 (pm1 (pm1 (pm1 (pm1 (pm1 (pm1 (pm1 (pm1 (pm1 (pm1 (pm1 (pk K))))))))))))))) fun t53_2 w=>
 S1 w∧(CallX prog 25 #[t55] w (pm1 (pm1 (pm1 (pm1 (pm1 (pm1 (pm1 (pm1 (pm1 (pm1 (pm1 (pm1 (pm1 (pm1 (pk K))))))))))))))) fun t56_3 w=>
 S1 w∧(DoX prog (mBuildS 24 4 #[(0,t47),(1,t50_1),(2,t53_2),(3,t56_3)]) w (pm1 (pm1 (pm1 (pm1 (pm1 (pm1 (pm1 (pm1 (pm1 (pm1 (pm1 (pm1 (pm1 (pm1 (pk K))))))))))))))) fun t57_4 w=>
 S1 w∧(CallX prog 24 #[t57_4] w (pm1 (pm1 (pm1 (pm1 (pm1 (pm1 (pm1 (pm1 (pm1 (pm1 (pm1 (pm1 (pm1 (pm1 (pk K))))))))))))))) fun t58_5 w=>
 S1 w∧(CallX prog 23 #[t44,(.string ⟨#[77,101,100,105,97,66,111,120]⟩),t58_5] w (pm1 (pm1 (pm1 (pm1 (pm1 (pm1 (pm1 (pm1 (pm1 (pm1 (pm1 (pm1 (pm1 (pm1 (pk K))))))))))))))) fun t59_6 w=>
 S1 w∧(HDo prog (fun _=>True) (mExt t59_6 0) fun t60_6=>
 HDo prog (fun _=>True) (mExt t59_6 1) fun t61_6=>
 DoX prog (mStore 26 t10_6 t60_6) w (pm1 (pm1 (pm1 (pm1 (pm1 (pm1 (pm1 (pm1 (pm1 (pm1 (pm1 (pm1 (pm1 (pm1 (pk K))))))))))))))) fun _ w=>
 (S_foliantlaw35_PagesOwn_0 t1 t2 t5 t7 t10_6 t61_6 w K)))))))))))∧(DoX prog (mAlloc 26) w (pm1 (pm1 (pm1 (pm1 (pm1 (pm1 (pm1 (pm1 (pm1 (pm1 (pm1 (pm1 (pm1 (pm1 (pk K))))))))))))))) fun t10_7 w=>
 S1 w∧(CallX prog 25 #[t46] w (pm1 (pm1 (pm1 (pm1 (pm1 (pm1 (pm1 (pm1 (pm1 (pm1 (pm1 (pm1 (pm1 (pm1 (pk K))))))))))))))) fun t47_1 w=>
 S1 w∧(CallX prog 25 #[t49] w (pm1 (pm1 (pm1 (pm1 (pm1 (pm1 (pm1 (pm1 (pm1 (pm1 (pm1 (pm1 (pm1 (pm1 (pk K))))))))))))))) fun t50_2 w=>
 S1 w∧(CallX prog 25 #[t52] w (pm1 (pm1 (pm1 (pm1 (pm1 (pm1 (pm1 (pm1 (pm1 (pm1 (pm1 (pm1 (pm1 (pm1 (pk K))))))))))))))) fun t53_3 w=>
 S1 w∧(CallX prog 25 #[t55] w (pm1 (pm1 (pm1 (pm1 (pm1 (pm1 (pm1 (pm1 (pm1 (pm1 (pm1 (pm1 (pm1 (pm1 (pk K))))))))))))))) fun t56_4 w=>
 S1 w∧(DoX prog (mBuildS 24 4 #[(0,t47_1),(1,t50_2),(2,t53_3),(3,t56_4)]) w (pm1 (pm1 (pm1 (pm1 (pm1 (pm1 (pm1 (pm1 (pm1 (pm1 (pm1 (pm1 (pm1 (pm1 (pk K))))))))))))))) fun t57_5 w=>
 S1 w∧(CallX prog 24 #[t57_5] w (pm1 (pm1 (pm1 (pm1 (pm1 (pm1 (pm1 (pm1 (pm1 (pm1 (pm1 (pm1 (pm1 (pm1 (pk K))))))))))))))) fun t58_6 w=>
 S1 w∧(CallX prog 23 #[t44,(.string ⟨#[77,101,100,105,97,66,111,120]⟩),t58_6] w (pm1 (pm1 (pm1 (pm1 (pm1 (pm1 (pm1 (pm1 (pm1 (pm1 (pm1 (pm1 (pm1 (pm1 (pk K))))))))))))))) fun t59_7 w=>
 S1 w∧(HDo prog (fun _=>True) (mExt t59_7 0) fun t60_7=>
 HDo prog (fun _=>True) (mExt t59_7 1) fun t61_7=>
 DoX prog (mStore 26 t10_7 t60_7) w (pm1 (pm1 (pm1 (pm1 (pm1 (pm1 (pm1 (pm1 (pm1 (pm1 (pm1 (pm1 (pm1 (pm1 (pk K))))))))))))))) fun _ w=>
 (S_foliantlaw35_PagesOwn_0 t1 t2 t5 t7 t10_7 t61_7 w K))))))))))))))
theorem S_foliantlaw35_PagesOwn_eq (t0 t1:Value)(w:World)(K:Ending→World→Prop):wpX prog 118 [] [] none (bodyOf Tryz.f6) (topQ prog [.tmp 4] K) (startX [t0,t1]) [] w=S_foliantlaw35_PagesOwn t0 t1 w K:=by kernel_rfl
theorem S_foliantlaw35_PagesOwn_ok {t0 t1:Value}{w:World}{K:Ending→World→Prop}(h:S_foliantlaw35_PagesOwn t0 t1 w K):Calls prog 6 #[t0,t1] w K:=
 calls_of_wpX Tryz.func6 rfl rfl rfl rfl (Eq.mpr (S_foliantlaw35_PagesOwn_eq t0 t1 w K) h)
end
section
open Eng Go.RowKit
namespace Pg
def flat (prs:List (List UInt8×Ob)):List Ob:=prs.flatMap fun p=>[nameO p.1,p.2]
def dictF (prs:List (List UInt8×Ob)):Ob:=prs.foldl (fun o p=>Vl.put o p.1 p.2) dict0
theorem flat_len:∀prs:List (List UInt8×Ob),(flat prs).length=2*prs.length
|[]=>rfl
|p::l=>by
  have:=flat_len l;unfold flat at this ⊢;rw[List.flatMap_cons,List.length_append,this,List.length_cons];simp;omega
theorem flat_at:∀(prs:List (List UInt8×Ob)) (i:Nat) (h:i < prs.length),(flat prs)[2*i]?=some (nameO prs[i].1)∧(flat prs)[2*i+1]?=some prs[i].2
|p::l,0,h=>⟨rfl,rfl⟩
|p::l,i+1,h=>by
  have:=flat_at l i (by simpa using h);unfold flat at this ⊢;rw[List.flatMap_cons,show 2*(i+1)=2*i+2 by omega,show 2*i+2+1=2*i+1+2 by omega];exact this
theorem dictF_take {prs:List (List UInt8×Ob)}{i:Nat}(h:i < prs.length):dictF (prs.take (i+1))=Vl.put (dictF (prs.take i)) prs[i].1 prs[i].2:=by
 unfold dictF;rw[List.take_succ_eq_append_getElem h,List.foldl_append];rfl
theorem dictF_lens:∀(prs:List (List UInt8×Ob)) (o:Ob),o.keys.length=o.kids.length→(prs.foldl (fun o p=>Vl.put o p.1 p.2) o).keys.length=(prs.foldl (fun o p=>Vl.put o p.1 p.2) o).kids.length
|[],o,h=>h
|p::l,o,h=>dictF_lens l _ (Vl.put_lens h)
def wtP (prs:List (List UInt8×Ob)):Nat:=(prs.map fun p=>p.1.length+1+p.2.wt).sum
theorem dictF_wt:∀(prs:List (List UInt8×Ob)) (o:Ob),(prs.foldl (fun o p=>Vl.put o p.1 p.2) o).wt≤o.wt+wtP prs
|[],o=>by simp[wtP]
|p::l,o=>by
  have h1:=dictF_wt l (Vl.put o p.1 p.2);have h2:=Vl.put_wt o p.1 p.2;simp only[List.foldl_cons,wtP,List.map_cons,List.sum_cons] at h1 ⊢;omega
theorem wtP_take (prs:List (List UInt8×Ob))(i:Nat):wtP (prs.take i)≤wtP prs:=by
 conv=>rhs;rw[←List.take_append_drop i prs]
 unfold wtP;rw[List.map_append,List.sum_append];omega
end Pg
theorem chn_cells {M:Mem}{v:Value}{l:List Ob}(h:Chn M.A M.w v l){i:Nat}{o:Ob}(hi:l[i]?=some o) :
  ∃xk xc b off,OV M.A M.w (obV o xk xc) o∧(∀W,(mIA 24 v (.int .i64 (i:Int))).run prog W=.ok (.value (.pointer (some ⟨b,off,none⟩))) W)∧∀W,M.has W→∀j u,(obC o xk xc)[j]?=some u→W.cell? ⟨b,off+j,none⟩=some u:=by
 obtain⟨hlt,rfl⟩:=List.getElem?_eq_some_iff.1 hi;obtain⟨cs,h1,h2⟩:=h;obtain⟨b,off,cap,rfl,_⟩:=sl_open h1.1 (by omega);obtain⟨a,hl,hov,hget⟩:=OVs.get _ _ i hlt h2;obtain⟨xk,xc,xcs,he,hxa⟩:=hov.open;have ha:a=obC l[i] xk xc:=by
  have:a.toArray=(obC l[i] xk xc).toArray:=by injection he
  simpa using congrArg Array.toList this
 refine⟨xk,xc,b,off+i*6,hxa.ov,fun W=>?_,fun W hW j u hj=>?_⟩
 ·refine (run_ia Tryz.underlying24 szOb (by omega) (by omega)).trans ?_;rw[Int.toNat_natCast]
 ·obtain⟨b',off',cap',e,hc⟩:=sl_open (h1.now hW) (by omega);cases e;rw[Nat.add_assoc];exact hc _ _ (hget j u (by rw[ha];exact hj))
theorem rdict5_ret (prs:List (List UInt8×Ob))(v:Value)(M:Mem)(w:World)(hn:(prs.map (·.1)).Nodup)(h0:∀p∈prs,p.2.k≠0)(hl:prs.length≤1000)(hw:Pg.wtP prs≤100000000)(hM:M.has w)(hc:Chn M.A M.w v (Pg.flat prs)) :
  RetM prog 83 #[v] M w (fun r N=>∃v',r=errV v' (Vl.right (Pg.dictF prs)).2∧OV N.A N.w v' (Vl.right (Pg.dictF prs)).1):=by
 refine retM_of hM fun K hK=>S_foliantref05_Dict_ok ?_;unfold S_foliantref05_Dict;refine o_oba (OwnS.memS hM) fun b2 w1 ho=>?_;have hfl:=Pg.flat_len prs;rw[hc.len (ho.hasM 1 rfl)];rw[b_rem (by omega),Int.tmod_eq_emod_of_nonneg (by omega)];simp only[rs];rw[decide_eq_false (by omega),i_f];refine loop (fun vs W=>∃(i:Nat) (z:Value),vs=[z,.int .i64 ((2*i:Nat):Int)]∧i≤prs.length∧OwnS M.A w W [obE b2 ob0 nilS nilS,.mem M]) (fun vs _=>2*prs.length - n1 vs) ⟨0,_,rfl,by omega,ho⟩ ?_;clear ho;rintro vs w2 ⟨i,z,rfl,hi,ho⟩ _;simp only[S_foliantref05_Dict_0,gd];rw[hc.len (ho.hasM 1 rfl)];simp only[rs];by_cases hlt:((2*i:Nat):Int) < ((Pg.flat prs).length:Int)
 ·have hi':i < prs.length:=by omega
  simp only[hlt,decide_true,i_t];obtain⟨xk,xc,b,off,hx,r1,r2⟩:=chn_cells hc (Pg.flat_at prs i hi').1;refine do_eq (r1 w2) |>.mpr ?_;rw[fa_o0];refine do_eq (run_load_cell nInt5 (r2 w2 (ho.hasM 1 rfl) 0 _ rfl)) |>.mpr ?_;simp only[rs,Pg.nameO,Ob.k,show decide ((5:Int)≠5)=false by decide];rw[wrap64_id (by omega) (by omega),show ((2*i:Nat):Int)+2=((2*(i+1):Nat):Int) by omega];exact nextX ⟨i+1,z,rfl,by omega,ho⟩ (by simp[n1,RowKit.intOf];omega)
 simp only[hlt,decide_false,i_f];rw[m_dict];refine o_oba ho fun b5 w3 ho=>?_;refine ob_put 0 rfl rfl ho rfl fun w4 ho=>?_;have hwt:∀i,(Pg.dictF (prs.take i)).wt≤100000100:=fun i=>by
  have h1:=Pg.dictF_wt (prs.take i) Pg.dict0;have h2:=Pg.wtP_take prs i;have h3:Pg.dict0.wt=6:=by rw[Vl.wt_eq];rfl
  unfold Pg.dictF;omega
 refine loop (fun vs W=>∃(i:Nat) (N:Mem) (z dk dc:Value),vs=[z,.int .i64 ((2*i:Nat):Int)]∧i≤prs.length∧M.le N∧OV N.A N.w (obV (Pg.dictF (prs.take i)) dk dc) (Pg.dictF (prs.take i))∧OwnS M.A w W [obE b5 (Pg.dictF (prs.take i)) dk dc,obE b2 ob0 nilS nilS,.mem N]) (fun vs _=>2*prs.length - n1 vs)
  ⟨0,M,_,nilS,nilS,rfl,by omega,M.le_refl,Pg.dict0_ov M,ho⟩ ?_
 clear ho hlt hi;rintro vs w5 ⟨i,N,z,dk,dc,rfl,hi,hle,hd,ho⟩ _;simp only[S_foliantref05_Dict_1,gd];have hcN:=hc.le hle;rw[hcN.len (ho.hasM 2 rfl)];simp only[rs];by_cases hlt:((2*i:Nat):Int) < ((Pg.flat prs).length:Int)
 ·have hi':i < prs.length:=by omega
  simp only[hlt,decide_true,i_t];refine join fun J hJ=>?_;obtain⟨xk,xc,b,off,hx,r1,r2⟩:=chn_cells hcN (Pg.flat_at prs i hi').1;obtain⟨yk,yc,bb,boff,hy,q1,q2⟩:=chn_cells hcN (Pg.flat_at prs i hi').2;refine loop (fun vs W=>∃(m:Nat) (z:Value),vs=[z,.int .i64 ((2*m:Nat):Int)]∧m≤i∧OwnS M.A w W [obE b5 (Pg.dictF (prs.take i)) dk dc,obE b2 ob0 nilS nilS,.mem N]) (fun vs _=>2*i - n1 vs) ⟨0,z,rfl,by omega,ho⟩ ?_;clear ho;rintro vs w6 ⟨m,z2,rfl,hm,ho⟩ _;simp only[S_foliantref05_Dict_2,gd,rs];by_cases hmi:((2*m:Nat):Int) < ((2*i:Nat):Int)
  ·have hm':m < prs.length:=by omega
   simp only[hmi,decide_true,i_t];obtain⟨uk,uc,ub,uoff,hu,s1,s2⟩:=chn_cells hcN (Pg.flat_at prs m hm').1;refine quietC (fun W=>OwnS M.A w W [obE b5 (Pg.dictF (prs.take i)) dk dc,obE b2 ob0 nilS nilS,.mem N]) ho.drew ?_;refine q_do _ s1 (q_do _ (fun _=>run_fa fo_o3) (q_at (.string ⟨prs[m].1.toArray⟩) (fun W h=>run_load_cell nStr5 (s2 W (h.hasM 2 rfl) 3 _ rfl)) ?_));refine q_do _ r1 (q_do _ (fun _=>run_fa fo_o3) (q_at (.string ⟨prs[i].1.toArray⟩) (fun W h=>run_load_cell nStr5 (r2 W (h.hasM 2 rfl) 3 _ rfl)) (q_seq ?_)));intro w7 ho;have hne:prs[m].1≠prs[i].1:=by
    have h4:=List.pairwise_iff_getElem.1 hn m i (by simpa using hm') (by simpa using hi') (by omega);rw[List.getElem_map,List.getElem_map] at h4;exact h4
   rw[decide_eq_false hne,i_f,wrap64_id (by omega) (by omega),show ((2*m:Nat):Int)+2=((2*(m+1):Nat):Int) by omega];exact nextX ⟨m+1,z2,rfl,by omega,ho⟩ (by simp[n1,RowKit.intOf];omega)
  ·simp only[hmi,decide_false,i_f];rw[wrap64_id (by omega) (by omega),show ((2*i:Nat):Int)+1=((2*i+1:Nat):Int) by omega];refine do_eq (q1 w6) |>.mpr ?_;rw[fa_o0];refine do_eq (run_load_cell nInt5 (q2 w6 (ho.hasM 2 rfl) 0 _ rfl)) |>.mpr ?_;have hk0:=h0 _ (List.getElem_mem hi');simp only[rs,hk0,ne_eq,not_false_eq_true,decide_true];refine quietC (fun W=>OwnS M.A w W [obE b5 (Pg.dictF (prs.take i)) dk dc,obE b2 ob0 nilS nilS,.mem N]) ho.drew ?_;refine q_at (obV (Pg.dictF (prs.take i)) dk dc) (fun W h=>run_obload (h.at_ 0 rfl)) ?_;refine q_do _ r1 (q_do _ (fun _=>run_fa fo_o3) (q_at (.string ⟨prs[i].1.toArray⟩) (fun W h=>run_load_cell nStr5 (r2 W (h.hasM 2 rfl) 3 _ rfl)) ?_));refine q_add ?_;rw[wrap64_id (by omega) (by omega),show ((2*i:Nat):Int)+1=((2*i+1:Nat):Int) by omega];refine q_do _ q1 (q_at (obV prs[i].2 yk yc) (fun W h=>run_load_at (AtV.agg aggOb (cs:=obC prs[i].2 yk yc) rfl fun j u hj=>q2 W (h.hasM 2 rfl) j u hj)) ?_);intro w7 ho;have hlen:(Pg.dictF (prs.take i)).keys.length=(Pg.dictF (prs.take i)).kids.length:=Pg.dictF_lens _ _ rfl;refine c_mem ho 2 rfl (rput_ret (Pg.dictF (prs.take i)) prs[i].2 _ _ prs[i].1 N w7 (by have:=hwt i;omega) (ho.hasM 2 rfl) hd hy hlen) fun e N2 w8 hle2 he ho=>?_;rw[←Pg.dictF_take hi'] at he;obtain⟨ek,ec,ecs,rfl,hea⟩:=he.open;refine ob_put 0 hea.keys.one hea.kids.one ho rfl fun w9 ho=>?_;refine hJ _ _ fun _=>?_;simp only[S_foliantref05_Dict_3,gd,rs];rw[wrap64_id (by omega) (by omega),show ((2*i:Nat):Int)+2=((2*(i+1):Nat):Int) by omega];exact nextX ⟨i+1,N2,z2,ek,ec,rfl,by omega,hle.trans hle2,he,ho⟩ (by simp[n1,RowKit.intOf];omega)
 ·simp only[hlt,decide_false,i_f];have hie:i=prs.length:=by omega
  subst hie;rw[List.take_length] at hd ho;have hwt':=hwt prs.length;rw[List.take_length] at hwt';rw[ob_v ho 0 rfl];refine c_mem ho 2 rfl (rright_ret (Pg.dictF prs) _ N w5 (by omega) (ho.hasM 2 rfl) hd) ?_;rintro _ N2 w6 hle2 ⟨y,rfl,hy⟩ ho;obtain⟨yk,yc,ycs,rfl,hya⟩:=hy.open;simp only[errV,ex];refine ob_put 1 hya.keys.one hya.kids.one ho rfl fun w7 ho=>?_;exact ret_ob2 1 ho rfl (hK _ _ N2 _ 2 ho rfl (hle.trans hle2) ⟨_,rfl,hy⟩)
end
section
open Eng Go.RowKit
theorem leaf_ov (M:Mem)(k n g:Int)(s:List UInt8):OV M.A M.w (obV (.mk k n g s [] []) nilS nilS) (.mk k n g s [] []):=ObAt.ov (cs:=[]) ⟨SlA.nil _ _ _ _,SlA.nil _ _ _ _,.nil⟩
theorem arr_ov {M:Mem}{v:Value}{l:List Ob}(h:Chn M.A M.w v l):OV M.A M.w (obV (Pg.arrO l) nilS v) (Pg.arrO l):=by
 obtain⟨cs,h1,h2⟩:=h;exact ObAt.ov (cs:=cs) ⟨SlA.nil _ _ _ _,h1,h2⟩
theorem lkey_ret (s:List UInt8)(w:World):Ret prog 54 #[.string ⟨s.toArray⟩] w (fun v w'=>v=obV (Pg.nameO s) nilS nilS∧Below w.heap.size w w'):=by
 refine ret_of fun K hK=>S_foliantlaw35_key_ok ?_;unfold S_foliantlaw35_key;refine o_oba (Own.start w) fun b2 w1 ho=>?_;refine c_below ho (R:=fun v=>v=obV (ob1 5 0 0 s) nilS nilS) (rkey05_ret s w1) ?_;rintro _ w2 rfl ho;refine ob_put 0 rfl rfl ho rfl fun w3 ho=>?_;exact ret_obi 0 ho rfl (hK _ _ ⟨rfl,ho.done⟩)
section
variable {w:World}{PK:PKT}{K:VWP}{S:Nat→Prop}{w0:World}{L:List Ent}
theorem c_key35 (s:List UInt8)(ho:OwnS S w0 w L)(k:∀W,OwnS S w0 W L→K (obV (Pg.nameO s) nilS nilS) W):CallX prog 54 #[.string ⟨s.toArray⟩] w PK K:=by
 refine c_below ho (R:=fun v=>v=obV (Pg.nameO s) nilS nilS) (lkey_ret s w) ?_;rintro _ w2 rfl ho;exact k w2 ho
theorem c_ref35 (n:Int)(ho:OwnS S w0 w L)(k:∀W,OwnS S w0 W L→K (obV (Pg.refO n) nilS nilS) W):CallX prog 31 #[.int .i64 n,.int .i64 0] w PK K:=by
 refine c_below ho (R:=fun v=>v=obV (ob1 8 n 0 []) nilS nilS) (rref05_ret n 0 w) ?_;rintro _ w2 rfl ho;exact k w2 ho
theorem c_int35 (n:Int)(ho:OwnS S w0 w L)(k:∀W,OwnS S w0 W L→K (obV (Pg.intO n) nilS nilS) W):CallX prog 26 #[.int .i64 n] w PK K:=by
 refine c_below ho (R:=fun v=>v=obV (ob1 2 n 0 []) nilS nilS) (rint05_ret n w) ?_;rintro _ w2 rfl ho;exact k w2 ho
theorem c_real35 (n:Int)(ho:OwnS S w0 w L)(k:∀W,OwnS S w0 W L→K (obV (Pg.realO n) nilS nilS) W):CallX prog 25 #[.int .i64 n] w PK K:=by
 refine c_below ho (R:=fun v=>v=obV (ob1 3 n 0 []) nilS nilS) (rreal05_ret n w) ?_;rintro _ w2 rfl ho;exact k w2 ho
theorem c_arr35 (l:List Ob)(a:Option Addr)(n c:Nat)(ho:OwnS S w0 w L)(k:∀W,OwnS S w0 W L→K (obV (Pg.arrO l) nilS (.slice a n c)) W):CallX prog 24 #[.slice a n c] w PK K:=by
 refine c_below ho (R:=fun v=>v=obV (Pg.arrO l) nilS (.slice a n c)) (rarr05_ret a n c l w) ?_;rintro _ w2 rfl ho;exact k w2 ho
theorem o_chn2 {o1:Ob}{a1:Option Addr}{n1 c1:Nat}{o2:Ob}{a2:Option Addr}{n2 c2:Nat}{M:Mem}(jm:Nat)(ho:OwnS S w0 w L)(hm:L[jm]?=some (.mem M))(h1:OV M.A M.w (obV o1 nilS (.slice a1 n1 c1)) o1)(h2:OV M.A M.w (obV o2 nilS (.slice a2 n2 c2)) o2)
  (k:∀(b:Nat) N W,M.le N→Chn N.A N.w (.slice (some ⟨b,0,none⟩) 2 2) [o1,o2]→OwnS S w0 W (L.set jm (.mem N))→K (.slice (some ⟨b,0,none⟩) 2 2) W):DoX prog (mBuildS 24 2 #[(0,obV o1 nilS (.slice a1 n1 c1)),(1,obV o2 nilS (.slice a2 n2 c2))]) w PK K:=by
 refine o_new (fun b=>.slice (some ⟨b,0,none⟩) 2 2) (obC o1 nilS (.slice a1 n1 c1)++(obC o2 nilS (.slice a2 n2 c2))) 26 (fun _=>by kernel_rfl) ho fun b w1 ho=>?_;have ho:=OwnS.toU (b:=b) (cs:=obC o1 nilS (.slice a1 n1 c1)++(obC o2 nilS (.slice a2 n2 c2))) (E:=26) ho 6 2 2 rfl (by omega) (by omega);obtain⟨N,hle,hrow,ho⟩:=OwnS.freezeU ho jm hm;exact k b N w1 hle ⟨_,hrow,ovs_app (ovs_1 (h1.le hle)) (ovs_1 (h2.le hle))⟩ ho
theorem o_chn4 {o1:Ob}{a1:Option Addr}{n1 c1:Nat}{o2:Ob}{a2:Option Addr}{n2 c2:Nat}{o3:Ob}{a3:Option Addr}{n3 c3:Nat}{o4:Ob}{a4:Option Addr}{n4 c4:Nat}{M:Mem}(jm:Nat)(ho:OwnS S w0 w L)(hm:L[jm]?=some (.mem M))(h1:OV M.A M.w (obV o1 nilS (.slice a1 n1 c1)) o1)(h2:OV M.A M.w (obV o2 nilS (.slice a2 n2 c2)) o2)(h3:OV M.A M.w (obV o3 nilS (.slice a3 n3 c3)) o3)(h4:OV M.A M.w (obV o4 nilS (.slice a4 n4 c4)) o4)
  (k:∀(b:Nat) N W,M.le N→Chn N.A N.w (.slice (some ⟨b,0,none⟩) 4 4) [o1,o2,o3,o4]→OwnS S w0 W (L.set jm (.mem N))→K (.slice (some ⟨b,0,none⟩) 4 4) W):DoX prog (mBuildS 24 4 #[(0,obV o1 nilS (.slice a1 n1 c1)),(1,obV o2 nilS (.slice a2 n2 c2)),(2,obV o3 nilS (.slice a3 n3 c3)),(3,obV o4 nilS (.slice a4 n4 c4))]) w PK K:=by
 refine o_new (fun b=>.slice (some ⟨b,0,none⟩) 4 4) (obC o1 nilS (.slice a1 n1 c1)++(obC o2 nilS (.slice a2 n2 c2)++(obC o3 nilS (.slice a3 n3 c3)++(obC o4 nilS (.slice a4 n4 c4))))) 26 (fun _=>by kernel_rfl) ho fun b w1 ho=>?_;have ho:=OwnS.toU (b:=b) (cs:=obC o1 nilS (.slice a1 n1 c1)++(obC o2 nilS (.slice a2 n2 c2)++(obC o3 nilS (.slice a3 n3 c3)++(obC o4 nilS (.slice a4 n4 c4))))) (E:=26) ho 6 4 4 rfl (by omega) (by omega);obtain⟨N,hle,hrow,ho⟩:=OwnS.freezeU ho jm hm;exact k b N w1 hle ⟨_,hrow,ovs_app (ovs_1 (h1.le hle)) (ovs_app (ovs_1 (h2.le hle)) (ovs_app (ovs_1 (h3.le hle)) (ovs_1 (h4.le hle))))⟩ ho
theorem o_chn6 {o1:Ob}{a1:Option Addr}{n1 c1:Nat}{o2:Ob}{a2:Option Addr}{n2 c2:Nat}{o3:Ob}{a3:Option Addr}{n3 c3:Nat}{o4:Ob}{a4:Option Addr}{n4 c4:Nat}{o5:Ob}{a5:Option Addr}{n5 c5:Nat}{o6:Ob}{a6:Option Addr}{n6 c6:Nat}{M:Mem}(jm:Nat)(ho:OwnS S w0 w L)(hm:L[jm]?=some (.mem M))(h1:OV M.A M.w (obV o1 nilS (.slice a1 n1 c1)) o1)(h2:OV M.A M.w (obV o2 nilS (.slice a2 n2 c2)) o2)(h3:OV M.A M.w (obV o3 nilS (.slice a3 n3 c3)) o3)(h4:OV M.A M.w (obV o4 nilS (.slice a4 n4 c4)) o4)(h5:OV M.A M.w (obV o5 nilS (.slice a5 n5 c5)) o5)(h6:OV M.A M.w (obV o6 nilS (.slice a6 n6 c6)) o6)
  (k:∀(b:Nat) N W,M.le N→Chn N.A N.w (.slice (some ⟨b,0,none⟩) 6 6) [o1,o2,o3,o4,o5,o6]→OwnS S w0 W (L.set jm (.mem N))→K (.slice (some ⟨b,0,none⟩) 6 6) W):DoX prog (mBuildS 24 6 #[(0,obV o1 nilS (.slice a1 n1 c1)),(1,obV o2 nilS (.slice a2 n2 c2)),(2,obV o3 nilS (.slice a3 n3 c3)),(3,obV o4 nilS (.slice a4 n4 c4)),(4,obV o5 nilS (.slice a5 n5 c5)),(5,obV o6 nilS (.slice a6 n6 c6))]) w PK K:=by
 refine o_new (fun b=>.slice (some ⟨b,0,none⟩) 6 6) (obC o1 nilS (.slice a1 n1 c1)++(obC o2 nilS (.slice a2 n2 c2)++(obC o3 nilS (.slice a3 n3 c3)++(obC o4 nilS (.slice a4 n4 c4)++(obC o5 nilS (.slice a5 n5 c5)++(obC o6 nilS (.slice a6 n6 c6))))))) 26 (fun _=>by kernel_rfl) ho fun b w1 ho=>?_;have ho:=OwnS.toU (b:=b) (cs:=obC o1 nilS (.slice a1 n1 c1)++(obC o2 nilS (.slice a2 n2 c2)++(obC o3 nilS (.slice a3 n3 c3)++(obC o4 nilS (.slice a4 n4 c4)++(obC o5 nilS (.slice a5 n5 c5)++(obC o6 nilS (.slice a6 n6 c6))))))) (E:=26) ho 6 6 6 rfl (by omega) (by omega);obtain⟨N,hle,hrow,ho⟩:=OwnS.freezeU ho jm hm;exact k b N w1 hle ⟨_,hrow,ovs_app (ovs_1 (h1.le hle)) (ovs_app (ovs_1 (h2.le hle)) (ovs_app (ovs_1 (h3.le hle)) (ovs_app (ovs_1 (h4.le hle)) (ovs_app (ovs_1 (h5.le hle)) (ovs_1 (h6.le hle))))))⟩ ho
theorem o_chn8 {o1:Ob}{a1:Option Addr}{n1 c1:Nat}{o2:Ob}{a2:Option Addr}{n2 c2:Nat}{o3:Ob}{a3:Option Addr}{n3 c3:Nat}{o4:Ob}{a4:Option Addr}{n4 c4:Nat}{o5:Ob}{a5:Option Addr}{n5 c5:Nat}{o6:Ob}{a6:Option Addr}{n6 c6:Nat}{o7:Ob}{a7:Option Addr}{n7 c7:Nat}{o8:Ob}{a8:Option Addr}{n8 c8:Nat}{M:Mem}(jm:Nat)(ho:OwnS S w0 w L)(hm:L[jm]?=some (.mem M))(h1:OV M.A M.w (obV o1 nilS (.slice a1 n1 c1)) o1)(h2:OV M.A M.w (obV o2 nilS (.slice a2 n2 c2)) o2)(h3:OV M.A M.w (obV o3 nilS (.slice a3 n3 c3)) o3)(h4:OV M.A M.w (obV o4 nilS (.slice a4 n4 c4)) o4)(h5:OV M.A M.w (obV o5 nilS (.slice a5 n5 c5)) o5)(h6:OV M.A M.w (obV o6 nilS (.slice a6 n6 c6)) o6)(h7:OV M.A M.w (obV o7 nilS (.slice a7 n7 c7)) o7)(h8:OV M.A M.w (obV o8 nilS (.slice a8 n8 c8)) o8)
  (k:∀(b:Nat) N W,M.le N→Chn N.A N.w (.slice (some ⟨b,0,none⟩) 8 8) [o1,o2,o3,o4,o5,o6,o7,o8]→OwnS S w0 W (L.set jm (.mem N))→K (.slice (some ⟨b,0,none⟩) 8 8) W):DoX prog (mBuildS 24 8 #[(0,obV o1 nilS (.slice a1 n1 c1)),(1,obV o2 nilS (.slice a2 n2 c2)),(2,obV o3 nilS (.slice a3 n3 c3)),(3,obV o4 nilS (.slice a4 n4 c4)),(4,obV o5 nilS (.slice a5 n5 c5)),(5,obV o6 nilS (.slice a6 n6 c6)),(6,obV o7 nilS (.slice a7 n7 c7)),(7,obV o8 nilS (.slice a8 n8 c8))]) w PK K:=by
 refine o_new (fun b=>.slice (some ⟨b,0,none⟩) 8 8) (obC o1 nilS (.slice a1 n1 c1)++(obC o2 nilS (.slice a2 n2 c2)++(obC o3 nilS (.slice a3 n3 c3)++(obC o4 nilS (.slice a4 n4 c4)++(obC o5 nilS (.slice a5 n5 c5)++(obC o6 nilS (.slice a6 n6 c6)++(obC o7 nilS (.slice a7 n7 c7)++(obC o8 nilS (.slice a8 n8 c8))))))))) 26 (fun _=>by kernel_rfl) ho fun b w1 ho=>?_;have ho:=OwnS.toU (b:=b) (cs:=obC o1 nilS (.slice a1 n1 c1)++(obC o2 nilS (.slice a2 n2 c2)++(obC o3 nilS (.slice a3 n3 c3)++(obC o4 nilS (.slice a4 n4 c4)++(obC o5 nilS (.slice a5 n5 c5)++(obC o6 nilS (.slice a6 n6 c6)++(obC o7 nilS (.slice a7 n7 c7)++(obC o8 nilS (.slice a8 n8 c8))))))))) (E:=26) ho 6 8 8 rfl (by omega) (by omega);obtain⟨N,hle,hrow,ho⟩:=OwnS.freezeU ho jm hm;exact k b N w1 hle ⟨_,hrow,ovs_app (ovs_1 (h1.le hle)) (ovs_app (ovs_1 (h2.le hle)) (ovs_app (ovs_1 (h3.le hle)) (ovs_app (ovs_1 (h4.le hle)) (ovs_app (ovs_1 (h5.le hle)) (ovs_app (ovs_1 (h6.le hle)) (ovs_app (ovs_1 (h7.le hle)) (ovs_1 (h8.le hle))))))))⟩ ho
end
theorem lbox_ret (a b c e:Int)(M:Mem)(w:World)(hM:M.has w):RetM prog 34 #[.int .i64 a,.int .i64 b,.int .i64 c,.int .i64 e] M w (fun r N=>∃p n m,r=obV (Pg.boxI a b c e) nilS (.slice p n m)∧Chn N.A N.w (.slice p n m) [Pg.intO a,Pg.intO b,Pg.intO c,Pg.intO e]):=by
 refine retM_of hM fun K hK=>S_foliantlaw35_box_ok ?_;unfold S_foliantlaw35_box;refine o_oba (OwnS.memS hM) fun b8 w1 ho=>?_;refine c_int35 a ho fun w2 ho=>c_int35 b ho fun w3 ho=>c_int35 c ho fun w4 ho=>c_int35 e ho fun w5 ho=>?_;refine o_chn4 1 ho rfl (leaf_ov M _ _ _ _) (leaf_ov M _ _ _ _) (leaf_ov M _ _ _ _) (leaf_ov M _ _ _ _) fun nb N w6 hle hc ho=>?_;refine c_arr35 [Pg.intO a,Pg.intO b,Pg.intO c,Pg.intO e] _ _ _ ho fun w7 ho=>?_;refine ob_put 0 rfl rfl ho rfl fun w8 ho=>?_;exact ret_obi 0 ho rfl (hK _ _ N _ 1 ho rfl hle ⟨_,_,_,rfl,hc⟩)
theorem ldict_ret (prs:List (List UInt8×Ob))(D:Ob)(hD:Vl.right (Pg.dictF prs)=(D,0))(v:Value)(M:Mem)(w:World)(hn:(prs.map (·.1)).Nodup)(h0:∀p∈prs,p.2.k≠0)(hl:prs.length≤1000)(hw:Pg.wtP prs≤100000000)(hM:M.has w)(hc:Chn M.A M.w v (Pg.flat prs)) :
  RetM prog 53 #[v] M w (fun r N=>OV N.A N.w r D):=by
 refine retM_of hM fun K hK=>S_foliantlaw35_dict_ok ?_;unfold S_foliantlaw35_dict;refine o_oba (OwnS.memS hM) fun b2 w1 ho=>?_;refine c_mem ho 1 rfl (rdict5_ret prs v M w1 hn h0 hl hw (ho.hasM 1 rfl) hc) ?_;rintro _ N w2 hle ⟨y,rfl,hy⟩ ho;rw[hD] at hy;obtain⟨yk,yc,ycs,rfl,hya⟩:=hy.open;simp only[errV,ex];refine o_oba ho fun b3 w3 ho=>?_;refine ob_put 0 hya.keys.one hya.kids.one ho rfl fun w4 ho=>?_;rw[ob_v ho 0 rfl];refine ob_put 1 hya.keys.one hya.kids.one ho rfl fun w5 ho=>?_;exact ret_obi 1 ho rfl (hK _ _ N _ 2 ho rfl hle hy)
def rootP:List (List UInt8×Ob):=[(Dk.typeK,Pg.nameO Pg.catN),(Pg.pagesN,Pg.refO 2)]
def treeP:List (List UInt8×Ob):=[(Dk.typeK,Pg.nameO Pg.pagesN),(Pg.kidsK,Pg.arrO [Pg.refO 3,Pg.refO 4]),(Pg.mediaK,Pg.boxI 3 4 1 2)]
def oneP:List (List UInt8×Ob):=[(Dk.typeK,Pg.nameO Pg.pageN),(Pg.conK,Pg.conS)]
def twoP:List (List UInt8×Ob):=[(Dk.typeK,Pg.nameO Pg.pageN),(Pg.mediaK,Pg.boxI 0 0 9 9),(Pg.cropK,Pg.boxI 5 5 20 20),(Pg.rotK,Pg.intO (-90))]
def trP:List (List UInt8×Ob):=[(Dk.rootK,Pg.refO 1)]
theorem rootP_ok:Vl.right (Pg.dictF rootP)=(Pg.rootO,0):=by kernel_rfl
theorem treeP_ok:Vl.right (Pg.dictF treeP)=(Pg.treeO,0):=by kernel_rfl
theorem oneP_ok:Vl.right (Pg.dictF oneP)=(Pg.oneO Pg.conS,0):=by kernel_rfl
theorem twoP_ok:Vl.right (Pg.dictF twoP)=(Pg.twoO,0):=by kernel_rfl
theorem trP_ok:Vl.right (Pg.dictF trP)=(Pg.trO,0):=by kernel_rfl
end
section
open Eng Go.RowKit
theorem rootP_k:∀p∈rootP,p.2.k≠0:=by decide
theorem treeP_k:∀p∈treeP,p.2.k≠0:=by decide
theorem oneP_k:∀p∈oneP,p.2.k≠0:=by decide
theorem twoP_k:∀p∈twoP,p.2.k≠0:=by decide
theorem trP_k:∀p∈trP,p.2.k≠0:=by decide
theorem ov_forms {A:Nat→Prop}{w:World}{o:Ob}{vk vc:Value}(h:OV A w (obV o vk vc) o):∃a n c a2 n2 c2,vk=.slice a n c∧vc=.slice a2 n2 c2:=by
 obtain⟨cs,ha⟩:=h.slices;obtain⟨a,c,rfl,_⟩:=ha.keys.form;obtain⟨a2,c2,rfl,_⟩:=ha.kids.form;exact⟨_,_,_,_,_,_,rfl,rfl⟩
section
variable {w:World}{PK:PKT}{K:VWP}{S:Nat→Prop}{w0:World}{L:List Ent}
theorem c_dict35 (prs:List (List UInt8×Ob))(D:Ob)(hD:Vl.right (Pg.dictF prs)=(D,0))(hn:(prs.map (·.1)).Nodup)(h0:∀p∈prs,p.2.k≠0)(hl:prs.length≤1000)(hw:Pg.wtP prs≤100000000){v:Value}{M:Mem}(jm:Nat)(ho:OwnS S w0 w L)(hm:L[jm]?=some (.mem M))(hc:Chn M.A M.w v (Pg.flat prs))
  (k:∀N a n c a2 n2 c2 W,M.le N→OV N.A N.w (obV D (.slice a n c) (.slice a2 n2 c2)) D→OwnS S w0 W (L.set jm (.mem N))→K (obV D (.slice a n c) (.slice a2 n2 c2)) W):CallX prog 53 #[v] w PK K:=by
 refine c_mem ho jm hm (ldict_ret prs D hD v M w hn h0 hl hw (ho.hasM jm hm) hc) fun y N w1 hle hy ho=>?_;obtain⟨yk,yc,ycs,rfl,hya⟩:=hy.open;obtain⟨a,n,c,a2,n2,c2,rfl,rfl⟩:=ov_forms hy;exact k N a n c a2 n2 c2 w1 hle hy ho
theorem c_box35 (a b c e:Int){M:Mem}(jm:Nat)(ho:OwnS S w0 w L)(hm:L[jm]?=some (.mem M))
  (k:∀N p n m W,M.le N→OV N.A N.w (obV (Pg.boxI a b c e) nilS (.slice p n m)) (Pg.boxI a b c e)→OwnS S w0 W (L.set jm (.mem N))→K (obV (Pg.boxI a b c e) nilS (.slice p n m)) W):CallX prog 34 #[.int .i64 a,.int .i64 b,.int .i64 c,.int .i64 e] w PK K:=by
 refine c_mem ho jm hm (lbox_ret a b c e M w (ho.hasM jm hm)) ?_;rintro _ N w1 hle ⟨p,n,m,rfl,hc⟩ ho;exact k N p n m w1 hle (arr_ov hc) ho
theorem o_items5 {k1:Option Addr}{x1 y1:Nat}{l1:Option Addr}{u1 v1:Nat}{k2:Option Addr}{x2 y2:Nat}{l2:Option Addr}{u2 v2:Nat}{k3:Option Addr}{x3 y3:Nat}{l3:Option Addr}{u3 v3:Nat}{k4:Option Addr}{x4 y4:Nat}{l4:Option Addr}{u4 v4:Nat}{M:Mem}(jm:Nat)(ho:OwnS S w0 w L)(hm:L[jm]?=some (.mem M))(h1:OV M.A M.w (obV Pg.rootO (.slice k1 x1 y1) (.slice l1 u1 v1)) Pg.rootO)(h2:OV M.A M.w (obV Pg.treeO (.slice k2 x2 y2) (.slice l2 u2 v2)) Pg.treeO)(h3:OV M.A M.w (obV (Pg.oneO Pg.conS) (.slice k3 x3 y3) (.slice l3 u3 v3)) (Pg.oneO Pg.conS))(h4:OV M.A M.w (obV Pg.twoO (.slice k4 x4 y4) (.slice l4 u4 v4)) Pg.twoO)
  (k:∀(b:Nat) N W (ics:List Value),M.le N→SlA N.A N.w (.slice (some ⟨b,0,none⟩) 5 5) 8 5 ics→IVs N.A N.w ics Pg.docS.items→OwnS S w0 W (L.set jm (.mem N))→K (.slice (some ⟨b,0,none⟩) 5 5) W) :
  DoX prog (mBuildS 22 5 #[(0,itV ⟨1,0,Pg.rootO⟩ (.slice k1 x1 y1) (.slice l1 u1 v1)),(1,itV ⟨2,0,Pg.treeO⟩ (.slice k2 x2 y2) (.slice l2 u2 v2)),(2,itV ⟨3,0,Pg.oneO Pg.conS⟩ (.slice k3 x3 y3) (.slice l3 u3 v3)),(3,itV ⟨4,0,Pg.twoO⟩ (.slice k4 x4 y4) (.slice l4 u4 v4)),(4,itV ⟨5,0,Pg.strmO [113]⟩ nilS nilS)]) w PK K:=by
 refine o_new (fun b=>.slice (some ⟨b,0,none⟩) 5 5) (itC ⟨1,0,Pg.rootO⟩ (.slice k1 x1 y1) (.slice l1 u1 v1)++(itC ⟨2,0,Pg.treeO⟩ (.slice k2 x2 y2) (.slice l2 u2 v2)++(itC ⟨3,0,(Pg.oneO Pg.conS)⟩ (.slice k3 x3 y3) (.slice l3 u3 v3)++(itC ⟨4,0,Pg.twoO⟩ (.slice k4 x4 y4) (.slice l4 u4 v4)++(itC ⟨5,0,Pg.strmO [113]⟩ nilS nilS))))) 53 (fun _=>by kernel_rfl) ho fun b w1 ho=>?_;have ho:=OwnS.toU (b:=b) (cs:=itC ⟨1,0,Pg.rootO⟩ (.slice k1 x1 y1) (.slice l1 u1 v1)++(itC ⟨2,0,Pg.treeO⟩ (.slice k2 x2 y2) (.slice l2 u2 v2)++(itC ⟨3,0,(Pg.oneO Pg.conS)⟩ (.slice k3 x3 y3) (.slice l3 u3 v3)++(itC ⟨4,0,Pg.twoO⟩ (.slice k4 x4 y4) (.slice l4 u4 v4)++(itC ⟨5,0,Pg.strmO [113]⟩ nilS nilS))))) (E:=53) ho 8 5 5 rfl (by omega) (by omega);obtain⟨N,hle,hrow,ho⟩:=OwnS.freezeU ho jm hm;refine k b N w1 (itC ⟨1,0,Pg.rootO⟩ (.slice k1 x1 y1) (.slice l1 u1 v1)++(itC ⟨2,0,Pg.treeO⟩ (.slice k2 x2 y2) (.slice l2 u2 v2)++(itC ⟨3,0,(Pg.oneO Pg.conS)⟩ (.slice k3 x3 y3) (.slice l3 u3 v3)++(itC ⟨4,0,Pg.twoO⟩ (.slice k4 x4 y4) (.slice l4 u4 v4)++(itC ⟨5,0,Pg.strmO [113]⟩ nilS nilS))))) hle hrow ?_ ho;show Rws (itR N.A N.w) _ ([⟨1,0,Pg.rootO⟩,⟨2,0,Pg.treeO⟩,⟨3,0,Pg.oneO Pg.conS⟩,⟨4,0,Pg.twoO⟩,⟨5,0,Pg.strmO [113]⟩]:List It);exact .cons ⟨_,_,rfl,h1.le hle⟩ (.cons ⟨_,_,rfl,h2.le hle⟩ (.cons ⟨_,_,rfl,h3.le hle⟩ (.cons ⟨_,_,rfl,h4.le hle⟩ (Rws.snoc (cs:=[]) (xs:=[]) ⟨nilS,nilS,rfl,leaf_ov N _ _ _ _⟩ .nil))))
end
theorem run_mit {W:World}{n:Int}{o:Ob}{a:Option Addr}{x y:Nat}{b:Option Addr}{u v:Nat}:(mBuild 53 #[(0,.int .i64 n),(2,obV o (.slice a x y) (.slice b u v))]).run prog W=.ok (.value (itV ⟨n,0,o⟩ (.slice a x y) (.slice b u v))) W:=by kernel_rfl
theorem run_mstrm {W:World}:(mBuild 26 #[(0,.int .i64 9),(3,.string ⟨#[113]⟩)]).run prog W=.ok (.value (obV (Pg.strmO [113]) nilS nilS)) W:=by kernel_rfl
theorem run_mdoc {W:World}{o:Ob}{its:List It}{q:Option Addr}{r s:Nat}{a:Option Addr}{x y:Nat}{b:Option Addr}{u v:Nat}:(mBuild 28 #[(0,.slice q r s),(1,obV o (.slice a x y) (.slice b u v))]).run prog W=.ok (.value (dcV ⟨its,o⟩ (.slice q r s) (.slice a x y) (.slice b u v))) W:=by kernel_rfl
theorem lsample_ret (M:Mem)(w:World)(hM:M.has w):RetM prog 28 #[] M w (fun r N=>DV N.A N.w r Pg.docS):=by
 refine retM_of hM fun K hK=>S_foliantlaw35_sample_ok ?_;unfold S_foliantlaw35_sample;refine o_dca (OwnS.memS hM) fun b0 w1 ho=>?_;refine c_ref35 2 ho fun w2 ho=>?_;refine o_oba ho fun b1 w3 ho=>?_;refine ob_put 0 rfl rfl ho rfl fun w4 ho=>?_;have ho:OwnS M.A w w4 [obE b1 (Pg.refO 2) nilS nilS,dcE b0 Dk.dc0 nilS nilS nilS,.mem M]:=ho;have fin:∀{W:World} {N:Mem} {b2:Nat} {a:Option Addr} {n c:Nat} {a2:Option Addr} {n2 c2:Nat},M.le N→OV N.A N.w (obV Pg.rootO (.slice a n c) (.slice a2 n2 c2)) Pg.rootO→OwnS M.A w W [obE b2 Pg.rootO (.slice a n c) (.slice a2 n2 c2),obE b1 (Pg.refO 2) nilS nilS,dcE b0 Dk.dc0 nilS nilS nilS,.mem N]→S_foliantlaw35_sample_0 (.pointer (some ⟨b0,0,none⟩)) (.pointer (some ⟨b2,0,none⟩)) W K:=by
  intro W N b2 a n c a2 n2 c2 hle h1 ho;unfold S_foliantlaw35_sample_0;refine c_key35 Dk.typeK ho fun z1 ho=>c_key35 Pg.pagesN ho fun z2 ho=>c_key35 Pg.kidsK ho fun z3 ho=>c_ref35 3 ho fun z4 ho=>c_ref35 4 ho fun z5 ho=>?_;refine o_chn2 3 ho rfl (leaf_ov _ _ _ _ _) (leaf_ov _ _ _ _ _) fun nb1 Q1 z6 e1 hk1 ho=>?_;refine c_arr35 [Pg.refO 3,Pg.refO 4] _ _ _ ho fun z7 ho=>c_key35 Pg.mediaK ho fun z8 ho=>?_;refine c_box35 3 4 1 2 3 ho rfl fun Q2 p1 p2 p3 z9 e2 hb1 ho=>?_;refine o_chn6 3 ho rfl (leaf_ov _ _ _ _ _) (leaf_ov _ _ _ _ _) (leaf_ov _ _ _ _ _) ((arr_ov hk1).le e2) (leaf_ov _ _ _ _ _) hb1 fun nb2 Q3 z10 e3 hch ho=>?_;refine c_dict35 treeP Pg.treeO treeP_ok (by decide) treeP_k (by decide) (by decide +kernel) 3 ho rfl hch fun Q4 k2 x2 y2 l2 u2 v2 z11 e4 h2 ho=>?_;refine o_oba ho fun b3 z12 ho=>?_;refine ob_put 0 rfl rfl ho rfl fun z13 ho=>?_;have hc1:=((e1.trans e2).trans e3).trans e4;have ho:OwnS M.A w z13 [obE b3 Pg.treeO (.slice k2 x2 y2) (.slice l2 u2 v2),obE b2 Pg.rootO (.slice a n c) (.slice a2 n2 c2),obE b1 (Pg.refO 2) nilS nilS,dcE b0 Dk.dc0 nilS nilS nilS,.mem Q4]:=ho;refine c_key35 Dk.typeK ho fun z1 ho=>c_key35 Pg.pageN ho fun z2 ho=>c_key35 Pg.conK ho fun z3 ho=>c_ref35 5 ho fun z4 ho=>c_ref35 5 ho fun z5 ho=>?_;refine o_chn2 4 ho rfl (leaf_ov _ _ _ _ _) (leaf_ov _ _ _ _ _) fun nb3 Q5 z6 e5 hk2 ho=>?_;refine c_arr35 [Pg.refO 5,Pg.refO 5] _ _ _ ho fun z7 ho=>?_;refine o_chn4 4 ho rfl (leaf_ov _ _ _ _ _) (leaf_ov _ _ _ _ _) (leaf_ov _ _ _ _ _) (arr_ov hk2) fun nb4 Q6 z10 e6 hch ho=>?_;refine c_dict35 oneP (Pg.oneO Pg.conS) oneP_ok (by decide) oneP_k (by decide) (by decide +kernel) 4 ho rfl hch fun Q7 k3 x3 y3 l3 u3 v3 z11 e7 h3 ho=>?_;refine o_oba ho fun b4 z12 ho=>?_;refine ob_put 0 rfl rfl ho rfl fun z13 ho=>?_;have hc2:=(e5.trans e6).trans e7;have ho:OwnS M.A w z13 [obE b4 (Pg.oneO Pg.conS) (.slice k3 x3 y3) (.slice l3 u3 v3),obE b3 Pg.treeO (.slice k2 x2 y2) (.slice l2 u2 v2),obE b2 Pg.rootO (.slice a n c) (.slice a2 n2 c2),obE b1 (Pg.refO 2) nilS nilS,dcE b0 Dk.dc0 nilS nilS nilS,.mem Q7]:=ho;refine c_key35 Dk.typeK ho fun z1 ho=>c_key35 Pg.pageN ho fun z2 ho=>c_key35 Pg.mediaK ho fun z3 ho=>?_;refine c_box35 0 0 9 9 5 ho rfl fun Q8 q1 q2 q3 z4 e8 hb2 ho=>?_;refine c_key35 Pg.cropK ho fun z5 ho=>?_;refine c_box35 5 5 20 20 5 ho rfl fun Q9 r1 r2 r3 z6 e9 hb3 ho=>?_;refine c_key35 Pg.rotK ho fun z7 ho=>c_int35 (-90) ho fun z8 ho=>?_;refine o_chn8 5 ho rfl (leaf_ov _ _ _ _ _) (leaf_ov _ _ _ _ _) (leaf_ov _ _ _ _ _) (hb2.le e9) (leaf_ov _ _ _ _ _) hb3 (leaf_ov _ _ _ _ _) (leaf_ov _ _ _ _ _) fun nb5 Q10 z9 e10 hch ho=>?_;refine c_dict35 twoP Pg.twoO twoP_ok (by decide) twoP_k (by decide) (by decide +kernel) 5 ho rfl hch fun Q11 k4 x4 y4 l4 u4 v4 z11 e11 h4 ho=>?_;refine o_oba ho fun b5 z12 ho=>?_;refine ob_put 0 rfl rfl ho rfl fun z13 ho=>?_;have hc3:=((e8.trans e9).trans e10).trans e11;have ho:OwnS M.A w z13 [obE b5 Pg.twoO (.slice k4 x4 y4) (.slice l4 u4 v4),obE b4 (Pg.oneO Pg.conS) (.slice k3 x3 y3) (.slice l3 u3 v3),obE b3 Pg.treeO (.slice k2 x2 y2) (.slice l2 u2 v2),obE b2 Pg.rootO (.slice a n c) (.slice a2 n2 c2),obE b1 (Pg.refO 2) nilS nilS,dcE b0 Dk.dc0 nilS nilS nilS,.mem Q11]:=ho
  replace h1:=h1.le ((hc1.trans hc2).trans hc3)
  replace h2:=h2.le (hc2.trans hc3)
  replace h3:=h3.le hc3
  have ho:=ho.drew;have hcum:=Q11.le_refl;have hbase:=hle.trans ((hc1.trans hc2).trans hc3);have done:∀{W:World} {PK:PKT} {P:Mem} {vb:Nat} {ics:List Value} {ta:Option Addr} {tn tc:Nat} {ta2:Option Addr} {tn2 tc2:Nat},Q11.le P→SlA P.A P.w (.slice (some ⟨vb,0,none⟩) 5 5) 8 5 ics→IVs P.A P.w ics Pg.docS.items→OV P.A P.w (obV Pg.trO (.slice ta tn tc) (.slice ta2 tn2 tc2)) Pg.trO →
    OwnS M.A w W [obE b5 Pg.twoO (.slice k4 x4 y4) (.slice l4 u4 v4),obE b4 (Pg.oneO Pg.conS) (.slice k3 x3 y3) (.slice l3 u3 v3),obE b3 Pg.treeO (.slice k2 x2 y2) (.slice l2 u2 v2),obE b2 Pg.rootO (.slice a n c) (.slice a2 n2 c2),obE b1 (Pg.refO 2) nilS nilS,dcE b0 Dk.dc0 nilS nilS nilS,.mem P] →
    HDo prog (fun _=>True) (mBuild 28 #[(0,.slice (some ⟨vb,0,none⟩) 5 5),(1,obV Pg.trO (.slice ta tn tc) (.slice ta2 tn2 tc2))]) fun t58=>DoX prog (mStore 28 (.pointer (some ⟨b0,0,none⟩)) t58) W PK fun _ w=>S_foliantlaw35_sample_1 (.pointer (some ⟨b0,0,none⟩)) w K:=by
   intro W PK P vb ics ta tn tc ta2 tn2 tc2 hp hsl hall hy ho;refine hd_pure _ (fun _=>run_mdoc (its:=Pg.docS.items)) ?_;refine dc_put 5 rfl rfl rfl ho rfl fun w9 ho=>?_;unfold S_foliantlaw35_sample_1;exact ret_dc 5 ho rfl (hK _ _ P _ 6 ho rfl (hbase.trans hp) ⟨_,_,_,_,rfl,hsl,hall,hy⟩)
  refine⟨fun W=>(obE b2 Pg.rootO (.slice a n c) (.slice a2 n2 c2)).is W∧(obE b3 Pg.treeO (.slice k2 x2 y2) (.slice l2 u2 v2)).is W∧(obE b4 (Pg.oneO Pg.conS) (.slice k3 x3 y3) (.slice l3 u3 v3)).is W∧(obE b5 Pg.twoO (.slice k4 x4 y4) (.slice l4 u4 v4)).is W,⟨ho.at_ 3 rfl,ho.at_ 2 rfl,ho.at_ 1 rfl,ho.at_ 0 rfl⟩,?_⟩;refine hd_do _ (fun W h=>run_obload h.1) (hd_pure _ (fun _=>run_mit) ?_);refine hd_do _ (fun W h=>run_obload h.2.1) (hd_pure _ (fun _=>run_mit) ?_);refine hd_do _ (fun W h=>run_obload h.2.2.1) (hd_pure _ (fun _=>run_mit) ?_);refine hd_do _ (fun W h=>run_obload h.2.2.2) (hd_pure _ (fun _=>run_mit) ?_);refine hd_pure _ (fun _=>run_mstrm) (hd_pure _ (fun _=>run_mit) ?_);constructor
  ·skip
   refine o_items5 6 ho rfl (h1.le hcum) (h2.le hcum) (h3.le hcum) (h4.le hcum) fun vb P41 w38 icsP41 hl39 hsl hall ho=>?_;have hm40:=hcum.trans hl39;refine⟨⟨ho.at_ 3 rfl,ho.at_ 2 rfl,ho.at_ 1 rfl,ho.at_ 0 rfl⟩,?_⟩;refine c_key35 Dk.rootK ho fun w42 ho=>?_;refine⟨⟨ho.at_ 3 rfl,ho.at_ 2 rfl,ho.at_ 1 rfl,ho.at_ 0 rfl⟩,?_⟩;refine c_ref35 1 ho fun w43 ho=>?_;refine⟨⟨ho.at_ 3 rfl,ho.at_ 2 rfl,ho.at_ 1 rfl,ho.at_ 0 rfl⟩,?_⟩;refine o_chn2 6 ho rfl (leaf_ov _ _ _ _ _) (leaf_ov _ _ _ _ _) fun nb P47 w44 hl45 hch ho=>?_;have hm46:=hm40.trans hl45;have hsl:=hsl.le hl45;have hall:=IVs.le hl45 hall;refine⟨⟨ho.at_ 3 rfl,ho.at_ 2 rfl,ho.at_ 1 rfl,ho.at_ 0 rfl⟩,?_⟩;refine c_dict35 trP Pg.trO trP_ok (by decide) trP_k (by decide) (by decide +kernel) 6 ho rfl hch fun P51 ta tn tc ta2 tn2 tc2 w48 hl49 hy ho=>?_;have hm50:=hm46.trans hl49;have hsl:=hsl.le hl49;have hall:=IVs.le hl49 hall;refine⟨⟨ho.at_ 3 rfl,ho.at_ 2 rfl,ho.at_ 1 rfl,ho.at_ 0 rfl⟩,?_⟩;exact done hm50 hsl hall hy ho
  ·skip
   refine c_key35 Dk.rootK ho fun w52 ho=>?_;refine⟨⟨ho.at_ 3 rfl,ho.at_ 2 rfl,ho.at_ 1 rfl,ho.at_ 0 rfl⟩,?_⟩;constructor
   ·skip
    refine o_items5 6 ho rfl (h1.le hcum) (h2.le hcum) (h3.le hcum) (h4.le hcum) fun vb P56 w53 icsP56 hl54 hsl hall ho=>?_;have hm55:=hcum.trans hl54;refine⟨⟨ho.at_ 3 rfl,ho.at_ 2 rfl,ho.at_ 1 rfl,ho.at_ 0 rfl⟩,?_⟩;refine c_ref35 1 ho fun w57 ho=>?_;refine⟨⟨ho.at_ 3 rfl,ho.at_ 2 rfl,ho.at_ 1 rfl,ho.at_ 0 rfl⟩,?_⟩;refine o_chn2 6 ho rfl (leaf_ov _ _ _ _ _) (leaf_ov _ _ _ _ _) fun nb P61 w58 hl59 hch ho=>?_;have hm60:=hm55.trans hl59;have hsl:=hsl.le hl59;have hall:=IVs.le hl59 hall;refine⟨⟨ho.at_ 3 rfl,ho.at_ 2 rfl,ho.at_ 1 rfl,ho.at_ 0 rfl⟩,?_⟩;refine c_dict35 trP Pg.trO trP_ok (by decide) trP_k (by decide) (by decide +kernel) 6 ho rfl hch fun P65 ta tn tc ta2 tn2 tc2 w62 hl63 hy ho=>?_;have hm64:=hm60.trans hl63;have hsl:=hsl.le hl63;have hall:=IVs.le hl63 hall;refine⟨⟨ho.at_ 3 rfl,ho.at_ 2 rfl,ho.at_ 1 rfl,ho.at_ 0 rfl⟩,?_⟩;exact done hm64 hsl hall hy ho
   ·skip
    refine c_ref35 1 ho fun w66 ho=>?_;refine⟨⟨ho.at_ 3 rfl,ho.at_ 2 rfl,ho.at_ 1 rfl,ho.at_ 0 rfl⟩,?_⟩;constructor
    ·skip
     refine o_items5 6 ho rfl (h1.le hcum) (h2.le hcum) (h3.le hcum) (h4.le hcum) fun vb P70 w67 icsP70 hl68 hsl hall ho=>?_;have hm69:=hcum.trans hl68;refine⟨⟨ho.at_ 3 rfl,ho.at_ 2 rfl,ho.at_ 1 rfl,ho.at_ 0 rfl⟩,?_⟩;refine o_chn2 6 ho rfl (leaf_ov _ _ _ _ _) (leaf_ov _ _ _ _ _) fun nb P74 w71 hl72 hch ho=>?_;have hm73:=hm69.trans hl72;have hsl:=hsl.le hl72;have hall:=IVs.le hl72 hall;refine⟨⟨ho.at_ 3 rfl,ho.at_ 2 rfl,ho.at_ 1 rfl,ho.at_ 0 rfl⟩,?_⟩;refine c_dict35 trP Pg.trO trP_ok (by decide) trP_k (by decide) (by decide +kernel) 6 ho rfl hch fun P78 ta tn tc ta2 tn2 tc2 w75 hl76 hy ho=>?_;have hm77:=hm73.trans hl76;have hsl:=hsl.le hl76;have hall:=IVs.le hl76 hall;refine⟨⟨ho.at_ 3 rfl,ho.at_ 2 rfl,ho.at_ 1 rfl,ho.at_ 0 rfl⟩,?_⟩;exact done hm77 hsl hall hy ho
    ·skip
     refine o_chn2 6 ho rfl (leaf_ov _ _ _ _ _) (leaf_ov _ _ _ _ _) fun nb P82 w79 hl80 hch ho=>?_;have hm81:=hcum.trans hl80;refine⟨⟨ho.at_ 3 rfl,ho.at_ 2 rfl,ho.at_ 1 rfl,ho.at_ 0 rfl⟩,?_⟩;constructor
     ·skip
      refine o_items5 6 ho rfl (h1.le hm81) (h2.le hm81) (h3.le hm81) (h4.le hm81) fun vb P86 w83 icsP86 hl84 hsl hall ho=>?_;have hm85:=hm81.trans hl84;have hch:=hch.le hl84;refine⟨⟨ho.at_ 3 rfl,ho.at_ 2 rfl,ho.at_ 1 rfl,ho.at_ 0 rfl⟩,?_⟩;refine c_dict35 trP Pg.trO trP_ok (by decide) trP_k (by decide) (by decide +kernel) 6 ho rfl hch fun P90 ta tn tc ta2 tn2 tc2 w87 hl88 hy ho=>?_;have hm89:=hm85.trans hl88;have hsl:=hsl.le hl88;have hall:=IVs.le hl88 hall;refine⟨⟨ho.at_ 3 rfl,ho.at_ 2 rfl,ho.at_ 1 rfl,ho.at_ 0 rfl⟩,?_⟩;exact done hm89 hsl hall hy ho
     ·skip
      refine c_dict35 trP Pg.trO trP_ok (by decide) trP_k (by decide) (by decide +kernel) 6 ho rfl hch fun P94 ta tn tc ta2 tn2 tc2 w91 hl92 hy ho=>?_;have hm93:=hm81.trans hl92;refine⟨⟨ho.at_ 3 rfl,ho.at_ 2 rfl,ho.at_ 1 rfl,ho.at_ 0 rfl⟩,?_⟩;refine o_items5 6 ho rfl (h1.le hm93) (h2.le hm93) (h3.le hm93) (h4.le hm93) fun vb P98 w95 icsP98 hl96 hsl hall ho=>?_;have hm97:=hm93.trans hl96;have hy:=hy.le hl96;refine⟨⟨ho.at_ 3 rfl,ho.at_ 2 rfl,ho.at_ 1 rfl,ho.at_ 0 rfl⟩,?_⟩;exact done hm97 hsl hall hy ho
 have ho:=ho.drew;refine⟨fun W=>(obE b1 (Pg.refO 2) nilS nilS).is W,ho.at_ 0 rfl,?_⟩;refine hd_do _ (fun W h=>run_obload h) ?_;constructor
 ·skip
  refine c_key35 Dk.typeK ho fun w1 ho=>?_;refine⟨ho.at_ 0 rfl,?_⟩;constructor
  ·skip
   refine c_key35 Pg.catN ho fun w2 ho=>?_;refine⟨ho.at_ 0 rfl,?_⟩;constructor
   ·skip
    refine c_key35 Pg.pagesN ho fun w3 ho=>?_;refine⟨ho.at_ 0 rfl,?_⟩;constructor
    ·skip
     refine o_chn4 2 ho rfl (leaf_ov _ _ _ _ _) (leaf_ov _ _ _ _ _) (leaf_ov _ _ _ _ _) (leaf_ov _ _ _ _ _) fun nb N1 w4 hle1 hch ho=>?_;constructor
     ·skip
      refine c_dict35 rootP Pg.rootO rootP_ok (by decide) rootP_k (by decide) (by decide +kernel) 2 ho rfl hch fun N2 a n c a2 n2 c2 w6 hle2 hy ho=>?_;refine⟨ho.at_ 0 rfl,?_⟩;refine o_oba ho fun b2 w7 ho=>?_;refine⟨ho.at_ 1 rfl,?_⟩;refine ob_put 0 rfl rfl ho rfl fun w8 ho=>?_;exact fin (hle1.trans hle2) hy ho
     ·skip
      refine o_oba ho fun b2 w9 ho=>?_;refine⟨ho.at_ 1 rfl,?_⟩;refine c_dict35 rootP Pg.rootO rootP_ok (by decide) rootP_k (by decide) (by decide +kernel) 3 ho rfl hch fun N2 a n c a2 n2 c2 w10 hle2 hy ho=>?_;refine⟨ho.at_ 1 rfl,?_⟩;refine ob_put 0 rfl rfl ho rfl fun w11 ho=>?_;exact fin (hle1.trans hle2) hy ho
    ·skip
     refine o_oba ho fun b2 w12 ho=>?_;refine⟨ho.at_ 1 rfl,?_⟩;refine o_chn4 3 ho rfl (leaf_ov _ _ _ _ _) (leaf_ov _ _ _ _ _) (leaf_ov _ _ _ _ _) (leaf_ov _ _ _ _ _) fun nb N1 w13 hle1 hch ho=>?_;refine c_dict35 rootP Pg.rootO rootP_ok (by decide) rootP_k (by decide) (by decide +kernel) 3 ho rfl hch fun N2 a n c a2 n2 c2 w15 hle2 hy ho=>?_;refine⟨ho.at_ 1 rfl,?_⟩;refine ob_put 0 rfl rfl ho rfl fun w16 ho=>?_;exact fin (hle1.trans hle2) hy ho
   ·skip
    refine o_oba ho fun b2 w17 ho=>?_;refine⟨ho.at_ 1 rfl,?_⟩;refine c_key35 Pg.pagesN ho fun w18 ho=>?_;refine⟨ho.at_ 1 rfl,?_⟩;refine o_chn4 3 ho rfl (leaf_ov _ _ _ _ _) (leaf_ov _ _ _ _ _) (leaf_ov _ _ _ _ _) (leaf_ov _ _ _ _ _) fun nb N1 w19 hle1 hch ho=>?_;refine c_dict35 rootP Pg.rootO rootP_ok (by decide) rootP_k (by decide) (by decide +kernel) 3 ho rfl hch fun N2 a n c a2 n2 c2 w21 hle2 hy ho=>?_;refine⟨ho.at_ 1 rfl,?_⟩;refine ob_put 0 rfl rfl ho rfl fun w22 ho=>?_;exact fin (hle1.trans hle2) hy ho
  ·skip
   refine o_oba ho fun b2 w23 ho=>?_;refine⟨ho.at_ 1 rfl,?_⟩;refine c_key35 Pg.catN ho fun w24 ho=>?_;refine⟨ho.at_ 1 rfl,?_⟩;refine c_key35 Pg.pagesN ho fun w25 ho=>?_;refine⟨ho.at_ 1 rfl,?_⟩;refine o_chn4 3 ho rfl (leaf_ov _ _ _ _ _) (leaf_ov _ _ _ _ _) (leaf_ov _ _ _ _ _) (leaf_ov _ _ _ _ _) fun nb N1 w26 hle1 hch ho=>?_;refine c_dict35 rootP Pg.rootO rootP_ok (by decide) rootP_k (by decide) (by decide +kernel) 3 ho rfl hch fun N2 a n c a2 n2 c2 w28 hle2 hy ho=>?_;refine⟨ho.at_ 1 rfl,?_⟩;refine ob_put 0 rfl rfl ho rfl fun w29 ho=>?_;exact fin (hle1.trans hle2) hy ho
 ·skip
  refine o_oba ho fun b2 w30 ho=>?_;refine⟨ho.at_ 1 rfl,?_⟩;refine c_key35 Dk.typeK ho fun w31 ho=>?_;refine⟨ho.at_ 1 rfl,?_⟩;refine c_key35 Pg.catN ho fun w32 ho=>?_;refine⟨ho.at_ 1 rfl,?_⟩;refine c_key35 Pg.pagesN ho fun w33 ho=>?_;refine⟨ho.at_ 1 rfl,?_⟩;refine o_chn4 3 ho rfl (leaf_ov _ _ _ _ _) (leaf_ov _ _ _ _ _) (leaf_ov _ _ _ _ _) (leaf_ov _ _ _ _ _) fun nb N1 w34 hle1 hch ho=>?_;refine c_dict35 rootP Pg.rootO rootP_ok (by decide) rootP_k (by decide) (by decide +kernel) 3 ho rfl hch fun N2 a n c a2 n2 c2 w36 hle2 hy ho=>?_;refine⟨ho.at_ 1 rfl,?_⟩;refine ob_put 0 rfl rfl ho rfl fun w37 ho=>?_;exact fin (hle1.trans hle2) hy ho
end
section
open Eng Go.RowKit
theorem eqRc:eqT prog 43 [(0,false),(1,false),(2,false),(3,false)]:=⟨by kernel_rfl,by kernel_rfl,by kernel_rfl,by kernel_rfl⟩
theorem e_rcs {xo yo:Operand}{r:Rc}{w:World}{PK:PKT}{K:VWP}:DoX prog (mEq .eql 43 xo yo (rcV r) (rcV r)) w PK K=K (.bool true) w:=by
 refine do_eq ?_;have:=run_eql_agg (P:=prog) (w:=w) (xo:=xo) (yo:=yo) eqRc (xs:=(rcC r).toArray) (ys:=(rcC r).toArray) rfl;rw[show ([(0,false),(1,false),(2,false),(3,false)]:List (Nat×Bool)).all (fun p=>cellEq (rcC r).toArray[p.1]? (rcC r).toArray[p.1]?)=true by simp[rcC,cellEq]] at this;exact this
theorem rsamepage_ret (p:Pge)(x y:Value)(M:Mem)(w:World)(hw:p.res.wt≤1000000000)(hM:M.has w)(hx:PV M.A M.w x p)(hy:PV M.A M.w y p) :
  Ret prog 21 #[x,y] w (fun v w'=>v=.bool true∧Below w.heap.size w w'):=by
 obtain⟨xk,xc,rfl,hxo⟩:=hx;obtain⟨yk,yc,rfl,hyo⟩:=hy;refine ret_of fun K hK=>S_foliantref35_SamePage_ok ?_;unfold S_foliantref35_SamePage;have ho:OwnS M.A w w [.mem M]:=OwnS.memS hM;refine o_pgb p hxo.oneK hxo.oneC ho fun b2 w1 ho=>?_;refine o_pgb p hyo.oneK hyo.oneC ho fun b3 w2 ho=>?_;rw[fa_pg0,pg_num ho 1 rfl,fa_pg0,pg_num ho 0 rfl];simp only[rs,decide_true,fa_pg1,pg_media ho 1 rfl,pg_media ho 0 rfl,e_rcs,fa_pg2,pg_crop ho 1 rfl,pg_crop ho 0 rfl,fa_pg3,pg_rot ho 1 rfl,pg_rot ho 0 rfl,fa_pg4,pg_res ho 1 rfl,pg_res ho 0 rfl];refine c_below ho (R:=fun v=>v=.bool (Ob.eqb p.res p.res)) (rsame5_ret p.res.wt p.res p.res _ _ w2 (Nat.le_refl _) hw (OV.inw (ho.hasM 2 rfl) hxo) (OV.inw (ho.hasM 2 rfl) hyo)) ?_;rintro _ w3 rfl ho;rw[Ob.eqb_iff p.res p.res |>.2 rfl]
 try simp only[rs]
 exact hK _ _ ⟨rfl,(ho.toGives 2 rfl M.le_refl hM).below⟩
def smallD (d:Dc):Bool:=decide (d.items.length≤40)&&decide (Dk.size d≤3000)
theorem lsmall_ret (d:Dc)(dv:Value)(M:Mem)(w:World)(hd:Dk.Ok d)(hsz:Dk.size d≤1000000000000)(hM:M.has w)(hdv:DV M.A M.w dv d) :
  RetM prog 8 #[dv] M w (fun r _=>r=.bool (smallD d)):=by
 have hdv0:=hdv;obtain⟨vi,tk,tc,dcs,rfl,hda⟩:=hdv;refine retM_of hM fun K hK=>S_foliantlaw35_small_ok ?_;unfold S_foliantlaw35_small;refine o_dcb d hda.items.one hda.trailer.oneK hda.trailer.oneC (OwnS.memS hM) fun b1 w1 ho=>?_;rw[fa_d0,dc_items ho 0 rfl,sl_len Tryz.underlying22 (hda.items.now (ho.hasM 1 rfl))];simp only[rs];by_cases h1:(d.items.length:Int)≤40
 ·simp only[h1,decide_true,rs,dc_v ho 0 rfl];refine c_below ho (R:=fun v=>v=.int .i64 (Dk.size d:Nat)) (rsizeD_ret d _ M w1 hd.len hd.items hd.trailer hsz (ho.hasM 1 rfl) hdv0) ?_;rintro _ w2 rfl ho;simp only[rs];refine hK _ _ M _ 1 ho rfl M.le_refl ?_;unfold smallD;rw[decide_eq_true (show d.items.length≤40 by omega),Bool.true_and]
  congr 1
  exact decide_eq_decide.2 (by omega)
 ·simp only[h1,decide_false,rs,g_un];refine hK _ _ M _ 1 ho rfl M.le_refl ?_;unfold smallD;rw[decide_eq_false (show ¬d.items.length≤40 by omega)];rfl
namespace Pg
theorem docS_ok:Dk.Ok docS:=by
 refine⟨by decide,fun i hi=>?_,by decide +kernel⟩;have:i∈[(⟨1,0,rootO⟩:It),⟨2,0,treeO⟩,⟨3,0,oneO conS⟩,⟨4,0,twoO⟩,⟨5,0,strmO [113]⟩]:=hi;simp only[List.mem_cons,List.not_mem_nil,or_false] at this;rcases this with rfl|rfl|rfl|rfl|rfl<;>decide +kernel
theorem docS_leaves:leaves docS=([⟨3,[oneO conS,treeO]⟩,⟨4,[twoO,treeO]⟩],0):=leaves_docT docS_check
theorem docS_get0:get docS 0=(pg1,0):=get1 docS_check
theorem docS_get1:get docS 1=(pg2,0):=get2 docS_check
theorem docS_get2:(get docS 2).2=8:=by
 unfold get at_;rw[docS_leaves];rfl
theorem docS_place4:place docS 4=(1,true):=by
 unfold place;rw[docS_leaves];rfl
theorem docS_place2:place docS 2=(0,false):=by
 unfold place;rw[docS_leaves];rfl
theorem docS_at0:(at_ docS 0).1=⟨3,[oneO conS,treeO]⟩:=by
 unfold at_;rw[docS_leaves];rfl
theorem docS_con:val docS (oneO conS) conK=conS:=by kernel_rfl
theorem docS_streams:streams docS conS=[strmO [113],strmO [113]]:=by kernel_rfl
theorem docS_rect:rect docS (intO 1)=(rc0,3):=rfl
theorem dc0_list:(list Dk.dc0).2=10:=by kernel_rfl
theorem dc0_ok:Dk.Ok Dk.dc0:=⟨by decide,fun i hi=>(by cases hi),by decide +kernel⟩
end Pg
end
section
open Eng Go.RowKit
theorem run_rcExt0 {W:World}{x:Rc×Int}:(mExt (rectV x) 0).run prog W=.ok (.value (rcV x.1)) W:=rfl
theorem run_rcExt1 {W:World}{x:Rc×Int}:(mExt (rectV x) 1).run prog W=.ok (.value (.int .i64 x.2)) W:=rfl
theorem lives35_ret (M:Mem)(w:World)(hM:M.has w):RetM prog 9 #[] M w (fun r N=>r=.bool true):=by
 refine retM_of hM fun K hK=>S_foliantlaw35_lives_ok ?_;unfold S_foliantlaw35_lives;have hd:=Pg.docS_ok;refine c_mem (OwnS.memS hM) 0 rfl (lsample_ret M w hM) ?_;rintro y N1 w1 g1 ⟨vi,tk,tc,dcs,rfl,hda⟩ ho;refine o_dca ho fun b1 w2 ho=>?_;refine dc_put 0 hda.items.one hda.trailer.oneK hda.trailer.oneC ho rfl fun w3 ho=>?_;have ho:OwnS M.A w w3 [dcE b1 Pg.docS vi tk tc,.mem N1]:=ho;rw[dc_v ho 0 rfl];refine c_mem ho 1 rfl (pcount_ret Pg.docS _ N1 w3 hd (ho.hasM 1 rfl) hda.dv) ?_;rintro _ N2 w4 g2 rfl ho;have hda:=hda.le g2;rw[Pg.docS_leaves];simp only[ex];rw[dc_v ho 0 rfl];refine c_mem ho 1 rfl (pget_ret Pg.docS 0 _ N2 w4 hd (ho.hasM 1 rfl) hda.dv) ?_;rintro _ N3 w5 g3 ⟨y0,rfl,hp0⟩ ho;have hda:=hda.le g3;rw[Pg.docS_get0] at hp0 ⊢;simp only[errV,ex];obtain⟨k0,c0,rfl,hp0⟩:=hp0;refine o_pga ho fun b4 w6 ho=>?_;refine pg_put 0 hp0.oneK hp0.oneC ho rfl fun w7 ho=>?_;rw[dc_v ho 1 rfl];refine c_mem ho 2 rfl (pget_ret Pg.docS 1 _ N3 w7 hd (ho.hasM 2 rfl) hda.dv) ?_;rintro _ N4 w8 g4 ⟨y1,rfl,hp1⟩ ho;have hda:=hda.le g4;rw[Pg.docS_get1] at hp1 ⊢;simp only[errV,ex];obtain⟨k1,c1,rfl,hp1⟩:=hp1;refine o_pga ho fun b6 w9 ho=>?_;refine pg_put 0 hp1.oneK hp1.oneC ho rfl fun w10 ho=>?_;rw[dc_v ho 2 rfl];refine c_mem ho 3 rfl (pget_ret Pg.docS 2 _ N4 w10 hd (ho.hasM 3 rfl) hda.dv) ?_;rintro _ N5 w11 g5 ⟨y2,rfl,hp2⟩ ho;have hda:=hda.le g5;rw[Pg.docS_get2];simp only[errV,ex];obtain⟨k2,c2,rfl,hp2⟩:=hp2;refine o_pga ho fun b8 w12 ho=>?_;refine pg_put 0 hp2.oneK hp2.oneC ho rfl fun w13 ho=>?_;have ho:=ho.tail;have ho:OwnS M.A w w13 [pgE b6 Pg.pg2 k1 c1,pgE b4 Pg.pg1 k0 c0,dcE b1 Pg.docS vi tk tc,.mem N5]:=ho;rw[dc_v ho 2 rfl];refine c_mem ho 3 rfl (pplace_ret Pg.docS 4 _ N5 w13 hd (ho.hasM 3 rfl) hda.dv) ?_;rintro _ N6 w14 g6 rfl ho;have hda:=hda.le g6;rw[Pg.docS_place4];simp only[ex];rw[dc_v ho 2 rfl];refine c_mem ho 3 rfl (pplace_ret Pg.docS 2 _ N6 w14 hd (ho.hasM 3 rfl) hda.dv) ?_;rintro _ N7 w15 g7 rfl ho;have hda:=hda.le g7;rw[Pg.docS_place2];simp only[ex];rw[dc_v ho 2 rfl];refine c_mem ho 3 rfl (pcontent_ret Pg.docS 0 _ N7 w15 hd (by rw[Pg.docS_get0]) ⟨3,[Pg.oneO Pg.conS,Pg.treeO]⟩ Pg.docS_at0 Pg.conS (Pg.oneO Pg.conS) [Pg.treeO] rfl Pg.docS_con (by decide)
  (by rw[Pg.docS_streams];decide) (by rw[Pg.docS_streams];decide) (by rw[Pg.docS_streams];decide) (ho.hasM 3 rfl) hda.dv) ?_
 rintro _ N8 w16 g8 rfl ho;have hda:=hda.le g8;rw[Pg.docS_streams];simp only[ex];have hle8:M.le N8:=g1.trans (g2.trans (g3.trans (g4.trans (g5.trans (g6.trans (g7.trans g8))))));have ho:OwnS M.A w w16 [pgE b6 Pg.pg2 k1 c1,pgE b4 Pg.pg1 k0 c0,dcE b1 Pg.docS vi tk tc,.mem N8]:=ho
 -- the tail
 have fin:∀{W:World} {N:Mem} {L:List Ent},N8.le N→OwnS M.A w W ([pgE b6 Pg.pg2 k1 c1,pgE b4 Pg.pg1 k0 c0,dcE b1 Pg.docS vi tk tc,.mem N]++L) →
   S_foliantlaw35_lives_0 (.int .i64 2) (.int .i64 0) (.pointer (some ⟨b4,0,none⟩)) (.int .i64 0) (.pointer (some ⟨b6,0,none⟩)) (.int .i64 0) (.int .i64 8) (.int .i64 1) (.bool true) (.bool false) (.string ⟨#[113,10,113]⟩) (.int .i64 0) (.int .i64 3) W K:=by
  intro W N L hle ho;unfold S_foliantlaw35_lives_0;rw[m_dc0];refine c_mem ho 3 rfl (plist_ret Dk.dc0 _ N W Pg.dc0_ok (ho.hasM 3 rfl) (dc0_at N).dv) ?_;rintro _ N9 w17 g9 ⟨v9,cs9,rfl,-,-⟩ ho;have ho:OwnS M.A w w17 ([pgE b6 Pg.pg2 k1 c1,pgE b4 Pg.pg1 k0 c0,dcE b1 Pg.docS vi tk tc,.mem N9]++L):=ho;rw[Pg.dc0_list];have es:∀{xo yo:Operand} {PK:PKT} {K:VWP},DoX prog (mEq .eql 9 xo yo (.string ⟨#[113,10,113]⟩) (.string ⟨#[113,10,113]⟩)) w17 PK K=K (.bool true) w17:=e_str (a:=[113,10,113]) (b:=[113,10,113]);simp only[errV,ex,rs,decide_true];rw[fa_pg0,pg_num ho 1 rfl];simp only[Pg.pg1,rs,decide_true];rw[fa_pg1,pg_media ho 1 rfl,m_rc];simp only[Pg.pg1,rs,e_rcs];rw[fa_pg2,pg_crop ho 1 rfl,fa_pg1,pg_media ho 1 rfl];simp only[Pg.pg1,rs,e_rcs,decide_true];rw[fa_pg2,pg_crop ho 0 rfl,m_rc];simp only[Pg.pg2,rs,e_rcs];rw[fa_pg3,pg_rot ho 0 rfl];simp only[Pg.pg2,rs,decide_true];rw[fa_pg4,fa_o0];rw[show DoX prog (mLoad 3 (.pointer (some ⟨b6,0+10,none⟩))) w17 (Eng.pk K)=_ from funext fun _=>l_cell nInt5 (ho.cell 0 rfl 10 rfl)];simp only[show decide (Pg.pg2.res.k=7)=true by decide,rs,decide_true,es,Bool.not_false];exact hK _ _ N9 _ 3 ho rfl (hle8.trans (hle.trans g9)) rfl
 have rt:∀{W:World} {N:Mem} {L:List Ent} {F:VWP} {PK:PKT} {xv:Value} (_:N8.le N) (_:OV N.A N.w xv (Pg.intO 1)) (i:Nat) (_:OwnS M.A w W L) (_:L[i]?=some (.mem N))
   (_:∀W N',N8.le N'→OwnS M.A w W (L.set i (.mem N'))→F (rectV (Pg.rc0,3)) W),CallX prog 18 #[dcV Pg.docS vi tk tc,xv] W PK F:=by
  intro W N L F PK xv hle hx i ho hi hF;refine c_mem ho i hi (prect_ret Pg.docS (Pg.intO 1) _ xv N W hd (by decide) (ho.hasM i hi) (hda.le hle).dv hx) ?_;rintro _ N' w' hle' rfl ho;rw[Pg.docS_rect];exact hF w' N' (hle.trans hle') ho
 have ho:=ho.drew;refine⟨fun W=>(dcE b1 Pg.docS vi tk tc).is W,ho.at_ 2 rfl,?_⟩;refine hd_do _ (fun W h=>run_dcv h) ?_
 -- the box and its first number
 have bx:∀{W:World} {N:Mem} {L:List Ent} {F:VWP} {PK:PKT} (_:N8.le N) (i:Nat) (_:OwnS M.A w W L) (_:L[i]?=some (.mem N))
   (_:∀W N' a n c xv p,N.le N'→OwnS M.A w W (L.set i (.mem N'))→OV N'.A N'.w xv (Pg.intO 1)→(∀W,(mIA 24 (.slice a n c) (.int .i64 0)).run prog W=.ok (.value (.pointer (some p))) W)→(∀W,N'.has W→(mLoad 26 (.pointer (some p))).run prog W=.ok (.value xv) W)→F (obV (Pg.boxI 1 2 3 4) nilS (.slice a n c)) W),
   CallX prog 34 #[.int .i64 1,.int .i64 2,.int .i64 3,.int .i64 4] W PK F:=by
  intro W N L F PK hle i ho hi hF;refine c_mem ho i hi (lbox_ret 1 2 3 4 N W (ho.hasM i hi)) ?_;rintro _ N' w1 hle' ⟨a,n,c,rfl,hc⟩ ho;obtain⟨xv,p,hx,r1,r2⟩:=chn_at hc (i:=0) (by decide);exact hF w1 N' a n c xv p hle' ho hx r1 r2
 have fld:∀{W:World} {a:Option Addr} {n c:Nat},(mFld 26 (obV (Pg.boxI 1 2 3 4) nilS (.slice a n c)) 5).run prog W=.ok (.value (.slice a n c)) W:=by intros;kernel_rfl
 constructor
 ·refine bx N8.le_refl 3 ho rfl fun W2 N2 a n c xv p hle2 ho hx r1 r2=>?_;have ho:OwnS M.A w W2 [pgE b6 Pg.pg2 k1 c1,pgE b4 Pg.pg1 k0 c0,dcE b1 Pg.docS vi tk tc,.mem N2]:=ho;refine⟨ho.at_ 2 rfl,hd_pure _ (fun _=>fld) (hd_pure _ r1 ?_)⟩;constructor
  ·refine do_eq (r2 W2 (ho.hasM 3 rfl)) |>.mpr ⟨ho.at_ 2 rfl,?_⟩;constructor
   ·refine rt hle2 hx 3 ho rfl fun W3 N3 hle3 ho=>?_;have ho:OwnS M.A w W3 [pgE b6 Pg.pg2 k1 c1,pgE b4 Pg.pg1 k0 c0,dcE b1 Pg.docS vi tk tc,.mem N3]:=ho;refine hd_pure _ (fun _=>run_rcExt0) (hd_pure _ (fun _=>run_rcExt1) ?_);refine o_rca ho fun b5 w5 ho=>⟨ho.at_ 3 rfl,?_⟩;refine rc_put 0 ho rfl fun w6 ho=>?_;exact fin (L:=[]) hle3 ho.tail
   ·refine o_rca ho fun b5 w5 ho=>⟨ho.at_ 3 rfl,?_⟩;refine rt hle2 hx 4 ho rfl fun W3 N3 hle3 ho=>?_;refine hd_pure _ (fun _=>run_rcExt0) (hd_pure _ (fun _=>run_rcExt1) ?_);refine rc_put 0 ho rfl fun w6 ho=>?_;exact fin (L:=[]) hle3 ho.tail
  ·refine o_rca ho fun b5 w5 ho=>⟨ho.at_ 3 rfl,?_⟩;refine do_eq (r2 w5 (ho.hasM 4 rfl)) |>.mpr ⟨ho.at_ 3 rfl,?_⟩;refine rt hle2 hx 4 ho rfl fun W3 N3 hle3 ho=>?_;refine hd_pure _ (fun _=>run_rcExt0) (hd_pure _ (fun _=>run_rcExt1) ?_);refine rc_put 0 ho rfl fun w6 ho=>?_;exact fin (L:=[]) hle3 ho.tail
 ·refine o_rca ho fun b5 w5 ho=>⟨ho.at_ 3 rfl,?_⟩;refine bx N8.le_refl 4 ho rfl fun W2 N2 a n c xv p hle2 ho hx r1 r2=>?_;have ho:OwnS M.A w W2 [rcE b5 Pg.rc0,pgE b6 Pg.pg2 k1 c1,pgE b4 Pg.pg1 k0 c0,dcE b1 Pg.docS vi tk tc,.mem N2]:=ho;refine⟨ho.at_ 3 rfl,hd_pure _ (fun _=>fld) (hd_pure _ r1 ?_)⟩;refine do_eq (r2 W2 (ho.hasM 4 rfl)) |>.mpr ⟨ho.at_ 3 rfl,?_⟩;refine rt hle2 hx 4 ho rfl fun W3 N3 hle3 ho=>?_;refine hd_pure _ (fun _=>run_rcExt0) (hd_pure _ (fun _=>run_rcExt1) ?_);refine rc_put 0 ho rfl fun w6 ho=>?_;exact fin (L:=[]) hle3 ho.tail
end
end Go.Proofs.YtoobidofdpdkbaaGreatDoor

namespace Go.Proofs.YtoobidofdpdkbaaGreatDoor
section
open Eng Go.RowKit
section
variable {B:Nat}{d:Dc}
theorem Pg.findB (hd:∀i∈d.items,i.obj.wt≤B){n:Int}{i:It}(h:Dk.find d.items n=some i):i.obj.wt≤B:=hd i (List.mem_of_find?_eq_some h)
theorem Pg.follow8_wtB (hd:∀i∈d.items,i.obj.wt≤B)(hB:6≤B){r:Ob}(h8:r.k=8):(Dk.follow d r).wt≤B:=by
 unfold Dk.follow;rw[if_neg (by simp[h8])];unfold Dk.pick;split
 ·rw[ob0_wt];omega
 ·rename_i i hi
  split
  ·rw[ob0_wt];omega
  ·exact Pg.findB hd hi
theorem Pg.follow_wtB (hd:∀i∈d.items,i.obj.wt≤B)(hB:6≤B){o:Ob}(hw:o.wt≤B):(Dk.follow d o).wt≤B:=by
 by_cases h8:o.k=8
 ·exact Pg.follow8_wtB hd hB h8
 ·rw[Pg.follow_id h8];exact hw
theorem Pg.path_wtB (hd:∀i∈d.items,i.obj.wt≤B)(hB:6≤B):∀(ks:List (List UInt8)) {o:Ob},o.wt≤B→(Dk.path d o ks).wt≤B
|[],o,ho=>ho
|k::ks,o,ho=>by
  rw[Dk.path];split
  ·rw[ob0_wt];omega
  ·rename_i v hv
   have:=Vl.got_wt hv;exact Pg.path_wtB hd hB ks (Pg.follow_wtB hd hB (by omega))
theorem Pg.node_chB (hd:Dk.Ok d)(hi:∀i∈d.items,i.obj.wt≤B)(hB:6≤B):∀(f:Nat) (r:Ob) (ab:List Ob) (s:Pw),f≤24→(∀a∈ab,a.wt≤B)→Pg.Bd s→(∀x∈s.pages,∀o∈x.chain,o.wt≤B)→∀x∈(Pg.node d f r ab s).1.pages,∀o∈x.chain,o.wt≤B:=by
 intro f
 induction f using Nat.strongRecOn with
|ind f ih=>
 intro r ab s hf ha hb hs;by_cases h:Pg.errN d f r s=0
 ·obtain⟨hbad,-,hml,hpl,g,hg,hn⟩:=Pg.node_go (ab:=ab) hb h;obtain⟨h8,h7,-⟩:=Pg.badN_ok hbad;have hw:=Pg.follow8_wtB hi hB h8;have hch:∀a∈Dk.follow d r::ab,a.wt≤B:=fun a hx=>by
   rcases List.mem_cons.1 hx with rfl|hx
   ·exact hw
   ·exact ha a hx
  rw[hn];split
  ·intro x hx;rcases List.mem_append.1 hx with hx|hx
   ·exact hs x hx
   ·have:x=⟨r.n,Dk.follow d r::ab⟩:=by simpa using hx
    rw[this];exact hch
  ·have step:∀(l:List Ob) (s:Pw),Pg.Bd s→(∀x∈s.pages,∀o∈x.chain,o.wt≤B)→∀x∈(Pg.foldE (fun k s=>Pg.node d g k (Dk.follow d r::ab) s) l s).1.pages,∀o∈x.chain,o.wt≤B:=by
    intro l
    induction l with
   |nil=>intro s _ h;exact h
   |cons k l ihl=>
     intro s hbs hss;have h1:=ih g (by omega) k (Dk.follow d r::ab) s (by omega) hch hbs hss;have h2:=Pg.node_bd (d:=d) g k (Dk.follow d r::ab) s (by omega) hbs;rw[Pg.foldE];split
     ·exact h1
     ·exact ihl _ h2 h1
   exact step _ _ ⟨by simp;omega,hb.pages⟩ hs
 ·rw[Pg.node_err hb h (by omega)];exact hs
theorem Pg.get_wtB (hd:Dk.Ok d)(hi:∀i∈d.items,i.obj.wt≤B)(hB:6≤B){n:Int}(h:(Pg.get d n).2=0):(Pg.get d n).1.res.wt≤B∧Pg.PgOk (Pg.get d n).1:=by
 obtain⟨ha,hg⟩:=Pg.get_ok h;obtain⟨h0,-,hn,hat⟩:=Pg.at_ok ha;rw[hg] at h ⊢;obtain⟨hok,-,-,hp⟩:=Pg.page_ok h;refine⟨?_,hok⟩;have hch:∀o∈(Pg.at_ d n).1.chain,o.wt≤B:=by
  rw[hat];have hm:=List.getElem_mem hn
  revert hm
  generalize (Pg.leaves d).1[n.toNat]=x;unfold Pg.leaves;split
  ·intro hm;cases hm
  split
  ·intro hm;cases hm
  ·intro hm;exact Pg.node_chB hd hi hB 24 _ [] ⟨[],[]⟩ (by omega) (fun a h=>by cases h) ⟨by simp,by simp⟩ (fun x hx=>by cases hx) x hm
 have inh:∀(l:List Ob),(∀o∈l,o.wt≤B)→(Pg.inh d l Pg.resK).wt≤B:=by
  intro l
  induction l with
 |nil=>intro _;rw[Pg.inh,ob0_wt];omega
 |cons o l ih=>
   intro hl;rw[Pg.inh];split
   ·exact Pg.path_wtB hi hB _ (hl o (List.mem_cons_self ..))
   ·exact ih fun x hx=>hl x (List.mem_cons_of_mem _ hx)
 rw[hp];show (if _ then _ else _:Ob).wt≤_;split
 ·exact inh _ hch
 ·have:Pg.dict0.wt=6:=by decide
  omega
end
theorem run_itobj {W:World}{b:Nat}{i:It}{vk vc:Value}(h:(itE b i vk vc).is W):(mLoad 26 (.pointer (some ⟨b,0+2,none⟩))).run prog W=.ok (.value (obV i.obj vk vc)) W:=
 run_load_at (AtV.agg aggOb (cs:=obC i.obj vk vc) rfl fun j v hj=>cells_cell (T:=53) (cs:=itC i vk vc) h (by rw[show (0+2+j)=j+2 by omega];exact hj))
theorem run_rc0 {W:World}{b:Nat}{r:Rc}(h:(rcE b r).is W):(mLoad 2 (.pointer (some ⟨b,0,none⟩))).run prog W=.ok (.value (.int .i64 r.x0)) W:=run_load_cell nI64p (cells_cell (T:=43) (cs:=rcC r) h rfl)
theorem run_rc1 {W:World}{b:Nat}{r:Rc}(h:(rcE b r).is W):(mLoad 2 (.pointer (some ⟨b,0+1,none⟩))).run prog W=.ok (.value (.int .i64 r.y0)) W:=run_load_cell nI64p (cells_cell (T:=43) (cs:=rcC r) h rfl)
theorem run_rc2 {W:World}{b:Nat}{r:Rc}(h:(rcE b r).is W):(mLoad 2 (.pointer (some ⟨b,0+2,none⟩))).run prog W=.ok (.value (.int .i64 r.x1)) W:=run_load_cell nI64p (cells_cell (T:=43) (cs:=rcC r) h rfl)
theorem run_rc3 {W:World}{b:Nat}{r:Rc}(h:(rcE b r).is W):(mLoad 2 (.pointer (some ⟨b,0+3,none⟩))).run prog W=.ok (.value (.int .i64 r.y1)) W:=run_load_cell nI64p (cells_cell (T:=43) (cs:=rcC r) h rfl)
theorem run_pgrot {W:World}{b:Nat}{p:Pge}{vk vc:Value}(h:(pgE b p vk vc).is W):(mLoad 3 (.pointer (some ⟨b,0+9,none⟩))).run prog W=.ok (.value (.int .i64 p.rotate)) W:=run_load_cell nInt5 (cells_cell (T:=48) (cs:=pgC p vk vc) h rfl)
theorem m_it3 {w:World}{PK:PKT}{K:VWP}{a g:Int}(o:Ob){vk vc:Value}(hk:vk.oneCell'=true)(hc:vc.oneCell'=true):DoX prog (mBuild 53 #[(0,.int .i64 a),(1,.int .i64 g),(2,obV o vk vc)]) w PK K=K (itV ⟨a,g,o⟩ vk vc) w:=by
 cases vk<;>first|(cases hk;done)|skip
 all_goals cases vc<;>first|(cases hc;done)|exact do_eq (by kernel_rfl)
theorem box_wt (m:Rc):(Pg.boxR m).wt≤100:=by show (100:Nat)≥_;simp[Pg.boxR,Pg.realO,Ob.wt,Ob.wts,Pl.tot]
theorem int_wt (n:Int):(Pg.intO n).wt≤100:=by simp[Pg.intO,Ob.wt,Ob.wts,Pl.tot]
theorem pagesOwn_ret (d:Dc)(n:Int)(dv:Value)(M:Mem)(w:World)(hsm:Lb.Sm 1048576 d)(hsz:Dk.size d≤1000000000000)(hM:M.has w)(hdv:DV M.A M.w dv d) :
  RetM prog 6 #[dv,.int .i64 n] M w (fun r _=>r=.bool true):=by
 have hd:=hsm.ok (by omega);obtain⟨vi,tk,tc,dcs,rfl,hda⟩:=hdv;refine retM_of hM fun K hK=>S_foliantlaw35_PagesOwn_ok ?_;unfold S_foliantlaw35_PagesOwn;refine o_dcb d hda.items.one hda.trailer.oneK hda.trailer.oneC (OwnS.memS hM) fun b2 w1 ho=>?_;rw[dc_v ho 0 rfl];refine c_mem ho 1 rfl (lsmall_ret d _ M w1 hd hsz (ho.hasM 1 rfl) hda.dv) ?_;rintro _ N w3 hle rfl ho;have hda:=hda.le hle;have live:∀{W:World} {N:Mem} {L:List Ent} (i:Nat),OwnS M.A w W L→L[i]?=some (.mem N)→M.le N →
   CallX prog 9 #[] W (Eng.pk K) fun t W=>K (.returned t) W:=by
  intro W N L i ho hi hle;refine c_mem ho i hi (lives35_ret N W (ho.hasM i hi)) ?_;rintro _ N' W' hle' rfl ho;have hil:=(List.getElem?_eq_some_iff.1 hi).1;exact hK _ _ N' _ i ho (by rw[List.getElem?_set_self hil]) (hle.trans hle') rfl
 cases hs:smallD d with
|false=>
  simp only[rs,Bool.not_false];exact live 1 ho rfl hle
|true=>
 simp only[rs,Bool.not_true];rw[dc_v ho 0 rfl];refine c_mem ho 1 rfl (pget_ret d n _ N w3 hd (ho.hasM 1 rfl) hda.dv) ?_;rintro _ N2 w4 g2 ⟨_,rfl,pk,pc,rfl,hpg⟩ ho;simp only[errV,ex];refine o_pga ho fun b5 w5 ho=>?_;refine pg_put 0 hpg.oneK hpg.oneC ho rfl fun w6 ho=>?_;have h2:=hle.trans g2;have hda:=hda.le g2;rw[n_err];by_cases he:(Pg.get d n).2=0
 case neg=>
  simp only[he,ne_eq,not_false_eq_true,decide_true,i_t];exact live 2 ho rfl h2
 simp only[he,ne_eq,not_true,decide_false,i_f];obtain⟨it,hfi,hback⟩:=Pg.own_back he;obtain⟨hrw,hok⟩:=Pg.get_wtB hd hsm.items (by omega) he;generalize hp:(Pg.get d n).1=p at *;rw[dc_v ho 1 rfl,fa_pg0,pg_num ho 0 rfl];refine c_mem ho 2 rfl (rgetD_ret d p.num _ N2 w6 hd (ho.hasM 2 rfl) hda.dv) ?_;rintro _ N3 w7 g3 ⟨_,rfl,hiv⟩ ho;rw[hfi] at hiv ⊢;obtain⟨ik,ic,rfl,hio⟩:=hiv;have hiw:it.obj.wt≤1048576:=Pg.findB hsm.items hfi;have hio:OV N3.A N3.w (obV it.obj ik ic) it.obj:=hio;simp only[getV,Option.isSome_some,Option.getD_some,ex];refine o_ita ho fun b7 w8 ho=>?_;refine it_put 0 hio.oneK hio.oneC ho rfl fun w9 ho=>?_;simp only[rs,Bool.not_true];rw[fa_pg1,pg_media ho 1 rfl];refine o_rca ho fun b9 w10 ho=>?_;refine rc_put 0 ho rfl fun w11 ho=>?_;have ho:OwnS M.A w w11 [rcE b9 p.media,itE b7 it ik ic,pgE b5 p pk pc,dcE b2 d vi tk tc,.mem N3]:=ho;have h3:=h2.trans g3;have hda:=hda.le g3;have hpg:=hpg.le g3
 -- what comes after the box
 have fin:∀{W:World} {N:Mem} {xk xc:Value} (b10:Nat),N3.le N→OV N.A N.w (obV (Vl.set it.obj Pg.mediaK (Pg.boxR p.media)).1 xk xc) (Vl.set it.obj Pg.mediaK (Pg.boxR p.media)).1 →
   OwnS M.A w W [obE b10 (Vl.set it.obj Pg.mediaK (Pg.boxR p.media)).1 xk xc,rcE b9 p.media,itE b7 it ik ic,pgE b5 p pk pc,dcE b2 d vi tk tc,.mem N] →
   S_foliantlaw35_PagesOwn_0 (.int .i64 n) (.pointer (some ⟨b2,0,none⟩)) (.pointer (some ⟨b5,0,none⟩)) (.pointer (some ⟨b7,0,none⟩)) (.pointer (some ⟨b10,0,none⟩)) (.int .i64 (Vl.set it.obj Pg.mediaK (Pg.boxR p.media)).2) W K:=by
  intro W N xk xc b10 gN hx ho;have w1_:=Vl.set_wt it.obj Pg.mediaK (Pg.boxR p.media);have bw:=box_wt p.media;have ow:(Vl.set it.obj Pg.mediaK (Pg.boxR p.media)).1.wt≤1048800:=by have:Pg.mediaK.length=8:=rfl;omega
  have e1:(Vl.set it.obj Pg.mediaK (Pg.boxR p.media)).2=0→(Vl.set it.obj Pg.mediaK (Pg.boxR p.media)).1=Vl.put it.obj Pg.mediaK (Pg.boxR p.media)∧it.obj.keys.length=it.obj.kids.length:=fun h=>by
   obtain⟨a,-,b⟩:=Vl.set_ok (v:=Pg.boxR p.media) (show (6:Int)≠0 by decide) h;exact⟨a,b⟩
  generalize Vl.set it.obj Pg.mediaK (Pg.boxR p.media)=s1 at hx ho ow e1 ⊢;obtain⟨o1,x1⟩:=s1;simp only at hx ho ow e1 ⊢;unfold S_foliantlaw35_PagesOwn_0;have ho:=ho.drew;refine⟨fun W=>(obE b10 o1 xk xc).is W∧(pgE b5 p pk pc).is W,⟨ho.at_ 0 rfl,ho.at_ 3 rfl⟩,?_⟩;refine hd_do _ (fun W h=>run_obload h.1) (hd_pure _ (fun _=>run_fa fo_pg3) (hd_do _ (fun W h=>run_pgrot h.2) ?_));refine c_int35 p.rotate ho fun w2 ho=>⟨⟨ho.at_ 0 rfl,ho.at_ 3 rfl⟩,?_⟩;have iw:=int_wt p.rotate;refine c_mem ho 5 rfl (rset_ret o1 (Pg.intO p.rotate) _ _ Pg.rotK N w2 (by omega) (by omega) (by decide) (ho.hasM 5 rfl) hx (leaf_ov N _ _ _ _)) ?_;rintro _ N4 w3 g4 ⟨y,rfl,hy⟩ ho;refine⟨⟨ho.at_ 0 rfl,ho.at_ 3 rfl⟩,hd_ext (hd_ext1 ?_)⟩;have w2_:=Vl.set_wt o1 Pg.rotK (Pg.intO p.rotate);have ow2:(Vl.set o1 Pg.rotK (Pg.intO p.rotate)).1.wt≤1049000:=by have:Pg.rotK.length=6:=rfl;omega
  have e2:(Vl.set o1 Pg.rotK (Pg.intO p.rotate)).2=0→(Vl.set o1 Pg.rotK (Pg.intO p.rotate)).1=Vl.put o1 Pg.rotK (Pg.intO p.rotate):=fun h=>(Vl.set_ok (v:=Pg.intO p.rotate) (show (2:Int)≠0 by decide) h).1;generalize Vl.set o1 Pg.rotK (Pg.intO p.rotate)=s2 at hy ow2 e2 ⊢;obtain⟨o2,x2⟩:=s2;simp only at hy ow2 e2 ⊢;obtain⟨yk,yc,ycs,rfl,hya⟩:=hy.open;refine ob_put 0 hya.keys.one hya.kids.one ho rfl fun w4 ho=>?_;rw[ob_v ho 0 rfl,fa_pg4,pg_res ho 3 rfl];refine c_mem ho 5 rfl (rset_ret o2 p.res _ _ Pg.resK N4 w4 (by omega) (by omega) (by decide) (ho.hasM 5 rfl) hy (hpg.le (gN.trans g4))) ?_;rintro _ N5 w5 g5 ⟨z,rfl,hz⟩ ho;have w3_:=Vl.set_wt o2 Pg.resK p.res;have ow3:(Vl.set o2 Pg.resK p.res).1.wt≤2200000:=by have:Pg.resK.length=9:=rfl;omega
  have e3:(Vl.set o2 Pg.resK p.res).2=0→(Vl.set o2 Pg.resK p.res).1=Vl.put o2 Pg.resK p.res:=fun h=>(Vl.set_ok (by rw[hok.res];decide) h).1;generalize Vl.set o2 Pg.resK p.res=s3 at hz ow3 e3 ⊢;obtain⟨o3,x3⟩:=s3;simp only at hz ow3 e3 ⊢;obtain⟨zk,zc,zcs,rfl,hza⟩:=hz.open;simp only[errV,ex];refine ob_put 0 hza.keys.one hza.kids.one ho rfl fun w6 ho=>?_;have ho:OwnS M.A w w6 [obE b10 o3 zk zc,rcE b9 p.media,itE b7 it ik ic,pgE b5 p pk pc,dcE b2 d vi tk tc,.mem N5]:=ho;have gN5:=gN.trans (g4.trans g5);have h5:=h3.trans gN5;rw[n_err];by_cases c1:x1=0
  case neg=>
   simp only[c1,ne_eq,not_false_eq_true,decide_true,rs];exact live 5 ho rfl h5
  by_cases c2:x2=0
  case neg=>
   simp only[c1,c2,ne_eq,not_true,not_false_eq_true,decide_true,decide_false,rs,n_err];exact live 5 ho rfl h5
  by_cases c3:x3=0
  case neg=>
   simp only[c1,c2,c3,ne_eq,not_true,not_false_eq_true,decide_true,decide_false,rs,n_err];exact live 5 ho rfl h5
  simp only[c1,c2,c3,ne_eq,not_true,decide_false,rs,n_err];obtain⟨e1,hkl⟩:=e1 c1;have hown:o3=Pg.own it.obj p:=by rw[e3 c3,e2 c2,e1];rfl
  rw[dc_v ho 4 rfl,fa_i0,it_num ho 2 rfl,fa_i1,it_gen ho 2 rfl,ob_v ho 0 rfl,m_it3 o3 hza.keys.one hza.kids.one];have hlen:=hsm.len;refine c_mem ho 5 rfl (rputD_ret d ⟨it.num,it.gen,o3⟩ _ _ N5 w6 hd (by omega) (show o3.wt≤_ by omega) (ho.hasM 5 rfl) (hda.le gN5).dv ⟨zk,zc,rfl,hz⟩) ?_;rintro _ N6 w7 g6 ⟨_,rfl,ui,uk,uc,ucs,rfl,hua⟩ ho;simp only[errV,ex];refine o_dca ho fun b14 w8 ho=>?_;refine dc_put 0 hua.items.one hua.trailer.oneK hua.trailer.oneC ho rfl fun w9 ho=>?_;have h6:=h5.trans g6;rw[n_err];by_cases cp:(Dk.put d ⟨it.num,it.gen,o3⟩).2=0
  case neg=>
   simp only[cp,ne_eq,not_false_eq_true,decide_true,i_t];exact live 6 ho rfl h6
  simp only[cp,ne_eq,not_true,decide_false,i_f];have hsm2:=Lb.put_sm (C:=2200000) (i:=⟨it.num,it.gen,o3⟩) hsm ow3 (by omega) (by omega);have hget:=hback o3 hown hkl cp;rw[dc_v ho 0 rfl];refine c_mem ho 6 rfl (pget_ret _ n _ N6 w9 (hsm2.ok (by omega)) (ho.hasM 6 rfl) hua.dv) ?_;rintro _ N7 w10 g7 ⟨_,rfl,qk,qc,rfl,hq⟩ ho;rw[hget,hp] at hq;rw[hget,hp,he];simp only[errV,ex];refine o_pga ho fun b16 w11 ho=>?_;refine pg_put 0 hq.oneK hq.oneC ho rfl fun w12 ho=>?_;simp only[rs,decide_true];rw[pg_v ho 5 rfl,pg_v ho 0 rfl];refine c_below ho (R:=fun v=>v=.bool true) (rsamepage_ret p _ _ N7 w12 (by omega) (ho.hasM 7 rfl) ⟨pk,pc,rfl,hpg.le (gN5.trans (g6.trans g7))⟩ ⟨qk,qc,rfl,hq⟩) ?_;rintro _ w13 rfl ho;simp only[rs];refine c_mem ho 7 rfl (lives35_ret N7 w13 (ho.hasM 7 rfl)) ?_;rintro _ N8 w14 g8 rfl ho
  try simp only[rs]
  exact hK _ _ N8 _ 7 ho rfl (h6.trans (g7.trans g8)) rfl
 -- the call of Set
 have sset:∀{W:World} {N:Mem} {L:List Ent} {a:Option Addr} {x c:Nat} {F:VWP} {PK:PKT} (_:N3.le N) (_:Chn N.A N.w (.slice a x c) (Pg.boxR p.media).kids) (i:Nat) (_:OwnS M.A w W L) (_:L[i]?=some (.mem N))
   (_:∀W N' xk xc,N3.le N'→xk.oneCell'=true→xc.oneCell'=true→OV N'.A N'.w (obV (Vl.set it.obj Pg.mediaK (Pg.boxR p.media)).1 xk xc) (Vl.set it.obj Pg.mediaK (Pg.boxR p.media)).1→OwnS M.A w W (L.set i (.mem N')) →
    F (errV (obV (Vl.set it.obj Pg.mediaK (Pg.boxR p.media)).1 xk xc) (Vl.set it.obj Pg.mediaK (Pg.boxR p.media)).2) W),
   CallX prog 23 #[obV it.obj ik ic,.string ⟨#[77,101,100,105,97,66,111,120]⟩,obV (Pg.boxR p.media) nilS (.slice a x c)] W PK F:=by
  intro W N L a x c F PK hl hc i ho hi hF;have bw:=box_wt p.media;refine c_mem ho i hi (rset_ret it.obj (Pg.boxR p.media) _ _ Pg.mediaK N W (by omega) (by omega) (by decide) (ho.hasM i hi) (hio.le hl) (arr_ov hc)) ?_;rintro _ N' W' hl' ⟨y,rfl,hy⟩ ho;obtain⟨yk,yc,ycs,rfl,hya⟩:=hy.open;exact hF W' N' yk yc (hl.trans hl') hya.keys.one hya.kids.one hy ho
 have ho:=ho.drew;refine⟨fun W=>(itE b7 it ik ic).is W∧(rcE b9 p.media).is W,⟨ho.at_ 1 rfl,ho.at_ 0 rfl⟩,?_⟩;refine hd_pure _ (fun _=>run_fa fo_i2) (hd_do _ (fun W h=>run_itobj h.1) ?_);refine hd_pure _ (fun _=>run_fa fo_rc0) (hd_do _ (fun W h=>run_rc0 h.2) ?_);refine hd_pure _ (fun _=>run_fa fo_rc1) (hd_do _ (fun W h=>run_rc1 h.2) ?_);refine hd_pure _ (fun _=>run_fa fo_rc2) (hd_do _ (fun W h=>run_rc2 h.2) ?_);refine hd_pure _ (fun _=>run_fa fo_rc3) (hd_do _ (fun W h=>run_rc3 h.2) ?_);constructor
 ·skip
  refine c_real35 p.media.x0 ho fun v1 ho=>⟨⟨ho.at_ 1 rfl,ho.at_ 0 rfl⟩,?_⟩;constructor
  ·skip
   refine c_real35 p.media.y0 ho fun v2 ho=>⟨⟨ho.at_ 1 rfl,ho.at_ 0 rfl⟩,?_⟩;constructor
   ·skip
    refine c_real35 p.media.x1 ho fun v3 ho=>⟨⟨ho.at_ 1 rfl,ho.at_ 0 rfl⟩,?_⟩;constructor
    ·skip
     refine c_real35 p.media.y1 ho fun v4 ho=>⟨⟨ho.at_ 1 rfl,ho.at_ 0 rfl⟩,?_⟩;constructor
     ·skip
      refine o_chn4 4 ho rfl (leaf_ov _ _ _ _ _) (leaf_ov _ _ _ _ _) (leaf_ov _ _ _ _ _) (leaf_ov _ _ _ _ _) fun nb P v5 hl hch ho=>⟨⟨ho.at_ 1 rfl,ho.at_ 0 rfl⟩,?_⟩;constructor
      ·skip
       refine c_arr35 (Pg.boxR p.media).kids _ _ _ ho fun v6 ho=>⟨⟨ho.at_ 1 rfl,ho.at_ 0 rfl⟩,?_⟩;constructor
       ·skip
        refine sset hl hch 4 ho rfl fun v7 N' xk xc hlP hk1 hc1 hx ho=>⟨⟨ho.at_ 1 rfl,ho.at_ 0 rfl⟩,hd_ext (hd_ext1 ?_)⟩;refine o_oba ho fun b10 v8 ho=>⟨⟨ho.at_ 2 rfl,ho.at_ 1 rfl⟩,?_⟩;refine ob_put 0 hk1 hc1 ho rfl fun v9 ho=>?_;exact fin b10 hlP hx ho
       ·skip
        refine o_oba ho fun b10 v10 ho=>⟨⟨ho.at_ 2 rfl,ho.at_ 1 rfl⟩,?_⟩;refine sset hl hch 5 ho rfl fun v11 N' xk xc hlP hk1 hc1 hx ho=>⟨⟨ho.at_ 2 rfl,ho.at_ 1 rfl⟩,hd_ext (hd_ext1 ?_)⟩;refine ob_put 0 hk1 hc1 ho rfl fun v12 ho=>?_;exact fin b10 hlP hx ho
      ·skip
       refine o_oba ho fun b10 v13 ho=>⟨⟨ho.at_ 2 rfl,ho.at_ 1 rfl⟩,?_⟩;refine c_arr35 (Pg.boxR p.media).kids _ _ _ ho fun v14 ho=>⟨⟨ho.at_ 2 rfl,ho.at_ 1 rfl⟩,?_⟩;refine sset hl hch 5 ho rfl fun v15 N' xk xc hlP hk1 hc1 hx ho=>⟨⟨ho.at_ 2 rfl,ho.at_ 1 rfl⟩,hd_ext (hd_ext1 ?_)⟩;refine ob_put 0 hk1 hc1 ho rfl fun v16 ho=>?_;exact fin b10 hlP hx ho
     ·skip
      refine o_oba ho fun b10 v17 ho=>⟨⟨ho.at_ 2 rfl,ho.at_ 1 rfl⟩,?_⟩;refine o_chn4 5 ho rfl (leaf_ov _ _ _ _ _) (leaf_ov _ _ _ _ _) (leaf_ov _ _ _ _ _) (leaf_ov _ _ _ _ _) fun nb P v18 hl hch ho=>⟨⟨ho.at_ 2 rfl,ho.at_ 1 rfl⟩,?_⟩;refine c_arr35 (Pg.boxR p.media).kids _ _ _ ho fun v19 ho=>⟨⟨ho.at_ 2 rfl,ho.at_ 1 rfl⟩,?_⟩;refine sset hl hch 5 ho rfl fun v20 N' xk xc hlP hk1 hc1 hx ho=>⟨⟨ho.at_ 2 rfl,ho.at_ 1 rfl⟩,hd_ext (hd_ext1 ?_)⟩;refine ob_put 0 hk1 hc1 ho rfl fun v21 ho=>?_;exact fin b10 hlP hx ho
    ·skip
     refine o_oba ho fun b10 v22 ho=>⟨⟨ho.at_ 2 rfl,ho.at_ 1 rfl⟩,?_⟩;refine c_real35 p.media.y1 ho fun v23 ho=>⟨⟨ho.at_ 2 rfl,ho.at_ 1 rfl⟩,?_⟩;refine o_chn4 5 ho rfl (leaf_ov _ _ _ _ _) (leaf_ov _ _ _ _ _) (leaf_ov _ _ _ _ _) (leaf_ov _ _ _ _ _) fun nb P v24 hl hch ho=>⟨⟨ho.at_ 2 rfl,ho.at_ 1 rfl⟩,?_⟩;refine c_arr35 (Pg.boxR p.media).kids _ _ _ ho fun v25 ho=>⟨⟨ho.at_ 2 rfl,ho.at_ 1 rfl⟩,?_⟩;refine sset hl hch 5 ho rfl fun v26 N' xk xc hlP hk1 hc1 hx ho=>⟨⟨ho.at_ 2 rfl,ho.at_ 1 rfl⟩,hd_ext (hd_ext1 ?_)⟩;refine ob_put 0 hk1 hc1 ho rfl fun v27 ho=>?_;exact fin b10 hlP hx ho
   ·skip
    refine o_oba ho fun b10 v28 ho=>⟨⟨ho.at_ 2 rfl,ho.at_ 1 rfl⟩,?_⟩;refine c_real35 p.media.x1 ho fun v29 ho=>⟨⟨ho.at_ 2 rfl,ho.at_ 1 rfl⟩,?_⟩;refine c_real35 p.media.y1 ho fun v30 ho=>⟨⟨ho.at_ 2 rfl,ho.at_ 1 rfl⟩,?_⟩;refine o_chn4 5 ho rfl (leaf_ov _ _ _ _ _) (leaf_ov _ _ _ _ _) (leaf_ov _ _ _ _ _) (leaf_ov _ _ _ _ _) fun nb P v31 hl hch ho=>⟨⟨ho.at_ 2 rfl,ho.at_ 1 rfl⟩,?_⟩;refine c_arr35 (Pg.boxR p.media).kids _ _ _ ho fun v32 ho=>⟨⟨ho.at_ 2 rfl,ho.at_ 1 rfl⟩,?_⟩;refine sset hl hch 5 ho rfl fun v33 N' xk xc hlP hk1 hc1 hx ho=>⟨⟨ho.at_ 2 rfl,ho.at_ 1 rfl⟩,hd_ext (hd_ext1 ?_)⟩;refine ob_put 0 hk1 hc1 ho rfl fun v34 ho=>?_;exact fin b10 hlP hx ho
  ·skip
   refine o_oba ho fun b10 v35 ho=>⟨⟨ho.at_ 2 rfl,ho.at_ 1 rfl⟩,?_⟩;refine c_real35 p.media.y0 ho fun v36 ho=>⟨⟨ho.at_ 2 rfl,ho.at_ 1 rfl⟩,?_⟩;refine c_real35 p.media.x1 ho fun v37 ho=>⟨⟨ho.at_ 2 rfl,ho.at_ 1 rfl⟩,?_⟩;refine c_real35 p.media.y1 ho fun v38 ho=>⟨⟨ho.at_ 2 rfl,ho.at_ 1 rfl⟩,?_⟩;refine o_chn4 5 ho rfl (leaf_ov _ _ _ _ _) (leaf_ov _ _ _ _ _) (leaf_ov _ _ _ _ _) (leaf_ov _ _ _ _ _) fun nb P v39 hl hch ho=>⟨⟨ho.at_ 2 rfl,ho.at_ 1 rfl⟩,?_⟩;refine c_arr35 (Pg.boxR p.media).kids _ _ _ ho fun v40 ho=>⟨⟨ho.at_ 2 rfl,ho.at_ 1 rfl⟩,?_⟩;refine sset hl hch 5 ho rfl fun v41 N' xk xc hlP hk1 hc1 hx ho=>⟨⟨ho.at_ 2 rfl,ho.at_ 1 rfl⟩,hd_ext (hd_ext1 ?_)⟩;refine ob_put 0 hk1 hc1 ho rfl fun v42 ho=>?_;exact fin b10 hlP hx ho
 ·skip
  refine o_oba ho fun b10 v43 ho=>⟨⟨ho.at_ 2 rfl,ho.at_ 1 rfl⟩,?_⟩;refine c_real35 p.media.x0 ho fun v44 ho=>⟨⟨ho.at_ 2 rfl,ho.at_ 1 rfl⟩,?_⟩;refine c_real35 p.media.y0 ho fun v45 ho=>⟨⟨ho.at_ 2 rfl,ho.at_ 1 rfl⟩,?_⟩;refine c_real35 p.media.x1 ho fun v46 ho=>⟨⟨ho.at_ 2 rfl,ho.at_ 1 rfl⟩,?_⟩;refine c_real35 p.media.y1 ho fun v47 ho=>⟨⟨ho.at_ 2 rfl,ho.at_ 1 rfl⟩,?_⟩;refine o_chn4 5 ho rfl (leaf_ov _ _ _ _ _) (leaf_ov _ _ _ _ _) (leaf_ov _ _ _ _ _) (leaf_ov _ _ _ _ _) fun nb P v48 hl hch ho=>⟨⟨ho.at_ 2 rfl,ho.at_ 1 rfl⟩,?_⟩;refine c_arr35 (Pg.boxR p.media).kids _ _ _ ho fun v49 ho=>⟨⟨ho.at_ 2 rfl,ho.at_ 1 rfl⟩,?_⟩;refine sset hl hch 5 ho rfl fun v50 N' xk xc hlP hk1 hc1 hx ho=>⟨⟨ho.at_ 2 rfl,ho.at_ 1 rfl⟩,hd_ext (hd_ext1 ?_)⟩;refine ob_put 0 hk1 hc1 ho rfl fun v51 ho=>?_;exact fin b10 hlP hx ho
end
end Go.Proofs.YtoobidofdpdkbaaGreatDoor














namespace Go.Proofs.YtoobidofdpdkbaaGreatDoor
section
open Eng Go.RowKit Go.ChangeShapes Go.WideShapes Go.ChangeAt
set_option maxRecDepth 100000
theorem list3d {α:Type}:∀{l:List α},l.length=3→∃a b c,l=[a,b,c]
|[a,b,c],_=>⟨a,b,c,rfl⟩
theorem list2d {α:Type}:∀{l:List α},l.length=2→∃a b,l=[a,b]
|[a,b],_=>⟨a,b,rfl⟩
theorem list8d {α:Type}:∀{l:List α},l.length=8→∃a b c d e f g h,l=[a,b,c,d,e,f,g,h]
|[a,b,c,d,e,f,g,h],_=>⟨a,b,c,d,e,f,g,h,rfl⟩
theorem list7d {α:Type}:∀{l:List α},l.length=7→∃a b c d e f g,l=[a,b,c,d,e,f,g]
|[a,b,c,d,e,f,g],_=>⟨a,b,c,d,e,f,g,rfl⟩
section
variable {H:Type}{enc:TypeId×Value→H}{W:World}{sp:Nat→Bool}{held:Bool}
theorem open_item (fuel:Nat)(cs:List Value)(x:DataW H×List MemPlace)(h:DataW.trod enc prog W 0 sp held fuel 53 cs=some x):∃i:It,itR (InW W) W cs i∧cs.length=8∧i.obj.wt≤Rows.uptoBulk x.1:=by
 obtain⟨xs,n,rfl,rfl,hl,hxl,hf⟩:=DataW.trod_struct Tryz.underlying53 h;have c8:Tryz.prog.cellsOf 53=8:=by kernel_rfl
 rw[c8] at hl;have hxl:xs.length=3:=hxl;obtain⟨x0,x1,x2,rfl⟩:=list3d hxl;obtain⟨v0,v1,v2,v3,v4,v5,v6,v7,rfl⟩:=list8d hl;have e0:=hf 0 _ rfl;have e1:=hf 1 _ rfl;have e2:=hf 2 _ rfl;have k0:Tryz.prog.cellsOf 3=1:=by kernel_rfl
 have k6:Tryz.prog.cellsOf 26=6:=by kernel_rfl
 simp only[k0,k6,List.drop_zero,List.drop_succ_cons,List.take_succ_cons,List.take_zero,List.getElem?_cons_zero,List.getElem?_cons_succ] at e0 e1 e2;obtain⟨m,hm,rfl,_⟩:=DataW.trod_int Tryz.underlying3 e0;obtain⟨g,hg,rfl,_⟩:=DataW.trod_int Tryz.underlying3 e1;obtain⟨o,h1,h2,h3⟩:=open_obj _ _ _ e2
 injection hm with hm _
 injection hg with hg _
 subst hm;subst hg;obtain⟨vk,vc,ocs,he,ha⟩:=h1.open;have he:[v2,v3,v4,v5,v6,v7]=obC o vk vc:=by
  have:[v2,v3,v4,v5,v6,v7].toArray=(obC o vk vc).toArray:=by injection he
  simpa using congrArg Array.toList this
 refine⟨⟨m,g,o⟩,⟨vk,vc,?_,ha.ov⟩,rfl,?_⟩
 ·show _=.int .i64 m::.int .i64 g::obC o vk vc;rw[←he]
 ·show o.wt≤_;simp only[Rows.uptoBulk,List.map_cons,List.map_nil,Rows.uptoBulkAll];omega
theorem wti_le:∀{l:List It} {i:It},i∈l→i.obj.wt≤(l.map fun i=>i.obj.wt).sum
|a::l,i,h=>by
  rw[List.map_cons,List.sum_cons];rcases List.mem_cons.1 h with rfl|h
  ·omega
  ·have:=wti_le h;omega
theorem len_wti:∀l:List It,l.length≤(l.map fun i=>i.obj.wt).sum
|[]=>by simp
|a::l=>by
  have:=len_wti l;have:=a.obj.wt_pos;rw[List.map_cons,List.sum_cons,List.length_cons];omega
theorem size_wti:∀l:List It,(l.map fun i=>Vl.size i.obj).sum≤(l.map fun i=>i.obj.wt).sum
|[]=>by simp
|a::l=>by
  have:=size_wti l;have:=Vl.size_wt a.obj;rw[List.map_cons,List.sum_cons,List.map_cons,List.sum_cons];omega
theorem row_doc {b0:Nat}{v:Value}{d:DataW H}{ps:List MemPlace}(hval:Value.okWide prog W .any b0 28 v)(hd:DataW.Trod enc prog W 0 sp held 28 v d ps) :
  ∃x:Dc,DV (InW W) W v x∧Lb.Sm (Rows.uptoBulk d) x∧Dk.size x≤Rows.uptoBulk d:=by
 obtain⟨cs,rfl,_⟩:=okWide_struct Tryz.underlying28 hval;obtain⟨fuel,h⟩:=hd;have h:DataW.trod enc prog W 0 sp held fuel 28 cs.toList=some (d,ps):=h;obtain⟨xs,n,rfl,hdd,hl,hxl,hf⟩:=DataW.trod_struct Tryz.underlying28 h;have c7:Tryz.prog.cellsOf 28=7:=by kernel_rfl
 rw[c7] at hl;have hxl:xs.length=2:=hxl;obtain⟨x0,x1,rfl⟩:=list2d hxl;obtain⟨v0,v1,v2,v3,v4,v5,v6,hcs⟩:=list7d hl;rw[hcs] at hf;have e0:=hf 0 _ rfl;have e1:=hf 1 _ rfl;have k0:Tryz.prog.cellsOf 22=1:=by kernel_rfl
 have k6:Tryz.prog.cellsOf 26=6:=by kernel_rfl
 simp only[k0,k6,List.drop_zero,List.drop_succ_cons,List.take_succ_cons,List.take_zero,List.getElem?_cons_zero,List.getElem?_cons_succ] at e0 e1;obtain⟨v',ds,is,h1,h2,h3,h4,h5⟩:=open_slice_of (R:=itR (InW W) W) (wt:=fun i=>i.obj.wt) (n:=8) Tryz.underlying22 (by kernel_rfl) (by decide) open_item e0
 injection h1 with h1 _
 subst h1;obtain⟨o,g1,g2,g3⟩:=open_obj _ _ _ e1;obtain⟨vk,vc,ocs,he,ha⟩:=g1.open;have he:[v1,v2,v3,v4,v5,v6]=obC o vk vc:=by
  have:[v1,v2,v3,v4,v5,v6].toArray=(obC o vk vc).toArray:=by injection he
  simpa using congrArg Array.toList this
 have hb:Rows.uptoBulk x0.1+Rows.uptoBulk x1.1≤Rows.uptoBulk d:=by
  have hdd:d=_:=congrArg Prod.fst hdd;rw[hdd];simp only[Rows.uptoBulk,List.map_cons,List.map_nil,Rows.uptoBulkAll];omega
 have hw:∀i∈is,i.obj.wt≤(is.map fun i=>i.obj.wt).sum:=fun i hi=>wti_le hi;have hl:=len_wti is;have hz:=size_wti is;have ho:=Vl.size_wt o;refine⟨⟨is,o⟩,⟨v0,vk,vc,ds,?_,h2,h3,ha.ov⟩,⟨?_,fun i hi=>?_,?_⟩,?_⟩
 ·rw[dcV,dcC];show Value.agg cs=.agg (v0::obC o vk vc).toArray;rw[←he,←hcs]
 ·show is.length≤_;omega
 ·have:=hw i hi;omega
 ·show o.wt≤_;omega
 ·show Vl.size o+(is.map fun i=>Vl.size i.obj).sum≤_;omega
end
theorem Lb.Sm.mono {B C:Nat}{d:Dc}(h:Lb.Sm B d)(hBC:B≤C):Lb.Sm C d:=⟨Nat.le_trans h.len hBC,fun i hi=>Nat.le_trans (h.items i hi) hBC,Nat.le_trans h.trailer hBC⟩
end
section
open Eng Go.RowKit Go.ChangeShapes Go.WideShapes Go.ChangeAt
set_option maxRecDepth 100000
def layReps (w:World)(g:Nat):World:=
 { w with heap:=(w.heap.modify g fun
  |.cells _ t frozen=>.cells #[.map (some w.heap.size)] t frozen
  |o=>o).push (.map #[⟨.int .i64 16,.agg #[.int .i64 3,.int .i64 2],0⟩,⟨.int .i64 17,.agg #[.int .i64 3,.int .i64 3],1⟩,⟨.int .i64 18,.agg #[.int .i64 11,.int .i64 7],2⟩] 3) }
section
variable {H:Type}{enc:TypeId×Value→H}{W:World}{sp:Nat→Bool}{held:Bool}
end
theorem pagesOwn_row (d:Dc)(n:Int)(dv:Value)(w:World)(hdv:DV (InW w) w dv d)(hsm:Lb.Sm 1048576 d)(hsz:Dk.size d≤1000000000):Ret prog 6 #[dv,.int .i64 n] w (fun v w'=>v=.bool true∧Below w.heap.size w w'):=
 RetM.told (pagesOwn_ret d n dv (Mem.all w) w hsm (by omega) (Mem.all_has w) hdv)
end
end Go.Proofs.YtoobidofdpdkbaaGreatDoor
