/- Texts that go together: OpE OpF OpG OpH OpI OpJ OpK OpL OpM SLaw43 OpN OpP OpZ. -/
import Derived.Test.YtoofficgclghoaaGreatDoorRows
import Derived.Test.YtoofficgclghoaaGreatDoorMmokpkjkm
import Derived.Test.YtoofficgclghoaaGreatDoorMogaapjal
import Derived.Test.YtoofficgclghoaaGreatDoorMclokkgec
import Derived.Test.YtoofficgclghoaaGreatDoorMbbjppalp
import Derived.Test.YtoofficgclghoaaGreatDoorMmledamag
set_option linter.defProp false
set_option linter.unusedSimpArgs false
set_option linter.unusedVariables false
set_option maxRecDepth 20000
open Go.Proofs.Tryz (prog)
namespace Go.Proofs.YtoofficgclghoaaGreatDoor
section
open Eng Go.RowKit
abbrev orM (b:Nat)(s:List UInt8)(a:Int)(vl:Value)(M:Mem):Ent:=.two (orE b s a vl) (.mem M)
theorem opbuild {S0:Nat→Prop}{w W:World}{b b4 b5 b9:Nat}{s:List UInt8}{a:Int}{vl:Value}{N:Mem}{al:List (List UInt8×Value)}{l:List Ps.Kv}{o:Ob}{K:Ending→World→Prop}
  (hkv:KvR N.A N.w al l) (hnd:(l.map (·.1)).Nodup) (hmade:Ps.Made o l) (hlen:l.length≤8191)
  (ho:OwnS S0 w W [obE b9 Ps.dict0 nilS nilS,keyE nilS [],kidE nilS 0 [],obE b4 ob0 nilS nilS,.mapB b5 al,orM b s a vl N])
  (kend:∀(W':World) (N2:Mem) (L:List Ent) (v:Value),OwnS S0 w W' (orE b s a vl::.mem N2::L)→N.le N2→OV N2.A N2.w v o→K (.returned v) W') :
  DoX prog (mRange 182 (.map (some b5))) W (pk K) fun t49 w=>LoopX [] w (fun vs2 w N2=>∀_:Sg,S_ops_reader_keys_1 (.pointer (some ⟨b4,0,none⟩)) (.map (some b5)) (.pointer (some ⟨b9,0,none⟩)) t49 w N2 K):=by
 have hall:al.length=l.length:=by simpa using congrArg List.length hkv.fst
 obtain⟨es,clock,hf,ho⟩:=ho.openM 4 rfl;refine o_rangeM 4 Tryz.underlying182 ho rfl fun it w1 ho=>?_;refine loop (fun vs w'=>∃(seen:Array Nat) (done:List (List UInt8×Value)) (vk:Value),vs=[]∧SeenM es seen done∧done.length≤al.length∧(∀p∈done,p∈al) ∧
   OwnS S0 w w' [.obj it (.mapIter (some b5) clock seen clock),obE b9 Ps.dict0 vk nilS,keyE vk (liveV done),kidE nilS 0 [],obE b4 ob0 nilS nilS,.obj b5 (.map es clock),orM b s a vl N]) (fun _ w=>al.length - itAt it w)
  ⟨#[],[],nilS,rfl,seen_nil es,by simp,by simp,ho⟩ ?_
 clear ho;rintro vs w2 ⟨seen,done,vk,rfl,hs,hdl,hda,ho⟩ _;simp only[S_ops_reader_keys_1];have hit:itAt it w2=seen.size:=itAt_is (ho.at_ 0 rfl);have hss:=seen_size hs;refine o_nextM 0 5 ho rfl rfl hf hs (fun hperm=>?_) fun p e w3 hpa _ he hek hev hs' hlt ho=>?_
 ·-- all have come
  simp only[ex,i_f];have ho:=ho.tail;have ho:OwnS S0 w w2 [obE b9 Ps.dict0 vk nilS,keyE vk (liveV done),kidE nilS 0 [],obE b4 ob0 nilS nilS,.obj b5 (.map es clock),orM b s a vl N]:=ho;have ho:=ho.shutM 4 rfl hf;have ho:OwnS S0 w w2 [obE b9 Ps.dict0 vk nilS,keyE vk (liveV done),kidE nilS 0 [],obE b4 ob0 nilS nilS,.mapB b5 al,orM b s a vl N]:=ho;rw[fa_o4,ob_keys ho 0 rfl];have hll:=liveV_len done;refine c_ret (ssort_ret vk (liveV done) w2 (ho.at_ 1 rfl) (by omega)) ?_;rintro _ w3 ⟨rfl,ht⟩;have ho:=ho.turn 1 rfl ht;have hsort:sortS (liveV done)=o.keys:=sortS_rise ((liveV_perm hperm).trans (by rw[hkv.live];exact hmade.perm)) hmade.rise;rw[hsort] at ho;have ho:OwnS S0 w w3 [obE b9 Ps.dict0 vk nilS,keyE vk o.keys,kidE nilS 0 [],obE b4 ob0 nilS nilS,.mapB b5 al,orM b s a vl N]:=ho;have hkl:o.keys.length≤8191:=by
   have h1:=hmade.perm.length_eq;have h2:=hkv.live (A:=N.A);have h3:=liveV_len al;rw[←h1,←h2];omega
  rw[fa_o4,ob_keys ho 0 rfl,sl_len Tryz.underlying39 (ho.slU 1 rfl)];refine loop (fun vs w'=>∃(i:Nat) (cs:List Value) (vc:Value),vs=[.int .i64 i]∧i≤o.keys.length∧OVs N.A N.w cs (o.kids.take i) ∧
   OwnS S0 w w' [obE b9 Ps.dict0 vk vc,keyE vk o.keys,kidE vc i cs,obE b4 ob0 nilS nilS,.mapB b5 al,orM b s a vl N]) (fun vs _=>o.keys.length - n0 vs) ⟨0,[],nilS,rfl,by omega,OVs.nil,ho⟩ ?_
  clear ho;rintro vs w4 ⟨i,cs,vc,rfl,hi,hov,ho⟩ _;simp only[S_ops_reader_keys_2,gd,rs];by_cases hlt:(i:Int) < (o.keys.length:Int)
  ·have hi':i < o.keys.length:=by omega
   simp only[decide_eq_true hlt,i_t];obtain⟨g,cap,_,ia,ld⟩:=key_row 1 ho rfl hi';refine do_eq (ia w4) |>.mpr (do_eq (ld w4 (ho.at_ 1 rfl)) |>.mpr ?_);rw[fa_o5,ob_kids ho 0 rfl];obtain⟨v,hv,hvo⟩:=hkv.look hnd (Ps.made_at hmade hi');rw[lookF 4 ho rfl hv];obtain⟨xk,xc,xcs,rfl,hx⟩:=hvo.open;refine o_obs1 _ hx.keys.one hx.kids.one ho fun nb w5 ho=>?_;refine o_apO 3 ho rfl (ho.sl 0 rfl 6 1 1 rfl) (obC_one _ hx.keys.one hx.kids.one) (by omega) fun vc' w6 ho=>?_;have ho:=ho.tail;have hvc':=urow_one (ho.at_ 2 rfl);rw[fa_o5];refine o_store 0 ho rfl (by kernel_rfl) hvc' (show 0+5 < 6 by omega) fun w7 ho=>?_;rw[wrap64_id (by omega) (by omega)];refine nextX ⟨i+1,_,vc',rfl,by omega,?_,ho⟩ (by show o.keys.length - Int.toNat ((i:Int)+1) < o.keys.length - Int.toNat (i:Int);omega);have hkl2:i < o.kids.length:=by have:=hmade.len;omega
   rw[List.take_succ_eq_append_getElem hkl2];exact ovs_app hov (ovs_1 hx.ov)
  ·have hi':i=o.keys.length:=by omega
   simp only[decide_eq_false hlt,i_f];subst hi';rw[hmade.len,List.take_length] at hov;have hvk:=urow_one (ho.at_ 1 rfl);have hvc:=urow_one (ho.at_ 2 rfl);rw[ob_v ho 0 rfl];refine ob_put (o':=Ps.dict0) 3 hvk hvc ho rfl fun w5 ho=>?_;refine ret_v1 (rv_cell (ho.agg 3 rfl aggOb)) ?_;have ho:OwnS S0 w w5 ([obE b9 Ps.dict0 vk vc,keyE vk o.keys,kidE vc o.keys.length cs,obE b4 Ps.dict0 vk vc,.mapB b5 al]++([orM b s a vl N]++[])):=ho;have ho:=ho.front.split;have ho:OwnS S0 w w5 ([orE b s a vl,.mem N,obE b9 Ps.dict0 vk vc]++([keyE vk o.keys,kidE vc o.keys.length cs]++[obE b4 Ps.dict0 vk vc,.mapB b5 al])):=ho;have ho:=ho.front;obtain⟨N2,hle2,hrow2,ho⟩:=OwnS.freezeU (L:=[kidE vc o.keys.length cs,orE b s a vl,.mem N,obE b9 Ps.dict0 vk vc,obE b4 Ps.dict0 vk vc,.mapB b5 al]) ho 2 rfl;obtain⟨N3,hle3,hrow3,ho⟩:=OwnS.freezeU (L:=[orE b s a vl,.mem N2,obE b9 Ps.dict0 vk vc,obE b4 Ps.dict0 vk vc,.mapB b5 al]) ho 1 rfl;have hval:obV Ps.dict0 vk vc=obV o vk vc:=by
    unfold obV obC;rw[hmade.k,hmade.n,hmade.g,hmade.s];rfl
   refine kend w5 N3 _ _ ho (hle2.trans hle3) ?_;show OV N3.A N3.w (obV Ps.dict0 vk vc) o;rw[hval];rw[hmade.len] at hrow3;exact ObAt.ov ⟨hrow2.le hle3,hrow3,(hov.le hle2).le hle3⟩
 ·simp only[ex,i_t];have ho:OwnS S0 w w3 [.obj it (.mapIter (some b5) clock (seen.push e.born) clock),obE b9 Ps.dict0 vk nilS,keyE vk (liveV done),kidE nilS 0 [],obE b4 ob0 nilS nilS,.obj b5 (.map es clock),orM b s a vl N]:=ho;rw[e_entry 0 5 ho rfl rfl hf he,hek,hev];simp only[ex];obtain⟨x,hxl,hxo⟩:=hkv.mem hpa;have hkind:=kindV_of hxo;obtain⟨xk,xc,xcs,hpe,hx⟩:=hxo.open;obtain⟨pk1,pv⟩:=p;simp only at hpe hkind;subst hpe;refine o_oba ho fun b11 w4 ho=>?_;refine ob_put (o':=x) 0 hx.keys.one hx.kids.one ho rfl fun w5 ho=>?_;have ho:OwnS S0 w w5 [obE b11 x xk xc,.obj it (.mapIter (some b5) clock (seen.push e.born) clock),obE b9 Ps.dict0 vk nilS,keyE vk (liveV done),kidE nilS 0 [],obE b4 ob0 nilS nilS,.obj b5 (.map es clock),orM b s a vl N]:=ho;rw[fa_o0,ob_k ho 0 rfl];simp only[rs];have hsn:=liveV_snoc done (pk1,obV x xk xc);have mea:∀{W:World} {L:List Ent},OwnS S0 w W L→L[0]?=some (.obj it (.mapIter (some b5) clock (seen.push e.born) clock))→al.length - itAt it W < al.length - itAt it w2:=by
   intro W L ho hi;rw[hit,itAt_is (ho.at_ 0 hi),Array.size_push];omega
  have hda':∀q∈done++[(pk1,obV x xk xc)],q∈al:=by
   intro q hq;rcases List.mem_append.1 hq with hq|hq
   ·exact hda q hq
   ·rw[List.mem_singleton] at hq;subst hq;exact hpa
  by_cases hk:x.k=0
  ·simp only[hk,ne_eq,not_true,decide_false,i_f];rw[if_neg (by rw[hkind,hk];simp),List.append_nil] at hsn;refine nextX ⟨_,done++[(pk1,obV x xk xc)],vk,rfl,hs',by simp;omega,hda',?_⟩ (mea ho.tail rfl);rw[hsn];exact ho.tail
  ·simp only[hk,ne_eq,not_false_eq_true,decide_true,i_t];rw[if_pos (by rw[hkind];exact hk)] at hsn;rw[fa_o4,ob_keys ho 2 rfl];have hll:=liveV_len done;show DoX prog (mBuildS 39 1 #[(0,.string ⟨pk1.toArray⟩)]) w5 _ _;refine o_strb1 pk1 ho fun nb w6 ho=>?_;refine o_apS 4 ho rfl (ho.sl 0 rfl 1 1 1 rfl) (by simp[Value.oneCell']) (by omega) fun vk' w7 ho=>?_;have ho:=ho.tail.tail;have ho:OwnS S0 w w7 [.obj it (.mapIter (some b5) clock (seen.push e.born) clock),obE b9 Ps.dict0 vk nilS,keyE vk' (liveV done++[pk1]),kidE nilS 0 [],obE b4 ob0 nilS nilS,.obj b5 (.map es clock),orM b s a vl N]:=by
    have e:strsV (liveV done++[pk1])=strsV (liveV done)++[.string ⟨pk1.toArray⟩]:=by rw[strsV_app];rfl
    rw[keyE,List.length_append,List.length_singleton,e];exact ho
   have hvk':=urow_one (ho.at_ 2 rfl);rw[fa_o4];refine o_store 1 ho rfl (by kernel_rfl) hvk' (show 0+4 < 6 by omega) fun w8 ho=>?_;refine nextX ⟨_,done++[(pk1,obV x xk xc)],vk',rfl,hs',by simp;omega,hda',?_⟩ (mea ho rfl);rw[hsn];exact ho
theorem orAt_is {b:Nat}{s:List UInt8}{a:Int}{vl:Value}{w:World}(h:(orE b s a vl).is w):rdAt b w=a.toNat:=by
 unfold rdAt;rw[cells_cell (T:=49) (cs:=orC s a vl) (i:=1) h rfl]
theorem opkeys_ret (b:Nat)(s:List UInt8)(a:Int)(vl:Value)(M:Mem)(w:World)(h0:0≤a)(h1:a≤s.length)(hs:s.length≤1000000000)(hr:(Ent.two (orE b s a vl) (.mem M)).is w) :
  Lent prog 107 #[rdP b] (orE b s a vl) M w ((Cs.keys s (s.length+1) a Ps.dict0 []).2.2.e=0) (orE b s (Cs.keys s (s.length+1) a Ps.dict0 []).2.1 vl) (fun v N=>OV N.A N.w v (Cs.keys s (s.length+1) a Ps.dict0 []).1)
   [fltP (Cs.keys s (s.length+1) a Ps.dict0 []).2.2.at_ (Cs.keys s (s.length+1) a Ps.dict0 []).2.2.e]:=by
 generalize hR:Cs.keys s (s.length+1) a Ps.dict0 []=R;refine lent_of (fun K ho hret hpan=>S_ops_reader_keys_ok ?_) hr;unfold S_ops_reader_keys;refine o_oba ho fun b4 w1 ho=>?_;refine o_mapNewB ho fun b5 w2 ho=>?_;generalize hS0:(Ent.two (orE b s a vl) (.mem M)).blk=S0 at *;have ho:OwnS S0 w w2 [.mapB b5 [],obE b4 ob0 nilS nilS,orE b s a vl,.mem M]:=ho;have fall:∀{W:World} {L:List Ent} {e2:Ent} {N:Mem} (f:Cs.Flt),OwnS S0 w W (L++([e2,.mem N]++[]))→M.le N→R=(Vl.ob0,0,f)→f.e≠0→pk K [fltP f.at_ f.e] W:=by
  intro W L e2 N f ho hle he h0;subst he;exact hpan h0 e2 N W _ ho.front hle
 refine loop (fun vs w'=>∃(a':Int) (m:Nat) (o:Ob) (l:List Ps.Kv) (al:List (List UInt8×Value)) (N:Mem),vs=[]∧0≤a'∧a'≤s.length∧(l.length:Int)≤a'∧l.length≤8191∧l.length+m=s.length+1 ∧
   Cs.keys s m a' o (l.map (·.1))=R∧M.le N∧KvR N.A N.w al l∧(l.map (·.1)).Nodup∧Ps.Made o l ∧
   OwnS S0 w w' [.mapB b5 al,obE b4 ob0 nilS nilS,orE b s a' vl,.mem N]) (fun _ w=>s.length - rdAt b w)
  ⟨a,s.length+1,Ps.dict0,[],[],M,rfl,h0,h1,by simpa using h0,by simp,by simp,hR,M.le_refl,trivial,List.nodup_nil,Ps.made0,ho⟩ ?_
 clear ho hR;rintro vs w4 ⟨a',m,o,l,al,N,rfl,ha0,ha1,hla,hmx,hml,hdict,hle,hkv,hnd,hmade,ho⟩ _;simp only[S_ops_reader_keys_0];obtain⟨m,rfl⟩:∃k,m=k+1:=⟨m - 1,by omega⟩;have hall:al.length=l.length:=by simpa using congrArg List.length hkv.fst
 have hat:rdAt b w4=a'.toNat:=orAt_is (ho.at_ 2 rfl);rw[Cs.keys] at hdict;have hbd:=@Lx.next_bd s a';have hge:=Lx.skip_ge s a'.toNat;refine c_oppeek ho (ho.at_ 2 rfl) (by omega) (fun e1 w5 ho=>?_) fun e1 w5 ho=>?_
 rotate_left
 ·rw[if_pos e1] at hdict;exact fall (L:=[_,_]) _ ho hle hdict.symm e1
 rw[if_neg (by simp[e1])] at hdict;generalize Lx.next s a'=x at *
 refine o_tok ho fun b6 w6 ho=>?_;refine tk_put 0 ho rfl fun w7 ho=>?_;have ho:OwnS S0 w w7 [tokE b6 x.1,.mapB b5 al,obE b4 ob0 nilS nilS,orE b s a' vl,.mem N]:=ho;refine quiet (q_do _ (fun _=>run_fa ft0) (q_at (.int .i64 x.1.k) (fun W hb=>tkr_k (ho.grow hb) 0 rfl) (q_ne ?_)));refine q_do _ (fun _=>run_nil) (q_do _ (fun _=>run_fa for0) (q_at _ (fun W hb=>orr_s ((ho.grow hb).at_ 3 rfl)) (q_slen Tryz.underlying9 ?_)));intro w8 hb;have ho:=ho.grow hb;refine c_opmust (fun e2=>?_) fun e2=>?_
 rotate_left
 ·have e2:x.1.k=0:=by simpa using e2
  rw[if_pos e2] at hdict;exact fall (L:=[_,_,_]) ⟨s.length,4⟩ ho hle hdict.symm (show (4:Int)≠0 by decide)
 have e2:x.1.k≠0:=of_decide_eq_true e2;rw[if_neg e2] at hdict;have hbd:=hbd e1 e2;rw[fa_t2,tk_t ho 0 rfl];simp only[rs,fa_or1];refine or_put 3 ho rfl fun w9 ho=>?_;have ho:OwnS S0 w w9 [tokE b6 x.1,.mapB b5 al,obE b4 ob0 nilS nilS,orE b s x.1.t vl,.mem N]:=ho;rw[fa_t0,tk_k ho 0 rfl];simp only[rs];by_cases e3:x.1.k=5
 ·by_cases e3s:x.1.s=[73,68]
  ·rw[if_pos ⟨e3,e3s⟩] at hdict;simp only[decide_eq_true e3,rs,fa_t4',tk_s ho 0 rfl,decide_eq_true e3s];have hb7:∀{PK:PKT} {K:VWP},DoX prog (mBuild 42 #[(0,(.int .i64 7))]) w9 PK K=K (obV Ps.dict0 nilS nilS) w9:=do_eq (by kernel_rfl);rw[hb7];have ho:=(ho.nilU 42 6).nilU 9 1;refine o_oba ho fun b9 w10 ho=>?_;refine ob_put (o':=Ps.dict0) (vk':=nilS) (vc':=nilS) 0 rfl rfl ho rfl fun w11 ho=>?_;have ho:OwnS S0 w w11 ([obE b9 Ps.dict0 nilS nilS,keyE nilS [],kidE nilS 0 [],tokE b6 x.1,.mapB b5 al,obE b4 ob0 nilS nilS]++([orE b s x.1.t vl,.mem N]++[])):=ho;have ho:OwnS S0 w w11 (orM b s x.1.t vl N::[obE b9 Ps.dict0 nilS nilS,keyE nilS [],kidE nilS 0 [],tokE b6 x.1,.mapB b5 al,obE b4 ob0 nilS nilS]):=OwnS.pair ho.front;have ho:OwnS S0 w w11 ([orM b s x.1.t vl N,obE b9 Ps.dict0 nilS nilS,keyE nilS [],kidE nilS 0 []]++([tokE b6 x.1]++[.mapB b5 al,obE b4 ob0 nilS nilS])):=ho;have ho:=ho.front.tail;have ho:OwnS S0 w w11 ([]++([orM b s x.1.t vl N]++([obE b9 Ps.dict0 nilS nilS,keyE nilS [],kidE nilS 0 []]++([.mapB b5 al]++[obE b4 ob0 nilS nilS])))):=ho;have ho:OwnS S0 w w11 [obE b9 Ps.dict0 nilS nilS,keyE nilS [],kidE nilS 0 [],obE b4 ob0 nilS nilS,.mapB b5 al,orM b s x.1.t vl N]:=by
    refine ho.perm ?_;have p1:([.mapB b5 al,obE b4 ob0 nilS nilS]:List Ent).Perm [obE b4 ob0 nilS nilS,.mapB b5 al]:=List.Perm.swap _ _ _;exact (List.perm_append_comm (l₁:=[orM b s x.1.t vl N]) (l₂:=[obE b9 Ps.dict0 nilS nilS,keyE nilS [],kidE nilS 0 [],.mapB b5 al,obE b4 ob0 nilS nilS])).trans
     (((p1.append_left [obE b9 Ps.dict0 nilS nilS,keyE nilS [],kidE nilS 0 []])).append_right [orM b s x.1.t vl N])
   refine opbuild hkv hnd hmade hmx ho fun W N2 L v ho hle2 hv=>?_;subst hdict;exact hret rfl v N2 W L ho (hle.trans hle2) hv
  ·rw[if_neg (fun h=>e3s h.2),if_pos (by omega)] at hdict;simp only[decide_eq_true e3,rs,fa_t4',tk_s ho 0 rfl,decide_eq_false e3s,fa_t0,tk_k ho 0 rfl,fa_t1,tk_a ho 0 rfl];refine c_opmust (fun h=>absurd (of_decide_eq_true h) (by omega)) fun h=>?_;exact fall (L:=[_,_,_]) ⟨x.1.a,3⟩ ho hle hdict.symm (show (3:Int)≠0 by decide)
 rw[if_neg (fun h=>e3 h.1)] at hdict;simp only[decide_eq_false e3,rs,g_un,fa_t0,tk_k ho 0 rfl,fa_t1,tk_a ho 0 rfl];refine c_opmust (fun e4=>?_) fun e4=>?_
 rotate_left
 ·rw[if_pos (of_decide_eq_false e4)] at hdict;exact fall (L:=[_,_,_]) ⟨x.1.a,3⟩ ho hle hdict.symm (show (3:Int)≠0 by decide)
 have e4:x.1.k=4:=of_decide_eq_true e4;rw[if_neg (by simp[e4])] at hdict;rw[fa_t4',tk_s ho 0 rfl,lookT 1 ho rfl];simp only[ex];have hlook:∃o' vk vc,(lookA al x.1.s).getD (obV ob0 nilS nilS)=obV o' vk vc∧vk.oneCell'=true∧vc.oneCell'=true:=by
  cases hl:lookA al x.1.s with
 |none=>exact⟨ob0,nilS,nilS,rfl,rfl,rfl⟩
 |some v=>
   have hm:(x.1.s,v)∈al:=by
    unfold lookA at hl;obtain⟨p,hp,hpv⟩:=Option.map_eq_some_iff.1 hl;have h1:=List.find?_some hp;have h2:=List.mem_of_find?_eq_some hp;simp only[decide_eq_true_eq] at h1;rw[←h1,←hpv];exact h2
   obtain⟨q,_,hq⟩:=hkv.mem hm;obtain⟨vk,vc,cs,he,ha⟩:=hq.open;exact⟨q,vk,vc,he,ha.keys.one,ha.kids.one⟩
 obtain⟨o',vk7,vc7,hlv,ok7,oc7⟩:=hlook;rw[hlv];refine o_oba ho fun b7 w10 ho=>?_;refine ob_put (o':=o') 0 ok7 oc7 ho rfl fun w11 ho=>?_;have ho:=ho.tail;have ho:OwnS S0 w w11 [tokE b6 x.1,.mapB b5 al,obE b4 ob0 nilS nilS,orE b s x.1.t vl,.mem N]:=ho;have hmet:(lookA al x.1.s).isSome=decide (x.1.s∈l.map (·.1)):=by
  rw[←hkv.fst];cases hl:lookA al x.1.s with
 |none=>rw[decide_eq_false (lookA_none.1 hl)];rfl
 |some v=>
   have:¬x.1.s ∉ al.map (·.1):=fun h=>by rw[lookA_none.2 h] at hl;cases hl
   rw[decide_eq_true (Classical.not_not.1 this)];rfl
 simp only[rs,hmet,fa_t1,tk_a ho 0 rfl];refine c_opmust (fun e5=>?_) fun e5=>?_
 rotate_left
 ·have e5:x.1.s∈l.map (·.1):=by simpa using e5
  rw[if_pos e5] at hdict;exact fall (L:=[_,_,_]) ⟨x.1.a,9⟩ ho hle hdict.symm (show (9:Int)≠0 by decide)
 have e5:x.1.s ∉ l.map (·.1):=by simpa using e5
 rw[if_neg e5,List.length_map] at hdict;rw[lenM 1 ho rfl];simp only[rs,fa_t1,tk_a ho 0 rfl];refine c_opmust (fun e6=>?_) fun e6=>?_
 rotate_left
 ·have e6:=of_decide_eq_false e6;rw[if_pos (by omega)] at hdict;exact fall (L:=[_,_,_]) ⟨x.1.a,6⟩ ho hle hdict.symm (show (6:Int)≠0 by decide)
 have e6:=of_decide_eq_true e6;rw[if_neg (by omega)] at hdict;have hbd2:=@Lx.next_bd s x.1.t;have hob:(Ps.object s x.1.t).2.2=0→x.1.t < (Ps.object s x.1.t).2.1∧(Ps.object s x.1.t).2.1≤s.length:=fun h=>Bd.object_bd h;have hwt:(Ps.object s x.1.t).2.2=0→(Ps.object s x.1.t).1.wt≤10000000000:=fun h=>by
  have:=Ps.object_wt8 h;have:=Bd.object_bd h;omega
 refine c_oppeek ho (ho.at_ 3 rfl) (by omega) (fun f1 w12 ho=>?_) fun f1 w12 ho=>?_
 rotate_left
 ·rw[if_pos f1] at hdict;exact fall (L:=[_,_,_]) _ ho hle hdict.symm f1
 rw[if_neg (by simp[f1])] at hdict;generalize Lx.next s x.1.t=y at *
 refine o_tok ho fun b7 w13 ho=>?_;refine tk_put 0 ho rfl fun w14 ho=>?_;have ho:OwnS S0 w w14 [tokE b7 y.1,tokE b6 x.1,.mapB b5 al,obE b4 ob0 nilS nilS,orE b s x.1.t vl,.mem N]:=ho;refine quiet (q_do _ (fun _=>run_fa ft0) (q_at (.int .i64 y.1.k) (fun W hb=>tkr_k (ho.grow hb) 0 rfl) (q_ne ?_)));refine q_do _ (fun _=>run_nil) (q_do _ (fun _=>run_fa for0) (q_at _ (fun W hb=>orr_s ((ho.grow hb).at_ 4 rfl)) (q_slen Tryz.underlying9 ?_)));intro w15 hb;have ho:=ho.grow hb;refine c_opmust (fun f2=>?_) fun f2=>?_
 rotate_left
 ·have f2:y.1.k=0:=by simpa using f2
  rw[if_pos f2] at hdict;exact fall (L:=[_,_,_,_]) ⟨s.length,4⟩ ho hle hdict.symm (show (4:Int)≠0 by decide)
 have f2:y.1.k≠0:=of_decide_eq_true f2;rw[if_neg f2] at hdict;rw[tk_v ho 0 rfl];refine c_rmS [_,_,_,_] ho (fun h=>opobject_ret b s x.1.t vl y.1 N w15 hs h) (fun v N2 w16 hok hle2 hv ho=>?_) fun e2 w16 hn ho=>?_
 rotate_left
 ·by_cases g1:(Ps.object s x.1.t).2.2≠0
  ·rw[if_pos g1] at hdict;have:=fall (L:=[_,_,_,_]) _ ho hle hdict.symm g1;unfold obBad;rw[if_pos g1];exact this
  ·rw[if_neg g1] at hdict;have g2:Cs.refers (Ps.object s x.1.t).1=true:=by
    cases hc:Cs.refers (Ps.object s x.1.t).1 with
   |true=>rfl
   |false=>exact absurd ⟨Classical.not_not.1 g1,hc⟩ hn
   rw[if_pos g2] at hdict;have:=fall (L:=[_,_,_,_]) ⟨y.1.a,3⟩ ho hle hdict.symm (show (3:Int)≠0 by decide);unfold obBad;rw[if_neg g1];exact this
 obtain⟨g1,g2⟩:=hok;rw[if_neg (by simp[g1]),if_neg (by simp[g2])] at hdict;have hob:=hob g1;have hwt:=hwt g1;generalize Ps.object s x.1.t=e at *;have ho:OwnS S0 w w16 [tokE b7 y.1,tokE b6 x.1,.mapB b5 al,obE b4 ob0 nilS nilS,orE b s e.2.1 vl,.mem N2]:=ho;obtain⟨xk,xc,xcs,rfl,hx⟩:=hv.open;refine o_oba ho fun b8 w17 ho=>?_;refine ob_put (o':=e.1) 0 hx.keys.one hx.kids.one ho rfl fun w18 ho=>?_;have ho:OwnS S0 w w18 [obE b8 e.1 xk xc,tokE b7 y.1,tokE b6 x.1,.mapB b5 al,obE b4 ob0 nilS nilS,orE b s e.2.1 vl,.mem N2]:=ho;refine quiet (q_at (obV e.1 xk xc) (fun W hb=>run_load_at ((ho.grow hb).agg 0 rfl aggOb)) ?_);refine q_call (.int .i64 (Cs.depth e.1:Nat)) (fun W2 hb=>ret_grew (vdepth_ret _ e.1 _ W2 (Nat.le_refl _) hwt (OV.inw ((ho.grow hb).hasM 6 rfl) hv)) hb) (q_lss ?_);refine q_do _ (fun _=>run_fa ft1) (q_at (.int .i64 y.1.a) (fun W hb=>run_load_cell nInt5 ((ho.grow hb).cell 1 rfl 1 rfl)) ?_);intro w19 hb;have ho:=ho.grow hb;refine c_opmust (fun g3=>?_) fun g3=>?_
 rotate_left
 ·have g3:=of_decide_eq_false g3;rw[if_pos (by omega)] at hdict;exact fall (L:=[_,_,_,_,_]) ⟨y.1.a,7⟩ ho (hle.trans hle2) hdict.symm (show (7:Int)≠0 by decide)
 have g3:=of_decide_eq_true g3;rw[if_neg (by omega)] at hdict;rw[fa_t4',tk_s ho 2 rfl,ob_v ho 0 rfl];have hln:lookA al x.1.s=none:=lookA_none.2 (by rw[hkv.fst];exact e5);refine o_mapAddB 3 Tryz.underlying182 Tryz.underlying9 ho rfl x.1.s _ hln fun w20 ho=>?_;have hm2:=Ps.made_join (v:=e.1) hmade e5;have hnd2:((l++[(x.1.s,e.1)]).map (·.1)).Nodup:=by
  rw[List.map_append,List.nodup_append];refine⟨hnd,by simp,fun p hp q hq=>?_⟩;simp at hq;subst hq;exact fun h=>e5 (h▸hp)
 have h5:a' < e.2.1:=by
  have:=hob.1;omega
 refine nextX ⟨e.2.1,m,Ps.join o x.1.s e.1,l++[(x.1.s,e.1)],al++[(x.1.s,obV e.1 xk xc)],N2,rfl,by omega,hob.2,by simp;omega,by simp;omega,by simp;omega,?_,hle.trans hle2,(hkv.le hle2).snoc hx.ov,hnd2,hm2,ho.tail.tail.tail⟩ ?_
 ·rw[List.map_append];exact hdict
 ·have hat2:rdAt b w20=e.2.1.toNat:=orAt_is (ho.at_ 5 rfl);show s.length - rdAt b w20 < s.length - rdAt b w4;rw[hat,hat2];exact meas ha0 h5 hob.2
end
section
open Eng Go.RowKit
def OpOV (N:Mem)(v:Value)(o:Cop):Prop:=∃va acs,v=opV o va∧OpAt N.A N.w o va acs
theorem run_opb {W:World}(va:Value)(ha:va.oneCell'=true)(d:List UInt8):(mBuild 44 #[(0,.string ⟨#[66,73]⟩),(1,va),(2,.string ⟨d.toArray⟩)]).run prog W=.ok (.value (.agg #[.string ⟨#[66,73]⟩,va,.string ⟨d.toArray⟩])) W:=by
 cases va<;>first|(cases ha;done)|kernel_rfl
theorem opimage_ret (b:Nat)(s:List UInt8)(a:Int)(vl:Value)(M:Mem)(w:World)(h0:0≤a)(h1:a≤s.length)(hs:s.length≤1000000000)(hr:(Ent.two (orE b s a vl) (.mem M)).is w) :
  Lent prog 64 #[rdP b] (orE b s a vl) M w ((Cs.image s a).2.2.e=0) (orE b s (Cs.image s a).2.1 vl) (fun v N=>OpOV N v (Cs.image s a).1) [fltP (Cs.image s a).2.2.at_ (Cs.image s a).2.2.e]:=by
 generalize hR:Cs.image s a=R;refine lent_of (fun K ho hret hpan=>S_ops_reader_image_ok ?_) hr;unfold S_ops_reader_image;refine o_opa ho fun b2 w1 ho=>?_;generalize hS0:(Ent.two (orE b s a vl) (.mem M)).blk=S0 at *;have fall:∀{W:World} {L:List Ent} {e2:Ent} {N:Mem} (f:Cs.Flt),OwnS S0 w W (L++([e2,.mem N]++[]))→M.le N→R=(Cs.op0,0,f)→f.e≠0→pk K [fltP f.at_ f.e] W:=by
  intro W L e2 N f ho hle he h0;subst he;exact hpan h0 e2 N W _ ho.front hle
 have hkb:=fun h=>Cs.keys_bd (s:=s) (s.length+1) (a:=a) (o:=Ps.dict0) (met:=[]) h;unfold Cs.image at hR;simp only at hR;refine c_rmS [_] ho (fun h=>opkeys_ret b s a vl M w1 h0 h1 hs h) (fun v N w2 hok hle hv ho=>?_) fun e2 w2 hn ho=>?_
 rotate_left
 ·rw[if_pos hn] at hR;exact fall (L:=[_]) _ ho M.le_refl hR.symm hn
 rw[if_neg (by simp[hok])] at hR;have hkb:=hkb hok;generalize Cs.keys s (s.length+1) a Ps.dict0 []=d at *;have ho:OwnS S0 w w2 [opE b2 Cs.op0 nilS,orE b s d.2.1 vl,.mem N]:=ho;obtain⟨xk,xc,xcs,rfl,hx⟩:=hv.open;refine o_oba ho fun b3 w3 ho=>?_;refine ob_put (o':=d.1) 0 hx.keys.one hx.kids.one ho rfl fun w4 ho=>?_;have ho:OwnS S0 w w4 [obE b3 d.1 xk xc,opE b2 Cs.op0 nilS,orE b s d.2.1 vl,.mem N]:=ho;refine quiet (q_do _ (fun _=>run_nil) (q_do _ (fun _=>run_fa for1) (q_at _ (fun W hb=>orr_a ((ho.grow hb).at_ 2 rfl)) ?_)));refine q_call (.bool (Cs.whiteAt s d.2.1)) (fun W hb=>Ret.mono (opwhite_ret b s d.2.1 vl d.2.1 W (by omega) (by omega) ((ho.grow hb).at_ 2 rfl)) fun v w' h=>⟨h.1,h.2▸hb⟩) ?_;refine q_do _ (fun _=>run_nil) (q_do _ (fun _=>run_fa for1) (q_at _ (fun W hb=>orr_a ((ho.grow hb).at_ 2 rfl)) ?_));intro w5 hb;have ho:=ho.grow hb;refine c_opmust (fun hw=>?_) fun hw=>?_
 rotate_left
 ·rw[if_pos hw] at hR;exact fall (L:=[_,_]) ⟨d.2.1,3⟩ ho hle hR.symm (show (3:Int)≠0 by decide)
 rw[if_neg (by simp[hw])] at hR;have ht:d.2.1 < s.length:=by
  unfold Cs.whiteAt at hw;apply Classical.byContradiction;intro hn;rw[List.getElem?_eq_none (by omega)] at hw;simp at hw
 simp only[rs,fa_or1,or_a (ho.at_ 2 rfl)];rw[wrap64_id (by omega) (by omega)];generalize hF:Cs.findE s (s.length+1) (d.2.1.toNat+1)=F at hR;refine loop (fun vs w'=>∃(i m:Nat),vs=[.int .i64 (i:Int)]∧d.2.1+1≤i∧i≤s.length∧s.length+1≤i+m∧F=Cs.findE s m i∧OwnS S0 w w' [obE b3 d.1 xk xc,opE b2 Cs.op0 nilS,orE b s d.2.1 vl,.mem N]) (fun vs _=>s.length - n0 vs)
  ⟨d.2.1.toNat+1,s.length+1,by rw[show ((d.2.1.toNat+1:Nat):Int)=d.2.1+1 by omega],by omega,by omega,by omega,hF.symm,ho⟩ ?_
 clear ho;rintro vs w6 ⟨i,m,rfl,hi1,hi2,him,hf,ho⟩ _;simp only[S_ops_reader_image_0,gd];rw[m_nil,fa_or0,or_s (ho.at_ 2 rfl),s_len Tryz.underlying9];simp only[rs];obtain⟨m,rfl⟩:∃k,m=k+1:=⟨m - 1,by omega⟩;rw[Cs.findE] at hf;by_cases hlt:(i:Int) < (s.length:Int)
 ·have hi':i < s.length:=by omega
  rw[if_neg (by omega)] at hf;simp only[decide_eq_true hlt,i_t,fa_or0,or_s (ho.at_ 2 rfl)];refine c_eq (opends_ret s i w6 hi' (by omega)) ?_;cases he:Cs.ends s i with
 |false=>
   rw[he,if_neg (by simp)] at hf;simp only[i_f,rs];rw[wrap64_id (by omega) (by omega)];exact nextX ⟨i+1,m,rfl,by omega,by omega,by omega,hf,ho⟩ (by simp[n0,RowKit.intOf];omega)
 |true=>
   rw[he,if_pos rfl] at hf;rw[hf] at hR;simp only at hR;simp only[i_t,rs];rw[wrap64_id (by omega) (by omega),fa_or1];refine or_put 2 ho rfl fun w7 ho=>?_;have ho:OwnS S0 w w7 [obE b3 d.1 xk xc,opE b2 Cs.op0 nilS,orE b s ((i:Int)+3) vl,.mem N]:=ho;have ho:=ho.drew;refine⟨fun W=>(obE b3 d.1 xk xc).is W∧(orE b s ((i:Int)+3) vl).is W,⟨ho.at_ 0 rfl,ho.at_ 2 rfl⟩,?_⟩;refine hd_do (obV d.1 xk xc) (fun W h=>run_load_at (AtV.agg aggOb (cs:=obC d.1 xk xc) rfl fun j u hj=>by rw[Nat.zero_add];exact cells_cell (T:=42) h.1 hj)) ?_;refine hd_pure _ (fun _=>run_nil) (hd_pure _ (fun _=>run_fa for0) (hd_do _ (fun W h=>orr_s h.2) ?_));refine hd_pure (.string ⟨((s.drop (d.2.1.toNat+1)).take (i - (d.2.1.toNat+1))).toArray⟩) (fun Wx=>?_) ?_
   ·have:=run_s_slice (P:=prog) (w:=Wx) (T:=9) (a:=s) (k:=.i64) (k':=.i64) (lo:=d.2.1+1) (hi:=(i:Int)) Tryz.underlying9 (by omega) (by omega) (by omega);rw[show (d.2.1+1).toNat=d.2.1.toNat+1 by omega,Int.toNat_natCast] at this;exact this
   refine o_obs1 d.1 hx.keys.one hx.kids.one ho fun nb w8 ho=>⟨⟨ho.at_ 1 rfl,ho.at_ 3 rfl⟩,?_⟩;refine hd_pure _ (fun _=>run_opb _ rfl _) ?_;refine op_put (o':=⟨Cs.biW,[d.1],(s.drop (d.2.1.toNat+1)).take (i - (d.2.1.toNat+1))⟩) (va':=.slice (some ⟨nb,0,none⟩) 1 1) 2 rfl ho rfl fun w9 ho=>?_;refine ret_v1 (rv_cell (ho.agg 2 rfl aggOp)) ?_;have ho:=ho.toU 6 1 1 (by rfl) (by omega) (by omega);obtain⟨N2,hle2,hrow,ho⟩:=OwnS.freezeU (L:=[obE b3 d.1 xk xc,opE b2 ⟨Cs.biW,[d.1],(s.drop (d.2.1.toNat+1)).take (i - (d.2.1.toNat+1))⟩ (.slice (some ⟨nb,0,none⟩) 1 1),orE b s ((i:Int)+3) vl,.mem N]) ho 3 rfl;subst hR;have ho:OwnS S0 w w9 ([obE b3 d.1 xk xc,opE b2 ⟨Cs.biW,[d.1],(s.drop (d.2.1.toNat+1)).take (i - (d.2.1.toNat+1))⟩ (.slice (some ⟨nb,0,none⟩) 1 1)]++([orE b s ((i:Int)+3) vl,.mem N2]++[])):=ho;exact hret rfl _ N2 w9 _ ho.front (hle.trans hle2) ⟨_,_,rfl,hrow,ovs_1 (hx.ov.le hle2)⟩
 ·rw[if_pos (by omega)] at hf;rw[hf] at hR;simp only at hR;simp only[decide_eq_false hlt,i_f,rs,fa_or0,or_s (ho.at_ 2 rfl),s_len Tryz.underlying9];refine c_pan (opfail_pan _ _ w6) fun c w' ⟨hc,hw⟩=>?_;subst hc;subst hw;exact fall (L:=[_,_]) ⟨s.length,4⟩ ho hle hR.symm (show (4:Int)≠0 by decide)
theorem run_opa {W:World}{PK:PKT}{K:VWP}(n:List UInt8)(va:Value)(ha:va.oneCell'=true):DoX prog (mBuild 44 #[(0,.string ⟨n.toArray⟩),(1,va)]) W PK K=K (.agg #[.string ⟨n.toArray⟩,va,.string ⟨#[]⟩]) W:=by
 cases va<;>first|(cases ha;done)|exact do_eq (by kernel_rfl)
theorem opoperator_ret (b:Nat)(s:List UInt8)(a:Int)(p:Option Addr)(n cap:Nat)(t:Lx.Tok)(args:List Ob)(va:Value)(cs:List Value)(M:Mem)(w:World)(h0:0≤t.t)(h1:t.t≤s.length)(hs:s.length≤1000000000)
  (hsl:SlA M.A M.w va 6 args.length cs) (hall:OVs M.A M.w cs args) (hr:(Ent.two (orE b s a (.slice p n cap)) (.mem M)).is w) :
  Lent prog 39 #[rdP b,tokV t,va] (orE b s a (.slice p n cap)) M w ((Cs.operator s t n args).2.2.e=0) (orE b s (Cs.operator s t n args).2.1 (.slice p n cap)) (fun v N=>OpOV N v (Cs.operator s t n args).1) [fltP (Cs.operator s t n args).2.2.at_ (Cs.operator s t n args).2.2.e]:=by
 generalize hR:Cs.operator s t n args=R;refine lent_of (fun K ho hret hpan=>S_ops_reader_operator_ok ?_) hr;unfold S_ops_reader_operator;refine o_tkb t ho fun b4 w1 ho=>?_;refine o_opa ho fun b6 w2 ho=>?_;generalize hS0:(Ent.two (orE b s a (.slice p n cap)) (.mem M)).blk=S0 at *;have fall:∀{W:World} {L:List Ent} {e2:Ent} {N:Mem} (f:Cs.Flt),OwnS S0 w W (L++([e2,.mem N]++[]))→M.le N→R=(Cs.op0,0,f)→f.e≠0→pk K [fltP f.at_ f.e] W:=by
  intro W L e2 N f ho hle he h0;subst he;exact hpan h0 e2 N W _ ho.front hle
 unfold Cs.operator at hR;have ho:OwnS S0 w w2 [opE b6 Cs.op0 nilS,tokE b4 t,orE b s a (.slice p n cap),.mem M]:=ho;refine quiet (q_do _ (fun _=>run_nil) (q_do _ (fun _=>run_fa for2) (q_at (.slice p n cap) (fun W hb=>run_load_cell nSlOp (cells_cell (T:=49) (cs:=orC s a (.slice p n cap)) (i:=2) ((ho.grow hb).at_ 2 rfl) rfl)) ?_)));refine q_do _ (fun _=>run_len_sl Tryz.underlying23) (q_lss ?_);refine q_do _ (fun _=>run_fa ft1) (q_at (.int .i64 t.a) (fun W hb=>run_load_cell nInt5 ((ho.grow hb).cell 1 rfl 1 rfl)) ?_);intro w3 hb;have ho:=ho.grow hb;refine c_opmust (fun hn=>?_) fun hn=>?_
 rotate_left
 ·rw[if_pos (by have:=of_decide_eq_false hn;omega)] at hR;exact fall (L:=[_,_]) ⟨t.a,6⟩ ho M.le_refl hR.symm (show (6:Int)≠0 by decide)
 rw[if_neg (by have:=of_decide_eq_true hn;omega)] at hR;rw[fa_t2,tk_t ho 1 rfl];simp only[rs,fa_or1];refine or_put 2 ho rfl fun w4 ho=>?_;have ho:OwnS S0 w w4 [opE b6 Cs.op0 nilS,tokE b4 t,orE b s t.t (.slice p n cap),.mem M]:=ho;refine join fun J hJ=>?_;rw[fa_t4',tk_s ho 1 rfl];simp only[rs];by_cases hb:t.s=[66,73]
 ·rw[if_pos (show t.s=Cs.biW from hb)] at hR;simp only[decide_eq_true hb,i_t];rw[sl_len Tryz.underlying40 (hsl.now (ho.hasM 3 rfl))];simp only[rs,fa_t1,tk_a ho 1 rfl];refine c_opmust (fun hl=>?_) fun hl=>?_
  rotate_left
  ·rw[if_pos (by intro e;rw[e] at hl;simp at hl)] at hR;exact fall (L:=[_,_]) ⟨t.a,3⟩ ho M.le_refl hR.symm (show (3:Int)≠0 by decide)
  have hl:args=[]:=by
   have:=of_decide_eq_true hl;exact List.length_eq_zero_iff.1 (by omega)
  rw[if_neg (by simp[hl])] at hR;refine c_rmS [_,_] ho (fun h=>opimage_ret b s t.t _ M w4 h0 h1 hs h) (fun v N w5 hok hle hv ho=>?_) fun e2 w5 hn ho=>?_
  rotate_left
  ·subst hR;exact hpan hn e2 M w5 _ (OwnS.front (A:=[_,_]) (B:=[_,_]) (C:=[]) ho) M.le_refl
  obtain⟨va',acs,rfl,hx⟩:=hv;have ho:OwnS S0 w w5 [opE b6 Cs.op0 nilS,tokE b4 t,orE b s (Cs.image s t.t).2.1 (.slice p n cap),.mem N]:=ho;refine op_put (o':=(Cs.image s t.t).1) 0 hx.one ho rfl fun w6 ho=>?_;refine ret_v1 (rv_cell (ho.agg 0 rfl aggOp)) ?_;subst hR;exact hret hok _ N w6 _ (OwnS.front (A:=[_,_]) (B:=[_,_]) (C:=[]) ho) hle ⟨va',acs,rfl,hx⟩
 ·rw[if_neg (show ¬t.s=Cs.biW from hb)] at hR;simp only[decide_eq_false hb,i_f];refine join fun J3 hJ3=>?_;have bad:t.s=Cs.idW∨t.s=Cs.eiW∨t.s=Cs.rW→J3 [.bool true] w4:=by
   intro h;rw[if_pos h] at hR;refine hJ3 _ _ fun _=>?_;simp only[S_ops_reader_operator_0,gd,i_t,fa_t1,tk_a ho 1 rfl];refine c_pan (opfail_pan _ _ w4) fun c w' ⟨hc,hw⟩=>?_;subst hc;subst hw;exact fall (L:=[_,_]) ⟨t.a,3⟩ ho M.le_refl hR.symm (show (3:Int)≠0 by decide)
  by_cases g1:t.s=[73,68]
  ·simp only[decide_eq_true g1,i_t];exact bad (.inl g1)
  simp only[decide_eq_false g1,i_f];by_cases g2:t.s=[69,73]
  ·simp only[decide_eq_true g2,i_t];exact bad (.inr (.inl g2))
  simp only[decide_eq_false g2,i_f];by_cases g3:t.s=[82]
  ·simp only[decide_eq_true g3];exact bad (.inr (.inr g3))
  simp only[decide_eq_false g3];refine hJ3 _ _ fun _=>?_;simp only[S_ops_reader_operator_0,gd,i_f];refine hJ _ _ fun _=>?_;unfold S_ops_reader_operator_1;rw[if_neg (by
   rintro (h|h|h)
   ·exact g1 h
   ·exact g2 h
   ·exact g3 h)] at hR
  rw[fa_t4',tk_s ho 1 rfl,run_opa _ _ hsl.one];refine op_put (o':=⟨t.s,args,[]⟩) (va':=va) 0 hsl.one ho rfl fun w6 ho=>?_;refine ret_v1 (rv_cell (ho.agg 0 rfl aggOp)) ?_;subst hR;exact hret rfl _ M w6 _ (OwnS.front (A:=[_,_]) (B:=[_,_]) (C:=[]) ho) M.le_refl ⟨va,cs,rfl,hsl,hall⟩
end
section
open Eng Go.RowKit
theorem elOp:elB prog 44 3 56=true:=by kernel_rfl
section
variable {w:World}{PK:PKT}{K:VWP}{S:Nat→Prop}{w0:World}{L:List Ent}
theorem o_apP (i:Nat){v v2:Value}{n m:Nat}{xs news:List Value}{cb:Array Bool}(ho:OwnS S w0 w L)(hi:L[i]?=some (.urow 44 3 v n xs))(hs:Sl w v2 3 m news)(h1:∀u∈news,u.oneCell'=true)(hb:n+m≤1000000000000)
  (k:∀v' w',OwnS S w0 w' (L.set i (.urow 44 3 v' (n+m) (xs++news)))→K v' w'):DoX prog (mB .append #[23,23] 23 cb #[v,v2]) w PK K:=
 o_appendU i Tryz.underlying23 elOp (by decide) ho hi hs h1 (by omega) (by omega) k
theorem o_ops1 (o:Cop){va:Value}(ha:va.oneCell'=true)(ho:OwnS S w0 w L)(k:∀b w',OwnS S w0 w' (opE b o va::L)→K (.slice (some ⟨b,0,none⟩) 1 1) w'):DoX prog (mBuildS 23 1 #[(0,opV o va)]) w PK K:=by
 cases va<;>first|(cases ha;done)|exact o_new (fun b=>.slice (some ⟨b,0,none⟩) 1 1) (opC o _) 44 (fun _=>by kernel_rfl) ho k
end
theorem opread1_plain:plainB prog 35=true:=by kernel_rfl
theorem opread_ret (b:Nat)(s:List UInt8)(M:Mem)(w:World)(hs:s.length≤1000000000)(hr:(Ent.two (orE b s 0 nilS) (.mem M)).is w) :
  Ret prog 16 #[rdP b] w (fun v w'=>v=fltV ((Cs.read s).2.at_,(Cs.read s).2.e)∧∃(N:Mem) (e2:Ent),M.le N∧Turn (.two (orE b s 0 nilS) (.mem M)) (.two e2 (.mem N)) w w' ∧
   ((Cs.read s).2.e=0→∃a vl,e2=orE b s a vl∧OpsV N.A N.w vl (Cs.read s).1)):=by
 generalize hR:Cs.read s=R;refine ret_of fun K hK=>S_ops_reader_read_ok ?_;unfold S_ops_reader_read;have ho:OwnS (Ent.two (orE b s 0 nilS) (.mem M)).blk w w [.two (orE b s 0 nilS) (.mem M)]:=OwnS.lend hr;generalize hS0:(Ent.two (orE b s 0 nilS) (.mem M)).blk=S0 at ho;refine o_flt ho.split fun b2 w1 ho=>?_;rw[m_func];refine⟨_,rfl,?_⟩;have out:∀{W:World} {L:List Ent} {e2:Ent} {N:Mem} {v:Value},OwnS S0 w W (L++([e2,.mem N]++[]))→M.le N→v=fltV (R.2.at_,R.2.e)→(R.2.e=0→∃a vl,e2=orE b s a vl∧OpsV N.A N.w vl R.1)→K (.returned v) W:=by
  intro W L e2 N v ho hle hv he;have ho:=OwnS.pair ho.front;subst hS0;exact hK _ _ ⟨hv,N,e2,hle,OwnS.back ho,he⟩
 have fall:∀{W:World} {L:List Ent} {e2:Ent} {N:Mem} (f:Cs.Flt),OwnS S0 w W (L++([fltE b2 (0,0),e2,.mem N]++[]))→M.le N→R=([],f)→f.e≠0 →
   S_ops_reader_read_p0 { target:=.fn (.func 35) #[.pointer (some ⟨b2,0,none⟩)],args:=#[]++#[] } (.pointer (some ⟨b2,0,none⟩)) K [fltP f.at_ f.e] W:=by
  intro W L e2 N f ho hle he h0;have ho:=ho.front;show pd prog _ K _ [fltP f.at_ f.e] W;unfold pd;refine leave_fn (by simp) opread1_plain (S_ops_reader_read_1_dok (t0:=.pointer (some ⟨b2,0,none⟩)) ?_);simp only[S_ops_reader_read_1,recV,recM,fltP,Eng.e_some Tryz.underlying20,rs,t_hit nfF,ex,i_t,i_f];refine o_flt ho fun b5 w5 ho=>?_;refine flt_put (g:=(f.at_,f.e)) 0 ho rfl fun w6 ho=>?_;have ho:OwnS S0 w w6 (fltE b5 (f.at_,f.e)::fltE b2 (0,0)::e2::.mem N::(L++[])):=ho;rw[l_at (ho.agg 0 rfl aggFlt)];refine flt_put (f:=(0,0)) (g:=(f.at_,f.e)) 1 ho rfl fun w7 ho=>?_;have ho:OwnS S0 w w7 ([fltE b5 (f.at_,f.e),fltE b2 (f.at_,f.e)]++([e2,.mem N]++(L++[]))):=ho;refine ret_v1 (rv_cell (ho.agg 1 rfl aggFlt)) ?_;have hlast:=ho;have ho:=OwnS.pair ho.front;subst hS0;exact hK _ _ ⟨by rw[he];rfl,N,e2,hle,OwnS.back ho,fun h=>by rw[he] at h;exact absurd h h0⟩
 have ho:=(ho.nilU 44 3).nilU 42 6;refine loop (fun vs w'=>∃(a':Int) (m:Nat) (l:List Cop) (args:List Ob) (va vl:Value) (oc ac:List Value) (N:Mem),vs=[va]∧0≤a'∧a'≤s.length∧(s.length:Int)+1≤a'+m∧(l.length:Int)≤a'∧args.length≤32 ∧
   Cs.readG s m a' l args=R∧M.le N∧PVs N.A N.w oc l∧OVs N.A N.w ac args ∧
   OwnS S0 w w' [.urow 42 6 va args.length ac,.urow 44 3 vl l.length oc,fltE b2 (0,0),orE b s a' vl,.mem N]) (fun _ w=>s.length - rdAt b w)
  ⟨0,s.length+1,[],[],nilS,nilS,[],[],M,rfl,by omega,by omega,by omega,by simp,by simp,hR,M.le_refl,.nil,OVs.nil,ho⟩ ?_
 clear ho hR;rintro vs w4 ⟨a',m,l,args,va,vl,oc,ac,N,rfl,ha0,ha1,hml,hla,hal,hdict,hle,hpv,hov,ho⟩ _;simp only[S_ops_reader_read_0,gd];obtain⟨m,rfl⟩:∃k,m=k+1:=⟨m - 1,by omega⟩;have hat:rdAt b w4=a'.toNat:=orAt_is (ho.at_ 3 rfl);rw[Cs.readG] at hdict;have hbd:=@Lx.next_bd s a';have hge:=Lx.skip_ge s a'.toNat;have hopb:=@Cs.operator_bd s a' l.length args;have hob:(Ps.object s a').2.2=0→a' < (Ps.object s a').2.1∧(Ps.object s a').2.1≤s.length:=fun h=>Bd.object_bd h;refine c_oppeek ho (ho.at_ 3 rfl) (by omega) (fun e1 w5 ho=>?_) fun e1 w5 ho=>?_
 rotate_left
 ·rw[if_pos e1] at hdict;exact fall (L:=[_,_]) _ ho hle hdict.symm e1
 rw[if_neg (by simp[e1])] at hdict;generalize Lx.next s a'=x at *
 refine o_tok ho fun b4 w6 ho=>?_;refine tk_put 0 ho rfl fun w7 ho=>?_;have ho:OwnS S0 w w7 [tokE b4 x.1,.urow 42 6 va args.length ac,.urow 44 3 vl l.length oc,fltE b2 (0,0),orE b s a' vl,.mem N]:=ho;rw[fa_t0,tk_k ho 0 rfl];simp only[rs];by_cases e2:x.1.k=0
 ·rw[if_pos e2] at hdict;simp only[decide_eq_true e2,i_t];rw[sl_len Tryz.underlying40 (ho.slU 1 rfl)];simp only[rs,fa_or0,or_s (ho.at_ 4 rfl),s_len Tryz.underlying9];refine c_opmust (fun hl=>?_) fun hl=>?_
  rotate_left
  ·rw[if_pos (by intro e;rw[e] at hl;simp at hl)] at hdict;exact fall (L:=[_,_,_]) ⟨s.length,4⟩ ho hle hdict.symm (show (4:Int)≠0 by decide)
  have hl:args=[]:=List.length_eq_zero_iff.1 (by have:=of_decide_eq_true hl;omega);rw[if_neg (by simp[hl])] at hdict;have hb0:∀{PK:PKT} {K:VWP},DoX prog (mBuild 26 #[]) w7 PK K=K (fltV (0,0)) w7:=do_eq (by kernel_rfl);rw[hb0];refine flt_put (f:=(0,0)) (g:=(0,0)) 3 ho rfl fun w8 ho=>?_;refine leave_fn (by simp) opread1_plain (S_ops_reader_read_1_dok (t0:=.pointer (some ⟨b2,0,none⟩)) ?_);simp only[S_ops_reader_read_1,recV,recM,Eng.e_nil Tryz.underlying20,rs];refine ret_v1 (rv_cell (ho.agg 3 rfl aggFlt)) ?_;have ho:OwnS S0 w w8 ([tokE b4 x.1,.urow 42 6 va args.length ac]++([.urow 44 3 vl l.length oc]++[fltE b2 (0,0),orE b s a' vl,.mem N])):=ho;have ho:OwnS S0 w w8 (.urow 44 3 vl l.length oc::[tokE b4 x.1,.urow 42 6 va args.length ac,fltE b2 (0,0),orE b s a' vl,.mem N]):=ho.front;obtain⟨N2,hle2,hrow,ho⟩:=OwnS.freezeU (L:=[tokE b4 x.1,.urow 42 6 va args.length ac,fltE b2 (0,0),orE b s a' vl,.mem N]) ho 4 rfl;subst hdict;exact out (L:=[_,_,_]) ho (hle.trans hle2) rfl fun _=>⟨a',vl,rfl,oc,hrow,PVs.le hle2 hpv⟩
 rw[if_neg e2] at hdict;have hbd:=hbd e1 e2;have hopb:=fun h=>hopb e1 e2 h;simp only[decide_eq_false e2,i_f,fa_t0,tk_k ho 0 rfl,rs];by_cases e5:x.1.k=5∧Cs.constant x.1.s=false
 ·rw[if_pos e5] at hdict;simp only[decide_eq_true e5.1,rs,fa_t4',tk_s ho 0 rfl];refine c_eq (opconst_ret x.1.s w7) ?_;simp only[e5.2,rs,Bool.not_false];have ho:OwnS S0 w w7 ([tokE b4 x.1]++([.urow 42 6 va args.length ac]++[.urow 44 3 vl l.length oc,fltE b2 (0,0),orE b s a' vl,.mem N])):=ho;have ho:OwnS S0 w w7 (.urow 42 6 va args.length ac::[tokE b4 x.1,.urow 44 3 vl l.length oc,fltE b2 (0,0),orE b s a' vl,.mem N]):=ho.front;obtain⟨N2,hle2,hrow,ho⟩:=OwnS.freezeU (L:=[tokE b4 x.1,.urow 44 3 vl l.length oc,fltE b2 (0,0),orE b s a' vl,.mem N]) ho 4 rfl;have ho:OwnS S0 w w7 [tokE b4 x.1,.urow 44 3 vl l.length oc,fltE b2 (0,0),orE b s a' vl,.mem N2]:=ho;obtain⟨p,cap,rfl⟩:∃p cap,vl=.slice p l.length cap:=by
   obtain⟨_,p,cap,e,_⟩:=ho.slU 1 rfl;exact⟨p,cap,e⟩
  have ho:=ho.drew;refine⟨fun W=>(∃a2,(orE b s a2 (.slice p l.length cap)).is W)∧(tokE b4 x.1).is W,⟨⟨_,ho.at_ 3 rfl⟩,ho.at_ 0 rfl⟩,?_⟩;refine hd_pure _ (fun _=>run_nil) (hd_pure _ (fun _=>run_fa for2) (hd_do (.slice p l.length cap) (fun W h=>?_) ?_))
  ·obtain⟨a2,h2⟩:=h.1;exact run_load_cell nSlOp (cells_cell (T:=49) (cs:=orC s a2 (.slice p l.length cap)) (i:=2) h2 rfl)
  refine hd_do (tokV x.1) (fun W h=>run_load_at (AtV.agg aggTok (cs:=tokC x.1) rfl fun j u hj=>by rw[Nat.zero_add];exact cells_cell (T:=53) h.2 hj)) ?_;refine c_rmS [_,_,_] ho (fun h=>opoperator_ret b s a' p l.length cap x.1 args va ac N2 _ (by omega) (by omega) hs hrow (hov.le hle2) h) (fun v N3 w9 hok hle3 hv ho=>?_) fun e2 w9 hn ho=>?_
  rotate_left
  ·rw[if_pos hn] at hdict;exact fun _ _ _ _ _ _ _ _ _ _=>fall (L:=[_,_]) _ ho (hle.trans hle2) hdict.symm hn
  rw[if_neg (by simp[hok])] at hdict;have hopb:=hopb hok;generalize Cs.operator s x.1 l.length args=y at *;have ho:OwnS S0 w w9 [tokE b4 x.1,.urow 44 3 (.slice p l.length cap) l.length oc,fltE b2 (0,0),orE b s y.2.1 (.slice p l.length cap),.mem N3]:=ho;refine⟨⟨⟨_,ho.at_ 3 rfl⟩,ho.at_ 0 rfl⟩,?_⟩;obtain⟨va',acs,rfl,hx⟩:=hv;refine o_ops1 y.1 hx.one ho fun nb w10 ho=>⟨⟨⟨_,ho.at_ 4 rfl⟩,ho.at_ 1 rfl⟩,?_⟩;refine o_apP 2 ho rfl (ho.sl 0 rfl 3 1 1 rfl) (opC_one _ hx.one) (by omega) fun vl' w11 ho=>?_;have hvl':=urow_one (ho.at_ 2 rfl);refine⟨⟨⟨_,ho.at_ 4 rfl⟩,ho.at_ 1 rfl⟩,?_⟩;refine hd_pure _ (fun _=>run_nil) (hd_pure _ (fun _=>run_fa for2) ?_);refine o_store 4 ho rfl (by kernel_rfl) hvl' (show 2 < 3 by omega) fun w12 ho=>?_;have ho:=ho.tail.tail;have ho:OwnS S0 w w12 [.urow 44 3 vl' (l++[y.1]).length (oc++opC y.1 va'),fltE b2 (0,0),orE b s y.2.1 vl',.mem N3]:=by
   rw[List.length_append,List.length_singleton];exact ho
  have ho:=ho.nilU 42 6;refine AtX.mk rfl (nextX ⟨y.2.1,m,l++[y.1],[],nilS,vl',oc++opC y.1 va',[],N3,rfl,by omega,by omega,by omega,by simp;omega,by simp,hdict,(hle.trans hle2).trans hle3,Rws.snoc ⟨va',acs,rfl,hx⟩ (PVs.le (hle2.trans hle3) hpv),OVs.nil,ho⟩ ?_);have hat2:rdAt b w12=y.2.1.toNat:=orAt_is (ho.at_ 3 rfl);show s.length - rdAt b w12 < s.length - rdAt b w4;rw[hat,hat2];exact meas ha0 hopb.2.1 hopb.2.2
 ·rw[if_neg e5] at hdict;have hsel:x.1.k=5→Cs.constant x.1.s=true:=by
   intro h5;cases hc:Cs.constant x.1.s with
  |true=>rfl
  |false=>exact absurd ⟨h5,hc⟩ e5
  have rest:OwnS S0 w w7 [tokE b4 x.1,.urow 42 6 va args.length ac,.urow 44 3 vl l.length oc,fltE b2 (0,0),orE b s a' vl,.mem N] →
    ∀{D:Deferred} {Z:List Value→World→Prop},D={ target:=.fn (.func 35) #[.pointer (some ⟨b2,0,none⟩)],args:=#[]++#[] }→(∀vs w',NextX (fun vs w'=>∃(a':Int) (m:Nat) (l:List Cop) (args:List Ob) (va vl:Value) (oc ac:List Value) (N:Mem),vs=[va]∧0≤a'∧a'≤s.length∧(s.length:Int)+1≤a'+m∧(l.length:Int)≤a'∧args.length≤32 ∧
   Cs.readG s m a' l args=R∧M.le N∧PVs N.A N.w oc l∧OVs N.A N.w ac args ∧
   OwnS S0 w w' [.urow 42 6 va args.length ac,.urow 44 3 vl l.length oc,fltE b2 (0,0),orE b s a' vl,.mem N]) (fun _ w=>s.length - rdAt b w) [va] w4 vs w'→Z vs w') →
    DoX prog (mLoad 53 (.pointer (some ⟨b4,0,none⟩))) w7 (S_ops_reader_read_p0 D (.pointer (some ⟨b2,0,none⟩)) K) fun t10 w=>
 CallX prog 40 #[rdP b,t10] w (S_ops_reader_read_p0 D (.pointer (some ⟨b2,0,none⟩)) K) fun t11 w=>
 DoX prog (mAlloc 42) w (S_ops_reader_read_p0 D (.pointer (some ⟨b2,0,none⟩)) K) fun t5 w=>
 DoX prog (mStore 42 t5 t11) w (S_ops_reader_read_p0 D (.pointer (some ⟨b2,0,none⟩)) K) fun _ w=>
 DoX prog (mB .len #[40] 3 #[false] #[va]) w (S_ops_reader_read_p0 D (.pointer (some ⟨b2,0,none⟩)) K) fun t13 w=>
 DoX prog (mBin .lss 3 t13 (.int .i64 32)) w (S_ops_reader_read_p0 D (.pointer (some ⟨b2,0,none⟩)) K) fun t14 w=>
 DoX prog (mFA 53 (.pointer (some ⟨b4,0,none⟩)) 1) w (S_ops_reader_read_p0 D (.pointer (some ⟨b2,0,none⟩)) K) fun t15 w=>
 DoX prog (mLoad 3 t15) w (S_ops_reader_read_p0 D (.pointer (some ⟨b2,0,none⟩)) K) fun t16 w=>
 CallX prog 37 #[t14,t16,(.int .i64 6)] w (S_ops_reader_read_p0 D (.pointer (some ⟨b2,0,none⟩)) K) fun t17 w=>
 DoX prog (mLoad 42 t5) w (S_ops_reader_read_p0 D (.pointer (some ⟨b2,0,none⟩)) K) fun t19 w=>
 DoX prog (mBuildS 40 1 #[(0,t19)]) w (S_ops_reader_read_p0 D (.pointer (some ⟨b2,0,none⟩)) K) fun t20 w=>
 DoX prog (mB .append #[40,40] 40 #[false,false] #[va,t20]) w (S_ops_reader_read_p0 D (.pointer (some ⟨b2,0,none⟩)) K) fun t21 w=>
 AtX [D] [D] (Z [t21] w):=by
   intro ho D Z hD hZ;subst hD;rw[tk_v ho 0 rfl];refine c_rmS [_,_,_,_] ho (fun h=>opobject_ret b s a' vl x.1 N w7 hs h) (fun v N2 w9 hok hle2 hv ho=>?_) fun e2 w9 hn ho=>?_
   rotate_left
   ·by_cases g1:(Ps.object s a').2.2≠0
    ·rw[if_pos g1] at hdict;have:=fall (L:=[_,_,_]) _ ho hle hdict.symm g1;unfold obBad;rw[if_pos g1];exact this
    ·rw[if_neg g1] at hdict;have g2:Cs.refers (Ps.object s a').1=true:=by
      cases hc:Cs.refers (Ps.object s a').1 with
     |true=>rfl
     |false=>exact absurd ⟨Classical.not_not.1 g1,hc⟩ hn
     rw[if_pos g2] at hdict;have:=fall (L:=[_,_,_]) ⟨x.1.a,3⟩ ho hle hdict.symm (show (3:Int)≠0 by decide);unfold obBad;rw[if_neg g1];exact this
   obtain⟨g1,g2⟩:=hok;rw[if_neg (by simp[g1]),if_neg (by simp[g2])] at hdict;have hob:=hob g1;generalize Ps.object s a'=e at *;have ho:OwnS S0 w w9 [tokE b4 x.1,.urow 42 6 va args.length ac,.urow 44 3 vl l.length oc,fltE b2 (0,0),orE b s e.2.1 vl,.mem N2]:=ho;obtain⟨xk,xc,xcs,rfl,hx⟩:=hv.open;refine o_oba ho fun b5 w10 ho=>?_;refine ob_put (o':=e.1) 0 hx.keys.one hx.kids.one ho rfl fun w11 ho=>?_;have ho:OwnS S0 w w11 [obE b5 e.1 xk xc,tokE b4 x.1,.urow 42 6 va args.length ac,.urow 44 3 vl l.length oc,fltE b2 (0,0),orE b s e.2.1 vl,.mem N2]:=ho;rw[sl_len Tryz.underlying40 (ho.slU 2 rfl)];simp only[rs,fa_t1,tk_a ho 1 rfl];refine c_opmust (fun g3=>?_) fun g3=>?_
   rotate_left
   ·have g3:=of_decide_eq_false g3;rw[if_pos (by omega)] at hdict;exact fall (L:=[_,_,_,_]) ⟨x.1.a,6⟩ ho (hle.trans hle2) hdict.symm (show (6:Int)≠0 by decide)
   have g3:=of_decide_eq_true g3;rw[if_neg (by omega)] at hdict;rw[ob_v ho 0 rfl];refine o_obs1 _ hx.keys.one hx.kids.one ho fun nb w12 ho=>?_;refine o_apO 3 ho rfl (ho.sl 0 rfl 6 1 1 rfl) (obC_one _ hx.keys.one hx.kids.one) (by omega) fun va' w13 ho=>?_;have ho:=ho.tail.tail.tail;have ho:OwnS S0 w w13 [.urow 42 6 va' (args++[e.1]).length (ac++obC e.1 xk xc),.urow 44 3 vl l.length oc,fltE b2 (0,0),orE b s e.2.1 vl,.mem N2]:=by
    rw[List.length_append,List.length_singleton];exact ho
   refine AtX.mk rfl (hZ _ _ (nextX ⟨e.2.1,m,l,args++[e.1],va',vl,oc,ac++obC e.1 xk xc,N2,rfl,by omega,hob.2,by omega,by omega,by simp;omega,hdict,hle.trans hle2,PVs.le hle2 hpv,ovs_app (hov.le hle2) (ovs_1 hx.ov),ho⟩ ?_));have hat2:rdAt b w13=e.2.1.toNat:=orAt_is (ho.at_ 3 rfl);show s.length - rdAt b w13 < s.length - rdAt b w4;rw[hat,hat2];exact meas ha0 hob.1 hob.2
  by_cases h5:x.1.k=5
  ·simp only[decide_eq_true h5,rs,fa_t4',tk_s ho 0 rfl];refine c_eq (opconst_ret x.1.s w7) ?_;simp only[hsel h5,rs,Bool.not_true];have:=rest ho rfl (fun _ _ h=>h)
   try simp only[rs] at this
   exact this
  ·simp only[decide_eq_false h5,rs,g_un];have:=rest ho rfl (fun _ _ h=>h)
   try simp only[rs] at this
   exact this
theorem opRead_ret (s:List UInt8)(M:Mem)(w:World)(hs:s.length≤1000000000)(hM:M.has w) :
  RetM prog 8 #[.string ⟨s.toArray⟩] M w (fun v N=>∃vl,v=.tuple #[vl,fltV ((Cs.read s).2.at_,(Cs.read s).2.e)]∧OpsV N.A N.w vl (Cs.read s).1):=by
 refine retM_of hM fun K hK=>S_ops_Read_ok ?_;unfold S_ops_Read;refine o_flt (OwnS.memS hM) fun b3 w1 ho=>?_;have hb1:∀{PK:PKT} {K:VWP},DoX prog (mBuild 49 #[(0,.string ⟨s.toArray⟩)]) w1 PK K=K (.agg (orC s 0 nilS).toArray) w1:=do_eq (by kernel_rfl);rw[hb1];refine o_new (fun b=>.pointer (some ⟨b,0,none⟩)) (orC s 0 nilS) 49 (fun _=>by kernel_rfl) ho fun b8 w2 ho=>?_;have ho:OwnS M.A w w2 ([orE b8 s 0 nilS]++([fltE b3 (0,0)]++([.mem M]++[]))):=ho;have ho:OwnS M.A w w2 ([orE b8 s 0 nilS]++([.mem M]++([fltE b3 (0,0)]))):=ho.perm (List.Perm.append_left _ (List.Perm.swap _ _ _));have ho:=OwnS.pair ho;refine c_ret (opread_ret b8 s M w2 hs (ho.at_ 0 rfl)) ?_;rintro _ w3 ⟨rfl,N,e2,hle,ht,hok⟩;have ho:=(ho.turn 0 rfl ht).split;have ho:OwnS M.A w w3 [e2,.mem N,fltE b3 (0,0)]:=ho;refine o_flt ho fun b5 w4 ho=>?_;refine flt_put (g:=((Cs.read s).2.at_,(Cs.read s).2.e)) 0 ho rfl fun w5 ho=>?_;have ho:OwnS M.A w w5 [fltE b5 ((Cs.read s).2.at_,(Cs.read s).2.e),e2,.mem N,fltE b3 (0,0)]:=ho;have fe:∀{PK:PKT} {K:VWP},DoX prog (mFA 26 (.pointer (some ⟨b5,0,none⟩)) 1) w5 PK K=K (.pointer (some ⟨b5,1,none⟩)) w5:=f_addr (show fOff prog 26 1=some 1 by kernel_rfl);rw[fe,l_cell nErr5 (ho.cell 0 rfl 1 rfl)];simp only[rs];by_cases hz:(Cs.read s).2.e=0
 ·obtain⟨a,vl,rfl,hvl⟩:=hok hz;simp only[hz,ne_eq,not_true_eq_false,decide_false,i_f,fa_or2,or_l (ho.at_ 1 rfl)];have hb0:∀{PK:PKT} {K:VWP},DoX prog (mBuild 26 #[]) w5 PK K=K (fltV (0,0)) w5:=do_eq (by kernel_rfl);rw[hb0];refine flt_put (f:=(0,0)) (g:=(0,0)) 3 ho rfl fun w6 ho=>?_;refine ret_v2 rv_val (rv_cell (ho.agg 3 rfl aggFlt)) (hK _ _ N _ 2 ho rfl hle ⟨vl,?_,hvl⟩);rw[Cs.read_ok hz];rfl
 ·simp only[hz,ne_eq,not_false_eq_true,decide_true,i_t];refine quiet (q_at (fltV ((Cs.read s).2.at_,(Cs.read s).2.e)) (fun W hb=>run_load_at ((ho.grow hb).agg 0 rfl aggFlt)) ?_);intro w6 hb;have ho:=ho.grow hb;refine flt_put (f:=(0,0)) (g:=((Cs.read s).2.at_,(Cs.read s).2.e)) 3 ho rfl fun w7 ho=>?_;refine ret_v2 rv_val (rv_cell (ho.agg 3 rfl aggFlt)) (hK _ _ N _ 2 ho rfl hle ⟨nilS,rfl,?_⟩);rw[Cs.read_err hz];exact OpsV.nil _ _
end
end Go.Proofs.YtoofficgclghoaaGreatDoor


namespace Go.Proofs.YtoofficgclghoaaGreatDoor
section
open Eng Go.RowKit
namespace Cs
def eqc (x y:Cop):Bool:=decide (x.name=y.name)&&decide (x.data=y.data)&&Ob.eqbs x.args y.args
def eqs:List Cop→List Cop→Bool
|[],[]=>true
|x::a,y::b=>eqc x y&&eqs a b
|_,_=>false
theorem eqc_iff (x y:Cop):eqc x y=true↔x=y:=by
 unfold eqc;simp only[Bool.and_eq_true,decide_eq_true_eq,Ob.eqbs_iff];cases x;cases y;simp only[Cop.mk.injEq];exact⟨fun h=>⟨h.1.1,h.2,h.1.2⟩,fun h=>⟨⟨h.1,h.2.2⟩,h.2.1⟩⟩
theorem eqs_iff:∀a b:List Cop,eqs a b=true↔a=b
|[],[]=>by simp[eqs]
|[],_::_=>by simp[eqs]
|_::_,[]=>by simp[eqs]
|x::a,y::b=>by rw[eqs,Bool.and_eq_true,eqc_iff,eqs_iff a b];simp
theorem eqs_len:∀{a b:List Cop},a.length≠b.length→eqs a b=false:=by
 intro a b h;cases he:eqs a b with
|false=>rfl
|true=>rw[eqs_iff] at he;exact absurd (by rw[he]) h
theorem eqs_drop:∀(a b:List Cop) (i:Nat),a.length=b.length→(∀m (h1:m < a.length) (h2:m < b.length),m < i→eqc a[m] b[m]=true)→eqs a b=eqs (a.drop i) (b.drop i)
|a,b,0,_,_=>by simp
|[],[],i+1,_,_=>by simp
|x::a,y::b,i+1,hl,h=>by
  have h0:eqc x y=true:=h 0 (by simp) (by simp) (by omega);rw[eqs,h0,Bool.true_and,List.drop_succ_cons,List.drop_succ_cons];exact eqs_drop a b i (by simpa using hl) fun m h1 h2 hm=>h (m+1) (by simpa using h1) (by simpa using h2) (by omega)
|[],_::_,_+1,h,_=>by simp at h
|_::_,[],_+1,h,_=>by simp at h
theorem size_app:∀a b:List Cop,size (a++b)=size a+size b
|[],b=>by simp[size]
|o::a,b=>by rw[List.cons_append,size,size,size_app a b];omega
theorem sizeA_app:∀a b:List Ob,sizeA (a++b)=sizeA a+sizeA b
|[],b=>by simp[sizeA]
|o::a,b=>by rw[List.cons_append,sizeA,sizeA,sizeA_app a b];omega
theorem sizeA_wt2:∀l:List Ob,sizeA l≤Ob.wts l
|[]=>by simp[sizeA]
|o::l=>by
  have:=sizeA_wt2 l;have:=Vl.size_wt o;rw[sizeA,Ob.wts];omega
theorem size_wt2:∀l:List Cop,size l≤wts l
|[]=>by simp[size]
|o::l=>by
  have:=size_wt2 l;have:=sizeA_wt2 o.args;rw[size,wts,Cop.wt];omega
theorem wts_take:∀(l:List Cop) (i:Nat),wts (l.take i)≤wts l
|[],i=>by simp[wts]
|o::l,0=>by simp[wts]
|o::l,i+1=>by
  have:=wts_take l i;rw[List.take_succ_cons,wts,wts];omega
theorem wts_get:∀(l:List Cop) (i:Nat) (hi:i < l.length),l[i].wt≤wts l
|o::l,0,_=>by rw[wts];show o.wt≤_;omega
|o::l,i+1,hi=>by
  have:=wts_get l i (by simpa using hi);rw[wts,List.getElem_cons_succ];omega
|[],_,hi=>by simp at hi
theorem wts_len:∀l:List Cop,l.length≤wts l
|[]=>by simp
|o::l=>by
  have:=wts_len l;rw[wts,List.length_cons,Cop.wt];omega
theorem obw_take:∀(l:List Ob) (i:Nat),Ob.wts (l.take i)≤Ob.wts l
|[],i=>by simp
|o::l,0=>by simp[Ob.wts]
|o::l,i+1=>by
  have:=obw_take l i;rw[List.take_succ_cons,Ob.wts,Ob.wts];omega
end Cs
theorem rsize43_ret (l:List Cop)(vl:Value)(cs:List Value)(M:Mem)(w:World)(hM:M.has w)(hs:SlA M.A M.w vl 3 l.length cs)(hall:PVs M.A M.w cs l)(hw:Cs.wts l≤1000000000000) :
  Ret prog 11 #[vl] w (fun v w'=>v=.int .i64 (Cs.size l:Nat)∧Below w.heap.size w w'):=by
 refine ret_of fun K hK=>S_foliantref43_Size_ok ?_;unfold S_foliantref43_Size;have hMW:∀{W:World} {L:List Ent},Own w W L→M.has W:=fun ho=>Mem.has_below hM ho.done;have hlen:=Cs.wts_len l;refine loop (fun vs w'=>∃(i:Nat),vs=[.int .i64 (Cs.size (l.take i):Nat),.int .i64 i]∧i≤l.length∧Own w w' []) (fun vs _=>l.length - n1 vs) ⟨0,by simp[Cs.size],by omega,Own.start w⟩ ?_;rintro vs w2 ⟨i,rfl,hi,ho⟩ _;simp only[S_foliantref43_Size_0,gd];rw[sl_len Tryz.underlying23 (hs.now (hMW ho))];simp only[rs];have h1:=Cs.size_wt2 (l.take i);have h2:=Cs.wts_take l i;by_cases hlt:(i:Int) < (l.length:Int)
 ·have hi':i < l.length:=by omega
  simp only[decide_eq_true hlt,i_t];obtain⟨va,acs,bo,oo,hx,hr⟩:=op_at hs hall hi';have h3:=Cs.wts_get l i hi';have h4:l[i].data.length+Ob.wts l[i].args+10≤l[i].wt:=by unfold Cop.wt;omega
  have h5:=Cs.sizeA_wt2 l[i].args;have hsucc:Cs.size (l.take (i+1))=Cs.size (l.take i)+(1+l[i].data.length / 100+Cs.sizeA l[i].args):=by
   rw[List.take_succ_eq_append_getElem hi',Cs.size_app,Cs.size,Cs.size];omega
  have h6:=Cs.size_wt2 (l.take (i+1));have h7:=Cs.wts_take l (i+1);rw[wrap64_id (by omega) (by omega)];refine do_eq (hr w2 (hMW ho)).1 |>.mpr ?_;rw[fa_p2,l_cell nStr5 ((hr w2 (hMW ho)).2 2 _ rfl),s_len Tryz.underlying9,b_quo (by decide),show ((l[i].data.length:Nat):Int).tdiv 100=((l[i].data.length / 100:Nat):Int) by rw[Int.tdiv_eq_ediv_of_nonneg (by omega)];omega];rw[wrap64_id (by omega) (by omega),b_add,wrap64_id (by omega) (by omega)];have hal:=Ob.len_wts l[i].args;refine loop (fun vs w'=>∃(k:Nat),vs=[.int .i64 ((Cs.size (l.take i)+1+l[i].data.length / 100+Cs.sizeA (l[i].args.take k):Nat):Int),.int .i64 k]∧k≤l[i].args.length∧Own w w' []) (fun vs _=>l[i].args.length - n1 vs)
   ⟨0,by simp[Cs.sizeA],by omega,ho⟩ ?_
  clear ho;rintro vs w3 ⟨k,rfl,hk,ho⟩ _;simp only[S_foliantref43_Size_1,gd];refine do_eq (hr w3 (hMW ho)).1 |>.mpr ?_;rw[fa_p1,l_cell nSlOb ((hr w3 (hMW ho)).2 1 _ rfl),sl_len Tryz.underlying40 (hx.args.now (hMW ho))];simp only[rs];have h8:=Cs.sizeA_wt2 (l[i].args.take k);have h9:=Cs.obw_take l[i].args k;by_cases hkl:(k:Int) < (l[i].args.length:Int)
  ·have hk':k < l[i].args.length:=by omega
   simp only[decide_eq_true hkl,i_t];refine do_eq (hr w3 (hMW ho)).1 |>.mpr ?_;rw[fa_p1,l_cell nSlOb ((hr w3 (hMW ho)).2 1 _ rfl)];refine ob_ia (hx.args.now (hMW ho)) (OVs.kept (hMW ho) _ _ hx.all) hk' fun v hv=>?_;have hv1:OV (InW w3) w3 v l[i].args[k]:=OV.mono (fun b hb=>Mem.bd (hMW ho) hb) _ v hv;have hkw:=Ob.get_wts l[i].args k hk';refine c_told (rsize_ret _ l[i].args[k] v w3 (Nat.le_refl _) hv1 (by omega)) rfl ho fun w4 ho=>?_;have ha:Cs.sizeA (l[i].args.take (k+1))=Cs.sizeA (l[i].args.take k)+Vl.size l[i].args[k]:=by
    rw[List.take_succ_eq_append_getElem hk',Cs.sizeA_app,Cs.sizeA,Cs.sizeA];omega
   have hb1:=Cs.sizeA_wt2 (l[i].args.take (k+1));have hb2:=Cs.obw_take l[i].args (k+1);simp only[rs];rw[wrap64_id (by omega) (by omega),wrap64_id (by omega) (by omega)];exact nextX ⟨k+1,by rw[ha];congr 3;omega,by omega,ho⟩ (by simp[n1,RowKit.intOf];omega)
  ·have hk':k=l[i].args.length:=by omega
   subst hk';simp only[decide_eq_false hkl,i_f,rs,List.take_length];rw[wrap64_id (by omega) (by omega)];exact nextX ⟨i+1,by rw[hsucc];congr 3;omega,by omega,ho⟩ (by simp[n1,RowKit.intOf];omega)
 ·have hi':i=l.length:=by omega
  subst hi';simp only[decide_eq_false hlt,i_f,List.take_length];exact hK _ _ ⟨rfl,ho.done⟩
theorem rsame43_ret (a b:List Cop)(va vb:Value)(ca cb:List Value)(M:Mem)(w:World)(hM:M.has w)(hsa:SlA M.A M.w va 3 a.length ca)(hpa:PVs M.A M.w ca a)(hsb:SlA M.A M.w vb 3 b.length cb)(hpb:PVs M.A M.w cb b)(hw:Cs.wts a≤1000000000) :
  Ret prog 10 #[va,vb] w (fun v w'=>v=.bool (Cs.eqs a b)∧Below w.heap.size w w'):=by
 refine ret_of fun K hK=>S_foliantref43_Same_ok ?_;unfold S_foliantref43_Same;have hMW:∀{W:World} {L:List Ent},Own w W L→M.has W:=fun ho=>Mem.has_below hM ho.done;have hlen:=Cs.wts_len a;rw[sl_len Tryz.underlying23 (hsa.now hM),sl_len Tryz.underlying23 (hsb.now hM)];simp only[rs];by_cases hl:(a.length:Int)=(b.length:Int)
 case neg=>
  simp only[ne_eq,hl,not_false_eq_true,decide_true,i_t];exact hK _ _ ⟨by rw[Cs.eqs_len (by omega)],Below.refl _ _⟩
 simp only[hl,ne_eq,not_true,decide_false,i_f];have hl:a.length=b.length:=by omega
 refine loop (fun vs w'=>∃(i:Nat),vs=[.int .i64 i]∧i≤a.length∧(∀m (h1:m < a.length) (h2:m < b.length),m < i→Cs.eqc a[m] b[m]=true)∧Own w w' []) (fun vs _=>a.length - n0 vs) ⟨0,rfl,by omega,fun m _ _ h=>by omega,Own.start w⟩ ?_;rintro vs w2 ⟨i,rfl,hi,hlo,ho⟩ _;simp only[S_foliantref43_Same_0,gd];rw[sl_len Tryz.underlying23 (hsa.now (hMW ho))];simp only[rs];by_cases hlt:(i:Int) < (a.length:Int)
 ·have hi1:i < a.length:=by omega
  have hi2:i < b.length:=by omega
  simp only[decide_eq_true hlt,i_t];obtain⟨xa,xcs,bo,oo,hx,hr⟩:=op_at hsa hpa hi1;obtain⟨ya,ycs,bp,op,hy,hs⟩:=op_at hsb hpb hi2;have hdr:=Cs.eqs_drop a b i hl hlo;rw[List.drop_eq_getElem_cons hi1,List.drop_eq_getElem_cons hi2,Cs.eqs] at hdr;have h3:=Cs.wts_get a i hi1;have h4:Ob.wts a[i].args≤a[i].wt:=by unfold Cop.wt;omega
  have done:∀{W:World},Own w W []→Cs.eqc a[i] b[i]=false→K (.returned (.bool false)) W:=fun ho h=>hK _ _ ⟨by rw[hdr,h];rfl,ho.done⟩;have hMW2:∀{W:World},Below w2.heap.size w2 W→M.has W:=fun hW=>hMW (ho.grow hW);refine quiet (q_at _ (fun W hW=>(hr W (hMW2 hW)).1) (q_do _ (fun _=>run_fa fo_p0) (q_at (.string ⟨a[i].name.toArray⟩) (fun W hW=>run_load_cell nStr5 ((hr W (hMW2 hW)).2 0 _ rfl)) ?_)));refine q_at _ (fun W hW=>(hs W (hMW2 hW)).1) (q_do _ (fun _=>run_fa fo_p0) (q_at (.string ⟨b[i].name.toArray⟩) (fun W hW=>run_load_cell nStr5 ((hs W (hMW2 hW)).2 0 _ rfl)) (q_sne ?_)));by_cases g1:a[i].name=b[i].name
  case neg=>
   simp only[ne_eq,g1,not_false_eq_true,decide_true,gq];refine q_pt ?_;simp only[gq];refine q_pt fun w3 hb=>?_;simp only[i_t];exact done (ho.grow hb) (by unfold Cs.eqc;rw[decide_eq_false g1];rfl)
  simp only[g1,ne_eq,not_true,decide_false,gq];refine q_at _ (fun W hW=>(hr W (hMW2 hW)).1) (q_do _ (fun _=>run_fa fo_p2) (q_at (.string ⟨a[i].data.toArray⟩) (fun W hW=>run_load_cell nStr5 ((hr W (hMW2 hW)).2 2 _ rfl)) ?_));refine q_at _ (fun W hW=>(hs W (hMW2 hW)).1) (q_do _ (fun _=>run_fa fo_p2) (q_at (.string ⟨b[i].data.toArray⟩) (fun W hW=>run_load_cell nStr5 ((hs W (hMW2 hW)).2 2 _ rfl)) (q_sne ?_)));refine q_pf ?_;by_cases g2:a[i].data=b[i].data
  case neg=>
   simp only[ne_eq,g2,not_false_eq_true,decide_true,gq];refine q_pt fun w3 hb=>?_;simp only[i_t];exact done (ho.grow hb) (by unfold Cs.eqc;rw[decide_eq_false g2];simp)
  simp only[g2,ne_eq,not_true,decide_false,gq];refine q_at _ (fun W hW=>(hr W (hMW2 hW)).1) (q_do _ (fun _=>run_fa fo_p1) (q_at xa (fun W hW=>run_load_cell nSlOb ((hr W (hMW2 hW)).2 1 _ rfl)) ?_));refine q_at _ (fun W hW=>(hs W (hMW2 hW)).1) (q_do _ (fun _=>run_fa fo_p1) (q_at ya (fun W hW=>run_load_cell nSlOb ((hs W (hMW2 hW)).2 1 _ rfl)) ?_));have inw:∀{W:World} (_:M.has W) {o:Cop} {v:Value} {cs:List Value},OpAt M.A M.w o v cs→ObAt (InW W) W (.mk 0 0 0 [] [] o.args) nilS v cs:=fun {W} hMW {o v cs} h=>
   ⟨SlA.nil _ _ _ _,⟨(h.args.kept hMW).1,(fun p l c e hn=>Mem.bd hMW ((h.args.kept hMW).2.1 p l c e hn)),(h.args.kept hMW).2.2⟩,OVs.mono (fun b hb=>Mem.bd hMW hb) _ _ (OVs.kept hMW _ _ h.all)⟩
  refine q_call (.bool (Ob.eqbs a[i].args b[i].args)) (fun W hW=>ret_grew (rlist_ret (a:=.mk 0 0 0 [] [] a[i].args) (b:=.mk 0 0 0 [] [] b[i].args) W (inw (hMW2 hW) hx) (inw (hMW2 hW) hy) (by have:=Ob.len_wts a[i].args;show a[i].args.length≤_;omega) fun k h1 h2 x y W' hx' hy'=>?_) hW) (q_do _ (fun _=>run_notO) (q_pf ?_))
  ·have hkw:=Ob.get_wts a[i].args k h1;exact rsame5_ret _ _ _ x y W' (Nat.le_refl _) (by show a[i].args[k].wt≤_;omega) hx' hy'
  intro w3 hb;have ho:=ho.grow hb;have hec:Cs.eqc a[i] b[i]=Ob.eqbs a[i].args b[i].args:=by unfold Cs.eqc;rw[decide_eq_true g1,decide_eq_true g2];rfl
  cases hq:Ob.eqbs a[i].args b[i].args with
 |false=>
   simp only[Bool.not_false,i_t];exact done ho (by rw[hec,hq])
 |true=>
   simp only[Bool.not_true,i_f,rs];rw[wrap64_id (by omega) (by omega)];refine nextX ⟨i+1,rfl,by omega,fun m h1 h2 hmi=>?_,ho⟩ (by simp[n0,RowKit.intOf];omega);rcases Nat.lt_or_ge m i with h|h
   ·exact hlo m h1 h2 h
   ·have:m=i:=by omega
    subst this;rw[hec,hq]
 ·have hil:i=a.length:=by omega
  simp only[decide_eq_false hlt,i_f];have:=Cs.eqs_drop a b i hl hlo;rw[hil,List.drop_length,hl,List.drop_length] at this;exact hK _ _ ⟨by rw[this];rfl,ho.done⟩
end
section
open Eng Go.RowKit
theorem kept_of {M:Mem}{W1 W2:World}(h1:M.has W1)(h2:M.has W2):Kept M.A W1 W2:=fun b hb=>(h2 b hb).trans (h1 b hb).symm
theorem obj_at {M:Mem}{vc:Value}{l:List Ob}{cs:List Value}(hs:SlA M.A M.w vc 6 l.length cs)(hall:OVs M.A M.w cs l){i:Nat}(hi:i < l.length) :
  ∃(xk xc:Value) (b off:Nat),OV M.A M.w (obV l[i] xk xc) l[i]∧∀W,M.has W→(mIA 40 vc (.int .i64 (i:Int))).run prog W=.ok (.value (.pointer (some ⟨b,off,none⟩))) W∧∀j u,(obC l[i] xk xc)[j]?=some u→W.cell? ⟨b,off+j,none⟩=some u:=by
 obtain⟨b,off,cap,rfl,_⟩:=sl_open hs.1 (by omega);obtain⟨a,hl,hov,hget⟩:=OVs.get l cs i hi hall;obtain⟨xk,xc,ocs,he,ha⟩:=hov.open;have he:a=obC l[i] xk xc:=by
  have:a.toArray=(obC l[i] xk xc).toArray:=by injection he
  simpa using congrArg Array.toList this
 subst he;refine⟨xk,xc,b,off+i*6,hov,fun W hW=>⟨?_,fun j u hj=>?_⟩⟩
 ·have:=run_ia (P:=prog) (T:=40) (b:=b) (off:=off) (cap:=cap) (n:=l.length) (k:=.i64) (i:=(i:Int)) (w:=W) Tryz.underlying40 szOb (by omega) (by omega);rw[Int.toNat_natCast] at this;exact this
 ·have:=Sl.cellAt (hs.now hW) (i*6+j) u (hget j u hj)
  rwa [←Nat.add_assoc] at this
theorem contains4_ret (va:Value)(l:List (List UInt8))(x:List UInt8)(w:World)(ha:Sl w va 1 l.length (strsV l))(hl:l.length≤1099511627776) :
  Ret prog 32 #[va,.string ⟨x.toArray⟩] w (fun v w'=>v=.bool (decide (x∈l))∧w=w'):=by
 refine ret_of fun K hK=>S_slices_Contains_string_string_ok ?_;unfold S_slices_Contains_string_string;refine c_eq (sindex_ret va l x w ha hl) ?_;by_cases h:l.idxOf x < l.length
 ·rw[if_pos h];simp only[rs];refine hK _ _ ⟨?_,rfl⟩;have hm:x∈l:=List.idxOf_lt_length_iff.1 h;rw[decide_eq_true hm,decide_eq_true (by omega)]
 ·rw[if_neg h];simp only[rs];refine hK _ _ ⟨?_,rfl⟩;have hm:x ∉ l:=fun hm=>h (List.idxOf_lt_length_iff.2 hm);rw[decide_eq_false hm,decide_eq_false (by omega)]
theorem named_words (s:List UInt8):(!decide (s=Cs.rW)&&!decide (s=Cs.biW)&&!decide (s=Cs.idW)&&!decide (s=Cs.eiW))=!decide (s∈[Cs.rW,Cs.biW,Cs.idW,Cs.eiW]):=by
 rw[Bool.eq_iff_iff];simp only[Bool.and_eq_true,Bool.not_eq_true',decide_eq_false_iff_not,List.mem_cons,List.not_mem_nil,or_false,not_or];exact⟨fun h=>⟨h.1.1.1,h.1.1.2,h.1.2,h.2⟩,fun h=>⟨⟨⟨h.1,h.2.1⟩,h.2.2.1⟩,h.2.2.2⟩⟩
theorem opnamed_ret (s:List UInt8)(w:World)(hs:s.length≤1099511627776):Ret prog 84 #[.string ⟨s.toArray⟩] w (fun v w'=>v=.bool (Cs.named s)∧Below w.heap.size w w'):=by
 refine ret_of fun K hK=>S_ops_named_ok ?_;unfold S_ops_named;have hN:Cs.named s=(decide ((Lx.next s 0).2=0)&&decide ((Lx.next s 0).1.k=5)&&decide ((Lx.next s 0).1.a=0)&&decide ((Lx.next s 0).1.t=s.length)&&!Cs.constant s&&!decide (s∈[Cs.rW,Cs.biW,Cs.idW,Cs.eiW])):=by
  unfold Cs.named;rw[←named_words];simp only[Bool.and_assoc]
 have fin:∀{W:World} {L:List Ent} {q:Bool},Own w W L→q=Cs.named s→K (.returned (.bool q)) W:=fun ho e=>hK _ _ ⟨by rw[e],ho.done⟩;refine c_told (next_ret s 0 w hs) rfl (Own.start w) fun w1 ho=>?_;simp only[tokR,ex];rw[hN] at fin;generalize Lx.next s 0=x at *
 refine o_tok ho fun b3 w2 ho=>?_;refine tk_put 0 ho rfl fun w3 ho=>?_;have ho:Own w w3 [tokE b3 x.1]:=ho;simp only[rs];by_cases e1:x.2=0
 case neg=>
  simp only[ne_eq,e1,not_false_eq_true,decide_true,rs,g_un];exact fin ho (by rw[decide_eq_false e1];rfl)
 simp only[e1,ne_eq,not_true,decide_false,rs,fa_t0,tk_k ho 0 rfl];by_cases e2:x.1.k=5
 case neg=>
  simp only[ne_eq,e2,not_false_eq_true,decide_true,rs,g_un];exact fin ho (by rw[decide_eq_false e2];simp)
 simp only[e2,ne_eq,not_true,decide_false,rs,fa_t1,tk_a ho 0 rfl];by_cases e3:x.1.a=0
 case neg=>
  simp only[ne_eq,e3,not_false_eq_true,decide_true,rs,g_un];exact fin ho (by rw[decide_eq_false e3];simp)
 simp only[e3,ne_eq,not_true,decide_false,rs,fa_t2,tk_t ho 0 rfl,s_len Tryz.underlying9];by_cases e4:x.1.t=(s.length:Int)
 case neg=>
  simp only[ne_eq,e4,not_false_eq_true,decide_true,rs,g_un];exact fin ho (by rw[decide_eq_false e4];simp)
 simp only[e4,ne_eq,not_true,decide_false,rs];refine c_eq (opconst_ret s w3) ?_;cases e5:Cs.constant s with
|true=>
  simp only[rs,Bool.not_true,g_un];exact fin ho (by rw[e5];simp)
|false=>
  simp only[rs,Bool.not_false];refine o_new (fun b=>.slice (some ⟨b,0,none⟩) 4 4) (strsV [Cs.rW,Cs.biW,Cs.idW,Cs.eiW]) 9 (fun _=>by kernel_rfl) ho fun nb w4 ho=>?_;have ho:=ho.toRow 1 4 4 (by rfl) (by omega) (by omega);have hsl:=ho.slRow 0 rfl;refine c_eq (contains4_ret _ [Cs.rW,Cs.biW,Cs.idW,Cs.eiW] s w4 hsl (by simp)) ?_;simp only[rs];exact fin ho (by rw[e5,decide_eq_true e1,decide_eq_true e2,decide_eq_true e3,decide_eq_true e4];simp)
theorem opshown_ret (s:List UInt8)(w:World)(hs:s.length≤1099511627776):Ret prog 83 #[.string ⟨s.toArray⟩] w (fun v w'=>v=.bool (Cs.shown s)∧w=w'):=by
 refine ret_of fun K hK=>S_ops_shown_ok ?_;unfold S_ops_shown;rw[s_len Tryz.underlying9];refine loop (fun vs w'=>∃(i:Nat),vs=[.int .i64 i]∧i≤s.length∧(∀m,m < i→Cs.ends s m=false)∧w=w') (fun vs _=>s.length - n0 vs) ⟨0,rfl,by omega,fun m h=>by omega,rfl⟩ ?_;rintro vs w2 ⟨i,rfl,hi,hlo,rfl⟩ _;simp only[S_ops_shown_0,gd,rs];by_cases hlt:(i:Int) < (s.length:Int)
 ·have hi':i < s.length:=by omega
  simp only[decide_eq_true hlt,i_t];refine c_eq (opends_ret s i w hi' hs) ?_;cases he:Cs.ends s i with
 |true=>
   simp only[i_t];refine hK _ _ ⟨?_,rfl⟩;have:Cs.shown s=false:=by
    unfold Cs.shown;rw[List.all_eq_false];exact⟨i,List.mem_range.2 hi',by simp[he]⟩
   rw[this]
 |false=>
   simp only[i_f,rs];rw[wrap64_id (by omega) (by omega)];refine nextX ⟨i+1,rfl,by omega,fun m hm=>?_,rfl⟩ (by simp[n0,RowKit.intOf];omega);rcases Nat.lt_or_ge m i with h|h
   ·exact hlo m h
   ·have:m=i:=by omega
    subst this;exact he
 ·simp only[decide_eq_false hlt,i_f];refine hK _ _ ⟨?_,rfl⟩;have:Cs.shown s=true:=by
   unfold Cs.shown;rw[List.all_eq_true];intro m hm;rw[List.mem_range] at hm;simp[hlo m (by omega)]
  rw[this]
theorem opform_ret (o:Cop)(va:Value)(acs:List Value)(M:Mem)(w:World)(hM:M.has w)(hx:OpAt M.A M.w o va acs)(hw:o.wt≤1000000000):Ret prog 49 #[opV o va] w (fun v w'=>v=.bool (Cs.form o)∧Below w.heap.size w w'):=by
 refine ret_of fun K hK=>S_ops_form_ok ?_;unfold S_ops_form;have hwt:o.name.length+o.data.length+Ob.wts o.args≤1000000000:=by unfold Cop.wt at hw;omega
 refine o_opb o hx.one (Own.start w) fun b1 w1 ho=>?_;have fin:∀{W:World} {L:List Ent} {q:Bool},Own w W L→q=Cs.form o→K (.returned (.bool q)) W:=fun ho e=>hK _ _ ⟨by rw[e],ho.done⟩;unfold Cs.form at fin;have hMW:M.has w1:=Mem.has_below hM ho.done;rw[fa_p0,op_n ho 0 rfl];simp only[rs];by_cases hb:o.name=[66,73]
 ·rw[if_pos (show o.name=Cs.biW from hb)] at fin;simp only[decide_eq_true hb,i_t];rw[fa_p1,op_a ho 0 rfl,sl_len Tryz.underlying40 (hx.args.now hMW)];simp only[rs];by_cases hl:(o.args.length:Int)=1
  case neg=>
   simp only[decide_eq_false hl,rs,g_un];refine fin ho ?_
   match ha:o.args with
  |[]=>simp
  |[d]=>rw[ha] at hl;simp at hl
  |_::_::_=>simp
  obtain⟨d,hd⟩:∃d,o.args=[d]:=by
   match ha:o.args with
  |[]=>rw[ha] at hl;simp at hl
  |[d]=>exact⟨d,rfl⟩
  |_::_::_=>rw[ha] at hl;simp at hl;omega
  rw[hd] at fin;simp only[decide_eq_true hl,rs,fa_p1,op_a ho 0 rfl];have hsl:=hx.args.now hMW;have hall:=OVs.kept hMW _ _ hx.all;have hkd:DoX prog (mIA 40 va (.int .i64 0)) w1 (pk K)=DoX prog (mIA 40 va (.int .i64 ((0:Nat):Int))) w1 (pk K):=rfl;obtain⟨xk,xc,bi,oi,hdv,hr⟩:=obj_at hx.args hx.all (i:=0) (by rw[hd];simp);have hr1:=hr w1 hMW;have ho0:o.args[0]'(by rw[hd];simp)=d:=by simp[hd]
  rw[ho0] at hr1;refine do_eq hr1.1 |>.mpr ?_;have hq:=hr1.2 0 _ rfl;rw[Nat.add_zero] at hq;rw[fa_o0,l_cell nInt5 hq];simp only[rs];by_cases h7:d.k=7
  case neg=>
   simp only[decide_eq_false h7,rs,g_un];exact fin ho (by simp[h7])
  simp only[decide_eq_true h7,rs,fa_p2,op_d ho 0 rfl];refine c_eq (opshown_ret o.data w1 (by omega)) ?_
  try simp only[rs]
  exact fin ho (by simp[h7])
 ·rw[if_neg (show ¬o.name=Cs.biW from hb)] at fin;simp only[decide_eq_false hb,i_f];rw[fa_p0,op_n ho 0 rfl];refine c_told (opnamed_ret o.name w1 (by omega)) rfl ho fun w2 ho=>?_;cases hn:Cs.named o.name with
 |false=>
   simp only[rs,g_un];exact fin ho (by rw[hn];rfl)
 |true=>
   have hMW:M.has w2:=Mem.has_below hM ho.done;simp only[rs,fa_p1,op_a ho 0 rfl];rw[sl_len Tryz.underlying40 (hx.args.now hMW)];simp only[rs];by_cases hl:(o.args.length:Int)≤32
   ·simp only[decide_eq_true hl,rs,fa_p2,op_d ho 0 rfl]
    try simp only[rs]
    exact fin ho (by rw[hn,decide_eq_true (show o.args.length≤32 by omega)];simp)
   ·simp only[decide_eq_false hl,rs,g_un];exact fin ho (by rw[hn,decide_eq_false (show ¬o.args.length≤32 by omega)];rfl)
theorem opmay_ret (o:Cop)(va:Value)(acs:List Value)(M:Mem)(w:World)(hM:M.has w)(hx:OpAt M.A M.w o va acs)(hw:o.wt≤1000000000):Ret prog 26 #[opV o va] w (fun v w'=>v=.int .i64 (Cs.may o)∧Below w.heap.size w w'):=by
 refine ret_of fun K hK=>S_ops_may_ok ?_;unfold S_ops_may;have hwt:Ob.wts o.args≤1000000000:=by unfold Cop.wt at hw;omega
 have hal:=Ob.len_wts o.args;refine o_opb o hx.one (Own.start w) fun b1 w1 ho=>?_;have fin:∀{W:World} {L:List Ent} {q:Int},Own w W L→q=Cs.may o→K (.returned (.int .i64 q)) W:=fun ho e=>hK _ _ ⟨by rw[e],ho.done⟩;have hMW:∀{W:World} {L:List Ent},Own w W L→M.has W:=fun ho=>Mem.has_below hM ho.done;unfold Cs.may at fin;rw[op_v ho 0 rfl];refine c_told (opform_ret o va acs M w1 (hMW ho) hx hw) rfl ho fun w2 ho=>?_;cases hf:Cs.form o with
|false=>
  simp only[rs,Bool.not_false];exact fin ho (by rw[hf,if_pos rfl])
|true=>
 rw[hf,if_neg (by simp)] at fin;simp only[rs,Bool.not_true];rw[fa_p1,op_a ho 0 rfl,sl_len Tryz.underlying40 (hx.args.now (hMW ho))];have fE:∀(l:List Ob) (i:Nat) (hi:i < l.length),Cs.firstE (l.drop i)=if Vl.check 1 l[i]≠0 then Vl.check 1 l[i] else Cs.firstE (l.drop (i+1)):=fun l i hi=>by rw[List.drop_eq_getElem_cons hi,Cs.firstE]
 refine loop (fun vs w'=>∃(i:Nat),vs=[.int .i64 i]∧i≤o.args.length∧Cs.firstE o.args=Cs.firstE (o.args.drop i)∧Own w w' [opE b1 o va]) (fun vs _=>o.args.length - n0 vs) ⟨0,rfl,by omega,by rw[List.drop_zero],ho⟩ ?_;clear ho;rintro vs w3 ⟨i,rfl,hi,hfe,ho⟩ _;simp only[S_ops_may_0,gd,rs];by_cases hlt:(i:Int) < (o.args.length:Int)
 ·have hi':i < o.args.length:=by omega
  simp only[decide_eq_true hlt,i_t];refine ob_ia (hx.args.now (hMW ho)) (OVs.kept (hMW ho) _ _ hx.all) hi' fun v hv=>?_;have hv0:=hv;obtain⟨xk,xc,xcs,rfl,hxa⟩:=hv.open;have ho3:=ho;refine o_oba ho fun b4 w4 ho=>?_;refine ob_put (o':=o.args[i]) 0 hxa.keys.one hxa.kids.one ho rfl fun w5 ho=>?_;have ho:Own w w5 [obE b4 o.args[i] xk xc,opE b1 o va]:=ho;rw[ob_v ho 0 rfl];have hv5:OV (InW w5) w5 (obV o.args[i] xk xc) o.args[i]:=OV.mono (fun b hb=>Mem.bd (hMW ho) hb) _ _ (OV.kept (kept_of (hMW ho3) (hMW ho)) _ _ hv0);have hkw:=Ob.get_wts o.args i hi';refine c_told (vCheck_ret o.args[i] _ w5 hv5 (by omega)) rfl ho fun w6 ho=>?_;simp only[rs];rw[fE o.args i hi'] at hfe;by_cases hc:Vl.check 1 o.args[i]=0
  ·rw[if_neg (by simp[hc])] at hfe;simp only[hc,ne_eq,not_true,decide_false,i_f];rw[wrap64_id (by omega) (by omega)];exact nextX ⟨i+1,rfl,by omega,hfe,ho.tail⟩ (by simp[n0,RowKit.intOf];omega)
  ·rw[if_pos hc] at hfe;simp only[ne_eq,hc,not_false_eq_true,decide_true,i_t];exact fin ho (by rw[hfe,if_pos hc])
 ·have hil:i=o.args.length:=by omega
  subst hil;rw[List.drop_length,Cs.firstE] at hfe;rw[hfe,if_neg (by simp)] at fin;simp only[decide_eq_false hlt,i_f];rw[fa_p1,op_a ho 0 rfl,sl_len Tryz.underlying40 (hx.args.now (hMW ho))];refine loop (fun vs w'=>∃(i:Nat),vs=[.int .i64 i]∧i≤o.args.length∧o.args.any (fun x=>Cs.refers x||decide (x.k=9))=(o.args.drop i).any (fun x=>Cs.refers x||decide (x.k=9))∧Own w w' [opE b1 o va]) (fun vs _=>o.args.length - n0 vs) ⟨0,rfl,by omega,by rw[List.drop_zero],ho⟩ ?_;clear ho;rintro vs w3 ⟨i,rfl,hi,hany,ho⟩ _;simp only[S_ops_may_1,gd,rs];by_cases hlt:(i:Int) < (o.args.length:Int)
  ·have hi':i < o.args.length:=by omega
   simp only[decide_eq_true hlt,i_t];refine ob_ia (hx.args.now (hMW ho)) (OVs.kept (hMW ho) _ _ hx.all) hi' fun v hv=>?_;have hv0:=hv;obtain⟨xk,xc,xcs,rfl,hxa⟩:=hv.open;have ho3:=ho;refine o_oba ho fun b7 w4 ho=>?_;refine ob_put (o':=o.args[i]) 0 hxa.keys.one hxa.kids.one ho rfl fun w5 ho=>?_;have ho:Own w w5 [obE b7 o.args[i] xk xc,opE b1 o va]:=ho;rw[ob_v ho 0 rfl];have hv5:OV (InW w5) w5 (obV o.args[i] xk xc) o.args[i]:=OV.mono (fun b hb=>Mem.bd (hMW ho) hb) _ _ (OV.kept (kept_of (hMW ho3) (hMW ho)) _ _ hv0);have hkw:=Ob.get_wts o.args i hi';refine c_told (oprefers_ret _ o.args[i] _ w5 (Nat.le_refl _) (by omega) hv5) rfl ho fun w6 ho=>?_;rw[List.drop_eq_getElem_cons hi',List.any_cons] at hany;cases hr:Cs.refers o.args[i] with
  |true=>
    rw[hr] at hany;simp only[rs,g_un];exact fin ho (by rw[hany];rfl)
  |false=>
    rw[hr,Bool.false_or] at hany;simp only[rs,fa_o0,ob_k ho 0 rfl];by_cases h9:o.args[i].k=9
    ·simp only[decide_eq_true h9,rs];exact fin ho (by rw[hany,decide_eq_true h9];rfl)
    ·simp only[decide_eq_false h9,rs];rw[decide_eq_false h9,Bool.false_or] at hany;rw[wrap64_id (by omega) (by omega)];exact nextX ⟨i+1,rfl,by omega,hany,ho.tail⟩ (by simp[n0,RowKit.intOf];omega)
  ·have hil:i=o.args.length:=by omega
   subst hil;rw[List.drop_length] at hany;simp only[decide_eq_false hlt,i_f];exact fin ho (by rw[hany];rfl)
end
section
open Eng Go.RowKit
namespace Cs
theorem pairs_succ:∀(ks:List (List UInt8)) (os:List Ob) (i:Nat) (h1:i < ks.length) (h2:i < os.length),pairs (ks.take (i+1)) (os.take (i+1))=pairs (ks.take i) (os.take i)++[(Pl.pName ks[i]).1,(Wr.text os[i]).1]
|k::ks,o::os,0,_,_=>by simp[pairs]
|k::ks,o::os,i+1,h1,h2=>by
  rw[List.take_succ_cons,List.take_succ_cons,pairs,pairs_succ ks os i (by simpa using h1) (by simpa using h2),List.take_succ_cons,List.take_succ_cons,pairs];simp
|[],_,_,h1,_=>by simp at h1
|_::_,[],_,_,h2=>by simp at h2
theorem pairs_len:∀(ks:List (List UInt8)) (os:List Ob),(pairs ks os).length≤2*ks.length
|[],[]=>by simp[pairs]
|[],_::_=>by simp[pairs]
|_::_,[]=>by simp[pairs]
|k::ks,o::os=>by
  have:=pairs_len ks os;rw[pairs];simp;omega
end Cs
theorem o_strb2o (s t:List UInt8){w:World}{PK:PKT}{K:VWP}{S:Nat→Prop}{w0:World}{L:List Ent}(ho:OwnS S w0 w L)(k:∀b w',OwnS S w0 w' (.cells b [.string ⟨s.toArray⟩,.string ⟨t.toArray⟩] 9::L)→K (.slice (some ⟨b,0,none⟩) 2 2) w') :
  DoX prog (mBuildS 39 2 #[(0,.string ⟨s.toArray⟩),(1,.string ⟨t.toArray⟩)]) w PK K:=
 o_new (fun b=>.slice (some ⟨b,0,none⟩) 2 2) [.string ⟨s.toArray⟩,.string ⟨t.toArray⟩] 9 (fun _=>by kernel_rfl) ho k
theorem opparts_ret (o:Cop)(va:Value)(acs:List Value)(M:Mem)(w:World)(ht:Tb w)(hM:M.has w)(hx:OpAt M.A M.w o va acs)(hw:o.wt≤100000000)(hmay:Cs.may o=0) :
  Ret prog 29 #[opV o va] w (fun v w'=>Own w w' [keyE v (Cs.parts o)]):=by
 refine ret_of fun K hK=>S_ops_parts_ok ?_;unfold S_ops_parts;have hwt:o.name.length+o.data.length+Ob.wts o.args≤100000000:=by unfold Cop.wt at hw;omega
 have hal:=Ob.len_wts o.args;have hMW:∀{W:World} {L:List Ent},Own w W L→M.has W:=fun ho=>Mem.has_below hM ho.done;have hcat:∀{ps qs:List (List UInt8)},strsV (ps++qs)=strsV ps++strsV qs:=fun {ps qs}=>strsV_app ps qs;obtain⟨hform,hchk,hkd⟩:=Cs.may_iff.1 hmay;refine o_opb o hx.one ((Own.start w).nilU 9 1) fun b1 w1 ho=>?_;have ho:Own w w1 [opE b1 o va,keyE nilS []]:=ho;rw[fa_p0,op_n ho 0 rfl];simp only[rs];by_cases hb:o.name=[66,73]
 ·unfold Cs.form at hform;rw[if_pos (show o.name=Cs.biW from hb)] at hform;obtain⟨d,hd⟩:∃d,o.args=[d]:=by
   match ha:o.args,hform with
  |[],hf=>simp at hf
  |[d],_=>exact⟨d,rfl⟩
  |_::_::_,hf=>simp at hf
  have hp:Cs.parts o=[Cs.biW]++Cs.pairs d.keys d.kids++[Cs.idW]:=by
   unfold Cs.parts;rw[if_pos (show o.name=Cs.biW from hb),hd];rfl
  have h7:d.k=7:=by
   rw[hd] at hform;simp only[Bool.and_eq_true,decide_eq_true_eq] at hform;exact hform.1
  have hlen:d.keys.length=d.kids.length:=by
   have hc:=hchk d (by rw[hd];exact List.mem_cons_self);obtain⟨⟨-,a2,-,-,-,a6,a7⟩,hck⟩:=Vl.check_iff.1 hc;have hr:Vl.rising d=true:=by simpa[Vl.form,h7] using a7
   exact (Vl.rising_iff.1 hr).1
  have hdw:d.wt≤100000000:=by rw[hd,Ob.wts,Ob.wts] at hwt;omega
  have hkl:=key_len (o:=d);simp only[decide_eq_true hb,i_t];refine o_strb1 Cs.biW ho fun nb w2 ho=>?_;refine o_apS 2 ho rfl (ho.sl 0 rfl 1 1 1 rfl) (by simp[Value.oneCell']) (by simp) fun v1 w3 ho=>?_;have ho:=ho.tail;have ho:Own w w3 [opE b1 o va,keyE v1 [Cs.biW]]:=ho;obtain⟨xk,xc,bi,oi,hdv,hr⟩:=obj_at hx.args hx.all (i:=0) (by rw[hd];simp);have ho0:o.args[0]'(by rw[hd];simp)=d:=by simp[hd]
  rw[ho0] at hr hdv;obtain⟨dcs,hda⟩:=hdv.slices;have ia:∀{W:World} {PK:PKT} {K:VWP},M.has W→DoX prog (mIA 40 va (.int .i64 0)) W PK K=K (.pointer (some ⟨bi,oi,none⟩)) W:=fun h=>do_eq (hr _ h).1;rw[fa_p1,op_a ho 0 rfl,ia (hMW ho),fa_o4,l_cell nSlS5 ((hr w3 (hMW ho)).2 4 _ rfl),sl_len Tryz.underlying39 (hda.keys.now (hMW ho))];refine loop (fun vs w'=>∃(i:Nat) (v:Value),vs=[v,.int .i64 i]∧i≤d.keys.length∧Own w w' [opE b1 o va,keyE v ([Cs.biW]++Cs.pairs (d.keys.take i) (d.kids.take i))]) (fun vs _=>d.keys.length - n1 vs) ⟨0,v1,rfl,by omega,by simpa[Cs.pairs] using ho⟩ ?_;clear ho;rintro vs w4 ⟨i,v,rfl,hi,ho⟩ _;simp only[S_ops_parts_0,gd,rs];have hpl:=Cs.pairs_len (d.keys.take i) (d.kids.take i);rw[List.length_take] at hpl;by_cases hlt:(i:Int) < (d.keys.length:Int)
  ·have hi':i < d.keys.length:=by omega
   have hi2:i < d.kids.length:=by omega
   simp only[decide_eq_true hlt,i_t];refine sl_ia1 (.string ⟨(d.keys[i]).toArray⟩) Tryz.underlying39 (by kernel_rfl) (hda.keys.now (hMW ho)) (by omega) (by rw[Int.toNat_natCast];exact strsV_get hi') fun q hq=>?_;rw[l_cell nStr5 hq];refine c_told (pname_ret d.keys[i] w4) rfl ho fun w5 ho=>?_;simp only[ex];rw[fa_p1,op_a ho 0 rfl,ia (hMW ho),fa_o5,l_cell nSlOb ((hr w5 (hMW ho)).2 5 _ rfl)];refine ob_ia (hda.kids.now (hMW ho)) (OVs.kept (hMW ho) _ _ hda.all) hi2 fun u hu=>?_;have hu1:OV (InW w5) w5 u d.kids[i]:=OV.mono (fun b hb=>Mem.bd (hMW ho) hb) _ _ hu;have hkw:=kid_wt hi2;refine c_told (wtext7_ret d.kids[i] u w5 (ht.own ho) hu1 (by omega)) rfl ho fun w6 ho=>?_;simp only[txtV,ex];refine o_strb2o _ _ ho fun nb2 w7 ho=>?_;refine o_apS 2 ho rfl (ho.sl 0 rfl 1 2 2 rfl) (by simp[Value.oneCell']) (by simp;omega) fun v2 w8 ho=>?_;have ho:=ho.tail
   try simp only[rs]
   rw[wrap64_id (by omega) (by omega)];refine nextX ⟨i+1,v2,rfl,by omega,?_⟩ (by simp[n1,RowKit.intOf];omega);have e:[Cs.biW]++Cs.pairs (d.keys.take (i+1)) (d.kids.take (i+1))=([Cs.biW]++Cs.pairs (d.keys.take i) (d.kids.take i))++[(Pl.pName d.keys[i]).1,(Wr.text d.kids[i]).1]:=by rw[Cs.pairs_succ _ _ i hi' hi2,List.append_assoc]
   rw[e,keyE,List.length_append,hcat];exact ho
  ·have hil:i=d.keys.length:=by omega
   subst hil;simp only[decide_eq_false hlt,i_f];refine o_strb1 Cs.idW ho fun nb w5 ho=>?_;refine o_apS 2 ho rfl (ho.sl 0 rfl 1 1 1 rfl) (by simp[Value.oneCell']) (by simp only[List.length_append,List.length_cons,List.length_nil];omega) fun v2 w6 ho=>?_;have ho:=ho.tail.tail;refine hK _ _ ?_;rw[hp,keyE,List.length_append,hcat];rw[hlen] at ho;rw[List.take_length,←hlen,List.take_length] at ho;exact ho
 ·have hp:Cs.parts o=o.args.map (fun x=>(Wr.text x).1)++[o.name]:=by
   unfold Cs.parts;rw[if_neg (show ¬o.name=Cs.biW from hb)]
  simp only[decide_eq_false hb,i_f];rw[fa_p1,op_a ho 0 rfl,sl_len Tryz.underlying40 (hx.args.now (hMW ho))];refine loop (fun vs w'=>∃(i:Nat) (v:Value),vs=[v,.int .i64 i]∧i≤o.args.length∧Own w w' [opE b1 o va,keyE v ((o.args.take i).map fun x=>(Wr.text x).1)]) (fun vs _=>o.args.length - n1 vs) ⟨0,nilS,rfl,by omega,ho⟩ ?_;clear ho;rintro vs w4 ⟨i,v,rfl,hi,ho⟩ _;simp only[S_ops_parts_1,gd,rs];by_cases hlt:(i:Int) < (o.args.length:Int)
  ·have hi':i < o.args.length:=by omega
   simp only[decide_eq_true hlt,i_t];refine ob_ia (hx.args.now (hMW ho)) (OVs.kept (hMW ho) _ _ hx.all) hi' fun u hu=>?_;have hu0:=hu;obtain⟨xk,xc,xcs,rfl,hxa⟩:=hu.open;have ho3:=ho;refine o_oba ho fun b11 w5 ho=>?_;refine ob_put (o':=o.args[i]) 0 hxa.keys.one hxa.kids.one ho rfl fun w6 ho=>?_;have ho:Own w w6 [obE b11 o.args[i] xk xc,opE b1 o va,keyE v ((o.args.take i).map fun x=>(Wr.text x).1)]:=ho;rw[ob_v ho 0 rfl];have hu1:OV (InW w6) w6 (obV o.args[i] xk xc) o.args[i]:=OV.mono (fun b hb=>Mem.bd (hMW ho) hb) _ _ (OV.kept (kept_of (hMW ho3) (hMW ho)) _ _ hu0);have hkw:=Ob.get_wts o.args i hi';refine c_told (wtext7_ret o.args[i] _ w6 (ht.own ho) hu1 (by omega)) rfl ho fun w7 ho=>?_;simp only[txtV,ex];refine o_strb1 _ ho fun nb2 w8 ho=>?_;refine o_apS 3 ho rfl (ho.sl 0 rfl 1 1 1 rfl) (by simp[Value.oneCell']) (by simp;omega) fun v2 w9 ho=>?_;have ho:=ho.tail.tail
   try simp only[rs]
   rw[wrap64_id (by omega) (by omega)];refine nextX ⟨i+1,v2,rfl,by omega,?_⟩ (by simp[n1,RowKit.intOf];omega);have e:(o.args.take (i+1)).map (fun x=>(Wr.text x).1)=(o.args.take i).map (fun x=>(Wr.text x).1)++[(Wr.text o.args[i]).1]:=by rw[List.take_succ_eq_append_getElem hi',List.map_append];rfl
   rw[e,keyE,List.length_append,hcat];exact ho
  ·have hil:i=o.args.length:=by omega
   subst hil;simp only[decide_eq_false hlt,i_f];rw[fa_p0,op_n ho 0 rfl];refine o_strb1 o.name ho fun nb w5 ho=>?_;refine o_apS 2 ho rfl (ho.sl 0 rfl 1 1 1 rfl) (by simp[Value.oneCell']) (by simp;omega) fun v2 w6 ho=>?_;have ho:=ho.tail.tail;refine hK _ _ ?_;rw[hp,keyE,List.length_append,hcat];rw[List.take_length] at ho;exact ho
theorem opText_ret (l:List Cop)(vl:Value)(cs:List Value)(M:Mem)(w:World)(ht:Tb w)(hM:M.has w)(hs:SlA M.A M.w vl 3 l.length cs)(hall:PVs M.A M.w cs l)(hw:Cs.wts l≤100000000) :
  Ret prog 12 #[vl] w (fun v w'=>v=txtV (Cs.text l)∧Below w.heap.size w w'):=by
 refine ret_of fun K hK=>S_ops_Text_ok ?_;unfold S_ops_Text;have hMW:∀{W:World} {L:List Ent},Own w W L→M.has W:=fun ho=>Mem.has_below hM ho.done;have hlen:=Cs.wts_len l;have fin:∀{W:World} {L:List Ent} {q:List UInt8×Int},Own w W L→q=Cs.text l→K (.returned (txtV q)) W:=fun ho e=>hK _ _ ⟨by rw[e],ho.done⟩;have fin0:∀{W:World} {L:List Ent} {e:Int},Own w W L→([],e)=Cs.text l→K (.returned (.tuple #[.string ⟨#[]⟩,.int .i64 e])) W:=fun ho e=>fin ho e;unfold Cs.text at fin fin0;rw[sl_len Tryz.underlying23 (hs.now hM)];simp only[rs];by_cases h8:(8191:Int) < (l.length:Int)
 ·simp only[decide_eq_true h8,i_t];exact fin0 (Own.start w) (by rw[if_pos (by omega)])
 simp only[decide_eq_false h8,i_f];rw[if_neg (by omega)] at fin fin0;rw[sl_len Tryz.underlying23 (hs.now hM)];have fE:∀(i:Nat) (hi:i < l.length),Cs.refuse (l.drop i)=if Cs.may l[i]≠0 then Cs.may l[i] else Cs.refuse (l.drop (i+1)):=fun i hi=>by rw[List.drop_eq_getElem_cons hi,Cs.refuse]
 refine loop (fun vs w'=>∃(i:Nat),vs=[.int .i64 i]∧i≤l.length∧Cs.refuse l=Cs.refuse (l.drop i)∧Own w w' []) (fun vs _=>l.length - n0 vs) ⟨0,rfl,by omega,by rw[List.drop_zero],Own.start w⟩ ?_;rintro vs w2 ⟨i,rfl,hi,hre,ho⟩ _;simp only[S_ops_Text_0,gd,rs];by_cases hlt:(i:Int) < (l.length:Int)
 ·have hi':i < l.length:=by omega
  simp only[decide_eq_true hlt,i_t];obtain⟨va,acs,bo,oo,hx,hr⟩:=op_at hs hall hi';have hr2:=hr w2 (hMW ho);refine do_eq hr2.1 |>.mpr (do_eq (run_op hr2.2) |>.mpr ?_);refine o_opa ho fun b5 w3 ho=>?_;refine op_put (o':=l[i]) (va':=va) 0 hx.one ho rfl fun w4 ho=>?_;have ho:Own w w4 [opE b5 l[i] va]:=ho;rw[op_v ho 0 rfl];have hgw:=Cs.wts_get l i hi';refine c_told (opmay_ret l[i] va acs M w4 (hMW ho) hx (by omega)) rfl ho fun w5 ho=>?_;simp only[rs];rw[fE i hi'] at hre;by_cases hc:Cs.may l[i]=0
  ·rw[if_neg (by simp[hc])] at hre;simp only[hc,ne_eq,not_true,decide_false,i_f];rw[wrap64_id (by omega) (by omega)];exact nextX ⟨i+1,rfl,by omega,hre,ho.tail⟩ (by simp[n0,RowKit.intOf];omega)
  ·rw[if_pos hc] at hre;simp only[ne_eq,hc,not_false_eq_true,decide_true,i_t];exact fin0 ho (by rw[hre,if_pos hc])
 ·have hil:i=l.length:=by omega
  subst hil;rw[List.drop_length,Cs.refuse] at hre;rw[hre,if_neg (by simp)] at fin;have hmay:=(Cs.refuse_ok l).1 hre;simp only[decide_eq_false hlt,i_f];refine o_new (fun b=>.pointer (some ⟨b,0,none⟩)) [.pointer none,.slice none 0 0] 68 (fun _=>by kernel_rfl) ho fun b w3 ho=>?_;have hB0:∃v0,Own w w3 [Bld b v0 []]:=by
   have h1:=(ho.nilRow 5 1).swap;exact⟨_,OwnS.closeB (l:=[]) (.inl rfl) roomy_nil h1⟩
  obtain⟨v0,ho0⟩:=hB0;rw[sl_len Tryz.underlying23 (hs.now (hMW ho0))];have hol:=Cs.ones_len l;refine loop (fun vs w'=>∃(i:Nat) (bv:Value),vs=[.int .i64 i]∧i≤l.length∧Own w w' [Bld b bv ((l.take i).flatMap Cs.one)]) (fun vs _=>l.length - n0 vs) ⟨0,v0,rfl,by omega,ho0⟩ ?_;clear ho ho0;rintro vs w4 ⟨i,bv,rfl,hi,ho⟩ _;simp only[S_ops_Text_1,gd,rs];by_cases hlt:(i:Int) < (l.length:Int)
  ·have hi':i < l.length:=by omega
   simp only[decide_eq_true hlt,i_t];refine join fun J hJ=>?_;obtain⟨va,acs,bo,oo,hx,hr⟩:=op_at hs hall hi';have hr2:=hr w4 (hMW ho);refine do_eq hr2.1 |>.mpr (do_eq (run_op hr2.2) |>.mpr ?_);refine o_opa ho fun b9 w5 ho=>?_;refine op_put (o':=l[i]) (va':=va) 0 hx.one ho rfl fun w6 ho=>?_;have ho:Own w w6 [opE b9 l[i] va,Bld b bv ((l.take i).flatMap Cs.one)]:=ho;rw[op_v ho 0 rfl];have hgw:=Cs.wts_get l i hi';have hml:=hmay l[i] (List.getElem_mem hi');have hpt:=Cs.parts_tot l[i];have hjl:=Pl.join_len (Cs.parts l[i]);have hsucc:(l.take (i+1)).flatMap Cs.one=(l.take i).flatMap Cs.one++Cs.one l[i]:=by rw[List.take_succ_eq_append_getElem hi',List.flatMap_append];simp
   have hlt1:((l.take i).flatMap Cs.one).length≤44*Cs.wts l:=Nat.le_trans (Cs.ones_len _) (Nat.mul_le_mul_left _ (Cs.wts_take l i));have hdl:l[i].data.length+10≤l[i].wt:=by unfold Cop.wt;omega
   refine c_ret (opparts_ret l[i] va acs M w6 (ht.own ho) (hMW ho) hx (by omega) hml) fun pv w7 hn=>?_;have ho:=ho.join hn;have ho:Own w w7 [keyE pv (Cs.parts l[i]),opE b9 l[i] va,Bld b bv ((l.take i).flatMap Cs.one)]:=ho;refine c_told (pjoin_ret (Cs.parts l[i]) pv w7 (ho.slU 0 rfl) (by omega)) rfl ho fun w8 ho=>?_;have ho:=ho.tail;rw[show (Value.string ⟨#[10]⟩)=.string ⟨([10]:List UInt8).toArray⟩ from rfl,s_add (by simp;omega)];refine c_turn 1 ho rfl (writeString_ret (ho.at_ 1 rfl) (by simp only[List.length_append,List.length_cons,List.length_nil];omega)) ?_;rintro _ _ w9 ⟨_,v3,rfl⟩ ho;have ho:Own w w9 [opE b9 l[i] va,Bld b v3 ((l.take i).flatMap Cs.one++(Pl.join (Cs.parts l[i])++[10]))]:=ho;have fin2:∀{W:World} {v:Value},Own w W [Bld b v ((l.take (i+1)).flatMap Cs.one)]→J [] W:=by
    intro W v ho;refine hJ _ _ fun _=>?_;simp only[S_ops_Text_2,rs];rw[wrap64_id (by omega) (by omega)];exact nextX ⟨i+1,v,rfl,by omega,ho⟩ (by simp[n0,RowKit.intOf];omega)
   rw[hsucc] at fin2;rw[fa_p0,op_n ho 0 rfl];simp only[rs];by_cases hb:l[i].name=[66,73]
   ·have h1:Cs.one l[i]=(Pl.join (Cs.parts l[i])++[10])++(l[i].data++[10,69,73,10]):=by
     unfold Cs.one;rw[if_pos (show l[i].name=Cs.biW from hb)];simp[Cs.eiW]
    rw[h1,←List.append_assoc] at fin2;simp only[decide_eq_true hb,i_t];rw[fa_p2,op_d ho 0 rfl,show (Value.string ⟨#[10,69,73,10]⟩)=.string ⟨([10,69,73,10]:List UInt8).toArray⟩ from rfl,s_add (by simp;omega)];refine c_turn 1 ho rfl (writeString_ret (ho.at_ 1 rfl) (by simp only[List.length_append,List.length_cons,List.length_nil];omega)) ?_;rintro _ _ w10 ⟨_,v4,rfl⟩ ho;exact fin2 ho.tail
   ·have h1:Cs.one l[i]=Pl.join (Cs.parts l[i])++[10]:=by
     unfold Cs.one;rw[if_neg (show ¬l[i].name=Cs.biW from hb),List.append_nil]
    rw[h1] at fin2;simp only[decide_eq_false hb,i_f];exact fin2 ho.tail
  ·have hil:i=l.length:=by omega
   subst hil;rw[List.take_length] at ho;simp only[decide_eq_false hlt,i_f];refine c_turn 0 ho rfl (bldString_ret (ho.at_ 0 rfl)) ?_;rintro _ _ w6 ⟨rfl,rfl⟩ ho;exact fin ho rfl
end
section
open Eng Go.RowKit
abbrev Sp (w:World):Prop:=Lib.TabIs prog w "strings.asciiSpace" .u8 Lib.asciiSpaceTab
theorem Sp.mono {w w':World}(h:Sp w)(hb:Below w.heap.size w w'):Sp w':=
 Go.Joins.tab_stays (show Tryz.prog.globalNamed "strings.asciiSpace"=some 0 by kernel_rfl) h hb (Nat.le_refl _)
theorem Sp.own {w w':World}{L:List Ent}(h:Sp w)(ho:Own w w' L):Sp w':=h.mono ho.done
namespace Cs
def rows:List (List UInt8×List UInt8):=[([],[98,32,66,32,98,42,32,66,42,32,66,84,32,69,84,32,69,77,67,32,66,88,32,69,88,32,102,32,70,32,102,42,32,104,32,110,32,113,32,81,32,115,32,83,32,84,42,32,87,32,87,42]),([110],[103,32,71,32,105,32,106,32,74,32,77,32,119,32,84,99,32,84,76,32,84,114,32,84,115,32,84,119,32,84,122]),([110,110],[100,48,32,108,32,109,32,84,100,32,84,68]),([110,110,110],[114,103,32,82,71]),([110,110,110,110],[107,32,75,32,114,101,32,118,32,121]),([110,110,110,110,110,110],[99,32,99,109,32,100,49,32,84,109]),([78],[66,77,67,32,99,115,32,67,83,32,68,111,32,103,115,32,77,80,32,114,105,32,115,104]),([78,110],[84,102]),([78,42],[66,68,67,32,68,80]),([115],[84,106,32,39]),([110,110,115],[34]),([97],[84,74]),([97,110],[100]),([100],[66,73])]
def takesG:List (List UInt8×List UInt8)→List UInt8→List UInt8
|[],_=>[63]
|p::l,s=>if s∈Lib.fields p.2 then p.1 else takesG l s
def takes (s:List UInt8):List UInt8:=takesG rows s
def fits (c:UInt8)(k:Int):Bool:=if c=110 then decide (k=2)||decide (k=3) else if c=115 then decide (k=4) else if c=78 then decide (k=5) else if c=97 then decide (k=6) else if c=100 then decide (k=7) else true
def fitsL:List UInt8→List Ob→Bool
|c::cs,o::os=>fits c o.k&&fitsL cs os
|_,_=>true
theorem fitsL_nil (l:List Ob):fitsL [] l=true:=by cases l<;>rfl
def check (o:Cop):Int:=if takes o.name=[63]∨(takes o.name).length≠o.args.length then 28 else if fitsL (takes o.name) o.args=false then 28 else if o.data≠[]∧o.name≠[66,73] then 3 else 0
def num1 (x:Int):Int×Bool:=if (decide (-1073741824≤x)&&decide (x≤1073741824))=true then (x,true) else (0,false)
def number (o:Ob):Int×Bool:=if o.k=2 then (if (decide (-107374≤o.n)&&decide (o.n≤107374))=true then num1 (o.n*10000) else (0,false)) else if o.k=3 then num1 o.n else (0,false)
def numsG:List Ob→List Int→List Int×Int
|[],acc=>(acc,0)
|o::l,acc=>if o.k≠2∧o.k≠3 then ([],10) else if (number o).2=false then ([],2) else numsG l (acc++[(number o).1])
end Cs
abbrev rwT:TypeId:=79
abbrev rwA:TypeId:=80
def rwC:List Value:=Cs.rows.flatMap fun p=>[.string ⟨p.1.toArray⟩,.string ⟨p.2.toArray⟩]
section
variable {w:World}{PK:PKT}{K:VWP}
theorem m_row {a s:ByteArray}:DoX prog (mBuild rwT #[(0,.string a),(1,.string s)]) w PK K=K (.agg #[.string a,.string s]) w:=do_eq (by kernel_rfl)
theorem m_rowa:DoX prog (mBuild rwA #[(0,.agg #[.string ⟨#[]⟩,.string ⟨#[98,32,66,32,98,42,32,66,42,32,66,84,32,69,84,32,69,77,67,32,66,88,32,69,88,32,102,32,70,32,102,42,32,104,32,110,32,113,32,81,32,115,32,83,32,84,42,32,87,32,87,42]⟩]),(1,.agg #[.string ⟨#[110]⟩,.string ⟨#[103,32,71,32,105,32,106,32,74,32,77,32,119,32,84,99,32,84,76,32,84,114,32,84,115,32,84,119,32,84,122]⟩]),(2,.agg #[.string ⟨#[110,110]⟩,.string ⟨#[100,48,32,108,32,109,32,84,100,32,84,68]⟩]),(3,.agg #[.string ⟨#[110,110,110]⟩,.string ⟨#[114,103,32,82,71]⟩]),(4,.agg #[.string ⟨#[110,110,110,110]⟩,.string ⟨#[107,32,75,32,114,101,32,118,32,121]⟩]),(5,.agg #[.string ⟨#[110,110,110,110,110,110]⟩,.string ⟨#[99,32,99,109,32,100,49,32,84,109]⟩]),(6,.agg #[.string ⟨#[78]⟩,.string ⟨#[66,77,67,32,99,115,32,67,83,32,68,111,32,103,115,32,77,80,32,114,105,32,115,104]⟩]),(7,.agg #[.string ⟨#[78,110]⟩,.string ⟨#[84,102]⟩]),(8,.agg #[.string ⟨#[78,42]⟩,.string ⟨#[66,68,67,32,68,80]⟩]),(9,.agg #[.string ⟨#[115]⟩,.string ⟨#[84,106,32,39]⟩]),(10,.agg #[.string ⟨#[110,110,115]⟩,.string ⟨#[34]⟩]),(11,.agg #[.string ⟨#[97]⟩,.string ⟨#[84,74]⟩]),(12,.agg #[.string ⟨#[97,110]⟩,.string ⟨#[100]⟩]),(13,.agg #[.string ⟨#[100]⟩,.string ⟨#[66,73]⟩])]) w PK K=K (.agg rwC.toArray) w:=do_eq (by kernel_rfl)
theorem r_rwix_0:(mIx rwA (.agg rwC.toArray) (.int .i64 ((0:Nat):Int))).run prog w=.ok (.value (.agg #[.string ⟨Cs.rows[0].1.toArray⟩,.string ⟨Cs.rows[0].2.toArray⟩])) w:=by kernel_rfl
theorem r_rwix_1:(mIx rwA (.agg rwC.toArray) (.int .i64 ((1:Nat):Int))).run prog w=.ok (.value (.agg #[.string ⟨Cs.rows[1].1.toArray⟩,.string ⟨Cs.rows[1].2.toArray⟩])) w:=by kernel_rfl
theorem r_rwix_2:(mIx rwA (.agg rwC.toArray) (.int .i64 ((2:Nat):Int))).run prog w=.ok (.value (.agg #[.string ⟨Cs.rows[2].1.toArray⟩,.string ⟨Cs.rows[2].2.toArray⟩])) w:=by kernel_rfl
theorem r_rwix_3:(mIx rwA (.agg rwC.toArray) (.int .i64 ((3:Nat):Int))).run prog w=.ok (.value (.agg #[.string ⟨Cs.rows[3].1.toArray⟩,.string ⟨Cs.rows[3].2.toArray⟩])) w:=by kernel_rfl
theorem r_rwix_4:(mIx rwA (.agg rwC.toArray) (.int .i64 ((4:Nat):Int))).run prog w=.ok (.value (.agg #[.string ⟨Cs.rows[4].1.toArray⟩,.string ⟨Cs.rows[4].2.toArray⟩])) w:=by kernel_rfl
theorem r_rwix_5:(mIx rwA (.agg rwC.toArray) (.int .i64 ((5:Nat):Int))).run prog w=.ok (.value (.agg #[.string ⟨Cs.rows[5].1.toArray⟩,.string ⟨Cs.rows[5].2.toArray⟩])) w:=by kernel_rfl
theorem r_rwix_6:(mIx rwA (.agg rwC.toArray) (.int .i64 ((6:Nat):Int))).run prog w=.ok (.value (.agg #[.string ⟨Cs.rows[6].1.toArray⟩,.string ⟨Cs.rows[6].2.toArray⟩])) w:=by kernel_rfl
theorem r_rwix_7:(mIx rwA (.agg rwC.toArray) (.int .i64 ((7:Nat):Int))).run prog w=.ok (.value (.agg #[.string ⟨Cs.rows[7].1.toArray⟩,.string ⟨Cs.rows[7].2.toArray⟩])) w:=by kernel_rfl
theorem r_rwix_8:(mIx rwA (.agg rwC.toArray) (.int .i64 ((8:Nat):Int))).run prog w=.ok (.value (.agg #[.string ⟨Cs.rows[8].1.toArray⟩,.string ⟨Cs.rows[8].2.toArray⟩])) w:=by kernel_rfl
theorem r_rwix_9:(mIx rwA (.agg rwC.toArray) (.int .i64 ((9:Nat):Int))).run prog w=.ok (.value (.agg #[.string ⟨Cs.rows[9].1.toArray⟩,.string ⟨Cs.rows[9].2.toArray⟩])) w:=by kernel_rfl
theorem r_rwix_10:(mIx rwA (.agg rwC.toArray) (.int .i64 ((10:Nat):Int))).run prog w=.ok (.value (.agg #[.string ⟨Cs.rows[10].1.toArray⟩,.string ⟨Cs.rows[10].2.toArray⟩])) w:=by kernel_rfl
theorem r_rwix_11:(mIx rwA (.agg rwC.toArray) (.int .i64 ((11:Nat):Int))).run prog w=.ok (.value (.agg #[.string ⟨Cs.rows[11].1.toArray⟩,.string ⟨Cs.rows[11].2.toArray⟩])) w:=by kernel_rfl
theorem r_rwix_12:(mIx rwA (.agg rwC.toArray) (.int .i64 ((12:Nat):Int))).run prog w=.ok (.value (.agg #[.string ⟨Cs.rows[12].1.toArray⟩,.string ⟨Cs.rows[12].2.toArray⟩])) w:=by kernel_rfl
theorem r_rwix_13:(mIx rwA (.agg rwC.toArray) (.int .i64 ((13:Nat):Int))).run prog w=.ok (.value (.agg #[.string ⟨Cs.rows[13].1.toArray⟩,.string ⟨Cs.rows[13].2.toArray⟩])) w:=by kernel_rfl
theorem r_rwix {i:Nat}(hi:i < 14):(mIx rwA (.agg rwC.toArray) (.int .i64 (i:Int))).run prog w=.ok (.value (.agg #[.string ⟨(Cs.rows[i]'hi).1.toArray⟩,.string ⟨(Cs.rows[i]'hi).2.toArray⟩])) w:=by
 match i,hi with
|0,_=>exact r_rwix_0
|1,_=>exact r_rwix_1
|2,_=>exact r_rwix_2
|3,_=>exact r_rwix_3
|4,_=>exact r_rwix_4
|5,_=>exact r_rwix_5
|6,_=>exact r_rwix_6
|7,_=>exact r_rwix_7
|8,_=>exact r_rwix_8
|9,_=>exact r_rwix_9
|10,_=>exact r_rwix_10
|11,_=>exact r_rwix_11
|12,_=>exact r_rwix_12
|13,_=>exact r_rwix_13
end
theorem rw_fo0:fOff prog rwT 0=some 0:=by kernel_rfl
theorem rw_fo1:fOff prog rwT 1=some 1:=by kernel_rfl
theorem rw_sz:(Tryz.prog.info? rwT).map (·.size)=some 2:=by kernel_rfl
theorem rwA_sz:(Tryz.prog.info? rwA).map (·.size)=some 28:=by kernel_rfl
theorem rwA_agg:aggN prog rwA=some 28:=by kernel_rfl
theorem rwA_one:∀v∈rwC,v.oneCell'=true:=by
 have:(rwC.all fun v=>v.oneCell')=true:=by kernel_rfl
 intro v hv;exact List.all_eq_true.1 this v hv
theorem rows_ok {i:Nat}(hi:i < Cs.rows.length):Cs.rows[i].2.length≤1000∧(Cs.rows[i].2.all fun b=>decide (b.toNat < 128))=true∧(Lib.fields Cs.rows[i].2).length≤1000:=by
 have:(Cs.rows.all fun p=>decide (p.2.length≤1000∧(p.2.all fun b=>decide (b.toNat < 128))=true∧(Lib.fields p.2).length≤1000))=true:=by decide +kernel
 have:=List.all_eq_true.1 this _ (List.getElem_mem hi);simpa using this
theorem Cs.takesG_in:∀(l:List (List UInt8×List UInt8)) (s:List UInt8),takesG l s=[63]∨∃p∈l,takesG l s=p.1
|[],s=>.inl rfl
|p::l,s=>by
  rw[takesG];split
  ·exact .inr ⟨p,List.mem_cons_self,rfl⟩
  ·rcases takesG_in l s with h|⟨q,hq,h⟩
   ·exact .inl h
   ·exact .inr ⟨q,List.mem_cons_of_mem _ hq,h⟩
theorem Cs.takes_ok (s:List UInt8):(takes s).length≤6∧∀c∈takes s,c.toNat < 128:=by
 have h:(Cs.rows.all fun p=>decide (p.1.length≤6∧∀c∈p.1,c.toNat < 128))=true:=by decide +kernel
 rcases takesG_in rows s with e|⟨p,hp,e⟩
 ·rw[takes,e];decide
 ·rw[takes,e];exact of_decide_eq_true (List.all_eq_true.1 h p hp)
theorem fieldsG_ret (t:List UInt8)(w:World)(hs:Sp w)(hl:t.length≤1000)(ha:t.all (fun b=>decide (b.toNat < 128))=true)(hf:(Lib.fields t).length≤1000) :
  Ret prog 33 #[.string ⟨t.toArray⟩] w (fun v w'=>Own w w' [StrRow v (Lib.fields t)]):=by
 refine ret_of fun K hK=>Calls.mono (Tryz.strings_Fields ⟨t.toArray⟩ w (by rw[str_size];omega) (fun j b h=>?_) hs) ?_
 ·have hm:=List.mem_of_getElem? h;exact of_decide_eq_true (List.all_eq_true.1 ha b hm)
 ·rintro e w' ⟨rfl,rfl⟩;have ho:=(Own.start w).alloc (strsV (Lib.fields t)) 9;have:=ho.toRow 1 (Lib.fields t).length (Lib.fields t).length (by rw[strsV_length,Nat.mul_one]) (by omega) (by omega);refine hK _ _ ?_;have e:(⟨t.toArray⟩:ByteArray).data.toList=t:=rfl;rw[List.take_of_length_le (by rw[strsV_length];omega)] at this;rw[e];exact this
theorem optakes_ret (s:List UInt8)(w:World)(hs:Sp w):Ret prog 14 #[.string ⟨s.toArray⟩] w (fun v w'=>v=.string ⟨(Cs.takes s).toArray⟩∧Below w.heap.size w w'):=by
 refine ret_of fun K hK=>S_ops_Takes_ok ?_;unfold S_ops_Takes;simp only[m_row];rw[m_rowa];refine o_new (fun b=>.pointer (some ⟨b,0,none⟩)) (List.replicate 28 (.string ⟨#[]⟩)) rwA (fun _=>by kernel_rfl) (Own.start w) fun b w1 ho=>?_;refine o_put 0 ho rfl (new:=rwC) rwA_sz rwA_one rfl fun w2 ho=>?_;have ho:Own w w2 [.cells b rwC rwA]:=ho;rw[l_at (ho.agg 0 rfl rwA_agg)];have ho:=ho.tail;refine loop (fun vs w'=>∃i:Nat,vs=[.int .i64 i]∧i≤14∧Cs.takes s=Cs.takesG (Cs.rows.drop i) s∧Own w w' []) (fun vs _=>14 - n0 vs) ⟨0,rfl,by omega,rfl,ho⟩ ?_;clear ho;rintro vs w3 ⟨i,rfl,hi,he,ho⟩ _;simp only[S_ops_Takes_0,gd,rs];by_cases hlt:(i:Int) < 14
 ·have hi':i < 14:=by omega
  simp only[hlt,decide_true,i_t];obtain⟨hl,hasc,hf⟩:=rows_ok (i:=i) hi';rw[List.drop_eq_getElem_cons (show i < Cs.rows.length from hi'),Cs.takesG] at he;refine do_eq (r_rwix hi') |>.mpr ?_;generalize Cs.rows[i]=p at *;refine o_new (fun b=>.pointer (some ⟨b,0,none⟩)) [.string ⟨#[]⟩,.string ⟨#[]⟩] rwT (fun _=>by kernel_rfl) ho fun b6 w4 ho=>?_;refine o_put 0 ho rfl (new:=[.string ⟨p.1.toArray⟩,.string ⟨p.2.toArray⟩]) rw_sz (by simp[Value.oneCell']) rfl fun w5 ho=>?_;have ho:Own w w5 [.cells b6 [.string ⟨p.1.toArray⟩,.string ⟨p.2.toArray⟩] rwT]:=ho;rw[f_addr rw_fo1,l_cell nStr5 (ho.cell 0 rfl 1 rfl)];refine c_ret (fieldsG_ret p.2 w5 (hs.own ho) hl hasc hf) fun v w6 hn=>?_;have ho:=ho.join hn;have ho:Own w w6 [StrRow v (Lib.fields p.2),.cells b6 [.string ⟨p.1.toArray⟩,.string ⟨p.2.toArray⟩] rwT]:=ho;refine c_eq (contains4_ret v (Lib.fields p.2) s w6 (ho.slRow 0 rfl) (by omega)) ?_;by_cases hm:s∈Lib.fields p.2
  ·rw[if_pos hm] at he;simp only[decide_eq_true hm,i_t];rw[f_addr rw_fo0,l_cell nStr5 (ho.cell 1 rfl 0 rfl)];exact hK _ _ ⟨by rw[he],ho.done⟩
  ·rw[if_neg hm] at he;simp only[decide_eq_false hm,i_f,rs];rw[wrap64_id (by omega) (by omega)];exact nextX ⟨i+1,rfl,by omega,he,ho.tail.tail⟩ (by simp[n0,RowKit.intOf];omega)
 ·simp only[hlt,decide_false,i_f];have:i=14:=by omega
  subst this;rw[show Cs.rows.drop 14=[] from rfl,Cs.takesG] at he;exact hK _ _ ⟨by rw[he],ho.done⟩
 attribute [local congr] g_congr in
theorem opfits_ret (c:UInt8)(k:Int)(w:World):Ret prog 34 #[.int .i32 (c.toNat:Int),.int .i64 k] w (fun v w'=>v=.bool (Cs.fits c k)∧w=w'):=by
  refine ret_of fun K hK=>S_ops_fits_ok ?_;unfold S_ops_fits;have q:∀n:UInt8,decide ((c.toNat:Int)=(n.toNat:Int))=decide (c=n):=fun n=>by
   congr 1
   exact propext ⟨fun h=>UInt8.toNat_inj.1 (by omega),fun h=>by rw[h]⟩
  have q110:decide ((c.toNat:Int)=110)=decide (c=110):=q 110;have q115:decide ((c.toNat:Int)=115)=decide (c=115):=q 115;have q78:decide ((c.toNat:Int)=78)=decide (c=78):=q 78;have q97:decide ((c.toNat:Int)=97)=decide (c=97):=q 97;have q100:decide ((c.toNat:Int)=100)=decide (c=100):=q 100;simp +contextual only[rs,gs,q110,q115,q78,q97,q100];have fin:∀{b:Bool},b=Cs.fits c k→K (.returned (.bool b)) w:=fun e=>hK _ _ ⟨by rw[e],rfl⟩;unfold Cs.fits at fin;by_cases h1:c=110
  ·rw[if_pos h1] at fin;simp only[decide_eq_true h1,i_t];exact fin (by cases decide (k=2)<;>rfl)
  rw[if_neg h1] at fin;simp only[decide_eq_false h1,i_f];by_cases h2:c=115
  ·rw[if_pos h2] at fin;simp only[decide_eq_true h2,i_t];exact fin rfl
  rw[if_neg h2] at fin;simp only[decide_eq_false h2,i_f];by_cases h3:c=78
  ·rw[if_pos h3] at fin;simp only[decide_eq_true h3,i_t];exact fin rfl
  rw[if_neg h3] at fin;simp only[decide_eq_false h3,i_f];by_cases h4:c=97
  ·rw[if_pos h4] at fin;simp only[decide_eq_true h4,i_t];exact fin rfl
  rw[if_neg h4] at fin;simp only[decide_eq_false h4,i_f];by_cases h5:c=100
  ·rw[if_pos h5] at fin;simp only[decide_eq_true h5,i_t];exact fin rfl
  rw[if_neg h5] at fin;simp only[decide_eq_false h5,i_f];exact fin rfl
theorem iterPos_ob {w0 w:World}{L:List Ent}(h:Own w0 w L)(i:Nat){b:Nat}{s:ByteArray}{p:Nat}(hi:L[i]?=some (.obj b (.stringIter s p))):w.iterPos b=p:=by
 have:w.heap[b]?=some (.stringIter s p):=h.at_ i hi;simp[World.iterPos,this]
theorem opcheck_ret (o:Cop)(va:Value)(acs:List Value)(M:Mem)(w:World)(hs:Sp w)(hM:M.has w)(hx:OpAt M.A M.w o va acs) :
  Ret prog 15 #[opV o va] w (fun v w'=>v=.int .i64 (Cs.check o)∧Below w.heap.size w w'):=by
 refine ret_of fun K hK=>S_ops_Check_ok ?_;unfold S_ops_Check;have hMW:∀{W:World} {L:List Ent},Own w W L→M.has W:=fun ho=>Mem.has_below hM ho.done;have fin:∀{W:World} {L:List Ent} {e:Int},Own w W L→e=Cs.check o→K (.returned (.int .i64 e)) W:=fun ho e=>hK _ _ ⟨by rw[e],ho.done⟩;unfold Cs.check at fin;refine o_opb o hx.one (Own.start w) fun b1 w1 ho=>?_;have ho:Own w w1 [opE b1 o va]:=ho;rw[fa_p0,op_n ho 0 rfl];refine c_told (optakes_ret o.name w1 (hs.own ho)) rfl ho fun w2 ho=>?_;obtain⟨ht6,htA⟩:=Cs.takes_ok o.name;generalize Cs.takes o.name=l at *;simp only[rs];by_cases h1:l=[63]
 ·rw[if_pos (.inl h1)] at fin;simp only[decide_eq_true h1,rs,g_un];exact fin ho rfl
 simp only[decide_eq_false h1,rs];rw[s_len Tryz.underlying9,fa_p1,op_a ho 0 rfl,sl_len Tryz.underlying40 (hx.args.now (hMW ho))];simp only[rs];by_cases h2:l.length=o.args.length
 case neg=>
  rw[if_pos (.inr h2)] at fin;simp only[ne_eq,show ¬((l.length:Int)=(o.args.length:Int)) by omega,not_false_eq_true,decide_true,rs];exact fin ho rfl
 rw[if_neg (by rintro (h|h)<;>contradiction)] at fin;simp only[ne_eq,show ((l.length:Int)=(o.args.length:Int)) by omega,not_true,decide_false,rs];refine o_range Tryz.underlying9 ho fun b2 w3 ho=>?_;have ho:Own w w3 [.obj b2 (.stringIter ⟨l.toArray⟩ 0),opE b1 o va]:=ho;refine loop (fun vs w'=>∃i:Nat,vs=[]∧i≤l.length∧Cs.fitsL l o.args=Cs.fitsL (l.drop i) (o.args.drop i)∧Own w w' [.obj b2 (.stringIter ⟨l.toArray⟩ i),opE b1 o va]) (fun vs w'=>l.length - w'.iterPos b2) ⟨0,rfl,by omega,rfl,ho⟩ ?_;clear ho;rintro vs w4 ⟨i,rfl,hi,he,ho⟩ _;have hip:=iterPos_ob ho 0 rfl;simp only[S_ops_Check_0,gd,rs];by_cases hlt:i < l.length
 ·have hi2:i < o.args.length:=by omega
  refine o_next 0 ho rfl (List.getElem?_eq_getElem hlt) (htA _ (List.getElem_mem hlt)) fun w5 ho=>?_;have ho:Own w w5 [.obj b2 (.stringIter ⟨l.toArray⟩ (i+1)),opE b1 o va]:=ho;simp only[x3_0,x3_1,x3_2,i_t];rw[fa_p1,op_a ho 1 rfl];obtain⟨xk,xc,bo,oo,hov,hr⟩:=obj_at hx.args hx.all hi2;have hr2:=hr w5 (hMW ho);refine do_eq hr2.1 |>.mpr ?_;have hq:=hr2.2 0 _ rfl;rw[Nat.add_zero] at hq;rw[fa_o0,l_cell nInt5 hq];refine c_eq (opfits_ret l[i] o.args[i].k w5) ?_;rw[List.drop_eq_getElem_cons hlt,List.drop_eq_getElem_cons hi2,Cs.fitsL] at he;simp only[rs];cases hf:Cs.fits l[i] o.args[i].k with
 |false=>
   rw[hf,Bool.false_and] at he;rw[if_pos he] at fin;simp only[Bool.not_false,i_t];exact fin ho rfl
 |true=>
   rw[hf,Bool.true_and] at he;simp only[Bool.not_true,i_f];refine nextX ⟨i+1,rfl,by omega,he,ho⟩ ?_;rw[hip,iterPos_ob ho 0 rfl];omega
 ·have hil:i=l.length:=by omega
  subst hil;rw[List.drop_length,Cs.fitsL_nil] at he
  ·rw[if_neg (by rw[he];simp)] at fin;rw[o_next_end 0 ho rfl (by omega)];simp only[x1_0,i_f];rw[fa_p2,op_d ho 1 rfl];simp only[rs];by_cases h3:o.data=[]
   ·rw[if_neg (by simp[h3])] at fin;simp only[ne_eq,h3,not_true,decide_false,rs];exact fin ho rfl
   ·simp only[ne_eq,h3,not_false_eq_true,decide_true,rs];rw[fa_p0,op_n ho 1 rfl];simp only[rs];by_cases h4:o.name=[66,73]
    ·rw[if_neg (by simp[h4])] at fin;simp only[ne_eq,h4,not_true,decide_false,rs];exact fin ho rfl
    ·rw[if_pos ⟨h3,h4⟩] at fin;simp only[ne_eq,h4,not_false_eq_true,decide_true,rs];exact fin ho rfl
theorem elI64:elB prog 2 1 8=true:=by kernel_rfl
theorem vnumber_ret (o:Ob)(v:Value)(w:World)(hv:OV (InW w) w v o):Ret prog 31 #[v] w (fun v w'=>v=.tuple #[.int .i64 (Cs.number o).1,.bool (Cs.number o).2]∧Below w.heap.size w w'):=by
 refine ret_of fun K hK=>S_value_Number_ok ?_;unfold S_value_Number;obtain⟨xk,xc,cs,rfl,hx⟩:=hv.open;refine o_obb o hx.keys.one hx.kids.one (Own.start w) fun b1 w1 ho=>?_;have ho:Own w w1 [obE b1 o xk xc]:=ho;rw[fa_o1,ob_n ho 0 rfl];have fin:∀{p:Int×Bool},p=Cs.number o→K (.returned (.tuple #[.int .i64 p.1,.bool p.2])) w1:=fun e=>hK _ _ ⟨by rw[e],ho.done⟩;refine join fun J hJ=>?_;have hJ2:∀x,Cs.num1 x=Cs.number o→J [.int .i64 x] w1:=fun x hx=>by
  refine hJ _ _ fun _=>?_;simp only[S_value_Number_0,gd];refine c_eq (within64_ret x _ _ w1) ?_;simp only[rs];unfold Cs.num1 at hx;cases hb:decide (-1073741824≤x)&&decide (x≤1073741824) with
 |true=>
   rw[if_pos hb] at hx;simp only[Bool.not_true,i_f];exact fin hx
 |false=>
   rw[if_neg (by rw[hb];simp)] at hx;simp only[Bool.not_false,i_t];exact fin hx
 rw[fa_o0,ob_k ho 0 rfl];simp only[rs];unfold Cs.number at fin hJ2;by_cases h2:o.k=2
 ·rw[if_pos h2] at fin hJ2;simp only[decide_eq_true h2,i_t];refine c_eq (within64_ret o.n _ _ w1) ?_;simp only[rs];cases hb:decide (-107374≤o.n)&&decide (o.n≤107374) with
 |false=>
   rw[if_neg (by rw[hb];simp)] at fin;simp only[Bool.not_false,i_t];exact fin rfl
 |true=>
   rw[if_pos hb] at hJ2;simp only[Bool.and_eq_true,decide_eq_true_eq] at hb;simp only[Bool.not_true,i_f];rw[wrap64_id (by omega) (by omega)];exact hJ2 _ rfl
 ·rw[if_neg h2] at fin hJ2;simp only[decide_eq_false h2,i_f];by_cases h3:o.k=3
  ·rw[if_pos h3] at hJ2;simp only[decide_eq_true h3,i_t];exact hJ2 _ rfl
  ·rw[if_neg h3] at fin;simp only[decide_eq_false h3,i_f];exact fin rfl
def numsV (l:List Int):List Value:=l.map fun x=>.int .i64 x
def numE (v:Value)(l:List Int):Ent:=.urow 2 1 v l.length (numsV l)
theorem opnums_ret (o:Cop)(va:Value)(acs:List Value)(M:Mem)(w:World)(hM:M.has w)(hx:OpAt M.A M.w o va acs)(hl:o.args.length≤1000000000) :
  Ret prog 13 #[opV o va] w (fun v w'=>∃r,v=.tuple #[r,.int .i64 (Cs.numsG o.args []).2]∧Own w w' [numE r (Cs.numsG o.args []).1]):=by
 refine ret_of fun K hK=>S_ops_Nums_ok ?_;unfold S_ops_Nums;have hMW:∀{W:World} {L:List Ent},Own w W L→M.has W:=fun ho=>Mem.has_below hM ho.done;have fin:∀{W:World} {r:Value} {q:List Int×Int},Own w W [numE r q.1]→q=Cs.numsG o.args []→K (.returned (.tuple #[r,.int .i64 q.2])) W:=fun ho e=>hK _ _ ⟨_,by subst e;rfl,by subst e;exact ho⟩;refine o_opb o hx.one ((Own.start w).nilU 2 1) fun b1 w1 ho=>?_;have ho:Own w w1 [opE b1 o va,numE nilS []]:=ho;rw[fa_p1,op_a ho 0 rfl,sl_len Tryz.underlying40 (hx.args.now (hMW ho))];refine loop (fun vs w'=>∃(i:Nat) (r:Value) (acc:List Int),vs=[r,.int .i64 i]∧i≤o.args.length∧acc.length=i∧Cs.numsG o.args []=Cs.numsG (o.args.drop i) acc∧Own w w' [opE b1 o va,numE r acc]) (fun vs _=>o.args.length - n1 vs) ⟨0,_,[],rfl,by omega,rfl,rfl,ho⟩ ?_;clear ho;rintro vs w3 ⟨i,r,acc,rfl,hi,hacc,he,ho⟩ _;simp only[S_ops_Nums_0,gd,rs];by_cases hlt:(i:Int) < (o.args.length:Int)
 ·have hi':i < o.args.length:=by omega
  simp only[decide_eq_true hlt,i_t];rw[List.drop_eq_getElem_cons hi',Cs.numsG] at he;refine ob_ia (hx.args.now (hMW ho)) (OVs.kept (hMW ho) _ _ hx.all) hi' fun v hv=>?_;have hv0:=hv;obtain⟨xk,xc,xcs,rfl,hxa⟩:=hv.open;have ho3:=ho;refine o_oba ho fun b7 w4 ho=>?_;refine ob_put (o':=o.args[i]) 0 hxa.keys.one hxa.kids.one ho rfl fun w5 ho=>?_;have ho:Own w w5 [obE b7 o.args[i] xk xc,opE b1 o va,numE r acc]:=ho;have hv5:OV (InW w5) w5 (obV o.args[i] xk xc) o.args[i]:=OV.mono (fun b hb=>Mem.bd (hMW ho) hb) _ _ (OV.kept (kept_of (hMW ho3) (hMW ho)) _ _ hv0);simp only[rs,fa_o0,ob_k ho 0 rfl];by_cases hbad:o.args[i].k≠2∧o.args[i].k≠3
  ·rw[if_pos hbad] at he;simp only[ne_eq,hbad.1,not_false_eq_true,decide_true,rs];rw[ob_k ho 0 rfl];simp only[ne_eq,hbad.2,not_false_eq_true,decide_true,rs];exact fin (q:=([],10)) (ho.tail.tail.tail.nilU 2 1) he.symm
  ·rw[if_neg hbad] at he;have h23:o.args[i].k=2∨o.args[i].k=3:=by omega
   rcases h23 with h2|h3
   case' inl=>simp only[ne_eq,h2,not_true,decide_false,rs]
   case' inr=>
    simp only[ne_eq,show ¬o.args[i].k=2 by omega,not_false_eq_true,decide_true,rs];rw[ob_k ho 0 rfl];simp only[ne_eq,h3,not_true,decide_false,rs]
   all_goals
    rw[ob_v ho 0 rfl];refine c_told (vnumber_ret o.args[i] _ w5 hv5) rfl ho fun w6 ho=>?_;simp only[ex];simp only[rs];cases hb:(Cs.number o.args[i]).2 with
   |false=>
     rw[if_pos hb] at he;simp only[Bool.not_false,i_t];exact fin (q:=([],2)) (ho.tail.tail.tail.nilU 2 1) he.symm
   |true=>
     rw[if_neg (by rw[hb];simp)] at he;simp only[Bool.not_true,i_f];refine o_new (fun b=>.slice (some ⟨b,0,none⟩) 1 1) [.int .i64 (Cs.number o.args[i]).1] 2 (fun _=>by kernel_rfl) ho fun nb w7 ho=>?_;refine o_appendU 3 Tryz.underlying36 elI64 (by decide) ho rfl (ho.sl 0 rfl 1 1 1 rfl) (by intro u hu;rw[List.mem_singleton] at hu;subst hu;rfl) (by omega) (by omega) fun v2 w8 ho=>?_;have ho:=ho.tail.tail;rw[wrap64_id (by omega) (by omega)];refine nextX ⟨i+1,v2,acc++[(Cs.number o.args[i]).1],rfl,by omega,by rw[List.length_append,hacc];rfl,he,?_⟩ (by simp[n1,RowKit.intOf];omega);rw[numE,List.length_append,numsV,List.map_append];exact ho
 ·have hil:i=o.args.length:=by omega
  simp only[decide_eq_false hlt,i_f];rw[hil,List.drop_length,Cs.numsG] at he;exact fin (q:=(acc,0)) ho.tail he.symm
end
section
open Eng
def S_foliantlaw43_lives (w:World)(K:Ending→World→Prop):Prop:=
 CallX prog 8 #[(.string ⟨#[49,32,48,32,48,32,114,103,32,40,97,41,84,106]⟩)] w (pk K) fun t12 w=>
 DoX prog (mExt t12 0) w (pk K) fun t13 w=>
 DoX prog (mExt t12 1) w (pk K) fun t14 w=>
 DoX prog (mAlloc 26) w (pk K) fun t2 w=>
 DoX prog (mStore 26 t2 t14) w (pk K) fun _ w=>
 CallX prog 8 #[(.string ⟨#[49,32,50]⟩)] w (pk K) fun t16 w=>
 DoX prog (mExt t16 0) w (pk K) fun t17 w=>
 DoX prog (mExt t16 1) w (pk K) fun t18 w=>
 DoX prog (mAlloc 26) w (pk K) fun t4 w=>
 DoX prog (mStore 26 t4 t18) w (pk K) fun _ w=>
 CallX prog 8 #[(.string ⟨#[66,73,32,47,87,32,49,32,73,68,32,97,98,32,69,73,32,113]⟩)] w (pk K) fun t20 w=>
 DoX prog (mExt t20 0) w (pk K) fun t21 w=>
 DoX prog (mExt t20 1) w (pk K) fun t22 w=>
 DoX prog (mAlloc 26) w (pk K) fun t6 w=>
 DoX prog (mStore 26 t6 t22) w (pk K) fun _ w=>
 CallX prog 12 #[t21] w (pk K) fun t25 w=>
 DoX prog (mExt t25 0) w (pk K) fun t26 w=>
 DoX prog (mExt t25 1) w (pk K) fun t27 w=>
 DoX prog (mBuild 42 #[(0,(.int .i64 2)),(1,(.int .i64 2))]) w (pk K) fun t29 w=>
 DoX prog (mBuild 42 #[(0,(.int .i64 3)),(1,(.int .i64 5))]) w (pk K) fun t30 w=>
 DoX prog (mBuildS 40 2 #[(0,t29),(1,t30)]) w (pk K) fun t31 w=>
 DoX prog (mBuild 44 #[(1,t31)]) w (pk K) fun t32 w=>
 CallX prog 13 #[t32] w (pk K) fun t33 w=>
 DoX prog (mExt t33 0) w (pk K) fun t34 w=>
 DoX prog (mExt t33 1) w (pk K) fun t35 w=>
 DoX prog (mB .len #[23] 3 #[false] #[t13]) w (pk K) fun t37 w=>
 DoX prog (mEq .eql 3 (.tmp 37) (.const (.int .i64 2)) t37 (.int .i64 2)) w (pk K) fun t38 w=>
 GDo t38 true (fun E=>E t13 w) w fun t40 w=>
 GDo t38 true (fun E=>DoX prog (mIA 23 t40 (.int .i64 0)) w (pk K) E) w fun t41 w=>
 GDo t38 true (fun E=>DoX prog (mFA 44 t41 0) w (pk K) E) w fun t42 w=>
 GDo t38 true (fun E=>DoX prog (mLoad 9 t42) w (pk K) E) w fun t43 w=>
 GDo t38 true (fun E=>DoX prog (mEq .eql 9 (.tmp 43) (.const (.string ⟨#[114,103]⟩)) t43 (.string ⟨#[114,103]⟩)) w (pk K) E) w fun t44 w=>
 DoX prog (mPick t38 t44 (.bool false)) w (pk K) fun t45 w=>
 GDo t45 true (fun E=>E t13 w) w fun t47 w=>
 GDo t45 true (fun E=>DoX prog (mIA 23 t47 (.int .i64 0)) w (pk K) E) w fun t48 w=>
 GDo t45 true (fun E=>DoX prog (mFA 44 t48 1) w (pk K) E) w fun t49 w=>
 GDo t45 true (fun E=>DoX prog (mLoad 40 t49) w (pk K) E) w fun t50 w=>
 GDo t45 true (fun E=>DoX prog (mB .len #[40] 3 #[false] #[t50]) w (pk K) E) w fun t51 w=>
 GDo t45 true (fun E=>DoX prog (mEq .eql 3 (.tmp 51) (.const (.int .i64 3)) t51 (.int .i64 3)) w (pk K) E) w fun t52 w=>
 DoX prog (mPick t45 t52 (.bool false)) w (pk K) fun t53 w=>
 GDo t53 true (fun E=>E t13 w) w fun t55 w=>
 GDo t53 true (fun E=>DoX prog (mIA 23 t55 (.int .i64 1)) w (pk K) E) w fun t56 w=>
 GDo t53 true (fun E=>DoX prog (mFA 44 t56 0) w (pk K) E) w fun t57 w=>
 GDo t53 true (fun E=>DoX prog (mLoad 9 t57) w (pk K) E) w fun t58 w=>
 GDo t53 true (fun E=>DoX prog (mEq .eql 9 (.tmp 58) (.const (.string ⟨#[84,106]⟩)) t58 (.string ⟨#[84,106]⟩)) w (pk K) E) w fun t59 w=>
 DoX prog (mPick t53 t59 (.bool false)) w (pk K) fun t60 w=>
 GDo t60 true (fun E=>E t13 w) w fun t62 w=>
 GDo t60 true (fun E=>DoX prog (mIA 23 t62 (.int .i64 1)) w (pk K) E) w fun t63 w=>
 GDo t60 true (fun E=>DoX prog (mFA 44 t63 1) w (pk K) E) w fun t64 w=>
 GDo t60 true (fun E=>DoX prog (mLoad 40 t64) w (pk K) E) w fun t65 w=>
 GDo t60 true (fun E=>DoX prog (mIA 40 t65 (.int .i64 0)) w (pk K) E) w fun t66 w=>
 GDo t60 true (fun E=>DoX prog (mFA 42 t66 3) w (pk K) E) w fun t67 w=>
 GDo t60 true (fun E=>DoX prog (mLoad 9 t67) w (pk K) E) w fun t68 w=>
 GDo t60 true (fun E=>DoX prog (mEq .eql 9 (.tmp 68) (.const (.string ⟨#[97]⟩)) t68 (.string ⟨#[97]⟩)) w (pk K) E) w fun t69 w=>
 DoX prog (mPick t60 t69 (.bool false)) w (pk K) fun t70 w=>
 GDo t70 true (fun E=>DoX prog (mLoad 26 t2) w (pk K) E) w fun t72 w=>
 GDo t70 true (fun E=>DoX prog (mBuild 26 #[]) w (pk K) E) w fun t73 w=>
 GDo t70 true (fun E=>DoX prog (mEq .eql 26 (.tmp 72) (.tmp 73) t72 t73) w (pk K) E) w fun t74 w=>
 DoX prog (mPick t70 t74 (.bool false)) w (pk K) fun t75 w=>
 GDo t75 true (fun E=>DoX prog (mLoad 26 t4) w (pk K) E) w fun t77 w=>
 GDo t75 true (fun E=>DoX prog (mBuild 26 #[(0,(.int .i64 3)),(1,(.int .i64 4))]) w (pk K) E) w fun t78 w=>
 GDo t75 true (fun E=>DoX prog (mEq .eql 26 (.tmp 77) (.tmp 78) t77 t78) w (pk K) E) w fun t79 w=>
 DoX prog (mPick t75 t79 (.bool false)) w (pk K) fun t80 w=>
 GDo t80 true (fun E=>E t21 w) w fun t82 w=>
 GDo t80 true (fun E=>DoX prog (mB .len #[23] 3 #[false] #[t82]) w (pk K) E) w fun t83 w=>
 GDo t80 true (fun E=>DoX prog (mEq .eql 3 (.tmp 83) (.const (.int .i64 2)) t83 (.int .i64 2)) w (pk K) E) w fun t84 w=>
 DoX prog (mPick t80 t84 (.bool false)) w (pk K) fun t85 w=>
 GDo t85 true (fun E=>E t21 w) w fun t87 w=>
 GDo t85 true (fun E=>DoX prog (mIA 23 t87 (.int .i64 0)) w (pk K) E) w fun t88 w=>
 GDo t85 true (fun E=>DoX prog (mFA 44 t88 2) w (pk K) E) w fun t89 w=>
 GDo t85 true (fun E=>DoX prog (mLoad 9 t89) w (pk K) E) w fun t90 w=>
 GDo t85 true (fun E=>DoX prog (mEq .eql 9 (.tmp 90) (.const (.string ⟨#[97,98]⟩)) t90 (.string ⟨#[97,98]⟩)) w (pk K) E) w fun t91 w=>
 DoX prog (mPick t85 t91 (.bool false)) w (pk K) fun t92 w=>
 GDo t92 true (fun E=>E t21 w) w fun t94 w=>
 GDo t92 true (fun E=>DoX prog (mIA 23 t94 (.int .i64 0)) w (pk K) E) w fun t95 w=>
 GDo t92 true (fun E=>DoX prog (mFA 44 t95 1) w (pk K) E) w fun t96 w=>
 GDo t92 true (fun E=>DoX prog (mLoad 40 t96) w (pk K) E) w fun t97 w=>
 GDo t92 true (fun E=>DoX prog (mB .len #[40] 3 #[false] #[t97]) w (pk K) E) w fun t98 w=>
 GDo t92 true (fun E=>DoX prog (mEq .eql 3 (.tmp 98) (.const (.int .i64 1)) t98 (.int .i64 1)) w (pk K) E) w fun t99 w=>
 DoX prog (mPick t92 t99 (.bool false)) w (pk K) fun t100 w=>
 GDo t100 true (fun E=>DoX prog (mLoad 26 t6) w (pk K) E) w fun t102 w=>
 GDo t100 true (fun E=>DoX prog (mBuild 26 #[]) w (pk K) E) w fun t103 w=>
 GDo t100 true (fun E=>DoX prog (mEq .eql 26 (.tmp 102) (.tmp 103) t102 t103) w (pk K) E) w fun t104 w=>
 DoX prog (mPick t100 t104 (.bool false)) w (pk K) fun t105 w=>
 GDo t105 true (fun E=>E t26 w) w fun t107 w=>
 GDo t105 true (fun E=>DoX prog (mEq .eql 9 (.tmp 107) (.const (.string ⟨#[66,73,47,87,32,49,32,73,68,10,97,98,10,69,73,10,113,10]⟩)) t107 (.string ⟨#[66,73,47,87,32,49,32,73,68,10,97,98,10,69,73,10,113,10]⟩)) w (pk K) E) w fun t108 w=>
 DoX prog (mPick t105 t108 (.bool false)) w (pk K) fun t109 w=>
 GDo t109 true (fun E=>E t27 w) w fun t111 w=>
 GDo t109 true (fun E=>DoX prog (mEq .eql 24 (.tmp 111) (.const (.int .i64 0)) t111 (.int .i64 0)) w (pk K) E) w fun t112 w=>
 DoX prog (mPick t109 t112 (.bool false)) w (pk K) fun t113 w=>
 GDo t113 true (fun E=>E t34 w) w fun t115 w=>
 GDo t113 true (fun E=>DoX prog (mB .len #[36] 3 #[false] #[t115]) w (pk K) E) w fun t116 w=>
 GDo t113 true (fun E=>DoX prog (mEq .eql 3 (.tmp 116) (.const (.int .i64 2)) t116 (.int .i64 2)) w (pk K) E) w fun t117 w=>
 DoX prog (mPick t113 t117 (.bool false)) w (pk K) fun t118 w=>
 GDo t118 true (fun E=>E t34 w) w fun t120 w=>
 GDo t118 true (fun E=>DoX prog (mIA 36 t120 (.int .i64 0)) w (pk K) E) w fun t121 w=>
 GDo t118 true (fun E=>DoX prog (mLoad 2 t121) w (pk K) E) w fun t122 w=>
 GDo t118 true (fun E=>DoX prog (mEq .eql 2 (.tmp 122) (.const (.int .i64 20000)) t122 (.int .i64 20000)) w (pk K) E) w fun t123 w=>
 DoX prog (mPick t118 t123 (.bool false)) w (pk K) fun t124 w=>
 GDo t124 true (fun E=>E t34 w) w fun t126 w=>
 GDo t124 true (fun E=>DoX prog (mIA 36 t126 (.int .i64 1)) w (pk K) E) w fun t127 w=>
 GDo t124 true (fun E=>DoX prog (mLoad 2 t127) w (pk K) E) w fun t128 w=>
 GDo t124 true (fun E=>DoX prog (mEq .eql 2 (.tmp 128) (.const (.int .i64 5)) t128 (.int .i64 5)) w (pk K) E) w fun t129 w=>
 DoX prog (mPick t124 t129 (.bool false)) w (pk K) fun t130 w=>
 GDo t130 true (fun E=>E t35 w) w fun t132 w=>
 GDo t130 true (fun E=>DoX prog (mEq .eql 24 (.tmp 132) (.const (.int .i64 0)) t132 (.int .i64 0)) w (pk K) E) w fun t133 w=>
 DoX prog (mPick t130 t133 (.bool false)) w (pk K) fun t134 w=>
 GDo t134 true (fun E=>CallX prog 14 #[(.string ⟨#[84,102]⟩)] w (pk K) E) w fun t136 w=>
 GDo t134 true (fun E=>DoX prog (mEq .eql 9 (.tmp 136) (.const (.string ⟨#[78,110]⟩)) t136 (.string ⟨#[78,110]⟩)) w (pk K) E) w fun t137 w=>
 DoX prog (mPick t134 t137 (.bool false)) w (pk K) fun t138 w=>
 GDo t138 true (fun E=>CallX prog 14 #[(.string ⟨#[120]⟩)] w (pk K) E) w fun t140 w=>
 GDo t138 true (fun E=>DoX prog (mEq .eql 9 (.tmp 140) (.const (.string ⟨#[63]⟩)) t140 (.string ⟨#[63]⟩)) w (pk K) E) w fun t141 w=>
 DoX prog (mPick t138 t141 (.bool false)) w (pk K) fun t142 w=>
 GDo t142 true (fun E=>E t13 w) w fun t144 w=>
 GDo t142 true (fun E=>DoX prog (mIA 23 t144 (.int .i64 0)) w (pk K) E) w fun t145 w=>
 GDo t142 true (fun E=>DoX prog (mLoad 44 t145) w (pk K) E) w fun t146 w=>
 GDo t142 true (fun E=>CallX prog 15 #[t146] w (pk K) E) w fun t147 w=>
 GDo t142 true (fun E=>DoX prog (mEq .eql 24 (.tmp 147) (.const (.int .i64 0)) t147 (.int .i64 0)) w (pk K) E) w fun t148 w=>
 DoX prog (mPick t142 t148 (.bool false)) w (pk K) fun t149 w=>
 GDo t149 true (fun E=>E t13 w) w fun t151 w=>
 GDo t149 true (fun E=>DoX prog (mIA 23 t151 (.int .i64 0)) w (pk K) E) w fun t152 w=>
 GDo t149 true (fun E=>DoX prog (mFA 44 t152 1) w (pk K) E) w fun t153 w=>
 GDo t149 true (fun E=>DoX prog (mLoad 40 t153) w (pk K) E) w fun t154 w=>
 GDo t149 true (fun E=>DoX prog (mBuild 44 #[(0,(.string ⟨#[113]⟩)),(1,t154)]) w (pk K) E) w fun t155 w=>
 GDo t149 true (fun E=>CallX prog 15 #[t155] w (pk K) E) w fun t156 w=>
 GDo t149 true (fun E=>DoX prog (mEq .eql 24 (.tmp 156) (.const (.int .i64 28)) t156 (.int .i64 28)) w (pk K) E) w fun t157 w=>
 DoX prog (mPick t149 t157 (.bool false)) w (pk K) fun t158 w=>
 K (.returned t158) w
theorem S_foliantlaw43_lives_eq (w:World)(K:Ending→World→Prop):wpX prog 159 [] [] none (bodyOf Tryz.f7) (topQ prog [.tmp 0] K) (startX []) [] w=S_foliantlaw43_lives w K:=by kernel_rfl
theorem S_foliantlaw43_lives_ok {w:World}{K:Ending→World→Prop}(h:S_foliantlaw43_lives w K):Calls prog 7 #[] w K:=
 calls_of_wpX Tryz.func7 rfl rfl rfl rfl (Eq.mpr (S_foliantlaw43_lives_eq w K) h)
def S_foliantlaw43_OpsBack (t0:Value)(w:World)(K:Ending→World→Prop):Prop:=
 DoX prog (mB .len #[23] 3 #[false] #[t0]) w (pk K) fun t8 w=>
 DoX prog (mBin .gtr 3 t8 (.int .i64 100)) w (pk K) fun t9 w=>
 GDo t9 false (fun E=>E t0 w) w fun t11 w=>
 GDo t9 false (fun E=>CallX prog 11 #[t11] w (pk K) E) w fun t12 w=>
 GDo t9 false (fun E=>DoX prog (mBin .gtr 3 t12 (.int .i64 600)) w (pk K) E) w fun t13 w=>
 DoX prog (mPick t9 (.bool true) t13) w (pk K) fun t14 w=>
 IfX t14 (CallX prog 7 #[] w (pk K) fun t15 w=>
 K (.returned t15) w) (CallX prog 12 #[t0] w (pk K) fun t18 w=>
 DoX prog (mExt t18 0) w (pk K) fun t19 w=>
 DoX prog (mExt t18 1) w (pk K) fun t20 w=>
 DoX prog (mEq .neq 24 (.tmp 21) (.const (.int .i64 0)) t20 (.int .i64 0)) w (pk K) fun t22 w=>
 IfX t22 (DoX prog (mEq .eql 9 (.tmp 23) (.const (.string ⟨#[]⟩)) t19 (.string ⟨#[]⟩)) w (pk K) fun t24 w=>
 GDo t24 true (fun E=>CallX prog 7 #[] w (pk K) E) w fun t26 w=>
 DoX prog (mPick t24 t26 (.bool false)) w (pk K) fun t27 w=>
 K (.returned t27) w) (CallX prog 8 #[t19] w (pk K) fun t30 w=>
 DoX prog (mExt t30 0) w (pk K) fun t31 w=>
 DoX prog (mExt t30 1) w (pk K) fun t32 w=>
 DoX prog (mAlloc 26) w (pk K) fun t6 w=>
 DoX prog (mStore 26 t6 t32) w (pk K) fun _ w=>
 DoX prog (mLoad 26 t6) w (pk K) fun t33 w=>
 DoX prog (mBuild 26 #[]) w (pk K) fun t34 w=>
 DoX prog (mEq .eql 26 (.tmp 33) (.tmp 34) t33 t34) w (pk K) fun t35 w=>
 GDo t35 true (fun E=>E t0 w) w fun t37 w=>
 GDo t35 true (fun E=>E t31 w) w fun t38 w=>
 GDo t35 true (fun E=>CallX prog 10 #[t37,t38] w (pk K) E) w fun t39 w=>
 DoX prog (mPick t35 t39 (.bool false)) w (pk K) fun t40 w=>
 GDo t40 true (fun E=>CallX prog 7 #[] w (pk K) E) w fun t42 w=>
 DoX prog (mPick t40 t42 (.bool false)) w (pk K) fun t43 w=>
 K (.returned t43) w))
theorem S_foliantlaw43_OpsBack_eq (t0:Value)(w:World)(K:Ending→World→Prop):wpX prog 44 [] [] none (bodyOf Tryz.f4) (topQ prog [.tmp 2] K) (startX [t0]) [] w=S_foliantlaw43_OpsBack t0 w K:=by kernel_rfl
theorem S_foliantlaw43_OpsBack_ok {t0:Value}{w:World}{K:Ending→World→Prop}(h:S_foliantlaw43_OpsBack t0 w K):Calls prog 4 #[t0] w K:=
 calls_of_wpX Tryz.func4 rfl rfl rfl rfl (Eq.mpr (S_foliantlaw43_OpsBack_eq t0 w K) h)
end
section
open Eng Go.RowKit
abbrev smA:List UInt8:=[49,32,48,32,48,32,114,103,32,40,97,41,84,106]
abbrev smB:List UInt8:=[49,32,50]
abbrev smC:List UInt8:=[66,73,32,47,87,32,49,32,73,68,32,97,98,32,69,73,32,113]
abbrev loA:List Cop:=[⟨[114,103],[ob1 2 1 0 [],ob1 2 0 0 [],ob1 2 0 0 []],[]⟩,⟨[84,106],[ob1 4 0 0 [97]],[]⟩]
abbrev loC:List Cop:=[⟨[66,73],[.mk 7 0 0 [] [[87]] [ob1 2 1 0 []]],[97,98]⟩,⟨[113],[],[]⟩]
theorem sm_readA:Cs.read smA=(loA,⟨0,0⟩):=by kernel_rfl
theorem sm_readB:Cs.read smB=([],⟨3,4⟩):=by kernel_rfl
theorem sm_readC:Cs.read smC=(loC,⟨0,0⟩):=by kernel_rfl
theorem sm_textC:Cs.text loC=([66,73,47,87,32,49,32,73,68,10,97,98,10,69,73,10,113,10],0):=by kernel_rfl
theorem sm_takesTf:Cs.takes [84,102]=[78,110]:=by kernel_rfl
theorem sm_takesx:Cs.takes [120]=[63]:=by kernel_rfl
theorem sm_check1:Cs.check ⟨[114,103],[ob1 2 1 0 [],ob1 2 0 0 [],ob1 2 0 0 []],[]⟩=0:=by kernel_rfl
theorem sm_check2:Cs.check ⟨[113],[ob1 2 1 0 [],ob1 2 0 0 [],ob1 2 0 0 []],[]⟩=28:=by kernel_rfl
theorem sm_nums:Cs.numsG [ob1 2 2 0 [],ob1 3 5 0 []] []=([20000,5],0):=by kernel_rfl
section
variable {w:World}{PK:PKT}{S:Nat→Prop}{w0:World}{L:List Ent}
theorem c_opread {s:List UInt8}{M:Mem}{K:Value→VWP}(i:Nat)(ho:OwnS S w0 w L)(hi:L[i]?=some (.mem M))(hs:s.length≤1000000000)
  (k:∀b vl N w',M.le N→OpsV N.A N.w vl (Cs.read s).1→OwnS S w0 w' (fltE b ((Cs.read s).2.at_,(Cs.read s).2.e)::L.set i (.mem N))→K vl (.pointer (some ⟨b,0,none⟩)) w') :
  CallX prog 8 #[.string ⟨s.toArray⟩] w PK fun t w=>DoX prog (mExt t 0) w PK fun t0 w=>DoX prog (mExt t 1) w PK fun t1 w=>
   DoX prog (mAlloc 26) w PK fun p w=>DoX prog (mStore 26 p t1) w PK fun _ w=>K t0 p w:=by
 refine c_mem ho i hi (opRead_ret s M w hs (ho.hasM i hi)) ?_;rintro _ N w1 hle ⟨vl,rfl,hov⟩ ho;simp only[ex];refine o_flt ho fun b w2 ho=>?_;refine flt_put (g:=((Cs.read s).2.at_,(Cs.read s).2.e)) 0 ho rfl fun w3 ho=>?_;exact k b vl N w3 hle hov ho
end
theorem lives43_ret (W:World)(ht:Tb W)(hsp:Sp W):Ret prog 7 #[] W (fun v w'=>v=.bool true∧Below W.heap.size W w'):=by
 refine ret_of fun K hK=>S_foliantlaw43_lives_ok ?_;unfold S_foliantlaw43_lives;have hM:(Mem.all W).has W:=Mem.all_has W;have tb:∀{w:World} {L:List Ent} {N:Mem} (j:Nat),OwnS (Mem.all W).A W w L→L[j]?=some (.mem N)→(Mem.all W).le N→Tb w:=fun j ho hj hle=>ht.mono (ho.toGives j hj hle hM).below;have sp:∀{w:World} {L:List Ent} {N:Mem} (j:Nat),OwnS (Mem.all W).A W w L→L[j]?=some (.mem N)→(Mem.all W).le N→Sp w:=fun j ho hj hle=>hsp.mono (ho.toGives j hj hle hM).below;refine c_opread (s:=smA) 0 (OwnS.memS hM) rfl (by decide) fun b2 vA N1 w1 g1 oA ho=>?_;rw[sm_readA] at oA ho;have ho:OwnS (Mem.all W).A W w1 [fltE b2 (0,0),.mem N1]:=ho;refine c_opread (s:=smB) 1 ho rfl (by decide) fun b4 vB N2 w2 g2 oB ho=>?_;rw[sm_readB] at oB ho;have ho:OwnS (Mem.all W).A W w2 [fltE b4 (3,4),fltE b2 (0,0),.mem N2]:=ho;refine c_opread (s:=smC) 2 ho rfl (by decide) fun b6 vC N3 w3 g3 oC ho=>?_;rw[sm_readC] at oC ho;have ho:OwnS (Mem.all W).A W w3 [fltE b6 (0,0),fltE b4 (3,4),fltE b2 (0,0),.mem N3]:=ho;have g12:=g1.trans (g2.trans g3);have oA:=oA.le (g2.trans g3);obtain⟨cC,sC,pC⟩:=oC;refine c_below ho (R:=fun v=>v=txtV (Cs.text loC)) (opText_ret loC vC cC N3 w3 (tb 3 ho rfl g12) (ho.hasM 3 rfl) sC pC (by decide)) ?_;rintro _ w4 rfl ho;rw[sm_textC];simp only[txtV,ex];have m2:∀{PK:PKT} {K:VWP},DoX prog (mBuild 42 #[(0,(.int .i64 2)),(1,(.int .i64 2))]) w4 PK K=K (obV (ob1 2 2 0 []) nilS nilS) w4:=do_eq (by kernel_rfl);have m3:∀{PK:PKT} {K:VWP},DoX prog (mBuild 42 #[(0,(.int .i64 3)),(1,(.int .i64 5))]) w4 PK K=K (obV (ob1 3 5 0 []) nilS nilS) w4:=do_eq (by kernel_rfl);rw[m2,m3];refine o_new (fun b=>.slice (some ⟨b,0,none⟩) 2 2) (obC (ob1 2 2 0 []) nilS nilS++obC (ob1 3 5 0 []) nilS nilS) 42 (fun _=>by kernel_rfl) ho fun b31 w5 ho=>?_;have mo:∀{PK:PKT} {K:VWP},DoX prog (mBuild 44 #[(1,.slice (some ⟨b31,0,none⟩) 2 2)]) w5 PK K=K (opV ⟨[],[ob1 2 2 0 [],ob1 3 5 0 []],[]⟩ (.slice (some ⟨b31,0,none⟩) 2 2)) w5:=do_eq (by kernel_rfl);rw[mo];have ho:=ho.toU 6 2 2 (by rfl) (by omega) (by omega);obtain⟨N4,g4,hrow,ho⟩:=OwnS.freezeU (L:=[fltE b6 (0,0),fltE b4 (3,4),fltE b2 (0,0),.mem N3]) ho 3 rfl;have ho:OwnS (Mem.all W).A W w5 [fltE b6 (0,0),fltE b4 (3,4),fltE b2 (0,0),.mem N4]:=ho;have hX:OpAt N4.A N4.w ⟨[],[ob1 2 2 0 [],ob1 3 5 0 []],[]⟩ (.slice (some ⟨b31,0,none⟩) 2 2) (obC (ob1 2 2 0 []) nilS nilS++obC (ob1 3 5 0 []) nilS nilS):=⟨hrow,ovs_cons (ov_plain _ _ _ _) (ovs_1 (ov_plain _ _ _ _))⟩;refine c_ret (opnums_ret _ _ _ N4 w5 (ho.hasM 3 rfl) hX (by decide)) ?_;rintro _ w6 ⟨vN,rfl,hn⟩;rw[sm_nums] at hn ⊢;have ho:=ho.join hn;have ho:OwnS (Mem.all W).A W w6 [numE vN [20000,5],fltE b6 (0,0),fltE b4 (3,4),fltE b2 (0,0),.mem N4]:=ho;simp only[ex];have hW6:=ho.hasM 4 rfl;have oA:=oA.le g4;obtain⟨cA,sA,pA⟩:=oA;have sC:=sC.le g4;have pC:=PVs.le g4 pC;obtain⟨va0,ac0,p0,q0,x0,r0⟩:=op_at sA pA (i:=0) (by decide);obtain⟨va1,ac1,p1,q1,x1,r1⟩:=op_at sA pA (i:=1) (by decide);obtain⟨va2,ac2,p2,q2,x2,r2⟩:=op_at sC pC (i:=0) (by decide);obtain⟨xk,xc,p3,q3,x3,r3⟩:=obj_at x1.args x1.all (i:=0) (by decide);have hsN:Sl w6 vN 1 2 [.int .i64 20000,.int .i64 5]:=ho.slU 0 rfl;obtain⟨bN,oN,cN,rfl,hcN⟩:=sl_open hsN (by decide);have lenA:∀{PK:PKT} {K:VWP},DoX prog (mB .len #[23] 3 #[false] #[vA]) w6 PK K=K (.int .i64 2) w6:=sl_len Tryz.underlying23 (sA.now hW6);have lenC:∀{PK:PKT} {K:VWP},DoX prog (mB .len #[23] 3 #[false] #[vC]) w6 PK K=K (.int .i64 2) w6:=sl_len Tryz.underlying23 (sC.now hW6);have iA0:∀{PK:PKT} {K:VWP},DoX prog (mIA 23 vA (.int .i64 0)) w6 PK K=K (.pointer (some ⟨p0,q0,none⟩)) w6:=do_eq (r0 w6 hW6).1;have iA1:∀{PK:PKT} {K:VWP},DoX prog (mIA 23 vA (.int .i64 1)) w6 PK K=K (.pointer (some ⟨p1,q1,none⟩)) w6:=do_eq (r1 w6 hW6).1;have iC0:∀{PK:PKT} {K:VWP},DoX prog (mIA 23 vC (.int .i64 0)) w6 PK K=K (.pointer (some ⟨p2,q2,none⟩)) w6:=do_eq (r2 w6 hW6).1;have iO:∀{PK:PKT} {K:VWP},DoX prog (mIA 40 va1 (.int .i64 0)) w6 PK K=K (.pointer (some ⟨p3,q3,none⟩)) w6:=do_eq (r3 w6 hW6).1;have nA0:∀{PK:PKT} {K:VWP},DoX prog (mLoad 9 (.pointer (some ⟨p0,q0,none⟩))) w6 PK K=K (.string ⟨([114,103]:List UInt8).toArray⟩) w6:=l_cell nStr5 (by have:=(r0 w6 hW6).2 0 _ rfl;rwa [Nat.add_zero] at this);have nA1:∀{PK:PKT} {K:VWP},DoX prog (mLoad 9 (.pointer (some ⟨p1,q1,none⟩))) w6 PK K=K (.string ⟨([84,106]:List UInt8).toArray⟩) w6:=l_cell nStr5 (by have:=(r1 w6 hW6).2 0 _ rfl;rwa [Nat.add_zero] at this);have aA0:∀{PK:PKT} {K:VWP},DoX prog (mLoad 40 (.pointer (some ⟨p0,q0+1,none⟩))) w6 PK K=K (va0) w6:=l_cell nSlOb ((r0 w6 hW6).2 1 _ rfl);have aA1:∀{PK:PKT} {K:VWP},DoX prog (mLoad 40 (.pointer (some ⟨p1,q1+1,none⟩))) w6 PK K=K (va1) w6:=l_cell nSlOb ((r1 w6 hW6).2 1 _ rfl);have aC0:∀{PK:PKT} {K:VWP},DoX prog (mLoad 40 (.pointer (some ⟨p2,q2+1,none⟩))) w6 PK K=K (va2) w6:=l_cell nSlOb ((r2 w6 hW6).2 1 _ rfl);have dC0:∀{PK:PKT} {K:VWP},DoX prog (mLoad 9 (.pointer (some ⟨p2,q2+2,none⟩))) w6 PK K=K (.string ⟨([97,98]:List UInt8).toArray⟩) w6:=l_cell nStr5 ((r2 w6 hW6).2 2 _ rfl);have sO:∀{PK:PKT} {K:VWP},DoX prog (mLoad 9 (.pointer (some ⟨p3,q3+3,none⟩))) w6 PK K=K (.string ⟨([97]:List UInt8).toArray⟩) w6:=l_cell nStr5 ((r3 w6 hW6).2 3 _ rfl);have len0:∀{PK:PKT} {K:VWP},DoX prog (mB .len #[40] 3 #[false] #[va0]) w6 PK K=K (.int .i64 3) w6:=sl_len Tryz.underlying40 (x0.args.now hW6);have len2:∀{PK:PKT} {K:VWP},DoX prog (mB .len #[40] 3 #[false] #[va2]) w6 PK K=K (.int .i64 1) w6:=sl_len Tryz.underlying40 (x2.args.now hW6);have lenN:∀{PK:PKT} {K:VWP},DoX prog (mB .len #[36] 3 #[false] #[.slice (some ⟨bN,oN,none⟩) 2 cN]) w6 PK K=K (.int .i64 2) w6:=sl_len_any Tryz.underlying36;have iN0:∀{PK:PKT} {K:VWP},DoX prog (mIA 36 (.slice (some ⟨bN,oN,none⟩) 2 cN) (.int .i64 0)) w6 PK K=K (.pointer (some ⟨bN,oN+0*1,none⟩)) w6:=do_eq (run_ia (i:=(0:Int)) Tryz.underlying36 (show (Tryz.prog.info? 2).map (·.size)=some 1 by kernel_rfl) (by omega) (by omega));have vN0:∀{PK:PKT} {K:VWP},DoX prog (mLoad 2 (.pointer (some ⟨bN,oN+0*1,none⟩))) w6 PK K=K (.int .i64 20000) w6:=l_cell nI65 (hcN 0 _ rfl);have iN1:∀{PK:PKT} {K:VWP},DoX prog (mIA 36 (.slice (some ⟨bN,oN,none⟩) 2 cN) (.int .i64 1)) w6 PK K=K (.pointer (some ⟨bN,oN+1*1,none⟩)) w6:=do_eq (run_ia (i:=(1:Int)) Tryz.underlying36 (show (Tryz.prog.info? 2).map (·.size)=some 1 by kernel_rfl) (by omega) (by omega));have vN1:∀{PK:PKT} {K:VWP},DoX prog (mLoad 2 (.pointer (some ⟨bN,oN+1*1,none⟩))) w6 PK K=K (.int .i64 5) w6:=l_cell nI65 (hcN 1 _ rfl);have f2:∀{PK:PKT} {K:VWP},DoX prog (mLoad 26 (.pointer (some ⟨b2,0,none⟩))) w6 PK K=K (fltV (0,0)) w6:=l_at (ho.agg 3 rfl aggFlt);have f4:∀{PK:PKT} {K:VWP},DoX prog (mLoad 26 (.pointer (some ⟨b4,0,none⟩))) w6 PK K=K (fltV (3,4)) w6:=l_at (ho.agg 2 rfl aggFlt);have f6:∀{PK:PKT} {K:VWP},DoX prog (mLoad 26 (.pointer (some ⟨b6,0,none⟩))) w6 PK K=K (fltV (0,0)) w6:=l_at (ho.agg 1 rfl aggFlt);simp only[rs,lenA,eq_self,decide_true];simp only[rs,iA0,fa_p0,nA0,eq_self,decide_true];simp only[rs,iA0,fa_p1,aA0,len0,eq_self,decide_true];simp only[rs,iA1,fa_p0,nA1,eq_self,decide_true];simp only[rs,iA1,fa_p1,aA1,iO,fa_o3,sO,eq_self,decide_true];simp only[rs,f2,m_flt0,e_flt,eq_self,decide_true];simp only[rs,f4,m_flt2,e_flt,eq_self,decide_true];simp only[rs,lenC,eq_self,decide_true];simp only[rs,iC0,fa_p2,dC0,eq_self,decide_true];simp only[rs,iC0,fa_p1,aC0,len2,eq_self,decide_true];simp only[rs,f6,m_flt0,e_flt,eq_self,decide_true];simp only[rs,lenN,eq_self,decide_true];simp only[rs,iN0,vN0,eq_self,decide_true];simp only[rs,iN1,vN1,eq_self,decide_true];refine c_below ho (R:=fun v=>v=.string ⟨(Cs.takes [84,102]).toArray⟩) (optakes_ret [84,102] w6 (sp 4 ho rfl (g12.trans g4))) ?_;rintro _ w7 rfl ho;rw[sm_takesTf];simp only[rs,eq_self,decide_true];refine c_below ho (R:=fun v=>v=.string ⟨(Cs.takes [120]).toArray⟩) (optakes_ret [120] w7 (sp 4 ho rfl (g12.trans g4))) ?_;rintro _ w8 rfl ho;rw[sm_takesx];simp only[rs,eq_self,decide_true];have hW8:=ho.hasM 4 rfl;have x0:OpAt N4.A N4.w ⟨[114,103],[ob1 2 1 0 [],ob1 2 0 0 [],ob1 2 0 0 []],[]⟩ va0 ac0:=x0;refine do_eq (r0 w8 hW8).1 |>.mpr (do_eq (run_op (r0 w8 hW8).2) |>.mpr ?_)
 try simp only[rs]
 refine c_below ho (R:=fun v=>v=.int .i64 (Cs.check ⟨[114,103],[ob1 2 1 0 [],ob1 2 0 0 [],ob1 2 0 0 []],[]⟩)) (opcheck_ret _ va0 ac0 N4 w8 (sp 4 ho rfl (g12.trans g4)) hW8 x0) ?_;rintro _ w9 rfl ho;rw[sm_check1];have hW9:=ho.hasM 4 rfl;simp only[rs,eq_self,decide_true];refine do_eq (r0 w9 hW9).1 |>.mpr ?_
 try simp only[rs]
 rw[fa_p1]
 try simp only[rs]
 rw[l_cell nSlOb ((r0 w9 hW9).2 1 _ rfl)]
 try simp only[rs]
 rw[show (Value.string ⟨#[113]⟩)=.string ⟨([113]:List UInt8).toArray⟩ from rfl,run_opa [113] va0 x0.one];have x3:OpAt N4.A N4.w ⟨[113],[ob1 2 1 0 [],ob1 2 0 0 [],ob1 2 0 0 []],[]⟩ va0 ac0:=⟨x0.args,x0.all⟩
 try simp only[rs]
 refine c_below ho (R:=fun v=>v=.int .i64 (Cs.check ⟨[113],[ob1 2 1 0 [],ob1 2 0 0 [],ob1 2 0 0 []],[]⟩)) (opcheck_ret _ va0 ac0 N4 w9 (sp 4 ho rfl (g12.trans g4)) hW9 x3) ?_;rintro _ w10 rfl ho;rw[sm_check2];simp only[rs,eq_self,decide_true];exact hK _ _ ⟨rfl,(ho.toGives 4 rfl (g12.trans g4) hM).below⟩
end
section
open Eng Go.RowKit
theorem subA_block {a:Option Addr}{l cap sz:Nat}{p:Addr}(h:subA a l cap sz=some p):∃q:Addr,a=some q∧q.block=p.block:=by
 unfold subA at h;split at h
 ·exact⟨p,h,rfl⟩
 ·obtain⟨q,hq,rfl⟩:=Option.map_eq_some_iff.1 h;exact⟨q,hq,by unfold Addr.add;split<;>rfl⟩
theorem SlA.from {A:Nat→Prop}{w:World}{a:Option Addr}{n cap sz i:Nat}{cs:List Value}(h:SlA A w (.slice a n cap) sz n cs)(hi:i≤n):SlA A w (.slice (subA a i cap sz) (n - i) (cap - i)) sz (n - i) (cs.drop (i*sz)):=by
 have hc:=h.2.2 _ _ _ rfl;refine⟨Sl.from h.1 hi hc,fun p l c e hn=>?_,fun a' l c e=>?_⟩
 ·injection e with e _ _
  obtain⟨q,hq,hb⟩:=subA_block e;have:=h.2.1 q n cap (by rw[hq]) (by omega)
  rwa [←hb]
 ·injection e with _ e2 e3
  omega
theorem Cs.eqs_refl (l:List Cop):Cs.eqs l l=true:=(Cs.eqs_iff l l).2 rfl
section
variable {W:World}{K:Ending→World→Prop}
theorem lives_tail (ht:Tb W)(hsp:Sp W)(hK:∀(v:Value) (w':World),v=.bool true∧Below W.heap.size W w'→K (.returned v) w'){w:World}{N:Mem}{L:List Ent}(ho:OwnS (Mem.all W).A W w (L++([.mem N]++[])))(hle:(Mem.all W).le N):CallX prog 7 #[] w (pk K) fun t w=>K (.returned t) w:=by
 have ho:=ho.front;refine c_below ho (R:=fun v=>v=.bool true) (lives43_ret w (ht.mono (ho.toGives 0 rfl hle (Mem.all_has W)).below) (hsp.mono (ho.toGives 0 rfl hle (Mem.all_has W)).below)) ?_;rintro _ w2 rfl ho;exact hK _ _ ⟨rfl,(ho.toGives 0 rfl hle (Mem.all_has W)).below⟩
end
theorem opsBack_ret (l:List Cop)(vl:Value)(W:World)(ht:Tb W)(hsp:Sp W)(hv:OpsV (InW W) W vl l)(hw:Cs.wts l≤20000000):Ret prog 4 #[vl] W (fun v w'=>v=.bool true∧Below W.heap.size W w'):=by
 refine ret_of fun K hK=>S_foliantlaw43_OpsBack_ok ?_;unfold S_foliantlaw43_OpsBack;have hM:(Mem.all W).has W:=Mem.all_has W;have hv:OpsV (Mem.all W).A (Mem.all W).w vl l:=hv;obtain⟨cs,hs,hall⟩:=hv;have ho:OwnS (Mem.all W).A W W [.mem (Mem.all W)]:=OwnS.memS hM;have tb:∀{w:World} {L:List Ent} {N:Mem} (j:Nat),OwnS (Mem.all W).A W w L→L[j]?=some (.mem N)→(Mem.all W).le N→Tb w:=fun j ho hj hle=>ht.mono (ho.toGives j hj hle hM).below;rw[sl_len Tryz.underlying23 (hs.now hM)];simp only[rs];by_cases h1:(100:Int) < (l.length:Int)
 ·simp only[decide_eq_true h1,rs,g_un];exact lives_tail ht hsp hK (L:=[]) ho (Mem.all W).le_refl
 simp only[decide_eq_false h1,rs];refine c_below ho (R:=fun v=>v=.int .i64 (Cs.size l:Nat)) (rsize43_ret l vl cs (Mem.all W) W hM hs hall (by omega)) ?_;rintro _ w2 rfl ho;simp only[rs];by_cases h2:(600:Int) < (Cs.size l:Nat)
 ·simp only[decide_eq_true h2,rs];exact lives_tail ht hsp hK (L:=[]) ho (Mem.all W).le_refl
 simp only[decide_eq_false h2,rs];refine c_below ho (R:=fun v=>v=txtV (Cs.text l)) (opText_ret l vl cs (Mem.all W) w2 (tb 0 ho rfl (Mem.all W).le_refl) (ho.hasM 0 rfl) hs hall (by omega)) ?_;rintro _ w3 rfl ho;simp only[txtV,ex];simp only[rs];by_cases h3:(Cs.text l).2=0
 ·simp only[ne_eq,h3,not_true,decide_false,i_f];have htl:=Cs.text_len l;refine c_opread (s:=(Cs.text l).1) 0 ho rfl (by omega) fun b6 vB N w4 g2 oB ho=>?_;rw[Cs.read_back h3] at oB ho;have ho:OwnS (Mem.all W).A W w4 [fltE b6 (0,0),.mem N]:=ho;rw[l_at (ho.agg 0 rfl aggFlt),m_flt0];refine (e_flt (x:=(0,0)) (y:=(0,0))).mpr ?_;simp only[rs,eq_self,decide_true];obtain⟨cB,sB,pB⟩:=oB;refine c_below ho (R:=fun v=>v=.bool (Cs.eqs l l)) (rsame43_ret l l vl vB cs cB N w4 (ho.hasM 1 rfl) (hs.le g2) (PVs.le g2 hall) sB pB (by omega)) ?_;rintro _ w5 rfl ho;rw[Cs.eqs_refl];simp only[rs];exact lives_tail ht hsp hK (L:=[_]) ho g2
 ·simp only[ne_eq,h3,not_false_eq_true,decide_true,i_t];rw[Cs.text_err h3];simp only[rs,eq_self,decide_true];exact lives_tail ht hsp hK (L:=[]) ho (Mem.all W).le_refl
end
section
open Eng Go.RowKit Go.ChangeShapes Go.WideShapes Go.ChangeAt
set_option maxRecDepth 100000
theorem list3o {α:Type}:∀{l:List α},l.length=3→∃a b c,l=[a,b,c]
|[a,b,c],_=>⟨a,b,c,rfl⟩
def Cop.bk (o:Cop):Nat:=1+o.name.length+o.data.length+Ob.wts o.args
theorem bk_sum:∀l:List Cop,Cs.wts l≤10*(l.map Cop.bk).sum
|[]=>by simp[Cs.wts]
|o::l=>by
  have:=bk_sum l;rw[Cs.wts,List.map_cons,List.sum_cons];simp only[Cop.wt,Cop.bk];omega
theorem bk_len:∀l:List Cop,l.length≤(l.map Cop.bk).sum
|[]=>by simp
|o::l=>by
  have:=bk_len l;rw[List.map_cons,List.sum_cons,List.length_cons];simp only[Cop.bk];omega
section
variable {H:Type}{enc:TypeId×Value→H}{W:World}{sp:Nat→Bool}{held:Bool}
theorem open_op (fuel:Nat)(cs:List Value)(x:DataW H×List MemPlace)(h:DataW.trod enc prog W 0 sp held fuel 44 cs=some x):∃o:Cop,opR (InW W) W cs o∧cs.length=3∧o.bk≤Rows.uptoBulk x.1:=by
 obtain⟨xs,n,rfl,rfl,hl,hxl,hf⟩:=DataW.trod_struct Tryz.underlying44 h;have c3:Tryz.prog.cellsOf 44=3:=by kernel_rfl
 rw[c3] at hl;have hxl:xs.length=3:=hxl;obtain⟨x0,x1,x2,rfl⟩:=list3o hxl;obtain⟨v0,v1,v2,rfl⟩:=list3o hl;have e0:=hf 0 _ rfl;have e1:=hf 1 _ rfl;have e2:=hf 2 _ rfl;have k0:Tryz.prog.cellsOf 9=1:=by kernel_rfl
 have k1:Tryz.prog.cellsOf 40=1:=by kernel_rfl
 simp only[k0,k1,List.drop_zero,List.drop_succ_cons,List.take_succ_cons,List.take_zero,List.getElem?_cons_zero,List.getElem?_cons_succ] at e0 e1 e2;obtain⟨s,hs,rfl,_⟩:=DataW.trod_string Tryz.underlying9 e0;obtain⟨t,ht,rfl,_⟩:=DataW.trod_string Tryz.underlying9 e2;obtain⟨v',ds,os,h1,h2,h3,h4,h5⟩:=open_slice_of (R:=fun cs o=>OV (InW W) W (.agg cs.toArray) o∧cs.length=6) (wt:=Ob.wt) (n:=6) Tryz.underlying40 (by kernel_rfl) (by decide)
  (fun fuel cs x h=>by obtain⟨o,h1,h2,h3⟩:=open_obj fuel cs x h;exact⟨o,⟨h1,h3⟩,h3,h2⟩) e1
 injection hs with hs _
 injection ht with ht _
 injection h1 with h1 _
 subst hs;subst ht;subst h1;refine⟨⟨s.data.toList,os,t.data.toList⟩,⟨v1,ds,rfl,h2,ovs_of h3⟩,rfl,?_⟩;simp only[Rows.uptoBulk,List.map_cons,List.map_nil,Rows.uptoBulkAll,Cop.bk,wts_sum] at h5 ⊢;simp only[Array.length_toList] at *;omega
theorem row_ops {b0:Nat}{v:Value}{d:DataW H}{ps:List MemPlace}(hval:Value.okWide prog W .any b0 23 v)(hd:DataW.Trod enc prog W 0 sp held 23 v d ps) :
  ∃l:List Cop,OpsV (InW W) W v l∧Cs.wts l≤10*Rows.uptoBulk d∧l.length≤Rows.uptoBulk d:=by
 obtain⟨a,len,cap,rfl⟩:=okWide_slice Tryz.underlying23 hval;obtain⟨fuel,hf⟩:=hd;obtain⟨v',ds,xs,h1,h2,h3,h4,h5⟩:=open_slice_of (R:=opR (InW W) W) (wt:=Cop.bk) (n:=3) Tryz.underlying23 (by kernel_rfl) (by decide) open_op hf;have e:v'=.slice a len cap:=by
  have h1:[Value.slice a len cap]=[v']:=h1
  injection h1 with h1 _
  exact h1.symm
 subst e;have h5:_+1≤Rows.uptoBulk d:=h5;have:=bk_sum xs;have:=bk_len xs;exact⟨xs,⟨ds,h2,h3⟩,by omega,by omega⟩
end
end
end Go.Proofs.YtoofficgclghoaaGreatDoor
