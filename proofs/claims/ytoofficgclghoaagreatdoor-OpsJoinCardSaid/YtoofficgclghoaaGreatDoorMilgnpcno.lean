/- Texts that go together: OpL OpM SLaw43 OpN OpP OpZ. -/
import Derived.Test.YtoofficgclghoaaGreatDoorRows
import Derived.Test.YtoofficgclghoaaGreatDoorMdemjkfdl
import Derived.Test.YtoofficgclghoaaGreatDoorMapflelmb
import Derived.Test.YtoofficgclghoaaGreatDoorMimbnmllp
import Derived.Test.YtoofficgclghoaaGreatDoorMbkclijmb
import Derived.Test.YtoofficgclghoaaGreatDoorMhehdecmc
set_option linter.defProp false
set_option linter.unusedSimpArgs false
set_option linter.unusedVariables false
set_option maxRecDepth 20000
open Go.Proofs.Tryz (prog)
namespace Go.Proofs.YtoofficgclghoaaGreatDoor
section
open Eng Go.RowKit
namespace Cs
theorem pairs_succ:∀(ks:List (List UInt8)) (os:List Ob) (i:Nat) (h1:i < ks.length) (h2:i < os.length),pairs (ks.take (i+1)) (os.take (i+1))=pairs (ks.take i) (os.take i)++[(Pl.pName ks[i]).1,(Wr.text os[i]).1]
|k::ks,o::os,0,_,_=>by simp[pairs]
|k::ks,o::os,i+1,h1,h2=>by
  rw[List.take_succ_cons,List.take_succ_cons,pairs,pairs_succ ks os i (by simpa using h1) (by simpa using h2),List.take_succ_cons,List.take_succ_cons,pairs];simp
|[],_,_,h1,_=>by simp at h1
|_::_,[],_,_,h2=>by simp at h2
theorem pairs_len:∀(ks:List (List UInt8)) (os:List Ob),(pairs ks os).length≤2*ks.length
|[],[]=>by simp[pairs]
|[],_::_=>by simp[pairs]
|_::_,[]=>by simp[pairs]
|k::ks,o::os=>by
  have:=pairs_len ks os;rw[pairs];simp;omega
end Cs
theorem o_strb2o (s t:List UInt8){w:World}{PK:PKT}{K:VWP}{S:Nat→Prop}{w0:World}{L:List Ent}(ho:OwnS S w0 w L)(k:∀b w',OwnS S w0 w' (.cells b [.string ⟨s.toArray⟩,.string ⟨t.toArray⟩] 9::L)→K (.slice (some ⟨b,0,none⟩) 2 2) w') :
  DoX prog (mBuildS 39 2 #[(0,.string ⟨s.toArray⟩),(1,.string ⟨t.toArray⟩)]) w PK K:=
 o_new (fun b=>.slice (some ⟨b,0,none⟩) 2 2) [.string ⟨s.toArray⟩,.string ⟨t.toArray⟩] 9 (fun _=>by kernel_rfl) ho k
theorem opparts_ret (o:Cop)(va:Value)(acs:List Value)(M:Mem)(w:World)(ht:Tb w)(hM:M.has w)(hx:OpAt M.A M.w o va acs)(hw:o.wt≤100000000)(hmay:Cs.may o=0) :
  Ret prog 29 #[opV o va] w (fun v w'=>Own w w' [keyE v (Cs.parts o)]):=by
 refine ret_of fun K hK=>S_ops_parts_ok ?_;unfold S_ops_parts;have hwt:o.name.length+o.data.length+Ob.wts o.args≤100000000:=by unfold Cop.wt at hw;omega
 have hal:=Ob.len_wts o.args;have hMW:∀{W:World} {L:List Ent},Own w W L→M.has W:=fun ho=>Mem.has_below hM ho.done;have hcat:∀{ps qs:List (List UInt8)},strsV (ps++qs)=strsV ps++strsV qs:=fun {ps qs}=>strsV_app ps qs;obtain⟨hform,hchk,hkd⟩:=Cs.may_iff.1 hmay;refine o_opb o hx.one ((Own.start w).nilU 9 1) fun b1 w1 ho=>?_;have ho:Own w w1 [opE b1 o va,keyE nilS []]:=ho;rw[fa_p0,op_n ho 0 rfl];simp only[rs];by_cases hb:o.name=[66,73]
 ·unfold Cs.form at hform;rw[if_pos (show o.name=Cs.biW from hb)] at hform;obtain⟨d,hd⟩:∃d,o.args=[d]:=by
   match ha:o.args,hform with
  |[],hf=>simp at hf
  |[d],_=>exact⟨d,rfl⟩
  |_::_::_,hf=>simp at hf
  have hp:Cs.parts o=[Cs.biW]++Cs.pairs d.keys d.kids++[Cs.idW]:=by
   unfold Cs.parts;rw[if_pos (show o.name=Cs.biW from hb),hd];rfl
  have h7:d.k=7:=by
   rw[hd] at hform;simp only[Bool.and_eq_true,decide_eq_true_eq] at hform;exact hform.1
  have hlen:d.keys.length=d.kids.length:=by
   have hc:=hchk d (by rw[hd];exact List.mem_cons_self);obtain⟨⟨-,a2,-,-,-,a6,a7⟩,hck⟩:=Vl.check_iff.1 hc;have hr:Vl.rising d=true:=by simpa[Vl.form,h7] using a7
   exact (Vl.rising_iff.1 hr).1
  have hdw:d.wt≤100000000:=by rw[hd,Ob.wts,Ob.wts] at hwt;omega
  have hkl:=key_len (o:=d);simp only[decide_eq_true hb,i_t];refine o_strb1 Cs.biW ho fun nb w2 ho=>?_;refine o_apS 2 ho rfl (ho.sl 0 rfl 1 1 1 rfl) (by simp[Value.oneCell']) (by simp) fun v1 w3 ho=>?_;have ho:=ho.tail;have ho:Own w w3 [opE b1 o va,keyE v1 [Cs.biW]]:=ho;obtain⟨xk,xc,bi,oi,hdv,hr⟩:=obj_at hx.args hx.all (i:=0) (by rw[hd];simp);have ho0:o.args[0]'(by rw[hd];simp)=d:=by simp[hd]
  rw[ho0] at hr hdv;obtain⟨dcs,hda⟩:=hdv.slices;have ia:∀{W:World} {PK:PKT} {K:VWP},M.has W→DoX prog (mIA 40 va (.int .i64 0)) W PK K=K (.pointer (some ⟨bi,oi,none⟩)) W:=fun h=>do_eq (hr _ h).1;rw[fa_p1,op_a ho 0 rfl,ia (hMW ho),fa_o4,l_cell nSlS5 ((hr w3 (hMW ho)).2 4 _ rfl),sl_len Tryz.underlying39 (hda.keys.now (hMW ho))];refine loop (fun vs w'=>∃(i:Nat) (v:Value),vs=[v,.int .i64 i]∧i≤d.keys.length∧Own w w' [opE b1 o va,keyE v ([Cs.biW]++Cs.pairs (d.keys.take i) (d.kids.take i))]) (fun vs _=>d.keys.length - n1 vs) ⟨0,v1,rfl,by omega,by simpa[Cs.pairs] using ho⟩ ?_;clear ho;rintro vs w4 ⟨i,v,rfl,hi,ho⟩ _;simp only[S_ops_parts_0,gd,rs];have hpl:=Cs.pairs_len (d.keys.take i) (d.kids.take i);rw[List.length_take] at hpl;by_cases hlt:(i:Int) < (d.keys.length:Int)
  ·have hi':i < d.keys.length:=by omega
   have hi2:i < d.kids.length:=by omega
   simp only[decide_eq_true hlt,i_t];refine sl_ia1 (.string ⟨(d.keys[i]).toArray⟩) Tryz.underlying39 (by kernel_rfl) (hda.keys.now (hMW ho)) (by omega) (by rw[Int.toNat_natCast];exact strsV_get hi') fun q hq=>?_;rw[l_cell nStr5 hq];refine c_told (pname_ret d.keys[i] w4) rfl ho fun w5 ho=>?_;simp only[ex];rw[fa_p1,op_a ho 0 rfl,ia (hMW ho),fa_o5,l_cell nSlOb ((hr w5 (hMW ho)).2 5 _ rfl)];refine ob_ia (hda.kids.now (hMW ho)) (OVs.kept (hMW ho) _ _ hda.all) hi2 fun u hu=>?_;have hu1:OV (InW w5) w5 u d.kids[i]:=OV.mono (fun b hb=>Mem.bd (hMW ho) hb) _ _ hu;have hkw:=kid_wt hi2;refine c_told (wtext7_ret d.kids[i] u w5 (ht.own ho) hu1 (by omega)) rfl ho fun w6 ho=>?_;simp only[txtV,ex];refine o_strb2o _ _ ho fun nb2 w7 ho=>?_;refine o_apS 2 ho rfl (ho.sl 0 rfl 1 2 2 rfl) (by simp[Value.oneCell']) (by simp;omega) fun v2 w8 ho=>?_;have ho:=ho.tail
   try simp only[rs]
   rw[wrap64_id (by omega) (by omega)];refine nextX ⟨i+1,v2,rfl,by omega,?_⟩ (by simp[n1,RowKit.intOf];omega);have e:[Cs.biW]++Cs.pairs (d.keys.take (i+1)) (d.kids.take (i+1))=([Cs.biW]++Cs.pairs (d.keys.take i) (d.kids.take i))++[(Pl.pName d.keys[i]).1,(Wr.text d.kids[i]).1]:=by rw[Cs.pairs_succ _ _ i hi' hi2,List.append_assoc]
   rw[e,keyE,List.length_append,hcat];exact ho
  ·have hil:i=d.keys.length:=by omega
   subst hil;simp only[decide_eq_false hlt,i_f];refine o_strb1 Cs.idW ho fun nb w5 ho=>?_;refine o_apS 2 ho rfl (ho.sl 0 rfl 1 1 1 rfl) (by simp[Value.oneCell']) (by simp only[List.length_append,List.length_cons,List.length_nil];omega) fun v2 w6 ho=>?_;have ho:=ho.tail.tail;refine hK _ _ ?_;rw[hp,keyE,List.length_append,hcat];rw[hlen] at ho;rw[List.take_length,←hlen,List.take_length] at ho;exact ho
 ·have hp:Cs.parts o=o.args.map (fun x=>(Wr.text x).1)++[o.name]:=by
   unfold Cs.parts;rw[if_neg (show ¬o.name=Cs.biW from hb)]
  simp only[decide_eq_false hb,i_f];rw[fa_p1,op_a ho 0 rfl,sl_len Tryz.underlying40 (hx.args.now (hMW ho))];refine loop (fun vs w'=>∃(i:Nat) (v:Value),vs=[v,.int .i64 i]∧i≤o.args.length∧Own w w' [opE b1 o va,keyE v ((o.args.take i).map fun x=>(Wr.text x).1)]) (fun vs _=>o.args.length - n1 vs) ⟨0,nilS,rfl,by omega,ho⟩ ?_;clear ho;rintro vs w4 ⟨i,v,rfl,hi,ho⟩ _;simp only[S_ops_parts_1,gd,rs];by_cases hlt:(i:Int) < (o.args.length:Int)
  ·have hi':i < o.args.length:=by omega
   simp only[decide_eq_true hlt,i_t];refine ob_ia (hx.args.now (hMW ho)) (OVs.kept (hMW ho) _ _ hx.all) hi' fun u hu=>?_;have hu0:=hu;obtain⟨xk,xc,xcs,rfl,hxa⟩:=hu.open;have ho3:=ho;refine o_oba ho fun b11 w5 ho=>?_;refine ob_put (o':=o.args[i]) 0 hxa.keys.one hxa.kids.one ho rfl fun w6 ho=>?_;have ho:Own w w6 [obE b11 o.args[i] xk xc,opE b1 o va,keyE v ((o.args.take i).map fun x=>(Wr.text x).1)]:=ho;rw[ob_v ho 0 rfl];have hu1:OV (InW w6) w6 (obV o.args[i] xk xc) o.args[i]:=OV.mono (fun b hb=>Mem.bd (hMW ho) hb) _ _ (OV.kept (kept_of (hMW ho3) (hMW ho)) _ _ hu0);have hkw:=Ob.get_wts o.args i hi';refine c_told (wtext7_ret o.args[i] _ w6 (ht.own ho) hu1 (by omega)) rfl ho fun w7 ho=>?_;simp only[txtV,ex];refine o_strb1 _ ho fun nb2 w8 ho=>?_;refine o_apS 3 ho rfl (ho.sl 0 rfl 1 1 1 rfl) (by simp[Value.oneCell']) (by simp;omega) fun v2 w9 ho=>?_;have ho:=ho.tail.tail
   try simp only[rs]
   rw[wrap64_id (by omega) (by omega)];refine nextX ⟨i+1,v2,rfl,by omega,?_⟩ (by simp[n1,RowKit.intOf];omega);have e:(o.args.take (i+1)).map (fun x=>(Wr.text x).1)=(o.args.take i).map (fun x=>(Wr.text x).1)++[(Wr.text o.args[i]).1]:=by rw[List.take_succ_eq_append_getElem hi',List.map_append];rfl
   rw[e,keyE,List.length_append,hcat];exact ho
  ·have hil:i=o.args.length:=by omega
   subst hil;simp only[decide_eq_false hlt,i_f];rw[fa_p0,op_n ho 0 rfl];refine o_strb1 o.name ho fun nb w5 ho=>?_;refine o_apS 2 ho rfl (ho.sl 0 rfl 1 1 1 rfl) (by simp[Value.oneCell']) (by simp;omega) fun v2 w6 ho=>?_;have ho:=ho.tail.tail;refine hK _ _ ?_;rw[hp,keyE,List.length_append,hcat];rw[List.take_length] at ho;exact ho
theorem opText_ret (l:List Cop)(vl:Value)(cs:List Value)(M:Mem)(w:World)(ht:Tb w)(hM:M.has w)(hs:SlA M.A M.w vl 3 l.length cs)(hall:PVs M.A M.w cs l)(hw:Cs.wts l≤100000000) :
  Ret prog 12 #[vl] w (fun v w'=>v=txtV (Cs.text l)∧Below w.heap.size w w'):=by
 refine ret_of fun K hK=>S_ops_Text_ok ?_;unfold S_ops_Text;have hMW:∀{W:World} {L:List Ent},Own w W L→M.has W:=fun ho=>Mem.has_below hM ho.done;have hlen:=Cs.wts_len l;have fin:∀{W:World} {L:List Ent} {q:List UInt8×Int},Own w W L→q=Cs.text l→K (.returned (txtV q)) W:=fun ho e=>hK _ _ ⟨by rw[e],ho.done⟩;have fin0:∀{W:World} {L:List Ent} {e:Int},Own w W L→([],e)=Cs.text l→K (.returned (.tuple #[.string ⟨#[]⟩,.int .i64 e])) W:=fun ho e=>fin ho e;unfold Cs.text at fin fin0;rw[sl_len Tryz.underlying23 (hs.now hM)];simp only[rs];by_cases h8:(8191:Int) < (l.length:Int)
 ·simp only[decide_eq_true h8,i_t];exact fin0 (Own.start w) (by rw[if_pos (by omega)])
 simp only[decide_eq_false h8,i_f];rw[if_neg (by omega)] at fin fin0;rw[sl_len Tryz.underlying23 (hs.now hM)];have fE:∀(i:Nat) (hi:i < l.length),Cs.refuse (l.drop i)=if Cs.may l[i]≠0 then Cs.may l[i] else Cs.refuse (l.drop (i+1)):=fun i hi=>by rw[List.drop_eq_getElem_cons hi,Cs.refuse]
 refine loop (fun vs w'=>∃(i:Nat),vs=[.int .i64 i]∧i≤l.length∧Cs.refuse l=Cs.refuse (l.drop i)∧Own w w' []) (fun vs _=>l.length - n0 vs) ⟨0,rfl,by omega,by rw[List.drop_zero],Own.start w⟩ ?_;rintro vs w2 ⟨i,rfl,hi,hre,ho⟩ _;simp only[S_ops_Text_0,gd,rs];by_cases hlt:(i:Int) < (l.length:Int)
 ·have hi':i < l.length:=by omega
  simp only[decide_eq_true hlt,i_t];obtain⟨va,acs,bo,oo,hx,hr⟩:=op_at hs hall hi';have hr2:=hr w2 (hMW ho);refine do_eq hr2.1 |>.mpr (do_eq (run_op hr2.2) |>.mpr ?_);refine o_opa ho fun b5 w3 ho=>?_;refine op_put (o':=l[i]) (va':=va) 0 hx.one ho rfl fun w4 ho=>?_;have ho:Own w w4 [opE b5 l[i] va]:=ho;rw[op_v ho 0 rfl];have hgw:=Cs.wts_get l i hi';refine c_told (opmay_ret l[i] va acs M w4 (hMW ho) hx (by omega)) rfl ho fun w5 ho=>?_;simp only[rs];rw[fE i hi'] at hre;by_cases hc:Cs.may l[i]=0
  ·rw[if_neg (by simp[hc])] at hre;simp only[hc,ne_eq,not_true,decide_false,i_f];rw[wrap64_id (by omega) (by omega)];exact nextX ⟨i+1,rfl,by omega,hre,ho.tail⟩ (by simp[n0,RowKit.intOf];omega)
  ·rw[if_pos hc] at hre;simp only[ne_eq,hc,not_false_eq_true,decide_true,i_t];exact fin0 ho (by rw[hre,if_pos hc])
 ·have hil:i=l.length:=by omega
  subst hil;rw[List.drop_length,Cs.refuse] at hre;rw[hre,if_neg (by simp)] at fin;have hmay:=(Cs.refuse_ok l).1 hre;simp only[decide_eq_false hlt,i_f];refine o_new (fun b=>.pointer (some ⟨b,0,none⟩)) [.pointer none,.slice none 0 0] 68 (fun _=>by kernel_rfl) ho fun b w3 ho=>?_;have hB0:∃v0,Own w w3 [Bld b v0 []]:=by
   have h1:=(ho.nilRow 5 1).swap;exact⟨_,OwnS.closeB (l:=[]) (.inl rfl) roomy_nil h1⟩
  obtain⟨v0,ho0⟩:=hB0;rw[sl_len Tryz.underlying23 (hs.now (hMW ho0))];have hol:=Cs.ones_len l;refine loop (fun vs w'=>∃(i:Nat) (bv:Value),vs=[.int .i64 i]∧i≤l.length∧Own w w' [Bld b bv ((l.take i).flatMap Cs.one)]) (fun vs _=>l.length - n0 vs) ⟨0,v0,rfl,by omega,ho0⟩ ?_;clear ho ho0;rintro vs w4 ⟨i,bv,rfl,hi,ho⟩ _;simp only[S_ops_Text_1,gd,rs];by_cases hlt:(i:Int) < (l.length:Int)
  ·have hi':i < l.length:=by omega
   simp only[decide_eq_true hlt,i_t];refine join fun J hJ=>?_;obtain⟨va,acs,bo,oo,hx,hr⟩:=op_at hs hall hi';have hr2:=hr w4 (hMW ho);refine do_eq hr2.1 |>.mpr (do_eq (run_op hr2.2) |>.mpr ?_);refine o_opa ho fun b9 w5 ho=>?_;refine op_put (o':=l[i]) (va':=va) 0 hx.one ho rfl fun w6 ho=>?_;have ho:Own w w6 [opE b9 l[i] va,Bld b bv ((l.take i).flatMap Cs.one)]:=ho;rw[op_v ho 0 rfl];have hgw:=Cs.wts_get l i hi';have hml:=hmay l[i] (List.getElem_mem hi');have hpt:=Cs.parts_tot l[i];have hjl:=Pl.join_len (Cs.parts l[i]);have hsucc:(l.take (i+1)).flatMap Cs.one=(l.take i).flatMap Cs.one++Cs.one l[i]:=by rw[List.take_succ_eq_append_getElem hi',List.flatMap_append];simp
   have hlt1:((l.take i).flatMap Cs.one).length≤44*Cs.wts l:=Nat.le_trans (Cs.ones_len _) (Nat.mul_le_mul_left _ (Cs.wts_take l i));have hdl:l[i].data.length+10≤l[i].wt:=by unfold Cop.wt;omega
   refine c_ret (opparts_ret l[i] va acs M w6 (ht.own ho) (hMW ho) hx (by omega) hml) fun pv w7 hn=>?_;have ho:=ho.join hn;have ho:Own w w7 [keyE pv (Cs.parts l[i]),opE b9 l[i] va,Bld b bv ((l.take i).flatMap Cs.one)]:=ho;refine c_told (pjoin_ret (Cs.parts l[i]) pv w7 (ho.slU 0 rfl) (by omega)) rfl ho fun w8 ho=>?_;have ho:=ho.tail;rw[show (Value.string ⟨#[10]⟩)=.string ⟨([10]:List UInt8).toArray⟩ from rfl,s_add (by simp;omega)];refine c_turn 1 ho rfl (writeString_ret (ho.at_ 1 rfl) (by simp only[List.length_append,List.length_cons,List.length_nil];omega)) ?_;rintro _ _ w9 ⟨_,v3,rfl⟩ ho;have ho:Own w w9 [opE b9 l[i] va,Bld b v3 ((l.take i).flatMap Cs.one++(Pl.join (Cs.parts l[i])++[10]))]:=ho;have fin2:∀{W:World} {v:Value},Own w W [Bld b v ((l.take (i+1)).flatMap Cs.one)]→J [] W:=by
    intro W v ho;refine hJ _ _ fun _=>?_;simp only[S_ops_Text_2,rs];rw[wrap64_id (by omega) (by omega)];exact nextX ⟨i+1,v,rfl,by omega,ho⟩ (by simp[n0,RowKit.intOf];omega)
   rw[hsucc] at fin2;rw[fa_p0,op_n ho 0 rfl];simp only[rs];by_cases hb:l[i].name=[66,73]
   ·have h1:Cs.one l[i]=(Pl.join (Cs.parts l[i])++[10])++(l[i].data++[10,69,73,10]):=by
     unfold Cs.one;rw[if_pos (show l[i].name=Cs.biW from hb)];simp[Cs.eiW]
    rw[h1,←List.append_assoc] at fin2;simp only[decide_eq_true hb,i_t];rw[fa_p2,op_d ho 0 rfl,show (Value.string ⟨#[10,69,73,10]⟩)=.string ⟨([10,69,73,10]:List UInt8).toArray⟩ from rfl,s_add (by simp;omega)];refine c_turn 1 ho rfl (writeString_ret (ho.at_ 1 rfl) (by simp only[List.length_append,List.length_cons,List.length_nil];omega)) ?_;rintro _ _ w10 ⟨_,v4,rfl⟩ ho;exact fin2 ho.tail
   ·have h1:Cs.one l[i]=Pl.join (Cs.parts l[i])++[10]:=by
     unfold Cs.one;rw[if_neg (show ¬l[i].name=Cs.biW from hb),List.append_nil]
    rw[h1] at fin2;simp only[decide_eq_false hb,i_f];exact fin2 ho.tail
  ·have hil:i=l.length:=by omega
   subst hil;rw[List.take_length] at ho;simp only[decide_eq_false hlt,i_f];refine c_turn 0 ho rfl (bldString_ret (ho.at_ 0 rfl)) ?_;rintro _ _ w6 ⟨rfl,rfl⟩ ho;exact fin ho rfl
end
section
open Eng Go.RowKit
abbrev Sp (w:World):Prop:=Lib.TabIs prog w "strings.asciiSpace" .u8 Lib.asciiSpaceTab
theorem Sp.mono {w w':World}(h:Sp w)(hb:Below w.heap.size w w'):Sp w':=
 Go.Joins.tab_stays (show Tryz.prog.globalNamed "strings.asciiSpace"=some 0 by kernel_rfl) h hb (Nat.le_refl _)
theorem Sp.own {w w':World}{L:List Ent}(h:Sp w)(ho:Own w w' L):Sp w':=h.mono ho.done
namespace Cs
def rows:List (List UInt8×List UInt8):=[([],[98,32,66,32,98,42,32,66,42,32,66,84,32,69,84,32,69,77,67,32,66,88,32,69,88,32,102,32,70,32,102,42,32,104,32,110,32,113,32,81,32,115,32,83,32,84,42,32,87,32,87,42]),([110],[103,32,71,32,105,32,106,32,74,32,77,32,119,32,84,99,32,84,76,32,84,114,32,84,115,32,84,119,32,84,122]),([110,110],[100,48,32,108,32,109,32,84,100,32,84,68]),([110,110,110],[114,103,32,82,71]),([110,110,110,110],[107,32,75,32,114,101,32,118,32,121]),([110,110,110,110,110,110],[99,32,99,109,32,100,49,32,84,109]),([78],[66,77,67,32,99,115,32,67,83,32,68,111,32,103,115,32,77,80,32,114,105,32,115,104]),([78,110],[84,102]),([78,42],[66,68,67,32,68,80]),([115],[84,106,32,39]),([110,110,115],[34]),([97],[84,74]),([97,110],[100]),([100],[66,73])]
def takesG:List (List UInt8×List UInt8)→List UInt8→List UInt8
|[],_=>[63]
|p::l,s=>if s∈Lib.fields p.2 then p.1 else takesG l s
def takes (s:List UInt8):List UInt8:=takesG rows s
def fits (c:UInt8)(k:Int):Bool:=if c=110 then decide (k=2)||decide (k=3) else if c=115 then decide (k=4) else if c=78 then decide (k=5) else if c=97 then decide (k=6) else if c=100 then decide (k=7) else true
def fitsL:List UInt8→List Ob→Bool
|c::cs,o::os=>fits c o.k&&fitsL cs os
|_,_=>true
theorem fitsL_nil (l:List Ob):fitsL [] l=true:=by cases l<;>rfl
def check (o:Cop):Int:=if takes o.name=[63]∨(takes o.name).length≠o.args.length then 28 else if fitsL (takes o.name) o.args=false then 28 else if o.data≠[]∧o.name≠[66,73] then 3 else 0
def num1 (x:Int):Int×Bool:=if (decide (-1073741824≤x)&&decide (x≤1073741824))=true then (x,true) else (0,false)
def number (o:Ob):Int×Bool:=if o.k=2 then (if (decide (-107374≤o.n)&&decide (o.n≤107374))=true then num1 (o.n*10000) else (0,false)) else if o.k=3 then num1 o.n else (0,false)
def numsG:List Ob→List Int→List Int×Int
|[],acc=>(acc,0)
|o::l,acc=>if o.k≠2∧o.k≠3 then ([],10) else if (number o).2=false then ([],2) else numsG l (acc++[(number o).1])
end Cs
abbrev rwT:TypeId:=79
abbrev rwA:TypeId:=80
def rwC:List Value:=Cs.rows.flatMap fun p=>[.string ⟨p.1.toArray⟩,.string ⟨p.2.toArray⟩]
section
variable {w:World}{PK:PKT}{K:VWP}
theorem m_row {a s:ByteArray}:DoX prog (mBuild rwT #[(0,.string a),(1,.string s)]) w PK K=K (.agg #[.string a,.string s]) w:=do_eq (by kernel_rfl)
theorem m_rowa:DoX prog (mBuild rwA #[(0,.agg #[.string ⟨#[]⟩,.string ⟨#[98,32,66,32,98,42,32,66,42,32,66,84,32,69,84,32,69,77,67,32,66,88,32,69,88,32,102,32,70,32,102,42,32,104,32,110,32,113,32,81,32,115,32,83,32,84,42,32,87,32,87,42]⟩]),(1,.agg #[.string ⟨#[110]⟩,.string ⟨#[103,32,71,32,105,32,106,32,74,32,77,32,119,32,84,99,32,84,76,32,84,114,32,84,115,32,84,119,32,84,122]⟩]),(2,.agg #[.string ⟨#[110,110]⟩,.string ⟨#[100,48,32,108,32,109,32,84,100,32,84,68]⟩]),(3,.agg #[.string ⟨#[110,110,110]⟩,.string ⟨#[114,103,32,82,71]⟩]),(4,.agg #[.string ⟨#[110,110,110,110]⟩,.string ⟨#[107,32,75,32,114,101,32,118,32,121]⟩]),(5,.agg #[.string ⟨#[110,110,110,110,110,110]⟩,.string ⟨#[99,32,99,109,32,100,49,32,84,109]⟩]),(6,.agg #[.string ⟨#[78]⟩,.string ⟨#[66,77,67,32,99,115,32,67,83,32,68,111,32,103,115,32,77,80,32,114,105,32,115,104]⟩]),(7,.agg #[.string ⟨#[78,110]⟩,.string ⟨#[84,102]⟩]),(8,.agg #[.string ⟨#[78,42]⟩,.string ⟨#[66,68,67,32,68,80]⟩]),(9,.agg #[.string ⟨#[115]⟩,.string ⟨#[84,106,32,39]⟩]),(10,.agg #[.string ⟨#[110,110,115]⟩,.string ⟨#[34]⟩]),(11,.agg #[.string ⟨#[97]⟩,.string ⟨#[84,74]⟩]),(12,.agg #[.string ⟨#[97,110]⟩,.string ⟨#[100]⟩]),(13,.agg #[.string ⟨#[100]⟩,.string ⟨#[66,73]⟩])]) w PK K=K (.agg rwC.toArray) w:=do_eq (by kernel_rfl)
theorem r_rwix_0:(mIx rwA (.agg rwC.toArray) (.int .i64 ((0:Nat):Int))).run prog w=.ok (.value (.agg #[.string ⟨Cs.rows[0].1.toArray⟩,.string ⟨Cs.rows[0].2.toArray⟩])) w:=by kernel_rfl
theorem r_rwix_1:(mIx rwA (.agg rwC.toArray) (.int .i64 ((1:Nat):Int))).run prog w=.ok (.value (.agg #[.string ⟨Cs.rows[1].1.toArray⟩,.string ⟨Cs.rows[1].2.toArray⟩])) w:=by kernel_rfl
theorem r_rwix_2:(mIx rwA (.agg rwC.toArray) (.int .i64 ((2:Nat):Int))).run prog w=.ok (.value (.agg #[.string ⟨Cs.rows[2].1.toArray⟩,.string ⟨Cs.rows[2].2.toArray⟩])) w:=by kernel_rfl
theorem r_rwix_3:(mIx rwA (.agg rwC.toArray) (.int .i64 ((3:Nat):Int))).run prog w=.ok (.value (.agg #[.string ⟨Cs.rows[3].1.toArray⟩,.string ⟨Cs.rows[3].2.toArray⟩])) w:=by kernel_rfl
theorem r_rwix_4:(mIx rwA (.agg rwC.toArray) (.int .i64 ((4:Nat):Int))).run prog w=.ok (.value (.agg #[.string ⟨Cs.rows[4].1.toArray⟩,.string ⟨Cs.rows[4].2.toArray⟩])) w:=by kernel_rfl
theorem r_rwix_5:(mIx rwA (.agg rwC.toArray) (.int .i64 ((5:Nat):Int))).run prog w=.ok (.value (.agg #[.string ⟨Cs.rows[5].1.toArray⟩,.string ⟨Cs.rows[5].2.toArray⟩])) w:=by kernel_rfl
theorem r_rwix_6:(mIx rwA (.agg rwC.toArray) (.int .i64 ((6:Nat):Int))).run prog w=.ok (.value (.agg #[.string ⟨Cs.rows[6].1.toArray⟩,.string ⟨Cs.rows[6].2.toArray⟩])) w:=by kernel_rfl
theorem r_rwix_7:(mIx rwA (.agg rwC.toArray) (.int .i64 ((7:Nat):Int))).run prog w=.ok (.value (.agg #[.string ⟨Cs.rows[7].1.toArray⟩,.string ⟨Cs.rows[7].2.toArray⟩])) w:=by kernel_rfl
theorem r_rwix_8:(mIx rwA (.agg rwC.toArray) (.int .i64 ((8:Nat):Int))).run prog w=.ok (.value (.agg #[.string ⟨Cs.rows[8].1.toArray⟩,.string ⟨Cs.rows[8].2.toArray⟩])) w:=by kernel_rfl
theorem r_rwix_9:(mIx rwA (.agg rwC.toArray) (.int .i64 ((9:Nat):Int))).run prog w=.ok (.value (.agg #[.string ⟨Cs.rows[9].1.toArray⟩,.string ⟨Cs.rows[9].2.toArray⟩])) w:=by kernel_rfl
theorem r_rwix_10:(mIx rwA (.agg rwC.toArray) (.int .i64 ((10:Nat):Int))).run prog w=.ok (.value (.agg #[.string ⟨Cs.rows[10].1.toArray⟩,.string ⟨Cs.rows[10].2.toArray⟩])) w:=by kernel_rfl
theorem r_rwix_11:(mIx rwA (.agg rwC.toArray) (.int .i64 ((11:Nat):Int))).run prog w=.ok (.value (.agg #[.string ⟨Cs.rows[11].1.toArray⟩,.string ⟨Cs.rows[11].2.toArray⟩])) w:=by kernel_rfl
theorem r_rwix_12:(mIx rwA (.agg rwC.toArray) (.int .i64 ((12:Nat):Int))).run prog w=.ok (.value (.agg #[.string ⟨Cs.rows[12].1.toArray⟩,.string ⟨Cs.rows[12].2.toArray⟩])) w:=by kernel_rfl
theorem r_rwix_13:(mIx rwA (.agg rwC.toArray) (.int .i64 ((13:Nat):Int))).run prog w=.ok (.value (.agg #[.string ⟨Cs.rows[13].1.toArray⟩,.string ⟨Cs.rows[13].2.toArray⟩])) w:=by kernel_rfl
theorem r_rwix {i:Nat}(hi:i < 14):(mIx rwA (.agg rwC.toArray) (.int .i64 (i:Int))).run prog w=.ok (.value (.agg #[.string ⟨(Cs.rows[i]'hi).1.toArray⟩,.string ⟨(Cs.rows[i]'hi).2.toArray⟩])) w:=by
 match i,hi with
|0,_=>exact r_rwix_0
|1,_=>exact r_rwix_1
|2,_=>exact r_rwix_2
|3,_=>exact r_rwix_3
|4,_=>exact r_rwix_4
|5,_=>exact r_rwix_5
|6,_=>exact r_rwix_6
|7,_=>exact r_rwix_7
|8,_=>exact r_rwix_8
|9,_=>exact r_rwix_9
|10,_=>exact r_rwix_10
|11,_=>exact r_rwix_11
|12,_=>exact r_rwix_12
|13,_=>exact r_rwix_13
end
theorem rw_fo0:fOff prog rwT 0=some 0:=by kernel_rfl
theorem rw_fo1:fOff prog rwT 1=some 1:=by kernel_rfl
theorem rw_sz:(Tryz.prog.info? rwT).map (·.size)=some 2:=by kernel_rfl
theorem rwA_sz:(Tryz.prog.info? rwA).map (·.size)=some 28:=by kernel_rfl
theorem rwA_agg:aggN prog rwA=some 28:=by kernel_rfl
theorem rwA_one:∀v∈rwC,v.oneCell'=true:=by
 have:(rwC.all fun v=>v.oneCell')=true:=by kernel_rfl
 intro v hv;exact List.all_eq_true.1 this v hv
theorem rows_ok {i:Nat}(hi:i < Cs.rows.length):Cs.rows[i].2.length≤1000∧(Cs.rows[i].2.all fun b=>decide (b.toNat < 128))=true∧(Lib.fields Cs.rows[i].2).length≤1000:=by
 have:(Cs.rows.all fun p=>decide (p.2.length≤1000∧(p.2.all fun b=>decide (b.toNat < 128))=true∧(Lib.fields p.2).length≤1000))=true:=by decide +kernel
 have:=List.all_eq_true.1 this _ (List.getElem_mem hi);simpa using this
theorem Cs.takesG_in:∀(l:List (List UInt8×List UInt8)) (s:List UInt8),takesG l s=[63]∨∃p∈l,takesG l s=p.1
|[],s=>.inl rfl
|p::l,s=>by
  rw[takesG];split
  ·exact .inr ⟨p,List.mem_cons_self,rfl⟩
  ·rcases takesG_in l s with h|⟨q,hq,h⟩
   ·exact .inl h
   ·exact .inr ⟨q,List.mem_cons_of_mem _ hq,h⟩
theorem Cs.takes_ok (s:List UInt8):(takes s).length≤6∧∀c∈takes s,c.toNat < 128:=by
 have h:(Cs.rows.all fun p=>decide (p.1.length≤6∧∀c∈p.1,c.toNat < 128))=true:=by decide +kernel
 rcases takesG_in rows s with e|⟨p,hp,e⟩
 ·rw[takes,e];decide
 ·rw[takes,e];exact of_decide_eq_true (List.all_eq_true.1 h p hp)
theorem fieldsG_ret (t:List UInt8)(w:World)(hs:Sp w)(hl:t.length≤1000)(ha:t.all (fun b=>decide (b.toNat < 128))=true)(hf:(Lib.fields t).length≤1000) :
  Ret prog 33 #[.string ⟨t.toArray⟩] w (fun v w'=>Own w w' [StrRow v (Lib.fields t)]):=by
 refine ret_of fun K hK=>Calls.mono (Tryz.strings_Fields ⟨t.toArray⟩ w (by rw[str_size];omega) (fun j b h=>?_) hs) ?_
 ·have hm:=List.mem_of_getElem? h;exact of_decide_eq_true (List.all_eq_true.1 ha b hm)
 ·rintro e w' ⟨rfl,rfl⟩;have ho:=(Own.start w).alloc (strsV (Lib.fields t)) 9;have:=ho.toRow 1 (Lib.fields t).length (Lib.fields t).length (by rw[strsV_length,Nat.mul_one]) (by omega) (by omega);refine hK _ _ ?_;have e:(⟨t.toArray⟩:ByteArray).data.toList=t:=rfl;rw[List.take_of_length_le (by rw[strsV_length];omega)] at this;rw[e];exact this
theorem optakes_ret (s:List UInt8)(w:World)(hs:Sp w):Ret prog 14 #[.string ⟨s.toArray⟩] w (fun v w'=>v=.string ⟨(Cs.takes s).toArray⟩∧Below w.heap.size w w'):=by
 refine ret_of fun K hK=>S_ops_Takes_ok ?_;unfold S_ops_Takes;simp only[m_row];rw[m_rowa];refine o_new (fun b=>.pointer (some ⟨b,0,none⟩)) (List.replicate 28 (.string ⟨#[]⟩)) rwA (fun _=>by kernel_rfl) (Own.start w) fun b w1 ho=>?_;refine o_put 0 ho rfl (new:=rwC) rwA_sz rwA_one rfl fun w2 ho=>?_;have ho:Own w w2 [.cells b rwC rwA]:=ho;rw[l_at (ho.agg 0 rfl rwA_agg)];have ho:=ho.tail;refine loop (fun vs w'=>∃i:Nat,vs=[.int .i64 i]∧i≤14∧Cs.takes s=Cs.takesG (Cs.rows.drop i) s∧Own w w' []) (fun vs _=>14 - n0 vs) ⟨0,rfl,by omega,rfl,ho⟩ ?_;clear ho;rintro vs w3 ⟨i,rfl,hi,he,ho⟩ _;simp only[S_ops_Takes_0,gd,rs];by_cases hlt:(i:Int) < 14
 ·have hi':i < 14:=by omega
  simp only[hlt,decide_true,i_t];obtain⟨hl,hasc,hf⟩:=rows_ok (i:=i) hi';rw[List.drop_eq_getElem_cons (show i < Cs.rows.length from hi'),Cs.takesG] at he;refine do_eq (r_rwix hi') |>.mpr ?_;generalize Cs.rows[i]=p at *;refine o_new (fun b=>.pointer (some ⟨b,0,none⟩)) [.string ⟨#[]⟩,.string ⟨#[]⟩] rwT (fun _=>by kernel_rfl) ho fun b6 w4 ho=>?_;refine o_put 0 ho rfl (new:=[.string ⟨p.1.toArray⟩,.string ⟨p.2.toArray⟩]) rw_sz (by simp[Value.oneCell']) rfl fun w5 ho=>?_;have ho:Own w w5 [.cells b6 [.string ⟨p.1.toArray⟩,.string ⟨p.2.toArray⟩] rwT]:=ho;rw[f_addr rw_fo1,l_cell nStr5 (ho.cell 0 rfl 1 rfl)];refine c_ret (fieldsG_ret p.2 w5 (hs.own ho) hl hasc hf) fun v w6 hn=>?_;have ho:=ho.join hn;have ho:Own w w6 [StrRow v (Lib.fields p.2),.cells b6 [.string ⟨p.1.toArray⟩,.string ⟨p.2.toArray⟩] rwT]:=ho;refine c_eq (contains4_ret v (Lib.fields p.2) s w6 (ho.slRow 0 rfl) (by omega)) ?_;by_cases hm:s∈Lib.fields p.2
  ·rw[if_pos hm] at he;simp only[decide_eq_true hm,i_t];rw[f_addr rw_fo0,l_cell nStr5 (ho.cell 1 rfl 0 rfl)];exact hK _ _ ⟨by rw[he],ho.done⟩
  ·rw[if_neg hm] at he;simp only[decide_eq_false hm,i_f,rs];rw[wrap64_id (by omega) (by omega)];exact nextX ⟨i+1,rfl,by omega,he,ho.tail.tail⟩ (by simp[n0,RowKit.intOf];omega)
 ·simp only[hlt,decide_false,i_f];have:i=14:=by omega
  subst this;rw[show Cs.rows.drop 14=[] from rfl,Cs.takesG] at he;exact hK _ _ ⟨by rw[he],ho.done⟩
 attribute [local congr] g_congr in
theorem opfits_ret (c:UInt8)(k:Int)(w:World):Ret prog 34 #[.int .i32 (c.toNat:Int),.int .i64 k] w (fun v w'=>v=.bool (Cs.fits c k)∧w=w'):=by
  refine ret_of fun K hK=>S_ops_fits_ok ?_;unfold S_ops_fits;have q:∀n:UInt8,decide ((c.toNat:Int)=(n.toNat:Int))=decide (c=n):=fun n=>by
   congr 1
   exact propext ⟨fun h=>UInt8.toNat_inj.1 (by omega),fun h=>by rw[h]⟩
  have q110:decide ((c.toNat:Int)=110)=decide (c=110):=q 110;have q115:decide ((c.toNat:Int)=115)=decide (c=115):=q 115;have q78:decide ((c.toNat:Int)=78)=decide (c=78):=q 78;have q97:decide ((c.toNat:Int)=97)=decide (c=97):=q 97;have q100:decide ((c.toNat:Int)=100)=decide (c=100):=q 100;simp +contextual only[rs,gs,q110,q115,q78,q97,q100];have fin:∀{b:Bool},b=Cs.fits c k→K (.returned (.bool b)) w:=fun e=>hK _ _ ⟨by rw[e],rfl⟩;unfold Cs.fits at fin;by_cases h1:c=110
  ·rw[if_pos h1] at fin;simp only[decide_eq_true h1,i_t];exact fin (by cases decide (k=2)<;>rfl)
  rw[if_neg h1] at fin;simp only[decide_eq_false h1,i_f];by_cases h2:c=115
  ·rw[if_pos h2] at fin;simp only[decide_eq_true h2,i_t];exact fin rfl
  rw[if_neg h2] at fin;simp only[decide_eq_false h2,i_f];by_cases h3:c=78
  ·rw[if_pos h3] at fin;simp only[decide_eq_true h3,i_t];exact fin rfl
  rw[if_neg h3] at fin;simp only[decide_eq_false h3,i_f];by_cases h4:c=97
  ·rw[if_pos h4] at fin;simp only[decide_eq_true h4,i_t];exact fin rfl
  rw[if_neg h4] at fin;simp only[decide_eq_false h4,i_f];by_cases h5:c=100
  ·rw[if_pos h5] at fin;simp only[decide_eq_true h5,i_t];exact fin rfl
  rw[if_neg h5] at fin;simp only[decide_eq_false h5,i_f];exact fin rfl
theorem iterPos_ob {w0 w:World}{L:List Ent}(h:Own w0 w L)(i:Nat){b:Nat}{s:ByteArray}{p:Nat}(hi:L[i]?=some (.obj b (.stringIter s p))):w.iterPos b=p:=by
 have:w.heap[b]?=some (.stringIter s p):=h.at_ i hi;simp[World.iterPos,this]
theorem opcheck_ret (o:Cop)(va:Value)(acs:List Value)(M:Mem)(w:World)(hs:Sp w)(hM:M.has w)(hx:OpAt M.A M.w o va acs) :
  Ret prog 15 #[opV o va] w (fun v w'=>v=.int .i64 (Cs.check o)∧Below w.heap.size w w'):=by
 refine ret_of fun K hK=>S_ops_Check_ok ?_;unfold S_ops_Check;have hMW:∀{W:World} {L:List Ent},Own w W L→M.has W:=fun ho=>Mem.has_below hM ho.done;have fin:∀{W:World} {L:List Ent} {e:Int},Own w W L→e=Cs.check o→K (.returned (.int .i64 e)) W:=fun ho e=>hK _ _ ⟨by rw[e],ho.done⟩;unfold Cs.check at fin;refine o_opb o hx.one (Own.start w) fun b1 w1 ho=>?_;have ho:Own w w1 [opE b1 o va]:=ho;rw[fa_p0,op_n ho 0 rfl];refine c_told (optakes_ret o.name w1 (hs.own ho)) rfl ho fun w2 ho=>?_;obtain⟨ht6,htA⟩:=Cs.takes_ok o.name;generalize Cs.takes o.name=l at *;simp only[rs];by_cases h1:l=[63]
 ·rw[if_pos (.inl h1)] at fin;simp only[decide_eq_true h1,rs,g_un];exact fin ho rfl
 simp only[decide_eq_false h1,rs];rw[s_len Tryz.underlying9,fa_p1,op_a ho 0 rfl,sl_len Tryz.underlying40 (hx.args.now (hMW ho))];simp only[rs];by_cases h2:l.length=o.args.length
 case neg=>
  rw[if_pos (.inr h2)] at fin;simp only[ne_eq,show ¬((l.length:Int)=(o.args.length:Int)) by omega,not_false_eq_true,decide_true,rs];exact fin ho rfl
 rw[if_neg (by rintro (h|h)<;>contradiction)] at fin;simp only[ne_eq,show ((l.length:Int)=(o.args.length:Int)) by omega,not_true,decide_false,rs];refine o_range Tryz.underlying9 ho fun b2 w3 ho=>?_;have ho:Own w w3 [.obj b2 (.stringIter ⟨l.toArray⟩ 0),opE b1 o va]:=ho;refine loop (fun vs w'=>∃i:Nat,vs=[]∧i≤l.length∧Cs.fitsL l o.args=Cs.fitsL (l.drop i) (o.args.drop i)∧Own w w' [.obj b2 (.stringIter ⟨l.toArray⟩ i),opE b1 o va]) (fun vs w'=>l.length - w'.iterPos b2) ⟨0,rfl,by omega,rfl,ho⟩ ?_;clear ho;rintro vs w4 ⟨i,rfl,hi,he,ho⟩ _;have hip:=iterPos_ob ho 0 rfl;simp only[S_ops_Check_0,gd,rs];by_cases hlt:i < l.length
 ·have hi2:i < o.args.length:=by omega
  refine o_next 0 ho rfl (List.getElem?_eq_getElem hlt) (htA _ (List.getElem_mem hlt)) fun w5 ho=>?_;have ho:Own w w5 [.obj b2 (.stringIter ⟨l.toArray⟩ (i+1)),opE b1 o va]:=ho;simp only[x3_0,x3_1,x3_2,i_t];rw[fa_p1,op_a ho 1 rfl];obtain⟨xk,xc,bo,oo,hov,hr⟩:=obj_at hx.args hx.all hi2;have hr2:=hr w5 (hMW ho);refine do_eq hr2.1 |>.mpr ?_;have hq:=hr2.2 0 _ rfl;rw[Nat.add_zero] at hq;rw[fa_o0,l_cell nInt5 hq];refine c_eq (opfits_ret l[i] o.args[i].k w5) ?_;rw[List.drop_eq_getElem_cons hlt,List.drop_eq_getElem_cons hi2,Cs.fitsL] at he;simp only[rs];cases hf:Cs.fits l[i] o.args[i].k with
 |false=>
   rw[hf,Bool.false_and] at he;rw[if_pos he] at fin;simp only[Bool.not_false,i_t];exact fin ho rfl
 |true=>
   rw[hf,Bool.true_and] at he;simp only[Bool.not_true,i_f];refine nextX ⟨i+1,rfl,by omega,he,ho⟩ ?_;rw[hip,iterPos_ob ho 0 rfl];omega
 ·have hil:i=l.length:=by omega
  subst hil;rw[List.drop_length,Cs.fitsL_nil] at he
  ·rw[if_neg (by rw[he];simp)] at fin;rw[o_next_end 0 ho rfl (by omega)];simp only[x1_0,i_f];rw[fa_p2,op_d ho 1 rfl];simp only[rs];by_cases h3:o.data=[]
   ·rw[if_neg (by simp[h3])] at fin;simp only[ne_eq,h3,not_true,decide_false,rs];exact fin ho rfl
   ·simp only[ne_eq,h3,not_false_eq_true,decide_true,rs];rw[fa_p0,op_n ho 1 rfl];simp only[rs];by_cases h4:o.name=[66,73]
    ·rw[if_neg (by simp[h4])] at fin;simp only[ne_eq,h4,not_true,decide_false,rs];exact fin ho rfl
    ·rw[if_pos ⟨h3,h4⟩] at fin;simp only[ne_eq,h4,not_false_eq_true,decide_true,rs];exact fin ho rfl
theorem elI64:elB prog 2 1 8=true:=by kernel_rfl
theorem vnumber_ret (o:Ob)(v:Value)(w:World)(hv:OV (InW w) w v o):Ret prog 31 #[v] w (fun v w'=>v=.tuple #[.int .i64 (Cs.number o).1,.bool (Cs.number o).2]∧Below w.heap.size w w'):=by
 refine ret_of fun K hK=>S_value_Number_ok ?_;unfold S_value_Number;obtain⟨xk,xc,cs,rfl,hx⟩:=hv.open;refine o_obb o hx.keys.one hx.kids.one (Own.start w) fun b1 w1 ho=>?_;have ho:Own w w1 [obE b1 o xk xc]:=ho;rw[fa_o1,ob_n ho 0 rfl];have fin:∀{p:Int×Bool},p=Cs.number o→K (.returned (.tuple #[.int .i64 p.1,.bool p.2])) w1:=fun e=>hK _ _ ⟨by rw[e],ho.done⟩;refine join fun J hJ=>?_;have hJ2:∀x,Cs.num1 x=Cs.number o→J [.int .i64 x] w1:=fun x hx=>by
  refine hJ _ _ fun _=>?_;simp only[S_value_Number_0,gd];refine c_eq (within64_ret x _ _ w1) ?_;simp only[rs];unfold Cs.num1 at hx;cases hb:decide (-1073741824≤x)&&decide (x≤1073741824) with
 |true=>
   rw[if_pos hb] at hx;simp only[Bool.not_true,i_f];exact fin hx
 |false=>
   rw[if_neg (by rw[hb];simp)] at hx;simp only[Bool.not_false,i_t];exact fin hx
 rw[fa_o0,ob_k ho 0 rfl];simp only[rs];unfold Cs.number at fin hJ2;by_cases h2:o.k=2
 ·rw[if_pos h2] at fin hJ2;simp only[decide_eq_true h2,i_t];refine c_eq (within64_ret o.n _ _ w1) ?_;simp only[rs];cases hb:decide (-107374≤o.n)&&decide (o.n≤107374) with
 |false=>
   rw[if_neg (by rw[hb];simp)] at fin;simp only[Bool.not_false,i_t];exact fin rfl
 |true=>
   rw[if_pos hb] at hJ2;simp only[Bool.and_eq_true,decide_eq_true_eq] at hb;simp only[Bool.not_true,i_f];rw[wrap64_id (by omega) (by omega)];exact hJ2 _ rfl
 ·rw[if_neg h2] at fin hJ2;simp only[decide_eq_false h2,i_f];by_cases h3:o.k=3
  ·rw[if_pos h3] at hJ2;simp only[decide_eq_true h3,i_t];exact hJ2 _ rfl
  ·rw[if_neg h3] at fin;simp only[decide_eq_false h3,i_f];exact fin rfl
def numsV (l:List Int):List Value:=l.map fun x=>.int .i64 x
def numE (v:Value)(l:List Int):Ent:=.urow 2 1 v l.length (numsV l)
theorem opnums_ret (o:Cop)(va:Value)(acs:List Value)(M:Mem)(w:World)(hM:M.has w)(hx:OpAt M.A M.w o va acs)(hl:o.args.length≤1000000000) :
  Ret prog 13 #[opV o va] w (fun v w'=>∃r,v=.tuple #[r,.int .i64 (Cs.numsG o.args []).2]∧Own w w' [numE r (Cs.numsG o.args []).1]):=by
 refine ret_of fun K hK=>S_ops_Nums_ok ?_;unfold S_ops_Nums;have hMW:∀{W:World} {L:List Ent},Own w W L→M.has W:=fun ho=>Mem.has_below hM ho.done;have fin:∀{W:World} {r:Value} {q:List Int×Int},Own w W [numE r q.1]→q=Cs.numsG o.args []→K (.returned (.tuple #[r,.int .i64 q.2])) W:=fun ho e=>hK _ _ ⟨_,by subst e;rfl,by subst e;exact ho⟩;refine o_opb o hx.one ((Own.start w).nilU 2 1) fun b1 w1 ho=>?_;have ho:Own w w1 [opE b1 o va,numE nilS []]:=ho;rw[fa_p1,op_a ho 0 rfl,sl_len Tryz.underlying40 (hx.args.now (hMW ho))];refine loop (fun vs w'=>∃(i:Nat) (r:Value) (acc:List Int),vs=[r,.int .i64 i]∧i≤o.args.length∧acc.length=i∧Cs.numsG o.args []=Cs.numsG (o.args.drop i) acc∧Own w w' [opE b1 o va,numE r acc]) (fun vs _=>o.args.length - n1 vs) ⟨0,_,[],rfl,by omega,rfl,rfl,ho⟩ ?_;clear ho;rintro vs w3 ⟨i,r,acc,rfl,hi,hacc,he,ho⟩ _;simp only[S_ops_Nums_0,gd,rs];by_cases hlt:(i:Int) < (o.args.length:Int)
 ·have hi':i < o.args.length:=by omega
  simp only[decide_eq_true hlt,i_t];rw[List.drop_eq_getElem_cons hi',Cs.numsG] at he;refine ob_ia (hx.args.now (hMW ho)) (OVs.kept (hMW ho) _ _ hx.all) hi' fun v hv=>?_;have hv0:=hv;obtain⟨xk,xc,xcs,rfl,hxa⟩:=hv.open;have ho3:=ho;refine o_oba ho fun b7 w4 ho=>?_;refine ob_put (o':=o.args[i]) 0 hxa.keys.one hxa.kids.one ho rfl fun w5 ho=>?_;have ho:Own w w5 [obE b7 o.args[i] xk xc,opE b1 o va,numE r acc]:=ho;have hv5:OV (InW w5) w5 (obV o.args[i] xk xc) o.args[i]:=OV.mono (fun b hb=>Mem.bd (hMW ho) hb) _ _ (OV.kept (kept_of (hMW ho3) (hMW ho)) _ _ hv0);simp only[rs,fa_o0,ob_k ho 0 rfl];by_cases hbad:o.args[i].k≠2∧o.args[i].k≠3
  ·rw[if_pos hbad] at he;simp only[ne_eq,hbad.1,not_false_eq_true,decide_true,rs];rw[ob_k ho 0 rfl];simp only[ne_eq,hbad.2,not_false_eq_true,decide_true,rs];exact fin (q:=([],10)) (ho.tail.tail.tail.nilU 2 1) he.symm
  ·rw[if_neg hbad] at he;have h23:o.args[i].k=2∨o.args[i].k=3:=by omega
   rcases h23 with h2|h3
   case' inl=>simp only[ne_eq,h2,not_true,decide_false,rs]
   case' inr=>
    simp only[ne_eq,show ¬o.args[i].k=2 by omega,not_false_eq_true,decide_true,rs];rw[ob_k ho 0 rfl];simp only[ne_eq,h3,not_true,decide_false,rs]
   all_goals
    rw[ob_v ho 0 rfl];refine c_told (vnumber_ret o.args[i] _ w5 hv5) rfl ho fun w6 ho=>?_;simp only[ex];simp only[rs];cases hb:(Cs.number o.args[i]).2 with
   |false=>
     rw[if_pos hb] at he;simp only[Bool.not_false,i_t];exact fin (q:=([],2)) (ho.tail.tail.tail.nilU 2 1) he.symm
   |true=>
     rw[if_neg (by rw[hb];simp)] at he;simp only[Bool.not_true,i_f];refine o_new (fun b=>.slice (some ⟨b,0,none⟩) 1 1) [.int .i64 (Cs.number o.args[i]).1] 2 (fun _=>by kernel_rfl) ho fun nb w7 ho=>?_;refine o_appendU 3 Tryz.underlying36 elI64 (by decide) ho rfl (ho.sl 0 rfl 1 1 1 rfl) (by intro u hu;rw[List.mem_singleton] at hu;subst hu;rfl) (by omega) (by omega) fun v2 w8 ho=>?_;have ho:=ho.tail.tail;rw[wrap64_id (by omega) (by omega)];refine nextX ⟨i+1,v2,acc++[(Cs.number o.args[i]).1],rfl,by omega,by rw[List.length_append,hacc];rfl,he,?_⟩ (by simp[n1,RowKit.intOf];omega);rw[numE,List.length_append,numsV,List.map_append];exact ho
 ·have hil:i=o.args.length:=by omega
  simp only[decide_eq_false hlt,i_f];rw[hil,List.drop_length,Cs.numsG] at he;exact fin (q:=(acc,0)) ho.tail he.symm
end
section
open Eng
def S_foliantlaw43_lives (w:World)(K:Ending→World→Prop):Prop:=
 CallX prog 8 #[(.string ⟨#[49,32,48,32,48,32,114,103,32,40,97,41,84,106]⟩)] w (pk K) fun t12 w=>
 DoX prog (mExt t12 0) w (pk K) fun t13 w=>
 DoX prog (mExt t12 1) w (pk K) fun t14 w=>
 DoX prog (mAlloc 26) w (pk K) fun t2 w=>
 DoX prog (mStore 26 t2 t14) w (pk K) fun _ w=>
 CallX prog 8 #[(.string ⟨#[49,32,50]⟩)] w (pk K) fun t16 w=>
 DoX prog (mExt t16 0) w (pk K) fun t17 w=>
 DoX prog (mExt t16 1) w (pk K) fun t18 w=>
 DoX prog (mAlloc 26) w (pk K) fun t4 w=>
 DoX prog (mStore 26 t4 t18) w (pk K) fun _ w=>
 CallX prog 8 #[(.string ⟨#[66,73,32,47,87,32,49,32,73,68,32,97,98,32,69,73,32,113]⟩)] w (pk K) fun t20 w=>
 DoX prog (mExt t20 0) w (pk K) fun t21 w=>
 DoX prog (mExt t20 1) w (pk K) fun t22 w=>
 DoX prog (mAlloc 26) w (pk K) fun t6 w=>
 DoX prog (mStore 26 t6 t22) w (pk K) fun _ w=>
 CallX prog 12 #[t21] w (pk K) fun t25 w=>
 DoX prog (mExt t25 0) w (pk K) fun t26 w=>
 DoX prog (mExt t25 1) w (pk K) fun t27 w=>
 DoX prog (mBuild 42 #[(0,(.int .i64 2)),(1,(.int .i64 2))]) w (pk K) fun t29 w=>
 DoX prog (mBuild 42 #[(0,(.int .i64 3)),(1,(.int .i64 5))]) w (pk K) fun t30 w=>
 DoX prog (mBuildS 40 2 #[(0,t29),(1,t30)]) w (pk K) fun t31 w=>
 DoX prog (mBuild 44 #[(1,t31)]) w (pk K) fun t32 w=>
 CallX prog 13 #[t32] w (pk K) fun t33 w=>
 DoX prog (mExt t33 0) w (pk K) fun t34 w=>
 DoX prog (mExt t33 1) w (pk K) fun t35 w=>
 DoX prog (mB .len #[23] 3 #[false] #[t13]) w (pk K) fun t37 w=>
 DoX prog (mEq .eql 3 (.tmp 37) (.const (.int .i64 2)) t37 (.int .i64 2)) w (pk K) fun t38 w=>
 GDo t38 true (fun E=>E t13 w) w fun t40 w=>
 GDo t38 true (fun E=>DoX prog (mIA 23 t40 (.int .i64 0)) w (pk K) E) w fun t41 w=>
 GDo t38 true (fun E=>DoX prog (mFA 44 t41 0) w (pk K) E) w fun t42 w=>
 GDo t38 true (fun E=>DoX prog (mLoad 9 t42) w (pk K) E) w fun t43 w=>
 GDo t38 true (fun E=>DoX prog (mEq .eql 9 (.tmp 43) (.const (.string ⟨#[114,103]⟩)) t43 (.string ⟨#[114,103]⟩)) w (pk K) E) w fun t44 w=>
 DoX prog (mPick t38 t44 (.bool false)) w (pk K) fun t45 w=>
 GDo t45 true (fun E=>E t13 w) w fun t47 w=>
 GDo t45 true (fun E=>DoX prog (mIA 23 t47 (.int .i64 0)) w (pk K) E) w fun t48 w=>
 GDo t45 true (fun E=>DoX prog (mFA 44 t48 1) w (pk K) E) w fun t49 w=>
 GDo t45 true (fun E=>DoX prog (mLoad 40 t49) w (pk K) E) w fun t50 w=>
 GDo t45 true (fun E=>DoX prog (mB .len #[40] 3 #[false] #[t50]) w (pk K) E) w fun t51 w=>
 GDo t45 true (fun E=>DoX prog (mEq .eql 3 (.tmp 51) (.const (.int .i64 3)) t51 (.int .i64 3)) w (pk K) E) w fun t52 w=>
 DoX prog (mPick t45 t52 (.bool false)) w (pk K) fun t53 w=>
 GDo t53 true (fun E=>E t13 w) w fun t55 w=>
 GDo t53 true (fun E=>DoX prog (mIA 23 t55 (.int .i64 1)) w (pk K) E) w fun t56 w=>
 GDo t53 true (fun E=>DoX prog (mFA 44 t56 0) w (pk K) E) w fun t57 w=>
 GDo t53 true (fun E=>DoX prog (mLoad 9 t57) w (pk K) E) w fun t58 w=>
 GDo t53 true (fun E=>DoX prog (mEq .eql 9 (.tmp 58) (.const (.string ⟨#[84,106]⟩)) t58 (.string ⟨#[84,106]⟩)) w (pk K) E) w fun t59 w=>
 DoX prog (mPick t53 t59 (.bool false)) w (pk K) fun t60 w=>
 GDo t60 true (fun E=>E t13 w) w fun t62 w=>
 GDo t60 true (fun E=>DoX prog (mIA 23 t62 (.int .i64 1)) w (pk K) E) w fun t63 w=>
 GDo t60 true (fun E=>DoX prog (mFA 44 t63 1) w (pk K) E) w fun t64 w=>
 GDo t60 true (fun E=>DoX prog (mLoad 40 t64) w (pk K) E) w fun t65 w=>
 GDo t60 true (fun E=>DoX prog (mIA 40 t65 (.int .i64 0)) w (pk K) E) w fun t66 w=>
 GDo t60 true (fun E=>DoX prog (mFA 42 t66 3) w (pk K) E) w fun t67 w=>
 GDo t60 true (fun E=>DoX prog (mLoad 9 t67) w (pk K) E) w fun t68 w=>
 GDo t60 true (fun E=>DoX prog (mEq .eql 9 (.tmp 68) (.const (.string ⟨#[97]⟩)) t68 (.string ⟨#[97]⟩)) w (pk K) E) w fun t69 w=>
 DoX prog (mPick t60 t69 (.bool false)) w (pk K) fun t70 w=>
 GDo t70 true (fun E=>DoX prog (mLoad 26 t2) w (pk K) E) w fun t72 w=>
 GDo t70 true (fun E=>DoX prog (mBuild 26 #[]) w (pk K) E) w fun t73 w=>
 GDo t70 true (fun E=>DoX prog (mEq .eql 26 (.tmp 72) (.tmp 73) t72 t73) w (pk K) E) w fun t74 w=>
 DoX prog (mPick t70 t74 (.bool false)) w (pk K) fun t75 w=>
 GDo t75 true (fun E=>DoX prog (mLoad 26 t4) w (pk K) E) w fun t77 w=>
 GDo t75 true (fun E=>DoX prog (mBuild 26 #[(0,(.int .i64 3)),(1,(.int .i64 4))]) w (pk K) E) w fun t78 w=>
 GDo t75 true (fun E=>DoX prog (mEq .eql 26 (.tmp 77) (.tmp 78) t77 t78) w (pk K) E) w fun t79 w=>
 DoX prog (mPick t75 t79 (.bool false)) w (pk K) fun t80 w=>
 GDo t80 true (fun E=>E t21 w) w fun t82 w=>
 GDo t80 true (fun E=>DoX prog (mB .len #[23] 3 #[false] #[t82]) w (pk K) E) w fun t83 w=>
 GDo t80 true (fun E=>DoX prog (mEq .eql 3 (.tmp 83) (.const (.int .i64 2)) t83 (.int .i64 2)) w (pk K) E) w fun t84 w=>
 DoX prog (mPick t80 t84 (.bool false)) w (pk K) fun t85 w=>
 GDo t85 true (fun E=>E t21 w) w fun t87 w=>
 GDo t85 true (fun E=>DoX prog (mIA 23 t87 (.int .i64 0)) w (pk K) E) w fun t88 w=>
 GDo t85 true (fun E=>DoX prog (mFA 44 t88 2) w (pk K) E) w fun t89 w=>
 GDo t85 true (fun E=>DoX prog (mLoad 9 t89) w (pk K) E) w fun t90 w=>
 GDo t85 true (fun E=>DoX prog (mEq .eql 9 (.tmp 90) (.const (.string ⟨#[97,98]⟩)) t90 (.string ⟨#[97,98]⟩)) w (pk K) E) w fun t91 w=>
 DoX prog (mPick t85 t91 (.bool false)) w (pk K) fun t92 w=>
 GDo t92 true (fun E=>E t21 w) w fun t94 w=>
 GDo t92 true (fun E=>DoX prog (mIA 23 t94 (.int .i64 0)) w (pk K) E) w fun t95 w=>
 GDo t92 true (fun E=>DoX prog (mFA 44 t95 1) w (pk K) E) w fun t96 w=>
 GDo t92 true (fun E=>DoX prog (mLoad 40 t96) w (pk K) E) w fun t97 w=>
 GDo t92 true (fun E=>DoX prog (mB .len #[40] 3 #[false] #[t97]) w (pk K) E) w fun t98 w=>
 GDo t92 true (fun E=>DoX prog (mEq .eql 3 (.tmp 98) (.const (.int .i64 1)) t98 (.int .i64 1)) w (pk K) E) w fun t99 w=>
 DoX prog (mPick t92 t99 (.bool false)) w (pk K) fun t100 w=>
 GDo t100 true (fun E=>DoX prog (mLoad 26 t6) w (pk K) E) w fun t102 w=>
 GDo t100 true (fun E=>DoX prog (mBuild 26 #[]) w (pk K) E) w fun t103 w=>
 GDo t100 true (fun E=>DoX prog (mEq .eql 26 (.tmp 102) (.tmp 103) t102 t103) w (pk K) E) w fun t104 w=>
 DoX prog (mPick t100 t104 (.bool false)) w (pk K) fun t105 w=>
 GDo t105 true (fun E=>E t26 w) w fun t107 w=>
 GDo t105 true (fun E=>DoX prog (mEq .eql 9 (.tmp 107) (.const (.string ⟨#[66,73,47,87,32,49,32,73,68,10,97,98,10,69,73,10,113,10]⟩)) t107 (.string ⟨#[66,73,47,87,32,49,32,73,68,10,97,98,10,69,73,10,113,10]⟩)) w (pk K) E) w fun t108 w=>
 DoX prog (mPick t105 t108 (.bool false)) w (pk K) fun t109 w=>
 GDo t109 true (fun E=>E t27 w) w fun t111 w=>
 GDo t109 true (fun E=>DoX prog (mEq .eql 24 (.tmp 111) (.const (.int .i64 0)) t111 (.int .i64 0)) w (pk K) E) w fun t112 w=>
 DoX prog (mPick t109 t112 (.bool false)) w (pk K) fun t113 w=>
 GDo t113 true (fun E=>E t34 w) w fun t115 w=>
 GDo t113 true (fun E=>DoX prog (mB .len #[36] 3 #[false] #[t115]) w (pk K) E) w fun t116 w=>
 GDo t113 true (fun E=>DoX prog (mEq .eql 3 (.tmp 116) (.const (.int .i64 2)) t116 (.int .i64 2)) w (pk K) E) w fun t117 w=>
 DoX prog (mPick t113 t117 (.bool false)) w (pk K) fun t118 w=>
 GDo t118 true (fun E=>E t34 w) w fun t120 w=>
 GDo t118 true (fun E=>DoX prog (mIA 36 t120 (.int .i64 0)) w (pk K) E) w fun t121 w=>
 GDo t118 true (fun E=>DoX prog (mLoad 2 t121) w (pk K) E) w fun t122 w=>
 GDo t118 true (fun E=>DoX prog (mEq .eql 2 (.tmp 122) (.const (.int .i64 20000)) t122 (.int .i64 20000)) w (pk K) E) w fun t123 w=>
 DoX prog (mPick t118 t123 (.bool false)) w (pk K) fun t124 w=>
 GDo t124 true (fun E=>E t34 w) w fun t126 w=>
 GDo t124 true (fun E=>DoX prog (mIA 36 t126 (.int .i64 1)) w (pk K) E) w fun t127 w=>
 GDo t124 true (fun E=>DoX prog (mLoad 2 t127) w (pk K) E) w fun t128 w=>
 GDo t124 true (fun E=>DoX prog (mEq .eql 2 (.tmp 128) (.const (.int .i64 5)) t128 (.int .i64 5)) w (pk K) E) w fun t129 w=>
 DoX prog (mPick t124 t129 (.bool false)) w (pk K) fun t130 w=>
 GDo t130 true (fun E=>E t35 w) w fun t132 w=>
 GDo t130 true (fun E=>DoX prog (mEq .eql 24 (.tmp 132) (.const (.int .i64 0)) t132 (.int .i64 0)) w (pk K) E) w fun t133 w=>
 DoX prog (mPick t130 t133 (.bool false)) w (pk K) fun t134 w=>
 GDo t134 true (fun E=>CallX prog 14 #[(.string ⟨#[84,102]⟩)] w (pk K) E) w fun t136 w=>
 GDo t134 true (fun E=>DoX prog (mEq .eql 9 (.tmp 136) (.const (.string ⟨#[78,110]⟩)) t136 (.string ⟨#[78,110]⟩)) w (pk K) E) w fun t137 w=>
 DoX prog (mPick t134 t137 (.bool false)) w (pk K) fun t138 w=>
 GDo t138 true (fun E=>CallX prog 14 #[(.string ⟨#[120]⟩)] w (pk K) E) w fun t140 w=>
 GDo t138 true (fun E=>DoX prog (mEq .eql 9 (.tmp 140) (.const (.string ⟨#[63]⟩)) t140 (.string ⟨#[63]⟩)) w (pk K) E) w fun t141 w=>
 DoX prog (mPick t138 t141 (.bool false)) w (pk K) fun t142 w=>
 GDo t142 true (fun E=>E t13 w) w fun t144 w=>
 GDo t142 true (fun E=>DoX prog (mIA 23 t144 (.int .i64 0)) w (pk K) E) w fun t145 w=>
 GDo t142 true (fun E=>DoX prog (mLoad 44 t145) w (pk K) E) w fun t146 w=>
 GDo t142 true (fun E=>CallX prog 15 #[t146] w (pk K) E) w fun t147 w=>
 GDo t142 true (fun E=>DoX prog (mEq .eql 24 (.tmp 147) (.const (.int .i64 0)) t147 (.int .i64 0)) w (pk K) E) w fun t148 w=>
 DoX prog (mPick t142 t148 (.bool false)) w (pk K) fun t149 w=>
 GDo t149 true (fun E=>E t13 w) w fun t151 w=>
 GDo t149 true (fun E=>DoX prog (mIA 23 t151 (.int .i64 0)) w (pk K) E) w fun t152 w=>
 GDo t149 true (fun E=>DoX prog (mFA 44 t152 1) w (pk K) E) w fun t153 w=>
 GDo t149 true (fun E=>DoX prog (mLoad 40 t153) w (pk K) E) w fun t154 w=>
 GDo t149 true (fun E=>DoX prog (mBuild 44 #[(0,(.string ⟨#[113]⟩)),(1,t154)]) w (pk K) E) w fun t155 w=>
 GDo t149 true (fun E=>CallX prog 15 #[t155] w (pk K) E) w fun t156 w=>
 GDo t149 true (fun E=>DoX prog (mEq .eql 24 (.tmp 156) (.const (.int .i64 28)) t156 (.int .i64 28)) w (pk K) E) w fun t157 w=>
 DoX prog (mPick t149 t157 (.bool false)) w (pk K) fun t158 w=>
 K (.returned t158) w
theorem S_foliantlaw43_lives_eq (w:World)(K:Ending→World→Prop):wpX prog 159 [] [] none (bodyOf Tryz.f7) (topQ prog [.tmp 0] K) (startX []) [] w=S_foliantlaw43_lives w K:=by kernel_rfl
theorem S_foliantlaw43_lives_ok {w:World}{K:Ending→World→Prop}(h:S_foliantlaw43_lives w K):Calls prog 7 #[] w K:=
 calls_of_wpX Tryz.func7 rfl rfl rfl rfl (Eq.mpr (S_foliantlaw43_lives_eq w K) h)
def S_foliantlaw43_OpsJoin (t0 t1:Value)(w:World)(K:Ending→World→Prop):Prop:=
 DoX prog (mB .len #[9] 3 #[false] #[t0]) w (pk K) fun t12 w=>
 DoX prog (mBin .gtr 3 t12 (.int .i64 1500)) w (pk K) fun t13 w=>
 GDo t13 false (fun E=>E t1 w) w fun t15 w=>
 GDo t13 false (fun E=>DoX prog (mB .len #[9] 3 #[false] #[t15]) w (pk K) E) w fun t16 w=>
 GDo t13 false (fun E=>DoX prog (mBin .gtr 3 t16 (.int .i64 1500)) w (pk K) E) w fun t17 w=>
 DoX prog (mPick t13 (.bool true) t17) w (pk K) fun t18 w=>
 IfX t18 (CallX prog 7 #[] w (pk K) fun t19 w=>
 K (.returned t19) w) (CallX prog 8 #[t0] w (pk K) fun t22 w=>
 DoX prog (mExt t22 0) w (pk K) fun t23 w=>
 DoX prog (mExt t22 1) w (pk K) fun t24 w=>
 DoX prog (mAlloc 26) w (pk K) fun t6 w=>
 DoX prog (mStore 26 t6 t24) w (pk K) fun _ w=>
 CallX prog 8 #[t1] w (pk K) fun t27 w=>
 DoX prog (mExt t27 0) w (pk K) fun t28 w=>
 DoX prog (mExt t27 1) w (pk K) fun t29 w=>
 DoX prog (mAlloc 26) w (pk K) fun t8 w=>
 DoX prog (mStore 26 t8 t29) w (pk K) fun _ w=>
 DoX prog (mBin .add 9 t0 (.string ⟨#[10]⟩)) w (pk K) fun t32 w=>
 DoX prog (mBin .add 9 t32 t1) w (pk K) fun t34 w=>
 CallX prog 8 #[t34] w (pk K) fun t35 w=>
 DoX prog (mExt t35 0) w (pk K) fun t36 w=>
 DoX prog (mExt t35 1) w (pk K) fun t37 w=>
 DoX prog (mAlloc 26) w (pk K) fun t10 w=>
 DoX prog (mStore 26 t10 t37) w (pk K) fun _ w=>
 DoX prog (mFA 26 t6 1) w (pk K) fun t38 w=>
 DoX prog (mLoad 24 t38) w (pk K) fun t39 w=>
 DoX prog (mEq .neq 24 (.tmp 39) (.const (.int .i64 0)) t39 (.int .i64 0)) w (pk K) fun t40 w=>
 IfX t40 (DoX prog (mB .len #[23] 3 #[false] #[t23]) w (pk K) fun t42 w=>
 DoX prog (mEq .eql 3 (.tmp 42) (.const (.int .i64 0)) t42 (.int .i64 0)) w (pk K) fun t43 w=>
 GDo t43 true (fun E=>CallX prog 7 #[] w (pk K) E) w fun t45 w=>
 DoX prog (mPick t43 t45 (.bool false)) w (pk K) fun t46 w=>
 K (.returned t46) w) (DoX prog (mFA 26 t8 1) w (pk K) fun t47 w=>
 DoX prog (mLoad 24 t47) w (pk K) fun t48 w=>
 DoX prog (mEq .neq 24 (.tmp 48) (.const (.int .i64 0)) t48 (.int .i64 0)) w (pk K) fun t49 w=>
 IfX t49 (DoX prog (mB .len #[23] 3 #[false] #[t36]) w (pk K) fun t51 w=>
 DoX prog (mEq .eql 3 (.tmp 51) (.const (.int .i64 0)) t51 (.int .i64 0)) w (pk K) fun t52 w=>
 GDo t52 true (fun E=>DoX prog (mFA 26 t10 1) w (pk K) E) w fun t54 w=>
 GDo t52 true (fun E=>DoX prog (mLoad 24 t54) w (pk K) E) w fun t55 w=>
 GDo t52 true (fun E=>DoX prog (mFA 26 t8 1) w (pk K) E) w fun t56 w=>
 GDo t52 true (fun E=>DoX prog (mLoad 24 t56) w (pk K) E) w fun t57 w=>
 GDo t52 true (fun E=>DoX prog (mEq .eql 24 (.tmp 55) (.tmp 57) t55 t57) w (pk K) E) w fun t58 w=>
 DoX prog (mPick t52 t58 (.bool false)) w (pk K) fun t59 w=>
 GDo t59 true (fun E=>DoX prog (mFA 26 t10 0) w (pk K) E) w fun t61 w=>
 GDo t59 true (fun E=>DoX prog (mLoad 3 t61) w (pk K) E) w fun t62 w=>
 GDo t59 true (fun E=>DoX prog (mFA 26 t8 0) w (pk K) E) w fun t63 w=>
 GDo t59 true (fun E=>DoX prog (mLoad 3 t63) w (pk K) E) w fun t64 w=>
 GDo t59 true (fun E=>E t0 w) w fun t65 w=>
 GDo t59 true (fun E=>DoX prog (mB .len #[9] 3 #[false] #[t65]) w (pk K) E) w fun t66 w=>
 GDo t59 true (fun E=>DoX prog (mBin .add 3 t64 t66) w (pk K) E) w fun t67 w=>
 GDo t59 true (fun E=>DoX prog (mBin .add 3 t67 (.int .i64 1)) w (pk K) E) w fun t68 w=>
 GDo t59 true (fun E=>DoX prog (mEq .eql 3 (.tmp 62) (.tmp 68) t62 t68) w (pk K) E) w fun t69 w=>
 DoX prog (mPick t59 t69 (.bool false)) w (pk K) fun t70 w=>
 GDo t70 true (fun E=>CallX prog 7 #[] w (pk K) E) w fun t72 w=>
 DoX prog (mPick t70 t72 (.bool false)) w (pk K) fun t73 w=>
 K (.returned t73) w) (DoX prog (mLoad 26 t10) w (pk K) fun t74 w=>
 DoX prog (mBuild 26 #[]) w (pk K) fun t75 w=>
 DoX prog (mEq .eql 26 (.tmp 74) (.tmp 75) t74 t75) w (pk K) fun t76 w=>
 GDo t76 true (fun E=>E t36 w) w fun t78 w=>
 GDo t76 true (fun E=>DoX prog (mB .len #[23] 3 #[false] #[t78]) w (pk K) E) w fun t79 w=>
 GDo t76 true (fun E=>E t23 w) w fun t80 w=>
 GDo t76 true (fun E=>DoX prog (mB .len #[23] 3 #[false] #[t80]) w (pk K) E) w fun t81 w=>
 GDo t76 true (fun E=>E t28 w) w fun t82 w=>
 GDo t76 true (fun E=>DoX prog (mB .len #[23] 3 #[false] #[t82]) w (pk K) E) w fun t83 w=>
 GDo t76 true (fun E=>DoX prog (mBin .add 3 t81 t83) w (pk K) E) w fun t84 w=>
 GDo t76 true (fun E=>DoX prog (mEq .eql 3 (.tmp 79) (.tmp 84) t79 t84) w (pk K) E) w fun t85 w=>
 DoX prog (mPick t76 t85 (.bool false)) w (pk K) fun t86 w=>
 GDo t86 true (fun E=>E t36 w) w fun t88 w=>
 GDo t86 true (fun E=>E t23 w) w fun t89 w=>
 GDo t86 true (fun E=>DoX prog (mB .len #[23] 3 #[false] #[t89]) w (pk K) E) w fun t90 w=>
 GDo t86 true (fun E=>DoX prog (mSlice 23 t88 none (some t90) none) w (pk K) E) w fun t91 w=>
 GDo t86 true (fun E=>E t23 w) w fun t92 w=>
 GDo t86 true (fun E=>CallX prog 10 #[t91,t92] w (pk K) E) w fun t93 w=>
 DoX prog (mPick t86 t93 (.bool false)) w (pk K) fun t94 w=>
 GDo t94 true (fun E=>E t36 w) w fun t96 w=>
 GDo t94 true (fun E=>E t23 w) w fun t97 w=>
 GDo t94 true (fun E=>DoX prog (mB .len #[23] 3 #[false] #[t97]) w (pk K) E) w fun t98 w=>
 GDo t94 true (fun E=>DoX prog (mSlice 23 t96 (some t98) none none) w (pk K) E) w fun t99 w=>
 GDo t94 true (fun E=>E t28 w) w fun t100 w=>
 GDo t94 true (fun E=>CallX prog 10 #[t99,t100] w (pk K) E) w fun t101 w=>
 DoX prog (mPick t94 t101 (.bool false)) w (pk K) fun t102 w=>
 GDo t102 true (fun E=>CallX prog 7 #[] w (pk K) E) w fun t104 w=>
 DoX prog (mPick t102 t104 (.bool false)) w (pk K) fun t105 w=>
 K (.returned t105) w)))
theorem S_foliantlaw43_OpsJoin_eq (t0 t1:Value)(w:World)(K:Ending→World→Prop):wpX prog 106 [] [] none (bodyOf Tryz.f6) (topQ prog [.tmp 4] K) (startX [t0,t1]) [] w=S_foliantlaw43_OpsJoin t0 t1 w K:=by kernel_rfl
theorem S_foliantlaw43_OpsJoin_ok {t0 t1:Value}{w:World}{K:Ending→World→Prop}(h:S_foliantlaw43_OpsJoin t0 t1 w K):Calls prog 6 #[t0,t1] w K:=
 calls_of_wpX Tryz.func6 rfl rfl rfl rfl (Eq.mpr (S_foliantlaw43_OpsJoin_eq t0 t1 w K) h)
end
section
open Eng Go.RowKit
abbrev smA:List UInt8:=[49,32,48,32,48,32,114,103,32,40,97,41,84,106]
abbrev smB:List UInt8:=[49,32,50]
abbrev smC:List UInt8:=[66,73,32,47,87,32,49,32,73,68,32,97,98,32,69,73,32,113]
abbrev loA:List Cop:=[⟨[114,103],[ob1 2 1 0 [],ob1 2 0 0 [],ob1 2 0 0 []],[]⟩,⟨[84,106],[ob1 4 0 0 [97]],[]⟩]
abbrev loC:List Cop:=[⟨[66,73],[.mk 7 0 0 [] [[87]] [ob1 2 1 0 []]],[97,98]⟩,⟨[113],[],[]⟩]
theorem sm_readA:Cs.read smA=(loA,⟨0,0⟩):=by kernel_rfl
theorem sm_readB:Cs.read smB=([],⟨3,4⟩):=by kernel_rfl
theorem sm_readC:Cs.read smC=(loC,⟨0,0⟩):=by kernel_rfl
theorem sm_textC:Cs.text loC=([66,73,47,87,32,49,32,73,68,10,97,98,10,69,73,10,113,10],0):=by kernel_rfl
theorem sm_takesTf:Cs.takes [84,102]=[78,110]:=by kernel_rfl
theorem sm_takesx:Cs.takes [120]=[63]:=by kernel_rfl
theorem sm_check1:Cs.check ⟨[114,103],[ob1 2 1 0 [],ob1 2 0 0 [],ob1 2 0 0 []],[]⟩=0:=by kernel_rfl
theorem sm_check2:Cs.check ⟨[113],[ob1 2 1 0 [],ob1 2 0 0 [],ob1 2 0 0 []],[]⟩=28:=by kernel_rfl
theorem sm_nums:Cs.numsG [ob1 2 2 0 [],ob1 3 5 0 []] []=([20000,5],0):=by kernel_rfl
section
variable {w:World}{PK:PKT}{S:Nat→Prop}{w0:World}{L:List Ent}
theorem c_opread {s:List UInt8}{M:Mem}{K:Value→VWP}(i:Nat)(ho:OwnS S w0 w L)(hi:L[i]?=some (.mem M))(hs:s.length≤1000000000)
  (k:∀b vl N w',M.le N→OpsV N.A N.w vl (Cs.read s).1→OwnS S w0 w' (fltE b ((Cs.read s).2.at_,(Cs.read s).2.e)::L.set i (.mem N))→K vl (.pointer (some ⟨b,0,none⟩)) w') :
  CallX prog 8 #[.string ⟨s.toArray⟩] w PK fun t w=>DoX prog (mExt t 0) w PK fun t0 w=>DoX prog (mExt t 1) w PK fun t1 w=>
   DoX prog (mAlloc 26) w PK fun p w=>DoX prog (mStore 26 p t1) w PK fun _ w=>K t0 p w:=by
 refine c_mem ho i hi (opRead_ret s M w hs (ho.hasM i hi)) ?_;rintro _ N w1 hle ⟨vl,rfl,hov⟩ ho;simp only[ex];refine o_flt ho fun b w2 ho=>?_;refine flt_put (g:=((Cs.read s).2.at_,(Cs.read s).2.e)) 0 ho rfl fun w3 ho=>?_;exact k b vl N w3 hle hov ho
end
theorem lives43_ret (W:World)(ht:Tb W)(hsp:Sp W):Ret prog 7 #[] W (fun v w'=>v=.bool true∧Below W.heap.size W w'):=by
 refine ret_of fun K hK=>S_foliantlaw43_lives_ok ?_;unfold S_foliantlaw43_lives;have hM:(Mem.all W).has W:=Mem.all_has W;have tb:∀{w:World} {L:List Ent} {N:Mem} (j:Nat),OwnS (Mem.all W).A W w L→L[j]?=some (.mem N)→(Mem.all W).le N→Tb w:=fun j ho hj hle=>ht.mono (ho.toGives j hj hle hM).below;have sp:∀{w:World} {L:List Ent} {N:Mem} (j:Nat),OwnS (Mem.all W).A W w L→L[j]?=some (.mem N)→(Mem.all W).le N→Sp w:=fun j ho hj hle=>hsp.mono (ho.toGives j hj hle hM).below;refine c_opread (s:=smA) 0 (OwnS.memS hM) rfl (by decide) fun b2 vA N1 w1 g1 oA ho=>?_;rw[sm_readA] at oA ho;have ho:OwnS (Mem.all W).A W w1 [fltE b2 (0,0),.mem N1]:=ho;refine c_opread (s:=smB) 1 ho rfl (by decide) fun b4 vB N2 w2 g2 oB ho=>?_;rw[sm_readB] at oB ho;have ho:OwnS (Mem.all W).A W w2 [fltE b4 (3,4),fltE b2 (0,0),.mem N2]:=ho;refine c_opread (s:=smC) 2 ho rfl (by decide) fun b6 vC N3 w3 g3 oC ho=>?_;rw[sm_readC] at oC ho;have ho:OwnS (Mem.all W).A W w3 [fltE b6 (0,0),fltE b4 (3,4),fltE b2 (0,0),.mem N3]:=ho;have g12:=g1.trans (g2.trans g3);have oA:=oA.le (g2.trans g3);obtain⟨cC,sC,pC⟩:=oC;refine c_below ho (R:=fun v=>v=txtV (Cs.text loC)) (opText_ret loC vC cC N3 w3 (tb 3 ho rfl g12) (ho.hasM 3 rfl) sC pC (by decide)) ?_;rintro _ w4 rfl ho;rw[sm_textC];simp only[txtV,ex];have m2:∀{PK:PKT} {K:VWP},DoX prog (mBuild 42 #[(0,(.int .i64 2)),(1,(.int .i64 2))]) w4 PK K=K (obV (ob1 2 2 0 []) nilS nilS) w4:=do_eq (by kernel_rfl);have m3:∀{PK:PKT} {K:VWP},DoX prog (mBuild 42 #[(0,(.int .i64 3)),(1,(.int .i64 5))]) w4 PK K=K (obV (ob1 3 5 0 []) nilS nilS) w4:=do_eq (by kernel_rfl);rw[m2,m3];refine o_new (fun b=>.slice (some ⟨b,0,none⟩) 2 2) (obC (ob1 2 2 0 []) nilS nilS++obC (ob1 3 5 0 []) nilS nilS) 42 (fun _=>by kernel_rfl) ho fun b31 w5 ho=>?_;have mo:∀{PK:PKT} {K:VWP},DoX prog (mBuild 44 #[(1,.slice (some ⟨b31,0,none⟩) 2 2)]) w5 PK K=K (opV ⟨[],[ob1 2 2 0 [],ob1 3 5 0 []],[]⟩ (.slice (some ⟨b31,0,none⟩) 2 2)) w5:=do_eq (by kernel_rfl);rw[mo];have ho:=ho.toU 6 2 2 (by rfl) (by omega) (by omega);obtain⟨N4,g4,hrow,ho⟩:=OwnS.freezeU (L:=[fltE b6 (0,0),fltE b4 (3,4),fltE b2 (0,0),.mem N3]) ho 3 rfl;have ho:OwnS (Mem.all W).A W w5 [fltE b6 (0,0),fltE b4 (3,4),fltE b2 (0,0),.mem N4]:=ho;have hX:OpAt N4.A N4.w ⟨[],[ob1 2 2 0 [],ob1 3 5 0 []],[]⟩ (.slice (some ⟨b31,0,none⟩) 2 2) (obC (ob1 2 2 0 []) nilS nilS++obC (ob1 3 5 0 []) nilS nilS):=⟨hrow,ovs_cons (ov_plain _ _ _ _) (ovs_1 (ov_plain _ _ _ _))⟩;refine c_ret (opnums_ret _ _ _ N4 w5 (ho.hasM 3 rfl) hX (by decide)) ?_;rintro _ w6 ⟨vN,rfl,hn⟩;rw[sm_nums] at hn ⊢;have ho:=ho.join hn;have ho:OwnS (Mem.all W).A W w6 [numE vN [20000,5],fltE b6 (0,0),fltE b4 (3,4),fltE b2 (0,0),.mem N4]:=ho;simp only[ex];have hW6:=ho.hasM 4 rfl;have oA:=oA.le g4;obtain⟨cA,sA,pA⟩:=oA;have sC:=sC.le g4;have pC:=PVs.le g4 pC;obtain⟨va0,ac0,p0,q0,x0,r0⟩:=op_at sA pA (i:=0) (by decide);obtain⟨va1,ac1,p1,q1,x1,r1⟩:=op_at sA pA (i:=1) (by decide);obtain⟨va2,ac2,p2,q2,x2,r2⟩:=op_at sC pC (i:=0) (by decide);obtain⟨xk,xc,p3,q3,x3,r3⟩:=obj_at x1.args x1.all (i:=0) (by decide);have hsN:Sl w6 vN 1 2 [.int .i64 20000,.int .i64 5]:=ho.slU 0 rfl;obtain⟨bN,oN,cN,rfl,hcN⟩:=sl_open hsN (by decide);have lenA:∀{PK:PKT} {K:VWP},DoX prog (mB .len #[23] 3 #[false] #[vA]) w6 PK K=K (.int .i64 2) w6:=sl_len Tryz.underlying23 (sA.now hW6);have lenC:∀{PK:PKT} {K:VWP},DoX prog (mB .len #[23] 3 #[false] #[vC]) w6 PK K=K (.int .i64 2) w6:=sl_len Tryz.underlying23 (sC.now hW6);have iA0:∀{PK:PKT} {K:VWP},DoX prog (mIA 23 vA (.int .i64 0)) w6 PK K=K (.pointer (some ⟨p0,q0,none⟩)) w6:=do_eq (r0 w6 hW6).1;have iA1:∀{PK:PKT} {K:VWP},DoX prog (mIA 23 vA (.int .i64 1)) w6 PK K=K (.pointer (some ⟨p1,q1,none⟩)) w6:=do_eq (r1 w6 hW6).1;have iC0:∀{PK:PKT} {K:VWP},DoX prog (mIA 23 vC (.int .i64 0)) w6 PK K=K (.pointer (some ⟨p2,q2,none⟩)) w6:=do_eq (r2 w6 hW6).1;have iO:∀{PK:PKT} {K:VWP},DoX prog (mIA 40 va1 (.int .i64 0)) w6 PK K=K (.pointer (some ⟨p3,q3,none⟩)) w6:=do_eq (r3 w6 hW6).1;have nA0:∀{PK:PKT} {K:VWP},DoX prog (mLoad 9 (.pointer (some ⟨p0,q0,none⟩))) w6 PK K=K (.string ⟨([114,103]:List UInt8).toArray⟩) w6:=l_cell nStr5 (by have:=(r0 w6 hW6).2 0 _ rfl;rwa [Nat.add_zero] at this);have nA1:∀{PK:PKT} {K:VWP},DoX prog (mLoad 9 (.pointer (some ⟨p1,q1,none⟩))) w6 PK K=K (.string ⟨([84,106]:List UInt8).toArray⟩) w6:=l_cell nStr5 (by have:=(r1 w6 hW6).2 0 _ rfl;rwa [Nat.add_zero] at this);have aA0:∀{PK:PKT} {K:VWP},DoX prog (mLoad 40 (.pointer (some ⟨p0,q0+1,none⟩))) w6 PK K=K (va0) w6:=l_cell nSlOb ((r0 w6 hW6).2 1 _ rfl);have aA1:∀{PK:PKT} {K:VWP},DoX prog (mLoad 40 (.pointer (some ⟨p1,q1+1,none⟩))) w6 PK K=K (va1) w6:=l_cell nSlOb ((r1 w6 hW6).2 1 _ rfl);have aC0:∀{PK:PKT} {K:VWP},DoX prog (mLoad 40 (.pointer (some ⟨p2,q2+1,none⟩))) w6 PK K=K (va2) w6:=l_cell nSlOb ((r2 w6 hW6).2 1 _ rfl);have dC0:∀{PK:PKT} {K:VWP},DoX prog (mLoad 9 (.pointer (some ⟨p2,q2+2,none⟩))) w6 PK K=K (.string ⟨([97,98]:List UInt8).toArray⟩) w6:=l_cell nStr5 ((r2 w6 hW6).2 2 _ rfl);have sO:∀{PK:PKT} {K:VWP},DoX prog (mLoad 9 (.pointer (some ⟨p3,q3+3,none⟩))) w6 PK K=K (.string ⟨([97]:List UInt8).toArray⟩) w6:=l_cell nStr5 ((r3 w6 hW6).2 3 _ rfl);have len0:∀{PK:PKT} {K:VWP},DoX prog (mB .len #[40] 3 #[false] #[va0]) w6 PK K=K (.int .i64 3) w6:=sl_len Tryz.underlying40 (x0.args.now hW6);have len2:∀{PK:PKT} {K:VWP},DoX prog (mB .len #[40] 3 #[false] #[va2]) w6 PK K=K (.int .i64 1) w6:=sl_len Tryz.underlying40 (x2.args.now hW6);have lenN:∀{PK:PKT} {K:VWP},DoX prog (mB .len #[36] 3 #[false] #[.slice (some ⟨bN,oN,none⟩) 2 cN]) w6 PK K=K (.int .i64 2) w6:=sl_len_any Tryz.underlying36;have iN0:∀{PK:PKT} {K:VWP},DoX prog (mIA 36 (.slice (some ⟨bN,oN,none⟩) 2 cN) (.int .i64 0)) w6 PK K=K (.pointer (some ⟨bN,oN+0*1,none⟩)) w6:=do_eq (run_ia (i:=(0:Int)) Tryz.underlying36 (show (Tryz.prog.info? 2).map (·.size)=some 1 by kernel_rfl) (by omega) (by omega));have vN0:∀{PK:PKT} {K:VWP},DoX prog (mLoad 2 (.pointer (some ⟨bN,oN+0*1,none⟩))) w6 PK K=K (.int .i64 20000) w6:=l_cell nI65 (hcN 0 _ rfl);have iN1:∀{PK:PKT} {K:VWP},DoX prog (mIA 36 (.slice (some ⟨bN,oN,none⟩) 2 cN) (.int .i64 1)) w6 PK K=K (.pointer (some ⟨bN,oN+1*1,none⟩)) w6:=do_eq (run_ia (i:=(1:Int)) Tryz.underlying36 (show (Tryz.prog.info? 2).map (·.size)=some 1 by kernel_rfl) (by omega) (by omega));have vN1:∀{PK:PKT} {K:VWP},DoX prog (mLoad 2 (.pointer (some ⟨bN,oN+1*1,none⟩))) w6 PK K=K (.int .i64 5) w6:=l_cell nI65 (hcN 1 _ rfl);have f2:∀{PK:PKT} {K:VWP},DoX prog (mLoad 26 (.pointer (some ⟨b2,0,none⟩))) w6 PK K=K (fltV (0,0)) w6:=l_at (ho.agg 3 rfl aggFlt);have f4:∀{PK:PKT} {K:VWP},DoX prog (mLoad 26 (.pointer (some ⟨b4,0,none⟩))) w6 PK K=K (fltV (3,4)) w6:=l_at (ho.agg 2 rfl aggFlt);have f6:∀{PK:PKT} {K:VWP},DoX prog (mLoad 26 (.pointer (some ⟨b6,0,none⟩))) w6 PK K=K (fltV (0,0)) w6:=l_at (ho.agg 1 rfl aggFlt);simp only[rs,lenA,eq_self,decide_true];simp only[rs,iA0,fa_p0,nA0,eq_self,decide_true];simp only[rs,iA0,fa_p1,aA0,len0,eq_self,decide_true];simp only[rs,iA1,fa_p0,nA1,eq_self,decide_true];simp only[rs,iA1,fa_p1,aA1,iO,fa_o3,sO,eq_self,decide_true];simp only[rs,f2,m_flt0,e_flt,eq_self,decide_true];simp only[rs,f4,m_flt2,e_flt,eq_self,decide_true];simp only[rs,lenC,eq_self,decide_true];simp only[rs,iC0,fa_p2,dC0,eq_self,decide_true];simp only[rs,iC0,fa_p1,aC0,len2,eq_self,decide_true];simp only[rs,f6,m_flt0,e_flt,eq_self,decide_true];simp only[rs,lenN,eq_self,decide_true];simp only[rs,iN0,vN0,eq_self,decide_true];simp only[rs,iN1,vN1,eq_self,decide_true];refine c_below ho (R:=fun v=>v=.string ⟨(Cs.takes [84,102]).toArray⟩) (optakes_ret [84,102] w6 (sp 4 ho rfl (g12.trans g4))) ?_;rintro _ w7 rfl ho;rw[sm_takesTf];simp only[rs,eq_self,decide_true];refine c_below ho (R:=fun v=>v=.string ⟨(Cs.takes [120]).toArray⟩) (optakes_ret [120] w7 (sp 4 ho rfl (g12.trans g4))) ?_;rintro _ w8 rfl ho;rw[sm_takesx];simp only[rs,eq_self,decide_true];have hW8:=ho.hasM 4 rfl;have x0:OpAt N4.A N4.w ⟨[114,103],[ob1 2 1 0 [],ob1 2 0 0 [],ob1 2 0 0 []],[]⟩ va0 ac0:=x0;refine do_eq (r0 w8 hW8).1 |>.mpr (do_eq (run_op (r0 w8 hW8).2) |>.mpr ?_)
 try simp only[rs]
 refine c_below ho (R:=fun v=>v=.int .i64 (Cs.check ⟨[114,103],[ob1 2 1 0 [],ob1 2 0 0 [],ob1 2 0 0 []],[]⟩)) (opcheck_ret _ va0 ac0 N4 w8 (sp 4 ho rfl (g12.trans g4)) hW8 x0) ?_;rintro _ w9 rfl ho;rw[sm_check1];have hW9:=ho.hasM 4 rfl;simp only[rs,eq_self,decide_true];refine do_eq (r0 w9 hW9).1 |>.mpr ?_
 try simp only[rs]
 rw[fa_p1]
 try simp only[rs]
 rw[l_cell nSlOb ((r0 w9 hW9).2 1 _ rfl)]
 try simp only[rs]
 rw[show (Value.string ⟨#[113]⟩)=.string ⟨([113]:List UInt8).toArray⟩ from rfl,run_opa [113] va0 x0.one];have x3:OpAt N4.A N4.w ⟨[113],[ob1 2 1 0 [],ob1 2 0 0 [],ob1 2 0 0 []],[]⟩ va0 ac0:=⟨x0.args,x0.all⟩
 try simp only[rs]
 refine c_below ho (R:=fun v=>v=.int .i64 (Cs.check ⟨[113],[ob1 2 1 0 [],ob1 2 0 0 [],ob1 2 0 0 []],[]⟩)) (opcheck_ret _ va0 ac0 N4 w9 (sp 4 ho rfl (g12.trans g4)) hW9 x3) ?_;rintro _ w10 rfl ho;rw[sm_check2];simp only[rs,eq_self,decide_true];exact hK _ _ ⟨rfl,(ho.toGives 4 rfl (g12.trans g4) hM).below⟩
end
section
open Eng Go.RowKit
theorem subA_block {a:Option Addr}{l cap sz:Nat}{p:Addr}(h:subA a l cap sz=some p):∃q:Addr,a=some q∧q.block=p.block:=by
 unfold subA at h;split at h
 ·exact⟨p,h,rfl⟩
 ·obtain⟨q,hq,rfl⟩:=Option.map_eq_some_iff.1 h;exact⟨q,hq,by unfold Addr.add;split<;>rfl⟩
theorem SlA.upto {A:Nat→Prop}{w:World}{a:Option Addr}{n cap sz i:Nat}{cs:List Value}(h:SlA A w (.slice a n cap) sz n cs)(hi:i≤n):SlA A w (.slice (subA a 0 cap sz) i cap) sz i (cs.take (i*sz)):=by
 refine⟨Sl.upto h.1 hi,fun p l c e hn=>?_,fun a' l c e=>?_⟩
 ·injection e with e _ _
  obtain⟨q,hq,hb⟩:=subA_block e;have:=h.2.1 q n cap (by rw[hq]) (by omega)
  rwa [←hb]
 ·have:=h.2.2 _ _ _ rfl
  injection e with _ e2 e3
  omega
theorem SlA.from {A:Nat→Prop}{w:World}{a:Option Addr}{n cap sz i:Nat}{cs:List Value}(h:SlA A w (.slice a n cap) sz n cs)(hi:i≤n):SlA A w (.slice (subA a i cap sz) (n - i) (cap - i)) sz (n - i) (cs.drop (i*sz)):=by
 have hc:=h.2.2 _ _ _ rfl;refine⟨Sl.from h.1 hi hc,fun p l c e hn=>?_,fun a' l c e=>?_⟩
 ·injection e with e _ _
  obtain⟨q,hq,hb⟩:=subA_block e;have:=h.2.1 q n cap (by rw[hq]) (by omega)
  rwa [←hb]
 ·injection e with _ e2 e3
  omega
theorem PVs.take {A:Nat→Prop}{w:World}:∀{cs:List Value} {l:List Cop} (k:Nat),PVs A w cs l→PVs A w (cs.take (k*3)) (l.take k)
|_,_,k,.nil=>by rw[List.take_nil,List.take_nil];exact .nil
|_,_,0,.cons h t=>by rw[Nat.zero_mul,List.take_zero,List.take_zero];exact .nil
|_,_,k+1,.cons h t=>by
  have hl:=opR_len _ _ h;rw[List.take_succ_cons,List.take_append,List.take_of_length_le (by omega),hl,show (k+1)*3 - 3=k*3 by omega];exact .cons h (PVs.take k t)
theorem PVs.drop {A:Nat→Prop}{w:World}:∀{cs:List Value} {l:List Cop} (k:Nat),PVs A w cs l→PVs A w (cs.drop (k*3)) (l.drop k)
|_,_,k,.nil=>by rw[List.drop_nil,List.drop_nil];exact .nil
|_,_,0,.cons h t=>by rw[Nat.zero_mul,List.drop_zero,List.drop_zero];exact .cons h t
|_,_,k+1,.cons h t=>by
  have hl:=opR_len _ _ h;rw[List.drop_succ_cons,List.drop_append,List.drop_of_length_le (by omega),hl,show (k+1)*3 - 3=k*3 by omega,List.nil_append];exact PVs.drop k t
theorem Cs.eqs_refl (l:List Cop):Cs.eqs l l=true:=(Cs.eqs_iff l l).2 rfl
section
variable {W:World}{K:Ending→World→Prop}
theorem lives_tail (ht:Tb W)(hsp:Sp W)(hK:∀(v:Value) (w':World),v=.bool true∧Below W.heap.size W w'→K (.returned v) w'){w:World}{N:Mem}{L:List Ent}(ho:OwnS (Mem.all W).A W w (L++([.mem N]++[])))(hle:(Mem.all W).le N):CallX prog 7 #[] w (pk K) fun t w=>K (.returned t) w:=by
 have ho:=ho.front;refine c_below ho (R:=fun v=>v=.bool true) (lives43_ret w (ht.mono (ho.toGives 0 rfl hle (Mem.all_has W)).below) (hsp.mono (ho.toGives 0 rfl hle (Mem.all_has W)).below)) ?_;rintro _ w2 rfl ho;exact hK _ _ ⟨rfl,(ho.toGives 0 rfl hle (Mem.all_has W)).below⟩
end
theorem opsJoin_ret (s r:List UInt8)(W:World)(ht:Tb W)(hsp:Sp W):Ret prog 6 #[.string ⟨s.toArray⟩,.string ⟨r.toArray⟩] W (fun v w'=>v=.bool true∧Below W.heap.size W w'):=by
 refine ret_of fun K hK=>S_foliantlaw43_OpsJoin_ok ?_;unfold S_foliantlaw43_OpsJoin;have hM:(Mem.all W).has W:=Mem.all_has W;rw[s_len Tryz.underlying9];simp only[rs];by_cases h1:(1500:Int) < (s.length:Int)
 ·simp only[decide_eq_true h1,rs,g_un];exact lives_tail ht hsp hK (L:=[]) (OwnS.memS hM) (Mem.all W).le_refl
 simp only[decide_eq_false h1,rs,s_len Tryz.underlying9];by_cases h2:(1500:Int) < (r.length:Int)
 ·simp only[decide_eq_true h2,rs];exact lives_tail ht hsp hK (L:=[]) (OwnS.memS hM) (Mem.all W).le_refl
 simp only[decide_eq_false h2,rs];refine c_opread (s:=s) 0 (OwnS.memS hM) rfl (by omega) fun b6 vA N1 w1 g1 oA ho=>?_;refine c_opread (s:=r) 1 ho rfl (by omega) fun b8 vB N2 w2 g2 oB ho=>?_;rw[show (Value.string ⟨#[10]⟩)=.string ⟨([10]:List UInt8).toArray⟩ from rfl,s_add (by simp;omega),s_add (by simp;omega)];have e0:s++[10]++r=s++10::r:=by simp
 rw[e0];have hlen:(s++10::r).length=s.length+1+r.length:=by simp only[List.length_append,List.length_cons];omega
 refine c_opread (s:=s++10::r) 2 ho rfl (by omega) fun b10 vC N3 w3 g3 oC ho=>?_;have ho:OwnS (Mem.all W).A W w3 [fltE b10 ((Cs.read (s++10::r)).2.at_,(Cs.read (s++10::r)).2.e),fltE b8 ((Cs.read r).2.at_,(Cs.read r).2.e),fltE b6 ((Cs.read s).2.at_,(Cs.read s).2.e),.mem N3]:=ho;have g13:=g1.trans (g2.trans g3);have hws:=Cs.read_wt s;have hwr:=Cs.read_wt r;obtain⟨cA,sA,pA⟩:=oA.le (g2.trans g3);obtain⟨cB,sB,pB⟩:=oB.le g3;obtain⟨cC,sC,pC⟩:=oC;rw[fa_f1,l_cell nErr5 (ho.cell 2 rfl 1 rfl)];simp only[rs];by_cases he:(Cs.read s).2.e=0
 case neg=>
  simp only[ne_eq,he,not_false_eq_true,decide_true,i_t];rw[sl_len Tryz.underlying23 (sA.now (ho.hasM 3 rfl)),Cs.read_err he,show (([]:List Cop).length:Int)=0 from rfl];simp only[rs,eq_self,decide_true];exact lives_tail ht hsp hK (L:=[_,_,_]) ho g13
 have hj:=Cs.read_join (r:=r) he (by omega);simp only[ne_eq,he,not_true,decide_false,i_f];rw[fa_f1,l_cell nErr5 (ho.cell 1 rfl 1 rfl)];simp only[rs];by_cases he2:(Cs.read r).2.e=0
 case neg=>
  simp only[ne_eq,he2,not_false_eq_true,decide_true,i_t];obtain⟨q1,q2⟩:=Cs.read_in r;have e1:(Cs.read (s++10::r)).1=[]:=by rw[hj,if_neg he2]
  have e2:(Cs.read (s++10::r)).2.e=(Cs.read r).2.e:=by rw[hj];simp[Cs.shF,he2]
  have e3:(Cs.read (s++10::r)).2.at_=(Cs.read r).2.at_+s.length+1:=by rw[hj];simp only[Cs.shF,if_neg he2];omega
  rw[sl_len Tryz.underlying23 (sC.now (ho.hasM 3 rfl)),e1,show (([]:List Cop).length:Int)=0 from rfl];simp only[rs,eq_self,decide_true];rw[fa_f1,l_cell nErr5 (ho.cell 0 rfl 1 rfl)];simp only[rs];rw[fa_f1,l_cell nErr5 (ho.cell 1 rfl 1 rfl)];simp only[rs,e2,eq_self,decide_true];rw[fa_f0,l_cell nInt5 (ho.cell 0 rfl 0 rfl)];simp only[rs];rw[fa_f0,l_cell nInt5 (ho.cell 1 rfl 0 rfl),s_len Tryz.underlying9];simp only[rs];rw[wrap64_id (show -9223372036854775808≤(Cs.read r).2.at_+(s.length:Int) by omega) (show (Cs.read r).2.at_+(s.length:Int)≤9223372036854775807 by omega),wrap64_id (by omega) (by omega),e3];simp only[rs,eq_self,decide_true];exact lives_tail ht hsp hK (L:=[_,_,_]) ho g13
 simp only[ne_eq,he2,not_true,decide_false,i_f];have e3:Cs.read (s++10::r)=((Cs.read s).1++(Cs.read r).1,Cs.ok):=by rw[hj,if_pos he2];unfold Cs.shF;rw[if_pos he2,Cs.read_ok he2]
 rw[e3] at sC pC ho;have ho:OwnS (Mem.all W).A W w3 [fltE b10 (0,0),fltE b8 ((Cs.read r).2.at_,(Cs.read r).2.e),fltE b6 ((Cs.read s).2.at_,(Cs.read s).2.e),.mem N3]:=ho;rw[l_at (ho.agg 0 rfl aggFlt),m_flt0];refine (e_flt (x:=(0,0)) (y:=(0,0))).mpr ?_;simp only[rs,eq_self,decide_true];generalize (Cs.read s).1=l1 at *;generalize (Cs.read r).1=l2 at *;have hl1:=Cs.wts_len l1;have hl2:=Cs.wts_len l2;have sC:SlA N3.A N3.w vC 3 (l1++l2).length cC:=sC;have pC:PVs N3.A N3.w cC (l1++l2):=pC;obtain⟨aC,cap,rfl,hcap⟩:=sC.form;have hla:(l1++l2).length=l1.length+l2.length:=List.length_append;rw[sl_len Tryz.underlying23 (sC.now (ho.hasM 3 rfl))]
 try simp only[rs]
 rw[sl_len Tryz.underlying23 (sA.now (ho.hasM 3 rfl))]
 try simp only[rs]
 rw[sl_len Tryz.underlying23 (sB.now (ho.hasM 3 rfl))]
 try simp only[rs]
 rw[wrap64_id (by omega) (by omega)];have hd:((l1++l2).length:Int)=(l1.length:Int)+(l2.length:Int):=by rw[hla];omega
 simp only[decide_eq_true hd,rs];rw[sl_len Tryz.underlying23 (sA.now (ho.hasM 3 rfl))]
 try simp only[rs]
 refine do_eq (run_sl_h Tryz.underlying23 szOp (by omega) (by omega)) |>.mpr ?_;rw[Int.toNat_natCast]
 try simp only[rs]
 have sU:=sC.upto (i:=l1.length) (by omega);have pU:=PVs.take l1.length pC;rw[List.take_left] at pU;refine c_below ho (R:=fun v=>v=.bool (Cs.eqs l1 l1)) (rsame43_ret l1 l1 _ vA _ cA N3 w3 (ho.hasM 3 rfl) sU pU sA pA (by omega)) ?_;rintro _ w4 rfl ho;rw[Cs.eqs_refl]
 try simp only[rs]
 rw[sl_len Tryz.underlying23 (sA.now (ho.hasM 3 rfl))]
 try simp only[rs]
 refine do_eq (run_sl_l Tryz.underlying23 szOp (by omega) (by omega)) |>.mpr ?_;rw[Int.toNat_natCast]
 try simp only[rs]
 have sD:=sC.from (i:=l1.length) (by omega)
 have pD:=PVs.drop l1.length pC;rw[List.drop_left] at pD;have e4:(l1++l2).length - l1.length=l2.length:=by omega
 rw[e4] at sD ⊢;refine c_below ho (R:=fun v=>v=.bool (Cs.eqs l2 l2)) (rsame43_ret l2 l2 _ vB _ cB N3 w4 (ho.hasM 3 rfl) sD pD sB pB (by omega)) ?_;rintro _ w5 rfl ho;rw[Cs.eqs_refl]
 try simp only[rs]
 exact lives_tail ht hsp hK (L:=[_,_,_]) ho g13
end
end Go.Proofs.YtoofficgclghoaaGreatDoor

