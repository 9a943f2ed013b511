/- Texts that go together: MkE MkF EngZ MkG Plain19 KdA DcA SDocs SRef19 DcB DcC SSlcI SlcI DcD DcE DcF Plain19B DcG EngAC PsB PsC Plain07B Plain38 SLabel SRef38 SCut LbA LbB LbC LbD LbE DcH SLaw07 ObP ObQ ObR STexts OcTx SSame SApart Plain07C ObS0 ObT DcI LbF Plain38B Plain38C Plain38D Plain38E Plain06B Plain06C Plain06D Plain06E PsD PsE PsF SMake6 PsG PsH PsI PsJ Plain06F EngAA PsK PsL PsM Plain18 STable TbA Plain08 Plain18B Plain18C Plain08B. -/
import Derived.Test.YtkejpieaafeblaaGreatDoorRows
import Derived.Lib.Overlaps
import Derived.Laws.Externs
import Derived.Lib.Repeat
import Derived.Lib.Case
import Derived.Maps.RangeRun
import Derived.Test.YtkejpieaafeblaaGreatDoorMbcfnphka
import Derived.Test.YtkejpieaafeblaaGreatDoorMenaffjmi
import Derived.Test.YtkejpieaafeblaaGreatDoorMikppdddp
import Derived.Test.YtkejpieaafeblaaGreatDoorMggklajfp
set_option linter.defProp false
set_option linter.unusedSimpArgs false
set_option linter.unusedVariables false
set_option maxRecDepth 20000
open Go.Proofs.Tryz (prog)
namespace Go.Proofs.YtkejpieaafeblaaGreatDoor
section
open Eng Go.RowKit
theorem vwithout_ret (o:Ob)(v:Value)(i:Nat)(M:Mem)(w:World)(hw:o.wt≤10000000000)(hM:M.has w)(hv:OV M.A M.w v o)(hi:i < o.keys.length)(hlen:o.keys.length=o.kids.length) :
  RetM prog 131 #[v,.int .i64 (i:Int)] M w (fun r N=>OV N.A N.w r (.mk o.k o.n o.g o.s (o.keys.take i++o.keys.drop (i+1)) (o.kids.take i++o.kids.drop (i+1)))):=by
 obtain⟨vk,vc,cs,rfl,ha⟩:=hv.open;have hww:Ob.wts o.kids≤10000000000:=by cases o;rw[Ob.wt] at hw;simp only[Ob.kids];omega
 have hkt:Pl.tot o.keys≤10000000000:=by cases o;rw[Ob.wt] at hw;simp only[Ob.keys];omega
 have hkl:=Pl.length_tot o.keys;have hlk:=Ob.len_wts o.kids;refine retM_of hM fun K hK=>S_value_without_ok ?_;unfold S_value_without;refine o_obb o ha.keys.one ha.kids.one (OwnS.memS hM) fun b2 w1 ho=>?_;refine o_oba ho fun b4 w2 ho=>?_;rw[fa_o4,ob_keys ho 1 rfl];refine c_ret (sclone_s_ret vk _ _ w2 (ha.keys.now (ho.hasM 2 rfl)) strsV_one5 (by omega)) fun vk1 w3 hnew=>?_;have ho:=ho.join hnew;have ho:OwnS M.A w w3 [.urow 9 1 vk1 o.keys.length (strsV o.keys),obE b4 ob0 nilS nilS,obE b2 o vk vc,.mem M]:=ho;simp only[rs];rw[wrap64_id (by omega) (by omega),show (i:Int)+1=((i+1:Nat):Int) by omega];refine c_turn 0 ho rfl (sdelete_s_ret vk1 o.keys.length (strsV o.keys) i w3 (ho.at_ 0 rfl) strsV_one5 hi (by omega)) ?_;rintro kv e' w4 rfl ho;have ho:OwnS M.A w w4 [.urow 9 1 kv (o.keys.length - 1) ((strsV o.keys).take (i*1)++(strsV o.keys).drop ((i+1)*1)),obE b4 ob0 nilS nilS,obE b2 o vk vc,.mem M]:=ho;rw[strsV_take,strsV_drop] at ho;rw[fa_o4];have hk1:=urow_one (ho.at_ 0 rfl);refine o_store 2 ho rfl (by kernel_rfl) hk1 (show 0+4 < 6 by omega) fun w5 ho=>?_;have ho:OwnS M.A w w5 [.urow 9 1 kv (o.keys.length - 1) (strsV (o.keys.take i)++strsV (o.keys.drop (i+1))),obE b4 ob0 nilS nilS,obE b2 o kv vc,.mem M]:=ho;rw[fa_o5,ob_kids ho 2 rfl];refine c_ret (sclone_o_ret vc _ _ w5 (ha.kids.now (ho.hasM 3 rfl)) (ovs_one ha.all) (by omega)) fun vc1 w6 hnew=>?_;have ho:=ho.join hnew;have ho:OwnS M.A w w6 [.urow 25 6 vc1 o.kids.length cs,.urow 9 1 kv (o.keys.length - 1) (strsV (o.keys.take i)++strsV (o.keys.drop (i+1))),obE b4 ob0 nilS nilS,obE b2 o kv vc,.mem M]:=ho;refine c_turn 0 ho rfl (sdelete_o_ret vc1 o.kids.length cs i w6 (ho.at_ 0 rfl) (ovs_one ha.all) (by omega) (by omega)) ?_;rintro cv e' w7 rfl ho;have ho:OwnS M.A w w7 [.urow 25 6 cv (o.kids.length - 1) (cs.take (i*6)++cs.drop ((i+1)*6)),.urow 9 1 kv (o.keys.length - 1) (strsV (o.keys.take i)++strsV (o.keys.drop (i+1))),obE b4 ob0 nilS nilS,obE b2 o kv vc,.mem M]:=ho;have hc1:=urow_one (ho.at_ 0 rfl);rw[fa_o5];refine o_store 3 ho rfl (by kernel_rfl) hc1 (show 0+5 < 6 by omega) fun w8 ho=>?_;have ho:OwnS M.A w w8 [.urow 25 6 cv (o.kids.length - 1) (cs.take (i*6)++cs.drop ((i+1)*6)),.urow 9 1 kv (o.keys.length - 1) (strsV (o.keys.take i)++strsV (o.keys.drop (i+1))),obE b4 ob0 nilS nilS,obE b2 o kv cv,.mem M]:=ho;obtain⟨N,hle,hrow,ho⟩:=OwnS.freezeU (L:=[.urow 9 1 kv (o.keys.length - 1) (strsV (o.keys.take i)++strsV (o.keys.drop (i+1))),obE b4 ob0 nilS nilS,obE b2 o kv cv,.mem M]) ho 3 rfl;obtain⟨N2,hle2,hrow2,ho⟩:=OwnS.freezeU (L:=[obE b4 ob0 nilS nilS,obE b2 o kv cv,.mem N]) ho 2 rfl;have ho:OwnS M.A w w8 [obE b4 ob0 nilS nilS,obE b2 o kv cv,.mem N2]:=ho;rw[ob_v ho 1 rfl];refine ob_put 0 hk1 hc1 ho rfl fun w9 ho=>?_;refine ret_v1 (rv_cell (ho.agg 0 rfl aggOb)) (hK _ _ N2 _ 2 ho rfl (hle.trans hle2) ?_);have el1:(o.keys.take i++o.keys.drop (i+1)).length=o.keys.length - 1:=by simp;omega
 have el2:(o.kids.take i++o.kids.drop (i+1)).length=o.kids.length - 1:=by simp;omega
 refine ObAt.ov (o:=.mk o.k o.n o.g o.s (o.keys.take i++o.keys.drop (i+1)) (o.kids.take i++o.kids.drop (i+1))) (vk:=kv) (vc:=cv) (cs:=cs.take (i*6)++cs.drop ((i+1)*6)) ⟨?_,?_,?_⟩
 ·show SlA N2.A N2.w kv 1 (o.keys.take i++o.keys.drop (i+1)).length (strsV (o.keys.take i++o.keys.drop (i+1)));rw[el1,strsV_app];exact hrow2
 ·show SlA N2.A N2.w cv 6 (o.kids.take i++o.kids.drop (i+1)).length _;rw[el2];exact hrow.le hle2
 ·exact (ovs_app (ovs_take i ha.all) (ovs_drop (i+1) ha.all)).le (hle.trans hle2)
def Vl.drop (o:Ob)(key:List UInt8):Ob:=if Vl.keyed o=true∧Vl.check 1 o=0 then Vl.without o key else o
theorem vdrop_ret (o:Ob)(v:Value)(key:List UInt8)(M:Mem)(w:World)(hw:o.wt≤10000000000)(hM:M.has w)(hv:OV M.A M.w v o) :
  RetM prog 86 #[v,.string ⟨key.toArray⟩] M w (fun r N=>OV N.A N.w r (Vl.drop o key)):=by
 obtain⟨vk,vc,cs,rfl,ha⟩:=hv.open;have hkt:Pl.tot o.keys≤10000000000:=by cases o;rw[Ob.wt] at hw;simp only[Ob.keys];omega
 have hkl:=Pl.length_tot o.keys;refine retM_of hM fun K hK=>S_value_Drop_ok ?_;unfold S_value_Drop;refine o_obb o ha.keys.one ha.kids.one (OwnS.memS hM) fun b2 w1 ho=>?_;refine o_oba ho fun b4 w2 ho=>?_;refine join fun J hJ=>?_;have fin:∀(W:World) (N:Mem) (p:Ob) (kv cv:Value),OwnS M.A w W [obE b4 ob0 nilS nilS,obE b2 p kv cv,.mem N]→M.le N→OV N.A N.w (obV p kv cv) p→p=Vl.drop o key→p.wt≤10000000000→J [] W:=by
  intro W N p kv cv ho hle hp he hpw;refine hJ _ _ fun _=>?_;unfold S_value_Drop_0;rw[ob_v ho 1 rfl];refine c_mem ho 2 rfl (clone_ret p _ N W (by omega) (ho.hasM 2 rfl) hp) fun y N2 w4 hle2 hy ho=>?_;obtain⟨yk,yc,ycs,rfl,hya⟩:=hy.open;refine ob_put 0 hya.keys.one hya.kids.one ho rfl fun w5 ho=>?_;exact ret_v1 (rv_cell (ho.agg 0 rfl aggOb)) (hK _ _ N2 _ 2 ho rfl (hle.trans hle2) (he▸hy))
 rw[ob_v ho 1 rfl];refine c_below ho (R:=fun v=>v=.bool (Vl.keyed o)) (keyed_ret o ha.keys.one ha.kids.one w2) ?_;rintro _ w3 rfl ho;cases hkd:Vl.keyed o with
|false=>
  simp only[rs,g_un];exact fin w3 M o vk vc ho M.le_refl hv (by unfold Vl.drop;rw[if_neg (by simp[hkd])]) hw
|true=>
  simp only[rs];rw[ob_v ho 1 rfl];refine c_below ho (R:=fun v=>v=.int .i64 (Vl.check 1 o)) (vCheck_ret o _ w3 (OV.inw (ho.hasM 2 rfl) hv) (by omega)) ?_;rintro _ w4 rfl ho;simp only[rs];by_cases hc:Vl.check 1 o=0
  ·simp only[hc,decide_true,rs];obtain⟨hr,hlen⟩:=Vl.valid_keys hc hkd;rw[fa_o4,ob_keys ho 1 rfl];refine c_eq (bsearch_ret vk o.keys key w4 (ha.keys.now (ho.hasM 2 rfl)) hr (by omega)) ?_;simp only[ex];have hdr:=Vl.dropK_rise hc hkd key;have hdd:Vl.drop o key=Vl.without o key:=by unfold Vl.drop;rw[if_pos ⟨hkd,hc⟩]
   cases hh:Vl.hit o.keys key with
  |true=>
    simp only[i_t];rw[hh,if_pos rfl] at hdr;have hi:o.keys[Vl.place o.keys key]?=some key:=of_decide_eq_true hh;have hlt:Vl.place o.keys key < o.keys.length:=(List.getElem?_eq_some_iff.1 hi).1;rw[ob_v ho 1 rfl];refine c_mem ho 2 rfl (vwithout_ret o _ _ M w4 hw (ho.hasM 2 rfl) hv hlt hlen) fun y N w5 hle hy ho=>?_;rw[←hdr] at hy;obtain⟨yk,yc,ycs,rfl,hya⟩:=hy.open;refine ob_put 1 hya.keys.one hya.kids.one ho rfl fun w6 ho=>?_;exact fin w6 N _ yk yc ho hle hy hdd.symm (Nat.le_trans (Vl.without_wt o key) hw)
  |false=>
    simp only[i_f];rw[hh] at hdr;exact fin w4 M o vk vc ho M.le_refl hv (by rw[hdd,hdr];rfl) hw
  ·simp only[hc,decide_false,rs];exact fin w4 M o vk vc ho M.le_refl hv (by unfold Vl.drop;rw[if_neg (by simp[hc])]) hw
theorem vset_ret (o x:Ob)(v u:Value)(key:List UInt8)(M:Mem)(w:World)(hw:o.wt≤10000000000)(hwx:x.wt≤10000000000)(hwk:key.length≤10000000000)(hM:M.has w)(hv:OV M.A M.w v o)(hu:OV M.A M.w u x) :
  RetM prog 48 #[v,.string ⟨key.toArray⟩,u] M w (fun r N=>∃v',r=errV v' (Vl.set o key x).2∧OV N.A N.w v' (Vl.set o key x).1):=by
 obtain⟨vk,vc,cs,rfl,ha⟩:=hv.open;obtain⟨xk,xc,xcs,rfl,hx⟩:=hu.open;refine retM_of hM fun K hK=>S_value_Set_ok ?_;unfold S_value_Set;refine o_obb o ha.keys.one ha.kids.one (OwnS.memS hM) fun b3 w1 ho=>?_;refine o_obb x hx.keys.one hx.kids.one ho fun b5 w2 ho=>?_;refine o_oba ho fun b6 w3 ho=>?_;rw[ob_v ho 2 rfl];refine c_below ho (R:=fun v=>v=.bool (Vl.keyed o)) (keyed_ret o ha.keys.one ha.kids.one w3) ?_;rintro _ w4 rfl ho;cases hkd:Vl.keyed o with
|false=>
  simp only[rs,Bool.not_false];rw[m_ob0];refine ob_put 0 rfl rfl ho rfl fun w5 ho=>?_;refine ret_ob2 0 ho rfl (hK _ _ M _ 3 ho rfl M.le_refl ⟨obV Vl.ob0 nilS nilS,?_,?_⟩)
  ·simp[Vl.set,hkd,errV]
  ·simpa[Vl.set,hkd] using ob0_ov M
|true=>
  simp only[rs,Bool.not_true];rw[ob_v ho 2 rfl];refine c_below ho (R:=fun v=>v=.int .i64 (Vl.check 1 o)) (vCheck_ret o _ w4 (OV.inw (ho.hasM 3 rfl) hv) (by omega)) ?_;rintro _ w5 rfl ho;simp only[n_err];by_cases hc:Vl.check 1 o=0
  ·simp only[hc,ne_eq,not_true,decide_false,i_f];rw[fa_o0,ob_k ho 1 rfl];simp only[rs];by_cases h0:x.k=0
   ·simp only[h0,decide_true,i_t];rw[ob_v ho 2 rfl];refine c_mem ho 3 rfl (vdrop_ret o _ key M w5 hw (ho.hasM 3 rfl) hv) fun y N w6 hle hy ho=>?_;obtain⟨yk,yc,ycs,rfl,hya⟩:=hy.open;refine ob_put 0 hya.keys.one hya.kids.one ho rfl fun w7 ho=>?_;have e:Vl.set o key x=(Vl.drop o key,0):=by simp[Vl.set,hkd,hc,h0,Vl.drop]
    refine ret_ob2 0 ho rfl (hK _ _ N _ 3 ho rfl hle ⟨obV (Vl.drop o key) yk yc,?_,?_⟩)
    ·rw[e];rfl
    ·rw[e];exact hy
   ·simp only[h0,decide_false,i_f];rw[ob_v ho 2 rfl,ob_v ho 1 rfl];obtain⟨hr,hlen⟩:=Vl.valid_keys hc hkd;have hpw:=Vl.put_wt o key x;refine c_mem ho 3 rfl (with_ret o x _ _ key M w5 hw (ho.hasM 3 rfl) hv hu hr hlen) fun y N w6 hle hy ho=>?_;refine c_mem ho 3 rfl (clone_ret _ _ N w6 (by omega) (ho.hasM 3 rfl) hy) fun z N2 w7 hle2 hz ho=>?_;refine c_mem ho 3 rfl (sound_ret _ _ N2 w7 (by omega) (ho.hasM 3 rfl) hz) ?_;rintro _ N3 w8 hle3 ⟨t,rfl,ht⟩ ho;obtain⟨tk,tc,tcs,rfl,hta⟩:=ht.open;simp only[errV,ex];refine ob_put 0 hta.keys.one hta.kids.one ho rfl fun w9 ho=>?_;have e:Vl.set o key x=Vl.right (Vl.put o key x):=by simp[Vl.set,hkd,hc,h0]
    refine ret_ob2 0 ho rfl (hK _ _ N3 _ 3 ho rfl (hle.trans (hle2.trans hle3)) ⟨obV (Vl.right (Vl.put o key x)).1 tk tc,?_,?_⟩)
    ·rw[e];rfl
    ·rw[e];exact ht
  ·simp only[hc,ne_eq,not_false_eq_true,decide_true,i_t];rw[m_ob0];refine ob_put 0 rfl rfl ho rfl fun w6 ho=>?_;refine ret_ob2 0 ho rfl (hK _ _ M _ 3 ho rfl M.le_refl ⟨obV Vl.ob0 nilS nilS,?_,?_⟩)
   ·simp[Vl.set,hkd,hc,errV]
   ·simpa[Vl.set,hkd,hc] using ob0_ov M
end
section
open Eng Go.RowKit
theorem elStr:elB prog 9 1 16=true:=by kernel_rfl
theorem elOb:elB prog 25 6 88=true:=by kernel_rfl
theorem szStr:(Tryz.prog.info? 9).map (·.size)=some 1:=by kernel_rfl
section
variable {w:World}{S:Nat→Prop}{w0:World}{L:List Ent}{PK:PKT}{K:VWP}
theorem o_apS (i:Nat){v v2:Value}{n m:Nat}{xs news:List Value}{cb:Array Bool}(ho:OwnS S w0 w L)(hi:L[i]?=some (.urow 9 1 v n xs))(hs:Sl w v2 1 m news)(h1:∀u∈news,u.oneCell'=true)(hb:n+m≤1000000000000)
  (k:∀v' w',OwnS S w0 w' (L.set i (.urow 9 1 v' (n+m) (xs++news)))→K v' w'):DoX prog (mB .append #[22,22] 22 cb #[v,v2]) w PK K:=
 o_appendU i Tryz.underlying22 elStr (by decide) ho hi hs h1 (by omega) (by omega) k
theorem o_apO (i:Nat){v v2:Value}{n m:Nat}{xs news:List Value}{cb:Array Bool}(ho:OwnS S w0 w L)(hi:L[i]?=some (.urow 25 6 v n xs))(hs:Sl w v2 6 m news)(h1:∀u∈news,u.oneCell'=true)(hb:n+m≤1000000000000)
  (k:∀v' w',OwnS S w0 w' (L.set i (.urow 25 6 v' (n+m) (xs++news)))→K v' w'):DoX prog (mB .append #[23,23] 23 cb #[v,v2]) w PK K:=
 o_appendU i Tryz.underlying23 elOb (by decide) ho hi hs h1 (by omega) (by omega) k
end
end
section
namespace Eng
open Go.RowKit
def strK (k:List UInt8):Value:=.string ⟨k.toArray⟩
def MapIs (w:World)(b:Nat)(al:List (List UInt8×Value)):Prop:=∃es clock,w.heap[b]?=some (.map es clock)∧es.toList.map (fun e=>(e.key,e.val))=al.map fun p=>(strK p.1,p.2)
def lookA (al:List (List UInt8×Value))(k:List UInt8):Option Value:=(al.find? fun p=>decide (p.1=k)).map (·.2)
theorem findNow_str (k:List UInt8):∀(es:List MapEntry) (al:List (List UInt8×Value)) (i:Nat),es.map (fun e=>(e.key,e.val))=al.map (fun p=>(strK p.1,p.2)) →
  ∃r,Instr.findNow .string (strK k) es i=some r∧r.map (·.2)=lookA al k
|[],[],i,_=>⟨none,rfl,rfl⟩
|e::es,p::al,i,h=>by
  simp only[List.map_cons,List.cons.injEq,Prod.mk.injEq] at h;obtain⟨⟨h1,h2⟩,h3⟩:=h;have hs:Instr.sameNow .string (strK k) e.key=some (decide (k=p.1)):=by
   rw[h1];show some ((⟨k.toArray⟩:ByteArray)==⟨p.1.toArray⟩)=_
   congr 1
   show (k.toArray==p.1.toArray)=_;by_cases hk:k=p.1<;>simp[hk]
  by_cases hk:k=p.1
  ·refine⟨some (i,e.val),?_,?_⟩
   ·rw[Instr.findNow,hs];simp[hk]
   ·simp[lookA,hk,h2]
  ·obtain⟨r,hr1,hr2⟩:=findNow_str k es al (i+1) h3;refine⟨r,?_,?_⟩
   ·rw[Instr.findNow,hs];simp[hk,hr1]
   ·have hk':¬p.1=k:=fun e=>hk e.symm;rw[hr2];simp[lookA,hk']
|[],_::_,_,h=>by simp at h
|_::_,[],_,h=>by simp at h
section
variable {S:Nat→Prop}{P:Program}{w w0:World}{L:List Ent}{PK:PKT}{K:VWP}
theorem run_checkStr {k:TypeId}{e:Bool}(hk:P.underlying k=some .string)(x:List UInt8):(Instr.checkKey e 10000 k (strK x)).run P w=.ok () w:=by
 show (Instr.checkKey e (9999+1) k (strK x)).run P w=_;rw[Instr.checkKey];simp[run_underlying hk,strK]
theorem run_findStr {k:TypeId}(hk:P.underlying k=some .string)(x:List UInt8){es:List MapEntry}{al:List (List UInt8×Value)}(h:es.map (fun e=>(e.key,e.val))=al.map (fun p=>(strK p.1,p.2))) :
  ∃r,(Instr.findKey k (strK x) es).run P w=.ok r w∧r.map (·.2)=lookA al x:=by
 obtain⟨r,h1,h2⟩:=findNow_str x es al 0 h;refine⟨r,?_,h2⟩;simp[Instr.findKey,run_underlying hk,h1]
theorem run_look {T k e:TypeId}{ok:Bool}{b:Nat}{al:List (List UInt8×Value)}{z:Value}(ht:P.underlying T=some (.map k e))(hk:P.underlying k=some .string)(hz:(P.info? e).bind (·.zero)=some z)(h:MapIs w b al)(x:List UInt8) :
  (mLook T (.map (some b)) (strK x) ok).run P w=.ok (.value (if ok then .tuple #[(lookA al x).getD z,.bool (lookA al x).isSome] else (lookA al x).getD z)) w:=by
 obtain⟨es,clock,h1,h2⟩:=h;obtain⟨r,r1,r2⟩:=run_findStr (P:=P) (w:=w) hk x h2;have hz':(zeroValue e).run P w=.ok z w:=by
  obtain⟨i,hi,hzi⟩:=Option.bind_eq_some_iff.1 hz;simp[zeroValue,typeInfo,hi,hzi]
 refine mv_run ?_;rw[←r2];cases r with
|none=>simp[Instr.lookup,run_underlying ht,getObj,Sem.run,h1,run_checkStr hk x,r1,hz']
|some p=>
  obtain⟨i,v⟩:=p;simp[Instr.lookup,run_underlying ht,getObj,Sem.run,h1,run_checkStr hk x,r1]
end
theorem lookA_none {al:List (List UInt8×Value)}{k:List UInt8}:lookA al k=none↔k ∉ al.map (·.1):=by
 unfold lookA;rw[Option.map_eq_none_iff,List.find?_eq_none];exact⟨fun h hm=>by obtain⟨p,hp,rfl⟩:=List.mem_map.1 hm;simpa using h p hp,fun h p hp hc=>h (List.mem_map.2 ⟨p,hp,by simpa using hc⟩)⟩
end Eng
end
end Go.Proofs.YtkejpieaafeblaaGreatDoor

namespace Go.Proofs.YtkejpieaafeblaaGreatDoor
section
open Go
structure It where
 num:Int
 gen:Int
 obj:Ob
namespace Dk
def it0:It:=⟨0,0,Vl.ob0⟩
def numbers (i:It):Bool:=decide (1≤i.num)&&decide (i.num≤8191)&&decide (0≤i.gen)&&decide (i.gen≤65535)
end Dk
end
end Go.Proofs.YtkejpieaafeblaaGreatDoor

namespace Go.Proofs.YtkejpieaafeblaaGreatDoor
section
open Eng Go.RowKit
def itC (i:It)(vk vc:Value):List Value:=.int .i64 i.num::.int .i64 i.gen::obC i.obj vk vc
def itV (i:It)(vk vc:Value):Value:=.agg (itC i vk vc).toArray
def itE (b:Nat)(i:It)(vk vc:Value):Ent:=.cells b (itC i vk vc) 27
theorem obV_inj {o p:Ob}{vk vc xk xc:Value}(h:obV o vk vc=obV p xk xc):vk=xk∧vc=xc:=by
 have:(obC o vk vc).toArray=(obC p xk xc).toArray:=by injection h
 have:obC o vk vc=obC p xk xc:=by simpa using congrArg Array.toList this
 simp only[obC,List.cons.injEq,and_true] at this;exact⟨this.2.2.2.2.1,this.2.2.2.2.2⟩
theorem OV.slices {A:Nat→Prop}{w:World}{o:Ob}{vk vc:Value}(h:OV A w (obV o vk vc) o):∃cs,ObAt A w o vk vc cs:=by
 obtain⟨xk,xc,cs,e,ha⟩:=h.open;obtain⟨rfl,rfl⟩:=obV_inj e;exact⟨cs,ha⟩
theorem OV.oneK {A:Nat→Prop}{w:World}{o:Ob}{vk vc:Value}(h:OV A w (obV o vk vc) o):vk.oneCell'=true:=by obtain⟨cs,ha⟩:=h.slices;exact ha.keys.one
theorem OV.oneC {A:Nat→Prop}{w:World}{o:Ob}{vk vc:Value}(h:OV A w (obV o vk vc) o):vc.oneCell'=true:=by obtain⟨cs,ha⟩:=h.slices;exact ha.kids.one
theorem itC_one (i:It){vk vc:Value}(hk:vk.oneCell'=true)(hc:vc.oneCell'=true):∀v∈itC i vk vc,v.oneCell'=true:=by
 intro v hv;simp only[itC,List.mem_cons] at hv;rcases hv with rfl|rfl|hv
 ·rfl
 ·rfl
 ·exact obC_one i.obj hk hc v hv
theorem aggIt:aggN prog 27=some 8:=by kernel_rfl
theorem szIt:(Tryz.prog.info? 27).map (·.size)=some 8:=by kernel_rfl
theorem fo_i0:fOff prog 27 0=some 0:=by kernel_rfl
theorem fo_i1:fOff prog 27 1=some 1:=by kernel_rfl
theorem fo_i2:fOff prog 27 2=some 2:=by kernel_rfl
section
variable {w:World}{PK:PKT}{K:VWP}{S:Nat→Prop}{w0:World}{L:List Ent}
theorem fa_i0 {b off:Nat}:DoX prog (mFA 27 (.pointer (some ⟨b,off,none⟩)) 0) w PK K=K (.pointer (some ⟨b,off,none⟩)) w:=f_addr fo_i0
theorem fa_i1 {b off:Nat}:DoX prog (mFA 27 (.pointer (some ⟨b,off,none⟩)) 1) w PK K=K (.pointer (some ⟨b,off+1,none⟩)) w:=f_addr fo_i1
theorem fa_i2 {b off:Nat}:DoX prog (mFA 27 (.pointer (some ⟨b,off,none⟩)) 2) w PK K=K (.pointer (some ⟨b,off+2,none⟩)) w:=f_addr fo_i2
theorem o_itb (i:It){vk vc:Value}(hk:vk.oneCell'=true)(hc:vc.oneCell'=true)(ho:OwnS S w0 w L)(k:∀b w',OwnS S w0 w' (itE b i vk vc::L)→K (.pointer (some ⟨b,0,none⟩)) w'):DoX prog (mBox 27 (itV i vk vc)) w PK K:=by
 cases vk<;>first|(cases hk;done)|skip
 all_goals cases vc<;>first|(cases hc;done)|exact o_new (fun b=>.pointer (some ⟨b,0,none⟩)) (itC i _ _) 27 (fun _=>by kernel_rfl) ho k
theorem o_ita (ho:OwnS S w0 w L)(k:∀b w',OwnS S w0 w' (itE b Dk.it0 nilS nilS::L)→K (.pointer (some ⟨b,0,none⟩)) w'):DoX prog (mAlloc 27) w PK K:=
 o_new (fun b=>.pointer (some ⟨b,0,none⟩)) (itC Dk.it0 nilS nilS) 27 (fun _=>by kernel_rfl) ho k
theorem it_put (j:Nat){b:Nat}{i i':It}{vk vc vk' vc':Value}(hk:vk'.oneCell'=true)(hc:vc'.oneCell'=true)(ho:OwnS S w0 w L)(hi:L[j]?=some (itE b i vk vc))(k:∀w',OwnS S w0 w' (L.set j (itE b i' vk' vc'))→K undef w') :
  DoX prog (mStore 27 (.pointer (some ⟨b,0,none⟩)) (itV i' vk' vc')) w PK K:=o_put j ho hi (new:=itC i' vk' vc') szIt (itC_one i' hk hc) rfl k
theorem it_num (ho:OwnS S w0 w L)(j:Nat){b:Nat}{i:It}{vk vc:Value}(hi:L[j]?=some (itE b i vk vc)):DoX prog (mLoad 3 (.pointer (some ⟨b,0,none⟩))) w PK K=K (.int .i64 i.num) w:=l_cell nInt5 (ho.cell j hi 0 rfl)
theorem it_gen (ho:OwnS S w0 w L)(j:Nat){b:Nat}{i:It}{vk vc:Value}(hi:L[j]?=some (itE b i vk vc)):DoX prog (mLoad 3 (.pointer (some ⟨b,0+1,none⟩))) w PK K=K (.int .i64 i.gen) w:=l_cell nInt5 (ho.cell j hi 1 rfl)
theorem it_k (ho:OwnS S w0 w L)(j:Nat){b:Nat}{i:It}{vk vc:Value}(hi:L[j]?=some (itE b i vk vc)):DoX prog (mLoad 3 (.pointer (some ⟨b,0+2,none⟩))) w PK K=K (.int .i64 i.obj.k) w:=l_cell nInt5 (ho.cell j hi 2 rfl)
theorem it_obj (ho:OwnS S w0 w L)(j:Nat){b:Nat}{i:It}{vk vc:Value}(hi:L[j]?=some (itE b i vk vc)):DoX prog (mLoad 25 (.pointer (some ⟨b,0+2,none⟩))) w PK K=K (obV i.obj vk vc) w:=
 l_at (ho.subAgg j hi (0+2) (obC i.obj vk vc) rfl aggOb)
theorem it_v (ho:OwnS S w0 w L)(j:Nat){b:Nat}{i:It}{vk vc:Value}(hi:L[j]?=some (itE b i vk vc)):DoX prog (mLoad 27 (.pointer (some ⟨b,0,none⟩))) w PK K=K (itV i vk vc) w:=l_at (ho.agg j hi aggIt)
theorem it_putO (j:Nat){b:Nat}{i:It}{o:Ob}{vk vc vk' vc':Value}(hk:vk'.oneCell'=true)(hc:vc'.oneCell'=true)(ho:OwnS S w0 w L)(hi:L[j]?=some (itE b i vk vc))(k:∀w',OwnS S w0 w' (L.set j (itE b ⟨i.num,i.gen,o⟩ vk' vc'))→K undef w') :
  DoX prog (mStore 25 (.pointer (some ⟨b,0+2,none⟩)) (obV o vk' vc')) w PK K:=o_putAt j ho hi (new:=obC o vk' vc') szOb (obC_one o hk hc) (by show 0+2+6≤8;omega) k
theorem m_it0:DoX prog (mBuild 27 #[]) w PK K=K (itV Dk.it0 nilS nilS) w:=do_eq (by kernel_rfl)
end
theorem run_it {W:World}{b off:Nat}{i:It}{vk vc:Value}(h:∀j u,(itC i vk vc)[j]?=some u→W.cell? ⟨b,off+j,none⟩=some u):(mLoad 27 (.pointer (some ⟨b,off,none⟩))).run prog W=.ok (.value (itV i vk vc)) W:=
 run_load_at (AtV.agg aggIt (cs:=itC i vk vc) rfl h)
end
end Go.Proofs.YtkejpieaafeblaaGreatDoor



namespace Go.Proofs.YtkejpieaafeblaaGreatDoor
section
open Eng Go.RowKit
theorem q_sub {P:Program}{C:World→Prop}{K:Value→Prop}{T:TypeId}{k:IntKind}{a b:Int}(h:K (.int k (k.wrap (a - b)))):QDo P C (mBin .sub T (.int k a) (.int k b)) K:=q_do _ (fun _=>r_sub) h
end
end Go.Proofs.YtkejpieaafeblaaGreatDoor






namespace Go.Proofs.YtkejpieaafeblaaGreatDoor
section
open Eng Go.RowKit
namespace Eng
def Ent.two (e f:Ent):Ent:=⟨fun k=>e.blk k∨f.blk k,fun w=>e.is w∧f.is w∧∀k,e.blk k→¬f.blk k,
 fun h k=>⟨e.keep h.1 fun b hb=>k b (.inl hb),f.keep h.2.1 fun b hb=>k b (.inr hb),h.2.2⟩,fun h k hk=>hk.elim (e.lt h.1 k) (f.lt h.2.1 k)⟩
section
variable {S:Nat→Prop}{w w0:World}{L:List Ent}
theorem OwnS.split {e f:Ent}(ho:OwnS S w0 w (.two e f::L)):OwnS S w0 w (e::f::L):=by
 obtain⟨⟨he,hf,hd⟩,hb⟩:=ho.all (.two e f) (by simp);obtain⟨a1,a2⟩:=List.pairwise_cons.1 ho.apart;refine⟨ho.grew,fun x hx=>?_,List.pairwise_cons.2 ⟨fun x hx k hk=>?_,List.pairwise_cons.2 ⟨fun x hx k hk=>a1 x hx k (.inr hk),a2⟩⟩⟩
 ·rcases List.mem_cons.1 hx with rfl|hx
  ·exact⟨he,fun k hk=>hb k (.inl hk)⟩
  rcases List.mem_cons.1 hx with rfl|hx
  ·exact⟨hf,fun k hk=>hb k (.inr hk)⟩
  ·exact ho.all x (List.mem_cons_of_mem _ hx)
 ·rcases List.mem_cons.1 hx with rfl|hx
  ·exact hd k hk
  ·exact a1 x hx k (.inl hk)
end
end Eng
section
variable {P:Program}{S:World→Prop}{K:Value→Prop}
theorem hd_do {m:Sem Next}(v:Value)(h:∀w,S w→m.run P w=.ok (.value v) w)(k:K v):HDo P S m K:=⟨v,h,k⟩
theorem hd_pure {m:Sem Next}(v:Value)(h:∀w,m.run P w=.ok (.value v) w)(k:K v):HDo P S m K:=⟨v,fun w _=>h w,k⟩
end
section
variable {w:World}{PK:PKT}{K:VWP}{S:Nat→Prop}{w0:World}{L:List Ent}
end
end
section
namespace Eng
open Go.RowKit
section
variable {S:Nat→Prop}{P:Program}{w w0:World}{L:List Ent}{PK:PKT}{K:VWP}
theorem OwnS.pair {e f:Ent}(ho:OwnS S w0 w (e::f::L)):OwnS S w0 w (.two e f::L):=by
 obtain⟨a1,a2⟩:=List.pairwise_cons.1 ho.apart;obtain⟨a3,a4⟩:=List.pairwise_cons.1 a2;have h1:=ho.all e (by simp);have h2:=ho.all f (by simp);refine⟨ho.grew,fun x hx=>?_,List.pairwise_cons.2 ⟨fun x hx k hk=>?_,a4⟩⟩
 ·rcases List.mem_cons.1 hx with rfl|hx
  ·exact⟨⟨h1.1,h2.1,a1 f (by simp)⟩,fun k hk=>hk.elim (h1.2 k) (h2.2 k)⟩
  ·exact ho.all x (by simp[hx])
 ·rcases hk with hk|hk
  ·exact a1 x (by simp[hx]) k hk
  ·exact a3 x hx k hk
structure Lent (P:Program) (f:Nat) (args:Array Value) (e:Ent) (M:Mem) (w:World) (ok:Prop) (e':Ent) (R:Value→Mem→Prop) (c:List PanicEntry):Prop where
 ret:ok→Ret P f args w (fun v w'=>∃N,M.le N∧R v N∧Turn (.two e (.mem M)) (.two e' (.mem N)) w w')
 pan:¬ok→Pan P f args w (fun c' w'=>c'=c∧∃e2,Turn (.two e (.mem M)) (.two e2 (.mem M)) w w')
theorem Turn.split {e f:Ent}{M N:Mem}{w w':World}{L:List Ent}(ho:OwnS S w0 w (e::.mem M::L))(ht:Turn (.two e (.mem M)) (.two f (.mem N)) w w'):OwnS S w0 w' (f::.mem N::L):=
 (ho.pair.turn 0 rfl ht).split
theorem c_lent {f:Nat}{args:Array Value}{e e':Ent}{M:Mem}{ok:Prop}{R:Value→Mem→Prop}{c:List PanicEntry}(ho:OwnS S w0 w (e::.mem M::L))(h:Lent P f args e M w ok e' R c)
  (kr:∀v N w',ok→M.le N→R v N→OwnS S w0 w' (e'::.mem N::L)→K v w') (kp:∀e2 w',¬ok→OwnS S w0 w' (e2::.mem M::L)→PK c w'):CallX P f args w PK K:=by
 by_cases hk:ok
 ·exact c_ret (h.ret hk) fun v w' ⟨N,hle,hr,ht⟩=>kr v N w' hk hle hr (Turn.split ho ht)
 ·exact c_pan (h.pan hk) fun c' w' ⟨hc,e2,ht⟩=>by subst hc;exact kp e2 w' hk (Turn.split ho ht)
theorem lent_of {f:Nat}{args:Array Value}{e e':Ent}{M:Mem}{ok:Prop}{R:Value→Mem→Prop}{c:List PanicEntry}
  (h:∀K:Ending→World→Prop,OwnS (Ent.two e (.mem M)).blk w w [e,.mem M] →
   (ok→∀(v:Value) (N:Mem) (w':World) (L:List Ent),OwnS (Ent.two e (.mem M)).blk w w' (e'::.mem N::L)→M.le N→R v N→K (.returned v) w') →
   (¬ok→∀(e2:Ent) (N:Mem) (w':World) (L:List Ent),OwnS (Ent.two e (.mem M)).blk w w' (e2::.mem N::L)→M.le N→K (.panicked c) w')→Calls P f args w K)
  (h0:(Ent.two e (.mem M)).is w):Lent P f args e M w ok e' R c:=by
 have ho:OwnS (Ent.two e (.mem M)).blk w w [e,.mem M]:=(OwnS.lend h0).split;constructor
 ·intro hk;refine ret_of fun K hK=>h K ho (fun _ v N w' L hw hle hr=>hK _ _ ⟨N,hle,hr,OwnS.back hw.pair⟩) fun hn=>absurd hk hn
 ·intro hn;refine pan_of fun K hK=>h K ho (fun hk=>absurd hk hn) fun _ e2 N w' L hw hle=>?_;refine hK _ _ ⟨rfl,e2,?_⟩;have hb:=OwnS.back hw.pair;refine⟨hb.grew,?_,fun k hk=>hb.new k (hk.elim .inl fun hm=>.inr (hle.A k hm))⟩;obtain⟨i1,i2,i3⟩:=hb.is;exact⟨i1,Mem.has_of hle i2,fun k hk hm=>i3 k hk (hle.A k hm)⟩
end
end Eng
end
section
open Eng Go.RowKit
abbrev keyE (v:Value)(ks:List (List UInt8)):Ent:=.urow 9 1 v ks.length (strsV ks)
abbrev kidE (v:Value)(n:Nat)(cs:List Value):Ent:=.urow 25 6 v n cs
section
variable {w:World}{S:Nat→Prop}{w0:World}{L:List Ent}{PK PK2:PKT}{K:VWP}
theorem key_row (i:Nat){v:Value}{ks:List (List UInt8)}(ho:OwnS S w0 w L)(hi:L[i]?=some (keyE v ks)){j:Nat}(hj:j < ks.length):∃g cap,v=.slice (some ⟨g,0,none⟩) ks.length cap ∧
  (∀w,(mIA 22 v (.int .i64 (j:Int))).run prog w=.ok (.value (.pointer (some ⟨g,j,none⟩))) w)∧∀w',(keyE v ks).is w'→(mLoad 9 (.pointer (some ⟨g,j,none⟩))).run prog w'=.ok (.value (.string ⟨ks[j].toArray⟩)) w':=by
 obtain⟨g,cap,rfl⟩:=urow_open (ho.at_ i hi) (by omega);refine⟨g,cap,rfl,fun w=>?_,fun w' h=>?_⟩
 ·refine (run_ia Tryz.underlying22 szStr (by omega) (by omega)).trans ?_;rw[Int.toNat_natCast,Nat.mul_one,Nat.zero_add]
 ·obtain⟨b,off,cap',e,hc⟩:=sl_open (Sl.urow h) (by omega);cases e;exact run_load_cell nStr5 (by have:=hc j _ (strsV_get hj);rwa [Nat.zero_add] at this)
end
end
section
open Eng Go.RowKit
def objR (e:Ps.R)(v:Value)(N:Mem):Prop:=∃u,v=.tuple #[u,.int .i64 e.2.1,.int .i64 e.2.2]∧OV N.A N.w u e.1
theorem ob0_ov2 {A:Nat→Prop}{w:World}:OV A w (obV Vl.ob0 nilS nilS) Vl.ob0:=ObAt.ov (o:=Vl.ob0) ⟨SlA.nil _ _ _ _,SlA.nil _ _ _ _,OVs.nil⟩
section
variable {w:World}{S:Nat→Prop}{w0:World}{L:List Ent}
theorem ret_bad {KE:Ending→World→Prop}{PK PK2:PKT}(i:Nat){b:Nat}{o:Ob}{vk vc:Value}{e:Int}(ho:OwnS S w0 w L)(hi:L[i]?=some (obE b o vk vc))
  (k:∀w',OwnS S w0 w' (L.set i (obE b Vl.ob0 nilS nilS))→KE (.returned (.tuple #[obV Vl.ob0 nilS nilS,.int .i64 0,.int .i64 e])) w') :
  DoX prog (mBuild 25 #[]) w PK fun t w=>DoX prog (mStore 25 (.pointer (some ⟨b,0,none⟩)) t) w PK2 fun _ w=>RetX prog [.cell (.pointer (some ⟨b,0,none⟩)) 25,.val (.int .i64 0),.val (.int .i64 e)] w KE:=by
 rw[m_ob0];refine ob_put i rfl rfl ho hi fun w' ho=>?_;have hil:i < L.length:=(List.getElem?_eq_some_iff.1 hi).1;have hi2:(L.set i (obE b Vl.ob0 nilS nilS))[i]?=some (obE b Vl.ob0 nilS nilS):=by simp[hil]
 exact ret_v3 (rv_cell (ho.agg i hi2 aggOb)) rv_val rv_val (k w' ho)
end
end
section
open Go
namespace Wr
open Lx (Single next)
theorem sg_of {u:List UInt8}{k:Int}{t:Nat}{n:Int}{s:List UInt8}(h:next u 0=(⟨k,0,t,n,s⟩,0))(ht:t=u.length)(hk:k≠0):∃x,Single u x:=⟨_,h,hk,rfl,by simp[ht]⟩
theorem sg_num {n:Int}(h1:-2147483647≤n)(h2:n≤2147483647):∃x,Single (num n) x:=by
 have e:num n=Lib.itoa n:=by unfold num Pl.pInt;rw[if_pos ⟨h1,h2⟩]
 rw[e];exact sg_of (Lx.itoa_next h1 h2) rfl (by decide)
theorem sg_name {l:List UInt8}(h:Vl.name l=true):∃x,Single (Pl.pName l).1 x:=by
 unfold Vl.name at h;simp only[Bool.and_eq_true,decide_eq_true_eq] at h;have e:(Pl.pName l).1=Pl.name l:=by unfold Pl.pName;rw[if_neg (by omega),if_neg (by simpa using h.2)]
 rw[e];exact sg_of (Lx.name_next h.1 h.2) rfl (by decide)
theorem sg_str {l:List UInt8}(h:l.length≤32767):∃x,Single (Pl.pStr l).1 x:=by
 have e:(Pl.pStr l).1=Pl.str l:=by unfold Pl.pStr;rw[if_neg (by omega)]
 rw[e];exact sg_of (Lx.str_next h) rfl (by decide)
theorem sg_real {n:Int}(h:Fx.okB n=true):∃x,Single (Pl.pReal n).1 x:=by
 have e:(Pl.pReal n).1=Fx.text n:=by unfold Pl.pReal;rw[if_pos h]
 rw[e];exact sg_of (Lx.text_next h) rfl (by decide)
theorem sg_R:∃x,Single [82] x:=⟨(next [82] 0).1,by unfold Single;decide +kernel⟩
theorem sg_a:∃x,Single [91] x:=⟨(next [91] 0).1,by unfold Single;decide +kernel⟩
theorem sg_b:∃x,Single [93] x:=⟨(next [93] 0).1,by unfold Single;decide +kernel⟩
theorem sg_c:∃x,Single [60,60] x:=⟨(next [60,60] 0).1,by unfold Single;decide +kernel⟩
theorem sg_d:∃x,Single [62,62] x:=⟨(next [62,62] 0).1,by unfold Single;decide +kernel⟩
theorem sg_nul:∃x,Single nul x:=⟨(next nul 0).1,by unfold Single;decide +kernel⟩
theorem sg_tru:∃x,Single tru x:=⟨(next tru 0).1,by unfold Single;decide +kernel⟩
theorem sg_fal:∃x,Single fal x:=⟨(next fal 0).1,by unfold Single;decide +kernel⟩
theorem form_name {o:Ob}(h:Vl.form o=true)(k5:o.k=5):Vl.name o.s=true:=by
 have:=h;simp only[Vl.form,k5,decide_true,Bool.not_true,Bool.false_or,Bool.and_eq_true] at this;exact this.1
theorem form_keys {o:Ob}(h:Vl.form o=true)(k7:o.k=7):o.keys.length=o.kids.length∧∀key∈o.keys,Vl.name key=true:=by
 have hf:=h;simp only[Vl.form,k7,true_or,decide_true,Bool.not_true,Bool.false_or,Bool.and_eq_true] at hf;have h2:=hf.2;simp only[Vl.rising,Bool.and_eq_true,decide_eq_true_eq] at h2;refine⟨h2.1,fun key hk=>?_⟩;obtain⟨i,hi,rfl⟩:=List.getElem_of_mem hk;have:=List.all_eq_true.1 h2.2 i (List.mem_range.2 hi);unfold Vl.keyAt at this;simp only[Bool.and_eq_true] at this;have e:o.keys.getD i []=o.keys[i]:=by rw[List.getD_eq_getElem?_getD,List.getElem?_eq_getElem hi];rfl
 rw[e] at this;exact this.1.1.1
theorem why_parts {d:Nat}{o:Ob}(h:Vl.check d o=0):Vl.usesOk o=true∧¬(o.k=9∧1 < d)∧Vl.fits o=true∧o.s.length≤Vl.long o.k∧Vl.form o=true:=by
 have h:=check_why h;unfold Vl.why at h;split at h
 ·cases h
 split at h
 ·cases h
 split at h
 ·cases h
 split at h
 ·cases h
 split at h
 ·cases h
 split at h
 ·cases h
 rename_i h1 h2 h3 h4 h5 h6
 rw[not_or] at h2;exact⟨by simpa using h2.1,h2.2,by simpa using h3,by omega,by simpa using h6⟩
theorem leaf_single {d:Nat}{o:Ob}(h:Vl.check d o=0):∃x,Single (leaf o.k o.n o.s) x:=by
 obtain⟨_,_,hf,hl,hm⟩:=why_parts h;unfold leaf;split
 ·split
  ·exact sg_fal
  ·exact sg_tru
 split
 ·rename_i h1 h2
  have:-2147483647≤o.n∧o.n≤2147483647:=by simpa[Vl.fits,h2] using hf
  exact sg_num this.1 this.2
 split
 ·rename_i h1 h2 h3
  have:-1073741824≤o.n∧o.n≤1073741824:=by simpa[Vl.fits,h3] using hf
  exact sg_real (by simp[Fx.okB];omega)
 split
 ·rename_i h1 h2 h3 h4
  have:Vl.long o.k=32767:=by rw[h4];rfl
  exact sg_str (by omega)
 split
 ·rename_i h1 h2 h3 h4 h5
  exact sg_name (form_name hm h5)
 ·exact sg_nul
 mutual
theorem parts_single:∀(o:Ob) (d:Nat),Vl.check d o=0→∀p∈parts o,∃x,Single p x
|.mk k n g s keys kids,d,h=>by
  have hk:=check_kids h;obtain⟨_,_,hf,_,hm⟩:=why_parts h;have hleaf:=leaf_single h;have h1:=partsL_single kids (d+1) hk;intro p hp;rw[parts] at hp;split at hp
  ·rename_i k8
   have hn:(1≤n∧n≤8191)∧(0≤g∧g≤65535):=by
    have k8:(Ob.mk k n g s keys kids).k=8:=k8;simp[Vl.fits,k8,Ob.n,Ob.g] at hf;exact⟨of_decide_eq_true hf.1,of_decide_eq_true hf.2⟩
   simp only[List.mem_cons,List.not_mem_nil,or_false] at hp;rcases hp with rfl|rfl|rfl
   ·exact sg_num (by omega) (by omega)
   ·exact sg_num (by omega) (by omega)
   ·exact sg_R
  split at hp
  ·simp only[List.mem_cons,List.mem_append,List.not_mem_nil,or_false] at hp;rcases hp with rfl|hp|rfl
   ·exact sg_a
   ·exact h1 p hp
   ·exact sg_b
  split at hp
  ·rename_i k8 k6 k7
   obtain⟨_,hkeys⟩:=form_keys hm k7;simp only[List.mem_cons,List.mem_append,List.not_mem_nil,or_false] at hp;rcases hp with rfl|hp|rfl
   ·exact sg_c
   ·exact partsD_single kids (d+1) hk keys hkeys p hp
   ·exact sg_d
  ·simp only[List.mem_singleton] at hp;subst hp;exact hleaf
theorem partsL_single:∀(os:List Ob) (d:Nat),(∀x∈os,Vl.check d x=0)→∀p∈partsL os,∃x,Single p x
|[],_,_=>by simp[partsL]
|o::os,d,h=>by
  intro p hp;rw[partsL,List.mem_append] at hp;rcases hp with hp|hp
  ·exact parts_single o d (h o (by simp)) p hp
  ·exact partsL_single os d (fun x hx=>h x (by simp[hx])) p hp
theorem partsD_single:∀(os:List Ob) (d:Nat),(∀x∈os,Vl.check d x=0)→∀(keys:List (List UInt8)),(∀key∈keys,Vl.name key=true)→∀p∈partsD keys os,∃x,Single p x
|[],_,_,_,_=>by simp[partsD]
|o::os,d,h,keys,hkeys=>by
  intro p hp;cases keys with
 |nil=>rw[partsD] at hp;cases hp
 |cons key ks=>
   rw[partsD,List.mem_cons,List.mem_append] at hp;rcases hp with rfl|hp|hp
   ·exact sg_name (hkeys key (by simp))
   ·exact parts_single o d (h o (by simp)) p hp
   ·exact partsD_single os d (fun x hx=>h x (by simp[hx])) ks (fun k hk=>hkeys k (by simp[hk])) p hp
end
end Wr
end
section
open Go
structure Lx where
 off:Int
 sty:List UInt8
 pre:List UInt8
 first:Int
 deriving DecidableEq
namespace Lb
end Lb
end
end Go.Proofs.YtkejpieaafeblaaGreatDoor










namespace Go.Proofs.YtkejpieaafeblaaGreatDoor
section
open Eng Go.RowKit
def sE (b:Nat):Ent:=.cells b [.string ⟨#[65]⟩,.string ⟨#[66]⟩] 9
section
variable {w W:World}{bL bK d:Nat}{a b:Option Nat}{PK:PKT}{K:VWP}
end
end
end Go.Proofs.YtkejpieaafeblaaGreatDoor

namespace Go.Proofs.YtkejpieaafeblaaGreatDoor
section
open Eng Go.RowKit Go.ChangeShapes Go.WideShapes Go.ChangeAt
set_option maxRecDepth 100000
section
variable {H:Type}{enc:TypeId×Value→H}{W:World}{sp:Nat→Bool}{held:Bool}
theorem bulk2 {d e:DataW H}(hk:Rows.uptoSmall H [d,e]=true):Rows.uptoBulk d≤1048576∧Rows.uptoBulk e≤1048576:=by
 have h:Rows.uptoBulkAll [d,e]≤1048576:=of_decide_eq_true hk;simp only[Rows.uptoBulkAll] at h;omega
end
end
section
open Eng
def S_foliantref05_Texts_0 (t0 t1 t12 t13:Value)(w:World)(N1:List Value→World→Prop)(K:Ending→World→Prop):Prop:=
 DoX prog (mBin .lss 3 t13 t12) w (pk K) fun t14 w=>
 IfX t14 (QuietX w (fun C2=>
 QDo prog C2 (mIA 22 t0 t13) fun t18=>
 QDo prog C2 (mLoad 9 t18) fun t19=>
 QDo prog C2 (mIA 22 t1 t13) fun t22=>
 QDo prog C2 (mLoad 9 t22) fun t23=>
 QDo prog C2 (mEq .neq 9 (.tmp 19) (.tmp 23) t19 t23) fun t24=>
 ∀w,C2 w →
 IfX t24 (K (.returned (.bool false)) w) (DoX prog (mBin .add 3 t13 (.int .i64 1)) w (pk K) fun t25 w=>
 N1 [t25] w))) (K (.returned (.bool true)) w)
def S_foliantref05_Texts (t0 t1:Value)(w:World)(K:Ending→World→Prop):Prop:=
 DoX prog (mB .len #[22] 3 #[false] #[t0]) w (pk K) fun t7 w=>
 DoX prog (mB .len #[22] 3 #[false] #[t1]) w (pk K) fun t9 w=>
 DoX prog (mEq .neq 3 (.tmp 7) (.tmp 9) t7 t9) w (pk K) fun t10 w=>
 IfX t10 (K (.returned (.bool false)) w) (DoX prog (mB .len #[22] 3 #[false] #[t0]) w (pk K) fun t12 w=>
 LoopX [(.int .i64 0)] w (fun vs1 w N1=>∀_:Sg,S_foliantref05_Texts_0 t0 t1 t12 (vs1.getD 0 undef) w N1 K))
theorem S_foliantref05_Texts_eq (t0 t1:Value)(w:World)(K:Ending→World→Prop):wpX prog 26 [] [(4,[13])] none (bodyOf Tryz.f55) (topQ prog [.tmp 4] K) (startX [t0,t1]) [] w=S_foliantref05_Texts t0 t1 w K:=by kernel_rfl
theorem S_foliantref05_Texts_ok {t0 t1:Value}{w:World}{K:Ending→World→Prop}(h:S_foliantref05_Texts t0 t1 w K):Calls prog 55 #[t0,t1] w K:=
 calls_of_wpX Tryz.func55 rfl rfl rfl rfl (Eq.mpr (S_foliantref05_Texts_eq t0 t1 w K) h)
end
section
open Eng Go.RowKit
theorem nStrT:notAgg prog 9=true:=by kernel_rfl
theorem rtexts_ret (va vb:Value)(la lb:List (List UInt8))(w:World)(ha:Sl w va 1 la.length (strsV la))(hb:Sl w vb 1 lb.length (strsV lb))(hl:la.length≤1099511627776) :
  Ret prog 55 #[va,vb] w (fun r w'=>r=.bool (decide (la=lb))∧Below w.heap.size w w'):=by
 refine ret_of fun K hK=>S_foliantref05_Texts_ok ?_;unfold S_foliantref05_Texts;rw[sl_len Tryz.underlying22 ha,sl_len Tryz.underlying22 hb];simp only[rs];by_cases hlen:(la.length:Int)≠(lb.length:Int)
 ·simp only[decide_eq_true hlen,i_t];have hne:la≠lb:=fun e=>hlen (by rw[e]);exact hK _ _ ⟨by rw[decide_eq_false hne],(Own.start w).done⟩
 have hle:la.length=lb.length:=by omega
 simp only[decide_eq_false hlen,i_f,sl_len Tryz.underlying22 ha];refine loop (fun vs w'=>∃(i:Nat),vs=[.int .i64 i]∧i≤la.length∧la.take i=lb.take i∧Own w w' []) (fun vs _=>la.length - n0 vs) ⟨0,rfl,by omega,by simp,Own.start w⟩ ?_;rintro vs w2 ⟨i,rfl,hi,he,ho⟩ _;simp only[S_foliantref05_Texts_0,gd,rs];by_cases hlt:(i:Int) < (la.length:Int)
 ·have h1:i < la.length:=by omega
  have h2:i < lb.length:=by omega
  simp only[hlt,decide_true,rs];obtain⟨ba,oa,ca,rfl,hca⟩:=sl_open ha (by omega);obtain⟨bb,ob,cb,rfl,hcb⟩:=sl_open hb (by omega);refine quiet (q_do _ (fun _=>run_ia Tryz.underlying22 (show _=some 1 by kernel_rfl) (by omega) (by omega)) ?_);refine q_at (.string ⟨(la[i]).toArray⟩) (fun wc hw=>run_load_cell nStrT ((ho.grow hw).old ?_)) ?_
  ·rw[Int.toNat_natCast,Nat.mul_one];exact hca i _ (strsV_get h1)
  refine q_do _ (fun _=>run_ia Tryz.underlying22 (show _=some 1 by kernel_rfl) (by omega) (by omega)) ?_;refine q_at (.string ⟨(lb[i]).toArray⟩) (fun wc hw=>run_load_cell nStrT ((ho.grow hw).old ?_)) ?_
  ·rw[Int.toNat_natCast,Nat.mul_one];exact hcb i _ (strsV_get h2)
  refine q_sne ?_;intro w3 hw;have ho:=ho.grow hw;by_cases hq:la[i]=lb[i]
  ·simp only[hq,ne_eq,not_true,decide_false,i_f,rs];rw[wrap64_id (by omega) (by omega)];refine nextX ⟨i+1,rfl,by omega,?_,ho⟩ (by simp[n0,RowKit.intOf];omega);rw[List.take_succ_eq_append_getElem h1,List.take_succ_eq_append_getElem h2,he,hq]
  ·simp only[hq,ne_eq,not_false_eq_true,decide_true,i_t];have hne:la≠lb:=fun e=>hq (by subst e;rfl);exact hK _ _ ⟨by rw[decide_eq_false hne],ho.done⟩
 ·simp only[hlt,decide_false,rs,g_un];have hab:la=lb:=by
   rw[List.take_of_length_le (by omega),List.take_of_length_le (by omega)] at he;exact he
  exact hK _ _ ⟨by rw[decide_eq_true hab],ho.done⟩
end
section
open Eng
def S_foliantref05_Same (t0 t1:Value)(w:World)(K:Ending→World→Prop):Prop:=
 DoX prog (mBox 25 t0) w (pk K) fun t2 w=>
 DoX prog (mBox 25 t1) w (pk K) fun t3 w=>
 DoX prog (mFA 25 t2 0) w (pk K) fun t5 w=>
 DoX prog (mLoad 3 t5) w (pk K) fun t6 w=>
 DoX prog (mFA 25 t3 0) w (pk K) fun t7 w=>
 DoX prog (mLoad 3 t7) w (pk K) fun t8 w=>
 DoX prog (mEq .eql 3 (.tmp 6) (.tmp 8) t6 t8) w (pk K) fun t9 w=>
 GDo t9 true (fun E=>DoX prog (mFA 25 t2 1) w (pk K) E) w fun t11 w=>
 GDo t9 true (fun E=>DoX prog (mLoad 2 t11) w (pk K) E) w fun t12 w=>
 GDo t9 true (fun E=>DoX prog (mFA 25 t3 1) w (pk K) E) w fun t13 w=>
 GDo t9 true (fun E=>DoX prog (mLoad 2 t13) w (pk K) E) w fun t14 w=>
 GDo t9 true (fun E=>DoX prog (mEq .eql 2 (.tmp 12) (.tmp 14) t12 t14) w (pk K) E) w fun t15 w=>
 DoX prog (mPick t9 t15 (.bool false)) w (pk K) fun t16 w=>
 GDo t16 true (fun E=>DoX prog (mFA 25 t2 2) w (pk K) E) w fun t18 w=>
 GDo t16 true (fun E=>DoX prog (mLoad 3 t18) w (pk K) E) w fun t19 w=>
 GDo t16 true (fun E=>DoX prog (mFA 25 t3 2) w (pk K) E) w fun t20 w=>
 GDo t16 true (fun E=>DoX prog (mLoad 3 t20) w (pk K) E) w fun t21 w=>
 GDo t16 true (fun E=>DoX prog (mEq .eql 3 (.tmp 19) (.tmp 21) t19 t21) w (pk K) E) w fun t22 w=>
 DoX prog (mPick t16 t22 (.bool false)) w (pk K) fun t23 w=>
 GDo t23 true (fun E=>DoX prog (mFA 25 t2 3) w (pk K) E) w fun t25 w=>
 GDo t23 true (fun E=>DoX prog (mLoad 9 t25) w (pk K) E) w fun t26 w=>
 GDo t23 true (fun E=>DoX prog (mFA 25 t3 3) w (pk K) E) w fun t27 w=>
 GDo t23 true (fun E=>DoX prog (mLoad 9 t27) w (pk K) E) w fun t28 w=>
 GDo t23 true (fun E=>DoX prog (mEq .eql 9 (.tmp 26) (.tmp 28) t26 t28) w (pk K) E) w fun t29 w=>
 DoX prog (mPick t23 t29 (.bool false)) w (pk K) fun t30 w=>
 GDo t30 true (fun E=>DoX prog (mFA 25 t2 4) w (pk K) E) w fun t32 w=>
 GDo t30 true (fun E=>DoX prog (mLoad 22 t32) w (pk K) E) w fun t33 w=>
 GDo t30 true (fun E=>DoX prog (mFA 25 t3 4) w (pk K) E) w fun t34 w=>
 GDo t30 true (fun E=>DoX prog (mLoad 22 t34) w (pk K) E) w fun t35 w=>
 GDo t30 true (fun E=>CallX prog 55 #[t33,t35] w (pk K) E) w fun t36 w=>
 DoX prog (mPick t30 t36 (.bool false)) w (pk K) fun t37 w=>
 GDo t37 true (fun E=>DoX prog (mFA 25 t2 5) w (pk K) E) w fun t39 w=>
 GDo t37 true (fun E=>DoX prog (mLoad 23 t39) w (pk K) E) w fun t40 w=>
 GDo t37 true (fun E=>DoX prog (mFA 25 t3 5) w (pk K) E) w fun t41 w=>
 GDo t37 true (fun E=>DoX prog (mLoad 23 t41) w (pk K) E) w fun t42 w=>
 GDo t37 true (fun E=>CallX prog 56 #[t40,t42] w (pk K) E) w fun t43 w=>
 DoX prog (mPick t37 t43 (.bool false)) w (pk K) fun t44 w=>
 K (.returned t44) w
theorem S_foliantref05_Same_eq (t0 t1:Value)(w:World)(K:Ending→World→Prop):wpX prog 45 [] [] none (bodyOf Tryz.f17) (topQ prog [.tmp 4] K) (startX [t0,t1]) [] w=S_foliantref05_Same t0 t1 w K:=by kernel_rfl
theorem S_foliantref05_Same_ok {t0 t1:Value}{w:World}{K:Ending→World→Prop}(h:S_foliantref05_Same t0 t1 w K):Calls prog 17 #[t0,t1] w K:=
 calls_of_wpX Tryz.func17 rfl rfl rfl rfl (Eq.mpr (S_foliantref05_Same_eq t0 t1 w K) h)
def S_foliantref05_List_0 (t0 t1 t12 t13:Value)(w:World)(N1:List Value→World→Prop)(K:Ending→World→Prop):Prop:=
 DoX prog (mBin .lss 3 t13 t12) w (pk K) fun t14 w=>
 IfX t14 (QuietX w (fun C2=>
 QDo prog C2 (mIA 23 t0 t13) fun t18=>
 QDo prog C2 (mLoad 25 t18) fun t19=>
 QDo prog C2 (mIA 23 t1 t13) fun t22=>
 QDo prog C2 (mLoad 25 t22) fun t23=>
 QCall prog C2 17 #[t19,t23] fun t24=>
 QDo prog C2 (mUn .not t24) fun t25=>
 ∀w,C2 w →
 IfX t25 (K (.returned (.bool false)) w) (DoX prog (mBin .add 3 t13 (.int .i64 1)) w (pk K) fun t26 w=>
 N1 [t26] w))) (K (.returned (.bool true)) w)
def S_foliantref05_List (t0 t1:Value)(w:World)(K:Ending→World→Prop):Prop:=
 DoX prog (mB .len #[23] 3 #[false] #[t0]) w (pk K) fun t7 w=>
 DoX prog (mB .len #[23] 3 #[false] #[t1]) w (pk K) fun t9 w=>
 DoX prog (mEq .neq 3 (.tmp 7) (.tmp 9) t7 t9) w (pk K) fun t10 w=>
 IfX t10 (K (.returned (.bool false)) w) (DoX prog (mB .len #[23] 3 #[false] #[t0]) w (pk K) fun t12 w=>
 LoopX [(.int .i64 0)] w (fun vs1 w N1=>∀_:Sg,S_foliantref05_List_0 t0 t1 t12 (vs1.getD 0 undef) w N1 K))
theorem S_foliantref05_List_eq (t0 t1:Value)(w:World)(K:Ending→World→Prop):wpX prog 27 [] [(4,[13])] none (bodyOf Tryz.f56) (topQ prog [.tmp 4] K) (startX [t0,t1]) [] w=S_foliantref05_List t0 t1 w K:=by kernel_rfl
theorem S_foliantref05_List_ok {t0 t1:Value}{w:World}{K:Ending→World→Prop}(h:S_foliantref05_List t0 t1 w K):Calls prog 56 #[t0,t1] w K:=
 calls_of_wpX Tryz.func56 rfl rfl rfl rfl (Eq.mpr (S_foliantref05_List_eq t0 t1 w K) h)
end
end Go.Proofs.YtkejpieaafeblaaGreatDoor


namespace Go.Proofs.YtkejpieaafeblaaGreatDoor
section
open Eng Go.RowKit
theorem parts_pos (o:Ob):0 < (Wr.parts o).length:=by
 rw[Wr.parts_eq];split
 ·simp
 split
 ·simp
 split
 ·simp
 ·simp
end
section
open Eng Go.RowKit
namespace Ob
 mutual
def eqb:Ob→Ob→Bool
|.mk k n g s ks cs,b=>decide (k=b.k)&&decide (n=b.n)&&decide (g=b.g)&&decide (s=b.s)&&decide (ks=b.keys)&&eqbs cs b.kids
def eqbs:List Ob→List Ob→Bool
|[],[]=>true
|a::l,b::m=>eqb a b&&eqbs l m
|[],_::_=>false
|_::_,[]=>false
end
 mutual
theorem eqb_iff:∀a b:Ob,eqb a b=true↔a=b
|.mk k n g s ks cs,.mk k' n' g' s' ks' cs'=>by
  have ih:=eqbs_iff cs cs';rw[eqb];simp only[Bool.and_eq_true,decide_eq_true_eq];simp only[Ob.k,Ob.n,Ob.g,Ob.s,Ob.keys,Ob.kids,ih,Ob.mk.injEq,and_assoc]
theorem eqbs_iff:∀a b:List Ob,eqbs a b=true↔a=b
|[],[]=>by simp[eqbs]
|a::l,b::m=>by
  rw[eqbs,Bool.and_eq_true,eqb_iff a b,eqbs_iff l m];simp
|[],_::_=>by simp[eqbs]
|_::_,[]=>by simp[eqbs]
end
theorem eqb_eq (a b:Ob):eqb a b=(decide (a.k=b.k)&&decide (a.n=b.n)&&decide (a.g=b.g)&&decide (a.s=b.s)&&decide (a.keys=b.keys)&&eqbs a.kids b.kids):=by cases a;rw[eqb];rfl
theorem eqbs_drop {a b:List Ob}{i:Nat}(h1:i < a.length)(h2:i < b.length):eqbs (a.drop i) (b.drop i)=(eqb a[i] b[i]&&eqbs (a.drop (i+1)) (b.drop (i+1))):=by
 rw[List.drop_eq_getElem_cons h1,List.drop_eq_getElem_cons h2,eqbs]
theorem eqbs_len:∀{a b:List Ob},a.length≠b.length→eqbs a b=false:=by
 intro a b h;cases he:eqbs a b with
|false=>rfl
|true=>rw[eqbs_iff] at he;exact absurd (by rw[he]) h
end Ob
theorem rlist_ret {a b:Ob}{ka va kb vb:Value}{ca cb:List Value}(w:World)(ha:ObAt (InW w) w a ka va ca)(hb:ObAt (InW w) w b kb vb cb)(hl:a.kids.length≤1000000000)
  (ih:∀(i:Nat) (h1:i < a.kids.length) (h2:i < b.kids.length) (x y:Value) (W:World),OV (InW W) W x a.kids[i]→OV (InW W) W y b.kids[i]→Ret prog 17 #[x,y] W (fun v w'=>v=.bool (Ob.eqb a.kids[i] b.kids[i])∧Below W.heap.size W w')) :
  Ret prog 56 #[va,vb] w (fun v w'=>v=.bool (Ob.eqbs a.kids b.kids)∧Below w.heap.size w w'):=by
 refine ret_of fun K hK=>S_foliantref05_List_ok ?_;unfold S_foliantref05_List;rw[sl_len Tryz.underlying23 ha.kids.1,sl_len Tryz.underlying23 hb.kids.1];simp only[rs];by_cases hlen:(a.kids.length:Int)≠(b.kids.length:Int)
 ·simp only[decide_eq_true hlen,i_t];exact hK _ _ ⟨by rw[Ob.eqbs_len (by omega)],(Own.start w).done⟩
 have hle:a.kids.length=b.kids.length:=by omega
 simp only[decide_eq_false hlen,i_f,sl_len Tryz.underlying23 ha.kids.1];refine loop (fun vs w'=>∃(i:Nat),vs=[.int .i64 i]∧i≤a.kids.length∧Ob.eqbs a.kids b.kids=Ob.eqbs (a.kids.drop i) (b.kids.drop i)∧Own w w' []) (fun vs _=>a.kids.length - n0 vs) ⟨0,rfl,by omega,by simp,Own.start w⟩ ?_;rintro vs w2 ⟨i,rfl,hi,he,ho⟩ _;simp only[S_foliantref05_List_0,gd,rs];by_cases hlt:(i:Int) < (a.kids.length:Int)
 ·have h1:i < a.kids.length:=by omega
  have h2:i < b.kids.length:=by omega
  simp only[hlt,decide_true,rs];obtain⟨x,p,hx,hrx⟩:=kid_at ha h1;obtain⟨y,q,hy,hry⟩:=kid_at hb h2;refine quiet (q_at _ (fun W hW=>(hrx W (OwnS.keptIn (ho.grow hW))).1) ?_);refine q_at _ (fun W hW=>(hrx W (OwnS.keptIn (ho.grow hW))).2) ?_;refine q_at _ (fun W hW=>(hry W (OwnS.keptIn (ho.grow hW))).1) ?_;refine q_at _ (fun W hW=>(hry W (OwnS.keptIn (ho.grow hW))).2) ?_;refine q_call _ (fun W hW=>ret_grew (ih i h1 h2 x y W (hx.at_ (ho.grow hW)) (hy.at_ (ho.grow hW))) hW) ?_;refine q_do _ (fun W=>mv_run (by simp[Op.unary];rfl)) ?_;intro w3 hw;have ho:=ho.grow hw;rw[Ob.eqbs_drop h1 h2] at he;cases hq:Ob.eqb a.kids[i] b.kids[i] with
 |true=>
   simp only[Bool.not_true,i_f,rs];rw[wrap64_id (by omega) (by omega)];refine nextX ⟨i+1,rfl,by omega,?_,ho⟩ (by simp[n0,RowKit.intOf];omega);rw[he,hq];rfl
 |false=>
   simp only[Bool.not_false,i_t];exact hK _ _ ⟨by rw[he,hq];rfl,ho.done⟩
 ·simp only[hlt,decide_false,rs];refine hK _ _ ⟨?_,ho.done⟩;rw[he,List.drop_eq_nil_of_le (by omega),List.drop_eq_nil_of_le (by omega),Ob.eqbs]
theorem rsame5_ret (n:Nat):∀(a b:Ob) (x y:Value) (w:World),a.wt≤n→a.wt≤1000000000→OV (InW w) w x a→OV (InW w) w y b→Ret prog 17 #[x,y] w (fun v w'=>v=.bool (Ob.eqb a b)∧Below w.heap.size w w'):=by
 induction n with
|zero=>intro a b x y w h;have:=a.wt_pos;omega
|succ n ih=>
 intro a b x y w hn hw hx hy;obtain⟨ka,va,ca,rfl,ha⟩:=hx.open;obtain⟨kb,vb,cb,rfl,hb⟩:=hy.open;have hww:Ob.wts a.kids≤1000000000:=by cases a;rw[Ob.wt] at hw;simp only[Ob.kids];omega
 have hkt:Pl.tot a.keys≤1000000000:=by cases a;rw[Ob.wt] at hw;simp only[Ob.keys];omega
 have hlk:=Ob.len_wts a.kids;rw[Ob.eqb_eq];refine ret_of fun K hK=>S_foliantref05_Same_ok ?_;unfold S_foliantref05_Same;refine o_obb a ha.keys.one ha.kids.one (Own.start w) fun p w1 ho=>?_;refine o_obb b hb.keys.one hb.kids.one ho fun q w2 ho=>?_;rw[fa_o0,ob_k ho 1 rfl,fa_o0,ob_k ho 0 rfl];by_cases h1:a.k=b.k
 case neg=>simp only[rs,h1,decide_false,Bool.false_and] at hK ⊢;exact hK _ _ ⟨rfl,ho.done⟩
 simp only[rs,h1,decide_true,fa_o1,ob_n ho 1 rfl,ob_n ho 0 rfl,Bool.true_and] at hK ⊢;by_cases h2:a.n=b.n
 case neg=>simp only[rs,h2,decide_false,Bool.false_and] at hK ⊢;exact hK _ _ ⟨rfl,ho.done⟩
 simp only[rs,h2,decide_true,fa_o2,ob_g ho 1 rfl,ob_g ho 0 rfl,Bool.true_and] at hK ⊢;by_cases h3:a.g=b.g
 case neg=>simp only[rs,h3,decide_false,Bool.false_and] at hK ⊢;exact hK _ _ ⟨rfl,ho.done⟩
 simp only[rs,h3,decide_true,fa_o3,ob_s ho 1 rfl,ob_s ho 0 rfl,Bool.true_and] at hK ⊢;by_cases h4:a.s=b.s
 case neg=>simp only[rs,h4,decide_false,Bool.false_and] at hK ⊢;exact hK _ _ ⟨rfl,ho.done⟩
 simp only[rs,h4,decide_true,fa_o4,ob_keys ho 1 rfl,ob_keys ho 0 rfl,Bool.true_and] at hK ⊢;have hkl:=Pl.length_tot a.keys;refine c_told (rtexts_ret ka kb a.keys b.keys w2 (ho.oldSl ha.keys.1) (ho.oldSl hb.keys.1) (by omega)) rfl ho fun w3 ho=>?_;by_cases h5:a.keys=b.keys
 case neg=>simp only[rs,h5,decide_false,Bool.false_and] at hK ⊢;exact hK _ _ ⟨rfl,ho.done⟩
 simp only[rs,h5,decide_true,fa_o5,ob_kids ho 1 rfl,ob_kids ho 0 rfl,Bool.true_and] at hK ⊢;refine c_told (rlist_ret w3 (ha.in_ ho) (hb.in_ ho) (by omega) ?_) rfl ho fun w4 ho=>?_
 ·intro i hi hj x y W hx hy;have:=kid_wt hi;exact ih _ _ x y W (by omega) (by omega) hx hy
 exact hK _ _ ⟨rfl,ho.done⟩
end
end Go.Proofs.YtkejpieaafeblaaGreatDoor





namespace Go.Proofs.YtkejpieaafeblaaGreatDoor
section
open Go
namespace Vl
theorem dropK_app (key:List UInt8):∀{ks:List (List UInt8)} {cs:List Ob} (ks':List (List UInt8)) (cs':List Ob),ks.length=cs.length →
  dropK key (ks++ks') (cs++cs')=((dropK key ks cs).1++(dropK key ks' cs').1,(dropK key ks cs).2++(dropK key ks' cs').2)
|[],[],_,_,_=>by simp[dropK]
|[],_::_,_,_,h=>by simp at h
|_::_,[],_,_,h=>by simp at h
|a::ks,c::cs,ks',cs',h=>by
  have ih:=dropK_app key (ks:=ks) (cs:=cs) ks' cs' (by simpa using h);rw[List.cons_append,List.cons_append,dropK,dropK,ih];split<;>simp
theorem dropK_out (key:List UInt8):∀(ks:List (List UInt8)) (cs:List Ob),key ∉ (dropK key ks cs).1
|[],_=>by simp[dropK]
|_::_,[]=>by simp[dropK]
|a::ks,c::cs=>by
  rw[dropK];split
  ·exact dropK_out key ks cs
  ·rename_i h
   simp only[List.mem_cons,not_or];exact⟨fun e=>h e.symm,dropK_out key ks cs⟩
theorem dropK_lens (key:List UInt8):∀(ks:List (List UInt8)) (cs:List Ob),(dropK key ks cs).1.length=(dropK key ks cs).2.length
|[],_=>by simp[dropK]
|_::_,[]=>by simp[dropK]
|a::ks,c::cs=>by
  rw[dropK];split
  ·exact dropK_lens key ks cs
  ·simp[dropK_lens key ks cs]
theorem dropK_sub1 (key:List UInt8):∀(ks:List (List UInt8)) (cs:List Ob),(dropK key ks cs).1.Sublist ks
|[],_=>by simp[dropK]
|_::_,[]=>by simp[dropK]
|a::ks,c::cs=>by
  rw[dropK];split
  ·exact (dropK_sub1 key ks cs).trans (List.sublist_cons_self _ _)
  ·exact (dropK_sub1 key ks cs).cons_cons _
theorem dropK_sub2 (key:List UInt8):∀(ks:List (List UInt8)) (cs:List Ob),(dropK key ks cs).2.Sublist cs
|[],_=>by simp[dropK]
|_::_,[]=>by simp[dropK]
|a::ks,c::cs=>by
  rw[dropK];split
  ·exact (dropK_sub2 key ks cs).trans (List.sublist_cons_self _ _)
  ·exact (dropK_sub2 key ks cs).cons_cons _
theorem get_without (o:Ob)(key:List UInt8):get (without o key) key=none:=by
 unfold get;split
 ·rw[if_neg];rw[List.idxOf_lt_length_iff];exact dropK_out key o.keys o.kids
 ·rfl
theorem not_mem_take {l:List (List UInt8)}{key:List UInt8}:key ∉ l.take (place l key):=by
 intro h;obtain⟨m,hm,he⟩:=List.getElem_of_mem h;rw[List.length_take] at hm;have hlt:m < place l key:=by omega
 have:=place_lt hlt;rw[List.getElem_take] at he;rw[he,less_irrefl] at this;cases this
theorem get_put {o:Ob}{key:List UInt8}{v:Ob}(hk:keyed o=true)(hl:o.keys.length=o.kids.length):get (put o key v) key=some v:=by
 have hp:=place_le o.keys key;unfold get;rw[show keyed (put o key v)=keyed o from rfl,hk,if_pos rfl];have e:(put o key v).keys=o.keys.take (place o.keys key)++key::o.keys.drop (place o.keys key+if hit o.keys key then 1 else 0):=rfl;have e2:(put o key v).kids=o.kids.take (place o.keys key)++v::o.kids.drop (place o.keys key+if hit o.keys key then 1 else 0):=rfl;have hi:(put o key v).keys.idxOf key=place o.keys key:=by
  rw[e];refine idx_at (by simp;omega) ?_ ?_
  ·rw[List.take_left' (by rw[List.length_take];omega)];exact not_mem_take
  ·rw[List.getElem_append_right (by rw[List.length_take];omega)];simp[List.length_take,Nat.min_eq_left hp]
 rw[hi,if_pos (by rw[e];simp;omega),e2,List.getElem?_append_right (by rw[List.length_take];omega),List.length_take];have:place o.keys key - min (place o.keys key) o.kids.length=0:=by omega
 rw[this];rfl
theorem without_put {o:Ob}{key:List UInt8}{v:Ob}(hl:o.keys.length=o.kids.length):without (put o key v) key=without o key:=by
 have hp:=place_le o.keys key;have h1:(dropK key (o.keys.take (place o.keys key)++key::o.keys.drop (place o.keys key+if hit o.keys key then 1 else 0)) (o.kids.take (place o.keys key)++v::o.kids.drop (place o.keys key+if hit o.keys key then 1 else 0)))=dropK key o.keys o.kids:=by
  have h2:dropK key o.keys o.kids=dropK key (o.keys.take (place o.keys key)++o.keys.drop (place o.keys key)) (o.kids.take (place o.keys key)++o.kids.drop (place o.keys key)):=by rw[List.take_append_drop,List.take_append_drop]
  rw[h2,dropK_app key _ _ (by simp[hl]),dropK_app key _ _ (by simp[hl]),dropK,if_pos rfl];by_cases hh:hit o.keys key=true
  ·rw[if_pos hh];have hg:o.keys[place o.keys key]?=some key:=by simpa[hit] using hh
   obtain⟨hlt,hg⟩:=List.getElem?_eq_some_iff.1 hg;rw[List.drop_eq_getElem_cons (i:=place o.keys key) hlt,List.drop_eq_getElem_cons (i:=place o.keys key) (l:=o.kids) (by omega),dropK,if_pos hg]
  ·rw[if_neg hh];simp
 unfold without;rw[show (put o key v).keys=o.keys.take (place o.keys key)++key::o.keys.drop (place o.keys key+if hit o.keys key then 1 else 0) from rfl,
  show (put o key v).kids=o.kids.take (place o.keys key)++v::o.kids.drop (place o.keys key+if hit o.keys key then 1 else 0) from rfl,h1]
 rfl
theorem checks_iff {d:Nat}:∀{os:List Ob},checks d os=0↔∀o∈os,check d o=0
|[]=>by simp[checks]
|o::os=>by
  rw[checks];split
  ·rename_i h
   constructor
   ·intro e;exact absurd e h
   ·intro e;exact absurd (e o List.mem_cons_self) h
  ·rename_i h
   have h:=Classical.not_not.1 h;rw[checks_iff];simp[h]
theorem gd_at (l:List (List UInt8)){i:Nat}(h:i < l.length):l.getD i []=l[i]:=by rw[List.getD_eq_getElem?_getD,List.getElem?_eq_getElem h];rfl
theorem rising_iff {o:Ob}:rising o=true↔o.keys.length=o.kids.length∧Rise o.keys∧(∀k∈o.keys,name k=true∧(o.k=9→k≠lenK))∧∀c∈o.kids,c.k≠0:=by
 unfold rising;simp only[Bool.and_eq_true,decide_eq_true_eq,List.all_eq_true,List.mem_range];constructor
 ·rintro⟨hl,h⟩;have hat:∀i (hi:i < o.keys.length),name o.keys[i]=true∧(i=0∨less (o.keys.getD (i - 1) []) o.keys[i]=true)∧(o.k=9→o.keys[i]≠lenK)∧(o.kids[i]'(by omega)).k≠0:=by
   intro i hi;have:=h i hi;unfold keyAt at this;rw[gd_at _ hi,List.getD_eq_getElem?_getD (l:=o.kids),List.getElem?_eq_getElem (by omega:i < o.kids.length)] at this;simp only[Bool.and_eq_true,Bool.or_eq_true,decide_eq_true_eq,Option.getD_some,Bool.not_eq_true',Bool.and_eq_false_iff,decide_eq_false_iff_not] at this;obtain⟨⟨⟨a,b⟩,c⟩,e⟩:=this;exact⟨a,b,fun h9 hk=>c.elim (fun x=>x h9) (fun x=>x hk),e⟩
  refine⟨hl,?_,?_,?_⟩
  ·refine List.pairwise_iff_getElem.2 fun i j hi hj hij=>?_;have step:∀i (hi:i+1 < o.keys.length),less o.keys[i] o.keys[i+1]=true:=by
    intro i hi;have:=(hat (i+1) hi).2.1;rcases this with h0|h0
    ·omega
    ·rwa [Nat.add_sub_cancel,gd_at _ (by omega:i < o.keys.length)] at h0
   have:∀d,∀j (hj:j < o.keys.length),j=i+1+d→less o.keys[i] o.keys[j]=true:=by
    intro d
    induction d with
   |zero=>intro j hj he;subst he;exact step i hj
   |succ d ih=>
     intro j hj he;subst he;exact less_trans (ih (i+1+d) (by omega) rfl) (step (i+1+d) hj)
   exact this (j - (i+1)) j hj (by omega)
  ·intro k hk;obtain⟨i,hi,rfl⟩:=List.getElem_of_mem hk;exact⟨(hat i hi).1,(hat i hi).2.2.1⟩
  ·intro c hc;obtain⟨i,hi,rfl⟩:=List.getElem_of_mem hc;exact (hat i (by omega)).2.2.2
 ·rintro⟨hl,hr,hk,hc⟩;refine⟨hl,fun i hi=>?_⟩;unfold keyAt;rw[gd_at _ hi,List.getD_eq_getElem?_getD (l:=o.kids),List.getElem?_eq_getElem (by omega:i < o.kids.length)];simp only[Bool.and_eq_true,Bool.or_eq_true,decide_eq_true_eq,Option.getD_some,Bool.not_eq_true',Bool.and_eq_false_iff,decide_eq_false_iff_not];refine⟨⟨⟨(hk _ (List.getElem_mem hi)).1,?_⟩,?_⟩,hc _ (List.getElem_mem _)⟩
  ·rcases Nat.eq_zero_or_pos i with h0|h0
   ·exact .inl h0
   ·refine .inr ?_;rw[gd_at _ (by omega:i - 1 < o.keys.length)];exact rise_get hr (by omega) hi
  ·by_cases h9:o.k=9
   ·exact .inr ((hk _ (List.getElem_mem hi)).2 h9)
   ·exact .inl h9
theorem check_iff {d:Nat}{o:Ob}:check d o=0↔(d≤24∧usesOk o=true∧(o.k=9→d≤1)∧fits o=true∧o.s.length≤long o.k∧o.kids.length≤8191∧form o=true)∧∀c∈o.kids,check (d+1) c=0:=by
 rw[check_eq];have hw:why d o=0↔(d≤24∧usesOk o=true∧(o.k=9→d≤1)∧fits o=true∧o.s.length≤long o.k∧o.kids.length≤8191∧form o=true):=by
  unfold why;split
  ·simp;omega
  rename_i h1
  split
  ·rename_i h2
   simp only[show (10:Int)≠0 by decide,false_iff,not_and];rintro - a b;rcases h2 with h2|h2
   ·rw[h2] at a;cases a
   ·have:=b h2.1;omega
  rename_i h2
  simp only[not_or,Bool.not_eq_false,not_and,Nat.not_lt] at h2;split
  ·rename_i h3;simp[h3]
  rename_i h3
  split
  ·rename_i h4;simp;intros;omega
  rename_i h4
  split
  ·rename_i h5;simp;intros;omega
  rename_i h5
  split
  ·rename_i h6;simp[h6]
  rename_i h6
  simp only[Bool.not_eq_false] at h3 h6;exact⟨fun _=>⟨by omega,h2.1,h2.2,h3,by omega,by omega,h6⟩,fun _=>rfl⟩
 split
 ·rename_i h
  constructor
  ·intro e;exact absurd e h
  ·intro e;exact absurd (hw.2 e.1) h
 ·rename_i h
  have h:=Classical.not_not.1 h;rw[checks_iff];exact⟨fun e=>⟨hw.1 h,e⟩,fun e=>e.2⟩
theorem without_check {d:Nat}{o:Ob}{key:List UInt8}(h:check d o=0)(hk:keyed o=true):check d (without o key)=0:=by
 obtain⟨⟨a1,a2,a3,a4,a5,a6,a7⟩,hc⟩:=check_iff.1 h;have s1:=dropK_sub1 key o.keys o.kids;have s2:=dropK_sub2 key o.keys o.kids;have h79:o.k=7∨o.k=9:=by simpa[keyed] using hk
 have ek:(without o key).k=o.k:=rfl;have eks:(without o key).keys=(dropK key o.keys o.kids).1:=rfl;have ecs:(without o key).kids=(dropK key o.keys o.kids).2:=rfl;refine check_iff.2 ⟨⟨a1,?_,a3,a4,a5,?_,?_⟩,fun c hc'=>hc c (s2.subset hc')⟩
 ·unfold usesOk at a2 ⊢;rw[ek];rcases h79 with h7|h9
  ·rw[h7] at a2 ⊢;simpa[used,show (without o key).n=o.n from rfl,show (without o key).g=o.g from rfl,show (without o key).s=o.s from rfl] using a2
  ·rw[h9] at a2 ⊢;simpa[used,show (without o key).n=o.n from rfl,show (without o key).g=o.g from rfl,show (without o key).s=o.s from rfl] using a2
 ·rw[ecs];exact Nat.le_trans s2.length_le a6
 ·unfold form at a7 ⊢;rw[ek];simp only[Bool.and_eq_true] at a7 ⊢;refine⟨a7.1,?_⟩;rw[decide_eq_true h79] at a7 ⊢;have hr:rising o=true:=by simpa using a7.2
  obtain⟨r1,r2,r3,r4⟩:=rising_iff.1 hr;have:rising (without o key)=true:=by
   refine rising_iff.2 ⟨?_,?_,?_,?_⟩
   ·rw[eks,ecs];exact dropK_lens key _ _
   ·rw[eks];exact List.Pairwise.sublist s1 r2
   ·rw[eks];exact fun k hk=>r3 k (s1.subset hk)
   ·rw[ecs];exact fun c hc=>r4 c (s2.subset hc)
  simp[this]
end Vl
namespace Dk
end Dk
end
section
open Go
namespace Ps
open Lx (next Tok Single)
open Wr (num parts partsL partsD)
def At (s:List UInt8)(a:Int)(p:List UInt8)(b:Int):Prop:=∃(x:Tok) (a':Int),Single p x∧next s a=({ x with a:=a',t:=b },0)
def Toks (s:List UInt8):Int→List (List UInt8)→Int→Prop
|a,[],b=>a=b
|a,p::ps,b=>∃c,At s a p c∧Toks s c ps b
theorem toks_app {s:List UInt8}:∀{ps qs:List (List UInt8)} {a b:Int},Toks s a (ps++qs) b↔∃c,Toks s a ps c∧Toks s c qs b
|[],qs,a,b=>by simp[Toks]
|p::ps,qs,a,b=>by
  simp only[List.cons_append,Toks,toks_app];constructor
  ·rintro⟨c,h1,d,h2,h3⟩;exact⟨d,⟨c,h1,h2⟩,h3⟩
  ·rintro⟨d,⟨c,h1,h2⟩,h3⟩;exact⟨c,h1,d,h2,h3⟩
theorem single_eq {p:List UInt8}{x y:Tok}(h:Single p x)(k:Single p y):x=y:=by
 have:=h.1.symm.trans k.1;exact (Prod.mk.inj this).1
theorem At.next {s:List UInt8}{a b:Int}{p:List UInt8}{x:Tok}(h:At s a p b)(hx:Single p x):∃a',Lx.next s a=({ x with a:=a',t:=b },0):=by
 obtain⟨y,a',h1,h2⟩:=h;rw[single_eq hx h1];exact⟨a',h2⟩
theorem tk_num {n:Int}(h1:-2147483647≤n)(h2:n≤2147483647):Single (num n) ⟨1,0,(num n).length,n,[]⟩:=by
 have e:num n=Lib.itoa n:=by unfold num Pl.pInt;rw[if_pos ⟨h1,h2⟩]
 rw[e];exact⟨Lx.itoa_next h1 h2,by simp,rfl,rfl⟩
theorem tk_name {l:List UInt8}(h:Vl.name l=true):Single (Pl.pName l).1 ⟨4,0,(Pl.pName l).1.length,0,l⟩:=by
 unfold Vl.name at h;simp only[Bool.and_eq_true,decide_eq_true_eq] at h;have e:(Pl.pName l).1=Pl.name l:=by unfold Pl.pName;rw[if_neg (by omega),if_neg (by simpa using h.2)]
 rw[e];exact⟨Lx.name_next h.1 h.2,by simp,rfl,rfl⟩
theorem tk_str {l:List UInt8}(h:l.length≤32767):Single (Pl.pStr l).1 ⟨3,0,(Pl.pStr l).1.length,0,l⟩:=by
 have e:(Pl.pStr l).1=Pl.str l:=by unfold Pl.pStr;rw[if_neg (by omega)]
 rw[e];exact⟨Lx.str_next h,by simp,rfl,rfl⟩
theorem tk_real {n:Int}(h:Fx.okB n=true):Single (Pl.pReal n).1 ⟨2,0,(Pl.pReal n).1.length,n,[]⟩:=by
 have e:(Pl.pReal n).1=Fx.text n:=by unfold Pl.pReal;rw[if_pos h]
 rw[e];exact⟨Lx.text_next h,by simp,rfl,rfl⟩
theorem tk_R:Single [82] ⟨5,0,1,0,[82]⟩:=by unfold Single;decide +kernel
theorem tk_a:Single [91] ⟨6,0,1,0,[91]⟩:=by unfold Single;decide +kernel
theorem tk_b:Single [93] ⟨6,0,1,0,[93]⟩:=by unfold Single;decide +kernel
theorem tk_c:Single [60,60] ⟨6,0,2,0,[60,60]⟩:=by unfold Single;decide +kernel
theorem tk_d:Single [62,62] ⟨6,0,2,0,[62,62]⟩:=by unfold Single;decide +kernel
theorem tk_nul:Single Wr.nul ⟨5,0,4,0,nul⟩:=by unfold Single;decide +kernel
theorem tk_tru:Single Wr.tru ⟨5,0,4,0,tru⟩:=by unfold Single;decide +kernel
theorem tk_fal:Single Wr.fal ⟨5,0,5,0,fal⟩:=by unfold Single;decide +kernel
def NoRef (s:List UInt8)(b:Int):Prop:=(next s b).2=0→(next s b).1.k=1→(next s (next s b).1.t).2=0→¬((next s (next s b).1.t).1.k=5∧(next s (next s b).1.t).1.s=[82])
theorem ref_none {s:List UInt8}{t:Tok}(h:NoRef s t.t):ref s t=none:=by
 unfold ref;split
 ·rfl
 split
 ·rfl
 rename_i h1
 simp only[not_or,Classical.not_not] at h1;rw[if_neg];rintro⟨h2,h3,h4⟩;exact h h1.1 h1.2.1 h2 ⟨h3,h4⟩
def NotR (p:List UInt8):Prop:=∀x,Single p x→¬(x.k=5∧x.s=[82])
def NotI (p:List UInt8):Prop:=∀x,Single p x→x.k≠1
def Bg (p:List UInt8):Prop:=∀x,Single p x→begins x=true
theorem bg_of {p:List UInt8}{x:Tok}(h:Single p x)(hx:begins x=true):Bg p:=fun y hy=>by rw[←single_eq h hy];exact hx
theorem begins_open {x:Tok}(h:begins x=true):x.k≠0∧¬(x.k=6∧x.s=[93])∧¬(x.k=6∧x.s=[62,62]):=by
 unfold begins at h;split at h
 ·rename_i h6
  simp only[Bool.or_eq_true,decide_eq_true_eq] at h;refine⟨by omega,?_,?_⟩
  ·rintro⟨_,e⟩;rw[e] at h;revert h;decide
  ·rintro⟨_,e⟩;rw[e] at h;revert h;decide
 ·rename_i h6
  simp only[Bool.and_eq_true,Bool.not_eq_true',decide_eq_false_iff_not] at h;exact⟨h.1,fun e=>h6 e.1,fun e=>h6 e.1⟩
theorem At.bg {s:List UInt8}{a b:Int}{p:List UInt8}(h:At s a p b)(hp:Bg p):(Lx.next s a).2=0∧begins (Lx.next s a).1=true∧(Lx.next s a).1.t=b:=by
 obtain⟨x,a',h1,h2⟩:=h;rw[h2];exact⟨rfl,hp x h1,rfl⟩
theorem notR_of {p:List UInt8}{x:Tok}(h:Single p x)(hx:¬(x.k=5∧x.s=[82])):NotR p:=fun y hy=>by rw[←single_eq h hy];exact hx
theorem notI_of {p:List UInt8}{x:Tok}(h:Single p x)(hx:x.k≠1):NotI p:=fun y hy=>by rw[←single_eq h hy];exact hx
theorem noRef_head {s:List UInt8}{a b:Int}{p:List UInt8}(h:At s a p b)(hp:NotI p):NoRef s a:=by
 obtain⟨x,a',h1,h2⟩:=h;intro _ hk;rw[h2] at hk;exact absurd hk (hp x h1)
theorem noRef_two {s:List UInt8}{a b c:Int}{p q:List UInt8}(h:At s a p b)(k:At s b q c)(hq:NotR q):NoRef s a:=by
 obtain⟨x,a',h1,h2⟩:=h;obtain⟨y,b',k1,k2⟩:=k;intro _ _ _;rw[h2];show ¬((next s b).1.k=5∧(next s b).1.s=[82]);rw[k2];exact hq y k1
theorem parts_head {o:Ob}{d:Nat}(h:Vl.check d o=0):∃p ps,parts o=p::ps∧NotR p∧Bg p∧(∀q qs,NotR q→∀{s:List UInt8} {a e:Int},Toks s a (parts o++q::qs) e→NoRef s a):=by
 obtain⟨_,_,hf,hl,hm⟩:=Wr.why_parts h;rw[Wr.parts_eq];by_cases k8:o.k=8
 ·have hn:(1≤o.n∧o.n≤8191)∧(0≤o.g∧o.g≤65535):=by
   simp[Vl.fits,k8] at hf;exact hf
  rw[if_pos k8];have t1:=tk_num (n:=o.n) (by omega) (by omega);have t2:=tk_num (n:=o.g) (by omega) (by omega);refine⟨_,_,rfl,notR_of t1 (by simp),bg_of t1 (by simp[begins]),?_⟩
  ·rintro q qs _ s a e ⟨b,h1,c,h2,_⟩;exact noRef_two h1 h2 (notR_of t2 (by simp))
 rw[if_neg k8];by_cases k6:o.k=6
 ·rw[if_pos k6];refine⟨_,_,rfl,notR_of tk_a (by decide),bg_of tk_a (by decide),?_⟩;rintro q qs _ s a e ⟨b,h1,_⟩;exact noRef_head h1 (notI_of tk_a (by decide))
 rw[if_neg k6];by_cases k7:o.k=7
 ·rw[if_pos k7];refine⟨_,_,rfl,notR_of tk_c (by decide),bg_of tk_c (by decide),?_⟩;rintro q qs _ s a e ⟨b,h1,_⟩;exact noRef_head h1 (notI_of tk_c (by decide))
 rw[if_neg k7];have key:∃x,Single (Wr.leaf o.k o.n o.s) x∧¬(x.k=5∧x.s=[82])∧begins x=true:=by
  unfold Wr.leaf;split
  ·split
   ·exact⟨_,tk_fal,by decide,by decide⟩
   ·exact⟨_,tk_tru,by decide,by decide⟩
  split
  ·rename_i h1 h2
   have:-2147483647≤o.n∧o.n≤2147483647:=by simpa[Vl.fits,h2] using hf
   exact⟨_,tk_num this.1 this.2,by simp,by simp[begins]⟩
  split
  ·rename_i h1 h2 h3
   have:-1073741824≤o.n∧o.n≤1073741824:=by simpa[Vl.fits,h3] using hf
   exact⟨_,tk_real (by simp[Fx.okB];omega),by simp,by simp[begins]⟩
  split
  ·rename_i h1 h2 h3 h4
   have:Vl.long o.k=32767:=by rw[h4];rfl
   exact⟨_,tk_str (by omega),by simp,by simp[begins]⟩
  split
  ·rename_i h1 h2 h3 h4 h5
   exact⟨_,tk_name (Wr.form_name hm h5),by simp,by simp[begins]⟩
  ·exact⟨_,tk_nul,by decide,by decide⟩
 obtain⟨x,hx,hr,h6⟩:=key;refine⟨_,_,rfl,notR_of hx hr,bg_of hx h6,?_⟩
 ·rintro q qs hq s a e ⟨b,h1,c,h2,_⟩;exact noRef_two h1 h2 hq
def Reads (s:List UInt8)(sub:Int→R)(o:Ob):Prop:=∀a b,Toks s a (parts o) b→(o.k=2→NoRef s b)→sub a=(o,b,0)
theorem arr_back {s:List UInt8}{ok:Bool}{sub:Int→R}{d:Nat}:∀(os acc:List Ob) (m:Nat) (a b:Int),(∀o∈os,Vl.check d o=0∧Reads s sub o)→(acc++os).length≤8191→os.length < m →
  Toks s a (partsL os++[[93]]) b→arr s ok sub m a acc=(.mk 6 0 0 [] [] (acc++os),b,0)
|[],acc,m+1,a,b,_,_,_,ht=>by
  rw[partsL,List.nil_append] at ht;obtain⟨c,h1,h2⟩:=ht;have h2:c=b:=h2;subst h2;obtain⟨a',hn⟩:=h1.next tk_b
  rw[arr,hn,if_pos ⟨rfl,rfl,rfl⟩,List.append_nil]
|o::os,acc,m+1,a,b,ho,hl,hm,ht=>by
  obtain⟨hc,hr⟩:=ho o List.mem_cons_self;obtain⟨p,ps,hp,hpR,hpb,_⟩:=parts_head hc;rw[partsL,List.append_assoc] at ht;obtain⟨c,h1,h2⟩:=toks_app.1 ht;have hsub:sub a=(o,c,0):=by
   refine hr a c h1 fun _=>?_;cases os with
  |nil=>
    rw[partsL,List.nil_append] at h2;obtain⟨e,h3,_⟩:=h2;exact noRef_head h3 (notI_of tk_b (by decide))
  |cons o2 os2=>
    obtain⟨hc2,_⟩:=ho o2 (by simp);obtain⟨_,_,_,_,_,hno⟩:=parts_head hc2;rw[partsL,List.append_assoc] at h2;cases os2 with
   |nil=>exact hno [93] [] (notR_of tk_b (by decide)) (by simpa[partsL] using h2)
   |cons o3 os3=>
     obtain⟨hc3,_⟩:=ho o3 (by simp);obtain⟨p3,ps3,hp3,hR3,_,_⟩:=parts_head hc3;rw[partsL,hp3,List.append_assoc,List.cons_append] at h2;exact hno p3 _ hR3 h2
  have hn:(next s a).2=0∧¬((next s a).1.k=6∧(next s a).1.s=[93]):=by
   rw[hp] at h1;obtain⟨e,h3,_⟩:=h1;have:=h3.bg hpb;exact⟨this.1,(begins_open this.2.1).2.1⟩
  have hacc:acc.length≠8191:=by simp at hl;omega
  rw[arr,if_neg (fun h=>hn.2 h.2),if_neg (fun h=>hacc h.2.1),if_neg (by simp[hn.1]),hsub,if_neg (by simp)];have:=arr_back (ok:=ok) os (acc++[o]) m c b (fun x hx=>ho x (List.mem_cons_of_mem _ hx)) (by simp at hl ⊢;omega) (by simpa using hm) h2;rw[this,List.append_assoc];rfl
|[],_,0,_,_,_,_,h,_=>by simp at h
|_::_,_,0,_,_,_,_,h,_=>by simp at h
theorem put_end {K:List (List UInt8)}{C:List Ob}{key:List UInt8}{v:Ob}(h:Vl.Rise (K++[key]))(hl:K.length=C.length):Vl.put (.mk 7 0 0 [] K C) key v=.mk 7 0 0 [] (K++[key]) (C++[v]):=by
 have hp:Vl.place K key=K.length:=by
  refine Vl.place_at (Nat.le_refl _) (fun m hm _=>?_) (fun h=>absurd h (by omega));have:=Vl.rise_get h (i:=m) (j:=K.length) hm (by simp);simpa[List.getElem_append_left hm] using this
 have hh:Vl.hit K key=false:=by unfold Vl.hit;rw[hp];simp
 unfold Vl.put;simp only[Ob.keys,Ob.kids,Ob.k,Ob.n,Ob.g,Ob.s,hp,hh,Bool.false_eq_true,if_false,Nat.add_zero,List.take_length,List.drop_length];rw[hl,List.take_length,List.drop_length]
theorem dict_back {s:List UInt8}{sub:Int→R}{d:Nat}:∀(keys:List (List UInt8)) (kids:List Ob) (K:List (List UInt8)) (C:List Ob) (m:Nat) (a b:Int),keys.length=kids.length→K.length=C.length→(∀k∈keys,Vl.name k=true)→Vl.Rise (K++keys) →
  (∀o∈kids,Vl.check d o=0∧o.k≠0∧Reads s sub o)→(K++keys).length≤8191→keys.length < m→Toks s a (partsD keys kids++[[62,62]]) b→dict s sub m a (.mk 7 0 0 [] K C) K=(.mk 7 0 0 [] (K++keys) (C++kids),b,0)
|[],[],K,C,m+1,a,b,_,_,_,_,_,_,_,ht=>by
  rw[partsD,List.nil_append] at ht;obtain⟨c,h1,h2⟩:=ht;have h2:c=b:=h2;subst h2;obtain⟨a',hn⟩:=h1.next tk_d
  rw[dict,hn,if_neg (by simp),if_pos ⟨rfl,rfl⟩,List.append_nil,List.append_nil]
|key::keys,o::kids,K,C,m+1,a,b,hlen,hKC,hnm,hr,ho,hl,hm,ht=>by
  obtain⟨hc,h0,hrd⟩:=ho o List.mem_cons_self;have htk:=tk_name (hnm key List.mem_cons_self);rw[partsD] at ht;simp only[List.cons_append,List.append_assoc] at ht;obtain⟨c,h1,h2⟩:=ht;obtain⟨e,h3,h4⟩:=toks_app.1 h2;obtain⟨a',hn⟩:=h1.next htk
  have hsub:sub c=(o,e,0):=by
   refine hrd c e h3 fun _=>?_;cases keys with
  |nil=>
    cases kids with
   |nil=>
     rw[partsD,List.nil_append] at h4;obtain⟨f,h5,_⟩:=h4;exact noRef_head h5 (notI_of tk_d (by decide))
   |cons _ _=>simp at hlen
  |cons k2 ks=>
    cases kids with
   |nil=>simp at hlen
   |cons o2 os=>
     rw[partsD,List.cons_append] at h4;obtain⟨f,h5,_⟩:=h4;exact noRef_head h5 (notI_of (tk_name (hnm k2 (by simp))) (by simp))
  have hk:key ∉ K:=by
   intro hk;have:=(List.pairwise_append.1 hr).2.2 key hk key List.mem_cons_self;rw[Vl.less_irrefl] at this;cases this
  have hK:K.length≠8191:=by simp at hl;omega
  have hr1:Vl.Rise (K++[key]):=by
   refine List.Pairwise.sublist ?_ hr;exact (List.Sublist.refl K).append (List.Sublist.cons_cons key (List.nil_sublist keys))
  rw[dict,hn,if_neg (by simp),if_neg (by simp),if_neg (by simp),if_neg (by simp),if_neg (by simpa using hk),if_neg hK];simp only;rw[hsub,if_neg (by simp)];simp only;unfold join;rw[if_pos h0,put_end hr1 hKC];have:=dict_back keys kids (K++[key]) (C++[o]) m e b (by simpa using hlen) (by simp[hKC]) (fun k hk=>hnm k (List.mem_cons_of_mem _ hk)) (by rw[List.append_assoc];exact hr) (fun x hx=>ho x (List.mem_cons_of_mem _ hx)) (by rw[List.append_assoc];exact hl) (by simpa using hm) h4;rw[this,List.append_assoc,List.append_assoc];rfl
|[],_::_,_,_,_,_,_,h,_,_,_,_,_,_,_=>by simp at h
|_::_,[],_,_,_,_,_,h,_,_,_,_,_,_,_=>by simp at h
|[],[],_,_,0,_,_,_,_,_,_,_,_,h,_=>by simp at h
|_::_,_::_,_,_,0,_,_,_,_,_,_,_,_,h,_=>by simp at h
theorem At.bd {s:List UInt8}{a b:Int}{p:List UInt8}(h:At s a p b):0≤a∧a < b∧b≤s.length:=by
 obtain⟨x,a',h1,h2⟩:=h;have:=Lx.next_bd (s:=s) (i:=a) (by rw[h2]) (by rw[h2];exact h1.2.1);have:=Lx.skip_ge s a.toNat;rw[h2] at *;simp only at *;omega
theorem toks_bd {s:List UInt8}:∀{ps:List (List UInt8)} {a b:Int},ps≠[]→Toks s a ps b→0≤a∧a+ps.length≤b∧b≤s.length
|[],_,_,h,_=>absurd rfl h
|[p],a,b,_,⟨c,h1,h2⟩=>by
  have h2:c=b:=h2;have:=h1.bd;simp only[List.length_singleton];omega
|p::q::ps,a,b,_,⟨c,h1,h2⟩=>by
  have h3:=toks_bd (List.cons_ne_nil q ps) h2;have:=h1.bd;simp only[List.length_cons] at *;omega
theorem parts_pos (o:Ob):1≤(parts o).length:=by
 rw[Wr.parts_eq];split
 ·simp
 split
 ·simp
 split
 ·simp
 ·simp
theorem partsL_pos:∀os:List Ob,os.length≤(partsL os).length
|[]=>by simp
|o::os=>by
  have:=partsL_pos os;have:=parts_pos o;rw[partsL,List.length_append,List.length_cons];omega
theorem partsD_pos:∀(ks:List (List UInt8)) (os:List Ob),ks.length=os.length→os.length≤(partsD ks os).length
|[],[],_=>by simp
|k::ks,o::os,h=>by
  have:=partsD_pos ks os (by simpa using h);rw[partsD,List.length_cons,List.length_cons,List.length_append];omega
|[],_::_,h=>by simp at h
|_::_,[],h=>by simp at h
theorem mk_eq {o:Ob}{k n g:Int}{s:List UInt8}{ks:List (List UInt8)}{cs:List Ob}(h1:o.k=k)(h2:o.n=n)(h3:o.g=g)(h4:o.s=s)(h5:o.keys=ks)(h6:o.kids=cs):Ob.mk k n g s ks cs=o:=by
 subst h1;subst h2;subst h3;subst h4;subst h5;subst h6;cases o;rfl
theorem nil_of {α:Type}{l:List α}(h:decide (l.length=0)=true):l=[]:=List.length_eq_zero_iff.1 (of_decide_eq_true h)
theorem uses_k {o:Ob}(h:Vl.usesOk o=true):∃n g s ks cs,Vl.used o.k=some (n,g,s,ks,cs)∧(n=false→o.n=0)∧(g=false→o.g=0)∧(s=false→o.s=[])∧(ks=false→o.keys=[])∧(cs=false→o.kids=[]):=by
 unfold Vl.usesOk at h;split at h
 ·cases h
 ·rename_i n g s ks cs he
  simp only[Bool.and_eq_true,Bool.or_eq_true] at h;obtain⟨⟨⟨⟨h1,h2⟩,h3⟩,h4⟩,h5⟩:=h;refine⟨n,g,s,ks,cs,he,?_,?_,?_,?_,?_⟩
  ·intro e;rcases h1 with h1|h1
   ·rw[e] at h1;cases h1
   ·exact of_decide_eq_true h1
  ·intro e;rcases h2 with h1|h1
   ·rw[e] at h1;cases h1
   ·exact of_decide_eq_true h1
  ·intro e;rcases h3 with h1|h1
   ·rw[e] at h1;cases h1
   ·exact of_decide_eq_true h1
  ·intro e;rcases h4 with h1|h1
   ·rw[e] at h1;cases h1
   ·exact of_decide_eq_true h1
  ·intro e;rcases h5 with h1|h1
   ·rw[e] at h1;cases h1
   ·exact nil_of h1
theorem uses_of {o:Ob}{n g s ks cs:Bool}(h:Vl.usesOk o=true)(hu:Vl.used o.k=some (n,g,s,ks,cs)):(n=false→o.n=0)∧(g=false→o.g=0)∧(s=false→o.s=[])∧(ks=false→o.keys=[])∧(cs=false→o.kids=[]):=by
 obtain⟨n',g',s',ks',cs',he,r⟩:=uses_k h;rw[hu] at he
 injection he with he
 simp only[Prod.mk.injEq] at he;obtain⟨rfl,rfl,rfl,rfl,rfl⟩:=he;exact r
theorem used_kind {k:Int}{x:Bool×Bool×Bool×Bool×Bool}(h:Vl.used k=some x):k=0∨k=1∨k=2∨k=3∨k=4∨k=5∨k=6∨k=7∨k=8∨k=9:=by
 unfold Vl.used at h
 (repeat' split at h)<;>first|omega|cases h
theorem obj_back (s:List UInt8)(n:Nat):∀(o:Ob) (d:Nat),o.wt≤n→1≤d→Vl.check d o=0→o.k≠9→Reads s (obj s (25 - d)) o:=by
 induction n with
|zero=>intro o d h;have:=o.wt_pos;omega
|succ n ih=>
  intro o d hw hd hc h9 a b ht hno;obtain⟨⟨a1,a2,a3,a4,a5,a6,a7⟩,hck⟩:=Vl.check_iff.1 hc;obtain⟨p,ps,hp,hpR,hpb,_⟩:=parts_head hc;have hcl:25 - d=(25 - (d+1))+1:=by omega
  have hkids:∀x∈o.kids,Vl.check (d+1) x=0∧Reads s (obj s (25 - (d+1))) x:=by
   intro x hx;have hcx:=hck x hx;obtain⟨i,hi,rfl⟩:=List.getElem_of_mem hx;have hkw:=kid_wt hi;refine⟨hcx,ih _ (d+1) (by omega) (by omega) hcx ?_⟩;intro e9;have:=(Vl.check_iff.1 hcx).1.2.2.1 e9;omega
  obtain⟨c,h1,h2⟩:∃c,At s a p c∧Toks s c ps b:=by rw[hp] at ht;exact ht
  obtain⟨x,a',hx,hn⟩:=h1;have hbg:=hpb x hx;have hob:=begins_open hbg;have hbd:=toks_bd (by rw[hp];simp) ht;rw[hcl,obj,hn,if_neg (by simp),if_neg hob.1,if_neg (by show ¬begins x=false;rw[hbg];simp)];simp only;rw[Wr.parts_eq] at hp;by_cases k8:o.k=8
  ·rw[if_pos k8] at hp
   injection hp with e1 e2
   subst e1;subst e2;have hf:(1≤o.n∧o.n≤8191)∧(0≤o.g∧o.g≤65535):=by simpa[Vl.fits,k8] using a4
   obtain⟨-,-,u3,u4,u5⟩:=uses_of a2 (show Vl.used o.k=_ by rw[k8];rfl);have eo:Ob.mk 8 o.n o.g [] [] []=o:=mk_eq k8 rfl rfl (u3 rfl) (u4 rfl) (u5 rfl);have e:=single_eq hx (tk_num (n:=o.n) (by omega) (by omega));subst e;obtain⟨c2,⟨y,a2',hy,hn2⟩,c3,⟨z,a3',hz,hn3⟩,he⟩:=h2;have he:c3=b:=he;subst he;have ey:=single_eq hy (tk_num (n:=o.g) (by omega) (by omega));have ez:=single_eq hz tk_R;subst ey;subst ez;simp only[ne_eq,Int.reduceEq,not_false_eq_true,if_true];unfold leaf;simp only[if_true];have hr:ref s ⟨1,a',c,o.n,[]⟩=some (o.g,c3):=by
    unfold ref;simp only;rw[if_neg (by omega),hn2];simp only;rw[if_neg (by omega),hn3];simp
   rw[hr];simp only;rw[eo]
  rw[if_neg k8] at hp;by_cases k6:o.k=6
  ·rw[if_pos k6] at hp
   injection hp with e1 e2
   subst e1;subst e2;obtain⟨u1,u2,u3,u4,-⟩:=uses_of a2 (show Vl.used o.k=_ by rw[k6];rfl);have eo:Ob.mk 6 0 0 [] [] o.kids=o:=mk_eq k6 (u1 rfl) (u2 rfl) (u3 rfl) (u4 rfl) rfl;have e:=single_eq hx tk_a;subst e;simp only[ne_eq,not_true,if_false,if_true];have hlk:=partsL_pos o.kids;have:=toks_bd (by simp) h2;simp only[List.length_append,List.length_singleton] at this;have hbk:=arr_back (ok:=decide (25 - (d+1)≠0)) o.kids [] (s.length+1) c b hkids (by simpa using a6) (by omega) h2;rw[List.nil_append,eo] at hbk;simpa using hbk
  rw[if_neg k6] at hp;by_cases k7:o.k=7
  ·rw[if_pos k7] at hp
   injection hp with e1 e2
   subst e1;subst e2;obtain⟨u1,u2,u3,-,-⟩:=uses_of a2 (show Vl.used o.k=_ by rw[k7];rfl);have eo:Ob.mk 7 0 0 [] o.keys o.kids=o:=mk_eq k7 (u1 rfl) (u2 rfl) (u3 rfl) rfl rfl;have e:=single_eq hx tk_c;subst e;have hr:Vl.rising o=true:=by simpa[Vl.form,k7] using a7
   obtain⟨r1,r2,r3,r4⟩:=Vl.rising_iff.1 hr;simp only[ne_eq,not_true,if_false];rw[if_neg (by decide)];have hlk:=partsD_pos o.keys o.kids r1;have:=toks_bd (by simp) h2;simp only[List.length_append,List.length_singleton] at this;have hbk:=dict_back (sub:=obj s (25 - (d+1))) o.keys o.kids [] [] (s.length+1) c b r1 rfl (fun k hk=>(r3 k hk).1) (by simpa using r2) (fun y hy=>⟨(hkids y hy).1,r4 y hy,(hkids y hy).2⟩) (by simp;omega) (by omega) h2;rw[List.nil_append,List.nil_append,eo] at hbk;exact hbk
  rw[if_neg k7] at hp
  injection hp with e1 e2
  subst e1;subst e2;have he:c=b:=h2;subst he;obtain⟨bn,bg,bs,bk,bc,hu,-⟩:=uses_k a2;rcases used_kind hu with k0|k0|k0|k0|k0|k0|k0|k0|k0|k0
  ·obtain⟨u1,u2,u3,u4,u5⟩:=uses_of a2 (show Vl.used o.k=_ by rw[k0];rfl);have eo:Ob.mk 0 0 0 [] [] []=o:=mk_eq k0 (u1 rfl) (u2 rfl) (u3 rfl) (u4 rfl) (u5 rfl);have e:=single_eq hx (by rw[k0];exact tk_nul);subst e;rw[if_pos (by decide),←eo];unfold leaf;simp only;rw[if_neg (by decide),if_neg (by decide),if_neg (by decide),if_neg (by decide),if_pos trivial];rfl
  ·obtain⟨-,u2,u3,u4,u5⟩:=uses_of a2 (show Vl.used o.k=_ by rw[k0];rfl);have hf:0≤o.n∧o.n≤1:=by simpa[Vl.fits,k0] using a4
   rw[k0] at hx;by_cases h0:o.n=0
   ·have eo:Ob.mk 1 0 0 [] [] []=o:=mk_eq k0 h0 (u2 rfl) (u3 rfl) (u4 rfl) (u5 rfl);rw[h0] at hx;have e:=single_eq hx tk_fal;subst e;rw[if_pos (by decide),←eo];unfold leaf;simp only;rw[if_neg (by decide),if_neg (by decide),if_neg (by decide),if_neg (by decide),if_neg (by decide),if_neg (by decide)]
   ·have h1:o.n=1:=by omega
    have eo:Ob.mk 1 1 0 [] [] []=o:=mk_eq k0 h1 (u2 rfl) (u3 rfl) (u4 rfl) (u5 rfl);rw[h1] at hx;have e:=single_eq hx tk_tru;subst e;rw[if_pos (by decide),←eo];unfold leaf;simp only;rw[if_neg (by decide),if_neg (by decide),if_neg (by decide),if_neg (by decide),if_neg (by decide),if_pos (by decide)]
  ·obtain⟨-,u2,u3,u4,u5⟩:=uses_of a2 (show Vl.used o.k=_ by rw[k0];rfl);have eo:Ob.mk 2 o.n 0 [] [] []=o:=mk_eq k0 rfl (u2 rfl) (u3 rfl) (u4 rfl) (u5 rfl);have hf:-2147483647≤o.n∧o.n≤2147483647:=by simpa[Vl.fits,k0] using a4
   have e:=single_eq hx (by rw[k0];exact tk_num hf.1 hf.2);subst e;rw[if_pos (by simp)];unfold leaf;simp only[if_true];rw[ref_none (hno k0)];simp only;rw[eo]
  ·obtain⟨-,u2,u3,u4,u5⟩:=uses_of a2 (show Vl.used o.k=_ by rw[k0];rfl);have eo:Ob.mk 3 o.n 0 [] [] []=o:=mk_eq k0 rfl (u2 rfl) (u3 rfl) (u4 rfl) (u5 rfl);have hf:-1073741824≤o.n∧o.n≤1073741824:=by simpa[Vl.fits,k0] using a4
   have e:=single_eq hx (by rw[k0];exact tk_real (n:=o.n) (by simp[Fx.okB];omega));subst e;rw[if_pos (by simp)];unfold leaf;simp[eo]
  ·obtain⟨u1,u2,-,u4,u5⟩:=uses_of a2 (show Vl.used o.k=_ by rw[k0];rfl);have eo:Ob.mk 4 0 0 o.s [] []=o:=mk_eq k0 (u1 rfl) (u2 rfl) rfl (u4 rfl) (u5 rfl);have h5:o.s.length≤32767:=by have:Vl.long o.k=32767:=(by rw[k0];rfl);omega
   have e:=single_eq hx (by rw[k0];exact tk_str h5);subst e;rw[if_pos (by simp)];unfold leaf;simp[eo]
  ·obtain⟨u1,u2,-,u4,u5⟩:=uses_of a2 (show Vl.used o.k=_ by rw[k0];rfl);have eo:Ob.mk 5 0 0 o.s [] []=o:=mk_eq k0 (u1 rfl) (u2 rfl) rfl (u4 rfl) (u5 rfl);have e:=single_eq hx (by rw[k0];exact tk_name (Wr.form_name a7 k0));subst e;rw[if_pos (by simp)];unfold leaf;simp[eo]
  all_goals first|exact absurd k0 k6|exact absurd k0 k7|exact absurd k0 k8|exact absurd k0 h9
end Ps
end
section
open Go
namespace Ps
open Lx (Tok Single stops joinR gap skip)
def Ends (p m:List UInt8):Prop:=(Oc.regular (Pl.lastC p)||decide (Pl.lastC p=47))=true→stops m
theorem ends_stop {p m:List UInt8}(h:stops m):Ends p m:=fun _=>h
theorem stops_cons {c:UInt8}{t:List UInt8}(h:Oc.regular c=false):stops (c::t):=fun d u e=>by injection e with e1 _;rw[←e1];exact h
theorem at_of {p:List UInt8}{x:Tok}(hx:Single p x)(pre m:List UInt8)(hm:Ends p m){a:Nat}(ha:a≤(pre++(p++m)).length)(hs:skip (pre++(p++m)) a=pre.length):At (pre++(p++m)) a p ((pre.length:Int)+p.length):=by
 have hT:=Lx.token_ext pre m hx hm;refine⟨x,pre.length,hx,?_⟩;unfold Lx.next
 rw[if_neg (by omega),Int.toNat_natCast,hs,hT]
theorem skip_here {pre:List UInt8}{c:UInt8}{t:List UInt8}(h37:c≠37)(hw:Oc.white c=false):skip (pre++c::t) pre.length=pre.length:=by
 unfold Lx.skip;rw[List.drop_left,Lx.skipF,if_neg h37,if_neg (by rw[hw];decide)];rfl
theorem skip_one {pre:List UInt8}{b c:UInt8}{t:List UInt8}(hb:Oc.white b=true)(hb37:b≠37)(h37:c≠37)(hw:Oc.white c=false):skip (pre++b::c::t) pre.length=pre.length+1:=by
 unfold Lx.skip;rw[List.drop_left,Lx.skipF,if_neg hb37,if_pos hb,Lx.skipF,if_neg h37,if_neg (by rw[hw];decide)]
theorem gap_two (last:UInt8)(p:List UInt8):gap last p=[]∨gap last p=[32]:=by unfold Lx.gap;split<;>simp
theorem single_ne {p:List UInt8}{x:Tok}(h:Single p x):p≠[]:=by
 obtain⟨c,t,e,_⟩:=Lx.single_head h;rw[e];simp
theorem joins_toks:∀(ps:List (List UInt8)) (p:List UInt8) (pre:List UInt8) (last:UInt8) (m:List UInt8) (a:Nat),(∀q∈p::ps,∃x,Single q x)→Ends ((p::ps).getLast (by simp)) m →
  a≤(pre++(joinR last (p::ps)++m)).length→skip (pre++(joinR last (p::ps)++m)) a=(pre++gap last p).length→Toks (pre++(joinR last (p::ps)++m)) a (p::ps) ((pre.length:Int)+(joinR last (p::ps)).length)
|[],p,pre,last,m,a,h,hm,ha,hs=>by
  obtain⟨x,hx⟩:=h p List.mem_cons_self;have e:pre++(joinR last [p]++m)=(pre++gap last p)++(p++m):=by simp[Lx.joinR]
  rw[e] at ha hs ⊢;have:=at_of hx (pre++gap last p) m hm ha hs;refine⟨_,this,?_⟩;show _=_;simp[Lx.joinR];omega
|q::ps,p,pre,last,m,a,h,hm,ha,hs=>by
  obtain⟨x,hx⟩:=h p List.mem_cons_self;obtain⟨y,hy⟩:=h q (by simp);have e:pre++(joinR last (p::q::ps)++m)=(pre++gap last p)++(p++(joinR (Pl.lastC p) (q::ps)++m)):=by rw[Lx.joinR];simp
  have e2:pre++(joinR last (p::q::ps)++m)=(pre++gap last p++p)++(joinR (Pl.lastC p) (q::ps)++m):=by rw[Lx.joinR];simp
  have hne:∀r∈q::ps,r≠[]:=fun r hr=>by obtain⟨z,hz⟩:=h r (List.mem_cons_of_mem _ hr);exact single_ne hz
  have hend:Ends p (joinR (Pl.lastC p) (q::ps)++m):=by
   intro hl c t he;have hst:=Lx.stops_join (Pl.lastC p) (q::ps) hne hl;cases hj:joinR (Pl.lastC p) (q::ps) with
  |nil=>
    exfalso;rw[Lx.joinR] at hj;have:=hne q List.mem_cons_self;simp at hj;exact this hj.2.1
  |cons d u=>
    rw[hj,List.cons_append] at he
    injection he with e1 _
    rw[←e1];exact hst d u hj
  have h1:At (pre++(joinR last (p::q::ps)++m)) a p (((pre++gap last p).length:Int)+p.length):=by
   rw[e] at ha hs ⊢;exact at_of hx (pre++gap last p) _ hend ha hs
  refine⟨_,h1,?_⟩;have hcast:(((pre++gap last p).length:Int)+p.length)=((pre++gap last p++p).length:Nat):=by simp;omega
  rw[hcast,e2];obtain⟨c,t,hq,h37,hw,_⟩:=Lx.single_head hy;have hsk:skip ((pre++gap last p++p)++(joinR (Pl.lastC p) (q::ps)++m)) (pre++gap last p++p).length=((pre++gap last p++p)++gap (Pl.lastC p) q).length:=by
   rw[Lx.joinR];rcases gap_two (Pl.lastC p) q with g|g
   ·rw[g,hq];simp only[List.nil_append,List.cons_append,List.append_nil];exact skip_here h37 hw
   ·rw[g,hq];simp only[List.nil_append,List.cons_append];rw[skip_one (by decide) (by decide) h37 hw];simp;omega
  have:=joins_toks ps q (pre++gap last p++p) (Pl.lastC p) m (pre++gap last p++p).length (fun r hr=>h r (List.mem_cons_of_mem _ hr)) (by simpa using hm) (by simp only[List.length_append];omega) hsk;have hl:((pre.length:Int)+(joinR last (p::q::ps)).length)=((pre++gap last p++p).length:Int)+(joinR (Pl.lastC p) (q::ps)).length:=by
   rw[Lx.joinR];simp;omega
  rw[hl];exact this
end Ps
end
section
open Go
namespace Lx
open Oc
structure Form (x:Tok):Prop where
 int:x.k=1→-2147483647≤x.n∧x.n≤2147483647
 real:x.k=2→Fx.okB x.n=true
 str:x.s.length≤32767
 name:x.k=4→Vl.name x.s=true
 kind:x.k=0∨x.k=1∨x.k=2∨x.k=3∨x.k=4∨x.k=5∨x.k=6
theorem none_form:Form none_:=⟨fun e=>by simp[none_] at e,fun e=>by simp[none_] at e,by simp[none_],fun e=>by simp[none_] at e,.inl rfl⟩
theorem told_form {k a t:Int}{x:List UInt8}{m:Int}(h:(told k a t x m).2=0)(hm:m≤32767)(hk:k=3∨k=4∨k=5)(hn:k=4→m≤127∧(0:UInt8) ∉ x):Form (told k a t x m).1:=by
 have e:=told_ok h;unfold told at h;split at h
 ·simp[refused] at h
 rename_i hx
 rw[e];refine⟨?_,?_,?_,?_,?_⟩
 ·intro h1;simp only at h1;omega
 ·intro h1;simp only at h1;omega
 ·show x.length≤_;omega
 ·intro h1;obtain⟨h2,h3⟩:=hn h1;show Vl.name x=true;unfold Vl.name;simp only[Bool.and_eq_true,decide_eq_true_eq];exact⟨by omega,h3⟩
 ·show k=0∨k=1∨k=2∨k=3∨k=4∨k=5∨k=6;omega
theorem regular_pos:∀c:UInt8,regular c=true→c≠0:=all8 (by decide +kernel)
theorem byte_pos (a b:UInt8):¬(digit a < 0)→¬(digit b < 0)→¬(16*digit a+digit b=0)→byte (digit a) (digit b)≠0:=by
 have hd:∀c:UInt8,digit c≤15:=all8 (by decide +kernel);intro h1 h2 h3 h4;have ha:=hd a;have hb:=hd b;unfold byte at h4;have h5:=congrArg UInt8.toNat h4;rw[UInt8.toNat_ofNat_of_lt' (by show _ < 256;omega)] at h5;have:(0:UInt8).toNat=0:=rfl;omega
theorem nameF_pos (n:Nat):∀(l x:List UInt8),l.length≤n→l.all regular=true→nameF l=some x→(0:UInt8) ∉ x:=by
 induction n with
|zero=>
  intro l x hl _ h;cases l with
 |nil=>simp[nameF] at h;subst h;simp
 |cons _ _=>simp at hl
|succ n ih=>
  intro l x hl hr h;cases l with
 |nil=>simp[nameF] at h;subst h;simp
 |cons c t=>
   simp only[List.all_cons,Bool.and_eq_true] at hr;by_cases hc:c=35
   ·subst hc
    match t,hl,hr,h with
   |[],_,_,h=>simp[nameF] at h
   |[a],_,_,h=>simp[nameF] at h
   |a::b::t,hl,hr,h=>
     simp only[nameF,if_true] at h;split at h
     ·cases h
     ·rename_i hh
      simp only[not_or] at hh;obtain⟨y,hy,rfl⟩:=map_some h;have h1:(0:UInt8) ∉ y:=ih t y (by simp at hl;omega) (by simp at hr ⊢;exact hr.2.2.2) hy;have h2:=byte_pos a b hh.1 hh.2.1 hh.2.2;simp only[List.mem_cons,not_or];exact⟨fun e=>h2 e.symm,h1⟩
   ·rw[nameF_ne hc] at h;obtain⟨y,hy,rfl⟩:=map_some h;have h1:(0:UInt8) ∉ y:=ih t y (by simpa using hl) hr.2 hy;simp only[List.mem_cons,not_or];exact⟨fun e=>regular_pos c hr.1 e.symm,h1⟩
theorem runF_reg:∀l:List UInt8,(l.take (runF l)).all regular=true:=fun l=>(runF_take l).1
theorem cut_run (s:List UInt8)(i:Nat):(cut s i (run s i)).all regular=true:=by
 unfold cut run;rw[Nat.add_sub_cancel_left];exact runF_reg _
theorem wordT_form {t:List UInt8}{a b:Int}(h:(wordT t a b).2=0):Form (wordT t a b).1:=by
 unfold wordT at h ⊢;split at h
 ·rename_i h1
  rw[if_pos h1];split at h
  ·rename_i h2;simp[refused] at h;exact absurd h h2
  rename_i h2
  rw[if_neg h2];have h2:=Classical.not_not.1 h2;refine⟨fun _=>?_,fun e=>?_,by simp,fun e=>?_,.inr (.inl rfl)⟩
  ·unfold whole at h2 ⊢;split at h2
   ·simp at h2
   ·rename_i h3
    rw[if_neg h3];simp only;split<;>omega
  ·simp at e
  ·simp at e
 rename_i h1
 rw[if_neg h1];split at h
 ·rename_i h2
  rw[if_pos h2];refine⟨fun e=>?_,fun _=>?_,by simp,fun e=>?_,.inr (.inr (.inl rfl))⟩
  ·simp at e
  ·have h3:=h2.2;show Fx.okB (Fx.read t).1=true;unfold Fx.read at h3 ⊢;split at h3
   ·rename_i h4
    rw[if_pos h4];split at h3
    ·simp at h3
    ·rename_i h5
     rw[if_neg h5];generalize (if Fx.minus t=true then -Fx.mag t else Fx.mag t)=q at h3 ⊢;unfold Fx.ans at h3 ⊢;cases hq:Fx.okB q with
    |true=>rw[if_pos rfl];exact hq
    |false=>rw[hq] at h3;simp at h3
   ·simp at h3
  ·simp at e
 rename_i h2
 rw[if_neg h2];split at h
 ·simp[refused] at h
 rename_i h3
 rw[if_neg h3];exact told_form h (by decide) (by decide) (fun h=>absurd h (by decide))
theorem mark_form (s:List UInt8)(a n:Nat)(hn:n≤2):Form (mark s a n).1:=by
 refine⟨fun e=>?_,fun e=>?_,?_,fun e=>?_,by simp[mark]⟩
 ·simp[mark] at e
 ·simp[mark] at e
 ·show (cut s a (a+n)).length≤_;unfold cut;rw[List.length_take];omega
 ·simp[mark] at e
theorem token_form {s:List UInt8}{a:Nat}(h:(token s a).2=0):Form (token s a).1:=by
 unfold token at h ⊢;split at h
 ·exact⟨fun e=>by simp at e,fun e=>by simp at e,by simp,fun e=>by simp at e,.inl rfl⟩
 rename_i c t hd
 split at h
 ·rename_i h1;rw[if_pos h1];exact mark_form s a 1 (by omega)
 rename_i h1;rw[if_neg h1]
 split at h
 ·rename_i h2;rw[if_pos h2]
  split at h
  ·rename_i h3;rw[if_pos h3];exact mark_form s a 2 (by omega)
  ·rename_i h3;rw[if_neg h3]
   unfold hex at h ⊢;split at h
   ·exact none_form
   ·exact told_form h (by decide) (by decide) (fun h=>absurd h (by decide))
 rename_i h2;rw[if_neg h2]
 split at h
 ·rename_i h3;rw[if_pos h3]
  split at h
  ·rename_i h4;rw[if_pos h4];exact mark_form s a 2 (by omega)
  ·simp[refused] at h
 rename_i h3;rw[if_neg h3]
 split at h
 ·rename_i h4;rw[if_pos h4]
  unfold name at h ⊢;split at h
  ·simp[refused] at h
  ·rename_i x hx
   refine told_form h (by decide) (by decide) (fun _=>⟨by decide,nameF_pos _ _ _ (Nat.le_refl _) (cut_run s (a+1)) hx⟩)
 rename_i h4;rw[if_neg h4]
 split at h
 ·rename_i h5;rw[if_pos h5]
  unfold text at h ⊢;split at h
  ·simp[refused] at h
  ·exact told_form h (by decide) (by decide) (fun h=>absurd h (by decide))
 rename_i h5;rw[if_neg h5]
 split at h
 ·simp[refused] at h
 rename_i h6;rw[if_neg h6]
 exact wordT_form h
theorem next_form {s:List UInt8}{i:Int}(h:(next s i).2=0):Form (next s i).1:=by
 unfold next at h ⊢
 split at h
 ·simp[refused] at h
 rename_i h1
 rw[if_neg h1];exact token_form h
end Lx
end
section
open Go
namespace Ps
open Lx (next Tok)
theorem obj_open {s:List UInt8}{n:Nat}{a:Int}(h:(obj s n a).2.2=0):(next s a).2=0∧(next s a).1.k≠0∧begins (next s a).1=true∧∃m,n=m+1 ∧
  obj s n a=if (next s a).1.k≠6 then leaf s (next s a).1 else if (next s a).1.s=[91] then arr s (decide (m≠0)) (obj s m) (s.length+1) (next s a).1.t [] else dict s (obj s m) (s.length+1) (next s a).1.t dict0 []:=by
 cases n with
|zero=>
  rw[obj] at h;split at h
  ·rename_i h1;exact absurd h h1
  split at h
  ·simp[bad] at h
  split at h
  ·simp[bad] at h
  ·simp[bad] at h
|succ n=>
  rw[obj] at h;split at h
  ·rename_i h1;exact absurd h h1
  rename_i h1
  split at h
  ·simp[bad] at h
  rename_i h2
  split at h
  ·simp[bad] at h
  rename_i h3
  refine⟨Classical.not_not.1 h1,h2,by simpa using h3,n,rfl,?_⟩;rw[obj,if_neg h1,if_neg h2,if_neg h3]
def Val (d:Nat)(o:Ob):Prop:=Vl.check d o=0∧o.k≠9
theorem val_leaf {d:Nat}(hd:d≤24){k n g:Int}{s:List UInt8}(hk:k≠9∧k≠7)(hu:Vl.usesOk (.mk k n g s [] [])=true)(hf:Vl.fits (.mk k n g s [] [])=true)(hl:s.length≤Vl.long k)(hn:k=5→Vl.name s=true):Val d (.mk k n g s [] []):=by
 refine⟨Vl.check_iff.2 ⟨⟨hd,hu,fun h=>absurd h hk.1,hf,hl,by simp[Ob.kids],?_⟩,fun c hc=>by simp[Ob.kids] at hc⟩,hk.1⟩;unfold Vl.form;have h79:decide ((Ob.mk k n g s [] []).k=7∨(Ob.mk k n g s [] []).k=9)=false:=decide_eq_false (by
  rintro (h|h)
  ·exact hk.2 h
  ·exact hk.1 h)
 rw[h79];simp only[Bool.not_false,Bool.true_or,Bool.and_true];by_cases h5:k=5
 ·rw[show (Ob.mk k n g s [] []).s=s from rfl,hn h5];simp
 ·rw[decide_eq_false (show ¬(Ob.mk k n g s [] []).k=5 from h5)];rfl
theorem leaf_val {s:List UInt8}{a:Int}{d:Nat}(hd:d≤24)(h0:(next s a).2=0)(hk:(next s a).1.k≠0)(h6:(next s a).1.k≠6):Val d (leaf s (next s a).1).1:=by
 have f:=Lx.next_form h0;unfold leaf;split
 ·rename_i h1
  have hi:=f.int h1;cases hr:ref s (next s a).1 with
 |some p=>
   have hb:=ref_bd hr;exact val_leaf hd (by decide) rfl (by simp[Vl.fits,Ob.k,Ob.n,Ob.g];exact⟨decide_eq_true ⟨hb.2.2.1,hb.2.2.2.1⟩,decide_eq_true ⟨hb.2.2.2.2.1,hb.2.2.2.2.2⟩⟩) (by simp) (by decide)
 |none=>exact val_leaf hd (by decide) rfl (by simp[Vl.fits,Ob.k,Ob.n];exact decide_eq_true hi) (by simp) (by decide)
 split
 ·rename_i h1 h2
  have hr:=f.real h2;have hr2:-1073741824≤(next s a).1.n∧(next s a).1.n≤1073741824:=by simpa[Fx.okB] using hr
  exact val_leaf hd (by decide) rfl (by simp[Vl.fits,Ob.k,Ob.n];exact decide_eq_true hr2) (by simp) (by decide)
 split
 ·exact val_leaf hd (by decide) rfl rfl (by have:=f.str;show _≤32767;exact this) (fun h=>absurd h (by decide))
 split
 ·rename_i h1 h2 h3 h4
  have hn:=f.name h4;refine val_leaf hd (by decide) rfl rfl ?_ (fun _=>hn);unfold Vl.name at hn;simp only[Bool.and_eq_true,decide_eq_true_eq] at hn;show _≤127;exact hn.1
 split
 ·exact val_leaf hd (by decide) rfl rfl (by simp) (by decide)
 ·refine val_leaf hd (by decide) rfl ?_ (by simp) (by decide);split<;>rfl
def GoodV (s:List UInt8)(d:Nat)(ok:Bool)(sub:Int→R):Prop:=∀a,(sub a).2.2=0→Val d (sub a).1∧begins (next s a).1=true∧ok=true
theorem arr_val {s:List UInt8}{d:Nat}{ok:Bool}{sub:Int→R}(hd:d≤24)(hg:GoodV s (d+1) ok sub):∀(m:Nat) (a:Int) (acc:List Ob),acc.length≤8191→(∀o∈acc,Val (d+1) o)→(arr s ok sub m a acc).2.2=0→Val d (arr s ok sub m a acc).1
|0,a,acc,_,_,h=>by simp[arr,bad] at h
|m+1,a,acc,hl,hv,h=>by
  rw[arr] at h ⊢;split at h
  ·rename_i h1
   rw[if_pos h1];refine⟨Vl.check_iff.2 ⟨⟨hd,rfl,fun e=>by simp[Ob.k] at e,rfl,by simp[Ob.s],hl,rfl⟩,fun c hc=>(hv c hc).1⟩,by simp[Ob.k]⟩
  rename_i h1
  rw[if_neg h1];split at h
  ·simp[bad] at h
  rename_i h2
  rw[if_neg h2];split at h
  ·rename_i h3;exact absurd h h3
  rename_i h3
  rw[if_neg h3];split at h
  ·rename_i h4;exact absurd h h4
  rename_i h4
  rw[if_neg h4];obtain⟨g1,g2,g3⟩:=hg a (Classical.not_not.1 h4);have hlt:acc.length≠8191:=fun e=>h2 ⟨Classical.not_not.1 h3,e,g2,g3⟩;exact arr_val hd hg m _ _ (by simp;omega) (fun o ho=>by
   rcases List.mem_append.1 ho with ho|ho
   ·exact hv o ho
   ·rw[List.mem_singleton] at ho;subst ho;exact g1) h
structure DictV (d:Nat) (o:Ob) (met:List (List UInt8)):Prop where
 k:o.k=7
 n:o.n=0
 g:o.g=0
 s:o.s=[]
 rise:Vl.Rise o.keys
 len:o.keys.length=o.kids.length
 names:∀k∈o.keys,Vl.name k=true
 kids:∀c∈o.kids,c.k≠0∧Val (d+1) c
 few:o.kids.length≤met.length
 most:met.length≤8191
theorem put_mem {o v:Ob}{key:List UInt8}:(∀k∈(Vl.put o key v).keys,k=key∨k∈o.keys)∧(∀c∈(Vl.put o key v).kids,c=v∨c∈o.kids)∧(Vl.put o key v).kids.length≤o.kids.length+1:=by
 unfold Vl.put;simp only[Ob.keys,Ob.kids];refine⟨fun k hk=>?_,fun c hc=>?_,?_⟩
 ·rcases List.mem_append.1 hk with h|h
  ·exact .inr (List.mem_of_mem_take h)
  ·rcases List.mem_cons.1 h with h|h
   ·exact .inl h
   ·exact .inr (List.mem_of_mem_drop h)
 ·rcases List.mem_append.1 hc with h|h
  ·exact .inr (List.mem_of_mem_take h)
  ·rcases List.mem_cons.1 h with h|h
   ·exact .inl h
   ·exact .inr (List.mem_of_mem_drop h)
 ·simp only[List.length_append,List.length_take,List.length_cons,List.length_drop];split<;>omega
theorem join_dictV {d:Nat}{o v:Ob}{met:List (List UInt8)}{key:List UInt8}(h:DictV d o met)(hk:Vl.name key=true)(hv:Val (d+1) v)(hm:met.length≠8191):DictV d (join o key v) (met++[key]):=by
 have hmost:=h.most;have hfew:=h.few;unfold join;split
 ·rename_i h0
  obtain⟨p1,p2⟩:=Vl.rise_put (key:=key) (v:=v) h.rise h.len;obtain⟨m1,m2,m3⟩:=put_mem (o:=o) (v:=v) (key:=key);refine⟨h.k,h.n,h.g,h.s,p1,p2,fun k hkk=>?_,fun c hc=>?_,by simp;omega,by simp;omega⟩
  ·rcases m1 k hkk with rfl|e
   ·exact hk
   ·exact h.names k e
  ·rcases m2 c hc with rfl|e
   ·exact⟨h0,hv⟩
   ·exact h.kids c e
 ·exact⟨h.k,h.n,h.g,h.s,h.rise,h.len,h.names,h.kids,by simp;omega,by simp;omega⟩
theorem dictV_val {d:Nat}(hd:d≤24){o:Ob}{met:List (List UInt8)}(h:DictV d o met):Val d o:=by
 have hfew:=h.few;have hmost:=h.most;refine⟨Vl.check_iff.2 ⟨⟨hd,?_,fun e=>?_,?_,?_,by omega,?_⟩,fun c hc=>(h.kids c hc).2.1⟩,by rw[h.k];decide⟩
 ·simp[Vl.usesOk,Vl.used,h.k,h.n,h.g,h.s]
 ·rw[h.k] at e;simp at e
 ·simp[Vl.fits,h.k]
 ·rw[h.s];simp
 ·have hr:Vl.rising o=true:=Vl.rising_iff.2 ⟨h.len,h.rise,fun k hk=>⟨h.names k hk,fun e=>by rw[h.k] at e;simp at e⟩,fun c hc=>(h.kids c hc).1⟩;simp[Vl.form,h.k,hr]
theorem dict_val {s:List UInt8}{d:Nat}{ok:Bool}{sub:Int→R}(hd:d≤24)(hg:GoodV s (d+1) ok sub):∀(m:Nat) (a:Int) (o:Ob) (met:List (List UInt8)),DictV d o met→(dict s sub m a o met).2.2=0→Val d (dict s sub m a o met).1
|0,a,o,met,_,h=>by simp[dict,bad] at h
|m+1,a,o,met,hv,h=>by
  rw[dict] at h ⊢;split at h
  ·rename_i h1;exact absurd h h1
  rename_i h1
  rw[if_neg h1];have h1:=Classical.not_not.1 h1;split at h
  ·rename_i h2
   rw[if_pos h2];exact dictV_val hd hv
  rename_i h2
  rw[if_neg h2];split at h
  ·simp[bad] at h
  rename_i h3
  rw[if_neg h3];split at h
  ·simp[bad] at h
  rename_i h4
  rw[if_neg h4];split at h
  ·simp[bad] at h
  rename_i h5
  rw[if_neg h5];split at h
  ·simp[bad] at h
  rename_i h6
  rw[if_neg h6];split at h
  ·rename_i h7;exact absurd h h7
  rename_i h7
  rw[if_neg h7];have f:=Lx.next_form h1;exact dict_val hd hg m _ _ _ (join_dictV hv (f.name (Classical.not_not.1 h4)) (hg _ (Classical.not_not.1 h7)).1 h6) h
theorem obj_val (s:List UInt8):∀(n:Nat),n≤24→∀a,(obj s n a).2.2=0→Val (25 - n) (obj s n a).1:=by
 intro n
 induction n with
|zero=>
  intro _ a h;obtain⟨_,_,_,m,hm,_⟩:=obj_open h;omega
|succ n ih=>
  intro hn a h;obtain⟨h1,h2,h3,m,hm,he⟩:=obj_open h;have hm:n=m:=by omega
  subst hm;rw[he] at h ⊢;have hd:25 - (n+1)≤24:=by omega
  have hg:GoodV s (25 - (n+1)+1) (decide (n≠0)) (obj s n):=by
   intro b hb;obtain⟨_,_,b3,k,hk,_⟩:=obj_open hb;have e:25 - (n+1)+1=25 - n:=by omega
   rw[e];exact⟨ih (by omega) b hb,b3,decide_eq_true (by omega)⟩
  split at h
  ·rename_i h4
   rw[if_pos h4];exact leaf_val hd h1 h2 h4
  rename_i h4
  rw[if_neg h4];split at h
  ·rename_i h5
   rw[if_pos h5];exact arr_val hd hg _ _ _ (by simp) (fun o ho=>by cases ho) h
  ·rename_i h5
   rw[if_neg h5];exact dict_val hd hg _ _ _ _ ⟨rfl,rfl,rfl,rfl,List.Pairwise.nil,rfl,(fun k hk=>by cases hk),(fun c hc=>by cases hc),by simp[dict0,Ob.kids],by simp⟩ h
theorem leaf_wt {s:List UInt8}{a:Int}(h0:(next s a).2=0):(leaf s (next s a).1).1.wt≤32773:=by
 have f:=(Lx.next_form h0).str;unfold leaf
 (repeat' split)<;>simp[Ob.wt,Ob.wts,Pl.tot,Vl.ob0]<;>omega
def GoodW (sub:Int→R):Prop:=∀a,(sub a).2.2=0→((sub a).1.wt:Int)≤40000*((sub a).2.1 - a)
theorem arr_wt {s:List UInt8}{ok:Bool}{sub:Int→R}(hg:GoodW sub)(hb:Good s sub)(a0:Int):∀(m:Nat) (a:Int) (acc:List Ob),(Ob.wts acc:Int)≤40000*(a - a0)→(arr s ok sub m a acc).2.2=0→((arr s ok sub m a acc).1.wt:Int)≤6+40000*((arr s ok sub m a acc).2.1 - a0)
|0,a,acc,_,h=>by simp[arr,bad] at h
|m+1,a,acc,hw,h=>by
  rw[arr] at h ⊢;split at h
  ·rename_i h1
   rw[if_pos h1];have b:=Lx.next_bd h1.1 (by rw[h1.2.1];decide);have:=Lx.skip_ge s a.toNat;simp[Ob.wt,Pl.tot];omega
  rename_i h1
  rw[if_neg h1];split at h
  ·simp[bad] at h
  rename_i h2
  rw[if_neg h2];split at h
  ·rename_i h3;exact absurd h h3
  rename_i h3
  rw[if_neg h3];split at h
  ·rename_i h4;exact absurd h h4
  rename_i h4
  rw[if_neg h4];have h4:=Classical.not_not.1 h4;have g:=hg a h4;exact arr_wt hg hb a0 m _ _ (by rw[Vl.wts_app,Ob.wts,Ob.wts];omega) h
theorem join_wt {o v:Ob}{key:List UInt8}:(join o key v).wt≤o.wt+(key.length+1)+v.wt:=by
 unfold join;split
 ·exact Vl.put_wt o key v
 ·omega
theorem dict_wt {s:List UInt8}{sub:Int→R}(hg:GoodW sub)(hb:Good s sub)(a0:Int):∀(m:Nat) (a:Int) (o:Ob) (met:List (List UInt8)),(o.wt:Int)≤6+40000*(a - a0)→(dict s sub m a o met).2.2=0→((dict s sub m a o met).1.wt:Int)≤6+40000*((dict s sub m a o met).2.1 - a0)
|0,a,o,met,_,h=>by simp[dict,bad] at h
|m+1,a,o,met,hw,h=>by
  rw[dict] at h ⊢;split at h
  ·rename_i h1;exact absurd h h1
  rename_i h1
  rw[if_neg h1];have h1:=Classical.not_not.1 h1;split at h
  ·rename_i h2
   rw[if_pos h2];have b:=Lx.next_bd h1 (by rw[h2.1];decide);have:=Lx.skip_ge s a.toNat;simp only;omega
  rename_i h2
  rw[if_neg h2];split at h
  ·simp[bad] at h
  rename_i h3
  rw[if_neg h3];split at h
  ·simp[bad] at h
  rename_i h4
  rw[if_neg h4];split at h
  ·simp[bad] at h
  rename_i h5
  rw[if_neg h5];split at h
  ·simp[bad] at h
  rename_i h6
  rw[if_neg h6];split at h
  ·rename_i h7;exact absurd h h7
  rename_i h7
  rw[if_neg h7];have h7:=Classical.not_not.1 h7;have g:=hg _ h7;have b:=Lx.next_bd h1 h3;have:=Lx.skip_ge s a.toNat;have f:=(Lx.next_form h1).str;have hj:=join_wt (o:=o) (key:=(next s a).1.s) (v:=(sub (next s a).1.t).1);exact dict_wt hg hb a0 m _ _ _ (by omega) h
theorem obj_wt (s:List UInt8):∀n,GoodW (obj s n):=by
 intro n
 induction n with
|zero=>
  intro a h;obtain⟨_,_,_,m,hm,_⟩:=obj_open h;omega
|succ n ih=>
  intro a h;obtain⟨h1,h2,h3,m,hm,he⟩:=obj_open h;have hm:n=m:=by omega
  subst hm;rw[he] at h ⊢;have b:=Lx.next_bd h1 h2;have:=Lx.skip_ge s a.toNat;split at h
  ·rename_i h4
   rw[if_pos h4];have:=leaf_wt h1;have:=leaf_bd h1 h2;omega
  rename_i h4
  rw[if_neg h4];split at h
  ·rename_i h5
   rw[if_pos h5];have:=arr_wt (ok:=decide (n≠0)) ih (obj_good s n) (next s a).1.t (s.length+1) (next s a).1.t [] (by simp[Ob.wts]) h;omega
  ·rename_i h5
   rw[if_neg h5];have:=dict_wt ih (obj_good s n) (next s a).1.t (s.length+1) (next s a).1.t dict0 [] (by simp[dict0,Ob.wt,Ob.wts,Pl.tot]) h;omega
end Ps
end
end Go.Proofs.YtkejpieaafeblaaGreatDoor

namespace Go.Proofs.YtkejpieaafeblaaGreatDoor
section
open Eng Go.RowKit
theorem ob1_ov2 {A:Nat→Prop}{w:World}{k n g:Int}{s:List UInt8}:OV A w (obV (ob1 k n g s) nilS nilS) (ob1 k n g s):=ObAt.ov (o:=ob1 k n g s) ⟨SlA.nil _ _ _ _,SlA.nil _ _ _ _,OVs.nil⟩
end
section
open Eng Go.RowKit
namespace Eng
theorem Ent.below {e:Ent}{w w':World}(h:e.is w)(hb:Below w.heap.size w w'):e.is w':=e.keep h fun k hk=>hb.block k (e.lt h k hk)
section
variable {S:Nat→Prop}{P:Program}{w w0:World}{L:List Ent}{PK:PKT}{K:VWP}
theorem c_rm {f:Nat}{args:Array Value}{e e':Ent}{M:Mem}{ok:Prop}{R:Value→Mem→Prop}{c:List PanicEntry}(ho:OwnS S w0 w L)(i:Nat)(hi:L[i]?=some (.two e (.mem M)))(h:Lent P f args e M w ok e' R c)
  (kr:∀v N w',ok→M.le N→R v N→OwnS S w0 w' (L.set i (.two e' (.mem N)))→K v w') (kp:∀e2 w',¬ok→OwnS S w0 w' (L.set i (.two e2 (.mem M)))→PK c w'):CallX P f args w PK K:=by
 by_cases hk:ok
 ·exact c_ret (h.ret hk) fun v w' ⟨N,hle,hr,ht⟩=>kr v N w' hk hle hr (ho.turn i hi ht)
 ·exact c_pan (h.pan hk) fun c' w' ⟨hc,e2,ht⟩=>by subst hc;exact kp e2 w' hk (ho.turn i hi ht)
end
end Eng
def rdC (s:List UInt8)(a:Int):List Value:=[.string ⟨s.toArray⟩,.int .i64 a]
abbrev rdE (b:Nat)(s:List UInt8)(a:Int):Ent:=.cells b (rdC s a) 130
abbrev rmE (b:Nat)(s:List UInt8)(a:Int)(M:Mem):Ent:=.two (rdE b s a) (.mem M)
abbrev rdP (b:Nat):Value:=.pointer (some ⟨b,0,none⟩)
def wrongE (e:Int):PanicEntry:={ v:=.iface 198 (.int .i64 e),recovered:=false }
theorem fr0:fOff prog 130 0=some 0:=by kernel_rfl
theorem fr1:fOff prog 130 1=some 1:=by kernel_rfl
theorem nfW:notIface prog 198=true:=by kernel_rfl
section
variable {w:World}{PK:PKT}{K:VWP}{S:Nat→Prop}{w0:World}{L:List Ent}
theorem fa_r0 {b:Nat}:DoX prog (mFA 130 (.pointer (some ⟨b,0,none⟩)) 0) w PK K=K (.pointer (some ⟨b,0,none⟩)) w:=f_addr fr0
theorem fa_r1 {b:Nat}:DoX prog (mFA 130 (.pointer (some ⟨b,0,none⟩)) 1) w PK K=K (.pointer (some ⟨b,1,none⟩)) w:=f_addr fr1
theorem rd_s {b:Nat}{s:List UInt8}{a:Int}(h:(rdE b s a).is w):DoX prog (mLoad 9 (.pointer (some ⟨b,0,none⟩))) w PK K=K (.string ⟨s.toArray⟩) w:=l_cell nStr5 (cells_cell (T:=130) (cs:=rdC s a) (i:=0) h rfl)
theorem rdr_s {b:Nat}{s:List UInt8}{a:Int}(h:(rdE b s a).is w):(mLoad 9 (.pointer (some ⟨b,0,none⟩))).run prog w=.ok (.value (.string ⟨s.toArray⟩)) w:=run_load_cell nStr5 (cells_cell (T:=130) (cs:=rdC s a) (i:=0) h rfl)
theorem rdr_a {b:Nat}{s:List UInt8}{a:Int}(h:(rdE b s a).is w):(mLoad 3 (.pointer (some ⟨b,1,none⟩))).run prog w=.ok (.value (.int .i64 a)) w:=run_load_cell nInt5 (cells_cell (T:=130) (cs:=rdC s a) (i:=1) h rfl)
theorem rd_put (i:Nat){b:Nat}{s:List UInt8}{a a':Int}(ho:OwnS S w0 w L)(hi:L[i]?=some (rdE b s a))(k:∀w',OwnS S w0 w' (L.set i (rdE b s a'))→K undef w'):DoX prog (mStore 3 (.pointer (some ⟨b,1,none⟩)) (.int .i64 a')) w PK K:=
 o_store i ho hi (by kernel_rfl) rfl (show 1 < 2 by omega) k
theorem throw {e:Int}{K2:Value→VWP}{PK2:PKT}(h:PK2 [wrongE e] w):DoX prog (mIface 198 (.int .i64 e)) w PK fun t w=>DoX prog (mPanic t) w PK2 (K2 t):=by
 rw[m_iface nfW,m_panic];exact h
end
theorem peek_ret (b:Nat)(s:List UInt8)(a at_:Int)(w:World)(hs:s.length≤1099511627776)(hr:(rdE b s a).is w) :
  Ret prog 246 #[rdP b,.int .i64 at_] w (fun v w'=>v=.tuple #[tokV (Lx.next s at_).1,.bool (decide ((Lx.next s at_).2=0))]∧Below w.heap.size w w'):=by
 refine ret_of fun K hK=>S_parse_reader_peek_ok ?_;unfold S_parse_reader_peek;refine o_tok (Own.start w) fun b4 w1 ho=>?_;rw[m_nil,fa_r0,rd_s (Ent.below (e:=rdE b s a) hr ho.done)];refine tk_new ho (next_ret s at_ w1 hs) fun b6 w2 ho=>?_;rw[tk_v ho 0 rfl];simp only[rs];refine tk_put 1 ho rfl fun w3 ho=>?_;exact ret_v2 (rv_cell (ho.agg 1 rfl aggTok)) rv_val (hK _ _ ⟨rfl,ho.done⟩)
def Has (s:List UInt8)(a:Int):Prop:=(Lx.next s a).2=0∧(Lx.next s a).1.k≠0
def lacks (s:List UInt8)(a:Int):Int:=if (Lx.next s a).2≠0 then (Lx.next s a).2 else 4
theorem pnext_ret (b:Nat)(s:List UInt8)(a:Int)(M:Mem)(w:World)(hs:s.length≤1099511627776)(hr:(rmE b s a M).is w) :
  Lent prog 159 #[rdP b] (rdE b s a) M w (Has s a) (rdE b s (Lx.next s a).1.t) (fun v N=>v=tokV (Lx.next s a).1) [wrongE (lacks s a)]:=by
 refine lent_of (fun K ho hret hpan=>S_parse_reader_next_ok ?_) hr;unfold S_parse_reader_next;refine o_tok ho fun b2 w1 ho=>?_;have two:∀{W:World} {b3:Nat},OwnS (rmE b s a M).blk w W [tokE b3 (Lx.next s a).1,tokE b2 Lx.none_,rdE b s a,.mem M]→S_parse_reader_next_0 (rdP b) (.pointer (some ⟨b2,0,none⟩)) (.pointer (some ⟨b3,0,none⟩)) (.int .i64 (Lx.next s a).2) W K:=by
  intro W b3 ho;have bad:∀{e:Int},¬Has s a→lacks s a=e→K (.panicked [wrongE e]) W:=by
   intro e hn he;subst he;exact hpan hn (rdE b s a) M W _ (ho.tail.tail) M.le_refl
  unfold Has lacks at *;generalize Lx.next s a=x at *
  unfold S_parse_reader_next_0;refine join fun J hJ=>?_;simp only[rs];by_cases e1:x.2=0
  case neg=>
   simp only[e1,ne_eq,not_false_eq_true,decide_true,i_t];exact throw (bad (fun h=>e1 h.1) (if_pos e1))
  simp only[e1,ne_eq,not_true,decide_false,i_f];refine hJ _ _ fun _=>?_;unfold S_parse_reader_next_1;refine join fun J hJ=>?_;rw[fa_t0,tk_k ho 0 rfl];simp only[rs];by_cases e2:x.1.k=0
  ·simp only[e2,decide_true,i_t];exact throw (bad (fun h=>h.2 e2) (if_neg (by rw[e1];simp)))
  simp only[e2,decide_false,i_f];refine hJ _ _ fun _=>?_;unfold S_parse_reader_next_2;rw[fa_t2,tk_t ho 0 rfl,m_nil,fa_r1];refine rd_put 2 ho rfl fun w2 ho=>?_;have ho:OwnS (rmE b s a M).blk w w2 [tokE b3 x.1,tokE b2 Lx.none_,rdE b s x.1.t,.mem M]:=ho;rw[tk_v ho 0 rfl];refine tk_put 1 ho rfl fun w3 ho=>?_;refine ret_v1 (rv_cell (ho.agg 1 rfl aggTok)) ?_;have ho:OwnS (rmE b s a M).blk w w3 ([tokE b3 x.1,tokE b2 x.1]++([rdE b s x.1.t,.mem M]++[])):=ho;exact hret ⟨e1,e2⟩ _ M w3 _ ho.front M.le_refl rfl
 have ho:=ho.drew;refine⟨fun W=>(rdE b s a).is W,ho.at_ 1 rfl,?_⟩;refine hd_pure _ (fun _=>run_nil) (hd_pure _ (fun _=>run_fa fr0) (hd_do _ (fun W h=>rdr_s h) ?_));refine hd_pure _ (fun _=>run_nil) (hd_pure _ (fun _=>run_fa fr1) (hd_do _ (fun W h=>rdr_a h) ?_));refine⟨?_,?_⟩
 ·refine c_below ho (R:=fun v=>v=tokR (Lx.next s a)) (next_ret s a _ hs) ?_;rintro _ w2 rfl ho;refine hd_pure _ (fun _=>run_ext0) (hd_pure _ (fun _=>run_ext1) ?_);refine o_tok ho fun b3 w3 ho=>⟨ho.at_ 2 rfl,?_⟩;refine tk_put 0 ho rfl fun w4 ho=>?_;exact two ho
 ·refine o_tok ho fun b3 w3 ho=>⟨ho.at_ 2 rfl,?_⟩;refine c_below ho (R:=fun v=>v=tokR (Lx.next s a)) (next_ret s a _ hs) ?_;rintro _ w2 rfl ho;refine hd_pure _ (fun _=>run_ext0) (hd_pure _ (fun _=>run_ext1) ?_);refine tk_put 0 ho rfl fun w4 ho=>?_;exact two ho
end
section
open Eng
def S_value_Real (t0:Value)(w:World)(K:Ending→World→Prop):Prop:=
 DoX prog (mAlloc 25) w (pk K) fun t2 w=>
 DoX prog (mBuild 25 #[(0,(.int .i64 3)),(1,t0)]) w (pk K) fun t4 w=>
 DoX prog (mStore 25 t2 t4) w (pk K) fun _ w=>
 RetX prog [.cell t2 25] w K
theorem S_value_Real_eq (t0:Value)(w:World)(K:Ending→World→Prop):wpX prog 5 [] [] none (bodyOf Tryz.f207) (topQ prog [.cell 2 25] K) (startX [t0]) [] w=S_value_Real t0 w K:=by kernel_rfl
theorem S_value_Real_ok {t0:Value}{w:World}{K:Ending→World→Prop}(h:S_value_Real t0 w K):Calls prog 207 #[t0] w K:=
 calls_of_wpX Tryz.func207 rfl rfl rfl rfl (Eq.mpr (S_value_Real_eq t0 w K) h)
def S_value_Ref (t0 t1:Value)(w:World)(K:Ending→World→Prop):Prop:=
 DoX prog (mAlloc 25) w (pk K) fun t4 w=>
 DoX prog (mBuild 25 #[(0,(.int .i64 8)),(1,t0),(2,t1)]) w (pk K) fun t7 w=>
 DoX prog (mStore 25 t4 t7) w (pk K) fun _ w=>
 RetX prog [.cell t4 25] w K
theorem S_value_Ref_eq (t0 t1:Value)(w:World)(K:Ending→World→Prop):wpX prog 8 [] [] none (bodyOf Tryz.f248) (topQ prog [.cell 4 25] K) (startX [t0,t1]) [] w=S_value_Ref t0 t1 w K:=by kernel_rfl
theorem S_value_Ref_ok {t0 t1:Value}{w:World}{K:Ending→World→Prop}(h:S_value_Ref t0 t1 w K):Calls prog 248 #[t0,t1] w K:=
 calls_of_wpX Tryz.func248 rfl rfl rfl rfl (Eq.mpr (S_value_Ref_eq t0 t1 w K) h)
def S_value_Bool_0 (t2 t3:Value)(w:World)(K:Ending→World→Prop):Prop:=
 DoX prog (mLoad 25 t3) w (pk K) fun t7 w=>
 DoX prog (mStore 25 t2 t7) w (pk K) fun _ w=>
 RetX prog [.cell t2 25] w K
def S_value_Bool (t0:Value)(w:World)(K:Ending→World→Prop):Prop:=
 DoX prog (mAlloc 25) w (pk K) fun t2 w=>
 DoX prog (mBuild 25 #[(0,(.int .i64 1))]) w (pk K) fun t4 w=>
 DoX prog (mAlloc 25) w (pk K) fun t3 w=>
 DoX prog (mStore 25 t3 t4) w (pk K) fun _ w=>
 JoinX (fun J1=>
 IfX t0 (DoX prog (mFA 25 t3 1) w (pk K) fun t6 w=>
 DoX prog (mStore 2 t6 (.int .i64 1)) w (pk K) fun _ w=>
 J1 [] w) (J1 [] w)) (fun vs1 w=>∀_:Sg,S_value_Bool_0 t2 t3 w K)
theorem S_value_Bool_eq (t0:Value)(w:World)(K:Ending→World→Prop):wpX prog 8 [(4,[])] [] none (bodyOf Tryz.f210) (topQ prog [.cell 2 25] K) (startX [t0]) [] w=S_value_Bool t0 w K:=by kernel_rfl
theorem S_value_Bool_ok {t0:Value}{w:World}{K:Ending→World→Prop}(h:S_value_Bool t0 w K):Calls prog 210 #[t0] w K:=
 calls_of_wpX Tryz.func210 rfl rfl rfl rfl (Eq.mpr (S_value_Bool_eq t0 w K) h)
end
section
open Eng Go.RowKit
theorem vreal_ret (n:Int)(w:World):Ret prog 207 #[.int .i64 n] w (obR (ob1 3 n 0 []) nilS nilS w):=by
 refine ret_of fun K hK=>S_value_Real_ok ?_;unfold S_value_Real;refine o_oba (Own.start w) fun b w1 ho=>?_;have hb:∀{PK:PKT} {K:VWP},DoX prog (mBuild 25 #[(0,(.int .i64 3)),(1,.int .i64 n)]) w1 PK K=K (obV (ob1 3 n 0 []) nilS nilS) w1:=do_eq (by kernel_rfl);rw[hb];refine ob_put 0 rfl rfl ho rfl fun w2 ho=>?_;exact ret_ob ho (hK _ _ ⟨rfl,ho.done⟩)
theorem vref_ret (n g:Int)(w:World):Ret prog 248 #[.int .i64 n,.int .i64 g] w (obR (ob1 8 n g []) nilS nilS w):=by
 refine ret_of fun K hK=>S_value_Ref_ok ?_;unfold S_value_Ref;refine o_oba (Own.start w) fun b w1 ho=>?_;have hb:∀{PK:PKT} {K:VWP},DoX prog (mBuild 25 #[(0,(.int .i64 8)),(1,.int .i64 n),(2,.int .i64 g)]) w1 PK K=K (obV (ob1 8 n g []) nilS nilS) w1:=do_eq (by kernel_rfl);rw[hb];refine ob_put 0 rfl rfl ho rfl fun w2 ho=>?_;exact ret_ob ho (hK _ _ ⟨rfl,ho.done⟩)
theorem vbool_ret (b:Bool)(w:World):Ret prog 210 #[.bool b] w (obR (ob1 1 (if b then 1 else 0) 0 []) nilS nilS w):=by
 refine ret_of fun K hK=>S_value_Bool_ok ?_;unfold S_value_Bool;refine o_oba (Own.start w) fun b2 w1 ho=>?_;have hb:∀{PK:PKT} {K:VWP},DoX prog (mBuild 25 #[(0,(.int .i64 1))]) w1 PK K=K (obV (ob1 1 0 0 []) nilS nilS) w1:=do_eq (by kernel_rfl);rw[hb];refine o_oba ho fun b3 w2 ho=>?_;refine ob_put (o':=ob1 1 0 0 []) (vk':=nilS) (vc':=nilS) 0 rfl rfl ho rfl fun w3 ho=>?_;refine join fun J hJ=>?_;have fin:∀{W:World} {n:Int},Own w W [obE b3 (ob1 1 n 0 []) nilS nilS,obE b2 ob0 nilS nilS]→n=(if b then 1 else 0)→J [] W:=by
  intro W n ho hn;refine hJ _ _ fun _=>?_;unfold S_value_Bool_0;rw[ob_v ho 0 rfl];refine ob_put 1 rfl rfl ho rfl fun w4 ho=>?_;exact ret_v1 (rv_cell (ho.agg 1 rfl aggOb)) (hK _ _ ⟨by rw[hn];rfl,ho.done⟩)
 cases b with
|true=>
  rw[i_t,fa_o1];exact o_store 0 ho rfl (by kernel_rfl) rfl (show 0+1 < 6 by omega) fun w4 ho=>fin (n:=1) ho rfl
|false=>
  rw[i_f];exact fin (n:=0) ho rfl
def pend (s:List UInt8)(t:Lx.Tok)(a:Int):Int:=match Ps.ref s t with|some p=>p.2|none=>a
def refO (s:List UInt8)(t:Lx.Tok):Ob:=match Ps.ref s t with|some p=>ob1 8 t.n p.1 []|none=>ob1 0 0 0 []
theorem pref_ret (b:Nat)(s:List UInt8)(t:Lx.Tok)(a:Int)(M:Mem)(w:World)(hs:s.length≤1099511627776)(hr:(rmE b s a M).is w) :
  Lent prog 206 #[rdP b,tokV t] (rdE b s a) M w True (rdE b s (pend s t a)) (fun v N=>v=.tuple #[obV (refO s t) nilS nilS,.bool (Ps.ref s t).isSome]) []:=by
 refine lent_of (fun K ho hret hpan=>S_parse_reader_ref_ok ?_) hr;clear hpan;have hret:=hret trivial;unfold S_parse_reader_ref;refine o_tkb t ho fun b3 w1 ho=>?_;refine o_oba ho fun b4 w2 ho=>?_;have no:∀{W:World} {L:List Ent} {o:Ob} (i:Nat),OwnS (rmE b s a M).blk w W (L++([rdE b s a,.mem M]++[]))→L[i]?=some (obE b4 o nilS nilS)→Ps.ref s t=none →
   DoX prog (mBuild 25 #[]) W (pk K) (fun t W=>DoX prog (mStore 25 (.pointer (some ⟨b4,0,none⟩)) t) W (pk K) fun _ W=>RetX prog [.cell (.pointer (some ⟨b4,0,none⟩)) 25,.val (.bool false)] W K):=by
  intro W L o i ho hi hn;rw[m_ob0];have hil:i < L.length:=(List.getElem?_eq_some_iff.1 hi).1;refine ob_put i rfl rfl ho (by rw[List.getElem?_append_left hil];exact hi) fun w' ho=>?_;rw[List.set_append_left _ _ hil] at ho;refine ret_v2 (rv_cell (ho.agg (cs:=obC Vl.ob0 nilS nilS) i (by rw[List.getElem?_append_left (by simp;omega)];simp[hil];rfl) aggOb)) rv_val ?_;refine hret _ M w' (L.set i (obE b4 Vl.ob0 nilS nilS)++[]) ?_ M.le_refl ?_
  ·rw[pend,hn];exact ho.front
  ·rw[refO,hn];rfl
 have hpend:=(rfl:pend s t a=pend s t a);unfold pend at hpend;have hrefO:refO s t=_:=rfl;by_cases h1:t.n < 1∨8191 < t.n
 ·have hr:Ps.ref s t=none:=by rw[Ps.ref,if_pos h1]
  by_cases h2:t.n < 1
  ·simp only[rs,fa_t3,tk_n ho 1 rfl,decide_eq_true h2,g_un];exact no (L:=[_,_]) 0 ho rfl hr
  ·have h3:8191 < t.n:=by omega
   simp only[rs,fa_t3,tk_n ho 1 rfl,decide_eq_false h2,decide_eq_true h3,g_un];exact no (L:=[_,_]) 0 ho rfl hr
 have h2:¬t.n < 1:=by omega
 have h3:¬8191 < t.n:=by omega
 simp only[rs,fa_t3,fa_t2,tk_n ho 1 rfl,tk_t ho 1 rfl,decide_eq_false h2,decide_eq_false h3,g_un];refine c_below ho (R:=fun v=>v=.tuple #[tokV (Lx.next s t.t).1,.bool (decide ((Lx.next s t.t).2=0))]) (peek_ret b s a t.t w2 hs (ho.at_ 2 rfl)) ?_;rintro _ w3 rfl ho;simp only[ex];refine o_tok ho fun b6 w4 ho=>?_;refine tk_put 0 ho rfl fun w5 ho=>?_;have ho:OwnS (rmE b s a M).blk w w5 [tokE b6 (Lx.next s t.t).1,obE b4 ob0 nilS nilS,tokE b3 t,rdE b s a,.mem M]:=ho;by_cases h4:(Lx.next s t.t).2≠0∨(Lx.next s t.t).1.k≠1∨(Lx.next s t.t).1.n < 0∨65535 < (Lx.next s t.t).1.n
 ·have hr:Ps.ref s t=none:=by rw[Ps.ref,if_neg h1,if_pos h4]
  have no':=no (W:=w5) (L:=[_,_,_]) 1 ho rfl hr;by_cases q1:(Lx.next s t.t).2=0
  ·by_cases q2:(Lx.next s t.t).1.k=1
   ·by_cases q3:(Lx.next s t.t).1.n < 0
    ·simp only[rs,fa_t0,fa_t3,tk_k ho 0 rfl,tk_n ho 0 rfl,q1,q2,q3,ne_eq,not_true,decide_true,decide_false,g_un,Bool.not_true];exact no'
    ·have q4:65535 < (Lx.next s t.t).1.n:=by
      rcases h4 with h|h|h|h
      ·exact absurd q1 h
      ·exact absurd q2 h
      ·exact absurd h q3
      ·exact h
     simp only[rs,fa_t0,fa_t3,tk_k ho 0 rfl,tk_n ho 0 rfl,q1,q2,q3,q4,ne_eq,not_true,decide_true,decide_false,g_un,Bool.not_true];exact no'
   ·simp only[rs,fa_t0,fa_t3,tk_k ho 0 rfl,tk_n ho 0 rfl,q1,q2,ne_eq,not_true,not_false_eq_true,decide_true,decide_false,g_un,Bool.not_true];exact no'
  ·simp only[rs,fa_t0,fa_t3,tk_k ho 0 rfl,tk_n ho 0 rfl,q1,ne_eq,not_true,not_false_eq_true,decide_true,decide_false,g_un,Bool.not_false];exact no'
 have q:(Lx.next s t.t).2=0∧(Lx.next s t.t).1.k=1∧¬(Lx.next s t.t).1.n < 0∧¬65535 < (Lx.next s t.t).1.n:=by
  refine⟨?_,?_,?_,?_⟩
  ·exact Classical.not_not.1 fun h=>h4 (.inl h)
  ·exact Classical.not_not.1 fun h=>h4 (.inr (.inl h))
  ·exact fun h=>h4 (.inr (.inr (.inl h)))
  ·exact fun h=>h4 (.inr (.inr (.inr h)))
 obtain⟨q1,q2,q3,q4⟩:=q;simp only[rs,fa_t0,fa_t2,fa_t3,tk_k ho 0 rfl,tk_n ho 0 rfl,tk_t ho 0 rfl,q1,q2,q3,q4,ne_eq,not_true,decide_true,decide_false,g_un,Bool.not_true];refine c_below ho (R:=fun v=>v=.tuple #[tokV (Lx.next s (Lx.next s t.t).1.t).1,.bool (decide ((Lx.next s (Lx.next s t.t).1.t).2=0))]) (peek_ret b s a (Lx.next s t.t).1.t w5 hs (ho.at_ 3 rfl)) ?_;rintro _ w6 rfl ho;simp only[ex];refine o_tok ho fun b8 w7 ho=>?_;refine tk_put 0 ho rfl fun w8 ho=>?_;have hr:Ps.ref s t=if (Lx.next s (Lx.next s t.t).1.t).2=0∧(Lx.next s (Lx.next s t.t).1.t).1.k=5∧(Lx.next s (Lx.next s t.t).1.t).1.s=[82] then some ((Lx.next s t.t).1.n,(Lx.next s (Lx.next s t.t).1.t).1.t) else none:=by
  rw[Ps.ref,if_neg h1,if_neg h4]
 generalize Lx.next s (Lx.next s t.t).1.t=x at *
 have ho:OwnS (rmE b s a M).blk w w8 [tokE b8 x.1,tokE b6 (Lx.next s t.t).1,obE b4 ob0 nilS nilS,tokE b3 t,rdE b s a,.mem M]:=ho;by_cases e1:x.2=0
 case neg=>
  simp only[e1,decide_false,rs,g_un,Bool.not_false];exact no (L:=[_,_,_,_]) 2 ho rfl (by rw[hr,if_neg (fun h=>e1 h.1)])
 simp only[e1,decide_true,rs,g_un,Bool.not_true,tk_v ho 0 rfl];refine c_below ho (R:=fun v=>v=.bool (decide (x.1.k=5)&&decide (x.1.s=[82]))) (pword_ret x.1 5 [82] w8) ?_;rintro _ w9 rfl ho;cases e2:(decide (x.1.k=5)&&decide (x.1.s=[82])) with
|false=>
  simp only[rs,Bool.not_false];have hnr:¬(x.2=0∧x.1.k=5∧x.1.s=[82]):=fun h=>by
   rw[decide_eq_true h.2.1,decide_eq_true h.2.2] at e2;exact absurd e2 (by decide)
  exact no (L:=[_,_,_,_]) 2 ho rfl (by rw[hr,if_neg hnr])
|true=>
  simp only[Bool.and_eq_true,decide_eq_true_eq] at e2;rw[if_pos ⟨e1,e2.1,e2.2⟩] at hr;simp only[rs,Bool.not_true,fa_t2,tk_t ho 0 rfl,m_nil,fa_r1];refine rd_put 4 ho rfl fun w10 ho=>?_;have ho:OwnS (rmE b s a M).blk w w10 [tokE b8 x.1,tokE b6 (Lx.next s t.t).1,obE b4 ob0 nilS nilS,tokE b3 t,rdE b s x.1.t,.mem M]:=ho;rw[tk_n ho 3 rfl,tk_n ho 1 rfl];refine c_below ho (R:=fun v=>v=obV (ob1 8 t.n (Lx.next s t.t).1.n []) nilS nilS) (vref_ret t.n (Lx.next s t.t).1.n w10) ?_;rintro _ w11 rfl ho;refine ob_put 2 rfl rfl ho rfl fun w12 ho=>?_;refine ret_v2 (rv_cell (ho.agg 2 rfl aggOb)) rv_val ?_;have ho:OwnS (rmE b s a M).blk w w12 ([tokE b8 x.1,tokE b6 (Lx.next s t.t).1,obE b4 (ob1 8 t.n (Lx.next s t.t).1.n []) nilS nilS,tokE b3 t]++([rdE b s x.1.t,.mem M]++[])):=ho;have hf:=ho.front;rw[←show pend s t a=x.1.t by rw[pend,hr]] at hf;exact hret _ M w12 _ hf M.le_refl (by rw[refO,hr];rfl)
def PObj (s:List UInt8)(n:Nat):Prop:=∀(b:Nat) (a:Int) (M:Mem) (w:World),Has s a→(rmE b s (Lx.next s a).1.t M).is w →
 Lent prog 158 #[rdP b,tokV (Lx.next s a).1,.int .i64 (24 - (n:Int))] (rdE b s (Lx.next s a).1.t) M w ((Ps.obj s n a).2.2=0) (rdE b s (Ps.obj s n a).2.1) (fun v N=>OV N.A N.w v (Ps.obj s n a).1) [wrongE (Ps.obj s n a).2.2]
def PArr (s:List UInt8)(n:Nat):Prop:=∀(b:Nat) (a:Int) (M:Mem) (w:World),0≤a→a≤s.length→(rmE b s a M).is w →
 Lent prog 211 #[rdP b,.int .i64 (24 - (n:Int))] (rdE b s a) M w ((Ps.arr s (decide (n≠0)) (Ps.obj s n) (s.length+1) a []).2.2=0) (rdE b s (Ps.arr s (decide (n≠0)) (Ps.obj s n) (s.length+1) a []).2.1) (fun v N=>OV N.A N.w v (Ps.arr s (decide (n≠0)) (Ps.obj s n) (s.length+1) a []).1) [wrongE (Ps.arr s (decide (n≠0)) (Ps.obj s n) (s.length+1) a []).2.2]
def PDict (s:List UInt8)(n:Nat):Prop:=∀(b:Nat) (a:Int) (M:Mem) (w:World),0≤a→a≤s.length→(rmE b s a M).is w →
 Lent prog 212 #[rdP b,.int .i64 (24 - (n:Int))] (rdE b s a) M w ((Ps.dict s (Ps.obj s n) (s.length+1) a Ps.dict0 []).2.2=0) (rdE b s (Ps.dict s (Ps.obj s n) (s.length+1) a Ps.dict0 []).2.1) (fun v N=>OV N.A N.w v (Ps.dict s (Ps.obj s n) (s.length+1) a Ps.dict0 []).1) [wrongE (Ps.dict s (Ps.obj s n) (s.length+1) a Ps.dict0 []).2.2]
end
section
open Eng Go.RowKit
theorem obj_lacks {s:List UInt8}{n:Nat}{a:Int}(h:¬Has s a):Ps.obj s n a=Ps.bad (lacks s a):=by
 unfold Has at h;unfold lacks;cases n
 all_goals
  rw[Ps.obj];by_cases e1:(Lx.next s a).2=0
  ·have e2:(Lx.next s a).1.k=0:=Classical.not_not.1 fun h2=>h ⟨e1,h2⟩;rw[if_neg (by rw[e1];simp),if_pos e2,if_neg (by rw[e1];simp)]
  ·rw[if_pos e1,if_pos e1]
theorem lacks_pos {s:List UInt8}{a:Int}:lacks s a≠0:=by
 unfold lacks;split
 ·assumption
 ·decide
theorem pobj_ret (s:List UInt8)(hs:s.length≤1000000000)(harr:∀n,n≤23→PObj s n→PArr s n)(hdict:∀n,n≤23→PObj s n→PDict s n):∀n:Nat,n≤24→PObj s n:=by
 intro n
 induction n with
|zero=>
  intro _ b a M w hh hr;have hob:Ps.obj s 0 a=_:=Ps.obj.eq_def s 0 a;simp only at hob;refine lent_of (fun K ho hret hpan=>S_parse_reader_object_ok ?_) hr;unfold S_parse_reader_object;refine o_tkb _ ho fun b4 w1 ho=>?_;refine o_oba ho fun b6 w2 ho=>?_;clear hret;obtain⟨e1,e2⟩:=hh;generalize Ps.obj s 0 a=R at *;generalize Lx.next s a=x at *
  rw[if_neg (by rw[e1];simp),if_neg e2] at hob;refine join fun J hJ=>?_;rw[tk_v ho 1 rfl];refine c_below ho (R:=fun v=>v=.bool (Ps.begins x.1)) (pfirst_ret x.1 w2 e2) ?_;rintro _ w3 rfl ho;have fail:∀{e:Int},R=Ps.bad e→e≠0→∀{W:World},OwnS (rmE b s x.1.t M).blk w W [obE b6 ob0 nilS nilS,tokE b4 x.1,rdE b s x.1.t,.mem M]→K (.panicked [wrongE e]) W:=by
   intro e he h0 W ho;subst he;exact hpan h0 _ M W _ ho.tail.tail M.le_refl
  cases e3:Ps.begins x.1 with
 |false=>
   simp only[rs,Bool.not_false,i_t];rw[if_pos e3] at hob;exact throw (fail hob (by decide) ho)
 |true=>
   simp only[rs,Bool.not_true,i_f];rw[if_neg (by rw[e3];simp)] at hob;refine hJ _ _ fun _=>?_;unfold S_parse_reader_object_0;refine join fun J hJ=>?_;simp only[rs,show decide ((24:Int)≤24 - ((0:Nat):Int))=true by decide];exact throw (fail hob (by decide) ho)
|succ n ih=>
  intro hn b a M w hh hr;have ih:=ih (by omega);have harr:=harr n (by omega) ih;have hdict:=hdict n (by omega) ih;have hob:Ps.obj s (n+1) a=_:=Ps.obj.eq_def s (n+1) a;simp only at hob;refine lent_of (fun K ho hret hpan=>S_parse_reader_object_ok ?_) hr;unfold S_parse_reader_object;refine o_tkb _ ho fun b4 w1 ho=>?_;refine o_oba ho fun b6 w2 ho=>?_;obtain⟨e1,e2⟩:=hh;have hbd:=@Lx.next_bd s a e1 e2;have hfm:=@Lx.next_form s a e1;have hge:=Lx.skip_ge s a.toNat;generalize hR:Ps.obj s (n+1) a=R at *;clear hR;generalize Lx.next s a=x at *
  rw[if_neg (by rw[e1];simp),if_neg e2] at hob;refine join fun J hJ=>?_;rw[tk_v ho 1 rfl];refine c_below ho (R:=fun v=>v=.bool (Ps.begins x.1)) (pfirst_ret x.1 w2 e2) ?_;rintro _ w3 rfl ho;have fail:∀{e:Int},R=Ps.bad e→e≠0→∀{W:World},OwnS (rmE b s x.1.t M).blk w W [obE b6 ob0 nilS nilS,tokE b4 x.1,rdE b s x.1.t,.mem M]→K (.panicked [wrongE e]) W:=by
   intro e he h0 W ho;subst he;exact hpan h0 _ M W _ ho.tail.tail M.le_refl
  cases e3:Ps.begins x.1 with
 |false=>
   simp only[rs,Bool.not_false,i_t];rw[if_pos e3] at hob;exact throw (fail hob (by decide) ho)
 |true=>
  simp only[rs,Bool.not_true,i_f];rw[if_neg (by rw[e3];simp)] at hob;refine hJ _ _ fun _=>?_;unfold S_parse_reader_object_0;refine join fun J hJ=>?_;have hdeep:¬(24:Int)≤24 - ((n+1:Nat):Int):=by omega
  simp only[rs,decide_eq_false hdeep];refine hJ _ _ fun _=>?_;unfold S_parse_reader_object_1;simp only[rs,fa_t0,tk_k ho 1 rfl]
  -- what is returned
  have good:∀{W:World} {L:List Ent} {k m g t:Int} {z:List UInt8} (j:Nat),OwnS (rmE b s x.1.t M).blk w W (L++([rdE b s t,.mem M]++[]))→L[j]?=some (obE b6 (ob1 k m g z) nilS nilS)→R=(ob1 k m g z,t,0)→RetX prog [.cell (.pointer (some ⟨b6,0,none⟩)) 25] W K:=by
   intro W L k m g t z j ho hj he;have hjl:j < L.length:=(List.getElem?_eq_some_iff.1 hj).1;refine ret_v1 (rv_cell (ho.agg (cs:=obC (ob1 k m g z) nilS nilS) j (by rw[List.getElem?_append_left hjl];exact hj) aggOb)) ?_;subst he;exact hret rfl _ M W _ ho.front M.le_refl ob1_ov2
  have tail:∀{f:Nat} {args:Array Value} {k m g:Int} {z:List UInt8} {W:World} {L:List Ent} {PK1 PK2:PKT} {o:Ob} {vk vc:Value} (j:Nat),OwnS (rmE b s x.1.t M).blk w W (L++([rdE b s x.1.t,.mem M]++[]))→L[j]?=some (obE b6 o vk vc)→Ret prog f args W (obR (ob1 k m g z) nilS nilS W)→R=(ob1 k m g z,x.1.t,0) →
    CallX prog f args W PK1 fun t W=>DoX prog (mStore 25 (.pointer (some ⟨b6,0,none⟩)) t) W PK2 fun _ W=>RetX prog [.cell (.pointer (some ⟨b6,0,none⟩)) 25] W K:=by
   intro f args k m g z W L PK1 PK2 o vk vc j ho hj hr he;have hjl:j < L.length:=(List.getElem?_eq_some_iff.1 hj).1;refine c_below ho (R:=fun v=>v=obV (ob1 k m g z) nilS nilS) hr ?_;rintro _ W2 rfl ho;refine ob_put (o':=ob1 k m g z) (vk':=nilS) (vc':=nilS) j rfl rfl ho (by rw[List.getElem?_append_left hjl];exact hj) fun W3 ho=>?_;rw[List.set_append_left _ _ hjl] at ho;exact good j ho (by simp[hjl]) he
  have hleafR:x.1.k≠6→R=Ps.leaf s x.1:=fun h=>by rw[hob,if_pos h]
  rcases hfm.kind with k0|k1|k2|k3|k4|k5|k6
  ·exact absurd k0 e2
  ·have hk6:x.1.k≠6:=by omega
   have hleaf:R=match Ps.ref s x.1 with
   |some p=>(.mk 8 x.1.n p.1 [] [] [],p.2,0)
   |none=>(.mk 2 x.1.n 0 [] [] [],x.1.t,0):=by rw[hleafR hk6,Ps.leaf,if_pos k1];cases Ps.ref s x.1<;>rfl
   simp only[decide_eq_true k1,i_t,tk_v ho 1 rfl];have ho:OwnS (rmE b s x.1.t M).blk w w3 ([obE b6 ob0 nilS nilS,tokE b4 x.1]++([rdE b s x.1.t,.mem M]++[])):=ho;have ho:=ho.front.pair;refine c_rm ho 0 rfl (pref_ret b s x.1 x.1.t M w3 (by omega) (ho.at_ 0 rfl)) ?_ fun _ _ h=>absurd trivial h;rintro _ N w4 _ hle rfl ho;simp only[ex];have ho:=ho.split;have ho:OwnS (rmE b s x.1.t M).blk w w4 ([rdE b s (pend s x.1 x.1.t),.mem N]++([obE b6 ob0 nilS nilS,tokE b4 x.1]++[])):=ho;have ho:=ho.front;refine o_oba ho fun b7 w5 ho=>?_;refine ob_put (vk':=nilS) (vc':=nilS) 0 rfl rfl ho rfl fun w6 ho=>?_;have ho:OwnS (rmE b s x.1.t M).blk w w6 ([obE b7 (refO s x.1) nilS nilS,obE b6 ob0 nilS nilS,tokE b4 x.1]++([rdE b s (pend s x.1 x.1.t),.mem N]++[])):=ho;unfold refO pend at ho;cases hp:Ps.ref s x.1 with
  |some p=>
    rw[hp] at hleaf ho;simp only at ho;simp only[Option.isSome_some,i_t,ob_v ho 0 rfl];refine ob_put 1 rfl rfl ho rfl fun w7 ho=>?_;have ho:OwnS (rmE b s x.1.t M).blk w w7 ([obE b7 (ob1 8 x.1.n p.1 []) nilS nilS,obE b6 (ob1 8 x.1.n p.1 []) nilS nilS,tokE b4 x.1]++([rdE b s p.2,.mem N]++[])):=ho;refine ret_v1 (rv_cell (ho.agg 1 rfl aggOb)) ?_;subst hleaf;exact hret rfl _ N w7 _ ho.front hle ob1_ov2
  |none=>
    rw[hp] at hleaf ho;simp only at ho;simp only[Option.isSome_none,i_f,fa_t3,tk_n ho 2 rfl];refine c_below ho (R:=fun v=>v=obV (ob1 2 x.1.n 0 []) nilS nilS) (vint_ret x.1.n w6) ?_;rintro _ w7 rfl ho;refine ob_put 1 rfl rfl ho rfl fun w8 ho=>?_;have ho:OwnS (rmE b s x.1.t M).blk w w8 ([obE b7 (ob1 0 0 0 []) nilS nilS,obE b6 (ob1 2 x.1.n 0 []) nilS nilS,tokE b4 x.1]++([rdE b s x.1.t,.mem N]++[])):=ho;refine ret_v1 (rv_cell (ho.agg 1 rfl aggOb)) ?_;subst hleaf;exact hret rfl _ N w8 _ ho.front hle ob1_ov2
  ·have hk6:x.1.k≠6:=by omega
   simp only[k2,show ¬((2:Int)=1) by decide,decide_true,decide_false,rs,fa_t3,tk_n ho 1 rfl];exact tail (L:=[_,_]) 0 ho rfl (vreal_ret x.1.n _) (by rw[hleafR hk6,Ps.leaf,if_neg (by omega),if_pos k2])
  ·have hk6:x.1.k≠6:=by omega
   simp only[k3,show ¬((3:Int)=1) by decide,show ¬((3:Int)=2) by decide,decide_true,decide_false,rs,fa_t4',tk_s ho 1 rfl];exact tail (L:=[_,_]) 0 ho rfl (vstr_ret x.1.s _) (by rw[hleafR hk6,Ps.leaf,if_neg (by omega),if_neg (by omega),if_pos k3])
  ·have hk6:x.1.k≠6:=by omega
   simp only[k4,show ¬((4:Int)=1) by decide,show ¬((4:Int)=2) by decide,show ¬((4:Int)=3) by decide,decide_true,decide_false,rs,fa_t4',tk_s ho 1 rfl];exact tail (L:=[_,_]) 0 ho rfl (vname_ret x.1.s _) (by rw[hleafR hk6,Ps.leaf,if_neg (by omega),if_neg (by omega),if_neg (by omega),if_pos k4])
  ·have hk6:x.1.k≠6:=by omega
   simp only[k5,show ¬((5:Int)=1) by decide,show ¬((5:Int)=2) by decide,show ¬((5:Int)=3) by decide,show ¬((5:Int)=4) by decide,decide_true,decide_false,rs,fa_t4',tk_s ho 1 rfl];by_cases hn:x.1.s=[110,117,108,108]
   ·simp only[decide_eq_true hn,i_t];exact tail (L:=[_,_]) 0 ho rfl (vnull_ret _) (by rw[hleafR hk6,Ps.leaf,if_neg (by omega),if_neg (by omega),if_neg (by omega),if_neg (by omega),if_pos (show x.1.s=Ps.nul from hn)];rfl)
   ·simp only[decide_eq_false hn,i_f];refine tail (L:=[_,_]) 0 ho rfl (vbool_ret _ _) ?_;rw[hleafR hk6,Ps.leaf,if_neg (by omega),if_neg (by omega),if_neg (by omega),if_neg (by omega),if_neg (show ¬x.1.s=Ps.nul from hn)];simp only[decide_eq_true_eq];rfl
  ·have hs2:x.1.s=[91]∨x.1.s=[60,60]:=by
    unfold Ps.begins at e3;rw[if_pos k6] at e3;simpa using e3
   rw[if_neg (show ¬x.1.k≠6 by rw[k6];simp)] at hob;simp only[k6,show ¬((6:Int)=1) by decide,show ¬((6:Int)=2) by decide,show ¬((6:Int)=3) by decide,show ¬((6:Int)=4) by decide,show ¬((6:Int)=5) by decide,decide_true,decide_false,rs,fa_t4',tk_s ho 1 rfl];rw[wrap64_id (by omega) (by omega),show (24:Int) - ((n+1:Nat):Int)+1=24 - (n:Int) by omega];have ho:OwnS (rmE b s x.1.t M).blk w w3 ([obE b6 ob0 nilS nilS,tokE b4 x.1]++([rdE b s x.1.t,.mem M]++[])):=ho;have ho:=ho.front.pair;have fin:∀{W:World} {N:Mem} {u:Value},R.2.2=0→M.le N→OV N.A N.w u R.1→OwnS (rmE b s x.1.t M).blk w W [rmE b s R.2.1 N,obE b6 ob0 nilS nilS,tokE b4 x.1] →
     DoX prog (mStore 25 (.pointer (some ⟨b6,0,none⟩)) u) W (pk K) fun _ w=>RetX prog [.cell (.pointer (some ⟨b6,0,none⟩)) 25] w K:=by
    intro W N u h0 hle hu ho;obtain⟨xk,xc,xcs,rfl,hx⟩:=hu.open;refine ob_put 1 hx.keys.one hx.kids.one ho rfl fun W2 ho=>?_;refine ret_v1 (rv_cell (ho.agg 1 rfl aggOb)) ?_;exact hret h0 _ N W2 _ ho.split hle hx.ov
   have fall:∀{W:World} {e2:Ent},¬R.2.2=0→OwnS (rmE b s x.1.t M).blk w W [.two e2 (.mem M),obE b6 ob0 nilS nilS,tokE b4 x.1]→pk K [wrongE R.2.2] W:=
    fun h0 ho=>hpan h0 _ M _ _ ho.split M.le_refl
   rcases hs2 with h2|h2
   ·simp only[decide_eq_true h2,i_t];rw[if_pos h2] at hob;have h:=harr b x.1.t M w3 (by omega) (by omega) (ho.at_ 0 rfl);rw[←hob] at h;exact c_rm ho 0 rfl h (fun v N w4 h0 hle hv ho=>fin h0 hle hv ho) fun e2 w4 h0 ho=>fall h0 ho
   ·have h91:¬x.1.s=[91]:=by rw[h2];decide
    simp only[decide_eq_false h91,i_f];rw[if_neg h91] at hob;have h:=hdict b x.1.t M w3 (by omega) (by omega) (ho.at_ 0 rfl);rw[←hob] at h;exact c_rm ho 0 rfl h (fun v N w4 h0 hle hv ho=>fin h0 hle hv ho) fun e2 w4 h0 ho=>fall h0 ho
end
section
open Eng Go.RowKit
def rdAt (b:Nat)(w:World):Nat:=match w.cell? ⟨b,1,none⟩ with|some (.int _ q)=>q.toNat|_=>0
theorem rdAt_is {b:Nat}{s:List UInt8}{a:Int}{w:World}(h:(rdE b s a).is w):rdAt b w=a.toNat:=by
 unfold rdAt;rw[cells_cell (T:=130) (cs:=rdC s a) (i:=1) h rfl]
theorem meas {n:Nat}{a b:Int}(h0:0≤a)(h:a < b)(hb:b≤n):n - b.toNat < n - a.toNat:=by omega
theorem arr_lacks {s:List UInt8}{ok:Bool}{n m:Nat}{a:Int}{acc:List Ob}(h:¬Has s a):Ps.arr s ok (Ps.obj s n) (m+1) a acc=Ps.bad (lacks s a):=by
 rw[Ps.arr];have h1:¬((Lx.next s a).2=0∧(Lx.next s a).1.k=6∧(Lx.next s a).1.s=[93]):=fun h2=>h ⟨h2.1,by rw[h2.2.1];decide⟩;rw[if_neg h1];by_cases e1:(Lx.next s a).2=0
 ·have e2:(Lx.next s a).1.k=0:=Classical.not_not.1 fun h2=>h ⟨e1,h2⟩;have hb:¬((Lx.next s a).2=0∧acc.length=8191∧Ps.begins (Lx.next s a).1=true∧ok=true):=fun h2=>by
   have:=h2.2.2.1;unfold Ps.begins at this;rw[if_neg (by rw[e2];decide),e2] at this;simp at this
  rw[if_neg hb,if_neg (by rw[e1];simp),obj_lacks h,if_pos (show (Ps.bad (lacks s a)).2.2≠0 from lacks_pos)];rfl
 ·rw[if_neg (fun h2=>e1 h2.1),if_pos e1];unfold lacks;rw[if_pos e1]
theorem parr_ret (s:List UInt8)(hs:s.length≤1000000000)(n:Nat)(hn:n≤23)(hsub:PObj s n):PArr s n:=by
 intro b a M w h0 h1 hr;generalize hR:Ps.arr s (decide (n≠0)) (Ps.obj s n) (s.length+1) a []=R;refine lent_of (fun K ho hret hpan=>S_parse_reader_array_ok ?_) hr;unfold S_parse_reader_array;have ho:=ho.pair.nilU 25 6;refine o_oba ho fun b4 w1 ho=>?_;have hb6:∀{PK:PKT} {K:VWP},DoX prog (mBuild 25 #[(0,(.int .i64 6))]) w1 PK K=K (obV (.mk 6 0 0 [] [] []) nilS nilS) w1:=do_eq (by kernel_rfl);rw[hb6];refine o_oba ho fun b5 w2 ho=>?_;refine ob_put (o':=.mk 6 0 0 [] [] []) (vk':=nilS) (vc':=nilS) 0 rfl rfl ho rfl fun w3 ho=>?_;generalize hS0:(rmE b s a M).blk=S0 at *;have ho:OwnS S0 w w3 [obE b5 (.mk 6 0 0 [] [] []) nilS nilS,obE b4 ob0 nilS nilS,kidE nilS 0 [],rmE b s a M]:=ho;have fall:∀{W:World} {L:List Ent} {e2:Ent} {N:Mem} (e:Int),OwnS S0 w W (L++([.two e2 (.mem N)]++[]))→M.le N→R=Ps.bad e→e≠0→pk K [wrongE e] W:=by
  intro W L e2 N e ho hle he h0;subst he;exact hpan h0 e2 N W _ (ho.front).split hle
 refine loop (fun vs w'=>∃(a':Int) (m:Nat) (acc:List Ob) (cs:List Value) (vc:Value) (N:Mem),vs=[]∧0≤a'∧a'≤s.length∧(acc.length:Int)≤a'∧acc.length≤8191∧acc.length+m=s.length+1 ∧
   Ps.arr s (decide (n≠0)) (Ps.obj s n) m a' acc=R∧M.le N∧OVs N.A N.w cs acc ∧
   OwnS S0 w w' [obE b5 (.mk 6 0 0 [] [] acc) nilS vc,obE b4 ob0 nilS nilS,kidE vc acc.length cs,rmE b s a' N]) (fun _ w=>s.length - rdAt b w)
  ⟨a,s.length+1,[],[],nilS,M,rfl,h0,h1,by simpa using h0,by simp,by simp,hR,M.le_refl,OVs.nil,ho⟩ ?_
 clear ho hR;rintro vs w4 ⟨a',m,acc,cs,vc,N,rfl,ha0,ha1,hla,hmx,hml,harr,hle,hall,ho⟩ _;simp only[S_parse_reader_array_0];obtain⟨m,rfl⟩:∃k,m=k+1:=⟨m - 1,by omega⟩;have hat:rdAt b w4=a'.toNat:=rdAt_is (ho.at_ 3 rfl).1;refine c_rm ho 3 rfl (pnext_ret b s a' N w4 (by omega) (ho.at_ 3 rfl)) ?_ fun e2 w5 hn ho=>?_
 rotate_left
 ·rw[arr_lacks hn] at harr;exact fall (L:=[_,_,_]) _ ho hle harr.symm lacks_pos
 rintro _ N1 w5 hhas hle1 rfl ho;have hbd:=@Lx.next_bd s a' hhas.1 hhas.2;have hge:=Lx.skip_ge s a'.toNat;have hopen:=@Ps.obj_open s n a';have hsubl:=fun (M:Mem) (w:World)=>hsub b a' M w hhas;have hbd2:=@Ps.obj_bd s n a';obtain⟨e1,e2⟩:=hhas;rw[Ps.arr] at harr;generalize Ps.obj s n a'=e at *;generalize Lx.next s a'=x at *
 have hvc:=urow_one (ho.at_ 2 rfl);refine o_tok ho fun b6 w6 ho=>?_;refine tk_put 0 ho rfl fun w7 ho=>?_;have ho:OwnS S0 w w7 [tokE b6 x.1,obE b5 (.mk 6 0 0 [] [] acc) nilS vc,obE b4 ob0 nilS nilS,kidE vc acc.length cs,rmE b s x.1.t N1]:=ho;rw[tk_v ho 0 rfl];refine c_below ho (R:=fun v=>v=.bool (decide (x.1.k=6)&&decide (x.1.s=[93]))) (pword_ret x.1 6 [93] w7) ?_;rintro _ w8 rfl ho;cases e3:(decide (x.1.k=6)&&decide (x.1.s=[93])) with
|true=>
  simp only[Bool.and_eq_true,decide_eq_true_eq] at e3;rw[if_pos ⟨e1,e3.1,e3.2⟩] at harr;simp only[i_t,ob_v ho 1 rfl];refine ob_put 2 rfl hvc ho rfl fun w9 ho=>?_;refine ret_v1 (rv_cell (ho.agg 2 rfl aggOb)) ?_;have ho:OwnS S0 w w9 ([tokE b6 x.1,obE b5 (.mk 6 0 0 [] [] acc) nilS vc,obE b4 (.mk 6 0 0 [] [] acc) nilS vc,kidE vc acc.length cs]++([rmE b s x.1.t N1]++[])):=ho;have ho:=ho.front.split;have ho:OwnS S0 w w9 ([rdE b s x.1.t,.mem N1,tokE b6 x.1,obE b5 (.mk 6 0 0 [] [] acc) nilS vc,obE b4 (.mk 6 0 0 [] [] acc) nilS vc]++([kidE vc acc.length cs]++[])):=ho;obtain⟨N2,hle2,hrow,ho⟩:=OwnS.freezeU (L:=[rdE b s x.1.t,.mem N1,tokE b6 x.1,obE b5 (.mk 6 0 0 [] [] acc) nilS vc,obE b4 (.mk 6 0 0 [] [] acc) nilS vc]) ho.front 1 rfl;subst harr;exact hret rfl _ N2 w9 _ ho ((hle.trans hle1).trans hle2) (ObAt.ov (o:=.mk 6 0 0 [] [] acc) ⟨SlA.nil _ _ _ _,hrow,(hall.le hle1).le hle2⟩)
|false=>
 have e3':¬(x.2=0∧x.1.k=6∧x.1.s=[93]):=fun h=>by
  rw[decide_eq_true h.2.1,decide_eq_true h.2.2] at e3;exact absurd e3 (by decide)
 rw[if_neg e3'] at harr;simp only[i_f];refine join fun J hJ=>?_
 -- the element
 have one:∀{W:World},OwnS S0 w W [tokE b6 x.1,obE b5 (.mk 6 0 0 [] [] acc) nilS vc,obE b4 ob0 nilS nilS,kidE vc acc.length cs,rmE b s x.1.t N1]→¬(acc.length=8191∧Ps.begins x.1=true∧n≠0)→J [] W:=by
  intro W ho h6;have h6':¬(x.2=0∧acc.length=8191∧Ps.begins x.1=true∧decide (n≠0)=true):=fun h=>h6 ⟨h.2.1,h.2.2.1,of_decide_eq_true h.2.2.2⟩;rw[if_neg h6',if_neg (by rw[e1];simp)] at harr;refine hJ _ _ fun _=>?_;unfold S_parse_reader_array_1;have ho:=ho.drew;refine⟨fun W=>(obE b5 (.mk 6 0 0 [] [] acc) nilS vc).is W∧(tokE b6 x.1).is W,⟨ho.at_ 1 rfl,ho.at_ 0 rfl⟩,?_⟩;refine hd_pure _ (fun _=>run_fa fo_o5) ?_;refine hd_do vc (fun W h=>run_load_cell nSlOb (cells_cell (T:=25) (cs:=obC (.mk 6 0 0 [] [] acc) nilS vc) (i:=5) h.1 rfl)) ?_;refine hd_do (tokV x.1) (fun W h=>run_load_at (AtV.agg aggTok (cs:=tokC x.1) rfl fun j u hj=>by rw[Nat.zero_add];exact cells_cell (T:=58) h.2 hj)) ?_;refine c_rm ho 4 rfl (hsubl N1 _ (ho.at_ 4 rfl)) ?_ fun e2 w9 hz ho=>?_
  rotate_left
  ·rw[if_pos hz] at harr;exact fun _ _ _ _ _ _=>fall (L:=[_,_,_,_]) _ ho (hle.trans hle1) harr.symm hz
  rintro u N2 w9 hz hle2 hu ho;have ho:OwnS S0 w w9 [tokE b6 x.1,obE b5 (.mk 6 0 0 [] [] acc) nilS vc,obE b4 ob0 nilS nilS,kidE vc acc.length cs,rmE b s e.2.1 N2]:=ho;obtain⟨xk,xc,xcs,rfl,hx⟩:=hu.open;refine⟨⟨ho.at_ 1 rfl,ho.at_ 0 rfl⟩,?_⟩;refine o_obs1 e.1 hx.keys.one hx.kids.one ho fun nb w10 ho=>⟨⟨ho.at_ 2 rfl,ho.at_ 1 rfl⟩,?_⟩;refine o_apO 4 ho rfl (ho.sl 0 rfl 6 1 1 rfl) (obC_one _ hx.keys.one hx.kids.one) (by omega) fun vc' w11 ho=>⟨⟨ho.at_ 2 rfl,ho.at_ 1 rfl⟩,?_⟩;have ho:=ho.tail.tail;have ho:OwnS S0 w w11 [obE b5 (.mk 6 0 0 [] [] acc) nilS vc,obE b4 ob0 nilS nilS,kidE vc' (acc.length+1) (cs++obC e.1 xk xc),rmE b s e.2.1 N2]:=ho;have hvc':=urow_one (ho.at_ 2 rfl);refine hd_pure _ (fun _=>run_fa fo_o5) ?_;refine o_store 0 ho rfl (by kernel_rfl) hvc' (show 0+5 < 6 by omega) fun w12 ho=>?_;have hbd3:=hbd2 hz;rw[if_neg (by rw[hz];simp)] at harr;obtain⟨o1,o2,o3,m',hm',_⟩:=hopen hz;have hmx':acc.length≠8191:=fun h=>h6 ⟨h,o3,by omega⟩;have el:(acc++[e.1]).length=acc.length+1:=by simp
  refine nextX ⟨e.2.1,m,acc++[e.1],cs++obC e.1 xk xc,vc',N2,rfl,by omega,hbd3.2,by simp;omega,by simp;omega,by simp;omega,harr,(hle.trans hle1).trans hle2,ovs_app ((hall.le hle1).le hle2) (ovs_1 hx.ov),?_⟩ ?_
  ·rw[el];exact ho
  ·have hat2:rdAt b w12=e.2.1.toNat:=rdAt_is (ho.at_ 3 rfl).1;show s.length - rdAt b w12 < s.length - rdAt b w4;rw[hat,hat2];exact meas ha0 hbd3.1 hbd3.2
 rw[tk_v ho 0 rfl];refine c_below ho (R:=fun v=>v=.bool (Ps.begins x.1)) (pfirst_ret x.1 w8 e2) ?_;rintro _ w9 rfl ho;cases e4:Ps.begins x.1 with
|false=>
  simp only[rs,g_un];exact one ho fun h=>by rw[e4] at h;exact absurd h.2.1 (by decide)
|true=>
  simp only[rs];by_cases e5:n=0
  ·have:¬(24:Int) - n < 24:=by omega
   simp only[decide_eq_false this,rs,g_un];exact one ho fun h=>h.2.2 e5
  ·have:(24:Int) - n < 24:=by omega
   simp only[decide_eq_true this,rs,fa_o5,ob_kids ho 1 rfl,sl_len Tryz.underlying23 (ho.slU 3 rfl)];by_cases e6:(8191:Int)≤(acc.length:Int)
   ·simp only[decide_eq_true e6,i_t];rw[if_pos ⟨e1,by omega,e4,decide_eq_true e5⟩] at harr;exact throw (fall (L:=[_,_,_,_]) 6 ho (hle.trans hle1) harr.symm (by decide))
   ·simp only[decide_eq_false e6,i_f];exact one ho fun h=>e6 (by omega)
end
section
open Eng Go.RowKit
def sortS (ks:List (List UInt8)):List (List UInt8):=ks.mergeSort fun x y=>decide (x≤y)
theorem sortS_len (ks:List (List UInt8)):(sortS ks).length=ks.length:=List.length_mergeSort _
theorem sortS_perm (ks:List (List UInt8)):(sortS ks).Perm ks:=List.mergeSort_perm _ _
theorem sortS_rise {ks l:List (List UInt8)}(hp:ks.Perm l)(hr:Vl.Rise l):sortS ks=l:=by
 have tr:∀a b c:List UInt8,decide (a≤b)=true→decide (b≤c)=true→decide (a≤c)=true:=fun a b c h1 h2=>by simp only[decide_eq_true_eq] at *;exact List.le_trans h1 h2
 have tt:∀a b:List UInt8,(decide (a≤b)||decide (b≤a))=true:=fun a b=>by simp only[Bool.or_eq_true,decide_eq_true_eq];exact List.le_total a b
 refine List.Perm.eq_of_pairwise (le:=fun a b=>decide (a≤b)=true) (fun a b _ _ h1 h2=>?_) (List.pairwise_mergeSort tr tt ks) (hr.imp fun {a b} h=>?_) ((sortS_perm ks).trans hp)
 ·simp only[decide_eq_true_eq] at h1 h2;exact List.le_antisymm h1 h2
 ·have:=(Vl.less_lt a b).1 h;simp only[decide_eq_true_eq];exact List.le_of_lt this
theorem ssort_ret (v:Value)(ks:List (List UInt8))(w:World)(h:(keyE v ks).is w)(hb:ks.length≤1000000000) :
  Ret prog 249 #[v] w (fun r w'=>r=.tuple #[]∧Turn (keyE v ks) (keyE v (sortS ks)) w w'):=by
 obtain⟨h1,h2⟩:=(show w.ownsRow 0 9 1 v ks.length (strsV ks) from h);rcases h2 with ⟨rfl,h0⟩|⟨g,cap,cur,rfl,hb0,hg,hnc,hcm,hcs,htake⟩
 ·have hk:ks=[]:=List.eq_nil_of_length_eq_zero h0;subst hk;refine Calls.mono (Tryz.slices_Sort_string_none none 0 w) ?_;rintro e w' ⟨rfl,rfl⟩;exact⟨_,rfl,rfl,by simpa[sortS] using Turn.refl h⟩
 ·rw[Nat.mul_one] at hcs htake;have hsz:ks.length≤cur.size:=by rw[hcs];exact hnc
  have hget:∀j,(hj:j < ks.length)→cur[j]?=some (Value.string ⟨ks[j].toArray⟩):=by
   intro j hj;have h3:(strsV ks)[j]?=some (.string ⟨ks[j].toArray⟩):=strsV_get hj;rw[←htake,List.getElem?_take,if_pos hj,Array.getElem?_toList] at h3;exact h3
  have hH:Go.Sort.Holds encStr w g 0 ks.toArray:=by
   intro j hj;have hj':j < ks.length:=by simpa using hj
   constructor
   ·unfold World.cell?;simp only[hg,Nat.zero_add];rw[hget j hj',getElem!_pos ks.toArray j hj];rfl
   ·unfold World.frozen?;simp only[hg,Nat.zero_add];simp
  refine Calls.mono (Tryz.slices_Sort_string g 0 cap ks w hH (lt_of_get hg) (by omega)) ?_;rintro e w' ⟨rfl,n,os,rfl⟩;refine⟨_,rfl,rfl,?_⟩;have hlen:=sortS_len ks;have hheap:∀k,k < w.heap.size→(Go.Sort.grow (Go.Sort.putRow encStr (Go.Sort.ahead w n) g 0 (sortS ks).toArray) os).heap[k]?=(if g=k then (w.heap[k]?).map (Go.Sort.onCells (Go.Sort.putCells encStr 0 (sortS ks).toArray)) else w.heap[k]?):=by
   intro k hk;show ((w.heap.modify g _)++os)[k]?=_;rw[Array.getElem?_append_left (by simpa using hk),Array.getElem?_modify]
  refine⟨⟨rfl,rfl,rfl,?_,fun k hk hn=>?_⟩,?_,fun k hk=>.inl hk⟩
  ·show w.heap.size≤((w.heap.modify g _)++os).size;simp
  ·have hne:g≠k:=fun e=>hn (by subst e;rfl);exact (hheap k hk).trans (if_neg hne)
  ·show (World.ownsRow _ 0 9 1 _ (sortS ks).length (strsV (sortS ks)));refine⟨by simp[strsV],.inr ⟨g,cap,Go.Sort.putCells encStr 0 (sortS ks).toArray cur,by rw[hlen],hb0,?_,by rw[hlen];exact hnc,hcm,?_,?_⟩⟩
   ·have:=hheap g (lt_of_get hg);rw[if_pos rfl,hg] at this;exact this
   ·simp[Go.Sort.putCells,hcs]
   ·rw[Nat.mul_one];apply List.ext_getElem?;intro j;rw[List.getElem?_take];by_cases hj:j < (sortS ks).length
    ·have hjc:j < cur.size:=by omega
     rw[if_pos hj,strsV_get hj,Array.getElem?_toList];unfold Go.Sort.putCells;rw[Array.getElem?_mapIdx,Array.getElem?_eq_getElem hjc,Option.map_some,if_pos ⟨by omega,by simpa using hj⟩,Nat.sub_zero,getElem!_pos (sortS ks).toArray j (by simpa using hj)];rfl
    ·rw[if_neg hj,List.getElem?_eq_none (by rw[strsV_length];omega)]
end
section
open Go
namespace Ps
abbrev Kv:=List UInt8×Ob
def live (l:List Kv):List (List UInt8):=(l.filter fun p=>decide (p.2.k≠0)).map (·.1)
structure Made (o:Ob) (l:List Kv):Prop where
 k:o.k=7
 n:o.n=0
 g:o.g=0
 s:o.s=[]
 rise:Vl.Rise o.keys
 len:o.keys.length=o.kids.length
 perm:(live l).Perm o.keys
 mem:∀q∈o.keys.zip o.kids,q∈l
theorem made0:Made dict0 []:=⟨rfl,rfl,rfl,rfl,List.Pairwise.nil,rfl,List.Perm.nil,fun q hq=>by simp[dict0,Ob.keys] at hq⟩
theorem live_snoc (l:List Kv)(p:Kv):live (l++[p])=live l++(if p.2.k≠0 then [p.1] else []):=by
 unfold live;rw[List.filter_append,List.map_append]
 congr 1
 by_cases h:p.2.k=0<;>simp[h]
theorem live_sub {l:List Kv}:∀k∈live l,k∈l.map (·.1):=by
 intro k hk;obtain⟨p,hp,rfl⟩:=List.mem_map.1 hk;exact List.mem_map.2 ⟨p,(List.mem_filter.1 hp).1,rfl⟩
theorem made_join {o v:Ob}{l:List Kv}{key:List UInt8}(h:Made o l)(hn:key ∉ l.map (·.1)):Made (join o key v) (l++[(key,v)]):=by
 unfold join;by_cases hv:v.k=0
 ·rw[if_neg (by rw[hv];simp)];refine⟨h.k,h.n,h.g,h.s,h.rise,h.len,?_,fun q hq=>List.mem_append_left _ (h.mem q hq)⟩;rw[live_snoc,if_neg (by rw[hv];simp),List.append_nil];exact h.perm
 ·rw[if_pos hv];have hko:key ∉ o.keys:=fun hk=>hn (live_sub _ (h.perm.symm.subset hk));have hhit:Vl.hit o.keys key=false:=by
   unfold Vl.hit;rw[decide_eq_false_iff_not];exact fun hk=>hko (List.mem_of_getElem? hk)
  have hput:Vl.put o key v=.mk o.k o.n o.g o.s (o.keys.take (Vl.place o.keys key)++key::o.keys.drop (Vl.place o.keys key)) (o.kids.take (Vl.place o.keys key)++v::o.kids.drop (Vl.place o.keys key)):=by
   unfold Vl.put;rw[hhit];rfl
  obtain⟨r1,r2⟩:=Vl.rise_put (v:=v) h.rise h.len (key:=key);refine⟨h.k,h.n,h.g,h.s,r1,r2,?_,?_⟩
  ·rw[live_snoc,if_pos hv,hput];refine (List.perm_append_singleton key (live l)).trans ?_;refine (List.Perm.cons key h.perm).trans ?_;have:=(List.perm_middle (a:=key) (l₁:=o.keys.take (Vl.place o.keys key)) (l₂:=o.keys.drop (Vl.place o.keys key))).symm
   rwa [List.take_append_drop] at this
  ·intro q hq;rw[hput] at hq;have hz:(o.keys.take (Vl.place o.keys key)++key::o.keys.drop (Vl.place o.keys key)).zip (o.kids.take (Vl.place o.keys key)++v::o.kids.drop (Vl.place o.keys key)) =
     (o.keys.take (Vl.place o.keys key)).zip (o.kids.take (Vl.place o.keys key))++(key,v)::(o.keys.drop (Vl.place o.keys key)).zip (o.kids.drop (Vl.place o.keys key)):=by
    rw[List.zip_append (by simp[h.len])];rfl
   have hq:q∈(o.keys.take (Vl.place o.keys key)++key::o.keys.drop (Vl.place o.keys key)).zip (o.kids.take (Vl.place o.keys key)++v::o.kids.drop (Vl.place o.keys key)):=hq;rw[hz] at hq;have hold:o.keys.zip o.kids=(o.keys.take (Vl.place o.keys key)).zip (o.kids.take (Vl.place o.keys key))++(o.keys.drop (Vl.place o.keys key)).zip (o.kids.drop (Vl.place o.keys key)):=by
    rw[←List.zip_append (by simp[h.len]),List.take_append_drop,List.take_append_drop]
   rcases List.mem_append.1 hq with hq|hq
   ·exact List.mem_append_left _ (h.mem q (by rw[hold];exact List.mem_append_left _ hq))
   ·rcases List.mem_cons.1 hq with hq|hq
    ·subst hq;simp
    ·exact List.mem_append_left _ (h.mem q (by rw[hold];exact List.mem_append_right _ hq))
theorem made_at {o:Ob}{l:List Kv}(h:Made o l){i:Nat}(hi:i < o.keys.length):(o.keys[i],o.kids[i]'(by have:=h.len;omega))∈l:=by
 refine h.mem _ ?_;have:(o.keys.zip o.kids)[i]'(by simp[h.len] at *;omega)=(o.keys[i],o.kids[i]'(by have:=h.len;omega)):=List.getElem_zip;rw[←this];exact List.getElem_mem _
end Ps
end
section
namespace Eng
open Go.RowKit
structure MapF (al:List (List UInt8×Value)) (es:Array MapEntry) (clock:Nat):Prop where
 al:es.toList.map (fun e=>(e.key,e.val))=al.map fun p=>(strK p.1,p.2)
 nodup:(es.toList.map (·.born)).Nodup
 old:∀e∈es.toList,e.born < clock
def Ent.mapB (b:Nat)(al:List (List UInt8×Value)):Ent:=⟨fun k=>k=b,fun w=>∃es clock,w.heap[b]?=some (.map es clock)∧MapF al es clock,fun {w w'} h k=>by
  obtain⟨es,clock,h1,h2⟩:=h;exact⟨es,clock,(k b rfl).trans h1,h2⟩,fun h k hk=>by
  obtain⟨es,clock,h1,h2⟩:=h;cases hk;exact lt_of_get h1⟩
theorem mapB_is {w:World}{b:Nat}{al:List (List UInt8×Value)}(h:(Ent.mapB b al).is w):MapIs w b al:=by
 obtain⟨es,clock,h1,h2⟩:=h;exact⟨es,clock,h1,h2.al⟩
def SeenM (es:Array MapEntry)(seen:Array Nat)(done:List (List UInt8×Value)):Prop:=
 ∃ds:List MapEntry,seen.toList=ds.map (·.born)∧(∀e∈ds,e∈es.toList)∧(ds.map (·.born)).Nodup∧ds.map (fun e=>(e.key,e.val))=done.map fun p=>(strK p.1,p.2)
theorem born_inj:∀{l:List MapEntry},(l.map (·.born)).Nodup→∀{x y:MapEntry},x∈l→y∈l→x.born=y.born→x=y
|[],_,_,_,hx,_,_=>by cases hx
|a::l,hn,x,y,hx,hy,h=>by
  rw[List.map_cons,List.nodup_cons] at hn;rcases List.mem_cons.1 hx with ex|hx
  ·rcases List.mem_cons.1 hy with ey|hy
   ·rw[ex,ey]
   ·exact absurd (List.mem_map.2 ⟨y,hy,by rw[←h,ex]⟩) hn.1
  ·rcases List.mem_cons.1 hy with ey|hy
   ·exact absurd (List.mem_map.2 ⟨x,hx,by rw[h,ey]⟩) hn.1
   ·exact born_inj hn.2 hx hy h
theorem nodup_of_born:∀{l:List MapEntry},(l.map (·.born)).Nodup→l.Nodup
|[],_=>List.nodup_nil
|a::l,h=>by
  rw[List.map_cons,List.nodup_cons] at h;exact List.nodup_cons.2 ⟨fun hm=>h.1 (List.mem_map.2 ⟨a,hm,rfl⟩),nodup_of_born h.2⟩
theorem nodup_le {α:Type}:∀(a b:List α),a.Nodup→(∀x∈a,x∈b)→a.length≤b.length
|[],_,_,_=>by simp
|x::a,b,hn,hs=>by
  obtain⟨u,v,rfl⟩:=List.append_of_mem (hs x List.mem_cons_self);obtain⟨h1,h2⟩:=List.nodup_cons.1 hn;have:=nodup_le a (u++v) h2 fun y hy=>by
   have hy':=hs y (List.mem_cons_of_mem _ hy);rw[List.mem_append,List.mem_cons] at hy';rw[List.mem_append];rcases hy' with h|h|h
   ·exact .inl h
   ·subst h;exact absurd hy h1
   ·exact .inr h
  simp only[List.length_append,List.length_cons] at this ⊢;omega
theorem perm_kv {a b:List (List UInt8×Value)}(h:(a.map fun p=>(strK p.1,p.2)).Perm (b.map fun p=>(strK p.1,p.2))):a.Perm b:=by
 -- a list that goes back
 let back:Value×Value→List UInt8×Value:=fun q=>(match q.1 with|.string s=>s.data.toList|_=>[],q.2)
 have hb:∀l:List (List UInt8×Value),(l.map fun p=>(strK p.1,p.2)).map back=l:=by
  intro l;rw[List.map_map]
  conv=>rhs;rw[←List.map_id l]
  refine List.map_congr_left fun p _=>?_;rfl
 have:=h.map back
 rwa [hb,hb] at this
section
variable {S:Nat→Prop}{P:Program}{w w0:World}{L:List Ent}{PK:PKT}{K:VWP}
theorem o_mapNewB {T:TypeId}(ho:OwnS S w0 w L)(k:∀b w',OwnS S w0 w' (.mapB b []::L)→K (.map (some b)) w'):DoX P (mMap T none) w PK K:=by
 have hr:(Instr.makeMap T none).run P w=.ok (.map (some w.heap.size)) (w.alloc (.map #[] 0)):=rfl;exact do_ok (mv_run hr) (k _ _ (ho.add (World.grownBy_alloc w _ none) (.mapB w.heap.size []) ⟨#[],0,heap_alloc_new w _,rfl,List.nodup_nil,fun e he=>by simp at he⟩ (fun k hk=>by cases hk;exact Nat.le_refl _)))
theorem o_mapAddB (i:Nat){T k e:TypeId}{b:Nat}{al:List (List UInt8×Value)}(ht:P.underlying T=some (.map k e))(hk:P.underlying k=some .string)(ho:OwnS S w0 w L)(hi:L[i]?=some (.mapB b al))(x:List UInt8)(v:Value)(hn:lookA al x=none)
  (kk:∀w',OwnS S w0 w' (L.set i (.mapB b (al++[(x,v)])))→K undef w'):DoX P (mMapU T (.map (some b)) (strK x) v) w PK K:=by
 obtain⟨es,clock,h1,h2⟩:=(show ∃es clock,w.heap[b]?=some (.map es clock)∧MapF al es clock from ho.at_ i hi);obtain⟨r,r1,r2⟩:=run_findStr (P:=P) (w:=w) hk x h2.al;have hr0:r=none:=by
  cases r with
 |none=>rfl
 |some p=>rw[hn] at r2;cases r2
 subst hr0;have hr:(Instr.mapUpdate T (.map (some b)) (strK x) v).run P w=.ok () { w with heap:=w.heap.setIfInBounds b (.map (es.push { key:=strK x,val:=v,born:=clock }) (clock+1)) }:=by
  simp[Instr.mapUpdate,run_underlying ht,getObj,setObj,Sem.run,h1,run_checkStr hk x,r1]
 refine do_skip (mu_run hr) (kk _ ?_);refine ho.put i hi (w':={ w with heap:=w.heap.setIfInBounds b _ }) ⟨rfl,rfl,rfl,by simp,fun k _ hk=>?_⟩ (.mapB b (al++[(x,v)])) ?_ (fun k hk=>.inl hk)
 ·show (w.heap.setIfInBounds b _)[k]?=_;exact Array.getElem?_setIfInBounds_ne (fun e=>hk (by simp[Ent.mapB,e]))
 ·refine⟨es.push { key:=strK x,val:=v,born:=clock },clock+1,?_,?_,?_,?_⟩
  ·show (w.heap.setIfInBounds b _)[b]?=_;exact Array.getElem?_setIfInBounds_self_of_lt (lt_of_get h1)
  ·simp[h2.al]
  ·rw[Array.toList_push,List.map_append,List.nodup_append];refine⟨h2.nodup,by simp,fun a ha c hc=>?_⟩;obtain⟨e,he,rfl⟩:=List.mem_map.1 ha;have:=h2.old e he;simp at hc;omega
  ·intro e he;rw[Array.toList_push] at he;rcases List.mem_append.1 he with he|he
   ·have:=h2.old e he;omega
   ·rw[List.mem_singleton] at he;subst he;exact Nat.lt_succ_self _
theorem OwnS.openM {b:Nat}{al:List (List UInt8×Value)}(ho:OwnS S w0 w L)(i:Nat)(hi:L[i]?=some (.mapB b al)):∃es clock,MapF al es clock∧OwnS S w0 w (L.set i (.obj b (.map es clock))):=by
 obtain⟨es,clock,h1,h2⟩:=(show ∃es clock,w.heap[b]?=some (.map es clock)∧MapF al es clock from ho.at_ i hi);exact⟨es,clock,h2,ho.turn i hi ⟨Grew.refl _ _,h1,fun _ hk=>.inl hk⟩⟩
theorem OwnS.shutM {b:Nat}{al:List (List UInt8×Value)}{es:Array MapEntry}{clock:Nat}(ho:OwnS S w0 w L)(i:Nat)(hi:L[i]?=some (.obj b (.map es clock)))(hf:MapF al es clock):OwnS S w0 w (L.set i (.mapB b al)):=
 ho.turn i hi ⟨Grew.refl _ _,⟨es,clock,ho.at_ i hi,hf⟩,fun _ hk=>.inl hk⟩
theorem o_rangeM (i:Nat){T k e:TypeId}{m clock:Nat}{es:Array MapEntry}(ht:P.underlying T=some (.map k e))(ho:OwnS S w0 w L)(hi:L[i]?=some (.obj m (.map es clock)))
  (kk:∀b w',OwnS S w0 w' (.obj b (.mapIter (some m) clock #[] clock)::L)→K (.pointer (some ⟨b,0,none⟩)) w'):DoX P (mRange T (.map (some m))) w PK K:=by
 have h1:w.heap[m]?=some (.map es clock):=ho.at_ i hi;have hr:=run_range_map (P:=P) w T k e m es clock ht h1;exact do_ok (mv_run hr) (kk _ _ (ho.allocObj _))
theorem seen_nil (es:Array MapEntry):SeenM es #[] []:=⟨[],rfl,(fun e he=>by cases he),List.nodup_nil,rfl⟩
theorem o_nextM (i j:Nat){b m clock:Nat}{es:Array MapEntry}{seen:Array Nat}{al done:List (List UInt8×Value)}{ty:TypeId}(ho:OwnS S w0 w L)(hi:L[i]?=some (.obj b (.mapIter (some m) clock seen clock)))(hj:L[j]?=some (.obj m (.map es clock)))
  (hf:MapF al es clock) (hs:SeenM es seen done) (kend:done.Perm al→K (.tuple #[.bool false]) w)
  (knext:∀(p:List UInt8×Value) (e:MapEntry) (w':World),p∈al→p ∉ done∨True→e∈es.toList→e.key=strK p.1→e.val=p.2→SeenM es (seen.push e.born) (done++[p])→done.length < al.length →
   OwnS S w0 w' (L.set i (.obj b (.mapIter (some m) clock (seen.push e.born) clock)))→K (.tuple #[.bool true,strK p.1,p.2]) w') :
  DoX P (mNext (.pointer (some ⟨b,0,none⟩)) false ty) w PK K:=by
 have h1:w.heap[b]?=some (.mapIter (some m) clock seen clock):=ho.at_ i hi;have h2:w.heap[m]?=some (.map es clock):=ho.at_ j hj;obtain⟨ds,d1,d2,d3,d4⟩:=hs;have hds:ds.length=done.length:=by simpa using congrArg List.length d4
 have hel:es.toList.length=al.length:=by simpa using congrArg List.length hf.al
 rcases Go.run_next_at (P:=P) w ty b m clock clock seen es clock h1 h2 hf.old (Nat.le_refl _) with ⟨hl,hr⟩|⟨e,he,w1,hw1,hr⟩
 ·refine do_ok (mv_run hr) (kend ?_)
  -- all have come
  have hall:∀x∈es.toList,x∈ds:=by
   intro x hx;have hc:seen.contains x.born=true:=by
    cases hcc:seen.contains x.born with
   |true=>rfl
   |false=>
     exfalso;have hm:x∈(leftOf es seen).toList:=by
      unfold leftOf;rw[Array.toList_filter,List.mem_filter];exact⟨hx,by simp only[hcc];rfl⟩
     have:0 < (leftOf es seen).size:=by
      rw[←Array.length_toList];exact List.length_pos_of_mem hm
     omega
   have hm:x.born∈seen.toList:=by simpa using hc
   rw[d1] at hm;obtain⟨y,hy,hyb⟩:=List.mem_map.1 hm;rw[←born_inj hf.nodup (d2 y hy) hx hyb];exact hy
  have hp:ds.Perm es.toList:=(List.perm_ext_iff_of_nodup (nodup_of_born d3) (nodup_of_born hf.nodup)).2 fun x=>⟨d2 x,hall x⟩;have:=hp.map fun e=>(e.key,e.val);rw[d4,hf.al] at this;exact perm_kv this
 ·-- one comes
  have hem:e∈es.toList∧seen.contains e.born=false:=by
   unfold leftOf at he;rw[Array.toList_filter,List.mem_filter] at he;exact⟨he.1,by simpa using he.2⟩
  have hk:(e.key,e.val)∈es.toList.map (fun e=>(e.key,e.val)):=List.mem_map.2 ⟨e,hem.1,rfl⟩;rw[hf.al] at hk;obtain⟨p,hp,hpe⟩:=List.mem_map.1 hk;simp only[Prod.mk.injEq] at hpe;have hnb:e.born ∉ ds.map (·.born):=by
   rw[←d1];intro hm;have:seen.contains e.born=true:=by simpa using hm
   rw[hem.2] at this;cases this
  have hs':SeenM es (seen.push e.born) (done++[p]):=by
   refine⟨ds++[e],by simp[d1],?_,?_,?_⟩
   ·intro x hx;rcases List.mem_append.1 hx with hx|hx
    ·exact d2 x hx
    ·rw[List.mem_singleton] at hx;subst hx;exact hem.1
   ·rw[List.map_append,List.nodup_append];refine⟨d3,by simp,fun a ha c hc=>?_⟩;simp at hc;subst hc;intro e2;exact hnb (by rw[←e2];exact ha)
   ·simp[d4,hpe.1,hpe.2]
  have hlt:done.length < al.length:=by
   rw[←hds,←hel];exact nodup_le (e::ds) es.toList (List.nodup_cons.2 ⟨fun hm=>hnb (List.mem_map.2 ⟨e,hm,rfl⟩),nodup_of_born d3⟩) (fun x hx=>by
    rcases List.mem_cons.1 hx with rfl|hx
    ·exact hem.1
    ·exact d2 x hx)
  have how:OwnS S w0 w1 L:=by
   rcases hw1 with rfl|rfl
   ·exact ho
   ·exact ho.drew
  have hkk:=put_iter (o':=.mapIter (some m) clock (seen.push e.born) clock) how i hi;rw[←hpe.1,←hpe.2] at hr;exact do_ok (mv_run hr) (knext p e _ hp (.inr trivial) hem.1 hpe.1.symm hpe.2.symm hs' hlt hkk)
theorem e_entry (i j:Nat){b m clock:Nat}{es:Array MapEntry}{seen:Array Nat}{e:MapEntry}{al:List (List UInt8×Value)}(ho:OwnS S w0 w L)(hi:L[i]?=some (.obj b (.mapIter (some m) clock (seen.push e.born) clock)))(hj:L[j]?=some (.obj m (.map es clock)))
  (hf:MapF al es clock) (he:e∈es.toList):DoX P (mEntry (.pointer (some ⟨b,0,none⟩))) w PK K=K (.tuple #[e.key,e.val]) w:=
 do_eq (mv_run (run_entry_at (P:=P) w b m clock seen es clock e (ho.at_ i hi) (ho.at_ j hj) he hf.nodup))
end
end Eng
end
section
open Eng Go.RowKit
def KvR (A:Nat→Prop)(w:World):List (List UInt8×Value)→List Ps.Kv→Prop
|[],[]=>True
|p::al,q::l=>p.1=q.1∧OV A w p.2 q.2∧KvR A w al l
|_,_=>False
theorem KvR.le {M N:Mem}(h:M.le N):∀{al:List (List UInt8×Value)} {l:List Ps.Kv},KvR M.A M.w al l→KvR N.A N.w al l
|[],[],_=>trivial
|_::_,_::_,⟨h1,h2,h3⟩=>⟨h1,h2.le h,KvR.le h h3⟩
|[],_::_,h=>h.elim
|_::_,[],h=>h.elim
section
variable {A:Nat→Prop}{w:World}
theorem KvR.fst:∀{al:List (List UInt8×Value)} {l:List Ps.Kv},KvR A w al l→al.map (·.1)=l.map (·.1)
|[],[],_=>rfl
|_::_,_::_,⟨h1,_,h3⟩=>by rw[List.map_cons,List.map_cons,h1,KvR.fst h3]
|[],_::_,h=>h.elim
|_::_,[],h=>h.elim
theorem KvR.snoc {k:List UInt8}{v:Value}{o:Ob}(hv:OV A w v o):∀{al:List (List UInt8×Value)} {l:List Ps.Kv},KvR A w al l→KvR A w (al++[(k,v)]) (l++[(k,o)])
|[],[],_=>⟨rfl,hv,trivial⟩
|_::_,_::_,⟨h1,h2,h3⟩=>⟨h1,h2,KvR.snoc hv h3⟩
|[],_::_,h=>h.elim
|_::_,[],h=>h.elim
theorem KvR.mem:∀{al:List (List UInt8×Value)} {l:List Ps.Kv},KvR A w al l→∀{p:List UInt8×Value},p∈al→∃o,(p.1,o)∈l∧OV A w p.2 o
|[],_,_,p,hp=>by cases hp
|a::_,b::_,⟨h1,h2,h3⟩,p,hp=>by
  rcases List.mem_cons.1 hp with rfl|hp
  ·exact⟨b.2,by rw[h1];exact List.mem_cons_self,h2⟩
  ·obtain⟨o,ho,hv⟩:=KvR.mem h3 hp;exact⟨o,List.mem_cons_of_mem _ ho,hv⟩
|_::_,[],h,_,_=>h.elim
theorem KvR.look {k:List UInt8}{o:Ob}:∀{al:List (List UInt8×Value)} {l:List Ps.Kv},KvR A w al l→(l.map (·.1)).Nodup→(k,o)∈l→∃v,lookA al k=some v∧OV A w v o
|[],[],_,_,hm=>by cases hm
|p::al,q::l,⟨h1,h2,h3⟩,hn,hm=>by
  rw[List.map_cons,List.nodup_cons] at hn;by_cases hk:p.1=k
  ·have hq:(k,o)=q:=by
    rcases List.mem_cons.1 hm with h|h
    ·exact h
    ·exact absurd (List.mem_map.2 ⟨(k,o),h,by rw[←h1,hk]⟩) hn.1
   refine⟨p.2,by unfold lookA;rw[List.find?_cons_of_pos (by simpa using hk)];rfl,?_⟩;rw[←hq] at h2;exact h2
  ·have hm':(k,o)∈l:=by
    rcases List.mem_cons.1 hm with h|h
    ·exact absurd (by rw[h1,←h]) hk
    ·exact h
   obtain⟨v,hv,ho⟩:=KvR.look h3 hn.2 hm';refine⟨v,?_,ho⟩;unfold lookA at hv ⊢;rw[List.find?_cons_of_neg (by simpa using hk)];exact hv
|[],_::_,h,_,_=>h.elim
|_::_,[],h,_,_=>h.elim
def kindV:Value→Int
|.agg cs=>match cs.toList with|.int _ k::_=>k|_=>0
|_=>0
theorem kindV_of {v:Value}{o:Ob}(h:OV A w v o):kindV v=o.k:=by
 obtain⟨vk,vc,cs,rfl,_⟩:=h.open;rfl
def liveV (al:List (List UInt8×Value)):List (List UInt8):=(al.filter fun p=>decide (kindV p.2≠0)).map (·.1)
theorem KvR.live:∀{al:List (List UInt8×Value)} {l:List Ps.Kv},KvR A w al l→liveV al=Ps.live l
|[],[],_=>rfl
|p::al,q::l,⟨h1,h2,h3⟩=>by
  have ih:=KvR.live h3;unfold liveV Ps.live at *;rw[List.filter_cons,List.filter_cons,kindV_of h2];split
  ·rw[List.map_cons,List.map_cons,ih,h1]
  ·exact ih
|[],_::_,h=>h.elim
|_::_,[],h=>h.elim
theorem liveV_snoc (al:List (List UInt8×Value))(p:List UInt8×Value):liveV (al++[p])=liveV al++(if kindV p.2≠0 then [p.1] else []):=by
 unfold liveV;rw[List.filter_append,List.map_append]
 congr 1
 by_cases h:kindV p.2=0<;>simp[h]
theorem liveV_perm {a b:List (List UInt8×Value)}(h:a.Perm b):(liveV a).Perm (liveV b):=(h.filter _).map _
theorem liveV_len (al:List (List UInt8×Value)):(liveV al).length≤al.length:=by
 unfold liveV;rw[List.length_map];exact List.length_filter_le _ _
end
section
variable {w:World}{PK:PKT}{K:VWP}{S:Nat→Prop}{w0:World}{L:List Ent}
theorem zOb:(Tryz.prog.info? 25).bind (·.zero)=some (obV ob0 nilS nilS):=by kernel_rfl
theorem lookT (i:Nat){b:Nat}{al:List (List UInt8×Value)}(ho:OwnS S w0 w L)(hi:L[i]?=some (.mapB b al))(x:List UInt8) :
  DoX prog (mLook 224 (.map (some b)) (.string ⟨x.toArray⟩) true) w PK K=K (.tuple #[(lookA al x).getD (obV ob0 nilS nilS),.bool (lookA al x).isSome]) w:=
 do_eq (run_look (ok:=true) Tryz.underlying224 Tryz.underlying9 zOb (mapB_is (ho.at_ i hi)) x)
theorem lookF (i:Nat){b:Nat}{al:List (List UInt8×Value)}(ho:OwnS S w0 w L)(hi:L[i]?=some (.mapB b al)){x:List UInt8}{v:Value}(hv:lookA al x=some v) :
  DoX prog (mLook 224 (.map (some b)) (.string ⟨x.toArray⟩) false) w PK K=K v w:=by
 have:=do_eq (PK:=PK) (K:=K) (run_look (ok:=false) Tryz.underlying224 Tryz.underlying9 zOb (mapB_is (ho.at_ i hi)) x);rw[hv] at this;exact this
theorem lenM (i:Nat){b:Nat}{al:List (List UInt8×Value)}{cs:Array Bool}(ho:OwnS S w0 w L)(hi:L[i]?=some (.mapB b al)) :
  DoX prog (mB .len #[224] 3 cs #[.map (some b)]) w PK K=K (.int .i64 (al.length:Int)) w:=by
 obtain⟨es,clock,h1,h2⟩:=(show ∃es clock,w.heap[b]?=some (.map es clock)∧MapF al es clock from ho.at_ i hi);have hl:es.size=al.length:=by
  have:=congrArg List.length h2.al;simpa using this
 refine do_eq ?_;simp[mB,builtin,Builtin.len_,run_underlying Tryz.underlying224,getObj,h1,goInt,hl,Sem.run]
end
def itAt (b:Nat)(w:World):Nat:=match w.heap[b]? with|some (.mapIter _ _ seen _)=>seen.size|_=>0
theorem itAt_is {b:Nat}{m clock:Nat}{seen:Array Nat}{w:World}(h:(Ent.obj b (.mapIter (some m) clock seen clock)).is w):itAt b w=seen.size:=by
 unfold itAt;rw[show w.heap[b]?=_ from h]
theorem seen_size {es:Array MapEntry}{seen:Array Nat}{done:List (List UInt8×Value)}(h:SeenM es seen done):seen.size=done.length:=by
 obtain⟨ds,d1,_,_,d4⟩:=h;rw[←Array.length_toList,d1,List.length_map];simpa using congrArg List.length d4
theorem pbuild {S0:Nat→Prop}{w W:World}{b b4 b5 b9:Nat}{s:List UInt8}{a:Int}{N:Mem}{al:List (List UInt8×Value)}{l:List Ps.Kv}{o:Ob}{K:Ending→World→Prop}
  (hkv:KvR N.A N.w al l) (hnd:(l.map (·.1)).Nodup) (hmade:Ps.Made o l) (hlen:l.length≤8191)
  (ho:OwnS S0 w W [obE b9 Ps.dict0 nilS nilS,keyE nilS [],kidE nilS 0 [],obE b4 ob0 nilS nilS,.mapB b5 al,rmE b s a N])
  (kend:∀(W':World) (N2:Mem) (L:List Ent) (v:Value),OwnS S0 w W' (rdE b s a::.mem N2::L)→N.le N2→OV N2.A N2.w v o→K (.returned v) W') :
  DoX prog (mRange 224 (.map (some b5))) W (pk K) fun t49 w=>LoopX [] w (fun vs2 w N2=>∀_:Sg,S_parse_reader_dict_1 (.pointer (some ⟨b4,0,none⟩)) (.map (some b5)) (.pointer (some ⟨b9,0,none⟩)) t49 w N2 K):=by
 have hall:al.length=l.length:=by simpa using congrArg List.length hkv.fst
 obtain⟨es,clock,hf,ho⟩:=ho.openM 4 rfl;refine o_rangeM 4 Tryz.underlying224 ho rfl fun it w1 ho=>?_;refine loop (fun vs w'=>∃(seen:Array Nat) (done:List (List UInt8×Value)) (vk:Value),vs=[]∧SeenM es seen done∧done.length≤al.length∧(∀p∈done,p∈al) ∧
   OwnS S0 w w' [.obj it (.mapIter (some b5) clock seen clock),obE b9 Ps.dict0 vk nilS,keyE vk (liveV done),kidE nilS 0 [],obE b4 ob0 nilS nilS,.obj b5 (.map es clock),rmE b s a N]) (fun _ w=>al.length - itAt it w)
  ⟨#[],[],nilS,rfl,seen_nil es,by simp,by simp,ho⟩ ?_
 clear ho;rintro vs w2 ⟨seen,done,vk,rfl,hs,hdl,hda,ho⟩ _;simp only[S_parse_reader_dict_1];have hit:itAt it w2=seen.size:=itAt_is (ho.at_ 0 rfl);have hss:=seen_size hs;refine o_nextM 0 5 ho rfl rfl hf hs (fun hperm=>?_) fun p e w3 hpa _ he hek hev hs' hlt ho=>?_
 ·-- all have come
  simp only[ex,i_f];have ho:=ho.tail;have ho:OwnS S0 w w2 [obE b9 Ps.dict0 vk nilS,keyE vk (liveV done),kidE nilS 0 [],obE b4 ob0 nilS nilS,.obj b5 (.map es clock),rmE b s a N]:=ho;have ho:=ho.shutM 4 rfl hf;have ho:OwnS S0 w w2 [obE b9 Ps.dict0 vk nilS,keyE vk (liveV done),kidE nilS 0 [],obE b4 ob0 nilS nilS,.mapB b5 al,rmE b s a N]:=ho;rw[fa_o4,ob_keys ho 0 rfl];have hll:=liveV_len done;refine c_ret (ssort_ret vk (liveV done) w2 (ho.at_ 1 rfl) (by omega)) ?_;rintro _ w3 ⟨rfl,ht⟩;have ho:=ho.turn 1 rfl ht;have hsort:sortS (liveV done)=o.keys:=sortS_rise ((liveV_perm hperm).trans (by rw[hkv.live];exact hmade.perm)) hmade.rise;rw[hsort] at ho;have ho:OwnS S0 w w3 [obE b9 Ps.dict0 vk nilS,keyE vk o.keys,kidE nilS 0 [],obE b4 ob0 nilS nilS,.mapB b5 al,rmE b s a N]:=ho;have hkl:o.keys.length≤8191:=by
   have h1:=hmade.perm.length_eq;have h2:=hkv.live (A:=N.A);have h3:=liveV_len al;rw[←h1,←h2];omega
  rw[fa_o4,ob_keys ho 0 rfl,sl_len Tryz.underlying22 (ho.slU 1 rfl)];refine loop (fun vs w'=>∃(i:Nat) (cs:List Value) (vc:Value),vs=[.int .i64 i]∧i≤o.keys.length∧OVs N.A N.w cs (o.kids.take i) ∧
   OwnS S0 w w' [obE b9 Ps.dict0 vk vc,keyE vk o.keys,kidE vc i cs,obE b4 ob0 nilS nilS,.mapB b5 al,rmE b s a N]) (fun vs _=>o.keys.length - n0 vs) ⟨0,[],nilS,rfl,by omega,OVs.nil,ho⟩ ?_
  clear ho;rintro vs w4 ⟨i,cs,vc,rfl,hi,hov,ho⟩ _;simp only[S_parse_reader_dict_2,gd,rs];by_cases hlt:(i:Int) < (o.keys.length:Int)
  ·have hi':i < o.keys.length:=by omega
   simp only[decide_eq_true hlt,i_t];obtain⟨g,cap,_,ia,ld⟩:=key_row 1 ho rfl hi';refine do_eq (ia w4) |>.mpr (do_eq (ld w4 (ho.at_ 1 rfl)) |>.mpr ?_);rw[fa_o5,ob_kids ho 0 rfl];obtain⟨v,hv,hvo⟩:=hkv.look hnd (Ps.made_at hmade hi');rw[lookF 4 ho rfl hv];obtain⟨xk,xc,xcs,rfl,hx⟩:=hvo.open;refine o_obs1 _ hx.keys.one hx.kids.one ho fun nb w5 ho=>?_;refine o_apO 3 ho rfl (ho.sl 0 rfl 6 1 1 rfl) (obC_one _ hx.keys.one hx.kids.one) (by omega) fun vc' w6 ho=>?_;have ho:=ho.tail;have hvc':=urow_one (ho.at_ 2 rfl);rw[fa_o5];refine o_store 0 ho rfl (by kernel_rfl) hvc' (show 0+5 < 6 by omega) fun w7 ho=>?_;rw[wrap64_id (by omega) (by omega)];refine nextX ⟨i+1,_,vc',rfl,by omega,?_,ho⟩ (by show o.keys.length - Int.toNat ((i:Int)+1) < o.keys.length - Int.toNat (i:Int);omega);have hkl2:i < o.kids.length:=by have:=hmade.len;omega
   rw[List.take_succ_eq_append_getElem hkl2];exact ovs_app hov (ovs_1 hx.ov)
  ·have hi':i=o.keys.length:=by omega
   simp only[decide_eq_false hlt,i_f];subst hi';rw[hmade.len,List.take_length] at hov;have hvk:=urow_one (ho.at_ 1 rfl);have hvc:=urow_one (ho.at_ 2 rfl);rw[ob_v ho 0 rfl];refine ob_put (o':=Ps.dict0) 3 hvk hvc ho rfl fun w5 ho=>?_;refine ret_v1 (rv_cell (ho.agg 3 rfl aggOb)) ?_;have ho:OwnS S0 w w5 ([obE b9 Ps.dict0 vk vc,keyE vk o.keys,kidE vc o.keys.length cs,obE b4 Ps.dict0 vk vc,.mapB b5 al]++([rmE b s a N]++[])):=ho;have ho:=ho.front.split;have ho:OwnS S0 w w5 ([rdE b s a,.mem N,obE b9 Ps.dict0 vk vc]++([keyE vk o.keys,kidE vc o.keys.length cs]++[obE b4 Ps.dict0 vk vc,.mapB b5 al])):=ho;have ho:=ho.front;obtain⟨N2,hle2,hrow2,ho⟩:=OwnS.freezeU (L:=[kidE vc o.keys.length cs,rdE b s a,.mem N,obE b9 Ps.dict0 vk vc,obE b4 Ps.dict0 vk vc,.mapB b5 al]) ho 2 rfl;obtain⟨N3,hle3,hrow3,ho⟩:=OwnS.freezeU (L:=[rdE b s a,.mem N2,obE b9 Ps.dict0 vk vc,obE b4 Ps.dict0 vk vc,.mapB b5 al]) ho 1 rfl;have hval:obV Ps.dict0 vk vc=obV o vk vc:=by
    unfold obV obC;rw[hmade.k,hmade.n,hmade.g,hmade.s];rfl
   refine kend w5 N3 _ _ ho (hle2.trans hle3) ?_;show OV N3.A N3.w (obV Ps.dict0 vk vc) o;rw[hval];rw[hmade.len] at hrow3;exact ObAt.ov ⟨hrow2.le hle3,hrow3,(hov.le hle2).le hle3⟩
 ·simp only[ex,i_t];have ho:OwnS S0 w w3 [.obj it (.mapIter (some b5) clock (seen.push e.born) clock),obE b9 Ps.dict0 vk nilS,keyE vk (liveV done),kidE nilS 0 [],obE b4 ob0 nilS nilS,.obj b5 (.map es clock),rmE b s a N]:=ho;rw[e_entry 0 5 ho rfl rfl hf he,hek,hev];simp only[ex];obtain⟨x,hxl,hxo⟩:=hkv.mem hpa;have hkind:=kindV_of hxo;obtain⟨xk,xc,xcs,hpe,hx⟩:=hxo.open;obtain⟨pk1,pv⟩:=p;simp only at hpe hkind;subst hpe;refine o_oba ho fun b11 w4 ho=>?_;refine ob_put (o':=x) 0 hx.keys.one hx.kids.one ho rfl fun w5 ho=>?_;have ho:OwnS S0 w w5 [obE b11 x xk xc,.obj it (.mapIter (some b5) clock (seen.push e.born) clock),obE b9 Ps.dict0 vk nilS,keyE vk (liveV done),kidE nilS 0 [],obE b4 ob0 nilS nilS,.obj b5 (.map es clock),rmE b s a N]:=ho;rw[fa_o0,ob_k ho 0 rfl];simp only[rs];have hsn:=liveV_snoc done (pk1,obV x xk xc);have mea:∀{W:World} {L:List Ent},OwnS S0 w W L→L[0]?=some (.obj it (.mapIter (some b5) clock (seen.push e.born) clock))→al.length - itAt it W < al.length - itAt it w2:=by
   intro W L ho hi;rw[hit,itAt_is (ho.at_ 0 hi),Array.size_push];omega
  have hda':∀q∈done++[(pk1,obV x xk xc)],q∈al:=by
   intro q hq;rcases List.mem_append.1 hq with hq|hq
   ·exact hda q hq
   ·rw[List.mem_singleton] at hq;subst hq;exact hpa
  by_cases hk:x.k=0
  ·simp only[hk,ne_eq,not_true,decide_false,i_f];rw[if_neg (by rw[hkind,hk];simp),List.append_nil] at hsn;refine nextX ⟨_,done++[(pk1,obV x xk xc)],vk,rfl,hs',by simp;omega,hda',?_⟩ (mea ho.tail rfl);rw[hsn];exact ho.tail
  ·simp only[hk,ne_eq,not_false_eq_true,decide_true,i_t];rw[if_pos (by rw[hkind];exact hk)] at hsn;rw[fa_o4,ob_keys ho 2 rfl];have hll:=liveV_len done;show DoX prog (mBuildS 22 1 #[(0,.string ⟨pk1.toArray⟩)]) w5 _ _;refine o_strb1 pk1 ho fun nb w6 ho=>?_;refine o_apS 4 ho rfl (ho.sl 0 rfl 1 1 1 rfl) (by simp[Value.oneCell']) (by omega) fun vk' w7 ho=>?_;have ho:=ho.tail.tail;have ho:OwnS S0 w w7 [.obj it (.mapIter (some b5) clock (seen.push e.born) clock),obE b9 Ps.dict0 vk nilS,keyE vk' (liveV done++[pk1]),kidE nilS 0 [],obE b4 ob0 nilS nilS,.obj b5 (.map es clock),rmE b s a N]:=by
    have e:strsV (liveV done++[pk1])=strsV (liveV done)++[.string ⟨pk1.toArray⟩]:=by rw[strsV_app];rfl
    rw[keyE,List.length_append,List.length_singleton,e];exact ho
   have hvk':=urow_one (ho.at_ 2 rfl);rw[fa_o4];refine o_store 1 ho rfl (by kernel_rfl) hvk' (show 0+4 < 6 by omega) fun w8 ho=>?_;refine nextX ⟨_,done++[(pk1,obV x xk xc)],vk',rfl,hs',by simp;omega,hda',?_⟩ (mea ho rfl);rw[hsn];exact ho
end
section
open Eng Go.RowKit
theorem dict_lacks {s:List UInt8}{sub:Int→Ps.R}{m:Nat}{a:Int}{o:Ob}{met:List (List UInt8)}(h:¬Has s a):Ps.dict s sub (m+1) a o met=Ps.bad (lacks s a):=by
 rw[Ps.dict];unfold Has at h;unfold lacks;by_cases e1:(Lx.next s a).2=0
 ·have e2:(Lx.next s a).1.k=0:=Classical.not_not.1 fun h2=>h ⟨e1,h2⟩;rw[if_neg (by rw[e1];simp),if_neg (fun h3=>by rw[e2] at h3;exact absurd h3.1 (by decide)),if_pos e2,if_neg (by rw[e1];simp)]
 ·rw[if_pos e1,if_pos e1]
theorem pdict_ret (s:List UInt8)(hs:s.length≤1000000000)(n:Nat)(hn:n≤23)(hsub:PObj s n):PDict s n:=by
 intro b a M w h0 h1 hr;generalize hR:Ps.dict s (Ps.obj s n) (s.length+1) a Ps.dict0 []=R;refine lent_of (fun K ho hret hpan=>S_parse_reader_dict_ok ?_) hr;unfold S_parse_reader_dict;have ho:=ho.pair;refine o_oba ho fun b4 w1 ho=>?_;refine o_mapNewB ho fun b5 w2 ho=>?_;generalize hS0:(rmE b s a M).blk=S0 at *;have ho:OwnS S0 w w2 [.mapB b5 [],obE b4 ob0 nilS nilS,rmE b s a M]:=ho;have fall:∀{W:World} {L:List Ent} {e2:Ent} {N:Mem} (e:Int),OwnS S0 w W (L++([.two e2 (.mem N)]++[]))→M.le N→R=Ps.bad e→e≠0→pk K [wrongE e] W:=by
  intro W L e2 N e ho hle he h0;subst he;exact hpan h0 e2 N W _ (ho.front).split hle
 refine loop (fun vs w'=>∃(a':Int) (m:Nat) (o:Ob) (l:List Ps.Kv) (al:List (List UInt8×Value)) (N:Mem),vs=[]∧0≤a'∧a'≤s.length∧(l.length:Int)≤a'∧l.length≤8191∧l.length+m=s.length+1 ∧
   Ps.dict s (Ps.obj s n) m a' o (l.map (·.1))=R∧M.le N∧KvR N.A N.w al l∧(l.map (·.1)).Nodup∧Ps.Made o l ∧
   OwnS S0 w w' [.mapB b5 al,obE b4 ob0 nilS nilS,rmE b s a' N]) (fun _ w=>s.length - rdAt b w)
  ⟨a,s.length+1,Ps.dict0,[],[],M,rfl,h0,h1,by simpa using h0,by simp,by simp,hR,M.le_refl,trivial,List.nodup_nil,Ps.made0,ho⟩ ?_
 clear ho hR;rintro vs w4 ⟨a',m,o,l,al,N,rfl,ha0,ha1,hla,hmx,hml,hdict,hle,hkv,hnd,hmade,ho⟩ _;simp only[S_parse_reader_dict_0];obtain⟨m,rfl⟩:∃k,m=k+1:=⟨m - 1,by omega⟩;have hall:al.length=l.length:=by simpa using congrArg List.length hkv.fst
 have hat:rdAt b w4=a'.toNat:=rdAt_is (ho.at_ 2 rfl).1;refine c_rm ho 2 rfl (pnext_ret b s a' N w4 (by omega) (ho.at_ 2 rfl)) ?_ fun e2 w5 hn ho=>?_
 rotate_left
 ·rw[dict_lacks hn] at hdict;exact fall (L:=[_,_]) _ ho hle hdict.symm lacks_pos
 rintro _ N1 w5 hhas hle1 rfl ho;have hbd:=@Lx.next_bd s a' hhas.1 hhas.2;have hge:=Lx.skip_ge s a'.toNat;obtain⟨e1,e2⟩:=hhas;rw[Ps.dict] at hdict;generalize Lx.next s a'=x at *
 rw[if_neg (by rw[e1];simp)] at hdict;refine o_tok ho fun b6 w6 ho=>?_;refine tk_put 0 ho rfl fun w7 ho=>?_;have ho:OwnS S0 w w7 [tokE b6 x.1,.mapB b5 al,obE b4 ob0 nilS nilS,rmE b s x.1.t N1]:=ho;rw[tk_v ho 0 rfl];refine c_below ho (R:=fun v=>v=.bool (decide (x.1.k=6)&&decide (x.1.s=[62,62]))) (pword_ret x.1 6 [62,62] w7) ?_;rintro _ w8 rfl ho;cases e3:(decide (x.1.k=6)&&decide (x.1.s=[62,62])) with
|true=>
  simp only[Bool.and_eq_true,decide_eq_true_eq] at e3;rw[if_pos ⟨e3.1,e3.2⟩] at hdict;simp only[i_t];have hb7:∀{PK:PKT} {K:VWP},DoX prog (mBuild 25 #[(0,(.int .i64 7))]) w8 PK K=K (obV Ps.dict0 nilS nilS) w8:=do_eq (by kernel_rfl);rw[hb7];have ho:=(ho.nilU 25 6).nilU 9 1;refine o_oba ho fun b9 w9 ho=>?_;refine ob_put (o':=Ps.dict0) (vk':=nilS) (vc':=nilS) 0 rfl rfl ho rfl fun w10 ho=>?_;have ho:OwnS S0 w w10 ([obE b9 Ps.dict0 nilS nilS,keyE nilS [],kidE nilS 0 []]++([tokE b6 x.1]++[.mapB b5 al,obE b4 ob0 nilS nilS,rmE b s x.1.t N1])):=ho;have ho:=ho.front.tail;have ho:OwnS S0 w w10 ([obE b9 Ps.dict0 nilS nilS,keyE nilS [],kidE nilS 0 []]++([.mapB b5 al]++([obE b4 ob0 nilS nilS]++[rmE b s x.1.t N1]))):=ho;have ho:OwnS S0 w w10 [obE b9 Ps.dict0 nilS nilS,keyE nilS [],kidE nilS 0 [],obE b4 ob0 nilS nilS,.mapB b5 al,rmE b s x.1.t N1]:=
   ho.perm (List.Perm.append_left [obE b9 Ps.dict0 nilS nilS,keyE nilS [],kidE nilS 0 []] (List.Perm.swap _ _ _))
  refine pbuild (hkv.le hle1) hnd hmade hmx ho fun W N2 L v ho hle2 hv=>?_;subst hdict;exact hret rfl v N2 W L ho ((hle.trans hle1).trans hle2) hv
|false=>
 have e3':¬(x.1.k=6∧x.1.s=[62,62]):=fun h=>by
  rw[decide_eq_true h.1,decide_eq_true h.2] at e3;exact absurd e3 (by decide)
 rw[if_neg e3',if_neg e2] at hdict;simp only[i_f,fa_t4',tk_s ho 0 rfl];rw[lookT 1 ho rfl];simp only[ex];have hlook:∃o' vk vc,(lookA al x.1.s).getD (obV ob0 nilS nilS)=obV o' vk vc∧vk.oneCell'=true∧vc.oneCell'=true:=by
  cases hl:lookA al x.1.s with
 |none=>exact⟨ob0,nilS,nilS,rfl,rfl,rfl⟩
 |some v=>
   have hm:(x.1.s,v)∈al:=by
    unfold lookA at hl;obtain⟨p,hp,hpv⟩:=Option.map_eq_some_iff.1 hl;have h1:=List.find?_some hp;have h2:=List.mem_of_find?_eq_some hp;simp only[decide_eq_true_eq] at h1;rw[←h1,←hpv];exact h2
   obtain⟨q,_,hq⟩:=hkv.mem hm;obtain⟨vk,vc,cs,he,ha⟩:=hq.open;exact⟨q,vk,vc,he,ha.keys.one,ha.kids.one⟩
 obtain⟨o',vk7,vc7,hlv,ok7,oc7⟩:=hlook;rw[hlv];refine o_oba ho fun b7 w9 ho=>?_;refine ob_put (o':=o') 0 ok7 oc7 ho rfl fun w10 ho=>?_;have ho:=ho.tail;have ho:OwnS S0 w w10 [tokE b6 x.1,.mapB b5 al,obE b4 ob0 nilS nilS,rmE b s x.1.t N1]:=ho;have hmet:(lookA al x.1.s).isSome=decide (x.1.s∈l.map (·.1)):=by
  rw[←hkv.fst];cases hl:lookA al x.1.s with
 |none=>rw[decide_eq_false (lookA_none.1 hl)];rfl
 |some v=>
   have:¬x.1.s ∉ al.map (·.1):=fun h=>by rw[lookA_none.2 h] at hl;cases hl
   rw[decide_eq_true (Classical.not_not.1 this)];rfl
 refine join fun J hJ=>?_;rw[fa_t0,tk_k ho 0 rfl];simp only[rs];by_cases e4:x.1.k=4
 case neg=>
  rw[if_pos e4] at hdict;simp only[e4,ne_eq,not_false_eq_true,decide_true,i_t];exact throw (fall (L:=[_,_,_]) 3 ho (hle.trans hle1) hdict.symm (by decide))
 rw[if_neg (by rw[e4];simp)] at hdict;simp only[e4,ne_eq,not_true,decide_false,i_f,hmet];by_cases e5:x.1.s∈l.map (·.1)
 ·rw[if_pos e5] at hdict;simp only[decide_eq_true e5,i_t];exact throw (fall (L:=[_,_,_]) 9 ho (hle.trans hle1) hdict.symm (by decide))
 rw[if_neg e5] at hdict;simp only[decide_eq_false e5,i_f];rw[lenM 1 ho rfl,List.length_map] at *;simp only[rs];by_cases e6:l.length=8191
 ·rw[if_pos e6] at hdict;simp only[show (8191:Int)≤(al.length:Int) by omega,decide_true,i_t];exact throw (fall (L:=[_,_,_]) 6 ho (hle.trans hle1) hdict.symm (by decide))
 rw[if_neg e6] at hdict;simp only[decide_eq_false (show ¬(8191:Int)≤(al.length:Int) by omega),i_f];refine hJ _ _ fun _=>?_;unfold S_parse_reader_dict_3;have ho:=ho.drew;refine⟨fun W=>(tokE b6 x.1).is W,ho.at_ 0 rfl,?_⟩;refine hd_pure _ (fun _=>run_fa ft4) ?_;refine hd_do (.string ⟨x.1.s.toArray⟩) (fun W h=>run_load_cell nStr (cells_cell (T:=58) (cs:=tokC x.1) (i:=4) h rfl)) ?_;refine c_rm ho 3 rfl (pnext_ret b s x.1.t N1 _ (by omega) (ho.at_ 3 rfl)) ?_ fun e2 w11 hn ho=>?_
 rotate_left
 ·rw[obj_lacks hn,if_pos (show (Ps.bad (lacks s x.1.t)).2.2≠0 from lacks_pos)] at hdict;exact fun _ _ _ _ _ _=>fall (L:=[_,_,_]) _ ho (hle.trans hle1) hdict.symm lacks_pos
 rintro _ N2 w11 hhas2 hle2 rfl ho;refine⟨ho.at_ 0 rfl,?_⟩;have hbd2:=@Ps.obj_bd s n x.1.t;have hob:=hsub b x.1.t N2 w11 hhas2 (ho.at_ 3 rfl);generalize Ps.obj s n x.1.t=e at *;refine c_rm ho 3 rfl hob ?_ fun e2 w12 hz ho=>?_
 rotate_left
 ·rw[if_pos hz] at hdict;exact fun _ _ _ _ _ _=>fall (L:=[_,_,_]) _ ho ((hle.trans hle1).trans hle2) hdict.symm hz
 rintro u N3 w12 hz hle3 hu ho;have ho:OwnS S0 w w12 [tokE b6 x.1,.mapB b5 al,obE b4 ob0 nilS nilS,rmE b s e.2.1 N3]:=ho;refine⟨ho.at_ 0 rfl,?_⟩;have hln:lookA al x.1.s=none:=lookA_none.2 (by rw[hkv.fst];exact e5);refine o_mapAddB 1 Tryz.underlying224 Tryz.underlying9 ho rfl x.1.s u hln fun w13 ho=>⟨ho.at_ 0 rfl,?_⟩;rw[if_neg (by rw[hz];simp)] at hdict;have hbd3:=hbd2 hz;have hm2:=Ps.made_join (v:=e.1) hmade e5;have hnd2:((l++[(x.1.s,e.1)]).map (·.1)).Nodup:=by
  rw[List.map_append,List.nodup_append];refine⟨hnd,by simp,fun p hp q hq=>?_⟩;simp at hq;subst hq;exact fun h=>e5 (h▸hp)
 have h5:a' < e.2.1:=by
  have:=hbd3.1;omega
 refine nextX ⟨e.2.1,m,Ps.join o x.1.s e.1,l++[(x.1.s,e.1)],al++[(x.1.s,u)],N3,rfl,by omega,hbd3.2,by simp;omega,by simp;omega,by simp;omega,?_,((hle.trans hle1).trans hle2).trans hle3,(((hkv.le hle1).le hle2).le hle3).snoc hu,hnd2,hm2,ho.tail⟩ ?_
 ·rw[List.map_append];exact hdict
 ·have hat2:rdAt b w13=e.2.1.toNat:=rdAt_is (ho.at_ 3 rfl).1;show s.length - rdAt b w13 < s.length - rdAt b w4;rw[hat,hat2];exact meas ha0 h5 hbd3.2
theorem pobject_ret (s:List UInt8)(hs:s.length≤1000000000)(n:Nat)(hn:n≤24):PObj s n:=
 pobj_ret s hs (fun n hn h=>parr_ret s hs n hn h) (fun n hn h=>pdict_ret s hs n hn h) n hn
end
section
open Eng Go.RowKit
namespace Ps
theorem arr_err {s:List UInt8}{ok:Bool}{sub:Int→R}:∀(m:Nat) (a:Int) (acc:List Ob),(arr s ok sub m a acc).2.2≠0→arr s ok sub m a acc=bad (arr s ok sub m a acc).2.2
|0,_,_,_=>rfl
|m+1,a,acc,h=>by
  rw[arr] at h ⊢;split
  ·rename_i h1;rw[if_pos h1] at h;exact absurd rfl h
  rename_i h1
  rw[if_neg h1] at h;split
  ·rfl
  rename_i h2
  rw[if_neg h2] at h;split
  ·rfl
  rename_i h3
  rw[if_neg h3] at h;split
  ·rfl
  rename_i h4
  rw[if_neg h4] at h;exact arr_err m _ _ h
theorem dict_err {s:List UInt8}{sub:Int→R}:∀(m:Nat) (a:Int) (o:Ob) (met:List (List UInt8)),(dict s sub m a o met).2.2≠0→dict s sub m a o met=bad (dict s sub m a o met).2.2
|0,_,_,_,_=>rfl
|m+1,a,o,met,h=>by
  rw[dict] at h ⊢;split
  ·rfl
  rename_i h1
  rw[if_neg h1] at h;split
  ·rename_i h2;rw[if_pos h2] at h;exact absurd rfl h
  rename_i h2
  rw[if_neg h2] at h;split
  ·rfl
  rename_i h3
  rw[if_neg h3] at h;split
  ·rfl
  rename_i h4
  rw[if_neg h4] at h;split
  ·rfl
  rename_i h5
  rw[if_neg h5] at h;split
  ·rfl
  rename_i h6
  rw[if_neg h6] at h;split
  ·rfl
  rename_i h7
  rw[if_neg h7] at h;exact dict_err m _ _ _ h
theorem leaf_ok {s:List UInt8}{t:Lx.Tok}:(leaf s t).2.2=0:=by
 unfold leaf;split
 ·cases ref s t<;>rfl
 all_goals (repeat' split)<;>rfl
theorem obj_err {s:List UInt8}{n:Nat}{a:Int}(h:(obj s n a).2.2≠0):obj s n a=bad (obj s n a).2.2:=by
 have hob:obj s n a=_:=obj.eq_def s n a;simp only at hob
 revert h
 rw[hob];intro h;split
 ·rfl
 rename_i h1
 rw[if_neg h1] at h;split
 ·rfl
 rename_i h2
 rw[if_neg h2] at h;split
 ·rfl
 rename_i h3
 rw[if_neg h3] at h;cases n with
|zero=>rfl
|succ n=>
  simp only at h ⊢;split
  ·rename_i h4;rw[if_pos h4] at h;exact absurd leaf_ok h
  rename_i h4
  rw[if_neg h4] at h;split
  ·rename_i h5;rw[if_pos h5] at h;exact arr_err _ _ _ h
  ·rename_i h5;rw[if_neg h5] at h;exact dict_err _ _ _ _ h
end Ps
theorem psface_plain:plainB prog 157=true:=by kernel_rfl
theorem psread_ret (b:Nat)(s:List UInt8)(a:Int)(M:Mem)(w:World)(hs:s.length≤1000000000)(hr:(rmE b s a M).is w) :
  Ret prog 100 #[rdP b] w (fun v w'=>∃N u e2,M.le N∧v=.tuple #[u,.int .i64 (Ps.obj s 24 a).2.2]∧OV N.A N.w u (Ps.obj s 24 a).1∧((Ps.obj s 24 a).2.2=0→e2=rdE b s (Ps.obj s 24 a).2.1)∧Turn (rmE b s a M) (.two e2 (.mem N)) w w'):=by
 refine ret_of fun K hK=>S_parse_reader_read_ok ?_;unfold S_parse_reader_read;have ho:OwnS (rmE b s a M).blk w w [rmE b s a M]:=OwnS.lend hr;generalize hS0:(rmE b s a M).blk=S0 at ho;refine o_oba ho fun b2 w1 ho=>?_;refine o_new (fun b=>.pointer (some ⟨b,0,none⟩)) [.int .i64 0] 30 (fun _=>by kernel_rfl) ho fun b3 w2 ho=>?_;have ho:OwnS S0 w w2 [.cells b3 [.int .i64 0] 30,obE b2 ob0 nilS nilS,rmE b s a M]:=ho
 -- a syntax error
 have fail2:∀{W:World} {e2:Ent} {e:Int} {N:Mem},OwnS S0 w W [.cells b3 [.int .i64 0] 30,obE b2 ob0 nilS nilS,.two e2 (.mem N)]→M.le N→Ps.obj s 24 a=Ps.bad e→e≠0→S_parse_reader_read_p0 (.pointer (some ⟨b2,0,none⟩)) (.pointer (some ⟨b3,0,none⟩)) K [wrongE e] W:=by
  intro W e2 e N ho hle he h0;show pd prog _ K _ [wrongE e] W;unfold pd;refine leave_fn (by simp) psface_plain (S_parse_face_dok ?_);simp only[S_parse_face,recV,recM,wrongE,Eng.e_some Tryz.underlying20,rs,t_hit nfW,ex,i_t,i_f];refine o_store 0 ho rfl (by kernel_rfl) rfl (by simp) fun w7 ho=>?_;refine ret_v2 (rv_cell (ho.agg 1 rfl aggOb)) (rv_cell (AtV.cell nErr5 (ho.cell 0 rfl 0 rfl))) (hK _ _ ⟨N,obV ob0 nilS nilS,e2,hle,?_,?_,?_,?_⟩)
  ·rw[he];rfl
  ·rw[he];exact ob0_ov2
  ·rw[he];exact fun h=>absurd h h0
  ·have ho:OwnS S0 w w7 ([.cells b3 [.int .i64 e] 30,obE b2 ob0 nilS nilS]++([.two e2 (.mem N)]++[])):=ho;have ho:=ho.front;subst hS0;exact OwnS.back ho
 refine c_rm ho 2 rfl (pnext_ret b s a M w2 (by omega) (ho.at_ 2 rfl)) ?_ fun e2 w3 hn ho=>fail2 ho M.le_refl (obj_lacks hn) lacks_pos;rintro _ N w3 hh hle rfl ho;have hob:=pobject_ret s hs 24 (by omega) b a N w3 hh (ho.at_ 2 rfl);rw[show (24:Int) - ((24:Nat):Int)=0 by decide] at hob;refine c_rm ho 2 rfl hob ?_ fun e2 w4 hz ho=>fail2 ho hle (Ps.obj_err hz) hz;rintro u N2 w4 hz hle2 hu ho;obtain⟨xk,xc,xcs,rfl,hx⟩:=hu.open;refine ob_put 1 hx.keys.one hx.kids.one ho rfl fun w5 ho=>?_;refine o_store 0 ho rfl (by kernel_rfl) rfl (by simp) fun w6 ho=>?_;refine leave_fn (by simp) psface_plain (S_parse_face_dok ?_);simp only[S_parse_face,recV,recM,Eng.e_nil Tryz.underlying20,rs];have ho:OwnS S0 w w6 ([.cells b3 [.int .i64 0] 30,obE b2 (Ps.obj s 24 a).1 xk xc]++([.two (rdE b s (Ps.obj s 24 a).2.1) (.mem N2)]++[])):=ho;refine ret_v2 (rv_cell (ho.agg 1 rfl aggOb)) (rv_cell (AtV.cell nErr5 (ho.cell 0 rfl 0 rfl))) (hK _ _ ⟨N2,obV (Ps.obj s 24 a).1 xk xc,_,hle.trans hle2,?_,hx.ov,fun _=>rfl,?_⟩)
 ·rw[hz];rfl
 ·have ho:=ho.front;subst hS0;exact OwnS.back ho
theorem psobject_ret (s:List UInt8)(a:Int)(hs:s.length≤1000000000)(M:Mem)(w:World)(hM:M.has w):RetM prog 61 #[.string ⟨s.toArray⟩,.int .i64 a] M w (objR (Ps.object s a)):=by
 refine retM_of hM fun K hK=>S_parse_Object_ok ?_;unfold S_parse_Object;refine o_oba (OwnS.memS hM) fun b4 w1 ho=>?_;have fail:a < 0∨(s.length:Int) < a→DoX prog (mBuild 25 #[]) w1 (pk K) (fun t W=>DoX prog (mStore 25 (.pointer (some ⟨b4,0,none⟩)) t) W (pk K) fun _ W=>RetX prog [.cell (.pointer (some ⟨b4,0,none⟩)) 25,.val (.int .i64 0),.val (.int .i64 1)] W K):=by
  intro h;refine ret_bad 0 ho rfl fun w' ho=>?_;refine hK _ _ M _ 1 ho rfl M.le_refl ?_;rw[Ps.object,if_pos h];exact⟨_,rfl,ob0_ov2⟩
 by_cases h1:a < 0
 ·simp only[rs,decide_eq_true h1,g_un];exact fail (.inl h1)
 by_cases h2:(s.length:Int) < a
 ·simp only[rs,decide_eq_false h1,s_len Tryz.underlying9,decide_eq_true h2,g_un];exact fail (.inr h2)
 simp only[rs,decide_eq_false h1,s_len Tryz.underlying9,decide_eq_false h2,g_un];clear fail;have hPs:Ps.object s a=Ps.obj s 24 a:=by rw[Ps.object,if_neg (by omega)]
 rw[hPs] at hK;have hb1:∀{PK:PKT} {K:VWP},DoX prog (mBuild 130 #[(0,.string ⟨s.toArray⟩),(1,.int .i64 a)]) w1 PK K=K (.agg (rdC s a).toArray) w1:=do_eq (by kernel_rfl);rw[hb1];refine o_new (fun b=>.pointer (some ⟨b,0,none⟩)) (rdC s a) 130 (fun _=>by kernel_rfl) ho fun b22 w2 ho=>?_;have ho:OwnS M.A w w2 ([rdE b22 s a]++([obE b4 ob0 nilS nilS]++([.mem M]++[]))):=ho;have ho:OwnS M.A w w2 ([rdE b22 s a]++([.mem M]++([obE b4 ob0 nilS nilS]))):=ho.perm (List.Perm.append_left _ (List.Perm.swap _ _ _));have ho:=ho.pair;refine c_ret (psread_ret b22 s a M w2 hs (ho.at_ 0 rfl)) ?_;rintro _ w3 ⟨N,u,e2,hle,rfl,hu,he2,ht⟩;have ho:=(ho.turn 0 rfl ht).split;have ho:OwnS M.A w w3 [e2,.mem N,obE b4 ob0 nilS nilS]:=ho;simp only[ex];obtain⟨xk,xc,xcs,rfl,hx⟩:=hu.open;refine o_oba ho fun b8 w4 ho=>?_;refine ob_put 0 hx.keys.one hx.kids.one ho rfl fun w5 ho=>?_;have ho:OwnS M.A w w5 [obE b8 (Ps.obj s 24 a).1 xk xc,e2,.mem N,obE b4 ob0 nilS nilS]:=ho;simp only[rs];by_cases hz:(Ps.obj s 24 a).2.2=0
 case neg=>
  simp only[hz,ne_eq,not_false_eq_true,decide_true,i_t];refine ret_bad 3 ho rfl fun w' ho=>?_;refine hK _ _ N _ 2 ho rfl hle ?_;rw[Ps.obj_err hz];exact⟨_,rfl,ob0_ov2⟩
 simp only[hz,ne_eq,not_true,decide_false,i_f];rw[he2 hz] at ho;have ho:=ho.drew;refine⟨fun W=>(obE b8 (Ps.obj s 24 a).1 xk xc).is W∧(rdE b22 s (Ps.obj s 24 a).2.1).is W,⟨ho.at_ 0 rfl,ho.at_ 1 rfl⟩,?_⟩;refine hd_do (obV (Ps.obj s 24 a).1 xk xc) (fun W h=>run_load_at (AtV.agg aggOb (cs:=obC (Ps.obj s 24 a).1 xk xc) rfl fun j u hj=>by rw[Nat.zero_add];exact cells_cell (T:=25) h.1 hj)) ?_;refine hd_pure _ (fun _=>run_nil) (hd_pure _ (fun _=>run_fa fr1) (hd_do _ (fun W h=>rdr_a h.2) ?_));refine ob_put 3 hx.keys.one hx.kids.one ho rfl fun w6 ho=>⟨⟨ho.at_ 0 rfl,ho.at_ 1 rfl⟩,?_⟩;refine ret_v3 (rv_cell (ho.agg 3 rfl aggOb)) rv_val rv_val (hK _ _ N _ 2 ho rfl hle ?_);exact⟨_,by rw[hz];rfl,hx.ov⟩
end
end Go.Proofs.YtkejpieaafeblaaGreatDoor


namespace Go.Proofs.YtkejpieaafeblaaGreatDoor
section
open Eng Go.RowKit
namespace Eng
structure Lend (P:Program) (f:Nat) (args:Array Value) (e:Ent) (w:World) (ok:Prop) (Q:Value→Ent→Prop) (c:List PanicEntry):Prop where
 ret:ok→Ret P f args w (fun v w'=>∃e',Q v e'∧Turn e e' w w')
 pan:¬ok→Pan P f args w (fun c' w'=>c'=c∧∃e2,Turn e e2 w w')
section
variable {S:Nat→Prop}{P:Program}{w w0:World}{L:List Ent}{PK:PKT}{K:VWP}
theorem c_lend {f:Nat}{args:Array Value}{e:Ent}{ok:Prop}{Q:Value→Ent→Prop}{c:List PanicEntry}(ho:OwnS S w0 w L)(i:Nat)(hi:L[i]?=some e)(h:Lend P f args e w ok Q c)
  (kr:∀v e' w',ok→Q v e'→OwnS S w0 w' (L.set i e')→K v w') (kp:∀e2 w',¬ok→OwnS S w0 w' (L.set i e2)→PK c w'):CallX P f args w PK K:=by
 by_cases hk:ok
 ·exact c_ret (h.ret hk) fun v w' ⟨e',hq,ht⟩=>kr v e' w' hk hq (ho.turn i hi ht)
 ·exact c_pan (h.pan hk) fun c' w' ⟨hc,e2,ht⟩=>by subst hc;exact kp e2 w' hk (ho.turn i hi ht)
theorem lend_of {f:Nat}{args:Array Value}{e:Ent}{ok:Prop}{Q:Value→Ent→Prop}{c:List PanicEntry}(h0:e.is w)
  (h:∀K:Ending→World→Prop,OwnS e.blk w w [e]→(ok→∀(v:Value) (e':Ent) (w':World) (L:List Ent),OwnS e.blk w w' (e'::L)→Q v e'→K (.returned v) w') →
   (¬ok→∀(e2:Ent) (w':World) (L:List Ent),OwnS e.blk w w' (e2::L)→K (.panicked c) w')→Calls P f args w K):Lend P f args e w ok Q c:=by
 constructor
 ·intro hk;exact ret_of fun K hK=>h K (OwnS.lend h0) (fun _ v e' w' L hw hq=>hK _ _ ⟨e',hq,OwnS.back hw⟩) fun hn=>absurd hk hn
 ·intro hn;exact pan_of fun K hK=>h K (OwnS.lend h0) (fun hk=>absurd hk hn) fun _ e2 w' L hw=>hK _ _ ⟨rfl,e2,OwnS.back hw⟩
end
end Eng
section
variable {w:World}{PK:PKT}{K:VWP}{S:Nat→Prop}{w0:World}{L:List Ent}
end
section
variable {w:World}{PK:PKT}{K:VWP}{S:Nat→Prop}{w0:World}{L:List Ent}
end
section
variable {w:World}{PK:PKT}{K:VWP}{S:Nat→Prop}{w0:World}{L:List Ent}
end
end
section
open Go
namespace Bd
open Lx (next Tok)
def objW:List UInt8:=[111,98,106]
def endobj:List UInt8:=[101,110,100,111,98,106]
def streamW:List UInt8:=[115,116,114,101,97,109]
def endstream:List UInt8:=[101,110,100,115,116,114,101,97,109]
def num (s:List UInt8)(at_ lo hi:Int):Int×Int×Int:=
 if (next s at_).2≠0 then (0,0,(next s at_).2) else if (next s at_).1.k=0 then (0,0,4) else if (next s at_).1.k≠1 then (0,0,3)
 else if (next s at_).1.n < lo∨hi < (next s at_).1.n then (0,0,2) else ((next s at_).1.n,(next s at_).1.t,0)
def word (s:List UInt8)(at_:Int)(w:List UInt8):Int×Int:=
 if (next s at_).2≠0 then (0,(next s at_).2) else if (next s at_).1.k=0 then (0,4) else if (next s at_).1.k≠5∨(next s at_).1.s≠w then (0,3) else ((next s at_).1.t,0)
structure Hd where
 num:Int
 gen:Int
 t:Int
 e:Int
 deriving DecidableEq
def headG (s:List UInt8)(at_:Int):Hd:=
 if (num s at_ 1 8191).2.2≠0 then ⟨0,0,0,(num s at_ 1 8191).2.2⟩
 else if (num s (num s at_ 1 8191).2.1 0 65535).2.2≠0 then ⟨0,0,0,(num s (num s at_ 1 8191).2.1 0 65535).2.2⟩
 else if (word s (num s (num s at_ 1 8191).2.1 0 65535).2.1 objW).2≠0 then ⟨0,0,0,(word s (num s (num s at_ 1 8191).2.1 0 65535).2.1 objW).2⟩
 else ⟨(num s at_ 1 8191).1,(num s (num s at_ 1 8191).2.1 0 65535).1,(word s (num s (num s at_ 1 8191).2.1 0 65535).2.1 objW).1,0⟩
def head (s:List UInt8)(at_:Int):Hd:=if at_ < 0∨(s.length:Int) < at_ then ⟨0,0,0,1⟩ else headG s at_
def line (s:List UInt8)(at_:Nat):Nat×Int:=
 match s.drop at_ with
|[]=>(0,4)
|c::t=>if c=13∧t=[] then (0,4) else if c=10 then (at_+1,0) else if c=13∧t.head?=some 10 then (at_+2,0) else (0,3)
def own (o:Ob):Int×Int:=match Vl.get o Vl.lenK with
|none=>(0,3)
|some v=>if v.k≠2 then (0,10) else if v.n < 0 then (0,2) else (v.n,0)
def size (o:Ob)(length:Int):Int×Int:=if 0≤length then (length,0) else own o
def strm (o:Ob)(data:List UInt8):Ob:=.mk 9 (Vl.without o Vl.lenK).n (Vl.without o Vl.lenK).g data (Vl.without o Vl.lenK).keys (Vl.without o Vl.lenK).kids
def stream (s:List UInt8)(at_:Nat)(length:Int)(o:Ob):Ob×Int×Int:=
 if (line s at_).2≠0 then (Vl.ob0,0,(line s at_).2)
 else if (size o length).2≠0 then (Vl.ob0,0,(size o length).2)
 else if 1048576 < (size o length).1 then (Vl.ob0,0,5)
 else if (s.length:Int) - (line s at_).1 < (size o length).1 then (Vl.ob0,0,4)
 else if (word s ((line s at_).1+(size o length).1) endstream).2≠0 then (Vl.ob0,0,(word s ((line s at_).1+(size o length).1) endstream).2)
 else (strm o ((s.drop (line s at_).1).take (size o length).1.toNat),(word s ((line s at_).1+(size o length).1) endstream).1,0)
def bad (e:Int):It×Int×Int:=(Dk.it0,0,e)
def tail (s:List UInt8)(h:Hd)(o:Ob)(at_:Int):It×Int×Int:=
 if (word s at_ endobj).2≠0 then bad (word s at_ endobj).2 else (⟨h.num,h.gen,o⟩,(word s at_ endobj).1,0)
def body (s:List UInt8)(length:Int)(h:Hd)(o:Ob)(at_:Int):It×Int×Int:=
 if (word s at_ streamW).2=0∧o.k=7 then
  (if (stream s (word s at_ streamW).1.toNat length o).2.2≠0 then bad (stream s (word s at_ streamW).1.toNat length o).2.2
   else tail s h (stream s (word s at_ streamW).1.toNat length o).1 (stream s (word s at_ streamW).1.toNat length o).2.1)
 else tail s h o at_
def read (s:List UInt8)(at_ length:Int):It×Int×Int:=
 if at_ < 0∨(s.length:Int) < at_∨length < -1 then bad 1
 else if (head s at_).e≠0 then bad (head s at_).e
 else if (Ps.object s (head s at_).t).2.2≠0 then bad (Ps.object s (head s at_).t).2.2
 else if (Ps.object s (head s at_).t).1.k=8 then bad 10
 else body s length (head s at_) (Ps.object s (head s at_).t).1 (Ps.object s (head s at_).t).2.1
def length (s:List UInt8)(at_:Int):Ob×Int:=
 if (head s at_).e≠0 then (Vl.ob0,(head s at_).e)
 else if (Ps.object s (head s at_).t).2.2≠0 then (Vl.ob0,(Ps.object s (head s at_).t).2.2)
 else if (Ps.object s (head s at_).t).1.k≠7∨(word s (Ps.object s (head s at_).t).2.1 streamW).2≠0 then (Vl.ob0,0)
 else ((Vl.get (Ps.object s (head s at_).t).1 Vl.lenK).getD Vl.ob0,0)
def check (i:It):Int:=if Dk.numbers i=false then 2 else if Vl.check 1 i.obj≠0 then Vl.check 1 i.obj else if i.obj.k=8 then 10 else 0
def dictOf (o:Ob):Ob×Int:=Vl.set (.mk 7 0 0 [] o.keys o.kids) Vl.lenK (.mk 2 o.s.length 0 [] [] [])
def nl:List UInt8:=[10]
def headT (i:It):List UInt8:=Lib.itoa i.num++[32]++Lib.itoa i.gen++[32]++objW++nl
def text (i:It):List UInt8×Int:=
 if check i≠0 then ([],check i)
 else if i.obj.k=9 then
  (if (dictOf i.obj).2≠0 then ([],(dictOf i.obj).2)
   else if (Wr.text (dictOf i.obj).1).2≠0 then ([],(Wr.text (dictOf i.obj).1).2)
   else (headT i++(Wr.text (dictOf i.obj).1).1++nl++streamW++nl++i.obj.s++nl++endstream++nl++endobj++nl,0))
 else if (Wr.text i.obj).2≠0 then ([],(Wr.text i.obj).2)
 else (headT i++(Wr.text i.obj).1++nl++endobj++nl,0)
end Bd
end
section
open Go
namespace Lx
open Oc
end Lx
namespace Tl
open Lx (Tok Single skip)
open Ps (At Toks)
abbrev Pc:=List UInt8×List UInt8
def cat (l:List Pc):List UInt8:=l.flatMap fun p=>p.1++p.2
theorem skipF_ws {ws:List UInt8}(hw:ws.all Oc.white=true)(t:List UInt8):Lx.skipF false (ws++t)=ws.length+Lx.skipF false t:=by
 induction ws with
|nil=>simp
|cons c ws ih=>
  simp only[List.all_cons,Bool.and_eq_true] at hw;have h37:c≠37:=fun e=>by rw[e] at hw;exact absurd hw.1 (by decide)
  rw[List.cons_append,Lx.skipF,if_neg h37,if_pos hw.1,ih hw.2,List.length_cons];omega
theorem skip_ws {pre ws t:List UInt8}(hw:ws.all Oc.white=true)(ht:Lx.skipF false t=0):skip (pre++(ws++t)) pre.length=pre.length+ws.length:=by
 unfold Lx.skip;rw[List.drop_left,skipF_ws hw,ht];rfl
def Clean (t:List UInt8):Prop:=Lx.skipF false t=0
theorem clean_single {p t:List UInt8}{x:Tok}(h:Single p x):Clean (p++t):=by
 obtain⟨c,u,e,h37,hw,_⟩:=Lx.single_head h;unfold Clean;rw[e,List.cons_append,Lx.skipF,if_neg h37,if_neg (by rw[hw];decide)]
def Good (l:List Pc):Prop:=∀p∈l,(∃x,Single p.1 x)∧p.2≠[]∧p.2.all Oc.white=true
theorem clean_cat {l:List Pc}(h:Good l){t:List UInt8}(ht:Clean t):Clean (cat l++t):=by
 cases l with
|nil=>simpa[cat] using ht
|cons p l=>
  obtain⟨⟨x,hx⟩,_⟩:=h p List.mem_cons_self;have:cat (p::l)++t=p.1++(p.2++(cat l++t)):=by simp[cat]
  rw[this];exact clean_single hx
theorem stops_ws {ws t:List UInt8}(h0:ws≠[])(hw:ws.all Oc.white=true):Lx.stops (ws++t):=by
 cases ws with
|nil=>exact absurd rfl h0
|cons c ws=>
  simp only[List.all_cons,Bool.and_eq_true] at hw;refine Ps.stops_cons ?_;unfold Oc.regular;rw[hw.1];rfl
theorem cat_toks:∀(l:List Pc) (pre t:List UInt8) (a:Nat),Good l→Clean t→a≤pre.length→skip (pre++(cat l++t)) a=pre.length →
  ∃b:Nat,Toks (pre++(cat l++t)) a (l.map (·.1)) b∧a≤b∧b≤(pre++cat l).length∧skip (pre++(cat l++t)) b=(pre++cat l).length
|[],pre,t,a,_,_,ha,hs=>⟨a,rfl,Nat.le_refl _,by simpa[cat] using ha,by simpa[cat] using hs⟩
|p::l,pre,t,a,hg,hc,ha,hs=>by
  obtain⟨⟨x,hx⟩,hne,hw⟩:=hg p List.mem_cons_self;have hgl:Good l:=fun q hq=>hg q (List.mem_cons_of_mem _ hq);have e1:pre++(cat (p::l)++t)=pre++(p.1++(p.2++(cat l++t))):=by simp[cat]
  have e2:pre++(cat (p::l)++t)=(pre++p.1)++(p.2++(cat l++t)):=by simp[cat]
  have e3:pre++(cat (p::l)++t)=(pre++p.1++p.2)++(cat l++t):=by simp[cat]
  have hA:At (pre++(cat (p::l)++t)) a p.1 ((pre.length:Int)+p.1.length):=by
   rw[e1] at hs ⊢;exact Ps.at_of hx pre _ (Ps.ends_stop (stops_ws hne hw)) (by simp only[List.length_append];omega) hs
  have hsk:skip (pre++(cat (p::l)++t)) (pre++p.1).length=(pre++p.1++p.2).length:=by
   rw[e2,skip_ws hw (clean_cat hgl hc)];simp;omega
  rw[e3] at hsk hA;obtain⟨b,h1,h2,h3,h4⟩:=cat_toks l (pre++p.1++p.2) t (pre++p.1).length hgl hc (by simp) hsk;have hlen:(pre++p.1++p.2++cat l).length=(pre++cat (p::l)).length:=by simp[cat]
  rw[e3];refine⟨b,⟨_,hA,?_⟩,?_,by rw[←hlen];exact h3,by rw[h4,hlen]⟩
  ·have:((pre.length:Int)+p.1.length)=((pre++p.1).length:Nat):=by simp
   rw[this];exact h1
  ·have:a≤(pre++p.1).length:=by simp;omega
   omega
end Tl
end
section
open Go
namespace Tl
open Lx (Tok Single skip next)
open Ps (At Toks)
theorem itoa_single {n:Int}(h0:0≤n)(h1:n≤2147483647):Single (Lib.itoa n) ⟨1,0,(Lib.itoa n).length,n,[]⟩:=⟨Lx.itoa_next (by omega) h1,by simp,rfl,rfl⟩
end Tl
end
section
open Go
namespace Bd
open Lx (next Tok Single skip)
open Ps (At Toks)
open Tl (Pc cat)
theorem tk_obj:Single objW ⟨5,0,3,0,objW⟩:=by unfold Single;decide +kernel
theorem tk_endobj:Single endobj ⟨5,0,6,0,endobj⟩:=by unfold Single;decide +kernel
theorem tk_stream:Single streamW ⟨5,0,6,0,streamW⟩:=by unfold Single;decide +kernel
theorem tk_endstream:Single endstream ⟨5,0,9,0,endstream⟩:=by unfold Single;decide +kernel
theorem at_num {s:List UInt8}{a b n lo hi:Int}{p:List UInt8}(h:At s a p b){t:Int}(hx:Single p ⟨1,0,t,n,[]⟩)(h1:lo≤n)(h2:n≤hi):num s a lo hi=(n,b,0):=by
 obtain⟨a',e⟩:=h.next hx
 unfold num;rw[e];simp only;rw[if_neg (by simp),if_neg (by simp),if_neg (by simp),if_neg (by omega)]
theorem at_word {s:List UInt8}{a b:Int}{p w:List UInt8}(h:At s a p b){x:Tok}(hx:Single p x)(hk:x.k=5)(hs:x.s=w):word s a w=(b,0):=by
 obtain⟨a',e⟩:=h.next hx
 unfold word;rw[e];simp only;rw[if_neg (by simp),if_neg (by omega),if_neg (by simp[hk,hs])]
theorem at_noword {s:List UInt8}{a b:Int}{p w:List UInt8}(h:At s a p b){x:Tok}(hx:Single p x)(hk:x.k=5)(hs:x.s≠w):word s a w=(0,3):=by
 obtain⟨a',e⟩:=h.next hx
 unfold word;rw[e];simp only;rw[if_neg (by simp),if_neg (by omega),if_pos (.inr hs)]
def headP (i:It):List Pc:=[(Lib.itoa i.num,[32]),(Lib.itoa i.gen,[32]),(objW,nl)]
theorem headP_cat (i:It):cat (headP i)=headT i:=by simp[cat,headP,headT,nl]
theorem good_headP {i:It}(h1:1≤i.num∧i.num≤8191)(h2:0≤i.gen∧i.gen≤65535):Tl.Good (headP i):=by
 intro p hp;simp only[headP,List.mem_cons,List.not_mem_nil,or_false] at hp;rcases hp with rfl|rfl|rfl
 ·exact⟨⟨_,Tl.itoa_single (by omega) (by omega)⟩,by simp,by show ([32]:List UInt8).all Oc.white=true;decide⟩
 ·exact⟨⟨_,Tl.itoa_single (by omega) (by omega)⟩,by simp,by show ([32]:List UInt8).all Oc.white=true;decide⟩
 ·exact⟨⟨_,tk_obj⟩,by simp[nl],by decide⟩
theorem clean_join {o:Ob}{d:Nat}(h:Vl.check d o=0)(t:List UInt8):Tl.Clean (Lx.joinR 32 (Wr.parts o)++t):=by
 have hsing:=Wr.parts_single o d h;have hp:=Ps.parts_pos o;cases hps:Wr.parts o with
|nil=>rw[hps] at hp;simp at hp
|cons p ps=>
  obtain⟨x,hx⟩:=hsing p (by rw[hps];exact List.mem_cons_self);have e:Lx.gap 32 p=[]:=by
   unfold Lx.gap;rw[if_neg];intro h;have:Oc.regular 32=false:=by decide
   simp[this] at h
  rw[Lx.joinR,e,List.nil_append,List.append_assoc];exact Tl.clean_single hx
theorem frontT {i:It}{o:Ob}(h1:1≤i.num∧i.num≤8191)(h2:0≤i.gen∧i.gen≤65535)(hc:Vl.check 1 o=0)(h9:o.k≠9)(pre:List UInt8){q:List UInt8}{x:Tok}(hq:Single q x)(hqi:x.k≠1)(m:List UInt8)(hm:Ps.Ends q m) :
  ∃c:Nat,c=pre.length+(headT i++Pl.join (Wr.parts o)).length∧head (pre++(headT i++(Pl.join (Wr.parts o)++(nl++(q++m))))) pre.length=⟨i.num,i.gen,(head (pre++(headT i++(Pl.join (Wr.parts o)++(nl++(q++m))))) pre.length).t,0⟩ ∧
   Ps.object (pre++(headT i++(Pl.join (Wr.parts o)++(nl++(q++m))))) (head (pre++(headT i++(Pl.join (Wr.parts o)++(nl++(q++m))))) pre.length).t=(o,(c:Int),0) ∧
   At (pre++(headT i++(Pl.join (Wr.parts o)++(nl++(q++m))))) c q ((c:Int)+1+q.length):=by
 have hsing:=Wr.parts_single o 1 hc;have hne:∀p∈Wr.parts o,p≠[]:=fun p hp=>by obtain⟨x,hx⟩:=hsing p hp;exact Ps.single_ne hx
 have hjoin:Pl.join (Wr.parts o)=Lx.joinR 32 (Wr.parts o):=Lx.join_joinR _ hne;rw[hjoin];obtain⟨S,hS⟩:∃S,S=pre++(headT i++(Lx.joinR 32 (Wr.parts o)++(nl++(q++m)))):=⟨_,rfl⟩;rw[←hS];have hS1:S=pre++(cat (headP i)++(Lx.joinR 32 (Wr.parts o)++(nl++(q++m)))):=by rw[hS,headP_cat]
 have hS2:S=(pre++cat (headP i))++(Lx.joinR 32 (Wr.parts o)++(nl++(q++m))):=by rw[hS1];simp
 have hS3:S=(pre++cat (headP i)++Lx.joinR 32 (Wr.parts o)++nl)++(q++m):=by rw[hS1];simp
 have hg:=good_headP h1 h2;obtain⟨x0,hx0⟩:=(hg (Lib.itoa i.num,[32]) (by simp[headP])).1;have hsk0:skip S pre.length=pre.length:=by
  obtain⟨c,u,e,h37,hw,_⟩:=Lx.single_head hx0;have hc2:cat (headP i)=c::(u++([32]++cat [(Lib.itoa i.gen,[32]),(objW,nl)])):=by
   have:Lib.itoa i.num=c::u:=e;simp[cat,headP,this]
  rw[hS1,hc2,List.cons_append];exact Ps.skip_here h37 hw
 obtain⟨b,t1,t2,t3,t4⟩:=Tl.cat_toks (headP i) pre _ pre.length hg (clean_join hc _) (Nat.le_refl _) (by rw[←hS1];exact hsk0);rw[←hS1] at t1 t4;have hmap:(headP i).map (·.1)=[Lib.itoa i.num,Lib.itoa i.gen,objW]:=rfl;rw[hmap] at t1;obtain⟨p,ps,hps,_,_,_⟩:=Ps.parts_head hc;have hT:Toks S b (Wr.parts o) (((pre++cat (headP i)).length:Int)+(Lx.joinR 32 (Wr.parts o)).length):=by
  rw[hps];rw[hS2,hps];refine Ps.joins_toks ps p (pre++cat (headP i)) 32 (nl++(q++m)) b ?_ (Ps.ends_stop (Tl.stops_ws (by simp[nl]) (by decide))) ?_ ?_
  ·rw[←hps];exact hsing
  ·simp only[List.length_append] at t3 ⊢;omega
  ·rw[←hps,←hS2,t4];have e:Lx.gap 32 p=[]:=by
    unfold Lx.gap;rw[if_neg];intro h;have:Oc.regular 32=false:=by decide
    simp[this] at h
   rw[e,List.append_nil]
 have hbd:=Ps.toks_bd (by rw[hps];simp) hT;have hsk2:skip S ((pre++cat (headP i)).length+(Lx.joinR 32 (Wr.parts o)).length)=(pre++cat (headP i)++Lx.joinR 32 (Wr.parts o)++nl).length:=by
  have:=Tl.skip_ws (pre:=pre++cat (headP i)++Lx.joinR 32 (Wr.parts o)) (ws:=nl) (t:=q++m) (by decide) (Tl.clean_single hq);rw[show pre++cat (headP i)++Lx.joinR 32 (Wr.parts o)++(nl++(q++m))=S by rw[hS1];simp] at this;have e1:(pre++cat (headP i)++Lx.joinR 32 (Wr.parts o)).length=(pre++cat (headP i)).length+(Lx.joinR 32 (Wr.parts o)).length:=List.length_append;rw[←e1,this];simp only[List.length_append,Nat.add_assoc]
 have hA:At S ((pre++cat (headP i)).length+(Lx.joinR 32 (Wr.parts o)).length:Nat) q (((pre++cat (headP i)).length+(Lx.joinR 32 (Wr.parts o)).length:Nat)+1+q.length):=by
  rw[hS3];have:=Ps.at_of hq (pre++cat (headP i)++Lx.joinR 32 (Wr.parts o)++nl) m hm (a:=(pre++cat (headP i)).length+(Lx.joinR 32 (Wr.parts o)).length) (by simp only[List.length_append];omega) (by rw[←hS3];exact hsk2);have e:(((pre++cat (headP i)++Lx.joinR 32 (Wr.parts o)++nl).length:Nat):Int)+q.length=((pre++cat (headP i)).length+(Lx.joinR 32 (Wr.parts o)).length:Nat)+1+q.length:=by
   simp only[List.length_append,nl,List.length_cons,List.length_nil];omega
  rw[←e];exact this
 have hobj:Ps.object S b=(o,((pre++cat (headP i)).length:Int)+(Lx.joinR 32 (Wr.parts o)).length,0):=by
  unfold Ps.object;rw[if_neg (by omega)];refine Ps.obj_back S o.wt o 1 (Nat.le_refl _) (by omega) hc h9 b _ hT fun _=>?_;have:=Ps.noRef_head hA (Ps.notI_of hq hqi);simpa using this
 obtain⟨c1,g1,c2,g2,c3,g3,g4⟩:=t1;have g4:c3=b:=g4;subst g4;have hh:head S pre.length=⟨i.num,i.gen,b,0⟩:=by
  have hp:(pre.length:Int)≤S.length:=by rw[hS];simp only[List.length_append];omega
  unfold head;rw[if_neg (by omega)];unfold headG;rw[at_num g1 (Tl.itoa_single (by omega) (by omega)) h1.1 h1.2];simp only;rw[at_num g2 (Tl.itoa_single (by omega) (by omega)) h2.1 h2.2];simp only;rw[Bd.at_word g3 tk_obj rfl rfl];simp
 rw[hh];refine⟨pre.length+(headT i++Lx.joinR 32 (Wr.parts o)).length,rfl,rfl,?_,?_⟩
 ·simp only;rw[hobj,headP_cat];simp only[List.length_append,Prod.mk.injEq,true_and,and_true];omega
 ·have e:pre.length+(headT i++Lx.joinR 32 (Wr.parts o)).length=(pre++cat (headP i)).length+(Lx.joinR 32 (Wr.parts o)).length:=by
   rw[headP_cat];simp only[List.length_append];omega
  rw[e];exact hA
theorem check_ok {i:It}(h:check i=0):(1≤i.num∧i.num≤8191)∧(0≤i.gen∧i.gen≤65535)∧Vl.check 1 i.obj=0∧i.obj.k≠8:=by
 unfold check at h;split at h
 ·cases h
 rename_i h1
 split at h
 ·rename_i h2;exact absurd h h2
 rename_i h2
 split at h
 ·cases h
 rename_i h3
 simp only[Dk.numbers,Bool.not_eq_false,Bool.and_eq_true,decide_eq_true_eq] at h1;exact⟨by omega,by omega,Classical.not_not.1 h2,h3⟩
theorem stops_nl (t:List UInt8):Lx.stops (nl++t):=Tl.stops_ws (by simp[nl]) (by decide)
theorem back_plain {i:It}(hc:check i=0)(h9:i.obj.k≠9)(pre post:List UInt8){len:Int}(hl:-1≤len) :
  (text i).2=0∧read (pre++((text i).1++post)) pre.length len=(i,(pre.length:Int)+(text i).1.length - 1,0)∧length (pre++((text i).1++post)) pre.length=(Vl.ob0,0):=by
 obtain⟨h1,h2,hv,h8⟩:=check_ok hc;have hwt:Wr.text i.obj=(Pl.join (Wr.parts i.obj),0):=by
  unfold Wr.text;rw[if_neg (by simp[hv]),if_neg (by omega)]
 have ht:text i=(headT i++Pl.join (Wr.parts i.obj)++nl++endobj++nl,0):=by
  unfold text;rw[if_neg (by simp[hc]),if_neg (by omega),hwt,if_neg (by simp)]
 have hS:pre++((text i).1++post)=pre++(headT i++(Pl.join (Wr.parts i.obj)++(nl++(endobj++(nl++post))))):=by rw[ht];simp
 obtain⟨c,e1,e2,e3,e4⟩:=frontT h1 h2 hv (by omega) pre tk_endobj (by decide) (nl++post) (Ps.ends_stop (stops_nl post));have hlen:(text i).1.length=(headT i++Pl.join (Wr.parts i.obj)).length+8:=by
  rw[ht];simp[nl,endobj];omega
 refine⟨by rw[ht],?_,?_⟩
 ·rw[hS,hlen];generalize pre++(headT i++(Pl.join (Wr.parts i.obj)++(nl++(endobj++(nl++post)))))=S at *;have hb:=e4.bd;unfold read;rw[if_neg (by omega)];generalize head S pre.length=h at *;rw[e2,e3];simp only;rw[if_neg (by simp),if_neg (by simp),if_neg h8];unfold body;rw[at_noword e4 tk_endobj rfl (by decide),if_neg (by simp)];unfold tail;rw[Bd.at_word e4 tk_endobj rfl rfl];simp only;rw[if_neg (by simp)];simp only[endobj,List.length_cons,List.length_nil,Prod.mk.injEq,and_true,true_and];omega
 ·rw[hS];generalize pre++(headT i++(Pl.join (Wr.parts i.obj)++(nl++(endobj++(nl++post)))))=S at *;unfold length;generalize head S pre.length=h at *;rw[e2,e3];simp only;rw[if_neg (by simp),if_neg (by simp),if_pos (.inr (by rw[at_noword e4 tk_endobj rfl (by decide)];simp))]
theorem lenK_out {o:Ob}(h:Vl.check 1 o=0)(h9:o.k=9):Vl.lenK ∉ o.keys:=by
 obtain⟨⟨_,_,_,_,_,_,a7⟩,_⟩:=Vl.check_iff.1 h;have hr:Vl.rising o=true:=by
  unfold Vl.form at a7;simp only[Bool.and_eq_true] at a7;have:=a7.2;rw[decide_eq_true (Or.inr h9:o.k=7∨o.k=9)] at this;simpa using this
 obtain⟨_,_,r3,_⟩:=Vl.rising_iff.1 hr;exact fun hm=>(r3 _ hm).2 h9 rfl
theorem back_stream {i:It}(hc:check i=0)(h9:i.obj.k=9)(ht2:(text i).2=0)(pre post:List UInt8){len:Int}(hl:len=-1∨len=i.obj.s.length) :
  read (pre++((text i).1++post)) pre.length len=(i,(pre.length:Int)+(text i).1.length - 1,0)∧length (pre++((text i).1++post)) pre.length=(.mk 2 i.obj.s.length 0 [] [] [],0):=by
 obtain⟨h1,h2,hv,h8⟩:=check_ok hc;obtain⟨⟨a1,a2,a3,a4,a5,a6,a7⟩,hkids⟩:=Vl.check_iff.1 hv;have hD:(dictOf i.obj).2=0:=by
  unfold text at ht2;rw[if_neg (by simp[hc]),if_pos h9] at ht2;split at ht2
  ·rename_i h;exact absurd ht2 h
  ·rename_i h;exact Classical.not_not.1 h
 obtain⟨D,hDe⟩:∃D,D=(dictOf i.obj).1:=⟨_,rfl⟩;obtain⟨d,hd⟩:∃d,d=Ob.mk 7 0 0 [] i.obj.keys i.obj.kids:=⟨_,rfl⟩;obtain⟨v,hvv⟩:∃v,v=Ob.mk 2 i.obj.s.length 0 [] [] []:=⟨_,rfl⟩;have hset:dictOf i.obj=Vl.set d Vl.lenK v:=by rw[hd,hvv];rfl
 have hdk:Vl.keyed d=true:=by rw[hd];rfl
 -- the dictionary
 have hdput:Vl.check 1 d=0∧D=Vl.put d Vl.lenK v∧Vl.check 1 D=0:=by
  rw[hset] at hD hDe;unfold Vl.set at hD hDe;rw[if_neg (by simp[hdk])] at hD hDe;split at hD
  ·rename_i h;exact absurd hD h
  rename_i h
  have hd0:Vl.check 1 d=0:=Classical.not_not.1 h;rw[if_neg h,if_neg (by rw[hvv];simp[Ob.k])] at hDe;rw[if_neg (by rw[hvv];simp[Ob.k])] at hD;unfold Vl.right at hD hDe;split at hD
  ·rename_i h';exact absurd hD h'
  rename_i h'
  rw[if_neg h'] at hDe;exact⟨hd0,hDe,by rw[hDe];exact Classical.not_not.1 h'⟩
 obtain⟨hd0,hDput,hDc⟩:=hdput;have hlen:d.keys.length=d.kids.length:=(Vl.valid_keys hd0 hdk).2;have hDk:D.k=7:=by rw[hDput,hd];rfl
 have hget:Vl.get D Vl.lenK=some v:=by rw[hDput];exact Vl.get_put hdk hlen
 have hwo:Vl.without D Vl.lenK=d:=by
  rw[hDput,Vl.without_put hlen];have hout:Vl.lenK ∉ d.keys:=by rw[hd];show Vl.lenK ∉ i.obj.keys;exact lenK_out hv h9
  unfold Vl.without;rw[Vl.dropK_none hlen hout];rw[hd];rfl
 have hstrm:strm D i.obj.s=i.obj:=by
  unfold strm;rw[hwo,hd];obtain⟨b1,b2,b3,b4⟩:i.obj.n=0∧i.obj.g=0∧i.obj.k=9∧True:=by
   have hu:=a2;unfold Vl.usesOk at hu;rw[h9] at hu;simp only[Vl.used,Bool.and_eq_true,Bool.or_eq_true,Bool.false_eq_true,false_or,decide_eq_true_eq,true_or,and_true] at hu;exact⟨by simp_all,by simp_all,h9,trivial⟩
  obtain⟨num,gen,ob⟩:=i;obtain⟨k,n,g,s,ks,cs⟩:=ob;simp only[Ob.n,Ob.g,Ob.k] at b1 b2 b3;subst b1;subst b2;subst b3;rfl
 have hwt:Wr.text D=(Pl.join (Wr.parts D),0):=by
  unfold Wr.text;rw[if_neg (by simp[hDc]),if_neg (by omega)]
 have ht:text i=(headT i++Pl.join (Wr.parts D)++nl++streamW++nl++i.obj.s++nl++endstream++nl++endobj++nl,0):=by
  unfold text;rw[if_neg (by simp[hc]),if_pos h9,if_neg (by simp[hD]),←hDe,hwt,if_neg (by simp)]
 obtain⟨R,hR⟩:∃R,R=nl++(endstream++(nl++(endobj++(nl++post)))):=⟨_,rfl⟩;have hS:pre++((text i).1++post)=pre++(headT i++(Pl.join (Wr.parts D)++(nl++(streamW++(nl++(i.obj.s++R)))))):=by rw[ht,hR];simp
 obtain⟨c,e0,e2,e3,e4⟩:=frontT h1 h2 hDc (by omega) pre tk_stream (by decide) (nl++(i.obj.s++R)) (Ps.ends_stop (stops_nl _));obtain⟨S,hSe⟩:∃S,S=pre++(headT i++(Pl.join (Wr.parts D)++(nl++(streamW++(nl++(i.obj.s++R)))))):=⟨_,rfl⟩;have hS5:S=(pre++headT i++Pl.join (Wr.parts D)++nl++streamW)++(nl++(i.obj.s++R)):=by rw[hSe];simp
 have hS6:S=(pre++headT i++Pl.join (Wr.parts D)++nl++streamW++nl)++(i.obj.s++R):=by rw[hSe];simp
 have hS7:S=(pre++headT i++Pl.join (Wr.parts D)++nl++streamW++nl++i.obj.s++nl)++(endstream++(nl++(endobj++(nl++post)))):=by rw[hSe,hR];simp
 have hS8:S=(pre++headT i++Pl.join (Wr.parts D)++nl++streamW++nl++i.obj.s++nl++endstream++nl)++(endobj++(nl++post)):=by rw[hSe,hR];simp
 have hp1:(pre++headT i++Pl.join (Wr.parts D)++nl++streamW).length=c+7:=by rw[e0];simp only[List.length_append,nl,streamW,List.length_cons,List.length_nil];omega
 have hp2:(pre++headT i++Pl.join (Wr.parts D)++nl++streamW++nl).length=c+8:=by rw[List.length_append,hp1];rfl
 have hp3:(pre++headT i++Pl.join (Wr.parts D)++nl++streamW++nl++i.obj.s++nl).length=c+8+i.obj.s.length+1:=by rw[List.length_append,List.length_append,hp2];rfl
 have hp4:(pre++headT i++Pl.join (Wr.parts D)++nl++streamW++nl++i.obj.s++nl++endstream++nl).length=c+8+i.obj.s.length+11:=by rw[List.length_append,List.length_append,hp3];rfl
 have hSl:S.length=c+8+i.obj.s.length+11+(6+(1+post.length)):=by rw[hS8,List.length_append,hp4];simp[endobj,nl];omega
 have htl:(text i).1.length+pre.length=c+8+i.obj.s.length+18:=by
  have:=congrArg List.length hS;rw[←hSe,hSl] at this;simp only[List.length_append] at this;omega
 -- the words behind the data
 have hA5:At S (c+8+i.obj.s.length:Nat) endstream ((c+8+i.obj.s.length+1:Nat)+endstream.length):=by
  have hsk:skip S (c+8+i.obj.s.length)=c+8+i.obj.s.length+1:=by
   have:=Tl.skip_ws (pre:=pre++headT i++Pl.join (Wr.parts D)++nl++streamW++nl++i.obj.s) (ws:=nl) (t:=endstream++(nl++(endobj++(nl++post)))) (by decide) (Tl.clean_single tk_endstream);rw[show (pre++headT i++Pl.join (Wr.parts D)++nl++streamW++nl++i.obj.s)++(nl++(endstream++(nl++(endobj++(nl++post)))))=S by rw[hS7];simp] at this;rw[List.length_append,hp2] at this;rw[this];rfl
  rw[hS7];have:=Ps.at_of tk_endstream (pre++headT i++Pl.join (Wr.parts D)++nl++streamW++nl++i.obj.s++nl) (nl++(endobj++(nl++post))) (Ps.ends_stop (stops_nl _)) (a:=c+8+i.obj.s.length) (by rw[←hS7];omega) (by rw[←hS7,hsk,hp3]);rw[hp3] at this;exact this
 have hA6:At S ((c+8+i.obj.s.length+1:Nat)+endstream.length:Int) endobj ((c+8+i.obj.s.length+11:Nat)+endobj.length):=by
  have e:((c+8+i.obj.s.length+1:Nat)+endstream.length:Int)=((c+8+i.obj.s.length+10:Nat):Int):=by simp only[endstream,List.length_cons,List.length_nil];omega
  rw[e];have hsk:skip S (c+8+i.obj.s.length+10)=c+8+i.obj.s.length+11:=by
   have hp5:(pre++headT i++Pl.join (Wr.parts D)++nl++streamW++nl++i.obj.s++nl++endstream).length=c+8+i.obj.s.length+10:=by rw[List.length_append,hp3];rfl
   have:=Tl.skip_ws (pre:=pre++headT i++Pl.join (Wr.parts D)++nl++streamW++nl++i.obj.s++nl++endstream) (ws:=nl) (t:=endobj++(nl++post)) (by decide) (Tl.clean_single tk_endobj);rw[show (pre++headT i++Pl.join (Wr.parts D)++nl++streamW++nl++i.obj.s++nl++endstream)++(nl++(endobj++(nl++post)))=S by rw[hS8];simp,hp5] at this;rw[this];rfl
  rw[hS8];have:=Ps.at_of tk_endobj (pre++headT i++Pl.join (Wr.parts D)++nl++streamW++nl++i.obj.s++nl++endstream++nl) (nl++post) (Ps.ends_stop (stops_nl _)) (a:=c+8+i.obj.s.length+10) (by rw[←hS8];omega) (by rw[←hS8,hsk,hp4]);rw[hp4] at this;exact this
 have hline:line S (c+7)=(c+8,0):=by
  have hdr:S.drop (c+7)=10::(i.obj.s++R):=by rw[hS5,←hp1,List.drop_left];rfl
  unfold line;rw[hdr];simp only;rw[if_neg (by simp),if_pos trivial]
 have hsize:size D len=((i.obj.s.length:Int),0):=by
  unfold size;rcases hl with rfl|rfl
  ·rw[if_neg (by omega)];unfold own;rw[hget,hvv];exact (if_neg (by simp[Ob.k])).trans (if_neg (by show ¬((i.obj.s.length:Int) < 0);omega))
  ·rw[if_pos (by omega)]
 have hsl:(i.obj.s.length:Int)≤1048576:=by
  have:Vl.long 9≤1048576:=by decide
  rw[h9] at a5;omega
 have hstream:stream S (c+7) len D=(i.obj,((c+8+i.obj.s.length+1:Nat)+endstream.length:Int),0):=by
  unfold stream;rw[hline,hsize];simp only;rw[if_neg (by simp),if_neg (by simp),if_neg (by omega),if_neg (by omega)];have hw:=Bd.at_word hA5 tk_endstream rfl rfl;rw[show ((c+8+i.obj.s.length:Nat):Int)=((c+8:Nat):Int)+(i.obj.s.length:Int) by omega] at hw;rw[hw,if_neg (by simp)];have hdata:(S.drop (c+8)).take (i.obj.s.length:Int).toNat=i.obj.s:=by
   rw[hS6,←hp2,List.drop_left,Int.toNat_natCast,List.take_left]
  rw[hdata,hstrm]
 rw[hS];rw[←hSe] at e2 e3 e4 ⊢;have hb:=e4.bd;constructor
 ·unfold read;rw[if_neg (by omega)];generalize head S pre.length=h at *;rw[e2,e3];simp only;rw[if_neg (by simp),if_neg (by simp),if_neg (by omega)];unfold body;rw[Bd.at_word e4 tk_stream rfl rfl];simp only;rw[if_pos ⟨trivial,hDk⟩];have e7:((c:Int)+1+(streamW.length:Int)).toNat=c+7:=by simp only[streamW,List.length_cons,List.length_nil];omega
  rw[e7,hstream];simp only;rw[if_neg (by simp)];unfold tail;rw[Bd.at_word hA6 tk_endobj rfl rfl];simp only;rw[if_neg (by simp)];simp only[endobj,List.length_cons,List.length_nil,Prod.mk.injEq,and_true];refine⟨trivial,by omega⟩
 ·unfold length;generalize head S pre.length=h at *;rw[e2,e3];simp only;rw[if_neg (by simp),if_neg (by simp),if_neg (by rw[Bd.at_word e4 tk_stream rfl rfl];simp[hDk]),hget,hvv];rfl
end Bd
end
end Go.Proofs.YtkejpieaafeblaaGreatDoor
